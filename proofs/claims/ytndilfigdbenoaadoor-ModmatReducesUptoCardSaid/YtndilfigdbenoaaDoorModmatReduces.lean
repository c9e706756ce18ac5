
/-
  The walk of similelaw10.ModmatReduces.
-/
import Derived.Test.YtndilfigdbenoaaDoorMm16
import Derived.Test.YtndilfigdbenoaaDoorMmOpen
import Derived.Test.YtndilfigdbenoaaDoorLT
set_option linter.unusedVariables false
set_option linter.unusedSimpArgs false
set_option maxRecDepth 100000
set_option maxHeartbeats 16000000
namespace Go.Proofs.YtndilfigdbenoaaDoor
open Go.RowKit
theorem red_facts {p : Nat} {M N : List (List Nat)} {T : List Nat} (hp : MR.Pr p) (hr : RectM M) (h : redTo p (modM p M) (colsM M) = (N, T)) : Shp p (colsM M) N ∧ N.length = M.length ∧ T.length ≤ M.length ∧ T.length ≤ colsM M ∧ rkP p M = T.length := by
  have hp0 : 0 < p := by have := hp.1; omega
  obtain ⟨i1, i2, i3, i4, i5⟩ := redTo_inv (hr.shp hp0) hp0 (colsM M)
  rw [h] at i1 i2 i3 i4
  simp only at i1 i2 i3 i4
  rw [modM_len] at i1 i3
  exact ⟨i2, i1, i3, i4, by unfold rkP; rw [h]⟩
theorem kerP_small {p : Nat} {M : List (List Nat)} (hp : MR.Pr p) (hc : colsM M ≤ 1048576) : SmallM (kerP p M) := by
 have h1 := kerM_le (p := p) (C := colsM M) (R := (redTo p (modM p M) (colsM M)).1) (P := (redTo p (modM p M) (colsM M)).2) (colsM M)
 have h2 : ∀ c, ∀ x ∈ kerM p (colsM M) (redTo p (modM p M) (colsM M)).1 (redTo p (modM p M) (colsM M)).2 c, x.length = colsM M := by
  intro c
  induction c with
  | zero => intro x hx; cases hx
  | succ c ih =>
   intro x hx
   rw [kerM] at hx
   split at hx
   ·exact ih x hx
   ·rcases List.mem_append.1 hx with hx | hx
    ·exact ih x hx
    ·rw [List.mem_singleton.1 hx]; exact kerTo_len _
 exact ⟨by unfold kerP; omega, fun x hx => by rw [h2 _ x hx]; exact hc⟩
theorem modmatReduces_40 {pm : Option Addr} {nm cm p : Nat} {M : List (List Nat)} {w : World} (ht : Tb w) (hm : MS w pm nm M) (hp2 : p < 4294967296) (hs : SmallM M) (hp : ¬ MR.Pr p) :
  Calls Tryd.prog 9 #[.slice pm nm cm, .int .u32 ((p : Nat) : Int)] w (Ret (Is (.bool true)) w) := by
 obtain rfl := hm.1
 have hsl := hs.1
 have hS := Sep.init w
 refine went Tryd.func9 rfl (n := 113) rfl rfl ?_
 refine wseq (wreg (wl rfl (oassign (v := .bool false) rfl rfl evc ?_)))
 refine wnil (thenN (wseq (wreg (wl rfl (omove (v := .slice pm M.length cm) rfl rfl (ev rfl rfl) ?_)))))
 refine wl rfl (ocall rfl rfl Tryd.call20 rfl (wlown (hm.at hS) hs) (args1 (ev rfl rfl)) ?_)
 rintro _ w1 ⟨_, _, rfl, ⟨pX1, cX1, QX1, hQX1, rfl, rfl⟩, hN⟩
 refine ⟨_, rfl, ?_⟩
 replace hS := hS.news hN; clear hN
 refine wl rfl (oassign (v := .slice pX1 M.length cX1) rfl rfl (ev rfl rfl) ?_)
 refine wnil (thenN (wseq (wreg (wl rfl (omove (v := .slice pX1 M.length cX1) rfl rfl (ev rfl rfl) ?_)))))
 refine wl rfl (omove (v := .int .u32 (p : Int)) rfl rfl (ev rfl rfl) ?_)
 refine wl rfl (ocall rfl rfl Tryd.call17 rfl (wxreduceA40 (ht.at hS) (show MS _ pX1 M.length M from by have h9 := hS.ms (n := M.length) 0 rfl (by simp only [maxLen]; omega); rwa [hQX1] at h9) hp2 hs hp) (args2 (ev rfl rfl) (ev rfl rfl)) ?_)
 rintro _ w2 ⟨_, _, rfl, ⟨rfl, rfl⟩, hN⟩
 refine ⟨_, rfl, ?_⟩
 replace hS := hS.news hN; clear hN
 refine wl rfl (omove (v := .tuple #[.slice none 0 0, .slice none 0 0, .int .i64 40]) rfl rfl (ev rfl rfl) ?_)
 refine wl rfl (oextract (vs := [.slice none 0 0, .slice none 0 0, .int .i64 40]) (v := .slice none 0 0) rfl rfl (ev rfl rfl) rfl ?_)
 refine wl rfl (oextract (vs := [.slice none 0 0, .slice none 0 0, .int .i64 40]) (v := .slice none 0 0) rfl rfl (ev rfl rfl) rfl ?_)
 refine wl rfl (oextract (vs := [.slice none 0 0, .slice none 0 0, .int .i64 40]) (v := .int .i64 40) rfl rfl (ev rfl rfl) rfl ?_)
 refine wl rfl (oassign (v := .slice none 0 0) rfl rfl (ev rfl rfl) ?_)
 refine wl rfl (oassign (v := .slice none 0 0) rfl rfl (ev rfl rfl) ?_)
 refine wl rfl (oassign (v := .int .i64 40) rfl rfl (ev rfl rfl) ?_)
 refine wnil (thenN (wseq (wreg (wl rfl (omove (v := .slice pX1 M.length cX1) rfl rfl (ev rfl rfl) ?_)))))
 refine wl rfl (omove (v := .int .u32 (p : Int)) rfl rfl (ev rfl rfl) ?_)
 refine wl rfl (ocall rfl rfl Tryd.call21 rfl (wxrank40 (ht.at hS) (show MS _ pX1 M.length M from by have h9 := hS.ms (n := M.length) 0 rfl (by simp only [maxLen]; omega); rwa [hQX1] at h9) hp2 hs hp) (args2 (ev rfl rfl) (ev rfl rfl)) ?_)
 rintro _ w3 ⟨_, _, rfl, ⟨rfl, rfl⟩, hN⟩
 refine ⟨_, rfl, ?_⟩
 replace hS := hS.news hN; clear hN
 refine wl rfl (omove (v := .tuple #[.int .i64 0, .int .i64 40]) rfl rfl (ev rfl rfl) ?_)
 refine wl rfl (oextract (vs := [.int .i64 0, .int .i64 40]) (v := .int .i64 0) rfl rfl (ev rfl rfl) rfl ?_)
 refine wl rfl (oextract (vs := [.int .i64 0, .int .i64 40]) (v := .int .i64 40) rfl rfl (ev rfl rfl) rfl ?_)
 refine wl rfl (oassign (v := .int .i64 0) rfl rfl (ev rfl rfl) ?_)
 refine wl rfl (oassign (v := .int .i64 40) rfl rfl (ev rfl rfl) ?_)
 refine wnil (thenN (wseq (wreg (wl rfl (omove (v := .slice pX1 M.length cX1) rfl rfl (ev rfl rfl) ?_)))))
 refine wl rfl (omove (v := .int .u32 (p : Int)) rfl rfl (ev rfl rfl) ?_)
 refine wl rfl (ocall rfl rfl Tryd.call31 rfl (wxkernel40 (ht.at hS) (show MS _ pX1 M.length M from by have h9 := hS.ms (n := M.length) 0 rfl (by simp only [maxLen]; omega); rwa [hQX1] at h9) hp2 hs hp) (args2 (ev rfl rfl) (ev rfl rfl)) ?_)
 rintro _ w4 ⟨_, _, rfl, ⟨rfl, rfl⟩, hN⟩
 refine ⟨_, rfl, ?_⟩
 replace hS := hS.news hN; clear hN
 refine wl rfl (omove (v := .tuple #[.slice none 0 0, .int .i64 40]) rfl rfl (ev rfl rfl) ?_)
 refine wl rfl (oextract (vs := [.slice none 0 0, .int .i64 40]) (v := .slice none 0 0) rfl rfl (ev rfl rfl) rfl ?_)
 refine wl rfl (oextract (vs := [.slice none 0 0, .int .i64 40]) (v := .int .i64 40) rfl rfl (ev rfl rfl) rfl ?_)
 refine wl rfl (oassign (v := .slice none 0 0) rfl rfl (ev rfl rfl) ?_)
 refine wl rfl (oassign (v := .int .i64 40) rfl rfl (ev rfl rfl) ?_)
 refine wnil (thenN (wseq (wreg (wl rfl (omove (v := .int .u32 (p : Int)) rfl rfl (ev rfl rfl) ?_)))))
 refine wl rfl (omove (v := .slice pm M.length cm) rfl rfl (ev rfl rfl) ?_)
 refine wl rfl (obslice (ps := #[(0, .slice pm M.length cm)]) (z := .slice none 0 0) [.slice pm M.length cm] hS rfl rfl Tryd.runUnderlying81 Tryd.sizeOf26 Tryd.zeroValue26 (parts1 (ev (v := .slice pm M.length cm) rfl rfl)) rfl (by decide) (fill1_1s rfl rfl) ?_)
 clear hS; intro g5 w6 hS
 refine wl rfl (ocall rfl rfl Tryd.call32 rfl (wlfaults40 (LMS.one (hS.blkAt 0 rfl) (hm.at hS)) hp2 (by omega) (hp)) (args2 (ev rfl rfl) (ev rfl rfl)) ?_)
 rintro _ w7 ⟨_, _, rfl, ⟨rfl, rfl⟩, hN⟩
 refine ⟨_, rfl, ?_⟩
 replace hS := hS.news hN; clear hN
 refine wl rfl (oassign (v := .int .i64 40) rfl rfl (ev rfl rfl) ?_)
 refine wnil (thenN (wseq (wseq (wreg (wl rfl (omove (v := .int .i64 40) rfl rfl (ev rfl rfl) ?_))))))
 refine wl rfl (obin (u := .int .i64 40) (v := .int .i64 0) (z := .bool true) rfl rfl (ev rfl rfl) evc (bin_neq (by decide)) ?_)
 refine wnil (thenN ?_)
 refine wT (ev rfl rfl) ?_
 refine wseq (wreg (wl rfl (omove (v := .slice none 0 0) rfl rfl (ev rfl rfl) ?_)))
 refine wl rfl (omove (v := .int .i64 40) rfl rfl (ev rfl rfl) ?_)
 refine wl rfl (omove (v := .int .i64 40) rfl rfl (ev rfl rfl) ?_)
 refine wl rfl (ocall rfl rfl Tryd.call15 rfl (wltoldE (by decide)) (args4 (ev rfl rfl) (ev rfl rfl) evc (ev rfl rfl)) ?_)
 rintro _ w8 ⟨_, _, rfl, ⟨rfl, rfl⟩, hN⟩
 refine ⟨_, rfl, ?_⟩
 replace hS := hS.news hN; clear hN
 refine wl rfl (omove (v := .bool true) rfl rfl (ev rfl rfl) ?_)
 refine wlOn (e := 47) rfl rfl rfl rfl (omove (v := .slice none 0 0) rfl rfl (ev rfl rfl) ?_)
 refine wlOn (e := 47) rfl rfl rfl rfl (olen rfl rfl rfl Tryd.runUnderlying35 (p := none) (k := 0) (m := 0) (ev rfl rfl) ?_)
 refine wlOn (e := 47) rfl rfl rfl rfl (obin (u := .int .i64 (((0 : Nat) : Int))) (v := .int .i64 0) (z := .bool true) rfl rfl (ev rfl rfl) evc (bin_eql (eqT rfl)) ?_)
 refine wl rfl (opick (b := true) (v := .bool true) rfl rfl (ev rfl rfl) (ev rfl rfl) ?_)
 refine wl rfl (omove (v := .bool true) rfl rfl (ev rfl rfl) ?_)
 refine wlOn (e := 52) rfl rfl rfl rfl (omove (v := .int .i64 0) rfl rfl (ev rfl rfl) ?_)
 refine wlOn (e := 52) rfl rfl rfl rfl (obin (u := .int .i64 0) (v := .int .i64 0) (z := .bool true) rfl rfl (ev rfl rfl) evc (bin_eql (by decide)) ?_)
 refine wl rfl (opick (b := true) (v := .bool true) rfl rfl (ev rfl rfl) (ev rfl rfl) ?_)
 refine wl rfl (omove (v := .bool true) rfl rfl (ev rfl rfl) ?_)
 refine wlOn (e := 56) rfl rfl rfl rfl (omove (v := .int .i64 40) rfl rfl (ev rfl rfl) ?_)
 refine wlOn (e := 56) rfl rfl rfl rfl (ocall rfl rfl Tryd.call11 rfl (wxnum) (args1 (ev rfl rfl)) ?_)
 rintro _ w9 ⟨_, _, rfl, ⟨rfl, rfl⟩, hN⟩
 refine ⟨_, rfl, ?_⟩
 replace hS := hS.news hN; clear hN
 refine wlOn (e := 56) rfl rfl rfl rfl (omove (v := .int .i64 40) rfl rfl (ev rfl rfl) ?_)
 refine wlOn (e := 56) rfl rfl rfl rfl (obin (u := .int .i64 40) (v := .int .i64 40) (z := .bool true) rfl rfl (ev rfl rfl) (ev rfl rfl) (bin_eql (by decide)) ?_)
 refine wl rfl (opick (b := true) (v := .bool true) rfl rfl (ev rfl rfl) (ev rfl rfl) ?_)
 refine wl rfl (omove (v := .bool true) rfl rfl (ev rfl rfl) ?_)
 refine wlOn (e := 62) rfl rfl rfl rfl (omove (v := .slice none 0 0) rfl rfl (ev rfl rfl) ?_)
 refine wlOn (e := 62) rfl rfl rfl rfl (omove (v := .int .i64 40) rfl rfl (ev rfl rfl) ?_)
 refine wlOn (e := 62) rfl rfl rfl rfl (omove (v := .int .i64 40) rfl rfl (ev rfl rfl) ?_)
 refine wlOn (e := 62) rfl rfl rfl rfl (ocall rfl rfl Tryd.call15 rfl (wltoldE (by decide)) (args4 (ev rfl rfl) (ev rfl rfl) evc (ev rfl rfl)) ?_)
 rintro _ w10 ⟨_, _, rfl, ⟨rfl, rfl⟩, hN⟩
 refine ⟨_, rfl, ?_⟩
 replace hS := hS.news hN; clear hN
 refine wl rfl (opick (b := true) (v := .bool true) rfl rfl (ev rfl rfl) (ev rfl rfl) ?_)
 refine wl rfl (omove (v := .bool true) rfl rfl (ev rfl rfl) ?_)
 refine wlOn (e := 68) rfl rfl rfl rfl (ocall rfl rfl Tryd.call12 rfl (wxawake (ht.at hS)) (args0 ) ?_)
 rintro _ w11 ⟨_, _, rfl, ⟨rfl, rfl⟩, hN⟩
 refine ⟨_, rfl, ?_⟩
 replace hS := hS.news hN; clear hN
 refine wl rfl (opick (b := true) (v := .bool true) rfl rfl (ev rfl rfl) (ev rfl rfl) ?_)
 refine wl rfl (oassign (v := .bool true) rfl rfl (ev rfl rfl) ?_)
 refine wnil (thenN ?_)
 refine wleave ?_
 refine thenR ?_
 refine wret1 Tryd.results9 (tellT (v := .bool true) rfl rfl) ?_
 exact ⟨_, _, rfl, isI, hS.new0⟩
theorem modmatReduces_2 {pm : Option Addr} {nm cm p : Nat} {M : List (List Nat)} {w : World} (ht : Tb w) (hm : MS w pm nm M) (hp2 : p < 4294967296) (hs : SmallM M) (hp : MR.Pr p) (hr : ¬ RectM M) :
  Calls Tryd.prog 9 #[.slice pm nm cm, .int .u32 ((p : Nat) : Int)] w (Ret (Is (.bool true)) w) := by
 obtain rfl := hm.1
 have hsl := hs.1
 have hS := Sep.init w
 refine went Tryd.func9 rfl (n := 113) rfl rfl ?_
 refine wseq (wreg (wl rfl (oassign (v := .bool false) rfl rfl evc ?_)))
 refine wnil (thenN (wseq (wreg (wl rfl (omove (v := .slice pm M.length cm) rfl rfl (ev rfl rfl) ?_)))))
 refine wl rfl (ocall rfl rfl Tryd.call20 rfl (wlown (hm.at hS) hs) (args1 (ev rfl rfl)) ?_)
 rintro _ w1 ⟨_, _, rfl, ⟨pX1, cX1, QX1, hQX1, rfl, rfl⟩, hN⟩
 refine ⟨_, rfl, ?_⟩
 replace hS := hS.news hN; clear hN
 refine wl rfl (oassign (v := .slice pX1 M.length cX1) rfl rfl (ev rfl rfl) ?_)
 refine wnil (thenN (wseq (wreg (wl rfl (omove (v := .slice pX1 M.length cX1) rfl rfl (ev rfl rfl) ?_)))))
 refine wl rfl (omove (v := .int .u32 (p : Int)) rfl rfl (ev rfl rfl) ?_)
 refine wl rfl (ocall rfl rfl Tryd.call17 rfl (wxreduceA2 (ht.at hS) (show MS _ pX1 M.length M from by have h9 := hS.ms (n := M.length) 0 rfl (by simp only [maxLen]; omega); rwa [hQX1] at h9) hp2 hs hp hr) (args2 (ev rfl rfl) (ev rfl rfl)) ?_)
 rintro _ w2 ⟨_, _, rfl, ⟨rfl, rfl⟩, hN⟩
 refine ⟨_, rfl, ?_⟩
 replace hS := hS.news hN; clear hN
 refine wl rfl (omove (v := .tuple #[.slice none 0 0, .slice none 0 0, .int .i64 2]) rfl rfl (ev rfl rfl) ?_)
 refine wl rfl (oextract (vs := [.slice none 0 0, .slice none 0 0, .int .i64 2]) (v := .slice none 0 0) rfl rfl (ev rfl rfl) rfl ?_)
 refine wl rfl (oextract (vs := [.slice none 0 0, .slice none 0 0, .int .i64 2]) (v := .slice none 0 0) rfl rfl (ev rfl rfl) rfl ?_)
 refine wl rfl (oextract (vs := [.slice none 0 0, .slice none 0 0, .int .i64 2]) (v := .int .i64 2) rfl rfl (ev rfl rfl) rfl ?_)
 refine wl rfl (oassign (v := .slice none 0 0) rfl rfl (ev rfl rfl) ?_)
 refine wl rfl (oassign (v := .slice none 0 0) rfl rfl (ev rfl rfl) ?_)
 refine wl rfl (oassign (v := .int .i64 2) rfl rfl (ev rfl rfl) ?_)
 refine wnil (thenN (wseq (wreg (wl rfl (omove (v := .slice pX1 M.length cX1) rfl rfl (ev rfl rfl) ?_)))))
 refine wl rfl (omove (v := .int .u32 (p : Int)) rfl rfl (ev rfl rfl) ?_)
 refine wl rfl (ocall rfl rfl Tryd.call21 rfl (wxrank2 (ht.at hS) (show MS _ pX1 M.length M from by have h9 := hS.ms (n := M.length) 0 rfl (by simp only [maxLen]; omega); rwa [hQX1] at h9) hp2 hs hp hr) (args2 (ev rfl rfl) (ev rfl rfl)) ?_)
 rintro _ w3 ⟨_, _, rfl, ⟨rfl, rfl⟩, hN⟩
 refine ⟨_, rfl, ?_⟩
 replace hS := hS.news hN; clear hN
 refine wl rfl (omove (v := .tuple #[.int .i64 0, .int .i64 2]) rfl rfl (ev rfl rfl) ?_)
 refine wl rfl (oextract (vs := [.int .i64 0, .int .i64 2]) (v := .int .i64 0) rfl rfl (ev rfl rfl) rfl ?_)
 refine wl rfl (oextract (vs := [.int .i64 0, .int .i64 2]) (v := .int .i64 2) rfl rfl (ev rfl rfl) rfl ?_)
 refine wl rfl (oassign (v := .int .i64 0) rfl rfl (ev rfl rfl) ?_)
 refine wl rfl (oassign (v := .int .i64 2) rfl rfl (ev rfl rfl) ?_)
 refine wnil (thenN (wseq (wreg (wl rfl (omove (v := .slice pX1 M.length cX1) rfl rfl (ev rfl rfl) ?_)))))
 refine wl rfl (omove (v := .int .u32 (p : Int)) rfl rfl (ev rfl rfl) ?_)
 refine wl rfl (ocall rfl rfl Tryd.call31 rfl (wxkernel2 (ht.at hS) (show MS _ pX1 M.length M from by have h9 := hS.ms (n := M.length) 0 rfl (by simp only [maxLen]; omega); rwa [hQX1] at h9) hp2 hs hp hr) (args2 (ev rfl rfl) (ev rfl rfl)) ?_)
 rintro _ w4 ⟨_, _, rfl, ⟨rfl, rfl⟩, hN⟩
 refine ⟨_, rfl, ?_⟩
 replace hS := hS.news hN; clear hN
 refine wl rfl (omove (v := .tuple #[.slice none 0 0, .int .i64 2]) rfl rfl (ev rfl rfl) ?_)
 refine wl rfl (oextract (vs := [.slice none 0 0, .int .i64 2]) (v := .slice none 0 0) rfl rfl (ev rfl rfl) rfl ?_)
 refine wl rfl (oextract (vs := [.slice none 0 0, .int .i64 2]) (v := .int .i64 2) rfl rfl (ev rfl rfl) rfl ?_)
 refine wl rfl (oassign (v := .slice none 0 0) rfl rfl (ev rfl rfl) ?_)
 refine wl rfl (oassign (v := .int .i64 2) rfl rfl (ev rfl rfl) ?_)
 refine wnil (thenN (wseq (wreg (wl rfl (omove (v := .int .u32 (p : Int)) rfl rfl (ev rfl rfl) ?_)))))
 refine wl rfl (omove (v := .slice pm M.length cm) rfl rfl (ev rfl rfl) ?_)
 refine wl rfl (obslice (ps := #[(0, .slice pm M.length cm)]) (z := .slice none 0 0) [.slice pm M.length cm] hS rfl rfl Tryd.runUnderlying81 Tryd.sizeOf26 Tryd.zeroValue26 (parts1 (ev (v := .slice pm M.length cm) rfl rfl)) rfl (by decide) (fill1_1s rfl rfl) ?_)
 clear hS; intro g5 w6 hS
 refine wl rfl (ocall rfl rfl Tryd.call32 rfl (wlfaults2 (LMS.one (hS.blkAt 0 rfl) (hm.at hS)) hp2 (by omega) (hp) (fun h => hr (h M (by simp)))) (args2 (ev rfl rfl) (ev rfl rfl)) ?_)
 rintro _ w7 ⟨_, _, rfl, ⟨rfl, rfl⟩, hN⟩
 refine ⟨_, rfl, ?_⟩
 replace hS := hS.news hN; clear hN
 refine wl rfl (oassign (v := .int .i64 2) rfl rfl (ev rfl rfl) ?_)
 refine wnil (thenN (wseq (wseq (wreg (wl rfl (omove (v := .int .i64 2) rfl rfl (ev rfl rfl) ?_))))))
 refine wl rfl (obin (u := .int .i64 2) (v := .int .i64 0) (z := .bool true) rfl rfl (ev rfl rfl) evc (bin_neq (by decide)) ?_)
 refine wnil (thenN ?_)
 refine wT (ev rfl rfl) ?_
 refine wseq (wreg (wl rfl (omove (v := .slice none 0 0) rfl rfl (ev rfl rfl) ?_)))
 refine wl rfl (omove (v := .int .i64 2) rfl rfl (ev rfl rfl) ?_)
 refine wl rfl (omove (v := .int .i64 2) rfl rfl (ev rfl rfl) ?_)
 refine wl rfl (ocall rfl rfl Tryd.call15 rfl (wltoldE (by decide)) (args4 (ev rfl rfl) (ev rfl rfl) evc (ev rfl rfl)) ?_)
 rintro _ w8 ⟨_, _, rfl, ⟨rfl, rfl⟩, hN⟩
 refine ⟨_, rfl, ?_⟩
 replace hS := hS.news hN; clear hN
 refine wl rfl (omove (v := .bool true) rfl rfl (ev rfl rfl) ?_)
 refine wlOn (e := 47) rfl rfl rfl rfl (omove (v := .slice none 0 0) rfl rfl (ev rfl rfl) ?_)
 refine wlOn (e := 47) rfl rfl rfl rfl (olen rfl rfl rfl Tryd.runUnderlying35 (p := none) (k := 0) (m := 0) (ev rfl rfl) ?_)
 refine wlOn (e := 47) rfl rfl rfl rfl (obin (u := .int .i64 (((0 : Nat) : Int))) (v := .int .i64 0) (z := .bool true) rfl rfl (ev rfl rfl) evc (bin_eql (eqT rfl)) ?_)
 refine wl rfl (opick (b := true) (v := .bool true) rfl rfl (ev rfl rfl) (ev rfl rfl) ?_)
 refine wl rfl (omove (v := .bool true) rfl rfl (ev rfl rfl) ?_)
 refine wlOn (e := 52) rfl rfl rfl rfl (omove (v := .int .i64 0) rfl rfl (ev rfl rfl) ?_)
 refine wlOn (e := 52) rfl rfl rfl rfl (obin (u := .int .i64 0) (v := .int .i64 0) (z := .bool true) rfl rfl (ev rfl rfl) evc (bin_eql (by decide)) ?_)
 refine wl rfl (opick (b := true) (v := .bool true) rfl rfl (ev rfl rfl) (ev rfl rfl) ?_)
 refine wl rfl (omove (v := .bool true) rfl rfl (ev rfl rfl) ?_)
 refine wlOn (e := 56) rfl rfl rfl rfl (omove (v := .int .i64 2) rfl rfl (ev rfl rfl) ?_)
 refine wlOn (e := 56) rfl rfl rfl rfl (ocall rfl rfl Tryd.call11 rfl (wxnum) (args1 (ev rfl rfl)) ?_)
 rintro _ w9 ⟨_, _, rfl, ⟨rfl, rfl⟩, hN⟩
 refine ⟨_, rfl, ?_⟩
 replace hS := hS.news hN; clear hN
 refine wlOn (e := 56) rfl rfl rfl rfl (omove (v := .int .i64 2) rfl rfl (ev rfl rfl) ?_)
 refine wlOn (e := 56) rfl rfl rfl rfl (obin (u := .int .i64 2) (v := .int .i64 2) (z := .bool true) rfl rfl (ev rfl rfl) (ev rfl rfl) (bin_eql (by decide)) ?_)
 refine wl rfl (opick (b := true) (v := .bool true) rfl rfl (ev rfl rfl) (ev rfl rfl) ?_)
 refine wl rfl (omove (v := .bool true) rfl rfl (ev rfl rfl) ?_)
 refine wlOn (e := 62) rfl rfl rfl rfl (omove (v := .slice none 0 0) rfl rfl (ev rfl rfl) ?_)
 refine wlOn (e := 62) rfl rfl rfl rfl (omove (v := .int .i64 2) rfl rfl (ev rfl rfl) ?_)
 refine wlOn (e := 62) rfl rfl rfl rfl (omove (v := .int .i64 2) rfl rfl (ev rfl rfl) ?_)
 refine wlOn (e := 62) rfl rfl rfl rfl (ocall rfl rfl Tryd.call15 rfl (wltoldE (by decide)) (args4 (ev rfl rfl) (ev rfl rfl) evc (ev rfl rfl)) ?_)
 rintro _ w10 ⟨_, _, rfl, ⟨rfl, rfl⟩, hN⟩
 refine ⟨_, rfl, ?_⟩
 replace hS := hS.news hN; clear hN
 refine wl rfl (opick (b := true) (v := .bool true) rfl rfl (ev rfl rfl) (ev rfl rfl) ?_)
 refine wl rfl (omove (v := .bool true) rfl rfl (ev rfl rfl) ?_)
 refine wlOn (e := 68) rfl rfl rfl rfl (ocall rfl rfl Tryd.call12 rfl (wxawake (ht.at hS)) (args0 ) ?_)
 rintro _ w11 ⟨_, _, rfl, ⟨rfl, rfl⟩, hN⟩
 refine ⟨_, rfl, ?_⟩
 replace hS := hS.news hN; clear hN
 refine wl rfl (opick (b := true) (v := .bool true) rfl rfl (ev rfl rfl) (ev rfl rfl) ?_)
 refine wl rfl (oassign (v := .bool true) rfl rfl (ev rfl rfl) ?_)
 refine wnil (thenN ?_)
 refine wleave ?_
 refine thenR ?_
 refine wret1 Tryd.results9 (tellT (v := .bool true) rfl rfl) ?_
 exact ⟨_, _, rfl, isI, hS.new0⟩
theorem modmatReduces_ok {pm : Option Addr} {nm cm p : Nat} {M : List (List Nat)} {w : World} (ht : Tb w) (hm : MS w pm nm M) (hp2 : p < 4294967296) (hs : SmallM M) (hp : MR.Pr p) (hr : RectM M) :
  Calls Tryd.prog 9 #[.slice pm nm cm, .int .u32 ((p : Nat) : Int)] w (Ret (Is (.bool true)) w) := by
 obtain rfl := hm.1
 have hp1 : 1 < p := by have := hp.1; omega
 have hsl := hs.1
 have hcb := hs.cols
 obtain ⟨⟨N, T⟩, hNT⟩ : ∃ s, redTo p (modM p M) (colsM M) = s := ⟨_, rfl⟩
 obtain ⟨hN, hNl, hT1, hT2, hrk⟩ := red_facts hp hr hNT
 have hsN : SmallM N := ⟨by omega, fun r h => by rw [(hN r h).1]; exact hcb⟩
 have hsK := kerP_small (M := M) hp hcb
 obtain ⟨K, hK⟩ : ∃ K, kerP p M = K := ⟨_, rfl⟩
 rw [hK] at hsK
 have hKl := hsK.1
 have hS := Sep.init w
 refine went Tryd.func9 rfl (n := 113) rfl rfl ?_
 refine wseq (wreg (wl rfl (oassign (v := .bool false) rfl rfl evc ?_)))
 refine wnil (thenN (wseq (wreg (wl rfl (omove (v := .slice pm M.length cm) rfl rfl (ev rfl rfl) ?_)))))
 refine wl rfl (ocall rfl rfl Tryd.call20 rfl (wlown (hm.at hS) hs) (args1 (ev rfl rfl)) ?_)
 rintro _ w1 ⟨_, _, rfl, ⟨pX1, cX1, QX1, hQX1, rfl, rfl⟩, hN⟩
 refine ⟨_, rfl, ?_⟩
 replace hS := hS.news hN; clear hN
 refine wl rfl (oassign (v := .slice pX1 M.length cX1) rfl rfl (ev rfl rfl) ?_)
 refine wnil (thenN (wseq (wreg (wl rfl (omove (v := .slice pX1 M.length cX1) rfl rfl (ev rfl rfl) ?_)))))
 refine wl rfl (omove (v := .int .u32 (p : Int)) rfl rfl (ev rfl rfl) ?_)
 refine wl rfl (ocall rfl rfl Tryd.call17 rfl (wxreduceA (cm := cX1) (ht.at hS) (show MS _ pX1 M.length M from by have h9 := hS.ms (n := M.length) 0 rfl (by simp only [maxLen]; omega); rwa [hQX1] at h9) hp2 hs hp hr) (args2 (ev rfl rfl) (ev rfl rfl)) ?_)
 rintro _ w2 ⟨_, _, rfl, ⟨pR, cR, pT1, cT1, PT1, QR, hRT1, rfl, rfl⟩, hN⟩
 refine ⟨_, rfl, ?_⟩
 replace hS := hS.news hN; clear hN
 refine wl rfl (omove (v := .tuple #[.slice pR M.length cR, .slice pT1 PT1.length cT1, .int .i64 0]) rfl rfl (ev rfl rfl) ?_)
 refine wl rfl (oextract (vs := [.slice pR M.length cR, .slice pT1 PT1.length cT1, .int .i64 0]) (v := .slice pR M.length cR) rfl rfl (ev rfl rfl) rfl ?_)
 refine wl rfl (oextract (vs := [.slice pR M.length cR, .slice pT1 PT1.length cT1, .int .i64 0]) (v := .slice pT1 PT1.length cT1) rfl rfl (ev rfl rfl) rfl ?_)
 refine wl rfl (oextract (vs := [.slice pR M.length cR, .slice pT1 PT1.length cT1, .int .i64 0]) (v := .int .i64 0) rfl rfl (ev rfl rfl) rfl ?_)
 refine wl rfl (oassign (v := .slice pR M.length cR) rfl rfl (ev rfl rfl) ?_)
 refine wl rfl (oassign (v := .slice pT1 PT1.length cT1) rfl rfl (ev rfl rfl) ?_)
 refine wl rfl (oassign (v := .int .i64 0) rfl rfl (ev rfl rfl) ?_)
 refine wnil (thenN (wseq (wreg (wl rfl (omove (v := .slice pX1 M.length cX1) rfl rfl (ev rfl rfl) ?_)))))
 refine wl rfl (omove (v := .int .u32 (p : Int)) rfl rfl (ev rfl rfl) ?_)
 obtain ⟨hNR, rfl⟩ := Prod.mk.inj (hNT.symm.trans hRT1)
 refine wl rfl (ocall rfl rfl Tryd.call21 rfl ((show Calls _ _ _ _ (Ret (Is (.tuple #[.int .i64 (T.length : Int), .int .i64 0])) _) from by have h8 := wxrank (cm := cX1) (ht.at hS) (show MS _ pX1 M.length M from by have h9 := hS.ms (n := M.length) 2 rfl (by simp only [maxLen]; omega); rwa [hQX1] at h9) hp2 hs hp hr; rwa [hrk] at h8)) (args2 (ev rfl rfl) (ev rfl rfl)) ?_)
 rintro _ w3 ⟨_, _, rfl, ⟨rfl, rfl⟩, hN⟩
 refine ⟨_, rfl, ?_⟩
 replace hS := hS.news hN; clear hN
 refine wl rfl (omove (v := .tuple #[.int .i64 (T.length : Int), .int .i64 0]) rfl rfl (ev rfl rfl) ?_)
 refine wl rfl (oextract (vs := [.int .i64 (T.length : Int), .int .i64 0]) (v := .int .i64 (T.length : Int)) rfl rfl (ev rfl rfl) rfl ?_)
 refine wl rfl (oextract (vs := [.int .i64 (T.length : Int), .int .i64 0]) (v := .int .i64 0) rfl rfl (ev rfl rfl) rfl ?_)
 refine wl rfl (oassign (v := .int .i64 (T.length : Int)) rfl rfl (ev rfl rfl) ?_)
 refine wl rfl (oassign (v := .int .i64 0) rfl rfl (ev rfl rfl) ?_)
 refine wnil (thenN (wseq (wreg (wl rfl (omove (v := .slice pX1 M.length cX1) rfl rfl (ev rfl rfl) ?_)))))
 refine wl rfl (omove (v := .int .u32 (p : Int)) rfl rfl (ev rfl rfl) ?_)
 refine wl rfl (ocall rfl rfl Tryd.call31 rfl ((show Calls _ _ _ _ (Ret (MmE K 0) _) from by have h8 := wxkernel (cm := cX1) (ht.at hS) (show MS _ pX1 M.length M from by have h9 := hS.ms (n := M.length) 2 rfl (by simp only [maxLen]; omega); rwa [hQX1] at h9) hp2 hs hp hr; rwa [hK] at h8)) (args2 (ev rfl rfl) (ev rfl rfl)) ?_)
 rintro _ w4 ⟨_, _, rfl, ⟨pK, cK, QK, hQK, rfl, rfl⟩, hN⟩
 refine ⟨_, rfl, ?_⟩
 replace hS := hS.news hN; clear hN
 refine wl rfl (omove (v := .tuple #[.slice pK K.length cK, .int .i64 0]) rfl rfl (ev rfl rfl) ?_)
 refine wl rfl (oextract (vs := [.slice pK K.length cK, .int .i64 0]) (v := .slice pK K.length cK) rfl rfl (ev rfl rfl) rfl ?_)
 refine wl rfl (oextract (vs := [.slice pK K.length cK, .int .i64 0]) (v := .int .i64 0) rfl rfl (ev rfl rfl) rfl ?_)
 refine wl rfl (oassign (v := .slice pK K.length cK) rfl rfl (ev rfl rfl) ?_)
 refine wl rfl (oassign (v := .int .i64 0) rfl rfl (ev rfl rfl) ?_)
 refine wnil (thenN (wseq (wreg (wl rfl (omove (v := .int .u32 (p : Int)) rfl rfl (ev rfl rfl) ?_)))))
 refine wl rfl (omove (v := .slice pm M.length cm) rfl rfl (ev rfl rfl) ?_)
 refine wl rfl (obslice (ps := #[(0, .slice pm M.length cm)]) (z := .slice none 0 0) [.slice pm M.length cm] hS rfl rfl Tryd.runUnderlying81 Tryd.sizeOf26 Tryd.zeroValue26 (parts1 (ev (v := .slice pm M.length cm) rfl rfl)) rfl (by decide) (fill1_1s rfl rfl) ?_)
 clear hS; intro g5 w6 hS
 refine wl rfl (ocall rfl rfl Tryd.call32 rfl (wlfaults0 (LMS.one (hS.blkAt 0 rfl) (hm.at hS)) hp2 (by omega) (hp) (fun N h => by rw [List.mem_singleton.1 h]; exact hr)) (args2 (ev rfl rfl) (ev rfl rfl)) ?_)
 rintro _ w7 ⟨_, _, rfl, ⟨rfl, rfl⟩, hN⟩
 refine ⟨_, rfl, ?_⟩
 replace hS := hS.news hN; clear hN
 refine wl rfl (oassign (v := .int .i64 0) rfl rfl (ev rfl rfl) ?_)
 refine wnil (thenN (wseq (wseq (wreg (wl rfl (omove (v := .int .i64 0) rfl rfl (ev rfl rfl) ?_))))))
 refine wl rfl (obin (u := .int .i64 0) (v := .int .i64 0) (z := .bool false) rfl rfl (ev rfl rfl) evc (bin_neq (by decide)) ?_)
 refine wnil (thenN ?_)
 refine wF (ev rfl rfl) ?_
 refine wskip (thenN (wseq (wreg (wl rfl (omove (v := .slice pm M.length cm) rfl rfl (ev rfl rfl) ?_)))))
 refine wl rfl (omove (v := .int .u32 (p : Int)) rfl rfl (ev rfl rfl) ?_)
 refine wl rfl (ocall rfl rfl Tryd.call33 rfl (wrreduce (n := M.length) (cm := cm) (hm.at hS) hp1 hp2 hr (by omega) (fun r h => by have := hs.2 r h; omega)) (args2 (ev rfl rfl) (ev rfl rfl)) ?_)
 rintro _ w8 ⟨_, _, rfl, ⟨pS, cS, pT2, cT2, PT2, QS, hRT2, rfl, rfl⟩, hN⟩
 refine ⟨_, rfl, ?_⟩
 replace hS := hS.news hN; clear hN
 refine wl rfl (omove (v := .tuple #[.slice pS M.length cS, .slice pT2 PT2.length cT2]) rfl rfl (ev rfl rfl) ?_)
 refine wl rfl (oextract (vs := [.slice pS M.length cS, .slice pT2 PT2.length cT2]) (v := .slice pS M.length cS) rfl rfl (ev rfl rfl) rfl ?_)
 refine wl rfl (oextract (vs := [.slice pS M.length cS, .slice pT2 PT2.length cT2]) (v := .slice pT2 PT2.length cT2) rfl rfl (ev rfl rfl) rfl ?_)
 refine wl rfl (oassign (v := .slice pS M.length cS) rfl rfl (ev rfl rfl) ?_)
 refine wl rfl (oassign (v := .slice pT2 PT2.length cT2) rfl rfl (ev rfl rfl) ?_)
 refine wnil (thenN (wseq (wreg (wl rfl (omove (v := .slice pR M.length cR) rfl rfl (ev rfl rfl) ?_)))))
 refine wl rfl (omove (v := .int .i64 0) rfl rfl (ev rfl rfl) ?_)
 refine wl rfl (omove (v := .slice pS M.length cS) rfl rfl (ev rfl rfl) ?_)
 skip
 obtain ⟨hNS, rfl⟩ := Prod.mk.inj (hNT.symm.trans hRT2)
 refine wl rfl (ocall rfl rfl Tryd.call15 rfl (wltold (show MS _ pR M.length N from by have h9 := hS.ms (n := M.length) 4 rfl (by simp only [maxLen]; omega); rwa [← hNR] at h9) (show MS _ pS M.length N from by have h9 := hS.ms (n := M.length) 0 rfl (by simp only [maxLen]; omega); rwa [← hNS] at h9) hsN) (args4 (ev rfl rfl) (ev rfl rfl) (ev rfl rfl) evc) ?_)
 rintro _ w9 ⟨_, _, rfl, ⟨rfl, rfl⟩, hN⟩
 refine ⟨_, rfl, ?_⟩
 replace hS := hS.news hN; clear hN
 refine wl rfl (omove (v := .bool true) rfl rfl (ev rfl rfl) ?_)
 refine wlOn (e := 81) rfl rfl rfl rfl (omove (v := .slice pT1 T.length cT1) rfl rfl (ev rfl rfl) ?_)
 refine wlOn (e := 81) rfl rfl rfl rfl (omove (v := .slice pT2 T.length cT2) rfl rfl (ev rfl rfl) ?_)
 refine wlOn (e := 81) rfl rfl rfl rfl (ocall rfl rfl Tryd.call19 rfl (wlints (P := T) (hS.si 5 rfl (by simp only [maxLen]; omega)) (hS.si 1 rfl (by simp only [maxLen]; omega)) (by omega)) (args2 (ev rfl rfl) (ev rfl rfl)) ?_)
 rintro _ w10 ⟨_, _, rfl, ⟨rfl, rfl⟩, hN⟩
 refine ⟨_, rfl, ?_⟩
 replace hS := hS.news hN; clear hN
 refine wl rfl (opick (b := true) (v := .bool true) rfl rfl (ev rfl rfl) (ev rfl rfl) ?_)
 refine wl rfl (omove (v := .bool true) rfl rfl (ev rfl rfl) ?_)
 refine wlOn (e := 86) rfl rfl rfl rfl (omove (v := .int .i64 (T.length : Int)) rfl rfl (ev rfl rfl) ?_)
 refine wlOn (e := 86) rfl rfl rfl rfl (omove (v := .slice pT2 T.length cT2) rfl rfl (ev rfl rfl) ?_)
 refine wlOn (e := 86) rfl rfl rfl rfl (olen rfl rfl rfl Tryd.runUnderlying35 (p := pT2) (k := T.length) (m := cT2) (ev rfl rfl) ?_)
 refine wlOn (e := 86) rfl rfl rfl rfl (obin (u := .int .i64 (T.length : Int)) (v := .int .i64 (T.length : Int)) (z := .bool true) rfl rfl (ev rfl rfl) (ev rfl rfl) (bin_eql (eqT rfl)) ?_)
 refine wl rfl (opick (b := true) (v := .bool true) rfl rfl (ev rfl rfl) (ev rfl rfl) ?_)
 refine wl rfl (omove (v := .bool true) rfl rfl (ev rfl rfl) ?_)
 refine wlOn (e := 92) rfl rfl rfl rfl (omove (v := .int .i64 0) rfl rfl (ev rfl rfl) ?_)
 refine wlOn (e := 92) rfl rfl rfl rfl (ocall rfl rfl Tryd.call11 rfl (wxnum) (args1 (ev rfl rfl)) ?_)
 rintro _ w11 ⟨_, _, rfl, ⟨rfl, rfl⟩, hN⟩
 refine ⟨_, rfl, ?_⟩
 replace hS := hS.news hN; clear hN
 refine wlOn (e := 92) rfl rfl rfl rfl (obin (u := .int .i64 0) (v := .int .i64 0) (z := .bool true) rfl rfl (ev rfl rfl) evc (bin_eql (by decide)) ?_)
 refine wl rfl (opick (b := true) (v := .bool true) rfl rfl (ev rfl rfl) (ev rfl rfl) ?_)
 refine wl rfl (omove (v := .bool true) rfl rfl (ev rfl rfl) ?_)
 refine wlOn (e := 97) rfl rfl rfl rfl (omove (v := .slice pK K.length cK) rfl rfl (ev rfl rfl) ?_)
 refine wlOn (e := 97) rfl rfl rfl rfl (omove (v := .int .i64 0) rfl rfl (ev rfl rfl) ?_)
 refine wlOn (e := 97) rfl rfl rfl rfl (omove (v := .slice pm M.length cm) rfl rfl (ev rfl rfl) ?_)
 refine wlOn (e := 97) rfl rfl rfl rfl (omove (v := .int .u32 (p : Int)) rfl rfl (ev rfl rfl) ?_)
 refine wlOn (e := 97) rfl rfl rfl rfl (ocall rfl rfl Tryd.call34 rfl ((show Calls _ _ _ _ (Ret (MMn K.length K) _) from by have h8 := wrkernel (n := M.length) (cm := cm) (hm.at hS) hp hp2 hr hs; rwa [hK] at h8)) (args2 (ev rfl rfl) (ev rfl rfl)) ?_)
 rintro _ w12 ⟨_, _, rfl, ⟨pI, cI, QI, hQI, rfl, rfl⟩, hN⟩
 refine ⟨_, rfl, ?_⟩
 replace hS := hS.news hN; clear hN
 refine wlOn (e := 97) rfl rfl rfl rfl (ocall rfl rfl Tryd.call15 rfl (wltold (show MS _ pK K.length _ from by have h9 := hS.ms (n := K.length) 4 rfl (by simp only [maxLen]; omega); rwa [hQK] at h9) (show MS _ pI K.length _ from by have h9 := hS.ms (n := K.length) 0 rfl (by simp only [maxLen]; omega); rwa [hQI] at h9) hsK) (args4 (ev rfl rfl) (ev rfl rfl) (ev rfl rfl) evc) ?_)
 rintro _ w13 ⟨_, _, rfl, ⟨rfl, rfl⟩, hN⟩
 refine ⟨_, rfl, ?_⟩
 replace hS := hS.news hN; clear hN
 refine wl rfl (opick (b := true) (v := .bool true) rfl rfl (ev rfl rfl) (ev rfl rfl) ?_)
 refine wl rfl (omove (v := .bool true) rfl rfl (ev rfl rfl) ?_)
 refine wlOn (e := 105) rfl rfl rfl rfl (omove (v := .slice pX1 M.length cX1) rfl rfl (ev rfl rfl) ?_)
 refine wlOn (e := 105) rfl rfl rfl rfl (omove (v := .slice pm M.length cm) rfl rfl (ev rfl rfl) ?_)
 refine wlOn (e := 105) rfl rfl rfl rfl (ocall rfl rfl Tryd.call18 rfl (wxsameL (show MS _ pX1 M.length M from by have h9 := hS.ms (n := M.length) 7 rfl (by simp only [maxLen]; omega); rwa [hQX1] at h9) (hm.at hS) (hs)) (args2 (ev rfl rfl) (ev rfl rfl)) ?_)
 rintro _ w14 ⟨_, _, rfl, ⟨rfl, rfl⟩, hN⟩
 refine ⟨_, rfl, ?_⟩
 replace hS := hS.news hN; clear hN
 refine wl rfl (opick (b := true) (v := .bool true) rfl rfl (ev rfl rfl) (ev rfl rfl) ?_)
 refine wl rfl (omove (v := .bool true) rfl rfl (ev rfl rfl) ?_)
 refine wlOn (e := 110) rfl rfl rfl rfl (ocall rfl rfl Tryd.call12 rfl (wxawake (ht.at hS)) (args0 ) ?_)
 rintro _ w15 ⟨_, _, rfl, ⟨rfl, rfl⟩, hN⟩
 refine ⟨_, rfl, ?_⟩
 replace hS := hS.news hN; clear hN
 refine wl rfl (opick (b := true) (v := .bool true) rfl rfl (ev rfl rfl) (ev rfl rfl) ?_)
 refine wl rfl (oassign (v := .bool true) rfl rfl (ev rfl rfl) ?_)
 refine wnil (thenN ?_)
 refine wleave ?_
 refine wret1 Tryd.results9 (tellT (v := .bool true) rfl rfl) ?_
 exact ⟨_, _, rfl, isI, hS.new0⟩
theorem modmatReduces_walk {pm : Option Addr} {nm cm : Nat} {s : Int} {M : List (List Nat)} {w : World} (hm : MS w pm nm M) (hs : SmallM M) (h1 : Tab w) (h2 : Bases w) (b1 : 0 ≤ s ∧ s ≤ 4294967295) : Calls Tryd.prog 9 #[.slice pm nm cm, .int .u32 s] w (RetB w true) := by
  obtain ⟨p, rfl⟩ := Int.eq_ofNat_of_zero_le b1.1
  have hp2 : p < 4294967296 := by omega
  have ht : Tb w := ⟨h1, h2⟩
  by_cases hp : MR.Pr p
  case neg => exact Ret.bool (modmatReduces_40 ht hm hp2 hs hp)
  by_cases hr : RectM M
  case neg => exact Ret.bool (modmatReduces_2 ht hm hp2 hs hp hr)
  exact Ret.bool (modmatReduces_ok ht hm hp2 hs hp hr)
end Go.Proofs.YtndilfigdbenoaaDoor
