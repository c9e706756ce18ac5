
/-
  The walk of similelaw10.ModmatProducts.
-/
import Derived.Test.YtndilfigdbenoaaDoorM7
import Derived.Test.YtndilfigdbenoaaDoorMmOpen
import Derived.Test.YtndilfigdbenoaaDoorLT
set_option linter.unusedVariables false
set_option linter.unusedSimpArgs false
set_option maxRecDepth 100000
set_option maxHeartbeats 16000000
namespace Go.Proofs.YtndilfigdbenoaaDoor
open Go.RowKit
theorem mulM_len (p : Nat) (A B : List (List Nat)) (C D : Nat) : (mulM p A B C D).length = A.length := mkM_len ..
theorem prod_ranks {p : Nat} {A B : List (List Nat)} (hp : MR.Pr p) (hA : RectM A) (hB : RectM B) (hq : colsM A = B.length) : rkP p (mulM p (modM p A) (modM p B) (colsM A) (colsM B)) ≤ rkP p A ∧ rkP p (mulM p (modM p A) (modM p B) (colsM A) (colsM B)) ≤ rkP p B := by
 have hp0 : 0 < p := by have := hp.1; omega
 have hsA := hA.shp hp0
 have hsB := hB.shp hp0
 have hs : Shp p (colsM B) (mulM p (modM p A) (modM p B) (colsM A) (colsM B)) := mulM_shp hp0
 by_cases h0 : A.length = 0
 ·have h1 : colsM (mulM p (modM p A) (modM p B) (colsM A) (colsM B)) = 0 := colsM_nil (by rw [mulM_len, modM_len]; exact h0)
  have h2 : rkP p (mulM p (modM p A) (modM p B) (colsM A) (colsM B)) = 0 := by unfold rkP; rw [h1]; rfl
  omega
 have hc : colsM (mulM p (modM p A) (modM p B) (colsM A) (colsM B)) = colsM B := hs.cols (fun e => by rw [mulM_len, modM_len] at e; omega)
 have hen : ∀ i, i < A.length → ∀ k, k < colsM B → Em p (en (mulM p (modM p A) (modM p B) (colsM A) (colsM B)) i k) (su (colsM A) fun j => en (modM p A) i j * en (modM p B) j k) := fun i hi k hk => by
  rw [mulM_get (by rw [modM_len]; exact hi) hk]; exact mulE_em
 unfold rkP
 rw [hc, modM_id hs]
 refine ⟨rk_le hp hsA hs fun k ⟨F, hF⟩ => ?_, rk_sp hp hsB hs fun i hi => ?_⟩
 ·obtain ⟨S, hS⟩ := Cb.all (k := (modM p A).length) (G := en (modM p A)) hF
  refine ⟨fun l k => su (colsM A) fun j => F l j * en (modM p B) j k, fun i hi => ⟨S i, fun c hcl => ?_⟩⟩
  rw [mulM_len, modM_len] at hi
  refine (hen i hi c hcl).trans ((su_em fun j hj => (hS i (by rw [modM_len]; exact hi) j hj).mul (Em.rf _)).trans (Em.of_eq ?_))
  rw [su_congr (g := fun j => su k fun l => S i l * (F l j * en (modM p B) j c)) (fun j _ => by
   rw [← su_mulr]; exact su_congr fun l _ => Int.mul_assoc ..), su_swap]
  exact su_congr fun l _ => su_mul ..
 ·rw [mulM_len, modM_len] at hi
  refine ⟨en (modM p A) i, fun c hcl => ?_⟩
  rw [modM_len, ← hq]
  exact hen i hi c hcl
theorem prod_dets {p : Nat} {A B : List (List Nat)} (hp : MR.Pr p) (hA : RectM A) (hB : RectM B) (hq : colsM A = B.length) (h1 : deP A = 0) (h2 : deP B = 0) :
  deP (mulM p (modM p A) (modM p B) (colsM A) (colsM B)) = 0 ∧ dtP p (mulM p (modM p A) (modM p B) (colsM A) (colsM B)) = dtP p A * dtP p B % p := by
 have hp0 : 0 < p := by have := hp.1; omega
 obtain ⟨a1, a2⟩ := deP_zero.1 h1
 obtain ⟨b1, b2⟩ := deP_zero.1 h2
 have hs : Shp p (colsM B) (mulM p (modM p A) (modM p B) (colsM A) (colsM B)) := mulM_shp hp0
 have hl : (mulM p (modM p A) (modM p B) (colsM A) (colsM B)).length = A.length := by rw [mulM_len, modM_len]
 have hc : colsM (mulM p (modM p A) (modM p B) (colsM A) (colsM B)) = colsM B := hs.cols (fun e => by omega)
 refine ⟨deP_zero.2 ⟨by omega, by omega⟩, ?_⟩
 have hcA : colsM A = A.length := a2.symm
 have hcB : colsM B = A.length := by omega
 have hsA := hA.shp hp0
 have hsB := hB.shp hp0
 unfold dtP
 rw [if_pos ⟨by omega, by omega⟩, if_pos ⟨a1, a2⟩, if_pos ⟨b1, b2⟩, hc, modM_id hs]
 rw [hcA, hcB] at *
 exact det_mul hp hsA hsB (modM_len ..) (by rw [modM_len]; omega) (by omega)
theorem modmatProducts_40 {pa pb : Option Addr} {na ca nb cb p : Nat} {A B : List (List Nat)} {w : World} (ht : Tb w) (hA : MS w pa na A) (hB : MS w pb nb B) (hp2 : p < 4294967296) (hsA : SmallM A) (hsB : SmallM B) (hp : ¬ MR.Pr p) :
  Calls Tryd.prog 7 #[.slice pa na ca, .slice pb nb cb, .int .u32 ((p : Nat) : Int)] w (Ret (Is (.bool true)) w) := by
 have hS := Sep.init w
 refine went Tryd.func7 rfl (n := 121) rfl rfl ?_
 refine wseq (wreg (wl rfl (oassign (v := .bool false) rfl rfl evc ?_)))
 refine wnil (thenN (wseq (wreg (wl rfl (omove (v := .slice pa na ca) rfl rfl (ev rfl rfl) ?_)))))
 refine wl rfl (omove (v := .slice pb nb cb) rfl rfl (ev rfl rfl) ?_)
 refine wl rfl (omove (v := .int .u32 (p : Int)) rfl rfl (ev rfl rfl) ?_)
 refine wl rfl (ocall rfl rfl Tryd.call23 rfl (wxmulM40 (ht.at hS) (hA.at hS) (hB.at hS) hp2 hsA hsB hp) (args3 (ev rfl rfl) (ev rfl rfl) (ev rfl rfl)) ?_)
 rintro _ w1 ⟨_, _, rfl, ⟨rfl, rfl⟩, hN⟩
 refine ⟨_, rfl, ?_⟩
 replace hS := hS.news hN; clear hN
 refine wl rfl (omove (v := .tuple #[.slice none 0 0, .int .i64 40]) rfl rfl (ev rfl rfl) ?_)
 refine wl rfl (oextract (vs := [.slice none 0 0, .int .i64 40]) (v := .slice none 0 0) rfl rfl (ev rfl rfl) rfl ?_)
 refine wl rfl (oextract (vs := [.slice none 0 0, .int .i64 40]) (v := .int .i64 40) rfl rfl (ev rfl rfl) rfl ?_)
 refine wl rfl (oassign (v := .slice none 0 0) rfl rfl (ev rfl rfl) ?_)
 refine wl rfl (oassign (v := .int .i64 40) rfl rfl (ev rfl rfl) ?_)
 refine wnil (thenN (wseq (wseq (wreg (wl rfl (omove (v := .int .i64 40) rfl rfl (ev rfl rfl) ?_))))))
 refine wl rfl (ocall rfl rfl Tryd.call11 rfl (wxnum) (args1 (ev rfl rfl)) ?_)
 rintro _ w2 ⟨_, _, rfl, ⟨rfl, rfl⟩, hN⟩
 refine ⟨_, rfl, ?_⟩
 replace hS := hS.news hN; clear hN
 refine wl rfl (obin (u := .int .i64 40) (v := .int .i64 0) (z := .bool true) rfl rfl (ev rfl rfl) evc (bin_neq (by decide)) ?_)
 refine wnil (thenN ?_)
 refine wT (ev rfl rfl) ?_
 refine wseq (wreg (wl rfl (omove (v := .slice none 0 0) rfl rfl (ev rfl rfl) ?_)))
 refine wl rfl (olen rfl rfl rfl Tryd.runUnderlying26 (p := none) (k := 0) (m := 0) (ev rfl rfl) ?_)
 refine wl rfl (obin (u := .int .i64 (((0 : Nat) : Int))) (v := .int .i64 0) (z := .bool true) rfl rfl (ev rfl rfl) evc (bin_eql (eqT rfl)) ?_)
 refine wl rfl (omove (v := .bool true) rfl rfl (ev rfl rfl) ?_)
 refine wlOn (e := 31) rfl rfl rfl rfl (ocall rfl rfl Tryd.call12 rfl (wxawake (ht.at hS)) (args0 ) ?_)
 rintro _ w3 ⟨_, _, rfl, ⟨rfl, rfl⟩, hN⟩
 refine ⟨_, rfl, ?_⟩
 replace hS := hS.news hN; clear hN
 refine wl rfl (opick (b := true) (v := .bool true) rfl rfl (ev rfl rfl) (ev rfl rfl) ?_)
 refine wl rfl (oassign (v := .bool true) rfl rfl (ev rfl rfl) ?_)
 refine wnil (thenN ?_)
 refine wleave ?_
 refine thenR ?_
 refine wret1 Tryd.results7 (tellT (v := .bool true) rfl rfl) ?_
 exact ⟨_, _, rfl, isI, hS.new0⟩
theorem modmatProducts_2 {pa pb : Option Addr} {na ca nb cb p : Nat} {A B : List (List Nat)} {w : World} (ht : Tb w) (hA : MS w pa na A) (hB : MS w pb nb B) (hp2 : p < 4294967296) (hsA : SmallM A) (hsB : SmallM B) (hp : MR.Pr p) (hr : ¬ (RectM A ∧ RectM B)) :
  Calls Tryd.prog 7 #[.slice pa na ca, .slice pb nb cb, .int .u32 ((p : Nat) : Int)] w (Ret (Is (.bool true)) w) := by
 have hS := Sep.init w
 refine went Tryd.func7 rfl (n := 121) rfl rfl ?_
 refine wseq (wreg (wl rfl (oassign (v := .bool false) rfl rfl evc ?_)))
 refine wnil (thenN (wseq (wreg (wl rfl (omove (v := .slice pa na ca) rfl rfl (ev rfl rfl) ?_)))))
 refine wl rfl (omove (v := .slice pb nb cb) rfl rfl (ev rfl rfl) ?_)
 refine wl rfl (omove (v := .int .u32 (p : Int)) rfl rfl (ev rfl rfl) ?_)
 refine wl rfl (ocall rfl rfl Tryd.call23 rfl (wxmulM2 (ht.at hS) (hA.at hS) (hB.at hS) hp2 hsA hsB hp hr) (args3 (ev rfl rfl) (ev rfl rfl) (ev rfl rfl)) ?_)
 rintro _ w1 ⟨_, _, rfl, ⟨rfl, rfl⟩, hN⟩
 refine ⟨_, rfl, ?_⟩
 replace hS := hS.news hN; clear hN
 refine wl rfl (omove (v := .tuple #[.slice none 0 0, .int .i64 2]) rfl rfl (ev rfl rfl) ?_)
 refine wl rfl (oextract (vs := [.slice none 0 0, .int .i64 2]) (v := .slice none 0 0) rfl rfl (ev rfl rfl) rfl ?_)
 refine wl rfl (oextract (vs := [.slice none 0 0, .int .i64 2]) (v := .int .i64 2) rfl rfl (ev rfl rfl) rfl ?_)
 refine wl rfl (oassign (v := .slice none 0 0) rfl rfl (ev rfl rfl) ?_)
 refine wl rfl (oassign (v := .int .i64 2) rfl rfl (ev rfl rfl) ?_)
 refine wnil (thenN (wseq (wseq (wreg (wl rfl (omove (v := .int .i64 2) rfl rfl (ev rfl rfl) ?_))))))
 refine wl rfl (ocall rfl rfl Tryd.call11 rfl (wxnum) (args1 (ev rfl rfl)) ?_)
 rintro _ w2 ⟨_, _, rfl, ⟨rfl, rfl⟩, hN⟩
 refine ⟨_, rfl, ?_⟩
 replace hS := hS.news hN; clear hN
 refine wl rfl (obin (u := .int .i64 2) (v := .int .i64 0) (z := .bool true) rfl rfl (ev rfl rfl) evc (bin_neq (by decide)) ?_)
 refine wnil (thenN ?_)
 refine wT (ev rfl rfl) ?_
 refine wseq (wreg (wl rfl (omove (v := .slice none 0 0) rfl rfl (ev rfl rfl) ?_)))
 refine wl rfl (olen rfl rfl rfl Tryd.runUnderlying26 (p := none) (k := 0) (m := 0) (ev rfl rfl) ?_)
 refine wl rfl (obin (u := .int .i64 (((0 : Nat) : Int))) (v := .int .i64 0) (z := .bool true) rfl rfl (ev rfl rfl) evc (bin_eql (eqT rfl)) ?_)
 refine wl rfl (omove (v := .bool true) rfl rfl (ev rfl rfl) ?_)
 refine wlOn (e := 31) rfl rfl rfl rfl (ocall rfl rfl Tryd.call12 rfl (wxawake (ht.at hS)) (args0 ) ?_)
 rintro _ w3 ⟨_, _, rfl, ⟨rfl, rfl⟩, hN⟩
 refine ⟨_, rfl, ?_⟩
 replace hS := hS.news hN; clear hN
 refine wl rfl (opick (b := true) (v := .bool true) rfl rfl (ev rfl rfl) (ev rfl rfl) ?_)
 refine wl rfl (oassign (v := .bool true) rfl rfl (ev rfl rfl) ?_)
 refine wnil (thenN ?_)
 refine wleave ?_
 refine thenR ?_
 refine wret1 Tryd.results7 (tellT (v := .bool true) rfl rfl) ?_
 exact ⟨_, _, rfl, isI, hS.new0⟩
theorem modmatProducts_3 {pa pb : Option Addr} {na ca nb cb p : Nat} {A B : List (List Nat)} {w : World} (ht : Tb w) (hA : MS w pa na A) (hB : MS w pb nb B) (hp2 : p < 4294967296) (hsA : SmallM A) (hsB : SmallM B) (hp : MR.Pr p) (hrA : RectM A) (hrB : RectM B) (hq : colsM A ≠ B.length) :
  Calls Tryd.prog 7 #[.slice pa na ca, .slice pb nb cb, .int .u32 ((p : Nat) : Int)] w (Ret (Is (.bool true)) w) := by
 have hS := Sep.init w
 refine went Tryd.func7 rfl (n := 121) rfl rfl ?_
 refine wseq (wreg (wl rfl (oassign (v := .bool false) rfl rfl evc ?_)))
 refine wnil (thenN (wseq (wreg (wl rfl (omove (v := .slice pa na ca) rfl rfl (ev rfl rfl) ?_)))))
 refine wl rfl (omove (v := .slice pb nb cb) rfl rfl (ev rfl rfl) ?_)
 refine wl rfl (omove (v := .int .u32 (p : Int)) rfl rfl (ev rfl rfl) ?_)
 refine wl rfl (ocall rfl rfl Tryd.call23 rfl (wxmulM3 (ht.at hS) (hA.at hS) (hB.at hS) hp2 hsA hsB hp hrA hrB hq) (args3 (ev rfl rfl) (ev rfl rfl) (ev rfl rfl)) ?_)
 rintro _ w1 ⟨_, _, rfl, ⟨rfl, rfl⟩, hN⟩
 refine ⟨_, rfl, ?_⟩
 replace hS := hS.news hN; clear hN
 refine wl rfl (omove (v := .tuple #[.slice none 0 0, .int .i64 2]) rfl rfl (ev rfl rfl) ?_)
 refine wl rfl (oextract (vs := [.slice none 0 0, .int .i64 2]) (v := .slice none 0 0) rfl rfl (ev rfl rfl) rfl ?_)
 refine wl rfl (oextract (vs := [.slice none 0 0, .int .i64 2]) (v := .int .i64 2) rfl rfl (ev rfl rfl) rfl ?_)
 refine wl rfl (oassign (v := .slice none 0 0) rfl rfl (ev rfl rfl) ?_)
 refine wl rfl (oassign (v := .int .i64 2) rfl rfl (ev rfl rfl) ?_)
 refine wnil (thenN (wseq (wseq (wreg (wl rfl (omove (v := .int .i64 2) rfl rfl (ev rfl rfl) ?_))))))
 refine wl rfl (ocall rfl rfl Tryd.call11 rfl (wxnum) (args1 (ev rfl rfl)) ?_)
 rintro _ w2 ⟨_, _, rfl, ⟨rfl, rfl⟩, hN⟩
 refine ⟨_, rfl, ?_⟩
 replace hS := hS.news hN; clear hN
 refine wl rfl (obin (u := .int .i64 2) (v := .int .i64 0) (z := .bool true) rfl rfl (ev rfl rfl) evc (bin_neq (by decide)) ?_)
 refine wnil (thenN ?_)
 refine wT (ev rfl rfl) ?_
 refine wseq (wreg (wl rfl (omove (v := .slice none 0 0) rfl rfl (ev rfl rfl) ?_)))
 refine wl rfl (olen rfl rfl rfl Tryd.runUnderlying26 (p := none) (k := 0) (m := 0) (ev rfl rfl) ?_)
 refine wl rfl (obin (u := .int .i64 (((0 : Nat) : Int))) (v := .int .i64 0) (z := .bool true) rfl rfl (ev rfl rfl) evc (bin_eql (eqT rfl)) ?_)
 refine wl rfl (omove (v := .bool true) rfl rfl (ev rfl rfl) ?_)
 refine wlOn (e := 31) rfl rfl rfl rfl (ocall rfl rfl Tryd.call12 rfl (wxawake (ht.at hS)) (args0 ) ?_)
 rintro _ w3 ⟨_, _, rfl, ⟨rfl, rfl⟩, hN⟩
 refine ⟨_, rfl, ?_⟩
 replace hS := hS.news hN; clear hN
 refine wl rfl (opick (b := true) (v := .bool true) rfl rfl (ev rfl rfl) (ev rfl rfl) ?_)
 refine wl rfl (oassign (v := .bool true) rfl rfl (ev rfl rfl) ?_)
 refine wnil (thenN ?_)
 refine wleave ?_
 refine thenR ?_
 refine wret1 Tryd.results7 (tellT (v := .bool true) rfl rfl) ?_
 exact ⟨_, _, rfl, isI, hS.new0⟩
theorem modmatProducts_ok {pa pb : Option Addr} {na ca nb cb p : Nat} {A B : List (List Nat)} {w : World} (ht : Tb w) (hA : MS w pa na A) (hB : MS w pb nb B) (hp2 : p < 4294967296) (hsA : SmallM A) (hsB : SmallM B) (hp : MR.Pr p) (hrA : RectM A) (hrB : RectM B) (hq : colsM A = B.length) :
  Calls Tryd.prog 7 #[.slice pa na ca, .slice pb nb cb, .int .u32 ((p : Nat) : Int)] w (Ret (Is (.bool true)) w) := by
 have hp1 := hp.1
 have hp0 : 0 < p := by omega
 have hcB := hsB.cols
 have hlA := hsA.1
 obtain ⟨r1, r2⟩ := prod_ranks hp hrA hrB hq
 have hdd := prod_dets hp hrA hrB hq
 have hNs : Shp p (colsM B) (mulM p (modM p A) (modM p B) (colsM A) (colsM B)) := mulM_shp hp0
 have hNl : (mulM p (modM p A) (modM p B) (colsM A) (colsM B)).length = A.length := by rw [mulM_len, modM_len]
 obtain ⟨N, hN⟩ : ∃ N, mulM p (modM p A) (modM p B) (colsM A) (colsM B) = N := ⟨_, rfl⟩
 rw [hN] at r1 r2 hdd hNs hNl
 have hrN : RectM N := fun r hr => by
  have h9 := List.length_pos_of_mem hr
  rw [hNs.cols (fun e => by omega)]; exact (hNs r hr).1
 have hsN : SmallM N := ⟨by omega, fun r hr => by rw [(hNs r hr).1]; exact hcB⟩
 have hd1l := dtP_lt (M := A) hp0
 have hd2l := dtP_lt (M := B) hp0
 have hd3l := dtP_lt (M := N) hp0
 obtain ⟨x, hx⟩ : ∃ x, rkP p A = x := ⟨_, rfl⟩
 obtain ⟨y, hy⟩ : ∃ x, rkP p B = x := ⟨_, rfl⟩
 obtain ⟨z, hz⟩ : ∃ x, rkP p N = x := ⟨_, rfl⟩
 obtain ⟨d1, hd1⟩ : ∃ x, dtP p A = x := ⟨_, rfl⟩
 obtain ⟨d2, hd2⟩ : ∃ x, dtP p B = x := ⟨_, rfl⟩
 obtain ⟨d3, hd3⟩ : ∃ x, dtP p N = x := ⟨_, rfl⟩
 obtain ⟨e1, he1⟩ : ∃ x, deP A = x := ⟨_, rfl⟩
 obtain ⟨e2, he2⟩ : ∃ x, deP B = x := ⟨_, rfl⟩
 obtain ⟨e3, he3⟩ : ∃ x, deP N = x := ⟨_, rfl⟩
 rw [hx, hz] at r1
 rw [hy, hz] at r2
 rw [he1, he2, he3, hd1, hd2, hd3] at hdd
 rw [hd1] at hd1l
 rw [hd2] at hd2l
 rw [hd3] at hd3l
 have hS := Sep.init w
 refine went Tryd.func7 rfl (n := 121) rfl rfl ?_
 refine wseq (wreg (wl rfl (oassign (v := .bool false) rfl rfl evc ?_)))
 refine wnil (thenN (wseq (wreg (wl rfl (omove (v := .slice pa na ca) rfl rfl (ev rfl rfl) ?_)))))
 refine wl rfl (omove (v := .slice pb nb cb) rfl rfl (ev rfl rfl) ?_)
 refine wl rfl (omove (v := .int .u32 (p : Int)) rfl rfl (ev rfl rfl) ?_)
 refine wl rfl (ocall rfl rfl Tryd.call23 rfl ((show Calls _ _ _ _ (Ret (MmE N 0) _) from by have h9 := wxmulM (ca := ca) (cb := cb) (ht.at hS) (hA.at hS) (hB.at hS) hp2 hsA hsB hp hrA hrB hq; rwa [hN] at h9)) (args3 (ev rfl rfl) (ev rfl rfl) (ev rfl rfl)) ?_)
 rintro _ w1 ⟨_, _, rfl, ⟨pV, cV, QV, hQV, rfl, rfl⟩, hN⟩
 refine ⟨_, rfl, ?_⟩
 replace hS := hS.news hN; clear hN
 refine wl rfl (omove (v := .tuple #[.slice pV N.length cV, .int .i64 0]) rfl rfl (ev rfl rfl) ?_)
 refine wl rfl (oextract (vs := [.slice pV N.length cV, .int .i64 0]) (v := .slice pV N.length cV) rfl rfl (ev rfl rfl) rfl ?_)
 refine wl rfl (oextract (vs := [.slice pV N.length cV, .int .i64 0]) (v := .int .i64 0) rfl rfl (ev rfl rfl) rfl ?_)
 refine wl rfl (oassign (v := .slice pV N.length cV) rfl rfl (ev rfl rfl) ?_)
 refine wl rfl (oassign (v := .int .i64 0) rfl rfl (ev rfl rfl) ?_)
 refine wnil (thenN (wseq (wseq (wreg (wl rfl (omove (v := .int .i64 0) rfl rfl (ev rfl rfl) ?_))))))
 refine wl rfl (ocall rfl rfl Tryd.call11 rfl (wxnum) (args1 (ev rfl rfl)) ?_)
 rintro _ w2 ⟨_, _, rfl, ⟨rfl, rfl⟩, hN⟩
 refine ⟨_, rfl, ?_⟩
 replace hS := hS.news hN; clear hN
 refine wl rfl (obin (u := .int .i64 0) (v := .int .i64 0) (z := .bool false) rfl rfl (ev rfl rfl) evc (bin_neq (by decide)) ?_)
 refine wnil (thenN ?_)
 refine wF (ev rfl rfl) ?_
 refine wskip (thenN (wseq (wreg (wl rfl (omove (v := .slice pa na ca) rfl rfl (ev rfl rfl) ?_)))))
 refine wl rfl (omove (v := .int .u32 (p : Int)) rfl rfl (ev rfl rfl) ?_)
 refine wl rfl (ocall rfl rfl Tryd.call21 rfl ((show Calls _ _ _ _ (Ret (Is (.tuple #[.int .i64 (x : Int), .int .i64 0])) _) from by have h9 := wxrank (cm := ca) (ht.at hS) (hA.at hS) hp2 hsA hp hrA; rwa [hx] at h9)) (args2 (ev rfl rfl) (ev rfl rfl)) ?_)
 rintro _ w3 ⟨_, _, rfl, ⟨rfl, rfl⟩, hN⟩
 refine ⟨_, rfl, ?_⟩
 replace hS := hS.news hN; clear hN
 refine wl rfl (omove (v := .tuple #[.int .i64 (x : Int), .int .i64 0]) rfl rfl (ev rfl rfl) ?_)
 refine wl rfl (oextract (vs := [.int .i64 (x : Int), .int .i64 0]) (v := .int .i64 (x : Int)) rfl rfl (ev rfl rfl) rfl ?_)
 refine wl rfl (oextract (vs := [.int .i64 (x : Int), .int .i64 0]) (v := .int .i64 0) rfl rfl (ev rfl rfl) rfl ?_)
 refine wl rfl (oassign (v := .int .i64 (x : Int)) rfl rfl (ev rfl rfl) ?_)
 refine wl rfl (oassign (v := .int .i64 0) rfl rfl (ev rfl rfl) ?_)
 refine wnil (thenN (wseq (wreg (wl rfl (omove (v := .slice pb nb cb) rfl rfl (ev rfl rfl) ?_)))))
 refine wl rfl (omove (v := .int .u32 (p : Int)) rfl rfl (ev rfl rfl) ?_)
 refine wl rfl (ocall rfl rfl Tryd.call21 rfl ((show Calls _ _ _ _ (Ret (Is (.tuple #[.int .i64 (y : Int), .int .i64 0])) _) from by have h9 := wxrank (cm := cb) (ht.at hS) (hB.at hS) hp2 hsB hp hrB; rwa [hy] at h9)) (args2 (ev rfl rfl) (ev rfl rfl)) ?_)
 rintro _ w4 ⟨_, _, rfl, ⟨rfl, rfl⟩, hN⟩
 refine ⟨_, rfl, ?_⟩
 replace hS := hS.news hN; clear hN
 refine wl rfl (omove (v := .tuple #[.int .i64 (y : Int), .int .i64 0]) rfl rfl (ev rfl rfl) ?_)
 refine wl rfl (oextract (vs := [.int .i64 (y : Int), .int .i64 0]) (v := .int .i64 (y : Int)) rfl rfl (ev rfl rfl) rfl ?_)
 refine wl rfl (oextract (vs := [.int .i64 (y : Int), .int .i64 0]) (v := .int .i64 0) rfl rfl (ev rfl rfl) rfl ?_)
 refine wl rfl (oassign (v := .int .i64 (y : Int)) rfl rfl (ev rfl rfl) ?_)
 refine wl rfl (oassign (v := .int .i64 0) rfl rfl (ev rfl rfl) ?_)
 refine wnil (thenN (wseq (wreg (wl rfl (omove (v := .slice pV N.length cV) rfl rfl (ev rfl rfl) ?_)))))
 refine wl rfl (omove (v := .int .u32 (p : Int)) rfl rfl (ev rfl rfl) ?_)
 refine wl rfl (ocall rfl rfl Tryd.call21 rfl ((show Calls _ _ _ _ (Ret (Is (.tuple #[.int .i64 (z : Int), .int .i64 0])) _) from by have h9 := wxrank (cm := cV) (ht.at hS) (show MS _ pV N.length N from by have h9 := hS.ms (n := N.length) 0 rfl (by simp only [maxLen]; omega); rwa [hQV] at h9) hp2 hsN hp hrN; rwa [hz] at h9)) (args2 (ev rfl rfl) (ev rfl rfl)) ?_)
 rintro _ w5 ⟨_, _, rfl, ⟨rfl, rfl⟩, hN⟩
 refine ⟨_, rfl, ?_⟩
 replace hS := hS.news hN; clear hN
 refine wl rfl (omove (v := .tuple #[.int .i64 (z : Int), .int .i64 0]) rfl rfl (ev rfl rfl) ?_)
 refine wl rfl (oextract (vs := [.int .i64 (z : Int), .int .i64 0]) (v := .int .i64 (z : Int)) rfl rfl (ev rfl rfl) rfl ?_)
 refine wl rfl (oextract (vs := [.int .i64 (z : Int), .int .i64 0]) (v := .int .i64 0) rfl rfl (ev rfl rfl) rfl ?_)
 refine wl rfl (oassign (v := .int .i64 (z : Int)) rfl rfl (ev rfl rfl) ?_)
 refine wl rfl (oassign (v := .int .i64 0) rfl rfl (ev rfl rfl) ?_)
 refine wnil (thenN (wseq (wseq (wreg (wl rfl (omove (v := .int .i64 0) rfl rfl (ev rfl rfl) ?_))))))
 refine wl rfl (ocall rfl rfl Tryd.call11 rfl (wxnum) (args1 (ev rfl rfl)) ?_)
 rintro _ w6 ⟨_, _, rfl, ⟨rfl, rfl⟩, hN⟩
 refine ⟨_, rfl, ?_⟩
 replace hS := hS.news hN; clear hN
 refine wl rfl (obin (u := .int .i64 0) (v := .int .i64 0) (z := .bool false) rfl rfl (ev rfl rfl) evc (bin_neq (by decide)) ?_)
 refine wl rfl (omove (v := .bool false) rfl rfl (ev rfl rfl) ?_)
 refine wlOn (e := 55) rfl rfl rfl rfl (omove (v := .int .i64 0) rfl rfl (ev rfl rfl) ?_)
 refine wlOn (e := 55) rfl rfl rfl rfl (ocall rfl rfl Tryd.call11 rfl (wxnum) (args1 (ev rfl rfl)) ?_)
 rintro _ w7 ⟨_, _, rfl, ⟨rfl, rfl⟩, hN⟩
 refine ⟨_, rfl, ?_⟩
 replace hS := hS.news hN; clear hN
 refine wlOn (e := 55) rfl rfl rfl rfl (obin (u := .int .i64 0) (v := .int .i64 0) (z := .bool false) rfl rfl (ev rfl rfl) evc (bin_neq (by decide)) ?_)
 refine wl rfl (opick (b := false) (v := .bool false) rfl rfl (ev rfl rfl) (ev rfl rfl) ?_)
 refine wl rfl (omove (v := .bool false) rfl rfl (ev rfl rfl) ?_)
 refine wlOn (e := 60) rfl rfl rfl rfl (omove (v := .int .i64 0) rfl rfl (ev rfl rfl) ?_)
 refine wlOn (e := 60) rfl rfl rfl rfl (ocall rfl rfl Tryd.call11 rfl (wxnum) (args1 (ev rfl rfl)) ?_)
 rintro _ w8 ⟨_, _, rfl, ⟨rfl, rfl⟩, hN⟩
 refine ⟨_, rfl, ?_⟩
 replace hS := hS.news hN; clear hN
 refine wlOn (e := 60) rfl rfl rfl rfl (obin (u := .int .i64 0) (v := .int .i64 0) (z := .bool false) rfl rfl (ev rfl rfl) evc (bin_neq (by decide)) ?_)
 refine wl rfl (opick (b := false) (v := .bool false) rfl rfl (ev rfl rfl) (ev rfl rfl) ?_)
 refine wl rfl (omove (v := .bool false) rfl rfl (ev rfl rfl) ?_)
 refine wlOn (e := 65) rfl rfl rfl rfl (omove (v := .int .i64 (z : Int)) rfl rfl (ev rfl rfl) ?_)
 refine wlOn (e := 65) rfl rfl rfl rfl (omove (v := .int .i64 (x : Int)) rfl rfl (ev rfl rfl) ?_)
 refine wlOn (e := 65) rfl rfl rfl rfl (obin (u := .int .i64 (z : Int)) (v := .int .i64 (x : Int)) (z := .bool false) rfl rfl (ev rfl rfl) (ev rfl rfl) (bin_gtr (decide_eq_false (by omega))) ?_)
 refine wl rfl (opick (b := false) (v := .bool false) rfl rfl (ev rfl rfl) (ev rfl rfl) ?_)
 refine wl rfl (omove (v := .bool false) rfl rfl (ev rfl rfl) ?_)
 refine wlOn (e := 70) rfl rfl rfl rfl (omove (v := .int .i64 (z : Int)) rfl rfl (ev rfl rfl) ?_)
 refine wlOn (e := 70) rfl rfl rfl rfl (omove (v := .int .i64 (y : Int)) rfl rfl (ev rfl rfl) ?_)
 refine wlOn (e := 70) rfl rfl rfl rfl (obin (u := .int .i64 (z : Int)) (v := .int .i64 (y : Int)) (z := .bool false) rfl rfl (ev rfl rfl) (ev rfl rfl) (bin_gtr (decide_eq_false (by omega))) ?_)
 refine wl rfl (opick (b := false) (v := .bool false) rfl rfl (ev rfl rfl) (ev rfl rfl) ?_)
 refine wnil (thenN ?_)
 refine wF (ev rfl rfl) ?_
 refine wskip (thenN (wseq (wreg (wl rfl (omove (v := .slice pa na ca) rfl rfl (ev rfl rfl) ?_)))))
 refine wl rfl (omove (v := .int .u32 (p : Int)) rfl rfl (ev rfl rfl) ?_)
 refine wl rfl (ocall rfl rfl Tryd.call22 rfl ((show Calls _ _ _ _ (Ret (Is (.tuple #[.int .u32 (d1 : Int), .int .i64 (e1 : Int)])) _) from by have h9 := wxdetany (cm := ca) (ht.at hS) (hA.at hS) hp2 hsA hp hrA; rwa [hd1, he1] at h9)) (args2 (ev rfl rfl) (ev rfl rfl)) ?_)
 rintro _ w9 ⟨_, _, rfl, ⟨rfl, rfl⟩, hN⟩
 refine ⟨_, rfl, ?_⟩
 replace hS := hS.news hN; clear hN
 refine wl rfl (omove (v := .tuple #[.int .u32 (d1 : Int), .int .i64 (e1 : Int)]) rfl rfl (ev rfl rfl) ?_)
 refine wl rfl (oextract (vs := [.int .u32 (d1 : Int), .int .i64 (e1 : Int)]) (v := .int .u32 (d1 : Int)) rfl rfl (ev rfl rfl) rfl ?_)
 refine wl rfl (oextract (vs := [.int .u32 (d1 : Int), .int .i64 (e1 : Int)]) (v := .int .i64 (e1 : Int)) rfl rfl (ev rfl rfl) rfl ?_)
 refine wl rfl (oassign (v := .int .u32 (d1 : Int)) rfl rfl (ev rfl rfl) ?_)
 refine wl rfl (oassign (v := .int .i64 (e1 : Int)) rfl rfl (ev rfl rfl) ?_)
 refine wnil (thenN (wseq (wreg (wl rfl (omove (v := .slice pb nb cb) rfl rfl (ev rfl rfl) ?_)))))
 refine wl rfl (omove (v := .int .u32 (p : Int)) rfl rfl (ev rfl rfl) ?_)
 refine wl rfl (ocall rfl rfl Tryd.call22 rfl ((show Calls _ _ _ _ (Ret (Is (.tuple #[.int .u32 (d2 : Int), .int .i64 (e2 : Int)])) _) from by have h9 := wxdetany (cm := cb) (ht.at hS) (hB.at hS) hp2 hsB hp hrB; rwa [hd2, he2] at h9)) (args2 (ev rfl rfl) (ev rfl rfl)) ?_)
 rintro _ w10 ⟨_, _, rfl, ⟨rfl, rfl⟩, hN⟩
 refine ⟨_, rfl, ?_⟩
 replace hS := hS.news hN; clear hN
 refine wl rfl (omove (v := .tuple #[.int .u32 (d2 : Int), .int .i64 (e2 : Int)]) rfl rfl (ev rfl rfl) ?_)
 refine wl rfl (oextract (vs := [.int .u32 (d2 : Int), .int .i64 (e2 : Int)]) (v := .int .u32 (d2 : Int)) rfl rfl (ev rfl rfl) rfl ?_)
 refine wl rfl (oextract (vs := [.int .u32 (d2 : Int), .int .i64 (e2 : Int)]) (v := .int .i64 (e2 : Int)) rfl rfl (ev rfl rfl) rfl ?_)
 refine wl rfl (oassign (v := .int .u32 (d2 : Int)) rfl rfl (ev rfl rfl) ?_)
 refine wl rfl (oassign (v := .int .i64 (e2 : Int)) rfl rfl (ev rfl rfl) ?_)
 refine wnil (thenN (wseq (wreg (wl rfl (omove (v := .slice pV N.length cV) rfl rfl (ev rfl rfl) ?_)))))
 refine wl rfl (omove (v := .int .u32 (p : Int)) rfl rfl (ev rfl rfl) ?_)
 refine wl rfl (ocall rfl rfl Tryd.call22 rfl ((show Calls _ _ _ _ (Ret (Is (.tuple #[.int .u32 (d3 : Int), .int .i64 (e3 : Int)])) _) from by have h9 := wxdetany (cm := cV) (ht.at hS) (show MS _ pV N.length N from by have h9 := hS.ms (n := N.length) 0 rfl (by simp only [maxLen]; omega); rwa [hQV] at h9) hp2 hsN hp hrN; rwa [hd3, he3] at h9)) (args2 (ev rfl rfl) (ev rfl rfl)) ?_)
 rintro _ w11 ⟨_, _, rfl, ⟨rfl, rfl⟩, hN⟩
 refine ⟨_, rfl, ?_⟩
 replace hS := hS.news hN; clear hN
 refine wl rfl (omove (v := .tuple #[.int .u32 (d3 : Int), .int .i64 (e3 : Int)]) rfl rfl (ev rfl rfl) ?_)
 refine wl rfl (oextract (vs := [.int .u32 (d3 : Int), .int .i64 (e3 : Int)]) (v := .int .u32 (d3 : Int)) rfl rfl (ev rfl rfl) rfl ?_)
 refine wl rfl (oextract (vs := [.int .u32 (d3 : Int), .int .i64 (e3 : Int)]) (v := .int .i64 (e3 : Int)) rfl rfl (ev rfl rfl) rfl ?_)
 refine wl rfl (oassign (v := .int .u32 (d3 : Int)) rfl rfl (ev rfl rfl) ?_)
 refine wl rfl (oassign (v := .int .i64 (e3 : Int)) rfl rfl (ev rfl rfl) ?_)
 refine wnil (thenN (wseq (wseq (wreg (wl rfl (omove (v := .int .i64 (e1 : Int)) rfl rfl (ev rfl rfl) ?_))))))
 refine wl rfl (ocall rfl rfl Tryd.call11 rfl (wxnum) (args1 (ev rfl rfl)) ?_)
 rintro _ w12 ⟨_, _, rfl, ⟨rfl, rfl⟩, hN⟩
 refine ⟨_, rfl, ?_⟩
 replace hS := hS.news hN; clear hN
 by_cases h1 : e1 = 0
 ·
  refine wl rfl (obin (u := .int .i64 (e1 : Int)) (v := .int .i64 0) (z := .bool false) rfl rfl (ev rfl rfl) evc (bin_neq (neF (by omega))) ?_)
  refine wl rfl (omove (v := .bool false) rfl rfl (ev rfl rfl) ?_)
  refine wlOn (e := 96) rfl rfl rfl rfl (omove (v := .int .i64 (e2 : Int)) rfl rfl (ev rfl rfl) ?_)
  refine wlOn (e := 96) rfl rfl rfl rfl (ocall rfl rfl Tryd.call11 rfl (wxnum) (args1 (ev rfl rfl)) ?_)
  rintro _ w13 ⟨_, _, rfl, ⟨rfl, rfl⟩, hN⟩
  refine ⟨_, rfl, ?_⟩
  replace hS := hS.news hN; clear hN
  by_cases h2 : e2 = 0
  ·
   refine wlOn (e := 96) rfl rfl rfl rfl (obin (u := .int .i64 (e2 : Int)) (v := .int .i64 0) (z := .bool false) rfl rfl (ev rfl rfl) evc (bin_neq (neF (by omega))) ?_)
   refine wl rfl (opick (b := false) (v := .bool false) rfl rfl (ev rfl rfl) (ev rfl rfl) ?_)
   refine wnil (thenN ?_)
   refine wF (ev rfl rfl) ?_
   refine wskip (thenN (wseq (wreg (wl rfl (omove (v := .int .i64 (e3 : Int)) rfl rfl (ev rfl rfl) ?_)))))
   refine wl rfl (ocall rfl rfl Tryd.call11 rfl (wxnum) (args1 (ev rfl rfl)) ?_)
   rintro _ w14 ⟨_, _, rfl, ⟨rfl, rfl⟩, hN⟩
   refine ⟨_, rfl, ?_⟩
   replace hS := hS.news hN; clear hN
   obtain ⟨k1, k2⟩ := hdd h1 h2
   have hm9 := mod_lt32 (a := d1 * d2) hp0 hp2
   refine wl rfl (obin (u := .int .i64 (e3 : Int)) (v := .int .i64 0) (z := .bool true) rfl rfl (ev rfl rfl) evc (bin_eql (eqT (by omega))) ?_)
   refine wl rfl (omove (v := .bool true) rfl rfl (ev rfl rfl) ?_)
   refine wlOn (e := 105) rfl rfl rfl rfl (omove (v := .int .u32 (d1 : Int)) rfl rfl (ev rfl rfl) ?_)
   refine wlOn (e := 105) rfl rfl rfl rfl (oconvert (u := .int .u32 (d1 : Int)) (v := .int .u64 (d1 : Int)) rfl rfl (ev rfl rfl) (convert_int Tryd.runUnderlying27 Tryd.runUnderlying47 (wrap_u64 (by omega) (by omega))) ?_)
   refine wlOn (e := 105) rfl rfl rfl rfl (omove (v := .int .u32 (d2 : Int)) rfl rfl (ev rfl rfl) ?_)
   refine wlOn (e := 105) rfl rfl rfl rfl (oconvert (u := .int .u32 (d2 : Int)) (v := .int .u64 (d2 : Int)) rfl rfl (ev rfl rfl) (convert_int Tryd.runUnderlying27 Tryd.runUnderlying47 (wrap_u64 (by omega) (by omega))) ?_)
   refine wlOn (e := 105) rfl rfl rfl rfl (obin (u := .int .u64 (d1 : Int)) (v := .int .u64 (d2 : Int)) (z := .int .u64 (((d1 * d2 : Nat) : Int))) rfl rfl (ev rfl rfl) (ev rfl rfl) (bin_mul (mul_u64 (by omega) (by omega))) ?_)
   refine wlOn (e := 105) rfl rfl rfl rfl (omove (v := .int .u32 (p : Int)) rfl rfl (ev rfl rfl) ?_)
   refine wlOn (e := 105) rfl rfl rfl rfl (oconvert (u := .int .u32 (p : Int)) (v := .int .u64 (p : Int)) rfl rfl (ev rfl rfl) (convert_int Tryd.runUnderlying27 Tryd.runUnderlying47 (wrap_u64 (by omega) (by omega))) ?_)
   refine wlOn (e := 105) rfl rfl rfl rfl (obin (u := .int .u64 (((d1 * d2 : Nat) : Int))) (v := .int .u64 (p : Int)) (z := .int .u64 (((d1 * d2 % p : Nat) : Int))) rfl rfl (ev rfl rfl) (ev rfl rfl) (bin_rem (by omega) rfl) ?_)
   refine wlOn (e := 105) rfl rfl rfl rfl (omove (v := .int .u32 (d3 : Int)) rfl rfl (ev rfl rfl) ?_)
   refine wlOn (e := 105) rfl rfl rfl rfl (oconvert (u := .int .u32 (d3 : Int)) (v := .int .u64 (d3 : Int)) rfl rfl (ev rfl rfl) (convert_int Tryd.runUnderlying27 Tryd.runUnderlying47 (wrap_u64 (by omega) (by omega))) ?_)
   refine wlOn (e := 105) rfl rfl rfl rfl (obin (u := .int .u64 (((d1 * d2 % p : Nat) : Int))) (v := .int .u64 (d3 : Int)) (z := .bool true) rfl rfl (ev rfl rfl) (ev rfl rfl) (bin_eql (eqT (by rw [k2]))) ?_)
   refine wl rfl (opick (b := true) (v := .bool true) rfl rfl (ev rfl rfl) (ev rfl rfl) ?_)
   refine wl rfl (omove (v := .bool true) rfl rfl (ev rfl rfl) ?_)
   refine wlOn (e := 118) rfl rfl rfl rfl (ocall rfl rfl Tryd.call12 rfl (wxawake (ht.at hS)) (args0 ) ?_)
   rintro _ w15 ⟨_, _, rfl, ⟨rfl, rfl⟩, hN⟩
   refine ⟨_, rfl, ?_⟩
   replace hS := hS.news hN; clear hN
   refine wl rfl (opick (b := true) (v := .bool true) rfl rfl (ev rfl rfl) (ev rfl rfl) ?_)
   refine wl rfl (oassign (v := .bool true) rfl rfl (ev rfl rfl) ?_)
   refine wnil (thenN ?_)
   refine wleave ?_
   refine wret1 Tryd.results7 (tellT (v := .bool true) rfl rfl) ?_
   exact ⟨_, _, rfl, isI, hS.new0⟩
  ·
   refine wlOn (e := 96) rfl rfl rfl rfl (obin (u := .int .i64 (e2 : Int)) (v := .int .i64 0) (z := .bool true) rfl rfl (ev rfl rfl) evc (bin_neq (neT (by omega))) ?_)
   refine wl rfl (opick (b := false) (v := .bool true) rfl rfl (ev rfl rfl) (ev rfl rfl) ?_)
   refine wnil (thenN ?_)
   refine wT (ev rfl rfl) ?_
   refine wseq (wreg (wl rfl (ocall rfl rfl Tryd.call12 rfl (wxawake (ht.at hS)) (args0 ) ?_)))
   rintro _ w14 ⟨_, _, rfl, ⟨rfl, rfl⟩, hN⟩
   refine ⟨_, rfl, ?_⟩
   replace hS := hS.news hN; clear hN
   refine wl rfl (oassign (v := .bool true) rfl rfl (ev rfl rfl) ?_)
   refine wnil (thenN ?_)
   refine wleave ?_
   refine thenR ?_
   refine wret1 Tryd.results7 (tellT (v := .bool true) rfl rfl) ?_
   exact ⟨_, _, rfl, isI, hS.new0⟩
 ·
  refine wl rfl (obin (u := .int .i64 (e1 : Int)) (v := .int .i64 0) (z := .bool true) rfl rfl (ev rfl rfl) evc (bin_neq (neT (by omega))) ?_)
  refine wl rfl (omove (v := .bool true) rfl rfl (ev rfl rfl) ?_)
  refine wlOff (e := 96) (d := 97) (b' := true) rfl rfl rfl rfl rfl rfl ?_
  refine wlOff (e := 96) (d := 98) (b' := true) rfl rfl rfl rfl rfl rfl ?_
  refine wlOff (e := 96) (d := 99) (b' := true) rfl rfl rfl rfl rfl rfl ?_
  refine wl rfl (opick (b := true) (v := .bool true) rfl rfl (ev rfl rfl) evc ?_)
  refine wnil (thenN ?_)
  refine wT (ev rfl rfl) ?_
  refine wseq (wreg (wl rfl (ocall rfl rfl Tryd.call12 rfl (wxawake (ht.at hS)) (args0 ) ?_)))
  rintro _ w13 ⟨_, _, rfl, ⟨rfl, rfl⟩, hN⟩
  refine ⟨_, rfl, ?_⟩
  replace hS := hS.news hN; clear hN
  refine wl rfl (oassign (v := .bool true) rfl rfl (ev rfl rfl) ?_)
  refine wnil (thenN ?_)
  refine wleave ?_
  refine thenR ?_
  refine wret1 Tryd.results7 (tellT (v := .bool true) rfl rfl) ?_
  exact ⟨_, _, rfl, isI, hS.new0⟩
theorem modmatProducts_walk {pa pb : Option Addr} {na ca nb cb : Nat} {s : Int} {A B : List (List Nat)} {w : World} (hA : MS w pa na A) (hsA : SmallM A) (hB : MS w pb nb B) (hsB : SmallM B) (h1 : Tab w) (h2 : Bases w) (b1 : 0 ≤ s ∧ s ≤ 4294967295) : Calls Tryd.prog 7 #[.slice pa na ca, .slice pb nb cb, .int .u32 s] w (RetB w true) := by
  obtain ⟨p, rfl⟩ := Int.eq_ofNat_of_zero_le b1.1
  have hp2 : p < 4294967296 := by omega
  have ht : Tb w := ⟨h1, h2⟩
  by_cases hp : MR.Pr p
  case neg => exact Ret.bool (modmatProducts_40 ht hA hB hp2 hsA hsB hp)
  by_cases hr : RectM A ∧ RectM B
  case neg => exact Ret.bool (modmatProducts_2 ht hA hB hp2 hsA hsB hp hr)
  by_cases hq : colsM A = B.length
  case neg => exact Ret.bool (modmatProducts_3 ht hA hB hp2 hsA hsB hp hr.1 hr.2 hq)
  exact Ret.bool (modmatProducts_ok ht hA hB hp2 hsA hsB hp hr.1 hr.2 hq)
end Go.Proofs.YtndilfigdbenoaaDoor
