
/-
  The walk of similelaw10.ModmatKernels.
-/
import Derived.Test.YtndilfigdbenoaaDoorM8
import Derived.Test.YtndilfigdbenoaaDoorMmOpen
import Derived.Test.YtndilfigdbenoaaDoorLT
set_option linter.unusedVariables false
set_option linter.unusedSimpArgs false
set_option maxRecDepth 100000
set_option maxHeartbeats 16000000
namespace Go.Proofs.YtndilfigdbenoaaDoor
open Go.RowKit
theorem kerTo_lt {p C c : Nat} {R : List (List Nat)} {P : List Nat} (hp : 1 < p) : ∀ i, ∀ x ∈ kerTo p C R P c i, x < p
 | 0, x, hx => by
  rcases List.mem_or_eq_of_mem_set hx with h | h
  ·rw [List.eq_of_mem_replicate h]; omega
  ·omega
 | i + 1, x, hx => by
  rcases List.mem_or_eq_of_mem_set hx with h | h
  ·exact kerTo_lt hp i x h
  ·rw [h]; exact Nat.mod_lt _ (by omega)
theorem kerM_mem {p C : Nat} {R : List (List Nat)} {P : List Nat} {x : List Nat} : ∀ c, x ∈ kerM p C R P c → ∃ d, d < c ∧ ¬ d ∈ P ∧ x = kerTo p C R P d P.length
 | 0, h => by cases h
 | c + 1, h => by
  rw [kerM] at h
  split at h
  ·obtain ⟨d, h1, h2⟩ := kerM_mem c h; exact ⟨d, by omega, h2⟩
  ·rename_i h0
   rcases List.mem_append.1 h with h | h
   ·obtain ⟨d, h1, h2⟩ := kerM_mem c h; exact ⟨d, by omega, h2⟩
   ·exact ⟨c, by omega, h0, List.mem_singleton.1 h⟩
theorem kerM_count {p C : Nat} {R : List (List Nat)} {P : List Nat} (ii : ∀ i k, i < k → k < P.length → nd P i < nd P k) : ∀ c, ∃ k, k ≤ P.length ∧ (kerM p C R P c).length + k = c ∧ (∀ i, i < k → nd P i < c) ∧ ∀ i, k ≤ i → i < P.length → c ≤ nd P i
 | 0 => ⟨0, Nat.zero_le _, rfl, fun i hi => by omega, fun i _ _ => Nat.zero_le _⟩
 | c + 1 => by
  obtain ⟨k, h0, h1, h2, h3⟩ := kerM_count (p := p) (C := C) (R := R) ii c
  rw [kerM]
  by_cases hc : c ∈ P
  ·rw [if_pos hc]
   obtain ⟨j, hj, hjc⟩ := mem_nd hc
   have hjk : j = k := by
    rcases Nat.lt_trichotomy j k with h | h | h
    ·have := h2 j h; omega
    ·exact h
    ·have := h3 k (Nat.le_refl _) (by omega)
     have := ii k j h hj
     omega
   subst hjk
   refine ⟨j + 1, hj, by omega, fun i hi => ?_, fun i hi hi2 => ?_⟩
   ·by_cases e : i = j
    ·subst e; omega
    ·have := h2 i (by omega); omega
   ·have := ii j i (by omega) hi2; omega
  ·rw [if_neg hc, List.length_append]
   refine ⟨k, h0, by simp only [List.length_cons, List.length_nil]; omega, fun i hi => by have := h2 i hi; omega, fun i hi hi2 => ?_⟩
   have h4 := h3 i hi hi2
   have : nd P i ≠ c := fun e => hc (by rw [← e, nd_get hi2]; exact List.getElem_mem _)
   omega
theorem kerTo_em {p C c : Nat} {R : List (List Nat)} {P : List Nat} (hp : 0 < p) (hc : c < C) (hcP : ∀ i, i < P.length → nd P i ≠ c) (ii : ∀ i k, i < k → k < P.length → nd P i < nd P k) (hlt : ∀ i, nd (R.getD i []) c < p) : ∀ i, i ≤ P.length → ∀ j, j < C → Em p ((nd (kerTo p C R P c i) j : Nat) : Int) ((if j = c then 1 else 0) - su i fun l => if nd P l = j then en R l c else 0)
 | 0, _, j, hj => Em.of_eq (by
  rw [kerTo, nd_set _ _ _ _ (by simpa using hc), su]
  by_cases e : j = c
  ·rw [if_pos e, if_pos e]; rfl
  ·rw [if_neg e, if_neg e, nd_get (by simpa using hj), List.getElem_replicate]; rfl)
 | i + 1, hi, j, hj => by
  have ih := kerTo_em hp hc hcP ii hlt i (by omega) j hj
  rw [kerTo, su]
  by_cases e : nd P i = j
  ·rw [if_pos e, nd_set _ _ _ _ (by rw [kerTo_len, e]; exact hj), if_pos e.symm, if_neg (fun h => hcP i (by omega) (e.trans h)), su_zero (fun l hl => if_neg (fun h => by have := ii l i hl (by omega); omega))]
   refine (Em.md _).trans ?_
   have := hlt i
   rw [show ((0 + p - nd (R.getD i []) c : Nat) : Int) = (0 - (0 + en R i c)) + p by unfold en; omega]
   exact ((Em.rf _).add Em.pz).trans (Em.of_eq (by omega))
  ·rw [if_neg e]
   refine (Em.of_eq ?_).trans (ih.trans (Em.of_eq (by omega)))
   by_cases hl : nd P i < (kerTo p C R P c i).length
   ·rw [nd_set _ _ _ _ hl, if_neg (fun h => e h.symm)]
   ·rw [List.set_eq_of_length_le (by omega)]
theorem ker_facts {p : Nat} {M : List (List Nat)} (hp : MR.Pr p) (hr : RectM M) : Shp p (colsM M) (kerP p M) ∧ (kerP p M).length + rkP p M = colsM M ∧ ∀ x ∈ kerP p M, ∀ r ∈ M, dotp p (fun j => nd r j * nd x j) r.length = 0 := by
 have hp1 := hp.1
 have hp0 : 0 < p := by omega
 have hsh := hr.shp hp0
 obtain ⟨i1, i2, i3, i4, i5⟩ := redTo_inv hsh hp0 (colsM M)
 have hrf := redTo_rf hp hsh (colsM M) (Nat.le_refl _)
 unfold kerP rkP
 refine ⟨fun x hx => ?_, ?_, fun x hx r hrm => ?_⟩
 ·obtain ⟨d, _, _, rfl⟩ := kerM_mem _ hx
  exact ⟨kerTo_len _, kerTo_lt (by omega) _⟩
 ·obtain ⟨k, h0, h1, h2, h3⟩ := kerM_count (p := p) (C := colsM M) (R := (redTo p (modM p M) (colsM M)).1) hrf.incr (colsM M)
  have e : k = (redTo p (modM p M) (colsM M)).2.length := Classical.byContradiction fun e => by
   have := h3 k (Nat.le_refl _) (by omega)
   have := hrf.low k (by omega)
   omega
  omega
 ·obtain ⟨d, hd, hdP, rfl⟩ := kerM_mem _ hx
  obtain ⟨l, hl, rfl⟩ := mem_getD hrm
  rw [hr _ hrm]
  have hk := ker_all (c := d) (v := fun j => ((nd (kerTo p (colsM M) (redTo p (modM p M) (colsM M)).1 (redTo p (modM p M) (colsM M)).2 d (redTo p (modM p M) (colsM M)).2.length) j : Nat) : Int)) hp hsh hd (fun j hj => kerTo_em hp0 hd (fun i hi e => hdP (by rw [← e, nd_get hi]; exact List.getElem_mem _)) hrf.incr (fun i => i2.nd hp0 i d) _ (Nat.le_refl _) j hj) l (by rw [modM_len]; exact hl)
  refine Em.eq (dotp_lt hp0 _) hp0 ((dotp_em _).trans ((su_em fun j hj => ?_).trans hk))
  rw [Int.natCast_mul]
  exact (en_modM p M l j).symm.mul (Em.rf _)
theorem tr_le {p C n : Nat} {A T : List (List Nat)} (hp : MR.Pr p) (hA : Shp p C A) (hT : Shp p n T) (hl : A.length = n) (hl2 : T.length = C) (he : ∀ i j, i < C → j < n → en T i j = en A j i) : rkM p n T ≤ rkM p C A :=
 rk_le hp hA hT fun k ⟨B, hB⟩ => by
  obtain ⟨S, hS⟩ := Cb.all (k := n) (G := en A) (fun i hi => hB i (by omega))
  refine ⟨fun l j => S j l, fun i hi => ⟨fun l => B l i, fun j hj => ?_⟩⟩
  rw [he i j (by omega) hj]
  refine (hS j hj i (by omega)).trans (Em.of_eq (su_congr fun l _ => Int.mul_comm _ _))
theorem en_trM {C i j : Nat} {A : List (List Nat)} (hi : i < C) (hj : j < A.length) : en (trM C A) i j = en A j i := by
  unfold en trM
  rw [mkM, show ((List.range C).map fun i => rowF A.length ((fun i k => nd (A.getD k []) i) i)).getD i [] = rowF A.length (fun k => nd (A.getD k []) i) by simp [List.getD, hi], rowF_nd hj]
theorem tr_rank {p : Nat} {M : List (List Nat)} (hp : MR.Pr p) (hr : RectM M) : rkP p (trM (colsM M) (modM p M)) = rkP p M := by
 have hp0 : 0 < p := by have := hp.1; omega
 have hsh := hr.shp hp0
 have hT : Shp p M.length (trM (colsM M) (modM p M)) := by have := trM_shp hsh hp0; rwa [modM_len] at this
 have hTl := trM_len (colsM M) (modM p M)
 by_cases h0 : colsM M = 0
 ·have h1 := (rkP_le hp0 hr).2
  have h2 : colsM (trM (colsM M) (modM p M)) = 0 := colsM_nil (by omega)
  have h3 : rkP p (trM (colsM M) (modM p M)) = 0 := by unfold rkP; rw [h2]; rfl
  omega
 ·have hc : colsM (trM (colsM M) (modM p M)) = M.length := hT.cols (fun e => by omega)
  have a := tr_le hp hsh hT (modM_len ..) hTl (fun i j hi hj => en_trM hi (by rw [modM_len]; exact hj))
  have b := tr_le hp hT hsh hTl (modM_len ..) (fun i j hi hj => (en_trM hj (by rw [modM_len]; exact hi)).symm)
  unfold rkM at a b
  unfold rkP
  rw [hc, modM_id hT]
  omega
theorem modmatKernels_40 {pm : Option Addr} {nm cm p : Nat} {M : List (List Nat)} {w : World} (ht : Tb w) (hm : MS w pm nm M) (hp2 : p < 4294967296) (hs : SmallM M) (hp : ¬ MR.Pr p) :
  Calls Tryd.prog 10 #[.slice pm nm cm, .int .u32 ((p : Nat) : Int)] w (Ret (Is (.bool true)) w) := by
 have hS := Sep.init w
 refine went Tryd.func10 rfl (n := 104) rfl rfl ?_
 refine wseq (wreg (wl rfl (oassign (v := .bool false) rfl rfl evc ?_)))
 refine wnil (thenN (wseq (wreg (wl rfl (omove (v := .slice pm nm cm) rfl rfl (ev rfl rfl) ?_)))))
 refine wl rfl (omove (v := .int .u32 (p : Int)) rfl rfl (ev rfl rfl) ?_)
 refine wl rfl (ocall rfl rfl Tryd.call31 rfl (wxkernel40 (ht.at hS) (hm.at hS) hp2 hs (hp)) (args2 (ev rfl rfl) (ev rfl rfl)) ?_)
 rintro _ w1 ⟨_, _, rfl, ⟨rfl, rfl⟩, hN⟩
 refine ⟨_, rfl, ?_⟩
 replace hS := hS.news hN; clear hN
 refine wl rfl (omove (v := .tuple #[.slice none 0 0, .int .i64 40]) rfl rfl (ev rfl rfl) ?_)
 refine wl rfl (oextract (vs := [.slice none 0 0, .int .i64 40]) (v := .slice none 0 0) rfl rfl (ev rfl rfl) rfl ?_)
 refine wl rfl (oextract (vs := [.slice none 0 0, .int .i64 40]) (v := .int .i64 40) rfl rfl (ev rfl rfl) rfl ?_)
 refine wl rfl (oassign (v := .slice none 0 0) rfl rfl (ev rfl rfl) ?_)
 refine wl rfl (oassign (v := .int .i64 40) rfl rfl (ev rfl rfl) ?_)
 refine wnil (thenN (wseq (wreg (wl rfl (omove (v := .slice pm nm cm) rfl rfl (ev rfl rfl) ?_)))))
 refine wl rfl (omove (v := .int .u32 (p : Int)) rfl rfl (ev rfl rfl) ?_)
 refine wl rfl (ocall rfl rfl Tryd.call21 rfl (wxrank40 (ht.at hS) (hm.at hS) hp2 hs (hp)) (args2 (ev rfl rfl) (ev rfl rfl)) ?_)
 rintro _ w2 ⟨_, _, rfl, ⟨rfl, rfl⟩, hN⟩
 refine ⟨_, rfl, ?_⟩
 replace hS := hS.news hN; clear hN
 refine wl rfl (omove (v := .tuple #[.int .i64 0, .int .i64 40]) rfl rfl (ev rfl rfl) ?_)
 refine wl rfl (oextract (vs := [.int .i64 0, .int .i64 40]) (v := .int .i64 0) rfl rfl (ev rfl rfl) rfl ?_)
 refine wl rfl (oextract (vs := [.int .i64 0, .int .i64 40]) (v := .int .i64 40) rfl rfl (ev rfl rfl) rfl ?_)
 refine wl rfl (oassign (v := .int .i64 0) rfl rfl (ev rfl rfl) ?_)
 refine wl rfl (oassign (v := .int .i64 40) rfl rfl (ev rfl rfl) ?_)
 refine wnil (thenN (wseq (wseq (wreg (wl rfl (omove (v := .int .i64 40) rfl rfl (ev rfl rfl) ?_))))))
 refine wl rfl (ocall rfl rfl Tryd.call11 rfl (wxnum) (args1 (ev rfl rfl)) ?_)
 rintro _ w3 ⟨_, _, rfl, ⟨rfl, rfl⟩, hN⟩
 refine ⟨_, rfl, ?_⟩
 replace hS := hS.news hN; clear hN
 refine wl rfl (obin (u := .int .i64 40) (v := .int .i64 0) (z := .bool true) rfl rfl (ev rfl rfl) evc (bin_neq (by decide)) ?_)
 refine wnil (thenN ?_)
 refine wT (ev rfl rfl) ?_
 refine wseq (wreg (wl rfl (omove (v := .int .i64 40) rfl rfl (ev rfl rfl) ?_)))
 refine wl rfl (ocall rfl rfl Tryd.call11 rfl (wxnum) (args1 (ev rfl rfl)) ?_)
 rintro _ w4 ⟨_, _, rfl, ⟨rfl, rfl⟩, hN⟩
 refine ⟨_, rfl, ?_⟩
 replace hS := hS.news hN; clear hN
 refine wl rfl (omove (v := .int .i64 40) rfl rfl (ev rfl rfl) ?_)
 refine wl rfl (ocall rfl rfl Tryd.call11 rfl (wxnum) (args1 (ev rfl rfl)) ?_)
 rintro _ w5 ⟨_, _, rfl, ⟨rfl, rfl⟩, hN⟩
 refine ⟨_, rfl, ?_⟩
 replace hS := hS.news hN; clear hN
 refine wl rfl (obin (u := .int .i64 40) (v := .int .i64 40) (z := .bool true) rfl rfl (ev rfl rfl) (ev rfl rfl) (bin_eql (by decide)) ?_)
 refine wl rfl (omove (v := .bool true) rfl rfl (ev rfl rfl) ?_)
 refine wlOn (e := 37) rfl rfl rfl rfl (ocall rfl rfl Tryd.call12 rfl (wxawake (ht.at hS)) (args0 ) ?_)
 rintro _ w6 ⟨_, _, rfl, ⟨rfl, rfl⟩, hN⟩
 refine ⟨_, rfl, ?_⟩
 replace hS := hS.news hN; clear hN
 refine wl rfl (opick (b := true) (v := .bool true) rfl rfl (ev rfl rfl) (ev rfl rfl) ?_)
 refine wl rfl (oassign (v := .bool true) rfl rfl (ev rfl rfl) ?_)
 refine wnil (thenN ?_)
 refine wleave ?_
 refine thenR ?_
 refine wret1 Tryd.results10 (tellT (v := .bool true) rfl rfl) ?_
 exact ⟨_, _, rfl, isI, hS.new0⟩
theorem modmatKernels_2 {pm : Option Addr} {nm cm p : Nat} {M : List (List Nat)} {w : World} (ht : Tb w) (hm : MS w pm nm M) (hp2 : p < 4294967296) (hs : SmallM M) (hp : MR.Pr p) (hr : ¬ RectM M) :
  Calls Tryd.prog 10 #[.slice pm nm cm, .int .u32 ((p : Nat) : Int)] w (Ret (Is (.bool true)) w) := by
 have hS := Sep.init w
 refine went Tryd.func10 rfl (n := 104) rfl rfl ?_
 refine wseq (wreg (wl rfl (oassign (v := .bool false) rfl rfl evc ?_)))
 refine wnil (thenN (wseq (wreg (wl rfl (omove (v := .slice pm nm cm) rfl rfl (ev rfl rfl) ?_)))))
 refine wl rfl (omove (v := .int .u32 (p : Int)) rfl rfl (ev rfl rfl) ?_)
 refine wl rfl (ocall rfl rfl Tryd.call31 rfl (wxkernel2 (ht.at hS) (hm.at hS) hp2 hs (hp) (hr)) (args2 (ev rfl rfl) (ev rfl rfl)) ?_)
 rintro _ w1 ⟨_, _, rfl, ⟨rfl, rfl⟩, hN⟩
 refine ⟨_, rfl, ?_⟩
 replace hS := hS.news hN; clear hN
 refine wl rfl (omove (v := .tuple #[.slice none 0 0, .int .i64 2]) rfl rfl (ev rfl rfl) ?_)
 refine wl rfl (oextract (vs := [.slice none 0 0, .int .i64 2]) (v := .slice none 0 0) rfl rfl (ev rfl rfl) rfl ?_)
 refine wl rfl (oextract (vs := [.slice none 0 0, .int .i64 2]) (v := .int .i64 2) rfl rfl (ev rfl rfl) rfl ?_)
 refine wl rfl (oassign (v := .slice none 0 0) rfl rfl (ev rfl rfl) ?_)
 refine wl rfl (oassign (v := .int .i64 2) rfl rfl (ev rfl rfl) ?_)
 refine wnil (thenN (wseq (wreg (wl rfl (omove (v := .slice pm nm cm) rfl rfl (ev rfl rfl) ?_)))))
 refine wl rfl (omove (v := .int .u32 (p : Int)) rfl rfl (ev rfl rfl) ?_)
 refine wl rfl (ocall rfl rfl Tryd.call21 rfl (wxrank2 (ht.at hS) (hm.at hS) hp2 hs (hp) (hr)) (args2 (ev rfl rfl) (ev rfl rfl)) ?_)
 rintro _ w2 ⟨_, _, rfl, ⟨rfl, rfl⟩, hN⟩
 refine ⟨_, rfl, ?_⟩
 replace hS := hS.news hN; clear hN
 refine wl rfl (omove (v := .tuple #[.int .i64 0, .int .i64 2]) rfl rfl (ev rfl rfl) ?_)
 refine wl rfl (oextract (vs := [.int .i64 0, .int .i64 2]) (v := .int .i64 0) rfl rfl (ev rfl rfl) rfl ?_)
 refine wl rfl (oextract (vs := [.int .i64 0, .int .i64 2]) (v := .int .i64 2) rfl rfl (ev rfl rfl) rfl ?_)
 refine wl rfl (oassign (v := .int .i64 0) rfl rfl (ev rfl rfl) ?_)
 refine wl rfl (oassign (v := .int .i64 2) rfl rfl (ev rfl rfl) ?_)
 refine wnil (thenN (wseq (wseq (wreg (wl rfl (omove (v := .int .i64 2) rfl rfl (ev rfl rfl) ?_))))))
 refine wl rfl (ocall rfl rfl Tryd.call11 rfl (wxnum) (args1 (ev rfl rfl)) ?_)
 rintro _ w3 ⟨_, _, rfl, ⟨rfl, rfl⟩, hN⟩
 refine ⟨_, rfl, ?_⟩
 replace hS := hS.news hN; clear hN
 refine wl rfl (obin (u := .int .i64 2) (v := .int .i64 0) (z := .bool true) rfl rfl (ev rfl rfl) evc (bin_neq (by decide)) ?_)
 refine wnil (thenN ?_)
 refine wT (ev rfl rfl) ?_
 refine wseq (wreg (wl rfl (omove (v := .int .i64 2) rfl rfl (ev rfl rfl) ?_)))
 refine wl rfl (ocall rfl rfl Tryd.call11 rfl (wxnum) (args1 (ev rfl rfl)) ?_)
 rintro _ w4 ⟨_, _, rfl, ⟨rfl, rfl⟩, hN⟩
 refine ⟨_, rfl, ?_⟩
 replace hS := hS.news hN; clear hN
 refine wl rfl (omove (v := .int .i64 2) rfl rfl (ev rfl rfl) ?_)
 refine wl rfl (ocall rfl rfl Tryd.call11 rfl (wxnum) (args1 (ev rfl rfl)) ?_)
 rintro _ w5 ⟨_, _, rfl, ⟨rfl, rfl⟩, hN⟩
 refine ⟨_, rfl, ?_⟩
 replace hS := hS.news hN; clear hN
 refine wl rfl (obin (u := .int .i64 2) (v := .int .i64 2) (z := .bool true) rfl rfl (ev rfl rfl) (ev rfl rfl) (bin_eql (by decide)) ?_)
 refine wl rfl (omove (v := .bool true) rfl rfl (ev rfl rfl) ?_)
 refine wlOn (e := 37) rfl rfl rfl rfl (ocall rfl rfl Tryd.call12 rfl (wxawake (ht.at hS)) (args0 ) ?_)
 rintro _ w6 ⟨_, _, rfl, ⟨rfl, rfl⟩, hN⟩
 refine ⟨_, rfl, ?_⟩
 replace hS := hS.news hN; clear hN
 refine wl rfl (opick (b := true) (v := .bool true) rfl rfl (ev rfl rfl) (ev rfl rfl) ?_)
 refine wl rfl (oassign (v := .bool true) rfl rfl (ev rfl rfl) ?_)
 refine wnil (thenN ?_)
 refine wleave ?_
 refine thenR ?_
 refine wret1 Tryd.results10 (tellT (v := .bool true) rfl rfl) ?_
 exact ⟨_, _, rfl, isI, hS.new0⟩
theorem modmatKernels_ok {pm : Option Addr} {nm cm p : Nat} {M : List (List Nat)} {w : World} (ht : Tb w) (hm : MS w pm nm M) (hp2 : p < 4294967296) (hs : SmallM M) (hb : M.length ≤ 1048576) (hp : MR.Pr p) (hr : RectM M) :
  Calls Tryd.prog 10 #[.slice pm nm cm, .int .u32 ((p : Nat) : Int)] w (Ret (Is (.bool true)) w) := by
 have hnm := hm.1
 have hp1 := hp.1
 have hp0 : 0 < p := by omega
 have hcb := hs.cols
 obtain ⟨hKs, hKl, hdot⟩ := ker_facts hp hr
 obtain ⟨K, hK⟩ : ∃ K, kerP p M = K := ⟨_, rfl⟩
 have hrkT := tr_rank hp hr
 obtain ⟨r, hrk⟩ : ∃ r, rkP p M = r := ⟨_, rfl⟩
 have hTs : Shp p M.length (trM (colsM M) (modM p M)) := by have := trM_shp (hr.shp hp0) hp0; rwa [modM_len] at this
 have hTl := trM_len (colsM M) (modM p M)
 obtain ⟨T, hT⟩ : ∃ T, trM (colsM M) (modM p M) = T := ⟨_, rfl⟩
 rw [hK, hrk] at hKl
 rw [hK] at hKs hdot
 rw [hT] at hrkT hTs hTl
 rw [hrk] at hrkT
 have hsT : SmallM T := ⟨by omega, fun q h => by rw [(hTs q h).1]; exact hb⟩
 have hrT : RectM T := fun q h => by have := List.length_pos_of_mem h; rw [hTs.cols (fun e => by omega)]; exact (hTs q h).1
 have hS := Sep.init w
 refine went Tryd.func10 rfl (n := 104) rfl rfl ?_
 refine wseq (wreg (wl rfl (oassign (v := .bool false) rfl rfl evc ?_)))
 refine wnil (thenN (wseq (wreg (wl rfl (omove (v := .slice pm nm cm) rfl rfl (ev rfl rfl) ?_)))))
 refine wl rfl (omove (v := .int .u32 (p : Int)) rfl rfl (ev rfl rfl) ?_)
 refine wl rfl (ocall rfl rfl Tryd.call31 rfl ((show Calls _ _ _ _ (Ret (MmE K 0) _) from by have h9 := wxkernel (cm := cm) (ht.at hS) (hm.at hS) hp2 hs hp hr; rwa [hK] at h9)) (args2 (ev rfl rfl) (ev rfl rfl)) ?_)
 rintro _ w1 ⟨_, _, rfl, ⟨pK, cK, QK, hQK, rfl, rfl⟩, hN⟩
 refine ⟨_, rfl, ?_⟩
 replace hS := hS.news hN; clear hN
 refine wl rfl (omove (v := .tuple #[.slice pK K.length cK, .int .i64 0]) rfl rfl (ev rfl rfl) ?_)
 refine wl rfl (oextract (vs := [.slice pK K.length cK, .int .i64 0]) (v := .slice pK K.length cK) rfl rfl (ev rfl rfl) rfl ?_)
 refine wl rfl (oextract (vs := [.slice pK K.length cK, .int .i64 0]) (v := .int .i64 0) rfl rfl (ev rfl rfl) rfl ?_)
 refine wl rfl (oassign (v := .slice pK K.length cK) rfl rfl (ev rfl rfl) ?_)
 refine wl rfl (oassign (v := .int .i64 0) rfl rfl (ev rfl rfl) ?_)
 refine wnil (thenN (wseq (wreg (wl rfl (omove (v := .slice pm nm cm) rfl rfl (ev rfl rfl) ?_)))))
 refine wl rfl (omove (v := .int .u32 (p : Int)) rfl rfl (ev rfl rfl) ?_)
 refine wl rfl (ocall rfl rfl Tryd.call21 rfl ((show Calls _ _ _ _ (Ret (Is (.tuple #[.int .i64 (r : Int), .int .i64 0])) _) from by have h9 := wxrank (cm := cm) (ht.at hS) (hm.at hS) hp2 hs hp hr; rwa [hrk] at h9)) (args2 (ev rfl rfl) (ev rfl rfl)) ?_)
 rintro _ w2 ⟨_, _, rfl, ⟨rfl, rfl⟩, hN⟩
 refine ⟨_, rfl, ?_⟩
 replace hS := hS.news hN; clear hN
 refine wl rfl (omove (v := .tuple #[.int .i64 (r : Int), .int .i64 0]) rfl rfl (ev rfl rfl) ?_)
 refine wl rfl (oextract (vs := [.int .i64 (r : Int), .int .i64 0]) (v := .int .i64 (r : Int)) rfl rfl (ev rfl rfl) rfl ?_)
 refine wl rfl (oextract (vs := [.int .i64 (r : Int), .int .i64 0]) (v := .int .i64 0) rfl rfl (ev rfl rfl) rfl ?_)
 refine wl rfl (oassign (v := .int .i64 (r : Int)) rfl rfl (ev rfl rfl) ?_)
 refine wl rfl (oassign (v := .int .i64 0) rfl rfl (ev rfl rfl) ?_)
 refine wnil (thenN (wseq (wseq (wreg (wl rfl (omove (v := .int .i64 0) rfl rfl (ev rfl rfl) ?_))))))
 refine wl rfl (ocall rfl rfl Tryd.call11 rfl (wxnum) (args1 (ev rfl rfl)) ?_)
 rintro _ w3 ⟨_, _, rfl, ⟨rfl, rfl⟩, hN⟩
 refine ⟨_, rfl, ?_⟩
 replace hS := hS.news hN; clear hN
 refine wl rfl (obin (u := .int .i64 0) (v := .int .i64 0) (z := .bool false) rfl rfl (ev rfl rfl) evc (bin_neq (by decide)) ?_)
 refine wnil (thenN ?_)
 refine wF (ev rfl rfl) ?_
 refine wskip (thenN (wseq (wreg (wl rfl (omove (v := .slice pm nm cm) rfl rfl (ev rfl rfl) ?_)))))
 refine wl rfl (omove (v := .int .u32 (p : Int)) rfl rfl (ev rfl rfl) ?_)
 refine wl rfl (ocall rfl rfl Tryd.call35 rfl ((show Calls _ _ _ _ (Ret (MmE T 0) _) from by have h9 := wxtransp (cm := cm) (ht.at hS) (hm.at hS) hp2 hs hp hr; rwa [hT] at h9)) (args2 (ev rfl rfl) (ev rfl rfl)) ?_)
 rintro _ w4 ⟨_, _, rfl, ⟨pT, cT, QT, hQT, rfl, rfl⟩, hN⟩
 refine ⟨_, rfl, ?_⟩
 replace hS := hS.news hN; clear hN
 refine wl rfl (omove (v := .tuple #[.slice pT T.length cT, .int .i64 0]) rfl rfl (ev rfl rfl) ?_)
 refine wl rfl (oextract (vs := [.slice pT T.length cT, .int .i64 0]) (v := .slice pT T.length cT) rfl rfl (ev rfl rfl) rfl ?_)
 refine wl rfl (oextract (vs := [.slice pT T.length cT, .int .i64 0]) (v := .int .i64 0) rfl rfl (ev rfl rfl) rfl ?_)
 refine wl rfl (oassign (v := .slice pT T.length cT) rfl rfl (ev rfl rfl) ?_)
 refine wl rfl (oassign (v := .int .i64 0) rfl rfl (ev rfl rfl) ?_)
 refine wnil (thenN (wseq (wreg (wl rfl (omove (v := .slice pT T.length cT) rfl rfl (ev rfl rfl) ?_)))))
 refine wl rfl (omove (v := .int .u32 (p : Int)) rfl rfl (ev rfl rfl) ?_)
 refine wl rfl (ocall rfl rfl Tryd.call21 rfl ((show Calls _ _ _ _ (Ret (Is (.tuple #[.int .i64 (r : Int), .int .i64 0])) _) from by have h9 := hS.ms (n := T.length) 0 rfl (by simp only [maxLen]; omega); rw [hQT] at h9; have h8 := wxrank (cm := cT) (ht.at hS) h9 hp2 hsT hp hrT; rwa [hrkT] at h8)) (args2 (ev rfl rfl) (ev rfl rfl)) ?_)
 rintro _ w5 ⟨_, _, rfl, ⟨rfl, rfl⟩, hN⟩
 refine ⟨_, rfl, ?_⟩
 replace hS := hS.news hN; clear hN
 refine wl rfl (omove (v := .tuple #[.int .i64 (r : Int), .int .i64 0]) rfl rfl (ev rfl rfl) ?_)
 refine wl rfl (oextract (vs := [.int .i64 (r : Int), .int .i64 0]) (v := .int .i64 (r : Int)) rfl rfl (ev rfl rfl) rfl ?_)
 refine wl rfl (oextract (vs := [.int .i64 (r : Int), .int .i64 0]) (v := .int .i64 0) rfl rfl (ev rfl rfl) rfl ?_)
 refine wl rfl (oassign (v := .int .i64 (r : Int)) rfl rfl (ev rfl rfl) ?_)
 refine wl rfl (oassign (v := .int .i64 0) rfl rfl (ev rfl rfl) ?_)
 refine wnil (thenN (wseq (wseq (wreg (wl rfl (omove (v := .int .i64 0) rfl rfl (ev rfl rfl) ?_))))))
 refine wl rfl (ocall rfl rfl Tryd.call11 rfl (wxnum) (args1 (ev rfl rfl)) ?_)
 rintro _ w6 ⟨_, _, rfl, ⟨rfl, rfl⟩, hN⟩
 refine ⟨_, rfl, ?_⟩
 replace hS := hS.news hN; clear hN
 refine wl rfl (obin (u := .int .i64 0) (v := .int .i64 0) (z := .bool false) rfl rfl (ev rfl rfl) evc (bin_neq (by decide)) ?_)
 refine wl rfl (omove (v := .bool false) rfl rfl (ev rfl rfl) ?_)
 refine wlOn (e := 55) rfl rfl rfl rfl (omove (v := .int .i64 0) rfl rfl (ev rfl rfl) ?_)
 refine wlOn (e := 55) rfl rfl rfl rfl (ocall rfl rfl Tryd.call11 rfl (wxnum) (args1 (ev rfl rfl)) ?_)
 rintro _ w7 ⟨_, _, rfl, ⟨rfl, rfl⟩, hN⟩
 refine ⟨_, rfl, ?_⟩
 replace hS := hS.news hN; clear hN
 refine wlOn (e := 55) rfl rfl rfl rfl (obin (u := .int .i64 0) (v := .int .i64 0) (z := .bool false) rfl rfl (ev rfl rfl) evc (bin_neq (by decide)) ?_)
 refine wl rfl (opick (b := false) (v := .bool false) rfl rfl (ev rfl rfl) (ev rfl rfl) ?_)
 refine wl rfl (omove (v := .bool false) rfl rfl (ev rfl rfl) ?_)
 refine wlOn (e := 60) rfl rfl rfl rfl (omove (v := .int .i64 0) rfl rfl (ev rfl rfl) ?_)
 refine wlOn (e := 60) rfl rfl rfl rfl (ocall rfl rfl Tryd.call11 rfl (wxnum) (args1 (ev rfl rfl)) ?_)
 rintro _ w8 ⟨_, _, rfl, ⟨rfl, rfl⟩, hN⟩
 refine ⟨_, rfl, ?_⟩
 replace hS := hS.news hN; clear hN
 refine wlOn (e := 60) rfl rfl rfl rfl (obin (u := .int .i64 0) (v := .int .i64 0) (z := .bool false) rfl rfl (ev rfl rfl) evc (bin_neq (by decide)) ?_)
 refine wl rfl (opick (b := false) (v := .bool false) rfl rfl (ev rfl rfl) (ev rfl rfl) ?_)
 refine wl rfl (omove (v := .bool false) rfl rfl (ev rfl rfl) ?_)
 refine wlOn (e := 65) rfl rfl rfl rfl (omove (v := .int .i64 (r : Int)) rfl rfl (ev rfl rfl) ?_)
 refine wlOn (e := 65) rfl rfl rfl rfl (omove (v := .int .i64 (r : Int)) rfl rfl (ev rfl rfl) ?_)
 refine wlOn (e := 65) rfl rfl rfl rfl (obin (u := .int .i64 (r : Int)) (v := .int .i64 (r : Int)) (z := .bool false) rfl rfl (ev rfl rfl) (ev rfl rfl) (bin_neq (neF rfl)) ?_)
 refine wl rfl (opick (b := false) (v := .bool false) rfl rfl (ev rfl rfl) (ev rfl rfl) ?_)
 refine wl rfl (omove (v := .bool false) rfl rfl (ev rfl rfl) ?_)
 refine wlOn (e := 70) rfl rfl rfl rfl (omove (v := .slice pK K.length cK) rfl rfl (ev rfl rfl) ?_)
 refine wlOn (e := 70) rfl rfl rfl rfl (olen rfl rfl rfl Tryd.runUnderlying26 (p := pK) (k := K.length) (m := cK) (ev rfl rfl) ?_)
 refine wlOn (e := 70) rfl rfl rfl rfl (omove (v := .slice pm nm cm) rfl rfl (ev rfl rfl) ?_)
 refine wlOn (e := 70) rfl rfl rfl rfl (ocall rfl rfl Tryd.call36 rfl (wrcols (hm.at hS)) (args1 (ev rfl rfl)) ?_)
 rintro _ w9 ⟨_, _, rfl, ⟨rfl, rfl⟩, hN⟩
 refine ⟨_, rfl, ?_⟩
 replace hS := hS.news hN; clear hN
 refine wlOn (e := 70) rfl rfl rfl rfl (omove (v := .int .i64 (r : Int)) rfl rfl (ev rfl rfl) ?_)
 skip
 refine wlOn (e := 70) rfl rfl rfl rfl (obin (u := .int .i64 (((colsM M : Nat) : Int))) (v := .int .i64 (r : Int)) (z := .int .i64 (((colsM M - r : Nat) : Int))) rfl rfl (ev rfl rfl) (ev rfl rfl) (bin_sub (by rw [show ((colsM M : Nat) : Int) - (r : Int) = ((colsM M - r : Nat) : Int) by omega]; exact wrap_i64 (by omega) (by omega))) ?_)
 refine wlOn (e := 70) rfl rfl rfl rfl (obin (u := .int .i64 (K.length : Int)) (v := .int .i64 (((colsM M - r : Nat) : Int))) (z := .bool false) rfl rfl (ev rfl rfl) (ev rfl rfl) (bin_neq (neF (by omega))) ?_)
 refine wl rfl (opick (b := false) (v := .bool false) rfl rfl (ev rfl rfl) (ev rfl rfl) ?_)
 refine wnil (thenN ?_)
 refine wF (ev rfl rfl) ?_
 refine wskip (thenN (wseq (wseq (wreg (wl rfl (omove (v := .slice pK K.length cK) rfl rfl (ev rfl rfl) ?_))))))
 refine wl rfl (olen rfl rfl rfl Tryd.runUnderlying26 (p := pK) (k := K.length) (m := cK) (ev rfl rfl) ?_)
 refine wl rfl (omove (v := .int .i64 0) rfl rfl evc ?_)
 refine wnil (thenN (wblock ?_))
 have hKs9 : Shp p (colsM M) (nums QK) := by rw [hQK]; exact hKs
 have hQKl : QK.length = K.length := nums_lenE hQK
 refine wloop (σ := Nat) (fun i a9 w' => ∃ (fb : Nat → Value), a9 = act 104 (sets fb [(0, .slice pm nm cm), (1, .int .u32 (p : Int)), (79, .slice pK K.length cK), (80, .int .i64 (K.length : Int)), (81, .int .i64 (i : Int))]) ∧ Sep w [.lst 52 1 pT T.length cT (mmE QT), .lst 52 1 pK K.length cK (mmE QK)] w' ∧ (i ≤ K.length)) (fun i => K.length - i) (0) ⟨_, act_sets (l := [(0, .slice pm nm cm), (1, .int .u32 (p : Int)), (79, .slice pK K.length cK), (80, .int .i64 (K.length : Int)), (81, .int .i64 0)]) ⟨rfl, rfl, rfl, rfl, rfl, trivial⟩, hS, Nat.zero_le _⟩ ?_
 clear hS; rintro i _ w10 ⟨fb, rfl, hS, hi⟩
 refine wseq (wreg ?_)
 by_cases hli : i < K.length
 ·
  refine wl rfl (obin (u := .int .i64 (i : Int)) (v := .int .i64 (K.length : Int)) (z := .bool true) rfl rfl (ev rfl rfl) (ev rfl rfl) (bin_lss (decide_eq_true (by omega))) ?_)
  refine wnil (thenN (wseq ?_))
  refine wT (ev rfl rfl) ?_
  refine wskip (thenN (wseq (wblock (wseq (wreg ?_)))))
  obtain ⟨gK, hgK⟩ := hS.lstPtr 1 rfl (by omega)
  obtain ⟨⟨px, cx, xx⟩, hqx⟩ : ∃ q, (QK)[i]? = some q := ⟨_, List.getElem?_eq_getElem (by omega)⟩
  have hdx : (nums (QK)).getD i [] = xx := getD_get (nums_get hqx)
  obtain ⟨hnx, hltx⟩ := hKs9.get (nums_get hqx)
  simp only at hnx hltx
  have hkx : K[i]? = some xx := by rw [← hQK]; exact nums_get hqx
  refine wl rfl (oindex (p := pK) (g := gK) (off := 0) (m := K.length) (k := i) (j := (0 + i * 1)) rfl rfl Tryd.runUnderlying26 Tryd.sizeOf52 (ev rfl rfl) (hgK) (ev rfl rfl) (by omega) rfl ?_)
  refine wl rfl (oloadc (v := .slice px ((colsM M)) cx) (show One Tryd.prog 52 from ⟨Tryd.isAgg52, Tryd.sizeOf52⟩) rfl rfl (ev (v := .pointer (some ⟨gK, (0 + i * 1), none⟩)) rfl rfl) (hS.mRow 1 rfl hqx hnx hgK) ?_)
  refine wl rfl (oassign (v := .slice px ((colsM M)) cx) rfl rfl (ev rfl rfl) ?_)
  refine wnil (thenN (wseq (wseq (wreg (wl rfl (omove (v := .slice px ((colsM M)) cx) rfl rfl (ev rfl rfl) ?_))))))
  refine wl rfl (olen rfl rfl rfl Tryd.runUnderlying52 (p := px) (k := (colsM M)) (m := cx) (ev rfl rfl) ?_)
  refine wl rfl (omove (v := .slice pm nm cm) rfl rfl (ev rfl rfl) ?_)
  refine wl rfl (ocall rfl rfl Tryd.call36 rfl (wrcols (hm.at hS)) (args1 (ev rfl rfl)) ?_)
  rintro _ w11 ⟨_, _, rfl, ⟨rfl, rfl⟩, hN⟩
  refine ⟨_, rfl, ?_⟩
  replace hS := hS.news hN; clear hN
  refine wl rfl (obin (u := .int .i64 ((((colsM M) : Nat) : Int))) (v := .int .i64 (((colsM M : Nat) : Int))) (z := .bool false) rfl rfl (ev rfl rfl) (ev rfl rfl) (bin_neq (neF (by omega))) ?_)
  refine wnil (thenN ?_)
  refine wF (ev rfl rfl) ?_
  refine wskip (thenN (wseq (wreg (wl rfl (omove (v := .slice pm nm cm) rfl rfl (ev rfl rfl) ?_)))))
  refine wl rfl (olen rfl rfl rfl Tryd.runUnderlying26 (p := pm) (k := nm) (m := cm) (ev rfl rfl) ?_)
  refine wl rfl (omove (v := .int .i64 0) rfl rfl evc ?_)
  refine wnil (thenN (wblock ?_))
  refine wloop (σ := Nat) (fun j a9 w' => ∃ (fb : Nat → Value), a9 = act 104 (sets fb [(0, .slice pm nm cm), (1, .int .u32 (p : Int)), (14, .slice px ((colsM M)) cx), (79, .slice pK K.length cK), (80, .int .i64 (K.length : Int)), (81, .int .i64 (i : Int)), (90, .slice pm nm cm), (91, .int .i64 (nm : Int)), (92, .int .i64 (j : Int))]) ∧ Sep w [.lst 52 1 pT T.length cT (mmE QT), .lst 52 1 pK K.length cK (mmE QK)] w' ∧ (j ≤ nm)) (fun j => nm - j) (0) ⟨_, act_sets (l := [(0, .slice pm nm cm), (1, .int .u32 (p : Int)), (14, .slice px ((colsM M)) cx), (79, .slice pK K.length cK), (80, .int .i64 (K.length : Int)), (81, .int .i64 (i : Int)), (90, .slice pm nm cm), (91, .int .i64 (nm : Int)), (92, .int .i64 0)]) ⟨rfl, rfl, rfl, rfl, rfl, rfl, rfl, rfl, rfl, trivial⟩, hS, Nat.zero_le _⟩ ?_
  clear hS; rintro j _ w12 ⟨fb, rfl, hS, hj⟩
  refine wseq (wreg ?_)
  by_cases hlj : j < nm
  ·
   refine wl rfl (obin (u := .int .i64 (j : Int)) (v := .int .i64 (nm : Int)) (z := .bool true) rfl rfl (ev rfl rfl) (ev rfl rfl) (bin_lss (decide_eq_true (by omega))) ?_)
   refine wnil (thenN (wseq ?_))
   refine wT (ev rfl rfl) ?_
   refine wskip (thenN (wseq (wblock (wseq (wreg ?_)))))
   obtain ⟨xr, hxr⟩ : ∃ r, (M)[j]? = some r := ⟨_, List.getElem?_eq_getElem (by have := hm.1; omega)⟩
   obtain ⟨br, ofr, pr, cr, hpr, hcr, hsr⟩ := hm.2.2 j _ hxr
   refine wl rfl (oindex (p := pm) (g := br) (off := ofr) (m := nm) (k := j) (j := (ofr + j * 1)) rfl rfl Tryd.runUnderlying26 Tryd.sizeOf52 (ev rfl rfl) (hpr) (ev rfl rfl) (by omega) rfl ?_)
   refine wl rfl (oloadc (v := .slice pr xr.length cr) (show One Tryd.prog 52 from ⟨Tryd.isAgg52, Tryd.sizeOf52⟩) rfl rfl (ev (v := .pointer (some ⟨br, (ofr + j * 1), none⟩)) rfl rfl) (hS.cellAt (hcr 0 _ rfl)) ?_)
   refine wl rfl (oassign (v := .slice pr xr.length cr) rfl rfl (ev rfl rfl) ?_)
   refine wnil (thenN (wseq (wreg (wl rfl (omove (v := .slice pr xr.length cr) rfl rfl (ev rfl rfl) ?_)))))
   refine wl rfl (omove (v := .slice px ((colsM M)) cx) rfl rfl (ev rfl rfl) ?_)
   refine wl rfl (omove (v := .int .u32 (p : Int)) rfl rfl (ev rfl rfl) ?_)
   refine wl rfl (ocall rfl rfl Tryd.call37 rfl ((show Calls _ _ _ _ (Ret (Is (.int .u32 0)) _) from by have h9 := wrdot (hsr.below hS.below (Nat.le_refl _)) (show Sl _ px (colsM M) cx xx from hnx ▸ (hS.mFr 1 rfl hqx).sl) (by have := hr xr (List.mem_of_getElem? hxr); omega) hp0 hp2; rw [hdot xx (List.mem_of_getElem? hkx) xr (List.mem_of_getElem? hxr)] at h9; exact h9)) (args3 (ev rfl rfl) (ev rfl rfl) (ev rfl rfl)) ?_)
   rintro _ w13 ⟨_, _, rfl, ⟨rfl, rfl⟩, hN⟩
   refine ⟨_, rfl, ?_⟩
   replace hS := hS.news hN; clear hN
   refine wl rfl (obin (u := .int .u32 0) (v := .int .u32 0) (z := .bool false) rfl rfl (ev rfl rfl) evc (bin_neq (by decide)) ?_)
   refine wnil (thenN ?_)
   refine wF (ev rfl rfl) ?_
   refine wskip (blkN (thenN (wreg (wl rfl (obin (u := .int .i64 (j : Int)) (v := .int .i64 1) (z := .int .i64 (((j + 1 : Nat) : Int))) rfl rfl (ev rfl rfl) evc (bin_add (wrap_i64 (by omega) (by omega))) ?_)))))
   refine wl rfl (omove (v := .int .i64 (((j + 1 : Nat) : Int))) rfl rfl (ev rfl rfl) ?_)
   refine wnil (thenN ?_)
   exact ⟨(j + 1), ⟨_, act_sets (l := [(0, .slice pm nm cm), (1, .int .u32 (p : Int)), (14, .slice px ((colsM M)) cx), (79, .slice pK K.length cK), (80, .int .i64 (K.length : Int)), (81, .int .i64 (i : Int)), (90, .slice pm nm cm), (91, .int .i64 (nm : Int)), (92, .int .i64 (((j + 1 : Nat) : Int)))]) ⟨rfl, rfl, rfl, rfl, rfl, rfl, rfl, rfl, rfl, trivial⟩, hS.pick [0, 1] (by decide) rfl, by omega⟩, by omega⟩
  ·
   refine wl rfl (obin (u := .int .i64 (j : Int)) (v := .int .i64 (nm : Int)) (z := .bool false) rfl rfl (ev rfl rfl) (ev rfl rfl) (bin_lss (decide_eq_false (by omega))) ?_)
   refine wnil (thenN (wseq ?_))
   refine wF (ev rfl rfl) ?_
   refine wexit ?_
   refine thenE ?_
   refine thenE ?_
   refine blkE ?_
   refine blkN (thenN (wreg (wl rfl (obin (u := .int .i64 (i : Int)) (v := .int .i64 1) (z := .int .i64 (((i + 1 : Nat) : Int))) rfl rfl (ev rfl rfl) evc (bin_add (wrap_i64 (by omega) (by omega))) ?_))))
   refine wl rfl (omove (v := .int .i64 (((i + 1 : Nat) : Int))) rfl rfl (ev rfl rfl) ?_)
   refine wnil (thenN ?_)
   exact ⟨(i + 1), ⟨_, act_sets (l := [(0, .slice pm nm cm), (1, .int .u32 (p : Int)), (79, .slice pK K.length cK), (80, .int .i64 (K.length : Int)), (81, .int .i64 (((i + 1 : Nat) : Int)))]) ⟨rfl, rfl, rfl, rfl, rfl, trivial⟩, hS.pick [0, 1] (by decide) rfl, by omega⟩, by omega⟩
 ·
  refine wl rfl (obin (u := .int .i64 (i : Int)) (v := .int .i64 (K.length : Int)) (z := .bool false) rfl rfl (ev rfl rfl) (ev rfl rfl) (bin_lss (decide_eq_false (by omega))) ?_)
  refine wnil (thenN (wseq ?_))
  refine wF (ev rfl rfl) ?_
  refine wexit ?_
  refine thenE ?_
  refine thenE ?_
  refine blkE ?_
  refine thenN (wseq (wreg (wl rfl (ocall rfl rfl Tryd.call12 rfl (wxawake (ht.at hS)) (args0 ) ?_))))
  rintro _ w11 ⟨_, _, rfl, ⟨rfl, rfl⟩, hN⟩
  refine ⟨_, rfl, ?_⟩
  replace hS := hS.news hN; clear hN
  refine wl rfl (oassign (v := .bool true) rfl rfl (ev rfl rfl) ?_)
  refine wnil (thenN ?_)
  refine wleave ?_
  refine wret1 Tryd.results10 (tellT (v := .bool true) rfl rfl) ?_
  exact ⟨_, _, rfl, isI, hS.new0⟩
theorem modmatKernels_walk {pm : Option Addr} {nm cm : Nat} {s : Int} {M : List (List Nat)} {w : World} (hm : MS w pm nm M) (hs : SmallM M) (hb : M.length ≤ 1048576) (h1 : Tab w) (h2 : Bases w) (b1 : 0 ≤ s ∧ s ≤ 4294967295) : Calls Tryd.prog 10 #[.slice pm nm cm, .int .u32 s] w (RetB w true) := by
  obtain ⟨p, rfl⟩ := Int.eq_ofNat_of_zero_le b1.1
  have hp2 : p < 4294967296 := by omega
  have ht : Tb w := ⟨h1, h2⟩
  by_cases hp : MR.Pr p
  case neg => exact Ret.bool (modmatKernels_40 ht hm hp2 hs hp)
  by_cases hr : RectM M
  case neg => exact Ret.bool (modmatKernels_2 ht hm hp2 hs hp hr)
  exact Ret.bool (modmatKernels_ok ht hm hp2 hs hb hp hr)
end Go.Proofs.YtndilfigdbenoaaDoor
