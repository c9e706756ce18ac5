
/-
  The walk of similelaw10.ModmatStays.
-/
import Derived.Test.YtndilfigdbenoaaDoorM8
import Derived.Test.YtndilfigdbenoaaDoorMmOpen
import Derived.Test.YtndilfigdbenoaaDoorLT
set_option linter.unusedVariables false
set_option linter.unusedSimpArgs false
set_option maxRecDepth 100000
set_option maxHeartbeats 16000000
namespace Go.Proofs.YtndilfigdbenoaaDoor
open Go.RowKit
theorem scal_one {p : Nat} {b : List Nat} (hp : MR.Pr p) (h : ∀ x ∈ b, x < p) : scalR p (pinv p 1) b = b := by
  have hp1 := hp.1
  have e : pinv p 1 = 1 := by unfold pinv; rw [Nat.one_pow]; exact Nat.mod_eq_of_lt (by omega)
  rw [e]
  unfold scalR
  conv => rhs; rw [← List.map_id b]
  exact List.map_congr_left fun x hx => by rw [Nat.mul_one, Nat.mod_eq_of_lt (h x hx)]; rfl
theorem elim_fix {p C k c : Nat} {R : List (List Nat)} (hp : 0 < p) (h : Shp p C R) (hk : k < R.length) (h0 : ∀ l, l < R.length → l ≠ k → nd (R.getD l []) c = 0) : ∀ i, i ≤ R.length → elimM p k c R i = R
 | 0, _ => rfl
 | i + 1, hi => by
  have ih := elim_fix hp h hk h0 i (by omega)
  rw [elimM_skip h hp hk (by omega), ih]
  by_cases e : i = k
  ·exact .inl e
  ·rw [ih]; exact .inr (h0 i (by omega) e)
theorem redTo_fix0 {p C : Nat} {R : List (List Nat)} {P : List Nat} (hp : MR.Pr p) (h : Shp p C R) (hrf : Rf p C (R, P)) (hl : P.length ≤ R.length) : ∀ c, c ≤ C → ∃ k, k ≤ P.length ∧ redTo p R c = (R, P.take k) ∧ (∀ i, i < k → nd P i < c) ∧ ∀ i, k ≤ i → i < P.length → c ≤ nd P i
 | 0, _ => ⟨0, Nat.zero_le _, rfl, fun i hi => by omega, fun i _ _ => Nat.zero_le _⟩
 | c + 1, hc => by
  have hp0 : 0 < p := by have := hp.1; omega
  obtain ⟨k, hk, h1, h2, h3⟩ := redTo_fix0 hp h hrf hl c (by omega)
  have iz : ∀ l, P.length ≤ l → l < R.length → ∀ j, j < C → nd (R.getD l []) j = 0 := hrf.zero
  have iu : ∀ i, i < P.length → ∀ l, l < R.length → nd (R.getD l []) (nd P i) = if l = i then 1 else 0 := hrf.unit
  have il : ∀ i, i < P.length → ∀ j, j < nd P i → nd (R.getD i []) j = 0 := hrf.left
  have ii : ∀ i k, i < k → k < P.length → nd P i < nd P k := hrf.incr
  have htl : (P.take k).length = k := by rw [List.length_take, Nat.min_eq_left hk]
  rw [redTo, h1]
  by_cases hkc : k < P.length ∧ nd P k = c
  ·obtain ⟨k1, k2⟩ := hkc
   have hu := iu k k1
   rw [k2] at hu
   have e1 : nd (R.getD k []) c = 1 := by rw [hu k (by omega), if_pos rfl]
   have hf : firstNZ R c (R.length - k) k = some k := firstNZ_some (Nat.le_refl _) (by omega) (fun l h4 h5 => by omega) (by omega)
   have hs := redStep_some (p := p) (c := c) (i := k) (s := (R, P.take k)) (by simp only [htl]; exact hf)
   simp only [htl] at hs
   have hn : normM p k c (swapM R k k) = R := by
    rw [swapM_self (by omega)]
    unfold normM
    rw [e1, scal_one hp (h.at (by omega)).2, set_getD (by omega)]
   rw [hn, elim_fix hp0 h (by omega) (fun l h4 h5 => by rw [hu l h4, if_neg h5]) _ (Nat.le_refl _)] at hs
   refine ⟨k + 1, k1, ?_, fun i hi => ?_, fun i hi hi2 => ?_⟩
   ·rw [hs, List.take_add_one, List.getElem?_eq_getElem k1]
    rw [nd_get k1] at k2
    rw [k2]; rfl
   ·by_cases e : i = k
    ·subst e; omega
    ·have := h2 i (by omega); omega
   ·have := ii k i (by omega) hi2; omega
  ·have hf : firstNZ R c (R.length - k) k = none := firstNZ_none fun l h4 h5 => by
    by_cases hlP : P.length ≤ l
    ·exact iz l hlP (by omega) c (by omega)
    ·have h6 := h3 l h4 (by omega)
     refine il l (by omega) c ?_
     by_cases e : l = k
     ·subst e
      have : nd P l ≠ c := fun h => hkc ⟨by omega, h⟩
      omega
     ·have := ii k l (by omega) (by omega)
      have := h3 k (Nat.le_refl _) (by omega)
      omega
   have hs := redStep_none (p := p) (c := c) (s := (R, P.take k)) (by simp only [htl]; exact hf)
   refine ⟨k, hk, hs, fun i hi => by have := h2 i hi; omega, fun i hi hi2 => ?_⟩
   have h6 := h3 i hi hi2
   by_cases e : i = k
   ·subst e
    have : nd P i ≠ c := fun h => hkc ⟨by omega, h⟩
    omega
   ·have := ii k i (by omega) hi2
    have := h3 k (Nat.le_refl _) (by omega)
    omega
theorem redTo_fix {p C : Nat} {R : List (List Nat)} {P : List Nat} (hp : MR.Pr p) (h : Shp p C R) (hrf : Rf p C (R, P)) (hl : P.length ≤ R.length) : redTo p R C = (R, P) := by
 obtain ⟨k, hk, h1, h2, h3⟩ := redTo_fix0 hp h hrf hl C (Nat.le_refl _)
 have iw : ∀ i, i < P.length → nd P i < C := hrf.low
 have e : k = P.length := Classical.byContradiction fun e => by
  have := h3 k (Nat.le_refl _) (by omega)
  have := iw k (by omega)
  omega
 rw [h1, e, List.take_length]
theorem mmE_append (a b : List Rw) : mmE (a ++ b) = mmE a ++ mmE b := by simp [mmE]
theorem nums_append (a b : List Rw) : nums (a ++ b) = nums a ++ nums b := by simp [nums]
theorem modM_append (p : Nat) (A B : List (List Nat)) : modM p (A ++ B) = modM p A ++ modM p B := by simp [modM]
theorem Shp.append {p C : Nat} {A B : List (List Nat)} (hA : Shp p C A) (hB : Shp p C B) : Shp p C (A ++ B) := fun r hr => (List.mem_append.1 hr).elim (hA r) (hB r)
theorem en_app1 {A B : List (List Nat)} {i : Nat} (h : i < A.length) : en (A ++ B) i = en A i := by
  funext j; unfold en; rw [show (A ++ B).getD i [] = A.getD i [] by simp [List.getD, List.getElem?_append_left h]]
theorem en_app2 {A B : List (List Nat)} {i : Nat} : en (A ++ B) (A.length + i) = en B i := by
  funext j; unfold en; rw [show (A ++ B).getD (A.length + i) [] = B.getD i [] by simp [List.getD, List.getElem?_append_right]]
theorem stays_rank {p : Nat} {M N : List (List Nat)} {T : List Nat} (hp : MR.Pr p) (hr : RectM M) (h : redTo p (modM p M) (colsM M) = (N, T)) :
  Shp p (colsM M) N ∧ N.length = M.length ∧ T.length ≤ M.length ∧ T.length ≤ colsM M ∧ colsM N = colsM M ∧ redTo p (modM p N) (colsM N) = (N, T) ∧ rkP p (M ++ N) = T.length ∧ RectM (M ++ N) := by
 have hp0 : 0 < p := by have := hp.1; omega
 have hsh := hr.shp hp0
 obtain ⟨i1, i2, i3, i4, i5⟩ := redTo_inv hsh hp0 (colsM M)
 have hrf := redTo_rf hp hsh (colsM M) (Nat.le_refl _)
 obtain ⟨s1, s2⟩ := redTo_sp hp hsh (colsM M)
 rw [h] at i1 i2 i3 i4 i5 hrf s1 s2
 simp only at i1 i2 i3 i4 i5 s1 s2
 rw [modM_len] at i1 i3
 have hc : colsM N = colsM M := i2.cols (fun e => colsM_nil (by omega))
 have hcb : colsM (M ++ N) = colsM M := by
  by_cases e : M.length = 0
  ·rw [colsM_nil e, colsM_nil (by rw [List.length_append]; omega)]
  ·unfold colsM; rw [show (M ++ N).getD 0 [] = M.getD 0 [] by simp [List.getD, List.getElem?_append_left (show 0 < M.length by omega)]]
 refine ⟨i2, i1, i3, i4, hc, ?_, ?_, ?_⟩
 ·rw [hc, modM_id i2]; exact redTo_fix hp i2 hrf (by omega)
 ·unfold rkP
  rw [hcb, modM_append, modM_id i2]
  have hb := hsh.append i2
  have e1 : rkM p (colsM M) (modM p M) = T.length := by unfold rkM; rw [h]
  have l1 : rkM p (colsM M) (modM p M ++ N) ≤ rkM p (colsM M) (modM p M) := rk_sp hp hsh hb fun i hi => by
   by_cases hi2 : i < (modM p M).length
   ·rw [en_app1 hi2]; exact Cb.row hi2
   ·obtain ⟨k, rfl⟩ := Nat.exists_eq_add_of_le (Nat.not_lt.1 hi2)
    rw [en_app2]
    rw [List.length_append] at hi
    exact s1 k (by omega)
  have l2 : rkM p (colsM M) (modM p M) ≤ rkM p (colsM M) (modM p M ++ N) := rk_sp hp hb hsh fun i hi => by
   have h9 := Cb.row (p := p) (C := colsM M) (E := en (modM p M ++ N)) (show i < (modM p M ++ N).length by rw [List.length_append]; omega)
   rwa [en_app1 hi] at h9
  show rkM p (colsM M) (modM p M ++ N) = _
  omega
 ·intro r hr'
  rw [hcb]
  exact (List.mem_append.1 hr').elim (hr r) (fun h => (i2 r h).1)
theorem modmatStays_40 {pm : Option Addr} {nm cm p : Nat} {M : List (List Nat)} {w : World} (ht : Tb w) (hm : MS w pm nm M) (hp2 : p < 4294967296) (hs : SmallM M) (hp : ¬ MR.Pr p) :
  Calls Tryd.prog 5 #[.slice pm nm cm, .int .u32 ((p : Nat) : Int)] w (Ret (Is (.bool true)) w) := by
 have hS := Sep.init w
 refine went Tryd.func5 rfl (n := 82) rfl rfl ?_
 refine wseq (wreg (wl rfl (oassign (v := .bool false) rfl rfl evc ?_)))
 refine wnil (thenN (wseq (wreg (wl rfl (omove (v := .slice pm nm cm) rfl rfl (ev rfl rfl) ?_)))))
 refine wl rfl (omove (v := .int .u32 (p : Int)) rfl rfl (ev rfl rfl) ?_)
 refine wl rfl (ocall rfl rfl Tryd.call17 rfl (wxreduceA40 (ht.at hS) (hm.at hS) hp2 hs (hp)) (args2 (ev rfl rfl) (ev rfl rfl)) ?_)
 rintro _ w1 ⟨_, _, rfl, ⟨rfl, rfl⟩, hN⟩
 refine ⟨_, rfl, ?_⟩
 replace hS := hS.news hN; clear hN
 refine wl rfl (omove (v := .tuple #[.slice none 0 0, .slice none 0 0, .int .i64 40]) rfl rfl (ev rfl rfl) ?_)
 refine wl rfl (oextract (vs := [.slice none 0 0, .slice none 0 0, .int .i64 40]) (v := .slice none 0 0) rfl rfl (ev rfl rfl) rfl ?_)
 refine wl rfl (oextract (vs := [.slice none 0 0, .slice none 0 0, .int .i64 40]) (v := .slice none 0 0) rfl rfl (ev rfl rfl) rfl ?_)
 refine wl rfl (oextract (vs := [.slice none 0 0, .slice none 0 0, .int .i64 40]) (v := .int .i64 40) rfl rfl (ev rfl rfl) rfl ?_)
 refine wl rfl (oassign (v := .slice none 0 0) rfl rfl (ev rfl rfl) ?_)
 refine wl rfl (oassign (v := .slice none 0 0) rfl rfl (ev rfl rfl) ?_)
 refine wl rfl (oassign (v := .int .i64 40) rfl rfl (ev rfl rfl) ?_)
 refine wnil (thenN (wseq (wseq (wreg (wl rfl (omove (v := .int .i64 40) rfl rfl (ev rfl rfl) ?_))))))
 refine wl rfl (ocall rfl rfl Tryd.call11 rfl (wxnum) (args1 (ev rfl rfl)) ?_)
 rintro _ w2 ⟨_, _, rfl, ⟨rfl, rfl⟩, hN⟩
 refine ⟨_, rfl, ?_⟩
 replace hS := hS.news hN; clear hN
 refine wl rfl (obin (u := .int .i64 40) (v := .int .i64 0) (z := .bool true) rfl rfl (ev rfl rfl) evc (bin_neq (by decide)) ?_)
 refine wnil (thenN ?_)
 refine wT (ev rfl rfl) ?_
 refine wseq (wreg (wl rfl (omove (v := .slice none 0 0) rfl rfl (ev rfl rfl) ?_)))
 refine wl rfl (olen rfl rfl rfl Tryd.runUnderlying26 (p := none) (k := 0) (m := 0) (ev rfl rfl) ?_)
 refine wl rfl (obin (u := .int .i64 (((0 : Nat) : Int))) (v := .int .i64 0) (z := .bool true) rfl rfl (ev rfl rfl) evc (bin_eql (eqT rfl)) ?_)
 refine wl rfl (omove (v := .bool true) rfl rfl (ev rfl rfl) ?_)
 refine wlOn (e := 27) rfl rfl rfl rfl (ocall rfl rfl Tryd.call12 rfl (wxawake (ht.at hS)) (args0 ) ?_)
 rintro _ w3 ⟨_, _, rfl, ⟨rfl, rfl⟩, hN⟩
 refine ⟨_, rfl, ?_⟩
 replace hS := hS.news hN; clear hN
 refine wl rfl (opick (b := true) (v := .bool true) rfl rfl (ev rfl rfl) (ev rfl rfl) ?_)
 refine wl rfl (oassign (v := .bool true) rfl rfl (ev rfl rfl) ?_)
 refine wnil (thenN ?_)
 refine wleave ?_
 refine thenR ?_
 refine wret1 Tryd.results5 (tellT (v := .bool true) rfl rfl) ?_
 exact ⟨_, _, rfl, isI, hS.new0⟩
theorem modmatStays_2 {pm : Option Addr} {nm cm p : Nat} {M : List (List Nat)} {w : World} (ht : Tb w) (hm : MS w pm nm M) (hp2 : p < 4294967296) (hs : SmallM M) (hp : MR.Pr p) (hr : ¬ RectM M) :
  Calls Tryd.prog 5 #[.slice pm nm cm, .int .u32 ((p : Nat) : Int)] w (Ret (Is (.bool true)) w) := by
 have hS := Sep.init w
 refine went Tryd.func5 rfl (n := 82) rfl rfl ?_
 refine wseq (wreg (wl rfl (oassign (v := .bool false) rfl rfl evc ?_)))
 refine wnil (thenN (wseq (wreg (wl rfl (omove (v := .slice pm nm cm) rfl rfl (ev rfl rfl) ?_)))))
 refine wl rfl (omove (v := .int .u32 (p : Int)) rfl rfl (ev rfl rfl) ?_)
 refine wl rfl (ocall rfl rfl Tryd.call17 rfl (wxreduceA2 (ht.at hS) (hm.at hS) hp2 hs (hp) (hr)) (args2 (ev rfl rfl) (ev rfl rfl)) ?_)
 rintro _ w1 ⟨_, _, rfl, ⟨rfl, rfl⟩, hN⟩
 refine ⟨_, rfl, ?_⟩
 replace hS := hS.news hN; clear hN
 refine wl rfl (omove (v := .tuple #[.slice none 0 0, .slice none 0 0, .int .i64 2]) rfl rfl (ev rfl rfl) ?_)
 refine wl rfl (oextract (vs := [.slice none 0 0, .slice none 0 0, .int .i64 2]) (v := .slice none 0 0) rfl rfl (ev rfl rfl) rfl ?_)
 refine wl rfl (oextract (vs := [.slice none 0 0, .slice none 0 0, .int .i64 2]) (v := .slice none 0 0) rfl rfl (ev rfl rfl) rfl ?_)
 refine wl rfl (oextract (vs := [.slice none 0 0, .slice none 0 0, .int .i64 2]) (v := .int .i64 2) rfl rfl (ev rfl rfl) rfl ?_)
 refine wl rfl (oassign (v := .slice none 0 0) rfl rfl (ev rfl rfl) ?_)
 refine wl rfl (oassign (v := .slice none 0 0) rfl rfl (ev rfl rfl) ?_)
 refine wl rfl (oassign (v := .int .i64 2) rfl rfl (ev rfl rfl) ?_)
 refine wnil (thenN (wseq (wseq (wreg (wl rfl (omove (v := .int .i64 2) rfl rfl (ev rfl rfl) ?_))))))
 refine wl rfl (ocall rfl rfl Tryd.call11 rfl (wxnum) (args1 (ev rfl rfl)) ?_)
 rintro _ w2 ⟨_, _, rfl, ⟨rfl, rfl⟩, hN⟩
 refine ⟨_, rfl, ?_⟩
 replace hS := hS.news hN; clear hN
 refine wl rfl (obin (u := .int .i64 2) (v := .int .i64 0) (z := .bool true) rfl rfl (ev rfl rfl) evc (bin_neq (by decide)) ?_)
 refine wnil (thenN ?_)
 refine wT (ev rfl rfl) ?_
 refine wseq (wreg (wl rfl (omove (v := .slice none 0 0) rfl rfl (ev rfl rfl) ?_)))
 refine wl rfl (olen rfl rfl rfl Tryd.runUnderlying26 (p := none) (k := 0) (m := 0) (ev rfl rfl) ?_)
 refine wl rfl (obin (u := .int .i64 (((0 : Nat) : Int))) (v := .int .i64 0) (z := .bool true) rfl rfl (ev rfl rfl) evc (bin_eql (eqT rfl)) ?_)
 refine wl rfl (omove (v := .bool true) rfl rfl (ev rfl rfl) ?_)
 refine wlOn (e := 27) rfl rfl rfl rfl (ocall rfl rfl Tryd.call12 rfl (wxawake (ht.at hS)) (args0 ) ?_)
 rintro _ w3 ⟨_, _, rfl, ⟨rfl, rfl⟩, hN⟩
 refine ⟨_, rfl, ?_⟩
 replace hS := hS.news hN; clear hN
 refine wl rfl (opick (b := true) (v := .bool true) rfl rfl (ev rfl rfl) (ev rfl rfl) ?_)
 refine wl rfl (oassign (v := .bool true) rfl rfl (ev rfl rfl) ?_)
 refine wnil (thenN ?_)
 refine wleave ?_
 refine thenR ?_
 refine wret1 Tryd.results5 (tellT (v := .bool true) rfl rfl) ?_
 exact ⟨_, _, rfl, isI, hS.new0⟩
theorem modmatStays_ok {pm : Option Addr} {nm cm p : Nat} {M : List (List Nat)} {w : World} (ht : Tb w) (hm : MS w pm nm M) (hp2 : p < 4294967296) (hs : SmallM M) (hb : M.length ≤ 1048576) (hp : MR.Pr p) (hr : RectM M) :
  Calls Tryd.prog 5 #[.slice pm nm cm, .int .u32 ((p : Nat) : Int)] w (Ret (Is (.bool true)) w) := by
 obtain rfl := hm.1
 have hcb := hs.cols
 obtain ⟨⟨N, T⟩, hNT⟩ : ∃ s, redTo p (modM p M) (colsM M) = s := ⟨_, rfl⟩
 obtain ⟨hN, hNl, hT1, hT2, hNc, hfix, hrk, hrB⟩ := stays_rank hp hr hNT
 have hrN : RectM N := hN.rect (fun e => colsM_nil (by omega))
 have hsN : SmallM N := ⟨by omega, fun r h => by rw [(hN r h).1]; exact hcb⟩
 have hsB : SmallM (M ++ N) := ⟨by rw [List.length_append]; omega, fun r h => (List.mem_append.1 h).elim (hs.2 r) (hsN.2 r)⟩
 have hS := Sep.init w
 refine went Tryd.func5 rfl (n := 82) rfl rfl ?_
 refine wseq (wreg (wl rfl (oassign (v := .bool false) rfl rfl evc ?_)))
 refine wnil (thenN (wseq (wreg (wl rfl (omove (v := .slice pm M.length cm) rfl rfl (ev rfl rfl) ?_)))))
 refine wl rfl (omove (v := .int .u32 (p : Int)) rfl rfl (ev rfl rfl) ?_)
 refine wl rfl (ocall rfl rfl Tryd.call17 rfl (wxreduceA (cm := cm) (ht.at hS) (hm.at hS) hp2 hs hp hr) (args2 (ev rfl rfl) (ev rfl rfl)) ?_)
 rintro _ w1 ⟨_, _, rfl, ⟨pR, cR, pT1, cT1, PT1, QR, hRT1, rfl, rfl⟩, hN⟩
 refine ⟨_, rfl, ?_⟩
 replace hS := hS.news hN; clear hN
 refine wl rfl (omove (v := .tuple #[.slice pR M.length cR, .slice pT1 PT1.length cT1, .int .i64 0]) rfl rfl (ev rfl rfl) ?_)
 refine wl rfl (oextract (vs := [.slice pR M.length cR, .slice pT1 PT1.length cT1, .int .i64 0]) (v := .slice pR M.length cR) rfl rfl (ev rfl rfl) rfl ?_)
 refine wl rfl (oextract (vs := [.slice pR M.length cR, .slice pT1 PT1.length cT1, .int .i64 0]) (v := .slice pT1 PT1.length cT1) rfl rfl (ev rfl rfl) rfl ?_)
 refine wl rfl (oextract (vs := [.slice pR M.length cR, .slice pT1 PT1.length cT1, .int .i64 0]) (v := .int .i64 0) rfl rfl (ev rfl rfl) rfl ?_)
 refine wl rfl (oassign (v := .slice pR M.length cR) rfl rfl (ev rfl rfl) ?_)
 refine wl rfl (oassign (v := .slice pT1 PT1.length cT1) rfl rfl (ev rfl rfl) ?_)
 refine wl rfl (oassign (v := .int .i64 0) rfl rfl (ev rfl rfl) ?_)
 refine wnil (thenN (wseq (wseq (wreg (wl rfl (omove (v := .int .i64 0) rfl rfl (ev rfl rfl) ?_))))))
 refine wl rfl (ocall rfl rfl Tryd.call11 rfl (wxnum) (args1 (ev rfl rfl)) ?_)
 rintro _ w2 ⟨_, _, rfl, ⟨rfl, rfl⟩, hN⟩
 refine ⟨_, rfl, ?_⟩
 replace hS := hS.news hN; clear hN
 refine wl rfl (obin (u := .int .i64 0) (v := .int .i64 0) (z := .bool false) rfl rfl (ev rfl rfl) evc (bin_neq (by decide)) ?_)
 refine wnil (thenN ?_)
 refine wF (ev rfl rfl) ?_
 refine wskip (thenN (wseq (wreg (wl rfl (omove (v := .slice pR M.length cR) rfl rfl (ev rfl rfl) ?_)))))
 refine wl rfl (omove (v := .int .u32 (p : Int)) rfl rfl (ev rfl rfl) ?_)
 obtain ⟨hNR, rfl⟩ := Prod.mk.inj (hNT.symm.trans hRT1)
 refine wl rfl (ocall rfl rfl Tryd.call17 rfl ((show Calls _ _ _ _ (Ret (RdE p N M.length) _) from by have h9 := hS.ms (n := M.length) 0 rfl (by simp only [maxLen]; omega); rw [← hNR] at h9; have h8 := wxreduceA (cm := cR) (ht.at hS) h9 hp2 hsN hp hrN; rwa [hNl] at h8)) (args2 (ev rfl rfl) (ev rfl rfl)) ?_)
 rintro _ w3 ⟨_, _, rfl, ⟨pS, cS, pT2, cT2, PT2, QS, hRT2, rfl, rfl⟩, hN⟩
 refine ⟨_, rfl, ?_⟩
 replace hS := hS.news hN; clear hN
 refine wl rfl (omove (v := .tuple #[.slice pS M.length cS, .slice pT2 PT2.length cT2, .int .i64 0]) rfl rfl (ev rfl rfl) ?_)
 refine wl rfl (oextract (vs := [.slice pS M.length cS, .slice pT2 PT2.length cT2, .int .i64 0]) (v := .slice pS M.length cS) rfl rfl (ev rfl rfl) rfl ?_)
 refine wl rfl (oextract (vs := [.slice pS M.length cS, .slice pT2 PT2.length cT2, .int .i64 0]) (v := .slice pT2 PT2.length cT2) rfl rfl (ev rfl rfl) rfl ?_)
 refine wl rfl (oextract (vs := [.slice pS M.length cS, .slice pT2 PT2.length cT2, .int .i64 0]) (v := .int .i64 0) rfl rfl (ev rfl rfl) rfl ?_)
 refine wl rfl (oassign (v := .slice pS M.length cS) rfl rfl (ev rfl rfl) ?_)
 refine wl rfl (oassign (v := .slice pT2 PT2.length cT2) rfl rfl (ev rfl rfl) ?_)
 refine wl rfl (oassign (v := .int .i64 0) rfl rfl (ev rfl rfl) ?_)
 refine wnil (thenN (wseq (wseq (wreg (wl rfl (omove (v := .int .i64 0) rfl rfl (ev rfl rfl) ?_))))))
 refine wl rfl (ocall rfl rfl Tryd.call11 rfl (wxnum) (args1 (ev rfl rfl)) ?_)
 rintro _ w4 ⟨_, _, rfl, ⟨rfl, rfl⟩, hN⟩
 refine ⟨_, rfl, ?_⟩
 replace hS := hS.news hN; clear hN
 refine wl rfl (obin (u := .int .i64 0) (v := .int .i64 0) (z := .bool false) rfl rfl (ev rfl rfl) evc (bin_neq (by decide)) ?_)
 refine wl rfl (omove (v := .bool false) rfl rfl (ev rfl rfl) ?_)
 refine wlOn (e := 40) rfl rfl rfl rfl (omove (v := .slice pR M.length cR) rfl rfl (ev rfl rfl) ?_)
 refine wlOn (e := 40) rfl rfl rfl rfl (omove (v := .slice pS M.length cS) rfl rfl (ev rfl rfl) ?_)
 obtain ⟨hNS, rfl⟩ := Prod.mk.inj (hfix.symm.trans hRT2)
 refine wlOn (e := 40) rfl rfl rfl rfl (ocall rfl rfl Tryd.call18 rfl (wxsameL (show MS _ pR M.length N from by have h9 := hS.ms (n := M.length) 2 rfl (by simp only [maxLen]; omega); rwa [← hNR] at h9) (show MS _ pS M.length N from by have h9 := hS.ms (n := M.length) 0 rfl (by simp only [maxLen]; omega); rwa [← hNS] at h9) (hsN)) (args2 (ev rfl rfl) (ev rfl rfl)) ?_)
 rintro _ w5 ⟨_, _, rfl, ⟨rfl, rfl⟩, hN⟩
 refine ⟨_, rfl, ?_⟩
 replace hS := hS.news hN; clear hN
 refine wlOn (e := 40) rfl rfl rfl rfl (onot (b := true) rfl rfl (ev rfl rfl) ?_)
 refine wl rfl (opick (b := false) (v := .bool false) rfl rfl (ev rfl rfl) (ev rfl rfl) ?_)
 refine wl rfl (omove (v := .bool false) rfl rfl (ev rfl rfl) ?_)
 refine wlOn (e := 46) rfl rfl rfl rfl (omove (v := .slice pT1 T.length cT1) rfl rfl (ev rfl rfl) ?_)
 refine wlOn (e := 46) rfl rfl rfl rfl (omove (v := .slice pT2 T.length cT2) rfl rfl (ev rfl rfl) ?_)
 refine wlOn (e := 46) rfl rfl rfl rfl (ocall rfl rfl Tryd.call19 rfl (wlints (P := T) (hS.si 3 rfl (by simp only [maxLen]; omega)) (hS.si 1 rfl (by simp only [maxLen]; omega)) (by omega)) (args2 (ev rfl rfl) (ev rfl rfl)) ?_)
 rintro _ w6 ⟨_, _, rfl, ⟨rfl, rfl⟩, hN⟩
 refine ⟨_, rfl, ?_⟩
 replace hS := hS.news hN; clear hN
 refine wlOn (e := 46) rfl rfl rfl rfl (onot (b := true) rfl rfl (ev rfl rfl) ?_)
 refine wl rfl (opick (b := false) (v := .bool false) rfl rfl (ev rfl rfl) (ev rfl rfl) ?_)
 refine wl rfl (omove (v := .bool false) rfl rfl (ev rfl rfl) ?_)
 refine wlOn (e := 52) rfl rfl rfl rfl (omove (v := .slice pR M.length cR) rfl rfl (ev rfl rfl) ?_)
 refine wlOn (e := 52) rfl rfl rfl rfl (olen rfl rfl rfl Tryd.runUnderlying26 (p := pR) (k := M.length) (m := cR) (ev rfl rfl) ?_)
 refine wlOn (e := 52) rfl rfl rfl rfl (omove (v := .slice pm M.length cm) rfl rfl (ev rfl rfl) ?_)
 refine wlOn (e := 52) rfl rfl rfl rfl (olen rfl rfl rfl Tryd.runUnderlying26 (p := pm) (k := M.length) (m := cm) (ev rfl rfl) ?_)
 refine wlOn (e := 52) rfl rfl rfl rfl (obin (u := .int .i64 (M.length : Int)) (v := .int .i64 (M.length : Int)) (z := .bool false) rfl rfl (ev rfl rfl) (ev rfl rfl) (bin_neq (neF rfl)) ?_)
 refine wl rfl (opick (b := false) (v := .bool false) rfl rfl (ev rfl rfl) (ev rfl rfl) ?_)
 refine wnil (thenN ?_)
 refine wF (ev rfl rfl) ?_
 refine wskip (thenN (wseq (wreg (wl rfl (omove (v := .slice pm M.length cm) rfl rfl (ev rfl rfl) ?_)))))
 refine wl rfl (ocall rfl rfl Tryd.call20 rfl (wlown (hm.at hS) hs) (args1 (ev rfl rfl)) ?_)
 rintro _ w7 ⟨_, _, rfl, ⟨pX1, cX1, QX1, hQX1, rfl, rfl⟩, hN⟩
 refine ⟨_, rfl, ?_⟩
 replace hS := hS.news hN; clear hN
 refine wl rfl (omove (v := .slice pR M.length cR) rfl rfl (ev rfl rfl) ?_)
 refine wl rfl (ocall rfl rfl Tryd.call20 rfl ((show Calls _ _ _ _ (Ret (MMn M.length N) _) from by have h9 := hS.ms (n := M.length) 3 rfl (by simp only [maxLen]; omega); rw [← hNR] at h9; exact wlown h9 hsN)) (args1 (ev rfl rfl)) ?_)
 rintro _ w8 ⟨_, _, rfl, ⟨pX2, cX2, QX2, hQX2, rfl, rfl⟩, hN⟩
 refine ⟨_, rfl, ?_⟩
 replace hS := hS.news hN; clear hN
 obtain hS := (show Sep w [.lst 52 1 pX1 M.length cX1 (mmE QX1), .lst 52 1 pX2 M.length cX2 (mmE QX2), .lst 52 1 pS M.length cS (mmE QS), .lst 3 1 pT2 T.length cT2 (intE T), .lst 52 1 pR M.length cR (mmE QR), .lst 3 1 pT1 T.length cT1 (intE T)] w8 from hS.pick [1, 0, 2, 3, 4, 5] (by decide) rfl)
 refine wl rfl (oappendLL (p := pX1) (m := M.length) (c := cX1) (p2 := pX2) (k := M.length) (c2 := cX2) hS rfl rfl Tryd.underlying26 infoRow rfl (by decide) (ev (v := .slice pX1 M.length cX1) rfl rfl) (ev (v := .slice pX2 M.length cX2) rfl rfl) (by omega) (by omega) ?_)
 clear hS; intro p10 c11 w9 hS
 refine wl rfl (oassign (v := .slice p10 ((M.length + M.length)) c11) rfl rfl (ev rfl rfl) ?_)
 refine wnil (thenN (wseq (wreg (wl rfl (omove (v := .slice p10 ((M.length + M.length)) c11) rfl rfl (ev rfl rfl) ?_)))))
 refine wl rfl (omove (v := .int .u32 (p : Int)) rfl rfl (ev rfl rfl) ?_)
 rw [← mmE_append] at hS
 refine wl rfl (ocall rfl rfl Tryd.call21 rfl ((show Calls _ _ _ _ (Ret (Is (.tuple #[.int .i64 (T.length : Int), .int .i64 0])) _) from by have h9 := hS.ms (n := M.length + M.length) 0 rfl (by simp only [maxLen]; omega); rw [nums_append, hQX1, hQX2] at h9; have h8 := wxrank (cm := c11) (ht.at hS) h9 hp2 hsB hp hrB; rwa [hrk] at h8)) (args2 (ev rfl rfl) (ev rfl rfl)) ?_)
 rintro _ w12 ⟨_, _, rfl, ⟨rfl, rfl⟩, hN⟩
 refine ⟨_, rfl, ?_⟩
 replace hS := hS.news hN; clear hN
 refine wl rfl (omove (v := .tuple #[.int .i64 (T.length : Int), .int .i64 0]) rfl rfl (ev rfl rfl) ?_)
 refine wl rfl (oextract (vs := [.int .i64 (T.length : Int), .int .i64 0]) (v := .int .i64 (T.length : Int)) rfl rfl (ev rfl rfl) rfl ?_)
 refine wl rfl (oextract (vs := [.int .i64 (T.length : Int), .int .i64 0]) (v := .int .i64 0) rfl rfl (ev rfl rfl) rfl ?_)
 refine wl rfl (oassign (v := .int .i64 (T.length : Int)) rfl rfl (ev rfl rfl) ?_)
 refine wl rfl (oassign (v := .int .i64 0) rfl rfl (ev rfl rfl) ?_)
 refine wnil (thenN (wseq (wreg (wl rfl (omove (v := .int .i64 0) rfl rfl (ev rfl rfl) ?_)))))
 refine wl rfl (ocall rfl rfl Tryd.call11 rfl (wxnum) (args1 (ev rfl rfl)) ?_)
 rintro _ w13 ⟨_, _, rfl, ⟨rfl, rfl⟩, hN⟩
 refine ⟨_, rfl, ?_⟩
 replace hS := hS.news hN; clear hN
 refine wl rfl (obin (u := .int .i64 0) (v := .int .i64 0) (z := .bool true) rfl rfl (ev rfl rfl) evc (bin_eql (by decide)) ?_)
 refine wl rfl (omove (v := .bool true) rfl rfl (ev rfl rfl) ?_)
 refine wlOn (e := 73) rfl rfl rfl rfl (omove (v := .int .i64 (T.length : Int)) rfl rfl (ev rfl rfl) ?_)
 refine wlOn (e := 73) rfl rfl rfl rfl (omove (v := .slice pT1 T.length cT1) rfl rfl (ev rfl rfl) ?_)
 refine wlOn (e := 73) rfl rfl rfl rfl (olen rfl rfl rfl Tryd.runUnderlying35 (p := pT1) (k := T.length) (m := cT1) (ev rfl rfl) ?_)
 refine wlOn (e := 73) rfl rfl rfl rfl (obin (u := .int .i64 (T.length : Int)) (v := .int .i64 (T.length : Int)) (z := .bool true) rfl rfl (ev rfl rfl) (ev rfl rfl) (bin_eql (eqT rfl)) ?_)
 refine wl rfl (opick (b := true) (v := .bool true) rfl rfl (ev rfl rfl) (ev rfl rfl) ?_)
 refine wl rfl (omove (v := .bool true) rfl rfl (ev rfl rfl) ?_)
 refine wlOn (e := 79) rfl rfl rfl rfl (ocall rfl rfl Tryd.call12 rfl (wxawake (ht.at hS)) (args0 ) ?_)
 rintro _ w14 ⟨_, _, rfl, ⟨rfl, rfl⟩, hN⟩
 refine ⟨_, rfl, ?_⟩
 replace hS := hS.news hN; clear hN
 refine wl rfl (opick (b := true) (v := .bool true) rfl rfl (ev rfl rfl) (ev rfl rfl) ?_)
 refine wl rfl (oassign (v := .bool true) rfl rfl (ev rfl rfl) ?_)
 refine wnil (thenN ?_)
 refine wleave ?_
 refine wret1 Tryd.results5 (tellT (v := .bool true) rfl rfl) ?_
 exact ⟨_, _, rfl, isI, hS.new0⟩
theorem modmatStays_walk {pm : Option Addr} {nm cm : Nat} {s : Int} {M : List (List Nat)} {w : World} (hm : MS w pm nm M) (hs : SmallM M) (hb : M.length ≤ 1048576) (h1 : Tab w) (h2 : Bases w) (b1 : 0 ≤ s ∧ s ≤ 4294967295) : Calls Tryd.prog 5 #[.slice pm nm cm, .int .u32 s] w (RetB w true) := by
  obtain ⟨p, rfl⟩ := Int.eq_ofNat_of_zero_le b1.1
  have hp2 : p < 4294967296 := by omega
  have ht : Tb w := ⟨h1, h2⟩
  by_cases hp : MR.Pr p
  case neg => exact Ret.bool (modmatStays_40 ht hm hp2 hs hp)
  by_cases hr : RectM M
  case neg => exact Ret.bool (modmatStays_2 ht hm hp2 hs hp hr)
  exact Ret.bool (modmatStays_ok ht hm hp2 hs hb hp hr)
end Go.Proofs.YtndilfigdbenoaaDoor
