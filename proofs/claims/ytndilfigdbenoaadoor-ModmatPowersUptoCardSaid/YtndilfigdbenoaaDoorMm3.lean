/-
  Contracts and lemmas, joined in one text.
-/
import Derived.Test.YtndilfigdbenoaaDoorM1
set_option linter.unusedVariables false
set_option linter.unusedSimpArgs false
/-
  modmat's reduce.
-/
set_option maxRecDepth 100000
set_option maxHeartbeats 16000000
namespace Go.Proofs.YtndilfigdbenoaaDoor
open Go.RowKit
def RdX (p : Nat) (M : List (List Nat)) (c1 : Nat) (px : Option Addr) (n cx : Nat) : Tell := fun v r => ∃ (pv : Option Addr) (cv : Nat) (P : List Nat) (D : Nat) (Q : List Rw), redTo p M c1 = (nums Q, P) ∧ (D < p ∧ (c1 ≤ M.length → D = detTo p M c1)) ∧ v = .tuple #[.slice pv P.length cv, .int .u32 ((D : Nat) : Int)] ∧ r = [.lst 3 1 pv P.length cv (intE P), .lst 52 1 px n cx (mmE Q)]
theorem redTo_from {p c c1 : Nat} {M N : List (List Nat)} {P : List Nat} (h : redTo p M c = (N, P)) (hl : P.length = N.length) (hc : c ≤ c1) : redTo p M c1 = (N, P) := by
  have := redTo_full (p := p) (M := M) (c := c) (by rw [h]; exact hl) (c1 - c)
  rw [show c + (c1 - c) = c1 by omega] at this
  rw [this, h]
theorem redTo_S {p c : Nat} {M N : List (List Nat)} {P : List Nat} (h : redTo p M c = (N, P)) : redTo p M (c + 1) = redStep p c (N, P) := by rw [redTo, h]
theorem detTo_none {p c : Nat} {M N : List (List Nat)} {P : List Nat} (h : redTo p M c = (N, P)) (hf : firstNZ N c (N.length - P.length) P.length = none) : detTo p M (c + 1) = 0 := by rw [detTo, h]; simp only [hf]
theorem detTo_some {p c i : Nat} {M N : List (List Nat)} {P : List Nat} (h : redTo p M c = (N, P)) (hf : firstNZ N c (N.length - P.length) P.length = some i) : detTo p M (c + 1) = (if i = P.length then detTo p M c else (0 + p - detTo p M c) % p) * nd (N.getD i []) c % p := by rw [detTo, h]; simp only [hf]
theorem nums_lenE {Q : List Rw} {N : List (List Nat)} (h : nums Q = N) : Q.length = N.length := by rw [← h, nums_len]
theorem nd_lt {p : Nat} {xs : List Nat} {k : Nat} (h : ∀ x ∈ xs, x < p) (hp : 0 < p) : nd xs k < p := by
  by_cases hk : k < xs.length
  · rw [nd_get hk]; exact h _ (List.getElem_mem hk)
  · rw [nd_lt_len (by omega)]; exact hp
theorem ndvd {p a : Nat} (h0 : a ≠ 0) (h : a < p) : ¬ p ∣ a := fun hd => by have := Nat.le_of_dvd (by omega) hd; omega
theorem wxreduce {w0 w : World} {R : List Res} {p n cX kr c1 C : Nat} {pX : Option Addr} {Q : List Rw} (ht : Tb w0) (hp : MR.Pr p) (hp2 : p < 4294967296) (hS : Sep w0 (.lst 52 1 pX n cX (mmE Q) :: R) w) (hsh : Shp p C (nums Q)) (hc1 : c1 ≤ C) (hn : n ≤ 2097152) (hCb : C ≤ 2097152) :
  Calls Tryd.prog 42 #[.agg #[.int .u64 ((p : Nat) : Int), .slice pX n cX, .int .i64 ((kr : Nat) : Int)], .int .i64 ((c1 : Nat) : Int)] w (RetS (RdX p (nums Q) c1 pX n cX) w0 R) := by
 have hp1 := hp.1
 have hp0 : 0 < p := by omega
 have h1p := Nat.mod_lt 1 hp0
 have hQn : Q.length = n := by rw [← mmE_len]; exact hS.lstLen 0 rfl
 obtain ⟨M, hM⟩ : ∃ M, nums Q = M := ⟨_, rfl⟩
 have hMl : M.length = n := by rw [← hM, nums_len]; exact hQn
 rw [hM] at hsh
 rw [hM]
 refine went Tryd.func42 rfl (n := 180) rfl rfl ?_
 refine wseq (wreg (wl rfl (obox [.int .u64 (p : Int), .slice pX n cX, .int .i64 (kr : Int)] hS rfl rfl (ev (v := .agg #[.int .u64 (p : Int), .slice pX n cX, .int .i64 (kr : Int)]) rfl rfl) rfl ?_)))
 clear hS; intro g1 w2 hS
 refine wl rfl (oassign (v := .slice none 0 0) rfl rfl evc ?_)
 refine wl rfl (oassign (v := .int .u32 0) rfl rfl evc ?_)
 refine wnil (thenN ?_)
 refine wscope ?_
 refine wseq (wreg (wl rfl (oassign (v := .slice none 0 0) rfl rfl evc ?_)))
 refine wnil (thenN (wseq (wreg (wl rfl (ofieldAddr (g := g1) (off := 0) 0 rfl rfl (ev rfl rfl) Tryd.runUnderlying63 rfl Tryd.sizeOf47 rfl ?_)))))
 refine wl rfl (oload1 (v := .int .u64 (p : Int)) (show One Tryd.prog 47 from ⟨Tryd.isAgg47, Tryd.sizeOf47⟩) hS 0 rfl rfl (ev rfl rfl) rfl rfl ?_)
 refine wl rfl (obin (u := .int .u64 1) (v := .int .u64 (p : Int)) (z := .int .u64 (((1 % p : Nat) : Int))) rfl rfl evc (ev rfl rfl) (bin_rem (by omega) rfl) ?_)
 refine wl rfl (oconvert (u := .int .u64 (((1 % p : Nat) : Int))) (v := .int .u32 (((1 % p : Nat) : Int))) rfl rfl (ev rfl rfl) (convert_int Tryd.runUnderlying47 Tryd.runUnderlying27 (wrap_u32 (by omega) (by omega))) ?_)
 refine wl rfl (oassign (v := .int .u32 (((1 % p : Nat) : Int))) rfl rfl (ev rfl rfl) ?_)
 refine wnil (thenN (wseq (wlabel (thenN (wseq (wseq (wreg (wl rfl (omove (v := .int .i64 (c1 : Int)) rfl rfl (ev rfl rfl) ?_)))))))))
 refine wl rfl (omove (v := .int .i64 0) rfl rfl evc ?_)
 refine wnil (thenN (wblock ?_))
 replace hS := hS.nilLst 3 1
 refine wloop (σ := Nat) (fun c a9 w' => ∃ (fb : Nat → Value) (Q1 : List Rw) (P : List Nat) (D : Nat) (pl : Nat) (pP : Option Addr) (cP : Nat), a9 = act 180 (sets fb [(2, .pointer (some ⟨g1, 0, none⟩)), (4, .slice none 0 0), (5, .int .u32 0), (6, .slice pP pl cP), (7, .int .u32 (D : Int)), (23, .int .i64 (c1 : Int)), (24, .int .i64 (c : Int))]) ∧ Sep w0 (.lst 3 1 pP pl cP (intE P) :: .blk g1 [.int .u64 (p : Int), .slice pX n cX, .int .i64 (kr : Int)] 63 :: .lst 52 1 pX n cX (mmE Q1) :: R) w' ∧ (c ≤ c1) ∧ (redTo p M c = (nums Q1, P)) ∧ (D < p ∧ (c ≤ M.length → D = detTo p M c)) ∧ (P.length = pl)) (fun c => c1 - c) (0) ⟨_, Q, [], _, 0, none, 0, act_sets (l := [(2, .pointer (some ⟨g1, 0, none⟩)), (4, .slice none 0 0), (5, .int .u32 0), (6, .slice none 0 0), (7, .int .u32 (((1 % p : Nat) : Int))), (23, .int .i64 (c1 : Int)), (24, .int .i64 0)]) ⟨rfl, rfl, rfl, rfl, rfl, rfl, rfl, trivial⟩, hS, Nat.zero_le _, by rw [hM]; rfl, ⟨Nat.mod_lt _ hp0, fun _ => rfl⟩, rfl⟩ ?_
 clear hS; rintro c _ w3 ⟨fb, Q1, P, D, pl, pP, cP, rfl, hS, hc, hR, hD, hpl⟩
 refine wseq (wreg ?_)
 by_cases hlt : c < c1
 ·
  obtain ⟨i1, i2, i3, i4, i5⟩ := redTo_inv hsh hp0 c
  rw [hR] at i1 i2 i3 i4 i5
  simp only at i1 i2 i3 i4 i5
  rw [hpl, hMl] at i3
  rw [hpl] at i4
  have hQ1n : Q1.length = n := by rw [nums_lenE rfl, i1]; exact hMl
  have hN1 : (nums Q1).length = n := i1.trans hMl
  refine wl rfl (obin (u := .int .i64 (c : Int)) (v := .int .i64 (c1 : Int)) (z := .bool true) rfl rfl (ev rfl rfl) (ev rfl rfl) (bin_lss (decide_eq_true (by omega))) ?_)
  refine wnil (thenN (wseq ?_))
  refine wT (ev rfl rfl) ?_
  refine wskip (thenN (wseq (wblock (wseq (wreg (wl rfl (omove (v := .int .i64 (c : Int)) rfl rfl (ev rfl rfl) ?_)))))))
  refine wl rfl (oalloc [.int .i64 0] hS rfl rfl Tryd.zeroValue3 rfl ?_)
  clear hS; intro g4 w5 hS
  refine wl rfl (ostore [.int .i64 (c : Int)] [.int .i64 (c : Int)] Tryd.sizeOf3 hS 0 rfl rfl (ev rfl rfl) (ev (v := .int .i64 (c : Int)) rfl rfl) rfl rfl rfl rfl rfl rfl ?_)
  clear hS; intro w6 hS
  refine wnil (thenN (wseq (wreg (wl rfl (omove (v := .slice pP pl cP) rfl rfl (ev rfl rfl) ?_)))))
  refine wl rfl (olen rfl rfl rfl Tryd.runUnderlying35 (p := pP) (k := pl) (m := cP) (ev rfl rfl) ?_)
  refine wl rfl (oassign (v := .int .i64 (pl : Int)) rfl rfl (ev rfl rfl) ?_)
  refine wnil (thenN (wseq (wseq (wreg (wl rfl (omove (v := .int .i64 (pl : Int)) rfl rfl (ev rfl rfl) ?_))))))
  refine wl rfl (ofieldAddr (g := g1) (off := 0) 1 rfl rfl (ev rfl rfl) Tryd.runUnderlying63 rfl Tryd.sizeOf25 rfl ?_)
  refine wl rfl (oload1 (v := .slice pX n cX) (show One Tryd.prog 25 from ⟨Tryd.isAgg25, Tryd.sizeOf25⟩) hS 2 rfl rfl (ev rfl rfl) rfl rfl ?_)
  refine wl rfl (olen rfl rfl rfl Tryd.runUnderlying25 (p := pX) (k := n) (m := cX) (ev rfl rfl) ?_)
  by_cases hfull : pl = n
  ·
   refine wl rfl (obin (u := .int .i64 (pl : Int)) (v := .int .i64 (n : Int)) (z := .bool true) rfl rfl (ev rfl rfl) (ev rfl rfl) (bin_eql (eqT (by omega))) ?_)
   refine wnil (thenN ?_)
   refine wT (ev rfl rfl) ?_
   refine wexit ?_
   refine thenE ?_
   refine blkX rfl ?_
   refine thenE ?_
   refine thenE ?_
   refine blkE ?_
   refine thenN (wseq (wreg (wl rfl (omove (v := .slice pP pl cP) rfl rfl (ev rfl rfl) ?_))))
   refine wl rfl (omove (v := .int .u32 (D : Int)) rfl rfl (ev rfl rfl) ?_)
   refine wl rfl (oassign (v := .slice pP pl cP) rfl rfl (ev rfl rfl) ?_)
   refine wl rfl (oassign (v := .int .u32 (D : Int)) rfl rfl (ev rfl rfl) ?_)
   refine wnil (thenN ?_)
   refine wleave ?_
   refine scR ?_
   have hfin : redTo p M c1 = (nums Q1, P) := redTo_from hR (by omega) hc
   have hfD : D < p ∧ (c1 ≤ M.length → D = detTo p M c1) := ⟨hD.1, fun h => (by have e : c = c1 := (by omega); rw [← e]; exact hD.2 (by omega))⟩
   refine wret2 Tryd.results42 (tellT (v := .slice pP pl cP) rfl rfl) (tellT (v := .int .u32 (D : Int)) rfl rfl) ?_
   exact ⟨_, _, rfl, ⟨pP, cP, P, D, Q1, hfin, hfD, by rw [hpl], by rw [hpl]⟩, Sep.pickT [.blk g4 [.int .i64 (c : Int)] 3, .lst 3 1 pP pl cP (intE P), .blk g1 [.int .u64 (p : Int), .slice pX n cX, .int .i64 (kr : Int)] 63, .lst 52 1 pX n cX (mmE Q1)] [.lst 3 1 pP pl cP (intE P), .lst 52 1 pX n cX (mmE Q1)] hS [1, 3] (by decide) rfl⟩
  ·
   refine wl rfl (obin (u := .int .i64 (pl : Int)) (v := .int .i64 (n : Int)) (z := .bool false) rfl rfl (ev rfl rfl) (ev rfl rfl) (bin_eql (eqF (by omega))) ?_)
   refine wnil (thenN ?_)
   refine wF (ev rfl rfl) ?_
   refine wskip (thenN (wseq (wreg (wl rfl (ofieldAddr (g := g1) (off := 0) 1 rfl rfl (ev rfl rfl) Tryd.runUnderlying63 rfl Tryd.sizeOf25 rfl ?_)))))
   refine wl rfl (oload1 (v := .slice pX n cX) (show One Tryd.prog 25 from ⟨Tryd.isAgg25, Tryd.sizeOf25⟩) hS 2 rfl rfl (ev rfl rfl) rfl rfl ?_)
   refine wl rfl (omove (v := .int .i64 (pl : Int)) rfl rfl (ev rfl rfl) ?_)
   obtain ⟨gm, hgm⟩ := hS.lstPtr 3 rfl (by omega)
   have hix := ixz_drop (M := nums Q1) (c := c) (r := pl)
   rw [hN1] at hix
   refine wl rfl (osliceL (g := gm) (off := 0) (l := pl) (m := n) (c := cX) rfl rfl Tryd.underlying25 Tryd.sizeOf52 (ev (v := .slice pX n cX) rfl rfl) hgm (ev (v := .int .i64 (pl : Int)) rfl rfl) (by omega) (hS.lstCap 3 rfl) ?_)
   refine wl rfl (omakeFunc (cs := #[.pointer (some ⟨g4, 0, none⟩)]) rfl rfl (args1 (ev rfl rfl)) ?_)
   by_cases hf9 : firstNZ (nums Q1) c (n - pl) pl = none
   ·
    have hz0 := redStep_none (p := p) (c := c) (s := (nums Q1, P)) (by simp only; rw [hN1, hpl]; exact hf9)
    refine wl rfl (ocall rfl rfl Tryd.call61 rfl ((show Calls _ _ _ _ (Ret (Is (.int .i64 (-1))) _) from by rw [← hix.1 hf9]; exact wxindexf ((show MS _ (some ⟨gm, 0, none⟩) n (nums Q1) from hgm ▸ hS.ms 3 rfl (by simp only [maxLen]; omega)).drop (l := pl) (by omega)) (hS.blkAt 0 rfl) (fun r hr => by rw [(i2 r (List.mem_of_mem_drop hr)).1]; omega) (by omega))) (args2 (ev rfl rfl) (ev rfl rfl)) ?_)
    rintro _ w7 ⟨_, _, rfl, ⟨rfl, rfl⟩, hN⟩
    refine ⟨_, rfl, ?_⟩
    replace hS := hS.news hN; clear hN
    refine wl rfl (oassign (v := .int .i64 (-1)) rfl rfl (ev rfl rfl) ?_)
    refine wnil (thenN (wseq (wseq (wreg (wl rfl (omove (v := .int .i64 (-1)) rfl rfl (ev rfl rfl) ?_))))))
    refine wl rfl (obin (u := .int .i64 (-1)) (v := .int .i64 0) (z := .bool true) rfl rfl (ev rfl rfl) evc (bin_lss (by decide)) ?_)
    refine wnil (thenN ?_)
    refine wT (ev rfl rfl) ?_
    refine wseq (wreg (wl rfl (oassign (v := .int .u32 0) rfl rfl evc ?_)))
    refine wnil (thenN ?_)
    refine wexit ?_
    refine thenE ?_
    refine blkE ?_
    refine thenN (wreg (wl rfl (obin (u := .int .i64 (c : Int)) (v := .int .i64 1) (z := .int .i64 (((c + 1 : Nat) : Int))) rfl rfl (ev rfl rfl) evc (bin_add (wrap_i64 (by omega) (by omega))) ?_)))
    refine wl rfl (omove (v := .int .i64 (((c + 1 : Nat) : Int))) rfl rfl (ev rfl rfl) ?_)
    refine wnil (thenN ?_)
    exact ⟨(c + 1), ⟨_, _, _, _, _, _, _, act_sets (l := [(2, .pointer (some ⟨g1, 0, none⟩)), (4, .slice none 0 0), (5, .int .u32 0), (6, .slice pP pl cP), (7, .int .u32 0), (23, .int .i64 (c1 : Int)), (24, .int .i64 (((c + 1 : Nat) : Int)))]) ⟨rfl, rfl, rfl, rfl, rfl, rfl, rfl, trivial⟩, Sep.pickT [.blk g4 [.int .i64 (c : Int)] 3, .lst 3 1 pP pl cP (intE P), .blk g1 [.int .u64 (p : Int), .slice pX n cX, .int .i64 (kr : Int)] 63, .lst 52 1 pX n cX (mmE Q1)] [.lst 3 1 pP pl cP (intE P), .blk g1 [.int .u64 (p : Int), .slice pX n cX, .int .i64 (kr : Int)] 63, .lst 52 1 pX n cX (mmE Q1)] hS [1, 2, 3] (by decide) rfl, by omega, by rw [redTo_S hR, hz0], ⟨hp0, fun _ => (detTo_none hR (by rw [hN1, hpl]; exact hf9)).symm⟩, hpl⟩, by omega⟩
   ·
    obtain ⟨jj, hf⟩ : ∃ j, firstNZ (nums Q1) c (n - pl) pl = some j := by cases h : firstNZ (nums Q1) c (n - pl) pl with | none => exact absurd h hf9 | some j => exact ⟨j, rfl⟩
    obtain ⟨f1, f2, f3, f4⟩ := firstNZ_is hf
    obtain ⟨tt, rfl⟩ : ∃ tt, jj = pl + tt := ⟨jj - pl, by omega⟩
    refine wl rfl (ocall rfl rfl Tryd.call61 rfl ((show Calls _ _ _ _ (Ret (Is (.int .i64 (tt : Int))) _) from by rw [← hix.2 tt hf]; exact wxindexf ((show MS _ (some ⟨gm, 0, none⟩) n (nums Q1) from hgm ▸ hS.ms 3 rfl (by simp only [maxLen]; omega)).drop (l := pl) (by omega)) (hS.blkAt 0 rfl) (fun r hr => by rw [(i2 r (List.mem_of_mem_drop hr)).1]; omega) (by omega))) (args2 (ev rfl rfl) (ev rfl rfl)) ?_)
    rintro _ w7 ⟨_, _, rfl, ⟨rfl, rfl⟩, hN⟩
    refine ⟨_, rfl, ?_⟩
    replace hS := hS.news hN; clear hN
    refine wl rfl (oassign (v := .int .i64 (tt : Int)) rfl rfl (ev rfl rfl) ?_)
    refine wnil (thenN (wseq (wseq (wreg (wl rfl (omove (v := .int .i64 (tt : Int)) rfl rfl (ev rfl rfl) ?_))))))
    refine wl rfl (obin (u := .int .i64 (tt : Int)) (v := .int .i64 0) (z := .bool false) rfl rfl (ev rfl rfl) evc (bin_lss (decide_eq_false (by omega))) ?_)
    refine wnil (thenN ?_)
    refine wF (ev rfl rfl) ?_
    refine wskip (thenN ?_)
    refine wjoin (I := fun a9 w' => ∃ (fb : Nat → Value) (Q2 : List Rw) (D2 : Nat), a9 = act 180 (sets fb [(2, .pointer (some ⟨g1, 0, none⟩)), (4, .slice none 0 0), (5, .int .u32 0), (6, .slice pP pl cP), (7, .int .u32 (D2 : Int)), (8, .pointer (some ⟨g4, 0, none⟩)), (9, .int .i64 (pl : Int)), (23, .int .i64 (c1 : Int)), (24, .int .i64 (c : Int))]) ∧ Sep w0 (.blk g4 [.int .i64 (c : Int)] 3 :: .lst 3 1 pP pl cP (intE P) :: .blk g1 [.int .u64 (p : Int), .slice pX n cX, .int .i64 (kr : Int)] 63 :: .lst 52 1 pX n cX (mmE Q2) :: R) w' ∧ (nums Q2 = swapM (nums Q1) pl (pl + tt)) ∧ (D2 = if pl + tt = pl then D else (0 + p - D) % p)) ?_ ?_
    ·
     refine wseq (wreg (wl rfl (omove (v := .int .i64 (tt : Int)) rfl rfl (ev rfl rfl) ?_)))
     by_cases ht0 : tt = 0
     ·
      refine wl rfl (obin (u := .int .i64 (tt : Int)) (v := .int .i64 0) (z := .bool false) rfl rfl (ev rfl rfl) evc (bin_gtr (decide_eq_false (by omega))) ?_)
      refine wnil (thenN ?_)
      refine wF (ev rfl rfl) ?_
      refine wskip (thenN ?_)
      exact ⟨_, _, _, act_sets (l := [(2, .pointer (some ⟨g1, 0, none⟩)), (4, .slice none 0 0), (5, .int .u32 0), (6, .slice pP pl cP), (7, .int .u32 (D : Int)), (8, .pointer (some ⟨g4, 0, none⟩)), (9, .int .i64 (pl : Int)), (23, .int .i64 (c1 : Int)), (24, .int .i64 (c : Int))]) ⟨rfl, rfl, rfl, rfl, rfl, rfl, rfl, rfl, rfl, trivial⟩, Sep.pickT [.blk g4 [.int .i64 (c : Int)] 3, .lst 3 1 pP pl cP (intE P), .blk g1 [.int .u64 (p : Int), .slice pX n cX, .int .i64 (kr : Int)] 63, .lst 52 1 pX n cX (mmE Q1)] [.blk g4 [.int .i64 (c : Int)] 3, .lst 3 1 pP pl cP (intE P), .blk g1 [.int .u64 (p : Int), .slice pX n cX, .int .i64 (kr : Int)] 63, .lst 52 1 pX n cX (mmE Q1)] hS [0, 1, 2, 3] (by decide) rfl, by rw [ht0, Nat.add_zero]; exact (swapM_self (by omega)).symm, by rw [if_pos (by omega)]⟩
     ·
      refine wl rfl (obin (u := .int .i64 (tt : Int)) (v := .int .i64 0) (z := .bool true) rfl rfl (ev rfl rfl) evc (bin_gtr (decide_eq_true (by omega))) ?_)
      refine wnil (thenN ?_)
      refine wT (ev rfl rfl) ?_
      refine wseq ?_
      obtain ⟨⟨pr, cr, xr⟩, hqr⟩ : ∃ q, (Q1)[pl]? = some q := ⟨_, List.getElem?_eq_getElem (by omega)⟩
      have hdr : (nums (Q1)).getD pl [] = xr := getD_get (nums_get hqr)
      obtain ⟨hnr, hltr⟩ := i2.get (nums_get hqr)
      simp only at hnr hltr
      obtain ⟨gr, hgr⟩ := hS.mPtr 3 rfl hqr (by show 0 < xr.length; omega)
      obtain ⟨⟨pj, cj, xj⟩, hqj⟩ : ∃ q, (Q1)[pl + tt]? = some q := ⟨_, List.getElem?_eq_getElem (by omega)⟩
      have hdj : (nums (Q1)).getD (pl + tt) [] = xj := getD_get (nums_get hqj)
      obtain ⟨hnj, hltj⟩ := i2.get (nums_get hqj)
      simp only at hnj hltj
      obtain ⟨gj, hgj⟩ := hS.mPtr 3 rfl hqj (by show 0 < xj.length; omega)
      refine wstageP 21 [44, 45, 46, 47, 48, 49, 50, 51, 52, 53, 54, 55, 56, 57, 58, 59, 60, 61, 62, 63, 64] [[], [0], [], [], [3], [], [], [5, 6], [], [8], [], [], [10, 11], [9, 12, 8, 10, 11], [13, 8, 9, 10, 11, 12], [], [15], [], [16, 17, 15], [18, 15, 16, 17], [1, 2, 0, 8, 9, 10, 11, 12, 13, 14, 15, 16, 17, 18, 19]] [[], [], [], [], [], [], [], [], [], [], [], [], [], [], [], [], [], [], [], [], []] [3, 4, 5, 6, 7] [(g1, [.int .u64 (p : Int), .slice pX n cX, .int .i64 (kr : Int)], 63)] (fun i9 => ([fun _ => Is (.pointer (some ⟨g1, 1, none⟩)), fun _ => Is (.slice pX n cX), fun _ => Is (.int .i64 (pl : Int)), fun _ => Is (.pointer (some ⟨g1, 1, none⟩)), fun _ => Is (.slice pX n cX), fun _ => Is (.int .i64 (pl : Int)), fun _ => Is (.int .i64 (tt : Int)), fun _ => Is (.int .i64 (((pl + tt : Nat) : Int))), fun _ => Is (.pointer (some ⟨g1, 1, none⟩)), fun _ => Is (.slice pX n cX), fun _ => Is (.int .i64 (pl : Int)), fun _ => Is (.int .i64 (tt : Int)), fun _ => Is (.int .i64 (((pl + tt : Nat) : Int))), fun _ => Is (.pointer (some ⟨gm, (0 + (pl + tt) * 1), none⟩)), fun _ => Is (.slice pj C cj), fun _ => Is (.pointer (some ⟨g1, 1, none⟩)), fun _ => Is (.slice pX n cX), fun _ => Is (.int .i64 (pl : Int)), fun _ => Is (.pointer (some ⟨gm, (0 + pl * 1), none⟩)), fun _ => Is (.slice pr C cr), fun _ => Is (.pointer (some ⟨gm, (0 + pl * 1), none⟩))] : List (List Value → Tell)).getD i9 (fun _ _ _ => False)) ((heldCons (hS.blkAt 2 rfl) heldNil)) (fun d _ _ _ _ h => (by cases d <;> exact h)) (by kernel_rfl) (by kernel_rfl) (by kernel_rfl) hS ?_ ?_
      ·
       refine stepsCons rfl (fun Q f' w' ρ S ho hT hS hB => ?_) ?_
       ·exact .inl ⟨want_none rfl, ofieldAddr (g := g1) (off := 0) 1 rfl rfl (ev rfl (ho 2 rfl)) Tryd.runUnderlying63 rfl Tryd.sizeOf25 rfl ⟨_, _, rfl, isI, New.same _⟩⟩
       refine stepsCons rfl (fun Q f' w' ρ S ho hT hS hB => ?_) ?_
       ·obtain ⟨hv0, hr0⟩ := (hT 0 44 rfl rfl : (Is (.pointer (some ⟨g1, 1, none⟩))) _ _)
        obtain hS := (hS.flat1 hr0).front1
        exact .inl ⟨want_none rfl, oload1 (v := .slice pX n cX) (show One Tryd.prog 25 from ⟨Tryd.isAgg25, Tryd.sizeOf25⟩) hS 2 rfl rfl (ev rfl hv0) rfl rfl ⟨_, _, rfl, isI, New.same _⟩⟩
       refine stepsCons rfl (fun Q f' w' ρ S ho hT hS hB => ?_) ?_
       ·exact .inl ⟨want_none rfl, omove (v := .int .i64 (pl : Int)) rfl rfl (ev rfl (ho 9 rfl)) ⟨_, _, rfl, isI, New.same _⟩⟩
       refine stepsPure rfl ?_ ?_
       ·intro f' ρ ho hT
        exact ⟨_, .inl ⟨want_none rfl, fun w hw => yfieldAddr (i := 1) (g := g1) (off := 0) 1 rfl (ev (v := .pointer (some ⟨g1, 0, none⟩)) rfl (ho 2 rfl)) Tryd.runUnderlying63 rfl Tryd.sizeOf25 rfl w⟩, isI⟩
       refine stepsPure rfl ?_ ?_
       ·intro f' ρ ho hT
        obtain ⟨hv3, hr3⟩ := (hT 3 47 rfl rfl : (Is (.pointer (some ⟨g1, 1, none⟩))) _ _)
        exact ⟨_, .inl ⟨want_none rfl, fun w hw => yload1 (v := .slice pX n cX) (show One Tryd.prog 25 from ⟨Tryd.isAgg25, Tryd.sizeOf25⟩) rfl (ev rfl hv3) (hw.at 0 rfl) rfl⟩, isI⟩
       refine stepsPure rfl ?_ ?_
       ·intro f' ρ ho hT
        exact ⟨_, .inl ⟨want_none rfl, fun w hw => ymove (v := .int .i64 (pl : Int)) rfl (ev (v := .int .i64 (pl : Int)) rfl (ho 9 rfl)) w⟩, isI⟩
       refine stepsPure rfl ?_ ?_
       ·intro f' ρ ho hT
        exact ⟨_, .inl ⟨want_none rfl, fun w hw => ymove (v := .int .i64 (tt : Int)) rfl (ev (v := .int .i64 (tt : Int)) rfl (ho 10 rfl)) w⟩, isI⟩
       refine stepsPure rfl ?_ ?_
       ·intro f' ρ ho hT
        obtain ⟨hv5, hr5⟩ := (hT 5 49 rfl rfl : (Is (.int .i64 (((pl : Nat) : Int)))) _ _)
        obtain ⟨hv6, hr6⟩ := (hT 6 50 rfl rfl : (Is (.int .i64 (((tt : Nat) : Int)))) _ _)
        exact ⟨_, .inl ⟨want_none rfl, fun w hw => ybin (u := .int .i64 (pl : Int)) (v := .int .i64 (tt : Int)) (z := .int .i64 (((pl + tt : Nat) : Int))) rfl (ev (v := .int .i64 (pl : Int)) rfl hv5) (ev (v := .int .i64 (tt : Int)) rfl hv6) (bin_add (wrap_i64 (by omega) (by omega)))⟩, isI⟩
       refine stepsCons rfl (fun Q f' w' ρ S ho hT hS hB => ?_) ?_
       ·exact .inl ⟨want_none rfl, ofieldAddr (g := g1) (off := 0) 1 rfl rfl (ev rfl (ho 2 rfl)) Tryd.runUnderlying63 rfl Tryd.sizeOf25 rfl ⟨_, _, rfl, isI, New.same _⟩⟩
       refine stepsCons rfl (fun Q f' w' ρ S ho hT hS hB => ?_) ?_
       ·obtain ⟨hv8, hr8⟩ := (hT 8 52 rfl rfl : (Is (.pointer (some ⟨g1, 1, none⟩))) _ _)
        obtain hS := (hS.flat1 hr8).front1
        exact .inl ⟨want_none rfl, oload1 (v := .slice pX n cX) (show One Tryd.prog 25 from ⟨Tryd.isAgg25, Tryd.sizeOf25⟩) hS 2 rfl rfl (ev rfl hv8) rfl rfl ⟨_, _, rfl, isI, New.same _⟩⟩
       refine stepsCons rfl (fun Q f' w' ρ S ho hT hS hB => ?_) ?_
       ·exact .inl ⟨want_none rfl, omove (v := .int .i64 (pl : Int)) rfl rfl (ev rfl (ho 9 rfl)) ⟨_, _, rfl, isI, New.same _⟩⟩
       refine stepsCons rfl (fun Q f' w' ρ S ho hT hS hB => ?_) ?_
       ·exact .inl ⟨want_none rfl, omove (v := .int .i64 (tt : Int)) rfl rfl (ev rfl (ho 10 rfl)) ⟨_, _, rfl, isI, New.same _⟩⟩
       refine stepsCons rfl (fun Q f' w' ρ S ho hT hS hB => ?_) ?_
       ·obtain ⟨hv10, hr10⟩ := (hT 10 54 rfl rfl : (Is (.int .i64 (((pl : Nat) : Int)))) _ _)
        obtain ⟨hv11, hr11⟩ := (hT 11 55 rfl rfl : (Is (.int .i64 (((tt : Nat) : Int)))) _ _)
        obtain hS := (hS.flat2 hr10 hr11).front2
        exact .inl ⟨want_none rfl, obin (u := .int .i64 (pl : Int)) (v := .int .i64 (tt : Int)) (z := .int .i64 (((pl + tt : Nat) : Int))) rfl rfl (ev rfl hv10) (ev rfl hv11) (bin_add (wrap_i64 (by omega) (by omega))) ⟨_, _, rfl, isI, New.same _⟩⟩
       refine stepsCons rfl (fun Q f' w' ρ S ho hT hS hB => ?_) ?_
       ·obtain ⟨hv9, hr9⟩ := (hT 9 53 rfl rfl : (Is (.slice pX n cX)) _ _)
        obtain ⟨hv12, hr12⟩ := (hT 12 56 rfl rfl : (Is (.int .i64 (((pl + tt : Nat) : Int)))) _ _)
        obtain hS := (hS.flat2 hr9 hr12).front2
        exact .inl ⟨want_none rfl, oindex (p := pX) (g := gm) (off := 0) (m := n) (k := pl + tt) (j := (0 + (pl + tt) * 1)) rfl rfl Tryd.runUnderlying25 Tryd.sizeOf52 (ev rfl hv9) (hgm) (ev rfl hv12) (by omega) rfl ⟨_, _, rfl, isI, New.same _⟩⟩
       refine stepsCons rfl (fun Q f' w' ρ S ho hT hS hB => ?_) ?_
       ·obtain ⟨hv13, hr13⟩ := (hT 13 57 rfl rfl : (Is (.pointer (some ⟨gm, (0 + (pl + tt) * 1), none⟩))) _ _)
        obtain hS := (hS.flat1 hr13).front1
        exact .inl ⟨want_none rfl, oloadc (v := .slice pj C cj) (show One Tryd.prog 52 from ⟨Tryd.isAgg52, Tryd.sizeOf52⟩) rfl rfl (ev (v := .pointer (some ⟨gm, (0 + (pl + tt) * 1), none⟩)) rfl hv13) (hS.mRow 3 rfl hqj hnj hgm) ⟨_, _, rfl, isI, New.same _⟩⟩
       refine stepsCons rfl (fun Q f' w' ρ S ho hT hS hB => ?_) ?_
       ·exact .inl ⟨want_none rfl, ofieldAddr (g := g1) (off := 0) 1 rfl rfl (ev rfl (ho 2 rfl)) Tryd.runUnderlying63 rfl Tryd.sizeOf25 rfl ⟨_, _, rfl, isI, New.same _⟩⟩
       refine stepsCons rfl (fun Q f' w' ρ S ho hT hS hB => ?_) ?_
       ·obtain ⟨hv15, hr15⟩ := (hT 15 59 rfl rfl : (Is (.pointer (some ⟨g1, 1, none⟩))) _ _)
        obtain hS := (hS.flat1 hr15).front1
        exact .inl ⟨want_none rfl, oload1 (v := .slice pX n cX) (show One Tryd.prog 25 from ⟨Tryd.isAgg25, Tryd.sizeOf25⟩) hS 2 rfl rfl (ev rfl hv15) rfl rfl ⟨_, _, rfl, isI, New.same _⟩⟩
       refine stepsCons rfl (fun Q f' w' ρ S ho hT hS hB => ?_) ?_
       ·exact .inl ⟨want_none rfl, omove (v := .int .i64 (pl : Int)) rfl rfl (ev rfl (ho 9 rfl)) ⟨_, _, rfl, isI, New.same _⟩⟩
       refine stepsCons rfl (fun Q f' w' ρ S ho hT hS hB => ?_) ?_
       ·obtain ⟨hv16, hr16⟩ := (hT 16 60 rfl rfl : (Is (.slice pX n cX)) _ _)
        obtain ⟨hv17, hr17⟩ := (hT 17 61 rfl rfl : (Is (.int .i64 (((pl : Nat) : Int)))) _ _)
        obtain hS := (hS.flat2 hr16 hr17).front2
        exact .inl ⟨want_none rfl, oindex (p := pX) (g := gm) (off := 0) (m := n) (k := pl) (j := (0 + pl * 1)) rfl rfl Tryd.runUnderlying25 Tryd.sizeOf52 (ev rfl hv16) (hgm) (ev rfl hv17) (by omega) rfl ⟨_, _, rfl, isI, New.same _⟩⟩
       refine stepsCons rfl (fun Q f' w' ρ S ho hT hS hB => ?_) ?_
       ·obtain ⟨hv18, hr18⟩ := (hT 18 62 rfl rfl : (Is (.pointer (some ⟨gm, (0 + pl * 1), none⟩))) _ _)
        obtain hS := (hS.flat1 hr18).front1
        exact .inl ⟨want_none rfl, oloadc (v := .slice pr C cr) (show One Tryd.prog 52 from ⟨Tryd.isAgg52, Tryd.sizeOf52⟩) rfl rfl (ev (v := .pointer (some ⟨gm, (0 + pl * 1), none⟩)) rfl hv18) (hS.mRow 3 rfl hqr hnr hgm) ⟨_, _, rfl, isI, New.same _⟩⟩
       refine stepsCons rfl (fun Q f' w' ρ S ho hT hS hB => ?_) ?_
       ·obtain ⟨hv1, hr1⟩ := (hT 1 45 rfl rfl : (Is (.slice pX n cX)) _ _)
        obtain ⟨hv2, hr2⟩ := (hT 2 46 rfl rfl : (Is (.int .i64 (((pl : Nat) : Int)))) _ _)
        obtain hS := (hS.flat2 hr1 hr2).front2
        exact .inl ⟨want_none rfl, oindex (p := pX) (g := gm) (off := 0) (m := n) (k := pl) (j := (0 + pl * 1)) rfl rfl Tryd.runUnderlying25 Tryd.sizeOf52 (ev rfl hv1) (hgm) (ev rfl hv2) (by omega) rfl ⟨_, _, rfl, isI, New.same _⟩⟩
       exact stepsNil
      ·
       intro vs ρ w8 f' hf hT hS
       obtain ⟨hv0, hr0⟩ := (hT 0 (by decide) : (Is (.pointer (some ⟨g1, 1, none⟩))) _ _)
       obtain ⟨hv1, hr1⟩ := (hT 1 (by decide) : (Is (.slice pX n cX)) _ _)
       obtain ⟨hv2, hr2⟩ := (hT 2 (by decide) : (Is (.int .i64 (((pl : Nat) : Int)))) _ _)
       obtain ⟨hv3, hr3⟩ := (hT 3 (by decide) : (Is (.pointer (some ⟨g1, 1, none⟩))) _ _)
       obtain ⟨hv4, hr4⟩ := (hT 4 (by decide) : (Is (.slice pX n cX)) _ _)
       obtain ⟨hv5, hr5⟩ := (hT 5 (by decide) : (Is (.int .i64 (((pl : Nat) : Int)))) _ _)
       obtain ⟨hv6, hr6⟩ := (hT 6 (by decide) : (Is (.int .i64 (((tt : Nat) : Int)))) _ _)
       obtain ⟨hv7, hr7⟩ := (hT 7 (by decide) : (Is (.int .i64 (((pl + tt : Nat) : Int)))) _ _)
       obtain ⟨hv8, hr8⟩ := (hT 8 (by decide) : (Is (.pointer (some ⟨g1, 1, none⟩))) _ _)
       obtain ⟨hv9, hr9⟩ := (hT 9 (by decide) : (Is (.slice pX n cX)) _ _)
       obtain ⟨hv10, hr10⟩ := (hT 10 (by decide) : (Is (.int .i64 (((pl : Nat) : Int)))) _ _)
       obtain ⟨hv11, hr11⟩ := (hT 11 (by decide) : (Is (.int .i64 (((tt : Nat) : Int)))) _ _)
       obtain ⟨hv12, hr12⟩ := (hT 12 (by decide) : (Is (.int .i64 (((pl + tt : Nat) : Int)))) _ _)
       obtain ⟨hv13, hr13⟩ := (hT 13 (by decide) : (Is (.pointer (some ⟨gm, (0 + (pl + tt) * 1), none⟩))) _ _)
       obtain ⟨hv14, hr14⟩ := (hT 14 (by decide) : (Is (.slice pj C cj)) _ _)
       obtain ⟨hv15, hr15⟩ := (hT 15 (by decide) : (Is (.pointer (some ⟨g1, 1, none⟩))) _ _)
       obtain ⟨hv16, hr16⟩ := (hT 16 (by decide) : (Is (.slice pX n cX)) _ _)
       obtain ⟨hv17, hr17⟩ := (hT 17 (by decide) : (Is (.int .i64 (((pl : Nat) : Int)))) _ _)
       obtain ⟨hv18, hr18⟩ := (hT 18 (by decide) : (Is (.pointer (some ⟨gm, (0 + pl * 1), none⟩))) _ _)
       obtain ⟨hv19, hr19⟩ := (hT 19 (by decide) : (Is (.slice pr C cr)) _ _)
       obtain ⟨hv20, hr20⟩ := (hT 20 (by decide) : (Is (.pointer (some ⟨gm, (0 + pl * 1), none⟩))) _ _)
       simp only [pool, if_true, hr0, hr1, hr2, hr3, hr4, hr5, hr6, hr7, hr8, hr9, hr10, hr11, hr12, hr13, hr14, hr15, hr16, hr17, hr18, hr19, hr20, List.nil_append, List.cons_append, List.append_nil] at hS
       simp only [layf, hv0, hv1, hv2, hv3, hv4, hv5, hv6, hv7, hv8, hv9, hv10, hv11, hv12, hv13, hv14, hv15, hv16, hv17, hv18, hv19, hv20] at hf
       subst hf; clear hT hv0 hv1 hv2 hv3 hv4 hv5 hv6 hv7 hv8 hv9 hv10 hv11 hv12 hv13 hv14 hv15 hv16 hv17 hv18 hv19 hv20 hr0 hr1 hr2 hr3 hr4 hr5 hr6 hr7 hr8 hr9 hr10 hr11 hr12 hr13 hr14 hr15 hr16 hr17 hr18 hr19 hr20
       obtain hS := (show Sep w0 (.lst 52 1 pX n cX (mmE Q1) :: .blk g4 [.int .i64 (((c : Nat) : Int))] 3 :: .lst 3 1 pP pl cP (intE P) :: .blk g1 [.int .u64 (((p : Nat) : Int)), .slice pX n cX, .int .i64 (((kr : Nat) : Int))] 63 :: R) w8 from Sep.pickT [.blk g4 [.int .i64 (((c : Nat) : Int))] 3, .lst 3 1 pP pl cP (intE P), .blk g1 [.int .u64 (((p : Nat) : Int)), .slice pX n cX, .int .i64 (((kr : Nat) : Int))] 63, .lst 52 1 pX n cX (mmE Q1)] [.lst 52 1 pX n cX (mmE Q1), .blk g4 [.int .i64 (((c : Nat) : Int))] 3, .lst 3 1 pP pl cP (intE P), .blk g1 [.int .u64 (((p : Nat) : Int)), .slice pX n cX, .int .i64 (((kr : Nat) : Int))] 63] hS [3, 0, 1, 2] (by decide) rfl)
       obtain hS := hS.take2 hqr hqj (by omega) hnr hnj
       obtain hS := (show Sep w0 (.rowm pj C cj xj :: .lst 52 1 pX n cX (((mmE Q1).set pl ⟨[.slice pr C cr], []⟩).set (pl + tt) ⟨[.slice pj C cj], []⟩) :: .rowm pr C cr xr :: .blk g4 [.int .i64 (((c : Nat) : Int))] 3 :: .lst 3 1 pP pl cP (intE P) :: .blk g1 [.int .u64 (((p : Nat) : Int)), .slice pX n cX, .int .i64 (((kr : Nat) : Int))] 63 :: R) w8 from Sep.pickT [.rowm pr C cr xr, .rowm pj C cj xj, .lst 52 1 pX n cX (((mmE Q1).set pl ⟨[.slice pr C cr], []⟩).set (pl + tt) ⟨[.slice pj C cj], []⟩), .blk g4 [.int .i64 (((c : Nat) : Int))] 3, .lst 3 1 pP pl cP (intE P), .blk g1 [.int .u64 (((p : Nat) : Int)), .slice pX n cX, .int .i64 (((kr : Nat) : Int))] 63] [.rowm pj C cj xj, .lst 52 1 pX n cX (((mmE Q1).set pl ⟨[.slice pr C cr], []⟩).set (pl + tt) ⟨[.slice pj C cj], []⟩), .rowm pr C cr xr, .blk g4 [.int .i64 (((c : Nat) : Int))] 3, .lst 3 1 pP pl cP (intE P), .blk g1 [.int .u64 (((p : Nat) : Int)), .slice pX n cX, .int .i64 (((kr : Nat) : Int))] 63] hS [1, 2, 0, 3, 4, 5] (by decide) rfl)
       refine wlate 21 rfl (by kernel_rfl) (ostoreL (i := pl) (g := gm) [.slice pj C cj] [.rowm pj C cj xj] Tryd.sizeOf52 hS rfl rfl (ev (v := .pointer (some ⟨gm, (0 + pl * 1), none⟩)) rfl rfl) (ev (v := .slice pj C cj) rfl rfl) (rfl) rfl rfl rfl hgm (by omega) rfl ?_)
       clear hS; intro w9 hS
       refine ⟨(heldCons (hS.blkAt 4 rfl) heldNil), ?_⟩
       refine wlate 22 rfl (by kernel_rfl) (oindex (p := pX) (g := gm) (off := 0) (m := n) (k := pl + tt) (j := (0 + (pl + tt) * 1)) rfl rfl Tryd.runUnderlying25 Tryd.sizeOf52 (ev rfl rfl) (hgm) (ev rfl rfl) (by omega) rfl ?_)
       refine ⟨(heldCons (hS.blkAt 4 rfl) heldNil), ?_⟩
       obtain hS := (show Sep w0 (.rowm pr C cr xr :: .lst 52 1 pX n cX ((((mmE Q1).set pl ⟨[.slice pr C cr], []⟩).set (pl + tt) ⟨[.slice pj C cj], []⟩).set pl ⟨[.slice pj C cj], [.rowm pj C cj xj]⟩) :: .blk g4 [.int .i64 (((c : Nat) : Int))] 3 :: .lst 3 1 pP pl cP (intE P) :: .blk g1 [.int .u64 (((p : Nat) : Int)), .slice pX n cX, .int .i64 (((kr : Nat) : Int))] 63 :: R) w9 from Sep.pickT [.lst 52 1 pX n cX ((((mmE Q1).set pl ⟨[.slice pr C cr], []⟩).set (pl + tt) ⟨[.slice pj C cj], []⟩).set pl ⟨[.slice pj C cj], [.rowm pj C cj xj]⟩), .rowm pr C cr xr, .blk g4 [.int .i64 (((c : Nat) : Int))] 3, .lst 3 1 pP pl cP (intE P), .blk g1 [.int .u64 (((p : Nat) : Int)), .slice pX n cX, .int .i64 (((kr : Nat) : Int))] 63] [.rowm pr C cr xr, .lst 52 1 pX n cX ((((mmE Q1).set pl ⟨[.slice pr C cr], []⟩).set (pl + tt) ⟨[.slice pj C cj], []⟩).set pl ⟨[.slice pj C cj], [.rowm pj C cj xj]⟩), .blk g4 [.int .i64 (((c : Nat) : Int))] 3, .lst 3 1 pP pl cP (intE P), .blk g1 [.int .u64 (((p : Nat) : Int)), .slice pX n cX, .int .i64 (((kr : Nat) : Int))] 63] hS [1, 0, 2, 3, 4] (by decide) rfl)
       refine wlate 23 rfl (by kernel_rfl) (ostoreL (i := ((pl + tt))) (g := gm) [.slice pr C cr] [.rowm pr C cr xr] Tryd.sizeOf52 hS rfl rfl (ev (v := .pointer (some ⟨gm, (0 + (pl + tt) * 1), none⟩)) rfl rfl) (ev (v := .slice pr C cr) rfl rfl) (rfl) rfl rfl rfl hgm (by omega) rfl ?_)
       clear hS; intro w10 hS
       refine ⟨(heldCons (hS.blkAt 3 rfl) heldNil), ?_⟩
       refine wdone rfl ?_
       refine thenN (wreg (wl rfl (oload (vs := [.int .u64 (p : Int), .slice pX n cX, .int .i64 (kr : Int)]) (show Agg Tryd.prog 63 3 from ⟨Tryd.isAgg63, Tryd.sizeOf63⟩) hS 3 rfl rfl (ev rfl rfl) rfl rfl rfl ?_)))
       refine wl rfl (omove (v := .int .u32 (D : Int)) rfl rfl (ev rfl rfl) ?_)
       rw [swap_mm (by omega) hnr hnj] at hS
       refine wl rfl (ocall rfl rfl Tryd.call55 rfl (wxsub (a := 0) (b := D) hp0 hp2 (by omega) (by have := hD.1; omega) (by have := hD.1; omega)) (args3 (ev rfl rfl) evc (ev rfl rfl)) ?_)
       rintro _ w11 ⟨_, _, rfl, ⟨rfl, rfl⟩, hN⟩
       refine ⟨_, rfl, ?_⟩
       replace hS := hS.news hN; clear hN
       refine wl rfl (oassign (v := .int .u32 ((((0 + p - D) % p : Nat) : Int))) rfl rfl (ev rfl rfl) ?_)
       refine wnil (thenN ?_)
       exact ⟨_, _, _, act_sets (l := [(2, .pointer (some ⟨g1, 0, none⟩)), (4, .slice none 0 0), (5, .int .u32 0), (6, .slice pP pl cP), (7, .int .u32 ((((0 + p - D) % p : Nat) : Int))), (8, .pointer (some ⟨g4, 0, none⟩)), (9, .int .i64 (pl : Int)), (23, .int .i64 (c1 : Int)), (24, .int .i64 (c : Int))]) ⟨rfl, rfl, rfl, rfl, rfl, rfl, rfl, rfl, rfl, trivial⟩, Sep.pickT [.lst 52 1 pX n cX (mmE ((Q1.set pl ⟨pj, cj, xj⟩).set (pl + tt) ⟨pr, cr, xr⟩)), .blk g4 [.int .i64 (c : Int)] 3, .lst 3 1 pP pl cP (intE P), .blk g1 [.int .u64 (p : Int), .slice pX n cX, .int .i64 (kr : Int)] 63] [.blk g4 [.int .i64 (c : Int)] 3, .lst 3 1 pP pl cP (intE P), .blk g1 [.int .u64 (p : Int), .slice pX n cX, .int .i64 (kr : Int)] 63, .lst 52 1 pX n cX (mmE ((Q1.set pl ⟨pj, cj, xj⟩).set (pl + tt) ⟨pr, cr, xr⟩))] hS [1, 2, 3, 0] (by decide) rfl, by rw [nums_set, nums_set]; unfold swapM; rw [hdr, hdj], by rw [if_neg (by omega)]⟩
    clear hS; rintro _ w8 ⟨fb, Q2, D2, rfl, hS, hQ2, hD2⟩
    refine wseq ?_
    have hQ2n : Q2.length = n := by rw [nums_lenE hQ2, swapM_len]; exact hN1
    have s2 : Shp p C (nums Q2) := by rw [hQ2]; exact swapM_shp i2 (by omega) (by omega)
    have hD2p : D2 < p := by rw [hD2]; split; exact hD.1; exact Nat.mod_lt _ hp0
    obtain ⟨⟨ps, cs, xs⟩, hqs⟩ : ∃ q, (Q2)[pl]? = some q := ⟨_, List.getElem?_eq_getElem (by omega)⟩
    have hds : (nums (Q2)).getD pl [] = xs := getD_get (nums_get hqs)
    obtain ⟨hns, hlts⟩ := s2.get (nums_get hqs)
    simp only at hns hlts
    obtain ⟨gs, hgs⟩ := hS.mPtr 3 rfl hqs (by show 0 < xs.length; omega)
    have hxc := nd_lt hlts hp0 (k := c)
    have hsc : nd xs c = nd ((nums Q1).getD (pl + tt) []) c := by rw [← hds, hQ2, swapM_at (by omega) (by omega), if_pos rfl]
    have hxc0 : nd xs c ≠ 0 := by rw [hsc]; exact f3
    obtain ⟨iv, hiv⟩ : ∃ iv, Hid (pinv p (nd xs c) = iv) := ⟨_, rfl⟩
    have hivp : iv < p := by rw [← hiv.out]; exact Nat.mod_lt _ hp0
    refine wstage 11 [69, 70, 71, 72, 73, 74, 75, 76, 77, 78, 79] [[], [], [], [2], [], [3, 4, 2], [5, 2, 3, 4], [], [6, 7, 2, 3, 4, 5], [8, 2, 3, 4, 5, 6, 7], [0, 1, 9, 2, 3, 4, 5, 6, 7, 8]] [[], [], [], [], [], [], [], [], [], [], []] [] [] (fun i9 => ([fun _ => Is (.agg #[.int .u64 (p : Int), .slice pX n cX, .int .i64 (kr : Int)]), fun _ => Is (.int .u32 (D2 : Int)), fun _ => Is (.pointer (some ⟨g1, 1, none⟩)), fun _ => Is (.slice pX n cX), fun _ => Is (.int .i64 (pl : Int)), fun _ => Is (.pointer (some ⟨gm, (0 + pl * 1), none⟩)), fun _ => Is (.slice ps C cs), fun _ => Is (.int .i64 (c : Int)), fun _ => Is (.pointer (some ⟨gs, c, none⟩)), fun _ => Is (.int .u32 (((nd xs c : Nat) : Int))), fun _ => Is (.int .u32 (((D2 * (nd xs c) % p : Nat) : Int)))] : List (List Value → Tell)).getD i9 (fun _ _ _ => False)) (heldNil) (fun d _ _ _ _ h => (by cases d <;> exact h)) (by kernel_rfl) (by kernel_rfl) (by kernel_rfl) hS ?_ ?_
    ·
     refine stepsCons rfl (fun Q f' w' ρ S ho hT hS hB => ?_) ?_
     ·exact .inl ⟨want_none rfl, oload (vs := [.int .u64 (p : Int), .slice pX n cX, .int .i64 (kr : Int)]) (show Agg Tryd.prog 63 3 from ⟨Tryd.isAgg63, Tryd.sizeOf63⟩) hS 2 rfl rfl (ev rfl (ho 2 rfl)) rfl rfl rfl ⟨_, _, rfl, isI, New.same _⟩⟩
     refine stepsCons rfl (fun Q f' w' ρ S ho hT hS hB => ?_) ?_
     ·exact .inl ⟨want_none rfl, omove (v := .int .u32 (D2 : Int)) rfl rfl (ev rfl (ho 7 rfl)) ⟨_, _, rfl, isI, New.same _⟩⟩
     refine stepsCons rfl (fun Q f' w' ρ S ho hT hS hB => ?_) ?_
     ·exact .inl ⟨want_none rfl, ofieldAddr (g := g1) (off := 0) 1 rfl rfl (ev rfl (ho 2 rfl)) Tryd.runUnderlying63 rfl Tryd.sizeOf25 rfl ⟨_, _, rfl, isI, New.same _⟩⟩
     refine stepsCons rfl (fun Q f' w' ρ S ho hT hS hB => ?_) ?_
     ·obtain ⟨hv2, hr2⟩ := (hT 2 71 rfl rfl : (Is (.pointer (some ⟨g1, 1, none⟩))) _ _)
      obtain hS := (hS.flat1 hr2).front1
      exact .inl ⟨want_none rfl, oload1 (v := .slice pX n cX) (show One Tryd.prog 25 from ⟨Tryd.isAgg25, Tryd.sizeOf25⟩) hS 2 rfl rfl (ev rfl hv2) rfl rfl ⟨_, _, rfl, isI, New.same _⟩⟩
     refine stepsCons rfl (fun Q f' w' ρ S ho hT hS hB => ?_) ?_
     ·exact .inl ⟨want_none rfl, omove (v := .int .i64 (pl : Int)) rfl rfl (ev rfl (ho 9 rfl)) ⟨_, _, rfl, isI, New.same _⟩⟩
     refine stepsCons rfl (fun Q f' w' ρ S ho hT hS hB => ?_) ?_
     ·obtain ⟨hv3, hr3⟩ := (hT 3 72 rfl rfl : (Is (.slice pX n cX)) _ _)
      obtain ⟨hv4, hr4⟩ := (hT 4 73 rfl rfl : (Is (.int .i64 (((pl : Nat) : Int)))) _ _)
      obtain hS := (hS.flat2 hr3 hr4).front2
      exact .inl ⟨want_none rfl, oindex (p := pX) (g := gm) (off := 0) (m := n) (k := pl) (j := (0 + pl * 1)) rfl rfl Tryd.runUnderlying25 Tryd.sizeOf52 (ev rfl hv3) (hgm) (ev rfl hv4) (by omega) rfl ⟨_, _, rfl, isI, New.same _⟩⟩
     refine stepsCons rfl (fun Q f' w' ρ S ho hT hS hB => ?_) ?_
     ·obtain ⟨hv5, hr5⟩ := (hT 5 74 rfl rfl : (Is (.pointer (some ⟨gm, (0 + pl * 1), none⟩))) _ _)
      obtain hS := (hS.flat1 hr5).front1
      exact .inl ⟨want_none rfl, oloadc (v := .slice ps C cs) (show One Tryd.prog 52 from ⟨Tryd.isAgg52, Tryd.sizeOf52⟩) rfl rfl (ev (v := .pointer (some ⟨gm, (0 + pl * 1), none⟩)) rfl hv5) (hS.mRow 3 rfl hqs hns hgm) ⟨_, _, rfl, isI, New.same _⟩⟩
     refine stepsCons rfl (fun Q f' w' ρ S ho hT hS hB => ?_) ?_
     ·exact .inl ⟨want_none rfl, oload1 (v := .int .i64 (c : Int)) oneI hS 0 rfl rfl (ev rfl (ho 8 rfl)) rfl rfl ⟨_, _, rfl, isI, New.same _⟩⟩
     refine stepsCons rfl (fun Q f' w' ρ S ho hT hS hB => ?_) ?_
     ·obtain ⟨hv6, hr6⟩ := (hT 6 75 rfl rfl : (Is (.slice ps C cs)) _ _)
      obtain ⟨hv7, hr7⟩ := (hT 7 76 rfl rfl : (Is (.int .i64 (((c : Nat) : Int)))) _ _)
      obtain hS := (hS.flat2 hr6 hr7).front2
      exact .inl ⟨want_none rfl, oindex (p := ps) (g := gs) (off := 0) (m := C) (k := c) (j := c) rfl rfl Tryd.runUnderlying52 Tryd.sizeOf27 (ev rfl hv6) (hgs) (ev rfl hv7) (by omega) (by simp) ⟨_, _, rfl, isI, New.same _⟩⟩
     refine stepsCons rfl (fun Q f' w' ρ S ho hT hS hB => ?_) ?_
     ·obtain ⟨hv8, hr8⟩ := (hT 8 77 rfl rfl : (Is (.pointer (some ⟨gs, c, none⟩))) _ _)
      obtain hS := (hS.flat1 hr8).front1
      exact .inl ⟨want_none rfl, oloadc (v := .int .u32 (((nd xs c : Nat) : Int))) one32 rfl rfl (ev (v := .pointer (some ⟨gs, c, none⟩)) rfl hv8) (hS.mCell 3 rfl hqs hgs (by omega)) ⟨_, _, rfl, isI, New.same _⟩⟩
     refine stepsCons rfl (fun Q f' w' ρ S ho hT hS hB => ?_) ?_
     ·obtain ⟨hv0, hr0⟩ := (hT 0 69 rfl rfl : (Is (.agg #[.int .u64 (((p : Nat) : Int)), .slice pX n cX, .int .i64 (((kr : Nat) : Int))])) _ _)
      obtain ⟨hv1, hr1⟩ := (hT 1 70 rfl rfl : (Is (.int .u32 (((D2 : Nat) : Int)))) _ _)
      obtain ⟨hv9, hr9⟩ := (hT 9 78 rfl rfl : (Is (.int .u32 (((nd xs c : Nat) : Int)))) _ _)
      obtain hS := (hS.flat3 hr0 hr1 hr9).front3
      exact .inl ⟨want_none rfl, ocall rfl rfl Tryd.call63 rfl (wxmul (a := D2) (b := (nd xs c)) hp0 hp2 (by omega) (by omega)) (args3 (ev rfl hv0) (ev rfl hv1) (ev rfl hv9)) callN⟩
     exact stepsNil
    ·
     intro vs ρ w9 f' hf hT hS
     obtain ⟨hv0, hr0⟩ := (hT 0 (by decide) : (Is (.agg #[.int .u64 (((p : Nat) : Int)), .slice pX n cX, .int .i64 (((kr : Nat) : Int))])) _ _)
     obtain ⟨hv1, hr1⟩ := (hT 1 (by decide) : (Is (.int .u32 (((D2 : Nat) : Int)))) _ _)
     obtain ⟨hv2, hr2⟩ := (hT 2 (by decide) : (Is (.pointer (some ⟨g1, 1, none⟩))) _ _)
     obtain ⟨hv3, hr3⟩ := (hT 3 (by decide) : (Is (.slice pX n cX)) _ _)
     obtain ⟨hv4, hr4⟩ := (hT 4 (by decide) : (Is (.int .i64 (((pl : Nat) : Int)))) _ _)
     obtain ⟨hv5, hr5⟩ := (hT 5 (by decide) : (Is (.pointer (some ⟨gm, (0 + pl * 1), none⟩))) _ _)
     obtain ⟨hv6, hr6⟩ := (hT 6 (by decide) : (Is (.slice ps C cs)) _ _)
     obtain ⟨hv7, hr7⟩ := (hT 7 (by decide) : (Is (.int .i64 (((c : Nat) : Int)))) _ _)
     obtain ⟨hv8, hr8⟩ := (hT 8 (by decide) : (Is (.pointer (some ⟨gs, c, none⟩))) _ _)
     obtain ⟨hv9, hr9⟩ := (hT 9 (by decide) : (Is (.int .u32 (((nd xs c : Nat) : Int)))) _ _)
     obtain ⟨hv10, hr10⟩ := (hT 10 (by decide) : (Is (.int .u32 (((D2 * (nd xs c) % p : Nat) : Int)))) _ _)
     simp only [pool, if_true, hr0, hr1, hr2, hr3, hr4, hr5, hr6, hr7, hr8, hr9, hr10, List.nil_append, List.cons_append, List.append_nil] at hS
     simp only [layf, hv0, hv1, hv2, hv3, hv4, hv5, hv6, hv7, hv8, hv9, hv10] at hf
     subst hf; clear hT hv0 hv1 hv2 hv3 hv4 hv5 hv6 hv7 hv8 hv9 hv10 hr0 hr1 hr2 hr3 hr4 hr5 hr6 hr7 hr8 hr9 hr10
     refine wlate 11 rfl (by kernel_rfl) (oassign (v := .int .u32 (((D2 * (nd xs c) % p : Nat) : Int))) rfl rfl (ev rfl rfl) ?_)
     refine ⟨heldNil, ?_⟩
     refine wdone rfl ?_
     refine thenN (wseq ?_)
     refine wstage 17 [81, 82, 83, 84, 85, 86, 87, 88, 89, 90, 91, 92, 80, 93, 94, 11, 12] [[], [0], [], [1, 2, 0], [3, 0, 1, 2], [], [4, 5, 0, 1, 2, 3], [6, 0, 1, 2, 3, 4, 5], [], [8], [9, 8], [7, 10, 0, 1, 2, 3, 4, 5, 6, 8, 9], [11, 0, 1, 2, 3, 4, 5, 6, 7, 8, 9, 10], [12, 0, 1, 2, 3, 4, 5, 6, 7, 8, 9, 10, 11], [12, 0, 1, 2, 3, 4, 5, 6, 7, 8, 9, 10, 11], [13, 0, 1, 2, 3, 4, 5, 6, 7, 8, 9, 10, 11, 12], [14, 0, 1, 2, 3, 4, 5, 6, 7, 8, 9, 10, 11, 12, 13, 15]] [[], [], [], [], [], [], [], [], [], [], [], [], [], [], [], [], []] [] [] (fun i9 => ([fun _ => Is (.pointer (some ⟨g1, 1, none⟩)), fun _ => Is (.slice pX n cX), fun _ => Is (.int .i64 (pl : Int)), fun _ => Is (.pointer (some ⟨gm, (0 + pl * 1), none⟩)), fun _ => Is (.slice ps C cs), fun _ => Is (.int .i64 (c : Int)), fun _ => Is (.pointer (some ⟨gs, c, none⟩)), fun _ => Is (.int .u32 (((nd xs c : Nat) : Int))), fun _ => Is (.pointer (some ⟨g1, 0, none⟩)), fun _ => Is (.int .u64 (p : Int)), fun _ => Is (.int .u32 (p : Int)), fun _ => Is (.tuple #[.int .u32 (iv : Int), .int .i64 0]), fun _ => Is (.tuple #[.int .u32 (iv : Int), .int .i64 0]), fun _ => Is (.int .u32 (iv : Int)), fun _ => Is (.int .i64 0), fun _ => Is (.int .u32 (iv : Int)), fun _ => Is (.int .i64 0)] : List (List Value → Tell)).getD i9 (fun _ _ _ => False)) (heldNil) (fun d _ _ _ _ h => (by cases d <;> exact h)) (by kernel_rfl) (by kernel_rfl) (by kernel_rfl) hS ?_ ?_
     ·
      refine stepsCons rfl (fun Q f' w' ρ S ho hT hS hB => ?_) ?_
      ·exact .inl ⟨want_none rfl, ofieldAddr (g := g1) (off := 0) 1 rfl rfl (ev rfl (ho 2 rfl)) Tryd.runUnderlying63 rfl Tryd.sizeOf25 rfl ⟨_, _, rfl, isI, New.same _⟩⟩
      refine stepsCons rfl (fun Q f' w' ρ S ho hT hS hB => ?_) ?_
      ·obtain ⟨hv0, hr0⟩ := (hT 0 81 rfl rfl : (Is (.pointer (some ⟨g1, 1, none⟩))) _ _)
       obtain hS := (hS.flat1 hr0).front1
       exact .inl ⟨want_none rfl, oload1 (v := .slice pX n cX) (show One Tryd.prog 25 from ⟨Tryd.isAgg25, Tryd.sizeOf25⟩) hS 2 rfl rfl (ev rfl hv0) rfl rfl ⟨_, _, rfl, isI, New.same _⟩⟩
      refine stepsCons rfl (fun Q f' w' ρ S ho hT hS hB => ?_) ?_
      ·exact .inl ⟨want_none rfl, omove (v := .int .i64 (pl : Int)) rfl rfl (ev rfl (ho 9 rfl)) ⟨_, _, rfl, isI, New.same _⟩⟩
      refine stepsCons rfl (fun Q f' w' ρ S ho hT hS hB => ?_) ?_
      ·obtain ⟨hv1, hr1⟩ := (hT 1 82 rfl rfl : (Is (.slice pX n cX)) _ _)
       obtain ⟨hv2, hr2⟩ := (hT 2 83 rfl rfl : (Is (.int .i64 (((pl : Nat) : Int)))) _ _)
       obtain hS := (hS.flat2 hr1 hr2).front2
       exact .inl ⟨want_none rfl, oindex (p := pX) (g := gm) (off := 0) (m := n) (k := pl) (j := (0 + pl * 1)) rfl rfl Tryd.runUnderlying25 Tryd.sizeOf52 (ev rfl hv1) (hgm) (ev rfl hv2) (by omega) rfl ⟨_, _, rfl, isI, New.same _⟩⟩
      refine stepsCons rfl (fun Q f' w' ρ S ho hT hS hB => ?_) ?_
      ·obtain ⟨hv3, hr3⟩ := (hT 3 84 rfl rfl : (Is (.pointer (some ⟨gm, (0 + pl * 1), none⟩))) _ _)
       obtain hS := (hS.flat1 hr3).front1
       exact .inl ⟨want_none rfl, oloadc (v := .slice ps C cs) (show One Tryd.prog 52 from ⟨Tryd.isAgg52, Tryd.sizeOf52⟩) rfl rfl (ev (v := .pointer (some ⟨gm, (0 + pl * 1), none⟩)) rfl hv3) (hS.mRow 3 rfl hqs hns hgm) ⟨_, _, rfl, isI, New.same _⟩⟩
      refine stepsCons rfl (fun Q f' w' ρ S ho hT hS hB => ?_) ?_
      ·exact .inl ⟨want_none rfl, oload1 (v := .int .i64 (c : Int)) oneI hS 0 rfl rfl (ev rfl (ho 8 rfl)) rfl rfl ⟨_, _, rfl, isI, New.same _⟩⟩
      refine stepsCons rfl (fun Q f' w' ρ S ho hT hS hB => ?_) ?_
      ·obtain ⟨hv4, hr4⟩ := (hT 4 85 rfl rfl : (Is (.slice ps C cs)) _ _)
       obtain ⟨hv5, hr5⟩ := (hT 5 86 rfl rfl : (Is (.int .i64 (((c : Nat) : Int)))) _ _)
       obtain hS := (hS.flat2 hr4 hr5).front2
       exact .inl ⟨want_none rfl, oindex (p := ps) (g := gs) (off := 0) (m := C) (k := c) (j := c) rfl rfl Tryd.runUnderlying52 Tryd.sizeOf27 (ev rfl hv4) (hgs) (ev rfl hv5) (by omega) (by simp) ⟨_, _, rfl, isI, New.same _⟩⟩
      refine stepsCons rfl (fun Q f' w' ρ S ho hT hS hB => ?_) ?_
      ·obtain ⟨hv6, hr6⟩ := (hT 6 87 rfl rfl : (Is (.pointer (some ⟨gs, c, none⟩))) _ _)
       obtain hS := (hS.flat1 hr6).front1
       exact .inl ⟨want_none rfl, oloadc (v := .int .u32 (((nd xs c : Nat) : Int))) one32 rfl rfl (ev (v := .pointer (some ⟨gs, c, none⟩)) rfl hv6) (hS.mCell 3 rfl hqs hgs (by omega)) ⟨_, _, rfl, isI, New.same _⟩⟩
      refine stepsCons rfl (fun Q f' w' ρ S ho hT hS hB => ?_) ?_
      ·exact .inl ⟨want_none rfl, ofieldAddr (g := g1) (off := 0) 0 rfl rfl (ev rfl (ho 2 rfl)) Tryd.runUnderlying63 rfl Tryd.sizeOf47 rfl ⟨_, _, rfl, isI, New.same _⟩⟩
      refine stepsCons rfl (fun Q f' w' ρ S ho hT hS hB => ?_) ?_
      ·obtain ⟨hv8, hr8⟩ := (hT 8 89 rfl rfl : (Is (.pointer (some ⟨g1, 0, none⟩))) _ _)
       obtain hS := (hS.flat1 hr8).front1
       exact .inl ⟨want_none rfl, oload1 (v := .int .u64 (p : Int)) (show One Tryd.prog 47 from ⟨Tryd.isAgg47, Tryd.sizeOf47⟩) hS 2 rfl rfl (ev rfl hv8) rfl rfl ⟨_, _, rfl, isI, New.same _⟩⟩
      refine stepsCons rfl (fun Q f' w' ρ S ho hT hS hB => ?_) ?_
      ·obtain ⟨hv9, hr9⟩ := (hT 9 90 rfl rfl : (Is (.int .u64 (((p : Nat) : Int)))) _ _)
       obtain hS := (hS.flat1 hr9).front1
       exact .inl ⟨want_none rfl, oconvert (u := .int .u64 (p : Int)) (v := .int .u32 (p : Int)) rfl rfl (ev rfl hv9) (convert_int Tryd.runUnderlying47 Tryd.runUnderlying27 (wrap_u32 (by omega) (by omega))) ⟨_, _, rfl, isI, New.same _⟩⟩
      refine stepsCons rfl (fun Q f' w' ρ S ho hT hS hB => ?_) ?_
      ·obtain ⟨hv7, hr7⟩ := (hT 7 88 rfl rfl : (Is (.int .u32 (((nd xs c : Nat) : Int)))) _ _)
       obtain ⟨hv10, hr10⟩ := (hT 10 91 rfl rfl : (Is (.int .u32 (((p : Nat) : Int)))) _ _)
       obtain hS := (hS.flat2 hr7 hr10).front2
       exact .inl ⟨want_none rfl, ocall rfl rfl Tryd.call64 rfl ((show Calls _ _ _ _ (Ret (Is (.tuple #[.int .u32 (iv : Int), .int .i64 0])) _) from by rw [← hiv.out]; exact wpinv hp hp2 (by omega) (ht.at hS) (ndvd hxc0 hxc))) (args2 (ev rfl hv7) (ev rfl hv10)) callN⟩
      refine stepsCons rfl (fun Q f' w' ρ S ho hT hS hB => ?_) ?_
      ·obtain ⟨hv11, hr11⟩ := (hT 11 92 rfl rfl : (Is (.tuple #[.int .u32 (((iv : Nat) : Int)), .int .i64 0])) _ _)
       obtain hS := (hS.flat1 hr11).front1
       exact .inl ⟨want_none rfl, omove (v := .tuple #[.int .u32 (iv : Int), .int .i64 0]) rfl rfl (ev rfl hv11) ⟨_, _, rfl, isI, New.same _⟩⟩
      refine stepsCons rfl (fun Q f' w' ρ S ho hT hS hB => ?_) ?_
      ·obtain ⟨hv12, hr12⟩ := (hT 12 80 rfl rfl : (Is (.tuple #[.int .u32 (((iv : Nat) : Int)), .int .i64 0])) _ _)
       obtain hS := (hS.flat1 hr12).front1
       exact .inl ⟨want_none rfl, oextract (vs := [.int .u32 (iv : Int), .int .i64 0]) (v := .int .u32 (iv : Int)) rfl rfl (ev rfl hv12) rfl ⟨_, _, rfl, isI, New.same _⟩⟩
      refine stepsCons rfl (fun Q f' w' ρ S ho hT hS hB => ?_) ?_
      ·obtain ⟨hv12, hr12⟩ := (hT 12 80 rfl rfl : (Is (.tuple #[.int .u32 (((iv : Nat) : Int)), .int .i64 0])) _ _)
       obtain hS := (hS.flat1 hr12).front1
       exact .inl ⟨want_none rfl, oextract (vs := [.int .u32 (iv : Int), .int .i64 0]) (v := .int .i64 0) rfl rfl (ev rfl hv12) rfl ⟨_, _, rfl, isI, New.same _⟩⟩
      refine stepsCons rfl (fun Q f' w' ρ S ho hT hS hB => ?_) ?_
      ·obtain ⟨hv13, hr13⟩ := (hT 13 93 rfl rfl : (Is (.int .u32 (((iv : Nat) : Int)))) _ _)
       obtain hS := (hS.flat1 hr13).front1
       exact .inl ⟨want_none rfl, oassign (v := .int .u32 (iv : Int)) rfl rfl (ev rfl hv13) ⟨_, _, rfl, isI, New.same _⟩⟩
      refine stepsCons rfl (fun Q f' w' ρ S ho hT hS hB => ?_) ?_
      ·obtain ⟨hv14, hr14⟩ := (hT 14 94 rfl rfl : (Is (.int .i64 0)) _ _)
       obtain hS := (hS.flat1 hr14).front1
       exact .inl ⟨want_none rfl, oassign (v := .int .i64 0) rfl rfl (ev rfl hv14) ⟨_, _, rfl, isI, New.same _⟩⟩
      exact stepsNil
     ·
      intro vs ρ w10 f' hf hT hS
      obtain ⟨hv0, hr0⟩ := (hT 0 (by decide) : (Is (.pointer (some ⟨g1, 1, none⟩))) _ _)
      obtain ⟨hv1, hr1⟩ := (hT 1 (by decide) : (Is (.slice pX n cX)) _ _)
      obtain ⟨hv2, hr2⟩ := (hT 2 (by decide) : (Is (.int .i64 (((pl : Nat) : Int)))) _ _)
      obtain ⟨hv3, hr3⟩ := (hT 3 (by decide) : (Is (.pointer (some ⟨gm, (0 + pl * 1), none⟩))) _ _)
      obtain ⟨hv4, hr4⟩ := (hT 4 (by decide) : (Is (.slice ps C cs)) _ _)
      obtain ⟨hv5, hr5⟩ := (hT 5 (by decide) : (Is (.int .i64 (((c : Nat) : Int)))) _ _)
      obtain ⟨hv6, hr6⟩ := (hT 6 (by decide) : (Is (.pointer (some ⟨gs, c, none⟩))) _ _)
      obtain ⟨hv7, hr7⟩ := (hT 7 (by decide) : (Is (.int .u32 (((nd xs c : Nat) : Int)))) _ _)
      obtain ⟨hv8, hr8⟩ := (hT 8 (by decide) : (Is (.pointer (some ⟨g1, 0, none⟩))) _ _)
      obtain ⟨hv9, hr9⟩ := (hT 9 (by decide) : (Is (.int .u64 (((p : Nat) : Int)))) _ _)
      obtain ⟨hv10, hr10⟩ := (hT 10 (by decide) : (Is (.int .u32 (((p : Nat) : Int)))) _ _)
      obtain ⟨hv11, hr11⟩ := (hT 11 (by decide) : (Is (.tuple #[.int .u32 (((iv : Nat) : Int)), .int .i64 0])) _ _)
      obtain ⟨hv12, hr12⟩ := (hT 12 (by decide) : (Is (.tuple #[.int .u32 (((iv : Nat) : Int)), .int .i64 0])) _ _)
      obtain ⟨hv13, hr13⟩ := (hT 13 (by decide) : (Is (.int .u32 (((iv : Nat) : Int)))) _ _)
      obtain ⟨hv14, hr14⟩ := (hT 14 (by decide) : (Is (.int .i64 0)) _ _)
      obtain ⟨hv15, hr15⟩ := (hT 15 (by decide) : (Is (.int .u32 (((iv : Nat) : Int)))) _ _)
      obtain ⟨hv16, hr16⟩ := (hT 16 (by decide) : (Is (.int .i64 0)) _ _)
      simp only [pool, if_true, hr0, hr1, hr2, hr3, hr4, hr5, hr6, hr7, hr8, hr9, hr10, hr11, hr12, hr13, hr14, hr15, hr16, List.nil_append, List.cons_append, List.append_nil] at hS
      simp only [layf, hv0, hv1, hv2, hv3, hv4, hv5, hv6, hv7, hv8, hv9, hv10, hv11, hv12, hv13, hv14, hv15, hv16] at hf
      subst hf; clear hT hv0 hv1 hv2 hv3 hv4 hv5 hv6 hv7 hv8 hv9 hv10 hv11 hv12 hv13 hv14 hv15 hv16 hr0 hr1 hr2 hr3 hr4 hr5 hr6 hr7 hr8 hr9 hr10 hr11 hr12 hr13 hr14 hr15 hr16
      refine wdone rfl ?_
      refine thenN (wseq (wseq (wreg (wl rfl (ofieldAddr (g := g1) (off := 0) 1 rfl rfl (ev rfl rfl) Tryd.runUnderlying63 rfl Tryd.sizeOf25 rfl ?_)))))
      refine wl rfl (oload1 (v := .slice pX n cX) (show One Tryd.prog 25 from ⟨Tryd.isAgg25, Tryd.sizeOf25⟩) hS 2 rfl rfl (ev rfl rfl) rfl rfl ?_)
      refine wl rfl (omove (v := .int .i64 (pl : Int)) rfl rfl (ev rfl rfl) ?_)
      refine wl rfl (oindex (p := pX) (g := gm) (off := 0) (m := n) (k := pl) (j := (0 + pl * 1)) rfl rfl Tryd.runUnderlying25 Tryd.sizeOf52 (ev rfl rfl) (hgm) (ev rfl rfl) (by omega) rfl ?_)
      refine wl rfl (oloadc (v := .slice ps C cs) (show One Tryd.prog 52 from ⟨Tryd.isAgg52, Tryd.sizeOf52⟩) rfl rfl (ev (v := .pointer (some ⟨gm, (0 + pl * 1), none⟩)) rfl rfl) (hS.mRow 3 rfl hqs hns hgm) ?_)
      refine wl rfl (olen rfl rfl rfl Tryd.runUnderlying52 (p := ps) (k := C) (m := cs) (ev rfl rfl) ?_)
      refine wl rfl (omove (v := .int .i64 0) rfl rfl evc ?_)
      refine wnil (thenN (wblock ?_))
      rw [← qmix0 (new := scalR p iv xs) hqs] at hS
      refine wloop (σ := Nat) (fun k a9 w' => ∃ (fb : Nat → Value), a9 = act 180 (sets fb [(2, .pointer (some ⟨g1, 0, none⟩)), (4, .slice none 0 0), (5, .int .u32 0), (6, .slice pP pl cP), (7, .int .u32 (((D2 * (nd xs c) % p : Nat) : Int))), (8, .pointer (some ⟨g4, 0, none⟩)), (9, .int .i64 (pl : Int)), (11, .int .u32 (iv : Int)), (23, .int .i64 (c1 : Int)), (24, .int .i64 (c : Int)), (99, .slice ps C cs), (100, .int .i64 (C : Int)), (101, .int .i64 (k : Int))]) ∧ Sep w0 (.blk g4 [.int .i64 (c : Int)] 3 :: .lst 3 1 pP pl cP (intE P) :: .blk g1 [.int .u64 (p : Int), .slice pX n cX, .int .i64 (kr : Int)] 63 :: .lst 52 1 pX n cX (mmE (Q2.set pl ⟨ps, cs, mixR (scalR p iv xs) xs k⟩)) :: R) w' ∧ (k ≤ C)) (fun k => C - k) (0) ⟨_, act_sets (l := [(2, .pointer (some ⟨g1, 0, none⟩)), (4, .slice none 0 0), (5, .int .u32 0), (6, .slice pP pl cP), (7, .int .u32 (((D2 * (nd xs c) % p : Nat) : Int))), (8, .pointer (some ⟨g4, 0, none⟩)), (9, .int .i64 (pl : Int)), (11, .int .u32 (iv : Int)), (23, .int .i64 (c1 : Int)), (24, .int .i64 (c : Int)), (99, .slice ps C cs), (100, .int .i64 (C : Int)), (101, .int .i64 0)]) ⟨rfl, rfl, rfl, rfl, rfl, rfl, rfl, rfl, rfl, rfl, rfl, rfl, rfl, trivial⟩, hS, Nat.zero_le _⟩ ?_
      clear hS; rintro k _ w11 ⟨fb, rfl, hS, hk⟩
      refine wseq (wreg ?_)
      by_cases hlk : k < C
      ·
       have hmx : (mixR (scalR p iv xs) xs k).length = C := by rw [mixR_len (scalR_len ..) (by omega)]; exact hns
       have hmk : nd (mixR (scalR p iv xs) xs k) k = nd xs k := by rw [mixR_nd (scalR_len ..) (by omega), if_neg (Nat.lt_irrefl _)]
       have hxk := nd_lt hlts hp0 (k := k)
       refine wl rfl (obin (u := .int .i64 (k : Int)) (v := .int .i64 (C : Int)) (z := .bool true) rfl rfl (ev rfl rfl) (ev rfl rfl) (bin_lss (decide_eq_true (by omega))) ?_)
       refine wnil (thenN (wseq ?_))
       refine wT (ev rfl rfl) ?_
       refine wskip (thenN (wseq (wblock (wseq (wreg (wl rfl (omove (v := .int .i64 (k : Int)) rfl rfl (ev rfl rfl) ?_)))))))
       refine wl rfl (oindex (p := ps) (g := gs) (off := 0) (m := C) (k := k) (j := k) rfl rfl Tryd.runUnderlying52 Tryd.sizeOf27 (ev rfl rfl) (hgs) (ev rfl rfl) (by omega) (by simp) ?_)
       refine wl rfl (oloadc (v := .int .u32 (((nd (mixR (scalR p iv xs) xs k) k : Nat) : Int))) one32 rfl rfl (ev (v := .pointer (some ⟨gs, k, none⟩)) rfl rfl) (hS.mCell 3 rfl (qset_self hqs) hgs (by omega)) ?_)
       refine wl rfl (oassign (v := .int .i64 (k : Int)) rfl rfl (ev rfl rfl) ?_)
       refine wl rfl (oassign (v := .int .u32 (((nd (mixR (scalR p iv xs) xs k) k : Nat) : Int))) rfl rfl (ev rfl rfl) ?_)
       refine wnil (thenN ?_)
       refine wstage 11 [106, 107, 108, 109, 110, 111, 112, 113, 114, 115, 116] [[], [0], [], [1, 2, 0], [3, 0, 1, 2], [], [], [], [], [6, 7, 8], [4, 5, 0, 1, 2, 3, 6, 7, 8, 9]] [[], [], [], [], [], [], [], [], [], [], []] [] [] (fun i9 => ([fun _ => Is (.pointer (some ⟨g1, 1, none⟩)), fun _ => Is (.slice pX n cX), fun _ => Is (.int .i64 (pl : Int)), fun _ => Is (.pointer (some ⟨gm, (0 + pl * 1), none⟩)), fun _ => Is (.slice ps C cs), fun _ => Is (.int .i64 (k : Int)), fun _ => Is (.agg #[.int .u64 (p : Int), .slice pX n cX, .int .i64 (kr : Int)]), fun _ => Is (.int .u32 (((nd (mixR (scalR p iv xs) xs k) k : Nat) : Int))), fun _ => Is (.int .u32 (iv : Int)), fun _ => Is (.int .u32 ((((nd (mixR (scalR p iv xs) xs k) k) * iv % p : Nat) : Int))), fun _ => Is (.pointer (some ⟨gs, k, none⟩))] : List (List Value → Tell)).getD i9 (fun _ _ _ => False)) (heldNil) (fun d _ _ _ _ h => (by cases d <;> exact h)) (by kernel_rfl) (by kernel_rfl) (by kernel_rfl) hS ?_ ?_
       ·
        refine stepsCons rfl (fun Q f' w' ρ S ho hT hS hB => ?_) ?_
        ·exact .inl ⟨want_none rfl, ofieldAddr (g := g1) (off := 0) 1 rfl rfl (ev rfl (ho 2 rfl)) Tryd.runUnderlying63 rfl Tryd.sizeOf25 rfl ⟨_, _, rfl, isI, New.same _⟩⟩
        refine stepsCons rfl (fun Q f' w' ρ S ho hT hS hB => ?_) ?_
        ·obtain ⟨hv0, hr0⟩ := (hT 0 106 rfl rfl : (Is (.pointer (some ⟨g1, 1, none⟩))) _ _)
         obtain hS := (hS.flat1 hr0).front1
         exact .inl ⟨want_none rfl, oload1 (v := .slice pX n cX) (show One Tryd.prog 25 from ⟨Tryd.isAgg25, Tryd.sizeOf25⟩) hS 2 rfl rfl (ev rfl hv0) rfl rfl ⟨_, _, rfl, isI, New.same _⟩⟩
        refine stepsCons rfl (fun Q f' w' ρ S ho hT hS hB => ?_) ?_
        ·exact .inl ⟨want_none rfl, omove (v := .int .i64 (pl : Int)) rfl rfl (ev rfl (ho 9 rfl)) ⟨_, _, rfl, isI, New.same _⟩⟩
        refine stepsCons rfl (fun Q f' w' ρ S ho hT hS hB => ?_) ?_
        ·obtain ⟨hv1, hr1⟩ := (hT 1 107 rfl rfl : (Is (.slice pX n cX)) _ _)
         obtain ⟨hv2, hr2⟩ := (hT 2 108 rfl rfl : (Is (.int .i64 (((pl : Nat) : Int)))) _ _)
         obtain hS := (hS.flat2 hr1 hr2).front2
         exact .inl ⟨want_none rfl, oindex (p := pX) (g := gm) (off := 0) (m := n) (k := pl) (j := (0 + pl * 1)) rfl rfl Tryd.runUnderlying25 Tryd.sizeOf52 (ev rfl hv1) (hgm) (ev rfl hv2) (by omega) rfl ⟨_, _, rfl, isI, New.same _⟩⟩
        refine stepsCons rfl (fun Q f' w' ρ S ho hT hS hB => ?_) ?_
        ·obtain ⟨hv3, hr3⟩ := (hT 3 109 rfl rfl : (Is (.pointer (some ⟨gm, (0 + pl * 1), none⟩))) _ _)
         obtain hS := (hS.flat1 hr3).front1
         exact .inl ⟨want_none rfl, oloadc (v := .slice ps C cs) (show One Tryd.prog 52 from ⟨Tryd.isAgg52, Tryd.sizeOf52⟩) rfl rfl (ev (v := .pointer (some ⟨gm, (0 + pl * 1), none⟩)) rfl hv3) (hS.mRow 3 rfl (qset_self hqs) hmx hgm) ⟨_, _, rfl, isI, New.same _⟩⟩
        refine stepsCons rfl (fun Q f' w' ρ S ho hT hS hB => ?_) ?_
        ·exact .inl ⟨want_none rfl, omove (v := .int .i64 (k : Int)) rfl rfl (ev rfl (ho 13 rfl)) ⟨_, _, rfl, isI, New.same _⟩⟩
        refine stepsCons rfl (fun Q f' w' ρ S ho hT hS hB => ?_) ?_
        ·exact .inl ⟨want_none rfl, oload (vs := [.int .u64 (p : Int), .slice pX n cX, .int .i64 (kr : Int)]) (show Agg Tryd.prog 63 3 from ⟨Tryd.isAgg63, Tryd.sizeOf63⟩) hS 2 rfl rfl (ev rfl (ho 2 rfl)) rfl rfl rfl ⟨_, _, rfl, isI, New.same _⟩⟩
        refine stepsCons rfl (fun Q f' w' ρ S ho hT hS hB => ?_) ?_
        ·exact .inl ⟨want_none rfl, omove (v := .int .u32 (((nd (mixR (scalR p iv xs) xs k) k : Nat) : Int))) rfl rfl (ev rfl (ho 14 rfl)) ⟨_, _, rfl, isI, New.same _⟩⟩
        refine stepsCons rfl (fun Q f' w' ρ S ho hT hS hB => ?_) ?_
        ·exact .inl ⟨want_none rfl, omove (v := .int .u32 (iv : Int)) rfl rfl (ev rfl (ho 11 rfl)) ⟨_, _, rfl, isI, New.same _⟩⟩
        refine stepsCons rfl (fun Q f' w' ρ S ho hT hS hB => ?_) ?_
        ·obtain ⟨hv6, hr6⟩ := (hT 6 112 rfl rfl : (Is (.agg #[.int .u64 (((p : Nat) : Int)), .slice pX n cX, .int .i64 (((kr : Nat) : Int))])) _ _)
         obtain ⟨hv7, hr7⟩ := (hT 7 113 rfl rfl : (Is (.int .u32 (((nd (mixR (scalR p iv xs) xs k) k : Nat) : Int)))) _ _)
         obtain ⟨hv8, hr8⟩ := (hT 8 114 rfl rfl : (Is (.int .u32 (((iv : Nat) : Int)))) _ _)
         obtain hS := (hS.flat3 hr6 hr7 hr8).front3
         exact .inl ⟨want_none rfl, ocall rfl rfl Tryd.call63 rfl (wxmul (a := (nd (mixR (scalR p iv xs) xs k) k)) (b := iv) hp0 hp2 (by omega) (by omega)) (args3 (ev rfl hv6) (ev rfl hv7) (ev rfl hv8)) callN⟩
        refine stepsCons rfl (fun Q f' w' ρ S ho hT hS hB => ?_) ?_
        ·obtain ⟨hv4, hr4⟩ := (hT 4 110 rfl rfl : (Is (.slice ps C cs)) _ _)
         obtain ⟨hv5, hr5⟩ := (hT 5 111 rfl rfl : (Is (.int .i64 (((k : Nat) : Int)))) _ _)
         obtain hS := (hS.flat2 hr4 hr5).front2
         exact .inl ⟨want_none rfl, oindex (p := ps) (g := gs) (off := 0) (m := C) (k := k) (j := k) rfl rfl Tryd.runUnderlying52 Tryd.sizeOf27 (ev rfl hv4) (hgs) (ev rfl hv5) (by omega) (by simp) ⟨_, _, rfl, isI, New.same _⟩⟩
        exact stepsNil
       ·
        intro vs ρ w12 f' hf hT hS
        obtain ⟨hv0, hr0⟩ := (hT 0 (by decide) : (Is (.pointer (some ⟨g1, 1, none⟩))) _ _)
        obtain ⟨hv1, hr1⟩ := (hT 1 (by decide) : (Is (.slice pX n cX)) _ _)
        obtain ⟨hv2, hr2⟩ := (hT 2 (by decide) : (Is (.int .i64 (((pl : Nat) : Int)))) _ _)
        obtain ⟨hv3, hr3⟩ := (hT 3 (by decide) : (Is (.pointer (some ⟨gm, (0 + pl * 1), none⟩))) _ _)
        obtain ⟨hv4, hr4⟩ := (hT 4 (by decide) : (Is (.slice ps C cs)) _ _)
        obtain ⟨hv5, hr5⟩ := (hT 5 (by decide) : (Is (.int .i64 (((k : Nat) : Int)))) _ _)
        obtain ⟨hv6, hr6⟩ := (hT 6 (by decide) : (Is (.agg #[.int .u64 (((p : Nat) : Int)), .slice pX n cX, .int .i64 (((kr : Nat) : Int))])) _ _)
        obtain ⟨hv7, hr7⟩ := (hT 7 (by decide) : (Is (.int .u32 (((nd (mixR (scalR p iv xs) xs k) k : Nat) : Int)))) _ _)
        obtain ⟨hv8, hr8⟩ := (hT 8 (by decide) : (Is (.int .u32 (((iv : Nat) : Int)))) _ _)
        obtain ⟨hv9, hr9⟩ := (hT 9 (by decide) : (Is (.int .u32 ((((nd (mixR (scalR p iv xs) xs k) k) * iv % p : Nat) : Int)))) _ _)
        obtain ⟨hv10, hr10⟩ := (hT 10 (by decide) : (Is (.pointer (some ⟨gs, k, none⟩))) _ _)
        simp only [pool, if_true, hr0, hr1, hr2, hr3, hr4, hr5, hr6, hr7, hr8, hr9, hr10, List.nil_append, List.cons_append, List.append_nil] at hS
        simp only [layf, hv0, hv1, hv2, hv3, hv4, hv5, hv6, hv7, hv8, hv9, hv10] at hf
        subst hf; clear hT hv0 hv1 hv2 hv3 hv4 hv5 hv6 hv7 hv8 hv9 hv10 hr0 hr1 hr2 hr3 hr4 hr5 hr6 hr7 hr8 hr9 hr10
        obtain hS := (show Sep w0 (.lst 52 1 pX n cX (mmE (Q2.set pl ⟨ps, cs, mixR (scalR p iv xs) xs k⟩)) :: .blk g4 [.int .i64 (((c : Nat) : Int))] 3 :: .lst 3 1 pP pl cP (intE P) :: .blk g1 [.int .u64 (((p : Nat) : Int)), .slice pX n cX, .int .i64 (((kr : Nat) : Int))] 63 :: R) w12 from Sep.pickT [.blk g4 [.int .i64 (((c : Nat) : Int))] 3, .lst 3 1 pP pl cP (intE P), .blk g1 [.int .u64 (((p : Nat) : Int)), .slice pX n cX, .int .i64 (((kr : Nat) : Int))] 63, .lst 52 1 pX n cX (mmE (Q2.set pl ⟨ps, cs, mixR (scalR p iv xs) xs k⟩))] [.lst 52 1 pX n cX (mmE (Q2.set pl ⟨ps, cs, mixR (scalR p iv xs) xs k⟩)), .blk g4 [.int .i64 (((c : Nat) : Int))] 3, .lst 3 1 pP pl cP (intE P), .blk g1 [.int .u64 (((p : Nat) : Int)), .slice pX n cX, .int .i64 (((kr : Nat) : Int))] 63] hS [3, 0, 1, 2] (by decide) rfl)
        refine wlate 11 rfl (by kernel_rfl) (ostoreM (i := pl) (g := gs) (k := k) (u := ((nd (mixR (scalR p iv xs) xs k) k) * iv % p)) Tryd.sizeOf27 hS rfl rfl (ev (v := .pointer (some ⟨gs, k, none⟩)) rfl rfl) (ev (v := .int .u32 ((((nd (mixR (scalR p iv xs) xs k) k) * iv % p : Nat) : Int))) rfl rfl) (qset_self hqs) hgs (show k < List.length (mixR (scalR p iv xs) xs k) by omega) (by have := Nat.mod_lt (nd (mixR (scalR p iv xs) xs k) k * iv) hp0; omega) ?_)
        clear hS; intro w13 hS
        refine ⟨heldNil, ?_⟩
        refine wdone rfl ?_
        refine blkN (thenN (wreg (wl rfl (obin (u := .int .i64 (k : Int)) (v := .int .i64 1) (z := .int .i64 (((k + 1 : Nat) : Int))) rfl rfl (ev rfl rfl) evc (bin_add (wrap_i64 (by omega) (by omega))) ?_))))
        refine wl rfl (omove (v := .int .i64 (((k + 1 : Nat) : Int))) rfl rfl (ev rfl rfl) ?_)
        refine wnil (thenN ?_)
        rw [qmix_next (scalR_len ..) (by omega) (by rw [scalR_nd, hmk])] at hS
        exact ⟨(k + 1), ⟨_, act_sets (l := [(2, .pointer (some ⟨g1, 0, none⟩)), (4, .slice none 0 0), (5, .int .u32 0), (6, .slice pP pl cP), (7, .int .u32 (((D2 * (nd xs c) % p : Nat) : Int))), (8, .pointer (some ⟨g4, 0, none⟩)), (9, .int .i64 (pl : Int)), (11, .int .u32 (iv : Int)), (23, .int .i64 (c1 : Int)), (24, .int .i64 (c : Int)), (99, .slice ps C cs), (100, .int .i64 (C : Int)), (101, .int .i64 (((k + 1 : Nat) : Int)))]) ⟨rfl, rfl, rfl, rfl, rfl, rfl, rfl, rfl, rfl, rfl, rfl, rfl, rfl, trivial⟩, Sep.pickT [.lst 52 1 pX n cX (mmE (Q2.set pl ⟨ps, cs, mixR (scalR p iv xs) xs (k + 1)⟩)), .blk g4 [.int .i64 (c : Int)] 3, .lst 3 1 pP pl cP (intE P), .blk g1 [.int .u64 (p : Int), .slice pX n cX, .int .i64 (kr : Int)] 63] [.blk g4 [.int .i64 (c : Int)] 3, .lst 3 1 pP pl cP (intE P), .blk g1 [.int .u64 (p : Int), .slice pX n cX, .int .i64 (kr : Int)] 63, .lst 52 1 pX n cX (mmE (Q2.set pl ⟨ps, cs, mixR (scalR p iv xs) xs (k + 1)⟩))] hS [1, 2, 3, 0] (by decide) rfl, by omega⟩, by omega⟩
      ·
       refine wl rfl (obin (u := .int .i64 (k : Int)) (v := .int .i64 (C : Int)) (z := .bool false) rfl rfl (ev rfl rfl) (ev rfl rfl) (bin_lss (decide_eq_false (by omega))) ?_)
       refine wnil (thenN (wseq ?_))
       refine wF (ev rfl rfl) ?_
       refine wexit ?_
       refine thenE ?_
       refine thenE ?_
       refine blkE ?_
       refine thenN (wseq (wseq (wreg (wl rfl (ofieldAddr (g := g1) (off := 0) 1 rfl rfl (ev rfl rfl) Tryd.runUnderlying63 rfl Tryd.sizeOf25 rfl ?_)))))
       refine wl rfl (oload1 (v := .slice pX n cX) (show One Tryd.prog 25 from ⟨Tryd.isAgg25, Tryd.sizeOf25⟩) hS 2 rfl rfl (ev rfl rfl) rfl rfl ?_)
       refine wl rfl (olen rfl rfl rfl Tryd.runUnderlying25 (p := pX) (k := n) (m := cX) (ev rfl rfl) ?_)
       refine wl rfl (omove (v := .int .i64 0) rfl rfl evc ?_)
       refine wnil (thenN (wblock ?_))
       rw [mixR_full (scalR_len ..) (by omega)] at hS
       obtain ⟨Q3, hQ3⟩ : ∃ Q, Q2.set pl ⟨ps, cs, scalR p iv xs⟩ = Q := ⟨_, rfl⟩
       rw [hQ3] at hS
       have hQ3n : nums Q3 = normM p pl c (nums Q2) := by rw [← hQ3, nums_set]; unfold normM; rw [hds, hiv.out]
       have s3 : Shp p C (nums Q3) := by rw [hQ3n]; exact normM_shp s2 hp0 (by rw [nums_len]; omega)
       have hN3 : (nums Q3).length = n := by rw [hQ3n, normM_len, nums_len]; exact hQ2n
       refine wloop (σ := Nat) (fun i a9 w' => ∃ (fb : Nat → Value) (Qi : List Rw), a9 = act 180 (sets fb [(2, .pointer (some ⟨g1, 0, none⟩)), (4, .slice none 0 0), (5, .int .u32 0), (6, .slice pP pl cP), (7, .int .u32 (((D2 * (nd xs c) % p : Nat) : Int))), (8, .pointer (some ⟨g4, 0, none⟩)), (9, .int .i64 (pl : Int)), (23, .int .i64 (c1 : Int)), (24, .int .i64 (c : Int)), (120, .int .i64 (n : Int)), (121, .int .i64 (i : Int))]) ∧ Sep w0 (.blk g4 [.int .i64 (c : Int)] 3 :: .lst 3 1 pP pl cP (intE P) :: .blk g1 [.int .u64 (p : Int), .slice pX n cX, .int .i64 (kr : Int)] 63 :: .lst 52 1 pX n cX (mmE Qi) :: R) w' ∧ (i ≤ n) ∧ (nums Qi = elimM p pl c (nums Q3) i)) (fun i => n - i) (0) ⟨_, Q3, act_sets (l := [(2, .pointer (some ⟨g1, 0, none⟩)), (4, .slice none 0 0), (5, .int .u32 0), (6, .slice pP pl cP), (7, .int .u32 (((D2 * (nd xs c) % p : Nat) : Int))), (8, .pointer (some ⟨g4, 0, none⟩)), (9, .int .i64 (pl : Int)), (23, .int .i64 (c1 : Int)), (24, .int .i64 (c : Int)), (120, .int .i64 (n : Int)), (121, .int .i64 0)]) ⟨rfl, rfl, rfl, rfl, rfl, rfl, rfl, rfl, rfl, rfl, rfl, trivial⟩, hS, Nat.zero_le _, rfl⟩ ?_
       clear hS; rintro i _ w12 ⟨fb, Qi, rfl, hS, hi, hQi⟩
       refine wseq (wreg ?_)
       by_cases hli : i < n
       ·
        have si : Shp p C (nums Qi) := by rw [hQi]; exact elimM_shp s3 hp0 (by omega) i (by omega)
        have hQin : Qi.length = n := by rw [nums_lenE hQi, elimM_len]; exact hN3
        refine wl rfl (obin (u := .int .i64 (i : Int)) (v := .int .i64 (n : Int)) (z := .bool true) rfl rfl (ev rfl rfl) (ev rfl rfl) (bin_lss (decide_eq_true (by omega))) ?_)
        refine wnil (thenN (wseq ?_))
        refine wT (ev rfl rfl) ?_
        refine wskip (thenN (wseq (wblock (wseq (wreg (wl rfl (omove (v := .int .i64 (i : Int)) rfl rfl (ev rfl rfl) ?_)))))))
        refine wl rfl (oassign (v := .int .i64 (i : Int)) rfl rfl (ev rfl rfl) ?_)
        refine wnil (thenN (wseq ?_))
        obtain ⟨⟨pa, ca, xa⟩, hqa⟩ : ∃ q, (Qi)[i]? = some q := ⟨_, List.getElem?_eq_getElem (by omega)⟩
        have hda : (nums (Qi)).getD i [] = xa := getD_get (nums_get hqa)
        obtain ⟨hna, hlta⟩ := si.get (nums_get hqa)
        simp only at hna hlta
        obtain ⟨ga, hga⟩ := hS.mPtr 3 rfl hqa (by show 0 < xa.length; omega)
        obtain ⟨⟨pb, cb, xb⟩, hqb⟩ : ∃ q, (Qi)[pl]? = some q := ⟨_, List.getElem?_eq_getElem (by omega)⟩
        have hdb : (nums (Qi)).getD pl [] = xb := getD_get (nums_get hqb)
        obtain ⟨hnb, hltb⟩ := si.get (nums_get hqb)
        simp only at hnb hltb
        obtain ⟨gb, hgb⟩ := hS.mPtr 3 rfl hqb (by show 0 < xb.length; omega)
        have hxc9 := nd_lt hlta hp0 (k := c)
        refine wstage 9 [124, 125, 126, 127, 128, 129, 130, 131, 16] [[], [0], [], [1, 2, 0], [3, 0, 1, 2], [], [4, 5, 0, 1, 2, 3], [6, 0, 1, 2, 3, 4, 5], [7, 0, 1, 2, 3, 4, 5, 6]] [[], [], [], [], [], [], [], [], []] [] [] (fun i9 => ([fun _ => Is (.pointer (some ⟨g1, 1, none⟩)), fun _ => Is (.slice pX n cX), fun _ => Is (.int .i64 (i : Int)), fun _ => Is (.pointer (some ⟨gm, (0 + i * 1), none⟩)), fun _ => Is (.slice pa C ca), fun _ => Is (.int .i64 (c : Int)), fun _ => Is (.pointer (some ⟨ga, c, none⟩)), fun _ => Is (.int .u32 (((nd xa c : Nat) : Int))), fun _ => Is (.int .u32 (((nd xa c : Nat) : Int)))] : List (List Value → Tell)).getD i9 (fun _ _ _ => False)) (heldNil) (fun d _ _ _ _ h => (by cases d <;> exact h)) (by kernel_rfl) (by kernel_rfl) (by kernel_rfl) hS ?_ ?_
        ·
         refine stepsCons rfl (fun Q f' w' ρ S ho hT hS hB => ?_) ?_
         ·exact .inl ⟨want_none rfl, ofieldAddr (g := g1) (off := 0) 1 rfl rfl (ev rfl (ho 2 rfl)) Tryd.runUnderlying63 rfl Tryd.sizeOf25 rfl ⟨_, _, rfl, isI, New.same _⟩⟩
         refine stepsCons rfl (fun Q f' w' ρ S ho hT hS hB => ?_) ?_
         ·obtain ⟨hv0, hr0⟩ := (hT 0 124 rfl rfl : (Is (.pointer (some ⟨g1, 1, none⟩))) _ _)
          obtain hS := (hS.flat1 hr0).front1
          exact .inl ⟨want_none rfl, oload1 (v := .slice pX n cX) (show One Tryd.prog 25 from ⟨Tryd.isAgg25, Tryd.sizeOf25⟩) hS 2 rfl rfl (ev rfl hv0) rfl rfl ⟨_, _, rfl, isI, New.same _⟩⟩
         refine stepsCons rfl (fun Q f' w' ρ S ho hT hS hB => ?_) ?_
         ·exact .inl ⟨want_none rfl, omove (v := .int .i64 (i : Int)) rfl rfl (ev rfl (ho 15 rfl)) ⟨_, _, rfl, isI, New.same _⟩⟩
         refine stepsCons rfl (fun Q f' w' ρ S ho hT hS hB => ?_) ?_
         ·obtain ⟨hv1, hr1⟩ := (hT 1 125 rfl rfl : (Is (.slice pX n cX)) _ _)
          obtain ⟨hv2, hr2⟩ := (hT 2 126 rfl rfl : (Is (.int .i64 (((i : Nat) : Int)))) _ _)
          obtain hS := (hS.flat2 hr1 hr2).front2
          exact .inl ⟨want_none rfl, oindex (p := pX) (g := gm) (off := 0) (m := n) (k := i) (j := (0 + i * 1)) rfl rfl Tryd.runUnderlying25 Tryd.sizeOf52 (ev rfl hv1) (hgm) (ev rfl hv2) (by omega) rfl ⟨_, _, rfl, isI, New.same _⟩⟩
         refine stepsCons rfl (fun Q f' w' ρ S ho hT hS hB => ?_) ?_
         ·obtain ⟨hv3, hr3⟩ := (hT 3 127 rfl rfl : (Is (.pointer (some ⟨gm, (0 + i * 1), none⟩))) _ _)
          obtain hS := (hS.flat1 hr3).front1
          exact .inl ⟨want_none rfl, oloadc (v := .slice pa C ca) (show One Tryd.prog 52 from ⟨Tryd.isAgg52, Tryd.sizeOf52⟩) rfl rfl (ev (v := .pointer (some ⟨gm, (0 + i * 1), none⟩)) rfl hv3) (hS.mRow 3 rfl hqa hna hgm) ⟨_, _, rfl, isI, New.same _⟩⟩
         refine stepsCons rfl (fun Q f' w' ρ S ho hT hS hB => ?_) ?_
         ·exact .inl ⟨want_none rfl, oload1 (v := .int .i64 (c : Int)) oneI hS 0 rfl rfl (ev rfl (ho 8 rfl)) rfl rfl ⟨_, _, rfl, isI, New.same _⟩⟩
         refine stepsCons rfl (fun Q f' w' ρ S ho hT hS hB => ?_) ?_
         ·obtain ⟨hv4, hr4⟩ := (hT 4 128 rfl rfl : (Is (.slice pa C ca)) _ _)
          obtain ⟨hv5, hr5⟩ := (hT 5 129 rfl rfl : (Is (.int .i64 (((c : Nat) : Int)))) _ _)
          obtain hS := (hS.flat2 hr4 hr5).front2
          exact .inl ⟨want_none rfl, oindex (p := pa) (g := ga) (off := 0) (m := C) (k := c) (j := c) rfl rfl Tryd.runUnderlying52 Tryd.sizeOf27 (ev rfl hv4) (hga) (ev rfl hv5) (by omega) (by simp) ⟨_, _, rfl, isI, New.same _⟩⟩
         refine stepsCons rfl (fun Q f' w' ρ S ho hT hS hB => ?_) ?_
         ·obtain ⟨hv6, hr6⟩ := (hT 6 130 rfl rfl : (Is (.pointer (some ⟨ga, c, none⟩))) _ _)
          obtain hS := (hS.flat1 hr6).front1
          exact .inl ⟨want_none rfl, oloadc (v := .int .u32 (((nd xa c : Nat) : Int))) one32 rfl rfl (ev (v := .pointer (some ⟨ga, c, none⟩)) rfl hv6) (hS.mCell 3 rfl hqa hga (by omega)) ⟨_, _, rfl, isI, New.same _⟩⟩
         refine stepsCons rfl (fun Q f' w' ρ S ho hT hS hB => ?_) ?_
         ·obtain ⟨hv7, hr7⟩ := (hT 7 131 rfl rfl : (Is (.int .u32 (((nd xa c : Nat) : Int)))) _ _)
          obtain hS := (hS.flat1 hr7).front1
          exact .inl ⟨want_none rfl, oassign (v := .int .u32 (((nd xa c : Nat) : Int))) rfl rfl (ev rfl hv7) ⟨_, _, rfl, isI, New.same _⟩⟩
         exact stepsNil
        ·
         intro vs ρ w13 f' hf hT hS
         obtain ⟨hv0, hr0⟩ := (hT 0 (by decide) : (Is (.pointer (some ⟨g1, 1, none⟩))) _ _)
         obtain ⟨hv1, hr1⟩ := (hT 1 (by decide) : (Is (.slice pX n cX)) _ _)
         obtain ⟨hv2, hr2⟩ := (hT 2 (by decide) : (Is (.int .i64 (((i : Nat) : Int)))) _ _)
         obtain ⟨hv3, hr3⟩ := (hT 3 (by decide) : (Is (.pointer (some ⟨gm, (0 + i * 1), none⟩))) _ _)
         obtain ⟨hv4, hr4⟩ := (hT 4 (by decide) : (Is (.slice pa C ca)) _ _)
         obtain ⟨hv5, hr5⟩ := (hT 5 (by decide) : (Is (.int .i64 (((c : Nat) : Int)))) _ _)
         obtain ⟨hv6, hr6⟩ := (hT 6 (by decide) : (Is (.pointer (some ⟨ga, c, none⟩))) _ _)
         obtain ⟨hv7, hr7⟩ := (hT 7 (by decide) : (Is (.int .u32 (((nd xa c : Nat) : Int)))) _ _)
         obtain ⟨hv8, hr8⟩ := (hT 8 (by decide) : (Is (.int .u32 (((nd xa c : Nat) : Int)))) _ _)
         simp only [pool, if_true, hr0, hr1, hr2, hr3, hr4, hr5, hr6, hr7, hr8, List.nil_append, List.cons_append, List.append_nil] at hS
         simp only [layf, hv0, hv1, hv2, hv3, hv4, hv5, hv6, hv7, hv8] at hf
         subst hf; clear hT hv0 hv1 hv2 hv3 hv4 hv5 hv6 hv7 hv8 hr0 hr1 hr2 hr3 hr4 hr5 hr6 hr7 hr8
         refine wdone rfl ?_
         refine thenN (wseq (wreg (wl rfl (omove (v := .int .i64 (i : Int)) rfl rfl (ev rfl rfl) ?_))))
         refine wl rfl (omove (v := .int .i64 (pl : Int)) rfl rfl (ev rfl rfl) ?_)
         by_cases hir : i = pl
         ·
          refine wl rfl (obin (u := .int .i64 (i : Int)) (v := .int .i64 (pl : Int)) (z := .bool false) rfl rfl (ev rfl rfl) (ev rfl rfl) (bin_neq (neF (by omega))) ?_)
          refine wl rfl (omove (v := .bool false) rfl rfl (ev rfl rfl) ?_)
          refine wlOff (e := 135) (d := 136) (b' := false) rfl rfl rfl rfl rfl rfl ?_
          refine wlOff (e := 135) (d := 137) (b' := false) rfl rfl rfl rfl rfl rfl ?_
          refine wl rfl (opick (b := false) (v := .bool false) rfl rfl (ev rfl rfl) evc ?_)
          refine wnil (thenN ?_)
          refine wF (ev rfl rfl) ?_
          refine wskip (blkN (thenN (wreg (wl rfl (obin (u := .int .i64 (i : Int)) (v := .int .i64 1) (z := .int .i64 (((i + 1 : Nat) : Int))) rfl rfl (ev rfl rfl) evc (bin_add (wrap_i64 (by omega) (by omega))) ?_)))))
          refine wl rfl (omove (v := .int .i64 (((i + 1 : Nat) : Int))) rfl rfl (ev rfl rfl) ?_)
          refine wnil (thenN ?_)
          exact ⟨(i + 1), ⟨_, _, act_sets (l := [(2, .pointer (some ⟨g1, 0, none⟩)), (4, .slice none 0 0), (5, .int .u32 0), (6, .slice pP pl cP), (7, .int .u32 (((D2 * (nd xs c) % p : Nat) : Int))), (8, .pointer (some ⟨g4, 0, none⟩)), (9, .int .i64 (pl : Int)), (23, .int .i64 (c1 : Int)), (24, .int .i64 (c : Int)), (120, .int .i64 (n : Int)), (121, .int .i64 (((i + 1 : Nat) : Int)))]) ⟨rfl, rfl, rfl, rfl, rfl, rfl, rfl, rfl, rfl, rfl, rfl, trivial⟩, Sep.pickT [.blk g4 [.int .i64 (c : Int)] 3, .lst 3 1 pP pl cP (intE P), .blk g1 [.int .u64 (p : Int), .slice pX n cX, .int .i64 (kr : Int)] 63, .lst 52 1 pX n cX (mmE Qi)] [.blk g4 [.int .i64 (c : Int)] 3, .lst 3 1 pP pl cP (intE P), .blk g1 [.int .u64 (p : Int), .slice pX n cX, .int .i64 (kr : Int)] 63, .lst 52 1 pX n cX (mmE Qi)] hS [0, 1, 2, 3] (by decide) rfl, by omega, by rw [elimM_skip s3 hp0 (by omega) (by omega) (.inl hir)]; exact hQi⟩, by omega⟩
         ·
          refine wl rfl (obin (u := .int .i64 (i : Int)) (v := .int .i64 (pl : Int)) (z := .bool true) rfl rfl (ev rfl rfl) (ev rfl rfl) (bin_neq (neT (by omega))) ?_)
          refine wl rfl (omove (v := .bool true) rfl rfl (ev rfl rfl) ?_)
          refine wlOn (e := 135) rfl rfl rfl rfl (omove (v := .int .u32 (((nd xa c : Nat) : Int))) rfl rfl (ev rfl rfl) ?_)
          by_cases hf0 : nd xa c = 0
          ·
           refine wlOn (e := 135) rfl rfl rfl rfl (obin (u := .int .u32 (((nd xa c : Nat) : Int))) (v := .int .u32 0) (z := .bool false) rfl rfl (ev rfl rfl) evc (bin_neq (neF (by omega))) ?_)
           refine wl rfl (opick (b := true) (v := .bool false) rfl rfl (ev rfl rfl) (ev rfl rfl) ?_)
           refine wnil (thenN ?_)
           refine wF (ev rfl rfl) ?_
           refine wskip (blkN (thenN (wreg (wl rfl (obin (u := .int .i64 (i : Int)) (v := .int .i64 1) (z := .int .i64 (((i + 1 : Nat) : Int))) rfl rfl (ev rfl rfl) evc (bin_add (wrap_i64 (by omega) (by omega))) ?_)))))
           refine wl rfl (omove (v := .int .i64 (((i + 1 : Nat) : Int))) rfl rfl (ev rfl rfl) ?_)
           refine wnil (thenN ?_)
           exact ⟨(i + 1), ⟨_, _, act_sets (l := [(2, .pointer (some ⟨g1, 0, none⟩)), (4, .slice none 0 0), (5, .int .u32 0), (6, .slice pP pl cP), (7, .int .u32 (((D2 * (nd xs c) % p : Nat) : Int))), (8, .pointer (some ⟨g4, 0, none⟩)), (9, .int .i64 (pl : Int)), (23, .int .i64 (c1 : Int)), (24, .int .i64 (c : Int)), (120, .int .i64 (n : Int)), (121, .int .i64 (((i + 1 : Nat) : Int)))]) ⟨rfl, rfl, rfl, rfl, rfl, rfl, rfl, rfl, rfl, rfl, rfl, trivial⟩, Sep.pickT [.blk g4 [.int .i64 (c : Int)] 3, .lst 3 1 pP pl cP (intE P), .blk g1 [.int .u64 (p : Int), .slice pX n cX, .int .i64 (kr : Int)] 63, .lst 52 1 pX n cX (mmE Qi)] [.blk g4 [.int .i64 (c : Int)] 3, .lst 3 1 pP pl cP (intE P), .blk g1 [.int .u64 (p : Int), .slice pX n cX, .int .i64 (kr : Int)] 63, .lst 52 1 pX n cX (mmE Qi)] hS [0, 1, 2, 3] (by decide) rfl, by omega, by rw [elimM_skip s3 hp0 (by omega) (by omega) (.inr (by rw [← hQi, hda]; exact hf0))]; exact hQi⟩, by omega⟩
          ·
           refine wlOn (e := 135) rfl rfl rfl rfl (obin (u := .int .u32 (((nd xa c : Nat) : Int))) (v := .int .u32 0) (z := .bool true) rfl rfl (ev rfl rfl) evc (bin_neq (neT (by omega))) ?_)
           refine wl rfl (opick (b := true) (v := .bool true) rfl rfl (ev rfl rfl) (ev rfl rfl) ?_)
           refine wnil (thenN ?_)
           refine wT (ev rfl rfl) ?_
           refine wseq (wreg (wl rfl (ofieldAddr (g := g1) (off := 0) 1 rfl rfl (ev rfl rfl) Tryd.runUnderlying63 rfl Tryd.sizeOf25 rfl ?_)))
           refine wl rfl (oload1 (v := .slice pX n cX) (show One Tryd.prog 25 from ⟨Tryd.isAgg25, Tryd.sizeOf25⟩) hS 2 rfl rfl (ev rfl rfl) rfl rfl ?_)
           refine wl rfl (omove (v := .int .i64 (pl : Int)) rfl rfl (ev rfl rfl) ?_)
           refine wl rfl (oindex (p := pX) (g := gm) (off := 0) (m := n) (k := pl) (j := (0 + pl * 1)) rfl rfl Tryd.runUnderlying25 Tryd.sizeOf52 (ev rfl rfl) (hgm) (ev rfl rfl) (by omega) rfl ?_)
           refine wl rfl (oloadc (v := .slice pb C cb) (show One Tryd.prog 52 from ⟨Tryd.isAgg52, Tryd.sizeOf52⟩) rfl rfl (ev (v := .pointer (some ⟨gm, (0 + pl * 1), none⟩)) rfl rfl) (hS.mRow 3 rfl hqb hnb hgm) ?_)
           refine wl rfl (olen rfl rfl rfl Tryd.runUnderlying52 (p := pb) (k := C) (m := cb) (ev rfl rfl) ?_)
           refine wl rfl (omove (v := .int .i64 0) rfl rfl evc ?_)
           refine wnil (thenN (wblock ?_))
           rw [← qmix0 (new := lessR p (nd xa c) xa xb) hqa] at hS
           refine wloop (σ := Nat) (fun k a9 w' => ∃ (fb : Nat → Value), a9 = act 180 (sets fb [(2, .pointer (some ⟨g1, 0, none⟩)), (4, .slice none 0 0), (5, .int .u32 0), (6, .slice pP pl cP), (7, .int .u32 (((D2 * (nd xs c) % p : Nat) : Int))), (8, .pointer (some ⟨g4, 0, none⟩)), (9, .int .i64 (pl : Int)), (15, .int .i64 (i : Int)), (16, .int .u32 (((nd xa c : Nat) : Int))), (23, .int .i64 (c1 : Int)), (24, .int .i64 (c : Int)), (120, .int .i64 (n : Int)), (121, .int .i64 (i : Int)), (143, .slice pb C cb), (144, .int .i64 (C : Int)), (145, .int .i64 (k : Int))]) ∧ Sep w0 (.blk g4 [.int .i64 (c : Int)] 3 :: .lst 3 1 pP pl cP (intE P) :: .blk g1 [.int .u64 (p : Int), .slice pX n cX, .int .i64 (kr : Int)] 63 :: .lst 52 1 pX n cX (mmE (Qi.set i ⟨pa, ca, mixR (lessR p (nd xa c) xa xb) xa k⟩)) :: R) w' ∧ (k ≤ C)) (fun k => C - k) (0) ⟨_, act_sets (l := [(2, .pointer (some ⟨g1, 0, none⟩)), (4, .slice none 0 0), (5, .int .u32 0), (6, .slice pP pl cP), (7, .int .u32 (((D2 * (nd xs c) % p : Nat) : Int))), (8, .pointer (some ⟨g4, 0, none⟩)), (9, .int .i64 (pl : Int)), (15, .int .i64 (i : Int)), (16, .int .u32 (((nd xa c : Nat) : Int))), (23, .int .i64 (c1 : Int)), (24, .int .i64 (c : Int)), (120, .int .i64 (n : Int)), (121, .int .i64 (i : Int)), (143, .slice pb C cb), (144, .int .i64 (C : Int)), (145, .int .i64 0)]) ⟨rfl, rfl, rfl, rfl, rfl, rfl, rfl, rfl, rfl, rfl, rfl, rfl, rfl, rfl, rfl, rfl, trivial⟩, hS, Nat.zero_le _⟩ ?_
           clear hS; rintro k _ w14 ⟨fb, rfl, hS, hk⟩
           refine wseq (wreg ?_)
           by_cases hlk : k < C
           ·
            have hmx : (mixR (lessR p (nd xa c) xa xb) xa k).length = C := by rw [mixR_len (lessR_len (by omega)) (by omega)]; exact hna
            have hmk : nd (mixR (lessR p (nd xa c) xa xb) xa k) k = nd xa k := by rw [mixR_nd (lessR_len (by omega)) (by omega), if_neg (Nat.lt_irrefl _)]
            have hxk := nd_lt hlta hp0 (k := k)
            have hyk := nd_lt hltb hp0 (k := k)
            have hml := Nat.mod_lt (nd xa c * nd xb k) hp0
            refine wl rfl (obin (u := .int .i64 (k : Int)) (v := .int .i64 (C : Int)) (z := .bool true) rfl rfl (ev rfl rfl) (ev rfl rfl) (bin_lss (decide_eq_true (by omega))) ?_)
            refine wnil (thenN (wseq ?_))
            refine wT (ev rfl rfl) ?_
            refine wskip (thenN (wseq (wblock (wseq (wreg (wl rfl (omove (v := .int .i64 (k : Int)) rfl rfl (ev rfl rfl) ?_)))))))
            refine wl rfl (oindex (p := pb) (g := gb) (off := 0) (m := C) (k := k) (j := k) rfl rfl Tryd.runUnderlying52 Tryd.sizeOf27 (ev rfl rfl) (hgb) (ev rfl rfl) (by omega) (by simp) ?_)
            refine wl rfl (oloadc (v := .int .u32 (((nd xb k : Nat) : Int))) one32 rfl rfl (ev (v := .pointer (some ⟨gb, k, none⟩)) rfl rfl) (hS.mCell 3 rfl ((List.getElem?_set_ne hir).trans hqb) hgb (by omega)) ?_)
            refine wl rfl (oassign (v := .int .i64 (k : Int)) rfl rfl (ev rfl rfl) ?_)
            refine wl rfl (oassign (v := .int .u32 (((nd xb k : Nat) : Int))) rfl rfl (ev rfl rfl) ?_)
            refine wnil (thenN ?_)
            refine wstage 21 [150, 151, 152, 153, 154, 155, 156, 157, 158, 159, 160, 161, 162, 163, 164, 165, 166, 167, 168, 169, 170] [[], [0], [], [1, 2, 0], [3, 0, 1, 2], [], [], [], [7], [], [8, 9, 7], [10, 7, 8, 9], [], [11, 12, 7, 8, 9, 10], [13, 7, 8, 9, 10, 11, 12], [], [], [], [15, 16, 17], [6, 14, 18, 7, 8, 9, 10, 11, 12, 13, 15, 16, 17], [4, 5, 0, 1, 2, 3, 6, 7, 8, 9, 10, 11, 12, 13, 14, 15, 16, 17, 18, 19]] [[], [], [], [], [], [], [], [], [], [], [], [], [], [], [], [], [], [], [], [], []] [] [] (fun i9 => ([fun _ => Is (.pointer (some ⟨g1, 1, none⟩)), fun _ => Is (.slice pX n cX), fun _ => Is (.int .i64 (i : Int)), fun _ => Is (.pointer (some ⟨gm, (0 + i * 1), none⟩)), fun _ => Is (.slice pa C ca), fun _ => Is (.int .i64 (k : Int)), fun _ => Is (.agg #[.int .u64 (p : Int), .slice pX n cX, .int .i64 (kr : Int)]), fun _ => Is (.pointer (some ⟨g1, 1, none⟩)), fun _ => Is (.slice pX n cX), fun _ => Is (.int .i64 (i : Int)), fun _ => Is (.pointer (some ⟨gm, (0 + i * 1), none⟩)), fun _ => Is (.slice pa C ca), fun _ => Is (.int .i64 (k : Int)), fun _ => Is (.pointer (some ⟨ga, k, none⟩)), fun _ => Is (.int .u32 (((nd (mixR (lessR p (nd xa c) xa xb) xa k) k : Nat) : Int))), fun _ => Is (.agg #[.int .u64 (p : Int), .slice pX n cX, .int .i64 (kr : Int)]), fun _ => Is (.int .u32 (((nd xa c : Nat) : Int))), fun _ => Is (.int .u32 (((nd xb k : Nat) : Int))), fun _ => Is (.int .u32 ((((nd xa c) * (nd xb k) % p : Nat) : Int))), fun _ => Is (.int .u32 (((((nd (mixR (lessR p (nd xa c) xa xb) xa k) k) + p - ((nd xa c) * (nd xb k) % p)) % p : Nat) : Int))), fun _ => Is (.pointer (some ⟨ga, k, none⟩))] : List (List Value → Tell)).getD i9 (fun _ _ _ => False)) (heldNil) (fun d _ _ _ _ h => (by cases d <;> exact h)) (by kernel_rfl) (by kernel_rfl) (by kernel_rfl) hS ?_ ?_
            ·
             refine stepsCons rfl (fun Q f' w' ρ S ho hT hS hB => ?_) ?_
             ·exact .inl ⟨want_none rfl, ofieldAddr (g := g1) (off := 0) 1 rfl rfl (ev rfl (ho 2 rfl)) Tryd.runUnderlying63 rfl Tryd.sizeOf25 rfl ⟨_, _, rfl, isI, New.same _⟩⟩
             refine stepsCons rfl (fun Q f' w' ρ S ho hT hS hB => ?_) ?_
             ·obtain ⟨hv0, hr0⟩ := (hT 0 150 rfl rfl : (Is (.pointer (some ⟨g1, 1, none⟩))) _ _)
              obtain hS := (hS.flat1 hr0).front1
              exact .inl ⟨want_none rfl, oload1 (v := .slice pX n cX) (show One Tryd.prog 25 from ⟨Tryd.isAgg25, Tryd.sizeOf25⟩) hS 2 rfl rfl (ev rfl hv0) rfl rfl ⟨_, _, rfl, isI, New.same _⟩⟩
             refine stepsCons rfl (fun Q f' w' ρ S ho hT hS hB => ?_) ?_
             ·exact .inl ⟨want_none rfl, omove (v := .int .i64 (i : Int)) rfl rfl (ev rfl (ho 15 rfl)) ⟨_, _, rfl, isI, New.same _⟩⟩
             refine stepsCons rfl (fun Q f' w' ρ S ho hT hS hB => ?_) ?_
             ·obtain ⟨hv1, hr1⟩ := (hT 1 151 rfl rfl : (Is (.slice pX n cX)) _ _)
              obtain ⟨hv2, hr2⟩ := (hT 2 152 rfl rfl : (Is (.int .i64 (((i : Nat) : Int)))) _ _)
              obtain hS := (hS.flat2 hr1 hr2).front2
              exact .inl ⟨want_none rfl, oindex (p := pX) (g := gm) (off := 0) (m := n) (k := i) (j := (0 + i * 1)) rfl rfl Tryd.runUnderlying25 Tryd.sizeOf52 (ev rfl hv1) (hgm) (ev rfl hv2) (by omega) rfl ⟨_, _, rfl, isI, New.same _⟩⟩
             refine stepsCons rfl (fun Q f' w' ρ S ho hT hS hB => ?_) ?_
             ·obtain ⟨hv3, hr3⟩ := (hT 3 153 rfl rfl : (Is (.pointer (some ⟨gm, (0 + i * 1), none⟩))) _ _)
              obtain hS := (hS.flat1 hr3).front1
              exact .inl ⟨want_none rfl, oloadc (v := .slice pa C ca) (show One Tryd.prog 52 from ⟨Tryd.isAgg52, Tryd.sizeOf52⟩) rfl rfl (ev (v := .pointer (some ⟨gm, (0 + i * 1), none⟩)) rfl hv3) (hS.mRow 3 rfl (qset_self hqa) hmx hgm) ⟨_, _, rfl, isI, New.same _⟩⟩
             refine stepsCons rfl (fun Q f' w' ρ S ho hT hS hB => ?_) ?_
             ·exact .inl ⟨want_none rfl, omove (v := .int .i64 (k : Int)) rfl rfl (ev rfl (ho 17 rfl)) ⟨_, _, rfl, isI, New.same _⟩⟩
             refine stepsCons rfl (fun Q f' w' ρ S ho hT hS hB => ?_) ?_
             ·exact .inl ⟨want_none rfl, oload (vs := [.int .u64 (p : Int), .slice pX n cX, .int .i64 (kr : Int)]) (show Agg Tryd.prog 63 3 from ⟨Tryd.isAgg63, Tryd.sizeOf63⟩) hS 2 rfl rfl (ev rfl (ho 2 rfl)) rfl rfl rfl ⟨_, _, rfl, isI, New.same _⟩⟩
             refine stepsCons rfl (fun Q f' w' ρ S ho hT hS hB => ?_) ?_
             ·exact .inl ⟨want_none rfl, ofieldAddr (g := g1) (off := 0) 1 rfl rfl (ev rfl (ho 2 rfl)) Tryd.runUnderlying63 rfl Tryd.sizeOf25 rfl ⟨_, _, rfl, isI, New.same _⟩⟩
             refine stepsCons rfl (fun Q f' w' ρ S ho hT hS hB => ?_) ?_
             ·obtain ⟨hv7, hr7⟩ := (hT 7 157 rfl rfl : (Is (.pointer (some ⟨g1, 1, none⟩))) _ _)
              obtain hS := (hS.flat1 hr7).front1
              exact .inl ⟨want_none rfl, oload1 (v := .slice pX n cX) (show One Tryd.prog 25 from ⟨Tryd.isAgg25, Tryd.sizeOf25⟩) hS 2 rfl rfl (ev rfl hv7) rfl rfl ⟨_, _, rfl, isI, New.same _⟩⟩
             refine stepsCons rfl (fun Q f' w' ρ S ho hT hS hB => ?_) ?_
             ·exact .inl ⟨want_none rfl, omove (v := .int .i64 (i : Int)) rfl rfl (ev rfl (ho 15 rfl)) ⟨_, _, rfl, isI, New.same _⟩⟩
             refine stepsCons rfl (fun Q f' w' ρ S ho hT hS hB => ?_) ?_
             ·obtain ⟨hv8, hr8⟩ := (hT 8 158 rfl rfl : (Is (.slice pX n cX)) _ _)
              obtain ⟨hv9, hr9⟩ := (hT 9 159 rfl rfl : (Is (.int .i64 (((i : Nat) : Int)))) _ _)
              obtain hS := (hS.flat2 hr8 hr9).front2
              exact .inl ⟨want_none rfl, oindex (p := pX) (g := gm) (off := 0) (m := n) (k := i) (j := (0 + i * 1)) rfl rfl Tryd.runUnderlying25 Tryd.sizeOf52 (ev rfl hv8) (hgm) (ev rfl hv9) (by omega) rfl ⟨_, _, rfl, isI, New.same _⟩⟩
             refine stepsCons rfl (fun Q f' w' ρ S ho hT hS hB => ?_) ?_
             ·obtain ⟨hv10, hr10⟩ := (hT 10 160 rfl rfl : (Is (.pointer (some ⟨gm, (0 + i * 1), none⟩))) _ _)
              obtain hS := (hS.flat1 hr10).front1
              exact .inl ⟨want_none rfl, oloadc (v := .slice pa C ca) (show One Tryd.prog 52 from ⟨Tryd.isAgg52, Tryd.sizeOf52⟩) rfl rfl (ev (v := .pointer (some ⟨gm, (0 + i * 1), none⟩)) rfl hv10) (hS.mRow 3 rfl (qset_self hqa) hmx hgm) ⟨_, _, rfl, isI, New.same _⟩⟩
             refine stepsCons rfl (fun Q f' w' ρ S ho hT hS hB => ?_) ?_
             ·exact .inl ⟨want_none rfl, omove (v := .int .i64 (k : Int)) rfl rfl (ev rfl (ho 17 rfl)) ⟨_, _, rfl, isI, New.same _⟩⟩
             refine stepsCons rfl (fun Q f' w' ρ S ho hT hS hB => ?_) ?_
             ·obtain ⟨hv11, hr11⟩ := (hT 11 161 rfl rfl : (Is (.slice pa C ca)) _ _)
              obtain ⟨hv12, hr12⟩ := (hT 12 162 rfl rfl : (Is (.int .i64 (((k : Nat) : Int)))) _ _)
              obtain hS := (hS.flat2 hr11 hr12).front2
              exact .inl ⟨want_none rfl, oindex (p := pa) (g := ga) (off := 0) (m := C) (k := k) (j := k) rfl rfl Tryd.runUnderlying52 Tryd.sizeOf27 (ev rfl hv11) (hga) (ev rfl hv12) (by omega) (by simp) ⟨_, _, rfl, isI, New.same _⟩⟩
             refine stepsCons rfl (fun Q f' w' ρ S ho hT hS hB => ?_) ?_
             ·obtain ⟨hv13, hr13⟩ := (hT 13 163 rfl rfl : (Is (.pointer (some ⟨ga, k, none⟩))) _ _)
              obtain hS := (hS.flat1 hr13).front1
              exact .inl ⟨want_none rfl, oloadc (v := .int .u32 (((nd (mixR (lessR p (nd xa c) xa xb) xa k) k : Nat) : Int))) one32 rfl rfl (ev (v := .pointer (some ⟨ga, k, none⟩)) rfl hv13) (hS.mCell 3 rfl (qset_self hqa) hga (by omega)) ⟨_, _, rfl, isI, New.same _⟩⟩
             refine stepsCons rfl (fun Q f' w' ρ S ho hT hS hB => ?_) ?_
             ·exact .inl ⟨want_none rfl, oload (vs := [.int .u64 (p : Int), .slice pX n cX, .int .i64 (kr : Int)]) (show Agg Tryd.prog 63 3 from ⟨Tryd.isAgg63, Tryd.sizeOf63⟩) hS 2 rfl rfl (ev rfl (ho 2 rfl)) rfl rfl rfl ⟨_, _, rfl, isI, New.same _⟩⟩
             refine stepsCons rfl (fun Q f' w' ρ S ho hT hS hB => ?_) ?_
             ·exact .inl ⟨want_none rfl, omove (v := .int .u32 (((nd xa c : Nat) : Int))) rfl rfl (ev rfl (ho 16 rfl)) ⟨_, _, rfl, isI, New.same _⟩⟩
             refine stepsCons rfl (fun Q f' w' ρ S ho hT hS hB => ?_) ?_
             ·exact .inl ⟨want_none rfl, omove (v := .int .u32 (((nd xb k : Nat) : Int))) rfl rfl (ev rfl (ho 18 rfl)) ⟨_, _, rfl, isI, New.same _⟩⟩
             refine stepsCons rfl (fun Q f' w' ρ S ho hT hS hB => ?_) ?_
             ·obtain ⟨hv15, hr15⟩ := (hT 15 165 rfl rfl : (Is (.agg #[.int .u64 (((p : Nat) : Int)), .slice pX n cX, .int .i64 (((kr : Nat) : Int))])) _ _)
              obtain ⟨hv16, hr16⟩ := (hT 16 166 rfl rfl : (Is (.int .u32 (((nd xa c : Nat) : Int)))) _ _)
              obtain ⟨hv17, hr17⟩ := (hT 17 167 rfl rfl : (Is (.int .u32 (((nd xb k : Nat) : Int)))) _ _)
              obtain hS := (hS.flat3 hr15 hr16 hr17).front3
              exact .inl ⟨want_none rfl, ocall rfl rfl Tryd.call63 rfl (wxmul (a := (nd xa c)) (b := (nd xb k)) hp0 hp2 (by omega) (by omega)) (args3 (ev rfl hv15) (ev rfl hv16) (ev rfl hv17)) callN⟩
             refine stepsCons rfl (fun Q f' w' ρ S ho hT hS hB => ?_) ?_
             ·obtain ⟨hv6, hr6⟩ := (hT 6 156 rfl rfl : (Is (.agg #[.int .u64 (((p : Nat) : Int)), .slice pX n cX, .int .i64 (((kr : Nat) : Int))])) _ _)
              obtain ⟨hv14, hr14⟩ := (hT 14 164 rfl rfl : (Is (.int .u32 (((nd (mixR (lessR p (nd xa c) xa xb) xa k) k : Nat) : Int)))) _ _)
              obtain ⟨hv18, hr18⟩ := (hT 18 168 rfl rfl : (Is (.int .u32 ((((nd xa c) * (nd xb k) % p : Nat) : Int)))) _ _)
              obtain hS := (hS.flat3 hr6 hr14 hr18).front3
              exact .inl ⟨want_none rfl, ocall rfl rfl Tryd.call55 rfl (wxsub (a := (nd (mixR (lessR p (nd xa c) xa xb) xa k) k)) (b := ((nd xa c) * (nd xb k) % p)) hp0 hp2 (by omega) (by omega) (by omega)) (args3 (ev rfl hv6) (ev rfl hv14) (ev rfl hv18)) callN⟩
             refine stepsCons rfl (fun Q f' w' ρ S ho hT hS hB => ?_) ?_
             ·obtain ⟨hv4, hr4⟩ := (hT 4 154 rfl rfl : (Is (.slice pa C ca)) _ _)
              obtain ⟨hv5, hr5⟩ := (hT 5 155 rfl rfl : (Is (.int .i64 (((k : Nat) : Int)))) _ _)
              obtain hS := (hS.flat2 hr4 hr5).front2
              exact .inl ⟨want_none rfl, oindex (p := pa) (g := ga) (off := 0) (m := C) (k := k) (j := k) rfl rfl Tryd.runUnderlying52 Tryd.sizeOf27 (ev rfl hv4) (hga) (ev rfl hv5) (by omega) (by simp) ⟨_, _, rfl, isI, New.same _⟩⟩
             exact stepsNil
            ·
             intro vs ρ w15 f' hf hT hS
             obtain ⟨hv0, hr0⟩ := (hT 0 (by decide) : (Is (.pointer (some ⟨g1, 1, none⟩))) _ _)
             obtain ⟨hv1, hr1⟩ := (hT 1 (by decide) : (Is (.slice pX n cX)) _ _)
             obtain ⟨hv2, hr2⟩ := (hT 2 (by decide) : (Is (.int .i64 (((i : Nat) : Int)))) _ _)
             obtain ⟨hv3, hr3⟩ := (hT 3 (by decide) : (Is (.pointer (some ⟨gm, (0 + i * 1), none⟩))) _ _)
             obtain ⟨hv4, hr4⟩ := (hT 4 (by decide) : (Is (.slice pa C ca)) _ _)
             obtain ⟨hv5, hr5⟩ := (hT 5 (by decide) : (Is (.int .i64 (((k : Nat) : Int)))) _ _)
             obtain ⟨hv6, hr6⟩ := (hT 6 (by decide) : (Is (.agg #[.int .u64 (((p : Nat) : Int)), .slice pX n cX, .int .i64 (((kr : Nat) : Int))])) _ _)
             obtain ⟨hv7, hr7⟩ := (hT 7 (by decide) : (Is (.pointer (some ⟨g1, 1, none⟩))) _ _)
             obtain ⟨hv8, hr8⟩ := (hT 8 (by decide) : (Is (.slice pX n cX)) _ _)
             obtain ⟨hv9, hr9⟩ := (hT 9 (by decide) : (Is (.int .i64 (((i : Nat) : Int)))) _ _)
             obtain ⟨hv10, hr10⟩ := (hT 10 (by decide) : (Is (.pointer (some ⟨gm, (0 + i * 1), none⟩))) _ _)
             obtain ⟨hv11, hr11⟩ := (hT 11 (by decide) : (Is (.slice pa C ca)) _ _)
             obtain ⟨hv12, hr12⟩ := (hT 12 (by decide) : (Is (.int .i64 (((k : Nat) : Int)))) _ _)
             obtain ⟨hv13, hr13⟩ := (hT 13 (by decide) : (Is (.pointer (some ⟨ga, k, none⟩))) _ _)
             obtain ⟨hv14, hr14⟩ := (hT 14 (by decide) : (Is (.int .u32 (((nd (mixR (lessR p (nd xa c) xa xb) xa k) k : Nat) : Int)))) _ _)
             obtain ⟨hv15, hr15⟩ := (hT 15 (by decide) : (Is (.agg #[.int .u64 (((p : Nat) : Int)), .slice pX n cX, .int .i64 (((kr : Nat) : Int))])) _ _)
             obtain ⟨hv16, hr16⟩ := (hT 16 (by decide) : (Is (.int .u32 (((nd xa c : Nat) : Int)))) _ _)
             obtain ⟨hv17, hr17⟩ := (hT 17 (by decide) : (Is (.int .u32 (((nd xb k : Nat) : Int)))) _ _)
             obtain ⟨hv18, hr18⟩ := (hT 18 (by decide) : (Is (.int .u32 ((((nd xa c) * (nd xb k) % p : Nat) : Int)))) _ _)
             obtain ⟨hv19, hr19⟩ := (hT 19 (by decide) : (Is (.int .u32 (((((nd (mixR (lessR p (nd xa c) xa xb) xa k) k) + p - ((nd xa c) * (nd xb k) % p)) % p : Nat) : Int)))) _ _)
             obtain ⟨hv20, hr20⟩ := (hT 20 (by decide) : (Is (.pointer (some ⟨ga, k, none⟩))) _ _)
             simp only [pool, if_true, hr0, hr1, hr2, hr3, hr4, hr5, hr6, hr7, hr8, hr9, hr10, hr11, hr12, hr13, hr14, hr15, hr16, hr17, hr18, hr19, hr20, List.nil_append, List.cons_append, List.append_nil] at hS
             simp only [layf, hv0, hv1, hv2, hv3, hv4, hv5, hv6, hv7, hv8, hv9, hv10, hv11, hv12, hv13, hv14, hv15, hv16, hv17, hv18, hv19, hv20] at hf
             subst hf; clear hT hv0 hv1 hv2 hv3 hv4 hv5 hv6 hv7 hv8 hv9 hv10 hv11 hv12 hv13 hv14 hv15 hv16 hv17 hv18 hv19 hv20 hr0 hr1 hr2 hr3 hr4 hr5 hr6 hr7 hr8 hr9 hr10 hr11 hr12 hr13 hr14 hr15 hr16 hr17 hr18 hr19 hr20
             obtain hS := (show Sep w0 (.lst 52 1 pX n cX (mmE (Qi.set i ⟨pa, ca, mixR (lessR p (nd xa c) xa xb) xa k⟩)) :: .blk g4 [.int .i64 (((c : Nat) : Int))] 3 :: .lst 3 1 pP pl cP (intE P) :: .blk g1 [.int .u64 (((p : Nat) : Int)), .slice pX n cX, .int .i64 (((kr : Nat) : Int))] 63 :: R) w15 from Sep.pickT [.blk g4 [.int .i64 (((c : Nat) : Int))] 3, .lst 3 1 pP pl cP (intE P), .blk g1 [.int .u64 (((p : Nat) : Int)), .slice pX n cX, .int .i64 (((kr : Nat) : Int))] 63, .lst 52 1 pX n cX (mmE (Qi.set i ⟨pa, ca, mixR (lessR p (nd xa c) xa xb) xa k⟩))] [.lst 52 1 pX n cX (mmE (Qi.set i ⟨pa, ca, mixR (lessR p (nd xa c) xa xb) xa k⟩)), .blk g4 [.int .i64 (((c : Nat) : Int))] 3, .lst 3 1 pP pl cP (intE P), .blk g1 [.int .u64 (((p : Nat) : Int)), .slice pX n cX, .int .i64 (((kr : Nat) : Int))] 63] hS [3, 0, 1, 2] (by decide) rfl)
             refine wlate 21 rfl (by kernel_rfl) (ostoreM (i := i) (g := ga) (k := k) (u := (((nd (mixR (lessR p (nd xa c) xa xb) xa k) k) + p - ((nd xa c) * (nd xb k) % p)) % p)) Tryd.sizeOf27 hS rfl rfl (ev (v := .pointer (some ⟨ga, k, none⟩)) rfl rfl) (ev (v := .int .u32 (((((nd (mixR (lessR p (nd xa c) xa xb) xa k) k) + p - ((nd xa c) * (nd xb k) % p)) % p : Nat) : Int))) rfl rfl) (qset_self hqa) hga (show k < List.length (mixR (lessR p (nd xa c) xa xb) xa k) by omega) (by have := Nat.mod_lt (nd (mixR (lessR p (nd xa c) xa xb) xa k) k + p - nd xa c * nd xb k % p) hp0; omega) ?_)
             clear hS; intro w16 hS
             refine ⟨heldNil, ?_⟩
             refine wdone rfl ?_
             refine blkN (thenN (wreg (wl rfl (obin (u := .int .i64 (k : Int)) (v := .int .i64 1) (z := .int .i64 (((k + 1 : Nat) : Int))) rfl rfl (ev rfl rfl) evc (bin_add (wrap_i64 (by omega) (by omega))) ?_))))
             refine wl rfl (omove (v := .int .i64 (((k + 1 : Nat) : Int))) rfl rfl (ev rfl rfl) ?_)
             refine wnil (thenN ?_)
             rw [qmix_next (lessR_len (by omega)) (by omega) (by rw [lessR_nd (by omega) (by omega), hmk])] at hS
             exact ⟨(k + 1), ⟨_, act_sets (l := [(2, .pointer (some ⟨g1, 0, none⟩)), (4, .slice none 0 0), (5, .int .u32 0), (6, .slice pP pl cP), (7, .int .u32 (((D2 * (nd xs c) % p : Nat) : Int))), (8, .pointer (some ⟨g4, 0, none⟩)), (9, .int .i64 (pl : Int)), (15, .int .i64 (i : Int)), (16, .int .u32 (((nd xa c : Nat) : Int))), (23, .int .i64 (c1 : Int)), (24, .int .i64 (c : Int)), (120, .int .i64 (n : Int)), (121, .int .i64 (i : Int)), (143, .slice pb C cb), (144, .int .i64 (C : Int)), (145, .int .i64 (((k + 1 : Nat) : Int)))]) ⟨rfl, rfl, rfl, rfl, rfl, rfl, rfl, rfl, rfl, rfl, rfl, rfl, rfl, rfl, rfl, rfl, trivial⟩, Sep.pickT [.lst 52 1 pX n cX (mmE (Qi.set i ⟨pa, ca, mixR (lessR p (nd xa c) xa xb) xa (k + 1)⟩)), .blk g4 [.int .i64 (c : Int)] 3, .lst 3 1 pP pl cP (intE P), .blk g1 [.int .u64 (p : Int), .slice pX n cX, .int .i64 (kr : Int)] 63] [.blk g4 [.int .i64 (c : Int)] 3, .lst 3 1 pP pl cP (intE P), .blk g1 [.int .u64 (p : Int), .slice pX n cX, .int .i64 (kr : Int)] 63, .lst 52 1 pX n cX (mmE (Qi.set i ⟨pa, ca, mixR (lessR p (nd xa c) xa xb) xa (k + 1)⟩))] hS [1, 2, 3, 0] (by decide) rfl, by omega⟩, by omega⟩
           ·
            refine wl rfl (obin (u := .int .i64 (k : Int)) (v := .int .i64 (C : Int)) (z := .bool false) rfl rfl (ev rfl rfl) (ev rfl rfl) (bin_lss (decide_eq_false (by omega))) ?_)
            refine wnil (thenN (wseq ?_))
            refine wF (ev rfl rfl) ?_
            refine wexit ?_
            refine thenE ?_
            refine thenE ?_
            refine blkE ?_
            refine blkN (thenN (wreg ?_))
            rw [mixR_full (lessR_len (by omega)) (by omega)] at hS
            refine wl rfl (obin (u := .int .i64 (i : Int)) (v := .int .i64 1) (z := .int .i64 (((i + 1 : Nat) : Int))) rfl rfl (ev rfl rfl) evc (bin_add (wrap_i64 (by omega) (by omega))) ?_)
            refine wl rfl (omove (v := .int .i64 (((i + 1 : Nat) : Int))) rfl rfl (ev rfl rfl) ?_)
            refine wnil (thenN ?_)
            exact ⟨(i + 1), ⟨_, _, act_sets (l := [(2, .pointer (some ⟨g1, 0, none⟩)), (4, .slice none 0 0), (5, .int .u32 0), (6, .slice pP pl cP), (7, .int .u32 (((D2 * (nd xs c) % p : Nat) : Int))), (8, .pointer (some ⟨g4, 0, none⟩)), (9, .int .i64 (pl : Int)), (23, .int .i64 (c1 : Int)), (24, .int .i64 (c : Int)), (120, .int .i64 (n : Int)), (121, .int .i64 (((i + 1 : Nat) : Int)))]) ⟨rfl, rfl, rfl, rfl, rfl, rfl, rfl, rfl, rfl, rfl, rfl, trivial⟩, Sep.pickT [.blk g4 [.int .i64 (c : Int)] 3, .lst 3 1 pP pl cP (intE P), .blk g1 [.int .u64 (p : Int), .slice pX n cX, .int .i64 (kr : Int)] 63, .lst 52 1 pX n cX (mmE (Qi.set i ⟨pa, ca, lessR p (nd xa c) xa xb⟩))] [.blk g4 [.int .i64 (c : Int)] 3, .lst 3 1 pP pl cP (intE P), .blk g1 [.int .u64 (p : Int), .slice pX n cX, .int .i64 (kr : Int)] 63, .lst 52 1 pX n cX (mmE (Qi.set i ⟨pa, ca, lessR p (nd xa c) xa xb⟩))] hS [0, 1, 2, 3] (by decide) rfl, by omega, by rw [nums_set, elimM_next hir, ← hQi, hda, hdb]⟩, by omega⟩
       ·
        refine wl rfl (obin (u := .int .i64 (i : Int)) (v := .int .i64 (n : Int)) (z := .bool false) rfl rfl (ev rfl rfl) (ev rfl rfl) (bin_lss (decide_eq_false (by omega))) ?_)
        refine wnil (thenN (wseq ?_))
        refine wF (ev rfl rfl) ?_
        refine wexit ?_
        refine thenE ?_
        refine thenE ?_
        refine blkE ?_
        refine thenN (wreg (wl rfl (omove (v := .slice pP pl cP) rfl rfl (ev rfl rfl) ?_)))
        refine wl rfl (oload1 (v := .int .i64 (c : Int)) oneI hS 0 rfl rfl (ev rfl rfl) rfl rfl ?_)
        refine wl rfl (obslice (ps := #[(0, .int .i64 (c : Int))]) (z := .int .i64 0) [.int .i64 (c : Int)] hS rfl rfl Tryd.runUnderlying35 Tryd.sizeOf3 Tryd.zeroValue3 (parts1 (ev (v := .int .i64 (c : Int)) rfl rfl)) rfl (by decide) (fill1_1s rfl rfl) ?_)
        clear hS; intro g13 w14 hS
        obtain hS := (show Sep w0 (.lst 3 1 pP pl cP (intE P) :: .blk g13 [.int .i64 (((c : Nat) : Int))] 3 :: .blk g4 [.int .i64 (((c : Nat) : Int))] 3 :: .blk g1 [.int .u64 (((p : Nat) : Int)), .slice pX n cX, .int .i64 (((kr : Nat) : Int))] 63 :: .lst 52 1 pX n cX (mmE Qi) :: R) w14 from Sep.pickT [.blk g13 [.int .i64 (((c : Nat) : Int))] 3, .blk g4 [.int .i64 (((c : Nat) : Int))] 3, .lst 3 1 pP pl cP (intE P), .blk g1 [.int .u64 (((p : Nat) : Int)), .slice pX n cX, .int .i64 (((kr : Nat) : Int))] 63, .lst 52 1 pX n cX (mmE Qi)] [.lst 3 1 pP pl cP (intE P), .blk g13 [.int .i64 (((c : Nat) : Int))] 3, .blk g4 [.int .i64 (((c : Nat) : Int))] 3, .blk g1 [.int .u64 (((p : Nat) : Int)), .slice pX n cX, .int .i64 (((kr : Nat) : Int))] 63, .lst 52 1 pX n cX (mmE Qi)] hS [2, 0, 1, 3, 4] (by decide) rfl)
        refine wl rfl (oappendL (p := pP) (m := pl) (c := cP) (g2 := g13) (c2 := 1) (off := 0) [.int .i64 (c : Int)] [] hS rfl rfl Tryd.underlying35 infoint rfl (by decide) (ev (v := .slice pP pl cP) rfl rfl) (ev (v := .slice (some ⟨g13, 0, none⟩) 1 1) rfl rfl) (fun j v hj => by rw [Nat.zero_add]; exact (blk_cell (hS.blkAt 1 rfl) j).trans hj) rfl rfl rfl (by omega) (by omega) ?_)
        clear hS; intro p16 c17 w15 hS
        refine wl rfl (oassign (v := .slice p16 ((pl + 1)) c17) rfl rfl (ev rfl rfl) ?_)
        refine wnil (blkN (thenN (wreg (wl rfl (obin (u := .int .i64 (c : Int)) (v := .int .i64 1) (z := .int .i64 (((c + 1 : Nat) : Int))) rfl rfl (ev rfl rfl) evc (bin_add (wrap_i64 (by omega) (by omega))) ?_)))))
        refine wl rfl (omove (v := .int .i64 (((c + 1 : Nat) : Int))) rfl rfl (ev rfl rfl) ?_)
        refine wnil (thenN ?_)
        rw [intE_app] at hS
        exact ⟨(c + 1), ⟨_, _, _, _, _, _, _, act_sets (l := [(2, .pointer (some ⟨g1, 0, none⟩)), (4, .slice none 0 0), (5, .int .u32 0), (6, .slice p16 ((pl + 1)) c17), (7, .int .u32 (((D2 * (nd xs c) % p : Nat) : Int))), (23, .int .i64 (c1 : Int)), (24, .int .i64 (((c + 1 : Nat) : Int)))]) ⟨rfl, rfl, rfl, rfl, rfl, rfl, rfl, trivial⟩, Sep.pickT [.lst 3 1 p16 ((pl + 1)) c17 (intE (P ++ [c])), .blk g13 [.int .i64 (c : Int)] 3, .blk g4 [.int .i64 (c : Int)] 3, .blk g1 [.int .u64 (p : Int), .slice pX n cX, .int .i64 (kr : Int)] 63, .lst 52 1 pX n cX (mmE Qi)] [.lst 3 1 p16 ((pl + 1)) c17 (intE (P ++ [c])), .blk g1 [.int .u64 (p : Int), .slice pX n cX, .int .i64 (kr : Int)] 63, .lst 52 1 pX n cX (mmE Qi)] hS [0, 3, 4] (by decide) rfl, by omega, by have e : i = n := (by omega); rw [redTo_S hR, redStep_some (by simp only; rw [hN1, hpl]; exact hf), hpl]; simp only; rw [hN1, ← e, hQi, hQ3n, hQ2], ⟨Nat.mod_lt _ hp0, fun h => by rw [detTo_some hR (by rw [hN1, hpl]; exact hf), hpl, ← hsc, ← hD.2 (by omega), ← hD2]⟩, by rw [List.length_append, hpl]; rfl⟩, by omega⟩
 ·
  refine wl rfl (obin (u := .int .i64 (c : Int)) (v := .int .i64 (c1 : Int)) (z := .bool false) rfl rfl (ev rfl rfl) (ev rfl rfl) (bin_lss (decide_eq_false (by omega))) ?_)
  refine wnil (thenN (wseq ?_))
  refine wF (ev rfl rfl) ?_
  refine wexit ?_
  refine thenE ?_
  refine thenE ?_
  refine blkE ?_
  refine thenN (wseq (wreg (wl rfl (omove (v := .slice pP pl cP) rfl rfl (ev rfl rfl) ?_))))
  refine wl rfl (omove (v := .int .u32 (D : Int)) rfl rfl (ev rfl rfl) ?_)
  refine wl rfl (oassign (v := .slice pP pl cP) rfl rfl (ev rfl rfl) ?_)
  refine wl rfl (oassign (v := .int .u32 (D : Int)) rfl rfl (ev rfl rfl) ?_)
  refine wnil (thenN ?_)
  refine wleave ?_
  refine scR ?_
  have hce : c = c1 := by omega
  have hfin : redTo p M c1 = (nums Q1, P) := by rw [← hce]; exact hR
  have hfD : D < p ∧ (c1 ≤ M.length → D = detTo p M c1) := by rw [← hce]; exact hD
  refine wret2 Tryd.results42 (tellT (v := .slice pP pl cP) rfl rfl) (tellT (v := .int .u32 (D : Int)) rfl rfl) ?_
  exact ⟨_, _, rfl, ⟨pP, cP, P, D, Q1, hfin, hfD, by rw [hpl], by rw [hpl]⟩, Sep.pickT [.lst 3 1 pP pl cP (intE P), .blk g1 [.int .u64 (p : Int), .slice pX n cX, .int .i64 (kr : Int)] 63, .lst 52 1 pX n cX (mmE Q1)] [.lst 3 1 pP pl cP (intE P), .lst 52 1 pX n cX (mmE Q1)] hS [0, 2] (by decide) rfl⟩
end Go.Proofs.YtndilfigdbenoaaDoor
