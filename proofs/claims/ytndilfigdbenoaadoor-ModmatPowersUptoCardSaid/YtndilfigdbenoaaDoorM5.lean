/-
  Contracts and lemmas, joined in one text.
-/
import Derived.Test.YtndilfigdbenoaaDoorMm10
import Derived.Test.YtndilfigdbenoaaDoorMmV
set_option linter.unusedVariables false
set_option linter.unusedSimpArgs false
/-
  The law's own functions: faults, square, told.
-/
set_option maxRecDepth 100000
set_option maxHeartbeats 16000000
namespace Go.Proofs.YtndilfigdbenoaaDoor
open Go.RowKit
theorem wlfaults40 {pl : Option Addr} {nl cl p : Nat} {Ms : List (List (List Nat))} {w : World} (hL : LMS w pl nl Ms) (hp2 : p < 4294967296) (hn : nl ≤ 1000) (hp : ¬ MR.Pr p) :
  Calls Tryd.prog 32 #[.int .u32 ((p : Nat) : Int), .slice pl nl cl] w (Ret (Is (.int .i64 40)) w) := by
 have hS := Sep.init w
 refine went Tryd.func32 rfl (n := 20) rfl rfl ?_
 refine wseq (wreg (wl rfl (oassign (v := .int .i64 0) rfl rfl evc ?_)))
 refine wnil (thenN (wseq (wseq (wreg (wl rfl (omove (v := .int .u32 (p : Int)) rfl rfl (ev rfl rfl) ?_))))))
 refine wl rfl (ocall rfl rfl Tryd.call56 rfl (wsis (b := false) hp2 ⟨(fun h => by cases h), (fun h => absurd h hp)⟩) (args1 (ev rfl rfl)) ?_)
 rintro _ w1 ⟨_, _, rfl, ⟨rfl, rfl⟩, hN⟩
 refine ⟨_, rfl, ?_⟩
 replace hS := hS.news hN; clear hN
 refine wl rfl (onot (b := false) rfl rfl (ev rfl rfl) ?_)
 refine wnil (thenN ?_)
 refine wT (ev rfl rfl) ?_
 refine wseq (wreg (wl rfl (oassign (v := .int .i64 40) rfl rfl evc ?_)))
 refine wnil (thenN ?_)
 refine wleave ?_
 refine thenR ?_
 refine wret1 Tryd.results32 (tellT (v := .int .i64 40) rfl rfl) ?_
 exact ⟨_, _, rfl, isI, hS.new0⟩
theorem wlfaults2 {pl : Option Addr} {nl cl p : Nat} {Ms : List (List (List Nat))} {w : World} (hL : LMS w pl nl Ms) (hp2 : p < 4294967296) (hn : nl ≤ 1000) (hp : MR.Pr p) (hr : ¬ ∀ M ∈ Ms, RectM M) :
  Calls Tryd.prog 32 #[.int .u32 ((p : Nat) : Int), .slice pl nl cl] w (Ret (Is (.int .i64 2)) w) := by
 have hS := Sep.init w
 refine went Tryd.func32 rfl (n := 20) rfl rfl ?_
 refine wseq (wreg (wl rfl (oassign (v := .int .i64 0) rfl rfl evc ?_)))
 refine wnil (thenN (wseq (wseq (wreg (wl rfl (omove (v := .int .u32 (p : Int)) rfl rfl (ev rfl rfl) ?_))))))
 refine wl rfl (ocall rfl rfl Tryd.call56 rfl (wsis (b := true) hp2 ⟨fun _ => hp, fun _ => rfl⟩) (args1 (ev rfl rfl)) ?_)
 rintro _ w1 ⟨_, _, rfl, ⟨rfl, rfl⟩, hN⟩
 refine ⟨_, rfl, ?_⟩
 replace hS := hS.news hN; clear hN
 refine wl rfl (onot (b := true) rfl rfl (ev rfl rfl) ?_)
 refine wnil (thenN ?_)
 refine wF (ev rfl rfl) ?_
 refine wskip (thenN (wseq (wseq (wreg (wl rfl (omove (v := .slice pl nl cl) rfl rfl (ev rfl rfl) ?_))))))
 refine wl rfl (olen rfl rfl rfl Tryd.runUnderlying81 (p := pl) (k := nl) (m := cl) (ev rfl rfl) ?_)
 refine wl rfl (omove (v := .int .i64 0) rfl rfl evc ?_)
 refine wnil (thenN (wblock ?_))
 refine wloop (σ := Nat) (fun i a9 w' => ∃ (fb : Nat → Value), a9 = act 20 (sets fb [(10, .slice pl nl cl), (11, .int .i64 (nl : Int)), (12, .int .i64 (i : Int))]) ∧ Sep w [] w' ∧ (i ≤ nl) ∧ (∀ M ∈ Ms.take i, RectM M)) (fun i => nl - i) (0) ⟨_, act_sets (l := [(10, .slice pl nl cl), (11, .int .i64 (nl : Int)), (12, .int .i64 0)]) ⟨rfl, rfl, rfl, trivial⟩, hS, Nat.zero_le _, by simp⟩ ?_
 clear hS; rintro i _ w2 ⟨fb, rfl, hS, hi, hrc⟩
 refine wseq (wreg ?_)
 by_cases hlt : i < nl
 ·
  have hnl := hL.1
  obtain ⟨M, hM⟩ : ∃ M, Ms[i]? = some M := ⟨_, List.getElem?_eq_getElem (by omega)⟩
  obtain ⟨b, off, pq, cq, hpx, hcx, hms⟩ := hL.2 i M hM
  refine wl rfl (obin (u := .int .i64 (i : Int)) (v := .int .i64 (nl : Int)) (z := .bool true) rfl rfl (ev rfl rfl) (ev rfl rfl) (bin_lss (decide_eq_true (by omega))) ?_)
  refine wnil (thenN (wseq ?_))
  refine wT (ev rfl rfl) ?_
  refine wskip (thenN (wseq (wblock (wseq (wreg (wl rfl (oindex (p := pl) (g := b) (off := off) (m := nl) (k := i) (j := (off + i * 1)) rfl rfl Tryd.runUnderlying81 Tryd.sizeOf26 (ev rfl rfl) (hpx) (ev rfl rfl) ((show i < nl by omega)) rfl ?_)))))))
  refine wl rfl (oloadc (v := .slice pq M.length cq) (show One Tryd.prog 26 from ⟨Tryd.isAgg26, Tryd.sizeOf26⟩) rfl rfl (ev (v := .pointer (some ⟨b, (off + i * 1), none⟩)) rfl rfl) (hS.cellAt (hcx 0 _ rfl)) ?_)
  refine wl rfl (oassign (v := .slice pq M.length cq) rfl rfl (ev rfl rfl) ?_)
  refine wnil (thenN (wseq (wreg (wl rfl (omove (v := .slice pq M.length cq) rfl rfl (ev rfl rfl) ?_)))))
  by_cases hrM : RectM M
  ·
   refine wl rfl (ocall rfl rfl Tryd.call57 rfl (wrmay (hms.at hS) (hrM)) (args1 (ev rfl rfl)) ?_)
   rintro _ w3 ⟨_, _, rfl, ⟨rfl, rfl⟩, hN⟩
   refine ⟨_, rfl, ?_⟩
   replace hS := hS.news hN; clear hN
   refine wl rfl (onot (b := true) rfl rfl (ev rfl rfl) ?_)
   refine wnil (thenN ?_)
   refine wF (ev rfl rfl) ?_
   refine wskip (blkN (thenN (wreg (wl rfl (obin (u := .int .i64 (i : Int)) (v := .int .i64 1) (z := .int .i64 (((i + 1 : Nat) : Int))) rfl rfl (ev rfl rfl) evc (bin_add (wrap_i64 (by omega) (by omega))) ?_)))))
   refine wl rfl (omove (v := .int .i64 (((i + 1 : Nat) : Int))) rfl rfl (ev rfl rfl) ?_)
   refine wnil (thenN ?_)
   exact ⟨(i + 1), ⟨_, act_sets (l := [(10, .slice pl nl cl), (11, .int .i64 (nl : Int)), (12, .int .i64 (((i + 1 : Nat) : Int)))]) ⟨rfl, rfl, rfl, trivial⟩, hS.pick [] (by decide) rfl, by omega, fun u hu => by rw [take_next hM] at hu; exact (List.mem_append.1 hu).elim (hrc u) (fun h => by rw [List.mem_singleton.1 h]; exact hrM)⟩, by omega⟩
  ·
   refine wl rfl (ocall rfl rfl Tryd.call57 rfl (wrmayF (hms.at hS) (hrM)) (args1 (ev rfl rfl)) ?_)
   rintro _ w3 ⟨_, _, rfl, ⟨rfl, rfl⟩, hN⟩
   refine ⟨_, rfl, ?_⟩
   replace hS := hS.news hN; clear hN
   refine wl rfl (onot (b := false) rfl rfl (ev rfl rfl) ?_)
   refine wnil (thenN ?_)
   refine wT (ev rfl rfl) ?_
   refine wseq (wreg (wl rfl (oassign (v := .int .i64 2) rfl rfl evc ?_)))
   refine wnil (thenN ?_)
   refine wleave ?_
   refine blkR ?_
   refine thenR ?_
   refine thenR ?_
   refine blkR ?_
   refine thenR ?_
   refine wret1 Tryd.results32 (tellT (v := .int .i64 2) rfl rfl) ?_
   exact ⟨_, _, rfl, isI, hS.new0⟩
 ·
  refine wl rfl (obin (u := .int .i64 (i : Int)) (v := .int .i64 (nl : Int)) (z := .bool false) rfl rfl (ev rfl rfl) (ev rfl rfl) (bin_lss (decide_eq_false (by omega))) ?_)
  refine wnil (thenN (wseq ?_))
  refine wF (ev rfl rfl) ?_
  refine wexit ?_
  refine thenE ?_
  refine thenE ?_
  refine blkE ?_
  refine thenN (wseq (wreg (wl rfl (oassign (v := .int .i64 0) rfl rfl evc ?_))))
  refine wnil (thenN ?_)
  refine wleave ?_
  exact absurd (fun M hM => hrc M (by rw [List.take_of_length_le (by have := hL.1; omega)]; exact hM)) hr
theorem wlfaults0 {pl : Option Addr} {nl cl p : Nat} {Ms : List (List (List Nat))} {w : World} (hL : LMS w pl nl Ms) (hp2 : p < 4294967296) (hn : nl ≤ 1000) (hp : MR.Pr p) (hr : ∀ M ∈ Ms, RectM M) :
  Calls Tryd.prog 32 #[.int .u32 ((p : Nat) : Int), .slice pl nl cl] w (Ret (Is (.int .i64 0)) w) := by
 have hS := Sep.init w
 refine went Tryd.func32 rfl (n := 20) rfl rfl ?_
 refine wseq (wreg (wl rfl (oassign (v := .int .i64 0) rfl rfl evc ?_)))
 refine wnil (thenN (wseq (wseq (wreg (wl rfl (omove (v := .int .u32 (p : Int)) rfl rfl (ev rfl rfl) ?_))))))
 refine wl rfl (ocall rfl rfl Tryd.call56 rfl (wsis (b := true) hp2 ⟨fun _ => hp, fun _ => rfl⟩) (args1 (ev rfl rfl)) ?_)
 rintro _ w1 ⟨_, _, rfl, ⟨rfl, rfl⟩, hN⟩
 refine ⟨_, rfl, ?_⟩
 replace hS := hS.news hN; clear hN
 refine wl rfl (onot (b := true) rfl rfl (ev rfl rfl) ?_)
 refine wnil (thenN ?_)
 refine wF (ev rfl rfl) ?_
 refine wskip (thenN (wseq (wseq (wreg (wl rfl (omove (v := .slice pl nl cl) rfl rfl (ev rfl rfl) ?_))))))
 refine wl rfl (olen rfl rfl rfl Tryd.runUnderlying81 (p := pl) (k := nl) (m := cl) (ev rfl rfl) ?_)
 refine wl rfl (omove (v := .int .i64 0) rfl rfl evc ?_)
 refine wnil (thenN (wblock ?_))
 refine wloop (σ := Nat) (fun i a9 w' => ∃ (fb : Nat → Value), a9 = act 20 (sets fb [(10, .slice pl nl cl), (11, .int .i64 (nl : Int)), (12, .int .i64 (i : Int))]) ∧ Sep w [] w' ∧ (i ≤ nl)) (fun i => nl - i) (0) ⟨_, act_sets (l := [(10, .slice pl nl cl), (11, .int .i64 (nl : Int)), (12, .int .i64 0)]) ⟨rfl, rfl, rfl, trivial⟩, hS, Nat.zero_le _⟩ ?_
 clear hS; rintro i _ w2 ⟨fb, rfl, hS, hi⟩
 refine wseq (wreg ?_)
 by_cases hlt : i < nl
 ·
  have hnl := hL.1
  obtain ⟨M, hM⟩ : ∃ M, Ms[i]? = some M := ⟨_, List.getElem?_eq_getElem (by omega)⟩
  obtain ⟨b, off, pq, cq, hpx, hcx, hms⟩ := hL.2 i M hM
  refine wl rfl (obin (u := .int .i64 (i : Int)) (v := .int .i64 (nl : Int)) (z := .bool true) rfl rfl (ev rfl rfl) (ev rfl rfl) (bin_lss (decide_eq_true (by omega))) ?_)
  refine wnil (thenN (wseq ?_))
  refine wT (ev rfl rfl) ?_
  refine wskip (thenN (wseq (wblock (wseq (wreg ?_)))))
  have hrM := hr M (List.mem_of_getElem? hM)
  refine wl rfl (oindex (p := pl) (g := b) (off := off) (m := nl) (k := i) (j := (off + i * 1)) rfl rfl Tryd.runUnderlying81 Tryd.sizeOf26 (ev rfl rfl) (hpx) (ev rfl rfl) ((show i < nl by omega)) rfl ?_)
  refine wl rfl (oloadc (v := .slice pq M.length cq) (show One Tryd.prog 26 from ⟨Tryd.isAgg26, Tryd.sizeOf26⟩) rfl rfl (ev (v := .pointer (some ⟨b, (off + i * 1), none⟩)) rfl rfl) (hS.cellAt (hcx 0 _ rfl)) ?_)
  refine wl rfl (oassign (v := .slice pq M.length cq) rfl rfl (ev rfl rfl) ?_)
  refine wnil (thenN (wseq (wreg (wl rfl (omove (v := .slice pq M.length cq) rfl rfl (ev rfl rfl) ?_)))))
  refine wl rfl (ocall rfl rfl Tryd.call57 rfl (wrmay (hms.at hS) (hrM)) (args1 (ev rfl rfl)) ?_)
  rintro _ w3 ⟨_, _, rfl, ⟨rfl, rfl⟩, hN⟩
  refine ⟨_, rfl, ?_⟩
  replace hS := hS.news hN; clear hN
  refine wl rfl (onot (b := true) rfl rfl (ev rfl rfl) ?_)
  refine wnil (thenN ?_)
  refine wF (ev rfl rfl) ?_
  refine wskip (blkN (thenN (wreg (wl rfl (obin (u := .int .i64 (i : Int)) (v := .int .i64 1) (z := .int .i64 (((i + 1 : Nat) : Int))) rfl rfl (ev rfl rfl) evc (bin_add (wrap_i64 (by omega) (by omega))) ?_)))))
  refine wl rfl (omove (v := .int .i64 (((i + 1 : Nat) : Int))) rfl rfl (ev rfl rfl) ?_)
  refine wnil (thenN ?_)
  exact ⟨(i + 1), ⟨_, act_sets (l := [(10, .slice pl nl cl), (11, .int .i64 (nl : Int)), (12, .int .i64 (((i + 1 : Nat) : Int)))]) ⟨rfl, rfl, rfl, trivial⟩, hS.pick [] (by decide) rfl, by omega⟩, by omega⟩
 ·
  refine wl rfl (obin (u := .int .i64 (i : Int)) (v := .int .i64 (nl : Int)) (z := .bool false) rfl rfl (ev rfl rfl) (ev rfl rfl) (bin_lss (decide_eq_false (by omega))) ?_)
  refine wnil (thenN (wseq ?_))
  refine wF (ev rfl rfl) ?_
  refine wexit ?_
  refine thenE ?_
  refine thenE ?_
  refine blkE ?_
  refine thenN (wseq (wreg (wl rfl (oassign (v := .int .i64 0) rfl rfl evc ?_))))
  refine wnil (thenN ?_)
  refine wleave ?_
  refine wret1 Tryd.results32 (tellT (v := .int .i64 0) rfl rfl) ?_
  exact ⟨_, _, rfl, isI, hS.new0⟩
theorem wlsquare40 {pm : Option Addr} {nm cm p : Nat} {M : List (List Nat)} {w : World} (hm : MS w pm nm M) (hp2 : p < 4294967296) (hp : ¬ MR.Pr p) :
  Calls Tryd.prog 14 #[.int .u32 ((p : Nat) : Int), .slice pm nm cm] w (Ret (Is (.int .i64 40)) w) := by
 have hS := Sep.init w
 refine went Tryd.func14 rfl (n := 18) rfl rfl ?_
 refine wseq (wreg (wl rfl (oassign (v := .int .i64 0) rfl rfl evc ?_)))
 refine wnil (thenN (wseq (wreg (wl rfl (omove (v := .int .u32 (p : Int)) rfl rfl (ev rfl rfl) ?_)))))
 refine wl rfl (omove (v := .slice pm nm cm) rfl rfl (ev rfl rfl) ?_)
 refine wl rfl (obslice (ps := #[(0, .slice pm nm cm)]) (z := .slice none 0 0) [.slice pm nm cm] hS rfl rfl Tryd.runUnderlying81 Tryd.sizeOf26 Tryd.zeroValue26 (parts1 (ev (v := .slice pm nm cm) rfl rfl)) rfl (by decide) (fill1_1s rfl rfl) ?_)
 clear hS; intro g1 w2 hS
 refine wl rfl (ocall rfl rfl Tryd.call32 rfl (wlfaults40 (LMS.one (hS.blkAt 0 rfl) (hm.at hS)) hp2 (by omega) (hp)) (args2 (ev rfl rfl) (ev rfl rfl)) ?_)
 rintro _ w3 ⟨_, _, rfl, ⟨rfl, rfl⟩, hN⟩
 refine ⟨_, rfl, ?_⟩
 replace hS := hS.news hN; clear hN
 refine wl rfl (oassign (v := .int .i64 40) rfl rfl (ev rfl rfl) ?_)
 refine wnil (thenN (wseq (wseq (wreg (wl rfl (omove (v := .int .i64 40) rfl rfl (ev rfl rfl) ?_))))))
 refine wl rfl (obin (u := .int .i64 40) (v := .int .i64 0) (z := .bool false) rfl rfl (ev rfl rfl) evc (bin_eql (by decide)) ?_)
 refine wl rfl (omove (v := .bool false) rfl rfl (ev rfl rfl) ?_)
 refine wlOff (e := 12) (d := 13) (b' := false) rfl rfl rfl rfl rfl rfl ?_
 refine wlOff (e := 12) (d := 14) (b' := false) rfl rfl rfl rfl rfl rfl ?_
 refine wlOff (e := 12) (d := 15) (b' := false) rfl rfl rfl rfl rfl rfl ?_
 refine wl rfl (opick (b := false) (v := .bool false) rfl rfl (ev rfl rfl) evc ?_)
 refine wnil (thenN ?_)
 refine wF (ev rfl rfl) ?_
 refine wskip (thenN (wseq (wreg (wl rfl (omove (v := .int .i64 40) rfl rfl (ev rfl rfl) ?_)))))
 refine wl rfl (oassign (v := .int .i64 40) rfl rfl (ev rfl rfl) ?_)
 refine wnil (thenN ?_)
 refine wleave ?_
 refine wret1 Tryd.results14 (tellT (v := .int .i64 40) rfl rfl) ?_
 exact ⟨_, _, rfl, isI, hS.new0⟩
theorem wlsquare2 {pm : Option Addr} {nm cm p : Nat} {M : List (List Nat)} {w : World} (hm : MS w pm nm M) (hp2 : p < 4294967296) (hp : MR.Pr p) (hr : ¬ RectM M) :
  Calls Tryd.prog 14 #[.int .u32 ((p : Nat) : Int), .slice pm nm cm] w (Ret (Is (.int .i64 2)) w) := by
 have hS := Sep.init w
 refine went Tryd.func14 rfl (n := 18) rfl rfl ?_
 refine wseq (wreg (wl rfl (oassign (v := .int .i64 0) rfl rfl evc ?_)))
 refine wnil (thenN (wseq (wreg (wl rfl (omove (v := .int .u32 (p : Int)) rfl rfl (ev rfl rfl) ?_)))))
 refine wl rfl (omove (v := .slice pm nm cm) rfl rfl (ev rfl rfl) ?_)
 refine wl rfl (obslice (ps := #[(0, .slice pm nm cm)]) (z := .slice none 0 0) [.slice pm nm cm] hS rfl rfl Tryd.runUnderlying81 Tryd.sizeOf26 Tryd.zeroValue26 (parts1 (ev (v := .slice pm nm cm) rfl rfl)) rfl (by decide) (fill1_1s rfl rfl) ?_)
 clear hS; intro g1 w2 hS
 refine wl rfl (ocall rfl rfl Tryd.call32 rfl (wlfaults2 (LMS.one (hS.blkAt 0 rfl) (hm.at hS)) hp2 (by omega) (hp) (fun h => hr (h M (by simp)))) (args2 (ev rfl rfl) (ev rfl rfl)) ?_)
 rintro _ w3 ⟨_, _, rfl, ⟨rfl, rfl⟩, hN⟩
 refine ⟨_, rfl, ?_⟩
 replace hS := hS.news hN; clear hN
 refine wl rfl (oassign (v := .int .i64 2) rfl rfl (ev rfl rfl) ?_)
 refine wnil (thenN (wseq (wseq (wreg (wl rfl (omove (v := .int .i64 2) rfl rfl (ev rfl rfl) ?_))))))
 refine wl rfl (obin (u := .int .i64 2) (v := .int .i64 0) (z := .bool false) rfl rfl (ev rfl rfl) evc (bin_eql (by decide)) ?_)
 refine wl rfl (omove (v := .bool false) rfl rfl (ev rfl rfl) ?_)
 refine wlOff (e := 12) (d := 13) (b' := false) rfl rfl rfl rfl rfl rfl ?_
 refine wlOff (e := 12) (d := 14) (b' := false) rfl rfl rfl rfl rfl rfl ?_
 refine wlOff (e := 12) (d := 15) (b' := false) rfl rfl rfl rfl rfl rfl ?_
 refine wl rfl (opick (b := false) (v := .bool false) rfl rfl (ev rfl rfl) evc ?_)
 refine wnil (thenN ?_)
 refine wF (ev rfl rfl) ?_
 refine wskip (thenN (wseq (wreg (wl rfl (omove (v := .int .i64 2) rfl rfl (ev rfl rfl) ?_)))))
 refine wl rfl (oassign (v := .int .i64 2) rfl rfl (ev rfl rfl) ?_)
 refine wnil (thenN ?_)
 refine wleave ?_
 refine wret1 Tryd.results14 (tellT (v := .int .i64 2) rfl rfl) ?_
 exact ⟨_, _, rfl, isI, hS.new0⟩
theorem wlsquare3 {pm : Option Addr} {nm cm p : Nat} {M : List (List Nat)} {w : World} (hm : MS w pm nm M) (hp2 : p < 4294967296) (hp : MR.Pr p) (hr : RectM M) (hq : ¬ (M.length ≠ 0 ∧ M.length = colsM M)) :
  Calls Tryd.prog 14 #[.int .u32 ((p : Nat) : Int), .slice pm nm cm] w (Ret (Is (.int .i64 3)) w) := by
 have hS := Sep.init w
 refine went Tryd.func14 rfl (n := 18) rfl rfl ?_
 refine wseq (wreg (wl rfl (oassign (v := .int .i64 0) rfl rfl evc ?_)))
 refine wnil (thenN (wseq (wreg (wl rfl (omove (v := .int .u32 (p : Int)) rfl rfl (ev rfl rfl) ?_)))))
 refine wl rfl (omove (v := .slice pm nm cm) rfl rfl (ev rfl rfl) ?_)
 refine wl rfl (obslice (ps := #[(0, .slice pm nm cm)]) (z := .slice none 0 0) [.slice pm nm cm] hS rfl rfl Tryd.runUnderlying81 Tryd.sizeOf26 Tryd.zeroValue26 (parts1 (ev (v := .slice pm nm cm) rfl rfl)) rfl (by decide) (fill1_1s rfl rfl) ?_)
 clear hS; intro g1 w2 hS
 refine wl rfl (ocall rfl rfl Tryd.call32 rfl (wlfaults0 (LMS.one (hS.blkAt 0 rfl) (hm.at hS)) hp2 (by omega) (hp) (fun N h => by rw [List.mem_singleton.1 h]; exact hr)) (args2 (ev rfl rfl) (ev rfl rfl)) ?_)
 rintro _ w3 ⟨_, _, rfl, ⟨rfl, rfl⟩, hN⟩
 refine ⟨_, rfl, ?_⟩
 replace hS := hS.news hN; clear hN
 refine wl rfl (oassign (v := .int .i64 0) rfl rfl (ev rfl rfl) ?_)
 refine wnil (thenN (wseq (wseq (wreg (wl rfl (omove (v := .int .i64 0) rfl rfl (ev rfl rfl) ?_))))))
 refine wl rfl (obin (u := .int .i64 0) (v := .int .i64 0) (z := .bool true) rfl rfl (ev rfl rfl) evc (bin_eql (by decide)) ?_)
 refine wl rfl (omove (v := .bool true) rfl rfl (ev rfl rfl) ?_)
 refine wlOn (e := 12) rfl rfl rfl rfl (omove (v := .slice pm nm cm) rfl rfl (ev rfl rfl) ?_)
 refine wlOn (e := 12) rfl rfl rfl rfl (ocall rfl rfl Tryd.call44 rfl (wrsquareF (hm.at hS) (hq)) (args1 (ev rfl rfl)) ?_)
 rintro _ w4 ⟨_, _, rfl, ⟨rfl, rfl⟩, hN⟩
 refine ⟨_, rfl, ?_⟩
 replace hS := hS.news hN; clear hN
 refine wlOn (e := 12) rfl rfl rfl rfl (onot (b := false) rfl rfl (ev rfl rfl) ?_)
 refine wl rfl (opick (b := true) (v := .bool true) rfl rfl (ev rfl rfl) (ev rfl rfl) ?_)
 refine wnil (thenN ?_)
 refine wT (ev rfl rfl) ?_
 refine wseq (wreg (wl rfl (oassign (v := .int .i64 3) rfl rfl evc ?_)))
 refine wnil (thenN ?_)
 refine wleave ?_
 refine thenR ?_
 refine wret1 Tryd.results14 (tellT (v := .int .i64 3) rfl rfl) ?_
 exact ⟨_, _, rfl, isI, hS.new0⟩
theorem wlsquare0 {pm : Option Addr} {nm cm p : Nat} {M : List (List Nat)} {w : World} (hm : MS w pm nm M) (hp2 : p < 4294967296) (hp : MR.Pr p) (hr : RectM M) (h0 : M.length ≠ 0) (hq : M.length = colsM M) :
  Calls Tryd.prog 14 #[.int .u32 ((p : Nat) : Int), .slice pm nm cm] w (Ret (Is (.int .i64 0)) w) := by
 have hS := Sep.init w
 refine went Tryd.func14 rfl (n := 18) rfl rfl ?_
 refine wseq (wreg (wl rfl (oassign (v := .int .i64 0) rfl rfl evc ?_)))
 refine wnil (thenN (wseq (wreg (wl rfl (omove (v := .int .u32 (p : Int)) rfl rfl (ev rfl rfl) ?_)))))
 refine wl rfl (omove (v := .slice pm nm cm) rfl rfl (ev rfl rfl) ?_)
 refine wl rfl (obslice (ps := #[(0, .slice pm nm cm)]) (z := .slice none 0 0) [.slice pm nm cm] hS rfl rfl Tryd.runUnderlying81 Tryd.sizeOf26 Tryd.zeroValue26 (parts1 (ev (v := .slice pm nm cm) rfl rfl)) rfl (by decide) (fill1_1s rfl rfl) ?_)
 clear hS; intro g1 w2 hS
 refine wl rfl (ocall rfl rfl Tryd.call32 rfl (wlfaults0 (LMS.one (hS.blkAt 0 rfl) (hm.at hS)) hp2 (by omega) (hp) (fun N h => by rw [List.mem_singleton.1 h]; exact hr)) (args2 (ev rfl rfl) (ev rfl rfl)) ?_)
 rintro _ w3 ⟨_, _, rfl, ⟨rfl, rfl⟩, hN⟩
 refine ⟨_, rfl, ?_⟩
 replace hS := hS.news hN; clear hN
 refine wl rfl (oassign (v := .int .i64 0) rfl rfl (ev rfl rfl) ?_)
 refine wnil (thenN (wseq (wseq (wreg (wl rfl (omove (v := .int .i64 0) rfl rfl (ev rfl rfl) ?_))))))
 refine wl rfl (obin (u := .int .i64 0) (v := .int .i64 0) (z := .bool true) rfl rfl (ev rfl rfl) evc (bin_eql (by decide)) ?_)
 refine wl rfl (omove (v := .bool true) rfl rfl (ev rfl rfl) ?_)
 refine wlOn (e := 12) rfl rfl rfl rfl (omove (v := .slice pm nm cm) rfl rfl (ev rfl rfl) ?_)
 refine wlOn (e := 12) rfl rfl rfl rfl (ocall rfl rfl Tryd.call44 rfl (wrsquare (hm.at hS) (h0) (hq)) (args1 (ev rfl rfl)) ?_)
 rintro _ w4 ⟨_, _, rfl, ⟨rfl, rfl⟩, hN⟩
 refine ⟨_, rfl, ?_⟩
 replace hS := hS.news hN; clear hN
 refine wlOn (e := 12) rfl rfl rfl rfl (onot (b := true) rfl rfl (ev rfl rfl) ?_)
 refine wl rfl (opick (b := true) (v := .bool false) rfl rfl (ev rfl rfl) (ev rfl rfl) ?_)
 refine wnil (thenN ?_)
 refine wF (ev rfl rfl) ?_
 refine wskip (thenN (wseq (wreg (wl rfl (omove (v := .int .i64 0) rfl rfl (ev rfl rfl) ?_)))))
 refine wl rfl (oassign (v := .int .i64 0) rfl rfl (ev rfl rfl) ?_)
 refine wnil (thenN ?_)
 refine wleave ?_
 refine wret1 Tryd.results14 (tellT (v := .int .i64 0) rfl rfl) ?_
 exact ⟨_, _, rfl, isI, hS.new0⟩
theorem wltoldE {ca nw cw : Nat} {pw : Option Addr} {e : Int} {w : World} (he : e ≠ 0) :
  Calls Tryd.prog 15 #[.slice none 0 ca, .int .i64 e, .slice pw nw cw, .int .i64 e] w (Ret (Is (.bool true)) w) := by
 have hS := Sep.init w
 refine went Tryd.func15 rfl (n := 28) rfl rfl ?_
 refine wseq (wreg (wl rfl (oassign (v := .bool false) rfl rfl evc ?_)))
 refine wnil (thenN (wseq (wseq (wreg (wl rfl (omove (v := .int .i64 e) rfl rfl (ev rfl rfl) ?_))))))
 refine wl rfl (obin (u := .int .i64 e) (v := .int .i64 0) (z := .bool true) rfl rfl (ev rfl rfl) evc (bin_neq (neT he)) ?_)
 refine wnil (thenN ?_)
 refine wT (ev rfl rfl) ?_
 refine wseq (wreg (wl rfl (omove (v := .int .i64 e) rfl rfl (ev rfl rfl) ?_)))
 refine wl rfl (ocall rfl rfl Tryd.call11 rfl (wxnum) (args1 (ev rfl rfl)) ?_)
 rintro _ w1 ⟨_, _, rfl, ⟨rfl, rfl⟩, hN⟩
 refine ⟨_, rfl, ?_⟩
 replace hS := hS.news hN; clear hN
 refine wl rfl (omove (v := .int .i64 e) rfl rfl (ev rfl rfl) ?_)
 refine wl rfl (obin (u := .int .i64 e) (v := .int .i64 e) (z := .bool true) rfl rfl (ev rfl rfl) (ev rfl rfl) (bin_eql (eqT rfl)) ?_)
 refine wl rfl (omove (v := .bool true) rfl rfl (ev rfl rfl) ?_)
 refine wlOn (e := 15) rfl rfl rfl rfl (omove (v := .slice none 0 ca) rfl rfl (ev rfl rfl) ?_)
 refine wlOn (e := 15) rfl rfl rfl rfl (olen rfl rfl rfl Tryd.runUnderlying26 (p := none) (k := 0) (m := ca) (ev rfl rfl) ?_)
 refine wlOn (e := 15) rfl rfl rfl rfl (obin (u := .int .i64 (((0 : Nat) : Int))) (v := .int .i64 0) (z := .bool true) rfl rfl (ev rfl rfl) evc (bin_eql (eqT rfl)) ?_)
 refine wl rfl (opick (b := true) (v := .bool true) rfl rfl (ev rfl rfl) (ev rfl rfl) ?_)
 refine wl rfl (oassign (v := .bool true) rfl rfl (ev rfl rfl) ?_)
 refine wnil (thenN ?_)
 refine wleave ?_
 refine thenR ?_
 refine wret1 Tryd.results15 (tellT (v := .bool true) rfl rfl) ?_
 exact ⟨_, _, rfl, isI, hS.new0⟩
theorem wltold {pa pw : Option Addr} {na ca nw cw : Nat} {M : List (List Nat)} {w : World} (hA : MS w pa na M) (hB : MS w pw nw M) (hs : SmallM M) :
  Calls Tryd.prog 15 #[.slice pa na ca, .int .i64 0, .slice pw nw cw, .int .i64 0] w (Ret (Is (.bool true)) w) := by
 have hS := Sep.init w
 refine went Tryd.func15 rfl (n := 28) rfl rfl ?_
 refine wseq (wreg (wl rfl (oassign (v := .bool false) rfl rfl evc ?_)))
 refine wnil (thenN (wseq (wseq (wreg (wl rfl (omove (v := .int .i64 0) rfl rfl (ev rfl rfl) ?_))))))
 refine wl rfl (obin (u := .int .i64 0) (v := .int .i64 0) (z := .bool false) rfl rfl (ev rfl rfl) evc (bin_neq (by decide)) ?_)
 refine wnil (thenN ?_)
 refine wF (ev rfl rfl) ?_
 refine wskip (thenN (wseq (wreg (wl rfl (omove (v := .int .i64 0) rfl rfl (ev rfl rfl) ?_)))))
 refine wl rfl (ocall rfl rfl Tryd.call11 rfl (wxnum) (args1 (ev rfl rfl)) ?_)
 rintro _ w1 ⟨_, _, rfl, ⟨rfl, rfl⟩, hN⟩
 refine ⟨_, rfl, ?_⟩
 replace hS := hS.news hN; clear hN
 refine wl rfl (obin (u := .int .i64 0) (v := .int .i64 0) (z := .bool true) rfl rfl (ev rfl rfl) evc (bin_eql (by decide)) ?_)
 refine wl rfl (omove (v := .bool true) rfl rfl (ev rfl rfl) ?_)
 refine wlOn (e := 23) rfl rfl rfl rfl (omove (v := .slice pa na ca) rfl rfl (ev rfl rfl) ?_)
 refine wlOn (e := 23) rfl rfl rfl rfl (omove (v := .slice pw nw cw) rfl rfl (ev rfl rfl) ?_)
 refine wlOn (e := 23) rfl rfl rfl rfl (ocall rfl rfl Tryd.call18 rfl (wxsameL (hA.at hS) (hB.at hS) (hs)) (args2 (ev rfl rfl) (ev rfl rfl)) ?_)
 rintro _ w2 ⟨_, _, rfl, ⟨rfl, rfl⟩, hN⟩
 refine ⟨_, rfl, ?_⟩
 replace hS := hS.news hN; clear hN
 refine wl rfl (opick (b := true) (v := .bool true) rfl rfl (ev rfl rfl) (ev rfl rfl) ?_)
 refine wl rfl (oassign (v := .bool true) rfl rfl (ev rfl rfl) ?_)
 refine wnil (thenN ?_)
 refine wleave ?_
 refine wret1 Tryd.results15 (tellT (v := .bool true) rfl rfl) ?_
 exact ⟨_, _, rfl, isI, hS.new0⟩
end Go.Proofs.YtndilfigdbenoaaDoor
/-
  modmat's times, Mul.
-/
namespace Go.Proofs.YtndilfigdbenoaaDoor
open Go.RowKit
def dotp (p : Nat) (F : Nat → Nat) : Nat → Nat
  | 0 => 0
  | n + 1 => (dotp p F n + F n % p) % p
theorem dotp_lt {p : Nat} {F : Nat → Nat} (hp : 0 < p) : ∀ n, dotp p F n < p
  | 0 => hp
  | _ + 1 => Nat.mod_lt _ hp
def mulE (p : Nat) (A B : List (List Nat)) (C : Nat) (i k : Nat) : Nat := dotp p (fun j => nd (A.getD i []) j * nd (B.getD j []) k) C
def mulM (p : Nat) (A B : List (List Nat)) (C D : Nat) : List (List Nat) := mkM A.length D (mulE p A B C)
theorem wxtimes1 {w : World} {gx gy p i k nX cX nY cY C D : Nat} {tx ty : TypeId} {pX pY : Option Addr} {A B : List (List Nat)} (hbx : w.heap[gx]? = some (.cells [.int .u64 ((p : Nat) : Int), .slice pX nX cX, .int .i64 ((C : Nat) : Int)].toArray tx)) (hby : w.heap[gy]? = some (.cells [.int .u64 ((p : Nat) : Int), .slice pY nY cY, .int .i64 ((D : Nat) : Int)].toArray ty)) (hX : MS w pX nX A) (hY : MS w pY nY B) (hA : Shp p C A) (hB : Shp p D B) (hn : nY = C) (hC2 : C ≤ 2097152) (hD2 : D ≤ 2097152) (hp0 : 0 < p) (hp2 : p < 4294967296) (hi : i < nX) (hk : k < D) :
  Calls Tryd.prog 67 #[.int .i64 ((i : Nat) : Int), .int .i64 ((k : Nat) : Int), .pointer (some ⟨gx, 0, none⟩), .pointer (some ⟨gy, 0, none⟩)] w (Ret (Is (.int .u32 ((mulE p A B C i k : Nat) : Int))) w) := by
 have hXl := hX.1
 have hYl := hY.1
 have hS := Sep.init w
 refine went Tryd.func67 rfl (n := 37) rfl rfl ?_
 refine wseq (wreg (wl rfl (oassign (v := .int .u32 0) rfl rfl evc ?_)))
 refine wnil (thenN (wseq (wreg (wl rfl (oassign (v := .int .u32 0) rfl rfl evc ?_)))))
 refine wnil (thenN (wseq (wseq (wreg (wl rfl (ofieldAddr (g := gx) (off := 0) (0 + 2) rfl rfl (ev rfl rfl) Tryd.runUnderlying63 rfl Tryd.sizeOf3 rfl ?_))))))
 refine wl rfl (oloadc (v := .int .i64 (C : Int)) oneI rfl rfl (ev (v := .pointer (some ⟨gx, (0 + 2), none⟩)) rfl rfl) (hS.cellAt ((cell_sub (us := [.int .i64 (C : Int)]) (box_cells hbx) 2 rfl) 0 _ rfl)) ?_)
 refine wl rfl (omove (v := .int .i64 0) rfl rfl evc ?_)
 refine wnil (thenN (wblock ?_))
 refine wloop (σ := Nat) (fun j a9 w' => ∃ (fb : Nat → Value) (acc : Nat), a9 = act 37 (sets fb [(0, .int .i64 (i : Int)), (1, .int .i64 (k : Int)), (2, .pointer (some ⟨gx, 0, none⟩)), (3, .pointer (some ⟨gy, 0, none⟩)), (6, .int .u32 0), (7, .int .u32 (acc : Int)), (10, .int .i64 (C : Int)), (11, .int .i64 (j : Int))]) ∧ Sep w [] w' ∧ (j ≤ C) ∧ (acc = dotp p (fun j => nd (A.getD i []) j * nd (B.getD j []) k) j) ∧ (acc < p)) (fun j => C - j) (0) ⟨_, 0, act_sets (l := [(0, .int .i64 (i : Int)), (1, .int .i64 (k : Int)), (2, .pointer (some ⟨gx, 0, none⟩)), (3, .pointer (some ⟨gy, 0, none⟩)), (6, .int .u32 0), (7, .int .u32 0), (10, .int .i64 (C : Int)), (11, .int .i64 0)]) ⟨rfl, rfl, rfl, rfl, rfl, rfl, rfl, rfl, trivial⟩, hS, Nat.zero_le _, rfl, hp0⟩ ?_
 clear hS; rintro j _ w1 ⟨fb, acc, rfl, hS, hj, hacc, hlt⟩
 refine wseq (wreg ?_)
 by_cases hjl : j < C
 ·
  refine wl rfl (obin (u := .int .i64 (j : Int)) (v := .int .i64 (C : Int)) (z := .bool true) rfl rfl (ev rfl rfl) (ev rfl rfl) (bin_lss (decide_eq_true (by omega))) ?_)
  refine wnil (thenN (wseq ?_))
  refine wT (ev rfl rfl) ?_
  refine wskip (thenN (wseq (wblock (wseq (wreg (wl rfl (omove (v := .int .i64 (j : Int)) rfl rfl (ev rfl rfl) ?_)))))))
  refine wl rfl (oassign (v := .int .i64 (j : Int)) rfl rfl (ev rfl rfl) ?_)
  refine wnil (thenN ?_)
  obtain ⟨xa, hxa⟩ : ∃ r, (A)[i]? = some r := ⟨_, List.getElem?_eq_getElem (by have := hX.1; omega)⟩
  obtain ⟨ba, ofa, pa, ca, hpa, hca, hsa⟩ := hX.2.2 i _ hxa
  obtain ⟨xb, hxb⟩ : ∃ r, (B)[j]? = some r := ⟨_, List.getElem?_eq_getElem (by have := hY.1; omega)⟩
  obtain ⟨bb, ofb, pb, cb, hpb, hcb, hsb⟩ := hY.2.2 j _ hxb
  have hna := (hA.get hxa).1
  have hnb := (hB.get hxb).1
  have hla := nd_lt (k := j) (hA.get hxa).2 hp0
  have hlb := nd_lt (k := k) (hB.get hxb).2 hp0
  have hm9 := mod_lt32 (a := nd xa j * nd xb k) hp0 hp2
  obtain ⟨bce, oce, hpce, hcce⟩ := hsa.el (show j < xa.length by omega)
  obtain ⟨bcf, ocf, hpcf, hccf⟩ := hsb.el (show k < xb.length by omega)
  refine wstage 21 [14, 15, 16, 17, 18, 19, 20, 21, 22, 23, 24, 25, 26, 27, 28, 29, 30, 31, 32, 33, 34] [[], [], [], [], [3], [], [4, 5, 3], [6, 3, 4, 5], [], [7, 8, 3, 4, 5, 6], [9, 3, 4, 5, 6, 7, 8], [], [11], [], [12, 13, 11], [14, 11, 12, 13], [], [15, 16, 11, 12, 13, 14], [17, 11, 12, 13, 14, 15, 16], [2, 10, 18, 3, 4, 5, 6, 7, 8, 9, 11, 12, 13, 14, 15, 16, 17], [0, 1, 19, 2, 3, 4, 5, 6, 7, 8, 9, 10, 11, 12, 13, 14, 15, 16, 17, 18]] [[], [], [], [], [], [], [], [], [], [], [], [], [], [], [], [], [], [], [], [], []] [] [] (fun i9 => ([fun _ => Is (.agg #[.int .u64 (p : Int), .slice pX nX cX, .int .i64 (C : Int)]), fun _ => Is (.int .u32 (acc : Int)), fun _ => Is (.agg #[.int .u64 (p : Int), .slice pX nX cX, .int .i64 (C : Int)]), fun _ => Is (.pointer (some ⟨gx, (0 + 1), none⟩)), fun _ => Is (.slice pX nX cX), fun _ => Is (.int .i64 (i : Int)), fun _ => Is (.pointer (some ⟨ba, (ofa + i * 1), none⟩)), fun _ => Is (.slice pa xa.length ca), fun _ => Is (.int .i64 (j : Int)), fun _ => Is (.pointer (some ⟨bce, (oce + j * 1), none⟩)), fun _ => Is (.int .u32 (((nd xa j : Nat) : Int))), fun _ => Is (.pointer (some ⟨gy, (0 + 1), none⟩)), fun _ => Is (.slice pY nY cY), fun _ => Is (.int .i64 (j : Int)), fun _ => Is (.pointer (some ⟨bb, (ofb + j * 1), none⟩)), fun _ => Is (.slice pb xb.length cb), fun _ => Is (.int .i64 (k : Int)), fun _ => Is (.pointer (some ⟨bcf, (ocf + k * 1), none⟩)), fun _ => Is (.int .u32 (((nd xb k : Nat) : Int))), fun _ => Is (.int .u32 ((((nd xa j) * (nd xb k) % p : Nat) : Int))), fun _ => Is (.int .u32 ((((acc + ((nd xa j) * (nd xb k) % p)) % p : Nat) : Int)))] : List (List Value → Tell)).getD i9 (fun _ _ _ => False)) (heldNil) (fun d _ _ _ _ h => (by cases d <;> exact h)) (by kernel_rfl) (by kernel_rfl) (by kernel_rfl) hS ?_ ?_
  ·
   refine stepsCons rfl (fun Q f' w' ρ S ho hT hS hB => ?_) ?_
   ·exact .inl ⟨want_none rfl, oloadA (vs := [.int .u64 (p : Int), .slice pX nX cX, .int .i64 (C : Int)]) (show Agg Tryd.prog 63 3 from ⟨Tryd.isAgg63, Tryd.sizeOf63⟩) rfl rfl (ev (v := .pointer (some ⟨gx, 0, none⟩)) rfl (ho 2 rfl)) (fun j v hj => hS.cellAt ((box_cells hbx) j v hj)) rfl ⟨_, _, rfl, isI, New.same _⟩⟩
   refine stepsCons rfl (fun Q f' w' ρ S ho hT hS hB => ?_) ?_
   ·exact .inl ⟨want_none rfl, omove (v := .int .u32 (acc : Int)) rfl rfl (ev rfl (ho 7 rfl)) ⟨_, _, rfl, isI, New.same _⟩⟩
   refine stepsCons rfl (fun Q f' w' ρ S ho hT hS hB => ?_) ?_
   ·exact .inl ⟨want_none rfl, oloadA (vs := [.int .u64 (p : Int), .slice pX nX cX, .int .i64 (C : Int)]) (show Agg Tryd.prog 63 3 from ⟨Tryd.isAgg63, Tryd.sizeOf63⟩) rfl rfl (ev (v := .pointer (some ⟨gx, 0, none⟩)) rfl (ho 2 rfl)) (fun j v hj => hS.cellAt ((box_cells hbx) j v hj)) rfl ⟨_, _, rfl, isI, New.same _⟩⟩
   refine stepsCons rfl (fun Q f' w' ρ S ho hT hS hB => ?_) ?_
   ·exact .inl ⟨want_none rfl, ofieldAddr (g := gx) (off := 0) (0 + 1) rfl rfl (ev rfl (ho 2 rfl)) Tryd.runUnderlying63 rfl Tryd.sizeOf25 rfl ⟨_, _, rfl, isI, New.same _⟩⟩
   refine stepsCons rfl (fun Q f' w' ρ S ho hT hS hB => ?_) ?_
   ·obtain ⟨hv3, hr3⟩ := (hT 3 17 rfl rfl : (Is (.pointer (some ⟨gx, (0 + 1), none⟩))) _ _)
    obtain hS := hS.flat1 hr3
    exact .inl ⟨want_none rfl, oloadc (v := .slice pX nX cX) (show One Tryd.prog 25 from ⟨Tryd.isAgg25, Tryd.sizeOf25⟩) rfl rfl (ev (v := .pointer (some ⟨gx, (0 + 1), none⟩)) rfl hv3) (hS.cellAt ((cell_sub (us := [.slice pX nX cX]) (box_cells hbx) 1 rfl) 0 _ rfl)) ⟨_, _, rfl, isI, New.same _⟩⟩
   refine stepsCons rfl (fun Q f' w' ρ S ho hT hS hB => ?_) ?_
   ·exact .inl ⟨want_none rfl, omove (v := .int .i64 (i : Int)) rfl rfl (ev rfl (ho 0 rfl)) ⟨_, _, rfl, isI, New.same _⟩⟩
   refine stepsCons rfl (fun Q f' w' ρ S ho hT hS hB => ?_) ?_
   ·obtain ⟨hv4, hr4⟩ := (hT 4 18 rfl rfl : (Is (.slice pX nX cX)) _ _)
    obtain ⟨hv5, hr5⟩ := (hT 5 19 rfl rfl : (Is (.int .i64 (((i : Nat) : Int)))) _ _)
    obtain hS := hS.flat2 hr4 hr5
    exact .inl ⟨want_none rfl, oindex (p := pX) (g := ba) (off := ofa) (m := nX) (k := i) (j := (ofa + i * 1)) rfl rfl Tryd.runUnderlying25 Tryd.sizeOf52 (ev rfl hv4) (hpa) (ev rfl hv5) (by omega) rfl ⟨_, _, rfl, isI, New.same _⟩⟩
   refine stepsCons rfl (fun Q f' w' ρ S ho hT hS hB => ?_) ?_
   ·obtain ⟨hv6, hr6⟩ := (hT 6 20 rfl rfl : (Is (.pointer (some ⟨ba, (ofa + i * 1), none⟩))) _ _)
    obtain hS := hS.flat1 hr6
    exact .inl ⟨want_none rfl, oloadc (v := .slice pa xa.length ca) (show One Tryd.prog 52 from ⟨Tryd.isAgg52, Tryd.sizeOf52⟩) rfl rfl (ev (v := .pointer (some ⟨ba, (ofa + i * 1), none⟩)) rfl hv6) (hS.cellAt (hca 0 _ rfl)) ⟨_, _, rfl, isI, New.same _⟩⟩
   refine stepsCons rfl (fun Q f' w' ρ S ho hT hS hB => ?_) ?_
   ·exact .inl ⟨want_none rfl, omove (v := .int .i64 (j : Int)) rfl rfl (ev rfl (ho 8 rfl)) ⟨_, _, rfl, isI, New.same _⟩⟩
   refine stepsCons rfl (fun Q f' w' ρ S ho hT hS hB => ?_) ?_
   ·obtain ⟨hv7, hr7⟩ := (hT 7 21 rfl rfl : (Is (.slice pa xa.length ca)) _ _)
    obtain ⟨hv8, hr8⟩ := (hT 8 22 rfl rfl : (Is (.int .i64 (((j : Nat) : Int)))) _ _)
    obtain hS := hS.flat2 hr7 hr8
    exact .inl ⟨want_none rfl, oindex (p := pa) (g := bce) (off := oce) (m := xa.length) (k := j) (j := (oce + j * 1)) rfl rfl Tryd.runUnderlying52 Tryd.sizeOf27 (ev rfl hv7) (hpce) (ev rfl hv8) (by omega) rfl ⟨_, _, rfl, isI, New.same _⟩⟩
   refine stepsCons rfl (fun Q f' w' ρ S ho hT hS hB => ?_) ?_
   ·obtain ⟨hv9, hr9⟩ := (hT 9 23 rfl rfl : (Is (.pointer (some ⟨bce, (oce + j * 1), none⟩))) _ _)
    obtain hS := hS.flat1 hr9
    exact .inl ⟨want_none rfl, oloadc (v := .int .u32 (((nd xa j : Nat) : Int))) one32 rfl rfl (ev (v := .pointer (some ⟨bce, (oce + j * 1), none⟩)) rfl hv9) (hS.cellAt (hcce 0 _ rfl)) ⟨_, _, rfl, isI, New.same _⟩⟩
   refine stepsCons rfl (fun Q f' w' ρ S ho hT hS hB => ?_) ?_
   ·exact .inl ⟨want_none rfl, ofieldAddr (g := gy) (off := 0) (0 + 1) rfl rfl (ev rfl (ho 3 rfl)) Tryd.runUnderlying63 rfl Tryd.sizeOf25 rfl ⟨_, _, rfl, isI, New.same _⟩⟩
   refine stepsCons rfl (fun Q f' w' ρ S ho hT hS hB => ?_) ?_
   ·obtain ⟨hv11, hr11⟩ := (hT 11 25 rfl rfl : (Is (.pointer (some ⟨gy, (0 + 1), none⟩))) _ _)
    obtain hS := hS.flat1 hr11
    exact .inl ⟨want_none rfl, oloadc (v := .slice pY nY cY) (show One Tryd.prog 25 from ⟨Tryd.isAgg25, Tryd.sizeOf25⟩) rfl rfl (ev (v := .pointer (some ⟨gy, (0 + 1), none⟩)) rfl hv11) (hS.cellAt ((cell_sub (us := [.slice pY nY cY]) (box_cells hby) 1 rfl) 0 _ rfl)) ⟨_, _, rfl, isI, New.same _⟩⟩
   refine stepsCons rfl (fun Q f' w' ρ S ho hT hS hB => ?_) ?_
   ·exact .inl ⟨want_none rfl, omove (v := .int .i64 (j : Int)) rfl rfl (ev rfl (ho 8 rfl)) ⟨_, _, rfl, isI, New.same _⟩⟩
   refine stepsCons rfl (fun Q f' w' ρ S ho hT hS hB => ?_) ?_
   ·obtain ⟨hv12, hr12⟩ := (hT 12 26 rfl rfl : (Is (.slice pY nY cY)) _ _)
    obtain ⟨hv13, hr13⟩ := (hT 13 27 rfl rfl : (Is (.int .i64 (((j : Nat) : Int)))) _ _)
    obtain hS := hS.flat2 hr12 hr13
    exact .inl ⟨want_none rfl, oindex (p := pY) (g := bb) (off := ofb) (m := nY) (k := j) (j := (ofb + j * 1)) rfl rfl Tryd.runUnderlying25 Tryd.sizeOf52 (ev rfl hv12) (hpb) (ev rfl hv13) (by omega) rfl ⟨_, _, rfl, isI, New.same _⟩⟩
   refine stepsCons rfl (fun Q f' w' ρ S ho hT hS hB => ?_) ?_
   ·obtain ⟨hv14, hr14⟩ := (hT 14 28 rfl rfl : (Is (.pointer (some ⟨bb, (ofb + j * 1), none⟩))) _ _)
    obtain hS := hS.flat1 hr14
    exact .inl ⟨want_none rfl, oloadc (v := .slice pb xb.length cb) (show One Tryd.prog 52 from ⟨Tryd.isAgg52, Tryd.sizeOf52⟩) rfl rfl (ev (v := .pointer (some ⟨bb, (ofb + j * 1), none⟩)) rfl hv14) (hS.cellAt (hcb 0 _ rfl)) ⟨_, _, rfl, isI, New.same _⟩⟩
   refine stepsCons rfl (fun Q f' w' ρ S ho hT hS hB => ?_) ?_
   ·exact .inl ⟨want_none rfl, omove (v := .int .i64 (k : Int)) rfl rfl (ev rfl (ho 1 rfl)) ⟨_, _, rfl, isI, New.same _⟩⟩
   refine stepsCons rfl (fun Q f' w' ρ S ho hT hS hB => ?_) ?_
   ·obtain ⟨hv15, hr15⟩ := (hT 15 29 rfl rfl : (Is (.slice pb xb.length cb)) _ _)
    obtain ⟨hv16, hr16⟩ := (hT 16 30 rfl rfl : (Is (.int .i64 (((k : Nat) : Int)))) _ _)
    obtain hS := hS.flat2 hr15 hr16
    exact .inl ⟨want_none rfl, oindex (p := pb) (g := bcf) (off := ocf) (m := xb.length) (k := k) (j := (ocf + k * 1)) rfl rfl Tryd.runUnderlying52 Tryd.sizeOf27 (ev rfl hv15) (hpcf) (ev rfl hv16) (by omega) rfl ⟨_, _, rfl, isI, New.same _⟩⟩
   refine stepsCons rfl (fun Q f' w' ρ S ho hT hS hB => ?_) ?_
   ·obtain ⟨hv17, hr17⟩ := (hT 17 31 rfl rfl : (Is (.pointer (some ⟨bcf, (ocf + k * 1), none⟩))) _ _)
    obtain hS := hS.flat1 hr17
    exact .inl ⟨want_none rfl, oloadc (v := .int .u32 (((nd xb k : Nat) : Int))) one32 rfl rfl (ev (v := .pointer (some ⟨bcf, (ocf + k * 1), none⟩)) rfl hv17) (hS.cellAt (hccf 0 _ rfl)) ⟨_, _, rfl, isI, New.same _⟩⟩
   refine stepsCons rfl (fun Q f' w' ρ S ho hT hS hB => ?_) ?_
   ·obtain ⟨hv2, hr2⟩ := (hT 2 16 rfl rfl : (Is (.agg #[.int .u64 (((p : Nat) : Int)), .slice pX nX cX, .int .i64 (((C : Nat) : Int))])) _ _)
    obtain ⟨hv10, hr10⟩ := (hT 10 24 rfl rfl : (Is (.int .u32 (((nd xa j : Nat) : Int)))) _ _)
    obtain ⟨hv18, hr18⟩ := (hT 18 32 rfl rfl : (Is (.int .u32 (((nd xb k : Nat) : Int)))) _ _)
    obtain hS := hS.flat3 hr2 hr10 hr18
    exact .inl ⟨want_none rfl, ocall rfl rfl Tryd.call63 rfl (wxmul (a := (nd xa j)) (b := (nd xb k)) hp0 hp2 (by omega) (by omega)) (args3 (ev rfl hv2) (ev rfl hv10) (ev rfl hv18)) callN⟩
   refine stepsCons rfl (fun Q f' w' ρ S ho hT hS hB => ?_) ?_
   ·obtain ⟨hv0, hr0⟩ := (hT 0 14 rfl rfl : (Is (.agg #[.int .u64 (((p : Nat) : Int)), .slice pX nX cX, .int .i64 (((C : Nat) : Int))])) _ _)
    obtain ⟨hv1, hr1⟩ := (hT 1 15 rfl rfl : (Is (.int .u32 (((acc : Nat) : Int)))) _ _)
    obtain ⟨hv19, hr19⟩ := (hT 19 33 rfl rfl : (Is (.int .u32 ((((nd xa j) * (nd xb k) % p : Nat) : Int)))) _ _)
    obtain hS := hS.flat3 hr0 hr1 hr19
    exact .inl ⟨want_none rfl, ocall rfl rfl Tryd.call48 rfl (wxadd (a := acc) (b := ((nd xa j) * (nd xb k) % p)) hp0 hp2 (by omega) (by omega)) (args3 (ev rfl hv0) (ev rfl hv1) (ev rfl hv19)) callN⟩
   exact stepsNil
  ·
   intro vs ρ w2 f' hf hT hS
   obtain ⟨hv0, hr0⟩ := (hT 0 (by decide) : (Is (.agg #[.int .u64 (((p : Nat) : Int)), .slice pX nX cX, .int .i64 (((C : Nat) : Int))])) _ _)
   obtain ⟨hv1, hr1⟩ := (hT 1 (by decide) : (Is (.int .u32 (((acc : Nat) : Int)))) _ _)
   obtain ⟨hv2, hr2⟩ := (hT 2 (by decide) : (Is (.agg #[.int .u64 (((p : Nat) : Int)), .slice pX nX cX, .int .i64 (((C : Nat) : Int))])) _ _)
   obtain ⟨hv3, hr3⟩ := (hT 3 (by decide) : (Is (.pointer (some ⟨gx, (0 + 1), none⟩))) _ _)
   obtain ⟨hv4, hr4⟩ := (hT 4 (by decide) : (Is (.slice pX nX cX)) _ _)
   obtain ⟨hv5, hr5⟩ := (hT 5 (by decide) : (Is (.int .i64 (((i : Nat) : Int)))) _ _)
   obtain ⟨hv6, hr6⟩ := (hT 6 (by decide) : (Is (.pointer (some ⟨ba, (ofa + i * 1), none⟩))) _ _)
   obtain ⟨hv7, hr7⟩ := (hT 7 (by decide) : (Is (.slice pa xa.length ca)) _ _)
   obtain ⟨hv8, hr8⟩ := (hT 8 (by decide) : (Is (.int .i64 (((j : Nat) : Int)))) _ _)
   obtain ⟨hv9, hr9⟩ := (hT 9 (by decide) : (Is (.pointer (some ⟨bce, (oce + j * 1), none⟩))) _ _)
   obtain ⟨hv10, hr10⟩ := (hT 10 (by decide) : (Is (.int .u32 (((nd xa j : Nat) : Int)))) _ _)
   obtain ⟨hv11, hr11⟩ := (hT 11 (by decide) : (Is (.pointer (some ⟨gy, (0 + 1), none⟩))) _ _)
   obtain ⟨hv12, hr12⟩ := (hT 12 (by decide) : (Is (.slice pY nY cY)) _ _)
   obtain ⟨hv13, hr13⟩ := (hT 13 (by decide) : (Is (.int .i64 (((j : Nat) : Int)))) _ _)
   obtain ⟨hv14, hr14⟩ := (hT 14 (by decide) : (Is (.pointer (some ⟨bb, (ofb + j * 1), none⟩))) _ _)
   obtain ⟨hv15, hr15⟩ := (hT 15 (by decide) : (Is (.slice pb xb.length cb)) _ _)
   obtain ⟨hv16, hr16⟩ := (hT 16 (by decide) : (Is (.int .i64 (((k : Nat) : Int)))) _ _)
   obtain ⟨hv17, hr17⟩ := (hT 17 (by decide) : (Is (.pointer (some ⟨bcf, (ocf + k * 1), none⟩))) _ _)
   obtain ⟨hv18, hr18⟩ := (hT 18 (by decide) : (Is (.int .u32 (((nd xb k : Nat) : Int)))) _ _)
   obtain ⟨hv19, hr19⟩ := (hT 19 (by decide) : (Is (.int .u32 ((((nd xa j) * (nd xb k) % p : Nat) : Int)))) _ _)
   obtain ⟨hv20, hr20⟩ := (hT 20 (by decide) : (Is (.int .u32 ((((acc + ((nd xa j) * (nd xb k) % p)) % p : Nat) : Int)))) _ _)
   simp only [pool, if_true, hr0, hr1, hr2, hr3, hr4, hr5, hr6, hr7, hr8, hr9, hr10, hr11, hr12, hr13, hr14, hr15, hr16, hr17, hr18, hr19, hr20, List.nil_append, List.cons_append, List.append_nil] at hS
   simp only [layf, hv0, hv1, hv2, hv3, hv4, hv5, hv6, hv7, hv8, hv9, hv10, hv11, hv12, hv13, hv14, hv15, hv16, hv17, hv18, hv19, hv20] at hf
   subst hf; clear hT hv0 hv1 hv2 hv3 hv4 hv5 hv6 hv7 hv8 hv9 hv10 hv11 hv12 hv13 hv14 hv15 hv16 hv17 hv18 hv19 hv20 hr0 hr1 hr2 hr3 hr4 hr5 hr6 hr7 hr8 hr9 hr10 hr11 hr12 hr13 hr14 hr15 hr16 hr17 hr18 hr19 hr20
   refine wlate 21 rfl (by kernel_rfl) (oassign (v := .int .u32 ((((acc + ((nd xa j) * (nd xb k) % p)) % p : Nat) : Int))) rfl rfl (ev rfl rfl) ?_)
   refine ⟨heldNil, ?_⟩
   refine wdone rfl ?_
   refine blkN (thenN (wreg (wl rfl (obin (u := .int .i64 (j : Int)) (v := .int .i64 1) (z := .int .i64 (((j + 1 : Nat) : Int))) rfl rfl (ev rfl rfl) evc (bin_add (wrap_i64 (by omega) (by omega))) ?_))))
   refine wl rfl (omove (v := .int .i64 (((j + 1 : Nat) : Int))) rfl rfl (ev rfl rfl) ?_)
   refine wnil (thenN ?_)
   exact ⟨(j + 1), ⟨_, _, act_sets (l := [(0, .int .i64 (i : Int)), (1, .int .i64 (k : Int)), (2, .pointer (some ⟨gx, 0, none⟩)), (3, .pointer (some ⟨gy, 0, none⟩)), (6, .int .u32 0), (7, .int .u32 ((((acc + ((nd xa j) * (nd xb k) % p)) % p : Nat) : Int))), (10, .int .i64 (C : Int)), (11, .int .i64 (((j + 1 : Nat) : Int)))]) ⟨rfl, rfl, rfl, rfl, rfl, rfl, rfl, rfl, trivial⟩, hS.pick [] (by decide) rfl, by omega, by rw [dotp, ← hacc, getD_get hxa, getD_get hxb], Nat.mod_lt _ hp0⟩, by omega⟩
 ·
  refine wl rfl (obin (u := .int .i64 (j : Int)) (v := .int .i64 (C : Int)) (z := .bool false) rfl rfl (ev rfl rfl) (ev rfl rfl) (bin_lss (decide_eq_false (by omega))) ?_)
  refine wnil (thenN (wseq ?_))
  refine wF (ev rfl rfl) ?_
  refine wexit ?_
  refine thenE ?_
  refine thenE ?_
  refine blkE ?_
  refine thenN (wseq (wreg (wl rfl (omove (v := .int .u32 (acc : Int)) rfl rfl (ev rfl rfl) ?_))))
  refine wl rfl (oassign (v := .int .u32 (acc : Int)) rfl rfl (ev rfl rfl) ?_)
  refine wnil (thenN ?_)
  refine wleave ?_
  have hjC : j = C := by omega
  refine wret1 Tryd.results67 (tellT (v := .int .u32 (acc : Int)) rfl rfl) ?_
  exact ⟨_, _, rfl, ⟨by rw [hacc, hjC]; rfl, rfl⟩, hS.new0⟩
theorem wxtimes {w : World} {p nX cX nY cY C D : Nat} {pX pY : Option Addr} {A B : List (List Nat)} (hX : MS w pX nX A) (hY : MS w pY nY B) (hA : Shp p C A) (hB : Shp p D B) (hn : nY = C) (hC2 : C ≤ 2097152) (hD2 : D ≤ 2097152) (hp0 : 0 < p) (hp2 : p < 4294967296) (hn2 : nX ≤ 2097152) :
  Calls Tryd.prog 47 #[.agg #[.int .u64 ((p : Nat) : Int), .slice pX nX cX, .int .i64 ((C : Nat) : Int)], .agg #[.int .u64 ((p : Nat) : Int), .slice pY nY cY, .int .i64 ((D : Nat) : Int)]] w (Ret (MdT p nX D (mulE p A B C)) w) := by
 have hS := Sep.init w
 refine went Tryd.func47 rfl (n := 14) rfl rfl ?_
 refine wseq (wreg (wl rfl (obox [.int .u64 (p : Int), .slice pX nX cX, .int .i64 (C : Int)] hS rfl rfl (ev (v := .agg #[.int .u64 (p : Int), .slice pX nX cX, .int .i64 (C : Int)]) rfl rfl) rfl ?_)))
 clear hS; intro g1 w2 hS
 refine wl rfl (obox [.int .u64 (p : Int), .slice pY nY cY, .int .i64 (D : Int)] hS rfl rfl (ev (v := .agg #[.int .u64 (p : Int), .slice pY nY cY, .int .i64 (D : Int)]) rfl rfl) rfl ?_)
 clear hS; intro g3 w4 hS
 refine wl rfl (oalloc [.int .u64 0, .slice none 0 0, .int .i64 0] hS rfl rfl Tryd.zeroValue63 rfl ?_)
 clear hS; intro g5 w6 hS
 refine wnil (thenN (wseq (wreg (wl rfl (ofieldAddr (g := g1) (off := 0) 0 rfl rfl (ev rfl rfl) Tryd.runUnderlying63 rfl Tryd.sizeOf47 rfl ?_)))))
 refine wl rfl (oload1 (v := .int .u64 (p : Int)) (show One Tryd.prog 47 from ⟨Tryd.isAgg47, Tryd.sizeOf47⟩) hS 2 rfl rfl (ev rfl rfl) rfl rfl ?_)
 refine wl rfl (ofieldAddr (g := g1) (off := 0) 1 rfl rfl (ev rfl rfl) Tryd.runUnderlying63 rfl Tryd.sizeOf25 rfl ?_)
 refine wl rfl (oload1 (v := .slice pX nX cX) (show One Tryd.prog 25 from ⟨Tryd.isAgg25, Tryd.sizeOf25⟩) hS 2 rfl rfl (ev rfl rfl) rfl rfl ?_)
 refine wl rfl (olen rfl rfl rfl Tryd.runUnderlying25 (p := pX) (k := nX) (m := cX) (ev rfl rfl) ?_)
 refine wl rfl (ofieldAddr (g := g3) (off := 0) 2 rfl rfl (ev rfl rfl) Tryd.runUnderlying63 rfl Tryd.sizeOf3 rfl ?_)
 refine wl rfl (oload1 (v := .int .i64 (D : Int)) oneI hS 1 rfl rfl (ev rfl rfl) rfl rfl ?_)
 refine wl rfl (omakeFunc (cs := #[.pointer (some ⟨g1, 0, none⟩), .pointer (some ⟨g3, 0, none⟩)]) rfl rfl (args2 (ev rfl rfl) (ev rfl rfl)) ?_)
 refine wl rfl (ocall rfl rfl Tryd.call58 rfl (wxmade (caps := #[.pointer (some ⟨g1, 0, none⟩), .pointer (some ⟨g3, 0, none⟩)]) Tryd.call67 (fun w9 hb9 i k hi9 hk9 => wxtimes1 ((hb9.block _ (Array.getElem?_eq_some_iff.1 (hS.blkAt 2 rfl)).1).trans (hS.blkAt 2 rfl)) ((hb9.block _ (Array.getElem?_eq_some_iff.1 (hS.blkAt 1 rfl)).1).trans (hS.blkAt 1 rfl)) ((hX.at hS).on hb9 (Nat.le_refl _)) ((hY.at hS).on hb9 (Nat.le_refl _)) hA hB hn hC2 hD2 hp0 hp2 hi9 hk9) (fun i k _ _ => Nat.lt_trans (dotp_lt hp0 _) hp2) (by omega) (by omega)) (args4 (ev rfl rfl) (ev rfl rfl) (ev rfl rfl) (ev rfl rfl)) ?_)
 rintro _ w7 ⟨_, _, rfl, ⟨pI, cI, QI, hQI, rfl, rfl⟩, hN⟩
 refine ⟨_, rfl, ?_⟩
 replace hS := hS.news hN; clear hN
 refine wl rfl (ostore [.int .u64 (p : Int), .slice pI nX cI, .int .i64 (D : Int)] [.int .u64 (p : Int), .slice pI nX cI, .int .i64 (D : Int)] Tryd.sizeOf63 hS 1 rfl rfl (ev rfl rfl) (ev (v := .agg #[.int .u64 (p : Int), .slice pI nX cI, .int .i64 (D : Int)]) rfl rfl) rfl rfl rfl rfl rfl rfl ?_)
 clear hS; intro w8 hS
 refine wnil (thenN ?_)
 refine wleave ?_
 refine wret1 Tryd.results47 (tellC (cs := [.int .u64 (p : Int), .slice pI nX cI, .int .i64 (D : Int)]) (show Agg Tryd.prog 63 3 from ⟨Tryd.isAgg63, Tryd.sizeOf63⟩) hS 1 rfl rfl rfl rfl) ?_
 exact ⟨_, _, rfl, ⟨_, _, _, hQI, rfl, rfl⟩, hS.newR 0 rfl rfl⟩
end Go.Proofs.YtndilfigdbenoaaDoor
