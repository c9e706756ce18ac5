/-
  Contracts and lemmas, joined in one text.
-/
import Derived.Test.YtndilfigdbenoaaDoorMm10
import Derived.Test.YtndilfigdbenoaaDoorMmV
set_option linter.unusedVariables false
set_option linter.unusedSimpArgs false
/-
  The law's own functions: faults, square, told.
-/
set_option maxRecDepth 100000
set_option maxHeartbeats 16000000
namespace Go.Proofs.YtndilfigdbenoaaDoor
open Go.RowKit
theorem wlfaults40 {pl : Option Addr} {nl cl p : Nat} {Ms : List (List (List Nat))} {w : World} (hL : LMS w pl nl Ms) (hp2 : p < 4294967296) (hn : nl ≤ 1000) (hp : ¬ MR.Pr p) :
  Calls Tryd.prog 32 #[.int .u32 ((p : Nat) : Int), .slice pl nl cl] w (Ret (Is (.int .i64 40)) w) := by
 have hS := Sep.init w
 refine went Tryd.func32 rfl (n := 20) rfl rfl ?_
 refine wseq (wreg (wl rfl (oassign (v := .int .i64 0) rfl rfl evc ?_)))
 refine wnil (thenN (wseq (wseq (wreg (wl rfl (omove (v := .int .u32 (p : Int)) rfl rfl (ev rfl rfl) ?_))))))
 refine wl rfl (ocall rfl rfl Tryd.call56 rfl (wsis (b := false) hp2 ⟨(fun h => by cases h), (fun h => absurd h hp)⟩) (args1 (ev rfl rfl)) ?_)
 rintro _ w1 ⟨_, _, rfl, ⟨rfl, rfl⟩, hN⟩
 refine ⟨_, rfl, ?_⟩
 replace hS := hS.news hN; clear hN
 refine wl rfl (onot (b := false) rfl rfl (ev rfl rfl) ?_)
 refine wnil (thenN ?_)
 refine wT (ev rfl rfl) ?_
 refine wseq (wreg (wl rfl (oassign (v := .int .i64 40) rfl rfl evc ?_)))
 refine wnil (thenN ?_)
 refine wleave ?_
 refine thenR ?_
 refine wret1 Tryd.results32 (tellT (v := .int .i64 40) rfl rfl) ?_
 exact ⟨_, _, rfl, isI, hS.new0⟩
theorem wlfaults2 {pl : Option Addr} {nl cl p : Nat} {Ms : List (List (List Nat))} {w : World} (hL : LMS w pl nl Ms) (hp2 : p < 4294967296) (hn : nl ≤ 1000) (hp : MR.Pr p) (hr : ¬ ∀ M ∈ Ms, RectM M) :
  Calls Tryd.prog 32 #[.int .u32 ((p : Nat) : Int), .slice pl nl cl] w (Ret (Is (.int .i64 2)) w) := by
 have hS := Sep.init w
 refine went Tryd.func32 rfl (n := 20) rfl rfl ?_
 refine wseq (wreg (wl rfl (oassign (v := .int .i64 0) rfl rfl evc ?_)))
 refine wnil (thenN (wseq (wseq (wreg (wl rfl (omove (v := .int .u32 (p : Int)) rfl rfl (ev rfl rfl) ?_))))))
 refine wl rfl (ocall rfl rfl Tryd.call56 rfl (wsis (b := true) hp2 ⟨fun _ => hp, fun _ => rfl⟩) (args1 (ev rfl rfl)) ?_)
 rintro _ w1 ⟨_, _, rfl, ⟨rfl, rfl⟩, hN⟩
 refine ⟨_, rfl, ?_⟩
 replace hS := hS.news hN; clear hN
 refine wl rfl (onot (b := true) rfl rfl (ev rfl rfl) ?_)
 refine wnil (thenN ?_)
 refine wF (ev rfl rfl) ?_
 refine wskip (thenN (wseq (wseq (wreg (wl rfl (omove (v := .slice pl nl cl) rfl rfl (ev rfl rfl) ?_))))))
 refine wl rfl (olen rfl rfl rfl Tryd.runUnderlying81 (p := pl) (k := nl) (m := cl) (ev rfl rfl) ?_)
 refine wl rfl (omove (v := .int .i64 0) rfl rfl evc ?_)
 refine wnil (thenN (wblock ?_))
 refine wloop (σ := Nat) (fun i a9 w' => ∃ (fb : Nat → Value), a9 = act 20 (sets fb [(10, .slice pl nl cl), (11, .int .i64 (nl : Int)), (12, .int .i64 (i : Int))]) ∧ Sep w [] w' ∧ (i ≤ nl) ∧ (∀ M ∈ Ms.take i, RectM M)) (fun i => nl - i) (0) ⟨_, act_sets (l := [(10, .slice pl nl cl), (11, .int .i64 (nl : Int)), (12, .int .i64 0)]) ⟨rfl, rfl, rfl, trivial⟩, hS, Nat.zero_le _, by simp⟩ ?_
 clear hS; rintro i _ w2 ⟨fb, rfl, hS, hi, hrc⟩
 refine wseq (wreg ?_)
 by_cases hlt : i < nl
 ·
  have hnl := hL.1
  obtain ⟨M, hM⟩ : ∃ M, Ms[i]? = some M := ⟨_, List.getElem?_eq_getElem (by omega)⟩
  obtain ⟨b, off, pq, cq, hpx, hcx, hms⟩ := hL.2 i M hM
  refine wl rfl (obin (u := .int .i64 (i : Int)) (v := .int .i64 (nl : Int)) (z := .bool true) rfl rfl (ev rfl rfl) (ev rfl rfl) (bin_lss (decide_eq_true (by omega))) ?_)
  refine wnil (thenN (wseq ?_))
  refine wT (ev rfl rfl) ?_
  refine wskip (thenN (wseq (wblock (wseq (wreg (wl rfl (oindex (p := pl) (g := b) (off := off) (m := nl) (k := i) (j := (off + i * 1)) rfl rfl Tryd.runUnderlying81 Tryd.sizeOf26 (ev rfl rfl) (hpx) (ev rfl rfl) ((show i < nl by omega)) rfl ?_)))))))
  refine wl rfl (oloadc (v := .slice pq M.length cq) (show One Tryd.prog 26 from ⟨Tryd.isAgg26, Tryd.sizeOf26⟩) rfl rfl (ev (v := .pointer (some ⟨b, (off + i * 1), none⟩)) rfl rfl) (hS.cellAt (hcx 0 _ rfl)) ?_)
  refine wl rfl (oassign (v := .slice pq M.length cq) rfl rfl (ev rfl rfl) ?_)
  refine wnil (thenN (wseq (wreg (wl rfl (omove (v := .slice pq M.length cq) rfl rfl (ev rfl rfl) ?_)))))
  by_cases hrM : RectM M
  ·
   refine wl rfl (ocall rfl rfl Tryd.call57 rfl (wrmay (hms.at hS) (hrM)) (args1 (ev rfl rfl)) ?_)
   rintro _ w3 ⟨_, _, rfl, ⟨rfl, rfl⟩, hN⟩
   refine ⟨_, rfl, ?_⟩
   replace hS := hS.news hN; clear hN
   refine wl rfl (onot (b := true) rfl rfl (ev rfl rfl) ?_)
   refine wnil (thenN ?_)
   refine wF (ev rfl rfl) ?_
   refine wskip (blkN (thenN (wreg (wl rfl (obin (u := .int .i64 (i : Int)) (v := .int .i64 1) (z := .int .i64 (((i + 1 : Nat) : Int))) rfl rfl (ev rfl rfl) evc (bin_add (wrap_i64 (by omega) (by omega))) ?_)))))
   refine wl rfl (omove (v := .int .i64 (((i + 1 : Nat) : Int))) rfl rfl (ev rfl rfl) ?_)
   refine wnil (thenN ?_)
   exact ⟨(i + 1), ⟨_, act_sets (l := [(10, .slice pl nl cl), (11, .int .i64 (nl : Int)), (12, .int .i64 (((i + 1 : Nat) : Int)))]) ⟨rfl, rfl, rfl, trivial⟩, hS.pick [] (by decide) rfl, by omega, fun u hu => by rw [take_next hM] at hu; exact (List.mem_append.1 hu).elim (hrc u) (fun h => by rw [List.mem_singleton.1 h]; exact hrM)⟩, by omega⟩
  ·
   refine wl rfl (ocall rfl rfl Tryd.call57 rfl (wrmayF (hms.at hS) (hrM)) (args1 (ev rfl rfl)) ?_)
   rintro _ w3 ⟨_, _, rfl, ⟨rfl, rfl⟩, hN⟩
   refine ⟨_, rfl, ?_⟩
   replace hS := hS.news hN; clear hN
   refine wl rfl (onot (b := false) rfl rfl (ev rfl rfl) ?_)
   refine wnil (thenN ?_)
   refine wT (ev rfl rfl) ?_
   refine wseq (wreg (wl rfl (oassign (v := .int .i64 2) rfl rfl evc ?_)))
   refine wnil (thenN ?_)
   refine wleave ?_
   refine blkR ?_
   refine thenR ?_
   refine thenR ?_
   refine blkR ?_
   refine thenR ?_
   refine wret1 Tryd.results32 (tellT (v := .int .i64 2) rfl rfl) ?_
   exact ⟨_, _, rfl, isI, hS.new0⟩
 ·
  refine wl rfl (obin (u := .int .i64 (i : Int)) (v := .int .i64 (nl : Int)) (z := .bool false) rfl rfl (ev rfl rfl) (ev rfl rfl) (bin_lss (decide_eq_false (by omega))) ?_)
  refine wnil (thenN (wseq ?_))
  refine wF (ev rfl rfl) ?_
  refine wexit ?_
  refine thenE ?_
  refine thenE ?_
  refine blkE ?_
  refine thenN (wseq (wreg (wl rfl (oassign (v := .int .i64 0) rfl rfl evc ?_))))
  refine wnil (thenN ?_)
  refine wleave ?_
  exact absurd (fun M hM => hrc M (by rw [List.take_of_length_le (by have := hL.1; omega)]; exact hM)) hr
theorem wlfaults0 {pl : Option Addr} {nl cl p : Nat} {Ms : List (List (List Nat))} {w : World} (hL : LMS w pl nl Ms) (hp2 : p < 4294967296) (hn : nl ≤ 1000) (hp : MR.Pr p) (hr : ∀ M ∈ Ms, RectM M) :
  Calls Tryd.prog 32 #[.int .u32 ((p : Nat) : Int), .slice pl nl cl] w (Ret (Is (.int .i64 0)) w) := by
 have hS := Sep.init w
 refine went Tryd.func32 rfl (n := 20) rfl rfl ?_
 refine wseq (wreg (wl rfl (oassign (v := .int .i64 0) rfl rfl evc ?_)))
 refine wnil (thenN (wseq (wseq (wreg (wl rfl (omove (v := .int .u32 (p : Int)) rfl rfl (ev rfl rfl) ?_))))))
 refine wl rfl (ocall rfl rfl Tryd.call56 rfl (wsis (b := true) hp2 ⟨fun _ => hp, fun _ => rfl⟩) (args1 (ev rfl rfl)) ?_)
 rintro _ w1 ⟨_, _, rfl, ⟨rfl, rfl⟩, hN⟩
 refine ⟨_, rfl, ?_⟩
 replace hS := hS.news hN; clear hN
 refine wl rfl (onot (b := true) rfl rfl (ev rfl rfl) ?_)
 refine wnil (thenN ?_)
 refine wF (ev rfl rfl) ?_
 refine wskip (thenN (wseq (wseq (wreg (wl rfl (omove (v := .slice pl nl cl) rfl rfl (ev rfl rfl) ?_))))))
 refine wl rfl (olen rfl rfl rfl Tryd.runUnderlying81 (p := pl) (k := nl) (m := cl) (ev rfl rfl) ?_)
 refine wl rfl (omove (v := .int .i64 0) rfl rfl evc ?_)
 refine wnil (thenN (wblock ?_))
 refine wloop (σ := Nat) (fun i a9 w' => ∃ (fb : Nat → Value), a9 = act 20 (sets fb [(10, .slice pl nl cl), (11, .int .i64 (nl : Int)), (12, .int .i64 (i : Int))]) ∧ Sep w [] w' ∧ (i ≤ nl)) (fun i => nl - i) (0) ⟨_, act_sets (l := [(10, .slice pl nl cl), (11, .int .i64 (nl : Int)), (12, .int .i64 0)]) ⟨rfl, rfl, rfl, trivial⟩, hS, Nat.zero_le _⟩ ?_
 clear hS; rintro i _ w2 ⟨fb, rfl, hS, hi⟩
 refine wseq (wreg ?_)
 by_cases hlt : i < nl
 ·
  have hnl := hL.1
  obtain ⟨M, hM⟩ : ∃ M, Ms[i]? = some M := ⟨_, List.getElem?_eq_getElem (by omega)⟩
  obtain ⟨b, off, pq, cq, hpx, hcx, hms⟩ := hL.2 i M hM
  refine wl rfl (obin (u := .int .i64 (i : Int)) (v := .int .i64 (nl : Int)) (z := .bool true) rfl rfl (ev rfl rfl) (ev rfl rfl) (bin_lss (decide_eq_true (by omega))) ?_)
  refine wnil (thenN (wseq ?_))
  refine wT (ev rfl rfl) ?_
  refine wskip (thenN (wseq (wblock (wseq (wreg ?_)))))
  have hrM := hr M (List.mem_of_getElem? hM)
  refine wl rfl (oindex (p := pl) (g := b) (off := off) (m := nl) (k := i) (j := (off + i * 1)) rfl rfl Tryd.runUnderlying81 Tryd.sizeOf26 (ev rfl rfl) (hpx) (ev rfl rfl) ((show i < nl by omega)) rfl ?_)
  refine wl rfl (oloadc (v := .slice pq M.length cq) (show One Tryd.prog 26 from ⟨Tryd.isAgg26, Tryd.sizeOf26⟩) rfl rfl (ev (v := .pointer (some ⟨b, (off + i * 1), none⟩)) rfl rfl) (hS.cellAt (hcx 0 _ rfl)) ?_)
  refine wl rfl (oassign (v := .slice pq M.length cq) rfl rfl (ev rfl rfl) ?_)
  refine wnil (thenN (wseq (wreg (wl rfl (omove (v := .slice pq M.length cq) rfl rfl (ev rfl rfl) ?_)))))
  refine wl rfl (ocall rfl rfl Tryd.call57 rfl (wrmay (hms.at hS) (hrM)) (args1 (ev rfl rfl)) ?_)
  rintro _ w3 ⟨_, _, rfl, ⟨rfl, rfl⟩, hN⟩
  refine ⟨_, rfl, ?_⟩
  replace hS := hS.news hN; clear hN
  refine wl rfl (onot (b := true) rfl rfl (ev rfl rfl) ?_)
  refine wnil (thenN ?_)
  refine wF (ev rfl rfl) ?_
  refine wskip (blkN (thenN (wreg (wl rfl (obin (u := .int .i64 (i : Int)) (v := .int .i64 1) (z := .int .i64 (((i + 1 : Nat) : Int))) rfl rfl (ev rfl rfl) evc (bin_add (wrap_i64 (by omega) (by omega))) ?_)))))
  refine wl rfl (omove (v := .int .i64 (((i + 1 : Nat) : Int))) rfl rfl (ev rfl rfl) ?_)
  refine wnil (thenN ?_)
  exact ⟨(i + 1), ⟨_, act_sets (l := [(10, .slice pl nl cl), (11, .int .i64 (nl : Int)), (12, .int .i64 (((i + 1 : Nat) : Int)))]) ⟨rfl, rfl, rfl, trivial⟩, hS.pick [] (by decide) rfl, by omega⟩, by omega⟩
 ·
  refine wl rfl (obin (u := .int .i64 (i : Int)) (v := .int .i64 (nl : Int)) (z := .bool false) rfl rfl (ev rfl rfl) (ev rfl rfl) (bin_lss (decide_eq_false (by omega))) ?_)
  refine wnil (thenN (wseq ?_))
  refine wF (ev rfl rfl) ?_
  refine wexit ?_
  refine thenE ?_
  refine thenE ?_
  refine blkE ?_
  refine thenN (wseq (wreg (wl rfl (oassign (v := .int .i64 0) rfl rfl evc ?_))))
  refine wnil (thenN ?_)
  refine wleave ?_
  refine wret1 Tryd.results32 (tellT (v := .int .i64 0) rfl rfl) ?_
  exact ⟨_, _, rfl, isI, hS.new0⟩
theorem wltoldE {ca nw cw : Nat} {pw : Option Addr} {e : Int} {w : World} (he : e ≠ 0) :
  Calls Tryd.prog 15 #[.slice none 0 ca, .int .i64 e, .slice pw nw cw, .int .i64 e] w (Ret (Is (.bool true)) w) := by
 have hS := Sep.init w
 refine went Tryd.func15 rfl (n := 28) rfl rfl ?_
 refine wseq (wreg (wl rfl (oassign (v := .bool false) rfl rfl evc ?_)))
 refine wnil (thenN (wseq (wseq (wreg (wl rfl (omove (v := .int .i64 e) rfl rfl (ev rfl rfl) ?_))))))
 refine wl rfl (obin (u := .int .i64 e) (v := .int .i64 0) (z := .bool true) rfl rfl (ev rfl rfl) evc (bin_neq (neT he)) ?_)
 refine wnil (thenN ?_)
 refine wT (ev rfl rfl) ?_
 refine wseq (wreg (wl rfl (omove (v := .int .i64 e) rfl rfl (ev rfl rfl) ?_)))
 refine wl rfl (ocall rfl rfl Tryd.call11 rfl (wxnum) (args1 (ev rfl rfl)) ?_)
 rintro _ w1 ⟨_, _, rfl, ⟨rfl, rfl⟩, hN⟩
 refine ⟨_, rfl, ?_⟩
 replace hS := hS.news hN; clear hN
 refine wl rfl (omove (v := .int .i64 e) rfl rfl (ev rfl rfl) ?_)
 refine wl rfl (obin (u := .int .i64 e) (v := .int .i64 e) (z := .bool true) rfl rfl (ev rfl rfl) (ev rfl rfl) (bin_eql (eqT rfl)) ?_)
 refine wl rfl (omove (v := .bool true) rfl rfl (ev rfl rfl) ?_)
 refine wlOn (e := 15) rfl rfl rfl rfl (omove (v := .slice none 0 ca) rfl rfl (ev rfl rfl) ?_)
 refine wlOn (e := 15) rfl rfl rfl rfl (olen rfl rfl rfl Tryd.runUnderlying26 (p := none) (k := 0) (m := ca) (ev rfl rfl) ?_)
 refine wlOn (e := 15) rfl rfl rfl rfl (obin (u := .int .i64 (((0 : Nat) : Int))) (v := .int .i64 0) (z := .bool true) rfl rfl (ev rfl rfl) evc (bin_eql (eqT rfl)) ?_)
 refine wl rfl (opick (b := true) (v := .bool true) rfl rfl (ev rfl rfl) (ev rfl rfl) ?_)
 refine wl rfl (oassign (v := .bool true) rfl rfl (ev rfl rfl) ?_)
 refine wnil (thenN ?_)
 refine wleave ?_
 refine thenR ?_
 refine wret1 Tryd.results15 (tellT (v := .bool true) rfl rfl) ?_
 exact ⟨_, _, rfl, isI, hS.new0⟩
theorem wltold {pa pw : Option Addr} {na ca nw cw : Nat} {M : List (List Nat)} {w : World} (hA : MS w pa na M) (hB : MS w pw nw M) (hs : SmallM M) :
  Calls Tryd.prog 15 #[.slice pa na ca, .int .i64 0, .slice pw nw cw, .int .i64 0] w (Ret (Is (.bool true)) w) := by
 have hS := Sep.init w
 refine went Tryd.func15 rfl (n := 28) rfl rfl ?_
 refine wseq (wreg (wl rfl (oassign (v := .bool false) rfl rfl evc ?_)))
 refine wnil (thenN (wseq (wseq (wreg (wl rfl (omove (v := .int .i64 0) rfl rfl (ev rfl rfl) ?_))))))
 refine wl rfl (obin (u := .int .i64 0) (v := .int .i64 0) (z := .bool false) rfl rfl (ev rfl rfl) evc (bin_neq (by decide)) ?_)
 refine wnil (thenN ?_)
 refine wF (ev rfl rfl) ?_
 refine wskip (thenN (wseq (wreg (wl rfl (omove (v := .int .i64 0) rfl rfl (ev rfl rfl) ?_)))))
 refine wl rfl (ocall rfl rfl Tryd.call11 rfl (wxnum) (args1 (ev rfl rfl)) ?_)
 rintro _ w1 ⟨_, _, rfl, ⟨rfl, rfl⟩, hN⟩
 refine ⟨_, rfl, ?_⟩
 replace hS := hS.news hN; clear hN
 refine wl rfl (obin (u := .int .i64 0) (v := .int .i64 0) (z := .bool true) rfl rfl (ev rfl rfl) evc (bin_eql (by decide)) ?_)
 refine wl rfl (omove (v := .bool true) rfl rfl (ev rfl rfl) ?_)
 refine wlOn (e := 23) rfl rfl rfl rfl (omove (v := .slice pa na ca) rfl rfl (ev rfl rfl) ?_)
 refine wlOn (e := 23) rfl rfl rfl rfl (omove (v := .slice pw nw cw) rfl rfl (ev rfl rfl) ?_)
 refine wlOn (e := 23) rfl rfl rfl rfl (ocall rfl rfl Tryd.call18 rfl (wxsameL (hA.at hS) (hB.at hS) (hs)) (args2 (ev rfl rfl) (ev rfl rfl)) ?_)
 rintro _ w2 ⟨_, _, rfl, ⟨rfl, rfl⟩, hN⟩
 refine ⟨_, rfl, ?_⟩
 replace hS := hS.news hN; clear hN
 refine wl rfl (opick (b := true) (v := .bool true) rfl rfl (ev rfl rfl) (ev rfl rfl) ?_)
 refine wl rfl (oassign (v := .bool true) rfl rfl (ev rfl rfl) ?_)
 refine wnil (thenN ?_)
 refine wleave ?_
 refine wret1 Tryd.results15 (tellT (v := .bool true) rfl rfl) ?_
 exact ⟨_, _, rfl, isI, hS.new0⟩
end Go.Proofs.YtndilfigdbenoaaDoor
/-
  modmat's times, Mul.
-/
namespace Go.Proofs.YtndilfigdbenoaaDoor
open Go.RowKit
def dotp (p : Nat) (F : Nat → Nat) : Nat → Nat
  | 0 => 0
  | n + 1 => (dotp p F n + F n % p) % p
def mulE (p : Nat) (A B : List (List Nat)) (C : Nat) (i k : Nat) : Nat := dotp p (fun j => nd (A.getD i []) j * nd (B.getD j []) k) C
def mulM (p : Nat) (A B : List (List Nat)) (C D : Nat) : List (List Nat) := mkM A.length D (mulE p A B C)
end Go.Proofs.YtndilfigdbenoaaDoor
