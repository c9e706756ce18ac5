
/-
  The walk of similelaw06.CrtSays.
-/
import Derived.Test.YtjbcjlbbipohjaaGreatDoorCrt4
import Derived.Test.YtjbcjlbbipohjaaGreatDoorLT
set_option linter.unusedVariables false
set_option linter.unusedSimpArgs false
set_option maxRecDepth 100000
set_option maxHeartbeats 16000000
namespace Go.Proofs.YtjbcjlbbipohjaaGreatDoor
open Go.RowKit

theorem wqmodN {p : Option Addr} {n c x q : Nat} {w : World} (hx : Nr w p n c x 549755813000) (hq : q < 4294967296) (h0 : q ≠ 0) : Calls Tryz.prog 19 #[.agg #[.bool false, .slice p n c], .int .u32 (q : Int)] w (Ret (Is (.int .u32 ((x % q : Nat) : Int))) w) := by
  have h := wqmod hx.zr hq h0
  rwa [show ((((x : Nat) : Int) % (q : Int)).toNat : Int) = ((x % q : Nat) : Int) by rw [← Int.natCast_emod]; rfl] at h
theorem rev_get {L : List (Nat × Nat)} {n i : Nat} {x : Nat × Nat} (hn : L.length = n) (hi : i < n) (hx : L[n - 1 - i]? = some x) : L.reverse[i]? = some x := by
  rw [List.getElem?_reverse (by omega), hn]; exact hx

theorem crtSays_no {p : Option Addr} {n c : Nat} {L : List (Nat × Nat)} {w : World} (ht : Tb w) (hL : RS w p n L) (h32 : ∀ x ∈ L, x.1 < 4294967296 ∧ x.2 < 4294967296) (hlen : L.length ≤ 1048576) (hne : code [] L ≠ 0) :
  Calls Tryz.prog 5 #[.slice p n c] w (Ret (Is (.bool true)) w) := by
 have hS := Sep.init w
 refine went Tryz.func5 rfl (n := 102) rfl rfl ?_
 refine wseq ?_
 refine wreg ?_
 refine wl rfl (oassign (v := .bool false) rfl rfl evc ?_)
 refine wnil ?_
 refine thenN ?_
 refine wseq ?_
 refine wreg ?_
 refine wl rfl (omove (v := .slice p n c) rfl rfl (ev rfl rfl) ?_)
 refine wl rfl (ocall rfl rfl Tryz.call18 rfl (wcofE (ht.at hS) (hL.at hS) h32 hlen hne) (args1 (ev rfl rfl)) ?_)
 rintro _ w1 ⟨_, _, rfl, ⟨rfl, rfl⟩, hN⟩
 refine ⟨_, rfl, ?_⟩
 replace hS := hS.news hN; clear hN
 refine wl rfl (omove (v := .tuple #[.slice none 0 0, .slice none 0 0, .int .i64 (((code [] L : Nat) : Int))]) rfl rfl (ev rfl rfl) ?_)
 refine wl rfl (oextract (vs := [.slice none 0 0, .slice none 0 0, .int .i64 (((code [] L : Nat) : Int))]) (v := .slice none 0 0) rfl rfl (ev rfl rfl) rfl ?_)
 refine wl rfl (oextract (vs := [.slice none 0 0, .slice none 0 0, .int .i64 (((code [] L : Nat) : Int))]) (v := .slice none 0 0) rfl rfl (ev rfl rfl) rfl ?_)
 refine wl rfl (oextract (vs := [.slice none 0 0, .slice none 0 0, .int .i64 (((code [] L : Nat) : Int))]) (v := .int .i64 (((code [] L : Nat) : Int))) rfl rfl (ev rfl rfl) rfl ?_)
 refine wl rfl (oassign (v := .slice none 0 0) rfl rfl (ev rfl rfl) ?_)
 refine wl rfl (oassign (v := .slice none 0 0) rfl rfl (ev rfl rfl) ?_)
 refine wl rfl (oassign (v := .int .i64 (((code [] L : Nat) : Int))) rfl rfl (ev rfl rfl) ?_)
 refine wnil ?_
 refine thenN ?_
 refine wseq ?_
 refine wseq ?_
 refine wreg ?_
 refine wl rfl (omove (v := .int .i64 (((code [] L : Nat) : Int))) rfl rfl (ev rfl rfl) ?_)
 refine wl rfl (ocall rfl rfl Tryz.call13 rfl (wlnum6) (args1 (ev rfl rfl)) ?_)
 rintro _ w2 ⟨_, _, rfl, ⟨rfl, rfl⟩, hN⟩
 refine ⟨_, rfl, ?_⟩
 replace hS := hS.news hN; clear hN
 refine wl rfl (obin (u := .int .i64 (((code [] L : Nat) : Int))) (v := .int .i64 0) (z := .bool true) rfl rfl (ev rfl rfl) evc (bin_neq (neT (by omega))) ?_)
 refine wnil ?_
 refine thenN ?_
 refine wT (ev rfl rfl) ?_
 refine wseq ?_
 refine wreg ?_
 refine wl rfl (omove (v := .slice none 0 0) rfl rfl (ev rfl rfl) ?_)
 refine wl rfl (olen rfl rfl rfl Tryz.runUnderlying26 (p := none) (k := 0) (m := 0) (ev rfl rfl) ?_)
 refine wl rfl (obin (u := .int .i64 (((0 : Nat) : Int))) (v := .int .i64 0) (z := .bool true) rfl rfl (ev rfl rfl) evc (bin_eql (eqT (by omega))) ?_)
 refine wl rfl (omove (v := .bool true) rfl rfl (ev rfl rfl) ?_)
 refine wlOn (e := 23) rfl rfl rfl rfl (ocall rfl rfl Tryz.call14 rfl (wlawake6 (ht.at hS)) (args0 ) ?_)
 rintro _ w3 ⟨_, _, rfl, ⟨rfl, rfl⟩, hN⟩
 refine ⟨_, rfl, ?_⟩
 replace hS := hS.news hN; clear hN
 refine wl rfl (opick (b := true) (v := .bool true) rfl rfl (ev rfl rfl) (ev rfl rfl) ?_)
 refine wl rfl (oassign (v := .bool true) rfl rfl (ev rfl rfl) ?_)
 refine wnil ?_
 refine thenN ?_
 refine wleave ?_
 refine thenR ?_
 refine wret1 Tryz.results5 (tellT (v := .bool true) rfl rfl) ?_
 exact ⟨_, _, rfl, isI, hS.new0⟩

theorem crtSays_yes {p : Option Addr} {n c : Nat} {L : List (Nat × Nat)} {w : World} (ht : Tb w) (hL : RS w p n L) (h32 : ∀ x ∈ L, x.1 < 4294967296 ∧ x.2 < 4294967296) (hlen : L.length ≤ 1048576) (hgd : Gd L) :
  Calls Tryz.prog 5 #[.slice p n c] w (Ret (Is (.bool true)) w) := by
 have hok := okl_of h32 hlen hgd
 have hwV := hok.wV
 have hwM := hok.wM
 have hS := Sep.init w
 refine went Tryz.func5 rfl (n := 102) rfl rfl ?_
 refine wseq ?_
 refine wreg ?_
 refine wl rfl (oassign (v := .bool false) rfl rfl evc ?_)
 refine wnil ?_
 refine thenN ?_
 refine wseq ?_
 refine wreg ?_
 refine wl rfl (omove (v := .slice p n c) rfl rfl (ev rfl rfl) ?_)
 replace hS := hS.nilLst 42 2
 refine wl rfl (ocall rfl rfl Tryz.call18 rfl (wcof (ht.at hS) (hL.at hS) h32 hlen hgd) (args1 (ev rfl rfl)) ?_)
 rintro _ w1 ⟨_, _, rfl, ⟨pV, nV, cV, pM, nM, cM, rfl, rfl⟩, hN⟩
 refine ⟨_, rfl, ?_⟩
 replace hS := hS.news hN; clear hN
 refine wl rfl (omove (v := .tuple #[.slice pV nV cV, .slice pM nM cM, .int .i64 0]) rfl rfl (ev rfl rfl) ?_)
 refine wl rfl (oextract (vs := [.slice pV nV cV, .slice pM nM cM, .int .i64 0]) (v := .slice pV nV cV) rfl rfl (ev rfl rfl) rfl ?_)
 refine wl rfl (oextract (vs := [.slice pV nV cV, .slice pM nM cM, .int .i64 0]) (v := .slice pM nM cM) rfl rfl (ev rfl rfl) rfl ?_)
 refine wl rfl (oextract (vs := [.slice pV nV cV, .slice pM nM cM, .int .i64 0]) (v := .int .i64 0) rfl rfl (ev rfl rfl) rfl ?_)
 refine wl rfl (oassign (v := .slice pV nV cV) rfl rfl (ev rfl rfl) ?_)
 refine wl rfl (oassign (v := .slice pM nM cM) rfl rfl (ev rfl rfl) ?_)
 refine wl rfl (oassign (v := .int .i64 0) rfl rfl (ev rfl rfl) ?_)
 refine wnil ?_
 refine thenN ?_
 refine wseq ?_
 refine wseq ?_
 refine wreg ?_
 refine wl rfl (omove (v := .int .i64 0) rfl rfl (ev rfl rfl) ?_)
 refine wl rfl (ocall rfl rfl Tryz.call13 rfl (wlnum6) (args1 (ev rfl rfl)) ?_)
 rintro _ w2 ⟨_, _, rfl, ⟨rfl, rfl⟩, hN⟩
 refine ⟨_, rfl, ?_⟩
 replace hS := hS.news hN; clear hN
 refine wl rfl (obin (u := .int .i64 0) (v := .int .i64 0) (z := .bool false) rfl rfl (ev rfl rfl) evc (bin_neq (by decide)) ?_)
 refine wnil ?_
 refine thenN ?_
 refine wF (ev rfl rfl) ?_
 refine wskip ?_
 refine thenN ?_
 refine wseq ?_
 refine wreg ?_
 refine wl rfl (oassign (v := .slice none 0 0) rfl rfl evc ?_)
 refine wnil ?_
 refine thenN ?_
 refine wseq ?_
 refine wseq ?_
 refine wreg ?_
 refine wl rfl (omove (v := .slice p n c) rfl rfl (ev rfl rfl) ?_)
 refine wl rfl (olen rfl rfl rfl Tryz.runUnderlying37 (p := p) (k := n) (m := c) (ev rfl rfl) ?_)
 refine wl rfl (omove (v := .int .i64 0) rfl rfl evc ?_)
 refine wnil ?_
 refine thenN ?_
 refine wblock ?_
 refine wloop (σ := Nat) (fun i a9 w' => ∃ (fb : Nat → Value) (pB : Option Addr) (cB : Nat), a9 = act 102 (sets fb [(0, .slice p n c), (3, .slice pV nV cV), (4, .slice pM nM cM), (6, .slice pB i cB), (27, .int .i64 (n : Int)), (28, .int .i64 (i : Int))]) ∧ Sep w [.rowm pV nV cV (lim ((cv L).1)), .rowm pM nM cM (lim ((cv L).2)), .lst 42 2 pB i cB (rpE (L.reverse.take i))] w' ∧ (i ≤ n)) (fun i => n - i) (0) ⟨_, none, 0, act_sets (l := [(0, .slice p n c), (3, .slice pV nV cV), (4, .slice pM nM cM), (6, .slice none 0 0), (27, .int .i64 (n : Int)), (28, .int .i64 0)]) ⟨rfl, rfl, rfl, rfl, rfl, rfl, trivial⟩, hS, Nat.zero_le _⟩ ?_
 clear hS; rintro i _ w3 ⟨fb, pB, cB, rfl, hS, hi⟩
 refine wseq ?_
 refine wreg ?_
 by_cases hlt : i < n
 ·
  have hn1 := hL.1
  obtain ⟨x, hx⟩ : ∃ x, L[n - 1 - i]? = some x := ⟨_, List.getElem?_eq_getElem (by omega)⟩
  obtain ⟨b, off, hpx, hcx⟩ := hL.2.2 _ x hx
  obtain ⟨y, hy⟩ : ∃ y, L[i]? = some y := ⟨_, List.getElem?_eq_getElem (by omega)⟩
  obtain ⟨b2, off2, hpy, hcy⟩ := hL.2.2 _ y hy
  have hy32 := h32 y (List.mem_of_getElem? hy)
  have hsay := cv_says hgd y (List.mem_of_getElem? hy)
  have hyp := (hgd.1 y (List.mem_of_getElem? hy)).1
  refine wl rfl (obin (u := .int .i64 (i : Int)) (v := .int .i64 (n : Int)) (z := .bool true) rfl rfl (ev rfl rfl) (ev rfl rfl) (bin_lss (decide_eq_true (by omega))) ?_)
  refine wnil ?_
  refine thenN ?_
  refine wseq ?_
  refine wT (ev rfl rfl) ?_
  refine wskip ?_
  refine thenN ?_
  refine wseq ?_
  refine wblock ?_
  refine wseq ?_
  refine wreg ?_
  refine wl rfl (omove (v := .int .i64 (i : Int)) rfl rfl (ev rfl rfl) ?_)
  refine wl rfl (oassign (v := .int .i64 (i : Int)) rfl rfl (ev rfl rfl) ?_)
  refine wnil ?_
  refine thenN ?_
  refine wseq ?_
  refine wreg ?_
  refine wl rfl (omove (v := .slice pB i cB) rfl rfl (ev rfl rfl) ?_)
  refine wl rfl (omove (v := .slice p n c) rfl rfl (ev rfl rfl) ?_)
  refine wl rfl (omove (v := .slice p n c) rfl rfl (ev rfl rfl) ?_)
  refine wl rfl (olen rfl rfl rfl Tryz.runUnderlying37 (p := p) (k := n) (m := c) (ev rfl rfl) ?_)
  refine wl rfl (obin (u := .int .i64 (n : Int)) (v := .int .i64 1) (z := .int .i64 (((n - 1 : Nat) : Int))) rfl rfl (ev rfl rfl) evc (bin_sub ((by rw [show (n : Int) - 1 = ((n - 1 : Nat) : Int) by omega]; exact wrap_i64 (by omega) (by omega)))) ?_)
  refine wl rfl (omove (v := .int .i64 (i : Int)) rfl rfl (ev rfl rfl) ?_)
  refine wl rfl (obin (u := .int .i64 (((n - 1 : Nat) : Int))) (v := .int .i64 (i : Int)) (z := .int .i64 ((((n - 1 - i) : Nat) : Int))) rfl rfl (ev rfl rfl) (ev rfl rfl) (bin_sub ((by rw [show ((n - 1 : Nat) : Int) - (i : Int) = ((n - 1 - i : Nat) : Int) by omega]; exact wrap_i64 (by omega) (by omega)))) ?_)
  refine wl rfl (oindex (p := p) (g := b) (off := off) (m := n) (k := (n - 1 - i)) (j := (off + (n - 1 - i) * 2)) rfl rfl Tryz.runUnderlying37 Tryz.sizeOf42 (ev rfl rfl) (hpx) (ev rfl rfl) ((show n - 1 - i < n by omega)) rfl ?_)
  refine wl rfl (oloadA (vs := [.int .u32 (x.1 : Int), .int .u32 (x.2 : Int)]) (show Agg Tryz.prog 42 2 from ⟨Tryz.isAgg42, Tryz.sizeOf42⟩) rfl rfl (ev (v := .pointer (some ⟨b, (off + (n - 1 - i) * 2), none⟩)) rfl rfl) (fun j v hj => hS.cellAt (hcx j v hj)) rfl ?_)
  refine wl rfl (obslice (ps := #[(0, .agg #[.int .u32 (x.1 : Int), .int .u32 (x.2 : Int)])]) (z := .agg #[.int .u32 0, .int .u32 0]) [.int .u32 (x.1 : Int), .int .u32 (x.2 : Int)] hS rfl rfl Tryz.runUnderlying37 Tryz.sizeOf42 Tryz.zeroValue42 (parts1 (ev (v := .agg #[.int .u32 (x.1 : Int), .int .u32 (x.2 : Int)]) rfl rfl)) rfl (by decide) fill2_1 ?_)
  clear hS; intro g4 w5 hS
  obtain hS := (show Sep w [.lst 42 2 pB i cB (rpE (L.reverse.take i)), .blk g4 [.int .u32 (((x.1 : Nat) : Int)), .int .u32 (((x.2 : Nat) : Int))] 42, .rowm pV nV cV (lim ((cv L).1)), .rowm pM nM cM (lim ((cv L).2))] w5 from hS.pick [3, 0, 1, 2] (by decide) rfl)
  refine wl rfl (oappendL (p := pB) (m := i) (c := cB) (g2 := g4) (c2 := 1) (off := 0) [.int .u32 (x.1 : Int), .int .u32 (x.2 : Int)] [] hS rfl rfl Tryz.underlying37 infoRest rfl (by decide) (ev (v := .slice pB i cB) rfl rfl) (ev (v := .slice (some ⟨g4, 0, none⟩) 1 1) rfl rfl) (fun j v hj => by rw [Nat.zero_add]; exact (blk_cell (hS.blkAt 1 rfl) j).trans hj) rfl rfl rfl (by omega) (by omega) ?_)
  clear hS; intro p7 c8 w6 hS
  refine wl rfl (oassign (v := .slice p7 ((i + 1)) c8) rfl rfl (ev rfl rfl) ?_)
  refine wnil ?_
  refine thenN ?_
  refine wseq ?_
  refine wstage 31 [42, 43, 44, 45, 46, 47, 48, 49, 50, 51, 52, 53, 54, 55, 56, 57, 58, 59, 60, 61, 62, 63, 64, 65, 66, 67, 68, 69, 70, 71, 72] [[], [0], [], [], [2, 3], [4, 2, 3], [5, 2, 3, 4], [1, 6, 0, 2, 3, 4, 5], [], [], [8, 9], [10, 8, 9], [11, 8, 9, 10], [], [], [13, 14], [15, 13, 14], [16, 13, 14, 15], [12, 17, 8, 9, 10, 11, 13, 14, 15, 16], [7, 18, 0, 1, 2, 3, 4, 5, 6, 8, 9, 10, 11, 12, 13, 14, 15, 16, 17], [19, 0, 1, 2, 3, 4, 5, 6, 7, 8, 9, 10, 11, 12, 13, 14, 15, 16, 17, 18], [20, 0, 1, 2, 3, 4, 5, 6, 7, 8, 9, 10, 11, 12, 13, 14, 15, 16, 17, 18, 19], [20, 21, 0, 1, 2, 3, 4, 5, 6, 7, 8, 9, 10, 11, 12, 13, 14, 15, 16, 17, 18, 19], [20, 0, 1, 2, 3, 4, 5, 6, 7, 8, 9, 10, 11, 12, 13, 14, 15, 16, 17, 18, 19], [20, 0, 1, 2, 3, 4, 5, 6, 7, 8, 9, 10, 11, 12, 13, 14, 15, 16, 17, 18, 19], [20, 23, 24, 0, 1, 2, 3, 4, 5, 6, 7, 8, 9, 10, 11, 12, 13, 14, 15, 16, 17, 18, 19], [20, 25, 0, 1, 2, 3, 4, 5, 6, 7, 8, 9, 10, 11, 12, 13, 14, 15, 16, 17, 18, 19, 23, 24], [20, 26, 0, 1, 2, 3, 4, 5, 6, 7, 8, 9, 10, 11, 12, 13, 14, 15, 16, 17, 18, 19, 23, 24, 25], [20, 22, 27, 0, 1, 2, 3, 4, 5, 6, 7, 8, 9, 10, 11, 12, 13, 14, 15, 16, 17, 18, 19, 21, 23, 24, 25, 26], [20, 28, 0, 1, 2, 3, 4, 5, 6, 7, 8, 9, 10, 11, 12, 13, 14, 15, 16, 17, 18, 19, 21, 22, 23, 24, 25, 26, 27], [20, 29, 0, 1, 2, 3, 4, 5, 6, 7, 8, 9, 10, 11, 12, 13, 14, 15, 16, 17, 18, 19, 21, 22, 23, 24, 25, 26, 27, 28]] [[], [], [], [], [], [], [], [], [], [], [], [], [], [], [], [], [], [], [], [], [], [], [], [], [], [], [], [], [], [], []] [] [] (fun i9 => ([fun _ => Is (.slice pV nV cV), fun _ => Is (.agg #[.bool false, .slice pV nV cV]), fun _ => Is (.slice p n c), fun _ => Is (.int .i64 (i : Int)), fun _ => Is (.pointer (some ⟨b2, (off2 + i * 2), none⟩)), fun _ => Is (.pointer (some ⟨b2, ((off2 + i * 2) + 1), none⟩)), fun _ => Is (.int .u32 (y.2 : Int)), fun _ => Is (.int .u32 ((((cv L).1 % y.2 : Nat) : Int))), fun _ => Is (.slice p n c), fun _ => Is (.int .i64 (i : Int)), fun _ => Is (.pointer (some ⟨b2, (off2 + i * 2), none⟩)), fun _ => Is (.pointer (some ⟨b2, ((off2 + i * 2) + 0), none⟩)), fun _ => Is (.int .u32 (y.1 : Int)), fun _ => Is (.slice p n c), fun _ => Is (.int .i64 (i : Int)), fun _ => Is (.pointer (some ⟨b2, (off2 + i * 2), none⟩)), fun _ => Is (.pointer (some ⟨b2, ((off2 + i * 2) + 1), none⟩)), fun _ => Is (.int .u32 (y.2 : Int)), fun _ => Is (.int .u32 (((y.1 % y.2 : Nat) : Int))), fun _ => Is (.bool false), fun _ => Is (.bool false), fun _ => Is (.slice pM nM cM), fun _ => Is (.agg #[.bool false, .slice pM nM cM]), fun _ => Is (.slice p n c), fun _ => Is (.int .i64 (i : Int)), fun _ => Is (.pointer (some ⟨b2, (off2 + i * 2), none⟩)), fun _ => Is (.pointer (some ⟨b2, ((off2 + i * 2) + 1), none⟩)), fun _ => Is (.int .u32 (y.2 : Int)), fun _ => Is (.int .u32 ((((cv L).2 % y.2 : Nat) : Int))), fun _ => Is (.bool false), fun _ => Is (.bool false)] : List (List Value → Tell)).getD i9 (fun _ _ _ => False)) (heldNil) (fun d _ _ _ _ h => (by cases d <;> exact h)) (by kernel_rfl) (by kernel_rfl) (by kernel_rfl) hS ?_ ?_
  ·
   refine stepsCons rfl (fun Q f' w' ρ S ho hT hS hB => ?_) ?_
   ·exact .inl ⟨want_none rfl, omove (v := .slice pV nV cV) rfl rfl (ev rfl (ho 3 rfl)) ⟨_, _, rfl, isI, New.same _⟩⟩
   refine stepsCons rfl (fun Q f' w' ρ S ho hT hS hB => ?_) ?_
   ·obtain ⟨hv0, hr0⟩ := (hT 0 42 rfl rfl : (Is (.slice pV nV cV)) _ _)
    obtain hS := hS.flat1 hr0
    exact .inl ⟨want_none rfl, obuild (ps := #[(1, .slice pV nV cV)]) (v := .agg #[.bool false, .slice pV nV cV]) rfl rfl (parts1 (ev (v := .slice pV nV cV) rfl hv0)) (fun w => by simp [go_sem, Instr.build, Instr.fill]) ⟨_, _, rfl, isI, New.same _⟩⟩
   refine stepsCons rfl (fun Q f' w' ρ S ho hT hS hB => ?_) ?_
   ·exact .inl ⟨want_none rfl, omove (v := .slice p n c) rfl rfl (ev rfl (ho 0 rfl)) ⟨_, _, rfl, isI, New.same _⟩⟩
   refine stepsCons rfl (fun Q f' w' ρ S ho hT hS hB => ?_) ?_
   ·exact .inl ⟨want_none rfl, omove (v := .int .i64 (i : Int)) rfl rfl (ev rfl (ho 7 rfl)) ⟨_, _, rfl, isI, New.same _⟩⟩
   refine stepsCons rfl (fun Q f' w' ρ S ho hT hS hB => ?_) ?_
   ·obtain ⟨hv2, hr2⟩ := (hT 2 44 rfl rfl : (Is (.slice p n c)) _ _)
    obtain ⟨hv3, hr3⟩ := (hT 3 45 rfl rfl : (Is (.int .i64 (((i : Nat) : Int)))) _ _)
    obtain hS := hS.flat2 hr2 hr3
    exact .inl ⟨want_none rfl, oindex (p := p) (g := b2) (off := off2) (m := n) (k := i) (j := (off2 + i * 2)) rfl rfl Tryz.runUnderlying37 Tryz.sizeOf42 (ev rfl hv2) (hpy) (ev rfl hv3) (hlt) rfl ⟨_, _, rfl, isI, New.same _⟩⟩
   refine stepsCons rfl (fun Q f' w' ρ S ho hT hS hB => ?_) ?_
   ·obtain ⟨hv4, hr4⟩ := (hT 4 46 rfl rfl : (Is (.pointer (some ⟨b2, (off2 + i * 2), none⟩))) _ _)
    obtain hS := hS.flat1 hr4
    exact .inl ⟨want_none rfl, ofieldAddr (g := b2) (off := (off2 + i * 2)) ((off2 + i * 2) + 1) rfl rfl (ev rfl hv4) Tryz.runUnderlying42 rfl Tryz.sizeOf40 rfl ⟨_, _, rfl, isI, New.same _⟩⟩
   refine stepsCons rfl (fun Q f' w' ρ S ho hT hS hB => ?_) ?_
   ·obtain ⟨hv5, hr5⟩ := (hT 5 47 rfl rfl : (Is (.pointer (some ⟨b2, ((off2 + i * 2) + 1), none⟩))) _ _)
    obtain hS := hS.flat1 hr5
    exact .inl ⟨want_none rfl, oloadc (v := .int .u32 (y.2 : Int)) one32 rfl rfl (ev (v := .pointer (some ⟨b2, ((off2 + i * 2) + 1), none⟩)) rfl hv5) (hS.cellAt ((cell_sub (us := [.int .u32 (y.2 : Int)]) hcy 1 rfl) 0 _ rfl)) ⟨_, _, rfl, isI, New.same _⟩⟩
   refine stepsCons rfl (fun Q f' w' ρ S ho hT hS hB => ?_) ?_
   ·obtain ⟨hv1, hr1⟩ := (hT 1 43 rfl rfl : (Is (.agg #[.bool false, .slice pV nV cV])) _ _)
    obtain ⟨hv6, hr6⟩ := (hT 6 48 rfl rfl : (Is (.int .u32 (((y.2 : Nat) : Int)))) _ _)
    obtain hS := hS.flat2 hr1 hr6
    exact .inl ⟨want_none rfl, ocall rfl rfl Tryz.call19 rfl (wqmodN (((hS.slm 2 rfl).nr hwV).mono (by omega)) (by omega) (by omega)) (args2 (ev rfl hv1) (ev rfl hv6)) callN⟩
   refine stepsCons rfl (fun Q f' w' ρ S ho hT hS hB => ?_) ?_
   ·exact .inl ⟨want_none rfl, omove (v := .slice p n c) rfl rfl (ev rfl (ho 0 rfl)) ⟨_, _, rfl, isI, New.same _⟩⟩
   refine stepsCons rfl (fun Q f' w' ρ S ho hT hS hB => ?_) ?_
   ·exact .inl ⟨want_none rfl, omove (v := .int .i64 (i : Int)) rfl rfl (ev rfl (ho 7 rfl)) ⟨_, _, rfl, isI, New.same _⟩⟩
   refine stepsCons rfl (fun Q f' w' ρ S ho hT hS hB => ?_) ?_
   ·obtain ⟨hv8, hr8⟩ := (hT 8 50 rfl rfl : (Is (.slice p n c)) _ _)
    obtain ⟨hv9, hr9⟩ := (hT 9 51 rfl rfl : (Is (.int .i64 (((i : Nat) : Int)))) _ _)
    obtain hS := hS.flat2 hr8 hr9
    exact .inl ⟨want_none rfl, oindex (p := p) (g := b2) (off := off2) (m := n) (k := i) (j := (off2 + i * 2)) rfl rfl Tryz.runUnderlying37 Tryz.sizeOf42 (ev rfl hv8) (hpy) (ev rfl hv9) (hlt) rfl ⟨_, _, rfl, isI, New.same _⟩⟩
   refine stepsCons rfl (fun Q f' w' ρ S ho hT hS hB => ?_) ?_
   ·obtain ⟨hv10, hr10⟩ := (hT 10 52 rfl rfl : (Is (.pointer (some ⟨b2, (off2 + i * 2), none⟩))) _ _)
    obtain hS := hS.flat1 hr10
    exact .inl ⟨want_none rfl, ofieldAddr (g := b2) (off := (off2 + i * 2)) ((off2 + i * 2) + 0) rfl rfl (ev rfl hv10) Tryz.runUnderlying42 rfl Tryz.sizeOf40 rfl ⟨_, _, rfl, isI, New.same _⟩⟩
   refine stepsCons rfl (fun Q f' w' ρ S ho hT hS hB => ?_) ?_
   ·obtain ⟨hv11, hr11⟩ := (hT 11 53 rfl rfl : (Is (.pointer (some ⟨b2, ((off2 + i * 2) + 0), none⟩))) _ _)
    obtain hS := hS.flat1 hr11
    exact .inl ⟨want_none rfl, oloadc (v := .int .u32 (y.1 : Int)) one32 rfl rfl (ev (v := .pointer (some ⟨b2, ((off2 + i * 2) + 0), none⟩)) rfl hv11) (hS.cellAt ((cell_sub (us := [.int .u32 (y.1 : Int)]) hcy 0 rfl) 0 _ rfl)) ⟨_, _, rfl, isI, New.same _⟩⟩
   refine stepsCons rfl (fun Q f' w' ρ S ho hT hS hB => ?_) ?_
   ·exact .inl ⟨want_none rfl, omove (v := .slice p n c) rfl rfl (ev rfl (ho 0 rfl)) ⟨_, _, rfl, isI, New.same _⟩⟩
   refine stepsCons rfl (fun Q f' w' ρ S ho hT hS hB => ?_) ?_
   ·exact .inl ⟨want_none rfl, omove (v := .int .i64 (i : Int)) rfl rfl (ev rfl (ho 7 rfl)) ⟨_, _, rfl, isI, New.same _⟩⟩
   refine stepsCons rfl (fun Q f' w' ρ S ho hT hS hB => ?_) ?_
   ·obtain ⟨hv13, hr13⟩ := (hT 13 55 rfl rfl : (Is (.slice p n c)) _ _)
    obtain ⟨hv14, hr14⟩ := (hT 14 56 rfl rfl : (Is (.int .i64 (((i : Nat) : Int)))) _ _)
    obtain hS := hS.flat2 hr13 hr14
    exact .inl ⟨want_none rfl, oindex (p := p) (g := b2) (off := off2) (m := n) (k := i) (j := (off2 + i * 2)) rfl rfl Tryz.runUnderlying37 Tryz.sizeOf42 (ev rfl hv13) (hpy) (ev rfl hv14) (hlt) rfl ⟨_, _, rfl, isI, New.same _⟩⟩
   refine stepsCons rfl (fun Q f' w' ρ S ho hT hS hB => ?_) ?_
   ·obtain ⟨hv15, hr15⟩ := (hT 15 57 rfl rfl : (Is (.pointer (some ⟨b2, (off2 + i * 2), none⟩))) _ _)
    obtain hS := hS.flat1 hr15
    exact .inl ⟨want_none rfl, ofieldAddr (g := b2) (off := (off2 + i * 2)) ((off2 + i * 2) + 1) rfl rfl (ev rfl hv15) Tryz.runUnderlying42 rfl Tryz.sizeOf40 rfl ⟨_, _, rfl, isI, New.same _⟩⟩
   refine stepsCons rfl (fun Q f' w' ρ S ho hT hS hB => ?_) ?_
   ·obtain ⟨hv16, hr16⟩ := (hT 16 58 rfl rfl : (Is (.pointer (some ⟨b2, ((off2 + i * 2) + 1), none⟩))) _ _)
    obtain hS := hS.flat1 hr16
    exact .inl ⟨want_none rfl, oloadc (v := .int .u32 (y.2 : Int)) one32 rfl rfl (ev (v := .pointer (some ⟨b2, ((off2 + i * 2) + 1), none⟩)) rfl hv16) (hS.cellAt ((cell_sub (us := [.int .u32 (y.2 : Int)]) hcy 1 rfl) 0 _ rfl)) ⟨_, _, rfl, isI, New.same _⟩⟩
   refine stepsCons rfl (fun Q f' w' ρ S ho hT hS hB => ?_) ?_
   ·obtain ⟨hv12, hr12⟩ := (hT 12 54 rfl rfl : (Is (.int .u32 (((y.1 : Nat) : Int)))) _ _)
    obtain ⟨hv17, hr17⟩ := (hT 17 59 rfl rfl : (Is (.int .u32 (((y.2 : Nat) : Int)))) _ _)
    obtain hS := hS.flat2 hr12 hr17
    exact .inl ⟨want_none rfl, obin (u := .int .u32 (y.1 : Int)) (v := .int .u32 (y.2 : Int)) (z := .int .u32 (((y.1 % y.2 : Nat) : Int))) rfl rfl (ev rfl hv12) (ev rfl hv17) (bin_rem (by omega) rfl) ⟨_, _, rfl, isI, New.same _⟩⟩
   refine stepsCons rfl (fun Q f' w' ρ S ho hT hS hB => ?_) ?_
   ·obtain ⟨hv7, hr7⟩ := (hT 7 49 rfl rfl : (Is (.int .u32 ((((cv L).1 % y.2 : Nat) : Int)))) _ _)
    obtain ⟨hv18, hr18⟩ := (hT 18 60 rfl rfl : (Is (.int .u32 (((y.1 % y.2 : Nat) : Int)))) _ _)
    obtain hS := hS.flat2 hr7 hr18
    exact .inl ⟨want_none rfl, obin (u := .int .u32 ((((cv L).1 % y.2 : Nat) : Int))) (v := .int .u32 (((y.1 % y.2 : Nat) : Int))) (z := .bool false) rfl rfl (ev rfl hv7) (ev rfl hv18) (bin_neq (neF (by have := hsay.1; omega))) ⟨_, _, rfl, isI, New.same _⟩⟩
   refine stepsCons rfl (fun Q f' w' ρ S ho hT hS hB => ?_) ?_
   ·obtain ⟨hv19, hr19⟩ := (hT 19 61 rfl rfl : (Is (.bool false)) _ _)
    obtain hS := hS.flat1 hr19
    exact .inl ⟨want_none rfl, omove (v := .bool false) rfl rfl (ev rfl hv19) ⟨_, _, rfl, isI, New.same _⟩⟩
   refine stepsCons rfl (fun Q f' w' ρ S ho hT hS hB => ?_) ?_
   ·obtain ⟨hv20, hr20⟩ := (hT 20 62 rfl rfl : (Is (.bool false)) _ _)
    obtain hS := hS.flat1 hr20
    exact .inl ⟨want_on (e := 62) rfl rfl rfl hv20, omove (v := .slice pM nM cM) rfl rfl (ev rfl (ho 4 rfl)) ⟨_, _, rfl, isI, New.same _⟩⟩
   refine stepsCons rfl (fun Q f' w' ρ S ho hT hS hB => ?_) ?_
   ·obtain ⟨hv20, hr20⟩ := (hT 20 62 rfl rfl : (Is (.bool false)) _ _)
    obtain ⟨hv21, hr21⟩ := (hT 21 63 rfl rfl : (Is (.slice pM nM cM)) _ _)
    obtain hS := hS.flat2 hr20 hr21
    exact .inl ⟨want_on (e := 62) rfl rfl rfl hv20, obuild (ps := #[(1, .slice pM nM cM)]) (v := .agg #[.bool false, .slice pM nM cM]) rfl rfl (parts1 (ev (v := .slice pM nM cM) rfl hv21)) (fun w => by simp [go_sem, Instr.build, Instr.fill]) ⟨_, _, rfl, isI, New.same _⟩⟩
   refine stepsCons rfl (fun Q f' w' ρ S ho hT hS hB => ?_) ?_
   ·obtain ⟨hv20, hr20⟩ := (hT 20 62 rfl rfl : (Is (.bool false)) _ _)
    obtain hS := hS.flat1 hr20
    exact .inl ⟨want_on (e := 62) rfl rfl rfl hv20, omove (v := .slice p n c) rfl rfl (ev rfl (ho 0 rfl)) ⟨_, _, rfl, isI, New.same _⟩⟩
   refine stepsCons rfl (fun Q f' w' ρ S ho hT hS hB => ?_) ?_
   ·obtain ⟨hv20, hr20⟩ := (hT 20 62 rfl rfl : (Is (.bool false)) _ _)
    obtain hS := hS.flat1 hr20
    exact .inl ⟨want_on (e := 62) rfl rfl rfl hv20, omove (v := .int .i64 (i : Int)) rfl rfl (ev rfl (ho 7 rfl)) ⟨_, _, rfl, isI, New.same _⟩⟩
   refine stepsCons rfl (fun Q f' w' ρ S ho hT hS hB => ?_) ?_
   ·obtain ⟨hv20, hr20⟩ := (hT 20 62 rfl rfl : (Is (.bool false)) _ _)
    obtain ⟨hv23, hr23⟩ := (hT 23 65 rfl rfl : (Is (.slice p n c)) _ _)
    obtain ⟨hv24, hr24⟩ := (hT 24 66 rfl rfl : (Is (.int .i64 (((i : Nat) : Int)))) _ _)
    obtain hS := hS.flat3 hr20 hr23 hr24
    exact .inl ⟨want_on (e := 62) rfl rfl rfl hv20, oindex (p := p) (g := b2) (off := off2) (m := n) (k := i) (j := (off2 + i * 2)) rfl rfl Tryz.runUnderlying37 Tryz.sizeOf42 (ev rfl hv23) (hpy) (ev rfl hv24) (hlt) rfl ⟨_, _, rfl, isI, New.same _⟩⟩
   refine stepsCons rfl (fun Q f' w' ρ S ho hT hS hB => ?_) ?_
   ·obtain ⟨hv20, hr20⟩ := (hT 20 62 rfl rfl : (Is (.bool false)) _ _)
    obtain ⟨hv25, hr25⟩ := (hT 25 67 rfl rfl : (Is (.pointer (some ⟨b2, (off2 + i * 2), none⟩))) _ _)
    obtain hS := hS.flat2 hr20 hr25
    exact .inl ⟨want_on (e := 62) rfl rfl rfl hv20, ofieldAddr (g := b2) (off := (off2 + i * 2)) ((off2 + i * 2) + 1) rfl rfl (ev rfl hv25) Tryz.runUnderlying42 rfl Tryz.sizeOf40 rfl ⟨_, _, rfl, isI, New.same _⟩⟩
   refine stepsCons rfl (fun Q f' w' ρ S ho hT hS hB => ?_) ?_
   ·obtain ⟨hv20, hr20⟩ := (hT 20 62 rfl rfl : (Is (.bool false)) _ _)
    obtain ⟨hv26, hr26⟩ := (hT 26 68 rfl rfl : (Is (.pointer (some ⟨b2, ((off2 + i * 2) + 1), none⟩))) _ _)
    obtain hS := hS.flat2 hr20 hr26
    exact .inl ⟨want_on (e := 62) rfl rfl rfl hv20, oloadc (v := .int .u32 (y.2 : Int)) one32 rfl rfl (ev (v := .pointer (some ⟨b2, ((off2 + i * 2) + 1), none⟩)) rfl hv26) (hS.cellAt ((cell_sub (us := [.int .u32 (y.2 : Int)]) hcy 1 rfl) 0 _ rfl)) ⟨_, _, rfl, isI, New.same _⟩⟩
   refine stepsCons rfl (fun Q f' w' ρ S ho hT hS hB => ?_) ?_
   ·obtain ⟨hv20, hr20⟩ := (hT 20 62 rfl rfl : (Is (.bool false)) _ _)
    obtain ⟨hv22, hr22⟩ := (hT 22 64 rfl rfl : (Is (.agg #[.bool false, .slice pM nM cM])) _ _)
    obtain ⟨hv27, hr27⟩ := (hT 27 69 rfl rfl : (Is (.int .u32 (((y.2 : Nat) : Int)))) _ _)
    obtain hS := hS.flat3 hr20 hr22 hr27
    exact .inl ⟨want_on (e := 62) rfl rfl rfl hv20, ocall rfl rfl Tryz.call19 rfl (wqmodN (((hS.slm 3 rfl).nr hwM).mono (by omega)) (by omega) (by omega)) (args2 (ev rfl hv22) (ev rfl hv27)) callN⟩
   refine stepsCons rfl (fun Q f' w' ρ S ho hT hS hB => ?_) ?_
   ·obtain ⟨hv20, hr20⟩ := (hT 20 62 rfl rfl : (Is (.bool false)) _ _)
    obtain ⟨hv28, hr28⟩ := (hT 28 70 rfl rfl : (Is (.int .u32 ((((cv L).2 % y.2 : Nat) : Int)))) _ _)
    obtain hS := hS.flat2 hr20 hr28
    exact .inl ⟨want_on (e := 62) rfl rfl rfl hv20, obin (u := .int .u32 ((((cv L).2 % y.2 : Nat) : Int))) (v := .int .u32 0) (z := .bool false) rfl rfl (ev rfl hv28) evc (bin_neq (neF (by have := Nat.mod_eq_zero_of_dvd hsay.2; omega))) ⟨_, _, rfl, isI, New.same _⟩⟩
   refine stepsCons rfl (fun Q f' w' ρ S ho hT hS hB => ?_) ?_
   ·obtain ⟨hv20, hr20⟩ := (hT 20 62 rfl rfl : (Is (.bool false)) _ _)
    obtain ⟨hv29, hr29⟩ := (hT 29 71 rfl rfl : (Is (.bool false)) _ _)
    obtain hS := hS.flat2 hr20 hr29
    exact .inl ⟨want_none rfl, opick (b := false) (v := .bool false) rfl rfl (ev rfl hv20) (ev rfl hv29) ⟨_, _, rfl, isI, New.same _⟩⟩
   exact stepsNil
  ·
   intro vs ρ w9 f' hf hT hS
   obtain ⟨hv0, hr0⟩ := (hT 0 (by decide) : (Is (.slice pV nV cV)) _ _)
   obtain ⟨hv1, hr1⟩ := (hT 1 (by decide) : (Is (.agg #[.bool false, .slice pV nV cV])) _ _)
   obtain ⟨hv2, hr2⟩ := (hT 2 (by decide) : (Is (.slice p n c)) _ _)
   obtain ⟨hv3, hr3⟩ := (hT 3 (by decide) : (Is (.int .i64 (((i : Nat) : Int)))) _ _)
   obtain ⟨hv4, hr4⟩ := (hT 4 (by decide) : (Is (.pointer (some ⟨b2, (off2 + i * 2), none⟩))) _ _)
   obtain ⟨hv5, hr5⟩ := (hT 5 (by decide) : (Is (.pointer (some ⟨b2, ((off2 + i * 2) + 1), none⟩))) _ _)
   obtain ⟨hv6, hr6⟩ := (hT 6 (by decide) : (Is (.int .u32 (((y.2 : Nat) : Int)))) _ _)
   obtain ⟨hv7, hr7⟩ := (hT 7 (by decide) : (Is (.int .u32 ((((cv L).1 % y.2 : Nat) : Int)))) _ _)
   obtain ⟨hv8, hr8⟩ := (hT 8 (by decide) : (Is (.slice p n c)) _ _)
   obtain ⟨hv9, hr9⟩ := (hT 9 (by decide) : (Is (.int .i64 (((i : Nat) : Int)))) _ _)
   obtain ⟨hv10, hr10⟩ := (hT 10 (by decide) : (Is (.pointer (some ⟨b2, (off2 + i * 2), none⟩))) _ _)
   obtain ⟨hv11, hr11⟩ := (hT 11 (by decide) : (Is (.pointer (some ⟨b2, ((off2 + i * 2) + 0), none⟩))) _ _)
   obtain ⟨hv12, hr12⟩ := (hT 12 (by decide) : (Is (.int .u32 (((y.1 : Nat) : Int)))) _ _)
   obtain ⟨hv13, hr13⟩ := (hT 13 (by decide) : (Is (.slice p n c)) _ _)
   obtain ⟨hv14, hr14⟩ := (hT 14 (by decide) : (Is (.int .i64 (((i : Nat) : Int)))) _ _)
   obtain ⟨hv15, hr15⟩ := (hT 15 (by decide) : (Is (.pointer (some ⟨b2, (off2 + i * 2), none⟩))) _ _)
   obtain ⟨hv16, hr16⟩ := (hT 16 (by decide) : (Is (.pointer (some ⟨b2, ((off2 + i * 2) + 1), none⟩))) _ _)
   obtain ⟨hv17, hr17⟩ := (hT 17 (by decide) : (Is (.int .u32 (((y.2 : Nat) : Int)))) _ _)
   obtain ⟨hv18, hr18⟩ := (hT 18 (by decide) : (Is (.int .u32 (((y.1 % y.2 : Nat) : Int)))) _ _)
   obtain ⟨hv19, hr19⟩ := (hT 19 (by decide) : (Is (.bool false)) _ _)
   obtain ⟨hv20, hr20⟩ := (hT 20 (by decide) : (Is (.bool false)) _ _)
   obtain ⟨hv21, hr21⟩ := (hT 21 (by decide) : (Is (.slice pM nM cM)) _ _)
   obtain ⟨hv22, hr22⟩ := (hT 22 (by decide) : (Is (.agg #[.bool false, .slice pM nM cM])) _ _)
   obtain ⟨hv23, hr23⟩ := (hT 23 (by decide) : (Is (.slice p n c)) _ _)
   obtain ⟨hv24, hr24⟩ := (hT 24 (by decide) : (Is (.int .i64 (((i : Nat) : Int)))) _ _)
   obtain ⟨hv25, hr25⟩ := (hT 25 (by decide) : (Is (.pointer (some ⟨b2, (off2 + i * 2), none⟩))) _ _)
   obtain ⟨hv26, hr26⟩ := (hT 26 (by decide) : (Is (.pointer (some ⟨b2, ((off2 + i * 2) + 1), none⟩))) _ _)
   obtain ⟨hv27, hr27⟩ := (hT 27 (by decide) : (Is (.int .u32 (((y.2 : Nat) : Int)))) _ _)
   obtain ⟨hv28, hr28⟩ := (hT 28 (by decide) : (Is (.int .u32 ((((cv L).2 % y.2 : Nat) : Int)))) _ _)
   obtain ⟨hv29, hr29⟩ := (hT 29 (by decide) : (Is (.bool false)) _ _)
   obtain ⟨hv30, hr30⟩ := (hT 30 (by decide) : (Is (.bool false)) _ _)
   simp only [pool, if_true, hr0, hr1, hr2, hr3, hr4, hr5, hr6, hr7, hr8, hr9, hr10, hr11, hr12, hr13, hr14, hr15, hr16, hr17, hr18, hr19, hr20, hr21, hr22, hr23, hr24, hr25, hr26, hr27, hr28, hr29, hr30, List.nil_append, List.cons_append, List.append_nil] at hS
   simp only [layf, hv0, hv1, hv2, hv3, hv4, hv5, hv6, hv7, hv8, hv9, hv10, hv11, hv12, hv13, hv14, hv15, hv16, hv17, hv18, hv19, hv20, hv21, hv22, hv23, hv24, hv25, hv26, hv27, hv28, hv29, hv30] at hf
   subst hf; clear hT hv0 hv1 hv2 hv3 hv4 hv5 hv6 hv7 hv8 hv9 hv10 hv11 hv12 hv13 hv14 hv15 hv16 hv17 hv18 hv19 hv20 hv21 hv22 hv23 hv24 hv25 hv26 hv27 hv28 hv29 hv30 hr0 hr1 hr2 hr3 hr4 hr5 hr6 hr7 hr8 hr9 hr10 hr11 hr12 hr13 hr14 hr15 hr16 hr17 hr18 hr19 hr20 hr21 hr22 hr23 hr24 hr25 hr26 hr27 hr28 hr29 hr30
   refine wdone rfl ?_
   refine thenN ?_
   refine wF (ev rfl rfl) ?_
   refine wskip ?_
   refine blkN ?_
   refine thenN ?_
   refine wreg ?_
   refine wl rfl (obin (u := .int .i64 (i : Int)) (v := .int .i64 1) (z := .int .i64 (((i + 1 : Nat) : Int))) rfl rfl (ev rfl rfl) evc (bin_add (wrap_i64 (by omega) (by omega))) ?_)
   refine wl rfl (omove (v := .int .i64 (((i + 1 : Nat) : Int))) rfl rfl (ev rfl rfl) ?_)
   refine wnil ?_
   refine thenN ?_
   rw [← rpE_app, show L.reverse.take i ++ [(x.1, x.2)] = L.reverse.take (i + 1) from (take_next (rev_get hn1 hlt hx)).symm] at hS
   exact ⟨(i + 1), ⟨_, _, _, act_sets (l := [(0, .slice p n c), (3, .slice pV nV cV), (4, .slice pM nM cM), (6, .slice p7 ((i + 1)) c8), (27, .int .i64 (n : Int)), (28, .int .i64 (((i + 1 : Nat) : Int)))]) ⟨rfl, rfl, rfl, rfl, rfl, rfl, trivial⟩, hS.pick [2, 3, 0] (by decide) rfl, by omega⟩, by omega⟩
 ·
  refine wl rfl (obin (u := .int .i64 (i : Int)) (v := .int .i64 (n : Int)) (z := .bool false) rfl rfl (ev rfl rfl) (ev rfl rfl) (bin_lss (decide_eq_false (by omega))) ?_)
  refine wnil ?_
  refine thenN ?_
  refine wseq ?_
  refine wF (ev rfl rfl) ?_
  refine wexit ?_
  refine thenE ?_
  refine thenE ?_
  refine blkE ?_
  refine thenN ?_
  refine wseq ?_
  refine wreg ?_
  refine wl rfl (omove (v := .slice pB i cB) rfl rfl (ev rfl rfl) ?_)
  have hn1 := hL.1
  have hLr : L.reverse.take i = L.reverse := List.take_of_length_le (by rw [List.length_reverse]; omega)
  rw [hLr] at hS
  have hpm := (List.reverse_perm L).symm
  have hgr := hgd.perm hpm
  have hcr := cv_perm hgd hpm
  refine wl rfl (ocall rfl rfl Tryz.call18 rfl ((show Calls _ _ _ _ (Ret (NNEt (cv L).1 (cv L).2 0) _) from by rw [hcr]; exact wcof (ht.at hS) (hS.rsl 2 rfl (by rw [List.length_reverse]; omega)) (fun x hx => h32 x (List.mem_reverse.1 hx)) (by rw [List.length_reverse]; exact hlen) hgr)) (args1 (ev rfl rfl)) ?_)
  rintro _ w4 ⟨_, _, rfl, ⟨pW, nW, cW, pN, nN, cN, rfl, rfl⟩, hN⟩
  refine ⟨_, rfl, ?_⟩
  replace hS := hS.news hN; clear hN
  refine wl rfl (omove (v := .tuple #[.slice pW nW cW, .slice pN nN cN, .int .i64 0]) rfl rfl (ev rfl rfl) ?_)
  refine wl rfl (oextract (vs := [.slice pW nW cW, .slice pN nN cN, .int .i64 0]) (v := .slice pW nW cW) rfl rfl (ev rfl rfl) rfl ?_)
  refine wl rfl (oextract (vs := [.slice pW nW cW, .slice pN nN cN, .int .i64 0]) (v := .slice pN nN cN) rfl rfl (ev rfl rfl) rfl ?_)
  refine wl rfl (oextract (vs := [.slice pW nW cW, .slice pN nN cN, .int .i64 0]) (v := .int .i64 0) rfl rfl (ev rfl rfl) rfl ?_)
  refine wl rfl (oassign (v := .slice pW nW cW) rfl rfl (ev rfl rfl) ?_)
  refine wl rfl (oassign (v := .slice pN nN cN) rfl rfl (ev rfl rfl) ?_)
  refine wl rfl (oassign (v := .int .i64 0) rfl rfl (ev rfl rfl) ?_)
  refine wnil ?_
  refine thenN ?_
  refine wseq ?_
  refine wreg ?_
  refine wl rfl (omove (v := .slice pV nV cV) rfl rfl (ev rfl rfl) ?_)
  refine wl rfl (omove (v := .slice pM nM cM) rfl rfl (ev rfl rfl) ?_)
  obtain ⟨s1, hs1⟩ : ∃ z : Int, Hid (cmpN ((cv L).1) ((cv L).2) = z) := ⟨_, rfl⟩
  refine wl rfl (ocall rfl rfl Tryz.call20 rfl (wmcmp ((hS.slm 2 rfl).nr hwV) ((hS.slm 3 rfl).nr hwM) hs1) (args2 (ev rfl rfl) (ev rfl rfl)) ?_)
  rintro _ w5 ⟨_, _, rfl, ⟨rfl, rfl⟩, hN⟩
  refine ⟨_, rfl, ?_⟩
  replace hS := hS.news hN; clear hN
  refine wl rfl (obin (u := .int .i64 s1) (v := .int .i64 0) (z := .bool true) rfl rfl (ev rfl rfl) evc (bin_lss (decide_eq_true (by rw [← hs1.out]; have := cmpN_below (cv_lt hgd); omega))) ?_)
  refine wl rfl (omove (v := .bool true) rfl rfl (ev rfl rfl) ?_)
  refine wlOn (e := 84) rfl rfl rfl rfl (omove (v := .int .i64 0) rfl rfl (ev rfl rfl) ?_)
  refine wlOn (e := 84) rfl rfl rfl rfl (ocall rfl rfl Tryz.call13 rfl (wlnum6) (args1 (ev rfl rfl)) ?_)
  rintro _ w6 ⟨_, _, rfl, ⟨rfl, rfl⟩, hN⟩
  refine ⟨_, rfl, ?_⟩
  replace hS := hS.news hN; clear hN
  refine wlOn (e := 84) rfl rfl rfl rfl (obin (u := .int .i64 0) (v := .int .i64 0) (z := .bool true) rfl rfl (ev rfl rfl) evc (bin_eql (by decide)) ?_)
  refine wl rfl (opick (b := true) (v := .bool true) rfl rfl (ev rfl rfl) (ev rfl rfl) ?_)
  refine wl rfl (omove (v := .bool true) rfl rfl (ev rfl rfl) ?_)
  refine wlOn (e := 89) rfl rfl rfl rfl (omove (v := .slice pV nV cV) rfl rfl (ev rfl rfl) ?_)
  refine wlOn (e := 89) rfl rfl rfl rfl (omove (v := .slice pW nW cW) rfl rfl (ev rfl rfl) ?_)
  refine wlOn (e := 89) rfl rfl rfl rfl (ocall rfl rfl Tryz.call21 rfl (wlsame6 (x := (cv L).1) (y := (cv L).1) (hS.slm 2 rfl) (((hS.slm 0 rfl).nr hwV).mono (by omega)) (rfl)) (args2 (ev rfl rfl) (ev rfl rfl)) ?_)
  rintro _ w7 ⟨_, _, rfl, ⟨rfl, rfl⟩, hN⟩
  refine ⟨_, rfl, ?_⟩
  replace hS := hS.news hN; clear hN
  refine wl rfl (opick (b := true) (v := .bool true) rfl rfl (ev rfl rfl) (ev rfl rfl) ?_)
  refine wl rfl (omove (v := .bool true) rfl rfl (ev rfl rfl) ?_)
  refine wlOn (e := 94) rfl rfl rfl rfl (omove (v := .slice pM nM cM) rfl rfl (ev rfl rfl) ?_)
  refine wlOn (e := 94) rfl rfl rfl rfl (omove (v := .slice pN nN cN) rfl rfl (ev rfl rfl) ?_)
  refine wlOn (e := 94) rfl rfl rfl rfl (ocall rfl rfl Tryz.call21 rfl (wlsame6 (x := (cv L).2) (y := (cv L).2) (hS.slm 3 rfl) (((hS.slm 1 rfl).nr hwM).mono (by omega)) (rfl)) (args2 (ev rfl rfl) (ev rfl rfl)) ?_)
  rintro _ w8 ⟨_, _, rfl, ⟨rfl, rfl⟩, hN⟩
  refine ⟨_, rfl, ?_⟩
  replace hS := hS.news hN; clear hN
  refine wl rfl (opick (b := true) (v := .bool true) rfl rfl (ev rfl rfl) (ev rfl rfl) ?_)
  refine wl rfl (omove (v := .bool true) rfl rfl (ev rfl rfl) ?_)
  refine wlOn (e := 99) rfl rfl rfl rfl (ocall rfl rfl Tryz.call14 rfl (wlawake6 (ht.at hS)) (args0 ) ?_)
  rintro _ w9 ⟨_, _, rfl, ⟨rfl, rfl⟩, hN⟩
  refine ⟨_, rfl, ?_⟩
  replace hS := hS.news hN; clear hN
  refine wl rfl (opick (b := true) (v := .bool true) rfl rfl (ev rfl rfl) (ev rfl rfl) ?_)
  refine wl rfl (oassign (v := .bool true) rfl rfl (ev rfl rfl) ?_)
  refine wnil ?_
  refine thenN ?_
  refine wleave ?_
  refine wret1 Tryz.results5 (tellT (v := .bool true) rfl rfl) ?_
  exact ⟨_, _, rfl, isI, hS.new0⟩

theorem crtSays_walk {p : Option Addr} {n c : Nat} {L : List (Nat × Nat)} {w : World} (hL : RS w p n L) (h32 : ∀ x ∈ L, x.1 < 4294967296 ∧ x.2 < 4294967296) (h1 : Tab w) (h2 : Bases w) (hlen : L.length ≤ 1048576) : Calls Tryz.prog 5 #[.slice p n c] w (RetB w true) := by
  refine Ret.bool ?_
  by_cases hg : code [] L = 0
  · exact crtSays_yes ⟨h1, h2⟩ hL h32 hlen (code_gd.1 hg)
  · exact crtSays_no ⟨h1, h2⟩ hL h32 hlen hg
end Go.Proofs.YtjbcjlbbipohjaaGreatDoor
