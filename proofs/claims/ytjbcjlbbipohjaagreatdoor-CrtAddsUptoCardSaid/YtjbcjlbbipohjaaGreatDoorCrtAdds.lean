
/-
  The walk of similelaw06.CrtAdds.
-/
import Derived.Test.YtjbcjlbbipohjaaGreatDoorCrt5
import Derived.Test.YtjbcjlbbipohjaaGreatDoorLT
set_option linter.unusedVariables false
set_option linter.unusedSimpArgs false
set_option maxRecDepth 100000
set_option maxHeartbeats 16000000
namespace Go.Proofs.YtjbcjlbbipohjaaGreatDoor
open Go.RowKit
theorem crtAdds_walk0 {p : Option Addr} {n c : Nat} {L : List (Nat × Nat)} {w : World} (ht : Tb w) (hL : RS w p n L) (h32 : ∀ x ∈ L, x.1 < 4294967296 ∧ x.2 < 4294967296) (hlen : L.length ≤ 1048576)  :
  Calls Tryz.prog 11 #[.slice p n c] w (Ret (Is (.bool true)) w) := by
 have hS := Sep.init w
 refine went Tryz.func11 rfl (n := 156) rfl rfl ?_
 refine wseq (wreg (wl rfl (oassign (v := .bool false) rfl rfl evc ?_)))
 refine wnil (thenN (wseq (wreg (wl rfl (ocall rfl rfl Tryz.call37 rfl (wcnew) (args0 ) ?_)))))
 rintro _ w1 ⟨_, _, rfl, ⟨g1, s1, rfl, rfl⟩, hN⟩
 refine ⟨_, rfl, ?_⟩
 replace hS := hS.news hN; clear hN
 refine wl rfl (oassign (v := .pointer (some ⟨g1, 0, none⟩)) rfl rfl (ev rfl rfl) ?_)
 refine wnil (thenN (wseq (wseq (wreg (wl rfl (omove (v := .pointer (some ⟨g1, 0, none⟩)) rfl rfl (ev rfl rfl) ?_))))))
 refine wl rfl (obin (u := .pointer (some ⟨g1, 0, none⟩)) (v := .pointer none) (z := .bool false) rfl rfl (ev rfl rfl) evc (bin_eqlP Tryz.underlying64 rfl) ?_)
 refine wnil (thenN ?_)
 refine wF (ev rfl rfl) ?_
 refine wskip (thenN (wseq (wreg (wl rfl (ocall rfl rfl Tryz.call45 rfl (wknew) (args0 ) ?_)))))
 rintro _ w2 ⟨_, _, rfl, ⟨gF, pM0, nM0, cM0, rfl, rfl⟩, hN⟩
 refine ⟨_, rfl, ?_⟩
 replace hS := hS.news hN; clear hN
 refine wl rfl (oassign (v := .pointer (some ⟨gF, 0, none⟩)) rfl rfl (ev rfl rfl) ?_)
 refine wnil (thenN (wseq (wseq (wreg (wl rfl (omove (v := .slice p n c) rfl rfl (ev rfl rfl) ?_))))))
 refine wl rfl (olen rfl rfl rfl Tryz.runUnderlying37 (p := p) (k := n) (m := c) (ev rfl rfl) ?_)
 refine wl rfl (omove (v := .int .i64 0) rfl rfl evc ?_)
 refine wnil (thenN (wblock ?_))
 replace hS := hS.nilLst 42 2
 replace hS := hS.nilRow0
 refine wloop (σ := Nat) (fun i a9 w' => ∃ (fb : Nat → Value) (K : List (Nat × Nat)) (sg : Gh) (pV : Option Addr) (nV : Nat) (cV : Nat) (pM : Option Addr) (nM : Nat) (cM : Nat) (pF : Option Addr) (cF : Nat), a9 = act 156 (sets fb [(3, .pointer (some ⟨g1, 0, none⟩)), (4, .pointer (some ⟨gF, 0, none⟩)), (20, .slice p n c), (21, .int .i64 (n : Int)), (22, .int .i64 (i : Int))]) ∧ Sep w [.row pV nV cV (lim (cv K).1), .lst 42 2 pF K.length cF (rpE (rps K)), .blk gF [.slice pV nV cV, .slice pM nM cM, .slice pF K.length cF] 77, .row pM nM cM (lim (cv K).2), .pack (crtR g1 sg K)] w' ∧ (i ≤ n) ∧ (Okl K) ∧ (K.length ≤ i)) (fun i => n - i) (0) ⟨_, [], s1, none, 0, 0, pM0, nM0, cM0, none, 0, act_sets (l := [(3, .pointer (some ⟨g1, 0, none⟩)), (4, .pointer (some ⟨gF, 0, none⟩)), (20, .slice p n c), (21, .int .i64 (n : Int)), (22, .int .i64 0)]) ⟨rfl, rfl, rfl, rfl, rfl, trivial⟩, hS, Nat.zero_le _, Okl.nil, Nat.le_refl _⟩ ?_
 clear hS; rintro i _ w3 ⟨fb, K, sg, pV, nV, cV, pM, nM, cM, pF, cF, rfl, hS, hi, hok, hki⟩
 refine wseq (wreg ?_)
 by_cases hlt : i < n
 ·
  have hn1 := hL.1
  obtain ⟨x, hx⟩ : ∃ x, L[i]? = some x := ⟨_, List.getElem?_eq_getElem (by omega)⟩
  obtain ⟨b, off, hpx, hcx⟩ := hL.2.2 _ x hx
  have hx32 := h32 x (List.mem_of_getElem? hx)
  obtain ⟨K2, hK2⟩ : ∃ K2, Hid (nxt K (x.1, x.2) = K2) := ⟨_, rfl⟩
  obtain ⟨e2, he2⟩ : ∃ e2 : Nat, Hid (eno (mods K) x.2 = e2) := ⟨_, rfl⟩
  have hok2 : Okl K2 := by rw [← hK2.out]; exact hok.nxt hx32.2 (by omega)
  have hkn2 : K2.length ≤ K.length + 1 := by rw [← hK2.out]; exact nxt_len
  have hlen2 := hok2.len
  have hwV := hok.wV
  have hwM := hok.wM
  have hwV2 := hok2.wV
  have hwM2 := hok2.wM
  obtain ⟨z9, hz9⟩ : ∃ z9, Hid (slift (cv K2).1 (cv K2).2 = z9) := ⟨_, rfl⟩
  have htwo := slift_two (cv_lt hok2.gd)
  rw [hz9.out] at htwo
  have hkS : Wd z9 1048577 := llv_le (by omega) hwM2
  have hkL := hkS
  refine wl rfl (obin (u := .int .i64 (i : Int)) (v := .int .i64 (n : Int)) (z := .bool true) rfl rfl (ev rfl rfl) (ev rfl rfl) (bin_lss (decide_eq_true (by omega))) ?_)
  refine wnil (thenN (wseq ?_))
  refine wT (ev rfl rfl) ?_
  refine wskip (thenN (wseq (wblock (wseq (wreg (wl rfl (oindex (p := p) (g := b) (off := off) (m := n) (k := i) (j := (off + i * 2)) rfl rfl Tryz.runUnderlying37 Tryz.sizeOf42 (ev rfl rfl) (hpx) (ev rfl rfl) (hlt) rfl ?_)))))))
  refine wl rfl (oloadA (vs := [.int .u32 (x.1 : Int), .int .u32 (x.2 : Int)]) (show Agg Tryz.prog 42 2 from ⟨Tryz.isAgg42, Tryz.sizeOf42⟩) rfl rfl (ev (v := .pointer (some ⟨b, (off + i * 2), none⟩)) rfl rfl) (fun j v hj => hS.cellAt (hcx j v hj)) rfl ?_)
  refine wl rfl (oalloc [.int .u32 0, .int .u32 0] hS rfl rfl Tryz.zeroValue42 rfl ?_)
  clear hS; intro g4 w5 hS
  refine wl rfl (ostore [.int .u32 (x.1 : Int), .int .u32 (x.2 : Int)] [.int .u32 (x.1 : Int), .int .u32 (x.2 : Int)] Tryz.sizeOf42 hS 0 rfl rfl (ev rfl rfl) (ev (v := .agg #[.int .u32 (x.1 : Int), .int .u32 (x.2 : Int)]) rfl rfl) rfl rfl rfl rfl rfl rfl ?_)
  clear hS; intro w6 hS
  refine wnil (thenN (wseq (wreg (wl rfl (omove (v := .pointer (some ⟨g1, 0, none⟩)) rfl rfl (ev rfl rfl) ?_)))))
  refine wl rfl (ofieldAddr (g := g4) (off := 0) 0 rfl rfl (ev rfl rfl) Tryz.runUnderlying42 rfl Tryz.sizeOf40 rfl ?_)
  refine wl rfl (oload1 (v := .int .u32 (x.1 : Int)) one32 hS 0 rfl rfl (ev rfl rfl) rfl rfl ?_)
  refine wl rfl (ofieldAddr (g := g4) (off := 0) 1 rfl rfl (ev rfl rfl) Tryz.runUnderlying42 rfl Tryz.sizeOf40 rfl ?_)
  refine wl rfl (oload1 (v := .int .u32 (x.2 : Int)) one32 hS 0 rfl rfl (ev rfl rfl) rfl rfl ?_)
  obtain hS := (show Sep w [.pack (crtR g1 sg K), .blk g4 [.int .u32 (((x.1 : Nat) : Int)), .int .u32 (((x.2 : Nat) : Int))] 42, .row pV nV cV (lim (cv K).1), .lst 42 2 pF K.length cF (rpE (rps K)), .blk gF [.slice pV nV cV, .slice pM nM cM, .slice pF K.length cF] 77, .row pM nM cM (lim (cv K).2)] w6 from hS.pick [5, 0, 1, 2, 3, 4] (by decide) rfl)
  refine wl rfl (ocall rfl rfl Tryz.call38 rfl (wcaddA ht hok (by omega) hx32.1 hx32.2 hK2 he2 hS) (args3 (ev rfl rfl) (ev rfl rfl) (ev rfl rfl)) ?_)
  rintro _ w7 ⟨_, _, rfl, ⟨s2, rfl, rfl⟩, hN⟩
  refine ⟨_, rfl, ?_⟩
  clear hS; have hS := hN; clear hN
  refine wl rfl (oassign (v := .int .i64 (e2 : Int)) rfl rfl (ev rfl rfl) ?_)
  refine wnil (thenN (wseq (wreg (wl rfl (omove (v := .pointer (some ⟨gF, 0, none⟩)) rfl rfl (ev rfl rfl) ?_)))))
  refine wl rfl (ofieldAddr (g := g4) (off := 0) 0 rfl rfl (ev rfl rfl) Tryz.runUnderlying42 rfl Tryz.sizeOf40 rfl ?_)
  refine wl rfl (oload1 (v := .int .u32 (x.1 : Int)) one32 hS 1 rfl rfl (ev rfl rfl) rfl rfl ?_)
  refine wl rfl (ofieldAddr (g := g4) (off := 0) 1 rfl rfl (ev rfl rfl) Tryz.runUnderlying42 rfl Tryz.sizeOf40 rfl ?_)
  refine wl rfl (oload1 (v := .int .u32 (x.2 : Int)) one32 hS 1 rfl rfl (ev rfl rfl) rfl rfl ?_)
  obtain hS := (show Sep w [.blk gF [.slice pV nV cV, .slice pM nM cM, .slice pF K.length cF] 77, .lst 42 2 pF K.length cF (rpE (rps K)), .row pV nV cV (lim (cv K).1), .row pM nM cM (lim (cv K).2), .pack (crtR g1 s2 K2), .blk g4 [.int .u32 (((x.1 : Nat) : Int)), .int .u32 (((x.2 : Nat) : Int))] 42] w7 from hS.pick [4, 3, 2, 5, 0, 1] (by decide) rfl)
  refine wl rfl (ocall rfl rfl Tryz.call46 rfl (wkaddA hok (by omega) hx32.1 hx32.2 hK2 he2 hS) (args3 (ev rfl rfl) (ev rfl rfl) (ev rfl rfl)) ?_)
  rintro _ w8 ⟨_, _, rfl, ⟨pV2, nV2, cV2, pM2, nM2, cM2, pF2, cF2, rfl, rfl⟩, hN⟩
  refine ⟨_, rfl, ?_⟩
  clear hS; have hS := hN; clear hN
  refine wl rfl (oassign (v := .int .i64 (e2 : Int)) rfl rfl (ev rfl rfl) ?_)
  refine wnil (thenN (wseq (wreg (wl rfl (omove (v := .pointer (some ⟨g1, 0, none⟩)) rfl rfl (ev rfl rfl) ?_)))))
  refine wl rfl (ocall rfl rfl Tryz.call50 rfl (wcvalue (hS.get 4 rfl) hok2) (args1 (ev rfl rfl)) ?_)
  rintro _ w9 ⟨_, _, rfl, ⟨pv1, nv1, cv1, rfl, rfl⟩, hN⟩
  refine ⟨_, rfl, ?_⟩
  replace hS := hS.news hN; clear hN
  refine wl rfl (omove (v := .pointer (some ⟨g1, 0, none⟩)) rfl rfl (ev rfl rfl) ?_)
  refine wl rfl (ocall rfl rfl Tryz.call50 rfl (wcvalue (hS.get 5 rfl) hok2) (args1 (ev rfl rfl)) ?_)
  rintro _ w10 ⟨_, _, rfl, ⟨pv2, nv2, cv2, rfl, rfl⟩, hN⟩
  refine ⟨_, rfl, ?_⟩
  replace hS := hS.news hN; clear hN
  refine wl rfl (oassign (v := .slice pv1 nv1 cv1) rfl rfl (ev rfl rfl) ?_)
  refine wl rfl (oassign (v := .slice pv2 nv2 cv2) rfl rfl (ev rfl rfl) ?_)
  refine wnil (thenN (wseq (wreg (wl rfl (omove (v := .pointer (some ⟨g1, 0, none⟩)) rfl rfl (ev rfl rfl) ?_)))))
  refine wl rfl (ocall rfl rfl Tryz.call51 rfl (wcmod (hS.get 6 rfl) hok2) (args1 (ev rfl rfl)) ?_)
  rintro _ w11 ⟨_, _, rfl, ⟨pm1, nm1, cm1, rfl, rfl⟩, hN⟩
  refine ⟨_, rfl, ?_⟩
  replace hS := hS.news hN; clear hN
  refine wl rfl (omove (v := .pointer (some ⟨g1, 0, none⟩)) rfl rfl (ev rfl rfl) ?_)
  refine wl rfl (ocall rfl rfl Tryz.call51 rfl (wcmod (hS.get 7 rfl) hok2) (args1 (ev rfl rfl)) ?_)
  rintro _ w12 ⟨_, _, rfl, ⟨pm2, nm2, cm2, rfl, rfl⟩, hN⟩
  refine ⟨_, rfl, ?_⟩
  replace hS := hS.news hN; clear hN
  refine wl rfl (oassign (v := .slice pm1 nm1 cm1) rfl rfl (ev rfl rfl) ?_)
  refine wl rfl (oassign (v := .slice pm2 nm2 cm2) rfl rfl (ev rfl rfl) ?_)
  refine wnil (thenN (wseq (wreg (wl rfl (omove (v := .pointer (some ⟨g1, 0, none⟩)) rfl rfl (ev rfl rfl) ?_)))))
  refine wl rfl (ocall rfl rfl Tryz.call39 rfl ((wcSigned (hS.get 8 rfl) hok2 hz9).mono Zt.m) (args1 (ev rfl rfl)) ?_)
  rintro _ w13 ⟨_, _, rfl, ⟨pS, nS, cS, rfl, rfl⟩, hN⟩
  refine ⟨_, rfl, ?_⟩
  replace hS := hS.news hN; clear hN
  refine wl rfl (oalloc [.bool false, .slice none 0 0] hS rfl rfl Tryz.zeroValue28 rfl ?_)
  clear hS; intro g14 w15 hS
  refine wl rfl (ostore [.bool (ng z9), .slice pS nS cS] [.bool (ng z9), .slice pS nS cS] Tryz.sizeOf28 hS 0 rfl rfl (ev rfl rfl) (ev (v := .agg #[.bool (ng z9), .slice pS nS cS]) rfl rfl) rfl rfl rfl rfl rfl rfl ?_)
  clear hS; intro w16 hS
  refine wnil (thenN (wseq (wreg (wl rfl (omove (v := .pointer (some ⟨g1, 0, none⟩)) rfl rfl (ev rfl rfl) ?_)))))
  refine wl rfl (ocall rfl rfl Tryz.call52 rfl (wcpairs (hS.get 10 rfl) hok2) (args1 (ev rfl rfl)) ?_)
  rintro _ w17 ⟨_, _, rfl, ⟨pP, cP, rfl, rfl⟩, hN⟩
  refine ⟨_, rfl, ?_⟩
  replace hS := hS.news hN; clear hN
  refine wl rfl (oassign (v := .slice pP ((rps K2).length) cP) rfl rfl (ev rfl rfl) ?_)
  refine wnil (thenN (wseq (wseq ?_)))
  refine wstage 45 [50, 51, 52, 53, 54, 55, 56, 57, 58, 59, 60, 61, 62, 63, 64, 65, 66, 67, 68, 69, 70, 71, 72, 73, 74, 75, 76, 77, 78, 79, 80, 81, 82, 83, 84, 85, 86, 87, 88, 89, 90, 91, 92, 93, 94] [[], [0], [], [1, 2, 0], [3, 0, 1, 2], [4, 0, 1, 2, 3], [4, 0, 1, 2, 3], [4, 6, 0, 1, 2, 3], [4, 7, 0, 1, 2, 3, 6], [4, 8, 0, 1, 2, 3, 6, 7], [4, 5, 9, 0, 1, 2, 3, 6, 7, 8], [4, 10, 0, 1, 2, 3, 5, 6, 7, 8, 9], [4, 11, 0, 1, 2, 3, 5, 6, 7, 8, 9, 10], [12, 0, 1, 2, 3, 4, 5, 6, 7, 8, 9, 10, 11], [13, 0, 1, 2, 3, 4, 5, 6, 7, 8, 9, 10, 11, 12], [13, 0, 1, 2, 3, 4, 5, 6, 7, 8, 9, 10, 11, 12], [13, 15, 0, 1, 2, 3, 4, 5, 6, 7, 8, 9, 10, 11, 12], [13, 16, 0, 1, 2, 3, 4, 5, 6, 7, 8, 9, 10, 11, 12, 15], [13, 17, 0, 1, 2, 3, 4, 5, 6, 7, 8, 9, 10, 11, 12, 15, 16], [13, 14, 18, 0, 1, 2, 3, 4, 5, 6, 7, 8, 9, 10, 11, 12, 15, 16, 17], [13, 19, 0, 1, 2, 3, 4, 5, 6, 7, 8, 9, 10, 11, 12, 14, 15, 16, 17, 18], [13, 20, 0, 1, 2, 3, 4, 5, 6, 7, 8, 9, 10, 11, 12, 14, 15, 16, 17, 18, 19], [21, 0, 1, 2, 3, 4, 5, 6, 7, 8, 9, 10, 11, 12, 13, 14, 15, 16, 17, 18, 19, 20], [22, 0, 1, 2, 3, 4, 5, 6, 7, 8, 9, 10, 11, 12, 13, 14, 15, 16, 17, 18, 19, 20, 21], [22, 0, 1, 2, 3, 4, 5, 6, 7, 8, 9, 10, 11, 12, 13, 14, 15, 16, 17, 18, 19, 20, 21], [22, 24, 0, 1, 2, 3, 4, 5, 6, 7, 8, 9, 10, 11, 12, 13, 14, 15, 16, 17, 18, 19, 20, 21], [22, 25, 0, 1, 2, 3, 4, 5, 6, 7, 8, 9, 10, 11, 12, 13, 14, 15, 16, 17, 18, 19, 20, 21, 24], [22, 26, 0, 1, 2, 3, 4, 5, 6, 7, 8, 9, 10, 11, 12, 13, 14, 15, 16, 17, 18, 19, 20, 21, 24, 25], [22, 0, 1, 2, 3, 4, 5, 6, 7, 8, 9, 10, 11, 12, 13, 14, 15, 16, 17, 18, 19, 20, 21], [22, 28, 0, 1, 2, 3, 4, 5, 6, 7, 8, 9, 10, 11, 12, 13, 14, 15, 16, 17, 18, 19, 20, 21], [22, 29, 0, 1, 2, 3, 4, 5, 6, 7, 8, 9, 10, 11, 12, 13, 14, 15, 16, 17, 18, 19, 20, 21, 28], [22, 30, 0, 1, 2, 3, 4, 5, 6, 7, 8, 9, 10, 11, 12, 13, 14, 15, 16, 17, 18, 19, 20, 21, 28, 29], [22, 27, 31, 0, 1, 2, 3, 4, 5, 6, 7, 8, 9, 10, 11, 12, 13, 14, 15, 16, 17, 18, 19, 20, 21, 24, 25, 26, 28, 29, 30], [22, 23, 32, 0, 1, 2, 3, 4, 5, 6, 7, 8, 9, 10, 11, 12, 13, 14, 15, 16, 17, 18, 19, 20, 21, 24, 25, 26, 27, 28, 29, 30, 31], [22, 33, 0, 1, 2, 3, 4, 5, 6, 7, 8, 9, 10, 11, 12, 13, 14, 15, 16, 17, 18, 19, 20, 21, 23, 24, 25, 26, 27, 28, 29, 30, 31, 32], [22, 34, 0, 1, 2, 3, 4, 5, 6, 7, 8, 9, 10, 11, 12, 13, 14, 15, 16, 17, 18, 19, 20, 21, 23, 24, 25, 26, 27, 28, 29, 30, 31, 32, 33], [35, 0, 1, 2, 3, 4, 5, 6, 7, 8, 9, 10, 11, 12, 13, 14, 15, 16, 17, 18, 19, 20, 21, 22, 23, 24, 25, 26, 27, 28, 29, 30, 31, 32, 33, 34], [36, 0, 1, 2, 3, 4, 5, 6, 7, 8, 9, 10, 11, 12, 13, 14, 15, 16, 17, 18, 19, 20, 21, 22, 23, 24, 25, 26, 27, 28, 29, 30, 31, 32, 33, 34, 35], [36, 0, 1, 2, 3, 4, 5, 6, 7, 8, 9, 10, 11, 12, 13, 14, 15, 16, 17, 18, 19, 20, 21, 22, 23, 24, 25, 26, 27, 28, 29, 30, 31, 32, 33, 34, 35], [36, 38, 0, 1, 2, 3, 4, 5, 6, 7, 8, 9, 10, 11, 12, 13, 14, 15, 16, 17, 18, 19, 20, 21, 22, 23, 24, 25, 26, 27, 28, 29, 30, 31, 32, 33, 34, 35], [36, 39, 0, 1, 2, 3, 4, 5, 6, 7, 8, 9, 10, 11, 12, 13, 14, 15, 16, 17, 18, 19, 20, 21, 22, 23, 24, 25, 26, 27, 28, 29, 30, 31, 32, 33, 34, 35, 38], [36, 40, 0, 1, 2, 3, 4, 5, 6, 7, 8, 9, 10, 11, 12, 13, 14, 15, 16, 17, 18, 19, 20, 21, 22, 23, 24, 25, 26, 27, 28, 29, 30, 31, 32, 33, 34, 35, 38, 39], [36, 37, 41, 0, 1, 2, 3, 4, 5, 6, 7, 8, 9, 10, 11, 12, 13, 14, 15, 16, 17, 18, 19, 20, 21, 22, 23, 24, 25, 26, 27, 28, 29, 30, 31, 32, 33, 34, 35, 38, 39, 40], [36, 42, 0, 1, 2, 3, 4, 5, 6, 7, 8, 9, 10, 11, 12, 13, 14, 15, 16, 17, 18, 19, 20, 21, 22, 23, 24, 25, 26, 27, 28, 29, 30, 31, 32, 33, 34, 35, 37, 38, 39, 40, 41], [36, 43, 0, 1, 2, 3, 4, 5, 6, 7, 8, 9, 10, 11, 12, 13, 14, 15, 16, 17, 18, 19, 20, 21, 22, 23, 24, 25, 26, 27, 28, 29, 30, 31, 32, 33, 34, 35, 37, 38, 39, 40, 41, 42]] [[], [], [], [], [], [], [], [], [], [], [], [], [], [], [], [], [], [], [], [], [], [], [], [], [], [], [], [], [], [], [], [], [], [], [], [], [], [], [], [], [], [], [], [], []] [] [] (fun i9 => ([fun _ => Is (.int .i64 (e2 : Int)), fun _ => Is (.int .i64 (e2 : Int)), fun _ => Is (.int .i64 (e2 : Int)), fun _ => Is (.bool false), fun _ => Is (.bool false), fun _ => Is (.slice pv1 nv1 cv1), fun _ => Is (.pointer (some ⟨gF, 0, none⟩)), fun _ => Is (.pointer (some ⟨gF, 0, none⟩)), fun _ => Is (.pointer (some ⟨gF, 0, none⟩)), fun _ => Is (.slice pV2 nV2 cV2), fun _ => Is (.bool true), fun _ => Is (.bool false), fun _ => Is (.bool false), fun _ => Is (.bool false), fun _ => Is (.slice pm1 nm1 cm1), fun _ => Is (.pointer (some ⟨gF, 0, none⟩)), fun _ => Is (.pointer (some ⟨gF, 0, none⟩)), fun _ => Is (.pointer (some ⟨gF, 1, none⟩)), fun _ => Is (.slice pM2 nM2 cM2), fun _ => Is (.bool true), fun _ => Is (.bool false), fun _ => Is (.bool false), fun _ => Is (.bool false), fun _ => Is (.agg #[.bool (ng z9), .slice pS nS cS]), fun _ => Is (.pointer (some ⟨gF, 0, none⟩)), fun _ => Is (.pointer (some ⟨gF, 0, none⟩)), fun _ => Is (.pointer (some ⟨gF, 0, none⟩)), fun _ => Is (.slice pV2 nV2 cV2), fun _ => Is (.pointer (some ⟨gF, 0, none⟩)), fun _ => Is (.pointer (some ⟨gF, 0, none⟩)), fun _ => Is (.pointer (some ⟨gF, 1, none⟩)), fun _ => Is (.slice pM2 nM2 cM2), fun _ => Zt z9, fun _ => Is (.bool true), fun _ => Is (.bool false), fun _ => Is (.bool false), fun _ => Is (.bool false), fun _ => Is (.slice pP ((rps K2).length) cP), fun _ => Is (.pointer (some ⟨gF, 0, none⟩)), fun _ => Is (.pointer (some ⟨gF, 0, none⟩)), fun _ => Is (.pointer (some ⟨gF, 2, none⟩)), fun _ => Is (.slice pF2 K2.length cF2), fun _ => Is (.bool true), fun _ => Is (.bool false), fun _ => Is (.bool false)] : List (List Value → Tell)).getD i9 (fun _ _ _ => False)) (heldNil) (fun d _ _ _ _ h => (by cases d <;> exact h)) (by kernel_rfl) (by kernel_rfl) (by kernel_rfl) hS ?_ ?_
  ·
   refine stepsCons rfl (fun Q f' w' ρ S ho hT hS hB => ?_) ?_
   ·exact .inl ⟨want_none rfl, omove (v := .int .i64 (e2 : Int)) rfl rfl (ev rfl (ho 7 rfl)) ⟨_, _, rfl, isI, New.same _⟩⟩
   refine stepsCons rfl (fun Q f' w' ρ S ho hT hS hB => ?_) ?_
   ·obtain ⟨hv0, hr0⟩ := (hT 0 50 rfl rfl : (Is (.int .i64 (((e2 : Nat) : Int)))) _ _)
    obtain hS := hS.flat1 hr0
    exact .inl ⟨want_none rfl, ocall rfl rfl Tryz.call13 rfl (wlnum6) (args1 (ev rfl hv0)) callN⟩
   refine stepsCons rfl (fun Q f' w' ρ S ho hT hS hB => ?_) ?_
   ·exact .inl ⟨want_none rfl, omove (v := .int .i64 (e2 : Int)) rfl rfl (ev rfl (ho 8 rfl)) ⟨_, _, rfl, isI, New.same _⟩⟩
   refine stepsCons rfl (fun Q f' w' ρ S ho hT hS hB => ?_) ?_
   ·obtain ⟨hv1, hr1⟩ := (hT 1 51 rfl rfl : (Is (.int .i64 (((e2 : Nat) : Int)))) _ _)
    obtain ⟨hv2, hr2⟩ := (hT 2 52 rfl rfl : (Is (.int .i64 (((e2 : Nat) : Int)))) _ _)
    obtain hS := hS.flat2 hr1 hr2
    exact .inl ⟨want_none rfl, obin (u := .int .i64 (e2 : Int)) (v := .int .i64 (e2 : Int)) (z := .bool false) rfl rfl (ev rfl hv1) (ev rfl hv2) (bin_neq (neF rfl)) ⟨_, _, rfl, isI, New.same _⟩⟩
   refine stepsCons rfl (fun Q f' w' ρ S ho hT hS hB => ?_) ?_
   ·obtain ⟨hv3, hr3⟩ := (hT 3 53 rfl rfl : (Is (.bool false)) _ _)
    obtain hS := hS.flat1 hr3
    exact .inl ⟨want_none rfl, omove (v := .bool false) rfl rfl (ev rfl hv3) ⟨_, _, rfl, isI, New.same _⟩⟩
   refine stepsCons rfl (fun Q f' w' ρ S ho hT hS hB => ?_) ?_
   ·obtain ⟨hv4, hr4⟩ := (hT 4 54 rfl rfl : (Is (.bool false)) _ _)
    obtain hS := hS.flat1 hr4
    exact .inl ⟨want_on (e := 54) rfl rfl rfl hv4, omove (v := .slice pv1 nv1 cv1) rfl rfl (ev rfl (ho 9 rfl)) ⟨_, _, rfl, isI, New.same _⟩⟩
   refine stepsCons rfl (fun Q f' w' ρ S ho hT hS hB => ?_) ?_
   ·obtain ⟨hv4, hr4⟩ := (hT 4 54 rfl rfl : (Is (.bool false)) _ _)
    obtain hS := hS.flat1 hr4
    exact .inl ⟨want_on (e := 54) rfl rfl rfl hv4, omove (v := .pointer (some ⟨gF, 0, none⟩)) rfl rfl (ev rfl (ho 4 rfl)) ⟨_, _, rfl, isI, New.same _⟩⟩
   refine stepsCons rfl (fun Q f' w' ρ S ho hT hS hB => ?_) ?_
   ·obtain ⟨hv4, hr4⟩ := (hT 4 54 rfl rfl : (Is (.bool false)) _ _)
    obtain ⟨hv6, hr6⟩ := (hT 6 56 rfl rfl : (Is (.pointer (some ⟨gF, 0, none⟩))) _ _)
    obtain hS := hS.flat2 hr4 hr6
    exact .inl ⟨want_on (e := 54) rfl rfl rfl hv4, onilCheck (a := ⟨gF, 0, none⟩) rfl rfl (ev rfl hv6) ⟨_, _, rfl, isI, New.same _⟩⟩
   refine stepsCons rfl (fun Q f' w' ρ S ho hT hS hB => ?_) ?_
   ·obtain ⟨hv4, hr4⟩ := (hT 4 54 rfl rfl : (Is (.bool false)) _ _)
    obtain ⟨hv7, hr7⟩ := (hT 7 57 rfl rfl : (Is (.pointer (some ⟨gF, 0, none⟩))) _ _)
    obtain hS := hS.flat2 hr4 hr7
    exact .inl ⟨want_on (e := 54) rfl rfl rfl hv4, ofieldAddr (g := gF) (off := 0) 0 rfl rfl (ev rfl hv7) Tryz.runUnderlying77 rfl Tryz.sizeOf26 rfl ⟨_, _, rfl, isI, New.same _⟩⟩
   refine stepsCons rfl (fun Q f' w' ρ S ho hT hS hB => ?_) ?_
   ·obtain ⟨hv4, hr4⟩ := (hT 4 54 rfl rfl : (Is (.bool false)) _ _)
    obtain ⟨hv8, hr8⟩ := (hT 8 58 rfl rfl : (Is (.pointer (some ⟨gF, 0, none⟩))) _ _)
    obtain hS := hS.flat2 hr4 hr8
    exact .inl ⟨want_on (e := 54) rfl rfl rfl hv4, oload1 (v := .slice pV2 nV2 cV2) oneN hS 7 rfl rfl (ev rfl hv8) rfl rfl ⟨_, _, rfl, isI, New.same _⟩⟩
   refine stepsCons rfl (fun Q f' w' ρ S ho hT hS hB => ?_) ?_
   ·obtain ⟨hv4, hr4⟩ := (hT 4 54 rfl rfl : (Is (.bool false)) _ _)
    obtain ⟨hv5, hr5⟩ := (hT 5 55 rfl rfl : (Is (.slice pv1 nv1 cv1)) _ _)
    obtain ⟨hv9, hr9⟩ := (hT 9 59 rfl rfl : (Is (.slice pV2 nV2 cV2)) _ _)
    obtain hS := hS.flat3 hr4 hr5 hr9
    exact .inl ⟨want_on (e := 54) rfl rfl rfl hv4, ocall rfl rfl Tryz.call21 rfl (wlsame6 (x := (cv K2).1) (y := (cv K2).1) (hS.slm 6 rfl) (((hS.sl 9 rfl).nr hwV2).mono (by omega)) (rfl)) (args2 (ev rfl hv5) (ev rfl hv9)) callN⟩
   refine stepsCons rfl (fun Q f' w' ρ S ho hT hS hB => ?_) ?_
   ·obtain ⟨hv4, hr4⟩ := (hT 4 54 rfl rfl : (Is (.bool false)) _ _)
    obtain ⟨hv10, hr10⟩ := (hT 10 60 rfl rfl : (Is (.bool true)) _ _)
    obtain hS := hS.flat2 hr4 hr10
    exact .inl ⟨want_on (e := 54) rfl rfl rfl hv4, onot (b := true) rfl rfl (ev rfl hv10) ⟨_, _, rfl, isI, New.same _⟩⟩
   refine stepsCons rfl (fun Q f' w' ρ S ho hT hS hB => ?_) ?_
   ·obtain ⟨hv4, hr4⟩ := (hT 4 54 rfl rfl : (Is (.bool false)) _ _)
    obtain ⟨hv11, hr11⟩ := (hT 11 61 rfl rfl : (Is (.bool false)) _ _)
    obtain hS := hS.flat2 hr4 hr11
    exact .inl ⟨want_none rfl, opick (b := false) (v := .bool false) rfl rfl (ev rfl hv4) (ev rfl hv11) ⟨_, _, rfl, isI, New.same _⟩⟩
   refine stepsCons rfl (fun Q f' w' ρ S ho hT hS hB => ?_) ?_
   ·obtain ⟨hv12, hr12⟩ := (hT 12 62 rfl rfl : (Is (.bool false)) _ _)
    obtain hS := hS.flat1 hr12
    exact .inl ⟨want_none rfl, omove (v := .bool false) rfl rfl (ev rfl hv12) ⟨_, _, rfl, isI, New.same _⟩⟩
   refine stepsCons rfl (fun Q f' w' ρ S ho hT hS hB => ?_) ?_
   ·obtain ⟨hv13, hr13⟩ := (hT 13 63 rfl rfl : (Is (.bool false)) _ _)
    obtain hS := hS.flat1 hr13
    exact .inl ⟨want_on (e := 63) rfl rfl rfl hv13, omove (v := .slice pm1 nm1 cm1) rfl rfl (ev rfl (ho 11 rfl)) ⟨_, _, rfl, isI, New.same _⟩⟩
   refine stepsCons rfl (fun Q f' w' ρ S ho hT hS hB => ?_) ?_
   ·obtain ⟨hv13, hr13⟩ := (hT 13 63 rfl rfl : (Is (.bool false)) _ _)
    obtain hS := hS.flat1 hr13
    exact .inl ⟨want_on (e := 63) rfl rfl rfl hv13, omove (v := .pointer (some ⟨gF, 0, none⟩)) rfl rfl (ev rfl (ho 4 rfl)) ⟨_, _, rfl, isI, New.same _⟩⟩
   refine stepsCons rfl (fun Q f' w' ρ S ho hT hS hB => ?_) ?_
   ·obtain ⟨hv13, hr13⟩ := (hT 13 63 rfl rfl : (Is (.bool false)) _ _)
    obtain ⟨hv15, hr15⟩ := (hT 15 65 rfl rfl : (Is (.pointer (some ⟨gF, 0, none⟩))) _ _)
    obtain hS := hS.flat2 hr13 hr15
    exact .inl ⟨want_on (e := 63) rfl rfl rfl hv13, onilCheck (a := ⟨gF, 0, none⟩) rfl rfl (ev rfl hv15) ⟨_, _, rfl, isI, New.same _⟩⟩
   refine stepsCons rfl (fun Q f' w' ρ S ho hT hS hB => ?_) ?_
   ·obtain ⟨hv13, hr13⟩ := (hT 13 63 rfl rfl : (Is (.bool false)) _ _)
    obtain ⟨hv16, hr16⟩ := (hT 16 66 rfl rfl : (Is (.pointer (some ⟨gF, 0, none⟩))) _ _)
    obtain hS := hS.flat2 hr13 hr16
    exact .inl ⟨want_on (e := 63) rfl rfl rfl hv13, ofieldAddr (g := gF) (off := 0) 1 rfl rfl (ev rfl hv16) Tryz.runUnderlying77 rfl Tryz.sizeOf26 rfl ⟨_, _, rfl, isI, New.same _⟩⟩
   refine stepsCons rfl (fun Q f' w' ρ S ho hT hS hB => ?_) ?_
   ·obtain ⟨hv13, hr13⟩ := (hT 13 63 rfl rfl : (Is (.bool false)) _ _)
    obtain ⟨hv17, hr17⟩ := (hT 17 67 rfl rfl : (Is (.pointer (some ⟨gF, 1, none⟩))) _ _)
    obtain hS := hS.flat2 hr13 hr17
    exact .inl ⟨want_on (e := 63) rfl rfl rfl hv13, oload1 (v := .slice pM2 nM2 cM2) oneN hS 7 rfl rfl (ev rfl hv17) rfl rfl ⟨_, _, rfl, isI, New.same _⟩⟩
   refine stepsCons rfl (fun Q f' w' ρ S ho hT hS hB => ?_) ?_
   ·obtain ⟨hv13, hr13⟩ := (hT 13 63 rfl rfl : (Is (.bool false)) _ _)
    obtain ⟨hv14, hr14⟩ := (hT 14 64 rfl rfl : (Is (.slice pm1 nm1 cm1)) _ _)
    obtain ⟨hv18, hr18⟩ := (hT 18 68 rfl rfl : (Is (.slice pM2 nM2 cM2)) _ _)
    obtain hS := hS.flat3 hr13 hr14 hr18
    exact .inl ⟨want_on (e := 63) rfl rfl rfl hv13, ocall rfl rfl Tryz.call21 rfl (wlsame6 (x := (cv K2).2) (y := (cv K2).2) (hS.slm 4 rfl) (((hS.sl 10 rfl).nr hwM2).mono (by omega)) (rfl)) (args2 (ev rfl hv14) (ev rfl hv18)) callN⟩
   refine stepsCons rfl (fun Q f' w' ρ S ho hT hS hB => ?_) ?_
   ·obtain ⟨hv13, hr13⟩ := (hT 13 63 rfl rfl : (Is (.bool false)) _ _)
    obtain ⟨hv19, hr19⟩ := (hT 19 69 rfl rfl : (Is (.bool true)) _ _)
    obtain hS := hS.flat2 hr13 hr19
    exact .inl ⟨want_on (e := 63) rfl rfl rfl hv13, onot (b := true) rfl rfl (ev rfl hv19) ⟨_, _, rfl, isI, New.same _⟩⟩
   refine stepsCons rfl (fun Q f' w' ρ S ho hT hS hB => ?_) ?_
   ·obtain ⟨hv13, hr13⟩ := (hT 13 63 rfl rfl : (Is (.bool false)) _ _)
    obtain ⟨hv20, hr20⟩ := (hT 20 70 rfl rfl : (Is (.bool false)) _ _)
    obtain hS := hS.flat2 hr13 hr20
    exact .inl ⟨want_none rfl, opick (b := false) (v := .bool false) rfl rfl (ev rfl hv13) (ev rfl hv20) ⟨_, _, rfl, isI, New.same _⟩⟩
   refine stepsCons rfl (fun Q f' w' ρ S ho hT hS hB => ?_) ?_
   ·obtain ⟨hv21, hr21⟩ := (hT 21 71 rfl rfl : (Is (.bool false)) _ _)
    obtain hS := hS.flat1 hr21
    exact .inl ⟨want_none rfl, omove (v := .bool false) rfl rfl (ev rfl hv21) ⟨_, _, rfl, isI, New.same _⟩⟩
   refine stepsCons rfl (fun Q f' w' ρ S ho hT hS hB => ?_) ?_
   ·obtain ⟨hv22, hr22⟩ := (hT 22 72 rfl rfl : (Is (.bool false)) _ _)
    obtain hS := hS.flat1 hr22
    exact .inl ⟨want_on (e := 72) rfl rfl rfl hv22, oload (vs := [.bool (ng z9), .slice pS nS cS]) aggZ hS 1 rfl rfl (ev rfl (ho 13 rfl)) rfl rfl rfl ⟨_, _, rfl, isI, New.same _⟩⟩
   refine stepsCons rfl (fun Q f' w' ρ S ho hT hS hB => ?_) ?_
   ·obtain ⟨hv22, hr22⟩ := (hT 22 72 rfl rfl : (Is (.bool false)) _ _)
    obtain hS := hS.flat1 hr22
    exact .inl ⟨want_on (e := 72) rfl rfl rfl hv22, omove (v := .pointer (some ⟨gF, 0, none⟩)) rfl rfl (ev rfl (ho 4 rfl)) ⟨_, _, rfl, isI, New.same _⟩⟩
   refine stepsCons rfl (fun Q f' w' ρ S ho hT hS hB => ?_) ?_
   ·obtain ⟨hv22, hr22⟩ := (hT 22 72 rfl rfl : (Is (.bool false)) _ _)
    obtain ⟨hv24, hr24⟩ := (hT 24 74 rfl rfl : (Is (.pointer (some ⟨gF, 0, none⟩))) _ _)
    obtain hS := hS.flat2 hr22 hr24
    exact .inl ⟨want_on (e := 72) rfl rfl rfl hv22, onilCheck (a := ⟨gF, 0, none⟩) rfl rfl (ev rfl hv24) ⟨_, _, rfl, isI, New.same _⟩⟩
   refine stepsCons rfl (fun Q f' w' ρ S ho hT hS hB => ?_) ?_
   ·obtain ⟨hv22, hr22⟩ := (hT 22 72 rfl rfl : (Is (.bool false)) _ _)
    obtain ⟨hv25, hr25⟩ := (hT 25 75 rfl rfl : (Is (.pointer (some ⟨gF, 0, none⟩))) _ _)
    obtain hS := hS.flat2 hr22 hr25
    exact .inl ⟨want_on (e := 72) rfl rfl rfl hv22, ofieldAddr (g := gF) (off := 0) 0 rfl rfl (ev rfl hv25) Tryz.runUnderlying77 rfl Tryz.sizeOf26 rfl ⟨_, _, rfl, isI, New.same _⟩⟩
   refine stepsCons rfl (fun Q f' w' ρ S ho hT hS hB => ?_) ?_
   ·obtain ⟨hv22, hr22⟩ := (hT 22 72 rfl rfl : (Is (.bool false)) _ _)
    obtain ⟨hv26, hr26⟩ := (hT 26 76 rfl rfl : (Is (.pointer (some ⟨gF, 0, none⟩))) _ _)
    obtain hS := hS.flat2 hr22 hr26
    exact .inl ⟨want_on (e := 72) rfl rfl rfl hv22, oload1 (v := .slice pV2 nV2 cV2) oneN hS 7 rfl rfl (ev rfl hv26) rfl rfl ⟨_, _, rfl, isI, New.same _⟩⟩
   refine stepsCons rfl (fun Q f' w' ρ S ho hT hS hB => ?_) ?_
   ·obtain ⟨hv22, hr22⟩ := (hT 22 72 rfl rfl : (Is (.bool false)) _ _)
    obtain hS := hS.flat1 hr22
    exact .inl ⟨want_on (e := 72) rfl rfl rfl hv22, omove (v := .pointer (some ⟨gF, 0, none⟩)) rfl rfl (ev rfl (ho 4 rfl)) ⟨_, _, rfl, isI, New.same _⟩⟩
   refine stepsCons rfl (fun Q f' w' ρ S ho hT hS hB => ?_) ?_
   ·obtain ⟨hv22, hr22⟩ := (hT 22 72 rfl rfl : (Is (.bool false)) _ _)
    obtain ⟨hv28, hr28⟩ := (hT 28 78 rfl rfl : (Is (.pointer (some ⟨gF, 0, none⟩))) _ _)
    obtain hS := hS.flat2 hr22 hr28
    exact .inl ⟨want_on (e := 72) rfl rfl rfl hv22, onilCheck (a := ⟨gF, 0, none⟩) rfl rfl (ev rfl hv28) ⟨_, _, rfl, isI, New.same _⟩⟩
   refine stepsCons rfl (fun Q f' w' ρ S ho hT hS hB => ?_) ?_
   ·obtain ⟨hv22, hr22⟩ := (hT 22 72 rfl rfl : (Is (.bool false)) _ _)
    obtain ⟨hv29, hr29⟩ := (hT 29 79 rfl rfl : (Is (.pointer (some ⟨gF, 0, none⟩))) _ _)
    obtain hS := hS.flat2 hr22 hr29
    exact .inl ⟨want_on (e := 72) rfl rfl rfl hv22, ofieldAddr (g := gF) (off := 0) 1 rfl rfl (ev rfl hv29) Tryz.runUnderlying77 rfl Tryz.sizeOf26 rfl ⟨_, _, rfl, isI, New.same _⟩⟩
   refine stepsCons rfl (fun Q f' w' ρ S ho hT hS hB => ?_) ?_
   ·obtain ⟨hv22, hr22⟩ := (hT 22 72 rfl rfl : (Is (.bool false)) _ _)
    obtain ⟨hv30, hr30⟩ := (hT 30 80 rfl rfl : (Is (.pointer (some ⟨gF, 1, none⟩))) _ _)
    obtain hS := hS.flat2 hr22 hr30
    exact .inl ⟨want_on (e := 72) rfl rfl rfl hv22, oload1 (v := .slice pM2 nM2 cM2) oneN hS 7 rfl rfl (ev rfl hv30) rfl rfl ⟨_, _, rfl, isI, New.same _⟩⟩
   refine stepsCons rfl (fun Q f' w' ρ S ho hT hS hB => ?_) ?_
   ·obtain ⟨hv22, hr22⟩ := (hT 22 72 rfl rfl : (Is (.bool false)) _ _)
    obtain ⟨hv27, hr27⟩ := (hT 27 77 rfl rfl : (Is (.slice pV2 nV2 cV2)) _ _)
    obtain ⟨hv31, hr31⟩ := (hT 31 81 rfl rfl : (Is (.slice pM2 nM2 cM2)) _ _)
    obtain hS := hS.flat3 hr22 hr27 hr31
    exact .inl ⟨want_on (e := 72) rfl rfl rfl hv22, ocall rfl rfl Tryz.call36 rfl (wflift (((hS.sl 9 rfl).nr hwV2).mono (by omega)) (((hS.sl 10 rfl).nr hwM2).mono (by omega)) hz9) (args2 (ev rfl hv27) (ev rfl hv31)) callN⟩
   refine stepsCons rfl (fun Q f' w' ρ S ho hT hS hB => ?_) ?_
   ·obtain ⟨hv22, hr22⟩ := (hT 22 72 rfl rfl : (Is (.bool false)) _ _)
    obtain ⟨hv23, hr23⟩ := (hT 23 73 rfl rfl : (Is (.agg #[.bool (ng z9), .slice pS nS cS])) _ _)
    obtain ⟨pL, nL, cL, hv32, hr32⟩ := (hT 32 82 rfl rfl : (Zt z9) _ _)
    obtain hS := hS.flat3 hr22 hr23 hr32
    exact .inl ⟨want_on (e := 72) rfl rfl rfl hv22, ocall rfl rfl Tryz.call35 rfl (wqsame (x := z9) (y := z9) (hS.slm 2 rfl) (hS.sl 13 rfl) (rfl)) (args2 (ev rfl hv23) (ev rfl hv32)) callN⟩
   refine stepsCons rfl (fun Q f' w' ρ S ho hT hS hB => ?_) ?_
   ·obtain ⟨hv22, hr22⟩ := (hT 22 72 rfl rfl : (Is (.bool false)) _ _)
    obtain ⟨hv33, hr33⟩ := (hT 33 83 rfl rfl : (Is (.bool true)) _ _)
    obtain hS := hS.flat2 hr22 hr33
    exact .inl ⟨want_on (e := 72) rfl rfl rfl hv22, onot (b := true) rfl rfl (ev rfl hv33) ⟨_, _, rfl, isI, New.same _⟩⟩
   refine stepsCons rfl (fun Q f' w' ρ S ho hT hS hB => ?_) ?_
   ·obtain ⟨hv22, hr22⟩ := (hT 22 72 rfl rfl : (Is (.bool false)) _ _)
    obtain ⟨hv34, hr34⟩ := (hT 34 84 rfl rfl : (Is (.bool false)) _ _)
    obtain hS := hS.flat2 hr22 hr34
    exact .inl ⟨want_none rfl, opick (b := false) (v := .bool false) rfl rfl (ev rfl hv22) (ev rfl hv34) ⟨_, _, rfl, isI, New.same _⟩⟩
   refine stepsCons rfl (fun Q f' w' ρ S ho hT hS hB => ?_) ?_
   ·obtain ⟨hv35, hr35⟩ := (hT 35 85 rfl rfl : (Is (.bool false)) _ _)
    obtain hS := hS.flat1 hr35
    exact .inl ⟨want_none rfl, omove (v := .bool false) rfl rfl (ev rfl hv35) ⟨_, _, rfl, isI, New.same _⟩⟩
   refine stepsCons rfl (fun Q f' w' ρ S ho hT hS hB => ?_) ?_
   ·obtain ⟨hv36, hr36⟩ := (hT 36 86 rfl rfl : (Is (.bool false)) _ _)
    obtain hS := hS.flat1 hr36
    exact .inl ⟨want_on (e := 86) rfl rfl rfl hv36, omove (v := .slice pP ((rps K2).length) cP) rfl rfl (ev rfl (ho 14 rfl)) ⟨_, _, rfl, isI, New.same _⟩⟩
   refine stepsCons rfl (fun Q f' w' ρ S ho hT hS hB => ?_) ?_
   ·obtain ⟨hv36, hr36⟩ := (hT 36 86 rfl rfl : (Is (.bool false)) _ _)
    obtain hS := hS.flat1 hr36
    exact .inl ⟨want_on (e := 86) rfl rfl rfl hv36, omove (v := .pointer (some ⟨gF, 0, none⟩)) rfl rfl (ev rfl (ho 4 rfl)) ⟨_, _, rfl, isI, New.same _⟩⟩
   refine stepsCons rfl (fun Q f' w' ρ S ho hT hS hB => ?_) ?_
   ·obtain ⟨hv36, hr36⟩ := (hT 36 86 rfl rfl : (Is (.bool false)) _ _)
    obtain ⟨hv38, hr38⟩ := (hT 38 88 rfl rfl : (Is (.pointer (some ⟨gF, 0, none⟩))) _ _)
    obtain hS := hS.flat2 hr36 hr38
    exact .inl ⟨want_on (e := 86) rfl rfl rfl hv36, onilCheck (a := ⟨gF, 0, none⟩) rfl rfl (ev rfl hv38) ⟨_, _, rfl, isI, New.same _⟩⟩
   refine stepsCons rfl (fun Q f' w' ρ S ho hT hS hB => ?_) ?_
   ·obtain ⟨hv36, hr36⟩ := (hT 36 86 rfl rfl : (Is (.bool false)) _ _)
    obtain ⟨hv39, hr39⟩ := (hT 39 89 rfl rfl : (Is (.pointer (some ⟨gF, 0, none⟩))) _ _)
    obtain hS := hS.flat2 hr36 hr39
    exact .inl ⟨want_on (e := 86) rfl rfl rfl hv36, ofieldAddr (g := gF) (off := 0) 2 rfl rfl (ev rfl hv39) Tryz.runUnderlying77 rfl Tryz.sizeOf37 rfl ⟨_, _, rfl, isI, New.same _⟩⟩
   refine stepsCons rfl (fun Q f' w' ρ S ho hT hS hB => ?_) ?_
   ·obtain ⟨hv36, hr36⟩ := (hT 36 86 rfl rfl : (Is (.bool false)) _ _)
    obtain ⟨hv40, hr40⟩ := (hT 40 90 rfl rfl : (Is (.pointer (some ⟨gF, 2, none⟩))) _ _)
    obtain hS := hS.flat2 hr36 hr40
    exact .inl ⟨want_on (e := 86) rfl rfl rfl hv36, oload1 (v := .slice pF2 K2.length cF2) (show One Tryz.prog 37 from ⟨Tryz.isAgg37, Tryz.sizeOf37⟩) hS 7 rfl rfl (ev rfl hv40) rfl rfl ⟨_, _, rfl, isI, New.same _⟩⟩
   refine stepsCons rfl (fun Q f' w' ρ S ho hT hS hB => ?_) ?_
   ·obtain ⟨hv36, hr36⟩ := (hT 36 86 rfl rfl : (Is (.bool false)) _ _)
    obtain ⟨hv37, hr37⟩ := (hT 37 87 rfl rfl : (Is (.slice pP ((rps K2).length) cP)) _ _)
    obtain ⟨hv41, hr41⟩ := (hT 41 91 rfl rfl : (Is (.slice pF2 K2.length cF2)) _ _)
    obtain hS := hS.flat3 hr36 hr37 hr41
    exact .inl ⟨want_on (e := 86) rfl rfl rfl hv36, ocall rfl rfl Tryz.call53 rfl (wlpairs (hS.rsl 0 rfl (by simp [rps])) (hS.rsl 8 rfl (by simp [rps])) (by rw [rps_len]; exact hlen2)) (args2 (ev rfl hv37) (ev rfl hv41)) callN⟩
   refine stepsCons rfl (fun Q f' w' ρ S ho hT hS hB => ?_) ?_
   ·obtain ⟨hv36, hr36⟩ := (hT 36 86 rfl rfl : (Is (.bool false)) _ _)
    obtain ⟨hv42, hr42⟩ := (hT 42 92 rfl rfl : (Is (.bool true)) _ _)
    obtain hS := hS.flat2 hr36 hr42
    exact .inl ⟨want_on (e := 86) rfl rfl rfl hv36, onot (b := true) rfl rfl (ev rfl hv42) ⟨_, _, rfl, isI, New.same _⟩⟩
   refine stepsCons rfl (fun Q f' w' ρ S ho hT hS hB => ?_) ?_
   ·obtain ⟨hv36, hr36⟩ := (hT 36 86 rfl rfl : (Is (.bool false)) _ _)
    obtain ⟨hv43, hr43⟩ := (hT 43 93 rfl rfl : (Is (.bool false)) _ _)
    obtain hS := hS.flat2 hr36 hr43
    exact .inl ⟨want_none rfl, opick (b := false) (v := .bool false) rfl rfl (ev rfl hv36) (ev rfl hv43) ⟨_, _, rfl, isI, New.same _⟩⟩
   exact stepsNil
  ·
   intro vs ρ w18 f' hf hT hS
   obtain ⟨hv0, hr0⟩ := (hT 0 (by decide) : (Is (.int .i64 (((e2 : Nat) : Int)))) _ _)
   obtain ⟨hv1, hr1⟩ := (hT 1 (by decide) : (Is (.int .i64 (((e2 : Nat) : Int)))) _ _)
   obtain ⟨hv2, hr2⟩ := (hT 2 (by decide) : (Is (.int .i64 (((e2 : Nat) : Int)))) _ _)
   obtain ⟨hv3, hr3⟩ := (hT 3 (by decide) : (Is (.bool false)) _ _)
   obtain ⟨hv4, hr4⟩ := (hT 4 (by decide) : (Is (.bool false)) _ _)
   obtain ⟨hv5, hr5⟩ := (hT 5 (by decide) : (Is (.slice pv1 nv1 cv1)) _ _)
   obtain ⟨hv6, hr6⟩ := (hT 6 (by decide) : (Is (.pointer (some ⟨gF, 0, none⟩))) _ _)
   obtain ⟨hv7, hr7⟩ := (hT 7 (by decide) : (Is (.pointer (some ⟨gF, 0, none⟩))) _ _)
   obtain ⟨hv8, hr8⟩ := (hT 8 (by decide) : (Is (.pointer (some ⟨gF, 0, none⟩))) _ _)
   obtain ⟨hv9, hr9⟩ := (hT 9 (by decide) : (Is (.slice pV2 nV2 cV2)) _ _)
   obtain ⟨hv10, hr10⟩ := (hT 10 (by decide) : (Is (.bool true)) _ _)
   obtain ⟨hv11, hr11⟩ := (hT 11 (by decide) : (Is (.bool false)) _ _)
   obtain ⟨hv12, hr12⟩ := (hT 12 (by decide) : (Is (.bool false)) _ _)
   obtain ⟨hv13, hr13⟩ := (hT 13 (by decide) : (Is (.bool false)) _ _)
   obtain ⟨hv14, hr14⟩ := (hT 14 (by decide) : (Is (.slice pm1 nm1 cm1)) _ _)
   obtain ⟨hv15, hr15⟩ := (hT 15 (by decide) : (Is (.pointer (some ⟨gF, 0, none⟩))) _ _)
   obtain ⟨hv16, hr16⟩ := (hT 16 (by decide) : (Is (.pointer (some ⟨gF, 0, none⟩))) _ _)
   obtain ⟨hv17, hr17⟩ := (hT 17 (by decide) : (Is (.pointer (some ⟨gF, 1, none⟩))) _ _)
   obtain ⟨hv18, hr18⟩ := (hT 18 (by decide) : (Is (.slice pM2 nM2 cM2)) _ _)
   obtain ⟨hv19, hr19⟩ := (hT 19 (by decide) : (Is (.bool true)) _ _)
   obtain ⟨hv20, hr20⟩ := (hT 20 (by decide) : (Is (.bool false)) _ _)
   obtain ⟨hv21, hr21⟩ := (hT 21 (by decide) : (Is (.bool false)) _ _)
   obtain ⟨hv22, hr22⟩ := (hT 22 (by decide) : (Is (.bool false)) _ _)
   obtain ⟨hv23, hr23⟩ := (hT 23 (by decide) : (Is (.agg #[.bool (ng z9), .slice pS nS cS])) _ _)
   obtain ⟨hv24, hr24⟩ := (hT 24 (by decide) : (Is (.pointer (some ⟨gF, 0, none⟩))) _ _)
   obtain ⟨hv25, hr25⟩ := (hT 25 (by decide) : (Is (.pointer (some ⟨gF, 0, none⟩))) _ _)
   obtain ⟨hv26, hr26⟩ := (hT 26 (by decide) : (Is (.pointer (some ⟨gF, 0, none⟩))) _ _)
   obtain ⟨hv27, hr27⟩ := (hT 27 (by decide) : (Is (.slice pV2 nV2 cV2)) _ _)
   obtain ⟨hv28, hr28⟩ := (hT 28 (by decide) : (Is (.pointer (some ⟨gF, 0, none⟩))) _ _)
   obtain ⟨hv29, hr29⟩ := (hT 29 (by decide) : (Is (.pointer (some ⟨gF, 0, none⟩))) _ _)
   obtain ⟨hv30, hr30⟩ := (hT 30 (by decide) : (Is (.pointer (some ⟨gF, 1, none⟩))) _ _)
   obtain ⟨hv31, hr31⟩ := (hT 31 (by decide) : (Is (.slice pM2 nM2 cM2)) _ _)
   obtain ⟨pL, nL, cL, hv32, hr32⟩ := (hT 32 (by decide) : (Zt z9) _ _)
   obtain ⟨hv33, hr33⟩ := (hT 33 (by decide) : (Is (.bool true)) _ _)
   obtain ⟨hv34, hr34⟩ := (hT 34 (by decide) : (Is (.bool false)) _ _)
   obtain ⟨hv35, hr35⟩ := (hT 35 (by decide) : (Is (.bool false)) _ _)
   obtain ⟨hv36, hr36⟩ := (hT 36 (by decide) : (Is (.bool false)) _ _)
   obtain ⟨hv37, hr37⟩ := (hT 37 (by decide) : (Is (.slice pP ((rps K2).length) cP)) _ _)
   obtain ⟨hv38, hr38⟩ := (hT 38 (by decide) : (Is (.pointer (some ⟨gF, 0, none⟩))) _ _)
   obtain ⟨hv39, hr39⟩ := (hT 39 (by decide) : (Is (.pointer (some ⟨gF, 0, none⟩))) _ _)
   obtain ⟨hv40, hr40⟩ := (hT 40 (by decide) : (Is (.pointer (some ⟨gF, 2, none⟩))) _ _)
   obtain ⟨hv41, hr41⟩ := (hT 41 (by decide) : (Is (.slice pF2 K2.length cF2)) _ _)
   obtain ⟨hv42, hr42⟩ := (hT 42 (by decide) : (Is (.bool true)) _ _)
   obtain ⟨hv43, hr43⟩ := (hT 43 (by decide) : (Is (.bool false)) _ _)
   obtain ⟨hv44, hr44⟩ := (hT 44 (by decide) : (Is (.bool false)) _ _)
   simp only [pool, if_true, hr0, hr1, hr2, hr3, hr4, hr5, hr6, hr7, hr8, hr9, hr10, hr11, hr12, hr13, hr14, hr15, hr16, hr17, hr18, hr19, hr20, hr21, hr22, hr23, hr24, hr25, hr26, hr27, hr28, hr29, hr30, hr31, hr32, hr33, hr34, hr35, hr36, hr37, hr38, hr39, hr40, hr41, hr42, hr43, hr44, List.nil_append, List.cons_append, List.append_nil] at hS
   simp only [layf, hv0, hv1, hv2, hv3, hv4, hv5, hv6, hv7, hv8, hv9, hv10, hv11, hv12, hv13, hv14, hv15, hv16, hv17, hv18, hv19, hv20, hv21, hv22, hv23, hv24, hv25, hv26, hv27, hv28, hv29, hv30, hv31, hv32, hv33, hv34, hv35, hv36, hv37, hv38, hv39, hv40, hv41, hv42, hv43, hv44] at hf
   subst hf; clear hT hv0 hv1 hv2 hv3 hv4 hv5 hv6 hv7 hv8 hv9 hv10 hv11 hv12 hv13 hv14 hv15 hv16 hv17 hv18 hv19 hv20 hv21 hv22 hv23 hv24 hv25 hv26 hv27 hv28 hv29 hv30 hv31 hv32 hv33 hv34 hv35 hv36 hv37 hv38 hv39 hv40 hv41 hv42 hv43 hv44 hr0 hr1 hr2 hr3 hr4 hr5 hr6 hr7 hr8 hr9 hr10 hr11 hr12 hr13 hr14 hr15 hr16 hr17 hr18 hr19 hr20 hr21 hr22 hr23 hr24 hr25 hr26 hr27 hr28 hr29 hr30 hr31 hr32 hr33 hr34 hr35 hr36 hr37 hr38 hr39 hr40 hr41 hr42 hr43 hr44
   refine wdone rfl ?_
   refine thenN ?_
   refine wF (ev rfl rfl) ?_
   refine wskip (thenN (wseq (wreg (wl rfl (omove (v := .slice pv1 nv1 cv1) rfl rfl (ev rfl rfl) ?_)))))
   refine wl rfl (omove (v := .slice pm1 nm1 cm1) rfl rfl (ev rfl rfl) ?_)
   refine wl rfl (ofieldAddr (g := g14) (off := 0) 1 rfl rfl (ev rfl rfl) Tryz.runUnderlying28 rfl Tryz.sizeOf26 rfl ?_)
   refine wl rfl (oload1 (v := .slice pS nS cS) oneN hS 2 rfl rfl (ev rfl rfl) rfl rfl ?_)
   refine wl rfl (obslice (ps := #[(0, .slice pv1 nv1 cv1), (1, .slice pm1 nm1 cm1), (2, .slice pS nS cS)]) (z := .slice none 0 0) [.slice pv1 nv1 cv1, .slice pm1 nm1 cm1, .slice pS nS cS] hS rfl rfl Tryz.runUnderlying124 Tryz.sizeOf26 Tryz.zeroValue26 (parts3 (ev (v := .slice pv1 nv1 cv1) rfl rfl) (ev (v := .slice pm1 nm1 cm1) rfl rfl) (ev (v := .slice pS nS cS) rfl rfl)) rfl (by decide) (fill1_3s rfl rfl rfl rfl) ?_)
   clear hS; intro g19 w20 hS
   have q1 := (hS.slm 8 rfl).lln
   have q2 := (hS.slm 6 rfl).lln
   have q3 : nS ≤ 1048577 := by rw [(hS.slm 4 rfl).lln]; exact hkS
   have q4 := rps_len K2
   obtain hS := (show Sep w [.blk g19 [.slice pv1 nv1 cv1, .slice pm1 nm1 cm1, .slice pS nS cS] 26, .rowm pv1 nv1 cv1 (lim (cv K2).1), .rowm pm1 nm1 cm1 (lim (cv K2).2), .rowm pS nS cS (lim z9.natAbs), .row pL nL cL (lim z9.natAbs), .lst 42 2 pP ((rps K2).length) cP (rpE (rps K2)), .blk g14 [.bool (ng z9), .slice pS nS cS] 28, .rowm pm2 nm2 cm2 (lim (cv K2).2), .rowm pv2 nv2 cv2 (lim (cv K2).1), .blk gF [.slice pV2 nV2 cV2, .slice pM2 nM2 cM2, .slice pF2 K2.length cF2] 77, .lst 42 2 pF2 K2.length cF2 (rpE (rps K2)), .row pV2 nV2 cV2 (lim (cv K2).1), .row pM2 nM2 cM2 (lim (cv K2).2), .pack (crtR g1 s2 K2), .blk g4 [.int .u32 (((x.1 : Nat) : Int)), .int .u32 (((x.2 : Nat) : Int))] 42] w20 from hS.pick [0, 8, 6, 4, 1, 2, 3, 5, 7, 9, 10, 11, 12, 13, 14] (by decide) rfl)
   refine wl rfl (ocall rfl rfl Tryz.call47 rfl (wlspoil3 hS (by omega) (by omega) (by omega)) (args1 (ev rfl rfl)) ?_)
   rintro _ w21 ⟨_, _, rfl, ⟨rfl, rfl⟩, hN⟩
   refine ⟨_, rfl, ?_⟩
   clear hS; have hS := hN; clear hN
   refine wnil (thenN (wseq (wseq (wreg (wl rfl (omove (v := .slice pP ((rps K2).length) cP) rfl rfl (ev rfl rfl) ?_))))))
   refine wl rfl (olen rfl rfl rfl Tryz.runUnderlying37 (p := pP) (k := (rps K2).length) (m := cP) (ev rfl rfl) ?_)
   refine wl rfl (omove (v := .int .i64 0) rfl rfl evc ?_)
   refine wnil (thenN (wblock ?_))
   refine wloop (σ := Nat) (fun j a9 w' => ∃ (fb : Nat → Value) (es : List El), a9 = act 156 (sets fb [(3, .pointer (some ⟨g1, 0, none⟩)), (4, .pointer (some ⟨gF, 0, none⟩)), (10, .slice pv2 nv2 cv2), (12, .slice pm2 nm2 cm2), (14, .slice pP ((rps K2).length) cP), (20, .slice p n c), (21, .int .i64 (n : Int)), (22, .int .i64 (i : Int)), (102, .int .i64 ((((rps K2).length : Nat) : Int))), (103, .int .i64 (j : Int))]) ∧ Sep w [.row pL nL cL (lim z9.natAbs), .lst 42 2 pP ((rps K2).length) cP es, .blk g14 [.bool (ng z9), .slice pS nS cS] 28, .rowm pm2 nm2 cm2 (lim (cv K2).2), .rowm pv2 nv2 cv2 (lim (cv K2).1), .blk gF [.slice pV2 nV2 cV2, .slice pM2 nM2 cM2, .slice pF2 K2.length cF2] 77, .lst 42 2 pF2 K2.length cF2 (rpE (rps K2)), .row pV2 nV2 cV2 (lim (cv K2).1), .row pM2 nM2 cM2 (lim (cv K2).2), .pack (crtR g1 s2 K2), .blk g4 [.int .u32 (x.1 : Int), .int .u32 (x.2 : Int)] 42] w' ∧ (j ≤ (rps K2).length)) (fun j => (rps K2).length - j) (0) ⟨_, _, act_sets (l := [(3, .pointer (some ⟨g1, 0, none⟩)), (4, .pointer (some ⟨gF, 0, none⟩)), (10, .slice pv2 nv2 cv2), (12, .slice pm2 nm2 cm2), (14, .slice pP ((rps K2).length) cP), (20, .slice p n c), (21, .int .i64 (n : Int)), (22, .int .i64 (i : Int)), (102, .int .i64 ((((rps K2).length : Nat) : Int))), (103, .int .i64 0)]) ⟨rfl, rfl, rfl, rfl, rfl, rfl, rfl, rfl, rfl, rfl, trivial⟩, hS, Nat.zero_le _⟩ ?_
   clear hS; rintro j _ w22 ⟨fb, es, rfl, hS, hj⟩
   refine wseq (wreg ?_)
   by_cases hlj : j < (rps K2).length
   ·
    obtain ⟨gP, rfl⟩ := hS.lstPtr 1 rfl (by omega)
    refine wl rfl (obin (u := .int .i64 (j : Int)) (v := .int .i64 ((((rps K2).length : Nat) : Int))) (z := .bool true) rfl rfl (ev rfl rfl) (ev rfl rfl) (bin_lss (decide_eq_true (by omega))) ?_)
    refine wnil (thenN (wseq ?_))
    refine wT (ev rfl rfl) ?_
    refine wskip (thenN (wseq (wblock (wseq (wreg (wl rfl (omove (v := .int .i64 (j : Int)) rfl rfl (ev rfl rfl) ?_)))))))
    refine wl rfl (oassign (v := .int .i64 (j : Int)) rfl rfl (ev rfl rfl) ?_)
    refine wnil (thenN (wreg (wl rfl (omove (v := .slice (some ⟨gP, 0, none⟩) ((rps K2).length) cP) rfl rfl (ev rfl rfl) ?_))))
    refine wl rfl (omove (v := .int .i64 (j : Int)) rfl rfl (ev rfl rfl) ?_)
    refine wl rfl (obuild (ps := #[]) (v := .agg #[.int .u32 0, .int .u32 0]) rfl rfl (parts0) (fun w => by simp [go_sem, Instr.build, Instr.fill]) ?_)
    refine wl rfl (oindex (p := (some ⟨gP, 0, none⟩)) (g := gP) (off := 0) (m := (rps K2).length) (k := j) (j := (0 + j * 2)) rfl rfl Tryz.runUnderlying37 Tryz.sizeOf42 (ev rfl rfl) (rfl) (ev rfl rfl) (hlj) rfl ?_)
    obtain hS := (show Sep w [.lst 42 2 (some ⟨gP, 0, none⟩) ((rps K2).length) cP es, .row pL nL cL (lim z9.natAbs), .blk g14 [.bool (ng z9), .slice pS nS cS] 28, .rowm pm2 nm2 cm2 (lim (cv K2).2), .rowm pv2 nv2 cv2 (lim (cv K2).1), .blk gF [.slice pV2 nV2 cV2, .slice pM2 nM2 cM2, .slice pF2 K2.length cF2] 77, .lst 42 2 pF2 K2.length cF2 (rpE (rps K2)), .row pV2 nV2 cV2 (lim (cv K2).1), .row pM2 nM2 cM2 (lim (cv K2).2), .pack (crtR g1 s2 K2), .blk g4 [.int .u32 (((x.1 : Nat) : Int)), .int .u32 (((x.2 : Nat) : Int))] 42] w22 from hS.pick [1, 0, 2, 3, 4, 5, 6, 7, 8, 9, 10] (by decide) rfl)
    refine wl rfl (ostoreL (i := j) (g := gP) [.int .u32 0, .int .u32 0] [] Tryz.sizeOf42 hS rfl rfl (ev (v := .pointer (some ⟨gP, (0 + j * 2), none⟩)) rfl rfl) (ev (v := .agg #[.int .u32 0, .int .u32 0]) rfl rfl) ((by omega)) rfl rfl rfl rfl (hlj) rfl ?_)
    clear hS; intro w23 hS
    refine wnil (blkN (thenN (wreg (wl rfl (obin (u := .int .i64 (j : Int)) (v := .int .i64 1) (z := .int .i64 (((j + 1 : Nat) : Int))) rfl rfl (ev rfl rfl) evc (bin_add (wrap_i64 (by omega) (by omega))) ?_)))))
    refine wl rfl (omove (v := .int .i64 (((j + 1 : Nat) : Int))) rfl rfl (ev rfl rfl) ?_)
    refine wnil (thenN ?_)
    exact ⟨(j + 1), ⟨_, _, act_sets (l := [(3, .pointer (some ⟨g1, 0, none⟩)), (4, .pointer (some ⟨gF, 0, none⟩)), (10, .slice pv2 nv2 cv2), (12, .slice pm2 nm2 cm2), (14, .slice (some ⟨gP, 0, none⟩) ((rps K2).length) cP), (20, .slice p n c), (21, .int .i64 (n : Int)), (22, .int .i64 (i : Int)), (102, .int .i64 ((((rps K2).length : Nat) : Int))), (103, .int .i64 (((j + 1 : Nat) : Int)))]) ⟨rfl, rfl, rfl, rfl, rfl, rfl, rfl, rfl, rfl, rfl, trivial⟩, hS.pick [1, 0, 2, 3, 4, 5, 6, 7, 8, 9, 10] (by decide) rfl, by omega⟩, by omega⟩
   ·
    refine wl rfl (obin (u := .int .i64 (j : Int)) (v := .int .i64 ((((rps K2).length : Nat) : Int))) (z := .bool false) rfl rfl (ev rfl rfl) (ev rfl rfl) (bin_lss (decide_eq_false (by omega))) ?_)
    refine wnil (thenN (wseq ?_))
    refine wF (ev rfl rfl) ?_
    refine wexit ?_
    refine thenE ?_
    refine thenE ?_
    refine blkE ?_
    refine thenN (wseq (wreg (wl rfl (omove (v := .slice pv2 nv2 cv2) rfl rfl (ev rfl rfl) ?_))))
    refine wl rfl (omove (v := .pointer (some ⟨gF, 0, none⟩)) rfl rfl (ev rfl rfl) ?_)
    refine wl rfl (onilCheck (a := ⟨gF, 0, none⟩) rfl rfl (ev rfl rfl) ?_)
    refine wl rfl (ofieldAddr (g := gF) (off := 0) 0 rfl rfl (ev rfl rfl) Tryz.runUnderlying77 rfl Tryz.sizeOf26 rfl ?_)
    refine wl rfl (oload1 (v := .slice pV2 nV2 cV2) oneN hS 5 rfl rfl (ev rfl rfl) rfl rfl ?_)
    refine wl rfl (ocall rfl rfl Tryz.call21 rfl (wlsame6 (x := (cv K2).1) (y := (cv K2).1) (hS.slm 4 rfl) (((hS.sl 7 rfl).nr hwV2).mono (by omega)) (rfl)) (args2 (ev rfl rfl) (ev rfl rfl)) ?_)
    rintro _ w23 ⟨_, _, rfl, ⟨rfl, rfl⟩, hN⟩
    refine ⟨_, rfl, ?_⟩
    replace hS := hS.news hN; clear hN
    refine wl rfl (onot (b := true) rfl rfl (ev rfl rfl) ?_)
    refine wl rfl (omove (v := .bool false) rfl rfl (ev rfl rfl) ?_)
    refine wlOn (e := 118) rfl rfl rfl rfl (omove (v := .slice pm2 nm2 cm2) rfl rfl (ev rfl rfl) ?_)
    refine wlOn (e := 118) rfl rfl rfl rfl (omove (v := .pointer (some ⟨gF, 0, none⟩)) rfl rfl (ev rfl rfl) ?_)
    refine wlOn (e := 118) rfl rfl rfl rfl (onilCheck (a := ⟨gF, 0, none⟩) rfl rfl (ev rfl rfl) ?_)
    refine wlOn (e := 118) rfl rfl rfl rfl (ofieldAddr (g := gF) (off := 0) 1 rfl rfl (ev rfl rfl) Tryz.runUnderlying77 rfl Tryz.sizeOf26 rfl ?_)
    refine wlOn (e := 118) rfl rfl rfl rfl (oload1 (v := .slice pM2 nM2 cM2) oneN hS 5 rfl rfl (ev rfl rfl) rfl rfl ?_)
    refine wlOn (e := 118) rfl rfl rfl rfl (ocall rfl rfl Tryz.call21 rfl (wlsame6 (x := (cv K2).2) (y := (cv K2).2) (hS.slm 3 rfl) (((hS.sl 8 rfl).nr hwM2).mono (by omega)) (rfl)) (args2 (ev rfl rfl) (ev rfl rfl)) ?_)
    rintro _ w24 ⟨_, _, rfl, ⟨rfl, rfl⟩, hN⟩
    refine ⟨_, rfl, ?_⟩
    replace hS := hS.news hN; clear hN
    refine wlOn (e := 118) rfl rfl rfl rfl (onot (b := true) rfl rfl (ev rfl rfl) ?_)
    refine wl rfl (opick (b := false) (v := .bool false) rfl rfl (ev rfl rfl) (ev rfl rfl) ?_)
    refine wnil (thenN ?_)
    refine wF (ev rfl rfl) ?_
    refine wskip (blkN (thenN (wreg (wl rfl (obin (u := .int .i64 (i : Int)) (v := .int .i64 1) (z := .int .i64 (((i + 1 : Nat) : Int))) rfl rfl (ev rfl rfl) evc (bin_add (wrap_i64 (by omega) (by omega))) ?_)))))
    refine wl rfl (omove (v := .int .i64 (((i + 1 : Nat) : Int))) rfl rfl (ev rfl rfl) ?_)
    refine wnil (thenN ?_)
    exact ⟨(i + 1), ⟨_, _, _, _, _, _, _, _, _, _, _, act_sets (l := [(3, .pointer (some ⟨g1, 0, none⟩)), (4, .pointer (some ⟨gF, 0, none⟩)), (20, .slice p n c), (21, .int .i64 (n : Int)), (22, .int .i64 (((i + 1 : Nat) : Int)))]) ⟨rfl, rfl, rfl, rfl, rfl, trivial⟩, hS.pick [7, 6, 5, 8, 9] (by decide) rfl, by omega, hok2, by omega⟩, by omega⟩
 ·
  refine wl rfl (obin (u := .int .i64 (i : Int)) (v := .int .i64 (n : Int)) (z := .bool false) rfl rfl (ev rfl rfl) (ev rfl rfl) (bin_lss (decide_eq_false (by omega))) ?_)
  refine wnil (thenN (wseq ?_))
  refine wF (ev rfl rfl) ?_
  refine wexit ?_
  refine thenE ?_
  refine thenE ?_
  refine blkE ?_
  refine thenN (wseq ?_)
  have hwV := hok.wV
  have hwM := hok.wM
  have hlen2 := hok.len
  refine wstage 29 [128, 129, 130, 131, 132, 133, 134, 135, 136, 137, 138, 139, 140, 141, 142, 143, 144, 145, 146, 147, 148, 149, 150, 151, 152, 153, 154, 155, 2] [[], [0], [], [2], [3, 2], [4, 2, 3], [1, 5, 0, 2, 3, 4], [6, 0, 1, 2, 3, 4, 5], [7, 0, 1, 2, 3, 4, 5, 6], [7, 8, 0, 1, 2, 3, 4, 5, 6], [7, 0, 1, 2, 3, 4, 5, 6], [7, 10, 0, 1, 2, 3, 4, 5, 6], [7, 11, 0, 1, 2, 3, 4, 5, 6, 10], [7, 12, 0, 1, 2, 3, 4, 5, 6, 10, 11], [7, 9, 13, 0, 1, 2, 3, 4, 5, 6, 8, 10, 11, 12], [7, 14, 0, 1, 2, 3, 4, 5, 6, 8, 9, 10, 11, 12, 13], [15, 0, 1, 2, 3, 4, 5, 6, 7, 8, 9, 10, 11, 12, 13, 14], [16, 0, 1, 2, 3, 4, 5, 6, 7, 8, 9, 10, 11, 12, 13, 14, 15], [16, 17, 0, 1, 2, 3, 4, 5, 6, 7, 8, 9, 10, 11, 12, 13, 14, 15], [16, 0, 1, 2, 3, 4, 5, 6, 7, 8, 9, 10, 11, 12, 13, 14, 15], [16, 19, 0, 1, 2, 3, 4, 5, 6, 7, 8, 9, 10, 11, 12, 13, 14, 15], [16, 20, 0, 1, 2, 3, 4, 5, 6, 7, 8, 9, 10, 11, 12, 13, 14, 15, 19], [16, 21, 0, 1, 2, 3, 4, 5, 6, 7, 8, 9, 10, 11, 12, 13, 14, 15, 19, 20], [16, 18, 22, 0, 1, 2, 3, 4, 5, 6, 7, 8, 9, 10, 11, 12, 13, 14, 15, 17, 19, 20, 21], [16, 23, 0, 1, 2, 3, 4, 5, 6, 7, 8, 9, 10, 11, 12, 13, 14, 15, 17, 18, 19, 20, 21, 22], [24, 0, 1, 2, 3, 4, 5, 6, 7, 8, 9, 10, 11, 12, 13, 14, 15, 16, 17, 18, 19, 20, 21, 22, 23], [25, 0, 1, 2, 3, 4, 5, 6, 7, 8, 9, 10, 11, 12, 13, 14, 15, 16, 17, 18, 19, 20, 21, 22, 23, 24], [25, 26, 0, 1, 2, 3, 4, 5, 6, 7, 8, 9, 10, 11, 12, 13, 14, 15, 16, 17, 18, 19, 20, 21, 22, 23, 24], [27, 0, 1, 2, 3, 4, 5, 6, 7, 8, 9, 10, 11, 12, 13, 14, 15, 16, 17, 18, 19, 20, 21, 22, 23, 24, 25, 26]] [[], [], [], [], [], [], [], [], [], [], [], [], [], [], [], [], [], [], [], [], [], [], [], [], [], [], [], [], []] [] [] (fun i9 => ([fun _ => Is (.pointer (some ⟨g1, 0, none⟩)), fun _ => Nw (lim (cv K).1), fun _ => Is (.pointer (some ⟨gF, 0, none⟩)), fun _ => Is (.pointer (some ⟨gF, 0, none⟩)), fun _ => Is (.pointer (some ⟨gF, 0, none⟩)), fun _ => Is (.slice pV nV cV), fun _ => Is (.bool true), fun _ => Is (.bool true), fun _ => Is (.pointer (some ⟨g1, 0, none⟩)), fun _ => Nw (lim (cv K).2), fun _ => Is (.pointer (some ⟨gF, 0, none⟩)), fun _ => Is (.pointer (some ⟨gF, 0, none⟩)), fun _ => Is (.pointer (some ⟨gF, 1, none⟩)), fun _ => Is (.slice pM nM cM), fun _ => Is (.bool true), fun _ => Is (.bool true), fun _ => Is (.bool true), fun _ => Is (.pointer (some ⟨g1, 0, none⟩)), fun _ => LRt (rps K), fun _ => Is (.pointer (some ⟨gF, 0, none⟩)), fun _ => Is (.pointer (some ⟨gF, 0, none⟩)), fun _ => Is (.pointer (some ⟨gF, 2, none⟩)), fun _ => Is (.slice pF K.length cF), fun _ => Is (.bool true), fun _ => Is (.bool true), fun _ => Is (.bool true), fun _ => Is (.bool true), fun _ => Is (.bool true), fun _ => Is (.bool true)] : List (List Value → Tell)).getD i9 (fun _ _ _ => False)) (heldNil) (fun d _ _ _ _ h => (by cases d <;> exact h)) (by kernel_rfl) (by kernel_rfl) (by kernel_rfl) hS ?_ ?_
  ·
   refine stepsCons rfl (fun Q f' w' ρ S ho hT hS hB => ?_) ?_
   ·exact .inl ⟨want_none rfl, omove (v := .pointer (some ⟨g1, 0, none⟩)) rfl rfl (ev rfl (ho 3 rfl)) ⟨_, _, rfl, isI, New.same _⟩⟩
   refine stepsCons rfl (fun Q f' w' ρ S ho hT hS hB => ?_) ?_
   ·obtain ⟨hv0, hr0⟩ := (hT 0 128 rfl rfl : (Is (.pointer (some ⟨g1, 0, none⟩))) _ _)
    obtain hS := hS.flat1 hr0
    exact .inl ⟨want_none rfl, ocall rfl rfl Tryz.call50 rfl (wcvalue (hS.get 4 rfl) hok) (args1 (ev rfl hv0)) callN⟩
   refine stepsCons rfl (fun Q f' w' ρ S ho hT hS hB => ?_) ?_
   ·exact .inl ⟨want_none rfl, omove (v := .pointer (some ⟨gF, 0, none⟩)) rfl rfl (ev rfl (ho 4 rfl)) ⟨_, _, rfl, isI, New.same _⟩⟩
   refine stepsCons rfl (fun Q f' w' ρ S ho hT hS hB => ?_) ?_
   ·obtain ⟨hv2, hr2⟩ := (hT 2 130 rfl rfl : (Is (.pointer (some ⟨gF, 0, none⟩))) _ _)
    obtain hS := hS.flat1 hr2
    exact .inl ⟨want_none rfl, onilCheck (a := ⟨gF, 0, none⟩) rfl rfl (ev rfl hv2) ⟨_, _, rfl, isI, New.same _⟩⟩
   refine stepsCons rfl (fun Q f' w' ρ S ho hT hS hB => ?_) ?_
   ·obtain ⟨hv3, hr3⟩ := (hT 3 131 rfl rfl : (Is (.pointer (some ⟨gF, 0, none⟩))) _ _)
    obtain hS := hS.flat1 hr3
    exact .inl ⟨want_none rfl, ofieldAddr (g := gF) (off := 0) 0 rfl rfl (ev rfl hv3) Tryz.runUnderlying77 rfl Tryz.sizeOf26 rfl ⟨_, _, rfl, isI, New.same _⟩⟩
   refine stepsCons rfl (fun Q f' w' ρ S ho hT hS hB => ?_) ?_
   ·obtain ⟨hv4, hr4⟩ := (hT 4 132 rfl rfl : (Is (.pointer (some ⟨gF, 0, none⟩))) _ _)
    obtain hS := hS.flat1 hr4
    exact .inl ⟨want_none rfl, oload1 (v := .slice pV nV cV) oneN hS 2 rfl rfl (ev rfl hv4) rfl rfl ⟨_, _, rfl, isI, New.same _⟩⟩
   refine stepsCons rfl (fun Q f' w' ρ S ho hT hS hB => ?_) ?_
   ·obtain ⟨pv9, nv9, cv9, hv1, hr1⟩ := (hT 1 129 rfl rfl : (Nw (lim (cv K).1)) _ _)
    obtain ⟨hv5, hr5⟩ := (hT 5 133 rfl rfl : (Is (.slice pV nV cV)) _ _)
    obtain hS := hS.flat2 hr1 hr5
    exact .inl ⟨want_none rfl, ocall rfl rfl Tryz.call21 rfl (wlsame6 (x := (cv K).1) (y := (cv K).1) (hS.slm 5 rfl) (((hS.sl 0 rfl).nr hwV).mono (by omega)) (rfl)) (args2 (ev rfl hv1) (ev rfl hv5)) callN⟩
   refine stepsCons rfl (fun Q f' w' ρ S ho hT hS hB => ?_) ?_
   ·obtain ⟨hv6, hr6⟩ := (hT 6 134 rfl rfl : (Is (.bool true)) _ _)
    obtain hS := hS.flat1 hr6
    exact .inl ⟨want_none rfl, omove (v := .bool true) rfl rfl (ev rfl hv6) ⟨_, _, rfl, isI, New.same _⟩⟩
   refine stepsCons rfl (fun Q f' w' ρ S ho hT hS hB => ?_) ?_
   ·obtain ⟨hv7, hr7⟩ := (hT 7 135 rfl rfl : (Is (.bool true)) _ _)
    obtain hS := hS.flat1 hr7
    exact .inl ⟨want_on (e := 135) rfl rfl rfl hv7, omove (v := .pointer (some ⟨g1, 0, none⟩)) rfl rfl (ev rfl (ho 3 rfl)) ⟨_, _, rfl, isI, New.same _⟩⟩
   refine stepsCons rfl (fun Q f' w' ρ S ho hT hS hB => ?_) ?_
   ·obtain ⟨hv7, hr7⟩ := (hT 7 135 rfl rfl : (Is (.bool true)) _ _)
    obtain ⟨hv8, hr8⟩ := (hT 8 136 rfl rfl : (Is (.pointer (some ⟨g1, 0, none⟩))) _ _)
    obtain hS := hS.flat2 hr7 hr8
    exact .inl ⟨want_on (e := 135) rfl rfl rfl hv7, ocall rfl rfl Tryz.call51 rfl (wcmod (hS.get 4 rfl) hok) (args1 (ev rfl hv8)) callN⟩
   refine stepsCons rfl (fun Q f' w' ρ S ho hT hS hB => ?_) ?_
   ·obtain ⟨hv7, hr7⟩ := (hT 7 135 rfl rfl : (Is (.bool true)) _ _)
    obtain hS := hS.flat1 hr7
    exact .inl ⟨want_on (e := 135) rfl rfl rfl hv7, omove (v := .pointer (some ⟨gF, 0, none⟩)) rfl rfl (ev rfl (ho 4 rfl)) ⟨_, _, rfl, isI, New.same _⟩⟩
   refine stepsCons rfl (fun Q f' w' ρ S ho hT hS hB => ?_) ?_
   ·obtain ⟨hv7, hr7⟩ := (hT 7 135 rfl rfl : (Is (.bool true)) _ _)
    obtain ⟨hv10, hr10⟩ := (hT 10 138 rfl rfl : (Is (.pointer (some ⟨gF, 0, none⟩))) _ _)
    obtain hS := hS.flat2 hr7 hr10
    exact .inl ⟨want_on (e := 135) rfl rfl rfl hv7, onilCheck (a := ⟨gF, 0, none⟩) rfl rfl (ev rfl hv10) ⟨_, _, rfl, isI, New.same _⟩⟩
   refine stepsCons rfl (fun Q f' w' ρ S ho hT hS hB => ?_) ?_
   ·obtain ⟨hv7, hr7⟩ := (hT 7 135 rfl rfl : (Is (.bool true)) _ _)
    obtain ⟨hv11, hr11⟩ := (hT 11 139 rfl rfl : (Is (.pointer (some ⟨gF, 0, none⟩))) _ _)
    obtain hS := hS.flat2 hr7 hr11
    exact .inl ⟨want_on (e := 135) rfl rfl rfl hv7, ofieldAddr (g := gF) (off := 0) 1 rfl rfl (ev rfl hv11) Tryz.runUnderlying77 rfl Tryz.sizeOf26 rfl ⟨_, _, rfl, isI, New.same _⟩⟩
   refine stepsCons rfl (fun Q f' w' ρ S ho hT hS hB => ?_) ?_
   ·obtain ⟨hv7, hr7⟩ := (hT 7 135 rfl rfl : (Is (.bool true)) _ _)
    obtain ⟨hv12, hr12⟩ := (hT 12 140 rfl rfl : (Is (.pointer (some ⟨gF, 1, none⟩))) _ _)
    obtain hS := hS.flat2 hr7 hr12
    exact .inl ⟨want_on (e := 135) rfl rfl rfl hv7, oload1 (v := .slice pM nM cM) oneN hS 2 rfl rfl (ev rfl hv12) rfl rfl ⟨_, _, rfl, isI, New.same _⟩⟩
   refine stepsCons rfl (fun Q f' w' ρ S ho hT hS hB => ?_) ?_
   ·obtain ⟨hv7, hr7⟩ := (hT 7 135 rfl rfl : (Is (.bool true)) _ _)
    obtain ⟨pm9, nm9, cm9, hv9, hr9⟩ := (hT 9 137 rfl rfl : (Nw (lim (cv K).2)) _ _)
    obtain ⟨hv13, hr13⟩ := (hT 13 141 rfl rfl : (Is (.slice pM nM cM)) _ _)
    obtain hS := hS.flat3 hr7 hr9 hr13
    exact .inl ⟨want_on (e := 135) rfl rfl rfl hv7, ocall rfl rfl Tryz.call21 rfl (wlsame6 (x := (cv K).2) (y := (cv K).2) (hS.slm 5 rfl) (((hS.sl 3 rfl).nr hwM).mono (by omega)) (rfl)) (args2 (ev rfl hv9) (ev rfl hv13)) callN⟩
   refine stepsCons rfl (fun Q f' w' ρ S ho hT hS hB => ?_) ?_
   ·obtain ⟨hv7, hr7⟩ := (hT 7 135 rfl rfl : (Is (.bool true)) _ _)
    obtain ⟨hv14, hr14⟩ := (hT 14 142 rfl rfl : (Is (.bool true)) _ _)
    obtain hS := hS.flat2 hr7 hr14
    exact .inl ⟨want_none rfl, opick (b := true) (v := .bool true) rfl rfl (ev rfl hv7) (ev rfl hv14) ⟨_, _, rfl, isI, New.same _⟩⟩
   refine stepsCons rfl (fun Q f' w' ρ S ho hT hS hB => ?_) ?_
   ·obtain ⟨hv15, hr15⟩ := (hT 15 143 rfl rfl : (Is (.bool true)) _ _)
    obtain hS := hS.flat1 hr15
    exact .inl ⟨want_none rfl, omove (v := .bool true) rfl rfl (ev rfl hv15) ⟨_, _, rfl, isI, New.same _⟩⟩
   refine stepsCons rfl (fun Q f' w' ρ S ho hT hS hB => ?_) ?_
   ·obtain ⟨hv16, hr16⟩ := (hT 16 144 rfl rfl : (Is (.bool true)) _ _)
    obtain hS := hS.flat1 hr16
    exact .inl ⟨want_on (e := 144) rfl rfl rfl hv16, omove (v := .pointer (some ⟨g1, 0, none⟩)) rfl rfl (ev rfl (ho 3 rfl)) ⟨_, _, rfl, isI, New.same _⟩⟩
   refine stepsCons rfl (fun Q f' w' ρ S ho hT hS hB => ?_) ?_
   ·obtain ⟨hv16, hr16⟩ := (hT 16 144 rfl rfl : (Is (.bool true)) _ _)
    obtain ⟨hv17, hr17⟩ := (hT 17 145 rfl rfl : (Is (.pointer (some ⟨g1, 0, none⟩))) _ _)
    obtain hS := hS.flat2 hr16 hr17
    exact .inl ⟨want_on (e := 144) rfl rfl rfl hv16, ocall rfl rfl Tryz.call52 rfl (wcpairs (hS.get 4 rfl) hok) (args1 (ev rfl hv17)) callN⟩
   refine stepsCons rfl (fun Q f' w' ρ S ho hT hS hB => ?_) ?_
   ·obtain ⟨hv16, hr16⟩ := (hT 16 144 rfl rfl : (Is (.bool true)) _ _)
    obtain hS := hS.flat1 hr16
    exact .inl ⟨want_on (e := 144) rfl rfl rfl hv16, omove (v := .pointer (some ⟨gF, 0, none⟩)) rfl rfl (ev rfl (ho 4 rfl)) ⟨_, _, rfl, isI, New.same _⟩⟩
   refine stepsCons rfl (fun Q f' w' ρ S ho hT hS hB => ?_) ?_
   ·obtain ⟨hv16, hr16⟩ := (hT 16 144 rfl rfl : (Is (.bool true)) _ _)
    obtain ⟨hv19, hr19⟩ := (hT 19 147 rfl rfl : (Is (.pointer (some ⟨gF, 0, none⟩))) _ _)
    obtain hS := hS.flat2 hr16 hr19
    exact .inl ⟨want_on (e := 144) rfl rfl rfl hv16, onilCheck (a := ⟨gF, 0, none⟩) rfl rfl (ev rfl hv19) ⟨_, _, rfl, isI, New.same _⟩⟩
   refine stepsCons rfl (fun Q f' w' ρ S ho hT hS hB => ?_) ?_
   ·obtain ⟨hv16, hr16⟩ := (hT 16 144 rfl rfl : (Is (.bool true)) _ _)
    obtain ⟨hv20, hr20⟩ := (hT 20 148 rfl rfl : (Is (.pointer (some ⟨gF, 0, none⟩))) _ _)
    obtain hS := hS.flat2 hr16 hr20
    exact .inl ⟨want_on (e := 144) rfl rfl rfl hv16, ofieldAddr (g := gF) (off := 0) 2 rfl rfl (ev rfl hv20) Tryz.runUnderlying77 rfl Tryz.sizeOf37 rfl ⟨_, _, rfl, isI, New.same _⟩⟩
   refine stepsCons rfl (fun Q f' w' ρ S ho hT hS hB => ?_) ?_
   ·obtain ⟨hv16, hr16⟩ := (hT 16 144 rfl rfl : (Is (.bool true)) _ _)
    obtain ⟨hv21, hr21⟩ := (hT 21 149 rfl rfl : (Is (.pointer (some ⟨gF, 2, none⟩))) _ _)
    obtain hS := hS.flat2 hr16 hr21
    exact .inl ⟨want_on (e := 144) rfl rfl rfl hv16, oload1 (v := .slice pF K.length cF) (show One Tryz.prog 37 from ⟨Tryz.isAgg37, Tryz.sizeOf37⟩) hS 2 rfl rfl (ev rfl hv21) rfl rfl ⟨_, _, rfl, isI, New.same _⟩⟩
   refine stepsCons rfl (fun Q f' w' ρ S ho hT hS hB => ?_) ?_
   ·obtain ⟨hv16, hr16⟩ := (hT 16 144 rfl rfl : (Is (.bool true)) _ _)
    obtain ⟨pP9, cP9, hv18, hr18⟩ := (hT 18 146 rfl rfl : (LRt (rps K)) _ _)
    obtain ⟨hv22, hr22⟩ := (hT 22 150 rfl rfl : (Is (.slice pF K.length cF)) _ _)
    obtain hS := hS.flat3 hr16 hr18 hr22
    exact .inl ⟨want_on (e := 144) rfl rfl rfl hv16, ocall rfl rfl Tryz.call53 rfl (wlpairs (hS.rsl 5 rfl (by simp [rps])) (hS.rsl 1 rfl (by simp [rps])) (by rw [rps_len]; exact hlen2)) (args2 (ev rfl hv18) (ev rfl hv22)) callN⟩
   refine stepsCons rfl (fun Q f' w' ρ S ho hT hS hB => ?_) ?_
   ·obtain ⟨hv16, hr16⟩ := (hT 16 144 rfl rfl : (Is (.bool true)) _ _)
    obtain ⟨hv23, hr23⟩ := (hT 23 151 rfl rfl : (Is (.bool true)) _ _)
    obtain hS := hS.flat2 hr16 hr23
    exact .inl ⟨want_none rfl, opick (b := true) (v := .bool true) rfl rfl (ev rfl hv16) (ev rfl hv23) ⟨_, _, rfl, isI, New.same _⟩⟩
   refine stepsCons rfl (fun Q f' w' ρ S ho hT hS hB => ?_) ?_
   ·obtain ⟨hv24, hr24⟩ := (hT 24 152 rfl rfl : (Is (.bool true)) _ _)
    obtain hS := hS.flat1 hr24
    exact .inl ⟨want_none rfl, omove (v := .bool true) rfl rfl (ev rfl hv24) ⟨_, _, rfl, isI, New.same _⟩⟩
   refine stepsCons rfl (fun Q f' w' ρ S ho hT hS hB => ?_) ?_
   ·obtain ⟨hv25, hr25⟩ := (hT 25 153 rfl rfl : (Is (.bool true)) _ _)
    obtain hS := hS.flat1 hr25
    exact .inl ⟨want_on (e := 153) rfl rfl rfl hv25, ocall rfl rfl Tryz.call14 rfl (wlawake6 (ht.at hS)) (args0 ) callN⟩
   refine stepsCons rfl (fun Q f' w' ρ S ho hT hS hB => ?_) ?_
   ·obtain ⟨hv25, hr25⟩ := (hT 25 153 rfl rfl : (Is (.bool true)) _ _)
    obtain ⟨hv26, hr26⟩ := (hT 26 154 rfl rfl : (Is (.bool true)) _ _)
    obtain hS := hS.flat2 hr25 hr26
    exact .inl ⟨want_none rfl, opick (b := true) (v := .bool true) rfl rfl (ev rfl hv25) (ev rfl hv26) ⟨_, _, rfl, isI, New.same _⟩⟩
   refine stepsCons rfl (fun Q f' w' ρ S ho hT hS hB => ?_) ?_
   ·obtain ⟨hv27, hr27⟩ := (hT 27 155 rfl rfl : (Is (.bool true)) _ _)
    obtain hS := hS.flat1 hr27
    exact .inl ⟨want_none rfl, oassign (v := .bool true) rfl rfl (ev rfl hv27) ⟨_, _, rfl, isI, New.same _⟩⟩
   exact stepsNil
  ·
   intro vs ρ w4 f' hf hT hS
   obtain ⟨hv0, hr0⟩ := (hT 0 (by decide) : (Is (.pointer (some ⟨g1, 0, none⟩))) _ _)
   obtain ⟨pv9, nv9, cv9, hv1, hr1⟩ := (hT 1 (by decide) : (Nw (lim (cv K).1)) _ _)
   obtain ⟨hv2, hr2⟩ := (hT 2 (by decide) : (Is (.pointer (some ⟨gF, 0, none⟩))) _ _)
   obtain ⟨hv3, hr3⟩ := (hT 3 (by decide) : (Is (.pointer (some ⟨gF, 0, none⟩))) _ _)
   obtain ⟨hv4, hr4⟩ := (hT 4 (by decide) : (Is (.pointer (some ⟨gF, 0, none⟩))) _ _)
   obtain ⟨hv5, hr5⟩ := (hT 5 (by decide) : (Is (.slice pV nV cV)) _ _)
   obtain ⟨hv6, hr6⟩ := (hT 6 (by decide) : (Is (.bool true)) _ _)
   obtain ⟨hv7, hr7⟩ := (hT 7 (by decide) : (Is (.bool true)) _ _)
   obtain ⟨hv8, hr8⟩ := (hT 8 (by decide) : (Is (.pointer (some ⟨g1, 0, none⟩))) _ _)
   obtain ⟨pm9, nm9, cm9, hv9, hr9⟩ := (hT 9 (by decide) : (Nw (lim (cv K).2)) _ _)
   obtain ⟨hv10, hr10⟩ := (hT 10 (by decide) : (Is (.pointer (some ⟨gF, 0, none⟩))) _ _)
   obtain ⟨hv11, hr11⟩ := (hT 11 (by decide) : (Is (.pointer (some ⟨gF, 0, none⟩))) _ _)
   obtain ⟨hv12, hr12⟩ := (hT 12 (by decide) : (Is (.pointer (some ⟨gF, 1, none⟩))) _ _)
   obtain ⟨hv13, hr13⟩ := (hT 13 (by decide) : (Is (.slice pM nM cM)) _ _)
   obtain ⟨hv14, hr14⟩ := (hT 14 (by decide) : (Is (.bool true)) _ _)
   obtain ⟨hv15, hr15⟩ := (hT 15 (by decide) : (Is (.bool true)) _ _)
   obtain ⟨hv16, hr16⟩ := (hT 16 (by decide) : (Is (.bool true)) _ _)
   obtain ⟨hv17, hr17⟩ := (hT 17 (by decide) : (Is (.pointer (some ⟨g1, 0, none⟩))) _ _)
   obtain ⟨pP9, cP9, hv18, hr18⟩ := (hT 18 (by decide) : (LRt (rps K)) _ _)
   obtain ⟨hv19, hr19⟩ := (hT 19 (by decide) : (Is (.pointer (some ⟨gF, 0, none⟩))) _ _)
   obtain ⟨hv20, hr20⟩ := (hT 20 (by decide) : (Is (.pointer (some ⟨gF, 0, none⟩))) _ _)
   obtain ⟨hv21, hr21⟩ := (hT 21 (by decide) : (Is (.pointer (some ⟨gF, 2, none⟩))) _ _)
   obtain ⟨hv22, hr22⟩ := (hT 22 (by decide) : (Is (.slice pF K.length cF)) _ _)
   obtain ⟨hv23, hr23⟩ := (hT 23 (by decide) : (Is (.bool true)) _ _)
   obtain ⟨hv24, hr24⟩ := (hT 24 (by decide) : (Is (.bool true)) _ _)
   obtain ⟨hv25, hr25⟩ := (hT 25 (by decide) : (Is (.bool true)) _ _)
   obtain ⟨hv26, hr26⟩ := (hT 26 (by decide) : (Is (.bool true)) _ _)
   obtain ⟨hv27, hr27⟩ := (hT 27 (by decide) : (Is (.bool true)) _ _)
   obtain ⟨hv28, hr28⟩ := (hT 28 (by decide) : (Is (.bool true)) _ _)
   simp only [pool, if_true, hr0, hr1, hr2, hr3, hr4, hr5, hr6, hr7, hr8, hr9, hr10, hr11, hr12, hr13, hr14, hr15, hr16, hr17, hr18, hr19, hr20, hr21, hr22, hr23, hr24, hr25, hr26, hr27, hr28, List.nil_append, List.cons_append, List.append_nil] at hS
   simp only [layf, hv0, hv1, hv2, hv3, hv4, hv5, hv6, hv7, hv8, hv9, hv10, hv11, hv12, hv13, hv14, hv15, hv16, hv17, hv18, hv19, hv20, hv21, hv22, hv23, hv24, hv25, hv26, hv27, hv28] at hf
   subst hf; clear hT hv0 hv1 hv2 hv3 hv4 hv5 hv6 hv7 hv8 hv9 hv10 hv11 hv12 hv13 hv14 hv15 hv16 hv17 hv18 hv19 hv20 hv21 hv22 hv23 hv24 hv25 hv26 hv27 hv28 hr0 hr1 hr2 hr3 hr4 hr5 hr6 hr7 hr8 hr9 hr10 hr11 hr12 hr13 hr14 hr15 hr16 hr17 hr18 hr19 hr20 hr21 hr22 hr23 hr24 hr25 hr26 hr27 hr28
   refine wdone rfl ?_
   refine thenN ?_
   refine wleave ?_
   refine wret1 Tryz.results11 (tellT (v := .bool true) rfl rfl) ?_
   exact ⟨_, _, rfl, isI, hS.new0⟩
theorem crtAdds_walk {p : Option Addr} {n c : Nat} {L : List (Nat × Nat)} {w : World} (hL : RS w p n L) (h32 : ∀ x ∈ L, x.1 < 4294967296 ∧ x.2 < 4294967296) (h1 : Tab w) (h2 : Bases w) (hlen : L.length ≤ 1048576) : Calls Tryz.prog 11 #[.slice p n c] w (RetB w true) := Ret.bool (crtAdds_walk0 ⟨h1, h2⟩ hL h32 hlen)
end Go.Proofs.YtjbcjlbbipohjaaGreatDoor
