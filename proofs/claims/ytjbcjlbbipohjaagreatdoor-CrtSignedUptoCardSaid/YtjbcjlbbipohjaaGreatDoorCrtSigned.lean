
/-
  The walk of similelaw06.CrtSigned.
-/
import Derived.Test.YtjbcjlbbipohjaaGreatDoorCrt4
import Derived.Test.YtjbcjlbbipohjaaGreatDoorLT
set_option linter.unusedVariables false
set_option linter.unusedSimpArgs false
set_option maxRecDepth 100000
set_option maxHeartbeats 16000000
namespace Go.Proofs.YtjbcjlbbipohjaaGreatDoor
open Go.RowKit

/-- An integer's rests. -/
def PL (zx : Int) (K : List Nat) : List (Nat × Nat) := K.map fun p : Nat => ((zx % ((p : Nat) : Int)).toNat, p)
theorem mods_PL (zx : Int) (K : List Nat) : mods (PL zx K) = K := by
  unfold mods PL; rw [List.map_map]; exact List.map_id' K
theorem PL_len (zx : Int) (K : List Nat) : (PL zx K).length = K.length := List.length_map _
theorem PL_app (zx : Int) (K : List Nat) (q : Nat) : PL zx (K ++ [q]) = PL zx K ++ [((zx % (q : Int)).toNat, q)] := by simp [PL]
theorem PL_dvd {zx : Int} {K : List Nat} (h : Gd (PL zx K)) : (((cv (PL zx K)).2 : Nat) : Int) ∣ zx - (((cv (PL zx K)).1 : Nat) : Int) := by
  refine Int.ofNat_dvd_left.2 (dvd_all h fun x hx => ?_)
  have hs := (cv_says h x hx).1
  have h2 := (h.1 x hx).1
  obtain ⟨p, _, rfl⟩ := List.mem_map.1 hx
  have h0 := Int.emod_nonneg zx (b := (p : Int)) (by simp at h2; omega)
  have h1 := Int.emod_lt_of_pos zx (b := (p : Int)) (by simp at h2; omega)
  refine Int.ofNat_dvd_left.1 (Int.dvd_of_emod_eq_zero (Int.emod_eq_emod_iff_emod_sub_eq_zero.1 ?_))
  show zx % ((p : Nat) : Int) = (((cv (PL zx K)).1 : Nat) : Int) % ((p : Nat) : Int)
  simp only at hs
  rw [Nat.mod_eq_of_lt (show (zx % (p : Int)).toNat < p by omega)] at hs
  rw [← Int.natCast_emod, hs]
  omega
theorem tw_next {K : List Nat} {q y j : Nat} (hy : K[j]? = some y) : (¬ MR.Pr q ∨ q ∈ K.take (j + 1)) ↔ ((¬ MR.Pr q ∨ q ∈ K.take j) ∨ y = q) := by
 rw [take_next hy]
 simp only [List.mem_append, List.mem_singleton]
 constructor
 ·rintro (h | h | h)
  ·exact .inl (.inl h)
  ·exact .inl (.inr h)
  ·exact .inr h.symm
 ·rintro ((h | h) | h)
  ·exact .inl h
  ·exact .inr (.inl h)
  ·exact .inr (.inr h.symm)
theorem dgE_get {l : List Nat} {i : Nat} {x : Nat} (h : l[i]? = some x) : (dgE l)[i]? = some ⟨[.int .u32 (x : Int)], []⟩ := by simp [dgE, h]

theorem crtSigned_walk0 {bx : Bool} {px pl : Option Addr} {nx cx nl cl : Nat} {zx : Int} {us : List Nat} {w : World} (ht : Tb w) (hx : Zr w bx px nx cx zx 2097152) (hl : Sl w pl nl cl us) (hnl : nl ≤ 1048576) :
  Calls Tryz.prog 8 #[.agg #[.bool bx, .slice px nx cx], .slice pl nl cl] w (Ret (Is (.bool true)) w) := by
 have hS := Sep.init w
 refine went Tryz.func8 rfl (n := 90) rfl rfl ?_
 refine wseq ?_
 refine wreg ?_
 refine wl rfl (obox [.bool bx, .slice px nx cx] hS rfl rfl (ev (v := .agg #[.bool bx, .slice px nx cx]) rfl rfl) rfl ?_)
 clear hS; intro g1 w2 hS
 refine wl rfl (oassign (v := .bool false) rfl rfl evc ?_)
 refine wnil ?_
 refine thenN ?_
 refine wseq ?_
 refine wreg ?_
 refine wl rfl (ocall rfl rfl Tryz.call37 rfl (wcnew) (args0 ) ?_)
 rintro _ w3 ⟨_, _, rfl, ⟨gC, s1, rfl, rfl⟩, hN⟩
 refine ⟨_, rfl, ?_⟩
 replace hS := hS.news hN; clear hN
 refine wl rfl (oassign (v := .pointer (some ⟨gC, 0, none⟩)) rfl rfl (ev rfl rfl) ?_)
 refine wnil ?_
 refine thenN ?_
 refine wseq ?_
 refine wseq ?_
 refine wreg ?_
 refine wl rfl (omove (v := .pointer (some ⟨gC, 0, none⟩)) rfl rfl (ev rfl rfl) ?_)
 refine wl rfl (obin (u := .pointer (some ⟨gC, 0, none⟩)) (v := .pointer none) (z := .bool false) rfl rfl (ev rfl rfl) evc (bin_eqlP Tryz.underlying64 rfl) ?_)
 refine wnil ?_
 refine thenN ?_
 refine wF (ev rfl rfl) ?_
 refine wskip ?_
 refine thenN ?_
 refine wseq ?_
 refine wreg ?_
 have hkx1 : ll 1 ≤ 2 := Nd.u64 (by omega)
 refine wl rfl (ocall rfl rfl Tryz.call25 rfl ((wmof (x := 1) (by omega)).mono Nt.m) (args1 evc) ?_)
 rintro _ w4 ⟨_, _, rfl, ⟨p1, n1, c1, rfl, rfl⟩, hN⟩
 refine ⟨_, rfl, ?_⟩
 replace hS := hS.news hN; clear hN
 refine wl rfl (oassign (v := .slice p1 n1 c1) rfl rfl (ev rfl rfl) ?_)
 refine wnil ?_
 refine thenN ?_
 refine wseq ?_
 refine wreg ?_
 refine wl rfl (oassign (v := .slice none 0 0) rfl rfl evc ?_)
 refine wnil ?_
 refine thenN ?_
 refine wseq ?_
 refine wseq ?_
 refine wreg ?_
 refine wl rfl (omove (v := .slice pl nl cl) rfl rfl (ev rfl rfl) ?_)
 refine wl rfl (olen rfl rfl rfl Tryz.runUnderlying25 (p := pl) (k := nl) (m := cl) (ev rfl rfl) ?_)
 refine wl rfl (omove (v := .int .i64 0) rfl rfl evc ?_)
 refine wnil ?_
 refine thenN ?_
 refine wblock ?_
 replace hS := hS.nilLst 40 1
 refine wloop (σ := Nat) (fun i a9 w' => ∃ (fb : Nat → Value) (K : List Nat) (kn : Nat) (sg : Gh) (pB : Option Addr) (cB : Nat) (pQ : Option Addr) (nQ : Nat) (cQ : Nat), a9 = act 90 (sets fb [(2, .pointer (some ⟨g1, 0, none⟩)), (5, .pointer (some ⟨gC, 0, none⟩)), (6, .slice pQ nQ cQ), (7, .slice pB kn cB), (20, .slice pl nl cl), (21, .int .i64 (nl : Int)), (22, .int .i64 (i : Int))]) ∧ Sep w [.lst 40 1 pB kn cB (dgE K), .rowm pQ nQ cQ (lim (cv (PL zx K)).2), .pack (crtR gC sg (PL zx K)), .blk g1 [.bool bx, .slice px nx cx] 28] w' ∧ (i ≤ nl) ∧ (Okl (PL zx K)) ∧ (K.length = kn) ∧ (kn ≤ i) ∧ (ll (cv (PL zx K)).2 ≤ 1048577)) (fun i => nl - i) (0) ⟨_, [], 0, s1, none, 0, _, _, _, act_sets (l := [(2, .pointer (some ⟨g1, 0, none⟩)), (5, .pointer (some ⟨gC, 0, none⟩)), (6, .slice p1 n1 c1), (7, .slice none 0 0), (20, .slice pl nl cl), (21, .int .i64 (nl : Int)), (22, .int .i64 0)]) ⟨rfl, rfl, rfl, rfl, rfl, rfl, rfl, trivial⟩, hS, Nat.zero_le _, Okl.nil, rfl, Nat.le_refl _, Okl.nil.wM⟩ ?_
 clear hS; rintro i _ w5 ⟨fb, K, kn, sg, pB, cB, pQ, nQ, cQ, rfl, hS, hi, hok, hkn, hki, hkQ⟩
 refine wseq ?_
 refine wreg ?_
 by_cases hlt : i < nl
 ·
  have hlen9 := hl.len
  obtain ⟨b, off, hpx, hcx⟩ := hl.el hlt
  have hq32 := hl.lim1 i
  obtain ⟨q, hq⟩ : ∃ q, nd us i = q := ⟨_, rfl⟩
  rw [hq] at hcx hq32
  obtain ⟨b1, hb1⟩ : ∃ b1 : Bool, (b1 = true ↔ MR.Pr q) := ⟨@decide (MR.Pr q) (Classical.propDecidable _), by simp⟩
  refine wl rfl (obin (u := .int .i64 (i : Int)) (v := .int .i64 (nl : Int)) (z := .bool true) rfl rfl (ev rfl rfl) (ev rfl rfl) (bin_lss (decide_eq_true (by omega))) ?_)
  refine wnil ?_
  refine thenN ?_
  refine wseq ?_
  refine wT (ev rfl rfl) ?_
  refine wskip ?_
  refine thenN ?_
  refine wseq ?_
  refine wblock ?_
  refine wseq ?_
  refine wreg ?_
  refine wl rfl (oindex (p := pl) (g := b) (off := off) (m := nl) (k := i) (j := (off + i * 1)) rfl rfl Tryz.runUnderlying25 Tryz.sizeOf40 (ev rfl rfl) (hpx) (ev rfl rfl) (hlt) rfl ?_)
  refine wl rfl (oloadc (v := .int .u32 (q : Int)) one32 rfl rfl (ev (v := .pointer (some ⟨b, (off + i * 1), none⟩)) rfl rfl) (hS.cellAt (hcx 0 _ rfl)) ?_)
  refine wl rfl (oassign (v := .int .u32 (q : Int)) rfl rfl (ev rfl rfl) ?_)
  refine wnil ?_
  refine thenN ?_
  refine wseq ?_
  refine wreg ?_
  refine wl rfl (omove (v := .int .u32 (q : Int)) rfl rfl (ev rfl rfl) ?_)
  refine wl rfl (ocall rfl rfl Tryz.call23 rfl (wsis hq32 hb1) (args1 (ev rfl rfl)) ?_)
  rintro _ w6 ⟨_, _, rfl, ⟨rfl, rfl⟩, hN⟩
  refine ⟨_, rfl, ?_⟩
  replace hS := hS.news hN; clear hN
  refine wl rfl (onot (b := b1) rfl rfl (ev rfl rfl) ?_)
  refine wl rfl (oassign (v := .bool (!b1)) rfl rfl (ev rfl rfl) ?_)
  refine wnil ?_
  refine thenN ?_
  refine wseq ?_
  refine wseq ?_
  refine wreg ?_
  refine wl rfl (omove (v := .slice pB kn cB) rfl rfl (ev rfl rfl) ?_)
  refine wl rfl (olen rfl rfl rfl Tryz.runUnderlying25 (p := pB) (k := kn) (m := cB) (ev rfl rfl) ?_)
  refine wl rfl (omove (v := .int .i64 0) rfl rfl evc ?_)
  refine wnil ?_
  refine thenN ?_
  refine wblock ?_
  refine wloop (σ := Nat) (fun j a9 w' => ∃ (fb : Nat → Value) (tw : Bool), a9 = act 90 (sets fb [(2, .pointer (some ⟨g1, 0, none⟩)), (5, .pointer (some ⟨gC, 0, none⟩)), (6, .slice pQ nQ cQ), (7, .slice pB kn cB), (9, .int .u32 (q : Int)), (10, .bool tw), (20, .slice pl nl cl), (21, .int .i64 (nl : Int)), (22, .int .i64 (i : Int)), (23, .bool true), (24, .pointer (some ⟨b, (off + i * 1), none⟩)), (25, .int .u32 (q : Int)), (26, .int .u32 (q : Int)), (27, .bool b1), (28, .bool (!b1)), (29, .slice pB kn cB), (30, .int .i64 (kn : Int)), (31, .int .i64 (j : Int))]) ∧ Sep w [.lst 40 1 pB kn cB (dgE K), .rowm pQ nQ cQ (lim (cv (PL zx K)).2), .pack (crtR gC sg (PL zx K)), .blk g1 [.bool bx, .slice px nx cx] 28] w' ∧ (j ≤ kn) ∧ (tw = true ↔ (¬ MR.Pr q ∨ q ∈ K.take j))) (fun j => kn - j) (0) ⟨_, (!b1), act_sets (l := [(2, .pointer (some ⟨g1, 0, none⟩)), (5, .pointer (some ⟨gC, 0, none⟩)), (6, .slice pQ nQ cQ), (7, .slice pB kn cB), (9, .int .u32 (q : Int)), (10, .bool (!b1)), (20, .slice pl nl cl), (21, .int .i64 (nl : Int)), (22, .int .i64 (i : Int)), (23, .bool true), (24, .pointer (some ⟨b, (off + i * 1), none⟩)), (25, .int .u32 (q : Int)), (26, .int .u32 (q : Int)), (27, .bool b1), (28, .bool (!b1)), (29, .slice pB kn cB), (30, .int .i64 (kn : Int)), (31, .int .i64 0)]) ⟨rfl, rfl, rfl, rfl, rfl, rfl, rfl, rfl, rfl, rfl, rfl, rfl, rfl, rfl, rfl, rfl, rfl, rfl, trivial⟩, hS, Nat.zero_le _, by rw [← hb1]; cases b1 <;> simp⟩ ?_
  clear hS; rintro j _ w7 ⟨fb, tw, rfl, hS, hj, htw⟩
  refine wseq ?_
  refine wreg ?_
  by_cases hjl : j < kn
  ·
   obtain ⟨y, hy⟩ : ∃ y, K[j]? = some y := ⟨_, List.getElem?_eq_getElem (by omega)⟩
   obtain ⟨gB, hpB, hcB, _⟩ := hS.lstCell 0 rfl (dgE_get hy) (by omega)
   refine wl rfl (obin (u := .int .i64 (j : Int)) (v := .int .i64 (kn : Int)) (z := .bool true) rfl rfl (ev rfl rfl) (ev rfl rfl) (bin_lss (decide_eq_true (by omega))) ?_)
   refine wnil ?_
   refine thenN ?_
   refine wseq ?_
   refine wT (ev rfl rfl) ?_
   refine wskip ?_
   refine thenN ?_
   refine wseq ?_
   refine wblock ?_
   refine wseq ?_
   refine wreg ?_
   by_cases htt : tw = true
   ·
    subst htt
    refine wl rfl (oindex (p := pB) (g := gB) (off := 0) (m := kn) (k := j) (j := (0 + j * 1)) rfl rfl Tryz.runUnderlying25 Tryz.sizeOf40 (ev rfl rfl) (hpB) (ev rfl rfl) (hjl) rfl ?_)
    refine wl rfl (oloadc (v := .int .u32 (y : Int)) one32 rfl rfl (ev (v := .pointer (some ⟨gB, (0 + j * 1), none⟩)) rfl rfl) (hcB 0 _ rfl) ?_)
    refine wl rfl (oassign (v := .int .u32 (y : Int)) rfl rfl (ev rfl rfl) ?_)
    refine wnil ?_
    refine thenN ?_
    refine wreg ?_
    refine wl rfl (omove (v := .bool true) rfl rfl (ev rfl rfl) ?_)
    refine wl rfl (omove (v := .bool true) rfl rfl (ev rfl rfl) ?_)
    refine wlOff (e := 36) (d := 37) (b' := true) rfl rfl rfl rfl rfl rfl ?_
    refine wlOff (e := 36) (d := 38) (b' := true) rfl rfl rfl rfl rfl rfl ?_
    refine wlOff (e := 36) (d := 39) (b' := true) rfl rfl rfl rfl rfl rfl ?_
    refine wl rfl (opick (b := true) (v := .bool true) rfl rfl (ev rfl rfl) evc ?_)
    refine wl rfl (oassign (v := .bool true) rfl rfl (ev rfl rfl) ?_)
    refine wnil ?_
    refine blkN ?_
    refine thenN ?_
    refine wreg ?_
    refine wl rfl (obin (u := .int .i64 (j : Int)) (v := .int .i64 1) (z := .int .i64 (((j + 1 : Nat) : Int))) rfl rfl (ev rfl rfl) evc (bin_add (wrap_i64 (by omega) (by omega))) ?_)
    refine wl rfl (omove (v := .int .i64 (((j + 1 : Nat) : Int))) rfl rfl (ev rfl rfl) ?_)
    refine wnil ?_
    refine thenN ?_
    exact ⟨(j + 1), ⟨_, _, act_sets (l := [(2, .pointer (some ⟨g1, 0, none⟩)), (5, .pointer (some ⟨gC, 0, none⟩)), (6, .slice pQ nQ cQ), (7, .slice pB kn cB), (9, .int .u32 (q : Int)), (10, .bool true), (20, .slice pl nl cl), (21, .int .i64 (nl : Int)), (22, .int .i64 (i : Int)), (23, .bool true), (24, .pointer (some ⟨b, (off + i * 1), none⟩)), (25, .int .u32 (q : Int)), (26, .int .u32 (q : Int)), (27, .bool b1), (28, .bool (!b1)), (29, .slice pB kn cB), (30, .int .i64 (kn : Int)), (31, .int .i64 (((j + 1 : Nat) : Int)))]) ⟨rfl, rfl, rfl, rfl, rfl, rfl, rfl, rfl, rfl, rfl, rfl, rfl, rfl, rfl, rfl, rfl, rfl, rfl, trivial⟩, hS.pick [0, 1, 2, 3] (by decide) rfl, by omega, ⟨fun _ => (tw_next hy).2 (.inl (htw.1 rfl)), fun _ => rfl⟩⟩, by omega⟩
   ·
    have ht2 : tw = false := by simpa using htt
    subst ht2
    refine wl rfl (oindex (p := pB) (g := gB) (off := 0) (m := kn) (k := j) (j := (0 + j * 1)) rfl rfl Tryz.runUnderlying25 Tryz.sizeOf40 (ev rfl rfl) (hpB) (ev rfl rfl) (hjl) rfl ?_)
    refine wl rfl (oloadc (v := .int .u32 (y : Int)) one32 rfl rfl (ev (v := .pointer (some ⟨gB, (0 + j * 1), none⟩)) rfl rfl) (hcB 0 _ rfl) ?_)
    refine wl rfl (oassign (v := .int .u32 (y : Int)) rfl rfl (ev rfl rfl) ?_)
    refine wnil ?_
    refine thenN ?_
    refine wreg ?_
    refine wl rfl (omove (v := .bool false) rfl rfl (ev rfl rfl) ?_)
    refine wl rfl (omove (v := .bool false) rfl rfl (ev rfl rfl) ?_)
    refine wlOn (e := 36) rfl rfl rfl rfl (omove (v := .int .u32 (y : Int)) rfl rfl (ev rfl rfl) ?_)
    refine wlOn (e := 36) rfl rfl rfl rfl (omove (v := .int .u32 (q : Int)) rfl rfl (ev rfl rfl) ?_)
    by_cases hyq : y = q
    ·
     refine wlOn (e := 36) rfl rfl rfl rfl (obin (u := .int .u32 (y : Int)) (v := .int .u32 (q : Int)) (z := .bool true) rfl rfl (ev rfl rfl) (ev rfl rfl) (bin_eql (eqT (by omega))) ?_)
     refine wl rfl (opick (b := false) (v := .bool true) rfl rfl (ev rfl rfl) (ev rfl rfl) ?_)
     refine wl rfl (oassign (v := .bool true) rfl rfl (ev rfl rfl) ?_)
     refine wnil ?_
     refine blkN ?_
     refine thenN ?_
     refine wreg ?_
     refine wl rfl (obin (u := .int .i64 (j : Int)) (v := .int .i64 1) (z := .int .i64 (((j + 1 : Nat) : Int))) rfl rfl (ev rfl rfl) evc (bin_add (wrap_i64 (by omega) (by omega))) ?_)
     refine wl rfl (omove (v := .int .i64 (((j + 1 : Nat) : Int))) rfl rfl (ev rfl rfl) ?_)
     refine wnil ?_
     refine thenN ?_
     exact ⟨(j + 1), ⟨_, _, act_sets (l := [(2, .pointer (some ⟨g1, 0, none⟩)), (5, .pointer (some ⟨gC, 0, none⟩)), (6, .slice pQ nQ cQ), (7, .slice pB kn cB), (9, .int .u32 (q : Int)), (10, .bool true), (20, .slice pl nl cl), (21, .int .i64 (nl : Int)), (22, .int .i64 (i : Int)), (23, .bool true), (24, .pointer (some ⟨b, (off + i * 1), none⟩)), (25, .int .u32 (q : Int)), (26, .int .u32 (q : Int)), (27, .bool b1), (28, .bool (!b1)), (29, .slice pB kn cB), (30, .int .i64 (kn : Int)), (31, .int .i64 (((j + 1 : Nat) : Int)))]) ⟨rfl, rfl, rfl, rfl, rfl, rfl, rfl, rfl, rfl, rfl, rfl, rfl, rfl, rfl, rfl, rfl, rfl, rfl, trivial⟩, hS.pick [0, 1, 2, 3] (by decide) rfl, by omega, ⟨fun _ => (tw_next hy).2 (.inr hyq), fun _ => rfl⟩⟩, by omega⟩
    ·
     refine wlOn (e := 36) rfl rfl rfl rfl (obin (u := .int .u32 (y : Int)) (v := .int .u32 (q : Int)) (z := .bool false) rfl rfl (ev rfl rfl) (ev rfl rfl) (bin_eql (eqF (by omega))) ?_)
     refine wl rfl (opick (b := false) (v := .bool false) rfl rfl (ev rfl rfl) (ev rfl rfl) ?_)
     refine wl rfl (oassign (v := .bool false) rfl rfl (ev rfl rfl) ?_)
     refine wnil ?_
     refine blkN ?_
     refine thenN ?_
     refine wreg ?_
     refine wl rfl (obin (u := .int .i64 (j : Int)) (v := .int .i64 1) (z := .int .i64 (((j + 1 : Nat) : Int))) rfl rfl (ev rfl rfl) evc (bin_add (wrap_i64 (by omega) (by omega))) ?_)
     refine wl rfl (omove (v := .int .i64 (((j + 1 : Nat) : Int))) rfl rfl (ev rfl rfl) ?_)
     refine wnil ?_
     refine thenN ?_
     exact ⟨(j + 1), ⟨_, _, act_sets (l := [(2, .pointer (some ⟨g1, 0, none⟩)), (5, .pointer (some ⟨gC, 0, none⟩)), (6, .slice pQ nQ cQ), (7, .slice pB kn cB), (9, .int .u32 (q : Int)), (10, .bool false), (20, .slice pl nl cl), (21, .int .i64 (nl : Int)), (22, .int .i64 (i : Int)), (23, .bool true), (24, .pointer (some ⟨b, (off + i * 1), none⟩)), (25, .int .u32 (q : Int)), (26, .int .u32 (q : Int)), (27, .bool b1), (28, .bool (!b1)), (29, .slice pB kn cB), (30, .int .i64 (kn : Int)), (31, .int .i64 (((j + 1 : Nat) : Int)))]) ⟨rfl, rfl, rfl, rfl, rfl, rfl, rfl, rfl, rfl, rfl, rfl, rfl, rfl, rfl, rfl, rfl, rfl, rfl, trivial⟩, hS.pick [0, 1, 2, 3] (by decide) rfl, by omega, ⟨(fun h => by cases h), fun h => absurd ((tw_next hy).1 h) (fun h => h.elim (fun h => by have := htw.2 h; cases this) hyq)⟩⟩, by omega⟩
  ·
   refine wl rfl (obin (u := .int .i64 (j : Int)) (v := .int .i64 (kn : Int)) (z := .bool false) rfl rfl (ev rfl rfl) (ev rfl rfl) (bin_lss (decide_eq_false (by omega))) ?_)
   refine wnil ?_
   refine thenN ?_
   refine wseq ?_
   refine wF (ev rfl rfl) ?_
   refine wexit ?_
   refine thenE ?_
   refine thenE ?_
   refine blkE ?_
   refine thenN ?_
   refine wseq ?_
   refine wseq ?_
   refine wreg ?_
   refine wl rfl (omove (v := .bool tw) rfl rfl (ev rfl rfl) ?_)
   refine wnil ?_
   refine thenN ?_
   have hjK : K.take j = K := List.take_of_length_le (by omega)
   rw [hjK] at htw
   by_cases htt : tw = true
   ·
    refine wT ((ev (v := .bool tw) rfl rfl).trans (congrArg Value.bool (htt))) ?_
    refine wexit ?_
    refine thenE ?_
    refine blkE ?_
    refine thenN ?_
    refine wreg ?_
    refine wl rfl (obin (u := .int .i64 (i : Int)) (v := .int .i64 1) (z := .int .i64 (((i + 1 : Nat) : Int))) rfl rfl (ev rfl rfl) evc (bin_add (wrap_i64 (by omega) (by omega))) ?_)
    refine wl rfl (omove (v := .int .i64 (((i + 1 : Nat) : Int))) rfl rfl (ev rfl rfl) ?_)
    refine wnil ?_
    refine thenN ?_
    exact ⟨(i + 1), ⟨_, _, _, _, _, _, _, _, _, act_sets (l := [(2, .pointer (some ⟨g1, 0, none⟩)), (5, .pointer (some ⟨gC, 0, none⟩)), (6, .slice pQ nQ cQ), (7, .slice pB kn cB), (20, .slice pl nl cl), (21, .int .i64 (nl : Int)), (22, .int .i64 (((i + 1 : Nat) : Int)))]) ⟨rfl, rfl, rfl, rfl, rfl, rfl, rfl, trivial⟩, hS.pick [0, 1, 2, 3] (by decide) rfl, by omega, hok, hkn, by omega, hkQ⟩, by omega⟩
   ·
    have ht2 : tw = false := by simpa using htt
    have hnp := mt htw.2 htt
    have hp : MR.Pr q := Classical.byContradiction fun h => hnp (.inl h)
    have hm : q ∉ mods (PL zx K) := by rw [mods_PL]; exact fun h => hnp (.inr h)
    have hq0 := hp.1
    obtain ⟨r, hr⟩ : ∃ r, (zx % ((q : Nat) : Int)).toNat = r := ⟨_, rfl⟩
    have hr32 : r < 4294967296 := by have h1 := Int.emod_nonneg zx (b := ((q : Nat) : Int)) (by omega); have h2 := Int.emod_lt_of_pos zx (b := ((q : Nat) : Int)) (by omega); omega
    refine wF ((ev (v := .bool tw) rfl rfl).trans (congrArg Value.bool ((by simpa using htt)))) ?_
    refine wskip ?_
    refine thenN ?_
    refine wseq ?_
    refine wreg ?_
    refine wl rfl (omove (v := .slice pB kn cB) rfl rfl (ev rfl rfl) ?_)
    refine wl rfl (omove (v := .int .u32 (q : Int)) rfl rfl (ev rfl rfl) ?_)
    refine wl rfl (obslice (ps := #[(0, .int .u32 (q : Int))]) (z := .int .u32 0) [.int .u32 (q : Int)] hS rfl rfl Tryz.runUnderlying25 Tryz.sizeOf40 Tryz.zeroValue40 (parts1 (ev (v := .int .u32 (q : Int)) rfl rfl)) rfl (by decide) fill1_1 ?_)
    clear hS; intro g8 w9 hS
    obtain hS := (show Sep w [.lst 40 1 pB kn cB (dgE K), .blk g8 [.int .u32 (((q : Nat) : Int))] 40, .rowm pQ nQ cQ (lim (cv (PL zx K)).2), .pack (crtR gC sg (PL zx K)), .blk g1 [.bool bx, .slice px nx cx] 28] w9 from hS.pick [1, 0, 2, 3, 4] (by decide) rfl)
    refine wl rfl (oappendL (p := pB) (m := kn) (c := cB) (g2 := g8) (c2 := 1) (off := 0) [.int .u32 (q : Int)] [] hS rfl rfl Tryz.underlying25 infouint32 rfl (by decide) (ev (v := .slice pB kn cB) rfl rfl) (ev (v := .slice (some ⟨g8, 0, none⟩) 1 1) rfl rfl) (fun j v hj => by rw [Nat.zero_add]; exact (blk_cell (hS.blkAt 1 rfl) j).trans hj) rfl rfl rfl (by omega) (by omega) ?_)
    clear hS; intro p11 c12 w10 hS
    refine wl rfl (oassign (v := .slice p11 ((kn + 1)) c12) rfl rfl (ev rfl rfl) ?_)
    refine wnil ?_
    refine thenN ?_
    refine wseq ?_
    refine wseq ?_
    refine wreg ?_
    refine wl rfl (omove (v := .pointer (some ⟨gC, 0, none⟩)) rfl rfl (ev rfl rfl) ?_)
    refine wl rfl (oload (vs := [.bool bx, .slice px nx cx]) aggZ hS 4 rfl rfl (ev rfl rfl) rfl rfl rfl ?_)
    refine wl rfl (omove (v := .int .u32 (q : Int)) rfl rfl (ev rfl rfl) ?_)
    refine wl rfl (ocall rfl rfl Tryz.call19 rfl ((show Calls _ _ _ _ (Ret (Is (.int .u32 (r : Int))) _) from by rw [← hr]; exact wqmod ((hx.at hS).mono (by omega)) hq32 (by omega))) (args2 (ev rfl rfl) (ev rfl rfl)) ?_)
    rintro _ w13 ⟨_, _, rfl, ⟨rfl, rfl⟩, hN⟩
    refine ⟨_, rfl, ?_⟩
    replace hS := hS.news hN; clear hN
    refine wl rfl (omove (v := .int .u32 (q : Int)) rfl rfl (ev rfl rfl) ?_)
    obtain hS := (show Sep w [.pack (crtR gC sg (PL zx K)), .lst 40 1 p11 ((kn + 1)) c12 ((dgE K) ++ [⟨[.int .u32 (((q : Nat) : Int))], []⟩]), .blk g8 [.int .u32 (((q : Nat) : Int))] 40, .rowm pQ nQ cQ (lim (cv (PL zx K)).2), .blk g1 [.bool bx, .slice px nx cx] 28] w13 from hS.pick [3, 0, 1, 2, 4] (by decide) rfl)
    refine wl rfl (ocall rfl rfl Tryz.call38 rfl (wcadd ht hok (by rw [PL_len]; omega) hr32 hq32 hS hp hm) (args3 (ev rfl rfl) (ev rfl rfl) (ev rfl rfl)) ?_)
    rintro _ w14 ⟨_, _, rfl, ⟨s2, rfl, rfl⟩, hN⟩
    refine ⟨_, rfl, ?_⟩
    clear hS; have hS := hN; clear hN
    refine wl rfl (ocall rfl rfl Tryz.call13 rfl (wlnum6) (args1 (ev rfl rfl)) ?_)
    rintro _ w15 ⟨_, _, rfl, ⟨rfl, rfl⟩, hN⟩
    refine ⟨_, rfl, ?_⟩
    replace hS := hS.news hN; clear hN
    refine wl rfl (obin (u := .int .i64 0) (v := .int .i64 0) (z := .bool false) rfl rfl (ev rfl rfl) evc (bin_neq (by decide)) ?_)
    refine wnil ?_
    refine thenN ?_
    refine wF (ev rfl rfl) ?_
    refine wskip ?_
    refine thenN ?_
    refine wreg ?_
    refine wl rfl (omove (v := .slice pQ nQ cQ) rfl rfl (ev rfl rfl) ?_)
    refine wl rfl (omove (v := .int .u32 (q : Int)) rfl rfl (ev rfl rfl) ?_)
    refine wl rfl (oconvert (u := .int .u32 (q : Int)) (v := .int .u64 (q : Int)) rfl rfl (ev rfl rfl) (convert_int Tryz.runUnderlying40 Tryz.runUnderlying52 (wrap_u64 (by omega) (by omega))) ?_)
    have hkx2 : ll q ≤ 2 := Nd.u64 (by omega)
    refine wl rfl (ocall rfl rfl Tryz.call25 rfl (wmof (x := q) (by omega)) (args1 (ev rfl rfl)) ?_)
    rintro _ w16 ⟨_, _, rfl, ⟨p2, n2, c2, rfl, rfl⟩, hN⟩
    refine ⟨_, rfl, ?_⟩
    replace hS := hS.news hN; clear hN
    obtain ⟨x3, hx3⟩ : ∃ x : Nat, Hid (((cv (PL zx K)).2) * q = x) := ⟨_, rfl⟩
    have hkx3 : ll x3 ≤ 1048579 := Nd.mul hkQ hkx2 hx3 (by omega)
    refine wl rfl (ocall rfl rfl Tryz.call26 rfl ((wmmul (((hS.slm 4 rfl).nr hkQ).mono (by omega)) (((hS.sl 0 rfl).nr hkx2).mono (by omega)) hx3).mono Nt.m) (args2 (ev rfl rfl) (ev rfl rfl)) ?_)
    rintro _ w17 ⟨_, _, rfl, ⟨p3, n3, c3, rfl, rfl⟩, hN⟩
    refine ⟨_, rfl, ?_⟩
    replace hS := hS.news hN; clear hN
    refine wl rfl (oassign (v := .slice p3 n3 c3) rfl rfl (ev rfl rfl) ?_)
    refine wnil ?_
    refine blkN ?_
    refine thenN ?_
    refine wreg ?_
    refine wl rfl (obin (u := .int .i64 (i : Int)) (v := .int .i64 1) (z := .int .i64 (((i + 1 : Nat) : Int))) rfl rfl (ev rfl rfl) evc (bin_add (wrap_i64 (by omega) (by omega))) ?_)
    refine wl rfl (omove (v := .int .i64 (((i + 1 : Nat) : Int))) rfl rfl (ev rfl rfl) ?_)
    refine wnil ?_
    refine thenN ?_
    have hok2 := hok.snoc (r := r) hp hq32 hm (by rw [PL_len]; omega)
    have hPL : PL zx K ++ [(r, q)] = PL zx (K ++ [q]) := by rw [PL_app, hr]
    rw [hPL] at hok2
    have hx9 : x3 = (cv (PL zx (K ++ [q]))).2 := by rw [← hPL, cv_snoc, ← hx3.out]; rfl
    rw [hPL, ← dgE_app, hx9] at hS
    exact ⟨(i + 1), ⟨_, _, _, _, _, _, _, _, _, act_sets (l := [(2, .pointer (some ⟨g1, 0, none⟩)), (5, .pointer (some ⟨gC, 0, none⟩)), (6, .slice p3 n3 c3), (7, .slice p11 ((kn + 1)) c12), (20, .slice pl nl cl), (21, .int .i64 (nl : Int)), (22, .int .i64 (((i + 1 : Nat) : Int)))]) ⟨rfl, rfl, rfl, rfl, rfl, rfl, rfl, trivial⟩, hS.pick [3, 0, 2, 6] (by decide) rfl, by omega, hok2, by rw [List.length_append, hkn]; rfl, by omega, hok2.wM⟩, by omega⟩
 ·
  refine wl rfl (obin (u := .int .i64 (i : Int)) (v := .int .i64 (nl : Int)) (z := .bool false) rfl rfl (ev rfl rfl) (ev rfl rfl) (bin_lss (decide_eq_false (by omega))) ?_)
  refine wnil ?_
  refine thenN ?_
  refine wseq ?_
  refine wF (ev rfl rfl) ?_
  refine wexit ?_
  refine thenE ?_
  refine thenE ?_
  refine blkE ?_
  refine thenN ?_
  refine wseq ?_
  refine wreg ?_
  refine wl rfl (omove (v := .pointer (some ⟨gC, 0, none⟩)) rfl rfl (ev rfl rfl) ?_)
  obtain ⟨z9, hz9⟩ : ∃ z9, Hid (slift (cv (PL zx K)).1 (cv (PL zx K)).2 = z9) := ⟨_, rfl⟩
  have htwo := slift_two (cv_lt hok.gd)
  rw [hz9.out] at htwo
  have hkS : Wd z9 1048577 := llv_le (by omega) hkQ
  refine wl rfl (ocall rfl rfl Tryz.call39 rfl (wcSigned (hS.get 2 rfl) hok hz9) (args1 (ev rfl rfl)) ?_)
  rintro _ w6 ⟨_, _, rfl, ⟨pS, nS, cS, rfl, rfl⟩, hN⟩
  refine ⟨_, rfl, ?_⟩
  replace hS := hS.news hN; clear hN
  refine wl rfl (oalloc [.bool false, .slice none 0 0] hS rfl rfl Tryz.zeroValue28 rfl ?_)
  clear hS; intro g7 w8 hS
  refine wl rfl (ostore [.bool (ng z9), .slice pS nS cS] [.bool (ng z9), .slice pS nS cS] Tryz.sizeOf28 hS 0 rfl rfl (ev rfl rfl) (ev (v := .agg #[.bool (ng z9), .slice pS nS cS]) rfl rfl) rfl rfl rfl rfl rfl rfl ?_)
  clear hS; intro w9 hS
  refine wnil ?_
  refine thenN ?_
  refine wseq ?_
  refine wreg ?_
  refine wl rfl (ofieldAddr (g := g7) (off := 0) 1 rfl rfl (ev rfl rfl) Tryz.runUnderlying28 rfl Tryz.sizeOf26 rfl ?_)
  refine wl rfl (oload1 (v := .slice pS nS cS) oneN hS 0 rfl rfl (ev rfl rfl) rfl rfl ?_)
  refine wl rfl (ofieldAddr (g := g7) (off := 0) 1 rfl rfl (ev rfl rfl) Tryz.runUnderlying28 rfl Tryz.sizeOf26 rfl ?_)
  refine wl rfl (oload1 (v := .slice pS nS cS) oneN hS 0 rfl rfl (ev rfl rfl) rfl rfl ?_)
  obtain ⟨x2, hx2⟩ : ∃ x : Nat, Hid (z9.natAbs + z9.natAbs = x) := ⟨_, rfl⟩
  have hkx2 : ll x2 ≤ 1048578 := Nd.add hkS hkS hx2 (by omega)
  refine wl rfl (ocall rfl rfl Tryz.call27 rfl (wmadd (((hS.sl 1 rfl).nr hkS).mono (by omega)) (((hS.sl 1 rfl).nr hkS).mono (by omega)) hx2) (args2 (ev rfl rfl) (ev rfl rfl)) ?_)
  rintro _ w10 ⟨_, _, rfl, ⟨p2, n2, c2, rfl, rfl⟩, hN⟩
  refine ⟨_, rfl, ?_⟩
  replace hS := hS.news hN; clear hN
  refine wl rfl (oassign (v := .slice p2 n2 c2) rfl rfl (ev rfl rfl) ?_)
  refine wnil ?_
  refine thenN ?_
  refine wseq ?_
  refine wseq ?_
  refine wreg ?_
  refine wl rfl (omove (v := .slice p2 n2 c2) rfl rfl (ev rfl rfl) ?_)
  refine wl rfl (omove (v := .slice pQ nQ cQ) rfl rfl (ev rfl rfl) ?_)
  obtain ⟨s3, hs3⟩ : ∃ z : Int, Hid (cmpN x2 ((cv (PL zx K)).2) = z) := ⟨_, rfl⟩
  refine wl rfl (ocall rfl rfl Tryz.call20 rfl (wmcmp ((hS.sl 0 rfl).nr hkx2) ((hS.slm 4 rfl).nr hkQ) hs3) (args2 (ev rfl rfl) (ev rfl rfl)) ?_)
  rintro _ w11 ⟨_, _, rfl, ⟨rfl, rfl⟩, hN⟩
  refine ⟨_, rfl, ?_⟩
  replace hS := hS.news hN; clear hN
  have hq2 := hx2.out
  refine wl rfl (obin (u := .int .i64 s3) (v := .int .i64 0) (z := .bool false) rfl rfl (ev rfl rfl) evc (bin_gtr (decide_eq_false (by rw [← hs3.out]; have := cmpN_not_above (show x2 ≤ (cv (PL zx K)).2 by omega); omega))) ?_)
  refine wnil ?_
  refine thenN ?_
  refine wF (ev rfl rfl) ?_
  refine wskip ?_
  refine thenN ?_
  refine wseq ?_
  refine wreg ?_
  refine wl rfl (ofieldAddr (g := g1) (off := 0) 1 rfl rfl (ev rfl rfl) Tryz.runUnderlying28 rfl Tryz.sizeOf26 rfl ?_)
  refine wl rfl (oload1 (v := .slice px nx cx) oneN hS 6 rfl rfl (ev rfl rfl) rfl rfl ?_)
  refine wl rfl (ofieldAddr (g := g1) (off := 0) 1 rfl rfl (ev rfl rfl) Tryz.runUnderlying28 rfl Tryz.sizeOf26 rfl ?_)
  refine wl rfl (oload1 (v := .slice px nx cx) oneN hS 6 rfl rfl (ev rfl rfl) rfl rfl ?_)
  obtain ⟨x4, hx4⟩ : ∃ x : Nat, Hid (zx.natAbs + zx.natAbs = x) := ⟨_, rfl⟩
  have hkx4 : ll x4 ≤ 2097153 := Nd.add hx.nr.ll hx.nr.ll hx4 (by omega)
  refine wl rfl (ocall rfl rfl Tryz.call27 rfl (wmadd ((hx.nr.at hS).mono (by omega)) ((hx.nr.at hS).mono (by omega)) hx4) (args2 (ev rfl rfl) (ev rfl rfl)) ?_)
  rintro _ w12 ⟨_, _, rfl, ⟨p4, n4, c4, rfl, rfl⟩, hN⟩
  refine ⟨_, rfl, ?_⟩
  replace hS := hS.news hN; clear hN
  refine wl rfl (oassign (v := .slice p4 n4 c4) rfl rfl (ev rfl rfl) ?_)
  refine wnil ?_
  refine thenN ?_
  refine wseq ?_
  obtain ⟨s5, hs5⟩ : ∃ z : Int, Hid (cmpN x4 ((cv (PL zx K)).2) = z) := ⟨_, rfl⟩
  have hq4 := hx4.out
  by_cases hsm : zx.natAbs + zx.natAbs < (cv (PL zx K)).2
  ·
   obtain ⟨z6, hz6⟩ : ∃ z : Int, Hid (zx = z) := ⟨_, rfl⟩
   have hk6 : Wd z6 2097152 := Wd.same hx.wd hz6
   have heq : z9 = zx := hz9.out.symm.trans (slift_is (cv_lt hok.gd) (PL_dvd hok.gd) hsm)
   refine wstage 14 [77, 78, 79, 80, 81, 82, 83, 84, 85, 86, 87, 88, 89, 4] [[], [], [0, 1], [2, 0, 1], [3, 0, 1, 2], [4, 0, 1, 2, 3], [4, 0, 1, 2, 3], [4, 6, 0, 1, 2, 3], [4, 5, 7, 0, 1, 2, 3, 6], [4, 8, 0, 1, 2, 3, 5, 6, 7], [9, 0, 1, 2, 3, 4, 5, 6, 7, 8], [10, 0, 1, 2, 3, 4, 5, 6, 7, 8, 9], [10, 11, 0, 1, 2, 3, 4, 5, 6, 7, 8, 9], [12, 0, 1, 2, 3, 4, 5, 6, 7, 8, 9, 10, 11]] [[], [], [], [], [], [], [], [], [], [], [], [], [], []] [] [] (fun i9 => ([fun _ => Is (.slice p4 n4 c4), fun _ => Is (.slice pQ nQ cQ), fun _ => Is (.int .i64 s5), fun _ => Is (.bool false), fun _ => Is (.bool false), fun _ => Is (.agg #[.bool (ng z9), .slice pS nS cS]), fun _ => Is (.agg #[.bool bx, .slice px nx cx]), fun _ => Zt z6, fun _ => Is (.bool true), fun _ => Is (.bool true), fun _ => Is (.bool true), fun _ => Is (.bool true), fun _ => Is (.bool true), fun _ => Is (.bool true)] : List (List Value → Tell)).getD i9 (fun _ _ _ => False)) (heldNil) (fun d _ _ _ _ h => (by cases d <;> exact h)) (by kernel_rfl) (by kernel_rfl) (by kernel_rfl) hS ?_ ?_
   ·
    refine stepsCons rfl (fun Q f' w' ρ S ho hT hS hB => ?_) ?_
    ·exact .inl ⟨want_none rfl, omove (v := .slice p4 n4 c4) rfl rfl (ev rfl (ho 15 rfl)) ⟨_, _, rfl, isI, New.same _⟩⟩
    refine stepsCons rfl (fun Q f' w' ρ S ho hT hS hB => ?_) ?_
    ·exact .inl ⟨want_none rfl, omove (v := .slice pQ nQ cQ) rfl rfl (ev rfl (ho 6 rfl)) ⟨_, _, rfl, isI, New.same _⟩⟩
    refine stepsCons rfl (fun Q f' w' ρ S ho hT hS hB => ?_) ?_
    ·obtain ⟨hv0, hr0⟩ := (hT 0 77 rfl rfl : (Is (.slice p4 n4 c4)) _ _)
     obtain ⟨hv1, hr1⟩ := (hT 1 78 rfl rfl : (Is (.slice pQ nQ cQ)) _ _)
     obtain hS := hS.flat2 hr0 hr1
     exact .inl ⟨want_none rfl, ocall rfl rfl Tryz.call20 rfl (wmcmp ((hS.sl 0 rfl).nr hkx4) ((hS.slm 5 rfl).nr hkQ) hs5) (args2 (ev rfl hv0) (ev rfl hv1)) callN⟩
    refine stepsCons rfl (fun Q f' w' ρ S ho hT hS hB => ?_) ?_
    ·obtain ⟨hv2, hr2⟩ := (hT 2 79 rfl rfl : (Is (.int .i64 s5)) _ _)
     obtain hS := hS.flat1 hr2
     exact .inl ⟨want_none rfl, obin (u := .int .i64 s5) (v := .int .i64 0) (z := .bool false) rfl rfl (ev rfl hv2) evc (bin_geq (decide_eq_false (by rw [← hs5.out]; have := cmpN_below (show x4 < (cv (PL zx K)).2 by omega); omega))) ⟨_, _, rfl, isI, New.same _⟩⟩
    refine stepsCons rfl (fun Q f' w' ρ S ho hT hS hB => ?_) ?_
    ·obtain ⟨hv3, hr3⟩ := (hT 3 80 rfl rfl : (Is (.bool false)) _ _)
     obtain hS := hS.flat1 hr3
     exact .inl ⟨want_none rfl, omove (v := .bool false) rfl rfl (ev rfl hv3) ⟨_, _, rfl, isI, New.same _⟩⟩
    refine stepsCons rfl (fun Q f' w' ρ S ho hT hS hB => ?_) ?_
    ·obtain ⟨hv4, hr4⟩ := (hT 4 81 rfl rfl : (Is (.bool false)) _ _)
     obtain hS := hS.flat1 hr4
     exact .inl ⟨want_on (e := 81) rfl rfl rfl hv4, oload (vs := [.bool (ng z9), .slice pS nS cS]) aggZ hS 2 rfl rfl (ev rfl (ho 13 rfl)) rfl rfl rfl ⟨_, _, rfl, isI, New.same _⟩⟩
    refine stepsCons rfl (fun Q f' w' ρ S ho hT hS hB => ?_) ?_
    ·obtain ⟨hv4, hr4⟩ := (hT 4 81 rfl rfl : (Is (.bool false)) _ _)
     obtain hS := hS.flat1 hr4
     exact .inl ⟨want_on (e := 81) rfl rfl rfl hv4, oload (vs := [.bool bx, .slice px nx cx]) aggZ hS 7 rfl rfl (ev rfl (ho 2 rfl)) rfl rfl rfl ⟨_, _, rfl, isI, New.same _⟩⟩
    refine stepsCons rfl (fun Q f' w' ρ S ho hT hS hB => ?_) ?_
    ·obtain ⟨hv4, hr4⟩ := (hT 4 81 rfl rfl : (Is (.bool false)) _ _)
     obtain ⟨hv6, hr6⟩ := (hT 6 83 rfl rfl : (Is (.agg #[.bool bx, .slice px nx cx])) _ _)
     obtain hS := hS.flat2 hr4 hr6
     exact .inl ⟨want_on (e := 81) rfl rfl rfl hv4, ocall rfl rfl Tryz.call40 rfl (wqnorm ((hx.at hS).mono (by omega)) hz6) (args1 (ev rfl hv6)) callN⟩
    refine stepsCons rfl (fun Q f' w' ρ S ho hT hS hB => ?_) ?_
    ·obtain ⟨hv4, hr4⟩ := (hT 4 81 rfl rfl : (Is (.bool false)) _ _)
     obtain ⟨hv5, hr5⟩ := (hT 5 82 rfl rfl : (Is (.agg #[.bool (ng z9), .slice pS nS cS])) _ _)
     obtain ⟨p6, n6, c6, hv7, hr7⟩ := (hT 7 84 rfl rfl : (Zt z6) _ _)
     obtain hS := hS.flat3 hr4 hr5 hr7
     exact .inl ⟨want_on (e := 81) rfl rfl rfl hv4, ocall rfl rfl Tryz.call35 rfl (wqsame (x := z9) (y := z6) (hS.sl 3 rfl) (hS.sl 8 rfl) (heq.trans hz6.out)) (args2 (ev rfl hv5) (ev rfl hv7)) callN⟩
    refine stepsCons rfl (fun Q f' w' ρ S ho hT hS hB => ?_) ?_
    ·obtain ⟨hv4, hr4⟩ := (hT 4 81 rfl rfl : (Is (.bool false)) _ _)
     obtain ⟨hv8, hr8⟩ := (hT 8 85 rfl rfl : (Is (.bool true)) _ _)
     obtain hS := hS.flat2 hr4 hr8
     exact .inl ⟨want_none rfl, opick (b := false) (v := .bool true) rfl rfl (ev rfl hv4) (ev rfl hv8) ⟨_, _, rfl, isI, New.same _⟩⟩
    refine stepsCons rfl (fun Q f' w' ρ S ho hT hS hB => ?_) ?_
    ·obtain ⟨hv9, hr9⟩ := (hT 9 86 rfl rfl : (Is (.bool true)) _ _)
     obtain hS := hS.flat1 hr9
     exact .inl ⟨want_none rfl, omove (v := .bool true) rfl rfl (ev rfl hv9) ⟨_, _, rfl, isI, New.same _⟩⟩
    refine stepsCons rfl (fun Q f' w' ρ S ho hT hS hB => ?_) ?_
    ·obtain ⟨hv10, hr10⟩ := (hT 10 87 rfl rfl : (Is (.bool true)) _ _)
     obtain hS := hS.flat1 hr10
     exact .inl ⟨want_on (e := 87) rfl rfl rfl hv10, ocall rfl rfl Tryz.call14 rfl (wlawake6 (ht.at hS)) (args0 ) callN⟩
    refine stepsCons rfl (fun Q f' w' ρ S ho hT hS hB => ?_) ?_
    ·obtain ⟨hv10, hr10⟩ := (hT 10 87 rfl rfl : (Is (.bool true)) _ _)
     obtain ⟨hv11, hr11⟩ := (hT 11 88 rfl rfl : (Is (.bool true)) _ _)
     obtain hS := hS.flat2 hr10 hr11
     exact .inl ⟨want_none rfl, opick (b := true) (v := .bool true) rfl rfl (ev rfl hv10) (ev rfl hv11) ⟨_, _, rfl, isI, New.same _⟩⟩
    refine stepsCons rfl (fun Q f' w' ρ S ho hT hS hB => ?_) ?_
    ·obtain ⟨hv12, hr12⟩ := (hT 12 89 rfl rfl : (Is (.bool true)) _ _)
     obtain hS := hS.flat1 hr12
     exact .inl ⟨want_none rfl, oassign (v := .bool true) rfl rfl (ev rfl hv12) ⟨_, _, rfl, isI, New.same _⟩⟩
    exact stepsNil
   ·
    intro vs ρ w13 f' hf hT hS
    obtain ⟨hv0, hr0⟩ := (hT 0 (by decide) : (Is (.slice p4 n4 c4)) _ _)
    obtain ⟨hv1, hr1⟩ := (hT 1 (by decide) : (Is (.slice pQ nQ cQ)) _ _)
    obtain ⟨hv2, hr2⟩ := (hT 2 (by decide) : (Is (.int .i64 s5)) _ _)
    obtain ⟨hv3, hr3⟩ := (hT 3 (by decide) : (Is (.bool false)) _ _)
    obtain ⟨hv4, hr4⟩ := (hT 4 (by decide) : (Is (.bool false)) _ _)
    obtain ⟨hv5, hr5⟩ := (hT 5 (by decide) : (Is (.agg #[.bool (ng z9), .slice pS nS cS])) _ _)
    obtain ⟨hv6, hr6⟩ := (hT 6 (by decide) : (Is (.agg #[.bool bx, .slice px nx cx])) _ _)
    obtain ⟨p6, n6, c6, hv7, hr7⟩ := (hT 7 (by decide) : (Zt z6) _ _)
    obtain ⟨hv8, hr8⟩ := (hT 8 (by decide) : (Is (.bool true)) _ _)
    obtain ⟨hv9, hr9⟩ := (hT 9 (by decide) : (Is (.bool true)) _ _)
    obtain ⟨hv10, hr10⟩ := (hT 10 (by decide) : (Is (.bool true)) _ _)
    obtain ⟨hv11, hr11⟩ := (hT 11 (by decide) : (Is (.bool true)) _ _)
    obtain ⟨hv12, hr12⟩ := (hT 12 (by decide) : (Is (.bool true)) _ _)
    obtain ⟨hv13, hr13⟩ := (hT 13 (by decide) : (Is (.bool true)) _ _)
    simp only [pool, if_true, hr0, hr1, hr2, hr3, hr4, hr5, hr6, hr7, hr8, hr9, hr10, hr11, hr12, hr13, List.nil_append, List.cons_append, List.append_nil] at hS
    simp only [layf, hv0, hv1, hv2, hv3, hv4, hv5, hv6, hv7, hv8, hv9, hv10, hv11, hv12, hv13] at hf
    subst hf; clear hT hv0 hv1 hv2 hv3 hv4 hv5 hv6 hv7 hv8 hv9 hv10 hv11 hv12 hv13 hr0 hr1 hr2 hr3 hr4 hr5 hr6 hr7 hr8 hr9 hr10 hr11 hr12 hr13
    refine wdone rfl ?_
    refine thenN ?_
    refine wleave ?_
    refine wret1 Tryz.results8 (tellT (v := .bool true) rfl rfl) ?_
    exact ⟨_, _, rfl, isI, hS.new0⟩
  ·
   refine wstage 14 [77, 78, 79, 80, 81, 82, 83, 84, 85, 86, 87, 88, 89, 4] [[], [], [0, 1], [2, 0, 1], [3, 0, 1, 2], [4, 0, 1, 2, 3], [4, 0, 1, 2, 3], [4, 6, 0, 1, 2, 3], [4, 5, 7, 0, 1, 2, 3, 6], [4, 8, 0, 1, 2, 3, 5, 6, 7], [9, 0, 1, 2, 3, 4, 5, 6, 7, 8], [10, 0, 1, 2, 3, 4, 5, 6, 7, 8, 9], [10, 11, 0, 1, 2, 3, 4, 5, 6, 7, 8, 9], [12, 0, 1, 2, 3, 4, 5, 6, 7, 8, 9, 10, 11]] [[], [], [], [], [], [], [], [], [], [], [], [], [], []] [] [] (fun i9 => ([fun _ => Is (.slice p4 n4 c4), fun _ => Is (.slice pQ nQ cQ), fun _ => Is (.int .i64 s5), fun _ => Is (.bool true), fun _ => Is (.bool true), fun _ => Is undef, fun _ => Is undef, fun _ => Is undef, fun _ => Is undef, fun _ => Is (.bool true), fun _ => Is (.bool true), fun _ => Is (.bool true), fun _ => Is (.bool true), fun _ => Is (.bool true)] : List (List Value → Tell)).getD i9 (fun _ _ _ => False)) (heldNil) (fun d _ _ _ _ h => (by cases d <;> exact h)) (by kernel_rfl) (by kernel_rfl) (by kernel_rfl) hS ?_ ?_
   ·
    refine stepsCons rfl (fun Q f' w' ρ S ho hT hS hB => ?_) ?_
    ·exact .inl ⟨want_none rfl, omove (v := .slice p4 n4 c4) rfl rfl (ev rfl (ho 15 rfl)) ⟨_, _, rfl, isI, New.same _⟩⟩
    refine stepsCons rfl (fun Q f' w' ρ S ho hT hS hB => ?_) ?_
    ·exact .inl ⟨want_none rfl, omove (v := .slice pQ nQ cQ) rfl rfl (ev rfl (ho 6 rfl)) ⟨_, _, rfl, isI, New.same _⟩⟩
    refine stepsCons rfl (fun Q f' w' ρ S ho hT hS hB => ?_) ?_
    ·obtain ⟨hv0, hr0⟩ := (hT 0 77 rfl rfl : (Is (.slice p4 n4 c4)) _ _)
     obtain ⟨hv1, hr1⟩ := (hT 1 78 rfl rfl : (Is (.slice pQ nQ cQ)) _ _)
     obtain hS := hS.flat2 hr0 hr1
     exact .inl ⟨want_none rfl, ocall rfl rfl Tryz.call20 rfl (wmcmp ((hS.sl 0 rfl).nr hkx4) ((hS.slm 5 rfl).nr hkQ) hs5) (args2 (ev rfl hv0) (ev rfl hv1)) callN⟩
    refine stepsCons rfl (fun Q f' w' ρ S ho hT hS hB => ?_) ?_
    ·obtain ⟨hv2, hr2⟩ := (hT 2 79 rfl rfl : (Is (.int .i64 s5)) _ _)
     obtain hS := hS.flat1 hr2
     exact .inl ⟨want_none rfl, obin (u := .int .i64 s5) (v := .int .i64 0) (z := .bool true) rfl rfl (ev rfl hv2) evc (bin_geq (decide_eq_true (by rw [← hs5.out]; exact cmpN_not_below (by omega)))) ⟨_, _, rfl, isI, New.same _⟩⟩
    refine stepsCons rfl (fun Q f' w' ρ S ho hT hS hB => ?_) ?_
    ·obtain ⟨hv3, hr3⟩ := (hT 3 80 rfl rfl : (Is (.bool true)) _ _)
     obtain hS := hS.flat1 hr3
     exact .inl ⟨want_none rfl, omove (v := .bool true) rfl rfl (ev rfl hv3) ⟨_, _, rfl, isI, New.same _⟩⟩
    refine stepsCons rfl (fun Q f' w' ρ S ho hT hS hB => ?_) ?_
    ·obtain ⟨hv4, hr4⟩ := (hT 4 81 rfl rfl : (Is (.bool true)) _ _)
     obtain hS := hS.flat1 hr4
     exact .inr ⟨want_off (e := 81) (b' := true) rfl rfl rfl hv4 rfl, isI⟩
    refine stepsCons rfl (fun Q f' w' ρ S ho hT hS hB => ?_) ?_
    ·obtain ⟨hv4, hr4⟩ := (hT 4 81 rfl rfl : (Is (.bool true)) _ _)
     obtain hS := hS.flat1 hr4
     exact .inr ⟨want_off (e := 81) (b' := true) rfl rfl rfl hv4 rfl, isI⟩
    refine stepsCons rfl (fun Q f' w' ρ S ho hT hS hB => ?_) ?_
    ·obtain ⟨hv4, hr4⟩ := (hT 4 81 rfl rfl : (Is (.bool true)) _ _)
     obtain ⟨hv6, hr6⟩ := (hT 6 83 rfl rfl : (Is undef) _ _)
     obtain hS := hS.flat2 hr4 hr6
     exact .inr ⟨want_off (e := 81) (b' := true) rfl rfl rfl hv4 rfl, isI⟩
    refine stepsCons rfl (fun Q f' w' ρ S ho hT hS hB => ?_) ?_
    ·obtain ⟨hv4, hr4⟩ := (hT 4 81 rfl rfl : (Is (.bool true)) _ _)
     obtain ⟨hv5, hr5⟩ := (hT 5 82 rfl rfl : (Is undef) _ _)
     obtain ⟨hv7, hr7⟩ := (hT 7 84 rfl rfl : (Is undef) _ _)
     obtain hS := hS.flat3 hr4 hr5 hr7
     exact .inr ⟨want_off (e := 81) (b' := true) rfl rfl rfl hv4 rfl, isI⟩
    refine stepsCons rfl (fun Q f' w' ρ S ho hT hS hB => ?_) ?_
    ·obtain ⟨hv4, hr4⟩ := (hT 4 81 rfl rfl : (Is (.bool true)) _ _)
     obtain ⟨hv8, hr8⟩ := (hT 8 85 rfl rfl : (Is undef) _ _)
     obtain hS := hS.flat2 hr4 hr8
     exact .inl ⟨want_none rfl, opick (b := true) (v := .bool true) rfl rfl (ev rfl hv4) evc ⟨_, _, rfl, isI, New.same _⟩⟩
    refine stepsCons rfl (fun Q f' w' ρ S ho hT hS hB => ?_) ?_
    ·obtain ⟨hv9, hr9⟩ := (hT 9 86 rfl rfl : (Is (.bool true)) _ _)
     obtain hS := hS.flat1 hr9
     exact .inl ⟨want_none rfl, omove (v := .bool true) rfl rfl (ev rfl hv9) ⟨_, _, rfl, isI, New.same _⟩⟩
    refine stepsCons rfl (fun Q f' w' ρ S ho hT hS hB => ?_) ?_
    ·obtain ⟨hv10, hr10⟩ := (hT 10 87 rfl rfl : (Is (.bool true)) _ _)
     obtain hS := hS.flat1 hr10
     exact .inl ⟨want_on (e := 87) rfl rfl rfl hv10, ocall rfl rfl Tryz.call14 rfl (wlawake6 (ht.at hS)) (args0 ) callN⟩
    refine stepsCons rfl (fun Q f' w' ρ S ho hT hS hB => ?_) ?_
    ·obtain ⟨hv10, hr10⟩ := (hT 10 87 rfl rfl : (Is (.bool true)) _ _)
     obtain ⟨hv11, hr11⟩ := (hT 11 88 rfl rfl : (Is (.bool true)) _ _)
     obtain hS := hS.flat2 hr10 hr11
     exact .inl ⟨want_none rfl, opick (b := true) (v := .bool true) rfl rfl (ev rfl hv10) (ev rfl hv11) ⟨_, _, rfl, isI, New.same _⟩⟩
    refine stepsCons rfl (fun Q f' w' ρ S ho hT hS hB => ?_) ?_
    ·obtain ⟨hv12, hr12⟩ := (hT 12 89 rfl rfl : (Is (.bool true)) _ _)
     obtain hS := hS.flat1 hr12
     exact .inl ⟨want_none rfl, oassign (v := .bool true) rfl rfl (ev rfl hv12) ⟨_, _, rfl, isI, New.same _⟩⟩
    exact stepsNil
   ·
    intro vs ρ w13 f' hf hT hS
    obtain ⟨hv0, hr0⟩ := (hT 0 (by decide) : (Is (.slice p4 n4 c4)) _ _)
    obtain ⟨hv1, hr1⟩ := (hT 1 (by decide) : (Is (.slice pQ nQ cQ)) _ _)
    obtain ⟨hv2, hr2⟩ := (hT 2 (by decide) : (Is (.int .i64 s5)) _ _)
    obtain ⟨hv3, hr3⟩ := (hT 3 (by decide) : (Is (.bool true)) _ _)
    obtain ⟨hv4, hr4⟩ := (hT 4 (by decide) : (Is (.bool true)) _ _)
    obtain ⟨hv5, hr5⟩ := (hT 5 (by decide) : (Is undef) _ _)
    obtain ⟨hv6, hr6⟩ := (hT 6 (by decide) : (Is undef) _ _)
    obtain ⟨hv7, hr7⟩ := (hT 7 (by decide) : (Is undef) _ _)
    obtain ⟨hv8, hr8⟩ := (hT 8 (by decide) : (Is undef) _ _)
    obtain ⟨hv9, hr9⟩ := (hT 9 (by decide) : (Is (.bool true)) _ _)
    obtain ⟨hv10, hr10⟩ := (hT 10 (by decide) : (Is (.bool true)) _ _)
    obtain ⟨hv11, hr11⟩ := (hT 11 (by decide) : (Is (.bool true)) _ _)
    obtain ⟨hv12, hr12⟩ := (hT 12 (by decide) : (Is (.bool true)) _ _)
    obtain ⟨hv13, hr13⟩ := (hT 13 (by decide) : (Is (.bool true)) _ _)
    simp only [pool, if_true, hr0, hr1, hr2, hr3, hr4, hr5, hr6, hr7, hr8, hr9, hr10, hr11, hr12, hr13, List.nil_append, List.cons_append, List.append_nil] at hS
    simp only [layf, hv0, hv1, hv2, hv3, hv4, hv5, hv6, hv7, hv8, hv9, hv10, hv11, hv12, hv13] at hf
    subst hf; clear hT hv0 hv1 hv2 hv3 hv4 hv5 hv6 hv7 hv8 hv9 hv10 hv11 hv12 hv13 hr0 hr1 hr2 hr3 hr4 hr5 hr6 hr7 hr8 hr9 hr10 hr11 hr12 hr13
    refine wdone rfl ?_
    refine thenN ?_
    refine wleave ?_
    refine wret1 Tryz.results8 (tellT (v := .bool true) rfl rfl) ?_
    exact ⟨_, _, rfl, isI, hS.new0⟩

theorem crtSigned_walk {bx : Bool} {px pl : Option Addr} {nx cx nl cl : Nat} {xs us : List Nat} {w : World} (hx : Sl w px nx cx xs) (hl : Sl w pl nl cl us) (h1 : Tab w) (h2 : Bases w) (b1 : nx ≤ 2097152) (b2 : nl ≤ 1048576) : Calls Tryz.prog 8 #[.agg #[.bool bx, .slice px nx cx], .slice pl nl cl] w (RetB w true) := Ret.bool (crtSigned_walk0 ⟨h1, h2⟩ ⟨xs, hx, rfl, b1⟩ hl b2)
end Go.Proofs.YtjbcjlbbipohjaaGreatDoor
