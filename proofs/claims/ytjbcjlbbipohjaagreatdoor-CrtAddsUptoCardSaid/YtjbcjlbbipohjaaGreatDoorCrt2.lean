
/-
  crt's methods, Of, Digits, Lift.
-/
import Derived.Test.YtjbcjlbbipohjaaGreatDoorCB
import Derived.Test.YtjbcjlbbipohjaaGreatDoorErr
set_option linter.unusedVariables false
set_option linter.unusedSimpArgs false
set_option maxRecDepth 100000
set_option maxHeartbeats 16000000
namespace Go.Proofs.YtjbcjlbbipohjaaGreatDoor
open Go.RowKit
theorem Sep.new {S : List Res} {w w' : World} (h : Sep w S w') (ha : S.all (fun r => !r.arg) = true) : New w S w' :=
  ⟨h.below, h.holds, fun r hr g hg => h.low r hr (by have := List.all_eq_true.1 ha r hr; simpa using this) g hg, h.apart⟩
theorem box_heap {w w' : World} {R : List Res} (hS : Sep w R w') {g : Nat} {b : Obj} (h : w.heap[g]? = some b) : w'.heap[g]? = some b :=
  (hS.below.block _ (Array.getElem?_eq_some_iff.1 h).1).trans h
def AllT (L : List (Nat × Nat)) : Tell := fun v r => ∃ g s, v = .tuple #[.pointer (some ⟨g, 0, none⟩), .nilIface] ∧ r = [.pack (crtR g s L)]
def NNEt (x y : Nat) (e : Int) : Tell := fun v r => ∃ p n c q m d, v = .tuple #[.slice p n c, .slice q m d, .int .i64 e] ∧ r = [.rowm p n c (lim x), .rowm q m d (lim y)]
def Nx (x k : Nat) : Tell := fun v r => ∃ p n c xs, v = .slice p n c ∧ r = [.rowm p n c xs] ∧ val xs = x ∧ n ≤ k
def DGt (L : List (Nat × Nat)) : Tell := fun v r => ∃ p c, v = .tuple #[.slice p L.length c, .int .i64 0] ∧ r = [.lst 40 1 p L.length c (dgE (dgs L))]
theorem wcloneN {p : Option Addr} {n c x k : Nat} {w : World} (h : Nr w p n c x k) (hk : k ≤ 4294967296) : Calls Tryz.prog 102 #[.slice p n c] w (Ret (Nx x k) w) := by
  obtain ⟨xs, h1, h2, h3⟩ := h
  refine (wclone h1 (by omega)).mono fun e w' hr => ?_
  obtain ⟨v, r, he, ⟨q, m, d, rfl, rfl⟩, hN⟩ := hr
  refine ⟨_, _, he, ⟨q, m, d, xs, rfl, rfl, h2, ?_⟩, hN⟩
  have hf := (show Fr 0 w' q m d xs from hN.holds (.rowm q m d xs) List.mem_cons_self)
  rw [← hf.len, h1.len]; exact h3
theorem wcloneR {p : Option Addr} {n c : Nat} {L : List (Nat × Nat)} {w : World} (h : RS w p n L) (hc : p = none → c = 0) (hn : n ≤ 4294967296) : Calls Tryz.prog 96 #[.slice p n c] w (Ret (LRt L) w) := by
 rcases p with _ | a
 ·obtain rfl : c = 0 := hc rfl
  obtain rfl : n = 0 := h.2.1 rfl
  obtain rfl : L = [] := List.eq_nil_of_length_eq_zero h.1
  exact wcloneR0
 ·exact wcloneR1 h hn
theorem wcvalue {g : Nat} {s : Gh} {l : List (Nat × Nat)} {w : World} (hP : (Res.pack (crtR g s l)).holds w) (hl : Okl l) :
  Calls Tryz.prog 50 #[.pointer (some ⟨g, 0, none⟩)] w (Ret (Nw (lim (cv l).1)) w) := by
 obtain ⟨pV, nV, cV, pM, nM, cM, pP, cP, pD, cD, gm⟩ := s
 have hwV := hl.wV
 have hwM := hl.wM
 have hlen := hl.len
 have hb := (show w.heap[g]? = some (.cells [.slice pV nV cV, .slice pM nM cM, .slice pP l.length cP, .slice pD l.length cD, .map (some gm)].toArray 93) from hP.1 _ List.mem_cons_self)
 have hV : Nr w pV nV cV (cv l).1 1048577 := (show Fr 0 w pV nV cV (lim (cv l).1) from hP.1 (.rowm pV nV cV (lim (cv l).1)) (by simp [crtR])).sl.nr hwV
 have hM : Nr w pM nM cM (cv l).2 1048577 := (show Fr 0 w pM nM cM (lim (cv l).2) from hP.1 (.rowm pM nM cM (lim (cv l).2)) (by simp [crtR])).sl.nr hwM
 have hF : Sl w pV nV cV (lim (cv l).1) := (show Fr 0 w pV nV cV (lim (cv l).1) from hP.1 (.rowm pV nV cV (lim (cv l).1)) (by simp [crtR])).sl
 have hnn : nV ≤ 4294967296 := by rw [hF.lln]; omega
 have hS := Sep.init w
 refine went Tryz.func50 rfl (n := 11) rfl rfl ?_
 refine wseq (wreg (wl rfl (oassign (v := .slice none 0 0) rfl rfl evc ?_)))
 refine wnil (thenN (wseq (wseq (wreg (wl rfl (omove (v := .pointer (some ⟨g, 0, none⟩)) rfl rfl (ev rfl rfl) ?_))))))
 refine wl rfl (ocall rfl rfl Tryz.call89 rfl (wcis (box_heap hS hb)) (args1 (ev rfl rfl)) ?_)
 rintro _ w1 ⟨_, _, rfl, ⟨rfl, rfl⟩, hN⟩
 refine ⟨_, rfl, ?_⟩
 replace hS := hS.news hN; clear hN
 refine wl rfl (onot (b := true) rfl rfl (ev rfl rfl) ?_)
 refine wnil (thenN ?_)
 refine wF (ev rfl rfl) ?_
 refine wskip (thenN (wseq (wreg (wl rfl (omove (v := .pointer (some ⟨g, 0, none⟩)) rfl rfl (ev rfl rfl) ?_)))))
 refine wl rfl (onilCheck (a := ⟨g, 0, none⟩) rfl rfl (ev rfl rfl) ?_)
 refine wl rfl (ofieldAddr (g := g) (off := 0) (0 + 0) rfl rfl (ev rfl rfl) Tryz.runUnderlying93 rfl Tryz.sizeOf26 rfl ?_)
 refine wl rfl (oloadc (v := .slice pV nV cV) oneN rfl rfl (ev (v := .pointer (some ⟨g, (0 + 0), none⟩)) rfl rfl) (hS.cellAt ((cell_sub (us := [.slice pV nV cV]) (box_cells hb) 0 rfl) 0 _ rfl)) ?_)
 refine wl rfl (ocall rfl rfl Tryz.call102 rfl (wclone (hF.below hS.below (Nat.le_refl _)) hnn) (args1 (ev rfl rfl)) ?_)
 rintro _ w2 ⟨_, _, rfl, ⟨pR, nR, cR, rfl, rfl⟩, hN⟩
 refine ⟨_, rfl, ?_⟩
 replace hS := hS.news hN; clear hN
 refine wl rfl (oassign (v := .slice pR nR cR) rfl rfl (ev rfl rfl) ?_)
 refine wnil (thenN ?_)
 refine wleave ?_
 refine wret1 Tryz.results50 (tellT (v := .slice pR nR cR) rfl rfl) ?_
 exact ⟨_, _, rfl, ⟨_, _, _, rfl, rfl⟩, hS.newR 0 rfl rfl⟩
theorem wcmod {g : Nat} {s : Gh} {l : List (Nat × Nat)} {w : World} (hP : (Res.pack (crtR g s l)).holds w) (hl : Okl l) :
  Calls Tryz.prog 51 #[.pointer (some ⟨g, 0, none⟩)] w (Ret (Nw (lim (cv l).2)) w) := by
 obtain ⟨pV, nV, cV, pM, nM, cM, pP, cP, pD, cD, gm⟩ := s
 have hwV := hl.wV
 have hwM := hl.wM
 have hlen := hl.len
 have hb := (show w.heap[g]? = some (.cells [.slice pV nV cV, .slice pM nM cM, .slice pP l.length cP, .slice pD l.length cD, .map (some gm)].toArray 93) from hP.1 _ List.mem_cons_self)
 have hV : Nr w pV nV cV (cv l).1 1048577 := (show Fr 0 w pV nV cV (lim (cv l).1) from hP.1 (.rowm pV nV cV (lim (cv l).1)) (by simp [crtR])).sl.nr hwV
 have hM : Nr w pM nM cM (cv l).2 1048577 := (show Fr 0 w pM nM cM (lim (cv l).2) from hP.1 (.rowm pM nM cM (lim (cv l).2)) (by simp [crtR])).sl.nr hwM
 have hF : Sl w pM nM cM (lim (cv l).2) := (show Fr 0 w pM nM cM (lim (cv l).2) from hP.1 (.rowm pM nM cM (lim (cv l).2)) (by simp [crtR])).sl
 have hnn : nM ≤ 4294967296 := by rw [hF.lln]; omega
 have hS := Sep.init w
 refine went Tryz.func51 rfl (n := 11) rfl rfl ?_
 refine wseq (wreg (wl rfl (oassign (v := .slice none 0 0) rfl rfl evc ?_)))
 refine wnil (thenN (wseq (wseq (wreg (wl rfl (omove (v := .pointer (some ⟨g, 0, none⟩)) rfl rfl (ev rfl rfl) ?_))))))
 refine wl rfl (ocall rfl rfl Tryz.call89 rfl (wcis (box_heap hS hb)) (args1 (ev rfl rfl)) ?_)
 rintro _ w1 ⟨_, _, rfl, ⟨rfl, rfl⟩, hN⟩
 refine ⟨_, rfl, ?_⟩
 replace hS := hS.news hN; clear hN
 refine wl rfl (onot (b := true) rfl rfl (ev rfl rfl) ?_)
 refine wnil (thenN ?_)
 refine wF (ev rfl rfl) ?_
 refine wskip (thenN (wseq (wreg (wl rfl (omove (v := .pointer (some ⟨g, 0, none⟩)) rfl rfl (ev rfl rfl) ?_)))))
 refine wl rfl (onilCheck (a := ⟨g, 0, none⟩) rfl rfl (ev rfl rfl) ?_)
 refine wl rfl (ofieldAddr (g := g) (off := 0) (0 + 1) rfl rfl (ev rfl rfl) Tryz.runUnderlying93 rfl Tryz.sizeOf26 rfl ?_)
 refine wl rfl (oloadc (v := .slice pM nM cM) oneN rfl rfl (ev (v := .pointer (some ⟨g, (0 + 1), none⟩)) rfl rfl) (hS.cellAt ((cell_sub (us := [.slice pM nM cM]) (box_cells hb) 1 rfl) 0 _ rfl)) ?_)
 refine wl rfl (ocall rfl rfl Tryz.call102 rfl (wclone (hF.below hS.below (Nat.le_refl _)) hnn) (args1 (ev rfl rfl)) ?_)
 rintro _ w2 ⟨_, _, rfl, ⟨pR, nR, cR, rfl, rfl⟩, hN⟩
 refine ⟨_, rfl, ?_⟩
 replace hS := hS.news hN; clear hN
 refine wl rfl (oassign (v := .slice pR nR cR) rfl rfl (ev rfl rfl) ?_)
 refine wnil (thenN ?_)
 refine wleave ?_
 refine wret1 Tryz.results51 (tellT (v := .slice pR nR cR) rfl rfl) ?_
 exact ⟨_, _, rfl, ⟨_, _, _, rfl, rfl⟩, hS.newR 0 rfl rfl⟩
theorem wcpairs {g : Nat} {s : Gh} {l : List (Nat × Nat)} {w : World} (hP : (Res.pack (crtR g s l)).holds w) (hl : Okl l) :
  Calls Tryz.prog 52 #[.pointer (some ⟨g, 0, none⟩)] w (Ret (LRt (rps l)) w) := by
 obtain ⟨pV, nV, cV, pM, nM, cM, pP, cP, pD, cD, gm⟩ := s
 have hwV := hl.wV
 have hwM := hl.wM
 have hlen := hl.len
 have hb := (show w.heap[g]? = some (.cells [.slice pV nV cV, .slice pM nM cM, .slice pP l.length cP, .slice pD l.length cD, .map (some gm)].toArray 93) from hP.1 _ List.mem_cons_self)
 have hV : Nr w pV nV cV (cv l).1 1048577 := (show Fr 0 w pV nV cV (lim (cv l).1) from hP.1 (.rowm pV nV cV (lim (cv l).1)) (by simp [crtR])).sl.nr hwV
 have hM : Nr w pM nM cM (cv l).2 1048577 := (show Fr 0 w pM nM cM (lim (cv l).2) from hP.1 (.rowm pM nM cM (lim (cv l).2)) (by simp [crtR])).sl.nr hwM
 have hS0 : Sep w [] w := Sep.init w
 have hR : RS w pP l.length (rps l) ∧ (pP = none → cP = 0) := by
  have hh := (show (Res.lst 42 2 pP l.length cP (rpE (rps l))).holds w from hP.1 _ (by simp [crtR]))
  refine ⟨⟨by simp [rps], fun hp => ?_, fun i x hx => ?_⟩, fun hp => ?_⟩
  ·rcases (hh.2.2.1 _ List.mem_cons_self).2 with ⟨hv, _⟩ | ⟨k, _, _, hv, _⟩
   ·simp only [Value.slice.injEq] at hv; exact hv.2.1
   ·simp only [Value.slice.injEq] at hv; rw [hp] at hv; cases hv.1
  ·have ho := hh.2.2.1 _ List.mem_cons_self
   have hin : i < (rps l).length := (List.getElem?_eq_some_iff.1 hx).1
   have hpp : ∃ k, pP = some ⟨k, 0, none⟩ := by
    rcases ho.2 with ⟨hv, _⟩ | ⟨k, _, _, hv, _⟩
    ·simp only [Value.slice.injEq] at hv
     have := hv.2.1
     simp [rps] at hin
     omega
    ·simp only [Value.slice.injEq] at hv; exact ⟨k, hv.1⟩
   obtain ⟨k, rfl⟩ := hpp
   refine ⟨k, 0, rfl, fun j v hj => ?_⟩
   have hjs : j < 2 := (List.getElem?_eq_some_iff.1 hj).1
   have hc := hh.1.cell (rpE_get hx) j hjs
   rw [show (rcell x)[j]? = some v from hj] at hc
   have := ho.cells (g := k) rfl (i * 2 + j) v hc
   rw [Addr.add_mid] at this
   rw [← this]
   congr 2
   omega
  ·rcases (hh.2.2.1 _ List.mem_cons_self).2 with ⟨hv, _⟩ | ⟨k, _, _, hv, _⟩
   ·simp only [Value.slice.injEq] at hv; exact hv.2.2
   ·simp only [Value.slice.injEq] at hv; rw [hp] at hv; cases hv.1
 have hS := Sep.init w
 refine went Tryz.func52 rfl (n := 11) rfl rfl ?_
 refine wseq (wreg (wl rfl (oassign (v := .slice none 0 0) rfl rfl evc ?_)))
 refine wnil (thenN (wseq (wseq (wreg (wl rfl (omove (v := .pointer (some ⟨g, 0, none⟩)) rfl rfl (ev rfl rfl) ?_))))))
 refine wl rfl (ocall rfl rfl Tryz.call89 rfl (wcis (box_heap hS hb)) (args1 (ev rfl rfl)) ?_)
 rintro _ w1 ⟨_, _, rfl, ⟨rfl, rfl⟩, hN⟩
 refine ⟨_, rfl, ?_⟩
 replace hS := hS.news hN; clear hN
 refine wl rfl (onot (b := true) rfl rfl (ev rfl rfl) ?_)
 refine wnil (thenN ?_)
 refine wF (ev rfl rfl) ?_
 refine wskip (thenN (wseq (wreg (wl rfl (omove (v := .pointer (some ⟨g, 0, none⟩)) rfl rfl (ev rfl rfl) ?_)))))
 refine wl rfl (onilCheck (a := ⟨g, 0, none⟩) rfl rfl (ev rfl rfl) ?_)
 refine wl rfl (ofieldAddr (g := g) (off := 0) (0 + 2) rfl rfl (ev rfl rfl) Tryz.runUnderlying93 rfl Tryz.sizeOf37 rfl ?_)
 refine wl rfl (oloadc (v := .slice pP l.length cP) (show One Tryz.prog 37 from ⟨Tryz.isAgg37, Tryz.sizeOf37⟩) rfl rfl (ev (v := .pointer (some ⟨g, (0 + 2), none⟩)) rfl rfl) (hS.cellAt ((cell_sub (us := [.slice pP l.length cP]) (box_cells hb) 2 rfl) 0 _ rfl)) ?_)
 refine wl rfl (ocall rfl rfl Tryz.call96 rfl (wcloneR (hR.1.at hS) hR.2 (by omega)) (args1 (ev rfl rfl)) ?_)
 rintro _ w2 ⟨_, _, rfl, ⟨pR, cR, rfl, rfl⟩, hN⟩
 refine ⟨_, rfl, ?_⟩
 replace hS := hS.news hN; clear hN
 refine wl rfl (oassign (v := .slice pR ((rps l).length) cR) rfl rfl (ev rfl rfl) ?_)
 refine wnil (thenN ?_)
 refine wleave ?_
 refine wret1 Tryz.results52 (tellT (v := .slice pR ((rps l).length) cR) rfl rfl) ?_
 exact ⟨_, _, rfl, ⟨_, _, rfl, rfl⟩, hS.newR 0 rfl rfl⟩
theorem slift_le {v m : Nat} (h : v + v ≤ m) : slift v m = (v : Int) := if_pos h
theorem slift_gt {v m : Nat} (h : m < v + v) : slift v m = (v : Int) - (m : Int) := if_neg (by omega)
theorem wcsigned {pv pm : Option Addr} {nv cv nm cm v m : Nat} {z : Int} {w : World} (hv : Nr w pv nv cv v 1073741824) (hm : Nr w pm nm cm m 1073741824) (hz : Hid (slift v m = z)) (hlt : v < m) :
  Calls Tryz.prog 88 #[.slice pv nv cv, .slice pm nm cm] w (Ret (Zt z) w) := by
 have hS := Sep.init w
 refine went Tryz.func88 rfl (n := 25) rfl rfl ?_
 refine wseq (wreg (wl rfl (oalloc [.bool false, .slice none 0 0] hS rfl rfl Tryz.zeroValue28 rfl ?_)))
 clear hS; intro g1 w2 hS
 refine wnil (thenN (wseq (wseq (wreg (wl rfl (omove (v := .slice pv nv cv) rfl rfl (ev rfl rfl) ?_))))))
 refine wl rfl (omove (v := .slice pv nv cv) rfl rfl (ev rfl rfl) ?_)
 obtain ⟨x1, hx1⟩ : ∃ x : Nat, Hid (v + v = x) := ⟨_, rfl⟩
 have hkx1 : ll x1 ≤ 1073741825 := Nd.add hv.ll hv.ll hx1 (by omega)
 refine wl rfl (ocall rfl rfl Tryz.call58 rfl (wnadd ((hv.at hS).mono (by omega)) ((hv.at hS).mono (by omega)) hx1) (args2 (ev rfl rfl) (ev rfl rfl)) ?_)
 rintro _ w3 ⟨_, _, rfl, ⟨p1, n1, c1, rfl, rfl⟩, hN⟩
 refine ⟨_, rfl, ?_⟩
 replace hS := hS.news hN; clear hN
 refine wl rfl (omove (v := .slice pm nm cm) rfl rfl (ev rfl rfl) ?_)
 obtain ⟨s2, hs2⟩ : ∃ z : Int, Hid (cmpN x1 m = z) := ⟨_, rfl⟩
 refine wl rfl (ocall rfl rfl Tryz.call57 rfl (wncmp ((hS.sl 0 rfl).nr hkx1) (hm.at hS) hs2) (args2 (ev rfl rfl) (ev rfl rfl)) ?_)
 rintro _ w4 ⟨_, _, rfl, ⟨rfl, rfl⟩, hN⟩
 refine ⟨_, rfl, ?_⟩
 replace hS := hS.news hN; clear hN
 by_cases hle : v + v ≤ m
 ·
  have hq := hx1.out
  refine wl rfl (obin (u := .int .i64 s2) (v := .int .i64 0) (z := .bool true) rfl rfl (ev rfl rfl) evc (bin_leq (decide_eq_true (by rw [← hs2.out]; exact cmpN_not_above (by omega)))) ?_)
  refine wnil (thenN ?_)
  refine wT (ev rfl rfl) ?_
  refine wseq (wreg (wl rfl (omove (v := .slice pv nv cv) rfl rfl (ev rfl rfl) ?_)))
  refine wl rfl (ocall rfl rfl Tryz.call102 rfl (wcloneN (k := 1073741824) (hv.at hS) (by omega)) (args1 (ev rfl rfl)) ?_)
  rintro _ w5 ⟨_, _, rfl, ⟨pK, nK, cK, xsK, rfl, rfl, hvalK, hlenK⟩, hN⟩
  refine ⟨_, rfl, ?_⟩
  replace hS := hS.news hN; clear hN
  have hkx3 : ll v ≤ 1073741824 := hv.ll
  refine wl rfl (ocall rfl rfl Tryz.call113 rfl (wnnorm ((show Nr _ _ _ _ v 1073741824 from ⟨_, hS.slm 0 rfl, hvalK, hlenK⟩).mono (by omega))) (args1 (ev rfl rfl)) ?_)
  rintro _ w6 ⟨_, _, rfl, ⟨p3, n3, c3, rfl, rfl⟩, hN⟩
  refine ⟨_, rfl, ?_⟩
  replace hS := hS.news hN; clear hN
  refine wl rfl (obuild (ps := #[(1, .slice p3 n3 c3)]) (v := .agg #[.bool false, .slice p3 n3 c3]) rfl rfl (parts1 (ev (v := .slice p3 n3 c3) rfl rfl)) (fun w => by simp [go_sem, Instr.build, Instr.fill]) ?_)
  refine wl rfl (ostore [.bool false, .slice p3 n3 c3] [.bool false, .slice p3 n3 c3] Tryz.sizeOf28 hS 3 rfl rfl (ev rfl rfl) (ev (v := .agg #[.bool false, .slice p3 n3 c3]) rfl rfl) rfl rfl rfl rfl rfl rfl ?_)
  clear hS; intro w7 hS
  refine wnil (thenN ?_)
  refine wleave ?_
  refine thenR ?_
  refine wret1 Tryz.results88 (tellC (cs := [.bool false, .slice p3 n3 c3]) aggZ hS 3 rfl rfl rfl rfl) ?_
  have e : z = (v : Int) := by rw [← hz.out]; exact slift_le (by omega)
  rw [e]
  exact ⟨_, _, rfl, ⟨_, _, _, by rw [ng_nat], rfl⟩, (by rw [Int.natAbs_natCast]; exact hS.new1 0 rfl)⟩
 ·
  have hq := hx1.out
  refine wl rfl (obin (u := .int .i64 s2) (v := .int .i64 0) (z := .bool false) rfl rfl (ev rfl rfl) evc (bin_leq (decide_eq_false (by rw [← hs2.out]; have := cmpN_above (show m < x1 by omega); omega))) ?_)
  refine wnil (thenN ?_)
  refine wF (ev rfl rfl) ?_
  refine wskip (thenN (wseq (wreg (wl rfl (omove (v := .slice pm nm cm) rfl rfl (ev rfl rfl) ?_)))))
  refine wl rfl (omove (v := .slice pv nv cv) rfl rfl (ev rfl rfl) ?_)
  obtain ⟨x3, hx3⟩ : ∃ x : Nat, Hid (m - v = x) := ⟨_, rfl⟩
  have hkx3 : ll x3 ≤ 1073741824 := Nd.sub hm.ll hx3
  refine wl rfl (ocall rfl rfl Tryz.call122 rfl (wnsub ((hm.at hS).mono (by omega)) ((hv.at hS).mono (by omega)) (by omega) hx3) (args2 (ev rfl rfl) (ev rfl rfl)) ?_)
  rintro _ w5 ⟨_, _, rfl, ⟨p3, n3, c3, rfl, rfl⟩, hN⟩
  refine ⟨_, rfl, ?_⟩
  replace hS := hS.news hN; clear hN
  refine wl rfl (omove (v := .tuple #[.slice p3 n3 c3, .int .i64 0]) rfl rfl (ev rfl rfl) ?_)
  refine wl rfl (oextract (vs := [.slice p3 n3 c3, .int .i64 0]) (v := .slice p3 n3 c3) rfl rfl (ev rfl rfl) rfl ?_)
  refine wl rfl (oextract (vs := [.slice p3 n3 c3, .int .i64 0]) (v := .int .i64 0) rfl rfl (ev rfl rfl) rfl ?_)
  refine wl rfl (oassign (v := .slice p3 n3 c3) rfl rfl (ev rfl rfl) ?_)
  refine wl rfl (oassign (v := .int .i64 0) rfl rfl (ev rfl rfl) ?_)
  refine wnil (thenN (wseq (wreg (wl rfl (omove (v := .slice p3 n3 c3) rfl rfl (ev rfl rfl) ?_)))))
  refine wl rfl (obuild (ps := #[(0, .bool true), (1, .slice p3 n3 c3)]) (v := .agg #[.bool true, .slice p3 n3 c3]) rfl rfl (parts2 (evc (v := .bool true)) (ev (v := .slice p3 n3 c3) rfl rfl)) (fun w => by simp [go_sem, Instr.build, Instr.fill]) ?_)
  refine wl rfl (ostore [.bool true, .slice p3 n3 c3] [.bool true, .slice p3 n3 c3] Tryz.sizeOf28 hS 2 rfl rfl (ev rfl rfl) (ev (v := .agg #[.bool true, .slice p3 n3 c3]) rfl rfl) rfl rfl rfl rfl rfl rfl ?_)
  clear hS; intro w6 hS
  refine wnil (thenN ?_)
  refine wleave ?_
  refine wret1 Tryz.results88 (tellC (cs := [.bool true, .slice p3 n3 c3]) aggZ hS 2 rfl rfl rfl rfl) ?_
  have hq2 := hx3.out
  have e : z = (v : Int) - (m : Int) := by rw [← hz.out]; exact slift_gt (by omega)
  have e1 : z.natAbs = x3 := by omega
  have e2 : ng z = true := ng_true (by omega)
  exact ⟨_, _, rfl, ⟨_, _, _, by rw [e2], by rw [e1]⟩, hS.new1 0 rfl⟩
theorem wcSigned {g : Nat} {s : Gh} {l : List (Nat × Nat)} {w : World} (hP : (Res.pack (crtR g s l)).holds w) (hl : Okl l) {z : Int} (hz : Hid (slift (cv l).1 (cv l).2 = z)) :
  Calls Tryz.prog 39 #[.pointer (some ⟨g, 0, none⟩)] w (Ret (Zt z) w) := by
 obtain ⟨pV, nV, cV, pM, nM, cM, pP, cP, pD, cD, gm⟩ := s
 have hwV := hl.wV
 have hwM := hl.wM
 have hlen := hl.len
 have hb := (show w.heap[g]? = some (.cells [.slice pV nV cV, .slice pM nM cM, .slice pP l.length cP, .slice pD l.length cD, .map (some gm)].toArray 93) from hP.1 _ List.mem_cons_self)
 have hV : Nr w pV nV cV (cv l).1 1048577 := (show Fr 0 w pV nV cV (lim (cv l).1) from hP.1 (.rowm pV nV cV (lim (cv l).1)) (by simp [crtR])).sl.nr hwV
 have hM : Nr w pM nM cM (cv l).2 1048577 := (show Fr 0 w pM nM cM (lim (cv l).2) from hP.1 (.rowm pM nM cM (lim (cv l).2)) (by simp [crtR])).sl.nr hwM
 have hlt := cv_lt hl.gd
 have hS := Sep.init w
 refine went Tryz.func39 rfl (n := 16) rfl rfl ?_
 refine wseq (wreg (wl rfl (oalloc [.bool false, .slice none 0 0] hS rfl rfl Tryz.zeroValue28 rfl ?_)))
 clear hS; intro g1 w2 hS
 refine wnil (thenN (wseq (wseq (wreg (wl rfl (omove (v := .pointer (some ⟨g, 0, none⟩)) rfl rfl (ev rfl rfl) ?_))))))
 refine wl rfl (ocall rfl rfl Tryz.call89 rfl (wcis (box_heap hS hb)) (args1 (ev rfl rfl)) ?_)
 rintro _ w3 ⟨_, _, rfl, ⟨rfl, rfl⟩, hN⟩
 refine ⟨_, rfl, ?_⟩
 replace hS := hS.news hN; clear hN
 refine wl rfl (onot (b := true) rfl rfl (ev rfl rfl) ?_)
 refine wnil (thenN ?_)
 refine wF (ev rfl rfl) ?_
 refine wskip (thenN (wseq ?_))
 refine wstage 9 [7, 8, 9, 10, 11, 12, 13, 14, 15] [[], [0], [1, 0], [2, 0, 1], [], [4], [5, 4], [6, 4, 5], [3, 7, 0, 1, 2, 4, 5, 6]] [[], [], [], [], [], [], [], [], []] [] [] (fun i9 => ([fun _ => Is (.pointer (some ⟨g, 0, none⟩)), fun _ => Is (.pointer (some ⟨g, 0, none⟩)), fun _ => Is (.pointer (some ⟨g, (0 + 0), none⟩)), fun _ => Is (.slice pV nV cV), fun _ => Is (.pointer (some ⟨g, 0, none⟩)), fun _ => Is (.pointer (some ⟨g, 0, none⟩)), fun _ => Is (.pointer (some ⟨g, (0 + 1), none⟩)), fun _ => Is (.slice pM nM cM), fun _ => Zt z] : List (List Value → Tell)).getD i9 (fun _ _ _ => False)) (heldNil) (fun d _ _ _ _ h => (by cases d <;> exact h)) (by kernel_rfl) (by kernel_rfl) (by kernel_rfl) hS ?_ ?_
 ·
  refine stepsCons rfl (fun Q f' w' ρ S ho hT hS hB => ?_) ?_
  ·exact .inl ⟨want_none rfl, omove (v := .pointer (some ⟨g, 0, none⟩)) rfl rfl (ev rfl (ho 0 rfl)) ⟨_, _, rfl, isI, New.same _⟩⟩
  refine stepsCons rfl (fun Q f' w' ρ S ho hT hS hB => ?_) ?_
  ·obtain ⟨hv0, hr0⟩ := (hT 0 7 rfl rfl : (Is (.pointer (some ⟨g, 0, none⟩))) _ _)
   obtain hS := hS.flat1 hr0
   exact .inl ⟨want_none rfl, onilCheck (a := ⟨g, 0, none⟩) rfl rfl (ev rfl hv0) ⟨_, _, rfl, isI, New.same _⟩⟩
  refine stepsCons rfl (fun Q f' w' ρ S ho hT hS hB => ?_) ?_
  ·obtain ⟨hv1, hr1⟩ := (hT 1 8 rfl rfl : (Is (.pointer (some ⟨g, 0, none⟩))) _ _)
   obtain hS := hS.flat1 hr1
   exact .inl ⟨want_none rfl, ofieldAddr (g := g) (off := 0) (0 + 0) rfl rfl (ev rfl hv1) Tryz.runUnderlying93 rfl Tryz.sizeOf26 rfl ⟨_, _, rfl, isI, New.same _⟩⟩
  refine stepsCons rfl (fun Q f' w' ρ S ho hT hS hB => ?_) ?_
  ·obtain ⟨hv2, hr2⟩ := (hT 2 9 rfl rfl : (Is (.pointer (some ⟨g, (0 + 0), none⟩))) _ _)
   obtain hS := hS.flat1 hr2
   exact .inl ⟨want_none rfl, oloadc (v := .slice pV nV cV) oneN rfl rfl (ev (v := .pointer (some ⟨g, (0 + 0), none⟩)) rfl hv2) (hS.cellAt ((cell_sub (us := [.slice pV nV cV]) (box_cells hb) 0 rfl) 0 _ rfl)) ⟨_, _, rfl, isI, New.same _⟩⟩
  refine stepsCons rfl (fun Q f' w' ρ S ho hT hS hB => ?_) ?_
  ·exact .inl ⟨want_none rfl, omove (v := .pointer (some ⟨g, 0, none⟩)) rfl rfl (ev rfl (ho 0 rfl)) ⟨_, _, rfl, isI, New.same _⟩⟩
  refine stepsCons rfl (fun Q f' w' ρ S ho hT hS hB => ?_) ?_
  ·obtain ⟨hv4, hr4⟩ := (hT 4 11 rfl rfl : (Is (.pointer (some ⟨g, 0, none⟩))) _ _)
   obtain hS := hS.flat1 hr4
   exact .inl ⟨want_none rfl, onilCheck (a := ⟨g, 0, none⟩) rfl rfl (ev rfl hv4) ⟨_, _, rfl, isI, New.same _⟩⟩
  refine stepsCons rfl (fun Q f' w' ρ S ho hT hS hB => ?_) ?_
  ·obtain ⟨hv5, hr5⟩ := (hT 5 12 rfl rfl : (Is (.pointer (some ⟨g, 0, none⟩))) _ _)
   obtain hS := hS.flat1 hr5
   exact .inl ⟨want_none rfl, ofieldAddr (g := g) (off := 0) (0 + 1) rfl rfl (ev rfl hv5) Tryz.runUnderlying93 rfl Tryz.sizeOf26 rfl ⟨_, _, rfl, isI, New.same _⟩⟩
  refine stepsCons rfl (fun Q f' w' ρ S ho hT hS hB => ?_) ?_
  ·obtain ⟨hv6, hr6⟩ := (hT 6 13 rfl rfl : (Is (.pointer (some ⟨g, (0 + 1), none⟩))) _ _)
   obtain hS := hS.flat1 hr6
   exact .inl ⟨want_none rfl, oloadc (v := .slice pM nM cM) oneN rfl rfl (ev (v := .pointer (some ⟨g, (0 + 1), none⟩)) rfl hv6) (hS.cellAt ((cell_sub (us := [.slice pM nM cM]) (box_cells hb) 1 rfl) 0 _ rfl)) ⟨_, _, rfl, isI, New.same _⟩⟩
  refine stepsCons rfl (fun Q f' w' ρ S ho hT hS hB => ?_) ?_
  ·obtain ⟨hv3, hr3⟩ := (hT 3 10 rfl rfl : (Is (.slice pV nV cV)) _ _)
   obtain ⟨hv7, hr7⟩ := (hT 7 14 rfl rfl : (Is (.slice pM nM cM)) _ _)
   obtain hS := hS.flat2 hr3 hr7
   exact .inl ⟨want_none rfl, ocall rfl rfl Tryz.call88 rfl (wcsigned ((hV.at hS).mono (by omega)) ((hM.at hS).mono (by omega)) hz hlt) (args2 (ev rfl hv3) (ev rfl hv7)) callN⟩
  exact stepsNil
 ·
  intro vs ρ w4 f' hf hT hS
  obtain ⟨hv0, hr0⟩ := (hT 0 (by decide) : (Is (.pointer (some ⟨g, 0, none⟩))) _ _)
  obtain ⟨hv1, hr1⟩ := (hT 1 (by decide) : (Is (.pointer (some ⟨g, 0, none⟩))) _ _)
  obtain ⟨hv2, hr2⟩ := (hT 2 (by decide) : (Is (.pointer (some ⟨g, (0 + 0), none⟩))) _ _)
  obtain ⟨hv3, hr3⟩ := (hT 3 (by decide) : (Is (.slice pV nV cV)) _ _)
  obtain ⟨hv4, hr4⟩ := (hT 4 (by decide) : (Is (.pointer (some ⟨g, 0, none⟩))) _ _)
  obtain ⟨hv5, hr5⟩ := (hT 5 (by decide) : (Is (.pointer (some ⟨g, 0, none⟩))) _ _)
  obtain ⟨hv6, hr6⟩ := (hT 6 (by decide) : (Is (.pointer (some ⟨g, (0 + 1), none⟩))) _ _)
  obtain ⟨hv7, hr7⟩ := (hT 7 (by decide) : (Is (.slice pM nM cM)) _ _)
  obtain ⟨pZ, nZ, cZ, hv8, hr8⟩ := (hT 8 (by decide) : (Zt z) _ _)
  simp only [pool, if_true, hr0, hr1, hr2, hr3, hr4, hr5, hr6, hr7, hr8, List.nil_append, List.cons_append, List.append_nil] at hS
  simp only [layf, hv0, hv1, hv2, hv3, hv4, hv5, hv6, hv7, hv8] at hf
  subst hf; clear hT hv0 hv1 hv2 hv3 hv4 hv5 hv6 hv7 hv8 hr0 hr1 hr2 hr3 hr4 hr5 hr6 hr7 hr8
  refine wlate 9 rfl (by kernel_rfl) (ostore [.bool (ng z), .slice pZ nZ cZ] [.bool (ng z), .slice pZ nZ cZ] Tryz.sizeOf28 hS 1 rfl rfl (ev rfl rfl) (ev (v := .agg #[.bool (ng z), .slice pZ nZ cZ]) rfl rfl) rfl rfl rfl rfl rfl rfl ?_)
  clear hS; intro w5 hS
  refine ⟨heldNil, ?_⟩
  refine wdone rfl ?_
  refine thenN ?_
  refine wleave ?_
  refine wret1 Tryz.results39 (tellC (cs := [.bool (ng z), .slice pZ nZ cZ]) aggZ hS 1 rfl rfl rfl rfl) ?_
  exact ⟨_, _, rfl, ⟨_, _, _, rfl, rfl⟩, hS.new1 0 rfl⟩
theorem wcon {v : Value} {w : World} :
  Calls Tryz.prog 71 #[v] w (Ret (Is (.bool true)) w) := by
 have hS := Sep.init w
 refine went Tryz.func71 rfl (n := 3) rfl rfl ?_
 refine wseq (wreg (wl rfl (oassign (v := .bool false) rfl rfl evc ?_)))
 refine wnil (thenN (wseq (wreg (wl rfl (oassign (v := .bool true) rfl rfl evc ?_)))))
 refine wnil (thenN ?_)
 refine wleave ?_
 refine wret1 Tryz.results71 (tellT (v := .bool true) rfl rfl) ?_
 exact ⟨_, _, rfl, isI, hS.new0⟩
theorem take_next {α : Type} {L : List α} {i : Nat} {x : α} (h : L[i]? = some x) : L.take (i + 1) = L.take i ++ [x] := by
  rw [List.take_add_one, h]; rfl
theorem Gd.take {l : List (Nat × Nat)} (h : Gd l) (i : Nat) : Gd (l.take i) :=
  ⟨fun x hx => h.1 x (List.mem_of_mem_take hx), (List.Sublist.map _ (List.take_sublist i l)).nodup h.2⟩
theorem gd_at {l : List (Nat × Nat)} (h : Gd l) {i : Nat} {x : Nat × Nat} (hx : l[i]? = some x) : MR.Pr x.2 ∧ x.2 ∉ mods (l.take i) := by
  have h1 := h.take (i + 1)
  rw [take_next hx] at h1
  exact (Gd.snoc.1 h1).2
theorem wcall0 {p : Option Addr} {n c : Nat} {L : List (Nat × Nat)} {w : World} (ht : Tb w) (hL : RS w p n L) (h32 : ∀ x ∈ L, x.1 < 4294967296 ∧ x.2 < 4294967296) (hlen : L.length ≤ 1048576) (hgd : Gd L) :
  Calls Tryz.prog 70 #[.slice p n c, .func (.func 71) #[] #[]] w (Ret (AllT L) w) := by
 have hS := Sep.init w
 refine went Tryz.func70 rfl (n := 33) rfl rfl ?_
 refine wseq (wreg (wl rfl (oassign (v := .pointer none) rfl rfl evc ?_)))
 refine wl rfl (oassign (v := .nilIface) rfl rfl evc ?_)
 refine wnil (thenN (wseq (wreg (wl rfl (ocall rfl rfl Tryz.call37 rfl (wcnew) (args0 ) ?_)))))
 rintro _ w1 ⟨_, _, rfl, ⟨g1, s1, rfl, rfl⟩, hN⟩
 refine ⟨_, rfl, ?_⟩
 replace hS := hS.news hN; clear hN
 refine wl rfl (oassign (v := .pointer (some ⟨g1, 0, none⟩)) rfl rfl (ev rfl rfl) ?_)
 refine wnil (thenN (wseq (wseq (wreg (wl rfl (omove (v := .slice p n c) rfl rfl (ev rfl rfl) ?_))))))
 refine wl rfl (olen rfl rfl rfl Tryz.runUnderlying37 (p := p) (k := n) (m := c) (ev rfl rfl) ?_)
 refine wl rfl (omove (v := .int .i64 0) rfl rfl evc ?_)
 refine wnil (thenN (wblock ?_))
 refine wloop (σ := Nat) (fun i a9 w' => ∃ (fb : Nat → Value) (sg : Gh), a9 = act 33 (sets fb [(1, .func (.func 71) #[] #[]), (6, .pointer (some ⟨g1, 0, none⟩)), (11, .slice p n c), (12, .int .i64 (n : Int)), (13, .int .i64 (i : Int))]) ∧ Sep w [.pack (crtR g1 sg (L.take i))] w' ∧ (i ≤ n) ∧ (Okl (L.take i))) (fun i => n - i) (0) ⟨_, s1, act_sets (l := [(1, .func (.func 71) #[] #[]), (6, .pointer (some ⟨g1, 0, none⟩)), (11, .slice p n c), (12, .int .i64 (n : Int)), (13, .int .i64 0)]) ⟨rfl, rfl, rfl, rfl, rfl, trivial⟩, hS, Nat.zero_le _, (by rw [List.take_zero]; exact Okl.nil)⟩ ?_
 clear hS; rintro i _ w2 ⟨fb, sg, rfl, hS, hi, hg⟩
 refine wseq (wreg ?_)
 by_cases hlt : i < n
 ·
  obtain ⟨x, hx⟩ : ∃ x, L[i]? = some x := ⟨_, List.getElem?_eq_getElem (by have := hL.1; omega)⟩
  obtain ⟨b, off, hpx, hcx⟩ := hL.2.2 i x hx
  have hx32 := h32 x (List.mem_of_getElem? hx)
  have hn1 := hL.1
  refine wl rfl (obin (u := .int .i64 (i : Int)) (v := .int .i64 (n : Int)) (z := .bool true) rfl rfl (ev rfl rfl) (ev rfl rfl) (bin_lss (decide_eq_true (by omega))) ?_)
  refine wnil (thenN (wseq ?_))
  refine wT (ev rfl rfl) ?_
  refine wskip (thenN (wseq (wblock (wseq (wreg (wl rfl (oindex (p := p) (g := b) (off := off) (m := n) (k := i) (j := (off + i * 2)) rfl rfl Tryz.runUnderlying37 Tryz.sizeOf42 (ev rfl rfl) (hpx) (ev rfl rfl) (hlt) rfl ?_)))))))
  refine wl rfl (oloadA (vs := [.int .u32 (x.1 : Int), .int .u32 (x.2 : Int)]) (show Agg Tryz.prog 42 2 from ⟨Tryz.isAgg42, Tryz.sizeOf42⟩) rfl rfl (ev (v := .pointer (some ⟨b, (off + i * 2), none⟩)) rfl rfl) (fun j v hj => hS.cellAt (hcx j v hj)) rfl ?_)
  refine wl rfl (oalloc [.int .u32 0, .int .u32 0] hS rfl rfl Tryz.zeroValue42 rfl ?_)
  clear hS; intro g3 w4 hS
  refine wl rfl (ostore [.int .u32 (x.1 : Int), .int .u32 (x.2 : Int)] [.int .u32 (x.1 : Int), .int .u32 (x.2 : Int)] Tryz.sizeOf42 hS 0 rfl rfl (ev rfl rfl) (ev (v := .agg #[.int .u32 (x.1 : Int), .int .u32 (x.2 : Int)]) rfl rfl) rfl rfl rfl rfl rfl rfl ?_)
  clear hS; intro w5 hS
  refine wnil (thenN (wseq (wseq (wreg (wl rfl (omove (v := .pointer (some ⟨g1, 0, none⟩)) rfl rfl (ev rfl rfl) ?_))))))
  refine wl rfl (ofieldAddr (g := g3) (off := 0) 0 rfl rfl (ev rfl rfl) Tryz.runUnderlying42 rfl Tryz.sizeOf40 rfl ?_)
  refine wl rfl (oload1 (v := .int .u32 (x.1 : Int)) one32 hS 0 rfl rfl (ev rfl rfl) rfl rfl ?_)
  refine wl rfl (ofieldAddr (g := g3) (off := 0) 1 rfl rfl (ev rfl rfl) Tryz.runUnderlying42 rfl Tryz.sizeOf40 rfl ?_)
  refine wl rfl (oload1 (v := .int .u32 (x.2 : Int)) one32 hS 0 rfl rfl (ev rfl rfl) rfl rfl ?_)
  obtain ⟨hp, hm⟩ := gd_at hgd hx
  obtain hS := (show Sep w [.pack (crtR g1 sg (L.take i)), .blk g3 [.int .u32 (((x.1 : Nat) : Int)), .int .u32 (((x.2 : Nat) : Int))] 42] w5 from hS.pick [1, 0] (by decide) rfl)
  refine wl rfl (ocall rfl rfl Tryz.call38 rfl (wcadd ht hg (by rw [List.length_take]; omega) hx32.1 hx32.2 hS hp hm) (args3 (ev rfl rfl) (ev rfl rfl) (ev rfl rfl)) ?_)
  rintro _ w6 ⟨_, _, rfl, ⟨s2, rfl, rfl⟩, hN⟩
  refine ⟨_, rfl, ?_⟩
  clear hS; have hS := hN; clear hN
  refine wl rfl (oassign (v := .int .i64 0) rfl rfl (ev rfl rfl) ?_)
  refine wnil (thenN (wseq (wreg (wl rfl (omove (v := .int .i64 0) rfl rfl (ev rfl rfl) ?_)))))
  refine wl rfl (obin (u := .int .i64 0) (v := .int .i64 0) (z := .bool false) rfl rfl (ev rfl rfl) evc (bin_neq (by decide)) ?_)
  refine wnil (thenN ?_)
  refine wF (ev rfl rfl) ?_
  refine wskip (thenN (wseq (wreg (wl rfl (omove (v := .func (.func 71) #[] #[]) rfl rfl (ev rfl rfl) ?_)))))
  refine wl rfl (omove (v := .pointer (some ⟨g1, 0, none⟩)) rfl rfl (ev rfl rfl) ?_)
  refine wl rfl (ocallv rfl rfl (ev (v := .func (.func 71) #[] #[]) rfl rfl) Tryz.call71 rfl (wcon) (args1 (ev rfl rfl)) ?_)
  rintro _ w7 ⟨_, _, rfl, ⟨rfl, rfl⟩, hN⟩
  refine ⟨_, rfl, ?_⟩
  replace hS := hS.news hN; clear hN
  refine wl rfl (onot (b := true) rfl rfl (ev rfl rfl) ?_)
  refine wnil (thenN ?_)
  refine wF (ev rfl rfl) ?_
  refine wskip (blkN (thenN (wreg (wl rfl (obin (u := .int .i64 (i : Int)) (v := .int .i64 1) (z := .int .i64 (((i + 1 : Nat) : Int))) rfl rfl (ev rfl rfl) evc (bin_add (wrap_i64 (by omega) (by omega))) ?_)))))
  refine wl rfl (omove (v := .int .i64 (((i + 1 : Nat) : Int))) rfl rfl (ev rfl rfl) ?_)
  refine wnil (thenN ?_)
  rw [show L.take i ++ [(x.1, x.2)] = L.take (i + 1) from (take_next hx).symm] at hS
  exact ⟨(i + 1), ⟨_, _, act_sets (l := [(1, .func (.func 71) #[] #[]), (6, .pointer (some ⟨g1, 0, none⟩)), (11, .slice p n c), (12, .int .i64 (n : Int)), (13, .int .i64 (((i + 1 : Nat) : Int)))]) ⟨rfl, rfl, rfl, rfl, rfl, trivial⟩, hS.pick [0] (by decide) rfl, by omega, (take_next hx) ▸ hg.snoc hp hx32.2 hm (by rw [List.length_take]; omega)⟩, by omega⟩
 ·
  refine wl rfl (obin (u := .int .i64 (i : Int)) (v := .int .i64 (n : Int)) (z := .bool false) rfl rfl (ev rfl rfl) (ev rfl rfl) (bin_lss (decide_eq_false (by omega))) ?_)
  refine wnil (thenN (wseq ?_))
  refine wF (ev rfl rfl) ?_
  refine wexit ?_
  refine thenE ?_
  refine thenE ?_
  refine blkE ?_
  refine thenN (wseq (wreg (wl rfl (omove (v := .pointer (some ⟨g1, 0, none⟩)) rfl rfl (ev rfl rfl) ?_))))
  refine wl rfl (oassign (v := .pointer (some ⟨g1, 0, none⟩)) rfl rfl (ev rfl rfl) ?_)
  refine wl rfl (oassign (v := .nilIface) rfl rfl evc ?_)
  refine wnil (thenN ?_)
  refine wleave ?_
  have hLt : L.take i = L := List.take_of_length_le (by have := hL.1; omega)
  rw [hLt] at hS
  refine wret2 Tryz.results70 (tellT (v := .pointer (some ⟨g1, 0, none⟩)) rfl rfl) (tellT (v := .nilIface) rfl rfl) ?_
  exact ⟨_, _, rfl, ⟨_, _, rfl, rfl⟩, hS.newR 0 rfl rfl⟩
end Go.Proofs.YtjbcjlbbipohjaaGreatDoor
