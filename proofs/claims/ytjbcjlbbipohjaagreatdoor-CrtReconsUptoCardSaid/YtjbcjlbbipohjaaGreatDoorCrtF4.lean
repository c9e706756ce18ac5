
/-
  The document's Recon.
-/
import Derived.Test.YtjbcjlbbipohjaaGreatDoorCrtF3
set_option linter.unusedVariables false
set_option linter.unusedSimpArgs false
set_option maxRecDepth 100000
set_option maxHeartbeats 16000000
namespace Go.Proofs.YtjbcjlbbipohjaaGreatDoor
open Go.RowKit
def RcF (v m b : Nat) : Tell := fun u r => (rce v m b = 0 ∧ ∃ p n c q k d, u = .tuple #[.agg #[.bool (ng (rcx v m b)), .slice p n c, .bool (ng (rcy v m b)), .slice q k d], .int .i64 0] ∧ r = [.rowm p n c (lim (rcx v m b).natAbs), .rowm q k d (lim (rcy v m b).natAbs)]) ∨ (rce v m b ≠ 0 ∧ Is (.tuple #[.agg #[.bool false, .slice none 0 0, .bool false, .slice none 0 0], .int .i64 ((rce v m b : Nat) : Int)]) u r)
theorem wfreconT {pv pm pb : Option Addr} {nv cv nm cm nb cb v m b : Nat} {w : World} (hv : Nr w pv nv cv v 2097152) (hm : Nr w pm nm cm m 2097152) (hb : Nr w pb nb cb b 2097152)  :
  Calls Tryz.prog 16 #[.slice pv nv cv, .slice pm nm cm, .slice pb nb cb] w (Ret (RcF v m b) w) := by
 have hzv := hv.zr
 have hzm := hm.zr
 have hzb := hb.zr
 have hS := Sep.init w
 refine went Tryz.func16 rfl (n := 96) rfl rfl ?_
 refine wseq (wreg (wl rfl (oalloc [.bool false, .slice none 0 0, .bool false, .slice none 0 0] hS rfl rfl Tryz.zeroValue30 rfl ?_)))
 clear hS; intro g1 w2 hS
 refine wl rfl (oassign (v := .int .i64 0) rfl rfl evc ?_)
 refine wnil (thenN (wseq (wseq (wreg (wl rfl (omove (v := .slice pv nv cv) rfl rfl (ev rfl rfl) ?_))))))
 refine wl rfl (omove (v := .slice pm nm cm) rfl rfl (ev rfl rfl) ?_)
 by_cases hvm : v < m
 ·
  refine wl rfl (ocall rfl rfl Tryz.call34 rfl (wfmay (hv.at hS) (hm.at hS) hvm) (args2 (ev rfl rfl) (ev rfl rfl)) ?_)
  rintro _ w3 ⟨_, _, rfl, ⟨rfl, rfl⟩, hN⟩
  refine ⟨_, rfl, ?_⟩
  replace hS := hS.news hN; clear hN
  refine wl rfl (onot (b := true) rfl rfl (ev rfl rfl) ?_)
  refine wnil (thenN ?_)
  refine wF (ev rfl rfl) ?_
  refine wskip (thenN (wseq (wreg (wl rfl (omove (v := .slice pb nb cb) rfl rfl (ev rfl rfl) ?_)))))
  refine wl rfl (omove (v := .slice pb nb cb) rfl rfl (ev rfl rfl) ?_)
  obtain ⟨x1, hx1⟩ : ∃ x : Nat, Hid (b * b = x) := ⟨_, rfl⟩
  have hkx1 : ll x1 ≤ 4194304 := Nd.mul hb.ll hb.ll hx1 (by omega)
  refine wl rfl (ocall rfl rfl Tryz.call26 rfl (wmmul ((hb.at hS).mono (by omega)) ((hb.at hS).mono (by omega)) hx1) (args2 (ev rfl rfl) (ev rfl rfl)) ?_)
  rintro _ w4 ⟨_, _, rfl, ⟨p1, n1, c1, rfl, rfl⟩, hN⟩
  refine ⟨_, rfl, ?_⟩
  replace hS := hS.news hN; clear hN
  refine wl rfl (oassign (v := .slice p1 n1 c1) rfl rfl (ev rfl rfl) ?_)
  refine wnil (thenN (wseq (wseq (wreg (wl rfl (omove (v := .slice p1 n1 c1) rfl rfl (ev rfl rfl) ?_))))))
  refine wl rfl (omove (v := .slice p1 n1 c1) rfl rfl (ev rfl rfl) ?_)
  obtain ⟨x2, hx2⟩ : ∃ x : Nat, Hid (x1 + x1 = x) := ⟨_, rfl⟩
  have hkx2 : ll x2 ≤ 4194305 := Nd.add hkx1 hkx1 hx2 (by omega)
  refine wl rfl (ocall rfl rfl Tryz.call27 rfl (wmadd (((hS.sl 0 rfl).nr hkx1).mono (by omega)) (((hS.sl 0 rfl).nr hkx1).mono (by omega)) hx2) (args2 (ev rfl rfl) (ev rfl rfl)) ?_)
  rintro _ w5 ⟨_, _, rfl, ⟨p2, n2, c2, rfl, rfl⟩, hN⟩
  refine ⟨_, rfl, ?_⟩
  replace hS := hS.news hN; clear hN
  refine wl rfl (omove (v := .slice pm nm cm) rfl rfl (ev rfl rfl) ?_)
  obtain ⟨s3, hs3⟩ : ∃ z : Int, Hid (cmpN x2 m = z) := ⟨_, rfl⟩
  refine wl rfl (ocall rfl rfl Tryz.call20 rfl (wmcmp ((hS.sl 0 rfl).nr hkx2) (hm.at hS) hs3) (args2 (ev rfl rfl) (ev rfl rfl)) ?_)
  rintro _ w6 ⟨_, _, rfl, ⟨rfl, rfl⟩, hN⟩
  refine ⟨_, rfl, ?_⟩
  replace hS := hS.news hN; clear hN
  have hq1 := hx1.out
  have hq2 := hx2.out
  by_cases hx3m : x2 < m
  ·
   refine wl rfl (obin (u := .int .i64 s3) (v := .int .i64 0) (z := .bool false) rfl rfl (ev rfl rfl) evc (bin_geq (decide_eq_false (by rw [← hs3.out]; have := cmpN_below hx3m; omega))) ?_)
   refine wnil (thenN ?_)
   refine wF (ev rfl rfl) ?_
   refine wskip (thenN (wseq (wreg (wl rfl (omove (v := .slice pm nm cm) rfl rfl (ev rfl rfl) ?_)))))
   refine wl rfl (obuild (ps := #[(1, .slice pm nm cm)]) (v := .agg #[.bool false, .slice pm nm cm]) rfl rfl (parts1 (ev (v := .slice pm nm cm) rfl rfl)) (fun w => by simp [go_sem, Instr.build, Instr.fill]) ?_)
   refine wl rfl (omove (v := .slice pv nv cv) rfl rfl (ev rfl rfl) ?_)
   refine wl rfl (obuild (ps := #[(1, .slice pv nv cv)]) (v := .agg #[.bool false, .slice pv nv cv]) rfl rfl (parts1 (ev (v := .slice pv nv cv) rfl rfl)) (fun w => by simp [go_sem, Instr.build, Instr.fill]) ?_)
   refine wl rfl (oalloc [.bool false, .slice none 0 0] hS rfl rfl Tryz.zeroValue28 rfl ?_)
   clear hS; intro g7 w8 hS
   refine wl rfl (oalloc [.bool false, .slice none 0 0] hS rfl rfl Tryz.zeroValue28 rfl ?_)
   clear hS; intro g9 w10 hS
   refine wl rfl (ostore [.bool false, .slice pm nm cm] [.bool false, .slice pm nm cm] Tryz.sizeOf28 hS 1 rfl rfl (ev rfl rfl) (ev (v := .agg #[.bool false, .slice pm nm cm]) rfl rfl) rfl rfl rfl rfl rfl rfl ?_)
   clear hS; intro w11 hS
   refine wl rfl (ostore [.bool false, .slice pv nv cv] [.bool false, .slice pv nv cv] Tryz.sizeOf28 hS 0 rfl rfl (ev rfl rfl) (ev (v := .agg #[.bool false, .slice pv nv cv]) rfl rfl) rfl rfl rfl rfl rfl rfl ?_)
   clear hS; intro w12 hS
   refine wnil (thenN (wseq (wreg (wl rfl (obuild (ps := #[]) (v := .agg #[.bool false, .slice none 0 0]) rfl rfl (parts0) (fun w => by simp [go_sem, Instr.build, Instr.fill]) ?_)))))
   have hk4 : Wd 1 2 := Wd.i64 (by omega) (by omega)
   refine wl rfl (ocall rfl rfl Tryz.call55 rfl (wqof (z := 1) (by omega) (by omega)) (args1 evc) ?_)
   rintro _ w13 ⟨_, _, rfl, ⟨p4, n4, c4, rfl, rfl⟩, hN⟩
   refine ⟨_, rfl, ?_⟩
   replace hS := hS.news hN; clear hN
   refine wl rfl (oalloc [.bool false, .slice none 0 0] hS rfl rfl Tryz.zeroValue28 rfl ?_)
   clear hS; intro g14 w15 hS
   refine wl rfl (oalloc [.bool false, .slice none 0 0] hS rfl rfl Tryz.zeroValue28 rfl ?_)
   clear hS; intro g16 w17 hS
   refine wl rfl (ostore [.bool false, .slice none 0 0] [.bool false, .slice none 0 0] Tryz.sizeOf28 hS 1 rfl rfl (ev rfl rfl) (ev (v := .agg #[.bool false, .slice none 0 0]) rfl rfl) rfl rfl rfl rfl rfl rfl ?_)
   clear hS; intro w18 hS
   refine wl rfl (ostore [.bool (ng 1), .slice p4 n4 c4] [.bool (ng 1), .slice p4 n4 c4] Tryz.sizeOf28 hS 0 rfl rfl (ev rfl rfl) (ev (v := .agg #[.bool (ng 1), .slice p4 n4 c4]) rfl rfl) rfl rfl rfl rfl rfl rfl ?_)
   clear hS; intro w19 hS
   refine wnil (thenN (wseq (wblock ?_)))
   have hbm : b * b + b * b < m := by omega
   have hq := hzm
   obtain ⟨l0ra, hl0ra, he0ra, hm0ra⟩ := hq
   replace hS := hS.addArg hl0ra rfl
   have hq := hzv
   obtain ⟨l0rb, hl0rb, he0rb, hm0rb⟩ := hq
   replace hS := hS.addArg hl0rb rfl
   replace hS := hS.nilRow
   refine wloop (σ := Nat) (fun k a9 w' => ∃ (fb : Nat → Value) (ra : Int) (rb : Int) (xa : Int) (xb : Int) (pra : Option Addr) (nra : Nat) (cra : Nat) (prb : Option Addr) (nrb : Nat) (crb : Nat) (pxa : Option Addr) (nxa : Nat) (cxa : Nat) (pxb : Option Addr) (nxb : Nat) (cxb : Nat) (lra : List Nat) (lrb : List Nat) (bra : Bool) (brb : Bool), a9 = act 96 (sets fb [(1, .slice pm nm cm), (2, .slice pb nb cb), (6, .pointer (some ⟨g1, 0, none⟩)), (7, .int .i64 0), (9, .pointer (some ⟨g7, 0, none⟩)), (10, .pointer (some ⟨g9, 0, none⟩)), (11, .pointer (some ⟨g14, 0, none⟩)), (12, .pointer (some ⟨g16, 0, none⟩))]) ∧ Sep w [.row pxa nxa cxa (lim xa.natAbs), .rd prb nrb crb lrb, .rd pra nra cra lra, .blk g16 [.bool (ng xb), .slice pxb nxb cxb] 28, .blk g14 [.bool (ng xa), .slice pxa nxa cxa] 28, .row pxb nxb cxb (lim xb.natAbs), .blk g9 [.bool brb, .slice prb nrb crb] 28, .blk g7 [.bool bra, .slice pra nra cra] 28, .row p2 n2 c2 (lim x2), .row p1 n1 c1 (lim x1), .blk g1 [.bool false, .slice none 0 0, .bool false, .slice none 0 0] 30] w' ∧ (Steps3 (v : Int) (m : Int) ra rb xa xb) ∧ (rgo (b : Int) rb.natAbs ra rb xa xb = rcs v m b) ∧ (rb.natAbs = k) ∧ (Wd ra 2097152) ∧ (Wd rb 2097152) ∧ (Wd xa 2097152) ∧ (Wd xb 2097152) ∧ (zv bra (val lra) = ra) ∧ (nra ≤ 2097152) ∧ (zv brb (val lrb) = rb) ∧ (nrb ≤ 2097152)) (fun k => k) (v) ⟨_, (m : Int), (v : Int), 0, 1, _, _, _, _, _, _, _, _, _, _, _, _, _, _, false, false, act_sets (l := [(1, .slice pm nm cm), (2, .slice pb nb cb), (6, .pointer (some ⟨g1, 0, none⟩)), (7, .int .i64 0), (9, .pointer (some ⟨g7, 0, none⟩)), (10, .pointer (some ⟨g9, 0, none⟩)), (11, .pointer (some ⟨g14, 0, none⟩)), (12, .pointer (some ⟨g16, 0, none⟩))]) ⟨rfl, rfl, rfl, rfl, rfl, rfl, rfl, rfl, trivial⟩, hS, Steps3.startI (by omega) (by omega) (by omega), rfl, rfl, (hzm.wd).mono (by omega), (hzv.wd).mono (by omega), ((Wd.i64 (z := 0) (by omega) (by omega))).mono (by omega), (hk4).mono (by omega), he0ra, (Nat.le_trans hm0ra (by omega)), he0rb, (Nat.le_trans hm0rb (by omega))⟩ ?_
   clear hS; rintro k _ w20 ⟨fb, ra, rb, xa, xb, pra, nra, cra, prb, nrb, crb, pxa, nxa, cxa, pxb, nxb, cxb, lra, lrb, bra, brb, rfl, hS, hst, hT, hmu, hkra, hkrb, hkxa, hkxb, hvra, hnra, hvrb, hnrb⟩
   refine wseq (wseq (wreg (wl rfl (ofieldAddr (g := g9) (off := 0) 1 rfl rfl (ev rfl rfl) Tryz.runUnderlying28 rfl Tryz.sizeOf26 rfl ?_))))
   refine wl rfl (oload1 (v := .slice prb nrb crb) oneN hS 6 rfl rfl (ev rfl rfl) rfl rfl ?_)
   refine wl rfl (omove (v := .slice pb nb cb) rfl rfl (ev rfl rfl) ?_)
   obtain ⟨s5, hs5⟩ : ∃ z : Int, Hid (cmpN rb.natAbs b = z) := ⟨_, rfl⟩
   refine wl rfl (ocall rfl rfl Tryz.call20 rfl (wmcmp ((show Zr _ _ _ _ _ rb 2097152 from ⟨_, hS.rdAt 1 rfl, hvrb, hnrb⟩).nr) (hb.at hS) hs5) (args2 (ev rfl rfl) (ev rfl rfl)) ?_)
   rintro _ w21 ⟨_, _, rfl, ⟨rfl, rfl⟩, hN⟩
   refine ⟨_, rfl, ?_⟩
   replace hS := hS.news hN; clear hN
   by_cases hle : rb ≤ ((b : Nat) : Int)
   ·
    have hrn := hst.n1
    refine wl rfl (obin (u := .int .i64 s5) (v := .int .i64 0) (z := .bool false) rfl rfl (ev rfl rfl) evc (bin_gtr (decide_eq_false (by rw [← hs5.out]; have := cmpN_not_above (show rb.natAbs ≤ b by omega); omega))) ?_)
    refine wnil (thenN ?_)
    refine wF (ev rfl rfl) ?_
    refine wexit ?_
    refine thenE ?_
    refine thenE ?_
    refine blkE ?_
    refine thenN ?_
    have hTe : rcs v m b = (rb, xb) := by rw [← hT, rgo_end hle]
    refine wjoin (I := fun a9 w' => ∃ (fb : Nat → Value) (N : Int) (D : Int) (pN : Option Addr) (nN : Nat) (cN : Nat) (pD : Option Addr) (nD : Nat) (cD : Nat) (lN : List Nat) (bN : Bool), a9 = act 96 (sets fb [(1, .slice pm nm cm), (2, .slice pb nb cb), (6, .pointer (some ⟨g1, 0, none⟩)), (7, .int .i64 0), (10, .pointer (some ⟨g9, 0, none⟩)), (12, .pointer (some ⟨g16, 0, none⟩))]) ∧ Sep w [.row pxa nxa cxa (lim xa.natAbs), .rd pN nN cN lN, .rd pra nra cra lra, .blk g16 [.bool (ng D), .slice pD nD cD] 28, .blk g14 [.bool (ng xa), .slice pxa nxa cxa] 28, .row pD nD cD (lim D.natAbs), .blk g9 [.bool bN, .slice pN nN cN] 28, .blk g7 [.bool bra, .slice pra nra cra] 28, .row p2 n2 c2 (lim x2), .row p1 n1 c1 (lim x1), .blk g1 [.bool false, .slice none 0 0, .bool false, .slice none 0 0] 30] w' ∧ (sfix (rcs v m b) = (N, D)) ∧ (Wd N 2097152) ∧ (Wd D 2097152) ∧ (zv bN (val lN) = N) ∧ (nN ≤ 2097152)) ?_ ?_
    ·
     refine wseq (wreg (wl rfl (oload (vs := [.bool (ng xb), .slice pxb nxb cxb]) aggZ hS 3 rfl rfl (ev rfl rfl) rfl rfl rfl ?_)))
     obtain ⟨s6, hs6⟩ : ∃ z : Int, Hid ((xb : Int).sign = z) := ⟨_, rfl⟩
     refine wl rfl (ocall rfl rfl Tryz.call32 rfl (wqsign (((hS.sl 5 rfl).zr hkxb).mono (by omega)) hs6) (args1 (ev rfl rfl)) ?_)
     rintro _ w22 ⟨_, _, rfl, ⟨rfl, rfl⟩, hN⟩
     refine ⟨_, rfl, ?_⟩
     replace hS := hS.news hN; clear hN
     refine wl rfl (obin (u := .int .i64 s6) (v := .int .i64 0) (z := .bool (decide (s6 < 0))) rfl rfl (ev rfl rfl) evc (bin_lss (rfl)) ?_)
     refine wnil (thenN ?_)
     by_cases hneg : xb < 0
     ·
      skip
      refine wT ((ev (v := .bool (decide (s6 < 0))) rfl rfl).trans (congrArg Value.bool (ltT (sgn_neg hs6 hneg)))) ?_
      obtain ⟨z7, hz7⟩ : ∃ z : Int, Hid (-rb = z) := ⟨_, rfl⟩
      have hk7 : Wd z7 2097152 := Wd.neg hkrb hz7
      obtain ⟨z8, hz8⟩ : ∃ z : Int, Hid (-xb = z) := ⟨_, rfl⟩
      have hk8 : Wd z8 2097152 := Wd.neg hkxb hz8
      refine wstage 4 [60, 61, 62, 63] [[], [0], [], [2, 0, 1]] [[], [], [], []] [] [] (fun i9 => ([fun _ => Is (.agg #[.bool brb, .slice prb nrb crb]), fun _ => Zt z7, fun _ => Is (.agg #[.bool (ng xb), .slice pxb nxb cxb]), fun _ => Zt z8] : List (List Value → Tell)).getD i9 (fun _ _ _ => False)) (heldNil) (fun d _ _ _ _ h => (by cases d <;> exact h)) (by kernel_rfl) (by kernel_rfl) (by kernel_rfl) hS ?_ ?_
      ·
       refine stepsCons rfl (fun Q f' w' ρ S ho hT hS hB => ?_) ?_
       ·exact .inl ⟨want_none rfl, oload (vs := [.bool brb, .slice prb nrb crb]) aggZ hS 6 rfl rfl (ev rfl (ho 10 rfl)) rfl rfl rfl ⟨_, _, rfl, isI, New.same _⟩⟩
       refine stepsCons rfl (fun Q f' w' ρ S ho hT hS hB => ?_) ?_
       ·obtain ⟨hv0, hr0⟩ := (hT 0 60 rfl rfl : (Is (.agg #[.bool brb, .slice prb nrb crb])) _ _)
        obtain hS := hS.flat1 hr0
        exact .inl ⟨want_none rfl, ocall rfl rfl Tryz.call68 rfl (wqneg ((show Zr _ _ _ _ _ rb 2097152 from ⟨_, hS.rdAt 1 rfl, hvrb, hnrb⟩).mono (by omega)) hz7) (args1 (ev rfl hv0)) callN⟩
       refine stepsCons rfl (fun Q f' w' ρ S ho hT hS hB => ?_) ?_
       ·exact .inl ⟨want_none rfl, oload (vs := [.bool (ng xb), .slice pxb nxb cxb]) aggZ hS 3 rfl rfl (ev rfl (ho 12 rfl)) rfl rfl rfl ⟨_, _, rfl, isI, New.same _⟩⟩
       refine stepsCons rfl (fun Q f' w' ρ S ho hT hS hB => ?_) ?_
       ·obtain ⟨hv2, hr2⟩ := (hT 2 62 rfl rfl : (Is (.agg #[.bool (ng xb), .slice pxb nxb cxb])) _ _)
        obtain hS := hS.flat1 hr2
        exact .inl ⟨want_none rfl, ocall rfl rfl Tryz.call68 rfl (wqneg (((hS.sl 5 rfl).zr hkxb).mono (by omega)) hz8) (args1 (ev rfl hv2)) callN⟩
       exact stepsNil
      ·
       intro vs ρ w23 f' hf hT hS
       obtain ⟨hv0, hr0⟩ := (hT 0 (by decide) : (Is (.agg #[.bool brb, .slice prb nrb crb])) _ _)
       obtain ⟨p7, n7, c7, hv1, hr1⟩ := (hT 1 (by decide) : (Zt z7) _ _)
       obtain ⟨hv2, hr2⟩ := (hT 2 (by decide) : (Is (.agg #[.bool (ng xb), .slice pxb nxb cxb])) _ _)
       obtain ⟨p8, n8, c8, hv3, hr3⟩ := (hT 3 (by decide) : (Zt z8) _ _)
       simp only [pool, if_true, hr0, hr1, hr2, hr3, List.nil_append, List.cons_append, List.append_nil] at hS
       simp only [layf, hv0, hv1, hv2, hv3] at hf
       subst hf; clear hT hv0 hv1 hv2 hv3 hr0 hr1 hr2 hr3
       refine wlate 4 rfl (by kernel_rfl) (ostore [.bool (ng z7), .slice p7 n7 c7] [.bool (ng z7), .slice p7 n7 c7] Tryz.sizeOf28 hS 8 rfl rfl (ev rfl rfl) (ev (v := .agg #[.bool (ng z7), .slice p7 n7 c7]) rfl rfl) rfl rfl rfl rfl rfl rfl ?_)
       clear hS; intro w24 hS
       refine ⟨heldNil, ?_⟩
       refine wlate 5 rfl (by kernel_rfl) (ostore [.bool (ng z8), .slice p8 n8 c8] [.bool (ng z8), .slice p8 n8 c8] Tryz.sizeOf28 hS 5 rfl rfl (ev rfl rfl) (ev (v := .agg #[.bool (ng z8), .slice p8 n8 c8]) rfl rfl) rfl rfl rfl rfl rfl rfl ?_)
       clear hS; intro w25 hS
       refine ⟨heldNil, ?_⟩
       refine wdone rfl ?_
       refine thenN ?_
       have hln7 : n7 ≤ 2097152 := by rw [(hS.sl 1 rfl).lln]; exact hk7.mono (by omega)
       replace hS := hS.asRd 1 rfl
       exact ⟨_, z7, z8, _, _, _, _, _, _, _, ng z7, act_sets (l := [(1, .slice pm nm cm), (2, .slice pb nb cb), (6, .pointer (some ⟨g1, 0, none⟩)), (7, .int .i64 0), (10, .pointer (some ⟨g9, 0, none⟩)), (12, .pointer (some ⟨g16, 0, none⟩))]) ⟨rfl, rfl, rfl, rfl, rfl, rfl, trivial⟩, hS.pick [2, 1, 4, 5, 6, 0, 8, 9, 10, 11, 12] (by decide) rfl, by rw [hTe]; exact sfix_neg hneg hz7 hz8, (hk7).mono (by omega), (hk8).mono (by omega), (by rw [val_lim, zv_ng]), hln7⟩
     ·
      refine wF ((ev (v := .bool (decide (s6 < 0))) rfl rfl).trans (congrArg Value.bool (ltF (sgn_nn hs6 (by omega))))) ?_
      refine wskip (thenN ?_)
      exact ⟨_, rb, xb, _, _, _, _, _, _, _, brb, act_sets (l := [(1, .slice pm nm cm), (2, .slice pb nb cb), (6, .pointer (some ⟨g1, 0, none⟩)), (7, .int .i64 0), (10, .pointer (some ⟨g9, 0, none⟩)), (12, .pointer (some ⟨g16, 0, none⟩))]) ⟨rfl, rfl, rfl, rfl, rfl, rfl, trivial⟩, hS.pick [0, 1, 2, 3, 4, 5, 6, 7, 8, 9, 10] (by decide) rfl, by rw [hTe]; exact sfix_pos hneg, (hkrb).mono (by omega), (hkxb).mono (by omega), hvrb, hnrb⟩
    clear hS; rintro _ w22 ⟨fb, N, D, pN, nN, cN, pD, nD, cD, lN, bN, rfl, hS, hN, hkN, hkD, hvN, hnN⟩
    refine wseq (wseq (wreg (wl rfl (oload (vs := [.bool (ng D), .slice pD nD cD]) aggZ hS 3 rfl rfl (ev rfl rfl) rfl rfl rfl ?_))))
    obtain ⟨s6, hs6⟩ : ∃ z : Int, Hid ((D : Int).sign = z) := ⟨_, rfl⟩
    refine wl rfl (ocall rfl rfl Tryz.call32 rfl (wqsign (((hS.sl 5 rfl).zr hkD).mono (by omega)) hs6) (args1 (ev rfl rfl)) ?_)
    rintro _ w23 ⟨_, _, rfl, ⟨rfl, rfl⟩, hN⟩
    refine ⟨_, rfl, ?_⟩
    replace hS := hS.news hN; clear hN
    have hDn : 0 ≤ D := by have h9 := sfix_nn (rcs v m b); rw [hN] at h9; exact h9
    by_cases hd0 : D = 0
    ·
     refine wl rfl (obin (u := .int .i64 s6) (v := .int .i64 0) (z := .bool true) rfl rfl (ev rfl rfl) evc (bin_eql (sign_eq hs6 hd0)) ?_)
     refine wl rfl (omove (v := .bool true) rfl rfl (ev rfl rfl) ?_)
     refine wlOff (e := 67) (d := 68) (b' := true) rfl rfl rfl rfl rfl rfl ?_
     refine wlOff (e := 67) (d := 69) (b' := true) rfl rfl rfl rfl rfl rfl ?_
     refine wlOff (e := 67) (d := 70) (b' := true) rfl rfl rfl rfl rfl rfl ?_
     refine wlOff (e := 67) (d := 71) (b' := true) rfl rfl rfl rfl rfl rfl ?_
     refine wlOff (e := 67) (d := 72) (b' := true) rfl rfl rfl rfl rfl rfl ?_
     refine wl rfl (opick (b := true) (v := .bool true) rfl rfl (ev rfl rfl) evc ?_)
     refine wnil (thenN ?_)
     refine wT (ev rfl rfl) ?_
     refine wseq (wreg (wl rfl (obuild (ps := #[]) (v := .agg #[.bool false, .slice none 0 0, .bool false, .slice none 0 0]) rfl rfl (parts0) (fun w => by simp [go_sem, Instr.build, Instr.fill]) ?_)))
     refine wl rfl (ostore [.bool false, .slice none 0 0, .bool false, .slice none 0 0] [.bool false, .slice none 0 0, .bool false, .slice none 0 0] Tryz.sizeOf30 hS 10 rfl rfl (ev rfl rfl) (ev (v := .agg #[.bool false, .slice none 0 0, .bool false, .slice none 0 0]) rfl rfl) rfl rfl rfl rfl rfl rfl ?_)
     clear hS; intro w24 hS
     refine wl rfl (oassign (v := .int .i64 61) rfl rfl evc ?_)
     refine wnil (thenN ?_)
     refine wleave ?_
     refine thenR ?_
     have hcode := rce_61 hvm hbm hN (.inl hd0)
     refine wret2 Tryz.results16 (tellC (cs := [.bool false, .slice none 0 0, .bool false, .slice none 0 0]) aggR hS 10 rfl rfl rfl rfl) (tellT (v := .int .i64 61) rfl rfl) ?_
     exact ⟨_, _, rfl, .inr ⟨by rw [hcode]; decide, by rw [hcode]; rfl, rfl⟩, hS.new0⟩
    ·
     refine wl rfl (obin (u := .int .i64 s6) (v := .int .i64 0) (z := .bool false) rfl rfl (ev rfl rfl) evc (bin_eql (sign_ne hs6 hd0)) ?_)
     refine wl rfl (omove (v := .bool false) rfl rfl (ev rfl rfl) ?_)
     refine wlOn (e := 67) rfl rfl rfl rfl (ofieldAddr (g := g16) (off := 0) 1 rfl rfl (ev rfl rfl) Tryz.runUnderlying28 rfl Tryz.sizeOf26 rfl ?_)
     refine wlOn (e := 67) rfl rfl rfl rfl (oload1 (v := .slice pD nD cD) oneN hS 3 rfl rfl (ev rfl rfl) rfl rfl ?_)
     refine wlOn (e := 67) rfl rfl rfl rfl (omove (v := .slice pb nb cb) rfl rfl (ev rfl rfl) ?_)
     obtain ⟨s7, hs7⟩ : ∃ z : Int, Hid (cmpN D.natAbs b = z) := ⟨_, rfl⟩
     refine wlOn (e := 67) rfl rfl rfl rfl (ocall rfl rfl Tryz.call20 rfl (wmcmp ((hS.sl 5 rfl).nr hkD) (hb.at hS) hs7) (args2 (ev rfl rfl) (ev rfl rfl)) ?_)
     rintro _ w24 ⟨_, _, rfl, ⟨rfl, rfl⟩, hN⟩
     refine ⟨_, rfl, ?_⟩
     replace hS := hS.news hN; clear hN
     by_cases hdb : ((b : Nat) : Int) < D
     ·
      refine wlOn (e := 67) rfl rfl rfl rfl (obin (u := .int .i64 s7) (v := .int .i64 0) (z := .bool true) rfl rfl (ev rfl rfl) evc (bin_gtr (decide_eq_true (by rw [← hs7.out]; exact cmpN_above (by omega)))) ?_)
      refine wl rfl (opick (b := false) (v := .bool true) rfl rfl (ev rfl rfl) (ev rfl rfl) ?_)
      refine wnil (thenN ?_)
      refine wT (ev rfl rfl) ?_
      refine wseq (wreg (wl rfl (obuild (ps := #[]) (v := .agg #[.bool false, .slice none 0 0, .bool false, .slice none 0 0]) rfl rfl (parts0) (fun w => by simp [go_sem, Instr.build, Instr.fill]) ?_)))
      refine wl rfl (ostore [.bool false, .slice none 0 0, .bool false, .slice none 0 0] [.bool false, .slice none 0 0, .bool false, .slice none 0 0] Tryz.sizeOf30 hS 10 rfl rfl (ev rfl rfl) (ev (v := .agg #[.bool false, .slice none 0 0, .bool false, .slice none 0 0]) rfl rfl) rfl rfl rfl rfl rfl rfl ?_)
      clear hS; intro w25 hS
      refine wl rfl (oassign (v := .int .i64 61) rfl rfl evc ?_)
      refine wnil (thenN ?_)
      refine wleave ?_
      refine thenR ?_
      have hcode := rce_61 hvm hbm hN (.inr (.inl hdb))
      refine wret2 Tryz.results16 (tellC (cs := [.bool false, .slice none 0 0, .bool false, .slice none 0 0]) aggR hS 10 rfl rfl rfl rfl) (tellT (v := .int .i64 61) rfl rfl) ?_
      exact ⟨_, _, rfl, .inr ⟨by rw [hcode]; decide, by rw [hcode]; rfl, rfl⟩, hS.new0⟩
     ·
      refine wlOn (e := 67) rfl rfl rfl rfl (obin (u := .int .i64 s7) (v := .int .i64 0) (z := .bool false) rfl rfl (ev rfl rfl) evc (bin_gtr (decide_eq_false (by rw [← hs7.out]; have := cmpN_not_above (show D.natAbs ≤ b by omega); omega))) ?_)
      refine wl rfl (opick (b := false) (v := .bool false) rfl rfl (ev rfl rfl) (ev rfl rfl) ?_)
      refine wnil (thenN ?_)
      refine wF (ev rfl rfl) ?_
      refine wskip (thenN (wseq (wreg (wl rfl (oload (vs := [.bool bN, .slice pN nN cN]) aggZ hS 6 rfl rfl (ev rfl rfl) rfl rfl rfl ?_)))))
      refine wl rfl (oload (vs := [.bool (ng D), .slice pD nD cD]) aggZ hS 3 rfl rfl (ev rfl rfl) rfl rfl rfl ?_)
      obtain ⟨z8, hz8⟩ : ∃ z : Int, Hid (RN N D = z) := ⟨_, rfl⟩
      have hk8 : Wd z8 2097152 := Wd.rn hkN hz8
      obtain ⟨z9, hz9⟩ : ∃ z : Int, Hid (RD N D = z) := ⟨_, rfl⟩
      have hk9 : Wd z9 2097152 := Wd.rd hkD hz9
      refine wl rfl (ocall rfl rfl Tryz.call54 rfl (wsmake ((show Zr _ _ _ _ _ N 2097152 from ⟨_, hS.rdAt 1 rfl, hvN, hnN⟩).mono (by omega)) (((hS.sl 5 rfl).zr hkD).mono (by omega)) (hd0) hz8 hz9) (args2 (ev rfl rfl) (ev rfl rfl)) ?_)
      rintro _ w25 ⟨_, _, rfl, ⟨p8, n8, c8, p9, n9, c9, rfl, rfl⟩, hN⟩
      refine ⟨_, rfl, ?_⟩
      replace hS := hS.news hN; clear hN
      refine wl rfl (oalloc [.bool false, .slice none 0 0, .bool false, .slice none 0 0] hS rfl rfl Tryz.zeroValue30 rfl ?_)
      clear hS; intro g26 w27 hS
      refine wl rfl (ostore [.bool (ng z8), .slice p8 n8 c8, .bool (ng z9), .slice p9 n9 c9] [.bool (ng z8), .slice p8 n8 c8, .bool (ng z9), .slice p9 n9 c9] Tryz.sizeOf30 hS 0 rfl rfl (ev rfl rfl) (ev (v := .agg #[.bool (ng z8), .slice p8 n8 c8, .bool (ng z9), .slice p9 n9 c9]) rfl rfl) rfl rfl rfl rfl rfl rfl ?_)
      clear hS; intro w28 hS
      refine wnil (thenN (wseq (wreg ?_)))
      have hkx10 : ll 1 ≤ 2 := Nd.u64 (by omega)
      refine wl rfl (ocall rfl rfl Tryz.call25 rfl (wmof (x := 1) (by omega)) (args1 evc) ?_)
      rintro _ w29 ⟨_, _, rfl, ⟨p10, n10, c10, rfl, rfl⟩, hN⟩
      refine ⟨_, rfl, ?_⟩
      replace hS := hS.news hN; clear hN
      refine wl rfl (oassign (v := .slice p10 n10 c10) rfl rfl (ev rfl rfl) ?_)
      refine wnil (thenN (wseq (wseq ?_)))
      obtain ⟨x11, hx11⟩ : ∃ x : Nat, Hid (Nat.gcd D.natAbs m = x) := ⟨_, rfl⟩
      have hkx11 : ll x11 ≤ 2097152 := (Nd.gcd hkD hm.ll hx11)
      obtain ⟨s12, hs12⟩ : ∃ z : Int, Hid (cmpN x11 1 = z) := ⟨_, rfl⟩
      by_cases hg2 : Int.gcd D ((m : Nat) : Int) = 1
      ·
       obtain ⟨z13, hz13⟩ : ∃ z : Int, Hid (D = z) := ⟨_, rfl⟩
       have hk13 : Wd z13 2097152 := Wd.same hkD hz13
       by_cases hg1 : Int.gcd N D = 1
       ·
        have hlow := R_low (x := N) (y := D) (by omega) hg1
        have hgood := rce_0 hvm hbm hN hd0 (by omega) hg1 hg2
        refine wstage 15 [79, 80, 81, 82, 83, 84, 85, 86, 87, 88, 89, 90, 91, 92, 93] [[], [0], [], [1, 2, 0], [], [3, 4, 0, 1, 2], [5, 0, 1, 2, 3, 4], [6, 0, 1, 2, 3, 4, 5], [7, 0, 1, 2, 3, 4, 5, 6], [7, 8, 0, 1, 2, 3, 4, 5, 6], [7, 0, 1, 2, 3, 4, 5, 6], [7, 10, 0, 1, 2, 3, 4, 5, 6], [7, 9, 11, 0, 1, 2, 3, 4, 5, 6, 8, 10], [7, 12, 0, 1, 2, 3, 4, 5, 6, 8, 9, 10, 11], [7, 13, 0, 1, 2, 3, 4, 5, 6, 8, 9, 10, 11, 12]] [[], [], [], [], [], [], [], [], [], [], [], [], [], [], []] [] [] (fun i9 => ([fun _ => Is (.pointer (some ⟨g16, 1, none⟩)), fun _ => Is (.slice pD nD cD), fun _ => Is (.slice pm nm cm), fun _ => Nt (lim x11), fun _ => Is (.slice p10 n10 c10), fun _ => Is (.int .i64 s12), fun _ => Is (.bool false), fun _ => Is (.bool false), fun _ => Is (.pointer (some ⟨g26, 2, none⟩)), fun _ => Is (.agg #[.bool (ng z9), .slice p9 n9 c9]), fun _ => Is (.agg #[.bool (ng D), .slice pD nD cD]), fun _ => Zt z13, fun _ => Is (.bool true), fun _ => Is (.bool false), fun _ => Is (.bool false)] : List (List Value → Tell)).getD i9 (fun _ _ _ => False)) (heldNil) (fun d _ _ _ _ h => (by cases d <;> exact h)) (by kernel_rfl) (by kernel_rfl) (by kernel_rfl) hS ?_ ?_
        ·
         refine stepsCons rfl (fun Q f' w' ρ S ho hT hS hB => ?_) ?_
         ·exact .inl ⟨want_none rfl, ofieldAddr (g := g16) (off := 0) 1 rfl rfl (ev rfl (ho 12 rfl)) Tryz.runUnderlying28 rfl Tryz.sizeOf26 rfl ⟨_, _, rfl, isI, New.same _⟩⟩
         refine stepsCons rfl (fun Q f' w' ρ S ho hT hS hB => ?_) ?_
         ·obtain ⟨hv0, hr0⟩ := (hT 0 79 rfl rfl : (Is (.pointer (some ⟨g16, 1, none⟩))) _ _)
          obtain hS := hS.flat1 hr0
          exact .inl ⟨want_none rfl, oload1 (v := .slice pD nD cD) oneN hS 7 rfl rfl (ev rfl hv0) rfl rfl ⟨_, _, rfl, isI, New.same _⟩⟩
         refine stepsCons rfl (fun Q f' w' ρ S ho hT hS hB => ?_) ?_
         ·exact .inl ⟨want_none rfl, omove (v := .slice pm nm cm) rfl rfl (ev rfl (ho 1 rfl)) ⟨_, _, rfl, isI, New.same _⟩⟩
         refine stepsCons rfl (fun Q f' w' ρ S ho hT hS hB => ?_) ?_
         ·obtain ⟨hv1, hr1⟩ := (hT 1 80 rfl rfl : (Is (.slice pD nD cD)) _ _)
          obtain ⟨hv2, hr2⟩ := (hT 2 81 rfl rfl : (Is (.slice pm nm cm)) _ _)
          obtain hS := hS.flat2 hr1 hr2
          exact .inl ⟨want_none rfl, ocall rfl rfl Tryz.call69 rfl (wmgcd (((hS.sl 9 rfl).nr hkD).mono (by omega)) ((hm.at hS).mono (by omega)) hx11) (args2 (ev rfl hv1) (ev rfl hv2)) callN⟩
         refine stepsCons rfl (fun Q f' w' ρ S ho hT hS hB => ?_) ?_
         ·exact .inl ⟨want_none rfl, omove (v := .slice p10 n10 c10) rfl rfl (ev rfl (ho 16 rfl)) ⟨_, _, rfl, isI, New.same _⟩⟩
         refine stepsCons rfl (fun Q f' w' ρ S ho hT hS hB => ?_) ?_
         ·obtain ⟨p11, n11, c11, hv3, hr3⟩ := (hT 3 82 rfl rfl : (Nt (lim x11)) _ _)
          obtain ⟨hv4, hr4⟩ := (hT 4 83 rfl rfl : (Is (.slice p10 n10 c10)) _ _)
          obtain hS := hS.flat2 hr3 hr4
          exact .inl ⟨want_none rfl, ocall rfl rfl Tryz.call20 rfl (wmcmp ((hS.sl 15 rfl).nr hkx11) ((hS.sl 0 rfl).nr hkx10) hs12) (args2 (ev rfl hv3) (ev rfl hv4)) callN⟩
         refine stepsCons rfl (fun Q f' w' ρ S ho hT hS hB => ?_) ?_
         ·obtain ⟨hv5, hr5⟩ := (hT 5 84 rfl rfl : (Is (.int .i64 s12)) _ _)
          obtain hS := hS.flat1 hr5
          exact .inl ⟨want_none rfl, obin (u := .int .i64 s12) (v := .int .i64 0) (z := .bool false) rfl rfl (ev rfl hv5) evc (bin_neq (neF (by rw [← hs12.out]; exact cmpN_eq (by rw [← hx11.out]; exact hg2)))) ⟨_, _, rfl, isI, New.same _⟩⟩
         refine stepsCons rfl (fun Q f' w' ρ S ho hT hS hB => ?_) ?_
         ·obtain ⟨hv6, hr6⟩ := (hT 6 85 rfl rfl : (Is (.bool false)) _ _)
          obtain hS := hS.flat1 hr6
          exact .inl ⟨want_none rfl, omove (v := .bool false) rfl rfl (ev rfl hv6) ⟨_, _, rfl, isI, New.same _⟩⟩
         refine stepsCons rfl (fun Q f' w' ρ S ho hT hS hB => ?_) ?_
         ·obtain ⟨hv7, hr7⟩ := (hT 7 86 rfl rfl : (Is (.bool false)) _ _)
          obtain hS := hS.flat1 hr7
          exact .inl ⟨want_on (e := 86) rfl rfl rfl hv7, ofieldAddr (g := g26) (off := 0) 2 rfl rfl (ev rfl (ho 15 rfl)) Tryz.runUnderlying30 rfl Tryz.sizeOf28 rfl ⟨_, _, rfl, isI, New.same _⟩⟩
         refine stepsCons rfl (fun Q f' w' ρ S ho hT hS hB => ?_) ?_
         ·obtain ⟨hv7, hr7⟩ := (hT 7 86 rfl rfl : (Is (.bool false)) _ _)
          obtain ⟨hv8, hr8⟩ := (hT 8 87 rfl rfl : (Is (.pointer (some ⟨g26, 2, none⟩))) _ _)
          obtain hS := hS.flat2 hr7 hr8
          exact .inl ⟨want_on (e := 86) rfl rfl rfl hv7, oload (vs := [.bool (ng z9), .slice p9 n9 c9]) aggZ hS 1 rfl rfl (ev rfl hv8) rfl rfl rfl ⟨_, _, rfl, isI, New.same _⟩⟩
         refine stepsCons rfl (fun Q f' w' ρ S ho hT hS hB => ?_) ?_
         ·obtain ⟨hv7, hr7⟩ := (hT 7 86 rfl rfl : (Is (.bool false)) _ _)
          obtain hS := hS.flat1 hr7
          exact .inl ⟨want_on (e := 86) rfl rfl rfl hv7, oload (vs := [.bool (ng D), .slice pD nD cD]) aggZ hS 7 rfl rfl (ev rfl (ho 12 rfl)) rfl rfl rfl ⟨_, _, rfl, isI, New.same _⟩⟩
         refine stepsCons rfl (fun Q f' w' ρ S ho hT hS hB => ?_) ?_
         ·obtain ⟨hv7, hr7⟩ := (hT 7 86 rfl rfl : (Is (.bool false)) _ _)
          obtain ⟨hv10, hr10⟩ := (hT 10 89 rfl rfl : (Is (.agg #[.bool (ng D), .slice pD nD cD])) _ _)
          obtain hS := hS.flat2 hr7 hr10
          exact .inl ⟨want_on (e := 86) rfl rfl rfl hv7, ocall rfl rfl Tryz.call40 rfl (wqnorm (((hS.sl 9 rfl).zr hkD).mono (by omega)) hz13) (args1 (ev rfl hv10)) callN⟩
         refine stepsCons rfl (fun Q f' w' ρ S ho hT hS hB => ?_) ?_
         ·obtain ⟨hv7, hr7⟩ := (hT 7 86 rfl rfl : (Is (.bool false)) _ _)
          obtain ⟨hv9, hr9⟩ := (hT 9 88 rfl rfl : (Is (.agg #[.bool (ng z9), .slice p9 n9 c9])) _ _)
          obtain ⟨p13, n13, c13, hv11, hr11⟩ := (hT 11 90 rfl rfl : (Zt z13) _ _)
          obtain hS := hS.flat3 hr7 hr9 hr11
          exact .inl ⟨want_on (e := 86) rfl rfl rfl hv7, ocall rfl rfl Tryz.call35 rfl (wqsame (x := z9) (y := z13) (hS.slm 3 rfl) (hS.sl 15 rfl) (by rw [← hz9.out, ← hz13.out]; exact hlow.2)) (args2 (ev rfl hv9) (ev rfl hv11)) callN⟩
         refine stepsCons rfl (fun Q f' w' ρ S ho hT hS hB => ?_) ?_
         ·obtain ⟨hv7, hr7⟩ := (hT 7 86 rfl rfl : (Is (.bool false)) _ _)
          obtain ⟨hv12, hr12⟩ := (hT 12 91 rfl rfl : (Is (.bool true)) _ _)
          obtain hS := hS.flat2 hr7 hr12
          exact .inl ⟨want_on (e := 86) rfl rfl rfl hv7, onot (b := true) rfl rfl (ev rfl hv12) ⟨_, _, rfl, isI, New.same _⟩⟩
         refine stepsCons rfl (fun Q f' w' ρ S ho hT hS hB => ?_) ?_
         ·obtain ⟨hv7, hr7⟩ := (hT 7 86 rfl rfl : (Is (.bool false)) _ _)
          obtain ⟨hv13, hr13⟩ := (hT 13 92 rfl rfl : (Is (.bool false)) _ _)
          obtain hS := hS.flat2 hr7 hr13
          exact .inl ⟨want_none rfl, opick (b := false) (v := .bool false) rfl rfl (ev rfl hv7) (ev rfl hv13) ⟨_, _, rfl, isI, New.same _⟩⟩
         exact stepsNil
        ·
         intro vs ρ w30 f' hf hT hS
         obtain ⟨hv0, hr0⟩ := (hT 0 (by decide) : (Is (.pointer (some ⟨g16, 1, none⟩))) _ _)
         obtain ⟨hv1, hr1⟩ := (hT 1 (by decide) : (Is (.slice pD nD cD)) _ _)
         obtain ⟨hv2, hr2⟩ := (hT 2 (by decide) : (Is (.slice pm nm cm)) _ _)
         obtain ⟨p11, n11, c11, hv3, hr3⟩ := (hT 3 (by decide) : (Nt (lim x11)) _ _)
         obtain ⟨hv4, hr4⟩ := (hT 4 (by decide) : (Is (.slice p10 n10 c10)) _ _)
         obtain ⟨hv5, hr5⟩ := (hT 5 (by decide) : (Is (.int .i64 s12)) _ _)
         obtain ⟨hv6, hr6⟩ := (hT 6 (by decide) : (Is (.bool false)) _ _)
         obtain ⟨hv7, hr7⟩ := (hT 7 (by decide) : (Is (.bool false)) _ _)
         obtain ⟨hv8, hr8⟩ := (hT 8 (by decide) : (Is (.pointer (some ⟨g26, 2, none⟩))) _ _)
         obtain ⟨hv9, hr9⟩ := (hT 9 (by decide) : (Is (.agg #[.bool (ng z9), .slice p9 n9 c9])) _ _)
         obtain ⟨hv10, hr10⟩ := (hT 10 (by decide) : (Is (.agg #[.bool (ng D), .slice pD nD cD])) _ _)
         obtain ⟨p13, n13, c13, hv11, hr11⟩ := (hT 11 (by decide) : (Zt z13) _ _)
         obtain ⟨hv12, hr12⟩ := (hT 12 (by decide) : (Is (.bool true)) _ _)
         obtain ⟨hv13, hr13⟩ := (hT 13 (by decide) : (Is (.bool false)) _ _)
         obtain ⟨hv14, hr14⟩ := (hT 14 (by decide) : (Is (.bool false)) _ _)
         simp only [pool, if_true, hr0, hr1, hr2, hr3, hr4, hr5, hr6, hr7, hr8, hr9, hr10, hr11, hr12, hr13, hr14, List.nil_append, List.cons_append, List.append_nil] at hS
         simp only [layf, hv0, hv1, hv2, hv3, hv4, hv5, hv6, hv7, hv8, hv9, hv10, hv11, hv12, hv13, hv14] at hf
         subst hf; clear hT hv0 hv1 hv2 hv3 hv4 hv5 hv6 hv7 hv8 hv9 hv10 hv11 hv12 hv13 hv14 hr0 hr1 hr2 hr3 hr4 hr5 hr6 hr7 hr8 hr9 hr10 hr11 hr12 hr13 hr14
         refine wdone rfl ?_
         refine thenN ?_
         refine wF (ev rfl rfl) ?_
         refine wskip (thenN (wseq (wreg (wl rfl (oload (vs := [.bool (ng z8), .slice p8 n8 c8, .bool (ng z9), .slice p9 n9 c9]) aggR hS 3 rfl rfl (ev rfl rfl) rfl rfl rfl ?_)))))
         refine wl rfl (ostore [.bool (ng z8), .slice p8 n8 c8, .bool (ng z9), .slice p9 n9 c9] [.bool (ng z8), .slice p8 n8 c8, .bool (ng z9), .slice p9 n9 c9] Tryz.sizeOf30 hS 16 rfl rfl (ev rfl rfl) (ev (v := .agg #[.bool (ng z8), .slice p8 n8 c8, .bool (ng z9), .slice p9 n9 c9]) rfl rfl) rfl rfl rfl rfl rfl rfl ?_)
         clear hS; intro w31 hS
         refine wl rfl (oassign (v := .int .i64 0) rfl rfl evc ?_)
         refine wnil (thenN ?_)
         refine wleave ?_
         refine wret2 Tryz.results16 (tellC (cs := [.bool (ng z8), .slice p8 n8 c8, .bool (ng z9), .slice p9 n9 c9]) aggR hS 16 rfl rfl rfl rfl) (tellT (v := .int .i64 0) rfl rfl) ?_
         have hq8 : rcx v m b = z8 := hgood.2.1.trans (hlow.1.symm.trans hz8.out)
         have hq9 : rcy v m b = z9 := hgood.2.2.trans (hlow.2.symm.trans hz9.out)
         exact ⟨_, _, rfl, .inl ⟨hgood.1, by rw [hq8, hq9]; exact ⟨_, _, _, _, _, _, rfl, rfl⟩⟩, (show Sep w [.rowm p8 n8 c8 (lim z8.natAbs), .rowm p9 n9 c9 (lim z9.natAbs)] w31 from hS.pick [4, 5] (by decide) rfl).new rfl⟩
       ·
        refine wstage 15 [79, 80, 81, 82, 83, 84, 85, 86, 87, 88, 89, 90, 91, 92, 93] [[], [0], [], [1, 2, 0], [], [3, 4, 0, 1, 2], [5, 0, 1, 2, 3, 4], [6, 0, 1, 2, 3, 4, 5], [7, 0, 1, 2, 3, 4, 5, 6], [7, 8, 0, 1, 2, 3, 4, 5, 6], [7, 0, 1, 2, 3, 4, 5, 6], [7, 10, 0, 1, 2, 3, 4, 5, 6], [7, 9, 11, 0, 1, 2, 3, 4, 5, 6, 8, 10], [7, 12, 0, 1, 2, 3, 4, 5, 6, 8, 9, 10, 11], [7, 13, 0, 1, 2, 3, 4, 5, 6, 8, 9, 10, 11, 12]] [[], [], [], [], [], [], [], [], [], [], [], [], [], [], []] [] [] (fun i9 => ([fun _ => Is (.pointer (some ⟨g16, 1, none⟩)), fun _ => Is (.slice pD nD cD), fun _ => Is (.slice pm nm cm), fun _ => Nt (lim x11), fun _ => Is (.slice p10 n10 c10), fun _ => Is (.int .i64 s12), fun _ => Is (.bool false), fun _ => Is (.bool false), fun _ => Is (.pointer (some ⟨g26, 2, none⟩)), fun _ => Is (.agg #[.bool (ng z9), .slice p9 n9 c9]), fun _ => Is (.agg #[.bool (ng D), .slice pD nD cD]), fun _ => Zt z13, fun _ => Is (.bool false), fun _ => Is (.bool true), fun _ => Is (.bool true)] : List (List Value → Tell)).getD i9 (fun _ _ _ => False)) (heldNil) (fun d _ _ _ _ h => (by cases d <;> exact h)) (by kernel_rfl) (by kernel_rfl) (by kernel_rfl) hS ?_ ?_
        ·
         refine stepsCons rfl (fun Q f' w' ρ S ho hT hS hB => ?_) ?_
         ·exact .inl ⟨want_none rfl, ofieldAddr (g := g16) (off := 0) 1 rfl rfl (ev rfl (ho 12 rfl)) Tryz.runUnderlying28 rfl Tryz.sizeOf26 rfl ⟨_, _, rfl, isI, New.same _⟩⟩
         refine stepsCons rfl (fun Q f' w' ρ S ho hT hS hB => ?_) ?_
         ·obtain ⟨hv0, hr0⟩ := (hT 0 79 rfl rfl : (Is (.pointer (some ⟨g16, 1, none⟩))) _ _)
          obtain hS := hS.flat1 hr0
          exact .inl ⟨want_none rfl, oload1 (v := .slice pD nD cD) oneN hS 7 rfl rfl (ev rfl hv0) rfl rfl ⟨_, _, rfl, isI, New.same _⟩⟩
         refine stepsCons rfl (fun Q f' w' ρ S ho hT hS hB => ?_) ?_
         ·exact .inl ⟨want_none rfl, omove (v := .slice pm nm cm) rfl rfl (ev rfl (ho 1 rfl)) ⟨_, _, rfl, isI, New.same _⟩⟩
         refine stepsCons rfl (fun Q f' w' ρ S ho hT hS hB => ?_) ?_
         ·obtain ⟨hv1, hr1⟩ := (hT 1 80 rfl rfl : (Is (.slice pD nD cD)) _ _)
          obtain ⟨hv2, hr2⟩ := (hT 2 81 rfl rfl : (Is (.slice pm nm cm)) _ _)
          obtain hS := hS.flat2 hr1 hr2
          exact .inl ⟨want_none rfl, ocall rfl rfl Tryz.call69 rfl (wmgcd (((hS.sl 9 rfl).nr hkD).mono (by omega)) ((hm.at hS).mono (by omega)) hx11) (args2 (ev rfl hv1) (ev rfl hv2)) callN⟩
         refine stepsCons rfl (fun Q f' w' ρ S ho hT hS hB => ?_) ?_
         ·exact .inl ⟨want_none rfl, omove (v := .slice p10 n10 c10) rfl rfl (ev rfl (ho 16 rfl)) ⟨_, _, rfl, isI, New.same _⟩⟩
         refine stepsCons rfl (fun Q f' w' ρ S ho hT hS hB => ?_) ?_
         ·obtain ⟨p11, n11, c11, hv3, hr3⟩ := (hT 3 82 rfl rfl : (Nt (lim x11)) _ _)
          obtain ⟨hv4, hr4⟩ := (hT 4 83 rfl rfl : (Is (.slice p10 n10 c10)) _ _)
          obtain hS := hS.flat2 hr3 hr4
          exact .inl ⟨want_none rfl, ocall rfl rfl Tryz.call20 rfl (wmcmp ((hS.sl 15 rfl).nr hkx11) ((hS.sl 0 rfl).nr hkx10) hs12) (args2 (ev rfl hv3) (ev rfl hv4)) callN⟩
         refine stepsCons rfl (fun Q f' w' ρ S ho hT hS hB => ?_) ?_
         ·obtain ⟨hv5, hr5⟩ := (hT 5 84 rfl rfl : (Is (.int .i64 s12)) _ _)
          obtain hS := hS.flat1 hr5
          exact .inl ⟨want_none rfl, obin (u := .int .i64 s12) (v := .int .i64 0) (z := .bool false) rfl rfl (ev rfl hv5) evc (bin_neq (neF (by rw [← hs12.out]; exact cmpN_eq (by rw [← hx11.out]; exact hg2)))) ⟨_, _, rfl, isI, New.same _⟩⟩
         refine stepsCons rfl (fun Q f' w' ρ S ho hT hS hB => ?_) ?_
         ·obtain ⟨hv6, hr6⟩ := (hT 6 85 rfl rfl : (Is (.bool false)) _ _)
          obtain hS := hS.flat1 hr6
          exact .inl ⟨want_none rfl, omove (v := .bool false) rfl rfl (ev rfl hv6) ⟨_, _, rfl, isI, New.same _⟩⟩
         refine stepsCons rfl (fun Q f' w' ρ S ho hT hS hB => ?_) ?_
         ·obtain ⟨hv7, hr7⟩ := (hT 7 86 rfl rfl : (Is (.bool false)) _ _)
          obtain hS := hS.flat1 hr7
          exact .inl ⟨want_on (e := 86) rfl rfl rfl hv7, ofieldAddr (g := g26) (off := 0) 2 rfl rfl (ev rfl (ho 15 rfl)) Tryz.runUnderlying30 rfl Tryz.sizeOf28 rfl ⟨_, _, rfl, isI, New.same _⟩⟩
         refine stepsCons rfl (fun Q f' w' ρ S ho hT hS hB => ?_) ?_
         ·obtain ⟨hv7, hr7⟩ := (hT 7 86 rfl rfl : (Is (.bool false)) _ _)
          obtain ⟨hv8, hr8⟩ := (hT 8 87 rfl rfl : (Is (.pointer (some ⟨g26, 2, none⟩))) _ _)
          obtain hS := hS.flat2 hr7 hr8
          exact .inl ⟨want_on (e := 86) rfl rfl rfl hv7, oload (vs := [.bool (ng z9), .slice p9 n9 c9]) aggZ hS 1 rfl rfl (ev rfl hv8) rfl rfl rfl ⟨_, _, rfl, isI, New.same _⟩⟩
         refine stepsCons rfl (fun Q f' w' ρ S ho hT hS hB => ?_) ?_
         ·obtain ⟨hv7, hr7⟩ := (hT 7 86 rfl rfl : (Is (.bool false)) _ _)
          obtain hS := hS.flat1 hr7
          exact .inl ⟨want_on (e := 86) rfl rfl rfl hv7, oload (vs := [.bool (ng D), .slice pD nD cD]) aggZ hS 7 rfl rfl (ev rfl (ho 12 rfl)) rfl rfl rfl ⟨_, _, rfl, isI, New.same _⟩⟩
         refine stepsCons rfl (fun Q f' w' ρ S ho hT hS hB => ?_) ?_
         ·obtain ⟨hv7, hr7⟩ := (hT 7 86 rfl rfl : (Is (.bool false)) _ _)
          obtain ⟨hv10, hr10⟩ := (hT 10 89 rfl rfl : (Is (.agg #[.bool (ng D), .slice pD nD cD])) _ _)
          obtain hS := hS.flat2 hr7 hr10
          exact .inl ⟨want_on (e := 86) rfl rfl rfl hv7, ocall rfl rfl Tryz.call40 rfl (wqnorm (((hS.sl 9 rfl).zr hkD).mono (by omega)) hz13) (args1 (ev rfl hv10)) callN⟩
         refine stepsCons rfl (fun Q f' w' ρ S ho hT hS hB => ?_) ?_
         ·obtain ⟨hv7, hr7⟩ := (hT 7 86 rfl rfl : (Is (.bool false)) _ _)
          obtain ⟨hv9, hr9⟩ := (hT 9 88 rfl rfl : (Is (.agg #[.bool (ng z9), .slice p9 n9 c9])) _ _)
          obtain ⟨p13, n13, c13, hv11, hr11⟩ := (hT 11 90 rfl rfl : (Zt z13) _ _)
          obtain hS := hS.flat3 hr7 hr9 hr11
          exact .inl ⟨want_on (e := 86) rfl rfl rfl hv7, ocall rfl rfl Tryz.call35 rfl (wqsameN (x := z9) (y := z13) (hS.slm 3 rfl) (hS.sl 15 rfl) (by rw [← hz9.out]; exact Int.le_of_lt (RD_pos hd0)) (by rw [← hz13.out]; omega) (by rw [← hz9.out, ← hz13.out]; exact rd_ne (by omega) hg1)) (args2 (ev rfl hv9) (ev rfl hv11)) callN⟩
         refine stepsCons rfl (fun Q f' w' ρ S ho hT hS hB => ?_) ?_
         ·obtain ⟨hv7, hr7⟩ := (hT 7 86 rfl rfl : (Is (.bool false)) _ _)
          obtain ⟨hv12, hr12⟩ := (hT 12 91 rfl rfl : (Is (.bool false)) _ _)
          obtain hS := hS.flat2 hr7 hr12
          exact .inl ⟨want_on (e := 86) rfl rfl rfl hv7, onot (b := false) rfl rfl (ev rfl hv12) ⟨_, _, rfl, isI, New.same _⟩⟩
         refine stepsCons rfl (fun Q f' w' ρ S ho hT hS hB => ?_) ?_
         ·obtain ⟨hv7, hr7⟩ := (hT 7 86 rfl rfl : (Is (.bool false)) _ _)
          obtain ⟨hv13, hr13⟩ := (hT 13 92 rfl rfl : (Is (.bool true)) _ _)
          obtain hS := hS.flat2 hr7 hr13
          exact .inl ⟨want_none rfl, opick (b := false) (v := .bool true) rfl rfl (ev rfl hv7) (ev rfl hv13) ⟨_, _, rfl, isI, New.same _⟩⟩
         exact stepsNil
        ·
         intro vs ρ w30 f' hf hT hS
         obtain ⟨hv0, hr0⟩ := (hT 0 (by decide) : (Is (.pointer (some ⟨g16, 1, none⟩))) _ _)
         obtain ⟨hv1, hr1⟩ := (hT 1 (by decide) : (Is (.slice pD nD cD)) _ _)
         obtain ⟨hv2, hr2⟩ := (hT 2 (by decide) : (Is (.slice pm nm cm)) _ _)
         obtain ⟨p11, n11, c11, hv3, hr3⟩ := (hT 3 (by decide) : (Nt (lim x11)) _ _)
         obtain ⟨hv4, hr4⟩ := (hT 4 (by decide) : (Is (.slice p10 n10 c10)) _ _)
         obtain ⟨hv5, hr5⟩ := (hT 5 (by decide) : (Is (.int .i64 s12)) _ _)
         obtain ⟨hv6, hr6⟩ := (hT 6 (by decide) : (Is (.bool false)) _ _)
         obtain ⟨hv7, hr7⟩ := (hT 7 (by decide) : (Is (.bool false)) _ _)
         obtain ⟨hv8, hr8⟩ := (hT 8 (by decide) : (Is (.pointer (some ⟨g26, 2, none⟩))) _ _)
         obtain ⟨hv9, hr9⟩ := (hT 9 (by decide) : (Is (.agg #[.bool (ng z9), .slice p9 n9 c9])) _ _)
         obtain ⟨hv10, hr10⟩ := (hT 10 (by decide) : (Is (.agg #[.bool (ng D), .slice pD nD cD])) _ _)
         obtain ⟨p13, n13, c13, hv11, hr11⟩ := (hT 11 (by decide) : (Zt z13) _ _)
         obtain ⟨hv12, hr12⟩ := (hT 12 (by decide) : (Is (.bool false)) _ _)
         obtain ⟨hv13, hr13⟩ := (hT 13 (by decide) : (Is (.bool true)) _ _)
         obtain ⟨hv14, hr14⟩ := (hT 14 (by decide) : (Is (.bool true)) _ _)
         simp only [pool, if_true, hr0, hr1, hr2, hr3, hr4, hr5, hr6, hr7, hr8, hr9, hr10, hr11, hr12, hr13, hr14, List.nil_append, List.cons_append, List.append_nil] at hS
         simp only [layf, hv0, hv1, hv2, hv3, hv4, hv5, hv6, hv7, hv8, hv9, hv10, hv11, hv12, hv13, hv14] at hf
         subst hf; clear hT hv0 hv1 hv2 hv3 hv4 hv5 hv6 hv7 hv8 hv9 hv10 hv11 hv12 hv13 hv14 hr0 hr1 hr2 hr3 hr4 hr5 hr6 hr7 hr8 hr9 hr10 hr11 hr12 hr13 hr14
         refine wdone rfl ?_
         refine thenN ?_
         refine wT (ev rfl rfl) ?_
         refine wseq (wreg (wl rfl (obuild (ps := #[]) (v := .agg #[.bool false, .slice none 0 0, .bool false, .slice none 0 0]) rfl rfl (parts0) (fun w => by simp [go_sem, Instr.build, Instr.fill]) ?_)))
         refine wl rfl (ostore [.bool false, .slice none 0 0, .bool false, .slice none 0 0] [.bool false, .slice none 0 0, .bool false, .slice none 0 0] Tryz.sizeOf30 hS 16 rfl rfl (ev rfl rfl) (ev (v := .agg #[.bool false, .slice none 0 0, .bool false, .slice none 0 0]) rfl rfl) rfl rfl rfl rfl rfl rfl ?_)
         clear hS; intro w31 hS
         refine wl rfl (oassign (v := .int .i64 61) rfl rfl evc ?_)
         refine wnil (thenN ?_)
         refine wleave ?_
         refine thenR ?_
         have hcode := rce_61 hvm hbm hN (.inr (.inr (.inl hg1)))
         refine wret2 Tryz.results16 (tellC (cs := [.bool false, .slice none 0 0, .bool false, .slice none 0 0]) aggR hS 16 rfl rfl rfl rfl) (tellT (v := .int .i64 61) rfl rfl) ?_
         exact ⟨_, _, rfl, .inr ⟨by rw [hcode]; decide, by rw [hcode]; rfl, rfl⟩, hS.new0⟩
      ·
       refine wstage 15 [79, 80, 81, 82, 83, 84, 85, 86, 87, 88, 89, 90, 91, 92, 93] [[], [0], [], [1, 2, 0], [], [3, 4, 0, 1, 2], [5, 0, 1, 2, 3, 4], [6, 0, 1, 2, 3, 4, 5], [7, 0, 1, 2, 3, 4, 5, 6], [7, 8, 0, 1, 2, 3, 4, 5, 6], [7, 0, 1, 2, 3, 4, 5, 6], [7, 10, 0, 1, 2, 3, 4, 5, 6], [7, 9, 11, 0, 1, 2, 3, 4, 5, 6, 8, 10], [7, 12, 0, 1, 2, 3, 4, 5, 6, 8, 9, 10, 11], [7, 13, 0, 1, 2, 3, 4, 5, 6, 8, 9, 10, 11, 12]] [[], [], [], [], [], [], [], [], [], [], [], [], [], [], []] [] [] (fun i9 => ([fun _ => Is (.pointer (some ⟨g16, 1, none⟩)), fun _ => Is (.slice pD nD cD), fun _ => Is (.slice pm nm cm), fun _ => Nt (lim x11), fun _ => Is (.slice p10 n10 c10), fun _ => Is (.int .i64 s12), fun _ => Is (.bool true), fun _ => Is (.bool true), fun _ => Is undef, fun _ => Is undef, fun _ => Is undef, fun _ => Is undef, fun _ => Is undef, fun _ => Is undef, fun _ => Is (.bool true)] : List (List Value → Tell)).getD i9 (fun _ _ _ => False)) (heldNil) (fun d _ _ _ _ h => (by cases d <;> exact h)) (by kernel_rfl) (by kernel_rfl) (by kernel_rfl) hS ?_ ?_
       ·
        refine stepsCons rfl (fun Q f' w' ρ S ho hT hS hB => ?_) ?_
        ·exact .inl ⟨want_none rfl, ofieldAddr (g := g16) (off := 0) 1 rfl rfl (ev rfl (ho 12 rfl)) Tryz.runUnderlying28 rfl Tryz.sizeOf26 rfl ⟨_, _, rfl, isI, New.same _⟩⟩
        refine stepsCons rfl (fun Q f' w' ρ S ho hT hS hB => ?_) ?_
        ·obtain ⟨hv0, hr0⟩ := (hT 0 79 rfl rfl : (Is (.pointer (some ⟨g16, 1, none⟩))) _ _)
         obtain hS := hS.flat1 hr0
         exact .inl ⟨want_none rfl, oload1 (v := .slice pD nD cD) oneN hS 7 rfl rfl (ev rfl hv0) rfl rfl ⟨_, _, rfl, isI, New.same _⟩⟩
        refine stepsCons rfl (fun Q f' w' ρ S ho hT hS hB => ?_) ?_
        ·exact .inl ⟨want_none rfl, omove (v := .slice pm nm cm) rfl rfl (ev rfl (ho 1 rfl)) ⟨_, _, rfl, isI, New.same _⟩⟩
        refine stepsCons rfl (fun Q f' w' ρ S ho hT hS hB => ?_) ?_
        ·obtain ⟨hv1, hr1⟩ := (hT 1 80 rfl rfl : (Is (.slice pD nD cD)) _ _)
         obtain ⟨hv2, hr2⟩ := (hT 2 81 rfl rfl : (Is (.slice pm nm cm)) _ _)
         obtain hS := hS.flat2 hr1 hr2
         exact .inl ⟨want_none rfl, ocall rfl rfl Tryz.call69 rfl (wmgcd (((hS.sl 9 rfl).nr hkD).mono (by omega)) ((hm.at hS).mono (by omega)) hx11) (args2 (ev rfl hv1) (ev rfl hv2)) callN⟩
        refine stepsCons rfl (fun Q f' w' ρ S ho hT hS hB => ?_) ?_
        ·exact .inl ⟨want_none rfl, omove (v := .slice p10 n10 c10) rfl rfl (ev rfl (ho 16 rfl)) ⟨_, _, rfl, isI, New.same _⟩⟩
        refine stepsCons rfl (fun Q f' w' ρ S ho hT hS hB => ?_) ?_
        ·obtain ⟨p11, n11, c11, hv3, hr3⟩ := (hT 3 82 rfl rfl : (Nt (lim x11)) _ _)
         obtain ⟨hv4, hr4⟩ := (hT 4 83 rfl rfl : (Is (.slice p10 n10 c10)) _ _)
         obtain hS := hS.flat2 hr3 hr4
         exact .inl ⟨want_none rfl, ocall rfl rfl Tryz.call20 rfl (wmcmp ((hS.sl 15 rfl).nr hkx11) ((hS.sl 0 rfl).nr hkx10) hs12) (args2 (ev rfl hv3) (ev rfl hv4)) callN⟩
        refine stepsCons rfl (fun Q f' w' ρ S ho hT hS hB => ?_) ?_
        ·obtain ⟨hv5, hr5⟩ := (hT 5 84 rfl rfl : (Is (.int .i64 s12)) _ _)
         obtain hS := hS.flat1 hr5
         exact .inl ⟨want_none rfl, obin (u := .int .i64 s12) (v := .int .i64 0) (z := .bool true) rfl rfl (ev rfl hv5) evc (bin_neq (cmpN_neT hs12 (by rw [← hx11.out]; exact hg2))) ⟨_, _, rfl, isI, New.same _⟩⟩
        refine stepsCons rfl (fun Q f' w' ρ S ho hT hS hB => ?_) ?_
        ·obtain ⟨hv6, hr6⟩ := (hT 6 85 rfl rfl : (Is (.bool true)) _ _)
         obtain hS := hS.flat1 hr6
         exact .inl ⟨want_none rfl, omove (v := .bool true) rfl rfl (ev rfl hv6) ⟨_, _, rfl, isI, New.same _⟩⟩
        refine stepsCons rfl (fun Q f' w' ρ S ho hT hS hB => ?_) ?_
        ·obtain ⟨hv7, hr7⟩ := (hT 7 86 rfl rfl : (Is (.bool true)) _ _)
         obtain hS := hS.flat1 hr7
         exact .inr ⟨want_off (e := 86) (b' := true) rfl rfl rfl hv7 rfl, isI⟩
        refine stepsCons rfl (fun Q f' w' ρ S ho hT hS hB => ?_) ?_
        ·obtain ⟨hv7, hr7⟩ := (hT 7 86 rfl rfl : (Is (.bool true)) _ _)
         obtain ⟨hv8, hr8⟩ := (hT 8 87 rfl rfl : (Is undef) _ _)
         obtain hS := hS.flat2 hr7 hr8
         exact .inr ⟨want_off (e := 86) (b' := true) rfl rfl rfl hv7 rfl, isI⟩
        refine stepsCons rfl (fun Q f' w' ρ S ho hT hS hB => ?_) ?_
        ·obtain ⟨hv7, hr7⟩ := (hT 7 86 rfl rfl : (Is (.bool true)) _ _)
         obtain hS := hS.flat1 hr7
         exact .inr ⟨want_off (e := 86) (b' := true) rfl rfl rfl hv7 rfl, isI⟩
        refine stepsCons rfl (fun Q f' w' ρ S ho hT hS hB => ?_) ?_
        ·obtain ⟨hv7, hr7⟩ := (hT 7 86 rfl rfl : (Is (.bool true)) _ _)
         obtain ⟨hv10, hr10⟩ := (hT 10 89 rfl rfl : (Is undef) _ _)
         obtain hS := hS.flat2 hr7 hr10
         exact .inr ⟨want_off (e := 86) (b' := true) rfl rfl rfl hv7 rfl, isI⟩
        refine stepsCons rfl (fun Q f' w' ρ S ho hT hS hB => ?_) ?_
        ·obtain ⟨hv7, hr7⟩ := (hT 7 86 rfl rfl : (Is (.bool true)) _ _)
         obtain ⟨hv9, hr9⟩ := (hT 9 88 rfl rfl : (Is undef) _ _)
         obtain ⟨hv11, hr11⟩ := (hT 11 90 rfl rfl : (Is undef) _ _)
         obtain hS := hS.flat3 hr7 hr9 hr11
         exact .inr ⟨want_off (e := 86) (b' := true) rfl rfl rfl hv7 rfl, isI⟩
        refine stepsCons rfl (fun Q f' w' ρ S ho hT hS hB => ?_) ?_
        ·obtain ⟨hv7, hr7⟩ := (hT 7 86 rfl rfl : (Is (.bool true)) _ _)
         obtain ⟨hv12, hr12⟩ := (hT 12 91 rfl rfl : (Is undef) _ _)
         obtain hS := hS.flat2 hr7 hr12
         exact .inr ⟨want_off (e := 86) (b' := true) rfl rfl rfl hv7 rfl, isI⟩
        refine stepsCons rfl (fun Q f' w' ρ S ho hT hS hB => ?_) ?_
        ·obtain ⟨hv7, hr7⟩ := (hT 7 86 rfl rfl : (Is (.bool true)) _ _)
         obtain ⟨hv13, hr13⟩ := (hT 13 92 rfl rfl : (Is undef) _ _)
         obtain hS := hS.flat2 hr7 hr13
         exact .inl ⟨want_none rfl, opick (b := true) (v := .bool true) rfl rfl (ev rfl hv7) evc ⟨_, _, rfl, isI, New.same _⟩⟩
        exact stepsNil
       ·
        intro vs ρ w30 f' hf hT hS
        obtain ⟨hv0, hr0⟩ := (hT 0 (by decide) : (Is (.pointer (some ⟨g16, 1, none⟩))) _ _)
        obtain ⟨hv1, hr1⟩ := (hT 1 (by decide) : (Is (.slice pD nD cD)) _ _)
        obtain ⟨hv2, hr2⟩ := (hT 2 (by decide) : (Is (.slice pm nm cm)) _ _)
        obtain ⟨p11, n11, c11, hv3, hr3⟩ := (hT 3 (by decide) : (Nt (lim x11)) _ _)
        obtain ⟨hv4, hr4⟩ := (hT 4 (by decide) : (Is (.slice p10 n10 c10)) _ _)
        obtain ⟨hv5, hr5⟩ := (hT 5 (by decide) : (Is (.int .i64 s12)) _ _)
        obtain ⟨hv6, hr6⟩ := (hT 6 (by decide) : (Is (.bool true)) _ _)
        obtain ⟨hv7, hr7⟩ := (hT 7 (by decide) : (Is (.bool true)) _ _)
        obtain ⟨hv8, hr8⟩ := (hT 8 (by decide) : (Is undef) _ _)
        obtain ⟨hv9, hr9⟩ := (hT 9 (by decide) : (Is undef) _ _)
        obtain ⟨hv10, hr10⟩ := (hT 10 (by decide) : (Is undef) _ _)
        obtain ⟨hv11, hr11⟩ := (hT 11 (by decide) : (Is undef) _ _)
        obtain ⟨hv12, hr12⟩ := (hT 12 (by decide) : (Is undef) _ _)
        obtain ⟨hv13, hr13⟩ := (hT 13 (by decide) : (Is undef) _ _)
        obtain ⟨hv14, hr14⟩ := (hT 14 (by decide) : (Is (.bool true)) _ _)
        simp only [pool, if_true, hr0, hr1, hr2, hr3, hr4, hr5, hr6, hr7, hr8, hr9, hr10, hr11, hr12, hr13, hr14, List.nil_append, List.cons_append, List.append_nil] at hS
        simp only [layf, hv0, hv1, hv2, hv3, hv4, hv5, hv6, hv7, hv8, hv9, hv10, hv11, hv12, hv13, hv14] at hf
        subst hf; clear hT hv0 hv1 hv2 hv3 hv4 hv5 hv6 hv7 hv8 hv9 hv10 hv11 hv12 hv13 hv14 hr0 hr1 hr2 hr3 hr4 hr5 hr6 hr7 hr8 hr9 hr10 hr11 hr12 hr13 hr14
        refine wdone rfl ?_
        refine thenN ?_
        refine wT (ev rfl rfl) ?_
        refine wseq (wreg (wl rfl (obuild (ps := #[]) (v := .agg #[.bool false, .slice none 0 0, .bool false, .slice none 0 0]) rfl rfl (parts0) (fun w => by simp [go_sem, Instr.build, Instr.fill]) ?_)))
        refine wl rfl (ostore [.bool false, .slice none 0 0, .bool false, .slice none 0 0] [.bool false, .slice none 0 0, .bool false, .slice none 0 0] Tryz.sizeOf30 hS 15 rfl rfl (ev rfl rfl) (ev (v := .agg #[.bool false, .slice none 0 0, .bool false, .slice none 0 0]) rfl rfl) rfl rfl rfl rfl rfl rfl ?_)
        clear hS; intro w31 hS
        refine wl rfl (oassign (v := .int .i64 61) rfl rfl evc ?_)
        refine wnil (thenN ?_)
        refine wleave ?_
        refine thenR ?_
        have hcode := rce_61 hvm hbm hN (.inr (.inr (.inr hg2)))
        refine wret2 Tryz.results16 (tellC (cs := [.bool false, .slice none 0 0, .bool false, .slice none 0 0]) aggR hS 15 rfl rfl rfl rfl) (tellT (v := .int .i64 61) rfl rfl) ?_
        exact ⟨_, _, rfl, .inr ⟨by rw [hcode]; decide, by rw [hcode]; rfl, rfl⟩, hS.new0⟩
   ·
    have hrn := hst.n1
    refine wl rfl (obin (u := .int .i64 s5) (v := .int .i64 0) (z := .bool true) rfl rfl (ev rfl rfl) evc (bin_gtr (decide_eq_true (by rw [← hs5.out]; exact cmpN_above (by omega)))) ?_)
    refine wnil (thenN ?_)
    refine wT (ev rfl rfl) ?_
    refine wskip (thenN (wblock (wseq (wreg (wl rfl (oload (vs := [.bool bra, .slice pra nra cra]) aggZ hS 7 rfl rfl (ev rfl rfl) rfl rfl rfl ?_))))))
    refine wl rfl (oload (vs := [.bool brb, .slice prb nrb crb]) aggZ hS 6 rfl rfl (ev rfl rfl) rfl rfl rfl ?_)
    obtain ⟨z6, hz6⟩ : ∃ z : Int, Hid (ra / rb = z) := ⟨_, rfl⟩
    have hk6 : Wd z6 2097152 := Wd.ediv hkra hz6
    obtain ⟨z7, hz7⟩ : ∃ z : Int, Hid (ra % rb = z) := ⟨_, rfl⟩
    have hk7 : Wd z7 2097152 := Wd.emod hkrb (by omega) hz7
    refine wl rfl (ocall rfl rfl Tryz.call31 rfl (wqeuclidQ (by omega) ((show Zr _ _ _ _ _ ra 2097152 from ⟨_, hS.rdAt 2 rfl, hvra, hnra⟩).mono (by omega)) ((show Zr _ _ _ _ _ rb 2097152 from ⟨_, hS.rdAt 1 rfl, hvrb, hnrb⟩).mono (by omega)) (by omega) hz6 hz7) (args2 (ev rfl rfl) (ev rfl rfl)) ?_)
    rintro _ w22 ⟨_, _, rfl, ⟨p6, n6, c6, p7, n7, c7, rfl, rfl⟩, hN⟩
    refine ⟨_, rfl, ?_⟩
    replace hS := hS.news hN; clear hN
    refine wl rfl (omove (v := .tuple #[.agg #[.bool (ng z6), .slice p6 n6 c6], .agg #[.bool (ng z7), .slice p7 n7 c7]]) rfl rfl (ev rfl rfl) ?_)
    refine wl rfl (oextract (vs := [.agg #[.bool (ng z6), .slice p6 n6 c6], .agg #[.bool (ng z7), .slice p7 n7 c7]]) (v := .agg #[.bool (ng z6), .slice p6 n6 c6]) rfl rfl (ev rfl rfl) rfl ?_)
    refine wl rfl (oextract (vs := [.agg #[.bool (ng z6), .slice p6 n6 c6], .agg #[.bool (ng z7), .slice p7 n7 c7]]) (v := .agg #[.bool (ng z7), .slice p7 n7 c7]) rfl rfl (ev rfl rfl) rfl ?_)
    refine wl rfl (oalloc [.bool false, .slice none 0 0] hS rfl rfl Tryz.zeroValue28 rfl ?_)
    clear hS; intro g23 w24 hS
    refine wl rfl (oalloc [.bool false, .slice none 0 0] hS rfl rfl Tryz.zeroValue28 rfl ?_)
    clear hS; intro g25 w26 hS
    refine wl rfl (ostore [.bool (ng z6), .slice p6 n6 c6] [.bool (ng z6), .slice p6 n6 c6] Tryz.sizeOf28 hS 1 rfl rfl (ev rfl rfl) (ev (v := .agg #[.bool (ng z6), .slice p6 n6 c6]) rfl rfl) rfl rfl rfl rfl rfl rfl ?_)
    clear hS; intro w27 hS
    refine wl rfl (ostore [.bool (ng z7), .slice p7 n7 c7] [.bool (ng z7), .slice p7 n7 c7] Tryz.sizeOf28 hS 0 rfl rfl (ev rfl rfl) (ev (v := .agg #[.bool (ng z7), .slice p7 n7 c7]) rfl rfl) rfl rfl rfl rfl rfl rfl ?_)
    clear hS; intro w28 hS
    refine wnil (thenN (wseq ?_))
    refine wstage 2 [49, 50] [[], []] [[], []] [1] [(g25, [.bool (ng z7), .slice p7 n7 c7], 28)] (fun i9 => ([fun _ => Is (.agg #[.bool brb, .slice prb nrb crb]), fun _ => Is (.agg #[.bool (ng z7), .slice p7 n7 c7])] : List (List Value → Tell)).getD i9 (fun _ _ _ => False)) ((heldCons (hS.blkAt 0 rfl) heldNil)) (fun d _ _ _ _ h => (by cases d <;> exact h)) (by kernel_rfl) (by kernel_rfl) (by kernel_rfl) hS ?_ ?_
    ·
     refine stepsCons rfl (fun Q f' w' ρ S ho hT hS hB => ?_) ?_
     ·exact .inl ⟨want_none rfl, oload (vs := [.bool brb, .slice prb nrb crb]) aggZ hS 10 rfl rfl (ev rfl (ho 10 rfl)) rfl rfl rfl ⟨_, _, rfl, isI, New.same _⟩⟩
     refine stepsPure rfl ?_ ?_
     ·intro f' ρ ho hT
      exact ⟨_, .inl ⟨want_none rfl, fun w hw => yload (vs := [.bool (ng z7), .slice p7 n7 c7]) aggZ rfl (ev rfl (ho 14 rfl)) (hw.at 0 rfl) rfl rfl⟩, isI⟩
     exact stepsNil
    ·
     intro vs ρ w29 f' hf hT hS
     obtain ⟨hv0, hr0⟩ := (hT 0 (by decide) : (Is (.agg #[.bool brb, .slice prb nrb crb])) _ _)
     obtain ⟨hv1, hr1⟩ := (hT 1 (by decide) : (Is (.agg #[.bool (ng z7), .slice p7 n7 c7])) _ _)
     simp only [pool, if_true, hr0, hr1, List.nil_append, List.cons_append, List.append_nil] at hS
     simp only [layf, hv0, hv1] at hf
     subst hf; clear hT hv0 hv1 hr0 hr1
     refine wlate 2 rfl (by kernel_rfl) (ostore [.bool brb, .slice prb nrb crb] [.bool brb, .slice prb nrb crb] Tryz.sizeOf28 hS 11 rfl rfl (ev rfl rfl) (ev (v := .agg #[.bool brb, .slice prb nrb crb]) rfl rfl) rfl rfl rfl rfl rfl rfl ?_)
     clear hS; intro w30 hS
     refine ⟨(heldCons (hS.blkAt 0 rfl) heldNil), ?_⟩
     refine wlate 3 rfl (by kernel_rfl) (ostore [.bool (ng z7), .slice p7 n7 c7] [.bool (ng z7), .slice p7 n7 c7] Tryz.sizeOf28 hS 10 rfl rfl (ev rfl rfl) (ev (v := .agg #[.bool (ng z7), .slice p7 n7 c7]) rfl rfl) rfl rfl rfl rfl rfl rfl ?_)
     clear hS; intro w31 hS
     refine ⟨(heldCons (hS.blkAt 0 rfl) heldNil), ?_⟩
     refine wdone rfl ?_
     refine thenN ?_
     obtain ⟨z8, hz8⟩ : ∃ z : Int, Hid (z6 * xb = z) := ⟨_, rfl⟩
     have hk8 : Wd z8 4194304 := Wd.mul hk6 hkxb hz8 (by omega)
     obtain ⟨z9, hz9⟩ : ∃ z : Int, Hid (xa - z8 = z) := ⟨_, rfl⟩
     have hk9 : Wd z9 4194305 := Wd.sub hkxa hk8 hz9 (by omega)
     refine wstage 6 [51, 52, 53, 54, 55, 56] [[], [], [], [], [2, 3], [1, 4, 2, 3]] [[], [], [], [], [], []] [] [] (fun i9 => ([fun _ => Is (.agg #[.bool (ng xb), .slice pxb nxb cxb]), fun _ => Is (.agg #[.bool (ng xa), .slice pxa nxa cxa]), fun _ => Is (.agg #[.bool (ng z6), .slice p6 n6 c6]), fun _ => Is (.agg #[.bool (ng xb), .slice pxb nxb cxb]), fun _ => Zt z8, fun _ => Zt z9] : List (List Value → Tell)).getD i9 (fun _ _ _ => False)) (heldNil) (fun d _ _ _ _ h => (by cases d <;> exact h)) (by kernel_rfl) (by kernel_rfl) (by kernel_rfl) hS ?_ ?_
     ·
      refine stepsCons rfl (fun Q f' w' ρ S ho hT hS hB => ?_) ?_
      ·exact .inl ⟨want_none rfl, oload (vs := [.bool (ng xb), .slice pxb nxb cxb]) aggZ hS 7 rfl rfl (ev rfl (ho 12 rfl)) rfl rfl rfl ⟨_, _, rfl, isI, New.same _⟩⟩
      refine stepsCons rfl (fun Q f' w' ρ S ho hT hS hB => ?_) ?_
      ·exact .inl ⟨want_none rfl, oload (vs := [.bool (ng xa), .slice pxa nxa cxa]) aggZ hS 8 rfl rfl (ev rfl (ho 11 rfl)) rfl rfl rfl ⟨_, _, rfl, isI, New.same _⟩⟩
      refine stepsCons rfl (fun Q f' w' ρ S ho hT hS hB => ?_) ?_
      ·exact .inl ⟨want_none rfl, oload (vs := [.bool (ng z6), .slice p6 n6 c6]) aggZ hS 1 rfl rfl (ev rfl (ho 13 rfl)) rfl rfl rfl ⟨_, _, rfl, isI, New.same _⟩⟩
      refine stepsCons rfl (fun Q f' w' ρ S ho hT hS hB => ?_) ?_
      ·exact .inl ⟨want_none rfl, oload (vs := [.bool (ng xb), .slice pxb nxb cxb]) aggZ hS 7 rfl rfl (ev rfl (ho 12 rfl)) rfl rfl rfl ⟨_, _, rfl, isI, New.same _⟩⟩
      refine stepsCons rfl (fun Q f' w' ρ S ho hT hS hB => ?_) ?_
      ·obtain ⟨hv2, hr2⟩ := (hT 2 53 rfl rfl : (Is (.agg #[.bool (ng z6), .slice p6 n6 c6])) _ _)
       obtain ⟨hv3, hr3⟩ := (hT 3 54 rfl rfl : (Is (.agg #[.bool (ng xb), .slice pxb nxb cxb])) _ _)
       obtain hS := hS.flat2 hr2 hr3
       exact .inl ⟨want_none rfl, ocall rfl rfl Tryz.call30 rfl (wqmul (((hS.sl 2 rfl).zr hk6).mono (by omega)) (((hS.sl 9 rfl).zr hkxb).mono (by omega)) hz8) (args2 (ev rfl hv2) (ev rfl hv3)) callN⟩
      refine stepsCons rfl (fun Q f' w' ρ S ho hT hS hB => ?_) ?_
      ·obtain ⟨hv1, hr1⟩ := (hT 1 52 rfl rfl : (Is (.agg #[.bool (ng xa), .slice pxa nxa cxa])) _ _)
       obtain ⟨p8, n8, c8, hv4, hr4⟩ := (hT 4 55 rfl rfl : (Zt z8) _ _)
       obtain hS := hS.flat2 hr1 hr4
       exact .inl ⟨want_none rfl, ocall rfl rfl Tryz.call29 rfl (wqsub (((hS.sl 4 rfl).zr hkxa).mono (by omega)) (((hS.sl 15 rfl).zr hk8).mono (by omega)) hz9) (args2 (ev rfl hv1) (ev rfl hv4)) callN⟩
      exact stepsNil
     ·
      intro vs ρ w32 f' hf hT hS
      obtain ⟨hv0, hr0⟩ := (hT 0 (by decide) : (Is (.agg #[.bool (ng xb), .slice pxb nxb cxb])) _ _)
      obtain ⟨hv1, hr1⟩ := (hT 1 (by decide) : (Is (.agg #[.bool (ng xa), .slice pxa nxa cxa])) _ _)
      obtain ⟨hv2, hr2⟩ := (hT 2 (by decide) : (Is (.agg #[.bool (ng z6), .slice p6 n6 c6])) _ _)
      obtain ⟨hv3, hr3⟩ := (hT 3 (by decide) : (Is (.agg #[.bool (ng xb), .slice pxb nxb cxb])) _ _)
      obtain ⟨p8, n8, c8, hv4, hr4⟩ := (hT 4 (by decide) : (Zt z8) _ _)
      obtain ⟨p9, n9, c9, hv5, hr5⟩ := (hT 5 (by decide) : (Zt z9) _ _)
      simp only [pool, if_true, hr0, hr1, hr2, hr3, hr4, hr5, List.nil_append, List.cons_append, List.append_nil] at hS
      simp only [layf, hv0, hv1, hv2, hv3, hv4, hv5] at hf
      subst hf; clear hT hv0 hv1 hv2 hv3 hv4 hv5 hr0 hr1 hr2 hr3 hr4 hr5
      refine wlate 6 rfl (by kernel_rfl) (ostore [.bool (ng xb), .slice pxb nxb cxb] [.bool (ng xb), .slice pxb nxb cxb] Tryz.sizeOf28 hS 10 rfl rfl (ev rfl rfl) (ev (v := .agg #[.bool (ng xb), .slice pxb nxb cxb]) rfl rfl) rfl rfl rfl rfl rfl rfl ?_)
      clear hS; intro w33 hS
      refine ⟨heldNil, ?_⟩
      refine wlate 7 rfl (by kernel_rfl) (ostore [.bool (ng z9), .slice p9 n9 c9] [.bool (ng z9), .slice p9 n9 c9] Tryz.sizeOf28 hS 9 rfl rfl (ev rfl rfl) (ev (v := .agg #[.bool (ng z9), .slice p9 n9 c9]) rfl rfl) rfl rfl rfl rfl rfl rfl ?_)
      clear hS; intro w34 hS
      refine ⟨heldNil, ?_⟩
      refine wdone rfl ?_
      refine blkN (thenN ?_)
      obtain ⟨hst2, hlt⟩ := Steps3.nextE (by omega) hst (by omega) hz6 hz7 hz8 hz9
      have hln7 : n7 ≤ 2097152 := by rw [(hS.sl 5 rfl).lln]; exact hk7.mono (by omega)
      replace hS := hS.asRd 5 rfl
      exact ⟨z7.natAbs, ⟨_, rb, z7, xb, z9, _, _, _, _, _, _, _, _, _, _, _, _, _, _, brb, ng z7, act_sets (l := [(1, .slice pm nm cm), (2, .slice pb nb cb), (6, .pointer (some ⟨g1, 0, none⟩)), (7, .int .i64 0), (9, .pointer (some ⟨g7, 0, none⟩)), (10, .pointer (some ⟨g9, 0, none⟩)), (11, .pointer (some ⟨g14, 0, none⟩)), (12, .pointer (some ⟨g16, 0, none⟩))]) ⟨rfl, rfl, rfl, rfl, rfl, rfl, rfl, rfl, trivial⟩, hS.pick [11, 5, 7, 9, 10, 0, 12, 13, 14, 15, 16] (by decide) rfl, hst2, rgo_step (by omega) hle hT hz6 hz7 hz8 hz9, rfl, (hkrb).mono (by omega), (hk7).mono (by omega), (hkxb).mono (by omega), hzm.wd.abs hst2.b1, hvrb, hnrb, (by rw [val_lim, zv_ng]), hln7⟩, by omega⟩
  ·
   refine wl rfl (obin (u := .int .i64 s3) (v := .int .i64 0) (z := .bool true) rfl rfl (ev rfl rfl) evc (bin_geq (decide_eq_true (by rw [← hs3.out]; exact cmpN_not_below (by omega)))) ?_)
   refine wnil (thenN ?_)
   refine wT (ev rfl rfl) ?_
   refine wseq (wreg (wl rfl (obuild (ps := #[]) (v := .agg #[.bool false, .slice none 0 0, .bool false, .slice none 0 0]) rfl rfl (parts0) (fun w => by simp [go_sem, Instr.build, Instr.fill]) ?_)))
   refine wl rfl (ostore [.bool false, .slice none 0 0, .bool false, .slice none 0 0] [.bool false, .slice none 0 0, .bool false, .slice none 0 0] Tryz.sizeOf30 hS 2 rfl rfl (ev rfl rfl) (ev (v := .agg #[.bool false, .slice none 0 0, .bool false, .slice none 0 0]) rfl rfl) rfl rfl rfl rfl rfl rfl ?_)
   clear hS; intro w7 hS
   refine wl rfl (oassign (v := .int .i64 1) rfl rfl evc ?_)
   refine wnil (thenN ?_)
   refine wleave ?_
   refine thenR ?_
   have hcode : rce v m b = 1 := rce_1 (by omega)
   refine wret2 Tryz.results16 (tellC (cs := [.bool false, .slice none 0 0, .bool false, .slice none 0 0]) aggR hS 2 rfl rfl rfl rfl) (tellT (v := .int .i64 1) rfl rfl) ?_
   exact ⟨_, _, rfl, .inr ⟨by rw [hcode]; decide, by rw [hcode]; rfl, rfl⟩, hS.new0⟩
 ·
  refine wl rfl (ocall rfl rfl Tryz.call34 rfl (wfmayN (hv.at hS) (hm.at hS) hvm) (args2 (ev rfl rfl) (ev rfl rfl)) ?_)
  rintro _ w3 ⟨_, _, rfl, ⟨rfl, rfl⟩, hN⟩
  refine ⟨_, rfl, ?_⟩
  replace hS := hS.news hN; clear hN
  refine wl rfl (onot (b := false) rfl rfl (ev rfl rfl) ?_)
  refine wnil (thenN ?_)
  refine wT (ev rfl rfl) ?_
  refine wseq (wreg (wl rfl (obuild (ps := #[]) (v := .agg #[.bool false, .slice none 0 0, .bool false, .slice none 0 0]) rfl rfl (parts0) (fun w => by simp [go_sem, Instr.build, Instr.fill]) ?_)))
  refine wl rfl (ostore [.bool false, .slice none 0 0, .bool false, .slice none 0 0] [.bool false, .slice none 0 0, .bool false, .slice none 0 0] Tryz.sizeOf30 hS 0 rfl rfl (ev rfl rfl) (ev (v := .agg #[.bool false, .slice none 0 0, .bool false, .slice none 0 0]) rfl rfl) rfl rfl rfl rfl rfl rfl ?_)
  clear hS; intro w4 hS
  refine wl rfl (oassign (v := .int .i64 1) rfl rfl evc ?_)
  refine wnil (thenN ?_)
  refine wleave ?_
  refine thenR ?_
  have hcode : rce v m b = 1 := rce_1 (by omega)
  refine wret2 Tryz.results16 (tellC (cs := [.bool false, .slice none 0 0, .bool false, .slice none 0 0]) aggR hS 0 rfl rfl rfl rfl) (tellT (v := .int .i64 1) rfl rfl) ?_
  exact ⟨_, _, rfl, .inr ⟨by rw [hcode]; decide, by rw [hcode]; rfl, rfl⟩, hS.new0⟩
end Go.Proofs.YtjbcjlbbipohjaaGreatDoor
