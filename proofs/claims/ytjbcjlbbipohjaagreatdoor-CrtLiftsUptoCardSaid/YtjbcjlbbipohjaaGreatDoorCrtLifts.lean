
/-
  The walk of similelaw06.CrtLifts.
-/
import Derived.Test.YtjbcjlbbipohjaaGreatDoorCrt4
import Derived.Test.YtjbcjlbbipohjaaGreatDoorLT
set_option linter.unusedVariables false
set_option linter.unusedSimpArgs false
set_option maxRecDepth 100000
set_option maxHeartbeats 16000000
namespace Go.Proofs.YtjbcjlbbipohjaaGreatDoor
open Go.RowKit

theorem crtLifts_walk0 {pv pm : Option Addr} {nv cv nm cm v m : Nat} {w : World} (ht : Tb w) (hv : Nr w pv nv cv v 1073741824) (hm : Nr w pm nm cm m 1073741824)  :
  Calls Tryz.prog 7 #[.slice pv nv cv, .slice pm nm cm] w (Ret (Is (.bool true)) w) := by
 obtain ⟨z, hz⟩ : ∃ z : Int, Hid (slift v m = z) := ⟨_, rfl⟩
 have hS := Sep.init w
 refine went Tryz.func7 rfl (n := 47) rfl rfl ?_
 refine wseq ?_
 refine wreg ?_
 refine wl rfl (oassign (v := .bool false) rfl rfl evc ?_)
 refine wnil ?_
 refine thenN ?_
 refine wseq ?_
 refine wreg ?_
 refine wl rfl (omove (v := .slice pv nv cv) rfl rfl (ev rfl rfl) ?_)
 refine wl rfl (omove (v := .slice pm nm cm) rfl rfl (ev rfl rfl) ?_)
 by_cases hlt : v < m
 ·
  refine wl rfl (ocall rfl rfl Tryz.call33 rfl (wclift (hv.at hS) (hm.at hS) hz hlt) (args2 (ev rfl rfl) (ev rfl rfl)) ?_)
  rintro _ w1 ⟨_, _, rfl, ⟨pZ, nZ, cZ, rfl, rfl⟩, hN⟩
  refine ⟨_, rfl, ?_⟩
  replace hS := hS.news hN; clear hN
  refine wl rfl (omove (v := .tuple #[.agg #[.bool (ng z), .slice pZ nZ cZ], .int .i64 0]) rfl rfl (ev rfl rfl) ?_)
  refine wl rfl (oextract (vs := [.agg #[.bool (ng z), .slice pZ nZ cZ], .int .i64 0]) (v := .agg #[.bool (ng z), .slice pZ nZ cZ]) rfl rfl (ev rfl rfl) rfl ?_)
  refine wl rfl (oextract (vs := [.agg #[.bool (ng z), .slice pZ nZ cZ], .int .i64 0]) (v := .int .i64 0) rfl rfl (ev rfl rfl) rfl ?_)
  refine wl rfl (oalloc [.bool false, .slice none 0 0] hS rfl rfl Tryz.zeroValue28 rfl ?_)
  clear hS; intro g2 w3 hS
  refine wl rfl (ostore [.bool (ng z), .slice pZ nZ cZ] [.bool (ng z), .slice pZ nZ cZ] Tryz.sizeOf28 hS 0 rfl rfl (ev rfl rfl) (ev (v := .agg #[.bool (ng z), .slice pZ nZ cZ]) rfl rfl) rfl rfl rfl rfl rfl rfl ?_)
  clear hS; intro w4 hS
  refine wl rfl (oassign (v := .int .i64 0) rfl rfl (ev rfl rfl) ?_)
  refine wnil ?_
  refine thenN ?_
  refine wseq ?_
  refine wseq ?_
  refine wreg ?_
  refine wl rfl (omove (v := .slice pv nv cv) rfl rfl (ev rfl rfl) ?_)
  refine wl rfl (omove (v := .slice pm nm cm) rfl rfl (ev rfl rfl) ?_)
  refine wl rfl (ocall rfl rfl Tryz.call34 rfl (wfmay (hv.at hS) (hm.at hS) hlt) (args2 (ev rfl rfl) (ev rfl rfl)) ?_)
  rintro _ w5 ⟨_, _, rfl, ⟨rfl, rfl⟩, hN⟩
  refine ⟨_, rfl, ?_⟩
  replace hS := hS.news hN; clear hN
  refine wl rfl (onot (b := true) rfl rfl (ev rfl rfl) ?_)
  refine wnil ?_
  refine thenN ?_
  refine wF (ev rfl rfl) ?_
  refine wskip ?_
  refine thenN ?_
  refine wseq ?_
  refine wstage 14 [34, 35, 36, 37, 38, 39, 40, 41, 42, 43, 44, 45, 46, 4] [[], [0], [1, 0], [2, 0, 1], [3, 0, 1, 2], [3, 0, 1, 2], [3, 0, 1, 2], [3, 5, 6, 0, 1, 2], [3, 4, 7, 0, 1, 2, 5, 6], [3, 8, 0, 1, 2, 4, 5, 6, 7], [9, 0, 1, 2, 3, 4, 5, 6, 7, 8], [10, 0, 1, 2, 3, 4, 5, 6, 7, 8, 9], [10, 11, 0, 1, 2, 3, 4, 5, 6, 7, 8, 9], [12, 0, 1, 2, 3, 4, 5, 6, 7, 8, 9, 10, 11]] [[], [], [], [], [], [], [], [], [], [], [], [], [], []] [] [] (fun i9 => ([fun _ => Is (.int .i64 0), fun _ => Is (.int .i64 0), fun _ => Is (.bool true), fun _ => Is (.bool true), fun _ => Is (.agg #[.bool (ng z), .slice pZ nZ cZ]), fun _ => Is (.slice pv nv cv), fun _ => Is (.slice pm nm cm), fun _ => Zt z, fun _ => Is (.bool true), fun _ => Is (.bool true), fun _ => Is (.bool true), fun _ => Is (.bool true), fun _ => Is (.bool true), fun _ => Is (.bool true)] : List (List Value → Tell)).getD i9 (fun _ _ _ => False)) (heldNil) (fun d _ _ _ _ h => (by cases d <;> exact h)) (by kernel_rfl) (by kernel_rfl) (by kernel_rfl) hS ?_ ?_
  ·
   refine stepsCons rfl (fun Q f' w' ρ S ho hT hS hB => ?_) ?_
   ·exact .inl ⟨want_none rfl, omove (v := .int .i64 0) rfl rfl (ev rfl (ho 6 rfl)) ⟨_, _, rfl, isI, New.same _⟩⟩
   refine stepsCons rfl (fun Q f' w' ρ S ho hT hS hB => ?_) ?_
   ·obtain ⟨hv0, hr0⟩ := (hT 0 34 rfl rfl : (Is (.int .i64 0)) _ _)
    obtain hS := hS.flat1 hr0
    exact .inl ⟨want_none rfl, ocall rfl rfl Tryz.call13 rfl (wlnum6) (args1 (ev rfl hv0)) callN⟩
   refine stepsCons rfl (fun Q f' w' ρ S ho hT hS hB => ?_) ?_
   ·obtain ⟨hv1, hr1⟩ := (hT 1 35 rfl rfl : (Is (.int .i64 0)) _ _)
    obtain hS := hS.flat1 hr1
    exact .inl ⟨want_none rfl, obin (u := .int .i64 0) (v := .int .i64 0) (z := .bool true) rfl rfl (ev rfl hv1) evc (bin_eql (by decide)) ⟨_, _, rfl, isI, New.same _⟩⟩
   refine stepsCons rfl (fun Q f' w' ρ S ho hT hS hB => ?_) ?_
   ·obtain ⟨hv2, hr2⟩ := (hT 2 36 rfl rfl : (Is (.bool true)) _ _)
    obtain hS := hS.flat1 hr2
    exact .inl ⟨want_none rfl, omove (v := .bool true) rfl rfl (ev rfl hv2) ⟨_, _, rfl, isI, New.same _⟩⟩
   refine stepsCons rfl (fun Q f' w' ρ S ho hT hS hB => ?_) ?_
   ·obtain ⟨hv3, hr3⟩ := (hT 3 37 rfl rfl : (Is (.bool true)) _ _)
    obtain hS := hS.flat1 hr3
    exact .inl ⟨want_on (e := 37) rfl rfl rfl hv3, oload (vs := [.bool (ng z), .slice pZ nZ cZ]) aggZ hS 0 rfl rfl (ev rfl (ho 5 rfl)) rfl rfl rfl ⟨_, _, rfl, isI, New.same _⟩⟩
   refine stepsCons rfl (fun Q f' w' ρ S ho hT hS hB => ?_) ?_
   ·obtain ⟨hv3, hr3⟩ := (hT 3 37 rfl rfl : (Is (.bool true)) _ _)
    obtain hS := hS.flat1 hr3
    exact .inl ⟨want_on (e := 37) rfl rfl rfl hv3, omove (v := .slice pv nv cv) rfl rfl (ev rfl (ho 0 rfl)) ⟨_, _, rfl, isI, New.same _⟩⟩
   refine stepsCons rfl (fun Q f' w' ρ S ho hT hS hB => ?_) ?_
   ·obtain ⟨hv3, hr3⟩ := (hT 3 37 rfl rfl : (Is (.bool true)) _ _)
    obtain hS := hS.flat1 hr3
    exact .inl ⟨want_on (e := 37) rfl rfl rfl hv3, omove (v := .slice pm nm cm) rfl rfl (ev rfl (ho 1 rfl)) ⟨_, _, rfl, isI, New.same _⟩⟩
   refine stepsCons rfl (fun Q f' w' ρ S ho hT hS hB => ?_) ?_
   ·obtain ⟨hv3, hr3⟩ := (hT 3 37 rfl rfl : (Is (.bool true)) _ _)
    obtain ⟨hv5, hr5⟩ := (hT 5 39 rfl rfl : (Is (.slice pv nv cv)) _ _)
    obtain ⟨hv6, hr6⟩ := (hT 6 40 rfl rfl : (Is (.slice pm nm cm)) _ _)
    obtain hS := hS.flat3 hr3 hr5 hr6
    exact .inl ⟨want_on (e := 37) rfl rfl rfl hv3, ocall rfl rfl Tryz.call36 rfl (wflift (hv.at hS) (hm.at hS) hz) (args2 (ev rfl hv5) (ev rfl hv6)) callN⟩
   refine stepsCons rfl (fun Q f' w' ρ S ho hT hS hB => ?_) ?_
   ·obtain ⟨hv3, hr3⟩ := (hT 3 37 rfl rfl : (Is (.bool true)) _ _)
    obtain ⟨hv4, hr4⟩ := (hT 4 38 rfl rfl : (Is (.agg #[.bool (ng z), .slice pZ nZ cZ])) _ _)
    obtain ⟨pY, nY, cY, hv7, hr7⟩ := (hT 7 41 rfl rfl : (Zt z) _ _)
    obtain hS := hS.flat3 hr3 hr4 hr7
    exact .inl ⟨want_on (e := 37) rfl rfl rfl hv3, ocall rfl rfl Tryz.call35 rfl (wqsame (x := z) (y := z) (hS.sl 1 rfl) (hS.sl 2 rfl) (rfl)) (args2 (ev rfl hv4) (ev rfl hv7)) callN⟩
   refine stepsCons rfl (fun Q f' w' ρ S ho hT hS hB => ?_) ?_
   ·obtain ⟨hv3, hr3⟩ := (hT 3 37 rfl rfl : (Is (.bool true)) _ _)
    obtain ⟨hv8, hr8⟩ := (hT 8 42 rfl rfl : (Is (.bool true)) _ _)
    obtain hS := hS.flat2 hr3 hr8
    exact .inl ⟨want_none rfl, opick (b := true) (v := .bool true) rfl rfl (ev rfl hv3) (ev rfl hv8) ⟨_, _, rfl, isI, New.same _⟩⟩
   refine stepsCons rfl (fun Q f' w' ρ S ho hT hS hB => ?_) ?_
   ·obtain ⟨hv9, hr9⟩ := (hT 9 43 rfl rfl : (Is (.bool true)) _ _)
    obtain hS := hS.flat1 hr9
    exact .inl ⟨want_none rfl, omove (v := .bool true) rfl rfl (ev rfl hv9) ⟨_, _, rfl, isI, New.same _⟩⟩
   refine stepsCons rfl (fun Q f' w' ρ S ho hT hS hB => ?_) ?_
   ·obtain ⟨hv10, hr10⟩ := (hT 10 44 rfl rfl : (Is (.bool true)) _ _)
    obtain hS := hS.flat1 hr10
    exact .inl ⟨want_on (e := 44) rfl rfl rfl hv10, ocall rfl rfl Tryz.call14 rfl (wlawake6 (ht.at hS)) (args0 ) callN⟩
   refine stepsCons rfl (fun Q f' w' ρ S ho hT hS hB => ?_) ?_
   ·obtain ⟨hv10, hr10⟩ := (hT 10 44 rfl rfl : (Is (.bool true)) _ _)
    obtain ⟨hv11, hr11⟩ := (hT 11 45 rfl rfl : (Is (.bool true)) _ _)
    obtain hS := hS.flat2 hr10 hr11
    exact .inl ⟨want_none rfl, opick (b := true) (v := .bool true) rfl rfl (ev rfl hv10) (ev rfl hv11) ⟨_, _, rfl, isI, New.same _⟩⟩
   refine stepsCons rfl (fun Q f' w' ρ S ho hT hS hB => ?_) ?_
   ·obtain ⟨hv12, hr12⟩ := (hT 12 46 rfl rfl : (Is (.bool true)) _ _)
    obtain hS := hS.flat1 hr12
    exact .inl ⟨want_none rfl, oassign (v := .bool true) rfl rfl (ev rfl hv12) ⟨_, _, rfl, isI, New.same _⟩⟩
   exact stepsNil
  ·
   intro vs ρ w6 f' hf hT hS
   obtain ⟨hv0, hr0⟩ := (hT 0 (by decide) : (Is (.int .i64 0)) _ _)
   obtain ⟨hv1, hr1⟩ := (hT 1 (by decide) : (Is (.int .i64 0)) _ _)
   obtain ⟨hv2, hr2⟩ := (hT 2 (by decide) : (Is (.bool true)) _ _)
   obtain ⟨hv3, hr3⟩ := (hT 3 (by decide) : (Is (.bool true)) _ _)
   obtain ⟨hv4, hr4⟩ := (hT 4 (by decide) : (Is (.agg #[.bool (ng z), .slice pZ nZ cZ])) _ _)
   obtain ⟨hv5, hr5⟩ := (hT 5 (by decide) : (Is (.slice pv nv cv)) _ _)
   obtain ⟨hv6, hr6⟩ := (hT 6 (by decide) : (Is (.slice pm nm cm)) _ _)
   obtain ⟨pY, nY, cY, hv7, hr7⟩ := (hT 7 (by decide) : (Zt z) _ _)
   obtain ⟨hv8, hr8⟩ := (hT 8 (by decide) : (Is (.bool true)) _ _)
   obtain ⟨hv9, hr9⟩ := (hT 9 (by decide) : (Is (.bool true)) _ _)
   obtain ⟨hv10, hr10⟩ := (hT 10 (by decide) : (Is (.bool true)) _ _)
   obtain ⟨hv11, hr11⟩ := (hT 11 (by decide) : (Is (.bool true)) _ _)
   obtain ⟨hv12, hr12⟩ := (hT 12 (by decide) : (Is (.bool true)) _ _)
   obtain ⟨hv13, hr13⟩ := (hT 13 (by decide) : (Is (.bool true)) _ _)
   simp only [pool, if_true, hr0, hr1, hr2, hr3, hr4, hr5, hr6, hr7, hr8, hr9, hr10, hr11, hr12, hr13, List.nil_append, List.cons_append, List.append_nil] at hS
   simp only [layf, hv0, hv1, hv2, hv3, hv4, hv5, hv6, hv7, hv8, hv9, hv10, hv11, hv12, hv13] at hf
   subst hf; clear hT hv0 hv1 hv2 hv3 hv4 hv5 hv6 hv7 hv8 hv9 hv10 hv11 hv12 hv13 hr0 hr1 hr2 hr3 hr4 hr5 hr6 hr7 hr8 hr9 hr10 hr11 hr12 hr13
   refine wdone rfl ?_
   refine thenN ?_
   refine wleave ?_
   refine wret1 Tryz.results7 (tellT (v := .bool true) rfl rfl) ?_
   exact ⟨_, _, rfl, isI, hS.new0⟩
 ·
  refine wl rfl (ocall rfl rfl Tryz.call33 rfl (wcliftE (hv.at hS) (hm.at hS) hlt) (args2 (ev rfl rfl) (ev rfl rfl)) ?_)
  rintro _ w1 ⟨_, _, rfl, ⟨rfl, rfl⟩, hN⟩
  refine ⟨_, rfl, ?_⟩
  replace hS := hS.news hN; clear hN
  refine wl rfl (omove (v := .tuple #[.agg #[.bool false, .slice none 0 0], .int .i64 1]) rfl rfl (ev rfl rfl) ?_)
  refine wl rfl (oextract (vs := [.agg #[.bool false, .slice none 0 0], .int .i64 1]) (v := .agg #[.bool false, .slice none 0 0]) rfl rfl (ev rfl rfl) rfl ?_)
  refine wl rfl (oextract (vs := [.agg #[.bool false, .slice none 0 0], .int .i64 1]) (v := .int .i64 1) rfl rfl (ev rfl rfl) rfl ?_)
  refine wl rfl (oalloc [.bool false, .slice none 0 0] hS rfl rfl Tryz.zeroValue28 rfl ?_)
  clear hS; intro g2 w3 hS
  refine wl rfl (ostore [.bool false, .slice none 0 0] [.bool false, .slice none 0 0] Tryz.sizeOf28 hS 0 rfl rfl (ev rfl rfl) (ev (v := .agg #[.bool false, .slice none 0 0]) rfl rfl) rfl rfl rfl rfl rfl rfl ?_)
  clear hS; intro w4 hS
  refine wl rfl (oassign (v := .int .i64 1) rfl rfl (ev rfl rfl) ?_)
  refine wnil ?_
  refine thenN ?_
  refine wseq ?_
  refine wseq ?_
  refine wreg ?_
  refine wl rfl (omove (v := .slice pv nv cv) rfl rfl (ev rfl rfl) ?_)
  refine wl rfl (omove (v := .slice pm nm cm) rfl rfl (ev rfl rfl) ?_)
  refine wl rfl (ocall rfl rfl Tryz.call34 rfl (wfmayN (hv.at hS) (hm.at hS) hlt) (args2 (ev rfl rfl) (ev rfl rfl)) ?_)
  rintro _ w5 ⟨_, _, rfl, ⟨rfl, rfl⟩, hN⟩
  refine ⟨_, rfl, ?_⟩
  replace hS := hS.news hN; clear hN
  refine wl rfl (onot (b := false) rfl rfl (ev rfl rfl) ?_)
  refine wnil ?_
  refine thenN ?_
  refine wT (ev rfl rfl) ?_
  refine wseq ?_
  refine wreg ?_
  refine wl rfl (omove (v := .int .i64 1) rfl rfl (ev rfl rfl) ?_)
  refine wl rfl (ocall rfl rfl Tryz.call13 rfl (wlnum6) (args1 (ev rfl rfl)) ?_)
  rintro _ w6 ⟨_, _, rfl, ⟨rfl, rfl⟩, hN⟩
  refine ⟨_, rfl, ?_⟩
  replace hS := hS.news hN; clear hN
  refine wl rfl (obin (u := .int .i64 1) (v := .int .i64 1) (z := .bool true) rfl rfl (ev rfl rfl) evc (bin_eql (by decide)) ?_)
  refine wl rfl (omove (v := .bool true) rfl rfl (ev rfl rfl) ?_)
  refine wlOn (e := 20) rfl rfl rfl rfl (ofieldAddr (g := g2) (off := 0) 0 rfl rfl (ev rfl rfl) Tryz.runUnderlying28 rfl Tryz.sizeOf4 rfl ?_)
  refine wlOn (e := 20) rfl rfl rfl rfl (oload1 (v := .bool false) oneB hS 0 rfl rfl (ev rfl rfl) rfl rfl ?_)
  refine wlOn (e := 20) rfl rfl rfl rfl (onot (b := false) rfl rfl (ev rfl rfl) ?_)
  refine wl rfl (opick (b := true) (v := .bool true) rfl rfl (ev rfl rfl) (ev rfl rfl) ?_)
  refine wl rfl (omove (v := .bool true) rfl rfl (ev rfl rfl) ?_)
  refine wlOn (e := 25) rfl rfl rfl rfl (ofieldAddr (g := g2) (off := 0) 1 rfl rfl (ev rfl rfl) Tryz.runUnderlying28 rfl Tryz.sizeOf26 rfl ?_)
  refine wlOn (e := 25) rfl rfl rfl rfl (oload1 (v := .slice none 0 0) oneN hS 0 rfl rfl (ev rfl rfl) rfl rfl ?_)
  refine wlOn (e := 25) rfl rfl rfl rfl (olen rfl rfl rfl Tryz.runUnderlying26 (p := none) (k := 0) (m := 0) (ev rfl rfl) ?_)
  refine wlOn (e := 25) rfl rfl rfl rfl (obin (u := .int .i64 (((0 : Nat) : Int))) (v := .int .i64 0) (z := .bool true) rfl rfl (ev rfl rfl) evc (bin_eql (eqT (by omega))) ?_)
  refine wl rfl (opick (b := true) (v := .bool true) rfl rfl (ev rfl rfl) (ev rfl rfl) ?_)
  refine wl rfl (omove (v := .bool true) rfl rfl (ev rfl rfl) ?_)
  refine wlOn (e := 31) rfl rfl rfl rfl (ocall rfl rfl Tryz.call14 rfl (wlawake6 (ht.at hS)) (args0 ) ?_)
  rintro _ w7 ⟨_, _, rfl, ⟨rfl, rfl⟩, hN⟩
  refine ⟨_, rfl, ?_⟩
  replace hS := hS.news hN; clear hN
  refine wl rfl (opick (b := true) (v := .bool true) rfl rfl (ev rfl rfl) (ev rfl rfl) ?_)
  refine wl rfl (oassign (v := .bool true) rfl rfl (ev rfl rfl) ?_)
  refine wnil ?_
  refine thenN ?_
  refine wleave ?_
  refine thenR ?_
  refine wret1 Tryz.results7 (tellT (v := .bool true) rfl rfl) ?_
  exact ⟨_, _, rfl, isI, hS.new0⟩

theorem crtLifts_walk {pv pm : Option Addr} {nv cv nm cm : Nat} {xv xm : List Nat} {w : World} (hxv : Sl w pv nv cv xv) (hxm : Sl w pm nm cm xm) (h1 : Tab w) (h2 : Bases w) (b1 : nv ≤ 1073741824) (b2 : nm ≤ 1073741824) : Calls Tryz.prog 7 #[.slice pv nv cv, .slice pm nm cm] w (RetB w true) := Ret.bool (crtLifts_walk0 ⟨h1, h2⟩ ⟨xv, hxv, rfl, b1⟩ ⟨xm, hxm, rfl, b2⟩)
end Go.Proofs.YtjbcjlbbipohjaaGreatDoor
