
/-
  CrtFractions: P6.10: a fraction taken modulo a number that is great enough is found again; what is found is so. Condition: what the law reads is of bulk at most 1048576 (the second form). The tables that the row lists read as their initialisers lay them; the card ties them to the program's text.
-/
import Derived.Test.YtjbcjlbbipohjaaGreatDoorCrtFractions
import Derived.Test.YtjbcjlbbipohjaaGreatDoorOP
import Derived.Test.YtjbcjlbbipohjaaGreatDoorLT
import Derived.Test.YtjbcjlbbipohjaaGreatDoorTie
import Derived.Test.YtjbcjlbbipohjaaGreatDoorCards
set_option linter.unusedVariables false
set_option linter.unusedSimpArgs false
namespace Go.Proofs.YtjbcjlbbipohjaaGreatDoor
open Go.ChangeShapes Go.WideShapes Go.ChangeAt Go.RowKit
theorem crtFractions_g0 : Tryz.prog.globalNamed "math/bits.deBruijn32tab" = some 1 := by kernel_rfl
theorem crtFractions_gt0 : (Tryz.prog.globals[1]?).map (·.type) = some 153 := by kernel_rfl
theorem crtFractions_g1 : Tryz.prog.globalNamed "simile/prime.bases" = some 0 := by kernel_rfl
theorem crtFractions_gt1 : (Tryz.prog.globals[0]?).map (·.type) = some 143 := by kernel_rfl
theorem crtFractions_ca0 : Tryz.prog.cellsOf 153 = 32 := by kernel_rfl
theorem crtFractions_ce0 : Tryz.prog.cellsOf 5 = 1 := by kernel_rfl
theorem crtFractions_ca1 : Tryz.prog.cellsOf 143 = 3 := by kernel_rfl
theorem crtFractions_ce1 : Tryz.prog.cellsOf 40 = 1 := by kernel_rfl
theorem crtFractions_tab_of {W : World} (h : laidMetH Tryz.prog Rows.crtFractionsUptoRow.laid W) : Tab W :=
  tab_of (fun k hk => (Lib.tabIs_of_head (k := .u8) (zs := [0,1,28,2,29,14,24,3,30,22,20,15,25,17,4,8,31,27,13,23,21,19,16,7,26,12,18,6,11,5,10,9]) (rest := _) crtFractions_g0 crtFractions_gt0 Tryz.underlying153 Tryz.underlying5 crtFractions_ce0 crtFractions_ca0 h).cell crtFractions_g0 k hk)
theorem crtFractions_bases_of {W : World} (h : laidMetH Tryz.prog Rows.crtFractionsUptoRow.laid W) : Bases W :=
  bases_of (fun k hk => (Lib.tabIs_of_head (k := .u32) (zs := [2,7,61]) (rest := []) crtFractions_g1 crtFractions_gt1 Tryz.underlying143 Tryz.underlying40 crtFractions_ce1 crtFractions_ca1 (laidMetH.filter (fun x => x.1 == "simile/prime.bases") h)).cell crtFractions_g1 k hk)
noncomputable def crtFractions_world (os : Os) : World :=
  { World.holding Tryz.prog os ⟨#[], #[],[]⟩ with heap := (((World.holding Tryz.prog os ⟨#[], #[],[]⟩).heap.modify 1 (fun | .cells _ t frozen => .cells #[.int .u8 0,.int .u8 1,.int .u8 28,.int .u8 2,.int .u8 29,.int .u8 14,.int .u8 24,.int .u8 3,.int .u8 30,.int .u8 22,.int .u8 20,.int .u8 15,.int .u8 25,.int .u8 17,.int .u8 4,.int .u8 8,.int .u8 31,.int .u8 27,.int .u8 13,.int .u8 23,.int .u8 21,.int .u8 19,.int .u8 16,.int .u8 7,.int .u8 26,.int .u8 12,.int .u8 18,.int .u8 6,.int .u8 11,.int .u8 5,.int .u8 10,.int .u8 9] t frozen | o => o)).modify 0 (fun | .cells _ t frozen => .cells #[.int .u32 2,.int .u32 7,.int .u32 61] t frozen | o => o)) }
set_option maxRecDepth 100000 in
theorem crtFractions_met (os : Os) : laidMet Tryz.prog Rows.crtFractionsUptoRow.laid ((crtFractions_world os).forCall (fun _ _ => 0) ⟨#[], #[.agg #[.bool false,.slice none 0 0,.bool false,.slice none 0 0],.slice none 0 0,.int .u32 0],[]⟩).memory :=
  laidMet_of_run' 8 (by kernel_rfl) (by kernel_rfl)
theorem crtFractions_reads (os : Os) {H : Type} (enc : TypeId × Value → H) : ∃ places,DataW.whole enc Tryz.prog ((crtFractions_world os).forCall (fun _ _ => 0) ⟨#[], #[.agg #[.bool false,.slice none 0 0,.bool false,.slice none 0 0],.slice none 0 0,.int .u32 0],[]⟩).memory Tryz.f6.params.toList Rows.crtFractionsSpec.vars false (#[.agg #[.bool false,.slice none 0 0,.bool false,.slice none 0 0],.slice none 0 0,.int .u32 0] : Array Value).toList 8 = some ([.agg [.agg [.lit (.bool false),.nil],.agg [.lit (.bool false),.nil]],.nil,.lit (.int .u32 0)],[],places) :=
  ⟨[],by kernel_rfl⟩
set_option maxRecDepth 100000 in
theorem crtFractions_lifted (os : Os) (started : os.Started) (H : Type) (enc : TypeId × Value → H) (F : Stop.Interp) :
  ReturnsInHanded {} Tryz.checked os 6 .any ((Rows.OpenSpec.upto Rows.crtFractionsSpec).preRow enc Tryz.prog Tryz.f6 Rows.crtFractionsUptoRow.domain false Rows.crtFractionsUptoRow.laid) (((Rows.OpenSpec.upto Rows.crtFractionsSpec).at F).post enc Tryz.prog Tryz.f6 false true false false) := by
 obtain ⟨places,hx⟩ := crtFractions_reads os enc
 refine returnsInHanded_of_row (C := Tryz.checked) (s := (Rows.OpenSpec.upto Rows.crtFractionsSpec)) own_knob started (by kernel_rfl) Tryz.func6
  (witness_row_at (enc := enc) (C := Tryz.checked) false (crtFractions_world os) #[.agg #[.bool false,.slice none 0 0,.bool false,.slice none 0 0],.slice none 0 0,.int .u32 0] rfl (by kernel_rfl) (by kernel_rfl) (by kernel_rfl)
   (OpenSpec.preRow_of_cond 8 hx (by kernel_rfl) (fun k hk => by cases hk; kernel_rfl) (by kernel_rfl) (crtFractions_met os))) ?_
 intro W base args ds gs before hval hW _ hcond _ hL _ _
 have hW' := hW
 obtain ⟨p,q,hA0,hV,hpq,hfz,hnd⟩ := hW
 have hA : DataW.TrodAll enc Tryz.prog W 0 (fun _ => true) true Tryz.f6.params.toList args.toList ds p := hA0
 rw [Tryz.params6] at hA hval
 obtain ⟨v0,v1,v2,d0,d1,d2,p0,p1,p2,rfl,rfl,rfl,h0,h1,h2⟩ := trodAll_three hA
 obtain ⟨rfl,rfl⟩ := trodVars_none hV
 have hbd := bulk_bound (hcond _ rfl)
 simp only [Rows.uptoBulkAll,List.append_nil] at hbd
 obtain ⟨ba0,pa0,na0,ca0,la0,bb0,pb0,nb0,cb0,lb0,rfl,hx0,hy0,hb0⟩ := open_rat (hval 0 _ _ rfl rfl) h0
 obtain ⟨pp1,n1,c1,xs1,rfl,hx1,hb1⟩ := open_u32s (hval 1 _ _ rfl rfl) h1
 obtain ⟨s2,rfl,rfl,rfl,ws2⟩ := open_int Tryz.underlying40 (hval 2 _ _ rfl rfl) h2
 refine (crtFractions_walk hx0 hy0 hx1 (crtFractions_tab_of hL) (crtFractions_bases_of hL) (by omega) (by omega) (bounds_u32 ws2)).mono fun e W' ⟨he,hb⟩ => ?_
 subst he
 exact ⟨_,rfl,law_post rfl Tryz.underlying4 (by kernel_rfl) (by rw [Tryz.params6]; intro t ht; simp at ht; rcases ht with rfl | rfl | rfl <;> exact ⟨by kernel_rfl,of_decide_eq_true (by kernel_rfl)⟩) ⟨rfl,rfl,rfl⟩ hW' hb⟩
theorem crtFractions_said : Rows.CrtFractionsUptoSaid :=
 OpenClaim.holds_of_cond 6 Tryz.f6 rfl rfl rfl rfl rfl rfl rfl ⟨rfl,rfl,rfl,rfl,rfl⟩ rfl rfl rfl rfl rfl (by kernel_rfl) Tryz.func6 (by kernel_rfl)
  (of_decide_eq_true (by kernel_rfl)) (by unfold Func.isWrapper; first | (rw [if_pos (by decide +kernel)]; kernel_rfl) | (rw [if_neg (by decide +kernel)]; exact ⟨rfl,rfl⟩))
  (fun os started H enc _ F => by rw [OpenClaim.pre_eq_preRow]; exact crtFractions_lifted os started H enc F)
theorem crtFractions_plain (f : FuncId) (fn : Func) (hf : Tryz.pinned.checked.prog.funcNamed "simile/similelaw06.CrtFractions" = some f) (hfn : Tryz.pinned.checked.prog.funcs[f]? = some fn) :
  true = Tryz.pinned.checked.prog.looks [] ∧ ∀ (j : Nat) t,fn.params[j]? = some t → Tryz.pinned.checked.prog.wantsStandIn t = false := by
 obtain rfl : f = 6 := Option.some.inj ((show Tryz.prog.funcNamed "simile/similelaw06.CrtFractions" = some 6 by kernel_rfl).symm.trans hf) |>.symm
 obtain rfl : fn = Tryz.f6 := (Option.some.inj (Tryz.func6.symm.trans hfn)).symm
 refine ⟨by kernel_rfl,fun j t ht => ?_⟩
 rw [Tryz.params6] at ht
 have ht := Array.mem_of_getElem? ht
 simp at ht
 rcases ht with rfl | rfl | rfl
 all_goals exact (show Tryz.prog.wantsStandIn _ = false by kernel_rfl)
theorem crtFractions_holds : Rows.CrtFractionsUptoCardSaid :=
  Claim7.holds_tied_plain_at .later [] _ _ _ _ crtFractions_said (fun _ h => by cases h) (by kernel_rfl) (fun _ h => by cases h) crtFractionsUpto_row_tie rfl ⟨rfl,rfl⟩ (by kernel_rfl) rfl crtFractions_plain (by kernel_rfl)
end Go.Proofs.YtjbcjlbbipohjaaGreatDoor
