
/-
  CrtJoins: P6.6: any two values, each modulo its number. Condition: what the law reads is of bulk at most 1048576 (the second form). The tables that the row lists read as their initialisers lay them; the card ties them to the program's text.
-/
import Derived.Test.YtjbcjlbbipohjaaGreatDoorCrtJoins
import Derived.Test.YtjbcjlbbipohjaaGreatDoorOP
import Derived.Test.YtjbcjlbbipohjaaGreatDoorLT
import Derived.Test.YtjbcjlbbipohjaaGreatDoorTie
import Derived.Test.YtjbcjlbbipohjaaGreatDoorCards
set_option linter.unusedVariables false
set_option linter.unusedSimpArgs false
namespace Go.Proofs.YtjbcjlbbipohjaaGreatDoor
open Go.ChangeShapes Go.WideShapes Go.ChangeAt Go.RowKit
theorem crtJoins_g0 : Tryz.prog.globalNamed "math/bits.deBruijn32tab" = some 1 := by kernel_rfl
theorem crtJoins_gt0 : (Tryz.prog.globals[1]?).map (·.type) = some 153 := by kernel_rfl
theorem crtJoins_g1 : Tryz.prog.globalNamed "simile/prime.bases" = some 0 := by kernel_rfl
theorem crtJoins_gt1 : (Tryz.prog.globals[0]?).map (·.type) = some 143 := by kernel_rfl
theorem crtJoins_ca0 : Tryz.prog.cellsOf 153 = 32 := by kernel_rfl
theorem crtJoins_ce0 : Tryz.prog.cellsOf 5 = 1 := by kernel_rfl
theorem crtJoins_ca1 : Tryz.prog.cellsOf 143 = 3 := by kernel_rfl
theorem crtJoins_ce1 : Tryz.prog.cellsOf 40 = 1 := by kernel_rfl
theorem crtJoins_tab_of {W : World} (h : laidMetH Tryz.prog Rows.crtJoinsUptoRow.laid W) : Tab W :=
  tab_of (fun k hk => (Lib.tabIs_of_head (k := .u8) (zs := [0,1,28,2,29,14,24,3,30,22,20,15,25,17,4,8,31,27,13,23,21,19,16,7,26,12,18,6,11,5,10,9]) (rest := _) crtJoins_g0 crtJoins_gt0 Tryz.underlying153 Tryz.underlying5 crtJoins_ce0 crtJoins_ca0 h).cell crtJoins_g0 k hk)
theorem crtJoins_bases_of {W : World} (h : laidMetH Tryz.prog Rows.crtJoinsUptoRow.laid W) : Bases W :=
  bases_of (fun k hk => (Lib.tabIs_of_head (k := .u32) (zs := [2,7,61]) (rest := []) crtJoins_g1 crtJoins_gt1 Tryz.underlying143 Tryz.underlying40 crtJoins_ce1 crtJoins_ca1 (laidMetH.filter (fun x => x.1 == "simile/prime.bases") h)).cell crtJoins_g1 k hk)
noncomputable def crtJoins_world (os : Os) : World :=
  { World.holding Tryz.prog os ⟨#[], #[],[]⟩ with heap := (((World.holding Tryz.prog os ⟨#[], #[],[]⟩).heap.modify 1 (fun | .cells _ t frozen => .cells #[.int .u8 0,.int .u8 1,.int .u8 28,.int .u8 2,.int .u8 29,.int .u8 14,.int .u8 24,.int .u8 3,.int .u8 30,.int .u8 22,.int .u8 20,.int .u8 15,.int .u8 25,.int .u8 17,.int .u8 4,.int .u8 8,.int .u8 31,.int .u8 27,.int .u8 13,.int .u8 23,.int .u8 21,.int .u8 19,.int .u8 16,.int .u8 7,.int .u8 26,.int .u8 12,.int .u8 18,.int .u8 6,.int .u8 11,.int .u8 5,.int .u8 10,.int .u8 9] t frozen | o => o)).modify 0 (fun | .cells _ t frozen => .cells #[.int .u32 2,.int .u32 7,.int .u32 61] t frozen | o => o)) }
set_option maxRecDepth 100000 in
theorem crtJoins_met (os : Os) : laidMet Tryz.prog Rows.crtJoinsUptoRow.laid ((crtJoins_world os).forCall (fun _ _ => 0) ⟨#[], #[.agg #[.bool false,.slice none 0 0,.bool false,.slice none 0 0],.agg #[.bool false,.slice none 0 0,.bool false,.slice none 0 0]],[]⟩).memory :=
  laidMet_of_run' 8 (by kernel_rfl) (by kernel_rfl)
theorem crtJoins_reads (os : Os) {H : Type} (enc : TypeId × Value → H) : ∃ places,DataW.whole enc Tryz.prog ((crtJoins_world os).forCall (fun _ _ => 0) ⟨#[], #[.agg #[.bool false,.slice none 0 0,.bool false,.slice none 0 0],.agg #[.bool false,.slice none 0 0,.bool false,.slice none 0 0]],[]⟩).memory Tryz.f10.params.toList Rows.crtJoinsSpec.vars false (#[.agg #[.bool false,.slice none 0 0,.bool false,.slice none 0 0],.agg #[.bool false,.slice none 0 0,.bool false,.slice none 0 0]] : Array Value).toList 8 = some ([.agg [.agg [.lit (.bool false),.nil],.agg [.lit (.bool false),.nil]],.agg [.agg [.lit (.bool false),.nil],.agg [.lit (.bool false),.nil]]],[],places) :=
  ⟨[],by kernel_rfl⟩
set_option maxRecDepth 100000 in
theorem crtJoins_lifted (os : Os) (started : os.Started) (H : Type) (enc : TypeId × Value → H) (F : Stop.Interp) :
  ReturnsInHanded {} Tryz.checked os 10 .any ((Rows.OpenSpec.upto Rows.crtJoinsSpec).preRow enc Tryz.prog Tryz.f10 Rows.crtJoinsUptoRow.domain false Rows.crtJoinsUptoRow.laid) (((Rows.OpenSpec.upto Rows.crtJoinsSpec).at F).post enc Tryz.prog Tryz.f10 false true false false) := by
 obtain ⟨places,hx⟩ := crtJoins_reads os enc
 refine returnsInHanded_of_row (C := Tryz.checked) (s := (Rows.OpenSpec.upto Rows.crtJoinsSpec)) own_knob started (by kernel_rfl) Tryz.func10
  (witness_row_at (enc := enc) (C := Tryz.checked) false (crtJoins_world os) #[.agg #[.bool false,.slice none 0 0,.bool false,.slice none 0 0],.agg #[.bool false,.slice none 0 0,.bool false,.slice none 0 0]] rfl (by kernel_rfl) (by kernel_rfl) (by kernel_rfl)
   (OpenSpec.preRow_of_cond 8 hx (by kernel_rfl) (fun k hk => by cases hk; kernel_rfl) (by kernel_rfl) (crtJoins_met os))) ?_
 intro W base args ds gs before hval hW _ hcond _ hL _ _
 have hW' := hW
 obtain ⟨p,q,hA0,hV,hpq,hfz,hnd⟩ := hW
 have hA : DataW.TrodAll enc Tryz.prog W 0 (fun _ => true) true Tryz.f10.params.toList args.toList ds p := hA0
 rw [Tryz.params10] at hA hval
 obtain ⟨v0,v1,d0,d1,p0,p1,rfl,rfl,rfl,h0,h1⟩ := trodAll_two hA
 obtain ⟨rfl,rfl⟩ := trodVars_none hV
 have hbd := bulk_bound (hcond _ rfl)
 simp only [Rows.uptoBulkAll,List.append_nil] at hbd
 obtain ⟨ba0,pa0,na0,ca0,la0,bb0,pb0,nb0,cb0,lb0,rfl,hx0,hy0,hb0⟩ := open_rat (hval 0 _ _ rfl rfl) h0
 obtain ⟨ba1,pa1,na1,ca1,la1,bb1,pb1,nb1,cb1,lb1,rfl,hx1,hy1,hb1⟩ := open_rat (hval 1 _ _ rfl rfl) h1
 refine (crtJoins_walk hx0 hy0 hx1 hy1 (crtJoins_tab_of hL) (crtJoins_bases_of hL) (by omega) (by omega)).mono fun e W' ⟨he,hb⟩ => ?_
 subst he
 exact ⟨_,rfl,law_post rfl Tryz.underlying4 (by kernel_rfl) (by rw [Tryz.params10]; intro t ht; simp at ht; subst ht; exact ⟨by kernel_rfl,of_decide_eq_true (by kernel_rfl)⟩) ⟨rfl,rfl,rfl⟩ hW' hb⟩
theorem crtJoins_said : Rows.CrtJoinsUptoSaid :=
 OpenClaim.holds_of_cond 10 Tryz.f10 rfl rfl rfl rfl rfl rfl rfl ⟨rfl,rfl,rfl,rfl,rfl⟩ rfl rfl rfl rfl rfl (by kernel_rfl) Tryz.func10 (by kernel_rfl)
  (of_decide_eq_true (by kernel_rfl)) (by unfold Func.isWrapper; first | (rw [if_pos (by decide +kernel)]; kernel_rfl) | (rw [if_neg (by decide +kernel)]; exact ⟨rfl,rfl⟩))
  (fun os started H enc _ F => by rw [OpenClaim.pre_eq_preRow]; exact crtJoins_lifted os started H enc F)
theorem crtJoins_plain (f : FuncId) (fn : Func) (hf : Tryz.pinned.checked.prog.funcNamed "simile/similelaw06.CrtJoins" = some f) (hfn : Tryz.pinned.checked.prog.funcs[f]? = some fn) :
  true = Tryz.pinned.checked.prog.looks [] ∧ ∀ (j : Nat) t,fn.params[j]? = some t → Tryz.pinned.checked.prog.wantsStandIn t = false := by
 obtain rfl : f = 10 := Option.some.inj ((show Tryz.prog.funcNamed "simile/similelaw06.CrtJoins" = some 10 by kernel_rfl).symm.trans hf) |>.symm
 obtain rfl : fn = Tryz.f10 := (Option.some.inj (Tryz.func10.symm.trans hfn)).symm
 refine ⟨by kernel_rfl,fun j t ht => ?_⟩
 rw [Tryz.params10] at ht
 have ht := Array.mem_of_getElem? ht
 simp at ht
 subst ht
 all_goals exact (show Tryz.prog.wantsStandIn _ = false by kernel_rfl)
theorem crtJoins_holds : Rows.CrtJoinsUptoCardSaid :=
  Claim7.holds_tied_plain_at .later [] _ _ _ _ crtJoins_said (fun _ h => by cases h) (by kernel_rfl) (fun _ h => by cases h) crtJoinsUpto_row_tie rfl ⟨rfl,rfl⟩ (by kernel_rfl) rfl crtJoins_plain (by kernel_rfl)
end Go.Proofs.YtjbcjlbbipohjaaGreatDoor
