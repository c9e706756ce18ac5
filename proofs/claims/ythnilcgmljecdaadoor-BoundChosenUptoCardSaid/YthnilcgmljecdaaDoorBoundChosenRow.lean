
/-
  BoundChosen: what is chosen is enough, just so, falling, and divides nothing. Condition: what the law reads is of bulk at most 1048576 (the second form). The tables that the row lists read as their initialisers lay them; the card ties them to the program's text.
-/
import Derived.Test.YthnilcgmljecdaaDoorBoundChosen
import Derived.Test.YthnilcgmljecdaaDoorZLaw
import Derived.Test.YthnilcgmljecdaaDoorLT
import Derived.Test.YthnilcgmljecdaaDoorTie
import Derived.Test.YthnilcgmljecdaaDoorCards
set_option linter.unusedVariables false
set_option linter.unusedSimpArgs false
namespace Go.Proofs.YthnilcgmljecdaaDoor
open Go.ChangeShapes Go.WideShapes Go.ChangeAt Go.RowKit
theorem boundChosen_g0 : Tryd.prog.globalNamed "math/bits.deBruijn32tab" = some 1 := by kernel_rfl
theorem boundChosen_gt0 : (Tryd.prog.globals[1]?).map (·.type) = some 118 := by kernel_rfl
theorem boundChosen_g1 : Tryd.prog.globalNamed "simile/prime.bases" = some 0 := by kernel_rfl
theorem boundChosen_gt1 : (Tryd.prog.globals[0]?).map (·.type) = some 100 := by kernel_rfl
theorem boundChosen_ca0 : Tryd.prog.cellsOf 118 = 32 := by kernel_rfl
theorem boundChosen_ce0 : Tryd.prog.cellsOf 5 = 1 := by kernel_rfl
theorem boundChosen_ca1 : Tryd.prog.cellsOf 100 = 3 := by kernel_rfl
theorem boundChosen_ce1 : Tryd.prog.cellsOf 34 = 1 := by kernel_rfl
theorem boundChosen_tab_of {W : World} (h : laidMetH Tryd.prog Rows.boundChosenUptoRow.laid W) : Tab W :=
  tab_of (fun k hk => (Lib.tabIs_of_head (k := .u8) (zs := [0,1,28,2,29,14,24,3,30,22,20,15,25,17,4,8,31,27,13,23,21,19,16,7,26,12,18,6,11,5,10,9]) (rest := _) boundChosen_g0 boundChosen_gt0 Tryd.underlying118 Tryd.underlying5 boundChosen_ce0 boundChosen_ca0 h).cell boundChosen_g0 k hk)
theorem boundChosen_bases_of {W : World} (h : laidMetH Tryd.prog Rows.boundChosenUptoRow.laid W) : Bases W :=
  bases_of (fun k hk => (Lib.tabIs_of_head (k := .u32) (zs := [2,7,61]) (rest := []) boundChosen_g1 boundChosen_gt1 Tryd.underlying100 Tryd.underlying34 boundChosen_ce1 boundChosen_ca1 (laidMetH.filter (fun x => x.1 == "simile/prime.bases") h)).cell boundChosen_g1 k hk)
noncomputable def boundChosen_world (os : Os) : World :=
  { World.holding Tryd.prog os ⟨#[], #[],[]⟩ with heap := (((World.holding Tryd.prog os ⟨#[], #[],[]⟩).heap.modify 1 (fun | .cells _ t frozen => .cells #[.int .u8 0,.int .u8 1,.int .u8 28,.int .u8 2,.int .u8 29,.int .u8 14,.int .u8 24,.int .u8 3,.int .u8 30,.int .u8 22,.int .u8 20,.int .u8 15,.int .u8 25,.int .u8 17,.int .u8 4,.int .u8 8,.int .u8 31,.int .u8 27,.int .u8 13,.int .u8 23,.int .u8 21,.int .u8 19,.int .u8 16,.int .u8 7,.int .u8 26,.int .u8 12,.int .u8 18,.int .u8 6,.int .u8 11,.int .u8 5,.int .u8 10,.int .u8 9] t frozen | o => o)).modify 0 (fun | .cells _ t frozen => .cells #[.int .u32 2,.int .u32 7,.int .u32 61] t frozen | o => o)) }
set_option maxRecDepth 100000 in
theorem boundChosen_met (os : Os) : laidMet Tryd.prog Rows.boundChosenUptoRow.laid ((boundChosen_world os).forCall (fun _ _ => 0) ⟨#[], #[.agg #[.bool false,.slice none 0 0],.agg #[.bool false,.slice none 0 0]],[]⟩).memory :=
  laidMet_of_run' 8 (by kernel_rfl) (by kernel_rfl)
theorem boundChosen_reads (os : Os) {H : Type} (enc : TypeId × Value → H) : ∃ places,DataW.whole enc Tryd.prog ((boundChosen_world os).forCall (fun _ _ => 0) ⟨#[], #[.agg #[.bool false,.slice none 0 0],.agg #[.bool false,.slice none 0 0]],[]⟩).memory Tryd.f7.params.toList Rows.boundChosenSpec.vars false (#[.agg #[.bool false,.slice none 0 0],.agg #[.bool false,.slice none 0 0]] : Array Value).toList 8 = some ([.agg [.lit (.bool false),.nil],.agg [.lit (.bool false),.nil]],[],places) :=
  ⟨[],by kernel_rfl⟩
set_option maxRecDepth 100000 in
theorem boundChosen_lifted (os : Os) (started : os.Started) (H : Type) (enc : TypeId × Value → H) (F : Stop.Interp) :
  ReturnsInHanded {} Tryd.checked os 7 .any ((Rows.OpenSpec.upto Rows.boundChosenSpec).preRow enc Tryd.prog Tryd.f7 Rows.boundChosenUptoRow.domain false Rows.boundChosenUptoRow.laid) (((Rows.OpenSpec.upto Rows.boundChosenSpec).at F).post enc Tryd.prog Tryd.f7 false true false false) := by
 obtain ⟨places,hx⟩ := boundChosen_reads os enc
 refine returnsInHanded_of_row (C := Tryd.checked) (s := (Rows.OpenSpec.upto Rows.boundChosenSpec)) own_knob started (by kernel_rfl) Tryd.func7
  (witness_row_at (enc := enc) (C := Tryd.checked) false (boundChosen_world os) #[.agg #[.bool false,.slice none 0 0],.agg #[.bool false,.slice none 0 0]] rfl (by kernel_rfl) (by kernel_rfl) (by kernel_rfl)
   (OpenSpec.preRow_of_cond 8 hx (by kernel_rfl) (fun k hk => by cases hk; kernel_rfl) (by kernel_rfl) (boundChosen_met os))) ?_
 intro W base args ds gs before hval hW _ hcond _ hL _ _
 have hW' := hW
 obtain ⟨p,q,hA0,hV,hpq,hfz,hnd⟩ := hW
 have hA : DataW.TrodAll enc Tryd.prog W 0 (fun _ => true) true Tryd.f7.params.toList args.toList ds p := hA0
 rw [Tryd.params7] at hA hval
 obtain ⟨v0,v1,d0,d1,p0,p1,rfl,rfl,rfl,h0,h1⟩ := trodAll_two hA
 obtain ⟨rfl,rfl⟩ := trodVars_none hV
 have hbd := bulk_bound (hcond _ rfl)
 simp only [Rows.uptoBulkAll,List.append_nil] at hbd
 obtain ⟨b0,pp0,n0,c0,xs0,rfl,hx0,hb0⟩ := open_zint (hval 0 _ _ rfl rfl) h0
 obtain ⟨b1,pp1,n1,c1,xs1,rfl,hx1,hb1⟩ := open_zint (hval 1 _ _ rfl rfl) h1
 refine (boundChosen_walk hx0 hx1 (boundChosen_tab_of hL) (boundChosen_bases_of hL) (by omega) (by omega)).mono fun e W' ⟨he,hb⟩ => ?_
 subst he
 exact ⟨_,rfl,law_post rfl Tryd.underlying4 (by kernel_rfl) (by rw [Tryd.params7]; intro t ht; simp at ht; subst ht; exact ⟨by kernel_rfl,of_decide_eq_true (by kernel_rfl)⟩) ⟨rfl,rfl,rfl⟩ hW' hb⟩
theorem boundChosen_said : Rows.BoundChosenUptoSaid :=
 OpenClaim.holds_of_cond 7 Tryd.f7 rfl rfl rfl rfl rfl rfl rfl ⟨rfl,rfl,rfl,rfl,rfl⟩ rfl rfl rfl rfl rfl (by kernel_rfl) Tryd.func7 (by kernel_rfl)
  (of_decide_eq_true (by kernel_rfl)) (by unfold Func.isWrapper; first | (rw [if_pos (by decide +kernel)]; kernel_rfl) | (rw [if_neg (by decide +kernel)]; exact ⟨rfl,rfl⟩))
  (fun os started H enc _ F => by rw [OpenClaim.pre_eq_preRow]; exact boundChosen_lifted os started H enc F)
theorem boundChosen_plain (f : FuncId) (fn : Func) (hf : Tryd.pinned.checked.prog.funcNamed "simile/similelaw22.BoundChosen" = some f) (hfn : Tryd.pinned.checked.prog.funcs[f]? = some fn) :
  false = Tryd.pinned.checked.prog.looks [] ∧ ∀ (j : Nat) t,fn.params[j]? = some t → Tryd.pinned.checked.prog.wantsStandIn t = false := by
 obtain rfl : f = 7 := Option.some.inj ((show Tryd.prog.funcNamed "simile/similelaw22.BoundChosen" = some 7 by kernel_rfl).symm.trans hf) |>.symm
 obtain rfl : fn = Tryd.f7 := (Option.some.inj (Tryd.func7.symm.trans hfn)).symm
 refine ⟨by kernel_rfl,fun j t ht => ?_⟩
 rw [Tryd.params7] at ht
 have ht := Array.mem_of_getElem? ht
 simp at ht
 subst ht
 all_goals exact (show Tryd.prog.wantsStandIn _ = false by kernel_rfl)
theorem boundChosen_holds : Rows.BoundChosenUptoCardSaid :=
  Claim7.holds_tied_plain_at .later [] _ _ _ _ boundChosen_said (fun _ h => by cases h) (by kernel_rfl) (fun _ h => by cases h) boundChosenUpto_row_tie rfl ⟨rfl,rfl⟩ (by kernel_rfl) rfl boundChosen_plain (by kernel_rfl)
end Go.Proofs.YthnilcgmljecdaaDoor
