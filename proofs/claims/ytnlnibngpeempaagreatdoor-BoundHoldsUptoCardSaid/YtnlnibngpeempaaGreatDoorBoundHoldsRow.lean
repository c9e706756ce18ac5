
/-
  BoundHolds: of any table of integers, no coefficient of its characteristic polynomial is greater in size than its bound, nor is its determinant. Condition: what the law reads is of bulk at most 1048576 (the second form). The tables that the row lists read as their initialisers lay them; the card ties them to the program's text.
-/
import Derived.Test.YtnlnibngpeempaaGreatDoorBoundHolds
import Derived.Test.YtnlnibngpeempaaGreatDoorOP
import Derived.Test.YtnlnibngpeempaaGreatDoorLT
import Derived.Test.YtnlnibngpeempaaGreatDoorTie
import Derived.Test.YtnlnibngpeempaaGreatDoorCards
set_option linter.unusedVariables false
set_option linter.unusedSimpArgs false
namespace Go.Proofs.YtnlnibngpeempaaGreatDoor
open Go.ChangeShapes Go.WideShapes Go.ChangeAt Go.RowKit
theorem boundHolds_g0 : Tryz.prog.globalNamed "math/bits.deBruijn32tab" = some 1 := by kernel_rfl
theorem boundHolds_gt0 : (Tryz.prog.globals[1]?).map (·.type) = some 177 := by kernel_rfl
theorem boundHolds_g1 : Tryz.prog.globalNamed "simile/prime.bases" = some 0 := by kernel_rfl
theorem boundHolds_gt1 : (Tryz.prog.globals[0]?).map (·.type) = some 173 := by kernel_rfl
theorem boundHolds_ca0 : Tryz.prog.cellsOf 177 = 32 := by kernel_rfl
theorem boundHolds_ce0 : Tryz.prog.cellsOf 5 = 1 := by kernel_rfl
theorem boundHolds_ca1 : Tryz.prog.cellsOf 173 = 3 := by kernel_rfl
theorem boundHolds_ce1 : Tryz.prog.cellsOf 63 = 1 := by kernel_rfl
theorem boundHolds_tab_of {W : World} (h : laidMetH Tryz.prog Rows.boundHoldsUptoRow.laid W) : Tab W :=
  tab_of (fun k hk => (Lib.tabIs_of_head (k := .u8) (zs := [0,1,28,2,29,14,24,3,30,22,20,15,25,17,4,8,31,27,13,23,21,19,16,7,26,12,18,6,11,5,10,9]) (rest := _) boundHolds_g0 boundHolds_gt0 Tryz.underlying177 Tryz.underlying5 boundHolds_ce0 boundHolds_ca0 h).cell boundHolds_g0 k hk)
theorem boundHolds_bases_of {W : World} (h : laidMetH Tryz.prog Rows.boundHoldsUptoRow.laid W) : Bases W :=
  bases_of (fun k hk => (Lib.tabIs_of_head (k := .u32) (zs := [2,7,61]) (rest := []) boundHolds_g1 boundHolds_gt1 Tryz.underlying173 Tryz.underlying63 boundHolds_ce1 boundHolds_ca1 (laidMetH.filter (fun x => x.1 == "simile/prime.bases") h)).cell boundHolds_g1 k hk)
noncomputable def boundHolds_world (os : Os) : World :=
  { World.holding Tryz.prog os ⟨#[], #[],[]⟩ with heap := (((World.holding Tryz.prog os ⟨#[], #[],[]⟩).heap.modify 1 (fun | .cells _ t frozen => .cells #[.int .u8 0,.int .u8 1,.int .u8 28,.int .u8 2,.int .u8 29,.int .u8 14,.int .u8 24,.int .u8 3,.int .u8 30,.int .u8 22,.int .u8 20,.int .u8 15,.int .u8 25,.int .u8 17,.int .u8 4,.int .u8 8,.int .u8 31,.int .u8 27,.int .u8 13,.int .u8 23,.int .u8 21,.int .u8 19,.int .u8 16,.int .u8 7,.int .u8 26,.int .u8 12,.int .u8 18,.int .u8 6,.int .u8 11,.int .u8 5,.int .u8 10,.int .u8 9] t frozen | o => o)).modify 0 (fun | .cells _ t frozen => .cells #[.int .u32 2,.int .u32 7,.int .u32 61] t frozen | o => o)) }
set_option maxRecDepth 100000 in
theorem boundHolds_met (os : Os) : laidMet Tryz.prog Rows.boundHoldsUptoRow.laid ((boundHolds_world os).forCall (fun _ _ => 0) ⟨#[], #[.slice none 0 0],[]⟩).memory :=
  laidMet_of_run' 8 (by kernel_rfl) (by kernel_rfl)
theorem boundHolds_reads (os : Os) {H : Type} (enc : TypeId × Value → H) : ∃ places,DataW.whole enc Tryz.prog ((boundHolds_world os).forCall (fun _ _ => 0) ⟨#[], #[.slice none 0 0],[]⟩).memory Tryz.f3.params.toList Rows.boundHoldsSpec.vars false (#[.slice none 0 0] : Array Value).toList 8 = some ([.nil],[],places) :=
  ⟨[],by kernel_rfl⟩
set_option maxRecDepth 100000 in
theorem boundHolds_lifted (os : Os) (started : os.Started) (H : Type) (enc : TypeId × Value → H) (F : Stop.Interp) :
  ReturnsInHanded {} Tryz.checked os 3 .any ((Rows.OpenSpec.upto Rows.boundHoldsSpec).preRow enc Tryz.prog Tryz.f3 Rows.boundHoldsUptoRow.domain false Rows.boundHoldsUptoRow.laid) (((Rows.OpenSpec.upto Rows.boundHoldsSpec).at F).post enc Tryz.prog Tryz.f3 false true false false) := by
 obtain ⟨places,hx⟩ := boundHolds_reads os enc
 refine returnsInHanded_of_row (C := Tryz.checked) (s := (Rows.OpenSpec.upto Rows.boundHoldsSpec)) own_knob started (by kernel_rfl) Tryz.func3
  (witness_row_at (enc := enc) (C := Tryz.checked) false (boundHolds_world os) #[.slice none 0 0] rfl (by kernel_rfl) (by kernel_rfl) (by kernel_rfl)
   (OpenSpec.preRow_of_cond 8 hx (by kernel_rfl) (fun k hk => by cases hk; kernel_rfl) (by kernel_rfl) (boundHolds_met os))) ?_
 intro W base args ds gs before hval hW _ hcond _ hL _ _
 have hW' := hW
 obtain ⟨p,q,hA0,hV,hpq,hfz,hnd⟩ := hW
 have hA : DataW.TrodAll enc Tryz.prog W 0 (fun _ => true) true Tryz.f3.params.toList args.toList ds p := hA0
 rw [Tryz.params3] at hA hval
 obtain ⟨v0,d0,rfl,rfl,h0⟩ := trodAll_one hA
 obtain ⟨rfl,rfl⟩ := trodVars_none hV
 have hbd := bulk_bound (hcond _ rfl)
 simp only [Rows.uptoBulkAll,List.append_nil] at hbd
 obtain ⟨pp0,n0,c0,L0,rfl,hx0,hb0⟩ := open_ztabS (hval 0 _ _ rfl rfl) h0 (by omega)
 refine (boundHolds_walk hx0 (by have := limbs_all L0; omega) (boundHolds_tab_of hL) (boundHolds_bases_of hL) ).mono fun e W' ⟨he,hb⟩ => ?_
 subst he
 exact ⟨_,rfl,law_post rfl Tryz.underlying4 (by kernel_rfl) (by rw [Tryz.params3]; intro t ht; simp at ht; subst ht; exact ⟨by kernel_rfl,of_decide_eq_true (by kernel_rfl)⟩) ⟨rfl,rfl,rfl⟩ hW' hb⟩
theorem boundHolds_said : Rows.BoundHoldsUptoSaid :=
 OpenClaim.holds_of_cond 3 Tryz.f3 rfl rfl rfl rfl rfl rfl rfl ⟨rfl,rfl,rfl,rfl,rfl⟩ rfl rfl rfl rfl rfl (by kernel_rfl) Tryz.func3 (by kernel_rfl)
  (of_decide_eq_true (by kernel_rfl)) (by unfold Func.isWrapper; first | (rw [if_pos (by decide +kernel)]; kernel_rfl) | (rw [if_neg (by decide +kernel)]; exact ⟨rfl,rfl⟩))
  (fun os started H enc _ F => by rw [OpenClaim.pre_eq_preRow]; exact boundHolds_lifted os started H enc F)
theorem boundHolds_plain (f : FuncId) (fn : Func) (hf : Tryz.pinned.checked.prog.funcNamed "simile/similelaw22.BoundHolds" = some f) (hfn : Tryz.pinned.checked.prog.funcs[f]? = some fn) :
  false = Tryz.pinned.checked.prog.looks [] ∧ ∀ (j : Nat) t,fn.params[j]? = some t → Tryz.pinned.checked.prog.wantsStandIn t = false := by
 obtain rfl : f = 3 := Option.some.inj ((show Tryz.prog.funcNamed "simile/similelaw22.BoundHolds" = some 3 by kernel_rfl).symm.trans hf) |>.symm
 obtain rfl : fn = Tryz.f3 := (Option.some.inj (Tryz.func3.symm.trans hfn)).symm
 refine ⟨by kernel_rfl,fun j t ht => ?_⟩
 rw [Tryz.params3] at ht
 have ht := Array.mem_of_getElem? ht
 simp at ht
 subst ht
 all_goals exact (show Tryz.prog.wantsStandIn _ = false by kernel_rfl)
theorem boundHolds_holds : Rows.BoundHoldsUptoCardSaid :=
  Claim7.holds_tied_plain_at .later [] _ _ _ _ boundHolds_said (fun _ h => by cases h) (by kernel_rfl) (fun _ h => by cases h) boundHoldsUpto_row_tie rfl ⟨rfl,rfl⟩ (by kernel_rfl) rfl boundHolds_plain (by kernel_rfl)
end Go.Proofs.YtnlnibngpeempaaGreatDoor
