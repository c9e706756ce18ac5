
/-
  HessAsks: Is and Char of any matrix. Condition: what the law reads is of bulk at most 1048576 (the second form). The tables that the row lists read as their initialisers lay them; the card ties them to the program's text.
-/
import Derived.Test.YtcfcdbeemhjhgaaDoorHessAsks
import Derived.Test.YtcfcdbeemhjhgaaDoorLT
import Derived.Test.YtcfcdbeemhjhgaaDoorTie
import Derived.Test.YtcfcdbeemhjhgaaDoorCards
set_option linter.unusedVariables false
set_option linter.unusedSimpArgs false
namespace Go.Proofs.YtcfcdbeemhjhgaaDoor
open Go.ChangeShapes Go.WideShapes Go.ChangeAt Go.RowKit
theorem hessAsks_g0 : Tryd.prog.globalNamed "math/bits.deBruijn32tab" = some 1 := by kernel_rfl
theorem hessAsks_gt0 : (Tryd.prog.globals[1]?).map (·.type) = some 125 := by kernel_rfl
theorem hessAsks_g1 : Tryd.prog.globalNamed "simile/prime.bases" = some 0 := by kernel_rfl
theorem hessAsks_gt1 : (Tryd.prog.globals[0]?).map (·.type) = some 102 := by kernel_rfl
theorem hessAsks_ca0 : Tryd.prog.cellsOf 125 = 32 := by kernel_rfl
theorem hessAsks_ce0 : Tryd.prog.cellsOf 5 = 1 := by kernel_rfl
theorem hessAsks_ca1 : Tryd.prog.cellsOf 102 = 3 := by kernel_rfl
theorem hessAsks_ce1 : Tryd.prog.cellsOf 24 = 1 := by kernel_rfl
theorem hessAsks_tab_of {W : World} (h : laidMetH Tryd.prog Rows.hessAsksUptoRow.laid W) : Tab W :=
  tab_of (fun k hk => (Lib.tabIs_of_head (k := .u8) (zs := [0,1,28,2,29,14,24,3,30,22,20,15,25,17,4,8,31,27,13,23,21,19,16,7,26,12,18,6,11,5,10,9]) (rest := _) hessAsks_g0 hessAsks_gt0 Tryd.underlying125 Tryd.underlying5 hessAsks_ce0 hessAsks_ca0 h).cell hessAsks_g0 k hk)
theorem hessAsks_bases_of {W : World} (h : laidMetH Tryd.prog Rows.hessAsksUptoRow.laid W) : Bases W :=
  bases_of (fun k hk => (Lib.tabIs_of_head (k := .u32) (zs := [2,7,61]) (rest := []) hessAsks_g1 hessAsks_gt1 Tryd.underlying102 Tryd.underlying24 hessAsks_ce1 hessAsks_ca1 (laidMetH.filter (fun x => x.1 == "simile/prime.bases") h)).cell hessAsks_g1 k hk)
noncomputable def hessAsks_world (os : Os) : World :=
  { World.holding Tryd.prog os ⟨#[], #[],[]⟩ with heap := (((World.holding Tryd.prog os ⟨#[], #[],[]⟩).heap.modify 1 (fun | .cells _ t frozen => .cells #[.int .u8 0,.int .u8 1,.int .u8 28,.int .u8 2,.int .u8 29,.int .u8 14,.int .u8 24,.int .u8 3,.int .u8 30,.int .u8 22,.int .u8 20,.int .u8 15,.int .u8 25,.int .u8 17,.int .u8 4,.int .u8 8,.int .u8 31,.int .u8 27,.int .u8 13,.int .u8 23,.int .u8 21,.int .u8 19,.int .u8 16,.int .u8 7,.int .u8 26,.int .u8 12,.int .u8 18,.int .u8 6,.int .u8 11,.int .u8 5,.int .u8 10,.int .u8 9] t frozen | o => o)).modify 0 (fun | .cells _ t frozen => .cells #[.int .u32 2,.int .u32 7,.int .u32 61] t frozen | o => o)) }
set_option maxRecDepth 100000 in
theorem hessAsks_met (os : Os) : laidMet Tryd.prog Rows.hessAsksUptoRow.laid ((hessAsks_world os).forCall (fun _ _ => 0) ⟨#[], #[.slice none 0 0,.int .u32 0],[]⟩).memory :=
  laidMet_of_run' 8 (by kernel_rfl) (by kernel_rfl)
theorem hessAsks_reads (os : Os) {H : Type} (enc : TypeId × Value → H) : ∃ places,DataW.whole enc Tryd.prog ((hessAsks_world os).forCall (fun _ _ => 0) ⟨#[], #[.slice none 0 0,.int .u32 0],[]⟩).memory Tryd.f3.params.toList Rows.hessAsksSpec.vars false (#[.slice none 0 0,.int .u32 0] : Array Value).toList 8 = some ([.nil,.lit (.int .u32 0)],[],places) :=
  ⟨[],by kernel_rfl⟩
set_option maxRecDepth 100000 in
theorem hessAsks_lifted (os : Os) (started : os.Started) (H : Type) (enc : TypeId × Value → H) (F : Stop.Interp) :
  ReturnsInHanded {} Tryd.checked os 3 .any ((Rows.OpenSpec.upto Rows.hessAsksSpec).preRow enc Tryd.prog Tryd.f3 Rows.hessAsksUptoRow.domain false Rows.hessAsksUptoRow.laid) (((Rows.OpenSpec.upto Rows.hessAsksSpec).at F).post enc Tryd.prog Tryd.f3 false true false false) := by
 obtain ⟨places,hx⟩ := hessAsks_reads os enc
 refine returnsInHanded_of_row (C := Tryd.checked) (s := (Rows.OpenSpec.upto Rows.hessAsksSpec)) own_knob started (by kernel_rfl) Tryd.func3
  (witness_row_at (enc := enc) (C := Tryd.checked) false (hessAsks_world os) #[.slice none 0 0,.int .u32 0] rfl (by kernel_rfl) (by kernel_rfl) (by kernel_rfl)
   (OpenSpec.preRow_of_cond 8 hx (by kernel_rfl) (fun k hk => by cases hk; kernel_rfl) (by kernel_rfl) (hessAsks_met os))) ?_
 intro W base args ds gs before hval hW _ hcond _ hL _ _
 have hW' := hW
 obtain ⟨p,q,hA0,hV,hpq,hfz,hnd⟩ := hW
 have hA : DataW.TrodAll enc Tryd.prog W 0 (fun _ => true) true Tryd.f3.params.toList args.toList ds p := hA0
 rw [Tryd.params3] at hA hval
 obtain ⟨v0,v1,d0,d1,p0,p1,rfl,rfl,rfl,h0,h1⟩ := trodAll_two hA
 obtain ⟨rfl,rfl⟩ := trodVars_none hV
 have hbd := bulk_bound (hcond _ rfl)
 simp only [Rows.uptoBulkAll,List.append_nil] at hbd
 obtain ⟨pp0,n0,c0,L0,rfl,hx0,hb0⟩ := open_mm (hval 0 _ _ rfl rfl) h0 (by omega)
 obtain ⟨s1,rfl,rfl,rfl,ws1⟩ := open_int Tryd.underlying24 (hval 1 _ _ rfl rfl) h1
 refine (hessAsks_walk hx0.1 hx0.2 (hessAsks_tab_of hL) (hessAsks_bases_of hL) (bounds_u32 ws1)).mono fun e W' ⟨he,hb⟩ => ?_
 subst he
 exact ⟨_,rfl,law_post rfl Tryd.underlying4 (by kernel_rfl) (by rw [Tryd.params3]; intro t ht; simp at ht; rcases ht with rfl | rfl <;> exact ⟨by kernel_rfl,of_decide_eq_true (by kernel_rfl)⟩) ⟨rfl,rfl,rfl⟩ hW' hb⟩
theorem hessAsks_said : Rows.HessAsksUptoSaid :=
 OpenClaim.holds_of_cond 3 Tryd.f3 rfl rfl rfl rfl rfl rfl rfl ⟨rfl,rfl,rfl,rfl,rfl⟩ rfl rfl rfl rfl rfl (by kernel_rfl) Tryd.func3 (by kernel_rfl)
  (of_decide_eq_true (by kernel_rfl)) (by unfold Func.isWrapper; first | (rw [if_pos (by decide +kernel)]; kernel_rfl) | (rw [if_neg (by decide +kernel)]; exact ⟨rfl,rfl⟩))
  (fun os started H enc _ F => by rw [OpenClaim.pre_eq_preRow]; exact hessAsks_lifted os started H enc F)
theorem hessAsks_plain (f : FuncId) (fn : Func) (hf : Tryd.pinned.checked.prog.funcNamed "simile/similelaw21.HessAsks" = some f) (hfn : Tryd.pinned.checked.prog.funcs[f]? = some fn) :
  false = Tryd.pinned.checked.prog.looks [] ∧ ∀ (j : Nat) t,fn.params[j]? = some t → Tryd.pinned.checked.prog.wantsStandIn t = false := by
 obtain rfl : f = 3 := Option.some.inj ((show Tryd.prog.funcNamed "simile/similelaw21.HessAsks" = some 3 by kernel_rfl).symm.trans hf) |>.symm
 obtain rfl : fn = Tryd.f3 := (Option.some.inj (Tryd.func3.symm.trans hfn)).symm
 refine ⟨by kernel_rfl,fun j t ht => ?_⟩
 rw [Tryd.params3] at ht
 have ht := Array.mem_of_getElem? ht
 simp at ht
 rcases ht with rfl | rfl
 all_goals exact (show Tryd.prog.wantsStandIn _ = false by kernel_rfl)
theorem hessAsks_holds : Rows.HessAsksUptoCardSaid :=
  Claim7.holds_tied_plain_at .later [] _ _ _ _ hessAsks_said (fun _ h => by cases h) (by kernel_rfl) (fun _ h => by cases h) hessAsksUpto_row_tie rfl ⟨rfl,rfl⟩ (by kernel_rfl) rfl hessAsks_plain (by kernel_rfl)
end Go.Proofs.YtcfcdbeemhjhgaaDoor
