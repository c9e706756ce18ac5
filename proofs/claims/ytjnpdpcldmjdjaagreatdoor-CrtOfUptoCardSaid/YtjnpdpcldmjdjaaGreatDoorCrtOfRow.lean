
/-
  CrtOf, whatever the pairs are and wherever the steps are stopped. Condition: what the law reads is of bulk at most 1048576 (the second form). The tables that the row lists read as their initialisers lay them; the card ties them to the program's text.
-/
import Derived.Test.YtjnpdpcldmjdjaaGreatDoorCrtOf
import Derived.Test.YtjnpdpcldmjdjaaGreatDoorOP
import Derived.Test.YtjnpdpcldmjdjaaGreatDoorLT
import Derived.Test.YtjnpdpcldmjdjaaGreatDoorTie
import Derived.Test.YtjnpdpcldmjdjaaGreatDoorCards
set_option linter.unusedVariables false
set_option linter.unusedSimpArgs false
namespace Go.Proofs.YtjnpdpcldmjdjaaGreatDoor
open Go.ChangeShapes Go.WideShapes Go.ChangeAt Go.RowKit
theorem crtOf_g0 : Tryz.prog.globalNamed "math/bits.deBruijn32tab" = some 1 := by kernel_rfl
theorem crtOf_gt0 : (Tryz.prog.globals[1]?).map (·.type) = some 138 := by kernel_rfl
theorem crtOf_g1 : Tryz.prog.globalNamed "simile/prime.bases" = some 0 := by kernel_rfl
theorem crtOf_gt1 : (Tryz.prog.globals[0]?).map (·.type) = some 121 := by kernel_rfl
theorem crtOf_ca0 : Tryz.prog.cellsOf 138 = 32 := by kernel_rfl
theorem crtOf_ce0 : Tryz.prog.cellsOf 5 = 1 := by kernel_rfl
theorem crtOf_ca1 : Tryz.prog.cellsOf 121 = 3 := by kernel_rfl
theorem crtOf_ce1 : Tryz.prog.cellsOf 38 = 1 := by kernel_rfl
theorem crtOf_tab_of {W : World} (h : laidMetH Tryz.prog Rows.crtOfUptoRow.laid W) : Tab W :=
  tab_of (fun k hk => (Lib.tabIs_of_head (k := .u8) (zs := [0,1,28,2,29,14,24,3,30,22,20,15,25,17,4,8,31,27,13,23,21,19,16,7,26,12,18,6,11,5,10,9]) (rest := _) crtOf_g0 crtOf_gt0 Tryz.underlying138 Tryz.underlying5 crtOf_ce0 crtOf_ca0 h).cell crtOf_g0 k hk)
theorem crtOf_bases_of {W : World} (h : laidMetH Tryz.prog Rows.crtOfUptoRow.laid W) : Bases W :=
  bases_of (fun k hk => (Lib.tabIs_of_head (k := .u32) (zs := [2,7,61]) (rest := []) crtOf_g1 crtOf_gt1 Tryz.underlying121 Tryz.underlying38 crtOf_ce1 crtOf_ca1 (laidMetH.filter (fun x => x.1 == "simile/prime.bases") h)).cell crtOf_g1 k hk)
noncomputable def crtOf_world (os : Os) : World :=
  { World.holding Tryz.prog os ⟨#[], #[],[]⟩ with heap := (((World.holding Tryz.prog os ⟨#[], #[],[]⟩).heap.modify 1 (fun | .cells _ t frozen => .cells #[.int .u8 0,.int .u8 1,.int .u8 28,.int .u8 2,.int .u8 29,.int .u8 14,.int .u8 24,.int .u8 3,.int .u8 30,.int .u8 22,.int .u8 20,.int .u8 15,.int .u8 25,.int .u8 17,.int .u8 4,.int .u8 8,.int .u8 31,.int .u8 27,.int .u8 13,.int .u8 23,.int .u8 21,.int .u8 19,.int .u8 16,.int .u8 7,.int .u8 26,.int .u8 12,.int .u8 18,.int .u8 6,.int .u8 11,.int .u8 5,.int .u8 10,.int .u8 9] t frozen | o => o)).modify 0 (fun | .cells _ t frozen => .cells #[.int .u32 2,.int .u32 7,.int .u32 61] t frozen | o => o)) }
set_option maxRecDepth 100000 in
theorem crtOf_met (os : Os) : laidMet Tryz.prog Rows.crtOfUptoRow.laid ((crtOf_world os).forCall (fun _ _ => 0) ⟨#[], #[.slice none 0 0,.int .i64 0],[]⟩).memory :=
  laidMet_of_run' 8 (by kernel_rfl) (by kernel_rfl)
theorem crtOf_reads (os : Os) {H : Type} (enc : TypeId × Value → H) : ∃ places,DataW.whole enc Tryz.prog ((crtOf_world os).forCall (fun _ _ => 0) ⟨#[], #[.slice none 0 0,.int .i64 0],[]⟩).memory Tryz.f3.params.toList Rows.crtOfSpec.vars false (#[.slice none 0 0,.int .i64 0] : Array Value).toList 8 = some ([.nil,.lit (.int .i64 0)],[],places) :=
  ⟨[],by kernel_rfl⟩
set_option maxRecDepth 100000 in
theorem crtOf_lifted (os : Os) (started : os.Started) (H : Type) (enc : TypeId × Value → H) (F : Stop.Interp) :
  ReturnsInHanded {} Tryz.checked os 3 .any ((Rows.OpenSpec.upto Rows.crtOfSpec).preRow enc Tryz.prog Tryz.f3 Rows.crtOfUptoRow.domain false Rows.crtOfUptoRow.laid) (((Rows.OpenSpec.upto Rows.crtOfSpec).at F).post enc Tryz.prog Tryz.f3 false true false false) := by
 obtain ⟨places,hx⟩ := crtOf_reads os enc
 refine returnsInHanded_of_row (C := Tryz.checked) (s := (Rows.OpenSpec.upto Rows.crtOfSpec)) own_knob started (by kernel_rfl) Tryz.func3
  (witness_row_at (enc := enc) (C := Tryz.checked) false (crtOf_world os) #[.slice none 0 0,.int .i64 0] rfl (by kernel_rfl) (by kernel_rfl) (by kernel_rfl)
   (OpenSpec.preRow_of_cond 8 hx (by kernel_rfl) (fun k hk => by cases hk; kernel_rfl) (by kernel_rfl) (crtOf_met os))) ?_
 intro W base args ds gs before hval hW _ hcond _ hL _ _
 have hW' := hW
 obtain ⟨p,q,hA0,hV,hpq,hfz,hnd⟩ := hW
 have hA : DataW.TrodAll enc Tryz.prog W 0 (fun _ => true) true Tryz.f3.params.toList args.toList ds p := hA0
 rw [Tryz.params3] at hA hval
 obtain ⟨v0,v1,d0,d1,p0,p1,rfl,rfl,rfl,h0,h1⟩ := trodAll_two hA
 obtain ⟨rfl,rfl⟩ := trodVars_none hV
 have hbd := bulk_bound (hcond _ rfl)
 simp only [Rows.uptoBulkAll,List.append_nil] at hbd
 obtain ⟨pp0,n0,c0,L0,rfl,hx0,hb0⟩ := open_restsc (hval 0 _ _ rfl rfl) h0 (by omega)
 obtain ⟨s1,rfl,rfl,rfl,ws1⟩ := open_int Tryz.underlying3 (hval 1 _ _ rfl rfl) h1
 refine (crtOf_walk hx0.1 hx0.2.1 hx0.2.2 (crtOf_tab_of hL) (crtOf_bases_of hL) (by omega) (bounds_i64 ws1)).mono fun e W' ⟨he,hb⟩ => ?_
 subst he
 exact ⟨_,rfl,law_post rfl Tryz.underlying4 (by kernel_rfl) (by rw [Tryz.params3]; intro t ht; simp at ht; rcases ht with rfl | rfl <;> exact ⟨by kernel_rfl,of_decide_eq_true (by kernel_rfl)⟩) ⟨rfl,rfl,rfl⟩ hW' hb⟩
theorem crtOf_said : Rows.CrtOfUptoSaid :=
 OpenClaim.holds_of_cond 3 Tryz.f3 rfl rfl rfl rfl rfl rfl rfl ⟨rfl,rfl,rfl,rfl,rfl⟩ rfl rfl rfl rfl rfl (by kernel_rfl) Tryz.func3 (by kernel_rfl)
  (of_decide_eq_true (by kernel_rfl)) (by unfold Func.isWrapper; first | (rw [if_pos (by decide +kernel)]; kernel_rfl) | (rw [if_neg (by decide +kernel)]; exact ⟨rfl,rfl⟩))
  (fun os started H enc _ F => by rw [OpenClaim.pre_eq_preRow]; exact crtOf_lifted os started H enc F)
theorem crtOf_plain (f : FuncId) (fn : Func) (hf : Tryz.pinned.checked.prog.funcNamed "simile/similelaw06.CrtOf" = some f) (hfn : Tryz.pinned.checked.prog.funcs[f]? = some fn) :
  true = Tryz.pinned.checked.prog.looks [] ∧ ∀ (j : Nat) t,fn.params[j]? = some t → Tryz.pinned.checked.prog.wantsStandIn t = false := by
 obtain rfl : f = 3 := Option.some.inj ((show Tryz.prog.funcNamed "simile/similelaw06.CrtOf" = some 3 by kernel_rfl).symm.trans hf) |>.symm
 obtain rfl : fn = Tryz.f3 := (Option.some.inj (Tryz.func3.symm.trans hfn)).symm
 refine ⟨by kernel_rfl,fun j t ht => ?_⟩
 rw [Tryz.params3] at ht
 have ht := Array.mem_of_getElem? ht
 simp at ht
 rcases ht with rfl | rfl
 all_goals exact (show Tryz.prog.wantsStandIn _ = false by kernel_rfl)
theorem crtOf_holds : Rows.CrtOfUptoCardSaid :=
  Claim7.holds_tied_plain_at .later [] _ _ _ _ crtOf_said (fun _ h => by cases h) (by kernel_rfl) (fun _ h => by cases h) crtOfUpto_row_tie rfl ⟨rfl,rfl⟩ (by kernel_rfl) rfl crtOf_plain (by kernel_rfl)
end Go.Proofs.YtjnpdpcldmjdjaaGreatDoor
