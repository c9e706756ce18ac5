
/-
  The law RatField holds of the given program: the call returns true and its arguments read as they did, for any three fractions. Condition: what the law reads is of bulk at most 1048576 (the second form).
-/
import Derived.Test.YtoinfkimlhhmpaaRatField
import Derived.Test.YtoinfkimlhhmpaaROpen
set_option linter.unusedVariables false
set_option linter.unusedSimpArgs false
namespace Go.Proofs.Ytoinfkimlhhmpaa
open Go.ChangeShapes Go.WideShapes Go.ChangeAt Go.RowKit

set_option maxRecDepth 100000 in
theorem ratField_lifted (os : Os) (started : os.Started) (H : Type) (enc : TypeId × Value → H) (F : Stop.Interp) :
    ReturnsInHanded {} Try.checked os 8 .any ((Rows.OpenSpec.upto Rows.ratFieldSpec).pre6 enc Try.prog Try.f8 Rows.ratFieldUptoRow.domain false) (((Rows.OpenSpec.upto Rows.ratFieldSpec).at F).post enc Try.prog Try.f8 false true false false) := by
  refine returnsInHanded_of_cond (C := Try.checked) (s := Rows.OpenSpec.upto Rows.ratFieldSpec) (k := Rows.uptoSmall) rfl own started (by kernel_rfl) Try.func8
    (OpenSpec.witness (enc := enc) (C := Try.checked) (s := Rows.OpenSpec.upto Rows.ratFieldSpec) (k := Rows.uptoSmall) rfl false ⟨#[], #[.agg #[.bool false, .slice none 0 0, .bool false, .slice none 0 0], .agg #[.bool false, .slice none 0 0, .bool false, .slice none 0 0], .agg #[.bool false, .slice none 0 0, .bool false, .slice none 0 0]], []⟩ 8 (by kernel_rfl) (by kernel_rfl) (by kernel_rfl)
      (x := ([.agg [.agg [.lit (.bool false), .nil], .agg [.lit (.bool false), .nil]], .agg [.agg [.lit (.bool false), .nil], .agg [.lit (.bool false), .nil]], .agg [.agg [.lit (.bool false), .nil], .agg [.lit (.bool false), .nil]]], [], [])) (by kernel_rfl) rfl (by kernel_rfl)) ?_
  intro W base args ds gs before hval hW _ hk _
  have hW' := hW
  obtain ⟨p, q, hA0, hV, hpq, hfz, hnd⟩ := hW
  have hA : DataW.TrodAll enc Try.prog W 0 (fun _ => true) true Try.f8.params.toList args.toList ds p := hA0
  rw [Try.params8] at hA hval
  obtain ⟨v0, v1, v2, d0, d1, d2, p0, p1, p2, rfl, rfl, rfl, h0, h1, h2⟩ := trodAll_three hA
  obtain ⟨rfl, rfl⟩ := trodVars_none hV
  have hbd := bulk_bound hk
  simp only [Rows.uptoBulkAll, List.append_nil] at hbd
  obtain ⟨ba0, pa0, na0, ca0, la0, bb0, pb0, nb0, cb0, lb0, rfl, hx0, hy0, hb0⟩ := open_rat (hval 0 _ _ rfl rfl) h0
  obtain ⟨ba1, pa1, na1, ca1, la1, bb1, pb1, nb1, cb1, lb1, rfl, hx1, hy1, hb1⟩ := open_rat (hval 1 _ _ rfl rfl) h1
  obtain ⟨ba2, pa2, na2, ca2, la2, bb2, pb2, nb2, cb2, lb2, rfl, hx2, hy2, hb2⟩ := open_rat (hval 2 _ _ rfl rfl) h2
  refine (rfield_law hx0 hy0 hx1 hy1 hx2 hy2 (by omega) (by omega) (by omega)).mono fun e W' ⟨he, hb⟩ => ?_
  subst he
  exact ⟨_, rfl, law_post rfl Try.underlying4 (by kernel_rfl) (by rw [Try.params8]; intro t ht; simp at ht; subst ht; exact ⟨by kernel_rfl, of_decide_eq_true (by kernel_rfl)⟩) ⟨rfl, rfl, rfl⟩ hW' hb⟩

theorem ratField_holds : Rows.RatFieldUptoSaid :=
  OpenClaim.holds_of_cond 8 Try.f8 rfl rfl rfl rfl rfl rfl rfl ⟨rfl, rfl, rfl, rfl, rfl⟩ rfl rfl rfl rfl rfl (by kernel_rfl) Try.func8 (by kernel_rfl)
    (of_decide_eq_true (by kernel_rfl)) (by unfold Func.isWrapper; first | (rw [if_pos (by decide +kernel)]; kernel_rfl) | (rw [if_neg (by decide +kernel)]; exact ⟨rfl, rfl⟩))
    (fun os started H enc _ F => ratField_lifted os started H enc F)

end Go.Proofs.Ytoinfkimlhhmpaa
