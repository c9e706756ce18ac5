/-
  No cell of these rows narrows 'for every input' (looked for: loops, veiled, ifaces, maps, wideKeys, modest, calm, conditions, laid).
  DERIVED. THE GIVEN ROWS OF THIS SEAT. 6 by the template 'for every input the law returns true; each argument reads behind the call as it read before'; 0 by the template 'total and deterministic' (their statements: YtoinfkimlhhmpaaTotals.lean).
  GIVEN WITH THE SEED: the statements are not yours to turn. If you find one false, say at which input.
  Laid BY PROGRAM, IN A SANDBOX (cutbox-rows.mjs): the forced cells as the released guide's own fill.sh prints them over the translation 155eedac77792723… (all of the seat's roots in one cut). By AI agents, Wed Nov 11 2026. No macro, syntax, notation, axiom, sorry.
-/
import Derived.Test.YtoinfkimlhhmpaaChecked
import GoSem.Claim
import GoSem.ClaimJoined
import GoSem.ClaimMapViews
import Derived.JoinedTies
import Derived.KernelRfl
namespace Go.Proofs.Ytoinfkimlhhmpaa
/- THE CELL 'sum', in the pinned program and in every row, IS THE sha256 OF THE DUMP (.gsa) THAT YtoinfkimlhhmpaaProg.lean LOADS. Nothing in Lean hashes anything: it is a label: what it is worth is what the hold of that sum in a sandbox is worth. -/
noncomputable def Try.pinned : Pinned := { name := "ytoinfkimlhhmpaa", sum := "155eedac77792723b1770f6c7cfd41dfebb37aaea1a1bf7775b9485acc0a63fa", checked := Try.checked }
namespace Rows
def none {H : Type} : Left H := { results := [], args := [] }

/-- 'similelaw05.RatQuotients': WHATEVER THE INPUT: true; the input reads as it did. -/
def ratQuotientsSpec : ChangeSpec := { name := "ratQuotients", fn := fun _ => fun
  | [d1, d2] => { results := [.lit (.bool true)], args := [d1, d2] }
  | _ => none }
def ratQuotientsRow : OpenClaim := { program := "ytoinfkimlhhmpaa", sum := "155eedac77792723b1770f6c7cfd41dfebb37aaea1a1bf7775b9485acc0a63fa", func := "simile/similelaw05.RatQuotients", spec := "ratQuotients", unfollowed := true, recurses := true, apart := false }
def RatQuotientsSaid : Prop := ratQuotientsRow.holds Try.pinned (OpenSpec.ofChange ratQuotientsSpec)

/-- ITS FALSE NEIGHBOUR: 'it returns false'. Refute it at one input. -/
def ratQuotientsWrong : ChangeSpec := { name := "ratQuotients", fn := fun _ => fun
  | [d1, d2] => { results := [.lit (.bool false)], args := [d1, d2] }
  | _ => none }
def RatQuotientsWrongFalsely : Prop := ratQuotientsRow.holds Try.pinned (OpenSpec.ofChange ratQuotientsWrong)

/-- 'similelaw05.RatCommon': WHATEVER THE INPUT: true; the input reads as it did. -/
def ratCommonSpec : ChangeSpec := { name := "ratCommon", fn := fun _ => fun
  | [d] => { results := [.lit (.bool true)], args := [d] }
  | _ => none }
def ratCommonRow : OpenClaim := { program := "ytoinfkimlhhmpaa", sum := "155eedac77792723b1770f6c7cfd41dfebb37aaea1a1bf7775b9485acc0a63fa", func := "simile/similelaw05.RatCommon", spec := "ratCommon", unfollowed := true, recurses := true, apart := false }
def RatCommonSaid : Prop := ratCommonRow.holds Try.pinned (OpenSpec.ofChange ratCommonSpec)

/-- ITS FALSE NEIGHBOUR: 'it returns false'. Refute it at one input. -/
def ratCommonWrong : ChangeSpec := { name := "ratCommon", fn := fun _ => fun
  | [d] => { results := [.lit (.bool false)], args := [d] }
  | _ => none }
def RatCommonWrongFalsely : Prop := ratCommonRow.holds Try.pinned (OpenSpec.ofChange ratCommonWrong)

/-- 'similelaw05.RatSums': WHATEVER THE INPUT: true; the input reads as it did. -/
def ratSumsSpec : ChangeSpec := { name := "ratSums", fn := fun _ => fun
  | [d1, d2] => { results := [.lit (.bool true)], args := [d1, d2] }
  | _ => none }
def ratSumsRow : OpenClaim := { program := "ytoinfkimlhhmpaa", sum := "155eedac77792723b1770f6c7cfd41dfebb37aaea1a1bf7775b9485acc0a63fa", func := "simile/similelaw05.RatSums", spec := "ratSums", unfollowed := true, recurses := true, apart := false }
def RatSumsSaid : Prop := ratSumsRow.holds Try.pinned (OpenSpec.ofChange ratSumsSpec)

/-- ITS FALSE NEIGHBOUR: 'it returns false'. Refute it at one input. -/
def ratSumsWrong : ChangeSpec := { name := "ratSums", fn := fun _ => fun
  | [d1, d2] => { results := [.lit (.bool false)], args := [d1, d2] }
  | _ => none }
def RatSumsWrongFalsely : Prop := ratSumsRow.holds Try.pinned (OpenSpec.ofChange ratSumsWrong)

/-- 'similelaw05.RatPowers': WHATEVER THE INPUT: true; the input reads as it did. -/
def ratPowersSpec : ChangeSpec := { name := "ratPowers", fn := fun _ => fun
  | [d1, d2] => { results := [.lit (.bool true)], args := [d1, d2] }
  | _ => none }
def ratPowersRow : OpenClaim := { program := "ytoinfkimlhhmpaa", sum := "155eedac77792723b1770f6c7cfd41dfebb37aaea1a1bf7775b9485acc0a63fa", func := "simile/similelaw05.RatPowers", spec := "ratPowers", unfollowed := true, recurses := true, apart := false }
def RatPowersSaid : Prop := ratPowersRow.holds Try.pinned (OpenSpec.ofChange ratPowersSpec)

/-- ITS FALSE NEIGHBOUR: 'it returns false'. Refute it at one input. -/
def ratPowersWrong : ChangeSpec := { name := "ratPowers", fn := fun _ => fun
  | [d1, d2] => { results := [.lit (.bool false)], args := [d1, d2] }
  | _ => none }
def RatPowersWrongFalsely : Prop := ratPowersRow.holds Try.pinned (OpenSpec.ofChange ratPowersWrong)

/-- 'similelaw05.RatForms': WHATEVER THE INPUT: true; the input reads as it did. -/
def ratFormsSpec : ChangeSpec := { name := "ratForms", fn := fun _ => fun
  | [d1, d2, d3] => { results := [.lit (.bool true)], args := [d1, d2, d3] }
  | _ => none }
def ratFormsRow : OpenClaim := { program := "ytoinfkimlhhmpaa", sum := "155eedac77792723b1770f6c7cfd41dfebb37aaea1a1bf7775b9485acc0a63fa", func := "simile/similelaw05.RatForms", spec := "ratForms", unfollowed := true, recurses := true, apart := false }
def RatFormsSaid : Prop := ratFormsRow.holds Try.pinned (OpenSpec.ofChange ratFormsSpec)

/-- ITS FALSE NEIGHBOUR: 'it returns false'. Refute it at one input. -/
def ratFormsWrong : ChangeSpec := { name := "ratForms", fn := fun _ => fun
  | [d1, d2, d3] => { results := [.lit (.bool false)], args := [d1, d2, d3] }
  | _ => none }
def RatFormsWrongFalsely : Prop := ratFormsRow.holds Try.pinned (OpenSpec.ofChange ratFormsWrong)

/-- 'similelaw05.RatField': WHATEVER THE INPUT: true; the input reads as it did. -/
def ratFieldSpec : ChangeSpec := { name := "ratField", fn := fun _ => fun
  | [d1, d2, d3] => { results := [.lit (.bool true)], args := [d1, d2, d3] }
  | _ => none }
def ratFieldRow : OpenClaim := { program := "ytoinfkimlhhmpaa", sum := "155eedac77792723b1770f6c7cfd41dfebb37aaea1a1bf7775b9485acc0a63fa", func := "simile/similelaw05.RatField", spec := "ratField", unfollowed := true, recurses := true, apart := false }
def RatFieldSaid : Prop := ratFieldRow.holds Try.pinned (OpenSpec.ofChange ratFieldSpec)

/-- ITS FALSE NEIGHBOUR: 'it returns false'. Refute it at one input. -/
def ratFieldWrong : ChangeSpec := { name := "ratField", fn := fun _ => fun
  | [d1, d2, d3] => { results := [.lit (.bool false)], args := [d1, d2, d3] }
  | _ => none }
def RatFieldWrongFalsely : Prop := ratFieldRow.holds Try.pinned (OpenSpec.ofChange ratFieldWrong)

/- THE SECOND FORM. 'bulk': how many values and letters a reading holds, each counted each time it is reached (what is shared counts as often as it is met; a slice's spare places count too). A statement '..UptoSaid' is the law's where the arguments, and the package variables that the reading takes, are together of bulk at most 1048576: NARROWER than '..Said'. Prove '..Said' where nothing that the law and all that it calls make is longer than what came in: it says more and counts as full. Else prove '..UptoSaid'. A law counts once. -/
mutual
def uptoBulk {H : Type} : DataW H → Nat
  | .lit (.string bytes) => bytes.length + 1
  | .lit _ => 1
  | .nil => 1
  | .ptr d => uptoBulk d + 1
  | .slice elems spare => uptoBulkAll elems + uptoBulkAll spare + 1
  | .agg parts => uptoBulkAll parts + 1
  | .iface _ d => uptoBulk d + 1
  | .map entries => uptoBulkEntries entries + 1
  | .held _ => 1
def uptoBulkAll {H : Type} : List (DataW H) → Nat
  | [] => 0
  | d :: r => uptoBulk d + uptoBulkAll r
def uptoBulkEntries {H : Type} : List (Lit × DataW H) → Nat
  | [] => 0
  | x :: r => uptoBulkEntry x + uptoBulkEntries r
def uptoBulkEntry {H : Type} : Lit × DataW H → Nat
  | (.string bytes, d) => bytes.length + uptoBulk d + 1
  | (_, d) => uptoBulk d + 1
 end
def uptoSmall : (H : Type) → List (DataW H) → Bool := fun _ ds => decide (uptoBulkAll ds ≤ 1048576)
def OpenSpec.upto (s : _root_.Go.ChangeSpec) : _root_.Go.OpenSpec := { _root_.Go.OpenSpec.ofChange s with cond := some uptoSmall }

/-- 'similelaw05.RatQuotients', WHERE WHAT IT READS IS OF BULK AT MOST 1048576: true; the input reads as it did. -/
def ratQuotientsUptoRow : OpenClaim := { program := "ytoinfkimlhhmpaa", sum := "155eedac77792723b1770f6c7cfd41dfebb37aaea1a1bf7775b9485acc0a63fa", func := "simile/similelaw05.RatQuotients", spec := "ratQuotients", unfollowed := true, recurses := true, apart := false, narrowed := true }
def RatQuotientsUptoSaid : Prop := ratQuotientsUptoRow.holds Try.pinned (OpenSpec.upto ratQuotientsSpec)

/-- 'similelaw05.RatCommon', WHERE WHAT IT READS IS OF BULK AT MOST 1048576: true; the input reads as it did. -/
def ratCommonUptoRow : OpenClaim := { program := "ytoinfkimlhhmpaa", sum := "155eedac77792723b1770f6c7cfd41dfebb37aaea1a1bf7775b9485acc0a63fa", func := "simile/similelaw05.RatCommon", spec := "ratCommon", unfollowed := true, recurses := true, apart := false, narrowed := true }
def RatCommonUptoSaid : Prop := ratCommonUptoRow.holds Try.pinned (OpenSpec.upto ratCommonSpec)

/-- 'similelaw05.RatSums', WHERE WHAT IT READS IS OF BULK AT MOST 1048576: true; the input reads as it did. -/
def ratSumsUptoRow : OpenClaim := { program := "ytoinfkimlhhmpaa", sum := "155eedac77792723b1770f6c7cfd41dfebb37aaea1a1bf7775b9485acc0a63fa", func := "simile/similelaw05.RatSums", spec := "ratSums", unfollowed := true, recurses := true, apart := false, narrowed := true }
def RatSumsUptoSaid : Prop := ratSumsUptoRow.holds Try.pinned (OpenSpec.upto ratSumsSpec)

/-- 'similelaw05.RatPowers', WHERE WHAT IT READS IS OF BULK AT MOST 1048576: true; the input reads as it did. -/
def ratPowersUptoRow : OpenClaim := { program := "ytoinfkimlhhmpaa", sum := "155eedac77792723b1770f6c7cfd41dfebb37aaea1a1bf7775b9485acc0a63fa", func := "simile/similelaw05.RatPowers", spec := "ratPowers", unfollowed := true, recurses := true, apart := false, narrowed := true }
def RatPowersUptoSaid : Prop := ratPowersUptoRow.holds Try.pinned (OpenSpec.upto ratPowersSpec)

/-- 'similelaw05.RatForms', WHERE WHAT IT READS IS OF BULK AT MOST 1048576: true; the input reads as it did. -/
def ratFormsUptoRow : OpenClaim := { program := "ytoinfkimlhhmpaa", sum := "155eedac77792723b1770f6c7cfd41dfebb37aaea1a1bf7775b9485acc0a63fa", func := "simile/similelaw05.RatForms", spec := "ratForms", unfollowed := true, recurses := true, apart := false, narrowed := true }
def RatFormsUptoSaid : Prop := ratFormsUptoRow.holds Try.pinned (OpenSpec.upto ratFormsSpec)

/-- 'similelaw05.RatField', WHERE WHAT IT READS IS OF BULK AT MOST 1048576: true; the input reads as it did. -/
def ratFieldUptoRow : OpenClaim := { program := "ytoinfkimlhhmpaa", sum := "155eedac77792723b1770f6c7cfd41dfebb37aaea1a1bf7775b9485acc0a63fa", func := "simile/similelaw05.RatField", spec := "ratField", unfollowed := true, recurses := true, apart := false, narrowed := true }
def RatFieldUptoSaid : Prop := ratFieldUptoRow.holds Try.pinned (OpenSpec.upto ratFieldSpec)

end Rows
end Go.Proofs.Ytoinfkimlhhmpaa
