/-
  NARROWER THAN 'FOR EVERY INPUT', by the rows' own cells (each row's printed sentence says how): BoundNames: laid · BoundChooses: laid · BoundGrows: laid · BoundEnough: laid · BoundChosen: laid · BoundCoeffs: laid.
  DERIVED. THE GIVEN ROWS OF THIS SEAT. 6 by the template 'for every input the law returns true; each argument reads behind the call as it read before'; 0 by the template 'total and deterministic' (their statements: YthnilcgmljecdaaDoorTotals.lean).
  GIVEN WITH THE SEED: the statements are not yours to turn. If you find one false, say at which input.
  Laid BY PROGRAM, IN A SANDBOX (cutbox-rows.mjs): the forced cells as the released guide's own fill.sh prints them over the translation 40c5d9cf77aca80c… (all of the seat's roots in one cut). By AI agents, Wed Nov 11 2026. No macro, syntax, notation, axiom, sorry.
-/
import Derived.Test.YthnilcgmljecdaaDoorChecked
import GoSem.Claim
import GoSem.ClaimJoined
import GoSem.ClaimMapViews
import Derived.JoinedTies
import Derived.KernelRfl
namespace Go.Proofs.YthnilcgmljecdaaDoor
/- THE CELL 'sum', in the pinned program and in every row, IS THE sha256 OF THE DUMP (.gsa) THAT YthnilcgmljecdaaDoorProg.lean LOADS. Nothing in Lean hashes anything: it is a label: what it is worth is what the hold of that sum in a sandbox is worth. -/
noncomputable def Tryd.pinned : Pinned := { name := "ythnilcgmljecdaadoor", sum := "40c5d9cf77aca80c50a907ec09898afce93cf4098caa4b2649d13919d635765b", checked := Tryd.checked }
namespace Rows
def none {H : Type} : Left H := { results := [], args := [] }

/- WHAT THE LISTED PACKAGE-LEVEL VARIABLES READ AS WHEN THE CALL BEGINS. Each datum BY PROGRAM (the guide's laid-datum.mjs) off the statement by which the dump's own 'gosem.cut.vars' lays the variable. In a bare row this is a premise. The card (YthnilcgmljecdaaDoorCards.lean) ties it to the program's text. -/
def laid_math_bits_deBruijn32tab {H : Type} : DataW H := .agg [.lit (.int .u8 0), .lit (.int .u8 1), .lit (.int .u8 28), .lit (.int .u8 2), .lit (.int .u8 29), .lit (.int .u8 14), .lit (.int .u8 24), .lit (.int .u8 3), .lit (.int .u8 30), .lit (.int .u8 22), .lit (.int .u8 20), .lit (.int .u8 15), .lit (.int .u8 25), .lit (.int .u8 17), .lit (.int .u8 4), .lit (.int .u8 8), .lit (.int .u8 31), .lit (.int .u8 27), .lit (.int .u8 13), .lit (.int .u8 23), .lit (.int .u8 21), .lit (.int .u8 19), .lit (.int .u8 16), .lit (.int .u8 7), .lit (.int .u8 26), .lit (.int .u8 12), .lit (.int .u8 18), .lit (.int .u8 6), .lit (.int .u8 11), .lit (.int .u8 5), .lit (.int .u8 10), .lit (.int .u8 9)]
def laid_simile_prime_bases {H : Type} : DataW H := .agg [.lit (.int .u32 2), .lit (.int .u32 7), .lit (.int .u32 61)]

/-- 'similelaw22.BoundNames': WHATEVER THE INPUT: true; the input reads as it did. -/
def boundNamesSpec : ChangeSpec := { name := "boundNames", fn := fun _ => fun
  | [] => { results := [.lit (.bool true)], args := [] }
  | _ => none }
def boundNamesRow : OpenClaim := { program := "ythnilcgmljecdaadoor", sum := "40c5d9cf77aca80c50a907ec09898afce93cf4098caa4b2649d13919d635765b", func := "simile/similelaw22.BoundNames", spec := "boundNames", unfollowed := true, recurses := true, named := ["simile/prime.bases", "math/bits.deBruijn32tab"], apart := false, laid := [("math/bits.deBruijn32tab", laid_math_bits_deBruijn32tab), ("simile/prime.bases", laid_simile_prime_bases)] }
def BoundNamesSaid : Prop := boundNamesRow.holds Tryd.pinned (OpenSpec.ofChange boundNamesSpec)

/-- ITS FALSE NEIGHBOUR: 'it returns false'. Refute it at one input. -/
def boundNamesWrong : ChangeSpec := { name := "boundNames", fn := fun _ => fun
  | [] => { results := [.lit (.bool false)], args := [] }
  | _ => none }
def BoundNamesWrongFalsely : Prop := boundNamesRow.holds Tryd.pinned (OpenSpec.ofChange boundNamesWrong)

/-- 'similelaw22.BoundChooses': WHATEVER THE INPUT: true; the input reads as it did. -/
def boundChoosesSpec : ChangeSpec := { name := "boundChooses", fn := fun _ => fun
  | [d1, d2] => { results := [.lit (.bool true)], args := [d1, d2] }
  | _ => none }
def boundChoosesRow : OpenClaim := { program := "ythnilcgmljecdaadoor", sum := "40c5d9cf77aca80c50a907ec09898afce93cf4098caa4b2649d13919d635765b", func := "simile/similelaw22.BoundChooses", spec := "boundChooses", unfollowed := true, recurses := true, named := ["simile/prime.bases", "math/bits.deBruijn32tab"], apart := false, laid := [("math/bits.deBruijn32tab", laid_math_bits_deBruijn32tab), ("simile/prime.bases", laid_simile_prime_bases)] }
def BoundChoosesSaid : Prop := boundChoosesRow.holds Tryd.pinned (OpenSpec.ofChange boundChoosesSpec)

/-- ITS FALSE NEIGHBOUR: 'it returns false'. Refute it at one input. -/
def boundChoosesWrong : ChangeSpec := { name := "boundChooses", fn := fun _ => fun
  | [d1, d2] => { results := [.lit (.bool false)], args := [d1, d2] }
  | _ => none }
def BoundChoosesWrongFalsely : Prop := boundChoosesRow.holds Tryd.pinned (OpenSpec.ofChange boundChoosesWrong)

/-- 'similelaw22.BoundGrows': WHATEVER THE INPUT: true; the input reads as it did. -/
def boundGrowsSpec : ChangeSpec := { name := "boundGrows", fn := fun _ => fun
  | [d1, d2, d3] => { results := [.lit (.bool true)], args := [d1, d2, d3] }
  | _ => none }
def boundGrowsRow : OpenClaim := { program := "ythnilcgmljecdaadoor", sum := "40c5d9cf77aca80c50a907ec09898afce93cf4098caa4b2649d13919d635765b", func := "simile/similelaw22.BoundGrows", spec := "boundGrows", unfollowed := true, recurses := true, named := ["simile/prime.bases", "math/bits.deBruijn32tab"], apart := false, laid := [("math/bits.deBruijn32tab", laid_math_bits_deBruijn32tab), ("simile/prime.bases", laid_simile_prime_bases)] }
def BoundGrowsSaid : Prop := boundGrowsRow.holds Tryd.pinned (OpenSpec.ofChange boundGrowsSpec)

/-- ITS FALSE NEIGHBOUR: 'it returns false'. Refute it at one input. -/
def boundGrowsWrong : ChangeSpec := { name := "boundGrows", fn := fun _ => fun
  | [d1, d2, d3] => { results := [.lit (.bool false)], args := [d1, d2, d3] }
  | _ => none }
def BoundGrowsWrongFalsely : Prop := boundGrowsRow.holds Tryd.pinned (OpenSpec.ofChange boundGrowsWrong)

/-- 'similelaw22.BoundEnough': WHATEVER THE INPUT: true; the input reads as it did. -/
def boundEnoughSpec : ChangeSpec := { name := "boundEnough", fn := fun _ => fun
  | [d1, d2] => { results := [.lit (.bool true)], args := [d1, d2] }
  | _ => none }
def boundEnoughRow : OpenClaim := { program := "ythnilcgmljecdaadoor", sum := "40c5d9cf77aca80c50a907ec09898afce93cf4098caa4b2649d13919d635765b", func := "simile/similelaw22.BoundEnough", spec := "boundEnough", unfollowed := true, recurses := true, named := ["simile/prime.bases", "math/bits.deBruijn32tab"], apart := false, laid := [("math/bits.deBruijn32tab", laid_math_bits_deBruijn32tab), ("simile/prime.bases", laid_simile_prime_bases)] }
def BoundEnoughSaid : Prop := boundEnoughRow.holds Tryd.pinned (OpenSpec.ofChange boundEnoughSpec)

/-- ITS FALSE NEIGHBOUR: 'it returns false'. Refute it at one input. -/
def boundEnoughWrong : ChangeSpec := { name := "boundEnough", fn := fun _ => fun
  | [d1, d2] => { results := [.lit (.bool false)], args := [d1, d2] }
  | _ => none }
def BoundEnoughWrongFalsely : Prop := boundEnoughRow.holds Tryd.pinned (OpenSpec.ofChange boundEnoughWrong)

/-- 'similelaw22.BoundChosen': WHATEVER THE INPUT: true; the input reads as it did. -/
def boundChosenSpec : ChangeSpec := { name := "boundChosen", fn := fun _ => fun
  | [d1, d2] => { results := [.lit (.bool true)], args := [d1, d2] }
  | _ => none }
def boundChosenRow : OpenClaim := { program := "ythnilcgmljecdaadoor", sum := "40c5d9cf77aca80c50a907ec09898afce93cf4098caa4b2649d13919d635765b", func := "simile/similelaw22.BoundChosen", spec := "boundChosen", unfollowed := true, recurses := true, named := ["simile/prime.bases", "math/bits.deBruijn32tab"], apart := false, laid := [("math/bits.deBruijn32tab", laid_math_bits_deBruijn32tab), ("simile/prime.bases", laid_simile_prime_bases)] }
def BoundChosenSaid : Prop := boundChosenRow.holds Tryd.pinned (OpenSpec.ofChange boundChosenSpec)

/-- ITS FALSE NEIGHBOUR: 'it returns false'. Refute it at one input. -/
def boundChosenWrong : ChangeSpec := { name := "boundChosen", fn := fun _ => fun
  | [d1, d2] => { results := [.lit (.bool false)], args := [d1, d2] }
  | _ => none }
def BoundChosenWrongFalsely : Prop := boundChosenRow.holds Tryd.pinned (OpenSpec.ofChange boundChosenWrong)

/-- 'similelaw22.BoundCoeffs': WHATEVER THE INPUT: true; the input reads as it did. -/
def boundCoeffsSpec : ChangeSpec := { name := "boundCoeffs", fn := fun _ => fun
  | [d] => { results := [.lit (.bool true)], args := [d] }
  | _ => none }
def boundCoeffsRow : OpenClaim := { program := "ythnilcgmljecdaadoor", sum := "40c5d9cf77aca80c50a907ec09898afce93cf4098caa4b2649d13919d635765b", func := "simile/similelaw22.BoundCoeffs", spec := "boundCoeffs", unfollowed := true, recurses := true, named := ["simile/prime.bases", "math/bits.deBruijn32tab"], apart := false, laid := [("math/bits.deBruijn32tab", laid_math_bits_deBruijn32tab), ("simile/prime.bases", laid_simile_prime_bases)] }
def BoundCoeffsSaid : Prop := boundCoeffsRow.holds Tryd.pinned (OpenSpec.ofChange boundCoeffsSpec)

/-- ITS FALSE NEIGHBOUR: 'it returns false'. Refute it at one input. -/
def boundCoeffsWrong : ChangeSpec := { name := "boundCoeffs", fn := fun _ => fun
  | [d] => { results := [.lit (.bool false)], args := [d] }
  | _ => none }
def BoundCoeffsWrongFalsely : Prop := boundCoeffsRow.holds Tryd.pinned (OpenSpec.ofChange boundCoeffsWrong)

/- THE SECOND FORM. 'bulk': how many values and letters a reading holds, each counted each time it is reached (what is shared counts as often as it is met; a slice's spare places count too). A statement '..UptoSaid' is the law's where the arguments, and the package variables that the reading takes, are together of bulk at most 1048576: NARROWER than '..Said'. Prove '..Said' where nothing that the law and all that it calls make is longer than what came in: it says more and counts as full. Else prove '..UptoSaid'. A law counts once. -/
mutual
def uptoBulk {H : Type} : DataW H → Nat
  | .lit (.string bytes) => bytes.length + 1
  | .lit _ => 1
  | .nil => 1
  | .ptr d => uptoBulk d + 1
  | .slice elems spare => uptoBulkAll elems + uptoBulkAll spare + 1
  | .agg parts => uptoBulkAll parts + 1
  | .iface _ d => uptoBulk d + 1
  | .map entries => uptoBulkEntries entries + 1
  | .held _ => 1
def uptoBulkAll {H : Type} : List (DataW H) → Nat
  | [] => 0
  | d :: r => uptoBulk d + uptoBulkAll r
def uptoBulkEntries {H : Type} : List (Lit × DataW H) → Nat
  | [] => 0
  | x :: r => uptoBulkEntry x + uptoBulkEntries r
def uptoBulkEntry {H : Type} : Lit × DataW H → Nat
  | (.string bytes, d) => bytes.length + uptoBulk d + 1
  | (_, d) => uptoBulk d + 1
 end
def uptoSmall : (H : Type) → List (DataW H) → Bool := fun _ ds => decide (uptoBulkAll ds ≤ 1048576)
def OpenSpec.upto (s : _root_.Go.ChangeSpec) : _root_.Go.OpenSpec := { _root_.Go.OpenSpec.ofChange s with cond := some uptoSmall }

/-- 'similelaw22.BoundNames', WHERE WHAT IT READS IS OF BULK AT MOST 1048576: true; the input reads as it did. -/
def boundNamesUptoRow : OpenClaim := { program := "ythnilcgmljecdaadoor", sum := "40c5d9cf77aca80c50a907ec09898afce93cf4098caa4b2649d13919d635765b", func := "simile/similelaw22.BoundNames", spec := "boundNames", unfollowed := true, recurses := true, named := ["simile/prime.bases", "math/bits.deBruijn32tab"], apart := false, laid := [("math/bits.deBruijn32tab", laid_math_bits_deBruijn32tab), ("simile/prime.bases", laid_simile_prime_bases)], narrowed := true }
def BoundNamesUptoSaid : Prop := boundNamesUptoRow.holds Tryd.pinned (OpenSpec.upto boundNamesSpec)

/-- 'similelaw22.BoundChooses', WHERE WHAT IT READS IS OF BULK AT MOST 1048576: true; the input reads as it did. -/
def boundChoosesUptoRow : OpenClaim := { program := "ythnilcgmljecdaadoor", sum := "40c5d9cf77aca80c50a907ec09898afce93cf4098caa4b2649d13919d635765b", func := "simile/similelaw22.BoundChooses", spec := "boundChooses", unfollowed := true, recurses := true, named := ["simile/prime.bases", "math/bits.deBruijn32tab"], apart := false, laid := [("math/bits.deBruijn32tab", laid_math_bits_deBruijn32tab), ("simile/prime.bases", laid_simile_prime_bases)], narrowed := true }
def BoundChoosesUptoSaid : Prop := boundChoosesUptoRow.holds Tryd.pinned (OpenSpec.upto boundChoosesSpec)

/-- 'similelaw22.BoundGrows', WHERE WHAT IT READS IS OF BULK AT MOST 1048576: true; the input reads as it did. -/
def boundGrowsUptoRow : OpenClaim := { program := "ythnilcgmljecdaadoor", sum := "40c5d9cf77aca80c50a907ec09898afce93cf4098caa4b2649d13919d635765b", func := "simile/similelaw22.BoundGrows", spec := "boundGrows", unfollowed := true, recurses := true, named := ["simile/prime.bases", "math/bits.deBruijn32tab"], apart := false, laid := [("math/bits.deBruijn32tab", laid_math_bits_deBruijn32tab), ("simile/prime.bases", laid_simile_prime_bases)], narrowed := true }
def BoundGrowsUptoSaid : Prop := boundGrowsUptoRow.holds Tryd.pinned (OpenSpec.upto boundGrowsSpec)

/-- 'similelaw22.BoundEnough', WHERE WHAT IT READS IS OF BULK AT MOST 1048576: true; the input reads as it did. -/
def boundEnoughUptoRow : OpenClaim := { program := "ythnilcgmljecdaadoor", sum := "40c5d9cf77aca80c50a907ec09898afce93cf4098caa4b2649d13919d635765b", func := "simile/similelaw22.BoundEnough", spec := "boundEnough", unfollowed := true, recurses := true, named := ["simile/prime.bases", "math/bits.deBruijn32tab"], apart := false, laid := [("math/bits.deBruijn32tab", laid_math_bits_deBruijn32tab), ("simile/prime.bases", laid_simile_prime_bases)], narrowed := true }
def BoundEnoughUptoSaid : Prop := boundEnoughUptoRow.holds Tryd.pinned (OpenSpec.upto boundEnoughSpec)

/-- 'similelaw22.BoundChosen', WHERE WHAT IT READS IS OF BULK AT MOST 1048576: true; the input reads as it did. -/
def boundChosenUptoRow : OpenClaim := { program := "ythnilcgmljecdaadoor", sum := "40c5d9cf77aca80c50a907ec09898afce93cf4098caa4b2649d13919d635765b", func := "simile/similelaw22.BoundChosen", spec := "boundChosen", unfollowed := true, recurses := true, named := ["simile/prime.bases", "math/bits.deBruijn32tab"], apart := false, laid := [("math/bits.deBruijn32tab", laid_math_bits_deBruijn32tab), ("simile/prime.bases", laid_simile_prime_bases)], narrowed := true }
def BoundChosenUptoSaid : Prop := boundChosenUptoRow.holds Tryd.pinned (OpenSpec.upto boundChosenSpec)

/-- 'similelaw22.BoundCoeffs', WHERE WHAT IT READS IS OF BULK AT MOST 1048576: true; the input reads as it did. -/
def boundCoeffsUptoRow : OpenClaim := { program := "ythnilcgmljecdaadoor", sum := "40c5d9cf77aca80c50a907ec09898afce93cf4098caa4b2649d13919d635765b", func := "simile/similelaw22.BoundCoeffs", spec := "boundCoeffs", unfollowed := true, recurses := true, named := ["simile/prime.bases", "math/bits.deBruijn32tab"], apart := false, laid := [("math/bits.deBruijn32tab", laid_math_bits_deBruijn32tab), ("simile/prime.bases", laid_simile_prime_bases)], narrowed := true }
def BoundCoeffsUptoSaid : Prop := boundCoeffsUptoRow.holds Tryd.pinned (OpenSpec.upto boundCoeffsSpec)

end Rows
end Go.Proofs.YthnilcgmljecdaaDoor
