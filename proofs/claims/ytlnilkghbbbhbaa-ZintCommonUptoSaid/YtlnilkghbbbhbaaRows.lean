/-
  No cell of these rows narrows 'for every input' (looked for: loops, veiled, ifaces, maps, wideKeys, modest, calm, conditions, laid).
  DERIVED. THE GIVEN ROWS OF THIS SEAT. 7 by the template 'for every input the law returns true; each argument reads behind the call as it read before'; 0 by the template 'total and deterministic' (their statements: YtlnilkghbbbhbaaTotals.lean).
  GIVEN WITH THE SEED: the statements are not yours to turn. If you find one false, say at which input.
  Laid BY PROGRAM, IN A SANDBOX (cutbox-rows.mjs): the forced cells as the released guide's own fill.sh prints them over the translation 919136df6118c846… (all of the seat's roots in one cut). By AI agents, Wed Nov 11 2026. No macro, syntax, notation, axiom, sorry.
-/
import Derived.Test.YtlnilkghbbbhbaaChecked
import GoSem.Claim
import GoSem.ClaimJoined
import GoSem.ClaimMapViews
import Derived.JoinedTies
import Derived.KernelRfl
namespace Go.Proofs.Ytlnilkghbbbhbaa
/- THE CELL 'sum', in the pinned program and in every row, IS THE sha256 OF THE DUMP (.gsa) THAT YtlnilkghbbbhbaaProg.lean LOADS. Nothing in Lean hashes anything: it is a label: what it is worth is what the hold of that sum in a sandbox is worth. -/
noncomputable def Try.pinned : Pinned := { name := "ytlnilkghbbbhbaa", sum := "919136df6118c84616572050d4585db29601de73f52a19338e27948b990ab2a9", checked := Try.checked }
namespace Rows
def none {H : Type} : Left H := { results := [], args := [] }

/-- 'similelaw03.ZintSums': WHATEVER THE INPUT: true; the input reads as it did. -/
def zintSumsSpec : ChangeSpec := { name := "zintSums", fn := fun _ => fun
  | [d1, d2] => { results := [.lit (.bool true)], args := [d1, d2] }
  | _ => none }
def zintSumsRow : OpenClaim := { program := "ytlnilkghbbbhbaa", sum := "919136df6118c84616572050d4585db29601de73f52a19338e27948b990ab2a9", func := "simile/similelaw03.ZintSums", spec := "zintSums", unfollowed := true, recurses := true, apart := false }
def ZintSumsSaid : Prop := zintSumsRow.holds Try.pinned (OpenSpec.ofChange zintSumsSpec)

/-- ITS FALSE NEIGHBOUR: 'it returns false'. Refute it at one input. -/
def zintSumsWrong : ChangeSpec := { name := "zintSums", fn := fun _ => fun
  | [d1, d2] => { results := [.lit (.bool false)], args := [d1, d2] }
  | _ => none }
def ZintSumsWrongFalsely : Prop := zintSumsRow.holds Try.pinned (OpenSpec.ofChange zintSumsWrong)

/-- 'similelaw03.ZintForms': WHATEVER THE INPUT: true; the input reads as it did. -/
def zintFormsSpec : ChangeSpec := { name := "zintForms", fn := fun _ => fun
  | [d1, d2, d3] => { results := [.lit (.bool true)], args := [d1, d2, d3] }
  | _ => none }
def zintFormsRow : OpenClaim := { program := "ytlnilkghbbbhbaa", sum := "919136df6118c84616572050d4585db29601de73f52a19338e27948b990ab2a9", func := "simile/similelaw03.ZintForms", spec := "zintForms", unfollowed := true, recurses := true, apart := false }
def ZintFormsSaid : Prop := zintFormsRow.holds Try.pinned (OpenSpec.ofChange zintFormsSpec)

/-- ITS FALSE NEIGHBOUR: 'it returns false'. Refute it at one input. -/
def zintFormsWrong : ChangeSpec := { name := "zintForms", fn := fun _ => fun
  | [d1, d2, d3] => { results := [.lit (.bool false)], args := [d1, d2, d3] }
  | _ => none }
def ZintFormsWrongFalsely : Prop := zintFormsRow.holds Try.pinned (OpenSpec.ofChange zintFormsWrong)

/-- 'similelaw03.ZintDivides': WHATEVER THE INPUT: true; the input reads as it did. -/
def zintDividesSpec : ChangeSpec := { name := "zintDivides", fn := fun _ => fun
  | [d1, d2, d3] => { results := [.lit (.bool true)], args := [d1, d2, d3] }
  | _ => none }
def zintDividesRow : OpenClaim := { program := "ytlnilkghbbbhbaa", sum := "919136df6118c84616572050d4585db29601de73f52a19338e27948b990ab2a9", func := "simile/similelaw03.ZintDivides", spec := "zintDivides", unfollowed := true, recurses := true, apart := false }
def ZintDividesSaid : Prop := zintDividesRow.holds Try.pinned (OpenSpec.ofChange zintDividesSpec)

/-- ITS FALSE NEIGHBOUR: 'it returns false'. Refute it at one input. -/
def zintDividesWrong : ChangeSpec := { name := "zintDivides", fn := fun _ => fun
  | [d1, d2, d3] => { results := [.lit (.bool false)], args := [d1, d2, d3] }
  | _ => none }
def ZintDividesWrongFalsely : Prop := zintDividesRow.holds Try.pinned (OpenSpec.ofChange zintDividesWrong)

/-- 'similelaw03.ZintBezout': WHATEVER THE INPUT: true; the input reads as it did. -/
def zintBezoutSpec : ChangeSpec := { name := "zintBezout", fn := fun _ => fun
  | [d1, d2] => { results := [.lit (.bool true)], args := [d1, d2] }
  | _ => none }
def zintBezoutRow : OpenClaim := { program := "ytlnilkghbbbhbaa", sum := "919136df6118c84616572050d4585db29601de73f52a19338e27948b990ab2a9", func := "simile/similelaw03.ZintBezout", spec := "zintBezout", unfollowed := true, recurses := true, apart := false }
def ZintBezoutSaid : Prop := zintBezoutRow.holds Try.pinned (OpenSpec.ofChange zintBezoutSpec)

/-- ITS FALSE NEIGHBOUR: 'it returns false'. Refute it at one input. -/
def zintBezoutWrong : ChangeSpec := { name := "zintBezout", fn := fun _ => fun
  | [d1, d2] => { results := [.lit (.bool false)], args := [d1, d2] }
  | _ => none }
def ZintBezoutWrongFalsely : Prop := zintBezoutRow.holds Try.pinned (OpenSpec.ofChange zintBezoutWrong)

/-- 'similelaw03.ZintCommon': WHATEVER THE INPUT: true; the input reads as it did. -/
def zintCommonSpec : ChangeSpec := { name := "zintCommon", fn := fun _ => fun
  | [d] => { results := [.lit (.bool true)], args := [d] }
  | _ => none }
def zintCommonRow : OpenClaim := { program := "ytlnilkghbbbhbaa", sum := "919136df6118c84616572050d4585db29601de73f52a19338e27948b990ab2a9", func := "simile/similelaw03.ZintCommon", spec := "zintCommon", unfollowed := true, recurses := true, apart := false }
def ZintCommonSaid : Prop := zintCommonRow.holds Try.pinned (OpenSpec.ofChange zintCommonSpec)

/-- ITS FALSE NEIGHBOUR: 'it returns false'. Refute it at one input. -/
def zintCommonWrong : ChangeSpec := { name := "zintCommon", fn := fun _ => fun
  | [d] => { results := [.lit (.bool false)], args := [d] }
  | _ => none }
def ZintCommonWrongFalsely : Prop := zintCommonRow.holds Try.pinned (OpenSpec.ofChange zintCommonWrong)

/-- 'similelaw03.ZintPowers': WHATEVER THE INPUT: true; the input reads as it did. -/
def zintPowersSpec : ChangeSpec := { name := "zintPowers", fn := fun _ => fun
  | [d1, d2] => { results := [.lit (.bool true)], args := [d1, d2] }
  | _ => none }
def zintPowersRow : OpenClaim := { program := "ytlnilkghbbbhbaa", sum := "919136df6118c84616572050d4585db29601de73f52a19338e27948b990ab2a9", func := "simile/similelaw03.ZintPowers", spec := "zintPowers", unfollowed := true, recurses := true, apart := false }
def ZintPowersSaid : Prop := zintPowersRow.holds Try.pinned (OpenSpec.ofChange zintPowersSpec)

/-- ITS FALSE NEIGHBOUR: 'it returns false'. Refute it at one input. -/
def zintPowersWrong : ChangeSpec := { name := "zintPowers", fn := fun _ => fun
  | [d1, d2] => { results := [.lit (.bool false)], args := [d1, d2] }
  | _ => none }
def ZintPowersWrongFalsely : Prop := zintPowersRow.holds Try.pinned (OpenSpec.ofChange zintPowersWrong)

/-- 'similelaw03.ZintRing': WHATEVER THE INPUT: true; the input reads as it did. -/
def zintRingSpec : ChangeSpec := { name := "zintRing", fn := fun _ => fun
  | [d1, d2, d3] => { results := [.lit (.bool true)], args := [d1, d2, d3] }
  | _ => none }
def zintRingRow : OpenClaim := { program := "ytlnilkghbbbhbaa", sum := "919136df6118c84616572050d4585db29601de73f52a19338e27948b990ab2a9", func := "simile/similelaw03.ZintRing", spec := "zintRing", unfollowed := true, recurses := true, apart := false }
def ZintRingSaid : Prop := zintRingRow.holds Try.pinned (OpenSpec.ofChange zintRingSpec)

/-- ITS FALSE NEIGHBOUR: 'it returns false'. Refute it at one input. -/
def zintRingWrong : ChangeSpec := { name := "zintRing", fn := fun _ => fun
  | [d1, d2, d3] => { results := [.lit (.bool false)], args := [d1, d2, d3] }
  | _ => none }
def ZintRingWrongFalsely : Prop := zintRingRow.holds Try.pinned (OpenSpec.ofChange zintRingWrong)

/- THE SECOND FORM. 'bulk': how many values and letters a reading holds, each counted each time it is reached (what is shared counts as often as it is met; a slice's spare places count too). A statement '..UptoSaid' is the law's where the arguments, and the package variables that the reading takes, are together of bulk at most 1048576: NARROWER than '..Said'. Prove '..Said' where nothing that the law and all that it calls make is longer than what came in: it says more and counts as full. Else prove '..UptoSaid'. A law counts once. -/
mutual
def uptoBulk {H : Type} : DataW H → Nat
  | .lit (.string bytes) => bytes.length + 1
  | .lit _ => 1
  | .nil => 1
  | .ptr d => uptoBulk d + 1
  | .slice elems spare => uptoBulkAll elems + uptoBulkAll spare + 1
  | .agg parts => uptoBulkAll parts + 1
  | .iface _ d => uptoBulk d + 1
  | .map entries => uptoBulkEntries entries + 1
  | .held _ => 1
def uptoBulkAll {H : Type} : List (DataW H) → Nat
  | [] => 0
  | d :: r => uptoBulk d + uptoBulkAll r
def uptoBulkEntries {H : Type} : List (Lit × DataW H) → Nat
  | [] => 0
  | x :: r => uptoBulkEntry x + uptoBulkEntries r
def uptoBulkEntry {H : Type} : Lit × DataW H → Nat
  | (.string bytes, d) => bytes.length + uptoBulk d + 1
  | (_, d) => uptoBulk d + 1
 end
def uptoSmall : (H : Type) → List (DataW H) → Bool := fun _ ds => decide (uptoBulkAll ds ≤ 1048576)
def OpenSpec.upto (s : _root_.Go.ChangeSpec) : _root_.Go.OpenSpec := { _root_.Go.OpenSpec.ofChange s with cond := some uptoSmall }

/-- 'similelaw03.ZintSums', WHERE WHAT IT READS IS OF BULK AT MOST 1048576: true; the input reads as it did. -/
def zintSumsUptoRow : OpenClaim := { program := "ytlnilkghbbbhbaa", sum := "919136df6118c84616572050d4585db29601de73f52a19338e27948b990ab2a9", func := "simile/similelaw03.ZintSums", spec := "zintSums", unfollowed := true, recurses := true, apart := false, narrowed := true }
def ZintSumsUptoSaid : Prop := zintSumsUptoRow.holds Try.pinned (OpenSpec.upto zintSumsSpec)

/-- 'similelaw03.ZintForms', WHERE WHAT IT READS IS OF BULK AT MOST 1048576: true; the input reads as it did. -/
def zintFormsUptoRow : OpenClaim := { program := "ytlnilkghbbbhbaa", sum := "919136df6118c84616572050d4585db29601de73f52a19338e27948b990ab2a9", func := "simile/similelaw03.ZintForms", spec := "zintForms", unfollowed := true, recurses := true, apart := false, narrowed := true }
def ZintFormsUptoSaid : Prop := zintFormsUptoRow.holds Try.pinned (OpenSpec.upto zintFormsSpec)

/-- 'similelaw03.ZintDivides', WHERE WHAT IT READS IS OF BULK AT MOST 1048576: true; the input reads as it did. -/
def zintDividesUptoRow : OpenClaim := { program := "ytlnilkghbbbhbaa", sum := "919136df6118c84616572050d4585db29601de73f52a19338e27948b990ab2a9", func := "simile/similelaw03.ZintDivides", spec := "zintDivides", unfollowed := true, recurses := true, apart := false, narrowed := true }
def ZintDividesUptoSaid : Prop := zintDividesUptoRow.holds Try.pinned (OpenSpec.upto zintDividesSpec)

/-- 'similelaw03.ZintBezout', WHERE WHAT IT READS IS OF BULK AT MOST 1048576: true; the input reads as it did. -/
def zintBezoutUptoRow : OpenClaim := { program := "ytlnilkghbbbhbaa", sum := "919136df6118c84616572050d4585db29601de73f52a19338e27948b990ab2a9", func := "simile/similelaw03.ZintBezout", spec := "zintBezout", unfollowed := true, recurses := true, apart := false, narrowed := true }
def ZintBezoutUptoSaid : Prop := zintBezoutUptoRow.holds Try.pinned (OpenSpec.upto zintBezoutSpec)

/-- 'similelaw03.ZintCommon', WHERE WHAT IT READS IS OF BULK AT MOST 1048576: true; the input reads as it did. -/
def zintCommonUptoRow : OpenClaim := { program := "ytlnilkghbbbhbaa", sum := "919136df6118c84616572050d4585db29601de73f52a19338e27948b990ab2a9", func := "simile/similelaw03.ZintCommon", spec := "zintCommon", unfollowed := true, recurses := true, apart := false, narrowed := true }
def ZintCommonUptoSaid : Prop := zintCommonUptoRow.holds Try.pinned (OpenSpec.upto zintCommonSpec)

/-- 'similelaw03.ZintPowers', WHERE WHAT IT READS IS OF BULK AT MOST 1048576: true; the input reads as it did. -/
def zintPowersUptoRow : OpenClaim := { program := "ytlnilkghbbbhbaa", sum := "919136df6118c84616572050d4585db29601de73f52a19338e27948b990ab2a9", func := "simile/similelaw03.ZintPowers", spec := "zintPowers", unfollowed := true, recurses := true, apart := false, narrowed := true }
def ZintPowersUptoSaid : Prop := zintPowersUptoRow.holds Try.pinned (OpenSpec.upto zintPowersSpec)

/-- 'similelaw03.ZintRing', WHERE WHAT IT READS IS OF BULK AT MOST 1048576: true; the input reads as it did. -/
def zintRingUptoRow : OpenClaim := { program := "ytlnilkghbbbhbaa", sum := "919136df6118c84616572050d4585db29601de73f52a19338e27948b990ab2a9", func := "simile/similelaw03.ZintRing", spec := "zintRing", unfollowed := true, recurses := true, apart := false, narrowed := true }
def ZintRingUptoSaid : Prop := zintRingUptoRow.holds Try.pinned (OpenSpec.upto zintRingSpec)

end Rows
end Go.Proofs.Ytlnilkghbbbhbaa
