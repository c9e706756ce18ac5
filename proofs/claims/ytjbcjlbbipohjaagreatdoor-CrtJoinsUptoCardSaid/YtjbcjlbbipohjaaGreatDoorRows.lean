/-
  NARROWER THAN 'FOR EVERY INPUT', by the rows' own cells (each row's printed sentence says how): CrtNames: laid · CrtRecons: laid · CrtSays: laid · CrtFractions: laid · CrtLifts: laid · CrtSigned: laid · CrtOf: laid · CrtJoins: laid · CrtAdds: laid · CrtNone: laid.
  DERIVED. THE GIVEN ROWS OF THIS SEAT. 10 by the template 'for every input the law returns true; each argument reads behind the call as it read before'; 0 by the template 'total and deterministic' (their statements: YtjbcjlbbipohjaaGreatDoorTotals.lean).
  GIVEN WITH THE SEED: the statements are not yours to turn. If you find one false, say at which input.
  Laid BY PROGRAM, IN A SANDBOX (cutbox-rows.mjs): the forced cells as the released guide's own fill.sh prints them over the translation 39a268767d58dc1b… (all of the seat's roots in one cut). By AI agents, Wed Nov 11 2026. No macro, syntax, notation, axiom, sorry.
-/
import Derived.Test.YtjbcjlbbipohjaaGreatDoorChecked
import GoSem.Claim
import GoSem.ClaimJoined
import GoSem.ClaimMapViews
import Derived.JoinedTies
import Derived.KernelRfl
namespace Go.Proofs.YtjbcjlbbipohjaaGreatDoor
/- THE CELL 'sum', in the pinned program and in every row, IS THE sha256 OF THE DUMP (.gsa) THAT YtjbcjlbbipohjaaGreatDoorProg.lean LOADS. Nothing in Lean hashes anything: it is a label: what it is worth is what the hold of that sum in a sandbox is worth. -/
noncomputable def Tryz.pinned : Pinned := { name := "ytjbcjlbbipohjaagreatdoor", sum := "39a268767d58dc1bc58f7bdd804969097c1a1541cbc55d4cd6ce1e12307ca49f", checked := Tryz.checked }
namespace Rows
def none {H : Type} : Left H := { results := [], args := [] }

/- WHAT THE LISTED PACKAGE-LEVEL VARIABLES READ AS WHEN THE CALL BEGINS. Each datum BY PROGRAM (the guide's laid-datum.mjs) off the statement by which the dump's own 'gosem.cut.vars' lays the variable. In a bare row this is a premise. The card (YtjbcjlbbipohjaaGreatDoorCards.lean) ties it to the program's text. -/
def laid_math_bits_deBruijn32tab {H : Type} : DataW H := .agg [.lit (.int .u8 0), .lit (.int .u8 1), .lit (.int .u8 28), .lit (.int .u8 2), .lit (.int .u8 29), .lit (.int .u8 14), .lit (.int .u8 24), .lit (.int .u8 3), .lit (.int .u8 30), .lit (.int .u8 22), .lit (.int .u8 20), .lit (.int .u8 15), .lit (.int .u8 25), .lit (.int .u8 17), .lit (.int .u8 4), .lit (.int .u8 8), .lit (.int .u8 31), .lit (.int .u8 27), .lit (.int .u8 13), .lit (.int .u8 23), .lit (.int .u8 21), .lit (.int .u8 19), .lit (.int .u8 16), .lit (.int .u8 7), .lit (.int .u8 26), .lit (.int .u8 12), .lit (.int .u8 18), .lit (.int .u8 6), .lit (.int .u8 11), .lit (.int .u8 5), .lit (.int .u8 10), .lit (.int .u8 9)]
def laid_simile_prime_bases {H : Type} : DataW H := .agg [.lit (.int .u32 2), .lit (.int .u32 7), .lit (.int .u32 61)]

/-- 'similelaw06.CrtNames': WHATEVER THE INPUT: true; the input reads as it did. -/
def crtNamesSpec : ChangeSpec := { name := "crtNames", fn := fun _ => fun
  | [] => { results := [.lit (.bool true)], args := [] }
  | _ => none }
def crtNamesRow : OpenClaim := { program := "ytjbcjlbbipohjaagreatdoor", sum := "39a268767d58dc1bc58f7bdd804969097c1a1541cbc55d4cd6ce1e12307ca49f", func := "simile/similelaw06.CrtNames", spec := "crtNames", inPlace := ["internal/reflectlite.TypeOf"], unfollowed := true, recurses := true, named := ["simile/prime.bases", "math/bits.deBruijn32tab"], apart := false, laid := [("math/bits.deBruijn32tab", laid_math_bits_deBruijn32tab), ("simile/prime.bases", laid_simile_prime_bases)] }
def CrtNamesSaid : Prop := crtNamesRow.holds Tryz.pinned (OpenSpec.ofChange crtNamesSpec)

/-- ITS FALSE NEIGHBOUR: 'it returns false'. Refute it at one input. -/
def crtNamesWrong : ChangeSpec := { name := "crtNames", fn := fun _ => fun
  | [] => { results := [.lit (.bool false)], args := [] }
  | _ => none }
def CrtNamesWrongFalsely : Prop := crtNamesRow.holds Tryz.pinned (OpenSpec.ofChange crtNamesWrong)

/-- 'similelaw06.CrtRecons': WHATEVER THE INPUT: true; the input reads as it did. -/
def crtReconsSpec : ChangeSpec := { name := "crtRecons", fn := fun _ => fun
  | [d1, d2, d3] => { results := [.lit (.bool true)], args := [d1, d2, d3] }
  | _ => none }
def crtReconsRow : OpenClaim := { program := "ytjbcjlbbipohjaagreatdoor", sum := "39a268767d58dc1bc58f7bdd804969097c1a1541cbc55d4cd6ce1e12307ca49f", func := "simile/similelaw06.CrtRecons", spec := "crtRecons", inPlace := ["internal/reflectlite.TypeOf"], unfollowed := true, recurses := true, named := ["simile/prime.bases", "math/bits.deBruijn32tab"], apart := false, laid := [("math/bits.deBruijn32tab", laid_math_bits_deBruijn32tab), ("simile/prime.bases", laid_simile_prime_bases)] }
def CrtReconsSaid : Prop := crtReconsRow.holds Tryz.pinned (OpenSpec.ofChange crtReconsSpec)

/-- ITS FALSE NEIGHBOUR: 'it returns false'. Refute it at one input. -/
def crtReconsWrong : ChangeSpec := { name := "crtRecons", fn := fun _ => fun
  | [d1, d2, d3] => { results := [.lit (.bool false)], args := [d1, d2, d3] }
  | _ => none }
def CrtReconsWrongFalsely : Prop := crtReconsRow.holds Tryz.pinned (OpenSpec.ofChange crtReconsWrong)

/-- 'similelaw06.CrtSays': WHATEVER THE INPUT: true; the input reads as it did. -/
def crtSaysSpec : ChangeSpec := { name := "crtSays", fn := fun _ => fun
  | [d] => { results := [.lit (.bool true)], args := [d] }
  | _ => none }
def crtSaysRow : OpenClaim := { program := "ytjbcjlbbipohjaagreatdoor", sum := "39a268767d58dc1bc58f7bdd804969097c1a1541cbc55d4cd6ce1e12307ca49f", func := "simile/similelaw06.CrtSays", spec := "crtSays", inPlace := ["internal/reflectlite.TypeOf"], unfollowed := true, recurses := true, named := ["simile/prime.bases", "math/bits.deBruijn32tab"], apart := false, laid := [("math/bits.deBruijn32tab", laid_math_bits_deBruijn32tab), ("simile/prime.bases", laid_simile_prime_bases)] }
def CrtSaysSaid : Prop := crtSaysRow.holds Tryz.pinned (OpenSpec.ofChange crtSaysSpec)

/-- ITS FALSE NEIGHBOUR: 'it returns false'. Refute it at one input. -/
def crtSaysWrong : ChangeSpec := { name := "crtSays", fn := fun _ => fun
  | [d] => { results := [.lit (.bool false)], args := [d] }
  | _ => none }
def CrtSaysWrongFalsely : Prop := crtSaysRow.holds Tryz.pinned (OpenSpec.ofChange crtSaysWrong)

/-- 'similelaw06.CrtFractions': WHATEVER THE INPUT: true; the input reads as it did. -/
def crtFractionsSpec : ChangeSpec := { name := "crtFractions", fn := fun _ => fun
  | [d1, d2, d3] => { results := [.lit (.bool true)], args := [d1, d2, d3] }
  | _ => none }
def crtFractionsRow : OpenClaim := { program := "ytjbcjlbbipohjaagreatdoor", sum := "39a268767d58dc1bc58f7bdd804969097c1a1541cbc55d4cd6ce1e12307ca49f", func := "simile/similelaw06.CrtFractions", spec := "crtFractions", inPlace := ["internal/reflectlite.TypeOf"], unfollowed := true, recurses := true, named := ["simile/prime.bases", "math/bits.deBruijn32tab"], apart := false, laid := [("math/bits.deBruijn32tab", laid_math_bits_deBruijn32tab), ("simile/prime.bases", laid_simile_prime_bases)] }
def CrtFractionsSaid : Prop := crtFractionsRow.holds Tryz.pinned (OpenSpec.ofChange crtFractionsSpec)

/-- ITS FALSE NEIGHBOUR: 'it returns false'. Refute it at one input. -/
def crtFractionsWrong : ChangeSpec := { name := "crtFractions", fn := fun _ => fun
  | [d1, d2, d3] => { results := [.lit (.bool false)], args := [d1, d2, d3] }
  | _ => none }
def CrtFractionsWrongFalsely : Prop := crtFractionsRow.holds Tryz.pinned (OpenSpec.ofChange crtFractionsWrong)

/-- 'similelaw06.CrtLifts': WHATEVER THE INPUT: true; the input reads as it did. -/
def crtLiftsSpec : ChangeSpec := { name := "crtLifts", fn := fun _ => fun
  | [d1, d2] => { results := [.lit (.bool true)], args := [d1, d2] }
  | _ => none }
def crtLiftsRow : OpenClaim := { program := "ytjbcjlbbipohjaagreatdoor", sum := "39a268767d58dc1bc58f7bdd804969097c1a1541cbc55d4cd6ce1e12307ca49f", func := "simile/similelaw06.CrtLifts", spec := "crtLifts", inPlace := ["internal/reflectlite.TypeOf"], unfollowed := true, recurses := true, named := ["simile/prime.bases", "math/bits.deBruijn32tab"], apart := false, laid := [("math/bits.deBruijn32tab", laid_math_bits_deBruijn32tab), ("simile/prime.bases", laid_simile_prime_bases)] }
def CrtLiftsSaid : Prop := crtLiftsRow.holds Tryz.pinned (OpenSpec.ofChange crtLiftsSpec)

/-- ITS FALSE NEIGHBOUR: 'it returns false'. Refute it at one input. -/
def crtLiftsWrong : ChangeSpec := { name := "crtLifts", fn := fun _ => fun
  | [d1, d2] => { results := [.lit (.bool false)], args := [d1, d2] }
  | _ => none }
def CrtLiftsWrongFalsely : Prop := crtLiftsRow.holds Tryz.pinned (OpenSpec.ofChange crtLiftsWrong)

/-- 'similelaw06.CrtSigned': WHATEVER THE INPUT: true; the input reads as it did. -/
def crtSignedSpec : ChangeSpec := { name := "crtSigned", fn := fun _ => fun
  | [d1, d2] => { results := [.lit (.bool true)], args := [d1, d2] }
  | _ => none }
def crtSignedRow : OpenClaim := { program := "ytjbcjlbbipohjaagreatdoor", sum := "39a268767d58dc1bc58f7bdd804969097c1a1541cbc55d4cd6ce1e12307ca49f", func := "simile/similelaw06.CrtSigned", spec := "crtSigned", inPlace := ["internal/reflectlite.TypeOf"], unfollowed := true, recurses := true, named := ["simile/prime.bases", "math/bits.deBruijn32tab"], apart := false, laid := [("math/bits.deBruijn32tab", laid_math_bits_deBruijn32tab), ("simile/prime.bases", laid_simile_prime_bases)] }
def CrtSignedSaid : Prop := crtSignedRow.holds Tryz.pinned (OpenSpec.ofChange crtSignedSpec)

/-- ITS FALSE NEIGHBOUR: 'it returns false'. Refute it at one input. -/
def crtSignedWrong : ChangeSpec := { name := "crtSigned", fn := fun _ => fun
  | [d1, d2] => { results := [.lit (.bool false)], args := [d1, d2] }
  | _ => none }
def CrtSignedWrongFalsely : Prop := crtSignedRow.holds Tryz.pinned (OpenSpec.ofChange crtSignedWrong)

/-- 'similelaw06.CrtOf': WHATEVER THE INPUT: true; the input reads as it did. -/
def crtOfSpec : ChangeSpec := { name := "crtOf", fn := fun _ => fun
  | [d1, d2] => { results := [.lit (.bool true)], args := [d1, d2] }
  | _ => none }
def crtOfRow : OpenClaim := { program := "ytjbcjlbbipohjaagreatdoor", sum := "39a268767d58dc1bc58f7bdd804969097c1a1541cbc55d4cd6ce1e12307ca49f", func := "simile/similelaw06.CrtOf", spec := "crtOf", inPlace := ["internal/reflectlite.TypeOf"], unfollowed := true, recurses := true, named := ["simile/prime.bases", "math/bits.deBruijn32tab"], apart := false, laid := [("math/bits.deBruijn32tab", laid_math_bits_deBruijn32tab), ("simile/prime.bases", laid_simile_prime_bases)] }
def CrtOfSaid : Prop := crtOfRow.holds Tryz.pinned (OpenSpec.ofChange crtOfSpec)

/-- ITS FALSE NEIGHBOUR: 'it returns false'. Refute it at one input. -/
def crtOfWrong : ChangeSpec := { name := "crtOf", fn := fun _ => fun
  | [d1, d2] => { results := [.lit (.bool false)], args := [d1, d2] }
  | _ => none }
def CrtOfWrongFalsely : Prop := crtOfRow.holds Tryz.pinned (OpenSpec.ofChange crtOfWrong)

/-- 'similelaw06.CrtJoins': WHATEVER THE INPUT: true; the input reads as it did. -/
def crtJoinsSpec : ChangeSpec := { name := "crtJoins", fn := fun _ => fun
  | [d1, d2] => { results := [.lit (.bool true)], args := [d1, d2] }
  | _ => none }
def crtJoinsRow : OpenClaim := { program := "ytjbcjlbbipohjaagreatdoor", sum := "39a268767d58dc1bc58f7bdd804969097c1a1541cbc55d4cd6ce1e12307ca49f", func := "simile/similelaw06.CrtJoins", spec := "crtJoins", inPlace := ["internal/reflectlite.TypeOf"], unfollowed := true, recurses := true, named := ["simile/prime.bases", "math/bits.deBruijn32tab"], apart := false, laid := [("math/bits.deBruijn32tab", laid_math_bits_deBruijn32tab), ("simile/prime.bases", laid_simile_prime_bases)] }
def CrtJoinsSaid : Prop := crtJoinsRow.holds Tryz.pinned (OpenSpec.ofChange crtJoinsSpec)

/-- ITS FALSE NEIGHBOUR: 'it returns false'. Refute it at one input. -/
def crtJoinsWrong : ChangeSpec := { name := "crtJoins", fn := fun _ => fun
  | [d1, d2] => { results := [.lit (.bool false)], args := [d1, d2] }
  | _ => none }
def CrtJoinsWrongFalsely : Prop := crtJoinsRow.holds Tryz.pinned (OpenSpec.ofChange crtJoinsWrong)

/-- 'similelaw06.CrtAdds': WHATEVER THE INPUT: true; the input reads as it did. -/
def crtAddsSpec : ChangeSpec := { name := "crtAdds", fn := fun _ => fun
  | [d] => { results := [.lit (.bool true)], args := [d] }
  | _ => none }
def crtAddsRow : OpenClaim := { program := "ytjbcjlbbipohjaagreatdoor", sum := "39a268767d58dc1bc58f7bdd804969097c1a1541cbc55d4cd6ce1e12307ca49f", func := "simile/similelaw06.CrtAdds", spec := "crtAdds", inPlace := ["internal/reflectlite.TypeOf"], unfollowed := true, recurses := true, named := ["simile/prime.bases", "math/bits.deBruijn32tab"], apart := false, laid := [("math/bits.deBruijn32tab", laid_math_bits_deBruijn32tab), ("simile/prime.bases", laid_simile_prime_bases)] }
def CrtAddsSaid : Prop := crtAddsRow.holds Tryz.pinned (OpenSpec.ofChange crtAddsSpec)

/-- ITS FALSE NEIGHBOUR: 'it returns false'. Refute it at one input. -/
def crtAddsWrong : ChangeSpec := { name := "crtAdds", fn := fun _ => fun
  | [d] => { results := [.lit (.bool false)], args := [d] }
  | _ => none }
def CrtAddsWrongFalsely : Prop := crtAddsRow.holds Tryz.pinned (OpenSpec.ofChange crtAddsWrong)

/-- 'similelaw06.CrtNone': WHATEVER THE INPUT: true; the input reads as it did. -/
def crtNoneSpec : ChangeSpec := { name := "crtNone", fn := fun _ => fun
  | [d1, d2] => { results := [.lit (.bool true)], args := [d1, d2] }
  | _ => none }
def crtNoneRow : OpenClaim := { program := "ytjbcjlbbipohjaagreatdoor", sum := "39a268767d58dc1bc58f7bdd804969097c1a1541cbc55d4cd6ce1e12307ca49f", func := "simile/similelaw06.CrtNone", spec := "crtNone", inPlace := ["internal/reflectlite.TypeOf"], unfollowed := true, recurses := true, named := ["simile/prime.bases", "math/bits.deBruijn32tab"], apart := false, laid := [("math/bits.deBruijn32tab", laid_math_bits_deBruijn32tab), ("simile/prime.bases", laid_simile_prime_bases)] }
def CrtNoneSaid : Prop := crtNoneRow.holds Tryz.pinned (OpenSpec.ofChange crtNoneSpec)

/-- ITS FALSE NEIGHBOUR: 'it returns false'. Refute it at one input. -/
def crtNoneWrong : ChangeSpec := { name := "crtNone", fn := fun _ => fun
  | [d1, d2] => { results := [.lit (.bool false)], args := [d1, d2] }
  | _ => none }
def CrtNoneWrongFalsely : Prop := crtNoneRow.holds Tryz.pinned (OpenSpec.ofChange crtNoneWrong)

/- THE SECOND FORM. 'bulk': how many values and letters a reading holds, each counted each time it is reached (what is shared counts as often as it is met; a slice's spare places count too). A statement '..UptoSaid' is the law's where the arguments, and the package variables that the reading takes, are together of bulk at most 1048576: NARROWER than '..Said'. Prove '..Said' where nothing that the law and all that it calls make is longer than what came in: it says more and counts as full. Else prove '..UptoSaid'. A law counts once. -/
mutual
def uptoBulk {H : Type} : DataW H → Nat
  | .lit (.string bytes) => bytes.length + 1
  | .lit _ => 1
  | .nil => 1
  | .ptr d => uptoBulk d + 1
  | .slice elems spare => uptoBulkAll elems + uptoBulkAll spare + 1
  | .agg parts => uptoBulkAll parts + 1
  | .iface _ d => uptoBulk d + 1
  | .map entries => uptoBulkEntries entries + 1
  | .held _ => 1
def uptoBulkAll {H : Type} : List (DataW H) → Nat
  | [] => 0
  | d :: r => uptoBulk d + uptoBulkAll r
def uptoBulkEntries {H : Type} : List (Lit × DataW H) → Nat
  | [] => 0
  | x :: r => uptoBulkEntry x + uptoBulkEntries r
def uptoBulkEntry {H : Type} : Lit × DataW H → Nat
  | (.string bytes, d) => bytes.length + uptoBulk d + 1
  | (_, d) => uptoBulk d + 1
 end
def uptoSmall : (H : Type) → List (DataW H) → Bool := fun _ ds => decide (uptoBulkAll ds ≤ 1048576)
def OpenSpec.upto (s : _root_.Go.ChangeSpec) : _root_.Go.OpenSpec := { _root_.Go.OpenSpec.ofChange s with cond := some uptoSmall }

/-- 'similelaw06.CrtNames', WHERE WHAT IT READS IS OF BULK AT MOST 1048576: true; the input reads as it did. -/
def crtNamesUptoRow : OpenClaim := { program := "ytjbcjlbbipohjaagreatdoor", sum := "39a268767d58dc1bc58f7bdd804969097c1a1541cbc55d4cd6ce1e12307ca49f", func := "simile/similelaw06.CrtNames", spec := "crtNames", inPlace := ["internal/reflectlite.TypeOf"], unfollowed := true, recurses := true, named := ["simile/prime.bases", "math/bits.deBruijn32tab"], apart := false, laid := [("math/bits.deBruijn32tab", laid_math_bits_deBruijn32tab), ("simile/prime.bases", laid_simile_prime_bases)], narrowed := true }
def CrtNamesUptoSaid : Prop := crtNamesUptoRow.holds Tryz.pinned (OpenSpec.upto crtNamesSpec)

/-- 'similelaw06.CrtRecons', WHERE WHAT IT READS IS OF BULK AT MOST 1048576: true; the input reads as it did. -/
def crtReconsUptoRow : OpenClaim := { program := "ytjbcjlbbipohjaagreatdoor", sum := "39a268767d58dc1bc58f7bdd804969097c1a1541cbc55d4cd6ce1e12307ca49f", func := "simile/similelaw06.CrtRecons", spec := "crtRecons", inPlace := ["internal/reflectlite.TypeOf"], unfollowed := true, recurses := true, named := ["simile/prime.bases", "math/bits.deBruijn32tab"], apart := false, laid := [("math/bits.deBruijn32tab", laid_math_bits_deBruijn32tab), ("simile/prime.bases", laid_simile_prime_bases)], narrowed := true }
def CrtReconsUptoSaid : Prop := crtReconsUptoRow.holds Tryz.pinned (OpenSpec.upto crtReconsSpec)

/-- 'similelaw06.CrtSays', WHERE WHAT IT READS IS OF BULK AT MOST 1048576: true; the input reads as it did. -/
def crtSaysUptoRow : OpenClaim := { program := "ytjbcjlbbipohjaagreatdoor", sum := "39a268767d58dc1bc58f7bdd804969097c1a1541cbc55d4cd6ce1e12307ca49f", func := "simile/similelaw06.CrtSays", spec := "crtSays", inPlace := ["internal/reflectlite.TypeOf"], unfollowed := true, recurses := true, named := ["simile/prime.bases", "math/bits.deBruijn32tab"], apart := false, laid := [("math/bits.deBruijn32tab", laid_math_bits_deBruijn32tab), ("simile/prime.bases", laid_simile_prime_bases)], narrowed := true }
def CrtSaysUptoSaid : Prop := crtSaysUptoRow.holds Tryz.pinned (OpenSpec.upto crtSaysSpec)

/-- 'similelaw06.CrtFractions', WHERE WHAT IT READS IS OF BULK AT MOST 1048576: true; the input reads as it did. -/
def crtFractionsUptoRow : OpenClaim := { program := "ytjbcjlbbipohjaagreatdoor", sum := "39a268767d58dc1bc58f7bdd804969097c1a1541cbc55d4cd6ce1e12307ca49f", func := "simile/similelaw06.CrtFractions", spec := "crtFractions", inPlace := ["internal/reflectlite.TypeOf"], unfollowed := true, recurses := true, named := ["simile/prime.bases", "math/bits.deBruijn32tab"], apart := false, laid := [("math/bits.deBruijn32tab", laid_math_bits_deBruijn32tab), ("simile/prime.bases", laid_simile_prime_bases)], narrowed := true }
def CrtFractionsUptoSaid : Prop := crtFractionsUptoRow.holds Tryz.pinned (OpenSpec.upto crtFractionsSpec)

/-- 'similelaw06.CrtLifts', WHERE WHAT IT READS IS OF BULK AT MOST 1048576: true; the input reads as it did. -/
def crtLiftsUptoRow : OpenClaim := { program := "ytjbcjlbbipohjaagreatdoor", sum := "39a268767d58dc1bc58f7bdd804969097c1a1541cbc55d4cd6ce1e12307ca49f", func := "simile/similelaw06.CrtLifts", spec := "crtLifts", inPlace := ["internal/reflectlite.TypeOf"], unfollowed := true, recurses := true, named := ["simile/prime.bases", "math/bits.deBruijn32tab"], apart := false, laid := [("math/bits.deBruijn32tab", laid_math_bits_deBruijn32tab), ("simile/prime.bases", laid_simile_prime_bases)], narrowed := true }
def CrtLiftsUptoSaid : Prop := crtLiftsUptoRow.holds Tryz.pinned (OpenSpec.upto crtLiftsSpec)

/-- 'similelaw06.CrtSigned', WHERE WHAT IT READS IS OF BULK AT MOST 1048576: true; the input reads as it did. -/
def crtSignedUptoRow : OpenClaim := { program := "ytjbcjlbbipohjaagreatdoor", sum := "39a268767d58dc1bc58f7bdd804969097c1a1541cbc55d4cd6ce1e12307ca49f", func := "simile/similelaw06.CrtSigned", spec := "crtSigned", inPlace := ["internal/reflectlite.TypeOf"], unfollowed := true, recurses := true, named := ["simile/prime.bases", "math/bits.deBruijn32tab"], apart := false, laid := [("math/bits.deBruijn32tab", laid_math_bits_deBruijn32tab), ("simile/prime.bases", laid_simile_prime_bases)], narrowed := true }
def CrtSignedUptoSaid : Prop := crtSignedUptoRow.holds Tryz.pinned (OpenSpec.upto crtSignedSpec)

/-- 'similelaw06.CrtOf', WHERE WHAT IT READS IS OF BULK AT MOST 1048576: true; the input reads as it did. -/
def crtOfUptoRow : OpenClaim := { program := "ytjbcjlbbipohjaagreatdoor", sum := "39a268767d58dc1bc58f7bdd804969097c1a1541cbc55d4cd6ce1e12307ca49f", func := "simile/similelaw06.CrtOf", spec := "crtOf", inPlace := ["internal/reflectlite.TypeOf"], unfollowed := true, recurses := true, named := ["simile/prime.bases", "math/bits.deBruijn32tab"], apart := false, laid := [("math/bits.deBruijn32tab", laid_math_bits_deBruijn32tab), ("simile/prime.bases", laid_simile_prime_bases)], narrowed := true }
def CrtOfUptoSaid : Prop := crtOfUptoRow.holds Tryz.pinned (OpenSpec.upto crtOfSpec)

/-- 'similelaw06.CrtJoins', WHERE WHAT IT READS IS OF BULK AT MOST 1048576: true; the input reads as it did. -/
def crtJoinsUptoRow : OpenClaim := { program := "ytjbcjlbbipohjaagreatdoor", sum := "39a268767d58dc1bc58f7bdd804969097c1a1541cbc55d4cd6ce1e12307ca49f", func := "simile/similelaw06.CrtJoins", spec := "crtJoins", inPlace := ["internal/reflectlite.TypeOf"], unfollowed := true, recurses := true, named := ["simile/prime.bases", "math/bits.deBruijn32tab"], apart := false, laid := [("math/bits.deBruijn32tab", laid_math_bits_deBruijn32tab), ("simile/prime.bases", laid_simile_prime_bases)], narrowed := true }
def CrtJoinsUptoSaid : Prop := crtJoinsUptoRow.holds Tryz.pinned (OpenSpec.upto crtJoinsSpec)

/-- 'similelaw06.CrtAdds', WHERE WHAT IT READS IS OF BULK AT MOST 1048576: true; the input reads as it did. -/
def crtAddsUptoRow : OpenClaim := { program := "ytjbcjlbbipohjaagreatdoor", sum := "39a268767d58dc1bc58f7bdd804969097c1a1541cbc55d4cd6ce1e12307ca49f", func := "simile/similelaw06.CrtAdds", spec := "crtAdds", inPlace := ["internal/reflectlite.TypeOf"], unfollowed := true, recurses := true, named := ["simile/prime.bases", "math/bits.deBruijn32tab"], apart := false, laid := [("math/bits.deBruijn32tab", laid_math_bits_deBruijn32tab), ("simile/prime.bases", laid_simile_prime_bases)], narrowed := true }
def CrtAddsUptoSaid : Prop := crtAddsUptoRow.holds Tryz.pinned (OpenSpec.upto crtAddsSpec)

/-- 'similelaw06.CrtNone', WHERE WHAT IT READS IS OF BULK AT MOST 1048576: true; the input reads as it did. -/
def crtNoneUptoRow : OpenClaim := { program := "ytjbcjlbbipohjaagreatdoor", sum := "39a268767d58dc1bc58f7bdd804969097c1a1541cbc55d4cd6ce1e12307ca49f", func := "simile/similelaw06.CrtNone", spec := "crtNone", inPlace := ["internal/reflectlite.TypeOf"], unfollowed := true, recurses := true, named := ["simile/prime.bases", "math/bits.deBruijn32tab"], apart := false, laid := [("math/bits.deBruijn32tab", laid_math_bits_deBruijn32tab), ("simile/prime.bases", laid_simile_prime_bases)], narrowed := true }
def CrtNoneUptoSaid : Prop := crtNoneUptoRow.holds Tryz.pinned (OpenSpec.upto crtNoneSpec)

end Rows
end Go.Proofs.YtjbcjlbbipohjaaGreatDoor
