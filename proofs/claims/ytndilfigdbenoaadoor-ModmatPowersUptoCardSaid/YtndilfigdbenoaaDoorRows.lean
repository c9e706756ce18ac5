/-
  NARROWER THAN 'FOR EVERY INPUT', by the rows' own cells (each row's printed sentence says how): ModmatNames: laid · ModmatInverts: laid · ModmatStays: laid · ModmatBack: laid · ModmatProducts: laid · ModmatPowers: laid · ModmatReduces: laid · ModmatKernels: laid.
  DERIVED. THE GIVEN ROWS OF THIS SEAT. 8 by the template 'for every input the law returns true; each argument reads behind the call as it read before'; 0 by the template 'total and deterministic' (their statements: YtndilfigdbenoaaDoorTotals.lean).
  GIVEN WITH THE SEED: the statements are not yours to turn. If you find one false, say at which input.
  Laid BY PROGRAM, IN A SANDBOX (cutbox-rows.mjs): the forced cells as the released guide's own fill.sh prints them over the translation 3dca1366edfe9d85… (all of the seat's roots in one cut). By AI agents, Wed Nov 11 2026. No macro, syntax, notation, axiom, sorry.
-/
import Derived.Test.YtndilfigdbenoaaDoorChecked
import GoSem.Claim
import GoSem.ClaimJoined
import GoSem.ClaimMapViews
import Derived.JoinedTies
import Derived.KernelRfl
namespace Go.Proofs.YtndilfigdbenoaaDoor
/- THE CELL 'sum', in the pinned program and in every row, IS THE sha256 OF THE DUMP (.gsa) THAT YtndilfigdbenoaaDoorProg.lean LOADS. Nothing in Lean hashes anything: it is a label: what it is worth is what the hold of that sum in a sandbox is worth. -/
noncomputable def Tryd.pinned : Pinned := { name := "ytndilfigdbenoaadoor", sum := "3dca1366edfe9d85f62128a3a75c5b2c37bb2467126609f5decd8197e5022d09", checked := Tryd.checked }
namespace Rows
def none {H : Type} : Left H := { results := [], args := [] }

/- WHAT THE LISTED PACKAGE-LEVEL VARIABLES READ AS WHEN THE CALL BEGINS. Each datum BY PROGRAM (the guide's laid-datum.mjs) off the statement by which the dump's own 'gosem.cut.vars' lays the variable. In a bare row this is a premise. The card (YtndilfigdbenoaaDoorCards.lean) ties it to the program's text. -/
def laid_math_bits_deBruijn32tab {H : Type} : DataW H := .agg [.lit (.int .u8 0), .lit (.int .u8 1), .lit (.int .u8 28), .lit (.int .u8 2), .lit (.int .u8 29), .lit (.int .u8 14), .lit (.int .u8 24), .lit (.int .u8 3), .lit (.int .u8 30), .lit (.int .u8 22), .lit (.int .u8 20), .lit (.int .u8 15), .lit (.int .u8 25), .lit (.int .u8 17), .lit (.int .u8 4), .lit (.int .u8 8), .lit (.int .u8 31), .lit (.int .u8 27), .lit (.int .u8 13), .lit (.int .u8 23), .lit (.int .u8 21), .lit (.int .u8 19), .lit (.int .u8 16), .lit (.int .u8 7), .lit (.int .u8 26), .lit (.int .u8 12), .lit (.int .u8 18), .lit (.int .u8 6), .lit (.int .u8 11), .lit (.int .u8 5), .lit (.int .u8 10), .lit (.int .u8 9)]
def laid_simile_prime_bases {H : Type} : DataW H := .agg [.lit (.int .u32 2), .lit (.int .u32 7), .lit (.int .u32 61)]

/-- 'similelaw10.ModmatNames': WHATEVER THE INPUT: true; the input reads as it did. -/
def modmatNamesSpec : ChangeSpec := { name := "modmatNames", fn := fun _ => fun
  | [] => { results := [.lit (.bool true)], args := [] }
  | _ => none }
def modmatNamesRow : OpenClaim := { program := "ytndilfigdbenoaadoor", sum := "3dca1366edfe9d85f62128a3a75c5b2c37bb2467126609f5decd8197e5022d09", func := "simile/similelaw10.ModmatNames", spec := "modmatNames", unfollowed := true, recurses := true, named := ["simile/prime.bases", "math/bits.deBruijn32tab"], apart := false, laid := [("math/bits.deBruijn32tab", laid_math_bits_deBruijn32tab), ("simile/prime.bases", laid_simile_prime_bases)] }
def ModmatNamesSaid : Prop := modmatNamesRow.holds Tryd.pinned (OpenSpec.ofChange modmatNamesSpec)

/-- ITS FALSE NEIGHBOUR: 'it returns false'. Refute it at one input. -/
def modmatNamesWrong : ChangeSpec := { name := "modmatNames", fn := fun _ => fun
  | [] => { results := [.lit (.bool false)], args := [] }
  | _ => none }
def ModmatNamesWrongFalsely : Prop := modmatNamesRow.holds Tryd.pinned (OpenSpec.ofChange modmatNamesWrong)

/-- 'similelaw10.ModmatInverts': WHATEVER THE INPUT: true; the input reads as it did. -/
def modmatInvertsSpec : ChangeSpec := { name := "modmatInverts", fn := fun _ => fun
  | [d1, d2] => { results := [.lit (.bool true)], args := [d1, d2] }
  | _ => none }
def modmatInvertsRow : OpenClaim := { program := "ytndilfigdbenoaadoor", sum := "3dca1366edfe9d85f62128a3a75c5b2c37bb2467126609f5decd8197e5022d09", func := "simile/similelaw10.ModmatInverts", spec := "modmatInverts", unfollowed := true, recurses := true, named := ["simile/prime.bases", "math/bits.deBruijn32tab"], apart := false, laid := [("math/bits.deBruijn32tab", laid_math_bits_deBruijn32tab), ("simile/prime.bases", laid_simile_prime_bases)] }
def ModmatInvertsSaid : Prop := modmatInvertsRow.holds Tryd.pinned (OpenSpec.ofChange modmatInvertsSpec)

/-- ITS FALSE NEIGHBOUR: 'it returns false'. Refute it at one input. -/
def modmatInvertsWrong : ChangeSpec := { name := "modmatInverts", fn := fun _ => fun
  | [d1, d2] => { results := [.lit (.bool false)], args := [d1, d2] }
  | _ => none }
def ModmatInvertsWrongFalsely : Prop := modmatInvertsRow.holds Tryd.pinned (OpenSpec.ofChange modmatInvertsWrong)

/-- 'similelaw10.ModmatStays': WHATEVER THE INPUT: true; the input reads as it did. -/
def modmatStaysSpec : ChangeSpec := { name := "modmatStays", fn := fun _ => fun
  | [d1, d2] => { results := [.lit (.bool true)], args := [d1, d2] }
  | _ => none }
def modmatStaysRow : OpenClaim := { program := "ytndilfigdbenoaadoor", sum := "3dca1366edfe9d85f62128a3a75c5b2c37bb2467126609f5decd8197e5022d09", func := "simile/similelaw10.ModmatStays", spec := "modmatStays", unfollowed := true, recurses := true, named := ["simile/prime.bases", "math/bits.deBruijn32tab"], apart := false, laid := [("math/bits.deBruijn32tab", laid_math_bits_deBruijn32tab), ("simile/prime.bases", laid_simile_prime_bases)] }
def ModmatStaysSaid : Prop := modmatStaysRow.holds Tryd.pinned (OpenSpec.ofChange modmatStaysSpec)

/-- ITS FALSE NEIGHBOUR: 'it returns false'. Refute it at one input. -/
def modmatStaysWrong : ChangeSpec := { name := "modmatStays", fn := fun _ => fun
  | [d1, d2] => { results := [.lit (.bool false)], args := [d1, d2] }
  | _ => none }
def ModmatStaysWrongFalsely : Prop := modmatStaysRow.holds Tryd.pinned (OpenSpec.ofChange modmatStaysWrong)

/-- 'similelaw10.ModmatBack': WHATEVER THE INPUT: true; the input reads as it did. -/
def modmatBackSpec : ChangeSpec := { name := "modmatBack", fn := fun _ => fun
  | [d1, d2] => { results := [.lit (.bool true)], args := [d1, d2] }
  | _ => none }
def modmatBackRow : OpenClaim := { program := "ytndilfigdbenoaadoor", sum := "3dca1366edfe9d85f62128a3a75c5b2c37bb2467126609f5decd8197e5022d09", func := "simile/similelaw10.ModmatBack", spec := "modmatBack", unfollowed := true, recurses := true, named := ["simile/prime.bases", "math/bits.deBruijn32tab"], apart := false, laid := [("math/bits.deBruijn32tab", laid_math_bits_deBruijn32tab), ("simile/prime.bases", laid_simile_prime_bases)] }
def ModmatBackSaid : Prop := modmatBackRow.holds Tryd.pinned (OpenSpec.ofChange modmatBackSpec)

/-- ITS FALSE NEIGHBOUR: 'it returns false'. Refute it at one input. -/
def modmatBackWrong : ChangeSpec := { name := "modmatBack", fn := fun _ => fun
  | [d1, d2] => { results := [.lit (.bool false)], args := [d1, d2] }
  | _ => none }
def ModmatBackWrongFalsely : Prop := modmatBackRow.holds Tryd.pinned (OpenSpec.ofChange modmatBackWrong)

/-- 'similelaw10.ModmatProducts': WHATEVER THE INPUT: true; the input reads as it did. -/
def modmatProductsSpec : ChangeSpec := { name := "modmatProducts", fn := fun _ => fun
  | [d1, d2, d3] => { results := [.lit (.bool true)], args := [d1, d2, d3] }
  | _ => none }
def modmatProductsRow : OpenClaim := { program := "ytndilfigdbenoaadoor", sum := "3dca1366edfe9d85f62128a3a75c5b2c37bb2467126609f5decd8197e5022d09", func := "simile/similelaw10.ModmatProducts", spec := "modmatProducts", unfollowed := true, recurses := true, named := ["simile/prime.bases", "math/bits.deBruijn32tab"], apart := false, laid := [("math/bits.deBruijn32tab", laid_math_bits_deBruijn32tab), ("simile/prime.bases", laid_simile_prime_bases)] }
def ModmatProductsSaid : Prop := modmatProductsRow.holds Tryd.pinned (OpenSpec.ofChange modmatProductsSpec)

/-- ITS FALSE NEIGHBOUR: 'it returns false'. Refute it at one input. -/
def modmatProductsWrong : ChangeSpec := { name := "modmatProducts", fn := fun _ => fun
  | [d1, d2, d3] => { results := [.lit (.bool false)], args := [d1, d2, d3] }
  | _ => none }
def ModmatProductsWrongFalsely : Prop := modmatProductsRow.holds Tryd.pinned (OpenSpec.ofChange modmatProductsWrong)

/-- 'similelaw10.ModmatPowers': WHATEVER THE INPUT: true; the input reads as it did. -/
def modmatPowersSpec : ChangeSpec := { name := "modmatPowers", fn := fun _ => fun
  | [d1, d2, d3] => { results := [.lit (.bool true)], args := [d1, d2, d3] }
  | _ => none }
def modmatPowersRow : OpenClaim := { program := "ytndilfigdbenoaadoor", sum := "3dca1366edfe9d85f62128a3a75c5b2c37bb2467126609f5decd8197e5022d09", func := "simile/similelaw10.ModmatPowers", spec := "modmatPowers", unfollowed := true, recurses := true, named := ["simile/prime.bases", "math/bits.deBruijn32tab"], apart := false, laid := [("math/bits.deBruijn32tab", laid_math_bits_deBruijn32tab), ("simile/prime.bases", laid_simile_prime_bases)] }
def ModmatPowersSaid : Prop := modmatPowersRow.holds Tryd.pinned (OpenSpec.ofChange modmatPowersSpec)

/-- ITS FALSE NEIGHBOUR: 'it returns false'. Refute it at one input. -/
def modmatPowersWrong : ChangeSpec := { name := "modmatPowers", fn := fun _ => fun
  | [d1, d2, d3] => { results := [.lit (.bool false)], args := [d1, d2, d3] }
  | _ => none }
def ModmatPowersWrongFalsely : Prop := modmatPowersRow.holds Tryd.pinned (OpenSpec.ofChange modmatPowersWrong)

/-- 'similelaw10.ModmatReduces': WHATEVER THE INPUT: true; the input reads as it did. -/
def modmatReducesSpec : ChangeSpec := { name := "modmatReduces", fn := fun _ => fun
  | [d1, d2] => { results := [.lit (.bool true)], args := [d1, d2] }
  | _ => none }
def modmatReducesRow : OpenClaim := { program := "ytndilfigdbenoaadoor", sum := "3dca1366edfe9d85f62128a3a75c5b2c37bb2467126609f5decd8197e5022d09", func := "simile/similelaw10.ModmatReduces", spec := "modmatReduces", unfollowed := true, recurses := true, named := ["simile/prime.bases", "math/bits.deBruijn32tab"], apart := false, laid := [("math/bits.deBruijn32tab", laid_math_bits_deBruijn32tab), ("simile/prime.bases", laid_simile_prime_bases)] }
def ModmatReducesSaid : Prop := modmatReducesRow.holds Tryd.pinned (OpenSpec.ofChange modmatReducesSpec)

/-- ITS FALSE NEIGHBOUR: 'it returns false'. Refute it at one input. -/
def modmatReducesWrong : ChangeSpec := { name := "modmatReduces", fn := fun _ => fun
  | [d1, d2] => { results := [.lit (.bool false)], args := [d1, d2] }
  | _ => none }
def ModmatReducesWrongFalsely : Prop := modmatReducesRow.holds Tryd.pinned (OpenSpec.ofChange modmatReducesWrong)

/-- 'similelaw10.ModmatKernels': WHATEVER THE INPUT: true; the input reads as it did. -/
def modmatKernelsSpec : ChangeSpec := { name := "modmatKernels", fn := fun _ => fun
  | [d1, d2] => { results := [.lit (.bool true)], args := [d1, d2] }
  | _ => none }
def modmatKernelsRow : OpenClaim := { program := "ytndilfigdbenoaadoor", sum := "3dca1366edfe9d85f62128a3a75c5b2c37bb2467126609f5decd8197e5022d09", func := "simile/similelaw10.ModmatKernels", spec := "modmatKernels", unfollowed := true, recurses := true, named := ["simile/prime.bases", "math/bits.deBruijn32tab"], apart := false, laid := [("math/bits.deBruijn32tab", laid_math_bits_deBruijn32tab), ("simile/prime.bases", laid_simile_prime_bases)] }
def ModmatKernelsSaid : Prop := modmatKernelsRow.holds Tryd.pinned (OpenSpec.ofChange modmatKernelsSpec)

/-- ITS FALSE NEIGHBOUR: 'it returns false'. Refute it at one input. -/
def modmatKernelsWrong : ChangeSpec := { name := "modmatKernels", fn := fun _ => fun
  | [d1, d2] => { results := [.lit (.bool false)], args := [d1, d2] }
  | _ => none }
def ModmatKernelsWrongFalsely : Prop := modmatKernelsRow.holds Tryd.pinned (OpenSpec.ofChange modmatKernelsWrong)

/- THE SECOND FORM. 'bulk': how many values and letters a reading holds, each counted each time it is reached (what is shared counts as often as it is met; a slice's spare places count too). A statement '..UptoSaid' is the law's where the arguments, and the package variables that the reading takes, are together of bulk at most 1048576: NARROWER than '..Said'. Prove '..Said' where nothing that the law and all that it calls make is longer than what came in: it says more and counts as full. Else prove '..UptoSaid'. A law counts once. -/
mutual
def uptoBulk {H : Type} : DataW H → Nat
  | .lit (.string bytes) => bytes.length + 1
  | .lit _ => 1
  | .nil => 1
  | .ptr d => uptoBulk d + 1
  | .slice elems spare => uptoBulkAll elems + uptoBulkAll spare + 1
  | .agg parts => uptoBulkAll parts + 1
  | .iface _ d => uptoBulk d + 1
  | .map entries => uptoBulkEntries entries + 1
  | .held _ => 1
def uptoBulkAll {H : Type} : List (DataW H) → Nat
  | [] => 0
  | d :: r => uptoBulk d + uptoBulkAll r
def uptoBulkEntries {H : Type} : List (Lit × DataW H) → Nat
  | [] => 0
  | x :: r => uptoBulkEntry x + uptoBulkEntries r
def uptoBulkEntry {H : Type} : Lit × DataW H → Nat
  | (.string bytes, d) => bytes.length + uptoBulk d + 1
  | (_, d) => uptoBulk d + 1
 end
def uptoSmall : (H : Type) → List (DataW H) → Bool := fun _ ds => decide (uptoBulkAll ds ≤ 1048576)
def OpenSpec.upto (s : _root_.Go.ChangeSpec) : _root_.Go.OpenSpec := { _root_.Go.OpenSpec.ofChange s with cond := some uptoSmall }

/-- 'similelaw10.ModmatNames', WHERE WHAT IT READS IS OF BULK AT MOST 1048576: true; the input reads as it did. -/
def modmatNamesUptoRow : OpenClaim := { program := "ytndilfigdbenoaadoor", sum := "3dca1366edfe9d85f62128a3a75c5b2c37bb2467126609f5decd8197e5022d09", func := "simile/similelaw10.ModmatNames", spec := "modmatNames", unfollowed := true, recurses := true, named := ["simile/prime.bases", "math/bits.deBruijn32tab"], apart := false, laid := [("math/bits.deBruijn32tab", laid_math_bits_deBruijn32tab), ("simile/prime.bases", laid_simile_prime_bases)], narrowed := true }
def ModmatNamesUptoSaid : Prop := modmatNamesUptoRow.holds Tryd.pinned (OpenSpec.upto modmatNamesSpec)

/-- 'similelaw10.ModmatInverts', WHERE WHAT IT READS IS OF BULK AT MOST 1048576: true; the input reads as it did. -/
def modmatInvertsUptoRow : OpenClaim := { program := "ytndilfigdbenoaadoor", sum := "3dca1366edfe9d85f62128a3a75c5b2c37bb2467126609f5decd8197e5022d09", func := "simile/similelaw10.ModmatInverts", spec := "modmatInverts", unfollowed := true, recurses := true, named := ["simile/prime.bases", "math/bits.deBruijn32tab"], apart := false, laid := [("math/bits.deBruijn32tab", laid_math_bits_deBruijn32tab), ("simile/prime.bases", laid_simile_prime_bases)], narrowed := true }
def ModmatInvertsUptoSaid : Prop := modmatInvertsUptoRow.holds Tryd.pinned (OpenSpec.upto modmatInvertsSpec)

/-- 'similelaw10.ModmatStays', WHERE WHAT IT READS IS OF BULK AT MOST 1048576: true; the input reads as it did. -/
def modmatStaysUptoRow : OpenClaim := { program := "ytndilfigdbenoaadoor", sum := "3dca1366edfe9d85f62128a3a75c5b2c37bb2467126609f5decd8197e5022d09", func := "simile/similelaw10.ModmatStays", spec := "modmatStays", unfollowed := true, recurses := true, named := ["simile/prime.bases", "math/bits.deBruijn32tab"], apart := false, laid := [("math/bits.deBruijn32tab", laid_math_bits_deBruijn32tab), ("simile/prime.bases", laid_simile_prime_bases)], narrowed := true }
def ModmatStaysUptoSaid : Prop := modmatStaysUptoRow.holds Tryd.pinned (OpenSpec.upto modmatStaysSpec)

/-- 'similelaw10.ModmatBack', WHERE WHAT IT READS IS OF BULK AT MOST 1048576: true; the input reads as it did. -/
def modmatBackUptoRow : OpenClaim := { program := "ytndilfigdbenoaadoor", sum := "3dca1366edfe9d85f62128a3a75c5b2c37bb2467126609f5decd8197e5022d09", func := "simile/similelaw10.ModmatBack", spec := "modmatBack", unfollowed := true, recurses := true, named := ["simile/prime.bases", "math/bits.deBruijn32tab"], apart := false, laid := [("math/bits.deBruijn32tab", laid_math_bits_deBruijn32tab), ("simile/prime.bases", laid_simile_prime_bases)], narrowed := true }
def ModmatBackUptoSaid : Prop := modmatBackUptoRow.holds Tryd.pinned (OpenSpec.upto modmatBackSpec)

/-- 'similelaw10.ModmatProducts', WHERE WHAT IT READS IS OF BULK AT MOST 1048576: true; the input reads as it did. -/
def modmatProductsUptoRow : OpenClaim := { program := "ytndilfigdbenoaadoor", sum := "3dca1366edfe9d85f62128a3a75c5b2c37bb2467126609f5decd8197e5022d09", func := "simile/similelaw10.ModmatProducts", spec := "modmatProducts", unfollowed := true, recurses := true, named := ["simile/prime.bases", "math/bits.deBruijn32tab"], apart := false, laid := [("math/bits.deBruijn32tab", laid_math_bits_deBruijn32tab), ("simile/prime.bases", laid_simile_prime_bases)], narrowed := true }
def ModmatProductsUptoSaid : Prop := modmatProductsUptoRow.holds Tryd.pinned (OpenSpec.upto modmatProductsSpec)

/-- 'similelaw10.ModmatPowers', WHERE WHAT IT READS IS OF BULK AT MOST 1048576: true; the input reads as it did. -/
def modmatPowersUptoRow : OpenClaim := { program := "ytndilfigdbenoaadoor", sum := "3dca1366edfe9d85f62128a3a75c5b2c37bb2467126609f5decd8197e5022d09", func := "simile/similelaw10.ModmatPowers", spec := "modmatPowers", unfollowed := true, recurses := true, named := ["simile/prime.bases", "math/bits.deBruijn32tab"], apart := false, laid := [("math/bits.deBruijn32tab", laid_math_bits_deBruijn32tab), ("simile/prime.bases", laid_simile_prime_bases)], narrowed := true }
def ModmatPowersUptoSaid : Prop := modmatPowersUptoRow.holds Tryd.pinned (OpenSpec.upto modmatPowersSpec)

/-- 'similelaw10.ModmatReduces', WHERE WHAT IT READS IS OF BULK AT MOST 1048576: true; the input reads as it did. -/
def modmatReducesUptoRow : OpenClaim := { program := "ytndilfigdbenoaadoor", sum := "3dca1366edfe9d85f62128a3a75c5b2c37bb2467126609f5decd8197e5022d09", func := "simile/similelaw10.ModmatReduces", spec := "modmatReduces", unfollowed := true, recurses := true, named := ["simile/prime.bases", "math/bits.deBruijn32tab"], apart := false, laid := [("math/bits.deBruijn32tab", laid_math_bits_deBruijn32tab), ("simile/prime.bases", laid_simile_prime_bases)], narrowed := true }
def ModmatReducesUptoSaid : Prop := modmatReducesUptoRow.holds Tryd.pinned (OpenSpec.upto modmatReducesSpec)

/-- 'similelaw10.ModmatKernels', WHERE WHAT IT READS IS OF BULK AT MOST 1048576: true; the input reads as it did. -/
def modmatKernelsUptoRow : OpenClaim := { program := "ytndilfigdbenoaadoor", sum := "3dca1366edfe9d85f62128a3a75c5b2c37bb2467126609f5decd8197e5022d09", func := "simile/similelaw10.ModmatKernels", spec := "modmatKernels", unfollowed := true, recurses := true, named := ["simile/prime.bases", "math/bits.deBruijn32tab"], apart := false, laid := [("math/bits.deBruijn32tab", laid_math_bits_deBruijn32tab), ("simile/prime.bases", laid_simile_prime_bases)], narrowed := true }
def ModmatKernelsUptoSaid : Prop := modmatKernelsUptoRow.holds Tryd.pinned (OpenSpec.upto modmatKernelsSpec)

end Rows
end Go.Proofs.YtndilfigdbenoaaDoor
