/-
  NARROWER THAN 'FOR EVERY INPUT', by the rows' own cells (each row's printed sentence says how): HessAsks: laid · HessReduces: laid · HessSame: laid · HessOf: laid.
  DERIVED. THE GIVEN ROWS OF THIS SEAT. 4 by the template 'for every input the law returns true; each argument reads behind the call as it read before'; 0 by the template 'total and deterministic' (their statements: YtcfcdbeemhjhgaaDoorTotals.lean).
  GIVEN WITH THE SEED: the statements are not yours to turn. If you find one false, say at which input.
  Laid BY PROGRAM, IN A SANDBOX (cutbox-rows.mjs): the forced cells as the released guide's own fill.sh prints them over the translation 8f0eff2bcbf903d0… (all of the seat's roots in one cut). By AI agents, Wed Nov 11 2026. No macro, syntax, notation, axiom, sorry.
-/
import Derived.Test.YtcfcdbeemhjhgaaDoorChecked
import GoSem.Claim
import GoSem.ClaimJoined
import GoSem.ClaimMapViews
import Derived.JoinedTies
import Derived.KernelRfl
namespace Go.Proofs.YtcfcdbeemhjhgaaDoor
/- THE CELL 'sum', in the pinned program and in every row, IS THE sha256 OF THE DUMP (.gsa) THAT YtcfcdbeemhjhgaaDoorProg.lean LOADS. Nothing in Lean hashes anything: it is a label: what it is worth is what the hold of that sum in a sandbox is worth. -/
noncomputable def Tryd.pinned : Pinned := { name := "ytcfcdbeemhjhgaadoor", sum := "8f0eff2bcbf903d05f0bf86510670e608a4981843c19a09a1042a71e0e9c519f", checked := Tryd.checked }
namespace Rows
def none {H : Type} : Left H := { results := [], args := [] }

/- WHAT THE LISTED PACKAGE-LEVEL VARIABLES READ AS WHEN THE CALL BEGINS. Each datum BY PROGRAM (the guide's laid-datum.mjs) off the statement by which the dump's own 'gosem.cut.vars' lays the variable. In a bare row this is a premise. The card (YtcfcdbeemhjhgaaDoorCards.lean) ties it to the program's text. -/
def laid_math_bits_deBruijn32tab {H : Type} : DataW H := .agg [.lit (.int .u8 0), .lit (.int .u8 1), .lit (.int .u8 28), .lit (.int .u8 2), .lit (.int .u8 29), .lit (.int .u8 14), .lit (.int .u8 24), .lit (.int .u8 3), .lit (.int .u8 30), .lit (.int .u8 22), .lit (.int .u8 20), .lit (.int .u8 15), .lit (.int .u8 25), .lit (.int .u8 17), .lit (.int .u8 4), .lit (.int .u8 8), .lit (.int .u8 31), .lit (.int .u8 27), .lit (.int .u8 13), .lit (.int .u8 23), .lit (.int .u8 21), .lit (.int .u8 19), .lit (.int .u8 16), .lit (.int .u8 7), .lit (.int .u8 26), .lit (.int .u8 12), .lit (.int .u8 18), .lit (.int .u8 6), .lit (.int .u8 11), .lit (.int .u8 5), .lit (.int .u8 10), .lit (.int .u8 9)]
def laid_simile_prime_bases {H : Type} : DataW H := .agg [.lit (.int .u32 2), .lit (.int .u32 7), .lit (.int .u32 61)]

/-- 'similelaw21.HessAsks': WHATEVER THE INPUT: true; the input reads as it did. -/
def hessAsksSpec : ChangeSpec := { name := "hessAsks", fn := fun _ => fun
  | [d1, d2] => { results := [.lit (.bool true)], args := [d1, d2] }
  | _ => none }
def hessAsksRow : OpenClaim := { program := "ytcfcdbeemhjhgaadoor", sum := "8f0eff2bcbf903d05f0bf86510670e608a4981843c19a09a1042a71e0e9c519f", func := "simile/similelaw21.HessAsks", spec := "hessAsks", unfollowed := true, recurses := true, named := ["simile/prime.bases", "math/bits.deBruijn32tab"], apart := false, laid := [("math/bits.deBruijn32tab", laid_math_bits_deBruijn32tab), ("simile/prime.bases", laid_simile_prime_bases)] }
def HessAsksSaid : Prop := hessAsksRow.holds Tryd.pinned (OpenSpec.ofChange hessAsksSpec)

/-- ITS FALSE NEIGHBOUR: 'it returns false'. Refute it at one input. -/
def hessAsksWrong : ChangeSpec := { name := "hessAsks", fn := fun _ => fun
  | [d1, d2] => { results := [.lit (.bool false)], args := [d1, d2] }
  | _ => none }
def HessAsksWrongFalsely : Prop := hessAsksRow.holds Tryd.pinned (OpenSpec.ofChange hessAsksWrong)

/-- 'similelaw21.HessReduces': WHATEVER THE INPUT: true; the input reads as it did. -/
def hessReducesSpec : ChangeSpec := { name := "hessReduces", fn := fun _ => fun
  | [d1, d2] => { results := [.lit (.bool true)], args := [d1, d2] }
  | _ => none }
def hessReducesRow : OpenClaim := { program := "ytcfcdbeemhjhgaadoor", sum := "8f0eff2bcbf903d05f0bf86510670e608a4981843c19a09a1042a71e0e9c519f", func := "simile/similelaw21.HessReduces", spec := "hessReduces", unfollowed := true, recurses := true, named := ["simile/prime.bases", "math/bits.deBruijn32tab"], apart := false, laid := [("math/bits.deBruijn32tab", laid_math_bits_deBruijn32tab), ("simile/prime.bases", laid_simile_prime_bases)] }
def HessReducesSaid : Prop := hessReducesRow.holds Tryd.pinned (OpenSpec.ofChange hessReducesSpec)

/-- ITS FALSE NEIGHBOUR: 'it returns false'. Refute it at one input. -/
def hessReducesWrong : ChangeSpec := { name := "hessReduces", fn := fun _ => fun
  | [d1, d2] => { results := [.lit (.bool false)], args := [d1, d2] }
  | _ => none }
def HessReducesWrongFalsely : Prop := hessReducesRow.holds Tryd.pinned (OpenSpec.ofChange hessReducesWrong)

/-- 'similelaw21.HessSame': WHATEVER THE INPUT: true; the input reads as it did. -/
def hessSameSpec : ChangeSpec := { name := "hessSame", fn := fun _ => fun
  | [d1, d2] => { results := [.lit (.bool true)], args := [d1, d2] }
  | _ => none }
def hessSameRow : OpenClaim := { program := "ytcfcdbeemhjhgaadoor", sum := "8f0eff2bcbf903d05f0bf86510670e608a4981843c19a09a1042a71e0e9c519f", func := "simile/similelaw21.HessSame", spec := "hessSame", unfollowed := true, recurses := true, named := ["simile/prime.bases", "math/bits.deBruijn32tab"], apart := false, laid := [("math/bits.deBruijn32tab", laid_math_bits_deBruijn32tab), ("simile/prime.bases", laid_simile_prime_bases)] }
def HessSameSaid : Prop := hessSameRow.holds Tryd.pinned (OpenSpec.ofChange hessSameSpec)

/-- ITS FALSE NEIGHBOUR: 'it returns false'. Refute it at one input. -/
def hessSameWrong : ChangeSpec := { name := "hessSame", fn := fun _ => fun
  | [d1, d2] => { results := [.lit (.bool false)], args := [d1, d2] }
  | _ => none }
def HessSameWrongFalsely : Prop := hessSameRow.holds Tryd.pinned (OpenSpec.ofChange hessSameWrong)

/-- 'similelaw21.HessOf': WHATEVER THE INPUT: true; the input reads as it did. -/
def hessOfSpec : ChangeSpec := { name := "hessOf", fn := fun _ => fun
  | [d1, d2] => { results := [.lit (.bool true)], args := [d1, d2] }
  | _ => none }
def hessOfRow : OpenClaim := { program := "ytcfcdbeemhjhgaadoor", sum := "8f0eff2bcbf903d05f0bf86510670e608a4981843c19a09a1042a71e0e9c519f", func := "simile/similelaw21.HessOf", spec := "hessOf", unfollowed := true, recurses := true, named := ["simile/prime.bases", "math/bits.deBruijn32tab"], apart := false, laid := [("math/bits.deBruijn32tab", laid_math_bits_deBruijn32tab), ("simile/prime.bases", laid_simile_prime_bases)] }
def HessOfSaid : Prop := hessOfRow.holds Tryd.pinned (OpenSpec.ofChange hessOfSpec)

/-- ITS FALSE NEIGHBOUR: 'it returns false'. Refute it at one input. -/
def hessOfWrong : ChangeSpec := { name := "hessOf", fn := fun _ => fun
  | [d1, d2] => { results := [.lit (.bool false)], args := [d1, d2] }
  | _ => none }
def HessOfWrongFalsely : Prop := hessOfRow.holds Tryd.pinned (OpenSpec.ofChange hessOfWrong)

/- THE SECOND FORM. 'bulk': how many values and letters a reading holds, each counted each time it is reached (what is shared counts as often as it is met; a slice's spare places count too). A statement '..UptoSaid' is the law's where the arguments, and the package variables that the reading takes, are together of bulk at most 1048576: NARROWER than '..Said'. Prove '..Said' where nothing that the law and all that it calls make is longer than what came in: it says more and counts as full. Else prove '..UptoSaid'. A law counts once. -/
mutual
def uptoBulk {H : Type} : DataW H → Nat
  | .lit (.string bytes) => bytes.length + 1
  | .lit _ => 1
  | .nil => 1
  | .ptr d => uptoBulk d + 1
  | .slice elems spare => uptoBulkAll elems + uptoBulkAll spare + 1
  | .agg parts => uptoBulkAll parts + 1
  | .iface _ d => uptoBulk d + 1
  | .map entries => uptoBulkEntries entries + 1
  | .held _ => 1
def uptoBulkAll {H : Type} : List (DataW H) → Nat
  | [] => 0
  | d :: r => uptoBulk d + uptoBulkAll r
def uptoBulkEntries {H : Type} : List (Lit × DataW H) → Nat
  | [] => 0
  | x :: r => uptoBulkEntry x + uptoBulkEntries r
def uptoBulkEntry {H : Type} : Lit × DataW H → Nat
  | (.string bytes, d) => bytes.length + uptoBulk d + 1
  | (_, d) => uptoBulk d + 1
 end
def uptoSmall : (H : Type) → List (DataW H) → Bool := fun _ ds => decide (uptoBulkAll ds ≤ 1048576)
def OpenSpec.upto (s : _root_.Go.ChangeSpec) : _root_.Go.OpenSpec := { _root_.Go.OpenSpec.ofChange s with cond := some uptoSmall }

/-- 'similelaw21.HessAsks', WHERE WHAT IT READS IS OF BULK AT MOST 1048576: true; the input reads as it did. -/
def hessAsksUptoRow : OpenClaim := { program := "ytcfcdbeemhjhgaadoor", sum := "8f0eff2bcbf903d05f0bf86510670e608a4981843c19a09a1042a71e0e9c519f", func := "simile/similelaw21.HessAsks", spec := "hessAsks", unfollowed := true, recurses := true, named := ["simile/prime.bases", "math/bits.deBruijn32tab"], apart := false, laid := [("math/bits.deBruijn32tab", laid_math_bits_deBruijn32tab), ("simile/prime.bases", laid_simile_prime_bases)], narrowed := true }
def HessAsksUptoSaid : Prop := hessAsksUptoRow.holds Tryd.pinned (OpenSpec.upto hessAsksSpec)

/-- 'similelaw21.HessReduces', WHERE WHAT IT READS IS OF BULK AT MOST 1048576: true; the input reads as it did. -/
def hessReducesUptoRow : OpenClaim := { program := "ytcfcdbeemhjhgaadoor", sum := "8f0eff2bcbf903d05f0bf86510670e608a4981843c19a09a1042a71e0e9c519f", func := "simile/similelaw21.HessReduces", spec := "hessReduces", unfollowed := true, recurses := true, named := ["simile/prime.bases", "math/bits.deBruijn32tab"], apart := false, laid := [("math/bits.deBruijn32tab", laid_math_bits_deBruijn32tab), ("simile/prime.bases", laid_simile_prime_bases)], narrowed := true }
def HessReducesUptoSaid : Prop := hessReducesUptoRow.holds Tryd.pinned (OpenSpec.upto hessReducesSpec)

/-- 'similelaw21.HessSame', WHERE WHAT IT READS IS OF BULK AT MOST 1048576: true; the input reads as it did. -/
def hessSameUptoRow : OpenClaim := { program := "ytcfcdbeemhjhgaadoor", sum := "8f0eff2bcbf903d05f0bf86510670e608a4981843c19a09a1042a71e0e9c519f", func := "simile/similelaw21.HessSame", spec := "hessSame", unfollowed := true, recurses := true, named := ["simile/prime.bases", "math/bits.deBruijn32tab"], apart := false, laid := [("math/bits.deBruijn32tab", laid_math_bits_deBruijn32tab), ("simile/prime.bases", laid_simile_prime_bases)], narrowed := true }
def HessSameUptoSaid : Prop := hessSameUptoRow.holds Tryd.pinned (OpenSpec.upto hessSameSpec)

/-- 'similelaw21.HessOf', WHERE WHAT IT READS IS OF BULK AT MOST 1048576: true; the input reads as it did. -/
def hessOfUptoRow : OpenClaim := { program := "ytcfcdbeemhjhgaadoor", sum := "8f0eff2bcbf903d05f0bf86510670e608a4981843c19a09a1042a71e0e9c519f", func := "simile/similelaw21.HessOf", spec := "hessOf", unfollowed := true, recurses := true, named := ["simile/prime.bases", "math/bits.deBruijn32tab"], apart := false, laid := [("math/bits.deBruijn32tab", laid_math_bits_deBruijn32tab), ("simile/prime.bases", laid_simile_prime_bases)], narrowed := true }
def HessOfUptoSaid : Prop := hessOfUptoRow.holds Tryd.pinned (OpenSpec.upto hessOfSpec)

end Rows
end Go.Proofs.YtcfcdbeemhjhgaaDoor
