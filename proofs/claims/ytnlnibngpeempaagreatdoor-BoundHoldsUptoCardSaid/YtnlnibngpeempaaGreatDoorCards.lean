/-
  DERIVED. GIVEN WITH THE SEED: THE CARDS: each row of YtnlnibngpeempaaGreatDoorRows.lean that lists a variable, with what it lists TIED to the program's text (the seventh form; the later family's looks); each row that meets fmt, with fmt's text TOLD by the authors' own Lean function (tested against real Go, not proved from fmt's source: count such statements apart). THE CARD IS WHAT COUNTS. Prove the row's statement (the work); the ties are given (YtnlnibngpeempaaGreatDoorTie.lean); close each card by the builder's one call (the guide's Derived/Test/ToyasCard.lean, 'card_holds'). Laid BY PROGRAM, IN A SANDBOX (cutbox-door.mjs). By AI agents, Wed Nov 11 2026. No macro, syntax, notation, axiom, sorry.
-/
import Derived.Test.YtnlnibngpeempaaGreatDoorRows
import GoSem.ClaimSeven
namespace Go.Proofs.YtnlnibngpeempaaGreatDoor
namespace Rows

/-- THE TIED CARD OF 'similelaw22.BoundHolds'. -/
def boundHoldsCard : Claim7 := { stood := { row := boundHoldsRow, standIns := [], harness := (true, "06b4bfd7236ebc5038299af7e837e61f3bc9284d27940875ab757bb119c6b653"), looks := false }, kinds := [], alts := [], laidByText := true, laidKinds := [.data, .data], laidTests := true, laidLooks := .later }
def BoundHoldsCardSaid : Prop := Claim7.holds Tryz.pinned (.plain (OpenSpec.ofChange boundHoldsSpec)) boundHoldsCard

/-- THE TIED CARD OF 'similelaw22.BoundIntegral'. -/
def boundIntegralCard : Claim7 := { stood := { row := boundIntegralRow, standIns := [], harness := (true, "06b4bfd7236ebc5038299af7e837e61f3bc9284d27940875ab757bb119c6b653"), looks := false }, kinds := [], alts := [], laidByText := true, laidKinds := [.data, .data], laidTests := true, laidLooks := .later }
def BoundIntegralCardSaid : Prop := Claim7.holds Tryz.pinned (.plain (OpenSpec.ofChange boundIntegralSpec)) boundIntegralCard

/-- THE SECOND FORM's CARD OF 'similelaw22.BoundHolds'. -/
def boundHoldsUptoCard : Claim7 := { stood := { row := boundHoldsUptoRow, standIns := [], harness := (true, "06b4bfd7236ebc5038299af7e837e61f3bc9284d27940875ab757bb119c6b653"), looks := false }, kinds := [], alts := [], laidByText := true, laidKinds := [.data, .data], laidTests := true, laidLooks := .later }
def BoundHoldsUptoCardSaid : Prop := Claim7.holds Tryz.pinned (.plain (OpenSpec.upto boundHoldsSpec)) boundHoldsUptoCard

/-- THE SECOND FORM's CARD OF 'similelaw22.BoundIntegral'. -/
def boundIntegralUptoCard : Claim7 := { stood := { row := boundIntegralUptoRow, standIns := [], harness := (true, "06b4bfd7236ebc5038299af7e837e61f3bc9284d27940875ab757bb119c6b653"), looks := false }, kinds := [], alts := [], laidByText := true, laidKinds := [.data, .data], laidTests := true, laidLooks := .later }
def BoundIntegralUptoCardSaid : Prop := Claim7.holds Tryz.pinned (.plain (OpenSpec.upto boundIntegralSpec)) boundIntegralUptoCard
end Rows
end Go.Proofs.YtnlnibngpeempaaGreatDoor
