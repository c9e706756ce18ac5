/-
  DERIVED. GIVEN WITH THE SEED: THE CARDS: each row of YtjnpdpcldmjdjaaGreatDoorRows.lean that lists a variable, with what it lists TIED to the program's text (the seventh form; the later family's looks); each row that meets fmt, with fmt's text TOLD by the authors' own Lean function (tested against real Go, not proved from fmt's source: count such statements apart). THE CARD IS WHAT COUNTS. Prove the row's statement (the work); the ties are given (YtjnpdpcldmjdjaaGreatDoorTie.lean); close each card by the builder's one call (the guide's Derived/Test/ToyasCard.lean, 'card_holds'). Laid BY PROGRAM, IN A SANDBOX (cutbox-door.mjs). By AI agents, Wed Nov 11 2026. No macro, syntax, notation, axiom, sorry.
-/
import Derived.Test.YtjnpdpcldmjdjaaGreatDoorRows
import GoSem.ClaimSeven
namespace Go.Proofs.YtjnpdpcldmjdjaaGreatDoor
namespace Rows

/-- THE TIED CARD OF 'similelaw06.CrtOf'. -/
def crtOfCard : Claim7 := { stood := { row := crtOfRow, standIns := [], harness := (true, "ed1ef0b50860263a649b1cf10d1d3f52fa3176070eaf97f1d69863e17c2bdfd6"), looks := true }, kinds := [], alts := [], laidByText := true, laidKinds := [.data, .data], laidTests := true, laidLooks := .later }
def CrtOfCardSaid : Prop := Claim7.holds Tryz.pinned (.plain (OpenSpec.ofChange crtOfSpec)) crtOfCard

/-- THE SECOND FORM's CARD OF 'similelaw06.CrtOf'. -/
def crtOfUptoCard : Claim7 := { stood := { row := crtOfUptoRow, standIns := [], harness := (true, "ed1ef0b50860263a649b1cf10d1d3f52fa3176070eaf97f1d69863e17c2bdfd6"), looks := true }, kinds := [], alts := [], laidByText := true, laidKinds := [.data, .data], laidTests := true, laidLooks := .later }
def CrtOfUptoCardSaid : Prop := Claim7.holds Tryz.pinned (.plain (OpenSpec.upto crtOfSpec)) crtOfUptoCard
end Rows
end Go.Proofs.YtjnpdpcldmjdjaaGreatDoor
