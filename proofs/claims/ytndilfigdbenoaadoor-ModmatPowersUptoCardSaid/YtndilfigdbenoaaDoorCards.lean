/-
  DERIVED. GIVEN WITH THE SEED: THE CARDS: each row of YtndilfigdbenoaaDoorRows.lean that lists a variable, with what it lists TIED to the program's text (the seventh form; the later family's looks); each row that meets fmt, with fmt's text TOLD by the authors' own Lean function (tested against real Go, not proved from fmt's source: count such statements apart). THE CARD IS WHAT COUNTS. Prove the row's statement (the work); the ties are given (YtndilfigdbenoaaDoorTie.lean); close each card by the builder's one call (the guide's Derived/Test/ToyasCard.lean, 'card_holds'). Laid BY PROGRAM, IN A SANDBOX (cutbox-door.mjs). By AI agents, Wed Nov 11 2026. No macro, syntax, notation, axiom, sorry.
-/
import Derived.Test.YtndilfigdbenoaaDoorRows
import GoSem.ClaimSeven
namespace Go.Proofs.YtndilfigdbenoaaDoor
namespace Rows

/-- THE TIED CARD OF 'similelaw10.ModmatNames'. -/
def modmatNamesCard : Claim7 := { stood := { row := modmatNamesRow, standIns := [], harness := (true, "fdbb5f98d7aa998b116c74e619af9842a070f612d57ef47d759f9e193f4b7f97"), looks := false }, kinds := [], alts := [], laidByText := true, laidKinds := [.data, .data], laidTests := true, laidLooks := .later }
def ModmatNamesCardSaid : Prop := Claim7.holds Tryd.pinned (.plain (OpenSpec.ofChange modmatNamesSpec)) modmatNamesCard

/-- THE TIED CARD OF 'similelaw10.ModmatInverts'. -/
def modmatInvertsCard : Claim7 := { stood := { row := modmatInvertsRow, standIns := [], harness := (true, "fdbb5f98d7aa998b116c74e619af9842a070f612d57ef47d759f9e193f4b7f97"), looks := false }, kinds := [], alts := [], laidByText := true, laidKinds := [.data, .data], laidTests := true, laidLooks := .later }
def ModmatInvertsCardSaid : Prop := Claim7.holds Tryd.pinned (.plain (OpenSpec.ofChange modmatInvertsSpec)) modmatInvertsCard

/-- THE TIED CARD OF 'similelaw10.ModmatStays'. -/
def modmatStaysCard : Claim7 := { stood := { row := modmatStaysRow, standIns := [], harness := (true, "fdbb5f98d7aa998b116c74e619af9842a070f612d57ef47d759f9e193f4b7f97"), looks := false }, kinds := [], alts := [], laidByText := true, laidKinds := [.data, .data], laidTests := true, laidLooks := .later }
def ModmatStaysCardSaid : Prop := Claim7.holds Tryd.pinned (.plain (OpenSpec.ofChange modmatStaysSpec)) modmatStaysCard

/-- THE TIED CARD OF 'similelaw10.ModmatBack'. -/
def modmatBackCard : Claim7 := { stood := { row := modmatBackRow, standIns := [], harness := (true, "fdbb5f98d7aa998b116c74e619af9842a070f612d57ef47d759f9e193f4b7f97"), looks := false }, kinds := [], alts := [], laidByText := true, laidKinds := [.data, .data], laidTests := true, laidLooks := .later }
def ModmatBackCardSaid : Prop := Claim7.holds Tryd.pinned (.plain (OpenSpec.ofChange modmatBackSpec)) modmatBackCard

/-- THE TIED CARD OF 'similelaw10.ModmatProducts'. -/
def modmatProductsCard : Claim7 := { stood := { row := modmatProductsRow, standIns := [], harness := (true, "fdbb5f98d7aa998b116c74e619af9842a070f612d57ef47d759f9e193f4b7f97"), looks := false }, kinds := [], alts := [], laidByText := true, laidKinds := [.data, .data], laidTests := true, laidLooks := .later }
def ModmatProductsCardSaid : Prop := Claim7.holds Tryd.pinned (.plain (OpenSpec.ofChange modmatProductsSpec)) modmatProductsCard

/-- THE TIED CARD OF 'similelaw10.ModmatPowers'. -/
def modmatPowersCard : Claim7 := { stood := { row := modmatPowersRow, standIns := [], harness := (true, "fdbb5f98d7aa998b116c74e619af9842a070f612d57ef47d759f9e193f4b7f97"), looks := false }, kinds := [], alts := [], laidByText := true, laidKinds := [.data, .data], laidTests := true, laidLooks := .later }
def ModmatPowersCardSaid : Prop := Claim7.holds Tryd.pinned (.plain (OpenSpec.ofChange modmatPowersSpec)) modmatPowersCard

/-- THE TIED CARD OF 'similelaw10.ModmatReduces'. -/
def modmatReducesCard : Claim7 := { stood := { row := modmatReducesRow, standIns := [], harness := (true, "fdbb5f98d7aa998b116c74e619af9842a070f612d57ef47d759f9e193f4b7f97"), looks := false }, kinds := [], alts := [], laidByText := true, laidKinds := [.data, .data], laidTests := true, laidLooks := .later }
def ModmatReducesCardSaid : Prop := Claim7.holds Tryd.pinned (.plain (OpenSpec.ofChange modmatReducesSpec)) modmatReducesCard

/-- THE TIED CARD OF 'similelaw10.ModmatKernels'. -/
def modmatKernelsCard : Claim7 := { stood := { row := modmatKernelsRow, standIns := [], harness := (true, "fdbb5f98d7aa998b116c74e619af9842a070f612d57ef47d759f9e193f4b7f97"), looks := false }, kinds := [], alts := [], laidByText := true, laidKinds := [.data, .data], laidTests := true, laidLooks := .later }
def ModmatKernelsCardSaid : Prop := Claim7.holds Tryd.pinned (.plain (OpenSpec.ofChange modmatKernelsSpec)) modmatKernelsCard

/-- THE SECOND FORM's CARD OF 'similelaw10.ModmatNames'. -/
def modmatNamesUptoCard : Claim7 := { stood := { row := modmatNamesUptoRow, standIns := [], harness := (true, "fdbb5f98d7aa998b116c74e619af9842a070f612d57ef47d759f9e193f4b7f97"), looks := false }, kinds := [], alts := [], laidByText := true, laidKinds := [.data, .data], laidTests := true, laidLooks := .later }
def ModmatNamesUptoCardSaid : Prop := Claim7.holds Tryd.pinned (.plain (OpenSpec.upto modmatNamesSpec)) modmatNamesUptoCard

/-- THE SECOND FORM's CARD OF 'similelaw10.ModmatInverts'. -/
def modmatInvertsUptoCard : Claim7 := { stood := { row := modmatInvertsUptoRow, standIns := [], harness := (true, "fdbb5f98d7aa998b116c74e619af9842a070f612d57ef47d759f9e193f4b7f97"), looks := false }, kinds := [], alts := [], laidByText := true, laidKinds := [.data, .data], laidTests := true, laidLooks := .later }
def ModmatInvertsUptoCardSaid : Prop := Claim7.holds Tryd.pinned (.plain (OpenSpec.upto modmatInvertsSpec)) modmatInvertsUptoCard

/-- THE SECOND FORM's CARD OF 'similelaw10.ModmatStays'. -/
def modmatStaysUptoCard : Claim7 := { stood := { row := modmatStaysUptoRow, standIns := [], harness := (true, "fdbb5f98d7aa998b116c74e619af9842a070f612d57ef47d759f9e193f4b7f97"), looks := false }, kinds := [], alts := [], laidByText := true, laidKinds := [.data, .data], laidTests := true, laidLooks := .later }
def ModmatStaysUptoCardSaid : Prop := Claim7.holds Tryd.pinned (.plain (OpenSpec.upto modmatStaysSpec)) modmatStaysUptoCard

/-- THE SECOND FORM's CARD OF 'similelaw10.ModmatBack'. -/
def modmatBackUptoCard : Claim7 := { stood := { row := modmatBackUptoRow, standIns := [], harness := (true, "fdbb5f98d7aa998b116c74e619af9842a070f612d57ef47d759f9e193f4b7f97"), looks := false }, kinds := [], alts := [], laidByText := true, laidKinds := [.data, .data], laidTests := true, laidLooks := .later }
def ModmatBackUptoCardSaid : Prop := Claim7.holds Tryd.pinned (.plain (OpenSpec.upto modmatBackSpec)) modmatBackUptoCard

/-- THE SECOND FORM's CARD OF 'similelaw10.ModmatProducts'. -/
def modmatProductsUptoCard : Claim7 := { stood := { row := modmatProductsUptoRow, standIns := [], harness := (true, "fdbb5f98d7aa998b116c74e619af9842a070f612d57ef47d759f9e193f4b7f97"), looks := false }, kinds := [], alts := [], laidByText := true, laidKinds := [.data, .data], laidTests := true, laidLooks := .later }
def ModmatProductsUptoCardSaid : Prop := Claim7.holds Tryd.pinned (.plain (OpenSpec.upto modmatProductsSpec)) modmatProductsUptoCard

/-- THE SECOND FORM's CARD OF 'similelaw10.ModmatPowers'. -/
def modmatPowersUptoCard : Claim7 := { stood := { row := modmatPowersUptoRow, standIns := [], harness := (true, "fdbb5f98d7aa998b116c74e619af9842a070f612d57ef47d759f9e193f4b7f97"), looks := false }, kinds := [], alts := [], laidByText := true, laidKinds := [.data, .data], laidTests := true, laidLooks := .later }
def ModmatPowersUptoCardSaid : Prop := Claim7.holds Tryd.pinned (.plain (OpenSpec.upto modmatPowersSpec)) modmatPowersUptoCard

/-- THE SECOND FORM's CARD OF 'similelaw10.ModmatReduces'. -/
def modmatReducesUptoCard : Claim7 := { stood := { row := modmatReducesUptoRow, standIns := [], harness := (true, "fdbb5f98d7aa998b116c74e619af9842a070f612d57ef47d759f9e193f4b7f97"), looks := false }, kinds := [], alts := [], laidByText := true, laidKinds := [.data, .data], laidTests := true, laidLooks := .later }
def ModmatReducesUptoCardSaid : Prop := Claim7.holds Tryd.pinned (.plain (OpenSpec.upto modmatReducesSpec)) modmatReducesUptoCard

/-- THE SECOND FORM's CARD OF 'similelaw10.ModmatKernels'. -/
def modmatKernelsUptoCard : Claim7 := { stood := { row := modmatKernelsUptoRow, standIns := [], harness := (true, "fdbb5f98d7aa998b116c74e619af9842a070f612d57ef47d759f9e193f4b7f97"), looks := false }, kinds := [], alts := [], laidByText := true, laidKinds := [.data, .data], laidTests := true, laidLooks := .later }
def ModmatKernelsUptoCardSaid : Prop := Claim7.holds Tryd.pinned (.plain (OpenSpec.upto modmatKernelsSpec)) modmatKernelsUptoCard
end Rows
end Go.Proofs.YtndilfigdbenoaaDoor
