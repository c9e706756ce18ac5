/-
  DERIVED. GIVEN WITH THE SEED: THE CARDS: each row of YthnilcgmljecdaaDoorRows.lean that lists a variable, with what it lists TIED to the program's text (the seventh form; the later family's looks); each row that meets fmt, with fmt's text TOLD by the authors' own Lean function (tested against real Go, not proved from fmt's source: count such statements apart). THE CARD IS WHAT COUNTS. Prove the row's statement (the work); the ties are given (YthnilcgmljecdaaDoorTie.lean); close each card by the builder's one call (the guide's Derived/Test/ToyasCard.lean, 'card_holds'). Laid BY PROGRAM, IN A SANDBOX (cutbox-door.mjs). By AI agents, Wed Nov 11 2026. No macro, syntax, notation, axiom, sorry.
-/
import Derived.Test.YthnilcgmljecdaaDoorRows
import GoSem.ClaimSeven
namespace Go.Proofs.YthnilcgmljecdaaDoor
namespace Rows

/-- THE TIED CARD OF 'similelaw22.BoundNames'. -/
def boundNamesCard : Claim7 := { stood := { row := boundNamesRow, standIns := [], harness := (true, "b0a27c979227711baf6ba0494c00b5cd87ddbf9a2d6b4f0d91a1eb3ff601ef19"), looks := false }, kinds := [], alts := [], laidByText := true, laidKinds := [.data, .data], laidTests := true, laidLooks := .later }
def BoundNamesCardSaid : Prop := Claim7.holds Tryd.pinned (.plain (OpenSpec.ofChange boundNamesSpec)) boundNamesCard

/-- THE TIED CARD OF 'similelaw22.BoundChooses'. -/
def boundChoosesCard : Claim7 := { stood := { row := boundChoosesRow, standIns := [], harness := (true, "b0a27c979227711baf6ba0494c00b5cd87ddbf9a2d6b4f0d91a1eb3ff601ef19"), looks := false }, kinds := [], alts := [], laidByText := true, laidKinds := [.data, .data], laidTests := true, laidLooks := .later }
def BoundChoosesCardSaid : Prop := Claim7.holds Tryd.pinned (.plain (OpenSpec.ofChange boundChoosesSpec)) boundChoosesCard

/-- THE TIED CARD OF 'similelaw22.BoundGrows'. -/
def boundGrowsCard : Claim7 := { stood := { row := boundGrowsRow, standIns := [], harness := (true, "b0a27c979227711baf6ba0494c00b5cd87ddbf9a2d6b4f0d91a1eb3ff601ef19"), looks := false }, kinds := [], alts := [], laidByText := true, laidKinds := [.data, .data], laidTests := true, laidLooks := .later }
def BoundGrowsCardSaid : Prop := Claim7.holds Tryd.pinned (.plain (OpenSpec.ofChange boundGrowsSpec)) boundGrowsCard

/-- THE TIED CARD OF 'similelaw22.BoundEnough'. -/
def boundEnoughCard : Claim7 := { stood := { row := boundEnoughRow, standIns := [], harness := (true, "b0a27c979227711baf6ba0494c00b5cd87ddbf9a2d6b4f0d91a1eb3ff601ef19"), looks := false }, kinds := [], alts := [], laidByText := true, laidKinds := [.data, .data], laidTests := true, laidLooks := .later }
def BoundEnoughCardSaid : Prop := Claim7.holds Tryd.pinned (.plain (OpenSpec.ofChange boundEnoughSpec)) boundEnoughCard

/-- THE TIED CARD OF 'similelaw22.BoundChosen'. -/
def boundChosenCard : Claim7 := { stood := { row := boundChosenRow, standIns := [], harness := (true, "b0a27c979227711baf6ba0494c00b5cd87ddbf9a2d6b4f0d91a1eb3ff601ef19"), looks := false }, kinds := [], alts := [], laidByText := true, laidKinds := [.data, .data], laidTests := true, laidLooks := .later }
def BoundChosenCardSaid : Prop := Claim7.holds Tryd.pinned (.plain (OpenSpec.ofChange boundChosenSpec)) boundChosenCard

/-- THE TIED CARD OF 'similelaw22.BoundCoeffs'. -/
def boundCoeffsCard : Claim7 := { stood := { row := boundCoeffsRow, standIns := [], harness := (true, "b0a27c979227711baf6ba0494c00b5cd87ddbf9a2d6b4f0d91a1eb3ff601ef19"), looks := false }, kinds := [], alts := [], laidByText := true, laidKinds := [.data, .data], laidTests := true, laidLooks := .later }
def BoundCoeffsCardSaid : Prop := Claim7.holds Tryd.pinned (.plain (OpenSpec.ofChange boundCoeffsSpec)) boundCoeffsCard

/-- THE SECOND FORM's CARD OF 'similelaw22.BoundNames'. -/
def boundNamesUptoCard : Claim7 := { stood := { row := boundNamesUptoRow, standIns := [], harness := (true, "b0a27c979227711baf6ba0494c00b5cd87ddbf9a2d6b4f0d91a1eb3ff601ef19"), looks := false }, kinds := [], alts := [], laidByText := true, laidKinds := [.data, .data], laidTests := true, laidLooks := .later }
def BoundNamesUptoCardSaid : Prop := Claim7.holds Tryd.pinned (.plain (OpenSpec.upto boundNamesSpec)) boundNamesUptoCard

/-- THE SECOND FORM's CARD OF 'similelaw22.BoundChooses'. -/
def boundChoosesUptoCard : Claim7 := { stood := { row := boundChoosesUptoRow, standIns := [], harness := (true, "b0a27c979227711baf6ba0494c00b5cd87ddbf9a2d6b4f0d91a1eb3ff601ef19"), looks := false }, kinds := [], alts := [], laidByText := true, laidKinds := [.data, .data], laidTests := true, laidLooks := .later }
def BoundChoosesUptoCardSaid : Prop := Claim7.holds Tryd.pinned (.plain (OpenSpec.upto boundChoosesSpec)) boundChoosesUptoCard

/-- THE SECOND FORM's CARD OF 'similelaw22.BoundGrows'. -/
def boundGrowsUptoCard : Claim7 := { stood := { row := boundGrowsUptoRow, standIns := [], harness := (true, "b0a27c979227711baf6ba0494c00b5cd87ddbf9a2d6b4f0d91a1eb3ff601ef19"), looks := false }, kinds := [], alts := [], laidByText := true, laidKinds := [.data, .data], laidTests := true, laidLooks := .later }
def BoundGrowsUptoCardSaid : Prop := Claim7.holds Tryd.pinned (.plain (OpenSpec.upto boundGrowsSpec)) boundGrowsUptoCard

/-- THE SECOND FORM's CARD OF 'similelaw22.BoundEnough'. -/
def boundEnoughUptoCard : Claim7 := { stood := { row := boundEnoughUptoRow, standIns := [], harness := (true, "b0a27c979227711baf6ba0494c00b5cd87ddbf9a2d6b4f0d91a1eb3ff601ef19"), looks := false }, kinds := [], alts := [], laidByText := true, laidKinds := [.data, .data], laidTests := true, laidLooks := .later }
def BoundEnoughUptoCardSaid : Prop := Claim7.holds Tryd.pinned (.plain (OpenSpec.upto boundEnoughSpec)) boundEnoughUptoCard

/-- THE SECOND FORM's CARD OF 'similelaw22.BoundChosen'. -/
def boundChosenUptoCard : Claim7 := { stood := { row := boundChosenUptoRow, standIns := [], harness := (true, "b0a27c979227711baf6ba0494c00b5cd87ddbf9a2d6b4f0d91a1eb3ff601ef19"), looks := false }, kinds := [], alts := [], laidByText := true, laidKinds := [.data, .data], laidTests := true, laidLooks := .later }
def BoundChosenUptoCardSaid : Prop := Claim7.holds Tryd.pinned (.plain (OpenSpec.upto boundChosenSpec)) boundChosenUptoCard

/-- THE SECOND FORM's CARD OF 'similelaw22.BoundCoeffs'. -/
def boundCoeffsUptoCard : Claim7 := { stood := { row := boundCoeffsUptoRow, standIns := [], harness := (true, "b0a27c979227711baf6ba0494c00b5cd87ddbf9a2d6b4f0d91a1eb3ff601ef19"), looks := false }, kinds := [], alts := [], laidByText := true, laidKinds := [.data, .data], laidTests := true, laidLooks := .later }
def BoundCoeffsUptoCardSaid : Prop := Claim7.holds Tryd.pinned (.plain (OpenSpec.upto boundCoeffsSpec)) boundCoeffsUptoCard
end Rows
end Go.Proofs.YthnilcgmljecdaaDoor
