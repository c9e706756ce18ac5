/-
  DERIVED. GIVEN WITH THE SEED: THE CARDS: each row of YtjbcjlbbipohjaaGreatDoorRows.lean that lists a variable, with what it lists TIED to the program's text (the seventh form; the later family's looks); each row that meets fmt, with fmt's text TOLD by the authors' own Lean function (tested against real Go, not proved from fmt's source: count such statements apart). THE CARD IS WHAT COUNTS. Prove the row's statement (the work); the ties are given (YtjbcjlbbipohjaaGreatDoorTie.lean); close each card by the builder's one call (the guide's Derived/Test/ToyasCard.lean, 'card_holds'). Laid BY PROGRAM, IN A SANDBOX (cutbox-door.mjs). By AI agents, Wed Nov 11 2026. No macro, syntax, notation, axiom, sorry.
-/
import Derived.Test.YtjbcjlbbipohjaaGreatDoorRows
import GoSem.ClaimSeven
namespace Go.Proofs.YtjbcjlbbipohjaaGreatDoor
namespace Rows

/-- THE TIED CARD OF 'similelaw06.CrtNames'. -/
def crtNamesCard : Claim7 := { stood := { row := crtNamesRow, standIns := [], harness := (true, "672c0d9d09a0c76beaaf6ddcded824912a2c5b7c26049cdec80d04a8a7386af4"), looks := true }, kinds := [], alts := [], laidByText := true, laidKinds := [.data, .data], laidTests := true, laidLooks := .later }
def CrtNamesCardSaid : Prop := Claim7.holds Tryz.pinned (.plain (OpenSpec.ofChange crtNamesSpec)) crtNamesCard

/-- THE TIED CARD OF 'similelaw06.CrtRecons'. -/
def crtReconsCard : Claim7 := { stood := { row := crtReconsRow, standIns := [], harness := (true, "672c0d9d09a0c76beaaf6ddcded824912a2c5b7c26049cdec80d04a8a7386af4"), looks := true }, kinds := [], alts := [], laidByText := true, laidKinds := [.data, .data], laidTests := true, laidLooks := .later }
def CrtReconsCardSaid : Prop := Claim7.holds Tryz.pinned (.plain (OpenSpec.ofChange crtReconsSpec)) crtReconsCard

/-- THE TIED CARD OF 'similelaw06.CrtSays'. -/
def crtSaysCard : Claim7 := { stood := { row := crtSaysRow, standIns := [], harness := (true, "672c0d9d09a0c76beaaf6ddcded824912a2c5b7c26049cdec80d04a8a7386af4"), looks := true }, kinds := [], alts := [], laidByText := true, laidKinds := [.data, .data], laidTests := true, laidLooks := .later }
def CrtSaysCardSaid : Prop := Claim7.holds Tryz.pinned (.plain (OpenSpec.ofChange crtSaysSpec)) crtSaysCard

/-- THE TIED CARD OF 'similelaw06.CrtFractions'. -/
def crtFractionsCard : Claim7 := { stood := { row := crtFractionsRow, standIns := [], harness := (true, "672c0d9d09a0c76beaaf6ddcded824912a2c5b7c26049cdec80d04a8a7386af4"), looks := true }, kinds := [], alts := [], laidByText := true, laidKinds := [.data, .data], laidTests := true, laidLooks := .later }
def CrtFractionsCardSaid : Prop := Claim7.holds Tryz.pinned (.plain (OpenSpec.ofChange crtFractionsSpec)) crtFractionsCard

/-- THE TIED CARD OF 'similelaw06.CrtLifts'. -/
def crtLiftsCard : Claim7 := { stood := { row := crtLiftsRow, standIns := [], harness := (true, "672c0d9d09a0c76beaaf6ddcded824912a2c5b7c26049cdec80d04a8a7386af4"), looks := true }, kinds := [], alts := [], laidByText := true, laidKinds := [.data, .data], laidTests := true, laidLooks := .later }
def CrtLiftsCardSaid : Prop := Claim7.holds Tryz.pinned (.plain (OpenSpec.ofChange crtLiftsSpec)) crtLiftsCard

/-- THE TIED CARD OF 'similelaw06.CrtSigned'. -/
def crtSignedCard : Claim7 := { stood := { row := crtSignedRow, standIns := [], harness := (true, "672c0d9d09a0c76beaaf6ddcded824912a2c5b7c26049cdec80d04a8a7386af4"), looks := true }, kinds := [], alts := [], laidByText := true, laidKinds := [.data, .data], laidTests := true, laidLooks := .later }
def CrtSignedCardSaid : Prop := Claim7.holds Tryz.pinned (.plain (OpenSpec.ofChange crtSignedSpec)) crtSignedCard

/-- THE TIED CARD OF 'similelaw06.CrtOf'. -/
def crtOfCard : Claim7 := { stood := { row := crtOfRow, standIns := [], harness := (true, "672c0d9d09a0c76beaaf6ddcded824912a2c5b7c26049cdec80d04a8a7386af4"), looks := true }, kinds := [], alts := [], laidByText := true, laidKinds := [.data, .data], laidTests := true, laidLooks := .later }
def CrtOfCardSaid : Prop := Claim7.holds Tryz.pinned (.plain (OpenSpec.ofChange crtOfSpec)) crtOfCard

/-- THE TIED CARD OF 'similelaw06.CrtJoins'. -/
def crtJoinsCard : Claim7 := { stood := { row := crtJoinsRow, standIns := [], harness := (true, "672c0d9d09a0c76beaaf6ddcded824912a2c5b7c26049cdec80d04a8a7386af4"), looks := true }, kinds := [], alts := [], laidByText := true, laidKinds := [.data, .data], laidTests := true, laidLooks := .later }
def CrtJoinsCardSaid : Prop := Claim7.holds Tryz.pinned (.plain (OpenSpec.ofChange crtJoinsSpec)) crtJoinsCard

/-- THE TIED CARD OF 'similelaw06.CrtAdds'. -/
def crtAddsCard : Claim7 := { stood := { row := crtAddsRow, standIns := [], harness := (true, "672c0d9d09a0c76beaaf6ddcded824912a2c5b7c26049cdec80d04a8a7386af4"), looks := true }, kinds := [], alts := [], laidByText := true, laidKinds := [.data, .data], laidTests := true, laidLooks := .later }
def CrtAddsCardSaid : Prop := Claim7.holds Tryz.pinned (.plain (OpenSpec.ofChange crtAddsSpec)) crtAddsCard

/-- THE TIED CARD OF 'similelaw06.CrtNone'. -/
def crtNoneCard : Claim7 := { stood := { row := crtNoneRow, standIns := [], harness := (true, "672c0d9d09a0c76beaaf6ddcded824912a2c5b7c26049cdec80d04a8a7386af4"), looks := true }, kinds := [], alts := [], laidByText := true, laidKinds := [.data, .data], laidTests := true, laidLooks := .later }
def CrtNoneCardSaid : Prop := Claim7.holds Tryz.pinned (.plain (OpenSpec.ofChange crtNoneSpec)) crtNoneCard

/-- THE SECOND FORM's CARD OF 'similelaw06.CrtNames'. -/
def crtNamesUptoCard : Claim7 := { stood := { row := crtNamesUptoRow, standIns := [], harness := (true, "672c0d9d09a0c76beaaf6ddcded824912a2c5b7c26049cdec80d04a8a7386af4"), looks := true }, kinds := [], alts := [], laidByText := true, laidKinds := [.data, .data], laidTests := true, laidLooks := .later }
def CrtNamesUptoCardSaid : Prop := Claim7.holds Tryz.pinned (.plain (OpenSpec.upto crtNamesSpec)) crtNamesUptoCard

/-- THE SECOND FORM's CARD OF 'similelaw06.CrtRecons'. -/
def crtReconsUptoCard : Claim7 := { stood := { row := crtReconsUptoRow, standIns := [], harness := (true, "672c0d9d09a0c76beaaf6ddcded824912a2c5b7c26049cdec80d04a8a7386af4"), looks := true }, kinds := [], alts := [], laidByText := true, laidKinds := [.data, .data], laidTests := true, laidLooks := .later }
def CrtReconsUptoCardSaid : Prop := Claim7.holds Tryz.pinned (.plain (OpenSpec.upto crtReconsSpec)) crtReconsUptoCard

/-- THE SECOND FORM's CARD OF 'similelaw06.CrtSays'. -/
def crtSaysUptoCard : Claim7 := { stood := { row := crtSaysUptoRow, standIns := [], harness := (true, "672c0d9d09a0c76beaaf6ddcded824912a2c5b7c26049cdec80d04a8a7386af4"), looks := true }, kinds := [], alts := [], laidByText := true, laidKinds := [.data, .data], laidTests := true, laidLooks := .later }
def CrtSaysUptoCardSaid : Prop := Claim7.holds Tryz.pinned (.plain (OpenSpec.upto crtSaysSpec)) crtSaysUptoCard

/-- THE SECOND FORM's CARD OF 'similelaw06.CrtFractions'. -/
def crtFractionsUptoCard : Claim7 := { stood := { row := crtFractionsUptoRow, standIns := [], harness := (true, "672c0d9d09a0c76beaaf6ddcded824912a2c5b7c26049cdec80d04a8a7386af4"), looks := true }, kinds := [], alts := [], laidByText := true, laidKinds := [.data, .data], laidTests := true, laidLooks := .later }
def CrtFractionsUptoCardSaid : Prop := Claim7.holds Tryz.pinned (.plain (OpenSpec.upto crtFractionsSpec)) crtFractionsUptoCard

/-- THE SECOND FORM's CARD OF 'similelaw06.CrtLifts'. -/
def crtLiftsUptoCard : Claim7 := { stood := { row := crtLiftsUptoRow, standIns := [], harness := (true, "672c0d9d09a0c76beaaf6ddcded824912a2c5b7c26049cdec80d04a8a7386af4"), looks := true }, kinds := [], alts := [], laidByText := true, laidKinds := [.data, .data], laidTests := true, laidLooks := .later }
def CrtLiftsUptoCardSaid : Prop := Claim7.holds Tryz.pinned (.plain (OpenSpec.upto crtLiftsSpec)) crtLiftsUptoCard

/-- THE SECOND FORM's CARD OF 'similelaw06.CrtSigned'. -/
def crtSignedUptoCard : Claim7 := { stood := { row := crtSignedUptoRow, standIns := [], harness := (true, "672c0d9d09a0c76beaaf6ddcded824912a2c5b7c26049cdec80d04a8a7386af4"), looks := true }, kinds := [], alts := [], laidByText := true, laidKinds := [.data, .data], laidTests := true, laidLooks := .later }
def CrtSignedUptoCardSaid : Prop := Claim7.holds Tryz.pinned (.plain (OpenSpec.upto crtSignedSpec)) crtSignedUptoCard

/-- THE SECOND FORM's CARD OF 'similelaw06.CrtOf'. -/
def crtOfUptoCard : Claim7 := { stood := { row := crtOfUptoRow, standIns := [], harness := (true, "672c0d9d09a0c76beaaf6ddcded824912a2c5b7c26049cdec80d04a8a7386af4"), looks := true }, kinds := [], alts := [], laidByText := true, laidKinds := [.data, .data], laidTests := true, laidLooks := .later }
def CrtOfUptoCardSaid : Prop := Claim7.holds Tryz.pinned (.plain (OpenSpec.upto crtOfSpec)) crtOfUptoCard

/-- THE SECOND FORM's CARD OF 'similelaw06.CrtJoins'. -/
def crtJoinsUptoCard : Claim7 := { stood := { row := crtJoinsUptoRow, standIns := [], harness := (true, "672c0d9d09a0c76beaaf6ddcded824912a2c5b7c26049cdec80d04a8a7386af4"), looks := true }, kinds := [], alts := [], laidByText := true, laidKinds := [.data, .data], laidTests := true, laidLooks := .later }
def CrtJoinsUptoCardSaid : Prop := Claim7.holds Tryz.pinned (.plain (OpenSpec.upto crtJoinsSpec)) crtJoinsUptoCard

/-- THE SECOND FORM's CARD OF 'similelaw06.CrtAdds'. -/
def crtAddsUptoCard : Claim7 := { stood := { row := crtAddsUptoRow, standIns := [], harness := (true, "672c0d9d09a0c76beaaf6ddcded824912a2c5b7c26049cdec80d04a8a7386af4"), looks := true }, kinds := [], alts := [], laidByText := true, laidKinds := [.data, .data], laidTests := true, laidLooks := .later }
def CrtAddsUptoCardSaid : Prop := Claim7.holds Tryz.pinned (.plain (OpenSpec.upto crtAddsSpec)) crtAddsUptoCard

/-- THE SECOND FORM's CARD OF 'similelaw06.CrtNone'. -/
def crtNoneUptoCard : Claim7 := { stood := { row := crtNoneUptoRow, standIns := [], harness := (true, "672c0d9d09a0c76beaaf6ddcded824912a2c5b7c26049cdec80d04a8a7386af4"), looks := true }, kinds := [], alts := [], laidByText := true, laidKinds := [.data, .data], laidTests := true, laidLooks := .later }
def CrtNoneUptoCardSaid : Prop := Claim7.holds Tryz.pinned (.plain (OpenSpec.upto crtNoneSpec)) crtNoneUptoCard
end Rows
end Go.Proofs.YtjbcjlbbipohjaaGreatDoor
