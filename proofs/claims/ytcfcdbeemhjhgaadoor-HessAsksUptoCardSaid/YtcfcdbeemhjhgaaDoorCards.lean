/-
  DERIVED. GIVEN WITH THE SEED: THE CARDS: each row of YtcfcdbeemhjhgaaDoorRows.lean that lists a variable, with what it lists TIED to the program's text (the seventh form; the later family's looks); each row that meets fmt, with fmt's text TOLD by the authors' own Lean function (tested against real Go, not proved from fmt's source: count such statements apart). THE CARD IS WHAT COUNTS. Prove the row's statement (the work); the ties are given (YtcfcdbeemhjhgaaDoorTie.lean); close each card by the builder's one call (the guide's Derived/Test/ToyasCard.lean, 'card_holds'). Laid BY PROGRAM, IN A SANDBOX (cutbox-door.mjs). By AI agents, Wed Nov 11 2026. No macro, syntax, notation, axiom, sorry.
-/
import Derived.Test.YtcfcdbeemhjhgaaDoorRows
import GoSem.ClaimSeven
namespace Go.Proofs.YtcfcdbeemhjhgaaDoor
namespace Rows

/-- THE TIED CARD OF 'similelaw21.HessAsks'. -/
def hessAsksCard : Claim7 := { stood := { row := hessAsksRow, standIns := [], harness := (true, "89d4e28adffcb98173efe95aa1929dce4d632ea9afc87d325f1adc9b11061202"), looks := false }, kinds := [], alts := [], laidByText := true, laidKinds := [.data, .data], laidTests := true, laidLooks := .later }
def HessAsksCardSaid : Prop := Claim7.holds Tryd.pinned (.plain (OpenSpec.ofChange hessAsksSpec)) hessAsksCard

/-- THE TIED CARD OF 'similelaw21.HessReduces'. -/
def hessReducesCard : Claim7 := { stood := { row := hessReducesRow, standIns := [], harness := (true, "89d4e28adffcb98173efe95aa1929dce4d632ea9afc87d325f1adc9b11061202"), looks := false }, kinds := [], alts := [], laidByText := true, laidKinds := [.data, .data], laidTests := true, laidLooks := .later }
def HessReducesCardSaid : Prop := Claim7.holds Tryd.pinned (.plain (OpenSpec.ofChange hessReducesSpec)) hessReducesCard

/-- THE TIED CARD OF 'similelaw21.HessSame'. -/
def hessSameCard : Claim7 := { stood := { row := hessSameRow, standIns := [], harness := (true, "89d4e28adffcb98173efe95aa1929dce4d632ea9afc87d325f1adc9b11061202"), looks := false }, kinds := [], alts := [], laidByText := true, laidKinds := [.data, .data], laidTests := true, laidLooks := .later }
def HessSameCardSaid : Prop := Claim7.holds Tryd.pinned (.plain (OpenSpec.ofChange hessSameSpec)) hessSameCard

/-- THE TIED CARD OF 'similelaw21.HessOf'. -/
def hessOfCard : Claim7 := { stood := { row := hessOfRow, standIns := [], harness := (true, "89d4e28adffcb98173efe95aa1929dce4d632ea9afc87d325f1adc9b11061202"), looks := false }, kinds := [], alts := [], laidByText := true, laidKinds := [.data, .data], laidTests := true, laidLooks := .later }
def HessOfCardSaid : Prop := Claim7.holds Tryd.pinned (.plain (OpenSpec.ofChange hessOfSpec)) hessOfCard

/-- THE SECOND FORM's CARD OF 'similelaw21.HessAsks'. -/
def hessAsksUptoCard : Claim7 := { stood := { row := hessAsksUptoRow, standIns := [], harness := (true, "89d4e28adffcb98173efe95aa1929dce4d632ea9afc87d325f1adc9b11061202"), looks := false }, kinds := [], alts := [], laidByText := true, laidKinds := [.data, .data], laidTests := true, laidLooks := .later }
def HessAsksUptoCardSaid : Prop := Claim7.holds Tryd.pinned (.plain (OpenSpec.upto hessAsksSpec)) hessAsksUptoCard

/-- THE SECOND FORM's CARD OF 'similelaw21.HessReduces'. -/
def hessReducesUptoCard : Claim7 := { stood := { row := hessReducesUptoRow, standIns := [], harness := (true, "89d4e28adffcb98173efe95aa1929dce4d632ea9afc87d325f1adc9b11061202"), looks := false }, kinds := [], alts := [], laidByText := true, laidKinds := [.data, .data], laidTests := true, laidLooks := .later }
def HessReducesUptoCardSaid : Prop := Claim7.holds Tryd.pinned (.plain (OpenSpec.upto hessReducesSpec)) hessReducesUptoCard

/-- THE SECOND FORM's CARD OF 'similelaw21.HessSame'. -/
def hessSameUptoCard : Claim7 := { stood := { row := hessSameUptoRow, standIns := [], harness := (true, "89d4e28adffcb98173efe95aa1929dce4d632ea9afc87d325f1adc9b11061202"), looks := false }, kinds := [], alts := [], laidByText := true, laidKinds := [.data, .data], laidTests := true, laidLooks := .later }
def HessSameUptoCardSaid : Prop := Claim7.holds Tryd.pinned (.plain (OpenSpec.upto hessSameSpec)) hessSameUptoCard

/-- THE SECOND FORM's CARD OF 'similelaw21.HessOf'. -/
def hessOfUptoCard : Claim7 := { stood := { row := hessOfUptoRow, standIns := [], harness := (true, "89d4e28adffcb98173efe95aa1929dce4d632ea9afc87d325f1adc9b11061202"), looks := false }, kinds := [], alts := [], laidByText := true, laidKinds := [.data, .data], laidTests := true, laidLooks := .later }
def HessOfUptoCardSaid : Prop := Claim7.holds Tryd.pinned (.plain (OpenSpec.upto hessOfSpec)) hessOfUptoCard
end Rows
end Go.Proofs.YtcfcdbeemhjhgaaDoor
