/-
  DERIVED. GIVEN WITH THE SEED: THE CARDS: each row of YtabnpjbnoedfgaaDoorRows.lean that lists a variable, with what it lists TIED to the program's text (the seventh form; the later family's looks); each row that meets fmt, with fmt's text TOLD by the authors' own Lean function (tested against real Go, not proved from fmt's source: count such statements apart). THE CARD IS WHAT COUNTS. Prove the row's statement (the work); the ties are given (YtabnpjbnoedfgaaDoorTie.lean); close each card by the builder's one call (the guide's Derived/Test/ToyasCard.lean, 'card_holds'). Laid BY PROGRAM, IN A SANDBOX (cutbox-door.mjs). By AI agents, Wed Nov 11 2026. No macro, syntax, notation, axiom, sorry.
-/
import Derived.Test.YtabnpjbnoedfgaaDoorRows
import GoSem.ClaimSeven
namespace Go.Proofs.YtabnpjbnoedfgaaDoor
namespace Rows

/-- THE TIED CARD OF 'muscovadolaw05.FloorWithout'. -/
def floorWithoutCard : Claim7 := { stood := { row := floorWithoutRow, standIns := [], harness := (true, "2e2133920f864db8286a366f85eb0bf56b29bab96a3561a4e902e110205c3504"), looks := true }, kinds := [], alts := [], goes := true, laidByText := true, laidKinds := [.handle], laidTests := true, laidLooks := .later }
def FloorWithoutCardSaid : Prop := Claim7.holds Tryd.pinned (.plain (OpenSpec.ofChange floorWithoutSpec)) floorWithoutCard

/-- THE TIED CARD OF 'muscovadolaw05.FloorLate'. -/
def floorLateCard : Claim7 := { stood := { row := floorLateRow, standIns := [], harness := (true, "2e2133920f864db8286a366f85eb0bf56b29bab96a3561a4e902e110205c3504"), looks := true }, kinds := [], alts := [], goes := true, laidByText := true, laidKinds := [.handle], laidTests := true, laidLooks := .later }
def FloorLateCardSaid : Prop := Claim7.holds Tryd.pinned (.plain (OpenSpec.ofChange floorLateSpec)) floorLateCard

/-- THE TIED CARD OF 'muscovadolaw05.FloorPatience'. -/
def floorPatienceCard : Claim7 := { stood := { row := floorPatienceRow, standIns := [], harness := (true, "2e2133920f864db8286a366f85eb0bf56b29bab96a3561a4e902e110205c3504"), looks := true }, kinds := [], alts := [], goes := true, laidByText := true, laidKinds := [.handle], laidTests := true, laidLooks := .later }
def FloorPatienceCardSaid : Prop := Claim7.holds Tryd.pinned (.plain (OpenSpec.ofChange floorPatienceSpec)) floorPatienceCard

/-- THE TIED CARD OF 'muscovadolaw05.FloorNeed'. -/
def floorNeedCard : Claim7 := { stood := { row := floorNeedRow, standIns := [], harness := (true, "2e2133920f864db8286a366f85eb0bf56b29bab96a3561a4e902e110205c3504"), looks := true }, kinds := [], alts := [], goes := true, laidByText := true, laidKinds := [.handle], laidTests := true, laidLooks := .later }
def FloorNeedCardSaid : Prop := Claim7.holds Tryd.pinned (.plain (OpenSpec.ofChange floorNeedSpec)) floorNeedCard

/-- THE TIED CARD OF 'muscovadolaw05.FloorMore'. -/
def floorMoreCard : Claim7 := { stood := { row := floorMoreRow, standIns := [], harness := (true, "2e2133920f864db8286a366f85eb0bf56b29bab96a3561a4e902e110205c3504"), looks := true }, kinds := [], alts := [], goes := true, laidByText := true, laidKinds := [.handle], laidTests := true, laidLooks := .later }
def FloorMoreCardSaid : Prop := Claim7.holds Tryd.pinned (.plain (OpenSpec.ofChange floorMoreSpec)) floorMoreCard

/-- THE TIED CARD OF 'muscovadolaw05.FloorSlower'. -/
def floorSlowerCard : Claim7 := { stood := { row := floorSlowerRow, standIns := [], harness := (true, "2e2133920f864db8286a366f85eb0bf56b29bab96a3561a4e902e110205c3504"), looks := true }, kinds := [], alts := [], goes := true, laidByText := true, laidKinds := [.handle], laidTests := true, laidLooks := .later }
def FloorSlowerCardSaid : Prop := Claim7.holds Tryd.pinned (.plain (OpenSpec.ofChange floorSlowerSpec)) floorSlowerCard

/-- THE TIED CARD OF 'muscovadolaw05.FloorBest'. -/
def floorBestCard : Claim7 := { stood := { row := floorBestRow, standIns := [], harness := (true, "2e2133920f864db8286a366f85eb0bf56b29bab96a3561a4e902e110205c3504"), looks := true }, kinds := [], alts := [], goes := true, laidByText := true, laidKinds := [.handle], laidTests := true, laidLooks := .later }
def FloorBestCardSaid : Prop := Claim7.holds Tryd.pinned (.plain (OpenSpec.ofChange floorBestSpec)) floorBestCard

/-- THE TIED CARD OF 'muscovadolaw05.FloorLater'. -/
def floorLaterCard : Claim7 := { stood := { row := floorLaterRow, standIns := [], harness := (true, "2e2133920f864db8286a366f85eb0bf56b29bab96a3561a4e902e110205c3504"), looks := true }, kinds := [], alts := [], goes := true, laidByText := true, laidKinds := [.handle], laidTests := true, laidLooks := .later }
def FloorLaterCardSaid : Prop := Claim7.holds Tryd.pinned (.plain (OpenSpec.ofChange floorLaterSpec)) floorLaterCard

/-- THE TIED CARD OF 'muscovadolaw05.FloorNumbered'. -/
def floorNumberedCard : Claim7 := { stood := { row := floorNumberedRow, standIns := [], harness := (true, "2e2133920f864db8286a366f85eb0bf56b29bab96a3561a4e902e110205c3504"), looks := true }, kinds := [], alts := [], goes := true, laidByText := true, laidKinds := [.handle], laidTests := true, laidLooks := .later }
def FloorNumberedCardSaid : Prop := Claim7.holds Tryd.pinned (.plain (OpenSpec.ofChange floorNumberedSpec)) floorNumberedCard

/-- THE TIED CARD OF 'muscovadolaw05.FloorHeat'. -/
def floorHeatCard : Claim7 := { stood := { row := floorHeatRow, standIns := [], harness := (true, "2e2133920f864db8286a366f85eb0bf56b29bab96a3561a4e902e110205c3504"), looks := true }, kinds := [], alts := [], goes := true, laidByText := true, laidKinds := [.handle], laidTests := true, laidLooks := .later }
def FloorHeatCardSaid : Prop := Claim7.holds Tryd.pinned (.plain (OpenSpec.ofChange floorHeatSpec)) floorHeatCard

/-- THE TIED CARD OF 'muscovadolaw05.FloorAll'. -/
def floorAllCard : Claim7 := { stood := { row := floorAllRow, standIns := [], harness := (true, "2e2133920f864db8286a366f85eb0bf56b29bab96a3561a4e902e110205c3504"), looks := true }, kinds := [], alts := [], goes := true, laidByText := true, laidKinds := [.handle], laidTests := true, laidLooks := .later }
def FloorAllCardSaid : Prop := Claim7.holds Tryd.pinned (.plain (OpenSpec.ofChange floorAllSpec)) floorAllCard

/-- THE TIED CARD OF 'muscovadolaw05.FloorKnown'. -/
def floorKnownCard : Claim7 := { stood := { row := floorKnownRow, standIns := [], harness := (true, "2e2133920f864db8286a366f85eb0bf56b29bab96a3561a4e902e110205c3504"), looks := true }, kinds := [], alts := [], goes := true, laidByText := true, laidKinds := [.handle], laidTests := true, laidLooks := .later }
def FloorKnownCardSaid : Prop := Claim7.holds Tryd.pinned (.plain (OpenSpec.ofChange floorKnownSpec)) floorKnownCard

/-- THE SECOND FORM's CARD OF 'muscovadolaw05.FloorWithout'. -/
def floorWithoutUptoCard : Claim7 := { stood := { row := floorWithoutUptoRow, standIns := [], harness := (true, "2e2133920f864db8286a366f85eb0bf56b29bab96a3561a4e902e110205c3504"), looks := true }, kinds := [], alts := [], goes := true, laidByText := true, laidKinds := [.handle], laidTests := true, laidLooks := .later }
def FloorWithoutUptoCardSaid : Prop := Claim7.holds Tryd.pinned (.plain (OpenSpec.upto floorWithoutSpec)) floorWithoutUptoCard

/-- THE SECOND FORM's CARD OF 'muscovadolaw05.FloorLate'. -/
def floorLateUptoCard : Claim7 := { stood := { row := floorLateUptoRow, standIns := [], harness := (true, "2e2133920f864db8286a366f85eb0bf56b29bab96a3561a4e902e110205c3504"), looks := true }, kinds := [], alts := [], goes := true, laidByText := true, laidKinds := [.handle], laidTests := true, laidLooks := .later }
def FloorLateUptoCardSaid : Prop := Claim7.holds Tryd.pinned (.plain (OpenSpec.upto floorLateSpec)) floorLateUptoCard

/-- THE SECOND FORM's CARD OF 'muscovadolaw05.FloorPatience'. -/
def floorPatienceUptoCard : Claim7 := { stood := { row := floorPatienceUptoRow, standIns := [], harness := (true, "2e2133920f864db8286a366f85eb0bf56b29bab96a3561a4e902e110205c3504"), looks := true }, kinds := [], alts := [], goes := true, laidByText := true, laidKinds := [.handle], laidTests := true, laidLooks := .later }
def FloorPatienceUptoCardSaid : Prop := Claim7.holds Tryd.pinned (.plain (OpenSpec.upto floorPatienceSpec)) floorPatienceUptoCard

/-- THE SECOND FORM's CARD OF 'muscovadolaw05.FloorNeed'. -/
def floorNeedUptoCard : Claim7 := { stood := { row := floorNeedUptoRow, standIns := [], harness := (true, "2e2133920f864db8286a366f85eb0bf56b29bab96a3561a4e902e110205c3504"), looks := true }, kinds := [], alts := [], goes := true, laidByText := true, laidKinds := [.handle], laidTests := true, laidLooks := .later }
def FloorNeedUptoCardSaid : Prop := Claim7.holds Tryd.pinned (.plain (OpenSpec.upto floorNeedSpec)) floorNeedUptoCard

/-- THE SECOND FORM's CARD OF 'muscovadolaw05.FloorMore'. -/
def floorMoreUptoCard : Claim7 := { stood := { row := floorMoreUptoRow, standIns := [], harness := (true, "2e2133920f864db8286a366f85eb0bf56b29bab96a3561a4e902e110205c3504"), looks := true }, kinds := [], alts := [], goes := true, laidByText := true, laidKinds := [.handle], laidTests := true, laidLooks := .later }
def FloorMoreUptoCardSaid : Prop := Claim7.holds Tryd.pinned (.plain (OpenSpec.upto floorMoreSpec)) floorMoreUptoCard

/-- THE SECOND FORM's CARD OF 'muscovadolaw05.FloorSlower'. -/
def floorSlowerUptoCard : Claim7 := { stood := { row := floorSlowerUptoRow, standIns := [], harness := (true, "2e2133920f864db8286a366f85eb0bf56b29bab96a3561a4e902e110205c3504"), looks := true }, kinds := [], alts := [], goes := true, laidByText := true, laidKinds := [.handle], laidTests := true, laidLooks := .later }
def FloorSlowerUptoCardSaid : Prop := Claim7.holds Tryd.pinned (.plain (OpenSpec.upto floorSlowerSpec)) floorSlowerUptoCard

/-- THE SECOND FORM's CARD OF 'muscovadolaw05.FloorBest'. -/
def floorBestUptoCard : Claim7 := { stood := { row := floorBestUptoRow, standIns := [], harness := (true, "2e2133920f864db8286a366f85eb0bf56b29bab96a3561a4e902e110205c3504"), looks := true }, kinds := [], alts := [], goes := true, laidByText := true, laidKinds := [.handle], laidTests := true, laidLooks := .later }
def FloorBestUptoCardSaid : Prop := Claim7.holds Tryd.pinned (.plain (OpenSpec.upto floorBestSpec)) floorBestUptoCard

/-- THE SECOND FORM's CARD OF 'muscovadolaw05.FloorLater'. -/
def floorLaterUptoCard : Claim7 := { stood := { row := floorLaterUptoRow, standIns := [], harness := (true, "2e2133920f864db8286a366f85eb0bf56b29bab96a3561a4e902e110205c3504"), looks := true }, kinds := [], alts := [], goes := true, laidByText := true, laidKinds := [.handle], laidTests := true, laidLooks := .later }
def FloorLaterUptoCardSaid : Prop := Claim7.holds Tryd.pinned (.plain (OpenSpec.upto floorLaterSpec)) floorLaterUptoCard

/-- THE SECOND FORM's CARD OF 'muscovadolaw05.FloorNumbered'. -/
def floorNumberedUptoCard : Claim7 := { stood := { row := floorNumberedUptoRow, standIns := [], harness := (true, "2e2133920f864db8286a366f85eb0bf56b29bab96a3561a4e902e110205c3504"), looks := true }, kinds := [], alts := [], goes := true, laidByText := true, laidKinds := [.handle], laidTests := true, laidLooks := .later }
def FloorNumberedUptoCardSaid : Prop := Claim7.holds Tryd.pinned (.plain (OpenSpec.upto floorNumberedSpec)) floorNumberedUptoCard

/-- THE SECOND FORM's CARD OF 'muscovadolaw05.FloorHeat'. -/
def floorHeatUptoCard : Claim7 := { stood := { row := floorHeatUptoRow, standIns := [], harness := (true, "2e2133920f864db8286a366f85eb0bf56b29bab96a3561a4e902e110205c3504"), looks := true }, kinds := [], alts := [], goes := true, laidByText := true, laidKinds := [.handle], laidTests := true, laidLooks := .later }
def FloorHeatUptoCardSaid : Prop := Claim7.holds Tryd.pinned (.plain (OpenSpec.upto floorHeatSpec)) floorHeatUptoCard

/-- THE SECOND FORM's CARD OF 'muscovadolaw05.FloorAll'. -/
def floorAllUptoCard : Claim7 := { stood := { row := floorAllUptoRow, standIns := [], harness := (true, "2e2133920f864db8286a366f85eb0bf56b29bab96a3561a4e902e110205c3504"), looks := true }, kinds := [], alts := [], goes := true, laidByText := true, laidKinds := [.handle], laidTests := true, laidLooks := .later }
def FloorAllUptoCardSaid : Prop := Claim7.holds Tryd.pinned (.plain (OpenSpec.upto floorAllSpec)) floorAllUptoCard

/-- THE SECOND FORM's CARD OF 'muscovadolaw05.FloorKnown'. -/
def floorKnownUptoCard : Claim7 := { stood := { row := floorKnownUptoRow, standIns := [], harness := (true, "2e2133920f864db8286a366f85eb0bf56b29bab96a3561a4e902e110205c3504"), looks := true }, kinds := [], alts := [], goes := true, laidByText := true, laidKinds := [.handle], laidTests := true, laidLooks := .later }
def FloorKnownUptoCardSaid : Prop := Claim7.holds Tryd.pinned (.plain (OpenSpec.upto floorKnownSpec)) floorKnownUptoCard
end Rows
end Go.Proofs.YtabnpjbnoedfgaaDoor
