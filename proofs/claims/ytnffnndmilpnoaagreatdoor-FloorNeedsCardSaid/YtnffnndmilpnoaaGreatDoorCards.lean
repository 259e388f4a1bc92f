/-
  DERIVED. GIVEN WITH THE SEED: THE CARDS: each row of YtnffnndmilpnoaaGreatDoorRows.lean that lists a variable, with what it lists TIED to the program's text (the seventh form; the later family's looks); each row that meets fmt, with fmt's text TOLD by the authors' own Lean function (tested against real Go, not proved from fmt's source: count such statements apart). THE CARD IS WHAT COUNTS. Prove the row's statement (the work); the ties are given (YtnffnndmilpnoaaGreatDoorTie.lean); close each card by the builder's one call (the guide's Derived/Test/ToyasCard.lean, 'card_holds'). Laid BY PROGRAM, IN A SANDBOX (cutbox-door.mjs). By AI agents, Wed Nov 11 2026. No macro, syntax, notation, axiom, sorry.
-/
import Derived.Test.YtnffnndmilpnoaaGreatDoorRows
import GoSem.ClaimSeven
namespace Go.Proofs.YtnffnndmilpnoaaGreatDoor
namespace Rows

/-- THE TIED CARD OF 'muscovadolaw05.FloorStands'. -/
def floorStandsCard : Claim7 := { stood := { row := floorStandsRow, standIns := [], harness := (true, "932c88532bdd9f747448356d9505525067ce9e853f4d287a395f8a57faaf4fbd"), looks := true }, kinds := [], alts := [], goes := true, laidByText := true, laidKinds := [.handle], laidTests := true, laidLooks := .later }
def FloorStandsCardSaid : Prop := Claim7.holds Tryz.pinned (.plain (OpenSpec.ofChange floorStandsSpec)) floorStandsCard

/-- THE TIED CARD OF 'muscovadolaw05.FloorBests'. -/
def floorBestsCard : Claim7 := { stood := { row := floorBestsRow, standIns := [], harness := (true, "932c88532bdd9f747448356d9505525067ce9e853f4d287a395f8a57faaf4fbd"), looks := true }, kinds := [], alts := [], goes := true, laidByText := true, laidKinds := [.handle], laidTests := true, laidLooks := .later }
def FloorBestsCardSaid : Prop := Claim7.holds Tryz.pinned (.plain (OpenSpec.ofChange floorBestsSpec)) floorBestsCard

/-- THE TIED CARD OF 'muscovadolaw05.FloorLates'. -/
def floorLatesCard : Claim7 := { stood := { row := floorLatesRow, standIns := [], harness := (true, "932c88532bdd9f747448356d9505525067ce9e853f4d287a395f8a57faaf4fbd"), looks := true }, kinds := [], alts := [], goes := true, laidByText := true, laidKinds := [.handle], laidTests := true, laidLooks := .later }
def FloorLatesCardSaid : Prop := Claim7.holds Tryz.pinned (.plain (OpenSpec.ofChange floorLatesSpec)) floorLatesCard

/-- THE TIED CARD OF 'muscovadolaw05.FloorWrongs'. -/
def floorWrongsCard : Claim7 := { stood := { row := floorWrongsRow, standIns := [], harness := (true, "932c88532bdd9f747448356d9505525067ce9e853f4d287a395f8a57faaf4fbd"), looks := true }, kinds := [], alts := [], goes := true, laidByText := true, laidKinds := [.handle], laidTests := true, laidLooks := .later }
def FloorWrongsCardSaid : Prop := Claim7.holds Tryz.pinned (.plain (OpenSpec.ofChange floorWrongsSpec)) floorWrongsCard

/-- THE TIED CARD OF 'muscovadolaw05.FloorNeeds'. -/
def floorNeedsCard : Claim7 := { stood := { row := floorNeedsRow, standIns := [], harness := (true, "932c88532bdd9f747448356d9505525067ce9e853f4d287a395f8a57faaf4fbd"), looks := true }, kinds := [], alts := [], goes := true, laidByText := true, laidKinds := [.handle], laidTests := true, laidLooks := .later }
def FloorNeedsCardSaid : Prop := Claim7.holds Tryz.pinned (.plain (OpenSpec.ofChange floorNeedsSpec)) floorNeedsCard

/-- THE TIED CARD OF 'muscovadotop.TopLadled'. -/
def topLadledCard : Claim7 := { stood := { row := topLadledRow, standIns := [], harness := (true, "932c88532bdd9f747448356d9505525067ce9e853f4d287a395f8a57faaf4fbd"), looks := true }, kinds := [], alts := [], goes := true, laidByText := true, laidKinds := [.handle], laidTests := true, laidLooks := .later }
def TopLadledCardSaid : Prop := Claim7.holds Tryz.pinned (.plain (OpenSpec.ofChange topLadledSpec)) topLadledCard

/-- THE SECOND FORM's CARD OF 'muscovadolaw05.FloorStands'. -/
def floorStandsUptoCard : Claim7 := { stood := { row := floorStandsUptoRow, standIns := [], harness := (true, "932c88532bdd9f747448356d9505525067ce9e853f4d287a395f8a57faaf4fbd"), looks := true }, kinds := [], alts := [], goes := true, laidByText := true, laidKinds := [.handle], laidTests := true, laidLooks := .later }
def FloorStandsUptoCardSaid : Prop := Claim7.holds Tryz.pinned (.plain (OpenSpec.upto floorStandsSpec)) floorStandsUptoCard

/-- THE SECOND FORM's CARD OF 'muscovadolaw05.FloorBests'. -/
def floorBestsUptoCard : Claim7 := { stood := { row := floorBestsUptoRow, standIns := [], harness := (true, "932c88532bdd9f747448356d9505525067ce9e853f4d287a395f8a57faaf4fbd"), looks := true }, kinds := [], alts := [], goes := true, laidByText := true, laidKinds := [.handle], laidTests := true, laidLooks := .later }
def FloorBestsUptoCardSaid : Prop := Claim7.holds Tryz.pinned (.plain (OpenSpec.upto floorBestsSpec)) floorBestsUptoCard

/-- THE SECOND FORM's CARD OF 'muscovadolaw05.FloorLates'. -/
def floorLatesUptoCard : Claim7 := { stood := { row := floorLatesUptoRow, standIns := [], harness := (true, "932c88532bdd9f747448356d9505525067ce9e853f4d287a395f8a57faaf4fbd"), looks := true }, kinds := [], alts := [], goes := true, laidByText := true, laidKinds := [.handle], laidTests := true, laidLooks := .later }
def FloorLatesUptoCardSaid : Prop := Claim7.holds Tryz.pinned (.plain (OpenSpec.upto floorLatesSpec)) floorLatesUptoCard

/-- THE SECOND FORM's CARD OF 'muscovadolaw05.FloorWrongs'. -/
def floorWrongsUptoCard : Claim7 := { stood := { row := floorWrongsUptoRow, standIns := [], harness := (true, "932c88532bdd9f747448356d9505525067ce9e853f4d287a395f8a57faaf4fbd"), looks := true }, kinds := [], alts := [], goes := true, laidByText := true, laidKinds := [.handle], laidTests := true, laidLooks := .later }
def FloorWrongsUptoCardSaid : Prop := Claim7.holds Tryz.pinned (.plain (OpenSpec.upto floorWrongsSpec)) floorWrongsUptoCard

/-- THE SECOND FORM's CARD OF 'muscovadolaw05.FloorNeeds'. -/
def floorNeedsUptoCard : Claim7 := { stood := { row := floorNeedsUptoRow, standIns := [], harness := (true, "932c88532bdd9f747448356d9505525067ce9e853f4d287a395f8a57faaf4fbd"), looks := true }, kinds := [], alts := [], goes := true, laidByText := true, laidKinds := [.handle], laidTests := true, laidLooks := .later }
def FloorNeedsUptoCardSaid : Prop := Claim7.holds Tryz.pinned (.plain (OpenSpec.upto floorNeedsSpec)) floorNeedsUptoCard

/-- THE SECOND FORM's CARD OF 'muscovadotop.TopLadled'. -/
def topLadledUptoCard : Claim7 := { stood := { row := topLadledUptoRow, standIns := [], harness := (true, "932c88532bdd9f747448356d9505525067ce9e853f4d287a395f8a57faaf4fbd"), looks := true }, kinds := [], alts := [], goes := true, laidByText := true, laidKinds := [.handle], laidTests := true, laidLooks := .later }
def TopLadledUptoCardSaid : Prop := Claim7.holds Tryz.pinned (.plain (OpenSpec.upto topLadledSpec)) topLadledUptoCard
end Rows
end Go.Proofs.YtnffnndmilpnoaaGreatDoor
