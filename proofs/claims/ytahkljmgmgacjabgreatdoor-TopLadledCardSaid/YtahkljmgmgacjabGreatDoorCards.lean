/-
  DERIVED. GIVEN WITH THE SEED: THE CARDS: each row of YtahkljmgmgacjabGreatDoorRows.lean that lists a variable, with what it lists TIED to the program's text (the seventh form; the later family's looks); each row that meets fmt, with fmt's text TOLD by the authors' own Lean function (tested against real Go, not proved from fmt's source: count such statements apart). THE CARD IS WHAT COUNTS. Prove the row's statement (the work); the ties are given (YtahkljmgmgacjabGreatDoorTie.lean); close each card by the builder's one call (the guide's Derived/Test/ToyasCard.lean, 'card_holds'). Laid BY PROGRAM, IN A SANDBOX (cutbox-door.mjs). By AI agents, Wed Nov 11 2026. No macro, syntax, notation, axiom, sorry.
-/
import Derived.Test.YtahkljmgmgacjabGreatDoorRows
import GoSem.ClaimSeven
namespace Go.Proofs.YtahkljmgmgacjabGreatDoor
namespace Rows

/-- THE TIED CARD OF 'muscovadotop.TopLadled'. -/
def topLadledCard : Claim7 := { stood := { row := topLadledRow, standIns := [], harness := (true, "55e588bc38caaea064a1eed892ab43bc528285e6017fbfa0de7573cd9a7a888a"), looks := true }, kinds := [], alts := [], goes := true, laidByText := true, laidKinds := [.handle], laidTests := true, laidLooks := .later }
def TopLadledCardSaid : Prop := Claim7.holds Tryz.pinned (.plain (OpenSpec.ofChange topLadledSpec)) topLadledCard

/-- THE SECOND FORM's CARD OF 'muscovadotop.TopLadled'. -/
def topLadledUptoCard : Claim7 := { stood := { row := topLadledUptoRow, standIns := [], harness := (true, "55e588bc38caaea064a1eed892ab43bc528285e6017fbfa0de7573cd9a7a888a"), looks := true }, kinds := [], alts := [], goes := true, laidByText := true, laidKinds := [.handle], laidTests := true, laidLooks := .later }
def TopLadledUptoCardSaid : Prop := Claim7.holds Tryz.pinned (.plain (OpenSpec.upto topLadledSpec)) topLadledUptoCard
end Rows
end Go.Proofs.YtahkljmgmgacjabGreatDoor
