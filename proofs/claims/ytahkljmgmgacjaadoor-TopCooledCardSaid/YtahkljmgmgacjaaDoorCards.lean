/-
  DERIVED. GIVEN WITH THE SEED: THE CARDS: each row of YtahkljmgmgacjaaDoorRows.lean that lists a variable, with what it lists TIED to the program's text (the seventh form; the later family's looks); each row that meets fmt, with fmt's text TOLD by the authors' own Lean function (tested against real Go, not proved from fmt's source: count such statements apart). THE CARD IS WHAT COUNTS. Prove the row's statement (the work); the ties are given (YtahkljmgmgacjaaDoorTie.lean); close each card by the builder's one call (the guide's Derived/Test/ToyasCard.lean, 'card_holds'). Laid BY PROGRAM, IN A SANDBOX (cutbox-door.mjs). By AI agents, Wed Nov 11 2026. No macro, syntax, notation, axiom, sorry.
-/
import Derived.Test.YtahkljmgmgacjaaDoorRows
import GoSem.ClaimSeven
namespace Go.Proofs.YtahkljmgmgacjaaDoor
namespace Rows

/-- THE TIED CARD OF 'muscovadotop.TopCooled'. -/
def topCooledCard : Claim7 := { stood := { row := topCooledRow, standIns := [], harness := (true, "b8e1008555bae0ef7b4a572b23eaa1c5aa67a6e292b0d9918b7b3c50015b1501"), looks := true }, kinds := [], alts := [], laidByText := true, laidKinds := [.handle], laidTests := true, laidLooks := .later }
def TopCooledCardSaid : Prop := Claim7.holds Tryd.pinned (.plain (OpenSpec.ofChange topCooledSpec)) topCooledCard

/-- THE SECOND FORM's CARD OF 'muscovadotop.TopCooled'. -/
def topCooledUptoCard : Claim7 := { stood := { row := topCooledUptoRow, standIns := [], harness := (true, "b8e1008555bae0ef7b4a572b23eaa1c5aa67a6e292b0d9918b7b3c50015b1501"), looks := true }, kinds := [], alts := [], laidByText := true, laidKinds := [.handle], laidTests := true, laidLooks := .later }
def TopCooledUptoCardSaid : Prop := Claim7.holds Tryd.pinned (.plain (OpenSpec.upto topCooledSpec)) topCooledUptoCard
end Rows
end Go.Proofs.YtahkljmgmgacjaaDoor
