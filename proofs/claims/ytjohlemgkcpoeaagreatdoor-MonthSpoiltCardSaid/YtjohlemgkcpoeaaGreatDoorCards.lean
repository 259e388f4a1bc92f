/-
  DERIVED. GIVEN WITH THE SEED: THE CARDS: each row of YtjohlemgkcpoeaaGreatDoorRows.lean that lists a variable, with what it lists TIED to the program's text (the seventh form; the later family's looks); each row that meets fmt, with fmt's text TOLD by the authors' own Lean function (tested against real Go, not proved from fmt's source: count such statements apart). THE CARD IS WHAT COUNTS. Prove the row's statement (the work); the ties are given (YtjohlemgkcpoeaaGreatDoorTie.lean); close each card by the builder's one call (the guide's Derived/Test/ToyasCard.lean, 'card_holds'). Laid BY PROGRAM, IN A SANDBOX (cutbox-door.mjs). By AI agents, Wed Nov 11 2026. No macro, syntax, notation, axiom, sorry.
-/
import Derived.Test.YtjohlemgkcpoeaaGreatDoorRows
import GoSem.ClaimSeven
namespace Go.Proofs.YtjohlemgkcpoeaaGreatDoor
namespace Rows

/-- THE TIED CARD OF 'muscovadolaw11.MonthKinds'. -/
def monthKindsCard : Claim7 := { stood := { row := monthKindsRow, standIns := [], harness := (true, "7f4942f75e0aa529f875d616e9d50057cf3bdd5110e2933167319e72962be2bd"), looks := true }, kinds := [], alts := [], goes := true, laidByText := true, laidKinds := [.handle], laidTests := true, laidLooks := .later }
def MonthKindsCardSaid : Prop := Claim7.holds Tryz.pinned (.plain (OpenSpec.ofChange monthKindsSpec)) monthKindsCard

/-- THE TIED CARD OF 'muscovadolaw11.MonthLate'. -/
def monthLateCard : Claim7 := { stood := { row := monthLateRow, standIns := [], harness := (true, "7f4942f75e0aa529f875d616e9d50057cf3bdd5110e2933167319e72962be2bd"), looks := true }, kinds := [], alts := [], goes := true, laidByText := true, laidKinds := [.handle], laidTests := true, laidLooks := .later }
def MonthLateCardSaid : Prop := Claim7.holds Tryz.pinned (.plain (OpenSpec.ofChange monthLateSpec)) monthLateCard

/-- THE TIED CARD OF 'muscovadolaw11.MonthSpoilt'. -/
def monthSpoiltCard : Claim7 := { stood := { row := monthSpoiltRow, standIns := [], harness := (true, "7f4942f75e0aa529f875d616e9d50057cf3bdd5110e2933167319e72962be2bd"), looks := true }, kinds := [], alts := [], goes := true, laidByText := true, laidKinds := [.handle], laidTests := true, laidLooks := .later }
def MonthSpoiltCardSaid : Prop := Claim7.holds Tryz.pinned (.plain (OpenSpec.ofChange monthSpoiltSpec)) monthSpoiltCard
end Rows
end Go.Proofs.YtjohlemgkcpoeaaGreatDoor
