/-
  DERIVED. GIVEN WITH THE SEED: THE CARDS: each row of YtamjhbmelpkgpaaDoorRows.lean that lists a variable, with what it lists TIED to the program's text (the seventh form; the later family's looks); each row that meets fmt, with fmt's text TOLD by the authors' own Lean function (tested against real Go, not proved from fmt's source: count such statements apart). THE CARD IS WHAT COUNTS. Prove the row's statement (the work); the ties are given (YtamjhbmelpkgpaaDoorTie.lean); close each card by the builder's one call (the guide's Derived/Test/ToyasCard.lean, 'card_holds'). Laid BY PROGRAM, IN A SANDBOX (cutbox-door.mjs). By AI agents, Wed Nov 11 2026. No macro, syntax, notation, axiom, sorry.
-/
import Derived.Test.YtamjhbmelpkgpaaDoorRows
import GoSem.ClaimSeven
namespace Go.Proofs.YtamjhbmelpkgpaaDoor
namespace Rows

/-- THE TIED CARD OF 'muscovadotop.TopCourse'. -/
def topCourseCard : Claim7 := { stood := { row := topCourseRow, standIns := [], harness := (true, "31c17ecf4747ecc3c129cbf0ea3c4976b50e49257833a62c33b2b284a9da46f4"), looks := true }, kinds := [], alts := [], laidByText := true, laidKinds := [.handle], laidTests := true, laidLooks := .later }
def TopCourseCardSaid : Prop := Claim7.holds Tryd.pinned (.plain (OpenSpec.ofChange topCourseSpec)) topCourseCard

/-- THE SECOND FORM's CARD OF 'muscovadotop.TopCourse'. -/
def topCourseUptoCard : Claim7 := { stood := { row := topCourseUptoRow, standIns := [], harness := (true, "31c17ecf4747ecc3c129cbf0ea3c4976b50e49257833a62c33b2b284a9da46f4"), looks := true }, kinds := [], alts := [], laidByText := true, laidKinds := [.handle], laidTests := true, laidLooks := .later }
def TopCourseUptoCardSaid : Prop := Claim7.holds Tryd.pinned (.plain (OpenSpec.upto topCourseSpec)) topCourseUptoCard
end Rows
end Go.Proofs.YtamjhbmelpkgpaaDoor
