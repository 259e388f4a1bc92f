/-
  DERIVED. GIVEN WITH THE SEED: THE CARDS: each row of YtkkdgffaohidnaaGreatDoorRows.lean that lists a variable, with what it lists TIED to the program's text (the seventh form; the later family's looks); each row that meets fmt, with fmt's text TOLD by the authors' own Lean function (tested against real Go, not proved from fmt's source: count such statements apart). THE CARD IS WHAT COUNTS. Prove the row's statement (the work); the ties are given (YtkkdgffaohidnaaGreatDoorTie.lean); close each card by the builder's one call (the guide's Derived/Test/ToyasCard.lean, 'card_holds'). Laid BY PROGRAM, IN A SANDBOX (cutbox-door.mjs). By AI agents, Wed Nov 11 2026. No macro, syntax, notation, axiom, sorry.
-/
import Derived.Test.YtkkdgffaohidnaaGreatDoorRows
import GoSem.ClaimSeven
namespace Go.Proofs.YtkkdgffaohidnaaGreatDoor
namespace Rows

/-- THE TIED CARD OF 'muscovadolaw03.SyrupRing'. -/
def syrupRingCard : Claim7 := { stood := { row := syrupRingRow, standIns := [], harness := (true, "dbc29bbb9727fbebaf7429f7266f9d82b5a02ec0969210b724e1ed2dac66cc8d"), looks := true }, kinds := [], alts := [], goes := true, laidByText := true, laidKinds := [.handle], laidTests := true, laidLooks := .later }
def SyrupRingCardSaid : Prop := Claim7.holds Tryz.pinned (.plain (OpenSpec.ofChange syrupRingSpec)) syrupRingCard

/-- THE TIED CARD OF 'muscovadolaw03.SyrupLongest'. -/
def syrupLongestCard : Claim7 := { stood := { row := syrupLongestRow, standIns := [], harness := (true, "dbc29bbb9727fbebaf7429f7266f9d82b5a02ec0969210b724e1ed2dac66cc8d"), looks := true }, kinds := [], alts := [], goes := true, laidByText := true, laidKinds := [.handle], laidTests := true, laidLooks := .later }
def SyrupLongestCardSaid : Prop := Claim7.holds Tryz.pinned (.plain (OpenSpec.ofChange syrupLongestSpec)) syrupLongestCard

/-- THE TIED CARD OF 'muscovadolaw03.SyrupBoils'. -/
def syrupBoilsCard : Claim7 := { stood := { row := syrupBoilsRow, standIns := [], harness := (true, "dbc29bbb9727fbebaf7429f7266f9d82b5a02ec0969210b724e1ed2dac66cc8d"), looks := true }, kinds := [], alts := [], goes := true, laidByText := true, laidKinds := [.handle], laidTests := true, laidLooks := .later }
def SyrupBoilsCardSaid : Prop := Claim7.holds Tryz.pinned (.plain (OpenSpec.ofChange syrupBoilsSpec)) syrupBoilsCard

/-- THE TIED CARD OF 'muscovadolaw03.SyrupBoiled'. -/
def syrupBoiledCard : Claim7 := { stood := { row := syrupBoiledRow, standIns := [], harness := (true, "dbc29bbb9727fbebaf7429f7266f9d82b5a02ec0969210b724e1ed2dac66cc8d"), looks := true }, kinds := [], alts := [], goes := true, laidByText := true, laidKinds := [.handle], laidTests := true, laidLooks := .later }
def SyrupBoiledCardSaid : Prop := Claim7.holds Tryz.pinned (.plain (OpenSpec.ofChange syrupBoiledSpec)) syrupBoiledCard

/-- THE TIED CARD OF 'muscovadolaw03.SyrupRings'. -/
def syrupRingsCard : Claim7 := { stood := { row := syrupRingsRow, standIns := [], harness := (true, "dbc29bbb9727fbebaf7429f7266f9d82b5a02ec0969210b724e1ed2dac66cc8d"), looks := true }, kinds := [], alts := [], goes := true, laidByText := true, laidKinds := [.handle], laidTests := true, laidLooks := .later }
def SyrupRingsCardSaid : Prop := Claim7.holds Tryz.pinned (.plain (OpenSpec.ofChange syrupRingsSpec)) syrupRingsCard

/-- THE TIED CARD OF 'muscovadolaw03.SyrupEver'. -/
def syrupEverCard : Claim7 := { stood := { row := syrupEverRow, standIns := [], harness := (true, "dbc29bbb9727fbebaf7429f7266f9d82b5a02ec0969210b724e1ed2dac66cc8d"), looks := true }, kinds := [], alts := [], goes := true, laidByText := true, laidKinds := [.handle], laidTests := true, laidLooks := .later }
def SyrupEverCardSaid : Prop := Claim7.holds Tryz.pinned (.plain (OpenSpec.ofChange syrupEverSpec)) syrupEverCard

/-- THE TIED CARD OF 'muscovadolaw03.SyrupClosed'. -/
def syrupClosedCard : Claim7 := { stood := { row := syrupClosedRow, standIns := [], harness := (true, "dbc29bbb9727fbebaf7429f7266f9d82b5a02ec0969210b724e1ed2dac66cc8d"), looks := true }, kinds := [], alts := [], goes := true, laidByText := true, laidKinds := [.handle], laidTests := true, laidLooks := .later }
def SyrupClosedCardSaid : Prop := Claim7.holds Tryz.pinned (.plain (OpenSpec.ofChange syrupClosedSpec)) syrupClosedCard

/-- THE TIED CARD OF 'muscovadolaw03.SyrupMore'. -/
def syrupMoreCard : Claim7 := { stood := { row := syrupMoreRow, standIns := [], harness := (true, "dbc29bbb9727fbebaf7429f7266f9d82b5a02ec0969210b724e1ed2dac66cc8d"), looks := true }, kinds := [], alts := [], goes := true, laidByText := true, laidKinds := [.handle], laidTests := true, laidLooks := .later }
def SyrupMoreCardSaid : Prop := Claim7.holds Tryz.pinned (.plain (OpenSpec.ofChange syrupMoreSpec)) syrupMoreCard

/-- THE TIED CARD OF 'muscovadolaw03.SyrupEnd'. -/
def syrupEndCard : Claim7 := { stood := { row := syrupEndRow, standIns := [], harness := (true, "dbc29bbb9727fbebaf7429f7266f9d82b5a02ec0969210b724e1ed2dac66cc8d"), looks := true }, kinds := [], alts := [], goes := true, laidByText := true, laidKinds := [.handle], laidTests := true, laidLooks := .later }
def SyrupEndCardSaid : Prop := Claim7.holds Tryz.pinned (.plain (OpenSpec.ofChange syrupEndSpec)) syrupEndCard

/-- THE TIED CARD OF 'muscovadolaw03.SyrupMirror'. -/
def syrupMirrorCard : Claim7 := { stood := { row := syrupMirrorRow, standIns := [], harness := (true, "dbc29bbb9727fbebaf7429f7266f9d82b5a02ec0969210b724e1ed2dac66cc8d"), looks := true }, kinds := [], alts := [], goes := true, laidByText := true, laidKinds := [.handle], laidTests := true, laidLooks := .later }
def SyrupMirrorCardSaid : Prop := Claim7.holds Tryz.pinned (.plain (OpenSpec.ofChange syrupMirrorSpec)) syrupMirrorCard

/-- THE TIED CARD OF 'muscovadolaw03.SyrupShared'. -/
def syrupSharedCard : Claim7 := { stood := { row := syrupSharedRow, standIns := [], harness := (true, "dbc29bbb9727fbebaf7429f7266f9d82b5a02ec0969210b724e1ed2dac66cc8d"), looks := true }, kinds := [], alts := [], goes := true, laidByText := true, laidKinds := [.handle], laidTests := true, laidLooks := .later }
def SyrupSharedCardSaid : Prop := Claim7.holds Tryz.pinned (.plain (OpenSpec.ofChange syrupSharedSpec)) syrupSharedCard

/-- THE TIED CARD OF 'muscovadolaw03.SyrupCounts'. -/
def syrupCountsCard : Claim7 := { stood := { row := syrupCountsRow, standIns := [], harness := (true, "dbc29bbb9727fbebaf7429f7266f9d82b5a02ec0969210b724e1ed2dac66cc8d"), looks := true }, kinds := [], alts := [], goes := true, laidByText := true, laidKinds := [.handle], laidTests := true, laidLooks := .later }
def SyrupCountsCardSaid : Prop := Claim7.holds Tryz.pinned (.plain (OpenSpec.ofChange syrupCountsSpec)) syrupCountsCard

/-- THE TIED CARD OF 'muscovadolaw03.SyrupEnds'. -/
def syrupEndsCard : Claim7 := { stood := { row := syrupEndsRow, standIns := [], harness := (true, "dbc29bbb9727fbebaf7429f7266f9d82b5a02ec0969210b724e1ed2dac66cc8d"), looks := true }, kinds := [], alts := [], goes := true, laidByText := true, laidKinds := [.handle], laidTests := true, laidLooks := .later }
def SyrupEndsCardSaid : Prop := Claim7.holds Tryz.pinned (.plain (OpenSpec.ofChange syrupEndsSpec)) syrupEndsCard

/-- THE TIED CARD OF 'muscovadolaw03.SyrupShortest'. -/
def syrupShortestCard : Claim7 := { stood := { row := syrupShortestRow, standIns := [], harness := (true, "dbc29bbb9727fbebaf7429f7266f9d82b5a02ec0969210b724e1ed2dac66cc8d"), looks := true }, kinds := [], alts := [], goes := true, laidByText := true, laidKinds := [.handle], laidTests := true, laidLooks := .later }
def SyrupShortestCardSaid : Prop := Claim7.holds Tryz.pinned (.plain (OpenSpec.ofChange syrupShortestSpec)) syrupShortestCard

/-- THE TIED CARD OF 'muscovadolaw03.SyrupForced'. -/
def syrupForcedCard : Claim7 := { stood := { row := syrupForcedRow, standIns := [], harness := (true, "dbc29bbb9727fbebaf7429f7266f9d82b5a02ec0969210b724e1ed2dac66cc8d"), looks := true }, kinds := [], alts := [], goes := true, laidByText := true, laidKinds := [.handle], laidTests := true, laidLooks := .later }
def SyrupForcedCardSaid : Prop := Claim7.holds Tryz.pinned (.plain (OpenSpec.ofChange syrupForcedSpec)) syrupForcedCard

/-- THE TIED CARD OF 'muscovadolaw03.SyrupNumbered'. -/
def syrupNumberedCard : Claim7 := { stood := { row := syrupNumberedRow, standIns := [], harness := (true, "dbc29bbb9727fbebaf7429f7266f9d82b5a02ec0969210b724e1ed2dac66cc8d"), looks := true }, kinds := [], alts := [], goes := true, laidByText := true, laidKinds := [.handle], laidTests := true, laidLooks := .later }
def SyrupNumberedCardSaid : Prop := Claim7.holds Tryz.pinned (.plain (OpenSpec.ofChange syrupNumberedSpec)) syrupNumberedCard

/-- THE TIED CARD OF 'muscovadolaw03.SyrupRoom'. -/
def syrupRoomCard : Claim7 := { stood := { row := syrupRoomRow, standIns := [], harness := (true, "dbc29bbb9727fbebaf7429f7266f9d82b5a02ec0969210b724e1ed2dac66cc8d"), looks := true }, kinds := [], alts := [], goes := true, laidByText := true, laidKinds := [.handle], laidTests := true, laidLooks := .later }
def SyrupRoomCardSaid : Prop := Claim7.holds Tryz.pinned (.plain (OpenSpec.ofChange syrupRoomSpec)) syrupRoomCard

/-- THE TIED CARD OF 'muscovadolaw03.SyrupShares'. -/
def syrupSharesCard : Claim7 := { stood := { row := syrupSharesRow, standIns := [], harness := (true, "dbc29bbb9727fbebaf7429f7266f9d82b5a02ec0969210b724e1ed2dac66cc8d"), looks := true }, kinds := [], alts := [], goes := true, laidByText := true, laidKinds := [.handle], laidTests := true, laidLooks := .later }
def SyrupSharesCardSaid : Prop := Claim7.holds Tryz.pinned (.plain (OpenSpec.ofChange syrupSharesSpec)) syrupSharesCard

/-- THE TIED CARD OF 'muscovadolaw03.SyrupKnown'. -/
def syrupKnownCard : Claim7 := { stood := { row := syrupKnownRow, standIns := [], harness := (true, "dbc29bbb9727fbebaf7429f7266f9d82b5a02ec0969210b724e1ed2dac66cc8d"), looks := true }, kinds := [], alts := [], goes := true, laidByText := true, laidKinds := [.handle], laidTests := true, laidLooks := .later }
def SyrupKnownCardSaid : Prop := Claim7.holds Tryz.pinned (.plain (OpenSpec.ofChange syrupKnownSpec)) syrupKnownCard
end Rows
end Go.Proofs.YtkkdgffaohidnaaGreatDoor
