/-
  DERIVED. GIVEN WITH THE SEED: THE CARDS: each row of YtpdaenfglbgfkaaGreatDoorRows.lean that lists a variable, with what it lists TIED to the program's text (the seventh form; the later family's looks); each row that meets fmt, with fmt's text TOLD by the authors' own Lean function (tested against real Go, not proved from fmt's source: count such statements apart). THE CARD IS WHAT COUNTS. Prove the row's statement (the work); the ties are given (YtpdaenfglbgfkaaGreatDoorTie.lean); close each card by the builder's one call (the guide's Derived/Test/ToyasCard.lean, 'card_holds'). Laid BY PROGRAM, IN A SANDBOX (cutbox-door.mjs). By AI agents, Wed Nov 11 2026. No macro, syntax, notation, axiom, sorry.
-/
import Derived.Test.YtpdaenfglbgfkaaGreatDoorRows
import GoSem.ClaimSeven
namespace Go.Proofs.YtpdaenfglbgfkaaGreatDoor
namespace Rows

/-- THE TIED CARD OF 'baudotlaw02.SignalClaims'. -/
def signalClaimsCard : Claim7 := { stood := { row := signalClaimsRow, standIns := [], harness := (true, "1bdebc259c26942bbe0a6287f9ba074a01c796a0568994951edf86afe41756e9"), looks := false }, kinds := [], alts := [], goes := true, laidByText := true, laidKinds := [.funcsDeep], laidTests := true, laidLooks := .later }
def SignalClaimsCardSaid : Prop := Claim7.holds Tryz.pinned (.plain (OpenSpec.ofChange signalClaimsSpec)) signalClaimsCard

/-- THE TIED CARD OF 'baudotlaw02.SignalMargins'. -/
def signalMarginsCard : Claim7 := { stood := { row := signalMarginsRow, standIns := [], harness := (true, "1bdebc259c26942bbe0a6287f9ba074a01c796a0568994951edf86afe41756e9"), looks := false }, kinds := [], alts := [], goes := true, laidByText := true, laidKinds := [.funcsDeep], laidTests := true, laidLooks := .later }
def SignalMarginsCardSaid : Prop := Claim7.holds Tryz.pinned (.plain (OpenSpec.ofChange signalMarginsSpec)) signalMarginsCard

/-- THE TIED CARD OF 'baudotlaw02.SignalParts'. -/
def signalPartsCard : Claim7 := { stood := { row := signalPartsRow, standIns := [], harness := (true, "1bdebc259c26942bbe0a6287f9ba074a01c796a0568994951edf86afe41756e9"), looks := false }, kinds := [], alts := [], goes := true, laidByText := true, laidKinds := [.funcsDeep], laidTests := true, laidLooks := .later }
def SignalPartsCardSaid : Prop := Claim7.holds Tryz.pinned (.plain (OpenSpec.ofChange signalPartsSpec)) signalPartsCard

/-- THE TIED CARD OF 'baudotlaw02.SignalPaced'. -/
def signalPacedCard : Claim7 := { stood := { row := signalPacedRow, standIns := [], harness := (true, "1bdebc259c26942bbe0a6287f9ba074a01c796a0568994951edf86afe41756e9"), looks := false }, kinds := [], alts := [], goes := true, laidByText := true, laidKinds := [.funcsDeep], laidTests := true, laidLooks := .later }
def SignalPacedCardSaid : Prop := Claim7.holds Tryz.pinned (.plain (OpenSpec.ofChange signalPacedSpec)) signalPacedCard

/-- THE TIED CARD OF 'baudotlaw02.SignalNarrower'. -/
def signalNarrowerCard : Claim7 := { stood := { row := signalNarrowerRow, standIns := [], harness := (true, "1bdebc259c26942bbe0a6287f9ba074a01c796a0568994951edf86afe41756e9"), looks := false }, kinds := [], alts := [], goes := true, laidByText := true, laidKinds := [.funcsDeep], laidTests := true, laidLooks := .later }
def SignalNarrowerCardSaid : Prop := Claim7.holds Tryz.pinned (.plain (OpenSpec.ofChange signalNarrowerSpec)) signalNarrowerCard

/-- THE TIED CARD OF 'baudotlaw02.SignalSources'. -/
def signalSourcesCard : Claim7 := { stood := { row := signalSourcesRow, standIns := [], harness := (true, "1bdebc259c26942bbe0a6287f9ba074a01c796a0568994951edf86afe41756e9"), looks := false }, kinds := [], alts := [], goes := true, laidByText := true, laidKinds := [.funcsDeep], laidTests := true, laidLooks := .later }
def SignalSourcesCardSaid : Prop := Claim7.holds Tryz.pinned (.plain (OpenSpec.ofChange signalSourcesSpec)) signalSourcesCard

/-- THE TIED CARD OF 'baudotlaw02.SignalOnly'. -/
def signalOnlyCard : Claim7 := { stood := { row := signalOnlyRow, standIns := [], harness := (true, "1bdebc259c26942bbe0a6287f9ba074a01c796a0568994951edf86afe41756e9"), looks := false }, kinds := [], alts := [], goes := true, laidByText := true, laidKinds := [.funcsDeep], laidTests := true, laidLooks := .later }
def SignalOnlyCardSaid : Prop := Claim7.holds Tryz.pinned (.plain (OpenSpec.ofChange signalOnlySpec)) signalOnlyCard

/-- THE TIED CARD OF 'baudotlaw02.SignalSpots'. -/
def signalSpotsCard : Claim7 := { stood := { row := signalSpotsRow, standIns := [], harness := (true, "1bdebc259c26942bbe0a6287f9ba074a01c796a0568994951edf86afe41756e9"), looks := false }, kinds := [], alts := [], goes := true, laidByText := true, laidKinds := [.funcsDeep], laidTests := true, laidLooks := .later }
def SignalSpotsCardSaid : Prop := Claim7.holds Tryz.pinned (.plain (OpenSpec.ofChange signalSpotsSpec)) signalSpotsCard

/-- THE TIED CARD OF 'baudotlaw02.SignalHolds'. -/
def signalHoldsCard : Claim7 := { stood := { row := signalHoldsRow, standIns := [], harness := (true, "1bdebc259c26942bbe0a6287f9ba074a01c796a0568994951edf86afe41756e9"), looks := false }, kinds := [], alts := [], goes := true, laidByText := true, laidKinds := [.funcsDeep], laidTests := true, laidLooks := .later }
def SignalHoldsCardSaid : Prop := Claim7.holds Tryz.pinned (.plain (OpenSpec.ofChange signalHoldsSpec)) signalHoldsCard

/-- THE TIED CARD OF 'baudotlaw02.SignalChains'. -/
def signalChainsCard : Claim7 := { stood := { row := signalChainsRow, standIns := [], harness := (true, "1bdebc259c26942bbe0a6287f9ba074a01c796a0568994951edf86afe41756e9"), looks := false }, kinds := [], alts := [], goes := true, laidByText := true, laidKinds := [.funcsDeep], laidTests := true, laidLooks := .later }
def SignalChainsCardSaid : Prop := Claim7.holds Tryz.pinned (.plain (OpenSpec.ofChange signalChainsSpec)) signalChainsCard

/-- THE TIED CARD OF 'baudotlaw02.SignalShifted'. -/
def signalShiftedCard : Claim7 := { stood := { row := signalShiftedRow, standIns := [], harness := (true, "1bdebc259c26942bbe0a6287f9ba074a01c796a0568994951edf86afe41756e9"), looks := false }, kinds := [], alts := [], goes := true, laidByText := true, laidKinds := [.funcsDeep], laidTests := true, laidLooks := .later }
def SignalShiftedCardSaid : Prop := Claim7.holds Tryz.pinned (.plain (OpenSpec.ofChange signalShiftedSpec)) signalShiftedCard

/-- THE TIED CARD OF 'baudotlaw02.SignalReal'. -/
def signalRealCard : Claim7 := { stood := { row := signalRealRow, standIns := [], harness := (true, "1bdebc259c26942bbe0a6287f9ba074a01c796a0568994951edf86afe41756e9"), looks := false }, kinds := [], alts := [], goes := true, laidByText := true, laidKinds := [.funcsDeep], laidTests := true, laidLooks := .later }
def SignalRealCardSaid : Prop := Claim7.holds Tryz.pinned (.plain (OpenSpec.ofChange signalRealSpec)) signalRealCard

/-- THE TIED CARD OF 'baudotlaw02.SignalWorst'. -/
def signalWorstCard : Claim7 := { stood := { row := signalWorstRow, standIns := [], harness := (true, "1bdebc259c26942bbe0a6287f9ba074a01c796a0568994951edf86afe41756e9"), looks := false }, kinds := [], alts := [], goes := true, laidByText := true, laidKinds := [.funcsDeep], laidTests := true, laidLooks := .later }
def SignalWorstCardSaid : Prop := Claim7.holds Tryz.pinned (.plain (OpenSpec.ofChange signalWorstSpec)) signalWorstCard

/-- THE TIED CARD OF 'baudotlaw02.SignalMargin'. -/
def signalMarginCard : Claim7 := { stood := { row := signalMarginRow, standIns := [], harness := (true, "1bdebc259c26942bbe0a6287f9ba074a01c796a0568994951edf86afe41756e9"), looks := false }, kinds := [], alts := [], goes := true, laidByText := true, laidKinds := [.funcsDeep], laidTests := true, laidLooks := .later }
def SignalMarginCardSaid : Prop := Claim7.holds Tryz.pinned (.plain (OpenSpec.ofChange signalMarginSpec)) signalMarginCard

/-- THE TIED CARD OF 'baudotlaw02.SignalScaled'. -/
def signalScaledCard : Claim7 := { stood := { row := signalScaledRow, standIns := [], harness := (true, "1bdebc259c26942bbe0a6287f9ba074a01c796a0568994951edf86afe41756e9"), looks := false }, kinds := [], alts := [], goes := true, laidByText := true, laidKinds := [.funcsDeep], laidTests := true, laidLooks := .later }
def SignalScaledCardSaid : Prop := Claim7.holds Tryz.pinned (.plain (OpenSpec.ofChange signalScaledSpec)) signalScaledCard

/-- THE TIED CARD OF 'baudotlaw02.SignalSource'. -/
def signalSourceCard : Claim7 := { stood := { row := signalSourceRow, standIns := [], harness := (true, "1bdebc259c26942bbe0a6287f9ba074a01c796a0568994951edf86afe41756e9"), looks := false }, kinds := [], alts := [], goes := true, laidByText := true, laidKinds := [.funcsDeep], laidTests := true, laidLooks := .later }
def SignalSourceCardSaid : Prop := Claim7.holds Tryz.pinned (.plain (OpenSpec.ofChange signalSourceSpec)) signalSourceCard

/-- THE TIED CARD OF 'baudotlaw02.SignalJoined'. -/
def signalJoinedCard : Claim7 := { stood := { row := signalJoinedRow, standIns := [], harness := (true, "1bdebc259c26942bbe0a6287f9ba074a01c796a0568994951edf86afe41756e9"), looks := false }, kinds := [], alts := [], goes := true, laidByText := true, laidKinds := [.funcsDeep], laidTests := true, laidLooks := .later }
def SignalJoinedCardSaid : Prop := Claim7.holds Tryz.pinned (.plain (OpenSpec.ofChange signalJoinedSpec)) signalJoinedCard

/-- THE TIED CARD OF 'baudotlaw02.SignalPasts'. -/
def signalPastsCard : Claim7 := { stood := { row := signalPastsRow, standIns := [], harness := (true, "1bdebc259c26942bbe0a6287f9ba074a01c796a0568994951edf86afe41756e9"), looks := false }, kinds := [], alts := [], goes := true, laidByText := true, laidKinds := [.funcsDeep], laidTests := true, laidLooks := .later }
def SignalPastsCardSaid : Prop := Claim7.holds Tryz.pinned (.plain (OpenSpec.ofChange signalPastsSpec)) signalPastsCard
end Rows
end Go.Proofs.YtpdaenfglbgfkaaGreatDoor
