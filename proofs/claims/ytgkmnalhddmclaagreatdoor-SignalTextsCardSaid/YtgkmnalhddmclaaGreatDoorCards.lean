/-
  DERIVED. GIVEN WITH THE SEED: THE CARDS: each row of YtgkmnalhddmclaaGreatDoorRows.lean that lists a variable, with what it lists TIED to the program's text (the seventh form; the later family's looks); each row that meets fmt, with fmt's text TOLD by the authors' own Lean function (tested against real Go, not proved from fmt's source: count such statements apart). THE CARD IS WHAT COUNTS. Prove the row's statement (the work); the ties are given (YtgkmnalhddmclaaGreatDoorTie.lean); close each card by the builder's one call (the guide's Derived/Test/ToyasCard.lean, 'card_holds'). Laid BY PROGRAM, IN A SANDBOX (cutbox-door.mjs). By AI agents, Wed Nov 11 2026. No macro, syntax, notation, axiom, sorry.
-/
import Derived.Test.YtgkmnalhddmclaaGreatDoorRows
import GoSem.ClaimSeven
namespace Go.Proofs.YtgkmnalhddmclaaGreatDoor
namespace Rows

/-- THE TIED CARD OF 'baudotlaw02.SignalTexts'. -/
def signalTextsCard : Claim7 := { stood := { row := signalTextsRow, standIns := [], harness := (true, "32a6d71e44a14bc13102d8882896ad3b01c67f32fd2ddbc160ff71b3e9e89277"), looks := true }, kinds := [], alts := [], goes := true, laidByText := true, laidKinds := [.data, .data, .data, .data, .sentinel, .sentinel, .funcsDeep, .pinned], laidTests := true, laidLooks := .later }
def SignalTextsCardSaid : Prop := Claim7.holds Tryz.pinned (.plain (OpenSpec.ofChange signalTextsSpec)) signalTextsCard

/-- THE TIED CARD OF 'baudotlaw02.SignalBack'. -/
def signalBackCard : Claim7 := { stood := { row := signalBackRow, standIns := [], harness := (true, "32a6d71e44a14bc13102d8882896ad3b01c67f32fd2ddbc160ff71b3e9e89277"), looks := true }, kinds := [], alts := [], goes := true, laidByText := true, laidKinds := [.data, .data, .data, .data, .sentinel, .sentinel, .funcsDeep, .pinned], laidTests := true, laidLooks := .later }
def SignalBackCardSaid : Prop := Claim7.holds Tryz.pinned (.plain (OpenSpec.ofChange signalBackSpec)) signalBackCard
end Rows
end Go.Proofs.YtgkmnalhddmclaaGreatDoor
