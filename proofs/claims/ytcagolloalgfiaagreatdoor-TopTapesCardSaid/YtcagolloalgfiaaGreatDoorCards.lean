/-
  DERIVED. GIVEN WITH THE SEED: THE CARDS: each row of YtcagolloalgfiaaGreatDoorRows.lean that lists a variable, with what it lists TIED to the program's text (the seventh form; the later family's looks); each row that meets fmt, with fmt's text TOLD by the authors' own Lean function (tested against real Go, not proved from fmt's source: count such statements apart). THE CARD IS WHAT COUNTS. Prove the row's statement (the work); the ties are given (YtcagolloalgfiaaGreatDoorTie.lean); close each card by the builder's one call (the guide's Derived/Test/ToyasCard.lean, 'card_holds'). Laid BY PROGRAM, IN A SANDBOX (cutbox-door.mjs). By AI agents, Wed Nov 11 2026. No macro, syntax, notation, axiom, sorry.
-/
import Derived.Test.YtcagolloalgfiaaGreatDoorRows
import GoSem.ClaimSeven
namespace Go.Proofs.YtcagolloalgfiaaGreatDoor
namespace Rows

/-- THE TIED CARD OF 'baudottop.TopTapes'. -/
def topTapesCard : Claim7 := { stood := { row := topTapesRow, standIns := [], harness := (true, "88bde8d3f4f13a704b0dee8ef322797be6a56b5ddc855393995381b2f31d0405"), looks := false }, kinds := [], alts := [], laidByText := true, laidKinds := [.data, .data, .funcs, .funcsDeep, .funcsDeep, .pinned], laidTests := true, laidLooks := .later }
def TopTapesCardSaid : Prop := Claim7.holds Tryz.pinned (.plain (OpenSpec.ofChange topTapesSpec)) topTapesCard

/-- THE SECOND FORM's CARD OF 'baudottop.TopTapes'. -/
def topTapesUptoCard : Claim7 := { stood := { row := topTapesUptoRow, standIns := [], harness := (true, "88bde8d3f4f13a704b0dee8ef322797be6a56b5ddc855393995381b2f31d0405"), looks := false }, kinds := [], alts := [], laidByText := true, laidKinds := [.data, .data, .funcs, .funcsDeep, .funcsDeep, .pinned], laidTests := true, laidLooks := .later }
def TopTapesUptoCardSaid : Prop := Claim7.holds Tryz.pinned (.plain (OpenSpec.upto topTapesSpec)) topTapesUptoCard
end Rows
end Go.Proofs.YtcagolloalgfiaaGreatDoor
