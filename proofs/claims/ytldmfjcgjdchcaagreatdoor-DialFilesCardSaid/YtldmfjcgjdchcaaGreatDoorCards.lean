/-
  DERIVED. GIVEN WITH THE SEED: THE CARDS: each row of YtldmfjcgjdchcaaGreatDoorRows.lean that lists a variable, with what it lists TIED to the program's text (the seventh form; the later family's looks); each row that meets fmt, with fmt's text TOLD by the authors' own Lean function (tested against real Go, not proved from fmt's source: count such statements apart). THE CARD IS WHAT COUNTS. Prove the row's statement (the work); the ties are given (YtldmfjcgjdchcaaGreatDoorTie.lean); close each card by the builder's one call (the guide's Derived/Test/ToyasCard.lean, 'card_holds'). Laid BY PROGRAM, IN A SANDBOX (cutbox-door.mjs). By AI agents, Wed Nov 11 2026. No macro, syntax, notation, axiom, sorry.
-/
import Derived.Test.YtldmfjcgjdchcaaGreatDoorRows
import GoSem.ClaimSeven
namespace Go.Proofs.YtldmfjcgjdchcaaGreatDoor
namespace Rows

/-- THE TIED CARD OF 'baudotlaw03.DialTyped'. -/
def dialTypedCard : Claim7 := { stood := { row := dialTypedRow, standIns := [], harness := (true, "ebcf6a6dbc55a69e65389772c1e506a555380a9550a06ec3aee06a70070baba7"), looks := true }, kinds := [], alts := [], goes := true, laidByText := true, laidKinds := [.data, .data, .data, .data, .data, .data, .funcs, .pinned], laidTests := true, laidLooks := .later }
def DialTypedCardSaid : Prop := Claim7.holds Tryz.pinned (.plain (OpenSpec.ofChange dialTypedSpec)) dialTypedCard

/-- THE TIED CARD OF 'baudotlaw03.DialPaced'. -/
def dialPacedCard : Claim7 := { stood := { row := dialPacedRow, standIns := [], harness := (true, "ebcf6a6dbc55a69e65389772c1e506a555380a9550a06ec3aee06a70070baba7"), looks := true }, kinds := [], alts := [], goes := true, laidByText := true, laidKinds := [.data, .data, .data, .data, .data, .funcs, .funcsDeep, .pinned], laidTests := true, laidLooks := .later }
def DialPacedCardSaid : Prop := Claim7.holds Tryz.pinned (.plain (OpenSpec.ofChange dialPacedSpec)) dialPacedCard

/-- THE TIED CARD OF 'baudotlaw03.DialSent'. -/
def dialSentCard : Claim7 := { stood := { row := dialSentRow, standIns := [], harness := (true, "ebcf6a6dbc55a69e65389772c1e506a555380a9550a06ec3aee06a70070baba7"), looks := true }, kinds := [], alts := [], goes := true, laidByText := true, laidKinds := [.data, .data, .data, .data, .data, .funcs, .funcsDeep, .pinned], laidTests := true, laidLooks := .later }
def DialSentCardSaid : Prop := Claim7.holds Tryz.pinned (.plain (OpenSpec.ofChange dialSentSpec)) dialSentCard

/-- THE TIED CARD OF 'baudotlaw03.DialLinked'. -/
def dialLinkedCard : Claim7 := { stood := { row := dialLinkedRow, standIns := [], harness := (true, "ebcf6a6dbc55a69e65389772c1e506a555380a9550a06ec3aee06a70070baba7"), looks := true }, kinds := [], alts := [], goes := true, laidByText := true, laidKinds := [.data, .data, .data, .data, .data, .data, .funcs, .funcsDeep, .pinned], laidTests := true, laidLooks := .later }
def DialLinkedCardSaid : Prop := Claim7.holds Tryz.pinned (.plain (OpenSpec.ofChange dialLinkedSpec)) dialLinkedCard

/-- THE TIED CARD OF 'baudotlaw03.DialFiles'. -/
def dialFilesCard : Claim7 := { stood := { row := dialFilesRow, standIns := [], harness := (true, "ebcf6a6dbc55a69e65389772c1e506a555380a9550a06ec3aee06a70070baba7"), looks := true }, kinds := [], alts := [], goes := true, laidByText := true, laidKinds := [.data, .data, .data, .data, .sentinel, .sentinel, .data, .widerDeep, .funcs, .pinned], laidTests := true, laidLooks := .later }
def DialFilesCardSaid : Prop := Claim7.holds Tryz.pinned (.plain (OpenSpec.ofChange dialFilesSpec)) dialFilesCard

/-- THE TIED CARD OF 'baudotlaw03.DialBack'. -/
def dialBackCard : Claim7 := { stood := { row := dialBackRow, standIns := [], harness := (true, "ebcf6a6dbc55a69e65389772c1e506a555380a9550a06ec3aee06a70070baba7"), looks := true }, kinds := [], alts := [], goes := true, laidByText := true, laidKinds := [.data, .data, .data, .data, .sentinel, .sentinel, .data, .widerDeep, .funcs, .pinned], laidTests := true, laidLooks := .later }
def DialBackCardSaid : Prop := Claim7.holds Tryz.pinned (.plain (OpenSpec.ofChange dialBackSpec)) dialBackCard

/-- THE SECOND FORM's CARD OF 'baudotlaw03.DialTyped'. -/
def dialTypedUptoCard : Claim7 := { stood := { row := dialTypedUptoRow, standIns := [], harness := (true, "ebcf6a6dbc55a69e65389772c1e506a555380a9550a06ec3aee06a70070baba7"), looks := true }, kinds := [], alts := [], goes := true, laidByText := true, laidKinds := [.data, .data, .data, .data, .data, .data, .funcs, .pinned], laidTests := true, laidLooks := .later }
def DialTypedUptoCardSaid : Prop := Claim7.holds Tryz.pinned (.plain (OpenSpec.upto dialTypedSpec)) dialTypedUptoCard

/-- THE SECOND FORM's CARD OF 'baudotlaw03.DialPaced'. -/
def dialPacedUptoCard : Claim7 := { stood := { row := dialPacedUptoRow, standIns := [], harness := (true, "ebcf6a6dbc55a69e65389772c1e506a555380a9550a06ec3aee06a70070baba7"), looks := true }, kinds := [], alts := [], goes := true, laidByText := true, laidKinds := [.data, .data, .data, .data, .data, .funcs, .funcsDeep, .pinned], laidTests := true, laidLooks := .later }
def DialPacedUptoCardSaid : Prop := Claim7.holds Tryz.pinned (.plain (OpenSpec.upto dialPacedSpec)) dialPacedUptoCard

/-- THE SECOND FORM's CARD OF 'baudotlaw03.DialSent'. -/
def dialSentUptoCard : Claim7 := { stood := { row := dialSentUptoRow, standIns := [], harness := (true, "ebcf6a6dbc55a69e65389772c1e506a555380a9550a06ec3aee06a70070baba7"), looks := true }, kinds := [], alts := [], goes := true, laidByText := true, laidKinds := [.data, .data, .data, .data, .data, .funcs, .funcsDeep, .pinned], laidTests := true, laidLooks := .later }
def DialSentUptoCardSaid : Prop := Claim7.holds Tryz.pinned (.plain (OpenSpec.upto dialSentSpec)) dialSentUptoCard

/-- THE SECOND FORM's CARD OF 'baudotlaw03.DialLinked'. -/
def dialLinkedUptoCard : Claim7 := { stood := { row := dialLinkedUptoRow, standIns := [], harness := (true, "ebcf6a6dbc55a69e65389772c1e506a555380a9550a06ec3aee06a70070baba7"), looks := true }, kinds := [], alts := [], goes := true, laidByText := true, laidKinds := [.data, .data, .data, .data, .data, .data, .funcs, .funcsDeep, .pinned], laidTests := true, laidLooks := .later }
def DialLinkedUptoCardSaid : Prop := Claim7.holds Tryz.pinned (.plain (OpenSpec.upto dialLinkedSpec)) dialLinkedUptoCard

/-- THE SECOND FORM's CARD OF 'baudotlaw03.DialFiles'. -/
def dialFilesUptoCard : Claim7 := { stood := { row := dialFilesUptoRow, standIns := [], harness := (true, "ebcf6a6dbc55a69e65389772c1e506a555380a9550a06ec3aee06a70070baba7"), looks := true }, kinds := [], alts := [], goes := true, laidByText := true, laidKinds := [.data, .data, .data, .data, .sentinel, .sentinel, .data, .widerDeep, .funcs, .pinned], laidTests := true, laidLooks := .later }
def DialFilesUptoCardSaid : Prop := Claim7.holds Tryz.pinned (.plain (OpenSpec.upto dialFilesSpec)) dialFilesUptoCard

/-- THE SECOND FORM's CARD OF 'baudotlaw03.DialBack'. -/
def dialBackUptoCard : Claim7 := { stood := { row := dialBackUptoRow, standIns := [], harness := (true, "ebcf6a6dbc55a69e65389772c1e506a555380a9550a06ec3aee06a70070baba7"), looks := true }, kinds := [], alts := [], goes := true, laidByText := true, laidKinds := [.data, .data, .data, .data, .sentinel, .sentinel, .data, .widerDeep, .funcs, .pinned], laidTests := true, laidLooks := .later }
def DialBackUptoCardSaid : Prop := Claim7.holds Tryz.pinned (.plain (OpenSpec.upto dialBackSpec)) dialBackUptoCard
end Rows
end Go.Proofs.YtldmfjcgjdchcaaGreatDoor
