/-
  DERIVED. GIVEN WITH THE SEED: THE CARDS: each row of YtdnfdeplcjaonaaGreatDoorRows.lean that lists a variable, with what it lists TIED to the program's text (the seventh form; the later family's looks); each row that meets fmt, with fmt's text TOLD by the authors' own Lean function (tested against real Go, not proved from fmt's source: count such statements apart). THE CARD IS WHAT COUNTS. Prove the row's statement (the work); the ties are given (YtdnfdeplcjaonaaGreatDoorTie.lean); close each card by the builder's one call (the guide's Derived/Test/ToyasCard.lean, 'card_holds'). Laid BY PROGRAM, IN A SANDBOX (cutbox-door.mjs). By AI agents, Wed Nov 11 2026. No macro, syntax, notation, axiom, sorry.
-/
import Derived.Test.YtdnfdeplcjaonaaGreatDoorRows
import GoSem.ClaimSeven
namespace Go.Proofs.YtdnfdeplcjaonaaGreatDoor
namespace Rows

/-- THE TIED CARD OF 'baudotlaw03.DialCalls'. -/
def dialCallsCard : Claim7 := { stood := { row := dialCallsRow, standIns := [], harness := (true, "c97b90e5d6d4e63ca43efbfea10a06e4edb833d053cfb658d244a3fb6c593e3f"), looks := false }, kinds := [], alts := [], goes := true, laidByText := true, laidKinds := [.data, .data, .data, .data, .data, .funcs, .pinned], laidTests := true, laidLooks := .later }
def DialCallsCardSaid : Prop := Claim7.holds Tryz.pinned (.plain (OpenSpec.ofChange dialCallsSpec)) dialCallsCard

/-- THE TIED CARD OF 'baudotlaw03.DialLooks'. -/
def dialLooksCard : Claim7 := { stood := { row := dialLooksRow, standIns := [], harness := (true, "c97b90e5d6d4e63ca43efbfea10a06e4edb833d053cfb658d244a3fb6c593e3f"), looks := false }, kinds := [], alts := [], goes := true, laidByText := true, laidKinds := [.data, .data, .data, .data, .data, .funcs, .pinned], laidTests := true, laidLooks := .later }
def DialLooksCardSaid : Prop := Claim7.holds Tryz.pinned (.plain (OpenSpec.ofChange dialLooksSpec)) dialLooksCard

/-- THE TIED CARD OF 'baudotlaw03.DialReal'. -/
def dialRealCard : Claim7 := { stood := { row := dialRealRow, standIns := [], harness := (true, "c97b90e5d6d4e63ca43efbfea10a06e4edb833d053cfb658d244a3fb6c593e3f"), looks := false }, kinds := [], alts := [], goes := true, laidByText := true, laidKinds := [.data, .data, .data, .data, .data, .funcs, .pinned], laidTests := true, laidLooks := .later }
def DialRealCardSaid : Prop := Claim7.holds Tryz.pinned (.plain (OpenSpec.ofChange dialRealSpec)) dialRealCard

/-- THE TIED CARD OF 'baudotlaw03.DialSettled'. -/
def dialSettledCard : Claim7 := { stood := { row := dialSettledRow, standIns := [], harness := (true, "c97b90e5d6d4e63ca43efbfea10a06e4edb833d053cfb658d244a3fb6c593e3f"), looks := false }, kinds := [], alts := [], goes := true, laidByText := true, laidKinds := [.data, .data, .data, .data, .data, .funcs, .pinned], laidTests := true, laidLooks := .later }
def DialSettledCardSaid : Prop := Claim7.holds Tryz.pinned (.plain (OpenSpec.ofChange dialSettledSpec)) dialSettledCard

/-- THE TIED CARD OF 'baudotlaw03.DialLooked'. -/
def dialLookedCard : Claim7 := { stood := { row := dialLookedRow, standIns := [], harness := (true, "c97b90e5d6d4e63ca43efbfea10a06e4edb833d053cfb658d244a3fb6c593e3f"), looks := false }, kinds := [], alts := [], goes := true, laidByText := true, laidKinds := [.data, .data, .data, .data, .data, .funcs, .pinned], laidTests := true, laidLooks := .later }
def DialLookedCardSaid : Prop := Claim7.holds Tryz.pinned (.plain (OpenSpec.ofChange dialLookedSpec)) dialLookedCard

/-- THE TIED CARD OF 'baudotlaw03.DialNews'. -/
def dialNewsCard : Claim7 := { stood := { row := dialNewsRow, standIns := [], harness := (true, "c97b90e5d6d4e63ca43efbfea10a06e4edb833d053cfb658d244a3fb6c593e3f"), looks := false }, kinds := [], alts := [], goes := true, laidByText := true, laidKinds := [.data, .data, .data, .data, .data, .funcs, .pinned], laidTests := true, laidLooks := .later }
def DialNewsCardSaid : Prop := Claim7.holds Tryz.pinned (.plain (OpenSpec.ofChange dialNewsSpec)) dialNewsCard

/-- THE TIED CARD OF 'baudotlaw03.DialSpare'. -/
def dialSpareCard : Claim7 := { stood := { row := dialSpareRow, standIns := [], harness := (true, "c97b90e5d6d4e63ca43efbfea10a06e4edb833d053cfb658d244a3fb6c593e3f"), looks := false }, kinds := [], alts := [], goes := true, laidByText := true, laidKinds := [.data, .data, .data, .data, .data, .funcs, .pinned], laidTests := true, laidLooks := .later }
def DialSpareCardSaid : Prop := Claim7.holds Tryz.pinned (.plain (OpenSpec.ofChange dialSpareSpec)) dialSpareCard

/-- THE TIED CARD OF 'baudotlaw03.DialCheap'. -/
def dialCheapCard : Claim7 := { stood := { row := dialCheapRow, standIns := [], harness := (true, "c97b90e5d6d4e63ca43efbfea10a06e4edb833d053cfb658d244a3fb6c593e3f"), looks := false }, kinds := [], alts := [], goes := true, laidByText := true, laidKinds := [.data, .data, .data, .data, .data, .funcs, .pinned], laidTests := true, laidLooks := .later }
def DialCheapCardSaid : Prop := Claim7.holds Tryz.pinned (.plain (OpenSpec.ofChange dialCheapSpec)) dialCheapCard

/-- THE TIED CARD OF 'baudotlaw03.DialAnyOrder'. -/
def dialAnyOrderCard : Claim7 := { stood := { row := dialAnyOrderRow, standIns := [], harness := (true, "c97b90e5d6d4e63ca43efbfea10a06e4edb833d053cfb658d244a3fb6c593e3f"), looks := false }, kinds := [], alts := [], goes := true, laidByText := true, laidKinds := [.data, .data, .data, .data, .data, .funcs, .pinned], laidTests := true, laidLooks := .later }
def DialAnyOrderCardSaid : Prop := Claim7.holds Tryz.pinned (.plain (OpenSpec.ofChange dialAnyOrderSpec)) dialAnyOrderCard

/-- THE TIED CARD OF 'baudotlaw03.DialNumbers'. -/
def dialNumbersCard : Claim7 := { stood := { row := dialNumbersRow, standIns := [], harness := (true, "c97b90e5d6d4e63ca43efbfea10a06e4edb833d053cfb658d244a3fb6c593e3f"), looks := false }, kinds := [], alts := [], goes := true, laidByText := true, laidKinds := [.data, .data, .data, .data, .data, .funcs, .pinned], laidTests := true, laidLooks := .later }
def DialNumbersCardSaid : Prop := Claim7.holds Tryz.pinned (.plain (OpenSpec.ofChange dialNumbersSpec)) dialNumbersCard

/-- THE TIED CARD OF 'baudotlaw03.DialPulses'. -/
def dialPulsesCard : Claim7 := { stood := { row := dialPulsesRow, standIns := [], harness := (true, "c97b90e5d6d4e63ca43efbfea10a06e4edb833d053cfb658d244a3fb6c593e3f"), looks := false }, kinds := [], alts := [], goes := true, laidByText := true, laidKinds := [.data, .data, .data, .data, .data, .funcs, .pinned], laidTests := true, laidLooks := .later }
def DialPulsesCardSaid : Prop := Claim7.holds Tryz.pinned (.plain (OpenSpec.ofChange dialPulsesSpec)) dialPulsesCard

/-- THE TIED CARD OF 'baudotlaw03.DialRight'. -/
def dialRightCard : Claim7 := { stood := { row := dialRightRow, standIns := [], harness := (true, "c97b90e5d6d4e63ca43efbfea10a06e4edb833d053cfb658d244a3fb6c593e3f"), looks := false }, kinds := [], alts := [], goes := true, laidByText := true, laidKinds := [.data, .data, .data, .data, .data, .funcs, .pinned], laidTests := true, laidLooks := .later }
def DialRightCardSaid : Prop := Claim7.holds Tryz.pinned (.plain (OpenSpec.ofChange dialRightSpec)) dialRightCard

/-- THE TIED CARD OF 'baudotlaw03.DialSlipped'. -/
def dialSlippedCard : Claim7 := { stood := { row := dialSlippedRow, standIns := [], harness := (true, "c97b90e5d6d4e63ca43efbfea10a06e4edb833d053cfb658d244a3fb6c593e3f"), looks := false }, kinds := [], alts := [], goes := true, laidByText := true, laidKinds := [.data, .data, .data, .data, .data, .funcs, .pinned], laidTests := true, laidLooks := .later }
def DialSlippedCardSaid : Prop := Claim7.holds Tryz.pinned (.plain (OpenSpec.ofChange dialSlippedSpec)) dialSlippedCard

/-- THE TIED CARD OF 'baudotlaw03.DialSafe'. -/
def dialSafeCard : Claim7 := { stood := { row := dialSafeRow, standIns := [], harness := (true, "c97b90e5d6d4e63ca43efbfea10a06e4edb833d053cfb658d244a3fb6c593e3f"), looks := false }, kinds := [], alts := [], goes := true, laidByText := true, laidKinds := [.data, .data, .data, .data, .data, .funcs, .pinned], laidTests := true, laidLooks := .later }
def DialSafeCardSaid : Prop := Claim7.holds Tryz.pinned (.plain (OpenSpec.ofChange dialSafeSpec)) dialSafeCard

/-- THE SECOND FORM's CARD OF 'baudotlaw03.DialCalls'. -/
def dialCallsUptoCard : Claim7 := { stood := { row := dialCallsUptoRow, standIns := [], harness := (true, "c97b90e5d6d4e63ca43efbfea10a06e4edb833d053cfb658d244a3fb6c593e3f"), looks := false }, kinds := [], alts := [], goes := true, laidByText := true, laidKinds := [.data, .data, .data, .data, .data, .funcs, .pinned], laidTests := true, laidLooks := .later }
def DialCallsUptoCardSaid : Prop := Claim7.holds Tryz.pinned (.plain (OpenSpec.upto dialCallsSpec)) dialCallsUptoCard

/-- THE SECOND FORM's CARD OF 'baudotlaw03.DialLooks'. -/
def dialLooksUptoCard : Claim7 := { stood := { row := dialLooksUptoRow, standIns := [], harness := (true, "c97b90e5d6d4e63ca43efbfea10a06e4edb833d053cfb658d244a3fb6c593e3f"), looks := false }, kinds := [], alts := [], goes := true, laidByText := true, laidKinds := [.data, .data, .data, .data, .data, .funcs, .pinned], laidTests := true, laidLooks := .later }
def DialLooksUptoCardSaid : Prop := Claim7.holds Tryz.pinned (.plain (OpenSpec.upto dialLooksSpec)) dialLooksUptoCard

/-- THE SECOND FORM's CARD OF 'baudotlaw03.DialReal'. -/
def dialRealUptoCard : Claim7 := { stood := { row := dialRealUptoRow, standIns := [], harness := (true, "c97b90e5d6d4e63ca43efbfea10a06e4edb833d053cfb658d244a3fb6c593e3f"), looks := false }, kinds := [], alts := [], goes := true, laidByText := true, laidKinds := [.data, .data, .data, .data, .data, .funcs, .pinned], laidTests := true, laidLooks := .later }
def DialRealUptoCardSaid : Prop := Claim7.holds Tryz.pinned (.plain (OpenSpec.upto dialRealSpec)) dialRealUptoCard

/-- THE SECOND FORM's CARD OF 'baudotlaw03.DialSettled'. -/
def dialSettledUptoCard : Claim7 := { stood := { row := dialSettledUptoRow, standIns := [], harness := (true, "c97b90e5d6d4e63ca43efbfea10a06e4edb833d053cfb658d244a3fb6c593e3f"), looks := false }, kinds := [], alts := [], goes := true, laidByText := true, laidKinds := [.data, .data, .data, .data, .data, .funcs, .pinned], laidTests := true, laidLooks := .later }
def DialSettledUptoCardSaid : Prop := Claim7.holds Tryz.pinned (.plain (OpenSpec.upto dialSettledSpec)) dialSettledUptoCard

/-- THE SECOND FORM's CARD OF 'baudotlaw03.DialLooked'. -/
def dialLookedUptoCard : Claim7 := { stood := { row := dialLookedUptoRow, standIns := [], harness := (true, "c97b90e5d6d4e63ca43efbfea10a06e4edb833d053cfb658d244a3fb6c593e3f"), looks := false }, kinds := [], alts := [], goes := true, laidByText := true, laidKinds := [.data, .data, .data, .data, .data, .funcs, .pinned], laidTests := true, laidLooks := .later }
def DialLookedUptoCardSaid : Prop := Claim7.holds Tryz.pinned (.plain (OpenSpec.upto dialLookedSpec)) dialLookedUptoCard

/-- THE SECOND FORM's CARD OF 'baudotlaw03.DialNews'. -/
def dialNewsUptoCard : Claim7 := { stood := { row := dialNewsUptoRow, standIns := [], harness := (true, "c97b90e5d6d4e63ca43efbfea10a06e4edb833d053cfb658d244a3fb6c593e3f"), looks := false }, kinds := [], alts := [], goes := true, laidByText := true, laidKinds := [.data, .data, .data, .data, .data, .funcs, .pinned], laidTests := true, laidLooks := .later }
def DialNewsUptoCardSaid : Prop := Claim7.holds Tryz.pinned (.plain (OpenSpec.upto dialNewsSpec)) dialNewsUptoCard

/-- THE SECOND FORM's CARD OF 'baudotlaw03.DialSpare'. -/
def dialSpareUptoCard : Claim7 := { stood := { row := dialSpareUptoRow, standIns := [], harness := (true, "c97b90e5d6d4e63ca43efbfea10a06e4edb833d053cfb658d244a3fb6c593e3f"), looks := false }, kinds := [], alts := [], goes := true, laidByText := true, laidKinds := [.data, .data, .data, .data, .data, .funcs, .pinned], laidTests := true, laidLooks := .later }
def DialSpareUptoCardSaid : Prop := Claim7.holds Tryz.pinned (.plain (OpenSpec.upto dialSpareSpec)) dialSpareUptoCard

/-- THE SECOND FORM's CARD OF 'baudotlaw03.DialCheap'. -/
def dialCheapUptoCard : Claim7 := { stood := { row := dialCheapUptoRow, standIns := [], harness := (true, "c97b90e5d6d4e63ca43efbfea10a06e4edb833d053cfb658d244a3fb6c593e3f"), looks := false }, kinds := [], alts := [], goes := true, laidByText := true, laidKinds := [.data, .data, .data, .data, .data, .funcs, .pinned], laidTests := true, laidLooks := .later }
def DialCheapUptoCardSaid : Prop := Claim7.holds Tryz.pinned (.plain (OpenSpec.upto dialCheapSpec)) dialCheapUptoCard

/-- THE SECOND FORM's CARD OF 'baudotlaw03.DialAnyOrder'. -/
def dialAnyOrderUptoCard : Claim7 := { stood := { row := dialAnyOrderUptoRow, standIns := [], harness := (true, "c97b90e5d6d4e63ca43efbfea10a06e4edb833d053cfb658d244a3fb6c593e3f"), looks := false }, kinds := [], alts := [], goes := true, laidByText := true, laidKinds := [.data, .data, .data, .data, .data, .funcs, .pinned], laidTests := true, laidLooks := .later }
def DialAnyOrderUptoCardSaid : Prop := Claim7.holds Tryz.pinned (.plain (OpenSpec.upto dialAnyOrderSpec)) dialAnyOrderUptoCard

/-- THE SECOND FORM's CARD OF 'baudotlaw03.DialNumbers'. -/
def dialNumbersUptoCard : Claim7 := { stood := { row := dialNumbersUptoRow, standIns := [], harness := (true, "c97b90e5d6d4e63ca43efbfea10a06e4edb833d053cfb658d244a3fb6c593e3f"), looks := false }, kinds := [], alts := [], goes := true, laidByText := true, laidKinds := [.data, .data, .data, .data, .data, .funcs, .pinned], laidTests := true, laidLooks := .later }
def DialNumbersUptoCardSaid : Prop := Claim7.holds Tryz.pinned (.plain (OpenSpec.upto dialNumbersSpec)) dialNumbersUptoCard

/-- THE SECOND FORM's CARD OF 'baudotlaw03.DialPulses'. -/
def dialPulsesUptoCard : Claim7 := { stood := { row := dialPulsesUptoRow, standIns := [], harness := (true, "c97b90e5d6d4e63ca43efbfea10a06e4edb833d053cfb658d244a3fb6c593e3f"), looks := false }, kinds := [], alts := [], goes := true, laidByText := true, laidKinds := [.data, .data, .data, .data, .data, .funcs, .pinned], laidTests := true, laidLooks := .later }
def DialPulsesUptoCardSaid : Prop := Claim7.holds Tryz.pinned (.plain (OpenSpec.upto dialPulsesSpec)) dialPulsesUptoCard

/-- THE SECOND FORM's CARD OF 'baudotlaw03.DialRight'. -/
def dialRightUptoCard : Claim7 := { stood := { row := dialRightUptoRow, standIns := [], harness := (true, "c97b90e5d6d4e63ca43efbfea10a06e4edb833d053cfb658d244a3fb6c593e3f"), looks := false }, kinds := [], alts := [], goes := true, laidByText := true, laidKinds := [.data, .data, .data, .data, .data, .funcs, .pinned], laidTests := true, laidLooks := .later }
def DialRightUptoCardSaid : Prop := Claim7.holds Tryz.pinned (.plain (OpenSpec.upto dialRightSpec)) dialRightUptoCard

/-- THE SECOND FORM's CARD OF 'baudotlaw03.DialSlipped'. -/
def dialSlippedUptoCard : Claim7 := { stood := { row := dialSlippedUptoRow, standIns := [], harness := (true, "c97b90e5d6d4e63ca43efbfea10a06e4edb833d053cfb658d244a3fb6c593e3f"), looks := false }, kinds := [], alts := [], goes := true, laidByText := true, laidKinds := [.data, .data, .data, .data, .data, .funcs, .pinned], laidTests := true, laidLooks := .later }
def DialSlippedUptoCardSaid : Prop := Claim7.holds Tryz.pinned (.plain (OpenSpec.upto dialSlippedSpec)) dialSlippedUptoCard

/-- THE SECOND FORM's CARD OF 'baudotlaw03.DialSafe'. -/
def dialSafeUptoCard : Claim7 := { stood := { row := dialSafeUptoRow, standIns := [], harness := (true, "c97b90e5d6d4e63ca43efbfea10a06e4edb833d053cfb658d244a3fb6c593e3f"), looks := false }, kinds := [], alts := [], goes := true, laidByText := true, laidKinds := [.data, .data, .data, .data, .data, .funcs, .pinned], laidTests := true, laidLooks := .later }
def DialSafeUptoCardSaid : Prop := Claim7.holds Tryz.pinned (.plain (OpenSpec.upto dialSafeSpec)) dialSafeUptoCard
end Rows
end Go.Proofs.YtdnfdeplcjaonaaGreatDoor
