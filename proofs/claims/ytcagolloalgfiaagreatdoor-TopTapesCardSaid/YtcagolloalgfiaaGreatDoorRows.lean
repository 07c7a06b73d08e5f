/-
  NARROWER THAN 'FOR EVERY INPUT', by the rows' own cells (each row's printed sentence says how): TopTapes: laid.
  DERIVED. THE GIVEN ROWS OF THIS SEAT. 1 by the template 'for every input the law returns true; each argument reads behind the call as it read before'; 0 by the template 'total and deterministic' (their statements: YtcagolloalgfiaaGreatDoorTotals.lean).
  GIVEN WITH THE SEED: the statements are not yours to turn. If you find one false, say at which input.
  Laid BY PROGRAM, IN A SANDBOX (cutbox-rows.mjs): the forced cells as the released guide's own fill.sh prints them over the translation 9c1729251237aafc… (all of the seat's roots in one cut). By AI agents, Wed Nov 11 2026. No macro, syntax, notation, axiom, sorry.
-/
import Derived.Test.YtcagolloalgfiaaGreatDoorChecked
import GoSem.PinnedTables
import GoSem.Claim
import GoSem.ClaimJoined
import GoSem.ClaimMapViews
import Derived.JoinedTies
import Derived.KernelRfl
namespace Go.Proofs.YtcagolloalgfiaaGreatDoor
/- THE CELL 'sum', in the pinned program and in every row, IS THE sha256 OF THE DUMP (.gsa) THAT YtcagolloalgfiaaGreatDoorProg.lean LOADS. Nothing in Lean hashes anything: it is a label: what it is worth is what the hold of that sum in a sandbox is worth. -/
noncomputable def Tryz.pinned : Pinned := { name := "ytcagolloalgfiaagreatdoor", sum := "9c1729251237aafc8652485a08e9ec3f571a17aa298c118d5069883e60e7dc93", checked := Tryz.checked }
namespace Rows
def none {H : Type} : Left H := { results := [], args := [] }

/- WHAT THE LISTED PACKAGE-LEVEL VARIABLES READ AS WHEN THE CALL BEGINS. Each datum BY PROGRAM (the guide's laid-datum.mjs) off the statement by which the dump's own 'gosem.cut.vars' lays the variable. In a bare row this is a premise. The card (YtcagolloalgfiaaGreatDoorCards.lean) ties it to the program's text. -/
def laid_unicode_utf8_acceptRanges {H : Type} : DataW H := .agg [.agg [.lit (.int .u8 128), .lit (.int .u8 191)], .agg [.lit (.int .u8 160), .lit (.int .u8 191)], .agg [.lit (.int .u8 128), .lit (.int .u8 159)], .agg [.lit (.int .u8 144), .lit (.int .u8 191)], .agg [.lit (.int .u8 128), .lit (.int .u8 143)], .agg [.lit (.int .u8 0), .lit (.int .u8 0)], .agg [.lit (.int .u8 0), .lit (.int .u8 0)], .agg [.lit (.int .u8 0), .lit (.int .u8 0)], .agg [.lit (.int .u8 0), .lit (.int .u8 0)], .agg [.lit (.int .u8 0), .lit (.int .u8 0)], .agg [.lit (.int .u8 0), .lit (.int .u8 0)], .agg [.lit (.int .u8 0), .lit (.int .u8 0)], .agg [.lit (.int .u8 0), .lit (.int .u8 0)], .agg [.lit (.int .u8 0), .lit (.int .u8 0)], .agg [.lit (.int .u8 0), .lit (.int .u8 0)], .agg [.lit (.int .u8 0), .lit (.int .u8 0)]]
def laid_baudot_code_signs {H : Type} : DataW H := .agg [.lit (.string [65, 66, 67, 68, 69, 70, 71, 72, 73, 74, 75, 76, 77, 78, 79, 80, 81, 82, 83, 84, 85, 86, 87, 88, 89, 90]), .lit (.string [49, 50, 51, 52, 53, 54, 55, 56, 57, 48, 46, 44, 58, 63, 39, 40, 41, 47, 43, 45, 61, 33, 36, 38, 37, 35])]
def laid_baudot_dial_checks {H : Type} : DataW H := .iface "func table" (.agg [.iface "func" (.lit (.string [40, 98, 97, 117, 100, 111, 116, 47, 100, 105, 97, 108, 46, 98, 111, 111, 107, 41, 46, 112, 97, 117, 115, 101, 115])), .iface "func" (.lit (.string [40, 98, 97, 117, 100, 111, 116, 47, 100, 105, 97, 108, 46, 98, 111, 111, 107, 41, 46, 108, 105, 110, 101, 115])), .iface "func" (.lit (.string [40, 98, 97, 117, 100, 111, 116, 47, 100, 105, 97, 108, 46, 98, 111, 111, 107, 41, 46, 116, 114, 97, 105, 110, 115]))])
def laid_baudot_signal_checks {H : Type} : DataW H := .iface "func table" (.agg [.iface "func" (.lit (.string [40, 98, 97, 117, 100, 111, 116, 47, 115, 105, 103, 110, 97, 108, 46, 108, 105, 110, 107, 41, 46, 115, 101, 110, 100, 115])), .iface "func" (.lit (.string [40, 98, 97, 117, 100, 111, 116, 47, 115, 105, 103, 110, 97, 108, 46, 108, 105, 110, 107, 41, 46, 114, 101, 97, 100, 115])), .iface "func" (.lit (.string [40, 98, 97, 117, 100, 111, 116, 47, 115, 105, 103, 110, 97, 108, 46, 108, 105, 110, 107, 41, 46, 108, 101, 97, 110, 115])), .iface "func" (.lit (.string [40, 98, 97, 117, 100, 111, 116, 47, 115, 105, 103, 110, 97, 108, 46, 108, 105, 110, 107, 41, 46, 109, 111, 118, 101, 115]))])
def laid_baudot_store_kinds {H : Type} : DataW H := .iface "func table" (.agg [.agg [.lit (.string [97, 108, 108]), .lit (.bool false), .lit (.bool false), .iface "func" (.lit (.string [98, 97, 117, 100, 111, 116, 47, 115, 116, 111, 114, 101, 46, 111, 102, 83, 101, 115, 115, 105, 111, 110])), .iface "func" (.lit (.string [98, 97, 117, 100, 111, 116, 47, 115, 116, 111, 114, 101, 46, 107, 105, 110, 100, 115, 36, 49]))], .agg [.lit (.string [98, 114, 111, 107, 101]), .lit (.bool false), .lit (.bool false), .iface "func" (.lit (.string [98, 97, 117, 100, 111, 116, 47, 115, 116, 111, 114, 101, 46, 111, 102, 83, 101, 115, 115, 105, 111, 110])), .iface "func" (.lit (.string [98, 97, 117, 100, 111, 116, 47, 115, 116, 111, 114, 101, 46, 107, 105, 110, 100, 115, 36, 50]))], .agg [.lit (.string [108, 101, 97, 115, 116]), .lit (.bool false), .lit (.bool true), .iface "func" (.lit (.string [98, 97, 117, 100, 111, 116, 47, 115, 116, 111, 114, 101, 46, 111, 102, 83, 101, 115, 115, 105, 111, 110])), .iface "func" (.lit (.string [98, 97, 117, 100, 111, 116, 47, 115, 116, 111, 114, 101, 46, 107, 105, 110, 100, 115, 36, 51]))], .agg [.lit (.string [109, 111, 115, 116]), .lit (.bool false), .lit (.bool true), .iface "func" (.lit (.string [98, 97, 117, 100, 111, 116, 47, 115, 116, 111, 114, 101, 46, 111, 102, 83, 101, 115, 115, 105, 111, 110])), .iface "func" (.lit (.string [98, 97, 117, 100, 111, 116, 47, 115, 116, 111, 114, 101, 46, 107, 105, 110, 100, 115, 36, 52]))], .agg [.lit (.string [99, 111, 112, 105, 101, 115]), .lit (.bool true), .lit (.bool true), .iface "func" (.lit (.string [98, 97, 117, 100, 111, 116, 47, 115, 116, 111, 114, 101, 46, 107, 105, 110, 100, 115, 36, 53])), .iface "func" (.lit (.string [98, 97, 117, 100, 111, 116, 47, 115, 116, 111, 114, 101, 46, 107, 105, 110, 100, 115, 36, 54]))], .agg [.lit (.string [104, 97, 118, 101]), .lit (.bool false), .lit (.bool true), .iface "func" (.lit (.string [98, 97, 117, 100, 111, 116, 47, 115, 116, 111, 114, 101, 46, 107, 105, 110, 100, 115, 36, 55])), .iface "func" (.lit (.string [98, 97, 117, 100, 111, 116, 47, 115, 116, 111, 114, 101, 46, 107, 105, 110, 100, 115, 36, 56]))]])
/-- One of Go's own tables, pinned by name: the form's constant. -/
def laid_unicode_utf8_first : DataW Unit := Go.Pinned.utf8First

/-- 'baudottop.TopTapes': WHATEVER THE INPUT: true; the input reads as it did. -/
def topTapesSpec : ChangeSpec := { name := "topTapes", fn := fun _ => fun
  | [d1, d2, d3, d4, d5, d6, d7, d8] => { results := [.lit (.bool true)], args := [d1, d2, d3, d4, d5, d6, d7, d8] }
  | _ => none }
def topTapesRow : OpenClaim := { program := "ytcagolloalgfiaagreatdoor", sum := "9c1729251237aafc8652485a08e9ec3f571a17aa298c118d5069883e60e7dc93", func := "baudot/baudottop.TopTapes", spec := "topTapes", inPlace := ["internal/bytealg.IndexByteString", "internal/abi.NoEscape", "internal/bytealg.IndexString"], unfollowed := true, recurses := true, named := ["baudot/code.signs", "unicode/utf8.first", "unicode/utf8.acceptRanges", "baudot/store.kinds", "baudot/signal.checks", "baudot/dial.checks", "internal/bytealg.MaxLen"], plainKeys := false, apart := false, laid := [("unicode/utf8.acceptRanges", laid_unicode_utf8_acceptRanges), ("baudot/code.signs", laid_baudot_code_signs), ("baudot/dial.checks", laid_baudot_dial_checks), ("baudot/signal.checks", laid_baudot_signal_checks), ("baudot/store.kinds", laid_baudot_store_kinds), ("unicode/utf8.first", laid_unicode_utf8_first)] }
def TopTapesSaid : Prop := topTapesRow.holds Tryz.pinned (OpenSpec.ofChange topTapesSpec)

/-- ITS FALSE NEIGHBOUR: 'it returns false'. Refute it at one input. -/
def topTapesWrong : ChangeSpec := { name := "topTapes", fn := fun _ => fun
  | [d1, d2, d3, d4, d5, d6, d7, d8] => { results := [.lit (.bool false)], args := [d1, d2, d3, d4, d5, d6, d7, d8] }
  | _ => none }
def TopTapesWrongFalsely : Prop := topTapesRow.holds Tryz.pinned (OpenSpec.ofChange topTapesWrong)

/- THE SECOND FORM. 'bulk': how many values and letters a reading holds, each counted each time it is reached (what is shared counts as often as it is met; a slice's spare places count too). A statement '..UptoSaid' is the law's where the arguments, and the package variables that the reading takes, are together of bulk at most 1048576: NARROWER than '..Said'. Prove '..Said' where nothing that the law and all that it calls make is longer than what came in: it says more and counts as full. Else prove '..UptoSaid'. A law counts once. -/
mutual
def uptoBulk {H : Type} : DataW H → Nat
  | .lit (.string bytes) => bytes.length + 1
  | .lit _ => 1
  | .nil => 1
  | .ptr d => uptoBulk d + 1
  | .slice elems spare => uptoBulkAll elems + uptoBulkAll spare + 1
  | .agg parts => uptoBulkAll parts + 1
  | .iface _ d => uptoBulk d + 1
  | .map entries => uptoBulkEntries entries + 1
  | .held _ => 1
def uptoBulkAll {H : Type} : List (DataW H) → Nat
  | [] => 0
  | d :: r => uptoBulk d + uptoBulkAll r
def uptoBulkEntries {H : Type} : List (Lit × DataW H) → Nat
  | [] => 0
  | x :: r => uptoBulkEntry x + uptoBulkEntries r
def uptoBulkEntry {H : Type} : Lit × DataW H → Nat
  | (.string bytes, d) => bytes.length + uptoBulk d + 1
  | (_, d) => uptoBulk d + 1
 end
def uptoSmall : (H : Type) → List (DataW H) → Bool := fun _ ds => decide (uptoBulkAll ds ≤ 1048576)
def OpenSpec.upto (s : _root_.Go.ChangeSpec) : _root_.Go.OpenSpec := { _root_.Go.OpenSpec.ofChange s with cond := some uptoSmall }

/-- 'baudottop.TopTapes', WHERE WHAT IT READS IS OF BULK AT MOST 1048576: true; the input reads as it did. -/
def topTapesUptoRow : OpenClaim := { program := "ytcagolloalgfiaagreatdoor", sum := "9c1729251237aafc8652485a08e9ec3f571a17aa298c118d5069883e60e7dc93", func := "baudot/baudottop.TopTapes", spec := "topTapes", inPlace := ["internal/bytealg.IndexByteString", "internal/abi.NoEscape", "internal/bytealg.IndexString"], unfollowed := true, recurses := true, named := ["baudot/code.signs", "unicode/utf8.first", "unicode/utf8.acceptRanges", "baudot/store.kinds", "baudot/signal.checks", "baudot/dial.checks", "internal/bytealg.MaxLen"], plainKeys := false, apart := false, laid := [("unicode/utf8.acceptRanges", laid_unicode_utf8_acceptRanges), ("baudot/code.signs", laid_baudot_code_signs), ("baudot/dial.checks", laid_baudot_dial_checks), ("baudot/signal.checks", laid_baudot_signal_checks), ("baudot/store.kinds", laid_baudot_store_kinds), ("unicode/utf8.first", laid_unicode_utf8_first)], narrowed := true }
def TopTapesUptoSaid : Prop := topTapesUptoRow.holds Tryz.pinned (OpenSpec.upto topTapesSpec)

end Rows
end Go.Proofs.YtcagolloalgfiaaGreatDoor
