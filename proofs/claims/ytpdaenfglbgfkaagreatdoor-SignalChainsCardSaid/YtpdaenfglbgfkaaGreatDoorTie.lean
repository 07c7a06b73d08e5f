/-
  DERIVED. GIVEN WITH THE SEED: THE PROGRAM's TIES (one call each: nine closed facts by the kernel) AND EACH ROW's TIE, after the 31st guide's Derived/Test/Toyas{Tie, Card}.lean. No idea stands in it: it is a product of the set-up. Laid BY PROGRAM, IN A SANDBOX (cutbox-door.mjs). By AI agents, Wed Nov 11 2026. No macro, syntax, notation, axiom, sorry.
-/
import Derived.Test.YtpdaenfglbgfkaaGreatDoorRows
import Derived.LaidByTextLater
import Derived.SevenTiedAt
import Derived.LaidSub
import Derived.LaidOnce
namespace Go.Proofs.YtpdaenfglbgfkaaGreatDoor
open Go
set_option maxRecDepth 100000
theorem seatTie1 : Tryz.prog.laidByTextLater [("baudot/signal.checks", Rows.laid_baudot_signal_checks)] [.funcsDeep] true :=
  Program.laidByTextLater_by_one 14 8 2 (by kernel_rfl) (by kernel_rfl) (by kernel_rfl) (by kernel_rfl) (by kernel_rfl) (by kernel_rfl) (fun _ _ => by kernel_rfl)
theorem noOwnUnsafe : Tryz.pinned.checked.prog.headLifts.contains "ownunsafe" = false := by kernel_rfl
theorem tie : Tryz.prog.laidByTextLater [("baudot/signal.checks", Rows.laid_baudot_signal_checks)] [.funcsDeep] true :=
  Program.laidByTextLater.sub seatTie1 ["baudot/signal.checks"] (by kernel_rfl) (by kernel_rfl)
theorem signalClaims_row_tie : Rows.signalClaimsRow.laidByTextAt .later Tryz.pinned [.funcsDeep] true :=
  OpenClaim.laidByTextAt_later rfl rfl tie noOwnUnsafe
theorem signalMargins_row_tie : Rows.signalMarginsRow.laidByTextAt .later Tryz.pinned [.funcsDeep] true :=
  OpenClaim.laidByTextAt_later rfl rfl tie noOwnUnsafe
theorem signalParts_row_tie : Rows.signalPartsRow.laidByTextAt .later Tryz.pinned [.funcsDeep] true :=
  OpenClaim.laidByTextAt_later rfl rfl tie noOwnUnsafe
theorem signalPaced_row_tie : Rows.signalPacedRow.laidByTextAt .later Tryz.pinned [.funcsDeep] true :=
  OpenClaim.laidByTextAt_later rfl rfl tie noOwnUnsafe
theorem signalNarrower_row_tie : Rows.signalNarrowerRow.laidByTextAt .later Tryz.pinned [.funcsDeep] true :=
  OpenClaim.laidByTextAt_later rfl rfl tie noOwnUnsafe
theorem signalSources_row_tie : Rows.signalSourcesRow.laidByTextAt .later Tryz.pinned [.funcsDeep] true :=
  OpenClaim.laidByTextAt_later rfl rfl tie noOwnUnsafe
theorem signalOnly_row_tie : Rows.signalOnlyRow.laidByTextAt .later Tryz.pinned [.funcsDeep] true :=
  OpenClaim.laidByTextAt_later rfl rfl tie noOwnUnsafe
theorem signalSpots_row_tie : Rows.signalSpotsRow.laidByTextAt .later Tryz.pinned [.funcsDeep] true :=
  OpenClaim.laidByTextAt_later rfl rfl tie noOwnUnsafe
theorem signalHolds_row_tie : Rows.signalHoldsRow.laidByTextAt .later Tryz.pinned [.funcsDeep] true :=
  OpenClaim.laidByTextAt_later rfl rfl tie noOwnUnsafe
theorem signalChains_row_tie : Rows.signalChainsRow.laidByTextAt .later Tryz.pinned [.funcsDeep] true :=
  OpenClaim.laidByTextAt_later rfl rfl tie noOwnUnsafe
theorem signalShifted_row_tie : Rows.signalShiftedRow.laidByTextAt .later Tryz.pinned [.funcsDeep] true :=
  OpenClaim.laidByTextAt_later rfl rfl tie noOwnUnsafe
theorem signalReal_row_tie : Rows.signalRealRow.laidByTextAt .later Tryz.pinned [.funcsDeep] true :=
  OpenClaim.laidByTextAt_later rfl rfl tie noOwnUnsafe
theorem signalWorst_row_tie : Rows.signalWorstRow.laidByTextAt .later Tryz.pinned [.funcsDeep] true :=
  OpenClaim.laidByTextAt_later rfl rfl tie noOwnUnsafe
theorem signalMargin_row_tie : Rows.signalMarginRow.laidByTextAt .later Tryz.pinned [.funcsDeep] true :=
  OpenClaim.laidByTextAt_later rfl rfl tie noOwnUnsafe
theorem signalScaled_row_tie : Rows.signalScaledRow.laidByTextAt .later Tryz.pinned [.funcsDeep] true :=
  OpenClaim.laidByTextAt_later rfl rfl tie noOwnUnsafe
theorem signalSource_row_tie : Rows.signalSourceRow.laidByTextAt .later Tryz.pinned [.funcsDeep] true :=
  OpenClaim.laidByTextAt_later rfl rfl tie noOwnUnsafe
theorem signalJoined_row_tie : Rows.signalJoinedRow.laidByTextAt .later Tryz.pinned [.funcsDeep] true :=
  OpenClaim.laidByTextAt_later rfl rfl tie noOwnUnsafe
theorem signalPasts_row_tie : Rows.signalPastsRow.laidByTextAt .later Tryz.pinned [.funcsDeep] true :=
  OpenClaim.laidByTextAt_later rfl rfl tie noOwnUnsafe
end Go.Proofs.YtpdaenfglbgfkaaGreatDoor
