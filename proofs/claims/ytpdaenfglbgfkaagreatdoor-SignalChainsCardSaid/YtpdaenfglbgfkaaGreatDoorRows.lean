/-
  NARROWER THAN 'FOR EVERY INPUT', by the rows' own cells (each row's printed sentence says how): SignalClaims: calm, laid · SignalMargins: calm, laid · SignalParts: calm, laid · SignalPaced: calm, laid · SignalNarrower: calm, laid · SignalSources: calm, laid · SignalOnly: calm, laid · SignalSpots: calm, laid · SignalHolds: calm, laid · SignalChains: calm, laid · SignalShifted: calm, laid · SignalReal: calm, laid · SignalWorst: calm, laid · SignalMargin: calm, laid · SignalScaled: calm, laid · SignalSource: calm, laid · SignalJoined: calm, laid · SignalPasts: calm, laid.
  DERIVED. THE GIVEN ROWS OF THIS SEAT. 18 by the template 'for every input the law returns true; each argument reads behind the call as it read before'; 0 by the template 'total and deterministic' (their statements: YtpdaenfglbgfkaaGreatDoorTotals.lean).
  GIVEN WITH THE SEED: the statements are not yours to turn. If you find one false, say at which input.
  Laid BY PROGRAM, IN A SANDBOX (cutbox-rows.mjs): the forced cells as the released guide's own fill.sh prints them over the translation 2304b6b13e8b26e7… (all of the seat's roots in one cut). By AI agents, Wed Nov 11 2026. No macro, syntax, notation, axiom, sorry.
-/
import Derived.Test.YtpdaenfglbgfkaaGreatDoorChecked
import GoSem.Claim
import GoSem.ClaimJoined
import GoSem.ClaimMapViews
import Derived.JoinedTies
import Derived.KernelRfl
namespace Go.Proofs.YtpdaenfglbgfkaaGreatDoor
/- THE CELL 'sum', in the pinned program and in every row, IS THE sha256 OF THE DUMP (.gsa) THAT YtpdaenfglbgfkaaGreatDoorProg.lean LOADS. Nothing in Lean hashes anything: it is a label: what it is worth is what the hold of that sum in a sandbox is worth. -/
noncomputable def Tryz.pinned : Pinned := { name := "ytpdaenfglbgfkaagreatdoor", sum := "2304b6b13e8b26e7da8ea4e291917d1ccb17a666f1434f5aa60acfcd062f6697", checked := Tryz.checked }
namespace Rows
def none {H : Type} : Left H := { results := [], args := [] }

/- WHAT THE LISTED PACKAGE-LEVEL VARIABLES READ AS WHEN THE CALL BEGINS. Each datum BY PROGRAM (the guide's laid-datum.mjs) off the statement by which the dump's own 'gosem.cut.vars' lays the variable. In a bare row this is a premise. The card (YtpdaenfglbgfkaaGreatDoorCards.lean) ties it to the program's text. -/
def laid_baudot_signal_checks {H : Type} : DataW H := .iface "func table" (.agg [.iface "func" (.lit (.string [40, 98, 97, 117, 100, 111, 116, 47, 115, 105, 103, 110, 97, 108, 46, 108, 105, 110, 107, 41, 46, 115, 101, 110, 100, 115])), .iface "func" (.lit (.string [40, 98, 97, 117, 100, 111, 116, 47, 115, 105, 103, 110, 97, 108, 46, 108, 105, 110, 107, 41, 46, 114, 101, 97, 100, 115])), .iface "func" (.lit (.string [40, 98, 97, 117, 100, 111, 116, 47, 115, 105, 103, 110, 97, 108, 46, 108, 105, 110, 107, 41, 46, 108, 101, 97, 110, 115])), .iface "func" (.lit (.string [40, 98, 97, 117, 100, 111, 116, 47, 115, 105, 103, 110, 97, 108, 46, 108, 105, 110, 107, 41, 46, 109, 111, 118, 101, 115]))])

/-- 'baudotlaw02.SignalClaims': WHATEVER THE INPUT: true; the input reads as it did. -/
def signalClaimsSpec : ChangeSpec := { name := "signalClaims", fn := fun _ => fun
  | [d1, d2] => { results := [.lit (.bool true)], args := [d1, d2] }
  | _ => none }
def signalClaimsRow : OpenClaim := { program := "ytpdaenfglbgfkaagreatdoor", sum := "2304b6b13e8b26e7da8ea4e291917d1ccb17a666f1434f5aa60acfcd062f6697", func := "baudot/baudotlaw02.SignalClaims", spec := "signalClaims", inPlace := ["(*sync.WaitGroup).Add", "internal/race.ReleaseMerge", "internal/race.Disable", "internal/race.Enable", "internal/synctest.IsInBubble", "internal/synctest.Associate[sync.WaitGroup]", "sync.fatal", "sync/atomic.OrUint64", "sync/atomic.AddUint64", "internal/race.Read", "sync/atomic.LoadUint64", "sync/atomic.StoreUint64", "internal/synctest.Disassociate[sync.WaitGroup]", "sync.runtime_Semrelease", "(*sync.WaitGroup).Done", "(*internal/sync.Mutex).Lock", "sync/atomic.CompareAndSwapInt32", "internal/race.Acquire", "(*internal/sync.Mutex).lockSlow", "internal/sync.runtime_canSpin", "internal/sync.runtime_doSpin", "internal/sync.throw", "internal/sync.runtime_nanotime", "internal/sync.runtime_SemacquireMutex", "sync/atomic.AddInt32", "(*internal/sync.Mutex).Unlock", "(*internal/sync.Mutex).unlockSlow", "internal/sync.fatal", "internal/sync.runtime_Semrelease", "(*sync.WaitGroup).Wait", "internal/synctest.IsAssociated[sync.WaitGroup]", "sync/atomic.CompareAndSwapUint64", "internal/race.Write", "sync.runtime_SemacquireWaitGroup"], unfollowed := true, recurses := true, named := ["baudot/signal.checks"], plainKeys := false, leaving := true, apart := false, calm := true, outside := [.timePasses], laid := [("baudot/signal.checks", laid_baudot_signal_checks)] }
def SignalClaimsSaid : Prop := signalClaimsRow.holds Tryz.pinned (OpenSpec.ofChange signalClaimsSpec)

/-- ITS FALSE NEIGHBOUR: 'it returns false'. Refute it at one input. -/
def signalClaimsWrong : ChangeSpec := { name := "signalClaims", fn := fun _ => fun
  | [d1, d2] => { results := [.lit (.bool false)], args := [d1, d2] }
  | _ => none }
def SignalClaimsWrongFalsely : Prop := signalClaimsRow.holds Tryz.pinned (OpenSpec.ofChange signalClaimsWrong)

/-- 'baudotlaw02.SignalMargins': WHATEVER THE INPUT: true; the input reads as it did. -/
def signalMarginsSpec : ChangeSpec := { name := "signalMargins", fn := fun _ => fun
  | [d] => { results := [.lit (.bool true)], args := [d] }
  | _ => none }
def signalMarginsRow : OpenClaim := { program := "ytpdaenfglbgfkaagreatdoor", sum := "2304b6b13e8b26e7da8ea4e291917d1ccb17a666f1434f5aa60acfcd062f6697", func := "baudot/baudotlaw02.SignalMargins", spec := "signalMargins", inPlace := ["(*sync.WaitGroup).Add", "internal/race.ReleaseMerge", "internal/race.Disable", "internal/race.Enable", "internal/synctest.IsInBubble", "internal/synctest.Associate[sync.WaitGroup]", "sync.fatal", "sync/atomic.OrUint64", "sync/atomic.AddUint64", "internal/race.Read", "sync/atomic.LoadUint64", "sync/atomic.StoreUint64", "internal/synctest.Disassociate[sync.WaitGroup]", "sync.runtime_Semrelease", "(*sync.WaitGroup).Done", "(*internal/sync.Mutex).Lock", "sync/atomic.CompareAndSwapInt32", "internal/race.Acquire", "(*internal/sync.Mutex).lockSlow", "internal/sync.runtime_canSpin", "internal/sync.runtime_doSpin", "internal/sync.throw", "internal/sync.runtime_nanotime", "internal/sync.runtime_SemacquireMutex", "sync/atomic.AddInt32", "(*internal/sync.Mutex).Unlock", "(*internal/sync.Mutex).unlockSlow", "internal/sync.fatal", "internal/sync.runtime_Semrelease", "(*sync.WaitGroup).Wait", "internal/synctest.IsAssociated[sync.WaitGroup]", "sync/atomic.CompareAndSwapUint64", "internal/race.Write", "sync.runtime_SemacquireWaitGroup"], unfollowed := true, recurses := true, named := ["baudot/signal.checks"], plainKeys := false, leaving := true, apart := false, calm := true, outside := [.timePasses], laid := [("baudot/signal.checks", laid_baudot_signal_checks)] }
def SignalMarginsSaid : Prop := signalMarginsRow.holds Tryz.pinned (OpenSpec.ofChange signalMarginsSpec)

/-- ITS FALSE NEIGHBOUR: 'it returns false'. Refute it at one input. -/
def signalMarginsWrong : ChangeSpec := { name := "signalMargins", fn := fun _ => fun
  | [d] => { results := [.lit (.bool false)], args := [d] }
  | _ => none }
def SignalMarginsWrongFalsely : Prop := signalMarginsRow.holds Tryz.pinned (OpenSpec.ofChange signalMarginsWrong)

/-- 'baudotlaw02.SignalParts': WHATEVER THE INPUT: true; the input reads as it did. -/
def signalPartsSpec : ChangeSpec := { name := "signalParts", fn := fun _ => fun
  | [d1, d2] => { results := [.lit (.bool true)], args := [d1, d2] }
  | _ => none }
def signalPartsRow : OpenClaim := { program := "ytpdaenfglbgfkaagreatdoor", sum := "2304b6b13e8b26e7da8ea4e291917d1ccb17a666f1434f5aa60acfcd062f6697", func := "baudot/baudotlaw02.SignalParts", spec := "signalParts", inPlace := ["(*sync.WaitGroup).Add", "internal/race.ReleaseMerge", "internal/race.Disable", "internal/race.Enable", "internal/synctest.IsInBubble", "internal/synctest.Associate[sync.WaitGroup]", "sync.fatal", "sync/atomic.OrUint64", "sync/atomic.AddUint64", "internal/race.Read", "sync/atomic.LoadUint64", "sync/atomic.StoreUint64", "internal/synctest.Disassociate[sync.WaitGroup]", "sync.runtime_Semrelease", "(*sync.WaitGroup).Done", "(*internal/sync.Mutex).Lock", "sync/atomic.CompareAndSwapInt32", "internal/race.Acquire", "(*internal/sync.Mutex).lockSlow", "internal/sync.runtime_canSpin", "internal/sync.runtime_doSpin", "internal/sync.throw", "internal/sync.runtime_nanotime", "internal/sync.runtime_SemacquireMutex", "sync/atomic.AddInt32", "(*internal/sync.Mutex).Unlock", "(*internal/sync.Mutex).unlockSlow", "internal/sync.fatal", "internal/sync.runtime_Semrelease", "(*sync.WaitGroup).Wait", "internal/synctest.IsAssociated[sync.WaitGroup]", "sync/atomic.CompareAndSwapUint64", "internal/race.Write", "sync.runtime_SemacquireWaitGroup"], unfollowed := true, recurses := true, named := ["baudot/signal.checks"], plainKeys := false, leaving := true, apart := false, calm := true, outside := [.timePasses], laid := [("baudot/signal.checks", laid_baudot_signal_checks)] }
def SignalPartsSaid : Prop := signalPartsRow.holds Tryz.pinned (OpenSpec.ofChange signalPartsSpec)

/-- ITS FALSE NEIGHBOUR: 'it returns false'. Refute it at one input. -/
def signalPartsWrong : ChangeSpec := { name := "signalParts", fn := fun _ => fun
  | [d1, d2] => { results := [.lit (.bool false)], args := [d1, d2] }
  | _ => none }
def SignalPartsWrongFalsely : Prop := signalPartsRow.holds Tryz.pinned (OpenSpec.ofChange signalPartsWrong)

/-- 'baudotlaw02.SignalPaced': WHATEVER THE INPUT: true; the input reads as it did. -/
def signalPacedSpec : ChangeSpec := { name := "signalPaced", fn := fun _ => fun
  | [d1, d2] => { results := [.lit (.bool true)], args := [d1, d2] }
  | _ => none }
def signalPacedRow : OpenClaim := { program := "ytpdaenfglbgfkaagreatdoor", sum := "2304b6b13e8b26e7da8ea4e291917d1ccb17a666f1434f5aa60acfcd062f6697", func := "baudot/baudotlaw02.SignalPaced", spec := "signalPaced", inPlace := ["(*sync.WaitGroup).Add", "internal/race.ReleaseMerge", "internal/race.Disable", "internal/race.Enable", "internal/synctest.IsInBubble", "internal/synctest.Associate[sync.WaitGroup]", "sync.fatal", "sync/atomic.OrUint64", "sync/atomic.AddUint64", "internal/race.Read", "sync/atomic.LoadUint64", "sync/atomic.StoreUint64", "internal/synctest.Disassociate[sync.WaitGroup]", "sync.runtime_Semrelease", "(*sync.WaitGroup).Done", "(*internal/sync.Mutex).Lock", "sync/atomic.CompareAndSwapInt32", "internal/race.Acquire", "(*internal/sync.Mutex).lockSlow", "internal/sync.runtime_canSpin", "internal/sync.runtime_doSpin", "internal/sync.throw", "internal/sync.runtime_nanotime", "internal/sync.runtime_SemacquireMutex", "sync/atomic.AddInt32", "(*internal/sync.Mutex).Unlock", "(*internal/sync.Mutex).unlockSlow", "internal/sync.fatal", "internal/sync.runtime_Semrelease", "(*sync.WaitGroup).Wait", "internal/synctest.IsAssociated[sync.WaitGroup]", "sync/atomic.CompareAndSwapUint64", "internal/race.Write", "sync.runtime_SemacquireWaitGroup"], unfollowed := true, recurses := true, named := ["baudot/signal.checks"], plainKeys := false, leaving := true, apart := false, calm := true, outside := [.timePasses], laid := [("baudot/signal.checks", laid_baudot_signal_checks)] }
def SignalPacedSaid : Prop := signalPacedRow.holds Tryz.pinned (OpenSpec.ofChange signalPacedSpec)

/-- ITS FALSE NEIGHBOUR: 'it returns false'. Refute it at one input. -/
def signalPacedWrong : ChangeSpec := { name := "signalPaced", fn := fun _ => fun
  | [d1, d2] => { results := [.lit (.bool false)], args := [d1, d2] }
  | _ => none }
def SignalPacedWrongFalsely : Prop := signalPacedRow.holds Tryz.pinned (OpenSpec.ofChange signalPacedWrong)

/-- 'baudotlaw02.SignalNarrower': WHATEVER THE INPUT: true; the input reads as it did. -/
def signalNarrowerSpec : ChangeSpec := { name := "signalNarrower", fn := fun _ => fun
  | [d1, d2, d3] => { results := [.lit (.bool true)], args := [d1, d2, d3] }
  | _ => none }
def signalNarrowerRow : OpenClaim := { program := "ytpdaenfglbgfkaagreatdoor", sum := "2304b6b13e8b26e7da8ea4e291917d1ccb17a666f1434f5aa60acfcd062f6697", func := "baudot/baudotlaw02.SignalNarrower", spec := "signalNarrower", inPlace := ["(*sync.WaitGroup).Add", "internal/race.ReleaseMerge", "internal/race.Disable", "internal/race.Enable", "internal/synctest.IsInBubble", "internal/synctest.Associate[sync.WaitGroup]", "sync.fatal", "sync/atomic.OrUint64", "sync/atomic.AddUint64", "internal/race.Read", "sync/atomic.LoadUint64", "sync/atomic.StoreUint64", "internal/synctest.Disassociate[sync.WaitGroup]", "sync.runtime_Semrelease", "(*sync.WaitGroup).Done", "(*internal/sync.Mutex).Lock", "sync/atomic.CompareAndSwapInt32", "internal/race.Acquire", "(*internal/sync.Mutex).lockSlow", "internal/sync.runtime_canSpin", "internal/sync.runtime_doSpin", "internal/sync.throw", "internal/sync.runtime_nanotime", "internal/sync.runtime_SemacquireMutex", "sync/atomic.AddInt32", "(*internal/sync.Mutex).Unlock", "(*internal/sync.Mutex).unlockSlow", "internal/sync.fatal", "internal/sync.runtime_Semrelease", "(*sync.WaitGroup).Wait", "internal/synctest.IsAssociated[sync.WaitGroup]", "sync/atomic.CompareAndSwapUint64", "internal/race.Write", "sync.runtime_SemacquireWaitGroup"], unfollowed := true, recurses := true, named := ["baudot/signal.checks"], plainKeys := false, leaving := true, apart := false, calm := true, outside := [.timePasses], laid := [("baudot/signal.checks", laid_baudot_signal_checks)] }
def SignalNarrowerSaid : Prop := signalNarrowerRow.holds Tryz.pinned (OpenSpec.ofChange signalNarrowerSpec)

/-- ITS FALSE NEIGHBOUR: 'it returns false'. Refute it at one input. -/
def signalNarrowerWrong : ChangeSpec := { name := "signalNarrower", fn := fun _ => fun
  | [d1, d2, d3] => { results := [.lit (.bool false)], args := [d1, d2, d3] }
  | _ => none }
def SignalNarrowerWrongFalsely : Prop := signalNarrowerRow.holds Tryz.pinned (OpenSpec.ofChange signalNarrowerWrong)

/-- 'baudotlaw02.SignalSources': WHATEVER THE INPUT: true; the input reads as it did. -/
def signalSourcesSpec : ChangeSpec := { name := "signalSources", fn := fun _ => fun
  | [d1, d2, d3] => { results := [.lit (.bool true)], args := [d1, d2, d3] }
  | _ => none }
def signalSourcesRow : OpenClaim := { program := "ytpdaenfglbgfkaagreatdoor", sum := "2304b6b13e8b26e7da8ea4e291917d1ccb17a666f1434f5aa60acfcd062f6697", func := "baudot/baudotlaw02.SignalSources", spec := "signalSources", inPlace := ["(*sync.WaitGroup).Add", "internal/race.ReleaseMerge", "internal/race.Disable", "internal/race.Enable", "internal/synctest.IsInBubble", "internal/synctest.Associate[sync.WaitGroup]", "sync.fatal", "sync/atomic.OrUint64", "sync/atomic.AddUint64", "internal/race.Read", "sync/atomic.LoadUint64", "sync/atomic.StoreUint64", "internal/synctest.Disassociate[sync.WaitGroup]", "sync.runtime_Semrelease", "(*sync.WaitGroup).Done", "(*internal/sync.Mutex).Lock", "sync/atomic.CompareAndSwapInt32", "internal/race.Acquire", "(*internal/sync.Mutex).lockSlow", "internal/sync.runtime_canSpin", "internal/sync.runtime_doSpin", "internal/sync.throw", "internal/sync.runtime_nanotime", "internal/sync.runtime_SemacquireMutex", "sync/atomic.AddInt32", "(*internal/sync.Mutex).Unlock", "(*internal/sync.Mutex).unlockSlow", "internal/sync.fatal", "internal/sync.runtime_Semrelease", "(*sync.WaitGroup).Wait", "internal/synctest.IsAssociated[sync.WaitGroup]", "sync/atomic.CompareAndSwapUint64", "internal/race.Write", "sync.runtime_SemacquireWaitGroup"], unfollowed := true, recurses := true, named := ["baudot/signal.checks"], plainKeys := false, leaving := true, apart := false, calm := true, outside := [.timePasses], laid := [("baudot/signal.checks", laid_baudot_signal_checks)] }
def SignalSourcesSaid : Prop := signalSourcesRow.holds Tryz.pinned (OpenSpec.ofChange signalSourcesSpec)

/-- ITS FALSE NEIGHBOUR: 'it returns false'. Refute it at one input. -/
def signalSourcesWrong : ChangeSpec := { name := "signalSources", fn := fun _ => fun
  | [d1, d2, d3] => { results := [.lit (.bool false)], args := [d1, d2, d3] }
  | _ => none }
def SignalSourcesWrongFalsely : Prop := signalSourcesRow.holds Tryz.pinned (OpenSpec.ofChange signalSourcesWrong)

/-- 'baudotlaw02.SignalOnly': WHATEVER THE INPUT: true; the input reads as it did. -/
def signalOnlySpec : ChangeSpec := { name := "signalOnly", fn := fun _ => fun
  | [d1, d2, d3] => { results := [.lit (.bool true)], args := [d1, d2, d3] }
  | _ => none }
def signalOnlyRow : OpenClaim := { program := "ytpdaenfglbgfkaagreatdoor", sum := "2304b6b13e8b26e7da8ea4e291917d1ccb17a666f1434f5aa60acfcd062f6697", func := "baudot/baudotlaw02.SignalOnly", spec := "signalOnly", inPlace := ["(*sync.WaitGroup).Add", "internal/race.ReleaseMerge", "internal/race.Disable", "internal/race.Enable", "internal/synctest.IsInBubble", "internal/synctest.Associate[sync.WaitGroup]", "sync.fatal", "sync/atomic.OrUint64", "sync/atomic.AddUint64", "internal/race.Read", "sync/atomic.LoadUint64", "sync/atomic.StoreUint64", "internal/synctest.Disassociate[sync.WaitGroup]", "sync.runtime_Semrelease", "(*sync.WaitGroup).Done", "(*internal/sync.Mutex).Lock", "sync/atomic.CompareAndSwapInt32", "internal/race.Acquire", "(*internal/sync.Mutex).lockSlow", "internal/sync.runtime_canSpin", "internal/sync.runtime_doSpin", "internal/sync.throw", "internal/sync.runtime_nanotime", "internal/sync.runtime_SemacquireMutex", "sync/atomic.AddInt32", "(*internal/sync.Mutex).Unlock", "(*internal/sync.Mutex).unlockSlow", "internal/sync.fatal", "internal/sync.runtime_Semrelease", "(*sync.WaitGroup).Wait", "internal/synctest.IsAssociated[sync.WaitGroup]", "sync/atomic.CompareAndSwapUint64", "internal/race.Write", "sync.runtime_SemacquireWaitGroup"], unfollowed := true, recurses := true, named := ["baudot/signal.checks"], plainKeys := false, leaving := true, apart := false, calm := true, outside := [.timePasses], laid := [("baudot/signal.checks", laid_baudot_signal_checks)] }
def SignalOnlySaid : Prop := signalOnlyRow.holds Tryz.pinned (OpenSpec.ofChange signalOnlySpec)

/-- ITS FALSE NEIGHBOUR: 'it returns false'. Refute it at one input. -/
def signalOnlyWrong : ChangeSpec := { name := "signalOnly", fn := fun _ => fun
  | [d1, d2, d3] => { results := [.lit (.bool false)], args := [d1, d2, d3] }
  | _ => none }
def SignalOnlyWrongFalsely : Prop := signalOnlyRow.holds Tryz.pinned (OpenSpec.ofChange signalOnlyWrong)

/-- 'baudotlaw02.SignalSpots': WHATEVER THE INPUT: true; the input reads as it did. -/
def signalSpotsSpec : ChangeSpec := { name := "signalSpots", fn := fun _ => fun
  | [d1, d2] => { results := [.lit (.bool true)], args := [d1, d2] }
  | _ => none }
def signalSpotsRow : OpenClaim := { program := "ytpdaenfglbgfkaagreatdoor", sum := "2304b6b13e8b26e7da8ea4e291917d1ccb17a666f1434f5aa60acfcd062f6697", func := "baudot/baudotlaw02.SignalSpots", spec := "signalSpots", inPlace := ["(*sync.WaitGroup).Add", "internal/race.ReleaseMerge", "internal/race.Disable", "internal/race.Enable", "internal/synctest.IsInBubble", "internal/synctest.Associate[sync.WaitGroup]", "sync.fatal", "sync/atomic.OrUint64", "sync/atomic.AddUint64", "internal/race.Read", "sync/atomic.LoadUint64", "sync/atomic.StoreUint64", "internal/synctest.Disassociate[sync.WaitGroup]", "sync.runtime_Semrelease", "(*sync.WaitGroup).Done", "(*internal/sync.Mutex).Lock", "sync/atomic.CompareAndSwapInt32", "internal/race.Acquire", "(*internal/sync.Mutex).lockSlow", "internal/sync.runtime_canSpin", "internal/sync.runtime_doSpin", "internal/sync.throw", "internal/sync.runtime_nanotime", "internal/sync.runtime_SemacquireMutex", "sync/atomic.AddInt32", "(*internal/sync.Mutex).Unlock", "(*internal/sync.Mutex).unlockSlow", "internal/sync.fatal", "internal/sync.runtime_Semrelease", "(*sync.WaitGroup).Wait", "internal/synctest.IsAssociated[sync.WaitGroup]", "sync/atomic.CompareAndSwapUint64", "internal/race.Write", "sync.runtime_SemacquireWaitGroup"], unfollowed := true, recurses := true, named := ["baudot/signal.checks"], plainKeys := false, leaving := true, apart := false, calm := true, outside := [.timePasses], laid := [("baudot/signal.checks", laid_baudot_signal_checks)] }
def SignalSpotsSaid : Prop := signalSpotsRow.holds Tryz.pinned (OpenSpec.ofChange signalSpotsSpec)

/-- ITS FALSE NEIGHBOUR: 'it returns false'. Refute it at one input. -/
def signalSpotsWrong : ChangeSpec := { name := "signalSpots", fn := fun _ => fun
  | [d1, d2] => { results := [.lit (.bool false)], args := [d1, d2] }
  | _ => none }
def SignalSpotsWrongFalsely : Prop := signalSpotsRow.holds Tryz.pinned (OpenSpec.ofChange signalSpotsWrong)

/-- 'baudotlaw02.SignalHolds': WHATEVER THE INPUT: true; the input reads as it did. -/
def signalHoldsSpec : ChangeSpec := { name := "signalHolds", fn := fun _ => fun
  | [d1, d2] => { results := [.lit (.bool true)], args := [d1, d2] }
  | _ => none }
def signalHoldsRow : OpenClaim := { program := "ytpdaenfglbgfkaagreatdoor", sum := "2304b6b13e8b26e7da8ea4e291917d1ccb17a666f1434f5aa60acfcd062f6697", func := "baudot/baudotlaw02.SignalHolds", spec := "signalHolds", inPlace := ["(*sync.WaitGroup).Add", "internal/race.ReleaseMerge", "internal/race.Disable", "internal/race.Enable", "internal/synctest.IsInBubble", "internal/synctest.Associate[sync.WaitGroup]", "sync.fatal", "sync/atomic.OrUint64", "sync/atomic.AddUint64", "internal/race.Read", "sync/atomic.LoadUint64", "sync/atomic.StoreUint64", "internal/synctest.Disassociate[sync.WaitGroup]", "sync.runtime_Semrelease", "(*sync.WaitGroup).Done", "(*internal/sync.Mutex).Lock", "sync/atomic.CompareAndSwapInt32", "internal/race.Acquire", "(*internal/sync.Mutex).lockSlow", "internal/sync.runtime_canSpin", "internal/sync.runtime_doSpin", "internal/sync.throw", "internal/sync.runtime_nanotime", "internal/sync.runtime_SemacquireMutex", "sync/atomic.AddInt32", "(*internal/sync.Mutex).Unlock", "(*internal/sync.Mutex).unlockSlow", "internal/sync.fatal", "internal/sync.runtime_Semrelease", "(*sync.WaitGroup).Wait", "internal/synctest.IsAssociated[sync.WaitGroup]", "sync/atomic.CompareAndSwapUint64", "internal/race.Write", "sync.runtime_SemacquireWaitGroup"], unfollowed := true, recurses := true, named := ["baudot/signal.checks"], plainKeys := false, leaving := true, apart := false, calm := true, outside := [.timePasses], laid := [("baudot/signal.checks", laid_baudot_signal_checks)] }
def SignalHoldsSaid : Prop := signalHoldsRow.holds Tryz.pinned (OpenSpec.ofChange signalHoldsSpec)

/-- ITS FALSE NEIGHBOUR: 'it returns false'. Refute it at one input. -/
def signalHoldsWrong : ChangeSpec := { name := "signalHolds", fn := fun _ => fun
  | [d1, d2] => { results := [.lit (.bool false)], args := [d1, d2] }
  | _ => none }
def SignalHoldsWrongFalsely : Prop := signalHoldsRow.holds Tryz.pinned (OpenSpec.ofChange signalHoldsWrong)

/-- 'baudotlaw02.SignalChains': WHATEVER THE INPUT: true; the input reads as it did. -/
def signalChainsSpec : ChangeSpec := { name := "signalChains", fn := fun _ => fun
  | [d1, d2, d3] => { results := [.lit (.bool true)], args := [d1, d2, d3] }
  | _ => none }
def signalChainsRow : OpenClaim := { program := "ytpdaenfglbgfkaagreatdoor", sum := "2304b6b13e8b26e7da8ea4e291917d1ccb17a666f1434f5aa60acfcd062f6697", func := "baudot/baudotlaw02.SignalChains", spec := "signalChains", inPlace := ["(*sync.WaitGroup).Add", "internal/race.ReleaseMerge", "internal/race.Disable", "internal/race.Enable", "internal/synctest.IsInBubble", "internal/synctest.Associate[sync.WaitGroup]", "sync.fatal", "sync/atomic.OrUint64", "sync/atomic.AddUint64", "internal/race.Read", "sync/atomic.LoadUint64", "sync/atomic.StoreUint64", "internal/synctest.Disassociate[sync.WaitGroup]", "sync.runtime_Semrelease", "(*sync.WaitGroup).Done", "(*internal/sync.Mutex).Lock", "sync/atomic.CompareAndSwapInt32", "internal/race.Acquire", "(*internal/sync.Mutex).lockSlow", "internal/sync.runtime_canSpin", "internal/sync.runtime_doSpin", "internal/sync.throw", "internal/sync.runtime_nanotime", "internal/sync.runtime_SemacquireMutex", "sync/atomic.AddInt32", "(*internal/sync.Mutex).Unlock", "(*internal/sync.Mutex).unlockSlow", "internal/sync.fatal", "internal/sync.runtime_Semrelease", "(*sync.WaitGroup).Wait", "internal/synctest.IsAssociated[sync.WaitGroup]", "sync/atomic.CompareAndSwapUint64", "internal/race.Write", "sync.runtime_SemacquireWaitGroup"], unfollowed := true, recurses := true, named := ["baudot/signal.checks"], plainKeys := false, leaving := true, apart := false, calm := true, outside := [.timePasses], laid := [("baudot/signal.checks", laid_baudot_signal_checks)] }
def SignalChainsSaid : Prop := signalChainsRow.holds Tryz.pinned (OpenSpec.ofChange signalChainsSpec)

/-- ITS FALSE NEIGHBOUR: 'it returns false'. Refute it at one input. -/
def signalChainsWrong : ChangeSpec := { name := "signalChains", fn := fun _ => fun
  | [d1, d2, d3] => { results := [.lit (.bool false)], args := [d1, d2, d3] }
  | _ => none }
def SignalChainsWrongFalsely : Prop := signalChainsRow.holds Tryz.pinned (OpenSpec.ofChange signalChainsWrong)

/-- 'baudotlaw02.SignalShifted': WHATEVER THE INPUT: true; the input reads as it did. -/
def signalShiftedSpec : ChangeSpec := { name := "signalShifted", fn := fun _ => fun
  | [d1, d2, d3, d4] => { results := [.lit (.bool true)], args := [d1, d2, d3, d4] }
  | _ => none }
def signalShiftedRow : OpenClaim := { program := "ytpdaenfglbgfkaagreatdoor", sum := "2304b6b13e8b26e7da8ea4e291917d1ccb17a666f1434f5aa60acfcd062f6697", func := "baudot/baudotlaw02.SignalShifted", spec := "signalShifted", inPlace := ["(*sync.WaitGroup).Add", "internal/race.ReleaseMerge", "internal/race.Disable", "internal/race.Enable", "internal/synctest.IsInBubble", "internal/synctest.Associate[sync.WaitGroup]", "sync.fatal", "sync/atomic.OrUint64", "sync/atomic.AddUint64", "internal/race.Read", "sync/atomic.LoadUint64", "sync/atomic.StoreUint64", "internal/synctest.Disassociate[sync.WaitGroup]", "sync.runtime_Semrelease", "(*sync.WaitGroup).Done", "(*internal/sync.Mutex).Lock", "sync/atomic.CompareAndSwapInt32", "internal/race.Acquire", "(*internal/sync.Mutex).lockSlow", "internal/sync.runtime_canSpin", "internal/sync.runtime_doSpin", "internal/sync.throw", "internal/sync.runtime_nanotime", "internal/sync.runtime_SemacquireMutex", "sync/atomic.AddInt32", "(*internal/sync.Mutex).Unlock", "(*internal/sync.Mutex).unlockSlow", "internal/sync.fatal", "internal/sync.runtime_Semrelease", "(*sync.WaitGroup).Wait", "internal/synctest.IsAssociated[sync.WaitGroup]", "sync/atomic.CompareAndSwapUint64", "internal/race.Write", "sync.runtime_SemacquireWaitGroup"], unfollowed := true, recurses := true, named := ["baudot/signal.checks"], plainKeys := false, leaving := true, apart := false, calm := true, outside := [.timePasses], laid := [("baudot/signal.checks", laid_baudot_signal_checks)] }
def SignalShiftedSaid : Prop := signalShiftedRow.holds Tryz.pinned (OpenSpec.ofChange signalShiftedSpec)

/-- ITS FALSE NEIGHBOUR: 'it returns false'. Refute it at one input. -/
def signalShiftedWrong : ChangeSpec := { name := "signalShifted", fn := fun _ => fun
  | [d1, d2, d3, d4] => { results := [.lit (.bool false)], args := [d1, d2, d3, d4] }
  | _ => none }
def SignalShiftedWrongFalsely : Prop := signalShiftedRow.holds Tryz.pinned (OpenSpec.ofChange signalShiftedWrong)

/-- 'baudotlaw02.SignalReal': WHATEVER THE INPUT: true; the input reads as it did. -/
def signalRealSpec : ChangeSpec := { name := "signalReal", fn := fun _ => fun
  | [d1, d2, d3] => { results := [.lit (.bool true)], args := [d1, d2, d3] }
  | _ => none }
def signalRealRow : OpenClaim := { program := "ytpdaenfglbgfkaagreatdoor", sum := "2304b6b13e8b26e7da8ea4e291917d1ccb17a666f1434f5aa60acfcd062f6697", func := "baudot/baudotlaw02.SignalReal", spec := "signalReal", inPlace := ["(*sync.WaitGroup).Add", "internal/race.ReleaseMerge", "internal/race.Disable", "internal/race.Enable", "internal/synctest.IsInBubble", "internal/synctest.Associate[sync.WaitGroup]", "sync.fatal", "sync/atomic.OrUint64", "sync/atomic.AddUint64", "internal/race.Read", "sync/atomic.LoadUint64", "sync/atomic.StoreUint64", "internal/synctest.Disassociate[sync.WaitGroup]", "sync.runtime_Semrelease", "(*sync.WaitGroup).Done", "(*internal/sync.Mutex).Lock", "sync/atomic.CompareAndSwapInt32", "internal/race.Acquire", "(*internal/sync.Mutex).lockSlow", "internal/sync.runtime_canSpin", "internal/sync.runtime_doSpin", "internal/sync.throw", "internal/sync.runtime_nanotime", "internal/sync.runtime_SemacquireMutex", "sync/atomic.AddInt32", "(*internal/sync.Mutex).Unlock", "(*internal/sync.Mutex).unlockSlow", "internal/sync.fatal", "internal/sync.runtime_Semrelease", "(*sync.WaitGroup).Wait", "internal/synctest.IsAssociated[sync.WaitGroup]", "sync/atomic.CompareAndSwapUint64", "internal/race.Write", "sync.runtime_SemacquireWaitGroup"], unfollowed := true, recurses := true, named := ["baudot/signal.checks"], plainKeys := false, leaving := true, apart := false, calm := true, outside := [.timePasses], laid := [("baudot/signal.checks", laid_baudot_signal_checks)] }
def SignalRealSaid : Prop := signalRealRow.holds Tryz.pinned (OpenSpec.ofChange signalRealSpec)

/-- ITS FALSE NEIGHBOUR: 'it returns false'. Refute it at one input. -/
def signalRealWrong : ChangeSpec := { name := "signalReal", fn := fun _ => fun
  | [d1, d2, d3] => { results := [.lit (.bool false)], args := [d1, d2, d3] }
  | _ => none }
def SignalRealWrongFalsely : Prop := signalRealRow.holds Tryz.pinned (OpenSpec.ofChange signalRealWrong)

/-- 'baudotlaw02.SignalWorst': WHATEVER THE INPUT: true; the input reads as it did. -/
def signalWorstSpec : ChangeSpec := { name := "signalWorst", fn := fun _ => fun
  | [d1, d2, d3] => { results := [.lit (.bool true)], args := [d1, d2, d3] }
  | _ => none }
def signalWorstRow : OpenClaim := { program := "ytpdaenfglbgfkaagreatdoor", sum := "2304b6b13e8b26e7da8ea4e291917d1ccb17a666f1434f5aa60acfcd062f6697", func := "baudot/baudotlaw02.SignalWorst", spec := "signalWorst", inPlace := ["(*sync.WaitGroup).Add", "internal/race.ReleaseMerge", "internal/race.Disable", "internal/race.Enable", "internal/synctest.IsInBubble", "internal/synctest.Associate[sync.WaitGroup]", "sync.fatal", "sync/atomic.OrUint64", "sync/atomic.AddUint64", "internal/race.Read", "sync/atomic.LoadUint64", "sync/atomic.StoreUint64", "internal/synctest.Disassociate[sync.WaitGroup]", "sync.runtime_Semrelease", "(*sync.WaitGroup).Done", "(*internal/sync.Mutex).Lock", "sync/atomic.CompareAndSwapInt32", "internal/race.Acquire", "(*internal/sync.Mutex).lockSlow", "internal/sync.runtime_canSpin", "internal/sync.runtime_doSpin", "internal/sync.throw", "internal/sync.runtime_nanotime", "internal/sync.runtime_SemacquireMutex", "sync/atomic.AddInt32", "(*internal/sync.Mutex).Unlock", "(*internal/sync.Mutex).unlockSlow", "internal/sync.fatal", "internal/sync.runtime_Semrelease", "(*sync.WaitGroup).Wait", "internal/synctest.IsAssociated[sync.WaitGroup]", "sync/atomic.CompareAndSwapUint64", "internal/race.Write", "sync.runtime_SemacquireWaitGroup"], unfollowed := true, recurses := true, named := ["baudot/signal.checks"], plainKeys := false, leaving := true, apart := false, calm := true, outside := [.timePasses], laid := [("baudot/signal.checks", laid_baudot_signal_checks)] }
def SignalWorstSaid : Prop := signalWorstRow.holds Tryz.pinned (OpenSpec.ofChange signalWorstSpec)

/-- ITS FALSE NEIGHBOUR: 'it returns false'. Refute it at one input. -/
def signalWorstWrong : ChangeSpec := { name := "signalWorst", fn := fun _ => fun
  | [d1, d2, d3] => { results := [.lit (.bool false)], args := [d1, d2, d3] }
  | _ => none }
def SignalWorstWrongFalsely : Prop := signalWorstRow.holds Tryz.pinned (OpenSpec.ofChange signalWorstWrong)

/-- 'baudotlaw02.SignalMargin': WHATEVER THE INPUT: true; the input reads as it did. -/
def signalMarginSpec : ChangeSpec := { name := "signalMargin", fn := fun _ => fun
  | [d1, d2, d3, d4] => { results := [.lit (.bool true)], args := [d1, d2, d3, d4] }
  | _ => none }
def signalMarginRow : OpenClaim := { program := "ytpdaenfglbgfkaagreatdoor", sum := "2304b6b13e8b26e7da8ea4e291917d1ccb17a666f1434f5aa60acfcd062f6697", func := "baudot/baudotlaw02.SignalMargin", spec := "signalMargin", inPlace := ["(*sync.WaitGroup).Add", "internal/race.ReleaseMerge", "internal/race.Disable", "internal/race.Enable", "internal/synctest.IsInBubble", "internal/synctest.Associate[sync.WaitGroup]", "sync.fatal", "sync/atomic.OrUint64", "sync/atomic.AddUint64", "internal/race.Read", "sync/atomic.LoadUint64", "sync/atomic.StoreUint64", "internal/synctest.Disassociate[sync.WaitGroup]", "sync.runtime_Semrelease", "(*sync.WaitGroup).Done", "(*internal/sync.Mutex).Lock", "sync/atomic.CompareAndSwapInt32", "internal/race.Acquire", "(*internal/sync.Mutex).lockSlow", "internal/sync.runtime_canSpin", "internal/sync.runtime_doSpin", "internal/sync.throw", "internal/sync.runtime_nanotime", "internal/sync.runtime_SemacquireMutex", "sync/atomic.AddInt32", "(*internal/sync.Mutex).Unlock", "(*internal/sync.Mutex).unlockSlow", "internal/sync.fatal", "internal/sync.runtime_Semrelease", "(*sync.WaitGroup).Wait", "internal/synctest.IsAssociated[sync.WaitGroup]", "sync/atomic.CompareAndSwapUint64", "internal/race.Write", "sync.runtime_SemacquireWaitGroup"], unfollowed := true, recurses := true, named := ["baudot/signal.checks"], plainKeys := false, leaving := true, apart := false, calm := true, outside := [.timePasses], laid := [("baudot/signal.checks", laid_baudot_signal_checks)] }
def SignalMarginSaid : Prop := signalMarginRow.holds Tryz.pinned (OpenSpec.ofChange signalMarginSpec)

/-- ITS FALSE NEIGHBOUR: 'it returns false'. Refute it at one input. -/
def signalMarginWrong : ChangeSpec := { name := "signalMargin", fn := fun _ => fun
  | [d1, d2, d3, d4] => { results := [.lit (.bool false)], args := [d1, d2, d3, d4] }
  | _ => none }
def SignalMarginWrongFalsely : Prop := signalMarginRow.holds Tryz.pinned (OpenSpec.ofChange signalMarginWrong)

/-- 'baudotlaw02.SignalScaled': WHATEVER THE INPUT: true; the input reads as it did. -/
def signalScaledSpec : ChangeSpec := { name := "signalScaled", fn := fun _ => fun
  | [d1, d2, d3, d4] => { results := [.lit (.bool true)], args := [d1, d2, d3, d4] }
  | _ => none }
def signalScaledRow : OpenClaim := { program := "ytpdaenfglbgfkaagreatdoor", sum := "2304b6b13e8b26e7da8ea4e291917d1ccb17a666f1434f5aa60acfcd062f6697", func := "baudot/baudotlaw02.SignalScaled", spec := "signalScaled", inPlace := ["(*sync.WaitGroup).Add", "internal/race.ReleaseMerge", "internal/race.Disable", "internal/race.Enable", "internal/synctest.IsInBubble", "internal/synctest.Associate[sync.WaitGroup]", "sync.fatal", "sync/atomic.OrUint64", "sync/atomic.AddUint64", "internal/race.Read", "sync/atomic.LoadUint64", "sync/atomic.StoreUint64", "internal/synctest.Disassociate[sync.WaitGroup]", "sync.runtime_Semrelease", "(*sync.WaitGroup).Done", "(*internal/sync.Mutex).Lock", "sync/atomic.CompareAndSwapInt32", "internal/race.Acquire", "(*internal/sync.Mutex).lockSlow", "internal/sync.runtime_canSpin", "internal/sync.runtime_doSpin", "internal/sync.throw", "internal/sync.runtime_nanotime", "internal/sync.runtime_SemacquireMutex", "sync/atomic.AddInt32", "(*internal/sync.Mutex).Unlock", "(*internal/sync.Mutex).unlockSlow", "internal/sync.fatal", "internal/sync.runtime_Semrelease", "(*sync.WaitGroup).Wait", "internal/synctest.IsAssociated[sync.WaitGroup]", "sync/atomic.CompareAndSwapUint64", "internal/race.Write", "sync.runtime_SemacquireWaitGroup"], unfollowed := true, recurses := true, named := ["baudot/signal.checks"], plainKeys := false, leaving := true, apart := false, calm := true, outside := [.timePasses], laid := [("baudot/signal.checks", laid_baudot_signal_checks)] }
def SignalScaledSaid : Prop := signalScaledRow.holds Tryz.pinned (OpenSpec.ofChange signalScaledSpec)

/-- ITS FALSE NEIGHBOUR: 'it returns false'. Refute it at one input. -/
def signalScaledWrong : ChangeSpec := { name := "signalScaled", fn := fun _ => fun
  | [d1, d2, d3, d4] => { results := [.lit (.bool false)], args := [d1, d2, d3, d4] }
  | _ => none }
def SignalScaledWrongFalsely : Prop := signalScaledRow.holds Tryz.pinned (OpenSpec.ofChange signalScaledWrong)

/-- 'baudotlaw02.SignalSource': WHATEVER THE INPUT: true; the input reads as it did. -/
def signalSourceSpec : ChangeSpec := { name := "signalSource", fn := fun _ => fun
  | [d1, d2, d3, d4] => { results := [.lit (.bool true)], args := [d1, d2, d3, d4] }
  | _ => none }
def signalSourceRow : OpenClaim := { program := "ytpdaenfglbgfkaagreatdoor", sum := "2304b6b13e8b26e7da8ea4e291917d1ccb17a666f1434f5aa60acfcd062f6697", func := "baudot/baudotlaw02.SignalSource", spec := "signalSource", inPlace := ["(*sync.WaitGroup).Add", "internal/race.ReleaseMerge", "internal/race.Disable", "internal/race.Enable", "internal/synctest.IsInBubble", "internal/synctest.Associate[sync.WaitGroup]", "sync.fatal", "sync/atomic.OrUint64", "sync/atomic.AddUint64", "internal/race.Read", "sync/atomic.LoadUint64", "sync/atomic.StoreUint64", "internal/synctest.Disassociate[sync.WaitGroup]", "sync.runtime_Semrelease", "(*sync.WaitGroup).Done", "(*internal/sync.Mutex).Lock", "sync/atomic.CompareAndSwapInt32", "internal/race.Acquire", "(*internal/sync.Mutex).lockSlow", "internal/sync.runtime_canSpin", "internal/sync.runtime_doSpin", "internal/sync.throw", "internal/sync.runtime_nanotime", "internal/sync.runtime_SemacquireMutex", "sync/atomic.AddInt32", "(*internal/sync.Mutex).Unlock", "(*internal/sync.Mutex).unlockSlow", "internal/sync.fatal", "internal/sync.runtime_Semrelease", "(*sync.WaitGroup).Wait", "internal/synctest.IsAssociated[sync.WaitGroup]", "sync/atomic.CompareAndSwapUint64", "internal/race.Write", "sync.runtime_SemacquireWaitGroup"], unfollowed := true, recurses := true, named := ["baudot/signal.checks"], plainKeys := false, leaving := true, apart := false, calm := true, outside := [.timePasses], laid := [("baudot/signal.checks", laid_baudot_signal_checks)] }
def SignalSourceSaid : Prop := signalSourceRow.holds Tryz.pinned (OpenSpec.ofChange signalSourceSpec)

/-- ITS FALSE NEIGHBOUR: 'it returns false'. Refute it at one input. -/
def signalSourceWrong : ChangeSpec := { name := "signalSource", fn := fun _ => fun
  | [d1, d2, d3, d4] => { results := [.lit (.bool false)], args := [d1, d2, d3, d4] }
  | _ => none }
def SignalSourceWrongFalsely : Prop := signalSourceRow.holds Tryz.pinned (OpenSpec.ofChange signalSourceWrong)

/-- 'baudotlaw02.SignalJoined': WHATEVER THE INPUT: true; the input reads as it did. -/
def signalJoinedSpec : ChangeSpec := { name := "signalJoined", fn := fun _ => fun
  | [d1, d2, d3, d4] => { results := [.lit (.bool true)], args := [d1, d2, d3, d4] }
  | _ => none }
def signalJoinedRow : OpenClaim := { program := "ytpdaenfglbgfkaagreatdoor", sum := "2304b6b13e8b26e7da8ea4e291917d1ccb17a666f1434f5aa60acfcd062f6697", func := "baudot/baudotlaw02.SignalJoined", spec := "signalJoined", inPlace := ["(*sync.WaitGroup).Add", "internal/race.ReleaseMerge", "internal/race.Disable", "internal/race.Enable", "internal/synctest.IsInBubble", "internal/synctest.Associate[sync.WaitGroup]", "sync.fatal", "sync/atomic.OrUint64", "sync/atomic.AddUint64", "internal/race.Read", "sync/atomic.LoadUint64", "sync/atomic.StoreUint64", "internal/synctest.Disassociate[sync.WaitGroup]", "sync.runtime_Semrelease", "(*sync.WaitGroup).Done", "(*internal/sync.Mutex).Lock", "sync/atomic.CompareAndSwapInt32", "internal/race.Acquire", "(*internal/sync.Mutex).lockSlow", "internal/sync.runtime_canSpin", "internal/sync.runtime_doSpin", "internal/sync.throw", "internal/sync.runtime_nanotime", "internal/sync.runtime_SemacquireMutex", "sync/atomic.AddInt32", "(*internal/sync.Mutex).Unlock", "(*internal/sync.Mutex).unlockSlow", "internal/sync.fatal", "internal/sync.runtime_Semrelease", "(*sync.WaitGroup).Wait", "internal/synctest.IsAssociated[sync.WaitGroup]", "sync/atomic.CompareAndSwapUint64", "internal/race.Write", "sync.runtime_SemacquireWaitGroup"], unfollowed := true, recurses := true, named := ["baudot/signal.checks"], plainKeys := false, leaving := true, apart := false, calm := true, outside := [.timePasses], laid := [("baudot/signal.checks", laid_baudot_signal_checks)] }
def SignalJoinedSaid : Prop := signalJoinedRow.holds Tryz.pinned (OpenSpec.ofChange signalJoinedSpec)

/-- ITS FALSE NEIGHBOUR: 'it returns false'. Refute it at one input. -/
def signalJoinedWrong : ChangeSpec := { name := "signalJoined", fn := fun _ => fun
  | [d1, d2, d3, d4] => { results := [.lit (.bool false)], args := [d1, d2, d3, d4] }
  | _ => none }
def SignalJoinedWrongFalsely : Prop := signalJoinedRow.holds Tryz.pinned (OpenSpec.ofChange signalJoinedWrong)

/-- 'baudotlaw02.SignalPasts': WHATEVER THE INPUT: true; the input reads as it did. -/
def signalPastsSpec : ChangeSpec := { name := "signalPasts", fn := fun _ => fun
  | [d1, d2, d3] => { results := [.lit (.bool true)], args := [d1, d2, d3] }
  | _ => none }
def signalPastsRow : OpenClaim := { program := "ytpdaenfglbgfkaagreatdoor", sum := "2304b6b13e8b26e7da8ea4e291917d1ccb17a666f1434f5aa60acfcd062f6697", func := "baudot/baudotlaw02.SignalPasts", spec := "signalPasts", inPlace := ["(*sync.WaitGroup).Add", "internal/race.ReleaseMerge", "internal/race.Disable", "internal/race.Enable", "internal/synctest.IsInBubble", "internal/synctest.Associate[sync.WaitGroup]", "sync.fatal", "sync/atomic.OrUint64", "sync/atomic.AddUint64", "internal/race.Read", "sync/atomic.LoadUint64", "sync/atomic.StoreUint64", "internal/synctest.Disassociate[sync.WaitGroup]", "sync.runtime_Semrelease", "(*sync.WaitGroup).Done", "(*internal/sync.Mutex).Lock", "sync/atomic.CompareAndSwapInt32", "internal/race.Acquire", "(*internal/sync.Mutex).lockSlow", "internal/sync.runtime_canSpin", "internal/sync.runtime_doSpin", "internal/sync.throw", "internal/sync.runtime_nanotime", "internal/sync.runtime_SemacquireMutex", "sync/atomic.AddInt32", "(*internal/sync.Mutex).Unlock", "(*internal/sync.Mutex).unlockSlow", "internal/sync.fatal", "internal/sync.runtime_Semrelease", "(*sync.WaitGroup).Wait", "internal/synctest.IsAssociated[sync.WaitGroup]", "sync/atomic.CompareAndSwapUint64", "internal/race.Write", "sync.runtime_SemacquireWaitGroup"], unfollowed := true, recurses := true, named := ["baudot/signal.checks"], plainKeys := false, leaving := true, apart := false, calm := true, outside := [.timePasses], laid := [("baudot/signal.checks", laid_baudot_signal_checks)] }
def SignalPastsSaid : Prop := signalPastsRow.holds Tryz.pinned (OpenSpec.ofChange signalPastsSpec)

/-- ITS FALSE NEIGHBOUR: 'it returns false'. Refute it at one input. -/
def signalPastsWrong : ChangeSpec := { name := "signalPasts", fn := fun _ => fun
  | [d1, d2, d3] => { results := [.lit (.bool false)], args := [d1, d2, d3] }
  | _ => none }
def SignalPastsWrongFalsely : Prop := signalPastsRow.holds Tryz.pinned (OpenSpec.ofChange signalPastsWrong)

end Rows
end Go.Proofs.YtpdaenfglbgfkaaGreatDoor
