/-
  signalSource_card proves the given statement SignalSourceCardSaid as it stands: from every start that the card describes, on every schedule, the call of SignalSource ends, answers true and leaves what it was given as it was.
  Conditions: those of the given statement itself, no others.
-/
import Derived.Test.YtpdaenfglbgfkaaGreatDoorW08
import Derived.Test.YtpdaenfglbgfkaaGreatDoorWLate
import Derived.Test.YtpdaenfglbgfkaaGreatDoorWR2
import Derived.Test.YtpdaenfglbgfkaaGreatDoorWI5
namespace Go.Proofs.YtpdaenfglbgfkaaGreatDoor
open Go.RL Go.ChangeShapes Go.WideShapes Go.ChangeAt Go.RowKit
set_option maxRecDepth 100000
set_option maxHeartbeats 0
theorem signalSource_lifted (os : Os) (started : os.Started) (H : Type) (enc : TypeId × Value → H) (F : Stop.Interp) :
   ReturnsInLeavingWide Rows.signalSourceRow.assume Tryz.checked os 18 .any (Rows.signalSourceRow.pre enc Tryz.prog Tryz.f18 (OpenSpec.ofChange Rows.signalSourceSpec))
     ((OpenSpec.ofChange Rows.signalSourceSpec).postWith enc Tryz.prog Tryz.f18 F (outsideKept [.timePasses]) false true false) := by
 refine lifted (n := 155) (body := bodyOf Tryz.f18) (a := { calm := true }) Tryz.func18 (by kernel_rfl) Tryz.ntmps18 (by kernel_rfl) (Nat.le_of_ble_eq_true (by kernel_rfl)) (by kernel_rfl) (by kernel_rfl) rfl (fun ds h => ?_) started
   (witness_calm (os := os) (C := Tryz.checked) (enc := enc) (s := Rows.signalSourceSpec) (fn := Tryz.f18) (f := 18) (X := fun w _ => laidMetH Tryz.prog [("baudot/signal.checks", Rows.laid_baudot_signal_checks)] w) (World.doorLaid Tryz.prog 600 os) #[.agg ⟨[.int .i64 0, .int .i64 0, .int .i64 0, .int .i64 0, .int .i64 0, .int .i64 0, .int .i64 0, .int .i64 0]⟩, .int .u8 0, .int .u8 0, .slice none 0 0] 8 rfl (World.shaped_of_RefB (by kernel_rfl) (by kernel_rfl)) (by kernel_rfl) (by kernel_rfl) (by kernel_rfl) (door_met os _)) ?_
 · rw [Tryz.params18] at h
   match ds, h with
   | [a, b, c, d], _ => rfl
 · intro W base vs ds p hlen hval hA hwt hG St hret
   rw [Tryz.params18] at hlen hval hA
   obtain ⟨v0, v1, v2, v3, rfl⟩ : ∃ a b c d, vs = [a, b, c, d] := by
     match vs, hlen with
     | [a, b, c, d], _ => exact ⟨a, b, c, d, rfl⟩
   obtain ⟨k, rfl⟩ := open_link (hval 0 27 v0 rfl rfl)
   obtain ⟨p, rfl, hp⟩ := open_u8 (hval 1 5 v1 rfl rfl)
   obtain ⟨q, rfl, hq⟩ := open_u8 (hval 2 5 v2 rfl rfl)
   obtain ⟨A, l, ca, rfl, hP⟩ := open_picks (hval 3 56 v3 rfl rfl) (trodAll_at hA 3 56 v3 rfl rfl)
   exact Source_w (fullV W) hG k p q hp hq A l l.length ca rfl hP (fun H₀ R L kk hv hle => hret H₀ R L kk (.inr ⟨8, Tryz.results18, hv⟩) hle)
theorem signalSource_closed : joinedFacts Tryz.prog 18 Tryz.f18 Rows.signalSourceSpec Rows.signalSourceRow = true := by
 simp only [joinedFacts, Bool.and_eq_true]
 repeat' apply And.intro
 all_goals (as_aux_lemma => kernel_rfl)
theorem signalSource_named : Tryz.prog.funcNamed "baudot/baudotlaw02.SignalSource" = some 18 := by kernel_rfl
theorem signalSource_holds : Rows.SignalSourceSaid :=
 OpenClaim.holds_of_wide_leaving_time 18 Tryz.f18 rfl rfl rfl rfl rfl rfl rfl ⟨rfl, rfl, rfl, rfl, rfl⟩ rfl rfl rfl rfl rfl signalSource_named Tryz.func18 signalSource_closed
   (of_decide_eq_true (by as_aux_lemma => kernel_rfl)) (by unfold Func.isWrapper; first | (rw [if_pos (by decide +kernel)]; as_aux_lemma => kernel_rfl) | (rw [if_neg (by decide +kernel)]; exact ⟨rfl, rfl⟩))
   (fun os started H enc _ F => signalSource_lifted os started H enc F)
theorem signalSource_card : Rows.SignalSourceCardSaid :=
 holds_tied_goes .later [.funcsDeep] true (true, "1bdebc259c26942bbe0a6287f9ba074a01c796a0568994951edf86afe41756e9") false
   signalSource_holds (by as_aux_lemma => kernel_rfl) signalSource_row_tie rfl ⟨rfl, rfl⟩ (by as_aux_lemma => kernel_rfl) rfl
   (fun f fn hf hfn => by
     obtain rfl : f = 18 := Option.some.inj (signalSource_named.symm.trans hf) |>.symm
     obtain rfl : fn = Tryz.f18 := (Option.some.inj (Tryz.func18.symm.trans hfn)).symm
     exact ⟨by as_aux_lemma => kernel_rfl, no_stand (by rw [Tryz.params18]; as_aux_lemma => kernel_rfl)⟩)
   (by as_aux_lemma => kernel_rfl)
#print axioms signalSource_card
end Go.Proofs.YtpdaenfglbgfkaaGreatDoor
