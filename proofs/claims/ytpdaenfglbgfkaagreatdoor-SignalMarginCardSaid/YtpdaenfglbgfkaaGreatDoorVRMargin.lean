/-
  signalMargin_card proves the given statement SignalMarginCardSaid as it stands: from every start that the card describes, on every schedule, the call of SignalMargin ends, answers true and leaves what it was given as it was.
  Conditions: those of the given statement itself, no others.
-/
import Derived.Test.YtpdaenfglbgfkaaGreatDoorV08
import Derived.Test.YtpdaenfglbgfkaaGreatDoorVR2
import Derived.Test.YtpdaenfglbgfkaaGreatDoorVH3
namespace Go.Proofs.YtpdaenfglbgfkaaGreatDoor
open Go.RL Go.ChangeShapes Go.WideShapes Go.ChangeAt Go.RowKit
set_option maxRecDepth 100000
set_option maxHeartbeats 0
theorem signalMargin_lifted (os : Os) (started : os.Started) (H : Type) (enc : TypeId × Value → H) (F : Stop.Interp) :
    ReturnsInLeavingWide Rows.signalMarginRow.assume Tryz.checked os 16 .any (Rows.signalMarginRow.pre enc Tryz.prog Tryz.f16 (OpenSpec.ofChange Rows.signalMarginSpec))
      ((OpenSpec.ofChange Rows.signalMarginSpec).postWith enc Tryz.prog Tryz.f16 F (outsideKept [.timePasses]) false true false) := by
  refine lifted (n := 86) (body := bodyOf Tryz.f16) (a := { calm := true }) Tryz.func16 (by kernel_rfl) Tryz.ntmps16 (by kernel_rfl) (Nat.le_of_ble_eq_true (by kernel_rfl)) (by kernel_rfl) (by kernel_rfl) rfl (fun ds h => ?_) started
    (witness_calm (os := os) (C := Tryz.checked) (enc := enc) (s := Rows.signalMarginSpec) (fn := Tryz.f16) (f := 16) (X := fun w _ => laidMetH Tryz.prog [("baudot/signal.checks", Rows.laid_baudot_signal_checks)] w) (World.doorLaid Tryz.prog 600 os) #[.agg ⟨[.int .i64 0, .int .i64 0, .int .i64 0, .int .i64 0, .int .i64 0, .int .i64 0, .int .i64 0, .int .i64 0]⟩, .int .u8 0, .int .u8 0, .slice none 0 0] 8 rfl (World.shaped_of_RefB (by kernel_rfl) (by kernel_rfl)) (by kernel_rfl) (by kernel_rfl) (by kernel_rfl) (door_met os _)) ?_
  · rw [Tryz.params16] at h
    match ds, h with
    | [a, b, c, d], _ => rfl
  · intro W base vs ds p hlen hval hA hwt hG St hret
    rw [Tryz.params16] at hlen hval hA
    obtain ⟨v0, v1, v2, v3, rfl⟩ : ∃ a b c d, vs = [a, b, c, d] := by
      match vs, hlen with
      | [a, b, c, d], _ => exact ⟨a, b, c, d, rfl⟩
    obtain ⟨k, rfl⟩ := open_link (hval 0 27 v0 rfl rfl)
    obtain ⟨p, rfl, hp⟩ := open_u8 (hval 1 5 v1 rfl rfl)
    obtain ⟨q, rfl, hq⟩ := open_u8 (hval 2 5 v2 rfl rfl)
    obtain ⟨A, l, ca, rfl, hP⟩ := open_picks (hval 3 56 v3 rfl rfl) (trodAll_at hA 3 56 v3 rfl rfl)
    exact Margin_w (fullV W) hG k p q hp hq A l l.length ca rfl hP (fun H₀ R L kk hv hle => hret H₀ R L kk (.inr ⟨8, Tryz.results16, hv⟩) hle)
theorem signalMargin_closed : joinedFacts Tryz.prog 16 Tryz.f16 Rows.signalMarginSpec Rows.signalMarginRow = true := by
  simp only [joinedFacts, Bool.and_eq_true]
  repeat' apply And.intro
  all_goals (as_aux_lemma => kernel_rfl)
theorem signalMargin_named : Tryz.prog.funcNamed "baudot/baudotlaw02.SignalMargin" = some 16 := by kernel_rfl
theorem signalMargin_holds : Rows.SignalMarginSaid :=
  OpenClaim.holds_of_wide_leaving_time 16 Tryz.f16 rfl rfl rfl rfl rfl rfl rfl ⟨rfl, rfl, rfl, rfl, rfl⟩ rfl rfl rfl rfl rfl signalMargin_named Tryz.func16 signalMargin_closed
    (of_decide_eq_true (by as_aux_lemma => kernel_rfl)) (by unfold Func.isWrapper; rw [if_neg (by decide +kernel)]; exact ⟨rfl, rfl⟩)
    (fun os started H enc _ F => signalMargin_lifted os started H enc F)
theorem signalMargin_card : Rows.SignalMarginCardSaid :=
  holds_tied_goes .later [.funcsDeep] true (true, "1bdebc259c26942bbe0a6287f9ba074a01c796a0568994951edf86afe41756e9") false
    signalMargin_holds (by as_aux_lemma => kernel_rfl) signalMargin_row_tie rfl ⟨rfl, rfl⟩ (by as_aux_lemma => kernel_rfl) rfl
    (fun f fn hf hfn => by
      obtain rfl : f = 16 := Option.some.inj (signalMargin_named.symm.trans hf) |>.symm
      obtain rfl : fn = Tryz.f16 := (Option.some.inj (Tryz.func16.symm.trans hfn)).symm
      exact ⟨by as_aux_lemma => kernel_rfl, no_stand (by rw [Tryz.params16]; as_aux_lemma => kernel_rfl)⟩)
    (by as_aux_lemma => kernel_rfl)
#print axioms signalMargin_card
end Go.Proofs.YtpdaenfglbgfkaaGreatDoor
