/-
  signalHolds_card proves the given statement SignalHoldsCardSaid as it stands: from every start that the card describes, on every schedule, the call of SignalHolds ends, answers true and leaves what it was given as it was.
  Conditions: those of the given statement itself, no others.
-/
import Derived.Test.YtpdaenfglbgfkaaGreatDoorW08
import Derived.Test.YtpdaenfglbgfkaaGreatDoorWR3
import Derived.Test.YtpdaenfglbgfkaaGreatDoorWH7
namespace Go.Proofs.YtpdaenfglbgfkaaGreatDoor
open Go.RL Go.ChangeShapes Go.WideShapes Go.ChangeAt Go.RowKit
set_option maxRecDepth 100000
set_option maxHeartbeats 0
theorem signalHolds_lifted (os : Os) (started : os.Started) (H : Type) (enc : TypeId × Value → H) (F : Stop.Interp) :
   ReturnsInLeavingWide Rows.signalHoldsRow.assume Tryz.checked os 11 .any (Rows.signalHoldsRow.pre enc Tryz.prog Tryz.f11 (OpenSpec.ofChange Rows.signalHoldsSpec))
     ((OpenSpec.ofChange Rows.signalHoldsSpec).postWith enc Tryz.prog Tryz.f11 F (outsideKept [.timePasses]) false true false) := by
 refine lifted (n := 151) (body := bodyOf Tryz.f11) (a := { calm := true }) Tryz.func11 (by kernel_rfl) Tryz.ntmps11 (by kernel_rfl) (Nat.le_of_ble_eq_true (by kernel_rfl)) (by kernel_rfl) (by kernel_rfl) rfl (fun ds h => ?_) started
   (witness_calm (os := os) (C := Tryz.checked) (enc := enc) (s := Rows.signalHoldsSpec) (fn := Tryz.f11) (f := 11) (X := fun w _ => laidMetH Tryz.prog [("baudot/signal.checks", Rows.laid_baudot_signal_checks)] w) (World.doorLaid Tryz.prog 600 os) #[.agg ⟨[.int .i64 0, .int .i64 0, .slice none 0 0, .int .i64 0, .int .i64 0, .int .i64 0, .int .i64 0]⟩, .int .u8 0] 8 rfl (World.shaped_of_RefB (by kernel_rfl) (by kernel_rfl)) (by kernel_rfl) (by kernel_rfl) (by kernel_rfl) (door_met os _)) ?_
 · rw [Tryz.params11] at h
   match ds, h with
   | [a, b], _ => rfl
 · intro W base vs ds p hlen hval hA hwt hG St hret
   rw [Tryz.params11] at hlen hval hA
   obtain ⟨v0, v1, rfl⟩ : ∃ a b, vs = [a, b] := by
     match vs, hlen with
     | [a, b], _ => exact ⟨a, b, rfl⟩
   obtain ⟨ch, A, lc, rfl, hm0, hL⟩ := open_chain (hval 0 73 v0 rfl rfl) (trodAll_at hA 0 73 v0 rfl rfl)
   obtain ⟨z, rfl, hz⟩ := open_u8 (hval 1 5 v1 rfl rfl)
   obtain ⟨p, rfl⟩ : ∃ p : Nat, z = (p : Int) := ⟨z.toNat, by omega⟩
   exact Holds_w (fullV W) hG ch hm0 A lc hL p (by omega) (fun H₀ R L kk hv hle => hret H₀ R L kk (.inr ⟨4, Tryz.results11, hv⟩) hle)
theorem signalHolds_closed : joinedFacts Tryz.prog 11 Tryz.f11 Rows.signalHoldsSpec Rows.signalHoldsRow = true := by
 simp only [joinedFacts, Bool.and_eq_true]
 repeat' apply And.intro
 all_goals (as_aux_lemma => kernel_rfl)
theorem signalHolds_named : Tryz.prog.funcNamed "baudot/baudotlaw02.SignalHolds" = some 11 := by kernel_rfl
theorem signalHolds_holds : Rows.SignalHoldsSaid :=
 OpenClaim.holds_of_wide_leaving_time 11 Tryz.f11 rfl rfl rfl rfl rfl rfl rfl ⟨rfl, rfl, rfl, rfl, rfl⟩ rfl rfl rfl rfl rfl signalHolds_named Tryz.func11 signalHolds_closed
   (of_decide_eq_true (by as_aux_lemma => kernel_rfl)) (by unfold Func.isWrapper; rw [if_neg (by decide +kernel)]; exact ⟨rfl, rfl⟩)
   (fun os started H enc _ F => signalHolds_lifted os started H enc F)
theorem signalHolds_card : Rows.SignalHoldsCardSaid :=
 holds_tied_goes .later [.funcsDeep] true (true, "1bdebc259c26942bbe0a6287f9ba074a01c796a0568994951edf86afe41756e9") false
   signalHolds_holds (by as_aux_lemma => kernel_rfl) signalHolds_row_tie rfl ⟨rfl, rfl⟩ (by as_aux_lemma => kernel_rfl) rfl
   (fun f fn hf hfn => by
     obtain rfl : f = 11 := Option.some.inj (signalHolds_named.symm.trans hf) |>.symm
     obtain rfl : fn = Tryz.f11 := (Option.some.inj (Tryz.func11.symm.trans hfn)).symm
     exact ⟨by as_aux_lemma => kernel_rfl, no_stand (by rw [Tryz.params11]; as_aux_lemma => kernel_rfl)⟩)
   (by as_aux_lemma => kernel_rfl)
#print axioms signalHolds_card
end Go.Proofs.YtpdaenfglbgfkaaGreatDoor
