/-
  signalSpots_card proves the given statement SignalSpotsCardSaid as it stands: from every start that the card describes, on every schedule, the call of SignalSpots ends, answers true and leaves what it was given as it was.
  Conditions: those of the given statement itself, no others.
-/
import Derived.Test.YtpdaenfglbgfkaaGreatDoorW08
import Derived.Test.YtpdaenfglbgfkaaGreatDoorWR3
import Derived.Test.YtpdaenfglbgfkaaGreatDoorWH8
namespace Go.Proofs.YtpdaenfglbgfkaaGreatDoor
open Go.RL Go.ChangeShapes Go.WideShapes Go.ChangeAt Go.RowKit
set_option maxRecDepth 100000
set_option maxHeartbeats 0
theorem signalSpots_lifted (os : Os) (started : os.Started) (H : Type) (enc : TypeId × Value → H) (F : Stop.Interp) :
   ReturnsInLeavingWide Rows.signalSpotsRow.assume Tryz.checked os 10 .any (Rows.signalSpotsRow.pre enc Tryz.prog Tryz.f10 (OpenSpec.ofChange Rows.signalSpotsSpec))
     ((OpenSpec.ofChange Rows.signalSpotsSpec).postWith enc Tryz.prog Tryz.f10 F (outsideKept [.timePasses]) false true false) := by
 refine lifted (n := 97) (body := bodyOf Tryz.f10) (a := { calm := true }) Tryz.func10 (by kernel_rfl) Tryz.ntmps10 (by kernel_rfl) (Nat.le_of_ble_eq_true (by kernel_rfl)) (by kernel_rfl) (by kernel_rfl) rfl (fun ds h => ?_) started
   (witness_calm (os := os) (C := Tryz.checked) (enc := enc) (s := Rows.signalSpotsSpec) (fn := Tryz.f10) (f := 10) (X := fun w _ => laidMetH Tryz.prog [("baudot/signal.checks", Rows.laid_baudot_signal_checks)] w) (World.doorLaid Tryz.prog 600 os) #[.agg ⟨[.int .i64 0, .int .i64 0, .slice none 0 0, .int .i64 0, .int .i64 0, .int .i64 0, .int .i64 0]⟩, .int .u8 0] 8 rfl (World.shaped_of_RefB (by kernel_rfl) (by kernel_rfl)) (by kernel_rfl) (by kernel_rfl) (by kernel_rfl) (door_met os _)) ?_
 · rw [Tryz.params10] at h
   match ds, h with
   | [a, b], _ => rfl
 · intro W base vs ds p hlen hval hA hwt hG St hret
   rw [Tryz.params10] at hlen hval hA
   obtain ⟨v0, v1, rfl⟩ : ∃ a b, vs = [a, b] := by
     match vs, hlen with
     | [a, b], _ => exact ⟨a, b, rfl⟩
   obtain ⟨ch, A, lc, rfl, hm0, hL⟩ := open_chain (hval 0 73 v0 rfl rfl) (trodAll_at hA 0 73 v0 rfl rfl)
   obtain ⟨z, rfl, hz⟩ := open_u8 (hval 1 5 v1 rfl rfl)
   obtain ⟨p, rfl⟩ : ∃ p : Nat, z = (p : Int) := ⟨z.toNat, by omega⟩
   exact Spots_w (fullV W) hG ch hm0 A lc hL p (by omega) (fun H₀ R L kk hv hle => hret H₀ R L kk (.inr ⟨4, Tryz.results10, hv⟩) hle)
theorem signalSpots_closed : joinedFacts Tryz.prog 10 Tryz.f10 Rows.signalSpotsSpec Rows.signalSpotsRow = true := by
 simp only [joinedFacts, Bool.and_eq_true]
 repeat' apply And.intro
 all_goals (as_aux_lemma => kernel_rfl)
theorem signalSpots_named : Tryz.prog.funcNamed "baudot/baudotlaw02.SignalSpots" = some 10 := by kernel_rfl
theorem signalSpots_holds : Rows.SignalSpotsSaid :=
 OpenClaim.holds_of_wide_leaving_time 10 Tryz.f10 rfl rfl rfl rfl rfl rfl rfl ⟨rfl, rfl, rfl, rfl, rfl⟩ rfl rfl rfl rfl rfl signalSpots_named Tryz.func10 signalSpots_closed
   (of_decide_eq_true (by as_aux_lemma => kernel_rfl)) (by unfold Func.isWrapper; rw [if_neg (by decide +kernel)]; exact ⟨rfl, rfl⟩)
   (fun os started H enc _ F => signalSpots_lifted os started H enc F)
theorem signalSpots_card : Rows.SignalSpotsCardSaid :=
 holds_tied_goes .later [.funcsDeep] true (true, "1bdebc259c26942bbe0a6287f9ba074a01c796a0568994951edf86afe41756e9") false
   signalSpots_holds (by as_aux_lemma => kernel_rfl) signalSpots_row_tie rfl ⟨rfl, rfl⟩ (by as_aux_lemma => kernel_rfl) rfl
   (fun f fn hf hfn => by
     obtain rfl : f = 10 := Option.some.inj (signalSpots_named.symm.trans hf) |>.symm
     obtain rfl : fn = Tryz.f10 := (Option.some.inj (Tryz.func10.symm.trans hfn)).symm
     exact ⟨by as_aux_lemma => kernel_rfl, no_stand (by rw [Tryz.params10]; as_aux_lemma => kernel_rfl)⟩)
   (by as_aux_lemma => kernel_rfl)
#print axioms signalSpots_card
end Go.Proofs.YtpdaenfglbgfkaaGreatDoor
