/-
  signalOnly_card proves the given statement SignalOnlyCardSaid as it stands: from every start that the card describes, on every schedule, the call of SignalOnly ends, answers true and leaves what it was given as it was.
  Conditions: those of the given statement itself, no others.
-/
import Derived.Test.YtpdaenfglbgfkaaGreatDoorW08
import Derived.Test.YtpdaenfglbgfkaaGreatDoorWLate
import Derived.Test.YtpdaenfglbgfkaaGreatDoorWR4
namespace Go.Proofs.YtpdaenfglbgfkaaGreatDoor
open Go.RL Go.ChangeShapes Go.WideShapes Go.ChangeAt Go.RowKit
set_option maxRecDepth 100000
set_option maxHeartbeats 0
theorem signalOnly_lifted (os : Os) (started : os.Started) (H : Type) (enc : TypeId × Value → H) (F : Stop.Interp) :
   ReturnsInLeavingWide Rows.signalOnlyRow.assume Tryz.checked os 9 .any (Rows.signalOnlyRow.pre enc Tryz.prog Tryz.f9 (OpenSpec.ofChange Rows.signalOnlySpec))
     ((OpenSpec.ofChange Rows.signalOnlySpec).postWith enc Tryz.prog Tryz.f9 F (outsideKept [.timePasses]) false true false) := by
 refine lifted (n := 117) (body := bodyOf Tryz.f9) (a := { calm := true }) Tryz.func9 (by kernel_rfl) Tryz.ntmps9 (by kernel_rfl) (Nat.le_of_ble_eq_true (by kernel_rfl)) (by kernel_rfl) (by kernel_rfl) rfl (fun ds h => ?_) started
   (witness_calm (os := os) (C := Tryz.checked) (enc := enc) (s := Rows.signalOnlySpec) (fn := Tryz.f9) (f := 9) (X := fun w _ => laidMetH Tryz.prog [("baudot/signal.checks", Rows.laid_baudot_signal_checks)] w) (World.doorLaid Tryz.prog 600 os) #[.agg ⟨[.int .i64 0, .int .i64 0, .int .i64 0, .int .i64 0, .int .i64 0, .int .i64 0, .int .i64 0, .int .i64 0]⟩, .int .u8 0, .slice none 0 0] 8 rfl (World.shaped_of_RefB (by kernel_rfl) (by kernel_rfl)) (by kernel_rfl) (by kernel_rfl) (by kernel_rfl) (door_met os _)) ?_
 · rw [Tryz.params9] at h
   match ds, h with
   | [a, b, c], _ => rfl
 · intro W base vs ds p hlen hval hA hwt hG St hret
   rw [Tryz.params9] at hlen hval hA
   obtain ⟨v0, v1, v2, rfl⟩ : ∃ a b c, vs = [a, b, c] := by
     match vs, hlen with
     | [a, b, c], _ => exact ⟨a, b, c, rfl⟩
   obtain ⟨k, rfl⟩ := open_link (hval 0 27 v0 rfl rfl)
   obtain ⟨p, rfl, hp⟩ := open_u8 (hval 1 5 v1 rfl rfl)
   obtain ⟨A, l, ca, rfl, hP⟩ := open_shorts (hval 2 67 v2 rfl rfl) (trodAll_at hA 2 67 v2 rfl rfl)
   exact Only_w (fullV W) hG k p hp A l l.length ca rfl hP (fun H₀ R L kk hv hle => hret H₀ R L kk (.inr ⟨6, Tryz.results9, hv⟩) hle)
theorem signalOnly_closed : joinedFacts Tryz.prog 9 Tryz.f9 Rows.signalOnlySpec Rows.signalOnlyRow = true := by
 simp only [joinedFacts, Bool.and_eq_true]
 repeat' apply And.intro
 all_goals (as_aux_lemma => kernel_rfl)
theorem signalOnly_named : Tryz.prog.funcNamed "baudot/baudotlaw02.SignalOnly" = some 9 := by kernel_rfl
theorem signalOnly_holds : Rows.SignalOnlySaid :=
 OpenClaim.holds_of_wide_leaving_time 9 Tryz.f9 rfl rfl rfl rfl rfl rfl rfl ⟨rfl, rfl, rfl, rfl, rfl⟩ rfl rfl rfl rfl rfl signalOnly_named Tryz.func9 signalOnly_closed
   (of_decide_eq_true (by as_aux_lemma => kernel_rfl)) (by unfold Func.isWrapper; rw [if_neg (by decide +kernel)]; exact ⟨rfl, rfl⟩)
   (fun os started H enc _ F => signalOnly_lifted os started H enc F)
theorem signalOnly_card : Rows.SignalOnlyCardSaid :=
 holds_tied_goes .later [.funcsDeep] true (true, "1bdebc259c26942bbe0a6287f9ba074a01c796a0568994951edf86afe41756e9") false
   signalOnly_holds (by as_aux_lemma => kernel_rfl) signalOnly_row_tie rfl ⟨rfl, rfl⟩ (by as_aux_lemma => kernel_rfl) rfl
   (fun f fn hf hfn => by
     obtain rfl : f = 9 := Option.some.inj (signalOnly_named.symm.trans hf) |>.symm
     obtain rfl : fn = Tryz.f9 := (Option.some.inj (Tryz.func9.symm.trans hfn)).symm
     exact ⟨by as_aux_lemma => kernel_rfl, no_stand (by rw [Tryz.params9]; as_aux_lemma => kernel_rfl)⟩)
   (by as_aux_lemma => kernel_rfl)
#print axioms signalOnly_card
end Go.Proofs.YtpdaenfglbgfkaaGreatDoor
