/-
  signalShifted_card proves the given statement SignalShiftedCardSaid as it stands: from every start that the card describes, on every schedule, the call of SignalShifted ends, answers true and leaves what it was given as it was.
  Conditions: those of the given statement itself, no others.
-/
import Derived.Test.YtpdaenfglbgfkaaGreatDoorX09
import Derived.Test.YtpdaenfglbgfkaaGreatDoorXR5
import Derived.Test.YtpdaenfglbgfkaaGreatDoorXK6
namespace Go.Proofs.YtpdaenfglbgfkaaGreatDoor
open Go.RL Go.ChangeShapes Go.WideShapes Go.ChangeAt Go.RowKit
set_option maxRecDepth 100000
set_option maxHeartbeats 0
theorem signalShifted_lifted(os:Os)(started:os.Started)(H:Type)(enc:TypeId×Value→H)(F:Stop.Interp):
   ReturnsInLeavingWide Rows.signalShiftedRow.assume Tryz.checked os 13 .any (Rows.signalShiftedRow.pre enc Tryz.prog Tryz.f13 (OpenSpec.ofChange Rows.signalShiftedSpec))
     ((OpenSpec.ofChange Rows.signalShiftedSpec).postWith enc Tryz.prog Tryz.f13 F (outsideKept [.timePasses]) false true false):=by
 refine lifted (n:=151) (body:=bodyOf Tryz.f13) (a:= { calm:=true }) Tryz.func13 (by kernel_rfl) Tryz.ntmps13 (by kernel_rfl) (Nat.le_of_ble_eq_true (by kernel_rfl)) (by kernel_rfl) (by kernel_rfl) rfl (fun ds h=> ?_) started
   (witness_calm (os:=os) (C:=Tryz.checked) (enc:=enc) (s:=Rows.signalShiftedSpec) (fn:=Tryz.f13) (f:=13) (X:=fun w _=> laidMetH Tryz.prog [("baudot/signal.checks",Rows.laid_baudot_signal_checks)] w) (World.doorLaid Tryz.prog 600 os) #[.agg ⟨[.int .i64 0,.int .i64 0,.int .i64 0,.int .i64 0,.int .i64 0,.int .i64 0,.int .i64 0,.int .i64 0]⟩,.int .u8 0,.int .i8 0,.slice none 0 0] 8 rfl (World.shaped_of_RefB (by kernel_rfl) (by kernel_rfl)) (by kernel_rfl) (by kernel_rfl) (by kernel_rfl) (door_met os _)) ?_
 · rw[Tryz.params13] at h
   match ds,h with
   | [a,b,c,d],_=> rfl
 · intro W base vs ds p hlen hval hA hwt hG St hret
   rw[Tryz.params13] at hlen hval hA
   obtain⟨v0,v1,v2,v3,rfl⟩:∃a b c d,vs= [a,b,c,d]:=by
     match vs,hlen with
     | [a,b,c,d],_=> exact⟨a,b,c,d,rfl⟩
   obtain⟨k,rfl⟩:=open_link (hval 0 27 v0 rfl rfl)
   obtain⟨p,rfl,hp⟩:=open_u8 (hval 1 5 v1 rfl rfl)
   obtain⟨q,rfl,hq⟩:=open_i8 (hval 2 90 v2 rfl rfl)
   obtain⟨A,l,ca,rfl,hP⟩:=open_picks (hval 3 56 v3 rfl rfl) (trodAll_at hA 3 56 v3 rfl rfl)
   exact Shifted_w (fullV W) hG k p q hp hq A l l.length ca rfl hP (fun H₀ R L kk hv hle=> hret H₀ R L kk (.inr ⟨8,Tryz.results13,hv⟩) hle)
theorem signalShifted_closed:joinedFacts Tryz.prog 13 Tryz.f13 Rows.signalShiftedSpec Rows.signalShiftedRow=true:=by
 simp only[joinedFacts,Bool.and_eq_true]
 repeat' apply And.intro
 all_goals (as_aux_lemma=> kernel_rfl)
theorem signalShifted_named:Tryz.prog.funcNamed "baudot/baudotlaw02.SignalShifted"=some 13:=by kernel_rfl
theorem signalShifted_holds:Rows.SignalShiftedSaid:=
 OpenClaim.holds_of_wide_leaving_time 13 Tryz.f13 rfl rfl rfl rfl rfl rfl rfl ⟨rfl,rfl,rfl,rfl,rfl⟩ rfl rfl rfl rfl rfl signalShifted_named Tryz.func13 signalShifted_closed
   (of_decide_eq_true (by as_aux_lemma=> kernel_rfl)) (by unfold Func.isWrapper;rw[if_neg (by decide +kernel)];exact⟨rfl,rfl⟩)
   (fun os started H enc _ F=> signalShifted_lifted os started H enc F)
theorem signalShifted_card:Rows.SignalShiftedCardSaid:=
 holds_tied_goes .later [.funcsDeep] true (true, "1bdebc259c26942bbe0a6287f9ba074a01c796a0568994951edf86afe41756e9") false
   signalShifted_holds (by as_aux_lemma=> kernel_rfl) signalShifted_row_tie rfl ⟨rfl,rfl⟩ (by as_aux_lemma=> kernel_rfl) rfl
   (fun f fn hf hfn=> by
     obtain rfl:f=13:=Option.some.inj (signalShifted_named.symm.trans hf) |>.symm
     obtain rfl:fn=Tryz.f13:=(Option.some.inj (Tryz.func13.symm.trans hfn)).symm
     exact⟨by as_aux_lemma=> kernel_rfl,no_stand (by rw[Tryz.params13];as_aux_lemma=> kernel_rfl)⟩)
   (by as_aux_lemma=> kernel_rfl)
#print axioms signalShifted_card
end Go.Proofs.YtpdaenfglbgfkaaGreatDoor
