/-
  signalMargins_card proves the given statement SignalMarginsCardSaid as it stands: from every start that the card describes, on every schedule, the call of SignalMargins ends, answers true and leaves what it was given as it was.
  Conditions: those of the given statement itself, no others.
-/
import Derived.Test.YtpdaenfglbgfkaaGreatDoorX08
import Derived.Test.YtpdaenfglbgfkaaGreatDoorXN1
namespace Go.Proofs.YtpdaenfglbgfkaaGreatDoor
open Go.RL Go.ChangeShapes Go.WideShapes Go.ChangeAt Go.RowKit
set_option maxRecDepth 100000
set_option maxHeartbeats 0
theorem signalMargins_lifted(os:Os)(started:os.Started)(H:Type)(enc:TypeId×Value→H)(F:Stop.Interp):
   ReturnsInLeavingWide Rows.signalMarginsRow.assume Tryz.checked os 4 .any (Rows.signalMarginsRow.pre enc Tryz.prog Tryz.f4 (OpenSpec.ofChange Rows.signalMarginsSpec))
     ((OpenSpec.ofChange Rows.signalMarginsSpec).postWith enc Tryz.prog Tryz.f4 F (outsideKept [.timePasses]) false true false):=by
 refine lifted (n:=48) (body:=bodyOf Tryz.f4) (a:= { calm:=true }) Tryz.func4 (by kernel_rfl) Tryz.ntmps4 (by kernel_rfl) (Nat.le_of_ble_eq_true (by kernel_rfl)) (by kernel_rfl) (by kernel_rfl) rfl (fun ds h=> ?_) started
   (witness_calm (os:=os) (C:=Tryz.checked) (enc:=enc) (s:=Rows.signalMarginsSpec) (fn:=Tryz.f4) (f:=4) (X:=fun w _=> laidMetH Tryz.prog [("baudot/signal.checks",Rows.laid_baudot_signal_checks)] w) (World.doorLaid Tryz.prog 600 os) #[.agg ⟨[.int .i64 0,.int .i64 0,.int .i64 0,.int .i64 0,.int .i64 0,.int .i64 0,.int .i64 0,.int .i64 0]⟩] 8 rfl (World.shaped_of_RefB (by kernel_rfl) (by kernel_rfl)) (by kernel_rfl) (by kernel_rfl) (by kernel_rfl) (door_met os _)) ?_
 · rw[Tryz.params4] at h
   match ds,h with
   | [a],_=> rfl
 · intro W base vs ds p hlen hval hA hwt hG St hret
   rw[Tryz.params4] at hlen hval hA
   obtain⟨v0,rfl⟩:∃a,vs= [a]:=by
     match vs,hlen with
     | [a],_=> exact⟨a,rfl⟩
   obtain⟨k,rfl⟩:=open_link (hval 0 27 v0 rfl rfl)
   exact Margins_w (fullV W) hG k (fun H₀ R L kk hv hle=> hret H₀ R L kk (.inr ⟨2,Tryz.results4,hv⟩) hle)
theorem signalMargins_closed:joinedFacts Tryz.prog 4 Tryz.f4 Rows.signalMarginsSpec Rows.signalMarginsRow=true:=by
 simp only[joinedFacts,Bool.and_eq_true]
 repeat' apply And.intro
 all_goals (as_aux_lemma=> kernel_rfl)
theorem signalMargins_named:Tryz.prog.funcNamed "baudot/baudotlaw02.SignalMargins"=some 4:=by kernel_rfl
theorem signalMargins_holds:Rows.SignalMarginsSaid:=
 OpenClaim.holds_of_wide_leaving_time 4 Tryz.f4 rfl rfl rfl rfl rfl rfl rfl ⟨rfl,rfl,rfl,rfl,rfl⟩ rfl rfl rfl rfl rfl signalMargins_named Tryz.func4 signalMargins_closed
   (of_decide_eq_true (by as_aux_lemma=> kernel_rfl)) (by unfold Func.isWrapper;rw[if_neg (by decide +kernel)];exact⟨rfl,rfl⟩)
   (fun os started H enc _ F=> signalMargins_lifted os started H enc F)
theorem signalMargins_card:Rows.SignalMarginsCardSaid:=
 holds_tied_goes .later [.funcsDeep] true (true, "1bdebc259c26942bbe0a6287f9ba074a01c796a0568994951edf86afe41756e9") false
   signalMargins_holds (by as_aux_lemma=> kernel_rfl) signalMargins_row_tie rfl ⟨rfl,rfl⟩ (by as_aux_lemma=> kernel_rfl) rfl
   (fun f fn hf hfn=> by
     obtain rfl:f=4:=Option.some.inj (signalMargins_named.symm.trans hf) |>.symm
     obtain rfl:fn=Tryz.f4:=(Option.some.inj (Tryz.func4.symm.trans hfn)).symm
     exact⟨by as_aux_lemma=> kernel_rfl,no_stand (by rw[Tryz.params4];as_aux_lemma=> kernel_rfl)⟩)
   (by as_aux_lemma=> kernel_rfl)
#print axioms signalMargins_card
end Go.Proofs.YtpdaenfglbgfkaaGreatDoor
