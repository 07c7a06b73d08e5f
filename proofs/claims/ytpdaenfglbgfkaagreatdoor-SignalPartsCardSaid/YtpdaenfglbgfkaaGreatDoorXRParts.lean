/-
  signalParts_card proves the given statement SignalPartsCardSaid as it stands: from every start that the card describes, on every schedule, the call of SignalParts ends, answers true and leaves what it was given as it was.
  Conditions: those of the given statement itself, no others.
-/
import Derived.Test.YtpdaenfglbgfkaaGreatDoorX09
import Derived.Test.YtpdaenfglbgfkaaGreatDoorXK8
namespace Go.Proofs.YtpdaenfglbgfkaaGreatDoor
open Go.RL Go.ChangeShapes Go.WideShapes Go.ChangeAt Go.RowKit
set_option maxRecDepth 100000
set_option maxHeartbeats 0
theorem signalParts_lifted(os:Os)(started:os.Started)(H:Type)(enc:TypeId×Value→H)(F:Stop.Interp):
   ReturnsInLeavingWide Rows.signalPartsRow.assume Tryz.checked os 5 .any (Rows.signalPartsRow.pre enc Tryz.prog Tryz.f5 (OpenSpec.ofChange Rows.signalPartsSpec))
     ((OpenSpec.ofChange Rows.signalPartsSpec).postWith enc Tryz.prog Tryz.f5 F (outsideKept [.timePasses]) false true false):=by
 refine lifted (n:=132) (body:=bodyOf Tryz.f5) (a:= { calm:=true }) Tryz.func5 (by kernel_rfl) Tryz.ntmps5 (by kernel_rfl) (Nat.le_of_ble_eq_true (by kernel_rfl)) (by kernel_rfl) (by kernel_rfl) rfl (fun ds h=> ?_) started
   (witness_calm (os:=os) (C:=Tryz.checked) (enc:=enc) (s:=Rows.signalPartsSpec) (fn:=Tryz.f5) (f:=5) (X:=fun w _=> laidMetH Tryz.prog [("baudot/signal.checks",Rows.laid_baudot_signal_checks)] w) (World.doorLaid Tryz.prog 600 os) #[.agg ⟨[.int .i64 0,.int .i64 0,.int .i64 0,.int .i64 0,.int .i64 0,.int .i64 0,.int .i64 0,.int .i64 0]⟩,.int .u8 0] 8 rfl (World.shaped_of_RefB (by kernel_rfl) (by kernel_rfl)) (by kernel_rfl) (by kernel_rfl) (by kernel_rfl) (door_met os _)) ?_
 · rw[Tryz.params5] at h
   match ds,h with
   | [a,b],_=> rfl
 · intro W base vs ds p hlen hval hA hwt hG St hret
   rw[Tryz.params5] at hlen hval hA
   obtain⟨v0,v1,rfl⟩:∃a b,vs= [a,b]:=by
     match vs,hlen with
     | [a,b],_=> exact⟨a,b,rfl⟩
   obtain⟨k,rfl⟩:=open_link (hval 0 27 v0 rfl rfl)
   obtain⟨p,rfl,hp⟩:=open_u8 (hval 1 5 v1 rfl rfl)
   exact Parts_w (fullV W) hG k p hp (fun H₀ R L kk hv hle=> hret H₀ R L kk (.inr ⟨4,Tryz.results5,hv⟩) hle)
theorem signalParts_closed:joinedFacts Tryz.prog 5 Tryz.f5 Rows.signalPartsSpec Rows.signalPartsRow=true:=by
 simp only[joinedFacts,Bool.and_eq_true]
 repeat' apply And.intro
 all_goals (as_aux_lemma=> kernel_rfl)
theorem signalParts_named:Tryz.prog.funcNamed "baudot/baudotlaw02.SignalParts"=some 5:=by kernel_rfl
theorem signalParts_holds:Rows.SignalPartsSaid:=
 OpenClaim.holds_of_wide_leaving_time 5 Tryz.f5 rfl rfl rfl rfl rfl rfl rfl ⟨rfl,rfl,rfl,rfl,rfl⟩ rfl rfl rfl rfl rfl signalParts_named Tryz.func5 signalParts_closed
   (of_decide_eq_true (by as_aux_lemma=> kernel_rfl)) (by unfold Func.isWrapper;rw[if_neg (by decide +kernel)];exact⟨rfl,rfl⟩)
   (fun os started H enc _ F=> signalParts_lifted os started H enc F)
theorem signalParts_card:Rows.SignalPartsCardSaid:=
 holds_tied_goes .later [.funcsDeep] true (true, "1bdebc259c26942bbe0a6287f9ba074a01c796a0568994951edf86afe41756e9") false
   signalParts_holds (by as_aux_lemma=> kernel_rfl) signalParts_row_tie rfl ⟨rfl,rfl⟩ (by as_aux_lemma=> kernel_rfl) rfl
   (fun f fn hf hfn=> by
     obtain rfl:f=5:=Option.some.inj (signalParts_named.symm.trans hf) |>.symm
     obtain rfl:fn=Tryz.f5:=(Option.some.inj (Tryz.func5.symm.trans hfn)).symm
     exact⟨by as_aux_lemma=> kernel_rfl,no_stand (by rw[Tryz.params5];as_aux_lemma=> kernel_rfl)⟩)
   (by as_aux_lemma=> kernel_rfl)
#print axioms signalParts_card
end Go.Proofs.YtpdaenfglbgfkaaGreatDoor
