/-
  signalSources_card proves the given statement SignalSourcesCardSaid as it stands: from every start that the card describes, on every schedule, the call of SignalSources ends, answers true and leaves what it was given as it was.
  Conditions: those of the given statement itself, no others.
-/
import Derived.Test.YtpdaenfglbgfkaaGreatDoorY08
namespace Go.Proofs.YtpdaenfglbgfkaaGreatDoor
open Go.RL Go.ChangeShapes Go.WideShapes Go.ChangeAt Go.RowKit
set_option maxRecDepth 100000
set_option maxHeartbeats 0
theorem signalSources_lifted(os:Os)(started:os.Started)(H:Type)(enc:TypeId×Value→H)(F:Stop.Interp):
   ReturnsInLeavingWide Rows.signalSourcesRow.assume Tryz.checked os 8 .any (Rows.signalSourcesRow.pre enc Tryz.prog Tryz.f8 (OpenSpec.ofChange Rows.signalSourcesSpec))
     ((OpenSpec.ofChange Rows.signalSourcesSpec).postWith enc Tryz.prog Tryz.f8 F (outsideKept [.timePasses]) false true false):=by
 refine lifted (n:=86) (body:=bodyOf Tryz.f8) (a:= { calm:=true }) Tryz.func8 (by kernel_rfl) Tryz.ntmps8 (by kernel_rfl) (Nat.le_of_ble_eq_true (by kernel_rfl)) (by kernel_rfl) (by kernel_rfl) rfl (fun ds h=> ?_) started
   (witness_calm (os:=os) (C:=Tryz.checked) (enc:=enc) (s:=Rows.signalSourcesSpec) (fn:=Tryz.f8) (f:=8) (X:=fun w _=> laidMetH Tryz.prog [("baudot/signal.checks",Rows.laid_baudot_signal_checks)] w) (World.doorLaid Tryz.prog 600 os) #[.agg ⟨[.int .i64 0,.int .i64 0,.int .i64 0,.int .i64 0,.int .i64 0,.int .i64 0,.int .i64 0,.int .i64 0]⟩,.int .i64 0,.slice none 0 0] 8 rfl (World.shaped_of_RefB (by kernel_rfl) (by kernel_rfl)) (by kernel_rfl) (by kernel_rfl) (by kernel_rfl) (door_met os _)) ?_
 · rw[Tryz.params8] at h
   match ds,h with
   | [a,b,c],_=> rfl
 · intro W base vs ds p hlen hval hA hwt hG St hret
   rw[Tryz.params8] at hlen hval hA
   obtain⟨v0,v1,v2,rfl⟩:∃a b c,vs= [a,b,c]:=by
     match vs,hlen with
     | [a,b,c],_=> exact⟨a,b,c,rfl⟩
   obtain⟨k,rfl⟩:=open_link (hval 0 27 v0 rfl rfl)
   obtain⟨c,rfl⟩:=open_i64 (hval 1 3 v1 rfl rfl)
   obtain⟨A,l,ca,rfl,hP⟩:=open_nums (hval 2 28 v2 rfl rfl) (trodAll_at hA 2 28 v2 rfl rfl)
   exact Sources_w (fullV W) hG k c A l l.length ca rfl hP (fun H₀ R L kk hv hle=> hret H₀ R L kk (.inr ⟨6,Tryz.results8,hv⟩) hle)
theorem signalSources_closed:joinedFacts Tryz.prog 8 Tryz.f8 Rows.signalSourcesSpec Rows.signalSourcesRow=true:=by
 simp only[joinedFacts,Bool.and_eq_true]
 repeat' apply And.intro
 all_goals (as_aux_lemma=> kernel_rfl)
theorem signalSources_named:Tryz.prog.funcNamed "baudot/baudotlaw02.SignalSources"=some 8:=by kernel_rfl
theorem signalSources_holds:Rows.SignalSourcesSaid:=
 OpenClaim.holds_of_wide_leaving_time 8 Tryz.f8 rfl rfl rfl rfl rfl rfl rfl ⟨rfl,rfl,rfl,rfl,rfl⟩ rfl rfl rfl rfl rfl signalSources_named Tryz.func8 signalSources_closed
   (of_decide_eq_true (by as_aux_lemma=> kernel_rfl)) (by unfold Func.isWrapper;rw[if_neg (by decide +kernel)];exact⟨rfl,rfl⟩)
   (fun os started H enc _ F=> signalSources_lifted os started H enc F)
theorem signalSources_card:Rows.SignalSourcesCardSaid:=
 holds_tied_goes .later [.funcsDeep] true (true, "1bdebc259c26942bbe0a6287f9ba074a01c796a0568994951edf86afe41756e9") false
   signalSources_holds (by as_aux_lemma=> kernel_rfl) signalSources_row_tie rfl ⟨rfl,rfl⟩ (by as_aux_lemma=> kernel_rfl) rfl
   (fun f fn hf hfn=> by
     obtain rfl:f=8:=Option.some.inj (signalSources_named.symm.trans hf) |>.symm
     obtain rfl:fn=Tryz.f8:=(Option.some.inj (Tryz.func8.symm.trans hfn)).symm
     exact⟨by as_aux_lemma=> kernel_rfl,no_stand (by rw[Tryz.params8];as_aux_lemma=> kernel_rfl)⟩)
   (by as_aux_lemma=> kernel_rfl)
#print axioms signalSources_card
end Go.Proofs.YtpdaenfglbgfkaaGreatDoor
