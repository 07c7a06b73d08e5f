/-
  signalPasts_card proves the given statement SignalPastsCardSaid as it stands: from every start that the card describes, on every schedule, the call of SignalPasts ends, answers true and leaves what it was given as it was.
  Conditions: those of the given statement itself, no others.
-/
import Derived.Test.YtpdaenfglbgfkaaGreatDoorX08
import Derived.Test.YtpdaenfglbgfkaaGreatDoorXR6
import Derived.Test.YtpdaenfglbgfkaaGreatDoorXO3
namespace Go.Proofs.YtpdaenfglbgfkaaGreatDoor
open Go.RL Go.ChangeShapes Go.WideShapes Go.ChangeAt Go.RowKit
set_option maxRecDepth 100000
set_option maxHeartbeats 0
theorem signalPasts_lifted(os:Os)(started:os.Started)(H:Type)(enc:TypeId×Value→H)(F:Stop.Interp):
   ReturnsInLeavingWide Rows.signalPastsRow.assume Tryz.checked os 20 .any (Rows.signalPastsRow.pre enc Tryz.prog Tryz.f20 (OpenSpec.ofChange Rows.signalPastsSpec))
     ((OpenSpec.ofChange Rows.signalPastsSpec).postWith enc Tryz.prog Tryz.f20 F (outsideKept [.timePasses]) false true false):=by
 refine lifted (n:=100) (body:=bodyOf Tryz.f20) (a:= { calm:=true }) Tryz.func20 (by kernel_rfl) Tryz.ntmps20 (by kernel_rfl) (Nat.le_of_ble_eq_true (by kernel_rfl)) (by kernel_rfl) (by kernel_rfl) rfl (fun ds h=> ?_) started
   (witness_calm (os:=os) (C:=Tryz.checked) (enc:=enc) (s:=Rows.signalPastsSpec) (fn:=Tryz.f20) (f:=20) (X:=fun w _=> laidMetH Tryz.prog [("baudot/signal.checks",Rows.laid_baudot_signal_checks)] w) (World.doorLaid Tryz.prog 600 os) #[.agg ⟨[.int .i64 0,.int .i64 0,.int .i64 0,.int .i64 0,.int .i64 0,.int .i64 0,.int .i64 0,.int .i64 0]⟩,.int .i64 0,.agg ⟨[.int .i64 0,.int .i64 0,.int .i64 0,.slice none 0 0]⟩] 8 rfl (World.shaped_of_RefB (by kernel_rfl) (by kernel_rfl)) (by kernel_rfl) (by kernel_rfl) (by kernel_rfl) (door_met os _)) ?_
 · rw[Tryz.params20] at h
   match ds,h with
   | [a,b,c],_=> rfl
 · intro W base vs ds p hlen hval hA hwt hG St hret
   rw[Tryz.params20] at hlen hval hA
   obtain⟨v0,v1,v2,rfl⟩:∃a b c,vs= [a,b,c]:=by
     match vs,hlen with
     | [a,b,c],_=> exact⟨a,b,c,rfl⟩
   obtain⟨k,rfl⟩:=open_link (hval 0 27 v0 rfl rfl)
   obtain⟨c,rfl⟩:=open_i64 (hval 1 3 v1 rfl rfl)
   obtain⟨a,r,n,A,l,ca,rfl,hP⟩:=open_past (hval 2 39 v2 rfl rfl) (trodAll_at hA 2 39 v2 rfl rfl)
   exact Pasts_w (fullV W) hG k c a r n A l l.length ca rfl hP (fun H₀ R L kk hv hle=> hret H₀ R L kk (.inr ⟨6,Tryz.results20,hv⟩) hle)
theorem signalPasts_closed:joinedFacts Tryz.prog 20 Tryz.f20 Rows.signalPastsSpec Rows.signalPastsRow=true:=by
 simp only[joinedFacts,Bool.and_eq_true]
 repeat' apply And.intro
 all_goals (as_aux_lemma=> kernel_rfl)
theorem signalPasts_named:Tryz.prog.funcNamed "baudot/baudotlaw02.SignalPasts"=some 20:=by kernel_rfl
theorem signalPasts_holds:Rows.SignalPastsSaid:=
 OpenClaim.holds_of_wide_leaving_time 20 Tryz.f20 rfl rfl rfl rfl rfl rfl rfl ⟨rfl,rfl,rfl,rfl,rfl⟩ rfl rfl rfl rfl rfl signalPasts_named Tryz.func20 signalPasts_closed
   (of_decide_eq_true (by as_aux_lemma=> kernel_rfl)) (by unfold Func.isWrapper;rw[if_neg (by decide +kernel)];exact⟨rfl,rfl⟩)
   (fun os started H enc _ F=> signalPasts_lifted os started H enc F)
theorem signalPasts_card:Rows.SignalPastsCardSaid:=
 holds_tied_goes .later [.funcsDeep] true (true, "1bdebc259c26942bbe0a6287f9ba074a01c796a0568994951edf86afe41756e9") false
   signalPasts_holds (by as_aux_lemma=> kernel_rfl) signalPasts_row_tie rfl ⟨rfl,rfl⟩ (by as_aux_lemma=> kernel_rfl) rfl
   (fun f fn hf hfn=> by
     obtain rfl:f=20:=Option.some.inj (signalPasts_named.symm.trans hf) |>.symm
     obtain rfl:fn=Tryz.f20:=(Option.some.inj (Tryz.func20.symm.trans hfn)).symm
     exact⟨by as_aux_lemma=> kernel_rfl,no_stand (by rw[Tryz.params20];as_aux_lemma=> kernel_rfl)⟩)
   (by as_aux_lemma=> kernel_rfl)
#print axioms signalPasts_card
end Go.Proofs.YtpdaenfglbgfkaaGreatDoor
