/-
  signalReal_card proves the given statement SignalRealCardSaid as it stands: from every start that the card describes, on every schedule, the call of SignalReal ends, answers true and leaves what it was given as it was.
  Conditions: those of the given statement itself, no others.
-/
import Derived.Test.YtpdaenfglbgfkaaGreatDoorX09
import Derived.Test.YtpdaenfglbgfkaaGreatDoorXR2
namespace Go.Proofs.YtpdaenfglbgfkaaGreatDoor
open Go.RL Go.ChangeShapes Go.WideShapes Go.ChangeAt Go.RowKit
set_option maxRecDepth 100000
set_option maxHeartbeats 0
theorem signalReal_lifted(os:Os)(started:os.Started)(H:Type)(enc:TypeId×Value→H)(F:Stop.Interp):
   ReturnsInLeavingWide Rows.signalRealRow.assume Tryz.checked os 14 .any (Rows.signalRealRow.pre enc Tryz.prog Tryz.f14 (OpenSpec.ofChange Rows.signalRealSpec))
     ((OpenSpec.ofChange Rows.signalRealSpec).postWith enc Tryz.prog Tryz.f14 F (outsideKept [.timePasses]) false true false):=by
 refine lifted (n:=129) (body:=bodyOf Tryz.f14) (a:= { calm:=true }) Tryz.func14 (by kernel_rfl) Tryz.ntmps14 (by kernel_rfl) (Nat.le_of_ble_eq_true (by kernel_rfl)) (by kernel_rfl) (by kernel_rfl) rfl (fun ds h=> ?_) started
   (witness_calm (os:=os) (C:=Tryz.checked) (enc:=enc) (s:=Rows.signalRealSpec) (fn:=Tryz.f14) (f:=14) (X:=fun w _=> laidMetH Tryz.prog [("baudot/signal.checks",Rows.laid_baudot_signal_checks)] w) (World.doorLaid Tryz.prog 600 os) #[.agg ⟨[.int .i64 0,.int .i64 0,.int .i64 0,.int .i64 0,.int .i64 0,.int .i64 0,.int .i64 0,.int .i64 0]⟩,.int .u8 0,.slice none 0 0] 8 rfl (World.shaped_of_RefB (by kernel_rfl) (by kernel_rfl)) (by kernel_rfl) (by kernel_rfl) (by kernel_rfl) (door_met os _)) ?_
 · rw[Tryz.params14] at h
   match ds,h with
   | [a,b,c],_=> rfl
 · intro W base vs ds p hlen hval hA hwt hG St hret
   rw[Tryz.params14] at hlen hval hA
   obtain⟨v0,v1,v2,rfl⟩:∃a b c,vs= [a,b,c]:=by
     match vs,hlen with
     | [a,b,c],_=> exact⟨a,b,c,rfl⟩
   obtain⟨k,rfl⟩:=open_link (hval 0 27 v0 rfl rfl)
   obtain⟨p,rfl,hp⟩:=open_u8 (hval 1 5 v1 rfl rfl)
   obtain⟨A,l,ca,rfl,hP⟩:=open_picks (hval 2 56 v2 rfl rfl) (trodAll_at hA 2 56 v2 rfl rfl)
   exact Real_w (fullV W) hG k p hp A l l.length ca rfl hP (fun H₀ R L kk hv hle=> hret H₀ R L kk (.inr ⟨6,Tryz.results14,hv⟩) hle)
theorem signalReal_closed:joinedFacts Tryz.prog 14 Tryz.f14 Rows.signalRealSpec Rows.signalRealRow=true:=by
 simp only[joinedFacts,Bool.and_eq_true]
 repeat' apply And.intro
 all_goals (as_aux_lemma=> kernel_rfl)
theorem signalReal_named:Tryz.prog.funcNamed "baudot/baudotlaw02.SignalReal"=some 14:=by kernel_rfl
theorem signalReal_holds:Rows.SignalRealSaid:=
 OpenClaim.holds_of_wide_leaving_time 14 Tryz.f14 rfl rfl rfl rfl rfl rfl rfl ⟨rfl,rfl,rfl,rfl,rfl⟩ rfl rfl rfl rfl rfl signalReal_named Tryz.func14 signalReal_closed
   (of_decide_eq_true (by as_aux_lemma=> kernel_rfl)) (by unfold Func.isWrapper;rw[if_neg (by decide +kernel)];exact⟨rfl,rfl⟩)
   (fun os started H enc _ F=> signalReal_lifted os started H enc F)
theorem signalReal_card:Rows.SignalRealCardSaid:=
 holds_tied_goes .later [.funcsDeep] true (true, "1bdebc259c26942bbe0a6287f9ba074a01c796a0568994951edf86afe41756e9") false
   signalReal_holds (by as_aux_lemma=> kernel_rfl) signalReal_row_tie rfl ⟨rfl,rfl⟩ (by as_aux_lemma=> kernel_rfl) rfl
   (fun f fn hf hfn=> by
     obtain rfl:f=14:=Option.some.inj (signalReal_named.symm.trans hf) |>.symm
     obtain rfl:fn=Tryz.f14:=(Option.some.inj (Tryz.func14.symm.trans hfn)).symm
     exact⟨by as_aux_lemma=> kernel_rfl,no_stand (by rw[Tryz.params14];as_aux_lemma=> kernel_rfl)⟩)
   (by as_aux_lemma=> kernel_rfl)
#print axioms signalReal_card
end Go.Proofs.YtpdaenfglbgfkaaGreatDoor
