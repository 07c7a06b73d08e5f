/-
  signalNarrower_card proves the given statement SignalNarrowerCardSaid as it stands: from every start that the card describes, on every schedule, the call of SignalNarrower ends, answers true and leaves what it was given as it was.
  Conditions: those of the given statement itself, no others.
-/
import Derived.Test.YtpdaenfglbgfkaaGreatDoorX09
import Derived.Test.YtpdaenfglbgfkaaGreatDoorXR2
import Derived.Test.YtpdaenfglbgfkaaGreatDoorXK4
namespace Go.Proofs.YtpdaenfglbgfkaaGreatDoor
open Go.RL Go.ChangeShapes Go.WideShapes Go.ChangeAt Go.RowKit
set_option maxRecDepth 100000
set_option maxHeartbeats 0
theorem signalNarrower_lifted(os:Os)(started:os.Started)(H:Type)(enc:TypeId×Value→H)(F:Stop.Interp):
   ReturnsInLeavingWide Rows.signalNarrowerRow.assume Tryz.checked os 7 .any (Rows.signalNarrowerRow.pre enc Tryz.prog Tryz.f7 (OpenSpec.ofChange Rows.signalNarrowerSpec))
     ((OpenSpec.ofChange Rows.signalNarrowerSpec).postWith enc Tryz.prog Tryz.f7 F (outsideKept [.timePasses]) false true false):=by
 refine lifted (n:=146) (body:=bodyOf Tryz.f7) (a:= { calm:=true }) Tryz.func7 (by kernel_rfl) Tryz.ntmps7 (by kernel_rfl) (Nat.le_of_ble_eq_true (by kernel_rfl)) (by kernel_rfl) (by kernel_rfl) rfl (fun ds h=> ?_) started
   (witness_calm (os:=os) (C:=Tryz.checked) (enc:=enc) (s:=Rows.signalNarrowerSpec) (fn:=Tryz.f7) (f:=7) (X:=fun w _=> laidMetH Tryz.prog [("baudot/signal.checks",Rows.laid_baudot_signal_checks)] w) (World.doorLaid Tryz.prog 600 os) #[.agg ⟨[.int .i64 0,.int .i64 0,.int .i64 0,.int .i64 0,.int .i64 0,.int .i64 0,.int .i64 0,.int .i64 0]⟩,.int .u8 0,.slice none 0 0] 8 rfl (World.shaped_of_RefB (by kernel_rfl) (by kernel_rfl)) (by kernel_rfl) (by kernel_rfl) (by kernel_rfl) (door_met os _)) ?_
 · rw[Tryz.params7] at h
   match ds,h with
   | [a,b,c],_=> rfl
 · intro W base vs ds p hlen hval hA hwt hG St hret
   rw[Tryz.params7] at hlen hval hA
   obtain⟨v0,v1,v2,rfl⟩:∃a b c,vs= [a,b,c]:=by
     match vs,hlen with
     | [a,b,c],_=> exact⟨a,b,c,rfl⟩
   obtain⟨k,rfl⟩:=open_link (hval 0 27 v0 rfl rfl)
   obtain⟨p,rfl,hp⟩:=open_u8 (hval 1 5 v1 rfl rfl)
   obtain⟨A,l,ca,rfl,hP⟩:=open_picks (hval 2 56 v2 rfl rfl) (trodAll_at hA 2 56 v2 rfl rfl)
   exact Narrower_w (fullV W) hG k p hp A l l.length ca rfl hP (fun H₀ R L kk hv hle=> hret H₀ R L kk (.inr ⟨6,Tryz.results7,hv⟩) hle)
theorem signalNarrower_closed:joinedFacts Tryz.prog 7 Tryz.f7 Rows.signalNarrowerSpec Rows.signalNarrowerRow=true:=by
 simp only[joinedFacts,Bool.and_eq_true]
 repeat' apply And.intro
 all_goals (as_aux_lemma=> kernel_rfl)
theorem signalNarrower_named:Tryz.prog.funcNamed "baudot/baudotlaw02.SignalNarrower"=some 7:=by kernel_rfl
theorem signalNarrower_holds:Rows.SignalNarrowerSaid:=
 OpenClaim.holds_of_wide_leaving_time 7 Tryz.f7 rfl rfl rfl rfl rfl rfl rfl ⟨rfl,rfl,rfl,rfl,rfl⟩ rfl rfl rfl rfl rfl signalNarrower_named Tryz.func7 signalNarrower_closed
   (of_decide_eq_true (by as_aux_lemma=> kernel_rfl)) (by unfold Func.isWrapper;rw[if_neg (by decide +kernel)];exact⟨rfl,rfl⟩)
   (fun os started H enc _ F=> signalNarrower_lifted os started H enc F)
theorem signalNarrower_card:Rows.SignalNarrowerCardSaid:=
 holds_tied_goes .later [.funcsDeep] true (true, "1bdebc259c26942bbe0a6287f9ba074a01c796a0568994951edf86afe41756e9") false
   signalNarrower_holds (by as_aux_lemma=> kernel_rfl) signalNarrower_row_tie rfl ⟨rfl,rfl⟩ (by as_aux_lemma=> kernel_rfl) rfl
   (fun f fn hf hfn=> by
     obtain rfl:f=7:=Option.some.inj (signalNarrower_named.symm.trans hf) |>.symm
     obtain rfl:fn=Tryz.f7:=(Option.some.inj (Tryz.func7.symm.trans hfn)).symm
     exact⟨by as_aux_lemma=> kernel_rfl,no_stand (by rw[Tryz.params7];as_aux_lemma=> kernel_rfl)⟩)
   (by as_aux_lemma=> kernel_rfl)
#print axioms signalNarrower_card
end Go.Proofs.YtpdaenfglbgfkaaGreatDoor
