/-
  signalClaims_card proves the given statement SignalClaimsCardSaid as it stands: from every start that the card describes, on every schedule, the call of SignalClaims ends, answers true and leaves what it was given as it was.
  Conditions: those of the given statement itself, no others.
-/
import Derived.Test.YtpdaenfglbgfkaaGreatDoorZ10
namespace Go.Proofs.YtpdaenfglbgfkaaGreatDoor
open Go.RL Go.ChangeShapes Go.WideShapes Go.ChangeAt Go.RowKit
set_option maxRecDepth 100000
set_option maxHeartbeats 0
theorem signalClaims_lifted(os:Os)(started:os.Started)(H:Type)(enc:TypeId×Value→H)(F:Stop.Interp):
   ReturnsInLeavingWide Rows.signalClaimsRow.assume Tryz.checked os 3 .any (Rows.signalClaimsRow.pre enc Tryz.prog Tryz.f3 (OpenSpec.ofChange Rows.signalClaimsSpec))
     ((OpenSpec.ofChange Rows.signalClaimsSpec).postWith enc Tryz.prog Tryz.f3 F (outsideKept [.timePasses]) false true false):=by
 refine lifted (n:=112) (body:=bodyOf Tryz.f3) (a:= { calm:=true }) Tryz.func3 (by kernel_rfl) Tryz.ntmps3 (by kernel_rfl) (Nat.le_of_ble_eq_true (by kernel_rfl)) (by kernel_rfl) (by kernel_rfl) rfl (fun ds h=> ?_) started
   (witness_calm (os:=os) (C:=Tryz.checked) (enc:=enc) (s:=Rows.signalClaimsSpec) (fn:=Tryz.f3) (f:=3) (X:=fun w _=> laidMetH Tryz.prog [("baudot/signal.checks",Rows.laid_baudot_signal_checks)] w) (World.doorLaid Tryz.prog 600 os) #[.agg ⟨[.int .i64 0,.int .i64 0,.int .i64 0,.int .i64 0,.int .i64 0,.int .i64 0,.int .i64 0,.int .i64 0]⟩,.int .i64 0] 8 rfl (World.shaped_of_RefB (by kernel_rfl) (by kernel_rfl)) (by kernel_rfl) (by kernel_rfl) (by kernel_rfl) (door_met os _)) ?_
 · rw[Tryz.params3] at h
   match ds,h with
   | [a,b],_=> rfl
 · intro W base vs ds p hlen hval hA hwt hG St hret
   rw[Tryz.params3] at hlen hval hA
   obtain⟨v0,v1,rfl⟩:∃a b,vs= [a,b]:=by
     match vs,hlen with
     | [a,b],_=> exact⟨a,b,rfl⟩
   obtain⟨k,rfl⟩:=open_link (hval 0 27 v0 rfl rfl)
   obtain⟨c,rfl⟩:=open_i64 (hval 1 3 v1 rfl rfl)
   exact Claims_w (fullV W) hG k c (fun H₀ R L kk hv hle=> hret H₀ R L kk (.inr ⟨4,Tryz.results3,hv⟩) hle)
theorem signalClaims_closed:joinedFacts Tryz.prog 3 Tryz.f3 Rows.signalClaimsSpec Rows.signalClaimsRow=true:=by
 simp only[joinedFacts,Bool.and_eq_true]
 repeat' apply And.intro
 all_goals (as_aux_lemma=> kernel_rfl)
theorem signalClaims_named:Tryz.prog.funcNamed "baudot/baudotlaw02.SignalClaims"=some 3:=by kernel_rfl
theorem signalClaims_holds:Rows.SignalClaimsSaid:=
 OpenClaim.holds_of_wide_leaving_time 3 Tryz.f3 rfl rfl rfl rfl rfl rfl rfl ⟨rfl,rfl,rfl,rfl,rfl⟩ rfl rfl rfl rfl rfl signalClaims_named Tryz.func3 signalClaims_closed
   (of_decide_eq_true (by as_aux_lemma=> kernel_rfl)) (by unfold Func.isWrapper;rw[if_neg (by decide +kernel)];exact⟨rfl,rfl⟩)
   (fun os started H enc _ F=> signalClaims_lifted os started H enc F)
theorem signalClaims_card:Rows.SignalClaimsCardSaid:=
 holds_tied_goes .later [.funcsDeep] true (true, "1bdebc259c26942bbe0a6287f9ba074a01c796a0568994951edf86afe41756e9") false
   signalClaims_holds (by as_aux_lemma=> kernel_rfl) signalClaims_row_tie rfl ⟨rfl,rfl⟩ (by as_aux_lemma=> kernel_rfl) rfl
   (fun f fn hf hfn=> by
     obtain rfl:f=3:=Option.some.inj (signalClaims_named.symm.trans hf) |>.symm
     obtain rfl:fn=Tryz.f3:=(Option.some.inj (Tryz.func3.symm.trans hfn)).symm
     exact⟨by as_aux_lemma=> kernel_rfl,no_stand (by rw[Tryz.params3];as_aux_lemma=> kernel_rfl)⟩)
   (by as_aux_lemma=> kernel_rfl)
#print axioms signalClaims_card
end Go.Proofs.YtpdaenfglbgfkaaGreatDoor
