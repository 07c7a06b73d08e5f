/-
  signalChains_card proves the given statement SignalChainsCardSaid as it stands: from every start that the card describes, on every schedule, the call of SignalChains ends, answers true and leaves what it was given as it was.
  Conditions: those of the given statement itself, no others.
-/
import Derived.Test.YtpdaenfglbgfkaaGreatDoorT09
namespace Go.Proofs.YtpdaenfglbgfkaaGreatDoor
open Go.RL Go.ChangeShapes Go.WideShapes Go.ChangeAt Go.RowKit
set_option maxRecDepth 100000
set_option maxHeartbeats 0
theorem signalChains_lifted(os:Os)(started:os.Started)(H:Type)(enc:TypeId×Value→H)(F:Stop.Interp):
   ReturnsInLeavingWide Rows.signalChainsRow.assume Tryz.checked os 12 .any (Rows.signalChainsRow.pre enc Tryz.prog Tryz.f12 (OpenSpec.ofChange Rows.signalChainsSpec))
     ((OpenSpec.ofChange Rows.signalChainsSpec).postWith enc Tryz.prog Tryz.f12 F (outsideKept [.timePasses]) false true false):=by
 refine lifted (n:=159) (body:=bodyOf Tryz.f12) (a:= { calm:=true }) Tryz.func12 (by kernel_rfl) Tryz.ntmps12 (by kernel_rfl) (Nat.le_of_ble_eq_true (by kernel_rfl)) (by kernel_rfl) (by kernel_rfl) rfl (fun ds h=> ?_) started
   (witness_calm (os:=os) (C:=Tryz.checked) (enc:=enc) (s:=Rows.signalChainsSpec) (fn:=Tryz.f12) (f:=12) (X:=fun w _=> laidMetH Tryz.prog [("baudot/signal.checks",Rows.laid_baudot_signal_checks)] w) (World.doorLaid Tryz.prog 600 os) #[.agg ⟨[.int .i64 0,.int .i64 0,.slice none 0 0,.int .i64 0,.int .i64 0,.int .i64 0,.int .i64 0]⟩,.slice none 0 0,.int .i64 0] 8 rfl (World.shaped_of_RefB (by kernel_rfl) (by kernel_rfl)) (by kernel_rfl) (by kernel_rfl) (by kernel_rfl) (door_met os _)) ?_
 · rw[Tryz.params12] at h
   match ds,h with
   | [a,b,c],_=> rfl
 · intro W base vs ds p hlen hval hA hwt hG St hret
   rw[Tryz.params12] at hlen hval hA
   obtain⟨v0,v1,v2,rfl⟩:∃a b c,vs= [a,b,c]:=by
     match vs,hlen with
     | [a,b,c],_=> exact⟨a,b,c,rfl⟩
   obtain⟨ch,A,lc,rfl,hm0,hL⟩:=open_chain (hval 0 73 v0 rfl rfl) (trodAll_at hA 0 73 v0 rfl rfl)
   obtain⟨B,l,ca,rfl,hP⟩:=open_nums (hval 1 28 v1 rfl rfl) (trodAll_at hA 1 28 v1 rfl rfl)
   obtain⟨i,rfl⟩:=open_i64 (hval 2 3 v2 rfl rfl)
   exact Chains_w (fullV W) hG ch hm0 A lc hL l B l.length ca rfl hP i (fun H₀ R L kk hv hle=> hret H₀ R L kk (.inr ⟨6,Tryz.results12,hv⟩) hle)
theorem signalChains_closed:joinedFacts Tryz.prog 12 Tryz.f12 Rows.signalChainsSpec Rows.signalChainsRow=true:=by
 simp only[joinedFacts,Bool.and_eq_true]
 repeat' apply And.intro
 all_goals (as_aux_lemma=> kernel_rfl)
theorem signalChains_named:Tryz.prog.funcNamed "baudot/baudotlaw02.SignalChains"=some 12:=by kernel_rfl
theorem signalChains_holds:Rows.SignalChainsSaid:=
 OpenClaim.holds_of_wide_leaving_time 12 Tryz.f12 rfl rfl rfl rfl rfl rfl rfl ⟨rfl,rfl,rfl,rfl,rfl⟩ rfl rfl rfl rfl rfl signalChains_named Tryz.func12 signalChains_closed
   (of_decide_eq_true (by as_aux_lemma=> kernel_rfl)) (by unfold Func.isWrapper;rw[if_neg (by decide +kernel)];exact⟨rfl,rfl⟩)
   (fun os started H enc _ F=> signalChains_lifted os started H enc F)
theorem signalChains_card:Rows.SignalChainsCardSaid:=
 holds_tied_goes .later [.funcsDeep] true (true, "1bdebc259c26942bbe0a6287f9ba074a01c796a0568994951edf86afe41756e9") false
   signalChains_holds (by as_aux_lemma=> kernel_rfl) signalChains_row_tie rfl ⟨rfl,rfl⟩ (by as_aux_lemma=> kernel_rfl) rfl
   (fun f fn hf hfn=> by
     obtain rfl:f=12:=Option.some.inj (signalChains_named.symm.trans hf) |>.symm
     obtain rfl:fn=Tryz.f12:=(Option.some.inj (Tryz.func12.symm.trans hfn)).symm
     exact⟨by as_aux_lemma=> kernel_rfl,no_stand (by rw[Tryz.params12];as_aux_lemma=> kernel_rfl)⟩)
   (by as_aux_lemma=> kernel_rfl)
#print axioms signalChains_card
end Go.Proofs.YtpdaenfglbgfkaaGreatDoor
