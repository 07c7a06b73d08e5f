/-
  dialPulses_card proves the given statement DialPulsesCardSaid as it stands: from every start that the card describes, on every schedule, the call of DialPulses ends, answers true and leaves what it was given as it was.
  Conditions: those of the given statement itself, no others.
-/
import Derived.Test.YtdnfdeplcjaonaaGreatDoorH09
namespace Go.Proofs.YtdnfdeplcjaonaaGreatDoor
open Go.RL Go.Proofs.Tryz Go.ChangeShapes Go.WideShapes Go.ChangeAt Go.RowKit
set_option maxRecDepth 100000
set_option maxHeartbeats 0
theorem dialPulses_lifted(os:Os)(started:os.Started)(H:Type)(enc:TypeId×Value→H):
   ReturnsInLeavingWide Rows.dialPulsesRow.assume Tryz.checked os 13 .any (Rows.dialPulsesRow.pre enc prog Tryz.f13 (OpenSpec.ofChange Rows.dialPulsesSpec))
     (Rows.dialPulsesSpec.post enc prog Tryz.f13 false true false false):=by
 refine lifted (n:=99) (body:=bodyOf Tryz.f13) (a:= {}) func13 (by kernel_rfl) ntmps13 (by kernel_rfl) (Nat.le_of_ble_eq_true (by kernel_rfl)) (by kernel_rfl) (by kernel_rfl) rfl (fun ds h=> ?_) started
   (witness_plain (os:=os) (C:=Tryz.checked) (enc:=enc) (s:=Rows.dialPulsesSpec) (fn:=Tryz.f13) (f:=13) (X:=fun w _=> laidMetH prog laidL w) (startW os) #[.string ⟨#[]⟩,.int .i64 0,.slice none 0 0,.int .i64 0,.int .i64 0] 8 (start_os os) (World.shaped_of_ZipB (by kernel_rfl) (by kernel_rfl)) (by kernel_rfl) (by kernel_rfl) (by kernel_rfl) (door_met os _)) ?_
 · rw[Tryz.params13] at h
   match ds,h with
   | [a,b,c,d,e],_=> rfl
 · intro W base vs ds p hlen hval hA hwt hG St hret;rw[Tryz.params13] at hlen hval hA;obtain⟨v0,v1,v2,v3,v4,rfl⟩:∃a b c d e,vs= [a,b,c,d,e]:=by
     match vs,hlen with
     | [a,b,c,d,e],_=> exact⟨a,b,c,d,e,rfl⟩
   obtain⟨s,rfl⟩:=open_str (hval 0 9 v0 rfl rfl);obtain⟨p,rfl,_⟩:=open_int (hval 1 3 v1 rfl rfl);obtain⟨A,nw,wc,w,rfl,hA2⟩:=open_nums (hval 2 26 v2 rfl rfl) (trodAll_at hA 2 26 v2 rfl rfl);obtain⟨digits,rfl,_⟩:=open_int (hval 3 3 v3 rfl rfl);obtain⟨most,rfl,_⟩:=open_int (hval 4 3 v4 rfl rfl);exact Pulses_w (fullV W) hG s p A nw wc w hA2 digits most (fun H₀ R L kk hv hle=> hret H₀ R L kk (.inr ⟨10,results13,hv⟩) hle)
theorem dialPulses_closed:joinedFacts prog 13 Tryz.f13 Rows.dialPulsesSpec Rows.dialPulsesRow=true:=by
 simp only[joinedFacts,Bool.and_eq_true]
 repeat' apply And.intro
 all_goals (as_aux_lemma=> kernel_rfl)
theorem dialPulses_named:prog.funcNamed "baudot/baudotlaw03.DialPulses"=some 13:=by kernel_rfl
theorem dialPulses_holds:Rows.DialPulsesSaid:=
 OpenClaim.holds_of_wide_leaving 13 Tryz.f13 rfl rfl rfl rfl rfl rfl rfl ⟨rfl,rfl,rfl,rfl,rfl⟩ rfl rfl rfl rfl rfl dialPulses_named func13 dialPulses_closed
   (of_decide_eq_true (by as_aux_lemma=> kernel_rfl)) (by unfold Func.isWrapper;first|(rw[if_pos (by decide +kernel)];as_aux_lemma=> kernel_rfl)|(rw[if_neg (by decide +kernel)];exact⟨rfl,rfl⟩))
   (fun os started H enc _=> dialPulses_lifted os started H enc)
theorem dialPulses_card:Rows.DialPulsesCardSaid:=
 holds_tied_goes .later [.data,.data,.data,.data,.data,.funcs,.pinned] true (true, "c97b90e5d6d4e63ca43efbfea10a06e4edb833d053cfb658d244a3fb6c593e3f") false
   dialPulses_holds (by as_aux_lemma=> kernel_rfl) dialPulses_row_tie rfl ⟨rfl,rfl⟩ (by as_aux_lemma=> kernel_rfl) rfl
   (fun f fn hf hfn=> by
     obtain rfl:f=13:=Option.some.inj (dialPulses_named.symm.trans hf) |>.symm;obtain rfl:fn=Tryz.f13:=(Option.some.inj (func13.symm.trans hfn)).symm;exact⟨by as_aux_lemma=> kernel_rfl,no_stand (by rw[Tryz.params13];as_aux_lemma=> kernel_rfl)⟩)
   (by as_aux_lemma=> kernel_rfl)
#print axioms dialPulses_card
end Go.Proofs.YtdnfdeplcjaonaaGreatDoor
