/-
  dialCalls_card proves the given statement DialCallsCardSaid as it stands: from every start that the card describes, on every schedule, the call of DialCalls ends, answers true and leaves what it was given as it was.
  Conditions: those of the given statement itself, no others.
-/
import Derived.Test.YtdnfdeplcjaonaaGreatDoorQ09
namespace Go.Proofs.YtdnfdeplcjaonaaGreatDoor
open Go.RL Go.Proofs.Tryz Go.ChangeShapes Go.WideShapes Go.ChangeAt Go.RowKit
set_option maxRecDepth 100000
set_option maxHeartbeats 0
theorem dialCalls_lifted(os:Os)(started:os.Started)(H:Type)(enc:TypeId×Value→H):
   ReturnsInLeavingWide Rows.dialCallsRow.assume Tryz.checked os 3 .any (Rows.dialCallsRow.pre enc prog Tryz.f3 (OpenSpec.ofChange Rows.dialCallsSpec))
     (Rows.dialCallsSpec.post enc prog Tryz.f3 false true false false):=by
 refine lifted (n:=145) (body:=bodyOf Tryz.f3) (a:= {}) func3 (by kernel_rfl) ntmps3 (by kernel_rfl) (Nat.le_of_ble_eq_true (by kernel_rfl)) (by kernel_rfl) (by kernel_rfl) rfl (fun ds h=> ?_) started
   (witness_plain (os:=os) (C:=Tryz.checked) (enc:=enc) (s:=Rows.dialCallsSpec) (fn:=Tryz.f3) (f:=3) (X:=fun w _=> laidMetH prog laidL w) (startW os) #[.agg ⟨[.int .i64 0,.int .i64 0,.slice none 0 0,.slice none 0 0]⟩,.slice none 0 0,.slice none 0 0,.int .i64 0] 8 (start_os os) (World.shaped_of_ZipB (by kernel_rfl) (by kernel_rfl)) (by kernel_rfl) (by kernel_rfl) (by kernel_rfl) (door_met os _)) ?_
 · rw[Tryz.params3] at h
   match ds,h with
   | [a,b,c,d],_=> rfl
 · intro W base vs ds p hlen hval hA hwt hG St hret;rw[Tryz.params3] at hlen hval hA;obtain⟨v0,v1,v2,v3,rfl⟩:∃a b c d,vs= [a,b,c,d]:=by
     match vs,hlen with
     | [a,b,c,d],_=> exact⟨a,b,c,d,rfl⟩
   obtain⟨k,A,lc,B,tc,rfl,hk⟩:=open_book (hval 0 25 v0 rfl rfl) (trodAll_at hA 0 25 v0 rfl rfl);obtain⟨P,np,pc,p,rfl,hP⟩:=open_nums (hval 1 26 v1 rfl rfl) (trodAll_at hA 1 26 v1 rfl rfl);obtain⟨Q0,nq,qc,q,rfl,hQ⟩:=open_nums (hval 2 26 v2 rfl rfl) (trodAll_at hA 2 26 v2 rfl rfl);obtain⟨line,rfl,_⟩:=open_int (hval 3 3 v3 rfl rfl);exact Calls_w (fullV W) hG k A lc B tc hk P Q0 np nq pc qc p q hP hQ line (fun H₀ R L kk hv hle=> hret H₀ R L kk (.inr ⟨8,results3,hv⟩) hle)
theorem dialCalls_closed:joinedFacts prog 3 Tryz.f3 Rows.dialCallsSpec Rows.dialCallsRow=true:=by
 simp only[joinedFacts,Bool.and_eq_true]
 repeat' apply And.intro
 all_goals (as_aux_lemma=> kernel_rfl)
theorem dialCalls_named:prog.funcNamed "baudot/baudotlaw03.DialCalls"=some 3:=by kernel_rfl
theorem dialCalls_holds:Rows.DialCallsSaid:=
 OpenClaim.holds_of_wide_leaving 3 Tryz.f3 rfl rfl rfl rfl rfl rfl rfl ⟨rfl,rfl,rfl,rfl,rfl⟩ rfl rfl rfl rfl rfl dialCalls_named func3 dialCalls_closed
   (of_decide_eq_true (by as_aux_lemma=> kernel_rfl)) (by unfold Func.isWrapper;first|(rw[if_pos (by decide +kernel)];as_aux_lemma=> kernel_rfl)|(rw[if_neg (by decide +kernel)];exact⟨rfl,rfl⟩))
   (fun os started H enc _=> dialCalls_lifted os started H enc)
theorem dialCalls_card:Rows.DialCallsCardSaid:=
 holds_tied_goes .later [.data,.data,.data,.data,.data,.funcs,.pinned] true (true, "c97b90e5d6d4e63ca43efbfea10a06e4edb833d053cfb658d244a3fb6c593e3f") false
   dialCalls_holds (by as_aux_lemma=> kernel_rfl) dialCalls_row_tie rfl ⟨rfl,rfl⟩ (by as_aux_lemma=> kernel_rfl) rfl
   (fun f fn hf hfn=> by
     obtain rfl:f=3:=Option.some.inj (dialCalls_named.symm.trans hf) |>.symm;obtain rfl:fn=Tryz.f3:=(Option.some.inj (func3.symm.trans hfn)).symm;exact⟨by as_aux_lemma=> kernel_rfl,no_stand (by rw[Tryz.params3];as_aux_lemma=> kernel_rfl)⟩)
   (by as_aux_lemma=> kernel_rfl)
#print axioms dialCalls_card
end Go.Proofs.YtdnfdeplcjaonaaGreatDoor
