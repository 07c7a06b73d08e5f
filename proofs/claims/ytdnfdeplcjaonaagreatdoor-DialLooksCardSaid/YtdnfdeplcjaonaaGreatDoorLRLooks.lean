/-
  dialLooks_card proves the given statement DialLooksCardSaid as it stands: from every start that the card describes, on every schedule, the call of DialLooks ends, answers true and leaves what it was given as it was.
  Conditions: those of the given statement itself, no others.
-/
import Derived.Test.YtdnfdeplcjaonaaGreatDoorL09
namespace Go.Proofs.YtdnfdeplcjaonaaGreatDoor
open Go.RL Go.Proofs.Tryz Go.ChangeShapes Go.WideShapes Go.ChangeAt Go.RowKit
set_option maxRecDepth 100000
set_option maxHeartbeats 0
theorem dialLooks_lifted(os:Os)(started:os.Started)(H:Type)(enc:TypeId×Value→H):
   ReturnsInLeavingWide Rows.dialLooksRow.assume Tryz.checked os 4 .any (Rows.dialLooksRow.pre enc prog Tryz.f4 (OpenSpec.ofChange Rows.dialLooksSpec))
     (Rows.dialLooksSpec.post enc prog Tryz.f4 false true false false):=by
 refine lifted (n:=102) (body:=bodyOf Tryz.f4) (a:= {}) func4 (by kernel_rfl) ntmps4 (by kernel_rfl) (Nat.le_of_ble_eq_true (by kernel_rfl)) (by kernel_rfl) (by kernel_rfl) rfl (fun ds h=> ?_) started
   (witness_plain (os:=os) (C:=Tryz.checked) (enc:=enc) (s:=Rows.dialLooksSpec) (fn:=Tryz.f4) (f:=4) (X:=fun w _=> laidMetH prog laidL w) (startW os) #[.agg ⟨[.int .i64 0,.int .i64 0,.slice none 0 0,.slice none 0 0]⟩,.int .i64 0,.agg ⟨[.int .i64 0,.int .i64 0,.int .i64 0,.int .i64 0]⟩] 8 (start_os os) (World.shaped_of_ZipB (by kernel_rfl) (by kernel_rfl)) (by kernel_rfl) (by kernel_rfl) (by kernel_rfl) (door_met os _)) ?_
 · rw[Tryz.params4] at h
   match ds,h with
   | [a,b,c],_=> rfl
 · intro W base vs ds p hlen hval hA hwt hG St hret;rw[Tryz.params4] at hlen hval hA;obtain⟨v0,v1,v2,rfl⟩:∃a b c,vs= [a,b,c]:=by
     match vs,hlen with
     | [a,b,c],_=> exact⟨a,b,c,rfl⟩
   obtain⟨k,A,lc,B,tc,rfl,hk⟩:=open_book (hval 0 25 v0 rfl rfl) (trodAll_at hA 0 25 v0 rfl rfl);obtain⟨F,fc,hB⟩:=hk.book;obtain⟨t,rfl,ht⟩:=open_int (hval 1 3 v1 rfl rfl);obtain⟨a,b,c',d,rfl⟩:=open_train (hval 2 47 v2 rfl rfl) (trodAll_at hA 2 47 v2 rfl rfl);exact Looks_w (fullV W) hG k A lc B tc F fc hB t a b c' d (fun H₀ R L kk hv hle=> hret H₀ R L kk (.inr ⟨6,results4,hv⟩) hle)
theorem dialLooks_closed:joinedFacts prog 4 Tryz.f4 Rows.dialLooksSpec Rows.dialLooksRow=true:=by
 simp only[joinedFacts,Bool.and_eq_true]
 repeat' apply And.intro
 all_goals (as_aux_lemma=> kernel_rfl)
theorem dialLooks_named:prog.funcNamed "baudot/baudotlaw03.DialLooks"=some 4:=by kernel_rfl
theorem dialLooks_holds:Rows.DialLooksSaid:=
 OpenClaim.holds_of_wide_leaving 4 Tryz.f4 rfl rfl rfl rfl rfl rfl rfl ⟨rfl,rfl,rfl,rfl,rfl⟩ rfl rfl rfl rfl rfl dialLooks_named func4 dialLooks_closed
   (of_decide_eq_true (by as_aux_lemma=> kernel_rfl)) (by unfold Func.isWrapper;first|(rw[if_pos (by decide +kernel)];as_aux_lemma=> kernel_rfl)|(rw[if_neg (by decide +kernel)];exact⟨rfl,rfl⟩))
   (fun os started H enc _=> dialLooks_lifted os started H enc)
theorem dialLooks_card:Rows.DialLooksCardSaid:=
 holds_tied_goes .later [.data,.data,.data,.data,.data,.funcs,.pinned] true (true, "c97b90e5d6d4e63ca43efbfea10a06e4edb833d053cfb658d244a3fb6c593e3f") false
   dialLooks_holds (by as_aux_lemma=> kernel_rfl) dialLooks_row_tie rfl ⟨rfl,rfl⟩ (by as_aux_lemma=> kernel_rfl) rfl
   (fun f fn hf hfn=> by
     obtain rfl:f=4:=Option.some.inj (dialLooks_named.symm.trans hf) |>.symm;obtain rfl:fn=Tryz.f4:=(Option.some.inj (func4.symm.trans hfn)).symm;exact⟨by as_aux_lemma=> kernel_rfl,no_stand (by rw[Tryz.params4];as_aux_lemma=> kernel_rfl)⟩)
   (by as_aux_lemma=> kernel_rfl)
#print axioms dialLooks_card
end Go.Proofs.YtdnfdeplcjaonaaGreatDoor
