/-
  dialRight_card proves the given statement DialRightCardSaid as it stands: from every start that the card describes, on every schedule, the call of DialRight ends, answers true and leaves what it was given as it was.
  Conditions: those of the given statement itself, no others.
-/
import Derived.Test.YtdnfdeplcjaonaaGreatDoorF09
import Derived.Test.YtdnfdeplcjaonaaGreatDoorFZE
namespace Go.Proofs.YtdnfdeplcjaonaaGreatDoor
open Go.RL Go.ChangeShapes Go.WideShapes Go.ChangeAt Go.RowKit
set_option maxRecDepth 100000
set_option maxHeartbeats 0
theorem dialRight_lifted(os:Os)(started:os.Started)(H:Type)(enc:TypeId×Value→H):
   ReturnsInLeavingWide Rows.dialRightRow.assume Tryz.checked os 14 .any (Rows.dialRightRow.pre enc Tryz.prog Tryz.f14 (OpenSpec.ofChange Rows.dialRightSpec))
     (Rows.dialRightSpec.post enc Tryz.prog Tryz.f14 false true false false):=by
 refine lifted (n:=188) (body:=bodyOf Tryz.f14) (a:= {}) Tryz.func14 (by kernel_rfl) Tryz.ntmps14 (by kernel_rfl) (Nat.le_of_ble_eq_true (by kernel_rfl)) (by kernel_rfl) (by kernel_rfl) rfl (fun ds h=> ?_) started
   (witness_plain (os:=os) (C:=Tryz.checked) (enc:=enc) (s:=Rows.dialRightSpec) (fn:=Tryz.f14) (f:=14) (X:=fun w _=> laidMetH Tryz.prog laidL w) (startW os) #[.agg ⟨[.int .i64 0,.int .i64 0,.slice none 0 0,.slice none 0 0]⟩,.int .u8 0,.int .u8 0] 8 (start_os os) (World.shaped_of_ZipB (by kernel_rfl) (by kernel_rfl)) (by kernel_rfl) (by kernel_rfl) (by kernel_rfl) (door_met os _)) ?_
 · rw[Tryz.params14] at h
   match ds,h with
   | [a,b,c],_=> rfl
 · intro W base vs ds p hlen hval hA hwt hG St hret
   rw[Tryz.params14] at hlen hval hA
   obtain⟨v0,v1,v2,rfl⟩:∃a b c,vs= [a,b,c]:=by
     match vs,hlen with
     | [a,b,c],_=> exact⟨a,b,c,rfl⟩
   obtain⟨k,A,lc,B,tc,rfl,hk⟩:=open_book (hval 0 25 v0 rfl rfl) (trodAll_at hA 0 25 v0 rfl rfl)
   obtain⟨p,rfl,hp⟩:=open_u8 (hval 1 5 v1 rfl rfl)
   obtain⟨q,rfl,hq⟩:=open_u8 (hval 2 5 v2 rfl rfl)
   exact Right_w (fullV W) hG k A lc B tc hk p (by omega) q (by omega) (fun H₀ R L kk hv hle=> hret H₀ R L kk (.inr ⟨6,Tryz.results14,hv⟩) hle)
theorem dialRight_closed:joinedFacts Tryz.prog 14 Tryz.f14 Rows.dialRightSpec Rows.dialRightRow=true:=by
 simp only[joinedFacts,Bool.and_eq_true]
 repeat' apply And.intro
 all_goals (as_aux_lemma=> kernel_rfl)
theorem dialRight_named:Tryz.prog.funcNamed "baudot/baudotlaw03.DialRight"=some 14:=by kernel_rfl
theorem dialRight_holds:Rows.DialRightSaid:=
 OpenClaim.holds_of_wide_leaving 14 Tryz.f14 rfl rfl rfl rfl rfl rfl rfl ⟨rfl,rfl,rfl,rfl,rfl⟩ rfl rfl rfl rfl rfl dialRight_named Tryz.func14 dialRight_closed
   (of_decide_eq_true (by as_aux_lemma=> kernel_rfl)) (by unfold Func.isWrapper;rw[if_neg (by decide +kernel)];exact⟨rfl,rfl⟩)
   (fun os started H enc _=> dialRight_lifted os started H enc)
theorem dialRight_card:Rows.DialRightCardSaid:=
 holds_tied_goes .later [.data,.data,.data,.data,.data,.funcs,.pinned] true (true, "c97b90e5d6d4e63ca43efbfea10a06e4edb833d053cfb658d244a3fb6c593e3f") false
   dialRight_holds (by as_aux_lemma=> kernel_rfl) dialRight_row_tie rfl ⟨rfl,rfl⟩ (by as_aux_lemma=> kernel_rfl) rfl
   (fun f fn hf hfn=> by
     obtain rfl:f=14:=Option.some.inj (dialRight_named.symm.trans hf) |>.symm
     obtain rfl:fn=Tryz.f14:=(Option.some.inj (Tryz.func14.symm.trans hfn)).symm
     exact⟨by as_aux_lemma=> kernel_rfl,no_stand (by rw[Tryz.params14];as_aux_lemma=> kernel_rfl)⟩)
   (by as_aux_lemma=> kernel_rfl)
#print axioms dialRight_card
end Go.Proofs.YtdnfdeplcjaonaaGreatDoor
