/-
  dialSettled_card proves the given statement DialSettledCardSaid as it stands: from every start that the card describes, on every schedule, the call of DialSettled ends, answers true and leaves what it was given as it was.
  Conditions: those of the given statement itself, no others.
-/
import Derived.Test.YtdnfdeplcjaonaaGreatDoorI09
namespace Go.Proofs.YtdnfdeplcjaonaaGreatDoor
open Go.RL Go.ChangeShapes Go.WideShapes Go.ChangeAt Go.RowKit
set_option maxRecDepth 100000
set_option maxHeartbeats 0
theorem dialSettled_lifted(os:Os)(started:os.Started)(H:Type)(enc:TypeId×Value→H):
   ReturnsInLeavingWide Rows.dialSettledRow.assume Tryz.checked os 6 .any (Rows.dialSettledRow.pre enc Tryz.prog Tryz.f6 (OpenSpec.ofChange Rows.dialSettledSpec))
     (Rows.dialSettledSpec.post enc Tryz.prog Tryz.f6 false true false false):=by
 refine lifted (n:=180) (body:=bodyOf Tryz.f6) (a:= {}) Tryz.func6 (by kernel_rfl) Tryz.ntmps6 (by kernel_rfl) (Nat.le_of_ble_eq_true (by kernel_rfl)) (by kernel_rfl) (by kernel_rfl) rfl (fun ds h=> ?_) started
   (witness_plain (os:=os) (C:=Tryz.checked) (enc:=enc) (s:=Rows.dialSettledSpec) (fn:=Tryz.f6) (f:=6) (X:=fun w _=> laidMetH Tryz.prog laidL w) (startW os) #[.agg ⟨[.int .i64 0,.int .i64 0,.slice none 0 0,.slice none 0 0]⟩,.slice none 0 0,.int .u8 0] 8 (start_os os) (World.shaped_of_ZipB (by kernel_rfl) (by kernel_rfl)) (by kernel_rfl) (by kernel_rfl) (by kernel_rfl) (door_met os _)) ?_
 · rw[Tryz.params6] at h
   match ds,h with
   | [a,b,c],_=> rfl
 · intro W base vs ds p hlen hval hA hwt hG St hret;rw[Tryz.params6] at hlen hval hA;obtain⟨v0,v1,v2,rfl⟩:∃a b c,vs= [a,b,c]:=by
     match vs,hlen with
     | [a,b,c],_=> exact⟨a,b,c,rfl⟩
   obtain⟨k,A,lc,B,tc,rfl,hk⟩:=open_book (hval 0 25 v0 rfl rfl) (trodAll_at hA 0 25 v0 rfl rfl);obtain⟨F,fc,hB⟩:=hk.book;obtain⟨X,n,xc,x,rfl,hX⟩:=open_picks (hval 1 56 v1 rfl rfl) (trodAll_at hA 1 56 v1 rfl rfl);obtain⟨o,rfl,ho⟩:=open_u8 (hval 2 5 v2 rfl rfl);exact Settled_w (fullV W) hG k A lc B tc hB.bk X n xc x hX o (by omega) (fun H₀ R L kk hv hle=> hret H₀ R L kk (.inr ⟨6,Tryz.results6,hv⟩) hle)
theorem dialSettled_closed:joinedFacts Tryz.prog 6 Tryz.f6 Rows.dialSettledSpec Rows.dialSettledRow=true:=by
 simp only[joinedFacts,Bool.and_eq_true]
 repeat' apply And.intro
 all_goals (as_aux_lemma=> kernel_rfl)
theorem dialSettled_named:Tryz.prog.funcNamed "baudot/baudotlaw03.DialSettled"=some 6:=by kernel_rfl
theorem dialSettled_holds:Rows.DialSettledSaid:=
 OpenClaim.holds_of_wide_leaving 6 Tryz.f6 rfl rfl rfl rfl rfl rfl rfl ⟨rfl,rfl,rfl,rfl,rfl⟩ rfl rfl rfl rfl rfl dialSettled_named Tryz.func6 dialSettled_closed
   (of_decide_eq_true (by as_aux_lemma=> kernel_rfl)) (by unfold Func.isWrapper;rw[if_neg (by decide +kernel)];exact⟨rfl,rfl⟩)
   (fun os started H enc _=> dialSettled_lifted os started H enc)
theorem dialSettled_card:Rows.DialSettledCardSaid:=
 holds_tied_goes .later [.data,.data,.data,.data,.data,.funcs,.pinned] true (true, "c97b90e5d6d4e63ca43efbfea10a06e4edb833d053cfb658d244a3fb6c593e3f") false
   dialSettled_holds (by as_aux_lemma=> kernel_rfl) dialSettled_row_tie rfl ⟨rfl,rfl⟩ (by as_aux_lemma=> kernel_rfl) rfl
   (fun f fn hf hfn=> by
     obtain rfl:f=6:=Option.some.inj (dialSettled_named.symm.trans hf) |>.symm;obtain rfl:fn=Tryz.f6:=(Option.some.inj (Tryz.func6.symm.trans hfn)).symm;exact⟨by as_aux_lemma=> kernel_rfl,no_stand (by rw[Tryz.params6];as_aux_lemma=> kernel_rfl)⟩)
   (by as_aux_lemma=> kernel_rfl)
#print axioms dialSettled_card
end Go.Proofs.YtdnfdeplcjaonaaGreatDoor
