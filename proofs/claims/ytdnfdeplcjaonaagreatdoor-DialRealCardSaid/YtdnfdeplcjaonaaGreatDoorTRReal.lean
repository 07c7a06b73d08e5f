/-
  dialReal_card proves the given statement DialRealCardSaid as it stands: from every start that the card describes, on every schedule, the call of DialReal ends, answers true and leaves what it was given as it was.
  Conditions: those of the given statement itself, no others.
-/
import Derived.Test.YtdnfdeplcjaonaaGreatDoorT09
namespace Go.Proofs.YtdnfdeplcjaonaaGreatDoor
open Go.RL Go.ChangeShapes Go.WideShapes Go.ChangeAt Go.RowKit
set_option maxRecDepth 100000
set_option maxHeartbeats 0
theorem dialReal_lifted(os:Os)(started:os.Started)(H:Type)(enc:TypeId×Value→H):
   ReturnsInLeavingWide Rows.dialRealRow.assume Tryz.checked os 5 .any (Rows.dialRealRow.pre enc Tryz.prog Tryz.f5 (OpenSpec.ofChange Rows.dialRealSpec))
     (Rows.dialRealSpec.post enc Tryz.prog Tryz.f5 false true false false):=by
 refine lifted (n:=206) (body:=bodyOf Tryz.f5) (a:= {}) Tryz.func5 (by kernel_rfl) Tryz.ntmps5 (by kernel_rfl) (Nat.le_of_ble_eq_true (by kernel_rfl)) (by kernel_rfl) (by kernel_rfl) rfl (fun ds h=> ?_) started
   (witness_plain (os:=os) (C:=Tryz.checked) (enc:=enc) (s:=Rows.dialRealSpec) (fn:=Tryz.f5) (f:=5) (X:=fun w _=> laidMetH Tryz.prog laidL w) (startW os) #[.agg ⟨[.int .i64 0,.int .i64 0,.slice none 0 0,.slice none 0 0]⟩,.slice none 0 0,.int .u8 0,.int .u8 0] 8 (start_os os) (World.shaped_of_ZipB (by kernel_rfl) (by kernel_rfl)) (by kernel_rfl) (by kernel_rfl) (by kernel_rfl) (door_met os _)) ?_
 · rw[Tryz.params5] at h
   match ds,h with
   | [a,b,c,d],_=> rfl
 · intro W base vs ds p hlen hval hA hwt hG St hret;rw[Tryz.params5] at hlen hval hA;obtain⟨v0,v1,v2,v3,rfl⟩:∃a b c d,vs= [a,b,c,d]:=by
     match vs,hlen with
     | [a,b,c,d],_=> exact⟨a,b,c,d,rfl⟩
   obtain⟨k,A,lc,B,tc,rfl,hk⟩:=open_book (hval 0 25 v0 rfl rfl) (trodAll_at hA 0 25 v0 rfl rfl);obtain⟨F,fc,hB⟩:=hk.book;obtain⟨X,n,xc,x,rfl,hX⟩:=open_picks (hval 1 56 v1 rfl rfl) (trodAll_at hA 1 56 v1 rfl rfl);obtain⟨b,rfl,hb⟩:=open_u8 (hval 2 5 v2 rfl rfl);obtain⟨o,rfl,ho⟩:=open_u8 (hval 3 5 v3 rfl rfl);exact Real_w (fullV W) hG k A lc B tc hB.bk X n xc x hX b o (by omega) (fun H₀ R L kk hv hle=> hret H₀ R L kk (.inr ⟨8,Tryz.results5,hv⟩) hle)
theorem dialReal_closed:joinedFacts Tryz.prog 5 Tryz.f5 Rows.dialRealSpec Rows.dialRealRow=true:=by
 simp only[joinedFacts,Bool.and_eq_true]
 repeat' apply And.intro
 all_goals (as_aux_lemma=> kernel_rfl)
theorem dialReal_named:Tryz.prog.funcNamed "baudot/baudotlaw03.DialReal"=some 5:=by kernel_rfl
theorem dialReal_holds:Rows.DialRealSaid:=
 OpenClaim.holds_of_wide_leaving 5 Tryz.f5 rfl rfl rfl rfl rfl rfl rfl ⟨rfl,rfl,rfl,rfl,rfl⟩ rfl rfl rfl rfl rfl dialReal_named Tryz.func5 dialReal_closed
   (of_decide_eq_true (by as_aux_lemma=> kernel_rfl)) (by unfold Func.isWrapper;rw[if_neg (by decide +kernel)];exact⟨rfl,rfl⟩)
   (fun os started H enc _=> dialReal_lifted os started H enc)
theorem dialReal_card:Rows.DialRealCardSaid:=
 holds_tied_goes .later [.data,.data,.data,.data,.data,.funcs,.pinned] true (true, "c97b90e5d6d4e63ca43efbfea10a06e4edb833d053cfb658d244a3fb6c593e3f") false
   dialReal_holds (by as_aux_lemma=> kernel_rfl) dialReal_row_tie rfl ⟨rfl,rfl⟩ (by as_aux_lemma=> kernel_rfl) rfl
   (fun f fn hf hfn=> by
     obtain rfl:f=5:=Option.some.inj (dialReal_named.symm.trans hf) |>.symm;obtain rfl:fn=Tryz.f5:=(Option.some.inj (Tryz.func5.symm.trans hfn)).symm;exact⟨by as_aux_lemma=> kernel_rfl,no_stand (by rw[Tryz.params5];as_aux_lemma=> kernel_rfl)⟩)
   (by as_aux_lemma=> kernel_rfl)
#print axioms dialReal_card
end Go.Proofs.YtdnfdeplcjaonaaGreatDoor
