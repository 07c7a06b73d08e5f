/-
  dialNews_card proves the given statement DialNewsCardSaid as it stands: from every start that the card describes, on every schedule, the call of DialNews ends, answers true and leaves what it was given as it was.
  Conditions: those of the given statement itself, no others.
-/
import Derived.Test.YtdnfdeplcjaonaaGreatDoorH10
namespace Go.Proofs.YtdnfdeplcjaonaaGreatDoor
open Go.RL Go.ChangeShapes Go.WideShapes Go.ChangeAt Go.RowKit
set_option maxRecDepth 100000
set_option maxHeartbeats 0
theorem dialNews_lifted(os:Os)(started:os.Started)(H:Type)(enc:TypeId×Value→H):
   ReturnsInLeavingWide Rows.dialNewsRow.assume Tryz.checked os 8 .any (Rows.dialNewsRow.pre enc Tryz.prog Tryz.f8 (OpenSpec.ofChange Rows.dialNewsSpec))
     (Rows.dialNewsSpec.post enc Tryz.prog Tryz.f8 false true false false):=by
 refine lifted (n:=184) (body:=bodyOf Tryz.f8) (a:= {}) Tryz.func8 (by kernel_rfl) Tryz.ntmps8 (by kernel_rfl) (Nat.le_of_ble_eq_true (by kernel_rfl)) (by kernel_rfl) (by kernel_rfl) rfl (fun ds h=> ?_) started
   (witness_plain (os:=os) (C:=Tryz.checked) (enc:=enc) (s:=Rows.dialNewsSpec) (fn:=Tryz.f8) (f:=8) (X:=fun w _=> laidMetH Tryz.prog laidL w) (startW os) #[.agg ⟨[.int .i64 0,.int .i64 0,.slice none 0 0,.slice none 0 0]⟩,.int .u8 0,.agg ⟨[.int .i64 0,.int .i64 0,.int .i64 0,.int .i64 0]⟩] 8 (start_os os) (World.shaped_of_ZipB (by kernel_rfl) (by kernel_rfl)) (by kernel_rfl) (by kernel_rfl) (by kernel_rfl) (door_met os _)) ?_
 · rw[Tryz.params8] at h
   match ds,h with
   | [a,b,c],_=> rfl
 · intro W base vs ds p hlen hval hA hwt hG St hret;rw[Tryz.params8] at hlen hval hA;obtain⟨v0,v1,v2,rfl⟩:∃a b c,vs= [a,b,c]:=by
     match vs,hlen with
     | [a,b,c],_=> exact⟨a,b,c,rfl⟩
   obtain⟨k,A,lc,B,tc,rfl,hk⟩:=open_book (hval 0 25 v0 rfl rfl) (trodAll_at hA 0 25 v0 rfl rfl);obtain⟨F,fc,hB⟩:=hk.book;obtain⟨p,rfl,hp⟩:=open_u8 (hval 1 5 v1 rfl rfl);obtain⟨a,b,c',d,rfl⟩:=open_train (hval 2 47 v2 rfl rfl) (trodAll_at hA 2 47 v2 rfl rfl);exact News_w (fullV W) hG k A lc B tc F fc hB p (by omega) a b c' d (fun H₀ R L kk hv hle=> hret H₀ R L kk (.inr ⟨6,Tryz.results8,hv⟩) hle)
theorem dialNews_closed:joinedFacts Tryz.prog 8 Tryz.f8 Rows.dialNewsSpec Rows.dialNewsRow=true:=by
 simp only[joinedFacts,Bool.and_eq_true]
 repeat' apply And.intro
 all_goals (as_aux_lemma=> kernel_rfl)
theorem dialNews_named:Tryz.prog.funcNamed "baudot/baudotlaw03.DialNews"=some 8:=by kernel_rfl
theorem dialNews_holds:Rows.DialNewsSaid:=
 OpenClaim.holds_of_wide_leaving 8 Tryz.f8 rfl rfl rfl rfl rfl rfl rfl ⟨rfl,rfl,rfl,rfl,rfl⟩ rfl rfl rfl rfl rfl dialNews_named Tryz.func8 dialNews_closed
   (of_decide_eq_true (by as_aux_lemma=> kernel_rfl)) (by unfold Func.isWrapper;rw[if_neg (by decide +kernel)];exact⟨rfl,rfl⟩)
   (fun os started H enc _=> dialNews_lifted os started H enc)
theorem dialNews_card:Rows.DialNewsCardSaid:=
 holds_tied_goes .later [.data,.data,.data,.data,.data,.funcs,.pinned] true (true, "c97b90e5d6d4e63ca43efbfea10a06e4edb833d053cfb658d244a3fb6c593e3f") false
   dialNews_holds (by as_aux_lemma=> kernel_rfl) dialNews_row_tie rfl ⟨rfl,rfl⟩ (by as_aux_lemma=> kernel_rfl) rfl
   (fun f fn hf hfn=> by
     obtain rfl:f=8:=Option.some.inj (dialNews_named.symm.trans hf) |>.symm;obtain rfl:fn=Tryz.f8:=(Option.some.inj (Tryz.func8.symm.trans hfn)).symm;exact⟨by as_aux_lemma=> kernel_rfl,no_stand (by rw[Tryz.params8];as_aux_lemma=> kernel_rfl)⟩)
   (by as_aux_lemma=> kernel_rfl)
#print axioms dialNews_card
end Go.Proofs.YtdnfdeplcjaonaaGreatDoor
