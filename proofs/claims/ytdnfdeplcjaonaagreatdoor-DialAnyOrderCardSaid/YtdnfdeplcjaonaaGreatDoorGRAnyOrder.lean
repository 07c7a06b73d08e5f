/-
  dialAnyOrder_card proves the given statement DialAnyOrderCardSaid as it stands: from every start that the card describes, on every schedule, the call of DialAnyOrder ends, answers true and leaves what it was given as it was.
  Conditions: those of the given statement itself, no others.
-/
import Derived.Test.YtdnfdeplcjaonaaGreatDoorG09
namespace Go.Proofs.YtdnfdeplcjaonaaGreatDoor
open Go.RL Go.ChangeShapes Go.WideShapes Go.ChangeAt Go.RowKit
set_option maxRecDepth 100000
set_option maxHeartbeats 0
theorem dialAnyOrder_lifted(os:Os)(started:os.Started)(H:Type)(enc:TypeId×Value→H):
   ReturnsInLeavingWide Rows.dialAnyOrderRow.assume Tryz.checked os 11 .any (Rows.dialAnyOrderRow.pre enc Tryz.prog Tryz.f11 (OpenSpec.ofChange Rows.dialAnyOrderSpec))
     (Rows.dialAnyOrderSpec.post enc Tryz.prog Tryz.f11 false true false false):=by
 refine lifted (n:=178) (body:=bodyOf Tryz.f11) (a:= {}) Tryz.func11 (by kernel_rfl) Tryz.ntmps11 (by kernel_rfl) (Nat.le_of_ble_eq_true (by kernel_rfl)) (by kernel_rfl) (by kernel_rfl) rfl (fun ds h=> ?_) started
   (witness_plain (os:=os) (C:=Tryz.checked) (enc:=enc) (s:=Rows.dialAnyOrderSpec) (fn:=Tryz.f11) (f:=11) (X:=fun w _=> laidMetH Tryz.prog laidL w) (startW os) #[.agg ⟨[.int .i64 0,.int .i64 0,.slice none 0 0,.slice none 0 0]⟩,.int .u8 0] 8 (start_os os) (World.shaped_of_ZipB (by kernel_rfl) (by kernel_rfl)) (by kernel_rfl) (by kernel_rfl) (by kernel_rfl) (door_met os _)) ?_
 · rw[Tryz.params11] at h
   match ds,h with
   | [a,b],_=> rfl
 · intro W base vs ds p hlen hval hA hwt hG St hret;rw[Tryz.params11] at hlen hval hA;obtain⟨v0,v1,rfl⟩:∃a b,vs= [a,b]:=by
     match vs,hlen with
     | [a,b],_=> exact⟨a,b,rfl⟩
   obtain⟨k,A,lc,B,tc,rfl,hk⟩:=open_book (hval 0 25 v0 rfl rfl) (trodAll_at hA 0 25 v0 rfl rfl);obtain⟨F,fc,hB⟩:=hk.book;obtain⟨p,rfl,hp⟩:=open_u8 (hval 1 5 v1 rfl rfl);exact AnyOrder_w (fullV W) hG k A lc B tc F fc hB p (by omega) (fun H₀ R L kk hv hle=> hret H₀ R L kk (.inr ⟨4,Tryz.results11,hv⟩) hle)
theorem dialAnyOrder_closed:joinedFacts Tryz.prog 11 Tryz.f11 Rows.dialAnyOrderSpec Rows.dialAnyOrderRow=true:=by
 simp only[joinedFacts,Bool.and_eq_true]
 repeat' apply And.intro
 all_goals (as_aux_lemma=> kernel_rfl)
theorem dialAnyOrder_named:Tryz.prog.funcNamed "baudot/baudotlaw03.DialAnyOrder"=some 11:=by kernel_rfl
theorem dialAnyOrder_holds:Rows.DialAnyOrderSaid:=
 OpenClaim.holds_of_wide_leaving 11 Tryz.f11 rfl rfl rfl rfl rfl rfl rfl ⟨rfl,rfl,rfl,rfl,rfl⟩ rfl rfl rfl rfl rfl dialAnyOrder_named Tryz.func11 dialAnyOrder_closed
   (of_decide_eq_true (by as_aux_lemma=> kernel_rfl)) (by unfold Func.isWrapper;rw[if_neg (by decide +kernel)];exact⟨rfl,rfl⟩)
   (fun os started H enc _=> dialAnyOrder_lifted os started H enc)
theorem dialAnyOrder_card:Rows.DialAnyOrderCardSaid:=
 holds_tied_goes .later [.data,.data,.data,.data,.data,.funcs,.pinned] true (true, "c97b90e5d6d4e63ca43efbfea10a06e4edb833d053cfb658d244a3fb6c593e3f") false
   dialAnyOrder_holds (by as_aux_lemma=> kernel_rfl) dialAnyOrder_row_tie rfl ⟨rfl,rfl⟩ (by as_aux_lemma=> kernel_rfl) rfl
   (fun f fn hf hfn=> by
     obtain rfl:f=11:=Option.some.inj (dialAnyOrder_named.symm.trans hf) |>.symm;obtain rfl:fn=Tryz.f11:=(Option.some.inj (Tryz.func11.symm.trans hfn)).symm;exact⟨by as_aux_lemma=> kernel_rfl,no_stand (by rw[Tryz.params11];as_aux_lemma=> kernel_rfl)⟩)
   (by as_aux_lemma=> kernel_rfl)
#print axioms dialAnyOrder_card
end Go.Proofs.YtdnfdeplcjaonaaGreatDoor
