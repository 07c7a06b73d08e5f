/-
  dialSafe_card proves the given statement DialSafeCardSaid as it stands: from every start that the card describes, on every schedule, the call of DialSafe ends, answers true and leaves what it was given as it was.
  Conditions: those of the given statement itself, no others.
-/
import Derived.Test.YtdnfdeplcjaonaaGreatDoorD09
namespace Go.Proofs.YtdnfdeplcjaonaaGreatDoor
open Go.RL Go.ChangeShapes Go.WideShapes Go.ChangeAt Go.RowKit
set_option maxRecDepth 100000
set_option maxHeartbeats 0
theorem dialSafe_lifted(os:Os)(started:os.Started)(H:Type)(enc:TypeId×Value→H):
   ReturnsInLeavingWide Rows.dialSafeRow.assume Tryz.checked os 16 .any (Rows.dialSafeRow.pre enc Tryz.prog Tryz.f16 (OpenSpec.ofChange Rows.dialSafeSpec))
     (Rows.dialSafeSpec.post enc Tryz.prog Tryz.f16 false true false false):=by
 refine lifted (n:=148) (body:=bodyOf Tryz.f16) (a:= {}) Tryz.func16 (by kernel_rfl) Tryz.ntmps16 (by kernel_rfl) (Nat.le_of_ble_eq_true (by kernel_rfl)) (by kernel_rfl) (by kernel_rfl) rfl (fun ds h=> ?_) started
   (witness_plain (os:=os) (C:=Tryz.checked) (enc:=enc) (s:=Rows.dialSafeSpec) (fn:=Tryz.f16) (f:=16) (X:=fun w _=> laidMetH Tryz.prog laidL w) (startW os) #[.agg ⟨[.int .i64 0,.int .i64 0,.slice none 0 0,.slice none 0 0]⟩,.string ⟨#[]⟩] 8 (start_os os) (World.shaped_of_ZipB (by kernel_rfl) (by kernel_rfl)) (by kernel_rfl) (by kernel_rfl) (by kernel_rfl) (door_met os _)) ?_
 · rw[Tryz.params16] at h
   match ds,h with
   | [a,b],_=> rfl
 · intro W base vs ds p hlen hval hA hwt hG St hret
   rw[Tryz.params16] at hlen hval hA
   obtain⟨v0,v1,rfl⟩:∃a b,vs= [a,b]:=by
     match vs,hlen with
     | [a,b],_=> exact⟨a,b,rfl⟩
   obtain⟨k,A,lc,B,tc,rfl,hk⟩:=open_book (hval 0 25 v0 rfl rfl) (trodAll_at hA 0 25 v0 rfl rfl)
   obtain⟨F,fc,hB⟩:=hk.book
   obtain⟨s,rfl⟩:=open_str (hval 1 9 v1 rfl rfl)
   exact Safe_w (fullV W) hG k A lc B tc F fc hB s (fun H₀ R L kk hv hle=> hret H₀ R L kk (.inr ⟨4,Tryz.results16,hv⟩) hle)
theorem dialSafe_closed:joinedFacts Tryz.prog 16 Tryz.f16 Rows.dialSafeSpec Rows.dialSafeRow=true:=by
 simp only[joinedFacts,Bool.and_eq_true]
 repeat' apply And.intro
 all_goals (as_aux_lemma=> kernel_rfl)
theorem dialSafe_named:Tryz.prog.funcNamed "baudot/baudotlaw03.DialSafe"=some 16:=by kernel_rfl
theorem dialSafe_holds:Rows.DialSafeSaid:=
 OpenClaim.holds_of_wide_leaving 16 Tryz.f16 rfl rfl rfl rfl rfl rfl rfl ⟨rfl,rfl,rfl,rfl,rfl⟩ rfl rfl rfl rfl rfl dialSafe_named Tryz.func16 dialSafe_closed
   (of_decide_eq_true (by as_aux_lemma=> kernel_rfl)) (by unfold Func.isWrapper;rw[if_neg (by decide +kernel)];exact⟨rfl,rfl⟩)
   (fun os started H enc _=> dialSafe_lifted os started H enc)
theorem dialSafe_card:Rows.DialSafeCardSaid:=
 holds_tied_goes .later [.data,.data,.data,.data,.data,.funcs,.pinned] true (true, "c97b90e5d6d4e63ca43efbfea10a06e4edb833d053cfb658d244a3fb6c593e3f") false
   dialSafe_holds (by as_aux_lemma=> kernel_rfl) dialSafe_row_tie rfl ⟨rfl,rfl⟩ (by as_aux_lemma=> kernel_rfl) rfl
   (fun f fn hf hfn=> by
     obtain rfl:f=16:=Option.some.inj (dialSafe_named.symm.trans hf) |>.symm
     obtain rfl:fn=Tryz.f16:=(Option.some.inj (Tryz.func16.symm.trans hfn)).symm
     exact⟨by as_aux_lemma=> kernel_rfl,no_stand (by rw[Tryz.params16];as_aux_lemma=> kernel_rfl)⟩)
   (by as_aux_lemma=> kernel_rfl)
#print axioms dialSafe_card
end Go.Proofs.YtdnfdeplcjaonaaGreatDoor
