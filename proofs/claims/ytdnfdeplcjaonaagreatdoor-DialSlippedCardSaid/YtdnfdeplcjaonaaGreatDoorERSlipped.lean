/-
  dialSlipped_card proves the given statement DialSlippedCardSaid as it stands: from every start that the card describes, on every schedule, the call of DialSlipped ends, answers true and leaves what it was given as it was.
  Conditions: those of the given statement itself, no others.
-/
import Derived.Test.YtdnfdeplcjaonaaGreatDoorE09
namespace Go.Proofs.YtdnfdeplcjaonaaGreatDoor
open Go.RL Go.ChangeShapes Go.WideShapes Go.ChangeAt Go.RowKit
set_option maxRecDepth 100000
set_option maxHeartbeats 0
theorem dialSlipped_lifted(os:Os)(started:os.Started)(H:Type)(enc:TypeId×Value→H):
   ReturnsInLeavingWide Rows.dialSlippedRow.assume Tryz.checked os 15 .any (Rows.dialSlippedRow.pre enc Tryz.prog Tryz.f15 (OpenSpec.ofChange Rows.dialSlippedSpec))
     (Rows.dialSlippedSpec.post enc Tryz.prog Tryz.f15 false true false false):=by
 refine lifted (n:=117) (body:=bodyOf Tryz.f15) (a:= {}) Tryz.func15 (by kernel_rfl) Tryz.ntmps15 (by kernel_rfl) (Nat.le_of_ble_eq_true (by kernel_rfl)) (by kernel_rfl) (by kernel_rfl) rfl (fun ds h=> ?_) started
   (witness_plain (os:=os) (C:=Tryz.checked) (enc:=enc) (s:=Rows.dialSlippedSpec) (fn:=Tryz.f15) (f:=15) (X:=fun w _=> laidMetH Tryz.prog laidL w) (startW os) #[.agg ⟨[.int .i64 0,.int .i64 0,.slice none 0 0,.slice none 0 0]⟩,.int .u8 0,.int .u8 0,.bool false] 8 (start_os os) (World.shaped_of_ZipB (by kernel_rfl) (by kernel_rfl)) (by kernel_rfl) (by kernel_rfl) (by kernel_rfl) (door_met os _)) ?_
 · rw[Tryz.params15] at h
   match ds,h with
   | [a,b,c,d],_=> rfl
 · intro W base vs ds p hlen hval hA hwt hG St hret
   rw[Tryz.params15] at hlen hval hA
   obtain⟨v0,v1,v2,v3,rfl⟩:∃a b c d,vs= [a,b,c,d]:=by
     match vs,hlen with
     | [a,b,c,d],_=> exact⟨a,b,c,d,rfl⟩
   obtain⟨k,A,lc,B,tc,rfl,hk⟩:=open_book (hval 0 25 v0 rfl rfl) (trodAll_at hA 0 25 v0 rfl rfl)
   obtain⟨p,rfl,hp⟩:=open_u8 (hval 1 5 v1 rfl rfl)
   obtain⟨q,rfl,hq⟩:=open_u8 (hval 2 5 v2 rfl rfl)
   obtain⟨sf,rfl⟩:=open_bool (hval 3 4 v3 rfl rfl)
   exact Slipped_w (fullV W) hG k A lc B tc hk p (by omega) q (by omega) sf (fun H₀ R L kk hv hle=> hret H₀ R L kk (.inr ⟨8,Tryz.results15,hv⟩) hle)
theorem dialSlipped_closed:joinedFacts Tryz.prog 15 Tryz.f15 Rows.dialSlippedSpec Rows.dialSlippedRow=true:=by
 simp only[joinedFacts,Bool.and_eq_true]
 repeat' apply And.intro
 all_goals (as_aux_lemma=> kernel_rfl)
theorem dialSlipped_named:Tryz.prog.funcNamed "baudot/baudotlaw03.DialSlipped"=some 15:=by kernel_rfl
theorem dialSlipped_holds:Rows.DialSlippedSaid:=
 OpenClaim.holds_of_wide_leaving 15 Tryz.f15 rfl rfl rfl rfl rfl rfl rfl ⟨rfl,rfl,rfl,rfl,rfl⟩ rfl rfl rfl rfl rfl dialSlipped_named Tryz.func15 dialSlipped_closed
   (of_decide_eq_true (by as_aux_lemma=> kernel_rfl)) (by unfold Func.isWrapper;rw[if_neg (by decide +kernel)];exact⟨rfl,rfl⟩)
   (fun os started H enc _=> dialSlipped_lifted os started H enc)
theorem dialSlipped_card:Rows.DialSlippedCardSaid:=
 holds_tied_goes .later [.data,.data,.data,.data,.data,.funcs,.pinned] true (true, "c97b90e5d6d4e63ca43efbfea10a06e4edb833d053cfb658d244a3fb6c593e3f") false
   dialSlipped_holds (by as_aux_lemma=> kernel_rfl) dialSlipped_row_tie rfl ⟨rfl,rfl⟩ (by as_aux_lemma=> kernel_rfl) rfl
   (fun f fn hf hfn=> by
     obtain rfl:f=15:=Option.some.inj (dialSlipped_named.symm.trans hf) |>.symm
     obtain rfl:fn=Tryz.f15:=(Option.some.inj (Tryz.func15.symm.trans hfn)).symm
     exact⟨by as_aux_lemma=> kernel_rfl,no_stand (by rw[Tryz.params15];as_aux_lemma=> kernel_rfl)⟩)
   (by as_aux_lemma=> kernel_rfl)
#print axioms dialSlipped_card
end Go.Proofs.YtdnfdeplcjaonaaGreatDoor
