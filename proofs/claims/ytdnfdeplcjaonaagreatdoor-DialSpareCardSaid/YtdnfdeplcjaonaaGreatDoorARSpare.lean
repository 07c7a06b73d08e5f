/-
  dialSpare_card proves the given statement DialSpareCardSaid as it stands: from every start that the card describes, on every schedule, the call of DialSpare ends, answers true and leaves what it was given as it was.
  Conditions: those of the given statement itself, no others.
-/
import Derived.Test.YtdnfdeplcjaonaaGreatDoorA09
namespace Go.Proofs.YtdnfdeplcjaonaaGreatDoor
open Go.RL Go.ChangeShapes Go.WideShapes Go.ChangeAt Go.RowKit
set_option maxRecDepth 100000
set_option maxHeartbeats 0
theorem dialSpare_lifted(os:Os)(started:os.Started)(H:Type)(enc:TypeId×Value→H):
   ReturnsInLeavingWide Rows.dialSpareRow.assume Tryz.checked os 9 .any (Rows.dialSpareRow.pre enc Tryz.prog Tryz.f9 (OpenSpec.ofChange Rows.dialSpareSpec))
     (Rows.dialSpareSpec.post enc Tryz.prog Tryz.f9 false true false false):=by
 refine lifted (n:=106) (body:=bodyOf Tryz.f9) (a:= {}) Tryz.func9 (by kernel_rfl) Tryz.ntmps9 (by kernel_rfl) (Nat.le_of_ble_eq_true (by kernel_rfl)) (by kernel_rfl) (by kernel_rfl) rfl (fun ds h=> ?_) started
   (witness_plain (os:=os) (C:=Tryz.checked) (enc:=enc) (s:=Rows.dialSpareSpec) (fn:=Tryz.f9) (f:=9) (X:=fun w _=> laidMetH Tryz.prog laidL w) (startW os) #[.agg ⟨[.int .i64 0,.int .i64 0,.slice none 0 0,.slice none 0 0]⟩,.int .u8 0,.bool false,.int .u16 0] 8 (start_os os) (World.shaped_of_ZipB (by kernel_rfl) (by kernel_rfl)) (by kernel_rfl) (by kernel_rfl) (by kernel_rfl) (door_met os _)) ?_
 · rw[Tryz.params9] at h
   match ds,h with
   | [a,b,c,d],_=> rfl
 · intro W base vs ds p hlen hval hA hwt hG St hret
   rw[Tryz.params9] at hlen hval hA
   obtain⟨v0,v1,v2,v3,rfl⟩:∃a b c d,vs= [a,b,c,d]:=by
     match vs,hlen with
     | [a,b,c,d],_=> exact⟨a,b,c,d,rfl⟩
   obtain⟨k,A,lc,B,tc,rfl,hk⟩:=open_book (hval 0 25 v0 rfl rfl) (trodAll_at hA 0 25 v0 rfl rfl)
   obtain⟨p,rfl,hp⟩:=open_u8 (hval 1 5 v1 rfl rfl)
   obtain⟨sf,rfl⟩:=open_bool (hval 2 4 v2 rfl rfl)
   obtain⟨q,rfl,hq⟩:=open_u16 (hval 3 73 v3 rfl rfl)
   exact Spare_w (fullV W) hG k A lc B tc hk p (by omega) sf q hq (fun H₀ R L kk hv hle=> hret H₀ R L kk (.inr ⟨8,Tryz.results9,hv⟩) hle)
theorem dialSpare_closed:joinedFacts Tryz.prog 9 Tryz.f9 Rows.dialSpareSpec Rows.dialSpareRow=true:=by
 simp only[joinedFacts,Bool.and_eq_true]
 repeat' apply And.intro
 all_goals (as_aux_lemma=> kernel_rfl)
theorem dialSpare_named:Tryz.prog.funcNamed "baudot/baudotlaw03.DialSpare"=some 9:=by kernel_rfl
theorem dialSpare_holds:Rows.DialSpareSaid:=
 OpenClaim.holds_of_wide_leaving 9 Tryz.f9 rfl rfl rfl rfl rfl rfl rfl ⟨rfl,rfl,rfl,rfl,rfl⟩ rfl rfl rfl rfl rfl dialSpare_named Tryz.func9 dialSpare_closed
   (of_decide_eq_true (by as_aux_lemma=> kernel_rfl)) (by unfold Func.isWrapper;rw[if_neg (by decide +kernel)];exact⟨rfl,rfl⟩)
   (fun os started H enc _=> dialSpare_lifted os started H enc)
theorem dialSpare_card:Rows.DialSpareCardSaid:=
 holds_tied_goes .later [.data,.data,.data,.data,.data,.funcs,.pinned] true (true, "c97b90e5d6d4e63ca43efbfea10a06e4edb833d053cfb658d244a3fb6c593e3f") false
   dialSpare_holds (by as_aux_lemma=> kernel_rfl) dialSpare_row_tie rfl ⟨rfl,rfl⟩ (by as_aux_lemma=> kernel_rfl) rfl
   (fun f fn hf hfn=> by
     obtain rfl:f=9:=Option.some.inj (dialSpare_named.symm.trans hf) |>.symm
     obtain rfl:fn=Tryz.f9:=(Option.some.inj (Tryz.func9.symm.trans hfn)).symm
     exact⟨by as_aux_lemma=> kernel_rfl,no_stand (by rw[Tryz.params9];as_aux_lemma=> kernel_rfl)⟩)
   (by as_aux_lemma=> kernel_rfl)
#print axioms dialSpare_card
end Go.Proofs.YtdnfdeplcjaonaaGreatDoor
