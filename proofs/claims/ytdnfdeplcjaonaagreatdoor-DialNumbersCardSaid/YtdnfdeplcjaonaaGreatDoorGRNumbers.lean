/-
  dialNumbers_card proves the given statement DialNumbersCardSaid as it stands: from every start that the card describes, on every schedule, the call of DialNumbers ends, answers true and leaves what it was given as it was.
  Conditions: those of the given statement itself, no others.
-/
import Derived.Test.YtdnfdeplcjaonaaGreatDoorG09
namespace Go.Proofs.YtdnfdeplcjaonaaGreatDoor
open Go.RL Go.Proofs.Tryz Go.ChangeShapes Go.WideShapes Go.ChangeAt Go.RowKit
set_option maxRecDepth 100000
set_option maxHeartbeats 0
theorem dialNumbers_lifted(os:Os)(started:os.Started)(H:Type)(enc:TypeId×Value→H):
   ReturnsInLeavingWide Rows.dialNumbersRow.assume Tryz.checked os 12 .any (Rows.dialNumbersRow.pre enc prog Tryz.f12 (OpenSpec.ofChange Rows.dialNumbersSpec))
     (Rows.dialNumbersSpec.post enc prog Tryz.f12 false true false false):=by
 refine lifted (n:=128) (body:=bodyOf Tryz.f12) (a:= {}) func12 (by kernel_rfl) ntmps12 (by kernel_rfl) (Nat.le_of_ble_eq_true (by kernel_rfl)) (by kernel_rfl) (by kernel_rfl) rfl (fun ds h=> ?_) started
   (witness_plain (os:=os) (C:=Tryz.checked) (enc:=enc) (s:=Rows.dialNumbersSpec) (fn:=Tryz.f12) (f:=12) (X:=fun w _=> laidMetH prog laidL w) (startW os) #[.agg ⟨[.int .i64 0,.int .i64 0,.slice none 0 0,.slice none 0 0]⟩,.int .i64 0,.string ⟨#[]⟩,.int .i64 0,.bool false,.agg ⟨[.string ⟨#[]⟩,.string ⟨#[]⟩,.slice none 0 0]⟩] 8 (start_os os) (World.shaped_of_ZipB (by kernel_rfl) (by kernel_rfl)) (by kernel_rfl) (by kernel_rfl) (by kernel_rfl) (door_met os _)) ?_
 · rw[Tryz.params12] at h
   match ds,h with
   | [a,b,c,d,e,f],_=> rfl
 · intro W base vs ds p hlen hval hA hwt hG St hret;rw[Tryz.params12] at hlen hval hA;obtain⟨v0,v1,v2,v3,v4,v5,rfl⟩:∃a b c d e f,vs= [a,b,c,d,e,f]:=by
     match vs,hlen with
     | [a,b,c,d,e,f],_=> exact⟨a,b,c,d,e,f,rfl⟩
   obtain⟨k,A,lc,B,tc,rfl,hk⟩:=open_book (hval 0 25 v0 rfl rfl) (trodAll_at hA 0 25 v0 rfl rfl);obtain⟨F,fc,hB⟩:=hk.book;obtain⟨line,rfl,_⟩:=open_int (hval 1 3 v1 rfl rfl);obtain⟨s,rfl⟩:=open_str (hval 2 9 v2 rfl rfl);obtain⟨z,rfl,_⟩:=open_int (hval 3 3 v3 rfl rfl);obtain⟨sf,rfl⟩:=open_bool (hval 4 4 v4 rfl rfl);obtain⟨nm,num,Fa,nf,fca,fr,rfl,hfa,hF⟩:=open_line (hval 5 64 v5 rfl rfl) (trodAll_at hA 5 64 v5 rfl rfl);exact Numbers_w (fullV W) hG k A lc B tc F fc hB line s z sf nm num Fa nf fca fr hfa hF (fun H₀ R L kk hv hle=> hret H₀ R L kk (.inr ⟨12,results12,hv⟩) hle)
theorem dialNumbers_closed:joinedFacts prog 12 Tryz.f12 Rows.dialNumbersSpec Rows.dialNumbersRow=true:=by
 simp only[joinedFacts,Bool.and_eq_true]
 repeat' apply And.intro
 all_goals (as_aux_lemma=> kernel_rfl)
theorem dialNumbers_named:prog.funcNamed "baudot/baudotlaw03.DialNumbers"=some 12:=by kernel_rfl
theorem dialNumbers_holds:Rows.DialNumbersSaid:=
 OpenClaim.holds_of_wide_leaving 12 Tryz.f12 rfl rfl rfl rfl rfl rfl rfl ⟨rfl,rfl,rfl,rfl,rfl⟩ rfl rfl rfl rfl rfl dialNumbers_named func12 dialNumbers_closed
   (of_decide_eq_true (by as_aux_lemma=> kernel_rfl)) (by unfold Func.isWrapper;first|(rw[if_pos (by decide +kernel)];as_aux_lemma=> kernel_rfl)|(rw[if_neg (by decide +kernel)];exact⟨rfl,rfl⟩))
   (fun os started H enc _=> dialNumbers_lifted os started H enc)
theorem dialNumbers_card:Rows.DialNumbersCardSaid:=
 holds_tied_goes .later [.data,.data,.data,.data,.data,.funcs,.pinned] true (true, "c97b90e5d6d4e63ca43efbfea10a06e4edb833d053cfb658d244a3fb6c593e3f") false
   dialNumbers_holds (by as_aux_lemma=> kernel_rfl) dialNumbers_row_tie rfl ⟨rfl,rfl⟩ (by as_aux_lemma=> kernel_rfl) rfl
   (fun f fn hf hfn=> by
     obtain rfl:f=12:=Option.some.inj (dialNumbers_named.symm.trans hf) |>.symm;obtain rfl:fn=Tryz.f12:=(Option.some.inj (func12.symm.trans hfn)).symm;exact⟨by as_aux_lemma=> kernel_rfl,no_stand (by rw[Tryz.params12];as_aux_lemma=> kernel_rfl)⟩)
   (by as_aux_lemma=> kernel_rfl)
#print axioms dialNumbers_card
end Go.Proofs.YtdnfdeplcjaonaaGreatDoor
