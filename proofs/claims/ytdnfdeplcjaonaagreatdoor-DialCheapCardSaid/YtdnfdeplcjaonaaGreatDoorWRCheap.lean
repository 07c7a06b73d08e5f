/-
  dialCheap_card proves the given statement DialCheapCardSaid as it stands: from every start that the card describes, on every schedule, the call of DialCheap ends, answers true and leaves what it was given as it was.
  Conditions: those of the given statement itself, no others.
-/
import Derived.Test.YtdnfdeplcjaonaaGreatDoorW09
namespace Go.Proofs.YtdnfdeplcjaonaaGreatDoor
open Go.RL Go.Proofs.Tryz Go.ChangeShapes Go.WideShapes Go.ChangeAt Go.RowKit
set_option maxRecDepth 100000
set_option maxHeartbeats 0
theorem dialCheap_lifted(os:Os)(started:os.Started)(H:Type)(enc:TypeId×Value→H):
   ReturnsInLeavingWide Rows.dialCheapRow.assume Tryz.checked os 10 .any (Rows.dialCheapRow.pre enc prog Tryz.f10 (OpenSpec.ofChange Rows.dialCheapSpec))
     (Rows.dialCheapSpec.post enc prog Tryz.f10 false true false false):=by
 refine lifted (n:=220) (body:=bodyOf Tryz.f10) (a:= {}) func10 (by kernel_rfl) ntmps10 (by kernel_rfl) (Nat.le_of_ble_eq_true (by kernel_rfl)) (by kernel_rfl) (by kernel_rfl) rfl (fun ds h=> ?_) started
   (witness_plain (os:=os) (C:=Tryz.checked) (enc:=enc) (s:=Rows.dialCheapSpec) (fn:=Tryz.f10) (f:=10) (X:=fun w _=> laidMetH prog laidL w) (startW os) #[.slice none 0 0,.int .u8 0,.int .u8 0,.slice none 0 0] 8 (start_os os) (World.shaped_of_ZipB (by kernel_rfl) (by kernel_rfl)) (by kernel_rfl) (by kernel_rfl) (by kernel_rfl) (door_met os _)) ?_
 · rw[Tryz.params10] at h
   match ds,h with
   | [a,b,c,d],_=> rfl
 · intro W base vs ds p hlen hval hA hwt hG St hret;rw[Tryz.params10] at hlen hval hA;obtain⟨v0,v1,v2,v3,rfl⟩:∃a b c d,vs= [a,b,c,d]:=by
     match vs,hlen with
     | [a,b,c,d],_=> exact⟨a,b,c,d,rfl⟩
   obtain⟨C,nc,cc,c0,rfl,hC⟩:=open_bytes (hval 0 80 v0 rfl rfl) (trodAll_at hA 0 80 v0 rfl rfl);obtain⟨p0,rfl,hp⟩:=open_u8 (hval 1 5 v1 rfl rfl);obtain⟨q0,rfl,hq⟩:=open_u8 (hval 2 5 v2 rfl rfl);obtain⟨p,rfl⟩:∃p:Nat,p0=p:=⟨p0.toNat,by omega⟩
   obtain⟨q,rfl⟩:∃q:Nat,q0=q:=⟨q0.toNat,by omega⟩
   obtain⟨X,n,xc,x,rfl,hX⟩:=open_picks (hval 3 56 v3 rfl rfl) (trodAll_at hA 3 56 v3 rfl rfl);exact Cheap_w (fullV W) hG C nc cc c0 hC p q (by omega) (by omega) X n xc x hX (fun H₀ R L kk hv hle=> hret H₀ R L kk (.inr ⟨8,results10,hv⟩) hle)
theorem dialCheap_closed:joinedFacts prog 10 Tryz.f10 Rows.dialCheapSpec Rows.dialCheapRow=true:=by
 simp only[joinedFacts,Bool.and_eq_true]
 repeat' apply And.intro
 all_goals (as_aux_lemma=> kernel_rfl)
theorem dialCheap_named:prog.funcNamed "baudot/baudotlaw03.DialCheap"=some 10:=by kernel_rfl
theorem dialCheap_holds:Rows.DialCheapSaid:=
 OpenClaim.holds_of_wide_leaving 10 Tryz.f10 rfl rfl rfl rfl rfl rfl rfl ⟨rfl,rfl,rfl,rfl,rfl⟩ rfl rfl rfl rfl rfl dialCheap_named func10 dialCheap_closed
   (of_decide_eq_true (by as_aux_lemma=> kernel_rfl)) (by unfold Func.isWrapper;first|(rw[if_pos (by decide +kernel)];as_aux_lemma=> kernel_rfl)|(rw[if_neg (by decide +kernel)];exact⟨rfl,rfl⟩))
   (fun os started H enc _=> dialCheap_lifted os started H enc)
theorem dialCheap_card:Rows.DialCheapCardSaid:=
 holds_tied_goes .later [.data,.data,.data,.data,.data,.funcs,.pinned] true (true, "c97b90e5d6d4e63ca43efbfea10a06e4edb833d053cfb658d244a3fb6c593e3f") false
   dialCheap_holds (by as_aux_lemma=> kernel_rfl) dialCheap_row_tie rfl ⟨rfl,rfl⟩ (by as_aux_lemma=> kernel_rfl) rfl
   (fun f fn hf hfn=> by
     obtain rfl:f=10:=Option.some.inj (dialCheap_named.symm.trans hf) |>.symm;obtain rfl:fn=Tryz.f10:=(Option.some.inj (func10.symm.trans hfn)).symm;exact⟨by as_aux_lemma=> kernel_rfl,no_stand (by rw[Tryz.params10];as_aux_lemma=> kernel_rfl)⟩)
   (by as_aux_lemma=> kernel_rfl)
#print axioms dialCheap_card
end Go.Proofs.YtdnfdeplcjaonaaGreatDoor
