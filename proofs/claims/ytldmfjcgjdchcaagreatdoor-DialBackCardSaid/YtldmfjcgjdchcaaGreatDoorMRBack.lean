/-
 dialBack_card proves the given statement DialBackCardSaid as it stands: from every start that the card describes, on every schedule, the call of DialBack ends, answers true and leaves what it was given as it was.
 Conditions: those of the given statement itself, no others.
-/
import Derived.Test.YtldmfjcgjdchcaaGreatDoorM13
namespace Go.Proofs.YtldmfjcgjdchcaaGreatDoor
open Go.RL Go.Proofs.Tryz Go.ChangeShapes Go.WideShapes Go.ChangeAt Go.RowKit
set_option maxRecDepth 100000
set_option maxHeartbeats 0
abbrev ZN:List (String×DataW Unit):= [("math/bits.deBruijn32tab",Rows.laid_math_bits_deBruijn32tab),("math/bits.deBruijn64tab",Rows.laid_math_bits_deBruijn64tab),("internal/strconv.uint64pow10",Rows.laid_internal_strconv_uint64pow10),("unicode/utf8.acceptRanges",Rows.laid_unicode_utf8_acceptRanges),("strconv.ErrRange",Rows.laid_strconv_ErrRange),("strconv.ErrSyntax",Rows.laid_strconv_ErrSyntax),("baudot/dial.not",Rows.laid_baudot_dial_not),("baudot/dial.claims",Rows.laid_baudot_dial_claims),("baudot/dial.checks",Rows.laid_baudot_dial_checks),("unicode/utf8.first",Rows.laid_unicode_utf8_first)]
abbrev GF:List (String×DataW Unit):=ZN.filter fun x=> x.2.handleName?.isNone
noncomputable def QL (os:Os):World:=(World.doorLaid prog 600 os).layVars prog GF
theorem Q3(os:Os):(QL os).os=os:=World.layVars_os _ _ _
theorem PV(os:Os):(World.doorLaid prog 600 os).layFits prog GF []=true:=by kernel_rfl
theorem JR(os:Os):(World.doorLaid prog 600 os).layIfaces prog GF (QL os)=true:=by kernel_rfl
theorem OT(os:Os)(args:Array Value):laidMet prog GF ((QL os).forCall (fun _ _=> 0) ⟨#[],args,[]⟩).memory:=by
 have e1:(GF.filter fun x=> (GF.map (·.1)).contains x.1)=GF:=List.filter_eq_self.2 fun x hx=> List.contains_iff_mem.2 (List.mem_map.2 ⟨x,hx,rfl⟩);have e2:(GF.filter fun x=> !(GF.map (·.1)).contains x.1)= []:=List.filter_eq_nil_iff.2 fun x hx=> by rw[List.contains_iff_mem.2 (List.mem_map.2 ⟨x,hx,rfl⟩)];simp
 have h:laidMet prog GF (QL os):=laidMet_layVars (w0:=World.doorLaid prog 600 os) (GF.map (·.1)) [] (by rw[e1];rfl) (by rw[e1];exact PV os) (by rw[e1];exact JR os) (by rw[e2];exact LaidIn.none);exact h.of_heap (by simp[World.memory,World.forCall,Input.heap])
theorem KZ(os:Os)(args:Array Value):laidMetH prog ZN ((QL os).forCall (fun _ _=> 0) ⟨#[],args,[]⟩).memory:=
 laidMetH_of_parts3 (fuel:=8) (OT os args) kR kR
theorem NM(os:Os)(started:os.Started)(H:Type)(enc:TypeId×Value->H):
  ReturnsInLeavingWide Rows.dialBackRow.assume Tryz.checked os 8 .any (Rows.dialBackRow.pre enc prog Tryz.f8 (OpenSpec.ofChange Rows.dialBackSpec))
   (Rows.dialBackSpec.post enc prog Tryz.f8 false true false false):=by
 refine lifted (LL:=ZN) (n:=73) (body:=oL Tryz.f8) (a:= {}) func8 kR ntmps8 kR (Nat.le_of_ble_eq_true kR) kR kR rfl (fun ds h=> ?_) started
  (qP (os:=os) (C:=Tryz.checked) (enc:=enc) (s:=Rows.dialBackSpec) (fn:=Tryz.f8) (f:=8) (X:=fun w _=> laidMetH prog ZN w) (QL os) #[.agg ⟨[.int .i64 0,.int .i64 0,.slice none 0 0,.slice none 0 0]⟩] 8 (Q3 os) (World.shaped_of_ZipB kR kR) kR kR kR (KZ os _)) ?_
 ·rw[Tryz.params8] at h
  match ds,h with
  | [a],_=> rfl
 ·intro W base vs ds p hlen u7 hA fN hL St aEs;rw[Tryz.params8] at hlen u7 hA;obtain⟨v0,rfl⟩:∃a,vs= [a]:=by
   match vs,hlen with
   | [a],_=> exact⟨a,rfl⟩
  have hG:=Q6 (by simp[ZN]) (List.mem_filter.2 ⟨by simp[ZN],by kernel_rfl⟩) hL;have hD:=S9 (List.mem_filter.2 ⟨by simp[ZN],by kernel_rfl⟩) hL;obtain⟨k,A,lc,B,tc,rfl,hk⟩:=kY (u7 0 45 v0 rfl rfl) (LO hA 0 45 v0 rfl rfl);exact u9 (jD W) hG hD k A lc B tc hk (fun H₀ R L kk hv hle=> aEs H₀ R L kk (.inr ⟨2,results8,hv⟩) hle)
theorem MM:joinedFacts prog 8 Tryz.f8 Rows.dialBackSpec Rows.dialBackRow=true:=by
 simp only[joinedFacts,Bool.and_eq_true]
 repeat' apply And.intro
 all_goals (as_aux_lemma=> kernel_rfl)
theorem PH:prog.funcNamed "baudot/baudotlaw03.DialBack"=some 8:=by kernel_rfl
theorem BN:Rows.DialBackSaid:=
 OpenClaim.holds_of_wide_leaving 8 Tryz.f8 rfl rfl rfl rfl rfl rfl rfl ⟨rfl,rfl,rfl,rfl,rfl⟩ rfl rfl rfl rfl rfl PH func8 MM
  (of_decide_eq_true (by as_aux_lemma=> kernel_rfl)) (by unfold Func.isWrapper;rw[if_neg (by decide +kernel)];exact⟨rfl,rfl⟩)
  (fun os started H enc _=> NM os started H enc)
theorem dialBack_card:Rows.DialBackCardSaid:=
 PM .later [.data,.data,.data,.data,.sentinel,.sentinel,.data,.widerDeep,.funcs,.pinned] true (true, "ebcf6a6dbc55a69e65389772c1e506a555380a9550a06ec3aee06a70070baba7") true
  BN (by as_aux_lemma=> kernel_rfl) dialBack_row_tie rfl ⟨rfl,rfl⟩ (by as_aux_lemma=> kernel_rfl) rfl
  (fun f fn hf UU=> by
   obtain rfl:f=8:=Option.some.inj (PH.symm.trans hf) |>.symm;obtain rfl:fn=Tryz.f8:=(Option.some.inj (func8.symm.trans UU)).symm;exact⟨by as_aux_lemma=> kernel_rfl,J2 (by rw[Tryz.params8];as_aux_lemma=> kernel_rfl)⟩)
  (by as_aux_lemma=> kernel_rfl)
#print axioms dialBack_card
end Go.Proofs.YtldmfjcgjdchcaaGreatDoor
