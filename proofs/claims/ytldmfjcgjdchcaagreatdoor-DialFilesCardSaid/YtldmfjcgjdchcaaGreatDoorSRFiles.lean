/-
 dialFiles_card proves the given statement DialFilesCardSaid as it stands: from every start that the card describes, on every schedule, the call of DialFiles ends, answers true and leaves what it was given as it was.
 Conditions: those of the given statement itself, no others.
-/
import Derived.Test.YtldmfjcgjdchcaaGreatDoorS17
namespace Go.Proofs.YtldmfjcgjdchcaaGreatDoor
open Go.RL Go.Proofs.Tryz Go.ChangeShapes Go.WideShapes Go.ChangeAt Go.RowKit
set_option maxRecDepth 100000
set_option maxHeartbeats 0
abbrev rQ:List (String×DataW Unit):= [("math/bits.deBruijn32tab",Rows.laid_math_bits_deBruijn32tab),("math/bits.deBruijn64tab",Rows.laid_math_bits_deBruijn64tab),("internal/strconv.uint64pow10",Rows.laid_internal_strconv_uint64pow10),("unicode/utf8.acceptRanges",Rows.laid_unicode_utf8_acceptRanges),("strconv.ErrRange",Rows.laid_strconv_ErrRange),("strconv.ErrSyntax",Rows.laid_strconv_ErrSyntax),("baudot/dial.not",Rows.laid_baudot_dial_not),("baudot/dial.claims",Rows.laid_baudot_dial_claims),("baudot/dial.checks",Rows.laid_baudot_dial_checks),("unicode/utf8.first",Rows.laid_unicode_utf8_first)]
abbrev iH:List (String×DataW Unit):=rQ.filter fun x=> x.2.handleName?.isNone
noncomputable def UN (os:Os):World:=(World.doorLaid prog 600 os).layVars prog iH
theorem Y9(os:Os):(UN os).os=os:=World.layVars_os _ _ _
theorem KY(os:Os):(World.doorLaid prog 600 os).layFits prog iH []=true:=by kernel_rfl
theorem qU(os:Os):(World.doorLaid prog 600 os).layIfaces prog iH (UN os)=true:=by kernel_rfl
theorem FW(os:Os)(args:Array Value):laidMet prog iH ((UN os).forCall (fun _ _=> 0) ⟨#[],args,[]⟩).memory:=by
 have e1:(iH.filter fun x=> (iH.map (·.1)).contains x.1)=iH:=List.filter_eq_self.2 fun x hx=> List.contains_iff_mem.2 (List.mem_map.2 ⟨x,hx,rfl⟩);have e2:(iH.filter fun x=> !(iH.map (·.1)).contains x.1)= []:=List.filter_eq_nil_iff.2 fun x hx=> by rw[List.contains_iff_mem.2 (List.mem_map.2 ⟨x,hx,rfl⟩)];simp
 have h:laidMet prog iH (UN os):=laidMet_layVars (w0:=World.doorLaid prog 600 os) (iH.map (·.1)) [] (by rw[e1];rfl) (by rw[e1];exact KY os) (by rw[e1];exact qU os) (by rw[e2];exact LaidIn.none);exact h.of_heap (by simp[World.memory,World.forCall,Input.heap])
theorem j7(os:Os)(args:Array Value):laidMetH prog rQ ((UN os).forCall (fun _ _=> 0) ⟨#[],args,[]⟩).memory:=
 laidMetH_of_parts3 (fuel:=8) (FW os args) kR kR
theorem tN(os:Os)(started:os.Started)(H:Type)(enc:TypeId×Value->H):
  ReturnsInLeavingWide Rows.dialFilesRow.assume Tryz.checked os 7 .any (Rows.dialFilesRow.pre enc prog Tryz.f7 (OpenSpec.ofChange Rows.dialFilesSpec))
   (Rows.dialFilesSpec.post enc prog Tryz.f7 false true false false):=by
 refine lifted (LL:=rQ) (n:=67) (body:=kN Tryz.f7) (a:= {}) func7 kR ntmps7 kR (Nat.le_of_ble_eq_true kR) kR kR rfl (fun ds h=> ?_) started
  (JR (os:=os) (C:=Tryz.checked) (enc:=enc) (s:=Rows.dialFilesSpec) (fn:=Tryz.f7) (f:=7) (X:=fun w _=> laidMetH prog rQ w) (UN os) #[.string ⟨#[]⟩,.agg ⟨[.iz 0,.iz 0,.slice none 0 0,.slice none 0 0]⟩] 8 (Y9 os) (World.shaped_of_ZipB kR kR) kR kR kR (j7 os _)) ?_
 ·rw[Tryz.params7] at h
  match ds,h with
  | [a,b],_=> rfl
 ·intro W base vs ds p hlen CR hA vO hL St aHf;rw[Tryz.params7] at hlen CR hA;obtain⟨v0,v1,rfl⟩:∃a b,vs= [a,b]:=by
   match vs,hlen with
   | [a,b],_=> exact⟨a,b,rfl⟩
  have hG:=aBj (by simp[rQ]) (List.mem_filter.2 ⟨by simp[rQ],by kernel_rfl⟩) hL;have hD:=aCE (List.mem_filter.2 ⟨by simp[rQ],by kernel_rfl⟩) hL;obtain⟨s,rfl⟩:=w9 (CR 0 9 v0 rfl rfl);obtain⟨k,A,lc,B,tc,rfl,hk⟩:=W3 (CR 1 45 v1 rfl rfl) (dR hA 1 45 v1 rfl rfl);exact aAD (UD W) hG hD s k A lc B tc hk (fun H₀ R L kk hv hle=> aHf H₀ R L kk (.inr ⟨4,results7,hv⟩) hle)
theorem rN:joinedFacts prog 7 Tryz.f7 Rows.dialFilesSpec Rows.dialFilesRow=true:=by
 simp only[joinedFacts,Bool.and_eq_true]
 repeat' apply And.intro
 all_goals (as_aux_lemma=> kernel_rfl)
theorem jJ:prog.funcNamed "baudot/baudotlaw03.DialFiles"=some 7:=by kernel_rfl
theorem SO:Rows.DialFilesSaid:=
 OpenClaim.holds_of_wide_leaving 7 Tryz.f7 rfl rfl rfl rfl rfl rfl rfl ⟨rfl,rfl,rfl,rfl,rfl⟩ rfl rfl rfl rfl rfl jJ func7 rN
  (of_decide_eq_true (by as_aux_lemma=> kernel_rfl)) (by unfold Func.isWrapper;rw[if_neg (by decide +kernel)];exact⟨rfl,rfl⟩)
  (fun os started H enc _=> tN os started H enc)
theorem dialFiles_card:Rows.DialFilesCardSaid:=
 UO .later [.data,.data,.data,.data,.sentinel,.sentinel,.data,.widerDeep,.funcs,.pinned] true (true, "ebcf6a6dbc55a69e65389772c1e506a555380a9550a06ec3aee06a70070baba7") true
  SO (by as_aux_lemma=> kernel_rfl) dialFiles_row_tie rfl ⟨rfl,rfl⟩ (by as_aux_lemma=> kernel_rfl) rfl
  (fun f fn hf QX=> by
   obtain rfl:f=7:=Option.some.inj (jJ.symm.trans hf) |>.symm;obtain rfl:fn=Tryz.f7:=(Option.some.inj (func7.symm.trans QX)).symm;exact⟨by as_aux_lemma=> kernel_rfl,q9 (by rw[Tryz.params7];as_aux_lemma=> kernel_rfl)⟩)
  (by as_aux_lemma=> kernel_rfl)
#print axioms dialFiles_card
end Go.Proofs.YtldmfjcgjdchcaaGreatDoor
