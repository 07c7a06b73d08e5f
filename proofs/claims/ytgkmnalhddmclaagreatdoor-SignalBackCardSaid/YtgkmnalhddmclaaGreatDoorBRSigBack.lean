/-
 signalBack_card proves the given statement SignalBackCardSaid as it stands: from every start that the card describes, on every schedule, the call of SignalBack ends, answers true and leaves what it was given as it was.
 Conditions: those of the given statement itself, no others.
-/
import Derived.Test.YtgkmnalhddmclaaGreatDoorB12
namespace Go.Proofs.YtgkmnalhddmclaaGreatDoor
open Go.RL Go.Proofs.Tryz Go.ChangeShapes Go.WideShapes Go.ChangeAt Go.RowKit
set_option maxRecDepth 100000
set_option maxHeartbeats 0
abbrev aO:List (String×DataW Unit):= [("math/bits.deBruijn32tab",Rows.laid_math_bits_deBruijn32tab),("math/bits.deBruijn64tab",Rows.laid_math_bits_deBruijn64tab),("internal/strconv.uint64pow10",Rows.laid_internal_strconv_uint64pow10),("unicode/utf8.acceptRanges",Rows.laid_unicode_utf8_acceptRanges),("strconv.ErrRange",Rows.laid_strconv_ErrRange),("strconv.ErrSyntax",Rows.laid_strconv_ErrSyntax),("baudot/signal.checks",Rows.laid_baudot_signal_checks),("unicode/utf8.first",Rows.laid_unicode_utf8_first)]
abbrev aF:List (String×DataW Unit):=aO.filter fun x=> x.2.handleName?.isNone
noncomputable def oK (os:Os):World:=(World.doorLaid prog 600 os).layVars prog aF
theorem fZ(os:Os):(oK os).os=os:=World.layVars_os _ _ _
theorem aU(os:Os):(World.doorLaid prog 600 os).layFits prog aF []=true:=by kernel_rfl
theorem RP(os:Os):(World.doorLaid prog 600 os).layIfaces prog aF (oK os)=true:=by kernel_rfl
theorem XR(os:Os)(args:Array Value):laidMet prog aF ((oK os).forCall (fun _ _=> 0) ⟨#[],args,[]⟩).memory:=by
 have e1:(aF.filter fun x=> (aF.map (·.1)).contains x.1)=aF:=List.filter_eq_self.2 fun x hx=> List.contains_iff_mem.2 (List.mem_map.2 ⟨x,hx,rfl⟩);have e2:(aF.filter fun x=> !(aF.map (·.1)).contains x.1)= []:=List.filter_eq_nil_iff.2 fun x hx=> by rw[List.contains_iff_mem.2 (List.mem_map.2 ⟨x,hx,rfl⟩)];simp
 have h:laidMet prog aF (oK os):=laidMet_layVars (w0:=World.doorLaid prog 600 os) (aF.map (·.1)) [] (by rw[e1];rfl) (by rw[e1];exact aU os) (by rw[e1];exact RP os) (by rw[e2];exact LaidIn.none);exact h.of_heap (by simp[World.memory,World.forCall,Input.heap])
theorem yX(os:Os)(args:Array Value):laidMetH prog aO ((oK os).forCall (fun _ _=> 0) ⟨#[],args,[]⟩).memory:=
 laidMetH_of_parts3 (fuel:=8) (XR os args) kR kR
theorem KJ(os:Os)(started:os.Started)(H:Type)(enc:TypeId×Value->H)(F:Stop.Interp):
  ReturnsInLeavingWide Rows.signalBackRow.assume Tryz.checked os 4 .any (Rows.signalBackRow.pre enc prog Tryz.f4 (OpenSpec.ofChange Rows.signalBackSpec))
   ((OpenSpec.ofChange Rows.signalBackSpec).postWith enc prog Tryz.f4 F (outsideKept [.timePasses]) false true false):=by
 refine lifted (LL:=aO) (n:=76) (body:=nG Tryz.f4) (a:= { calm:=true }) func4 kR ntmps4 kR (Nat.le_of_ble_eq_true kR) kR kR rfl (fun ds h=> ?_) started
  (jQ (os:=os) (C:=Tryz.checked) (enc:=enc) (s:=Rows.signalBackSpec) (fn:=Tryz.f4) (f:=4) (X:=fun w _=> laidMetH prog aO w) (oK os) #[.agg ⟨[.int .i64 0,.int .i64 0,.slice none 0 0,.int .i64 0,.int .i64 0,.int .i64 0,.int .i64 0]⟩] 8 (fZ os) (World.shaped_of_ZipB kR kR) kR kR kR (yX os _)) ?_
 ·rw[Tryz.params4] at h
  match ds,h with
  | [a],_=> rfl
 ·intro W base vs ds p hlen F3 hA UJ hL St aC5;rw[Tryz.params4] at hlen F3 hA;obtain⟨v0,rfl⟩:∃a,vs= [a]:=by
   match vs,hlen with
   | [a],_=> exact⟨a,rfl⟩
  have hG:=Y1 (by simp[aO]) hL;have hP:=J8 (List.mem_filter.2 ⟨by simp[aO],by kernel_rfl⟩) hL;obtain⟨ch,A,lc,rfl,hm0,hA⟩:=zT (F3 0 26 v0 rfl rfl) (WM hA 0 26 v0 rfl rfl);exact RZ (qF W) hG hP ch A lc hA (fun H₀ R L kk hv hle=> aC5 H₀ R L kk (.inr ⟨2,results4,hv⟩) hle)
theorem JJ:joinedFacts prog 4 Tryz.f4 Rows.signalBackSpec Rows.signalBackRow=true:=by
 simp only[joinedFacts,Bool.and_eq_true]
 repeat' apply And.intro
 all_goals (as_aux_lemma=> kernel_rfl)
theorem cG:prog.funcNamed "baudot/baudotlaw02.SignalBack"=some 4:=by kernel_rfl
theorem mK:Rows.SignalBackSaid:=
 OpenClaim.holds_of_wide_leaving_time 4 Tryz.f4 rfl rfl rfl rfl rfl rfl rfl ⟨rfl,rfl,rfl,rfl,rfl⟩ rfl rfl rfl rfl rfl cG func4 JJ
  (of_decide_eq_true (by as_aux_lemma=> kernel_rfl)) (by unfold Func.isWrapper;rw[if_neg (by decide +kernel)];exact⟨rfl,rfl⟩)
  (fun os started H enc _ F=> KJ os started H enc F)
theorem signalBack_card:Rows.SignalBackCardSaid:=
 eL .later [.data,.data,.data,.data,.sentinel,.sentinel,.funcsDeep,.pinned] true (true, "32a6d71e44a14bc13102d8882896ad3b01c67f32fd2ddbc160ff71b3e9e89277") true
  mK (by as_aux_lemma=> kernel_rfl) signalBack_row_tie rfl ⟨rfl,rfl⟩ (by as_aux_lemma=> kernel_rfl) rfl
  (fun f fn hf US=> by
   obtain rfl:f=4:=Option.some.inj (cG.symm.trans hf) |>.symm;obtain rfl:fn=Tryz.f4:=(Option.some.inj (func4.symm.trans US)).symm;exact⟨by as_aux_lemma=> kernel_rfl,IY (by rw[Tryz.params4];as_aux_lemma=> kernel_rfl)⟩)
  (by as_aux_lemma=> kernel_rfl)
#print axioms signalBack_card
end Go.Proofs.YtgkmnalhddmclaaGreatDoor
