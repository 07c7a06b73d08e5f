/-
 signalTexts_card proves the given statement SignalTextsCardSaid as it stands: from every start that the card describes, on every schedule, the call of SignalTexts ends, answers true and leaves what it was given as it was.
 Conditions: those of the given statement itself, no others.
-/
import Derived.Test.YtgkmnalhddmclaaGreatDoorT13
namespace Go.Proofs.YtgkmnalhddmclaaGreatDoor
open Go.RL Go.Proofs.Tryz Go.ChangeShapes Go.WideShapes Go.ChangeAt Go.RowKit
set_option maxRecDepth 100000
set_option maxHeartbeats 0
abbrev WO:List (String×DataW Unit):= [("math/bits.deBruijn32tab",Rows.laid_math_bits_deBruijn32tab),("math/bits.deBruijn64tab",Rows.laid_math_bits_deBruijn64tab),("internal/strconv.uint64pow10",Rows.laid_internal_strconv_uint64pow10),("unicode/utf8.acceptRanges",Rows.laid_unicode_utf8_acceptRanges),("strconv.ErrRange",Rows.laid_strconv_ErrRange),("strconv.ErrSyntax",Rows.laid_strconv_ErrSyntax),("baudot/signal.checks",Rows.laid_baudot_signal_checks),("unicode/utf8.first",Rows.laid_unicode_utf8_first)]
abbrev EF:List (String×DataW Unit):=WO.filter fun x=> x.2.handleName?.isNone
noncomputable def WK (os:Os):World:=(World.doorLaid prog 600 os).layVars prog EF
theorem W0(os:Os):(WK os).os=os:=World.layVars_os _ _ _
theorem jV(os:Os):(World.doorLaid prog 600 os).layFits prog EF []=true:=by kernel_rfl
theorem QQ(os:Os):(World.doorLaid prog 600 os).layIfaces prog EF (WK os)=true:=by kernel_rfl
theorem dT(os:Os)(args:Array Value):laidMet prog EF ((WK os).forCall (fun _ _=> 0) ⟨#[],args,[]⟩).memory:=by
 have e1:(EF.filter fun x=> (EF.map (·.1)).contains x.1)=EF:=List.filter_eq_self.2 fun x hx=> List.contains_iff_mem.2 (List.mem_map.2 ⟨x,hx,rfl⟩);have e2:(EF.filter fun x=> !(EF.map (·.1)).contains x.1)= []:=List.filter_eq_nil_iff.2 fun x hx=> by rw[List.contains_iff_mem.2 (List.mem_map.2 ⟨x,hx,rfl⟩)];simp
 have h:laidMet prog EF (WK os):=laidMet_layVars (w0:=World.doorLaid prog 600 os) (EF.map (·.1)) [] (by rw[e1];rfl) (by rw[e1];exact jV os) (by rw[e1];exact QQ os) (by rw[e2];exact LaidIn.none);exact h.of_heap (by simp[World.memory,World.forCall,Input.heap])
theorem QY(os:Os)(args:Array Value):laidMetH prog WO ((WK os).forCall (fun _ _=> 0) ⟨#[],args,[]⟩).memory:=
 laidMetH_of_parts3 (fuel:=8) (dT os args) kR kR
theorem IJ(os:Os)(started:os.Started)(H:Type)(enc:TypeId×Value->H)(F:Stop.Interp):
  ReturnsInLeavingWide Rows.signalTextsRow.assume Tryz.checked os 3 .any (Rows.signalTextsRow.pre enc prog Tryz.f3 (OpenSpec.ofChange Rows.signalTextsSpec))
   ((OpenSpec.ofChange Rows.signalTextsSpec).postWith enc prog Tryz.f3 F (outsideKept [.timePasses]) false true false):=by
 refine lifted (LL:=WO) (n:=67) (body:=VG Tryz.f3) (a:= { calm:=true }) func3 kR ntmps3 kR (Nat.le_of_ble_eq_true kR) kR kR rfl (fun ds h=> ?_) started
  (gR (os:=os) (C:=Tryz.checked) (enc:=enc) (s:=Rows.signalTextsSpec) (fn:=Tryz.f3) (f:=3) (X:=fun w _=> laidMetH prog WO w) (WK os) #[.agg ⟨[.int .i64 0,.int .i64 0,.slice none 0 0,.int .i64 0,.int .i64 0,.int .i64 0,.int .i64 0]⟩,.string ⟨#[]⟩] 8 (W0 os) (World.shaped_of_ZipB kR kR) kR kR kR (QY os _)) ?_
 ·rw[Tryz.params3] at h
  match ds,h with
  | [a,b],_=> rfl
 ·intro W base vs ds p hlen tO hA DK hL St aEn;rw[Tryz.params3] at hlen tO hA;obtain⟨v0,v1,rfl⟩:∃a b,vs= [a,b]:=by
   match vs,hlen with
   | [a,b],_=> exact⟨a,b,rfl⟩
  have hG:=D5 (by simp[WO]) hL;have hP:=aAD (List.mem_filter.2 ⟨by simp[WO],by kernel_rfl⟩) hL;obtain⟨ch,A,lc,rfl,hm0,hLn⟩:=QU (tO 0 26 v0 rfl rfl) (IN hA 0 26 v0 rfl rfl);obtain⟨s,rfl⟩:=G0 (tO 1 9 v1 rfl rfl);exact A4 (TF W) hG hP ch A lc hLn s (fun H₀ R L kk hv hle=> aEn H₀ R L kk (.inr ⟨4,results3,hv⟩) hle)
theorem HJ:joinedFacts prog 3 Tryz.f3 Rows.signalTextsSpec Rows.signalTextsRow=true:=by
 simp only[joinedFacts,Bool.and_eq_true]
 repeat' apply And.intro
 all_goals (as_aux_lemma=> kernel_rfl)
theorem aG:prog.funcNamed "baudot/baudotlaw02.SignalTexts"=some 3:=by kernel_rfl
theorem rK:Rows.SignalTextsSaid:=
 OpenClaim.holds_of_wide_leaving_time 3 Tryz.f3 rfl rfl rfl rfl rfl rfl rfl ⟨rfl,rfl,rfl,rfl,rfl⟩ rfl rfl rfl rfl rfl aG func3 HJ
  (of_decide_eq_true (by as_aux_lemma=> kernel_rfl)) (by unfold Func.isWrapper;rw[if_neg (by decide +kernel)];exact⟨rfl,rfl⟩)
  (fun os started H enc _ F=> IJ os started H enc F)
theorem signalTexts_card:Rows.SignalTextsCardSaid:=
 PL .later [.data,.data,.data,.data,.sentinel,.sentinel,.funcsDeep,.pinned] true (true, "32a6d71e44a14bc13102d8882896ad3b01c67f32fd2ddbc160ff71b3e9e89277") true
  rK (by as_aux_lemma=> kernel_rfl) signalTexts_row_tie rfl ⟨rfl,rfl⟩ (by as_aux_lemma=> kernel_rfl) rfl
  (fun f fn hf gU=> by
   obtain rfl:f=3:=Option.some.inj (aG.symm.trans hf) |>.symm;obtain rfl:fn=Tryz.f3:=(Option.some.inj (func3.symm.trans gU)).symm;exact⟨by as_aux_lemma=> kernel_rfl,WZ (by rw[Tryz.params3];as_aux_lemma=> kernel_rfl)⟩)
  (by as_aux_lemma=> kernel_rfl)
#print axioms signalTexts_card
end Go.Proofs.YtgkmnalhddmclaaGreatDoor
