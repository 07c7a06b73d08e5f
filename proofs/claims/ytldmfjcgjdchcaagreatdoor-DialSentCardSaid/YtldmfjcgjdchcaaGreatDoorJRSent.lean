/-
 dialSent_card proves the given statement DialSentCardSaid as it stands: from every start that the card describes, on every schedule, the call of DialSent ends, answers true and leaves what it was given as it was.
 Conditions: those of the given statement itself, no others.
-/
import Derived.Test.YtldmfjcgjdchcaaGreatDoorJ16
namespace Go.Proofs.YtldmfjcgjdchcaaGreatDoor
open Go.RL Go.Proofs.Tryz Go.ChangeShapes Go.WideShapes Go.ChangeAt Go.RowKit
set_option maxRecDepth 100000
set_option maxHeartbeats 0
abbrev oP:List (String×DataW Unit):= [("math/bits.deBruijn32tab",Rows.laid_math_bits_deBruijn32tab),("math/bits.deBruijn64tab",Rows.laid_math_bits_deBruijn64tab),("internal/strconv.uint64pow10",Rows.laid_internal_strconv_uint64pow10),("unicode/utf8.acceptRanges",Rows.laid_unicode_utf8_acceptRanges),("baudot/dial.not",Rows.laid_baudot_dial_not),("baudot/dial.checks",Rows.laid_baudot_dial_checks),("baudot/signal.checks",Rows.laid_baudot_signal_checks),("unicode/utf8.first",Rows.laid_unicode_utf8_first)]
abbrev CG:List (String×DataW Unit):=oP.filter fun x=> x.2.handleName?.isNone
noncomputable def bN (os:Os):World:=(World.doorLaid prog 600 os).layVars prog CG
theorem B7(os:Os):(bN os).os=os:=World.layVars_os _ _ _
theorem RX(os:Os):(World.doorLaid prog 600 os).layFits prog CG []=true:=by kernel_rfl
theorem eT(os:Os):(World.doorLaid prog 600 os).layIfaces prog CG (bN os)=true:=by kernel_rfl
theorem FV(os:Os)(args:Array Value):laidMet prog CG ((bN os).forCall (fun _ _=> 0) ⟨#[],args,[]⟩).memory:=by
 have e1:(CG.filter fun x=> (CG.map (·.1)).contains x.1)=CG:=List.filter_eq_self.2 fun x hx=> List.contains_iff_mem.2 (List.mem_map.2 ⟨x,hx,rfl⟩);have e2:(CG.filter fun x=> !(CG.map (·.1)).contains x.1)= []:=List.filter_eq_nil_iff.2 fun x hx=> by rw[List.contains_iff_mem.2 (List.mem_map.2 ⟨x,hx,rfl⟩)];simp
 have h:laidMet prog CG (bN os):=laidMet_layVars (w0:=World.doorLaid prog 600 os) (CG.map (·.1)) [] (by rw[e1];rfl) (by rw[e1];exact RX os) (by rw[e1];exact eT os) (by rw[e2];exact LaidIn.none);exact h.of_heap (by simp[World.memory,World.forCall,Input.heap])
theorem A4(os:Os)(args:Array Value):laidMetH prog oP ((bN os).forCall (fun _ _=> 0) ⟨#[],args,[]⟩).memory:=
 laidMetH_of_parts3 (fuel:=8) (FV os args) kR kR
theorem WN(os:Os)(started:os.Started)(H:Type)(enc:TypeId×Value->H):
  ReturnsInLeavingWide Rows.dialSentRow.assume Tryz.checked os 5 .any (Rows.dialSentRow.pre enc prog Tryz.f5 (OpenSpec.ofChange Rows.dialSentSpec))
   (Rows.dialSentSpec.post enc prog Tryz.f5 false true false false):=by
 refine lifted (LL:=oP) (n:=86) (body:=uM Tryz.f5) (a:= {}) func5 kR ntmps5 kR (Nat.le_of_ble_eq_true kR) kR kR rfl (fun ds h=> ?_) started
  (BQ (os:=os) (C:=Tryz.checked) (enc:=enc) (s:=Rows.dialSentSpec) (fn:=Tryz.f5) (f:=5) (X:=fun w _=> laidMetH prog oP w) (bN os) #[.agg ⟨[.int .i64 0,.int .i64 0,.slice none 0 0,.slice none 0 0]⟩,.agg ⟨[.int .i64 0,.int .i64 0,.int .i64 0,.int .i64 0,.int .i64 0,.int .i64 0,.int .i64 0,.int .i64 0]⟩,.slice none 0 0,.int .u8 0,.slice none 0 0] 8 (B7 os) (World.shaped_of_ZipB kR kR) kR kR kR (A4 os _)) ?_
 ·rw[Tryz.params5] at h
  match ds,h with
  | [a,b,c,d,e],_=> rfl
 ·intro W base vs ds p hlen PU hA tO hL St aGk;rw[Tryz.params5] at hlen PU hA;obtain⟨v0,v1,v2,v3,v4,rfl⟩:∃a b c d e,vs= [a,b,c,d,e]:=by
   match vs,hlen with
   | [a,b,c,d,e],_=> exact⟨a,b,c,d,e,rfl⟩
  have hG:=aAb (by simp[oP]) (List.mem_filter.2 ⟨by simp[oP],by kernel_rfl⟩) hL;have hC:=p7 (by simp[oP]) hL;obtain⟨k,A,lc,B,tc,rfl,hk⟩:=G0 (PU 0 45 v0 rfl rfl) (iI hA 0 45 v0 rfl rfl);obtain⟨F,fc,hB⟩:=hk.book;obtain⟨q,rfl⟩:=H0 (PU 1 49 v1 rfl rfl);obtain⟨C,nc,cc,c0,rfl,A8⟩:=AX (PU 2 60 v2 rfl rfl) (iI hA 2 60 v2 rfl rfl);obtain⟨p,rfl,hp⟩:=aAx (PU 3 5 v3 rfl rfl);obtain⟨X,l,xc,rfl,hX⟩:=jV (PU 4 50 v4 rfl rfl) (iI hA 4 50 v4 rfl rfl);exact aBv (NC W) hG hC k A lc B tc F fc hB q C nc cc c0 A8 p hp X l l.length xc rfl hX (fun H₀ R L kk hv hle=> aGk H₀ R L kk (.inr ⟨10,results5,hv⟩) hle)
theorem VN:joinedFacts prog 5 Tryz.f5 Rows.dialSentSpec Rows.dialSentRow=true:=by
 simp only[joinedFacts,Bool.and_eq_true]
 repeat' apply And.intro
 all_goals (as_aux_lemma=> kernel_rfl)
theorem WI:prog.funcNamed "baudot/baudotlaw03.DialSent"=some 5:=by kernel_rfl
theorem OO:Rows.DialSentSaid:=
 OpenClaim.holds_of_wide_leaving 5 Tryz.f5 rfl rfl rfl rfl rfl rfl rfl ⟨rfl,rfl,rfl,rfl,rfl⟩ rfl rfl rfl rfl rfl WI func5 VN
  (of_decide_eq_true (by as_aux_lemma=> kernel_rfl)) (by unfold Func.isWrapper;rw[if_neg (by decide +kernel)];exact⟨rfl,rfl⟩)
  (fun os started H enc _=> WN os started H enc)
theorem dialSent_card:Rows.DialSentCardSaid:=
 bO .later [.data,.data,.data,.data,.data,.funcs,.funcsDeep,.pinned] true (true, "ebcf6a6dbc55a69e65389772c1e506a555380a9550a06ec3aee06a70070baba7") true
  OO (by as_aux_lemma=> kernel_rfl) dialSent_row_tie rfl ⟨rfl,rfl⟩ (by as_aux_lemma=> kernel_rfl) rfl
  (fun f fn hf aX=> by
   obtain rfl:f=5:=Option.some.inj (WI.symm.trans hf) |>.symm;obtain rfl:fn=Tryz.f5:=(Option.some.inj (func5.symm.trans aX)).symm;exact⟨by as_aux_lemma=> kernel_rfl,u6 (by rw[Tryz.params5];as_aux_lemma=> kernel_rfl)⟩)
  (by as_aux_lemma=> kernel_rfl)
#print axioms dialSent_card
end Go.Proofs.YtldmfjcgjdchcaaGreatDoor
