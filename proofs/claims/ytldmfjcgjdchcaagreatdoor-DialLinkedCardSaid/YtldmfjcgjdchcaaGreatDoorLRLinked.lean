/-
 dialLinked_card proves the given statement DialLinkedCardSaid as it stands: from every start that the card describes, on every schedule, the call of DialLinked ends, answers true and leaves what it was given as it was.
 Conditions: those of the given statement itself, no others.
-/
import Derived.Test.YtldmfjcgjdchcaaGreatDoorL15
namespace Go.Proofs.YtldmfjcgjdchcaaGreatDoor
open Go.RL Go.Proofs.Tryz Go.ChangeShapes Go.WideShapes Go.ChangeAt Go.RowKit
set_option maxRecDepth 100000
set_option maxHeartbeats 0
abbrev fN:List (String×DataW Unit):= [("math/bits.deBruijn32tab",Rows.laid_math_bits_deBruijn32tab),("math/bits.deBruijn64tab",Rows.laid_math_bits_deBruijn64tab),("internal/strconv.uint64pow10",Rows.laid_internal_strconv_uint64pow10),("unicode/utf8.acceptRanges",Rows.laid_unicode_utf8_acceptRanges),("baudot/code.signs",Rows.laid_baudot_code_signs),("baudot/dial.not",Rows.laid_baudot_dial_not),("baudot/dial.checks",Rows.laid_baudot_dial_checks),("baudot/signal.checks",Rows.laid_baudot_signal_checks),("unicode/utf8.first",Rows.laid_unicode_utf8_first)]
abbrev pG:List (String×DataW Unit):=fN.filter fun x=> x.2.handleName?.isNone
noncomputable def IM (os:Os):World:=(World.doorLaid prog 600 os).layVars prog pG
theorem w7(os:Os):(IM os).os=os:=World.layVars_os _ _ _
theorem GX(os:Os):(World.doorLaid prog 600 os).layFits prog pG []=true:=by kernel_rfl
theorem iT(os:Os):(World.doorLaid prog 600 os).layIfaces prog pG (IM os)=true:=by kernel_rfl
theorem BV(os:Os)(args:Array Value):laidMet prog pG ((IM os).forCall (fun _ _=> 0) ⟨#[],args,[]⟩).memory:=by
 have e1:(pG.filter fun x=> (pG.map (·.1)).contains x.1)=pG:=List.filter_eq_self.2 fun x hx=> List.contains_iff_mem.2 (List.mem_map.2 ⟨x,hx,rfl⟩);have e2:(pG.filter fun x=> !(pG.map (·.1)).contains x.1)= []:=List.filter_eq_nil_iff.2 fun x hx=> by rw[List.contains_iff_mem.2 (List.mem_map.2 ⟨x,hx,rfl⟩)];simp
 have h:laidMet prog pG (IM os):=laidMet_layVars (w0:=World.doorLaid prog 600 os) (pG.map (·.1)) [] (by rw[e1];rfl) (by rw[e1];exact GX os) (by rw[e1];exact iT os) (by rw[e2];exact LaidIn.none);exact h.of_heap (by simp[World.memory,World.forCall,Input.heap])
theorem m4(os:Os)(args:Array Value):laidMetH prog fN ((IM os).forCall (fun _ _=> 0) ⟨#[],args,[]⟩).memory:=
 laidMetH_of_parts3 (fuel:=8) (BV os args) kR kR
theorem ZK(os:Os)(started:os.Started)(H:Type)(enc:TypeId×Value->H):
  ReturnsInLeavingWide Rows.dialLinkedRow.assume Tryz.checked os 6 .any (Rows.dialLinkedRow.pre enc prog Tryz.f6 (OpenSpec.ofChange Rows.dialLinkedSpec))
   (Rows.dialLinkedSpec.post enc prog Tryz.f6 false true false false):=by
 refine lifted (LL:=fN) (n:=205) (body:=dM Tryz.f6) (a:= {}) func6 kR ntmps6 kR (Nat.le_of_ble_eq_true kR) kR kR rfl (fun ds h=> ?_) started
  (nQ (os:=os) (C:=Tryz.checked) (enc:=enc) (s:=Rows.dialLinkedSpec) (fn:=Tryz.f6) (f:=6) (X:=fun w _=> laidMetH prog fN w) (IM os) #[.agg ⟨[.int .i64 0,.int .i64 0,.slice none 0 0,.slice none 0 0]⟩,.agg ⟨[.int .i64 0,.int .i64 0,.int .i64 0,.int .i64 0,.int .i64 0,.int .i64 0,.int .i64 0,.int .i64 0]⟩,.int .u8 0,.slice none 0 0] 8 (w7 os) (World.shaped_of_ZipB kR kR) kR kR kR (m4 os _)) ?_
 ·rw[Tryz.params6] at h
  match ds,h with
  | [a,b,c,d],_=> rfl
 ·intro W base vs ds p hlen bX hA VN hL St aGl;rw[Tryz.params6] at hlen bX hA;obtain⟨v0,v1,v2,v3,rfl⟩:∃a b c d,vs= [a,b,c,d]:=by
   match vs,hlen with
   | [a,b,c,d],_=> exact⟨a,b,c,d,rfl⟩
  have hG:=N9 (by simp[fN]) (List.mem_filter.2 ⟨by simp[fN],by kernel_rfl⟩) hL;have hS:=aDB (List.mem_filter.2 ⟨by simp[fN],by kernel_rfl⟩) hL;have hC:=m7 (by simp[fN]) hL;obtain⟨k,A,lc,B,tc,rfl,hk⟩:=UZ (bX 0 45 v0 rfl rfl) (BK hA 0 45 v0 rfl rfl);obtain⟨q,rfl⟩:=VZ (bX 1 49 v1 rfl rfl);obtain⟨p,rfl,hp⟩:=aAo (bX 2 5 v2 rfl rfl);obtain⟨X,l,xc,rfl,hxc,hX⟩:=oX (bX 3 65 v3 rfl rfl) (BK hA 3 65 v3 rfl rfl);exact K2 (FC W) hG hS hC k A lc B tc hk q p hp X l l.length xc rfl hxc hX (fun H₀ R L kk hv hle=> aGl H₀ R L kk (.inr ⟨8,results6,hv⟩) hle)
theorem YK:joinedFacts prog 6 Tryz.f6 Rows.dialLinkedSpec Rows.dialLinkedRow=true:=by
 simp only[joinedFacts,Bool.and_eq_true]
 repeat' apply And.intro
 all_goals (as_aux_lemma=> kernel_rfl)
theorem iH:prog.funcNamed "baudot/baudotlaw03.DialLinked"=some 6:=by kernel_rfl
theorem jM:Rows.DialLinkedSaid:=
 OpenClaim.holds_of_wide_leaving 6 Tryz.f6 rfl rfl rfl rfl rfl rfl rfl ⟨rfl,rfl,rfl,rfl,rfl⟩ rfl rfl rfl rfl rfl iH func6 YK
  (of_decide_eq_true (by as_aux_lemma=> kernel_rfl)) (by unfold Func.isWrapper;rw[if_neg (by decide +kernel)];exact⟨rfl,rfl⟩)
  (fun os started H enc _=> ZK os started H enc)
theorem dialLinked_card:Rows.DialLinkedCardSaid:=
 IN .later [.data,.data,.data,.data,.data,.data,.funcs,.funcsDeep,.pinned] true (true, "ebcf6a6dbc55a69e65389772c1e506a555380a9550a06ec3aee06a70070baba7") true
  jM (by as_aux_lemma=> kernel_rfl) dialLinked_row_tie rfl ⟨rfl,rfl⟩ (by as_aux_lemma=> kernel_rfl) rfl
  (fun f fn hf LW=> by
   obtain rfl:f=6:=Option.some.inj (iH.symm.trans hf) |>.symm;obtain rfl:fn=Tryz.f6:=(Option.some.inj (func6.symm.trans LW)).symm;exact⟨by as_aux_lemma=> kernel_rfl,D6 (by rw[Tryz.params6];as_aux_lemma=> kernel_rfl)⟩)
  (by as_aux_lemma=> kernel_rfl)
#print axioms dialLinked_card
end Go.Proofs.YtldmfjcgjdchcaaGreatDoor
