/-
  dialPaced_card proves the given statement DialPacedCardSaid as it stands: from every start that the card describes, on every schedule, the call of DialPaced ends, answers true and leaves what it was given as it was.
  Conditions: those of the given statement itself, no others.
-/
import Derived.Test.YtldmfjcgjdchcaaGreatDoorQ13
namespace Go.Proofs.YtldmfjcgjdchcaaGreatDoor
open Go.RL Go.Proofs.Tryz Go.ChangeShapes Go.WideShapes Go.ChangeAt Go.RowKit
set_option maxRecDepth 100000
set_option maxHeartbeats 0
abbrev laidL:List (String×DataW Unit):= [("math/bits.deBruijn32tab",Rows.laid_math_bits_deBruijn32tab),("math/bits.deBruijn64tab",Rows.laid_math_bits_deBruijn64tab),("internal/strconv.uint64pow10",Rows.laid_internal_strconv_uint64pow10),("unicode/utf8.acceptRanges",Rows.laid_unicode_utf8_acceptRanges),("baudot/dial.not",Rows.laid_baudot_dial_not),("baudot/dial.checks",Rows.laid_baudot_dial_checks),("baudot/signal.checks",Rows.laid_baudot_signal_checks),("unicode/utf8.first",Rows.laid_unicode_utf8_first)]
abbrev plainL:List (String×DataW Unit):=laidL.filter fun x=> x.2.handleName?.isNone
noncomputable def startW (os:Os):World:=(World.doorLaid prog 600 os).layVars prog plainL
theorem start_os(os:Os):(startW os).os=os:=World.layVars_os _ _ _
theorem start_fits(os:Os):(World.doorLaid prog 600 os).layFits prog plainL []=true:=by kernel_rfl
theorem start_ifaces(os:Os):(World.doorLaid prog 600 os).layIfaces prog plainL (startW os)=true:=by kernel_rfl
theorem start_plain(os:Os)(args:Array Value):laidMet prog plainL ((startW os).forCall (fun _ _=> 0) ⟨#[],args,[]⟩).memory:=by
 have e1:(plainL.filter fun x=> (plainL.map (·.1)).contains x.1)=plainL:=List.filter_eq_self.2 fun x hx=> List.contains_iff_mem.2 (List.mem_map.2 ⟨x,hx,rfl⟩);have e2:(plainL.filter fun x=> !(plainL.map (·.1)).contains x.1)= []:=List.filter_eq_nil_iff.2 fun x hx=> by rw[List.contains_iff_mem.2 (List.mem_map.2 ⟨x,hx,rfl⟩)];simp
 have h:laidMet prog plainL (startW os):=laidMet_layVars (w0:=World.doorLaid prog 600 os) (plainL.map (·.1)) [] (by rw[e1];rfl) (by rw[e1];exact start_fits os) (by rw[e1];exact start_ifaces os) (by rw[e2];exact LaidIn.none);exact h.of_heap (by simp[World.memory,World.forCall,Input.heap])
theorem door_met(os:Os)(args:Array Value):laidMetH prog laidL ((startW os).forCall (fun _ _=> 0) ⟨#[],args,[]⟩).memory:=
 laidMetH_of_parts3 (fuel:=8) (start_plain os args) (by kernel_rfl) (by kernel_rfl)
theorem dialPaced_lifted(os:Os)(started:os.Started)(H:Type)(enc:TypeId×Value→H):
   ReturnsInLeavingWide Rows.dialPacedRow.assume Tryz.checked os 4 .any (Rows.dialPacedRow.pre enc prog Tryz.f4 (OpenSpec.ofChange Rows.dialPacedSpec))
     (Rows.dialPacedSpec.post enc prog Tryz.f4 false true false false):=by
 refine lifted (LL:=laidL) (n:=88) (body:=bodyOf Tryz.f4) (a:= {}) func4 (by kernel_rfl) ntmps4 (by kernel_rfl) (Nat.le_of_ble_eq_true (by kernel_rfl)) (by kernel_rfl) (by kernel_rfl) rfl (fun ds h=> ?_) started
   (witness_plain (os:=os) (C:=Tryz.checked) (enc:=enc) (s:=Rows.dialPacedSpec) (fn:=Tryz.f4) (f:=4) (X:=fun w _=> laidMetH prog laidL w) (startW os) #[.agg ⟨[.int .i64 0,.int .i64 0,.slice none 0 0,.slice none 0 0]⟩,.agg ⟨[.int .i64 0,.int .i64 0,.int .i64 0,.int .i64 0,.int .i64 0,.int .i64 0,.int .i64 0,.int .i64 0]⟩,.int .u8 0,.slice none 0 0] 8 (start_os os) (World.shaped_of_ZipB (by kernel_rfl) (by kernel_rfl)) (by kernel_rfl) (by kernel_rfl) (by kernel_rfl) (door_met os _)) ?_
 · rw[Tryz.params4] at h
   match ds,h with
   | [a,b,c,d],_=> rfl
 · intro W base vs ds p hlen hval hA hwt hL St hret;rw[Tryz.params4] at hlen hval hA;obtain⟨v0,v1,v2,v3,rfl⟩:∃a b c d,vs= [a,b,c,d]:=by
     match vs,hlen with
     | [a,b,c,d],_=> exact⟨a,b,c,d,rfl⟩
   have hG:=glob_of (by simp[laidL]) (List.mem_filter.2 ⟨by simp[laidL],by kernel_rfl⟩) hL;have hC:=sglob_of (by simp[laidL]) hL;obtain⟨k,A,lc,B,tc,rfl,hk⟩:=open_book (hval 0 45 v0 rfl rfl) (trodAll_at hA 0 45 v0 rfl rfl);obtain⟨F,fc,hB⟩:=hk.book;obtain⟨q,rfl⟩:=open_link (hval 1 49 v1 rfl rfl);obtain⟨p,rfl,hp⟩:=open_u8 (hval 2 5 v2 rfl rfl);obtain⟨X,l,xc,rfl,hX⟩:=open_shorts (hval 3 50 v3 rfl rfl) (trodAll_at hA 3 50 v3 rfl rfl);exact Paced_w (fullV W) hG hC k A lc B tc F fc hB q p hp X l l.length xc rfl hX (fun H₀ R L kk hv hle=> hret H₀ R L kk (.inr ⟨8,results4,hv⟩) hle)
theorem dialPaced_closed:joinedFacts prog 4 Tryz.f4 Rows.dialPacedSpec Rows.dialPacedRow=true:=by
 simp only[joinedFacts,Bool.and_eq_true]
 repeat' apply And.intro
 all_goals (as_aux_lemma=> kernel_rfl)
theorem dialPaced_named:prog.funcNamed "baudot/baudotlaw03.DialPaced"=some 4:=by kernel_rfl
theorem dialPaced_holds:Rows.DialPacedSaid:=
 OpenClaim.holds_of_wide_leaving 4 Tryz.f4 rfl rfl rfl rfl rfl rfl rfl ⟨rfl,rfl,rfl,rfl,rfl⟩ rfl rfl rfl rfl rfl dialPaced_named func4 dialPaced_closed
   (of_decide_eq_true (by as_aux_lemma=> kernel_rfl)) (by unfold Func.isWrapper;rw[if_neg (by decide +kernel)];exact⟨rfl,rfl⟩)
   (fun os started H enc _=> dialPaced_lifted os started H enc)
theorem dialPaced_card:Rows.DialPacedCardSaid:=
 holds_tied_goes .later [.data,.data,.data,.data,.data,.funcs,.funcsDeep,.pinned] true (true, "ebcf6a6dbc55a69e65389772c1e506a555380a9550a06ec3aee06a70070baba7") true
   dialPaced_holds (by as_aux_lemma=> kernel_rfl) dialPaced_row_tie rfl ⟨rfl,rfl⟩ (by as_aux_lemma=> kernel_rfl) rfl
   (fun f fn hf hfn=> by
     obtain rfl:f=4:=Option.some.inj (dialPaced_named.symm.trans hf) |>.symm;obtain rfl:fn=Tryz.f4:=(Option.some.inj (func4.symm.trans hfn)).symm;exact⟨by as_aux_lemma=> kernel_rfl,no_stand (by rw[Tryz.params4];as_aux_lemma=> kernel_rfl)⟩)
   (by as_aux_lemma=> kernel_rfl)
#print axioms dialPaced_card
end Go.Proofs.YtldmfjcgjdchcaaGreatDoor
