/-
 topTapes_card proves the given statement TopTapesCardSaid as it stands: from every start that the card describes, on every schedule, the call of TopTapes ends, answers true and leaves what it was given as it was.
 Conditions: those of the given statement itself, no others.
-/
import Derived.Test.YtcagolloalgfiaaGreatDoorW11
namespace Go.Proofs.YtcagolloalgfiaaGreatDoor
open Go.RL Go.Proofs.Tryz Go.ChangeShapes Go.WideShapes Go.ChangeAt Go.RowKit
set_option maxRecDepth 100000
set_option maxHeartbeats 0
abbrev laidL:List (String×DataW Unit):= [("unicode/utf8.acceptRanges",Rows.laid_unicode_utf8_acceptRanges),("baudot/code.signs",Rows.laid_baudot_code_signs),("baudot/dial.checks",Rows.laid_baudot_dial_checks),("baudot/signal.checks",Rows.laid_baudot_signal_checks),("baudot/store.kinds",Rows.laid_baudot_store_kinds),("unicode/utf8.first",Rows.laid_unicode_utf8_first)]
abbrev plainL:List (String×DataW Unit):=laidL.filter fun x=> x.2.handleName?.isNone
noncomputable def startW (os:Os):World:=(World.doorLaid prog 600 os).layVars prog plainL
theorem start_os(os:Os):(startW os).os=os:=World.layVars_os _ _ _
theorem start_fits(os:Os):(World.doorLaid prog 600 os).layFits prog plainL []=true:=by kernel_rfl
theorem start_ifaces(os:Os):(World.doorLaid prog 600 os).layIfaces prog plainL (startW os)=true:=by kernel_rfl
theorem start_plain(os:Os)(args:Array Value):laidMet prog plainL ((startW os).forCall (fun _ _=> 0) ⟨#[],args,[]⟩).memory:=by
 have e1:(plainL.filter fun x=> (plainL.map (·.1)).contains x.1)=plainL:=List.filter_eq_self.2 fun x hx=> List.contains_iff_mem.2 (List.mem_map.2 ⟨x,hx,rfl⟩);have e2:(plainL.filter fun x=> !(plainL.map (·.1)).contains x.1)= []:=List.filter_eq_nil_iff.2 fun x hx=> by rw[List.contains_iff_mem.2 (List.mem_map.2 ⟨x,hx,rfl⟩)];simp
 have h:laidMet prog plainL (startW os):=laidMet_layVars (w0:=World.doorLaid prog 600 os) (plainL.map (·.1)) [] (by rw[e1];rfl) (by rw[e1];exact start_fits os) (by rw[e1];exact start_ifaces os) (by rw[e2];exact LaidIn.none);exact h.of_heap (by simp[World.memory,World.forCall,Input.heap])
theorem door_met(os:Os)(args:Array Value):laidMetH prog laidL ((startW os).forCall (fun _ _=> 0) ⟨#[],args,[]⟩).memory:=
 laidMetH_of_parts3 (fuel:=8) (start_plain os args) kR kR
theorem topTapes_lifted(os:Os)(started:os.Started)(H:Type)(enc:TypeId×Value->H):
  ReturnsInHanded Rows.topTapesRow.assume Tryz.checked os 3 .any (Rows.topTapesRow.pre enc prog Tryz.f3 (OpenSpec.ofChange Rows.topTapesSpec))
   (Rows.topTapesSpec.post enc prog Tryz.f3 false true false false):=by
 refine lifted (LL:=laidL) (n:=349) (body:=bodyOf Tryz.f3) (a:= {}) func3 kR ntmps3 kR (Nat.le_of_ble_eq_true kR) kR kR rfl (fun ds h=> ?_) started
  (witness_plain (os:=os) (C:=Tryz.checked) (enc:=enc) (s:=Rows.topTapesSpec) (fn:=Tryz.f3) (f:=3) (X:=fun w _=> laidMetH prog laidL w) (startW os) #[.agg ⟨[.int .i64 0,.int .i64 0,.slice none 0 0,.slice none 0 0,.slice none 0 0]⟩,.agg ⟨[.int .i64 0,.int .i64 0,.int .i64 0,.int .i64 0,.int .i64 0,.int .i64 0,.int .i64 0,.int .i64 0]⟩,.agg ⟨[.int .i64 0,.int .i64 0,.slice none 0 0,.slice none 0 0]⟩,.slice none 0 0,.slice none 0 0,.int .u16 0,.int .u8 0,.int .u8 0] 8 (start_os os) (World.shaped_of_ZipB kR kR) kR kR kR (door_met os _)) ?_
 ·rw[Tryz.params3] at h
  match ds,h with
  | [a,b,c,d,e,f,g,h],_=> rfl
 ·intro W base vs ds p hlen hval hA hwt hL St hret;rw[Tryz.params3] at hlen hval hA;obtain⟨v0,v1,v2,v3,v4,v5,v6,v7,rfl⟩:∃a b c d e f g h,vs= [a,b,c,d,e,f,g,h]:=by
   match vs,hlen with
   | [a,b,c,d,e,f,g,h],_=> exact⟨a,b,c,d,e,f,g,h,rfl⟩
  have hG:=glob_of (by simp[laidL]) hL;have hS:=sig_of (List.mem_filter.2 ⟨by simp[laidL],by kernel_rfl⟩) hL;have hC:=sglob_of (by simp[laidL]) hL;have hN:=knd_of (by simp[laidL]) hL;obtain⟨b,a,rfl,hb⟩:=open_store (hval 0 26 v0 rfl rfl) (trodAll_at hA 0 26 v0 rfl rfl);obtain⟨q,rfl⟩:=open_link (hval 1 32 v1 rfl rfl);obtain⟨k,A,lc,B,tc,rfl,hk⟩:=open_book (hval 2 36 v2 rfl rfl) (trodAll_at hA 2 36 v2 rfl rfl);obtain⟨X,xl,xc,rfl,_,hX⟩:=open_picks (hval 3 37 v3 rfl rfl) (trodAll_at hA 3 37 v3 rfl rfl);obtain⟨Y,yl,yc,rfl,hyc,hY⟩:=open_picks (hval 4 37 v4 rfl rfl) (trodAll_at hA 4 37 v4 rfl rfl);obtain⟨w,rfl,hw1,hw2⟩:=open_u16 (hval 5 38 v5 rfl rfl);obtain⟨p0,rfl,hp0⟩:=open_u8 (hval 6 5 v6 rfl rfl);obtain⟨p,rfl,hp⟩:=open_u8 (hval 7 5 v7 rfl rfl);exact TopTapes_w (Ms prog) (fullV W) (fun H₀ R L kk hv hle=> hret H₀ R L kk (.inr ⟨16,results3,hv⟩) hle) hG hS hC hN b a hb q k A lc B tc hk w p0 p oM hp0 hp X xl xl.length xc rfl hX Y yl yl.length yc rfl hyc hY
theorem topTapes_closed:joinedFacts prog 3 Tryz.f3 Rows.topTapesSpec Rows.topTapesRow=true:=by
 simp only[joinedFacts,Bool.and_eq_true]
 repeat' apply And.intro
 all_goals (as_aux_lemma=> kernel_rfl)
theorem topTapes_named:prog.funcNamed "baudot/baudottop.TopTapes"=some 3:=by kernel_rfl
theorem topTapes_holds:Rows.TopTapesSaid:=
 OpenClaim.holds_of_wide 3 Tryz.f3 rfl rfl rfl rfl rfl rfl rfl ⟨rfl,rfl,rfl,rfl,rfl⟩ rfl rfl rfl rfl rfl topTapes_named func3 topTapes_closed
  (of_decide_eq_true (by as_aux_lemma=> kernel_rfl)) (by unfold Func.isWrapper;first|(rw[if_pos (by decide +kernel)];as_aux_lemma=> kernel_rfl)|(rw[if_neg (by decide +kernel)];exact⟨rfl,rfl⟩))
  (fun os started H enc _=> topTapes_lifted os started H enc)
theorem topTapes_card:Rows.TopTapesCardSaid:=
 Claim7.holds_tied_plain_at .later [] [.data,.data,.funcs,.funcsDeep,.funcsDeep,.pinned] true (true, "88bde8d3f4f13a704b0dee8ef322797be6a56b5ddc855393995381b2f31d0405") false
  topTapes_holds (fun _ h=> by cases h) (by as_aux_lemma=> kernel_rfl) (fun _ h=> by cases h) topTapes_row_tie rfl ⟨rfl,rfl⟩ (by as_aux_lemma=> kernel_rfl) rfl
  (fun f fn hf hfn=> by
   obtain rfl:f=3:=Option.some.inj (topTapes_named.symm.trans hf) |>.symm;obtain rfl:fn=Tryz.f3:=(Option.some.inj (func3.symm.trans hfn)).symm;exact⟨by as_aux_lemma=> kernel_rfl,no_stand (by rw[Tryz.params3];as_aux_lemma=> kernel_rfl)⟩)
  (by as_aux_lemma=> kernel_rfl)
#print axioms topTapes_card
end Go.Proofs.YtcagolloalgfiaaGreatDoor
