/-
  Texts of the proofs over baudot/dial: S7 C2 C3 C4 C5 App2 C6 X1 C7 Draw5 C8 Z1 Z2 Z3 Z8 Z9 X2 ZA Draw6 ZB ZC Y1 Y2 Y3 Y4 Y5 Y6.
-/
import Derived.Test.YtdnfdeplcjaonaaGreatDoorW05
namespace Go.Proofs.YtdnfdeplcjaonaaGreatDoor
open Go.RL Go.Proofs.Tryz
set_option maxRecDepth 10000
set_option maxHeartbeats 8000000
section
variable(M:Md prog)(H:View)
theorem pdqI_c(sb:Nat)(l:List Int)(jj:List Value)(n cap:Nat)(lim:Int)(hn:n=l.length)(h12:n≤12)(hS:H sb=some (true,.cells ⟨(intsL l)++jj⟩ 3 (0,0))):
   CallT M 192 #[.slice (some ⟨sb,0,none⟩) n cap,.int .i64 0,.int .i64 (n:Nat),.int .i64 lim] H (SortIQ H sb jj (fun v m=> v=.tuple ⟨[]⟩∧Turned 0 n l m∧Srt 0 n m)):=by
 refine CallT.enter (vs:= [.slice (some ⟨sb,0,none⟩) n cap,.int .i64 0,.int .i64 (n:Nat),.int .i64 lim]) func192 rfl ntmps192 (Nat.le_of_ble_eq_true rfl) (SymSt.pull hS) fun St c cs hK=> ?_;refine U7 ?_;refine .done (.block (.loop (.block (.sr ?_))));refine U17 ?_;refine .e (Or.sortsI (l:=l) 0 (fun v m=> v=.tuple ⟨[]⟩∧Turned 0 n l m∧Srt 0 n m) rfl rfl rfl rfl rfl (by decide) rfl (fun H hs=> .h (insertionI_c M H sb l jj n cap 0 n hn (by omega) (by omega) (by omega) (hs.get (i:=0) rfl))) (fun v m hm=> ?_));refine U ?_;obtain⟨rfl,ht,hs0⟩:=hm;refine .rt hK func192 results192 [] ?_;exact fun H' hs=> SortIQ.of hs (i:=0) rfl ⟨rfl,ht,hs0⟩
theorem SortI_c(sb:Nat)(l:List Int)(jj:List Value)(n cap:Nat)(hn:n=l.length)(h12:n≤12)(hS:H sb=some (true,.cells ⟨(intsL l)++jj⟩ 3 (0,0))):
   CallT M 131 #[.slice (some ⟨sb,0,none⟩) n cap] H (SortIQ H sb jj (fun v m=> v=.tuple ⟨[]⟩∧Turned 0 n l m∧Srt 0 n m)):=by
 have hw:=u64_12 n (by omega);refine CallT.enter (vs:= [.slice (some ⟨sb,0,none⟩) n cap]) func131 rfl ntmps131 (Nat.le_of_ble_eq_true rfl) (SymSt.pull hS) fun St c cs hK=> ?_;refine U11 ?_;refine .c rfl rfl rfl rfl (fun H hs=> .h (Len_c M H n (by omega))) ?_;refine .e (Or.sortsI (l:=l) 0 (fun v m=> v=.tuple ⟨[]⟩∧Turned 0 n l m∧Srt 0 n m) rfl rfl rfl rfl rfl (by decide) rfl (fun H hs=> .h (pdqI_c M H sb l jj n cap (bl n:Nat) hn h12 (hs.get (i:=0) rfl))) (fun v m hm=> ?_));refine U ?_;obtain⟨rfl,ht,hs0⟩:=hm;refine .ov hK func131 results131 [] ?_;exact fun H' hs=> SortIQ.of hs (i:=0) rfl ⟨rfl,ht,hs0⟩
theorem insertionI_nil(c0:Nat):CallT M 223 #[.slice none 0 c0,.int .i64 0,.int .i64 ((0:Nat):Int)] H (fun v H'=> H.le H'∧v=.tuple ⟨[]⟩):=by
 refine .en func223 ntmps223 fun St c cs hK=> ?_;refine U5 ?_;refine .done (.block (.loop (.seq (.sr ?_))));refine U6 ?_;refine .ov hK func223 results223 [] ?_;exact okB
theorem pdqI_nil(c0:Nat)(lim:Int):CallT M 192 #[.slice none 0 c0,.int .i64 0,.int .i64 ((0:Nat):Int),.int .i64 lim] H (fun v H'=> H.le H'∧v=.tuple ⟨[]⟩):=by
 refine .en func192 ntmps192 fun St c cs hK=> ?_;refine U7 ?_;refine .done (.block (.loop (.block (.sr ?_))));refine U17 ?_;refine .c rfl rfl rfl rfl (fun H hs=> .h (insertionI_nil M H c0)) ?_;refine U ?_;refine .rt hK func192 results192 [] ?_;exact okB
theorem SortI_nil(c0:Nat):CallT M 131 #[.slice none 0 c0] H (fun v H'=> H.le H'∧v=.tuple ⟨[]⟩):=by
 have hw:=u64_12 0 (by omega);refine .en func131 ntmps131 fun St c cs hK=> ?_;refine U11 ?_;refine .c rfl rfl rfl rfl (fun H hs=> .h (Len_c M H 0 (by omega))) ?_;refine .c rfl rfl rfl rfl (fun H hs=> .h (pdqI_nil M H c0 (bl 0:Nat))) ?_;refine U ?_;refine .ov hK func131 results131 [] ?_;exact okB
theorem CompactI_nil(c0:Nat):CallT M 132 #[.slice none 0 c0] H (fun v H'=> H.le H'∧v=.slice none 0 c0):=by
 refine .en func132 ntmps132 fun St c cs hK=> ?_;refine U17 ?_;refine .rt hK func132 results132 [_] ?_;exact okB
end
def Gl.withI(g:Gl 3 1)(m:List Value)(h:m.length=g.n):Gl 3 1:=⟨g.blk,g.n,g.cap,m,g.junk,by rw[h,Nat.mul_one],g.hc,g.hj,g.h0⟩
theorem Or.sortIGl {M:Md prog}{n:Nat}{H₀:View}{R:Rg}{L1:Bl}{o:Oper}{K:Rg→Bl→Prop}{cl:Go.Call}{x:Operand}{fv:Value}{d:Nat}(g:Gl 3 1)(u:List Int)(hg:g.l=(intsL u))(h12:g.n≤12)
   (hop:o.op=.call cl) (hcl:cl.callee=.value x) (hx:evR R x=some fv) (has:evRs R cl.args.toList=some [g.val]) (hd:o.dst=some d) (hn:d<n)
   (hc:∀(H:View) (Q:Value→View→Prop),CallT M 131 #[g.val] H Q→FnT M fv [g.val] H Q)
   (hK:∀(g':Gl 3 1) (m:List Int),g'.val=g.val→g'.n=g.n→g'.blk=g.blk→g'.l=(intsL m)→Turned 0 g.n u m→Srt 0 g.n m→K ((d,.tuple ⟨[]⟩)::R) (L1++g'.bl)):Or M n H₀ R (L1++g.bl) o K:=by
 have hul:u.length=g.n:=by have:=g.hl;rw[hg,intsL_len] at this;omega
 cases hb:g.blk with
 | none=>
   have hcap:=g.h0 hb;have hgc:=g.hc;have h0:g.n=0:=by omega
   have hbl:g.bl= []:=by unfold Gl.bl;rw[hb]
   have hv:g.val=.slice none 0 g.cap:=by unfold Gl.val;rw[hb,h0];rfl
   refine Or.callNew (fun _:Unit=> .tuple ⟨[]⟩) (fun _=> []) (fun _=> True) hop hcl hx has hd hn (fun _=> by simp) (fun H hs=> hc H _ ?_) (fun _ _=> ?_)
   · rw[hv];exact CallT.mono (SortI_nil M H g.cap) (fun v H' ⟨h1,h2⟩=> ⟨h1,(),h2,trivial,by simp⟩)
   · rw[List.append_nil];exact hK g u rfl rfl rfl hg (Turned.refl _ _ _) (fun p q h1 h2 h3=> by omega)
 | some b=>
   have hbl:g.bl= [(b,true,.cells ⟨(intsL u)++g.junk⟩ 3 (0,0))]:=by unfold Gl.bl;rw[hb,hg]
   have hv:g.val=.slice (some ⟨b,0,none⟩) g.n g.cap:=by unfold Gl.val;rw[hb];rfl
   rw[hbl];refine Or.sortsI (l:=u) L1.length (fun v m=> v=.tuple ⟨[]⟩∧Turned 0 g.n u m∧Srt 0 g.n m) hop hcl hx has hd hn (by rw[List.getElem?_append_right (Nat.le_refl _),Nat.sub_self];rfl)
     (fun H hs=> hc H _ ?_) (fun v m ⟨h1,h2,h3⟩=> ?_)
   · rw[hv];exact SortI_c M H b u g.junk g.n g.cap hul.symm h12 (hs.get (i:=L1.length) (by rw[List.getElem?_append_right (Nat.le_refl _),Nat.sub_self];rfl))
   · subst h1;have hml:m.length=g.n:=by rw[h2.len];exact hul
     have:=hK (Gl.withI g (intsL m) (by rw[intsL_len];exact hml)) m rfl rfl rfl rfl h2 h3;have hbl':(Gl.withI g (intsL m) (by rw[intsL_len];exact hml)).bl= [(b,true,.cells ⟨(intsL m)++g.junk⟩ 3 (0,0))]:=by
       unfold Gl.bl Gl.withI;simp only[hb]
     rw[hbl'] at this;rw[List.set_append_right _ _ (Nat.le_refl _),Nat.sub_self];exact this
theorem Or.compIGl {M:Md prog}{n:Nat}{H₀:View}{R:Rg}{L1:Bl}{o:Oper}{K:Rg→Bl→Prop}{cl:Go.Call}{x:Operand}{fv:Value}{d:Nat}(g:Gl 3 1)(u:List Int)(hg:g.l=(intsL u))(h12:g.n≤1000000)
   (hop:o.op=.call cl) (hcl:cl.callee=.value x) (hx:evR R x=some fv) (has:evRs R cl.args.toList=some [g.val]) (hd:o.dst=some d) (hn:d<n)
   (hc:∀(H:View) (Q:Value→View→Prop),CallT M 132 #[g.val] H Q→FnT M fv [g.val] H Q)
   (hK:∀(g':Gl 3 1),g'.n=(ddTo u g.n).length→g'.l=(intsL (ddTo u g.n))→K ((d,g'.val)::R) (L1++g'.bl)):Or M n H₀ R (L1++g.bl) o K:=by
 have hul:u.length=g.n:=by have:=g.hl;rw[hg,intsL_len] at this;omega
 cases hb:g.blk with
 | none=>
   have hcap:=g.h0 hb;have hgc:=g.hc;have h0:g.n=0:=by omega
   have hbl:g.bl= []:=by unfold Gl.bl;rw[hb]
   have hv:g.val=.slice none 0 g.cap:=by unfold Gl.val;rw[hb,h0];rfl
   have hu0:u= []:=List.eq_nil_of_length_eq_zero (by omega);refine Or.callNew (fun _:Unit=> g.val) (fun _=> []) (fun _=> True) hop hcl hx has hd hn (fun _=> by simp) (fun H hs=> hc H _ ?_) (fun _ _=> ?_)
   · rw[hv];exact CallT.mono (CompactI_nil M H g.cap) (fun v H' ⟨h1,h2⟩=> ⟨h1,(),h2,trivial,by simp⟩)
   · rw[List.append_nil];refine hK g (by rw[h0];rfl) ?_;rw[hg,hu0,h0];rfl
 | some b=>
   have hbl:g.bl= [(b,true,.cells ⟨(intsL u)++g.junk⟩ 3 (0,0))]:=by unfold Gl.bl;rw[hb,hg]
   have hv:g.val=.slice (some ⟨b,0,none⟩) g.n g.cap:=by unfold Gl.val;rw[hb];rfl
   rw[hbl];have hi:(L1++[(b,true,Obj.cells ⟨(intsL u)++g.junk⟩ 3 (0,0))])[L1.length]? =some (b,true,Obj.cells ⟨(intsL u)++g.junk⟩ 3 (0,0)):=by rw[List.getElem?_append_right (Nat.le_refl _),Nat.sub_self];rfl
   refine .callV hop hcl hx has (Q:=fun H v H'=> CompIQ H b u g.junk g.n g.cap v H') (fun H hs=> hc H _ ?_) (fun H v H' hs hq=> ?_)
   · rw[hv];exact CompactI_c M H b u g.junk g.n g.cap hul.symm h12 g.hc (hs.get hi)
   · obtain⟨h1,rest,h2,h3,h4⟩:=hq;subst h2;have hle:=ddTo_le u g.n;have hgc:=g.hc;have hgj:=g.hj;refine⟨L1++[(b,true,.cells ⟨(intsL (ddTo u g.n))++rest⟩ 3 (0,0))],_,?_,by rw[hd];exact⟨hn,rfl⟩,?_⟩
     · have:=SymSt_turn hs hi h1 h4;rw[List.set_append_right _ _ (Nat.le_refl _),Nat.sub_self] at this;exact this
     · have:=hK ⟨some b,(ddTo u g.n).length,g.cap,(intsL (ddTo u g.n)),rest,by rw[intsL_len,Nat.mul_one],by omega,by omega,fun h=> by cases h⟩ rfl rfl;exact this
set_option maxHeartbeats 16000000
def Bk.hit(k:Bk)(line:Nat)(s:List UInt8):Option Int:=match k.line s with
 | some j=> if j=line then none else some (j:Nat)
 | none=> none
def Bk.hits(k:Bk)(line:Nat):List Int:=(slipsL (k.num line)).filterMap (k.hit line)
def slipsV(g:Gl 3 1)(a:Int):Value:=.tuple ⟨[g.val,.int .i64 a]⟩
theorem Bk.isNum_of {k:Bk}(ha:k.alarm=0){i:Nat}(hi:i<k.nl):(k.num i).all dig=true∧1≤(k.num i).length∧(k.num i).length≤3:=by
 obtain⟨_,_,h,_⟩:=Bk.line_ok ha hi;unfold isNum at h;simp only[Bool.and_eq_true,decide_eq_true_eq] at h;exact⟨h.2,h.1.1,h.1.2⟩
theorem slipsFrom_len(s:List UInt8):∀m i,s.length-i=m→(slipsFrom s i).length≤2*m
 | 0,i,h=> by rw[slipsFrom_nil (by omega)];exact Nat.le_refl _
 | m + 1,i,h=> by
   rw[slipsFrom_cons (by omega),List.length_append];have h1:=slipsFrom_len s m (i+1) (by omega);have h2:(slipsAt s i).length≤2:=by
     unfold slipsAt slipAt;rw[List.length_append];split <;> split <;> simp
   omega
theorem Bk.hits_len {k:Bk}(ha:k.alarm=0){i:Nat}(hi:i<k.nl):(k.hits i).length≤6:=by
 obtain⟨_,_,h⟩:=Bk.isNum_of ha hi;have h1:=slipsFrom_len (k.num i) _ 0 rfl;have h2:(k.hits i).length≤(slipsL (k.num i)).length:=List.length_filterMap_le _ _;unfold slipsL at h2;omega
section
variable(M:Md prog)(H:View)
theorem Slips_c(k:Bk)(A:Option Addr)(lc:Nat)(B:Option Addr)(tc:Nat)(hk:BkAt H k A lc B tc)(hn:k.small)(hG:Glob H)(ha:k.alarm=0)(line:Nat)(hl:line<k.nl):
   CallT M 58 #[k.val A lc B tc,.int .i64 (line:Nat)] H (fun v H'=> H.le H'∧∃(g:Gl 3 1) (m:List Int),v=slipsV g 0∧(Turned 0 (k.hits line).length (k.hits line) m∧Srt 0 (k.hits line).length m)∧(g.n=(ddTo m m.length).length∧g.l=intsL (ddTo m m.length))∧∀x∈g.bl,H' x.1=some x.2∧H x.1=none):=by
 obtain⟨hdg,hl1,hl3⟩:=Bk.isNum_of ha hl;have hnl:=hn.nl;have hhl:=Bk.hits_len ha hl;have hb:=fun(H':View)=> between_is M H' ((line:Nat):Int) 0 ((k.nl:Int)-1) true (decide_eq_true (by omega));have hop:=fun(H':View) (h':H.le H')=> open_yes M H' k A lc B tc (hk.le h') hn (glob_le hG h') ha;have hRows:=hk.rows;obtain⟨_,h0|⟨ab,ao,fa,gs,gt,gz,rfl,hab,hrow⟩⟩:=hRows
 · omega
 obtain⟨F,fc,f1,_,_⟩:=hrow line hl;have f2:ldL false 1 gs (ao+((line:Nat):Int).toNat*3+1)=some (strV (k.num line)):=ldL_cell f1 (by decide);refine .en func58 ntmps58 fun St c cs hK=> ?_;refine U2 ?_;refine .bo fun b2=> ?_;refine .bo fun b3=> ?_;refine U4 ?_;refine Tc.dr [12] [] mixed rfl ?_;refine .nn 0 ?_;refine .nn 1 ?_;refine .nn 2 ?_;refine .nn 3 ?_;refine .nn 4 ?_;refine .nn 5 ?_;refine .z 6 rfl (OpV.takeCall rfl rfl rfl rfl (fun H hs=> .h (hb H))) ?_;refine .z 7 rfl (OpV.takeCall rfl rfl rfl rfl (fun H hs=> .h (hop H hs.base))) ?_;refine .nn 8 ?_;refine .nn 9 ?_;refine .nw 10 ?_;refine Ta.each [11] (by kernel_rfl) rfl ⟨TaOp.mk rfl rfl rfl (.al (zz:=fun b6=> ⟨S2.mk (by apply List.Sublist.cons;exact List.Sublist.refl _) (.inr (by apply List.Sublist.cons;exact List.Sublist.refl _)),?_⟩)),trivial⟩;refine .e 12 0 ?_;refine .nw 13 ?_;refine .dn ?_;refine U10 ?_;refine .al fun b8=> ?_;refine U10 ?_;refine To.callF rfl rfl rfl rfl rfl rfl (by decide) (FnT.h (slips_c M H (k.num line))) (fun v H₁ hv=> ?_);obtain⟨hle1,sb,rfl,hcap⟩:=hv;refine U ?_;have hit:=fun(H':View) (hc:CapS (k.num line) sb H')=> slips_it M H' (k.num line) hdg (by omega) sb hc;refine U ?_;refine Tc.db (R':= [(2,.pointer (some ⟨b2,0,none⟩)),(3,.pointer (some ⟨b3,0,none⟩)),(6,.pointer (some ⟨b6,0,none⟩)),(8,.pointer (some ⟨b8,0,none⟩)),(31,slipF sb)]) (L':= [(b8,true,.cells ⟨[(Gl.nil 3 1).val]⟩ 26 (0,0)),(b6,true,.cells ⟨(k.val (some ⟨ab,ao,none⟩) lc B tc).cells.toList⟩ 113 (0,0)),(b3,true,.cells ⟨[.int .i64 (line:Nat)]⟩ 3 (0,0)),(b2,true,.cells ⟨(k.val (some ⟨ab,ao,none⟩) lc B tc).cells.toList⟩ 25 (0,0))]) ?_;refine Tc.rangeL (A:= []) (ts:= [32]) (xs:=slipsL (k.num line)) (fun rest H₄ L₄=> ∃(g:Gl 3 1) (dn:List Int),L₄= [(b8,true,.cells ⟨[g.val]⟩ 26 (0,0)),(b6,true,.cells ⟨(k.val (some ⟨ab,ao,none⟩) lc B tc).cells.toList⟩ 113 (0,0)),(b3,true,.cells ⟨[.int .i64 (line:Nat)]⟩ 3 (0,0)),(b2,true,.cells ⟨(k.val (some ⟨ab,ao,none⟩) lc B tc).cells.toList⟩ 25 (0,0))]++g.bl
     ∧g.l=intsL dn∧dn++rest.filterMap (k.hit line)=k.hits line∧CapS (k.num line) sb H₄∧H₁.le H₄) (fun _ _ _=> False) rfl rfl rfl rfl hit (fun _ _=> CapS.le _ _) (fun _ _ _ ⟨_,_,_,_,_,h,_⟩=> h) rfl (fun _ _=> rfl)
     ⟨Gl.nil 3 1,[],rfl,rfl,rfl,hcap,View.le_refl _⟩ ?_ ?_ (fun _ _ _ _ h=> h.elim)
 · rintro r x rest _ l tmps asg bdy H₄ _ hx ⟨g,dn,rfl,q1,q2,q3,q4⟩ Q St1 cc1 cs1 hK1 q q';have hln:=fun(H':View) (h':H₄.le H')=> line_c M H' k (some ⟨ab,ao,none⟩) lc B tc (hk.rows.le (View.le_trans hle1 (View.le_trans q4 h'))) hn.nl x;have hgn:g.n=dn.length:=by have:=g.hl;rw[q1,intsL_len] at this;omega
   have hdl:dn.length≤6:=by
     have:=congrArg List.length q2;rw[List.length_append] at this;omega
   cases hlx:k.line x with
   | none=>
     rw[hlx] at hln;have e2:firstI none= -1:=rfl;rw[e2] at hln;have e3:k.hit line x=none:=by unfold Bk.hit;rw[hlx]
     rw[List.filterMap_cons_none e3] at q2;refine U3 ?_;refine Tc.beginRound (i:=0) rfl rfl rfl ?_;refine U5 ?_;refine .c rfl rfl rfl rfl (fun H hs=> .h (hln H hs.base)) ?_;refine U15 ?_;refine Tc.leaveRound hK1 (i:=0) rfl (.inl ⟨rfl,rfl⟩) (fun H' hs=> q H' H₄ _ hs ⟨g,dn,rfl,q1,q2,q3,q4⟩)
   | some j=>
     rw[hlx] at hln;have e2:firstI (some j)=(j:Nat):=rfl;rw[e2] at hln;by_cases c1:j=line
     · have e3:k.hit line x=none:=by unfold Bk.hit;rw[hlx];exact if_pos c1
       rw[List.filterMap_cons_none e3] at q2;refine U3 ?_;refine Tc.beginRound (i:=0) rfl rfl rfl ?_;refine U5 ?_;refine .c rfl rfl rfl rfl (fun H hs=> .h (hln H hs.base)) ?_;refine U15 ?_;refine Tc.leaveRound hK1 (i:=0) rfl (.inl ⟨rfl,rfl⟩) (fun H' hs=> q H' H₄ _ hs ⟨g,dn,rfl,q1,q2,q3,q4⟩)
     · have e3:k.hit line x=some (j:Nat):=by unfold Bk.hit;rw[hlx];exact if_neg c1
       rw[List.filterMap_cons_some e3] at q2;refine U3 ?_;refine Tc.beginRound (i:=0) rfl rfl rfl ?_;refine U5 ?_;refine .c rfl rfl rfl rfl (fun H hs=> .h (hln H hs.base)) ?_;refine U16 ?_;refine .e (.bs (zz:=fun bs=> ?_));refine .e (Or.append (E:=en) 7 rfl rfl rfl rfl rfl rfl rfl rfl rfl rfl rfl rfl rfl rfl rfl (fun H hs=> SrcAt.of (hs.get (i:=0) rfl) (Nat.le_of_ble_eq_true rfl)) rfl (by omega) rfl (by decide) (fun g' hn2 hl2=> ?_));refine U3 ?_;refine Tc.leaveRound hK1 (i:=1) rfl (.inl ⟨rfl,rfl⟩) (fun H' hs=> q H' H₄ _ (hs.less (by apply List.Sublist.cons;exact List.Sublist.refl _)) ⟨g',dn++[((j:Nat):Int)],rfl,by rw[hl2,q1];unfold intsL;rw[List.map_append];rfl,by rw[List.append_assoc];exact q2,q3,q4⟩)
 · rintro r H₄ _ ⟨g,dn,rfl,q1,q2,q3,q4⟩;have q5:dn=k.hits line:=by rw[←q2];simp
   subst q5;have hgn:g.n=(k.hits line).length:=by have:=g.hl;rw[q1,intsL_len] at this;omega
   refine U4 ?_;refine .e (Or.sortIGl (L1:= [(r,true,.deferred (some [])),(b8,true,.cells ⟨[g.val]⟩ 26 (0,0)),(b6,true,.cells ⟨(k.val (some ⟨ab,ao,none⟩) lc B tc).cells.toList⟩ 113 (0,0)),(b3,true,.cells ⟨[.int .i64 (line:Nat)]⟩ 3 (0,0)),(b2,true,.cells ⟨(k.val (some ⟨ab,ao,none⟩) lc B tc).cells.toList⟩ 25 (0,0))]) g (k.hits line) q1 (by omega) rfl rfl rfl rfl rfl (by decide) (fun H Q h=> .h h) (fun g' m hv' hn' hb' hl' ht hs'=> ?_));rw[←hv'];rw[hgn] at ht hs' hn';have hml:m.length=(k.hits line).length:=ht.len;refine U4 ?_;refine .e (Or.compIGl (L1:= [(r,true,.deferred (some [])),(b8,true,.cells ⟨[g'.val]⟩ 26 (0,0)),(b6,true,.cells ⟨(k.val (some ⟨ab,ao,none⟩) lc B tc).cells.toList⟩ 113 (0,0)),(b3,true,.cells ⟨[.int .i64 (line:Nat)]⟩ 3 (0,0)),(b2,true,.cells ⟨(k.val (some ⟨ab,ao,none⟩) lc B tc).cells.toList⟩ 25 (0,0))]) g' m hl' (by omega) rfl rfl rfl rfl rfl (by decide) (fun H Q h=> .h h) (fun g2 hn3 hl3=> ?_));rw[hn',←hml] at hn3 hl3;refine U3 ?_;refine Tc.retD (E:=en) (i:=0) hK func58 results58 (vs:= [_,_]) rfl ⟨rfl,rfl,trivial⟩ ?_;exact fun H' hs=> ⟨View.le_trans hle1 (View.le_trans q4 hs.base),g2,m,rfl,⟨ht,hs'⟩,⟨hn3,hl3⟩,fun x hx=> ⟨hs.at_ x (by simp[hx]),none_le (View.le_trans hle1 q4) (hs.out x (by simp[hx]))⟩⟩
end
def Bk.safe1(k:Bk)(s:List UInt8):Bool:=(slipsL s).all fun x=> (k.line x).isNone
def Bk.safeAt(k:Bk)(s:List UInt8)(i:Nat):Bool:=(slipsL (k.num i)).all fun x=> !begins x s
def Bk.safe(k:Bk)(s:List UInt8):Bool:=k.safe1 s&&allB (k.safeAt s) k.nl
def takenN(s:List UInt8):Nat:=(s.map pn).sum
theorem takenN_le(s:List UInt8)(h:s.all dig=true):takenN s≤10*s.length:=by
 induction s with
 | nil=> exact Nat.le_refl _
 | cons x t ih=>
   rw[List.all_cons,Bool.and_eq_true] at h;have h1:=ih h.2;have h2:=pn_in h.1;unfold takenN at h1 ⊢;rw[List.map_cons,List.sum_cons,List.length_cons];omega
theorem takenN_at {s:List UInt8}{p:Nat}{x:UInt8}(h:s[p]? =some x):takenN (s.take (p+1))=takenN (s.take p)+pn x:=by
 obtain⟨hp,rfl⟩:=List.getElem?_eq_some_iff.1 h;unfold takenN;rw[List.take_succ_eq_append_getElem hp,List.map_append,List.sum_append];rfl
section
variable(M:Md prog)(H:View)
theorem safe_c(k:Bk)(A:Option Addr)(lc:Nat)(B:Option Addr)(tc:Nat)(hk:BkAt H k A lc B tc)(hn:k.small)(ha:k.alarm=0)(s:List UInt8)(hs1:s.all dig=true)(hs2:s.length≤1000):
   CallT M 118 #[k.val A lc B tc,strV s] H (fun v H'=> H.le H'∧v=.bool (k.safe s)):=by
 have hnl:=hn.nl;refine .en func118 ntmps118 fun St c cs hK=> ?_;refine U2 ?_;refine .bo fun b2=> ?_;refine .bo fun b3=> ?_;refine .al fun b4=> ?_;refine U5 ?_;refine To.callF rfl rfl rfl rfl rfl rfl (by decide) (FnT.h (slips_c M H s)) (fun v H₁ hv=> ?_);obtain⟨hle1,sb,rfl,hcap⟩:=hv;refine U ?_;have hit:=fun(H':View) (hc:CapS s sb H')=> slips_it M H' s hs1 hs2 sb hc;refine U ?_;refine Tc.db (R':= [(2,.pointer (some ⟨b2,0,none⟩)),(3,.pointer (some ⟨b3,0,none⟩)),(4,.pointer (some ⟨b4,0,none⟩)),(10,slipF sb)]) (L':= [(b4,true,.cells ⟨[.bool false]⟩ 4 (0,0)),(b3,true,.cells ⟨[strV s]⟩ 9 (0,0)),(b2,true,.cells ⟨(k.val A lc B tc).cells.toList⟩ 113 (0,0))]) ?_;refine Tc.rangeLc (A:= []) (ts:= [11]) (xs:=slipsL s) (fun rest H₄=> k.safe1 s=rest.all (fun x=> (k.line x).isNone)∧CapS s sb H₄∧H₁.le H₄) (fun j H₄=> j=.ret∧k.safe1 s=false∧H₁.le H₄) rfl rfl rfl rfl hit (fun _ _=> CapS.le _ _) (fun _ _ ⟨_,h,_⟩=> h) rfl (fun _ _=> rfl)
     ⟨rfl,hcap,View.le_refl _⟩ ?_ ?_ ?_
 · rintro r x rest _ l tmps asg bdy H₄ _ hx ⟨rfl,q2,q3,q4⟩ Q St1 cc1 cs1 hK1 q q';have hln:=fun(H':View) (h':H₄.le H')=> line_c M H' k A lc B tc (hk.rows.le (View.le_trans hle1 (View.le_trans q4 h'))) hn.nl x;rw[List.all_cons] at q2;cases hlx:k.line x with
   | none=>
     rw[hlx] at hln q2;have e2:firstI none= -1:=rfl;rw[e2] at hln;refine U3 ?_;refine Tc.beginRound (i:=0) rfl rfl rfl ?_;refine U5 ?_;refine .c rfl rfl rfl rfl (fun H hs=> .h (hln H hs.base)) ?_;refine U5 ?_;refine Tc.leaveRound hK1 (i:=0) rfl (.inl ⟨rfl,rfl⟩) (fun H' hs=> q H' H₄ _ hs ⟨rfl,q2,q3,q4⟩)
   | some j=>
     rw[hlx] at hln q2;have e2:firstI (some j)=(j:Nat):=rfl;rw[e2] at hln;refine U3 ?_;refine Tc.beginRound (i:=0) rfl rfl rfl ?_;refine U5 ?_;refine .c rfl rfl rfl rfl (fun H hs=> .h (hln H hs.base)) ?_;refine U7 ?_;refine Tc.leaveRound hK1 (i:=0) rfl (.inr (.inl ⟨_,rfl,rfl⟩)) (fun H' hs=> q' H' H₄ _ _ hs ⟨rfl,rfl,q2,q4⟩)
 · rintro r H₄ ⟨q2,q3,q4⟩;have hle4:=View.le_trans hle1 q4;have q5:k.safe1 s=true:=q2;refine Tc.marked (L:= [(b4,true,.cells ⟨[.bool false]⟩ 4 (0,0)),(b3,true,.cells ⟨[strV s]⟩ 9 (0,0)),(b2,true,.cells ⟨(k.val A lc B tc).cells.toList⟩ 113 (0,0))]) (rs:= []) ?_;refine U11 ?_;refine Tc.db (Tc.loopBD (σ:= { y:View×Nat×List Nat//H.le y.1∧y.2.1≤k.nl∧∀i,i<y.2.1→k.safeAt s i=true })
     (fun y=> (y.1.1,[(2,.pointer (some ⟨b2,0,none⟩)),(3,.pointer (some ⟨b3,0,none⟩)),(4,.pointer (some ⟨b4,0,none⟩)),(18,.slice A k.nl lc),(19,.int .i64 (k.nl:Nat)),(20,.int .i64 (y.1.2.1:Nat))],[(b4,true,.cells ⟨[.bool false]⟩ 4 (0,0)),(b3,true,.cells ⟨[strV s]⟩ 9 (0,0)),(b2,true,.cells ⟨(k.val A lc B tc).cells.toList⟩ 113 (0,0))]++Mk y.1.2.2,marks y.1.2.2)) (fun y=> k.nl-y.1.2.1) ?_ ⟨(H₄,0,[r]),hle4,Nat.zero_le _,fun i hi=> absurd hi (Nat.not_lt_zero _)⟩)
   rintro⟨⟨H₅,i,rs⟩,g1,g2,g3⟩ ih;simp only at g1 g2 g3;show Tc M St _ _ H₅ _ [(2,.pointer (some ⟨b2,0,none⟩)),(3,.pointer (some ⟨b3,0,none⟩)),(4,.pointer (some ⟨b4,0,none⟩)),(18,.slice A k.nl lc),(19,.int .i64 (k.nl:Nat)),(20,.int .i64 (i:Nat))] ([(b4,true,.cells ⟨[.bool false]⟩ 4 (0,0)),(b3,true,.cells ⟨[strV s]⟩ 9 (0,0)),(b2,true,.cells ⟨(k.val A lc B tc).cells.toList⟩ 113 (0,0))]++Mk rs) (marks rs) _;by_cases c1:i=k.nl
   · have e:k.safe s=true:=by
       unfold Bk.safe;rw[q5,(allB_iff k.nl).2 (by rw[←c1];exact g3)];rfl
     subst c1;rw[e] at hK;refine U11 ?_;refine Tc.retDs (E:=en) (L:= [(b4,true,.cells ⟨[.bool true]⟩ 4 (0,0)),(b3,true,.cells ⟨[strV s]⟩ 9 (0,0)),(b2,true,.cells ⟨(k.val A lc B tc).cells.toList⟩ 113 (0,0))]) (rs:=rs) hK func118 results118 (vs:= [_]) (by refine⟨⟨0,_,_,_,_,_,_,_,rfl,rfl,rfl,rfl⟩,?_⟩;exact trivial) ?_;exact fun H' hs=> ⟨View.le_trans g1 hs.base,rfl⟩
   · have c2:i<k.nl:=by omega
     obtain⟨hdg,hl1,hl3⟩:=Bk.isNum_of ha c2;have hRows:=hk.rows;obtain⟨_,h0|⟨ab,ao,fa,gs,gt,gz,rfl,hab,hrow⟩⟩:=hRows
     · omega
     obtain⟨F,fc,f1,_,_⟩:=hrow i c2;have hab5:=g1 _ _ hab;refine U13 ?_;refine .al fun b7=> ?_;refine U6 ?_;refine To.callF rfl rfl rfl rfl rfl rfl (by decide) (FnT.h (slips_c M H₅ (k.num i))) (fun v H₆ hv=> ?_);obtain⟨hle6,sb2,rfl,hcap2⟩:=hv;refine U ?_;have hit2:=fun(H':View) (hc:CapS (k.num i) sb2 H')=> slips_it M H' (k.num i) hdg (by omega) sb2 hc;refine U ?_;refine Tc.db (R':= [(2,.pointer (some ⟨b2,0,none⟩)),(3,.pointer (some ⟨b3,0,none⟩)),(4,.pointer (some ⟨b4,0,none⟩)),(18,.slice (some ⟨ab,ao,none⟩) k.nl lc),(19,.int .i64 (k.nl:Nat)),(20,.int .i64 (i:Nat)),(26,slipF sb2)]) (L':= [(b4,true,.cells ⟨[.bool false]⟩ 4 (0,0)),(b3,true,.cells ⟨[strV s]⟩ 9 (0,0)),(b2,true,.cells ⟨(k.val (some ⟨ab,ao,none⟩) lc B tc).cells.toList⟩ 113 (0,0))]++Mk rs) ?_;refine Tc.rangeLc (A:= []) (ts:= [27]) (xs:=slipsL (k.num i)) (fun rest H₄=> k.safeAt s i=rest.all (fun x=> !begins x s)∧CapS (k.num i) sb2 H₄∧H₆.le H₄) (fun j H₄=> j=.ret∧k.safeAt s i=false∧H₆.le H₄) rfl rfl rfl rfl hit2 (fun _ _=> CapS.le _ _) (fun _ _ ⟨_,h,_⟩=> h) rfl (fun _ _=> rfl)
         ⟨rfl,hcap2,View.le_refl _⟩ ?_ ?_ ?_
     · rintro r2 x rest _ l tmps asg bdy H₇ _ hx ⟨rfl,p2,p3,p4⟩ Q St1 cc1 cs1 hK1 q q';rw[List.all_cons] at p2;cases hbx:begins x s with
       | true=>
         rw[hbx] at p2;refine U3 ?_;refine Tc.beginRound (i:=0) rfl rfl rfl ?_;refine U5 ?_;refine .c rfl rfl rfl rfl (fun H hs=> .h (HasPrefix_is M H x s true hbx)) ?_;refine U6 ?_;refine Tc.leaveRound hK1 (i:=0) rfl (.inr (.inl ⟨_,rfl,rfl⟩)) (fun H' hs=> q' H' H₇ _ _ hs ⟨rfl,rfl,p2,p4⟩)
       | false=>
         rw[hbx] at p2;refine U3 ?_;refine Tc.beginRound (i:=0) rfl rfl rfl ?_;refine U5 ?_;refine .c rfl rfl rfl rfl (fun H hs=> .h (HasPrefix_is M H x s false hbx)) ?_;refine U4 ?_;refine Tc.leaveRound hK1 (i:=0) rfl (.inl ⟨rfl,rfl⟩) (fun H' hs=> q H' H₇ _ hs ⟨rfl,p2,p3,p4⟩)
     · rintro r2 H₇ ⟨p2,p3,p4⟩;refine Tc.marked (L:= [(b4,true,.cells ⟨[.bool false]⟩ 4 (0,0)),(b3,true,.cells ⟨[strV s]⟩ 9 (0,0)),(b2,true,.cells ⟨(k.val (some ⟨ab,ao,none⟩) lc B tc).cells.toList⟩ 113 (0,0))]) (rs:=rs) ?_;refine U6 ?_;have hfin:=ih ⟨(H₇,i+1,r2::rs),View.le_trans g1 (View.le_trans hle6 p4),c2,fun m hm=> by
         by_cases e:m=i
         · subst e;exact p2
         · exact g3 m (by simp only at hm;omega)⟩ (by simp only;omega)
       exact Tc.db hfin
     · rintro r2 j H₇ ⟨rfl,p2,p4⟩;have e:k.safe s=false:=by
         unfold Bk.safe;rw[allB_not c2 p2];simp
       rw[e] at hK;refine Tc.marked (L:= [(b4,true,.cells ⟨[.bool false]⟩ 4 (0,0)),(b3,true,.cells ⟨[strV s]⟩ 9 (0,0)),(b2,true,.cells ⟨(k.val (some ⟨ab,ao,none⟩) lc B tc).cells.toList⟩ 113 (0,0))]) (rs:=rs) ?_;refine Tc.retDs (E:=en) (L:= [(b4,true,.cells ⟨[.bool false]⟩ 4 (0,0)),(b3,true,.cells ⟨[strV s]⟩ 9 (0,0)),(b2,true,.cells ⟨(k.val (some ⟨ab,ao,none⟩) lc B tc).cells.toList⟩ 113 (0,0))]) (rs:=r2::rs) hK func118 results118 (vs:= [_]) (by refine⟨⟨0,_,_,_,_,_,_,_,rfl,rfl,rfl,rfl⟩,?_⟩;exact trivial) ?_;exact fun H' hs=> ⟨View.le_trans g1 (View.le_trans hle6 (View.le_trans p4 hs.base)),rfl⟩
 · rintro r j H₄ ⟨rfl,q2,q4⟩;have e:k.safe s=false:=by
     unfold Bk.safe;rw[q2];rfl
   rw[e] at hK;refine Tc.retD (E:=en) (i:=0) hK func118 results118 (vs:= [_]) rfl (by refine⟨⟨1,_,_,_,_,_,_,_,rfl,rfl,rfl,rfl⟩,?_⟩;exact trivial) ?_;exact fun H' hs=> ⟨View.le_trans hle1 (View.le_trans q4 hs.base),rfl⟩
def Bk.safeV(k:Bk)(s:List UInt8):Value:=
 if k.alarm≠0 then .tuple ⟨[.bool false,.int .i64 k.alarm]⟩ else if isNum s=false then .tuple ⟨[.bool false,.int .i64 3]⟩ else if k.clash s=true then .tuple ⟨[.bool false,.int .i64 10]⟩ else .tuple ⟨[.bool (k.safe s),.int .i64 0]⟩
theorem Safe_c(k:Bk)(A:Option Addr)(lc:Nat)(B:Option Addr)(tc:Nat)(hk:BkAt H k A lc B tc)(hn:k.small)(hG:Glob H)(s:List UInt8)(hs2:s.length≤1000):
   CallT M 52 #[k.val A lc B tc,strV s] H (fun v H'=> H.le H'∧v=k.safeV s):=by
 by_cases ha:k.alarm=0
 · have hop:=fun(H':View) (h':H.le H')=> open_yes M H' k A lc B tc (hk.le h') hn (glob_le hG h') ha;cases h1:isNum s with
   | false=>
     have ev:k.safeV s=.tuple ⟨[.bool false,.int .i64 3]⟩:=by
       unfold Bk.safeV;rw[if_neg (by simp[ha]),if_pos h1]
     rw[ev];refine .en func52 ntmps52 fun St c cs hK=> ?_;refine U2 ?_;refine .bo fun b2=> ?_;refine U6 ?_;refine .c rfl rfl rfl rfl (fun H hs=> .h (hop H hs.base)) ?_;refine U3 ?_;refine .al fun b6=> ?_;refine U15 ?_;refine .c rfl rfl rfl rfl (fun H hs=> .h (isB (isNumber_c M H s (by omega)) h1)) ?_;refine U9 ?_;refine .rt hK func52 results52 [_,_] ?_;exact okB
   | true=>
     have hdg:s.all dig=true:=by
       unfold isNum at h1;simp only[Bool.and_eq_true] at h1;exact h1.2
     cases h2:k.clash s with
     | true=>
       have ev:k.safeV s=.tuple ⟨[.bool false,.int .i64 10]⟩:=by
         unfold Bk.safeV;rw[if_neg (by simp[ha]),if_neg (by simp[h1]),if_pos h2]
       rw[ev];refine .en func52 ntmps52 fun St c cs hK=> ?_;refine U2 ?_;refine .bo fun b2=> ?_;refine U6 ?_;refine .c rfl rfl rfl rfl (fun H hs=> .h (hop H hs.base)) ?_;refine U3 ?_;refine .al fun b6=> ?_;refine U15 ?_;refine .c rfl rfl rfl rfl (fun H hs=> .h (isB (isNumber_c M H s (by omega)) h1)) ?_;refine U9 ?_;refine .c rfl rfl rfl rfl (fun H hs=> .h (isB (clashes_c M H k A lc (hk.rows.le hs.base) hn.nl s) h2)) ?_;refine U8 ?_;refine .rt hK func52 results52 [_,_] ?_;exact okB
     | false=>
       have ev:k.safeV s=.tuple ⟨[.bool (k.safe s),.int .i64 0]⟩:=by
         unfold Bk.safeV;rw[if_neg (by simp[ha]),if_neg (by simp[h1]),if_neg (by simp[h2])]
       rw[ev];refine .en func52 ntmps52 fun St c cs hK=> ?_;refine U2 ?_;refine .bo fun b2=> ?_;refine U6 ?_;refine .c rfl rfl rfl rfl (fun H hs=> .h (hop H hs.base)) ?_;refine U3 ?_;refine .al fun b6=> ?_;refine U15 ?_;refine .c rfl rfl rfl rfl (fun H hs=> .h (isB (isNumber_c M H s (by omega)) h1)) ?_;refine U9 ?_;refine .c rfl rfl rfl rfl (fun H hs=> .h (isB (clashes_c M H k A lc (hk.rows.le hs.base) hn.nl s) h2)) ?_;refine U9 ?_;refine .c rfl rfl rfl rfl (fun H hs=> .h (safe_c M H k A lc B tc (hk.le hs.base) hn ha s hdg hs2)) ?_;refine U3 ?_;refine .rt hK func52 results52 [_,_] ?_;exact okB
 · have ev:k.safeV s=.tuple ⟨[.bool false,.int .i64 k.alarm]⟩:=if_pos ha;rw[ev];refine .en func52 ntmps52 fun St c cs hK=> ?_;refine U2 ?_;refine .bo fun b2=> ?_;refine U6 ?_;refine .c rfl rfl rfl rfl (fun H hs=> .h (open_alarm M H k A lc B tc true (hk.le hs.base) hn (glob_le hG hs.base) ha)) ?_;refine U3 ?_;refine .al fun b6=> ?_;refine U18 ?_;refine .rt hK func52 results52 [_,_] ?_;exact okB
theorem taken_c(s:List UInt8)(hs1:s.all dig=true)(hs2:s.length≤1000):CallT M 128 #[strV s] H (fun v H'=> H.le H'∧v=.int .i64 (takenN s:Nat)):=by
 have hb:=takenN_le s hs1;refine .en func128 ntmps128 fun St c cs hK=> ?_;refine U12 ?_;refine .e (Or.rangeS (E:=en) (s:=⟨⟨s⟩⟩) rfl rfl rfl rfl rfl (by decide) (fun it=> ?_));refine U2 ?_;refine Tc.db (Tc.loopInv (σ:= { p:Nat//p≤s.length }) (fun p=> ([(3,.int .i64 (takenN (s.take p.1):Nat)),(7,.pointer (some ⟨it,0,none⟩))],[(it,true,.stringIter ⟨⟨s⟩⟩ p.1)])) (fun p=> s.length-p.1) ?_ ⟨0,Nat.zero_le _⟩);rintro⟨p,hp⟩ ih;show Tc M St _ _ _ _ [(3,.int .i64 (takenN (s.take p):Nat)),(7,.pointer (some ⟨it,0,none⟩))] [(it,true,.stringIter ⟨⟨s⟩⟩ p)] _ _;have hps0:takenN (s.take p)≤10*p:=by
   have h1:(s.take p).all dig=true:=List.all_eq_true.2 fun x hx=> List.all_eq_true.1 hs1 x (List.mem_of_mem_take hx);have h2:=takenN_le (s.take p) h1;rw[List.length_take] at h2;omega
 by_cases c1:p=s.length
 · subst c1;have hnp:¬s.length<(ByteArray.mk ⟨s⟩).size:=by show ¬s.length<s.length;omega
   rw[List.take_length];refine U2 ?_;refine .e (Or.nextS0 0 rfl rfl rfl hnp rfl (by decide) ?_);refine U10 ?_;refine .rt hK func128 results128 [_] ?_;exact okB
 · have c2:p<s.length:=by omega
   obtain⟨x,hx,hdx,hdec⟩:=dec_dig s p c2 hs1;have hpn:=pn_in hdx;have hps:p<(ByteArray.mk ⟨s⟩).size:=c2;have ha:intBin .add .i64 (takenN (s.take p):Nat) (pn x:Nat)=some (.int .i64 ((takenN (s.take (p+1)):Nat):Int)):=by
     rw[add_in (by omega) (by omega),takenN_at hx];rfl
   refine U2 ?_;refine .e (Or.nextS 0 rfl rfl rfl hps hdec rfl (by decide) ?_);refine U14 ?_;refine .c rfl rfl rfl rfl (fun H hs=> .h (pulses_c M H x hdx)) ?_;refine U4 ?_;exact Tc.db (ih ⟨p+1,by omega⟩ (by simp only;omega))
def pulsesV(s:List UInt8):Value:=if isNum s=false then .tuple ⟨[.int .i64 0,.int .i64 3]⟩ else .tuple ⟨[.int .i64 (takenN s:Nat),.int .i64 0]⟩
theorem Pulses_c(s:List UInt8)(hs2:s.length≤1000):CallT M 67 #[strV s] H (fun v H'=> H.le H'∧v=pulsesV s):=by
 cases h1:isNum s with
 | false=>
   have ev:pulsesV s=.tuple ⟨[.int .i64 0,.int .i64 3]⟩:=if_pos h1;rw[ev];refine .en func67 ntmps67 fun St c cs hK=> ?_;refine U9 ?_;refine .c rfl rfl rfl rfl (fun H hs=> .h (isB (isNumber_c M H s (by omega)) h1)) ?_;refine U8 ?_;refine .rt hK func67 results67 [_,_] ?_;exact okB
 | true=>
   have hdg:s.all dig=true:=by
     unfold isNum at h1;simp only[Bool.and_eq_true] at h1;exact h1.2
   have ev:pulsesV s=.tuple ⟨[.int .i64 (takenN s:Nat),.int .i64 0]⟩:=if_neg (by simp[h1]);rw[ev];refine .en func67 ntmps67 fun St c cs hK=> ?_;refine U9 ?_;refine .c rfl rfl rfl rfl (fun H hs=> .h (isB (isNumber_c M H s (by omega)) h1)) ?_;refine U7 ?_;refine .c rfl rfl rfl rfl (fun H hs=> .h (taken_c M H s hdg hs2)) ?_;refine U3 ?_;refine .rt hK func67 results67 [_,_] ?_;exact okB
end
def allFrom(dg:List UInt8):Nat→List UInt8→List (List UInt8)
 | 0,s=> [s]
 | d+1,s=> dg.flatMap fun x=> allFrom dg d (s++[x])
def allL(dg:List UInt8)(many:Nat):List (List UInt8):=allFrom dg many []
theorem allFrom_drop(dg:List UInt8)(d:Nat)(s:List UInt8){p:Nat}{x:UInt8}(h:dg[p]? =some x):(dg.drop p).flatMap (fun x=> allFrom dg d (s++[x]))=allFrom dg d (s++[x])++(dg.drop (p+1)).flatMap (fun x=> allFrom dg d (s++[x])):=by
 obtain⟨hp,rfl⟩:=List.getElem?_eq_some_iff.1 h;rw[List.drop_eq_getElem_cons hp,List.flatMap_cons]
def allF(b1 b2:Nat):Value:=.func (.func 182) #[] #[.pointer (some ⟨b1,0,none⟩),.pointer (some ⟨b2,0,none⟩)]
def moreF(b1 b3 b2 b4:Nat):Value:=.func (.func 183) #[] #[.pointer (some ⟨b1,0,none⟩),.pointer (some ⟨b3,0,none⟩),.pointer (some ⟨b2,0,none⟩),.pointer (some ⟨b4,0,none⟩)]
structure CapA(many:Nat)(dg:List UInt8)(b1 b2:Nat)(H:View):Prop where
 a:∃f,H b1=some (f,.cells ⟨[.int .i64 (many:Nat)]⟩ 3 (0,0))
 b:∃f,H b2=some (f,.cells ⟨[strV dg]⟩ 9 (0,0))
theorem CapA.le {many:Nat}{dg:List UInt8}{b1 b2:Nat}(H H':View)(h:H.le H')(c:CapA many dg b1 b2 H):CapA many dg b1 b2 H':=⟨c.a.imp fun _ e=> h _ _ e,c.b.imp fun _ e=> h _ _ e⟩
def moreB(l b1 b2 b3 b4:Nat):Bl:= [(b4,true,.cells ⟨[moreF b1 b3 b2 b4]⟩ 167 (0,0)),(b3,true,.cells ⟨[.func (.yield l) #[] #[]]⟩ 167 (0,0))]
section
variable(M:Md prog)(H:View)
theorem all_c(many:Nat)(dg:List UInt8):CallT M 116 #[.int .i64 (many:Nat),strV dg] H (fun v H'=> H.le H'∧∃b1 b2,v=allF b1 b2∧CapA many dg b1 b2 H'):=by
 refine .en func116 ntmps116 fun St c cs hK=> ?_;refine U2 ?_;refine .bo fun b2=> ?_;refine .bo fun b3=> ?_;refine U7 ?_;refine .rt hK func116 results116 [_] ?_;exact fun H' hs=> ⟨hs.base,b2,b3,rfl,⟨true,hs.get (i:=1) rfl⟩,⟨true,hs.get (i:=0) rfl⟩⟩
theorem more_c(many:Nat)(dg:List UInt8)(hm:many≤1000)(hdg:dg.all dig=true)(hdl:dg.length≤1000)(l b1 b2 b3 b4:Nat)(xs:List (List UInt8))(J:List (List UInt8)→View→Prop)(D:View→Prop)(hcap:∀rest H',J rest H'→CapA many dg b1 b2 H')
   (hy:∀x rest (_:Unit) H' H'',x∈xs→J (x::rest) H'→SymSt H' [] H''→FnT M (.func (.yield l) #[] #[]) [strV x] H'' fun v H3=> (v=.bool true∧∃H₂,SymSt H₂ [] H3∧J rest H₂)∨(v=.bool false∧D H3)):
   ∀ (d:Nat) (s:List UInt8) (rest:List (List UInt8)) (H₁ Hc:View),s.length+d=many→J (allFrom dg d s++rest) H₁→(∀x∈allFrom dg d s,x∈xs)→SymSt H₁ (moreB l b1 b2 b3 b4) Hc→
     CallT M 183 #[strV s,.pointer (some ⟨b1,0,none⟩),.pointer (some ⟨b3,0,none⟩),.pointer (some ⟨b2,0,none⟩),.pointer (some ⟨b4,0,none⟩)] Hc (fun v H3=> (v=.bool true∧∃H₂,SymSt H₂ (moreB l b1 b2 b3 b4) H3∧J rest H₂)∨(v=.bool false∧∃H₂,H₂.le H3∧D H₂)):=by
 intro d;induction d with
 | zero=>
   intro s rest H₁ Hc hsd hJ hin hsy;obtain⟨⟨fa,ha⟩,⟨fb,hb⟩⟩:=hcap _ _ hJ;refine CallT.enter (vs:= [strV s,.pointer (some ⟨b1,0,none⟩),.pointer (some ⟨b3,0,none⟩),.pointer (some ⟨b2,0,none⟩),.pointer (some ⟨b4,0,none⟩)]) func183 rfl ntmps183 (Nat.le_of_ble_eq_true rfl) (hsy) fun St c cs hK=> ?_;unfold moreB;refine U17 ?_;refine To.callF rfl rfl rfl rfl rfl rfl (by decide) (hy s rest () H₁ H₁ (hin s (by simp[allFrom])) hJ (SymSt.nil H₁)) (fun v H₃ hv=> ?_);rcases hv with ⟨rfl,H4,h8,j3⟩|⟨rfl,hD⟩
   · refine To.lower h8.base ?_;refine U2 ?_;refine .rt hK func183 results183 [_] ?_;exact fun H' hs=> .inl ⟨rfl,H4,hs,j3⟩
   · refine U2 ?_;refine .rt hK func183 results183 [_] ?_;exact fun H' hs=> .inr ⟨rfl,H₃,hs.base,hD⟩
 | succ d ihd=>
   intro s rest H₁ Hc hsd hJ hin hsy;obtain⟨⟨fa,ha⟩,⟨fb,hb⟩⟩:=hcap _ _ hJ;refine CallT.enter (vs:= [strV s,.pointer (some ⟨b1,0,none⟩),.pointer (some ⟨b3,0,none⟩),.pointer (some ⟨b2,0,none⟩),.pointer (some ⟨b4,0,none⟩)]) func183 rfl ntmps183 (Nat.le_of_ble_eq_true rfl) (hsy) fun St c cs hK=> ?_;unfold moreB;refine U18 ?_;refine .e (Or.rangeS (E:=en) (s:=⟨⟨dg⟩⟩) rfl rfl rfl rfl rfl (by decide) (fun it=> ?_));refine U2 ?_;refine Tc.db (Tc.loopB (σ:= { x:Nat×View//x.1≤dg.length∧J ((dg.drop x.1).flatMap (fun y=> allFrom dg d (s++[y]))++rest) x.2 })
     (fun x=> (x.1.2,[(0,strV s),(1,.pointer (some ⟨b1,0,none⟩)),(2,.pointer (some ⟨b3,0,none⟩)),(3,.pointer (some ⟨b2,0,none⟩)),(4,.pointer (some ⟨b4,0,none⟩)),(16,.pointer (some ⟨it,0,none⟩))],[(it,true,.stringIter ⟨⟨dg⟩⟩ x.1.1),(b4,true,.cells ⟨[moreF b1 b3 b2 b4]⟩ 167 (0,0)),(b3,true,.cells ⟨[.func (.yield l) #[] #[]]⟩ 167 (0,0))])) (fun x=> dg.length-x.1.1) ?_ ⟨(0,H₁),Nat.zero_le _,hJ⟩)
   rintro⟨⟨p,H₂⟩,g1,j1⟩ ih;simp only at g1 j1;show Tc M St _ _ H₂ _ [(0,strV s),(1,.pointer (some ⟨b1,0,none⟩)),(2,.pointer (some ⟨b3,0,none⟩)),(3,.pointer (some ⟨b2,0,none⟩)),(4,.pointer (some ⟨b4,0,none⟩)),(16,.pointer (some ⟨it,0,none⟩))] [(it,true,.stringIter ⟨⟨dg⟩⟩ p),(b4,true,.cells ⟨[moreF b1 b3 b2 b4]⟩ 167 (0,0)),(b3,true,.cells ⟨[.func (.yield l) #[] #[]]⟩ 167 (0,0))] _ _;by_cases c1:p=dg.length
   · subst c1;have hnp:¬dg.length<(ByteArray.mk ⟨dg⟩).size:=by show ¬dg.length<dg.length;omega
     rw[List.drop_length] at j1;refine U2 ?_;refine .e (Or.nextS0 0 rfl rfl rfl hnp rfl (by decide) ?_);refine U9 ?_;refine .rt hK func183 results183 [_] ?_;exact fun H' hs=> .inl ⟨rfl,H₂,hs.less (by apply List.Sublist.cons;exact List.Sublist.refl _),j1⟩
   · have c2:p<dg.length:=by omega
     obtain⟨x,hx,hdx,hdec⟩:=dec_dig dg p c2 hdg;have hps:p<(ByteArray.mk ⟨dg⟩).size:=c2;obtain⟨⟨fa,ha⟩,⟨fb,hb⟩⟩:=hcap _ _ j1;rw[allFrom_drop dg d s hx,List.append_assoc] at j1;have hin2:∀y∈allFrom dg d (s++[x]),y∈xs:=fun y hyy=> hin y (List.mem_flatMap.2 ⟨x,List.mem_of_getElem? hx,hyy⟩);have e2:(dg.drop ((p:Nat):Int).toNat).take ((((p:Nat):Int)+1).toNat-((p:Nat):Int).toNat)= [x]:=by
       rw[show(((p:Nat):Int)+1).toNat-((p:Nat):Int).toNat=1 by omega,Int.toNat_natCast];obtain⟨hp',rfl⟩:=List.getElem?_eq_some_iff.1 hx;rw[List.drop_eq_getElem_cons hp'];rfl
     refine U2 ?_;refine .e (Or.nextS 0 rfl rfl rfl hps hdec rfl (by decide) ?_);refine U12 ?_;refine Tc.drC [] [8] [] mixed rfl ?_;refine .oo 0 ?_;refine .oo 1 ?_;refine .oo 2 ?_;refine .oo 3 ?_;refine .oo 4 ?_;refine .oo 5 ?_;refine Ta.tkC 6 (by kernel_rfl) rfl rfl (by decide) rfl rfl (OpV.take (OpV.sliceS (E:=en) rfl rfl rfl rfl rfl rfl (by omega) (by omega) (by omega))) ?_;refine Ta.tkC 7 (by kernel_rfl) rfl rfl (by decide) rfl rfl (OpV.take (OpV.strB rfl rfl rfl (by exact strB_add (by simp <;> omega)))) ?_;rw[e2];refine Ta.lift (L₂:= [(it,true,.stringIter ⟨⟨dg⟩⟩ (p+1))]) (L₁:=moreB l b1 b2 b3 b4) rfl (fun Hx hx1=> ?_);refine Ta.callF 8 (by kernel_rfl) rfl (by kernel_rfl) rfl rfl rfl rfl rfl rfl (by decide) (FnT.of (first:= []) (captured:= [_,_,_,_]) ca183 rfl (ihd (s++[x]) _ H₂ Hx (by rw[List.length_append];show s.length+1+d=many;omega) j1 hin2 hx1)) (fun v H₃ hv=> ?_);rcases hv with ⟨rfl,H4,h8,j3⟩|⟨rfl,H4,hl4,hD⟩
     · refine Ta.expand h8 ?_;unfold moreB;refine Ta.each [9] (by kernel_rfl) rfl ⟨TaOp.mk rfl rfl rfl (Or.ofV .nt rfl (by decide) ⟨S3.off (by kernel_rfl),?_⟩),trivial⟩;refine .dn ?_;refine U3 ?_;exact Tc.db (ih ⟨(p+1,H4),by simp only;omega,j3⟩ (by simp only;omega))
     · refine Ta.each [9] (by kernel_rfl) rfl ⟨TaOp.mk rfl rfl rfl (Or.ofV .nt rfl (by decide) ⟨S3.off (by kernel_rfl),?_⟩),trivial⟩;refine .dn ?_;refine U5 ?_;refine .rt hK func183 results183 [_] ?_;exact fun H' hs=> .inr ⟨rfl,H4,View.le_trans hl4 hs.base,hD⟩
theorem all_it(many:Nat)(dg:List UInt8)(hm:many≤1000)(hdg:dg.all dig=true)(hdl:dg.length≤1000)(b1 b2:Nat):
   IterT M (allF b1 b2) (allL dg many) (fun x (_:Unit)=> [strV x]) (fun _ _=> []) (fun _ _=> []) (CapA many dg b1 b2) [] H:=fun l J D hcap h0 hy H₀ hs₀=> by
 refine FnT.of (first:= []) (captured:= [_,_]) ca182 rfl ?_;refine CallT.enter (vs:= [.func (.yield l) #[] #[],.pointer (some ⟨b1,0,none⟩),.pointer (some ⟨b2,0,none⟩)]) func182 rfl ntmps182 (Nat.le_of_ble_eq_true rfl) (hs₀) fun St c cs hK=> ?_;refine U2 ?_;refine .bo fun b3=> ?_;refine U3 ?_;refine .al fun b4=> ?_;refine U8 ?_;refine To.lift (L₂:= []) (L₁:=moreB l b1 b2 b3 b4) rfl (fun Hx hx=> ?_);refine To.callF rfl rfl rfl rfl rfl rfl (by decide) (FnT.of (first:= []) (captured:= [_,_,_,_]) ca183 rfl (more_c M many dg hm hdg hdl l b1 b2 b3 b4 (allL dg many) J D hcap (fun x rest e H' H'' h1 h2 h3=> hy x rest e H' H'' h1 h2 h3) many [] [] H Hx (Nat.zero_add _) (by rw[List.append_nil];exact h0) (fun x hx=> hx) hx)) (fun v H₃ hv=> ?_);refine U ?_;refine .ov hK func182 results182 [] ?_;intro H' hs;rcases hv with ⟨_,H4,h8,j3⟩|⟨_,H4,hl4,hD⟩
 · exact⟨H4,View.le_trans h8.base hs.base,.inl j3⟩
 · exact⟨H4,View.le_trans hl4 hs.base,.inr hD⟩
end
theorem mem_allFrom {dg:List UInt8}:∀(d:Nat) (s x:List UInt8),x∈allFrom dg d s→x.length=s.length+d∧∀y∈x,y∈s∨y∈dg
 | 0,s,x,h=> by
   have:x=s:=by simpa [allFrom] using h
   subst this;exact⟨rfl,fun y hy=> .inl hy⟩
 | d + 1,s,x,h=> by
   obtain⟨z,hz,h2⟩:=List.mem_flatMap.1 h;obtain⟨h3,h4⟩:=mem_allFrom d _ x h2;refine⟨by rw[h3,List.length_append];show s.length+1+d=_;omega,fun y hy=> ?_⟩;rcases h4 y hy with h5|h5
   · rcases List.mem_append.1 h5 with h6|h6
     · exact .inl h6
     · have:y=z:=by simpa using h6
       subst this;exact .inr hz
   · exact .inr h5
theorem mem_allL {dg:List UInt8}{n:Nat}{x:List UInt8}(h:x∈allL dg n):x.length=n∧∀y∈x,y∈dg:=by
 obtain⟨h1,h2⟩:=mem_allFrom n [] x h;exact⟨by simpa using h1,fun y hy=> (h2 y hy).resolve_left (by simp)⟩
theorem digs_dig:digs.all dig=true:=by decide +kernel
def Bk.spareOk(k:Bk)(sf:Bool)(x:List UInt8):Bool:=!k.clash x&&(!sf||k.safe x)
def Bk.spare(k:Bk)(n:Nat)(sf:Bool):Option (List UInt8):=(allL digs n).find? (k.spareOk sf)
def spare3(x:List UInt8)(t:Bool)(a:Int):Value:=.tuple ⟨[strV x,.bool t,.int .i64 a]⟩
def Bk.spareV(k:Bk)(z:Int)(sf:Bool):Value:=
 if k.alarm≠0 then spare3 [] false k.alarm else if ¬(1≤z∧z≤3) then spare3 [] false 1 else match k.spare z.toNat sf with
   | some x=> spare3 x true 0
   | none=> spare3 [] false 0
section
variable(M:Md prog)(H:View)
theorem Spare_c(k:Bk)(A:Option Addr)(lc:Nat)(B:Option Addr)(tc:Nat)(hk:BkAt H k A lc B tc)(hn:k.small)(hG:Glob H)(z:Int)(sf:Bool):
   CallT M 50 #[k.val A lc B tc,.int .i64 z,.bool sf] H (fun v H'=> H.le H'∧v=k.spareV z sf):=by
 by_cases ha:k.alarm=0
 · have hop:=fun(H':View) (h':H.le H')=> open_yes M H' k A lc B tc (hk.le h') hn (glob_le hG h') ha;by_cases c1:1≤z∧z≤3
   · obtain ⟨n,rfl⟩:∃n:Nat,z=n:=⟨z.toNat,by omega⟩
     have ev:k.spareV (n:Nat) sf=match k.spare n sf with
         | some x=> spare3 x true 0
         | none=> spare3 [] false 0:=by
       unfold Bk.spareV;rw[if_neg (by simp[ha]),if_neg (fun h=> h c1)];rfl
     have hbt:=fun(H':View)=> between_is M H' ((n:Nat):Int) 1 3 true (decide_eq_true c1);refine .en func50 ntmps50 fun St c cs hK=> ?_;refine U2 ?_;refine .bo fun b3=> ?_;refine .bo fun b5=> ?_;refine .al fun b6=> ?_;refine .al fun b7=> ?_;refine .al fun b8=> ?_;refine U4 ?_;refine .c rfl rfl rfl rfl (fun H hs=> .h (hop H hs.base)) ?_;refine U3 ?_;refine .al fun b9=> ?_;refine U15 ?_;refine .c rfl rfl rfl rfl (fun H hs=> .h (hbt H)) ?_;refine U10 ?_;refine To.callF rfl rfl rfl rfl rfl rfl (by decide) (FnT.h (all_c M H n digs)) (fun v H₁ hv=> ?_);obtain⟨hle1,a1,a2,rfl,hcap⟩:=hv;refine U ?_;have hit:=fun(H':View) (_:CapA n digs a1 a2 H')=> all_it M H' n digs (by omega) digs_dig (by decide) a1 a2;refine U ?_;refine Tc.db (R':= [(3,.pointer (some ⟨b3,0,none⟩)),(5,.pointer (some ⟨b5,0,none⟩)),(6,.pointer (some ⟨b6,0,none⟩)),(7,.pointer (some ⟨b7,0,none⟩)),(8,.pointer (some ⟨b8,0,none⟩)),(9,.pointer (some ⟨b9,0,none⟩)),(25,allF a1 a2)])
       (L':= [(b9,true,.cells ⟨(k.val A lc B tc).cells.toList⟩ 113 (0,0)),(b8,true,.cells ⟨[.int .i64 0]⟩ 29 (0,0)),(b7,true,.cells ⟨[.bool false]⟩ 4 (0,0)),(b6,true,.cells ⟨[strV []]⟩ 9 (0,0)),(b5,true,.cells ⟨[.bool sf]⟩ 4 (0,0)),(b3,true,.cells ⟨(k.val A lc B tc).cells.toList⟩ 25 (0,0))]) ?_
     refine Tc.rangeL (A:= []) (ts:= [26]) (xs:=allL digs n) (fun rest H₄ L₄=> L₄= [(b9,true,.cells ⟨(k.val A lc B tc).cells.toList⟩ 113 (0,0)),(b8,true,.cells ⟨[.int .i64 0]⟩ 29 (0,0)),(b7,true,.cells ⟨[.bool false]⟩ 4 (0,0)),(b6,true,.cells ⟨[strV []]⟩ 9 (0,0)),(b5,true,.cells ⟨[.bool sf]⟩ 4 (0,0)),(b3,true,.cells ⟨(k.val A lc B tc).cells.toList⟩ 25 (0,0))]
         ∧k.spare n sf=rest.find? (k.spareOk sf)∧CapA n digs a1 a2 H₄∧H₁.le H₄)
         (fun j H₄ L₄=> ∃x,L₄= [(b9,true,.cells ⟨(k.val A lc B tc).cells.toList⟩ 113 (0,0)),(b8,true,.cells ⟨[.int .i64 0]⟩ 29 (0,0)),(b7,true,.cells ⟨[.bool true]⟩ 4 (0,0)),(b6,true,.cells ⟨[strV x]⟩ 9 (0,0)),(b5,true,.cells ⟨[.bool sf]⟩ 4 (0,0)),(b3,true,.cells ⟨(k.val A lc B tc).cells.toList⟩ 25 (0,0))]∧j=.ret∧k.spare n sf=some x∧H₁.le H₄)
         rfl rfl rfl rfl hit (fun _ _=> CapA.le _ _) (fun _ _ _ ⟨_,_,h,_⟩=> h) rfl (fun _ _=> rfl) ⟨rfl,rfl,hcap,View.le_refl _⟩ ?_ ?_ ?_
     · rintro r x rest _ l tmps asg bdy H₄ _ hx ⟨rfl,q2,q3,q4⟩ Q St1 cc1 cs1 hK1 q q';have hle4:=View.le_trans hle1 q4;obtain⟨hxl,hxd⟩:=mem_allL hx;have hxdig:x.all dig=true:=List.all_eq_true.2 fun y hy=> List.all_eq_true.1 digs_dig y (hxd y hy);have hcl:=fun(H':View) (h':H₄.le H')=> clashes_c M H' k A lc (hk.rows.le (View.le_trans hle4 h')) hn.nl x;have hsf:=fun(H':View) (h':H₄.le H')=> safe_c M H' k A lc B tc (hk.le (View.le_trans hle4 h')) hn ha x hxdig (by omega);rw[List.find?_cons] at q2;cases h1:k.clash x with
       | true=>
         have e1:k.spareOk sf x=false:=by unfold Bk.spareOk;rw[h1];rfl
         rw[e1] at q2;rw[h1] at hcl;refine U3 ?_;refine Tc.beginRound (i:=0) rfl rfl rfl ?_;refine U4 ?_;refine .x (.ld 7) ?_;refine U ?_;refine .c rfl rfl rfl rfl (fun H hs=> .h (hcl H hs.base)) ?_;refine U5 ?_;refine To.skippedU rfl (by decide) rfl ?_;refine To.skippedU rfl (by decide) rfl ?_;refine To.skippedU rfl (by decide) rfl ?_;refine U6 ?_;refine Tc.leaveRound hK1 (i:=0) rfl (.inl ⟨rfl,rfl⟩) (fun H' hs=> q H' H₄ _ hs ⟨rfl,q2,q3,q4⟩)
       | false=>
         rw[h1] at hcl;cases sf with
         | false=>
           have e1:k.spareOk false x=true:=by unfold Bk.spareOk;rw[h1];rfl
           rw[e1] at q2;refine U3 ?_;refine Tc.beginRound (i:=0) rfl rfl rfl ?_;refine U4 ?_;refine .x (.ld 7) ?_;refine U ?_;refine .c rfl rfl rfl rfl (fun H hs=> .h (hcl H hs.base)) ?_;refine U19 ?_;refine Tc.leaveRound hK1 (i:=0) rfl (.inr (.inl ⟨_,rfl,rfl⟩)) (fun H' hs=> q' H' H₄ _ _ hs ⟨x,rfl,rfl,q2,q4⟩)
         | true=>
           cases h2:k.safe x with
           | true=>
             have e1:k.spareOk true x=true:=by unfold Bk.spareOk;rw[h1,h2];rfl
             rw[e1] at q2;rw[h2] at hsf;refine U3 ?_;refine Tc.beginRound (i:=0) rfl rfl rfl ?_;refine U4 ?_;refine .x (.ld 7) ?_;refine U ?_;refine .c rfl rfl rfl rfl (fun H hs=> .h (hcl H hs.base)) ?_;refine U7 ?_;refine .c rfl rfl rfl rfl (fun H hs=> .h (hsf H hs.base)) ?_;refine U11 ?_;refine Tc.leaveRound hK1 (i:=0) rfl (.inr (.inl ⟨_,rfl,rfl⟩)) (fun H' hs=> q' H' H₄ _ _ hs ⟨x,rfl,rfl,q2,q4⟩)
           | false=>
             have e1:k.spareOk true x=false:=by unfold Bk.spareOk;rw[h1,h2];rfl
             rw[e1] at q2;rw[h2] at hsf;refine U3 ?_;refine Tc.beginRound (i:=0) rfl rfl rfl ?_;refine U4 ?_;refine .x (.ld 7) ?_;refine U ?_;refine .c rfl rfl rfl rfl (fun H hs=> .h (hcl H hs.base)) ?_;refine U7 ?_;refine .c rfl rfl rfl rfl (fun H hs=> .h (hsf H hs.base)) ?_;refine U6 ?_;refine Tc.leaveRound hK1 (i:=0) rfl (.inl ⟨rfl,rfl⟩) (fun H' hs=> q H' H₄ _ hs ⟨rfl,q2,q3,q4⟩)
     · rintro r H₄ _ ⟨rfl,q2,q3,q4⟩;have e1:k.spare n sf=none:=q2;rw[ev,e1] at hK;refine U7 ?_;refine Tc.retD (E:=en) (i:=0) hK func50 results50 (vs:= [_,_,_]) rfl (by refine⟨⟨4,_,_,_,_,_,_,_,rfl,rfl,rfl,rfl⟩,?_⟩;refine⟨⟨3,_,_,_,_,_,_,_,rfl,rfl,rfl,rfl⟩,?_⟩;refine⟨⟨2,_,_,_,_,_,_,_,rfl,rfl,rfl,rfl⟩,?_⟩;exact trivial) ?_;exact fun H' hs=> ⟨View.le_trans hle1 (View.le_trans q4 hs.base),rfl⟩
     · rintro r j H₄ _ ⟨x,rfl,rfl,q2,q4⟩;rw[ev,q2] at hK;refine Tc.retD (E:=en) (i:=0) hK func50 results50 (vs:= [_,_,_]) rfl (by refine⟨⟨4,_,_,_,_,_,_,_,rfl,rfl,rfl,rfl⟩,?_⟩;refine⟨⟨3,_,_,_,_,_,_,_,rfl,rfl,rfl,rfl⟩,?_⟩;refine⟨⟨2,_,_,_,_,_,_,_,rfl,rfl,rfl,rfl⟩,?_⟩;exact trivial) ?_;exact fun H' hs=> ⟨View.le_trans hle1 (View.le_trans q4 hs.base),rfl⟩
   · have ev:k.spareV z sf=spare3 [] false 1:=by
       unfold Bk.spareV;rw[if_neg (by simp[ha]),if_pos c1]
     have hbt:=fun(H':View)=> between_is M H' z 1 3 false (decide_eq_false c1);rw[ev];refine .en func50 ntmps50 fun St c cs hK=> ?_;refine U2 ?_;refine .bo fun b3=> ?_;refine .bo fun b5=> ?_;refine .al fun b6=> ?_;refine .al fun b7=> ?_;refine .al fun b8=> ?_;refine U4 ?_;refine .c rfl rfl rfl rfl (fun H hs=> .h (hop H hs.base)) ?_;refine U3 ?_;refine .al fun b9=> ?_;refine U15 ?_;refine .c rfl rfl rfl rfl (fun H hs=> .h (hbt H)) ?_;refine U10 ?_;refine .rt hK func50 results50 [_,_,_] ?_;exact okB
 · have ev:k.spareV z sf=spare3 [] false k.alarm:=if_pos ha;rw[ev];refine .en func50 ntmps50 fun St c cs hK=> ?_;refine U2 ?_;refine .bo fun b3=> ?_;refine .bo fun b5=> ?_;refine .al fun b6=> ?_;refine .al fun b7=> ?_;refine .al fun b8=> ?_;refine U4 ?_;refine .c rfl rfl rfl rfl (fun H hs=> .h (open_alarm M H k A lc B tc true (hk.le hs.base) hn (glob_le hG hs.base) ha)) ?_;refine U3 ?_;refine .al fun b9=> ?_;refine U13 ?_;refine Tc.drE [3] [1,2,3] [2,3] mixed rfl ?_;refine .nn 0 ?_;refine Ta.each [1] (by kernel_rfl) rfl ⟨TaOp.mk rfl rfl rfl (.st 3 (zz:=⟨S2.mk (by apply List.Sublist.cons_cons;apply List.Sublist.cons;apply List.Sublist.cons;apply List.Sublist.cons;exact List.Sublist.refl _) (.inr (by apply List.Sublist.cons_cons;apply List.Sublist.cons_cons;apply List.Sublist.cons;apply List.Sublist.cons;exact List.Sublist.refl _)),?_⟩)),trivial⟩;refine Ta.each [2] (by kernel_rfl) rfl ⟨TaOp.mk rfl rfl rfl (.st 2 (zz:=⟨S2.mk (by apply List.Sublist.cons_cons;apply List.Sublist.cons;apply List.Sublist.cons;apply List.Sublist.cons;exact List.Sublist.refl _) (.inr (by apply List.Sublist.cons_cons;apply List.Sublist.cons_cons;apply List.Sublist.cons;apply List.Sublist.cons;exact List.Sublist.refl _)),?_⟩)),trivial⟩;refine .e 3 1 ?_;refine .dn ?_;refine .rt hK func50 results50 [_,_,_] ?_;exact okB
end
end Go.Proofs.YtdnfdeplcjaonaaGreatDoor
namespace Go.RL
open Go.Conc
section
variable {P:Program}{E:Env P}{M:Md P}{n:Nat}{H₀:View}{R:Rg}{L:Bl}{o:Oper}{K:Rg→Bl→Prop}{d:Nat}
theorem Gl.bl_nodup {e:TypeId}{sz:Nat}(g:Gl e sz):(g.bl.map (·.1)).Nodup:=by
 unfold Gl.bl;split <;> simp
theorem Or.appendK(k:Nat){cl:Go.Call}{x y:Operand}{t xt e:TypeId}{sz m:Nat}{yv:Value}{new:List Value}{g:Gl e sz}{r re rx:TyRow}{ex:TypeId}(hop:o.op=.call cl)(hcl:cl.callee=.builtin .append)(hat:cl.argTypes=#[t,xt])(har:cl.args=#[x,y])
   (hx:evR R x=some g.val) (hy:evR R y=some yv) (ht:E.ty t=some r) (hds:r.ds=.slice e) (hre:E.ty e=some re) (hsz:re.size=sz) (hzs:Nat.beq re.zero.cells.toList.length sz=true) (hxt:E.ty xt=some rx) (hex:rx.ds=.slice ex) (hby:Nat.ble re.bytes 1000=true)
   (hL:L.drop k=g.bl) (hsrc:∀H,SymSt H₀ L H→SrcAt H sz yv m new) (hs:new.all single=true) (hm:g.n+m≤1000000000) (hd:o.dst=some d) (hn:d<n)
   (hk1:∀g':Gl e sz,g'.n=g.n+m→g'.l=g.l++new→g'.blk=g.blk→g'.cap=g.cap→K ((d,g'.val)::R) (L.take k++g'.bl))
   (hk2:∀g':Gl e sz,g'.n=g.n+m→g'.l=g.l++new→K ((d,g'.val)::R) (L++g'.bl)):Or M n H₀ R L o K:=
 .val hd hn fun H tmps hst hr=> by
   have hLe:L=L.take k++g.bl:=by rw[←hL,List.take_append_drop]
   have hst0:=hst;unfold execOp;rw[hop];simp only[resolve,hcl,hat,har];have hm':Array.map (evT tmps) #[x,y]=#[g.val,yv]:=by simp[hr.ev hx,hr.ev hy]
   rw[hm'];rw[hLe] at hst;refine vwp_bind (Builtin.append_ #[t,xt] o.type #[g.val,yv]) _ ?_;refine vwp_appendC ht hds hre hsz (Nat.eq_of_beq_eq_true hzs) ⟨rx,ex,hxt,hex⟩ (Nat.le_of_ble_eq_true hby) hm (fun z hz=> hst.at_ z (by simp[hz])) (hsrc H hst0) hs fun g' H' h1 h2 h3 h4 h5=> ?_;cases hb:g'.blk with
   | none=>
     have hbl:g'.bl= []:=by unfold Gl.bl;rw[hb]
     have hHH:H'=H:=funext fun c=> h4 c (fun b hbb=> by rw[hb] at hbb;cases hbb);subst hHH;refine⟨_,rfl,L,hst0,?_⟩;have:=hk2 g' h1 h2
     rwa [hbl,List.append_nil] at this
   | some b=>
     rcases h3 b hb with ⟨h6,h7⟩|h6
     · exact⟨_,rfl,_,hst.grown (fun b hbb=> (h3 b hbb).imp And.left id) h4 h5,hk1 g' h1 h2 (hb.trans h6.symm) h7⟩
     · have hbl:g'.bl= [(b,true,.cells ⟨g'.l++g'.junk⟩ e (0,0))]:=by unfold Gl.bl;rw[hb]
       have hle:H.le H':=fun c z hc=> by
         rw[h4 c (fun b' hb'=> by
           rw[hb] at hb';cases hb'
           rintro rfl;rw[h6] at hc;cases hc)]
         exact hc
       refine⟨_,rfl,_,hst0.more hle g'.bl_nodup (fun y hy=> ⟨h5 y hy,?_⟩),hk2 g' h1 h2⟩;rw[hbl,List.mem_singleton] at hy;subst hy;exact h6
end
end Go.RL
namespace Go.Proofs.YtdnfdeplcjaonaaGreatDoor
open Go.RL Go.Proofs.Tryz
set_option maxRecDepth 10000
set_option maxHeartbeats 16000000
def StrsAt(H:View)(F:Option Addr)(n:Nat)(x:Nat→List UInt8):Prop:=
 n=0∨∃b o f gs gt gz,F=some ⟨b,o,none⟩∧H b=some (f,.cells ⟨gs⟩ gt gz)∧∀j:Nat,j<n→ldL false 1 gs (o+(j:Int).toNat*1)=some (strV (x j))
theorem StrsAt.le {H H':View}{F:Option Addr}{n:Nat}{x:Nat→List UInt8}(h:StrsAt H F n x)(k:H.le H'):StrsAt H' F n x:=
 h.imp id fun⟨b,o,f,gs,gt,gz,h1,h2,h3⟩=> ⟨b,o,f,gs,gt,gz,h1,k _ _ h2,h3⟩
def weightOk(x:Int):Bool:=decide (0≤x∧x≤99)
section
variable(M:Md prog)(H:View)
theorem IndexI_c(F:Option Addr)(n fc:Nat)(x:Nat→Int)(hF:FreeAt H F n x)(hn:n≤1000000)(fv:Value)(p:Nat→Bool)(hp:∀j,j<n→∀H',H.le H'→FnT M fv [.int .i64 (x j)] H' fun v H''=> H'.le H''∧v=.bool (p j)):
   CallT M 187 #[.slice F n fc,fv] H (fun v H'=> H.le H'∧v=.int .i64 (firstI (firstTo p n))):=by
 refine .en func187 ntmps187 fun St c cs hK=> ?_;refine U12 ?_;refine Tc.db (Tc.loopInv (σ:= { j:Nat//j≤n∧firstTo p j=none }) (fun j=> ([(0,.slice F n fc),(1,fv),(7,.int .i64 (n:Nat)),(8,.int .i64 (j.1:Nat))],[])) (fun j=> n-j.1) ?_ ⟨0,Nat.zero_le _,rfl⟩);rintro⟨j,hj,hno⟩ ih;show Tc M St _ _ _ _ [(0,.slice F n fc),(1,fv),(7,.int .i64 (n:Nat)),(8,.int .i64 (j:Nat))] [] _ _;by_cases c1:j=n
 · subst c1;rw[hno] at hK;refine U11 ?_;refine .rt hK func187 results187 [_] ?_;exact okB
 · have c2:j<n:=by omega
   obtain h0|⟨ab,ao,f,gs,gt,gz,rfl,hb,hl⟩:=hF
   · omega
   have f1:=hl j c2;have hpj:=hp j c2;cases hpp:p j with
   | true=>
     rw[hpp] at hpj;have e:firstTo p n=some j:=firstTo_stays (j:=j+1) (by simp[firstTo,hno,hpp]) _ (by omega);rw[e] at hK;refine U21 ?_;refine .c rfl rfl rfl rfl (fun H hs=> hpj H hs.base) ?_;refine U7 ?_;refine .rt hK func187 results187 [_] ?_;exact okB
   | false=>
     rw[hpp] at hpj;refine U21 ?_;refine .c rfl rfl rfl rfl (fun H hs=> hpj H hs.base) ?_;refine U8 ?_;exact Tc.db (ih ⟨j+1,by omega,by simp[firstTo,hno,hpp]⟩ (by simp only;omega))
theorem ContainsI_c(F:Option Addr)(n fc:Nat)(x:Nat→Int)(hF:FreeAt H F n x)(hn:n≤1000000)(fv:Value)(p:Nat→Bool)(hp:∀j,j<n→∀H',H.le H'→FnT M fv [.int .i64 (x j)] H' fun v H''=> H'.le H''∧v=.bool (p j)):
   CallT M 120 #[.slice F n fc,fv] H (fun v H'=> H.le H'∧v=.bool (firstTo p n).isSome):=by
 have hi:=fun(H':View) (h':H.le H')=> IndexI_c M H' F n fc x (hF.le h') hn fv p (fun j hj H'' h''=> hp j hj H'' (View.le_trans h' h''));cases hq:firstTo p n with
 | none=>
   rw[hq] at hi;have e:firstI none= -1:=rfl;rw[e] at hi;refine .en func120 ntmps120 fun St c cs hK=> ?_;refine U8 ?_;refine .c rfl rfl rfl rfl (fun H hs=> .h (hi H hs.base)) ?_;refine U3 ?_;refine .rt hK func120 results120 [_] ?_;exact okB
 | some j=>
   rw[hq] at hi;have e:firstI (some j)=(j:Nat):=rfl;rw[e] at hi;refine .en func120 ntmps120 fun St c cs hK=> ?_;refine U8 ?_;refine .c rfl rfl rfl rfl (fun H hs=> .h (hi H hs.base)) ?_;refine U3 ?_;refine .rt hK func120 results120 [_] ?_;exact okB
theorem IndexS_c(F:Option Addr)(n fc:Nat)(x:Nat→List UInt8)(hF:StrsAt H F n x)(hn:n≤1000000)(fv:Value)(p:Nat→Bool)(hp:∀j,j<n→∀H',H.le H'→FnT M fv [strV (x j)] H' fun v H''=> H'.le H''∧v=.bool (p j)):
   CallT M 188 #[.slice F n fc,fv] H (fun v H'=> H.le H'∧v=.int .i64 (firstI (firstTo p n))):=by
 refine .en func188 ntmps188 fun St c cs hK=> ?_;refine U12 ?_;refine Tc.db (Tc.loopInv (σ:= { j:Nat//j≤n∧firstTo p j=none }) (fun j=> ([(0,.slice F n fc),(1,fv),(7,.int .i64 (n:Nat)),(8,.int .i64 (j.1:Nat))],[])) (fun j=> n-j.1) ?_ ⟨0,Nat.zero_le _,rfl⟩);rintro⟨j,hj,hno⟩ ih;show Tc M St _ _ _ _ [(0,.slice F n fc),(1,fv),(7,.int .i64 (n:Nat)),(8,.int .i64 (j:Nat))] [] _ _;by_cases c1:j=n
 · subst c1;rw[hno] at hK;refine U11 ?_;refine .rt hK func188 results188 [_] ?_;exact okB
 · have c2:j<n:=by omega
   obtain h0|⟨ab,ao,f,gs,gt,gz,rfl,hb,hl⟩:=hF
   · omega
   have f1:=hl j c2;have hpj:=hp j c2;cases hpp:p j with
   | true=>
     rw[hpp] at hpj;have e:firstTo p n=some j:=firstTo_stays (j:=j+1) (by simp[firstTo,hno,hpp]) _ (by omega);rw[e] at hK;refine U21 ?_;refine .c rfl rfl rfl rfl (fun H hs=> hpj H hs.base) ?_;refine U7 ?_;refine .rt hK func188 results188 [_] ?_;exact okB
   | false=>
     rw[hpp] at hpj;refine U21 ?_;refine .c rfl rfl rfl rfl (fun H hs=> hpj H hs.base) ?_;refine U8 ?_;exact Tc.db (ih ⟨j+1,by omega,by simp[firstTo,hno,hpp]⟩ (by simp only;omega))
theorem ContainsS_c(F:Option Addr)(n fc:Nat)(x:Nat→List UInt8)(hF:StrsAt H F n x)(hn:n≤1000000)(fv:Value)(p:Nat→Bool)(hp:∀j,j<n→∀H',H.le H'→FnT M fv [strV (x j)] H' fun v H''=> H'.le H''∧v=.bool (p j)):
   CallT M 125 #[.slice F n fc,fv] H (fun v H'=> H.le H'∧v=.bool (firstTo p n).isSome):=by
 have hi:=fun(H':View) (h':H.le H')=> IndexS_c M H' F n fc x (hF.le h') hn fv p (fun j hj H'' h''=> hp j hj H'' (View.le_trans h' h''));cases hq:firstTo p n with
 | none=>
   rw[hq] at hi;have e:firstI none= -1:=rfl;rw[e] at hi;refine .en func125 ntmps125 fun St c cs hK=> ?_;refine U8 ?_;refine .c rfl rfl rfl rfl (fun H hs=> .h (hi H hs.base)) ?_;refine U3 ?_;refine .rt hK func125 results125 [_] ?_;exact okB
 | some j=>
   rw[hq] at hi;have e:firstI (some j)=(j:Nat):=rfl;rw[e] at hi;refine .en func125 ntmps125 fun St c cs hK=> ?_;refine U8 ?_;refine .c rfl rfl rfl rfl (fun H hs=> .h (hi H hs.base)) ?_;refine U3 ?_;refine .rt hK func125 results125 [_] ?_;exact okB
theorem weightBad_c(x:Int):CallT M 121 #[.int .i64 x] H (fun v H'=> H.le H'∧v=.bool (!weightOk x)):=by
 cases h:weightOk x with
 | true=>
   refine .en func121 ntmps121 fun St c cs hK=> ?_;refine U7 ?_;refine .c rfl rfl rfl rfl (fun H hs=> .h (between_is M H x 0 99 true h)) ?_;refine U3 ?_;refine .rt hK func121 results121 [_] ?_;exact okB
 | false=>
   refine .en func121 ntmps121 fun St c cs hK=> ?_;refine U7 ?_;refine .c rfl rfl rfl rfl (fun H hs=> .h (between_is M H x 0 99 false h)) ?_;refine U3 ?_;refine .rt hK func121 results121 [_] ?_;exact okB
theorem near_c(s:List UInt8)(b:Nat)(f:Bool)(hb:H b=some (f,.cells ⟨[strV s]⟩ 9 (0,0)))(o:List UInt8):
   CallT M 126 #[strV o,.pointer (some ⟨b,0,none⟩)] H (fun v H'=> H.le H'∧v=.bool (clash1 o s)):=by
 cases h1:begins o s with
 | true=>
   have e:clash1 o s=true:=by unfold clash1;rw[h1];rfl
   rw[e];refine .en func126 ntmps126 fun St c cs hK=> ?_;refine U8 ?_;refine .c rfl rfl rfl rfl (fun H hs=> .h (HasPrefix_is M H o s true h1)) ?_;refine U7 ?_;refine .rt hK func126 results126 [_] ?_;exact okB
 | false=>
   have e:clash1 o s=begins s o:=by unfold clash1;rw[h1];rfl
   rw[e];refine .en func126 ntmps126 fun St c cs hK=> ?_;refine U8 ?_;refine .c rfl rfl rfl rfl (fun H hs=> .h (HasPrefix_is M H o s false h1)) ?_;refine U3 ?_;refine .c rfl rfl rfl rfl (fun H hs=> .h (HasPrefix_c M H s o)) ?_;refine U3 ?_;refine .rt hK func126 results126 [_] ?_;exact okB
end
set_option maxHeartbeats 8000000
section
variable(M:Md prog)(H:View)
theorem SameWords_c(A B:Option Addr)(n m ac bc:Nat)(x y:Nat→List UInt8)(hA:StrsAt H A n x)(hB:StrsAt H B m y)(hn:n≤100000000)(hm:m≤100000000)(t:Bool)(ht:(decide (n=m)&&allB (fun i=> decide (x i=y i)) n)=t):
   CallT M 25 #[.slice A n ac,.slice B m bc] H (fun v H'=> H.le H'∧v=.bool t):=by
 rw[←ht];clear ht;refine .en func25 ntmps25 fun St c cs hK=> ?_;by_cases c0:n=m
 · subst c0;rw[decide_eq_true rfl,Bool.true_and] at hK;refine U21 ?_;refine Tc.db (Tc.loopInv (σ:= { j:Nat//j≤n∧∀i,i<j→x i=y i }) (fun j=> ([(0,.slice A n ac),(1,.slice B n bc),(5,.int .i64 (j.1:Nat))],[])) (fun j=> n-j.1) ?_ ⟨0,Nat.zero_le _,fun i hi=> by omega⟩);rintro⟨j,hj,hall⟩ ih;show Tc M St _ _ _ _ [(0,.slice A n ac),(1,.slice B n bc),(5,.int .i64 (j:Nat))] [] _ _;by_cases c1:j=n
   · have e:allB (fun i=> decide (x i=y i)) n=true:=(allB_iff n).2 (fun i hi=> decide_eq_true (hall i (by omega)));subst c1;rw[e] at hK;refine U14 ?_;refine .rt hK func25 results25 [_] ?_;exact okB
   · have c2:j<n:=by omega
     obtain h0|⟨ab,ao,fa,gs,gt,gz,rfl,hab,hal⟩:=hA
     · omega
     obtain h0|⟨bb,bo,fb,ks,kt,kz,rfl,hbb,hbl⟩:=hB
     · omega
     have f1:=hal j c2;have f2:=hbl j c2;by_cases c3:x j=y j
     · have f3:RL.strB .neq (x j) (y j)=some (.bool false):=by simp[RL.strB,c3]
       refine U13 ?_;refine Tc.dr [] [] mixed rfl ?_;refine .nn 0 ?_;refine .nn 1 ?_;refine .nn 2 ?_;refine .nn 3 ?_;refine .nn 4 ?_;refine .nn 5 ?_;refine .nn 6 ?_;refine .nn 7 ?_;refine .nn 8 ?_;refine .dn ?_;refine U8 ?_;exact Tc.db (ih ⟨j+1,by omega,fun i hi=> by by_cases e:i=j;exact e▸c3;exact hall i (by omega)⟩ (by simp only;omega))
     · have f3:RL.strB .neq (x j) (y j)=some (.bool true):=by simp[RL.strB,c3]
       have e:allB (fun i=> decide (x i=y i)) n=false:=allB_not c2 (decide_eq_false c3);rw[e] at hK;refine U13 ?_;refine Tc.dr [] [] mixed rfl ?_;refine .nn 0 ?_;refine .nn 1 ?_;refine .nn 2 ?_;refine .nn 3 ?_;refine .nn 4 ?_;refine .nn 5 ?_;refine .nn 6 ?_;refine .nn 7 ?_;refine .nn 8 ?_;refine .dn ?_;refine U5 ?_;refine .rt hK func25 results25 [_] ?_;exact okB
 · rw[decide_eq_false c0,Bool.false_and] at hK;refine U18 ?_;refine .rt hK func25 results25 [_] ?_;exact okB
theorem SameClaims_c(A B:Option Addr)(n m ac bc:Nat)(x y:Nat→Int)(hA:FreeAt H A n x)(hB:FreeAt H B m y)(hn:n≤1000000)(hm:m≤1000000)(t:Bool)(ht:(decide (n=m)&&allB (fun i=> decide (x i=y i)) n)=t):
   CallT M 28 #[.slice A n ac,.slice B m bc] H (fun v H'=> H.le H'∧v=.bool t):=by
 rw[←ht];clear ht;refine .en func28 ntmps28 fun St c cs hK=> ?_;by_cases c0:n=m
 · subst c0;rw[decide_eq_true rfl,Bool.true_and] at hK;refine U21 ?_;refine Tc.db (Tc.loopInv (σ:= { j:Nat//j≤n∧∀i,i<j→x i=y i }) (fun j=> ([(0,.slice A n ac),(1,.slice B n bc),(5,.int .i64 (j.1:Nat))],[])) (fun j=> n-j.1) ?_ ⟨0,Nat.zero_le _,fun i hi=> by omega⟩);rintro⟨j,hj,hall⟩ ih;show Tc M St _ _ _ _ [(0,.slice A n ac),(1,.slice B n bc),(5,.int .i64 (j:Nat))] [] _ _;by_cases c1:j=n
   · have e:allB (fun i=> decide (x i=y i)) n=true:=(allB_iff n).2 (fun i hi=> decide_eq_true (hall i (by omega)));subst c1;rw[e] at hK;refine U14 ?_;refine .rt hK func28 results28 [_] ?_;exact okB
   · have c2:j<n:=by omega
     obtain h0|⟨ab,ao,fa,gs,gt,gz,rfl,hab,hal⟩:=hA
     · omega
     obtain h0|⟨bb,bo,fb,ks,kt,kz,rfl,hbb,hbl⟩:=hB
     · omega
     have f1:=hal j c2;have f2:=hbl j c2;by_cases c3:x j=y j
     · skip
       refine U13 ?_;refine Tc.dr [] [] mixed rfl ?_;refine .nn 0 ?_;refine .nn 1 ?_;refine .nn 2 ?_;refine .nn 3 ?_;refine .nn 4 ?_;refine .nn 5 ?_;refine .nn 6 ?_;refine .nn 7 ?_;refine .nn 8 ?_;refine .dn ?_;refine U8 ?_;exact Tc.db (ih ⟨j+1,by omega,fun i hi=> by by_cases e:i=j;exact e▸c3;exact hall i (by omega)⟩ (by simp only;omega))
     · skip
       have e:allB (fun i=> decide (x i=y i)) n=false:=allB_not c2 (decide_eq_false c3);rw[e] at hK;refine U13 ?_;refine Tc.dr [] [] mixed rfl ?_;refine .nn 0 ?_;refine .nn 1 ?_;refine .nn 2 ?_;refine .nn 3 ?_;refine .nn 4 ?_;refine .nn 5 ?_;refine .nn 6 ?_;refine .nn 7 ?_;refine .nn 8 ?_;refine .dn ?_;refine U5 ?_;refine .rt hK func28 results28 [_] ?_;exact okB
 · rw[decide_eq_false c0,Bool.false_and] at hK;refine U18 ?_;refine .rt hK func28 results28 [_] ?_;exact okB
theorem claims_c(A B:Option Addr)(n m ac bc:Nat)(x y:Nat→Int)(hA:FreeAt H A n x)(hB:FreeAt H B m y)(hn:n≤1000000)(hm:m≤1000000)(t:Bool)(ht:(decide (n=m)&&allB (fun i=> decide (x i=y i)) n)=t):
   CallT M 80 #[.slice A n ac,.slice B m bc] H (fun v H'=> H.le H'∧v=.bool t):=by
 refine .en func80 ntmps80 fun St c cs hK=> ?_;refine U8 ?_;refine .c rfl rfl rfl rfl (fun H hs=> .h (SameClaims_c M H A B n m ac bc x y (hA.le hs.base) (hB.le hs.base) hn hm t ht)) ?_;refine U2 ?_;refine .rt hK func80 results80 [_] ?_;exact okB
end
set_option maxHeartbeats 16000000
def strsV(l:List (List UInt8)):List Value:=l.map strV
theorem strsV_len(l:List (List UInt8)):(strsV l).length=l.length:=by simp[strsV]
theorem strsV_app(l m:List (List UInt8)):strsV (l++m)=strsV l++strsV m:=by simp[strsV]
theorem strsV_single(l:List (List UInt8)):(strsV l).all single=true:=by
 rw[List.all_eq_true];intro x hx;obtain⟨s,_,rfl⟩:=List.mem_map.1 hx;rfl
def allB2(many:Nat)(dg:List UInt8)(s: { p:Nat×Nat//p.1≠p.2 }):Bl:= [(s.1.1,true,.cells ⟨[.int .i64 (many:Nat)]⟩ 3 (0,0)),(s.1.2,true,.cells ⟨[strV dg]⟩ 9 (0,0))]
theorem allB2_nodup(many:Nat)(dg:List UInt8)(s: { p:Nat×Nat//p.1≠p.2 }):((allB2 many dg s).map (·.1)).Nodup:=by
 obtain⟨⟨a,b⟩,h⟩:=s;simp only[allB2,List.map_cons,List.map_nil,List.nodup_cons,List.mem_singleton,List.not_mem_nil,not_false_eq_true,List.nodup_nil,and_true];exact h
section
variable(M:Md prog)(H:View)
theorem all_n(many:Nat)(dg:List UInt8):CallT M 116 #[.int .i64 (many:Nat),strV dg] H (fun v H'=> H.le H'∧∃s: { p:Nat×Nat//p.1≠p.2 },v=allF s.1.1 s.1.2∧True∧∀y∈allB2 many dg s,H' y.1=some y.2∧H y.1=none):=by
 refine .en func116 ntmps116 fun St c cs hK=> ?_;refine U2 ?_;refine .bo fun b2=> ?_;refine .bo fun b3=> ?_;refine U7 ?_;refine .rt hK func116 results116 [_] ?_;intro H' hs;have hnd:=hs.nodup;have hne:b2≠b3:=by
   simp only[List.map_cons,List.map_nil,List.nodup_cons,List.mem_singleton] at hnd;exact fun e=> hnd.1 e.symm
 refine⟨hs.base,⟨(b2,b3),hne⟩,rfl,trivial,fun y hy=> ?_⟩;have hy':y=(b2,true,.cells ⟨[.int .i64 (many:Nat)]⟩ 3 (0,0))∨y=(b3,true,.cells ⟨[strV dg]⟩ 9 (0,0)):=by simpa [allB2] using hy
 rcases hy' with rfl|rfl
 · exact⟨hs.get (i:=1) rfl,hs.out _ (List.mem_cons_of_mem _ (List.mem_cons_self ..))⟩
 · exact⟨hs.get (i:=0) rfl,hs.out _ (List.mem_cons_self ..)⟩
def SeqQ(H₁:View)(g:Gl 9 1)(l xs:List (List UInt8))(v:Value)(H3:View):Prop:=
 ∃(g':Gl 9 1) (H₂:View),v=g'.val∧H₁.le H₂∧SymSt H₂ g'.bl H3∧g'.l=strsV (l++xs)∧g'.n=g.n+xs.length
theorem AppendSeq_c(g:Gl 9 1)(l:List (List UInt8))(hg:g.l=strsV l)(hgn:g.n≤100000)(many:Nat)(dg:List UInt8)(hm:many≤1000)(hdg:dg.all dig=true)(hdl:dg.length≤1000)(hal:(allL dg many).length≤100000)(a1 a2:Nat)(H₁ Hc:View)(hcap:CapA many dg a1 a2 H₁)(hsy:SymSt H₁ g.bl Hc):
   CallT M 122 #[g.val,allF a1 a2] Hc (SeqQ H₁ g l (allL dg many)):=by
 have hit:=fun(H':View) (_:CapA many dg a1 a2 H')=> all_it M H' many dg hm hdg hdl a1 a2;refine CallT.enter (vs:= [g.val,allF a1 a2]) func122 rfl ntmps122 (Nat.le_of_ble_eq_true rfl) (hsy) fun St c cs hK=> ?_;refine U2 ?_;refine .bo fun b2=> ?_;refine U8 ?_;refine Tc.db (R':= [(2,.pointer (some ⟨b2,0,none⟩)),(6,allF a1 a2)]) (L':= [(b2,true,.cells ⟨[g.val]⟩ 33 (0,0))]++g.bl) ?_;refine Tc.rangeL (A:= []) (ts:= [7]) (xs:=allL dg many) (fun rest H₄ L₄=> ∃(g':Gl 9 1) (dn:List (List UInt8)),L₄= [(b2,true,.cells ⟨[g'.val]⟩ 33 (0,0))]++g'.bl∧g'.l=strsV (l++dn)∧g'.n=g.n+dn.length∧dn++rest=allL dg many∧CapA many dg a1 a2 H₄∧H₁.le H₄) (fun _ _ _=> False) rfl rfl rfl rfl hit (fun _ _=> CapA.le _ _) (fun _ _ _ ⟨_,_,_,_,_,_,h,_⟩=> h) rfl (fun _ _=> rfl)
     ⟨g,[],rfl,by rw[List.append_nil];exact hg,rfl,rfl,hcap,View.le_refl _⟩ ?_ ?_ (fun _ _ _ _ h=> h.elim)
 · rintro r x rest _ lp tmps asg bdy H₄ _ hx ⟨g',dn,rfl,q1,q2,q3,q4,q5⟩ Q St1 cc1 cs1 hK1 q q';have hdl2:dn.length≤100000:=by
     have:=congrArg List.length q3;rw[List.length_append] at this;omega
   refine U3 ?_;refine Tc.beginRound (i:=0) rfl rfl rfl ?_;refine U4 ?_;refine .e (.bs (zz:=fun bs=> ?_));refine .e (Or.append (E:=en) 4 rfl rfl rfl rfl rfl rfl rfl rfl rfl rfl rfl rfl rfl rfl rfl (fun H hs=> SrcAt.of (hs.get (i:=0) rfl) (Nat.le_of_ble_eq_true rfl)) rfl (by omega) rfl (by decide) (fun g2 hn2 hl2=> ?_));refine U3 ?_;refine Tc.leaveRound hK1 (i:=1) rfl (.inl ⟨rfl,rfl⟩) (fun H' hs=> q H' H₄ _ (hs.less (by apply List.Sublist.cons;exact List.Sublist.refl _)) ⟨g2,dn++[x],rfl,by rw[hl2,q1,←List.append_assoc,strsV_app (l++dn) [x]];rfl,by rw[hn2,q2,List.length_append];rfl,by rw[List.append_assoc];exact q3,q4,q5⟩)
 · rintro r H₄ _ ⟨g',dn,rfl,q1,q2,q3,q4,q5⟩;rw[List.append_nil] at q3;subst q3;refine U6 ?_;refine Tc.retD (E:=en) (i:=0) hK func122 results122 (vs:= [_]) rfl ⟨rfl,trivial⟩ ?_;exact fun H' hs=> ⟨g',H₄,rfl,q5,hs.less (by apply List.Sublist.cons;apply List.Sublist.cons;exact List.Sublist.refl _),q1,q2⟩
theorem cloneS_c(a:Option Addr)(m ca:Nat)(l:List Value)(hm:m≤100000)(hs0:SrcAt H 1 (.slice a m ca) m l)(h1:l.all single=true):CallT M 124 #[.slice a m ca] H (fun v H'=> H.le H'∧∃g:Gl 9 1,v=g.val∧(g.l=l∧g.n=m)∧∀x∈g.bl,H' x.1=some x.2∧H x.1=none):=by
 refine .en func124 ntmps124 fun St c cs hK=> ?_;cases a with
 | none=>
   refine U8 ?_;refine .x (OpV.eqNil (E:=en) rfl rfl rfl rfl rfl) ?_;refine U6 ?_;refine .rt hK func124 results124 [_] ?_;obtain⟨_,h2,h3|⟨b,off,_,_,_,_,_,h3,_⟩⟩:=hs0
   · obtain⟨_,_,_,rfl⟩:=h3;have:m=0:=by simp at h2;omega
     subst this;exact fun H' hs'=> ⟨hs'.base,Gl.nil 9 1,rfl,⟨rfl,rfl⟩,by simp[Gl.nil,Gl.bl]⟩
   · cases h3
 | some a=>
   refine U8 ?_;refine .x (OpV.eqNil (E:=en) rfl rfl rfl rfl rfl) ?_;refine U5 ?_;refine .e (.bs (zz:=fun bs=> ?_));refine U ?_;refine .e (Or.append (E:=en) (g:=Gl.emp 9 1 bs) 0 rfl rfl rfl rfl rfl rfl rfl rfl rfl rfl rfl rfl rfl rfl rfl (fun H' hs'=> hs0.mono hs'.base) h1 (by show 0+m≤_;omega) rfl (by decide) (fun g' hn hl=> ?_));refine U2 ?_;refine .rt hK func124 results124 [_] ?_;exact fun H' hs'=> ⟨hs'.base,g',rfl,⟨by rw[hl];rfl,by rw[hn];show 0+m=m;omega⟩,fun x hx=> ⟨hs'.at_ x hx,hs'.out x hx⟩⟩
end
end Go.Proofs.YtdnfdeplcjaonaaGreatDoor
namespace Go.RL
open Go.Conc
section
variable {P:Program}{M:Md P}{St:View→Goroutine→Prop}{n:Nat}{b:FB}{H₀:View}{cs:List Frame}{R:Rg}{L L₁:Bl}{ds:List Deferred}{k:List Item}{md:Region.Mode}{ops:Array Oper}{S:Array Bool→View→Prop}{fuel:Nat}{listed:Array Bool}
theorem Ta.permL(p:L₁.Perm L)(h:Ta M St n b H₀ cs S md ops fuel listed R L₁ ds k):Ta M St n b H₀ cs S md ops fuel listed R L ds k:=fun H tmps hs=> h H tmps (hs.perm p)
end
end Go.RL
namespace Go.Proofs.YtdnfdeplcjaonaaGreatDoor
open Go.RL Go.Proofs.Tryz
set_option maxRecDepth 10000
set_option maxHeartbeats 16000000
theorem perm3(A:Bl)(x y z:Nat×Bool×Obj)(B:Bl):(A++(x::y::z::B)).Perm (x::y::z::(A++B)):=by
 refine List.perm_middle.trans (.cons _ ?_);refine List.perm_middle.trans (.cons _ ?_);exact List.perm_middle
theorem perm4(u v:Nat×Bool×Obj)(A:Bl)(x y z:Nat×Bool×Obj)(B:Bl):((x::y::z::A)++(u::v::B)).Perm (([u,v]++A)++([x,y,z]++B)):=by
 simp only[List.cons_append,List.nil_append];have h1:(A++(x::y::z::B)).Perm (x::y::z::(A++B)):=perm3 A x y z B;have h2:(x::y::z::(A++u::v::B)).Perm (u::v::x::y::z::(A++B)):=by
   have h3:(A++u::v::B).Perm (u::v::(A++B)):=List.perm_middle.trans (.cons _ List.perm_middle);have h4:(x::y::z::(A++u::v::B)).Perm (x::y::z::u::v::(A++B)):=.cons _ (.cons _ (.cons _ h3));refine h4.trans ?_;have h5:([x,y,z]++u::v::(A++B)).Perm (u::([x,y,z]++v::(A++B))):=List.perm_middle;have h6:([x,y,z]++v::(A++B)).Perm (v::([x,y,z]++(A++B))):=List.perm_middle;exact h5.trans (.cons _ h6)
 exact h2.trans (.cons _ (.cons _ h1.symm))
theorem wmul {a:Int}{t:Nat}(h:0≤a∧a≤99)(ht:t≤30):0≤a*(t:Nat)∧a*(t:Nat)≤2970:=by
 have h1:(0:Int)≤(t:Nat):=Int.natCast_nonneg t;have h2:((t:Nat):Int)≤30:=by omega
 refine⟨Int.mul_nonneg h.1 h1,?_⟩;have h3:=Int.mul_le_mul h.2 h2 h1 (by omega:(0:Int)≤99);omega
theorem Gl.back {e:TypeId}{g g':Gl e 1}(new:List Value)(h1:g'.blk=g.blk)(h2:g'.n=g.n+new.length)(h3:g'.cap=g.cap)(h4:g'.l=g.l++new):∃g5:Gl e 1,g5.blk=g.blk∧g5.n=g.n∧g5.cap=g.cap∧g5.l=g.l∧g5.bl=g'.bl:=by
 have hl:=g.hl;have hl':=g'.hl;have hj':=g'.hj;have hc':=g'.hc;refine⟨⟨g.blk,g.n,g.cap,g.l,new++g'.junk,g.hl,g.hc,?_,g.h0⟩,rfl,rfl,rfl,rfl,?_⟩
 · rw[List.length_append,hj',h2,h3];omega
 · unfold Gl.bl;simp only;rw[h1,h4];cases g.blk with
   | none=> rfl
   | some b=> simp
theorem strs_of(g:Gl 9 1){H:View}(h:∀x∈g.bl,H x.1=some x.2){l:List (List UInt8)}(hl:g.l=strsV l){g0:Gl 9 1}(hn:g.n=g0.n)(hb:g.blk=g0.blk):StrsAt H (g0.blk.map fun b=> ⟨b,0,none⟩) g0.n (fun j=> l[j]?.getD []):=by
 have hgl:=g.hl;rw[hl,strsV_len] at hgl;cases hbb:g0.blk with
 | none=>
   have:=g.h0 (hb.trans hbb);have:=g.hc;exact .inl (by omega)
 | some b=>
   have hbl:g.bl= [(b,true,.cells ⟨g.l++g.junk⟩ 9 (0,0))]:=by unfold Gl.bl;rw[hb,hbb]
   refine .inr ⟨b,0,true,_,9,(0,0),rfl,h (b,true,.cells ⟨g.l++g.junk⟩ 9 (0,0)) (by rw[hbl];simp),fun j hj=> ?_⟩;show(g.l++g.junk)[_]? =_;have hjl:j<l.length:=by omega
   rw[Nat.zero_add,Int.toNat_natCast,Nat.mul_one,List.getElem?_append_left (by rw[hl,strsV_len];exact hjl),hl];unfold strsV;rw[List.getElem?_map];simp only[List.getElem?_eq_getElem hjl];rfl
structure ChSt where
 done:Bool
 total:Int
 best:List (List UInt8)
def ChSt.al(s:ChSt):Int:=if s.done then 0 else 9
def nearL(l:List (List UInt8))(s:List UInt8):Bool:=(firstTo (fun j=> clash1 (l[j]?.getD []) s) l.length).isSome
def cheapGo(can:List (List UInt8))(w:Nat→Int):Nat→List (List UInt8)→Int→ChSt→ChSt
 | 0,l,sum,st=> if st.done=true∧sum≥st.total then st else⟨true,sum,l⟩
 | d+1,l,sum,st=> if st.done=true∧sum≥st.total then st else can.foldl (fun st s=> if nearL l s then st else cheapGo can w d (l++[s]) (sum+w l.length*(takenN s:Nat)) st) st
def ptr(b:Nat):Value:=.pointer (some ⟨b,0,none⟩)
def cheapF(b8 b7 b3 b6 b9 b11:Nat):Value:=.func (.func 123) #[] #[ptr b8,ptr b7,ptr b3,ptr b6,ptr b9,ptr b11]
def stB(st:ChSt)(num:Value)(b8 b7 b6:Nat):Bl:= [(b8,true,.cells ⟨[.int .i64 st.al]⟩ 29 (0,0)),(b7,true,.cells ⟨[.int .i64 st.total]⟩ 3 (0,0)),(b6,true,.cells ⟨num.cells.toList⟩ 33 (0,0))]
def numV(a:Option Addr)(n c:Nat):Value:=.slice a n c
def NumAt(H:View)(a:Option Addr)(n c:Nat)(l:List Value):Prop:=SrcAt H 1 (numV a n c) n l∧n≤c
structure ChCap(can:List (List UInt8))(w:Nat→Int)(nw:Nat)(b8 b7 b3 b6 b9 b11:Nat)(cA wA:Option Addr)(cc wc:Nat)(H:View):Prop where
 f:∃f,H b11=some (f,.cells ⟨[cheapF b8 b7 b3 b6 b9 b11]⟩ 171 (0,0))
 c:∃f,H b9=some (f,.cells ⟨[.slice cA can.length cc]⟩ 33 (0,0))
 g:∃f,H b3=some (f,.cells ⟨[.slice wA nw wc]⟩ 26 (0,0))
 cs:StrsAt H cA can.length (fun i=> can[i]?.getD [])
 ws:FreeAt H wA nw w
theorem ChCap.le {can:List (List UInt8)}{w:Nat→Int}{nw b8 b7 b3 b6 b9 b11:Nat}{cA wA:Option Addr}{cc wc:Nat}{H H':View}(h:ChCap can w nw b8 b7 b3 b6 b9 b11 cA wA cc wc H)(k:H.le H'):ChCap can w nw b8 b7 b3 b6 b9 b11 cA wA cc wc H':=
 ⟨h.f.imp fun _ e=> k _ _ e,h.c.imp fun _ e=> k _ _ e,h.g.imp fun _ e=> k _ _ e,h.cs.le k,h.ws.le k⟩
def ChQ(H₁:View)(g:Gl 9 1)(st:ChSt)(b8 b7 b6:Nat)(v:Value)(H3:View):Prop:=
 v=.tuple ⟨[]⟩∧∃(H₂:View) (g':Gl 9 1) (a:Option Addr) (n c:Nat),H₁.le H₂∧SymSt H₂ (stB st (numV a n c) b8 b7 b6++g'.bl) H3∧(g'.blk=g.blk∧g'.n=g.n∧g'.cap=g.cap∧g'.l=g.l)∧(n=st.best.length∧NumAt H₂ a n c (strsV st.best))
theorem foldl_at {α β:Type}(f:β→α→β)(l:List α)(i:Nat)(b:β){x:α}(h:l[i]? =some x):(l.drop i).foldl f b=(l.drop (i+1)).foldl f (f b x):=by
 obtain⟨hi,rfl⟩:=List.getElem?_eq_some_iff.1 h;rw[List.drop_eq_getElem_cons hi,List.foldl_cons]
theorem Gl.val_of {e:TypeId}{sz:Nat}{g g':Gl e sz}(h:g'.blk=g.blk∧g'.n=g.n∧g'.cap=g.cap∧g'.l=g.l):g'.val=g.val:=by
 unfold Gl.val;rw[h.1,h.2.1,h.2.2.1]
def canStep(can:List (List UInt8))(w:Nat→Int)(d:Nat)(l:List (List UInt8))(sum:Int)(st:ChSt)(s:List UInt8):ChSt:=if nearL l s then st else cheapGo can w d (l++[s]) (sum+w l.length*(takenN s:Nat)) st
section
variable(M:Md prog)
theorem more2_c(can:List (List UInt8))(w:Nat→Int)(nw:Nat)(b8 b7 b3 b6 b9 b11:Nat)(cA wA:Option Addr)(cc wc:Nat)(hnw:nw≤20)(hcan:can.length≤100000)(hcn:∀s∈can,s.all dig=true∧s.length≤3)(hw:∀i,i<nw→0≤w i∧w i≤99):
   ∀ (d:Nat) (g:Gl 9 1) (l:List (List UInt8)) (sum:Int) (st:ChSt) (a:Option Addr) (n c':Nat) (H₁ Hc:View),g.l=strsV l→l.length+d=nw→(0≤sum∧sum≤3000*(l.length:Nat))→ChCap can w nw b8 b7 b3 b6 b9 b11 cA wA cc wc H₁→n=st.best.length→NumAt H₁ a n c' (strsV st.best)→SymSt H₁ (stB st (numV a n c') b8 b7 b6++g.bl) Hc→
     CallT M 123 #[g.val,.int .i64 sum,ptr b8,ptr b7,ptr b3,ptr b6,ptr b9,ptr b11] Hc (ChQ H₁ g (cheapGo can w d l sum st) b8 b7 b6):=by
 intro d;induction d with
 | zero=>
   intro g l sum st a n c' H₁ Hc hg hld hsum hcap hn hsrc hsy;have hgn:g.n=l.length:=by have:=g.hl;rw[hg,strsV_len] at this;omega
   have hcap0:=hcap;obtain⟨⟨ff,hf⟩,⟨fc,hc⟩,⟨fg,hgw⟩,hcs,hws⟩:=hcap;obtain⟨dn,total,best⟩:=st;by_cases c1:dn=true∧sum≥total
   · obtain⟨rfl,c2⟩:=c1;have e:cheapGo can w 0 l sum ⟨true,total,best⟩=⟨true,total,best⟩:=if_pos ⟨rfl,c2⟩;rw[e];refine CallT.enter (vs:= [g.val,.int .i64 sum,ptr b8,ptr b7,ptr b3,ptr b6,ptr b9,ptr b11]) func123 rfl ntmps123 (Nat.le_of_ble_eq_true rfl) (hsy) fun St c cs hK=> ?_;unfold stB ptr;refine U12 ?_;refine .rt hK func123 results123 [] ?_;exact fun H' hs=> ⟨rfl,H₁,g,a,n,c',View.le_refl _,hs,⟨rfl,rfl,rfl,rfl⟩,hn,hsrc⟩
   · have e:cheapGo can w 0 l sum ⟨dn,total,best⟩=⟨true,sum,l⟩:=if_neg c1;rw[e];clear e;cases dn with
     | false=>
       refine CallT.enter (vs:= [g.val,.int .i64 sum,ptr b8,ptr b7,ptr b3,ptr b6,ptr b9,ptr b11]) func123 rfl ntmps123 (Nat.le_of_ble_eq_true rfl) (hsy) fun St c cs hK=> ?_;unfold stB ptr;refine U26 ?_;refine .e (Or.callNew Gl.val Gl.bl (fun g2:Gl 9 1=> g2.l=strsV l∧g2.n=g.n) rfl rfl rfl rfl rfl (by decide) Gl.bl_nodup (fun H hs=> .h (cloneS_c M H (g.blk.map fun b=> ⟨b,0,none⟩) g.n g.cap (strsV l) (by omega) (by rw[←hg];exact g.src (fun x hx=> hs.at_ x (List.mem_append_right _ hx))) (strsV_single l))) (fun g2 hg2=> ?_));refine U5 ?_;refine .rt hK func123 results123 [] ?_;intro H' hs;obtain⟨H₂,h1,h2⟩:=SymSt.unappend (B:= [(b8,true,.cells ⟨[.int .i64 0]⟩ 29 (0,0)),(b7,true,.cells ⟨[.int .i64 sum]⟩ 3 (0,0)),(b6,true,.cells ⟨[g2.val]⟩ 33 (0,0))]++g.bl) (L:=g2.bl) hs;refine⟨rfl,H₂,g,g2.blk.map (fun b=> ⟨b,0,none⟩),g2.n,g2.cap,h2.base,h1,⟨rfl,rfl,rfl,rfl⟩,by rw[hg2.2];exact hgn,?_⟩;have h3:=g2.src (H:=H₂) (fun x hx=> h2.at_ x hx);rw[hg2.1] at h3;exact⟨h3,g2.hc⟩
     | true=>
       have c2:intBin .geq .i64 sum (ChSt.mk true total best).total=some (.bool false):=geq_f (Int.lt_of_not_ge fun h=> c1 ⟨rfl,h⟩);refine CallT.enter (vs:= [g.val,.int .i64 sum,ptr b8,ptr b7,ptr b3,ptr b6,ptr b9,ptr b11]) func123 rfl ntmps123 (Nat.le_of_ble_eq_true rfl) (hsy) fun St c cs hK=> ?_;unfold stB ptr;refine U26 ?_;refine .e (Or.callNew Gl.val Gl.bl (fun g2:Gl 9 1=> g2.l=strsV l∧g2.n=g.n) rfl rfl rfl rfl rfl (by decide) Gl.bl_nodup (fun H hs=> .h (cloneS_c M H (g.blk.map fun b=> ⟨b,0,none⟩) g.n g.cap (strsV l) (by omega) (by rw[←hg];exact g.src (fun x hx=> hs.at_ x (List.mem_append_right _ hx))) (strsV_single l))) (fun g2 hg2=> ?_));refine U5 ?_;refine .rt hK func123 results123 [] ?_;intro H' hs;obtain⟨H₂,h1,h2⟩:=SymSt.unappend (B:= [(b8,true,.cells ⟨[.int .i64 0]⟩ 29 (0,0)),(b7,true,.cells ⟨[.int .i64 sum]⟩ 3 (0,0)),(b6,true,.cells ⟨[g2.val]⟩ 33 (0,0))]++g.bl) (L:=g2.bl) hs;refine⟨rfl,H₂,g,g2.blk.map (fun b=> ⟨b,0,none⟩),g2.n,g2.cap,h2.base,h1,⟨rfl,rfl,rfl,rfl⟩,by rw[hg2.2];exact hgn,?_⟩;have h3:=g2.src (H:=H₂) (fun x hx=> h2.at_ x hx);rw[hg2.1] at h3;exact⟨h3,g2.hc⟩
 | succ d ihd=>
   intro g l sum st a n c' H₁ Hc hg hld hsum hcap hn hsrc hsy;have hgn:g.n=l.length:=by have:=g.hl;rw[hg,strsV_len] at this;omega
   have hcap0:=hcap;obtain⟨⟨ff,hf⟩,⟨fc,hc⟩,⟨fg,hgw⟩,hcs,hws⟩:=hcap;obtain⟨dn,total,best⟩:=st;by_cases c1:dn=true∧sum≥total
   · obtain⟨rfl,c2⟩:=c1;have e:cheapGo can w (d+1) l sum ⟨true,total,best⟩=⟨true,total,best⟩:=if_pos ⟨rfl,c2⟩;rw[e];refine CallT.enter (vs:= [g.val,.int .i64 sum,ptr b8,ptr b7,ptr b3,ptr b6,ptr b9,ptr b11]) func123 rfl ntmps123 (Nat.le_of_ble_eq_true rfl) (hsy) fun St c cs hK=> ?_;unfold stB ptr;refine U12 ?_;refine .rt hK func123 results123 [] ?_;exact fun H' hs=> ⟨rfl,H₁,g,a,n,c',View.le_refl _,hs,⟨rfl,rfl,rfl,rfl⟩,hn,hsrc⟩
   · have e:cheapGo can w (d+1) l sum ⟨dn,total,best⟩=can.foldl (canStep can w d l sum) ⟨dn,total,best⟩:=if_neg c1;rw[e];clear e;cases dn with
     | false =>
       refine CallT.enter (vs:= [g.val,.int .i64 sum,ptr b8,ptr b7,ptr b3,ptr b6,ptr b9,ptr b11]) func123 rfl ntmps123 (Nat.le_of_ble_eq_true rfl) (hsy) fun St c cs hK=> ?_;unfold stB ptr;refine U31 ?_;refine Tc.db (Tc.loopB (σ:= { y:View×Nat×ChSt×Gl 9 1×(Option Addr×Nat×Nat)//H₁.le y.1∧y.2.1≤can.length∧(can.drop y.2.1).foldl (canStep can w d l sum) y.2.2.1=can.foldl (canStep can w d l sum) (⟨false,total,best⟩:ChSt)∧(y.2.2.2.1.blk=g.blk∧y.2.2.2.1.n=g.n∧y.2.2.2.1.cap=g.cap∧y.2.2.2.1.l=g.l)∧(y.2.2.2.2.2.1=y.2.2.1.best.length∧NumAt y.1 y.2.2.2.2.1 y.2.2.2.2.2.1 y.2.2.2.2.2.2 (strsV y.2.2.1.best)) })
         (fun y=> (y.1.1,[(0,g.val),(1,.int .i64 sum),(2,.pointer (some ⟨b8,0,none⟩)),(3,.pointer (some ⟨b7,0,none⟩)),(4,.pointer (some ⟨b3,0,none⟩)),(5,.pointer (some ⟨b6,0,none⟩)),(6,.pointer (some ⟨b9,0,none⟩)),(7,.pointer (some ⟨b11,0,none⟩)),(27,.slice cA can.length cc),(28,.int .i64 (can.length:Nat)),(29,.int .i64 (y.1.2.1:Nat))],[(b8,true,.cells ⟨[.int .i64 y.1.2.2.1.al]⟩ 29 (0,0)),(b7,true,.cells ⟨[.int .i64 y.1.2.2.1.total]⟩ 3 (0,0)),(b6,true,.cells ⟨[numV y.1.2.2.2.2.1 y.1.2.2.2.2.2.1 y.1.2.2.2.2.2.2]⟩ 33 (0,0))]++y.1.2.2.2.1.bl)) (fun y=> can.length-y.1.2.1) ?_ ⟨(H₁,0,(⟨false,total,best⟩:ChSt),g,(a,n,c')),View.le_refl _,Nat.zero_le _,rfl,⟨rfl,rfl,rfl,rfl⟩,hn,hsrc⟩)
       rintro⟨⟨H₂,i,st,g2,a2,n2,c2'⟩,p1,p2,p3,p4,p5,p6⟩ ih;simp only at p1 p2 p3 p4 p5 p6;show Tc M St _ _ H₂ _ [(0,g.val),(1,.int .i64 sum),(2,.pointer (some ⟨b8,0,none⟩)),(3,.pointer (some ⟨b7,0,none⟩)),(4,.pointer (some ⟨b3,0,none⟩)),(5,.pointer (some ⟨b6,0,none⟩)),(6,.pointer (some ⟨b9,0,none⟩)),(7,.pointer (some ⟨b11,0,none⟩)),(27,.slice cA can.length cc),(28,.int .i64 (can.length:Nat)),(29,.int .i64 (i:Nat))] ([(b8,true,.cells ⟨[.int .i64 st.al]⟩ 29 (0,0)),(b7,true,.cells ⟨[.int .i64 st.total]⟩ 3 (0,0)),(b6,true,.cells ⟨[numV a2 n2 c2']⟩ 33 (0,0))]++g2.bl) _ _;by_cases d1:i=can.length
       · have e:can.foldl (canStep can w d l sum) (⟨false,total,best⟩:ChSt)=st:=by rw[←p3,d1,List.drop_length];rfl
         rw[e] at hK;subst d1;refine U7 ?_;refine .ov hK func123 results123 [] ?_;exact fun H' hs=> ⟨rfl,H₂,g2,a2,n2,c2',p1,hs,p4,p5,p6⟩
       · have d2:i<can.length:=by omega
         obtain⟨s,hs0⟩:∃s,can[i]? =some s:=⟨_,List.getElem?_eq_getElem d2⟩
         have hsm:=hcn s (List.mem_of_getElem? hs0);have htk:=takenN_le s hsm.1;obtain h0|⟨cb,co,fcb,cgs,cgt,cgz,rfl,hcb,hcl⟩:=hcs
         · omega
         have f1:=hcl i d2;simp only[hs0,Option.getD_some] at f1;have hcb2:=p1 _ _ hcb;rw[foldl_at _ _ _ _ hs0] at p3;have hgv:=Gl.val_of p4;have hnear:=fun(H':View) (bx:Nat) (fx:Bool) (hg2:∀x∈g2.bl,H' x.1=some x.2) (hbx:H' bx=some (fx,.cells ⟨[strV s]⟩ 9 (0,0)))=> ContainsS_c M H' (g.blk.map fun b=> ⟨b,0,none⟩) g.n g.cap (fun j=> l[j]?.getD []) (strs_of g2 hg2 (p4.2.2.2.trans hg) (p4.2.1) p4.1) (by omega) (.func (.func 126) #[] #[.pointer (some ⟨bx,0,none⟩)]) (fun j=> clash1 (l[j]?.getD []) s) (fun j _ H'' h''=> FnT.of (first:= []) (captured:= [_]) ca126 rfl (near_c M H'' s bx fx (h'' _ _ hbx) (l[j]?.getD [])));have hnl:(firstTo (fun j=> clash1 (l[j]?.getD []) s) g.n).isSome=nearL l s:=by unfold nearL;rw[hgn]
         cases hq:nearL l s with
         | true=>
           have e3:canStep can w d l sum st s=st:=by unfold canStep;rw[if_pos hq]
           rw[e3] at p3;rw[hq] at hnl;refine U13 ?_;refine .al fun bx=> ?_;refine U7 ?_;refine .c rfl rfl rfl rfl (fun H hs=> .h (isB (hnear H bx true (fun x hx=> hs.at_ x (List.mem_cons_of_mem _ (List.mem_append_right _ hx))) (hs.get (i:=0) rfl)) hnl)) ?_;refine U7 ?_;exact Tc.db (ih ⟨(H₂,i+1,st,g2,(a2,n2,c2')),p1,by simp only;omega,p3,p4,p5,p6⟩ (by simp only;omega))
         | false=>
           have e3:canStep can w d l sum st s=cheapGo can w d (l++[s]) (sum+w l.length*(takenN s:Nat)) st:=by unfold canStep;rw[if_neg (by rw[hq];decide)]
           rw[e3] at p3;rw[hq] at hnl;have hwl:=hw l.length (by omega);have hmul0:0≤w l.length*(takenN s:Nat)∧w l.length*(takenN s:Nat)≤2970:=wmul hwl (by omega);have hcap2:=hcap0.le p1;obtain⟨⟨ff2,hf2⟩,⟨fc2,hc2⟩,⟨fg2,hgw2⟩,_,hws2⟩:=hcap2;obtain h0|⟨wb,wo,fwb,wgs,wgt,wgz,rfl,hwb,hwl2⟩:=hws2
           · omega
           have f2:=hwl2 l.length (by omega);rw[←hgn] at f2;have f3:intBin .mul .i64 (w g.n) (takenN s:Nat)=some (.int .i64 (w l.length*(takenN s:Nat))):=by rw[hgn];exact mul_in (by omega) (by omega)
           have f4:intBin .add .i64 sum (w l.length*(takenN s:Nat))=some (.int .i64 (sum+w l.length*(takenN s:Nat))):=add_in (by omega) (by omega);refine U13 ?_;refine .al fun bx=> ?_;refine U7 ?_;refine .c rfl rfl rfl rfl (fun H hs=> .h (isB (hnear H bx true (fun x hx=> hs.at_ x (List.mem_cons_of_mem _ (List.mem_append_right _ hx))) (hs.get (i:=0) rfl)) hnl)) ?_;refine U3 ?_;refine Tc.drT [4] [15] [] 4 mixed rfl ?_;refine .ow 0 ?_;refine .oo 1 ?_;refine .oo 2 ?_;refine .ow 5 ?_;refine .ow 6 ?_;refine .ow 7 ?_;refine .ow 8 ?_;refine .ow 9 ?_;refine .ow 10 ?_;refine .ow 11 ?_;refine Ta.each [3] (by kernel_rfl) rfl ⟨TaOp.mk rfl rfl rfl (.bs (zz:=fun bs=> ⟨S3.mk (by apply List.Sublist.cons;exact List.sublist_append_left _ _) (.inr (by apply List.Sublist.cons;exact List.Sublist.refl _)),?_⟩)),trivial⟩;refine Ta.each [4] (by kernel_rfl) rfl ⟨TaOp.mk rfl rfl rfl (Or.appendK (E:=en) (g:=g2) (m:=1) (new:= [strV s]) (yv:=.slice (some ⟨bs,0,none⟩) 1 1) 5 rfl rfl rfl rfl (by rw[hgv];rfl) rfl rfl rfl rfl rfl rfl rfl rfl rfl rfl (fun H hs=> SrcAt.of (hs.get (i:=0) rfl) (Nat.le_of_ble_eq_true rfl)) rfl (by omega) rfl (by decide) (fun g3 hn3 hl3 hb3 hc3=> ⟨S3.mk (by apply List.Sublist.cons;exact List.sublist_append_left _ _) (.inl (by kernel_rfl)),?_⟩) (fun g3 hn3 hl3=> ⟨S3.mk (by apply List.Sublist.cons;exact List.sublist_append_left _ _) (.inl (by kernel_rfl)),?_⟩)),trivial⟩
           · refine Ta.tkwC 12 (by kernel_rfl) rfl rfl rfl (by decide) rfl rfl (OpV.takeCall rfl rfl rfl rfl (fun H hs=> .h (taken_c M H s hsm.1 (by omega)))) ?_;refine .ow 13 ?_;refine .ow 14 ?_;refine Ta.lift (L₂:= [(bs,true,.cells ⟨[strV s]⟩ 9 (0,0)),(bx,true,.cells ⟨[strV s]⟩ 9 (0,0))]) (L₁:= [(b8,true,.cells ⟨[.int .i64 st.al]⟩ 29 (0,0)),(b7,true,.cells ⟨[.int .i64 st.total]⟩ 3 (0,0)),(b6,true,.cells ⟨[numV a2 n2 c2']⟩ 33 (0,0))]++g3.bl) rfl (fun Hx hx=> ?_);refine Ta.callF 15 (by kernel_rfl) rfl (by kernel_rfl) rfl rfl rfl rfl rfl rfl (by decide) (FnT.of (first:= []) (captured:= [_,_,_,_,_,_]) ca123 rfl (ihd g3 (l++[s]) _ st a2 n2 c2' H₂ Hx (by rw[hl3,p4.2.2.2,hg,strsV_app];rfl) (by rw[List.length_append];show l.length+1+d=nw;omega) (by rw[List.length_append];show _∧_≤3000*((l.length+1:Nat):Int);omega) (hcap0.le p1) p5 p6 hx)) (fun v H₃ hv=> ?_);obtain⟨_,H₄,g4,a4,n4,c4,r1,r2,r3,r4,r5⟩:=hv;refine Ta.expand r2 ?_;unfold stB;refine .dn ?_;refine U5 ?_;obtain⟨g5,s1,s2,s3,s4,s5⟩:=Gl.back (g:=g2) (g':=g4) [strV s] (r3.1.trans hb3) (by rw[r3.2.1,hn3];rfl) (by rw[r3.2.2.1,hc3]) (by rw[r3.2.2.2,hl3]);rw[←s5];exact Tc.db (ih ⟨(H₄,i+1,_,g5,(a4,n4,c4)),View.le_trans p1 r1,by simp only;omega,p3,⟨s1.trans p4.1,s2.trans p4.2.1,s3.trans p4.2.2.1,s4.trans p4.2.2.2⟩,r4,r5⟩ (by simp only;omega))
           · refine Ta.permL (L₁:=([(bs,true,.cells ⟨[strV s]⟩ 9 (0,0)),(bx,true,.cells ⟨[strV s]⟩ 9 (0,0))]++g2.bl)++([(b8,true,.cells ⟨[.int .i64 st.al]⟩ 29 (0,0)),(b7,true,.cells ⟨[.int .i64 st.total]⟩ 3 (0,0)),(b6,true,.cells ⟨[numV a2 n2 c2']⟩ 33 (0,0))]++g3.bl)) ?_ ?_
             · simp only[List.cons_append,List.nil_append];refine .cons _ (.cons _ ?_);exact perm3 g2.bl _ _ _ g3.bl
             · refine Ta.tkwC 12 (by kernel_rfl) rfl rfl rfl (by decide) rfl rfl (OpV.takeCall rfl rfl rfl rfl (fun H hs=> .h (taken_c M H s hsm.1 (by omega)))) ?_;refine .ow 13 ?_;refine .ow 14 ?_;refine Ta.lift (L₂:= [(bs,true,.cells ⟨[strV s]⟩ 9 (0,0)),(bx,true,.cells ⟨[strV s]⟩ 9 (0,0))]++g2.bl) (L₁:= [(b8,true,.cells ⟨[.int .i64 st.al]⟩ 29 (0,0)),(b7,true,.cells ⟨[.int .i64 st.total]⟩ 3 (0,0)),(b6,true,.cells ⟨[numV a2 n2 c2']⟩ 33 (0,0))]++g3.bl) rfl (fun Hx hx=> ?_);refine Ta.callF 15 (by kernel_rfl) rfl (by kernel_rfl) rfl rfl rfl rfl rfl rfl (by decide) (FnT.of (first:= []) (captured:= [_,_,_,_,_,_]) ca123 rfl (ihd g3 (l++[s]) _ st a2 n2 c2' H₂ Hx (by rw[hl3,p4.2.2.2,hg,strsV_app];rfl) (by rw[List.length_append];show l.length+1+d=nw;omega) (by rw[List.length_append];show _∧_≤3000*((l.length+1:Nat):Int);omega) (hcap0.le p1) p5 p6 hx)) (fun v H₃ hv=> ?_);obtain⟨_,H₄,g4,a4,n4,c4,r1,r2,r3,r4,r5⟩:=hv;refine Ta.expand r2 ?_;unfold stB;refine .dn ?_;refine U5 ?_;have hfin:=ih ⟨(H₄,i+1,_,g2,(a4,n4,c4)),View.le_trans p1 r1,by simp only;omega,p3,p4,r4,r5⟩ (by simp only;omega);refine Tc.permL (perm4 _ _ g2.bl _ _ _ g4.bl) ?_;exact Tc.db hfin
     | true=>
       have c2:intBin .geq .i64 sum (ChSt.mk true total best).total=some (.bool false):=geq_f (Int.lt_of_not_ge fun h=> c1 ⟨rfl,h⟩);refine CallT.enter (vs:= [g.val,.int .i64 sum,ptr b8,ptr b7,ptr b3,ptr b6,ptr b9,ptr b11]) func123 rfl ntmps123 (Nat.le_of_ble_eq_true rfl) (hsy) fun St c cs hK=> ?_;unfold stB ptr;refine U31 ?_;refine Tc.db (Tc.loopB (σ:= { y:View×Nat×ChSt×Gl 9 1×(Option Addr×Nat×Nat)//H₁.le y.1∧y.2.1≤can.length∧(can.drop y.2.1).foldl (canStep can w d l sum) y.2.2.1=can.foldl (canStep can w d l sum) (⟨true,total,best⟩:ChSt)∧(y.2.2.2.1.blk=g.blk∧y.2.2.2.1.n=g.n∧y.2.2.2.1.cap=g.cap∧y.2.2.2.1.l=g.l)∧(y.2.2.2.2.2.1=y.2.2.1.best.length∧NumAt y.1 y.2.2.2.2.1 y.2.2.2.2.2.1 y.2.2.2.2.2.2 (strsV y.2.2.1.best)) })
         (fun y=> (y.1.1,[(0,g.val),(1,.int .i64 sum),(2,.pointer (some ⟨b8,0,none⟩)),(3,.pointer (some ⟨b7,0,none⟩)),(4,.pointer (some ⟨b3,0,none⟩)),(5,.pointer (some ⟨b6,0,none⟩)),(6,.pointer (some ⟨b9,0,none⟩)),(7,.pointer (some ⟨b11,0,none⟩)),(27,.slice cA can.length cc),(28,.int .i64 (can.length:Nat)),(29,.int .i64 (y.1.2.1:Nat))],[(b8,true,.cells ⟨[.int .i64 y.1.2.2.1.al]⟩ 29 (0,0)),(b7,true,.cells ⟨[.int .i64 y.1.2.2.1.total]⟩ 3 (0,0)),(b6,true,.cells ⟨[numV y.1.2.2.2.2.1 y.1.2.2.2.2.2.1 y.1.2.2.2.2.2.2]⟩ 33 (0,0))]++y.1.2.2.2.1.bl)) (fun y=> can.length-y.1.2.1) ?_ ⟨(H₁,0,(⟨true,total,best⟩:ChSt),g,(a,n,c')),View.le_refl _,Nat.zero_le _,rfl,⟨rfl,rfl,rfl,rfl⟩,hn,hsrc⟩)
       rintro⟨⟨H₂,i,st,g2,a2,n2,c2'⟩,p1,p2,p3,p4,p5,p6⟩ ih;simp only at p1 p2 p3 p4 p5 p6;show Tc M St _ _ H₂ _ [(0,g.val),(1,.int .i64 sum),(2,.pointer (some ⟨b8,0,none⟩)),(3,.pointer (some ⟨b7,0,none⟩)),(4,.pointer (some ⟨b3,0,none⟩)),(5,.pointer (some ⟨b6,0,none⟩)),(6,.pointer (some ⟨b9,0,none⟩)),(7,.pointer (some ⟨b11,0,none⟩)),(27,.slice cA can.length cc),(28,.int .i64 (can.length:Nat)),(29,.int .i64 (i:Nat))] ([(b8,true,.cells ⟨[.int .i64 st.al]⟩ 29 (0,0)),(b7,true,.cells ⟨[.int .i64 st.total]⟩ 3 (0,0)),(b6,true,.cells ⟨[numV a2 n2 c2']⟩ 33 (0,0))]++g2.bl) _ _;by_cases d1:i=can.length
       · have e:can.foldl (canStep can w d l sum) (⟨true,total,best⟩:ChSt)=st:=by rw[←p3,d1,List.drop_length];rfl
         rw[e] at hK;subst d1;refine U7 ?_;refine .ov hK func123 results123 [] ?_;exact fun H' hs=> ⟨rfl,H₂,g2,a2,n2,c2',p1,hs,p4,p5,p6⟩
       · have d2:i<can.length:=by omega
         obtain⟨s,hs0⟩:∃s,can[i]? =some s:=⟨_,List.getElem?_eq_getElem d2⟩
         have hsm:=hcn s (List.mem_of_getElem? hs0);have htk:=takenN_le s hsm.1;obtain h0|⟨cb,co,fcb,cgs,cgt,cgz,rfl,hcb,hcl⟩:=hcs
         · omega
         have f1:=hcl i d2;simp only[hs0,Option.getD_some] at f1;have hcb2:=p1 _ _ hcb;rw[foldl_at _ _ _ _ hs0] at p3;have hgv:=Gl.val_of p4;have hnear:=fun(H':View) (bx:Nat) (fx:Bool) (hg2:∀x∈g2.bl,H' x.1=some x.2) (hbx:H' bx=some (fx,.cells ⟨[strV s]⟩ 9 (0,0)))=> ContainsS_c M H' (g.blk.map fun b=> ⟨b,0,none⟩) g.n g.cap (fun j=> l[j]?.getD []) (strs_of g2 hg2 (p4.2.2.2.trans hg) (p4.2.1) p4.1) (by omega) (.func (.func 126) #[] #[.pointer (some ⟨bx,0,none⟩)]) (fun j=> clash1 (l[j]?.getD []) s) (fun j _ H'' h''=> FnT.of (first:= []) (captured:= [_]) ca126 rfl (near_c M H'' s bx fx (h'' _ _ hbx) (l[j]?.getD [])));have hnl:(firstTo (fun j=> clash1 (l[j]?.getD []) s) g.n).isSome=nearL l s:=by unfold nearL;rw[hgn]
         cases hq:nearL l s with
         | true=>
           have e3:canStep can w d l sum st s=st:=by unfold canStep;rw[if_pos hq]
           rw[e3] at p3;rw[hq] at hnl;refine U13 ?_;refine .al fun bx=> ?_;refine U7 ?_;refine .c rfl rfl rfl rfl (fun H hs=> .h (isB (hnear H bx true (fun x hx=> hs.at_ x (List.mem_cons_of_mem _ (List.mem_append_right _ hx))) (hs.get (i:=0) rfl)) hnl)) ?_;refine U7 ?_;exact Tc.db (ih ⟨(H₂,i+1,st,g2,(a2,n2,c2')),p1,by simp only;omega,p3,p4,p5,p6⟩ (by simp only;omega))
         | false=>
           have e3:canStep can w d l sum st s=cheapGo can w d (l++[s]) (sum+w l.length*(takenN s:Nat)) st:=by unfold canStep;rw[if_neg (by rw[hq];decide)]
           rw[e3] at p3;rw[hq] at hnl;have hwl:=hw l.length (by omega);have hmul0:0≤w l.length*(takenN s:Nat)∧w l.length*(takenN s:Nat)≤2970:=wmul hwl (by omega);have hcap2:=hcap0.le p1;obtain⟨⟨ff2,hf2⟩,⟨fc2,hc2⟩,⟨fg2,hgw2⟩,_,hws2⟩:=hcap2;obtain h0|⟨wb,wo,fwb,wgs,wgt,wgz,rfl,hwb,hwl2⟩:=hws2
           · omega
           have f2:=hwl2 l.length (by omega);rw[←hgn] at f2;have f3:intBin .mul .i64 (w g.n) (takenN s:Nat)=some (.int .i64 (w l.length*(takenN s:Nat))):=by rw[hgn];exact mul_in (by omega) (by omega)
           have f4:intBin .add .i64 sum (w l.length*(takenN s:Nat))=some (.int .i64 (sum+w l.length*(takenN s:Nat))):=add_in (by omega) (by omega);refine U13 ?_;refine .al fun bx=> ?_;refine U7 ?_;refine .c rfl rfl rfl rfl (fun H hs=> .h (isB (hnear H bx true (fun x hx=> hs.at_ x (List.mem_cons_of_mem _ (List.mem_append_right _ hx))) (hs.get (i:=0) rfl)) hnl)) ?_;refine U3 ?_;refine Tc.drT [4] [15] [] 4 mixed rfl ?_;refine .ow 0 ?_;refine .oo 1 ?_;refine .oo 2 ?_;refine .ow 5 ?_;refine .ow 6 ?_;refine .ow 7 ?_;refine .ow 8 ?_;refine .ow 9 ?_;refine .ow 10 ?_;refine .ow 11 ?_;refine Ta.each [3] (by kernel_rfl) rfl ⟨TaOp.mk rfl rfl rfl (.bs (zz:=fun bs=> ⟨S3.mk (by apply List.Sublist.cons;exact List.sublist_append_left _ _) (.inr (by apply List.Sublist.cons;exact List.Sublist.refl _)),?_⟩)),trivial⟩;refine Ta.each [4] (by kernel_rfl) rfl ⟨TaOp.mk rfl rfl rfl (Or.appendK (E:=en) (g:=g2) (m:=1) (new:= [strV s]) (yv:=.slice (some ⟨bs,0,none⟩) 1 1) 5 rfl rfl rfl rfl (by rw[hgv];rfl) rfl rfl rfl rfl rfl rfl rfl rfl rfl rfl (fun H hs=> SrcAt.of (hs.get (i:=0) rfl) (Nat.le_of_ble_eq_true rfl)) rfl (by omega) rfl (by decide) (fun g3 hn3 hl3 hb3 hc3=> ⟨S3.mk (by apply List.Sublist.cons;exact List.sublist_append_left _ _) (.inl (by kernel_rfl)),?_⟩) (fun g3 hn3 hl3=> ⟨S3.mk (by apply List.Sublist.cons;exact List.sublist_append_left _ _) (.inl (by kernel_rfl)),?_⟩)),trivial⟩
           · refine Ta.tkwC 12 (by kernel_rfl) rfl rfl rfl (by decide) rfl rfl (OpV.takeCall rfl rfl rfl rfl (fun H hs=> .h (taken_c M H s hsm.1 (by omega)))) ?_;refine .ow 13 ?_;refine .ow 14 ?_;refine Ta.lift (L₂:= [(bs,true,.cells ⟨[strV s]⟩ 9 (0,0)),(bx,true,.cells ⟨[strV s]⟩ 9 (0,0))]) (L₁:= [(b8,true,.cells ⟨[.int .i64 st.al]⟩ 29 (0,0)),(b7,true,.cells ⟨[.int .i64 st.total]⟩ 3 (0,0)),(b6,true,.cells ⟨[numV a2 n2 c2']⟩ 33 (0,0))]++g3.bl) rfl (fun Hx hx=> ?_);refine Ta.callF 15 (by kernel_rfl) rfl (by kernel_rfl) rfl rfl rfl rfl rfl rfl (by decide) (FnT.of (first:= []) (captured:= [_,_,_,_,_,_]) ca123 rfl (ihd g3 (l++[s]) _ st a2 n2 c2' H₂ Hx (by rw[hl3,p4.2.2.2,hg,strsV_app];rfl) (by rw[List.length_append];show l.length+1+d=nw;omega) (by rw[List.length_append];show _∧_≤3000*((l.length+1:Nat):Int);omega) (hcap0.le p1) p5 p6 hx)) (fun v H₃ hv=> ?_);obtain⟨_,H₄,g4,a4,n4,c4,r1,r2,r3,r4,r5⟩:=hv;refine Ta.expand r2 ?_;unfold stB;refine .dn ?_;refine U5 ?_;obtain⟨g5,s1,s2,s3,s4,s5⟩:=Gl.back (g:=g2) (g':=g4) [strV s] (r3.1.trans hb3) (by rw[r3.2.1,hn3];rfl) (by rw[r3.2.2.1,hc3]) (by rw[r3.2.2.2,hl3]);rw[←s5];exact Tc.db (ih ⟨(H₄,i+1,_,g5,(a4,n4,c4)),View.le_trans p1 r1,by simp only;omega,p3,⟨s1.trans p4.1,s2.trans p4.2.1,s3.trans p4.2.2.1,s4.trans p4.2.2.2⟩,r4,r5⟩ (by simp only;omega))
           · refine Ta.permL (L₁:=([(bs,true,.cells ⟨[strV s]⟩ 9 (0,0)),(bx,true,.cells ⟨[strV s]⟩ 9 (0,0))]++g2.bl)++([(b8,true,.cells ⟨[.int .i64 st.al]⟩ 29 (0,0)),(b7,true,.cells ⟨[.int .i64 st.total]⟩ 3 (0,0)),(b6,true,.cells ⟨[numV a2 n2 c2']⟩ 33 (0,0))]++g3.bl)) ?_ ?_
             · simp only[List.cons_append,List.nil_append];refine .cons _ (.cons _ ?_);exact perm3 g2.bl _ _ _ g3.bl
             · refine Ta.tkwC 12 (by kernel_rfl) rfl rfl rfl (by decide) rfl rfl (OpV.takeCall rfl rfl rfl rfl (fun H hs=> .h (taken_c M H s hsm.1 (by omega)))) ?_;refine .ow 13 ?_;refine .ow 14 ?_;refine Ta.lift (L₂:= [(bs,true,.cells ⟨[strV s]⟩ 9 (0,0)),(bx,true,.cells ⟨[strV s]⟩ 9 (0,0))]++g2.bl) (L₁:= [(b8,true,.cells ⟨[.int .i64 st.al]⟩ 29 (0,0)),(b7,true,.cells ⟨[.int .i64 st.total]⟩ 3 (0,0)),(b6,true,.cells ⟨[numV a2 n2 c2']⟩ 33 (0,0))]++g3.bl) rfl (fun Hx hx=> ?_);refine Ta.callF 15 (by kernel_rfl) rfl (by kernel_rfl) rfl rfl rfl rfl rfl rfl (by decide) (FnT.of (first:= []) (captured:= [_,_,_,_,_,_]) ca123 rfl (ihd g3 (l++[s]) _ st a2 n2 c2' H₂ Hx (by rw[hl3,p4.2.2.2,hg,strsV_app];rfl) (by rw[List.length_append];show l.length+1+d=nw;omega) (by rw[List.length_append];show _∧_≤3000*((l.length+1:Nat):Int);omega) (hcap0.le p1) p5 p6 hx)) (fun v H₃ hv=> ?_);obtain⟨_,H₄,g4,a4,n4,c4,r1,r2,r3,r4,r5⟩:=hv;refine Ta.expand r2 ?_;unfold stB;refine .dn ?_;refine U5 ?_;have hfin:=ih ⟨(H₄,i+1,_,g2,(a4,n4,c4)),View.le_trans p1 r1,by simp only;omega,p3,p4,r4,r5⟩ (by simp only;omega);refine Tc.permL (perm4 _ _ g2.bl _ _ _ g4.bl) ?_;exact Tc.db hfin
end
set_option maxHeartbeats 8000000
section
variable(M:Md prog)(H:View)
theorem IndexOf_c(A:Option Addr)(n ac:Nat)(x:Nat→List UInt8)(hA:StrsAt H A n x)(hn:n≤100000000)(s:List UInt8):CallT M 42 #[.slice A n ac,strV s] H (fun v H'=> H.le H'∧v=.int .i64 (firstI (firstTo (fun j=> x j==s) n))):=by
 refine .en func42 ntmps42 fun St c cs hK=> ?_;refine U10 ?_;refine Tc.db (Tc.loopInv (σ:= { j:Nat//j≤n∧firstTo (fun j=> x j==s) j=none }) (fun j=> ([(0,.slice A n ac),(1,strV s),(5,.int .i64 (j.1:Nat))],[])) (fun j=> n-j.1) ?_ ⟨0,Nat.zero_le _,rfl⟩);rintro⟨j,hj,hno⟩ ih;show Tc M St _ _ _ _ [(0,.slice A n ac),(1,strV s),(5,.int .i64 (j:Nat))] [] _ _;by_cases c1:j=n
 · subst c1;rw[hno] at hK;refine U14 ?_;refine .rt hK func42 results42 [_] ?_;exact okB
 · have c2:j<n:=by omega
   obtain h0|⟨ab,ao,f,gs,gt,gz,rfl,hb,hl⟩:=hA
   · omega
   have f1:=hl j c2;cases hpp:x j==s with
   | true=>
     have f3:RL.strB .eql (x j) s=some (.bool true):=by rw[←hpp];rfl
     have e:firstTo (fun j=> x j==s) n=some j:=firstTo_stays (j:=j+1) (by simp[firstTo,hno,hpp]) _ (by omega);rw[e] at hK;refine U27 ?_;refine .rt hK func42 results42 [_] ?_;exact okB
   | false=>
     have f3:RL.strB .eql (x j) s=some (.bool false):=by rw[←hpp];rfl
     refine U29 ?_;exact Tc.db (ih ⟨j+1,by omega,by simp[firstTo,hno,hpp]⟩ (by simp only;omega))
end
section
variable(M:Md prog)(H:View)
end
section
variable(M:Md prog)(H:View)
end
section
variable(M:Md prog)(H:View)
end
set_option maxHeartbeats 16000000
section
variable(M:Md prog)(H:View)
theorem Lesser_eq(A B:Option Addr)(n ac bc:Nat)(x y:Nat→Int)(hA:FreeAt H A n x)(hB:FreeAt H B n y)(hn:n≤1000000)(he:∀i,i<n→x i=y i):
   CallT M 134 #[.slice A n ac,.slice B n bc] H (fun v H'=> H.le H'∧v=.bool false):=by
 refine .en func134 ntmps134 fun St c cs hK=> ?_;refine U10 ?_;refine Tc.db (Tc.loopInv (σ:= { j:Nat//j≤n }) (fun j=> ([(0,.slice A n ac),(1,.slice B n bc),(5,.int .i64 (j.1:Nat))],[])) (fun j=> n-j.1) ?_ ⟨0,Nat.zero_le _⟩);rintro⟨j,hj⟩ ih;show Tc M St _ _ _ _ [(0,.slice A n ac),(1,.slice B n bc),(5,.int .i64 (j:Nat))] [] _ _;by_cases c1:j=n
 · subst c1;refine U25 ?_;refine .rt hK func134 results134 [_] ?_;exact okB
 · have c2:j<n:=by omega
   obtain h0|⟨ab,ao,fa,gs,gt,gz,rfl,hab,hal⟩:=hA
   · omega
   obtain h0|⟨bb,bo,fb,ks,kt,kz,rfl,hbb,hbl⟩:=hB
   · omega
   have f1:=hal j c2;have f2:=hbl j c2;have f3:=he j c2;refine U19 ?_;refine Tc.dr [] [] mixed rfl ?_;refine .nn 0 ?_;refine .nn 1 ?_;refine .nn 2 ?_;refine .nn 3 ?_;refine .nn 4 ?_;refine .nn 5 ?_;refine .nn 6 ?_;refine .nn 7 ?_;refine .nn 8 ?_;refine .dn ?_;refine U8 ?_;exact Tc.db (ih ⟨j+1,by omega⟩ (by simp only;omega))
theorem SameNums_eq(A B:Option Addr)(n ac bc:Nat)(x y:Nat→Int)(hA:FreeAt H A n x)(hB:FreeAt H B n y)(hn:n≤1000000)(he:∀i,i<n→x i=y i):
   CallT M 62 #[.slice A n ac,.slice B n bc] H (fun v H'=> H.le H'∧v=.bool true):=by
 refine .en func62 ntmps62 fun St c cs hK=> ?_;refine U8 ?_;refine .c rfl rfl rfl rfl (fun H hs=> .h (Lesser_eq M H A B n ac bc x y (hA.le hs.base) (hB.le hs.base) hn he)) ?_;refine U4 ?_;refine .c rfl rfl rfl rfl (fun H hs=> .h (Lesser_eq M H B A n bc ac y x (hB.le hs.base) (hA.le hs.base) hn (fun i hi=> (he i hi).symm))) ?_;refine U4 ?_;refine .rt hK func62 results62 [_] ?_;exact okB
theorem to_c(a b:Int):CallT M 74 #[.int .i64 a,.int .i64 b] H (fun v H'=> H.le H'∧v=bandV a b):=by
 refine .en func74 ntmps74 fun St c cs hK=> ?_;refine U2 ?_;refine .al fun b4=> ?_;refine U8 ?_;refine .rt hK func74 results74 [_] ?_;exact okB
theorem train_c(p q:Int):CallT M 79 #[.int .i64 p,.int .i64 q] H (fun v H'=> H.le H'∧v=trainV p p q q):=by
 refine .en func79 ntmps79 fun St c cs hK=> ?_;refine U2 ?_;refine .al fun b4=> ?_;refine U5 ?_;refine .c rfl rfl rfl rfl (fun H hs=> .h (to_c M H p p)) ?_;refine U2 ?_;refine .c rfl rfl rfl rfl (fun H hs=> .h (to_c M H q q)) ?_;refine U3 ?_;refine .rt hK func79 results79 [_] ?_;exact okB
end
def exName(i:Nat):List UInt8:= [[97,110,110],[98,111,98],[101,118,101]][i]?.getD []
def exNum(i:Nat):List UInt8:= [[49,50],[49,51],[50]][i]?.getD []
def exNf(i:Nat):Nat:= [1,2,1][i]?.getD 0
def exFree(i j:Nat):Int:=([[1],[2,1],[0]][i]?.getD [])[j]?.getD 0
def exAt(l:List Int)(i:Nat):Int:=l[i]?.getD 0
def bkD:Bk:=⟨5,20,3,exName,exNum,exNf,exFree,2,exAt [1,2],exAt [1,3],exAt [8,6],exAt [8,6]⟩
def bkE:Bk:=⟨5,20,3,exName,exNum,exNf,exFree,3,exAt [1,1,2],exAt [1,1,2],exAt [3,9,9],exAt [6,9,9]⟩
def bkO:Bk:=bkD.now 1 2 2 6 6
def exF(b0 b1 b2:Nat)(i:Nat):Option Addr:=match i with
 | 0=> some ⟨b0,0,none⟩
 | 1=> some ⟨b1,0,none⟩
 | _=> some ⟨b2,0,none⟩
structure LinesAt(H:View)(bl b0 b1 b2:Nat):Prop where
 h:∃f gt gz,H bl=some (f,.cells ⟨[strV [97,110,110],strV [49,50],.slice (some ⟨b0,0,none⟩) 1 1,strV [98,111,98],strV [49,51],.slice (some ⟨b1,0,none⟩) 2 2,strV [101,118,101],strV [50],.slice (some ⟨b2,0,none⟩) 1 1]⟩ gt gz)
 h0:∃f gt gz,H b0=some (f,.cells ⟨[.int .i64 1]⟩ gt gz)
 h1:∃f gt gz,H b1=some (f,.cells ⟨[.int .i64 2,.int .i64 1]⟩ gt gz)
 h2:∃f gt gz,H b2=some (f,.cells ⟨[.int .i64 0]⟩ gt gz)
theorem LinesAt.le {H H':View}{bl b0 b1 b2:Nat}(h:LinesAt H bl b0 b1 b2)(k:H.le H'):LinesAt H' bl b0 b1 b2:=
 ⟨h.h.imp fun _ ⟨gt,gz,e⟩=> ⟨gt,gz,k _ _ e⟩,h.h0.imp fun _ ⟨gt,gz,e⟩=> ⟨gt,gz,k _ _ e⟩,h.h1.imp fun _ ⟨gt,gz,e⟩=> ⟨gt,gz,k _ _ e⟩,h.h2.imp fun _ ⟨gt,gz,e⟩=> ⟨gt,gz,k _ _ e⟩⟩
theorem src_of_cells {H:View}{sz m c b:Nat}{f:Bool}{cs:List Value}{e:TypeId}{fz:Nat×Nat}(hb:H b=some (f,.cells ⟨cs⟩ e fz))(h:cs.length=m*sz):SrcAt H sz (.slice (some ⟨b,0,none⟩) m c) m cs:=
 ⟨⟨_,_,rfl⟩,h,.inr ⟨b,0,c,f,cs,e,fz,rfl,hb,by simp,by simp⟩⟩
theorem ex_book {H:View}{k:Bk}{bl b0 b1 b2 bt:Nat}(hl:LinesAt H bl b0 b1 b2)(hn:k.nl=3)(hname:k.name=exName)(hnum:k.num=exNum)(hnf:k.nf=exNf)(hfr:k.free=exFree){f:Bool}{gt:TypeId}{gz:Nat×Nat}(ht:H bt=some (f,.cells ⟨flatR k.nt (trainL k)⟩ gt gz)):
   BookAt H k (some ⟨bl,0,none⟩) 3 (some ⟨bt,0,none⟩) k.nt (exF b0 b1 b2) exNf:=by
 obtain⟨⟨f1,t1,z1,g1⟩,⟨f2,t2,z2,g2⟩,⟨f3,t3,z3,g3⟩,⟨f4,t4,z4,g4⟩⟩:=hl;refine⟨by omega,Nat.le_refl _,?_,src_of_cells ht (flatR_len (f:=trainL k) (sz:=4) (fun _=> rfl) k.nt),fun i hi=> by rw[hnf];exact Nat.le_refl _,fun i hi=> ?_⟩
 · rw[hn];have e:flatR 3 (rowL k (exF b0 b1 b2) exNf)= [strV [97,110,110],strV [49,50],.slice (some ⟨b0,0,none⟩) 1 1,strV [98,111,98],strV [49,51],.slice (some ⟨b1,0,none⟩) 2 2,strV [101,118,101],strV [50],.slice (some ⟨b2,0,none⟩) 1 1]:=by
     unfold rowL;rw[hname,hnum,hnf];rfl
   rw[e];exact src_of_cells g1 rfl
 · rw[hn] at hi;rw[hnf,hfr];rcases(by omega:i=0∨i=1∨i=2) with rfl|rfl|rfl
   · exact src_of_cells g2 rfl
   · exact src_of_cells g3 rfl
   · exact src_of_cells g4 rfl
section
variable(M:Md prog)(H:View)
theorem lines_ex:CallT M 149 #[] H (fun v H'=> H.le H'∧∃bl b0 b1 b2,v=.slice (some ⟨bl,0,none⟩) 3 3∧LinesAt H' bl b0 b1 b2):=by
 refine .en func149 ntmps149 fun St c cs hK=> ?_;refine U6 ?_;refine .e (.bs (zz:=fun b0=> ?_));refine U ?_;refine .e (.bs (zz:=fun b1=> ?_));refine U ?_;refine .e (.bs (zz:=fun b2=> ?_));refine U ?_;refine .e (.bs (zz:=fun bl=> ?_));refine U2 ?_;refine .rt hK func149 results149 [_] ?_;exact fun H' hs=> ⟨hs.base,bl,b0,b1,b2,rfl,⟨_,_,_,hs.get (i:=0) rfl⟩,⟨_,_,_,hs.get (i:=3) rfl⟩,⟨_,_,_,hs.get (i:=2) rfl⟩,⟨_,_,_,hs.get (i:=1) rfl⟩⟩
theorem Example_c:CallT M 77 #[] H (fun v H'=> H.le H'∧∃A lc B tc F fc,v=bkD.val A lc B tc∧BookAt H' bkD A lc B tc F fc):=by
 refine .en func77 ntmps77 fun St c cs hK=> ?_;refine U2 ?_;refine .al fun b0=> ?_;refine U3 ?_;refine To.callF rfl rfl rfl rfl rfl rfl (by decide) (FnT.h (lines_ex M H)) (fun v H₁ hv=> ?_);obtain⟨hle,bl,c0,c1,c2,rfl,hl⟩:=hv;refine .c rfl rfl rfl rfl (fun H hs=> .h (train_c M H 1 8)) ?_;refine .c rfl rfl rfl rfl (fun H hs=> .h (to_c M H 2 3)) ?_;refine .c rfl rfl rfl rfl (fun H hs=> .h (to_c M H 6 6)) ?_;refine U ?_;refine .e (.bs (zz:=fun bt=> ?_));refine U3 ?_;refine .rt hK func77 results77 [_] ?_;exact fun H' hs=> ⟨View.le_trans hle hs.base,_,_,some ⟨bt,0,none⟩,_,_,_,rfl,ex_book (hl.le hs.base) rfl rfl rfl rfl rfl (hs.get (i:=0) rfl)⟩
theorem joined_c:CallT M 78 #[] H (fun v H'=> H.le H'∧∃A lc B tc F fc,v=bkE.val A lc B tc∧BookAt H' bkE A lc B tc F fc):=by
 refine .en func78 ntmps78 fun St c cs hK=> ?_;refine U2 ?_;refine .al fun b0=> ?_;refine U3 ?_;refine To.callF rfl rfl rfl rfl rfl rfl (by decide) (FnT.h (lines_ex M H)) (fun v H₁ hv=> ?_);obtain⟨hle,bl,c0,c1,c2,rfl,hl⟩:=hv;refine .c rfl rfl rfl rfl (fun H hs=> .h (to_c M H 1 1)) ?_;refine .c rfl rfl rfl rfl (fun H hs=> .h (to_c M H 3 6)) ?_;refine U ?_;refine .c rfl rfl rfl rfl (fun H hs=> .h (train_c M H 1 9)) ?_;refine .c rfl rfl rfl rfl (fun H hs=> .h (train_c M H 2 9)) ?_;refine .e (.bs (zz:=fun bt=> ?_));refine U3 ?_;refine .rt hK func78 results78 [_] ?_;exact fun H' hs=> ⟨View.le_trans hle hs.base,_,_,some ⟨bt,0,none⟩,_,_,_,rfl,ex_book (hl.le hs.base) rfl rfl rfl rfl rfl (hs.get (i:=0) rfl)⟩
end
theorem bkD_al:bkD.alarm=0:=by decide +kernel
theorem bkE_al:bkE.alarm=0:=by decide +kernel
theorem bkO_al:bkO.alarm=0:=by decide +kernel
theorem ex_small {k:Bk}(hn:k.nl=3)(ht:k.nt≤1000)(hnum:k.num=exNum)(hnf:k.nf=exNf):k.small:=⟨by omega,ht,fun i hi=> by
 rw[hn] at hi;rw[hnum,hnf];rcases(by omega:i=0∨i=1∨i=2) with rfl|rfl|rfl <;> decide⟩
set_option maxHeartbeats 8000000
section
variable(M:Md prog)(H:View)
end
end Go.Proofs.YtdnfdeplcjaonaaGreatDoor
namespace Go.RL
open Go.Conc
section
variable {P:Program}{M:Md P}{St:View→Goroutine→Prop}{n:Nat}{b:FB}{H₀:View}{cs:List Frame}{R:Rg}{L:Bl}{ds:List Deferred}{k:List Item}{md:Region.Mode}{ops:Array Oper}
theorem Ta.callL2(i j:Nat){B:List Nat}{Hs:View}{Ls Lb:Bl}{o:Oper}{d:Nat}{fuel:Nat}{listed:Array Bool}{cl:Go.Call}{x:Operand}{fv:Value}{az:List Value}(hr:Region.ready md ops listed= [i,j])(hi:ops[i]? =some o)
   (hw:wantB (ops.toList.map (fun o:Oper=> o.dst)) R o=some true) (hop:o.op=.call cl) (hcl:cl.callee=.value x) (hx:evR R x=some fv) (has:evRs R cl.args.toList=some az) (hd:o.dst=some d) (hn:d<n)
   {Q:Value→View→Prop} (hc:FnT M fv az H₀ Q) (hle:∀v H₁,Q v H₁→Hs.le H₁) (h1:Ls.Sublist L) (h2:(B.all fun j=> !((listed.setIfInBounds i true).getD j true))=false∨Lb.Sublist L)
   (hk:∀v H₁,Q v H₁→Ta M St n b H₁ cs (S2 Hs B Ls Lb) md ops fuel (listed.setIfInBounds i true) ((d,v)::R) L ds k)
   (hj:TaOp M St n b H₀ cs (S2 Hs B Ls Lb) md ops fuel listed R L ds k j):
   Ta M St n b H₀ cs (S2 Hs B Ls Lb) md ops (fuel+1) listed R L ds k:=fun H tmps hs hr' _ H₂ h2' _=> by
 have hs:=hs.mono h2';refine⟨fun e=> (by rw[hr] at e;cases e),fun j' hj' o' ho'=> ?_⟩;rw[hr] at hj';have hcase:j'=i∨j'=j:=by simpa using hj'
 rcases hcase with rfl|rfl
 · rw[hi] at ho';cases ho'
   refine⟨(by rw[hop];rfl),?_⟩;have hw':Region.wanted o (yielded ops tmps)=true:=wantB_ok (fun j=> by
     simp only[List.getElem?_map,Array.getElem?_toList];cases ops[j]? <;> rfl) hr' hw
   rw[if_pos hw'];obtain⟨F,rfl,hdj,hF⟩:=hs.split;have e1:=hr'.ev hx;have hmap:cl.args.map (evT tmps)=az.toArray:=by
     apply Array.ext'
     simpa using hr'.evs has
   have hex:execOp (evT tmps) o=(Deferred.ofValue fv az.toArray).bind fun d=> invoke d.target d.args:=by
     have h1:execOp (evT tmps) o=(resolve (evT tmps) cl o.type).bind fun d=> invoke d.target d.args:=by unfold execOp;rw[hop];rfl
     rw[h1];unfold resolve;rw[hcl];simp only[e1,hmap]
   unfold OpRun;rw[hex];have fin:∀v H'',Beside F Q v H''→S2 Hs B Ls Lb (listed.setIfInBounds j' true) H''∧AnyT M md ops (S2 Hs B Ls Lb) (fun tmps H=> T M St H (G (b.at tmps ds k) cs)) fuel (listed.setIfInBounds j' true) (putT tmps o.dst v) H'':=by
     rintro v H'' ⟨H₁,rfl,hd',hq⟩;have hsy:SymSt H₁ L (H₁.plus F):=.joined hs.nodup hF hd';have hS:S2 Hs B Ls Lb (listed.setIfInBounds j' true) (H₁.plus F):=S2.mkL (hle v H₁ hq) h1 h2 _ hsy;refine⟨hS,?_⟩;rw[hd];exact hk v H₁ hq _ _ hsy (hr'.put hn v) hS
   refine vwp_mono _ (fun nx H' hn'=> ?_) (hc.frame hdj);cases nx <;> first
     | exact hn'.elim
     | exact CallT.mono hn' fin
     | exact GoT.mono hn' fin
 · obtain⟨o2,ho2,hd2,hw2,h'⟩:=hj;rw[ho'] at ho2;cases ho2
   refine⟨hd2,?_⟩;have hw':Region.wanted o' (yielded ops tmps)=true:=wantB_ok (fun j=> by
     simp only[List.getElem?_map,Array.getElem?_toList];cases ops[j]? <;> rfl) hr' hw2
   rw[if_pos hw'];refine(h' H₂ tmps hs hr').mono ?_;rintro t H' ⟨R',L',h1,h2,h3,h4⟩;exact⟨h3 H' h2,h4 H' t h2 h1 (h3 H' h2)⟩
theorem Tc.viaB {x:Item}(F:View→Rg→Bl→Prop)(hF:∀H R L,F H R L→Tc M St n b H cs R L ds k)(h:(∀H R L,F H R L→Tc M St n b H cs R L ds k)→Tc M St n b H₀ cs R L ds (x::k)):Tc M St n b H₀ cs R L ds (x::k):=h hF
end
end Go.RL
namespace Go.Proofs.YtdnfdeplcjaonaaGreatDoor
open Go.RL Go.Proofs.Tryz
set_option maxRecDepth 10000
set_option maxHeartbeats 16000000
abbrev Quad:=Int×Int×Int×Int
section
variable(M:Md prog)(H:View)
end
end Go.Proofs.YtdnfdeplcjaonaaGreatDoor
namespace Go.Proofs.YtdnfdeplcjaonaaGreatDoor
open Go.RL Go.Proofs.Tryz Go.Conc
set_option maxRecDepth 10000
theorem e163:Ent prog 163 (Extern.Race.marked .releaseMerge):=⟨Tryz.f163,func163,by kernel_rfl,by kernel_rfl,by kernel_rfl,by kernel_rfl⟩
theorem e164:Ent prog 164 disE:=⟨Tryz.f164,func164,by kernel_rfl,by kernel_rfl,by kernel_rfl,by kernel_rfl⟩
theorem e165:Ent prog 165 enE:=⟨Tryz.f165,func165,by kernel_rfl,by kernel_rfl,by kernel_rfl,by kernel_rfl⟩
theorem e166:Ent prog 166 (fun _=> pure (.bool false)):=⟨Tryz.f166,func166,by kernel_rfl,by kernel_rfl,by kernel_rfl,by kernel_rfl⟩
theorem e171:Ent prog 171 (Extern.Race.marked .read):=⟨Tryz.f171,func171,by kernel_rfl,by kernel_rfl,by kernel_rfl,by kernel_rfl⟩
theorem e175:Ent prog 175 Extern.Sync.semrelease:=⟨Tryz.f175,func175,by kernel_rfl,by kernel_rfl,by kernel_rfl,by kernel_rfl⟩
theorem e176:Ent prog 176 (Extern.Race.marked .acquire):=⟨Tryz.f176,func176,by kernel_rfl,by kernel_rfl,by kernel_rfl,by kernel_rfl⟩
theorem e179:Ent prog 179 (Extern.Race.marked .write):=⟨Tryz.f179,func179,by kernel_rfl,by kernel_rfl,by kernel_rfl,by kernel_rfl⟩
theorem e180:Ent prog 180 Extern.Sync.semacquire:=⟨Tryz.f180,func180,by kernel_rfl,by kernel_rfl,by kernel_rfl,by kernel_rfl⟩
theorem e210:Ent prog 210 (Extern.Atomic.update (Op.intArith .add) .u64 true):=⟨Tryz.f210,func210,by kernel_rfl,by kernel_rfl,by kernel_rfl,by kernel_rfl⟩
theorem e211:Ent prog 211 (Extern.Atomic.loadT (.int .u64)):=⟨Tryz.f211,func211,by kernel_rfl,by kernel_rfl,by kernel_rfl,by kernel_rfl⟩
theorem e212:Ent prog 212 Extern.Atomic.storeT:=⟨Tryz.f212,func212,by kernel_rfl,by kernel_rfl,by kernel_rfl,by kernel_rfl⟩
theorem e213:Ent prog 213 (Extern.Atomic.casT (.int .u64)):=⟨Tryz.f213,func213,by kernel_rfl,by kernel_rfl,by kernel_rfl,by kernel_rfl⟩
theorem fo_156_1:fldOff prog 156 1=some 0:=by kernel_rfl
theorem fo_156_2:fldOff prog 156 2=some 1:=by kernel_rfl
theorem fo_153_2:fldOff prog 153 2=some 0:=by kernel_rfl
theorem un_201:prog.underlying 201=some (.pointer 156):=by kernel_rfl
theorem un_203:prog.underlying 203=some .unsafePointer:=by kernel_rfl
theorem un_208:prog.underlying 208=some (.pointer 154):=by kernel_rfl
theorem un_3:prog.underlying 3=some (.int .i64):=by kernel_rfl
theorem un_21:prog.underlying 21=some (.int .i32):=by kernel_rfl
theorem un_154:prog.underlying 154=some (.int .u32):=by kernel_rfl
theorem un_151:prog.underlying 151=some (.int .u64):=by kernel_rfl
theorem sz_156:(prog.info? 156).map (·.size)=some (1+1):=by kernel_rfl
theorem sz_154:(prog.info? 154).map (·.size)=some (0+1):=by kernel_rfl
end Go.Proofs.YtdnfdeplcjaonaaGreatDoor
namespace Go.Proofs.YtdnfdeplcjaonaaGreatDoor
open Go.RL Go.Proofs.Tryz Go.Conc Go.ConcN Go.RL.Au
open Go.ConcR (stA smA)
open Go.ConcM (OsLater)
set_option maxRecDepth 10000
section
variable {main:Bool}{sh:Shp}{J:Goroutine→Prop}{K:Value→(Goroutine→Prop)→Prop}{blk off:Nat}
def KC(main:Bool)(K:Value→(Goroutine→Prop)→Prop):Prop:=∀v J',K v J'→∃sh',Cl prog main sh' J'
theorem add64 {d:Int}(hc:Cl prog main sh J)(hk:KC main K)(h:AtC J 210 [.pointer (some ⟨blk,off,none⟩),.int .u64 d] K):AtC J 170 [.pointer (some ⟨blk,off,none⟩),.int .u64 d] K:=by
 refine InC.at (by exact hc) ca170 (InC.enter (vs:= [.pointer (some ⟨blk,off,none⟩),.int .u64 d]) func170 rfl ntmps170 (Nat.le_of_ble_eq_true rfl) fun c cs hK=> ?_);refine .sq (.rg rfl rfl ?_);refine .g ?_;refine .dn (.sq (.rg rfl rfl ?_));refine .m ?_;refine .x .nk ?_;refine .x (.fa (zz:=fo_153_2)) ?_;refine .m ?_;refine So.callD rfl rfl rfl nofun rfl (.mk' rfl) rfl (h) ?_;intro v J' hv;obtain⟨sh',hc⟩:=hk v J' hv;refine .g ?_;refine .dn ?_;refine Sc.retCode (by exact hc) rfl (Sb.leave (by exact hc) func170 rfl (by exact .inr ⟨_,results170,rfl⟩) ?_);exact hK v J' hv
theorem load64(hc:Cl prog main sh J)(hk:KC main K)(h:AtC J 211 [.pointer (some ⟨blk,off,none⟩)] K):AtC J 172 [.pointer (some ⟨blk,off,none⟩)] K:=by
 refine InC.at (by exact hc) ca172 (InC.enter (vs:= [.pointer (some ⟨blk,off,none⟩)]) func172 rfl ntmps172 (Nat.le_of_ble_eq_true rfl) fun c cs hK=> ?_);refine .sq (.rg rfl rfl ?_);refine .g ?_;refine .dn (.sq (.rg rfl rfl ?_));refine .m ?_;refine .x .nk ?_;refine .x (.fa (zz:=fo_153_2)) ?_;refine So.callD rfl rfl rfl nofun rfl (.mk' rfl) rfl (h) ?_;intro v J' hv;obtain⟨sh',hc⟩:=hk v J' hv;refine .g ?_;refine .dn ?_;refine Sc.retCode (by exact hc) rfl (Sb.leave (by exact hc) func172 rfl (by exact .inr ⟨_,results172,rfl⟩) ?_);exact hK v J' hv
theorem store64 {d:Int}(hc:Cl prog main sh J)(hk:KC main K)(hu:∀v J',K v J'→v=.tuple #[])(h:AtC J 212 [.pointer (some ⟨blk,off,none⟩),.int .u64 d] K):AtC J 173 [.pointer (some ⟨blk,off,none⟩),.int .u64 d] K:=by
 refine InC.at (by exact hc) ca173 (InC.enter (vs:= [.pointer (some ⟨blk,off,none⟩),.int .u64 d]) func173 rfl ntmps173 (Nat.le_of_ble_eq_true rfl) fun c cs hK=> ?_);refine .rg rfl rfl ?_;refine .m ?_;refine .x .nk ?_;refine .x (.fa (zz:=fo_153_2)) ?_;refine .m ?_;refine So.callD rfl rfl rfl nofun rfl (.mk' rfl) rfl (h) ?_;intro v J' hv;obtain⟨sh',hc⟩:=hk v J' hv;refine .dn ?_;refine Sc.over (by exact hc) rfl (Sb.leave (by exact hc) func173 rfl (by exact .inl ⟨results173,rfl⟩) ?_);exact hu v J' hv▸hK v J' hv
theorem cas64 {d e:Int}(hc:Cl prog main sh J)(hk:KC main K)(h:AtC J 213 [.pointer (some ⟨blk,off,none⟩),.int .u64 d,.int .u64 e] K):AtC J 178 [.pointer (some ⟨blk,off,none⟩),.int .u64 d,.int .u64 e] K:=by
 refine InC.at (by exact hc) ca178 (InC.enter (vs:= [.pointer (some ⟨blk,off,none⟩),.int .u64 d,.int .u64 e]) func178 rfl ntmps178 (Nat.le_of_ble_eq_true rfl) fun c cs hK=> ?_);refine .sq (.rg rfl rfl ?_);refine .g ?_;refine .dn (.sq (.rg rfl rfl ?_));refine .m ?_;refine .x .nk ?_;refine .x (.fa (zz:=fo_153_2)) ?_;refine .m ?_;refine .m ?_;refine So.callD rfl rfl rfl nofun rfl (.mk' rfl) rfl (h) ?_;intro v J' hv;obtain⟨sh',hc⟩:=hk v J' hv;refine .g ?_;refine .dn ?_;refine Sc.retCode (by exact hc) rfl (Sb.leave (by exact hc) func178 rfl (by exact .inr ⟨_,results178,rfl⟩) ?_);exact hK v J' hv
end
set_option maxHeartbeats 1000000
theorem g64_hi:∀a:Nat,a<8→∀b:Nat,b<2→bitI .and .u64 ((a*4294967296+b:Nat):Int) 2147483648=0:=by decide +kernel
theorem g64_lo:∀a:Nat,a<8→∀b:Nat,b<2→bitI .and .u64 ((a*4294967296+b:Nat):Int) 2147483647=(b:Int):=by decide +kernel
theorem g64_sh:∀a:Nat,a<8→∀b:Nat,b<2→((a*4294967296+b:Nat):Int).fdiv (2 ^ (min (32:Int).toNat IntKind.u64.bits))=(a:Int):=by decide +kernel
theorem w64_m1:IntKind.u64.wrap (-1)=18446744073709551615:=by decide +kernel
theorem sh64_m1:shiftV .shl .u64 18446744073709551615 32=some (.int .u64 18446744069414584320):=by
 show some (Value.int .u64 (IntKind.u64.wrap (18446744073709551615*2 ^ (min (32:Int).toNat IntKind.u64.bits))))=_;rw[show IntKind.u64.wrap (18446744073709551615*2 ^ (min (32:Int).toNat IntKind.u64.bits))=18446744069414584320 by decide +kernel]
theorem w64_1:IntKind.u64.wrap 1=1:=by decide +kernel
theorem sh64_1:shiftV .shl .u64 1 32=some (.int .u64 4294967296):=by
 show some (Value.int .u64 (IntKind.u64.wrap (1*2 ^ (min (32:Int).toNat IntKind.u64.bits))))=_;rw[show IntKind.u64.wrap (1*2 ^ (min (32:Int).toNat IntKind.u64.bits))=4294967296 by decide +kernel]
theorem w32_m1:IntKind.i32.wrap (-1)= -1:=by decide +kernel
theorem w32_s:∀a:Nat,a<8→IntKind.i32.wrap (a:Int)=(a:Int):=by decide +kernel
theorem wu32_s:∀a:Nat,a<8→IntKind.u32.wrap (a:Int)=(a:Int):=by decide +kernel
section
variable {X:Fk}{κ:Nat}{H:View}{cc:Frame}{cs:List Frame}
theorem shp_wg(X:Fk):∃e c,X.shp X.Wg=some (e,c)∧0<c:=⟨X.tW,2,by simp[Fk.shp],by decide⟩
theorem shp_wg1(X:Fk):∃e c,X.shp X.Wg=some (e,c)∧0+1<c:=⟨X.tW,2,by simp[Fk.shp],by decide⟩
theorem kw {K:Value→Th→Prop}{k:Nat}:KC false (fun v J'=> ∃k' t',k'<k∧K v t'∧J'=Jw prog X κ k' t' H):=fun _ _ ⟨_,_,_,_,h⟩=> ⟨_,h▸Jw.cl0⟩
noncomputable def X103:Code:=cR (cR (cR (cR (bodyOf Tryz.f103))))
abbrev b103:FB:=⟨103,.normal,none⟩
attribute [local irreducible] IntKind.wrap bitI Int.fdiv in
theorem dn_two {a b:Nat}(ha:a<8)(hb:b<2)(hq:¬(a=0∧b=1))(hK:Jq prog 0 (G (cc.finish (.tuple #[])) cs)){R:Rg}
   (hR:AllIn [(0,.pointer (some ⟨X.Wg,0,none⟩)),(1,.int .i64 (-1)),(4,.bool false),(6,.int .u64 ((a*4294967296+b:Nat):Int))] R):
   Sc (Jq prog 1) 117 b103 (cc::cs) R [dcall 165 #[]] [.code X103]:=by
 refine Sc.drop hR ?_;have hsh:=shp_wg X;have f3:=w32_m1;have g1:intBin .and .u64 ((a*4294967296+b:Nat):Int) 2147483648=some (.int .u64 0):=by rw[←g64_hi a (by omega) b (by omega)];rfl
 have g2:intBin .and .u64 ((a*4294967296+b:Nat):Int) 2147483647=some (.int .u64 (b:Int)):=by rw[←g64_lo a (by omega) b (by omega)];rfl
 have g3:shiftV .shr .u64 ((a*4294967296+b:Nat):Int) 32=some (.int .u64 (a:Int)):=by rw[←g64_sh a (by omega) b (by omega)];rfl
 have g4:=w32_s a (by omega);have g5:=wu32_s b (by omega);rcases Nat.eq_zero_or_pos a with hpos|hpos;all_goals rcases Nat.eq_zero_or_pos b with hposb|hposb
 all_goals first
   | (exfalso;omega)
   | (
     refine .sq (.sq (.rg rfl rfl ?_));refine .m ?_;refine .i ?_ (z:=by assumption);refine .i ?_ (z:=neq_f (by omega));refine .m ?_;refine .sk ?_;refine .sk ?_;refine .x .pk ?_;refine .dn (.ff rfl (.sp (.sq ?_)));refine Sc.drop (R':= [(0,.pointer (some ⟨X.Wg,0,none⟩)),(1,.int .i64 (-1)),(4,.bool false),(6,.int .u64 ((a*4294967296+b:Nat):Int))]) ⟨rfl,rfl,rfl,rfl,trivial⟩ ?_;refine .rg rfl rfl ?_;refine .m ?_;refine .x (OpP.shift rfl rfl rfl (by omega) (by assumption)) ?_;refine .x (OpP.conv rfl rfl un_151 un_21 (by assumption)) ?_;refine .g ?_;refine .dn (.sq ?_);refine Sc.drop (R':= [(0,.pointer (some ⟨X.Wg,0,none⟩)),(1,.int .i64 (-1)),(6,.int .u64 ((a*4294967296+b:Nat):Int)),(7,.int .i32 (a:Int))]) ⟨rfl,rfl,rfl,rfl,trivial⟩ ?_;refine .rg rfl rfl ?_;refine .m ?_;refine .i ?_ (z:=by assumption);refine .x (OpP.conv rfl rfl un_151 un_154 (by assumption)) ?_;refine .g ?_;refine .dn (.sq (.sq ?_));refine Sc.drop (R':= [(0,.pointer (some ⟨X.Wg,0,none⟩)),(1,.int .i64 (-1)),(7,.int .i32 (a:Int)),(8,.int .u32 (b:Int))]) ⟨rfl,rfl,rfl,rfl,trivial⟩ ?_;refine .rg rfl rfl ?_;refine .m ?_;refine .m ?_;refine .i ?_ (z:=gtr_f (by omega));refine .x .pk ?_;refine .m ?_;refine .sk ?_;refine .sk ?_;refine .sk ?_;refine .sk ?_;refine .x .pk ?_;refine .dn (.ff rfl (.sp (.sq (.sq ?_))));refine Sc.drop (R':= [(0,.pointer (some ⟨X.Wg,0,none⟩)),(1,.int .i64 (-1)),(7,.int .i32 (a:Int)),(8,.int .u32 (b:Int))]) ⟨rfl,rfl,rfl,rfl,trivial⟩ ?_;refine .rg rfl rfl ?_;refine .m ?_;refine .i ?_ (z:=lss_f (by omega));refine .dn (.ff rfl (.sp (.sq (.sq ?_))));refine Sc.drop (R':= [(0,.pointer (some ⟨X.Wg,0,none⟩)),(1,.int .i64 (-1)),(7,.int .i32 (a:Int)),(8,.int .u32 (b:Int))]) ⟨rfl,rfl,rfl,rfl,trivial⟩ ?_;refine .rg rfl rfl ?_;refine .m ?_;refine .i ?_ (z:=by first|exact neq_t (by omega)|exact neq_f (by omega));refine .m ?_;first|(refine .sk ?_)|(refine .m ?_)
     first|(refine .sk ?_)|(refine .x (.it (zz:=gtr_f (by omega))) ?_)
     refine .x .pk ?_;refine .m ?_;refine .sk ?_;refine .sk ?_;refine .sk ?_;refine .sk ?_;refine .x .pk ?_;refine .dn (.ff rfl (.sp (.sq (.sq ?_))));refine Sc.drop (R':= [(0,.pointer (some ⟨X.Wg,0,none⟩)),(1,.int .i64 (-1)),(7,.int .i32 (a:Int)),(8,.int .u32 (b:Int))]) ⟨rfl,rfl,rfl,rfl,trivial⟩ ?_;refine .rg rfl rfl ?_;refine .m ?_;refine .i ?_ (z:=by first|exact gtr_t (by omega)|exact gtr_f (by omega));refine .m ?_;first|(refine .sk ?_)|(refine .m ?_)
     first|(refine .sk ?_)|(refine .x (.it (zz:=eql_t (by omega))) ?_)
     refine .x .pk ?_;refine .dn (.tt rfl ?_);refine Sc.retCode Jq.cl rfl (Jq.en e165 rfl (Sb.leave Jq.cl func103 rfl (.inl ⟨results103,rfl⟩) hK)))
noncomputable def Y103:Code:=cR (cR (cR (cR (cR (cR (cR X103))))))
attribute [local irreducible] IntKind.wrap bitI Int.fdiv in
theorem dn_last {a b k:Nat}(a0:a=0)(b1:b=1)(hK:Jq prog 0 (G (cc.finish (.tuple #[])) cs)){R:Rg}
   (hR:AllIn [(0,.pointer (some ⟨X.Wg,0,none⟩)),(4,.bool false),(6,.int .u64 ((a*4294967296+b:Nat):Int)),(8,.int .u32 (b:Int))] R):Sc (Jw prog X κ k .d2 H) 117 b103 (cc::cs) R [dcall 165 #[]] [.code Y103]:=by
 refine Sc.drop hR ?_;have hsh:=shp_wg X;have g6:intBin .sub .u32 (b:Int) 1=some (.int .u32 0):=by
   rw[b1];exact congrArg (fun x=> some (Value.int .u32 x)) (show IntKind.u32.wrap (((1:Nat):Int)-1)=0 by decide +kernel)
 have g7:intBin .neq .u64 1 ((a*4294967296+b:Nat):Int)=some (.bool false):=neq_f (by omega);refine .sq (.sq (.rg rfl rfl ?_));refine .m ?_;refine .x .nk ?_;refine .x (.fa (zz:=fo_156_1)) ?_;refine So.callD rfl rfl rfl nofun rfl (.mk' rfl) rfl (load64 Jw.cl0 kw (Jw.d2 e211)) ?_;rintro v J' ⟨k5,t,hk5,⟨rfl,rfl⟩,rfl⟩;refine .m ?_;refine .i ?_ (z:=by assumption);refine .dn (.ff rfl (.sp (.sq ?_)));refine Sc.drop (R':= [(0,.pointer (some ⟨X.Wg,0,none⟩)),(4,.bool false),(6,.int .u64 ((a*4294967296+b:Nat):Int)),(8,.int .u32 (b:Int))]) ⟨rfl,rfl,rfl,rfl,trivial⟩ ?_;refine .rg rfl rfl ?_;refine .m ?_;refine .x .nk ?_;refine .x (.fa (zz:=fo_156_1)) ?_;refine So.callD rfl rfl rfl nofun rfl (.mk' rfl) rfl (store64 Jw.cl0 kw (fun v J' ⟨_,_,_,h,_⟩=> h.1) (Jw.d3 e212)) ?_;rintro v J' ⟨k6,t,hk6,⟨rfl,rfl⟩,rfl⟩;refine .dn (.sq (.sq ?_));refine Sc.drop (R':= [(0,.pointer (some ⟨X.Wg,0,none⟩)),(4,.bool false),(6,.int .u64 ((a*4294967296+b:Nat):Int)),(8,.int .u32 (b:Int))]) ⟨rfl,rfl,rfl,rfl,trivial⟩ ?_;refine .rg rfl rfl ?_;refine .m ?_;refine .dn (.ff rfl (.sp (.bl ?_)));refine Sc.loop (by exact Jw.cl0) ?_;refine .sq (.sq (.rg rfl rfl ?_));refine .m ?_;refine .i ?_ (z:=neq_t (by omega));refine .dn (.tt rfl (.sp (.sq (.bl ?_))));refine Sc.drop (R':= [(0,.pointer (some ⟨X.Wg,0,none⟩)),(4,.bool false),(6,.int .u64 ((a*4294967296+b:Nat):Int)),(8,.int .u32 (b:Int))]) ⟨rfl,rfl,rfl,rfl,trivial⟩ ?_;refine .rg rfl rfl ?_;refine .m ?_;refine .x .nk ?_;refine .x (.fa (zz:=fo_156_2)) ?_;refine So.callD rfl rfl rfl nofun rfl (.mk' rfl) rfl (Jw.d4 (vs:= [.pointer (some ⟨X.Wg,1,none⟩),.bool false,.int .i64 0]) e175 rfl) ?_;rintro v J' ⟨k7,t,hk7,⟨rfl,rfl⟩,rfl⟩;refine So.mono ?_ (fun g=> Jq.jw);refine .dn (.ib ?_);refine Sc.drop (R':= [(0,.pointer (some ⟨X.Wg,0,none⟩)),(4,.bool false),(6,.int .u64 ((a*4294967296+b:Nat):Int)),(8,.int .u32 (b:Int))]) ⟨rfl,rfl,rfl,rfl,trivial⟩ ?_;refine .rg rfl rfl ?_;refine .m ?_;refine .i ?_ (z:=by assumption);refine .g ?_;refine .dn ?_;refine Sc.inLoop (by exact Jq.cl) ?_;refine Sc.drop (R':= [(8,.int .u32 0)]) ⟨rfl,trivial⟩ ?_;refine .sq (.sq (.rg rfl rfl ?_));refine .m ?_;refine .i ?_ (z:=neq_f (by omega));refine .dn (.ff rfl (.xt rfl ?_));refine Sc.over Jq.cl rfl (Jq.en e165 rfl (Sb.leave Jq.cl func103 rfl (.inl ⟨results103,rfl⟩) hK))
attribute [local irreducible] IntKind.wrap bitI Int.fdiv in
theorem dn_one {a b k:Nat}(a0:a=0)(b1:b=1)(hK:Jq prog 0 (G (cc.finish (.tuple #[])) cs)){R:Rg}
   (hR:AllIn [(0,.pointer (some ⟨X.Wg,0,none⟩)),(1,.int .i64 (-1)),(4,.bool false),(6,.int .u64 ((a*4294967296+b:Nat):Int))] R):Sc (Jw prog X κ k .d2 H) 117 b103 (cc::cs) R [dcall 165 #[]] [.code X103]:=by
 refine Sc.drop hR ?_;have hsh:=shp_wg X;have f3:=w32_m1;have g1:intBin .and .u64 ((a*4294967296+b:Nat):Int) 2147483648=some (.int .u64 0):=by rw[←g64_hi a (by omega) b (by omega)];rfl
 have g2:intBin .and .u64 ((a*4294967296+b:Nat):Int) 2147483647=some (.int .u64 (b:Int)):=by rw[←g64_lo a (by omega) b (by omega)];rfl
 have g3:shiftV .shr .u64 ((a*4294967296+b:Nat):Int) 32=some (.int .u64 (a:Int)):=by rw[←g64_sh a (by omega) b (by omega)];rfl
 have g4:=w32_s a (by omega);have g5:=wu32_s b (by omega);refine .sq (.sq (.rg rfl rfl ?_));refine .m ?_;refine .i ?_ (z:=by assumption);refine .i ?_ (z:=neq_f (by omega));refine .m ?_;refine .sk ?_;refine .sk ?_;refine .x .pk ?_;refine .dn (.ff rfl (.sp (.sq ?_)));refine Sc.drop (R':= [(0,.pointer (some ⟨X.Wg,0,none⟩)),(1,.int .i64 (-1)),(4,.bool false),(6,.int .u64 ((a*4294967296+b:Nat):Int))]) ⟨rfl,rfl,rfl,rfl,trivial⟩ ?_;refine .rg rfl rfl ?_;refine .m ?_;refine .x (OpP.shift rfl rfl rfl (by omega) (by assumption)) ?_;refine .x (OpP.conv rfl rfl un_151 un_21 (by assumption)) ?_;refine .g ?_;refine .dn (.sq ?_);refine Sc.drop (R':= [(0,.pointer (some ⟨X.Wg,0,none⟩)),(1,.int .i64 (-1)),(4,.bool false),(6,.int .u64 ((a*4294967296+b:Nat):Int)),(7,.int .i32 (a:Int))]) ⟨rfl,rfl,rfl,rfl,rfl,trivial⟩ ?_;refine .rg rfl rfl ?_;refine .m ?_;refine .i ?_ (z:=by assumption);refine .x (OpP.conv rfl rfl un_151 un_154 (by assumption)) ?_;refine .g ?_;refine .dn (.sq (.sq ?_));refine Sc.drop (R':= [(0,.pointer (some ⟨X.Wg,0,none⟩)),(1,.int .i64 (-1)),(4,.bool false),(6,.int .u64 ((a*4294967296+b:Nat):Int)),(7,.int .i32 (a:Int)),(8,.int .u32 (b:Int))]) ⟨rfl,rfl,rfl,rfl,rfl,rfl,trivial⟩ ?_;refine .rg rfl rfl ?_;refine .m ?_;refine .m ?_;refine .i ?_ (z:=gtr_f (by omega));refine .x .pk ?_;refine .m ?_;refine .sk ?_;refine .sk ?_;refine .sk ?_;refine .sk ?_;refine .x .pk ?_;refine .dn (.ff rfl (.sp (.sq (.sq ?_))));refine Sc.drop (R':= [(0,.pointer (some ⟨X.Wg,0,none⟩)),(1,.int .i64 (-1)),(4,.bool false),(6,.int .u64 ((a*4294967296+b:Nat):Int)),(7,.int .i32 (a:Int)),(8,.int .u32 (b:Int))]) ⟨rfl,rfl,rfl,rfl,rfl,rfl,trivial⟩ ?_;refine .rg rfl rfl ?_;refine .m ?_;refine .i ?_ (z:=lss_f (by omega));refine .dn (.ff rfl (.sp (.sq (.sq ?_))));refine Sc.drop (R':= [(0,.pointer (some ⟨X.Wg,0,none⟩)),(1,.int .i64 (-1)),(4,.bool false),(6,.int .u64 ((a*4294967296+b:Nat):Int)),(7,.int .i32 (a:Int)),(8,.int .u32 (b:Int))]) ⟨rfl,rfl,rfl,rfl,rfl,rfl,trivial⟩ ?_;refine .rg rfl rfl ?_;refine .m ?_;refine .i ?_ (z:=neq_t (by omega));refine .m ?_;refine .m ?_;refine .i ?_ (z:=gtr_f (by omega));refine .x .pk ?_;refine .m ?_;refine .sk ?_;refine .sk ?_;refine .sk ?_;refine .sk ?_;refine .x .pk ?_;refine .dn (.ff rfl (.sp (.sq (.sq ?_))));refine Sc.drop (R':= [(0,.pointer (some ⟨X.Wg,0,none⟩)),(1,.int .i64 (-1)),(4,.bool false),(6,.int .u64 ((a*4294967296+b:Nat):Int)),(7,.int .i32 (a:Int)),(8,.int .u32 (b:Int))]) ⟨rfl,rfl,rfl,rfl,rfl,rfl,trivial⟩ ?_;refine .rg rfl rfl ?_;refine .m ?_;refine .i ?_ (z:=gtr_f (by omega));refine .m ?_;refine .m ?_;refine .i ?_ (z:=eql_f (by omega));refine .x .pk ?_;refine .dn (.ff rfl (.sp ?_));exact dn_last a0 b1 hK ⟨rfl,rfl,rfl,rfl,trivial⟩
attribute [local irreducible] IntKind.wrap bitI Int.fdiv in
theorem donew_c {k:Nat}:AtC (Jw prog X κ k .wr H) 103 [.pointer (some ⟨X.Wg,0,none⟩),.int .i64 (-1)] fun v J'=> v=.tuple #[]∧J'=Jq prog 0:=by
 refine InC.at (by exact Jw.clX rfl) ca103 (InC.enter (vs:= [.pointer (some ⟨X.Wg,0,none⟩),.int .i64 (-1)]) func103 rfl ntmps103 (Nat.le_of_ble_eq_true rfl) fun c cs hK=> ?_);have hsh:=shp_wg X;have f1:=w64_m1;have f2:=sh64_m1;have f3:=w32_m1;refine .sq (.tt rfl (.sq (.sq (.rg rfl rfl ?_))));refine .m ?_;refine .i ?_ (z:=lss_t (by omega));refine .dn (.tt rfl (.rg rfl rfl ?_));refine .m ?_;refine .x (OpP.raw rfl rfl un_201 un_203 sz_156 (by assumption)) ?_;refine So.callD rfl rfl rfl nofun rfl (.mk' rfl) rfl (Jw.wr e163) ?_;rintro v J' ⟨rfl,k1,hk1,rfl⟩;refine .dn (.sq (.rg rfl rfl ?_));refine So.callD rfl rfl rfl nofun rfl (.mk' rfl) rfl (Jw.wk e164) ?_;rintro v J' ⟨k2,t,hk2,⟨rfl,rfl⟩,rfl⟩;refine .dn (.rg rfl rfl ?_);refine So.defer Jw.cl0 (f:=165) (vs:= []) rfl nofun rfl rfl ⟨_,rfl⟩ rfl ?_;refine .dn (.sq ?_);refine Sc.drop (R':= [(0,.pointer (some ⟨X.Wg,0,none⟩)),(1,.int .i64 (-1))]) ⟨rfl,rfl,trivial⟩ ?_;refine .rg rfl rfl ?_;refine .g ?_;refine .dn (.sq (.sq (.rg rfl rfl ?_)));refine So.callD rfl rfl rfl nofun rfl (.mk' rfl) rfl (Jw.wi e166) ?_;rintro v J' ⟨k3,t,hk3,⟨rfl,rfl⟩,rfl⟩;refine .dn (.ff rfl (.sp (.sq ?_)));refine Sc.drop (R':= [(0,.pointer (some ⟨X.Wg,0,none⟩)),(1,.int .i64 (-1)),(4,.bool false)]) ⟨rfl,rfl,rfl,trivial⟩ ?_;refine .rg rfl rfl ?_;refine .m ?_;refine .x .nk ?_;refine .x (.fa (zz:=fo_156_1)) ?_;refine .m ?_;refine .x (OpP.conv rfl rfl un_3 un_151 (by assumption)) ?_;refine .x (OpP.shift rfl rfl rfl (by omega) (by assumption)) ?_;refine So.callD rfl rfl rfl nofun rfl (.mk' rfl) rfl (add64 Jw.cl0 kw (Jw.d1 e210)) ?_;rintro v J' ⟨k4,t,hk4,⟨a,b,ha,hb,rfl,rfl⟩,rfl⟩;by_cases hq:a=0∧b=1
 · rw[if_pos hq];refine .g ?_;refine .dn ?_;exact dn_one hq.1 hq.2 (hK _ _ ⟨rfl,rfl⟩) ⟨rfl,rfl,rfl,rfl,trivial⟩
 · rw[if_neg hq];refine So.mono ?_ (fun g=> Jq.jw);refine .g ?_;refine .dn ?_;exact dn_two (by omega) (by omega) hq (hK _ _ ⟨rfl,rfl⟩) ⟨rfl,rfl,rfl,rfl,trivial⟩
theorem done_d {k n:Nat}{b:FB}{R:Rg}{ds:List Deferred}(hb:b.rd=none)
   (h:Sb (Jq prog 0) n b cs R ds):Sb (Jw prog X κ k .wr H) n b cs R (dcall 105 #[.pointer (some ⟨X.Wg,0,none⟩)]::ds):=by
 refine Sb.enterD (vs:= [.pointer (some ⟨X.Wg,0,none⟩)]) Jw.cl0 hb func105 (by kernel_rfl) rfl ntmps105 (Nat.le_of_ble_eq_true rfl) fun c hm hc=> ?_;refine .rg rfl rfl ?_;refine .m ?_;refine So.callD rfl rfl rfl nofun rfl (.mk' rfl) rfl (donew_c) ?_;rintro v J' ⟨rfl,rfl⟩;refine .dn ?_;refine Sc.over Jq.cl rfl (Sb.leaveD Jq.cl func105 rfl results105 (.inl hm) (hc _ h))
end
section
variable {X:Fk}{H:View}{Fin:Goroutine→Prop}{j:Nat}{cc:Frame}{cs:List Frame}
theorem km {K:Value→Mn→Prop}{k:Nat}:KC true (fun v J'=> ∃k' m',k'<k∧K v m'∧J'=Jm prog X Fin k' m' j H):=fun _ _ ⟨_,_,_,_,h⟩=> ⟨_,h▸Jm.cl⟩
theorem w32_1:IntKind.i32.wrap 1=1:=by decide +kernel
attribute [local irreducible] IntKind.wrap bitI Int.fdiv in
theorem addone_c {k:Nat}:AtC (Jm prog X Fin k .kd j H) 103 [.pointer (some ⟨X.Wg,0,none⟩),.int .i64 1] fun v J'=> v=.tuple #[]∧∃k',J'=Jm prog X Fin k' .go j H:=by
 refine InC.at (by exact Jm.cl) ca103 (InC.enter (vs:= [.pointer (some ⟨X.Wg,0,none⟩),.int .i64 1]) func103 rfl ntmps103 (Nat.le_of_ble_eq_true rfl) fun c cs hK=> ?_);have hsh:=shp_wg1 X;have f1:=w64_1;have f2:=sh64_1;have f3:=w32_1;refine .sq (.tt rfl (.sq (.sq (.rg rfl rfl ?_))));refine .m ?_;refine .i ?_ (z:=lss_f (by omega));refine .dn (.ff rfl (.sp (.sq (.rg rfl rfl ?_))));refine So.callD rfl rfl rfl nofun rfl (.mk' rfl) rfl (Jm.kd e164) ?_;rintro v J' ⟨k2,t,hk2,⟨rfl,rfl⟩,rfl⟩;refine .dn (.rg rfl rfl ?_);refine So.defer Jm.cl (f:=165) (vs:= []) rfl nofun rfl rfl ⟨_,rfl⟩ rfl ?_;refine .dn (.sq (.rg rfl rfl ?_));refine .g ?_;refine .dn (.sq (.sq (.rg rfl rfl ?_)));refine So.callD rfl rfl rfl nofun rfl (.mk' rfl) rfl (Jm.ki e166) ?_;rintro v J' ⟨k3,t,hk3,⟨rfl,rfl⟩,rfl⟩;refine .dn (.ff rfl (.sp (.sq (.rg rfl rfl ?_))));refine .m ?_;refine .x .nk ?_;refine .x (.fa (zz:=fo_156_1)) ?_;refine .m ?_;refine .x (OpP.conv rfl rfl un_3 un_151 (by assumption)) ?_;refine .x (OpP.shift rfl rfl rfl (by omega) (by assumption)) ?_;refine So.callD rfl rfl rfl nofun rfl (.mk' rfl) rfl (add64 Jm.cl km (Jm.ka e210)) ?_;rintro v J' ⟨k4,t,hk4,⟨a,ha,rfl,rfl⟩,rfl⟩;have e0:(((a+1)*4294967296:Nat):Int)=(((a+1)*4294967296+0:Nat):Int):=(congrArg (fun x:Nat=> (x:Int)) (Nat.add_zero _)).symm;have g1:intBin .and .u64 (((a+1)*4294967296:Nat):Int) 2147483648=some (.int .u64 0):=by rw[e0,←g64_hi (a+1) (by omega) 0 (by omega)];rfl
 have g2:intBin .and .u64 (((a+1)*4294967296:Nat):Int) 2147483647=some (.int .u64 0):=by
   have:=g64_lo (a+1) (by omega) 0 (by omega);rw[e0];exact congrArg (fun x=> some (Value.int .u64 x)) this
 have g3:shiftV .shr .u64 (((a+1)*4294967296:Nat):Int) 32=some (.int .u64 ((a+1:Nat):Int)):=by rw[e0,←g64_sh (a+1) (by omega) 0 (by omega)];rfl
 have g4:=w32_s (a+1) (by omega);have g5:IntKind.u32.wrap 0=0:=wu32_s 0 (by omega);have gg:(0:Int)<((a+1:Nat):Int):=by omega
 refine .g ?_;refine .dn ?_;refine Sc.drop (R':= [(0,.pointer (some ⟨X.Wg,0,none⟩)),(1,.int .i64 1),(4,.bool false),(6,.int .u64 (((a+1)*4294967296:Nat):Int))]) ⟨rfl,rfl,rfl,rfl,trivial⟩ ?_;refine .sq (.sq (.rg rfl rfl ?_));refine .m ?_;refine .i ?_ (z:=by assumption);refine .i ?_ (z:=neq_f (by omega));refine .m ?_;refine .sk ?_;refine .sk ?_;refine .x .pk ?_;refine .dn (.ff rfl (.sp (.sq ?_)));refine Sc.drop (R':= [(0,.pointer (some ⟨X.Wg,0,none⟩)),(1,.int .i64 1),(4,.bool false),(6,.int .u64 (((a+1)*4294967296:Nat):Int))]) ⟨rfl,rfl,rfl,rfl,trivial⟩ ?_;refine .rg rfl rfl ?_;refine .m ?_;refine .x (OpP.shift rfl rfl rfl (by omega) (by assumption)) ?_;refine .x (OpP.conv rfl rfl un_151 un_21 (by assumption)) ?_;refine .g ?_;refine .dn ?_;refine Sc.drop (R':= [(0,.pointer (some ⟨X.Wg,0,none⟩)),(1,.int .i64 1),(4,.bool false),(6,.int .u64 (((a+1)*4294967296:Nat):Int)),(7,.int .i32 ((a+1:Nat):Int))]) ⟨rfl,rfl,rfl,rfl,rfl,trivial⟩ ?_;refine .sq (.rg rfl rfl ?_);refine .m ?_;refine .i ?_ (z:=by assumption);refine .x (OpP.conv rfl rfl un_151 un_154 (by assumption)) ?_;refine .g ?_;refine .dn ?_;refine Sc.drop (R':= [(0,.pointer (some ⟨X.Wg,0,none⟩)),(1,.int .i64 1),(4,.bool false),(7,.int .i32 ((a+1:Nat):Int)),(8,.int .u32 0)]) ⟨rfl,rfl,rfl,rfl,rfl,trivial⟩ ?_;refine .sq (.sq ?_);by_cases hz:a=0
 · rw[if_pos hz];have q1:intBin .eql .i32 ((a+1:Nat):Int) 1=some (.bool true):=eql_t (by omega);refine .rg rfl rfl ?_;refine .m ?_;refine .m ?_;refine .i ?_ (z:=gtr_t (by omega));refine .x .pk ?_;refine .m ?_;refine .m ?_;refine .m ?_;refine .x (OpP.conv rfl rfl un_3 un_21 (by assumption)) ?_;refine .i ?_ (z:=by assumption);refine .x .pk ?_;refine .dn (.tt rfl ?_);refine Sc.drop (R':= [(0,.pointer (some ⟨X.Wg,0,none⟩)),(1,.int .i64 1),(4,.bool false),(7,.int .i32 ((a+1:Nat):Int)),(8,.int .u32 0)]) ⟨rfl,rfl,rfl,rfl,rfl,trivial⟩ ?_;refine .rg rfl rfl ?_;refine .m ?_;refine .x .nk ?_;refine .x (.fa (zz:=fo_156_2)) ?_;refine .x (OpP.raw rfl rfl un_208 un_203 sz_154 (by assumption)) ?_;refine So.callD rfl rfl rfl nofun rfl (.mk' rfl) rfl (Jm.kr e171) ?_;rintro v J' ⟨rfl,k5,hk5,rfl⟩;refine .dn ?_;refine Sc.drop (R':= [(0,.pointer (some ⟨X.Wg,0,none⟩)),(1,.int .i64 1),(4,.bool false),(7,.int .i32 ((a+1:Nat):Int)),(8,.int .u32 0)]) ⟨rfl,rfl,rfl,rfl,rfl,trivial⟩ ?_;refine .sq (.sq (.rg rfl rfl ?_));refine .m ?_;refine .i ?_ (z:=lss_f (by omega));refine .dn (.ff rfl (.sp (.sq (.sq (.rg rfl rfl ?_)))));refine .m ?_;refine .i ?_ (z:=neq_f (by omega));refine .m ?_;refine .sk ?_;refine .sk ?_;refine .x .pk ?_;refine .m ?_;refine .sk ?_;refine .sk ?_;refine .sk ?_;refine .sk ?_;refine .x .pk ?_;refine .dn (.ff rfl (.sp (.sq (.sq ?_))));refine Sc.drop (R':= [(0,.pointer (some ⟨X.Wg,0,none⟩)),(1,.int .i64 1),(4,.bool false),(7,.int .i32 ((a+1:Nat):Int)),(8,.int .u32 0)]) ⟨rfl,rfl,rfl,rfl,rfl,trivial⟩ ?_;refine .rg rfl rfl ?_;refine .m ?_;refine .i ?_ (z:=gtr_t (by omega));refine .m ?_;refine .sk ?_;refine .sk ?_;refine .x .pk ?_;refine .dn (.tt rfl ?_);refine Sc.retCode Jm.cl rfl (Jm.ke e165 rfl (fun k' _=> Sb.leave Jm.cl func103 rfl (.inl ⟨results103,rfl⟩) (hK _ _ ⟨rfl,k',rfl⟩)))
 · rw[if_neg hz];have q1:intBin .eql .i32 ((a+1:Nat):Int) 1=some (.bool false):=eql_f (by omega);refine .rg rfl rfl ?_;refine .m ?_;refine .m ?_;refine .i ?_ (z:=gtr_t (by omega));refine .x .pk ?_;refine .m ?_;refine .m ?_;refine .m ?_;refine .x (OpP.conv rfl rfl un_3 un_21 (by assumption)) ?_;refine .i ?_ (z:=by assumption);refine .x .pk ?_;refine .dn (.ff rfl (.sp (.sq (.sq ?_))));refine Sc.drop (R':= [(0,.pointer (some ⟨X.Wg,0,none⟩)),(1,.int .i64 1),(4,.bool false),(7,.int .i32 ((a+1:Nat):Int)),(8,.int .u32 0)]) ⟨rfl,rfl,rfl,rfl,rfl,trivial⟩ ?_;refine .rg rfl rfl ?_;refine .m ?_;refine .i ?_ (z:=lss_f (by omega));refine .dn (.ff rfl (.sp (.sq (.sq (.rg rfl rfl ?_)))));refine .m ?_;refine .i ?_ (z:=neq_f (by omega));refine .m ?_;refine .sk ?_;refine .sk ?_;refine .x .pk ?_;refine .m ?_;refine .sk ?_;refine .sk ?_;refine .sk ?_;refine .sk ?_;refine .x .pk ?_;refine .dn (.ff rfl (.sp (.sq (.sq ?_))));refine Sc.drop (R':= [(0,.pointer (some ⟨X.Wg,0,none⟩)),(1,.int .i64 1),(4,.bool false),(7,.int .i32 ((a+1:Nat):Int)),(8,.int .u32 0)]) ⟨rfl,rfl,rfl,rfl,rfl,trivial⟩ ?_;refine .rg rfl rfl ?_;refine .m ?_;refine .i ?_ (z:=gtr_t (by omega));refine .m ?_;refine .sk ?_;refine .sk ?_;refine .x .pk ?_;refine .dn (.tt rfl ?_);refine Sc.retCode Jm.cl rfl (Jm.ke e165 rfl (fun k' _=> Sb.leave Jm.cl func103 rfl (.inl ⟨results103,rfl⟩) (hK _ _ ⟨rfl,k',rfl⟩)))
end
section
variable {X:Fk}{H:View}{Fin:Goroutine→Prop}{j:Nat}{cc:Frame}{cs:List Frame}
noncomputable def B165:Code:=cB (cB (cR (bodyOf Tryz.f107)))
abbrev b107:FB:=⟨107,.normal,none⟩
attribute [local irreducible] IntKind.wrap bitI Int.fdiv in
theorem wait_head(hc:Cl prog true noSh Fin)(hK:Fin (G (cc.finish (.tuple #[])) cs))(k:Nat):∀R:Rg,AllIn [(0,.pointer (some ⟨X.Wg,0,none⟩))] R→Sc (Jm prog X Fin k .w1 j H) 84 b107 (cc::cs) R [] [.code B165,.inLoop B165,.inBlock 0]:=by
 induction k using Nat.strongRecOn with
 | ind k IH=>
   intro R hR;refine Sc.drop hR ?_;have hsh:=shp_wg X;have hsh1:=shp_wg1 X;refine Sc.block (by first|exact Jm.cl|exact hc) ?_;refine Sc.seq (by first|exact Jm.cl|exact hc) ?_;refine .rg rfl rfl ?_;refine .m ?_;refine .x .nk ?_;refine .x (.fa (zz:=fo_156_1)) ?_;refine So.callD rfl rfl rfl nofun rfl (.mk' rfl) rfl (load64 Jm.cl km (Jm.w1 e211)) ?_;rintro v J' ⟨k1,t,hk1,⟨a,ha,rfl,rfl⟩,rfl⟩;have e0:((a*4294967296:Nat):Int)=((a*4294967296+0:Nat):Int):=(congrArg (fun x:Nat=> (x:Int)) (Nat.add_zero _)).symm;have g1:intBin .and .u64 ((a*4294967296:Nat):Int) 2147483648=some (.int .u64 0):=by rw[e0,←g64_hi a (by omega) 0 (by omega)];rfl
   have g2:intBin .and .u64 ((a*4294967296:Nat):Int) 2147483647=some (.int .u64 0):=by
     have:=g64_lo a (by omega) 0 (by omega);rw[e0];exact congrArg (fun x=> some (Value.int .u64 x)) this
   have g3:shiftV .shr .u64 ((a*4294967296:Nat):Int) 32=some (.int .u64 (a:Int)):=by rw[e0,←g64_sh a (by omega) 0 (by omega)];rfl
   have g4:=w32_s a (by omega);have g5:IntKind.u32.wrap 0=0:=wu32_s 0 (by omega);have g6:intBin .add .u64 ((a*4294967296:Nat):Int) 1=some (.int .u64 ((a*4294967296+1:Nat):Int)):=by
     have h:∀a:Nat,a<8→IntKind.u64.wrap (((a*4294967296:Nat):Int)+1)=((a*4294967296+1:Nat):Int):=by decide +kernel
     exact congrArg (fun x=> some (Value.int .u64 x)) (h a (by omega))
   refine .g ?_;refine .dn ?_;refine Sc.drop (R':= [(0,.pointer (some ⟨X.Wg,0,none⟩)),(2,.int .u64 ((a*4294967296:Nat):Int))]) ⟨rfl,rfl,trivial⟩ ?_;refine Sc.seq (by first|exact Jm.cl|exact hc) ?_;refine .rg rfl rfl ?_;refine .m ?_;refine .x (OpP.shift rfl rfl rfl (by omega) (by assumption)) ?_;refine .x (OpP.conv rfl rfl un_151 un_21 (by assumption)) ?_;refine .g ?_;refine .dn ?_;refine Sc.drop (R':= [(0,.pointer (some ⟨X.Wg,0,none⟩)),(2,.int .u64 ((a*4294967296:Nat):Int)),(3,.int .i32 (a:Int))]) ⟨rfl,rfl,rfl,trivial⟩ ?_;refine Sc.seq (by first|exact Jm.cl|exact hc) ?_;refine .rg rfl rfl ?_;refine .m ?_;refine .i ?_ (z:=by assumption);refine .x (OpP.conv rfl rfl un_151 un_154 (by assumption)) ?_;refine .g ?_;refine .dn ?_;refine Sc.drop (R':= [(0,.pointer (some ⟨X.Wg,0,none⟩)),(2,.int .u64 ((a*4294967296:Nat):Int)),(3,.int .i32 (a:Int)),(4,.int .u32 0)]) ⟨rfl,rfl,rfl,rfl,trivial⟩ ?_;refine Sc.seq (by first|exact Jm.cl|exact hc) ?_;refine Sc.seq (by first|exact Jm.cl|exact hc) ?_;by_cases hz:a=0
   · rw[if_pos hz];have q1:intBin .eql .i32 (a:Int) 0=some (.bool true):=eql_t (by omega);refine .rg rfl rfl ?_;refine .m ?_;refine .i ?_ (z:=by assumption);refine .dn ?_;refine Sc.cond (by first|exact Jm.cl|exact hc) (t:=true) rfl (fun _=> ?_) (fun h=> nomatch h);refine Sc.seq (by first|exact Jm.cl|exact hc) ?_;refine Sc.cond (by first|exact Jm.cl|exact hc) (t:=true) rfl (fun _=> ?_) (fun h=> nomatch h);refine Sc.seq (by first|exact Jm.cl|exact hc) ?_;refine .rg rfl rfl ?_;refine So.callD rfl rfl rfl nofun rfl (.mk' rfl) rfl (Jm.we e165) ?_;rintro v J' ⟨k2,t,hk2,⟨rfl,rfl⟩,rfl⟩;refine .dn (.rg rfl rfl ?_);refine .m ?_;refine .x (OpP.raw rfl rfl un_201 un_203 sz_156 (by assumption)) ?_;refine So.callD rfl rfl rfl nofun rfl (.mk' rfl) rfl (Jm.aq e176) ?_;rintro v J' ⟨rfl,rfl⟩;refine .dn (.sq (.sq (.rg rfl rfl ?_)));refine .m ?_;refine .i ?_ (z:=eql_t (by omega));refine .m ?_;refine .m ?_;refine .i ?_ (z:=by assumption);refine .i ?_ (z:=neq_f (by omega));refine .x .pk ?_;refine .m ?_;refine .sk ?_;refine .sk ?_;refine .x .pk ?_;refine .dn (.ff rfl (.sp ?_));refine Sc.retCode (by exact hc) rfl (Sb.leave (by exact hc) func107 rfl (by exact .inl ⟨results107,rfl⟩) ?_);exact hK
   · rw[if_neg hz];have q1:intBin .eql .i32 (a:Int) 0=some (.bool false):=eql_f (by omega);refine .rg rfl rfl ?_;refine .m ?_;refine .i ?_ (z:=by assumption);refine .dn ?_;refine Sc.cond (by first|exact Jm.cl|exact hc) (t:=false) rfl (fun h=> nomatch h) (fun _=> ?_);refine Sc.skip (by first|exact Jm.cl|exact hc) ?_;refine Sc.seq (by first|exact Jm.cl|exact hc) ?_;refine .rg rfl rfl ?_;refine .m ?_;refine .x .nk ?_;refine .x (.fa (zz:=fo_156_1)) ?_;refine .m ?_;refine .m ?_;refine .i ?_ (z:=by assumption);refine So.callD rfl rfl rfl nofun rfl (.mk' rfl) rfl (cas64 Jm.cl km (Jm.w2 e213)) ?_;rintro v J' ⟨k2,t,hk2,⟨rfl,rfl⟩|⟨rfl,rfl⟩,rfl⟩
     · refine .dn ?_;refine Sc.cond (by first|exact Jm.cl|exact hc) (t:=true) rfl (fun _=> ?_) (fun h=> nomatch h);refine Sc.seq (by first|exact Jm.cl|exact hc) ?_;refine Sc.seq (by first|exact Jm.cl|exact hc) ?_;refine Sc.drop (R':= [(0,.pointer (some ⟨X.Wg,0,none⟩)),(2,.int .u64 ((a*4294967296:Nat):Int)),(4,.int .u32 0)]) ⟨rfl,rfl,rfl,trivial⟩ ?_;refine .rg rfl rfl ?_;refine .m ?_;refine .m ?_;refine .i ?_ (z:=eql_t (by omega));refine .x .pk ?_;refine .dn ?_;refine Sc.cond (by first|exact Jm.cl|exact hc) (t:=true) rfl (fun _=> ?_) (fun h=> nomatch h);refine .rg rfl rfl ?_;refine .m ?_;refine .x .nk ?_;refine .x (.fa (zz:=fo_156_2)) ?_;refine .x (OpP.raw rfl rfl un_208 un_203 sz_154 (by assumption)) ?_;refine So.callD rfl rfl rfl nofun rfl (.mk' rfl) rfl (Jm.wm e179) ?_;rintro v J' ⟨rfl,k3,hk3,rfl⟩;refine .dn ?_;refine Sc.drop (R':= [(0,.pointer (some ⟨X.Wg,0,none⟩)),(2,.int .u64 ((a*4294967296:Nat):Int)),(4,.int .u32 0)]) ⟨rfl,rfl,rfl,trivial⟩ ?_;refine Sc.seq (by first|exact Jm.cl|exact hc) ?_;refine .rg rfl rfl ?_;refine .g ?_;refine .dn ?_;refine Sc.seq (by first|exact Jm.cl|exact hc) ?_;refine Sc.seq (by first|exact Jm.cl|exact hc) ?_;refine .rg rfl rfl ?_;refine .m ?_;refine .i ?_ (z:=by assumption);refine .i ?_ (z:=neq_f (by omega));refine .m ?_;refine .sk ?_;refine .x .pk ?_;refine .dn ?_;refine Sc.cond (by first|exact Jm.cl|exact hc) (t:=false) rfl (fun h=> nomatch h) (fun _=> ?_);refine Sc.skip (by first|exact Jm.cl|exact hc) ?_;refine Sc.seq (by first|exact Jm.cl|exact hc) ?_;refine .rg rfl rfl ?_;refine .m ?_;refine .x .nk ?_;refine .x (.fa (zz:=fo_156_2)) ?_;refine .m ?_;refine So.callD rfl rfl rfl nofun rfl (.mk' rfl) rfl (Jm.ws (vs:= [.pointer (some ⟨X.Wg,1,none⟩),.bool false]) e180 rfl) ?_;rintro v J' ⟨k4,t,hk4,⟨rfl,rfl⟩,rfl⟩;refine .dn ?_;refine Sc.drop (R':= [(0,.pointer (some ⟨X.Wg,0,none⟩))]) ⟨rfl,trivial⟩ ?_;refine Sc.seq (by first|exact Jm.cl|exact hc) ?_;refine .rg rfl rfl ?_;refine .m ?_;refine .x .nk ?_;refine .x (.fa (zz:=fo_156_1)) ?_;refine So.callD rfl rfl rfl nofun rfl (.mk' rfl) rfl (load64 Jm.cl km (Jm.w4 e211)) ?_;rintro v J' ⟨k5,t,hk5,⟨rfl,rfl⟩,rfl⟩;refine .i ?_ (z:=neq_f (by omega));refine .g ?_;refine .dn ?_;refine Sc.seq (by first|exact Jm.cl|exact hc) ?_;refine Sc.cond (by first|exact Jm.cl|exact hc) (t:=true) rfl (fun _=> ?_) (fun h=> nomatch h);refine Sc.seq (by first|exact Jm.cl|exact hc) ?_;refine .rg rfl rfl ?_;refine So.callD rfl rfl rfl nofun rfl (.mk' rfl) rfl (Jm.we e165) ?_;rintro v J' ⟨k6,t,hk6,⟨rfl,rfl⟩,rfl⟩;refine .dn (.rg rfl rfl ?_);refine .m ?_;refine .x (OpP.raw rfl rfl un_201 un_203 sz_156 (by assumption)) ?_;refine So.callD rfl rfl rfl nofun rfl (.mk' rfl) rfl (Jm.aq e176) ?_;rintro v J' ⟨rfl,rfl⟩;refine .dn (.sq (.sq (.rg rfl rfl ?_)));refine .m ?_;refine .dn (.ff rfl (.sp ?_));refine Sc.retCode (by exact hc) rfl (Sb.leave (by exact hc) func107 rfl (by exact .inl ⟨results107,rfl⟩) ?_);exact hK
     · refine .dn ?_;refine Sc.cond (by first|exact Jm.cl|exact hc) (t:=false) rfl (fun h=> nomatch h) (fun _=> ?_);refine Sc.skip (by first|exact Jm.cl|exact hc) ?_;refine Sc.inBlock (by first|exact Jm.cl|exact hc) ?_;refine Sc.inLoop (by exact Jm.cl) ?_;exact IH k2 (by omega) _ ⟨rfl,trivial⟩
theorem wait_c {k:Nat}(hc:Cl prog true noSh Fin):AtC (Jm prog X Fin k .wd j H) 107 [.pointer (some ⟨X.Wg,0,none⟩)] fun v J'=> v=.tuple #[]∧J'=Fin:=by
 refine InC.at (by exact Jm.cl) ca107 (InC.enter (vs:= [.pointer (some ⟨X.Wg,0,none⟩)]) func107 rfl ntmps107 (Nat.le_of_ble_eq_true rfl) fun c cs hK=> ?_);refine Sc.seq (by first|exact Jm.cl|exact hc) ?_;refine Sc.cond (by first|exact Jm.cl|exact hc) (t:=true) rfl (fun _=> ?_) (fun h=> nomatch h);refine .rg rfl rfl ?_;refine So.callD rfl rfl rfl nofun rfl (.mk' rfl) rfl (Jm.wd e164) ?_;rintro v J' ⟨k2,t,hk2,⟨rfl,rfl⟩,rfl⟩;refine .dn ?_;refine Sc.block (by first|exact Jm.cl|exact hc) ?_;refine Sc.loop (by exact Jm.cl) ?_;exact wait_head hc (hK _ _ ⟨rfl,rfl⟩) k2 _ ⟨rfl,trivial⟩
end
end Go.Proofs.YtdnfdeplcjaonaaGreatDoor
