/-
  Texts of the proofs over baudot/dial: S7 C2 C3 C4 C5 App2 C6 C7 Draw5 C8 S8 K1 K2 K3 K4 K5.
-/
import Derived.Test.YtdnfdeplcjaonaaGreatDoorH05
namespace Go.Proofs.YtdnfdeplcjaonaaGreatDoor
open Go.RL Go.Proofs.Tryz
set_option maxRecDepth 10000
set_option maxHeartbeats 8000000
section
variable(M:Md prog)(H:View)
theorem pdqI_c(sb:Nat)(l:List Int)(jj:List Value)(n cap:Nat)(lim:Int)(hn:n=l.length)(h12:n≤12)(hS:H sb=some (true,.cells ⟨(intsL l)++jj⟩ 3 (0,0))):
   CallT M 192 #[.slice (some ⟨sb,0,none⟩) n cap,.int .i64 0,.int .i64 (n:Nat),.int .i64 lim] H (SortIQ H sb jj (fun v m=> v=.tuple ⟨[]⟩∧Turned 0 n l m∧Srt 0 n m)):=by
 refine CallT.enter (vs:= [.slice (some ⟨sb,0,none⟩) n cap,.int .i64 0,.int .i64 (n:Nat),.int .i64 lim]) func192 rfl ntmps192 (Nat.le_of_ble_eq_true rfl) (SymSt.pull hS) fun St c cs hK=> ?_;refine U7 ?_;refine .done (.block (.loop (.block (.sr ?_))));refine U17 ?_;refine .e (Or.sortsI (l:=l) 0 (fun v m=> v=.tuple ⟨[]⟩∧Turned 0 n l m∧Srt 0 n m) rfl rfl rfl rfl rfl (by decide) rfl (fun H hs=> .h (insertionI_c M H sb l jj n cap 0 n hn (by omega) (by omega) (by omega) (hs.get (i:=0) rfl))) (fun v m hm=> ?_));refine U ?_;obtain⟨rfl,ht,hs0⟩:=hm;refine .rt hK func192 results192 [] ?_;exact fun H' hs=> SortIQ.of hs (i:=0) rfl ⟨rfl,ht,hs0⟩
theorem SortI_c(sb:Nat)(l:List Int)(jj:List Value)(n cap:Nat)(hn:n=l.length)(h12:n≤12)(hS:H sb=some (true,.cells ⟨(intsL l)++jj⟩ 3 (0,0))):
   CallT M 131 #[.slice (some ⟨sb,0,none⟩) n cap] H (SortIQ H sb jj (fun v m=> v=.tuple ⟨[]⟩∧Turned 0 n l m∧Srt 0 n m)):=by
 have hw:=u64_12 n (by omega);refine CallT.enter (vs:= [.slice (some ⟨sb,0,none⟩) n cap]) func131 rfl ntmps131 (Nat.le_of_ble_eq_true rfl) (SymSt.pull hS) fun St c cs hK=> ?_;refine U11 ?_;refine .c rfl rfl rfl rfl (fun H hs=> .h (Len_c M H n (by omega))) ?_;refine .e (Or.sortsI (l:=l) 0 (fun v m=> v=.tuple ⟨[]⟩∧Turned 0 n l m∧Srt 0 n m) rfl rfl rfl rfl rfl (by decide) rfl (fun H hs=> .h (pdqI_c M H sb l jj n cap (bl n:Nat) hn h12 (hs.get (i:=0) rfl))) (fun v m hm=> ?_));refine U ?_;obtain⟨rfl,ht,hs0⟩:=hm;refine .ov hK func131 results131 [] ?_;exact fun H' hs=> SortIQ.of hs (i:=0) rfl ⟨rfl,ht,hs0⟩
theorem insertionI_nil(c0:Nat):CallT M 223 #[.slice none 0 c0,.int .i64 0,.int .i64 ((0:Nat):Int)] H (fun v H'=> H.le H'∧v=.tuple ⟨[]⟩):=by
 refine .en func223 ntmps223 fun St c cs hK=> ?_;refine U5 ?_;refine .done (.block (.loop (.seq (.sr ?_))));refine U6 ?_;refine .ov hK func223 results223 [] ?_;exact okB
theorem pdqI_nil(c0:Nat)(lim:Int):CallT M 192 #[.slice none 0 c0,.int .i64 0,.int .i64 ((0:Nat):Int),.int .i64 lim] H (fun v H'=> H.le H'∧v=.tuple ⟨[]⟩):=by
 refine .en func192 ntmps192 fun St c cs hK=> ?_;refine U7 ?_;refine .done (.block (.loop (.block (.sr ?_))));refine U17 ?_;refine .c rfl rfl rfl rfl (fun H hs=> .h (insertionI_nil M H c0)) ?_;refine U ?_;refine .rt hK func192 results192 [] ?_;exact okB
theorem SortI_nil(c0:Nat):CallT M 131 #[.slice none 0 c0] H (fun v H'=> H.le H'∧v=.tuple ⟨[]⟩):=by
 have hw:=u64_12 0 (by omega);refine .en func131 ntmps131 fun St c cs hK=> ?_;refine U11 ?_;refine .c rfl rfl rfl rfl (fun H hs=> .h (Len_c M H 0 (by omega))) ?_;refine .c rfl rfl rfl rfl (fun H hs=> .h (pdqI_nil M H c0 (bl 0:Nat))) ?_;refine U ?_;refine .ov hK func131 results131 [] ?_;exact okB
theorem CompactI_nil(c0:Nat):CallT M 132 #[.slice none 0 c0] H (fun v H'=> H.le H'∧v=.slice none 0 c0):=by
 refine .en func132 ntmps132 fun St c cs hK=> ?_;refine U17 ?_;refine .rt hK func132 results132 [_] ?_;exact okB
end
def Gl.withI(g:Gl 3 1)(m:List Value)(h:m.length=g.n):Gl 3 1:=⟨g.blk,g.n,g.cap,m,g.junk,by rw[h,Nat.mul_one],g.hc,g.hj,g.h0⟩
theorem Or.sortIGl {M:Md prog}{n:Nat}{H₀:View}{R:Rg}{L1:Bl}{o:Oper}{K:Rg→Bl→Prop}{cl:Go.Call}{x:Operand}{fv:Value}{d:Nat}(g:Gl 3 1)(u:List Int)(hg:g.l=(intsL u))(h12:g.n≤12)
   (hop:o.op=.call cl) (hcl:cl.callee=.value x) (hx:evR R x=some fv) (has:evRs R cl.args.toList=some [g.val]) (hd:o.dst=some d) (hn:d<n)
   (hc:∀(H:View) (Q:Value→View→Prop),CallT M 131 #[g.val] H Q→FnT M fv [g.val] H Q)
   (hK:∀(g':Gl 3 1) (m:List Int),g'.val=g.val→g'.n=g.n→g'.blk=g.blk→g'.l=(intsL m)→Turned 0 g.n u m→Srt 0 g.n m→K ((d,.tuple ⟨[]⟩)::R) (L1++g'.bl)):Or M n H₀ R (L1++g.bl) o K:=by
 have hul:u.length=g.n:=by have:=g.hl;rw[hg,intsL_len] at this;omega
 cases hb:g.blk with
 | none=>
   have hcap:=g.h0 hb;have hgc:=g.hc;have h0:g.n=0:=by omega
   have hbl:g.bl= []:=by unfold Gl.bl;rw[hb]
   have hv:g.val=.slice none 0 g.cap:=by unfold Gl.val;rw[hb,h0];rfl
   refine Or.callNew (fun _:Unit=> .tuple ⟨[]⟩) (fun _=> []) (fun _=> True) hop hcl hx has hd hn (fun _=> by simp) (fun H hs=> hc H _ ?_) (fun _ _=> ?_)
   · rw[hv];exact CallT.mono (SortI_nil M H g.cap) (fun v H' ⟨h1,h2⟩=> ⟨h1,(),h2,trivial,by simp⟩)
   · rw[List.append_nil];exact hK g u rfl rfl rfl hg (Turned.refl _ _ _) (fun p q h1 h2 h3=> by omega)
 | some b=>
   have hbl:g.bl= [(b,true,.cells ⟨(intsL u)++g.junk⟩ 3 (0,0))]:=by unfold Gl.bl;rw[hb,hg]
   have hv:g.val=.slice (some ⟨b,0,none⟩) g.n g.cap:=by unfold Gl.val;rw[hb];rfl
   rw[hbl];refine Or.sortsI (l:=u) L1.length (fun v m=> v=.tuple ⟨[]⟩∧Turned 0 g.n u m∧Srt 0 g.n m) hop hcl hx has hd hn (by rw[List.getElem?_append_right (Nat.le_refl _),Nat.sub_self];rfl)
     (fun H hs=> hc H _ ?_) (fun v m ⟨h1,h2,h3⟩=> ?_)
   · rw[hv];exact SortI_c M H b u g.junk g.n g.cap hul.symm h12 (hs.get (i:=L1.length) (by rw[List.getElem?_append_right (Nat.le_refl _),Nat.sub_self];rfl))
   · subst h1;have hml:m.length=g.n:=by rw[h2.len];exact hul
     have:=hK (Gl.withI g (intsL m) (by rw[intsL_len];exact hml)) m rfl rfl rfl rfl h2 h3;have hbl':(Gl.withI g (intsL m) (by rw[intsL_len];exact hml)).bl= [(b,true,.cells ⟨(intsL m)++g.junk⟩ 3 (0,0))]:=by
       unfold Gl.bl Gl.withI;simp only[hb]
     rw[hbl'] at this;rw[List.set_append_right _ _ (Nat.le_refl _),Nat.sub_self];exact this
theorem Or.compIGl {M:Md prog}{n:Nat}{H₀:View}{R:Rg}{L1:Bl}{o:Oper}{K:Rg→Bl→Prop}{cl:Go.Call}{x:Operand}{fv:Value}{d:Nat}(g:Gl 3 1)(u:List Int)(hg:g.l=(intsL u))(h12:g.n≤1000000)
   (hop:o.op=.call cl) (hcl:cl.callee=.value x) (hx:evR R x=some fv) (has:evRs R cl.args.toList=some [g.val]) (hd:o.dst=some d) (hn:d<n)
   (hc:∀(H:View) (Q:Value→View→Prop),CallT M 132 #[g.val] H Q→FnT M fv [g.val] H Q)
   (hK:∀(g':Gl 3 1),g'.n=(ddTo u g.n).length→g'.l=(intsL (ddTo u g.n))→K ((d,g'.val)::R) (L1++g'.bl)):Or M n H₀ R (L1++g.bl) o K:=by
 have hul:u.length=g.n:=by have:=g.hl;rw[hg,intsL_len] at this;omega
 cases hb:g.blk with
 | none=>
   have hcap:=g.h0 hb;have hgc:=g.hc;have h0:g.n=0:=by omega
   have hbl:g.bl= []:=by unfold Gl.bl;rw[hb]
   have hv:g.val=.slice none 0 g.cap:=by unfold Gl.val;rw[hb,h0];rfl
   have hu0:u= []:=List.eq_nil_of_length_eq_zero (by omega);refine Or.callNew (fun _:Unit=> g.val) (fun _=> []) (fun _=> True) hop hcl hx has hd hn (fun _=> by simp) (fun H hs=> hc H _ ?_) (fun _ _=> ?_)
   · rw[hv];exact CallT.mono (CompactI_nil M H g.cap) (fun v H' ⟨h1,h2⟩=> ⟨h1,(),h2,trivial,by simp⟩)
   · rw[List.append_nil];refine hK g (by rw[h0];rfl) ?_;rw[hg,hu0,h0];rfl
 | some b=>
   have hbl:g.bl= [(b,true,.cells ⟨(intsL u)++g.junk⟩ 3 (0,0))]:=by unfold Gl.bl;rw[hb,hg]
   have hv:g.val=.slice (some ⟨b,0,none⟩) g.n g.cap:=by unfold Gl.val;rw[hb];rfl
   rw[hbl];have hi:(L1++[(b,true,Obj.cells ⟨(intsL u)++g.junk⟩ 3 (0,0))])[L1.length]? =some (b,true,Obj.cells ⟨(intsL u)++g.junk⟩ 3 (0,0)):=by rw[List.getElem?_append_right (Nat.le_refl _),Nat.sub_self];rfl
   refine .callV hop hcl hx has (Q:=fun H v H'=> CompIQ H b u g.junk g.n g.cap v H') (fun H hs=> hc H _ ?_) (fun H v H' hs hq=> ?_)
   · rw[hv];exact CompactI_c M H b u g.junk g.n g.cap hul.symm h12 g.hc (hs.get hi)
   · obtain⟨h1,rest,h2,h3,h4⟩:=hq;subst h2;have hle:=ddTo_le u g.n;have hgc:=g.hc;have hgj:=g.hj;refine⟨L1++[(b,true,.cells ⟨(intsL (ddTo u g.n))++rest⟩ 3 (0,0))],_,?_,by rw[hd];exact⟨hn,rfl⟩,?_⟩
     · have:=SymSt_turn hs hi h1 h4;rw[List.set_append_right _ _ (Nat.le_refl _),Nat.sub_self] at this;exact this
     · have:=hK ⟨some b,(ddTo u g.n).length,g.cap,(intsL (ddTo u g.n)),rest,by rw[intsL_len,Nat.mul_one],by omega,by omega,fun h=> by cases h⟩ rfl rfl;exact this
set_option maxHeartbeats 16000000
def Bk.hit(k:Bk)(line:Nat)(s:List UInt8):Option Int:=match k.line s with
 | some j=> if j=line then none else some (j:Nat)
 | none=> none
def Bk.hits(k:Bk)(line:Nat):List Int:=(slipsL (k.num line)).filterMap (k.hit line)
def slipsV(g:Gl 3 1)(a:Int):Value:=.tuple ⟨[g.val,.int .i64 a]⟩
theorem Bk.isNum_of {k:Bk}(ha:k.alarm=0){i:Nat}(hi:i<k.nl):(k.num i).all dig=true∧1≤(k.num i).length∧(k.num i).length≤3:=by
 obtain⟨_,_,h,_⟩:=Bk.line_ok ha hi;unfold isNum at h;simp only[Bool.and_eq_true,decide_eq_true_eq] at h;exact⟨h.2,h.1.1,h.1.2⟩
theorem slipsFrom_len(s:List UInt8):∀m i,s.length-i=m→(slipsFrom s i).length≤2*m
 | 0,i,h=> by rw[slipsFrom_nil (by omega)];exact Nat.le_refl _
 | m + 1,i,h=> by
   rw[slipsFrom_cons (by omega),List.length_append];have h1:=slipsFrom_len s m (i+1) (by omega);have h2:(slipsAt s i).length≤2:=by
     unfold slipsAt slipAt;rw[List.length_append];split <;> split <;> simp
   omega
theorem Bk.hits_len {k:Bk}(ha:k.alarm=0){i:Nat}(hi:i<k.nl):(k.hits i).length≤6:=by
 obtain⟨_,_,h⟩:=Bk.isNum_of ha hi;have h1:=slipsFrom_len (k.num i) _ 0 rfl;have h2:(k.hits i).length≤(slipsL (k.num i)).length:=List.length_filterMap_le _ _;unfold slipsL at h2;omega
section
variable(M:Md prog)(H:View)
theorem Slips_c(k:Bk)(A:Option Addr)(lc:Nat)(B:Option Addr)(tc:Nat)(hk:BkAt H k A lc B tc)(hn:k.small)(hG:Glob H)(ha:k.alarm=0)(line:Nat)(hl:line<k.nl):
   CallT M 58 #[k.val A lc B tc,.int .i64 (line:Nat)] H (fun v H'=> H.le H'∧∃(g:Gl 3 1) (m:List Int),v=slipsV g 0∧(Turned 0 (k.hits line).length (k.hits line) m∧Srt 0 (k.hits line).length m)∧(g.n=(ddTo m m.length).length∧g.l=intsL (ddTo m m.length))∧∀x∈g.bl,H' x.1=some x.2∧H x.1=none):=by
 obtain⟨hdg,hl1,hl3⟩:=Bk.isNum_of ha hl;have hnl:=hn.nl;have hhl:=Bk.hits_len ha hl;have hb:=fun(H':View)=> between_is M H' ((line:Nat):Int) 0 ((k.nl:Int)-1) true (decide_eq_true (by omega));have hop:=fun(H':View) (h':H.le H')=> open_yes M H' k A lc B tc (hk.le h') hn (glob_le hG h') ha;have hRows:=hk.rows;obtain⟨_,h0|⟨ab,ao,fa,gs,gt,gz,rfl,hab,hrow⟩⟩:=hRows
 · omega
 obtain⟨F,fc,f1,_,_⟩:=hrow line hl;have f2:ldL false 1 gs (ao+((line:Nat):Int).toNat*3+1)=some (strV (k.num line)):=ldL_cell f1 (by decide);refine .en func58 ntmps58 fun St c cs hK=> ?_;refine U2 ?_;refine .bo fun b2=> ?_;refine .bo fun b3=> ?_;refine U4 ?_;refine Tc.dr [12] [] mixed rfl ?_;refine .nn 0 ?_;refine .nn 1 ?_;refine .nn 2 ?_;refine .nn 3 ?_;refine .nn 4 ?_;refine .nn 5 ?_;refine .z 6 rfl (OpV.takeCall rfl rfl rfl rfl (fun H hs=> .h (hb H))) ?_;refine .z 7 rfl (OpV.takeCall rfl rfl rfl rfl (fun H hs=> .h (hop H hs.base))) ?_;refine .nn 8 ?_;refine .nn 9 ?_;refine .nw 10 ?_;refine Ta.each [11] (by kernel_rfl) rfl ⟨TaOp.mk rfl rfl rfl (.al (zz:=fun b6=> ⟨S2.mk (by apply List.Sublist.cons;exact List.Sublist.refl _) (.inr (by apply List.Sublist.cons;exact List.Sublist.refl _)),?_⟩)),trivial⟩;refine .e 12 0 ?_;refine .nw 13 ?_;refine .dn ?_;refine U10 ?_;refine .al fun b8=> ?_;refine U10 ?_;refine To.callF rfl rfl rfl rfl rfl rfl (by decide) (FnT.h (slips_c M H (k.num line))) (fun v H₁ hv=> ?_);obtain⟨hle1,sb,rfl,hcap⟩:=hv;refine U ?_;have hit:=fun(H':View) (hc:CapS (k.num line) sb H')=> slips_it M H' (k.num line) hdg (by omega) sb hc;refine U ?_;refine Tc.db (R':= [(2,.pointer (some ⟨b2,0,none⟩)),(3,.pointer (some ⟨b3,0,none⟩)),(6,.pointer (some ⟨b6,0,none⟩)),(8,.pointer (some ⟨b8,0,none⟩)),(31,slipF sb)]) (L':= [(b8,true,.cells ⟨[(Gl.nil 3 1).val]⟩ 26 (0,0)),(b6,true,.cells ⟨(k.val (some ⟨ab,ao,none⟩) lc B tc).cells.toList⟩ 113 (0,0)),(b3,true,.cells ⟨[.int .i64 (line:Nat)]⟩ 3 (0,0)),(b2,true,.cells ⟨(k.val (some ⟨ab,ao,none⟩) lc B tc).cells.toList⟩ 25 (0,0))]) ?_;refine Tc.rangeL (A:= []) (ts:= [32]) (xs:=slipsL (k.num line)) (fun rest H₄ L₄=> ∃(g:Gl 3 1) (dn:List Int),L₄= [(b8,true,.cells ⟨[g.val]⟩ 26 (0,0)),(b6,true,.cells ⟨(k.val (some ⟨ab,ao,none⟩) lc B tc).cells.toList⟩ 113 (0,0)),(b3,true,.cells ⟨[.int .i64 (line:Nat)]⟩ 3 (0,0)),(b2,true,.cells ⟨(k.val (some ⟨ab,ao,none⟩) lc B tc).cells.toList⟩ 25 (0,0))]++g.bl
     ∧g.l=intsL dn∧dn++rest.filterMap (k.hit line)=k.hits line∧CapS (k.num line) sb H₄∧H₁.le H₄) (fun _ _ _=> False) rfl rfl rfl rfl hit (fun _ _=> CapS.le _ _) (fun _ _ _ ⟨_,_,_,_,_,h,_⟩=> h) rfl (fun _ _=> rfl)
     ⟨Gl.nil 3 1,[],rfl,rfl,rfl,hcap,View.le_refl _⟩ ?_ ?_ (fun _ _ _ _ h=> h.elim)
 · rintro r x rest _ l tmps asg bdy H₄ _ hx ⟨g,dn,rfl,q1,q2,q3,q4⟩ Q St1 cc1 cs1 hK1 q q';have hln:=fun(H':View) (h':H₄.le H')=> line_c M H' k (some ⟨ab,ao,none⟩) lc B tc (hk.rows.le (View.le_trans hle1 (View.le_trans q4 h'))) hn.nl x;have hgn:g.n=dn.length:=by have:=g.hl;rw[q1,intsL_len] at this;omega
   have hdl:dn.length≤6:=by
     have:=congrArg List.length q2;rw[List.length_append] at this;omega
   cases hlx:k.line x with
   | none=>
     rw[hlx] at hln;have e2:firstI none= -1:=rfl;rw[e2] at hln;have e3:k.hit line x=none:=by unfold Bk.hit;rw[hlx]
     rw[List.filterMap_cons_none e3] at q2;refine U3 ?_;refine Tc.beginRound (i:=0) rfl rfl rfl ?_;refine U5 ?_;refine .c rfl rfl rfl rfl (fun H hs=> .h (hln H hs.base)) ?_;refine U15 ?_;refine Tc.leaveRound hK1 (i:=0) rfl (.inl ⟨rfl,rfl⟩) (fun H' hs=> q H' H₄ _ hs ⟨g,dn,rfl,q1,q2,q3,q4⟩)
   | some j=>
     rw[hlx] at hln;have e2:firstI (some j)=(j:Nat):=rfl;rw[e2] at hln;by_cases c1:j=line
     · have e3:k.hit line x=none:=by unfold Bk.hit;rw[hlx];exact if_pos c1
       rw[List.filterMap_cons_none e3] at q2;refine U3 ?_;refine Tc.beginRound (i:=0) rfl rfl rfl ?_;refine U5 ?_;refine .c rfl rfl rfl rfl (fun H hs=> .h (hln H hs.base)) ?_;refine U15 ?_;refine Tc.leaveRound hK1 (i:=0) rfl (.inl ⟨rfl,rfl⟩) (fun H' hs=> q H' H₄ _ hs ⟨g,dn,rfl,q1,q2,q3,q4⟩)
     · have e3:k.hit line x=some (j:Nat):=by unfold Bk.hit;rw[hlx];exact if_neg c1
       rw[List.filterMap_cons_some e3] at q2;refine U3 ?_;refine Tc.beginRound (i:=0) rfl rfl rfl ?_;refine U5 ?_;refine .c rfl rfl rfl rfl (fun H hs=> .h (hln H hs.base)) ?_;refine U16 ?_;refine .e (.bs (zz:=fun bs=> ?_));refine .e (Or.append (E:=en) 7 rfl rfl rfl rfl rfl rfl rfl rfl rfl rfl rfl rfl rfl rfl rfl (fun H hs=> SrcAt.of (hs.get (i:=0) rfl) (Nat.le_of_ble_eq_true rfl)) rfl (by omega) rfl (by decide) (fun g' hn2 hl2=> ?_));refine U3 ?_;refine Tc.leaveRound hK1 (i:=1) rfl (.inl ⟨rfl,rfl⟩) (fun H' hs=> q H' H₄ _ (hs.less (by apply List.Sublist.cons;exact List.Sublist.refl _)) ⟨g',dn++[((j:Nat):Int)],rfl,by rw[hl2,q1];unfold intsL;rw[List.map_append];rfl,by rw[List.append_assoc];exact q2,q3,q4⟩)
 · rintro r H₄ _ ⟨g,dn,rfl,q1,q2,q3,q4⟩;have q5:dn=k.hits line:=by rw[←q2];simp
   subst q5;have hgn:g.n=(k.hits line).length:=by have:=g.hl;rw[q1,intsL_len] at this;omega
   refine U4 ?_;refine .e (Or.sortIGl (L1:= [(r,true,.deferred (some [])),(b8,true,.cells ⟨[g.val]⟩ 26 (0,0)),(b6,true,.cells ⟨(k.val (some ⟨ab,ao,none⟩) lc B tc).cells.toList⟩ 113 (0,0)),(b3,true,.cells ⟨[.int .i64 (line:Nat)]⟩ 3 (0,0)),(b2,true,.cells ⟨(k.val (some ⟨ab,ao,none⟩) lc B tc).cells.toList⟩ 25 (0,0))]) g (k.hits line) q1 (by omega) rfl rfl rfl rfl rfl (by decide) (fun H Q h=> .h h) (fun g' m hv' hn' hb' hl' ht hs'=> ?_));rw[←hv'];rw[hgn] at ht hs' hn';have hml:m.length=(k.hits line).length:=ht.len;refine U4 ?_;refine .e (Or.compIGl (L1:= [(r,true,.deferred (some [])),(b8,true,.cells ⟨[g'.val]⟩ 26 (0,0)),(b6,true,.cells ⟨(k.val (some ⟨ab,ao,none⟩) lc B tc).cells.toList⟩ 113 (0,0)),(b3,true,.cells ⟨[.int .i64 (line:Nat)]⟩ 3 (0,0)),(b2,true,.cells ⟨(k.val (some ⟨ab,ao,none⟩) lc B tc).cells.toList⟩ 25 (0,0))]) g' m hl' (by omega) rfl rfl rfl rfl rfl (by decide) (fun H Q h=> .h h) (fun g2 hn3 hl3=> ?_));rw[hn',←hml] at hn3 hl3;refine U3 ?_;refine Tc.retD (E:=en) (i:=0) hK func58 results58 (vs:= [_,_]) rfl ⟨rfl,rfl,trivial⟩ ?_;exact fun H' hs=> ⟨View.le_trans hle1 (View.le_trans q4 hs.base),g2,m,rfl,⟨ht,hs'⟩,⟨hn3,hl3⟩,fun x hx=> ⟨hs.at_ x (by simp[hx]),none_le (View.le_trans hle1 q4) (hs.out x (by simp[hx]))⟩⟩
end
def Bk.safe1(k:Bk)(s:List UInt8):Bool:=(slipsL s).all fun x=> (k.line x).isNone
def Bk.safeAt(k:Bk)(s:List UInt8)(i:Nat):Bool:=(slipsL (k.num i)).all fun x=> !begins x s
def Bk.safe(k:Bk)(s:List UInt8):Bool:=k.safe1 s&&allB (k.safeAt s) k.nl
def takenN(s:List UInt8):Nat:=(s.map pn).sum
theorem takenN_le(s:List UInt8)(h:s.all dig=true):takenN s≤10*s.length:=by
 induction s with
 | nil=> exact Nat.le_refl _
 | cons x t ih=>
   rw[List.all_cons,Bool.and_eq_true] at h;have h1:=ih h.2;have h2:=pn_in h.1;unfold takenN at h1 ⊢;rw[List.map_cons,List.sum_cons,List.length_cons];omega
theorem takenN_at {s:List UInt8}{p:Nat}{x:UInt8}(h:s[p]? =some x):takenN (s.take (p+1))=takenN (s.take p)+pn x:=by
 obtain⟨hp,rfl⟩:=List.getElem?_eq_some_iff.1 h;unfold takenN;rw[List.take_succ_eq_append_getElem hp,List.map_append,List.sum_append];rfl
section
variable(M:Md prog)(H:View)
theorem safe_c(k:Bk)(A:Option Addr)(lc:Nat)(B:Option Addr)(tc:Nat)(hk:BkAt H k A lc B tc)(hn:k.small)(ha:k.alarm=0)(s:List UInt8)(hs1:s.all dig=true)(hs2:s.length≤1000):
   CallT M 118 #[k.val A lc B tc,strV s] H (fun v H'=> H.le H'∧v=.bool (k.safe s)):=by
 have hnl:=hn.nl;refine .en func118 ntmps118 fun St c cs hK=> ?_;refine U2 ?_;refine .bo fun b2=> ?_;refine .bo fun b3=> ?_;refine .al fun b4=> ?_;refine U5 ?_;refine To.callF rfl rfl rfl rfl rfl rfl (by decide) (FnT.h (slips_c M H s)) (fun v H₁ hv=> ?_);obtain⟨hle1,sb,rfl,hcap⟩:=hv;refine U ?_;have hit:=fun(H':View) (hc:CapS s sb H')=> slips_it M H' s hs1 hs2 sb hc;refine U ?_;refine Tc.db (R':= [(2,.pointer (some ⟨b2,0,none⟩)),(3,.pointer (some ⟨b3,0,none⟩)),(4,.pointer (some ⟨b4,0,none⟩)),(10,slipF sb)]) (L':= [(b4,true,.cells ⟨[.bool false]⟩ 4 (0,0)),(b3,true,.cells ⟨[strV s]⟩ 9 (0,0)),(b2,true,.cells ⟨(k.val A lc B tc).cells.toList⟩ 113 (0,0))]) ?_;refine Tc.rangeLc (A:= []) (ts:= [11]) (xs:=slipsL s) (fun rest H₄=> k.safe1 s=rest.all (fun x=> (k.line x).isNone)∧CapS s sb H₄∧H₁.le H₄) (fun j H₄=> j=.ret∧k.safe1 s=false∧H₁.le H₄) rfl rfl rfl rfl hit (fun _ _=> CapS.le _ _) (fun _ _ ⟨_,h,_⟩=> h) rfl (fun _ _=> rfl)
     ⟨rfl,hcap,View.le_refl _⟩ ?_ ?_ ?_
 · rintro r x rest _ l tmps asg bdy H₄ _ hx ⟨rfl,q2,q3,q4⟩ Q St1 cc1 cs1 hK1 q q';have hln:=fun(H':View) (h':H₄.le H')=> line_c M H' k A lc B tc (hk.rows.le (View.le_trans hle1 (View.le_trans q4 h'))) hn.nl x;rw[List.all_cons] at q2;cases hlx:k.line x with
   | none=>
     rw[hlx] at hln q2;have e2:firstI none= -1:=rfl;rw[e2] at hln;refine U3 ?_;refine Tc.beginRound (i:=0) rfl rfl rfl ?_;refine U5 ?_;refine .c rfl rfl rfl rfl (fun H hs=> .h (hln H hs.base)) ?_;refine U5 ?_;refine Tc.leaveRound hK1 (i:=0) rfl (.inl ⟨rfl,rfl⟩) (fun H' hs=> q H' H₄ _ hs ⟨rfl,q2,q3,q4⟩)
   | some j=>
     rw[hlx] at hln q2;have e2:firstI (some j)=(j:Nat):=rfl;rw[e2] at hln;refine U3 ?_;refine Tc.beginRound (i:=0) rfl rfl rfl ?_;refine U5 ?_;refine .c rfl rfl rfl rfl (fun H hs=> .h (hln H hs.base)) ?_;refine U7 ?_;refine Tc.leaveRound hK1 (i:=0) rfl (.inr (.inl ⟨_,rfl,rfl⟩)) (fun H' hs=> q' H' H₄ _ _ hs ⟨rfl,rfl,q2,q4⟩)
 · rintro r H₄ ⟨q2,q3,q4⟩;have hle4:=View.le_trans hle1 q4;have q5:k.safe1 s=true:=q2;refine Tc.marked (L:= [(b4,true,.cells ⟨[.bool false]⟩ 4 (0,0)),(b3,true,.cells ⟨[strV s]⟩ 9 (0,0)),(b2,true,.cells ⟨(k.val A lc B tc).cells.toList⟩ 113 (0,0))]) (rs:= []) ?_;refine U11 ?_;refine Tc.db (Tc.loopBD (σ:= { y:View×Nat×List Nat//H.le y.1∧y.2.1≤k.nl∧∀i,i<y.2.1→k.safeAt s i=true })
     (fun y=> (y.1.1,[(2,.pointer (some ⟨b2,0,none⟩)),(3,.pointer (some ⟨b3,0,none⟩)),(4,.pointer (some ⟨b4,0,none⟩)),(18,.slice A k.nl lc),(19,.int .i64 (k.nl:Nat)),(20,.int .i64 (y.1.2.1:Nat))],[(b4,true,.cells ⟨[.bool false]⟩ 4 (0,0)),(b3,true,.cells ⟨[strV s]⟩ 9 (0,0)),(b2,true,.cells ⟨(k.val A lc B tc).cells.toList⟩ 113 (0,0))]++Mk y.1.2.2,marks y.1.2.2)) (fun y=> k.nl-y.1.2.1) ?_ ⟨(H₄,0,[r]),hle4,Nat.zero_le _,fun i hi=> absurd hi (Nat.not_lt_zero _)⟩)
   rintro⟨⟨H₅,i,rs⟩,g1,g2,g3⟩ ih;simp only at g1 g2 g3;show Tc M St _ _ H₅ _ [(2,.pointer (some ⟨b2,0,none⟩)),(3,.pointer (some ⟨b3,0,none⟩)),(4,.pointer (some ⟨b4,0,none⟩)),(18,.slice A k.nl lc),(19,.int .i64 (k.nl:Nat)),(20,.int .i64 (i:Nat))] ([(b4,true,.cells ⟨[.bool false]⟩ 4 (0,0)),(b3,true,.cells ⟨[strV s]⟩ 9 (0,0)),(b2,true,.cells ⟨(k.val A lc B tc).cells.toList⟩ 113 (0,0))]++Mk rs) (marks rs) _;by_cases c1:i=k.nl
   · have e:k.safe s=true:=by
       unfold Bk.safe;rw[q5,(allB_iff k.nl).2 (by rw[←c1];exact g3)];rfl
     subst c1;rw[e] at hK;refine U11 ?_;refine Tc.retDs (E:=en) (L:= [(b4,true,.cells ⟨[.bool true]⟩ 4 (0,0)),(b3,true,.cells ⟨[strV s]⟩ 9 (0,0)),(b2,true,.cells ⟨(k.val A lc B tc).cells.toList⟩ 113 (0,0))]) (rs:=rs) hK func118 results118 (vs:= [_]) (by refine⟨⟨0,_,_,_,_,_,_,_,rfl,rfl,rfl,rfl⟩,?_⟩;exact trivial) ?_;exact fun H' hs=> ⟨View.le_trans g1 hs.base,rfl⟩
   · have c2:i<k.nl:=by omega
     obtain⟨hdg,hl1,hl3⟩:=Bk.isNum_of ha c2;have hRows:=hk.rows;obtain⟨_,h0|⟨ab,ao,fa,gs,gt,gz,rfl,hab,hrow⟩⟩:=hRows
     · omega
     obtain⟨F,fc,f1,_,_⟩:=hrow i c2;have hab5:=g1 _ _ hab;refine U13 ?_;refine .al fun b7=> ?_;refine U6 ?_;refine To.callF rfl rfl rfl rfl rfl rfl (by decide) (FnT.h (slips_c M H₅ (k.num i))) (fun v H₆ hv=> ?_);obtain⟨hle6,sb2,rfl,hcap2⟩:=hv;refine U ?_;have hit2:=fun(H':View) (hc:CapS (k.num i) sb2 H')=> slips_it M H' (k.num i) hdg (by omega) sb2 hc;refine U ?_;refine Tc.db (R':= [(2,.pointer (some ⟨b2,0,none⟩)),(3,.pointer (some ⟨b3,0,none⟩)),(4,.pointer (some ⟨b4,0,none⟩)),(18,.slice (some ⟨ab,ao,none⟩) k.nl lc),(19,.int .i64 (k.nl:Nat)),(20,.int .i64 (i:Nat)),(26,slipF sb2)]) (L':= [(b4,true,.cells ⟨[.bool false]⟩ 4 (0,0)),(b3,true,.cells ⟨[strV s]⟩ 9 (0,0)),(b2,true,.cells ⟨(k.val (some ⟨ab,ao,none⟩) lc B tc).cells.toList⟩ 113 (0,0))]++Mk rs) ?_;refine Tc.rangeLc (A:= []) (ts:= [27]) (xs:=slipsL (k.num i)) (fun rest H₄=> k.safeAt s i=rest.all (fun x=> !begins x s)∧CapS (k.num i) sb2 H₄∧H₆.le H₄) (fun j H₄=> j=.ret∧k.safeAt s i=false∧H₆.le H₄) rfl rfl rfl rfl hit2 (fun _ _=> CapS.le _ _) (fun _ _ ⟨_,h,_⟩=> h) rfl (fun _ _=> rfl)
         ⟨rfl,hcap2,View.le_refl _⟩ ?_ ?_ ?_
     · rintro r2 x rest _ l tmps asg bdy H₇ _ hx ⟨rfl,p2,p3,p4⟩ Q St1 cc1 cs1 hK1 q q';rw[List.all_cons] at p2;cases hbx:begins x s with
       | true=>
         rw[hbx] at p2;refine U3 ?_;refine Tc.beginRound (i:=0) rfl rfl rfl ?_;refine U5 ?_;refine .c rfl rfl rfl rfl (fun H hs=> .h (HasPrefix_is M H x s true hbx)) ?_;refine U6 ?_;refine Tc.leaveRound hK1 (i:=0) rfl (.inr (.inl ⟨_,rfl,rfl⟩)) (fun H' hs=> q' H' H₇ _ _ hs ⟨rfl,rfl,p2,p4⟩)
       | false=>
         rw[hbx] at p2;refine U3 ?_;refine Tc.beginRound (i:=0) rfl rfl rfl ?_;refine U5 ?_;refine .c rfl rfl rfl rfl (fun H hs=> .h (HasPrefix_is M H x s false hbx)) ?_;refine U4 ?_;refine Tc.leaveRound hK1 (i:=0) rfl (.inl ⟨rfl,rfl⟩) (fun H' hs=> q H' H₇ _ hs ⟨rfl,p2,p3,p4⟩)
     · rintro r2 H₇ ⟨p2,p3,p4⟩;refine Tc.marked (L:= [(b4,true,.cells ⟨[.bool false]⟩ 4 (0,0)),(b3,true,.cells ⟨[strV s]⟩ 9 (0,0)),(b2,true,.cells ⟨(k.val (some ⟨ab,ao,none⟩) lc B tc).cells.toList⟩ 113 (0,0))]) (rs:=rs) ?_;refine U6 ?_;have hfin:=ih ⟨(H₇,i+1,r2::rs),View.le_trans g1 (View.le_trans hle6 p4),c2,fun m hm=> by
         by_cases e:m=i
         · subst e;exact p2
         · exact g3 m (by simp only at hm;omega)⟩ (by simp only;omega)
       exact Tc.db hfin
     · rintro r2 j H₇ ⟨rfl,p2,p4⟩;have e:k.safe s=false:=by
         unfold Bk.safe;rw[allB_not c2 p2];simp
       rw[e] at hK;refine Tc.marked (L:= [(b4,true,.cells ⟨[.bool false]⟩ 4 (0,0)),(b3,true,.cells ⟨[strV s]⟩ 9 (0,0)),(b2,true,.cells ⟨(k.val (some ⟨ab,ao,none⟩) lc B tc).cells.toList⟩ 113 (0,0))]) (rs:=rs) ?_;refine Tc.retDs (E:=en) (L:= [(b4,true,.cells ⟨[.bool false]⟩ 4 (0,0)),(b3,true,.cells ⟨[strV s]⟩ 9 (0,0)),(b2,true,.cells ⟨(k.val (some ⟨ab,ao,none⟩) lc B tc).cells.toList⟩ 113 (0,0))]) (rs:=r2::rs) hK func118 results118 (vs:= [_]) (by refine⟨⟨0,_,_,_,_,_,_,_,rfl,rfl,rfl,rfl⟩,?_⟩;exact trivial) ?_;exact fun H' hs=> ⟨View.le_trans g1 (View.le_trans hle6 (View.le_trans p4 hs.base)),rfl⟩
 · rintro r j H₄ ⟨rfl,q2,q4⟩;have e:k.safe s=false:=by
     unfold Bk.safe;rw[q2];rfl
   rw[e] at hK;refine Tc.retD (E:=en) (i:=0) hK func118 results118 (vs:= [_]) rfl (by refine⟨⟨1,_,_,_,_,_,_,_,rfl,rfl,rfl,rfl⟩,?_⟩;exact trivial) ?_;exact fun H' hs=> ⟨View.le_trans hle1 (View.le_trans q4 hs.base),rfl⟩
def Bk.safeV(k:Bk)(s:List UInt8):Value:=
 if k.alarm≠0 then .tuple ⟨[.bool false,.int .i64 k.alarm]⟩ else if isNum s=false then .tuple ⟨[.bool false,.int .i64 3]⟩ else if k.clash s=true then .tuple ⟨[.bool false,.int .i64 10]⟩ else .tuple ⟨[.bool (k.safe s),.int .i64 0]⟩
theorem Safe_c(k:Bk)(A:Option Addr)(lc:Nat)(B:Option Addr)(tc:Nat)(hk:BkAt H k A lc B tc)(hn:k.small)(hG:Glob H)(s:List UInt8)(hs2:s.length≤1000):
   CallT M 52 #[k.val A lc B tc,strV s] H (fun v H'=> H.le H'∧v=k.safeV s):=by
 by_cases ha:k.alarm=0
 · have hop:=fun(H':View) (h':H.le H')=> open_yes M H' k A lc B tc (hk.le h') hn (glob_le hG h') ha;cases h1:isNum s with
   | false=>
     have ev:k.safeV s=.tuple ⟨[.bool false,.int .i64 3]⟩:=by
       unfold Bk.safeV;rw[if_neg (by simp[ha]),if_pos h1]
     rw[ev];refine .en func52 ntmps52 fun St c cs hK=> ?_;refine U2 ?_;refine .bo fun b2=> ?_;refine U6 ?_;refine .c rfl rfl rfl rfl (fun H hs=> .h (hop H hs.base)) ?_;refine U3 ?_;refine .al fun b6=> ?_;refine U15 ?_;refine .c rfl rfl rfl rfl (fun H hs=> .h (isB (isNumber_c M H s (by omega)) h1)) ?_;refine U9 ?_;refine .rt hK func52 results52 [_,_] ?_;exact okB
   | true=>
     have hdg:s.all dig=true:=by
       unfold isNum at h1;simp only[Bool.and_eq_true] at h1;exact h1.2
     cases h2:k.clash s with
     | true=>
       have ev:k.safeV s=.tuple ⟨[.bool false,.int .i64 10]⟩:=by
         unfold Bk.safeV;rw[if_neg (by simp[ha]),if_neg (by simp[h1]),if_pos h2]
       rw[ev];refine .en func52 ntmps52 fun St c cs hK=> ?_;refine U2 ?_;refine .bo fun b2=> ?_;refine U6 ?_;refine .c rfl rfl rfl rfl (fun H hs=> .h (hop H hs.base)) ?_;refine U3 ?_;refine .al fun b6=> ?_;refine U15 ?_;refine .c rfl rfl rfl rfl (fun H hs=> .h (isB (isNumber_c M H s (by omega)) h1)) ?_;refine U9 ?_;refine .c rfl rfl rfl rfl (fun H hs=> .h (isB (clashes_c M H k A lc (hk.rows.le hs.base) hn.nl s) h2)) ?_;refine U8 ?_;refine .rt hK func52 results52 [_,_] ?_;exact okB
     | false=>
       have ev:k.safeV s=.tuple ⟨[.bool (k.safe s),.int .i64 0]⟩:=by
         unfold Bk.safeV;rw[if_neg (by simp[ha]),if_neg (by simp[h1]),if_neg (by simp[h2])]
       rw[ev];refine .en func52 ntmps52 fun St c cs hK=> ?_;refine U2 ?_;refine .bo fun b2=> ?_;refine U6 ?_;refine .c rfl rfl rfl rfl (fun H hs=> .h (hop H hs.base)) ?_;refine U3 ?_;refine .al fun b6=> ?_;refine U15 ?_;refine .c rfl rfl rfl rfl (fun H hs=> .h (isB (isNumber_c M H s (by omega)) h1)) ?_;refine U9 ?_;refine .c rfl rfl rfl rfl (fun H hs=> .h (isB (clashes_c M H k A lc (hk.rows.le hs.base) hn.nl s) h2)) ?_;refine U9 ?_;refine .c rfl rfl rfl rfl (fun H hs=> .h (safe_c M H k A lc B tc (hk.le hs.base) hn ha s hdg hs2)) ?_;refine U3 ?_;refine .rt hK func52 results52 [_,_] ?_;exact okB
 · have ev:k.safeV s=.tuple ⟨[.bool false,.int .i64 k.alarm]⟩:=if_pos ha;rw[ev];refine .en func52 ntmps52 fun St c cs hK=> ?_;refine U2 ?_;refine .bo fun b2=> ?_;refine U6 ?_;refine .c rfl rfl rfl rfl (fun H hs=> .h (open_alarm M H k A lc B tc true (hk.le hs.base) hn (glob_le hG hs.base) ha)) ?_;refine U3 ?_;refine .al fun b6=> ?_;refine U18 ?_;refine .rt hK func52 results52 [_,_] ?_;exact okB
theorem taken_c(s:List UInt8)(hs1:s.all dig=true)(hs2:s.length≤1000):CallT M 128 #[strV s] H (fun v H'=> H.le H'∧v=.int .i64 (takenN s:Nat)):=by
 have hb:=takenN_le s hs1;refine .en func128 ntmps128 fun St c cs hK=> ?_;refine U12 ?_;refine .e (Or.rangeS (E:=en) (s:=⟨⟨s⟩⟩) rfl rfl rfl rfl rfl (by decide) (fun it=> ?_));refine U2 ?_;refine Tc.db (Tc.loopInv (σ:= { p:Nat//p≤s.length }) (fun p=> ([(3,.int .i64 (takenN (s.take p.1):Nat)),(7,.pointer (some ⟨it,0,none⟩))],[(it,true,.stringIter ⟨⟨s⟩⟩ p.1)])) (fun p=> s.length-p.1) ?_ ⟨0,Nat.zero_le _⟩);rintro⟨p,hp⟩ ih;show Tc M St _ _ _ _ [(3,.int .i64 (takenN (s.take p):Nat)),(7,.pointer (some ⟨it,0,none⟩))] [(it,true,.stringIter ⟨⟨s⟩⟩ p)] _ _;have hps0:takenN (s.take p)≤10*p:=by
   have h1:(s.take p).all dig=true:=List.all_eq_true.2 fun x hx=> List.all_eq_true.1 hs1 x (List.mem_of_mem_take hx);have h2:=takenN_le (s.take p) h1;rw[List.length_take] at h2;omega
 by_cases c1:p=s.length
 · subst c1;have hnp:¬s.length<(ByteArray.mk ⟨s⟩).size:=by show ¬s.length<s.length;omega
   rw[List.take_length];refine U2 ?_;refine .e (Or.nextS0 0 rfl rfl rfl hnp rfl (by decide) ?_);refine U10 ?_;refine .rt hK func128 results128 [_] ?_;exact okB
 · have c2:p<s.length:=by omega
   obtain⟨x,hx,hdx,hdec⟩:=dec_dig s p c2 hs1;have hpn:=pn_in hdx;have hps:p<(ByteArray.mk ⟨s⟩).size:=c2;have ha:intBin .add .i64 (takenN (s.take p):Nat) (pn x:Nat)=some (.int .i64 ((takenN (s.take (p+1)):Nat):Int)):=by
     rw[add_in (by omega) (by omega),takenN_at hx];rfl
   refine U2 ?_;refine .e (Or.nextS 0 rfl rfl rfl hps hdec rfl (by decide) ?_);refine U14 ?_;refine .c rfl rfl rfl rfl (fun H hs=> .h (pulses_c M H x hdx)) ?_;refine U4 ?_;exact Tc.db (ih ⟨p+1,by omega⟩ (by simp only;omega))
def pulsesV(s:List UInt8):Value:=if isNum s=false then .tuple ⟨[.int .i64 0,.int .i64 3]⟩ else .tuple ⟨[.int .i64 (takenN s:Nat),.int .i64 0]⟩
theorem Pulses_c(s:List UInt8)(hs2:s.length≤1000):CallT M 67 #[strV s] H (fun v H'=> H.le H'∧v=pulsesV s):=by
 cases h1:isNum s with
 | false=>
   have ev:pulsesV s=.tuple ⟨[.int .i64 0,.int .i64 3]⟩:=if_pos h1;rw[ev];refine .en func67 ntmps67 fun St c cs hK=> ?_;refine U9 ?_;refine .c rfl rfl rfl rfl (fun H hs=> .h (isB (isNumber_c M H s (by omega)) h1)) ?_;refine U8 ?_;refine .rt hK func67 results67 [_,_] ?_;exact okB
 | true=>
   have hdg:s.all dig=true:=by
     unfold isNum at h1;simp only[Bool.and_eq_true] at h1;exact h1.2
   have ev:pulsesV s=.tuple ⟨[.int .i64 (takenN s:Nat),.int .i64 0]⟩:=if_neg (by simp[h1]);rw[ev];refine .en func67 ntmps67 fun St c cs hK=> ?_;refine U9 ?_;refine .c rfl rfl rfl rfl (fun H hs=> .h (isB (isNumber_c M H s (by omega)) h1)) ?_;refine U7 ?_;refine .c rfl rfl rfl rfl (fun H hs=> .h (taken_c M H s hdg hs2)) ?_;refine U3 ?_;refine .rt hK func67 results67 [_,_] ?_;exact okB
end
def allFrom(dg:List UInt8):Nat→List UInt8→List (List UInt8)
 | 0,s=> [s]
 | d+1,s=> dg.flatMap fun x=> allFrom dg d (s++[x])
def allL(dg:List UInt8)(many:Nat):List (List UInt8):=allFrom dg many []
theorem allFrom_drop(dg:List UInt8)(d:Nat)(s:List UInt8){p:Nat}{x:UInt8}(h:dg[p]? =some x):(dg.drop p).flatMap (fun x=> allFrom dg d (s++[x]))=allFrom dg d (s++[x])++(dg.drop (p+1)).flatMap (fun x=> allFrom dg d (s++[x])):=by
 obtain⟨hp,rfl⟩:=List.getElem?_eq_some_iff.1 h;rw[List.drop_eq_getElem_cons hp,List.flatMap_cons]
def allF(b1 b2:Nat):Value:=.func (.func 182) #[] #[.pointer (some ⟨b1,0,none⟩),.pointer (some ⟨b2,0,none⟩)]
def moreF(b1 b3 b2 b4:Nat):Value:=.func (.func 183) #[] #[.pointer (some ⟨b1,0,none⟩),.pointer (some ⟨b3,0,none⟩),.pointer (some ⟨b2,0,none⟩),.pointer (some ⟨b4,0,none⟩)]
structure CapA(many:Nat)(dg:List UInt8)(b1 b2:Nat)(H:View):Prop where
 a:∃f,H b1=some (f,.cells ⟨[.int .i64 (many:Nat)]⟩ 3 (0,0))
 b:∃f,H b2=some (f,.cells ⟨[strV dg]⟩ 9 (0,0))
theorem CapA.le {many:Nat}{dg:List UInt8}{b1 b2:Nat}(H H':View)(h:H.le H')(c:CapA many dg b1 b2 H):CapA many dg b1 b2 H':=⟨c.a.imp fun _ e=> h _ _ e,c.b.imp fun _ e=> h _ _ e⟩
def moreB(l b1 b2 b3 b4:Nat):Bl:= [(b4,true,.cells ⟨[moreF b1 b3 b2 b4]⟩ 167 (0,0)),(b3,true,.cells ⟨[.func (.yield l) #[] #[]]⟩ 167 (0,0))]
section
variable(M:Md prog)(H:View)
theorem all_c(many:Nat)(dg:List UInt8):CallT M 116 #[.int .i64 (many:Nat),strV dg] H (fun v H'=> H.le H'∧∃b1 b2,v=allF b1 b2∧CapA many dg b1 b2 H'):=by
 refine .en func116 ntmps116 fun St c cs hK=> ?_;refine U2 ?_;refine .bo fun b2=> ?_;refine .bo fun b3=> ?_;refine U7 ?_;refine .rt hK func116 results116 [_] ?_;exact fun H' hs=> ⟨hs.base,b2,b3,rfl,⟨true,hs.get (i:=1) rfl⟩,⟨true,hs.get (i:=0) rfl⟩⟩
theorem more_c(many:Nat)(dg:List UInt8)(hm:many≤1000)(hdg:dg.all dig=true)(hdl:dg.length≤1000)(l b1 b2 b3 b4:Nat)(xs:List (List UInt8))(J:List (List UInt8)→View→Prop)(D:View→Prop)(hcap:∀rest H',J rest H'→CapA many dg b1 b2 H')
   (hy:∀x rest (_:Unit) H' H'',x∈xs→J (x::rest) H'→SymSt H' [] H''→FnT M (.func (.yield l) #[] #[]) [strV x] H'' fun v H3=> (v=.bool true∧∃H₂,SymSt H₂ [] H3∧J rest H₂)∨(v=.bool false∧D H3)):
   ∀ (d:Nat) (s:List UInt8) (rest:List (List UInt8)) (H₁ Hc:View),s.length+d=many→J (allFrom dg d s++rest) H₁→(∀x∈allFrom dg d s,x∈xs)→SymSt H₁ (moreB l b1 b2 b3 b4) Hc→
     CallT M 183 #[strV s,.pointer (some ⟨b1,0,none⟩),.pointer (some ⟨b3,0,none⟩),.pointer (some ⟨b2,0,none⟩),.pointer (some ⟨b4,0,none⟩)] Hc (fun v H3=> (v=.bool true∧∃H₂,SymSt H₂ (moreB l b1 b2 b3 b4) H3∧J rest H₂)∨(v=.bool false∧∃H₂,H₂.le H3∧D H₂)):=by
 intro d;induction d with
 | zero=>
   intro s rest H₁ Hc hsd hJ hin hsy;obtain⟨⟨fa,ha⟩,⟨fb,hb⟩⟩:=hcap _ _ hJ;refine CallT.enter (vs:= [strV s,.pointer (some ⟨b1,0,none⟩),.pointer (some ⟨b3,0,none⟩),.pointer (some ⟨b2,0,none⟩),.pointer (some ⟨b4,0,none⟩)]) func183 rfl ntmps183 (Nat.le_of_ble_eq_true rfl) (hsy) fun St c cs hK=> ?_;unfold moreB;refine U17 ?_;refine To.callF rfl rfl rfl rfl rfl rfl (by decide) (hy s rest () H₁ H₁ (hin s (by simp[allFrom])) hJ (SymSt.nil H₁)) (fun v H₃ hv=> ?_);rcases hv with ⟨rfl,H4,h8,j3⟩|⟨rfl,hD⟩
   · refine To.lower h8.base ?_;refine U2 ?_;refine .rt hK func183 results183 [_] ?_;exact fun H' hs=> .inl ⟨rfl,H4,hs,j3⟩
   · refine U2 ?_;refine .rt hK func183 results183 [_] ?_;exact fun H' hs=> .inr ⟨rfl,H₃,hs.base,hD⟩
 | succ d ihd=>
   intro s rest H₁ Hc hsd hJ hin hsy;obtain⟨⟨fa,ha⟩,⟨fb,hb⟩⟩:=hcap _ _ hJ;refine CallT.enter (vs:= [strV s,.pointer (some ⟨b1,0,none⟩),.pointer (some ⟨b3,0,none⟩),.pointer (some ⟨b2,0,none⟩),.pointer (some ⟨b4,0,none⟩)]) func183 rfl ntmps183 (Nat.le_of_ble_eq_true rfl) (hsy) fun St c cs hK=> ?_;unfold moreB;refine U18 ?_;refine .e (Or.rangeS (E:=en) (s:=⟨⟨dg⟩⟩) rfl rfl rfl rfl rfl (by decide) (fun it=> ?_));refine U2 ?_;refine Tc.db (Tc.loopB (σ:= { x:Nat×View//x.1≤dg.length∧J ((dg.drop x.1).flatMap (fun y=> allFrom dg d (s++[y]))++rest) x.2 })
     (fun x=> (x.1.2,[(0,strV s),(1,.pointer (some ⟨b1,0,none⟩)),(2,.pointer (some ⟨b3,0,none⟩)),(3,.pointer (some ⟨b2,0,none⟩)),(4,.pointer (some ⟨b4,0,none⟩)),(16,.pointer (some ⟨it,0,none⟩))],[(it,true,.stringIter ⟨⟨dg⟩⟩ x.1.1),(b4,true,.cells ⟨[moreF b1 b3 b2 b4]⟩ 167 (0,0)),(b3,true,.cells ⟨[.func (.yield l) #[] #[]]⟩ 167 (0,0))])) (fun x=> dg.length-x.1.1) ?_ ⟨(0,H₁),Nat.zero_le _,hJ⟩)
   rintro⟨⟨p,H₂⟩,g1,j1⟩ ih;simp only at g1 j1;show Tc M St _ _ H₂ _ [(0,strV s),(1,.pointer (some ⟨b1,0,none⟩)),(2,.pointer (some ⟨b3,0,none⟩)),(3,.pointer (some ⟨b2,0,none⟩)),(4,.pointer (some ⟨b4,0,none⟩)),(16,.pointer (some ⟨it,0,none⟩))] [(it,true,.stringIter ⟨⟨dg⟩⟩ p),(b4,true,.cells ⟨[moreF b1 b3 b2 b4]⟩ 167 (0,0)),(b3,true,.cells ⟨[.func (.yield l) #[] #[]]⟩ 167 (0,0))] _ _;by_cases c1:p=dg.length
   · subst c1;have hnp:¬dg.length<(ByteArray.mk ⟨dg⟩).size:=by show ¬dg.length<dg.length;omega
     rw[List.drop_length] at j1;refine U2 ?_;refine .e (Or.nextS0 0 rfl rfl rfl hnp rfl (by decide) ?_);refine U9 ?_;refine .rt hK func183 results183 [_] ?_;exact fun H' hs=> .inl ⟨rfl,H₂,hs.less (by apply List.Sublist.cons;exact List.Sublist.refl _),j1⟩
   · have c2:p<dg.length:=by omega
     obtain⟨x,hx,hdx,hdec⟩:=dec_dig dg p c2 hdg;have hps:p<(ByteArray.mk ⟨dg⟩).size:=c2;obtain⟨⟨fa,ha⟩,⟨fb,hb⟩⟩:=hcap _ _ j1;rw[allFrom_drop dg d s hx,List.append_assoc] at j1;have hin2:∀y∈allFrom dg d (s++[x]),y∈xs:=fun y hyy=> hin y (List.mem_flatMap.2 ⟨x,List.mem_of_getElem? hx,hyy⟩);have e2:(dg.drop ((p:Nat):Int).toNat).take ((((p:Nat):Int)+1).toNat-((p:Nat):Int).toNat)= [x]:=by
       rw[show(((p:Nat):Int)+1).toNat-((p:Nat):Int).toNat=1 by omega,Int.toNat_natCast];obtain⟨hp',rfl⟩:=List.getElem?_eq_some_iff.1 hx;rw[List.drop_eq_getElem_cons hp'];rfl
     refine U2 ?_;refine .e (Or.nextS 0 rfl rfl rfl hps hdec rfl (by decide) ?_);refine U12 ?_;refine Tc.drC [] [8] [] mixed rfl ?_;refine .oo 0 ?_;refine .oo 1 ?_;refine .oo 2 ?_;refine .oo 3 ?_;refine .oo 4 ?_;refine .oo 5 ?_;refine Ta.tkC 6 (by kernel_rfl) rfl rfl (by decide) rfl rfl (OpV.take (OpV.sliceS (E:=en) rfl rfl rfl rfl rfl rfl (by omega) (by omega) (by omega))) ?_;refine Ta.tkC 7 (by kernel_rfl) rfl rfl (by decide) rfl rfl (OpV.take (OpV.strB rfl rfl rfl (by exact strB_add (by simp <;> omega)))) ?_;rw[e2];refine Ta.lift (L₂:= [(it,true,.stringIter ⟨⟨dg⟩⟩ (p+1))]) (L₁:=moreB l b1 b2 b3 b4) rfl (fun Hx hx1=> ?_);refine Ta.callF 8 (by kernel_rfl) rfl (by kernel_rfl) rfl rfl rfl rfl rfl rfl (by decide) (FnT.of (first:= []) (captured:= [_,_,_,_]) ca183 rfl (ihd (s++[x]) _ H₂ Hx (by rw[List.length_append];show s.length+1+d=many;omega) j1 hin2 hx1)) (fun v H₃ hv=> ?_);rcases hv with ⟨rfl,H4,h8,j3⟩|⟨rfl,H4,hl4,hD⟩
     · refine Ta.expand h8 ?_;unfold moreB;refine Ta.each [9] (by kernel_rfl) rfl ⟨TaOp.mk rfl rfl rfl (Or.ofV .nt rfl (by decide) ⟨S3.off (by kernel_rfl),?_⟩),trivial⟩;refine .dn ?_;refine U3 ?_;exact Tc.db (ih ⟨(p+1,H4),by simp only;omega,j3⟩ (by simp only;omega))
     · refine Ta.each [9] (by kernel_rfl) rfl ⟨TaOp.mk rfl rfl rfl (Or.ofV .nt rfl (by decide) ⟨S3.off (by kernel_rfl),?_⟩),trivial⟩;refine .dn ?_;refine U5 ?_;refine .rt hK func183 results183 [_] ?_;exact fun H' hs=> .inr ⟨rfl,H4,View.le_trans hl4 hs.base,hD⟩
theorem all_it(many:Nat)(dg:List UInt8)(hm:many≤1000)(hdg:dg.all dig=true)(hdl:dg.length≤1000)(b1 b2:Nat):
   IterT M (allF b1 b2) (allL dg many) (fun x (_:Unit)=> [strV x]) (fun _ _=> []) (fun _ _=> []) (CapA many dg b1 b2) [] H:=fun l J D hcap h0 hy H₀ hs₀=> by
 refine FnT.of (first:= []) (captured:= [_,_]) ca182 rfl ?_;refine CallT.enter (vs:= [.func (.yield l) #[] #[],.pointer (some ⟨b1,0,none⟩),.pointer (some ⟨b2,0,none⟩)]) func182 rfl ntmps182 (Nat.le_of_ble_eq_true rfl) (hs₀) fun St c cs hK=> ?_;refine U2 ?_;refine .bo fun b3=> ?_;refine U3 ?_;refine .al fun b4=> ?_;refine U8 ?_;refine To.lift (L₂:= []) (L₁:=moreB l b1 b2 b3 b4) rfl (fun Hx hx=> ?_);refine To.callF rfl rfl rfl rfl rfl rfl (by decide) (FnT.of (first:= []) (captured:= [_,_,_,_]) ca183 rfl (more_c M many dg hm hdg hdl l b1 b2 b3 b4 (allL dg many) J D hcap (fun x rest e H' H'' h1 h2 h3=> hy x rest e H' H'' h1 h2 h3) many [] [] H Hx (Nat.zero_add _) (by rw[List.append_nil];exact h0) (fun x hx=> hx) hx)) (fun v H₃ hv=> ?_);refine U ?_;refine .ov hK func182 results182 [] ?_;intro H' hs;rcases hv with ⟨_,H4,h8,j3⟩|⟨_,H4,hl4,hD⟩
 · exact⟨H4,View.le_trans h8.base hs.base,.inl j3⟩
 · exact⟨H4,View.le_trans hl4 hs.base,.inr hD⟩
end
theorem mem_allFrom {dg:List UInt8}:∀(d:Nat) (s x:List UInt8),x∈allFrom dg d s→x.length=s.length+d∧∀y∈x,y∈s∨y∈dg
 | 0,s,x,h=> by
   have:x=s:=by simpa [allFrom] using h
   subst this;exact⟨rfl,fun y hy=> .inl hy⟩
 | d + 1,s,x,h=> by
   obtain⟨z,hz,h2⟩:=List.mem_flatMap.1 h;obtain⟨h3,h4⟩:=mem_allFrom d _ x h2;refine⟨by rw[h3,List.length_append];show s.length+1+d=_;omega,fun y hy=> ?_⟩;rcases h4 y hy with h5|h5
   · rcases List.mem_append.1 h5 with h6|h6
     · exact .inl h6
     · have:y=z:=by simpa using h6
       subst this;exact .inr hz
   · exact .inr h5
theorem mem_allL {dg:List UInt8}{n:Nat}{x:List UInt8}(h:x∈allL dg n):x.length=n∧∀y∈x,y∈dg:=by
 obtain⟨h1,h2⟩:=mem_allFrom n [] x h;exact⟨by simpa using h1,fun y hy=> (h2 y hy).resolve_left (by simp)⟩
theorem digs_dig:digs.all dig=true:=by decide +kernel
def Bk.spareOk(k:Bk)(sf:Bool)(x:List UInt8):Bool:=!k.clash x&&(!sf||k.safe x)
def Bk.spare(k:Bk)(n:Nat)(sf:Bool):Option (List UInt8):=(allL digs n).find? (k.spareOk sf)
def spare3(x:List UInt8)(t:Bool)(a:Int):Value:=.tuple ⟨[strV x,.bool t,.int .i64 a]⟩
def Bk.spareV(k:Bk)(z:Int)(sf:Bool):Value:=
 if k.alarm≠0 then spare3 [] false k.alarm else if ¬(1≤z∧z≤3) then spare3 [] false 1 else match k.spare z.toNat sf with
   | some x=> spare3 x true 0
   | none=> spare3 [] false 0
section
variable(M:Md prog)(H:View)
theorem Spare_c(k:Bk)(A:Option Addr)(lc:Nat)(B:Option Addr)(tc:Nat)(hk:BkAt H k A lc B tc)(hn:k.small)(hG:Glob H)(z:Int)(sf:Bool):
   CallT M 50 #[k.val A lc B tc,.int .i64 z,.bool sf] H (fun v H'=> H.le H'∧v=k.spareV z sf):=by
 by_cases ha:k.alarm=0
 · have hop:=fun(H':View) (h':H.le H')=> open_yes M H' k A lc B tc (hk.le h') hn (glob_le hG h') ha;by_cases c1:1≤z∧z≤3
   · obtain ⟨n,rfl⟩:∃n:Nat,z=n:=⟨z.toNat,by omega⟩
     have ev:k.spareV (n:Nat) sf=match k.spare n sf with
         | some x=> spare3 x true 0
         | none=> spare3 [] false 0:=by
       unfold Bk.spareV;rw[if_neg (by simp[ha]),if_neg (fun h=> h c1)];rfl
     have hbt:=fun(H':View)=> between_is M H' ((n:Nat):Int) 1 3 true (decide_eq_true c1);refine .en func50 ntmps50 fun St c cs hK=> ?_;refine U2 ?_;refine .bo fun b3=> ?_;refine .bo fun b5=> ?_;refine .al fun b6=> ?_;refine .al fun b7=> ?_;refine .al fun b8=> ?_;refine U4 ?_;refine .c rfl rfl rfl rfl (fun H hs=> .h (hop H hs.base)) ?_;refine U3 ?_;refine .al fun b9=> ?_;refine U15 ?_;refine .c rfl rfl rfl rfl (fun H hs=> .h (hbt H)) ?_;refine U10 ?_;refine To.callF rfl rfl rfl rfl rfl rfl (by decide) (FnT.h (all_c M H n digs)) (fun v H₁ hv=> ?_);obtain⟨hle1,a1,a2,rfl,hcap⟩:=hv;refine U ?_;have hit:=fun(H':View) (_:CapA n digs a1 a2 H')=> all_it M H' n digs (by omega) digs_dig (by decide) a1 a2;refine U ?_;refine Tc.db (R':= [(3,.pointer (some ⟨b3,0,none⟩)),(5,.pointer (some ⟨b5,0,none⟩)),(6,.pointer (some ⟨b6,0,none⟩)),(7,.pointer (some ⟨b7,0,none⟩)),(8,.pointer (some ⟨b8,0,none⟩)),(9,.pointer (some ⟨b9,0,none⟩)),(25,allF a1 a2)])
       (L':= [(b9,true,.cells ⟨(k.val A lc B tc).cells.toList⟩ 113 (0,0)),(b8,true,.cells ⟨[.int .i64 0]⟩ 29 (0,0)),(b7,true,.cells ⟨[.bool false]⟩ 4 (0,0)),(b6,true,.cells ⟨[strV []]⟩ 9 (0,0)),(b5,true,.cells ⟨[.bool sf]⟩ 4 (0,0)),(b3,true,.cells ⟨(k.val A lc B tc).cells.toList⟩ 25 (0,0))]) ?_
     refine Tc.rangeL (A:= []) (ts:= [26]) (xs:=allL digs n) (fun rest H₄ L₄=> L₄= [(b9,true,.cells ⟨(k.val A lc B tc).cells.toList⟩ 113 (0,0)),(b8,true,.cells ⟨[.int .i64 0]⟩ 29 (0,0)),(b7,true,.cells ⟨[.bool false]⟩ 4 (0,0)),(b6,true,.cells ⟨[strV []]⟩ 9 (0,0)),(b5,true,.cells ⟨[.bool sf]⟩ 4 (0,0)),(b3,true,.cells ⟨(k.val A lc B tc).cells.toList⟩ 25 (0,0))]
         ∧k.spare n sf=rest.find? (k.spareOk sf)∧CapA n digs a1 a2 H₄∧H₁.le H₄)
         (fun j H₄ L₄=> ∃x,L₄= [(b9,true,.cells ⟨(k.val A lc B tc).cells.toList⟩ 113 (0,0)),(b8,true,.cells ⟨[.int .i64 0]⟩ 29 (0,0)),(b7,true,.cells ⟨[.bool true]⟩ 4 (0,0)),(b6,true,.cells ⟨[strV x]⟩ 9 (0,0)),(b5,true,.cells ⟨[.bool sf]⟩ 4 (0,0)),(b3,true,.cells ⟨(k.val A lc B tc).cells.toList⟩ 25 (0,0))]∧j=.ret∧k.spare n sf=some x∧H₁.le H₄)
         rfl rfl rfl rfl hit (fun _ _=> CapA.le _ _) (fun _ _ _ ⟨_,_,h,_⟩=> h) rfl (fun _ _=> rfl) ⟨rfl,rfl,hcap,View.le_refl _⟩ ?_ ?_ ?_
     · rintro r x rest _ l tmps asg bdy H₄ _ hx ⟨rfl,q2,q3,q4⟩ Q St1 cc1 cs1 hK1 q q';have hle4:=View.le_trans hle1 q4;obtain⟨hxl,hxd⟩:=mem_allL hx;have hxdig:x.all dig=true:=List.all_eq_true.2 fun y hy=> List.all_eq_true.1 digs_dig y (hxd y hy);have hcl:=fun(H':View) (h':H₄.le H')=> clashes_c M H' k A lc (hk.rows.le (View.le_trans hle4 h')) hn.nl x;have hsf:=fun(H':View) (h':H₄.le H')=> safe_c M H' k A lc B tc (hk.le (View.le_trans hle4 h')) hn ha x hxdig (by omega);rw[List.find?_cons] at q2;cases h1:k.clash x with
       | true=>
         have e1:k.spareOk sf x=false:=by unfold Bk.spareOk;rw[h1];rfl
         rw[e1] at q2;rw[h1] at hcl;refine U3 ?_;refine Tc.beginRound (i:=0) rfl rfl rfl ?_;refine U4 ?_;refine .x (.ld 7) ?_;refine U ?_;refine .c rfl rfl rfl rfl (fun H hs=> .h (hcl H hs.base)) ?_;refine U5 ?_;refine To.skippedU rfl (by decide) rfl ?_;refine To.skippedU rfl (by decide) rfl ?_;refine To.skippedU rfl (by decide) rfl ?_;refine U6 ?_;refine Tc.leaveRound hK1 (i:=0) rfl (.inl ⟨rfl,rfl⟩) (fun H' hs=> q H' H₄ _ hs ⟨rfl,q2,q3,q4⟩)
       | false=>
         rw[h1] at hcl;cases sf with
         | false=>
           have e1:k.spareOk false x=true:=by unfold Bk.spareOk;rw[h1];rfl
           rw[e1] at q2;refine U3 ?_;refine Tc.beginRound (i:=0) rfl rfl rfl ?_;refine U4 ?_;refine .x (.ld 7) ?_;refine U ?_;refine .c rfl rfl rfl rfl (fun H hs=> .h (hcl H hs.base)) ?_;refine U19 ?_;refine Tc.leaveRound hK1 (i:=0) rfl (.inr (.inl ⟨_,rfl,rfl⟩)) (fun H' hs=> q' H' H₄ _ _ hs ⟨x,rfl,rfl,q2,q4⟩)
         | true=>
           cases h2:k.safe x with
           | true=>
             have e1:k.spareOk true x=true:=by unfold Bk.spareOk;rw[h1,h2];rfl
             rw[e1] at q2;rw[h2] at hsf;refine U3 ?_;refine Tc.beginRound (i:=0) rfl rfl rfl ?_;refine U4 ?_;refine .x (.ld 7) ?_;refine U ?_;refine .c rfl rfl rfl rfl (fun H hs=> .h (hcl H hs.base)) ?_;refine U7 ?_;refine .c rfl rfl rfl rfl (fun H hs=> .h (hsf H hs.base)) ?_;refine U11 ?_;refine Tc.leaveRound hK1 (i:=0) rfl (.inr (.inl ⟨_,rfl,rfl⟩)) (fun H' hs=> q' H' H₄ _ _ hs ⟨x,rfl,rfl,q2,q4⟩)
           | false=>
             have e1:k.spareOk true x=false:=by unfold Bk.spareOk;rw[h1,h2];rfl
             rw[e1] at q2;rw[h2] at hsf;refine U3 ?_;refine Tc.beginRound (i:=0) rfl rfl rfl ?_;refine U4 ?_;refine .x (.ld 7) ?_;refine U ?_;refine .c rfl rfl rfl rfl (fun H hs=> .h (hcl H hs.base)) ?_;refine U7 ?_;refine .c rfl rfl rfl rfl (fun H hs=> .h (hsf H hs.base)) ?_;refine U6 ?_;refine Tc.leaveRound hK1 (i:=0) rfl (.inl ⟨rfl,rfl⟩) (fun H' hs=> q H' H₄ _ hs ⟨rfl,q2,q3,q4⟩)
     · rintro r H₄ _ ⟨rfl,q2,q3,q4⟩;have e1:k.spare n sf=none:=q2;rw[ev,e1] at hK;refine U7 ?_;refine Tc.retD (E:=en) (i:=0) hK func50 results50 (vs:= [_,_,_]) rfl (by refine⟨⟨4,_,_,_,_,_,_,_,rfl,rfl,rfl,rfl⟩,?_⟩;refine⟨⟨3,_,_,_,_,_,_,_,rfl,rfl,rfl,rfl⟩,?_⟩;refine⟨⟨2,_,_,_,_,_,_,_,rfl,rfl,rfl,rfl⟩,?_⟩;exact trivial) ?_;exact fun H' hs=> ⟨View.le_trans hle1 (View.le_trans q4 hs.base),rfl⟩
     · rintro r j H₄ _ ⟨x,rfl,rfl,q2,q4⟩;rw[ev,q2] at hK;refine Tc.retD (E:=en) (i:=0) hK func50 results50 (vs:= [_,_,_]) rfl (by refine⟨⟨4,_,_,_,_,_,_,_,rfl,rfl,rfl,rfl⟩,?_⟩;refine⟨⟨3,_,_,_,_,_,_,_,rfl,rfl,rfl,rfl⟩,?_⟩;refine⟨⟨2,_,_,_,_,_,_,_,rfl,rfl,rfl,rfl⟩,?_⟩;exact trivial) ?_;exact fun H' hs=> ⟨View.le_trans hle1 (View.le_trans q4 hs.base),rfl⟩
   · have ev:k.spareV z sf=spare3 [] false 1:=by
       unfold Bk.spareV;rw[if_neg (by simp[ha]),if_pos c1]
     have hbt:=fun(H':View)=> between_is M H' z 1 3 false (decide_eq_false c1);rw[ev];refine .en func50 ntmps50 fun St c cs hK=> ?_;refine U2 ?_;refine .bo fun b3=> ?_;refine .bo fun b5=> ?_;refine .al fun b6=> ?_;refine .al fun b7=> ?_;refine .al fun b8=> ?_;refine U4 ?_;refine .c rfl rfl rfl rfl (fun H hs=> .h (hop H hs.base)) ?_;refine U3 ?_;refine .al fun b9=> ?_;refine U15 ?_;refine .c rfl rfl rfl rfl (fun H hs=> .h (hbt H)) ?_;refine U10 ?_;refine .rt hK func50 results50 [_,_,_] ?_;exact okB
 · have ev:k.spareV z sf=spare3 [] false k.alarm:=if_pos ha;rw[ev];refine .en func50 ntmps50 fun St c cs hK=> ?_;refine U2 ?_;refine .bo fun b3=> ?_;refine .bo fun b5=> ?_;refine .al fun b6=> ?_;refine .al fun b7=> ?_;refine .al fun b8=> ?_;refine U4 ?_;refine .c rfl rfl rfl rfl (fun H hs=> .h (open_alarm M H k A lc B tc true (hk.le hs.base) hn (glob_le hG hs.base) ha)) ?_;refine U3 ?_;refine .al fun b9=> ?_;refine U13 ?_;refine Tc.drE [3] [1,2,3] [2,3] mixed rfl ?_;refine .nn 0 ?_;refine Ta.each [1] (by kernel_rfl) rfl ⟨TaOp.mk rfl rfl rfl (.st 3 (zz:=⟨S2.mk (by apply List.Sublist.cons_cons;apply List.Sublist.cons;apply List.Sublist.cons;apply List.Sublist.cons;exact List.Sublist.refl _) (.inr (by apply List.Sublist.cons_cons;apply List.Sublist.cons_cons;apply List.Sublist.cons;apply List.Sublist.cons;exact List.Sublist.refl _)),?_⟩)),trivial⟩;refine Ta.each [2] (by kernel_rfl) rfl ⟨TaOp.mk rfl rfl rfl (.st 2 (zz:=⟨S2.mk (by apply List.Sublist.cons_cons;apply List.Sublist.cons;apply List.Sublist.cons;apply List.Sublist.cons;exact List.Sublist.refl _) (.inr (by apply List.Sublist.cons_cons;apply List.Sublist.cons_cons;apply List.Sublist.cons;apply List.Sublist.cons;exact List.Sublist.refl _)),?_⟩)),trivial⟩;refine .e 3 1 ?_;refine .dn ?_;refine .rt hK func50 results50 [_,_,_] ?_;exact okB
end
end Go.Proofs.YtdnfdeplcjaonaaGreatDoor
namespace Go.RL
open Go.Conc
section
variable {P:Program}{E:Env P}{M:Md P}{n:Nat}{H₀:View}{R:Rg}{L:Bl}{o:Oper}{K:Rg→Bl→Prop}{d:Nat}
theorem Gl.bl_nodup {e:TypeId}{sz:Nat}(g:Gl e sz):(g.bl.map (·.1)).Nodup:=by
 unfold Gl.bl;split <;> simp
theorem Or.appendK(k:Nat){cl:Go.Call}{x y:Operand}{t xt e:TypeId}{sz m:Nat}{yv:Value}{new:List Value}{g:Gl e sz}{r re rx:TyRow}{ex:TypeId}(hop:o.op=.call cl)(hcl:cl.callee=.builtin .append)(hat:cl.argTypes=#[t,xt])(har:cl.args=#[x,y])
   (hx:evR R x=some g.val) (hy:evR R y=some yv) (ht:E.ty t=some r) (hds:r.ds=.slice e) (hre:E.ty e=some re) (hsz:re.size=sz) (hzs:Nat.beq re.zero.cells.toList.length sz=true) (hxt:E.ty xt=some rx) (hex:rx.ds=.slice ex) (hby:Nat.ble re.bytes 1000=true)
   (hL:L.drop k=g.bl) (hsrc:∀H,SymSt H₀ L H→SrcAt H sz yv m new) (hs:new.all single=true) (hm:g.n+m≤1000000000) (hd:o.dst=some d) (hn:d<n)
   (hk1:∀g':Gl e sz,g'.n=g.n+m→g'.l=g.l++new→g'.blk=g.blk→g'.cap=g.cap→K ((d,g'.val)::R) (L.take k++g'.bl))
   (hk2:∀g':Gl e sz,g'.n=g.n+m→g'.l=g.l++new→K ((d,g'.val)::R) (L++g'.bl)):Or M n H₀ R L o K:=
 .val hd hn fun H tmps hst hr=> by
   have hLe:L=L.take k++g.bl:=by rw[←hL,List.take_append_drop]
   have hst0:=hst;unfold execOp;rw[hop];simp only[resolve,hcl,hat,har];have hm':Array.map (evT tmps) #[x,y]=#[g.val,yv]:=by simp[hr.ev hx,hr.ev hy]
   rw[hm'];rw[hLe] at hst;refine vwp_bind (Builtin.append_ #[t,xt] o.type #[g.val,yv]) _ ?_;refine vwp_appendC ht hds hre hsz (Nat.eq_of_beq_eq_true hzs) ⟨rx,ex,hxt,hex⟩ (Nat.le_of_ble_eq_true hby) hm (fun z hz=> hst.at_ z (by simp[hz])) (hsrc H hst0) hs fun g' H' h1 h2 h3 h4 h5=> ?_;cases hb:g'.blk with
   | none=>
     have hbl:g'.bl= []:=by unfold Gl.bl;rw[hb]
     have hHH:H'=H:=funext fun c=> h4 c (fun b hbb=> by rw[hb] at hbb;cases hbb);subst hHH;refine⟨_,rfl,L,hst0,?_⟩;have:=hk2 g' h1 h2
     rwa [hbl,List.append_nil] at this
   | some b=>
     rcases h3 b hb with ⟨h6,h7⟩|h6
     · exact⟨_,rfl,_,hst.grown (fun b hbb=> (h3 b hbb).imp And.left id) h4 h5,hk1 g' h1 h2 (hb.trans h6.symm) h7⟩
     · have hbl:g'.bl= [(b,true,.cells ⟨g'.l++g'.junk⟩ e (0,0))]:=by unfold Gl.bl;rw[hb]
       have hle:H.le H':=fun c z hc=> by
         rw[h4 c (fun b' hb'=> by
           rw[hb] at hb';cases hb'
           rintro rfl;rw[h6] at hc;cases hc)]
         exact hc
       refine⟨_,rfl,_,hst0.more hle g'.bl_nodup (fun y hy=> ⟨h5 y hy,?_⟩),hk2 g' h1 h2⟩;rw[hbl,List.mem_singleton] at hy;subst hy;exact h6
end
end Go.RL
namespace Go.Proofs.YtdnfdeplcjaonaaGreatDoor
open Go.RL Go.Proofs.Tryz
set_option maxRecDepth 10000
set_option maxHeartbeats 16000000
def StrsAt(H:View)(F:Option Addr)(n:Nat)(x:Nat→List UInt8):Prop:=
 n=0∨∃b o f gs gt gz,F=some ⟨b,o,none⟩∧H b=some (f,.cells ⟨gs⟩ gt gz)∧∀j:Nat,j<n→ldL false 1 gs (o+(j:Int).toNat*1)=some (strV (x j))
theorem StrsAt.le {H H':View}{F:Option Addr}{n:Nat}{x:Nat→List UInt8}(h:StrsAt H F n x)(k:H.le H'):StrsAt H' F n x:=
 h.imp id fun⟨b,o,f,gs,gt,gz,h1,h2,h3⟩=> ⟨b,o,f,gs,gt,gz,h1,k _ _ h2,h3⟩
def weightOk(x:Int):Bool:=decide (0≤x∧x≤99)
section
variable(M:Md prog)(H:View)
theorem IndexI_c(F:Option Addr)(n fc:Nat)(x:Nat→Int)(hF:FreeAt H F n x)(hn:n≤1000000)(fv:Value)(p:Nat→Bool)(hp:∀j,j<n→∀H',H.le H'→FnT M fv [.int .i64 (x j)] H' fun v H''=> H'.le H''∧v=.bool (p j)):
   CallT M 187 #[.slice F n fc,fv] H (fun v H'=> H.le H'∧v=.int .i64 (firstI (firstTo p n))):=by
 refine .en func187 ntmps187 fun St c cs hK=> ?_;refine U12 ?_;refine Tc.db (Tc.loopInv (σ:= { j:Nat//j≤n∧firstTo p j=none }) (fun j=> ([(0,.slice F n fc),(1,fv),(7,.int .i64 (n:Nat)),(8,.int .i64 (j.1:Nat))],[])) (fun j=> n-j.1) ?_ ⟨0,Nat.zero_le _,rfl⟩);rintro⟨j,hj,hno⟩ ih;show Tc M St _ _ _ _ [(0,.slice F n fc),(1,fv),(7,.int .i64 (n:Nat)),(8,.int .i64 (j:Nat))] [] _ _;by_cases c1:j=n
 · subst c1;rw[hno] at hK;refine U11 ?_;refine .rt hK func187 results187 [_] ?_;exact okB
 · have c2:j<n:=by omega
   obtain h0|⟨ab,ao,f,gs,gt,gz,rfl,hb,hl⟩:=hF
   · omega
   have f1:=hl j c2;have hpj:=hp j c2;cases hpp:p j with
   | true=>
     rw[hpp] at hpj;have e:firstTo p n=some j:=firstTo_stays (j:=j+1) (by simp[firstTo,hno,hpp]) _ (by omega);rw[e] at hK;refine U21 ?_;refine .c rfl rfl rfl rfl (fun H hs=> hpj H hs.base) ?_;refine U7 ?_;refine .rt hK func187 results187 [_] ?_;exact okB
   | false=>
     rw[hpp] at hpj;refine U21 ?_;refine .c rfl rfl rfl rfl (fun H hs=> hpj H hs.base) ?_;refine U8 ?_;exact Tc.db (ih ⟨j+1,by omega,by simp[firstTo,hno,hpp]⟩ (by simp only;omega))
theorem ContainsI_c(F:Option Addr)(n fc:Nat)(x:Nat→Int)(hF:FreeAt H F n x)(hn:n≤1000000)(fv:Value)(p:Nat→Bool)(hp:∀j,j<n→∀H',H.le H'→FnT M fv [.int .i64 (x j)] H' fun v H''=> H'.le H''∧v=.bool (p j)):
   CallT M 120 #[.slice F n fc,fv] H (fun v H'=> H.le H'∧v=.bool (firstTo p n).isSome):=by
 have hi:=fun(H':View) (h':H.le H')=> IndexI_c M H' F n fc x (hF.le h') hn fv p (fun j hj H'' h''=> hp j hj H'' (View.le_trans h' h''));cases hq:firstTo p n with
 | none=>
   rw[hq] at hi;have e:firstI none= -1:=rfl;rw[e] at hi;refine .en func120 ntmps120 fun St c cs hK=> ?_;refine U8 ?_;refine .c rfl rfl rfl rfl (fun H hs=> .h (hi H hs.base)) ?_;refine U3 ?_;refine .rt hK func120 results120 [_] ?_;exact okB
 | some j=>
   rw[hq] at hi;have e:firstI (some j)=(j:Nat):=rfl;rw[e] at hi;refine .en func120 ntmps120 fun St c cs hK=> ?_;refine U8 ?_;refine .c rfl rfl rfl rfl (fun H hs=> .h (hi H hs.base)) ?_;refine U3 ?_;refine .rt hK func120 results120 [_] ?_;exact okB
theorem IndexS_c(F:Option Addr)(n fc:Nat)(x:Nat→List UInt8)(hF:StrsAt H F n x)(hn:n≤1000000)(fv:Value)(p:Nat→Bool)(hp:∀j,j<n→∀H',H.le H'→FnT M fv [strV (x j)] H' fun v H''=> H'.le H''∧v=.bool (p j)):
   CallT M 188 #[.slice F n fc,fv] H (fun v H'=> H.le H'∧v=.int .i64 (firstI (firstTo p n))):=by
 refine .en func188 ntmps188 fun St c cs hK=> ?_;refine U12 ?_;refine Tc.db (Tc.loopInv (σ:= { j:Nat//j≤n∧firstTo p j=none }) (fun j=> ([(0,.slice F n fc),(1,fv),(7,.int .i64 (n:Nat)),(8,.int .i64 (j.1:Nat))],[])) (fun j=> n-j.1) ?_ ⟨0,Nat.zero_le _,rfl⟩);rintro⟨j,hj,hno⟩ ih;show Tc M St _ _ _ _ [(0,.slice F n fc),(1,fv),(7,.int .i64 (n:Nat)),(8,.int .i64 (j:Nat))] [] _ _;by_cases c1:j=n
 · subst c1;rw[hno] at hK;refine U11 ?_;refine .rt hK func188 results188 [_] ?_;exact okB
 · have c2:j<n:=by omega
   obtain h0|⟨ab,ao,f,gs,gt,gz,rfl,hb,hl⟩:=hF
   · omega
   have f1:=hl j c2;have hpj:=hp j c2;cases hpp:p j with
   | true=>
     rw[hpp] at hpj;have e:firstTo p n=some j:=firstTo_stays (j:=j+1) (by simp[firstTo,hno,hpp]) _ (by omega);rw[e] at hK;refine U21 ?_;refine .c rfl rfl rfl rfl (fun H hs=> hpj H hs.base) ?_;refine U7 ?_;refine .rt hK func188 results188 [_] ?_;exact okB
   | false=>
     rw[hpp] at hpj;refine U21 ?_;refine .c rfl rfl rfl rfl (fun H hs=> hpj H hs.base) ?_;refine U8 ?_;exact Tc.db (ih ⟨j+1,by omega,by simp[firstTo,hno,hpp]⟩ (by simp only;omega))
theorem ContainsS_c(F:Option Addr)(n fc:Nat)(x:Nat→List UInt8)(hF:StrsAt H F n x)(hn:n≤1000000)(fv:Value)(p:Nat→Bool)(hp:∀j,j<n→∀H',H.le H'→FnT M fv [strV (x j)] H' fun v H''=> H'.le H''∧v=.bool (p j)):
   CallT M 125 #[.slice F n fc,fv] H (fun v H'=> H.le H'∧v=.bool (firstTo p n).isSome):=by
 have hi:=fun(H':View) (h':H.le H')=> IndexS_c M H' F n fc x (hF.le h') hn fv p (fun j hj H'' h''=> hp j hj H'' (View.le_trans h' h''));cases hq:firstTo p n with
 | none=>
   rw[hq] at hi;have e:firstI none= -1:=rfl;rw[e] at hi;refine .en func125 ntmps125 fun St c cs hK=> ?_;refine U8 ?_;refine .c rfl rfl rfl rfl (fun H hs=> .h (hi H hs.base)) ?_;refine U3 ?_;refine .rt hK func125 results125 [_] ?_;exact okB
 | some j=>
   rw[hq] at hi;have e:firstI (some j)=(j:Nat):=rfl;rw[e] at hi;refine .en func125 ntmps125 fun St c cs hK=> ?_;refine U8 ?_;refine .c rfl rfl rfl rfl (fun H hs=> .h (hi H hs.base)) ?_;refine U3 ?_;refine .rt hK func125 results125 [_] ?_;exact okB
theorem weightBad_c(x:Int):CallT M 121 #[.int .i64 x] H (fun v H'=> H.le H'∧v=.bool (!weightOk x)):=by
 cases h:weightOk x with
 | true=>
   refine .en func121 ntmps121 fun St c cs hK=> ?_;refine U7 ?_;refine .c rfl rfl rfl rfl (fun H hs=> .h (between_is M H x 0 99 true h)) ?_;refine U3 ?_;refine .rt hK func121 results121 [_] ?_;exact okB
 | false=>
   refine .en func121 ntmps121 fun St c cs hK=> ?_;refine U7 ?_;refine .c rfl rfl rfl rfl (fun H hs=> .h (between_is M H x 0 99 false h)) ?_;refine U3 ?_;refine .rt hK func121 results121 [_] ?_;exact okB
theorem near_c(s:List UInt8)(b:Nat)(f:Bool)(hb:H b=some (f,.cells ⟨[strV s]⟩ 9 (0,0)))(o:List UInt8):
   CallT M 126 #[strV o,.pointer (some ⟨b,0,none⟩)] H (fun v H'=> H.le H'∧v=.bool (clash1 o s)):=by
 cases h1:begins o s with
 | true=>
   have e:clash1 o s=true:=by unfold clash1;rw[h1];rfl
   rw[e];refine .en func126 ntmps126 fun St c cs hK=> ?_;refine U8 ?_;refine .c rfl rfl rfl rfl (fun H hs=> .h (HasPrefix_is M H o s true h1)) ?_;refine U7 ?_;refine .rt hK func126 results126 [_] ?_;exact okB
 | false=>
   have e:clash1 o s=begins s o:=by unfold clash1;rw[h1];rfl
   rw[e];refine .en func126 ntmps126 fun St c cs hK=> ?_;refine U8 ?_;refine .c rfl rfl rfl rfl (fun H hs=> .h (HasPrefix_is M H o s false h1)) ?_;refine U3 ?_;refine .c rfl rfl rfl rfl (fun H hs=> .h (HasPrefix_c M H s o)) ?_;refine U3 ?_;refine .rt hK func126 results126 [_] ?_;exact okB
end
def strsV(l:List (List UInt8)):List Value:=l.map strV
theorem strsV_len(l:List (List UInt8)):(strsV l).length=l.length:=by simp[strsV]
theorem strsV_app(l m:List (List UInt8)):strsV (l++m)=strsV l++strsV m:=by simp[strsV]
theorem strsV_single(l:List (List UInt8)):(strsV l).all single=true:=by
 rw[List.all_eq_true];intro x hx;obtain⟨s,_,rfl⟩:=List.mem_map.1 hx;rfl
def allB2(many:Nat)(dg:List UInt8)(s: { p:Nat×Nat//p.1≠p.2 }):Bl:= [(s.1.1,true,.cells ⟨[.int .i64 (many:Nat)]⟩ 3 (0,0)),(s.1.2,true,.cells ⟨[strV dg]⟩ 9 (0,0))]
theorem allB2_nodup(many:Nat)(dg:List UInt8)(s: { p:Nat×Nat//p.1≠p.2 }):((allB2 many dg s).map (·.1)).Nodup:=by
 obtain⟨⟨a,b⟩,h⟩:=s;simp only[allB2,List.map_cons,List.map_nil,List.nodup_cons,List.mem_singleton,List.not_mem_nil,not_false_eq_true,List.nodup_nil,and_true];exact h
section
variable(M:Md prog)(H:View)
theorem all_n(many:Nat)(dg:List UInt8):CallT M 116 #[.int .i64 (many:Nat),strV dg] H (fun v H'=> H.le H'∧∃s: { p:Nat×Nat//p.1≠p.2 },v=allF s.1.1 s.1.2∧True∧∀y∈allB2 many dg s,H' y.1=some y.2∧H y.1=none):=by
 refine .en func116 ntmps116 fun St c cs hK=> ?_;refine U2 ?_;refine .bo fun b2=> ?_;refine .bo fun b3=> ?_;refine U7 ?_;refine .rt hK func116 results116 [_] ?_;intro H' hs;have hnd:=hs.nodup;have hne:b2≠b3:=by
   simp only[List.map_cons,List.map_nil,List.nodup_cons,List.mem_singleton] at hnd;exact fun e=> hnd.1 e.symm
 refine⟨hs.base,⟨(b2,b3),hne⟩,rfl,trivial,fun y hy=> ?_⟩;have hy':y=(b2,true,.cells ⟨[.int .i64 (many:Nat)]⟩ 3 (0,0))∨y=(b3,true,.cells ⟨[strV dg]⟩ 9 (0,0)):=by simpa [allB2] using hy
 rcases hy' with rfl|rfl
 · exact⟨hs.get (i:=1) rfl,hs.out _ (List.mem_cons_of_mem _ (List.mem_cons_self ..))⟩
 · exact⟨hs.get (i:=0) rfl,hs.out _ (List.mem_cons_self ..)⟩
def SeqQ(H₁:View)(g:Gl 9 1)(l xs:List (List UInt8))(v:Value)(H3:View):Prop:=
 ∃(g':Gl 9 1) (H₂:View),v=g'.val∧H₁.le H₂∧SymSt H₂ g'.bl H3∧g'.l=strsV (l++xs)∧g'.n=g.n+xs.length
theorem AppendSeq_c(g:Gl 9 1)(l:List (List UInt8))(hg:g.l=strsV l)(hgn:g.n≤100000)(many:Nat)(dg:List UInt8)(hm:many≤1000)(hdg:dg.all dig=true)(hdl:dg.length≤1000)(hal:(allL dg many).length≤100000)(a1 a2:Nat)(H₁ Hc:View)(hcap:CapA many dg a1 a2 H₁)(hsy:SymSt H₁ g.bl Hc):
   CallT M 122 #[g.val,allF a1 a2] Hc (SeqQ H₁ g l (allL dg many)):=by
 have hit:=fun(H':View) (_:CapA many dg a1 a2 H')=> all_it M H' many dg hm hdg hdl a1 a2;refine CallT.enter (vs:= [g.val,allF a1 a2]) func122 rfl ntmps122 (Nat.le_of_ble_eq_true rfl) (hsy) fun St c cs hK=> ?_;refine U2 ?_;refine .bo fun b2=> ?_;refine U8 ?_;refine Tc.db (R':= [(2,.pointer (some ⟨b2,0,none⟩)),(6,allF a1 a2)]) (L':= [(b2,true,.cells ⟨[g.val]⟩ 33 (0,0))]++g.bl) ?_;refine Tc.rangeL (A:= []) (ts:= [7]) (xs:=allL dg many) (fun rest H₄ L₄=> ∃(g':Gl 9 1) (dn:List (List UInt8)),L₄= [(b2,true,.cells ⟨[g'.val]⟩ 33 (0,0))]++g'.bl∧g'.l=strsV (l++dn)∧g'.n=g.n+dn.length∧dn++rest=allL dg many∧CapA many dg a1 a2 H₄∧H₁.le H₄) (fun _ _ _=> False) rfl rfl rfl rfl hit (fun _ _=> CapA.le _ _) (fun _ _ _ ⟨_,_,_,_,_,_,h,_⟩=> h) rfl (fun _ _=> rfl)
     ⟨g,[],rfl,by rw[List.append_nil];exact hg,rfl,rfl,hcap,View.le_refl _⟩ ?_ ?_ (fun _ _ _ _ h=> h.elim)
 · rintro r x rest _ lp tmps asg bdy H₄ _ hx ⟨g',dn,rfl,q1,q2,q3,q4,q5⟩ Q St1 cc1 cs1 hK1 q q';have hdl2:dn.length≤100000:=by
     have:=congrArg List.length q3;rw[List.length_append] at this;omega
   refine U3 ?_;refine Tc.beginRound (i:=0) rfl rfl rfl ?_;refine U4 ?_;refine .e (.bs (zz:=fun bs=> ?_));refine .e (Or.append (E:=en) 4 rfl rfl rfl rfl rfl rfl rfl rfl rfl rfl rfl rfl rfl rfl rfl (fun H hs=> SrcAt.of (hs.get (i:=0) rfl) (Nat.le_of_ble_eq_true rfl)) rfl (by omega) rfl (by decide) (fun g2 hn2 hl2=> ?_));refine U3 ?_;refine Tc.leaveRound hK1 (i:=1) rfl (.inl ⟨rfl,rfl⟩) (fun H' hs=> q H' H₄ _ (hs.less (by apply List.Sublist.cons;exact List.Sublist.refl _)) ⟨g2,dn++[x],rfl,by rw[hl2,q1,←List.append_assoc,strsV_app (l++dn) [x]];rfl,by rw[hn2,q2,List.length_append];rfl,by rw[List.append_assoc];exact q3,q4,q5⟩)
 · rintro r H₄ _ ⟨g',dn,rfl,q1,q2,q3,q4,q5⟩;rw[List.append_nil] at q3;subst q3;refine U6 ?_;refine Tc.retD (E:=en) (i:=0) hK func122 results122 (vs:= [_]) rfl ⟨rfl,trivial⟩ ?_;exact fun H' hs=> ⟨g',H₄,rfl,q5,hs.less (by apply List.Sublist.cons;apply List.Sublist.cons;exact List.Sublist.refl _),q1,q2⟩
theorem cloneS_c(a:Option Addr)(m ca:Nat)(l:List Value)(hm:m≤100000)(hs0:SrcAt H 1 (.slice a m ca) m l)(h1:l.all single=true):CallT M 124 #[.slice a m ca] H (fun v H'=> H.le H'∧∃g:Gl 9 1,v=g.val∧(g.l=l∧g.n=m)∧∀x∈g.bl,H' x.1=some x.2∧H x.1=none):=by
 refine .en func124 ntmps124 fun St c cs hK=> ?_;cases a with
 | none=>
   refine U8 ?_;refine .x (OpV.eqNil (E:=en) rfl rfl rfl rfl rfl) ?_;refine U6 ?_;refine .rt hK func124 results124 [_] ?_;obtain⟨_,h2,h3|⟨b,off,_,_,_,_,_,h3,_⟩⟩:=hs0
   · obtain⟨_,_,_,rfl⟩:=h3;have:m=0:=by simp at h2;omega
     subst this;exact fun H' hs'=> ⟨hs'.base,Gl.nil 9 1,rfl,⟨rfl,rfl⟩,by simp[Gl.nil,Gl.bl]⟩
   · cases h3
 | some a=>
   refine U8 ?_;refine .x (OpV.eqNil (E:=en) rfl rfl rfl rfl rfl) ?_;refine U5 ?_;refine .e (.bs (zz:=fun bs=> ?_));refine U ?_;refine .e (Or.append (E:=en) (g:=Gl.emp 9 1 bs) 0 rfl rfl rfl rfl rfl rfl rfl rfl rfl rfl rfl rfl rfl rfl rfl (fun H' hs'=> hs0.mono hs'.base) h1 (by show 0+m≤_;omega) rfl (by decide) (fun g' hn hl=> ?_));refine U2 ?_;refine .rt hK func124 results124 [_] ?_;exact fun H' hs'=> ⟨hs'.base,g',rfl,⟨by rw[hl];rfl,by rw[hn];show 0+m=m;omega⟩,fun x hx=> ⟨hs'.at_ x hx,hs'.out x hx⟩⟩
end
end Go.Proofs.YtdnfdeplcjaonaaGreatDoor
namespace Go.RL
open Go.Conc
section
variable {P:Program}{M:Md P}{St:View→Goroutine→Prop}{n:Nat}{b:FB}{H₀:View}{cs:List Frame}{R:Rg}{L L₁:Bl}{ds:List Deferred}{k:List Item}{md:Region.Mode}{ops:Array Oper}{S:Array Bool→View→Prop}{fuel:Nat}{listed:Array Bool}
theorem Ta.permL(p:L₁.Perm L)(h:Ta M St n b H₀ cs S md ops fuel listed R L₁ ds k):Ta M St n b H₀ cs S md ops fuel listed R L ds k:=fun H tmps hs=> h H tmps (hs.perm p)
end
end Go.RL
namespace Go.Proofs.YtdnfdeplcjaonaaGreatDoor
open Go.RL Go.Proofs.Tryz
set_option maxRecDepth 10000
set_option maxHeartbeats 16000000
theorem perm3(A:Bl)(x y z:Nat×Bool×Obj)(B:Bl):(A++(x::y::z::B)).Perm (x::y::z::(A++B)):=by
 refine List.perm_middle.trans (.cons _ ?_);refine List.perm_middle.trans (.cons _ ?_);exact List.perm_middle
theorem perm4(u v:Nat×Bool×Obj)(A:Bl)(x y z:Nat×Bool×Obj)(B:Bl):((x::y::z::A)++(u::v::B)).Perm (([u,v]++A)++([x,y,z]++B)):=by
 simp only[List.cons_append,List.nil_append];have h1:(A++(x::y::z::B)).Perm (x::y::z::(A++B)):=perm3 A x y z B;have h2:(x::y::z::(A++u::v::B)).Perm (u::v::x::y::z::(A++B)):=by
   have h3:(A++u::v::B).Perm (u::v::(A++B)):=List.perm_middle.trans (.cons _ List.perm_middle);have h4:(x::y::z::(A++u::v::B)).Perm (x::y::z::u::v::(A++B)):=.cons _ (.cons _ (.cons _ h3));refine h4.trans ?_;have h5:([x,y,z]++u::v::(A++B)).Perm (u::([x,y,z]++v::(A++B))):=List.perm_middle;have h6:([x,y,z]++v::(A++B)).Perm (v::([x,y,z]++(A++B))):=List.perm_middle;exact h5.trans (.cons _ h6)
 exact h2.trans (.cons _ (.cons _ h1.symm))
theorem wmul {a:Int}{t:Nat}(h:0≤a∧a≤99)(ht:t≤30):0≤a*(t:Nat)∧a*(t:Nat)≤2970:=by
 have h1:(0:Int)≤(t:Nat):=Int.natCast_nonneg t;have h2:((t:Nat):Int)≤30:=by omega
 refine⟨Int.mul_nonneg h.1 h1,?_⟩;have h3:=Int.mul_le_mul h.2 h2 h1 (by omega:(0:Int)≤99);omega
theorem Gl.back {e:TypeId}{g g':Gl e 1}(new:List Value)(h1:g'.blk=g.blk)(h2:g'.n=g.n+new.length)(h3:g'.cap=g.cap)(h4:g'.l=g.l++new):∃g5:Gl e 1,g5.blk=g.blk∧g5.n=g.n∧g5.cap=g.cap∧g5.l=g.l∧g5.bl=g'.bl:=by
 have hl:=g.hl;have hl':=g'.hl;have hj':=g'.hj;have hc':=g'.hc;refine⟨⟨g.blk,g.n,g.cap,g.l,new++g'.junk,g.hl,g.hc,?_,g.h0⟩,rfl,rfl,rfl,rfl,?_⟩
 · rw[List.length_append,hj',h2,h3];omega
 · unfold Gl.bl;simp only;rw[h1,h4];cases g.blk with
   | none=> rfl
   | some b=> simp
theorem strs_of(g:Gl 9 1){H:View}(h:∀x∈g.bl,H x.1=some x.2){l:List (List UInt8)}(hl:g.l=strsV l){g0:Gl 9 1}(hn:g.n=g0.n)(hb:g.blk=g0.blk):StrsAt H (g0.blk.map fun b=> ⟨b,0,none⟩) g0.n (fun j=> l[j]?.getD []):=by
 have hgl:=g.hl;rw[hl,strsV_len] at hgl;cases hbb:g0.blk with
 | none=>
   have:=g.h0 (hb.trans hbb);have:=g.hc;exact .inl (by omega)
 | some b=>
   have hbl:g.bl= [(b,true,.cells ⟨g.l++g.junk⟩ 9 (0,0))]:=by unfold Gl.bl;rw[hb,hbb]
   refine .inr ⟨b,0,true,_,9,(0,0),rfl,h (b,true,.cells ⟨g.l++g.junk⟩ 9 (0,0)) (by rw[hbl];simp),fun j hj=> ?_⟩;show(g.l++g.junk)[_]? =_;have hjl:j<l.length:=by omega
   rw[Nat.zero_add,Int.toNat_natCast,Nat.mul_one,List.getElem?_append_left (by rw[hl,strsV_len];exact hjl),hl];unfold strsV;rw[List.getElem?_map];simp only[List.getElem?_eq_getElem hjl];rfl
structure ChSt where
 done:Bool
 total:Int
 best:List (List UInt8)
def ChSt.al(s:ChSt):Int:=if s.done then 0 else 9
def nearL(l:List (List UInt8))(s:List UInt8):Bool:=(firstTo (fun j=> clash1 (l[j]?.getD []) s) l.length).isSome
def cheapGo(can:List (List UInt8))(w:Nat→Int):Nat→List (List UInt8)→Int→ChSt→ChSt
 | 0,l,sum,st=> if st.done=true∧sum≥st.total then st else⟨true,sum,l⟩
 | d+1,l,sum,st=> if st.done=true∧sum≥st.total then st else can.foldl (fun st s=> if nearL l s then st else cheapGo can w d (l++[s]) (sum+w l.length*(takenN s:Nat)) st) st
def ptr(b:Nat):Value:=.pointer (some ⟨b,0,none⟩)
def cheapF(b8 b7 b3 b6 b9 b11:Nat):Value:=.func (.func 123) #[] #[ptr b8,ptr b7,ptr b3,ptr b6,ptr b9,ptr b11]
def stB(st:ChSt)(num:Value)(b8 b7 b6:Nat):Bl:= [(b8,true,.cells ⟨[.int .i64 st.al]⟩ 29 (0,0)),(b7,true,.cells ⟨[.int .i64 st.total]⟩ 3 (0,0)),(b6,true,.cells ⟨num.cells.toList⟩ 33 (0,0))]
def numV(a:Option Addr)(n c:Nat):Value:=.slice a n c
structure ChCap(can:List (List UInt8))(w:Nat→Int)(nw:Nat)(b8 b7 b3 b6 b9 b11:Nat)(cA wA:Option Addr)(cc wc:Nat)(H:View):Prop where
 f:∃f,H b11=some (f,.cells ⟨[cheapF b8 b7 b3 b6 b9 b11]⟩ 171 (0,0))
 c:∃f,H b9=some (f,.cells ⟨[.slice cA can.length cc]⟩ 33 (0,0))
 g:∃f,H b3=some (f,.cells ⟨[.slice wA nw wc]⟩ 26 (0,0))
 cs:StrsAt H cA can.length (fun i=> can[i]?.getD [])
 ws:FreeAt H wA nw w
theorem ChCap.le {can:List (List UInt8)}{w:Nat→Int}{nw b8 b7 b3 b6 b9 b11:Nat}{cA wA:Option Addr}{cc wc:Nat}{H H':View}(h:ChCap can w nw b8 b7 b3 b6 b9 b11 cA wA cc wc H)(k:H.le H'):ChCap can w nw b8 b7 b3 b6 b9 b11 cA wA cc wc H':=
 ⟨h.f.imp fun _ e=> k _ _ e,h.c.imp fun _ e=> k _ _ e,h.g.imp fun _ e=> k _ _ e,h.cs.le k,h.ws.le k⟩
def ChQ(H₁:View)(g:Gl 9 1)(st:ChSt)(b8 b7 b6:Nat)(v:Value)(H3:View):Prop:=
 v=.tuple ⟨[]⟩∧∃(H₂:View) (g':Gl 9 1) (a:Option Addr) (n c:Nat),H₁.le H₂∧SymSt H₂ (stB st (numV a n c) b8 b7 b6++g'.bl) H3∧(g'.blk=g.blk∧g'.n=g.n∧g'.cap=g.cap∧g'.l=g.l)∧(n=st.best.length∧SrcAt H₂ 1 (numV a n c) n (strsV st.best))
theorem foldl_at {α β:Type}(f:β→α→β)(l:List α)(i:Nat)(b:β){x:α}(h:l[i]? =some x):(l.drop i).foldl f b=(l.drop (i+1)).foldl f (f b x):=by
 obtain⟨hi,rfl⟩:=List.getElem?_eq_some_iff.1 h;rw[List.drop_eq_getElem_cons hi,List.foldl_cons]
theorem Gl.val_of {e:TypeId}{sz:Nat}{g g':Gl e sz}(h:g'.blk=g.blk∧g'.n=g.n∧g'.cap=g.cap∧g'.l=g.l):g'.val=g.val:=by
 unfold Gl.val;rw[h.1,h.2.1,h.2.2.1]
def canStep(can:List (List UInt8))(w:Nat→Int)(d:Nat)(l:List (List UInt8))(sum:Int)(st:ChSt)(s:List UInt8):ChSt:=if nearL l s then st else cheapGo can w d (l++[s]) (sum+w l.length*(takenN s:Nat)) st
section
variable(M:Md prog)
theorem more2_c(can:List (List UInt8))(w:Nat→Int)(nw:Nat)(b8 b7 b3 b6 b9 b11:Nat)(cA wA:Option Addr)(cc wc:Nat)(hnw:nw≤20)(hcan:can.length≤100000)(hcn:∀s∈can,s.all dig=true∧s.length≤3)(hw:∀i,i<nw→0≤w i∧w i≤99):
   ∀ (d:Nat) (g:Gl 9 1) (l:List (List UInt8)) (sum:Int) (st:ChSt) (a:Option Addr) (n c':Nat) (H₁ Hc:View),g.l=strsV l→l.length+d=nw→(0≤sum∧sum≤3000*(l.length:Nat))→ChCap can w nw b8 b7 b3 b6 b9 b11 cA wA cc wc H₁→n=st.best.length→SrcAt H₁ 1 (numV a n c') n (strsV st.best)→SymSt H₁ (stB st (numV a n c') b8 b7 b6++g.bl) Hc→
     CallT M 123 #[g.val,.int .i64 sum,ptr b8,ptr b7,ptr b3,ptr b6,ptr b9,ptr b11] Hc (ChQ H₁ g (cheapGo can w d l sum st) b8 b7 b6):=by
 intro d;induction d with
 | zero=>
   intro g l sum st a n c' H₁ Hc hg hld hsum hcap hn hsrc hsy;have hgn:g.n=l.length:=by have:=g.hl;rw[hg,strsV_len] at this;omega
   have hcap0:=hcap;obtain⟨⟨ff,hf⟩,⟨fc,hc⟩,⟨fg,hgw⟩,hcs,hws⟩:=hcap;obtain⟨dn,total,best⟩:=st;by_cases c1:dn=true∧sum≥total
   · obtain⟨rfl,c2⟩:=c1;have e:cheapGo can w 0 l sum ⟨true,total,best⟩=⟨true,total,best⟩:=if_pos ⟨rfl,c2⟩;rw[e];refine CallT.enter (vs:= [g.val,.int .i64 sum,ptr b8,ptr b7,ptr b3,ptr b6,ptr b9,ptr b11]) func123 rfl ntmps123 (Nat.le_of_ble_eq_true rfl) (hsy) fun St c cs hK=> ?_;unfold stB ptr;refine U12 ?_;refine .rt hK func123 results123 [] ?_;exact fun H' hs=> ⟨rfl,H₁,g,a,n,c',View.le_refl _,hs,⟨rfl,rfl,rfl,rfl⟩,hn,hsrc⟩
   · have e:cheapGo can w 0 l sum ⟨dn,total,best⟩=⟨true,sum,l⟩:=if_neg c1;rw[e];clear e;cases dn with
     | false=>
       refine CallT.enter (vs:= [g.val,.int .i64 sum,ptr b8,ptr b7,ptr b3,ptr b6,ptr b9,ptr b11]) func123 rfl ntmps123 (Nat.le_of_ble_eq_true rfl) (hsy) fun St c cs hK=> ?_;unfold stB ptr;refine U26 ?_;refine .e (Or.callNew Gl.val Gl.bl (fun g2:Gl 9 1=> g2.l=strsV l∧g2.n=g.n) rfl rfl rfl rfl rfl (by decide) Gl.bl_nodup (fun H hs=> .h (cloneS_c M H (g.blk.map fun b=> ⟨b,0,none⟩) g.n g.cap (strsV l) (by omega) (by rw[←hg];exact g.src (fun x hx=> hs.at_ x (List.mem_append_right _ hx))) (strsV_single l))) (fun g2 hg2=> ?_));refine U5 ?_;refine .rt hK func123 results123 [] ?_;intro H' hs;obtain⟨H₂,h1,h2⟩:=SymSt.unappend (B:= [(b8,true,.cells ⟨[.int .i64 0]⟩ 29 (0,0)),(b7,true,.cells ⟨[.int .i64 sum]⟩ 3 (0,0)),(b6,true,.cells ⟨[g2.val]⟩ 33 (0,0))]++g.bl) (L:=g2.bl) hs;refine⟨rfl,H₂,g,g2.blk.map (fun b=> ⟨b,0,none⟩),g2.n,g2.cap,h2.base,h1,⟨rfl,rfl,rfl,rfl⟩,by rw[hg2.2];exact hgn,?_⟩;have h3:=g2.src (H:=H₂) (fun x hx=> h2.at_ x hx);rw[hg2.1] at h3;exact h3
     | true=>
       have c2:intBin .geq .i64 sum (ChSt.mk true total best).total=some (.bool false):=geq_f (Int.lt_of_not_ge fun h=> c1 ⟨rfl,h⟩);refine CallT.enter (vs:= [g.val,.int .i64 sum,ptr b8,ptr b7,ptr b3,ptr b6,ptr b9,ptr b11]) func123 rfl ntmps123 (Nat.le_of_ble_eq_true rfl) (hsy) fun St c cs hK=> ?_;unfold stB ptr;refine U26 ?_;refine .e (Or.callNew Gl.val Gl.bl (fun g2:Gl 9 1=> g2.l=strsV l∧g2.n=g.n) rfl rfl rfl rfl rfl (by decide) Gl.bl_nodup (fun H hs=> .h (cloneS_c M H (g.blk.map fun b=> ⟨b,0,none⟩) g.n g.cap (strsV l) (by omega) (by rw[←hg];exact g.src (fun x hx=> hs.at_ x (List.mem_append_right _ hx))) (strsV_single l))) (fun g2 hg2=> ?_));refine U5 ?_;refine .rt hK func123 results123 [] ?_;intro H' hs;obtain⟨H₂,h1,h2⟩:=SymSt.unappend (B:= [(b8,true,.cells ⟨[.int .i64 0]⟩ 29 (0,0)),(b7,true,.cells ⟨[.int .i64 sum]⟩ 3 (0,0)),(b6,true,.cells ⟨[g2.val]⟩ 33 (0,0))]++g.bl) (L:=g2.bl) hs;refine⟨rfl,H₂,g,g2.blk.map (fun b=> ⟨b,0,none⟩),g2.n,g2.cap,h2.base,h1,⟨rfl,rfl,rfl,rfl⟩,by rw[hg2.2];exact hgn,?_⟩;have h3:=g2.src (H:=H₂) (fun x hx=> h2.at_ x hx);rw[hg2.1] at h3;exact h3
 | succ d ihd=>
   intro g l sum st a n c' H₁ Hc hg hld hsum hcap hn hsrc hsy;have hgn:g.n=l.length:=by have:=g.hl;rw[hg,strsV_len] at this;omega
   have hcap0:=hcap;obtain⟨⟨ff,hf⟩,⟨fc,hc⟩,⟨fg,hgw⟩,hcs,hws⟩:=hcap;obtain⟨dn,total,best⟩:=st;by_cases c1:dn=true∧sum≥total
   · obtain⟨rfl,c2⟩:=c1;have e:cheapGo can w (d+1) l sum ⟨true,total,best⟩=⟨true,total,best⟩:=if_pos ⟨rfl,c2⟩;rw[e];refine CallT.enter (vs:= [g.val,.int .i64 sum,ptr b8,ptr b7,ptr b3,ptr b6,ptr b9,ptr b11]) func123 rfl ntmps123 (Nat.le_of_ble_eq_true rfl) (hsy) fun St c cs hK=> ?_;unfold stB ptr;refine U12 ?_;refine .rt hK func123 results123 [] ?_;exact fun H' hs=> ⟨rfl,H₁,g,a,n,c',View.le_refl _,hs,⟨rfl,rfl,rfl,rfl⟩,hn,hsrc⟩
   · have e:cheapGo can w (d+1) l sum ⟨dn,total,best⟩=can.foldl (canStep can w d l sum) ⟨dn,total,best⟩:=if_neg c1;rw[e];clear e;cases dn with
     | false =>
       refine CallT.enter (vs:= [g.val,.int .i64 sum,ptr b8,ptr b7,ptr b3,ptr b6,ptr b9,ptr b11]) func123 rfl ntmps123 (Nat.le_of_ble_eq_true rfl) (hsy) fun St c cs hK=> ?_;unfold stB ptr;refine U31 ?_;refine Tc.db (Tc.loopB (σ:= { y:View×Nat×ChSt×Gl 9 1×(Option Addr×Nat×Nat)//H₁.le y.1∧y.2.1≤can.length∧(can.drop y.2.1).foldl (canStep can w d l sum) y.2.2.1=can.foldl (canStep can w d l sum) (⟨false,total,best⟩:ChSt)∧(y.2.2.2.1.blk=g.blk∧y.2.2.2.1.n=g.n∧y.2.2.2.1.cap=g.cap∧y.2.2.2.1.l=g.l)∧(y.2.2.2.2.2.1=y.2.2.1.best.length∧SrcAt y.1 1 (numV y.2.2.2.2.1 y.2.2.2.2.2.1 y.2.2.2.2.2.2) y.2.2.2.2.2.1 (strsV y.2.2.1.best)) })
         (fun y=> (y.1.1,[(0,g.val),(1,.int .i64 sum),(2,.pointer (some ⟨b8,0,none⟩)),(3,.pointer (some ⟨b7,0,none⟩)),(4,.pointer (some ⟨b3,0,none⟩)),(5,.pointer (some ⟨b6,0,none⟩)),(6,.pointer (some ⟨b9,0,none⟩)),(7,.pointer (some ⟨b11,0,none⟩)),(27,.slice cA can.length cc),(28,.int .i64 (can.length:Nat)),(29,.int .i64 (y.1.2.1:Nat))],[(b8,true,.cells ⟨[.int .i64 y.1.2.2.1.al]⟩ 29 (0,0)),(b7,true,.cells ⟨[.int .i64 y.1.2.2.1.total]⟩ 3 (0,0)),(b6,true,.cells ⟨[numV y.1.2.2.2.2.1 y.1.2.2.2.2.2.1 y.1.2.2.2.2.2.2]⟩ 33 (0,0))]++y.1.2.2.2.1.bl)) (fun y=> can.length-y.1.2.1) ?_ ⟨(H₁,0,(⟨false,total,best⟩:ChSt),g,(a,n,c')),View.le_refl _,Nat.zero_le _,rfl,⟨rfl,rfl,rfl,rfl⟩,hn,hsrc⟩)
       rintro⟨⟨H₂,i,st,g2,a2,n2,c2'⟩,p1,p2,p3,p4,p5,p6⟩ ih;simp only at p1 p2 p3 p4 p5 p6;show Tc M St _ _ H₂ _ [(0,g.val),(1,.int .i64 sum),(2,.pointer (some ⟨b8,0,none⟩)),(3,.pointer (some ⟨b7,0,none⟩)),(4,.pointer (some ⟨b3,0,none⟩)),(5,.pointer (some ⟨b6,0,none⟩)),(6,.pointer (some ⟨b9,0,none⟩)),(7,.pointer (some ⟨b11,0,none⟩)),(27,.slice cA can.length cc),(28,.int .i64 (can.length:Nat)),(29,.int .i64 (i:Nat))] ([(b8,true,.cells ⟨[.int .i64 st.al]⟩ 29 (0,0)),(b7,true,.cells ⟨[.int .i64 st.total]⟩ 3 (0,0)),(b6,true,.cells ⟨[numV a2 n2 c2']⟩ 33 (0,0))]++g2.bl) _ _;by_cases d1:i=can.length
       · have e:can.foldl (canStep can w d l sum) (⟨false,total,best⟩:ChSt)=st:=by rw[←p3,d1,List.drop_length];rfl
         rw[e] at hK;subst d1;refine U7 ?_;refine .ov hK func123 results123 [] ?_;exact fun H' hs=> ⟨rfl,H₂,g2,a2,n2,c2',p1,hs,p4,p5,p6⟩
       · have d2:i<can.length:=by omega
         obtain⟨s,hs0⟩:∃s,can[i]? =some s:=⟨_,List.getElem?_eq_getElem d2⟩
         have hsm:=hcn s (List.mem_of_getElem? hs0);have htk:=takenN_le s hsm.1;obtain h0|⟨cb,co,fcb,cgs,cgt,cgz,rfl,hcb,hcl⟩:=hcs
         · omega
         have f1:=hcl i d2;simp only[hs0,Option.getD_some] at f1;have hcb2:=p1 _ _ hcb;rw[foldl_at _ _ _ _ hs0] at p3;have hgv:=Gl.val_of p4;have hnear:=fun(H':View) (bx:Nat) (fx:Bool) (hg2:∀x∈g2.bl,H' x.1=some x.2) (hbx:H' bx=some (fx,.cells ⟨[strV s]⟩ 9 (0,0)))=> ContainsS_c M H' (g.blk.map fun b=> ⟨b,0,none⟩) g.n g.cap (fun j=> l[j]?.getD []) (strs_of g2 hg2 (p4.2.2.2.trans hg) (p4.2.1) p4.1) (by omega) (.func (.func 126) #[] #[.pointer (some ⟨bx,0,none⟩)]) (fun j=> clash1 (l[j]?.getD []) s) (fun j _ H'' h''=> FnT.of (first:= []) (captured:= [_]) ca126 rfl (near_c M H'' s bx fx (h'' _ _ hbx) (l[j]?.getD [])));have hnl:(firstTo (fun j=> clash1 (l[j]?.getD []) s) g.n).isSome=nearL l s:=by unfold nearL;rw[hgn]
         cases hq:nearL l s with
         | true=>
           have e3:canStep can w d l sum st s=st:=by unfold canStep;rw[if_pos hq]
           rw[e3] at p3;rw[hq] at hnl;refine U13 ?_;refine .al fun bx=> ?_;refine U7 ?_;refine .c rfl rfl rfl rfl (fun H hs=> .h (isB (hnear H bx true (fun x hx=> hs.at_ x (List.mem_cons_of_mem _ (List.mem_append_right _ hx))) (hs.get (i:=0) rfl)) hnl)) ?_;refine U7 ?_;exact Tc.db (ih ⟨(H₂,i+1,st,g2,(a2,n2,c2')),p1,by simp only;omega,p3,p4,p5,p6⟩ (by simp only;omega))
         | false=>
           have e3:canStep can w d l sum st s=cheapGo can w d (l++[s]) (sum+w l.length*(takenN s:Nat)) st:=by unfold canStep;rw[if_neg (by rw[hq];decide)]
           rw[e3] at p3;rw[hq] at hnl;have hwl:=hw l.length (by omega);have hmul0:0≤w l.length*(takenN s:Nat)∧w l.length*(takenN s:Nat)≤2970:=wmul hwl (by omega);have hcap2:=hcap0.le p1;obtain⟨⟨ff2,hf2⟩,⟨fc2,hc2⟩,⟨fg2,hgw2⟩,_,hws2⟩:=hcap2;obtain h0|⟨wb,wo,fwb,wgs,wgt,wgz,rfl,hwb,hwl2⟩:=hws2
           · omega
           have f2:=hwl2 l.length (by omega);rw[←hgn] at f2;have f3:intBin .mul .i64 (w g.n) (takenN s:Nat)=some (.int .i64 (w l.length*(takenN s:Nat))):=by rw[hgn];exact mul_in (by omega) (by omega)
           have f4:intBin .add .i64 sum (w l.length*(takenN s:Nat))=some (.int .i64 (sum+w l.length*(takenN s:Nat))):=add_in (by omega) (by omega);refine U13 ?_;refine .al fun bx=> ?_;refine U7 ?_;refine .c rfl rfl rfl rfl (fun H hs=> .h (isB (hnear H bx true (fun x hx=> hs.at_ x (List.mem_cons_of_mem _ (List.mem_append_right _ hx))) (hs.get (i:=0) rfl)) hnl)) ?_;refine U3 ?_;refine Tc.drT [4] [15] [] 4 mixed rfl ?_;refine .ow 0 ?_;refine .oo 1 ?_;refine .oo 2 ?_;refine .ow 5 ?_;refine .ow 6 ?_;refine .ow 7 ?_;refine .ow 8 ?_;refine .ow 9 ?_;refine .ow 10 ?_;refine .ow 11 ?_;refine Ta.each [3] (by kernel_rfl) rfl ⟨TaOp.mk rfl rfl rfl (.bs (zz:=fun bs=> ⟨S3.mk (by apply List.Sublist.cons;exact List.sublist_append_left _ _) (.inr (by apply List.Sublist.cons;exact List.Sublist.refl _)),?_⟩)),trivial⟩;refine Ta.each [4] (by kernel_rfl) rfl ⟨TaOp.mk rfl rfl rfl (Or.appendK (E:=en) (g:=g2) (m:=1) (new:= [strV s]) (yv:=.slice (some ⟨bs,0,none⟩) 1 1) 5 rfl rfl rfl rfl (by rw[hgv];rfl) rfl rfl rfl rfl rfl rfl rfl rfl rfl rfl (fun H hs=> SrcAt.of (hs.get (i:=0) rfl) (Nat.le_of_ble_eq_true rfl)) rfl (by omega) rfl (by decide) (fun g3 hn3 hl3 hb3 hc3=> ⟨S3.mk (by apply List.Sublist.cons;exact List.sublist_append_left _ _) (.inl (by kernel_rfl)),?_⟩) (fun g3 hn3 hl3=> ⟨S3.mk (by apply List.Sublist.cons;exact List.sublist_append_left _ _) (.inl (by kernel_rfl)),?_⟩)),trivial⟩
           · refine Ta.tkwC 12 (by kernel_rfl) rfl rfl rfl (by decide) rfl rfl (OpV.takeCall rfl rfl rfl rfl (fun H hs=> .h (taken_c M H s hsm.1 (by omega)))) ?_;refine .ow 13 ?_;refine .ow 14 ?_;refine Ta.lift (L₂:= [(bs,true,.cells ⟨[strV s]⟩ 9 (0,0)),(bx,true,.cells ⟨[strV s]⟩ 9 (0,0))]) (L₁:= [(b8,true,.cells ⟨[.int .i64 st.al]⟩ 29 (0,0)),(b7,true,.cells ⟨[.int .i64 st.total]⟩ 3 (0,0)),(b6,true,.cells ⟨[numV a2 n2 c2']⟩ 33 (0,0))]++g3.bl) rfl (fun Hx hx=> ?_);refine Ta.callF 15 (by kernel_rfl) rfl (by kernel_rfl) rfl rfl rfl rfl rfl rfl (by decide) (FnT.of (first:= []) (captured:= [_,_,_,_,_,_]) ca123 rfl (ihd g3 (l++[s]) _ st a2 n2 c2' H₂ Hx (by rw[hl3,p4.2.2.2,hg,strsV_app];rfl) (by rw[List.length_append];show l.length+1+d=nw;omega) (by rw[List.length_append];show _∧_≤3000*((l.length+1:Nat):Int);omega) (hcap0.le p1) p5 p6 hx)) (fun v H₃ hv=> ?_);obtain⟨_,H₄,g4,a4,n4,c4,r1,r2,r3,r4,r5⟩:=hv;refine Ta.expand r2 ?_;unfold stB;refine .dn ?_;refine U5 ?_;obtain⟨g5,s1,s2,s3,s4,s5⟩:=Gl.back (g:=g2) (g':=g4) [strV s] (r3.1.trans hb3) (by rw[r3.2.1,hn3];rfl) (by rw[r3.2.2.1,hc3]) (by rw[r3.2.2.2,hl3]);rw[←s5];exact Tc.db (ih ⟨(H₄,i+1,_,g5,(a4,n4,c4)),View.le_trans p1 r1,by simp only;omega,p3,⟨s1.trans p4.1,s2.trans p4.2.1,s3.trans p4.2.2.1,s4.trans p4.2.2.2⟩,r4,r5⟩ (by simp only;omega))
           · refine Ta.permL (L₁:=([(bs,true,.cells ⟨[strV s]⟩ 9 (0,0)),(bx,true,.cells ⟨[strV s]⟩ 9 (0,0))]++g2.bl)++([(b8,true,.cells ⟨[.int .i64 st.al]⟩ 29 (0,0)),(b7,true,.cells ⟨[.int .i64 st.total]⟩ 3 (0,0)),(b6,true,.cells ⟨[numV a2 n2 c2']⟩ 33 (0,0))]++g3.bl)) ?_ ?_
             · simp only[List.cons_append,List.nil_append];refine .cons _ (.cons _ ?_);exact perm3 g2.bl _ _ _ g3.bl
             · refine Ta.tkwC 12 (by kernel_rfl) rfl rfl rfl (by decide) rfl rfl (OpV.takeCall rfl rfl rfl rfl (fun H hs=> .h (taken_c M H s hsm.1 (by omega)))) ?_;refine .ow 13 ?_;refine .ow 14 ?_;refine Ta.lift (L₂:= [(bs,true,.cells ⟨[strV s]⟩ 9 (0,0)),(bx,true,.cells ⟨[strV s]⟩ 9 (0,0))]++g2.bl) (L₁:= [(b8,true,.cells ⟨[.int .i64 st.al]⟩ 29 (0,0)),(b7,true,.cells ⟨[.int .i64 st.total]⟩ 3 (0,0)),(b6,true,.cells ⟨[numV a2 n2 c2']⟩ 33 (0,0))]++g3.bl) rfl (fun Hx hx=> ?_);refine Ta.callF 15 (by kernel_rfl) rfl (by kernel_rfl) rfl rfl rfl rfl rfl rfl (by decide) (FnT.of (first:= []) (captured:= [_,_,_,_,_,_]) ca123 rfl (ihd g3 (l++[s]) _ st a2 n2 c2' H₂ Hx (by rw[hl3,p4.2.2.2,hg,strsV_app];rfl) (by rw[List.length_append];show l.length+1+d=nw;omega) (by rw[List.length_append];show _∧_≤3000*((l.length+1:Nat):Int);omega) (hcap0.le p1) p5 p6 hx)) (fun v H₃ hv=> ?_);obtain⟨_,H₄,g4,a4,n4,c4,r1,r2,r3,r4,r5⟩:=hv;refine Ta.expand r2 ?_;unfold stB;refine .dn ?_;refine U5 ?_;have hfin:=ih ⟨(H₄,i+1,_,g2,(a4,n4,c4)),View.le_trans p1 r1,by simp only;omega,p3,p4,r4,r5⟩ (by simp only;omega);refine Tc.permL (perm4 _ _ g2.bl _ _ _ g4.bl) ?_;exact Tc.db hfin
     | true=>
       have c2:intBin .geq .i64 sum (ChSt.mk true total best).total=some (.bool false):=geq_f (Int.lt_of_not_ge fun h=> c1 ⟨rfl,h⟩);refine CallT.enter (vs:= [g.val,.int .i64 sum,ptr b8,ptr b7,ptr b3,ptr b6,ptr b9,ptr b11]) func123 rfl ntmps123 (Nat.le_of_ble_eq_true rfl) (hsy) fun St c cs hK=> ?_;unfold stB ptr;refine U31 ?_;refine Tc.db (Tc.loopB (σ:= { y:View×Nat×ChSt×Gl 9 1×(Option Addr×Nat×Nat)//H₁.le y.1∧y.2.1≤can.length∧(can.drop y.2.1).foldl (canStep can w d l sum) y.2.2.1=can.foldl (canStep can w d l sum) (⟨true,total,best⟩:ChSt)∧(y.2.2.2.1.blk=g.blk∧y.2.2.2.1.n=g.n∧y.2.2.2.1.cap=g.cap∧y.2.2.2.1.l=g.l)∧(y.2.2.2.2.2.1=y.2.2.1.best.length∧SrcAt y.1 1 (numV y.2.2.2.2.1 y.2.2.2.2.2.1 y.2.2.2.2.2.2) y.2.2.2.2.2.1 (strsV y.2.2.1.best)) })
         (fun y=> (y.1.1,[(0,g.val),(1,.int .i64 sum),(2,.pointer (some ⟨b8,0,none⟩)),(3,.pointer (some ⟨b7,0,none⟩)),(4,.pointer (some ⟨b3,0,none⟩)),(5,.pointer (some ⟨b6,0,none⟩)),(6,.pointer (some ⟨b9,0,none⟩)),(7,.pointer (some ⟨b11,0,none⟩)),(27,.slice cA can.length cc),(28,.int .i64 (can.length:Nat)),(29,.int .i64 (y.1.2.1:Nat))],[(b8,true,.cells ⟨[.int .i64 y.1.2.2.1.al]⟩ 29 (0,0)),(b7,true,.cells ⟨[.int .i64 y.1.2.2.1.total]⟩ 3 (0,0)),(b6,true,.cells ⟨[numV y.1.2.2.2.2.1 y.1.2.2.2.2.2.1 y.1.2.2.2.2.2.2]⟩ 33 (0,0))]++y.1.2.2.2.1.bl)) (fun y=> can.length-y.1.2.1) ?_ ⟨(H₁,0,(⟨true,total,best⟩:ChSt),g,(a,n,c')),View.le_refl _,Nat.zero_le _,rfl,⟨rfl,rfl,rfl,rfl⟩,hn,hsrc⟩)
       rintro⟨⟨H₂,i,st,g2,a2,n2,c2'⟩,p1,p2,p3,p4,p5,p6⟩ ih;simp only at p1 p2 p3 p4 p5 p6;show Tc M St _ _ H₂ _ [(0,g.val),(1,.int .i64 sum),(2,.pointer (some ⟨b8,0,none⟩)),(3,.pointer (some ⟨b7,0,none⟩)),(4,.pointer (some ⟨b3,0,none⟩)),(5,.pointer (some ⟨b6,0,none⟩)),(6,.pointer (some ⟨b9,0,none⟩)),(7,.pointer (some ⟨b11,0,none⟩)),(27,.slice cA can.length cc),(28,.int .i64 (can.length:Nat)),(29,.int .i64 (i:Nat))] ([(b8,true,.cells ⟨[.int .i64 st.al]⟩ 29 (0,0)),(b7,true,.cells ⟨[.int .i64 st.total]⟩ 3 (0,0)),(b6,true,.cells ⟨[numV a2 n2 c2']⟩ 33 (0,0))]++g2.bl) _ _;by_cases d1:i=can.length
       · have e:can.foldl (canStep can w d l sum) (⟨true,total,best⟩:ChSt)=st:=by rw[←p3,d1,List.drop_length];rfl
         rw[e] at hK;subst d1;refine U7 ?_;refine .ov hK func123 results123 [] ?_;exact fun H' hs=> ⟨rfl,H₂,g2,a2,n2,c2',p1,hs,p4,p5,p6⟩
       · have d2:i<can.length:=by omega
         obtain⟨s,hs0⟩:∃s,can[i]? =some s:=⟨_,List.getElem?_eq_getElem d2⟩
         have hsm:=hcn s (List.mem_of_getElem? hs0);have htk:=takenN_le s hsm.1;obtain h0|⟨cb,co,fcb,cgs,cgt,cgz,rfl,hcb,hcl⟩:=hcs
         · omega
         have f1:=hcl i d2;simp only[hs0,Option.getD_some] at f1;have hcb2:=p1 _ _ hcb;rw[foldl_at _ _ _ _ hs0] at p3;have hgv:=Gl.val_of p4;have hnear:=fun(H':View) (bx:Nat) (fx:Bool) (hg2:∀x∈g2.bl,H' x.1=some x.2) (hbx:H' bx=some (fx,.cells ⟨[strV s]⟩ 9 (0,0)))=> ContainsS_c M H' (g.blk.map fun b=> ⟨b,0,none⟩) g.n g.cap (fun j=> l[j]?.getD []) (strs_of g2 hg2 (p4.2.2.2.trans hg) (p4.2.1) p4.1) (by omega) (.func (.func 126) #[] #[.pointer (some ⟨bx,0,none⟩)]) (fun j=> clash1 (l[j]?.getD []) s) (fun j _ H'' h''=> FnT.of (first:= []) (captured:= [_]) ca126 rfl (near_c M H'' s bx fx (h'' _ _ hbx) (l[j]?.getD [])));have hnl:(firstTo (fun j=> clash1 (l[j]?.getD []) s) g.n).isSome=nearL l s:=by unfold nearL;rw[hgn]
         cases hq:nearL l s with
         | true=>
           have e3:canStep can w d l sum st s=st:=by unfold canStep;rw[if_pos hq]
           rw[e3] at p3;rw[hq] at hnl;refine U13 ?_;refine .al fun bx=> ?_;refine U7 ?_;refine .c rfl rfl rfl rfl (fun H hs=> .h (isB (hnear H bx true (fun x hx=> hs.at_ x (List.mem_cons_of_mem _ (List.mem_append_right _ hx))) (hs.get (i:=0) rfl)) hnl)) ?_;refine U7 ?_;exact Tc.db (ih ⟨(H₂,i+1,st,g2,(a2,n2,c2')),p1,by simp only;omega,p3,p4,p5,p6⟩ (by simp only;omega))
         | false=>
           have e3:canStep can w d l sum st s=cheapGo can w d (l++[s]) (sum+w l.length*(takenN s:Nat)) st:=by unfold canStep;rw[if_neg (by rw[hq];decide)]
           rw[e3] at p3;rw[hq] at hnl;have hwl:=hw l.length (by omega);have hmul0:0≤w l.length*(takenN s:Nat)∧w l.length*(takenN s:Nat)≤2970:=wmul hwl (by omega);have hcap2:=hcap0.le p1;obtain⟨⟨ff2,hf2⟩,⟨fc2,hc2⟩,⟨fg2,hgw2⟩,_,hws2⟩:=hcap2;obtain h0|⟨wb,wo,fwb,wgs,wgt,wgz,rfl,hwb,hwl2⟩:=hws2
           · omega
           have f2:=hwl2 l.length (by omega);rw[←hgn] at f2;have f3:intBin .mul .i64 (w g.n) (takenN s:Nat)=some (.int .i64 (w l.length*(takenN s:Nat))):=by rw[hgn];exact mul_in (by omega) (by omega)
           have f4:intBin .add .i64 sum (w l.length*(takenN s:Nat))=some (.int .i64 (sum+w l.length*(takenN s:Nat))):=add_in (by omega) (by omega);refine U13 ?_;refine .al fun bx=> ?_;refine U7 ?_;refine .c rfl rfl rfl rfl (fun H hs=> .h (isB (hnear H bx true (fun x hx=> hs.at_ x (List.mem_cons_of_mem _ (List.mem_append_right _ hx))) (hs.get (i:=0) rfl)) hnl)) ?_;refine U3 ?_;refine Tc.drT [4] [15] [] 4 mixed rfl ?_;refine .ow 0 ?_;refine .oo 1 ?_;refine .oo 2 ?_;refine .ow 5 ?_;refine .ow 6 ?_;refine .ow 7 ?_;refine .ow 8 ?_;refine .ow 9 ?_;refine .ow 10 ?_;refine .ow 11 ?_;refine Ta.each [3] (by kernel_rfl) rfl ⟨TaOp.mk rfl rfl rfl (.bs (zz:=fun bs=> ⟨S3.mk (by apply List.Sublist.cons;exact List.sublist_append_left _ _) (.inr (by apply List.Sublist.cons;exact List.Sublist.refl _)),?_⟩)),trivial⟩;refine Ta.each [4] (by kernel_rfl) rfl ⟨TaOp.mk rfl rfl rfl (Or.appendK (E:=en) (g:=g2) (m:=1) (new:= [strV s]) (yv:=.slice (some ⟨bs,0,none⟩) 1 1) 5 rfl rfl rfl rfl (by rw[hgv];rfl) rfl rfl rfl rfl rfl rfl rfl rfl rfl rfl (fun H hs=> SrcAt.of (hs.get (i:=0) rfl) (Nat.le_of_ble_eq_true rfl)) rfl (by omega) rfl (by decide) (fun g3 hn3 hl3 hb3 hc3=> ⟨S3.mk (by apply List.Sublist.cons;exact List.sublist_append_left _ _) (.inl (by kernel_rfl)),?_⟩) (fun g3 hn3 hl3=> ⟨S3.mk (by apply List.Sublist.cons;exact List.sublist_append_left _ _) (.inl (by kernel_rfl)),?_⟩)),trivial⟩
           · refine Ta.tkwC 12 (by kernel_rfl) rfl rfl rfl (by decide) rfl rfl (OpV.takeCall rfl rfl rfl rfl (fun H hs=> .h (taken_c M H s hsm.1 (by omega)))) ?_;refine .ow 13 ?_;refine .ow 14 ?_;refine Ta.lift (L₂:= [(bs,true,.cells ⟨[strV s]⟩ 9 (0,0)),(bx,true,.cells ⟨[strV s]⟩ 9 (0,0))]) (L₁:= [(b8,true,.cells ⟨[.int .i64 st.al]⟩ 29 (0,0)),(b7,true,.cells ⟨[.int .i64 st.total]⟩ 3 (0,0)),(b6,true,.cells ⟨[numV a2 n2 c2']⟩ 33 (0,0))]++g3.bl) rfl (fun Hx hx=> ?_);refine Ta.callF 15 (by kernel_rfl) rfl (by kernel_rfl) rfl rfl rfl rfl rfl rfl (by decide) (FnT.of (first:= []) (captured:= [_,_,_,_,_,_]) ca123 rfl (ihd g3 (l++[s]) _ st a2 n2 c2' H₂ Hx (by rw[hl3,p4.2.2.2,hg,strsV_app];rfl) (by rw[List.length_append];show l.length+1+d=nw;omega) (by rw[List.length_append];show _∧_≤3000*((l.length+1:Nat):Int);omega) (hcap0.le p1) p5 p6 hx)) (fun v H₃ hv=> ?_);obtain⟨_,H₄,g4,a4,n4,c4,r1,r2,r3,r4,r5⟩:=hv;refine Ta.expand r2 ?_;unfold stB;refine .dn ?_;refine U5 ?_;obtain⟨g5,s1,s2,s3,s4,s5⟩:=Gl.back (g:=g2) (g':=g4) [strV s] (r3.1.trans hb3) (by rw[r3.2.1,hn3];rfl) (by rw[r3.2.2.1,hc3]) (by rw[r3.2.2.2,hl3]);rw[←s5];exact Tc.db (ih ⟨(H₄,i+1,_,g5,(a4,n4,c4)),View.le_trans p1 r1,by simp only;omega,p3,⟨s1.trans p4.1,s2.trans p4.2.1,s3.trans p4.2.2.1,s4.trans p4.2.2.2⟩,r4,r5⟩ (by simp only;omega))
           · refine Ta.permL (L₁:=([(bs,true,.cells ⟨[strV s]⟩ 9 (0,0)),(bx,true,.cells ⟨[strV s]⟩ 9 (0,0))]++g2.bl)++([(b8,true,.cells ⟨[.int .i64 st.al]⟩ 29 (0,0)),(b7,true,.cells ⟨[.int .i64 st.total]⟩ 3 (0,0)),(b6,true,.cells ⟨[numV a2 n2 c2']⟩ 33 (0,0))]++g3.bl)) ?_ ?_
             · simp only[List.cons_append,List.nil_append];refine .cons _ (.cons _ ?_);exact perm3 g2.bl _ _ _ g3.bl
             · refine Ta.tkwC 12 (by kernel_rfl) rfl rfl rfl (by decide) rfl rfl (OpV.takeCall rfl rfl rfl rfl (fun H hs=> .h (taken_c M H s hsm.1 (by omega)))) ?_;refine .ow 13 ?_;refine .ow 14 ?_;refine Ta.lift (L₂:= [(bs,true,.cells ⟨[strV s]⟩ 9 (0,0)),(bx,true,.cells ⟨[strV s]⟩ 9 (0,0))]++g2.bl) (L₁:= [(b8,true,.cells ⟨[.int .i64 st.al]⟩ 29 (0,0)),(b7,true,.cells ⟨[.int .i64 st.total]⟩ 3 (0,0)),(b6,true,.cells ⟨[numV a2 n2 c2']⟩ 33 (0,0))]++g3.bl) rfl (fun Hx hx=> ?_);refine Ta.callF 15 (by kernel_rfl) rfl (by kernel_rfl) rfl rfl rfl rfl rfl rfl (by decide) (FnT.of (first:= []) (captured:= [_,_,_,_,_,_]) ca123 rfl (ihd g3 (l++[s]) _ st a2 n2 c2' H₂ Hx (by rw[hl3,p4.2.2.2,hg,strsV_app];rfl) (by rw[List.length_append];show l.length+1+d=nw;omega) (by rw[List.length_append];show _∧_≤3000*((l.length+1:Nat):Int);omega) (hcap0.le p1) p5 p6 hx)) (fun v H₃ hv=> ?_);obtain⟨_,H₄,g4,a4,n4,c4,r1,r2,r3,r4,r5⟩:=hv;refine Ta.expand r2 ?_;unfold stB;refine .dn ?_;refine U5 ?_;have hfin:=ih ⟨(H₄,i+1,_,g2,(a4,n4,c4)),View.le_trans p1 r1,by simp only;omega,p3,p4,r4,r5⟩ (by simp only;omega);refine Tc.permL (perm4 _ _ g2.bl _ _ _ g4.bl) ?_;exact Tc.db hfin
end
end Go.Proofs.YtdnfdeplcjaonaaGreatDoor
namespace Go.Proofs.YtdnfdeplcjaonaaGreatDoor
open Go.RL Go.Proofs.Tryz
set_option maxRecDepth 10000
theorem less_cons(a b:UInt8)(x y:List UInt8):Op.bytesLess (a::x) (b::y)=(decide (a<b)||(a==b&&Op.bytesLess x y)):=rfl
theorem less_nil(s:List UInt8):Op.bytesLess s []=false:=by cases s <;> rfl
theorem u8_lt {a b:UInt8}:a<b↔a.toNat<b.toNat:=UInt8.lt_iff_toNat_lt
theorem less_trans:∀ {a b c:List UInt8},Op.bytesLess a b=true→Op.bytesLess b c=true→Op.bytesLess a c=true
 | _,[],_,h,_=> by rw[less_nil] at h;cases h
 | _,_::_,[],_,h=> by rw[less_nil] at h;cases h
 | [],_::_,_::_,_,_=> rfl
 | p ::a,q::b,r::c,h,k=> by
   rw[less_cons] at h k ⊢;simp only[Bool.or_eq_true,Bool.and_eq_true,decide_eq_true_eq,beq_iff_eq] at h k ⊢;rcases h with h|⟨rfl,h⟩
   · rcases k with k|⟨rfl,_⟩
     · exact .inl (UInt8.lt_trans h k)
     · exact .inl h
   · rcases k with k|⟨rfl,k⟩
     · exact .inl k
     · exact .inr ⟨rfl,less_trans h k⟩
theorem less_tri:∀ {a b:List UInt8},Op.bytesLess a b=false→Op.bytesLess b a=false→a=b
 | [],[],_,_=> rfl
 | [],_::_,h,_=> by cases h
 | _::_,[],_,h=> by cases h
 | p ::a,q::b,h,k=> by
   rw[less_cons] at h k;simp only[Bool.or_eq_false_iff,decide_eq_false_iff_not,Bool.and_eq_false_iff,beq_eq_false_iff_ne] at h k;have e:p=q:=by
     have h1:=h.1;have k1:=k.1;rw[u8_lt] at h1 k1;exact UInt8.toNat_inj.1 (by omega)
   subst e;have h2:=h.2.resolve_left (fun h=> h rfl);have k2:=k.2.resolve_left (fun h=> h rfl);rw[less_tri h2 k2]
theorem less_asym {a b:List UInt8}(h:Op.bytesLess a b=true):Op.bytesLess b a=false:=by
 cases k:Op.bytesLess b a with
 | false=> rfl
 | true=>
   have:=less_trans h k;rw[less_irr] at this;cases this
def rankS(S:List (List UInt8))(s:List UInt8):Nat:=S.countP fun t=> Op.bytesLess t s
theorem rank_le {a b:List UInt8}(h:Op.bytesLess a b=true):∀S:List (List UInt8),rankS S a≤rankS S b
 | []=> Nat.le_refl _
 | t ::S=> by
   have:=rank_le h S;unfold rankS at this ⊢;rw[List.countP_cons,List.countP_cons];by_cases k:Op.bytesLess t a=true
   · rw[if_pos k,if_pos (less_trans k h)];omega
   · rw[if_neg k];split <;> omega
theorem rank_lt {a b:List UInt8}(h:Op.bytesLess a b=true):∀S:List (List UInt8),a∈S→rankS S a<rankS S b
 | t ::S,hm=> by
   have hle:=rank_le h S;rcases List.mem_cons.1 hm with rfl|hm
   · unfold rankS at hle ⊢;rw[List.countP_cons,List.countP_cons,if_neg (by rw[less_irr];decide),if_pos h];omega
   · have:=rank_lt h S hm;unfold rankS at this ⊢;rw[List.countP_cons,List.countP_cons];by_cases k:Op.bytesLess t a=true
     · rw[if_pos k,if_pos (less_trans k h)];omega
     · rw[if_neg k];split <;> omega
def decS(S:List (List UInt8))(z:Int):List UInt8:=(S.find? fun s=> decide ((rankS S s:Int)=z)).getD []
theorem dec_rank {S:List (List UInt8)}{s:List UInt8}(h:s∈S):decS S (rankS S s:Nat)=s:=by
 unfold decS;cases hf:S.find? (fun t=> decide ((rankS S t:Int)=(rankS S s:Nat))) with
 | none=>
   have:=List.find?_eq_none.1 hf s h;simp at this
 | some t=>
   have h1:=List.mem_of_find?_eq_some hf;have h2:=List.find?_some hf;simp only[decide_eq_true_eq,Int.natCast_inj] at h2;show t=s;cases k:Op.bytesLess t s with
   | true=> have:=rank_lt k S h1;omega
   | false=>
     cases k2:Op.bytesLess s t with
     | true=> have:=rank_lt k2 S h;omega
     | false=> exact less_tri k k2
def codesS(S:List (List UInt8)):List Int:=S.map fun s=> ((rankS S s:Nat):Int)
theorem codes_dec(S:List (List UInt8)):(codesS S).map (decS S)=S:=by
 unfold codesS;rw[List.map_map];have:∀s∈S,(decS S∘fun s=> ((rankS S s:Nat):Int)) s=s:=fun s hs=> dec_rank hs;rw[List.map_congr_left this,List.map_id']
theorem codes_enc(S:List (List UInt8)):Enc (decS S) (codesS S):=by
 intro x hx y hy;obtain⟨s,hs,rfl⟩:=List.mem_map.1 hx;obtain⟨t,ht,rfl⟩:=List.mem_map.1 hy;rw[dec_rank hs,dec_rank ht];cases k:Op.bytesLess s t with
 | true=> exact(decide_eq_true (by have:=rank_lt k S hs;omega)).symm
 | false=>
   refine(decide_eq_false ?_).symm;intro hlt;cases k2:Op.bytesLess t s with
   | true=> have:=rank_lt k2 S ht;omega
   | false=>
     have:=less_tri k k2;subst this;omega
def leS(a b:List UInt8):Bool:=!Op.bytesLess b a
def insS(x:List UInt8):List (List UInt8)→List (List UInt8)
 | []=> [x]
 | y::t=> if leS x y then x::y::t else y::insS x t
def sortS:List (List UInt8)→List (List UInt8)
 | []=> []
 | x::t=> insS x (sortS t)
theorem insS_perm(x:List UInt8):∀l,(insS x l).Perm (x::l)
 | []=> .refl _
 | y::t=> by
   unfold insS;split
   · exact .refl _
   · exact(List.Perm.cons y (insS_perm x t)).trans (.swap ..)
theorem sortS_perm:∀l,(sortS l).Perm l
 | []=> .refl _
 | x::t=> (insS_perm x _).trans (.cons x (sortS_perm t))
theorem leS_trans {a b c:List UInt8}(h:leS a b=true)(k:leS b c=true):leS a c=true:=by
 unfold leS at *;simp only[Bool.not_eq_true'] at *;cases e:Op.bytesLess c a with
 | false=> rfl
 | true=>
   cases e2:Op.bytesLess b c with
   | true=> rw[less_trans e2 e] at h;cases h
   | false=>
     have:=less_tri e2 k;subst this;rw[e] at h;cases h
theorem leS_total {a b:List UInt8}(h:leS a b=false):leS b a=true:=by
 unfold leS at *;simp only[Bool.not_eq_true',Bool.not_eq_false'] at *;exact less_asym h
theorem insS_sorted(x:List UInt8):∀l:List (List UInt8),l.Pairwise (fun a b=> leS a b=true)→(insS x l).Pairwise (fun a b=> leS a b=true)
 | [],_=> List.pairwise_singleton _ _
 | y ::t,h=> by
   obtain⟨h1,h2⟩:=List.pairwise_cons.1 h;unfold insS;split
   · rename_i hx
     refine List.pairwise_cons.2 ⟨fun z hz=> ?_,h⟩;rcases List.mem_cons.1 hz with rfl|hz
     · exact hx
     · exact leS_trans hx (h1 z hz)
   · rename_i hx
     refine List.pairwise_cons.2 ⟨fun z hz=> ?_,insS_sorted x t h2⟩;rcases List.mem_cons.1 ((insS_perm x t).mem_iff.1 hz) with rfl|hz
     · exact leS_total (by simpa using hx)
     · exact h1 z hz
theorem sortS_sorted:∀l:List (List UInt8),(sortS l).Pairwise (fun a b=> leS a b=true)
 | []=> List.Pairwise.nil
 | x::t=> insS_sorted x _ (sortS_sorted t)
theorem sorted_uniq {l m:List (List UInt8)}(h:l.Perm m)(hl:l.Pairwise (fun a b=> leS a b=true))(hm:m.Pairwise (fun a b=> leS a b=true)):l=m:=
 List.Perm.eq_of_pairwise (le:=fun a b=> leS a b=true) (fun a b _ _ h1 h2=> by
   unfold leS at h1 h2;simp only[Bool.not_eq_true'] at h1 h2;exact less_tri h2 h1) hl hm h
theorem codes_sorted {S:List (List UInt8)}{m:List Int}{n:Nat}(hn:n=S.length)(ht:Turned 0 n (codesS S) m)(hs:Srt 0 n m):m.map (decS S)=sortS S:=by
 have hpm:m.Perm (codesS S):=List.perm_iff_count.2 ht.cnt;have hp:(m.map (decS S)).Perm S:=by
   have:=hpm.map (decS S)
   rwa [codes_dec] at this
 refine sorted_uniq (hp.trans (sortS_perm S).symm) ?_ (sortS_sorted S);rw[List.pairwise_map,List.pairwise_iff_getElem];intro i j hi hj hij;have hml:m.length=n:=by rw[ht.len,hn];simp[codesS]
 have h1:=hs i j (Nat.zero_le _) hij (by omega);unfold at0 at h1;rw[List.getElem?_eq_getElem hi,List.getElem?_eq_getElem hj] at h1;simp only[Option.getD_some] at h1;have h2:=(codes_enc S).turned ht m[j] (List.getElem_mem hj) m[i] (List.getElem_mem hi);unfold leS;rw[h2,decide_eq_false (by omega)];rfl
theorem strsL_codes(S:List (List UInt8)):strsL (decS S) (codesS S)=S.map strV:=by
 have:=congrArg (List.map strV) (codes_dec S);rw[List.map_map] at this;exact this
theorem strsL_map(dec:Int→List UInt8)(m:List Int):strsL dec m=(m.map dec).map strV:=by
 rw[List.map_map];rfl
theorem blockVia {P:Program}{M:Md P}{St:View→Goroutine→Prop}{n:Nat}{b:FB}{H₀:View}{cs:List Frame}{R:Rg}{L:Bl}{ds:List Deferred}{k:List Item}{id:Nat}{x:Code}(F:Rg→Bl→Prop)(hF:∀R L,F R L→Tc M St n b H₀ cs R L ds k)
   (h:(∀R L,F R L→Tc M St n b H₀ cs R L ds k)→Tc M St n b H₀ cs R L ds (.code x:: .inBlock id::k)):Tc M St n b H₀ cs R L ds (.code (.block id x)::k):=.block (h hF)
def Ahead(a b:Nat)(u:List Int):Prop:=a=0∨∀i,a≤i→i<b→at0 u (a-1)≤at0 u i
theorem srt_swap {a i p q:Nat}{w:List Int}(hp:i≤p∧p<w.length)(hq:i≤q∧q<w.length)(h:Srt a i w):Srt a i (swapL w p q):=fun x y h1 h2 h3=> by
 rw[swapL_at hp.2 hq.2,swapL_at hp.2 hq.2,if_neg (by omega),if_neg (by omega),if_neg (by omega),if_neg (by omega)];exact h x y h1 h2 h3
theorem srt_snoc {a i:Nat}{u:List Int}(h:Srt a i u)(hi:a<i)(hle:¬at0 u i<at0 u (i-1)):Srt a (i+1) u:=fun p q h1 h2 h3=> by
 by_cases e:q=i
 · subst e;by_cases e2:p=q-1
   · rw[e2];omega
   · have:=h p (q-1) h1 (by omega) (by omega);omega
 · exact h p q h1 h2 (by omega)
theorem at0_some {l:List Int}{i:Nat}(h:i<l.length):l[i]? =some (at0 l i):=by
 unfold at0;rw[List.getElem?_eq_getElem h];rfl
theorem Turned.get {a b:Nat}{l m:List Int}(h:Turned a b l m){i:Nat}(hi:i<a∨b≤i):m[i]? =l[i]? :=by
 by_cases c:i<l.length
 · rw[at0_some c,at0_some (by rw[h.len];exact c),h.out i hi]
 · have hl:=h.len;rw[List.getElem?_eq_none (by omega),List.getElem?_eq_none (by omega)]
theorem parts_eq(l:List Int){a b:Nat}(hab:a≤b):l=l.take a++((l.drop a).take (b-a)++l.drop b):=by
 have h1:l.drop b=(l.drop a).drop (b-a):=by rw[List.drop_drop];congr 1;omega
 rw[h1,List.take_append_drop,List.take_append_drop]
theorem Turned.mid {a b:Nat}{l m:List Int}(h:Turned a b l m)(hab:a≤b)(x:Int):((m.drop a).take (b-a)).count x=((l.drop a).take (b-a)).count x:=by
 have e1:m.take a=l.take a:=by
   apply List.ext_getElem?
   intro i;by_cases c:i<a
   · rw[List.getElem?_take_of_lt c,List.getElem?_take_of_lt c];exact h.get (.inl c)
   · rw[List.getElem?_eq_none (by rw[List.length_take];omega),List.getElem?_eq_none (by rw[List.length_take];omega)]
 have e2:m.drop b=l.drop b:=by
   apply List.ext_getElem?
   intro i;rw[List.getElem?_drop,List.getElem?_drop];exact h.get (.inr (by omega))
 have h1:=h.cnt x;have h2:=congrArg (List.count x) (parts_eq m hab);have h3:=congrArg (List.count x) (parts_eq l hab);simp only[List.count_append] at h2 h3;rw[e1,e2] at h2;omega
theorem Turned.all {a b:Nat}{l m:List Int}(h:Turned a b l m)(hb:b≤l.length){P:Int→Prop}(hP:∀p,a≤p→p<b→P (at0 l p)):∀p,a≤p→p<b→P (at0 m p):=fun p h1 h2=> by
 have g1:at0 m p∈(m.drop a).take (b-a):=by
   rw[List.mem_iff_getElem?];refine⟨p-a,?_⟩;rw[List.getElem?_take_of_lt (by omega),List.getElem?_drop,show a+(p-a)=p by omega];exact at0_some (by rw[h.len];omega)
 have g2:at0 m p∈(l.drop a).take (b-a):=by
   rw[←List.count_pos_iff,←h.mid (by omega)];exact List.count_pos_iff.2 g1
 obtain⟨i,hi⟩:=List.mem_iff_getElem?.1 g2;have hlt:i<b-a:=by
   have:=(List.getElem?_eq_some_iff.1 hi).1;rw[List.length_take] at this;omega
 rw[List.getElem?_take_of_lt hlt,List.getElem?_drop,at0_some (by omega)] at hi;have:=Option.some.inj hi;rw[←this];exact hP (a+i) (by omega) (by omega)
theorem Ahead.turn {a b:Nat}{u w:List Int}(h:Ahead a b u)(k:Turned a b u w)(hb:b≤u.length):Ahead a b w:=by
 rcases h with h|h
 · exact .inl h
 · by_cases h0:a=0
   · exact .inl h0
   · refine .inr fun i h1 h2=> ?_;rw[k.out (a-1) (.inl (by omega))];exact k.all hb (P:=fun x=> at0 u (a-1)≤x) h i h1 h2
def Heap(f lo hi:Nat)(l:List Int):Prop:=∀k c,lo≤k→(c=2*k+1∨c=2*k+2)→c<hi→at0 l (f+c)≤at0 l (f+k)
def HeapBut(f lo hi r:Nat)(l:List Int):Prop:=
 (∀k c,lo≤k→k≠r→(c=2*k+1∨c=2*k+2)→c<hi→at0 l (f+c)≤at0 l (f+k))∧
 (∀k c,lo≤k→(r=2*k+1∨r=2*k+2)→(c=2*r+1∨c=2*r+2)→c<hi→at0 l (f+c)≤at0 l (f+k))
theorem Heap.top {f hi:Nat}{l:List Int}(h:Heap f 0 hi l):∀k,k<hi→at0 l (f+k)≤at0 l f:=by
 intro k;induction k using Nat.strongRecOn with
 | ind k ih=>
   intro hk;by_cases h0:k=0
   · subst h0;exact Int.le_refl _
   · have h1:=h ((k-1)/2) k (Nat.zero_le _) (by omega) hk;have h2:=ih ((k-1)/2) (by omega) (by omega);omega
theorem HeapBut.fin {f lo hi r:Nat}{l:List Int}(h:HeapBut f lo hi r l)(hr:∀c,(c=2*r+1∨c=2*r+2)→c<hi→at0 l (f+c)≤at0 l (f+r)):Heap f lo hi l:=fun k c h1 h2 h3=> by
 by_cases e:k=r
 · subst e;exact hr c h2 h3
 · exact h.1 k c h1 e h2 h3
theorem HeapBut.step {f lo hi r c:Nat}{l:List Int}(h:HeapBut f lo hi r l)(hl:f+hi≤l.length)(hlr:lo≤r)(hc:c=2*r+1∨c=2*r+2)(hch:c<hi)(hlt:at0 l (f+r)<at0 l (f+c))
   (hmax:∀d,(d=2*r+1∨d=2*r+2)→d<hi→at0 l (f+d)≤at0 l (f+c)):HeapBut f lo hi c (swapL l (f+r) (f+c)):=by
 have hs:=fun q=> swapL_at (l:=l) (p:=f+r) (q:=f+c) (by omega) (by omega) q;refine⟨fun k d h1 h2 h3 h4=> ?_,fun k d h1 h2 h3 h4=> ?_⟩
 · rw[hs,hs,if_neg (show ¬f+k=f+c by omega)];by_cases e:k=r
   · subst e;rw[if_pos rfl];by_cases e2:d=c
     · subst e2;rw[if_pos rfl];omega
     · rw[if_neg (by omega),if_neg (by omega)];exact hmax d h3 h4
   · rw[if_neg (show ¬f+k=f+r by omega)];by_cases e2:d=c
     · omega
     · rw[if_neg (by omega)];by_cases e3:d=r
       · subst e3;rw[if_pos rfl];exact h.2 k c h1 h3 hc hch
       · rw[if_neg (by omega)];exact h.1 k d h1 e h3 h4
 · have e:k=r:=by omega
   subst e;rw[hs,hs,if_neg (by omega),if_neg (by omega),if_neg (by omega),if_pos rfl];exact h.1 c d (by omega) (by omega) h3 h4
structure Pti(a b i j:Nat)(u:List Int):Prop where
 ai:a+1≤i
 ij:i≤j+1
 jb:j<b
 aj:a≤j
 lo:∀k,a<k→k<i→at0 u k<at0 u a
 hi:∀k,j<k→k<b→at0 u a≤at0 u k
theorem Pti.start {a b:Nat}{u:List Int}(h:a<b):Pti a b (a+1) (b-1) u:=⟨Nat.le_refl _,by omega,by omega,by omega,fun k h1 h2=> by omega,fun k h1 h2=> by omega⟩
theorem Pti.up {a b i j:Nat}{u:List Int}(h:Pti a b i j u)(hij:i≤j)(hlt:at0 u i<at0 u a):Pti a b (i+1) j u:=
 ⟨by have:=h.ai;omega,by omega,h.jb,h.aj,fun k h1 h2=> by
   by_cases e:k=i
   · rw[e];exact hlt
   · exact h.lo k h1 (by omega),h.hi⟩
theorem Pti.down {a b i j:Nat}{u:List Int}(h:Pti a b i j u)(hij:i≤j)(hge:¬at0 u j<at0 u a):Pti a b i (j-1) u:=
 ⟨h.ai,by omega,by have:=h.jb;omega,by have:=h.ai;omega,h.lo,fun k h1 h2=> by
   by_cases e:k=j
   · rw[e];omega
   · exact h.hi k (by omega) h2⟩
theorem Pti.swap {a b i j:Nat}{u:List Int}(h:Pti a b i j u)(hl:b≤u.length)(hij:i≤j)(h1:¬at0 u i<at0 u a)(h2:at0 u j<at0 u a):i<j∧Pti a b (i+1) (j-1) (swapL u i j):=by
 have ha:=h.ai;have hb:=h.jb;have hne:i≠j:=by
   rintro rfl;omega
 have hs:=fun q=> swapL_at (l:=u) (p:=i) (q:=j) (by omega) (by omega) q;have h0:at0 (swapL u i j) a=at0 u a:=by rw[hs,if_neg (by omega),if_neg (by omega)]
 refine⟨by omega,⟨by omega,by omega,by omega,by omega,fun k h3 h4=> ?_,fun k h3 h4=> ?_⟩⟩
 · rw[h0,hs,if_neg (by omega)];by_cases e:k=i
   · rw[if_pos e];exact h2
   · rw[if_neg e];exact h.lo k h3 (by omega)
 · rw[h0,hs];by_cases e:k=j
   · rw[if_pos e];omega
   · rw[if_neg e,if_neg (by omega)];exact h.hi k (by omega) h4
structure Part(a b j:Nat)(u:List Int):Prop where
 aj:a≤j
 jb:j<b
 lo:∀k,a≤k→k<j→at0 u k<at0 u j
 hi:∀k,j<k→k<b→at0 u j≤at0 u k
theorem Pti.fin {a b i j:Nat}{u:List Int}(h:Pti a b i j u)(hl:b≤u.length)(hij:j<i):Part a b j (swapL u j a):=by
 have ha:=h.ai;have hb:=h.jb;have hj:=h.aj;have hi:=h.ij;have hs:=fun q=> swapL_at (l:=u) (p:=j) (q:=a) (by omega) (by omega) q;have h0:at0 (swapL u j a) j=at0 u a:=by
   rw[hs];by_cases e:j=a
   · rw[if_pos e,e]
   · rw[if_neg e,if_pos rfl]
 refine⟨hj,hb,fun k h3 h4=> ?_,fun k h3 h4=> ?_⟩
 · rw[h0,hs];by_cases e:k=a
   · rw[if_pos e];exact h.lo j (by omega) (by omega)
   · rw[if_neg e,if_neg (by omega)];exact h.lo k (by omega) (by omega)
 · rw[h0,hs,if_neg (by omega),if_neg (by omega)];exact h.hi k h3 h4
theorem Part.sorted {a b j:Nat}{u m w:List Int}(h:Part a b j u)(hl:b≤u.length)(h1:Turned a j u m)(s1:Srt a j m)(h2:Turned (j+1) b m w)(s2:Srt (j+1) b w):Turned a b u w∧Srt a b w:=by
 have hj:=h.aj;have hb:=h.jb;have hml:=h1.len;refine⟨(h1.wide (Nat.le_refl _) (by omega)).trans (h2.wide (by omega) (Nat.le_refl _)),fun p q g1 g2 g3=> ?_⟩;have ej:at0 w j=at0 u j:=by rw[h2.out j (.inl (by omega)),h1.out j (.inr (Nat.le_refl _))]
 have lo:∀k,a≤k→k<j→at0 w k≤at0 u j:=fun k c1 c2=> by
   rw[h2.out k (.inl (by omega))];exact h1.all (by omega) (P:=fun x=> x≤at0 u j) (fun k c3 c4=> Int.le_of_lt (h.lo k c3 c4)) k c1 c2
 have hi:∀k,j<k→k<b→at0 u j≤at0 w k:=fun k c1 c2=>
   h2.all (by omega) (P:=fun x=> at0 u j≤x) (fun k c3 c4=> by rw[h1.out k (.inr (by omega))];exact h.hi k (by omega) c4) k (by omega) c2
 by_cases c1:q<j
 · rw[h2.out p (.inl (by omega)),h2.out q (.inl (by omega))];exact s1 p q g1 g2 c1
 · by_cases c2:q=j
   · rw[c2,ej];exact lo p g1 (by omega)
   · by_cases c3:p<j
     · exact Int.le_trans (lo p g1 c3) (hi q (by omega) g3)
     · by_cases c4:p=j
       · rw[c4,ej];exact hi q (by omega) g3
       · exact s2 p q (by omega) g2 g3
theorem Part.sorted2 {a b j:Nat}{u m w:List Int}(h:Part a b j u)(hl:b≤u.length)(h1:Turned (j+1) b u m)(s1:Srt (j+1) b m)(h2:Turned a j m w)(s2:Srt a j w):Turned a b u w∧Srt a b w:=by
 have hj:=h.aj;have hb:=h.jb;have hml:=h1.len;refine⟨(h1.wide (by omega) (Nat.le_refl _)).trans (h2.wide (Nat.le_refl _) (by omega)),fun p q g1 g2 g3=> ?_⟩;have ej:at0 w j=at0 u j:=by rw[h2.out j (.inr (Nat.le_refl _)),h1.out j (.inl (by omega))]
 have lo:∀k,a≤k→k<j→at0 w k≤at0 u j:=fun k c1 c2=>
   h2.all (by omega) (P:=fun x=> x≤at0 u j) (fun k c3 c4=> by rw[h1.out k (.inl (by omega))];exact Int.le_of_lt (h.lo k c3 c4)) k c1 c2
 have hi:∀k,j<k→k<b→at0 u j≤at0 w k:=fun k c1 c2=> by
   rw[h2.out k (.inr (by omega))];exact h1.all (by omega) (P:=fun x=> at0 u j≤x) (fun k c3 c4=> h.hi k (by omega) c4) k (by omega) c2
 by_cases c1:q<j
 · exact s2 p q g1 g2 c1
 · by_cases c2:q=j
   · rw[c2,ej];exact lo p g1 (by omega)
   · by_cases c3:p<j
     · exact Int.le_trans (lo p g1 c3) (hi q (by omega) g3)
     · by_cases c4:p=j
       · rw[c4,ej];exact hi q (by omega) g3
       · rw[h2.out p (.inr (by omega)),h2.out q (.inr (by omega))];exact s1 p q (by omega) g2 g3
set_option maxHeartbeats 8000000
section
variable(M:Md prog)(H:View)
theorem reverseS_c(dec:Int→List UInt8)(sb:Nat)(l:List Int)(jj:List Value)(n cap a b:Nat)(hn:n=l.length)(hb:b≤n)(h1000:n≤100000000)(ha:a<b)(hS:H sb=some (true,.cells ⟨(strsL dec l)++jj⟩ 9 (0,0))):
   CallT M 202 #[.slice (some ⟨sb,0,none⟩) n cap,.int .i64 (a:Nat),.int .i64 (b:Nat)] H (SortSQ dec H sb jj (fun v m=> v=.tuple ⟨[]⟩∧Turned a b l m)):=by
 refine CallT.enter (vs:= [.slice (some ⟨sb,0,none⟩) n cap,.int .i64 (a:Nat),.int .i64 (b:Nat)]) func202 rfl ntmps202 (Nat.le_of_ble_eq_true rfl) (SymSt.pull hS) fun St c cs hK=> ?_;have hb1:((b:Nat):Int)-1=((b-1:Nat):Int):=by omega
 refine U11 ?_;rw[hb1];refine U ?_;refine Tc.db (Tc.loopInv (σ:= { s:Nat×Nat×List Int//a≤s.1∧s.1≤b∧a≤s.2.1∧s.2.1<b∧Turned a b l s.2.2 }) (fun s=> ([(0,.slice (some ⟨sb,0,none⟩) n cap),(6,.int .i64 (s.1.1:Nat)),(7,.int .i64 (s.1.2.1:Nat))],[(sb,true,.cells ⟨(strsL dec s.1.2.2)++jj⟩ 9 (0,0))])) (fun s=> s.1.2.1) ?_
   ⟨(a,b-1,l),by simp,by simp only;omega,by simp only;omega,by simp only;omega,Turned.refl ..⟩)
 rintro⟨⟨i,j,u⟩,g1,g2,g3,g4,g5⟩ ih;simp only at g1 g2 g3 g4 g5;show Tc M St _ _ _ _ [(0,.slice (some ⟨sb,0,none⟩) n cap),(6,.int .i64 (i:Nat)),(7,.int .i64 (j:Nat))] [(sb,true,.cells ⟨(strsL dec u)++jj⟩ 9 (0,0))] _ _;have hul:=g5.len;by_cases c1:i<j
 · have e1:((j:Nat):Int)-1=((j-1:Nat):Int):=by omega
   have k1:=cellsS_ld (dec:=dec) (m:=u) (j:=jj) (k:=(i:Nat)) (p:=i) rfl (by omega);have k2:=cellsS_ld (dec:=dec) (m:=u) (j:=jj) (k:=(j:Nat)) (p:=j) rfl (by omega);have s1:=cellsS_st (dec:=dec) (m:=u) (j:=jj) (k:=(i:Nat)) (x:=at0 u j) (p:=i) rfl (by omega);have s2:=cellsS_st (dec:=dec) (m:=u.set i (at0 u j)) (j:=jj) (k:=(j:Nat)) (x:=at0 u i) (p:=j) rfl (by rw[List.length_set];omega);have l1:=cellsS_le (dec:=dec) (m:=u) (j:=jj) (k:=(i:Nat)) (p:=i) rfl (by omega);have l2:=cellsS_le (dec:=dec) (m:=u.set i (at0 u j)) (j:=jj) (k:=(j:Nat)) (p:=j) rfl (by rw[List.length_set];omega);refine U11 ?_;refine Tc.dr [13,15] [0] mixed rfl ?_;refine .nn 0 ?_;refine .nn 1 ?_;refine .nw 2 ?_;refine .nw 3 ?_;refine .nn 4 ?_;refine .nn 5 ?_;refine .nn 6 ?_;refine .nn 7 ?_;refine .nw 8 ?_;refine .nw 9 ?_;refine .nw 10 ?_;refine .nn 11 ?_;refine .nn 12 ?_;refine .e 13 0 ?_;refine .nw 14 ?_;refine .e 15 0 ?_;refine .dn ?_;refine U11 ?_;rw[e1];refine U ?_;exact Tc.db (ih ⟨(i+1,j-1,swapL u i j),by simp only;omega,by simp only;omega,by simp only;omega,by simp only;omega,g5.trans (Turned.swap (by omega) (by omega) (by omega) (by omega))⟩ (by simp only;omega))
 · refine U9 ?_;refine .ov hK func202 results202 [] ?_;exact fun H' hs=> SortSQ.of (dec:=dec) hs (i:=0) rfl ⟨rfl,g5⟩
end
section
variable(M:Md prog)(H:View)
theorem siftDownS_c(dec:Int→List UInt8)(sb:Nat)(l:List Int)(jj:List Value)(n cap lo hi f:Nat)(hn:n=l.length)(hE:Enc dec l)(hf:f+hi≤n)(h1000:n≤100000000)(hlo:lo≤hi)(hH:HeapBut f lo hi lo l)(hS:H sb=some (true,.cells ⟨(strsL dec l)++jj⟩ 9 (0,0))):
   CallT M 232 #[.slice (some ⟨sb,0,none⟩) n cap,.int .i64 (lo:Nat),.int .i64 (hi:Nat),.int .i64 (f:Nat)] H (SortSQ dec H sb jj (fun v m=> v=.tuple ⟨[]⟩∧Turned f (f+hi) l m∧Heap f lo hi m)):=by
 refine CallT.enter (vs:= [.slice (some ⟨sb,0,none⟩) n cap,.int .i64 (lo:Nat),.int .i64 (hi:Nat),.int .i64 (f:Nat)]) func232 rfl ntmps232 (Nat.le_of_ble_eq_true rfl) (SymSt.pull hS) fun St c cs hK=> ?_;refine U6 ?_;refine Tc.db (Tc.loopInv (σ:= { s:Nat×List Int//lo≤s.1∧s.1≤hi∧Turned f (f+hi) l s.2∧HeapBut f lo hi s.1 s.2 }) (fun s=> ([(0,.slice (some ⟨sb,0,none⟩) n cap),(2,.int .i64 (hi:Nat)),(3,.int .i64 (f:Nat)),(8,.int .i64 (s.1.1:Nat))],[(sb,true,.cells ⟨(strsL dec s.1.2)++jj⟩ 9 (0,0))])) (fun s=> hi-s.1.1) ?_
   ⟨(lo,l),Nat.le_refl _,hlo,Turned.refl ..,hH⟩)
 rintro⟨⟨r,u⟩,g1,g2,g3,g4⟩ ih;simp only at g1 g2 g3 g4;have hul:=g3.len;have hEu:=hE.turned g3;have e1:2*((r:Nat):Int)+1=((2*r+1:Nat):Int):=by omega
 have e2:((2*r+1:Nat):Int)+1=((2*r+2:Nat):Int):=by omega
 show Tc M St _ _ _ _ [(0,.slice (some ⟨sb,0,none⟩) n cap),(2,.int .i64 (hi:Nat)),(3,.int .i64 (f:Nat)),(8,.int .i64 (r:Nat))] [(sb,true,.cells ⟨(strsL dec u)++jj⟩ 9 (0,0))] _ _;refine U4 ?_;refine .i ?_ (z:=mul_in (by omega) (by omega));refine U3 ?_;rw[e1];by_cases c0:2*r+1<hi
 · by_cases d1:2*r+2<hi
   · have k1:=cellsS_ld (dec:=dec) (m:=u) (j:=jj) (k:=(f:Nat)+((2*r+1:Nat):Int)) (p:=f+(2*r+1)) (by omega) (by omega);have k2:=cellsS_ld (dec:=dec) (m:=u) (j:=jj) (k:=(f:Nat)+((2*r+1:Nat):Int)+1) (p:=f+(2*r+2)) (by omega) (by omega);by_cases d2:at0 u (f+(2*r+1))<at0 u (f+(2*r+2))
     · have hmax:∀d,(d=2*r+1∨d=2*r+2)→d<hi→at0 u (f+d)≤at0 u (f+(2*r+2)):=by rintro d (rfl|rfl) _ <;> omega
       refine U11 ?_;refine Tc.dr [] [] mixed rfl ?_;refine .nn 0 ?_;refine .nn 1 ?_;refine .nn 2 ?_;refine .nn 3 ?_;refine .nn 4 ?_;refine .nn 5 ?_;refine .nn 6 ?_;refine .nn 7 ?_;refine .nn 8 ?_;refine .nn 9 ?_;refine .nn 10 ?_;refine .nn 11 ?_;refine .nn 12 ?_;refine .nn 13 ?_;refine .nn 14 ?_;refine .nn 15 ?_;refine .nn 16 ?_;refine .nn 17 ?_;refine .z 18 rfl (OpV.takeCall rfl rfl rfl rfl (fun H hs=> .h (lessS M H hEu (at0_mem (by omega)) (at0_mem (by omega)) true (decide_eq_true d2)))) ?_;refine .nn 19 ?_;refine .dn ?_;refine U6 ?_;rw[e2];refine U2 ?_;have hcv:2*r+2<hi:=by omega
       have k3:=cellsS_ld (dec:=dec) (m:=u) (j:=jj) (k:=(f:Nat)+(r:Nat)) (p:=f+r) (by omega) (by omega);have k4:=cellsS_ld (dec:=dec) (m:=u) (j:=jj) (k:=(f:Nat)+((2*r+2:Nat):Int)) (p:=f+(2*r+2)) (by omega) (by omega);by_cases d3:at0 u (f+r)<at0 u (f+(2*r+2))
       · have s1:=cellsS_st (dec:=dec) (m:=u) (j:=jj) (k:=(f:Nat)+(r:Nat)) (x:=at0 u (f+(2*r+2))) (p:=f+r) (by omega) (by omega);have s2:=cellsS_st (dec:=dec) (m:=u.set (f+r) (at0 u (f+(2*r+2)))) (j:=jj) (k:=(f:Nat)+((2*r+2:Nat):Int)) (x:=at0 u (f+r)) (p:=f+(2*r+2)) (by omega) (by rw[List.length_set];omega);have l1:=cellsS_le (dec:=dec) (m:=u) (j:=jj) (k:=(f:Nat)+(r:Nat)) (p:=f+r) (by omega) (by omega);have l2:=cellsS_le (dec:=dec) (m:=u.set (f+r) (at0 u (f+(2*r+2)))) (j:=jj) (k:=(f:Nat)+((2*r+2:Nat):Int)) (p:=f+(2*r+2)) (by omega) (by rw[List.length_set];omega);refine Tc.dr [] [] mixed rfl ?_;refine .nn 0 ?_;refine .nn 1 ?_;refine .nn 2 ?_;refine .nn 3 ?_;refine .nn 4 ?_;refine .nn 5 ?_;refine .nn 6 ?_;refine .nn 7 ?_;refine .nn 8 ?_;refine .nn 9 ?_;refine .nn 10 ?_;refine .nn 11 ?_;refine .z 12 rfl (OpV.takeCall rfl rfl rfl rfl (fun H hs=> .h (lessS M H hEu (at0_mem (by omega)) (at0_mem (by omega)) true (decide_eq_true d3)))) ?_;refine .nn 13 ?_;refine .dn ?_;refine U3 ?_;refine Tc.dr [21,23] [0] mixed rfl ?_;refine .nn 0 ?_;refine .nn 1 ?_;refine .nn 2 ?_;refine .nn 3 ?_;refine .nw 4 ?_;refine .nw 5 ?_;refine .nw 6 ?_;refine .nw 7 ?_;refine .nn 8 ?_;refine .nn 9 ?_;refine .nn 10 ?_;refine .nn 11 ?_;refine .nn 12 ?_;refine .nn 13 ?_;refine .nw 14 ?_;refine .nw 15 ?_;refine .nw 16 ?_;refine .nw 17 ?_;refine .nw 18 ?_;refine .nn 19 ?_;refine .nn 20 ?_;refine .e 21 0 ?_;refine .nw 22 ?_;refine .e 23 0 ?_;refine .dn ?_;refine U5 ?_;exact Tc.db (ih ⟨(2*r+2,swapL u (f+r) (f+(2*r+2))),by simp only;omega,by simp only;omega,g3.trans (Turned.swap (by omega) (by omega) (by omega) (by omega)),g4.step (by omega) g1 (by omega) hcv d3 hmax⟩ (by simp only;omega))
       · refine Tc.dr [] [] mixed rfl ?_;refine .nn 0 ?_;refine .nn 1 ?_;refine .nn 2 ?_;refine .nn 3 ?_;refine .nn 4 ?_;refine .nn 5 ?_;refine .nn 6 ?_;refine .nn 7 ?_;refine .nn 8 ?_;refine .nn 9 ?_;refine .nn 10 ?_;refine .nn 11 ?_;refine .z 12 rfl (OpV.takeCall rfl rfl rfl rfl (fun H hs=> .h (lessS M H hEu (at0_mem (by omega)) (at0_mem (by omega)) false (decide_eq_false d3)))) ?_;refine .nn 13 ?_;refine .dn ?_;refine U ?_;refine .rt hK func232 results232 [] ?_;exact fun H' hs=> SortSQ.of (dec:=dec) hs (i:=0) rfl ⟨rfl,g3,g4.fin (fun d h1 h2=> by have:=hmax d h1 h2;omega)⟩
     · have hmax:∀d,(d=2*r+1∨d=2*r+2)→d<hi→at0 u (f+d)≤at0 u (f+(2*r+1)):=by rintro d (rfl|rfl) _ <;> omega
       refine U11 ?_;refine Tc.dr [] [] mixed rfl ?_;refine .nn 0 ?_;refine .nn 1 ?_;refine .nn 2 ?_;refine .nn 3 ?_;refine .nn 4 ?_;refine .nn 5 ?_;refine .nn 6 ?_;refine .nn 7 ?_;refine .nn 8 ?_;refine .nn 9 ?_;refine .nn 10 ?_;refine .nn 11 ?_;refine .nn 12 ?_;refine .nn 13 ?_;refine .nn 14 ?_;refine .nn 15 ?_;refine .nn 16 ?_;refine .nn 17 ?_;refine .z 18 rfl (OpV.takeCall rfl rfl rfl rfl (fun H hs=> .h (lessS M H hEu (at0_mem (by omega)) (at0_mem (by omega)) false (decide_eq_false d2)))) ?_;refine .nn 19 ?_;refine .dn ?_;refine U4 ?_;have hcv:2*r+1<hi:=by omega
       have k3:=cellsS_ld (dec:=dec) (m:=u) (j:=jj) (k:=(f:Nat)+(r:Nat)) (p:=f+r) (by omega) (by omega);have k4:=cellsS_ld (dec:=dec) (m:=u) (j:=jj) (k:=(f:Nat)+((2*r+1:Nat):Int)) (p:=f+(2*r+1)) (by omega) (by omega);by_cases d3:at0 u (f+r)<at0 u (f+(2*r+1))
       · have s1:=cellsS_st (dec:=dec) (m:=u) (j:=jj) (k:=(f:Nat)+(r:Nat)) (x:=at0 u (f+(2*r+1))) (p:=f+r) (by omega) (by omega);have s2:=cellsS_st (dec:=dec) (m:=u.set (f+r) (at0 u (f+(2*r+1)))) (j:=jj) (k:=(f:Nat)+((2*r+1:Nat):Int)) (x:=at0 u (f+r)) (p:=f+(2*r+1)) (by omega) (by rw[List.length_set];omega);have l1:=cellsS_le (dec:=dec) (m:=u) (j:=jj) (k:=(f:Nat)+(r:Nat)) (p:=f+r) (by omega) (by omega);have l2:=cellsS_le (dec:=dec) (m:=u.set (f+r) (at0 u (f+(2*r+1)))) (j:=jj) (k:=(f:Nat)+((2*r+1:Nat):Int)) (p:=f+(2*r+1)) (by omega) (by rw[List.length_set];omega);refine Tc.dr [] [] mixed rfl ?_;refine .nn 0 ?_;refine .nn 1 ?_;refine .nn 2 ?_;refine .nn 3 ?_;refine .nn 4 ?_;refine .nn 5 ?_;refine .nn 6 ?_;refine .nn 7 ?_;refine .nn 8 ?_;refine .nn 9 ?_;refine .nn 10 ?_;refine .nn 11 ?_;refine .z 12 rfl (OpV.takeCall rfl rfl rfl rfl (fun H hs=> .h (lessS M H hEu (at0_mem (by omega)) (at0_mem (by omega)) true (decide_eq_true d3)))) ?_;refine .nn 13 ?_;refine .dn ?_;refine U3 ?_;refine Tc.dr [21,23] [0] mixed rfl ?_;refine .nn 0 ?_;refine .nn 1 ?_;refine .nn 2 ?_;refine .nn 3 ?_;refine .nw 4 ?_;refine .nw 5 ?_;refine .nw 6 ?_;refine .nw 7 ?_;refine .nn 8 ?_;refine .nn 9 ?_;refine .nn 10 ?_;refine .nn 11 ?_;refine .nn 12 ?_;refine .nn 13 ?_;refine .nw 14 ?_;refine .nw 15 ?_;refine .nw 16 ?_;refine .nw 17 ?_;refine .nw 18 ?_;refine .nn 19 ?_;refine .nn 20 ?_;refine .e 21 0 ?_;refine .nw 22 ?_;refine .e 23 0 ?_;refine .dn ?_;refine U5 ?_;exact Tc.db (ih ⟨(2*r+1,swapL u (f+r) (f+(2*r+1))),by simp only;omega,by simp only;omega,g3.trans (Turned.swap (by omega) (by omega) (by omega) (by omega)),g4.step (by omega) g1 (by omega) hcv d3 hmax⟩ (by simp only;omega))
       · refine Tc.dr [] [] mixed rfl ?_;refine .nn 0 ?_;refine .nn 1 ?_;refine .nn 2 ?_;refine .nn 3 ?_;refine .nn 4 ?_;refine .nn 5 ?_;refine .nn 6 ?_;refine .nn 7 ?_;refine .nn 8 ?_;refine .nn 9 ?_;refine .nn 10 ?_;refine .nn 11 ?_;refine .z 12 rfl (OpV.takeCall rfl rfl rfl rfl (fun H hs=> .h (lessS M H hEu (at0_mem (by omega)) (at0_mem (by omega)) false (decide_eq_false d3)))) ?_;refine .nn 13 ?_;refine .dn ?_;refine U ?_;refine .rt hK func232 results232 [] ?_;exact fun H' hs=> SortSQ.of (dec:=dec) hs (i:=0) rfl ⟨rfl,g3,g4.fin (fun d h1 h2=> by have:=hmax d h1 h2;omega)⟩
   · have hmax:∀d,(d=2*r+1∨d=2*r+2)→d<hi→at0 u (f+d)≤at0 u (f+(2*r+1)):=by rintro d (rfl|rfl) _ <;> omega
     refine U11 ?_;refine Tc.dr [] [] mixed rfl ?_;refine .nn 0 ?_;refine .nn 1 ?_;refine .nn 2 ?_;refine .nn 3 ?_;refine .nn 4 ?_;refine .nw 5 ?_;refine .nw 6 ?_;refine .nw 7 ?_;refine .nw 8 ?_;refine .nw 9 ?_;refine .nw 10 ?_;refine .nw 11 ?_;refine .nw 12 ?_;refine .nw 13 ?_;refine .nw 14 ?_;refine .nw 15 ?_;refine .nw 16 ?_;refine .nw 17 ?_;refine .nw 18 ?_;refine .nn 19 ?_;refine .dn ?_;refine U4 ?_;have hcv:2*r+1<hi:=by omega
     have k3:=cellsS_ld (dec:=dec) (m:=u) (j:=jj) (k:=(f:Nat)+(r:Nat)) (p:=f+r) (by omega) (by omega);have k4:=cellsS_ld (dec:=dec) (m:=u) (j:=jj) (k:=(f:Nat)+((2*r+1:Nat):Int)) (p:=f+(2*r+1)) (by omega) (by omega);by_cases d3:at0 u (f+r)<at0 u (f+(2*r+1))
     · have s1:=cellsS_st (dec:=dec) (m:=u) (j:=jj) (k:=(f:Nat)+(r:Nat)) (x:=at0 u (f+(2*r+1))) (p:=f+r) (by omega) (by omega);have s2:=cellsS_st (dec:=dec) (m:=u.set (f+r) (at0 u (f+(2*r+1)))) (j:=jj) (k:=(f:Nat)+((2*r+1:Nat):Int)) (x:=at0 u (f+r)) (p:=f+(2*r+1)) (by omega) (by rw[List.length_set];omega);have l1:=cellsS_le (dec:=dec) (m:=u) (j:=jj) (k:=(f:Nat)+(r:Nat)) (p:=f+r) (by omega) (by omega);have l2:=cellsS_le (dec:=dec) (m:=u.set (f+r) (at0 u (f+(2*r+1)))) (j:=jj) (k:=(f:Nat)+((2*r+1:Nat):Int)) (p:=f+(2*r+1)) (by omega) (by rw[List.length_set];omega);refine Tc.dr [] [] mixed rfl ?_;refine .nn 0 ?_;refine .nn 1 ?_;refine .nn 2 ?_;refine .nn 3 ?_;refine .nn 4 ?_;refine .nn 5 ?_;refine .nn 6 ?_;refine .nn 7 ?_;refine .nn 8 ?_;refine .nn 9 ?_;refine .nn 10 ?_;refine .nn 11 ?_;refine .z 12 rfl (OpV.takeCall rfl rfl rfl rfl (fun H hs=> .h (lessS M H hEu (at0_mem (by omega)) (at0_mem (by omega)) true (decide_eq_true d3)))) ?_;refine .nn 13 ?_;refine .dn ?_;refine U3 ?_;refine Tc.dr [21,23] [0] mixed rfl ?_;refine .nn 0 ?_;refine .nn 1 ?_;refine .nn 2 ?_;refine .nn 3 ?_;refine .nw 4 ?_;refine .nw 5 ?_;refine .nw 6 ?_;refine .nw 7 ?_;refine .nn 8 ?_;refine .nn 9 ?_;refine .nn 10 ?_;refine .nn 11 ?_;refine .nn 12 ?_;refine .nn 13 ?_;refine .nw 14 ?_;refine .nw 15 ?_;refine .nw 16 ?_;refine .nw 17 ?_;refine .nw 18 ?_;refine .nn 19 ?_;refine .nn 20 ?_;refine .e 21 0 ?_;refine .nw 22 ?_;refine .e 23 0 ?_;refine .dn ?_;refine U5 ?_;exact Tc.db (ih ⟨(2*r+1,swapL u (f+r) (f+(2*r+1))),by simp only;omega,by simp only;omega,g3.trans (Turned.swap (by omega) (by omega) (by omega) (by omega)),g4.step (by omega) g1 (by omega) hcv d3 hmax⟩ (by simp only;omega))
     · refine Tc.dr [] [] mixed rfl ?_;refine .nn 0 ?_;refine .nn 1 ?_;refine .nn 2 ?_;refine .nn 3 ?_;refine .nn 4 ?_;refine .nn 5 ?_;refine .nn 6 ?_;refine .nn 7 ?_;refine .nn 8 ?_;refine .nn 9 ?_;refine .nn 10 ?_;refine .nn 11 ?_;refine .z 12 rfl (OpV.takeCall rfl rfl rfl rfl (fun H hs=> .h (lessS M H hEu (at0_mem (by omega)) (at0_mem (by omega)) false (decide_eq_false d3)))) ?_;refine .nn 13 ?_;refine .dn ?_;refine U ?_;refine .rt hK func232 results232 [] ?_;exact fun H' hs=> SortSQ.of (dec:=dec) hs (i:=0) rfl ⟨rfl,g3,g4.fin (fun d h1 h2=> by have:=hmax d h1 h2;omega)⟩
 · refine U9 ?_;refine .ov hK func232 results232 [] ?_;exact fun H' hs=> SortSQ.of (dec:=dec) hs (i:=0) rfl ⟨rfl,g3,g4.fin (fun d h1 h2=> by omega)⟩
end
theorem heap_less {f hi s:Nat}{u:List Int}(hs:1≤s)(h:Heap f s hi u):HeapBut f (s-1) hi (s-1) u:=
 ⟨fun k c h1 h2 h3 h4=> h k c (by omega) h3 h4,fun k c h1 h2 h3 h4=> by omega⟩
structure HeapTo(f hi s:Nat)(u:List Int):Prop where
 heap:Heap f 0 s u
 srt:Srt (f+s) (f+hi) u
 low:∀p q,p<s→s≤q→q<hi→at0 u (f+p)≤at0 u (f+q)
theorem heap_but {f hi s:Nat}{u:List Int}(hs:1≤s)(hsh:s≤hi)(hl:f+hi≤u.length)(h:HeapTo f hi s u):HeapBut f 0 (s-1) 0 (swapL u f (f+(s-1))):=by
 have hw:=fun q=> swapL_at (l:=u) (p:=f) (q:=f+(s-1)) (by omega) (by omega) q;refine⟨fun k c h1 h2 h3 h4=> ?_,fun k c h1 h2 h3 h4=> by omega⟩;rw[hw,hw,if_neg (by omega),if_neg (by omega),if_neg (by omega),if_neg (by omega)];exact h.heap k c h1 h3 (by omega)
theorem heap_next {f hi s:Nat}{u m:List Int}(hs:1≤s)(hsh:s≤hi)(hl:f+hi≤u.length)(h:HeapTo f hi s u)(ht:Turned f (f+(s-1)) (swapL u f (f+(s-1))) m)(hm:Heap f 0 (s-1) m):HeapTo f hi (s-1) m:=by
 have hw:=fun q=> swapL_at (l:=u) (p:=f) (q:=f+(s-1)) (by omega) (by omega) q;have htop:=h.heap.top;have hlast:at0 m (f+(s-1))=at0 u f:=by
   rw[ht.out _ (.inr (Nat.le_refl _)),hw,if_pos rfl]
 have hback:∀q,s≤q→at0 m (f+q)=at0 u (f+q):=fun q hq=> by
   rw[ht.out _ (.inr (by omega)),hw,if_neg (by omega),if_neg (by omega)]
 have hall:∀X:Int,(∀p,p<s→at0 u (f+p)≤X)→∀p,p<s-1→at0 m (f+p)≤X:=fun X hX p hp=>
   ht.all (by rw[swapL_len];omega) (P:=fun x=> x≤X) (fun p h1 h2=> by
     rw[hw,if_neg (by omega)];by_cases e:p=f
     · rw[if_pos e];exact hX (s-1) (by omega)
     · rw[if_neg e];have:=hX (p-f) (by omega)
       rwa [show f+(p-f)=p by omega] at this) (f+p) (by omega) (by omega)
 refine⟨hm,fun p q h1 h2 h3=> ?_,fun p q h1 h2 h3=> ?_⟩
 · by_cases e:p=f+(s-1)
   · rw[e,hlast];have h4:=hback (q-f) (by omega);rw[show f+(q-f)=q by omega] at h4;rw[h4];have:=h.low 0 (q-f) (by omega) (by omega) (by omega)
     rwa [show f+(q-f)=q by omega,Nat.add_zero] at this
   · have h4:=hback (q-f) (by omega);have h5:=hback (p-f) (by omega);rw[show f+(q-f)=q by omega] at h4;rw[show f+(p-f)=p by omega] at h5;rw[h4,h5];exact h.srt p q (by omega) h2 h3
 · by_cases e:q=s-1
   · subst e;rw[hlast];exact hall _ (fun p hp=> htop p hp) p h1
   · rw[hback q (by omega)];exact hall _ (fun p hp=> h.low p q hp (by omega) h3) p h1
section
variable(M:Md prog)(H:View)
theorem heapSortS_c(dec:Int→List UInt8)(sb:Nat)(l:List Int)(jj:List Value)(n cap a b:Nat)(hn:n=l.length)(hE:Enc dec l)(hb:b≤n)(h1000:n≤100000000)(hab:a<b)(hS:H sb=some (true,.cells ⟨(strsL dec l)++jj⟩ 9 (0,0))):
   CallT M 199 #[.slice (some ⟨sb,0,none⟩) n cap,.int .i64 (a:Nat),.int .i64 (b:Nat)] H (SortSQ dec H sb jj (fun v m=> v=.tuple ⟨[]⟩∧Turned a b l m∧Srt a b m)):=by
 obtain⟨hi,hhi⟩:∃hi,hi=b-a:=⟨_,rfl⟩
 have e0:((b:Nat):Int)-((a:Nat):Int)=((hi:Nat):Int):=by omega
 have eb:b=a+hi:=by omega
 obtain⟨s0,hs0⟩:∃s0,s0=(hi-1)/2+1:=⟨_,rfl⟩
 have hq:intBin .quo .i64 (((hi:Nat):Int)-1) 2=some (.int .i64 (((s0:Nat):Int)-1)):=by
   rw[quo_in (by omega) (by omega) (by omega)]
   congr 2
   omega
 refine CallT.enter (vs:= [.slice (some ⟨sb,0,none⟩) n cap,.int .i64 (a:Nat),.int .i64 (b:Nat)]) func199 rfl ntmps199 (Nat.le_of_ble_eq_true rfl) (SymSt.pull hS) fun St c cs hK=> ?_;refine U16 ?_;rw[e0];refine U9 ?_;refine Tc.db (Tc.loopInv (σ:= { s:Nat×List Int//s.1≤hi∧Turned a b l s.2∧Heap a s.1 hi s.2 }) (fun s=> ([(0,.slice (some ⟨sb,0,none⟩) n cap),(6,.int .i64 (a:Nat)),(7,.int .i64 0),(8,.int .i64 (hi:Nat)),(9,.int .i64 ((s.1.1:Nat)-1))],[(sb,true,.cells ⟨(strsL dec s.1.2)++jj⟩ 9 (0,0))])) (fun s=> s.1.1) ?_
   ⟨(s0,l),by simp only;omega,Turned.refl ..,fun k c h1 h2 h3=> by simp only at h1;omega⟩)
 rintro⟨⟨s,u⟩,g1,g2,g3⟩ ih;simp only at g1 g2 g3;show Tc M St _ _ _ _ [(0,.slice (some ⟨sb,0,none⟩) n cap),(6,.int .i64 (a:Nat)),(7,.int .i64 0),(8,.int .i64 (hi:Nat)),(9,.int .i64 ((s:Nat)-1))] [(sb,true,.cells ⟨(strsL dec u)++jj⟩ 9 (0,0))] _ _;have hul:=g2.len;have hEu:=hE.turned g2;by_cases c1:1≤s
 · have e1:((s:Nat):Int)-1=((s-1:Nat):Int):=by omega
   rw[e1];refine U15 ?_;refine .e (Or.sortsS (dec:=dec) (l:=u) 0 (fun v m=> v=.tuple ⟨[]⟩∧Turned a (a+hi) u m∧Heap a (s-1) hi m) rfl rfl rfl rfl rfl (by decide) rfl (fun H hs=> .h (siftDownS_c M H dec sb u jj n cap (s-1) hi a (by omega) hEu (by omega) h1000 (by omega) (heap_less c1 g3) (hs.get (i:=0) rfl))) (fun v m ⟨hv,ht,hh⟩=> ?_));refine U7 ?_;exact Tc.db (ih ⟨(s-1,m),by simp only;omega,g2.trans (ht.wide (Nat.le_refl _) (by omega)),hh⟩ (by simp only;omega))
 · have es:s=0:=by omega
   subst es;refine U15 ?_;refine Tc.db (Tc.loopInv (σ:= { s:Nat×List Int//s.1≤hi∧Turned a b l s.2∧HeapTo a hi s.1 s.2 }) (fun s=> ([(0,.slice (some ⟨sb,0,none⟩) n cap),(6,.int .i64 (a:Nat)),(7,.int .i64 0),(10,.int .i64 ((s.1.1:Nat)-1))],[(sb,true,.cells ⟨(strsL dec s.1.2)++jj⟩ 9 (0,0))])) (fun s=> s.1.1) ?_
     ⟨(hi,u),Nat.le_refl _,g2,⟨g3,fun p q h1 h2 h3=> by omega,fun p q h1 h2 h3=> by omega⟩⟩)
   rintro⟨⟨s,w⟩,f1,f2,f3⟩ ih2;simp only at f1 f2 f3;show Tc M St _ _ _ _ [(0,.slice (some ⟨sb,0,none⟩) n cap),(6,.int .i64 (a:Nat)),(7,.int .i64 0),(10,.int .i64 ((s:Nat)-1))] [(sb,true,.cells ⟨(strsL dec w)++jj⟩ 9 (0,0))] _ _;have hwl:=f2.len;have hEw:=hE.turned f2;by_cases c2:1≤s
   · have e1:((s:Nat):Int)-1=((s-1:Nat):Int):=by omega
     rw[e1];have k1:=cellsS_ld (dec:=dec) (m:=w) (j:=jj) (k:=(a:Nat)) (p:=a) rfl (by omega);have k2:=cellsS_ld (dec:=dec) (m:=w) (j:=jj) (k:=(a:Nat)+((s-1:Nat):Int)) (p:=a+(s-1)) (by omega) (by omega);have s1:=cellsS_st (dec:=dec) (m:=w) (j:=jj) (k:=(a:Nat)) (x:=at0 w (a+(s-1))) (p:=a) rfl (by omega);have s2:=cellsS_st (dec:=dec) (m:=w.set a (at0 w (a+(s-1)))) (j:=jj) (k:=(a:Nat)+((s-1:Nat):Int)) (x:=at0 w a) (p:=a+(s-1)) (by omega) (by rw[List.length_set];omega);have l1:=cellsS_le (dec:=dec) (m:=w) (j:=jj) (k:=(a:Nat)) (p:=a) rfl (by omega);have l2:=cellsS_le (dec:=dec) (m:=w.set a (at0 w (a+(s-1)))) (j:=jj) (k:=(a:Nat)+((s-1:Nat):Int)) (p:=a+(s-1)) (by omega) (by rw[List.length_set];omega);have hsw:=Turned.swap (a:=a) (b:=b) (l:=w) (p:=a) (q:=a+(s-1)) (by omega) (by omega) (by omega) (by omega);refine U11 ?_;refine Tc.dr [17,19] [0] mixed rfl ?_;refine .nn 0 ?_;refine .nn 1 ?_;refine .nw 2 ?_;refine .nw 3 ?_;refine .nw 4 ?_;refine .nw 5 ?_;refine .nn 6 ?_;refine .nn 7 ?_;refine .nn 8 ?_;refine .nn 9 ?_;refine .nn 10 ?_;refine .nn 11 ?_;refine .nw 12 ?_;refine .nw 13 ?_;refine .nw 14 ?_;refine .nn 15 ?_;refine .nn 16 ?_;refine .e 17 0 ?_;refine .nw 18 ?_;refine .e 19 0 ?_;refine .dn ?_;refine U5 ?_;refine .e (Or.sortsS (dec:=dec) (l:=swapL w a (a+(s-1))) 0 (fun v m=> v=.tuple ⟨[]⟩∧Turned a (a+(s-1)) (swapL w a (a+(s-1))) m∧Heap a 0 (s-1) m) rfl rfl rfl rfl rfl (by decide) rfl (fun H hs=> .h (siftDownS_c M H dec sb (swapL w a (a+(s-1))) jj n cap 0 (s-1) a (by rw[swapL_len];omega) (hEw.turned hsw) (by omega) h1000 (by omega) (heap_but c2 f1 (by omega) f3) (hs.get (i:=0) rfl))) (fun v m ⟨hv,ht,hh⟩=> ?_));refine U7 ?_;exact Tc.db (ih2 ⟨(s-1,m),by simp only;omega,f2.trans (hsw.trans (ht.wide (Nat.le_refl _) (by omega))),heap_next c2 f1 (by omega) f3 ht hh⟩ (by simp only;omega))
   · have es:s=0:=by omega
     subst es;refine U8 ?_;refine .ov hK func199 results199 [] ?_;exact fun H' hs=> SortSQ.of (dec:=dec) hs (i:=0) rfl ⟨rfl,f2,eb▸f3.srt⟩
end
theorem Or.sortsIF {M:Md prog}{n:Nat}{H₀:View}{R:Rg}{L:Bl}{o:Oper}{K:Rg→Bl→Prop}{cl:Go.Call}{x:Operand}{fv:Value}{az:List Value}{d:Nat}{σ:Type}(i:Nat){sb:Nat}{l:List Int}{j:List Value}(val:σ→Value)(mm:σ→List Int)(p:σ→Prop)
   (hop:o.op=.call cl) (hcl:cl.callee=.value x) (hx:evR R x=some fv) (has:evRs R cl.args.toList=some az) (hd:o.dst=some d) (hn:d<n) (hi:L[i]? =some (sb,true,.cells ⟨intsL l++j⟩ 3 (0,0)))
   (hc:∀H,SymSt H₀ L H→FnT M fv az H (SortIQ H sb j fun v m=> ∃s,v=val s∧m=mm s∧p s)) (hk:∀s,p s→K ((d,val s)::R) (L.set i (sb,true,.cells ⟨intsL (mm s)++j⟩ 3 (0,0)))):Or M n H₀ R L o K:=
 Or.sortsI i (fun v m=> ∃s,v=val s∧m=mm s∧p s) hop hcl hx has hd hn hi hc fun v m h=> by
   obtain⟨s,rfl,rfl,h3⟩:=h;exact hk s h3
def twoV(s:Nat×Nat×Int):Value:=.tuple ⟨[.int .i64 (s.1:Nat),.int .i64 (s.2.1:Nat)]⟩
def twoP(p q:Nat)(z:Int)(s:Nat×Nat×Int):Prop:=(s.1=p∧s.2.1=q∨s.1=q∧s.2.1=p)∧z≤s.2.2∧s.2.2≤z+1
section
variable(M:Md prog)(H:View)
theorem order2S_c(dec:Int→List UInt8)(sb cb:Nat)(f:Bool)(l:List Int)(jj:List Value)(n cap p q:Nat)(z:Int)(hn:n=l.length)(hE:Enc dec l)(hp:p<n)(hq:q<n)(hz:0≤z∧z≤1000)(hne:sb≠cb)(hS:H sb=some (f,.cells ⟨(strsL dec l)++jj⟩ 9 (0,0)))(hC:H cb=some (true,.cells ⟨[.int .i64 z]⟩ 3 (0,0))):
   CallT M 247 #[.slice (some ⟨sb,0,none⟩) n cap,.int .i64 (p:Nat),.int .i64 (q:Nat),.pointer (some ⟨cb,0,none⟩)] H (SortIQ H cb [] (fun v m=> ∃s,v=twoV s∧m= [s.2.2]∧twoP p q z s)):=by
 have hS':(H.without cb) sb=some (f,.cells ⟨(strsL dec l)++jj⟩ 9 (0,0)):=by rw[without_other hne];exact hS
 have k1:=cellsS_ld (dec:=dec) (m:=l) (j:=jj) (k:=(p:Nat)) (p:=p) rfl (by omega);have k2:=cellsS_ld (dec:=dec) (m:=l) (j:=jj) (k:=(q:Nat)) (p:=q) rfl (by omega);refine CallT.enter (vs:= [.slice (some ⟨sb,0,none⟩) n cap,.int .i64 (p:Nat),.int .i64 (q:Nat),.pointer (some ⟨cb,0,none⟩)]) func247 rfl ntmps247 (Nat.le_of_ble_eq_true rfl) (SymSt.pull hC) fun St c cs hK=> ?_;by_cases c1:at0 l q<at0 l p
 · refine U7 ?_;refine Tc.dr [] [] mixed rfl ?_;refine .nn 0 ?_;refine .nn 1 ?_;refine .nn 2 ?_;refine .nn 3 ?_;refine .nn 4 ?_;refine .nn 5 ?_;refine .nn 6 ?_;refine .nn 7 ?_;refine .z 8 rfl (OpV.takeCall rfl rfl rfl rfl (fun H hs=> .h (lessS M H hE (at0_mem (by omega)) (at0_mem (by omega)) true (decide_eq_true c1)))) ?_;refine .dn ?_;refine U17 ?_;refine .rt hK func247 results247 [_,_] ?_;exact fun H' hs=> SortIQ.of (m:= [z+1]) hs (i:=0) rfl ⟨(q,p,z+1),rfl,rfl,.inr ⟨rfl,rfl⟩,by simp only;omega,by simp only;omega⟩
 · refine U7 ?_;refine Tc.dr [] [] mixed rfl ?_;refine .nn 0 ?_;refine .nn 1 ?_;refine .nn 2 ?_;refine .nn 3 ?_;refine .nn 4 ?_;refine .nn 5 ?_;refine .nn 6 ?_;refine .nn 7 ?_;refine .z 8 rfl (OpV.takeCall rfl rfl rfl rfl (fun H hs=> .h (lessS M H hE (at0_mem (by omega)) (at0_mem (by omega)) false (decide_eq_false c1)))) ?_;refine .dn ?_;refine U9 ?_;refine .rt hK func247 results247 [_,_] ?_;exact fun H' hs=> SortIQ.of (m:= [z]) hs (i:=0) rfl ⟨(p,q,z),rfl,rfl,.inl ⟨rfl,rfl⟩,by simp only;omega,by simp only;omega⟩
theorem medianS_c(dec:Int→List UInt8)(sb cb:Nat)(f:Bool)(l:List Int)(jj:List Value)(n cap p q r:Nat)(z:Int)(hn:n=l.length)(hE:Enc dec l)(hp:p<n)(hq:q<n)(hr:r<n)(hz:0≤z∧z≤900)(hne:sb≠cb)(hS:H sb=some (f,.cells ⟨(strsL dec l)++jj⟩ 9 (0,0)))(hC:H cb=some (true,.cells ⟨[.int .i64 z]⟩ 3 (0,0))):
   CallT M 236 #[.slice (some ⟨sb,0,none⟩) n cap,.int .i64 (p:Nat),.int .i64 (q:Nat),.int .i64 (r:Nat),.pointer (some ⟨cb,0,none⟩)] H (SortIQ H cb [] (fun v m=> ∃s:Nat×Int,v=.int .i64 (s.1:Nat)∧m= [s.2]∧((s.1=p∨s.1=q∨s.1=r)∧z≤s.2∧s.2≤z+3))):=by
 have hS':(H.without cb) sb=some (f,.cells ⟨(strsL dec l)++jj⟩ 9 (0,0)):=by rw[without_other hne];exact hS
 refine CallT.enter (vs:= [.slice (some ⟨sb,0,none⟩) n cap,.int .i64 (p:Nat),.int .i64 (q:Nat),.int .i64 (r:Nat),.pointer (some ⟨cb,0,none⟩)]) func236 rfl ntmps236 (Nat.le_of_ble_eq_true rfl) (SymSt.pull hC) fun St c cs hK=> ?_;refine U10 ?_;refine .e (Or.sortsIF (l:= [z]) (j:= []) 0 twoV (fun s=> [s.2.2]) (twoP p q z) rfl rfl rfl rfl rfl (by decide) rfl (fun H hs=> .h (order2S_c M H dec sb cb f l jj n cap p q z hn hE hp hq (by omega) hne (hs.base _ _ hS') (hs.get (i:=0) rfl))) (fun⟨x1,y1,z1⟩ ⟨o1,o2,o3⟩=> ?_));refine U6 ?_;simp only at o1 o2 o3;refine U6 ?_;refine .e (Or.sortsIF (l:= [z1]) (j:= []) 0 twoV (fun s=> [s.2.2]) (twoP y1 r z1) rfl rfl rfl rfl rfl (by decide) rfl (fun H hs=> .h (order2S_c M H dec sb cb f l jj n cap y1 r z1 hn hE (by omega) hr (by omega) hne (hs.base _ _ hS') (hs.get (i:=0) rfl))) (fun⟨x2,y2,z2⟩ ⟨p1,p2,p3⟩=> ?_));refine U6 ?_;simp only at p1 p2 p3;refine U6 ?_;refine .e (Or.sortsIF (l:= [z2]) (j:= []) 0 twoV (fun s=> [s.2.2]) (twoP x1 x2 z2) rfl rfl rfl rfl rfl (by decide) rfl (fun H hs=> .h (order2S_c M H dec sb cb f l jj n cap x1 x2 z2 hn hE (by omega) (by omega) (by omega) hne (hs.base _ _ hS') (hs.get (i:=0) rfl))) (fun⟨x3,y3,z3⟩ ⟨q1,q2,q3⟩=> ?_));refine U6 ?_;simp only at q1 q2 q3;refine U5 ?_;refine .rt hK func236 results236 [_] ?_;exact fun H' hs=> SortIQ.of (m:= [z3]) hs (i:=0) rfl ⟨(y3,z3),rfl,rfl,by simp only;omega,by simp only;omega,by simp only;omega⟩
def pivV(s:Nat×Nat):Value:=.tuple ⟨[.int .i64 (s.1:Nat),.int .i64 (s.2:Nat)]⟩
theorem medianAdjS_c(dec:Int→List UInt8)(sb cb:Nat)(f:Bool)(l:List Int)(jj:List Value)(n cap p:Nat)(z:Int)(hn:n=l.length)(hE:Enc dec l)(h1000:n≤100000000)(hp:1≤p∧p+1<n)(hz:0≤z∧z≤900)(hne:sb≠cb)(hS:H sb=some (f,.cells ⟨(strsL dec l)++jj⟩ 9 (0,0)))(hC:H cb=some (true,.cells ⟨[.int .i64 z]⟩ 3 (0,0))):
   CallT M 235 #[.slice (some ⟨sb,0,none⟩) n cap,.int .i64 (p:Nat),.pointer (some ⟨cb,0,none⟩)] H (SortIQ H cb [] (fun v m=> ∃s:Nat×Int,v=.int .i64 (s.1:Nat)∧m= [s.2]∧((s.1=p-1∨s.1=p∨s.1=p+1)∧z≤s.2∧s.2≤z+3))):=by
 have hS':(H.without cb) sb=some (f,.cells ⟨(strsL dec l)++jj⟩ 9 (0,0)):=by rw[without_other hne];exact hS
 have e1:intBin .sub .i64 (p:Nat) 1=some (.int .i64 ((p-1:Nat):Int)):=by rw[sub_in (by omega) (by omega)];congr 2;omega
 have e2:intBin .add .i64 (p:Nat) 1=some (.int .i64 ((p+1:Nat):Int)):=by rw[add_in (by omega) (by omega)];rfl
 refine CallT.enter (vs:= [.slice (some ⟨sb,0,none⟩) n cap,.int .i64 (p:Nat),.pointer (some ⟨cb,0,none⟩)]) func235 rfl ntmps235 (Nat.le_of_ble_eq_true rfl) (SymSt.pull hC) fun St c cs hK=> ?_;refine U13 ?_;refine .e (Or.sortsIF (l:= [z]) (j:= []) 0 (fun s:Nat×Int=> .int .i64 (s.1:Nat)) (fun s=> [s.2]) (fun s=> (s.1=p-1∨s.1=p∨s.1=p+1)∧z≤s.2∧s.2≤z+3) rfl rfl rfl rfl rfl (by decide) rfl (fun H hs=> .h (medianS_c M H dec sb cb f l jj n cap (p-1) p (p+1) z hn hE (by omega) (by omega) (by omega) (by omega) hne (hs.base _ _ hS') (hs.get (i:=0) rfl))) (fun⟨x1,z1⟩ ⟨o1,o2,o3⟩=> ?_));refine U2 ?_;simp only at o1 o2 o3;refine .rt hK func235 results235 [_] ?_;exact fun H' hs=> SortIQ.of (m:= [z1]) hs (i:=0) rfl ⟨(x1,z1),rfl,rfl,o1,o2,o3⟩
theorem choosePivotS_c(dec:Int→List UInt8)(sb:Nat)(f:Bool)(l:List Int)(jj:List Value)(n cap a b:Nat)(hn:n=l.length)(hE:Enc dec l)(h1000:n≤100000000)(hb:b≤n)(h8:a+8≤b)(hS:H sb=some (f,.cells ⟨(strsL dec l)++jj⟩ 9 (0,0))):
   CallT M 201 #[.slice (some ⟨sb,0,none⟩) n cap,.int .i64 (a:Nat),.int .i64 (b:Nat)] H (fun v H'=> H.le H'∧∃s:Nat×Nat,v=pivV s∧(a≤s.1∧s.1<b∧s.2≤2)∧∀y∈([]:Bl),H' y.1=some y.2∧H y.1=none):=by
 obtain⟨m,hm⟩:∃m,m=b-a:=⟨_,rfl⟩
 obtain⟨w,hw⟩:∃w,w=m/4:=⟨_,rfl⟩
 have e0:((b:Nat):Int)-((a:Nat):Int)=((m:Nat):Int):=by omega
 have hq:intBin .quo .i64 ((m:Nat):Int) 4=some (.int .i64 ((w:Nat):Int)):=by
   rw[quo_in (by omega) (by omega) (by omega)]
   congr 2
   omega
 have e1:((a:Nat):Int)+((w:Nat):Int)*1=((a+w:Nat):Int):=by omega
 have e2:((a:Nat):Int)+((w:Nat):Int)*2=((a+w*2:Nat):Int):=by omega
 have e3:((a:Nat):Int)+((w:Nat):Int)*3=((a+w*3:Nat):Int):=by omega
 refine .en func201 ntmps201 fun St c cs hK=> ?_;refine U12 ?_;rw[e0];refine U2 ?_;refine .al fun b9=> ?_;refine U6 ?_;refine .i ?_ (z:=mul_in (by omega) (by omega));refine U3 ?_;rw[e1];refine U5 ?_;refine .i ?_ (z:=mul_in (by omega) (by omega));refine U3 ?_;rw[e2];refine U5 ?_;refine .i ?_ (z:=mul_in (by omega) (by omega));refine U3 ?_;rw[e3];refine U7 ?_;refine Tc.lift (L₂:= [(b9,true,.cells ⟨[.int .i64 0]⟩ 3 (0,0))]) (L₁:= []) rfl (fun Hx hx=> ?_);have hle:=hx.base;have hSx:=hx.base _ _ hS;have hne:∀(z:Int) H',SymSt Hx [(b9,true,.cells ⟨[.int .i64 z]⟩ 3 (0,0))] H'→sb≠b9:=fun z H' hs e=> by
   have:=hs.out (b9,true,.cells ⟨[.int .i64 z]⟩ 3 (0,0)) (by simp);rw[←e,hSx] at this;cases this
 clear hx;refine U ?_;refine Tc.via (fun R' L'=> ∃(p q r:Nat) (z:Int),((a≤p∧p<b)∧(a≤q∧q<b)∧(a≤r∧r<b)∧(0≤z∧z≤9))∧AllIn [(0,.slice (some ⟨sb,0,none⟩) n cap),(9,.pointer (some ⟨b9,0,none⟩)),(10,.int .i64 (p:Nat)),(11,.int .i64 (q:Nat)),(12,.int .i64 (r:Nat))] R'∧List.Sublist [(b9,true,.cells ⟨[.int .i64 z]⟩ 3 (0,0))] L') ?_ (fun fin=> ?_)
 rotate_left
 · by_cases c50:50≤m
   · refine U10 ?_;refine .e (Or.sortsIF (l:= [0]) (j:= []) 0 (fun s:Nat×Int=> .int .i64 (s.1:Nat)) (fun s=> [s.2]) (fun s=> (s.1=a+w-1∨s.1=a+w∨s.1=a+w+1)∧0≤s.2∧s.2≤0+3) rfl rfl rfl rfl rfl (by decide) rfl (fun H hs=> .h (medianAdjS_c M H dec sb b9 f l jj n cap (a+w) 0 hn hE h1000 (by omega) (by omega) (hne _ H hs) (hs.base _ _ hSx) (hs.get (i:=0) rfl))) (fun⟨x1,zx1⟩ ⟨ox1,ux1,vx1⟩=> ?_));refine U2 ?_;simp only at ox1 ux1 vx1;refine U4 ?_;refine .e (Or.sortsIF (l:= [zx1]) (j:= []) 0 (fun s:Nat×Int=> .int .i64 (s.1:Nat)) (fun s=> [s.2]) (fun s=> (s.1=a+w*2-1∨s.1=a+w*2∨s.1=a+w*2+1)∧zx1≤s.2∧s.2≤zx1+3) rfl rfl rfl rfl rfl (by decide) rfl (fun H hs=> .h (medianAdjS_c M H dec sb b9 f l jj n cap (a+w*2) zx1 hn hE h1000 (by omega) (by omega) (hne _ H hs) (hs.base _ _ hSx) (hs.get (i:=0) rfl))) (fun⟨x2,zx2⟩ ⟨ox2,ux2,vx2⟩=> ?_));refine U2 ?_;simp only at ox2 ux2 vx2;refine U3 ?_;refine .e (Or.sortsIF (l:= [zx2]) (j:= []) 0 (fun s:Nat×Int=> .int .i64 (s.1:Nat)) (fun s=> [s.2]) (fun s=> (s.1=a+w*3-1∨s.1=a+w*3∨s.1=a+w*3+1)∧zx2≤s.2∧s.2≤zx2+3) rfl rfl rfl rfl rfl (by decide) rfl (fun H hs=> .h (medianAdjS_c M H dec sb b9 f l jj n cap (a+w*3) zx2 hn hE h1000 (by omega) (by omega) (hne _ H hs) (hs.base _ _ hSx) (hs.get (i:=0) rfl))) (fun⟨x3,zx3⟩ ⟨ox3,ux3,vx3⟩=> ?_));refine U2 ?_;simp only at ox3 ux3 vx3;exact fin _ _ ⟨x1,x2,x3,zx3,⟨by omega,by omega,by omega,by omega⟩,⟨rfl,rfl,rfl,rfl,rfl,trivial⟩,(by exact List.Sublist.refl _)⟩
   · refine U7 ?_;exact fin _ _ ⟨a+w,a+w*2,a+w*3,0,⟨by omega,by omega,by omega,by omega⟩,⟨rfl,rfl,rfl,rfl,rfl,trivial⟩,(by exact List.Sublist.refl _)⟩
 rintro R' L' ⟨p,q,r,z,⟨hp,hq2,hr,hz⟩,hRR,hLL⟩;refine Tc.dropB (R':= [(0,.slice (some ⟨sb,0,none⟩) n cap),(9,.pointer (some ⟨b9,0,none⟩)),(10,.int .i64 (p:Nat)),(11,.int .i64 (q:Nat)),(12,.int .i64 (r:Nat))]) (L':= [(b9,true,.cells ⟨[.int .i64 z]⟩ 3 (0,0))]) ?_ hRR hLL;clear hRR hLL;refine U5 ?_;refine .e (Or.sortsIF (l:= [z]) (j:= []) 0 (fun s:Nat×Int=> .int .i64 (s.1:Nat)) (fun s=> [s.2]) (fun s=> (s.1=p∨s.1=q∨s.1=r)∧z≤s.2∧s.2≤z+3) rfl rfl rfl rfl rfl (by decide) rfl (fun H hs=> .h (medianS_c M H dec sb b9 f l jj n cap p q r z hn hE (by omega) (by omega) (by omega) (by omega) (hne _ H hs) (hs.base _ _ hSx) (hs.get (i:=0) rfl))) (fun⟨x1,z1⟩ ⟨o1,o2,o3⟩=> ?_));refine U2 ?_;simp only at o1 o2 o3;clear hne;refine U6 ?_;by_cases c1:z1=0
 · refine U11 ?_;refine .rt hK func201 results201 [_,_] ?_;exact fun H' hs=> ⟨View.le_trans hle hs.base,(x1,1),rfl,⟨by simp only;omega,by simp only;omega,by simp⟩,by simp⟩
 · by_cases c2:z1=12
   · refine U17 ?_;refine .rt hK func201 results201 [_,_] ?_;exact fun H' hs=> ⟨View.le_trans hle hs.base,(x1,2),rfl,⟨by simp only;omega,by simp only;omega,by simp⟩,by simp⟩
   · refine U17 ?_;refine .rt hK func201 results201 [_,_] ?_;exact fun H' hs=> ⟨View.le_trans hle hs.base,(x1,0),rfl,⟨by simp only;omega,by simp only;omega,by simp⟩,by simp⟩
end
end Go.Proofs.YtdnfdeplcjaonaaGreatDoor
