/-
 Texts of the proofs over baudot/dial.
-/
import Derived.Test.YtldmfjcgjdchcaaGreatDoorL11
namespace Go.Proofs.YtldmfjcgjdchcaaGreatDoor
open Go.RL Go.Proofs.Tryz Go.ChangeShapes Go.WideShapes Go.ChangeAt Go.RowKit
set_option maxRecDepth 100000
theorem tU:prog.globalNamed "baudot/signal.checks"=some 2:=by kernel_rfl
theorem D7:(prog.globals[2]?).map (·.type)=some 266:=by kernel_rfl
theorem aBb:prog.underlying 266=some (.array 4 265):=by kernel_rfl
theorem WY:prog.underlying 265=some (.func #[132] #[4] false):=by kernel_rfl
theorem u9:prog.cellsOf 265=1:=by kernel_rfl
theorem s9:prog.cellsOf 266=4:=by kernel_rfl
theorem m7 {LL:List (String×DataW Unit)}(hc:("baudot/signal.checks",(Rows.laid_baudot_signal_checks:DataW Unit))∈LL){W:World}(h:laidMetH prog LL W):Sg.aE (FC W):=by
 obtain⟨g,t,cs,fuel,p,hg,ht,hv,hd⟩:=h.funcs (n:= "baudot/signal.checks") hc;obtain rfl:=Option.some.inj (tU.symm.trans hg);obtain rfl:=Option.some.inj (D7.symm.trans ht);have hh:∃gt gz,W.heap[2]? =some (.cells cs gt gz):=by
  unfold World.var? at hv;rw[tU] at hv;simp only[Option.bind_some] at hv;split at hv
  ·rename_i cs' t' z e
   obtain rfl:=Option.some.inj hv;exact⟨_,_,e⟩
  ·cases hv
 obtain⟨gt,gz,hh⟩:=hh;have hlen:cs.toList.length=4:=by
  cases fuel with
  | zero=> simp[DataW.trod] at hd
  | succ n=>
   unfold DataW.trod at hd;rw[aBb] at hd;simp[s9] at hd
   simpa using hd.1
 obtain⟨c0,c1,c2,c3,nS⟩:∃c0 c1 c2 c3,cs.toList= [c0,c1,c2,c3]:=by
  match e:cs.toList,hlen with
  | [c0,c1,c2,c3],_=> exact⟨c0,c1,c2,c3,rfl⟩
 rw[nS] at hd;obtain⟨y0,y1,y2,y3,n,hx,r0,r1,r2,r3⟩:=trod_array4 aBb u9 hd;have sM:=congrArg Prod.fst hx;have VQ:(DataW.agg [y0.1,y1.1,y2.1,y3.1]:DataW (List UInt8))=DataW.agg [.held _,.held _,.held _,.held _]:=sM.symm;simp only[DataW.agg.injEq,List.cons.injEq,and_true] at VQ;obtain⟨e0,e1,e2,e3⟩:=VQ;obtain⟨d0,q0⟩:=y0;obtain⟨d1,q1⟩:=y1;obtain⟨d2,q2⟩:=y2;obtain⟨d3,q3⟩:=y3;simp only at e0 e1 e2 e3;subst e0 e1 e2 e3;obtain rfl:=func_of_trod (f0:=363) WY kR r0;obtain rfl:=func_of_trod (f0:=364) WY kR r1;obtain rfl:=func_of_trod (f0:=354) WY kR r2;obtain rfl:=func_of_trod (f0:=365) WY kR r3;refine⟨false,gt,gz,?_⟩;have ec:cs=⟨[Sg.IE 0,Sg.IE 1,Sg.IE 2,Sg.IE 3]⟩:=by
  apply Array.ext'
  rw[nS];rfl
 rw[<-ec];simp only[FC,hh,Option.map_some]
theorem VZ {W:World}{base:Nat}{v:Value}(h:Value.okWide prog W .any base 49 v):∃k:Sg.Lk,v=k.val:=by
 have h':∃cs,v=.agg cs/\cs.size=prog.cellsOf 49/\Row.okWide prog W .any base 49 cs:=by
  unfold Value.okWide at h;split at h
  ·exact h
  ·exact h
  ·rename_i h1 h2
   exact(h1 _ Tryz.underlying49).elim
 obtain⟨cs,rfl,AD,ts,h1,_,h3⟩:=h';rw[show prog.cellsOf 49=8 by kernel_rfl] at AD;obtain rfl:=Option.some.inj ((show prog.cellTypes prog.depth 49=some [3,3,3,3,3,3,3,3] by kernel_rfl).symm.trans h1);have hc:∀i,i<8->∃x,cs[i]? =some (.int .i64 x):=fun i hi=> by
  have hg:cs[i]? =some cs[i]:=Array.getElem?_eq_getElem oM;obtain⟨u,hu,hv⟩:=h3 i _ hg;have:u=3:=by
   rcases(by omega:i=0\/i=1\/i=2\/i=3\/i=4\/i=5\/i=6\/i=7) with rfl|rfl|rfl|rfl|rfl|rfl|rfl|rfl <;> exact(Option.some.inj hu).symm
  subst this;obtain⟨x,hx⟩:=F3 hv;exact⟨x,by rw[hg,hx]⟩
 obtain⟨x0,e0⟩:=hc 0 dE;obtain⟨x1,e1⟩:=hc 1 dE;obtain⟨x2,e2⟩:=hc 2 dE;obtain⟨x3,e3⟩:=hc 3 dE;obtain⟨x4,e4⟩:=hc 4 dE;obtain⟨x5,e5⟩:=hc 5 dE;obtain⟨x6,e6⟩:=hc 6 dE;obtain⟨x7,e7⟩:=hc 7 dE;refine⟨⟨x0,x1,x2,x3,x4,x5,x6,x7⟩,?_⟩;unfold Sg.Lk.val
 congr 1
 obtain⟨l⟩:=cs;simp only[List.size_toArray] at AD;obtain⟨a,b,c,d,e,f,g,h,rfl⟩:∃a b c d e f g h,l= [a,b,c,d,e,f,g,h]:=by
  match l,AD with
  | [a,b,c,d,e,f,g,h],_=> exact⟨a,b,c,d,e,f,g,h,rfl⟩
 simp at e0 e1 e2 e3 e4 e5 e6 e7
 rw[e0,e1,e2,e3,e4,e5,e6,e7]
theorem oX {H:Type}{enc:TypeId×Value->H}{W:World}{base:Nat}{v:Value}(hv:Value.okWide prog W .any base 65 v)(h:∃d q,DataW.Trod enc prog W 0 (fun _=> true) true 65 v d q):
  ∃(A:Option Addr) (l:List Int) (ca:Nat),v=.slice A l.length ca/\l.length<=ca/\Sg.tI (FC W) A l:=by
 obtain⟨d,q,h⟩:=h;obtain⟨A,l,ca,rfl,_,hca,h1,h2⟩:=WZ (k:=.u16) Tryz.underlying65 kR kR hv h;refine⟨A,l,ca,rfl,hca,fun x hx=> ?_,?_⟩
 ·have h3:=h1 x hx;rw[show IntKind.u16.min=0 by kernel_rfl,show IntKind.u16.max=65535 by kernel_rfl] at h3;omega
 ·rcases h2 with h2|⟨ab,ao,gs,gt,gz,e1,e2,e3⟩
  ·exact .inl h2
  ·exact .inr ⟨ab,ao,false,gs,gt,gz,e1,e2,e3⟩
end Go.Proofs.YtldmfjcgjdchcaaGreatDoor
namespace Go.RL
open Go.Conc
section
variable {P:Program}{E:Env P}{M:Md P}{n:Nat}{H₀:View}{R:Rg}{L L':Bl}{K:Rg->Bl->Prop}{o:Oper}{d:Nat}{v:Value}
theorem qA.K0 {cl:Go.Call}{x:Operand}{t:TypeId}{a:Addr}{m c:Nat}(lA:o.op=.call cl)(nB:cl.callee=.builtin .unsafeSliceData)(vH:cl.argTypes=#[t])(DH:cl.args=#[x])(hx:JA R x=some (.slice (some a) m c))(hc:Nat.beq c 0=false):
  qA P n H₀ R L o (.pointer (some a)):=fun H tmps _ hr=> by
 unfold execOp;rw[lA];simp only[resolve,nB,vH,DH];have hm:Array.map (fC tmps) #[x]=#[.slice (some a) m c]:=by simp[hr.ev hx]
 rw[hm];refine aA (Builtin.unsafeSliceData_ #[t] o.type #[.slice (some a) m c]) _ ?_;have h0:c≠0:=Nat.ne_of_beq_eq_false hc;show KA P (if c≠0 then Sem.pure (Value.pointer (some a)) else _) H _;rw[if_pos h0];exact⟨rfl,rfl⟩
theorem fK {H:View}{f:Bool}{e:TypeId}{fz:Nat×Nat}{l:List Value}(blk:Nat)(hb:H blk=some (f,.cells ⟨l⟩ e fz)):∀(s a:List UInt8) (off:Nat) {Q:ByteArray->View->Prop},(∀i x,s[i]? =some x->l[off+i]? =some (.int .u8 (x.toNat:Nat)))->Q ⟨⟨a++s⟩⟩ H->KA P (loadBytes ⟨blk,off,none⟩ ⟨⟨a⟩⟩ s.length) H Q
 | [],a,off,Q,_,h=> by
  rw[List.append_nil] at h;exact h
 | x ::s,a,off,Q,hl,h=> by
  have h0:=hl 0 x rfl;have ih:=fK blk hb s (a++[x]) (off+1) (Q:=Q) (fun i y hy=> by
   have:=hl (i+1) y hy;rw[show off+1+i=off+(i+1) by omega];exact this) (by rw[List.append_assoc];exact h)
  refine⟨rfl,rfl,f,⟨l⟩,e,fz,.int .u8 (x.toNat:Nat),hb,?_,?_⟩
  ·simpa using h0
  ·have e1:(ByteArray.mk ⟨a⟩).push ((x.toNat:Nat):Int).toNat.toUInt8=ByteArray.mk ⟨a++[x]⟩:=by
    rw[Int.toNat_natCast,Nat.toUInt8,UInt8.ofNat_toNat,mW]
   show KA P (loadBytes (Addr.add ⟨blk,off,none⟩ 1) ((ByteArray.mk ⟨a⟩).push ((x.toNat:Nat):Int).toNat.toUInt8) s.length) H Q;rw[e1];exact ih
theorem Or.U0(j:Nat){cl:Go.Call}{x y:Operand}{t u e eb blk:Nat}{s:List UInt8}{jj:List Value}(lA:o.op=.call cl)(nB:cl.callee=.builtin .unsafeString)(vH:cl.argTypes=#[t,u])(DH:cl.args=#[x,y])
  (hx:JA R x=some (.pointer (some ⟨blk,0,none⟩))) (hy:JA R y=some (.int .i64 (s.length:Nat))) (ht:P.underlying t=some (.pointer e)) (nI:s≠ []) (GH:s.length<=1000000000)
  (hL:L[j]? =some (blk,true,.cells ⟨sB s++jj⟩ eb (0,0))) (FU:liesAt P P.depth eb ((sB s++jj).length/P.cellsOf eb) 0 e s.length=true) (hd:o.dst=some d) (hn:d<n)
  (hk:K ((d,mA s)::R) (L.set j (blk,true,.cells ⟨sB s++jj⟩ eb (0,s.length)))):Or M n H₀ R L o K:=
 .val hd hn fun H tmps IB hr=> by
  unfold execOp;rw[lA];simp only[resolve,nB,vH,DH];have SW:Array.map (fC tmps) #[x,y]=#[.pointer (some ⟨blk,0,none⟩),.int .i64 (s.length:Nat)]:=by simp[hr.ev hx,hr.ev hy]
  rw[SW];have hb:=IB.get hL;have G5:0<s.length:=List.length_pos_iff.2 nI;have h1:¬((s.length:Nat):Int)<0:=by omega
  have h2:¬((s.length:Nat):Int)>IntKind.i64.max:=by
   have:IntKind.i64.max=9223372036854775807:=by decide
   omega
  have h3:¬((s.length:Nat):Int)=0:=by omega
  refine aA (Builtin.unsafeString_ #[t,u] o.type #[.pointer (some ⟨blk,0,none⟩),.int .i64 (s.length:Nat)]) _ ?_;have hz1:∀z:Int,(((s.length:Nat):Int)=z)->¬z<0/\¬z>IntKind.i64.max/\¬z=0/\z.toNat=s.length:=fun z hz=> by subst hz;exact⟨h1,h2,h3,Int.toNat_natCast _⟩
  generalize hzz:((s.length:Nat):Int)=z;obtain⟨z1,z2,z3,z4⟩:=hz1 z hzz
  conv=> arg 2;whnf
  rw[show(IntKind.i64,z).snd.decLt 0=isFalse z1 from Subsingleton.elim _ _]
  conv=> arg 2;whnf
  rw[show IntKind.i64.max.decLt (IntKind.i64,z).snd=isFalse z2 from Subsingleton.elim _ _]
  conv=> arg 2;whnf
  rw[show(IntKind.i64,z).snd.instDecidableEq 0=isFalse z3 from Subsingleton.elim _ _];refine aA (elemOf t) _ (aA (underlying t) _ (fA ht ?_));refine aA (variablesAt ⟨blk,0,none⟩ e z.toNat) _ ?_;rw[z4];refine⟨true,_,_,_,hb,?_⟩;show KA P (if liesAt P P.depth eb ((sB s++jj).length/P.cellsOf eb) 0 e s.length=true then _ else _) H _;rw[if_pos FU];refine aA (loadBytes ⟨blk,0,none⟩ .empty s.length) _ ?_;refine fK blk hb s [] 0 (fun i x hx=> ?_) ?_
  ·rw[Nat.zero_add,List.getElem?_append_left (by rw[yH];exact(List.getElem?_eq_some_iff.1 hx).1)];unfold sB;rw[List.getElem?_map,hx];rfl
  ·refine⟨oM,_,_,_,hb,?_⟩;refine⟨_,rfl,_,IB.set hL _,?_⟩;have e1:(if((0:Nat),(0:Nat)).1==((0:Nat),(0:Nat)).2 then(0,0+s.length) else(min ((0:Nat),(0:Nat)).1 0,max ((0:Nat),(0:Nat)).2 (0+s.length)))=(0,s.length):=by simp
   show K ((d,mA s)::R) (L.set j (blk,true,.cells ⟨sB s++jj⟩ eb (if((0:Nat),(0:Nat)).1==((0:Nat),(0:Nat)).2 then(0,0+s.length) else(min ((0:Nat),(0:Nat)).1 0,max ((0:Nat),(0:Nat)).2 (0+s.length)))));rw[e1];exact hk
end
end Go.RL
namespace Go.Proofs.YtldmfjcgjdchcaaGreatDoor
open Go.RL Go.Proofs.Tryz
set_option maxRecDepth 10000
theorem E0(fits:TypeId->Bool)(hf:fits 5=true)(k count n:Nat)(h:n<=count):rowAt prog fits (k+1) 5 count 0 n=true:=by
 have hc:prog.cellsOf 5=1:=by kernel_rfl
 unfold rowAt;simp only[hc];simp[h,hf]
theorem jX(count n:Nat)(h:n<=count):liesAt prog prog.depth 5 (count/prog.cellsOf 5) 0 5 n=true:=by
 have hc:prog.cellsOf 5=1:=by kernel_rfl
 obtain⟨k,hk⟩:∃k,prog.depth=k+1:=⟨prog.depth-1,by
  have:1<=prog.depth:=Nat.le_of_ble_eq_true kR;omega⟩
 have hf:sameLayout prog prog.depth 5 5=true:=by kernel_rfl
 have h1:=E0 (fun t=> sameLayout prog prog.depth t 5) hf k count n h;rw[hc,Nat.div_one];show liesAt prog prog.depth 5 count 0 5 n=true;rw[hk] at h1 ⊢;show(rowAt prog (fun t=> sameLayout prog prog.depth t 5) prog.depth 5 count 0 n||_)=true;rw[hk,h1];rfl
theorem R6:prog.underlying 275=some (.pointer 5):=by kernel_rfl
end Go.Proofs.YtldmfjcgjdchcaaGreatDoor
namespace Go.RL
section
variable {P:Program}{E:Env P}{M:Md P}{n:Nat}{H₀:View}{R:Rg}{L:Bl}{K:Rg->Bl->Prop}{o:Oper}{d:Nat}
theorem s6(X B Y:Bl):((X++Y)++B).Perm (X++(B++Y)):=by
 rw[List.append_assoc];exact(List.Perm.refl X).append List.perm_append_comm
theorem Or.iW(k:Nat)(T:Bl->Bl){Y:Bl}(hT:∀B,(T B).Perm (Y++B)){cl:Go.Call}{x y:Operand}{t xt e:TypeId}{sz m:Nat}{yv:Value}{new:List Value}{g:Gl e sz}{r re rx:EA}{ex:TypeId}(lA:o.op=.call cl)(nB:cl.callee=.builtin .append)(vH:cl.argTypes=#[t,xt])(DH:cl.args=#[x,y])
  (hx:JA R x=some g.val) (hy:JA R y=some yv) (ht:E.ty t=some r) (SB:r.ds=.slice e) (kD:E.ty e=some re) (AD:re.size=sz) (KU:Nat.beq re.zero.cells.toList.length sz=true) (yS:E.ty xt=some rx) (hex:rx.ds=.slice ex) (JW:Nat.ble re.bytes 1000=true)
  (hL:L.drop k=T g.bl) (jG:∀H,gA H₀ L H->OA H sz yv m new) (hs:new.all single=true) (hm:g.n+m<=1000000000) (hd:o.dst=some d) (hn:d<n)
  (hk:∀g':Gl e sz,g'.n=g.n+m->g'.l=g.l++new->K ((d,g'.val)::R) (L.take k++T g'.bl)):Or M n H₀ R L o K:=
 .val hd hn fun H tmps IB hr=> by
  have hLe:L=L.take k++T g.bl:=by rw[<-hL,List.take_append_drop]
  unfold execOp;rw[lA];simp only[resolve,nB,vH,DH];have SW:Array.map (fC tmps) #[x,y]=#[g.val,yv]:=by simp[hr.ev hx,hr.ev hy]
  rw[SW];have hp:∀B,((L.take k++Y)++B).Perm (L.take k++T B):=fun B=> by rw[List.append_assoc];exact(List.Perm.refl _).append (hT B).symm
  have wS:=IB;rw[hLe] at wS;have iQ:gA H₀ ((L.take k++Y)++g.bl) H:=wS.perm (hp g.bl);refine aA (Builtin.append_ #[t,xt] o.type #[g.val,yv]) _ ?_;refine MP ht SB kD AD (Nat.eq_of_beq_eq_true KU) ⟨rx,ex,yS,hex⟩ (Nat.le_of_ble_eq_true JW) hm (fun z hz=> iQ.at_ z (by simp[hz])) (jG H IB) hs fun g' H' h1 h2 h3 h4 h5=> ?_;exact⟨_,rfl,_,(iQ.grown h3 h4 h5).perm (hp g'.bl).symm,hk g' h1 h2⟩
theorem kG(Y:Bl):∀B:Bl,(B++Y).Perm (Y++B):=fun _=> List.perm_append_comm
theorem mE(X Y:Bl):∀B:Bl,(X++(B++Y)).Perm ((X++Y)++B):=fun B=> (s6 X B Y).symm
theorem fD(X Y:Bl):∀B:Bl,(X++(Y++B)).Perm ((X++Y)++B):=fun B=> by rw[List.append_assoc]
end
end Go.RL
namespace Go.RL
open Go.Conc
section
variable {P:Program}{E:Env P}{M:Md P}{n:Nat}{H₀:View}{R:Rg}{L L':Bl}{K:Rg->Bl->Prop}{o:Oper}{d:Nat}{v:Value}
theorem sT {t xt e:TypeId}{rt:TypeId}{r re:EA}{sz m:Nat}{y:Value}{new:List Value}{g:Gl e sz}{H:View}{Q:Value->View->Prop}(ht:E.ty t=some r)(SB:r.ds=.slice e)(kD:E.ty e=some re)(AD:re.size=sz)(KU:re.zero.cells.toList.length=sz)
  (yS:∃rx,E.ty xt=some rx/\rx.ds=.str) (JW:re.bytes<=1000) (hn:g.n+m<=1000000000) (hb:∀x∈g.bl,H x.1=some x.2) (hyl:∀Q:Nat->View->Prop,Q m H->KA P (Builtin.lenOf y) H Q) (hyf:∀Q:Array Value->View->Prop,Q ⟨new⟩ H->KA P (Builtin.firstCells sz m y) H Q) (hyn:new.length=m*sz) (hs:new.all single=true)
  (hq:∀(g':Gl e sz) (H':View),g'.n=g.n+m->g'.l=g.l++new->(∀b,g'.blk=some b->((g.blk=some b/\g'.cap=g.cap)\/H b=none))->(∀c,(∀b,g'.blk=some b->b≠c)->H' c=H c)->(∀x∈g'.bl,H' x.1=some x.2)->Q g'.val H'):
  KA P (Builtin.append_ #[t,xt] rt #[g.val,y]) H Q:=by
 obtain⟨rx,P1,VQ⟩:=yS;have hold:=g.src hb;obtain⟨a,oS⟩:∃a,g.val=.slice a g.n g.cap:=⟨_,rfl⟩
 show KA P ((underlying t).bind fun _=> _) H Q;refine aA (underlying t) _ (fA (MC ((E.ok _ _ ht).ds.trans SB)) ?_);rw[oS];show KA P ((sizeOf e).bind fun _=> _) H Q;refine aA (sizeOf e) _ (QA (E.ok _ _ kD).size ?_);refine aA (underlying xt) _ (fA (DF ((E.ok _ _ P1).ds.trans VQ)) ?_);refine aA (Builtin.lenOf y) _ (hyl _ ?_);simp only[AD];by_cases wB:g.n+m<=g.cap
 ·rw[if_pos wB];show KA P ((Builtin.firstCells sz m y).bind fun _=> _) H Q;refine aA _ _ (hyf _ ?_);cases lI:g.blk with
  | none=>
   have h1:=g.h0 lI;have e1:a=none:=by
    unfold Gl.val at oS;rw[lI] at oS
    injection oS with e1
    exact e1.symm
   subst e1;have hm:m=0:=by omega
   have UW:new= []:=List.eq_nil_of_length_eq_zero (by rw[hyn,hm];simp);have:=hq g H oM (by rw[UW];simp) (fun b hb=> .inl ⟨hb,rfl⟩) (fun c _=> rfl) hb;rw[oS] at this;show Q (.slice none (g.n+m) g.cap) H;rw[hm];exact this
  | some b=>
   have e1:a=some ⟨b,0,none⟩:=by
    unfold Gl.val at oS;rw[lI] at oS;cases oS
    rfl
   subst e1;have hHb:H b=some (true,.cells ⟨g.l++g.qB⟩ e (0,0)):=by
    have:=hb (b,true,.cells ⟨g.l++g.qB⟩ e (0,0)) (by unfold Gl.bl;rw[lI];simp);exact this
   show KA P ((storeCells (Addr.add ⟨b,0,none⟩ (g.n*sz)) new).bind fun _=> Sem.pure (.slice (some ⟨b,0,none⟩) (g.n+m) g.cap)) H Q;refine aA _ _ ?_;rw[wE _ _ rfl];have hlen:new.length=m*sz:=hyn;have I1:m*sz<=g.qB.length:=by rw[g.hj];exact Nat.mul_le_mul_right _ oM
   refine qC b _ new 0 (g.l++g.qB) hHb (by simp only[List.length_append,g.hl];omega) hs fun H' GO=> ?_;have IB:HF (g.l++g.qB) (0+g.n*sz+0) new=(g.l++new)++g.qB.drop new.length:=by
    unfold HF;simp only[Nat.zero_add,Nat.add_zero,<-g.hl,List.take_left',List.drop_append];simp
   let g':Gl e sz:=⟨some b,g.n+m,g.cap,g.l++new,g.qB.drop new.length,by simp[g.hl,hlen,Nat.add_mul],wB,by rw[List.length_drop,g.hj,hlen,<-Nat.sub_mul];congr 1;omega,fun h=> by cases h⟩
   have key:∀x∈g'.bl,H' x.1=some x.2:=by
    intro x hx;simp only[g',Gl.bl,List.mem_singleton] at hx;subst hx;show H' b=some (true,.cells ⟨(g.l++new)++g.qB.drop new.length⟩ e (0,0));rw[GO];split
    ·rename_i rK
     subst rK;simpa using hHb
    ·rw[View.LA,IB]
   exact hq g' H' rfl rfl (fun b' JO=> .inl ⟨by cases JO;exact lI,rfl⟩) (fun c hc=> by
    rw[GO];split
    ·rfl
    ·rw[View.vA];intro e;exact hc b rfl e.symm) key
 ·rw[if_neg wB];have FH:=(E.ok _ _ kD).bytes;cases hi:P.info? e with
  | none=> rw[hi] at FH;cases FH
  | some i=>
   rw[hi] at FH;simp only[Option.map_some,Option.some.injEq] at FH;have PW:i.bytes<=1000:=by omega
   have oL:IntKind.i64.max=9223372036854775807:=by decide
   show KA P ((typeInfo e).bind fun _=> _) H Q;refine aA (typeInfo e) _ (gC hi ?_);rw[if_neg (by rw[oL];omega)];show KA P ((typeInfo e).bind fun _=> _) H Q;refine aA (typeInfo e) _ (gC hi ?_);rw[if_neg]
   ·show KA P ((choose _).bind fun newCap=> _) H Q;refine aA (choose _) _ ?_;intro tt;rw[if_neg (by simp[Question.forced])];generalize hnc:(Question.appendCap (g.n+m) g.cap e).cut tt=newCap;have pS:g.n+m<=newCap:=by rw[<-hnc];simp only[Question.cut];omega
    show KA P ((typeInfo e).bind fun _=> _) H Q;refine aA (typeInfo e) _ (gC hi ?_);show KA P ((askRoom (newCap*i.bytes)).bind fun _=> _) H Q;refine aA _ _ ?_;have J5:∀Q':Unit->View->Prop,Q' () H->KA P (askRoom (newCap*i.bytes)) H Q':=by
     intro Q' h;unfold askRoom;split
     ·exact⟨rfl,h⟩
     ·exact h
    refine J5 _ ?_;show KA P ((Builtin.firstCells sz g.n (.slice a g.n g.cap)).bind fun _=> _) H Q;rw[<-oS];refine aA _ _ (XC hold ?_);show KA P ((Builtin.firstCells sz m y).bind fun _=> _) H Q;refine aA _ _ (hyf _ ?_);show KA P ((zeroValue e).bind fun _=> _) H Q;refine aA (zeroValue e) _ (OB (E.ok _ _ kD).zero ?_);rw[XH];intro blk NW;have hzz:re.zero.cells.size=sz:=by rw[<-Array.length_toList];exact KU
    let g':Gl e sz:=⟨some blk,g.n+m,newCap,g.l++new,yC re.zero.cells.toList ((newCap-(g.n+m))*re.zero.cells.size),by simp[g.hl,hyn,Nat.add_mul],pS,by rw[AN,hzz],fun h=> by cases h⟩
    exact hq g' _ rfl rfl (fun b' JO=> .inr (by cases JO;exact NW)) (fun c hc=> by
     rw[View.vA];intro e;exact hc blk rfl e.symm) (fun x hx=> by
     simp only[g',Gl.bl,List.mem_singleton] at hx;subst hx;rw[View.LA];simp)
   ·have h3 : Builtin.nextslicecap (g.n+m) g.cap<=4*1000000000:=by
     unfold Builtin.nextslicecap;split
     ·omega
     ·split
      ·omega
      ·have gb:∀(rounds c:Nat),c<=2*(g.n+m)+1000->Builtin.growBy (g.n+m) rounds c<=2*(g.n+m)+1000:=by
        intro rounds;induction rounds with
        | zero=> exact fun c hc=> hc
        | succ rounds ih=>
         intro c hc;unfold Builtin.growBy;split
         ·exact hc
         ·exact ih _ oM
       have:=gb 4 g.cap oM;omega
    have h4:Builtin.nextslicecap (g.n+m) g.cap*i.bytes<=4*1000000000*1000:=Nat.mul_le_mul h3 PW;omega
theorem LV {t xt e:TypeId}{rt:TypeId}{r re:EA}{sz m:Nat}{y:Value}{new:List Value}{g:Gl e sz}{H:View}{Q:Value->View->Prop}(ht:E.ty t=some r)(SB:r.ds=.slice e)(kD:E.ty e=some re)(AD:re.size=sz)(KU:re.zero.cells.toList.length=sz)
  (yS:∃rx,E.ty xt=some rx/\rx.ds=.str) (JW:re.bytes<=1000) (hn:g.n+m<=1000000000) (hb:∀x∈g.bl,H x.1=some x.2) (hyl:∀Q:Nat->View->Prop,Q m H->KA P (Builtin.lenOf y) H Q) (hyf:∀Q:Array Value->View->Prop,Q ⟨new⟩ H->KA P (Builtin.firstCells sz m y) H Q) (hyn:new.length=m*sz) (hs:new.all single=true)
  (hq:∀(g':Gl e sz) (H':View),g'.n=g.n+m->g'.l=g.l++new->(∀b,g'.blk=some b->(g.blk=some b\/H b=none))->(∀c,(∀b,g'.blk=some b->b≠c)->H' c=H c)->(∀x∈g'.bl,H' x.1=some x.2)->Q g'.val H'):
  KA P (Builtin.append_ #[t,xt] rt #[g.val,y]) H Q:=
 sT ht SB kD AD KU yS JW hn hb hyl hyf hyn hs fun g' H' h1 h2 h3 h4 h5=> hq g' H' h1 h2 (fun b hb=> (h3 b hb).imp And.left id) h4 h5
theorem Or.j9(k:Nat)(T:Bl->Bl){Y:Bl}(hT:∀B,(T B).Perm (Y++B)){cl:Go.Call}{x y:Operand}{t xt e:TypeId}{s:List UInt8}{g:Gl e 1}{r re rx:EA}(lA:o.op=.call cl)(nB:cl.callee=.builtin .append)(vH:cl.argTypes=#[t,xt])(DH:cl.args=#[x,y])
  (hx:JA R x=some g.val) (hy:JA R y=some (mA s)) (ht:E.ty t=some r) (SB:r.ds=.slice e) (kD:E.ty e=some re) (AD:re.size=1) (KU:Nat.beq re.zero.cells.toList.length 1=true) (yS:E.ty xt=some rx) (hex:rx.ds=.str) (JW:Nat.ble re.bytes 1000=true)
  (hL:L.drop k=T g.bl) (hm:g.n+s.length<=1000000000) (hd:o.dst=some d) (hn:d<n)
  (hk:∀g':Gl e 1,g'.n=g.n+s.length->g'.l=g.l++sB s->K ((d,g'.val)::R) (L.take k++T g'.bl)):Or M n H₀ R L o K:=
 .val hd hn fun H tmps IB hr=> by
  have hLe:L=L.take k++T g.bl:=by rw[<-hL,List.take_append_drop]
  unfold execOp;rw[lA];simp only[resolve,nB,vH,DH];have SW:Array.map (fC tmps) #[x,y]=#[g.val,mA s]:=by simp[hr.ev hx,hr.ev hy]
  rw[SW];have hp:∀B,((L.take k++Y)++B).Perm (L.take k++T B):=fun B=> by rw[List.append_assoc];exact(List.Perm.refl _).append (hT B).symm
  have wS:=IB;rw[hLe] at wS;have iQ:gA H₀ ((L.take k++Y)++g.bl) H:=wS.perm (hp g.bl);refine aA (Builtin.append_ #[t,xt] o.type #[g.val,mA s]) _ ?_;refine LV (new:=sB s) (m:=s.length) ht SB kD AD (Nat.eq_of_beq_eq_true KU) ⟨rx,yS,hex⟩ (Nat.le_of_ble_eq_true JW) hm (fun z hz=> iQ.at_ z (by simp[hz])) (fun Q hq=> hq) (fun Q hq=> ?_) (by rw[yH,Nat.mul_one]) (aQ s) fun g' H' h1 h2 h3 h4 h5=> ?_
  ·have e:((ByteArray.mk ⟨s⟩).extract 0 s.length).data.map (fun b=> Value.int .u8 (b.toNat:Int))=⟨sB s⟩:=by
    rw[AQ];simp[sB]
   show Q (((ByteArray.mk ⟨s⟩).extract 0 s.length).data.map (fun b=> Value.int .u8 (b.toNat:Int))) H;rw[e];exact hq
  ·exact⟨_,rfl,_,(iQ.grown h3 h4 h5).perm (hp g'.bl).symm,hk g' h1 h2⟩
end
end Go.RL
namespace Go.Proofs.YtldmfjcgjdchcaaGreatDoor
open Go.RL Go.Proofs.Tryz
set_option maxRecDepth 10000
set_option maxHeartbeats 8000000
def yW(n:Nat):UInt8:=UInt8.ofNat (if n=10 then 48 else 48+n)
theorem aBF:∀n,1<=n->n<=10->(DL.drop (((n:Nat):Int)-1).toNat).take (((n:Nat):Int).toNat-(((n:Nat):Int)-1).toNat)= [yW n]:=by
 have h:∀n,n<=10->1<=n->(DL.drop (((n:Nat):Int)-1).toNat).take (((n:Nat):Int).toNat-(((n:Nat):Int)-1).toNat)= [yW n]:=by
  intro n h;have:n=0\/n=1\/n=2\/n=3\/n=4\/n=5\/n=6\/n=7\/n=8\/n=9\/n=10:=by omega
  rcases this with rfl|rfl|rfl|rfl|rfl|rfl|rfl|rfl|rfl|rfl|rfl <;> intro h2 <;> first|omega|rfl
 exact fun n h1 h2=> h n h2 h1
theorem C9 {x:UInt8}(h:BD x=true):yW (pn x)=x:=by
 have h1:48<=x.toNat/\x.toNat<58:=of_decide_eq_true h;have e:(if pn x=10 then 48 else 48+pn x)=x.toNat:=by
  by_cases h2:x.toNat=48
  ·simp[pn,h2]
  ·have h3:¬x.toNat-48=10:=by omega
   simp only[pn,h2,h3,if_false];omega
 unfold yW;rw[e,UInt8.ofNat_toNat]
theorem aFM:Xt prog 238 Extern.AbiNoEscape.same:=⟨Tryz.f238,func238,by kernel_rfl,by kernel_rfl,by kernel_rfl,by kernel_rfl⟩
theorem iV:prog.underlying 174=some (.pointer 176):=by kernel_rfl
theorem M7:prog.underlying 305=some .unsafePointer:=by kernel_rfl
theorem aCc:liesAt prog prog.depth 176 (2/prog.cellsOf 176) 0 176 1=true:=by kernel_rfl
section
variable(M:Md prog)(H:View)
theorem n0(hG:eZ H)(n:Nat)(h1:1<=n)(h2:n<=10):bA M 115 #[.int .i64 (n:Nat),.int .i64 1] H (fun v H'=> H.le H'/\v=mA [yW n]):=by
 obtain⟨f4,gt4,gz4,hG4⟩:=hG;have x1:=aBF n h1 h2;have hl:DL.length=26:=rfl;refine .en func115 ntmps115 fun St c cs hK=> ?_;refine U27 ?_;refine .cl (fun H hs=> jK M H (n:Nat) 1 26 true (decide_eq_true oM)) ?_;refine PE ?_;refine .x (qA.XG (E:=en) rfl rfl rfl rfl rfl rfl oM oM oM) ?_;refine U2 ?_;refine .rt hK func115 results115 [_] ?_;refine fun H' hs=> ⟨hs.base,?_⟩
 show mA _=_;rw[x1]
theorem J0(n:Nat)(h2:n<=10):bA M 116 #[.int .i64 (n:Nat),.int .i64 1] H (fun v H'=> H.le H'/\v=.int .i64 1):=by
 refine .en func116 ntmps116 fun St c cs hK=> ?_;refine U29 ?_;refine .rt hK func116 results116 [_] ?_;exact okB
theorem UO(x:Int)(t:Bool)(ht:decide (0<=x/\x<=31)=t):bA M 114 #[.int .i64 x] H (fun v H'=> H.le H'/\v=.bool t):=by
 refine .en func114 ntmps114 fun St c cs hK=> ?_;refine U7 ?_;refine .cl (fun H hs=> jK M H x 0 31 t ht) ?_;refine U2 ?_;refine .rt hK func114 results114 [_] ?_;exact okB
theorem C6(x:Int):bA M 113 #[.int .i64 x] H (fun v H'=> H.le H'/\v=.bool (!decide (0<=x/\x<=31))):=by
 generalize ht:decide (0<=x/\x<=31)=t;refine .en func113 ntmps113 fun St c cs hK=> ?_;refine U7 ?_;refine .cl (fun H hs=> UO M H x t ht) ?_;refine U3 ?_;refine .rt hK func113 results113 [_] ?_;exact okB
theorem jW(F:Option Addr)(n fc:Nat)(x:Nat->Int)(hF:rB H F n x)(hn:n<=1000000)(hx:∀j,j<n->0<=x j/\x j<=31):bA M 39 #[.slice F n fc] H (fun v H'=> H.le H'/\v=.bool true):=by
 have hi:=fun(H':View) (h':H.le H')=> PM M H' F n fc x (hF.le h') hn (.func (.func 113) #[] #[]) (fun j=> !decide (0<=x j/\x j<=31)) (fun j hj H' _=> .h (C6 M H' (x j)));have e:(jA (fun j=> !decide (0<=x j/\x j<=31)) n).isSome=false:=by
  rw[(kB n).2 (fun i hi=> by simp only[decide_eq_true (hx i hi),Bool.not_true])];rfl
 rw[e] at hi;refine .en func39 ntmps39 fun St c cs hK=> ?_;refine U7 ?_;refine .cl (fun H hs=> hi H hs.base) ?_;refine U3 ?_;refine .rt hK func39 results39 [_] ?_;exact okB
def l9(b:Nat)(u:Bool)(g:Gl 5 1):Bl:=(b,true,.cells ⟨[.pointer (if u then some ⟨b,0,none⟩ else none),g.val]⟩ 176 (0,0))::g.bl
theorem jU(H₁:View)(b:Nat)(u:Bool)(g:Gl 5 1)(ME:gA H₁ (l9 b u g) H):
  bA M 171 #[.pointer (some ⟨b,0,none⟩)] H (uQ H₁ (fun _:Unit=> .tuple ⟨[]⟩) (fun _=> l9 b true g) (fun _=> True)):=by
 cases u with
 | false=>
  refine bA.enter (vs:= [.pointer (some ⟨b,0,none⟩)]) func171 rfl ntmps171 (Nat.le_of_ble_eq_true rfl) (ME) fun St c cs hK=> ?_;refine U6 ?_;refine .x (qA.Q6 true rfl rfl rfl iV rfl) ?_;refine U5 ?_;refine .x (qA.aGJ (E:=en) 0 rfl rfl rfl iV M7 rfl rfl rfl) ?_;refine .x (qA.entry rfl rfl rfl rfl aFM (fun H Q hq=> hq)) ?_;refine .x (qA.aBG (E:=en) 0 rfl rfl rfl M7 iV rfl aCc) ?_;refine U4 ?_;refine .ov hK func171 results171 [] ?_;exact fun H' hs=> ⟨(),H₁,rfl,View.le_refl _,hs,trivial⟩
 | true=>
  refine bA.enter (vs:= [.pointer (some ⟨b,0,none⟩)]) func171 rfl ntmps171 (Nat.le_of_ble_eq_true rfl) (ME) fun St c cs hK=> ?_;refine U6 ?_;refine .x (qA.Q6 false rfl rfl rfl iV rfl) ?_;refine U9 ?_;refine .x (qA.aAs (E:=en) rfl rfl rfl iV rfl rfl) ?_;refine U3 ?_;refine .ov hK func171 results171 [] ?_;exact fun H' hs=> ⟨(),H₁,rfl,View.le_refl _,hs,trivial⟩
def buP(s:List UInt8)(g g':Gl 5 1):Prop:=g'.n=g.n+s.length/\g'.l=g.l++sB s
theorem ZP(H₁:View)(b:Nat)(u:Bool)(g:Gl 5 1)(s:List UInt8)(hm:g.n+s.length<=1000000)(ME:gA H₁ (l9 b u g) H):
  bA M 91 #[.pointer (some ⟨b,0,none⟩),mA s] H (uQ H₁ (fun _:Gl 5 1=> .tuple ⟨[.int .i64 (s.length:Nat),.nilIface]⟩) (fun g'=> l9 b true g') (buP s g)):=by
 refine bA.enter (vs:= [.pointer (some ⟨b,0,none⟩),mA s]) func91 rfl ntmps91 (Nat.le_of_ble_eq_true rfl) (ME) fun St c cs hK=> ?_;refine U8 ?_;refine .e (Or.UK 0 (σ:=Unit) (fun _=> .tuple ⟨[]⟩) (fun _=> l9 b true g) (fun _=> True) rfl rfl rfl rfl rfl dE (fun H₁ H₂ M1 aX=> .h (jU M H₂ H₁ b u g aX)) (fun _ _=> ?_));refine U9 ?_;refine .e (Or.j9 (E:=en) (g:=g) 1 (fun B=> B) (Y:= []) (fun B=> List.Perm.refl _) rfl rfl rfl rfl rfl rfl rfl rfl rfl rfl rfl rfl rfl rfl rfl oM rfl dE (fun g2 TW TP=> ?_));refine PE ?_;refine .rt hK func91 results91 [_,_] ?_;exact fun H' hs=> ⟨g2,H₁,rfl,View.le_refl _,hs,TW,TP⟩
theorem R2(H₁:View)(b:Nat)(u:Bool)(g:Gl 5 1)(s:List UInt8)(xB:s≠ [])(nL:g.n=s.length)(TN:g.l=sB s)(hm:g.n<=1000000)(ME:gA H₁ (l9 b u g) H):
  bA M 95 #[.pointer (some ⟨b,0,none⟩)] H (uQ H₁ (fun _:Unit=> mA s) (fun _=> []) (fun _=> True)):=by
 have G5:0<s.length:=List.length_pos_iff.2 xB;obtain⟨gb,gn,gc,gl,gj,h1,h2,h3,h4⟩:=g;simp only at nL TN hm;subst nL TN;cases gb with
 | none=> have:=h4 rfl;omega
 | some gb=>
  have hc0:Nat.beq gc 0=false:=by
   cases gc with
   | zero=> omega
   | succ _=> rfl
  have FU:liesAt prog prog.depth 5 ((sB s++gj).length/prog.cellsOf 5) 0 5 s.length=true:=jX _ _ (by rw[List.length_append,yH];omega);have GH:gA H₁ [(b,true,.cells ⟨[.pointer (if u then some ⟨b,0,none⟩ else none),.slice (some ⟨gb,0,none⟩) s.length gc]⟩ 176 (0,0)),(gb,true,.cells ⟨sB s++gj⟩ 5 (0,0))] H:=ME;refine bA.enter (vs:= [.pointer (some ⟨b,0,none⟩)]) func95 rfl ntmps95 (Nat.le_of_ble_eq_true rfl) (GH) fun St c cs hK=> ?_;refine U5 ?_;refine Tc.dr [10] [1] mixed rfl ?_;refine .nw 0 ?_;refine .nw 1 ?_;refine .nw 2 ?_;refine .nw 3 ?_;refine .q 4 rfl (qA.K0 rfl rfl rfl rfl rfl hc0) ?_;refine .nw 5 ?_;refine .nw 6 ?_;refine .nw 7 ?_;refine .nw 8 ?_;refine .nn 9 ?_;refine .ea 10 rfl (Or.U0 1 rfl rfl rfl rfl rfl rfl R6 xB oM rfl FU rfl dE ⟨S2.mk sL (.inl kR),?_⟩);refine .nw 11 ?_;refine .dn ?_;refine .rt hK func95 results95 [_] ?_;exact fun H' hs=> ⟨(),H₁,rfl,View.le_refl _,hs.sub (List.nil_sublist _),trivial⟩
end
theorem O6 {s:List UInt8}(h:s.all BD=true)(i:Nat):1<=HC s i/\HC s i<=10:=by
 unfold HC;cases e:s[i]? with
 | none=> decide
 | some x=> exact oP (List.all_eq_true.1 h x (List.mem_of_getElem? e))
def fE(l:List Value):List Value:=.int .i64 1::l
theorem aGB {α:Type}(x y z:α): [z,y,x].Perm [x,y,z]:=List.reverse_perm [x,y,z]
section
variable(M:Md prog)(H:View)
theorem aDI(hG:eZ H)(s:List UInt8)(GH:s.all BD=true)(OO:s.length<=12)(M1:s≠ [])(ma:Option Addr)(mc:Nat)(l:List Value)(TP:∀(i:Nat) (x:UInt8),s[i]? =some x->l[i]? =some (Value.int .i64 (pn x:Nat))):
  bA M 40 #[.agg ⟨[.int .i64 0,.int .i64 0,.int .i64 0,.bool false,.slice ma s.length mc]⟩,.agg ⟨fE l⟩] H (fun v H'=> H.le H'/\v=mA s):=by
 refine .en func40 ntmps40 fun St c cs hK=> ?_;refine U2 ?_;refine .bo fun b2=> ?_;refine .bo fun b3=> ?_;refine U4 ?_;refine .al fun b5=> ?_;refine OK ?_;refine Tc.perm (L₁:= [(b2,true,.cells ⟨[.int .i64 0,.int .i64 0,.int .i64 0,.bool false,.slice ma s.length mc]⟩ 99 (0,0)),(b3,true,.cells ⟨fE l⟩ 94 (0,0)),(b5,true,.cells ⟨[.pointer none,.slice none 0 0]⟩ 176 (0,0))]) (aGB _ _ _) ?_;refine Tc.db (Tc.tA (σ:= { x:Nat×Bool×Gl 5 1//x.1<=s.length/\x.2.2.n=x.1/\x.2.2.l=sB (s.take x.1) }) (fun x=> ([(3,.pointer (some ⟨b3,0,none⟩)),(5,.pointer (some ⟨b5,0,none⟩)),(6,.int .i64 1),(13,.int .i64 (s.length:Nat)),(14,.int .i64 (x.1.1:Nat))],(b3,true,.cells ⟨fE l⟩ 94 (0,0))::l9 b5 x.1.2.1 x.1.2.2)) (fun x=> s.length-x.1.1) ?_ ⟨(0,false,Gl.nil 5 1),Nat.zero_le _,rfl,rfl⟩);rintro⟨⟨q,u,g⟩,hq,nL,TN⟩ ih;simp only at hq nL TN;show Tc M St _ _ _ _ [(3,.pointer (some ⟨b3,0,none⟩)),(5,.pointer (some ⟨b5,0,none⟩)),(6,.int .i64 1),(13,.int .i64 (s.length:Nat)),(14,.int .i64 (q:Nat))] ((b3,true,.cells ⟨fE l⟩ 94 (0,0))::l9 b5 u g) _ _;by_cases c1:q=s.length
 ·clear ih;subst c1;rw[List.take_length] at TN;refine U9 ?_;refine .e (Or.UK 1 (σ:=Unit) (fun _=> mA s) (fun _=> []) (fun _=> True) rfl rfl rfl rfl rfl dE (fun H₁ H₂ aX hs5=> .h (R2 M H₂ H₁ b5 u g s M1 nL TN oM hs5)) (fun _ _=> ?_));refine U2 ?_;refine .rt hK func40 results40 [_] ?_;exact okB
 ·have c2:q<s.length:=by omega
  obtain⟨x,hx,F1,lL⟩:=sJ s q c2 GH;have CY:=oP F1;have f1:gD false 1 (fE l) (1+((q:Nat):Int).toNat*1)=some (.int .i64 (pn x:Nat)):=by
   show(fE l)[1+((q:Nat):Int).toNat*1]? =_;rw[Int.toNat_natCast,Nat.mul_one,Nat.add_comm];exact TP q x hx
  have hdc:=C9 F1;have hbt:sB (s.take (q+1))=sB (s.take q)++sB [x]:=by
   obtain⟨hp,rfl⟩:=List.getElem?_eq_some_iff.1 hx;rw[List.take_succ_eq_append_getElem hp,kW]
  refine wQ ?_;refine .cl (fun H hs=> n0 M H (hG.le hs.base) (pn x) CY.1 CY.2) ?_;refine .e (Or.UK 1 (σ:=Gl 5 1) (fun _=> .tuple ⟨[.int .i64 (1:Nat),.nilIface]⟩) (fun g'=> l9 b5 true g') (buP [yW (pn x)] g) rfl rfl rfl rfl rfl dE (fun H₁ H₂ aX hs5=> .h (ZP M H₂ H₁ b5 u g [yW (pn x)] (by simp only[List.length_singleton];omega) hs5)) (fun g2 nM=> ?_));refine U7 ?_;refine .cl (fun H hs=> J0 M H (pn x) CY.2) ?_;refine U7 ?_;exact Tc.db (ih ⟨(q+1,true,g2),by simp only;omega,by simp only;rw[nM.1,nL];rfl,by simp only;rw[nM.2,TN,hbt,hdc]⟩ (by simp only;omega))
theorem U1(hG:eZ H)(s:List UInt8)(GH:s.all BD=true)(OO:s.length<=12)(M1:s≠ [])(F:Option Addr)(fc:Nat)(hF:OA H 1 (.slice F s.length fc) s.length (lB s))(hF2:rB H F s.length (fun i=> (HC s i:Nat))):
  bA M 11 #[.slice F s.length fc,.int .i64 1] H (fun v H'=> H.le H'/\v=.tuple ⟨[mA s,.int .i64 0]⟩):=by
 have IB:HF (fE (List.replicate 12 (.int .i64 0))) 1 (lB s)=fE (lB s++List.replicate (12-s.length) (.int .i64 0)):=by
  have h1:(lB s).length=s.length:=by simp[lB]
  unfold HF fE;simp only[List.take_succ_cons,List.take_zero,List.cons_append,List.nil_append,h1,Nat.add_comm 1 s.length,List.drop_succ_cons,List.drop_replicate]
 have CY:=fun j=> O6 GH j;have hcd:∀(i:Nat) (x:UInt8),s[i]? =some x->(lB s++List.replicate (12-s.length) (.int .i64 0))[i]? =some (Value.int .i64 (pn x:Nat)):=fun i x hx=> by
  rw[List.getElem?_append_left (by simp only[lB,List.length_map];exact(List.getElem?_eq_some_iff.1 hx).1)];simp only[lB,List.getElem?_map,hx];rfl
 have hld:gD true 13 (fE (lB s++List.replicate (12-s.length) (.int .i64 0))) 0=some (.agg ⟨fE (lB s++List.replicate (12-s.length) (.int .i64 0))⟩):=by
  have h1:(fE (lB s++List.replicate (12-s.length) (.int .i64 0))).length=13:=by
   simp only[fE,lB,List.length_cons,List.length_append,List.length_map,List.length_replicate];omega
  unfold gD;simp only[h1,List.drop_zero];rw[List.take_of_length_le oM]
 refine .en func11 ntmps11 fun St c cs hK=> ?_;refine U29 ?_;refine .cl (fun H hs=> jW M H F s.length fc _ (hF2.le hs.base) oM (fun j hj=> by have:=CY j;exact⟨by show(0:Int)<=((HC s j:Nat):Int);omega,by show((HC s j:Nat):Int)<=31;omega⟩)) ?_;refine lD ?_;refine .al fun b6=> ?_;refine U5 ?_;refine .x (qA.DX (E:=en) (l:=0) (h:=12) rfl rfl rfl rfl rfl rfl rfl rfl oM oM oM rfl) ?_;refine U ?_;refine .e (Or.aBs (E:=en) 0 rfl rfl rfl rfl rfl rfl rfl rfl rfl rfl rfl (fun H hs=> hF.mono hs.base) (by simp[lB,single]) OO (Nat.le_of_ble_eq_true rfl) rfl dE IB ?_);refine U2 ?_;refine Tc.dr [] [] mixed rfl ?_;refine V2 0 ?_;refine .nn 5 ?_;refine .ea 2 rfl (Or.makeSlice (E:=en) (len:=s.length) (cap:=s.length) rfl rfl rfl rfl rfl rfl (Nat.le_refl _) oM rfl rfl dE (fun b30=> ⟨S2.mk sL (.inr sL),?_⟩));refine V2 3 ?_;refine .z 6 rfl (qA.tk fun H hs=> aDI M H (hG.le hs.base) s GH OO M1 (some ⟨b30,0,none⟩) s.length _ hcd) ?_;refine V2 7 ?_;refine .dn ?_;refine .rt hK func11 results11 [_,_] ?_;exact okB
end
section
variable(M:Md prog)(H:View)
theorem uI(A B:Option Addr)(n m ac bc:Nat)(x y:Nat->List UInt8)(hA:BF H A n x)(hB:BF H B m y)(hn:n<=100000000)(hm:m<=100000000)(t:Bool)(ht:(decide (n=m)&&bG (fun i=> decide (x i=y i)) n)=t):
  bA M 59 #[.slice A n ac,.slice B m bc] H (fun v H'=> H.le H'/\v=.bool t):=by
 rw[<-ht];clear ht;refine .en func59 ntmps59 fun St c cs hK=> ?_;by_cases c0:n=m
 ·subst c0;rw[decide_eq_true rfl,Bool.true_and] at hK;refine wQ ?_;refine Tc.db (Tc.tA (σ:= { j:Nat//j<=n/\∀i,i<j->x i=y i }) (fun j=> ([(0,.slice A n ac),(1,.slice B n bc),(5,.int .i64 (j.1:Nat))],[])) (fun j=> n-j.1) ?_ ⟨0,Nat.zero_le _,fun i hi=> by omega⟩);rintro⟨j,hj,SA⟩ ih;show Tc M St _ _ _ _ [(0,.slice A n ac),(1,.slice B n bc),(5,.int .i64 (j:Nat))] [] _ _;by_cases c1:j=n
  ·have e:bG (fun i=> decide (x i=y i)) n=true:=(DD n).2 (fun i hi=> decide_eq_true (SA i oM));subst c1;rw[e] at hK;refine QE ?_;refine .rt hK func59 results59 [_] ?_;exact okB
  ·have c2:j<n:=by omega
   obtain h0|⟨ab,ao,fa,gs,gt,gz,rfl,OQ,VV⟩:=hA
   ·omega
   obtain h0|⟨bb,bo,fb,ks,kt,kz,rfl,EH,YJ⟩:=hB
   ·omega
   have f1:=VV j c2;have f2:=YJ j c2;by_cases c3:x j=y j
   ·have f3:RL.fF .neq (x j) (y j)=some (.bool false):=by simp[RL.fF,c3]
    refine CG ?_;refine Tc.dr [] [] mixed rfl ?_;refine V9 0 ?_;refine .dn ?_;refine U8 ?_;exact Tc.db (ih ⟨j+1,oM,fun i hi=> by by_cases e:i=j;exact e▸c3;exact SA i oM⟩ (by simp only;omega))
   ·have f3:RL.fF .neq (x j) (y j)=some (.bool true):=by simp[RL.fF,c3]
    have e:bG (fun i=> decide (x i=y i)) n=false:=cG c2 (decide_eq_false c3);rw[e] at hK;refine CG ?_;refine Tc.dr [] [] mixed rfl ?_;refine V9 0 ?_;refine .dn ?_;refine U5 ?_;refine .rt hK func59 results59 [_] ?_;exact okB
 ·rw[decide_eq_false c0,Bool.false_and] at hK;refine QT ?_;refine .rt hK func59 results59 [_] ?_;exact okB
theorem KR(A B:Option Addr)(n m ac bc:Nat)(x y:Nat->Int)(hA:rB H A n x)(hB:rB H B m y)(hn:n<=1000000)(hm:m<=1000000)(t:Bool)(ht:(decide (n=m)&&bG (fun i=> decide (x i=y i)) n)=t):
  bA M 147 #[.slice A n ac,.slice B m bc] H (fun v H'=> H.le H'/\v=.bool t):=by
 rw[<-ht];clear ht;refine .en func147 ntmps147 fun St c cs hK=> ?_;by_cases c0:n=m
 ·subst c0;rw[decide_eq_true rfl,Bool.true_and] at hK;refine wQ ?_;refine Tc.db (Tc.tA (σ:= { j:Nat//j<=n/\∀i,i<j->x i=y i }) (fun j=> ([(0,.slice A n ac),(1,.slice B n bc),(5,.int .i64 (j.1:Nat))],[])) (fun j=> n-j.1) ?_ ⟨0,Nat.zero_le _,fun i hi=> by omega⟩);rintro⟨j,hj,SA⟩ ih;show Tc M St _ _ _ _ [(0,.slice A n ac),(1,.slice B n bc),(5,.int .i64 (j:Nat))] [] _ _;by_cases c1:j=n
  ·have e:bG (fun i=> decide (x i=y i)) n=true:=(DD n).2 (fun i hi=> decide_eq_true (SA i oM));subst c1;rw[e] at hK;refine QE ?_;refine .rt hK func147 results147 [_] ?_;exact okB
  ·have c2:j<n:=by omega
   obtain h0|⟨ab,ao,fa,gs,gt,gz,rfl,OQ,VV⟩:=hA
   ·omega
   obtain h0|⟨bb,bo,fb,ks,kt,kz,rfl,EH,YJ⟩:=hB
   ·omega
   have f1:=VV j c2;have f2:=YJ j c2;by_cases c3:x j=y j
   ·skip
    refine CG ?_;refine Tc.dr [] [] mixed rfl ?_;refine V9 0 ?_;refine .dn ?_;refine U8 ?_;exact Tc.db (ih ⟨j+1,oM,fun i hi=> by by_cases e:i=j;exact e▸c3;exact SA i oM⟩ (by simp only;omega))
   ·skip
    have e:bG (fun i=> decide (x i=y i)) n=false:=cG c2 (decide_eq_false c3);rw[e] at hK;refine CG ?_;refine Tc.dr [] [] mixed rfl ?_;refine V9 0 ?_;refine .dn ?_;refine U5 ?_;refine .rt hK func147 results147 [_] ?_;exact okB
 ·rw[decide_eq_false c0,Bool.false_and] at hK;refine QT ?_;refine .rt hK func147 results147 [_] ?_;exact okB
theorem qO(A B:Option Addr)(n m ac bc:Nat)(x y:Nat->Int)(hA:rB H A n x)(hB:rB H B m y)(hn:n<=1000000)(hm:m<=1000000)(t:Bool)(ht:(decide (n=m)&&bG (fun i=> decide (x i=y i)) n)=t):
  bA M 60 #[.slice A n ac,.slice B m bc] H (fun v H'=> H.le H'/\v=.bool t):=by
 refine .en func60 ntmps60 fun St c cs hK=> ?_;refine U8 ?_;refine .cl (fun H hs=> KR M H A B n m ac bc x y (hA.le hs.base) (hB.le hs.base) hn hm t ht) ?_;refine U2 ?_;refine .rt hK func60 results60 [_] ?_;exact okB
end
set_option maxHeartbeats 16000000
section
variable(M:Md prog)(H:View)
theorem qQ(A B:Option Addr)(n ac bc:Nat)(x y:Nat->Int)(hA:rB H A n x)(hB:rB H B n y)(hn:n<=1000000)(he:∀i,i<n->x i=y i):
  bA M 148 #[.slice A n ac,.slice B n bc] H (fun v H'=> H.le H'/\v=.bool false):=by
 refine .en func148 ntmps148 fun St c cs hK=> ?_;refine lD ?_;refine Tc.db (Tc.tA (σ:= { j:Nat//j<=n }) (fun j=> ([(0,.slice A n ac),(1,.slice B n bc),(5,.int .i64 (j.1:Nat))],[])) (fun j=> n-j.1) ?_ ⟨0,Nat.zero_le _⟩);rintro⟨j,hj⟩ ih;show Tc M St _ _ _ _ [(0,.slice A n ac),(1,.slice B n bc),(5,.int .i64 (j:Nat))] [] _ _;by_cases c1:j=n
 ·subst c1;refine U25 ?_;refine .rt hK func148 results148 [_] ?_;exact okB
 ·have c2:j<n:=by omega
  obtain h0|⟨ab,ao,fa,gs,gt,gz,rfl,OQ,VV⟩:=hA
  ·omega
  obtain h0|⟨bb,bo,fb,ks,kt,kz,rfl,EH,YJ⟩:=hB
  ·omega
  have f1:=VV j c2;have f2:=YJ j c2;have f3:=he j c2;refine YP ?_;refine Tc.dr [] [] mixed rfl ?_;refine V9 0 ?_;refine .dn ?_;refine U8 ?_;exact Tc.db (ih ⟨j+1,oM⟩ (by simp only;omega))
theorem PT(A B:Option Addr)(n ac bc:Nat)(x y:Nat->Int)(hA:rB H A n x)(hB:rB H B n y)(hn:n<=1000000)(he:∀i,i<n->x i=y i):
  bA M 61 #[.slice A n ac,.slice B n bc] H (fun v H'=> H.le H'/\v=.bool true):=by
 refine .en func61 ntmps61 fun St c cs hK=> ?_;refine U8 ?_;refine .cl (fun H hs=> qQ M H A B n ac bc x y (hA.le hs.base) (hB.le hs.base) hn he) ?_;refine U4 ?_;refine .cl (fun H hs=> qQ M H B A n bc ac y x (hB.le hs.base) (hA.le hs.base) hn (fun i hi=> (he i hi).symm)) ?_;refine U4 ?_;refine .rt hK func61 results61 [_] ?_;exact okB
theorem P0(a b:Int):bA M 46 #[.int .i64 a,.int .i64 b] H (fun v H'=> H.le H'/\v=FD a b):=by
 refine .en func46 ntmps46 fun St c cs hK=> ?_;refine U2 ?_;refine .al fun b4=> ?_;refine U8 ?_;refine .rt hK func46 results46 [_] ?_;exact okB
theorem aO(p q:Int):bA M 14 #[.int .i64 p,.int .i64 q] H (fun v H'=> H.le H'/\v=UC p p q q):=by
 refine .en func14 ntmps14 fun St c cs hK=> ?_;refine U2 ?_;refine .al fun b4=> ?_;refine U5 ?_;refine .cl (fun H hs=> P0 M H p p) ?_;refine U2 ?_;refine .cl (fun H hs=> P0 M H q q) ?_;refine U3 ?_;refine .rt hK func14 results14 [_] ?_;exact okB
end
def DW(i:Nat):List UInt8:= [[97,110,110],[98,111,98],[101,118,101]][i]?.getD []
def oY(i:Nat):List UInt8:= [[49,50],[49,51],[50]][i]?.getD []
def xZ(i:Nat):Nat:= [1,2,1][i]?.getD 0
def CW(i j:Nat):Int:=([[1],[2,1],[0]][i]?.getD [])[j]?.getD 0
def jC(l:List Int)(i:Nat):Int:=l[i]?.getD 0
def iE:Bk:=⟨5,20,3,DW,oY,xZ,CW,2,jC [1,2],jC [1,3],jC [8,6],jC [8,6]⟩
def qF:Bk:=⟨5,20,3,DW,oY,xZ,CW,3,jC [1,1,2],jC [1,1,2],jC [3,9,9],jC [6,9,9]⟩
def QR:Bk:=iE.now 1 2 2 6 6
def exF(b0 b1 b2:Nat)(i:Nat):Option Addr:=match i with
 | 0=> some ⟨b0,0,none⟩
 | 1=> some ⟨b1,0,none⟩
 | _=> some ⟨b2,0,none⟩
structure LK(H:View)(bl b0 b1 b2:Nat):Prop where
 h:∃f gt gz,H bl=some (f,.cells ⟨[mA [97,110,110],mA [49,50],.slice (some ⟨b0,0,none⟩) 1 1,mA [98,111,98],mA [49,51],.slice (some ⟨b1,0,none⟩) 2 2,mA [101,118,101],mA [50],.slice (some ⟨b2,0,none⟩) 1 1]⟩ gt gz)
 h0:∃f gt gz,H b0=some (f,.cells ⟨[.int .i64 1]⟩ gt gz)
 h1:∃f gt gz,H b1=some (f,.cells ⟨[.int .i64 2,.int .i64 1]⟩ gt gz)
 h2:∃f gt gz,H b2=some (f,.cells ⟨[.int .i64 0]⟩ gt gz)
theorem LK.le {H H':View}{bl b0 b1 b2:Nat}(h:LK H bl b0 b1 b2)(k:H.le H'):LK H' bl b0 b1 b2:=
 ⟨h.h.imp fun _ ⟨gt,gz,e⟩=> ⟨gt,gz,k _ _ e⟩,h.h0.imp fun _ ⟨gt,gz,e⟩=> ⟨gt,gz,k _ _ e⟩,h.h1.imp fun _ ⟨gt,gz,e⟩=> ⟨gt,gz,k _ _ e⟩,h.h2.imp fun _ ⟨gt,gz,e⟩=> ⟨gt,gz,k _ _ e⟩⟩
theorem CE {H:View}{sz m c b:Nat}{f:Bool}{cs:List Value}{e:TypeId}{fz:Nat×Nat}(hb:H b=some (f,.cells ⟨cs⟩ e fz))(h:cs.length=m*sz):OA H sz (.slice (some ⟨b,0,none⟩) m c) m cs:=
 ⟨⟨_,_,rfl⟩,h,.inr ⟨b,0,c,f,cs,e,fz,rfl,hb,by simp,by simp⟩⟩
theorem pY {H:View}{k:Bk}{bl b0 b1 b2 bt:Nat}(hl:LK H bl b0 b1 b2)(hn:k.nl=3)(GU:k.name=DW)(EZ:k.num=oY)(VW:k.nf=xZ)(j5:k.free=CW){f:Bool}{gt:TypeId}{gz:Nat×Nat}(ht:H bt=some (f,.cells ⟨XA k.nt (BB k)⟩ gt gz)):
  dC H k (some ⟨bl,0,none⟩) 3 (some ⟨bt,0,none⟩) k.nt (exF b0 b1 b2) xZ:=by
 obtain⟨⟨f1,t1,z1,g1⟩,⟨f2,t2,z2,g2⟩,⟨f3,t3,z3,g3⟩,⟨f4,t4,z4,g4⟩⟩:=hl;refine⟨oM,Nat.le_refl _,?_,CE ht (NC (f:=BB k) (sz:=4) (fun _=> rfl) k.nt),fun i hi=> by rw[VW];exact Nat.le_refl _,fun i hi=> ?_⟩
 ·rw[hn];have e:XA 3 (WG k (exF b0 b1 b2) xZ)= [mA [97,110,110],mA [49,50],.slice (some ⟨b0,0,none⟩) 1 1,mA [98,111,98],mA [49,51],.slice (some ⟨b1,0,none⟩) 2 2,mA [101,118,101],mA [50],.slice (some ⟨b2,0,none⟩) 1 1]:=by
   unfold WG;rw[GU,EZ,VW];rfl
  rw[e];exact CE g1 rfl
 ·rw[hn] at hi;rw[VW,j5];rcases(by omega:i=0\/i=1\/i=2) with rfl|rfl|rfl
  ·exact CE g2 rfl
  ·exact CE g3 rfl
  ·exact CE g4 rfl
section
variable(M:Md prog)(H:View)
theorem OU:bA M 118 #[] H (fun v H'=> H.le H'/\∃bl b0 b1 b2,v=.slice (some ⟨bl,0,none⟩) 3 3/\LK H' bl b0 b1 b2):=by
 refine .en func118 ntmps118 fun St c cs hK=> ?_;refine U6 ?_;refine .e (.bs (zz:=fun b0=> ?_));refine U ?_;refine .e (.bs (zz:=fun b1=> ?_));refine U ?_;refine .e (.bs (zz:=fun b2=> ?_));refine U ?_;refine .e (.bs (zz:=fun bl=> ?_));refine U2 ?_;refine .rt hK func118 results118 [_] ?_;exact fun H' hs=> ⟨hs.base,bl,b0,b1,b2,rfl,⟨_,_,_,hs.get (i:=0) rfl⟩,⟨_,_,_,hs.get (i:=3) rfl⟩,⟨_,_,_,hs.get (i:=2) rfl⟩,⟨_,_,_,hs.get (i:=1) rfl⟩⟩
theorem bZ:bA M 47 #[] H (fun v H'=> H.le H'/\∃A lc B tc F fc,v=iE.val A lc B tc/\dC H' iE A lc B tc F fc):=by
 refine .en func47 ntmps47 fun St c cs hK=> ?_;refine U2 ?_;refine .al fun b0=> ?_;refine U3 ?_;refine To.vB rfl rfl rfl rfl rfl rfl dE (uB.h (OU M H)) (fun v H₁ hv=> ?_);obtain⟨hle,bl,c0,c1,c2,rfl,hl⟩:=hv;refine .cl (fun H hs=> aO M H 1 8) ?_;refine .cl (fun H hs=> P0 M H 2 3) ?_;refine .cl (fun H hs=> P0 M H 6 6) ?_;refine U ?_;refine .e (.bs (zz:=fun bt=> ?_));refine U3 ?_;refine .rt hK func47 results47 [_] ?_;exact fun H' hs=> ⟨View.le_trans hle hs.base,_,_,some ⟨bt,0,none⟩,_,_,_,rfl,pY (hl.le hs.base) rfl rfl rfl rfl rfl (hs.get (i:=0) rfl)⟩
theorem W5:bA M 48 #[] H (fun v H'=> H.le H'/\∃A lc B tc F fc,v=qF.val A lc B tc/\dC H' qF A lc B tc F fc):=by
 refine .en func48 ntmps48 fun St c cs hK=> ?_;refine U2 ?_;refine .al fun b0=> ?_;refine U3 ?_;refine To.vB rfl rfl rfl rfl rfl rfl dE (uB.h (OU M H)) (fun v H₁ hv=> ?_);obtain⟨hle,bl,c0,c1,c2,rfl,hl⟩:=hv;refine .cl (fun H hs=> P0 M H 1 1) ?_;refine .cl (fun H hs=> P0 M H 3 6) ?_;refine U ?_;refine .cl (fun H hs=> aO M H 1 9) ?_;refine .cl (fun H hs=> aO M H 2 9) ?_;refine .e (.bs (zz:=fun bt=> ?_));refine U3 ?_;refine .rt hK func48 results48 [_] ?_;exact fun H' hs=> ⟨View.le_trans hle hs.base,_,_,some ⟨bt,0,none⟩,_,_,_,rfl,pY (hl.le hs.base) rfl rfl rfl rfl rfl (hs.get (i:=0) rfl)⟩
end
theorem dG:iE.WA=0:=by decide +kernel
theorem PR:qF.WA=0:=by decide +kernel
theorem aBm:QR.WA=0:=by decide +kernel
theorem AO {k:Bk}(hn:k.nl=3)(ht:k.nt<=1000)(EZ:k.num=oY)(VW:k.nf=xZ):k.small:=⟨oM,ht,fun i hi=> by
 rw[hn] at hi;rw[EZ,VW];rcases(by omega:i=0\/i=1\/i=2) with rfl|rfl|rfl <;> decide⟩
end Go.Proofs.YtldmfjcgjdchcaaGreatDoor
namespace Go.Proofs.YtldmfjcgjdchcaaGreatDoor
open Go.RL Go.Proofs.Tryz Go.Conc
set_option maxRecDepth 10000
theorem aFH:eH prog 198 (Extern.Race.marked .releaseMerge):=⟨Tryz.f198,func198,by kernel_rfl,by kernel_rfl,by kernel_rfl,by kernel_rfl⟩
theorem aBz:eH prog 199 E9:=⟨Tryz.f199,func199,by kernel_rfl,by kernel_rfl,by kernel_rfl,by kernel_rfl⟩
theorem tZ:eH prog 200 enE:=⟨Tryz.f200,func200,by kernel_rfl,by kernel_rfl,by kernel_rfl,by kernel_rfl⟩
theorem aEg:eH prog 201 (fun _=> pure (.bool false)):=⟨Tryz.f201,func201,by kernel_rfl,by kernel_rfl,by kernel_rfl,by kernel_rfl⟩
theorem aFI:eH prog 206 (Extern.Race.marked .read):=⟨Tryz.f206,func206,by kernel_rfl,by kernel_rfl,by kernel_rfl,by kernel_rfl⟩
theorem aFJ:eH prog 210 Extern.Sync.semrelease:=⟨Tryz.f210,func210,by kernel_rfl,by kernel_rfl,by kernel_rfl,by kernel_rfl⟩
theorem aEh:eH prog 211 (Extern.Race.marked .acquire):=⟨Tryz.f211,func211,by kernel_rfl,by kernel_rfl,by kernel_rfl,by kernel_rfl⟩
theorem aFK:eH prog 214 (Extern.Race.marked .write):=⟨Tryz.f214,func214,by kernel_rfl,by kernel_rfl,by kernel_rfl,by kernel_rfl⟩
theorem aFL:eH prog 215 Extern.Sync.semacquire:=⟨Tryz.f215,func215,by kernel_rfl,by kernel_rfl,by kernel_rfl,by kernel_rfl⟩
theorem aEi:eH prog 268 (Extern.Atomic.update (Op.intArith .add) .u64 true):=⟨Tryz.f268,func268,by kernel_rfl,by kernel_rfl,by kernel_rfl,by kernel_rfl⟩
theorem aBA:eH prog 269 (Extern.Atomic.loadT (.int .u64)):=⟨Tryz.f269,func269,by kernel_rfl,by kernel_rfl,by kernel_rfl,by kernel_rfl⟩
theorem aFN:eH prog 270 Extern.Atomic.storeT:=⟨Tryz.f270,func270,by kernel_rfl,by kernel_rfl,by kernel_rfl,by kernel_rfl⟩
theorem aFO:eH prog 271 (Extern.Atomic.casT (.int .u64)):=⟨Tryz.f271,func271,by kernel_rfl,by kernel_rfl,by kernel_rfl,by kernel_rfl⟩
theorem gG:lM prog 233 1=some 0:=by kernel_rfl
theorem jL:lM prog 233 2=some 1:=by kernel_rfl
theorem iL:lM prog 230 2=some 0:=by kernel_rfl
theorem NX:prog.underlying 303=some (.pointer 233):=by kernel_rfl
theorem KP:prog.underlying 305=some .unsafePointer:=by kernel_rfl
theorem L7:prog.underlying 310=some (.pointer 231):=by kernel_rfl
theorem aAL:prog.underlying 3=some (.int .i64):=by kernel_rfl
theorem uR:prog.underlying 21=some (.int .i32):=by kernel_rfl
theorem rT:prog.underlying 231=some (.int .u32):=by kernel_rfl
theorem aH:prog.underlying 228=some (.int .u64):=by kernel_rfl
theorem HX:(prog.info? 233).map (·.size)=some (1+1):=by kernel_rfl
theorem C7:(prog.info? 231).map (·.size)=some (0+1):=by kernel_rfl
end Go.Proofs.YtldmfjcgjdchcaaGreatDoor
namespace Go.Proofs.YtldmfjcgjdchcaaGreatDoor
open Go.RL Go.Proofs.Tryz Go.Conc Go.ConcN Go.RL.Au
open Go.ConcR (stA smA)
open Go.ConcM (OsLater)
set_option maxRecDepth 10000
section
variable {main:Bool}{sh:K8}{J:Goroutine->Prop}{K:Value->(Goroutine->Prop)->Prop}{blk off:Nat}
def KC(main:Bool)(K:Value->(Goroutine->Prop)->Prop):Prop:=∀v J',K v J'->∃sh',Cl prog main sh' J'
theorem aAP {d:Int}(hc:Cl prog main sh J)(hk:KC main K)(h:pI J 268 [.pointer (some ⟨blk,off,none⟩),.int .u64 d] K):pI J 205 [.pointer (some ⟨blk,off,none⟩),.int .u64 d] K:=by
 refine xT.at (by exact hc) aD2 (xT.enter (vs:= [.pointer (some ⟨blk,off,none⟩),.int .u64 d]) func205 rfl ntmps205 (Nat.le_of_ble_eq_true rfl) fun c cs hK=> ?_);refine .sq (.rg rfl rfl ?_);refine .g ?_;refine .dn (.sq (.rg rfl rfl ?_));refine .m ?_;refine .x .nk ?_;refine .x (.fa (zz:=iL)) ?_;refine .m ?_;refine So.EC rfl rfl rfl nofun rfl (.mk' rfl) rfl (h) ?_;intro v J' hv;obtain⟨sh',hc⟩:=hk v J' hv;refine .g ?_;refine .dn ?_;refine Sc.SD (by exact hc) rfl (Sb.leave (by exact hc) func205 rfl (by exact .inr ⟨_,results205,rfl⟩) ?_);exact hK v J' hv
theorem kX(hc:Cl prog main sh J)(hk:KC main K)(h:pI J 269 [.pointer (some ⟨blk,off,none⟩)] K):pI J 207 [.pointer (some ⟨blk,off,none⟩)] K:=by
 refine xT.at (by exact hc) aD3 (xT.enter (vs:= [.pointer (some ⟨blk,off,none⟩)]) func207 rfl ntmps207 (Nat.le_of_ble_eq_true rfl) fun c cs hK=> ?_);refine .sq (.rg rfl rfl ?_);refine .g ?_;refine .dn (.sq (.rg rfl rfl ?_));refine .m ?_;refine .x .nk ?_;refine .x (.fa (zz:=iL)) ?_;refine So.EC rfl rfl rfl nofun rfl (.mk' rfl) rfl (h) ?_;intro v J' hv;obtain⟨sh',hc⟩:=hk v J' hv;refine .g ?_;refine .dn ?_;refine Sc.SD (by exact hc) rfl (Sb.leave (by exact hc) func207 rfl (by exact .inr ⟨_,results207,rfl⟩) ?_);exact hK v J' hv
theorem aAD {d:Int}(hc:Cl prog main sh J)(hk:KC main K)(hu:∀v J',K v J'->v=.tuple #[])(h:pI J 270 [.pointer (some ⟨blk,off,none⟩),.int .u64 d] K):pI J 208 [.pointer (some ⟨blk,off,none⟩),.int .u64 d] K:=by
 refine xT.at (by exact hc) aD4 (xT.enter (vs:= [.pointer (some ⟨blk,off,none⟩),.int .u64 d]) func208 rfl ntmps208 (Nat.le_of_ble_eq_true rfl) fun c cs hK=> ?_);refine .rg rfl rfl ?_;refine .m ?_;refine .x .nk ?_;refine .x (.fa (zz:=iL)) ?_;refine .m ?_;refine So.EC rfl rfl rfl nofun rfl (.mk' rfl) rfl (h) ?_;intro v J' hv;obtain⟨sh',hc⟩:=hk v J' hv;refine .dn ?_;refine Sc.over (by exact hc) rfl (Sb.leave (by exact hc) func208 rfl (by exact .inl ⟨results208,rfl⟩) ?_);exact hu v J' hv▸hK v J' hv
theorem aEd {d e:Int}(hc:Cl prog main sh J)(hk:KC main K)(h:pI J 271 [.pointer (some ⟨blk,off,none⟩),.int .u64 d,.int .u64 e] K):pI J 213 [.pointer (some ⟨blk,off,none⟩),.int .u64 d,.int .u64 e] K:=by
 refine xT.at (by exact hc) aD5 (xT.enter (vs:= [.pointer (some ⟨blk,off,none⟩),.int .u64 d,.int .u64 e]) func213 rfl ntmps213 (Nat.le_of_ble_eq_true rfl) fun c cs hK=> ?_);refine .sq (.rg rfl rfl ?_);refine .g ?_;refine .dn (.sq (.rg rfl rfl ?_));refine .m ?_;refine .x .nk ?_;refine .x (.fa (zz:=iL)) ?_;refine .m ?_;refine .m ?_;refine So.EC rfl rfl rfl nofun rfl (.mk' rfl) rfl (h) ?_;intro v J' hv;obtain⟨sh',hc⟩:=hk v J' hv;refine .g ?_;refine .dn ?_;refine Sc.SD (by exact hc) rfl (Sb.leave (by exact hc) func213 rfl (by exact .inr ⟨_,results213,rfl⟩) ?_);exact hK v J' hv
end
set_option maxHeartbeats 1000000
theorem kS:∀a:Nat,a<8->∀b:Nat,b<2->kI .and .u64 ((a*4294967296+b:Nat):Int) 2147483648=0:=by decide +kernel
theorem lS:∀a:Nat,a<8->∀b:Nat,b<2->kI .and .u64 ((a*4294967296+b:Nat):Int) 2147483647=(b:Int):=by decide +kernel
theorem mS:∀a:Nat,a<8->∀b:Nat,b<2->((a*4294967296+b:Nat):Int).fdiv (2 ^ (min (32:Int).toNat IntKind.u64.bits))=(a:Int):=by decide +kernel
theorem aDM:IntKind.u64.wrap (-1)=18446744073709551615:=by decide +kernel
theorem aAy:DC .shl .u64 18446744073709551615 32=some (.int .u64 18446744069414584320):=by
 show some (Value.int .u64 (IntKind.u64.wrap (18446744073709551615*2 ^ (min (32:Int).toNat IntKind.u64.bits))))=_;rw[show IntKind.u64.wrap (18446744073709551615*2 ^ (min (32:Int).toNat IntKind.u64.bits))=18446744069414584320 by decide +kernel]
theorem aFu:IntKind.u64.wrap 1=1:=by decide +kernel
theorem aDA:DC .shl .u64 1 32=some (.int .u64 4294967296):=by
 show some (Value.int .u64 (IntKind.u64.wrap (1*2 ^ (min (32:Int).toNat IntKind.u64.bits))))=_;rw[show IntKind.u64.wrap (1*2 ^ (min (32:Int).toNat IntKind.u64.bits))=4294967296 by decide +kernel]
theorem SX:IntKind.i32.wrap (-1)= -1:=by decide +kernel
theorem YY:∀a:Nat,a<8->IntKind.i32.wrap (a:Int)=(a:Int):=by decide +kernel
theorem wT:∀a:Nat,a<8->IntKind.u32.wrap (a:Int)=(a:Int):=by decide +kernel
section
variable {X:Fk}{κ:Nat}{H:View}{cc:Frame}{cs:List Frame}
theorem yP(X:Fk):∃e c,X.shp X.Wg=some (e,c)/\0<c:=⟨X.tW,2,by simp[Fk.shp],by decide⟩
theorem RY(X:Fk):∃e c,X.shp X.Wg=some (e,c)/\0+1<c:=⟨X.tW,2,by simp[Fk.shp],by decide⟩
theorem kw {K:Value->Th->Prop}{k:Nat}:KC false (fun v J'=> ∃k' t',k'<k/\K v t'/\J'=Jw prog X κ k' t' H):=fun _ _ ⟨_,_,_,_,h⟩=> ⟨_,h▸Jw.FN⟩
noncomputable def aBk:Code:=cR (cR (cR (cR (dM Tryz.f124))))
abbrev aBl:FB:=⟨124,.normal,none⟩
attribute [local irreducible] IntKind.wrap kI Int.fdiv in
theorem aBx {a b:Nat}(ha:a<8)(hb:b<2)(hq:¬(a=0/\b=1))(hK:Jq prog 0 (G (cc.finish (.tuple #[])) cs)){R:Rg}
  (hR:PB [(0,.pointer (some ⟨X.Wg,0,none⟩)),(1,.int .i64 (-1)),(4,.bool false),(6,.int .u64 ((a*4294967296+b:Nat):Int))] R):
  Sc (Jq prog 1) 117 aBl (cc::cs) R [dcall 200 #[]] [.code aBk]:=by
 refine Sc.drop hR ?_;have HK:=yP X;have f3:=SX;have g1:pA .and .u64 ((a*4294967296+b:Nat):Int) 2147483648=some (.int .u64 0):=by rw[<-kS a oM b oM];rfl
 have g2:pA .and .u64 ((a*4294967296+b:Nat):Int) 2147483647=some (.int .u64 (b:Int)):=by rw[<-lS a oM b oM];rfl
 have g3:DC .shr .u64 ((a*4294967296+b:Nat):Int) 32=some (.int .u64 (a:Int)):=by rw[<-mS a oM b oM];rfl
 have g4:=YY a oM;have g5:=wT b oM;rcases Nat.eq_zero_or_pos a with G5|G5;all_goals rcases Nat.eq_zero_or_pos b with aED|aED
 all_goals first
  | (exfalso;omega)
  | (
   refine .sq (.sq (.rg rfl rfl ?_));refine .m ?_;refine .i ?_ (z:=by assumption);refine .i ?_ (z:=oG oM);refine .m ?_;refine .sk ?_;refine .sk ?_;refine .x .pk ?_;refine .dn (.ff rfl (.sp (.sq ?_)));refine Sc.drop (R':= [(0,.pointer (some ⟨X.Wg,0,none⟩)),(1,.int .i64 (-1)),(4,.bool false),(6,.int .u64 ((a*4294967296+b:Nat):Int))]) ⟨rfl,rfl,rfl,rfl,trivial⟩ ?_;refine .rg rfl rfl ?_;refine .m ?_;refine .x (zD.shift rfl rfl rfl oM (by assumption)) ?_;refine .x (zD.conv rfl rfl aH uR (by assumption)) ?_;refine .g ?_;refine .dn (.sq ?_);refine Sc.drop (R':= [(0,.pointer (some ⟨X.Wg,0,none⟩)),(1,.int .i64 (-1)),(6,.int .u64 ((a*4294967296+b:Nat):Int)),(7,.int .i32 (a:Int))]) ⟨rfl,rfl,rfl,rfl,trivial⟩ ?_;refine .rg rfl rfl ?_;refine .m ?_;refine .i ?_ (z:=by assumption);refine .x (zD.conv rfl rfl aH rT (by assumption)) ?_;refine .g ?_;refine .dn (.sq (.sq ?_));refine Sc.drop (R':= [(0,.pointer (some ⟨X.Wg,0,none⟩)),(1,.int .i64 (-1)),(7,.int .i32 (a:Int)),(8,.int .u32 (b:Int))]) ⟨rfl,rfl,rfl,rfl,trivial⟩ ?_;refine .rg rfl rfl ?_;refine .m ?_;refine .m ?_;refine .i ?_ (z:=DI oM);refine .x .pk ?_;refine .m ?_;refine .sk ?_;refine .sk ?_;refine .sk ?_;refine .sk ?_;refine .x .pk ?_;refine .dn (.ff rfl (.sp (.sq (.sq ?_))));refine Sc.drop (R':= [(0,.pointer (some ⟨X.Wg,0,none⟩)),(1,.int .i64 (-1)),(7,.int .i32 (a:Int)),(8,.int .u32 (b:Int))]) ⟨rfl,rfl,rfl,rfl,trivial⟩ ?_;refine .rg rfl rfl ?_;refine .m ?_;refine .i ?_ (z:=OI oM);refine .dn (.ff rfl (.sp (.sq (.sq ?_))));refine Sc.drop (R':= [(0,.pointer (some ⟨X.Wg,0,none⟩)),(1,.int .i64 (-1)),(7,.int .i32 (a:Int)),(8,.int .u32 (b:Int))]) ⟨rfl,rfl,rfl,rfl,trivial⟩ ?_;refine .rg rfl rfl ?_;refine .m ?_;refine .i ?_ (z:=by first|exact YU oM|exact oG oM);refine .m ?_;first|(refine .sk ?_)|(refine .m ?_)
   first|(refine .sk ?_)|(refine .x (.it (zz:=DI oM)) ?_)
   refine .x .pk ?_;refine .m ?_;refine .sk ?_;refine .sk ?_;refine .sk ?_;refine .sk ?_;refine .x .pk ?_;refine .dn (.ff rfl (.sp (.sq (.sq ?_))));refine Sc.drop (R':= [(0,.pointer (some ⟨X.Wg,0,none⟩)),(1,.int .i64 (-1)),(7,.int .i32 (a:Int)),(8,.int .u32 (b:Int))]) ⟨rfl,rfl,rfl,rfl,trivial⟩ ?_;refine .rg rfl rfl ?_;refine .m ?_;refine .i ?_ (z:=by first|exact XJ oM|exact DI oM);refine .m ?_;first|(refine .sk ?_)|(refine .m ?_)
   first|(refine .sk ?_)|(refine .x (.it (zz:=VM oM)) ?_)
   refine .x .pk ?_;refine .dn (.tt rfl ?_);refine Sc.SD Jq.cl rfl (Jq.en tZ rfl (Sb.leave Jq.cl func124 rfl (.inl ⟨results124,rfl⟩) hK)))
noncomputable def aFC:Code:=cR (cR (cR (cR (cR (cR (cR aBk))))))
attribute [local irreducible] IntKind.wrap kI Int.fdiv in
theorem F9 {a b k:Nat}(a0:a=0)(b1:b=1)(hK:Jq prog 0 (G (cc.finish (.tuple #[])) cs)){R:Rg}
  (hR:PB [(0,.pointer (some ⟨X.Wg,0,none⟩)),(4,.bool false),(6,.int .u64 ((a*4294967296+b:Nat):Int)),(8,.int .u32 (b:Int))] R):Sc (Jw prog X κ k .d2 H) 117 aBl (cc::cs) R [dcall 200 #[]] [.code aFC]:=by
 refine Sc.drop hR ?_;have HK:=yP X;have g6:pA .sub .u32 (b:Int) 1=some (.int .u32 0):=by
  rw[b1];exact congrArg (fun x=> some (Value.int .u32 x)) (show IntKind.u32.wrap (((1:Nat):Int)-1)=0 by decide +kernel)
 have g7:pA .neq .u64 1 ((a*4294967296+b:Nat):Int)=some (.bool false):=oG oM;refine .sq (.sq (.rg rfl rfl ?_));refine .m ?_;refine .x .nk ?_;refine .x (.fa (zz:=gG)) ?_;refine So.EC rfl rfl rfl nofun rfl (.mk' rfl) rfl (kX Jw.FN kw (Jw.d2 aBA)) ?_;rintro v J' ⟨k5,t,hk5,⟨rfl,rfl⟩,rfl⟩;refine .m ?_;refine .i ?_ (z:=by assumption);refine .dn (.ff rfl (.sp (.sq ?_)));refine Sc.drop (R':= [(0,.pointer (some ⟨X.Wg,0,none⟩)),(4,.bool false),(6,.int .u64 ((a*4294967296+b:Nat):Int)),(8,.int .u32 (b:Int))]) ⟨rfl,rfl,rfl,rfl,trivial⟩ ?_;refine .rg rfl rfl ?_;refine .m ?_;refine .x .nk ?_;refine .x (.fa (zz:=gG)) ?_;refine So.EC rfl rfl rfl nofun rfl (.mk' rfl) rfl (aAD Jw.FN kw (fun v J' ⟨_,_,_,h,_⟩=> h.1) (Jw.d3 aFN)) ?_;rintro v J' ⟨k6,t,hk6,⟨rfl,rfl⟩,rfl⟩;refine .dn (.sq (.sq ?_));refine Sc.drop (R':= [(0,.pointer (some ⟨X.Wg,0,none⟩)),(4,.bool false),(6,.int .u64 ((a*4294967296+b:Nat):Int)),(8,.int .u32 (b:Int))]) ⟨rfl,rfl,rfl,rfl,trivial⟩ ?_;refine .rg rfl rfl ?_;refine .m ?_;refine .dn (.ff rfl (.sp (.bl ?_)));refine Sc.loop (by exact Jw.FN) ?_;refine .sq (.sq (.rg rfl rfl ?_));refine .m ?_;refine .i ?_ (z:=YU oM);refine .dn (.tt rfl (.sp (.sq (.bl ?_))));refine Sc.drop (R':= [(0,.pointer (some ⟨X.Wg,0,none⟩)),(4,.bool false),(6,.int .u64 ((a*4294967296+b:Nat):Int)),(8,.int .u32 (b:Int))]) ⟨rfl,rfl,rfl,rfl,trivial⟩ ?_;refine .rg rfl rfl ?_;refine .m ?_;refine .x .nk ?_;refine .x (.fa (zz:=jL)) ?_;refine So.EC rfl rfl rfl nofun rfl (.mk' rfl) rfl (Jw.d4 (vs:= [.pointer (some ⟨X.Wg,1,none⟩),.bool false,.int .i64 0]) aFJ rfl) ?_;rintro v J' ⟨k7,t,hk7,⟨rfl,rfl⟩,rfl⟩;refine So.mono ?_ (fun g=> Jq.jw);refine .dn (.ib ?_);refine Sc.drop (R':= [(0,.pointer (some ⟨X.Wg,0,none⟩)),(4,.bool false),(6,.int .u64 ((a*4294967296+b:Nat):Int)),(8,.int .u32 (b:Int))]) ⟨rfl,rfl,rfl,rfl,trivial⟩ ?_;refine .rg rfl rfl ?_;refine .m ?_;refine .i ?_ (z:=by assumption);refine .g ?_;refine .dn ?_;refine Sc.inLoop (by exact Jq.cl) ?_;refine Sc.drop (R':= [(8,.int .u32 0)]) ⟨rfl,trivial⟩ ?_;refine .sq (.sq (.rg rfl rfl ?_));refine .m ?_;refine .i ?_ (z:=oG oM);refine .dn (.ff rfl (.xt rfl ?_));refine Sc.over Jq.cl rfl (Jq.en tZ rfl (Sb.leave Jq.cl func124 rfl (.inl ⟨results124,rfl⟩) hK))
attribute [local irreducible] IntKind.wrap kI Int.fdiv in
theorem aBw {a b k:Nat}(a0:a=0)(b1:b=1)(hK:Jq prog 0 (G (cc.finish (.tuple #[])) cs)){R:Rg}
  (hR:PB [(0,.pointer (some ⟨X.Wg,0,none⟩)),(1,.int .i64 (-1)),(4,.bool false),(6,.int .u64 ((a*4294967296+b:Nat):Int))] R):Sc (Jw prog X κ k .d2 H) 117 aBl (cc::cs) R [dcall 200 #[]] [.code aBk]:=by
 refine Sc.drop hR ?_;have HK:=yP X;have f3:=SX;have g1:pA .and .u64 ((a*4294967296+b:Nat):Int) 2147483648=some (.int .u64 0):=by rw[<-kS a oM b oM];rfl
 have g2:pA .and .u64 ((a*4294967296+b:Nat):Int) 2147483647=some (.int .u64 (b:Int)):=by rw[<-lS a oM b oM];rfl
 have g3:DC .shr .u64 ((a*4294967296+b:Nat):Int) 32=some (.int .u64 (a:Int)):=by rw[<-mS a oM b oM];rfl
 have g4:=YY a oM;have g5:=wT b oM;refine .sq (.sq (.rg rfl rfl ?_));refine .m ?_;refine .i ?_ (z:=by assumption);refine .i ?_ (z:=oG oM);refine .m ?_;refine .sk ?_;refine .sk ?_;refine .x .pk ?_;refine .dn (.ff rfl (.sp (.sq ?_)));refine Sc.drop (R':= [(0,.pointer (some ⟨X.Wg,0,none⟩)),(1,.int .i64 (-1)),(4,.bool false),(6,.int .u64 ((a*4294967296+b:Nat):Int))]) ⟨rfl,rfl,rfl,rfl,trivial⟩ ?_;refine .rg rfl rfl ?_;refine .m ?_;refine .x (zD.shift rfl rfl rfl oM (by assumption)) ?_;refine .x (zD.conv rfl rfl aH uR (by assumption)) ?_;refine .g ?_;refine .dn (.sq ?_);refine Sc.drop (R':= [(0,.pointer (some ⟨X.Wg,0,none⟩)),(1,.int .i64 (-1)),(4,.bool false),(6,.int .u64 ((a*4294967296+b:Nat):Int)),(7,.int .i32 (a:Int))]) ⟨rfl,rfl,rfl,rfl,rfl,trivial⟩ ?_;refine .rg rfl rfl ?_;refine .m ?_;refine .i ?_ (z:=by assumption);refine .x (zD.conv rfl rfl aH rT (by assumption)) ?_;refine .g ?_;refine .dn (.sq (.sq ?_));refine Sc.drop (R':= [(0,.pointer (some ⟨X.Wg,0,none⟩)),(1,.int .i64 (-1)),(4,.bool false),(6,.int .u64 ((a*4294967296+b:Nat):Int)),(7,.int .i32 (a:Int)),(8,.int .u32 (b:Int))]) ⟨rfl,rfl,rfl,rfl,rfl,rfl,trivial⟩ ?_;refine .rg rfl rfl ?_;refine .m ?_;refine .m ?_;refine .i ?_ (z:=DI oM);refine .x .pk ?_;refine .m ?_;refine .sk ?_;refine .sk ?_;refine .sk ?_;refine .sk ?_;refine .x .pk ?_;refine .dn (.ff rfl (.sp (.sq (.sq ?_))));refine Sc.drop (R':= [(0,.pointer (some ⟨X.Wg,0,none⟩)),(1,.int .i64 (-1)),(4,.bool false),(6,.int .u64 ((a*4294967296+b:Nat):Int)),(7,.int .i32 (a:Int)),(8,.int .u32 (b:Int))]) ⟨rfl,rfl,rfl,rfl,rfl,rfl,trivial⟩ ?_;refine .rg rfl rfl ?_;refine .m ?_;refine .i ?_ (z:=OI oM);refine .dn (.ff rfl (.sp (.sq (.sq ?_))));refine Sc.drop (R':= [(0,.pointer (some ⟨X.Wg,0,none⟩)),(1,.int .i64 (-1)),(4,.bool false),(6,.int .u64 ((a*4294967296+b:Nat):Int)),(7,.int .i32 (a:Int)),(8,.int .u32 (b:Int))]) ⟨rfl,rfl,rfl,rfl,rfl,rfl,trivial⟩ ?_;refine .rg rfl rfl ?_;refine .m ?_;refine .i ?_ (z:=YU oM);refine .m ?_;refine .m ?_;refine .i ?_ (z:=DI oM);refine .x .pk ?_;refine .m ?_;refine .sk ?_;refine .sk ?_;refine .sk ?_;refine .sk ?_;refine .x .pk ?_;refine .dn (.ff rfl (.sp (.sq (.sq ?_))));refine Sc.drop (R':= [(0,.pointer (some ⟨X.Wg,0,none⟩)),(1,.int .i64 (-1)),(4,.bool false),(6,.int .u64 ((a*4294967296+b:Nat):Int)),(7,.int .i32 (a:Int)),(8,.int .u32 (b:Int))]) ⟨rfl,rfl,rfl,rfl,rfl,rfl,trivial⟩ ?_;refine .rg rfl rfl ?_;refine .m ?_;refine .i ?_ (z:=DI oM);refine .m ?_;refine .m ?_;refine .i ?_ (z:=LQ oM);refine .x .pk ?_;refine .dn (.ff rfl (.sp ?_));exact F9 a0 b1 hK ⟨rfl,rfl,rfl,rfl,trivial⟩
attribute [local irreducible] IntKind.wrap kI Int.fdiv in
theorem G9 {k:Nat}:pI (Jw prog X κ k .wr H) 124 [.pointer (some ⟨X.Wg,0,none⟩),.int .i64 (-1)] fun v J'=> v=.tuple #[]/\J'=Jq prog 0:=by
 refine xT.at (by exact Jw.sW rfl) aAS (xT.enter (vs:= [.pointer (some ⟨X.Wg,0,none⟩),.int .i64 (-1)]) func124 rfl ntmps124 (Nat.le_of_ble_eq_true rfl) fun c cs hK=> ?_);have HK:=yP X;have f1:=aDM;have f2:=aAy;have f3:=SX;refine .sq (.tt rfl (.sq (.sq (.rg rfl rfl ?_))));refine .m ?_;refine .i ?_ (z:=iN oM);refine .dn (.tt rfl (.rg rfl rfl ?_));refine .m ?_;refine .x (zD.raw rfl rfl NX KP HX (by assumption)) ?_;refine So.EC rfl rfl rfl nofun rfl (.mk' rfl) rfl (Jw.wr aFH) ?_;rintro v J' ⟨rfl,k1,m8,rfl⟩;refine .dn (.sq (.rg rfl rfl ?_));refine So.EC rfl rfl rfl nofun rfl (.mk' rfl) rfl (Jw.wk aBz) ?_;rintro v J' ⟨k2,t,QW,⟨rfl,rfl⟩,rfl⟩;refine .dn (.rg rfl rfl ?_);refine So.defer Jw.FN (f:=200) (vs:= []) rfl nofun rfl rfl ⟨_,rfl⟩ rfl ?_;refine .dn (.sq ?_);refine Sc.drop (R':= [(0,.pointer (some ⟨X.Wg,0,none⟩)),(1,.int .i64 (-1))]) ⟨rfl,rfl,trivial⟩ ?_;refine .rg rfl rfl ?_;refine .g ?_;refine .dn (.sq (.sq (.rg rfl rfl ?_)));refine So.EC rfl rfl rfl nofun rfl (.mk' rfl) rfl (Jw.wi aEg) ?_;rintro v J' ⟨k3,t,hk3,⟨rfl,rfl⟩,rfl⟩;refine .dn (.ff rfl (.sp (.sq ?_)));refine Sc.drop (R':= [(0,.pointer (some ⟨X.Wg,0,none⟩)),(1,.int .i64 (-1)),(4,.bool false)]) ⟨rfl,rfl,rfl,trivial⟩ ?_;refine .rg rfl rfl ?_;refine .m ?_;refine .x .nk ?_;refine .x (.fa (zz:=gG)) ?_;refine .m ?_;refine .x (zD.conv rfl rfl aAL aH (by assumption)) ?_;refine .x (zD.shift rfl rfl rfl oM (by assumption)) ?_;refine So.EC rfl rfl rfl nofun rfl (.mk' rfl) rfl (aAP Jw.FN kw (Jw.d1 aEi)) ?_;rintro v J' ⟨k4,t,hk4,⟨a,b,ha,hb,rfl,rfl⟩,rfl⟩;by_cases hq:a=0/\b=1
 ·rw[if_pos hq];refine .g ?_;refine .dn ?_;exact aBw hq.1 hq.2 (hK _ _ ⟨rfl,rfl⟩) ⟨rfl,rfl,rfl,rfl,trivial⟩
 ·rw[if_neg hq];refine So.mono ?_ (fun g=> Jq.jw);refine .g ?_;refine .dn ?_;exact aBx oM oM hq (hK _ _ ⟨rfl,rfl⟩) ⟨rfl,rfl,rfl,rfl,trivial⟩
theorem aBy {k n:Nat}{b:FB}{R:Rg}{ds:List Deferred}(hb:b.rd=none)
  (h:Sb (Jq prog 0) n b cs R ds):Sb (Jw prog X κ k .wr H) n b cs R (dcall 126 #[.pointer (some ⟨X.Wg,0,none⟩)]::ds):=by
 refine Sb.aBB (vs:= [.pointer (some ⟨X.Wg,0,none⟩)]) Jw.FN hb func126 kR rfl ntmps126 (Nat.le_of_ble_eq_true rfl) fun c hm hc=> ?_;refine .rg rfl rfl ?_;refine .m ?_;refine So.EC rfl rfl rfl nofun rfl (.mk' rfl) rfl (G9) ?_;rintro v J' ⟨rfl,rfl⟩;refine .dn ?_;refine Sc.over Jq.cl rfl (Sb.leaveD Jq.cl func126 rfl results126 (.inl hm) (hc _ h))
end
section
variable {X:Fk}{H:View}{Fin:Goroutine->Prop}{j:Nat}{cc:Frame}{cs:List Frame}
theorem km {K:Value->Mn->Prop}{k:Nat}:KC true (fun v J'=> ∃k' m',k'<k/\K v m'/\J'=Jm prog X Fin k' m' j H):=fun _ _ ⟨_,_,_,_,h⟩=> ⟨_,h▸Jm.cl⟩
theorem aFt:IntKind.i32.wrap 1=1:=by decide +kernel
attribute [local irreducible] IntKind.wrap kI Int.fdiv in
theorem T2 {k:Nat}:pI (Jm prog X Fin k .kd j H) 124 [.pointer (some ⟨X.Wg,0,none⟩),.int .i64 1] fun v J'=> v=.tuple #[]/\∃k',J'=Jm prog X Fin k' .go j H:=by
 refine xT.at (by exact Jm.cl) aAS (xT.enter (vs:= [.pointer (some ⟨X.Wg,0,none⟩),.int .i64 1]) func124 rfl ntmps124 (Nat.le_of_ble_eq_true rfl) fun c cs hK=> ?_);have HK:=RY X;have f1:=aFu;have f2:=aDA;have f3:=aFt;refine .sq (.tt rfl (.sq (.sq (.rg rfl rfl ?_))));refine .m ?_;refine .i ?_ (z:=OI oM);refine .dn (.ff rfl (.sp (.sq (.rg rfl rfl ?_))));refine So.EC rfl rfl rfl nofun rfl (.mk' rfl) rfl (Jm.kd aBz) ?_;rintro v J' ⟨k2,t,QW,⟨rfl,rfl⟩,rfl⟩;refine .dn (.rg rfl rfl ?_);refine So.defer Jm.cl (f:=200) (vs:= []) rfl nofun rfl rfl ⟨_,rfl⟩ rfl ?_;refine .dn (.sq (.rg rfl rfl ?_));refine .g ?_;refine .dn (.sq (.sq (.rg rfl rfl ?_)));refine So.EC rfl rfl rfl nofun rfl (.mk' rfl) rfl (Jm.ki aEg) ?_;rintro v J' ⟨k3,t,hk3,⟨rfl,rfl⟩,rfl⟩;refine .dn (.ff rfl (.sp (.sq (.rg rfl rfl ?_))));refine .m ?_;refine .x .nk ?_;refine .x (.fa (zz:=gG)) ?_;refine .m ?_;refine .x (zD.conv rfl rfl aAL aH (by assumption)) ?_;refine .x (zD.shift rfl rfl rfl oM (by assumption)) ?_;refine So.EC rfl rfl rfl nofun rfl (.mk' rfl) rfl (aAP Jm.cl km (Jm.ka aEi)) ?_;rintro v J' ⟨k4,t,hk4,⟨a,ha,rfl,rfl⟩,rfl⟩;have e0:(((a+1)*4294967296:Nat):Int)=(((a+1)*4294967296+0:Nat):Int):=(congrArg (fun x:Nat=> (x:Int)) (Nat.add_zero _)).symm;have g1:pA .and .u64 (((a+1)*4294967296:Nat):Int) 2147483648=some (.int .u64 0):=by rw[e0,<-kS (a+1) oM 0 oM];rfl
 have g2:pA .and .u64 (((a+1)*4294967296:Nat):Int) 2147483647=some (.int .u64 0):=by
  have:=lS (a+1) oM 0 oM;rw[e0];exact congrArg (fun x=> some (Value.int .u64 x)) this
 have g3:DC .shr .u64 (((a+1)*4294967296:Nat):Int) 32=some (.int .u64 ((a+1:Nat):Int)):=by rw[e0,<-mS (a+1) oM 0 oM];rfl
 have g4:=YY (a+1) oM;have g5:IntKind.u32.wrap 0=0:=wT 0 oM;have gg:(0:Int)<((a+1:Nat):Int):=by omega
 refine .g ?_;refine .dn ?_;refine Sc.drop (R':= [(0,.pointer (some ⟨X.Wg,0,none⟩)),(1,.int .i64 1),(4,.bool false),(6,.int .u64 (((a+1)*4294967296:Nat):Int))]) ⟨rfl,rfl,rfl,rfl,trivial⟩ ?_;refine .sq (.sq (.rg rfl rfl ?_));refine .m ?_;refine .i ?_ (z:=by assumption);refine .i ?_ (z:=oG oM);refine .m ?_;refine .sk ?_;refine .sk ?_;refine .x .pk ?_;refine .dn (.ff rfl (.sp (.sq ?_)));refine Sc.drop (R':= [(0,.pointer (some ⟨X.Wg,0,none⟩)),(1,.int .i64 1),(4,.bool false),(6,.int .u64 (((a+1)*4294967296:Nat):Int))]) ⟨rfl,rfl,rfl,rfl,trivial⟩ ?_;refine .rg rfl rfl ?_;refine .m ?_;refine .x (zD.shift rfl rfl rfl oM (by assumption)) ?_;refine .x (zD.conv rfl rfl aH uR (by assumption)) ?_;refine .g ?_;refine .dn ?_;refine Sc.drop (R':= [(0,.pointer (some ⟨X.Wg,0,none⟩)),(1,.int .i64 1),(4,.bool false),(6,.int .u64 (((a+1)*4294967296:Nat):Int)),(7,.int .i32 ((a+1:Nat):Int))]) ⟨rfl,rfl,rfl,rfl,rfl,trivial⟩ ?_;refine .sq (.rg rfl rfl ?_);refine .m ?_;refine .i ?_ (z:=by assumption);refine .x (zD.conv rfl rfl aH rT (by assumption)) ?_;refine .g ?_;refine .dn ?_;refine Sc.drop (R':= [(0,.pointer (some ⟨X.Wg,0,none⟩)),(1,.int .i64 1),(4,.bool false),(7,.int .i32 ((a+1:Nat):Int)),(8,.int .u32 0)]) ⟨rfl,rfl,rfl,rfl,rfl,trivial⟩ ?_;refine .sq (.sq ?_);by_cases hz:a=0
 ·rw[if_pos hz];have q1:pA .eql .i32 ((a+1:Nat):Int) 1=some (.bool true):=VM oM;refine .rg rfl rfl ?_;refine .m ?_;refine .m ?_;refine .i ?_ (z:=XJ oM);refine .x .pk ?_;refine .m ?_;refine .m ?_;refine .m ?_;refine .x (zD.conv rfl rfl aAL uR (by assumption)) ?_;refine .i ?_ (z:=by assumption);refine .x .pk ?_;refine .dn (.tt rfl ?_);refine Sc.drop (R':= [(0,.pointer (some ⟨X.Wg,0,none⟩)),(1,.int .i64 1),(4,.bool false),(7,.int .i32 ((a+1:Nat):Int)),(8,.int .u32 0)]) ⟨rfl,rfl,rfl,rfl,rfl,trivial⟩ ?_;refine .rg rfl rfl ?_;refine .m ?_;refine .x .nk ?_;refine .x (.fa (zz:=jL)) ?_;refine .x (zD.raw rfl rfl L7 KP C7 (by assumption)) ?_;refine So.EC rfl rfl rfl nofun rfl (.mk' rfl) rfl (Jm.kr aFI) ?_;rintro v J' ⟨rfl,k5,hk5,rfl⟩;refine .dn ?_;refine Sc.drop (R':= [(0,.pointer (some ⟨X.Wg,0,none⟩)),(1,.int .i64 1),(4,.bool false),(7,.int .i32 ((a+1:Nat):Int)),(8,.int .u32 0)]) ⟨rfl,rfl,rfl,rfl,rfl,trivial⟩ ?_;refine .sq (.sq (.rg rfl rfl ?_));refine .m ?_;refine .i ?_ (z:=OI oM);refine .dn (.ff rfl (.sp (.sq (.sq (.rg rfl rfl ?_)))));refine .m ?_;refine .i ?_ (z:=oG oM);refine .m ?_;refine .sk ?_;refine .sk ?_;refine .x .pk ?_;refine .m ?_;refine .sk ?_;refine .sk ?_;refine .sk ?_;refine .sk ?_;refine .x .pk ?_;refine .dn (.ff rfl (.sp (.sq (.sq ?_))));refine Sc.drop (R':= [(0,.pointer (some ⟨X.Wg,0,none⟩)),(1,.int .i64 1),(4,.bool false),(7,.int .i32 ((a+1:Nat):Int)),(8,.int .u32 0)]) ⟨rfl,rfl,rfl,rfl,rfl,trivial⟩ ?_;refine .rg rfl rfl ?_;refine .m ?_;refine .i ?_ (z:=XJ oM);refine .m ?_;refine .sk ?_;refine .sk ?_;refine .x .pk ?_;refine .dn (.tt rfl ?_);refine Sc.SD Jm.cl rfl (Jm.ke tZ rfl (fun k' _=> Sb.leave Jm.cl func124 rfl (.inl ⟨results124,rfl⟩) (hK _ _ ⟨rfl,k',rfl⟩)))
 ·rw[if_neg hz];have q1:pA .eql .i32 ((a+1:Nat):Int) 1=some (.bool false):=LQ oM;refine .rg rfl rfl ?_;refine .m ?_;refine .m ?_;refine .i ?_ (z:=XJ oM);refine .x .pk ?_;refine .m ?_;refine .m ?_;refine .m ?_;refine .x (zD.conv rfl rfl aAL uR (by assumption)) ?_;refine .i ?_ (z:=by assumption);refine .x .pk ?_;refine .dn (.ff rfl (.sp (.sq (.sq ?_))));refine Sc.drop (R':= [(0,.pointer (some ⟨X.Wg,0,none⟩)),(1,.int .i64 1),(4,.bool false),(7,.int .i32 ((a+1:Nat):Int)),(8,.int .u32 0)]) ⟨rfl,rfl,rfl,rfl,rfl,trivial⟩ ?_;refine .rg rfl rfl ?_;refine .m ?_;refine .i ?_ (z:=OI oM);refine .dn (.ff rfl (.sp (.sq (.sq (.rg rfl rfl ?_)))));refine .m ?_;refine .i ?_ (z:=oG oM);refine .m ?_;refine .sk ?_;refine .sk ?_;refine .x .pk ?_;refine .m ?_;refine .sk ?_;refine .sk ?_;refine .sk ?_;refine .sk ?_;refine .x .pk ?_;refine .dn (.ff rfl (.sp (.sq (.sq ?_))));refine Sc.drop (R':= [(0,.pointer (some ⟨X.Wg,0,none⟩)),(1,.int .i64 1),(4,.bool false),(7,.int .i32 ((a+1:Nat):Int)),(8,.int .u32 0)]) ⟨rfl,rfl,rfl,rfl,rfl,trivial⟩ ?_;refine .rg rfl rfl ?_;refine .m ?_;refine .i ?_ (z:=XJ oM);refine .m ?_;refine .sk ?_;refine .sk ?_;refine .x .pk ?_;refine .dn (.tt rfl ?_);refine Sc.SD Jm.cl rfl (Jm.ke tZ rfl (fun k' _=> Sb.leave Jm.cl func124 rfl (.inl ⟨results124,rfl⟩) (hK _ _ ⟨rfl,k',rfl⟩)))
end
end Go.Proofs.YtldmfjcgjdchcaaGreatDoor
