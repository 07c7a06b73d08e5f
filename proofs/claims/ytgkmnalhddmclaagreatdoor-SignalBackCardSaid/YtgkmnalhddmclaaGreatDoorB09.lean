/-
 Texts of the proofs over baudot/dial.
-/
import Derived.Test.YtgkmnalhddmclaaGreatDoorB08
import Derived.Deep.Slices
namespace Go.Proofs.YtgkmnalhddmclaaGreatDoor
open Go.RL Go.Proofs.Tryz Go.ChangeShapes Go.WideShapes Go.ChangeAt Go.RowKit
set_option maxRecDepth 100000
section
variable {H:Type}{enc:TypeId×Value->H}{P:Program}{W:World}{base:Nat}{sp:Nat->Bool}{held:Bool}
theorem WM:∀ {ts:List TypeId} {vs:List Value} {ds:List (DataW H)} {p:List MemPlace},DataW.TrodAll enc P W base sp held ts vs ds p->∀(j:Nat) t v,ts[j]? =some t->vs[j]? =some v->∃d q,DataW.Trod enc P W base sp held t v d q
 | [],_,_,_,_,_,_,_,h,_=> by simp at h
 | t ::ts,v::vs,d::ds,p,⟨a,b,h1,h2,_⟩,j,t',v',ht,hv=> by
  cases j with
  | zero=>
   simp only[List.getElem?_cons_zero,Option.some.injEq] at ht hv;subst ht hv;exact⟨_,_,h1⟩
  | succ j=>
   simp only[List.getElem?_cons_succ] at ht hv;exact WM h2 j t' v' ht hv
 | _::_,[],_,_,h,_,_,_,_,_=> by cases h
 | _::_,_::_,[],_,h,_,_,_,_,_=> by cases h
end
theorem p7:prog.cellsOf 3=1:=by kernel_rfl
theorem UO:prog.cellsOf 23=2:=by kernel_rfl
theorem wU:prog.cellsOf 38=4:=by kernel_rfl
theorem B1:prog.cellsOf 24=1:=by kernel_rfl
theorem C1:prog.cellsOf 26=7:=by kernel_rfl
section
variable {H:Type}{enc:TypeId×Value->H}{W:World}{sp:Nat->Bool}{held:Bool}
theorem nZ {n:Nat}{cs:List Value}{y:DataW H×List MemPlace}(h:DataW.trod enc prog W 0 sp held n 3 cs=some y):∃z,cs= [.int .i64 z]:=by
 obtain⟨z,h,_⟩:=DataW.trod_int Tryz.underlying3 h;exact⟨z,h⟩
theorem eG {n:Nat}{cs:List Value}{y:DataW H×List MemPlace}(h:DataW.trod enc prog W 0 sp held n 23 cs=some y):∃a b,cs= [.int .i64 a,.int .i64 b]:=by
 obtain⟨y0,y1,m,_,hl,t0,t1⟩:=trod_struct2 Tryz.underlying23 h;rw[UO] at hl;obtain⟨c0,c1,rfl⟩:∃a b,cs= [a,b]:=by
  match cs,hl with
  | [a,b],_=> exact⟨a,b,rfl⟩
 simp only[p7,List.drop_zero,List.drop_succ_cons,List.take_succ_cons,List.take_zero] at t0 t1;obtain⟨a,ha⟩:=nZ t0;obtain⟨b,hb⟩:=nZ t1;simp only[List.cons.injEq,and_true] at ha hb;exact⟨a,b,by rw[ha,hb]⟩
theorem FW {n:Nat}{cs:List Value}{y:DataW H×List MemPlace}(h:DataW.trod enc prog W 0 sp held n 38 cs=some y):∃x:Int×Int×Int×Int,cs= [.int .i64 x.1,.int .i64 x.2.1,.int .i64 x.2.2.1,.int .i64 x.2.2.2]:=by
 obtain⟨y0,y1,m,_,hl,t0,t1⟩:=trod_struct2 Tryz.underlying38 h;rw[wU] at hl;obtain⟨c0,c1,c2,c3,rfl⟩:∃a b c d,cs= [a,b,c,d]:=by
  match cs,hl with
  | [a,b,c,d],_=> exact⟨a,b,c,d,rfl⟩
 simp only[UO,List.drop_zero,List.drop_succ_cons,List.take_succ_cons,List.take_zero] at t0 t1;obtain⟨a,b,h1⟩:=eG t0;obtain⟨c,d,h2⟩:=eG t1;simp only[List.cons.injEq,and_true] at h1 h2;exact⟨(a,b,c,d),by rw[h1.1,h1.2,h2.1,h2.2]⟩
theorem X1 {gs:List Value}{o:Nat}{a b c d:Value}(h0:gs[o]? =some a)(h1:gs[o+1]? =some b)(h2:gs[o+2]? =some c)(h3:gs[o+3]? =some d):YB true 4 gs o=some (.agg ⟨[a,b,c,d]⟩):=by
 have iB:=(List.getElem?_eq_some_iff.1 h3).1;have e:(gs.drop o).take 4= [a,b,c,d]:=by
  apply List.ext_getElem?
  intro i;rcases i with _|_|_|_|i
  ·simpa using h0
  ·simpa using h1
  ·simpa using h2
  ·simpa using h3
  ·simp
   omega
 unfold YB;rw[show Nat.ble (o+4) gs.length=true from Nat.ble_eq_true_of_le oM];simp only[e]
theorem iX(ab ao j:Nat):(⟨ab,ao,none⟩:Addr).add j=⟨ab,ao+j,none⟩:=by
 unfold Addr.add;split
 ·rename_i h;subst h;rfl
 ·rfl
theorem zT {base:Nat}{v:Value}(hv:Value.okWide prog W .any base 26 v)(h:∃d q,DataW.Trod enc prog W 0 (fun _=> true) true 26 v d q):∃(ch:Ch) (A:Option Addr) (lc:Nat),v=ch.fG A lc/\ch.m=0/\CB (qF W) ch A lc:=by
 have hv':∃cs,v=.agg cs:=by
  unfold Value.okWide at hv;rw[Tryz.underlying26] at hv;obtain⟨cs,h,_⟩:=hv;exact⟨cs,h⟩
 obtain⟨⟨cs⟩,rfl⟩:=hv';obtain⟨d,q,n,h⟩:=h;obtain⟨xs,m,_,_,hl,hxl,hf⟩:=DataW.trod_struct Tryz.underlying26 h;have I7:(Value.agg ⟨cs⟩).cells.toList=cs:=rfl;rw[I7] at hl hf;rw[C1] at hl;obtain⟨c0,c1,c2,c3,c4,c5,c6,rfl⟩:∃a b c d e f g,cs= [a,b,c,d,e,f,g]:=by
  match cs,hl with
  | [a,b,c,d,e,f,g],_=> exact⟨a,b,c,d,e,f,g,rfl⟩
 obtain⟨x0,x1,x2,x3,rfl⟩:∃a b c d,xs= [a,b,c,d]:=by
  match xs,hxl with
  | [a,b,c,d],_=> exact⟨a,b,c,d,rfl⟩
 have f0:=hf 0 { name:= "Send",type:=23,offset:=0,embedded:=false,tag:= "",pkgPath:= "",byteOffset:=0 } rfl;have f1:=hf 1 { name:= "Lines",type:=24,offset:=2,embedded:=false,tag:= "",pkgPath:= "",byteOffset:=16 } rfl;have f2:=hf 2 { name:= "Again",type:=23,offset:=3,embedded:=false,tag:= "",pkgPath:= "",byteOffset:=40 } rfl;have f3:=hf 3 { name:= "Read",type:=23,offset:=5,embedded:=false,tag:= "",pkgPath:= "",byteOffset:=56 } rfl;simp only[UO,B1,List.drop_zero,List.drop_succ_cons,List.take_succ_cons,List.take_zero,List.getElem?_cons_zero,List.getElem?_cons_succ] at f0 f1 f2 f3;obtain⟨s0,s1,e0⟩:=eG f0;obtain⟨a0,a1,e2⟩:=eG f2;obtain⟨r0,r1,e3⟩:=eG f3;simp only[List.cons.injEq,and_true] at e0 e2 e3;obtain⟨rfl,rfl⟩:=e0;obtain⟨rfl,rfl⟩:=e2;obtain⟨rfl,rfl⟩:=e3;rcases Go.Deep.open_slice Tryz.underlying24 f1 with ⟨h1,_⟩|⟨a,len,cap,mm,nn,D,Pl,h1,_,h3,_,h5,_,h7⟩
 ·simp only[List.cons.injEq,and_true] at h1;subst h1;exact⟨⟨s0,s1,a0,a1,r0,r1,0,fun _=> 0,fun _=> 0,fun _=> 0,fun _=> 0,0,fun _=> 0⟩,none,0,rfl,rfl,Nat.le_refl _,.inl rfl⟩
 ·simp only[List.cons.injEq,and_true] at h1;subst h1;simp only[if_true] at h5;have hex:∀i,i<len->∃x:Int×Int×Int×Int,W.cells? 0 (a.add (i*4)) 4=some [.int .i64 x.1,.int .i64 x.2.1,.int .i64 x.2.2.1,.int .i64 x.2.2.2]:=fun i hi=> by
   obtain⟨cs',g1,g2⟩:=h7 i oM;rw[wU] at g1;obtain⟨x,hx⟩:=FW g2;exact⟨x,by rw[g1,hx]⟩
  obtain⟨f,hfx⟩:=Go.Deep.choose_lt hex;refine⟨⟨s0,s1,a0,a1,r0,r1,len,fun i=> (f i).1,fun i=> (f i).2.1,fun i=> (f i).2.2.1,fun i=> (f i).2.2.2,0,fun _=> 0⟩,some a,cap,rfl,rfl,h3,?_⟩;cases len with
  | zero=> exact .inl rfl
  | succ k=>
   obtain⟨ab,ao,spt⟩:=a;have KI:∀i,i<k+1->∀j,j<4->W.cell? (((⟨ab,ao,spt⟩:Addr).add (i*4)).add j)=([Value.int .i64 (f i).1,.int .i64 (f i).2.1,.int .i64 (f i).2.2.1,.int .i64 (f i).2.2.2]:List Value)[j]? :=fun i hi j hj=> (World.cells?_some (hfx i hi)).2.2 j hj;have h00:=KI 0 oM 0 dE;have UW:spt=none:=by simpa [Addr.add] using World.cell?_spot h00
   subst UW;obtain⟨gs,gt,gz,g1,_⟩:=DQ h00;have g1':W.heap[ab]? =some (.cells gs gt gz):=by simpa [Addr.add] using g1
   refine .inr ⟨ab,ao,false,gs.toList,gt,gz,rfl,by simp only[qF,g1',Option.map_some],fun i hi=> ?_⟩;have zN:∀j,j<4->gs.toList[ao+i*4+j]? =([Value.int .i64 (f i).1,.int .i64 (f i).2.1,.int .i64 (f i).2.2.1,.int .i64 (f i).2.2.2]:List Value)[j]? :=fun j hj=> by
    have h8:=KI i hi j hj;rw[iX,iX] at h8;have aBo:∃z,([Value.int .i64 (f i).1,.int .i64 (f i).2.1,.int .i64 (f i).2.2.1,.int .i64 (f i).2.2.2]:List Value)[j]? =some z:=⟨_,List.getElem?_eq_getElem (by simpa using hj)⟩
    obtain⟨z,hz⟩:=aBo;rw[hz] at h8 ⊢;obtain⟨gs',gt',gz',g2,g3⟩:=DQ h8;rw[g1'] at g2;cases g2
    rw[Array.getElem?_toList];exact g3
   exact X1 (zN 0 dE) (zN 1 dE) (zN 2 dE) (zN 3 dE)
end
end Go.Proofs.YtgkmnalhddmclaaGreatDoor
namespace Go.RL
section
variable {P:Program}{E:Env P}{M:Md P}{n:Nat}{H₀:View}{R:Rg}{L:Bl}{K:Rg->Bl->Prop}{o:Oper}{d:Nat}
end
end Go.RL
namespace Go.RL
open Go.Conc
section
variable {P:Program}{E:Env P}{M:Md P}{n:Nat}{H₀:View}{R:Rg}{L L':Bl}{K:Rg->Bl->Prop}{o:Oper}{d:Nat}{v:Value}
theorem dQ {t xt e:TypeId}{rt:TypeId}{r re:uA}{sz m:Nat}{y:Value}{new:List Value}{g:Gl e sz}{H:View}{Q:Value->View->Prop}(ht:E.ty t=some r)(yB:r.ds=.slice e)(FC:E.ty e=some re)(HD:re.size=sz)(jY:re.zero.cells.toList.length=sz)
  (aW:∃rx,E.ty xt=some rx/\rx.ds=.str) (E2:re.bytes<=1000) (hn:g.n+m<=1000000000) (hb:∀x∈g.bl,H x.1=some x.2) (hyl:∀Q:Nat->View->Prop,Q m H->vA P (Builtin.lenOf y) H Q) (hyf:∀Q:Array Value->View->Prop,Q ⟨new⟩ H->vA P (Builtin.firstCells sz m y) H Q) (hyn:new.length=m*sz) (hs:new.all single=true)
  (hq:∀(g':Gl e sz) (H':View),g'.n=g.n+m->g'.l=g.l++new->(∀b,g'.blk=some b->((g.blk=some b/\g'.cap=g.cap)\/H b=none))->(∀c,(∀b,g'.blk=some b->b≠c)->H' c=H c)->(∀x∈g'.bl,H' x.1=some x.2)->Q g'.val H'):
  vA P (Builtin.append_ #[t,xt] rt #[g.val,y]) H Q:=by
 obtain⟨rx,hx1,hx2⟩:=aW;have hold:=g.src hb;obtain⟨a,rP⟩:∃a,g.val=.slice a g.n g.cap:=⟨_,rfl⟩
 show vA P ((underlying t).bind fun _=> _) H Q;refine aA (underlying t) _ (cA (dC ((E.ok _ _ ht).ds.trans yB)) ?_);rw[rP];show vA P ((sizeOf e).bind fun _=> _) H Q;refine aA (sizeOf e) _ (CA (E.ok _ _ FC).size ?_);refine aA (underlying xt) _ (cA (rG ((E.ok _ _ hx1).ds.trans hx2)) ?_);refine aA (Builtin.lenOf y) _ (hyl _ ?_);simp only[HD];by_cases RD:g.n+m<=g.cap
 ·rw[if_pos RD];show vA P ((Builtin.firstCells sz m y).bind fun _=> _) H Q;refine aA _ _ (hyf _ ?_);cases UG:g.blk with
  | none=>
   have h1:=g.h0 UG;have e1:a=none:=by
    unfold Gl.val at rP;rw[UG] at rP
    injection rP with e1
    exact e1.symm
   subst e1;have hm:m=0:=by omega
   have dT:new= []:=List.eq_nil_of_length_eq_zero (by rw[hyn,hm];simp);have:=hq g H oM (by rw[dT];simp) (fun b hb=> .inl ⟨hb,rfl⟩) (fun c _=> rfl) hb;rw[rP] at this;show Q (.slice none (g.n+m) g.cap) H;rw[hm];exact this
  | some b=>
   have e1:a=some ⟨b,0,none⟩:=by
    unfold Gl.val at rP;rw[UG] at rP;cases rP
    rfl
   subst e1;have hHb:H b=some (true,.cells ⟨g.l++g.vE⟩ e (0,0)):=by
    have:=hb (b,true,.cells ⟨g.l++g.vE⟩ e (0,0)) (by unfold Gl.bl;rw[UG];simp);exact this
   show vA P ((storeCells (Addr.add ⟨b,0,none⟩ (g.n*sz)) new).bind fun _=> Sem.pure (.slice (some ⟨b,0,none⟩) (g.n+m) g.cap)) H Q;refine aA _ _ ?_;rw[CD _ _ rfl];have hlen:new.length=m*sz:=hyn;have hjl:m*sz<=g.vE.length:=by rw[g.hj];exact Nat.mul_le_mul_right _ oM
   refine jC b _ new 0 (g.l++g.vE) hHb (by simp only[List.length_append,g.hl];omega) hs fun H' lQ=> ?_;have bB:zE (g.l++g.vE) (0+g.n*sz+0) new=(g.l++new)++g.vE.drop new.length:=by
    unfold zE;simp only[Nat.zero_add,Nat.add_zero,<-g.hl,List.take_left',List.drop_append];simp
   let g':Gl e sz:=⟨some b,g.n+m,g.cap,g.l++new,g.vE.drop new.length,by simp[g.hl,hlen,Nat.add_mul],RD,by rw[List.length_drop,g.hj,hlen,<-Nat.sub_mul];congr 1;omega,fun h=> by cases h⟩
   have key:∀x∈g'.bl,H' x.1=some x.2:=by
    intro x hx;simp only[g',Gl.bl,List.mem_singleton] at hx;subst hx;show H' b=some (true,.cells ⟨(g.l++new)++g.vE.drop new.length⟩ e (0,0));rw[lQ];split
    ·rename_i uP
     subst uP;simpa using hHb
    ·rw[View.pA,bB]
   exact hq g' H' rfl rfl (fun b' dP=> .inl ⟨by cases dP;exact UG,rfl⟩) (fun c hc=> by
    rw[lQ];split
    ·rfl
    ·rw[View.jA];intro e;exact hc b rfl e.symm) key
 ·rw[if_neg RD];have tG:=(E.ok _ _ FC).bytes;cases hi:P.info? e with
  | none=> rw[hi] at tG;cases tG
  | some i=>
   rw[hi] at tG;simp only[Option.map_some,Option.some.injEq] at tG;have YS:i.bytes<=1000:=by omega
   have VX:IntKind.i64.max=9223372036854775807:=by decide
   show vA P ((typeInfo e).bind fun _=> _) H Q;refine aA (typeInfo e) _ (GB hi ?_);rw[if_neg (by rw[VX];omega)];show vA P ((typeInfo e).bind fun _=> _) H Q;refine aA (typeInfo e) _ (GB hi ?_);rw[if_neg]
   ·show vA P ((choose _).bind fun newCap=> _) H Q;refine aA (choose _) _ ?_;intro tt;rw[if_neg (by simp[Question.forced])];generalize hnc:(Question.appendCap (g.n+m) g.cap e).cut tt=newCap;have PU:g.n+m<=newCap:=by rw[<-hnc];simp only[Question.cut];omega
    show vA P ((typeInfo e).bind fun _=> _) H Q;refine aA (typeInfo e) _ (GB hi ?_);show vA P ((askRoom (newCap*i.bytes)).bind fun _=> _) H Q;refine aA _ _ ?_;have YU:∀Q':Unit->View->Prop,Q' () H->vA P (askRoom (newCap*i.bytes)) H Q':=by
     intro Q' h;unfold askRoom;split
     ·exact⟨rfl,h⟩
     ·exact h
    refine YU _ ?_;show vA P ((Builtin.firstCells sz g.n (.slice a g.n g.cap)).bind fun _=> _) H Q;rw[<-rP];refine aA _ _ (iC hold ?_);show vA P ((Builtin.firstCells sz m y).bind fun _=> _) H Q;refine aA _ _ (hyf _ ?_);show vA P ((zeroValue e).bind fun _=> _) H Q;refine aA (zeroValue e) _ (sB (E.ok _ _ FC).zero ?_);rw[TJ];intro blk VS;have hzz:re.zero.cells.size=sz:=by rw[<-Array.length_toList];exact jY
    let g':Gl e sz:=⟨some blk,g.n+m,newCap,g.l++new,RB re.zero.cells.toList ((newCap-(g.n+m))*re.zero.cells.size),by simp[g.hl,hyn,Nat.add_mul],PU,by rw[XK,hzz],fun h=> by cases h⟩
    exact hq g' _ rfl rfl (fun b' dP=> .inr (by cases dP;exact VS)) (fun c hc=> by
     rw[View.jA];intro e;exact hc blk rfl e.symm) (fun x hx=> by
     simp only[g',Gl.bl,List.mem_singleton] at hx;subst hx;rw[View.pA];simp)
   ·have h3 : Builtin.nextslicecap (g.n+m) g.cap<=4*1000000000:=by
     unfold Builtin.nextslicecap;split
     ·omega
     ·split
      ·omega
      ·have gb:∀(rounds c:Nat),c<=2*(g.n+m)+1000->Builtin.growBy (g.n+m) rounds c<=2*(g.n+m)+1000:=by
        intro rounds;induction rounds with
        | zero=> exact fun c hc=> hc
        | succ rounds ih=>
         intro c hc;unfold Builtin.growBy;split
         ·exact hc
         ·exact ih _ oM
       have:=gb 4 g.cap oM;omega
    have h4:Builtin.nextslicecap (g.n+m) g.cap*i.bytes<=4*1000000000*1000:=Nat.mul_le_mul h3 YS;omega
theorem jS {t xt e:TypeId}{rt:TypeId}{r re:uA}{sz m:Nat}{y:Value}{new:List Value}{g:Gl e sz}{H:View}{Q:Value->View->Prop}(ht:E.ty t=some r)(yB:r.ds=.slice e)(FC:E.ty e=some re)(HD:re.size=sz)(jY:re.zero.cells.toList.length=sz)
  (aW:∃rx,E.ty xt=some rx/\rx.ds=.str) (E2:re.bytes<=1000) (hn:g.n+m<=1000000000) (hb:∀x∈g.bl,H x.1=some x.2) (hyl:∀Q:Nat->View->Prop,Q m H->vA P (Builtin.lenOf y) H Q) (hyf:∀Q:Array Value->View->Prop,Q ⟨new⟩ H->vA P (Builtin.firstCells sz m y) H Q) (hyn:new.length=m*sz) (hs:new.all single=true)
  (hq:∀(g':Gl e sz) (H':View),g'.n=g.n+m->g'.l=g.l++new->(∀b,g'.blk=some b->(g.blk=some b\/H b=none))->(∀c,(∀b,g'.blk=some b->b≠c)->H' c=H c)->(∀x∈g'.bl,H' x.1=some x.2)->Q g'.val H'):
  vA P (Builtin.append_ #[t,xt] rt #[g.val,y]) H Q:=
 dQ ht yB FC HD jY aW E2 hn hb hyl hyf hyn hs fun g' H' h1 h2 h3 h4 h5=> hq g' H' h1 h2 (fun b hb=> (h3 b hb).imp And.left id) h4 h5
theorem Or.U0(k:Nat)(T:Bl->Bl){Y:Bl}(hT:∀B,(T B).Perm (Y++B)){cl:Go.Call}{x y:Operand}{t xt e:TypeId}{s:List UInt8}{g:Gl e 1}{r re rx:uA}(gA:o.op=.call cl)(HB:cl.callee=.builtin .append)(KI:cl.argTypes=#[t,xt])(wJ:cl.args=#[x,y])
  (hx:BA R x=some g.val) (hy:BA R y=some (nA s)) (ht:E.ty t=some r) (yB:r.ds=.slice e) (FC:E.ty e=some re) (HD:re.size=1) (jY:Nat.beq re.zero.cells.toList.length 1=true) (aW:E.ty xt=some rx) (hex:rx.ds=.str) (E2:Nat.ble re.bytes 1000=true)
  (hL:L.drop k=T g.bl) (hm:g.n+s.length<=1000000000) (hd:o.dst=some d) (hn:d<n)
  (hk:∀g':Gl e 1,g'.n=g.n+s.length->g'.l=g.l++QA s->K ((d,g'.val)::R) (L.take k++T g'.bl)):Or M n H₀ R L o K:=
 .val hd hn fun H tmps bB hr=> by
  have hLe:L=L.take k++T g.bl:=by rw[<-hL,List.take_append_drop]
  unfold execOp;rw[gA];simp only[resolve,HB,KI,wJ];have WV:Array.map (vB tmps) #[x,y]=#[g.val,nA s]:=by simp[hr.ev hx,hr.ev hy]
  rw[WV];have hp:∀B,((L.take k++Y)++B).Perm (L.take k++T B):=fun B=> by rw[List.append_assoc];exact(List.Perm.refl _).append (hT B).symm
  have aBp:=bB;rw[hLe] at aBp;have wP:eA H₀ ((L.take k++Y)++g.bl) H:=aBp.perm (hp g.bl);refine aA (Builtin.append_ #[t,xt] o.type #[g.val,nA s]) _ ?_;refine jS (new:=QA s) (m:=s.length) ht yB FC HD (Nat.eq_of_beq_eq_true jY) ⟨rx,aW,hex⟩ (Nat.le_of_ble_eq_true E2) hm (fun z hz=> wP.at_ z (by simp[hz])) (fun Q hq=> hq) (fun Q hq=> ?_) (by rw[oG,Nat.mul_one]) (pN s) fun g' H' h1 h2 h3 h4 h5=> ?_
  ·have e:((ByteArray.mk ⟨s⟩).extract 0 s.length).data.map (fun b=> Value.int .u8 (b.toNat:Int))=⟨QA s⟩:=by
    rw[LN];simp[QA]
   show Q (((ByteArray.mk ⟨s⟩).extract 0 s.length).data.map (fun b=> Value.int .u8 (b.toNat:Int))) H;rw[e];exact hq
  ·exact⟨_,rfl,_,(wP.grown h3 h4 h5).perm (hp g'.bl).symm,hk g' h1 h2⟩
end
end Go.RL
namespace Go.Proofs.YtgkmnalhddmclaaGreatDoor
open Go.RL Go.Proofs.Tryz
set_option maxRecDepth 10000
set_option maxHeartbeats 8000000
theorem aCB:Xt prog 112 Extern.AbiNoEscape.same:=⟨Tryz.f112,func112,by kernel_rfl,by kernel_rfl,by kernel_rfl,by kernel_rfl⟩
theorem GR:prog.underlying 68=some (.pointer 71):=by kernel_rfl
theorem rZ:prog.underlying 196=some .unsafePointer:=by kernel_rfl
theorem s8:liesAt prog prog.depth 71 (2/prog.cellsOf 71) 0 71 1=true:=by kernel_rfl
section
variable(M:Md prog)(H:View)
def oN(b:Nat)(u:Bool)(g:Gl 5 1):Bl:=(b,true,.cells ⟨[.pointer (if u then some ⟨b,0,none⟩ else none),g.val]⟩ 71 (0,0))::g.bl
theorem BK(H₁:View)(b:Nat)(u:Bool)(g:Gl 5 1)(vD:eA H₁ (oN b u g) H):
  dA M 73 #[.pointer (some ⟨b,0,none⟩)] H (oJ H₁ (fun _:Unit=> .tuple ⟨[]⟩) (fun _=> oN b true g) (fun _=> True)):=by
 cases u with
 | false=>
  refine dA.enter (vs:= [.pointer (some ⟨b,0,none⟩)]) func73 rfl ntmps73 (Nat.le_of_ble_eq_true rfl) (vD) fun St c cs hK=> ?_;refine U6 ?_;refine .x (mA.UY true rfl rfl rfl GR rfl) ?_;refine U5 ?_;refine .x (mA.aDu (E:=en) 0 rfl rfl rfl GR rZ rfl rfl rfl) ?_;refine .x (mA.entry rfl rfl rfl rfl aCB (fun H Q hq=> hq)) ?_;refine .x (mA.B7 (E:=en) 0 rfl rfl rfl rZ GR rfl s8) ?_;refine U4 ?_;refine .ov hK func73 results73 [] ?_;exact fun H' hs=> ⟨(),H₁,rfl,View.le_refl _,hs,trivial⟩
 | true=>
  refine dA.enter (vs:= [.pointer (some ⟨b,0,none⟩)]) func73 rfl ntmps73 (Nat.le_of_ble_eq_true rfl) (vD) fun St c cs hK=> ?_;refine U6 ?_;refine .x (mA.UY false rfl rfl rfl GR rfl) ?_;refine U9 ?_;refine .x (mA.G4 (E:=en) rfl rfl rfl GR rfl rfl) ?_;refine U3 ?_;refine .ov hK func73 results73 [] ?_;exact fun H' hs=> ⟨(),H₁,rfl,View.le_refl _,hs,trivial⟩
def AS(s:List UInt8)(g g':Gl 5 1):Prop:=g'.n=g.n+s.length/\g'.l=g.l++QA s
theorem nI(H₁:View)(b:Nat)(u:Bool)(g:Gl 5 1)(s:List UInt8)(hm:g.n+s.length<=1000000)(vD:eA H₁ (oN b u g) H):
  dA M 32 #[.pointer (some ⟨b,0,none⟩),nA s] H (oJ H₁ (fun _:Gl 5 1=> .tuple ⟨[.int .i64 (s.length:Nat),.nilIface]⟩) (fun g'=> oN b true g') (AS s g)):=by
 refine dA.enter (vs:= [.pointer (some ⟨b,0,none⟩),nA s]) func32 rfl ntmps32 (Nat.le_of_ble_eq_true rfl) (vD) fun St c cs hK=> ?_;refine U8 ?_;refine .e (Or.fD 0 (σ:=Unit) (fun _=> .tuple ⟨[]⟩) (fun _=> oN b true g) (fun _=> True) rfl rfl rfl rfl rfl dE (fun H₁ H₂ jT zJ=> .h (BK M H₂ H₁ b u g zJ)) (fun _ _=> ?_));refine U9 ?_;refine .e (Or.U0 (E:=en) (g:=g) 1 (fun B=> B) (Y:= []) (fun B=> List.Perm.refl _) rfl rfl rfl rfl rfl rfl rfl rfl rfl rfl rfl rfl rfl rfl rfl oM rfl dE (fun g2 B6 P2=> ?_));refine fF ?_;refine .rt hK func32 results32 [_,_] ?_;exact fun H' hs=> ⟨g2,H₁,rfl,View.le_refl _,hs,B6,P2⟩
theorem fX(H₁:View)(b:Nat)(u:Bool)(g:Gl 5 1)(s:List UInt8)(aB:s≠ [])(EK:g.n=s.length)(QU:g.l=QA s)(hm:g.n<=1000000)(vD:eA H₁ (oN b u g) H):
  dA M 35 #[.pointer (some ⟨b,0,none⟩)] H (oJ H₁ (fun _:Unit=> nA s) (fun _=> []) (fun _=> True)):=by
 have YV:0<s.length:=List.length_pos_iff.2 aB;obtain⟨gb,gn,gc,gl,gj,h1,h2,h3,h4⟩:=g;simp only at EK QU hm;subst EK QU;cases gb with
 | none=> have:=h4 rfl;omega
 | some gb=>
  have hc0:Nat.beq gc 0=false:=by
   cases gc with
   | zero=> omega
   | succ _=> rfl
  have bR:liesAt prog prog.depth 5 ((QA s++gj).length/prog.cellsOf 5) 0 5 s.length=true:=sT _ _ (by rw[List.length_append,oG];omega);have TN:eA H₁ [(b,true,.cells ⟨[.pointer (if u then some ⟨b,0,none⟩ else none),.slice (some ⟨gb,0,none⟩) s.length gc]⟩ 71 (0,0)),(gb,true,.cells ⟨QA s++gj⟩ 5 (0,0))] H:=vD;refine dA.enter (vs:= [.pointer (some ⟨b,0,none⟩)]) func35 rfl ntmps35 (Nat.le_of_ble_eq_true rfl) (TN) fun St c cs hK=> ?_;refine U5 ?_;refine Tc.dr [10] [1] mixed rfl ?_;refine .nw 0 ?_;refine .nw 1 ?_;refine .nw 2 ?_;refine .nw 3 ?_;refine .q 4 rfl (mA.AW rfl rfl rfl rfl rfl hc0) ?_;refine .nw 5 ?_;refine .nw 6 ?_;refine .nw 7 ?_;refine .nw 8 ?_;refine .nn 9 ?_;refine .ea 10 rfl (Or.GW 1 rfl rfl rfl rfl rfl rfl VY aB oM rfl bR rfl dE ⟨S2.mk sL (.inl kR),?_⟩);refine .nw 11 ?_;refine .dn ?_;refine .rt hK func35 results35 [_] ?_;exact fun H' hs=> ⟨(),H₁,rfl,View.le_refl _,hs.sub (List.nil_sublist _),trivial⟩
end
end Go.Proofs.YtgkmnalhddmclaaGreatDoor
namespace Go.RL
open Go.Conc
section
variable {P:Program}{E:Env P}{M:Md P}{n:Nat}{H₀:View}{R:Rg}{L:Bl}{K:Rg->Bl->Prop}{o:Oper}{d:Nat}
end
end Go.RL
namespace Go.Proofs.YtgkmnalhddmclaaGreatDoor
open Go.RL Go.Proofs.Tryz
set_option maxRecDepth 10000
set_option maxHeartbeats 8000000
def bD(y:UInt8):List (List UInt8)->List UInt8
 | []=> []
 | p::l=> p++l.flatMap fun q=> y::q
section
variable(M:Md prog)(H:View)
end
end Go.Proofs.YtgkmnalhddmclaaGreatDoor
namespace Go.RL
open Go.Conc
section
variable {P:Program}{M:Md P}{md:Region.Mode}{ops:Array Oper}{S:Array Bool->View->Prop}{Fin:Array Value->View->Prop}{z:Nat}
end
section
variable {P:Program}{M:Md P}{St:View->Goroutine->Prop}{n:Nat}{b:FB}{H₀:View}{cs:List Frame}{R:Rg}{L L':Bl}{ds:List Deferred}{k:List Item}{S:Array Bool->View->Prop}{md:Region.Mode}{ops:Array Oper}{z:Nat}
end
section
variable {P:Program}{M:Md P}{St:View->Goroutine->Prop}{n:Nat}{b:FB}{H₀:View}{cs:List Frame}{R:Rg}{L:Bl}{ds:List Deferred}{k:List Item}{md:Region.Mode}{ops:Array Oper}
end
end Go.RL
namespace Go.Proofs.YtgkmnalhddmclaaGreatDoor
open Go.RL Go.Proofs.Tryz
set_option maxRecDepth 10000
set_option maxHeartbeats 8000000
abbrev Ex:=Nat×Nat×List Value
def exV(n:Nat)(x:Ex):Value:=.slice (some ⟨x.1,0,none⟩) n x.2.1
def exB(e:TypeId)(l:List Value)(x:Ex):Bl:= [(x.1,true,.cells ⟨l++x.2.2⟩ e (0,0))]
theorem aA1 {e:TypeId}{sz:Nat}(g:Gl e sz)(h:0<g.n):∃x:Ex,g.val=exV g.n x/\g.bl=exB e g.l x:=by
 obtain⟨gb,gn,gc,gl,gj,h1,h2,h3,h4⟩:=g;cases gb with
 | none=> have:=h4 rfl;simp only at h;omega
 | some b=> exact⟨(b,gc,gj),rfl,rfl⟩
def kI(l:List (List UInt8)):List UInt8:=bD 59 l++[10]
end Go.Proofs.YtgkmnalhddmclaaGreatDoor
namespace Go.RL
open Go.Conc
def XW {P:Program}(M:Md P)(g:FuncId)(args:Array Value)(H:View)(Q:View->Prop):Prop:=
 ∀(St:View->Goroutine->Prop) (b:FB) (tmps:Array Value) (ds:List Deferred) (todo:List Item) (cs:List Frame),(∀H',Q H'->T M St H' (G (b.back tmps ds todo) cs))->T M St H (G (Frame.enter P g args .deferred) (b.back tmps ds todo::cs))
def DZ(g:FuncId)(args captured:Array Value):Deferred:= { target:=.fn (.func g) captured,args }
section
variable {P:Program}{E:Env P}{M:Md P}{St:View->Goroutine->Prop}{n:Nat}{b:FB}{H₀:View}{cs:List Frame}{R:Rg}{L L₁:Bl}{ds:List Deferred}{k:List Item}
theorem T.JV {H:View}{tmps:Array Value}{todo:List Item}{g:FuncId}{args captured:Array Value}(hg:qA P g=true)
  (h:T M St H (G (Frame.enter P g (args++captured) .deferred) (b.back tmps ds todo::cs))):T M St H (G (b.back tmps (DZ g args captured::ds) todo) cs):=by
 refine .step ⟨rfl,fun w hs _=> ?_⟩;obtain⟨v,H',w',es,h1,h2,h3⟩:=rB (callFunc g (args++captured)) #[] hs (OD (Q:=fun nx H'=> nx=.enter g (args++captured)/\H'=H) hg ⟨rfl,rfl⟩);obtain⟨rfl,rfl⟩:=h3;rw[Array.empty_append] at h1;refine⟨_,w',seen P b.fn es,H',?_,h2.sub fun e he=> mem_seen he,h⟩;have e:stepG P M.main (G (b.back tmps (DZ g args captured::ds) todo) cs) w=unwind P M.main (b.back tmps (DZ g args captured::ds) todo) cs Option.none w:=by
  simp[G,stepG,FB.back]
 rw[e];unfold unwind;simp only[FB.back,DZ];have hi:invoke (.fn (.func g) captured) args=callFunc g (args++captured):=by
  unfold invoke;rfl
 unfold callDeferred;rw[if_neg (by simp),hi];simp only[h1];rfl
theorem T.sY {fn:Func}{H:View}{b₀:FB}{tmps tmps₀:Array Value}{ds₀:List Deferred}{todo todo₀:List Item}(hf:P.funcs[b.fn]? =some fn)(hk:b.kind=.deferred)
  (h:vA P (results fn tmps) H fun _ H'=> T M St H' (G (b₀.back tmps₀ ds₀ todo₀) cs)):T M St H (G (b.back tmps [] todo) (b₀.back tmps₀ ds₀ todo₀::cs)):=by
 refine .step ⟨rfl,fun w hs _=> ?_⟩;obtain⟨v,H',w',es,h1,h2,h3⟩:=rB _ #[] hs h;rw[Array.empty_append] at h1;refine⟨_,w',seen P b.fn es,H',?_,h2.sub fun e he=> mem_seen he,h3⟩;have:stepG P M.main (G (b.back tmps [] todo) (b₀.back tmps₀ ds₀ todo₀::cs)) w=unwind P M.main (b.back tmps [] todo) (b₀.back tmps₀ ds₀ todo₀::cs) Option.none w:=by
  simp[G,stepG,FB.back]
 rw[this];unfold unwind;simp only[FB.back,hf,h1,doReturn,hk,GStep.after,G,Array.append_empty]
theorem To.IT {dl:List (Option Tmp)}{l:List Oper}{o:Oper}{d:Nat}{cl:Go.Call}{g:FuncId}{b₀:FB}{tmps₀:Array Value}{ds₀:List Deferred}{todo₀:List Item}(gA:o.op=.call cl)(HB:cl.callee=.builtin .recover)(hw:HA dl R o=some true)(hd:o.dst=some d)(hn:d<n)
  (h:To M St n ⟨g,.deferred,none⟩ H₀ (b₀.back tmps₀ ds₀ todo₀::cs) dl ((d,.nilIface)::R) L ds l k):To M St n ⟨g,.deferred,none⟩ H₀ (b₀.back tmps₀ ds₀ todo₀::cs) dl R L ds (o::l) k:=fun arr ix ha hx=> by
 cases ix with
 | nil=> simp at hx
 | cons i r=>
  simp only[List.map_cons,List.cons.injEq] at hx;intro H tmps hs hr;have hwd:=kB ha hr hw;have hf:=FB.finish_at (⟨g,.deferred,none⟩:FB) tmps ds arr i r k .nilIface;rw[hx.1] at hf;simp only[Option.bind_some,hd] at hf;refine .step ⟨rfl,fun w D3 _=> ⟨_,w,#[],H,?_,.refl D3,h arr r ha hx.2 H _ hs (hr.put hn .nilIface)⟩⟩;have hex:execOp (vB tmps) o=Sem.pure .recover:=by
   unfold execOp;rw[gA];unfold resolve;simp only[HB];rfl
  have TS:((⟨g,.deferred,none⟩:FB).at tmps ds (.inRegion arr (i::r)::k)).eval=vB tmps:=FB.eval_at _ _ _ _;have h1:stepG P M.main (G ((⟨g,.deferred,none⟩:FB).at tmps ds (.inRegion arr (i::r)::k)) (b₀.back tmps₀ ds₀ todo₀::cs)) w=stepG.apply P true ((⟨g,.deferred,none⟩:FB).at tmps ds (.inRegion arr (i::r)::k)) (b₀.back tmps₀ ds₀ todo₀::cs) Option.none (execOp ((⟨g,.deferred,none⟩:FB).at tmps ds (.inRegion arr (i::r)::k)).eval o) w:=by
   simp[G,stepG,stepG.exec,stepG.oper,Frame.oper?,FB.at,hx.1,hwd,gA]
  rw[h1,TS,hex];unfold stepG.apply;rw[if_pos rfl];have dY:(Sem.pure Next.recover:Sem Next).runT P w #[]=(.ok .recover w,#[]):=rfl;simp only[dY];show GStep.after (seen P g #[]) (GStep.go (G (((⟨g,.deferred,none⟩:FB).at tmps ds (.inRegion arr (i::r)::k)).finish .nilIface) (b₀.back tmps₀ ds₀ todo₀::cs)) w)=_;rw[hf];rfl
def Tb {P:Program}(M:Md P)(St:View->Goroutine->Prop)(n:Nat)(b:FB)(H₀:View)(cs:List Frame)(R:Rg)(L:Bl)(ds:List Deferred):Prop:=
 ∀H tmps todo,eA H₀ L H->LA n R tmps->T M St H (G (b.back tmps ds todo) cs)
theorem Tc.lZ(hr:b.rd=none)(h:Tb M St n b H₀ cs R L ds):Tc M St n b H₀ cs R L ds (.code .ret::k):=fun H tmps hs s3=> .QB hr (h H tmps _ hs s3)
theorem Tb.mark {i r:Nat}(hi:L[i]? =some (r,true,.deferred (some [])))(h:Tb M St n b H₀ cs R (L.set i (r,true,.deferred none)) ds):Tb M St n b H₀ cs R L (MC r::ds):=fun _ tmps todo hs hr=> .collect (by
 have hd:=hs.get hi;refine⟨true,_,hd,by simp,rfl,?_⟩;refine⟨⟨_,hd,by simp⟩,rfl,?_⟩;exact h _ tmps todo (hs.set hi (true,.deferred none)) hr)
theorem Tb.call {g:FuncId}{args captured:Array Value}(hg:qA P g=true)(hc:∀H,eA H₀ L H->XW M g (args++captured) H fun H'=> H.le H')(h:Tb M St n b H₀ cs R L ds):Tb M St n b H₀ cs R L (DZ g args captured::ds):=
 fun H tmps todo hs hr=> .JV hg (hc H hs St b tmps ds todo cs fun H' hle=> h H' tmps todo (hs.mono hle) hr)
theorem Tb.leave {fn:Func}{c:Frame}{Q:Value->View->Prop}{f:FuncId}{rv:List ResultVar}{vs:List Value}(hK:∀v H',Q v H'->T M St H' (G (c.finish v) cs))(hf:P.funcs[f]? =some fn)(eN:fn.results=rv.toArray)
  (ho:eH E R L rv vs) (h:∀H',eA H₀ L H'->Q (OC vs) H'):Tb M St n ⟨f,.normal,none⟩ H₀ (c::cs) R L []:=fun _ _ _ hs hr=>
 .leave hf rfl (NA _ hK (SC hs hr eN ho (h _ hs)))
theorem To.defer {dl:List (Option Tmp)}{l:List Oper}{o:Oper}{cl:Go.Call}{x:Operand}{g:FuncId}{az first captured:List Value}(gA:o.op=.defer cl)(HB:cl.callee=.value x)(hx:BA R x=some (.func (.func g) first.toArray captured.toArray))(has:ZD R cl.args.toList=some az)(cK:b.rd=none)
  (hw:HA dl R o=some true) (hd:o.dst=none) (h:To M St n b H₀ cs dl R L (DZ g (first++az).toArray captured.toArray::ds) l k):To M St n b H₀ cs dl R L ds (o::l) k:=fun arr ix ha XG=> by
 cases ix with
 | nil=> simp at XG
 | cons i r=>
  simp only[List.map_cons,List.cons.injEq] at XG;intro H tmps hs hr;have e1:=hr.ev hx;have WG:cl.args.map (vB tmps)=az.toArray:=by
   apply Array.ext'
   simpa using hr.evs has
  refine .op XG.1 (kB ha hr hw) (.inl cK) ?_;have hex:execOp (vB tmps) o=(resolve (vB tmps) cl o.type).bind fun d=> Sem.pure (.defer d):=by unfold execOp;rw[gA];rfl
  rw[hex];have vP:resolve (vB tmps) cl o.type=Deferred.ofValue (.func (.func g) first.toArray captured.toArray) az.toArray:=by
   unfold resolve;rw[HB];simp only[e1,WG]
  rw[vP];simp only[Deferred.ofValue];show T M St H (G (b.at (AB tmps o.dst undef) ({ target:=.fn (.func g) captured.toArray,args:=first.toArray++az.toArray }::ds) (.inRegion arr r::k)) cs);rw[hd,show first.toArray++az.toArray=(first++az).toArray by simp];exact h arr r ha XG.2 H _ hs hr
theorem XW.enter {f:FuncId}{fn:Func}{body:Code}{vs:List Value}{H:View}{Q:View->Prop}(hf:P.funcs[f]? =some fn)(hb:fn.body=some body)(hn:fn.ntmps=n)(hv:vs.length<=n)(hs:eA H₀ L H)
  (h:∀St b₀ tmps₀ ds₀ todo₀ cs,(∀H',Q H'->T M St H' (G ((b₀:FB).back tmps₀ ds₀ todo₀) cs))->Tc M St n ⟨f,.deferred,none⟩ H₀ (b₀.back tmps₀ ds₀ todo₀::cs) (BI vs) L [] [.code body]):XW M f vs.toArray H Q:=fun St b₀ tmps₀ ds₀ todo₀ cs hk=> by
 have:=h St b₀ tmps₀ ds₀ todo₀ cs hk H (vs.toArray++Array.replicate (n-vs.length) undef) hs ⟨by simp;omega,fun d v hd=> ?_⟩
 ·have e:Frame.enter P f vs.toArray .deferred=(⟨f,.deferred,none⟩:FB).at (vs.toArray++Array.replicate (n-vs.length) undef) [] [.code body]:=by
   simp[Frame.enter,FB.at,hf,hb,hn]
  rw[e];exact this
 ·obtain⟨_,h2⟩:=HE vs 0 d v hd;simp only[Nat.sub_zero] at h2;have iB:=(List.getElem?_eq_some_iff.1 h2).1;rw[Array.getElem?_append_left (by simpa using iB)];simpa using h2
theorem Tc.C4(E:Env P){fn:Func}{Q:View->Prop}{f:FuncId}{b₀:FB}{tmps₀:Array Value}{ds₀:List Deferred}{todo₀:List Item}(hK:∀H',Q H'->T M St H' (G (b₀.back tmps₀ ds₀ todo₀) cs))(hf:P.funcs[f]? =some fn)(eN:fn.results=([]:List ResultVar).toArray)
  (h:∀H',eA H₀ L H'->Q H'):Tc M St n ⟨f,.deferred,none⟩ H₀ (b₀.back tmps₀ ds₀ todo₀::cs) R L [] []:=fun H _ hs hr=>
 .over rfl (.sY hf rfl (SC (E:=E) (rs:= []) (vs:= []) hs hr eN trivial (hK H (h H hs))))
end
def raised(v:Value):List PanicEntry:= [{ v,recovered:=false }]
def FB.iJ(b:FB)(tmps:Array Value)(ds:List Deferred)(todo:List Item)(es:List PanicEntry):Frame:=
 { fn:=b.fn,tmps,todo,defers:=ds,mode:=.panicking es,kind:=b.kind,roundOf:=b.rd }
def Q6 {P:Program}(M:Md P)(fr:Frame)(H:View)(v:Value)(X:View->Prop):Prop:=
 ∀(St:View->Goroutine->Prop) (c:Frame) (cs:List Frame),(∀H',X H'->T M St H' (G (c.raise (raised v)) cs))->T M St H (G fr (c::cs))
def dH {P:Program}(M:Md P)(f:FuncId)(args:Array Value)(H:View)(v:Value)(X:View->Prop):Prop:=Q6 M (Frame.enter P f args .normal) H v X
def SG {P:Program}(M:Md P)(fv:Value)(az:List Value)(H:View)(v:Value)(X:View->Prop):Prop:=
 vA P ((Deferred.ofValue fv az.toArray).bind fun d=> invoke d.target d.args) H fun nx H'=>
  match nx with
  | .enter f args=> dH M f args H' v X
  | .round l f tmps assign body=> Q6 M (Frame.round l f tmps assign body .normal) H' v X
  | _=> False
section
variable {P:Program}{E:Env P}{M:Md P}{St:View->Goroutine->Prop}{n:Nat}{b:FB}{H₀:View}{cs:List Frame}{R:Rg}{L:Bl}{ds:List Deferred}{k:List Item}{v:Value}{X:View->Prop}
theorem SG.of {g:FuncId}{az first captured:List Value}{as':Array Value}{H:View}(hg:qA P g=true)(PA:(first++az++captured).toArray=as')(h:dH M g as' H v X):SG M (.func (.func g) first.toArray captured.toArray) az H v X:=by
 unfold SG;simp only[Deferred.ofValue];show vA P (callFunc g (first.toArray++az.toArray++captured.toArray)) H _;have e3:first.toArray++az.toArray++captured.toArray=as':=by rw[<-PA];simp
 rw[e3];exact OD hg h
theorem T.yO {fn:Func}{c:Frame}{H:View}{tmps:Array Value}{todo:List Item}{es:List PanicEntry}(hf:P.funcs[b.fn]? =some fn)(h:T M St H (G (c.raise es) cs)):T M St H (G (b.iJ tmps [] todo es) (c::cs)):=by
 refine .rC rfl (fun w=> ?_) h;have e:stepG P M.main (G (b.iJ tmps [] todo es) (c::cs)) w=unwind P M.main (b.iJ tmps [] todo es) (c::cs) Option.none w:=by
  simp[G,stepG,FB.iJ]
 rw[e];unfold unwind;have hc:(b.iJ tmps [] todo es).catches P=false:=by
  unfold Frame.catches;simp only[FB.iJ,hf]
 exact(if_neg (fun h1=> Bool.false_ne_true (hc.symm.trans h1))).trans rfl
theorem T.Z0 {ops:Array Oper}{i:Nat}{rest:List Nat}{o:Oper}{tmps:Array Value}{H:View}(ho:ops[i]? =some o)(hw:Region.wanted o (yielded ops tmps)=true)(hd:wA o.op=false)
  (h:vA P (execOp (vB tmps) o) H fun nx H'=> match nx with | .enter f args=> dH M f args H' v X | .round l f t a bd=> Q6 M (Frame.round l f t a bd .normal) H' v X|_=> False)
  (hE:∀H',X H'->T M St H' (G (b.iJ tmps ds (.inRegion ops (i::rest)::k) (raised v)) cs)):T M St H (G (b.at tmps ds (.inRegion ops (i::rest)::k)) cs):=by
 refine .op ho hw (.inr fun c e=> by rw[e] at hd;cases hd) (NA _ (fun nx H' hn=> ?_) h);cases nx <;> first
  | exact hn.elim
  | exact hn St _ cs hE
theorem To.zL {dl:List (Option Tmp)}{l:List Oper}{o:Oper}{x:Operand}{t:TypeId}{u:Value}{fn:Func}{c:Frame}(hw:HA dl R o=some true)(gA:o.op=.panic x)(hx:BA R x=some (.iface t u))(hf:P.funcs[b.fn]? =some fn)
  (hP:∀H',H₀.le H'->T M St H' (G (c.raise (raised (.iface t u))) cs)):To M St n b H₀ (c::cs) dl R L [] (o::l) k:=fun arr ix ha XG=> by
 cases ix with
 | nil=> simp at XG
 | cons i r=>
  simp only[List.map_cons,List.cons.injEq] at XG;intro H tmps hs hr;have e1:=hr.ev hx;have hwd:=kB ha hr hw;refine .rC rfl (fun w=> ?_) (.yO (b:=b) (tmps:=tmps) (todo:=.inRegion arr (i::r)::k) hf (hP H hs.base));have TS:(b.at tmps [] (.inRegion arr (i::r)::k)).eval=vB tmps:=FB.eval_at _ _ _ _;have h1:stepG P M.main (G (b.at tmps [] (.inRegion arr (i::r)::k)) (c::cs)) w=stepG.apply P true (b.at tmps [] (.inRegion arr (i::r)::k)) (c::cs) Option.none (execOp (b.at tmps [] (.inRegion arr (i::r)::k)).eval o) w:=by
   cases cK:b.rd <;> simp[G,stepG,stepG.exec,stepG.oper,Frame.oper?,FB.at,XG.1,hwd,gA,cK]
  rw[h1,TS];have hex:execOp (vB tmps) o=(goPanic (.iface t u):Sem Value).bind fun z=> Sem.pure (.value z):=by
   unfold execOp;rw[gA];simp only[e1];rfl
  rw[hex];unfold stepG.apply;rw[if_pos rfl];have dY:(((goPanic (.iface t u):Sem Value).bind fun z=> Sem.pure (Next.value z)):Sem Next).runT P w #[]=(.halt (.panic (.iface t u)) w,#[]):=rfl;simp only[dY,ite_self];rfl
theorem dH.enter {f:FuncId}{fn:Func}{body:Code}{vs:List Value}{H:View}(hf:P.funcs[f]? =some fn)(hb:fn.body=some body)(hn:fn.ntmps=n)(hv:vs.length<=n)
  (h:∀St c cs,(∀H',X H'->T M St H' (G ((c:Frame).raise (raised v)) cs))->Tc M St n ⟨f,.normal,none⟩ H (c::cs) (BI vs) [] [] [.code body]):dH M f vs.toArray H v X:=fun St c cs hk=> by
 have:=h St c cs hk H (vs.toArray++Array.replicate (n-vs.length) undef) (.nil H) ⟨by simp;omega,fun d v hd=> ?_⟩
 ·have e:Frame.enter P f vs.toArray .normal=(⟨f,.normal,none⟩:FB).at (vs.toArray++Array.replicate (n-vs.length) undef) [] [.code body]:=by
   simp[Frame.enter,FB.at,hf,hb,hn]
  rw[e];exact this
 ·obtain⟨_,h2⟩:=HE vs 0 d v hd;simp only[Nat.sub_zero] at h2;have iB:=(List.getElem?_eq_some_iff.1 h2).1;rw[Array.getElem?_append_left (by simpa using iB)];simpa using h2
def WW {P:Program}(M:Md P)(g:FuncId)(args:Array Value)(H:View)(v:Value)(Q:View->Prop):Prop:=
 ∀(St:View->Goroutine->Prop) (b:FB) (tmps:Array Value) (ds:List Deferred) (todo:List Item) (cs:List Frame),(∀H',Q H'->T M St H' (G (b.back tmps ds todo) cs))->T M St H (G (Frame.enter P g args .deferred) (b.iJ tmps ds todo (raised v)::cs))
def ZG {P:Program}(M:Md P)(St:View->Goroutine->Prop)(n:Nat)(b:FB)(H₀:View)(cs:List Frame)(R:Rg)(L:Bl)(ds:List Deferred)(v:Value):Prop:=
 ∀H tmps todo,eA H₀ L H->LA n R tmps->T M St H (G (b.iJ tmps ds todo (raised v)) cs)
def again(v:Value):List PanicEntry:= [{ v,recovered:=true }]
theorem ZG.mark {i r:Nat}(hi:L[i]? =some (r,true,.deferred (some [])))(h:ZG M St n b H₀ cs R (L.set i (r,true,.deferred none)) ds v):ZG M St n b H₀ cs R L (MC r::ds) v:=fun H tmps todo hs hr=> by
 have hd:=hs.get hi;have hv:vA P (Instr.takeDeferred r) H fun calls H'=> calls= []/\eA H₀ (L.set i (r,true,.deferred none)) H':=by
  refine⟨true,_,hd,by simp,rfl,?_⟩;refine⟨⟨_,hd,by simp⟩,rfl,?_⟩;exact⟨rfl,hs.set hi (true,.deferred none)⟩
 refine .step ⟨rfl,fun w D3 _=> ?_⟩;obtain⟨calls,H',w',es,h1,h2,rfl,h3⟩:=rB _ #[] D3 hv;rw[Array.empty_append] at h1;refine⟨_,w',seen P b.fn es,H',?_,h2.sub fun e he=> mem_seen he,h H' tmps todo h3 hr⟩;have e:stepG P M.main (G (b.iJ tmps (MC r::ds) todo (raised v)) cs) w=unwind P M.main (b.iJ tmps (MC r::ds) todo (raised v)) cs Option.none w:=by
  simp[G,stepG,FB.iJ]
 rw[e];unfold unwind;simp only[FB.iJ,MC,h1,GStep.after,G,Array.append_empty,List.nil_append]
theorem ZG.call {g:FuncId}{args captured:Array Value}{L':Bl}(hg:qA P g=true)(hc:∀H,eA H₀ L H->WW M g (args++captured) H v fun H'=> eA H₀ L' H')(h:Tb M St n b H₀ cs R L' ds):ZG M St n b H₀ cs R L (DZ g args captured::ds) v:=fun H tmps todo hs hr=> by
 have hq:=hc H hs St b tmps ds todo cs fun H' h'=> h H' tmps todo h' hr;refine .step ⟨rfl,fun w D3 _=> ?_⟩;obtain⟨nx,H',w',es,h1,h2,h3⟩:=rB (callFunc g (args++captured)) #[] D3 (OD (Q:=fun nx H'=> nx=.enter g (args++captured)/\H'=H) hg ⟨rfl,rfl⟩);obtain⟨rfl,rfl⟩:=h3;rw[Array.empty_append] at h1;refine⟨_,w',seen P b.fn es,H',?_,h2.sub fun e he=> mem_seen he,hq⟩;have e:stepG P M.main (G (b.iJ tmps (DZ g args captured::ds) todo (raised v)) cs) w=unwind P M.main (b.iJ tmps (DZ g args captured::ds) todo (raised v)) cs Option.none w:=by
  simp[G,stepG,FB.iJ]
 rw[e];unfold unwind;simp only[FB.iJ,DZ];have hi:invoke (.fn (.func g) captured) args=callFunc g (args++captured):=by
  unfold invoke;rfl
 unfold callDeferred;rw[if_neg (by simp),hi];simp only[h1];rfl
theorem To.KT {dl:List (Option Tmp)}{l:List Oper}{o:Oper}{d:Nat}{cl:Go.Call}{g:FuncId}{b₀:FB}{tmps₀:Array Value}{ds₀:List Deferred}{todo₀:List Item}(gA:o.op=.call cl)(HB:cl.callee=.builtin .recover)(hw:HA dl R o=some true)(hd:o.dst=some d)(hn:d<n)
  (h:To M St n ⟨g,.deferred,none⟩ H₀ (b₀.iJ tmps₀ ds₀ todo₀ (again v)::cs) dl ((d,v)::R) L ds l k):To M St n ⟨g,.deferred,none⟩ H₀ (b₀.iJ tmps₀ ds₀ todo₀ (raised v)::cs) dl R L ds (o::l) k:=fun arr ix ha hx=> by
 cases ix with
 | nil=> simp at hx
 | cons i r=>
  simp only[List.map_cons,List.cons.injEq] at hx;intro H tmps hs hr;have hwd:=kB ha hr hw;have hf:=FB.finish_at (⟨g,.deferred,none⟩:FB) tmps ds arr i r k v;rw[hx.1] at hf;simp only[Option.bind_some,hd] at hf;refine .step ⟨rfl,fun w D3 _=> ⟨_,w,#[],H,?_,.refl D3,h arr r ha hx.2 H _ hs (hr.put hn v)⟩⟩;have hex:execOp (vB tmps) o=Sem.pure .recover:=by
   unfold execOp;rw[gA];unfold resolve;simp only[HB];rfl
  have TS:((⟨g,.deferred,none⟩:FB).at tmps ds (.inRegion arr (i::r)::k)).eval=vB tmps:=FB.eval_at _ _ _ _;have h1:stepG P M.main (G ((⟨g,.deferred,none⟩:FB).at tmps ds (.inRegion arr (i::r)::k)) (b₀.iJ tmps₀ ds₀ todo₀ (raised v)::cs)) w=stepG.apply P true ((⟨g,.deferred,none⟩:FB).at tmps ds (.inRegion arr (i::r)::k)) (b₀.iJ tmps₀ ds₀ todo₀ (raised v)::cs) Option.none (execOp ((⟨g,.deferred,none⟩:FB).at tmps ds (.inRegion arr (i::r)::k)).eval o) w:=by
   simp[G,stepG,stepG.exec,stepG.oper,Frame.oper?,FB.at,hx.1,hwd,gA]
  rw[h1,TS,hex];unfold stepG.apply;rw[if_pos rfl];have dY:(Sem.pure Next.recover:Sem Next).runT P w #[]=(.ok .recover w,#[]):=rfl;simp only[dY];show GStep.after (seen P g #[]) (GStep.go (G (((⟨g,.deferred,none⟩:FB).at tmps ds (.inRegion arr (i::r)::k)).finish v) (b₀.iJ tmps₀ ds₀ todo₀ (again v)::cs)) w)=_;rw[hf];rfl
theorem WW.enter {f:FuncId}{fn:Func}{body:Code}{vs:List Value}{H:View}{Q:View->Prop}(hf:P.funcs[f]? =some fn)(hb:fn.body=some body)(hn:fn.ntmps=n)(hv:vs.length<=n)(hs:eA H₀ L H)
  (h:∀St b₀ tmps₀ ds₀ todo₀ cs,(∀H',Q H'->T M St H' (G ((b₀:FB).back tmps₀ ds₀ todo₀) cs))->Tc M St n ⟨f,.deferred,none⟩ H₀ (b₀.iJ tmps₀ ds₀ todo₀ (raised v)::cs) (BI vs) L [] [.code body]):WW M f vs.toArray H v Q:=fun St b₀ tmps₀ ds₀ todo₀ cs hk=> by
 have:=h St b₀ tmps₀ ds₀ todo₀ cs hk H (vs.toArray++Array.replicate (n-vs.length) undef) hs ⟨by simp;omega,fun d v hd=> ?_⟩
 ·have e:Frame.enter P f vs.toArray .deferred=(⟨f,.deferred,none⟩:FB).at (vs.toArray++Array.replicate (n-vs.length) undef) [] [.code body]:=by
   simp[Frame.enter,FB.at,hf,hb,hn]
  rw[e];exact this
 ·obtain⟨_,h2⟩:=HE vs 0 d v hd;simp only[Nat.sub_zero] at h2;have iB:=(List.getElem?_eq_some_iff.1 h2).1;rw[Array.getElem?_append_left (by simpa using iB)];simpa using h2
theorem Tc.D4(E:Env P){fn:Func}{Q:View->Prop}{f:FuncId}{b₀:FB}{tmps₀:Array Value}{ds₀:List Deferred}{todo₀:List Item}(hK:∀H',Q H'->T M St H' (G (b₀.back tmps₀ ds₀ todo₀) cs))(hf:P.funcs[f]? =some fn)(eN:fn.results=([]:List ResultVar).toArray)
  (h:∀H',eA H₀ L H'->Q H'):Tc M St n ⟨f,.deferred,none⟩ H₀ (b₀.iJ tmps₀ ds₀ todo₀ (again v)::cs) R L [] []:=fun H tmps hs hr=>
 .over rfl (by
  have hv:vA P (results fn tmps) H fun _ H'=> T M St H' (G (b₀.back tmps₀ ds₀ todo₀) cs):=SC (E:=E) (rs:= []) (vs:= []) hs hr eN trivial (hK H (h H hs));refine .step ⟨rfl,fun w D3 _=> ?_⟩;obtain⟨u,H',w',es,h1,h2,h3⟩:=rB _ #[] D3 hv;rw[Array.empty_append] at h1;refine⟨_,w',seen P f es,H',?_,h2.sub fun e he=> mem_seen he,h3⟩;have:stepG P M.main (G ((⟨f,.deferred,none⟩:FB).back tmps [] []) (b₀.iJ tmps₀ ds₀ todo₀ (again v)::cs)) w=unwind P M.main ((⟨f,.deferred,none⟩:FB).back tmps [] []) (b₀.iJ tmps₀ ds₀ todo₀ (again v)::cs) Option.none w:=by
   simp[G,stepG,FB.back]
  rw[this];unfold unwind;simp only[FB.back,hf,h1,doReturn,GStep.after,G,Array.append_empty,FB.iJ,again];rfl)
end
section
variable {P:Program}{M:Md P}{md:Region.Mode}{ops:Array Oper}{S:Array Bool->View->Prop}{Fin:Array Value->View->Prop}{v:Value}{Z:View->Prop}
end
section
variable {P:Program}{M:Md P}{St:View->Goroutine->Prop}{n:Nat}{b:FB}{H₀:View}{cs:List Frame}{R:Rg}{L Ls L₁:Bl}{ds:List Deferred}{k:List Item}{md:Region.Mode}{ops:Array Oper}{v:Value}{fuel:Nat}{listed:Array Bool}{B:List Nat}
theorem ZG.hO {fn:Func}{c:Frame}(hf:P.funcs[b.fn]? =some fn)(h:∀H',eA H₀ L H'->T M St H' (G (c.raise (raised v)) cs)):ZG M St n b H₀ (c::cs) R L [] v:=fun H _ _ hs _=> .yO hf (h H hs)
theorem To.nF {dl:List (Option Tmp)}{l:List Oper}{o:Oper}{cl:Go.Call}{x:Operand}{fv:Value}{az:List Value}(hw:HA dl R o=some true)(gA:o.op=.call cl)(HB:cl.callee=.value x)(hx:BA R x=some fv)(has:ZD R cl.args.toList=some az)
  (hc:∀H,eA H₀ L H->SG M fv az H v fun H'=> H.le H') (hP:ZG M St n b H₀ cs R L ds v):To M St n b H₀ cs dl R L ds (o::l) k:=fun arr ix ha XG=> by
 cases ix with
 | nil=> simp at XG
 | cons i r=>
  simp only[List.map_cons,List.cons.injEq] at XG;intro H tmps hs hr;have e1:=hr.ev hx;have WG:cl.args.map (vB tmps)=az.toArray:=by
   apply Array.ext'
   simpa using hr.evs has
  refine .Z0 (v:=v) (X:=fun H'=> H.le H') XG.1 (kB ha hr hw) (by rw[gA];rfl) ?_ (fun H' hle=> hP H' tmps _ (hs.mono hle) hr);have hex:execOp (vB tmps) o=(resolve (vB tmps) cl o.type).bind fun d=> invoke d.target d.args:=by unfold execOp;rw[gA];rfl
  rw[hex];have:((resolve (vB tmps) cl o.type).bind fun d=> invoke d.target d.args)=(Deferred.ofValue fv az.toArray).bind fun d=> invoke d.target d.args:=by
   unfold resolve;rw[HB];simp only[e1,WG]
  rw[this];exact hc H hs
end
def CZ {P:Program}(M:Md P)(fr:Frame)(H:View)(Q:Value->View->Prop)(v:Value)(X:View->Prop):Prop:=
 ∀(St:View->Goroutine->Prop) (c:Frame) (cs:List Frame),(∀u H',Q u H'->T M St H' (G (c.finish u) cs))->(∀H',X H'->T M St H' (G (c.raise (raised v)) cs))->T M St H (G fr (c::cs))
def EL {P:Program}(M:Md P)(f:FuncId)(args:Array Value)(H:View)(Q:Value->View->Prop)(v:Value)(X:View->Prop):Prop:=CZ M (Frame.enter P f args .normal) H Q v X
def NxE {P:Program}(M:Md P)(Q:Value->View->Prop)(v:Value)(X:View->Prop)(nx:Next)(H:View):Prop:=
 match nx with
 | .enter f args=> EL M f args H Q v X
 | .round l f tmps assign body=> CZ M (Frame.round l f tmps assign body .normal) H Q v X
 | _=> False
def bN {P:Program}(M:Md P)(fv:Value)(az:List Value)(H:View)(Q:Value->View->Prop)(v:Value)(X:View->Prop):Prop:=
 vA P ((Deferred.ofValue fv az.toArray).bind fun d=> invoke d.target d.args) H (NxE M Q v X)
def EO(F:View)(X:View->Prop):View->Prop:=fun H''=> ∃H',H''=H'.plus F/\Dj H' F/\X H'
section
variable {P:Program}{E:Env P}{M:Md P}{St:View->Goroutine->Prop}{n:Nat}{b:FB}{H₀:View}{cs:List Frame}{R R':Rg}{L L':Bl}{ds:List Deferred}{k:List Item}{d:Nat}{v:Value}{Q:Value->View->Prop}{X:View->Prop}
theorem CZ.mono {fr:Frame}{H:View}{Q':Value->View->Prop}{X':View->Prop}(h:CZ M fr H Q v X)(hq:∀u H',Q u H'->Q' u H')(hx:∀H',X H'->X' H'):CZ M fr H Q' v X':=
 fun St c cs hk hp=> h St c cs (fun u H' hv=> hk u H' (hq u H' hv)) fun H' hv=> hp H' (hx H' hv)
theorem NxE.mono {nx:Next}{H:View}{Q':Value->View->Prop}{X':View->Prop}(h:NxE M Q v X nx H)(hq:∀u H',Q u H'->Q' u H')(hx:∀H',X H'->X' H'):NxE M Q' v X' nx H:=by
 cases nx <;> first
  | exact h.elim
  | exact CZ.mono h hq hx
theorem bN.mono {fv:Value}{az:List Value}{H:View}{Q':Value->View->Prop}{X':View->Prop}(h:bN M fv az H Q v X)(hq:∀u H',Q u H'->Q' u H')(hx:∀H',X H'->X' H'):bN M fv az H Q' v X':=
 NA _ (fun _ _ hn=> NxE.mono hn hq hx) h
theorem bN.of {g:FuncId}{az first captured:List Value}{as':Array Value}{H:View}(hg:qA P g=true)(PA:(first++az++captured).toArray=as')(h:EL M g as' H Q v X):
  bN M (.func (.func g) first.toArray captured.toArray) az H Q v X:=by
 unfold bN;simp only[Deferred.ofValue];show vA P (callFunc g (first.toArray++az.toArray++captured.toArray)) H _;have e3:first.toArray++az.toArray++captured.toArray=as':=by rw[<-PA];simp
 rw[e3];exact OD hg h
theorem CZ.frame {fr:Frame}{H F:View}(h:CZ M fr H Q v X)(hd:Dj H F):CZ M fr (H.plus F) (bH F Q) v (EO F X):=fun St c cs hk hp=> by
 have h1:=h (fun H' g'=> (∃u,Q u H'/\g'=G (c.finish u) cs)\/(X H'/\g'=G (c.raise (raised v)) cs)) c cs (fun u H' hq=> .stop (.inl ⟨u,hq,rfl⟩)) fun H' hx=> .stop (.inr ⟨hx,rfl⟩);refine(h1.frame F hd).bind ?_;rintro H'' g' ⟨H',rfl,yJ,⟨u,hq,rfl⟩|⟨hx,rfl⟩⟩
 ·exact hk u _ ⟨H',rfl,yJ,hq⟩
 ·exact hp _ ⟨H',rfl,yJ,hx⟩
theorem bN.frame {fv:Value}{az:List Value}{H F:View}(h:bN M fv az H Q v X)(hd:Dj H F):bN M fv az (H.plus F) (bH F Q) v (EO F X):=by
 refine NA _ ?_ (zO _ hd h);rintro nx H'' ⟨H',rfl,yJ,hn⟩;cases nx <;> first
  | exact hn.elim
  | exact CZ.frame hn yJ
theorem EL.enter {f:FuncId}{fn:Func}{body:Code}{vs:List Value}{H:View}(hf:P.funcs[f]? =some fn)(hb:fn.body=some body)(hn:fn.ntmps=n)(hv:vs.length<=n)(hs:eA H₀ L H)
  (h:∀St c cs,(∀u H',Q u H'->T M St H' (G (c.finish u) cs))->(∀H',X H'->T M St H' (G ((c:Frame).raise (raised v)) cs))->Tc M St n ⟨f,.normal,none⟩ H₀ (c::cs) (BI vs) L [] [.code body]):EL M f vs.toArray H Q v X:=fun St c cs hk hp=> by
 have:=h St c cs hk hp H (vs.toArray++Array.replicate (n-vs.length) undef) hs ⟨by simp;omega,fun d v hd=> ?_⟩
 ·have e:Frame.enter P f vs.toArray .normal=(⟨f,.normal,none⟩:FB).at (vs.toArray++Array.replicate (n-vs.length) undef) [] [.code body]:=by
   simp[Frame.enter,FB.at,hf,hb,hn]
  rw[e];exact this
 ·obtain⟨_,h2⟩:=HE vs 0 d v hd;simp only[Nat.sub_zero] at h2;have iB:=(List.getElem?_eq_some_iff.1 h2).1;rw[Array.getElem?_append_left (by simpa using iB)];simpa using h2
theorem T.aAP {ops:Array Oper}{i:Nat}{rest:List Nat}{o:Oper}{tmps:Array Value}{H:View}(ho:ops[i]? =some o)(hw:Region.wanted o (yielded ops tmps)=true)(hd:wA o.op=false)
  (h:vA P (execOp (vB tmps) o) H (NxE M Q v X)) (hq:∀u H',Q u H'->T M St H' (G (b.at (AB tmps o.dst u) ds (.inRegion ops rest::k)) cs))
  (hE:∀H',X H'->T M St H' (G (b.iJ tmps ds (.inRegion ops (i::rest)::k) (raised v)) cs)):T M St H (G (b.at tmps ds (.inRegion ops (i::rest)::k)) cs):=by
 refine .op ho hw (.inr fun c e=> by rw[e] at hd;cases hd) (NA _ (fun nx H' hn=> ?_) h);have wC:∀u,(b.at tmps ds (.inRegion ops (i::rest)::k)).finish u=b.at (AB tmps o.dst u) ds (.inRegion ops rest::k):=by
  intro u;rw[FB.finish_at,ho];rfl
 cases nx <;> first
  | exact hn.elim
  | exact hn St _ cs (fun u H'' h'=> by rw[wC];exact hq u H'' h') hE
theorem QV {o:Oper}{cl:Go.Call}{x:Operand}{fv:Value}{az:List Value}{tmps:Array Value}(hr:LA n R tmps)(gA:o.op=.call cl)(HB:cl.callee=.value x)(hx:BA R x=some fv)(has:ZD R cl.args.toList=some az):
  execOp (vB tmps) o=(Deferred.ofValue fv az.toArray).bind fun d=> invoke d.target d.args:=by
 have e1:=hr.ev hx;have WG:cl.args.map (vB tmps)=az.toArray:=by
  apply Array.ext'
  simpa using hr.evs has
 have h1:execOp (vB tmps) o=(resolve (vB tmps) cl o.type).bind fun d=> invoke d.target d.args:=by unfold execOp;rw[gA];rfl
 rw[h1];unfold resolve;rw[HB];simp only[e1,WG]
theorem To.ES {dl:List (Option Tmp)}{l:List Oper}{o:Oper}{cl:Go.Call}{x:Operand}{fv:Value}{az:List Value}(hw:HA dl R o=some true)(gA:o.op=.call cl)(HB:cl.callee=.value x)(hx:BA R x=some fv)(has:ZD R cl.args.toList=some az)(hd:o.dst=some d)(hn:d<n)
  (hc:bN M fv az H₀ Q v X) (hk:∀u H₁,Q u H₁->To M St n b H₁ cs dl ((d,u)::R) L ds l k) (hp:∀H₁,X H₁->ZG M St n b H₁ cs R L ds v):To M St n b H₀ cs dl R L ds (o::l) k:=fun arr ix ha fN=> by
 cases ix with
 | nil=> simp at fN
 | cons i r=>
  simp only[List.map_cons,List.cons.injEq] at fN;intro H tmps hs hr;obtain⟨F,rfl,nQ,hF⟩:=hs.split;refine .aAP (Q:=bH F Q) (X:=EO F X) (v:=v) fN.1 (kB ha hr hw) (by rw[gA];rfl) ?_ ?_ ?_
  ·rw[QV hr gA HB hx has];exact hc.frame nQ
  ·rintro u H'' ⟨H₁,rfl,yJ,hq⟩;rw[hd];exact hk u H₁ hq arr r ha fN.2 _ _ (.xP hs.nodup hF yJ) (hr.put hn u)
  ·rintro H'' ⟨H₁,rfl,yJ,hx⟩;exact hp H₁ hx _ tmps _ (.xP hs.nodup hF yJ) hr
theorem bN.round {l i:Nat}{lp:Loop}{H:View}{az:List Value}{ts:List Nat}(hs:eA H₀ L H)(hl:L[i]? =some (l,true,.loop lp))(pQ:lp.params=ts.toArray)(hb:(ts.all fun t=> Nat.blt t n)=true)(hlen:ts.length=az.length)(hr:LA n R lp.tmps)
  (h:∀St c cs,(∀u H',Q u H'->T M St H' (G (c.finish u) cs))->(∀H',X H'->T M St H' (G ((c:Frame).raise (raised v)) cs))->Tc M St n ⟨lp.fn,.normal,some l⟩ H₀ (c::cs) (qW R ts az) L [] [.code lp.assign,.beginRound,.code lp.body]):bN M (.func (.yield l) #[] #[]) az H Q v X:=by
 unfold bN;simp only[Deferred.ofValue];show vA P (Instr.yield l (#[]++az.toArray)) H _;refine⟨true,_,hs.get hl,by simp,rfl,?_⟩;show vA P (if(#[]++az.toArray).size≠lp.params.size then _ else _) H _;rw[if_neg (by rw[pQ];simp[hlen])];intro St c cs hK hP;have e:(lp.params.zip (#[]++az.toArray)).foldl (fun tmps (x:Nat×Value)=> tmps.setIfInBounds x.1 x.2) lp.tmps=(ts.zip az).foldl (fun tmps (x:Nat×Value)=> tmps.setIfInBounds x.1 x.2) lp.tmps:=by
  rw[pQ];simp
 have:=h St c cs hK hP H _ hs (hr.K8 hb hlen);rw[<-e] at this;exact this
theorem T.SI {H:View}{f:Operand}{params:Array Tmp}{assign body:Code}{tmps:Array Value}{fv:Value}(hf:vB tmps f=fv)
  (h:vA P (Instr.enterLoop b.fn tmps params assign body b.rd) H fun x H'=> bN M fv [.func (.yield x.1) #[] #[]] H' (fun _ H''=> T M St H'' (G (b.at tmps (x.2++ds) (.endRangeFunc x.1::k)) cs)) v (fun H''=> T M St H'' (G (b.iJ tmps (x.2++ds) (.inRangeFunc x.1::k) (raised v)) cs))):
  T M St H (G (b.at tmps ds (.code (.rangeFunc f params assign body)::k)) cs):=by
 refine .step ⟨rfl,fun w hs _=> ?_⟩;obtain⟨⟨l,mark⟩,H₁,w₁,es₁,h1,h2,h3⟩:=rB _ #[] hs h;rw[Array.empty_append] at h1;obtain⟨nx,H₂,w₂,es₂,g1,g2,g3⟩:=rB _ #[] h2.sat h3;rw[Array.empty_append] at g1;generalize XQ:b.at tmps (mark++ds) (.inRangeFunc l::k)=fr;generalize VG:seen P fr.fn (if fr.kind==.early then #[] else es₂)=es';have GD:∀e∈seen P b.fn es₁++es',e∈es₁++es₂:=fun e he=> by
  rcases Array.mem_append.1 he with he|he
  ·exact Array.mem_append.2 (.inl (mem_seen he))
  ·rw[<-VG] at he;have:=mem_seen he;split at this
   ·simp at this
   ·exact Array.mem_append.2 (.inr this)
 have key:stepG P M.main (G (b.at tmps ds (.code (.rangeFunc f params assign body)::k)) cs) w=
   GStep.after (seen P b.fn es₁) (stepG.apply P true fr cs Option.none ((Deferred.ofValue fv #[.func (.yield l) #[] #[]]).bind fun d=> invoke d.target d.args) w₁):=by
  have TS:fr.eval f=fv:=by rw[<-XQ,FB.eval_at];exact hf
  have vP:(resolve fr.eval { callee:=.value f,args:=#[.const (.func (.yield l) #[] #[])],argTypes:=#[] } 0)=Deferred.ofValue fv #[.func (.yield l) #[] #[]]:=by
   show Deferred.ofValue (fr.eval f) (#[Operand.const (.func (.yield l) #[] #[])].map fr.eval)=_;rw[TS];simp[Frame.eval]
  have:stepG P M.main (G (b.at tmps ds (.code (.rangeFunc f params assign body)::k)) cs) w=
   GStep.after (seen P b.fn es₁) (stepG.apply P true fr cs Option.none ((resolve fr.eval { callee:=.value f,args:=#[.const (.func (.yield l) #[] #[])],argTypes:=#[] } 0).bind fun d=> invoke d.target d.args) w₁):=by
   have hp:Sem.run P (Instr.enterLoop b.fn tmps params assign body b.rd) w=.ok (l,mark) w₁/\Sem.events P (Instr.enterLoop b.fn tmps params assign body b.rd) w #[]=es₁:=by simpa using h1
   rw[<-XQ];simp[G,stepG,stepG.exec,FB.at,hp.1,hp.2]
   rfl
  rw[this,vP]
 have TQ:∀g,stepG.apply P true fr cs Option.none ((Deferred.ofValue fv #[.func (.yield l) #[] #[]]).bind fun d=> invoke d.target d.args) w₁=GStep.after es' (.go g w₂)-> 
   stepG P M.main (G (b.at tmps ds (.code (.rangeFunc f params assign body)::k)) cs) w=.go g w₂ (seen P b.fn es₁++es'):=fun g hg=> by
  rw[key,hg];simp[GStep.after]
 have wC:∀u,fr.finish u=b.at tmps (mark++ds) (.endRangeFunc l::k):=by
  intro u;rw[<-XQ];rfl
 have eN:fr.raise (raised v)=b.iJ tmps (mark++ds) (.inRangeFunc l::k) (raised v):=by
  rw[<-XQ];rfl
 cases nx <;> try exact g3.elim
 case enter g az=>
  refine⟨_,w₂,_,H₂,TQ (G (Frame.enter P g az .normal) (fr::cs)) ?_,(h2.trans g2).sub GD,?_⟩
  ·subst XQ;rw[<-VG];unfold stepG.apply;rw[if_pos rfl,g1];rfl
  ·exact g3 St fr cs (fun u H'' hq=> by rw[wC];exact hq) fun H'' hx=> by rw[eN];exact hx
 case round l' g tmps' az bd=>
  refine⟨_,w₂,_,H₂,TQ (G (Frame.round l' g tmps' az bd .normal) (fr::cs)) ?_,(h2.trans g2).sub GD,?_⟩
  ·subst XQ;rw[<-VG];unfold stepG.apply;rw[if_pos rfl,g1];rfl
  ·exact g3 St fr cs (fun u H'' hq=> by rw[wC];exact hq) fun H'' hx=> by rw[eN];exact hx
theorem Tc.SI {f:Operand}{params:Array Tmp}{assign body:Code}{fv:Value}(cK:b.rd=none)(hf:BA R f=some fv)(Z:Nat->Nat->Option Code->View->Bl->Prop)(Zp:Nat->View->Bl->Prop)
  (h:∀l r tmps H,LA n R tmps->eA H₀ ((l,true,.loop (Loop.fresh b.fn tmps params assign body r))::(r,true,.deferred (some []))::L) H-> 
   bN M fv [.func (.yield l) #[] #[]] H (fun _ H'=> ∃H₁ L₁ lp,eA H₁ ((l,true,.loop lp)::(r,true,.deferred (some []))::L₁) H'/\lp.state≠ .busy/\Z l r lp.pending H₁ L₁) v fun H'=> ∃H₁ L₁,eA H₁ ((r,true,.deferred (some []))::L₁) H'/\Zp r H₁ L₁)
  (hk:∀l r j H₁ L₁,Z l r j H₁ L₁->Tc M St n b H₁ cs R ((r,true,.deferred (some []))::L₁) (MC r::ds) ((j.map Item.code).toList++k))
  (hp:∀r H₁ L₁,Zp r H₁ L₁->ZG M St n b H₁ cs R ((r,true,.deferred (some []))::L₁) (MC r::ds) v):
  Tc M St n b H₀ cs R L ds (.code (.rangeFunc f params assign body)::k):=fun H tmps hs hr=> by
 refine .SI (v:=v) (hr.ev hf) ?_;rw[cK];intro r dY;intro l hl0;have hs':=(hs.cons (true,.deferred (some [])) dY).cons (true,.loop (Loop.fresh b.fn tmps params assign body r)) hl0;refine bN.mono (h l r tmps _ hr hs') ?_ ?_
 ·rintro u H' ⟨H₁,L₁,lp,TN,bB,hz⟩;refine .endRangeFunc ?_;have hl:=TN.get (i:=0) rfl;refine⟨true,_,hl,by simp,rfl,?_⟩;have hb:(lp.state==LoopState.busy)=false:=by simpa using bB
  show vA P (if(lp.state==LoopState.busy)=true then _ else _) H' _;rw[if_neg (by simp[hb])];refine⟨⟨_,hl,by simp⟩,rfl,?_⟩;refine hk l r lp.pending H₁ L₁ hz _ tmps ?_ hr;exact(TN.set (i:=0) rfl _).less (List.sublist_cons_self _ _)
 ·rintro H' ⟨H₁,L₁,TN,hz⟩;exact hp r H₁ L₁ hz H' tmps _ TN hr
def w5 {P:Program}(M:Md P){α ε:Type}(fv:Value)(xs:List α)(arg:α->ε->List Value)(B B':α->ε->Bl)(Cap:View->Prop)(A:Bl)(H:View)(v:Value):Prop:=
 ∀ (l:Nat) (J:List α->View->Prop) (D X:View->Prop),(∀rest H',J rest H'->Cap H')->J xs H-> 
  (∀x rest e H' H'',x∈xs->J (x::rest) H'->eA H' (B x e) H''->bN M (.func (.yield l) #[] #[]) (arg x e) H'' (fun u H3=> (u=.bool true/\∃H₂,eA H₂ (B' x e) H3/\J rest H₂)\/(u=.bool false/\D H3)) v X)-> 
  ∀H',eA H A H'->bN M fv [.func (.yield l) #[] #[]] H' (fun _ H3=> ∃H₁,H₁.le H3/\(J [] H₁\/D H₁)) v fun H3=> ∃H₁,H₁.le H3/\X H₁
end
section
variable {P:Program}{M:Md P}{St:View->Goroutine->Prop}{n:Nat}{b:FB}{H₀:View}{cs:List Frame}{R:Rg}{L:Bl}{ds:List Deferred}{k:List Item}
variable {L₀ A:Bl}{α ε:Type}{fv:Value}{xs:List α}{arg:α->ε->List Value}{B B':α->ε->Bl}{Cap:View->Prop}{v:Value}
def S6(M:Md P)(n:Nat)(b:FB)(R:Rg)(arg:α->ε->List Value)(B B':α->ε->Bl)(ts:List Nat)(assign body:Code)(I:List α->View->Bl->Prop)(Dn:Code->View->Bl->Prop)(v:Value)(Xp:View->Bl->Prop)(xs:List α)(df:Nat)(T:Bl->Bl):Prop:=
 ∀ x rest e l tmps asg bdy H₁ L₁,x∈xs->I (x::rest) H₁ L₁->∀(Q:Value->View->Prop) (X:View->Prop) (St:View->Goroutine->Prop) (c:Frame) (cs:List Frame),(∀u H',Q u H'->Go.RL.T M St H' (G (c.finish u) cs))->(∀H',X H'->Go.RL.T M St H' (G (c.raise (raised v)) cs))-> 
  (∀H' H₂ L₂,eA H₂ (B' x e++(l,true,.loop (Loop.fresh b.fn tmps ts.toArray asg bdy df))::T L₂) H'->I rest H₂ L₂->Q (.bool true) H')-> 
  (∀H' H₂ L₂ j,eA H₂ ((l,true,.loop (Loop.nH (Loop.fresh b.fn tmps ts.toArray asg bdy df) j))::T L₂) H'->Dn j H₂ L₂->Q (.bool false) H')-> 
  (∀H' H₂ L₂,eA H₂ (T L₂) H'->Xp H₂ L₂->X H')-> 
  Tc M St n ⟨b.fn,.normal,some l⟩ H₁ (c::cs) (qW R ts (arg x e)) (B x e++(l,true,.loop (Loop.fresh b.fn tmps ts.toArray asg bdy df))::T L₁) [] [.code assign,.beginRound,.code body]
theorem Tc.I4 {f:Operand}{assign body:Code}{ts:List Nat}{pa:Array Tmp}(I:List α->View->Bl->Prop)(Dn:Code->View->Bl->Prop)(Xp:View->Bl->Prop)(SW:pa=ts.toArray)(cK:b.rd=none)(hf:BA R f=some fv)(hA:L=A++L₀)(dL:∀H,Cap H->w5 M fv xs arg B B' Cap A H v)
  (hC:∀H H',H.le H'->Cap H->Cap H') (hI:∀rest H₁ L₁,I rest H₁ L₁->Cap H₁) (pQ:(ts.all fun t=> Nat.blt t n)=true) (hlen:∀x e,ts.length=(arg x e).length) (h0:I xs H₀ L₀)
  (round:∀r,S6 M n b R arg B B' ts assign body I Dn v Xp xs r fun L₁=> (r,true,.deferred (some []))::L₁)
  (hk:∀r H₁ L₁,I [] H₁ L₁->Tc M St n b H₁ cs R ((r,true,.deferred (some []))::L₁) (MC r::ds) k)
  (O2:∀r j H₁ L₁,Dn j H₁ L₁->Tc M St n b H₁ cs R ((r,true,.deferred (some []))::L₁) (MC r::ds) (.code j::k))
  (HZ:∀r H₁ L₁,Xp H₁ L₁->ZG M St n b H₁ cs R ((r,true,.deferred (some []))::L₁) (MC r::ds) v):
  Tc M St n b H₀ cs R L ds (.code (.rangeFunc f pa assign body)::k):=by
 subst SW;refine Tc.SI (v:=v) cK hf (fun l r j H₁ L₁=> (j=none/\I [] H₁ L₁)\/∃j',j=some j'/\Dn j' H₁ L₁) (fun r H₁ L₁=> Xp H₁ L₁) (fun l r tmps H hr hs=> ?_) (fun l r j H₁ L₁ hz=> ?_) (fun r H₁ L₁ hz=> HZ r H₁ L₁ hz)
 ·rw[hA] at hs;obtain⟨H',hsA,hs⟩:=(hs.perm (L':=A++(l,true,.loop (Loop.fresh b.fn tmps ts.toArray assign body r))::(r,true,.deferred (some []))::L₀) (by
   refine(List.perm_middle.trans ?_);exact .cons _ List.perm_middle)).iD
  have RD:Cap H':=hC _ _ hs.base (hI _ _ _ h0);have hJ:∀rest Hv,(∃H₁ L₁,eA H₁ ((l,true,.loop (Loop.fresh b.fn tmps ts.toArray assign body r))::(r,true,.deferred (some []))::L₁) Hv/\I rest H₁ L₁)->Cap Hv:=by
   rintro rest Hv ⟨H₁,L₁,h1,h2⟩;exact hC _ _ h1.base (hI _ _ _ h2)
  refine bN.mono (dL H' RD l (fun rest Hv=> ∃H₁ L₁,eA H₁ ((l,true,.loop (Loop.fresh b.fn tmps ts.toArray assign body r))::(r,true,.deferred (some []))::L₁) Hv/\I rest H₁ L₁)
   (fun Hv=> ∃H₁ L₁ j,eA H₁ ((l,true,.loop (Loop.nH (Loop.fresh b.fn tmps ts.toArray assign body r) j))::(r,true,.deferred (some []))::L₁) Hv/\Dn j H₁ L₁)
   (fun Hv=> ∃H₁ L₁,eA H₁ ((r,true,.deferred (some []))::L₁) Hv/\Xp H₁ L₁) hJ ⟨H₀,L₀,hs,h0⟩ ?_ H hsA) ?_ ?_
  ·rintro x rest e H' H'' hY ⟨H₁,L₁,h1,h2⟩ h3;refine bN.round (i:=(B x e).length) (lp:=Loop.fresh b.fn tmps ts.toArray assign body r) (l:=l) (h1.append h3) (by simp) rfl pQ (hlen x e) hr fun St c cs hK hP=> ?_;exact round r x rest e l tmps assign body H₁ L₁ hY h2 _ _ St c cs hK hP (fun H' H₂ L₂ g1 g2=> by
    obtain⟨Hm,g3,g4⟩:=g1.iD;exact .inl ⟨rfl,Hm,g3,H₂,L₂,g4,g2⟩) (fun H' H₂ L₂ j g1 g2=> .inr ⟨rfl,H₂,L₂,j,g1,g2⟩) (fun H' H₂ L₂ g1 g2=> ⟨H₂,L₂,g1,g2⟩)
  ·rintro u H' ⟨Hv,hle,⟨H₁,L₁,g1,g2⟩|⟨H₁,L₁,j,g1,g2⟩⟩
   ·exact⟨H₁,L₁,Loop.fresh b.fn tmps ts.toArray assign body r,g1.mono hle,(fun h=> nomatch h),.inl ⟨rfl,g2⟩⟩
   ·exact⟨H₁,L₁,Loop.nH (Loop.fresh b.fn tmps ts.toArray assign body r) j,g1.mono hle,(fun h=> nomatch h),.inr ⟨j,rfl,g2⟩⟩
  ·rintro H' ⟨Hv,hle,H₁,L₁,g1,g2⟩;exact⟨H₁,L₁,g1.mono hle,g2⟩
 ·rcases hz with ⟨rfl,hz⟩|⟨j',rfl,hz⟩
  ·exact hk r H₁ L₁ hz
  ·exact O2 r j' H₁ L₁ hz
end
end Go.RL
namespace Go.Proofs.YtgkmnalhddmclaaGreatDoor
open Go.RL Go.Proofs.Tryz
set_option maxRecDepth 10000
set_option maxHeartbeats 16000000
def R3:Value:=.iface 84 (.agg ⟨[]⟩)
section
variable(M:Md prog)(H:View)
theorem xG:dH M 42 #[.bool false] H R3 (fun H'=> H.le H'):=by
 refine dH.enter (vs:= [.bool false]) func42 rfl ntmps42 (Nat.le_of_ble_eq_true rfl) fun St c cs hP=> ?_;refine U8 ?_;refine .x (mA.iface rfl rfl kR) ?_;exact To.zL rfl rfl rfl func42 fun H' hle=> hP H' hle
end
end Go.Proofs.YtgkmnalhddmclaaGreatDoor
