/-
 Texts of the proofs over baudot/dial.
-/
import Derived.Test.YtgkmnalhddmclaaGreatDoorT08
import Derived.Deep.Slices
namespace Go.Proofs.YtgkmnalhddmclaaGreatDoor
open Go.RL Go.Proofs.Tryz Go.ChangeShapes Go.WideShapes Go.ChangeAt Go.RowKit
set_option maxRecDepth 100000
section
variable {H:Type}{enc:TypeId×Value->H}{P:Program}{W:World}{base:Nat}{sp:Nat->Bool}{held:Bool}
theorem IN:∀ {ts:List TypeId} {vs:List Value} {ds:List (DataW H)} {p:List MemPlace},DataW.TrodAll enc P W base sp held ts vs ds p->∀(j:Nat) t v,ts[j]? =some t->vs[j]? =some v->∃d q,DataW.Trod enc P W base sp held t v d q
 | [],_,_,_,_,_,_,_,h,_=> by simp at h
 | t ::ts,v::vs,d::ds,p,⟨a,b,h1,h2,_⟩,j,t',v',ht,hv=> by
  cases j with
  | zero=>
   simp only[List.getElem?_cons_zero,Option.some.injEq] at ht hv;subst ht hv;exact⟨_,_,h1⟩
  | succ j=>
   simp only[List.getElem?_cons_succ] at ht hv;exact IN h2 j t' v' ht hv
 | _::_,[],_,_,h,_,_,_,_,_=> by cases h
 | _::_,_::_,[],_,h,_,_,_,_,_=> by cases h
end
theorem aBx(s:ByteArray):Value.string s=jA s.data.toList:=by
 obtain⟨⟨l⟩⟩:=s;rfl
theorem G0 {W:World}{base:Nat}{v:Value}(h:Value.okWide prog W .any base 9 v):∃s:List UInt8,v=jA s:=by
 unfold Value.okWide Cell.okWide Cell.ok at h;rw[show prog.underlying 9=some .string by kernel_rfl] at h;cases v with
 | string s=> exact⟨_,aBx s⟩
 | _=> exact h.elim
theorem G9:prog.cellsOf 3=1:=by kernel_rfl
theorem TP:prog.cellsOf 23=2:=by kernel_rfl
theorem GV:prog.cellsOf 38=4:=by kernel_rfl
theorem P4:prog.cellsOf 24=1:=by kernel_rfl
theorem R4:prog.cellsOf 26=7:=by kernel_rfl
section
variable {H:Type}{enc:TypeId×Value->H}{W:World}{sp:Nat->Bool}{held:Bool}
theorem F1 {n:Nat}{cs:List Value}{y:DataW H×List MemPlace}(h:DataW.trod enc prog W 0 sp held n 3 cs=some y):∃z,cs= [.int .i64 z]:=by
 obtain⟨z,h,_⟩:=DataW.trod_int Tryz.underlying3 h;exact⟨z,h⟩
theorem OG {n:Nat}{cs:List Value}{y:DataW H×List MemPlace}(h:DataW.trod enc prog W 0 sp held n 23 cs=some y):∃a b,cs= [.int .i64 a,.int .i64 b]:=by
 obtain⟨y0,y1,m,_,hl,t0,t1⟩:=trod_struct2 Tryz.underlying23 h;rw[TP] at hl;obtain⟨c0,c1,rfl⟩:∃a b,cs= [a,b]:=by
  match cs,hl with
  | [a,b],_=> exact⟨a,b,rfl⟩
 simp only[G9,List.drop_zero,List.drop_succ_cons,List.take_succ_cons,List.take_zero] at t0 t1;obtain⟨a,ha⟩:=F1 t0;obtain⟨b,hb⟩:=F1 t1;simp only[List.cons.injEq,and_true] at ha hb;exact⟨a,b,by rw[ha,hb]⟩
theorem WX {n:Nat}{cs:List Value}{y:DataW H×List MemPlace}(h:DataW.trod enc prog W 0 sp held n 38 cs=some y):∃x:Int×Int×Int×Int,cs= [.int .i64 x.1,.int .i64 x.2.1,.int .i64 x.2.2.1,.int .i64 x.2.2.2]:=by
 obtain⟨y0,y1,m,_,hl,t0,t1⟩:=trod_struct2 Tryz.underlying38 h;rw[GV] at hl;obtain⟨c0,c1,c2,c3,rfl⟩:∃a b c d,cs= [a,b,c,d]:=by
  match cs,hl with
  | [a,b,c,d],_=> exact⟨a,b,c,d,rfl⟩
 simp only[TP,List.drop_zero,List.drop_succ_cons,List.take_succ_cons,List.take_zero] at t0 t1;obtain⟨a,b,h1⟩:=OG t0;obtain⟨c,d,h2⟩:=OG t1;simp only[List.cons.injEq,and_true] at h1 h2;exact⟨(a,b,c,d),by rw[h1.1,h1.2,h2.1,h2.2]⟩
theorem C5 {gs:List Value}{o:Nat}{a b c d:Value}(h0:gs[o]? =some a)(h1:gs[o+1]? =some b)(h2:gs[o+2]? =some c)(h3:gs[o+3]? =some d):SB true 4 gs o=some (.agg ⟨[a,b,c,d]⟩):=by
 have mB:=(List.getElem?_eq_some_iff.1 h3).1;have e:(gs.drop o).take 4= [a,b,c,d]:=by
  apply List.ext_getElem?
  intro i;rcases i with _|_|_|_|i
  ·simpa using h0
  ·simpa using h1
  ·simpa using h2
  ·simpa using h3
  ·simp
   omega
 unfold SB;rw[show Nat.ble (o+4) gs.length=true from Nat.ble_eq_true_of_le oM];simp only[e]
theorem BY(ab ao j:Nat):(⟨ab,ao,none⟩:Addr).add j=⟨ab,ao+j,none⟩:=by
 unfold Addr.add;split
 ·rename_i h;subst h;rfl
 ·rfl
theorem QU {base:Nat}{v:Value}(hv:Value.okWide prog W .any base 26 v)(h:∃d q,DataW.Trod enc prog W 0 (fun _=> true) true 26 v d q):∃(ch:Ch) (A:Option Addr) (lc:Nat),v=ch.lE A lc/\ch.m=0/\zB (TF W) ch A lc:=by
 have hv':∃cs,v=.agg cs:=by
  unfold Value.okWide at hv;rw[Tryz.underlying26] at hv;obtain⟨cs,h,_⟩:=hv;exact⟨cs,h⟩
 obtain⟨⟨cs⟩,rfl⟩:=hv';obtain⟨d,q,n,h⟩:=h;obtain⟨xs,m,_,_,hl,rX,hf⟩:=DataW.trod_struct Tryz.underlying26 h;have Y9:(Value.agg ⟨cs⟩).cells.toList=cs:=rfl;rw[Y9] at hl hf;rw[R4] at hl;obtain⟨c0,c1,c2,c3,c4,c5,c6,rfl⟩:∃a b c d e f g,cs= [a,b,c,d,e,f,g]:=by
  match cs,hl with
  | [a,b,c,d,e,f,g],_=> exact⟨a,b,c,d,e,f,g,rfl⟩
 obtain⟨x0,x1,x2,x3,rfl⟩:∃a b c d,xs= [a,b,c,d]:=by
  match xs,rX with
  | [a,b,c,d],_=> exact⟨a,b,c,d,rfl⟩
 have f0:=hf 0 { name:= "Send",type:=23,offset:=0,embedded:=false,tag:= "",pkgPath:= "",byteOffset:=0 } rfl;have f1:=hf 1 { name:= "Lines",type:=24,offset:=2,embedded:=false,tag:= "",pkgPath:= "",byteOffset:=16 } rfl;have f2:=hf 2 { name:= "Again",type:=23,offset:=3,embedded:=false,tag:= "",pkgPath:= "",byteOffset:=40 } rfl;have f3:=hf 3 { name:= "Read",type:=23,offset:=5,embedded:=false,tag:= "",pkgPath:= "",byteOffset:=56 } rfl;simp only[TP,P4,List.drop_zero,List.drop_succ_cons,List.take_succ_cons,List.take_zero,List.getElem?_cons_zero,List.getElem?_cons_succ] at f0 f1 f2 f3;obtain⟨s0,s1,e0⟩:=OG f0;obtain⟨a0,a1,e2⟩:=OG f2;obtain⟨r0,r1,e3⟩:=OG f3;simp only[List.cons.injEq,and_true] at e0 e2 e3;obtain⟨rfl,rfl⟩:=e0;obtain⟨rfl,rfl⟩:=e2;obtain⟨rfl,rfl⟩:=e3;rcases Go.Deep.open_slice Tryz.underlying24 f1 with ⟨h1,_⟩|⟨a,len,cap,mm,nn,D,Pl,h1,_,h3,_,h5,_,h7⟩
 ·simp only[List.cons.injEq,and_true] at h1;subst h1;exact⟨⟨s0,s1,a0,a1,r0,r1,0,fun _=> 0,fun _=> 0,fun _=> 0,fun _=> 0,0,fun _=> 0⟩,none,0,rfl,rfl,Nat.le_refl _,.inl rfl⟩
 ·simp only[List.cons.injEq,and_true] at h1;subst h1;simp only[if_true] at h5;have hex:∀i,i<len->∃x:Int×Int×Int×Int,W.cells? 0 (a.add (i*4)) 4=some [.int .i64 x.1,.int .i64 x.2.1,.int .i64 x.2.2.1,.int .i64 x.2.2.2]:=fun i hi=> by
   obtain⟨cs',g1,g2⟩:=h7 i oM;rw[GV] at g1;obtain⟨x,hx⟩:=WX g2;exact⟨x,by rw[g1,hx]⟩
  obtain⟨f,hfx⟩:=Go.Deep.choose_lt hex;refine⟨⟨s0,s1,a0,a1,r0,r1,len,fun i=> (f i).1,fun i=> (f i).2.1,fun i=> (f i).2.2.1,fun i=> (f i).2.2.2,0,fun _=> 0⟩,some a,cap,rfl,rfl,h3,?_⟩;cases len with
  | zero=> exact .inl rfl
  | succ k=>
   obtain⟨ab,ao,spt⟩:=a;have VH:∀i,i<k+1->∀j,j<4->W.cell? (((⟨ab,ao,spt⟩:Addr).add (i*4)).add j)=([Value.int .i64 (f i).1,.int .i64 (f i).2.1,.int .i64 (f i).2.2.1,.int .i64 (f i).2.2.2]:List Value)[j]? :=fun i hi j hj=> (World.cells?_some (hfx i hi)).2.2 j hj;have h00:=VH 0 oM 0 dE;have kY:spt=none:=by simpa [Addr.add] using World.cell?_spot h00
   subst kY;obtain⟨gs,gt,gz,g1,_⟩:=JR h00;have g1':W.heap[ab]? =some (.cells gs gt gz):=by simpa [Addr.add] using g1
   refine .inr ⟨ab,ao,false,gs.toList,gt,gz,rfl,by simp only[TF,g1',Option.map_some],fun i hi=> ?_⟩;have pO:∀j,j<4->gs.toList[ao+i*4+j]? =([Value.int .i64 (f i).1,.int .i64 (f i).2.1,.int .i64 (f i).2.2.1,.int .i64 (f i).2.2.2]:List Value)[j]? :=fun j hj=> by
    have h8:=VH i hi j hj;rw[BY,BY] at h8;have aCH:∃z,([Value.int .i64 (f i).1,.int .i64 (f i).2.1,.int .i64 (f i).2.2.1,.int .i64 (f i).2.2.2]:List Value)[j]? =some z:=⟨_,List.getElem?_eq_getElem (by simpa using hj)⟩
    obtain⟨z,hz⟩:=aCH;rw[hz] at h8 ⊢;obtain⟨gs',gt',gz',g2,g3⟩:=JR h8;rw[g1'] at g2;cases g2
    rw[Array.getElem?_toList];exact g3
   exact C5 (pO 0 dE) (pO 1 dE) (pO 2 dE) (pO 3 dE)
end
end Go.Proofs.YtgkmnalhddmclaaGreatDoor
namespace Go.RL
section
variable {P:Program}{E:Env P}{M:Md P}{n:Nat}{H₀:View}{R:Rg}{L:Bl}{K:Rg->Bl->Prop}{o:Oper}{d:Nat}
theorem RZ(X B Y:Bl):((X++Y)++B).Perm (X++(B++Y)):=by
 rw[List.append_assoc];exact(List.Perm.refl X).append List.perm_append_comm
end
end Go.RL
namespace Go.RL
open Go.Conc
section
variable {P:Program}{E:Env P}{M:Md P}{n:Nat}{H₀:View}{R:Rg}{L L':Bl}{K:Rg->Bl->Prop}{o:Oper}{d:Nat}{v:Value}
theorem aR {t xt e:TypeId}{rt:TypeId}{r re:wA}{sz m:Nat}{y:Value}{new:List Value}{g:Gl e sz}{H:View}{Q:Value->View->Prop}(ht:E.ty t=some r)(LB:r.ds=.slice e)(ZC:E.ty e=some re)(QD:re.size=sz)(sX:re.zero.cells.toList.length=sz)
  (yU:∃rx,E.ty xt=some rx/\rx.ds=.str) (jZ:re.bytes<=1000) (hn:g.n+m<=1000000000) (hb:∀x∈g.bl,H x.1=some x.2) (hyl:∀Q:Nat->View->Prop,Q m H->yA P (Builtin.lenOf y) H Q) (hyf:∀Q:Array Value->View->Prop,Q ⟨new⟩ H->yA P (Builtin.firstCells sz m y) H Q) (hyn:new.length=m*sz) (hs:new.all single=true)
  (hq:∀(g':Gl e sz) (H':View),g'.n=g.n+m->g'.l=g.l++new->(∀b,g'.blk=some b->((g.blk=some b/\g'.cap=g.cap)\/H b=none))->(∀c,(∀b,g'.blk=some b->b≠c)->H' c=H c)->(∀x∈g'.bl,H' x.1=some x.2)->Q g'.val H'):
  yA P (Builtin.append_ #[t,xt] rt #[g.val,y]) H Q:=by
 obtain⟨rx,hx1,hx2⟩:=yU;have hold:=g.src hb;obtain⟨a,rQ⟩:∃a,g.val=.slice a g.n g.cap:=⟨_,rfl⟩
 show yA P ((underlying t).bind fun _=> _) H Q;refine aA (underlying t) _ (dA (uC ((E.ok _ _ ht).ds.trans LB)) ?_);rw[rQ];show yA P ((sizeOf e).bind fun _=> _) H Q;refine aA (sizeOf e) _ (IA (E.ok _ _ ZC).size ?_);refine aA (underlying xt) _ (dA (ZG ((E.ok _ _ hx1).ds.trans hx2)) ?_);refine aA (Builtin.lenOf y) _ (hyl _ ?_);simp only[QD];by_cases pE:g.n+m<=g.cap
 ·rw[if_pos pE];show yA P ((Builtin.firstCells sz m y).bind fun _=> _) H Q;refine aA _ _ (hyf _ ?_);cases BH:g.blk with
  | none=>
   have h1:=g.h0 BH;have e1:a=none:=by
    unfold Gl.val at rQ;rw[BH] at rQ
    injection rQ with e1
    exact e1.symm
   subst e1;have hm:m=0:=by omega
   have rU:new= []:=List.eq_nil_of_length_eq_zero (by rw[hyn,hm];simp);have:=hq g H oM (by rw[rU];simp) (fun b hb=> .inl ⟨hb,rfl⟩) (fun c _=> rfl) hb;rw[rQ] at this;show Q (.slice none (g.n+m) g.cap) H;rw[hm];exact this
  | some b=>
   have e1:a=some ⟨b,0,none⟩:=by
    unfold Gl.val at rQ;rw[BH] at rQ;cases rQ
    rfl
   subst e1;have hHb:H b=some (true,.cells ⟨g.l++g.CC⟩ e (0,0)):=by
    have:=hb (b,true,.cells ⟨g.l++g.CC⟩ e (0,0)) (by unfold Gl.bl;rw[BH];simp);exact this
   show yA P ((storeCells (Addr.add ⟨b,0,none⟩ (g.n*sz)) new).bind fun _=> Sem.pure (.slice (some ⟨b,0,none⟩) (g.n+m) g.cap)) H Q;refine aA _ _ ?_;rw[VD _ _ rfl];have hlen:new.length=m*sz:=hyn;have mZ:m*sz<=g.CC.length:=by rw[g.hj];exact Nat.mul_le_mul_right _ oM
   refine BC b _ new 0 (g.l++g.CC) hHb (by simp only[List.length_append,g.hl];omega) hs fun H' lR=> ?_;have kB:IE (g.l++g.CC) (0+g.n*sz+0) new=(g.l++new)++g.CC.drop new.length:=by
    unfold IE;simp only[Nat.zero_add,Nat.add_zero,<-g.hl,List.take_left',List.drop_append];simp
   let g':Gl e sz:=⟨some b,g.n+m,g.cap,g.l++new,g.CC.drop new.length,by simp[g.hl,hlen,Nat.add_mul],pE,by rw[List.length_drop,g.hj,hlen,<-Nat.sub_mul];congr 1;omega,fun h=> by cases h⟩
   have key:∀x∈g'.bl,H' x.1=some x.2:=by
    intro x hx;simp only[g',Gl.bl,List.mem_singleton] at hx;subst hx;show H' b=some (true,.cells ⟨(g.l++new)++g.CC.drop new.length⟩ e (0,0));rw[lR];split
    ·rename_i uQ
     subst uQ;simpa using hHb
    ·rw[View.qA,kB]
   exact hq g' H' rfl rfl (fun b' dQ=> .inl ⟨by cases dQ;exact BH,rfl⟩) (fun c hc=> by
    rw[lR];split
    ·rfl
    ·rw[View.kA];intro e;exact hc b rfl e.symm) key
 ·rw[if_neg pE];have bH:=(E.ok _ _ ZC).bytes;cases hi:P.info? e with
  | none=> rw[hi] at bH;cases bH
  | some i=>
   rw[hi] at bH;simp only[Option.map_some,Option.some.injEq] at bH;have lU:i.bytes<=1000:=by omega
   have pZ:IntKind.i64.max=9223372036854775807:=by decide
   show yA P ((typeInfo e).bind fun _=> _) H Q;refine aA (typeInfo e) _ (UB hi ?_);rw[if_neg (by rw[pZ];omega)];show yA P ((typeInfo e).bind fun _=> _) H Q;refine aA (typeInfo e) _ (UB hi ?_);rw[if_neg]
   ·show yA P ((choose _).bind fun newCap=> _) H Q;refine aA (choose _) _ ?_;intro tt;rw[if_neg (by simp[Question.forced])];generalize hnc:(Question.appendCap (g.n+m) g.cap e).cut tt=newCap;have jU:g.n+m<=newCap:=by rw[<-hnc];simp only[Question.cut];omega
    show yA P ((typeInfo e).bind fun _=> _) H Q;refine aA (typeInfo e) _ (UB hi ?_);show yA P ((askRoom (newCap*i.bytes)).bind fun _=> _) H Q;refine aA _ _ ?_;have iW:∀Q':Unit->View->Prop,Q' () H->yA P (askRoom (newCap*i.bytes)) H Q':=by
     intro Q' h;unfold askRoom;split
     ·exact⟨rfl,h⟩
     ·exact h
    refine iW _ ?_;show yA P ((Builtin.firstCells sz g.n (.slice a g.n g.cap)).bind fun _=> _) H Q;rw[<-rQ];refine aA _ _ (yC hold ?_);show yA P ((Builtin.firstCells sz m y).bind fun _=> _) H Q;refine aA _ _ (hyf _ ?_);show yA P ((zeroValue e).bind fun _=> _) H Q;refine aA (zeroValue e) _ (AB (E.ok _ _ ZC).zero ?_);rw[BK];intro blk iU;have hzz:re.zero.cells.size=sz:=by rw[<-Array.length_toList];exact sX
    let g':Gl e sz:=⟨some blk,g.n+m,newCap,g.l++new,mC re.zero.cells.toList ((newCap-(g.n+m))*re.zero.cells.size),by simp[g.hl,hyn,Nat.add_mul],jU,by rw[HL,hzz],fun h=> by cases h⟩
    exact hq g' _ rfl rfl (fun b' dQ=> .inr (by cases dQ;exact iU)) (fun c hc=> by
     rw[View.kA];intro e;exact hc blk rfl e.symm) (fun x hx=> by
     simp only[g',Gl.bl,List.mem_singleton] at hx;subst hx;rw[View.qA];simp)
   ·have h3 : Builtin.nextslicecap (g.n+m) g.cap<=4*1000000000:=by
     unfold Builtin.nextslicecap;split
     ·omega
     ·split
      ·omega
      ·have gb:∀(rounds c:Nat),c<=2*(g.n+m)+1000->Builtin.growBy (g.n+m) rounds c<=2*(g.n+m)+1000:=by
        intro rounds;induction rounds with
        | zero=> exact fun c hc=> hc
        | succ rounds ih=>
         intro c hc;unfold Builtin.growBy;split
         ·exact hc
         ·exact ih _ oM
       have:=gb 4 g.cap oM;omega
    have h4:Builtin.nextslicecap (g.n+m) g.cap*i.bytes<=4*1000000000*1000:=Nat.mul_le_mul h3 lU;omega
theorem rT {t xt e:TypeId}{rt:TypeId}{r re:wA}{sz m:Nat}{y:Value}{new:List Value}{g:Gl e sz}{H:View}{Q:Value->View->Prop}(ht:E.ty t=some r)(LB:r.ds=.slice e)(ZC:E.ty e=some re)(QD:re.size=sz)(sX:re.zero.cells.toList.length=sz)
  (yU:∃rx,E.ty xt=some rx/\rx.ds=.str) (jZ:re.bytes<=1000) (hn:g.n+m<=1000000000) (hb:∀x∈g.bl,H x.1=some x.2) (hyl:∀Q:Nat->View->Prop,Q m H->yA P (Builtin.lenOf y) H Q) (hyf:∀Q:Array Value->View->Prop,Q ⟨new⟩ H->yA P (Builtin.firstCells sz m y) H Q) (hyn:new.length=m*sz) (hs:new.all single=true)
  (hq:∀(g':Gl e sz) (H':View),g'.n=g.n+m->g'.l=g.l++new->(∀b,g'.blk=some b->(g.blk=some b\/H b=none))->(∀c,(∀b,g'.blk=some b->b≠c)->H' c=H c)->(∀x∈g'.bl,H' x.1=some x.2)->Q g'.val H'):
  yA P (Builtin.append_ #[t,xt] rt #[g.val,y]) H Q:=
 aR ht LB ZC QD sX yU jZ hn hb hyl hyf hyn hs fun g' H' h1 h2 h3 h4 h5=> hq g' H' h1 h2 (fun b hb=> (h3 b hb).imp And.left id) h4 h5
theorem Or.I4(k:Nat)(T:Bl->Bl){Y:Bl}(hT:∀B,(T B).Perm (Y++B)){cl:Go.Call}{x y:Operand}{t xt e:TypeId}{s:List UInt8}{g:Gl e 1}{r re rx:wA}(iA:o.op=.call cl)(PB:cl.callee=.builtin .append)(VH:cl.argTypes=#[t,xt])(sJ:cl.args=#[x,y])
  (hx:GA R x=some g.val) (hy:GA R y=some (jA s)) (ht:E.ty t=some r) (LB:r.ds=.slice e) (ZC:E.ty e=some re) (QD:re.size=1) (sX:Nat.beq re.zero.cells.toList.length 1=true) (yU:E.ty xt=some rx) (hex:rx.ds=.str) (jZ:Nat.ble re.bytes 1000=true)
  (hL:L.drop k=T g.bl) (hm:g.n+s.length<=1000000000) (hd:o.dst=some d) (hn:d<n)
  (hk:∀g':Gl e 1,g'.n=g.n+s.length->g'.l=g.l++CA s->K ((d,g'.val)::R) (L.take k++T g'.bl)):Or M n H₀ R L o K:=
 .val hd hn fun H tmps kB hr=> by
  have hLe:L=L.take k++T g.bl:=by rw[<-hL,List.take_append_drop]
  unfold execOp;rw[iA];simp only[resolve,PB,VH,sJ];have pU:Array.map (uB tmps) #[x,y]=#[g.val,jA s]:=by simp[hr.ev hx,hr.ev hy]
  rw[pU];have hp:∀B,((L.take k++Y)++B).Perm (L.take k++T B):=fun B=> by rw[List.append_assoc];exact(List.Perm.refl _).append (hT B).symm
  have yZ:=kB;rw[hLe] at yZ;have NK:eA H₀ ((L.take k++Y)++g.bl) H:=yZ.perm (hp g.bl);refine aA (Builtin.append_ #[t,xt] o.type #[g.val,jA s]) _ ?_;refine rT (new:=CA s) (m:=s.length) ht LB ZC QD (Nat.eq_of_beq_eq_true sX) ⟨rx,yU,hex⟩ (Nat.le_of_ble_eq_true jZ) hm (fun z hz=> NK.at_ z (by simp[hz])) (fun Q hq=> hq) (fun Q hq=> ?_) (by rw[rF,Nat.mul_one]) (dO s) fun g' H' h1 h2 h3 h4 h5=> ?_
  ·have e:((ByteArray.mk ⟨s⟩).extract 0 s.length).data.map (fun b=> Value.int .u8 (b.toNat:Int))=⟨CA s⟩:=by
    rw[EO];simp[CA]
   show Q (((ByteArray.mk ⟨s⟩).extract 0 s.length).data.map (fun b=> Value.int .u8 (b.toNat:Int))) H;rw[e];exact hq
  ·exact⟨_,rfl,_,(NK.grown h3 h4 h5).perm (hp g'.bl).symm,hk g' h1 h2⟩
end
end Go.RL
namespace Go.Proofs.YtgkmnalhddmclaaGreatDoor
open Go.RL Go.Proofs.Tryz
set_option maxRecDepth 10000
set_option maxHeartbeats 8000000
theorem aDS:Xt prog 112 Extern.AbiNoEscape.same:=⟨Tryz.f112,func112,by kernel_rfl,by kernel_rfl,by kernel_rfl,by kernel_rfl⟩
theorem JS:prog.underlying 68=some (.pointer 71):=by kernel_rfl
theorem L1:prog.underlying 196=some .unsafePointer:=by kernel_rfl
theorem aAp:liesAt prog prog.depth 71 (2/prog.cellsOf 71) 0 71 1=true:=by kernel_rfl
section
variable(M:Md prog)(H:View)
def cO(b:Nat)(u:Bool)(g:Gl 5 1):Bl:=(b,true,.cells ⟨[.pointer (if u then some ⟨b,0,none⟩ else none),g.val]⟩ 71 (0,0))::g.bl
theorem lL(H₁:View)(b:Nat)(u:Bool)(g:Gl 5 1)(LD:eA H₁ (cO b u g) H):
  cA M 73 #[.pointer (some ⟨b,0,none⟩)] H (YJ H₁ (fun _:Unit=> .tuple ⟨[]⟩) (fun _=> cO b true g) (fun _=> True)):=by
 cases u with
 | false=>
  refine cA.enter (vs:= [.pointer (some ⟨b,0,none⟩)]) func73 rfl ntmps73 (Nat.le_of_ble_eq_true rfl) (LD) fun St c cs hK=> ?_;refine U6 ?_;refine .x (oA.L0 true rfl rfl rfl JS rfl) ?_;refine U5 ?_;refine .x (oA.aEM (E:=en) 0 rfl rfl rfl JS L1 rfl rfl rfl) ?_;refine .x (oA.entry rfl rfl rfl rfl aDS (fun H Q hq=> hq)) ?_;refine .x (oA.O9 (E:=en) 0 rfl rfl rfl L1 JS rfl aAp) ?_;refine U4 ?_;refine .ov hK func73 results73 [] ?_;exact fun H' hs=> ⟨(),H₁,rfl,View.le_refl _,hs,trivial⟩
 | true=>
  refine cA.enter (vs:= [.pointer (some ⟨b,0,none⟩)]) func73 rfl ntmps73 (Nat.le_of_ble_eq_true rfl) (LD) fun St c cs hK=> ?_;refine U6 ?_;refine .x (oA.L0 false rfl rfl rfl JS rfl) ?_;refine U9 ?_;refine .x (oA.Z6 (E:=en) rfl rfl rfl JS rfl rfl) ?_;refine U3 ?_;refine .ov hK func73 results73 [] ?_;exact fun H' hs=> ⟨(),H₁,rfl,View.le_refl _,hs,trivial⟩
def OT(s:List UInt8)(g g':Gl 5 1):Prop:=g'.n=g.n+s.length/\g'.l=g.l++CA s
theorem cJ(H₁:View)(b:Nat)(u:Bool)(g:Gl 5 1)(s:List UInt8)(hm:g.n+s.length<=1000000)(LD:eA H₁ (cO b u g) H):
  cA M 32 #[.pointer (some ⟨b,0,none⟩),jA s] H (YJ H₁ (fun _:Gl 5 1=> .tuple ⟨[.int .i64 (s.length:Nat),.nilIface]⟩) (fun g'=> cO b true g') (OT s g)):=by
 refine cA.enter (vs:= [.pointer (some ⟨b,0,none⟩),jA s]) func32 rfl ntmps32 (Nat.le_of_ble_eq_true rfl) (LD) fun St c cs hK=> ?_;refine U8 ?_;refine .e (Or.zD 0 (σ:=Unit) (fun _=> .tuple ⟨[]⟩) (fun _=> cO b true g) (fun _=> True) rfl rfl rfl rfl rfl dE (fun H₁ H₂ xU iK=> .h (lL M H₂ H₁ b u g iK)) (fun _ _=> ?_));refine U9 ?_;refine .e (Or.I4 (E:=en) (g:=g) 1 (fun B=> B) (Y:= []) (fun B=> List.Perm.refl _) rfl rfl rfl rfl rfl rfl rfl rfl rfl rfl rfl rfl rfl rfl rfl oM rfl dE (fun g2 CK RJ=> ?_));refine eF ?_;refine .rt hK func32 results32 [_,_] ?_;exact fun H' hs=> ⟨g2,H₁,rfl,View.le_refl _,hs,CK,RJ⟩
theorem zY(H₁:View)(b:Nat)(u:Bool)(g:Gl 5 1)(s:List UInt8)(gB:s≠ [])(uD:g.n=s.length)(ZE:g.l=CA s)(hm:g.n<=1000000)(LD:eA H₁ (cO b u g) H):
  cA M 35 #[.pointer (some ⟨b,0,none⟩)] H (YJ H₁ (fun _:Unit=> jA s) (fun _=> []) (fun _=> True)):=by
 have wU:0<s.length:=List.length_pos_iff.2 gB;obtain⟨gb,gn,gc,gl,gj,h1,h2,h3,h4⟩:=g;simp only at uD ZE hm;subst uD ZE;cases gb with
 | none=> have:=h4 rfl;omega
 | some gb=>
  have hc0:Nat.beq gc 0=false:=by
   cases gc with
   | zero=> omega
   | succ _=> rfl
  have fS:liesAt prog prog.depth 5 ((CA s++gj).length/prog.cellsOf 5) 0 5 s.length=true:=IU _ _ (by rw[List.length_append,rF];omega);have UN:eA H₁ [(b,true,.cells ⟨[.pointer (if u then some ⟨b,0,none⟩ else none),.slice (some ⟨gb,0,none⟩) s.length gc]⟩ 71 (0,0)),(gb,true,.cells ⟨CA s++gj⟩ 5 (0,0))] H:=LD;refine cA.enter (vs:= [.pointer (some ⟨b,0,none⟩)]) func35 rfl ntmps35 (Nat.le_of_ble_eq_true rfl) (UN) fun St c cs hK=> ?_;refine U5 ?_;refine Tc.dr [10] [1] mixed rfl ?_;refine .nw 0 ?_;refine .nw 1 ?_;refine .nw 2 ?_;refine .nw 3 ?_;refine .q 4 rfl (oA.RX rfl rfl rfl rfl rfl hc0) ?_;refine .nw 5 ?_;refine .nw 6 ?_;refine .nw 7 ?_;refine .nw 8 ?_;refine .nn 9 ?_;refine .ea 10 rfl (Or.YX 1 rfl rfl rfl rfl rfl rfl M0 gB oM rfl fS rfl dE ⟨S2.mk sL (.inl kR),?_⟩);refine .nw 11 ?_;refine .dn ?_;refine .rt hK func35 results35 [_] ?_;exact fun H' hs=> ⟨(),H₁,rfl,View.le_refl _,hs.sub (List.nil_sublist _),trivial⟩
end
end Go.Proofs.YtgkmnalhddmclaaGreatDoor
namespace Go.RL
open Go.Conc
section
variable {P:Program}{E:Env P}{M:Md P}{n:Nat}{H₀:View}{R:Rg}{L:Bl}{K:Rg->Bl->Prop}{o:Oper}{d:Nat}
end
end Go.RL
namespace Go.Proofs.YtgkmnalhddmclaaGreatDoor
open Go.RL Go.Proofs.Tryz
set_option maxRecDepth 10000
set_option maxHeartbeats 8000000
def wE(y:UInt8):List (List UInt8)->List UInt8
 | []=> []
 | p::l=> p++l.flatMap fun q=> y::q
def GH(l:List (List UInt8)):Nat:=(l.map List.length).sum
theorem UX {l:List (List UInt8)}{i:Nat}{p:List UInt8}(h:l[i]? =some p):GH (l.take (i+1))=GH (l.take i)+p.length:=by
 obtain⟨hi,rfl⟩:=List.getElem?_eq_some_iff.1 h;unfold GH;rw[List.take_succ_eq_append_getElem hi,List.map_append,List.sum_append];simp
theorem F7(l:List (List UInt8))(i:Nat):GH (l.take i)<=GH l:=by
 have h:GH l=GH (l.take i)+GH (l.drop i):=by
  unfold GH;rw[<-List.sum_append,<-List.map_append,List.take_append_drop]
 omega
theorem QR(y:UInt8):∀l:List (List UInt8),(l.flatMap fun q=> y::q).length=l.length+GH l
 | []=> rfl
 | p::l=> by
  have ih:=QR y l;rw[List.flatMap_cons,List.length_append,ih];unfold GH;simp only[List.length_cons,List.map_cons,List.sum_cons];omega
theorem uX(y:UInt8)(p:List UInt8)(l:List (List UInt8)):(wE y (p::l)).length=l.length+GH (p::l):=by
 show(p++l.flatMap fun q=> y::q).length=_;rw[List.length_append,QR];unfold GH;simp only[List.map_cons,List.sum_cons];omega
section
variable(M:Md prog)(H:View)
theorem dL(x lo hi:Int)(t:Bool)(ht:decide (lo<=x/\x<=hi)=t):cA M 85 #[.int .i64 x,.int .i64 lo,.int .i64 hi] H (fun v H'=> H.le H'/\v=.bool t):=by
 rw[<-ht];refine .en func85 ntmps85 fun St c cs hK=> ?_;by_cases c1:lo<=x
 all_goals by_cases c2:x<=hi
 all_goals
  refine U8 ?_;refine .i ?_ (z:=by first|exact QM oM|exact PM oM);refine U ?_;first|(refine .sk ?_)|(refine .m ?_)
  first|(refine .sk ?_)|(refine .m ?_)
  first|(refine .sk ?_)|(refine .x (.it (zz:=(by first|exact DG oM|exact VF oM))) ?_)
  refine U3 ?_;refine .rt hK func85 results85 [_] ?_;exact fun H' hs=> ⟨hs.base,by simp[TC,c1,c2]⟩
theorem tF(x:UInt8)(t:Bool)(ht:KD x=t):cA M 204 #[.int .u8 (x.toNat:Nat)] H (fun v H'=> H.le H'/\v=.bool t):=by
 have e:KD x=decide (48<=x.toNat/\x.toNat<=57):=by unfold KD;exact decide_eq_decide.2 oM
 rw[<-ht,e];refine .en func204 ntmps204 fun St c cs hK=> ?_;by_cases c1:48<=x.toNat
 all_goals by_cases c2:x.toNat<=57
 all_goals try omega
 all_goals
  refine U7 ?_;refine .i ?_ (z:=by first|exact QM oM|exact PM oM);refine U ?_;first|(refine .sk ?_)|(refine .m ?_)
  first|(refine .sk ?_)|(refine .x (.it (zz:=(by first|exact DG oM|exact VF oM))) ?_)
  refine U3 ?_;refine .rt hK func204 results204 [_] ?_;exact fun H' hs=> ⟨hs.base,by simp[TC,c1,c2]⟩
end
end Go.Proofs.YtgkmnalhddmclaaGreatDoor
namespace Go.RL
open Go.Conc
section
variable {P:Program}{M:Md P}{md:Region.Mode}{ops:Array Oper}{S:Array Bool->View->Prop}{Fin:Array Value->View->Prop}{z:Nat}
end
section
variable {P:Program}{M:Md P}{St:View->Goroutine->Prop}{n:Nat}{b:FB}{H₀:View}{cs:List Frame}{R:Rg}{L L':Bl}{ds:List Deferred}{k:List Item}{S:Array Bool->View->Prop}{md:Region.Mode}{ops:Array Oper}{z:Nat}
end
section
variable {P:Program}{M:Md P}{St:View->Goroutine->Prop}{n:Nat}{b:FB}{H₀:View}{cs:List Frame}{R:Rg}{L:Bl}{ds:List Deferred}{k:List Item}{md:Region.Mode}{ops:Array Oper}
theorem Ta.F9(i j:Nat){B:List Nat}{Hs:View}{Ls Lb:Bl}{o:Oper}{d:Nat}{fuel:Nat}{listed:Array Bool}{cl:Go.Call}{x:Operand}{fv:Value}{az:List Value}(hr:Region.ready md ops listed= [i,j])(hi:ops[i]? =some o)
  (hw:JA (ops.toList.map (fun o:Oper=> o.dst)) R o=some true) (iA:o.op=.call cl) (PB:cl.callee=.value x) (hx:GA R x=some fv) (has:aE R cl.args.toList=some az) (hd:o.dst=some d) (hn:d<n)
  {Q:Value->View->Prop} (hc:UC M fv az H₀ Q) (hle:∀v H₁,Q v H₁->Hs.le H₁) (h1:Ls.Sublist L) (h2:(B.all fun j=> !((listed.setIfInBounds i true).getD j true))=false\/Lb.Sublist L)
  (hk:∀v H₁,Q v H₁->Ta M St n b H₁ cs (S2 Hs B Ls Lb) md ops fuel (listed.setIfInBounds i true) ((d,v)::R) L ds k)
  (hj:yG M St n b H₀ cs (S2 Hs B Ls Lb) md ops fuel listed R L ds k j):
  Ta M St n b H₀ cs (S2 Hs B Ls Lb) md ops (fuel+1) listed R L ds k:=fun H tmps hs vE _ H₂ B8 _=> by
 have hs:=hs.mono B8;refine⟨fun e=> (by rw[hr] at e;cases e),fun j' OO o' oO=> ?_⟩;rw[hr] at OO;have SM:j'=i\/j'=j:=by simpa using OO
 rcases SM with rfl|rfl
 ·rw[hi] at oO;cases oO
  refine⟨(by rw[iA];rfl),?_⟩;have VN:Region.wanted o (yielded ops tmps)=true:=jB (fun j=> by
   simp only[List.getElem?_map,Array.getElem?_toList];cases ops[j]? <;> rfl) vE hw
  rw[if_pos VN];obtain⟨F,rfl,RN,hF⟩:=hs.split;have e1:=vE.ev hx;have KF:cl.args.map (uB tmps)=az.toArray:=by
   apply Array.ext'
   simpa using vE.evs has
  have hex:execOp (uB tmps) o=(Deferred.ofValue fv az.toArray).bind fun d=> invoke d.target d.args:=by
   have h1:execOp (uB tmps) o=(resolve (uB tmps) cl o.type).bind fun d=> invoke d.target d.args:=by unfold execOp;rw[iA];rfl
   rw[h1];unfold resolve;rw[PB];simp only[e1,KF]
  unfold dF;rw[hex];have fin:∀v H'',eG F Q v H''->S2 Hs B Ls Lb (listed.setIfInBounds j' true) H''/\LH M md ops (S2 Hs B Ls Lb) (fun tmps H=> T M St H (G (b.at tmps ds k) cs)) fuel (listed.setIfInBounds j' true) (KB tmps o.dst v) H'':=by
   rintro v H'' ⟨H₁,rfl,RI,hq⟩;have hsy:eA H₁ L (H₁.plus F):=.OK hs.nodup hF RI;have hS:S2 Hs B Ls Lb (listed.setIfInBounds j' true) (H₁.plus F):=S2.mkL (hle v H₁ hq) h1 h2 _ hsy;refine⟨hS,?_⟩;rw[hd];exact hk v H₁ hq _ _ hsy (vE.put hn v) hS
  refine MA _ (fun nx H' tQ=> ?_) (hc.frame RN);cases nx <;> first
   | exact tQ.elim
   | exact cA.mono tQ fin
   | exact IL.mono tQ fin
 ·obtain⟨o2,K2,hd2,hw2,h'⟩:=hj;rw[oO] at K2;cases K2
  refine⟨hd2,?_⟩;have VN:Region.wanted o' (yielded ops tmps)=true:=jB (fun j=> by
   simp only[List.getElem?_map,Array.getElem?_toList];cases ops[j]? <;> rfl) vE hw2
  rw[if_pos VN];refine(h' H₂ tmps hs vE).mono ?_;rintro t H' ⟨R',L',h1,h2,h3,h4⟩;exact⟨h3 H' h2,h4 H' t h2 h1 (h3 H' h2)⟩
theorem Tc.aEN {x:Item}(F:View->Rg->Bl->Prop)(hF:∀H R L,F H R L->Tc M St n b H cs R L ds k)(h:(∀H R L,F H R L->Tc M St n b H cs R L ds k)->Tc M St n b H₀ cs R L ds (x::k)):Tc M St n b H₀ cs R L ds (x::k):=h hF
end
end Go.RL
namespace Go.Proofs.YtgkmnalhddmclaaGreatDoor
open Go.RL Go.Proofs.Tryz
set_option maxRecDepth 10000
set_option maxHeartbeats 8000000
abbrev Ex:=Nat×Nat×List Value
def exV(n:Nat)(x:Ex):Value:=.slice (some ⟨x.1,0,none⟩) n x.2.1
def exB(e:TypeId)(l:List Value)(x:Ex):Bl:= [(x.1,true,.cells ⟨l++x.2.2⟩ e (0,0))]
theorem RV {e:TypeId}{sz:Nat}(g:Gl e sz)(h:0<g.n):∃x:Ex,g.val=exV g.n x/\g.bl=exB e g.l x:=by
 obtain⟨gb,gn,gc,gl,gj,h1,h2,h3,h4⟩:=g;cases gb with
 | none=> have:=h4 rfl;simp only at h;omega
 | some b=> exact⟨(b,gc,gj),rfl,rfl⟩
def LG(l:List (List UInt8)):List UInt8:=wE 59 l++[10]
def Two(z:Int):Prop:=0<=z/\z<100
theorem lS(y:UInt8)(l:List (List UInt8)):(wE y l).length<=l.length+GH l:=by
 cases l with
 | nil=> simp[wE]
 | cons p l=> rw[uX];simp only[List.length_cons];omega
end Go.Proofs.YtgkmnalhddmclaaGreatDoor
namespace Go.RL
open Go.Conc
def oY {P:Program}(M:Md P)(g:FuncId)(args:Array Value)(H:View)(Q:View->Prop):Prop:=
 ∀(St:View->Goroutine->Prop) (b:FB) (tmps:Array Value) (ds:List Deferred) (todo:List Item) (cs:List Frame),(∀H',Q H'->T M St H' (G (b.back tmps ds todo) cs))->T M St H (G (Frame.enter P g args .deferred) (b.back tmps ds todo::cs))
def Y1(g:FuncId)(args captured:Array Value):Deferred:= { target:=.fn (.func g) captured,args }
section
variable {P:Program}{E:Env P}{M:Md P}{St:View->Goroutine->Prop}{n:Nat}{b:FB}{H₀:View}{cs:List Frame}{R:Rg}{L L₁:Bl}{ds:List Deferred}{k:List Item}
theorem T.XW {H:View}{tmps:Array Value}{todo:List Item}{g:FuncId}{args captured:Array Value}(hg:rA P g=true)
  (h:T M St H (G (Frame.enter P g (args++captured) .deferred) (b.back tmps ds todo::cs))):T M St H (G (b.back tmps (Y1 g args captured::ds) todo) cs):=by
 refine .step ⟨rfl,fun w hs _=> ?_⟩;obtain⟨v,H',w',es,h1,h2,h3⟩:=yB (callFunc g (args++captured)) #[] hs (mE (Q:=fun nx H'=> nx=.enter g (args++captured)/\H'=H) hg ⟨rfl,rfl⟩);obtain⟨rfl,rfl⟩:=h3;rw[Array.empty_append] at h1;refine⟨_,w',seen P b.fn es,H',?_,h2.sub fun e he=> mem_seen he,h⟩;have e:stepG P M.main (G (b.back tmps (Y1 g args captured::ds) todo) cs) w=unwind P M.main (b.back tmps (Y1 g args captured::ds) todo) cs Option.none w:=by
  simp[G,stepG,FB.back]
 rw[e];unfold unwind;simp only[FB.back,Y1];have hi:invoke (.fn (.func g) captured) args=callFunc g (args++captured):=by
  unfold invoke;rfl
 unfold callDeferred;rw[if_neg (by simp),hi];simp only[h1];rfl
theorem T.JZ {fn:Func}{H:View}{b₀:FB}{tmps tmps₀:Array Value}{ds₀:List Deferred}{todo todo₀:List Item}(hf:P.funcs[b.fn]? =some fn)(hk:b.kind=.deferred)
  (h:yA P (results fn tmps) H fun _ H'=> T M St H' (G (b₀.back tmps₀ ds₀ todo₀) cs)):T M St H (G (b.back tmps [] todo) (b₀.back tmps₀ ds₀ todo₀::cs)):=by
 refine .step ⟨rfl,fun w hs _=> ?_⟩;obtain⟨v,H',w',es,h1,h2,h3⟩:=yB _ #[] hs h;rw[Array.empty_append] at h1;refine⟨_,w',seen P b.fn es,H',?_,h2.sub fun e he=> mem_seen he,h3⟩;have:stepG P M.main (G (b.back tmps [] todo) (b₀.back tmps₀ ds₀ todo₀::cs)) w=unwind P M.main (b.back tmps [] todo) (b₀.back tmps₀ ds₀ todo₀::cs) Option.none w:=by
  simp[G,stepG,FB.back]
 rw[this];unfold unwind;simp only[FB.back,hf,h1,doReturn,hk,GStep.after,G,Array.append_empty]
theorem To.WU {dl:List (Option Tmp)}{l:List Oper}{o:Oper}{d:Nat}{cl:Go.Call}{g:FuncId}{b₀:FB}{tmps₀:Array Value}{ds₀:List Deferred}{todo₀:List Item}(iA:o.op=.call cl)(PB:cl.callee=.builtin .recover)(hw:JA dl R o=some true)(hd:o.dst=some d)(hn:d<n)
  (h:To M St n ⟨g,.deferred,none⟩ H₀ (b₀.back tmps₀ ds₀ todo₀::cs) dl ((d,.nilIface)::R) L ds l k):To M St n ⟨g,.deferred,none⟩ H₀ (b₀.back tmps₀ ds₀ todo₀::cs) dl R L ds (o::l) k:=fun arr ix ha hx=> by
 cases ix with
 | nil=> simp at hx
 | cons i r=>
  simp only[List.map_cons,List.cons.injEq] at hx;intro H tmps hs hr;have hwd:=jB ha hr hw;have hf:=FB.finish_at (⟨g,.deferred,none⟩:FB) tmps ds arr i r k .nilIface;rw[hx.1] at hf;simp only[Option.bind_some,hd] at hf;refine .step ⟨rfl,fun w p6 _=> ⟨_,w,#[],H,?_,.refl p6,h arr r ha hx.2 H _ hs (hr.put hn .nilIface)⟩⟩;have hex:execOp (uB tmps) o=Sem.pure .recover:=by
   unfold execOp;rw[iA];unfold resolve;simp only[PB];rfl
  have fU:((⟨g,.deferred,none⟩:FB).at tmps ds (.inRegion arr (i::r)::k)).eval=uB tmps:=FB.eval_at _ _ _ _;have h1:stepG P M.main (G ((⟨g,.deferred,none⟩:FB).at tmps ds (.inRegion arr (i::r)::k)) (b₀.back tmps₀ ds₀ todo₀::cs)) w=stepG.apply P true ((⟨g,.deferred,none⟩:FB).at tmps ds (.inRegion arr (i::r)::k)) (b₀.back tmps₀ ds₀ todo₀::cs) Option.none (execOp ((⟨g,.deferred,none⟩:FB).at tmps ds (.inRegion arr (i::r)::k)).eval o) w:=by
   simp[G,stepG,stepG.exec,stepG.oper,Frame.oper?,FB.at,hx.1,hwd,iA]
  rw[h1,fU,hex];unfold stepG.apply;rw[if_pos rfl];have uZ:(Sem.pure Next.recover:Sem Next).runT P w #[]=(.ok .recover w,#[]):=rfl;simp only[uZ];show GStep.after (seen P g #[]) (GStep.go (G (((⟨g,.deferred,none⟩:FB).at tmps ds (.inRegion arr (i::r)::k)).finish .nilIface) (b₀.back tmps₀ ds₀ todo₀::cs)) w)=_;rw[hf];rfl
def Tb {P:Program}(M:Md P)(St:View->Goroutine->Prop)(n:Nat)(b:FB)(H₀:View)(cs:List Frame)(R:Rg)(L:Bl)(ds:List Deferred):Prop:=
 ∀H tmps todo,eA H₀ L H->PA n R tmps->T M St H (G (b.back tmps ds todo) cs)
theorem Tc.D1(hr:b.rd=none)(h:Tb M St n b H₀ cs R L ds):Tc M St n b H₀ cs R L ds (.code .ret::k):=fun H tmps hs pX=> .kC hr (h H tmps _ hs pX)
theorem Tb.mark {i r:Nat}(hi:L[i]? =some (r,true,.deferred (some [])))(h:Tb M St n b H₀ cs R (L.set i (r,true,.deferred none)) ds):Tb M St n b H₀ cs R L (jD r::ds):=fun _ tmps todo hs hr=> .collect (by
 have hd:=hs.get hi;refine⟨true,_,hd,by simp,rfl,?_⟩;refine⟨⟨_,hd,by simp⟩,rfl,?_⟩;exact h _ tmps todo (hs.set hi (true,.deferred none)) hr)
theorem Tb.call {g:FuncId}{args captured:Array Value}(hg:rA P g=true)(hc:∀H,eA H₀ L H->oY M g (args++captured) H fun H'=> H.le H')(h:Tb M St n b H₀ cs R L ds):Tb M St n b H₀ cs R L (Y1 g args captured::ds):=
 fun H tmps todo hs hr=> .XW hg (hc H hs St b tmps ds todo cs fun H' hle=> h H' tmps todo (hs.mono hle) hr)
theorem Tb.leave {fn:Func}{c:Frame}{Q:Value->View->Prop}{f:FuncId}{rv:List ResultVar}{vs:List Value}(hK:∀v H',Q v H'->T M St H' (G (c.finish v) cs))(hf:P.funcs[f]? =some fn)(TN:fn.results=rv.toArray)
  (ho:OH E R L rv vs) (h:∀H',eA H₀ L H'->Q (TC vs) H'):Tb M St n ⟨f,.normal,none⟩ H₀ (c::cs) R L []:=fun _ _ _ hs hr=>
 .leave hf rfl (MA _ hK (nD hs hr TN ho (h _ hs)))
theorem To.defer {dl:List (Option Tmp)}{l:List Oper}{o:Oper}{cl:Go.Call}{x:Operand}{g:FuncId}{az first captured:List Value}(iA:o.op=.defer cl)(PB:cl.callee=.value x)(hx:GA R x=some (.func (.func g) first.toArray captured.toArray))(has:aE R cl.args.toList=some az)(MK:b.rd=none)
  (hw:JA dl R o=some true) (hd:o.dst=none) (h:To M St n b H₀ cs dl R L (Y1 g (first++az).toArray captured.toArray::ds) l k):To M St n b H₀ cs dl R L ds (o::l) k:=fun arr ix ha EH=> by
 cases ix with
 | nil=> simp at EH
 | cons i r=>
  simp only[List.map_cons,List.cons.injEq] at EH;intro H tmps hs hr;have e1:=hr.ev hx;have KF:cl.args.map (uB tmps)=az.toArray:=by
   apply Array.ext'
   simpa using hr.evs has
  refine .op EH.1 (jB ha hr hw) (.inl MK) ?_;have hex:execOp (uB tmps) o=(resolve (uB tmps) cl o.type).bind fun d=> Sem.pure (.defer d):=by unfold execOp;rw[iA];rfl
  rw[hex];have vQ:resolve (uB tmps) cl o.type=Deferred.ofValue (.func (.func g) first.toArray captured.toArray) az.toArray:=by
   unfold resolve;rw[PB];simp only[e1,KF]
  rw[vQ];simp only[Deferred.ofValue];show T M St H (G (b.at (KB tmps o.dst undef) ({ target:=.fn (.func g) captured.toArray,args:=first.toArray++az.toArray }::ds) (.inRegion arr r::k)) cs);rw[hd,show first.toArray++az.toArray=(first++az).toArray by simp];exact h arr r ha EH.2 H _ hs hr
theorem oY.enter {f:FuncId}{fn:Func}{body:Code}{vs:List Value}{H:View}{Q:View->Prop}(hf:P.funcs[f]? =some fn)(hb:fn.body=some body)(hn:fn.ntmps=n)(hv:vs.length<=n)(hs:eA H₀ L H)
  (h:∀St b₀ tmps₀ ds₀ todo₀ cs,(∀H',Q H'->T M St H' (G ((b₀:FB).back tmps₀ ds₀ todo₀) cs))->Tc M St n ⟨f,.deferred,none⟩ H₀ (b₀.back tmps₀ ds₀ todo₀::cs) (lJ vs) L [] [.code body]):oY M f vs.toArray H Q:=fun St b₀ tmps₀ ds₀ todo₀ cs hk=> by
 have:=h St b₀ tmps₀ ds₀ todo₀ cs hk H (vs.toArray++Array.replicate (n-vs.length) undef) hs ⟨by simp;omega,fun d v hd=> ?_⟩
 ·have e:Frame.enter P f vs.toArray .deferred=(⟨f,.deferred,none⟩:FB).at (vs.toArray++Array.replicate (n-vs.length) undef) [] [.code body]:=by
   simp[Frame.enter,FB.at,hf,hb,hn]
  rw[e];exact this
 ·obtain⟨_,h2⟩:=iF vs 0 d v hd;simp only[Nat.sub_zero] at h2;have mB:=(List.getElem?_eq_some_iff.1 h2).1;rw[Array.getElem?_append_left (by simpa using mB)];simpa using h2
theorem Tc.Q6(E:Env P){fn:Func}{Q:View->Prop}{f:FuncId}{b₀:FB}{tmps₀:Array Value}{ds₀:List Deferred}{todo₀:List Item}(hK:∀H',Q H'->T M St H' (G (b₀.back tmps₀ ds₀ todo₀) cs))(hf:P.funcs[f]? =some fn)(TN:fn.results=([]:List ResultVar).toArray)
  (h:∀H',eA H₀ L H'->Q H'):Tc M St n ⟨f,.deferred,none⟩ H₀ (b₀.back tmps₀ ds₀ todo₀::cs) R L [] []:=fun H _ hs hr=>
 .over rfl (.JZ hf rfl (nD (E:=E) (rs:= []) (vs:= []) hs hr TN trivial (hK H (h H hs))))
end
def raised(v:Value):List PanicEntry:= [{ v,recovered:=false }]
def FB.TJ(b:FB)(tmps:Array Value)(ds:List Deferred)(todo:List Item)(es:List PanicEntry):Frame:=
 { fn:=b.fn,tmps,todo,defers:=ds,mode:=.panicking es,kind:=b.kind,roundOf:=b.rd }
def o9 {P:Program}(M:Md P)(fr:Frame)(H:View)(v:Value)(X:View->Prop):Prop:=
 ∀(St:View->Goroutine->Prop) (c:Frame) (cs:List Frame),(∀H',X H'->T M St H' (G (c.raise (raised v)) cs))->T M St H (G fr (c::cs))
def NH {P:Program}(M:Md P)(f:FuncId)(args:Array Value)(H:View)(v:Value)(X:View->Prop):Prop:=o9 M (Frame.enter P f args .normal) H v X
def yH {P:Program}(M:Md P)(fv:Value)(az:List Value)(H:View)(v:Value)(X:View->Prop):Prop:=
 yA P ((Deferred.ofValue fv az.toArray).bind fun d=> invoke d.target d.args) H fun nx H'=>
  match nx with
  | .enter f args=> NH M f args H' v X
  | .round l f tmps assign body=> o9 M (Frame.round l f tmps assign body .normal) H' v X
  | _=> False
section
variable {P:Program}{E:Env P}{M:Md P}{St:View->Goroutine->Prop}{n:Nat}{b:FB}{H₀:View}{cs:List Frame}{R:Rg}{L:Bl}{ds:List Deferred}{k:List Item}{v:Value}{X:View->Prop}
theorem yH.of {g:FuncId}{az first captured:List Value}{as':Array Value}{H:View}(hg:rA P g=true)(zA:(first++az++captured).toArray=as')(h:NH M g as' H v X):yH M (.func (.func g) first.toArray captured.toArray) az H v X:=by
 unfold yH;simp only[Deferred.ofValue];show yA P (callFunc g (first.toArray++az.toArray++captured.toArray)) H _;have e3:first.toArray++az.toArray++captured.toArray=as':=by rw[<-zA];simp
 rw[e3];exact mE hg h
theorem T.vP {fn:Func}{c:Frame}{H:View}{tmps:Array Value}{todo:List Item}{es:List PanicEntry}(hf:P.funcs[b.fn]? =some fn)(h:T M St H (G (c.raise es) cs)):T M St H (G (b.TJ tmps [] todo es) (c::cs)):=by
 refine .OC rfl (fun w=> ?_) h;have e:stepG P M.main (G (b.TJ tmps [] todo es) (c::cs)) w=unwind P M.main (b.TJ tmps [] todo es) (c::cs) Option.none w:=by
  simp[G,stepG,FB.TJ]
 rw[e];unfold unwind;have hc:(b.TJ tmps [] todo es).catches P=false:=by
  unfold Frame.catches;simp only[FB.TJ,hf]
 exact(if_neg (fun h1=> Bool.false_ne_true (hc.symm.trans h1))).trans rfl
theorem T.O4 {ops:Array Oper}{i:Nat}{rest:List Nat}{o:Oper}{tmps:Array Value}{H:View}(ho:ops[i]? =some o)(hw:Region.wanted o (yielded ops tmps)=true)(hd:AA o.op=false)
  (h:yA P (execOp (uB tmps) o) H fun nx H'=> match nx with | .enter f args=> NH M f args H' v X | .round l f t a bd=> o9 M (Frame.round l f t a bd .normal) H' v X|_=> False)
  (hE:∀H',X H'->T M St H' (G (b.TJ tmps ds (.inRegion ops (i::rest)::k) (raised v)) cs)):T M St H (G (b.at tmps ds (.inRegion ops (i::rest)::k)) cs):=by
 refine .op ho hw (.inr fun c e=> by rw[e] at hd;cases hd) (MA _ (fun nx H' hn=> ?_) h);cases nx <;> first
  | exact hn.elim
  | exact hn St _ cs hE
theorem To.lM {dl:List (Option Tmp)}{l:List Oper}{o:Oper}{x:Operand}{t:TypeId}{u:Value}{fn:Func}{c:Frame}(hw:JA dl R o=some true)(iA:o.op=.panic x)(hx:GA R x=some (.iface t u))(hf:P.funcs[b.fn]? =some fn)
  (hP:∀H',H₀.le H'->T M St H' (G (c.raise (raised (.iface t u))) cs)):To M St n b H₀ (c::cs) dl R L [] (o::l) k:=fun arr ix ha EH=> by
 cases ix with
 | nil=> simp at EH
 | cons i r=>
  simp only[List.map_cons,List.cons.injEq] at EH;intro H tmps hs hr;have e1:=hr.ev hx;have hwd:=jB ha hr hw;refine .OC rfl (fun w=> ?_) (.vP (b:=b) (tmps:=tmps) (todo:=.inRegion arr (i::r)::k) hf (hP H hs.base));have fU:(b.at tmps [] (.inRegion arr (i::r)::k)).eval=uB tmps:=FB.eval_at _ _ _ _;have h1:stepG P M.main (G (b.at tmps [] (.inRegion arr (i::r)::k)) (c::cs)) w=stepG.apply P true (b.at tmps [] (.inRegion arr (i::r)::k)) (c::cs) Option.none (execOp (b.at tmps [] (.inRegion arr (i::r)::k)).eval o) w:=by
   cases MK:b.rd <;> simp[G,stepG,stepG.exec,stepG.oper,Frame.oper?,FB.at,EH.1,hwd,iA,MK]
  rw[h1,fU];have hex:execOp (uB tmps) o=(goPanic (.iface t u):Sem Value).bind fun z=> Sem.pure (.value z):=by
   unfold execOp;rw[iA];simp only[e1];rfl
  rw[hex];unfold stepG.apply;rw[if_pos rfl];have uZ:(((goPanic (.iface t u):Sem Value).bind fun z=> Sem.pure (Next.value z)):Sem Next).runT P w #[]=(.halt (.panic (.iface t u)) w,#[]):=rfl;simp only[uZ,ite_self];rfl
theorem NH.enter {f:FuncId}{fn:Func}{body:Code}{vs:List Value}{H:View}(hf:P.funcs[f]? =some fn)(hb:fn.body=some body)(hn:fn.ntmps=n)(hv:vs.length<=n)
  (h:∀St c cs,(∀H',X H'->T M St H' (G ((c:Frame).raise (raised v)) cs))->Tc M St n ⟨f,.normal,none⟩ H (c::cs) (lJ vs) [] [] [.code body]):NH M f vs.toArray H v X:=fun St c cs hk=> by
 have:=h St c cs hk H (vs.toArray++Array.replicate (n-vs.length) undef) (.nil H) ⟨by simp;omega,fun d v hd=> ?_⟩
 ·have e:Frame.enter P f vs.toArray .normal=(⟨f,.normal,none⟩:FB).at (vs.toArray++Array.replicate (n-vs.length) undef) [] [.code body]:=by
   simp[Frame.enter,FB.at,hf,hb,hn]
  rw[e];exact this
 ·obtain⟨_,h2⟩:=iF vs 0 d v hd;simp only[Nat.sub_zero] at h2;have mB:=(List.getElem?_eq_some_iff.1 h2).1;rw[Array.getElem?_append_left (by simpa using mB)];simpa using h2
def nY {P:Program}(M:Md P)(g:FuncId)(args:Array Value)(H:View)(v:Value)(Q:View->Prop):Prop:=
 ∀(St:View->Goroutine->Prop) (b:FB) (tmps:Array Value) (ds:List Deferred) (todo:List Item) (cs:List Frame),(∀H',Q H'->T M St H' (G (b.back tmps ds todo) cs))->T M St H (G (Frame.enter P g args .deferred) (b.TJ tmps ds todo (raised v)::cs))
def JH {P:Program}(M:Md P)(St:View->Goroutine->Prop)(n:Nat)(b:FB)(H₀:View)(cs:List Frame)(R:Rg)(L:Bl)(ds:List Deferred)(v:Value):Prop:=
 ∀H tmps todo,eA H₀ L H->PA n R tmps->T M St H (G (b.TJ tmps ds todo (raised v)) cs)
def again(v:Value):List PanicEntry:= [{ v,recovered:=true }]
theorem JH.mark {i r:Nat}(hi:L[i]? =some (r,true,.deferred (some [])))(h:JH M St n b H₀ cs R (L.set i (r,true,.deferred none)) ds v):JH M St n b H₀ cs R L (jD r::ds) v:=fun H tmps todo hs hr=> by
 have hd:=hs.get hi;have hv:yA P (Instr.takeDeferred r) H fun calls H'=> calls= []/\eA H₀ (L.set i (r,true,.deferred none)) H':=by
  refine⟨true,_,hd,by simp,rfl,?_⟩;refine⟨⟨_,hd,by simp⟩,rfl,?_⟩;exact⟨rfl,hs.set hi (true,.deferred none)⟩
 refine .step ⟨rfl,fun w p6 _=> ?_⟩;obtain⟨calls,H',w',es,h1,h2,rfl,h3⟩:=yB _ #[] p6 hv;rw[Array.empty_append] at h1;refine⟨_,w',seen P b.fn es,H',?_,h2.sub fun e he=> mem_seen he,h H' tmps todo h3 hr⟩;have e:stepG P M.main (G (b.TJ tmps (jD r::ds) todo (raised v)) cs) w=unwind P M.main (b.TJ tmps (jD r::ds) todo (raised v)) cs Option.none w:=by
  simp[G,stepG,FB.TJ]
 rw[e];unfold unwind;simp only[FB.TJ,jD,h1,GStep.after,G,Array.append_empty,List.nil_append]
theorem JH.call {g:FuncId}{args captured:Array Value}{L':Bl}(hg:rA P g=true)(hc:∀H,eA H₀ L H->nY M g (args++captured) H v fun H'=> eA H₀ L' H')(h:Tb M St n b H₀ cs R L' ds):JH M St n b H₀ cs R L (Y1 g args captured::ds) v:=fun H tmps todo hs hr=> by
 have hq:=hc H hs St b tmps ds todo cs fun H' h'=> h H' tmps todo h' hr;refine .step ⟨rfl,fun w p6 _=> ?_⟩;obtain⟨nx,H',w',es,h1,h2,h3⟩:=yB (callFunc g (args++captured)) #[] p6 (mE (Q:=fun nx H'=> nx=.enter g (args++captured)/\H'=H) hg ⟨rfl,rfl⟩);obtain⟨rfl,rfl⟩:=h3;rw[Array.empty_append] at h1;refine⟨_,w',seen P b.fn es,H',?_,h2.sub fun e he=> mem_seen he,hq⟩;have e:stepG P M.main (G (b.TJ tmps (Y1 g args captured::ds) todo (raised v)) cs) w=unwind P M.main (b.TJ tmps (Y1 g args captured::ds) todo (raised v)) cs Option.none w:=by
  simp[G,stepG,FB.TJ]
 rw[e];unfold unwind;simp only[FB.TJ,Y1];have hi:invoke (.fn (.func g) captured) args=callFunc g (args++captured):=by
  unfold invoke;rfl
 unfold callDeferred;rw[if_neg (by simp),hi];simp only[h1];rfl
theorem To.XU {dl:List (Option Tmp)}{l:List Oper}{o:Oper}{d:Nat}{cl:Go.Call}{g:FuncId}{b₀:FB}{tmps₀:Array Value}{ds₀:List Deferred}{todo₀:List Item}(iA:o.op=.call cl)(PB:cl.callee=.builtin .recover)(hw:JA dl R o=some true)(hd:o.dst=some d)(hn:d<n)
  (h:To M St n ⟨g,.deferred,none⟩ H₀ (b₀.TJ tmps₀ ds₀ todo₀ (again v)::cs) dl ((d,v)::R) L ds l k):To M St n ⟨g,.deferred,none⟩ H₀ (b₀.TJ tmps₀ ds₀ todo₀ (raised v)::cs) dl R L ds (o::l) k:=fun arr ix ha hx=> by
 cases ix with
 | nil=> simp at hx
 | cons i r=>
  simp only[List.map_cons,List.cons.injEq] at hx;intro H tmps hs hr;have hwd:=jB ha hr hw;have hf:=FB.finish_at (⟨g,.deferred,none⟩:FB) tmps ds arr i r k v;rw[hx.1] at hf;simp only[Option.bind_some,hd] at hf;refine .step ⟨rfl,fun w p6 _=> ⟨_,w,#[],H,?_,.refl p6,h arr r ha hx.2 H _ hs (hr.put hn v)⟩⟩;have hex:execOp (uB tmps) o=Sem.pure .recover:=by
   unfold execOp;rw[iA];unfold resolve;simp only[PB];rfl
  have fU:((⟨g,.deferred,none⟩:FB).at tmps ds (.inRegion arr (i::r)::k)).eval=uB tmps:=FB.eval_at _ _ _ _;have h1:stepG P M.main (G ((⟨g,.deferred,none⟩:FB).at tmps ds (.inRegion arr (i::r)::k)) (b₀.TJ tmps₀ ds₀ todo₀ (raised v)::cs)) w=stepG.apply P true ((⟨g,.deferred,none⟩:FB).at tmps ds (.inRegion arr (i::r)::k)) (b₀.TJ tmps₀ ds₀ todo₀ (raised v)::cs) Option.none (execOp ((⟨g,.deferred,none⟩:FB).at tmps ds (.inRegion arr (i::r)::k)).eval o) w:=by
   simp[G,stepG,stepG.exec,stepG.oper,Frame.oper?,FB.at,hx.1,hwd,iA]
  rw[h1,fU,hex];unfold stepG.apply;rw[if_pos rfl];have uZ:(Sem.pure Next.recover:Sem Next).runT P w #[]=(.ok .recover w,#[]):=rfl;simp only[uZ];show GStep.after (seen P g #[]) (GStep.go (G (((⟨g,.deferred,none⟩:FB).at tmps ds (.inRegion arr (i::r)::k)).finish v) (b₀.TJ tmps₀ ds₀ todo₀ (again v)::cs)) w)=_;rw[hf];rfl
theorem nY.enter {f:FuncId}{fn:Func}{body:Code}{vs:List Value}{H:View}{Q:View->Prop}(hf:P.funcs[f]? =some fn)(hb:fn.body=some body)(hn:fn.ntmps=n)(hv:vs.length<=n)(hs:eA H₀ L H)
  (h:∀St b₀ tmps₀ ds₀ todo₀ cs,(∀H',Q H'->T M St H' (G ((b₀:FB).back tmps₀ ds₀ todo₀) cs))->Tc M St n ⟨f,.deferred,none⟩ H₀ (b₀.TJ tmps₀ ds₀ todo₀ (raised v)::cs) (lJ vs) L [] [.code body]):nY M f vs.toArray H v Q:=fun St b₀ tmps₀ ds₀ todo₀ cs hk=> by
 have:=h St b₀ tmps₀ ds₀ todo₀ cs hk H (vs.toArray++Array.replicate (n-vs.length) undef) hs ⟨by simp;omega,fun d v hd=> ?_⟩
 ·have e:Frame.enter P f vs.toArray .deferred=(⟨f,.deferred,none⟩:FB).at (vs.toArray++Array.replicate (n-vs.length) undef) [] [.code body]:=by
   simp[Frame.enter,FB.at,hf,hb,hn]
  rw[e];exact this
 ·obtain⟨_,h2⟩:=iF vs 0 d v hd;simp only[Nat.sub_zero] at h2;have mB:=(List.getElem?_eq_some_iff.1 h2).1;rw[Array.getElem?_append_left (by simpa using mB)];simpa using h2
theorem Tc.R6(E:Env P){fn:Func}{Q:View->Prop}{f:FuncId}{b₀:FB}{tmps₀:Array Value}{ds₀:List Deferred}{todo₀:List Item}(hK:∀H',Q H'->T M St H' (G (b₀.back tmps₀ ds₀ todo₀) cs))(hf:P.funcs[f]? =some fn)(TN:fn.results=([]:List ResultVar).toArray)
  (h:∀H',eA H₀ L H'->Q H'):Tc M St n ⟨f,.deferred,none⟩ H₀ (b₀.TJ tmps₀ ds₀ todo₀ (again v)::cs) R L [] []:=fun H tmps hs hr=>
 .over rfl (by
  have hv:yA P (results fn tmps) H fun _ H'=> T M St H' (G (b₀.back tmps₀ ds₀ todo₀) cs):=nD (E:=E) (rs:= []) (vs:= []) hs hr TN trivial (hK H (h H hs));refine .step ⟨rfl,fun w p6 _=> ?_⟩;obtain⟨u,H',w',es,h1,h2,h3⟩:=yB _ #[] p6 hv;rw[Array.empty_append] at h1;refine⟨_,w',seen P f es,H',?_,h2.sub fun e he=> mem_seen he,h3⟩;have:stepG P M.main (G ((⟨f,.deferred,none⟩:FB).back tmps [] []) (b₀.TJ tmps₀ ds₀ todo₀ (again v)::cs)) w=unwind P M.main ((⟨f,.deferred,none⟩:FB).back tmps [] []) (b₀.TJ tmps₀ ds₀ todo₀ (again v)::cs) Option.none w:=by
   simp[G,stepG,FB.back]
  rw[this];unfold unwind;simp only[FB.back,hf,h1,doReturn,GStep.after,G,Array.append_empty,FB.TJ,again];rfl)
end
section
variable {P:Program}{M:Md P}{md:Region.Mode}{ops:Array Oper}{S:Array Bool->View->Prop}{Fin:Array Value->View->Prop}{v:Value}{Z:View->Prop}
end
section
variable {P:Program}{M:Md P}{St:View->Goroutine->Prop}{n:Nat}{b:FB}{H₀:View}{cs:List Frame}{R:Rg}{L Ls L₁:Bl}{ds:List Deferred}{k:List Item}{md:Region.Mode}{ops:Array Oper}{v:Value}{fuel:Nat}{listed:Array Bool}{B:List Nat}
theorem JH.gP {fn:Func}{c:Frame}(hf:P.funcs[b.fn]? =some fn)(h:∀H',eA H₀ L H'->T M St H' (G (c.raise (raised v)) cs)):JH M St n b H₀ (c::cs) R L [] v:=fun H _ _ hs _=> .vP hf (h H hs)
theorem To.QF {dl:List (Option Tmp)}{l:List Oper}{o:Oper}{cl:Go.Call}{x:Operand}{fv:Value}{az:List Value}(hw:JA dl R o=some true)(iA:o.op=.call cl)(PB:cl.callee=.value x)(hx:GA R x=some fv)(has:aE R cl.args.toList=some az)
  (hc:∀H,eA H₀ L H->yH M fv az H v fun H'=> H.le H') (hP:JH M St n b H₀ cs R L ds v):To M St n b H₀ cs dl R L ds (o::l) k:=fun arr ix ha EH=> by
 cases ix with
 | nil=> simp at EH
 | cons i r=>
  simp only[List.map_cons,List.cons.injEq] at EH;intro H tmps hs hr;have e1:=hr.ev hx;have KF:cl.args.map (uB tmps)=az.toArray:=by
   apply Array.ext'
   simpa using hr.evs has
  refine .O4 (v:=v) (X:=fun H'=> H.le H') EH.1 (jB ha hr hw) (by rw[iA];rfl) ?_ (fun H' hle=> hP H' tmps _ (hs.mono hle) hr);have hex:execOp (uB tmps) o=(resolve (uB tmps) cl o.type).bind fun d=> invoke d.target d.args:=by unfold execOp;rw[iA];rfl
  rw[hex];have:((resolve (uB tmps) cl o.type).bind fun d=> invoke d.target d.args)=(Deferred.ofValue fv az.toArray).bind fun d=> invoke d.target d.args:=by
   unfold resolve;rw[PB];simp only[e1,KF]
  rw[this];exact hc H hs
end
def W1 {P:Program}(M:Md P)(fr:Frame)(H:View)(Q:Value->View->Prop)(v:Value)(X:View->Prop):Prop:=
 ∀(St:View->Goroutine->Prop) (c:Frame) (cs:List Frame),(∀u H',Q u H'->T M St H' (G (c.finish u) cs))->(∀H',X H'->T M St H' (G (c.raise (raised v)) cs))->T M St H (G fr (c::cs))
def rM {P:Program}(M:Md P)(f:FuncId)(args:Array Value)(H:View)(Q:Value->View->Prop)(v:Value)(X:View->Prop):Prop:=W1 M (Frame.enter P f args .normal) H Q v X
def NxE {P:Program}(M:Md P)(Q:Value->View->Prop)(v:Value)(X:View->Prop)(nx:Next)(H:View):Prop:=
 match nx with
 | .enter f args=> rM M f args H Q v X
 | .round l f tmps assign body=> W1 M (Frame.round l f tmps assign body .normal) H Q v X
 | _=> False
def PN {P:Program}(M:Md P)(fv:Value)(az:List Value)(H:View)(Q:Value->View->Prop)(v:Value)(X:View->Prop):Prop:=
 yA P ((Deferred.ofValue fv az.toArray).bind fun d=> invoke d.target d.args) H (NxE M Q v X)
def BP(F:View)(X:View->Prop):View->Prop:=fun H''=> ∃H',H''=H'.plus F/\Dj H' F/\X H'
section
variable {P:Program}{E:Env P}{M:Md P}{St:View->Goroutine->Prop}{n:Nat}{b:FB}{H₀:View}{cs:List Frame}{R R':Rg}{L L':Bl}{ds:List Deferred}{k:List Item}{d:Nat}{v:Value}{Q:Value->View->Prop}{X:View->Prop}
theorem W1.mono {fr:Frame}{H:View}{Q':Value->View->Prop}{X':View->Prop}(h:W1 M fr H Q v X)(hq:∀u H',Q u H'->Q' u H')(hx:∀H',X H'->X' H'):W1 M fr H Q' v X':=
 fun St c cs hk hp=> h St c cs (fun u H' hv=> hk u H' (hq u H' hv)) fun H' hv=> hp H' (hx H' hv)
theorem NxE.mono {nx:Next}{H:View}{Q':Value->View->Prop}{X':View->Prop}(h:NxE M Q v X nx H)(hq:∀u H',Q u H'->Q' u H')(hx:∀H',X H'->X' H'):NxE M Q' v X' nx H:=by
 cases nx <;> first
  | exact h.elim
  | exact W1.mono h hq hx
theorem PN.mono {fv:Value}{az:List Value}{H:View}{Q':Value->View->Prop}{X':View->Prop}(h:PN M fv az H Q v X)(hq:∀u H',Q u H'->Q' u H')(hx:∀H',X H'->X' H'):PN M fv az H Q' v X':=
 MA _ (fun _ _ hn=> NxE.mono hn hq hx) h
theorem PN.of {g:FuncId}{az first captured:List Value}{as':Array Value}{H:View}(hg:rA P g=true)(zA:(first++az++captured).toArray=as')(h:rM M g as' H Q v X):
  PN M (.func (.func g) first.toArray captured.toArray) az H Q v X:=by
 unfold PN;simp only[Deferred.ofValue];show yA P (callFunc g (first.toArray++az.toArray++captured.toArray)) H _;have e3:first.toArray++az.toArray++captured.toArray=as':=by rw[<-zA];simp
 rw[e3];exact mE hg h
theorem W1.frame {fr:Frame}{H F:View}(h:W1 M fr H Q v X)(hd:Dj H F):W1 M fr (H.plus F) (eG F Q) v (BP F X):=fun St c cs hk hp=> by
 have h1:=h (fun H' g'=> (∃u,Q u H'/\g'=G (c.finish u) cs)\/(X H'/\g'=G (c.raise (raised v)) cs)) c cs (fun u H' hq=> .stop (.inl ⟨u,hq,rfl⟩)) fun H' hx=> .stop (.inr ⟨hx,rfl⟩);refine(h1.frame F hd).bind ?_;rintro H'' g' ⟨H',rfl,RI,⟨u,hq,rfl⟩|⟨hx,rfl⟩⟩
 ·exact hk u _ ⟨H',rfl,RI,hq⟩
 ·exact hp _ ⟨H',rfl,RI,hx⟩
theorem PN.frame {fv:Value}{az:List Value}{H F:View}(h:PN M fv az H Q v X)(hd:Dj H F):PN M fv az (H.plus F) (eG F Q) v (BP F X):=by
 refine MA _ ?_ (wP _ hd h);rintro nx H'' ⟨H',rfl,RI,hn⟩;cases nx <;> first
  | exact hn.elim
  | exact W1.frame hn RI
theorem rM.enter {f:FuncId}{fn:Func}{body:Code}{vs:List Value}{H:View}(hf:P.funcs[f]? =some fn)(hb:fn.body=some body)(hn:fn.ntmps=n)(hv:vs.length<=n)(hs:eA H₀ L H)
  (h:∀St c cs,(∀u H',Q u H'->T M St H' (G (c.finish u) cs))->(∀H',X H'->T M St H' (G ((c:Frame).raise (raised v)) cs))->Tc M St n ⟨f,.normal,none⟩ H₀ (c::cs) (lJ vs) L [] [.code body]):rM M f vs.toArray H Q v X:=fun St c cs hk hp=> by
 have:=h St c cs hk hp H (vs.toArray++Array.replicate (n-vs.length) undef) hs ⟨by simp;omega,fun d v hd=> ?_⟩
 ·have e:Frame.enter P f vs.toArray .normal=(⟨f,.normal,none⟩:FB).at (vs.toArray++Array.replicate (n-vs.length) undef) [] [.code body]:=by
   simp[Frame.enter,FB.at,hf,hb,hn]
  rw[e];exact this
 ·obtain⟨_,h2⟩:=iF vs 0 d v hd;simp only[Nat.sub_zero] at h2;have mB:=(List.getElem?_eq_some_iff.1 h2).1;rw[Array.getElem?_append_left (by simpa using mB)];simpa using h2
theorem T.aB8 {ops:Array Oper}{i:Nat}{rest:List Nat}{o:Oper}{tmps:Array Value}{H:View}(ho:ops[i]? =some o)(hw:Region.wanted o (yielded ops tmps)=true)(hd:AA o.op=false)
  (h:yA P (execOp (uB tmps) o) H (NxE M Q v X)) (hq:∀u H',Q u H'->T M St H' (G (b.at (KB tmps o.dst u) ds (.inRegion ops rest::k)) cs))
  (hE:∀H',X H'->T M St H' (G (b.TJ tmps ds (.inRegion ops (i::rest)::k) (raised v)) cs)):T M St H (G (b.at tmps ds (.inRegion ops (i::rest)::k)) cs):=by
 refine .op ho hw (.inr fun c e=> by rw[e] at hd;cases hd) (MA _ (fun nx H' hn=> ?_) h);have XC:∀u,(b.at tmps ds (.inRegion ops (i::rest)::k)).finish u=b.at (KB tmps o.dst u) ds (.inRegion ops rest::k):=by
  intro u;rw[FB.finish_at,ho];rfl
 cases nx <;> first
  | exact hn.elim
  | exact hn St _ cs (fun u H'' h'=> by rw[XC];exact hq u H'' h') hE
theorem eX {o:Oper}{cl:Go.Call}{x:Operand}{fv:Value}{az:List Value}{tmps:Array Value}(hr:PA n R tmps)(iA:o.op=.call cl)(PB:cl.callee=.value x)(hx:GA R x=some fv)(has:aE R cl.args.toList=some az):
  execOp (uB tmps) o=(Deferred.ofValue fv az.toArray).bind fun d=> invoke d.target d.args:=by
 have e1:=hr.ev hx;have KF:cl.args.map (uB tmps)=az.toArray:=by
  apply Array.ext'
  simpa using hr.evs has
 have h1:execOp (uB tmps) o=(resolve (uB tmps) cl o.type).bind fun d=> invoke d.target d.args:=by unfold execOp;rw[iA];rfl
 rw[h1];unfold resolve;rw[PB];simp only[e1,KF]
theorem To.TT {dl:List (Option Tmp)}{l:List Oper}{o:Oper}{cl:Go.Call}{x:Operand}{fv:Value}{az:List Value}(hw:JA dl R o=some true)(iA:o.op=.call cl)(PB:cl.callee=.value x)(hx:GA R x=some fv)(has:aE R cl.args.toList=some az)(hd:o.dst=some d)(hn:d<n)
  (hc:PN M fv az H₀ Q v X) (hk:∀u H₁,Q u H₁->To M St n b H₁ cs dl ((d,u)::R) L ds l k) (hp:∀H₁,X H₁->JH M St n b H₁ cs R L ds v):To M St n b H₀ cs dl R L ds (o::l) k:=fun arr ix ha QL=> by
 cases ix with
 | nil=> simp at QL
 | cons i r=>
  simp only[List.map_cons,List.cons.injEq] at QL;intro H tmps hs hr;obtain⟨F,rfl,RN,hF⟩:=hs.split;refine .aB8 (Q:=eG F Q) (X:=BP F X) (v:=v) QL.1 (jB ha hr hw) (by rw[iA];rfl) ?_ ?_ ?_
  ·rw[eX hr iA PB hx has];exact hc.frame RN
  ·rintro u H'' ⟨H₁,rfl,RI,hq⟩;rw[hd];exact hk u H₁ hq arr r ha QL.2 _ _ (.OK hs.nodup hF RI) (hr.put hn u)
  ·rintro H'' ⟨H₁,rfl,RI,hx⟩;exact hp H₁ hx _ tmps _ (.OK hs.nodup hF RI) hr
theorem PN.round {l i:Nat}{lp:Loop}{H:View}{az:List Value}{ts:List Nat}(hs:eA H₀ L H)(hl:L[i]? =some (l,true,.loop lp))(qR:lp.params=ts.toArray)(hb:(ts.all fun t=> Nat.blt t n)=true)(hlen:ts.length=az.length)(hr:PA n R lp.tmps)
  (h:∀St c cs,(∀u H',Q u H'->T M St H' (G (c.finish u) cs))->(∀H',X H'->T M St H' (G ((c:Frame).raise (raised v)) cs))->Tc M St n ⟨lp.fn,.normal,some l⟩ H₀ (c::cs) (IX R ts az) L [] [.code lp.assign,.beginRound,.code lp.body]):PN M (.func (.yield l) #[] #[]) az H Q v X:=by
 unfold PN;simp only[Deferred.ofValue];show yA P (Instr.yield l (#[]++az.toArray)) H _;refine⟨true,_,hs.get hl,by simp,rfl,?_⟩;show yA P (if(#[]++az.toArray).size≠lp.params.size then _ else _) H _;rw[if_neg (by rw[qR];simp[hlen])];intro St c cs hK hP;have e:(lp.params.zip (#[]++az.toArray)).foldl (fun tmps (x:Nat×Value)=> tmps.setIfInBounds x.1 x.2) lp.tmps=(ts.zip az).foldl (fun tmps (x:Nat×Value)=> tmps.setIfInBounds x.1 x.2) lp.tmps:=by
  rw[qR];simp
 have:=h St c cs hK hP H _ hs (hr.aAE hb hlen);rw[<-e] at this;exact this
theorem T.CJ {H:View}{f:Operand}{params:Array Tmp}{assign body:Code}{tmps:Array Value}{fv:Value}(hf:uB tmps f=fv)
  (h:yA P (Instr.enterLoop b.fn tmps params assign body b.rd) H fun x H'=> PN M fv [.func (.yield x.1) #[] #[]] H' (fun _ H''=> T M St H'' (G (b.at tmps (x.2++ds) (.endRangeFunc x.1::k)) cs)) v (fun H''=> T M St H'' (G (b.TJ tmps (x.2++ds) (.inRangeFunc x.1::k) (raised v)) cs))):
  T M St H (G (b.at tmps ds (.code (.rangeFunc f params assign body)::k)) cs):=by
 refine .step ⟨rfl,fun w hs _=> ?_⟩;obtain⟨⟨l,mark⟩,H₁,w₁,es₁,h1,h2,h3⟩:=yB _ #[] hs h;rw[Array.empty_append] at h1;obtain⟨nx,H₂,w₂,es₂,g1,g2,g3⟩:=yB _ #[] h2.sat h3;rw[Array.empty_append] at g1;generalize cS:b.at tmps (mark++ds) (.inRangeFunc l::k)=fr;generalize CH:seen P fr.fn (if fr.kind==.early then #[] else es₂)=es';have cE:∀e∈seen P b.fn es₁++es',e∈es₁++es₂:=fun e he=> by
  rcases Array.mem_append.1 he with he|he
  ·exact Array.mem_append.2 (.inl (mem_seen he))
  ·rw[<-CH] at he;have:=mem_seen he;split at this
   ·simp at this
   ·exact Array.mem_append.2 (.inr this)
 have key:stepG P M.main (G (b.at tmps ds (.code (.rangeFunc f params assign body)::k)) cs) w=
   GStep.after (seen P b.fn es₁) (stepG.apply P true fr cs Option.none ((Deferred.ofValue fv #[.func (.yield l) #[] #[]]).bind fun d=> invoke d.target d.args) w₁):=by
  have fU:fr.eval f=fv:=by rw[<-cS,FB.eval_at];exact hf
  have vQ:(resolve fr.eval { callee:=.value f,args:=#[.const (.func (.yield l) #[] #[])],argTypes:=#[] } 0)=Deferred.ofValue fv #[.func (.yield l) #[] #[]]:=by
   show Deferred.ofValue (fr.eval f) (#[Operand.const (.func (.yield l) #[] #[])].map fr.eval)=_;rw[fU];simp[Frame.eval]
  have:stepG P M.main (G (b.at tmps ds (.code (.rangeFunc f params assign body)::k)) cs) w=
   GStep.after (seen P b.fn es₁) (stepG.apply P true fr cs Option.none ((resolve fr.eval { callee:=.value f,args:=#[.const (.func (.yield l) #[] #[])],argTypes:=#[] } 0).bind fun d=> invoke d.target d.args) w₁):=by
   have hp:Sem.run P (Instr.enterLoop b.fn tmps params assign body b.rd) w=.ok (l,mark) w₁/\Sem.events P (Instr.enterLoop b.fn tmps params assign body b.rd) w #[]=es₁:=by simpa using h1
   rw[<-cS];simp[G,stepG,stepG.exec,FB.at,hp.1,hp.2]
   rfl
  rw[this,vQ]
 have ZR:∀g,stepG.apply P true fr cs Option.none ((Deferred.ofValue fv #[.func (.yield l) #[] #[]]).bind fun d=> invoke d.target d.args) w₁=GStep.after es' (.go g w₂)-> 
   stepG P M.main (G (b.at tmps ds (.code (.rangeFunc f params assign body)::k)) cs) w=.go g w₂ (seen P b.fn es₁++es'):=fun g hg=> by
  rw[key,hg];simp[GStep.after]
 have XC:∀u,fr.finish u=b.at tmps (mark++ds) (.endRangeFunc l::k):=by
  intro u;rw[<-cS];rfl
 have TN:fr.raise (raised v)=b.TJ tmps (mark++ds) (.inRangeFunc l::k) (raised v):=by
  rw[<-cS];rfl
 cases nx <;> try exact g3.elim
 case enter g az=>
  refine⟨_,w₂,_,H₂,ZR (G (Frame.enter P g az .normal) (fr::cs)) ?_,(h2.trans g2).sub cE,?_⟩
  ·subst cS;rw[<-CH];unfold stepG.apply;rw[if_pos rfl,g1];rfl
  ·exact g3 St fr cs (fun u H'' hq=> by rw[XC];exact hq) fun H'' hx=> by rw[TN];exact hx
 case round l' g tmps' az bd=>
  refine⟨_,w₂,_,H₂,ZR (G (Frame.round l' g tmps' az bd .normal) (fr::cs)) ?_,(h2.trans g2).sub cE,?_⟩
  ·subst cS;rw[<-CH];unfold stepG.apply;rw[if_pos rfl,g1];rfl
  ·exact g3 St fr cs (fun u H'' hq=> by rw[XC];exact hq) fun H'' hx=> by rw[TN];exact hx
theorem Tc.CJ {f:Operand}{params:Array Tmp}{assign body:Code}{fv:Value}(MK:b.rd=none)(hf:GA R f=some fv)(Z:Nat->Nat->Option Code->View->Bl->Prop)(Zp:Nat->View->Bl->Prop)
  (h:∀l r tmps H,PA n R tmps->eA H₀ ((l,true,.loop (Loop.fresh b.fn tmps params assign body r))::(r,true,.deferred (some []))::L) H-> 
   PN M fv [.func (.yield l) #[] #[]] H (fun _ H'=> ∃H₁ L₁ lp,eA H₁ ((l,true,.loop lp)::(r,true,.deferred (some []))::L₁) H'/\lp.state≠ .busy/\Z l r lp.pending H₁ L₁) v fun H'=> ∃H₁ L₁,eA H₁ ((r,true,.deferred (some []))::L₁) H'/\Zp r H₁ L₁)
  (hk:∀l r j H₁ L₁,Z l r j H₁ L₁->Tc M St n b H₁ cs R ((r,true,.deferred (some []))::L₁) (jD r::ds) ((j.map Item.code).toList++k))
  (hp:∀r H₁ L₁,Zp r H₁ L₁->JH M St n b H₁ cs R ((r,true,.deferred (some []))::L₁) (jD r::ds) v):
  Tc M St n b H₀ cs R L ds (.code (.rangeFunc f params assign body)::k):=fun H tmps hs hr=> by
 refine .CJ (v:=v) (hr.ev hf) ?_;rw[MK];intro r uZ;intro l L8;have hs':=(hs.cons (true,.deferred (some [])) uZ).cons (true,.loop (Loop.fresh b.fn tmps params assign body r)) L8;refine PN.mono (h l r tmps _ hr hs') ?_ ?_
 ·rintro u H' ⟨H₁,L₁,lp,UN,kB,hz⟩;refine .endRangeFunc ?_;have hl:=UN.get (i:=0) rfl;refine⟨true,_,hl,by simp,rfl,?_⟩;have hb:(lp.state==LoopState.busy)=false:=by simpa using kB
  show yA P (if(lp.state==LoopState.busy)=true then _ else _) H' _;rw[if_neg (by simp[hb])];refine⟨⟨_,hl,by simp⟩,rfl,?_⟩;refine hk l r lp.pending H₁ L₁ hz _ tmps ?_ hr;exact(UN.set (i:=0) rfl _).less (List.sublist_cons_self _ _)
 ·rintro H' ⟨H₁,L₁,UN,hz⟩;exact hp r H₁ L₁ hz H' tmps _ UN hr
def O7 {P:Program}(M:Md P){α ε:Type}(fv:Value)(xs:List α)(arg:α->ε->List Value)(B B':α->ε->Bl)(Cap:View->Prop)(A:Bl)(H:View)(v:Value):Prop:=
 ∀ (l:Nat) (J:List α->View->Prop) (D X:View->Prop),(∀rest H',J rest H'->Cap H')->J xs H-> 
  (∀x rest e H' H'',x∈xs->J (x::rest) H'->eA H' (B x e) H''->PN M (.func (.yield l) #[] #[]) (arg x e) H'' (fun u H3=> (u=.bool true/\∃H₂,eA H₂ (B' x e) H3/\J rest H₂)\/(u=.bool false/\D H3)) v X)-> 
  ∀H',eA H A H'->PN M fv [.func (.yield l) #[] #[]] H' (fun _ H3=> ∃H₁,H₁.le H3/\(J [] H₁\/D H₁)) v fun H3=> ∃H₁,H₁.le H3/\X H₁
end
section
variable {P:Program}{M:Md P}{St:View->Goroutine->Prop}{n:Nat}{b:FB}{H₀:View}{cs:List Frame}{R:Rg}{L:Bl}{ds:List Deferred}{k:List Item}
variable {L₀ A:Bl}{α ε:Type}{fv:Value}{xs:List α}{arg:α->ε->List Value}{B B':α->ε->Bl}{Cap:View->Prop}{v:Value}
def q9(M:Md P)(n:Nat)(b:FB)(R:Rg)(arg:α->ε->List Value)(B B':α->ε->Bl)(ts:List Nat)(assign body:Code)(I:List α->View->Bl->Prop)(Dn:Code->View->Bl->Prop)(v:Value)(Xp:View->Bl->Prop)(xs:List α)(df:Nat)(T:Bl->Bl):Prop:=
 ∀ x rest e l tmps asg bdy H₁ L₁,x∈xs->I (x::rest) H₁ L₁->∀(Q:Value->View->Prop) (X:View->Prop) (St:View->Goroutine->Prop) (c:Frame) (cs:List Frame),(∀u H',Q u H'->Go.RL.T M St H' (G (c.finish u) cs))->(∀H',X H'->Go.RL.T M St H' (G (c.raise (raised v)) cs))-> 
  (∀H' H₂ L₂,eA H₂ (B' x e++(l,true,.loop (Loop.fresh b.fn tmps ts.toArray asg bdy df))::T L₂) H'->I rest H₂ L₂->Q (.bool true) H')-> 
  (∀H' H₂ L₂ j,eA H₂ ((l,true,.loop (Loop.ZH (Loop.fresh b.fn tmps ts.toArray asg bdy df) j))::T L₂) H'->Dn j H₂ L₂->Q (.bool false) H')-> 
  (∀H' H₂ L₂,eA H₂ (T L₂) H'->Xp H₂ L₂->X H')-> 
  Tc M St n ⟨b.fn,.normal,some l⟩ H₁ (c::cs) (IX R ts (arg x e)) (B x e++(l,true,.loop (Loop.fresh b.fn tmps ts.toArray asg bdy df))::T L₁) [] [.code assign,.beginRound,.code body]
theorem Tc.j7 {f:Operand}{assign body:Code}{ts:List Nat}{pa:Array Tmp}(I:List α->View->Bl->Prop)(Dn:Code->View->Bl->Prop)(Xp:View->Bl->Prop)(oX:pa=ts.toArray)(MK:b.rd=none)(hf:GA R f=some fv)(hA:L=A++L₀)(OL:∀H,Cap H->O7 M fv xs arg B B' Cap A H v)
  (hC:∀H H',H.le H'->Cap H->Cap H') (hI:∀rest H₁ L₁,I rest H₁ L₁->Cap H₁) (qR:(ts.all fun t=> Nat.blt t n)=true) (hlen:∀x e,ts.length=(arg x e).length) (h0:I xs H₀ L₀)
  (round:∀r,q9 M n b R arg B B' ts assign body I Dn v Xp xs r fun L₁=> (r,true,.deferred (some []))::L₁)
  (hk:∀r H₁ L₁,I [] H₁ L₁->Tc M St n b H₁ cs R ((r,true,.deferred (some []))::L₁) (jD r::ds) k)
  (R5:∀r j H₁ L₁,Dn j H₁ L₁->Tc M St n b H₁ cs R ((r,true,.deferred (some []))::L₁) (jD r::ds) (.code j::k))
  (D2:∀r H₁ L₁,Xp H₁ L₁->JH M St n b H₁ cs R ((r,true,.deferred (some []))::L₁) (jD r::ds) v):
  Tc M St n b H₀ cs R L ds (.code (.rangeFunc f pa assign body)::k):=by
 subst oX;refine Tc.CJ (v:=v) MK hf (fun l r j H₁ L₁=> (j=none/\I [] H₁ L₁)\/∃j',j=some j'/\Dn j' H₁ L₁) (fun r H₁ L₁=> Xp H₁ L₁) (fun l r tmps H hr hs=> ?_) (fun l r j H₁ L₁ hz=> ?_) (fun r H₁ L₁ hz=> D2 r H₁ L₁ hz)
 ·rw[hA] at hs;obtain⟨H',hsA,hs⟩:=(hs.perm (L':=A++(l,true,.loop (Loop.fresh b.fn tmps ts.toArray assign body r))::(r,true,.deferred (some []))::L₀) (by
   refine(List.perm_middle.trans ?_);exact .cons _ List.perm_middle)).mD
  have pE:Cap H':=hC _ _ hs.base (hI _ _ _ h0);have hJ:∀rest Hv,(∃H₁ L₁,eA H₁ ((l,true,.loop (Loop.fresh b.fn tmps ts.toArray assign body r))::(r,true,.deferred (some []))::L₁) Hv/\I rest H₁ L₁)->Cap Hv:=by
   rintro rest Hv ⟨H₁,L₁,h1,h2⟩;exact hC _ _ h1.base (hI _ _ _ h2)
  refine PN.mono (OL H' pE l (fun rest Hv=> ∃H₁ L₁,eA H₁ ((l,true,.loop (Loop.fresh b.fn tmps ts.toArray assign body r))::(r,true,.deferred (some []))::L₁) Hv/\I rest H₁ L₁)
   (fun Hv=> ∃H₁ L₁ j,eA H₁ ((l,true,.loop (Loop.ZH (Loop.fresh b.fn tmps ts.toArray assign body r) j))::(r,true,.deferred (some []))::L₁) Hv/\Dn j H₁ L₁)
   (fun Hv=> ∃H₁ L₁,eA H₁ ((r,true,.deferred (some []))::L₁) Hv/\Xp H₁ L₁) hJ ⟨H₀,L₀,hs,h0⟩ ?_ H hsA) ?_ ?_
  ·rintro x rest e H' H'' zZ ⟨H₁,L₁,h1,h2⟩ h3;refine PN.round (i:=(B x e).length) (lp:=Loop.fresh b.fn tmps ts.toArray assign body r) (l:=l) (h1.append h3) (by simp) rfl qR (hlen x e) hr fun St c cs hK hP=> ?_;exact round r x rest e l tmps assign body H₁ L₁ zZ h2 _ _ St c cs hK hP (fun H' H₂ L₂ g1 g2=> by
    obtain⟨Hm,g3,g4⟩:=g1.mD;exact .inl ⟨rfl,Hm,g3,H₂,L₂,g4,g2⟩) (fun H' H₂ L₂ j g1 g2=> .inr ⟨rfl,H₂,L₂,j,g1,g2⟩) (fun H' H₂ L₂ g1 g2=> ⟨H₂,L₂,g1,g2⟩)
  ·rintro u H' ⟨Hv,hle,⟨H₁,L₁,g1,g2⟩|⟨H₁,L₁,j,g1,g2⟩⟩
   ·exact⟨H₁,L₁,Loop.fresh b.fn tmps ts.toArray assign body r,g1.mono hle,(fun h=> nomatch h),.inl ⟨rfl,g2⟩⟩
   ·exact⟨H₁,L₁,Loop.ZH (Loop.fresh b.fn tmps ts.toArray assign body r) j,g1.mono hle,(fun h=> nomatch h),.inr ⟨j,rfl,g2⟩⟩
  ·rintro H' ⟨Hv,hle,H₁,L₁,g1,g2⟩;exact⟨H₁,L₁,g1.mono hle,g2⟩
 ·rcases hz with ⟨rfl,hz⟩|⟨j',rfl,hz⟩
  ·exact hk r H₁ L₁ hz
  ·exact R5 r j' H₁ L₁ hz
end
end Go.RL
namespace Go.Proofs.YtgkmnalhddmclaaGreatDoor
open Go.RL Go.Proofs.Tryz
set_option maxRecDepth 10000
set_option maxHeartbeats 16000000
def E6:Value:=.iface 84 (.agg ⟨[]⟩)
section
variable(M:Md prog)(H:View)
theorem dH:NH M 42 #[.bool false] H E6 (fun H'=> H.le H'):=by
 refine NH.enter (vs:= [.bool false]) func42 rfl ntmps42 (Nat.le_of_ble_eq_true rfl) fun St c cs hP=> ?_;refine U8 ?_;refine .x (oA.iface rfl rfl kR) ?_;exact To.lM rfl rfl rfl func42 fun H' hle=> hP H' hle
end
end Go.Proofs.YtgkmnalhddmclaaGreatDoor
