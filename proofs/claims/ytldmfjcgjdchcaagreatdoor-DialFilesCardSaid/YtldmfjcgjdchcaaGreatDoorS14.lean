/-
 Texts of the proofs over baudot/dial.
-/
import Derived.Test.YtldmfjcgjdchcaaGreatDoorS13
namespace Go.RL
open Go.Conc
def GoE {P:Program}(M:Md P)(fr:Frame)(H:View)(Q:Value->View->Prop)(v:Value)(X:View->Prop):Prop:=
 ∀(St:View->Goroutine->Prop) (c:Frame) (cs:List Frame),(∀u H',Q u H'->T M St H' (G (c.finish u) cs))->(∀H',X H'->T M St H' (G (c.raise (raised v)) cs))->T M St H (G fr (c::cs))
def LU {P:Program}(M:Md P)(f:FuncId)(args:Array Value)(H:View)(Q:Value->View->Prop)(v:Value)(X:View->Prop):Prop:=GoE M (Frame.enter P f args .normal) H Q v X
def NxE {P:Program}(M:Md P)(Q:Value->View->Prop)(v:Value)(X:View->Prop)(nx:Next)(H:View):Prop:=
 match nx with
 | .enter f args=> LU M f args H Q v X
 | .round l f tmps assign body=> GoE M (Frame.round l f tmps assign body .normal) H Q v X
 | _=> False
def sR {P:Program}(M:Md P)(fv:Value)(az:List Value)(H:View)(Q:Value->View->Prop)(v:Value)(X:View->Prop):Prop:=
 HA P ((Deferred.ofValue fv az.toArray).bind fun d=> invoke d.target d.args) H (NxE M Q v X)
def OS(F:View)(X:View->Prop):View->Prop:=fun H''=> ∃H',H''=H'.plus F/\Dj H' F/\X H'
section
variable {P:Program}{E:Env P}{M:Md P}{St:View->Goroutine->Prop}{n:Nat}{b:FB}{H₀:View}{cs:List Frame}{R R':Rg}{L L':Bl}{ds:List Deferred}{k:List Item}{d:Nat}{v:Value}{Q:Value->View->Prop}{X:View->Prop}
theorem GoE.mono {fr:Frame}{H:View}{Q':Value->View->Prop}{X':View->Prop}(h:GoE M fr H Q v X)(hq:∀u H',Q u H'->Q' u H')(hx:∀H',X H'->X' H'):GoE M fr H Q' v X':=
 fun St c cs hk hp=> h St c cs (fun u H' hv=> hk u H' (hq u H' hv)) fun H' hv=> hp H' (hx H' hv)
theorem NxE.mono {nx:Next}{H:View}{Q':Value->View->Prop}{X':View->Prop}(h:NxE M Q v X nx H)(hq:∀u H',Q u H'->Q' u H')(hx:∀H',X H'->X' H'):NxE M Q' v X' nx H:=by
 cases nx <;> first
  | exact h.elim
  | exact GoE.mono h hq hx
theorem sR.mono {fv:Value}{az:List Value}{H:View}{Q':Value->View->Prop}{X':View->Prop}(h:sR M fv az H Q v X)(hq:∀u H',Q u H'->Q' u H')(hx:∀H',X H'->X' H'):sR M fv az H Q' v X':=
 VA _ (fun _ _ hn=> NxE.mono hn hq hx) h
theorem sR.of {g:FuncId}{az first captured:List Value}{as':Array Value}{H:View}(hg:AA P g=true)(QA:(first++az++captured).toArray=as')(h:LU M g as' H Q v X):
  sR M (.func (.func g) first.toArray captured.toArray) az H Q v X:=by
 unfold sR;simp only[Deferred.ofValue];show HA P (callFunc g (first.toArray++az.toArray++captured.toArray)) H _;have e3:first.toArray++az.toArray++captured.toArray=as':=by rw[<-QA];simp
 rw[e3];exact tE hg h
theorem GoE.frame {fr:Frame}{H F:View}(h:GoE M fr H Q v X)(hd:Dj H F):GoE M fr (H.plus F) (TH F Q) v (OS F X):=fun St c cs hk hp=> by
 have h1:=h (fun H' g'=> (∃u,Q u H'/\g'=G (c.finish u) cs)\/(X H'/\g'=G (c.raise (raised v)) cs)) c cs (fun u H' hq=> .stop (.inl ⟨u,hq,rfl⟩)) fun H' hx=> .stop (.inr ⟨hx,rfl⟩);refine(h1.frame F hd).bind ?_;rintro H'' g' ⟨H',rfl,nL,⟨u,hq,rfl⟩|⟨hx,rfl⟩⟩
 ·exact hk u _ ⟨H',rfl,nL,hq⟩
 ·exact hp _ ⟨H',rfl,nL,hx⟩
theorem sR.frame {fv:Value}{az:List Value}{H F:View}(h:sR M fv az H Q v X)(hd:Dj H F):sR M fv az (H.plus F) (TH F Q) v (OS F X):=by
 refine VA _ ?_ (JS _ hd h);rintro nx H'' ⟨H',rfl,nL,hn⟩;cases nx <;> first
  | exact hn.elim
  | exact GoE.frame hn nL
theorem LU.enter {f:FuncId}{fn:Func}{body:Code}{vs:List Value}{H:View}(hf:P.funcs[f]? =some fn)(hb:fn.body=some body)(hn:fn.ntmps=n)(hv:vs.length<=n)(hs:jA H₀ L H)
  (h:∀St c cs,(∀u H',Q u H'->T M St H' (G (c.finish u) cs))->(∀H',X H'->T M St H' (G ((c:Frame).raise (raised v)) cs))->Tc M St n ⟨f,.normal,none⟩ H₀ (c::cs) (gL vs) L [] [.code body]):LU M f vs.toArray H Q v X:=fun St c cs hk hp=> by
 have:=h St c cs hk hp H (vs.toArray++Array.replicate (n-vs.length) undef) hs ⟨by simp;omega,fun d v hd=> ?_⟩
 ·have e:Frame.enter P f vs.toArray .normal=(⟨f,.normal,none⟩:FB).at (vs.toArray++Array.replicate (n-vs.length) undef) [] [.code body]:=by
   simp[Frame.enter,FB.at,hf,hb,hn]
  rw[e];exact this
 ·obtain⟨_,h2⟩:=zG vs 0 d v hd;simp only[Nat.sub_zero] at h2;have KB:=(List.getElem?_eq_some_iff.1 h2).1;rw[Array.getElem?_append_left (by simpa using KB)];simpa using h2
theorem T.aFe {ops:Array Oper}{i:Nat}{rest:List Nat}{o:Oper}{tmps:Array Value}{H:View}(ho:ops[i]? =some o)(hw:Region.wanted o (yielded ops tmps)=true)(hd:BA o.op=false)
  (h:HA P (execOp (OB tmps) o) H (NxE M Q v X)) (hq:∀u H',Q u H'->T M St H' (G (b.at (HB tmps o.dst u) ds (.inRegion ops rest::k)) cs))
  (hE:∀H',X H'->T M St H' (G (b.DI tmps ds (.inRegion ops (i::rest)::k) (raised v)) cs)):T M St H (G (b.at tmps ds (.inRegion ops (i::rest)::k)) cs):=by
 refine .op ho hw (.inr fun c e=> by rw[e] at hd;cases hd) (VA _ (fun nx H' hn=> ?_) h);have OD:∀u,(b.at tmps ds (.inRegion ops (i::rest)::k)).finish u=b.at (HB tmps o.dst u) ds (.inRegion ops rest::k):=by
  intro u;rw[FB.finish_at,ho];rfl
 cases nx <;> first
  | exact hn.elim
  | exact hn St _ cs (fun u H'' h'=> by rw[OD];exact hq u H'' h') hE
theorem U1 {o:Oper}{cl:Go.Call}{x:Operand}{fv:Value}{az:List Value}{tmps:Array Value}(hr:YA n R tmps)(lA:o.op=.call cl)(iB:cl.callee=.value x)(hx:JA R x=some fv)(has:lD R cl.args.toList=some az):
  execOp (OB tmps) o=(Deferred.ofValue fv az.toArray).bind fun d=> invoke d.target d.args:=by
 have e1:=hr.ev hx;have cH:cl.args.map (OB tmps)=az.toArray:=by
  apply Array.ext'
  simpa using hr.evs has
 have h1:execOp (OB tmps) o=(resolve (OB tmps) cl o.type).bind fun d=> invoke d.target d.args:=by unfold execOp;rw[lA];rfl
 rw[h1];unfold resolve;rw[iB];simp only[e1,cH]
theorem To.J6 {dl:List (Option Tmp)}{l:List Oper}{o:Oper}{cl:Go.Call}{x:Operand}{fv:Value}{az:List Value}(hw:TA dl R o=some true)(lA:o.op=.call cl)(iB:cl.callee=.value x)(hx:JA R x=some fv)(has:lD R cl.args.toList=some az)(hd:o.dst=some d)(hn:d<n)
  (hc:sR M fv az H₀ Q v X) (hk:∀u H₁,Q u H₁->To M St n b H₁ cs dl ((d,u)::R) L ds l k) (hp:∀H₁,X H₁->PG M St n b H₁ cs R L ds v):To M St n b H₀ cs dl R L ds (o::l) k:=fun arr ix ha sP=> by
 cases ix with
 | nil=> simp at sP
 | cons i r=>
  simp only[List.map_cons,List.cons.injEq] at sP;intro H tmps hs hr;obtain⟨F,rfl,Y4,hF⟩:=hs.split;refine .aFe (Q:=TH F Q) (X:=OS F X) (v:=v) sP.1 (rB ha hr hw) (by rw[lA];rfl) ?_ ?_ ?_
  ·rw[U1 hr lA iB hx has];exact hc.frame Y4
  ·rintro u H'' ⟨H₁,rfl,nL,hq⟩;rw[hd];exact hk u H₁ hq arr r ha sP.2 _ _ (.DN hs.nodup hF nL) (hr.put hn u)
  ·rintro H'' ⟨H₁,rfl,nL,hx⟩;exact hp H₁ hx _ tmps _ (.DN hs.nodup hF nL) hr
theorem sR.round {l i:Nat}{lp:Loop}{H:View}{az:List Value}{ts:List Nat}(hs:jA H₀ L H)(hl:L[i]? =some (l,true,.loop lp))(PV:lp.params=ts.toArray)(hb:(ts.all fun t=> Nat.blt t n)=true)(hlen:ts.length=az.length)(hr:YA n R lp.tmps)
  (h:∀St c cs,(∀u H',Q u H'->T M St H' (G (c.finish u) cs))->(∀H',X H'->T M St H' (G ((c:Frame).raise (raised v)) cs))->Tc M St n ⟨lp.fn,.normal,some l⟩ H₀ (c::cs) (m4 R ts az) L [] [.code lp.assign,.beginRound,.code lp.body]):sR M (.func (.yield l) #[] #[]) az H Q v X:=by
 unfold sR;simp only[Deferred.ofValue];show HA P (Instr.yield l (#[]++az.toArray)) H _;refine⟨true,_,hs.get hl,by simp,rfl,?_⟩;show HA P (if(#[]++az.toArray).size≠lp.params.size then _ else _) H _;rw[if_neg (by rw[PV];simp[hlen])];intro St c cs hK hP;have e:(lp.params.zip (#[]++az.toArray)).foldl (fun tmps (x:Nat×Value)=> tmps.setIfInBounds x.1 x.2) lp.tmps=(ts.zip az).foldl (fun tmps (x:Nat×Value)=> tmps.setIfInBounds x.1 x.2) lp.tmps:=by
  rw[PV];simp
 have:=h St c cs hK hP H _ hs (hr.aDz hb hlen);rw[<-e] at this;exact this
theorem T.AL {H:View}{f:Operand}{params:Array Tmp}{assign body:Code}{tmps:Array Value}{fv:Value}(hf:OB tmps f=fv)
  (h:HA P (Instr.enterLoop b.fn tmps params assign body b.rd) H fun x H'=> sR M fv [.func (.yield x.1) #[] #[]] H' (fun _ H''=> T M St H'' (G (b.at tmps (x.2++ds) (.endRangeFunc x.1::k)) cs)) v (fun H''=> T M St H'' (G (b.DI tmps (x.2++ds) (.inRangeFunc x.1::k) (raised v)) cs))):
  T M St H (G (b.at tmps ds (.code (.rangeFunc f params assign body)::k)) cs):=by
 refine .step ⟨rfl,fun w hs _=> ?_⟩;obtain⟨⟨l,mark⟩,H₁,w₁,es₁,h1,h2,h3⟩:=lC _ #[] hs h;rw[Array.empty_append] at h1;obtain⟨nx,H₂,w₂,es₂,g1,g2,g3⟩:=lC _ #[] h2.sat h3;rw[Array.empty_append] at g1;generalize lP:b.at tmps (mark++ds) (.inRangeFunc l::k)=fr;generalize wJ:seen P fr.fn (if fr.kind==.early then #[] else es₂)=es';have VJ:∀e∈seen P b.fn es₁++es',e∈es₁++es₂:=fun e he=> by
  rcases Array.mem_append.1 he with he|he
  ·exact Array.mem_append.2 (.inl (mem_seen he))
  ·rw[<-wJ] at he;have:=mem_seen he;split at this
   ·simp at this
   ·exact Array.mem_append.2 (.inr this)
 have key:stepG P M.main (G (b.at tmps ds (.code (.rangeFunc f params assign body)::k)) cs) w=
   GStep.after (seen P b.fn es₁) (stepG.apply P true fr cs Option.none ((Deferred.ofValue fv #[.func (.yield l) #[] #[]]).bind fun d=> invoke d.target d.args) w₁):=by
  have NX:fr.eval f=fv:=by rw[<-lP,FB.eval_at];exact hf
  have KT:(resolve fr.eval { callee:=.value f,args:=#[.const (.func (.yield l) #[] #[])],argTypes:=#[] } 0)=Deferred.ofValue fv #[.func (.yield l) #[] #[]]:=by
   show Deferred.ofValue (fr.eval f) (#[Operand.const (.func (.yield l) #[] #[])].map fr.eval)=_;rw[NX];simp[Frame.eval]
  have:stepG P M.main (G (b.at tmps ds (.code (.rangeFunc f params assign body)::k)) cs) w=
   GStep.after (seen P b.fn es₁) (stepG.apply P true fr cs Option.none ((resolve fr.eval { callee:=.value f,args:=#[.const (.func (.yield l) #[] #[])],argTypes:=#[] } 0).bind fun d=> invoke d.target d.args) w₁):=by
   have hp:Sem.run P (Instr.enterLoop b.fn tmps params assign body b.rd) w=.ok (l,mark) w₁/\Sem.events P (Instr.enterLoop b.fn tmps params assign body b.rd) w #[]=es₁:=by simpa using h1
   rw[<-lP];simp[G,stepG,stepG.exec,FB.at,hp.1,hp.2]
   rfl
  rw[this,KT]
 have pO:∀g,stepG.apply P true fr cs Option.none ((Deferred.ofValue fv #[.func (.yield l) #[] #[]]).bind fun d=> invoke d.target d.args) w₁=GStep.after es' (.go g w₂)-> 
   stepG P M.main (G (b.at tmps ds (.code (.rangeFunc f params assign body)::k)) cs) w=.go g w₂ (seen P b.fn es₁++es'):=fun g hg=> by
  rw[key,hg];simp[GStep.after]
 have OD:∀u,fr.finish u=b.at tmps (mark++ds) (.endRangeFunc l::k):=by
  intro u;rw[<-lP];rfl
 have XO:fr.raise (raised v)=b.DI tmps (mark++ds) (.inRangeFunc l::k) (raised v):=by
  rw[<-lP];rfl
 cases nx <;> try exact g3.elim
 case enter g az=>
  refine⟨_,w₂,_,H₂,pO (G (Frame.enter P g az .normal) (fr::cs)) ?_,(h2.trans g2).sub VJ,?_⟩
  ·subst lP;rw[<-wJ];unfold stepG.apply;rw[if_pos rfl,g1];rfl
  ·exact g3 St fr cs (fun u H'' hq=> by rw[OD];exact hq) fun H'' hx=> by rw[XO];exact hx
 case round l' g tmps' az bd=>
  refine⟨_,w₂,_,H₂,pO (G (Frame.round l' g tmps' az bd .normal) (fr::cs)) ?_,(h2.trans g2).sub VJ,?_⟩
  ·subst lP;rw[<-wJ];unfold stepG.apply;rw[if_pos rfl,g1];rfl
  ·exact g3 St fr cs (fun u H'' hq=> by rw[OD];exact hq) fun H'' hx=> by rw[XO];exact hx
theorem Tc.AL {f:Operand}{params:Array Tmp}{assign body:Code}{fv:Value}(WO:b.rd=none)(hf:JA R f=some fv)(Z:Nat->Nat->Option Code->View->Bl->Prop)(Zp:Nat->View->Bl->Prop)
  (h:∀l r tmps H,YA n R tmps->jA H₀ ((l,true,.loop (Loop.fresh b.fn tmps params assign body r))::(r,true,.deferred (some []))::L) H-> 
   sR M fv [.func (.yield l) #[] #[]] H (fun _ H'=> ∃H₁ L₁ lp,jA H₁ ((l,true,.loop lp)::(r,true,.deferred (some []))::L₁) H'/\lp.state≠ .busy/\Z l r lp.pending H₁ L₁) v fun H'=> ∃H₁ L₁,jA H₁ ((r,true,.deferred (some []))::L₁) H'/\Zp r H₁ L₁)
  (hk:∀l r j H₁ L₁,Z l r j H₁ L₁->Tc M St n b H₁ cs R ((r,true,.deferred (some []))::L₁) (GD r::ds) ((j.map Item.code).toList++k))
  (hp:∀r H₁ L₁,Zp r H₁ L₁->PG M St n b H₁ cs R ((r,true,.deferred (some []))::L₁) (GD r::ds) v):
  Tc M St n b H₀ cs R L ds (.code (.rangeFunc f params assign body)::k):=fun H tmps hs hr=> by
 refine .AL (v:=v) (hr.ev hf) ?_;rw[WO];intro r l8;intro l hl0;have hs':=(hs.cons (true,.deferred (some [])) l8).cons (true,.loop (Loop.fresh b.fn tmps params assign body r)) hl0;refine sR.mono (h l r tmps _ hr hs') ?_ ?_
 ·rintro u H' ⟨H₁,L₁,lp,BN,aC,hz⟩;refine .endRangeFunc ?_;have hl:=BN.get (i:=0) rfl;refine⟨true,_,hl,by simp,rfl,?_⟩;have hb:(lp.state==LoopState.busy)=false:=by simpa using aC
  show HA P (if(lp.state==LoopState.busy)=true then _ else _) H' _;rw[if_neg (by simp[hb])];refine⟨⟨_,hl,by simp⟩,rfl,?_⟩;refine hk l r lp.pending H₁ L₁ hz _ tmps ?_ hr;exact(BN.set (i:=0) rfl _).less (List.sublist_cons_self _ _)
 ·rintro H' ⟨H₁,L₁,BN,hz⟩;exact hp r H₁ L₁ hz H' tmps _ BN hr
def aB3 {P:Program}(M:Md P){α ε:Type}(fv:Value)(xs:List α)(arg:α->ε->List Value)(B B':α->ε->Bl)(Cap:View->Prop)(A:Bl)(H:View)(v:Value):Prop:=
 ∀ (l:Nat) (J:List α->View->Prop) (D X:View->Prop),(∀rest H',J rest H'->Cap H')->J xs H-> 
  (∀x rest e H' H'',x∈xs->J (x::rest) H'->jA H' (B x e) H''->sR M (.func (.yield l) #[] #[]) (arg x e) H'' (fun u H3=> (u=.bool true/\∃H₂,jA H₂ (B' x e) H3/\J rest H₂)\/(u=.bool false/\D H3)) v X)-> 
  ∀H',jA H A H'->sR M fv [.func (.yield l) #[] #[]] H' (fun _ H3=> ∃H₁,H₁.le H3/\(J [] H₁\/D H₁)) v fun H3=> ∃H₁,H₁.le H3/\X H₁
end
section
variable {P:Program}{M:Md P}{St:View->Goroutine->Prop}{n:Nat}{b:FB}{H₀:View}{cs:List Frame}{R:Rg}{L:Bl}{ds:List Deferred}{k:List Item}
variable {L₀ A:Bl}{α ε:Type}{fv:Value}{xs:List α}{arg:α->ε->List Value}{B B':α->ε->Bl}{Cap:View->Prop}{v:Value}
def aCv(M:Md P)(n:Nat)(b:FB)(R:Rg)(arg:α->ε->List Value)(B B':α->ε->Bl)(ts:List Nat)(assign body:Code)(I:List α->View->Bl->Prop)(Dn:Code->View->Bl->Prop)(v:Value)(Xp:View->Bl->Prop)(xs:List α)(df:Nat)(T:Bl->Bl):Prop:=
 ∀ x rest e l tmps asg bdy H₁ L₁,x∈xs->I (x::rest) H₁ L₁->∀(Q:Value->View->Prop) (X:View->Prop) (St:View->Goroutine->Prop) (c:Frame) (cs:List Frame),(∀u H',Q u H'->Go.RL.T M St H' (G (c.finish u) cs))->(∀H',X H'->Go.RL.T M St H' (G (c.raise (raised v)) cs))-> 
  (∀H' H₂ L₂,jA H₂ (B' x e++(l,true,.loop (Loop.fresh b.fn tmps ts.toArray asg bdy df))::T L₂) H'->I rest H₂ L₂->Q (.bool true) H')-> 
  (∀H' H₂ L₂ j,jA H₂ ((l,true,.loop (Loop.EN (Loop.fresh b.fn tmps ts.toArray asg bdy df) j))::T L₂) H'->Dn j H₂ L₂->Q (.bool false) H')-> 
  (∀H' H₂ L₂,jA H₂ (T L₂) H'->Xp H₂ L₂->X H')-> 
  Tc M St n ⟨b.fn,.normal,some l⟩ H₁ (c::cs) (m4 R ts (arg x e)) (B x e++(l,true,.loop (Loop.fresh b.fn tmps ts.toArray asg bdy df))::T L₁) [] [.code assign,.beginRound,.code body]
theorem Tc.aBM {f:Operand}{assign body:Code}{ts:List Nat}{pa:Array Tmp}(I:List α->View->Bl->Prop)(Dn:Code->View->Bl->Prop)(Xp:View->Bl->Prop)(m5:pa=ts.toArray)(WO:b.rd=none)(hf:JA R f=some fv)(hA:L=A++L₀)(CJ:∀H,Cap H->aB3 M fv xs arg B B' Cap A H v)
  (hC:∀H H',H.le H'->Cap H->Cap H') (hI:∀rest H₁ L₁,I rest H₁ L₁->Cap H₁) (PV:(ts.all fun t=> Nat.blt t n)=true) (hlen:∀x e,ts.length=(arg x e).length) (h0:I xs H₀ L₀)
  (round:∀r,aCv M n b R arg B B' ts assign body I Dn v Xp xs r fun L₁=> (r,true,.deferred (some []))::L₁)
  (hk:∀r H₁ L₁,I [] H₁ L₁->Tc M St n b H₁ cs R ((r,true,.deferred (some []))::L₁) (GD r::ds) k)
  (hkj:∀r j H₁ L₁,Dn j H₁ L₁->Tc M St n b H₁ cs R ((r,true,.deferred (some []))::L₁) (GD r::ds) (.code j::k))
  (hkp:∀r H₁ L₁,Xp H₁ L₁->PG M St n b H₁ cs R ((r,true,.deferred (some []))::L₁) (GD r::ds) v):
  Tc M St n b H₀ cs R L ds (.code (.rangeFunc f pa assign body)::k):=by
 subst m5;refine Tc.AL (v:=v) WO hf (fun l r j H₁ L₁=> (j=none/\I [] H₁ L₁)\/∃j',j=some j'/\Dn j' H₁ L₁) (fun r H₁ L₁=> Xp H₁ L₁) (fun l r tmps H hr hs=> ?_) (fun l r j H₁ L₁ hz=> ?_) (fun r H₁ L₁ hz=> hkp r H₁ L₁ hz)
 ·rw[hA] at hs;obtain⟨H',hsA,hs⟩:=(hs.perm (L':=A++(l,true,.loop (Loop.fresh b.fn tmps ts.toArray assign body r))::(r,true,.deferred (some []))::L₀) (by
   refine(List.perm_middle.trans ?_);exact .cons _ List.perm_middle)).AD
  have BC:Cap H':=hC _ _ hs.base (hI _ _ _ h0);have hJ:∀rest Hv,(∃H₁ L₁,jA H₁ ((l,true,.loop (Loop.fresh b.fn tmps ts.toArray assign body r))::(r,true,.deferred (some []))::L₁) Hv/\I rest H₁ L₁)->Cap Hv:=by
   rintro rest Hv ⟨H₁,L₁,h1,h2⟩;exact hC _ _ h1.base (hI _ _ _ h2)
  refine sR.mono (CJ H' BC l (fun rest Hv=> ∃H₁ L₁,jA H₁ ((l,true,.loop (Loop.fresh b.fn tmps ts.toArray assign body r))::(r,true,.deferred (some []))::L₁) Hv/\I rest H₁ L₁)
   (fun Hv=> ∃H₁ L₁ j,jA H₁ ((l,true,.loop (Loop.EN (Loop.fresh b.fn tmps ts.toArray assign body r) j))::(r,true,.deferred (some []))::L₁) Hv/\Dn j H₁ L₁)
   (fun Hv=> ∃H₁ L₁,jA H₁ ((r,true,.deferred (some []))::L₁) Hv/\Xp H₁ L₁) hJ ⟨H₀,L₀,hs,h0⟩ ?_ H hsA) ?_ ?_
  ·rintro x rest e H' H'' aC3 ⟨H₁,L₁,h1,h2⟩ h3;refine sR.round (i:=(B x e).length) (lp:=Loop.fresh b.fn tmps ts.toArray assign body r) (l:=l) (h1.append h3) (by simp) rfl PV (hlen x e) hr fun St c cs hK hP=> ?_;exact round r x rest e l tmps assign body H₁ L₁ aC3 h2 _ _ St c cs hK hP (fun H' H₂ L₂ g1 g2=> by
    obtain⟨Hm,g3,g4⟩:=g1.AD;exact .inl ⟨rfl,Hm,g3,H₂,L₂,g4,g2⟩) (fun H' H₂ L₂ j g1 g2=> .inr ⟨rfl,H₂,L₂,j,g1,g2⟩) (fun H' H₂ L₂ g1 g2=> ⟨H₂,L₂,g1,g2⟩)
  ·rintro u H' ⟨Hv,hle,⟨H₁,L₁,g1,g2⟩|⟨H₁,L₁,j,g1,g2⟩⟩
   ·exact⟨H₁,L₁,Loop.fresh b.fn tmps ts.toArray assign body r,g1.mono hle,(fun h=> nomatch h),.inl ⟨rfl,g2⟩⟩
   ·exact⟨H₁,L₁,Loop.EN (Loop.fresh b.fn tmps ts.toArray assign body r) j,g1.mono hle,(fun h=> nomatch h),.inr ⟨j,rfl,g2⟩⟩
  ·rintro H' ⟨Hv,hle,H₁,L₁,g1,g2⟩;exact⟨H₁,L₁,g1.mono hle,g2⟩
 ·rcases hz with ⟨rfl,hz⟩|⟨j',rfl,hz⟩
  ·exact hk r H₁ L₁ hz
  ·exact hkj r j' H₁ L₁ hz
end
end Go.RL
namespace Go.Proofs.YtldmfjcgjdchcaaGreatDoor
open Go.RL Go.Proofs.Tryz
set_option maxRecDepth 10000
set_option maxHeartbeats 16000000
def rS:Value:=.iface 191 (.agg ⟨[]⟩)
section
variable(M:Md prog)(H:View)
theorem mE:fD M 105 #[.bool false] H rS (fun H'=> H.le H'):=by
 refine fD.enter (vs:= [.bool false]) func105 rfl ntmps105 Nb fun St c cs hP=> ?_;refine U8 ?_;refine .x (pA.iface rfl rfl kR) ?_;exact To.aBJ rfl rfl rfl func105 fun H' hle=> hP H' hle
theorem CI(s:By)(hm:s.length<=1000000)(h:PA s=false):fD M 179 #[bA s] H rS (fun H'=> H.le H'):=by
 unfold PA at h;have dQ:=fun H=> bO M H s 45 hm;have kP:(zB 45 s).length<=1000000:=by
  unfold zB;split
  ·rw[List.length_drop];omega
  ·exact hm
 obtain⟨sg,WZ⟩:∃sg,sg=XA s [45]:=⟨_,rfl⟩
 generalize zB 45 s=d at h dQ kP;rw[<-WZ] at h dQ;have htr:=fun H=> lX M H d oM;have SZ:=fun H=> mE M H;by_cases c1:1<=d.length/\d.length<=9
 ·rw[decide_eq_true c1,Bool.true_and] at h;have e0:d[0]? =some (d[0]?.getD 0):=by
   rw[List.getElem?_eq_getElem oM];rfl
  generalize d[0]?.getD 0=x0 at e0 h;cases c2:d.all OC with
  | false=>
   have e17:RL.LB .eql (qJ d) []=some (.bool false):=by
    show some (Value.bool (qJ d== []))=_;rw[JK,c2]
   refine fD.enter (vs:= [bA s]) func179 rfl ntmps179 Nb fun St c cs hP=> ?_;refine U7 ?_;refine .cl (fun H hs=> dQ H) ?_;refine iD ?_;refine .cl (fun H hs=> uA M H (d.length:Nat) 1 9 true (decide_eq_true oM)) ?_;refine U2 ?_;refine .cl (fun H hs=> htr H) ?_;refine U7 ?_;refine To.LA rfl dE rfl ?_;refine To.LA rfl dE rfl ?_;refine To.LA rfl dE rfl ?_;refine To.LA rfl dE rfl ?_;refine To.LA rfl dE rfl ?_;refine To.LA rfl dE rfl ?_;refine To.LA rfl dE rfl ?_;refine U2 ?_;refine To.rG rfl rfl rfl rfl rfl (fun H hs=> VE.of (first:= []) (captured:= []) qG rfl (SZ H)) (PG.GL func179 fun H' hs=> hP H' hs.base)
  | true=>
   rw[c2,Bool.true_and,Bool.or_eq_false_iff] at h;obtain⟨h3,h4⟩:=h;have e17:RL.LB .eql (qJ d) []=some (.bool true):=by
    show some (Value.bool (qJ d== []))=_;rw[JK,c2]
   have h5:x0=48:=by simpa using h3
   subst h5;by_cases c3:d.length=1
   ·obtain rfl:sg=true:=by simpa [c3] using h4
    have n2:iA .eql .i64 ((d.length:Nat):Int) 1=some (.bool true):=wE oM;refine fD.enter (vs:= [bA s]) func179 rfl ntmps179 Nb fun St c cs hP=> ?_;refine U7 ?_;refine .cl (fun H hs=> dQ H) ?_;refine iD ?_;refine .cl (fun H hs=> uA M H (d.length:Nat) 1 9 true (decide_eq_true oM)) ?_;refine U2 ?_;refine .cl (fun H hs=> htr H) ?_;refine LI ?_;refine To.rG rfl rfl rfl rfl rfl (fun H hs=> VE.of (first:= []) (captured:= []) qG rfl (SZ H)) (PG.GL func179 fun H' hs=> hP H' hs.base)
   ·have n2:iA .eql .i64 ((d.length:Nat):Int) 1=some (.bool false):=IC oM;refine fD.enter (vs:= [bA s]) func179 rfl ntmps179 Nb fun St c cs hP=> ?_;refine U7 ?_;refine .cl (fun H hs=> dQ H) ?_;refine iD ?_;refine .cl (fun H hs=> uA M H (d.length:Nat) 1 9 true (decide_eq_true oM)) ?_;refine U2 ?_;refine .cl (fun H hs=> htr H) ?_;refine LI ?_;refine To.rG rfl rfl rfl rfl rfl (fun H hs=> VE.of (first:= []) (captured:= []) qG rfl (SZ H)) (PG.GL func179 fun H' hs=> hP H' hs.base)
 ·refine fD.enter (vs:= [bA s]) func179 rfl ntmps179 Nb fun St c cs hP=> ?_;refine U7 ?_;refine .cl (fun H hs=> dQ H) ?_;refine iD ?_;refine .cl (fun H hs=> uA M H (d.length:Nat) 1 9 false (decide_eq_false oM)) ?_;refine iD ?_;refine To.LA rfl dE rfl ?_;refine To.LA rfl dE rfl ?_;refine To.LA rfl dE rfl ?_;refine To.LA rfl dE rfl ?_;refine To.LA rfl dE rfl ?_;refine To.LA rfl dE rfl ?_;refine To.LA rfl dE rfl ?_;refine U2 ?_;refine To.rG rfl rfl rfl rfl rfl (fun H hs=> VE.of (first:= []) (captured:= []) qG rfl (SZ H)) (PG.GL func179 fun H' hs=> hP H' hs.base)
theorem TR(s:By)(hm:s.length<=1000000)(h:qB s=false):fD M 181 #[bA s] H rS (fun H'=> H.le H'):=by
 rcases ZH 58 s with h0|⟨p,q,rfl,h0⟩
 ·obtain⟨b1,b2,b3⟩:=iN h0;rw[b1] at h;have pL:=fun H=> CI M H s hm h;refine fD.enter (vs:= [bA s]) func181 rfl ntmps181 Nb fun St c cs hP=> ?_;refine U2 ?_;refine .al fun b2=> ?_;refine U4 ?_;refine .cl (fun H hs=> F5 M H s 58 h0) ?_;refine ND ?_;refine To.rG rfl rfl rfl rfl rfl (fun H hs=> VE.of (first:= []) (captured:= []) jV rfl (pL H)) (PG.GL func181 fun H' hs=> hP H' hs.base)
 ·obtain⟨b1,b2,b3⟩:=iL (q:=q) h0;rw[b1] at h;have hl:(p++58::q).length=p.length+1+q.length:=by simp;omega
  cases h1:PA p with
  | false=>
   have pL:=fun H=> CI M H p oM h1;refine fD.enter (vs:= [bA (p++58::q)]) func181 rfl ntmps181 Nb fun St c cs hP=> ?_;refine U2 ?_;refine .al fun b2=> ?_;refine U4 ?_;refine .cl (fun H hs=> SS M H p q 58 h0 oM) ?_;refine ND ?_;refine To.rG rfl rfl rfl rfl rfl (fun H hs=> VE.of (first:= []) (captured:= []) jV rfl (pL H)) (PG.GL func181 fun H' hs=> hP H' hs.base)
  | true=>
   have c1:=fun H=> kG M H p oM h1;cases h2:PA q with
   | false=>
    have pL:=fun H=> CI M H q oM h2;generalize numOf p=x at c1;refine fD.enter (vs:= [bA (p++58::q)]) func181 rfl ntmps181 Nb fun St c cs hP=> ?_;refine U2 ?_;refine .al fun b2=> ?_;refine U4 ?_;refine .cl (fun H hs=> SS M H p q 58 h0 oM) ?_;refine ND ?_;refine .cl (fun H hs=> c1 H) ?_;refine .cl (fun H hs=> vS M H x) ?_;refine .al fun b6=> ?_;refine ND ?_;refine To.rG rfl rfl rfl rfl rfl (fun H hs=> VE.of (first:= []) (captured:= []) jV rfl (pL H)) (PG.GL func181 fun H' hs=> hP H' hs.base)
   | true=>
    have h4:numOf p=numOf q:=by simpa [h1,h2] using h
    have c2:=fun H=> kG M H q oM h2;rw[<-h4] at c2;generalize numOf p=x at c1 c2;have n1:iA .neq .i64 x x=some (.bool false):=gH rfl;refine fD.enter (vs:= [bA (p++58::q)]) func181 rfl ntmps181 Nb fun St c cs hP=> ?_;refine U2 ?_;refine .al fun b2=> ?_;refine U4 ?_;refine .cl (fun H hs=> SS M H p q 58 h0 oM) ?_;refine ND ?_;refine .cl (fun H hs=> c1 H) ?_;refine .cl (fun H hs=> vS M H x) ?_;refine .al fun b6=> ?_;refine ND ?_;refine .cl (fun H hs=> c2 H) ?_;refine U9 ?_;refine To.rG rfl rfl rfl rfl rfl (fun H hs=> VE.of (first:= []) (captured:= []) qG rfl (mE M H)) (PG.GL func181 fun H' hs=> hP H' hs.base)
end
def HY:By:= [110,105,108]
def MB(s:By):Option Int:=if s=YM then some 0 else if s=WM then some 1 else if s=XM then some 2 else none
def dG:List By->Option (List Int)
 | []=> some []
 | p::l=> (MB p).bind fun z=> (dG l).map fun zs=> z::zs
def xE(s:By):Option (List Int):=if s=HY then some [] else dG (mA 44 s)
theorem aM {s:By}{z:Int}(h:MB s=some z):s=EB z/\0<=z/\z<=2:=by
 unfold MB at h;split at h
 ·cases h;rename_i e;subst e;exact⟨rfl,oM,oM⟩
 ·split at h
  ·cases h;rename_i e;subst e;exact⟨rfl,oM,oM⟩
  ·split at h
   ·cases h;rename_i e;subst e;exact⟨rfl,oM,oM⟩
   ·cases h
theorem ZL {s:By}(h:MB s=none):sB (kA (fun i=> s==([YM,WM,XM][i]?.getD [])) 3)= -1:=by
 unfold MB at h;split at h
 ·cases h
 ·rename_i h1
  split at h
  ·cases h
  ·rename_i h2
   split at h
   ·cases h
   ·rename_i h3
    rw[(RB 3).2 fun i hi=> ?_]
    ·rfl
    ·have:i=0\/i=1\/i=2:=by omega
     rcases this with rfl|rfl|rfl
     ·exact beq_eq_false_iff_ne.2 h1
     ·exact beq_eq_false_iff_ne.2 h2
     ·exact beq_eq_false_iff_ne.2 h3
theorem SF:∀ {l:List By} {ws:List Int},dG l=some ws->l=ws.map EB/\∀z∈ws,0<=z/\z<=2
 | [],ws,h=> by cases h;exact⟨rfl,fun _ h=> by cases h⟩
 | p ::l,ws,h=> by
  unfold dG at h;cases h1:MB p with
  | none=> rw[h1] at h;cases h
  | some z=>
   rw[h1] at h;cases h2:dG l with
   | none=> rw[h2] at h;cases h
   | some zs=>
    rw[h2] at h;cases h
    obtain⟨g1,g2⟩:=aM h1;obtain⟨g3,g4⟩:=SF h2;refine⟨by rw[List.map_cons,<-g1,<-g3],fun x hx=> ?_⟩;rcases List.mem_cons.1 hx with rfl|hx
    ·exact g2
    ·exact g4 x hx
theorem XH:∀ {l:List By},dG l=none->∃(ws:List Int) (x:By) (r:List By),l=ws.map EB++x::r/\MB x=none/\∀z∈ws,0<=z/\z<=2
 | [],h=> by cases h
 | p ::l,h=> by
  unfold dG at h;cases h1:MB p with
  | none=> exact⟨[],p,l,rfl,h1,fun _ h=> by cases h⟩
  | some z=>
   rw[h1] at h;cases h2:dG l with
   | some zs=> rw[h2] at h;cases h
   | none=>
    obtain⟨ws,x,r,g1,g2,g3⟩:=XH h2;obtain⟨g4,g5⟩:=aM h1;refine⟨z::ws,x,r,by rw[g1,g4];rfl,g2,fun y hy=> ?_⟩;rcases List.mem_cons.1 hy with rfl|hy
    ·exact g5
    ·exact g3 y hy
inductive Row where
 | TC (a b:Int)
 | line (p q:List UInt8) (ws:List Int)
 | xF (a z x y:Int)
def AW:List By->Option Row
 | [w,p,q]=> if w=bB then(if PA p&&PA q then some (.TC (numOf p) (numOf q)) else none)
  else if w=IA then(if qB p&&qB q then some (.xF (vE p) (EE p) (vE q) (EE q)) else none) else none
 | [w,p,q,r]=> if w=OA then(xE r).map fun ws=> .line p q ws else none
 | _=> none
def rowOf(s:By):Option Row:=if []∈mA 59 s then none else AW (mA 59 s)
theorem OM {P:List By}{H:View}{b:Nat}{f:Bool}{e:TypeId}{fz:Nat×Nat}(h:H b=some (f,.cells ⟨zA P⟩ e fz)):ZB H (some ⟨b,0,none⟩) P.length (fun i=> P[i]?.getD []):=
 CB (jj:= []) (by rw[List.append_nil];exact h)
theorem HX {P:List By}(h: []∈P):(kA (fun i=> ([]:By)==P[i]?.getD []) P.length).isSome=true:=by
 cases hf:kA (fun i=> ([]:By)==P[i]?.getD []) P.length with
 | some x=> rfl
 | none=>
  obtain⟨i,hi,e⟩:=List.mem_iff_getElem.1 h;have:=(RB _).1 hf i hi;rw[List.getElem?_eq_getElem hi,e] at this;cases this
theorem qC(y:UInt8)(s:By):∀p∈mA y s,p.length<=s.length:=by
 suffices h:∀(n:Nat) (s:By),s.length<=n->∀p∈mA y s,p.length<=s.length from h s.length s (Nat.le_refl _)
 intro n;induction n with
 | zero=>
  intro s hs p hp;obtain rfl:s= []:=List.length_eq_zero_iff.1 oM;rw[tC y [] (by simp)] at hp;simp only[List.mem_singleton] at hp;subst hp;exact Nat.le_refl _
 | succ n ih=>
  intro s hs p hp;rcases ZH y s with h0|⟨a,b,rfl,h0⟩
  ·rw[tC y s h0] at hp;simp only[List.mem_singleton] at hp;subst hp;exact Nat.le_refl _
  ·rw[xD y b a h0] at hp;simp only[List.length_append,List.length_cons] at hs ⊢;rcases List.mem_cons.1 hp with rfl|hp
   ·omega
   ·have:=ih b oM p hp;omega
section
variable(M:Md prog)(H:View)
theorem Y1(hC:mR H)(s:By)(hm:s.length<=1000000)(ws:List Int)(h:xE s=some ws):
  fA M 180 #[bA s] H (fun v H'=> H.le H'/\∃g:Gl 110 1,v=g.val/\(g.n=ws.length/\g.l=QB ws)/\∀x∈g.bl,H' x.1=some x.2/\H x.1=none):=by
 unfold xE at h;split at h
 ·cases h
  rename_i e
  subst e;refine .en func180 ntmps180 fun St c cs hK=> ?_;refine AJ ?_;refine .rt hK func180 results180 [_] ?_;exact fun H' hs=> ⟨hs.base,Gl.nil 110 1,rfl,⟨rfl,rfl⟩,fun x hx=> nomatch hx⟩
 ·obtain⟨h1,h2⟩:=SF h;exact D7 M H hC s hm ws h1 h2
theorem Z1(hC:mR H)(s:By)(hm:s.length<=1000000)(h:xE s=none):fD M 180 #[bA s] H rS (fun H'=> H.le H'):=by
 obtain⟨f0,gt0,gz0,hC0⟩:=hC;unfold xE at h;split at h
 ·cases h
 rename_i iG
 obtain⟨ws,x,r,hP,hx,hw⟩:=XH h;have e0:RL.LB .eql s [110,105,108]=some (.bool false):=by
  show some (Value.bool (s==HY))=_;rw[beq_eq_false_iff_ne.2 iG]
 have D2:(mA 44 s).length=ws.length+1+r.length:=by rw[hP];simp;omega
 have hlen:(mA 44 s).length<=1000001:=by
  have h1:=kB 44 s;have h2:s.count 44<=s.length:=List.count_le_length;omega
 have EF:=fun H=> uD M H s 44 hm;obtain⟨P,hPP⟩:∃P,P=mA 44 s:=⟨_,rfl⟩
 rw[<-hPP] at hP D2 EF hlen;have hPx:P[ws.length]? =some x:=by rw[hP,List.getElem?_append_right (by simp)];simp
 have hPi:∀i,(hi:i<ws.length)->P[i]? =some (EB ws[i]):=fun i hi=> by
  rw[hP,List.getElem?_append_left (by simpa using hi),List.getElem?_map,List.getElem?_eq_getElem hi];rfl
 clear hP hPP h;refine fD.enter (vs:= [bA s]) func180 rfl ntmps180 Nb fun St c cs hP=> ?_;refine eO ?_;refine .e (Or.xA (FG P) (PD P) (fun _=> True) rfl rfl rfl rfl rfl dE (fun _=> by simp[PD]) (fun H hs=> .h (EF H)) (fun b _=> ?_));refine U4 ?_;refine Tc.db (Tc.qA (σ:= { x:Nat×Gl 110 1//x.1<=ws.length/\x.2.n=x.1 }) (fun x=> ([(3,x.1.2.val),(10,FG P b),(11,.nt P.length),(12,.nt x.1.1)],[Bb b (zA P) 9]++x.1.2.bl)) (fun x=> ws.length-x.1.1) ?_ ⟨(0,Gl.nil 110 1),Nat.zero_le _,rfl⟩);rintro⟨⟨i,g⟩,hi,XC⟩ ih;simp only at hi XC;dsimp only;have ZZ:∀(i:Nat) (y:By),P[i]? =some y->zE false 1 (zA P) (0+((i:Nat):Int).toNat*1)=some (bA y):=fun i y h=> by
  show(zA P)[0+((i:Nat):Int).toNat*1]? =_;unfold zA;rw[Int.toNat_natCast,Nat.zero_add,Nat.mul_one,List.getElem?_map,h];rfl
 by_cases c1:i=ws.length
 ·clear ih;have f1:=ZZ i x (by rw[c1];exact hPx);have cI:=fun(H':View) (h':H.le H')=> KL M H' (some ⟨0,0,none⟩) 3 3 (fun i=> [YM,WM,XM][i]?.getD []) (CB (P:= [YM,WM,XM]) (jj:= []) (h' _ _ hC0)) dE x;rw[ZL hx] at cI;refine II ?_;refine .x (pA.kU (E:=en) (l:=0) (h:=3) rfl rfl rfl rfl rfl rfl rfl rfl oM oM oM rfl) ?_;refine U ?_;refine .cl (fun H hs=> cI H hs.base) ?_;refine U6 ?_;refine To.rG rfl rfl rfl rfl rfl (fun H hs=> VE.of (first:= []) (captured:= []) qG rfl (mE M H)) (PG.GL func180 fun H' hs=> hP H' hs.base)
 ·have c2:i<ws.length:=by omega
  have hz:=hw _ (List.getElem_mem c2);have f1:=ZZ i _ (hPi i c2);have ZW:=nV hz;have cI:=fun(H':View) (h':H.le H')=> KL M H' (some ⟨0,0,none⟩) 3 3 (fun i=> [YM,WM,XM][i]?.getD []) (CB (P:= [YM,WM,XM]) (jj:= []) (h' _ _ hC0)) dE (EB ws[i]);rw[ZW] at cI;have g1:iA .geq .i64 ws[i] 0=some (.bool true):=CH hz.1;obtain⟨z,TV⟩:∃z,z=ws[i]:=⟨_,rfl⟩
  rw[<-TV] at hz f1 cI g1;clear TV;refine II ?_;refine .x (pA.kU (E:=en) (l:=0) (h:=3) rfl rfl rfl rfl rfl rfl rfl rfl oM oM oM rfl) ?_;refine U ?_;refine .cl (fun H hs=> cI H hs.base) ?_;refine U6 ?_;refine .cl (fun H hs=> wC M H) ?_;refine U4 ?_;refine .e (.bs (zz:=fun bs=> ?_));refine .e (Or.append (E:=en) 2 rfl rfl rfl rfl rfl rfl rfl rfl rfl rfl rfl rfl rfl rfl rfl (fun H hs=> RA.of (hs.get (i:=0) rfl) Nb) rfl oM rfl dE (fun g3 AN EJ=> ?_));refine U7 ?_;exact Tc.db (ih ⟨(i+1,g3),by simp only;omega,by simp only;omega⟩ Ob)
def Row.Is(r:Row)(v:Value)(B:Bl):Prop:=
 match r with
 | .TC a b=> v=a7 a b/\B= []
 | .line p q ws=> ∃g:Gl 110 1,v=j0 p q g/\(g.n=ws.length/\g.l=QB ws)/\B=g.bl
 | .xF a z x y=> v=NY a z x y/\B= []
theorem kY(hC:mR H)(s p q w:By)(hm:s.length<=1000000)(hP:mA 59 s= [OA,p,q,w])(hl:w.length<=1000000)(ws:List Int)(hW:xE w=some ws)(aB:∀x∈ [OA,p,q,w],x≠ []):
  fA M 103 #[bA s] H (fun v H'=> H.le H'/\∃g:Gl 110 1,v=j0 p q g/\(g.n=ws.length/\g.l=QB ws)/\∀x∈g.bl,H' x.1=some x.2/\H x.1=none):=by
 have EF:=fun H=> uD M H s 59 hm;rw[hP] at EF;have gB:=uC (P:= [OA,p,q,w]) aB;refine .en func103 ntmps103 fun St c cs hK=> ?_;refine U7 ?_;refine .e (Or.xA (FG [OA,p,q,w]) (PD [OA,p,q,w]) (fun _=> True) rfl rfl rfl rfl rfl dE (fun _=> by simp[PD]) (fun H hs=> .h (EF H)) (fun b _=> ?_));refine U5 ?_;refine .cl (fun H hs=> SB M H (some ⟨b,0,none⟩) 4 4 (fun i=> [OA,p,q,w][i]?.getD []) (CB (P:= [OA,p,q,w]) (jj:= []) (hs.get (i:=0) rfl)) dE [] false gB) ?_;refine U ?_;refine .cl (fun H hs=> wC M H) ?_;refine U4 ?_;refine Tc.db (R':= [(3,.sl b 4 4)]) (L':= [Bb b [bA OA,bA p,bA q,bA w] 9]) ?_;refine U28 ?_;refine Tc.dr [] [] mixed rfl ?_;refine V9 0 ?_;refine .ea 9 rfl (Or.xA Gl.val Gl.bl (fun g:Gl 110 1=> g.n=ws.length/\g.l=QB ws) rfl rfl rfl rfl rfl dE Gl.bG (fun H hs=> .h (Y1 M H (hC.le hs.base) w hl ws hW)) (fun g hg=> ⟨S2.mk sL (.inr sL),?_⟩));refine V2 10 ?_;refine .q 12 rfl (pA.iface rfl rfl kR) ?_;refine .nn 13 ?_;refine .dn ?_;refine .rt hK func103 results103 [_] ?_;exact fun H' hs=> ⟨hs.base,g,rfl,hg,fun x hx=> ⟨hs.at_ x (List.mem_append_right _ hx),hs.out x (List.mem_append_right _ hx)⟩⟩
theorem HN(hC:mR H)(s:By)(hm:s.length<=1000000)(r:Row)(h:rowOf s=some r):
  fA M 103 #[bA s] H (fun v H'=> H.le H'/\∃B,r.Is v B/\∀x∈B,H' x.1=some x.2/\H x.1=none):=by
 unfold rowOf at h;split at h
 ·cases h
 rename_i aB
 have hb:=qC 59 s;obtain⟨P,hP⟩:∃P,P=mA 59 s:=⟨_,rfl⟩
 rw[<-hP] at h aB hb;have gB:∀x∈P,x≠ []:=fun x hx e=> aB (e▸hx);unfold AW at h;split at h
 ·rename_i w p q
  have hp:=hb p (by simp);have hq:=hb q (by simp);have hp0:=gB p (by simp);have hq0:=gB q (by simp);split at h
  ·rename_i e
   subst e;split at h
   ·rename_i h1
    cases h
    rw[Bool.and_eq_true] at h1;exact fA.mono (jY M H s p q hm hP.symm ⟨oM,oM⟩ h1.1 h1.2 hp0 hq0) fun v H' hv=> ⟨hv.1,[],⟨hv.2,rfl⟩,fun x hx=> nomatch hx⟩
   ·cases h
  ·split at h
   ·rename_i e
    subst e;split at h
    ·rename_i h1
     cases h
     rw[Bool.and_eq_true] at h1;exact fA.mono (cW M H s p q hm hP.symm ⟨oM,oM⟩ h1.1 h1.2 hp0 hq0) fun v H' hv=> ⟨hv.1,[],⟨hv.2,rfl⟩,fun x hx=> nomatch hx⟩
    ·cases h
   ·cases h
 ·rename_i w p q y
  have hy:=hb y (by simp);split at h
  ·rename_i e
   subst e;cases hf:xE y with
   | none=> rw[hf] at h;cases h
   | some ws=>
    rw[hf] at h;cases h
    exact fA.mono (kY M H hC s p q y hm hP.symm oM ws hf gB) fun v H' hv=> by
     obtain⟨h1,g,h2,h3,h4⟩:=hv;exact⟨h1,g.bl,⟨g,h2,h3,rfl⟩,h4⟩
  ·cases h
 ·cases h
theorem P8(s:By)(hm:s.length<=1000000)(P:List By)(hP:mA 59 s=P)(h: []∈P):fD M 103 #[bA s] H rS (fun H'=> H.le H'):=by
 have EF:=fun H=> uD M H s 59 hm;rw[hP] at EF;have hlen:P.length<=1000001:=by
  rw[<-hP];have h1:=kB 59 s;have h2:s.count 59<=s.length:=List.count_le_length;omega
 have gB:=HX h;refine fD.enter (vs:= [bA s]) func103 rfl ntmps103 Nb fun St c cs hP=> ?_;refine U7 ?_;refine .e (Or.xA (FG P) (PD P) (fun _=> True) rfl rfl rfl rfl rfl dE (fun _=> by simp[PD]) (fun H hs=> .h (EF H)) (fun b _=> ?_));refine U5 ?_;refine .cl (fun H hs=> SB M H (some ⟨b,0,none⟩) P.length P.length (fun i=> P[i]?.getD []) (OM (P:=P) (hs.get (i:=0) rfl)) oM [] true gB) ?_;refine U ?_;refine To.rG rfl rfl rfl rfl rfl (fun H hs=> VE.of (first:= []) (captured:= []) qG rfl (mE M H)) (PG.GL func103 fun H' hs=> hP H' hs.base)
theorem S8(s:By)(hm:s.length<=1000000)(w:By)(l:List By)(hP:mA 59 s=w::l)(h:∀x∈w::l,x≠ [])(bY:w≠bB)(qL:w≠OA)(MT:w≠IA):fD M 103 #[bA s] H rS (fun H'=> H.le H'):=by
 have EF:=fun H=> uD M H s 59 hm;rw[hP] at EF;have hlen:(w::l).length<=1000001:=by
  rw[<-hP];have h1:=kB 59 s;have h2:s.count 59<=s.length:=List.count_le_length;omega
 have uI:1<=(w::l).length:=by simp
 have gB:=uC h;have esDial:RL.LB .eql w bB=some (.bool false):=by
  show some (Value.bool (w==bB))=_;rw[beq_eq_false_iff_ne.2 bY]
 have esLine:RL.LB .eql w OA=some (.bool false):=by
  show some (Value.bool (w==OA))=_;rw[beq_eq_false_iff_ne.2 qL]
 have esTrain:RL.LB .eql w IA=some (.bool false):=by
  show some (Value.bool (w==IA))=_;rw[beq_eq_false_iff_ne.2 MT]
 refine fD.enter (vs:= [bA s]) func103 rfl ntmps103 Nb fun St c cs hP=> ?_;refine U7 ?_;refine .e (Or.xA (FG (w::l)) (PD (w::l)) (fun _=> True) rfl rfl rfl rfl rfl dE (fun _=> by simp[PD]) (fun H hs=> .h (EF H)) (fun b _=> ?_));refine U5 ?_;refine .cl (fun H hs=> SB M H (some ⟨b,0,none⟩) (w::l).length (w::l).length (fun i=> (w::l)[i]?.getD []) (OM (P:=(w::l)) (hs.get (i:=0) rfl)) oM [] false gB) ?_;refine U ?_;refine .cl (fun H hs=> wC M H) ?_;refine U4 ?_;refine Tc.db (R':= [(3,.sl b (w::l).length (w::l).length)]) (L':= [Bb b (zA (w::l)) 9]) ?_;refine U40 ?_;refine To.rG rfl rfl rfl rfl rfl (fun H hs=> VE.of (first:= []) (captured:= []) qG rfl (mE M H)) (PG.GL func103 fun H' hs=> hP H' hs.base)
theorem O8(s:By)(hm:s.length<=1000000)(l:List By)(hP:mA 59 s=bB::l)(h:∀x∈bB::l,x≠ [])(hn:(bB::l).length≠3):fD M 103 #[bA s] H rS (fun H'=> H.le H'):=by
 have EF:=fun H=> uD M H s 59 hm;rw[hP] at EF;have hlen:(bB::l).length<=1000001:=by
  rw[<-hP];have h1:=kB 59 s;have h2:s.count 59<=s.length:=List.count_le_length;omega
 have uI:1<=(bB::l).length:=by simp
 have gB:=uC h;have el:iA .eql .i64 (((bB::l).length:Nat):Int) 3=some (.bool false):=IC oM;refine fD.enter (vs:= [bA s]) func103 rfl ntmps103 Nb fun St c cs hP=> ?_;refine U7 ?_;refine .e (Or.xA (FG (bB::l)) (PD (bB::l)) (fun _=> True) rfl rfl rfl rfl rfl dE (fun _=> by simp[PD]) (fun H hs=> .h (EF H)) (fun b _=> ?_));refine U5 ?_;refine .cl (fun H hs=> SB M H (some ⟨b,0,none⟩) (bB::l).length (bB::l).length (fun i=> (bB::l)[i]?.getD []) (OM (P:=(bB::l)) (hs.get (i:=0) rfl)) oM [] false gB) ?_;refine U ?_;refine .cl (fun H hs=> wC M H) ?_;refine U4 ?_;refine Tc.db (R':= [(3,.sl b (bB::l).length (bB::l).length)]) (L':= [Bb b (zA (bB::l)) 9]) ?_;refine U40 ?_;refine To.rG rfl rfl rfl rfl rfl (fun H hs=> VE.of (first:= []) (captured:= []) qG rfl (mE M H)) (PG.GL func103 fun H' hs=> hP H' hs.base)
theorem R8(s:By)(hm:s.length<=1000000)(l:List By)(hP:mA 59 s=OA::l)(h:∀x∈OA::l,x≠ [])(hn:(OA::l).length≠4):fD M 103 #[bA s] H rS (fun H'=> H.le H'):=by
 have EF:=fun H=> uD M H s 59 hm;rw[hP] at EF;have hlen:(OA::l).length<=1000001:=by
  rw[<-hP];have h1:=kB 59 s;have h2:s.count 59<=s.length:=List.count_le_length;omega
 have uI:1<=(OA::l).length:=by simp
 have gB:=uC h;have el:iA .eql .i64 (((OA::l).length:Nat):Int) 4=some (.bool false):=IC oM;refine fD.enter (vs:= [bA s]) func103 rfl ntmps103 Nb fun St c cs hP=> ?_;refine U7 ?_;refine .e (Or.xA (FG (OA::l)) (PD (OA::l)) (fun _=> True) rfl rfl rfl rfl rfl dE (fun _=> by simp[PD]) (fun H hs=> .h (EF H)) (fun b _=> ?_));refine U5 ?_;refine .cl (fun H hs=> SB M H (some ⟨b,0,none⟩) (OA::l).length (OA::l).length (fun i=> (OA::l)[i]?.getD []) (OM (P:=(OA::l)) (hs.get (i:=0) rfl)) oM [] false gB) ?_;refine U ?_;refine .cl (fun H hs=> wC M H) ?_;refine U4 ?_;refine Tc.db (R':= [(3,.sl b (OA::l).length (OA::l).length)]) (L':= [Bb b (zA (OA::l)) 9]) ?_;refine U40 ?_;refine To.rG rfl rfl rfl rfl rfl (fun H hs=> VE.of (first:= []) (captured:= []) qG rfl (mE M H)) (PG.GL func103 fun H' hs=> hP H' hs.base)
theorem T8(s:By)(hm:s.length<=1000000)(l:List By)(hP:mA 59 s=IA::l)(h:∀x∈IA::l,x≠ [])(hn:(IA::l).length≠3):fD M 103 #[bA s] H rS (fun H'=> H.le H'):=by
 have EF:=fun H=> uD M H s 59 hm;rw[hP] at EF;have hlen:(IA::l).length<=1000001:=by
  rw[<-hP];have h1:=kB 59 s;have h2:s.count 59<=s.length:=List.count_le_length;omega
 have uI:1<=(IA::l).length:=by simp
 have gB:=uC h;have el:iA .eql .i64 (((IA::l).length:Nat):Int) 3=some (.bool false):=IC oM;refine fD.enter (vs:= [bA s]) func103 rfl ntmps103 Nb fun St c cs hP=> ?_;refine U7 ?_;refine .e (Or.xA (FG (IA::l)) (PD (IA::l)) (fun _=> True) rfl rfl rfl rfl rfl dE (fun _=> by simp[PD]) (fun H hs=> .h (EF H)) (fun b _=> ?_));refine U5 ?_;refine .cl (fun H hs=> SB M H (some ⟨b,0,none⟩) (IA::l).length (IA::l).length (fun i=> (IA::l)[i]?.getD []) (OM (P:=(IA::l)) (hs.get (i:=0) rfl)) oM [] false gB) ?_;refine U ?_;refine .cl (fun H hs=> wC M H) ?_;refine U4 ?_;refine Tc.db (R':= [(3,.sl b (IA::l).length (IA::l).length)]) (L':= [Bb b (zA (IA::l)) 9]) ?_;refine U40 ?_;refine To.rG rfl rfl rfl rfl rfl (fun H hs=> VE.of (first:= []) (captured:= []) qG rfl (mE M H)) (PG.GL func103 fun H' hs=> hP H' hs.base)
theorem Z2(s:By)(hm:s.length<=1000000)(p q:By)(hP:mA 59 s= [bB,p,q])(h:∀x∈ [bB,p,q],x≠ [])(hl:p.length<=1000000/\q.length<=1000000)(hp:PA p=false):fD M 103 #[bA s] H rS (fun H'=> H.le H'):=by
 have EF:=fun H=> uD M H s 59 hm;rw[hP] at EF;have gB:=uC h;have c1:=fun H=> CI M H p hl.1 hp;refine fD.enter (vs:= [bA s]) func103 rfl ntmps103 Nb fun St c cs hP=> ?_;refine U7 ?_;refine .e (Or.xA (FG [bB,p,q]) (PD [bB,p,q]) (fun _=> True) rfl rfl rfl rfl rfl dE (fun _=> by simp[PD]) (fun H hs=> .h (EF H)) (fun b _=> ?_));refine U5 ?_;refine .cl (fun H hs=> SB M H (some ⟨b,0,none⟩) 3 3 (fun i=> [bB,p,q][i]?.getD []) (CB (P:= [bB,p,q]) (jj:= []) (hs.get (i:=0) rfl)) dE [] false gB) ?_;refine U ?_;refine .cl (fun H hs=> wC M H) ?_;refine U4 ?_;refine Tc.db (R':= [(3,.sl b 3 3)]) (L':= [Bb b [bA bB,bA p,bA q] 9]) ?_;refine MF ?_;refine Tc.drP [] [] mixed rfl (PG.GL func103 fun H' hs=> hP H' hs.base) ?_;refine Tp.tk 0 kR rfl rfl dE rfl rfl (pA.take .mv) ?_;refine Tp.tk 1 kR rfl rfl dE rfl rfl (pA.take .ia) ?_;refine Tp.tk 2 kR rfl rfl dE rfl rfl (pA.take (.ld 0)) ?_;refine Tp.tk 4 kR rfl rfl dE rfl rfl (pA.take .mv) ?_;refine Tp.tk 5 kR rfl rfl dE rfl rfl (pA.take .ia) ?_;refine Tp.tk 6 kR rfl rfl dE rfl rfl (pA.take (.ld 0)) ?_;exact Tp.DI 3 kR rfl rfl rfl rfl rfl rfl (fun H hs rO=> VE.of (first:= []) (captured:= []) jV rfl (c1 H))
theorem C3(s:By)(hm:s.length<=1000000)(p q:By)(hP:mA 59 s= [bB,p,q])(h:∀x∈ [bB,p,q],x≠ [])(hl:p.length<=1000000/\q.length<=1000000)(hp:PA p=true)(hq:PA q=false):fD M 103 #[bA s] H rS (fun H'=> H.le H'):=by
 have EF:=fun H=> uD M H s 59 hm;rw[hP] at EF;have gB:=uC h;have c1:=fun H=> kG M H p hl.1 hp;have c2:=fun H=> CI M H q hl.2 hq;generalize numOf p=x0 at c1;refine fD.enter (vs:= [bA s]) func103 rfl ntmps103 Nb fun St c cs hP=> ?_;refine U7 ?_;refine .e (Or.xA (FG [bB,p,q]) (PD [bB,p,q]) (fun _=> True) rfl rfl rfl rfl rfl dE (fun _=> by simp[PD]) (fun H hs=> .h (EF H)) (fun b _=> ?_));refine U5 ?_;refine .cl (fun H hs=> SB M H (some ⟨b,0,none⟩) 3 3 (fun i=> [bB,p,q][i]?.getD []) (CB (P:= [bB,p,q]) (jj:= []) (hs.get (i:=0) rfl)) dE [] false gB) ?_;refine U ?_;refine .cl (fun H hs=> wC M H) ?_;refine U4 ?_;refine Tc.db (R':= [(3,.sl b 3 3)]) (L':= [Bb b [bA bB,bA p,bA q] 9]) ?_;refine MF ?_;refine Tc.drP [] [] mixed rfl (PG.GL func103 fun H' hs=> hP H' hs.base) ?_;refine Tp.tk 0 kR rfl rfl dE rfl rfl (pA.take .mv) ?_;refine Tp.tk 1 kR rfl rfl dE rfl rfl (pA.take .ia) ?_;refine Tp.tk 2 kR rfl rfl dE rfl rfl (pA.take (.ld 0)) ?_;refine Tp.tk 3 kR rfl rfl dE rfl rfl (pA.tk fun H hs=> c1 H) ?_;refine Tp.tk 4 kR rfl rfl dE rfl rfl (pA.take .mv) ?_;refine Tp.tk 5 kR rfl rfl dE rfl rfl (pA.take .ia) ?_;refine Tp.tk 6 kR rfl rfl dE rfl rfl (pA.take (.ld 0)) ?_;exact Tp.DI 7 kR rfl rfl rfl rfl rfl rfl (fun H hs rO=> VE.of (first:= []) (captured:= []) jV rfl (c2 H))
theorem X2(s:By)(hm:s.length<=1000000)(p q:By)(hP:mA 59 s= [IA,p,q])(h:∀x∈ [IA,p,q],x≠ [])(hl:p.length<=1000000/\q.length<=1000000)(hp:qB p=false):fD M 103 #[bA s] H rS (fun H'=> H.le H'):=by
 have EF:=fun H=> uD M H s 59 hm;rw[hP] at EF;have gB:=uC h;have c1:=fun H=> TR M H p hl.1 hp;refine fD.enter (vs:= [bA s]) func103 rfl ntmps103 Nb fun St c cs hP=> ?_;refine U7 ?_;refine .e (Or.xA (FG [IA,p,q]) (PD [IA,p,q]) (fun _=> True) rfl rfl rfl rfl rfl dE (fun _=> by simp[PD]) (fun H hs=> .h (EF H)) (fun b _=> ?_));refine U5 ?_;refine .cl (fun H hs=> SB M H (some ⟨b,0,none⟩) 3 3 (fun i=> [IA,p,q][i]?.getD []) (CB (P:= [IA,p,q]) (jj:= []) (hs.get (i:=0) rfl)) dE [] false gB) ?_;refine U ?_;refine .cl (fun H hs=> wC M H) ?_;refine U4 ?_;refine Tc.db (R':= [(3,.sl b 3 3)]) (L':= [Bb b [bA IA,bA p,bA q] 9]) ?_;refine U40 ?_;refine .cl (fun H hs=> wC M H) ?_;refine U2 ?_;refine Tc.drP [] [] mixed rfl (PG.GL func103 fun H' hs=> hP H' hs.base) ?_;refine Tp.tk 0 kR rfl rfl dE rfl rfl (pA.take .mv) ?_;refine Tp.tk 1 kR rfl rfl dE rfl rfl (pA.take .ia) ?_;refine Tp.tk 2 kR rfl rfl dE rfl rfl (pA.take (.ld 0)) ?_;refine Tp.tk 4 kR rfl rfl dE rfl rfl (pA.take .mv) ?_;refine Tp.tk 5 kR rfl rfl dE rfl rfl (pA.take .ia) ?_;refine Tp.tk 6 kR rfl rfl dE rfl rfl (pA.take (.ld 0)) ?_;exact Tp.DI 3 kR rfl rfl rfl rfl rfl rfl (fun H hs rO=> VE.of (first:= []) (captured:= []) aCa rfl (c1 H))
theorem Y2(s:By)(hm:s.length<=1000000)(p q:By)(hP:mA 59 s= [IA,p,q])(h:∀x∈ [IA,p,q],x≠ [])(hl:p.length<=1000000/\q.length<=1000000)(hp:qB p=true)(hq:qB q=false):fD M 103 #[bA s] H rS (fun H'=> H.le H'):=by
 have EF:=fun H=> uD M H s 59 hm;rw[hP] at EF;have gB:=uC h;have c1:=fun H=> EP M H p hl.1 hp;have c2:=fun H=> TR M H q hl.2 hq;generalize vE p=x0 at c1;generalize EE p=x1 at c1;refine fD.enter (vs:= [bA s]) func103 rfl ntmps103 Nb fun St c cs hP=> ?_;refine U7 ?_;refine .e (Or.xA (FG [IA,p,q]) (PD [IA,p,q]) (fun _=> True) rfl rfl rfl rfl rfl dE (fun _=> by simp[PD]) (fun H hs=> .h (EF H)) (fun b _=> ?_));refine U5 ?_;refine .cl (fun H hs=> SB M H (some ⟨b,0,none⟩) 3 3 (fun i=> [IA,p,q][i]?.getD []) (CB (P:= [IA,p,q]) (jj:= []) (hs.get (i:=0) rfl)) dE [] false gB) ?_;refine U ?_;refine .cl (fun H hs=> wC M H) ?_;refine U4 ?_;refine Tc.db (R':= [(3,.sl b 3 3)]) (L':= [Bb b [bA IA,bA p,bA q] 9]) ?_;refine U40 ?_;refine .cl (fun H hs=> wC M H) ?_;refine U2 ?_;refine Tc.drP [] [] mixed rfl (PG.GL func103 fun H' hs=> hP H' hs.base) ?_;refine Tp.tk 0 kR rfl rfl dE rfl rfl (pA.take .mv) ?_;refine Tp.tk 1 kR rfl rfl dE rfl rfl (pA.take .ia) ?_;refine Tp.tk 2 kR rfl rfl dE rfl rfl (pA.take (.ld 0)) ?_;refine Tp.tk 3 kR rfl rfl dE rfl rfl (pA.tk fun H hs=> c1 H) ?_;refine Tp.tk 4 kR rfl rfl dE rfl rfl (pA.take .mv) ?_;refine Tp.tk 5 kR rfl rfl dE rfl rfl (pA.take .ia) ?_;refine Tp.tk 6 kR rfl rfl dE rfl rfl (pA.take (.ld 0)) ?_;exact Tp.DI 7 kR rfl rfl rfl rfl rfl rfl (fun H hs rO=> VE.of (first:= []) (captured:= []) aCa rfl (c2 H))
theorem Q8(s:By)(hm:s.length<=1000000)(hC:mR H)(p q w:By)(hP:mA 59 s= [OA,p,q,w])(h:∀x∈ [OA,p,q,w],x≠ [])(hl:w.length<=1000000)(hw:xE w=none):fD M 103 #[bA s] H rS (fun H'=> H.le H'):=by
 have EF:=fun H=> uD M H s 59 hm;rw[hP] at EF;have gB:=uC h;refine fD.enter (vs:= [bA s]) func103 rfl ntmps103 Nb fun St c cs hP=> ?_;refine U7 ?_;refine .e (Or.xA (FG [OA,p,q,w]) (PD [OA,p,q,w]) (fun _=> True) rfl rfl rfl rfl rfl dE (fun _=> by simp[PD]) (fun H hs=> .h (EF H)) (fun b _=> ?_));refine U5 ?_;refine .cl (fun H hs=> SB M H (some ⟨b,0,none⟩) 4 4 (fun i=> [OA,p,q,w][i]?.getD []) (CB (P:= [OA,p,q,w]) (jj:= []) (hs.get (i:=0) rfl)) dE [] false gB) ?_;refine U ?_;refine .cl (fun H hs=> wC M H) ?_;refine U4 ?_;refine Tc.db (R':= [(3,.sl b 4 4)]) (L':= [Bb b [bA OA,bA p,bA q,bA w] 9]) ?_;refine U28 ?_;refine Tc.drP [] [] mixed rfl (PG.GL func103 fun H' hs=> hP H' hs.base) ?_;refine Tp.tk 0 kR rfl rfl dE rfl rfl (pA.take .mv) ?_;refine Tp.tk 1 kR rfl rfl dE rfl rfl (pA.take .ia) ?_;refine Tp.tk 2 kR rfl rfl dE rfl rfl (pA.take (.ld 0)) ?_;refine Tp.tk 3 kR rfl rfl dE rfl rfl (pA.take .mv) ?_;refine Tp.tk 4 kR rfl rfl dE rfl rfl (pA.take .ia) ?_;refine Tp.tk 5 kR rfl rfl dE rfl rfl (pA.take (.ld 0)) ?_;refine Tp.tk 6 kR rfl rfl dE rfl rfl (pA.take .mv) ?_;refine Tp.tk 7 kR rfl rfl dE rfl rfl (pA.take .ia) ?_;refine Tp.tk 8 kR rfl rfl dE rfl rfl (pA.take (.ld 0)) ?_;exact Tp.DI 9 kR rfl rfl rfl rfl rfl rfl (fun H hs rO=> VE.of (first:= []) (captured:= []) aE4 rfl (Z1 M H (hC.le hs.base) w hl hw))
theorem D3(hC:mR H)(s:By)(hm:s.length<=1000000)(h:rowOf s=none):fD M 103 #[bA s] H rS (fun H'=> H.le H'):=by
 unfold rowOf at h;split at h
 ·rename_i he
  exact P8 M H s hm _ rfl he
 rename_i aB
 have hb:=qC 59 s;obtain⟨P,hP⟩:∃P,mA 59 s=P:=⟨_,rfl⟩
 have hPn:=kF 59 s;rw[hP] at h aB hb hPn;have gB:∀x∈P,x≠ []:=fun x hx e=> aB (e▸hx);have rest:∀w l,P=w::l->(w=bB->P.length≠3)->(w=OA->P.length≠4)->(w=IA->P.length≠3)->fD M 103 #[bA s] H rS (fun H'=> H.le H'):=fun w l e h1 h2 h3=> by
  subst e;by_cases e1:w=bB
  ·subst e1;exact O8 M H s hm l hP gB (h1 rfl)
  by_cases e2:w=OA
  ·subst e2;exact R8 M H s hm l hP gB (h2 rfl)
  by_cases e3:w=IA
  ·subst e3;exact T8 M H s hm l hP gB (h3 rfl)
  exact S8 M H s hm w l hP gB e1 e2 e3
 unfold AW at h;split at h
 ·rename_i w p q
  have hp:=hb p (by simp);have hq:=hb q (by simp);split at h
  ·rename_i e
   subst e;split at h
   ·cases h
   rename_i h1
   cases j8:PA p with
   | false=> exact Z2 M H s hm p q hP gB ⟨oM,oM⟩ j8
   | true=> exact C3 M H s hm p q hP gB ⟨oM,oM⟩ j8 (by simpa [j8] using h1)
  ·rename_i e1
   split at h
   ·rename_i e
    subst e;split at h
    ·cases h
    rename_i h1
    cases j8:qB p with
    | false=> exact X2 M H s hm p q hP gB ⟨oM,oM⟩ j8
    | true=> exact Y2 M H s hm p q hP gB ⟨oM,oM⟩ j8 (by simpa [j8] using h1)
   ·rename_i e2
    exact rest w [p,q] rfl (fun e=> (e1 e).elim) (fun _=> by simp) (fun e=> (e2 e).elim)
 ·rename_i w p q y
  have hy:=hb y (by simp);split at h
  ·rename_i e
   subst e;exact Q8 M H s hm hC p q y hP gB oM (by cases hf:xE y with
    | none=> rfl
    | some ws=> rw[hf] at h;cases h)
  ·rename_i e1
   exact rest w [p,q,y] rfl (fun _=> by simp) (fun e=> (e1 e).elim) (fun _=> by simp)
 ·rename_i n3 n4
  cases P with
  | nil=> exact(hPn rfl).elim
  | cons w l=>
   refine rest w l rfl (fun _ e=> ?_) (fun _ e=> ?_) (fun _ e=> ?_)
   ·match l,e with
    | [p,q],_=> exact n3 w p q rfl
   ·match l,e with
    | [p,q,y],_=> exact n4 w p q y rfl
   ·match l,e with
    | [p,q],_=> exact n3 w p q rfl
end
def wl(l:List By):Nat:=(l.map fun p=> p.length+1).sum
theorem UE(p:By)(l:List By):wl (p::l)=p.length+1+wl l:=by simp[wl]
theorem xU:wl []=0:=rfl
theorem TW(y:UInt8)(s:By):wl (mA y s)=s.length+1:=by
 suffices h:∀(n:Nat) (s:By),s.length<=n->wl (mA y s)=s.length+1 from h s.length s (Nat.le_refl _)
 intro n;induction n with
 | zero=>
  intro s hs;obtain rfl:s= []:=List.length_eq_zero_iff.1 oM;rw[tC y [] (by simp)];rfl
 | succ n ih=>
  intro s hs;rcases ZH y s with h0|⟨a,b,rfl,h0⟩
  ·rw[tC y s h0,UE,xU]
  ·simp only[List.length_append,List.length_cons] at hs;rw[xD y b a h0,UE,ih b oM];simp only[List.length_append,List.length_cons];omega
theorem lR(s:By):wl ((vC s).map (WH 10))<=s.length+1:=by
 suffices h:∀(n:Nat) (s:By),s.length<=n->wl ((vC s).map (WH 10))<=s.length+1 from h s.length s (Nat.le_refl _)
 intro n;induction n with
 | zero=>
  intro s hs;obtain rfl:s= []:=List.length_eq_zero_iff.1 oM;rw[wL];simp[wl]
 | succ n ih=>
  intro s hs;by_cases aB:s= []
  ·subst aB;rw[wL];simp[wl]
  rcases ZH 10 s with h0|⟨a,b,rfl,h0⟩
  ·rw[qS h0 aB,List.map_cons,List.map_nil,vZ h0,UE,xU];exact Nat.le_refl _
  ·simp only[List.length_append,List.length_cons] at hs;rw[xQ h0,List.map_cons,ZR,UE];have:=ih b oM;simp only[List.length_append,List.length_cons];omega
theorem KP(z:Int):5<=(EB z).length:=by
 unfold EB;split
 ·decide
 ·split <;> decide
theorem NS:∀ws:List Int,6*ws.length<=wl (ws.map EB)
 | []=> Nat.le_refl _
 | z::ws=> by
  have:=NS ws;have:=KP z;rw[List.map_cons,UE,List.length_cons];omega
theorem X1 {s:By}{ws:List Int}(h:xE s=some ws):6*ws.length<=s.length+1:=by
 unfold xE at h;split at h
 ·cases h;simp
 ·obtain⟨h1,_⟩:=SF h;have:=NS ws;rw[<-h1,TW] at this;exact this
structure LF where
 aD:Int
 yB:Int
 ls:List (By×By×List Int)
 ts:List (Int×Int×Int×Int)
 la:Nat
def LF.bk(s:LF):Bk:=
 { aD:=s.aD,yB:=s.yB,nl:=s.ls.length,name:=fun i=> (s.ls[i]?.getD ([],[],[])).1,num:=fun i=> (s.ls[i]?.getD ([],[],[])).2.1,nf:=fun i=> (s.ls[i]?.getD ([],[],[])).2.2.length,free:=fun i j=> ((s.ls[i]?.getD ([],[],[])).2.2)[j]?.getD 0,nt:=s.ts.length,pf:=fun j=> (s.ts[j]?.getD (0,0,0,0)).1,pt:=fun j=> (s.ts[j]?.getD (0,0,0,0)).2.1,qf:=fun j=> (s.ts[j]?.getD (0,0,0,0)).2.2.1,qt:=fun j=> (s.ts[j]?.getD (0,0,0,0)).2.2.2 }
def dK:LF:=⟨0,0,[],[],0⟩
def Row.kind:Row->Nat
 | .TC _ _=> 0
 | .line _ _ _=> 1
 | .xF _ _ _ _=> 2
def LF.put(s:LF):Row->LF
 | .TC a b=> { s with aD:=a,yB:=b,la:=0 }
 | .line p q ws=> { s with ls:=s.ls++[(p,q,ws)],la:=1 }
 | .xF a z x y=> { s with ts:=s.ts++[(a,z,x,y)],la:=2 }
def HE(d la:Nat)(r:Row):Bool:=((r.kind==0)==(d==0))&&decide (la<=r.kind)
def ZE:List By->Nat->LF->LF ⊕ Nat
 | [],_,s=> .inl s
 | x::xs,d,s=>
  match rowOf x with
  | some r=> if HE d s.la r then ZE xs (d+1) (s.put r) else .inr (d+1)
  | none=> .inr (d+1)
def xG(s:By):List By:=(vC s).map (WH 10)
def BE(s:By):Bk×Nat×Int:=
 match ZE (xG s) 0 dK with
 | .inr n=> (dK.bk,n,3)
 | .inl t=> if xG s= [] then(dK.bk,0,3) else if t.bk.WA=0 then(t.bk,0,0) else(dK.bk,0,t.bk.WA)
theorem LN {x:By}(xs:List By)(d:Nat)(s:LF)(h:rowOf x=none):ZE (x::xs) d s=.inr (d+1):=by
 rw[ZE,h]
theorem iF {x:By}(xs:List By)(d:Nat)(s:LF){r:Row}(h:rowOf x=some r)(hf:HE d s.la r=false):ZE (x::xs) d s=.inr (d+1):=by
 rw[ZE,h];simp only[hf,Bool.false_eq_true,if_false]
theorem EI {x:By}(xs:List By)(d:Nat)(s:LF){r:Row}(h:rowOf x=some r)(hf:HE d s.la r=true):ZE (x::xs) d s=ZE xs (d+1) (s.put r):=by
 rw[ZE,h];simp only[hf,if_true]
theorem PQ {x:By}{r:Row}(h:rowOf x=some r):5<=x.length/\match r with
  | .line _ q ws=> q.length<=x.length/\6*ws.length<=x.length+1
  | _=> True:=by
 unfold rowOf at h;split at h
 ·cases h
 rename_i aB
 have hw:=TW 59 x;have hb:=qC 59 x;generalize mA 59 x=P at h aB hw hb;have uI:∀p∈P,1<=p.length:=fun p hp=> by
  rcases Nat.eq_zero_or_pos p.length with e|e
  ·rw[List.length_eq_zero_iff.1 e] at hp;exact(aB hp).elim
  ·exact e
 unfold AW at h;split at h
 ·rename_i w p q
  have h1:=uI w (by simp);have h2:=uI p (by simp);have h3:=uI q (by simp);simp only[UE,xU] at hw;refine⟨oM,?_⟩;split at h
  ·split at h
   ·cases h;trivial
   ·cases h
  ·split at h
   ·split at h
    ·cases h;trivial
    ·cases h
   ·cases h
 ·rename_i w p q y
  have h1:=uI w (by simp);have h2:=uI p (by simp);have h3:=uI q (by simp);have h4:=uI y (by simp);have h5:=hb q (by simp);have h6:=hb y (by simp);simp only[UE,xU] at hw;refine⟨oM,?_⟩;split at h
  ·cases hf:xE y with
   | none=> rw[hf] at h;cases h
   | some ws=>
    rw[hf] at h;cases h
    have:=X1 hf;exact⟨h5,oM⟩
  ·cases h
 ·cases h
structure LF.Small(s:LF)(n:Nat):Prop where
 sum:6*(s.ls.length+s.ts.length)+n<=2001
 ls:∀x∈s.ls,x.2.1.length<=2000/\x.2.2.length<=400
theorem LF.Small.put {s:LF}{n:Nat}{x:By}{r:Row}(h:s.Small (x.length+1+n))(hr:rowOf x=some r):(s.put r).Small n:=by
 obtain⟨h1,h2⟩:=PQ hr;obtain⟨h3,h4⟩:=h;cases r with
 | TC a b=> exact⟨by show 6*(s.ls.length+s.ts.length)+n<=2001;omega,h4⟩
 | line p q ws=>
  refine⟨?_,fun y hy=> ?_⟩
  ·show 6*((s.ls++[(p,q,ws)]).length+s.ts.length)+n<=2001;simp only[List.length_append,List.length_cons,List.length_nil];omega
  ·rcases List.mem_append.1 hy with hy|hy
   ·exact h4 y hy
   ·simp only[List.mem_singleton] at hy;subst hy;simp only at h2;exact⟨by show q.length<=2000;omega,by show ws.length<=400;omega⟩
 | xF a z x y=>
  refine⟨?_,h4⟩;show 6*(s.ls.length+(s.ts++[(a,z,x,y)]).length)+n<=2001;simp only[List.length_append,List.length_cons,List.length_nil];omega
theorem LF.Small.bk {s:LF}{n:Nat}(h:s.Small n):s.bk.small:=by
 refine⟨by show s.ls.length<=1000;have:=h.sum;omega,by show s.ts.length<=1000;have:=h.sum;omega,fun i hi=> ?_⟩;have hi:i<s.ls.length:=hi;have:=h.ls _ (List.getElem_mem hi);show((s.ls[i]?.getD ([],[],[])).2.1).length<=_/\((s.ls[i]?.getD ([],[],[])).2.2).length<=_;rw[List.getElem?_eq_getElem hi];simp only[Option.getD_some];omega
theorem ZI {n:Nat}(h:n<=2001):dK.Small n:=⟨by show 6*(0+0)+n<=2001;omega,fun x hx=> nomatch hx⟩
section
variable(M:Md prog)(H:View)
theorem E3(s:By)(hm:s.length<=1000000)(b1:Nat)(pv:Value):
  aB3 M (UT b1) (vC s) (fun x (_:Unit)=> [bA x]) (fun _ _=> []) (fun _ _=> []) (fun _=> True) [Bb b1 [bA s] 9] H pv:=fun l J D X _ h0 hy H₀ fF=> by
 refine sR.of (first:= []) (captured:= [_]) aE3 rfl ?_;refine LU.enter (vs:= [.func (.yield l) #[] #[],.pt b1]) func175 rfl ntmps175 Nb fF fun St c cs hK hP=> ?_;refine U ?_;refine Tc.db (Tc.aK (σ:= { x:By×View//J (vC x.1) x.2/\x.1.length<=1000000/\∃dn,dn++vC x.1=vC s }) (fun x=> (x.1.2,[(0,.func (.yield l) #[] #[]),(1,.pt b1)],[Bb b1 [bA x.1.1] 9])) (fun x=> x.1.1.length) ?_ ⟨(s,H),h0,hm,[],rfl⟩);rintro⟨⟨r,H₁⟩,j1,hr,dn,hdn⟩ ih;simp only at j1 hr hdn;dsimp only;by_cases c1:r= []
 ·clear ih;subst c1;refine U9 ?_;refine .ov hK func175 results175 [] ?_;exact fun H' hs=> ⟨H₁,hs.base,.inl j1⟩
 ·have c2:1<=r.length:=List.length_pos_iff.2 c1;rcases ZH 10 r with h0|⟨p,q,rfl,h0⟩
  ·have hx:=I8 h0;rw[qS h0 c1] at j1 hdn;have VD:r∈vC s:=by rw[<-hdn];simp
   refine fL ?_;refine .cl (fun H hs=> NL M H r 10 _ hx) ?_;refine II ?_;refine To.J6 rfl rfl rfl rfl rfl rfl dE (hy r [] () H₁ H₁ VD j1 (jA.nil _)) (fun v H₂ hv=> ?_) (fun H₂ hx=> PG.GL func175 fun H' hs=> hP H' ⟨H₂,hs.base,hx⟩);rcases hv with ⟨rfl,H₃,h3,j3⟩|⟨rfl,hD⟩
   ·have vG:=ih ⟨([],H₃),j3,by simp,dn++[r],by rw[wL,List.append_nil];exact hdn⟩ (by simp only[List.length_nil];omega);refine To.lower h3.base ?_;refine U5 ?_;exact Tc.db (vG)
   ·refine U3 ?_;refine .rt hK func175 results175 [] ?_;exact fun H' hs=> ⟨H₂,hs.base,.inr hD⟩
  ·have hx:=tP (q:=q) h0;rw[xQ h0] at j1 hdn;have VD:p++[10]∈vC s:=by rw[<-hdn];simp
   have hl:(p++10::q).length=p.length+1+q.length:=by simp;omega
   have t1:((p++10::q).drop ((0:Nat):Int).toNat).take ((((p.length:Nat):Int)+1).toNat-((0:Nat):Int).toNat)=p++[10]:=by
    have e:(((p.length:Nat):Int)+1).toNat=p.length+1:=by omega
    rw[e,show p++10::q=(p++[10])++q by simp];show((p++[10])++q).take (p.length+1-0)=_;rw[List.take_left' (by simp)]
   have t2:((p++10::q).drop (((p.length:Nat):Int)+1).toNat).take ((((p++10::q).length:Nat):Int).toNat-(((p.length:Nat):Int)+1).toNat)=q:=by
    have e:(((p.length:Nat):Int)+1).toNat=p.length+1:=by omega
    rw[e,hl,List.drop_append,List.drop_of_length_le oM,List.nil_append,Nat.add_sub_cancel_left,List.drop_succ_cons,List.drop_zero];exact List.take_of_length_le oM
   have vG:=fun(H₃:View) (j3:J (vC q) H₃)=> ih ⟨(q,H₃),j3,by simp only;omega,dn++[p++[10]],by rw[<-hdn];simp⟩ Ob;clear ih;simp only at vG;obtain⟨r,L2⟩:∃r,r=p++10::q:=⟨_,rfl⟩
   rw[<-L2] at hl hx t1 t2 hr c2 ⊢;refine fL ?_;refine .cl (fun H hs=> NL M H r 10 _ hx) ?_;refine U8 ?_;refine Tc.dr [9] [0] mixed rfl ?_;refine V3 0 ?_;refine .q 3 rfl (pA.pD (E:=en) rfl rfl rfl rfl rfl rfl oM oM oM) ?_;refine V3 4 ?_;refine .q 7 rfl (pA.pD (E:=en) rfl rfl rfl rfl rfl rfl oM oM oM) ?_;refine .nn 8 ?_;refine .e 9 0 ?_;refine .dn ?_;rw[t1,t2];refine U4 ?_;refine To.J6 rfl rfl rfl rfl rfl rfl dE (hy (p++[10]) (vC q) () H₁ H₁ VD j1 (jA.nil _)) (fun v H₂ hv=> ?_) (fun H₂ hx=> PG.GL func175 fun H' hs=> hP H' ⟨H₂,hs.base,hx⟩);rcases hv with ⟨rfl,H₃,h3,j3⟩|⟨rfl,hD⟩
   ·refine To.lower h3.base ?_;refine U5 ?_;exact Tc.db (vG H₃ j3)
   ·refine U3 ?_;refine .rt hK func175 results175 [] ?_;exact fun H' hs=> ⟨H₂,hs.base,.inr hD⟩
theorem aW(hC:mR H)(s:By)(hm:s.length<=1000000){a b:Int}(h:rowOf s=some (.TC a b)):fA M 103 #[bA s] H (Ib H (a7 a b)):=
 fA.mono (HN M H hC s hm _ h) fun v H' hv=> by obtain⟨h1,B,h2,_⟩:=hv;exact⟨h1,h2.1⟩
theorem TT(hC:mR H)(s:By)(hm:s.length<=1000000){a z x y:Int}(h:rowOf s=some (.xF a z x y)):fA M 103 #[bA s] H (Ib H (NY a z x y)):=
 fA.mono (HN M H hC s hm _ h) fun v H' hv=> by obtain⟨h1,B,h2,_⟩:=hv;exact⟨h1,h2.1⟩
theorem bW(hC:mR H)(s:By)(hm:s.length<=1000000){p q:By}{ws:List Int}(h:rowOf s=some (.line p q ws)):
  fA M 103 #[bA s] H (fun v H'=> H.le H'/\∃g:Gl 110 1,v=j0 p q g/\(g.n=ws.length/\g.l=QB ws)/\∀x∈g.bl,H' x.1=some x.2/\H x.1=none):=
 fA.mono (HN M H hC s hm _ h) fun v H' hv=> by obtain⟨h1,B,⟨g,h2,h3,rfl⟩,h4⟩:=hv;exact⟨h1,g,h2,h3,h4⟩
end
end Go.Proofs.YtldmfjcgjdchcaaGreatDoor
namespace Go.RL
open Go.Conc
section
variable {P:Program}{M:Md P}{St:View->Goroutine->Prop}{n:Nat}{b:FB}{H₀:View}{cs:List Frame}{R:Rg}{L L':Bl}{ds:List Deferred}{o:Oper}{v:Value}
theorem pA.aDp {t u s:TypeId}{x:Operand}{w:Value}(lA:o.op=.binOp .eql t x (.const .nilIface) u)(hx:JA R x=some (.iface s w))(hi:ifT P t=true):pA P n H₀ R L o (.bool false):=fun H tmps _ hr=> by
 obtain⟨ms,ht⟩:=cY hi;unfold execOp;rw[lA];simp only[hr.ev hx];show HA P (((eqGuard .eql t x (.const .nilIface) (.iface s w) .nilIface).bind fun _=> binOp .eql t (.iface s w) .nilIface).bind _) H _;refine aA _ _ (aA _ _ ?_);have hg:eqGuard .eql t x (.const .nilIface) (.iface s w) .nilIface=Sem.pure ():=by
  unfold eqGuard;cases x <;> rfl
 rw[hg];show HA P ((Op.equalIn (9999+1) t (.iface s w) .nilIface).bind fun c=> Sem.pure (Value.bool c)) H _;refine aA _ _ ?_;unfold Op.equalIn;refine aA (underlying t) _ (gA ht ?_);exact⟨rfl,rfl⟩
theorem PG.aCf(hL:L'.Sublist L)(h:PG M St n b H₀ cs R L' ds v):PG M St n b H₀ cs R L ds v:=fun H tmps todo hs hr=> h H tmps todo (hs.less hL) hr
variable {E:Env P}{K:Rg->Bl->Prop}
theorem Or.aEK {t:TypeId}{x y:Operand}{r:FA}{blk off:Nat}(lA:o.op=.store t x y)(hx:JA R x=some (.pointer (some ⟨blk,off,none⟩)))(hy:JA R y=some v)(ht:E.ty t=some r)(hz:v.cells.toList= [])(h0:r.size=0)(hd:o.dst=none)(hk:K R L):Or M n H₀ R L o K:=
 .GL hd fun H tmps aC hr=> by
  unfold execOp;rw[lA];simp only[hr.ev hx,hr.ev hy];show HA P ((storeVar t _ v).bind _) H _;refine aA _ _ (aA (sizeOf t) _ (ZA (E.ok _ _ ht).size ?_));have hs:v.cells.size=0:=by rw[<-Array.length_toList,hz];rfl
  rw[if_neg (by simp[hs,h0])];show HA P (storeCells ⟨blk,off,none⟩ v.cells.toList) H _;rw[hz];exact⟨rfl,L,aC,hk⟩
end
end Go.RL
