/-
 Texts of the proofs over baudot/dial.
-/
import Derived.Test.YtldmfjcgjdchcaaGreatDoorL08
import Derived.Test.YtldmfjcgjdchcaaGreatDoorTie
import Derived.Test.YtldmfjcgjdchcaaGreatDoorCards
import Derived.ProofKit
import Derived.LaidMore
import Derived.LaidHandle
import Derived.LaidSub
import Derived.Lay
import Derived.Laws.IdiomArrays
import Derived.Conc.LeavingOf
import Derived.SevenTiedAt
namespace Go.RL
open Go.Conc Go.ConcN Go.RL.Au
open Go.ConcR (stA smA)
open Go.ConcM (muA OsLater)
theorem aCg {s:Sh}{t:Mn}(hp:t.plain=true)(hm:t.mv s= []):t=.ws/\s.q=0:=by
 cases t <;> simp only[Mn.mv] at hm
 case go=> cases hp
 case ret=> cases hp
 case ws=>
  split at hm
  ·exact⟨rfl,by assumption⟩
  ·cases hm
 case w2=> split at hm <;> cases hm
 all_goals cases hm
theorem TI.bare {Mu Wg C base N hs g:Nat}{H:Nat->View}{B:View}{t u:Trace}(h:TI Mu Wg C base N hs H B t)(hg:∀op∈u,op.g=g)(hN:g<N)(hu:∀op∈u,op.act.touch? =none)(hr:∀op∈u,∀a,op.act≠ .mark (.release a)):TI Mu Wg C base N hs H B (t++u):=by
 have old:∀ {i:Nat} {a:Touch},touchAt (t++u) i=some a->touchAt t i=some a/\i<t.size:=by
  intro i a ha;rcases tB ha with ⟨hi,dH⟩|⟨hi,op,lA,_,hxx⟩
  ·exact⟨dH,hi⟩
  ·rw[hu op lA] at hxx;cases hxx
 have oldop:∀ {i:Nat} {op:MemOp} {a:Touch},(t++u)[i]? =some op->op.act.touch? =some a->t[i]? =some op/\i<t.size:=by
  intro i op a lA ha;rcases getElem?_append_cases lA with ⟨hi,PD⟩|⟨hi,QC⟩
  ·exact⟨PD,hi⟩
  ·rw[hu op QC] at ha;cases ha
 refine⟨fun said=> noRace_append (h.nr said) hg fun i a _ op lA b hb _=> (by rw[hu op lA] at hb;cases hb),fun i a b ha hb=> h.bd i a b (old ha).1 hb,fun j hj i a b f o ha hb hH hw=> (h.kn j hj i a b f o (old ha).1 hb hH hw).app u,
  fun i op a lA ha hk HB=> (h.pl i op a (oldop lA ha).1 ha hk HB).app u,fun i a b ha hk hb=> h.np i a b (old ha).1 hk hb,fun i op a lA ha hk=> ?_,fun j hj i a b ha hk hb EH=> (h.sy j hj i a b (old ha).1 hk hb EH).app u,fun a=> (h.rel a).app fun op lA=> hr op lA a,fun i op lA=> ?_,fun i a ha=> h.mem i a (old ha).1⟩
 ·obtain⟨h3,hi⟩:=oldop lA ha;obtain⟨h1,h2⟩:=h.SZ i op a h3 ha hk;exact⟨h1,fun e e'=> by rw[heard_old hi];exact h2 e e'⟩
 ·rcases getElem?_append_cases lA with ⟨hi,PD⟩|⟨hi,QC⟩
  ·exact h.gs i op PD
  ·rw[hg op QC];exact hN
theorem UU {g:Nat}{fn:FuncId}{pos:String}{es:Array Event}(h:∀e∈es,e.mute=true):∀op∈MemOp.ofEvents g fn pos es,op.g=g/\op.act.touch? =none/\∀a,op.act≠ .mark (.release a):=by
 rw[ofEvents_eq];intro op lA;obtain⟨e,he,rfl⟩:=Array.mem_map.1 lA;have:=h e he;obtain⟨loc,wr,sy⟩:=e;cases loc with
 | mark m=> cases m <;> simp[Event.mute] at this <;> simp[MemAct.ofEvent,MemAct.touch?]
 | _=> simp[Event.mute] at this
section
variable {P:Program}{X:Fk}{Fin:Goroutine->Prop}{B:View}{base:Nat}{os0:C1}{gs:Array Goroutine}{w:World}{t:Trace}{ths:List Th}{m:Mn}{s:Sh}{H:Nat->View}{ks:Nat->Nat}{rks:List JB}{q:Nat->Nat}{D:Nat->Bool}
variable {sl:Option (Nat×Nat)}
theorem WT.leave {N:Nat}(h:WT X B base N os0 w t ths m s H D){i:Nat}{fn:FuncId}{pos:String}{es:Array Event}(hi:0<i)(hN:i<N)(hm:∀e∈es,e.mute=true)(hq:∀(κ:Nat) T,ths[κ]? =some T->base+κ=i->T=.quit):
  WT X B base N os0 w (t++MemOp.ofEvents i fn pos es) ths m s H D:=by
 have ho:=UU (g:=i) (fn:=fn) (pos:=pos) hm;have JN:∀op∈MemOp.ofEvents i fn pos es,op.g=i:=fun op lA=> (ho op lA).1;refine⟨h.sh,h.cb,h.vi,h.hx,h.ti.bare JN hN (fun op lA=> (ho op lA).2.1) (fun op lA=> (ho op lA).2.2),?_,fun κ T hκ hT=> ?_,?_,fun κ T hκ hT=> ?_,h.os⟩
 ·obtain⟨h1,h3,h4⟩:=h.free;exact⟨h1,h3,h4.grow fun op lA x hx=> by rw[(ho op lA).2.1] at hx;cases hx⟩
 ·obtain⟨r,hr⟩:=h.UI κ T hκ hT;refine⟨r,hr.app fun j hj hgj hc=> ?_⟩;obtain⟨a,ha,_⟩:=hc;obtain⟨op,lA,WW⟩:=touch_of ha;rcases getElem?_append_cases lA with ⟨hl,_⟩|⟨_,QC⟩
  ·omega
  ·rw[(ho op QC).2.1] at WW;cases WW
 ·rw[Deaf_other t (g:=0) (g':=i) oM _ JN];exact h.SV
 ·have e:i≠base+κ:=fun e=> hT (hq κ T hκ e.symm);rw[Deaf_other t (g:=base+κ) (g':=i) e _ JN];exact h.qZ κ T hκ hT
theorem PI.pos(h:PI P X Fin B base os0 gs w t ths m s H ks rks q D):∀i,Act base gs.size i->0<ks i:=fun i hi=> Nat.lt_of_le_of_lt (Nat.zero_le _) (h.depth i hi)
theorem PI.at(h:PI P X Fin B base os0 gs w t ths m s H ks rks q D)(d:Nat):PI P X Fin B base os0 gs (w.at d) t ths m s H ks rks q D:=⟨h.inv,h.b1,h.ne,h.dd,h.depth,h.wt.at d,h.si⟩
def PI.meas(X:Fk)(gs:Array Goroutine)(ths:List Th)(m:Mn)(s:Sh)(rks:List JB)(q:Nat->Nat):FR:=(mu X.n ths m s,rks,sumTo gs.size q,runs gs)
def Goes(P:Program)(X:Fk)(Fin:Goroutine->Prop)(B:View)(base:Nat)(os0:C1)(μ:FR)(w:World)(t:Trace)(gs:Array Goroutine)(r:Stepped×Array MemOp):Prop:=
 (∃gs' w' sl' ops ths' m' s' H' ks' rks' q' D',r=(.next (crowd gs' w' sl'),ops)/\PI P X Fin B base os0 gs' w' (t++ops) ths' m' s' H' ks' rks' q' D'/\ZF (PI.meas X gs' ths' m' s' rks' q') μ)\/ 
 (∃gs' sl' g g' ths s H ks rks q D,gs[0]? =some g/\r=(.next (crowd gs' w sl'),MemOp.ofEvents 0 g.frame.fn g.frame.place #[Go.ConcR.mk (.acquire (stA X.Wg))])/\gs'=nD P gs 0 g g' w/\Fin g'/\PI P X Fin B base os0 gs w t ths .aq s H ks rks q D)
theorem PI.W3(h:PI P X Fin B base os0 gs w t ths m s H ks rks q D){κ:Nat}{T T':Th}(hκ:ths[κ]? =some T)(hd:T'.did=T.did):∀κ',D κ'=(((ths.set κ T')[κ']?).map Th.did).getD false:=fun κ'=> by
 rw[h.dd κ'];by_cases e:κ=κ'
 ·subst e;rw[List.getElem?_set_self (List.getElem?_eq_some_iff.1 hκ).1,hκ];simp[hd]
 ·rw[List.getElem?_set_ne e]
theorem uF {i:Nat}{u:Trace}(hu:∀op∈u,op.g=i):∀j,j≠i->Deaf (t++u) j=Deaf t j:=fun j hj=> Deaf_other t (g:=j) (g':=i) (Ne.symm hj) u hu
theorem ofEvents_g {g:Nat}{fn:FuncId}{pos:String}{es:Array Event}:∀op∈MemOp.ofEvents g fn pos es,op.g=g:=by
 rw[ofEvents_eq];intro op lA;obtain⟨e,_,rfl⟩:=Array.mem_map.1 lA;rfl
theorem l6 {a b:Nat}{x y:List JB×(Nat×Nat)}(h:a<b):ZF (a,x) (b,y):=.left _ _ h
theorem m6 {a:Nat}{x y:List JB}{u v:Nat×Nat}(h:XX x y):ZF (a,x,u) (a,y,v):=.right _ (.left _ _ h)
theorem aCd {a b c:Nat}{x:List JB}{u v:Nat}(h:b<c):ZF (a,x,b,u) (a,x,c,v):=.right _ (.right _ (.left _ _ h))
theorem aCe {a b:Nat}{x:List JB}{u v:Nat}(h:u<v):ZF (a,x,b,u) (a,x,b,v):=.right _ (.right _ (.right _ h))
theorem BX {i:Nat}{g g':Goroutine}(hi:gs[i]? =some g)(hg:g.status=.running)(hg':g'.status=.blocked):runs (nD P gs i g g' w)<runs gs:=by
 have e:nD P gs i g g' w=gs.setIfInBounds i g':=by
  unfold nD;have:woken P g g' w=id:=by
   funext o
   simp[woken,hg']
  rw[this,Array.map_id]
 rw[e];obtain⟨HB,rfl⟩:=Array.getElem?_eq_some_iff.1 hi;unfold runs;rw[Array.toList_setIfInBounds];have:=List.countP_set (p:=fun g:Goroutine=> g.status==.running) (l:=gs.toList) (i:=i) (a:=g') (by simpa using HB);rw[this];have h1:((gs.toList[i]'(by simpa using HB)).status==GoStatus.running)=true:=by simpa using hg
 have h2:0<gs.toList.countP fun g:Goroutine=> g.status==.running:=List.countP_pos_iff.2 ⟨gs[i],by simp,by simp[hg]⟩;have h3:¬(g'.status==GoStatus.running)=true:=by simp[hg']
 rw[if_pos h1,if_neg h3];omega
theorem PI.TU(h:PI P X Fin B base os0 gs w t ths m s H ks rks q D){κ k:Nat}{T T':Th}{s':Sh}{g g':Goroutine}{w':World}{es:Array Event}{H':View}{D':Nat->Bool}{ρ':JB}{q':Nat}(hκ:ths[κ]? =some T)(hg:gs[base+κ]? =some g)(hk:ks (base+κ)=k+1)
  (hm:(T',s')∈T.mv s) (IB:stepG P false g w=.go g' w' es) (VN:WT X B base gs.size os0 w' (t++MemOp.ofEvents (base+κ) g.frame.fn g.frame.place es) (ths.set κ T') m s' (upd H (base+κ) H') D')
  (hs:LR P X κ T' k H' ρ' q' (Deaf (t++MemOp.ofEvents (base+κ) g.frame.fn g.frame.place es) (base+κ)) g') (mM:∀κ',D' κ'=(((ths.set κ T')[κ']?).map Th.did).getD false)
  (hQ:s'.q<=s.q\/(mayWake P g=true/\g'.status=.running)):
  Goes P X Fin B base os0 (PI.meas X gs ths m s rks q) w t gs (runT P (crowd gs w sl) (base+κ)):=by
 have hN:base+κ<gs.size:=(Array.getElem?_eq_some_iff.1 hg).1;have hb:=h.b1;have HO:Act base gs.size (base+κ):=.inr ⟨oM,hN⟩;have OW:(base+κ==0)=false:=by simp;omega
 have UN:=PZ h.inv hκ hm;have mL:=h.depth _ HO;rw[hk] at mL;have FY:=h.si.worker (w':=w') (g:=g) (g':=g') (T':=T') (H':=H') (k':=k) (q':=q') (ρ':=ρ') (s':=s') hb h.pos hκ (uF ofEvents_g) hQ hs;refine .inl ⟨nD P gs (base+κ) g g' w',w',sl,_,ths.set κ T',m,s',_,_,_,_,D',runT_crowd_go hg (by rw[OW];exact IB),⟨h.inv.step hκ hm,hb,h.ne,mM,fun j hj=> ?_,?_,FY⟩,l6 UN⟩
 ·rw[CA] at hj;by_cases e:j=base+κ
  ·subst e;rw[upd_same];omega
  ·rw[upd_ne _ _ e];exact Nat.lt_trans UN (h.depth j hj)
 ·rw[CA];exact VN
theorem PI.TY(h:PI P X Fin B base os0 gs w t ths m s H ks rks q D){κ k:Nat}{T:Th}{g:Goroutine}(hκ:ths[κ]? =some T)(hg:gs[base+κ]? =some g)(hk:ks (base+κ)=k+1)
  (hs:WS P X κ (k+1) T (H (base+κ)) g):
  Goes P X Fin B base os0 (PI.meas X gs ths m s rks q) w t gs (runT P (crowd gs w sl) (base+κ)):=by
 have hN:base+κ<gs.size:=(Array.getElem?_eq_some_iff.1 hg).1;have hb:=h.b1;obtain⟨_,pw,wr,qt,pl⟩:=hs;have sK:=h.wt.vi.sat (base+κ);have JI:upd H (base+κ) (H (base+κ))=H:=eJ _ _;have HB:=(List.getElem?_eq_some_iff.1 hκ).1;have aFS:D κ=T.did:=by rw[h.dd κ,hκ];rfl
 cases hp:T.plain with
 | true=>
  obtain⟨ZB,JJ⟩:=h.inv.ok hκ;obtain⟨T',s',g',w',es,hm,IB,htu,hqe,hra,TG,gQ,KN,vS⟩:=pl hp w s sK h.wt.sh ZB JJ;obtain⟨k2,k3⟩:=VU hp hm;have VN:=h.wt.TY (fn:=g.frame.fn) (pos:=g.frame.place) h.ne hb hκ hN hp hm htu hqe;have mM:=h.W3 hκ k2;have hQ:s'.q<=s.q\/(mayWake P g=true/\g'.status=.running):=by
   cases aEE:T.uX with
   | true=> exact .inr ⟨hra aEE,TG⟩
   | false=> exact .inl (aCi aEE hm)
  by_cases ZJ:T'=.quit
  ·obtain⟨q',DY⟩:=gQ ZJ;refine h.TU hκ hg hk hm IB (H':=H (base+κ)) (D':=D) (ρ':=.stop) (q':=q') (by rw[JI];exact VN) (.quit ZJ ?_) mM hQ;have:Deaf (t++MemOp.ofEvents (base+κ) g.frame.fn g.frame.place es) (base+κ)=1:=by
    rw[Deaf_own,h.wt.qZ κ T hκ (by rintro rfl;cases hp),hqe.net,ZJ];rfl
   rw[this];exact DY
  ·cases UN:T'.mute with
   | true=>
    obtain⟨n,hn⟩:=KN ZJ UN;exact h.TU hκ hg hk hm IB (H':=H (base+κ)) (D':=D) (ρ':=KG n) (q':=q (base+κ)) (by rw[JI];exact VN) (.quiet n ⟨ZJ,UN⟩ rfl hn) mM hQ
   | false=>
    obtain⟨ρ',Q5⟩:=(vS UN).vX;exact h.TU hκ hg hk hm IB (H':=H (base+κ)) (D':=D) (ρ':=ρ') (q':=q (base+κ)) (by rw[JI];exact VN) (.walk UN Q5) mM hQ
 | false=>
  have zU:T=.pw\/T=.wr\/T=.quit:=by cases T <;> simp[Th.plain] at hp <;> simp
  rcases zU with rfl|rfl|rfl
  ·obtain⟨⟨o,h1,h2⟩,_,_⟩:=h.wt.free;obtain⟨g',w',o',es,IB,how,hG,hT'⟩:=pw rfl D o aFS h2 w sK h1;obtain⟨ρ',Q5⟩:=hT'.vX;have VN:=h.wt.aGz (fn:=g.frame.fn) (pos:=g.frame.place) h.ne hκ hN how hG;refine h.TU hκ hg hk (T':=.wr) (s':=s) (by simp[Th.mv]) IB (H':=H (base+κ)) (by rw[JI];exact VN) (q':=q (base+κ)) (.walk rfl Q5) (fun κ'=> ?_) (.inl (Nat.le_refl _));by_cases e:κ'=κ
   ·subst e;rw[List.getElem?_set_self HB];simp[YT,Th.did]
   ·rw[List.getElem?_set_ne (Ne.symm e),<-h.dd κ',Z8 e]
  ·obtain⟨g',IB,n,hn⟩:=wr rfl w sK;have VN:=h.wt.mute (fn:=g.frame.fn) (pos:=g.frame.place) h.ne hκ hN;exact h.TU hκ hg hk (T':=.wk) (s':=s) (by simp[Th.mv]) IB (H':=H (base+κ)) (D':=D) (ρ':=KG n) (q':=q (base+κ)) (by rw[JI];exact VN) (.quiet n ⟨by simp,rfl⟩ rfl hn) (h.W3 hκ rfl) (.inl (Nat.le_refl _))
  ·exact(qt rfl).elim
theorem PI.worker(h:PI P X Fin B base os0 gs w t ths m s H ks rks q D){κ:Nat}{T:Th}{g:Goroutine}(hκ:ths[κ]? =some T)(hg:gs[base+κ]? =some g)(hr:g.status=.running):
  Goes P X Fin B base os0 (PI.meas X gs ths m s rks q) w t gs (runT P (crowd gs w sl) (base+κ)):=by
 have hN:base+κ<gs.size:=(Array.getElem?_eq_some_iff.1 hg).1;have HB:=(List.getElem?_eq_some_iff.1 hκ).1;have hb:=h.b1;have HO:Act base gs.size (base+κ):=.inr ⟨oM,hN⟩;have OW:(base+κ==0)=false:=by simp;omega
 obtain⟨g₁,ρ,h1,h2,tK⟩:=h.si.work κ T hκ;rw[hg] at h1;cases h1
 have hkp:=h.pos _ HO;obtain⟨k,hk⟩:∃k,ks (base+κ)=k+1:=⟨ks (base+κ)-1,oM⟩
 have mL:=h.depth _ HO;rw[hk] at tK mL;have aGN:upd ks (base+κ) (ks (base+κ))=ks:=eJ _ _;have aGm:upd q (base+κ) (q (base+κ))=q:=eJ _ _;have JI:upd H (base+κ) (H (base+κ))=H:=eJ _ _
 -- a step that leaves the automaton where it is
 have stay:∀(g':Goroutine) (w':World) (es:Array Event) (H':View) (q':Nat) (ρ':JB),stepG P false g w=.go g' w' es-> 
   WT X B base gs.size os0 w' (t++MemOp.ofEvents (base+κ) g.frame.fn g.frame.place es) ths m s (upd H (base+κ) H') D-> 
   LR P X κ T (k+1) H' ρ' q' (Deaf (t++MemOp.ofEvents (base+κ) g.frame.fn g.frame.place es) (base+κ)) g'-> 
   ZF (PI.meas X (nD P gs (base+κ) g g' w') ths m s (rks.set (base+κ) ρ') (upd q (base+κ) q')) (PI.meas X gs ths m s rks q)-> 
   Goes P X Fin B base os0 (PI.meas X gs ths m s rks q) w t gs (runT P (crowd gs w sl) (base+κ)):=by
  intro g' w' es H' q' ρ' IB VN hs' Z9;have aEG:ths.set κ T=ths:=by
   apply List.ext_getElem?
   intro j;by_cases e:κ=j
   ·subst e;rw[List.getElem?_set_self HB,hκ]
   ·rw[List.getElem?_set_ne e]
  have FY:=h.si.worker (w':=w') (g:=g) (g':=g') (T':=T) (H':=H') (k':=k+1) (q':=q') (ρ':=ρ') (s':=s) hb h.pos hκ (uF ofEvents_g) (.inl (Nat.le_refl _)) hs';rw[aEG] at FY;refine .inl ⟨nD P gs (base+κ) g g' w',w',sl,MemOp.ofEvents (base+κ) g.frame.fn g.frame.place es,ths,m,s,upd H (base+κ) H',upd ks (base+κ) (k+1),rks.set (base+κ) ρ',upd q (base+κ) q',D,runT_crowd_go hg (by rw[OW];exact IB),⟨h.inv,hb,h.ne,h.dd,fun j hj=> ?_,?_,FY⟩,Z9⟩
  ·rw[CA] at hj;by_cases e:j=base+κ
   ·subst e;rw[upd_same];exact mL
   ·rw[upd_ne _ _ e];exact h.depth j hj
  ·rw[CA];exact VN
 cases tK with
 | quit hT hq=>
  cases hqq:q (base+κ) with
  | zero=> rw[hqq] at hq;rw[hq.1] at hr;cases hr
  | succ q'=>
   rw[hqq] at hq;rcases hq with ⟨hf,_⟩|⟨_,g',es,UN,IB,DY⟩
   ·rw[hf] at hr;cases hr
   ·have hrk:rks.set (base+κ) ρ=rks:=by
     apply List.ext_getElem?
     intro j;by_cases e:base+κ=j
     ·subst e;rw[List.getElem?_set_self (by rw[h.si.R1];exact hN),h2]
     ·rw[List.getElem?_set_ne e]
    have VN:=h.wt.leave (i:=base+κ) (fn:=g.frame.fn) (pos:=g.frame.place) oM hN UN fun κ' T' uC e=> by
     obtain rfl:κ'=κ:=by omega
     rw[hκ] at uC;cases uC
     exact hT
    refine stay g' w es (H (base+κ)) q' ρ (IB w) (by rw[JI];exact VN) (.quit hT (by rw[Deaf_own];exact DY)) ?_;rw[hrk];unfold PI.meas;rw[CA];refine aCd ?_;have:=sumTo_upd (f:=q) q' (fun a=> a) (i:=base+κ) (j:=gs.size) hN;have e:sumTo gs.size (fun a=> upd q (base+κ) q' a)=sumTo gs.size (upd q (base+κ) q'):=rfl;have e2:sumTo gs.size (fun a=> q a)=sumTo gs.size q:=rfl;omega
 | quiet n hT hρ hgo=>
  cases n with
  | succ n=>
   obtain⟨_,g',IB,aF3⟩:=hgo;refine stay g' w #[] (H (base+κ)) (q (base+κ)) (KG n) (IB w) (by rw[JI];simpa [MemOp.ofEvents] using h.wt) (.quiet n hT rfl aF3) ?_;unfold PI.meas;refine m6 (XX.set h2 ?_);rw[hρ];exact nX n
  | zero=> exact h.TY hκ hg hk hgo
 | walk hT hgo=>
  cases ρ with
  | stop=> exact h.TY hκ hg hk hgo
  | step f=>
   obtain⟨_,IB⟩:=hgo;obtain⟨g',w',es,H',h3,h4,h5⟩:=IB w (h.wt.vi.sat _) ⟨h.wt.cb,_,h.wt.sh⟩;refine stay g' w' es H' (q (base+κ)) (f w) h3 (h.wt.walk h.ne HO hN h4 fun κ' T' uC e=> ?_) (.walk hT h5) ?_
   ·obtain rfl:κ'=κ:=by omega
    rw[hκ] at uC;cases uC
    exact hT
   ·unfold PI.meas;exact m6 (XX.set h2 (.step f w))
  | phase f=>
   obtain⟨_,hp,_⟩:=hgo;exact hp.elim
end
end Go.RL
section
namespace Go.RL
open Go.Conc Go.ConcN Go.RL.Au
open Go.ConcR (stA smA)
open Go.ConcM (muA OsLater)
attribute [local irreducible] mu
section
variable {P:Program}{X:Fk}{Fin:Goroutine->Prop}{B:View}{base:Nat}{os0:C1}{gs:Array Goroutine}{w:World}{t:Trace}{ths:List Th}{m:Mn}{s:Sh}{H:Nat->View}{ks:Nat->Nat}{rks:List JB}{q:Nat->Nat}{D:Nat->Bool}
variable {sl:Option (Nat×Nat)}
theorem PI.iX(h:PI P X Fin B base os0 gs w t ths m s H ks rks q D){i:Nat}{g:Goroutine}(h0:0<i)(PW:i<base)(hg:gs[i]? =some g)(hr:g.status=.running):
  Goes P X Fin B base os0 (PI.meas X gs ths m s rks q) w t gs (runT P (crowd gs w sl) i):=by
 have hN:i<gs.size:=(Array.getElem?_eq_some_iff.1 hg).1;have OW:(i==0)=false:=by simp;omega
 obtain⟨g₁,h1,hq⟩:=h.si.NJ i h0 PW;rw[hg] at h1;cases h1
 cases hqq:q i with
 | zero=> rw[hqq] at hq;rw[hq.1] at hr;cases hr
 | succ q'=>
  rw[hqq] at hq;rcases hq with ⟨hf,_⟩|⟨_,g',es,UN,IB,DY⟩
  ·rw[hf] at hr;cases hr
  ·have VN:=h.wt.leave (i:=i) (fn:=g.frame.fn) (pos:=g.frame.place) h0 hN UN fun κ' T' uC e=> by omega
   have FY:=h.si.iX (w':=w) (g:=g) (g':=g') (q':=q') (df':=Deaf (t++MemOp.ofEvents i g.frame.fn g.frame.place es)) h.pos h0 PW (uF ofEvents_g) (by rw[Deaf_own];exact DY);refine .inl ⟨nD P gs i g g' w,w,sl,_,ths,m,s,H,ks,rks,upd q i q',D,runT_crowd_go hg (by rw[OW];exact IB w),⟨h.inv,h.b1,h.ne,h.dd,by rw[CA];exact h.depth,by rw[CA];exact VN,FY⟩,?_⟩;unfold PI.meas;rw[CA];refine aCd ?_;have:=sumTo_upd (f:=q) q' (fun a=> a) (i:=i) (j:=gs.size) hN;have e:sumTo gs.size (fun a=> upd q i q' a)=sumTo gs.size (upd q i q'):=rfl;have e2:sumTo gs.size (fun a=> q a)=sumTo gs.size q:=rfl;omega
theorem PI.w6(h:PI P X Fin B base os0 gs w t ths m s H ks rks q D){k:Nat}{m':Mn}{s':Sh}{g g':Goroutine}{w':World}{es:Array Event}(hg:gs[0]? =some g)(hk:ks 0=k+1)
  (hm:(m',s')∈m.mv s) (IB:stepG P true g w=.go g' w' es) (VN:WT X B base gs.size os0 w' (t++MemOp.ofEvents 0 g.frame.fn g.frame.place es) ths m' s' H D)
  (hs:T (Mw P true X.ok) (MS P X Fin k m' ths.length) (H 0) g'):
  Goes P X Fin B base os0 (PI.meas X gs ths m s rks q) w t gs (runT P (crowd gs w sl) 0):=by
 have hb:=h.b1;have UN:=aAm h.inv hm;have mL:=h.depth 0 (.inl rfl);rw[hk] at mL;obtain⟨ρ',Q5⟩:=hs.vX;have FY:=h.si.JL (w':=w') (g:=g) (g':=g') (m':=m') (H':=H 0) (k':=k) (ρ':=ρ') (s':=s') (df':=Deaf (t++MemOp.ofEvents 0 g.frame.fn g.frame.place es)) hb h.pos (uF ofEvents_g) (.walk Q5);rw[eJ] at FY;refine .inl ⟨nD P gs 0 g g' w',w',sl,_,ths,m',s',H,_,_,q,D,runT_crowd_go hg IB,⟨h.inv.main hm,hb,h.ne,h.dd,fun j hj=> ?_,?_,FY⟩,l6 UN⟩
 ·rw[CA] at hj;by_cases e:j=0
  ·subst e;rw[upd_same];omega
  ·rw[upd_ne _ _ e];exact Nat.lt_trans UN (h.depth j hj)
 ·rw[CA];exact VN
theorem uU {gs:Array Goroutine}{g' ch x:Goroutine}{j:Nat}(hj:gs[j]? =some x)(h0:j≠0):((gs.setIfInBounds 0 g').push ch)[j]? =some x:=by
 have HB:=(Array.getElem?_eq_some_iff.1 hj).1;rw[Array.getElem?_push];simp only[Array.size_setIfInBounds];rw[if_neg oM,Array.getElem?_setIfInBounds_ne (Ne.symm h0),hj]
theorem PI.aEP(h:PI P X Fin B base os0 gs w t ths .go s H ks rks q D){k:Nat}{m':Mn}{g g' ch:Goroutine}(hg:gs[0]? =some g)(hk:ks 0=k+1)(hinv:Inv X.n (ths++[.pw]) m' s)(UN:mu X.n (ths++[.pw]) m' s<mu X.n ths .go s)(hd:m'.deaf=0)
  (IB:stepG P true g w=.spawn g' ch w #[]) (hT:T (Mw P true X.ok) (MS P X Fin k m' (ths.length+1)) (ro (H 0)) g') (hC:T (Mw P false X.ok) (WS P X ths.length k .pw) (ro (H 0)) ch):
  Goes P X Fin B base os0 (PI.meas X gs ths .go s rks q) w t gs (runT P (crowd gs w sl) 0):=by
 have hN:0<gs.size:=(Array.getElem?_eq_some_iff.1 hg).1;have hb:=h.b1;have mL:=h.depth 0 (.inl rfl);have AD:=h.si.size;obtain⟨x,hx⟩:∃x:MemOp,x= { g:=0,fn:=g.frame.fn,pos:=g.frame.place,act:=.go gs.size }:=⟨_,rfl⟩
 obtain⟨y,hy⟩:∃y:MemOp,y= { g:=gs.size,fn:=ch.frame.fn,pos:=g.frame.place,act:=.start }:=⟨_,rfl⟩
 have sM:x.g=0/\x.act=.go gs.size:=by rw[hx];exact⟨rfl,rfl⟩
 have hy':y.g=gs.size/\y.act=.start:=by rw[hy];exact⟨rfl,rfl⟩
 have VN:=h.wt.fork (m':=m') hb AD hd sM hy';have aA2:=runT_crowd_spawn (P:=P) (sl:=sl) hg IB;have IU:((MemOp.ofEvents 0 g.frame.fn g.frame.place #[]).push { g:=0,fn:=g.frame.fn,pos:=g.frame.place,act:=.go gs.size } |>.push { g:=gs.size,fn:=ch.frame.fn,pos:=g.frame.place,act:=.start })=#[x,y]:=by
  rw[hx,hy];simp[MemOp.ofEvents]
 rw[IU] at aA2;rw[hk] at mL;obtain⟨ρm,aGu⟩:=hT.vX;obtain⟨ρc,aGt⟩:=hC.vX;have aAb:((gs.setIfInBounds 0 g').push ch).size=gs.size+1:=by simp
 have EI:∀j,Deaf (t ++ #[x,y]) j=Deaf t j:=fun j=> Deaf_still t j _ fun op lA=> by
  simp only[List.mem_toArray,List.mem_cons,List.not_mem_nil,or_false] at lA;rcases lA with rfl|rfl
  ·rw[sM.2];simp
  ·rw[hy'.2];simp
 have aEH:fO P X Fin base ((gs.setIfInBounds 0 g').push ch) (Deaf (t ++ #[x,y])) (ths++[.pw]) m' s (upd (upd H 0 (ro (H 0))) gs.size (ro (H 0))) (upd (upd ks 0 k) gs.size k) ((rks.set 0 ρm)++[ρc]) q:=by
  refine⟨by rw[aAb,List.length_append];simp;omega,by rw[aAb,List.length_append,List.length_set,h.si.R1];simp,⟨g',ρm,?_,?_,?_⟩,fun κ T hκ=> ?_,fun i h0 PW=> ?_⟩
  ·rw[Array.getElem?_push];simp only[Array.size_setIfInBounds];rw[if_neg oM];simp[hN]
  ·rw[List.getElem?_append_left (by rw[List.length_set,h.si.R1];exact hN),List.getElem?_set_self (by rw[h.si.R1];exact hN)]
  ·rw[upd_ne _ _ oM,upd_same,upd_ne _ _ oM,upd_same];rw[List.length_append];exact .walk aGu
  ·rw[List.getElem?_append] at hκ;split at hκ
   ·obtain⟨g0,ρ0,h3,h4,h5⟩:=h.si.work κ T hκ;have xB:base+κ≠gs.size:=by omega
    refine⟨g0,ρ0,uU h3 oM,?_,?_⟩
    ·have hl:=(List.getElem?_eq_some_iff.1 h4).1;rw[List.getElem?_append_left (by rw[List.length_set];exact hl),List.getElem?_set_ne oM];exact h4
    ·rw[upd_ne _ _ xB,upd_ne _ _ oM,upd_ne _ _ xB,upd_ne _ _ oM,EI];exact h5
   ·cases hz:κ-ths.length with
    | succ z=> rw[hz] at hκ;cases hκ
    | zero=>
     rw[hz] at hκ;cases hκ
     have he:base+κ=gs.size:=by omega
     refine⟨ch,ρc,?_,?_,?_⟩
     ·rw[he,Array.getElem?_push];simp
     ·rw[he,List.getElem?_append_right (by rw[List.length_set,h.si.R1];omega),List.length_set,h.si.R1];simp
     ·rw[he,upd_same,upd_same];have:κ=ths.length:=by omega
      subst this;exact .walk rfl aGt
  ·obtain⟨g0,h3,h4⟩:=h.si.NJ i h0 PW;exact⟨g0,uU h3 oM,by rw[EI];exact h4⟩
 refine .inl ⟨(gs.setIfInBounds 0 g').push ch,w,sl,#[x,y],ths++[.pw],m',s,upd (upd H 0 (ro (H 0))) gs.size (ro (H 0)),upd (upd ks 0 k) gs.size k,(rks.set 0 ρm)++[ρc],q,D,aA2,⟨hinv,hb,h.ne,fun κ=> ?_,fun j hj=> ?_,by rw[aAb];exact VN,aEH⟩,l6 UN⟩
 ·rw[h.dd κ,List.getElem?_append];split
  ·rfl
  ·rename_i pS
   rw[List.getElem?_eq_none oM];cases hz:κ-ths.length with
   | zero=> rfl
   | succ z=> rfl
 ·rw[aAb] at hj;by_cases e:j=gs.size
  ·subst e;rw[upd_same];exact Nat.lt_of_lt_of_le UN (Nat.le_of_lt_succ mL)
  ·rw[upd_ne _ _ e];by_cases e0:j=0
   ·subst e0;rw[upd_same];exact Nat.lt_of_lt_of_le UN (Nat.le_of_lt_succ mL)
   ·rw[upd_ne _ _ e0];exact Nat.lt_trans UN (h.depth j (hj.imp id fun⟨h1,h2⟩=> ⟨h1,oM⟩))
theorem PI.y7(h:PI P X Fin B base os0 gs w t ths m s H ks rks q D){k:Nat}{g:Goroutine}{ρ:JB}(hg:gs[0]? =some g)(hr:g.status=.running)(hk:ks 0=k+1)(h2:rks[0]? =some ρ)(hρ:ρ=.stop)
  (hs:MS P X Fin (k+1) m ths.length (H 0) g):
  Goes P X Fin B base os0 (PI.meas X gs ths m s rks q) w t gs (runT P (crowd gs w sl) 0):=by
 have hN:0<gs.size:=(Array.getElem?_eq_some_iff.1 hg).1;have hb:=h.b1;obtain⟨TG,go,kr,wm,aq,rt,pl⟩:=hs;have sK:=h.wt.vi.sat 0;have mL:=h.depth 0 (.inl rfl);cases hp:m.plain with
 | true=>
  obtain⟨ZB,JJ⟩:=h.inv.mok;rcases pl hp w s sK h.wt.sh ZB JJ with ⟨rK,IB⟩|⟨m',s',g',w',es,hm,IB,htu,hqe,vS⟩
  ·obtain⟨rfl,hQ⟩:=aCg hp rK;have hrk:rks.set 0 .stop=rks:=by
    apply List.ext_getElem?
    intro j;by_cases e:0=j
    ·subst e;rw[List.getElem?_set_self (by rw[h.si.R1];exact hN),h2,hρ]
    ·rw[List.getElem?_set_ne e]
   have FY:=h.si.JL (w':=w) (g:=g) (g':= { g with status:=.blocked }) (m':=.ws) (H':=H 0) (k':=k+1) (ρ':=.stop) (s':=s) (df':=Deaf t) hb h.pos (fun _ _=> rfl) (.wait g ⟨rfl,hQ,rfl⟩ rfl ⟨TG,go,kr,wm,aq,rt,pl⟩);rw[hrk,eJ,show upd ks 0 (k+1)=ks by rw[<-hk];exact eJ _ _] at FY;refine .inl ⟨nD P gs 0 g { g with status:=.blocked } w,w,sl,_,ths,.ws,s,H,ks,rks,q,D,runT_crowd_go hg IB,⟨h.inv,hb,h.ne,h.dd,by rw[CA];exact h.depth,?_,?_⟩,?_⟩
   ·rw[CA];simpa [MemOp.ofEvents] using h.wt
   ·simpa [MemOp.ofEvents] using FY
   ·unfold PI.meas;rw[CA];exact aCe (BX hg hr rfl)
  ·exact h.w6 hg hk hm IB (h.wt.y7 h.ne hb hN htu hqe) vS
 | false=>
  have zU:m=.kr\/m=.go\/m=.wm\/m=.aq\/m=.ret:=by cases m <;> simp[Mn.plain] at hp <;> simp
  rcases zU with rfl|rfl|rfl|rfl|rfl
  ·obtain⟨g',IB,hT⟩:=kr rfl w sK;exact h.w6 hg hk (m':=.ke) (s':=s) (by simp[Mn.mv]) IB (h.wt.said h.ne hb hN (.inl rfl) rfl) hT
  ·obtain⟨g',ch,IB,hT,hC⟩:=go rfl w sK;exact h.aEP hg hk (h.inv.fork) (aAl h.inv (by split <;> simp[Mn.wt])) (by split <;> rfl) IB hT hC
  ·obtain⟨g',IB,hT⟩:=wm rfl w sK;exact h.w6 hg hk (m':=.ws) (s':=s) (by simp[Mn.mv]) IB (h.wt.said h.ne hb hN (.inr rfl) rfl) hT
  ·obtain⟨g',IB,hF⟩:=aq rfl w sK;exact .inr ⟨_,sl,g,g',ths,s,H,ks,rks,q,D,hg,runT_crowd_go hg IB,rfl,hF,h⟩
  ·exact(rt rfl).elim
theorem PI.JL(h:PI P X Fin B base os0 gs w t ths m s H ks rks q D){g:Goroutine}(hg:gs[0]? =some g)(hr:g.status=.running):
  Goes P X Fin B base os0 (PI.meas X gs ths m s rks q) w t gs (runT P (crowd gs w sl) 0):=by
 have hN:0<gs.size:=(Array.getElem?_eq_some_iff.1 hg).1;have hb:=h.b1;obtain⟨g₁,ρ,h1,h2,tK⟩:=h.si.main;rw[hg] at h1;cases h1
 have hkp:=h.pos 0 (.inl rfl);obtain⟨k,hk⟩:∃k,ks 0=k+1:=⟨ks 0-1,oM⟩
 have mL:=h.depth 0 (.inl rfl);rw[hk] at tK mL;cases tK with
 | wait g₀ hT hgg hw=> rw[hgg] at hr;cases hr
 | walk hgo=>
  cases ρ with
  | stop=> exact h.y7 hg hr hk h2 rfl hgo
  | phase f=> obtain⟨_,hp,_⟩:=hgo;exact hp.elim
  | step f=>
   obtain⟨_,IB⟩:=hgo;obtain⟨g',w',es,H',h3,h4,h5⟩:=IB w (h.wt.vi.sat _) ⟨h.wt.cb,_,h.wt.sh⟩;have VN:=h.wt.walk (i:=0) (fn:=g.frame.fn) (pos:=g.frame.place) h.ne (.inl rfl) hN h4 fun κ' T' uC e=> by omega
   have FY:=h.si.JL (w':=w') (g:=g) (g':=g') (m':=m) (H':=H') (k':=k+1) (ρ':=f w) (s':=s) (df':=Deaf (t++MemOp.ofEvents 0 g.frame.fn g.frame.place es)) hb h.pos (uF ofEvents_g) (.walk h5);refine .inl ⟨nD P gs 0 g g' w',w',sl,_,ths,m,s,upd H 0 H',upd ks 0 (k+1),rks.set 0 (f w),q,D,runT_crowd_go hg h3,⟨h.inv,hb,h.ne,h.dd,fun j hj=> ?_,by rw[CA];exact VN,FY⟩,m6 (XX.set h2 (.step f w))⟩;rw[CA] at hj;by_cases e:j=0
   ·subst e;rw[upd_same];exact mL
   ·rw[upd_ne _ _ e];exact h.depth j hj
theorem PI.aAA(h:PI P X Fin B base os0 gs w t ths m s H ks rks q D):∃(i:Nat) (g:Goroutine),gs[i]? =some g/\g.status=.running:=by
 refine Classical.byContradiction fun PC=> ?_;have hnr:∀(i:Nat) g,gs[i]? =some g->g.status≠ .running:=fun i g hi hr=> PC ⟨i,g,hi,hr⟩;obtain⟨g,ρ,h1,h2,tK⟩:=h.si.main;have hkp:=h.pos 0 (.inl rfl);obtain⟨k,hk⟩:∃k,ks 0=k+1:=⟨ks 0-1,oM⟩
 rw[hk] at tK;cases tK with
 | walk hgo=> exact hnr 0 g h1 (hgo.run (fun _ _ _ h=> h) fun _ _ h=> h.1.1)
 | wait g₀ hT hgg hw=>
  obtain⟨rfl,hq0,_⟩:=hT;obtain⟨κ,T,hκ,hT⟩:=h.inv.live (by simp) (by simp) (by simp[Mn.mv,hq0]);obtain⟨g',ρ',h3,h4,hs'⟩:=h.si.work κ T hκ;have hN:=(Array.getElem?_eq_some_iff.1 h3).1;have aG2:=h.pos (base+κ) (.inr ⟨oM,hN⟩);obtain⟨k',hk'⟩:∃k,ks (base+κ)=k+1:=⟨ks (base+κ)-1,oM⟩
  rw[hk'] at hs';cases hs' with
  | quit hT' _=> subst hT';exact hT rfl
  | quiet n hT' hρ hgo=> exact hnr _ g' h3 (hgo.run fun _ h=> h.1.1)
  | walk hT' hgo=> exact hnr _ g' h3 (hgo.run (fun _ _ _ h=> h) fun _ _ h=> h.1.1)
theorem PI.awake(h:PI P X Fin B base os0 gs w t ths m s H ks rks q D):∀g∈gs,awake g:=by
 intro g hg tm;obtain⟨i,hi,rfl⟩:=Array.mem_iff_getElem.1 hg;have QQ:=Array.getElem?_eq_getElem hi;have key:gs[i].status=.running\/gs[i].status=.finished\/gs[i].status=.blocked:=by
  by_cases e0:i=0
  ·subst e0;obtain⟨g,ρ,h1,h2,tK⟩:=h.si.main;have hkp:=h.pos 0 (.inl rfl);obtain⟨k,hk⟩:∃k,ks 0=k+1:=⟨ks 0-1,oM⟩
   rw[hk] at tK;rw[h1] at QQ;cases QQ
   exact tK.status.imp id .inr
  ·rcases Nat.lt_or_ge i base with HB|pS
   ·obtain⟨g,h1,hq⟩:=h.si.NJ i oM HB;rw[h1] at QQ;cases QQ
    exact hq.status.imp id .inl
   ·have AD:=h.si.size;obtain⟨T,hT⟩:∃T,ths[i-base]? =some T:=⟨_,List.getElem?_eq_getElem oM⟩
    obtain⟨g,ρ,h1,h2,tK⟩:=h.si.work _ T hT;rw[show base+(i-base)=i by omega] at h1 tK;have hkp:=h.pos i (.inr ⟨pS,hi⟩);obtain⟨k,hk⟩:∃k,ks i=k+1:=⟨ks i-1,oM⟩
    rw[hk] at tK;rw[h1] at QQ;cases QQ
    exact tK.status.imp id .inl
 rcases key with e|e|e <;> rw[e] <;> simp
theorem PI.step(h:PI P X Fin B base os0 gs w t ths m s H ks rks q D):∃d,Goes P X Fin B base os0 (PI.meas X gs ths m s rks q) (w.at d) t gs (stepT P (crowd gs w sl)):=by
 obtain⟨i,g,d,sl',hg,TG,N5⟩:=crowd_pick (P:=P) (w:=w) (sl:=sl) h.awake h.aAA;rw[N5];refine⟨d,?_⟩;have h':=h.at d;by_cases e0:i=0
 ·subst e0;exact h'.JL hg TG
 ·rcases Nat.lt_or_ge i base with HB|pS
  ·exact h'.iX oM HB hg TG
  ·have AD:=h.si.size;have hN:=(Array.getElem?_eq_some_iff.1 hg).1;obtain⟨T,hT⟩:∃T,ths[i-base]? =some T:=⟨_,List.getElem?_eq_getElem oM⟩
   have:=h'.worker (sl:=sl') hT (g:=g) (by rw[show base+(i-base)=i by omega];exact hg) TG
   rwa [show base+(i-base)=i by omega] at this
end
end Go.RL
end
section
namespace Go.RL
open Go.Conc Go.ConcN Go.RL.Au
open Go.ConcR (stA smA)
open Go.ConcM (muA OsLater)
attribute [local irreducible] mu
structure AI(P:Program)(H:View)(os0:C1)(gs:Array Goroutine)(w:World)(t:Trace)(q:Nat->Nat):Prop where
 pos:0<gs.size
 sat:Sat H w
 nr:∀said,¬Race said t
 kn:∀i a,touchAt t i=some a->a.kind=.plain->Knows t 0 i
 np:∀i a b,touchAt t i=some a->a.kind≠ .plain->lb a.loc=some b->H b=none
 SZ:∀(i:Nat) op a,t[i]? =some op->op.act.touch? =some a->a.kind≠ .plain->(a.kind=.said->op.g=0)/\(a.kind=.atomic->op.g≠0->¬t.heard i)
 bd:∀i a b,touchAt t i=some a->lb a.loc=some b->b<w.heap.size
 rel:∀a,NoRelease a t
 gb:∀(i:Nat) op,t[i]? =some op->op.g<gs.size
 mem:∀i a,touchAt t i=some a->∃b,lb a.loc=some b
 SV:Deaf t 0=0
 NJ:∀i,0<i->i<gs.size->∃g,gs[i]? =some g/\QuitsD P (q i) (Deaf t i) g
 os:TX os0 w
section
variable {P:Program}{H:View}{os0:C1}{gs:Array Goroutine}{w w':World}{t:Trace}{q:Nat->Nat}
theorem AI.at(h:AI P H os0 gs w t q)(d:Nat):AI P H os0 gs (w.at d) t q:=⟨h.pos,h.sat,h.nr,h.kn,h.np,h.SZ,h.bd,h.rel,h.gb,h.mem,h.SV,h.NJ,h.os⟩
theorem AI.walk(h:AI P H os0 gs w t q){g g':Goroutine}{H':View}{es:Array Event}{fn:FuncId}{pos:String}(ht:Trans H w H' w' es):AI P H' os0 (nD P gs 0 g g' w') w' (t++MemOp.ofEvents 0 fn pos es) q:=by
 obtain⟨lA,EI⟩:=mY (X:=⟨0,0,0,0,fun _ _=> True⟩) (g:=0) (fn:=fn) (pos:=pos) (t:=t) ht.ev;have hd:∀j,Deaf (t++MemOp.ofEvents 0 fn pos es) j=Deaf t j:=fun j=> Deaf_still t j _ EI;have PO:∀op∈MemOp.ofEvents 0 fn pos es,∀x,op.act.touch? =some x->x.kind=.plain/\∃b f o,lb x.loc=some b/\H' b=some (f,o):=by
  rw[ofEvents_eq];intro op cE x hx;obtain⟨e,he,rfl⟩:=Array.mem_map.1 cE;have hk:=ht.ev e he;obtain⟨loc,wr,sy⟩:=e;unfold YL at hk;cases loc with
  | cell a=>
   obtain⟨hs,f,o,h1,h2⟩:=hk;simp only at hs;subst hs;cases wr <;> simp[MemAct.ofEvent,MemAct.touch?] at hx <;> subst hx <;> exact⟨rfl,_,f,o,rfl,h1⟩
  | obj r=>
   obtain⟨hs,f,o,h1,h2⟩:=hk;simp only at hs;subst hs;cases wr <;> simp[MemAct.ofEvent,MemAct.touch?] at hx <;> subst hx <;> exact⟨rfl,_,f,o,rfl,h1⟩
  | mark m=>
   cases m <;> first
    | (simp[QS] at hk;done)
    | simp[MemAct.ofEvent,MemAct.touch?] at hx
  | _=> exact hk.elim
 have old:∀i a b f o,touchAt t i=some a->lb a.loc=some b->H' b=some (f,o)->∃o',H b=some (f,o'):=by
  intro i a b f o ha hb hx;rcases ht.ext b f o hx with h1|⟨_,hle⟩
  ·exact h1
  ·have:=h.bd i a b ha hb;omega
 have npk:∀i a b,touchAt t i=some a->a.kind≠ .plain->lb a.loc=some b->H' b=none:=fun i a b ha hk hb=> by
  cases hx:H' b with
  | none=> rfl
  | some x=>
   obtain⟨o',h4⟩:=old i a b x.1 x.2 ha hb hx;rw[h.np i a b ha hk hb] at h4;cases h4
 refine⟨by rw[CA];exact h.pos,ht.sat,fun said=> ?_,fun i a ha hk=> ?_,fun i a b ha hk hb=> ?_,fun i op a E5 ha hk=> ?_,fun i a b ha hb=> ?_,fun a=> (h.rel a).app fun op cE=> lA.rel op cE a,fun i op E5=> ?_,fun i a ha=> ?_,by rw[hd];exact h.SV,fun i h0 hi=> ?_,h.os.trans ⟨ht.os,ht.out⟩⟩
 ·refine noRace_append (h.nr said) lA.own fun i a ha op cE b hb hc=> ?_;obtain⟨uS,lE,_,_⟩:=hc;obtain⟨_,blk,f,o,h1,h2⟩:=PO op cE b hb;refine h.kn i a ha (Classical.byContradiction fun xB=> ?_);rw[npk i a blk ha xB (by rw[uS];exact h1)] at h2;cases h2
 ·rcases tB ha with ⟨hi,dH⟩|⟨hi,op,cE,PD,hx⟩
  ·exact(h.kn i a dH hk).app _
  ·have:=knows_own PD
   rwa [lA.own op cE] at this
 ·rcases tB ha with ⟨hi,dH⟩|⟨hi,op,cE,PD,hx⟩
  ·exact npk i a b dH hk hb
  ·exact absurd (PO op cE a hx).1 hk
 ·rcases getElem?_append_cases E5 with ⟨hi,PD⟩|⟨hi,QC⟩
  ·obtain⟨h1,h2⟩:=h.SZ i op a PD ha hk;exact⟨h1,fun e e'=> by rw[heard_old hi];exact h2 e e'⟩
  ·exact absurd (PO op QC a ha).1 hk
 ·rcases tB ha with ⟨hi,dH⟩|⟨hi,op,cE,PD,hx⟩
  ·exact Nat.lt_of_lt_of_le (h.bd i a b dH hb) ht.size
  ·obtain⟨_,b',f,o,h1,h2⟩:=PO op cE a hx;rw[h1] at hb;cases hb
   exact ht.sat.lt h2
 ·rw[CA];rcases getElem?_append_cases E5 with ⟨hi,PD⟩|⟨hi,QC⟩
  ·exact h.gb i op PD
  ·rw[lA.own op QC];exact h.pos
 ·rcases tB ha with ⟨hi,dH⟩|⟨hi,op,cE,PD,hx⟩
  ·exact h.mem i a dH
  ·obtain⟨_,b',f,o,h1,h2⟩:=PO op cE a hx;exact⟨b',h1⟩
 ·rw[CA] at hi;obtain⟨g0,h1,h2⟩:=h.NJ i h0 hi;exact⟨_,zB oM h1,by rw[hd,woken_quitsD h2];exact h2⟩
theorem AI.leave(h:AI P H os0 gs w t q){i q':Nat}{g g':Goroutine}{es:Array Event}{fn:FuncId}{pos:String}(h0:0<i)(hi:i<gs.size)(hm:∀e∈es,e.mute=true)(hq:QuitsD P q' (deafBehind (Deaf t i) es) g'):AI P H os0 (nD P gs i g g' w) w (t++MemOp.ofEvents i fn pos es) (upd q i q'):=by
 have ho:=UU (g:=i) (fn:=fn) (pos:=pos) hm;have JN:∀op∈MemOp.ofEvents i fn pos es,op.g=i:=fun op lA=> (ho op lA).1;have old:∀ {j:Nat} {a:Touch},touchAt (t++MemOp.ofEvents i fn pos es) j=some a->touchAt t j=some a:=by
  intro j a ha;rcases tB ha with ⟨_,dH⟩|⟨_,op,lA,_,hxx⟩
  ·exact dH
  ·rw[(ho op lA).2.1] at hxx;cases hxx
 refine⟨by rw[CA];exact h.pos,h.sat,fun said=> noRace_append (h.nr said) JN fun j a _ op lA b hb _=> (by rw[(ho op lA).2.1] at hb;cases hb),fun j a ha hk=> (h.kn j a (old ha) hk).app _,fun j a b ha hk hb=> h.np j a b (old ha) hk hb,fun j op a aBW ha hk=> ?_,fun j a b ha hb=> h.bd j a b (old ha) hb,fun a=> (h.rel a).app fun op lA=> (ho op lA).2.2 a,fun j op aBW=> ?_,fun j a ha=> h.mem j a (old ha),?_,fun j h0' hj=> ?_,h.os⟩
 ·rcases getElem?_append_cases aBW with ⟨hl,PD⟩|⟨hl,QC⟩
  ·obtain⟨h1,h2⟩:=h.SZ j op a PD ha hk;exact⟨h1,fun e e'=> by rw[heard_old hl];exact h2 e e'⟩
  ·rw[(ho op QC).2.1] at ha;cases ha
 ·rw[CA];rcases getElem?_append_cases aBW with ⟨hl,PD⟩|⟨hl,QC⟩
  ·exact h.gb j op PD
  ·rw[JN op QC];exact hi
 ·rw[Deaf_other t (g:=0) (g':=i) oM _ JN];exact h.SV
 ·rw[CA] at hj;by_cases e:j=i
  ·subst e;exact⟨g',cF hj,by rw[upd_same,Deaf_own];exact hq⟩
  ·obtain⟨g0,h1,h2⟩:=h.NJ j h0' hj;exact⟨_,zB e h1,by rw[upd_ne _ _ e,Deaf_other t (g:=j) (g':=i) (Ne.symm e) _ JN,woken_quitsD h2];exact h2⟩
theorem AI.begin {X:Fk}{Fin:Goroutine->Prop}{H₁ F:View}{o:Obj}{g:Goroutine}(hn6:X.n<=6)(ne:X.Wg≠X.C)(mH:H₁ X.Wg=none/\H₁ X.C=none)
  (hd:Dj ((H₁.put X.C (true,o)).put X.Wg (true,X.QV ⟨0,0,0⟩)) F) (h:AI P (((H₁.put X.C (true,o)).put X.Wg (true,X.QV ⟨0,0,0⟩)).plus F) os0 gs w t q)
  (hG:X.GI (fun _=> false) o) (hg:gs[0]? =some g) (hT:∀k,T (Mw P true X.ok) (MS P X Fin k (if 0<X.n then .kd else .wd) 0) (ro H₁) g):
  ∃s H ks rks D,PI P X Fin (H₁.plus F) gs.size os0 gs w t [] (if 0<X.n then .kd else .wd) s H ks rks q D:=by
 obtain⟨ρ,hρ⟩:=(hT (mu X.n [] (if 0<X.n then .kd else .wd) ⟨0,0,0⟩+1)).vX;have hWg:((H₁.put X.C (true,o)).put X.Wg (true,X.QV ⟨0,0,0⟩)) X.Wg=some (true,X.QV ⟨0,0,0⟩):=View.LA ..;have hC:((H₁.put X.C (true,o)).put X.Wg (true,X.QV ⟨0,0,0⟩)) X.C=some (true,o):=by rw[View.vA _ _ (Ne.symm ne),View.LA]
 have hH:∀b x,H₁ b=some x->((H₁.put X.C (true,o)).put X.Wg (true,X.QV ⟨0,0,0⟩)) b=some x:=fun b x hb=> by
  rw[View.vA,View.vA]
  ·exact hb
  ·rintro rfl;rw[mH.2] at hb;cases hb
  ·rintro rfl;rw[mH.1] at hb;cases hb
 generalize ((H₁.put X.C (true,o)).put X.Wg (true,X.QV ⟨0,0,0⟩))=HH at hd h hWg hC hH;have hFn:F X.Wg=none/\F X.C=none:=⟨hd.none hWg,hd.none hC⟩
 have hB:∀b x,(H₁.plus F) b=some x->(HH.plus F) b=some x:=fun b x hb=> by
  unfold View.plus at hb;split at hb
  ·rename_i y hy
   cases hb
   exact NA (hH b _ hy)
  ·rw[aB (hd b x hb)];exact hb
 have hBn:∀b,(HH.plus F) b=none->(H₁.plus F) b=none:=fun b hb=> by
  cases hx:(H₁.plus F) b with
  | none=> rfl
  | some x=> rw[hB b x hx] at hb;cases hb
 have hV:∀j b,upd (fun _=> fun _=> none) 0 (ro H₁) j b=if j=0 then ro H₁ b else none:=fun j b=> by
  by_cases e:j=0
  ·subst e;rw[upd_same,if_pos rfl]
  ·rw[upd_ne _ _ e,if_neg e]
 have hro:∀b f o',ro H₁ b=some (f,o')->∃f',(HH.plus F) b=some (f',o'):=fun b f o' hb=> by
  obtain⟨_,f',h1⟩:=TD hb;exact⟨f',NA (hH b _ h1)⟩
 have HO:∀j,Act gs.size gs.size j->j=0:=fun j hj=> hj.elim id fun⟨h1,h2⟩=> by omega
 refine⟨⟨0,0,0⟩,upd (fun _=> fun _=> none) 0 (ro H₁),fun _=> mu X.n [] (if 0<X.n then .kd else .wd) ⟨0,0,0⟩+1,ρ::List.replicate (gs.size-1) .stop,fun _=> false,Inv.start hn6,h.pos,ne,fun κ=> rfl,fun _ _=> Nat.lt_succ_self _,⟨⟨?_⟩,?_,⟨fun j b f o' hb=> ?_,fun i j qS b o' hi=> ?_,fun j=> ?_,fun b f o' hb=> ?_,fun j b x o' _ hj=> ?_,?_⟩,fun j hj b=> ?_,?_,⟨⟨o,?_,hG⟩,fun j=> ?_,fun i op a lA ha hb=> ?_⟩,fun κ T hκ=> ?_,h.SV.trans (by split <;> rfl),fun κ T hκ=> ?_,h.os⟩,⟨rfl,?_,⟨g,ρ,hg,rfl,?_⟩,fun κ T hκ=> ?_,h.NJ⟩⟩
 ·exact h.sat _ _ _ (NA hWg)
 ·exact h.sat.lt (NA hC)
 ·rw[hV] at hb;split at hb
  ·obtain⟨f',h1⟩:=hro b f o' hb;exact h.sat b f' o' h1
  ·cases hb
 ·rw[hV] at hi;split at hi
  ·have:=(TD hi).1;cases this
  ·cases hi
 ·rw[hV];split
  ·exact MG mH.1
  ·rfl
 ·exact h.sat b f o' (hB b _ hb)
 ·rw[hV] at hj;split at hj
  ·have:=(TD hj).1;cases this
  ·cases hj
 ·exact⟨by rw[aB mH.1];exact hFn.1,by rw[aB mH.2];exact hFn.2⟩
 ·rw[hV,if_neg fun e=> hj (.inl e)]
 ·refine ⟨h.nr,h.bd,fun j hj i a b f o' ha hb hx hw=> ?_,fun i op a lA ha hk _=> h.kn i a (by rw[touchAt_of lA];exact ha) hk,fun i a b ha hk hb=> ?_,h.SZ,fun j hj i a b ha hk hb _=> ?_,h.rel,h.gb,h.mem⟩
  ·have:=HO j hj;subst this;rw[hV,if_pos rfl] at hx;obtain⟨f',h1⟩:=hro b f o' hx;refine h.kn i a ha (Classical.byContradiction fun xB=> ?_);rw[h.np i a b ha xB hb] at h1;cases h1
  ·have h1:=h.np i a b ha hk hb;refine⟨fun j=> ?_,hBn b h1,?_⟩
   ·rw[hV];split
    ·cases hx:ro H₁ b with
     | none=> rfl
     | some x=>
      obtain⟨f',h2⟩:=hro b x.1 x.2 hx;rw[h1] at h2;cases h2
    ·rfl
   ·rintro rfl;rw[NA hC] at h1;cases h1
  ·have:=HO j hj;subst this;exact h.kn i a ha hk
 ·exact h.sat _ _ _ (NA hC)
 ·rw[hV];split
  ·exact MG mH.2
  ·rfl
 ·refine .inl fun j hj=> ?_;have:=HO j hj;subst this;have dH:touchAt t i=some a:=by rw[touchAt_of lA];exact ha
  refine h.kn i a dH (Classical.byContradiction fun xB=> ?_);have:=h.np i a _ dH xB hb;rw[NA hC] at this;cases this
 ·simp at hκ
 ·simp at hκ
 ·simp;have:=h.pos;omega
 ·rw[upd_same];exact .walk hρ
 ·simp at hκ
theorem PI.ends {X:Fk}{Fin:Goroutine->Prop}{H₁ F:View}{base:Nat}{ths:List Th}{s:Sh}{H:Nat->View}{ks:Nat->Nat}{rks:List JB}{D:Nat->Bool}{g g':Goroutine}(h:PI P X Fin (H₁.plus F) base os0 gs w t ths .aq s H ks rks q D)(hC:H₁ X.C=none)(fn:FuncId)(pos:String):
  ∃o,X.GI (fun i=> decide (i<X.n)) o/\F X.C=none/\AI P ((H₁.put X.C (true,o)).plus F) os0 (nD P gs 0 g g' w) w (t++MemOp.ofEvents 0 fn pos #[Go.ConcR.mk (.acquire (stA X.Wg))]) q:=by
 obtain⟨hlen,ZJ⟩:=h.inv.done rfl;have hb:=h.b1;have AD:=h.si.size;have hN:0<gs.size:=by omega
 obtain⟨⟨o,h1,h2⟩,h3,_⟩:=h.wt.free;have hD:D=fun i=> decide (i<X.n):=by
  funext κ
  rw[h.dd κ];by_cases e:κ<ths.length
  ·rw[List.getElem?_eq_getElem e,ZJ κ _ (List.getElem?_eq_getElem e)];simp[Th.did];omega
  ·rw[List.getElem?_eq_none oM];simp;omega
 subst hD;have hFC:F X.C=none:=by have:=h.wt.vi.bn.2;rw[aB hC] at this;exact this
 have lA:=LS (X:=X) (H:=H 0) (g:=0) (fn:=fn) (pos:=pos) (m:=.acquire (stA X.Wg)) (t:=t) (fun x hx=> by cases hx) (fun a e=> by cases e);have hti:=h.wt.DV h.ne (.inl rfl) hN lA;have mM:∀j,Deaf (t++MemOp.ofEvents 0 fn pos #[Go.ConcR.mk (.acquire (stA X.Wg))]) j=Deaf t j:=fun j=> dR (by simp) (by simp);have hj:=h.wt.ti.join (y:= { g:=0,fn,pos,act:=.mark (.acquire (stA X.Wg)) }) ⟨rfl,rfl⟩ h.wt.SV fun g pS HB=> by
  have hκ:g-base<ths.length:=by omega
  have hT:=List.getElem?_eq_getElem hκ;obtain⟨r,hr⟩:=h.wt.UI _ _ hT (by rw[ZJ _ _ hT];rfl);rw[show base+(g-base)=g by omega] at hr;exact⟨r,hr⟩
 rw[<-lP] at hj;refine⟨o,h2,hFC,by rw[CA];exact hN,fun b f o' EH=> ?_,hti.nr,hj,fun i a b ha hk JO=> ?_,hti.SZ,hti.bd,hti.rel,fun i op E5=> by rw[CA];exact hti.gs i op E5,hti.mem,by rw[mM];exact h.wt.SV,fun i h0 hi=> ?_,h.wt.os⟩
 ·unfold View.plus at EH;split at EH
  ·rename_i y hy
   cases EH
   by_cases e:b=X.C
   ·subst e;rw[View.LA] at hy;cases hy;exact h1
   ·rw[View.vA _ _ e] at hy;exact h.wt.vi.bs b f o' (NA hy)
  ·rename_i hy
   have e:b≠X.C:=by rintro rfl;rw[View.LA] at hy;cases hy
   rw[View.vA _ _ e] at hy;exact h.wt.vi.bs b f o' (by rw[aB hy];exact EH)
 ·obtain⟨_,g2,g3⟩:=hti.np i a b ha hk JO;unfold View.plus at g2 ⊢;rw[View.vA _ _ g3];exact g2
 ·rw[CA] at hi;rcases Nat.lt_or_ge i base with HB|pS
  ·obtain⟨g0,g1,g2⟩:=h.si.NJ i h0 HB;exact⟨_,zB oM g1,by rw[mM,woken_quitsD g2];exact g2⟩
  ·have hκ:i-base<ths.length:=by omega
   have hT:=List.getElem?_eq_getElem hκ;obtain⟨g0,ρ,g1,_,g2⟩:=h.si.work _ _ hT;rw[show base+(i-base)=i by omega] at g1 g2;have hq:QuitsD P (q i) (Deaf t i) g0:=by
    cases g2 with
    | quit _ hq=> exact hq
    | quiet n hh _ _=> exact absurd (ZJ _ _ hT) hh.1
    | walk hh _=> rw[ZJ _ _ hT] at hh;cases hh
   exact⟨_,zB oM g1,by rw[mM,woken_quitsD hq];exact hq⟩
def AtRet(P:Program)(Post:Value->World->Prop)(H:View)(g:Goroutine):Prop:=
 g.status=.running/\∀w,Sat H w->∃v es,stepG P true g w=.ended (.done v) w es/\(∀e∈es,YL H e)/\Post v w
inductive MI(P:Program)(St:View->Goroutine->Prop)(os0:C1):JB×FR->Machine->Trace->Prop where
 | alone {gs:Array Goroutine} {w:World} {sl:Option (Nat×Nat)} {t:Trace} {q:Nat->Nat} {H:View} {g:Goroutine} {ρ:JB} (h:AI P H os0 gs w t q) (hg:gs[0]? =some g) (hT:Tr (Mp P) St ρ H g) (hρ:∀f,ρ≠ .phase f):MI P St os0 (ρ,0,[],sumTo gs.size q,0) (crowd gs w sl) t
 | phase {gs:Array Goroutine} {w:World} {sl:Option (Nat×Nat)} {t:Trace} {q:Nat->Nat} {X:Fk} {Fin:Goroutine->Prop} {H₁ F:View} {base:Nat} {ths:List Th} {m:Mn} {s:Sh} {H:Nat->View} {ks:Nat->Nat} {rks:List JB} {D:Nat->Bool} {f:View->Goroutine->JB} {μ:FR}
  (h:PI P X Fin (H₁.plus F) base os0 gs w t ths m s H ks rks q D) (hC:H₁ X.C=none) (hd:Dj H₁ F) (hμ:μ=PI.meas X gs ths m s rks q)
  (hk:∀o g',X.GI (fun i=> decide (i<X.n)) o->Fin g'->F X.C=none->Tr (Mp P) St (f ((H₁.put X.C (true,o)).plus F) g') ((H₁.put X.C (true,o)).plus F) g'):MI P St os0 (.phase f,μ) (crowd gs w sl) t
theorem MI.of {St:View->Goroutine->Prop}{sl:Option (Nat×Nat)}{g:Goroutine}{ρ:JB}(h:AI P H os0 gs w t q)(hg:gs[0]? =some g)(hT:Tr (Mp P) St ρ H g):∃μ,MI P St os0 (ρ,μ) (crowd gs w sl) t:=by
 cases ρ with
 | stop=> exact⟨_,.alone h hg hT (fun f=> by simp)⟩
 | step f=> exact⟨_,.alone h hg hT (fun f=> by simp)⟩
 | phase f=>
  obtain⟨Po,⟨H₁,F,Po₁,hd,rfl,⟨X,Fin,H₂,o,hn6,ne,mH,rfl,hG,hMS,aFZ⟩,hP⟩,hk⟩:=hT;obtain⟨s,H',ks,rks,D,hPI⟩:=AI.begin hn6 ne mH hd h hG hg hMS;have RP:Dj H₂ F:=fun b x hb=> by
   have:=hd b x hb;cases hx:H₂ b with
   | none=> rfl
   | some y=>
    rw[View.vA,View.vA] at this
    ·rw[hx] at this;cases this
    ·rintro rfl;rw[mH.2] at hx;cases hx
    ·rintro rfl;rw[mH.1] at hx;cases hx
  exact⟨_,.phase hPI mH.2 RP rfl fun o g' ho hF hFC=> hk _ _ (hP _ _ (RP.put hFC) (aFZ o g' ho hF))⟩
def WX:JB×FR->JB×FR->Prop:=Prod.Lex JB.Lt ZF
theorem WX.wf:WellFounded WX:=(Prod.lex ⟨JB.Lt,JB.wf⟩ ⟨ZF,ZF.wf⟩).wf
theorem handed(h:AI P H os0 gs w t q):t.HandedOver:=by
 intro i g hgi xB hc;obtain⟨x,hx,hm,hk⟩:=hc;obtain⟨op,lA,aGi⟩:=touch_of hx;have hog:op.g=g:=by simpa [Trace.g?,lA] using hgi
 have F5:x.kind=.plain:=by
  refine Classical.byContradiction fun aEy=> ?_;obtain⟨h1,h2⟩:=h.SZ i op x lA aGi aEy;have aBU:x.kind≠ .said:=fun e=> xB (hog▸h1 e);have vH:x.kind=.atomic:=by
   cases hkk:x.kind with
   | plain=> exact absurd hkk aEy
   | atomic=> rfl
   | said=> exact absurd hkk aBU
  rcases hk with hk|hk
  ·exact hk vH
  ·exact h2 vH (by rw[hog];exact xB) hk
 obtain⟨j,z,h1,h2,h3⟩:=h.kn i x hx F5;refine⟨j,by simp[Trace.g?,h1,h2],?_⟩;rcases h3 with rfl|h3
 ·rw[lA] at h1;cases h1
  exact absurd (hog.symm.trans h2) xB
 ·exact h3
theorem MI.step {Post:Value->World->Prop}(μ:JB×FR)(m:Machine)(t:Trace)(h:MI P (AtRet P Post) os0 μ m t):
  (∃o w ops,stepT P m=(.ended o w,ops)/\Go.Conc.Good P (fun v w=> Post v w/\TX os0 w) m o w (t++ops))\/(∃m' ops μ',stepT P m=(.next m',ops)/\WX μ' μ/\MI P (AtRet P Post) os0 μ' m' (t++ops)):=by
 cases h with
 | phase h hC hd hμ hk=>
  rename_i gs w sl q X Fin H₁ F base ths mn s H ks rks D f μ
  obtain⟨d,hg⟩:=h.step (sl:=sl);rcases hg with ⟨gs',w',sl',ops,ths',m',s',H',ks',rks',q',D',hr,hPI,HB⟩|⟨gs',sl',g,g',ths',s',H',ks',rks',q',D',hg0,hr,rfl,hF,hPI⟩
  ·exact .inr ⟨_,ops,(.phase f,_),hr,.right _ (by rw[hμ];exact HB),.phase hPI hC hd rfl hk⟩
  ·obtain⟨o,ho,hFC,l8⟩:=hPI.ends (g:=g) (g':=g') hC g.frame.fn g.frame.place;obtain⟨μ',hMI⟩:=MI.of (sl:=sl') l8 (cF (by have:=hPI.si.size;have:=hPI.b1;omega)) (hk o g' ho hF hFC);exact .inr ⟨_,_,_,hr,.left _ _ (.phase f _ _),hMI⟩
 | alone h hg hT hρ=>
  rename_i gs w sl q H g ρ
  have TG:g.status=.running:=by
   cases ρ with
   | stop=> exact hT.1
   | step f=> exact hT.1
   | phase f=> exact absurd rfl (hρ f)
  have haw:∀x∈gs,awake x:=by
   intro x hx tm;obtain⟨i,hi,rfl⟩:=Array.mem_iff_getElem.1 hx;have QQ:=Array.getElem?_eq_getElem hi;by_cases e0:i=0
   ·subst e0;rw[hg] at QQ;cases QQ
    rw[TG];simp
   ·obtain⟨g0,h1,h2⟩:=h.NJ i oM hi;rw[h1] at QQ;cases QQ
    rcases h2.status with e|e <;> rw[e] <;> simp
  obtain⟨i,g₁,d,sl',DU,EY,N5⟩:=crowd_pick (P:=P) (w:=w) (sl:=sl) haw ⟨0,g,hg,TG⟩;rw[N5];have h':=h.at d;by_cases e0:i=0
  ·subst e0;rw[hg] at DU;cases DU
   cases ρ with
   | phase f=> exact absurd rfl (hρ f)
   | step f=>
    obtain⟨_,IB⟩:=hT;obtain⟨g',w',es,H',h3,h4,h5⟩:=IB (w.at d) h'.sat trivial;have l8:=h'.walk (g:=g) (g':=g') (fn:=g.frame.fn) (pos:=g.frame.place) h4;obtain⟨μ',hMI⟩:=MI.of (sl:=sl') l8 (cF h.pos) h5;exact .inr ⟨_,_,_,runT_crowd_go hg h3,.left _ _ (.step f _),hMI⟩
   | stop=>
    obtain⟨_,IB⟩:=hT;obtain⟨v,es,h3,h4,h5⟩:=IB (w.at d) h'.sat;have l8:=h'.walk (g:=g) (g':=g) (fn:=g.frame.fn) (pos:=g.frame.place) { Trans.refl h'.sat with ev:=h4 };have Y9:∀x∈(crowd gs w sl).gs.toList.drop 1,x.Leaves P:=fun x hx=> by
     obtain⟨j,hj⟩:=List.mem_iff_getElem?.1 hx;rw[List.getElem?_drop] at hj;have rS:gs[1+j]? =some x:=by simpa [crowd] using hj
     have I1:=(Array.getElem?_eq_some_iff.1 rS).1;obtain⟨g0,g1,g2⟩:=h.NJ (1+j) oM I1;rw[rS] at g1;cases g1
     exact⟨_,g2.leaves⟩
    have aEu:(crowd gs w sl).EndHearing P (t++MemOp.ofEvents 0 g.frame.fn g.frame.place es):=fun j x hj hj0=> by
     have rS:gs[j]? =some x:=hj;have I1:j<gs.size:=(Array.getElem?_eq_some_iff.1 rS).1;obtain⟨g0,g1,g2⟩:=h.NJ j oM I1;rw[rS] at g1;cases g1
     refine⟨q j,?_⟩;have EI:Deaf (t++MemOp.ofEvents 0 g.frame.fn g.frame.place es) j=Deaf t j:=Deaf_other t (g:=j) (g':=0) oM _ ofEvents_g;have e:(t++MemOp.ofEvents 0 g.frame.fn g.frame.place es).deaf j (t++MemOp.ofEvents 0 g.frame.fn g.frame.place es).size=Deaf t j:=EI;rw[e];exact g2.hears _
    exact .inl ⟨_,_,_,runT_many_ended hg h3,v,rfl,⟨h5,h.os⟩,l8.nr,handed l8,⟨Y9,rfl⟩,aEu⟩
  ·have hi:i<gs.size:=(Array.getElem?_eq_some_iff.1 DU).1;obtain⟨g0,g1,g2⟩:=h.NJ i oM hi;rw[g1] at DU;cases DU
   have OW:(i==0)=false:=by simp;omega
   cases hqq:q i with
   | zero=> rw[hqq] at g2;rw[g2.1] at EY;cases EY
   | succ q'=>
    rw[hqq] at g2;rcases g2 with ⟨hf,_⟩|⟨_,g',es,UN,IB,DY⟩
    ·rw[hf] at EY;cases EY
    ·have l8:=h'.leave (g:=g₁) (fn:=g₁.frame.fn) (pos:=g₁.frame.place) oM hi UN DY;have h0':(nD P gs i g₁ g' (w.at d))[0]? =some g:=by
      rw[zB oM hg,woken_running (.inl TG)]
     refine .inr ⟨_,_,_,runT_crowd_go g1 (by rw[OW];exact IB _),?_,.alone l8 h0' hT hρ⟩;refine .right _ (aCd ?_);show sumTo (nD P gs i g₁ g' (w.at d)).size _<_;rw[CA];have:=sumTo_upd (f:=q) q' (fun a=> a) (i:=i) (j:=gs.size) hi;have e:sumTo gs.size (fun a=> upd q i q' a)=sumTo gs.size (upd q i q'):=rfl;have e2:sumTo gs.size (fun a=> q a)=sumTo gs.size q:=rfl;omega
theorem T.runs {Post:Value->World->Prop}{H:View}{g:Goroutine}{W:World}(h:T (Mp P) (AtRet P Post) H g)(hs:Sat H W):
  ∃N last o w' t',runNT P (N+1) (solo g W) #[]=(.ended o w',t')/\runN P N (solo g W)=.next last/\Go.step P last=.ended o w'/\Go.Conc.Good P (fun v w=> Post v w/\TX (W.os,W.output) w) last o w' t':=by
 obtain⟨ρ,hρ⟩:=h.vX;have l8:AI P H (W.os,W.output) #[g] W #[] (fun _=> 0):=by
  have none:∀(i:Nat) a,touchAt #[] i≠some a:=fun i a=> by simp[touchAt,Trace.act?]
  exact⟨by simp,hs,fun said ⟨i,j,_,⟨a,_,ha,_⟩,_⟩=> by simp[Trace.act?] at ha,fun i a ha=> absurd ha (none i a),fun i a b ha=> absurd ha (none i a),fun i op a lA=> by simp at lA,fun i a b ha=> absurd ha (none i a),fun a i=> by simp[Trace.act?],fun i op lA=> by simp at lA,fun i a ha=> absurd ha (none i a),rfl,fun i h0 hi=> by simp at hi;omega,TX.refl _⟩
 obtain⟨μ,hMI⟩:=MI.of (sl:=none) l8 (by simp) hρ;rw[solo_eq_crowd];exact run_of_inv WX.wf (MI P (AtRet P Post) (W.os,W.output)) (fun m o w t=> Go.Conc.Good P (fun v w=> Post v w/\TX (W.os,W.output) w) m o w t) (fun μ m t hm=> MI.step μ m t hm) _ _ _ hMI
end
end Go.RL
end
namespace Go.RL
open Go.Conc Go.ConcN
section
variable {P:Program}{n:Nat}{R:Rg}{L:Bl}{H₀:View}{k:List Item}
theorem T.top {M:Md P}{Post:Value->World->Prop}{H:View}{fn:Func}{b:FB}{tmps:Array Value}{todo:List Item}{v:Value}(hf:P.funcs[b.fn]? =some fn)(hi:P.inits.idxOf? b.fn=none)(hk:b.kind=.normal)(hv:xX fn R v)(hr:VA n R tmps)
  (hp:∀w,Sat H w->Post v w):T M (AtRet P Post) H (G (b.back tmps [] todo) []):=by
 refine .stop ⟨rfl,fun w hs=> ⟨v,#[],?_,fun e he=> by simp at he,hp w hs⟩⟩;have:stepG P true (G (b.back tmps [] todo) []) w=unwind P true (b.back tmps [] todo) [] none w:=by simp[G,stepG,FB.back]
 rw[this];unfold unwind;simp only[FB.back,hf,hv.run (P:=P) hr w,doReturn,hk,hi,GStep.after,seen_none];simp
theorem Tc.aCr {Post:Value->World->Prop}{fn:Func}{f:FuncId}{v:Value}(hf:P.funcs[f]? =some fn)(hi:P.inits.idxOf? f=none)(hv:xX fn R v)(hp:∀H w,gA H₀ L H->Sat H w->Post v w):
 Tc (Mp P) (AtRet P Post) n ⟨f,.normal,none⟩ H₀ [] R L [] (.code .ret::k):=fun H _ hs hr=> .SD rfl (T.top hf hi rfl hv hr fun w hw=> hp H w hs hw)
theorem T.D4 {f:FuncId}{fn:Func}{body:Code}{vs:List Value}{H:View}{St:View->Goroutine->Prop}(hf:P.funcs[f]? =some fn)(hb:fn.body=some body)(hn:fn.ntmps=n)(hv:vs.length<=n)
  (h:Tc (Mp P) St n ⟨f,.normal,none⟩ H [] (jO vs) [] [] [.code body]):T (Mp P) St H (G (Frame.enter P f vs.toArray .normal) []):=by
 have:=h H (vs.toArray++Array.replicate (n-vs.length) undef) (gA.nil H) ⟨by simp;omega,fun d v hd=> ?_⟩
 ·have e:Frame.enter P f vs.toArray .normal=(⟨f,.normal,none⟩:FB).at (vs.toArray++Array.replicate (n-vs.length) undef) [] [.code body]:=by
   simp[Frame.enter,FB.at,hf,hb,hn]
  rw[e];exact this
 ·obtain⟨_,h2⟩:=PK vs 0 d v hd;simp only[Nat.sub_zero] at h2;have HB:=(List.getElem?_eq_some_iff.1 h2).1;rw[Array.getElem?_append_left (by simpa using HB)];simpa using h2
end
end Go.RL
namespace Go.Proofs.YtldmfjcgjdchcaaGreatDoor
open Go.RL Go.Proofs.Tryz Go.ChangeShapes Go.WideShapes Go.ChangeAt Go.RowKit
set_option maxRecDepth 100000
def FC(W:World):View:=fun b=> (W.heap[b]?).map fun o=> (false,o)
theorem BZ(W:World):Sat (FC W) W:=fun b f o h=> by
 simp only[FC,Option.map_eq_some_iff,Prod.mk.injEq] at h;obtain⟨o',h1,_,rfl⟩:=h;exact h1
theorem aGy:ownKnob prog.godebug=none:=by kernel_rfl
theorem Z5:laidOutB prog=true:=by kernel_rfl
theorem rY:prog.globalNamed "baudot/dial.checks"=some 3:=by kernel_rfl
theorem aAF:(prog.globals[3]?).map (·.type)=some 282:=by kernel_rfl
theorem aEj:prog.globalNamed "baudot/dial.not"=some 1:=by kernel_rfl
theorem aGI:(prog.globals[1]?).map (·.type)=some 242:=by kernel_rfl
theorem N7:prog.underlying 282=some (.array 3 281):=by kernel_rfl
theorem OX:prog.underlying 281=some (.func #[166] #[25] false):=by kernel_rfl
theorem O7:prog.underlying 242=some (.array 3 110):=by kernel_rfl
theorem VY:prog.underlying 110=some (.int .i64):=by kernel_rfl
theorem I3:prog.cellsOf 281=1:=by kernel_rfl
theorem J3:prog.cellsOf 282=3:=by kernel_rfl
theorem eY:prog.cellsOf 110=1:=by kernel_rfl
theorem K3:prog.cellsOf 242=3:=by kernel_rfl
theorem LI {P:Program}{w:World}:∀ {l:List (String×DataW Unit)} {ps:List MemPlace},DataW.LaidVars P w l ps->∀ {n:String} {d:DataW Unit},(n,d)∈l-> 
  ∃g t cs fuel p,P.globalNamed n=some g/\(P.globals[g]?).map (·.type)=some t/\w.var? P n=some cs/\DataW.trod (fun _=> ()) P w 0 (fun _=> true) false fuel t cs.toList=some (d,p)
 | [],_,_,_,_,h=> by cases h
 | (m,e)::r,ps,h,n,d,hm=> by
  obtain⟨g,t,cs,fuel,p,q,h1,h2,h3,h4,h5,_⟩:=h;rcases List.mem_cons.1 hm with e1|hm
  ·cases e1
   exact⟨g,t,cs,fuel,p,h1,h2,h3,h4⟩
  ·exact LI h5 hm
theorem LP {W:World}{n:String}{g:Nat}{cs:Array Value}(hg:prog.globalNamed n=some g)(hv:W.var? prog n=some cs):∃gt gz,W.heap[g]? =some (.cells cs gt gz):=by
 unfold World.var? at hv;rw[hg] at hv;simp only[Option.bind_some] at hv;split at hv
 ·rename_i cs' t' z e
  obtain rfl:=Option.some.inj hv;exact⟨_,_,e⟩
 ·cases hv
theorem N9 {LL:List (String×DataW Unit)}(hc:("baudot/dial.checks",(Rows.laid_baudot_dial_checks:DataW Unit))∈LL)(hn:("baudot/dial.not",(Rows.laid_baudot_dial_not:DataW Unit))∈LL.filter fun x=> x.2.handleName?.isNone){W:World}(h:laidMetH prog LL W):aE (FC W):=by
 constructor
 ·obtain⟨g,t,cs,fuel,p,hg,ht,hv,hd⟩:=h.funcs (n:= "baudot/dial.checks") hc;obtain rfl:=Option.some.inj (rY.symm.trans hg);obtain rfl:=Option.some.inj (aAF.symm.trans ht);obtain⟨gt,gz,hh⟩:=LP rY hv;have hlen:cs.toList.length=3:=by
   cases fuel with
   | zero=> simp[DataW.trod] at hd
   | succ n=>
    unfold DataW.trod at hd;rw[N7] at hd;simp[J3] at hd
    simpa using hd.1
  obtain⟨c0,c1,c2,nS⟩:∃c0 c1 c2,cs.toList= [c0,c1,c2]:=by
   match e:cs.toList,hlen with
   | [c0,c1,c2],_=> exact⟨c0,c1,c2,rfl⟩
  rw[nS] at hd;obtain⟨y0,y1,y2,n,hx,r0,r1,r2⟩:=trod_array3 N7 I3 hd;have sM:=congrArg Prod.fst hx;have VQ:(DataW.agg [y0.1,y1.1,y2.1]:DataW (List UInt8))=DataW.agg [.held _,.held _,.held _]:=sM.symm;simp only[DataW.agg.injEq,List.cons.injEq,and_true] at VQ;obtain⟨e0,e1,e2⟩:=VQ;obtain⟨d0,q0⟩:=y0;obtain⟨d1,q1⟩:=y1;obtain⟨d2,q2⟩:=y2;simp only at e0 e1 e2;subst e0 e1 e2;obtain rfl:=func_of_trod (f0:=368) OX kR r0;obtain rfl:=func_of_trod (f0:=369) OX kR r1;obtain rfl:=func_of_trod (f0:=370) OX kR r2;refine⟨false,gt,gz,?_⟩;have ec:cs=⟨[IE 0,IE 1,IE 2]⟩:=by
   apply Array.ext'
   rw[nS];rfl
  rw[<-ec];simp only[FC,hh,Option.map_some]
 ·obtain⟨⟨ps,hl,_⟩,_⟩:=laidMetH_iff.1 h;obtain⟨g,t,cs,fuel,p,hg,ht,hv,hd⟩:=LI hl hn;obtain rfl:=Option.some.inj (aEj.symm.trans hg);obtain rfl:=Option.some.inj (aGI.symm.trans ht);obtain⟨gt,gz,hh⟩:=LP aEj hv;have hlen:cs.toList.length=3:=by
   cases fuel with
   | zero=> simp[DataW.trod] at hd
   | succ n=>
    unfold DataW.trod at hd;rw[O7] at hd;simp[K3] at hd
    simpa using hd.1
  obtain⟨c0,c1,c2,nS⟩:∃c0 c1 c2,cs.toList= [c0,c1,c2]:=by
   match e:cs.toList,hlen with
   | [c0,c1,c2],_=> exact⟨c0,c1,c2,rfl⟩
  rw[nS] at hd;obtain⟨y0,y1,y2,n,hx,r0,r1,r2⟩:=trod_array3 O7 eY hd;have sM:=congrArg Prod.fst hx;have VQ:(DataW.agg [y0.1,y1.1,y2.1]:DataW Unit)=DataW.agg [.lit (.int .i64 0),.lit (.int .i64 2),.lit (.int .i64 1)]:=sM.symm;simp only[DataW.agg.injEq,List.cons.injEq,and_true] at VQ;obtain⟨e0,e1,e2⟩:=VQ;obtain⟨z0,g0,g0',_⟩:=DataW.trod_int VY r0;obtain⟨z1,g1,g1',_⟩:=DataW.trod_int VY r1;obtain⟨z2,g2,g2',_⟩:=DataW.trod_int VY r2;subst g0' g1' g2';simp only[DataW.lit.injEq,Lit.int.injEq,true_and] at e0 e1 e2;simp only[List.cons.injEq,and_true] at g0 g1 g2;refine⟨false,gt,gz,?_⟩;have ec:cs=⟨[.int .i64 0,.int .i64 2,.int .i64 1]⟩:=by
   apply Array.ext'
   rw[nS,g0,g1,g2,e0,e1,e2]
  rw[<-ec];simp only[FC,hh,Option.map_some]
theorem N4:prog.globalNamed "baudot/code.signs"=some 4:=by kernel_rfl
theorem aDH:(prog.globals[4]?).map (·.type)=some 290:=by kernel_rfl
theorem IV:prog.underlying 290=some (.array 2 9):=by kernel_rfl
theorem P7:prog.underlying 9=some .string:=by kernel_rfl
theorem M3:prog.cellsOf 9=1:=by kernel_rfl
theorem pW:prog.cellsOf 290=2:=by kernel_rfl
theorem J7 {P:Program}{w:World}{base:Nat}{spare:Nat->Bool}{held:Bool}{H:Type}{enc:TypeId×Value->H}{t e:TypeId}{fuel:Nat}{c0 c1:Value}{x:DataW H×List MemPlace}(ht:P.underlying t=some (.array 2 e))(hce:P.cellsOf e=1)
  (h:DataW.trod enc P w base spare held fuel t [c0,c1]=some x):
  ∃y0 y1 n,x=(.agg [y0.1,y1.1],y0.2++y1.2)/\DataW.trod enc P w base spare held n e [c0]=some y0/\DataW.trod enc P w base spare held n e [c1]=some y1:=by
 cases fuel with
 | zero=> simp[DataW.trod] at h
 | succ n=>
  unfold DataW.trod at h;rw[ht] at h;have r2:List.range 2= [0,1]:=rfl;simp[r2,hce] at h
  obtain⟨_,h⟩:=h;cases h0:DataW.trod enc P w base spare held n e [c0] with
  | none=> simp[h0] at h
  | some y0=>
   cases h1:DataW.trod enc P w base spare held n e [c1] with
   | none=> simp[h0,h1] at h
   | some y1=>
    simp[h0,h1] at h
    exact⟨y0,y1,n,h.symm,h0,h1⟩
theorem aDB {LL:List (String×DataW Unit)}(hn:("baudot/code.signs",(Rows.laid_baudot_code_signs:DataW Unit))∈LL.filter fun x=> x.2.handleName?.isNone){W:World}(h:laidMetH prog LL W):eZ (FC W):=by
 obtain⟨⟨ps,hl,_⟩,_⟩:=laidMetH_iff.1 h;obtain⟨g,t,cs,fuel,p,hg,ht,hv,hd⟩:=LI hl hn;obtain rfl:=Option.some.inj (N4.symm.trans hg);obtain rfl:=Option.some.inj (aDH.symm.trans ht);obtain⟨gt,gz,hh⟩:=LP N4 hv;have hlen:cs.toList.length=2:=by
  cases fuel with
  | zero=> simp[DataW.trod] at hd
  | succ n=>
   unfold DataW.trod at hd;rw[IV] at hd;simp[pW] at hd
   simpa using hd.1
 obtain⟨c0,c1,nS⟩:∃c0 c1,cs.toList= [c0,c1]:=by
  match e:cs.toList,hlen with
  | [c0,c1],_=> exact⟨c0,c1,rfl⟩
 rw[nS] at hd;obtain⟨y0,y1,n,hx,r0,r1⟩:=J7 IV M3 hd;obtain⟨s0,g0,g0',_⟩:=DataW.trod_string P7 r0;obtain⟨s1,g1,g1',_⟩:=DataW.trod_string P7 r1;subst g0' g1';have sM:=congrArg Prod.fst hx;have VQ:(DataW.agg [.lit (.string s0.data.toList),.lit (.string s1.data.toList)]:DataW Unit)=DataW.agg [.lit (.string yV),.lit (.string DL)]:=sM.symm;simp only[DataW.agg.injEq,List.cons.injEq,and_true,DataW.lit.injEq,Lit.string.injEq] at VQ;obtain⟨e0,e1⟩:=VQ;simp only[List.cons.injEq,and_true] at g0 g1;refine⟨false,gt,gz,?_⟩;have ec:cs=⟨[mA yV,mA DL]⟩:=by
  apply Array.ext'
  rw[nS,g0,g1];obtain⟨⟨l0⟩⟩:=s0;obtain⟨⟨l1⟩⟩:=s1;simp only at e0 e1;rw[e0,e1]
 rw[<-ec];simp only[FC,hh,Option.map_some]
section
variable {H:Type}{enc:TypeId×Value->H}{P:Program}{W W':World}
theorem eK(hl:laidOutB P=true)(hb:∀x:MemPlace,x.block<W.heap.size->W.sameAt W' x):∀ {ts:List TypeId} {vs:List Value} {ds:List (DataW H)} {p:List MemPlace},ts.all (fun t=> P.readableRec t&&decide (t<P.types.size))=true-> 
  DataW.TrodAll enc P W 0 (fun _=> true) true ts vs ds p->(∀x∈p,x.block<W.heap.size)->DataW.TrodAll enc P W' 0 (fun b=> decide (b<W.heap.size)) true ts vs ds p
 | [],[],[],_,_,h,_=> h
 | t::ts,v::vs,d::ds,p,hr,h,HB=> by
  simp only[List.all_cons,Bool.and_eq_true,decide_eq_true_eq] at hr;obtain⟨a,b,h1,h2,rfl⟩:=h;exact⟨a,b,WideElems.Trod_stays hl hr.1.1 hr.1.2 h1 (fun x hx=> hb x (HB x (by simp[hx]))) (fun x hx=> by simpa using HB x (by simp[hx])),eK hl hb hr.2 h2 (fun x hx=> HB x (by simp[hx])),rfl⟩
 | [],[],_::_,_,_,h,_=> h.elim
 | [],_::_,[],_,_,h,_=> h.elim
 | [],_::_,_::_,_,_,h,_=> h.elim
 | _::_,[],[],_,_,h,_=> h.elim
 | _::_,[],_::_,_,_,h,_=> h.elim
 | _::_,_::_,[],_,_,h,_=> h.elim
theorem xN {base:Nat}{sp:Nat->Bool}{held:Bool}:∀ {ts:List TypeId} {vs:List Value} {ds:List (DataW H)} {p:List MemPlace},DataW.TrodAll enc P W base sp held ts vs ds p->ds.length=ts.length
 | [],[],[],_,_=> rfl
 | _::_,_::_,_::_,_,h=> by
  obtain⟨_,_,_,h2,_⟩:=h;simp[xN h2]
 | [],[],_::_,_,h=> h.elim
 | [],_::_,[],_,h=> h.elim
 | [],_::_,_::_,_,h=> h.elim
 | _::_,[],[],_,h=> h.elim
 | _::_,[],_::_,_,h=> h.elim
 | _::_,_::_,[],_,h=> h.elim
theorem LN(ho:W'.os=W.os)(YW:W'.output=W.output)(hb:∀b<W.heap.size,W'.heap[b]? =W.heap[b]?)(may:MemPlace->Prop):W.keptBut W' may:=by
 refine⟨ho,YW,fun i hi=> ?_⟩;rw[hb i hi];cases h:W.heap[i]? with
 | none=> exact rfl
 | some o=>
  cases o with
  | cells c t fr=> exact⟨rfl,rfl,rfl,fun _ _=> rfl⟩
  | map es k=> exact .inr ⟨rfl,rfl⟩
  | _=> exact rfl
theorem j0 {f:Func}{s:ChangeSpec}{args:Array Value}{ds gs:List (DataW H)}{before:List MemPlace}{tb:TypeId}(hl:laidOutB P=true)(hr:f.params.toList.all (fun t=> P.readableRec t&&decide (t<P.types.size))=true)
  (I5:f.resultTypes=#[tb]) (htb:P.underlying tb=some .bool) (hs:s.vars= []) (hW:DataW.Whole enc P f.params.toList s.vars false W args.toList ds gs before) (LW:s.fn H (ds++gs)= { results:= [.lit (.bool true)],args:=ds })
  (YW:W'.output=W.output) (AD:W.heap.size<=W'.heap.size) (hb:∀b<W.heap.size,W'.heap[b]? =W.heap[b]?):s.post enc P f false true false false W args (.bool true) { W' with os:=W.os }:=by
 have HB:=hW.lt;have hW0:=hW;obtain⟨p,q,hA,hV,rfl,hfz,zE⟩:=hW;rw[hs] at hV;obtain⟨rfl,rfl⟩:=trodVars_none hV;have aFX:Below W.heap.size W { W' with os:=W.os,tape:=W.tape }:=⟨rfl,rfl,YW,AD,hb⟩
 refine⟨ds,[],p++[],[],p,[],hW0,?_,?_,?_,LN (W:=W) (W':= { W' with os:=W.os }) rfl YW hb _,fun h=> nomatch h⟩
 ·rw[LW,I5];exact trodAll_mk1 (shut_bool htb _)
 ·rw[LW];exact eK (W':= { W' with os:=W.os }) hl (fun x hx=> aFX.same hx) hr hA (fun x hx=> HB x (by simp[hx]))
 ·rw[LW,hs];rfl
end
theorem aAc {w w':World}(h:w'.os=w.os){Q:World->Prop}(hq:Q { w' with os:=w.os }):Q w':=by
 rw[<-h] at hq;exact hq
theorem lifted {LL:List (String×DataW Unit)}{f:FuncId}{fn:Func}{s:ChangeSpec}{n:Nat}{body:Code}{a:Assume}{os:Os}{H:Type}{enc:TypeId×Value->H}{conds:List PathCond}
  (LW:prog.funcs[f]? =some fn) (hb:fn.body=some body) (hn:fn.ntmps=n) (hi:prog.inits.idxOf? f=none) (CY:fn.params.size<=n)
  (I5:fn.resultTypes=#[4]) (SQ:fn.params.toList.all (fun t=> prog.readableRec t&&decide (t<prog.types.size))=true)
  (hsv:s.vars= []) (hsf:∀ds:List (DataW H),ds.length=fn.params.size->s.fn H (ds++[])= { results:= [.lit (.bool true)],args:=ds })
  (started:os.Started)
  (witness:∃(w:World) (tape:Tape) (i:Input),w.os=os/\(w.forCall tape i).Shaped prog/\i.vars= []/\Input.okWide prog (w.forCall tape i) .any w.heap.size f i/\
   ((s.pre enc prog fn conds false (w.forCall tape i).memory i.args/\laidMetH prog LL (w.forCall tape i).memory)/\sizedMet enc prog fn (OpenSpec.ofChange s) false (w.forCall tape i).memory i.args)/\a.holds prog (lone (Frame.enter prog f i.args .normal) [] (w.forCall tape i)))
  (walk:∀(W:World) (base:Nat) (vs:List Value) (ds:List (DataW H)) (p:List MemPlace),vs.length=fn.params.size->(∀(j:Nat) t v,fn.params[j]? =some t->vs[j]? =some v->Value.okWide prog W .any base t v)-> 
   DataW.TrodAll enc prog W 0 (fun _=> true) true fn.params.toList vs ds p->(DataW.weightsEach prog fn.params.toList ds).all (· <=reachBytes)=true->laidMetH prog LL W-> 
   ∀(St:View->Goroutine->Prop),(∀(H₀:View) (R:Rg) (L:Bl) (kk:List Item),xX fn R (.bool true)->(FC W).le H₀->Tc (Mp prog) St n ⟨f,.normal,none⟩ H₀ [] R L [] (.code .ret::kk))-> 
   Tc (Mp prog) St n ⟨f,.normal,none⟩ (FC W) [] (jO vs) [] [] [.code body]):
  ReturnsInLeavingWide a Tryz.checked os f .any (fun w args=> (s.pre enc prog fn conds false w args/\laidMetH prog LL w)/\sizedMet enc prog fn (OpenSpec.ofChange s) false w args)
   (s.post enc prog fn false true false false):=by
 refine returnsInLeavingWide_of_good (C:=Tryz.checked) aGy started witness ?_;intro w tape i _ _ _ ZB aBX _;obtain⟨_,_,_,fn',aF0,_,_,_,TQ,bX⟩:=ZB;have e:fn'=fn:=Option.some.inj (aF0.symm.trans LW);subst e;obtain⟨⟨⟨ds,gs,before,hw,hc⟩,hl⟩,hz⟩:=aBX;generalize hWe:w.forCall tape i=W at *;have WV:DataW.Whole enc prog fn'.params.toList s.vars false W i.args.toList ds gs before:=hw.of_heap (by rfl);have J1:laidMetH prog LL W:=hl.of_heap (by rfl);have VN:=hz.weights hw;have hw0:=WV;obtain⟨p,q,hA,hV,rfl,hfz,zE⟩:=WV;rw[hsv] at hV;obtain⟨rfl,rfl⟩:=trodVars_none hV;have hlen:ds.length=fn'.params.size:=by
  simpa using xN hA
 have aGs:(DataW.weightsEach prog fn'.params.toList ds).all (· <=reachBytes)=true:=by
  have e:DataSpec.varTypes prog (OpenSpec.ofChange s).bare.plain= []:=by
   show List.filterMap _ s.vars= []
   rw[hsv];rfl
  have:=VN;rw[e] at this;simpa using this
 have hT :=T.runs (Post:=fun v w=> v=.bool true/\W.heap.size<=w.heap.size/\∀b<W.heap.size,w.heap[b]? =W.heap[b]?) (H:=FC W) (T.D4 LW hb hn (by simpa [TQ] using CY)
  (walk W w.heap.size i.args.toList ds p (by simpa using TQ) (fun j t v h1 h2=> bX j t v h1 (by simpa using h2)) hA aGs J1 _
   (fun H₀ R L kk hv hle=> Tc.aCr LW hi hv (fun H w hs hw=> by
    have hk:∀b<W.heap.size,w.heap[b]? =W.heap[b]? :=fun b hb=> by
     have h1:FC W b=some (false,W.heap[b]):=by simp[FC,hb]
     rw[hw b false _ (hs.base _ _ (hle _ _ h1))];simp[hb]
    refine⟨rfl,?_,hk⟩;rcases Nat.eq_zero_or_pos W.heap.size with hz|hz
    ·omega
    ·have h1:=hk (W.heap.size-1) oM;have h2:=h1.trans (Array.getElem?_eq_getElem (show W.heap.size-1<W.heap.size by omega));have:=(Array.getElem?_eq_some_iff.1 h2).1;omega)))) (BZ W)
 rw[Array.toArray_toList] at hT;obtain⟨N,last,o,w',t',h1,h2,h3,v,ho,⟨⟨rfl,hp1,hp2⟩,m8,QW⟩,r1,r2,r3,r4⟩:=hT;exact⟨N,last,o,w',t',h1,h2,h3,.bool true,ho,ChangeSpec.post_blind (aAc m8 (j0 Z5 SQ I5 kR hsv hw0 (hsf ds hlen) QW hp1 hp2)),r1,r2,r3,r4⟩
theorem F3 {W:World}{base:Nat}{v:Value}(h:Cell.okWide prog W .any base 3 v):∃x,v=.int .i64 x:=by
 unfold Cell.okWide Cell.ok at h;rw[show prog.underlying 3=some (.int .i64) by kernel_rfl] at h;cases v with
 | int k n=>
  obtain⟨rfl,_⟩:=h;exact⟨n,rfl⟩
 | _=> exact h.elim
theorem aAo {W:World}{base:Nat}{v:Value}(h:Value.okWide prog W .any base 5 v):∃x,v=.int .u8 x/\0<=x/\x<256:=by
 unfold Value.okWide Cell.okWide Cell.ok at h;rw[show prog.underlying 5=some (.int .u8) by kernel_rfl] at h;cases v with
 | int k n=>
  obtain⟨rfl,h1,h2⟩:=h;have e1:IntKind.u8.min=0:=by kernel_rfl
  have e2:IntKind.u8.max=255:=by kernel_rfl
  exact⟨n,rfl,oM,oM⟩
 | _=> exact h.elim
theorem L0 {W:World}{base:Nat}{t e:TypeId}{v:Value}(ht:prog.underlying t=some (.slice e))(hv:Value.okWide prog W .any base t v):∃a n c,v=.slice a n c:=by
 unfold Value.okWide Cell.okWide Cell.ok at hv;rw[ht] at hv;cases v with
 | slice a n c=> exact⟨a,n,c,rfl⟩
 | _=> exact hv.elim
theorem tF {W:World}{a:Addr}{v:Value}(h:W.cell? a=some v):∃c t z,W.heap[a.block]? =some (.cells c t z)/\c[a.off]? =some v:=by
 unfold World.cell? at h;split at h
 ·rename_i c t z e
  split at h
  ·cases h
  ·exact⟨c,t,z,e,h⟩
 ·cases h
theorem WZ {H:Type}{enc:TypeId×Value->H}{W:World}{base:Nat}{t e:TypeId}{k:IntKind}{v:Value}{d:DataW H}{ps:List MemPlace}(ht:prog.underlying t=some (.slice e))(he:prog.underlying e=some (.int k))(hc:prog.cellsOf e=1)
  (hv:Value.okWide prog W .any base t v) (h:DataW.Trod enc prog W 0 (fun _=> true) true t v d ps):
  ∃ (A:Option Addr) (l:List Int) (ca:Nat),v=.slice A l.length ca/\ca<=maxLen/\l.length<=ca/\(∀x∈l,k.min<=x/\x<=k.max)/\
   (l= []\/∃ab ao gs gt gz,A=some ⟨ab,ao,none⟩/\FC W ab=some (false,.cells ⟨gs⟩ gt gz)/\∀j:Nat,j<l.length->gD false 1 gs (ao+(j:Int).toNat*1)=some (.int k (l[j]?.getD 0))):=by
 obtain⟨a,n,c,rfl⟩:=L0 ht hv;obtain⟨fuel,h⟩:=h;have nS:(Value.slice a n c).cells.toList= [.slice a n c]:=rfl;rw[nS] at h;rcases open_ints ht he hc h with ⟨h1,_⟩|⟨a',len,cap,zs,h1,_,h3,h4,h5,_,h7,h8⟩
 ·simp only[List.cons.injEq,Value.slice.injEq,and_true] at h1;obtain⟨rfl,rfl,rfl⟩:=h1;exact⟨none,[],0,rfl,Nat.zero_le _,Nat.le_refl _,by simp,.inl rfl⟩
 ·simp only[List.cons.injEq,Value.slice.injEq,and_true] at h1;obtain⟨rfl,rfl,rfl⟩:=h1;simp only[if_true] at h5;have hl:(zs.take n).length=n:=by rw[List.length_take,h5];omega
  refine⟨some a',zs.take n,c,by rw[hl],h4,oM,fun x hx=> ?_,?_⟩
  ·have:=h8 x (List.mem_of_mem_take hx);simpa [Lit.wf] using this
  ·cases n with
   | zero=> exact .inl (by simp)
   | succ m=>
    obtain⟨ab,ao,sp⟩:=a';have h0:=h7 0 oM;have O1:sp=none:=by simpa [Addr.add] using World.cell?_spot h0
    subst O1;obtain⟨cs,gt,gz,e1,_⟩:=tF h0;have e1':W.heap[ab]? =some (.cells cs gt gz):=by simpa [Addr.add] using e1
    refine .inr ⟨ab,ao,cs.toList,gt,gz,rfl,by simp only[FC,e1',Option.map_some],fun j hj=> ?_⟩;have rS:j<zs.length:=by omega
    have h9:=h7 j rS;obtain⟨cs',gt',gz',e2,e3⟩:=tF h9;have eb:((⟨ab,ao,none⟩:Addr).add j).block=ab:=by unfold Addr.add;split <;> rfl
    have eo:((⟨ab,ao,none⟩:Addr).add j).off=ao+j:=by
     unfold Addr.add;split
     ·rename_i h;subst h;rfl
     ·rfl
    rw[eb,e1'] at e2;cases e2
    rw[eo] at e3;show cs.toList[ao+(j:Int).toNat*1]? =_;rw[Int.toNat_natCast,Nat.mul_one,Array.getElem?_toList,e3];have hjn:j<m+1:=by omega
    rw[List.getElem?_take_of_lt hjn,List.getD_eq_getElem?_getD]
theorem nQ {H:Type}{enc:TypeId×Value->H}{C:Checked}{os:Os}{f:FuncId}{fn:Func}{s:ChangeSpec}{conds:List PathCond}{apart:Bool}{X:World->Array Value->Prop}(w0:World)(args:Array Value)(fuel:Nat)(hos:w0.os=os)
  (HK:(w0.forCall (fun _ _=> 0) ⟨#[],args,[]⟩).Shaped C.prog)
  (ZB:Input.okWideB C.prog (w0.forCall (fun _ _=> 0) ⟨#[],args,[]⟩) f ⟨#[],args,[]⟩=true)
  (aBX:s.preB enc C.prog fn conds apart (w0.forCall (fun _ _=> 0) ⟨#[],args,[]⟩).memory args fuel=true)
  (AD:s.sizedB enc C.prog fn apart (w0.forCall (fun _ _=> 0) ⟨#[],args,[]⟩).memory args fuel=true)
  (hx:X (w0.forCall (fun _ _=> 0) ⟨#[],args,[]⟩).memory args):
  ∃ (w:World) (tape:Tape) (i:Input),w.os=os/\(w.forCall tape i).Shaped C.prog/\i.vars= []/\Input.okWide C.prog (w.forCall tape i) .any w.heap.size f i/\
   ((s.pre enc C.prog fn conds apart (w.forCall tape i).memory i.args/\X (w.forCall tape i).memory i.args)/\sizedMet enc C.prog fn (OpenSpec.ofChange s) apart (w.forCall tape i).memory i.args)/\({}:Assume).holds C.prog (lone (Frame.enter C.prog f i.args .normal) [] (w.forCall tape i)):=
 ⟨w0,fun _ _=> 0,⟨#[],args,[]⟩,hos,HK,(Input.okWide_of_okWideB (base:=0) ZB).1,(Input.okWide_of_okWideB ZB).2,⟨⟨ChangeSpec.pre_of_preB aBX,hx⟩,sizedMet_of_sizedB AD⟩,by
  simp only[Assume.holds];simp⟩
theorem IN(Lk:Looks){p:Pinned}{s:OpenSpec}{c:OpenClaim}(kinds:List LaidKind)(tests:Bool)(DH:Bool×String)(lk:Bool)
  (hc:c.holds p s) (hw:c.wfByText s=true) (aGp:c.laidByTextAt Lk p kinds tests)
  (IB:c.start=.entering) (hnb:c.noBlocks=false/\c.again=false) (hm:p.checked.prog.mainIs=some (DH.1,DH.2.toList)) (hn:(!DH.1&&DH.2.isEmpty && !lk)=false)
  (hl:∀f fn,p.checked.prog.funcNamed c.func=some f->p.checked.prog.funcs[f]? =some fn->lk=p.checked.prog.looks []/\∀(j:Nat) t,fn.params[j]? =some t->p.checked.prog.wantsStandIn t=false)
  (hg:true=c.goesBy p.checked.prog):
  Claim7.holds p (.plain s) { stood:= { row:=c,standIns:= [],harness:=DH,looks:=lk },kinds:= [],alts:= [],goes:=true,laidByText:=true,laidKinds:=kinds,laidTests:=tests,laidLooks:=Lk }:=by
 have h6:∀r:OpenClaim,Claim7.isSixth { stood:= { row:=r,standIns:= [],harness:=DH,looks:=lk },kinds:= [] }=false:=fun r=> by simpa [Claim7.isSixth] using hn
 obtain⟨h1,h2⟩:=Claim7.tied_new_at Lk kinds tests (Claim7.new_of_sixth hc DH lk IB hnb hm (h6 c) hl) hw;exact⟨⟨h1,h2⟩,(fun D hD=> by cases hD),aGp,(fun h=> by cases h),hg⟩
theorem D6 {ps:Array TypeId}(h:ps.toList.all (fun u=> !prog.wantsStandIn u)=true):∀(j:Nat) t,ps[j]? =some t->prog.wantsStandIn t=false:=fun j t ht=> by
 have hm:t∈ps.toList:=by simpa using Array.mem_of_getElem? ht
 simpa using List.all_eq_true.1 h t hm
end Go.Proofs.YtldmfjcgjdchcaaGreatDoor
