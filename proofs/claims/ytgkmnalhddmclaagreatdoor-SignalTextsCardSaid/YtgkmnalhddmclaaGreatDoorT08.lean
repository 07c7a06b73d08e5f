/-
 Texts of the proofs over baudot/dial.
-/
import Derived.Test.YtgkmnalhddmclaaGreatDoorT07
import Derived.Test.YtgkmnalhddmclaaGreatDoorTie
import Derived.Test.YtgkmnalhddmclaaGreatDoorCards
import Derived.ProofKit
import Derived.LaidMore
import Derived.LaidHandle
import Derived.LaidSub
import Derived.Lay
import Derived.Laws.IdiomArrays
import Derived.Conc.HoldsTime
import Derived.SevenTiedAt
namespace Go.RL
open Go.Conc Go.ConcN Go.RL.Au
open Go.ConcR (stA smA)
open Go.ConcM (muA OsLater)
theorem aAw {s:Sh}{t:Th}(hp:t.plain=true)(hm:t.mv s= []):∃c,t=.s1 c/\s.Q=0:=by
 cases t <;> simp only[Th.mv] at hm
 case la=> cases hp
 case ur=> cases hp
 case wr=> cases hp
 case quit=> cases hp
 case s1 c=>
  split at hm
  ·exact⟨c,rfl,by assumption⟩
  ·cases hm
 case l0=> split at hm <;> cases hm
 case c1=> split at hm <;> cases hm
 case c2=>
  split at hm
  ·split at hm <;> cases hm
  ·cases hm
 case r2=> split at hm <;> cases hm
 case uc=> split at hm <;> cases hm
 all_goals cases hm
theorem aAu {s:Sh}{t:Mn}(hp:t.plain=true)(hm:t.mv s= []):t=.ws/\s.q=0:=by
 cases t <;> simp only[Mn.mv] at hm
 case go=> cases hp
 case ret=> cases hp
 case ws=>
  split at hm
  ·exact⟨rfl,by assumption⟩
  ·cases hm
 case w2=> split at hm <;> cases hm
 all_goals cases hm
theorem TI.bare {Mu Wg C base N hs g:Nat}{H:Nat->View}{B:View}{t u:Trace}(h:TI Mu Wg C base N hs H B t)(hg:∀op∈u,op.g=g)(hN:g<N)(hu:∀op∈u,op.act.touch? =none)(hr:∀op∈u,∀a,op.act≠ .mark (.release a)):TI Mu Wg C base N hs H B (t++u):=by
 have old:∀ {i:Nat} {a:Touch},touchAt (t++u) i=some a->touchAt t i=some a/\i<t.size:=by
  intro i a ha;rcases VA ha with ⟨hi,AF⟩|⟨hi,op,iA,_,r6⟩
  ·exact⟨AF,hi⟩
  ·rw[hu op iA] at r6;cases r6
 have oldop:∀ {i:Nat} {op:MemOp} {a:Touch},(t++u)[i]? =some op->op.act.touch? =some a->t[i]? =some op/\i<t.size:=by
  intro i op a iA ha;rcases getElem?_append_cases iA with ⟨hi,rE⟩|⟨hi,vD⟩
  ·exact⟨rE,hi⟩
  ·rw[hu op vD] at ha;cases ha
 refine⟨fun said=> noRace_append (h.nr said) hg fun i a _ op iA b hb _=> (by rw[hu op iA] at hb;cases hb),fun i a b ha hb=> h.bd i a b (old ha).1 hb,fun j hj i a b f o ha hb hH hw=> (h.kn j hj i a b f o (old ha).1 hb hH hw).app u,
  fun i op a iA ha hk mB=> (h.pl i op a (oldop iA ha).1 ha hk mB).app u,fun i a b ha hk hb=> h.np i a b (old ha).1 hk hb,fun i op a iA ha hk=> ?_,fun j hj i a b ha hk hb gK=> (h.sy j hj i a b (old ha).1 hk hb gK).app u,fun a=> (h.rel a).app fun op iA=> hr op iA a,fun i op iA=> ?_,fun i a ha=> h.mem i a (old ha).1⟩
 ·obtain⟨h3,hi⟩:=oldop iA ha;obtain⟨h1,h2⟩:=h.nW i op a h3 ha hk;exact⟨h1,fun e e'=> by rw[heard_old hi];exact h2 e e'⟩
 ·rcases getElem?_append_cases iA with ⟨hi,rE⟩|⟨hi,vD⟩
  ·exact h.gs i op rE
  ·rw[hg op vD];exact hN
theorem vS {g:Nat}{fn:FuncId}{pos:String}{es:Array Event}(h:∀e∈es,e.mute=true):∀op∈MemOp.ofEvents g fn pos es,op.g=g/\op.act.touch? =none/\∀a,op.act≠ .mark (.release a):=by
 rw[ofEvents_eq];intro op iA;obtain⟨e,he,rfl⟩:=Array.mem_map.1 iA;have:=h e he;obtain⟨loc,wr,sy⟩:=e;cases loc with
 | mark m=> cases m <;> simp[Event.mute] at this <;> simp[MemAct.ofEvent,MemAct.touch?]
 | _=> simp[Event.mute] at this
section
variable {P:Program}{X:Fk}{Fin:Goroutine->Prop}{B:View}{base:Nat}{os0:gY}{gs:Array Goroutine}{w:World}{t:Trace}{ths:List Th}{m:Mn}{s:Sh}{H:Nat->View}{ks:Nat->Nat}{rks:List sB}{q:Nat->Nat}{D:Nat->Bool}
variable {sl:Option (Nat×Nat)}
theorem WT.leave {N:Nat}(h:WT X B base N os0 w t ths m s H D){i:Nat}{fn:FuncId}{pos:String}{es:Array Event}(hi:0<i)(hN:i<N)(hm:∀e∈es,e.mute=true)(hq:∀(κ:Nat) T,ths[κ]? =some T->base+κ=i->T=.quit):
  WT X B base N os0 w (t++MemOp.ofEvents i fn pos es) ths m s H D:=by
 have ho:=vS (g:=i) (fn:=fn) (pos:=pos) hm;have qO:∀op∈MemOp.ofEvents i fn pos es,op.g=i:=fun op iA=> (ho op iA).1;refine⟨h.sh,h.cb,h.vi,h.hx,h.ti.bare qO hN (fun op iA=> (ho op iA).2.1) (fun op iA=> (ho op iA).2.2),fun wG=> ?_,h.own,fun κ T hκ hT=> ?_,?_,fun κ T hκ hT=> ?_,h.os⟩
 ·obtain⟨h1,h3,h4⟩:=h.free wG;exact⟨h1,h3,h4.grow fun op iA x hx=> by rw[(ho op iA).2.1] at hx;cases hx⟩
 ·obtain⟨r,hr⟩:=h.uH κ T hκ hT;refine⟨r,hr.app fun j hj hgj hc=> ?_⟩;obtain⟨a,ha,_⟩:=hc;obtain⟨op,iA,tU⟩:=touch_of ha;rcases getElem?_append_cases iA with ⟨hl,_⟩|⟨_,vD⟩
  ·omega
  ·rw[(ho op vD).2.1] at tU;cases tU
 ·rw[Deaf_other t (g:=0) (g':=i) oM _ qO];exact h.LR
 ·have e:i≠base+κ:=fun e=> hT (hq κ T hκ e.symm);rw[Deaf_other t (g:=base+κ) (g':=i) e _ qO];exact h.XT κ T hκ hT
theorem PI.pos(h:PI P X Fin B base os0 gs w t ths m s H ks rks q D):∀i,Act base gs.size i->0<ks i:=fun i hi=> Nat.lt_of_le_of_lt (Nat.zero_le _) (h.depth i hi)
theorem PI.at(h:PI P X Fin B base os0 gs w t ths m s H ks rks q D)(d:Nat):PI P X Fin B base os0 gs (w.at d) t ths m s H ks rks q D:=⟨h.inv,h.b1,h.ne,h.dd,h.depth,h.wt.at d,h.si⟩
def PI.meas(X:Fk)(gs:Array Goroutine)(ths:List Th)(m:Mn)(s:Sh)(rks:List sB)(q:Nat->Nat):HP:=(mu X.n ths m s,rks,sumTo gs.size q,runs gs)
def Goes(P:Program)(X:Fk)(Fin:Goroutine->Prop)(B:View)(base:Nat)(os0:gY)(μ:HP)(w:World)(t:Trace)(gs:Array Goroutine)(r:Stepped×Array MemOp):Prop:=
 (∃gs' w' sl' ops ths' m' s' H' ks' rks' q' D',r=(.next (crowd gs' w' sl'),ops)/\PI P X Fin B base os0 gs' w' (t++ops) ths' m' s' H' ks' rks' q' D'/\qF (PI.meas X gs' ths' m' s' rks' q') μ)\/ 
 (∃gs' sl' g g' ths s H ks rks q D,gs[0]? =some g/\r=(.next (crowd gs' w sl'),MemOp.ofEvents 0 g.frame.fn g.frame.place #[Go.ConcR.mk (.acquire (stA X.Wg))])/\gs'=EC P gs 0 g g' w/\Fin g'/\PI P X Fin B base os0 gs w t ths .aq s H ks rks q D)
theorem PI.VT(h:PI P X Fin B base os0 gs w t ths m s H ks rks q D){κ:Nat}{T T':Th}(hκ:ths[κ]? =some T)(hd:T'.did=T.did):∀κ',D κ'=(((ths.set κ T')[κ']?).map Th.did).getD false:=fun κ'=> by
 rw[h.dd κ'];by_cases e:κ=κ'
 ·subst e;rw[List.getElem?_set_self (List.getElem?_eq_some_iff.1 hκ).1,hκ];simp[hd]
 ·rw[List.getElem?_set_ne e]
theorem KE {i:Nat}{u:Trace}(hu:∀op∈u,op.g=i):∀j,j≠i->Deaf (t++u) j=Deaf t j:=fun j hj=> Deaf_other t (g:=j) (g':=i) (Ne.symm hj) u hu
theorem ofEvents_g {g:Nat}{fn:FuncId}{pos:String}{es:Array Event}:∀op∈MemOp.ofEvents g fn pos es,op.g=g:=by
 rw[ofEvents_eq];intro op iA;obtain⟨e,_,rfl⟩:=Array.mem_map.1 iA;rfl
theorem NZ {a b:Nat}{x y:List sB×(Nat×Nat)}(h:a<b):qF (a,x) (b,y):=.left _ _ h
theorem OZ {a:Nat}{x y:List sB}{u v:Nat×Nat}(h:yV x y):qF (a,x,u) (a,y,v):=.right _ (.left _ _ h)
theorem aAr {a b c:Nat}{x:List sB}{u v:Nat}(h:b<c):qF (a,x,b,u) (a,x,c,v):=.right _ (.right _ (.left _ _ h))
theorem PZ {a b:Nat}{x:List sB}{u v:Nat}(h:u<v):qF (a,x,b,u) (a,x,b,v):=.right _ (.right _ (.right _ h))
theorem yN {i:Nat}{g g':Goroutine}(hi:gs[i]? =some g)(hg:g.status=.running)(yT:g'.status=.blocked):runs (EC P gs i g g' w)<runs gs:=by
 have e:EC P gs i g g' w=gs.setIfInBounds i g':=by
  unfold EC;have:woken P g g' w=id:=by
   funext o
   simp[woken,yT]
  rw[this,Array.map_id]
 rw[e];obtain⟨mB,rfl⟩:=Array.getElem?_eq_some_iff.1 hi;unfold runs;rw[Array.toList_setIfInBounds];have:=List.countP_set (p:=fun g:Goroutine=> g.status==.running) (l:=gs.toList) (i:=i) (a:=g') (by simpa using mB);rw[this];have h1:((gs.toList[i]'(by simpa using mB)).status==GoStatus.running)=true:=by simpa using hg
 have h2:0<gs.toList.countP fun g:Goroutine=> g.status==.running:=List.countP_pos_iff.2 ⟨gs[i],by simp,by simp[hg]⟩;have h3:¬(g'.status==GoStatus.running)=true:=by simp[yT]
 rw[if_pos h1,if_neg h3];omega
theorem PI.cP(h:PI P X Fin B base os0 gs w t ths m s H ks rks q D){κ k:Nat}{T T':Th}{s':Sh}{g g':Goroutine}{w':World}{es:Array Event}{H':View}{D':Nat->Bool}{ρ':sB}{q':Nat}(hκ:ths[κ]? =some T)(hg:gs[base+κ]? =some g)(hk:ks (base+κ)=k+1)
  (hm:(T',s')∈T.mv s) (kB:stepG P false g w=.go g' w' es) (DK:WT X B base gs.size os0 w' (t++MemOp.ofEvents (base+κ) g.frame.fn g.frame.place es) (ths.set κ T') m s' (upd H (base+κ) H') D')
  (hs:IP P X κ T' k s' H' D' ρ' q' (Deaf (t++MemOp.ofEvents (base+κ) g.frame.fn g.frame.place es) (base+κ)) g') (QJ:∀κ',D' κ'=(((ths.set κ T')[κ']?).map Th.did).getD false)
  (hQ:(s'.Q<=s.Q/\s'.q<=s.q)\/(mayWake P g=true/\g'.status=.running)) (hD:∀κ' T',κ'≠κ->ths[κ']? =some T'->T'.owns=true->D'=D):
  Goes P X Fin B base os0 (PI.meas X gs ths m s rks q) w t gs (runT P (crowd gs w sl) (base+κ)):=by
 have hN:base+κ<gs.size:=(Array.getElem?_eq_some_iff.1 hg).1;have hb:=h.b1;have kG:Act base gs.size (base+κ):=.inr ⟨oM,hN⟩;have lX:(base+κ==0)=false:=by simp;omega
 have eM:=zX h.inv hκ hm;have SI:=h.depth _ kG;rw[hk] at SI;have gS:=h.si.worker (w':=w') (g:=g) (g':=g') (T':=T') (H':=H') (k':=k) (q':=q') (ρ':=ρ') (s':=s') (D':=D') hb h.pos hκ (KE ofEvents_g) hQ hD hs;refine .inl ⟨EC P gs (base+κ) g g' w',w',sl,_,ths.set κ T',m,s',_,_,_,_,D',runT_crowd_go hg (by rw[lX];exact kB),⟨h.inv.step hκ hm,hb,h.ne,QJ,fun j hj=> ?_,?_,gS⟩,NZ eM⟩
 ·rw[tA] at hj;by_cases e:j=base+κ
  ·subst e;rw[upd_same];omega
  ·rw[upd_ne _ _ e];exact Nat.lt_trans eM (h.depth j hj)
 ·rw[tA];exact DK
theorem PI.BW(h:PI P X Fin B base os0 gs w t ths m s H ks rks q D){κ k:Nat}{T:Th}{Dw:Nat->Bool}{g:Goroutine}{ρ:sB}(hκ:ths[κ]? =some T)(hg:gs[base+κ]? =some g)(hr:g.status=.running)(hk:ks (base+κ)=k+1)(h2:rks[base+κ]? =some ρ)(hρ:ρ=.stop)
  (hs:WS P X κ (k+1) T Dw (H (base+κ)) g) (hD:T.owns=true->Dw=D):
  Goes P X Fin B base os0 (PI.meas X gs ths m s rks q) w t gs (runT P (crowd gs w sl) (base+κ)):=by
 have hN:base+κ<gs.size:=(Array.getElem?_eq_some_iff.1 hg).1;have hb:=h.b1;obtain⟨_,la,ur,wr,qt,pl⟩:=hs;have cH:=h.wt.vi.sat (base+κ);have WH:upd H (base+κ) (H (base+κ))=H:=tG _ _;have mB:=(List.getElem?_eq_some_iff.1 hκ).1;have aD5:D κ=T.did:=by rw[h.dd κ,hκ];rfl
 cases hp:T.plain with
 | true=>
  obtain⟨GB,qQ⟩:=h.inv.ok hκ;rcases pl hp w s cH h.wt.sh GB (h.inv.loc κ T hκ) qQ with ⟨uQ,kB⟩|⟨T',s',g',w',es,hm,kB,htu,hqe,hra,CF,hq1,hq2,hq3⟩
  ·-- it blocks
   obtain⟨c,rfl,hQ⟩:=aAw hp uQ;have kG:Act base gs.size (base+κ):=.inr ⟨oM,hN⟩;have lX:(base+κ==0)=false:=by simp;omega
   have SI:=h.depth _ kG;rw[hk] at SI;have wZ:ths.set κ (.s1 c)=ths:=by
    apply List.ext_getElem?
    intro j;by_cases e:κ=j
    ·subst e;rw[List.getElem?_set_self mB,hκ]
    ·rw[List.getElem?_set_ne e]
   have hrk:rks.set (base+κ) .stop=rks:=by
    apply List.ext_getElem?
    intro j;by_cases e:base+κ=j
    ·subst e;rw[List.getElem?_set_self (by rw[h.si.OX];exact hN),h2,hρ]
    ·rw[List.getElem?_set_ne e]
   have gS:=h.si.worker (w':=w) (g:=g) (g':= { g with status:=.blocked }) (T':=.s1 c) (H':=H (base+κ)) (k':=k+1) (q':=q (base+κ)) (ρ':=.stop) (s':=s) (D':=D) (df':=Deaf t) hb h.pos hκ (fun _ _=> rfl) (.inl ⟨Nat.le_refl _,Nat.le_refl _⟩) (fun _ _ _ _ _=> rfl)
    (.wait c g Dw ⟨rfl,hQ,rfl⟩ rfl ⟨‹_›,la,ur,wr,qt,pl⟩)
   rw[wZ,hrk,WH,tG,show upd ks (base+κ) (k+1)=ks by rw[<-hk];exact tG _ _] at gS;refine .inl ⟨EC P gs (base+κ) g { g with status:=.blocked } w,w,sl,_,ths,m,s,H,ks,rks,q,D,runT_crowd_go hg (by rw[lX];exact kB),⟨h.inv,hb,h.ne,h.dd,by rw[tA];exact h.depth,?_,?_⟩,?_⟩
   ·rw[tA];simpa [MemOp.ofEvents] using h.wt
   ·simpa [MemOp.ofEvents] using gS
   ·unfold PI.meas;rw[tA];exact PZ (yN hg hr rfl)
  ·obtain⟨k1,k2,k3⟩:=gN hp hm;have DK:=h.wt.BW (fn:=g.frame.fn) (pos:=g.frame.place) h.ne hb hκ hN hp hm htu hqe;have QJ:=h.VT hκ k2;have hQ:(s'.Q<=s.Q/\s'.q<=s.q)\/(mayWake P g=true/\g'.status=.running):=by
    cases aCD:T.sN with
    | true=> exact .inr ⟨hra aCD,CF⟩
    | false=> exact .inl (aAv aCD hm)
   by_cases tH:T'=.quit
   ·obtain⟨q',zT⟩:=hq1 tH;refine h.cP hκ hg hk hm kB (H':=H (base+κ)) (D':=D) (ρ':=.stop) (q':=q') (by rw[WH];exact DK) (.quit tH ?_) QJ hQ (fun _ _ _ _ _=> rfl);have:Deaf (t++MemOp.ofEvents (base+κ) g.frame.fn g.frame.place es) (base+κ)=1:=by
     rw[Deaf_own,h.wt.XT κ T hκ (by rintro rfl;cases hp),hqe.net,tH];rfl
    rw[this];exact zT
   ·cases eM:T'.mute with
    | true=>
     obtain⟨n,hn⟩:=hq2 tH eM;exact h.cP hκ hg hk hm kB (H':=H (base+κ)) (D':=D) (ρ':=XF n) (q':=q (base+κ)) (by rw[WH];exact DK) (.quiet n Dw ⟨tH,eM⟩ rfl hn) QJ hQ (fun _ _ _ _ _=> rfl)
    | false=>
     obtain⟨ρ',zU⟩:=(hq3 eM).PS;exact h.cP hκ hg hk hm kB (H':=H (base+κ)) (D':=D) (ρ':=ρ') (q':=q (base+κ)) (by rw[WH];exact DK) (.walk Dw eM (fun e=> hD (by rw[<-k1];exact e)) zU) QJ hQ (fun _ _ _ _ _=> rfl)
 | false =>
  have SM:T=.la\/T=.ur\/T=.wr\/T=.quit:=by cases T <;> simp[Th.plain] at hp <;> simp
  rcases SM with rfl|rfl|rfl|rfl
  ·obtain⟨o,h3,h4,h5,DK⟩:=h.wt.acquire (fn:=g.frame.fn) (pos:=g.frame.place) h.inv h.ne hκ hN;obtain⟨g',kB,H5⟩:=la rfl D o aD5 h4 w cH;obtain⟨ρ',zU⟩:=H5.PS;exact h.cP hκ hg hk (T':=.up) (s':=s) (by simp[Th.mv]) kB DK (q':=q (base+κ)) (.walk D rfl (fun _=> rfl) zU) (h.VT hκ rfl) (.inl ⟨Nat.le_refl _,Nat.le_refl _⟩) (fun _ _ _ _ _=> rfl)
  ·obtain⟨o,H',hH,hC,hG,zA⟩:=ur rfl;obtain⟨g',kB,H5⟩:=zA w cH;obtain⟨ρ',zU⟩:=H5.PS;have hDD:=hD rfl;subst hDD;have DK:=h.wt.release (fn:=g.frame.fn) (pos:=g.frame.place) h.inv h.ne hκ hN hH hC hG;refine h.cP hκ hg hk (T':=.ud) (s':=s) (by simp[Th.mv]) kB DK (q':=q (base+κ)) (.walk Dw rfl (fun e=> by cases e) zU) (fun κ'=> ?_) (.inl ⟨Nat.le_refl _,Nat.le_refl _⟩) (fun κ' T' e YA hT=> ?_)
   ·by_cases e:κ'=κ
    ·subst e;rw[List.getElem?_set_self mB];simp[KL,Th.did]
    ·rw[List.getElem?_set_ne (Ne.symm e),<-h.dd κ'];simp[KL,e]
   ·rw[h.inv.one hκ YA (Ne.symm e) rfl] at hT;cases hT
  ·obtain⟨g',kB,n,hn⟩:=wr rfl w cH;have DK:=h.wt.mute (fn:=g.frame.fn) (pos:=g.frame.place) h.ne hκ hN;exact h.cP hκ hg hk (T':=.wk) (s':=s) (by simp[Th.mv]) kB (H':=H (base+κ)) (D':=D) (ρ':=XF n) (q':=q (base+κ)) (by rw[WH];exact DK) (.quiet n Dw ⟨by simp,rfl⟩ rfl hn) (h.VT hκ rfl) (.inl ⟨Nat.le_refl _,Nat.le_refl _⟩) (fun _ _ _ _ _=> rfl)
  ·exact(qt rfl).elim
theorem PI.worker(h:PI P X Fin B base os0 gs w t ths m s H ks rks q D){κ:Nat}{T:Th}{g:Goroutine}(hκ:ths[κ]? =some T)(hg:gs[base+κ]? =some g)(hr:g.status=.running):
  Goes P X Fin B base os0 (PI.meas X gs ths m s rks q) w t gs (runT P (crowd gs w sl) (base+κ)):=by
 have hN:base+κ<gs.size:=(Array.getElem?_eq_some_iff.1 hg).1;have mB:=(List.getElem?_eq_some_iff.1 hκ).1;have hb:=h.b1;have kG:Act base gs.size (base+κ):=.inr ⟨oM,hN⟩;have lX:(base+κ==0)=false:=by simp;omega
 obtain⟨g₁,ρ,h1,h2,tJ⟩:=h.si.work κ T hκ;rw[hg] at h1;cases h1
 have D2:=h.pos _ kG;obtain⟨k,hk⟩:∃k,ks (base+κ)=k+1:=⟨ks (base+κ)-1,oM⟩
 have SI:=h.depth _ kG;rw[hk] at tJ SI;have aEP:upd ks (base+κ) (ks (base+κ))=ks:=tG _ _;have aEp:upd q (base+κ) (q (base+κ))=q:=tG _ _;have WH:upd H (base+κ) (H (base+κ))=H:=tG _ _
 -- a step that leaves the automaton where it is
 have stay:∀(g':Goroutine) (w':World) (es:Array Event) (H':View) (q':Nat) (ρ':sB),stepG P false g w=.go g' w' es-> 
   WT X B base gs.size os0 w' (t++MemOp.ofEvents (base+κ) g.frame.fn g.frame.place es) ths m s (upd H (base+κ) H') D-> 
   IP P X κ T (k+1) s H' D ρ' q' (Deaf (t++MemOp.ofEvents (base+κ) g.frame.fn g.frame.place es) (base+κ)) g'-> 
   qF (PI.meas X (EC P gs (base+κ) g g' w') ths m s (rks.set (base+κ) ρ') (upd q (base+κ) q')) (PI.meas X gs ths m s rks q)-> 
   Goes P X Fin B base os0 (PI.meas X gs ths m s rks q) w t gs (runT P (crowd gs w sl) (base+κ)):=by
  intro g' w' es H' q' ρ' kB DK hs' W5;have wZ:ths.set κ T=ths:=by
   apply List.ext_getElem?
   intro j;by_cases e:κ=j
   ·subst e;rw[List.getElem?_set_self mB,hκ]
   ·rw[List.getElem?_set_ne e]
  have gS:=h.si.worker (w':=w') (g:=g) (g':=g') (T':=T) (H':=H') (k':=k+1) (q':=q') (ρ':=ρ') (s':=s) (D':=D) hb h.pos hκ (KE ofEvents_g) (.inl ⟨Nat.le_refl _,Nat.le_refl _⟩) (fun _ _ _ _ _=> rfl) hs';rw[wZ] at gS;refine .inl ⟨EC P gs (base+κ) g g' w',w',sl,MemOp.ofEvents (base+κ) g.frame.fn g.frame.place es,ths,m,s,upd H (base+κ) H',upd ks (base+κ) (k+1),rks.set (base+κ) ρ',upd q (base+κ) q',D,runT_crowd_go hg (by rw[lX];exact kB),⟨h.inv,hb,h.ne,h.dd,fun j hj=> ?_,?_,gS⟩,W5⟩
  ·rw[tA] at hj;by_cases e:j=base+κ
   ·subst e;rw[upd_same];exact SI
   ·rw[upd_ne _ _ e];exact h.depth j hj
  ·rw[tA];exact DK
 cases tJ with
 | quit hT hq=>
  cases P8:q (base+κ) with
  | zero=> rw[P8] at hq;rw[hq.1] at hr;cases hr
  | succ q'=>
   rw[P8] at hq;rcases hq with ⟨hf,_⟩|⟨_,g',es,eM,kB,zT⟩
   ·rw[hf] at hr;cases hr
   ·have hrk:rks.set (base+κ) ρ=rks:=by
     apply List.ext_getElem?
     intro j;by_cases e:base+κ=j
     ·subst e;rw[List.getElem?_set_self (by rw[h.si.OX];exact hN),h2]
     ·rw[List.getElem?_set_ne e]
    have DK:=h.wt.leave (i:=base+κ) (fn:=g.frame.fn) (pos:=g.frame.place) oM hN eM fun κ' T' YA e=> by
     obtain rfl:κ'=κ:=by omega
     rw[hκ] at YA;cases YA
     exact hT
    refine stay g' w es (H (base+κ)) q' ρ (kB w) (by rw[WH];exact DK) (.quit hT (by rw[Deaf_own];exact zT)) ?_;rw[hrk];unfold PI.meas;rw[tA];refine aAr ?_;have:=sumTo_upd (f:=q) q' (fun a=> a) (i:=base+κ) (j:=gs.size) hN;have e:sumTo gs.size (fun a=> upd q (base+κ) q' a)=sumTo gs.size (upd q (base+κ) q'):=rfl;have e2:sumTo gs.size (fun a=> q a)=sumTo gs.size q:=rfl;omega
 | quiet n Dw hT hρ hgo=>
  cases n with
  | succ n=>
   obtain⟨_,g',kB,aEc⟩:=hgo;refine stay g' w #[] (H (base+κ)) (q (base+κ)) (XF n) (kB w) (by rw[WH];simpa [MemOp.ofEvents] using h.wt) (.quiet n Dw hT rfl aEc) ?_;unfold PI.meas;refine OZ (yV.set h2 ?_);rw[hρ];exact MU n
  | zero=> exact h.BW hκ hg hr hk h2 hρ hgo (fun e=> by have:=hT.2;cases T <;> simp[Th.owns] at e <;> cases this)
 | walk Dw hT hD hgo=>
  cases ρ with
  | stop=> exact h.BW hκ hg hr hk h2 rfl hgo hD
  | step f=>
   obtain⟨_,kB⟩:=hgo;obtain⟨g',w',es,H',h3,h4,h5⟩:=kB w (h.wt.vi.sat _) ⟨h.wt.cb,_,h.wt.sh⟩;refine stay g' w' es H' (q (base+κ)) (f w) h3 (h.wt.walk h.ne kG hN h4 fun κ' T' YA e=> ?_) (.walk Dw hT hD h5) ?_
   ·obtain rfl:κ'=κ:=by omega
    rw[hκ] at YA;cases YA
    exact hT
   ·unfold PI.meas;exact OZ (yV.set h2 (.step f w))
  | phase f=>
   obtain⟨_,hp,_⟩:=hgo;exact hp.elim
 | wait c g₀ Dw hT hgg hw=>
  rw[hgg] at hr;cases hr
end
end Go.RL
section
namespace Go.RL
open Go.Conc Go.ConcN Go.RL.Au
open Go.ConcR (stA smA)
open Go.ConcM (muA OsLater)
attribute [local irreducible] mu
section
variable {P:Program}{X:Fk}{Fin:Goroutine->Prop}{B:View}{base:Nat}{os0:gY}{gs:Array Goroutine}{w:World}{t:Trace}{ths:List Th}{m:Mn}{s:Sh}{H:Nat->View}{ks:Nat->Nat}{rks:List sB}{q:Nat->Nat}{D:Nat->Bool}
variable {sl:Option (Nat×Nat)}
theorem PI.GU(h:PI P X Fin B base os0 gs w t ths m s H ks rks q D){i:Nat}{g:Goroutine}(h0:0<i)(lU:i<base)(hg:gs[i]? =some g)(hr:g.status=.running):
  Goes P X Fin B base os0 (PI.meas X gs ths m s rks q) w t gs (runT P (crowd gs w sl) i):=by
 have hN:i<gs.size:=(Array.getElem?_eq_some_iff.1 hg).1;have lX:(i==0)=false:=by simp;omega
 obtain⟨g₁,h1,hq⟩:=h.si.YI i h0 lU;rw[hg] at h1;cases h1
 cases P8:q i with
 | zero=> rw[P8] at hq;rw[hq.1] at hr;cases hr
 | succ q'=>
  rw[P8] at hq;rcases hq with ⟨hf,_⟩|⟨_,g',es,eM,kB,zT⟩
  ·rw[hf] at hr;cases hr
  ·have DK:=h.wt.leave (i:=i) (fn:=g.frame.fn) (pos:=g.frame.place) h0 hN eM fun κ' T' YA e=> by omega
   have gS:=h.si.GU (w':=w) (g:=g) (g':=g') (q':=q') (df':=Deaf (t++MemOp.ofEvents i g.frame.fn g.frame.place es)) h.pos h0 lU (KE ofEvents_g) (by rw[Deaf_own];exact zT);refine .inl ⟨EC P gs i g g' w,w,sl,_,ths,m,s,H,ks,rks,upd q i q',D,runT_crowd_go hg (by rw[lX];exact kB w),⟨h.inv,h.b1,h.ne,h.dd,by rw[tA];exact h.depth,by rw[tA];exact DK,gS⟩,?_⟩;unfold PI.meas;rw[tA];refine aAr ?_;have:=sumTo_upd (f:=q) q' (fun a=> a) (i:=i) (j:=gs.size) hN;have e:sumTo gs.size (fun a=> upd q i q' a)=sumTo gs.size (upd q i q'):=rfl;have e2:sumTo gs.size (fun a=> q a)=sumTo gs.size q:=rfl;omega
theorem PI.TZ(h:PI P X Fin B base os0 gs w t ths m s H ks rks q D){k:Nat}{m':Mn}{s':Sh}{g g':Goroutine}{w':World}{es:Array Event}(hg:gs[0]? =some g)(hk:ks 0=k+1)
  (hm:(m',s')∈m.mv s) (kB:stepG P true g w=.go g' w' es) (DK:WT X B base gs.size os0 w' (t++MemOp.ofEvents 0 g.frame.fn g.frame.place es) ths m' s' H D)
  (hs:T (Mw P true X.ok) (MS P X Fin k m' ths.length) (H 0) g'):
  Goes P X Fin B base os0 (PI.meas X gs ths m s rks q) w t gs (runT P (crowd gs w sl) 0):=by
 have hb:=h.b1;have eM:=J6 h.inv hm;have SI:=h.depth 0 (.inl rfl);rw[hk] at SI;obtain⟨ρ',zU⟩:=hs.PS;have gS:=h.si.tK (w':=w') (g:=g) (g':=g') (m':=m') (H':=H 0) (k':=k) (ρ':=ρ') (s':=s') (df':=Deaf (t++MemOp.ofEvents 0 g.frame.fn g.frame.place es)) hb h.pos (KE ofEvents_g) (aAt hm) (.walk zU);rw[tG] at gS;refine .inl ⟨EC P gs 0 g g' w',w',sl,_,ths,m',s',H,_,_,q,D,runT_crowd_go hg kB,⟨h.inv.main hm,hb,h.ne,h.dd,fun j hj=> ?_,?_,gS⟩,NZ eM⟩
 ·rw[tA] at hj;by_cases e:j=0
  ·subst e;rw[upd_same];omega
  ·rw[upd_ne _ _ e];exact Nat.lt_trans eM (h.depth j hj)
 ·rw[tA];exact DK
theorem VR {gs:Array Goroutine}{g' ch x:Goroutine}{j:Nat}(hj:gs[j]? =some x)(h0:j≠0):((gs.setIfInBounds 0 g').push ch)[j]? =some x:=by
 have mB:=(Array.getElem?_eq_some_iff.1 hj).1;rw[Array.getElem?_push];simp only[Array.size_setIfInBounds];rw[if_neg oM,Array.getElem?_setIfInBounds_ne (Ne.symm h0),hj]
theorem PI.aCM(h:PI P X Fin B base os0 gs w t ths .go s H ks rks q D){k:Nat}{m':Mn}{g g' ch:Goroutine}(hg:gs[0]? =some g)(hk:ks 0=k+1)(hinv:Inv X.n (ths++[.ld]) m' s)(eM:mu X.n (ths++[.ld]) m' s<mu X.n ths .go s)(hd:m'.deaf=0)
  (kB:stepG P true g w=.spawn g' ch w #[]) (hT:T (Mw P true X.ok) (MS P X Fin k m' (ths.length+1)) (ro (H 0)) g') (hC:T (Mw P false X.ok) (WS P X ths.length k .ld (fun _=> false)) (ro (H 0)) ch):
  Goes P X Fin B base os0 (PI.meas X gs ths .go s rks q) w t gs (runT P (crowd gs w sl) 0):=by
 have hN:0<gs.size:=(Array.getElem?_eq_some_iff.1 hg).1;have hb:=h.b1;have SI:=h.depth 0 (.inl rfl);have QD:=h.si.size;obtain⟨x,hx⟩:∃x:MemOp,x= { g:=0,fn:=g.frame.fn,pos:=g.frame.place,act:=.go gs.size }:=⟨_,rfl⟩
 obtain⟨y,hy⟩:∃y:MemOp,y= { g:=gs.size,fn:=ch.frame.fn,pos:=g.frame.place,act:=.start }:=⟨_,rfl⟩
 have EH:x.g=0/\x.act=.go gs.size:=by rw[hx];exact⟨rfl,rfl⟩
 have uO:y.g=gs.size/\y.act=.start:=by rw[hy];exact⟨rfl,rfl⟩
 have DK:=h.wt.fork (m':=m') hb QD hd EH uO;have Q8:=runT_crowd_spawn (P:=P) (sl:=sl) hg kB;have aAg:((MemOp.ofEvents 0 g.frame.fn g.frame.place #[]).push { g:=0,fn:=g.frame.fn,pos:=g.frame.place,act:=.go gs.size } |>.push { g:=gs.size,fn:=ch.frame.fn,pos:=g.frame.place,act:=.start })=#[x,y]:=by
  rw[hx,hy];simp[MemOp.ofEvents]
 rw[aAg] at Q8;rw[hk] at SI;obtain⟨ρm,aEw⟩:=hT.PS;obtain⟨ρc,aEv⟩:=hC.PS;have q6:((gs.setIfInBounds 0 g').push ch).size=gs.size+1:=by simp
 have UI:∀j,Deaf (t ++ #[x,y]) j=Deaf t j:=fun j=> Deaf_still t j _ fun op iA=> by
  simp only[List.mem_toArray,List.mem_cons,List.not_mem_nil,or_false] at iA;rcases iA with rfl|rfl
  ·rw[EH.2];simp
  ·rw[uO.2];simp
 have aCG:xM P X Fin base ((gs.setIfInBounds 0 g').push ch) (Deaf (t ++ #[x,y])) (ths++[.ld]) m' s (upd (upd H 0 (ro (H 0))) gs.size (ro (H 0))) (upd (upd ks 0 k) gs.size k) ((rks.set 0 ρm)++[ρc]) q D:=by
  refine⟨by rw[q6,List.length_append];simp;omega,by rw[q6,List.length_append,List.length_set,h.si.OX];simp,⟨g',ρm,?_,?_,?_⟩,fun κ T hκ=> ?_,fun i h0 lU=> ?_⟩
  ·rw[Array.getElem?_push];simp only[Array.size_setIfInBounds];rw[if_neg oM];simp[hN]
  ·rw[List.getElem?_append_left (by rw[List.length_set,h.si.OX];exact hN),List.getElem?_set_self (by rw[h.si.OX];exact hN)]
  ·rw[upd_ne _ _ oM,upd_same,upd_ne _ _ oM,upd_same];rw[List.length_append];exact .walk aEw
  ·rw[List.getElem?_append] at hκ;split at hκ
   ·obtain⟨g0,ρ0,h3,h4,h5⟩:=h.si.work κ T hκ;have gB:base+κ≠gs.size:=by omega
    refine⟨g0,ρ0,VR h3 oM,?_,?_⟩
    ·have hl:=(List.getElem?_eq_some_iff.1 h4).1;rw[List.getElem?_append_left (by rw[List.length_set];exact hl),List.getElem?_set_ne oM];exact h4
    ·rw[upd_ne _ _ gB,upd_ne _ _ oM,upd_ne _ _ gB,upd_ne _ _ oM,UI];exact h5
   ·cases hz:κ-ths.length with
    | succ z=> rw[hz] at hκ;cases hκ
    | zero=>
     rw[hz] at hκ;cases hκ
     have he:base+κ=gs.size:=by omega
     refine⟨ch,ρc,?_,?_,?_⟩
     ·rw[he,Array.getElem?_push];simp
     ·rw[he,List.getElem?_append_right (by rw[List.length_set,h.si.OX];omega),List.length_set,h.si.OX];simp
     ·rw[he,upd_same,upd_same];have:κ=ths.length:=by omega
      subst this;exact .walk (fun _=> false) rfl (fun e=> by cases e) aEv
  ·obtain⟨g0,h3,h4⟩:=h.si.YI i h0 lU;exact⟨g0,VR h3 oM,by rw[UI];exact h4⟩
 refine .inl ⟨(gs.setIfInBounds 0 g').push ch,w,sl,#[x,y],ths++[.ld],m',s,upd (upd H 0 (ro (H 0))) gs.size (ro (H 0)),upd (upd ks 0 k) gs.size k,(rks.set 0 ρm)++[ρc],q,D,Q8,⟨hinv,hb,h.ne,fun κ=> ?_,fun j hj=> ?_,by rw[q6];exact DK,aCG⟩,NZ eM⟩
 ·rw[h.dd κ,List.getElem?_append];split
  ·rfl
  ·rename_i jU
   rw[List.getElem?_eq_none oM];cases hz:κ-ths.length with
   | zero=> rfl
   | succ z=> rfl
 ·rw[q6] at hj;by_cases e:j=gs.size
  ·subst e;rw[upd_same];exact Nat.lt_of_lt_of_le eM (Nat.le_of_lt_succ SI)
  ·rw[upd_ne _ _ e];by_cases e0:j=0
   ·subst e0;rw[upd_same];exact Nat.lt_of_lt_of_le eM (Nat.le_of_lt_succ SI)
   ·rw[upd_ne _ _ e0];exact Nat.lt_trans eM (h.depth j (hj.imp id fun⟨h1,h2⟩=> ⟨h1,oM⟩))
theorem PI.X0(h:PI P X Fin B base os0 gs w t ths m s H ks rks q D){k:Nat}{g:Goroutine}{ρ:sB}(hg:gs[0]? =some g)(hr:g.status=.running)(hk:ks 0=k+1)(h2:rks[0]? =some ρ)(hρ:ρ=.stop)
  (hs:MS P X Fin (k+1) m ths.length (H 0) g):
  Goes P X Fin B base os0 (PI.meas X gs ths m s rks q) w t gs (runT P (crowd gs w sl) 0):=by
 have hN:0<gs.size:=(Array.getElem?_eq_some_iff.1 hg).1;have hb:=h.b1;obtain⟨CF,go,kr,wm,aq,rt,pl⟩:=hs;have cH:=h.wt.vi.sat 0;have SI:=h.depth 0 (.inl rfl);cases hp:m.plain with
 | true=>
  obtain⟨GB,qQ⟩:=h.inv.mok;rcases pl hp w s cH h.wt.sh GB qQ with ⟨uQ,kB⟩|⟨m',s',g',w',es,hm,kB,htu,hqe,hq3⟩
  ·obtain⟨rfl,hQ⟩:=aAu hp uQ;have hrk:rks.set 0 .stop=rks:=by
    apply List.ext_getElem?
    intro j;by_cases e:0=j
    ·subst e;rw[List.getElem?_set_self (by rw[h.si.OX];exact hN),h2,hρ]
    ·rw[List.getElem?_set_ne e]
   have gS:=h.si.tK (w':=w) (g:=g) (g':= { g with status:=.blocked }) (m':=.ws) (H':=H 0) (k':=k+1) (ρ':=.stop) (s':=s) (df':=Deaf t) hb h.pos (fun _ _=> rfl) ⟨Nat.le_refl _,Nat.le_refl _⟩ (.wait g ⟨rfl,hQ,rfl⟩ rfl ⟨CF,go,kr,wm,aq,rt,pl⟩);rw[hrk,tG,show upd ks 0 (k+1)=ks by rw[<-hk];exact tG _ _] at gS;refine .inl ⟨EC P gs 0 g { g with status:=.blocked } w,w,sl,_,ths,.ws,s,H,ks,rks,q,D,runT_crowd_go hg kB,⟨h.inv,hb,h.ne,h.dd,by rw[tA];exact h.depth,?_,?_⟩,?_⟩
   ·rw[tA];simpa [MemOp.ofEvents] using h.wt
   ·simpa [MemOp.ofEvents] using gS
   ·unfold PI.meas;rw[tA];exact PZ (yN hg hr rfl)
  ·exact h.TZ hg hk hm kB (h.wt.X0 h.ne hb hN htu hqe) hq3
 | false=>
  have SM:m=.kr\/m=.go\/m=.wm\/m=.aq\/m=.ret:=by cases m <;> simp[Mn.plain] at hp <;> simp
  rcases SM with rfl|rfl|rfl|rfl|rfl
  ·obtain⟨g',kB,hT⟩:=kr rfl w cH;exact h.TZ hg hk (m':=.ke) (s':=s) (by simp[Mn.mv]) kB (h.wt.said h.ne hb hN (.inl rfl) rfl) hT
  ·obtain⟨g',ch,kB,hT,hC⟩:=go rfl w cH;exact h.aCM hg hk (h.inv.fork) (I6 h.inv (by split <;> simp[Mn.wt])) (by split <;> rfl) kB hT hC
  ·obtain⟨g',kB,hT⟩:=wm rfl w cH;exact h.TZ hg hk (m':=.ws) (s':=s) (by simp[Mn.mv]) kB (h.wt.said h.ne hb hN (.inr rfl) rfl) hT
  ·obtain⟨g',kB,hF⟩:=aq rfl w cH;exact .inr ⟨_,sl,g,g',ths,s,H,ks,rks,q,D,hg,runT_crowd_go hg kB,rfl,hF,h⟩
  ·exact(rt rfl).elim
theorem PI.tK(h:PI P X Fin B base os0 gs w t ths m s H ks rks q D){g:Goroutine}(hg:gs[0]? =some g)(hr:g.status=.running):
  Goes P X Fin B base os0 (PI.meas X gs ths m s rks q) w t gs (runT P (crowd gs w sl) 0):=by
 have hN:0<gs.size:=(Array.getElem?_eq_some_iff.1 hg).1;have hb:=h.b1;obtain⟨g₁,ρ,h1,h2,tJ⟩:=h.si.main;rw[hg] at h1;cases h1
 have D2:=h.pos 0 (.inl rfl);obtain⟨k,hk⟩:∃k,ks 0=k+1:=⟨ks 0-1,oM⟩
 have SI:=h.depth 0 (.inl rfl);rw[hk] at tJ SI;cases tJ with
 | wait g₀ hT hgg hw=> rw[hgg] at hr;cases hr
 | walk hgo=>
  cases ρ with
  | stop=> exact h.X0 hg hr hk h2 rfl hgo
  | phase f=> obtain⟨_,hp,_⟩:=hgo;exact hp.elim
  | step f=>
   obtain⟨_,kB⟩:=hgo;obtain⟨g',w',es,H',h3,h4,h5⟩:=kB w (h.wt.vi.sat _) ⟨h.wt.cb,_,h.wt.sh⟩;have DK:=h.wt.walk (i:=0) (fn:=g.frame.fn) (pos:=g.frame.place) h.ne (.inl rfl) hN h4 fun κ' T' YA e=> by omega
   have gS:=h.si.tK (w':=w') (g:=g) (g':=g') (m':=m) (H':=H') (k':=k+1) (ρ':=f w) (s':=s) (df':=Deaf (t++MemOp.ofEvents 0 g.frame.fn g.frame.place es)) hb h.pos (KE ofEvents_g) ⟨Nat.le_refl _,Nat.le_refl _⟩ (.walk h5);refine .inl ⟨EC P gs 0 g g' w',w',sl,_,ths,m,s,upd H 0 H',upd ks 0 (k+1),rks.set 0 (f w),q,D,runT_crowd_go hg h3,⟨h.inv,hb,h.ne,h.dd,fun j hj=> ?_,by rw[tA];exact DK,gS⟩,OZ (yV.set h2 (.step f w))⟩;rw[tA] at hj;by_cases e:j=0
   ·subst e;rw[upd_same];exact SI
   ·rw[upd_ne _ _ e];exact h.depth j hj
theorem PI.B7(h:PI P X Fin B base os0 gs w t ths m s H ks rks q D):∃(i:Nat) (g:Goroutine),gs[i]? =some g/\g.status=.running:=by
 refine Classical.byContradiction fun wG=> ?_;have hnr:∀(i:Nat) g,gs[i]? =some g->g.status≠ .running:=fun i g hi hr=> wG ⟨i,g,hi,hr⟩;obtain⟨g,ρ,h1,h2,tJ⟩:=h.si.main;have D2:=h.pos 0 (.inl rfl);obtain⟨k,hk⟩:∃k,ks 0=k+1:=⟨ks 0-1,oM⟩
 rw[hk] at tJ;cases tJ with
 | walk hgo=> exact hnr 0 g h1 (hgo.run (fun _ _ _ h=> h) fun _ _ h=> h.1.1)
 | wait g₀ hT hgg hw=>
  obtain⟨rfl,hq0,_⟩:=hT;obtain⟨κ,T,hκ,hT⟩:=h.inv.live (by simp) (by simp) (by simp[Mn.mv,hq0]);obtain⟨g',ρ',h3,h4,hs'⟩:=h.si.work κ T hκ;have hN:=(Array.getElem?_eq_some_iff.1 h3).1;have aER:=h.pos (base+κ) (.inr ⟨oM,hN⟩);obtain⟨k',hk'⟩:∃k,ks (base+κ)=k+1:=⟨ks (base+κ)-1,oM⟩
  rw[hk'] at hs';cases hs' with
  | quit H5 _=> subst H5;exact hT rfl
  | quiet n Dw H5 hρ hgo=> exact hnr _ g' h3 (hgo.run fun _ h=> h.1.1)
  | walk Dw H5 hD hgo=> exact hnr _ g' h3 (hgo.run (fun _ _ _ h=> h) fun _ _ h=> h.1.1)
  | wait c g₀ Dw H5 hgg hw=> obtain⟨rfl,hQ0,_⟩:=H5;exact hT (by simp[Th.mv,hQ0])
theorem PI.awake(h:PI P X Fin B base os0 gs w t ths m s H ks rks q D):∀g∈gs,awake g:=by
 intro g hg tm;obtain⟨i,hi,rfl⟩:=Array.mem_iff_getElem.1 hg;have NO:=Array.getElem?_eq_getElem hi;have key:gs[i].status=.running\/gs[i].status=.finished\/gs[i].status=.blocked:=by
  by_cases e0:i=0
  ·subst e0;obtain⟨g,ρ,h1,h2,tJ⟩:=h.si.main;have D2:=h.pos 0 (.inl rfl);obtain⟨k,hk⟩:∃k,ks 0=k+1:=⟨ks 0-1,oM⟩
   rw[hk] at tJ;rw[h1] at NO;cases NO
   exact tJ.status.imp id .inr
  ·rcases Nat.lt_or_ge i base with mB|jU
   ·obtain⟨g,h1,hq⟩:=h.si.YI i oM mB;rw[h1] at NO;cases NO
    exact hq.status.imp id .inl
   ·have QD:=h.si.size;obtain⟨T,hT⟩:∃T,ths[i-base]? =some T:=⟨_,List.getElem?_eq_getElem oM⟩
    obtain⟨g,ρ,h1,h2,tJ⟩:=h.si.work _ T hT;rw[show base+(i-base)=i by omega] at h1 tJ;have D2:=h.pos i (.inr ⟨jU,hi⟩);obtain⟨k,hk⟩:∃k,ks i=k+1:=⟨ks i-1,oM⟩
    rw[hk] at tJ;rw[h1] at NO;cases NO
    exact tJ.status
 rcases key with e|e|e <;> rw[e] <;> simp
theorem PI.step(h:PI P X Fin B base os0 gs w t ths m s H ks rks q D):∃d,Goes P X Fin B base os0 (PI.meas X gs ths m s rks q) (w.at d) t gs (stepT P (crowd gs w sl)):=by
 obtain⟨i,g,d,sl',hg,CF,SO⟩:=crowd_pick (P:=P) (w:=w) (sl:=sl) h.awake h.B7;rw[SO];refine⟨d,?_⟩;have h':=h.at d;by_cases e0:i=0
 ·subst e0;exact h'.tK hg CF
 ·rcases Nat.lt_or_ge i base with mB|jU
  ·exact h'.GU oM mB hg CF
  ·have QD:=h.si.size;have hN:=(Array.getElem?_eq_some_iff.1 hg).1;obtain⟨T,hT⟩:∃T,ths[i-base]? =some T:=⟨_,List.getElem?_eq_getElem oM⟩
   have:=h'.worker (sl:=sl') hT (g:=g) (by rw[show base+(i-base)=i by omega];exact hg) CF
   rwa [show base+(i-base)=i by omega] at this
end
end Go.RL
end
section
namespace Go.RL
open Go.Conc Go.ConcN Go.RL.Au
open Go.ConcR (stA smA)
open Go.ConcM (muA OsLater)
attribute [local irreducible] mu
structure AI(P:Program)(H:View)(os0:gY)(gs:Array Goroutine)(w:World)(t:Trace)(q:Nat->Nat):Prop where
 pos:0<gs.size
 sat:Sat H w
 nr:∀said,¬Race said t
 kn:∀i a,touchAt t i=some a->a.kind=.plain->Knows t 0 i
 np:∀i a b,touchAt t i=some a->a.kind≠ .plain->lb a.loc=some b->H b=none
 nW:∀(i:Nat) op a,t[i]? =some op->op.act.touch? =some a->a.kind≠ .plain->(a.kind=.said->op.g=0)/\(a.kind=.atomic->op.g≠0->¬t.heard i)
 bd:∀i a b,touchAt t i=some a->lb a.loc=some b->b<w.heap.size
 rel:∀a,NoRelease a t
 gb:∀(i:Nat) op,t[i]? =some op->op.g<gs.size
 mem:∀i a,touchAt t i=some a->∃b,lb a.loc=some b
 LR:Deaf t 0=0
 YI:∀i,0<i->i<gs.size->∃g,gs[i]? =some g/\QuitsD P (q i) (Deaf t i) g
 os:JW os0 w
section
variable {P:Program}{H:View}{os0:gY}{gs:Array Goroutine}{w w':World}{t:Trace}{q:Nat->Nat}
theorem AI.at(h:AI P H os0 gs w t q)(d:Nat):AI P H os0 gs (w.at d) t q:=⟨h.pos,h.sat,h.nr,h.kn,h.np,h.nW,h.bd,h.rel,h.gb,h.mem,h.LR,h.YI,h.os⟩
theorem AI.walk(h:AI P H os0 gs w t q){g g':Goroutine}{H':View}{es:Array Event}{fn:FuncId}{pos:String}(ht:Trans H w H' w' es):AI P H' os0 (EC P gs 0 g g' w') w' (t++MemOp.ofEvents 0 fn pos es) q:=by
 obtain⟨iA,UI⟩:=LV (X:=⟨0,0,0,0,0,0,fun _ _=> True⟩) (g:=0) (fn:=fn) (pos:=pos) (t:=t) ht.ev;have hd:∀j,Deaf (t++MemOp.ofEvents 0 fn pos es) j=Deaf t j:=fun j=> Deaf_still t j _ UI;have WM:∀op∈MemOp.ofEvents 0 fn pos es,∀x,op.act.touch? =some x->x.kind=.plain/\∃b f o,lb x.loc=some b/\H' b=some (f,o):=by
  rw[ofEvents_eq];intro op AD x hx;obtain⟨e,he,rfl⟩:=Array.mem_map.1 AD;have hk:=ht.ev e he;obtain⟨loc,wr,sy⟩:=e;unfold FK at hk;cases loc with
  | cell a=>
   obtain⟨hs,f,o,h1,h2⟩:=hk;simp only at hs;subst hs;cases wr <;> simp[MemAct.ofEvent,MemAct.touch?] at hx <;> subst hx <;> exact⟨rfl,_,f,o,rfl,h1⟩
  | obj r=>
   obtain⟨hs,f,o,h1,h2⟩:=hk;simp only at hs;subst hs;cases wr <;> simp[MemAct.ofEvent,MemAct.touch?] at hx <;> subst hx <;> exact⟨rfl,_,f,o,rfl,h1⟩
  | mark m=>
   cases m <;> first
    | (simp[GQ] at hk;done)
    | simp[MemAct.ofEvent,MemAct.touch?] at hx
  | _=> exact hk.elim
 have old:∀i a b f o,touchAt t i=some a->lb a.loc=some b->H' b=some (f,o)->∃o',H b=some (f,o'):=by
  intro i a b f o ha hb hx;rcases ht.ext b f o hx with h1|⟨_,hle⟩
  ·exact h1
  ·have:=h.bd i a b ha hb;omega
 have npk:∀i a b,touchAt t i=some a->a.kind≠ .plain->lb a.loc=some b->H' b=none:=fun i a b ha hk hb=> by
  cases hx:H' b with
  | none=> rfl
  | some x=>
   obtain⟨o',h4⟩:=old i a b x.1 x.2 ha hb hx;rw[h.np i a b ha hk hb] at h4;cases h4
 refine⟨by rw[tA];exact h.pos,ht.sat,fun said=> ?_,fun i a ha hk=> ?_,fun i a b ha hk hb=> ?_,fun i op a sZ ha hk=> ?_,fun i a b ha hb=> ?_,fun a=> (h.rel a).app fun op AD=> iA.rel op AD a,fun i op sZ=> ?_,fun i a ha=> ?_,by rw[hd];exact h.LR,fun i h0 hi=> ?_,h.os.trans ⟨by rw[ht.os];exact OsLater.refl _,ht.out⟩⟩
 ·refine noRace_append (h.nr said) iA.own fun i a ha op AD b hb hc=> ?_;obtain⟨qE,QC,_,_⟩:=hc;obtain⟨_,blk,f,o,h1,h2⟩:=WM op AD b hb;refine h.kn i a ha (Classical.byContradiction fun gB=> ?_);rw[npk i a blk ha gB (by rw[qE];exact h1)] at h2;cases h2
 ·rcases VA ha with ⟨hi,AF⟩|⟨hi,op,AD,rE,hx⟩
  ·exact(h.kn i a AF hk).app _
  ·have:=knows_own rE
   rwa [iA.own op AD] at this
 ·rcases VA ha with ⟨hi,AF⟩|⟨hi,op,AD,rE,hx⟩
  ·exact npk i a b AF hk hb
  ·exact absurd (WM op AD a hx).1 hk
 ·rcases getElem?_append_cases sZ with ⟨hi,rE⟩|⟨hi,vD⟩
  ·obtain⟨h1,h2⟩:=h.nW i op a rE ha hk;exact⟨h1,fun e e'=> by rw[heard_old hi];exact h2 e e'⟩
  ·exact absurd (WM op vD a ha).1 hk
 ·rcases VA ha with ⟨hi,AF⟩|⟨hi,op,AD,rE,hx⟩
  ·exact Nat.lt_of_lt_of_le (h.bd i a b AF hb) ht.size
  ·obtain⟨_,b',f,o,h1,h2⟩:=WM op AD a hx;rw[h1] at hb;cases hb
   exact ht.sat.lt h2
 ·rw[tA];rcases getElem?_append_cases sZ with ⟨hi,rE⟩|⟨hi,vD⟩
  ·exact h.gb i op rE
  ·rw[iA.own op vD];exact h.pos
 ·rcases VA ha with ⟨hi,AF⟩|⟨hi,op,AD,rE,hx⟩
  ·exact h.mem i a AF
  ·obtain⟨_,b',f,o,h1,h2⟩:=WM op AD a hx;exact⟨b',h1⟩
 ·rw[tA] at hi;obtain⟨g0,h1,h2⟩:=h.YI i h0 hi;exact⟨_,pB oM h1,by rw[hd,woken_quitsD h2];exact h2⟩
theorem AI.leave(h:AI P H os0 gs w t q){i q':Nat}{g g':Goroutine}{es:Array Event}{fn:FuncId}{pos:String}(h0:0<i)(hi:i<gs.size)(hm:∀e∈es,e.mute=true)(hq:QuitsD P q' (deafBehind (Deaf t i) es) g'):AI P H os0 (EC P gs i g g' w) w (t++MemOp.ofEvents i fn pos es) (upd q i q'):=by
 have ho:=vS (g:=i) (fn:=fn) (pos:=pos) hm;have qO:∀op∈MemOp.ofEvents i fn pos es,op.g=i:=fun op iA=> (ho op iA).1;have old:∀ {j:Nat} {a:Touch},touchAt (t++MemOp.ofEvents i fn pos es) j=some a->touchAt t j=some a:=by
  intro j a ha;rcases VA ha with ⟨_,AF⟩|⟨_,op,iA,_,r6⟩
  ·exact AF
  ·rw[(ho op iA).2.1] at r6;cases r6
 refine⟨by rw[tA];exact h.pos,h.sat,fun said=> noRace_append (h.nr said) qO fun j a _ op iA b hb _=> (by rw[(ho op iA).2.1] at hb;cases hb),fun j a ha hk=> (h.kn j a (old ha) hk).app _,fun j a b ha hk hb=> h.np j a b (old ha) hk hb,fun j op a aAf ha hk=> ?_,fun j a b ha hb=> h.bd j a b (old ha) hb,fun a=> (h.rel a).app fun op iA=> (ho op iA).2.2 a,fun j op aAf=> ?_,fun j a ha=> h.mem j a (old ha),?_,fun j h0' hj=> ?_,h.os⟩
 ·rcases getElem?_append_cases aAf with ⟨hl,rE⟩|⟨hl,vD⟩
  ·obtain⟨h1,h2⟩:=h.nW j op a rE ha hk;exact⟨h1,fun e e'=> by rw[heard_old hl];exact h2 e e'⟩
  ·rw[(ho op vD).2.1] at ha;cases ha
 ·rw[tA];rcases getElem?_append_cases aAf with ⟨hl,rE⟩|⟨hl,vD⟩
  ·exact h.gb j op rE
  ·rw[qO op vD];exact hi
 ·rw[Deaf_other t (g:=0) (g':=i) oM _ qO];exact h.LR
 ·rw[tA] at hj;by_cases e:j=i
  ·subst e;exact⟨g',EE hj,by rw[upd_same,Deaf_own];exact hq⟩
  ·obtain⟨g0,h1,h2⟩:=h.YI j h0' hj;exact⟨_,pB e h1,by rw[upd_ne _ _ e,Deaf_other t (g:=j) (g':=i) (Ne.symm e) _ qO,woken_quitsD h2];exact h2⟩
theorem AI.begin {X:Fk}{Fin:Goroutine->Prop}{H₁ F:View}{o:Obj}{g:Goroutine}(qU:0<X.n)(hn6:X.n<=6)(ne:X.Mu≠X.Wg/\X.Mu≠X.C/\X.Wg≠X.C)(OE:H₁ X.Mu=none/\H₁ X.Wg=none/\H₁ X.C=none)
  (hd:Dj (((H₁.put X.C (true,o)).put X.Mu (true,X.dP ⟨0,0,0,0,0⟩)).put X.Wg (true,X.yP ⟨0,0,0,0,0⟩)) F) (h:AI P ((((H₁.put X.C (true,o)).put X.Mu (true,X.dP ⟨0,0,0,0,0⟩)).put X.Wg (true,X.yP ⟨0,0,0,0,0⟩)).plus F) os0 gs w t q)
  (hG:X.GI (fun _=> false) o) (hg:gs[0]? =some g) (hT:∀k,T (Mw P true X.ok) (MS P X Fin k .kd 0) (ro H₁) g):
  ∃s H ks rks D,PI P X Fin (H₁.plus F) gs.size os0 gs w t [] .kd s H ks rks q D:=by
 obtain⟨ρ,hρ⟩:=(hT (mu X.n [] .kd ⟨0,0,0,0,0⟩+1)).PS;have F8:(((H₁.put X.C (true,o)).put X.Mu (true,X.dP ⟨0,0,0,0,0⟩)).put X.Wg (true,X.yP ⟨0,0,0,0,0⟩)) X.Wg=some (true,X.yP ⟨0,0,0,0,0⟩):=View.qA ..;have C8:(((H₁.put X.C (true,o)).put X.Mu (true,X.dP ⟨0,0,0,0,0⟩)).put X.Wg (true,X.yP ⟨0,0,0,0,0⟩)) X.Mu=some (true,X.dP ⟨0,0,0,0,0⟩):=by rw[View.kA _ _ ne.1,View.qA]
 have hC:(((H₁.put X.C (true,o)).put X.Mu (true,X.dP ⟨0,0,0,0,0⟩)).put X.Wg (true,X.yP ⟨0,0,0,0,0⟩)) X.C=some (true,o):=by rw[View.kA _ _ (Ne.symm ne.2.2),View.kA _ _ (Ne.symm ne.2.1),View.qA]
 have hH:∀b x,H₁ b=some x->(((H₁.put X.C (true,o)).put X.Mu (true,X.dP ⟨0,0,0,0,0⟩)).put X.Wg (true,X.yP ⟨0,0,0,0,0⟩)) b=some x:=fun b x hb=> by
  rw[View.kA,View.kA,View.kA]
  ·exact hb
  ·rintro rfl;rw[OE.2.2] at hb;cases hb
  ·rintro rfl;rw[OE.1] at hb;cases hb
  ·rintro rfl;rw[OE.2.1] at hb;cases hb
 generalize (((H₁.put X.C (true,o)).put X.Mu (true,X.dP ⟨0,0,0,0,0⟩)).put X.Wg (true,X.yP ⟨0,0,0,0,0⟩))=HH at hd h F8 C8 hC hH;have hFn:F X.Mu=none/\F X.Wg=none/\F X.C=none:=⟨hd.none C8,hd.none F8,hd.none hC⟩
 have hB:∀b x,(H₁.plus F) b=some x->(HH.plus F) b=some x:=fun b x hb=> by
  unfold View.plus at hb;split at hb
  ·rename_i y hy
   cases hb
   exact xA (hH b _ hy)
  ·rw[KA (hd b x hb)];exact hb
 have hBn:∀b,(HH.plus F) b=none->(H₁.plus F) b=none:=fun b hb=> by
  cases hx:(H₁.plus F) b with
  | none=> rfl
  | some x=> rw[hB b x hx] at hb;cases hb
 have hV:∀j b,upd (fun _=> fun _=> none) 0 (ro H₁) j b=if j=0 then ro H₁ b else none:=fun j b=> by
  by_cases e:j=0
  ·subst e;rw[upd_same,if_pos rfl]
  ·rw[upd_ne _ _ e,if_neg e]
 have P2:∀b f o',ro H₁ b=some (f,o')->∃f',(HH.plus F) b=some (f',o'):=fun b f o' hb=> by
  obtain⟨_,f',h1⟩:=aD hb;exact⟨f',xA (hH b _ h1)⟩
 have kG:∀j,Act gs.size gs.size j->j=0:=fun j hj=> hj.elim id fun⟨h1,h2⟩=> by omega
 refine⟨⟨0,0,0,0,0⟩,upd (fun _=> fun _=> none) 0 (ro H₁),fun _=> mu X.n [] .kd ⟨0,0,0,0,0⟩+1,ρ::List.replicate (gs.size-1) .stop,fun _=> false,Inv.start qU hn6,h.pos,ne,fun κ=> rfl,fun _ _=> Nat.lt_succ_self _,⟨⟨?_,?_⟩,?_,⟨fun j b f o' hb=> ?_,fun i j mO b o' hi=> ?_,fun j=> ?_,fun b f o' hb=> ?_,fun j b x o' _ hj=> ?_,?_⟩,fun j hj b=> ?_,?_,fun _=> ⟨⟨o,?_,hG⟩,fun j=> ?_,fun i a ha hb=> ?_⟩,fun κ T hκ=> ?_,fun κ T hκ=> ?_,h.LR,fun κ T hκ=> ?_,h.os⟩,⟨rfl,?_,⟨g,ρ,hg,rfl,?_⟩,fun κ T hκ=> ?_,h.YI⟩⟩
 ·exact h.sat _ _ _ (xA C8)
 ·exact h.sat _ _ _ (xA F8)
 ·exact h.sat.lt (xA hC)
 ·rw[hV] at hb;split at hb
  ·obtain⟨f',h1⟩:=P2 b f o' hb;exact h.sat b f' o' h1
  ·cases hb
 ·rw[hV] at hi;split at hi
  ·have:=(aD hi).1;cases this
  ·cases hi
 ·rw[hV,hV];split
  ·exact⟨iE OE.1,iE OE.2.1⟩
  ·exact⟨rfl,rfl⟩
 ·exact h.sat b f o' (hB b _ hb)
 ·rw[hV] at hj;split at hj
  ·have:=(aD hj).1;cases this
  ·cases hj
 ·exact⟨by rw[KA OE.1];exact hFn.1,by rw[KA OE.2.1];exact hFn.2.1,by rw[KA OE.2.2];exact hFn.2.2⟩
 ·rw[hV,if_neg fun e=> hj (.inl e)]
 ·refine ⟨h.nr,h.bd,fun j hj i a b f o' ha hb hx hw=> ?_,fun i op a iA ha hk _=> h.kn i a (by rw[touchAt_of iA];exact ha) hk,fun i a b ha hk hb=> ?_,h.nW,fun j hj i a b ha hk hb _=> ?_,h.rel,h.gb,h.mem⟩
  ·have:=kG j hj;subst this;rw[hV,if_pos rfl] at hx;obtain⟨f',h1⟩:=P2 b f o' hx;refine h.kn i a ha (Classical.byContradiction fun gB=> ?_);rw[h.np i a b ha gB hb] at h1;cases h1
  ·have h1:=h.np i a b ha hk hb;refine⟨fun j=> ?_,hBn b h1,?_⟩
   ·rw[hV];split
    ·cases hx:ro H₁ b with
     | none=> rfl
     | some x=>
      obtain⟨f',h2⟩:=P2 b x.1 x.2 hx;rw[h1] at h2;cases h2
    ·rfl
   ·rintro rfl;rw[xA hC] at h1;cases h1
  ·have:=kG j hj;subst this;exact h.kn i a ha hk
 ·exact h.sat _ _ _ (xA hC)
 ·rw[hV];split
  ·exact iE OE.2.2
  ·rfl
 ·refine .inl fun j hj=> ?_;have:=kG j hj;subst this;refine h.kn i a ha (Classical.byContradiction fun gB=> ?_);have:=h.np i a _ ha gB hb;rw[xA hC] at this;cases this
 ·simp at hκ
 ·simp at hκ
 ·simp at hκ
 ·simp;have:=h.pos;omega
 ·rw[upd_same];exact .walk hρ
 ·simp at hκ
theorem PI.ends {X:Fk}{Fin:Goroutine->Prop}{H₁ F:View}{base:Nat}{ths:List Th}{s:Sh}{H:Nat->View}{ks:Nat->Nat}{rks:List sB}{D:Nat->Bool}{g g':Goroutine}(h:PI P X Fin (H₁.plus F) base os0 gs w t ths .aq s H ks rks q D)(hC:H₁ X.C=none)(fn:FuncId)(pos:String):
  ∃o,X.GI (fun i=> decide (i<X.n)) o/\F X.C=none/\AI P ((H₁.put X.C (true,o)).plus F) os0 (EC P gs 0 g g' w) w (t++MemOp.ofEvents 0 fn pos #[Go.ConcR.mk (.acquire (stA X.Wg))]) q:=by
 obtain⟨hlen,tH⟩:=h.inv.done rfl;have hb:=h.b1;have QD:=h.si.size;have hN:0<gs.size:=by omega
 obtain⟨⟨o,h1,h2⟩,h3,_⟩:=h.wt.free fun κ T hκ=> by rw[tH κ T hκ];rfl
 have hD:D=fun i=> decide (i<X.n):=by
  funext κ
  rw[h.dd κ];by_cases e:κ<ths.length
  ·rw[List.getElem?_eq_getElem e,tH κ _ (List.getElem?_eq_getElem e)];simp[Th.did];omega
  ·rw[List.getElem?_eq_none oM];simp;omega
 subst hD;have hFC:F X.C=none:=by have:=h.wt.vi.bn.2.2;rw[KA hC] at this;exact this
 have iA:=nK (X:=X) (H:=H 0) (g:=0) (fn:=fn) (pos:=pos) (m:=.acquire (stA X.Wg)) (t:=t) (fun x hx=> by cases hx) (fun a e=> by cases e);have sO:=h.wt.HN h.ne (.inl rfl) hN iA;have QJ:∀j,Deaf (t++MemOp.ofEvents 0 fn pos #[Go.ConcR.mk (.acquire (stA X.Wg))]) j=Deaf t j:=fun j=> II (by simp) (by simp);have hj:=h.wt.ti.join (y:= { g:=0,fn,pos,act:=.mark (.acquire (stA X.Wg)) }) ⟨rfl,rfl⟩ h.wt.LR fun g jU mB=> by
  have hκ:g-base<ths.length:=by omega
  have hT:=List.getElem?_eq_getElem hκ;obtain⟨r,hr⟩:=h.wt.uH _ _ hT (by rw[tH _ _ hT];rfl);rw[show base+(g-base)=g by omega] at hr;exact⟨r,hr⟩
 rw[<-iI] at hj;refine⟨o,h2,hFC,by rw[tA];exact hN,fun b f o' gK=> ?_,sO.nr,hj,fun i a b ha hk dQ=> ?_,sO.nW,sO.bd,sO.rel,fun i op sZ=> by rw[tA];exact sO.gs i op sZ,sO.mem,by rw[QJ];exact h.wt.LR,fun i h0 hi=> ?_,h.wt.os⟩
 ·unfold View.plus at gK;split at gK
  ·rename_i y hy
   cases gK
   by_cases e:b=X.C
   ·subst e;rw[View.qA] at hy;cases hy;exact h1
   ·rw[View.kA _ _ e] at hy;exact h.wt.vi.bs b f o' (xA hy)
  ·rename_i hy
   have e:b≠X.C:=by rintro rfl;rw[View.qA] at hy;cases hy
   rw[View.kA _ _ e] at hy;exact h.wt.vi.bs b f o' (by rw[KA hy];exact gK)
 ·obtain⟨_,g2,g3⟩:=sO.np i a b ha hk dQ;unfold View.plus at g2 ⊢;rw[View.kA _ _ g3];exact g2
 ·rw[tA] at hi;rcases Nat.lt_or_ge i base with mB|jU
  ·obtain⟨g0,g1,g2⟩:=h.si.YI i h0 mB;exact⟨_,pB oM g1,by rw[QJ,woken_quitsD g2];exact g2⟩
  ·have hκ:i-base<ths.length:=by omega
   have hT:=List.getElem?_eq_getElem hκ;obtain⟨g0,ρ,g1,_,g2⟩:=h.si.work _ _ hT;rw[show base+(i-base)=i by omega] at g1 g2;have hq:QuitsD P (q i) (Deaf t i) g0:=by
    cases g2 with
    | quit _ hq=> exact hq
    | quiet n Dw hh _ _=> exact absurd (tH _ _ hT) hh.1
    | walk Dw hh _ _=> rw[tH _ _ hT] at hh;cases hh
    | wait c g₀ Dw hh _ _=> have:=hh.1;rw[tH _ _ hT] at this;cases this
   exact⟨_,pB oM g1,by rw[QJ,woken_quitsD hq];exact hq⟩
def AtRet(P:Program)(Post:Value->World->Prop)(H:View)(g:Goroutine):Prop:=
 g.status=.running/\∀w,Sat H w->∃v es,stepG P true g w=.ended (.done v) w es/\(∀e∈es,FK H e)/\Post v w
inductive MI(P:Program)(St:View->Goroutine->Prop)(os0:gY):sB×HP->Machine->Trace->Prop where
 | alone {gs:Array Goroutine} {w:World} {sl:Option (Nat×Nat)} {t:Trace} {q:Nat->Nat} {H:View} {g:Goroutine} {ρ:sB} (h:AI P H os0 gs w t q) (hg:gs[0]? =some g) (hT:Tr (Mp P) St ρ H g) (hρ:∀f,ρ≠ .phase f):MI P St os0 (ρ,0,[],sumTo gs.size q,0) (crowd gs w sl) t
 | phase {gs:Array Goroutine} {w:World} {sl:Option (Nat×Nat)} {t:Trace} {q:Nat->Nat} {X:Fk} {Fin:Goroutine->Prop} {H₁ F:View} {base:Nat} {ths:List Th} {m:Mn} {s:Sh} {H:Nat->View} {ks:Nat->Nat} {rks:List sB} {D:Nat->Bool} {f:View->Goroutine->sB} {μ:HP}
  (h:PI P X Fin (H₁.plus F) base os0 gs w t ths m s H ks rks q D) (hC:H₁ X.C=none) (hd:Dj H₁ F) (hμ:μ=PI.meas X gs ths m s rks q)
  (hk:∀o g',X.GI (fun i=> decide (i<X.n)) o->Fin g'->F X.C=none->Tr (Mp P) St (f ((H₁.put X.C (true,o)).plus F) g') ((H₁.put X.C (true,o)).plus F) g'):MI P St os0 (.phase f,μ) (crowd gs w sl) t
theorem MI.of {St:View->Goroutine->Prop}{sl:Option (Nat×Nat)}{g:Goroutine}{ρ:sB}(h:AI P H os0 gs w t q)(hg:gs[0]? =some g)(hT:Tr (Mp P) St ρ H g):∃μ,MI P St os0 (ρ,μ) (crowd gs w sl) t:=by
 cases ρ with
 | stop=> exact⟨_,.alone h hg hT (fun f=> by simp)⟩
 | step f=> exact⟨_,.alone h hg hT (fun f=> by simp)⟩
 | phase f=>
  obtain⟨Po,⟨H₁,F,Po₁,hd,rfl,⟨X,Fin,H₂,o,qU,hn6,ne,OE,rfl,hG,hMS,aCp⟩,hP⟩,hk⟩:=hT;obtain⟨s,H',ks,rks,D,T9⟩:=AI.begin qU hn6 ne OE hd h hG hg hMS;have RI:Dj H₂ F:=fun b x hb=> by
   have:=hd b x hb;cases hx:H₂ b with
   | none=> rfl
   | some y=>
    rw[View.kA,View.kA,View.kA] at this
    ·rw[hx] at this;cases this
    ·rintro rfl;rw[OE.2.2] at hx;cases hx
    ·rintro rfl;rw[OE.1] at hx;cases hx
    ·rintro rfl;rw[OE.2.1] at hx;cases hx
  exact⟨_,.phase T9 OE.2.2 RI rfl fun o g' ho hF hFC=> hk _ _ (hP _ _ (RI.put hFC) (aCp o g' ho hF))⟩
def xV:sB×HP->sB×HP->Prop:=Prod.Lex sB.Lt qF
theorem xV.wf:WellFounded xV:=(Prod.lex ⟨sB.Lt,sB.wf⟩ ⟨qF,qF.wf⟩).wf
theorem handed(h:AI P H os0 gs w t q):t.HandedOver:=by
 intro i g hgi gB hc;obtain⟨x,hx,hm,hk⟩:=hc;obtain⟨op,iA,aEk⟩:=touch_of hx;have hog:op.g=g:=by simpa [Trace.g?,iA] using hgi
 have rO:x.kind=.plain:=by
  refine Classical.byContradiction fun aCw=> ?_;obtain⟨h1,h2⟩:=h.nW i op x iA aEk aCw;have aAe:x.kind≠ .said:=fun e=> gB (hog▸h1 e);have VH:x.kind=.atomic:=by
   cases hkk:x.kind with
   | plain=> exact absurd hkk aCw
   | atomic=> rfl
   | said=> exact absurd hkk aAe
  rcases hk with hk|hk
  ·exact hk VH
  ·exact h2 VH (by rw[hog];exact gB) hk
 obtain⟨j,z,h1,h2,h3⟩:=h.kn i x hx rO;refine⟨j,by simp[Trace.g?,h1,h2],?_⟩;rcases h3 with rfl|h3
 ·rw[iA] at h1;cases h1
  exact absurd (hog.symm.trans h2) gB
 ·exact h3
theorem MI.step {Post:Value->World->Prop}(μ:sB×HP)(m:Machine)(t:Trace)(h:MI P (AtRet P Post) os0 μ m t):
  (∃o w ops,stepT P m=(.ended o w,ops)/\Go.Conc.Good P (fun v w=> Post v w/\JW os0 w) m o w (t++ops))\/(∃m' ops μ',stepT P m=(.next m',ops)/\xV μ' μ/\MI P (AtRet P Post) os0 μ' m' (t++ops)):=by
 cases h with
 | phase h hC hd hμ hk=>
  rename_i gs w sl q X Fin H₁ F base ths mn s H ks rks D f μ
  obtain⟨d,hg⟩:=h.step (sl:=sl);rcases hg with ⟨gs',w',sl',ops,ths',m',s',H',ks',rks',q',D',hr,T9,mB⟩|⟨gs',sl',g,g',ths',s',H',ks',rks',q',D',hg0,hr,rfl,hF,T9⟩
  ·exact .inr ⟨_,ops,(.phase f,_),hr,.right _ (by rw[hμ];exact mB),.phase T9 hC hd rfl hk⟩
  ·obtain⟨o,ho,hFC,Z1⟩:=T9.ends (g:=g) (g':=g') hC g.frame.fn g.frame.place;obtain⟨μ',hMI⟩:=MI.of (sl:=sl') Z1 (EE (by have:=T9.si.size;have:=T9.b1;omega)) (hk o g' ho hF hFC);exact .inr ⟨_,_,_,hr,.left _ _ (.phase f _ _),hMI⟩
 | alone h hg hT hρ=>
  rename_i gs w sl q H g ρ
  have CF:g.status=.running:=by
   cases ρ with
   | stop=> exact hT.1
   | step f=> exact hT.1
   | phase f=> exact absurd rfl (hρ f)
  have TV:∀x∈gs,awake x:=by
   intro x hx tm;obtain⟨i,hi,rfl⟩:=Array.mem_iff_getElem.1 hx;have NO:=Array.getElem?_eq_getElem hi;by_cases e0:i=0
   ·subst e0;rw[hg] at NO;cases NO
    rw[CF];simp
   ·obtain⟨g0,h1,h2⟩:=h.YI i oM hi;rw[h1] at NO;cases NO
    rcases h2.status with e|e <;> rw[e] <;> simp
  obtain⟨i,g₁,d,sl',dS,jW,SO⟩:=crowd_pick (P:=P) (w:=w) (sl:=sl) TV ⟨0,g,hg,CF⟩;rw[SO];have h':=h.at d;by_cases e0:i=0
  ·subst e0;rw[hg] at dS;cases dS
   cases ρ with
   | phase f=> exact absurd rfl (hρ f)
   | step f=>
    obtain⟨_,kB⟩:=hT;obtain⟨g',w',es,H',h3,h4,h5⟩:=kB (w.at d) h'.sat trivial;have Z1:=h'.walk (g:=g) (g':=g') (fn:=g.frame.fn) (pos:=g.frame.place) h4;obtain⟨μ',hMI⟩:=MI.of (sl:=sl') Z1 (EE h.pos) h5;exact .inr ⟨_,_,_,runT_crowd_go hg h3,.left _ _ (.step f _),hMI⟩
   | stop=>
    obtain⟨_,kB⟩:=hT;obtain⟨v,es,h3,h4,h5⟩:=kB (w.at d) h'.sat;have Z1:=h'.walk (g:=g) (g':=g) (fn:=g.frame.fn) (pos:=g.frame.place) { Trans.refl h'.sat with ev:=h4 };have T5:∀x∈(crowd gs w sl).gs.toList.drop 1,x.Leaves P:=fun x hx=> by
     obtain⟨j,hj⟩:=List.mem_iff_getElem?.1 hx;rw[List.getElem?_drop] at hj;have OO:gs[1+j]? =some x:=by simpa [crowd] using hj
     have mZ:=(Array.getElem?_eq_some_iff.1 OO).1;obtain⟨g0,g1,g2⟩:=h.YI (1+j) oM mZ;rw[OO] at g1;cases g1
     exact⟨_,g2.leaves⟩
    have aCr:(crowd gs w sl).EndHearing P (t++MemOp.ofEvents 0 g.frame.fn g.frame.place es):=fun j x hj hj0=> by
     have OO:gs[j]? =some x:=hj;have mZ:j<gs.size:=(Array.getElem?_eq_some_iff.1 OO).1;obtain⟨g0,g1,g2⟩:=h.YI j oM mZ;rw[OO] at g1;cases g1
     refine⟨q j,?_⟩;have UI:Deaf (t++MemOp.ofEvents 0 g.frame.fn g.frame.place es) j=Deaf t j:=Deaf_other t (g:=j) (g':=0) oM _ ofEvents_g;have e:(t++MemOp.ofEvents 0 g.frame.fn g.frame.place es).deaf j (t++MemOp.ofEvents 0 g.frame.fn g.frame.place es).size=Deaf t j:=UI;rw[e];exact g2.hears _
    exact .inl ⟨_,_,_,runT_many_ended hg h3,v,rfl,⟨h5,h.os⟩,Z1.nr,handed Z1,⟨T5,rfl⟩,aCr⟩
  ·have hi:i<gs.size:=(Array.getElem?_eq_some_iff.1 dS).1;obtain⟨g0,g1,g2⟩:=h.YI i oM hi;rw[g1] at dS;cases dS
   have lX:(i==0)=false:=by simp;omega
   cases P8:q i with
   | zero=> rw[P8] at g2;rw[g2.1] at jW;cases jW
   | succ q'=>
    rw[P8] at g2;rcases g2 with ⟨hf,_⟩|⟨_,g',es,eM,kB,zT⟩
    ·rw[hf] at jW;cases jW
    ·have Z1:=h'.leave (g:=g₁) (fn:=g₁.frame.fn) (pos:=g₁.frame.place) oM hi eM zT;have h0':(EC P gs i g₁ g' (w.at d))[0]? =some g:=by
      rw[pB oM hg,woken_running (.inl CF)]
     refine .inr ⟨_,_,_,runT_crowd_go g1 (by rw[lX];exact kB _),?_,.alone Z1 h0' hT hρ⟩;refine .right _ (aAr ?_);show sumTo (EC P gs i g₁ g' (w.at d)).size _<_;rw[tA];have:=sumTo_upd (f:=q) q' (fun a=> a) (i:=i) (j:=gs.size) hi;have e:sumTo gs.size (fun a=> upd q i q' a)=sumTo gs.size (upd q i q'):=rfl;have e2:sumTo gs.size (fun a=> q a)=sumTo gs.size q:=rfl;omega
theorem T.runs {Post:Value->World->Prop}{H:View}{g:Goroutine}{W:World}(h:T (Mp P) (AtRet P Post) H g)(hs:Sat H W):
  ∃N last o w' t',runNT P (N+1) (solo g W) #[]=(.ended o w',t')/\runN P N (solo g W)=.next last/\Go.step P last=.ended o w'/\Go.Conc.Good P (fun v w=> Post v w/\JW (W.os,W.output) w) last o w' t':=by
 obtain⟨ρ,hρ⟩:=h.PS;have Z1:AI P H (W.os,W.output) #[g] W #[] (fun _=> 0):=by
  have none:∀(i:Nat) a,touchAt #[] i≠some a:=fun i a=> by simp[touchAt,Trace.act?]
  exact⟨by simp,hs,fun said ⟨i,j,_,⟨a,_,ha,_⟩,_⟩=> by simp[Trace.act?] at ha,fun i a ha=> absurd ha (none i a),fun i a b ha=> absurd ha (none i a),fun i op a iA=> by simp at iA,fun i a b ha=> absurd ha (none i a),fun a i=> by simp[Trace.act?],fun i op iA=> by simp at iA,fun i a ha=> absurd ha (none i a),rfl,fun i h0 hi=> by simp at hi;omega,JW.refl _⟩
 obtain⟨μ,hMI⟩:=MI.of (sl:=Option.none) Z1 (by simp) hρ;rw[solo_eq_crowd];exact run_of_inv xV.wf (MI P (AtRet P Post) (W.os,W.output)) (fun m o w t=> Go.Conc.Good P (fun v w=> Post v w/\JW (W.os,W.output) w) m o w t) (fun μ m t hm=> MI.step μ m t hm) _ _ _ hMI
end
end Go.RL
end
namespace Go.RL
open Go.Conc Go.ConcN
section
variable {P:Program}{n:Nat}{R:Rg}{L:Bl}{H₀:View}{k:List Item}
theorem T.top {M:Md P}{Post:Value->World->Prop}{H:View}{fn:Func}{b:FB}{tmps:Array Value}{todo:List Item}{v:Value}(hf:P.funcs[b.fn]? =some fn)(hi:P.inits.idxOf? b.fn=Option.none)(hk:b.kind=.normal)(hv:aV fn R v)(hr:PA n R tmps)
  (hp:∀w,Sat H w->Post v w):T M (AtRet P Post) H (G (b.back tmps [] todo) []):=by
 refine .stop ⟨rfl,fun w hs=> ⟨v,#[],?_,fun e he=> by simp at he,hp w hs⟩⟩;have:stepG P true (G (b.back tmps [] todo) []) w=unwind P true (b.back tmps [] todo) [] Option.none w:=by simp[G,stepG,FB.back]
 rw[this];unfold unwind;simp only[FB.back,hf,hv.run (P:=P) hr w,doReturn,hk,hi,GStep.after,seen_none];simp
theorem Tc.aAH {Post:Value->World->Prop}{fn:Func}{f:FuncId}{v:Value}(hf:P.funcs[f]? =some fn)(hi:P.inits.idxOf? f=none)(hv:aV fn R v)(hp:∀H w,eA H₀ L H->Sat H w->Post v w):
 Tc (Mp P) (AtRet P Post) n ⟨f,.normal,none⟩ H₀ [] R L [] (.code .ret::k):=fun H _ hs hr=> .kC rfl (T.top hf hi rfl hv hr fun w hw=> hp H w hs hw)
theorem T.UY {f:FuncId}{fn:Func}{body:Code}{vs:List Value}{H:View}{St:View->Goroutine->Prop}(hf:P.funcs[f]? =some fn)(hb:fn.body=some body)(hn:fn.ntmps=n)(hv:vs.length<=n)
  (h:Tc (Mp P) St n ⟨f,.normal,Option.none⟩ H [] (lJ vs) [] [] [.code body]):T (Mp P) St H (G (Frame.enter P f vs.toArray .normal) []):=by
 have:=h H (vs.toArray++Array.replicate (n-vs.length) undef) (eA.nil H) ⟨by simp;omega,fun d v hd=> ?_⟩
 ·have e:Frame.enter P f vs.toArray .normal=(⟨f,.normal,Option.none⟩:FB).at (vs.toArray++Array.replicate (n-vs.length) undef) [] [.code body]:=by
   simp[Frame.enter,FB.at,hf,hb,hn]
  rw[e];exact this
 ·obtain⟨_,h2⟩:=iF vs 0 d v hd;simp only[Nat.sub_zero] at h2;have mB:=(List.getElem?_eq_some_iff.1 h2).1;rw[Array.getElem?_append_left (by simpa using mB)];simpa using h2
end
end Go.RL
namespace Go.Proofs.YtgkmnalhddmclaaGreatDoor
open Go.RL Go.Proofs.Tryz Go.ChangeShapes Go.WideShapes Go.ChangeAt Go.RowKit
set_option maxRecDepth 100000
def TF(W:World):View:=fun b=> (W.heap[b]?).map fun o=> (false,o)
theorem gX(W:World):Sat (TF W) W:=fun b f o h=> by
 simp only[TF,Option.map_eq_some_iff,Prod.mk.injEq] at h;obtain⟨o',h1,_,rfl⟩:=h;exact h1
theorem aEB:ownKnob prog.godebug=none:=by kernel_rfl
theorem HZ:laidOutB prog=true:=by kernel_rfl
theorem qL {P:Program}{w:World}:∀ {l:List (String×DataW Unit)} {ps:List MemPlace},DataW.LaidVars P w l ps->∀ {n:String} {d:DataW Unit},(n,d)∈l-> 
  ∃g t cs fuel p,P.globalNamed n=some g/\(P.globals[g]?).map (·.type)=some t/\w.var? P n=some cs/\DataW.trod (fun _=> ()) P w 0 (fun _=> true) false fuel t cs.toList=some (d,p)
 | [],_,_,_,_,h=> by cases h
 | (m,e)::r,ps,h,n,d,hm=> by
  obtain⟨g,t,cs,fuel,p,q,h1,h2,h3,h4,h5,_⟩:=h;rcases List.mem_cons.1 hm with e1|hm
  ·cases e1
   exact⟨g,t,cs,fuel,p,h1,h2,h3,h4⟩
  ·exact qL h5 hm
theorem S1 {W:World}{n:String}{g:Nat}{cs:Array Value}(hg:prog.globalNamed n=some g)(hv:W.var? prog n=some cs):∃gt gz,W.heap[g]? =some (.cells cs gt gz):=by
 unfold World.var? at hv;rw[hg] at hv;simp only[Option.bind_some] at hv;split at hv
 ·rename_i cs' t' z e
  obtain rfl:=Option.some.inj hv;exact⟨_,_,e⟩
 ·cases hv
theorem PV:prog.globalNamed "baudot/signal.checks"=some 0:=by kernel_rfl
theorem G7:(prog.globals[0]?).map (·.type)=some 157:=by kernel_rfl
theorem M1:prog.underlying 157=some (.array 4 156):=by kernel_rfl
theorem YQ:prog.underlying 156=some (.func #[112] #[4] false):=by kernel_rfl
theorem LY:prog.cellsOf 156=1:=by kernel_rfl
theorem MY:prog.cellsOf 157=4:=by kernel_rfl
theorem D5 {LL:List (String×DataW Unit)}(hc:("baudot/signal.checks",(Rows.laid_baudot_signal_checks:DataW Unit))∈LL){W:World}(h:laidMetH prog LL W):FC (TF W):=by
 obtain⟨g,t,cs,fuel,p,hg,ht,hv,hd⟩:=h.funcs (n:= "baudot/signal.checks") hc;obtain rfl:=Option.some.inj (PV.symm.trans hg);obtain rfl:=Option.some.inj (G7.symm.trans ht);have hh:∃gt gz,W.heap[0]? =some (.cells cs gt gz):=by
  unfold World.var? at hv;rw[PV] at hv;simp only[Option.bind_some] at hv;split at hv
  ·rename_i cs' t' z e
   obtain rfl:=Option.some.inj hv;exact⟨_,_,e⟩
  ·cases hv
 obtain⟨gt,gz,hh⟩:=hh;have hlen:cs.toList.length=4:=by
  cases fuel with
  | zero=> simp[DataW.trod] at hd
  | succ n=>
   unfold DataW.trod at hd;rw[M1] at hd;simp[MY] at hd
   simpa using hd.1
 obtain⟨c0,c1,c2,c3,Y9⟩:∃c0 c1 c2 c3,cs.toList= [c0,c1,c2,c3]:=by
  match e:cs.toList,hlen with
  | [c0,c1,c2,c3],_=> exact⟨c0,c1,c2,c3,rfl⟩
 rw[Y9] at hd;obtain⟨y0,y1,y2,y3,n,hx,r0,r1,r2,r3⟩:=trod_array4 M1 LY hd;have EH:=congrArg Prod.fst hx;have hx2:(DataW.agg [y0.1,y1.1,y2.1,y3.1]:DataW (List UInt8))=DataW.agg [.held _,.held _,.held _,.held _]:=EH.symm;simp only[DataW.agg.injEq,List.cons.injEq,and_true] at hx2;obtain⟨e0,e1,e2,e3⟩:=hx2;obtain⟨d0,q0⟩:=y0;obtain⟨d1,q1⟩:=y1;obtain⟨d2,q2⟩:=y2;obtain⟨d3,q3⟩:=y3;simp only at e0 e1 e2 e3;subst e0 e1 e2 e3;obtain rfl:=func_of_trod (f0:=264) YQ kR r0;obtain rfl:=func_of_trod (f0:=265) YQ kR r1;obtain rfl:=func_of_trod (f0:=259) YQ kR r2;obtain rfl:=func_of_trod (f0:=266) YQ kR r3;refine⟨false,gt,gz,?_⟩;have ec:cs=⟨[EM 0,EM 1,EM 2,EM 3]⟩:=by
  apply Array.ext'
  rw[Y9];rfl
 rw[<-ec];simp only[TF,hh,Option.map_some]
theorem BQ {α β:Type}{f:α->Option β}:∀ {l:List α} {xs:List β},l.mapM f=some xs->∀(i:Nat) (a:α),l[i]? =some a->∃y,f a=some y/\xs[i]? =some y
 | [],_,_,i,a,h=> by simp at h
 | b ::l,xs,h,i,a,ha=> by
  rw[List.mapM_cons] at h;cases h1:f b with
  | none=> rw[h1] at h;cases h
  | some y=>
   rw[h1] at h;cases h2:l.mapM f with
   | none=> rw[h2] at h;cases h
   | some ys=>
    rw[h2] at h;obtain rfl:xs=y::ys:=(Option.some.inj h).symm;cases i with
    | zero=>
     obtain rfl:=Option.some.inj ha;exact⟨y,h1,rfl⟩
    | succ i=> exact BQ h2 i a ha
theorem aCk:prog.globalNamed "internal/strconv.uint64pow10"=some 2:=by kernel_rfl
theorem aEL:(prog.globals[2]?).map (·.type)=some 283:=by kernel_rfl
theorem aBA:prog.underlying 283=some (.array 20 187):=by kernel_rfl
theorem O1:prog.underlying 187=some (.int .u64):=by kernel_rfl
theorem OY:prog.cellsOf 187=1:=by kernel_rfl
theorem NY:prog.cellsOf 283=20:=by kernel_rfl
theorem aAD {LL:List (String×DataW Unit)}(hn:("internal/strconv.uint64pow10",(Rows.laid_internal_strconv_uint64pow10:DataW Unit))∈LL.filter fun x=> x.2.handleName?.isNone){W:World}(h:laidMetH prog LL W):Pow (TF W):=by
 obtain⟨⟨ps,hl,_⟩,_⟩:=laidMetH_iff.1 h;obtain⟨g,t,cs,fuel,p,hg,ht,hv,hd⟩:=qL hl hn;obtain rfl:=Option.some.inj (aCk.symm.trans hg);obtain rfl:=Option.some.inj (aEL.symm.trans ht);obtain⟨gt,gz,hh⟩:=S1 aCk hv;cases fuel with
 | zero=> simp[DataW.trod] at hd
 | succ n=>
  unfold DataW.trod at hd;rw[aBA] at hd;simp only[OY,NY] at hd;by_cases hlen:cs.toList.length=20
  ·rw[if_pos hlen] at hd;obtain⟨xs,hx,he⟩:=Option.map_eq_some_iff.1 hd;obtain⟨y0,h0,g0⟩:=BQ hx 0 0 rfl;obtain⟨y1,h1,g1⟩:=BQ hx 1 1 rfl;obtain⟨c0,c1,r,Y9⟩:∃c0 c1 r,cs.toList=c0::c1::r:=by
    match e:cs.toList,hlen with
    | a::b::r,_=> exact⟨a,b,r,rfl⟩
   rw[Y9] at h0 h1;have he1:DataW.agg (xs.map (·.1))=(Rows.laid_internal_strconv_uint64pow10:DataW Unit):=congrArg Prod.fst he;have QL:xs.map (·.1)= [.lit (.int .u64 1),.lit (.int .u64 10),.lit (.int .u64 100),.lit (.int .u64 1000),.lit (.int .u64 10000),.lit (.int .u64 100000),.lit (.int .u64 1000000),.lit (.int .u64 10000000),.lit (.int .u64 100000000),.lit (.int .u64 1000000000),.lit (.int .u64 10000000000),.lit (.int .u64 100000000000),.lit (.int .u64 1000000000000),.lit (.int .u64 10000000000000),.lit (.int .u64 100000000000000),.lit (.int .u64 1000000000000000),.lit (.int .u64 10000000000000000),.lit (.int .u64 100000000000000000),.lit (.int .u64 1000000000000000000),.lit (.int .u64 10000000000000000000)]:=DataW.agg.inj he1;have e0:y0.1=.lit (.int .u64 1):=by
    have:=congrArg (fun l=> l[0]?) QL;simp only[List.getElem?_map,g0] at this;exact Option.some.inj this
   have e1:y1.1=.lit (.int .u64 10):=by
    have:=congrArg (fun l=> l[1]?) QL;simp only[List.getElem?_map,g1] at this;exact Option.some.inj this
   obtain⟨d0,q0⟩:=y0;obtain⟨d1,q1⟩:=y1;simp only at e0 e1;subst e0 e1;obtain⟨z0,k0,k0',_⟩:=DataW.trod_int O1 h0;obtain⟨z1,k1,k1',_⟩:=DataW.trod_int O1 h1;have k0: [c0]= [Value.int .u64 z0]:=k0;have k1: [c1]= [Value.int .u64 z1]:=k1;simp only[Prod.mk.injEq,DataW.lit.injEq,Lit.int.injEq,true_and,List.cons.injEq,and_true] at k0 k0' k1 k1';refine⟨false,r,gt,gz,?_⟩;have ec:cs=⟨.int .u64 1:: .int .u64 10::r⟩:=by
    apply Array.ext'
    rw[Y9,k0,k1,k0'.1,k1'.1]
   rw[<-ec];simp only[TF,hh,Option.map_some]
  ·rw[if_neg hlen] at hd;cases hd
section
variable {H:Type}{enc:TypeId×Value->H}{P:Program}{W W':World}
theorem gJ(hl:laidOutB P=true)(hb:∀x:MemPlace,x.block<W.heap.size->W.sameAt W' x):∀ {ts:List TypeId} {vs:List Value} {ds:List (DataW H)} {p:List MemPlace},ts.all (fun t=> P.readableRec t&&decide (t<P.types.size))=true-> 
  DataW.TrodAll enc P W 0 (fun _=> true) true ts vs ds p->(∀x∈p,x.block<W.heap.size)->DataW.TrodAll enc P W' 0 (fun b=> decide (b<W.heap.size)) true ts vs ds p
 | [],[],[],_,_,h,_=> h
 | t::ts,v::vs,d::ds,p,hr,h,mB=> by
  simp only[List.all_cons,Bool.and_eq_true,decide_eq_true_eq] at hr;obtain⟨a,b,h1,h2,rfl⟩:=h;exact⟨a,b,WideElems.Trod_stays hl hr.1.1 hr.1.2 h1 (fun x hx=> hb x (mB x (by simp[hx]))) (fun x hx=> by simpa using mB x (by simp[hx])),gJ hl hb hr.2 h2 (fun x hx=> mB x (by simp[hx])),rfl⟩
 | [],[],_::_,_,_,h,_=> h.elim
 | [],_::_,[],_,_,h,_=> h.elim
 | [],_::_,_::_,_,_,h,_=> h.elim
 | _::_,[],[],_,_,h,_=> h.elim
 | _::_,[],_::_,_,_,h,_=> h.elim
 | _::_,_::_,[],_,_,h,_=> h.elim
theorem EL {base:Nat}{sp:Nat->Bool}{held:Bool}:∀ {ts:List TypeId} {vs:List Value} {ds:List (DataW H)} {p:List MemPlace},DataW.TrodAll enc P W base sp held ts vs ds p->ds.length=ts.length
 | [],[],[],_,_=> rfl
 | _::_,_::_,_::_,_,h=> by
  obtain⟨_,_,_,h2,_⟩:=h;simp[EL h2]
 | [],[],_::_,_,h=> h.elim
 | [],_::_,[],_,h=> h.elim
 | [],_::_,_::_,_,h=> h.elim
 | _::_,[],[],_,h=> h.elim
 | _::_,[],_::_,_,h=> h.elim
 | _::_,_::_,[],_,h=> h.elim
theorem SL(ho:W'.os=W.os)(BF:W'.output=W.output)(hb:∀b<W.heap.size,W'.heap[b]? =W.heap[b]?)(may:MemPlace->Prop):W.keptBut W' may:=by
 refine⟨ho,BF,fun i hi=> ?_⟩;rw[hb i hi];cases h:W.heap[i]? with
 | none=> exact rfl
 | some o=>
  cases o with
  | cells c t fr=> exact⟨rfl,rfl,rfl,fun _ _=> rfl⟩
  | map es k=> exact .inr ⟨rfl,rfl⟩
  | _=> exact rfl
theorem FX {f:Func}{s:ChangeSpec}{args:Array Value}{ds gs:List (DataW H)}{before:List MemPlace}{tb:TypeId}(hl:laidOutB P=true)(hr:f.params.toList.all (fun t=> P.readableRec t&&decide (t<P.types.size))=true)
  (vQ:f.resultTypes=#[tb]) (htb:P.underlying tb=some .bool) (hs:s.vars= []) (hW:DataW.Whole enc P f.params.toList s.vars false W args.toList ds gs before) (gU:s.fn H (ds++gs)= { results:= [.lit (.bool true)],args:=ds })
  (BF:W'.output=W.output) (QD:W.heap.size<=W'.heap.size) (hb:∀b<W.heap.size,W'.heap[b]? =W.heap[b]?):s.post enc P f false true false false W args (.bool true) { W' with os:=W.os }:=by
 have mB:=hW.lt;have hW0:=hW;obtain⟨p,q,hA,hV,rfl,hfz,nC⟩:=hW;rw[hs] at hV;obtain⟨rfl,rfl⟩:=trodVars_none hV;have aD6:Below W.heap.size W { W' with os:=W.os,tape:=W.tape }:=⟨rfl,rfl,BF,QD,hb⟩
 refine⟨ds,[],p++[],[],p,[],hW0,?_,?_,?_,SL (W:=W) (W':= { W' with os:=W.os }) rfl BF hb _,fun h=> nomatch h⟩
 ·rw[gU,vQ];exact trodAll_mk1 (shut_bool htb _)
 ·rw[gU];exact gJ (W':= { W' with os:=W.os }) hl (fun x hx=> aD6.same hx) hr hA (fun x hx=> mB x (by simp[hx]))
 ·rw[gU,hs];rfl
end
theorem lifted {LL:List (String×DataW Unit)}{f:FuncId}{fn:Func}{s:ChangeSpec}{n:Nat}{body:Code}{a:Assume}{os:Os}{H:Type}{enc:TypeId×Value->H}{conds:List PathCond}{F:Stop.Interp}
  (gU:prog.funcs[f]? =some fn) (hb:fn.body=some body) (hn:fn.ntmps=n) (hi:prog.inits.idxOf? f=none) (hpn:fn.params.size<=n)
  (vQ:fn.resultTypes=#[4]) (aCF:fn.params.toList.all (fun t=> prog.readableRec t&&decide (t<prog.types.size))=true)
  (qX:s.vars= []) (hsf:∀ds:List (DataW H),ds.length=fn.params.size->s.fn H (ds++[])= { results:= [.lit (.bool true)],args:=ds })
  (started:os.Started)
  (witness:∃(w:World) (tape:Tape) (i:Input),w.os=os/\(w.forCall tape i).Shaped prog/\i.vars= []/\Input.okWide prog (w.forCall tape i) .any w.heap.size f i/\
   ((s.pre enc prog fn conds false (w.forCall tape i).memory i.args/\laidMetH prog LL (w.forCall tape i).memory)/\sizedMet enc prog fn (OpenSpec.ofChange s) false (w.forCall tape i).memory i.args)/\a.holds prog (lone (Frame.enter prog f i.args .normal) [] (w.forCall tape i)))
  (walk:∀(W:World) (base:Nat) (vs:List Value) (ds:List (DataW H)) (p:List MemPlace),vs.length=fn.params.size->(∀(j:Nat) t v,fn.params[j]? =some t->vs[j]? =some v->Value.okWide prog W .any base t v)-> 
   DataW.TrodAll enc prog W 0 (fun _=> true) true fn.params.toList vs ds p->(DataW.weightsEach prog fn.params.toList ds).all (· <=reachBytes)=true->laidMetH prog LL W-> 
   ∀(St:View->Goroutine->Prop),(∀(H₀:View) (R:Rg) (L:Bl) (kk:List Item),aV fn R (.bool true)->(TF W).le H₀->Tc (Mp prog) St n ⟨f,.normal,none⟩ H₀ [] R L [] (.code .ret::kk))-> 
   Tc (Mp prog) St n ⟨f,.normal,none⟩ (TF W) [] (lJ vs) [] [] [.code body]):
  ReturnsInLeavingWide a Tryz.checked os f .any (fun w args=> (s.pre enc prog fn conds false w args/\laidMetH prog LL w)/\sizedMet enc prog fn (OpenSpec.ofChange s) false w args)
   ((OpenSpec.ofChange s).postWith enc prog fn F (outsideKept [.timePasses]) false true false):=by
 refine returnsInLeavingWide_of_good (C:=Tryz.checked) aEB started witness ?_;intro w tape i _ _ _ GB aAh _;obtain⟨_,_,_,fn',aD9,_,_,_,QO,tO⟩:=GB;have e:fn'=fn:=Option.some.inj (aD9.symm.trans gU);subst e;obtain⟨⟨⟨ds,gs,before,hw,hc⟩,hl⟩,hz⟩:=aAh;generalize hWe:w.forCall tape i=W at *;have VN:DataW.Whole enc prog fn'.params.toList s.vars false W i.args.toList ds gs before:=hw.of_heap (by rfl);have hl':laidMetH prog LL W:=hl.of_heap (by rfl);have DK:=hz.weights hw;have hw0:=VN;obtain⟨p,q,hA,hV,rfl,hfz,nC⟩:=VN;rw[qX] at hV;obtain⟨rfl,rfl⟩:=trodVars_none hV;have hlen:ds.length=fn'.params.size:=by
  simpa using EL hA
 have aEu:(DataW.weightsEach prog fn'.params.toList ds).all (· <=reachBytes)=true:=by
  have e:DataSpec.varTypes prog (OpenSpec.ofChange s).bare.plain= []:=by
   show List.filterMap _ s.vars= []
   rw[qX];rfl
  have:=DK;rw[e] at this;simpa using this
 have hT :=T.runs (Post:=fun v w=> v=.bool true/\W.heap.size<=w.heap.size/\∀b<W.heap.size,w.heap[b]? =W.heap[b]?) (H:=TF W) (T.UY gU hb hn (by simpa [QO] using hpn)
  (walk W w.heap.size i.args.toList ds p (by simpa using QO) (fun j t v h1 h2=> tO j t v h1 (by simpa using h2)) hA aEu hl' _
   (fun H₀ R L kk hv hle=> Tc.aAH gU hi hv (fun H w hs hw=> by
    have hk:∀b<W.heap.size,w.heap[b]? =W.heap[b]? :=fun b hb=> by
     have h1:TF W b=some (false,W.heap[b]):=by simp[TF,hb]
     rw[hw b false _ (hs.base _ _ (hle _ _ h1))];simp[hb]
    refine⟨rfl,?_,hk⟩;rcases Nat.eq_zero_or_pos W.heap.size with hz|hz
    ·omega
    ·have h1:=hk (W.heap.size-1) oM;have h2:=h1.trans (Array.getElem?_eq_getElem (show W.heap.size-1<W.heap.size by omega));have:=(Array.getElem?_eq_some_iff.1 h2).1;omega)))) (gX W)
 rw[Array.toArray_toList] at hT;obtain⟨N,last,o,w',t',h1,h2,h3,v,ho,⟨⟨rfl,hp1,hp2⟩,nU,nO⟩,r1,r2,r3,r4⟩:=hT;exact⟨N,last,o,w',t',h1,h2,h3,.bool true,ho,postWith_blind (postWith_of_post (FX HZ aCF vQ kR qX hw0 (hsf ds hlen) nO hp1 hp2) nU),r1,r2,r3,r4⟩
theorem JR {W:World}{a:Addr}{v:Value}(h:W.cell? a=some v):∃c t z,W.heap[a.block]? =some (.cells c t z)/\c[a.off]? =some v:=by
 unfold World.cell? at h;split at h
 ·rename_i c t z e
  split at h
  ·cases h
  ·exact⟨c,t,z,e,h⟩
 ·cases h
theorem gR {H:Type}{enc:TypeId×Value->H}{C:Checked}{os:Os}{f:FuncId}{fn:Func}{s:ChangeSpec}{conds:List PathCond}{apart:Bool}{X:World->Array Value->Prop}(w0:World)(args:Array Value)(fuel:Nat)(O8:w0.os=os)
  (SJ:(w0.forCall (fun _ _=> 0) ⟨#[],args,[]⟩).Shaped C.prog)
  (GB:Input.okWideB C.prog (w0.forCall (fun _ _=> 0) ⟨#[],args,[]⟩) f ⟨#[],args,[]⟩=true)
  (aAh:s.preB enc C.prog fn conds apart (w0.forCall (fun _ _=> 0) ⟨#[],args,[]⟩).memory args fuel=true)
  (QD:s.sizedB enc C.prog fn apart (w0.forCall (fun _ _=> 0) ⟨#[],args,[]⟩).memory args fuel=true)
  (hx:X (w0.forCall (fun _ _=> 0) ⟨#[],args,[]⟩).memory args):
  ∃ (w:World) (tape:Tape) (i:Input),w.os=os/\(w.forCall tape i).Shaped C.prog/\i.vars= []/\Input.okWide C.prog (w.forCall tape i) .any w.heap.size f i/\
   ((s.pre enc C.prog fn conds apart (w.forCall tape i).memory i.args/\X (w.forCall tape i).memory i.args)/\sizedMet enc C.prog fn (OpenSpec.ofChange s) apart (w.forCall tape i).memory i.args)/\({ calm:=true }:Assume).holds C.prog (lone (Frame.enter C.prog f i.args .normal) [] (w.forCall tape i)):=
 ⟨w0,fun _ _=> 0,⟨#[],args,[]⟩,O8,SJ,(Input.okWide_of_okWideB (base:=0) GB).1,(Input.okWide_of_okWideB GB).2,⟨⟨ChangeSpec.pre_of_preB aAh,hx⟩,sizedMet_of_sizedB QD⟩,by
  simp only[Assume.holds];exact⟨by simp,fun _ _ _ _=> rfl,by simp,by simp,by simp⟩⟩
theorem PL(Lk:Looks){p:Pinned}{s:OpenSpec}{c:OpenClaim}(kinds:List LaidKind)(tests:Bool)(sJ:Bool×String)(lk:Bool)
  (hc:c.holds p s) (hw:c.wfByText s=true) (aEs:c.laidByTextAt Lk p kinds tests)
  (kB:c.start=.entering) (hnb:c.noBlocks=false/\c.again=false) (hm:p.checked.prog.mainIs=some (sJ.1,sJ.2.toList)) (hn:(!sJ.1&&sJ.2.isEmpty && !lk)=false)
  (hl:∀f fn,p.checked.prog.funcNamed c.func=some f->p.checked.prog.funcs[f]? =some fn->lk=p.checked.prog.looks []/\∀(j:Nat) t,fn.params[j]? =some t->p.checked.prog.wantsStandIn t=false)
  (hg:true=c.goesBy p.checked.prog):
  Claim7.holds p (.plain s) { stood:= { row:=c,standIns:= [],harness:=sJ,looks:=lk },kinds:= [],alts:= [],goes:=true,laidByText:=true,laidKinds:=kinds,laidTests:=tests,laidLooks:=Lk }:=by
 have h6:∀r:OpenClaim,Claim7.isSixth { stood:= { row:=r,standIns:= [],harness:=sJ,looks:=lk },kinds:= [] }=false:=fun r=> by simpa [Claim7.isSixth] using hn
 obtain⟨h1,h2⟩:=Claim7.tied_new_at Lk kinds tests (Claim7.new_of_sixth hc sJ lk kB hnb hm (h6 c) hl) hw;exact⟨⟨h1,h2⟩,(fun D hD=> by cases hD),aEs,(fun h=> by cases h),hg⟩
theorem WZ {ps:Array TypeId}(h:ps.toList.all (fun u=> !prog.wantsStandIn u)=true):∀(j:Nat) t,ps[j]? =some t->prog.wantsStandIn t=false:=fun j t ht=> by
 have hm:t∈ps.toList:=by simpa using Array.mem_of_getElem? ht
 simpa using List.all_eq_true.1 h t hm
end Go.Proofs.YtgkmnalhddmclaaGreatDoor
namespace Go.Proofs.YtgkmnalhddmclaaGreatDoor
open Go.RL Go.Proofs.Tryz
set_option maxRecDepth 10000
set_option maxHeartbeats 4000000
def Ch.lE(c:Ch)(A:Option Addr)(lc:Nat):Value:=.agg ⟨[.int .i64 c.s0,.int .i64 c.s1,.slice A c.n lc,.int .i64 c.a0,.int .i64 c.a1,.int .i64 c.r0,.int .i64 c.r1]⟩
def zB(H:View)(c:Ch)(A:Option Addr)(lc:Nat):Prop:=
 c.n<=lc/\(c.n=0\/∃lb lo f gs gt gz,A=some ⟨lb,lo,none⟩/\H lb=some (f,.cells ⟨gs⟩ gt gz)/\∀i:Nat,i<c.n->SB true 4 gs (lo+i*4)=some (fF (c.x i) (c.y i) (c.z i) (c.u i)))
theorem zB.le {H H':View}{c:Ch}{A:Option Addr}{lc:Nat}(h:zB H c A lc)(k:H.le H'):zB H' c A lc:=by
 obtain⟨h0,h|⟨lb,lo,f,gs,gt,gz,h1,h2,h3⟩⟩:=h
 ·exact⟨h0,.inl h⟩
 ·exact⟨h0,.inr ⟨lb,lo,f,gs,gt,gz,h1,k _ _ h2,h3⟩⟩
def Ch.aI(c:Ch)(i:Nat):Bool:=eE (c.x i) (c.y i)&&yE (c.z i) (c.u i)
def Ch.jI(c:Ch):Bool:=tB c.s0 c.s1&&(tB c.a0 c.a1&&tB c.r0 c.r1)
def Ch.TA(c:Ch):Int:=if 1<=c.n/\c.n<=4 then(if tD c.aI c.n then 0 else 1) else 2
def Ch.nB(c:Ch):Int:=if c.jI then c.TA else 1
theorem CI {p:Nat->Bool}:∀ {k:Nat},tD p k=true<->∀i,i<k->p i=true
 | 0=> by simp[tD]
 | k + 1=> by
  unfold tD;rw[Bool.and_eq_true,CI];constructor
  ·rintro⟨h1,h2⟩ i hi;rcases Nat.lt_succ_iff_lt_or_eq.1 hi with h|rfl
   ·exact h1 i h
   ·exact h2
  ·intro h;exact⟨fun i hi=> h i oM,h k oM⟩
theorem A6(x y z u:Int):(⟨0,0,0,0,x,y,z,u⟩:Lk).bI=(eE x y&&yE z u):=by
 simp[Lk.bI,tD,Lk.S4,Lk.nS,Lk.uS]
section
variable(M:Md prog)(H:View)
theorem YU(ch:Ch)(A:Option Addr)(lc:Nat)(hA:zB H ch A lc):cA M 46 #[.slice A ch.n lc] H (fun v H'=> H.le H'/\v=.int .i64 ch.TA):=by
 refine .en func46 ntmps46 fun St c cs hK=> ?_;by_cases h:1<=ch.n/\ch.n<=4
 ·have sQ:∀H,cA M 85 #[.int .i64 (ch.n:Nat),.int .i64 1,.int .i64 4] H (fun v H'=> H.le H'/\v=.bool true):=fun H=>
   cA.mono (aBK M H _ 1 4) (by rintro v H' ⟨h1,h2⟩;rw[decide_eq_true (show(1:Int)<=(ch.n:Nat)/\((ch.n:Nat):Int)<=4 by omega)] at h2;exact⟨h1,h2⟩)
  obtain⟨hlc,h0|⟨lb,lo,f,gs,gt,gz,rfl,hA1,F5⟩⟩:=hA
  ·omega
  refine U9 ?_;refine .cl (fun H hs=> sQ H) ?_;refine zI ?_;refine Tc.db (Tc.vA (σ:= { j:Nat//j<=ch.n/\tD ch.aI j=true }) (fun j=> ([(0,.slice (some ⟨lb,lo,none⟩) ch.n lc),(3,.int .i64 (j.1:Nat))],[])) (fun j=> ch.n-j.1) ?_ ⟨0,oM,rfl⟩);rintro⟨j,hj,zA⟩ ih;show Tc M St _ _ _ _ [(0,.slice (some ⟨lb,lo,none⟩) ch.n lc),(3,.int .i64 (j:Nat))] [] _ _;by_cases c1:j=ch.n
  ·have e:ch.TA=0:=by unfold Ch.TA;rw[if_pos h,<-c1,if_pos zA]
   subst c1;refine zH ?_;refine .rt hK func46 results46 [_] ?_;exact fun H' hs=> ⟨hs.base,by rw[e];rfl⟩
  ·have c2:j<ch.n:=by omega
   have f1:SB true 4 gs (lo+(j:Int).toNat*4)=some (fF (ch.x j) (ch.y j) (ch.z j) (ch.u j)):=by rw[show(j:Int).toNat=j by simp];exact F5 j c2
   cases hl:ch.aI j with
   | true=>
    refine pH ?_;refine .cl (fun H hs=> cA.mono (pP M H (ch.x j) (ch.y j) (ch.z j) (ch.u j)) (Q':=fun v H'=> H.le H'/\v=.int .i64 0) (by rintro v H' ⟨h1,h2⟩;unfold Ch.aI at hl;rw[hl] at h2;exact⟨h1,h2⟩)) ?_;refine WL ?_;exact Tc.db (ih ⟨j+1,oM,by unfold tD;rw[zA,hl];rfl⟩ (by simp only;omega))
   | false=>
    have e:ch.TA=1:=by
     unfold Ch.TA;rw[if_pos h,if_neg];intro h5;rw[CI.1 h5 j c2] at hl;cases hl
    refine pH ?_;refine .cl (fun H hs=> cA.mono (pP M H (ch.x j) (ch.y j) (ch.z j) (ch.u j)) (Q':=fun v H'=> H.le H'/\v=.int .i64 1) (by rintro v H' ⟨h1,h2⟩;unfold Ch.aI at hl;rw[hl] at h2;exact⟨h1,h2⟩)) ?_;refine aJ ?_;refine .rt hK func46 results46 [_] ?_;exact fun H' hs=> ⟨hs.base,by rw[e];rfl⟩
 ·have e:ch.TA=2:=by unfold Ch.TA;rw[if_neg h]
  have sQ:∀H,cA M 85 #[.int .i64 (ch.n:Nat),.int .i64 1,.int .i64 4] H (fun v H'=> H.le H'/\v=.bool false):=fun H=>
   cA.mono (aBK M H _ 1 4) (by rintro v H' ⟨h1,h2⟩;rw[decide_eq_false (show ¬((1:Int)<=(ch.n:Nat)/\((ch.n:Nat):Int)<=4) by omega)] at h2;exact⟨h1,h2⟩)
  refine U9 ?_;refine .cl (fun H hs=> sQ H) ?_;refine U7 ?_;refine .rt hK func46 results46 [_] ?_;exact fun H' hs=> ⟨hs.base,by rw[e];rfl⟩
theorem jC(a b:Int)(t:Bool)(h:tB a b=t):cA M 45 #[rB a b] H (fun v H'=> H.le H'/\v=.bool t):=
 cA.mono (ZU M H a b) (by rintro v H' ⟨h1,h2⟩;exact⟨h1,h2.trans (congrArg Value.bool h)⟩)
theorem DJ(ch:Ch)(A:Option Addr)(lc:Nat)(hA:zB H ch A lc):cA M 12 #[ch.lE A lc] H (fun v H'=> H.le H'/\v=.int .i64 ch.nB):=by
 refine .en func12 ntmps12 fun St c cs hK=> ?_;cases h1:tB ch.s0 ch.s1 with
 | false=>
  have e:ch.nB=1:=by unfold Ch.nB Ch.jI;rw[h1];rfl
  refine U2 ?_;refine .bo fun b1=> ?_;refine U7 ?_;refine .cl (fun H hs=> jC M H ch.s0 ch.s1 false h1) ?_;refine BV ?_;refine .rt hK func12 results12 [_] ?_;exact fun H' hs=> ⟨hs.base,by rw[e];rfl⟩
 | true=>
  cases h2:tB ch.a0 ch.a1 with
  | false=>
   have e:ch.nB=1:=by unfold Ch.nB Ch.jI;rw[h1,h2];rfl
   refine U2 ?_;refine .bo fun b1=> ?_;refine U7 ?_;refine .cl (fun H hs=> jC M H ch.s0 ch.s1 true h1) ?_;refine U4 ?_;refine .cl (fun H hs=> jC M H ch.a0 ch.a1 false h2) ?_;refine zH ?_;refine .rt hK func12 results12 [_] ?_;exact fun H' hs=> ⟨hs.base,by rw[e];rfl⟩
  | true=>
   cases h3:tB ch.r0 ch.r1 with
   | false=>
    have e:ch.nB=1:=by unfold Ch.nB Ch.jI;rw[h1,h2,h3];rfl
    refine U2 ?_;refine .bo fun b1=> ?_;refine U7 ?_;refine .cl (fun H hs=> jC M H ch.s0 ch.s1 true h1) ?_;refine U4 ?_;refine .cl (fun H hs=> jC M H ch.a0 ch.a1 true h2) ?_;refine U5 ?_;refine .cl (fun H hs=> jC M H ch.r0 ch.r1 false h3) ?_;refine U8 ?_;refine .rt hK func12 results12 [_] ?_;exact fun H' hs=> ⟨hs.base,by rw[e];rfl⟩
   | true=>
    have e:ch.nB=ch.TA:=by unfold Ch.nB Ch.jI;rw[h1,h2,h3];rfl
    refine U2 ?_;refine .bo fun b1=> ?_;refine U7 ?_;refine .cl (fun H hs=> jC M H ch.s0 ch.s1 true h1) ?_;refine U4 ?_;refine .cl (fun H hs=> jC M H ch.a0 ch.a1 true h2) ?_;refine U5 ?_;refine .cl (fun H hs=> jC M H ch.r0 ch.r1 true h3) ?_;refine U9 ?_;refine .cl (fun H hs=> YU M H ch A lc (hA.le hs.base)) ?_;refine U2 ?_;refine .rt hK func12 results12 [_] ?_;exact fun H' hs=> ⟨hs.base,by rw[e];rfl⟩
end
end Go.Proofs.YtgkmnalhddmclaaGreatDoor
