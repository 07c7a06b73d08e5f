/-
 Texts of the proofs over baudot/dial.
-/
import Derived.Test.YtldmfjcgjdchcaaGreatDoorJ08
import Derived.Test.YtldmfjcgjdchcaaGreatDoorTie
import Derived.Test.YtldmfjcgjdchcaaGreatDoorCards
import Derived.ProofKit
import Derived.LaidMore
import Derived.LaidHandle
import Derived.LaidSub
import Derived.Lay
import Derived.Laws.IdiomArrays
import Derived.Conc.LeavingOf
import Derived.SevenTiedAt
import Derived.Deep.Slices
section
namespace Go.RL
open Go.Conc Go.ConcN Go.RL.Au
open Go.ConcR (stA smA)
open Go.ConcM (muA OsLater)
attribute [local irreducible] mu
section
variable {P:Program}{X:Fk}{Fin:Goroutine->Prop}{B:View}{base:Nat}{os0:M1}{gs:Array Goroutine}{w:World}{t:Trace}{ths:List Th}{m:Mn}{s:Sh}{H:Nat->View}{ks:Nat->Nat}{rks:List TB}{q:Nat->Nat}{D:Nat->Bool}
variable {sl:Option (Nat×Nat)}
theorem PI.uX(h:PI P X Fin B base os0 gs w t ths m s H ks rks q D){i:Nat}{g:Goroutine}(h0:0<i)(MZ:i<base)(hg:gs[i]? =some g)(hr:g.status=.running):
  Goes P X Fin B base os0 (PI.meas X gs ths m s rks q) w t gs (runT P (crowd gs w sl) i):=by
 have hN:i<gs.size:=(Array.getElem?_eq_some_iff.1 hg).1;have cX:(i==0)=false:=by simp;omega
 obtain⟨g₁,h1,hq⟩:=h.si.nK i h0 MZ;rw[hg] at h1;cases h1
 cases hqq:q i with
 | zero=> rw[hqq] at hq;rw[hq.1] at hr;cases hr
 | succ q'=>
  rw[hqq] at hq;rcases hq with ⟨hf,_⟩|⟨_,g',es,AN,eC,GY⟩
  ·rw[hf] at hr;cases hr
  ·have tO:=h.wt.leave (i:=i) (fn:=g.frame.fn) (pos:=g.frame.place) h0 hN AN fun κ' T' OC e=> by omega
   have JY:=h.si.uX (w':=w) (g:=g) (g':=g') (q':=q') (df':=Deaf (t++MemOp.ofEvents i g.frame.fn g.frame.place es)) h.pos h0 MZ (FF ofEvents_g) (by rw[Deaf_own];exact GY);refine .inl ⟨rD P gs i g g' w,w,sl,_,ths,m,s,H,ks,rks,upd q i q',D,runT_crowd_go hg (by rw[cX];exact eC w),⟨h.inv,h.b1,h.ne,h.dd,by rw[LA];exact h.depth,by rw[LA];exact tO,JY⟩,?_⟩;unfold PI.meas;rw[LA];refine aCm ?_;have:=sumTo_upd (f:=q) q' (fun a=> a) (i:=i) (j:=gs.size) hN;have e:sumTo gs.size (fun a=> upd q i q' a)=sumTo gs.size (upd q i q'):=rfl;have e2:sumTo gs.size (fun a=> q a)=sumTo gs.size q:=rfl;omega
theorem PI.m6(h:PI P X Fin B base os0 gs w t ths m s H ks rks q D){k:Nat}{m':Mn}{s':Sh}{g g':Goroutine}{w':World}{es:Array Event}(hg:gs[0]? =some g)(hk:ks 0=k+1)
  (hm:(m',s')∈m.mv s) (eC:stepG P true g w=.go g' w' es) (tO:WT X B base gs.size os0 w' (t++MemOp.ofEvents 0 g.frame.fn g.frame.place es) ths m' s' H D)
  (hs:T (Mw P true X.ok) (MS P X Fin k m' ths.length) (H 0) g'):
  Goes P X Fin B base os0 (PI.meas X gs ths m s rks q) w t gs (runT P (crowd gs w sl) 0):=by
 have hb:=h.b1;have AN:=aAt h.inv hm;have xL:=h.depth 0 (.inl rfl);rw[hk] at xL;obtain⟨ρ',N5⟩:=hs.GX;have JY:=h.si.YL (w':=w') (g:=g) (g':=g') (m':=m') (H':=H 0) (k':=k) (ρ':=ρ') (s':=s') (df':=Deaf (t++MemOp.ofEvents 0 g.frame.fn g.frame.place es)) hb h.pos (FF ofEvents_g) (.walk N5);rw[BJ] at JY;refine .inl ⟨rD P gs 0 g g' w',w',sl,_,ths,m',s',H,_,_,q,D,runT_crowd_go hg eC,⟨h.inv.main hm,hb,h.ne,h.dd,fun j hj=> ?_,?_,JY⟩,X5 AN⟩
 ·rw[LA] at hj;by_cases e:j=0
  ·subst e;rw[upd_same];omega
  ·rw[upd_ne _ _ e];exact Nat.lt_trans AN (h.depth j hj)
 ·rw[LA];exact tO
theorem rU {gs:Array Goroutine}{g' ch x:Goroutine}{j:Nat}(hj:gs[j]? =some x)(h0:j≠0):((gs.setIfInBounds 0 g').push ch)[j]? =some x:=by
 have NB:=(Array.getElem?_eq_some_iff.1 hj).1;rw[Array.getElem?_push];simp only[Array.size_setIfInBounds];rw[if_neg oM,Array.getElem?_setIfInBounds_ne (Ne.symm h0),hj]
theorem PI.aET(h:PI P X Fin B base os0 gs w t ths .go s H ks rks q D){k:Nat}{m':Mn}{g g' ch:Goroutine}(hg:gs[0]? =some g)(hk:ks 0=k+1)(hinv:Inv X.n (ths++[.pw]) m' s)(AN:mu X.n (ths++[.pw]) m' s<mu X.n ths .go s)(hd:m'.deaf=0)
  (eC:stepG P true g w=.spawn g' ch w #[]) (hT:T (Mw P true X.ok) (MS P X Fin k m' (ths.length+1)) (ro (H 0)) g') (hC:T (Mw P false X.ok) (WS P X ths.length k .pw) (ro (H 0)) ch):
  Goes P X Fin B base os0 (PI.meas X gs ths .go s rks q) w t gs (runT P (crowd gs w sl) 0):=by
 have hN:0<gs.size:=(Array.getElem?_eq_some_iff.1 hg).1;have hb:=h.b1;have xL:=h.depth 0 (.inl rfl);have IE:=h.si.size;obtain⟨x,hx⟩:∃x:MemOp,x= { g:=0,fn:=g.frame.fn,pos:=g.frame.place,act:=.go gs.size }:=⟨_,rfl⟩
 obtain⟨y,hy⟩:∃y:MemOp,y= { g:=gs.size,fn:=ch.frame.fn,pos:=g.frame.place,act:=.start }:=⟨_,rfl⟩
 have dO:x.g=0/\x.act=.go gs.size:=by rw[hx];exact⟨rfl,rfl⟩
 have hy':y.g=gs.size/\y.act=.start:=by rw[hy];exact⟨rfl,rfl⟩
 have tO:=h.wt.fork (m':=m') hb IE hd dO hy';have aBf:=runT_crowd_spawn (P:=P) (sl:=sl) hg eC;have MU:((MemOp.ofEvents 0 g.frame.fn g.frame.place #[]).push { g:=0,fn:=g.frame.fn,pos:=g.frame.place,act:=.go gs.size } |>.push { g:=gs.size,fn:=ch.frame.fn,pos:=g.frame.place,act:=.start })=#[x,y]:=by
  rw[hx,hy];simp[MemOp.ofEvents]
 rw[MU] at aBf;rw[hk] at xL;obtain⟨ρm,aGx⟩:=hT.GX;obtain⟨ρc,aGw⟩:=hC.GX;have aAh:((gs.setIfInBounds 0 g').push ch).size=gs.size+1:=by simp
 have xI:∀j,Deaf (t ++ #[x,y]) j=Deaf t j:=fun j=> Deaf_still t j _ fun op qA=> by
  simp only[List.mem_toArray,List.mem_cons,List.not_mem_nil,or_false] at qA;rcases qA with rfl|rfl
  ·rw[dO.2];simp
  ·rw[hy'.2];simp
 have aEM:EO P X Fin base ((gs.setIfInBounds 0 g').push ch) (Deaf (t ++ #[x,y])) (ths++[.pw]) m' s (upd (upd H 0 (ro (H 0))) gs.size (ro (H 0))) (upd (upd ks 0 k) gs.size k) ((rks.set 0 ρm)++[ρc]) q:=by
  refine⟨by rw[aAh,List.length_append];simp;omega,by rw[aAh,List.length_append,List.length_set,h.si.T1];simp,⟨g',ρm,?_,?_,?_⟩,fun κ T hκ=> ?_,fun i h0 MZ=> ?_⟩
  ·rw[Array.getElem?_push];simp only[Array.size_setIfInBounds];rw[if_neg oM];simp[hN]
  ·rw[List.getElem?_append_left (by rw[List.length_set,h.si.T1];exact hN),List.getElem?_set_self (by rw[h.si.T1];exact hN)]
  ·rw[upd_ne _ _ oM,upd_same,upd_ne _ _ oM,upd_same];rw[List.length_append];exact .walk aGx
  ·rw[List.getElem?_append] at hκ;split at hκ
   ·obtain⟨g0,ρ0,h3,h4,h5⟩:=h.si.work κ T hκ;have uB:base+κ≠gs.size:=by omega
    refine⟨g0,ρ0,rU h3 oM,?_,?_⟩
    ·have hl:=(List.getElem?_eq_some_iff.1 h4).1;rw[List.getElem?_append_left (by rw[List.length_set];exact hl),List.getElem?_set_ne oM];exact h4
    ·rw[upd_ne _ _ uB,upd_ne _ _ oM,upd_ne _ _ uB,upd_ne _ _ oM,xI];exact h5
   ·cases hz:κ-ths.length with
    | succ z=> rw[hz] at hκ;cases hκ
    | zero=>
     rw[hz] at hκ;cases hκ
     have he:base+κ=gs.size:=by omega
     refine⟨ch,ρc,?_,?_,?_⟩
     ·rw[he,Array.getElem?_push];simp
     ·rw[he,List.getElem?_append_right (by rw[List.length_set,h.si.T1];omega),List.length_set,h.si.T1];simp
     ·rw[he,upd_same,upd_same];have:κ=ths.length:=by omega
      subst this;exact .walk rfl aGw
  ·obtain⟨g0,h3,h4⟩:=h.si.nK i h0 MZ;exact⟨g0,rU h3 oM,by rw[xI];exact h4⟩
 refine .inl ⟨(gs.setIfInBounds 0 g').push ch,w,sl,#[x,y],ths++[.pw],m',s,upd (upd H 0 (ro (H 0))) gs.size (ro (H 0)),upd (upd ks 0 k) gs.size k,(rks.set 0 ρm)++[ρc],q,D,aBf,⟨hinv,hb,h.ne,fun κ=> ?_,fun j hj=> ?_,by rw[aAh];exact tO,aEM⟩,X5 AN⟩
 ·rw[h.dd κ,List.getElem?_append];split
  ·rfl
  ·rename_i YV
   rw[List.getElem?_eq_none oM];cases hz:κ-ths.length with
   | zero=> rfl
   | succ z=> rfl
 ·rw[aAh] at hj;by_cases e:j=gs.size
  ·subst e;rw[upd_same];exact Nat.lt_of_lt_of_le AN (Nat.le_of_lt_succ xL)
  ·rw[upd_ne _ _ e];by_cases e0:j=0
   ·subst e0;rw[upd_same];exact Nat.lt_of_lt_of_le AN (Nat.le_of_lt_succ xL)
   ·rw[upd_ne _ _ e0];exact Nat.lt_trans AN (h.depth j (hj.imp id fun⟨h1,h2⟩=> ⟨h1,oM⟩))
theorem PI.C7(h:PI P X Fin B base os0 gs w t ths m s H ks rks q D){k:Nat}{g:Goroutine}{ρ:TB}(hg:gs[0]? =some g)(hr:g.status=.running)(hk:ks 0=k+1)(h2:rks[0]? =some ρ)(hρ:ρ=.stop)
  (hs:MS P X Fin (k+1) m ths.length (H 0) g):
  Goes P X Fin B base os0 (PI.meas X gs ths m s rks q) w t gs (runT P (crowd gs w sl) 0):=by
 have hN:0<gs.size:=(Array.getElem?_eq_some_iff.1 hg).1;have hb:=h.b1;obtain⟨kH,go,kr,wm,aq,rt,pl⟩:=hs;have JK:=h.wt.vi.sat 0;have xL:=h.depth 0 (.inl rfl);cases hp:m.plain with
 | true=>
  obtain⟨dC,gK⟩:=h.inv.mok;rcases pl hp w s JK h.wt.sh dC gK with ⟨IM,eC⟩|⟨m',s',g',w',es,hm,eC,htu,hqe,hq3⟩
  ·obtain⟨rfl,hQ⟩:=aCp hp IM;have hrk:rks.set 0 .stop=rks:=by
    apply List.ext_getElem?
    intro j;by_cases e:0=j
    ·subst e;rw[List.getElem?_set_self (by rw[h.si.T1];exact hN),h2,hρ]
    ·rw[List.getElem?_set_ne e]
   have JY:=h.si.YL (w':=w) (g:=g) (g':= { g with status:=.blocked }) (m':=.ws) (H':=H 0) (k':=k+1) (ρ':=.stop) (s':=s) (df':=Deaf t) hb h.pos (fun _ _=> rfl) (.wait g ⟨rfl,hQ,rfl⟩ rfl ⟨kH,go,kr,wm,aq,rt,pl⟩);rw[hrk,BJ,show upd ks 0 (k+1)=ks by rw[<-hk];exact BJ _ _] at JY;refine .inl ⟨rD P gs 0 g { g with status:=.blocked } w,w,sl,_,ths,.ws,s,H,ks,rks,q,D,runT_crowd_go hg eC,⟨h.inv,hb,h.ne,h.dd,by rw[LA];exact h.depth,?_,?_⟩,?_⟩
   ·rw[LA];simpa [MemOp.ofEvents] using h.wt
   ·simpa [MemOp.ofEvents] using JY
   ·unfold PI.meas;rw[LA];exact aCn (MX hg hr rfl)
  ·exact h.m6 hg hk hm eC (h.wt.C7 h.ne hb hN htu hqe) hq3
 | false=>
  have xU:m=.kr\/m=.go\/m=.wm\/m=.aq\/m=.ret:=by cases m <;> simp[Mn.plain] at hp <;> simp
  rcases xU with rfl|rfl|rfl|rfl|rfl
  ·obtain⟨g',eC,hT⟩:=kr rfl w JK;exact h.m6 hg hk (m':=.ke) (s':=s) (by simp[Mn.mv]) eC (h.wt.said h.ne hb hN (.inl rfl) rfl) hT
  ·obtain⟨g',ch,eC,hT,hC⟩:=go rfl w JK;exact h.aET hg hk (h.inv.fork) (aAs h.inv (by split <;> simp[Mn.wt])) (by split <;> rfl) eC hT hC
  ·obtain⟨g',eC,hT⟩:=wm rfl w JK;exact h.m6 hg hk (m':=.ws) (s':=s) (by simp[Mn.mv]) eC (h.wt.said h.ne hb hN (.inr rfl) rfl) hT
  ·obtain⟨g',eC,hF⟩:=aq rfl w JK;exact .inr ⟨_,sl,g,g',ths,s,H,ks,rks,q,D,hg,runT_crowd_go hg eC,rfl,hF,h⟩
  ·exact(rt rfl).elim
theorem PI.YL(h:PI P X Fin B base os0 gs w t ths m s H ks rks q D){g:Goroutine}(hg:gs[0]? =some g)(hr:g.status=.running):
  Goes P X Fin B base os0 (PI.meas X gs ths m s rks q) w t gs (runT P (crowd gs w sl) 0):=by
 have hN:0<gs.size:=(Array.getElem?_eq_some_iff.1 hg).1;have hb:=h.b1;obtain⟨g₁,ρ,h1,h2,LK⟩:=h.si.main;rw[hg] at h1;cases h1
 have hkp:=h.pos 0 (.inl rfl);obtain⟨k,hk⟩:∃k,ks 0=k+1:=⟨ks 0-1,oM⟩
 have xL:=h.depth 0 (.inl rfl);rw[hk] at LK xL;cases LK with
 | wait g₀ hT hgg hw=> rw[hgg] at hr;cases hr
 | walk hgo=>
  cases ρ with
  | stop=> exact h.C7 hg hr hk h2 rfl hgo
  | phase f=> obtain⟨_,hp,_⟩:=hgo;exact hp.elim
  | step f=>
   obtain⟨_,eC⟩:=hgo;obtain⟨g',w',es,H',h3,h4,h5⟩:=eC w (h.wt.vi.sat _) ⟨h.wt.cb,_,h.wt.sh⟩;have tO:=h.wt.walk (i:=0) (fn:=g.frame.fn) (pos:=g.frame.place) h.ne (.inl rfl) hN h4 fun κ' T' OC e=> by omega
   have JY:=h.si.YL (w':=w') (g:=g) (g':=g') (m':=m) (H':=H') (k':=k+1) (ρ':=f w) (s':=s) (df':=Deaf (t++MemOp.ofEvents 0 g.frame.fn g.frame.place es)) hb h.pos (FF ofEvents_g) (.walk h5);refine .inl ⟨rD P gs 0 g g' w',w',sl,_,ths,m,s,upd H 0 H',upd ks 0 (k+1),rks.set 0 (f w),q,D,runT_crowd_go hg h3,⟨h.inv,hb,h.ne,h.dd,fun j hj=> ?_,by rw[LA];exact tO,JY⟩,Y5 (fY.set h2 (.step f w))⟩;rw[LA] at hj;by_cases e:j=0
   ·subst e;rw[upd_same];exact xL
   ·rw[upd_ne _ _ e];exact h.depth j hj
theorem PI.aAN(h:PI P X Fin B base os0 gs w t ths m s H ks rks q D):∃(i:Nat) (g:Goroutine),gs[i]? =some g/\g.status=.running:=by
 refine Classical.byContradiction fun YC=> ?_;have hnr:∀(i:Nat) g,gs[i]? =some g->g.status≠ .running:=fun i g hi hr=> YC ⟨i,g,hi,hr⟩;obtain⟨g,ρ,h1,h2,LK⟩:=h.si.main;have hkp:=h.pos 0 (.inl rfl);obtain⟨k,hk⟩:∃k,ks 0=k+1:=⟨ks 0-1,oM⟩
 rw[hk] at LK;cases LK with
 | walk hgo=> exact hnr 0 g h1 (hgo.run (fun _ _ _ h=> h) fun _ _ h=> h.1.1)
 | wait g₀ hT hgg hw=>
  obtain⟨rfl,hq0,_⟩:=hT;obtain⟨κ,T,hκ,hT⟩:=h.inv.live (by simp) (by simp) (by simp[Mn.mv,hq0]);obtain⟨g',ρ',h3,h4,hs'⟩:=h.si.work κ T hκ;have hN:=(Array.getElem?_eq_some_iff.1 h3).1;have aG3:=h.pos (base+κ) (.inr ⟨oM,hN⟩);obtain⟨k',hk'⟩:∃k,ks (base+κ)=k+1:=⟨ks (base+κ)-1,oM⟩
  rw[hk'] at hs';cases hs' with
  | quit hT' _=> subst hT';exact hT rfl
  | quiet n hT' hρ hgo=> exact hnr _ g' h3 (hgo.run fun _ h=> h.1.1)
  | walk hT' hgo=> exact hnr _ g' h3 (hgo.run (fun _ _ _ h=> h) fun _ _ h=> h.1.1)
theorem PI.awake(h:PI P X Fin B base os0 gs w t ths m s H ks rks q D):∀g∈gs,awake g:=by
 intro g hg tm;obtain⟨i,hi,rfl⟩:=Array.mem_iff_getElem.1 hg;have ZN:=Array.getElem?_eq_getElem hi;have key:gs[i].status=.running\/gs[i].status=.finished\/gs[i].status=.blocked:=by
  by_cases e0:i=0
  ·subst e0;obtain⟨g,ρ,h1,h2,LK⟩:=h.si.main;have hkp:=h.pos 0 (.inl rfl);obtain⟨k,hk⟩:∃k,ks 0=k+1:=⟨ks 0-1,oM⟩
   rw[hk] at LK;rw[h1] at ZN;cases ZN
   exact LK.status.imp id .inr
  ·rcases Nat.lt_or_ge i base with NB|YV
   ·obtain⟨g,h1,hq⟩:=h.si.nK i oM NB;rw[h1] at ZN;cases ZN
    exact hq.status.imp id .inl
   ·have IE:=h.si.size;obtain⟨T,hT⟩:∃T,ths[i-base]? =some T:=⟨_,List.getElem?_eq_getElem oM⟩
    obtain⟨g,ρ,h1,h2,LK⟩:=h.si.work _ T hT;rw[show base+(i-base)=i by omega] at h1 LK;have hkp:=h.pos i (.inr ⟨YV,hi⟩);obtain⟨k,hk⟩:∃k,ks i=k+1:=⟨ks i-1,oM⟩
    rw[hk] at LK;rw[h1] at ZN;cases ZN
    exact LK.status.imp id .inl
 rcases key with e|e|e <;> rw[e] <;> simp
theorem PI.step(h:PI P X Fin B base os0 gs w t ths m s H ks rks q D):∃d,Goes P X Fin B base os0 (PI.meas X gs ths m s rks q) (w.at d) t gs (stepT P (crowd gs w sl)):=by
 obtain⟨i,g,d,sl',hg,kH,gR⟩:=crowd_pick (P:=P) (w:=w) (sl:=sl) h.awake h.aAN;rw[gR];refine⟨d,?_⟩;have h':=h.at d;by_cases e0:i=0
 ·subst e0;exact h'.YL hg kH
 ·rcases Nat.lt_or_ge i base with NB|YV
  ·exact h'.uX oM NB hg kH
  ·have IE:=h.si.size;have hN:=(Array.getElem?_eq_some_iff.1 hg).1;obtain⟨T,hT⟩:∃T,ths[i-base]? =some T:=⟨_,List.getElem?_eq_getElem oM⟩
   have:=h'.worker (sl:=sl') hT (g:=g) (by rw[show base+(i-base)=i by omega];exact hg) kH
   rwa [show base+(i-base)=i by omega] at this
end
end Go.RL
end
section
namespace Go.RL
open Go.Conc Go.ConcN Go.RL.Au
open Go.ConcR (stA smA)
open Go.ConcM (muA OsLater)
attribute [local irreducible] mu
structure AI(P:Program)(H:View)(os0:M1)(gs:Array Goroutine)(w:World)(t:Trace)(q:Nat->Nat):Prop where
 pos:0<gs.size
 sat:Sat H w
 nr:∀said,¬Race said t
 kn:∀i a,touchAt t i=some a->a.kind=.plain->Knows t 0 i
 np:∀i a b,touchAt t i=some a->a.kind≠ .plain->lb a.loc=some b->H b=none
 B0:∀(i:Nat) op a,t[i]? =some op->op.act.touch? =some a->a.kind≠ .plain->(a.kind=.said->op.g=0)/\(a.kind=.atomic->op.g≠0->¬t.heard i)
 bd:∀i a b,touchAt t i=some a->lb a.loc=some b->b<w.heap.size
 rel:∀a,NoRelease a t
 gb:∀(i:Nat) op,t[i]? =some op->op.g<gs.size
 mem:∀i a,touchAt t i=some a->∃b,lb a.loc=some b
 WV:Deaf t 0=0
 nK:∀i,0<i->i<gs.size->∃g,gs[i]? =some g/\QuitsD P (q i) (Deaf t i) g
 os:cY os0 w
section
variable {P:Program}{H:View}{os0:M1}{gs:Array Goroutine}{w w':World}{t:Trace}{q:Nat->Nat}
theorem AI.at(h:AI P H os0 gs w t q)(d:Nat):AI P H os0 gs (w.at d) t q:=⟨h.pos,h.sat,h.nr,h.kn,h.np,h.B0,h.bd,h.rel,h.gb,h.mem,h.WV,h.nK,h.os⟩
theorem AI.walk(h:AI P H os0 gs w t q){g g':Goroutine}{H':View}{es:Array Event}{fn:FuncId}{pos:String}(ht:Trans H w H' w' es):AI P H' os0 (rD P gs 0 g g' w') w' (t++MemOp.ofEvents 0 fn pos es) q:=by
 obtain⟨qA,xI⟩:=sY (X:=⟨0,0,0,0,fun _ _=> True⟩) (g:=0) (fn:=fn) (pos:=pos) (t:=t) ht.ev;have hd:∀j,Deaf (t++MemOp.ofEvents 0 fn pos es) j=Deaf t j:=fun j=> Deaf_still t j _ xI;have eP:∀op∈MemOp.ofEvents 0 fn pos es,∀x,op.act.touch? =some x->x.kind=.plain/\∃b f o,lb x.loc=some b/\H' b=some (f,o):=by
  rw[ofEvents_eq];intro op uE x hx;obtain⟨e,he,rfl⟩:=Array.mem_map.1 uE;have hk:=ht.ev e he;obtain⟨loc,wr,sy⟩:=e;unfold mM at hk;cases loc with
  | cell a=>
   obtain⟨hs,f,o,h1,h2⟩:=hk;simp only at hs;subst hs;cases wr <;> simp[MemAct.ofEvent,MemAct.touch?] at hx <;> subst hx <;> exact⟨rfl,_,f,o,rfl,h1⟩
  | obj r=>
   obtain⟨hs,f,o,h1,h2⟩:=hk;simp only at hs;subst hs;cases wr <;> simp[MemAct.ofEvent,MemAct.touch?] at hx <;> subst hx <;> exact⟨rfl,_,f,o,rfl,h1⟩
  | mark m=>
   cases m <;> first
    | (simp[OS] at hk;done)
    | simp[MemAct.ofEvent,MemAct.touch?] at hx
  | _=> exact hk.elim
 have old:∀i a b f o,touchAt t i=some a->lb a.loc=some b->H' b=some (f,o)->∃o',H b=some (f,o'):=by
  intro i a b f o ha hb hx;rcases ht.ext b f o hx with h1|⟨_,hle⟩
  ·exact h1
  ·have:=h.bd i a b ha hb;omega
 have npk:∀i a b,touchAt t i=some a->a.kind≠ .plain->lb a.loc=some b->H' b=none:=fun i a b ha hk hb=> by
  cases hx:H' b with
  | none=> rfl
  | some x=>
   obtain⟨o',h4⟩:=old i a b x.1 x.2 ha hb hx;rw[h.np i a b ha hk hb] at h4;cases h4
 refine⟨by rw[LA];exact h.pos,ht.sat,fun said=> ?_,fun i a ha hk=> ?_,fun i a b ha hk hb=> ?_,fun i op a B5 ha hk=> ?_,fun i a b ha hb=> ?_,fun a=> (h.rel a).app fun op uE=> qA.rel op uE a,fun i op B5=> ?_,fun i a ha=> ?_,by rw[hd];exact h.WV,fun i h0 hi=> ?_,h.os.trans ⟨ht.os,ht.out⟩⟩
 ·refine noRace_append (h.nr said) qA.own fun i a ha op uE b hb hc=> ?_;obtain⟨yS,yD,_,_⟩:=hc;obtain⟨_,blk,f,o,h1,h2⟩:=eP op uE b hb;refine h.kn i a ha (Classical.byContradiction fun uB=> ?_);rw[npk i a blk ha uB (by rw[yS];exact h1)] at h2;cases h2
 ·rcases EB ha with ⟨hi,wH⟩|⟨hi,op,uE,eE,hx⟩
  ·exact(h.kn i a wH hk).app _
  ·have:=knows_own eE
   rwa [qA.own op uE] at this
 ·rcases EB ha with ⟨hi,wH⟩|⟨hi,op,uE,eE,hx⟩
  ·exact npk i a b wH hk hb
  ·exact absurd (eP op uE a hx).1 hk
 ·rcases getElem?_append_cases B5 with ⟨hi,eE⟩|⟨hi,gD⟩
  ·obtain⟨h1,h2⟩:=h.B0 i op a eE ha hk;exact⟨h1,fun e e'=> by rw[heard_old hi];exact h2 e e'⟩
  ·exact absurd (eP op gD a ha).1 hk
 ·rcases EB ha with ⟨hi,wH⟩|⟨hi,op,uE,eE,hx⟩
  ·exact Nat.lt_of_lt_of_le (h.bd i a b wH hb) ht.size
  ·obtain⟨_,b',f,o,h1,h2⟩:=eP op uE a hx;rw[h1] at hb;cases hb
   exact ht.sat.lt h2
 ·rw[LA];rcases getElem?_append_cases B5 with ⟨hi,eE⟩|⟨hi,gD⟩
  ·exact h.gb i op eE
  ·rw[qA.own op gD];exact h.pos
 ·rcases EB ha with ⟨hi,wH⟩|⟨hi,op,uE,eE,hx⟩
  ·exact h.mem i a wH
  ·obtain⟨_,b',f,o,h1,h2⟩:=eP op uE a hx;exact⟨b',h1⟩
 ·rw[LA] at hi;obtain⟨g0,h1,h2⟩:=h.nK i h0 hi;exact⟨_,JB oM h1,by rw[hd,woken_quitsD h2];exact h2⟩
theorem AI.leave(h:AI P H os0 gs w t q){i q':Nat}{g g':Goroutine}{es:Array Event}{fn:FuncId}{pos:String}(h0:0<i)(hi:i<gs.size)(hm:∀e∈es,e.mute=true)(hq:QuitsD P q' (deafBehind (Deaf t i) es) g'):AI P H os0 (rD P gs i g g' w) w (t++MemOp.ofEvents i fn pos es) (upd q i q'):=by
 have ho:=cV (g:=i) (fn:=fn) (pos:=pos) hm;have cO:∀op∈MemOp.ofEvents i fn pos es,op.g=i:=fun op qA=> (ho op qA).1;have old:∀ {j:Nat} {a:Touch},touchAt (t++MemOp.ofEvents i fn pos es) j=some a->touchAt t j=some a:=by
  intro j a ha;rcases EB ha with ⟨_,wH⟩|⟨_,op,qA,_,hxx⟩
  ·exact wH
  ·rw[(ho op qA).2.1] at hxx;cases hxx
 refine⟨by rw[LA];exact h.pos,h.sat,fun said=> noRace_append (h.nr said) cO fun j a _ op qA b hb _=> (by rw[(ho op qA).2.1] at hb;cases hb),fun j a ha hk=> (h.kn j a (old ha) hk).app _,fun j a b ha hk hb=> h.np j a b (old ha) hk hb,fun j op a aB5 ha hk=> ?_,fun j a b ha hb=> h.bd j a b (old ha) hb,fun a=> (h.rel a).app fun op qA=> (ho op qA).2.2 a,fun j op aB5=> ?_,fun j a ha=> h.mem j a (old ha),?_,fun j h0' hj=> ?_,h.os⟩
 ·rcases getElem?_append_cases aB5 with ⟨hl,eE⟩|⟨hl,gD⟩
  ·obtain⟨h1,h2⟩:=h.B0 j op a eE ha hk;exact⟨h1,fun e e'=> by rw[heard_old hl];exact h2 e e'⟩
  ·rw[(ho op gD).2.1] at ha;cases ha
 ·rw[LA];rcases getElem?_append_cases aB5 with ⟨hl,eE⟩|⟨hl,gD⟩
  ·exact h.gb j op eE
  ·rw[cO op gD];exact hi
 ·rw[Deaf_other t (g:=0) (g':=i) oM _ cO];exact h.WV
 ·rw[LA] at hj;by_cases e:j=i
  ·subst e;exact⟨g',uF hj,by rw[upd_same,Deaf_own];exact hq⟩
  ·obtain⟨g0,h1,h2⟩:=h.nK j h0' hj;exact⟨_,JB e h1,by rw[upd_ne _ _ e,Deaf_other t (g:=j) (g':=i) (Ne.symm e) _ cO,woken_quitsD h2];exact h2⟩
theorem AI.begin {X:Fk}{Fin:Goroutine->Prop}{H₁ F:View}{o:Obj}{g:Goroutine}(hn6:X.n<=6)(ne:X.Wg≠X.C)(dJ:H₁ X.Wg=none/\H₁ X.C=none)
  (hd:Dj ((H₁.put X.C (true,o)).put X.Wg (true,X.RV ⟨0,0,0⟩)) F) (h:AI P (((H₁.put X.C (true,o)).put X.Wg (true,X.RV ⟨0,0,0⟩)).plus F) os0 gs w t q)
  (hG:X.GI (fun _=> false) o) (hg:gs[0]? =some g) (hT:∀k,T (Mw P true X.ok) (MS P X Fin k (if 0<X.n then .kd else .wd) 0) (ro H₁) g):
  ∃s H ks rks D,PI P X Fin (H₁.plus F) gs.size os0 gs w t [] (if 0<X.n then .kd else .wd) s H ks rks q D:=by
 obtain⟨ρ,hρ⟩:=(hT (mu X.n [] (if 0<X.n then .kd else .wd) ⟨0,0,0⟩+1)).GX;have hWg:((H₁.put X.C (true,o)).put X.Wg (true,X.RV ⟨0,0,0⟩)) X.Wg=some (true,X.RV ⟨0,0,0⟩):=View.bB ..;have hC:((H₁.put X.C (true,o)).put X.Wg (true,X.RV ⟨0,0,0⟩)) X.C=some (true,o):=by rw[View.GA _ _ (Ne.symm ne),View.bB]
 have hH:∀b x,H₁ b=some x->((H₁.put X.C (true,o)).put X.Wg (true,X.RV ⟨0,0,0⟩)) b=some x:=fun b x hb=> by
  rw[View.GA,View.GA]
  ·exact hb
  ·rintro rfl;rw[dJ.2] at hb;cases hb
  ·rintro rfl;rw[dJ.1] at hb;cases hb
 generalize ((H₁.put X.C (true,o)).put X.Wg (true,X.RV ⟨0,0,0⟩))=HH at hd h hWg hC hH;have hFn:F X.Wg=none/\F X.C=none:=⟨hd.none hWg,hd.none hC⟩
 have hB:∀b x,(H₁.plus F) b=some x->(HH.plus F) b=some x:=fun b x hb=> by
  unfold View.plus at hb;split at hb
  ·rename_i y hy
   cases hb
   exact SA (hH b _ hy)
  ·rw[BB (hd b x hb)];exact hb
 have hBn:∀b,(HH.plus F) b=none->(H₁.plus F) b=none:=fun b hb=> by
  cases hx:(H₁.plus F) b with
  | none=> rfl
  | some x=> rw[hB b x hx] at hb;cases hb
 have hV:∀j b,upd (fun _=> fun _=> none) 0 (ro H₁) j b=if j=0 then ro H₁ b else none:=fun j b=> by
  by_cases e:j=0
  ·subst e;rw[upd_same,if_pos rfl]
  ·rw[upd_ne _ _ e,if_neg e]
 have J8:∀b f o',ro H₁ b=some (f,o')->∃f',(HH.plus F) b=some (f',o'):=fun b f o' hb=> by
  obtain⟨_,f',h1⟩:=jE hb;exact⟨f',SA (hH b _ h1)⟩
 have ZO:∀j,Act gs.size gs.size j->j=0:=fun j hj=> hj.elim id fun⟨h1,h2⟩=> by omega
 refine⟨⟨0,0,0⟩,upd (fun _=> fun _=> none) 0 (ro H₁),fun _=> mu X.n [] (if 0<X.n then .kd else .wd) ⟨0,0,0⟩+1,ρ::List.replicate (gs.size-1) .stop,fun _=> false,Inv.start hn6,h.pos,ne,fun κ=> rfl,fun _ _=> Nat.lt_succ_self _,⟨⟨?_⟩,?_,⟨fun j b f o' hb=> ?_,fun i j aO b o' hi=> ?_,fun j=> ?_,fun b f o' hb=> ?_,fun j b x o' _ hj=> ?_,?_⟩,fun j hj b=> ?_,?_,⟨⟨o,?_,hG⟩,fun j=> ?_,fun i op a qA ha hb=> ?_⟩,fun κ T hκ=> ?_,h.WV.trans (by split <;> rfl),fun κ T hκ=> ?_,h.os⟩,⟨rfl,?_,⟨g,ρ,hg,rfl,?_⟩,fun κ T hκ=> ?_,h.nK⟩⟩
 ·exact h.sat _ _ _ (SA hWg)
 ·exact h.sat.lt (SA hC)
 ·rw[hV] at hb;split at hb
  ·obtain⟨f',h1⟩:=J8 b f o' hb;exact h.sat b f' o' h1
  ·cases hb
 ·rw[hV] at hi;split at hi
  ·have:=(jE hi).1;cases this
  ·cases hi
 ·rw[hV];split
  ·exact aH dJ.1
  ·rfl
 ·exact h.sat b f o' (hB b _ hb)
 ·rw[hV] at hj;split at hj
  ·have:=(jE hj).1;cases this
  ·cases hj
 ·exact⟨by rw[BB dJ.1];exact hFn.1,by rw[BB dJ.2];exact hFn.2⟩
 ·rw[hV,if_neg fun e=> hj (.inl e)]
 ·refine ⟨h.nr,h.bd,fun j hj i a b f o' ha hb hx hw=> ?_,fun i op a qA ha hk _=> h.kn i a (by rw[touchAt_of qA];exact ha) hk,fun i a b ha hk hb=> ?_,h.B0,fun j hj i a b ha hk hb _=> ?_,h.rel,h.gb,h.mem⟩
  ·have:=ZO j hj;subst this;rw[hV,if_pos rfl] at hx;obtain⟨f',h1⟩:=J8 b f o' hx;refine h.kn i a ha (Classical.byContradiction fun uB=> ?_);rw[h.np i a b ha uB hb] at h1;cases h1
  ·have h1:=h.np i a b ha hk hb;refine⟨fun j=> ?_,hBn b h1,?_⟩
   ·rw[hV];split
    ·cases hx:ro H₁ b with
     | none=> rfl
     | some x=>
      obtain⟨f',h2⟩:=J8 b x.1 x.2 hx;rw[h1] at h2;cases h2
    ·rfl
   ·rintro rfl;rw[SA hC] at h1;cases h1
  ·have:=ZO j hj;subst this;exact h.kn i a ha hk
 ·exact h.sat _ _ _ (SA hC)
 ·rw[hV];split
  ·exact aH dJ.2
  ·rfl
 ·refine .inl fun j hj=> ?_;have:=ZO j hj;subst this;have wH:touchAt t i=some a:=by rw[touchAt_of qA];exact ha
  refine h.kn i a wH (Classical.byContradiction fun uB=> ?_);have:=h.np i a _ wH uB hb;rw[SA hC] at this;cases this
 ·simp at hκ
 ·simp at hκ
 ·simp;have:=h.pos;omega
 ·rw[upd_same];exact .walk hρ
 ·simp at hκ
theorem PI.ends {X:Fk}{Fin:Goroutine->Prop}{H₁ F:View}{base:Nat}{ths:List Th}{s:Sh}{H:Nat->View}{ks:Nat->Nat}{rks:List TB}{D:Nat->Bool}{g g':Goroutine}(h:PI P X Fin (H₁.plus F) base os0 gs w t ths .aq s H ks rks q D)(hC:H₁ X.C=none)(fn:FuncId)(pos:String):
  ∃o,X.GI (fun i=> decide (i<X.n)) o/\F X.C=none/\AI P ((H₁.put X.C (true,o)).plus F) os0 (rD P gs 0 g g' w) w (t++MemOp.ofEvents 0 fn pos #[Go.ConcR.mk (.acquire (stA X.Wg))]) q:=by
 obtain⟨hlen,wK⟩:=h.inv.done rfl;have hb:=h.b1;have IE:=h.si.size;have hN:0<gs.size:=by omega
 obtain⟨⟨o,h1,h2⟩,h3,_⟩:=h.wt.free;have hD:D=fun i=> decide (i<X.n):=by
  funext κ
  rw[h.dd κ];by_cases e:κ<ths.length
  ·rw[List.getElem?_eq_getElem e,wK κ _ (List.getElem?_eq_getElem e)];simp[Th.did];omega
  ·rw[List.getElem?_eq_none oM];simp;omega
 subst hD;have hFC:F X.C=none:=by have:=h.wt.vi.bn.2;rw[BB hC] at this;exact this
 have qA:=JS (X:=X) (H:=H 0) (g:=0) (fn:=fn) (pos:=pos) (m:=.acquire (stA X.Wg)) (t:=t) (fun x hx=> by cases hx) (fun a e=> by cases e);have hti:=h.wt.HV h.ne (.inl rfl) hN qA;have CM:∀j,Deaf (t++MemOp.ofEvents 0 fn pos #[Go.ConcR.mk (.acquire (stA X.Wg))]) j=Deaf t j:=fun j=> oR (by simp) (by simp);have hj:=h.wt.ti.join (y:= { g:=0,fn,pos,act:=.mark (.acquire (stA X.Wg)) }) ⟨rfl,rfl⟩ h.wt.WV fun g YV NB=> by
  have hκ:g-base<ths.length:=by omega
  have hT:=List.getElem?_eq_getElem hκ;obtain⟨r,hr⟩:=h.wt.pJ _ _ hT (by rw[wK _ _ hT];rfl);rw[show base+(g-base)=g by omega] at hr;exact⟨r,hr⟩
 rw[<-AP] at hj;refine⟨o,h2,hFC,by rw[LA];exact hN,fun b f o' CI=> ?_,hti.nr,hj,fun i a b ha hk uS=> ?_,hti.B0,hti.bd,hti.rel,fun i op B5=> by rw[LA];exact hti.gs i op B5,hti.mem,by rw[CM];exact h.wt.WV,fun i h0 hi=> ?_,h.wt.os⟩
 ·unfold View.plus at CI;split at CI
  ·rename_i y hy
   cases CI
   by_cases e:b=X.C
   ·subst e;rw[View.bB] at hy;cases hy;exact h1
   ·rw[View.GA _ _ e] at hy;exact h.wt.vi.bs b f o' (SA hy)
  ·rename_i hy
   have e:b≠X.C:=by rintro rfl;rw[View.bB] at hy;cases hy
   rw[View.GA _ _ e] at hy;exact h.wt.vi.bs b f o' (by rw[BB hy];exact CI)
 ·obtain⟨_,g2,g3⟩:=hti.np i a b ha hk uS;unfold View.plus at g2 ⊢;rw[View.GA _ _ g3];exact g2
 ·rw[LA] at hi;rcases Nat.lt_or_ge i base with NB|YV
  ·obtain⟨g0,g1,g2⟩:=h.si.nK i h0 NB;exact⟨_,JB oM g1,by rw[CM,woken_quitsD g2];exact g2⟩
  ·have hκ:i-base<ths.length:=by omega
   have hT:=List.getElem?_eq_getElem hκ;obtain⟨g0,ρ,g1,_,g2⟩:=h.si.work _ _ hT;rw[show base+(i-base)=i by omega] at g1 g2;have hq:QuitsD P (q i) (Deaf t i) g0:=by
    cases g2 with
    | quit _ hq=> exact hq
    | quiet n hh _ _=> exact absurd (wK _ _ hT) hh.1
    | walk hh _=> rw[wK _ _ hT] at hh;cases hh
   exact⟨_,JB oM g1,by rw[CM,woken_quitsD hq];exact hq⟩
def AtRet(P:Program)(Post:Value->World->Prop)(H:View)(g:Goroutine):Prop:=
 g.status=.running/\∀w,Sat H w->∃v es,stepG P true g w=.ended (.done v) w es/\(∀e∈es,mM H e)/\Post v w
inductive MI(P:Program)(St:View->Goroutine->Prop)(os0:M1):TB×LR->Machine->Trace->Prop where
 | alone {gs:Array Goroutine} {w:World} {sl:Option (Nat×Nat)} {t:Trace} {q:Nat->Nat} {H:View} {g:Goroutine} {ρ:TB} (h:AI P H os0 gs w t q) (hg:gs[0]? =some g) (hT:Tr (Mp P) St ρ H g) (hρ:∀f,ρ≠ .phase f):MI P St os0 (ρ,0,[],sumTo gs.size q,0) (crowd gs w sl) t
 | phase {gs:Array Goroutine} {w:World} {sl:Option (Nat×Nat)} {t:Trace} {q:Nat->Nat} {X:Fk} {Fin:Goroutine->Prop} {H₁ F:View} {base:Nat} {ths:List Th} {m:Mn} {s:Sh} {H:Nat->View} {ks:Nat->Nat} {rks:List TB} {D:Nat->Bool} {f:View->Goroutine->TB} {μ:LR}
  (h:PI P X Fin (H₁.plus F) base os0 gs w t ths m s H ks rks q D) (hC:H₁ X.C=none) (hd:Dj H₁ F) (hμ:μ=PI.meas X gs ths m s rks q)
  (hk:∀o g',X.GI (fun i=> decide (i<X.n)) o->Fin g'->F X.C=none->Tr (Mp P) St (f ((H₁.put X.C (true,o)).plus F) g') ((H₁.put X.C (true,o)).plus F) g'):MI P St os0 (.phase f,μ) (crowd gs w sl) t
theorem MI.of {St:View->Goroutine->Prop}{sl:Option (Nat×Nat)}{g:Goroutine}{ρ:TB}(h:AI P H os0 gs w t q)(hg:gs[0]? =some g)(hT:Tr (Mp P) St ρ H g):∃μ,MI P St os0 (ρ,μ) (crowd gs w sl) t:=by
 cases ρ with
 | stop=> exact⟨_,.alone h hg hT (fun f=> by simp)⟩
 | step f=> exact⟨_,.alone h hg hT (fun f=> by simp)⟩
 | phase f=>
  obtain⟨Po,⟨H₁,F,Po₁,hd,rfl,⟨X,Fin,H₂,o,hn6,ne,dJ,rfl,hG,hMS,aF2⟩,hP⟩,hk⟩:=hT;obtain⟨s,H',ks,rks,D,hPI⟩:=AI.begin hn6 ne dJ hd h hG hg hMS;have jQ:Dj H₂ F:=fun b x hb=> by
   have:=hd b x hb;cases hx:H₂ b with
   | none=> rfl
   | some y=>
    rw[View.GA,View.GA] at this
    ·rw[hx] at this;cases this
    ·rintro rfl;rw[dJ.2] at hx;cases hx
    ·rintro rfl;rw[dJ.1] at hx;cases hx
  exact⟨_,.phase hPI dJ.2 jQ rfl fun o g' ho hF hFC=> hk _ _ (hP _ _ (jQ.put hFC) (aF2 o g' ho hF))⟩
def eY:TB×LR->TB×LR->Prop:=Prod.Lex TB.Lt oG
theorem eY.wf:WellFounded eY:=(Prod.lex ⟨TB.Lt,TB.wf⟩ ⟨oG,oG.wf⟩).wf
theorem handed(h:AI P H os0 gs w t q):t.HandedOver:=by
 intro i g hgi uB hc;obtain⟨x,hx,hm,hk⟩:=hc;obtain⟨op,qA,aGh⟩:=touch_of hx;have hog:op.g=g:=by simpa [Trace.g?,qA] using hgi
 have PZ:x.kind=.plain:=by
  refine Classical.byContradiction fun aEC=> ?_;obtain⟨h1,h2⟩:=h.B0 i op x qA aGh aEC;have aB1:x.kind≠ .said:=fun e=> uB (hog▸h1 e);have YK:x.kind=.atomic:=by
   cases hkk:x.kind with
   | plain=> exact absurd hkk aEC
   | atomic=> rfl
   | said=> exact absurd hkk aB1
  rcases hk with hk|hk
  ·exact hk YK
  ·exact h2 YK (by rw[hog];exact uB) hk
 obtain⟨j,z,h1,h2,h3⟩:=h.kn i x hx PZ;refine⟨j,by simp[Trace.g?,h1,h2],?_⟩;rcases h3 with rfl|h3
 ·rw[qA] at h1;cases h1
  exact absurd (hog.symm.trans h2) uB
 ·exact h3
theorem MI.step {Post:Value->World->Prop}(μ:TB×LR)(m:Machine)(t:Trace)(h:MI P (AtRet P Post) os0 μ m t):
  (∃o w ops,stepT P m=(.ended o w,ops)/\Go.Conc.Good P (fun v w=> Post v w/\cY os0 w) m o w (t++ops))\/(∃m' ops μ',stepT P m=(.next m',ops)/\eY μ' μ/\MI P (AtRet P Post) os0 μ' m' (t++ops)):=by
 cases h with
 | phase h hC hd hμ hk=>
  rename_i gs w sl q X Fin H₁ F base ths mn s H ks rks D f μ
  obtain⟨d,hg⟩:=h.step (sl:=sl);rcases hg with ⟨gs',w',sl',ops,ths',m',s',H',ks',rks',q',D',hr,hPI,NB⟩|⟨gs',sl',g,g',ths',s',H',ks',rks',q',D',hg0,hr,rfl,hF,hPI⟩
  ·exact .inr ⟨_,ops,(.phase f,_),hr,.right _ (by rw[hμ];exact NB),.phase hPI hC hd rfl hk⟩
  ·obtain⟨o,ho,hFC,r8⟩:=hPI.ends (g:=g) (g':=g') hC g.frame.fn g.frame.place;obtain⟨μ',hMI⟩:=MI.of (sl:=sl') r8 (uF (by have:=hPI.si.size;have:=hPI.b1;omega)) (hk o g' ho hF hFC);exact .inr ⟨_,_,_,hr,.left _ _ (.phase f _ _),hMI⟩
 | alone h hg hT hρ=>
  rename_i gs w sl q H g ρ
  have kH:g.status=.running:=by
   cases ρ with
   | stop=> exact hT.1
   | step f=> exact hT.1
   | phase f=> exact absurd rfl (hρ f)
  have haw:∀x∈gs,awake x:=by
   intro x hx tm;obtain⟨i,hi,rfl⟩:=Array.mem_iff_getElem.1 hx;have ZN:=Array.getElem?_eq_getElem hi;by_cases e0:i=0
   ·subst e0;rw[hg] at ZN;cases ZN
    rw[kH];simp
   ·obtain⟨g0,h1,h2⟩:=h.nK i oM hi;rw[h1] at ZN;cases ZN
    rcases h2.status with e|e <;> rw[e] <;> simp
  obtain⟨i,g₁,d,sl',DU,HY,gR⟩:=crowd_pick (P:=P) (w:=w) (sl:=sl) haw ⟨0,g,hg,kH⟩;rw[gR];have h':=h.at d;by_cases e0:i=0
  ·subst e0;rw[hg] at DU;cases DU
   cases ρ with
   | phase f=> exact absurd rfl (hρ f)
   | step f=>
    obtain⟨_,eC⟩:=hT;obtain⟨g',w',es,H',h3,h4,h5⟩:=eC (w.at d) h'.sat trivial;have r8:=h'.walk (g:=g) (g':=g') (fn:=g.frame.fn) (pos:=g.frame.place) h4;obtain⟨μ',hMI⟩:=MI.of (sl:=sl') r8 (uF h.pos) h5;exact .inr ⟨_,_,_,runT_crowd_go hg h3,.left _ _ (.step f _),hMI⟩
   | stop=>
    obtain⟨_,eC⟩:=hT;obtain⟨v,es,h3,h4,h5⟩:=eC (w.at d) h'.sat;have r8:=h'.walk (g:=g) (g':=g) (fn:=g.frame.fn) (pos:=g.frame.place) { Trans.refl h'.sat with ev:=h4 };have aAe:∀x∈(crowd gs w sl).gs.toList.drop 1,x.Leaves P:=fun x hx=> by
     obtain⟨j,hj⟩:=List.mem_iff_getElem?.1 hx;rw[List.getElem?_drop] at hj;have wS:gs[1+j]? =some x:=by simpa [crowd] using hj
     have D8:=(Array.getElem?_eq_some_iff.1 wS).1;obtain⟨g0,g1,g2⟩:=h.nK (1+j) oM D8;rw[wS] at g1;cases g1
     exact⟨_,g2.leaves⟩
    have aEw:(crowd gs w sl).EndHearing P (t++MemOp.ofEvents 0 g.frame.fn g.frame.place es):=fun j x hj hj0=> by
     have wS:gs[j]? =some x:=hj;have D8:j<gs.size:=(Array.getElem?_eq_some_iff.1 wS).1;obtain⟨g0,g1,g2⟩:=h.nK j oM D8;rw[wS] at g1;cases g1
     refine⟨q j,?_⟩;have xI:Deaf (t++MemOp.ofEvents 0 g.frame.fn g.frame.place es) j=Deaf t j:=Deaf_other t (g:=j) (g':=0) oM _ ofEvents_g;have e:(t++MemOp.ofEvents 0 g.frame.fn g.frame.place es).deaf j (t++MemOp.ofEvents 0 g.frame.fn g.frame.place es).size=Deaf t j:=xI;rw[e];exact g2.hears _
    exact .inl ⟨_,_,_,runT_many_ended hg h3,v,rfl,⟨h5,h.os⟩,r8.nr,handed r8,⟨aAe,rfl⟩,aEw⟩
  ·have hi:i<gs.size:=(Array.getElem?_eq_some_iff.1 DU).1;obtain⟨g0,g1,g2⟩:=h.nK i oM hi;rw[g1] at DU;cases DU
   have cX:(i==0)=false:=by simp;omega
   cases hqq:q i with
   | zero=> rw[hqq] at g2;rw[g2.1] at HY;cases HY
   | succ q'=>
    rw[hqq] at g2;rcases g2 with ⟨hf,_⟩|⟨_,g',es,AN,eC,GY⟩
    ·rw[hf] at HY;cases HY
    ·have r8:=h'.leave (g:=g₁) (fn:=g₁.frame.fn) (pos:=g₁.frame.place) oM hi AN GY;have h0':(rD P gs i g₁ g' (w.at d))[0]? =some g:=by
      rw[JB oM hg,woken_running (.inl kH)]
     refine .inr ⟨_,_,_,runT_crowd_go g1 (by rw[cX];exact eC _),?_,.alone r8 h0' hT hρ⟩;refine .right _ (aCm ?_);show sumTo (rD P gs i g₁ g' (w.at d)).size _<_;rw[LA];have:=sumTo_upd (f:=q) q' (fun a=> a) (i:=i) (j:=gs.size) hi;have e:sumTo gs.size (fun a=> upd q i q' a)=sumTo gs.size (upd q i q'):=rfl;have e2:sumTo gs.size (fun a=> q a)=sumTo gs.size q:=rfl;omega
theorem T.runs {Post:Value->World->Prop}{H:View}{g:Goroutine}{W:World}(h:T (Mp P) (AtRet P Post) H g)(hs:Sat H W):
  ∃N last o w' t',runNT P (N+1) (solo g W) #[]=(.ended o w',t')/\runN P N (solo g W)=.next last/\Go.step P last=.ended o w'/\Go.Conc.Good P (fun v w=> Post v w/\cY (W.os,W.output) w) last o w' t':=by
 obtain⟨ρ,hρ⟩:=h.GX;have r8:AI P H (W.os,W.output) #[g] W #[] (fun _=> 0):=by
  have none:∀(i:Nat) a,touchAt #[] i≠some a:=fun i a=> by simp[touchAt,Trace.act?]
  exact⟨by simp,hs,fun said ⟨i,j,_,⟨a,_,ha,_⟩,_⟩=> by simp[Trace.act?] at ha,fun i a ha=> absurd ha (none i a),fun i a b ha=> absurd ha (none i a),fun i op a qA=> by simp at qA,fun i a b ha=> absurd ha (none i a),fun a i=> by simp[Trace.act?],fun i op qA=> by simp at qA,fun i a ha=> absurd ha (none i a),rfl,fun i h0 hi=> by simp at hi;omega,cY.refl _⟩
 obtain⟨μ,hMI⟩:=MI.of (sl:=none) r8 (by simp) hρ;rw[solo_eq_crowd];exact run_of_inv eY.wf (MI P (AtRet P Post) (W.os,W.output)) (fun m o w t=> Go.Conc.Good P (fun v w=> Post v w/\cY (W.os,W.output) w) m o w t) (fun μ m t hm=> MI.step μ m t hm) _ _ _ hMI
end
end Go.RL
end
namespace Go.RL
open Go.Conc Go.ConcN
section
variable {P:Program}{n:Nat}{R:Rg}{L:Bl}{H₀:View}{k:List Item}
theorem T.top {M:Md P}{Post:Value->World->Prop}{H:View}{fn:Func}{b:FB}{tmps:Array Value}{todo:List Item}{v:Value}(hf:P.funcs[b.fn]? =some fn)(hi:P.inits.idxOf? b.fn=none)(hk:b.kind=.normal)(hv:IX fn R v)(hr:gB n R tmps)
  (hp:∀w,Sat H w->Post v w):T M (AtRet P Post) H (G (b.back tmps [] todo) []):=by
 refine .stop ⟨rfl,fun w hs=> ⟨v,#[],?_,fun e he=> by simp at he,hp w hs⟩⟩;have:stepG P true (G (b.back tmps [] todo) []) w=unwind P true (b.back tmps [] todo) [] none w:=by simp[G,stepG,FB.back]
 rw[this];unfold unwind;simp only[FB.back,hf,hv.run (P:=P) hr w,doReturn,hk,hi,GStep.after,seen_none];simp
theorem Tc.aCA {Post:Value->World->Prop}{fn:Func}{f:FuncId}{v:Value}(hf:P.funcs[f]? =some fn)(hi:P.inits.idxOf? f=none)(hv:IX fn R v)(hp:∀H w,kA H₀ L H->Sat H w->Post v w):
 Tc (Mp P) (AtRet P Post) n ⟨f,.normal,none⟩ H₀ [] R L [] (.code .ret::k):=fun H _ hs hr=> .iE rfl (T.top hf hi rfl hv hr fun w hw=> hp H w hs hw)
theorem T.F4 {f:FuncId}{fn:Func}{body:Code}{vs:List Value}{H:View}{St:View->Goroutine->Prop}(hf:P.funcs[f]? =some fn)(hb:fn.body=some body)(hn:fn.ntmps=n)(hv:vs.length<=n)
  (h:Tc (Mp P) St n ⟨f,.normal,none⟩ H [] (FO vs) [] [] [.code body]):T (Mp P) St H (G (Frame.enter P f vs.toArray .normal) []):=by
 have:=h H (vs.toArray++Array.replicate (n-vs.length) undef) (kA.nil H) ⟨by simp;omega,fun d v hd=> ?_⟩
 ·have e:Frame.enter P f vs.toArray .normal=(⟨f,.normal,none⟩:FB).at (vs.toArray++Array.replicate (n-vs.length) undef) [] [.code body]:=by
   simp[Frame.enter,FB.at,hf,hb,hn]
  rw[e];exact this
 ·obtain⟨_,h2⟩:=fL vs 0 d v hd;simp only[Nat.sub_zero] at h2;have NB:=(List.getElem?_eq_some_iff.1 h2).1;rw[Array.getElem?_append_left (by simpa using NB)];simpa using h2
end
end Go.RL
namespace Go.Proofs.YtldmfjcgjdchcaaGreatDoor
open Go.RL Go.Proofs.Tryz Go.ChangeShapes Go.WideShapes Go.ChangeAt Go.RowKit
set_option maxRecDepth 100000
def NC(W:World):View:=fun b=> (W.heap[b]?).map fun o=> (false,o)
theorem GZ(W:World):Sat (NC W) W:=fun b f o h=> by
 simp only[NC,Option.map_eq_some_iff,Prod.mk.injEq] at h;obtain⟨o',h1,_,rfl⟩:=h;exact h1
theorem aGB:ownKnob prog.godebug=none:=by kernel_rfl
theorem T5:laidOutB prog=true:=by kernel_rfl
theorem xY:prog.globalNamed "baudot/dial.checks"=some 3:=by kernel_rfl
theorem aAS:(prog.globals[3]?).map (·.type)=some 282:=by kernel_rfl
theorem aEo:prog.globalNamed "baudot/dial.not"=some 1:=by kernel_rfl
theorem aGJ:(prog.globals[1]?).map (·.type)=some 242:=by kernel_rfl
theorem S7:prog.underlying 282=some (.array 3 281):=by kernel_rfl
theorem ZX:prog.underlying 281=some (.func #[166] #[25] false):=by kernel_rfl
theorem T7:prog.underlying 242=some (.array 3 110):=by kernel_rfl
theorem dZ:prog.underlying 110=some (.int .i64):=by kernel_rfl
theorem N3:prog.cellsOf 281=1:=by kernel_rfl
theorem O3:prog.cellsOf 282=3:=by kernel_rfl
theorem lY:prog.cellsOf 110=1:=by kernel_rfl
theorem P3:prog.cellsOf 242=3:=by kernel_rfl
theorem CN {P:Program}{w:World}:∀ {l:List (String×DataW Unit)} {ps:List MemPlace},DataW.LaidVars P w l ps->∀ {n:String} {d:DataW Unit},(n,d)∈l-> 
  ∃g t cs fuel p,P.globalNamed n=some g/\(P.globals[g]?).map (·.type)=some t/\w.var? P n=some cs/\DataW.trod (fun _=> ()) P w 0 (fun _=> true) false fuel t cs.toList=some (d,p)
 | [],_,_,_,_,h=> by cases h
 | (m,e)::r,ps,h,n,d,hm=> by
  obtain⟨g,t,cs,fuel,p,q,h1,h2,h3,h4,h5,_⟩:=h;rcases List.mem_cons.1 hm with e1|hm
  ·cases e1
   exact⟨g,t,cs,fuel,p,h1,h2,h3,h4⟩
  ·exact CN h5 hm
theorem MV {W:World}{n:String}{g:Nat}{cs:Array Value}(hg:prog.globalNamed n=some g)(hv:W.var? prog n=some cs):∃gt gz,W.heap[g]? =some (.cells cs gt gz):=by
 unfold World.var? at hv;rw[hg] at hv;simp only[Option.bind_some] at hv;split at hv
 ·rename_i cs' t' z e
  obtain rfl:=Option.some.inj hv;exact⟨_,_,e⟩
 ·cases hv
theorem aAb {LL:List (String×DataW Unit)}(hc:("baudot/dial.checks",(Rows.laid_baudot_dial_checks:DataW Unit))∈LL)(hn:("baudot/dial.not",(Rows.laid_baudot_dial_not:DataW Unit))∈LL.filter fun x=> x.2.handleName?.isNone){W:World}(h:laidMetH prog LL W):HC (NC W):=by
 constructor
 ·obtain⟨g,t,cs,fuel,p,hg,ht,hv,hd⟩:=h.funcs (n:= "baudot/dial.checks") hc;obtain rfl:=Option.some.inj (xY.symm.trans hg);obtain rfl:=Option.some.inj (aAS.symm.trans ht);obtain⟨gt,gz,hh⟩:=MV xY hv;have hlen:cs.toList.length=3:=by
   cases fuel with
   | zero=> simp[DataW.trod] at hd
   | succ n=>
    unfold DataW.trod at hd;rw[S7] at hd;simp[O3] at hd
    simpa using hd.1
  obtain⟨c0,c1,c2,vT⟩:∃c0 c1 c2,cs.toList= [c0,c1,c2]:=by
   match e:cs.toList,hlen with
   | [c0,c1,c2],_=> exact⟨c0,c1,c2,rfl⟩
  rw[vT] at hd;obtain⟨y0,y1,y2,n,hx,r0,r1,r2⟩:=trod_array3 S7 N3 hd;have dO:=congrArg Prod.fst hx;have mX:(DataW.agg [y0.1,y1.1,y2.1]:DataW (List UInt8))=DataW.agg [.held _,.held _,.held _]:=dO.symm;simp only[DataW.agg.injEq,List.cons.injEq,and_true] at mX;obtain⟨e0,e1,e2⟩:=mX;obtain⟨d0,q0⟩:=y0;obtain⟨d1,q1⟩:=y1;obtain⟨d2,q2⟩:=y2;simp only at e0 e1 e2;subst e0 e1 e2;obtain rfl:=func_of_trod (f0:=368) ZX kR r0;obtain rfl:=func_of_trod (f0:=369) ZX kR r1;obtain rfl:=func_of_trod (f0:=370) ZX kR r2;refine⟨false,gt,gz,?_⟩;have ec:cs=⟨[iF 0,iF 1,iF 2]⟩:=by
   apply Array.ext'
   rw[vT];rfl
  rw[<-ec];simp only[NC,hh,Option.map_some]
 ·obtain⟨⟨ps,hl,_⟩,_⟩:=laidMetH_iff.1 h;obtain⟨g,t,cs,fuel,p,hg,ht,hv,hd⟩:=CN hl hn;obtain rfl:=Option.some.inj (aEo.symm.trans hg);obtain rfl:=Option.some.inj (aGJ.symm.trans ht);obtain⟨gt,gz,hh⟩:=MV aEo hv;have hlen:cs.toList.length=3:=by
   cases fuel with
   | zero=> simp[DataW.trod] at hd
   | succ n=>
    unfold DataW.trod at hd;rw[T7] at hd;simp[P3] at hd
    simpa using hd.1
  obtain⟨c0,c1,c2,vT⟩:∃c0 c1 c2,cs.toList= [c0,c1,c2]:=by
   match e:cs.toList,hlen with
   | [c0,c1,c2],_=> exact⟨c0,c1,c2,rfl⟩
  rw[vT] at hd;obtain⟨y0,y1,y2,n,hx,r0,r1,r2⟩:=trod_array3 T7 lY hd;have dO:=congrArg Prod.fst hx;have mX:(DataW.agg [y0.1,y1.1,y2.1]:DataW Unit)=DataW.agg [.lit (.int .i64 0),.lit (.int .i64 2),.lit (.int .i64 1)]:=dO.symm;simp only[DataW.agg.injEq,List.cons.injEq,and_true] at mX;obtain⟨e0,e1,e2⟩:=mX;obtain⟨z0,g0,g0',_⟩:=DataW.trod_int dZ r0;obtain⟨z1,g1,g1',_⟩:=DataW.trod_int dZ r1;obtain⟨z2,g2,g2',_⟩:=DataW.trod_int dZ r2;subst g0' g1' g2';simp only[DataW.lit.injEq,Lit.int.injEq,true_and] at e0 e1 e2;simp only[List.cons.injEq,and_true] at g0 g1 g2;refine⟨false,gt,gz,?_⟩;have ec:cs=⟨[.int .i64 0,.int .i64 2,.int .i64 1]⟩:=by
   apply Array.ext'
   rw[vT,g0,g1,g2,e0,e1,e2]
  rw[<-ec];simp only[NC,hh,Option.map_some]
section
variable {H:Type}{enc:TypeId×Value->H}{P:Program}{W W':World}
theorem BK(hl:laidOutB P=true)(hb:∀x:MemPlace,x.block<W.heap.size->W.sameAt W' x):∀ {ts:List TypeId} {vs:List Value} {ds:List (DataW H)} {p:List MemPlace},ts.all (fun t=> P.readableRec t&&decide (t<P.types.size))=true-> 
  DataW.TrodAll enc P W 0 (fun _=> true) true ts vs ds p->(∀x∈p,x.block<W.heap.size)->DataW.TrodAll enc P W' 0 (fun b=> decide (b<W.heap.size)) true ts vs ds p
 | [],[],[],_,_,h,_=> h
 | t::ts,v::vs,d::ds,p,hr,h,NB=> by
  simp only[List.all_cons,Bool.and_eq_true,decide_eq_true_eq] at hr;obtain⟨a,b,h1,h2,rfl⟩:=h;exact⟨a,b,WideElems.Trod_stays hl hr.1.1 hr.1.2 h1 (fun x hx=> hb x (NB x (by simp[hx]))) (fun x hx=> by simpa using NB x (by simp[hx])),BK hl hb hr.2 h2 (fun x hx=> NB x (by simp[hx])),rfl⟩
 | [],[],_::_,_,_,h,_=> h.elim
 | [],_::_,[],_,_,h,_=> h.elim
 | [],_::_,_::_,_,_,h,_=> h.elim
 | _::_,[],[],_,_,h,_=> h.elim
 | _::_,[],_::_,_,_,h,_=> h.elim
 | _::_,_::_,[],_,_,h,_=> h.elim
theorem NN {base:Nat}{sp:Nat->Bool}{held:Bool}:∀ {ts:List TypeId} {vs:List Value} {ds:List (DataW H)} {p:List MemPlace},DataW.TrodAll enc P W base sp held ts vs ds p->ds.length=ts.length
 | [],[],[],_,_=> rfl
 | _::_,_::_,_::_,_,h=> by
  obtain⟨_,_,_,h2,_⟩:=h;simp[NN h2]
 | [],[],_::_,_,h=> h.elim
 | [],_::_,[],_,h=> h.elim
 | [],_::_,_::_,_,h=> h.elim
 | _::_,[],[],_,h=> h.elim
 | _::_,[],_::_,_,h=> h.elim
 | _::_,_::_,[],_,h=> h.elim
theorem eO(ho:W'.os=W.os)(jX:W'.output=W.output)(hb:∀b<W.heap.size,W'.heap[b]? =W.heap[b]?)(may:MemPlace->Prop):W.keptBut W' may:=by
 refine⟨ho,jX,fun i hi=> ?_⟩;rw[hb i hi];cases h:W.heap[i]? with
 | none=> exact rfl
 | some o=>
  cases o with
  | cells c t fr=> exact⟨rfl,rfl,rfl,fun _ _=> rfl⟩
  | map es k=> exact .inr ⟨rfl,rfl⟩
  | _=> exact rfl
theorem N0 {f:Func}{s:ChangeSpec}{args:Array Value}{ds gs:List (DataW H)}{before:List MemPlace}{tb:TypeId}(hl:laidOutB P=true)(hr:f.params.toList.all (fun t=> P.readableRec t&&decide (t<P.types.size))=true)
  (D5:f.resultTypes=#[tb]) (htb:P.underlying tb=some .bool) (hs:s.vars= []) (hW:DataW.Whole enc P f.params.toList s.vars false W args.toList ds gs before) (aX:s.fn H (ds++gs)= { results:= [.lit (.bool true)],args:=ds })
  (jX:W'.output=W.output) (IE:W.heap.size<=W'.heap.size) (hb:∀b<W.heap.size,W'.heap[b]? =W.heap[b]?):s.post enc P f false true false false W args (.bool true) { W' with os:=W.os }:=by
 have NB:=hW.lt;have hW0:=hW;obtain⟨p,q,hA,hV,rfl,hfz,jF⟩:=hW;rw[hs] at hV;obtain⟨rfl,rfl⟩:=trodVars_none hV;have aF0:Below W.heap.size W { W' with os:=W.os,tape:=W.tape }:=⟨rfl,rfl,jX,IE,hb⟩
 refine⟨ds,[],p++[],[],p,[],hW0,?_,?_,?_,eO (W:=W) (W':= { W' with os:=W.os }) rfl jX hb _,fun h=> nomatch h⟩
 ·rw[aX,D5];exact trodAll_mk1 (shut_bool htb _)
 ·rw[aX];exact BK (W':= { W' with os:=W.os }) hl (fun x hx=> aF0.same hx) hr hA (fun x hx=> NB x (by simp[hx]))
 ·rw[aX,hs];rfl
end
theorem aAi {w w':World}(h:w'.os=w.os){Q:World->Prop}(hq:Q { w' with os:=w.os }):Q w':=by
 rw[<-h] at hq;exact hq
theorem lifted {LL:List (String×DataW Unit)}{f:FuncId}{fn:Func}{s:ChangeSpec}{n:Nat}{body:Code}{a:Assume}{os:Os}{H:Type}{enc:TypeId×Value->H}{conds:List PathCond}
  (aX:prog.funcs[f]? =some fn) (hb:fn.body=some body) (hn:fn.ntmps=n) (hi:prog.inits.idxOf? f=none) (QZ:fn.params.size<=n)
  (D5:fn.resultTypes=#[4]) (C5:fn.params.toList.all (fun t=> prog.readableRec t&&decide (t<prog.types.size))=true)
  (hsv:s.vars= []) (hsf:∀ds:List (DataW H),ds.length=fn.params.size->s.fn H (ds++[])= { results:= [.lit (.bool true)],args:=ds })
  (started:os.Started)
  (witness:∃(w:World) (tape:Tape) (i:Input),w.os=os/\(w.forCall tape i).Shaped prog/\i.vars= []/\Input.okWide prog (w.forCall tape i) .any w.heap.size f i/\
   ((s.pre enc prog fn conds false (w.forCall tape i).memory i.args/\laidMetH prog LL (w.forCall tape i).memory)/\sizedMet enc prog fn (OpenSpec.ofChange s) false (w.forCall tape i).memory i.args)/\a.holds prog (lone (Frame.enter prog f i.args .normal) [] (w.forCall tape i)))
  (walk:∀(W:World) (base:Nat) (vs:List Value) (ds:List (DataW H)) (p:List MemPlace),vs.length=fn.params.size->(∀(j:Nat) t v,fn.params[j]? =some t->vs[j]? =some v->Value.okWide prog W .any base t v)-> 
   DataW.TrodAll enc prog W 0 (fun _=> true) true fn.params.toList vs ds p->(DataW.weightsEach prog fn.params.toList ds).all (· <=reachBytes)=true->laidMetH prog LL W-> 
   ∀(St:View->Goroutine->Prop),(∀(H₀:View) (R:Rg) (L:Bl) (kk:List Item),IX fn R (.bool true)->(NC W).le H₀->Tc (Mp prog) St n ⟨f,.normal,none⟩ H₀ [] R L [] (.code .ret::kk))-> 
   Tc (Mp prog) St n ⟨f,.normal,none⟩ (NC W) [] (FO vs) [] [] [.code body]):
  ReturnsInLeavingWide a Tryz.checked os f .any (fun w args=> (s.pre enc prog fn conds false w args/\laidMetH prog LL w)/\sizedMet enc prog fn (OpenSpec.ofChange s) false w args)
   (s.post enc prog fn false true false false):=by
 refine returnsInLeavingWide_of_good (C:=Tryz.checked) aGB started witness ?_;intro w tape i _ _ _ dC aB7 _;obtain⟨_,_,_,fn',aF3,_,_,_,fR,PU⟩:=dC;have e:fn'=fn:=Option.some.inj (aF3.symm.trans aX);subst e;obtain⟨⟨⟨ds,gs,before,hw,hc⟩,hl⟩,hz⟩:=aB7;generalize hWe:w.forCall tape i=W at *;have cW:DataW.Whole enc prog fn'.params.toList s.vars false W i.args.toList ds gs before:=hw.of_heap (by rfl);have dX:laidMetH prog LL W:=hl.of_heap (by rfl);have tO:=hz.weights hw;have hw0:=cW;obtain⟨p,q,hA,hV,rfl,hfz,jF⟩:=cW;rw[hsv] at hV;obtain⟨rfl,rfl⟩:=trodVars_none hV;have hlen:ds.length=fn'.params.size:=by
  simpa using NN hA
 have aGt:(DataW.weightsEach prog fn'.params.toList ds).all (· <=reachBytes)=true:=by
  have e:DataSpec.varTypes prog (OpenSpec.ofChange s).bare.plain= []:=by
   show List.filterMap _ s.vars= []
   rw[hsv];rfl
  have:=tO;rw[e] at this;simpa using this
 have hT :=T.runs (Post:=fun v w=> v=.bool true/\W.heap.size<=w.heap.size/\∀b<W.heap.size,w.heap[b]? =W.heap[b]?) (H:=NC W) (T.F4 aX hb hn (by simpa [fR] using QZ)
  (walk W w.heap.size i.args.toList ds p (by simpa using fR) (fun j t v h1 h2=> PU j t v h1 (by simpa using h2)) hA aGt dX _
   (fun H₀ R L kk hv hle=> Tc.aCA aX hi hv (fun H w hs hw=> by
    have hk:∀b<W.heap.size,w.heap[b]? =W.heap[b]? :=fun b hb=> by
     have h1:NC W b=some (false,W.heap[b]):=by simp[NC,hb]
     rw[hw b false _ (hs.base _ _ (hle _ _ h1))];simp[hb]
    refine⟨rfl,?_,hk⟩;rcases Nat.eq_zero_or_pos W.heap.size with hz|hz
    ·omega
    ·have h1:=hk (W.heap.size-1) oM;have h2:=h1.trans (Array.getElem?_eq_getElem (show W.heap.size-1<W.heap.size by omega));have:=(Array.getElem?_eq_some_iff.1 h2).1;omega)))) (GZ W)
 rw[Array.toArray_toList] at hT;obtain⟨N,last,o,w',t',h1,h2,h3,v,ho,⟨⟨rfl,hp1,hp2⟩,E8,EU⟩,r1,r2,r3,r4⟩:=hT;exact⟨N,last,o,w',t',h1,h2,h3,.bool true,ho,ChangeSpec.post_blind (aAi E8 (N0 T5 C5 D5 kR hsv hw0 (hsf ds hlen) EU hp1 hp2)),r1,r2,r3,r4⟩
theorem M3 {W:World}{base:Nat}{v:Value}(h:Cell.okWide prog W .any base 3 v):∃x,v=.int .i64 x:=by
 unfold Cell.okWide Cell.ok at h;rw[show prog.underlying 3=some (.int .i64) by kernel_rfl] at h;cases v with
 | int k n=>
  obtain⟨rfl,_⟩:=h;exact⟨n,rfl⟩
 | _=> exact h.elim
theorem aAx {W:World}{base:Nat}{v:Value}(h:Value.okWide prog W .any base 5 v):∃x,v=.int .u8 x/\0<=x/\x<256:=by
 unfold Value.okWide Cell.okWide Cell.ok at h;rw[show prog.underlying 5=some (.int .u8) by kernel_rfl] at h;cases v with
 | int k n=>
  obtain⟨rfl,h1,h2⟩:=h;have e1:IntKind.u8.min=0:=by kernel_rfl
  have e2:IntKind.u8.max=255:=by kernel_rfl
  exact⟨n,rfl,oM,oM⟩
 | _=> exact h.elim
theorem T0 {W:World}{base:Nat}{t e:TypeId}{v:Value}(ht:prog.underlying t=some (.slice e))(hv:Value.okWide prog W .any base t v):∃a n c,v=.slice a n c:=by
 unfold Value.okWide Cell.okWide Cell.ok at hv;rw[ht] at hv;cases v with
 | slice a n c=> exact⟨a,n,c,rfl⟩
 | _=> exact hv.elim
theorem tE {W:World}{a:Addr}{v:Value}(h:W.cell? a=some v):∃c t z,W.heap[a.block]? =some (.cells c t z)/\c[a.off]? =some v:=by
 unfold World.cell? at h;split at h
 ·rename_i c t z e
  split at h
  ·cases h
  ·exact⟨c,t,z,e,h⟩
 ·cases h
theorem I0 {H:Type}{enc:TypeId×Value->H}{W:World}{base:Nat}{t e:TypeId}{k:IntKind}{v:Value}{d:DataW H}{ps:List MemPlace}(ht:prog.underlying t=some (.slice e))(he:prog.underlying e=some (.int k))(hc:prog.cellsOf e=1)
  (hv:Value.okWide prog W .any base t v) (h:DataW.Trod enc prog W 0 (fun _=> true) true t v d ps):
  ∃ (A:Option Addr) (l:List Int) (ca:Nat),v=.slice A l.length ca/\ca<=maxLen/\l.length<=ca/\(∀x∈l,k.min<=x/\x<=k.max)/\
   (l= []\/∃ab ao gs gt gz,A=some ⟨ab,ao,none⟩/\NC W ab=some (false,.cells ⟨gs⟩ gt gz)/\∀j:Nat,j<l.length->BC false 1 gs (ao+(j:Int).toNat*1)=some (.int k (l[j]?.getD 0))):=by
 obtain⟨a,n,c,rfl⟩:=T0 ht hv;obtain⟨fuel,h⟩:=h;have vT:(Value.slice a n c).cells.toList= [.slice a n c]:=rfl;rw[vT] at h;rcases open_ints ht he hc h with ⟨h1,_⟩|⟨a',len,cap,zs,h1,_,h3,h4,h5,_,h7,h8⟩
 ·simp only[List.cons.injEq,Value.slice.injEq,and_true] at h1;obtain⟨rfl,rfl,rfl⟩:=h1;exact⟨none,[],0,rfl,Nat.zero_le _,Nat.le_refl _,by simp,.inl rfl⟩
 ·simp only[List.cons.injEq,Value.slice.injEq,and_true] at h1;obtain⟨rfl,rfl,rfl⟩:=h1;simp only[if_true] at h5;have hl:(zs.take n).length=n:=by rw[List.length_take,h5];omega
  refine⟨some a',zs.take n,c,by rw[hl],h4,oM,fun x hx=> ?_,?_⟩
  ·have:=h8 x (List.mem_of_mem_take hx);simpa [Lit.wf] using this
  ·cases n with
   | zero=> exact .inl (by simp)
   | succ m=>
    obtain⟨ab,ao,sp⟩:=a';have h0:=h7 0 oM;have KY:sp=none:=by simpa [Addr.add] using World.cell?_spot h0
    subst KY;obtain⟨cs,gt,gz,e1,_⟩:=tE h0;have e1':W.heap[ab]? =some (.cells cs gt gz):=by simpa [Addr.add] using e1
    refine .inr ⟨ab,ao,cs.toList,gt,gz,rfl,by simp only[NC,e1',Option.map_some],fun j hj=> ?_⟩;have wS:j<zs.length:=by omega
    have h9:=h7 j wS;obtain⟨cs',gt',gz',e2,e3⟩:=tE h9;have eb:((⟨ab,ao,none⟩:Addr).add j).block=ab:=by unfold Addr.add;split <;> rfl
    have eo:((⟨ab,ao,none⟩:Addr).add j).off=ao+j:=by
     unfold Addr.add;split
     ·rename_i h;subst h;rfl
     ·rfl
    rw[eb,e1'] at e2;cases e2
    rw[eo] at e3;show cs.toList[ao+(j:Int).toNat*1]? =_;rw[Int.toNat_natCast,Nat.mul_one,Array.getElem?_toList,e3];have hjn:j<m+1:=by omega
    rw[List.getElem?_take_of_lt hjn,List.getD_eq_getElem?_getD]
theorem BQ {H:Type}{enc:TypeId×Value->H}{C:Checked}{os:Os}{f:FuncId}{fn:Func}{s:ChangeSpec}{conds:List PathCond}{apart:Bool}{X:World->Array Value->Prop}(w0:World)(args:Array Value)(fuel:Nat)(hos:w0.os=os)
  (gM:(w0.forCall (fun _ _=> 0) ⟨#[],args,[]⟩).Shaped C.prog)
  (dC:Input.okWideB C.prog (w0.forCall (fun _ _=> 0) ⟨#[],args,[]⟩) f ⟨#[],args,[]⟩=true)
  (aB7:s.preB enc C.prog fn conds apart (w0.forCall (fun _ _=> 0) ⟨#[],args,[]⟩).memory args fuel=true)
  (IE:s.sizedB enc C.prog fn apart (w0.forCall (fun _ _=> 0) ⟨#[],args,[]⟩).memory args fuel=true)
  (hx:X (w0.forCall (fun _ _=> 0) ⟨#[],args,[]⟩).memory args):
  ∃ (w:World) (tape:Tape) (i:Input),w.os=os/\(w.forCall tape i).Shaped C.prog/\i.vars= []/\Input.okWide C.prog (w.forCall tape i) .any w.heap.size f i/\
   ((s.pre enc C.prog fn conds apart (w.forCall tape i).memory i.args/\X (w.forCall tape i).memory i.args)/\sizedMet enc C.prog fn (OpenSpec.ofChange s) apart (w.forCall tape i).memory i.args)/\({}:Assume).holds C.prog (lone (Frame.enter C.prog f i.args .normal) [] (w.forCall tape i)):=
 ⟨w0,fun _ _=> 0,⟨#[],args,[]⟩,hos,gM,(Input.okWide_of_okWideB (base:=0) dC).1,(Input.okWide_of_okWideB dC).2,⟨⟨ChangeSpec.pre_of_preB aB7,hx⟩,sizedMet_of_sizedB IE⟩,by
  simp only[Assume.holds];simp⟩
theorem bO(Lk:Looks){p:Pinned}{s:OpenSpec}{c:OpenClaim}(kinds:List LaidKind)(tests:Bool)(vL:Bool×String)(lk:Bool)
  (hc:c.holds p s) (hw:c.wfByText s=true) (aGr:c.laidByTextAt Lk p kinds tests)
  (eC:c.start=.entering) (hnb:c.noBlocks=false/\c.again=false) (hm:p.checked.prog.mainIs=some (vL.1,vL.2.toList)) (hn:(!vL.1&&vL.2.isEmpty && !lk)=false)
  (hl:∀f fn,p.checked.prog.funcNamed c.func=some f->p.checked.prog.funcs[f]? =some fn->lk=p.checked.prog.looks []/\∀(j:Nat) t,fn.params[j]? =some t->p.checked.prog.wantsStandIn t=false)
  (hg:true=c.goesBy p.checked.prog):
  Claim7.holds p (.plain s) { stood:= { row:=c,standIns:= [],harness:=vL,looks:=lk },kinds:= [],alts:= [],goes:=true,laidByText:=true,laidKinds:=kinds,laidTests:=tests,laidLooks:=Lk }:=by
 have h6:∀r:OpenClaim,Claim7.isSixth { stood:= { row:=r,standIns:= [],harness:=vL,looks:=lk },kinds:= [] }=false:=fun r=> by simpa [Claim7.isSixth] using hn
 obtain⟨h1,h2⟩:=Claim7.tied_new_at Lk kinds tests (Claim7.new_of_sixth hc vL lk eC hnb hm (h6 c) hl) hw;exact⟨⟨h1,h2⟩,(fun D hD=> by cases hD),aGr,(fun h=> by cases h),hg⟩
theorem u6 {ps:Array TypeId}(h:ps.toList.all (fun u=> !prog.wantsStandIn u)=true):∀(j:Nat) t,ps[j]? =some t->prog.wantsStandIn t=false:=fun j t ht=> by
 have hm:t∈ps.toList:=by simpa using Array.mem_of_getElem? ht
 simpa using List.all_eq_true.1 h t hm
theorem R3:prog.cellsOf 3=1:=by kernel_rfl
theorem aBG:prog.cellsOf 9=1:=by kernel_rfl
theorem C9:prog.cellsOf 43=1:=by kernel_rfl
theorem D9:prog.cellsOf 31=1:=by kernel_rfl
theorem E9:prog.cellsOf 45=4:=by kernel_rfl
theorem F9:prog.cellsOf 66=1:=by kernel_rfl
theorem mY:prog.cellsOf 37=2:=by kernel_rfl
theorem nY:prog.cellsOf 39=4:=by kernel_rfl
theorem oY:prog.cellsOf 68=3:=by kernel_rfl
section
variable {H:Type}{enc:TypeId×Value->H}{P:Program}{W:World}{base:Nat}{sp:Nat->Bool}{held:Bool}
theorem iI:∀ {ts:List TypeId} {vs:List Value} {ds:List (DataW H)} {p:List MemPlace},DataW.TrodAll enc P W base sp held ts vs ds p->∀(j:Nat) t v,ts[j]? =some t->vs[j]? =some v->∃d q,DataW.Trod enc P W base sp held t v d q
 | [],_,_,_,_,_,_,_,h,_=> by simp at h
 | t ::ts,v::vs,d::ds,p,⟨a,b,h1,h2,_⟩,j,t',v',ht,hv=> by
  cases j with
  | zero=>
   simp only[List.getElem?_cons_zero,Option.some.injEq] at ht hv;subst ht hv;exact⟨_,_,h1⟩
  | succ j=>
   simp only[List.getElem?_cons_succ] at ht hv;exact iI h2 j t' v' ht hv
 | _::_,[],_,_,h,_,_,_,_,_=> by cases h
 | _::_,_::_,[],_,h,_,_,_,_,_=> by cases h
end
theorem aAa {gs:List Value}{o:Nat}{a b c d:Value}(h0:gs[o]? =some a)(h1:gs[o+1]? =some b)(h2:gs[o+2]? =some c)(h3:gs[o+3]? =some d):BC true 4 gs o=some (.agg ⟨[a,b,c,d]⟩):=by
 have NB:=(List.getElem?_eq_some_iff.1 h3).1;have e:(gs.drop o).take 4= [a,b,c,d]:=by
  apply List.ext_getElem?
  intro i;rcases i with _|_|_|_|i
  ·simpa using h0
  ·simpa using h1
  ·simpa using h2
  ·simpa using h3
  ·simp
   omega
 unfold BC;rw[show Nat.ble (o+4) gs.length=true from Nat.ble_eq_true_of_le oM];simp only[e]
theorem I7 {gs:List Value}{o:Nat}{a b c:Value}(h0:gs[o]? =some a)(h1:gs[o+1]? =some b)(h2:gs[o+2]? =some c):BC true 3 gs o=some (.agg ⟨[a,b,c]⟩):=by
 have NB:=(List.getElem?_eq_some_iff.1 h2).1;have e:(gs.drop o).take 3= [a,b,c]:=by
  apply List.ext_getElem?
  intro i;rcases i with _|_|_|i
  ·simpa using h0
  ·simpa using h1
  ·simpa using h2
  ·simp
   omega
 unfold BC;rw[show Nat.ble (o+3) gs.length=true from Nat.ble_eq_true_of_le oM];simp only[e]
theorem rM(ab ao j:Nat):(⟨ab,ao,none⟩:Addr).add j=⟨ab,ao+j,none⟩:=by
 unfold Addr.add;split
 ·rename_i h;subst h;rfl
 ·rfl
theorem aDM(s:ByteArray):Value.string s=vA s.data.toList:=by
 obtain⟨⟨l⟩⟩:=s;rfl
section
variable {H:Type}{enc:TypeId×Value->H}{W:World}
theorem jT {n:Nat}{cs:List Value}{y:DataW H×List MemPlace}(h:DataW.trod enc prog W 0 (fun _=> true) true n 3 cs=some y):∃z,cs= [.int .i64 z]:=by
 obtain⟨z,h,_⟩:=DataW.trod_int (by kernel_rfl:prog.underlying 3=some (.int .i64)) h;exact⟨z,h⟩
theorem N7 {n:Nat}{cs:List Value}{y:DataW H×List MemPlace}(h:DataW.trod enc prog W 0 (fun _=> true) true n 9 cs=some y):∃z:List UInt8,cs= [vA z]:=by
 obtain⟨z,h,_⟩:=DataW.trod_string (by kernel_rfl:prog.underlying 9=some .string) h;exact⟨z.data.toList,by rw[h,aDM]⟩
theorem C1 {n:Nat}{cs:List Value}{y:DataW H×List MemPlace}(h:DataW.trod enc prog W 0 (fun _=> true) true n 66 cs=some y):
  ∃(F:Option Addr) (m fc:Nat) (x:Nat->Int),cs= [.slice F m fc]/\m<=fc/\GB (NC W) F m x:=by
 rcases open_ints (by kernel_rfl:prog.underlying 66=some (.slice 110)) dZ lY h with ⟨h1,_⟩|⟨a',len,cap,zs,h1,_,h3,h4,h5,_,h7,h8⟩
 ·exact⟨none,0,0,fun _=> 0,h1,Nat.le_refl _,.inl rfl⟩
 ·simp only[if_true] at h5;refine⟨some a',len,cap,fun j=> zs.getD j 0,h1,h3,?_⟩;cases len with
  | zero=> exact .inl rfl
  | succ m=>
   obtain⟨ab,ao,spt⟩:=a';have h0:=h7 0 oM;have KY:spt=none:=by simpa [Addr.add] using World.cell?_spot h0
   subst KY;obtain⟨cs',gt,gz,e1,_⟩:=tE h0;have e1':W.heap[ab]? =some (.cells cs' gt gz):=by simpa [Addr.add] using e1
   refine .inr ⟨ab,ao,false,cs'.toList,gt,gz,rfl,by simp only[NC,e1',Option.map_some],fun j hj=> ?_⟩;have h9:=h7 j oM;rw[rM] at h9;obtain⟨cs2,gt',gz',e2,e3⟩:=tE h9;rw[e1'] at e2;cases e2
   show cs'.toList[ao+(j:Int).toNat*1]? =_;rw[Int.toNat_natCast,Nat.mul_one,Array.getElem?_toList,e3]
theorem zR {n:Nat}{cs:List Value}{y:DataW H×List MemPlace}(h:DataW.trod enc prog W 0 (fun _=> true) true n 37 cs=some y):∃a b,cs= [.int .i64 a,.int .i64 b]:=by
 obtain⟨y0,y1,m,_,hl,t0,t1⟩:=trod_struct2 Tryz.underlying37 h;rw[mY] at hl;obtain⟨c0,c1,rfl⟩:∃a b,cs= [a,b]:=by
  match cs,hl with
  | [a,b],_=> exact⟨a,b,rfl⟩
 simp only[R3,List.drop_zero,List.drop_succ_cons,List.take_succ_cons,List.take_zero] at t0 t1;obtain⟨a,ha⟩:=jT t0;obtain⟨b,hb⟩:=jT t1;simp only[List.cons.injEq,and_true] at ha hb;exact⟨a,b,by rw[ha,hb]⟩
theorem XX {n:Nat}{cs:List Value}{y:DataW H×List MemPlace}(h:DataW.trod enc prog W 0 (fun _=> true) true n 39 cs=some y):∃x:Int×Int×Int×Int,cs= [.int .i64 x.1,.int .i64 x.2.1,.int .i64 x.2.2.1,.int .i64 x.2.2.2]:=by
 obtain⟨y0,y1,m,_,hl,t0,t1⟩:=trod_struct2 Tryz.underlying39 h;rw[nY] at hl;obtain⟨c0,c1,c2,c3,rfl⟩:∃a b c d,cs= [a,b,c,d]:=by
  match cs,hl with
  | [a,b,c,d],_=> exact⟨a,b,c,d,rfl⟩
 simp only[mY,List.drop_zero,List.drop_succ_cons,List.take_succ_cons,List.take_zero] at t0 t1;obtain⟨a,b,h1⟩:=zR t0;obtain⟨c,d,h2⟩:=zR t1;simp only[List.cons.injEq,and_true] at h1 h2;exact⟨(a,b,c,d),by rw[h1.1,h1.2,h2.1,h2.2]⟩
abbrev LnX:=List UInt8×List UInt8×Option Addr×Nat×Nat×(Nat->Int)
theorem aAU {n:Nat}{cs:List Value}{y:DataW H×List MemPlace}(h:DataW.trod enc prog W 0 (fun _=> true) true n 68 cs=some y):
  ∃x:LnX,cs= [vA x.1,vA x.2.1,.slice x.2.2.1 x.2.2.2.1 x.2.2.2.2.1]/\x.2.2.2.1<=x.2.2.2.2.1/\GB (NC W) x.2.2.1 x.2.2.2.1 x.2.2.2.2.2:=by
 obtain⟨xs,m,_,_,hl,hxl,hf⟩:=DataW.trod_struct Tryz.underlying68 h;rw[oY] at hl;obtain⟨c0,c1,c2,rfl⟩:∃a b c,cs= [a,b,c]:=by
  match cs,hl with
  | [a,b,c],_=> exact⟨a,b,c,rfl⟩
 obtain⟨x0,x1,x2,rfl⟩:∃a b c,xs= [a,b,c]:=by
  match xs,hxl with
  | [a,b,c],_=> exact⟨a,b,c,rfl⟩
 have f0:=hf 0 { name:= "Name",type:=9,offset:=0,embedded:=false,tag:= "",pkgPath:= "",byteOffset:=0 } rfl;have f1:=hf 1 { name:= "Number",type:=9,offset:=1,embedded:=false,tag:= "",pkgPath:= "",byteOffset:=16 } rfl;have f2:=hf 2 { name:= "Free",type:=66,offset:=2,embedded:=false,tag:= "",pkgPath:= "",byteOffset:=32 } rfl;simp only[aBG,F9,List.drop_zero,List.drop_succ_cons,List.take_succ_cons,List.take_zero,List.getElem?_cons_zero,List.getElem?_cons_succ] at f0 f1 f2;obtain⟨s0,e0⟩:=N7 f0;obtain⟨s1,e1⟩:=N7 f1;obtain⟨F,k,fc,x,e2,h1,h2⟩:=C1 f2;simp only[List.cons.injEq,and_true] at e0 e1 e2;exact⟨(s0,s1,F,k,fc,x),by rw[e0,e1,e2],h1,h2⟩
theorem G0 {base:Nat}{v:Value}(hv:Value.okWide prog W .any base 45 v)(h:∃d q,DataW.Trod enc prog W 0 (fun _=> true) true 45 v d q):
  ∃(k:Bk) (A:Option Addr) (lc:Nat) (B:Option Addr) (tc:Nat),v=k.val A lc B tc/\GD (NC W) k A lc B tc:=by
 have lX:∃cs,v=.agg cs:=by
  unfold Value.okWide at hv;rw[Tryz.underlying45] at hv;obtain⟨cs,h,_⟩:=hv;exact⟨cs,h⟩
 obtain⟨⟨cs⟩,rfl⟩:=lX;obtain⟨d,q,n,h⟩:=h;obtain⟨xs,m,_,_,hl,hxl,hf⟩:=DataW.trod_struct Tryz.underlying45 h;have vT:(Value.agg ⟨cs⟩).cells.toList=cs:=rfl;rw[vT] at hl hf;rw[E9] at hl;obtain⟨c0,c1,c2,c3,rfl⟩:∃a b c d,cs= [a,b,c,d]:=by
  match cs,hl with
  | [a,b,c,d],_=> exact⟨a,b,c,d,rfl⟩
 obtain⟨x0,x1,x2,x3,rfl⟩:∃a b c d,xs= [a,b,c,d]:=by
  match xs,hxl with
  | [a,b,c,d],_=> exact⟨a,b,c,d,rfl⟩
 have f0:=hf 0 { name:= "Gap",type:=3,offset:=0,embedded:=false,tag:= "",pkgPath:= "",byteOffset:=0 } rfl;have f1:=hf 1 { name:= "Give",type:=3,offset:=1,embedded:=false,tag:= "",pkgPath:= "",byteOffset:=8 } rfl;have f2:=hf 2 { name:= "Lines",type:=43,offset:=2,embedded:=false,tag:= "",pkgPath:= "",byteOffset:=16 } rfl;have f3:=hf 3 { name:= "Trains",type:=31,offset:=3,embedded:=false,tag:= "",pkgPath:= "",byteOffset:=40 } rfl;simp only[R3,C9,D9,List.drop_zero,List.drop_succ_cons,List.take_succ_cons,List.take_zero,List.getElem?_cons_zero,List.getElem?_cons_succ] at f0 f1 f2 f3;obtain⟨MF,e0⟩:=jT f0;obtain⟨lD,e1⟩:=jT f1;simp only[List.cons.injEq,and_true] at e0 e1;subst e0 e1
 -- the lines
 obtain ⟨A,nl,lc,fl,el,bR,hA⟩:∃(A:Option Addr) (nl lc:Nat) (f:Nat->LnX),c2=.slice A nl lc/\nl<=lc/\
   (nl=0\/∃b o fz gs gt gz,A=some ⟨b,o,none⟩/\NC W b=some (fz,.cells ⟨gs⟩ gt gz)/\∀i:Nat,i<nl->BC true 3 gs (o+(i:Int).toNat*3)=some (GL (f i).1 (f i).2.1 (f i).2.2.1 (f i).2.2.2.1 (f i).2.2.2.2.1)/\(f i).2.2.2.1<=(f i).2.2.2.2.1/\GB (NC W) (f i).2.2.1 (f i).2.2.2.1 (f i).2.2.2.2.2):=by
  rcases Go.Deep.open_slice Tryz.underlying43 f2 with ⟨h1,_⟩|⟨a,len,cap,mm,nn,D,Pl,h1,_,h3,_,h5,_,h7⟩
  ·simp only[List.cons.injEq,and_true] at h1;exact⟨none,0,0,fun _=> ([],[],none,0,0,fun _=> 0),h1,Nat.le_refl _,.inl rfl⟩
  ·simp only[List.cons.injEq,and_true] at h1;simp only[if_true] at h5;have hex:∀i,i<len->∃x:LnX,W.cells? 0 (a.add (i*3)) 3=some [vA x.1,vA x.2.1,.slice x.2.2.1 x.2.2.2.1 x.2.2.2.2.1]/\x.2.2.2.1<=x.2.2.2.2.1/\GB (NC W) x.2.2.1 x.2.2.2.1 x.2.2.2.2.2:=fun i hi=> by
    obtain⟨cs',g1,g2⟩:=h7 i oM;rw[oY] at g1;obtain⟨x,hx,mX⟩:=aAU g2;exact⟨x,by rw[g1,hx],mX⟩
   obtain⟨f,hfx⟩:=Go.Deep.choose_lt hex;refine⟨some a,len,cap,f,h1,h3,?_⟩;cases len with
   | zero=> exact .inl rfl
   | succ k=>
    obtain⟨ab,ao,spt⟩:=a;have YK:∀i,i<k+1->∀j,j<3->W.cell? (((⟨ab,ao,spt⟩:Addr).add (i*3)).add j)=([vA (f i).1,vA (f i).2.1,.slice (f i).2.2.1 (f i).2.2.2.1 (f i).2.2.2.2.1]:List Value)[j]? :=fun i hi j hj=> (World.cells?_some (hfx i hi).1).2.2 j hj;have IZ:=YK 0 oM 0 dE;have KY:spt=none:=by simpa [Addr.add] using World.cell?_spot IZ
    subst KY;obtain⟨gs,gt,gz,g1,_⟩:=tE IZ;have g1':W.heap[ab]? =some (.cells gs gt gz):=by simpa [Addr.add] using g1
    refine .inr ⟨ab,ao,false,gs.toList,gt,gz,rfl,by simp only[NC,g1',Option.map_some],fun i hi=> ⟨?_,(hfx i hi).2⟩⟩;have zL:∀j,j<3->gs.toList[ao+i*3+j]? =([vA (f i).1,vA (f i).2.1,.slice (f i).2.2.1 (f i).2.2.2.1 (f i).2.2.2.2.1]:List Value)[j]? :=fun j hj=> by
     have h8:=YK i hi j hj;rw[rM,rM] at h8;have K5:∃z,([vA (f i).1,vA (f i).2.1,.slice (f i).2.2.1 (f i).2.2.2.1 (f i).2.2.2.2.1]:List Value)[j]? =some z:=⟨_,List.getElem?_eq_getElem (by simpa using hj)⟩
     obtain⟨z,hz⟩:=K5;rw[hz] at h8 ⊢;obtain⟨gs',gt',gz',g2,g3⟩:=tE h8;rw[g1'] at g2;cases g2
     rw[Array.getElem?_toList];exact g3
    rw[Int.toNat_natCast];exact I7 (zL 0 dE) (zL 1 dE) (zL 2 dE)
 -- the trains
 obtain ⟨B,nt,tc,ft,et,SZ,hB⟩:∃(B:Option Addr) (nt tc:Nat) (f:Nat->Int×Int×Int×Int),c3=.slice B nt tc/\nt<=tc/\
   (nt=0\/∃b o fz gs gt gz,B=some ⟨b,o,none⟩/\NC W b=some (fz,.cells ⟨gs⟩ gt gz)/\∀i:Nat,i<nt->BC true 4 gs (o+(i:Int).toNat*4)=some (TD (f i).1 (f i).2.1 (f i).2.2.1 (f i).2.2.2)):=by
  rcases Go.Deep.open_slice Tryz.underlying31 f3 with ⟨h1,_⟩|⟨a,len,cap,mm,nn,D,Pl,h1,_,h3,_,h5,_,h7⟩
  ·simp only[List.cons.injEq,and_true] at h1;exact⟨none,0,0,fun _=> (0,0,0,0),h1,Nat.le_refl _,.inl rfl⟩
  ·simp only[List.cons.injEq,and_true] at h1;simp only[if_true] at h5;have hex:∀i,i<len->∃x:Int×Int×Int×Int,W.cells? 0 (a.add (i*4)) 4=some [.int .i64 x.1,.int .i64 x.2.1,.int .i64 x.2.2.1,.int .i64 x.2.2.2]:=fun i hi=> by
    obtain⟨cs',g1,g2⟩:=h7 i oM;rw[nY] at g1;obtain⟨x,hx⟩:=XX g2;exact⟨x,by rw[g1,hx]⟩
   obtain⟨f,hfx⟩:=Go.Deep.choose_lt hex;refine⟨some a,len,cap,f,h1,h3,?_⟩;cases len with
   | zero=> exact .inl rfl
   | succ k=>
    obtain⟨ab,ao,spt⟩:=a;have YK:∀i,i<k+1->∀j,j<4->W.cell? (((⟨ab,ao,spt⟩:Addr).add (i*4)).add j)=([Value.int .i64 (f i).1,.int .i64 (f i).2.1,.int .i64 (f i).2.2.1,.int .i64 (f i).2.2.2]:List Value)[j]? :=fun i hi j hj=> (World.cells?_some (hfx i hi)).2.2 j hj;have IZ:=YK 0 oM 0 dE;have KY:spt=none:=by simpa [Addr.add] using World.cell?_spot IZ
    subst KY;obtain⟨gs,gt,gz,g1,_⟩:=tE IZ;have g1':W.heap[ab]? =some (.cells gs gt gz):=by simpa [Addr.add] using g1
    refine .inr ⟨ab,ao,false,gs.toList,gt,gz,rfl,by simp only[NC,g1',Option.map_some],fun i hi=> ?_⟩;have zL:∀j,j<4->gs.toList[ao+i*4+j]? =([Value.int .i64 (f i).1,.int .i64 (f i).2.1,.int .i64 (f i).2.2.1,.int .i64 (f i).2.2.2]:List Value)[j]? :=fun j hj=> by
     have h8:=YK i hi j hj;rw[rM,rM] at h8;have K5:∃z,([Value.int .i64 (f i).1,.int .i64 (f i).2.1,.int .i64 (f i).2.2.1,.int .i64 (f i).2.2.2]:List Value)[j]? =some z:=⟨_,List.getElem?_eq_getElem (by simpa using hj)⟩
     obtain⟨z,hz⟩:=K5;rw[hz] at h8 ⊢;obtain⟨gs',gt',gz',g2,g3⟩:=tE h8;rw[g1'] at g2;cases g2
     rw[Array.getElem?_toList];exact g3
    rw[Int.toNat_natCast];exact aAa (zL 0 dE) (zL 1 dE) (zL 2 dE) (zL 3 dE)
 subst el et;refine⟨⟨MF,lD,nl,fun i=> (fl i).1,fun i=> (fl i).2.1,fun i=> (fl i).2.2.2.1,fun i=> (fl i).2.2.2.2.2,nt,fun i=> (ft i).1,fun i=> (ft i).2.1,fun i=> (ft i).2.2.1,fun i=> (ft i).2.2.2⟩,A,lc,B,tc,rfl,⟨bR,?_⟩,⟨SZ,hB⟩⟩;exact hA.imp id fun⟨b,o,fz,gs,gt,gz,h1,h2,h3⟩=> ⟨b,o,fz,gs,gt,gz,h1,h2,fun i hi=> ⟨_,_,(h3 i hi).1,(h3 i hi).2⟩⟩
end
theorem wR {gs:List Value}{o sz:Nat}{f:Nat->List Value}(h0:0<sz)(hf:∀i,(f i).length=sz):∀n,(∀i,i<n->(gs.drop (o+i*sz)).take sz=f i)->(gs.drop o).take (n*sz)=QA n f
 | 0,_=> by simp[QA]
 | n+1,h=> by
  rw[ND,<-wR h0 hf n (fun i hi=> h i oM),<-h n oM,Nat.succ_mul,List.take_add,List.drop_drop]
theorem LP {H:View}{b o c sz n:Nat}{g:Bool}{gs:List Value}{gt:TypeId}{gz:Nat×Nat}{f:Nat->List Value}(h0:0<sz)(hf:∀i,(f i).length=sz)(hn:0<n)(hb:H b=some (g,.cells ⟨gs⟩ gt gz))(h:∀i:Nat,i<n->o+i*sz+sz<=gs.length/\(gs.drop (o+i*sz)).take sz=f i):
  UA H sz (.slice (some ⟨b,o,none⟩) n c) n (QA n f):=by
 have h1:=(h (n-1) oM).1;have h2:o+n*sz<=gs.length:=by
  have:n*sz=(n-1)*sz+sz:=by rw[<-Nat.succ_mul];congr 1;omega
  omega
 have:=UA.of (sz:=sz) (m:=n) (c:=c) (off:=o) hb h2;rw[wR h0 hf n (fun i hi=> (h i hi).2)] at this;exact this
theorem O4 {H:View}{F:Option Addr}{n c:Nat}{x:Nat->Int}(h:GB H F n x):UA H 1 (.slice F n c) n (QA n (wN x)):=by
 rcases Nat.eq_zero_or_pos n with h0|h0
 ·subst h0;exact⟨⟨_,_,rfl⟩,rfl,.inl ⟨_,_,rfl,rfl⟩⟩
 ·rcases h with h|⟨b,o,f,gs,gt,gz,rfl,hb,hl⟩
  ·omega
  ·refine LP dE (fun _=> rfl) h0 hb fun i hi=> ?_;have h1:=hl i hi;rw[Int.toNat_natCast] at h1;have h2:gs[o+i*1]? =some (.int .i64 (x i)):=h1;obtain⟨h3,h4⟩:=List.getElem?_eq_some_iff.1 h2;refine⟨oM,?_⟩;rw[List.drop_eq_getElem_cons h3,h4];rfl
theorem OY {sz off:Nat}{gs c:List Value}(h:BC true sz gs off=some (.agg ⟨c⟩)):off+sz<=gs.length/\(gs.drop off).take sz=c:=by
 obtain⟨h1,h2⟩:=qP h;simp only[Value.agg.injEq,Array.mk.injEq] at h2;exact⟨h1,h2.symm⟩
theorem GD.book {H:View}{k:Bk}{A:Option Addr}{lc:Nat}{B:Option Addr}{tc:Nat}(h:GD H k A lc B tc):∃F fc,VB H k A lc B tc F fc:=by
 obtain⟨⟨bR,hA⟩,SZ,hT⟩:=h;have hT':UA H 4 (.slice B k.nt tc) k.nt (QA k.nt (PA k)):=by
  rcases Nat.eq_zero_or_pos k.nt with h0|h0
  ·rw[h0];exact⟨⟨_,_,rfl⟩,rfl,.inl ⟨_,_,rfl,rfl⟩⟩
  ·rcases hT with h|⟨b,o,f,gs,gt,gz,rfl,hb,hl⟩
   ·omega
   ·refine LP dE (fun _=> rfl) h0 hb fun i hi=> ?_;have:=OY (hl i hi);rw[Int.toNat_natCast] at this;exact this
 rcases Nat.eq_zero_or_pos k.nl with h0|h0
 ·refine⟨fun _=> none,fun _=> 0,bR,SZ,?_,hT',fun i hi=> by omega,fun i hi=> by omega⟩;rw[h0];exact⟨⟨_,_,rfl⟩,rfl,.inl ⟨_,_,rfl,rfl⟩⟩
 ·rcases hA with h|⟨b,o,f,gs,gt,gz,rfl,hb,hl⟩
  ·omega
  ·have hex:∀i,i<k.nl->∃x:Option Addr×Nat,BC true 3 gs (o+(i:Int).toNat*3)=some (GL (k.name i) (k.num i) x.1 (k.nf i) x.2)/\k.nf i<=x.2/\GB H x.1 (k.nf i) (k.free i):=fun i hi=> by
    obtain⟨F,fc,h1⟩:=hl i hi;exact⟨(F,fc),h1⟩
   obtain⟨y,hy⟩:=Go.Deep.choose_lt hex;refine⟨fun i=> (y i).1,fun i=> (y i).2,bR,SZ,LP (f:=PG k (fun i=> (y i).1) fun i=> (y i).2) dE (fun _=> rfl) h0 hb fun i hi=> ?_,hT',fun i hi=> (hy i hi).2.1,fun i hi=> O4 (hy i hi).2.2⟩;have:=OY (hy i hi).1;rw[Int.toNat_natCast] at this;exact this
section
variable {H:Type}{enc:TypeId×Value->H}{W:World}
end
end Go.Proofs.YtldmfjcgjdchcaaGreatDoor
namespace Go.Proofs.YtldmfjcgjdchcaaGreatDoor.Sg
open Go.RL Go.Proofs.Tryz
set_option maxHeartbeats 8000000
set_option maxRecDepth 10000
def YB(a b:Int):Value:=.agg ⟨[.int .i64 a,.int .i64 b]⟩
section
variable(M:Md prog)(H:View)
theorem gQ(a b low high many:Int)(h1: -1000000000<=low)(h2:high<=1000000000):
  aA M 366 #[YB a b,.int .i64 low,.int .i64 high,.int .i64 many] H (fun v H'=> H.le H'/\v=.bool (decide (low<=a/\a<=b/\b<=high/\b-a<many))):=by
 refine .en func366 ntmps366 fun St c cs hK=> ?_;by_cases c1:low<=a
 all_goals by_cases c2:a<=b
 all_goals by_cases c3:b<=high
 all_goals by_cases c4:b-a<many
 all_goals
  refine U2 ?_;refine .bo fun b1=> ?_;refine U7 ?_;refine .i ?_ (z:=by first|exact CD oM|exact BD oM);refine U ?_;first|(refine .sk ?_)|(refine .x .fa ?_)
  first|(refine .sk ?_)|((refine .x (.ld 0) ?_))
  first|(refine .sk ?_)|(refine .x .fa ?_)
  first|(refine .sk ?_)|((refine .x (.ld 0) ?_))
  first|(refine .sk ?_)|(refine .x (.it (zz:=(by first|exact CD oM|exact BD oM))) ?_)
  refine U2 ?_;first|(refine .sk ?_)|(refine .x .fa ?_)
  first|(refine .sk ?_)|((refine .x (.ld 0) ?_))
  first|(refine .sk ?_)|(refine .m ?_)
  first|(refine .sk ?_)|(refine .x (.it (zz:=(by first|exact CD oM|exact BD oM))) ?_)
  refine U2 ?_;first|(refine .sk ?_)|(refine .x .fa ?_)
  first|(refine .sk ?_)|((refine .x (.ld 0) ?_))
  first|(refine .sk ?_)|(refine .x .fa ?_)
  first|(refine .sk ?_)|((refine .x (.ld 0) ?_))
  first|(refine .sk ?_)|(refine .x (.it (zz:=ZP oM oM)) ?_)
  first|(refine .sk ?_)|(refine .m ?_)
  first|(refine .sk ?_)|(refine .x (.it (zz:=(by first|exact DN oM|exact lJ oM))) ?_)
  refine U3 ?_;refine .rt hK func366 results366 [_] ?_;exact fun H' hs=> ⟨hs.base,by simp[oC,c1,c2,c3,c4] <;> omega⟩
theorem aBb(a b x:Int):aA M 160 #[YB a b,.int .i64 x] H (fun v H'=> H.le H'/\v=.bool (decide (a<=x/\x<=b))):=by
 refine .en func160 ntmps160 fun St c cs hK=> ?_;by_cases c1:a<=x
 all_goals by_cases c2:x<=b
 all_goals
  refine U2 ?_;refine .bo fun b1=> ?_;refine U7 ?_;refine .i ?_ (z:=by first|exact CD oM|exact BD oM);refine U ?_;first|(refine .sk ?_)|(refine .m ?_)
  first|(refine .sk ?_)|(refine .x .fa ?_)
  first|(refine .sk ?_)|((refine .x (.ld 0) ?_))
  first|(refine .sk ?_)|(refine .x (.it (zz:=(by first|exact CD oM|exact BD oM))) ?_)
  refine U3 ?_;refine .rt hK func160 results160 [_] ?_;exact fun H' hs=> ⟨hs.base,by simp[oC,c1,c2] <;> omega⟩
theorem rE(a b:Int):aA M 153 #[YB a b] H (fun v H'=> H.le H'/\v=YB a b):=by
 refine .en func153 ntmps153 fun St c cs hK=> ?_;refine U2 ?_;refine .bo fun b1=> ?_;refine .al fun b2=> ?_;refine UC ?_;refine .rt hK func153 results153 [_] ?_;exact okB
theorem jP(x:Int):aA M 151 #[.int .i64 x] H (fun v H'=> H.le H'/\v=.bool (decide (0<=x/\x<=31))):=by
 refine .en func151 ntmps151 fun St c cs hK=> ?_;by_cases c1:0<=x
 all_goals by_cases c2:x<=31
 all_goals
  refine U7 ?_;refine .i ?_ (z:=by first|exact oI oM|exact VG oM);refine U ?_;first|(refine .sk ?_)|(refine .m ?_)
  first|(refine .sk ?_)|(refine .x (.it (zz:=(by first|exact CD oM|exact BD oM))) ?_)
  refine U3 ?_;refine .rt hK func151 results151 [_] ?_;exact fun H' hs=> ⟨hs.base,by simp[oC,c1,c2] <;> omega⟩
def EC(pace after:Int):Nat->Int->Int
 | 0,n=> n
 | f+1,n=> if(2*n+1)*pace<after then EC pace after f (n+1) else n
def zB(pace after:Int):Int:=EC pace after 7 0
theorem aV(pace after:Int)(h1:0<=pace)(h2:pace<=1000000):aA M 78 #[.int .i64 pace,.int .i64 after] H (fun v H'=> H.le H'/\v=.int .i64 (zB pace after)):=by
 refine .en func78 ntmps78 fun St c cs hK=> ?_;refine UC ?_;refine Tc.aEk (R':= [(5,.int .i64 0),(0,.int .i64 pace),(1,.int .i64 after)]) ⟨rfl,rfl,rfl,trivial⟩ ?_;refine Tc.sA (σ:= { s:Int×Nat//0<=s.1/\s.1+s.2=7/\EC pace after s.2 s.1=zB pace after })
  (fun s=> ([(5,.int .i64 s.1.1),(0,.int .i64 pace),(1,.int .i64 after)],[])) (fun s=> s.1.2) ?_ ⟨(0,7),by simp,by simp,rfl⟩
 rintro⟨⟨s,f⟩,g1,g2,g3⟩ ih;simp only at g1 g2 g3;have m1:0<=(2*s+1)*pace:=Int.mul_nonneg oM h1;have m2:(2*s+1)*pace<=15*1000000:=Int.mul_le_mul oM h2 h1 oM;show Tc M St _ _ _ _ [(5,.int .i64 s),(0,.int .i64 pace),(1,.int .i64 after)] [] _ _
 match f,g2,g3,ih with
 | 0,g2,g3,_=>
  refine p9 ?_;refine .rt hK func78 results78 [_] ?_;exact fun H' hs=> ⟨hs.base,by simp only[oC];rw[<-g3];rfl⟩
 | f + 1,g2,g3,ih=>
  simp only[EC] at g3;by_cases c:(2*s+1)*pace<after
  ·rw[if_pos c] at g3;refine U7 ?_;refine .i ?_ (z:=RB oM oM);refine U2 ?_;refine .i ?_ (z:=RB oM oM);refine ZF ?_;exact Tc.db (ih ⟨(s+1,f),by simp only;omega,by simp only;omega,g3⟩ (by simp))
  ·rw[if_neg c] at g3;refine U7 ?_;refine .i ?_ (z:=RB oM oM);refine U2 ?_;refine .i ?_ (z:=RB oM oM);refine YD ?_;refine .rt hK func78 results78 [_] ?_;exact fun H' hs=> ⟨hs.base,by simp only[oC];rw[<-g3]⟩
end
end Go.Proofs.YtldmfjcgjdchcaaGreatDoor.Sg
