/-
 Texts of the proofs over baudot/dial.
-/
import Derived.Test.YtldmfjcgjdchcaaGreatDoorS08
import Derived.Test.YtldmfjcgjdchcaaGreatDoorTie
import Derived.Test.YtldmfjcgjdchcaaGreatDoorCards
import Derived.ProofKit
import Derived.LaidMore
import Derived.LaidHandle
import Derived.LaidSub
import Derived.Lay
import Derived.Laws.IdiomArrays
import Derived.Conc.LeavingOf
import Derived.SevenTiedAt
import Derived.Deep.Slices
import Derived.Lib.Bytealg
section
namespace Go.RL
open Go.Conc Go.ConcN Go.RL.Au
open Go.ConcR (stA smA)
open Go.ConcM (muA OsLater)
attribute [local irreducible] mu
section
variable {P:Program}{X:Fk}{Fin:Goroutine->Prop}{B:View}{base:Nat}{os0:T4}{gs:Array Goroutine}{w:World}{t:Trace}{ths:List Th}{m:Mn}{s:Sh}{H:Nat->View}{ks:Nat->Nat}{rks:List gC}{q:Nat->Nat}{D:Nat->Bool}
variable {sl:Option (Nat×Nat)}
theorem PI.hY(h:PI P X Fin B base os0 gs w t ths m s H ks rks q D){i:Nat}{g:Goroutine}(h0:0<i)(SX:i<base)(hg:gs[i]? =some g)(hr:g.status=.running):
  Goes P X Fin B base os0 (PI.meas X gs ths m s rks q) w t gs (runT P (crowd gs w sl) i):=by
 have hN:i<gs.size:=(Array.getElem?_eq_some_iff.1 hg).1;have T7:(i==0)=false:=by simp;omega
 obtain⟨g₁,h1,hq⟩:=h.si.PK i h0 SX;rw[hg] at h1;cases h1
 cases hqq:q i with
 | zero=> rw[hqq] at hq;rw[hq.1] at hr;cases hr
 | succ q'=>
  rw[hqq] at hq;rcases hq with ⟨hf,_⟩|⟨_,g',es,mP,aC,UZ⟩
  ·rw[hf] at hr;cases hr
  ·have vO:=h.wt.leave (i:=i) (fn:=g.frame.fn) (pos:=g.frame.place) h0 hN mP fun κ' T' VC e=> by omega
   have XZ:=h.si.hY (w':=w) (g:=g) (g':=g') (q':=q') (df':=Deaf (t++MemOp.ofEvents i g.frame.fn g.frame.place es)) h.pos h0 SX (eG ofEvents_g) (by rw[Deaf_own];exact UZ);refine .inl ⟨zD P gs i g g' w,w,sl,_,ths,m,s,H,ks,rks,upd q i q',D,runT_crowd_go hg (by rw[T7];exact aC w),⟨h.inv,h.b1,h.ne,h.dd,by rw[GA];exact h.depth,by rw[GA];exact vO,XZ⟩,?_⟩;unfold PI.meas;rw[GA];refine aDd ?_;have:=sumTo_upd (f:=q) q' (fun a=> a) (i:=i) (j:=gs.size) hN;have e:sumTo gs.size (fun a=> upd q i q' a)=sumTo gs.size (upd q i q'):=rfl;have e2:sumTo gs.size (fun a=> q a)=sumTo gs.size q:=rfl;omega
theorem PI.l9(h:PI P X Fin B base os0 gs w t ths m s H ks rks q D){k:Nat}{m':Mn}{s':Sh}{g g':Goroutine}{w':World}{es:Array Event}(hg:gs[0]? =some g)(hk:ks 0=k+1)
  (hm:(m',s')∈m.mv s) (aC:stepG P true g w=.go g' w' es) (vO:WT X B base gs.size os0 w' (t++MemOp.ofEvents 0 g.frame.fn g.frame.place es) ths m' s' H D)
  (hs:T (Mw P true X.ok) (MS P X Fin k m' ths.length) (H 0) g'):
  Goes P X Fin B base os0 (PI.meas X gs ths m s rks q) w t gs (runT P (crowd gs w sl) 0):=by
 have hb:=h.b1;have mP:=aBz h.inv hm;have jM:=h.depth 0 (.inl rfl);rw[hk] at jM;obtain⟨ρ',A8⟩:=hs.wY;have XZ:=h.si.LM (w':=w') (g:=g) (g':=g') (m':=m') (H':=H 0) (k':=k) (ρ':=ρ') (s':=s') (df':=Deaf (t++MemOp.ofEvents 0 g.frame.fn g.frame.place es)) hb h.pos (eG ofEvents_g) (.walk A8);rw[lK] at XZ;refine .inl ⟨zD P gs 0 g g' w',w',sl,_,ths,m',s',H,_,_,q,D,runT_crowd_go hg aC,⟨h.inv.main hm,hb,h.ne,h.dd,fun j hj=> ?_,?_,XZ⟩,Y8 mP⟩
 ·rw[GA] at hj;by_cases e:j=0
  ·subst e;rw[upd_same];omega
  ·rw[upd_ne _ _ e];exact Nat.lt_trans mP (h.depth j hj)
 ·rw[GA];exact vO
theorem xV {gs:Array Goroutine}{g' ch x:Goroutine}{j:Nat}(hj:gs[j]? =some x)(h0:j≠0):((gs.setIfInBounds 0 g').push ch)[j]? =some x:=by
 have KB:=(Array.getElem?_eq_some_iff.1 hj).1;rw[Array.getElem?_push];simp only[Array.size_setIfInBounds];rw[if_neg oM,Array.getElem?_setIfInBounds_ne (Ne.symm h0),hj]
theorem PI.aFN(h:PI P X Fin B base os0 gs w t ths .go s H ks rks q D){k:Nat}{m':Mn}{g g' ch:Goroutine}(hg:gs[0]? =some g)(hk:ks 0=k+1)(hinv:Inv X.n (ths++[.pw]) m' s)(mP:mu X.n (ths++[.pw]) m' s<mu X.n ths .go s)(hd:m'.deaf=0)
  (aC:stepG P true g w=.spawn g' ch w #[]) (hT:T (Mw P true X.ok) (MS P X Fin k m' (ths.length+1)) (ro (H 0)) g') (hC:T (Mw P false X.ok) (WS P X ths.length k .pw) (ro (H 0)) ch):
  Goes P X Fin B base os0 (PI.meas X gs ths .go s rks q) w t gs (runT P (crowd gs w sl) 0):=by
 have hN:0<gs.size:=(Array.getElem?_eq_some_iff.1 hg).1;have hb:=h.b1;have jM:=h.depth 0 (.inl rfl);have yE:=h.si.size;obtain⟨x,hx⟩:∃x:MemOp,x= { g:=0,fn:=g.frame.fn,pos:=g.frame.place,act:=.go gs.size }:=⟨_,rfl⟩
 obtain⟨y,hy⟩:∃y:MemOp,y= { g:=gs.size,fn:=ch.frame.fn,pos:=g.frame.place,act:=.start }:=⟨_,rfl⟩
 have nJ:x.g=0/\x.act=.go gs.size:=by rw[hx];exact⟨rfl,rfl⟩
 have hy':y.g=gs.size/\y.act=.start:=by rw[hy];exact⟨rfl,rfl⟩
 have vO:=h.wt.fork (m':=m') hb yE hd nJ hy';have aCh:=runT_crowd_spawn (P:=P) (sl:=sl) hg aC;have NV:((MemOp.ofEvents 0 g.frame.fn g.frame.place #[]).push { g:=0,fn:=g.frame.fn,pos:=g.frame.place,act:=.go gs.size } |>.push { g:=gs.size,fn:=ch.frame.fn,pos:=g.frame.place,act:=.start })=#[x,y]:=by
  rw[hx,hy];simp[MemOp.ofEvents]
 rw[NV] at aCh;rw[hk] at jM;obtain⟨ρm,aHn⟩:=hT.wY;obtain⟨ρc,aHm⟩:=hC.wY;have aBo:((gs.setIfInBounds 0 g').push ch).size=gs.size+1:=by simp
 have QJ:∀j,Deaf (t ++ #[x,y]) j=Deaf t j:=fun j=> Deaf_still t j _ fun op lA=> by
  simp only[List.mem_toArray,List.mem_cons,List.not_mem_nil,or_false] at lA;rcases lA with rfl|rfl
  ·rw[nJ.2];simp
  ·rw[hy'.2];simp
 have aFH:zP P X Fin base ((gs.setIfInBounds 0 g').push ch) (Deaf (t ++ #[x,y])) (ths++[.pw]) m' s (upd (upd H 0 (ro (H 0))) gs.size (ro (H 0))) (upd (upd ks 0 k) gs.size k) ((rks.set 0 ρm)++[ρc]) q:=by
  refine⟨by rw[aBo,List.length_append];simp;omega,by rw[aBo,List.length_append,List.length_set,h.si.A5];simp,⟨g',ρm,?_,?_,?_⟩,fun κ T hκ=> ?_,fun i h0 SX=> ?_⟩
  ·rw[Array.getElem?_push];simp only[Array.size_setIfInBounds];rw[if_neg oM];simp[hN]
  ·rw[List.getElem?_append_left (by rw[List.length_set,h.si.A5];exact hN),List.getElem?_set_self (by rw[h.si.A5];exact hN)]
  ·rw[upd_ne _ _ oM,upd_same,upd_ne _ _ oM,upd_same];rw[List.length_append];exact .walk aHn
  ·rw[List.getElem?_append] at hκ;split at hκ
   ·obtain⟨g0,ρ0,h3,h4,h5⟩:=h.si.work κ T hκ;have aB:base+κ≠gs.size:=by omega
    refine⟨g0,ρ0,xV h3 oM,?_,?_⟩
    ·have hl:=(List.getElem?_eq_some_iff.1 h4).1;rw[List.getElem?_append_left (by rw[List.length_set];exact hl),List.getElem?_set_ne oM];exact h4
    ·rw[upd_ne _ _ aB,upd_ne _ _ oM,upd_ne _ _ aB,upd_ne _ _ oM,QJ];exact h5
   ·cases hz:κ-ths.length with
    | succ z=> rw[hz] at hκ;cases hκ
    | zero=>
     rw[hz] at hκ;cases hκ
     have he:base+κ=gs.size:=by omega
     refine⟨ch,ρc,?_,?_,?_⟩
     ·rw[he,Array.getElem?_push];simp
     ·rw[he,List.getElem?_append_right (by rw[List.length_set,h.si.A5];omega),List.length_set,h.si.A5];simp
     ·rw[he,upd_same,upd_same];have:κ=ths.length:=by omega
      subst this;exact .walk rfl aHm
  ·obtain⟨g0,h3,h4⟩:=h.si.PK i h0 SX;exact⟨g0,xV h3 oM,by rw[QJ];exact h4⟩
 refine .inl ⟨(gs.setIfInBounds 0 g').push ch,w,sl,#[x,y],ths++[.pw],m',s,upd (upd H 0 (ro (H 0))) gs.size (ro (H 0)),upd (upd ks 0 k) gs.size k,(rks.set 0 ρm)++[ρc],q,D,aCh,⟨hinv,hb,h.ne,fun κ=> ?_,fun j hj=> ?_,by rw[aBo];exact vO,aFH⟩,Y8 mP⟩
 ·rw[h.dd κ,List.getElem?_append];split
  ·rfl
  ·rename_i AU
   rw[List.getElem?_eq_none oM];cases hz:κ-ths.length with
   | zero=> rfl
   | succ z=> rfl
 ·rw[aBo] at hj;by_cases e:j=gs.size
  ·subst e;rw[upd_same];exact Nat.lt_of_lt_of_le mP (Nat.le_of_lt_succ jM)
  ·rw[upd_ne _ _ e];by_cases e0:j=0
   ·subst e0;rw[upd_same];exact Nat.lt_of_lt_of_le mP (Nat.le_of_lt_succ jM)
   ·rw[upd_ne _ _ e0];exact Nat.lt_trans mP (h.depth j (hj.imp id fun⟨h1,h2⟩=> ⟨h1,oM⟩))
theorem PI.Z9(h:PI P X Fin B base os0 gs w t ths m s H ks rks q D){k:Nat}{g:Goroutine}{ρ:gC}(hg:gs[0]? =some g)(hr:g.status=.running)(hk:ks 0=k+1)(h2:rks[0]? =some ρ)(hρ:ρ=.stop)
  (hs:MS P X Fin (k+1) m ths.length (H 0) g):
  Goes P X Fin B base os0 (PI.meas X gs ths m s rks q) w t gs (runT P (crowd gs w sl) 0):=by
 have hN:0<gs.size:=(Array.getElem?_eq_some_iff.1 hg).1;have hb:=h.b1;obtain⟨eI,go,kr,wm,aq,rt,pl⟩:=hs;have rL:=h.wt.vi.sat 0;have jM:=h.depth 0 (.inl rfl);cases hp:m.plain with
 | true=>
  obtain⟨QC,PX⟩:=h.inv.mok;rcases pl hp w s rL h.wt.sh QC PX with ⟨iG,aC⟩|⟨m',s',g',w',es,hm,aC,htu,hqe,hq3⟩
  ·obtain⟨rfl,hQ⟩:=aDg hp iG;have hrk:rks.set 0 .stop=rks:=by
    apply List.ext_getElem?
    intro j;by_cases e:0=j
    ·subst e;rw[List.getElem?_set_self (by rw[h.si.A5];exact hN),h2,hρ]
    ·rw[List.getElem?_set_ne e]
   have XZ:=h.si.LM (w':=w) (g:=g) (g':= { g with status:=.blocked }) (m':=.ws) (H':=H 0) (k':=k+1) (ρ':=.stop) (s':=s) (df':=Deaf t) hb h.pos (fun _ _=> rfl) (.wait g ⟨rfl,hQ,rfl⟩ rfl ⟨eI,go,kr,wm,aq,rt,pl⟩);rw[hrk,lK,show upd ks 0 (k+1)=ks by rw[<-hk];exact lK _ _] at XZ;refine .inl ⟨zD P gs 0 g { g with status:=.blocked } w,w,sl,_,ths,.ws,s,H,ks,rks,q,D,runT_crowd_go hg aC,⟨h.inv,hb,h.ne,h.dd,by rw[GA];exact h.depth,?_,?_⟩,?_⟩
   ·rw[GA];simpa [MemOp.ofEvents] using h.wt
   ·simpa [MemOp.ofEvents] using XZ
   ·unfold PI.meas;rw[GA];exact aDe (GY hg hr rfl)
  ·exact h.l9 hg hk hm aC (h.wt.Z9 h.ne hb hN htu hqe) hq3
 | false=>
  have cQ:m=.kr\/m=.go\/m=.wm\/m=.aq\/m=.ret:=by cases m <;> simp[Mn.plain] at hp <;> simp
  rcases cQ with rfl|rfl|rfl|rfl|rfl
  ·obtain⟨g',aC,hT⟩:=kr rfl w rL;exact h.l9 hg hk (m':=.ke) (s':=s) (by simp[Mn.mv]) aC (h.wt.said h.ne hb hN (.inl rfl) rfl) hT
  ·obtain⟨g',ch,aC,hT,hC⟩:=go rfl w rL;exact h.aFN hg hk (h.inv.fork) (aBy h.inv (by split <;> simp[Mn.wt])) (by split <;> rfl) aC hT hC
  ·obtain⟨g',aC,hT⟩:=wm rfl w rL;exact h.l9 hg hk (m':=.ws) (s':=s) (by simp[Mn.mv]) aC (h.wt.said h.ne hb hN (.inr rfl) rfl) hT
  ·obtain⟨g',aC,hF⟩:=aq rfl w rL;exact .inr ⟨_,sl,g,g',ths,s,H,ks,rks,q,D,hg,runT_crowd_go hg aC,rfl,hF,h⟩
  ·exact(rt rfl).elim
theorem PI.LM(h:PI P X Fin B base os0 gs w t ths m s H ks rks q D){g:Goroutine}(hg:gs[0]? =some g)(hr:g.status=.running):
  Goes P X Fin B base os0 (PI.meas X gs ths m s rks q) w t gs (runT P (crowd gs w sl) 0):=by
 have hN:0<gs.size:=(Array.getElem?_eq_some_iff.1 hg).1;have hb:=h.b1;obtain⟨g₁,ρ,h1,h2,tL⟩:=h.si.main;rw[hg] at h1;cases h1
 have hkp:=h.pos 0 (.inl rfl);obtain⟨k,hk⟩:∃k,ks 0=k+1:=⟨ks 0-1,oM⟩
 have jM:=h.depth 0 (.inl rfl);rw[hk] at tL jM;cases tL with
 | wait g₀ hT hgg hw=> rw[hgg] at hr;cases hr
 | walk hgo=>
  cases ρ with
  | stop=> exact h.Z9 hg hr hk h2 rfl hgo
  | phase f=> obtain⟨_,hp,_⟩:=hgo;exact hp.elim
  | step f=>
   obtain⟨_,aC⟩:=hgo;obtain⟨g',w',es,H',h3,h4,h5⟩:=aC w (h.wt.vi.sat _) ⟨h.wt.cb,_,h.wt.sh⟩;have vO:=h.wt.walk (i:=0) (fn:=g.frame.fn) (pos:=g.frame.place) h.ne (.inl rfl) hN h4 fun κ' T' VC e=> by omega
   have XZ:=h.si.LM (w':=w') (g:=g) (g':=g') (m':=m) (H':=H') (k':=k+1) (ρ':=f w) (s':=s) (df':=Deaf (t++MemOp.ofEvents 0 g.frame.fn g.frame.place es)) hb h.pos (eG ofEvents_g) (.walk h5);refine .inl ⟨zD P gs 0 g g' w',w',sl,_,ths,m,s,upd H 0 H',upd ks 0 (k+1),rks.set 0 (f w),q,D,runT_crowd_go hg h3,⟨h.inv,hb,h.ne,h.dd,fun j hj=> ?_,by rw[GA];exact vO,XZ⟩,Z8 (dZ.set h2 (.step f w))⟩;rw[GA] at hj;by_cases e:j=0
   ·subst e;rw[upd_same];exact jM
   ·rw[upd_ne _ _ e];exact h.depth j hj
theorem PI.aBO(h:PI P X Fin B base os0 gs w t ths m s H ks rks q D):∃(i:Nat) (g:Goroutine),gs[i]? =some g/\g.status=.running:=by
 refine Classical.byContradiction fun gB=> ?_;have hnr:∀(i:Nat) g,gs[i]? =some g->g.status≠ .running:=fun i g hi hr=> gB ⟨i,g,hi,hr⟩;obtain⟨g,ρ,h1,h2,tL⟩:=h.si.main;have hkp:=h.pos 0 (.inl rfl);obtain⟨k,hk⟩:∃k,ks 0=k+1:=⟨ks 0-1,oM⟩
 rw[hk] at tL;cases tL with
 | walk hgo=> exact hnr 0 g h1 (hgo.run (fun _ _ _ h=> h) fun _ _ h=> h.1.1)
 | wait g₀ hT hgg hw=>
  obtain⟨rfl,hq0,_⟩:=hT;obtain⟨κ,T,hκ,hT⟩:=h.inv.live (by simp) (by simp) (by simp[Mn.mv,hq0]);obtain⟨g',ρ',h3,h4,hs'⟩:=h.si.work κ T hκ;have hN:=(Array.getElem?_eq_some_iff.1 h3).1;have aHT:=h.pos (base+κ) (.inr ⟨oM,hN⟩);obtain⟨k',hk'⟩:∃k,ks (base+κ)=k+1:=⟨ks (base+κ)-1,oM⟩
  rw[hk'] at hs';cases hs' with
  | quit hT' _=> subst hT';exact hT rfl
  | quiet n hT' hρ hgo=> exact hnr _ g' h3 (hgo.run fun _ h=> h.1.1)
  | walk hT' hgo=> exact hnr _ g' h3 (hgo.run (fun _ _ _ h=> h) fun _ _ h=> h.1.1)
theorem PI.awake(h:PI P X Fin B base os0 gs w t ths m s H ks rks q D):∀g∈gs,awake g:=by
 intro g hg tm;obtain⟨i,hi,rfl⟩:=Array.mem_iff_getElem.1 hg;have BU:=Array.getElem?_eq_getElem hi;have key:gs[i].status=.running\/gs[i].status=.finished\/gs[i].status=.blocked:=by
  by_cases e0:i=0
  ·subst e0;obtain⟨g,ρ,h1,h2,tL⟩:=h.si.main;have hkp:=h.pos 0 (.inl rfl);obtain⟨k,hk⟩:∃k,ks 0=k+1:=⟨ks 0-1,oM⟩
   rw[hk] at tL;rw[h1] at BU;cases BU
   exact tL.status.imp id .inr
  ·rcases Nat.lt_or_ge i base with KB|AU
   ·obtain⟨g,h1,hq⟩:=h.si.PK i oM KB;rw[h1] at BU;cases BU
    exact hq.status.imp id .inl
   ·have yE:=h.si.size;obtain⟨T,hT⟩:∃T,ths[i-base]? =some T:=⟨_,List.getElem?_eq_getElem oM⟩
    obtain⟨g,ρ,h1,h2,tL⟩:=h.si.work _ T hT;rw[show base+(i-base)=i by omega] at h1 tL;have hkp:=h.pos i (.inr ⟨AU,hi⟩);obtain⟨k,hk⟩:∃k,ks i=k+1:=⟨ks i-1,oM⟩
    rw[hk] at tL;rw[h1] at BU;cases BU
    exact tL.status.imp id .inl
 rcases key with e|e|e <;> rw[e] <;> simp
theorem PI.step(h:PI P X Fin B base os0 gs w t ths m s H ks rks q D):∃d,Goes P X Fin B base os0 (PI.meas X gs ths m s rks q) (w.at d) t gs (stepT P (crowd gs w sl)):=by
 obtain⟨i,g,d,sl',hg,eI,v8⟩:=crowd_pick (P:=P) (w:=w) (sl:=sl) h.awake h.aBO;rw[v8];refine⟨d,?_⟩;have h':=h.at d;by_cases e0:i=0
 ·subst e0;exact h'.LM hg eI
 ·rcases Nat.lt_or_ge i base with KB|AU
  ·exact h'.hY oM KB hg eI
  ·have yE:=h.si.size;have hN:=(Array.getElem?_eq_some_iff.1 hg).1;obtain⟨T,hT⟩:∃T,ths[i-base]? =some T:=⟨_,List.getElem?_eq_getElem oM⟩
   have:=h'.worker (sl:=sl') hT (g:=g) (by rw[show base+(i-base)=i by omega];exact hg) eI
   rwa [show base+(i-base)=i by omega] at this
end
end Go.RL
end
section
namespace Go.RL
open Go.Conc Go.ConcN Go.RL.Au
open Go.ConcR (stA smA)
open Go.ConcM (muA OsLater)
attribute [local irreducible] mu
structure AI(P:Program)(H:View)(os0:T4)(gs:Array Goroutine)(w:World)(t:Trace)(q:Nat->Nat):Prop where
 pos:0<gs.size
 sat:Sat H w
 nr:∀said,¬Race said t
 kn:∀i a,touchAt t i=some a->a.kind=.plain->Knows t 0 i
 np:∀i a b,touchAt t i=some a->a.kind≠ .plain->lb a.loc=some b->H b=none
 P3:∀(i:Nat) op a,t[i]? =some op->op.act.touch? =some a->a.kind≠ .plain->(a.kind=.said->op.g=0)/\(a.kind=.atomic->op.g≠0->¬t.heard i)
 bd:∀i a b,touchAt t i=some a->lb a.loc=some b->b<w.heap.size
 rel:∀a,NoRelease a t
 gb:∀(i:Nat) op,t[i]? =some op->op.g<gs.size
 mem:∀i a,touchAt t i=some a->∃b,lb a.loc=some b
 WW:Deaf t 0=0
 PK:∀i,0<i->i<gs.size->∃g,gs[i]? =some g/\QuitsD P (q i) (Deaf t i) g
 os:ZY os0 w
section
variable {P:Program}{H:View}{os0:T4}{gs:Array Goroutine}{w w':World}{t:Trace}{q:Nat->Nat}
theorem AI.at(h:AI P H os0 gs w t q)(d:Nat):AI P H os0 gs (w.at d) t q:=⟨h.pos,h.sat,h.nr,h.kn,h.np,h.P3,h.bd,h.rel,h.gb,h.mem,h.WW,h.PK,h.os⟩
theorem AI.walk(h:AI P H os0 gs w t q){g g':Goroutine}{H':View}{es:Array Event}{fn:FuncId}{pos:String}(ht:Trans H w H' w' es):AI P H' os0 (zD P gs 0 g g' w') w' (t++MemOp.ofEvents 0 fn pos es) q:=by
 obtain⟨lA,QJ⟩:=BZ (X:=⟨0,0,0,0,fun _ _=> True⟩) (g:=0) (fn:=fn) (pos:=pos) (t:=t) ht.ev;have hd:∀j,Deaf (t++MemOp.ofEvents 0 fn pos es) j=Deaf t j:=fun j=> Deaf_still t j _ QJ;have kQ:∀op∈MemOp.ofEvents 0 fn pos es,∀x,op.act.touch? =some x->x.kind=.plain/\∃b f o,lb x.loc=some b/\H' b=some (f,o):=by
  rw[ofEvents_eq];intro op KE x hx;obtain⟨e,he,rfl⟩:=Array.mem_map.1 KE;have hk:=ht.ev e he;obtain⟨loc,wr,sy⟩:=e;unfold dN at hk;cases loc with
  | cell a=>
   obtain⟨hs,f,o,h1,h2⟩:=hk;simp only at hs;subst hs;cases wr <;> simp[MemAct.ofEvent,MemAct.touch?] at hx <;> subst hx <;> exact⟨rfl,_,f,o,rfl,h1⟩
  | obj r=>
   obtain⟨hs,f,o,h1,h2⟩:=hk;simp only at hs;subst hs;cases wr <;> simp[MemAct.ofEvent,MemAct.touch?] at hx <;> subst hx <;> exact⟨rfl,_,f,o,rfl,h1⟩
  | mark m=>
   cases m <;> first
    | (simp[cU] at hk;done)
    | simp[MemAct.ofEvent,MemAct.touch?] at hx
  | _=> exact hk.elim
 have old:∀i a b f o,touchAt t i=some a->lb a.loc=some b->H' b=some (f,o)->∃o',H b=some (f,o'):=by
  intro i a b f o ha hb hx;rcases ht.ext b f o hx with h1|⟨_,hle⟩
  ·exact h1
  ·have:=h.bd i a b ha hb;omega
 have npk:∀i a b,touchAt t i=some a->a.kind≠ .plain->lb a.loc=some b->H' b=none:=fun i a b ha hk hb=> by
  cases hx:H' b with
  | none=> rfl
  | some x=>
   obtain⟨o',h4⟩:=old i a b x.1 x.2 ha hb hx;rw[h.np i a b ha hk hb] at h4;cases h4
 refine⟨by rw[GA];exact h.pos,ht.sat,fun said=> ?_,fun i a ha hk=> ?_,fun i a b ha hk hb=> ?_,fun i op a c8 ha hk=> ?_,fun i a b ha hb=> ?_,fun a=> (h.rel a).app fun op KE=> lA.rel op KE a,fun i op c8=> ?_,fun i a ha=> ?_,by rw[hd];exact h.WW,fun i h0 hi=> ?_,h.os.trans ⟨ht.os,ht.out⟩⟩
 ·refine noRace_append (h.nr said) lA.own fun i a ha op KE b hb hc=> ?_;obtain⟨IT,VD,_,_⟩:=hc;obtain⟨_,blk,f,o,h1,h2⟩:=kQ op KE b hb;refine h.kn i a ha (Classical.byContradiction fun aB=> ?_);rw[npk i a blk ha aB (by rw[IT];exact h1)] at h2;cases h2
 ·rcases NB ha with ⟨hi,lI⟩|⟨hi,op,KE,kE,hx⟩
  ·exact(h.kn i a lI hk).app _
  ·have:=knows_own kE
   rwa [lA.own op KE] at this
 ·rcases NB ha with ⟨hi,lI⟩|⟨hi,op,KE,kE,hx⟩
  ·exact npk i a b lI hk hb
  ·exact absurd (kQ op KE a hx).1 hk
 ·rcases getElem?_append_cases c8 with ⟨hi,kE⟩|⟨hi,nD⟩
  ·obtain⟨h1,h2⟩:=h.P3 i op a kE ha hk;exact⟨h1,fun e e'=> by rw[heard_old hi];exact h2 e e'⟩
  ·exact absurd (kQ op nD a ha).1 hk
 ·rcases NB ha with ⟨hi,lI⟩|⟨hi,op,KE,kE,hx⟩
  ·exact Nat.lt_of_lt_of_le (h.bd i a b lI hb) ht.size
  ·obtain⟨_,b',f,o,h1,h2⟩:=kQ op KE a hx;rw[h1] at hb;cases hb
   exact ht.sat.lt h2
 ·rw[GA];rcases getElem?_append_cases c8 with ⟨hi,kE⟩|⟨hi,nD⟩
  ·exact h.gb i op kE
  ·rw[lA.own op nD];exact h.pos
 ·rcases NB ha with ⟨hi,lI⟩|⟨hi,op,KE,kE,hx⟩
  ·exact h.mem i a lI
  ·obtain⟨_,b',f,o,h1,h2⟩:=kQ op KE a hx;exact⟨b',h1⟩
 ·rw[GA] at hi;obtain⟨g0,h1,h2⟩:=h.PK i h0 hi;exact⟨_,TB oM h1,by rw[hd,woken_quitsD h2];exact h2⟩
theorem AI.leave(h:AI P H os0 gs w t q){i q':Nat}{g g':Goroutine}{es:Array Event}{fn:FuncId}{pos:String}(h0:0<i)(hi:i<gs.size)(hm:∀e∈es,e.mute=true)(hq:QuitsD P q' (deafBehind (Deaf t i) es) g'):AI P H os0 (zD P gs i g g' w) w (t++MemOp.ofEvents i fn pos es) (upd q i q'):=by
 have ho:=jW (g:=i) (fn:=fn) (pos:=pos) hm;have VO:∀op∈MemOp.ofEvents i fn pos es,op.g=i:=fun op lA=> (ho op lA).1;have old:∀ {j:Nat} {a:Touch},touchAt (t++MemOp.ofEvents i fn pos es) j=some a->touchAt t j=some a:=by
  intro j a ha;rcases NB ha with ⟨_,lI⟩|⟨_,op,lA,_,hxx⟩
  ·exact lI
  ·rw[(ho op lA).2.1] at hxx;cases hxx
 refine⟨by rw[GA];exact h.pos,h.sat,fun said=> noRace_append (h.nr said) VO fun j a _ op lA b hb _=> (by rw[(ho op lA).2.1] at hb;cases hb),fun j a ha hk=> (h.kn j a (old ha) hk).app _,fun j a b ha hk hb=> h.np j a b (old ha) hk hb,fun j op a aC0 ha hk=> ?_,fun j a b ha hb=> h.bd j a b (old ha) hb,fun a=> (h.rel a).app fun op lA=> (ho op lA).2.2 a,fun j op aC0=> ?_,fun j a ha=> h.mem j a (old ha),?_,fun j h0' hj=> ?_,h.os⟩
 ·rcases getElem?_append_cases aC0 with ⟨hl,kE⟩|⟨hl,nD⟩
  ·obtain⟨h1,h2⟩:=h.P3 j op a kE ha hk;exact⟨h1,fun e e'=> by rw[heard_old hl];exact h2 e e'⟩
  ·rw[(ho op nD).2.1] at ha;cases ha
 ·rw[GA];rcases getElem?_append_cases aC0 with ⟨hl,kE⟩|⟨hl,nD⟩
  ·exact h.gb j op kE
  ·rw[VO op nD];exact hi
 ·rw[Deaf_other t (g:=0) (g':=i) oM _ VO];exact h.WW
 ·rw[GA] at hj;by_cases e:j=i
  ·subst e;exact⟨g',KF hj,by rw[upd_same,Deaf_own];exact hq⟩
  ·obtain⟨g0,h1,h2⟩:=h.PK j h0' hj;exact⟨_,TB e h1,by rw[upd_ne _ _ e,Deaf_other t (g:=j) (g':=i) (Ne.symm e) _ VO,woken_quitsD h2];exact h2⟩
theorem AI.begin {X:Fk}{Fin:Goroutine->Prop}{H₁ F:View}{o:Obj}{g:Goroutine}(hn6:X.n<=6)(ne:X.Wg≠X.C)(TJ:H₁ X.Wg=none/\H₁ X.C=none)
  (hd:Dj ((H₁.put X.C (true,o)).put X.Wg (true,X.SW ⟨0,0,0⟩)) F) (h:AI P (((H₁.put X.C (true,o)).put X.Wg (true,X.SW ⟨0,0,0⟩)).plus F) os0 gs w t q)
  (hG:X.GI (fun _=> false) o) (hg:gs[0]? =some g) (hT:∀k,T (Mw P true X.ok) (MS P X Fin k (if 0<X.n then .kd else .wd) 0) (ro H₁) g):
  ∃s H ks rks D,PI P X Fin (H₁.plus F) gs.size os0 gs w t [] (if 0<X.n then .kd else .wd) s H ks rks q D:=by
 obtain⟨ρ,hρ⟩:=(hT (mu X.n [] (if 0<X.n then .kd else .wd) ⟨0,0,0⟩+1)).wY;have hWg:((H₁.put X.C (true,o)).put X.Wg (true,X.SW ⟨0,0,0⟩)) X.Wg=some (true,X.SW ⟨0,0,0⟩):=View.IB ..;have hC:((H₁.put X.C (true,o)).put X.Wg (true,X.SW ⟨0,0,0⟩)) X.C=some (true,o):=by rw[View.MA _ _ (Ne.symm ne),View.IB]
 have hH:∀b x,H₁ b=some x->((H₁.put X.C (true,o)).put X.Wg (true,X.SW ⟨0,0,0⟩)) b=some x:=fun b x hb=> by
  rw[View.MA,View.MA]
  ·exact hb
  ·rintro rfl;rw[TJ.2] at hb;cases hb
  ·rintro rfl;rw[TJ.1] at hb;cases hb
 generalize ((H₁.put X.C (true,o)).put X.Wg (true,X.SW ⟨0,0,0⟩))=HH at hd h hWg hC hH;have hFn:F X.Wg=none/\F X.C=none:=⟨hd.none hWg,hd.none hC⟩
 have hB:∀b x,(H₁.plus F) b=some x->(HH.plus F) b=some x:=fun b x hb=> by
  unfold View.plus at hb;split at hb
  ·rename_i y hy
   cases hb
   exact fB (hH b _ hy)
  ·rw[cC (hd b x hb)];exact hb
 have hBn:∀b,(HH.plus F) b=none->(H₁.plus F) b=none:=fun b hb=> by
  cases hx:(H₁.plus F) b with
  | none=> rfl
  | some x=> rw[hB b x hx] at hb;cases hb
 have hV:∀j b,upd (fun _=> fun _=> none) 0 (ro H₁) j b=if j=0 then ro H₁ b else none:=fun j b=> by
  by_cases e:j=0
  ·subst e;rw[upd_same,if_pos rfl]
  ·rw[upd_ne _ _ e,if_neg e]
 have hro:∀b f o',ro H₁ b=some (f,o')->∃f',(HH.plus F) b=some (f',o'):=fun b f o' hb=> by
  obtain⟨_,f',h1⟩:=pE hb;exact⟨f',fB (hH b _ h1)⟩
 have aQ:∀j,Act gs.size gs.size j->j=0:=fun j hj=> hj.elim id fun⟨h1,h2⟩=> by omega
 refine⟨⟨0,0,0⟩,upd (fun _=> fun _=> none) 0 (ro H₁),fun _=> mu X.n [] (if 0<X.n then .kd else .wd) ⟨0,0,0⟩+1,ρ::List.replicate (gs.size-1) .stop,fun _=> false,Inv.start hn6,h.pos,ne,fun κ=> rfl,fun _ _=> Nat.lt_succ_self _,⟨⟨?_⟩,?_,⟨fun j b f o' hb=> ?_,fun i j CU b o' hi=> ?_,fun j=> ?_,fun b f o' hb=> ?_,fun j b x o' _ hj=> ?_,?_⟩,fun j hj b=> ?_,?_,⟨⟨o,?_,hG⟩,fun j=> ?_,fun i op a lA ha hb=> ?_⟩,fun κ T hκ=> ?_,h.WW.trans (by split <;> rfl),fun κ T hκ=> ?_,h.os⟩,⟨rfl,?_,⟨g,ρ,hg,rfl,?_⟩,fun κ T hκ=> ?_,h.PK⟩⟩
 ·exact h.sat _ _ _ (fB hWg)
 ·exact h.sat.lt (fB hC)
 ·rw[hV] at hb;split at hb
  ·obtain⟨f',h1⟩:=hro b f o' hb;exact h.sat b f' o' h1
  ·cases hb
 ·rw[hV] at hi;split at hi
  ·have:=(pE hi).1;cases this
  ·cases hi
 ·rw[hV];split
  ·exact NH TJ.1
  ·rfl
 ·exact h.sat b f o' (hB b _ hb)
 ·rw[hV] at hj;split at hj
  ·have:=(pE hj).1;cases this
  ·cases hj
 ·exact⟨by rw[cC TJ.1];exact hFn.1,by rw[cC TJ.2];exact hFn.2⟩
 ·rw[hV,if_neg fun e=> hj (.inl e)]
 ·refine ⟨h.nr,h.bd,fun j hj i a b f o' ha hb hx hw=> ?_,fun i op a lA ha hk _=> h.kn i a (by rw[touchAt_of lA];exact ha) hk,fun i a b ha hk hb=> ?_,h.P3,fun j hj i a b ha hk hb _=> ?_,h.rel,h.gb,h.mem⟩
  ·have:=aQ j hj;subst this;rw[hV,if_pos rfl] at hx;obtain⟨f',h1⟩:=hro b f o' hx;refine h.kn i a ha (Classical.byContradiction fun aB=> ?_);rw[h.np i a b ha aB hb] at h1;cases h1
  ·have h1:=h.np i a b ha hk hb;refine⟨fun j=> ?_,hBn b h1,?_⟩
   ·rw[hV];split
    ·cases hx:ro H₁ b with
     | none=> rfl
     | some x=>
      obtain⟨f',h2⟩:=hro b x.1 x.2 hx;rw[h1] at h2;cases h2
    ·rfl
   ·rintro rfl;rw[fB hC] at h1;cases h1
  ·have:=aQ j hj;subst this;exact h.kn i a ha hk
 ·exact h.sat _ _ _ (fB hC)
 ·rw[hV];split
  ·exact NH TJ.2
  ·rfl
 ·refine .inl fun j hj=> ?_;have:=aQ j hj;subst this;have lI:touchAt t i=some a:=by rw[touchAt_of lA];exact ha
  refine h.kn i a lI (Classical.byContradiction fun aB=> ?_);have:=h.np i a _ lI aB hb;rw[fB hC] at this;cases this
 ·simp at hκ
 ·simp at hκ
 ·simp;have:=h.pos;omega
 ·rw[upd_same];exact .walk hρ
 ·simp at hκ
theorem PI.ends {X:Fk}{Fin:Goroutine->Prop}{H₁ F:View}{base:Nat}{ths:List Th}{s:Sh}{H:Nat->View}{ks:Nat->Nat}{rks:List gC}{D:Nat->Bool}{g g':Goroutine}(h:PI P X Fin (H₁.plus F) base os0 gs w t ths .aq s H ks rks q D)(hC:H₁ X.C=none)(fn:FuncId)(pos:String):
  ∃o,X.GI (fun i=> decide (i<X.n)) o/\F X.C=none/\AI P ((H₁.put X.C (true,o)).plus F) os0 (zD P gs 0 g g' w) w (t++MemOp.ofEvents 0 fn pos #[Go.ConcR.mk (.acquire (stA X.Wg))]) q:=by
 obtain⟨hlen,VK⟩:=h.inv.done rfl;have hb:=h.b1;have yE:=h.si.size;have hN:0<gs.size:=by omega
 obtain⟨⟨o,h1,h2⟩,h3,_⟩:=h.wt.free;have hD:D=fun i=> decide (i<X.n):=by
  funext κ
  rw[h.dd κ];by_cases e:κ<ths.length
  ·rw[List.getElem?_eq_getElem e,VK κ _ (List.getElem?_eq_getElem e)];simp[Th.did];omega
  ·rw[List.getElem?_eq_none oM];simp;omega
 subst hD;have hFC:F X.C=none:=by have:=h.wt.vi.bn.2;rw[cC hC] at this;exact this
 have lA:=XT (X:=X) (H:=H 0) (g:=0) (fn:=fn) (pos:=pos) (m:=.acquire (stA X.Wg)) (t:=t) (fun x hx=> by cases hx) (fun a e=> by cases e);have hti:=h.wt.IW h.ne (.inl rfl) hN lA;have TO:∀j,Deaf (t++MemOp.ofEvents 0 fn pos #[Go.ConcR.mk (.acquire (stA X.Wg))]) j=Deaf t j:=fun j=> sS (by simp) (by simp);have hj:=h.wt.ti.join (y:= { g:=0,fn,pos,act:=.mark (.acquire (stA X.Wg)) }) ⟨rfl,rfl⟩ h.wt.WW fun g AU KB=> by
  have hκ:g-base<ths.length:=by omega
  have hT:=List.getElem?_eq_getElem hκ;obtain⟨r,hr⟩:=h.wt.bK _ _ hT (by rw[VK _ _ hT];rfl);rw[show base+(g-base)=g by omega] at hr;exact⟨r,hr⟩
 rw[<-GQ] at hj;refine⟨o,h2,hFC,by rw[GA];exact hN,fun b f o' BJ=> ?_,hti.nr,hj,fun i a b ha hk qO=> ?_,hti.P3,hti.bd,hti.rel,fun i op c8=> by rw[GA];exact hti.gs i op c8,hti.mem,by rw[TO];exact h.wt.WW,fun i h0 hi=> ?_,h.wt.os⟩
 ·unfold View.plus at BJ;split at BJ
  ·rename_i y hy
   cases BJ
   by_cases e:b=X.C
   ·subst e;rw[View.IB] at hy;cases hy;exact h1
   ·rw[View.MA _ _ e] at hy;exact h.wt.vi.bs b f o' (fB hy)
  ·rename_i hy
   have e:b≠X.C:=by rintro rfl;rw[View.IB] at hy;cases hy
   rw[View.MA _ _ e] at hy;exact h.wt.vi.bs b f o' (by rw[cC hy];exact BJ)
 ·obtain⟨_,g2,g3⟩:=hti.np i a b ha hk qO;unfold View.plus at g2 ⊢;rw[View.MA _ _ g3];exact g2
 ·rw[GA] at hi;rcases Nat.lt_or_ge i base with KB|AU
  ·obtain⟨g0,g1,g2⟩:=h.si.PK i h0 KB;exact⟨_,TB oM g1,by rw[TO,woken_quitsD g2];exact g2⟩
  ·have hκ:i-base<ths.length:=by omega
   have hT:=List.getElem?_eq_getElem hκ;obtain⟨g0,ρ,g1,_,g2⟩:=h.si.work _ _ hT;rw[show base+(i-base)=i by omega] at g1 g2;have hq:QuitsD P (q i) (Deaf t i) g0:=by
    cases g2 with
    | quit _ hq=> exact hq
    | quiet n hh _ _=> exact absurd (VK _ _ hT) hh.1
    | walk hh _=> rw[VK _ _ hT] at hh;cases hh
   exact⟨_,TB oM g1,by rw[TO,woken_quitsD hq];exact hq⟩
def AtRet(P:Program)(Post:Value->World->Prop)(H:View)(g:Goroutine):Prop:=
 g.status=.running/\∀w,Sat H w->∃v es,stepG P true g w=.ended (.done v) w es/\(∀e∈es,dN H e)/\Post v w
inductive MI(P:Program)(St:View->Goroutine->Prop)(os0:T4):gC×US->Machine->Trace->Prop where
 | alone {gs:Array Goroutine} {w:World} {sl:Option (Nat×Nat)} {t:Trace} {q:Nat->Nat} {H:View} {g:Goroutine} {ρ:gC} (h:AI P H os0 gs w t q) (hg:gs[0]? =some g) (hT:Tr (Mp P) St ρ H g) (hρ:∀f,ρ≠ .phase f):MI P St os0 (ρ,0,[],sumTo gs.size q,0) (crowd gs w sl) t
 | phase {gs:Array Goroutine} {w:World} {sl:Option (Nat×Nat)} {t:Trace} {q:Nat->Nat} {X:Fk} {Fin:Goroutine->Prop} {H₁ F:View} {base:Nat} {ths:List Th} {m:Mn} {s:Sh} {H:Nat->View} {ks:Nat->Nat} {rks:List gC} {D:Nat->Bool} {f:View->Goroutine->gC} {μ:US}
  (h:PI P X Fin (H₁.plus F) base os0 gs w t ths m s H ks rks q D) (hC:H₁ X.C=none) (hd:Dj H₁ F) (hμ:μ=PI.meas X gs ths m s rks q)
  (hk:∀o g',X.GI (fun i=> decide (i<X.n)) o->Fin g'->F X.C=none->Tr (Mp P) St (f ((H₁.put X.C (true,o)).plus F) g') ((H₁.put X.C (true,o)).plus F) g'):MI P St os0 (.phase f,μ) (crowd gs w sl) t
theorem MI.of {St:View->Goroutine->Prop}{sl:Option (Nat×Nat)}{g:Goroutine}{ρ:gC}(h:AI P H os0 gs w t q)(hg:gs[0]? =some g)(hT:Tr (Mp P) St ρ H g):∃μ,MI P St os0 (ρ,μ) (crowd gs w sl) t:=by
 cases ρ with
 | stop=> exact⟨_,.alone h hg hT (fun f=> by simp)⟩
 | step f=> exact⟨_,.alone h hg hT (fun f=> by simp)⟩
 | phase f=>
  obtain⟨Po,⟨H₁,F,Po₁,hd,rfl,⟨X,Fin,H₂,o,hn6,ne,TJ,rfl,hG,hMS,aGW⟩,hP⟩,hk⟩:=hT;obtain⟨s,H',ks,rks,D,hPI⟩:=AI.begin hn6 ne TJ hd h hG hg hMS;have nL:Dj H₂ F:=fun b x hb=> by
   have:=hd b x hb;cases hx:H₂ b with
   | none=> rfl
   | some y=>
    rw[View.MA,View.MA] at this
    ·rw[hx] at this;cases this
    ·rintro rfl;rw[TJ.2] at hx;cases hx
    ·rintro rfl;rw[TJ.1] at hx;cases hx
  exact⟨_,.phase hPI TJ.2 nL rfl fun o g' ho hF hFC=> hk _ _ (hP _ _ (nL.put hFC) (aGW o g' ho hF))⟩
def cZ:gC×US->gC×US->Prop:=Prod.Lex gC.Lt NG
theorem cZ.wf:WellFounded cZ:=(Prod.lex ⟨gC.Lt,gC.wf⟩ ⟨NG,NG.wf⟩).wf
theorem handed(h:AI P H os0 gs w t q):t.HandedOver:=by
 intro i g hgi aB hc;obtain⟨x,hx,hm,hk⟩:=hc;obtain⟨op,lA,aHd⟩:=touch_of hx;have hog:op.g=g:=by simpa [Trace.g?,lA] using hgi
 have TZ:x.kind=.plain:=by
  refine Classical.byContradiction fun aFA=> ?_;obtain⟨h1,h2⟩:=h.P3 i op x lA aHd aFA;have aCZ:x.kind≠ .said:=fun e=> aB (hog▸h1 e);have uG:x.kind=.atomic:=by
   cases hkk:x.kind with
   | plain=> exact absurd hkk aFA
   | atomic=> rfl
   | said=> exact absurd hkk aCZ
  rcases hk with hk|hk
  ·exact hk uG
  ·exact h2 uG (by rw[hog];exact aB) hk
 obtain⟨j,z,h1,h2,h3⟩:=h.kn i x hx TZ;refine⟨j,by simp[Trace.g?,h1,h2],?_⟩;rcases h3 with rfl|h3
 ·rw[lA] at h1;cases h1
  exact absurd (hog.symm.trans h2) aB
 ·exact h3
theorem MI.step {Post:Value->World->Prop}(μ:gC×US)(m:Machine)(t:Trace)(h:MI P (AtRet P Post) os0 μ m t):
  (∃o w ops,stepT P m=(.ended o w,ops)/\Go.Conc.Good P (fun v w=> Post v w/\ZY os0 w) m o w (t++ops))\/(∃m' ops μ',stepT P m=(.next m',ops)/\cZ μ' μ/\MI P (AtRet P Post) os0 μ' m' (t++ops)):=by
 cases h with
 | phase h hC hd hμ hk=>
  rename_i gs w sl q X Fin H₁ F base ths mn s H ks rks D f μ
  obtain⟨d,hg⟩:=h.step (sl:=sl);rcases hg with ⟨gs',w',sl',ops,ths',m',s',H',ks',rks',q',D',hr,hPI,KB⟩|⟨gs',sl',g,g',ths',s',H',ks',rks',q',D',hg0,hr,rfl,hF,hPI⟩
  ·exact .inr ⟨_,ops,(.phase f,_),hr,.right _ (by rw[hμ];exact KB),.phase hPI hC hd rfl hk⟩
  ·obtain⟨o,ho,hFC,hAI⟩:=hPI.ends (g:=g) (g':=g') hC g.frame.fn g.frame.place;obtain⟨μ',hMI⟩:=MI.of (sl:=sl') hAI (KF (by have:=hPI.si.size;have:=hPI.b1;omega)) (hk o g' ho hF hFC);exact .inr ⟨_,_,_,hr,.left _ _ (.phase f _ _),hMI⟩
 | alone h hg hT hρ=>
  rename_i gs w sl q H g ρ
  have eI:g.status=.running:=by
   cases ρ with
   | stop=> exact hT.1
   | step f=> exact hT.1
   | phase f=> exact absurd rfl (hρ f)
  have haw:∀x∈gs,awake x:=by
   intro x hx tm;obtain⟨i,hi,rfl⟩:=Array.mem_iff_getElem.1 hx;have BU:=Array.getElem?_eq_getElem hi;by_cases e0:i=0
   ·subst e0;rw[hg] at BU;cases BU
    rw[eI];simp
   ·obtain⟨g0,h1,h2⟩:=h.PK i oM hi;rw[h1] at BU;cases BU
    rcases h2.status with e|e <;> rw[e] <;> simp
  obtain⟨i,g₁,d,sl',EV,VZ,v8⟩:=crowd_pick (P:=P) (w:=w) (sl:=sl) haw ⟨0,g,hg,eI⟩;rw[v8];have h':=h.at d;by_cases e0:i=0
  ·subst e0;rw[hg] at EV;cases EV
   cases ρ with
   | phase f=> exact absurd rfl (hρ f)
   | step f=>
    obtain⟨_,aC⟩:=hT;obtain⟨g',w',es,H',h3,h4,h5⟩:=aC (w.at d) h'.sat trivial;have hAI:=h'.walk (g:=g) (g':=g') (fn:=g.frame.fn) (pos:=g.frame.place) h4;obtain⟨μ',hMI⟩:=MI.of (sl:=sl') hAI (KF h.pos) h5;exact .inr ⟨_,_,_,runT_crowd_go hg h3,.left _ _ (.step f _),hMI⟩
   | stop=>
    obtain⟨_,aC⟩:=hT;obtain⟨v,es,h3,h4,h5⟩:=aC (w.at d) h'.sat;have hAI:=h'.walk (g:=g) (g':=g) (fn:=g.frame.fn) (pos:=g.frame.place) { Trans.refl h'.sat with ev:=h4 };have aBl:∀x∈(crowd gs w sl).gs.toList.drop 1,x.Leaves P:=fun x hx=> by
     obtain⟨j,hj⟩:=List.mem_iff_getElem?.1 hx;rw[List.getElem?_drop] at hj;have FV:gs[1+j]? =some x:=by simpa [crowd] using hj
     have rR:=(Array.getElem?_eq_some_iff.1 FV).1;obtain⟨g0,g1,g2⟩:=h.PK (1+j) oM rR;rw[FV] at g1;cases g1
     exact⟨_,g2.leaves⟩
    have aFv:(crowd gs w sl).EndHearing P (t++MemOp.ofEvents 0 g.frame.fn g.frame.place es):=fun j x hj hj0=> by
     have FV:gs[j]? =some x:=hj;have rR:j<gs.size:=(Array.getElem?_eq_some_iff.1 FV).1;obtain⟨g0,g1,g2⟩:=h.PK j oM rR;rw[FV] at g1;cases g1
     refine⟨q j,?_⟩;have QJ:Deaf (t++MemOp.ofEvents 0 g.frame.fn g.frame.place es) j=Deaf t j:=Deaf_other t (g:=j) (g':=0) oM _ ofEvents_g;have e:(t++MemOp.ofEvents 0 g.frame.fn g.frame.place es).deaf j (t++MemOp.ofEvents 0 g.frame.fn g.frame.place es).size=Deaf t j:=QJ;rw[e];exact g2.hears _
    exact .inl ⟨_,_,_,runT_many_ended hg h3,v,rfl,⟨h5,h.os⟩,hAI.nr,handed hAI,⟨aBl,rfl⟩,aFv⟩
  ·have hi:i<gs.size:=(Array.getElem?_eq_some_iff.1 EV).1;obtain⟨g0,g1,g2⟩:=h.PK i oM hi;rw[g1] at EV;cases EV
   have T7:(i==0)=false:=by simp;omega
   cases hqq:q i with
   | zero=> rw[hqq] at g2;rw[g2.1] at VZ;cases VZ
   | succ q'=>
    rw[hqq] at g2;rcases g2 with ⟨hf,_⟩|⟨_,g',es,mP,aC,UZ⟩
    ·rw[hf] at VZ;cases VZ
    ·have hAI:=h'.leave (g:=g₁) (fn:=g₁.frame.fn) (pos:=g₁.frame.place) oM hi mP UZ;have h0':(zD P gs i g₁ g' (w.at d))[0]? =some g:=by
      rw[TB oM hg,woken_running (.inl eI)]
     refine .inr ⟨_,_,_,runT_crowd_go g1 (by rw[T7];exact aC _),?_,.alone hAI h0' hT hρ⟩;refine .right _ (aDd ?_);show sumTo (zD P gs i g₁ g' (w.at d)).size _<_;rw[GA];have:=sumTo_upd (f:=q) q' (fun a=> a) (i:=i) (j:=gs.size) hi;have e:sumTo gs.size (fun a=> upd q i q' a)=sumTo gs.size (upd q i q'):=rfl;have e2:sumTo gs.size (fun a=> q a)=sumTo gs.size q:=rfl;omega
theorem T.runs {Post:Value->World->Prop}{H:View}{g:Goroutine}{W:World}(h:T (Mp P) (AtRet P Post) H g)(hs:Sat H W):
  ∃N last o w' t',runNT P (N+1) (solo g W) #[]=(.ended o w',t')/\runN P N (solo g W)=.next last/\Go.step P last=.ended o w'/\Go.Conc.Good P (fun v w=> Post v w/\ZY (W.os,W.output) w) last o w' t':=by
 obtain⟨ρ,hρ⟩:=h.wY;have hAI:AI P H (W.os,W.output) #[g] W #[] (fun _=> 0):=by
  have none:∀(i:Nat) a,touchAt #[] i≠some a:=fun i a=> by simp[touchAt,Trace.act?]
  exact⟨by simp,hs,fun said ⟨i,j,_,⟨a,_,ha,_⟩,_⟩=> by simp[Trace.act?] at ha,fun i a ha=> absurd ha (none i a),fun i a b ha=> absurd ha (none i a),fun i op a lA=> by simp at lA,fun i a b ha=> absurd ha (none i a),fun a i=> by simp[Trace.act?],fun i op lA=> by simp at lA,fun i a ha=> absurd ha (none i a),rfl,fun i h0 hi=> by simp at hi;omega,ZY.refl _⟩
 obtain⟨μ,hMI⟩:=MI.of (sl:=none) hAI (by simp) hρ;rw[solo_eq_crowd];exact run_of_inv cZ.wf (MI P (AtRet P Post) (W.os,W.output)) (fun m o w t=> Go.Conc.Good P (fun v w=> Post v w/\ZY (W.os,W.output) w) m o w t) (fun μ m t hm=> MI.step μ m t hm) _ _ _ hMI
end
end Go.RL
end
namespace Go.RL
open Go.Conc Go.ConcN
section
variable {P:Program}{n:Nat}{R:Rg}{L:Bl}{H₀:View}{k:List Item}
theorem T.top {M:Md P}{Post:Value->World->Prop}{H:View}{fn:Func}{b:FB}{tmps:Array Value}{todo:List Item}{v:Value}(hf:P.funcs[b.fn]? =some fn)(hi:P.inits.idxOf? b.fn=none)(hk:b.kind=.normal)(hv:DY fn R v)(hr:YA n R tmps)
  (hp:∀w,Sat H w->Post v w):T M (AtRet P Post) H (G (b.back tmps [] todo) []):=by
 refine .stop ⟨rfl,fun w hs=> ⟨v,#[],?_,fun e he=> by simp at he,hp w hs⟩⟩;have:stepG P true (G (b.back tmps [] todo) []) w=unwind P true (b.back tmps [] todo) [] none w:=by simp[G,stepG,FB.back]
 rw[this];unfold unwind;simp only[FB.back,hf,hv.run (P:=P) hr w,doReturn,hk,hi,GStep.after,seen_none];simp
theorem Tc.aDA {Post:Value->World->Prop}{fn:Func}{f:FuncId}{v:Value}(hf:P.funcs[f]? =some fn)(hi:P.inits.idxOf? f=none)(hv:DY fn R v)(hp:∀H w,jA H₀ L H->Sat H w->Post v w):
 Tc (Mp P) (AtRet P Post) n ⟨f,.normal,none⟩ H₀ [] R L [] (.code .ret::k):=fun H _ hs hr=> .LD rfl (T.top hf hi rfl hv hr fun w hw=> hp H w hs hw)
theorem T.s7 {f:FuncId}{fn:Func}{body:Code}{vs:List Value}{H:View}{St:View->Goroutine->Prop}(hf:P.funcs[f]? =some fn)(hb:fn.body=some body)(hn:fn.ntmps=n)(hv:vs.length<=n)
  (h:Tc (Mp P) St n ⟨f,.normal,none⟩ H [] (gL vs) [] [] [.code body]):T (Mp P) St H (G (Frame.enter P f vs.toArray .normal) []):=by
 have:=h H (vs.toArray++Array.replicate (n-vs.length) undef) (jA.nil H) ⟨by simp;omega,fun d v hd=> ?_⟩
 ·have e:Frame.enter P f vs.toArray .normal=(⟨f,.normal,none⟩:FB).at (vs.toArray++Array.replicate (n-vs.length) undef) [] [.code body]:=by
   simp[Frame.enter,FB.at,hf,hb,hn]
  rw[e];exact this
 ·obtain⟨_,h2⟩:=zG vs 0 d v hd;simp only[Nat.sub_zero] at h2;have KB:=(List.getElem?_eq_some_iff.1 h2).1;rw[Array.getElem?_append_left (by simpa using KB)];simpa using h2
end
end Go.RL
namespace Go.Proofs.YtldmfjcgjdchcaaGreatDoor
open Go.RL Go.Proofs.Tryz Go.ChangeShapes Go.WideShapes Go.ChangeAt Go.RowKit
set_option maxRecDepth 100000
def UD(W:World):View:=fun b=> (W.heap[b]?).map fun o=> (false,o)
theorem C2(W:World):Sat (UD W) W:=fun b f o h=> by
 simp only[UD,Option.map_eq_some_iff,Prod.mk.injEq] at h;obtain⟨o',h1,_,rfl⟩:=h;exact h1
theorem aHr:ownKnob prog.godebug=none:=by kernel_rfl
theorem L8:laidOutB prog=true:=by kernel_rfl
theorem GZ:prog.globalNamed "baudot/dial.checks"=some 3:=by kernel_rfl
theorem aBT:(prog.globals[3]?).map (·.type)=some 282:=by kernel_rfl
theorem aFn:prog.globalNamed "baudot/dial.not"=some 1:=by kernel_rfl
theorem aHA:(prog.globals[1]?).map (·.type)=some 242:=by kernel_rfl
theorem aAp:prog.underlying 282=some (.array 3 281):=by kernel_rfl
theorem TY:prog.underlying 281=some (.func #[166] #[25] false):=by kernel_rfl
theorem aAq:prog.underlying 242=some (.array 3 110):=by kernel_rfl
theorem N0:prog.underlying 110=some (.int .i64):=by kernel_rfl
theorem M6:prog.cellsOf 281=1:=by kernel_rfl
theorem N6:prog.cellsOf 282=3:=by kernel_rfl
theorem rZ:prog.cellsOf 110=1:=by kernel_rfl
theorem O6:prog.cellsOf 242=3:=by kernel_rfl
theorem ZJ {P:Program}{w:World}:∀ {l:List (String×DataW Unit)} {ps:List MemPlace},DataW.LaidVars P w l ps->∀ {n:String} {d:DataW Unit},(n,d)∈l-> 
  ∃g t cs fuel p,P.globalNamed n=some g/\(P.globals[g]?).map (·.type)=some t/\w.var? P n=some cs/\DataW.trod (fun _=> ()) P w 0 (fun _=> true) false fuel t cs.toList=some (d,p)
 | [],_,_,_,_,h=> by cases h
 | (m,e)::r,ps,h,n,d,hm=> by
  obtain⟨g,t,cs,fuel,p,q,h1,h2,h3,h4,h5,_⟩:=h;rcases List.mem_cons.1 hm with e1|hm
  ·cases e1
   exact⟨g,t,cs,fuel,p,h1,h2,h3,h4⟩
  ·exact ZJ h5 hm
theorem iR {W:World}{n:String}{g:Nat}{cs:Array Value}(hg:prog.globalNamed n=some g)(hv:W.var? prog n=some cs):∃gt gz,W.heap[g]? =some (.cells cs gt gz):=by
 unfold World.var? at hv;rw[hg] at hv;simp only[Option.bind_some] at hv;split at hv
 ·rename_i cs' t' z e
  obtain rfl:=Option.some.inj hv;exact⟨_,_,e⟩
 ·cases hv
theorem aBj {LL:List (String×DataW Unit)}(hc:("baudot/dial.checks",(Rows.laid_baudot_dial_checks:DataW Unit))∈LL)(hn:("baudot/dial.not",(Rows.laid_baudot_dial_not:DataW Unit))∈LL.filter fun x=> x.2.handleName?.isNone){W:World}(h:laidMetH prog LL W):mG (UD W):=by
 constructor
 ·obtain⟨g,t,cs,fuel,p,hg,ht,hv,hd⟩:=h.funcs (n:= "baudot/dial.checks") hc;obtain rfl:=Option.some.inj (GZ.symm.trans hg);obtain rfl:=Option.some.inj (aBT.symm.trans ht);obtain⟨gt,gz,hh⟩:=iR GZ hv;have hlen:cs.toList.length=3:=by
   cases fuel with
   | zero=> simp[DataW.trod] at hd
   | succ n=>
    unfold DataW.trod at hd;rw[aAp] at hd;simp[N6] at hd
    simpa using hd.1
  obtain⟨c0,c1,c2,OZ⟩:∃c0 c1 c2,cs.toList= [c0,c1,c2]:=by
   match e:cs.toList,hlen with
   | [c0,c1,c2],_=> exact⟨c0,c1,c2,rfl⟩
  rw[OZ] at hd;obtain⟨y0,y1,y2,n,hx,r0,r1,r2⟩:=trod_array3 aAp M6 hd;have nJ:=congrArg Prod.fst hx;have QV:(DataW.agg [y0.1,y1.1,y2.1]:DataW By)=DataW.agg [.held _,.held _,.held _]:=nJ.symm;simp only[DataW.agg.injEq,List.cons.injEq,and_true] at QV;obtain⟨e0,e1,e2⟩:=QV;obtain⟨d0,q0⟩:=y0;obtain⟨d1,q1⟩:=y1;obtain⟨d2,q2⟩:=y2;simp only at e0 e1 e2;subst e0 e1 e2;obtain rfl:=func_of_trod (f0:=368) TY kR r0;obtain rfl:=func_of_trod (f0:=369) TY kR r1;obtain rfl:=func_of_trod (f0:=370) TY kR r2;refine⟨false,gt,gz,?_⟩;have ec:cs=⟨[MJ 0,MJ 1,MJ 2]⟩:=by
   apply Array.ext'
   rw[OZ];rfl
  rw[<-ec];simp only[UD,hh,Option.map_some]
 ·obtain⟨⟨ps,hl,_⟩,_⟩:=laidMetH_iff.1 h;obtain⟨g,t,cs,fuel,p,hg,ht,hv,hd⟩:=ZJ hl hn;obtain rfl:=Option.some.inj (aFn.symm.trans hg);obtain rfl:=Option.some.inj (aHA.symm.trans ht);obtain⟨gt,gz,hh⟩:=iR aFn hv;have hlen:cs.toList.length=3:=by
   cases fuel with
   | zero=> simp[DataW.trod] at hd
   | succ n=>
    unfold DataW.trod at hd;rw[aAq] at hd;simp[O6] at hd
    simpa using hd.1
  obtain⟨c0,c1,c2,OZ⟩:∃c0 c1 c2,cs.toList= [c0,c1,c2]:=by
   match e:cs.toList,hlen with
   | [c0,c1,c2],_=> exact⟨c0,c1,c2,rfl⟩
  rw[OZ] at hd;obtain⟨y0,y1,y2,n,hx,r0,r1,r2⟩:=trod_array3 aAq rZ hd;have nJ:=congrArg Prod.fst hx;have QV:(DataW.agg [y0.1,y1.1,y2.1]:DataW Unit)=DataW.agg [.lit (.int .i64 0),.lit (.int .i64 2),.lit (.int .i64 1)]:=nJ.symm;simp only[DataW.agg.injEq,List.cons.injEq,and_true] at QV;obtain⟨e0,e1,e2⟩:=QV;obtain⟨z0,g0,g0',_⟩:=DataW.trod_int N0 r0;obtain⟨z1,g1,g1',_⟩:=DataW.trod_int N0 r1;obtain⟨z2,g2,g2',_⟩:=DataW.trod_int N0 r2;subst g0' g1' g2';simp only[DataW.lit.injEq,Lit.int.injEq,true_and] at e0 e1 e2;simp only[List.cons.injEq,and_true] at g0 g1 g2;refine⟨false,gt,gz,?_⟩;have ec:cs=⟨[.iz 0,.iz 2,.iz 1]⟩:=by
   apply Array.ext'
   rw[OZ,g0,g1,g2,e0,e1,e2]
  rw[<-ec];simp only[UD,hh,Option.map_some]
theorem UY:prog.underlying 9=some .string:=by kernel_rfl
theorem Q6:prog.cellsOf 9=1:=by kernel_rfl
section
variable {H:Type}{enc:TypeId×Value->H}{P:Program}{W W':World}
theorem ZK(hl:laidOutB P=true)(hb:∀x:MemPlace,x.block<W.heap.size->W.sameAt W' x):∀ {ts:List TypeId} {vs:List Value} {ds:List (DataW H)} {p:List MemPlace},ts.all (fun t=> P.readableRec t&&decide (t<P.types.size))=true-> 
  DataW.TrodAll enc P W 0 (fun _=> true) true ts vs ds p->(∀x∈p,x.block<W.heap.size)->DataW.TrodAll enc P W' 0 (fun b=> decide (b<W.heap.size)) true ts vs ds p
 | [],[],[],_,_,h,_=> h
 | t::ts,v::vs,d::ds,p,hr,h,KB=> by
  simp only[List.all_cons,Bool.and_eq_true,decide_eq_true_eq] at hr;obtain⟨a,b,h1,h2,rfl⟩:=h;exact⟨a,b,WideElems.Trod_stays hl hr.1.1 hr.1.2 h1 (fun x hx=> hb x (KB x (by simp[hx]))) (fun x hx=> by simpa using KB x (by simp[hx])),ZK hl hb hr.2 h2 (fun x hx=> KB x (by simp[hx])),rfl⟩
 | [],[],_::_,_,_,h,_=> h.elim
 | [],_::_,[],_,_,h,_=> h.elim
 | [],_::_,_::_,_,_,h,_=> h.elim
 | _::_,[],[],_,_,h,_=> h.elim
 | _::_,[],_::_,_,_,h,_=> h.elim
 | _::_,_::_,[],_,_,h,_=> h.elim
theorem HO {base:Nat}{sp:Nat->Bool}{held:Bool}:∀ {ts:List TypeId} {vs:List Value} {ds:List (DataW H)} {p:List MemPlace},DataW.TrodAll enc P W base sp held ts vs ds p->ds.length=ts.length
 | [],[],[],_,_=> rfl
 | _::_,_::_,_::_,_,h=> by
  obtain⟨_,_,_,h2,_⟩:=h;simp[HO h2]
 | [],[],_::_,_,h=> h.elim
 | [],_::_,[],_,h=> h.elim
 | [],_::_,_::_,_,h=> h.elim
 | _::_,[],[],_,h=> h.elim
 | _::_,[],_::_,_,h=> h.elim
 | _::_,_::_,[],_,h=> h.elim
theorem aP(ho:W'.os=W.os)(dH:W'.output=W.output)(hb:∀b<W.heap.size,W'.heap[b]? =W.heap[b]?)(may:MemPlace->Prop):W.keptBut W' may:=by
 refine⟨ho,dH,fun i hi=> ?_⟩;rw[hb i hi];cases h:W.heap[i]? with
 | none=> exact rfl
 | some o=>
  cases o with
  | cells c t fr=> exact⟨rfl,rfl,rfl,fun _ _=> rfl⟩
  | map es k=> exact .inr ⟨rfl,rfl⟩
  | _=> exact rfl
theorem j4 {f:Func}{s:ChangeSpec}{args:Array Value}{ds gs:List (DataW H)}{before:List MemPlace}{tb:TypeId}(hl:laidOutB P=true)(hr:f.params.toList.all (fun t=> P.readableRec t&&decide (t<P.types.size))=true)
  (KT:f.resultTypes=#[tb]) (htb:P.underlying tb=some .bool) (hs:s.vars= []) (hW:DataW.Whole enc P f.params.toList s.vars false W args.toList ds gs before) (QX:s.fn H (ds++gs)= { results:= [.lit (.bool true)],args:=ds })
  (dH:W'.output=W.output) (yE:W.heap.size<=W'.heap.size) (hb:∀b<W.heap.size,W'.heap[b]? =W.heap[b]?):s.post enc P f false true false false W args (.bool true) { W' with os:=W.os }:=by
 have KB:=hW.lt;have hW0:=hW;obtain⟨p,q,hA,hV,rfl,hfz,mF⟩:=hW;rw[hs] at hV;obtain⟨rfl,rfl⟩:=trodVars_none hV;have aGT:Below W.heap.size W { W' with os:=W.os,tape:=W.tape }:=⟨rfl,rfl,dH,yE,hb⟩
 refine⟨ds,[],p++[],[],p,[],hW0,?_,?_,?_,aP (W:=W) (W':= { W' with os:=W.os }) rfl dH hb _,fun h=> nomatch h⟩
 ·rw[QX,KT];exact trodAll_mk1 (shut_bool htb _)
 ·rw[QX];exact ZK (W':= { W' with os:=W.os }) hl (fun x hx=> aGT.same hx) hr hA (fun x hx=> KB x (by simp[hx]))
 ·rw[QX,hs];rfl
end
theorem aBq {w w':World}(h:w'.os=w.os){Q:World->Prop}(hq:Q { w' with os:=w.os }):Q w':=by
 rw[<-h] at hq;exact hq
theorem lifted {LL:List (String×DataW Unit)}{f:FuncId}{fn:Func}{s:ChangeSpec}{n:Nat}{body:Code}{a:Assume}{os:Os}{H:Type}{enc:TypeId×Value->H}{conds:List PathCond}
  (QX:prog.funcs[f]? =some fn) (hb:fn.body=some body) (hn:fn.ntmps=n) (hi:prog.inits.idxOf? f=none) (hpn:fn.params.size<=n)
  (KT:fn.resultTypes=#[4]) (aFF:fn.params.toList.all (fun t=> prog.readableRec t&&decide (t<prog.types.size))=true)
  (hsv:s.vars= []) (hsf:∀ds:List (DataW H),ds.length=fn.params.size->s.fn H (ds++[])= { results:= [.lit (.bool true)],args:=ds })
  (started:os.Started)
  (witness:∃(w:World) (tape:Tape) (i:Input),w.os=os/\(w.forCall tape i).Shaped prog/\i.vars= []/\Input.okWide prog (w.forCall tape i) .any w.heap.size f i/\
   ((s.pre enc prog fn conds false (w.forCall tape i).memory i.args/\laidMetH prog LL (w.forCall tape i).memory)/\sizedMet enc prog fn (OpenSpec.ofChange s) false (w.forCall tape i).memory i.args)/\a.holds prog (lone (Frame.enter prog f i.args .normal) [] (w.forCall tape i)))
  (walk:∀(W:World) (base:Nat) (vs:List Value) (ds:List (DataW H)) (p:List MemPlace),vs.length=fn.params.size->(∀(j:Nat) t v,fn.params[j]? =some t->vs[j]? =some v->Value.okWide prog W .any base t v)-> 
   DataW.TrodAll enc prog W 0 (fun _=> true) true fn.params.toList vs ds p->(DataW.weightsEach prog fn.params.toList ds).all (· <=reachBytes)=true->laidMetH prog LL W-> 
   ∀(St:View->Goroutine->Prop),(∀(H₀:View) (R:Rg) (L:Bl) (kk:List Item),DY fn R (.bool true)->(UD W).le H₀->Tc (Mp prog) St n ⟨f,.normal,none⟩ H₀ [] R L [] (.code .ret::kk))-> 
   Tc (Mp prog) St n ⟨f,.normal,none⟩ (UD W) [] (gL vs) [] [] [.code body]):
  ReturnsInLeavingWide a Tryz.checked os f .any (fun w args=> (s.pre enc prog fn conds false w args/\laidMetH prog LL w)/\sizedMet enc prog fn (OpenSpec.ofChange s) false w args)
   (s.post enc prog fn false true false false):=by
 refine returnsInLeavingWide_of_good (C:=Tryz.checked) aHr started witness ?_;intro w tape i _ _ _ QC aC1 _;obtain⟨_,_,_,fn',aGY,_,_,_,mS,CR⟩:=QC;have e:fn'=fn:=Option.some.inj (aGY.symm.trans QX);subst e;obtain⟨⟨⟨ds,gs,before,hw,hc⟩,hl⟩,hz⟩:=aC1;generalize hWe:w.forCall tape i=W at *;have YZ:DataW.Whole enc prog fn'.params.toList s.vars false W i.args.toList ds gs before:=hw.of_heap (by rfl);have TX:laidMetH prog LL W:=hl.of_heap (by rfl);have vO:=hz.weights hw;have hw0:=YZ;obtain⟨p,q,hA,hV,rfl,hfz,mF⟩:=YZ;rw[hsv] at hV;obtain⟨rfl,rfl⟩:=trodVars_none hV;have hlen:ds.length=fn'.params.size:=by
  simpa using HO hA
 have aHl:(DataW.weightsEach prog fn'.params.toList ds).all (· <=reachBytes)=true:=by
  have e:DataSpec.varTypes prog (OpenSpec.ofChange s).bare.plain= []:=by
   show List.filterMap _ s.vars= []
   rw[hsv];rfl
  have:=vO;rw[e] at this;simpa using this
 have hT :=T.runs (Post:=fun v w=> v=.bool true/\W.heap.size<=w.heap.size/\∀b<W.heap.size,w.heap[b]? =W.heap[b]?) (H:=UD W) (T.s7 QX hb hn (by simpa [mS] using hpn)
  (walk W w.heap.size i.args.toList ds p (by simpa using mS) (fun j t v h1 h2=> CR j t v h1 (by simpa using h2)) hA aHl TX _
   (fun H₀ R L kk hv hle=> Tc.aDA QX hi hv (fun H w hs hw=> by
    have hk:∀b<W.heap.size,w.heap[b]? =W.heap[b]? :=fun b hb=> by
     have h1:UD W b=some (false,W.heap[b]):=by simp[UD,hb]
     rw[hw b false _ (hs.base _ _ (hle _ _ h1))];simp[hb]
    refine⟨rfl,?_,hk⟩;rcases Nat.eq_zero_or_pos W.heap.size with hz|hz
    ·omega
    ·have h1:=hk (W.heap.size-1) oM;have h2:=h1.trans (Array.getElem?_eq_getElem (show W.heap.size-1<W.heap.size by omega));have:=(Array.getElem?_eq_some_iff.1 h2).1;omega)))) (C2 W)
 rw[Array.toArray_toList] at hT;obtain⟨N,last,o,w',t',h1,h2,h3,v,ho,⟨⟨rfl,j8,hp2⟩,Z4,DU⟩,r1,r2,r3,r4⟩:=hT;exact⟨N,last,o,w',t',h1,h2,h3,.bool true,ho,ChangeSpec.post_blind (aBq Z4 (j4 L8 aFF KT kR hsv hw0 (hsf ds hlen) DU j8 hp2)),r1,r2,r3,r4⟩
theorem pI {W:World}{a:Addr}{v:Value}(h:W.cell? a=some v):∃c t z,W.heap[a.block]? =some (.cells c t z)/\c[a.off]? =some v:=by
 unfold World.cell? at h;split at h
 ·rename_i c t z e
  split at h
  ·cases h
  ·exact⟨c,t,z,e,h⟩
 ·cases h
theorem JR {H:Type}{enc:TypeId×Value->H}{C:Checked}{os:Os}{f:FuncId}{fn:Func}{s:ChangeSpec}{conds:List PathCond}{apart:Bool}{X:World->Array Value->Prop}(w0:World)(args:Array Value)(fuel:Nat)(hos:w0.os=os)
  (tO:(w0.forCall (fun _ _=> 0) ⟨#[],args,[]⟩).Shaped C.prog)
  (QC:Input.okWideB C.prog (w0.forCall (fun _ _=> 0) ⟨#[],args,[]⟩) f ⟨#[],args,[]⟩=true)
  (aC1:s.preB enc C.prog fn conds apart (w0.forCall (fun _ _=> 0) ⟨#[],args,[]⟩).memory args fuel=true)
  (yE:s.sizedB enc C.prog fn apart (w0.forCall (fun _ _=> 0) ⟨#[],args,[]⟩).memory args fuel=true)
  (hx:X (w0.forCall (fun _ _=> 0) ⟨#[],args,[]⟩).memory args):
  ∃ (w:World) (tape:Tape) (i:Input),w.os=os/\(w.forCall tape i).Shaped C.prog/\i.vars= []/\Input.okWide C.prog (w.forCall tape i) .any w.heap.size f i/\
   ((s.pre enc C.prog fn conds apart (w.forCall tape i).memory i.args/\X (w.forCall tape i).memory i.args)/\sizedMet enc C.prog fn (OpenSpec.ofChange s) apart (w.forCall tape i).memory i.args)/\({}:Assume).holds C.prog (lone (Frame.enter C.prog f i.args .normal) [] (w.forCall tape i)):=
 ⟨w0,fun _ _=> 0,⟨#[],args,[]⟩,hos,tO,(Input.okWide_of_okWideB (base:=0) QC).1,(Input.okWide_of_okWideB QC).2,⟨⟨ChangeSpec.pre_of_preB aC1,hx⟩,sizedMet_of_sizedB yE⟩,by
  simp only[Assume.holds];simp⟩
theorem UO(Lk:Looks){p:Pinned}{s:OpenSpec}{c:OpenClaim}(kinds:List LaidKind)(tests:Bool)(sI:Bool×String)(lk:Bool)
  (hc:c.holds p s) (hw:c.wfByText s=true) (aHi:c.laidByTextAt Lk p kinds tests)
  (aC:c.start=.entering) (hnb:c.noBlocks=false/\c.again=false) (hm:p.checked.prog.mainIs=some (sI.1,sI.2.toList)) (hn:(!sI.1&&sI.2.isEmpty && !lk)=false)
  (hl:∀f fn,p.checked.prog.funcNamed c.func=some f->p.checked.prog.funcs[f]? =some fn->lk=p.checked.prog.looks []/\∀(j:Nat) t,fn.params[j]? =some t->p.checked.prog.wantsStandIn t=false)
  (hg:true=c.goesBy p.checked.prog):
  Claim7.holds p (.plain s) { stood:= { row:=c,standIns:= [],harness:=sI,looks:=lk },kinds:= [],alts:= [],goes:=true,laidByText:=true,laidKinds:=kinds,laidTests:=tests,laidLooks:=Lk }:=by
 have h6:∀r:OpenClaim,Claim7.isSixth { stood:= { row:=r,standIns:= [],harness:=sI,looks:=lk },kinds:= [] }=false:=fun r=> by simpa [Claim7.isSixth] using hn
 obtain⟨h1,h2⟩:=Claim7.tied_new_at Lk kinds tests (Claim7.new_of_sixth hc sI lk aC hnb hm (h6 c) hl) hw;exact⟨⟨h1,h2⟩,(fun D hD=> by cases hD),aHi,(fun h=> by cases h),hg⟩
theorem q9 {ps:Array TypeId}(h:ps.toList.all (fun u=> !prog.wantsStandIn u)=true):∀(j:Nat) t,ps[j]? =some t->prog.wantsStandIn t=false:=fun j t ht=> by
 have hm:t∈ps.toList:=by simpa using Array.mem_of_getElem? ht
 simpa using List.all_eq_true.1 h t hm
theorem P6:prog.cellsOf 3=1:=by kernel_rfl
theorem aCD:prog.cellsOf 9=1:=by kernel_rfl
theorem aA1:prog.cellsOf 43=1:=by kernel_rfl
theorem aA2:prog.cellsOf 31=1:=by kernel_rfl
theorem aA3:prog.cellsOf 45=4:=by kernel_rfl
theorem aA4:prog.cellsOf 66=1:=by kernel_rfl
theorem sZ:prog.cellsOf 37=2:=by kernel_rfl
theorem tZ:prog.cellsOf 39=4:=by kernel_rfl
theorem uZ:prog.cellsOf 68=3:=by kernel_rfl
section
variable {H:Type}{enc:TypeId×Value->H}{P:Program}{W:World}{base:Nat}{sp:Nat->Bool}{held:Bool}
theorem dR:∀ {ts:List TypeId} {vs:List Value} {ds:List (DataW H)} {p:List MemPlace},DataW.TrodAll enc P W base sp held ts vs ds p->∀(j:Nat) t v,ts[j]? =some t->vs[j]? =some v->∃d q,DataW.Trod enc P W base sp held t v d q
 | [],_,_,_,_,_,_,_,h,_=> by simp at h
 | t ::ts,v::vs,d::ds,p,⟨a,b,h1,h2,_⟩,j,t',v',ht,hv=> by
  cases j with
  | zero=>
   simp only[List.getElem?_cons_zero,Option.some.injEq] at ht hv;subst ht hv;exact⟨_,_,h1⟩
  | succ j=>
   simp only[List.getElem?_cons_succ] at ht hv;exact dR h2 j t' v' ht hv
 | _::_,[],_,_,h,_,_,_,_,_=> by cases h
 | _::_,_::_,[],_,h,_,_,_,_,_=> by cases h
end
theorem aBh {gs:List Value}{o:Nat}{a b c d:Value}(h0:gs[o]? =some a)(h1:gs[o+1]? =some b)(h2:gs[o+2]? =some c)(h3:gs[o+3]? =some d):zE true 4 gs o=some (.agg ⟨[a,b,c,d]⟩):=by
 have KB:=(List.getElem?_eq_some_iff.1 h3).1;have e:(gs.drop o).take 4= [a,b,c,d]:=by
  apply List.ext_getElem?
  intro i;rcases i with _|_|_|_|i
  ·simpa using h0
  ·simpa using h1
  ·simpa using h2
  ·simpa using h3
  ·simp
   omega
 unfold zE;rw[show Nat.ble (o+4) gs.length=true from Nat.ble_eq_true_of_le oM];simp only[e]
theorem aAg {gs:List Value}{o:Nat}{a b c:Value}(h0:gs[o]? =some a)(h1:gs[o+1]? =some b)(h2:gs[o+2]? =some c):zE true 3 gs o=some (.agg ⟨[a,b,c]⟩):=by
 have KB:=(List.getElem?_eq_some_iff.1 h2).1;have e:(gs.drop o).take 3= [a,b,c]:=by
  apply List.ext_getElem?
  intro i;rcases i with _|_|_|i
  ·simpa using h0
  ·simpa using h1
  ·simpa using h2
  ·simp
   omega
 unfold zE;rw[show Nat.ble (o+3) gs.length=true from Nat.ble_eq_true_of_le oM];simp only[e]
theorem AP(ab ao j:Nat):(⟨ab,ao,none⟩:Addr).add j=⟨ab,ao+j,none⟩:=by
 unfold Addr.add;split
 ·rename_i h;subst h;rfl
 ·rfl
theorem aAb(s:ByteArray):Value.string s=bA s.data.toList:=by
 obtain⟨⟨l⟩⟩:=s;rfl
section
variable {H:Type}{enc:TypeId×Value->H}{W:World}
theorem rU {n:Nat}{cs:List Value}{y:DataW H×List MemPlace}(h:DataW.trod enc prog W 0 (fun _=> true) true n 3 cs=some y):∃z,cs= [.iz z]:=by
 obtain⟨z,h,_⟩:=DataW.trod_int (by kernel_rfl:prog.underlying 3=some (.int .i64)) h;exact⟨z,h⟩
theorem aAk {n:Nat}{cs:List Value}{y:DataW H×List MemPlace}(h:DataW.trod enc prog W 0 (fun _=> true) true n 9 cs=some y):∃z:By,cs= [bA z]:=by
 obtain⟨z,h,_⟩:=DataW.trod_string (by kernel_rfl:prog.underlying 9=some .string) h;exact⟨z.data.toList,by rw[h,aAb]⟩
theorem L4 {n:Nat}{cs:List Value}{y:DataW H×List MemPlace}(h:DataW.trod enc prog W 0 (fun _=> true) true n 66 cs=some y):
  ∃(F:Option Addr) (m fc:Nat) (x:Nat->Int),cs= [.slice F m fc]/\m<=fc/\PB (UD W) F m x:=by
 rcases open_ints (by kernel_rfl:prog.underlying 66=some (.slice 110)) N0 rZ h with ⟨h1,_⟩|⟨a',len,cap,zs,h1,_,h3,h4,h5,_,h7,h8⟩
 ·exact⟨none,0,0,fun _=> 0,h1,Nat.le_refl _,.inl rfl⟩
 ·simp only[if_true] at h5;refine⟨some a',len,cap,fun j=> zs.getD j 0,h1,h3,?_⟩;cases len with
  | zero=> exact .inl rfl
  | succ m=>
   obtain⟨ab,ao,spt⟩:=a';have h0:=h7 0 oM;have EF:spt=none:=by simpa [Addr.add] using World.cell?_spot h0
   subst EF;obtain⟨cs',gt,gz,e1,_⟩:=pI h0;have e1':W.heap[ab]? =some (.cells cs' gt gz):=by simpa [Addr.add] using e1
   refine .inr ⟨ab,ao,false,cs'.toList,gt,gz,rfl,by simp only[UD,e1',Option.map_some],fun j hj=> ?_⟩;have h9:=h7 j oM;rw[AP] at h9;obtain⟨cs2,gt',gz',e2,e3⟩:=pI h9;rw[e1'] at e2;cases e2
   show cs'.toList[ao+(j:Int).toNat*1]? =_;rw[Int.toNat_natCast,Nat.mul_one,Array.getElem?_toList,e3]
theorem BS {n:Nat}{cs:List Value}{y:DataW H×List MemPlace}(h:DataW.trod enc prog W 0 (fun _=> true) true n 37 cs=some y):∃a b,cs= [.iz a,.iz b]:=by
 obtain⟨y0,y1,m,_,hl,t0,t1⟩:=trod_struct2 Tryz.underlying37 h;rw[sZ] at hl;obtain⟨c0,c1,rfl⟩:∃a b,cs= [a,b]:=by
  match cs,hl with
  | [a,b],_=> exact⟨a,b,rfl⟩
 simp only[P6,List.drop_zero,List.drop_succ_cons,List.take_succ_cons,List.take_zero] at t0 t1;obtain⟨a,ha⟩:=rU t0;obtain⟨b,hb⟩:=rU t1;simp only[List.cons.injEq,and_true] at ha hb;exact⟨a,b,by rw[ha,hb]⟩
theorem RY {n:Nat}{cs:List Value}{y:DataW H×List MemPlace}(h:DataW.trod enc prog W 0 (fun _=> true) true n 39 cs=some y):∃x:Int×Int×Int×Int,cs= [.iz x.1,.iz x.2.1,.iz x.2.2.1,.iz x.2.2.2]:=by
 obtain⟨y0,y1,m,_,hl,t0,t1⟩:=trod_struct2 Tryz.underlying39 h;rw[tZ] at hl;obtain⟨c0,c1,c2,c3,rfl⟩:∃a b c d,cs= [a,b,c,d]:=by
  match cs,hl with
  | [a,b,c,d],_=> exact⟨a,b,c,d,rfl⟩
 simp only[sZ,List.drop_zero,List.drop_succ_cons,List.take_succ_cons,List.take_zero] at t0 t1;obtain⟨a,b,h1⟩:=BS t0;obtain⟨c,d,h2⟩:=BS t1;simp only[List.cons.injEq,and_true] at h1 h2;exact⟨(a,b,c,d),by rw[h1.1,h1.2,h2.1,h2.2]⟩
abbrev LnX:=List UInt8×List UInt8×Option Addr×Nat×Nat×(Nat->Int)
theorem aBW {n:Nat}{cs:List Value}{y:DataW H×List MemPlace}(h:DataW.trod enc prog W 0 (fun _=> true) true n 68 cs=some y):
  ∃x:LnX,cs= [bA x.1,bA x.2.1,.slice x.2.2.1 x.2.2.2.1 x.2.2.2.2.1]/\x.2.2.2.1<=x.2.2.2.2.1/\PB (UD W) x.2.2.1 x.2.2.2.1 x.2.2.2.2.2:=by
 obtain⟨xs,m,_,_,hl,bX,hf⟩:=DataW.trod_struct Tryz.underlying68 h;rw[uZ] at hl;obtain⟨c0,c1,c2,rfl⟩:∃a b c,cs= [a,b,c]:=by
  match cs,hl with
  | [a,b,c],_=> exact⟨a,b,c,rfl⟩
 obtain⟨x0,x1,x2,rfl⟩:∃a b c,xs= [a,b,c]:=by
  match xs,bX with
  | [a,b,c],_=> exact⟨a,b,c,rfl⟩
 have f0:=hf 0 { name:= "Name",type:=9,offset:=0,embedded:=false,tag:= "",pkgPath:= "",byteOffset:=0 } rfl;have f1:=hf 1 { name:= "Number",type:=9,offset:=1,embedded:=false,tag:= "",pkgPath:= "",byteOffset:=16 } rfl;have f2:=hf 2 { name:= "Free",type:=66,offset:=2,embedded:=false,tag:= "",pkgPath:= "",byteOffset:=32 } rfl;simp only[aCD,aA4,List.drop_zero,List.drop_succ_cons,List.take_succ_cons,List.take_zero,List.getElem?_cons_zero,List.getElem?_cons_succ] at f0 f1 f2;obtain⟨s0,e0⟩:=aAk f0;obtain⟨s1,e1⟩:=aAk f1;obtain⟨F,k,fc,x,e2,h1,h2⟩:=L4 f2;simp only[List.cons.injEq,and_true] at e0 e1 e2;exact⟨(s0,s1,F,k,fc,x),by rw[e0,e1,e2],h1,h2⟩
theorem W3 {base:Nat}{v:Value}(hv:Value.okWide prog W .any base 45 v)(h:∃d q,DataW.Trod enc prog W 0 (fun _=> true) true 45 v d q):
  ∃(k:Bk) (A:Option Addr) (lc:Nat) (B:Option Addr) (tc:Nat),v=k.val A lc B tc/\QD (UD W) k A lc B tc:=by
 have hv':∃cs,v=.agg cs:=by
  unfold Value.okWide at hv;rw[Tryz.underlying45] at hv;obtain⟨cs,h,_⟩:=hv;exact⟨cs,h⟩
 obtain⟨⟨cs⟩,rfl⟩:=hv';obtain⟨d,q,n,h⟩:=h;obtain⟨xs,m,_,_,hl,bX,hf⟩:=DataW.trod_struct Tryz.underlying45 h;have OZ:(Value.agg ⟨cs⟩).cells.toList=cs:=rfl;rw[OZ] at hl hf;rw[aA3] at hl;obtain⟨c0,c1,c2,c3,rfl⟩:∃a b c d,cs= [a,b,c,d]:=by
  match cs,hl with
  | [a,b,c,d],_=> exact⟨a,b,c,d,rfl⟩
 obtain⟨x0,x1,x2,x3,rfl⟩:∃a b c d,xs= [a,b,c,d]:=by
  match xs,bX with
  | [a,b,c,d],_=> exact⟨a,b,c,d,rfl⟩
 have f0:=hf 0 { name:= "Gap",type:=3,offset:=0,embedded:=false,tag:= "",pkgPath:= "",byteOffset:=0 } rfl;have f1:=hf 1 { name:= "Give",type:=3,offset:=1,embedded:=false,tag:= "",pkgPath:= "",byteOffset:=8 } rfl;have f2:=hf 2 { name:= "Lines",type:=43,offset:=2,embedded:=false,tag:= "",pkgPath:= "",byteOffset:=16 } rfl;have f3:=hf 3 { name:= "Trains",type:=31,offset:=3,embedded:=false,tag:= "",pkgPath:= "",byteOffset:=40 } rfl;simp only[P6,aA1,aA2,List.drop_zero,List.drop_succ_cons,List.take_succ_cons,List.take_zero,List.getElem?_cons_zero,List.getElem?_cons_succ] at f0 f1 f2 f3;obtain⟨aD,e0⟩:=rU f0;obtain⟨yB,e1⟩:=rU f1;simp only[List.cons.injEq,and_true] at e0 e1;subst e0 e1
 -- the lines
 obtain ⟨A,nl,lc,fl,el,Y7,hA⟩:∃(A:Option Addr) (nl lc:Nat) (f:Nat->LnX),c2=.slice A nl lc/\nl<=lc/\
   (nl=0\/∃b o fz gs gt gz,A=some ⟨b,o,none⟩/\UD W b=some (fz,.cells ⟨gs⟩ gt gz)/\∀i:Nat,i<nl->zE true 3 gs (o+(i:Int).toNat*3)=some (WK (f i).1 (f i).2.1 (f i).2.2.1 (f i).2.2.2.1 (f i).2.2.2.2.1)/\(f i).2.2.2.1<=(f i).2.2.2.2.1/\PB (UD W) (f i).2.2.1 (f i).2.2.2.1 (f i).2.2.2.2.2):=by
  rcases Go.Deep.open_slice Tryz.underlying43 f2 with ⟨h1,_⟩|⟨a,len,cap,mm,nn,D,Pl,h1,_,h3,_,h5,_,h7⟩
  ·simp only[List.cons.injEq,and_true] at h1;exact⟨none,0,0,fun _=> ([],[],none,0,0,fun _=> 0),h1,Nat.le_refl _,.inl rfl⟩
  ·simp only[List.cons.injEq,and_true] at h1;simp only[if_true] at h5;have hex:∀i,i<len->∃x:LnX,W.cells? 0 (a.add (i*3)) 3=some [bA x.1,bA x.2.1,.slice x.2.2.1 x.2.2.2.1 x.2.2.2.2.1]/\x.2.2.2.1<=x.2.2.2.2.1/\PB (UD W) x.2.2.1 x.2.2.2.1 x.2.2.2.2.2:=fun i hi=> by
    obtain⟨cs',g1,g2⟩:=h7 i oM;rw[uZ] at g1;obtain⟨x,hx,QV⟩:=aBW g2;exact⟨x,by rw[g1,hx],QV⟩
   obtain⟨f,hfx⟩:=Go.Deep.choose_lt hex;refine⟨some a,len,cap,f,h1,h3,?_⟩;cases len with
   | zero=> exact .inl rfl
   | succ k=>
    obtain⟨ab,ao,spt⟩:=a;have uG:∀i,i<k+1->∀j,j<3->W.cell? (((⟨ab,ao,spt⟩:Addr).add (i*3)).add j)=([bA (f i).1,bA (f i).2.1,.slice (f i).2.2.1 (f i).2.2.2.1 (f i).2.2.2.2.1]:List Value)[j]? :=fun i hi j hj=> (World.cells?_some (hfx i hi).1).2.2 j hj;have h00:=uG 0 oM 0 dE;have EF:spt=none:=by simpa [Addr.add] using World.cell?_spot h00
    subst EF;obtain⟨gs,gt,gz,g1,_⟩:=pI h00;have g1':W.heap[ab]? =some (.cells gs gt gz):=by simpa [Addr.add] using g1
    refine .inr ⟨ab,ao,false,gs.toList,gt,gz,rfl,by simp only[UD,g1',Option.map_some],fun i hi=> ⟨?_,(hfx i hi).2⟩⟩;have nM:∀j,j<3->gs.toList[ao+i*3+j]? =([bA (f i).1,bA (f i).2.1,.slice (f i).2.2.1 (f i).2.2.2.1 (f i).2.2.2.2.1]:List Value)[j]? :=fun j hj=> by
     have h8:=uG i hi j hj;rw[AP,AP] at h8;have r8:∃z,([bA (f i).1,bA (f i).2.1,.slice (f i).2.2.1 (f i).2.2.2.1 (f i).2.2.2.2.1]:List Value)[j]? =some z:=⟨_,List.getElem?_eq_getElem (by simpa using hj)⟩
     obtain⟨z,hz⟩:=r8;rw[hz] at h8 ⊢;obtain⟨gs',gt',gz',g2,g3⟩:=pI h8;rw[g1'] at g2;cases g2
     rw[Array.getElem?_toList];exact g3
    rw[Int.toNat_natCast];exact aAg (nM 0 dE) (nM 1 dE) (nM 2 dE)
 -- the trains
 obtain ⟨B,nt,tc,ft,et,u5,hB⟩:∃(B:Option Addr) (nt tc:Nat) (f:Nat->Int×Int×Int×Int),c3=.slice B nt tc/\nt<=tc/\
   (nt=0\/∃b o fz gs gt gz,B=some ⟨b,o,none⟩/\UD W b=some (fz,.cells ⟨gs⟩ gt gz)/\∀i:Nat,i<nt->zE true 4 gs (o+(i:Int).toNat*4)=some (bE (f i).1 (f i).2.1 (f i).2.2.1 (f i).2.2.2)):=by
  rcases Go.Deep.open_slice Tryz.underlying31 f3 with ⟨h1,_⟩|⟨a,len,cap,mm,nn,D,Pl,h1,_,h3,_,h5,_,h7⟩
  ·simp only[List.cons.injEq,and_true] at h1;exact⟨none,0,0,fun _=> (0,0,0,0),h1,Nat.le_refl _,.inl rfl⟩
  ·simp only[List.cons.injEq,and_true] at h1;simp only[if_true] at h5;have hex:∀i,i<len->∃x:Int×Int×Int×Int,W.cells? 0 (a.add (i*4)) 4=some [.iz x.1,.iz x.2.1,.iz x.2.2.1,.iz x.2.2.2]:=fun i hi=> by
    obtain⟨cs',g1,g2⟩:=h7 i oM;rw[tZ] at g1;obtain⟨x,hx⟩:=RY g2;exact⟨x,by rw[g1,hx]⟩
   obtain⟨f,hfx⟩:=Go.Deep.choose_lt hex;refine⟨some a,len,cap,f,h1,h3,?_⟩;cases len with
   | zero=> exact .inl rfl
   | succ k=>
    obtain⟨ab,ao,spt⟩:=a;have uG:∀i,i<k+1->∀j,j<4->W.cell? (((⟨ab,ao,spt⟩:Addr).add (i*4)).add j)=([Value.int .i64 (f i).1,.iz (f i).2.1,.iz (f i).2.2.1,.iz (f i).2.2.2]:List Value)[j]? :=fun i hi j hj=> (World.cells?_some (hfx i hi)).2.2 j hj;have h00:=uG 0 oM 0 dE;have EF:spt=none:=by simpa [Addr.add] using World.cell?_spot h00
    subst EF;obtain⟨gs,gt,gz,g1,_⟩:=pI h00;have g1':W.heap[ab]? =some (.cells gs gt gz):=by simpa [Addr.add] using g1
    refine .inr ⟨ab,ao,false,gs.toList,gt,gz,rfl,by simp only[UD,g1',Option.map_some],fun i hi=> ?_⟩;have nM:∀j,j<4->gs.toList[ao+i*4+j]? =([Value.int .i64 (f i).1,.iz (f i).2.1,.iz (f i).2.2.1,.iz (f i).2.2.2]:List Value)[j]? :=fun j hj=> by
     have h8:=uG i hi j hj;rw[AP,AP] at h8;have r8:∃z,([Value.int .i64 (f i).1,.iz (f i).2.1,.iz (f i).2.2.1,.iz (f i).2.2.2]:List Value)[j]? =some z:=⟨_,List.getElem?_eq_getElem (by simpa using hj)⟩
     obtain⟨z,hz⟩:=r8;rw[hz] at h8 ⊢;obtain⟨gs',gt',gz',g2,g3⟩:=pI h8;rw[g1'] at g2;cases g2
     rw[Array.getElem?_toList];exact g3
    rw[Int.toNat_natCast];exact aBh (nM 0 dE) (nM 1 dE) (nM 2 dE) (nM 3 dE)
 subst el et;refine⟨⟨aD,yB,nl,fun i=> (fl i).1,fun i=> (fl i).2.1,fun i=> (fl i).2.2.2.1,fun i=> (fl i).2.2.2.2.2,nt,fun i=> (ft i).1,fun i=> (ft i).2.1,fun i=> (ft i).2.2.1,fun i=> (ft i).2.2.2⟩,A,lc,B,tc,rfl,⟨Y7,?_⟩,⟨u5,hB⟩⟩;exact hA.imp id fun⟨b,o,fz,gs,gt,gz,h1,h2,h3⟩=> ⟨b,o,fz,gs,gt,gz,h1,h2,fun i hi=> ⟨_,_,(h3 i hi).1,(h3 i hi).2⟩⟩
end
theorem w9 {W:World}{base:Nat}{v:Value}(h:Value.okWide prog W .any base 9 v):∃s:By,v=bA s:=by
 unfold Value.okWide Cell.okWide Cell.ok at h;rw[show prog.underlying 9=some .string by kernel_rfl] at h;cases v with
 | string s=> exact⟨_,aAb s⟩
 | _=> exact h.elim
section
variable {H:Type}{enc:TypeId×Value->H}{W:World}
end
end Go.Proofs.YtldmfjcgjdchcaaGreatDoor
namespace Go.Proofs.YtldmfjcgjdchcaaGreatDoor
open Go.RL Go.Proofs.Tryz
set_option maxRecDepth 10000
set_option maxHeartbeats 8000000
def mA(c:UInt8):By->List By
 | []=> [[]]
 | x::s=> if x=c then []::mA c s else(x::(mA c s).headD [])::(mA c s).tail
theorem jF(c x:UInt8)(s:By):mA c (x::s)=if x=c then []::mA c s else(x::(mA c s).headD [])::(mA c s).tail:=rfl
theorem kF(c:UInt8):∀s,mA c s≠ []
 | []=> by simp[mA]
 | x::s=> by unfold mA;split <;> simp
theorem kB(c:UInt8):∀s,(mA c s).length=s.count c+1
 | []=> rfl
 | x ::s=> by
  have ih:=kB c s;unfold mA;by_cases h:x=c
  ·subst h;rw[if_pos rfl,List.count_cons_self,List.length_cons,ih]
  ·rw[if_neg h,List.count_cons_of_ne h,List.length_cons,List.length_tail,ih];omega
theorem xD(c:UInt8)(q:By):∀p,c ∉ p->mA c (p++c::q)=p::mA c q
 | [],_=> by show mA c (c::q)=_;rw[jF,if_pos rfl]
 | x::p,h=> by
  have h1:¬x=c:=fun e=> h (by rw[e];exact List.mem_cons_self);have ih:=xD c q p fun hc=> h (List.mem_cons_of_mem _ hc);show mA c (x::(p++c::q))=_;rw[jF,if_neg h1,ih];rfl
theorem tC(c:UInt8):∀p,c ∉ p->mA c p= [p]
 | [],_=> rfl
 | x::p,h=> by
  have h1:¬x=c:=fun e=> h (by rw[e];exact List.mem_cons_self);have ih:=tC c p fun hc=> h (List.mem_cons_of_mem _ hc);rw[jF,if_neg h1,ih];rfl
theorem ZH(c:UInt8)(s:By):c ∉ s\/∃p q,s=p++c::q/\c ∉ p:=by
 by_cases h:c∈s
 ·obtain⟨p,q,h1,h2⟩:=List.eq_append_cons_of_mem h;exact .inr ⟨p,q,h1,h2⟩
 ·exact .inl h
theorem G8 {s:By}{c:UInt8}{i:Nat}(h:(ByteArray.mk ⟨s⟩)[i]! =c)(hi:i<s.length):s[i]? =some c:=by
 have:(ByteArray.mk ⟨s⟩)[i]! =s[i]:=by
  have e:=lN s i;rw[List.getElem?_eq_getElem hi] at e;have h2:i<(ByteArray.mk ⟨s⟩).size:=hi;rw[getElem!_pos (ByteArray.mk ⟨s⟩) i h2];rw[getElem?_pos (ByteArray.mk ⟨s⟩) i h2] at e;exact Option.some.inj e
 rw[List.getElem?_eq_getElem hi,<-this,h]
theorem D6 {s:By}{c:UInt8}{i:Nat}(h:s[i]? =some c):(ByteArray.mk ⟨s⟩)[i]! =c:=by
 obtain⟨hi,h1⟩:=List.getElem?_eq_some_iff.1 h;have e:=lN s i;have h2:i<(ByteArray.mk ⟨s⟩).size:=hi;rw[getElem!_pos (ByteArray.mk ⟨s⟩) i h2];rw[getElem?_pos (ByteArray.mk ⟨s⟩) i h2,h] at e;exact Option.some.inj e
theorem I8 {s:By}{c:UInt8}(h:c ∉ s):F8 s c= -1:=by
 unfold F8;split
 ·rename_i i hf
  have h1:=List.find?_some hf;have h2:=List.mem_range.1 (List.mem_of_find?_eq_some hf);exact(h (List.mem_of_getElem? (G8 (beq_iff_eq.1 h1) h2))).elim
 ·rfl
theorem tP {p q:By}{c:UInt8}(h:c ∉ p):F8 (p++c::q) c=(p.length:Nat):=by
 have hc:(p++c::q)[p.length]? =some c:=by rw[List.getElem?_append_right (Nat.le_refl _),Nat.sub_self];rfl
 unfold F8;split
 ·rename_i i hf
  have h1:=List.find?_some hf;have h2:=List.mem_range.1 (List.mem_of_find?_eq_some hf);have h3:=G8 (beq_iff_eq.1 h1) h2;have h4:¬i<p.length:=fun KB=> by
   rw[List.getElem?_append_left KB] at h3;exact h (List.mem_of_getElem? h3)
  have h5:¬p.length<i:=fun KB=> by
   have:=(List.find?_eq_some_iff_getElem.1 hf).2;obtain⟨j,hj,DJ,gB⟩:=this;rw[List.getElem_range] at DJ;subst DJ;have:=gB p.length KB;rw[List.getElem_range,D6 hc] at this;simp at this
  congr 1
  omega
 ·rename_i hf
  have:=List.find?_eq_none.1 hf p.length (List.mem_range.2 (by simp));rw[D6 hc] at this;simp at this
def lastB(c:UInt8)(s:By):Bool:=s.getLast? ==some c
def WH(c:UInt8)(s:By):By:=if lastB c s then s.dropLast else s
theorem M8(c:UInt8)(s:By)(h:1<=s.length):((s.drop (s.length-1)).take 1== [c])=lastB c s:=by
 have KB:s.length-1<s.length:=by omega
 unfold lastB;rw[List.getLast?_eq_getElem?,List.drop_eq_getElem_cons KB,List.getElem?_eq_getElem KB];show([s[s.length-1]]== [c])=(some s[s.length-1]==some c)
 simp
theorem oO(c:UInt8):∀(s:By) (n:Int),s.foldl (fun(n:Int) x=> if x==c then n+1 else n) n=n+(s.count c:Nat)
 | [],n=> by simp
 | x::s,n=> by
  rw[List.foldl_cons,oO c s,List.count_cons];split <;> omega
theorem P4 {P:Program}{s:By}{c:Nat}{H:View}{Q:Value->View->Prop}(h:Q (.int .i64 (s.count (UInt8.ofNat c):Nat)) H):HA P (Extern.BytealgCount.count #[bA s,.int .u8 (c:Nat)]) H Q:=by
 unfold Extern.BytealgCount.count;show HA P (Sem.pure _) H Q;show Q (goInt ((ByteArray.mk ⟨s⟩).foldl (fun(n:Int) x=> if x==((c:Nat):Int).toNat.toUInt8 then n+1 else n) 0)) H;have e1:((c:Nat):Int).toNat.toUInt8=UInt8.ofNat c:=rfl;rw[e1,Go.Lib.foldl_data];show Q (goInt (s.foldl (fun(n:Int) x=> if x==UInt8.ofNat c then n+1 else n) 0)) H;rw[oO,Int.zero_add];exact h
theorem aGN:Xt prog 316 Extern.BytealgCount.count:=⟨Tryz.f316,func316,by kernel_rfl,by kernel_rfl,by kernel_rfl,by kernel_rfl⟩
section
variable(M:Md prog)(H:View)
theorem aAA(s:By)(y:UInt8):fA M 292 #[bA s,bA [y]] H (Ib H (.int .i64 (s.count y:Nat))):=by
 have hc:UInt8.ofNat y.toNat=y:=UInt8.ofNat_toNat;refine .en func292 ntmps292 fun St c cs hK=> ?_;refine U25 ?_;refine .x (pA.uL (E:=en) rfl rfl rfl rfl rfl oM (by exact rfl)) ?_;refine .x (pA.entry (v:=.int .i64 (s.count y:Nat)) rfl rfl rfl rfl aGN (fun H Q hq=> P4 (by rw[hc];exact hq))) ?_;refine U2 ?_;refine .rt hK func292 results292 [_] ?_;exact okB
theorem xP(s:By)(y:UInt8)(z:Int)(hz:F8 s y=z):fA M 317 #[bA s,bA [y]] H (Ib H (.int .i64 z)):=by
 have hc:UInt8.ofNat y.toNat=y:=UInt8.ofNat_toNat;have h5:=fun H=> fA.is (.int .i64 z) (by rewrite [hc,hz];rfl) (ML M H s y.toNat);by_cases he:s= [y]
 ·have h0:z=0:=by rw[<-hz,he];exact tP (p:= []) (q:= []) (by simp)
  have hb:([y]==s)=true:=by rw[he];exact beq_self_eq_true _
  subst h0;refine .en func317 ntmps317 fun St c cs hK=> ?_;refine XU ?_;refine .x (pA.LB (v:=.bool true) rfl rfl rfl (by show some (Value.bool _)=_;rw[hb])) ?_;refine U8 ?_;refine .rt hK func317 results317 [_] ?_;exact okB
 ·have hb:([y]==s)=false:=by simp only[beq_eq_false_iff_ne,ne_eq];exact fun e=> he e.symm
  refine .en func317 ntmps317 fun St c cs hK=> ?_;refine XU ?_;refine .x (pA.LB (v:=.bool false) rfl rfl rfl (by show some (Value.bool _)=_;rw[hb])) ?_;refine AJ ?_;refine .x (pA.uL (E:=en) rfl rfl rfl rfl rfl oM (by exact rfl)) ?_;refine .cl (fun H hs=> h5 H) ?_;refine U2 ?_;refine .rt hK func317 results317 [_] ?_;exact okB
end
section
variable(M:Md prog)(H:View)
theorem aAC(s:By)(y:UInt8)(h:y ∉ s):fA M 297 #[bA s,bA [y]] H (Ib H (.tuple ⟨[bA s,bA [],.bool false]⟩)):=by
 have hx:=I8 h;refine .en func297 ntmps297 fun St c cs hK=> ?_;refine ND ?_;refine .cl (fun H hs=> xP M H s y _ hx) ?_;refine LI ?_;refine .rt hK func297 results297 [_,_,_] ?_;exact okB
theorem aAB(p q:By)(y:UInt8)(h:y ∉ p)(hm:p.length+q.length<=1000000):fA M 297 #[bA (p++y::q),bA [y]] H (Ib H (.tuple ⟨[bA p,bA q,.bool true]⟩)):=by
 have hx:=tP (q:=q) h;have hl:(p++y::q).length=p.length+1+q.length:=by simp;omega
 have h1:([y]:By).length=1:=rfl;have t1:((p++y::q).drop ((0:Nat):Int).toNat).take (((p.length:Nat):Int).toNat-((0:Nat):Int).toNat)=p:=by simp
 have t2:((p++y::q).drop (((p.length:Nat):Int)+(([y].length:Nat):Int)).toNat).take ((((p++y::q).length:Nat):Int).toNat-(((p.length:Nat):Int)+(([y].length:Nat):Int)).toNat)=q:=by
  have e:(((p.length:Nat):Int)+(([y].length:Nat):Int)).toNat=p.length+1:=by simp only[h1];omega
  rw[e,hl,List.drop_append,List.drop_of_length_le oM,List.nil_append,Nat.add_sub_cancel_left,List.drop_succ_cons,List.drop_zero];exact List.take_of_length_le oM
 generalize p++y::q=s at hl hx t1 t2 ⊢;refine .en func297 ntmps297 fun St c cs hK=> ?_;refine ND ?_;refine .cl (fun H hs=> xP M H s y _ hx) ?_;refine U9 ?_;refine Tc.dr [] [] mixed rfl ?_;refine V2 0 ?_;refine .q 2 rfl (pA.pD (E:=en) rfl rfl rfl rfl rfl rfl oM oM oM) ?_;refine V5 3 ?_;refine .q 8 rfl (pA.pD (E:=en) rfl rfl rfl rfl rfl rfl oM oM oM) ?_;refine V3 9 ?_;refine .dn ?_;refine .rt hK func297 results297 [_,_,_] ?_;refine fun H' hs=> ⟨hs.base,?_⟩
 rw[t1,t2];rfl
theorem F5(s:By)(y:UInt8)(h:y ∉ s):fA M 246 #[bA s,bA [y]] H (Ib H (.tuple ⟨[bA s,bA [],.bool false]⟩)):=by
 refine .en func246 ntmps246 fun St c cs hK=> ?_;refine iD ?_;refine .cl (fun H hs=> aAC M H s y h) ?_;refine U7 ?_;refine .rt hK func246 results246 [_,_,_] ?_;exact okB
theorem SS(p q:By)(y:UInt8)(h:y ∉ p)(hm:p.length+q.length<=1000000):fA M 246 #[bA (p++y::q),bA [y]] H (Ib H (.tuple ⟨[bA p,bA q,.bool true]⟩)):=by
 refine .en func246 ntmps246 fun St c cs hK=> ?_;refine iD ?_;refine .cl (fun H hs=> aAB M H p q y h hm) ?_;refine U7 ?_;refine .rt hK func246 results246 [_,_,_] ?_;exact okB
theorem cO(s:By)(y:UInt8)(hm:s.length<=1000000):fA M 247 #[bA s,bA [y]] H (Ib H (.bool (lastB y s))):=by
 have h1:([y]:By).length=1:=rfl;by_cases c1:s= []
 ·subst c1;refine .en func247 ntmps247 fun St c cs hK=> ?_;refine PO ?_;refine .rt hK func247 results247 [_] ?_;exact okB
 ·have c2:1<=s.length:=List.length_pos_iff.2 c1;have e:=M8 y s c2;have e2:(((s.length:Nat):Int)-(([y].length:Nat):Int)).toNat=s.length-1:=by simp only[h1];omega
  have e1:RL.LB .eql ((s.drop (((s.length:Nat):Int)-(([y].length:Nat):Int)).toNat).take (((s.length:Nat):Int).toNat-(((s.length:Nat):Int)-(([y].length:Nat):Int)).toNat)) [y]=some (.bool (lastB y s)):=by
   rw[e2,Int.toNat_natCast,show s.length-(s.length-1)=1 by omega,<-e];rfl
  refine .en func247 ntmps247 fun St c cs hK=> ?_;refine fL ?_;refine .x (pA.pD (E:=en) rfl rfl rfl rfl rfl rfl oM oM oM) ?_;refine U5 ?_;refine .rt hK func247 results247 [_] ?_;exact okB
theorem uR(s:By)(y:UInt8)(hm:s.length<=1000000):fA M 182 #[bA s,bA [y]] H (Ib H (bA (WH y s))):=by
 have h1:([y]:By).length=1:=rfl;by_cases c1:lastB y s=true
 ·have c2:1<=s.length:=by
   cases s with
   | nil=> cases c1
   | cons=> simp
  have rO:=fun H=> fA.is (.bool true) (by rewrite [c1];rfl) (cO M H s y hm);have e1:(s.drop ((0:Nat):Int).toNat).take ((((s.length:Nat):Int)-(([y].length:Nat):Int)).toNat-((0:Nat):Int).toNat)=WH y s:=by
   have:(((s.length:Nat):Int)-(([y].length:Nat):Int)).toNat=s.length-1:=by simp only[h1];omega
   rw[this];unfold WH;rw[if_pos c1,List.dropLast_eq_take];rfl
  refine .en func182 ntmps182 fun St c cs hK=> ?_;refine U9 ?_;refine .cl (fun H hs=> rO H) ?_;refine iD ?_;refine .x (pA.pD (E:=en) rfl rfl rfl rfl rfl rfl oM oM oM) ?_;refine U2 ?_;refine .rt hK func182 results182 [_] ?_;refine fun H' hs=> ⟨hs.base,?_⟩
  rw[e1];rfl
 ·have c2:lastB y s=false:=by simpa using c1
  have rO:=fun H=> fA.is (.bool false) (by rewrite [c2];rfl) (cO M H s y hm);have e1:WH y s=s:=by unfold WH;rw[c2];rfl
  rw[e1];refine .en func182 ntmps182 fun St c cs hK=> ?_;refine U9 ?_;refine .cl (fun H hs=> rO H) ?_;refine U8 ?_;refine .rt hK func182 results182 [_] ?_;exact okB
theorem ZS(s:By)(y:UInt8)(hm:s.length<=1000000):fA M 104 #[bA s,bA [y]] H (Ib H (bA (WH y s))):=by
 refine .en func104 ntmps104 fun St c cs hK=> ?_;refine U8 ?_;refine .cl (fun H hs=> uR M H s y hm) ?_;refine U2 ?_;refine .rt hK func104 results104 [_] ?_;exact okB
def zB(y:UInt8)(s:By):By:=if XA s [y] then s.drop 1 else s
theorem WE {s:By}{y:UInt8}(h:XA s [y]=true):∃q,s=y::q:=by
 cases s with
 | nil=> cases h
 | cons x q=>
  unfold XA at h;simp at h
  exact⟨q,by rw[h]⟩
theorem RS(s:By)(y:UInt8)(hm:s.length<=1000000):fA M 294 #[bA s,bA [y]] H (Ib H (.tuple ⟨[bA (zB y s),.bool (XA s [y])]⟩)):=by
 have h1:([y]:By).length=1:=rfl;generalize c1:XA s [y]=t;have hp:=fun H=> JL M H s [y];rw[c1] at hp;cases t with
 | true=>
  have c2:1<=s.length:=by obtain⟨q,rfl⟩:=WE c1;simp
  have e1:(s.drop (([y].length:Nat):Int).toNat).take (((s.length:Nat):Int).toNat-(([y].length:Nat):Int).toNat)=zB y s:=by
   unfold zB;rw[if_pos c1];exact List.take_of_length_le (by simp only[List.length_drop];omega)
  refine .en func294 ntmps294 fun St c cs hK=> ?_;refine iD ?_;refine .cl (fun H hs=> hp H) ?_;refine U9 ?_;refine .x (pA.pD (E:=en) rfl rfl rfl rfl rfl rfl oM oM oM) ?_;refine U3 ?_;refine .rt hK func294 results294 [_,_] ?_;refine fun H' hs=> ⟨hs.base,?_⟩
  rw[e1];rfl
 | false=>
  have e1:zB y s=s:=by unfold zB;rw[c1];rfl
  rw[e1];refine .en func294 ntmps294 fun St c cs hK=> ?_;refine iD ?_;refine .cl (fun H hs=> hp H) ?_;refine U9 ?_;refine .rt hK func294 results294 [_,_] ?_;exact okB
theorem bO(s:By)(y:UInt8)(hm:s.length<=1000000):fA M 244 #[bA s,bA [y]] H (Ib H (.tuple ⟨[bA (zB y s),.bool (XA s [y])]⟩)):=by
 refine .en func244 ntmps244 fun St c cs hK=> ?_;refine U9 ?_;refine .cl (fun H hs=> RS M H s y hm) ?_;refine U5 ?_;refine .rt hK func244 results244 [_,_] ?_;exact okB
end
end Go.Proofs.YtldmfjcgjdchcaaGreatDoor
namespace Go.RL
open Go.Conc
section
variable {P:Program}{E:Env P}{n:Nat}{H₀:View}{R:Rg}{L:Bl}{o:Oper}
theorem pA.TQ {t:TypeId}{x:Operand}{lo hi:Option Operand}{a b:Int}{l z:By}{r:FA}(lA:o.op=.slice t x lo hi none)(hx:JA R x=some (bA l))(ht:E.ty t=some r)(jC:r.ds=.str)
  (zN:bound R lo 0=some a) (gQ:bound R hi l.length=some b) (h0:0<=a) (h1:a<=b) (h2:b<=l.length) (hz:(l.drop a.toNat).take (b.toNat-a.toNat)=z):pA P n H₀ R L o (bA z):=by
 subst hz;exact pA.pD lA hx ht jC zN gQ h0 h1 h2
end
end Go.RL
