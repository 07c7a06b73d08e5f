/-
 Texts of the proofs over baudot/dial.
-/
import Derived.Test.YtldmfjcgjdchcaaGreatDoorJ12
namespace Go.RL
open Go.Conc Go.ConcN Go.RL.Au
open Go.ConcR (stA smA mk)
open Go.ConcM (muA msA OsLater)
section
variable {P:Program}{X:Fk}{κ:Nat}
theorem ED.makeFunc {n:Nat}{sh:Z8}{R:Rg}{o:Oper}{f:Fn}{first caps:Array Operand}{vs ws:List Value}(qA:o.op=.makeFunc f first caps)(h1:FD R first.toList=some vs)(h2:FD R caps.toList=some ws):ED P sh n R o (.func f vs.toArray ws.toArray):=fun tmps hr=> by
 unfold execOp;rw[qA];show Next.value _=_;have e1:first.map (IC tmps)=vs.toArray:=by
  rw[<-hr.evs h1,List.map_toArray.symm]
 have e2:caps.map (IC tmps)=ws.toArray:=by
  rw[<-hr.evs h2,List.map_toArray.symm]
 rw[e1,e2]
theorem T.none {M:Md P}{St:View->Goroutine->Prop}{C:Nat}{H:View}{g:Goroutine}(dC:∀w,M.ok w->C<w.heap.size)(hph:∀H g Po,¬M.Ph H g Po)(h:T M St H g):H C=Option.none->T M (fun H' g'=> H' C=Option.none/\St H' g') H g:=
 h (fun H g=> H C=Option.none->T M (fun H' g'=> H' C=Option.none/\St H' g') H g) (fun _ _ hs hc=> .stop ⟨hc,hs⟩) (fun H g hs hc=> .step ⟨hs.1,fun w hw ho=> by
  obtain⟨g',w',es,H',h1,h2,h3⟩:=hs.2 w hw ho;refine⟨g',w',es,H',h1,h2,h3 ?_⟩;cases hx:H' C with
  | none=> rfl
  | some x=>
   obtain⟨f,o⟩:=x;rcases h2.ext _ _ _ hx with ⟨o',uQ⟩|⟨_,hle⟩
   ·rw[hc] at uQ;cases uQ
   ·have:=dC w ho;omega⟩) (fun _ _ _ hp=> (hph _ _ _ hp).elim)
theorem T.aEU {main:Bool}{St:View->Goroutine->Prop}{H:View}{g:Goroutine}(hc:H X.C=Option.none)(h:T (Mw P main X.ok) (fun H' g'=> H' X.C=Option.none->T (Mw P main X.ok) St H' g') H g):T (Mw P main X.ok) St H g:=
 (T.none (M:=Mw P main X.ok) (C:=X.C) (fun _ (h:X.ok _)=> h.1) (fun _ _ _ h=> h) h hc).bind fun _ _ ⟨h1,h2⟩=> h2 h1
theorem Sc.none {main:Bool}{St:View->Goroutine->Prop}{H:View}{n:Nat}{b:FB}{cs:List Frame}{R:Rg}{ds:List Deferred}{kk:List Item}(hc:H X.C=Option.none)
 (h:Sc (T (Mw P main X.ok) (fun H' g'=> H' X.C=Option.none->T (Mw P main X.ok) St H' g') H) n b cs R ds kk):Sc (T (Mw P main X.ok) St H) n b cs R ds kk:=fun tmps hr=> T.aEU hc (h tmps hr)
theorem Sc.D7 {main:Bool}{St:View->Goroutine->Prop}{H:View}{n:Nat}{b:FB}{cs:List Frame}{R:Rg}{ds:List Deferred}{kk:List Item}
 (h:H X.C=Option.none->Sc (T (Mw P main X.ok) St H) n b cs R ds kk):Sc (T (Mw P main X.ok) (fun H' g'=> H' X.C=Option.none->T (Mw P main X.ok) St H' g') H) n b cs R ds kk:=fun tmps hr=> .stop fun hc=> h hc tmps hr
theorem Sc.mono {J J':Goroutine->Prop}{n:Nat}{b:FB}{cs:List Frame}{R:Rg}{ds:List Deferred}{kk:List Item}(h:Sc J n b cs R ds kk)(hj:∀g,J g->J' g):Sc J' n b cs R ds kk:=fun tmps hr=> hj _ (h tmps hr)
end
end Go.RL
namespace Go.Proofs.YtldmfjcgjdchcaaGreatDoor
open Go.RL Go.Proofs.Tryz Go.Conc Go.ConcN Go.RL.Au
open Go.ConcR (stA smA)
set_option maxRecDepth 10000
set_option maxHeartbeats 4000000
def vE(k:Bk)(D:Nat->Bool):List Value:=(List.range k.nt).map fun i=> .int .i64 (if D i then((k.left i:Nat):Int) else 0)
def GIl(k:Bk)(D:Nat->Bool)(o:Obj):Prop:=o=.cells ⟨vE k D⟩ 3 (0,0)
theorem YZ(k:Bk)(D:Nat->Bool):(vE k D).length=k.nt:=by simp[vE]
theorem ZZ(k:Bk)(D:Nat->Bool)(κ:Nat):(vE k D).set κ (.int .i64 ((k.left κ:Nat):Int))=vE k (XT D κ):=by
 apply List.ext_getElem?
 intro i;unfold vE XT;rw[List.getElem?_set];by_cases e:κ=i
 ·subst e;rw[if_pos rfl];by_cases h:κ<k.nt
  ·rw[if_pos (by simpa using h),List.getElem?_map,List.getElem?_range h];simp
  ·rw[if_neg (by simpa using h),List.getElem?_eq_none (by simp;omega)]
 ·rw[if_neg e,List.getElem?_map,List.getElem?_map];by_cases h:i<k.nt
  ·rw[List.getElem?_range h];have h2:¬i=κ:=fun h=> e h.symm;simp[h2]
  ·rw[List.getElem?_eq_none (by simp;omega)];rfl
structure aFH(X:Fk)(k:Bk)(H:View)(κ b5 b8 b6:Nat)(A:Option Addr)(lc:Nat)(B:Option Addr)(tc:Nat)(F:Nat->Option Addr)(fc:Nat->Nat):Prop where
 bk:VB H k A lc B tc F fc
 nl:k.nl<=1000
 nf:∀i,i<k.nl->k.nf i<=1000
 ok:k.QC
 nt:k.nt<=6
 MF:0<=k.MF/\k.MF<=99
 lD:0<=k.lD/\k.lD<=99
 h5:∃f,H b5=some (f,.cells ⟨(k.val A lc B tc).cells.toList⟩ 166 (0,0))
 h8:∃f,H b8=some (f,.cells ⟨[.int .i64 (κ:Nat)]⟩ 3 (0,0))
 h6:∃f,H b6=some (f,.cells ⟨[.slice (some ⟨X.C,0,none⟩) k.nt k.nt]⟩ 24 (0,0))
 kn:κ<k.nt
 GI:X.GI=GIl k
def aAZ(X:Fk)(b5 b8 b6:Nat):List Value:= [.pointer (some ⟨X.Wg,0,none⟩),.pointer (some ⟨b5,0,none⟩),.pointer (some ⟨b8,0,none⟩),.pointer (some ⟨b6,0,none⟩)]
section
variable {X:Fk}{bk:Bk}{H:View}{κ b5 b8 b6:Nat}{A:Option Addr}{lc:Nat}{B:Option Addr}{tc:Nat}{F:Nat->Option Addr}{fc:Nat->Nat}
theorem o8(w:aFH X bk H κ b5 b8 b6 A lc B tc F fc)(k:Nat):
  Jw prog X κ k .pw H (Go.Conc.born prog { target:=.fn (.func 125) (aAZ X b5 b8 b6).toArray,args:=#[] }):=by
 obtain⟨v8,mQ,OZ,dC,JM,X4,aEv,⟨f5,h5⟩,⟨f8,h8⟩,⟨f6,h6⟩,hκ,hGI⟩:=w;refine Cl.born (vs:=aAZ X b5 b8 b6) Jw.UN func125 kR rfl ntmps125 (Nat.le_of_ble_eq_true rfl) (by simp) ?_;unfold aAZ;refine .sq (.rg rfl rfl ?_);refine So.defer Jw.UN (f:=126) (vs:= [.pointer (some ⟨X.Wg,0,none⟩)]) rfl nofun rfl rfl ⟨_,rfl⟩ rfl ?_;refine .dn ?_;refine Sc.mono ?_ (fun g hg=> Jw.ofT rfl hg);refine Sc.aEW (kA.nil H) ?_;refine Tc.dl 6 mixed rfl ?_;refine Tl.tk 0 kR kR rfl rfl dE rfl rfl (xA.take (xA.HL (E:=en) rfl rfl h6 rfl rfl)) ?_;refine Tl.tk 1 kR kR rfl rfl dE rfl rfl (xA.take (xA.HL (E:=en) rfl rfl h8 rfl rfl)) ?_;refine Tl.tk 2 kR kR rfl rfl dE rfl rfl (xA.take (xA.HL (E:=en) rfl rfl h5 rfl rfl)) ?_;refine Tl.tk 3 kR kR rfl rfl dE rfl rfl (xA.take (xA.HL (E:=en) rfl rfl h8 rfl rfl)) ?_;refine Tl.tk 4 kR kR rfl rfl dE rfl rfl (xA.bM rfl rfl rfl rfl (fun H hs=> .f aD4 rfl (aCl _ H bk A lc B tc F fc (v8.le hs.base) mQ OZ dC JM X4 aEv κ hκ))) ?_;refine Tl.tk 5 kR kR rfl rfl dE rfl rfl (xA.take .ia) ?_;refine Tl.done kR rfl ?_;refine To.aGz (fun H1 hs=> ?_);refine So.mono ?_ (fun g hg=> Jw.toT rfl hg);have eoff:0+((κ:Nat):Int).toNat*1=κ:=by rw[Int.toNat_natCast];omega
 refine So.own (z:=((bk.left κ:Nat):Int)) (ik:=.i64) rfl rfl rfl ?_ rfl kR ?_ ?_
 ·show some (Value.pointer (some ⟨X.C,0+((κ:Nat):Int).toNat*1,none⟩))=_;rw[eoff]
 ·intro D o _ hGo;rw[hGI] at hGo ⊢;have aFW:o=.cells ⟨vE bk D⟩ 3 (0,0):=hGo;subst aFW;refine⟨⟨vE bk D⟩,3,rfl,by simp only[List.size_toArray,YZ];exact hκ,?_⟩;show Obj.cells _ 3 (0,0)=.cells ⟨vE bk (XT D κ)⟩ 3 (0,0);rw[<-ZZ];simp
 ·exact fun k' _=> So.done Jw.UN (Sc.over Jw.UN rfl (aBL rfl (Sb.leaveD Jq.cl func125 rfl results125 (.inr rfl) Jq.bot)))
end
set_option maxHeartbeats 16000000
theorem jE {H:View}{b:Nat}{f:Bool}{o:Obj}(h:H b=some (f,o)):ro H b=some (false,o):=by simp[ro,h]
theorem aH {H:View}{b:Nat}(h:H b=none):ro H b=none:=by simp[ro,h]
def E2(H H':View):Prop:=∀b f o,H b=some (f,o)->∃f',H' b=some (f',o)
theorem QX {H H':View}{sz m:Nat}{y:Value}{l:List Value}(h:UA H sz y m l)(k:E2 H H'):UA H' sz y m l:=by
 obtain⟨h1,h2,h3⟩:=h;refine⟨h1,h2,h3.imp id ?_⟩;rintro⟨b,off,c,f,cs,e,fz,h4,h5,h6,h7⟩;obtain⟨f',h5'⟩:=k _ _ _ h5;exact⟨b,off,c,f',cs,e,fz,h4,h5',h6,h7⟩
theorem VB.of {H H':View}{k:Bk}{A:Option Addr}{lc:Nat}{B:Option Addr}{tc:Nat}{F:Nat->Option Addr}{fc:Nat->Nat}(h:VB H k A lc B tc F fc)(hk:E2 H H'):VB H' k A lc B tc F fc:=
 ⟨h.bR,h.SZ,QX h.rows hk,QX h.UD hk,h.hfc,fun i hi=> QX (h.free i hi) hk⟩
structure mW(X:Fk)(k:Bk)(H:View)(b5 b6:Nat)(A:Option Addr)(lc:Nat)(B:Option Addr)(tc:Nat)(F:Nat->Option Addr)(fc:Nat->Nat):Prop where
 bk:VB H k A lc B tc F fc
 sm:k.small
 al:k.VA=0
 n:X.n=k.nt
 h5:∃f,H b5=some (f,.cells ⟨(k.val A lc B tc).cells.toList⟩ 166 (0,0))
 h6:∃f,H b6=some (f,.cells ⟨[.slice (some ⟨X.C,0,none⟩) k.nt k.nt]⟩ 24 (0,0))
 C0:H X.C=none
 GI:X.GI=GIl k
theorem mW.of {X:Fk}{k:Bk}{H H':View}{b5 b6:Nat}{A:Option Addr}{lc:Nat}{B:Option Addr}{tc:Nat}{F:Nat->Option Addr}{fc:Nat->Nat}(h:mW X k H b5 b6 A lc B tc F fc)(hk:E2 H H')(h0:H' X.C=none):mW X k H' b5 b6 A lc B tc F fc:=
 ⟨h.bk.of hk,h.sm,h.al,h.n,let ⟨_,g⟩:=h.h5;hk _ _ _ g,let ⟨_,g⟩:=h.h6;hk _ _ _ g,h0,h.GI⟩
abbrev b33:FB:=⟨51,.normal,none⟩
noncomputable def L33:Code:=cR (cL (cR (cR (cR (cR (cR (uM Tryz.f51)))))))
noncomputable def B33:Code:=cB (cB L33)
noncomputable def T33:Code:=cR (cR (cR (cR (cR (cR (uM Tryz.f51))))))
section
variable {X:Fk}{k:Bk}{b1 b5 b6:Nat}{A:Option Addr}{lc:Nat}{B:Option Addr}{tc:Nat}{F:Nat->Option Addr}{fc:Nat->Nat}{Fin:Goroutine->Prop}{cs:List Frame}
def rgS(X:Fk)(k:Bk)(b1 b5 b6 j:Nat):Rg:= [(1,.pointer (some ⟨b1,0,none⟩)),(5,.pointer (some ⟨b5,0,none⟩)),(6,.pointer (some ⟨b6,0,none⟩)),(7,.pointer (some ⟨X.Wg,0,none⟩)),(24,.int .i64 (k.nt:Nat)),(25,.int .i64 (j:Nat))]
theorem XP(pE:∀(R:Rg),OB (rgS X k b1 b5 b6 k.nt) R->∀κ (H:View),Sc (Jm prog X Fin κ .wd k.nt H) 50 b33 cs R [] [.code T33]):∀(d j κ:Nat) (H:View),j+d=k.nt->mW X k H b5 b6 A lc B tc F fc->∀(R:Rg),OB (rgS X k b1 b5 b6 j) R-> 
  Sc (Jm prog X Fin κ (if j<X.n then .kd else .wd) j H) 50 b33 cs R [] [.code B33,.inLoop B33,.inBlock 0,.code T33]
 | 0,j,κ,H,hj,eC,R,hR=> by
  have e:j=k.nt:=by omega
  subst e;rw[if_neg (by rw[eC.n];omega)];refine Sc.drop hR ?_;unfold rgS;refine .sq (.rg rfl rfl ?_);refine .i ?_ (z:=lJ oM);refine .dn ?_;refine Sc.seq Jm.cl (Sc.cond Jm.cl (t:=false) rfl (fun h=> nomatch h) (fun _=> ?_));refine .xt rfl ?_;exact pE _ ⟨rfl,rfl,rfl,rfl,rfl,rfl,trivial⟩ κ H
 | d + 1,j,κ,H,hj,eC,R,hR=> by
  rw[if_pos (by rw[eC.n];omega)];refine Sc.drop hR ?_;unfold rgS;obtain⟨hg,mQ,JM,dC⟩:=Bk.valid eC.al;refine .sq (.rg rfl rfl ?_);refine .i ?_ (z:=DN oM);refine .dn ?_;refine Sc.seq Jm.cl (Sc.cond Jm.cl (t:=true) rfl (fun _=> ?_) (fun h=> nomatch h));refine .sp (.sq (.bl (.sq ?_)));refine Sc.none eC.C0 ?_;refine Sc.aEW (kA.nil H) ?_;refine .r ?_;refine .m ?_;refine .e (.al (zz:=fun b8=> ?_));refine .e (.st 0 (zz:=?_));refine .done ?_;refine Tc.aEV (fun H1 hs=> Sc.D7 (fun hC1=> ?_));have aGp:mW X k H1 b5 b6 A lc B tc F fc:=eC.of (fun b f o h=> ⟨f,hs.base _ _ h⟩) hC1;have h8:=hs.get (i:=0) rfl;show Sc (Jm prog X Fin κ .kd j H1) 50 b33 cs _ [] _;refine .sq (.rg rfl rfl ?_);refine So.bD rfl rfl rfl nofun rfl (.mk' rfl) rfl (A3) ?_;rintro v J' ⟨rfl,κ',rfl⟩;refine .dn (.rg rfl rfl ?_);refine So.opD Jm.cl rfl rfl rfl rfl (ED.makeFunc rfl rfl rfl) ?_;have kX:mW X k (ro H1) b5 b6 A lc B tc F fc:=aGp.of (fun b f o h=> ⟨false,jE h⟩) (aH hC1);refine Jm.go (f:=125) (fn:=#[]) (caps:=(aAZ X b5 b8 b6).toArray) rfl nofun rfl rfl rfl rfl rfl rfl rfl (fun k1 _=> ?_) (fun k1 _=> ?_)
  ·refine .dn (.ib (.rg rfl rfl ?_));refine .i ?_ (z:=LB oM oM);refine .m ?_;refine .dn ?_;refine Sc.inLoop (by exact Jm.cl) ?_;exact XP pE d (j+1) k1 (ro H1) oM kX _ ⟨rfl,rfl,rfl,rfl,rfl,rfl,trivial⟩
  ·exact o8 ⟨kX.bk,eC.sm.nl,fun i hi=> (eC.sm.num i hi).2,dC,JM,oM,oM,kX.h5,⟨false,jE h8⟩,kX.h6,oM,eC.GI⟩ k1
end
theorem Ph.aEX {P:Program}{H:View}{g:Goroutine}{Po:View->Goroutine->Prop}(h:aA0 P H g Po):Ph P H g Po:=
 ⟨H,fun _=> none,Po,fun _ _ h=> (nomatch h),(by funext b;unfold View.plus;cases H b <;> rfl),h,fun H' g' _ hp=> by
  have e:H'.plus (fun _=> none)=H':=by funext b;unfold View.plus;cases H' b <;> rfl
  rwa [e]⟩
def View.beside(X:Fk)(H:View):View:=(H.aB X.C).aB X.Wg
theorem nN {X:Fk}{H:View}:View.beside X H X.Wg=none/\View.beside X H X.C=none:=by
 refine⟨?_,?_⟩ <;> unfold View.beside View.aB <;> simp
theorem TG {X:Fk}{H:View}{b:Nat}(h1:b≠X.C)(h3:b≠X.Wg):View.beside X H b=H b:=by
 unfold View.beside;rw[HA h3,HA h1]
theorem Ph.begin {P:Program}{H:View}{g:Goroutine}{Po:View->Goroutine->Prop}(X:Fk)(Fin:Goroutine->Prop)(o:Obj)(hn:X.n<=6)(ne:X.Wg≠X.C)
  (hC:H X.C=some (true,o)) (hWg:H X.Wg=some (true,X.RV ⟨0,0,0⟩)) (hGI:X.GI (fun _=> false) o)
  (hg:∀k,T (Mw P true X.ok) (MS P X Fin k (if 0<X.n then .kd else .wd) 0) (ro (View.beside X H)) g) (hPo:∀o' g',X.GI (fun i=> decide (i<X.n)) o'->Fin g'->Po ((View.beside X H).put X.C (true,o')) g'):Ph P H g Po:=by
 refine Ph.aEX ⟨X,Fin,View.beside X H,o,hn,ne,nN,?_,hGI,hg,hPo⟩
 funext b
 by_cases e1:b=X.Wg
 ·subst e1;rw[View.bB,hWg]
 ·rw[View.GA _ _ e1];by_cases e3:b=X.C
  ·subst e3;rw[View.bB,hC]
  ·rw[View.GA _ _ e3,TG e3 e1]
theorem So.all {J:Obj->Goroutine->Prop}{p:Obj->Prop}{n:Nat}{b:FB}{cs:List Frame}{dl:List (Option Tmp)}{R:Rg}{ds:List Deferred}{l:List Oper}{kk:List Item}(h:∀o,p o->So (J o) n b cs dl R ds l kk):So (fun g=> ∀o,p o->J o g) n b cs dl R ds l kk:=
 fun arr ix ha hx tmps hr o ho=> h o ho arr ix ha hx tmps hr
def Bk.sF(k:Bk):Nat->Int×Int
 | 0=> (-1,(k.qH.length:Nat))
 | j+1=> if((k.left j:Nat):Int)<(k.sF j).2 then((j:Nat),((k.left j:Nat):Int)) else k.sF j
def Bk.look(k:Bk):Int×Int:=k.sF k.nt
def aBj(p:Int×Int):Value:=.tuple ⟨[.int .i64 p.1,.int .i64 p.2,.int .i64 0]⟩
section
theorem aBt(H:View)(k:Bk)(A:Option Addr)(lc:Nat)(B:Option Addr)(tc:Nat)(F:Nat->Option Addr)(fc:Nat->Nat)(hB:VB H k A lc B tc F fc)(hn:k.small)(hG:HC H)(ha:k.VA=0):
  aA (Mp prog) 51 #[k.val A lc B tc] H (fun v H'=> H.le H'/\v=aBj k.look):=by
 obtain⟨hgg,mQ,JM,dC⟩:=Bk.valid ha;have qA:=fun(H':View) (h':H.le H')=> FC (Mp prog) H' k A lc B tc (hB.bk.le h') hn (EA hG h') ha;refine .en func51 ntmps51 fun St c cs hK=> ?_;refine .sr ?_;refine .e (.bx (zz:=fun b1=> ?_));refine .g ?_;refine .g ?_;refine .g ?_;refine .done (.sr ?_);refine .x (.ld 0) ?_;refine .c rfl rfl rfl rfl (fun H hs=> .f aFK rfl (qA H hs.base)) ?_;refine .m ?_;refine .x .et ?_;refine .x .et ?_;refine .e (.al (zz:=fun b5=> ?_));refine .e (.st 0 (zz:=?_));refine .g ?_;refine .done (.seq (.sr ?_));refine .m ?_;refine .i ?_ (z:=ZG oM);refine .done (.ff rfl (.skip (.sr ?_)));refine .x .fa ?_;refine .x (.ld 1) ?_;refine .x .ln ?_;refine .e (Or.makeSlice (E:=en) (len:=k.nt) (cap:=k.nt) rfl rfl rfl rfl rfl rfl (Nat.le_refl _) oM rfl rfl dE (fun bC=> ?_));refine .e (.al (zz:=fun b6=> ?_));refine .e (.st 0 (zz:=?_));refine .done (.sr ?_);refine .e (.al (zz:=fun b7=> ?_));refine .done (.seq (.sr ?_));refine .x (.ld 1) ?_;refine .x .ln ?_;refine .m ?_;refine .done ?_;refine Tc.aEV (fun Hx hs tmps hr=> ?_);obtain⟨X,hX⟩:∃X:Fk,X=⟨k.nt,b7,bC,233,GIl k⟩:=⟨_,rfl⟩
 have x1:=hs.get (i:=0) rfl;have x2:=hs.get (i:=1) rfl;have x3:=hs.get (i:=2) rfl;have x4:=hs.get (i:=3) rfl;have x5:=hs.get (i:=4) rfl;have jF: [b7,b6,bC,b5,b1].Nodup:=hs.nodup;simp only[List.nodup_cons,List.mem_cons,List.not_mem_nil,or_false,not_or,not_false_eq_true,List.nodup_nil,and_true] at jF;obtain⟨⟨n1,n2,n3,n4⟩,⟨n5,n6,n7⟩,⟨n8,n9⟩,n10⟩:=jF;have jX:∀y,y=bC\/y=b7->H y=none:=by
  rintro y (rfl|rfl)
  ·exact hs.out _ (List.mem_cons_of_mem _ (List.mem_cons_of_mem _ List.mem_cons_self))
  ·exact hs.out _ List.mem_cons_self
 have hle:H.le (View.beside X Hx):=fun b y hb=> by
  have e:∀z,z=bC\/z=b7->b≠z:=fun z hz e=> by subst e;rw[jX b hz] at hb;cases hb
  rw[TG (by subst hX;exact e _ (.inl rfl)) (by subst hX;exact e _ (.inr rfl))];exact hs.base _ _ hb
 have y5:View.beside X Hx b5=some (true,.cells ⟨(k.val A lc B tc).cells.toList⟩ 166 (0,0)):=by
  subst hX;rw[TG (by exact Ne.symm n8) (by exact Ne.symm n3)];exact x4
 have y6:View.beside X Hx b6=some (true,.cells ⟨[.slice (some ⟨bC,0,none⟩) k.nt k.nt]⟩ 24 (0,0)):=by
  subst hX;rw[TG n5 (by exact Ne.symm n1)];exact x2
 obtain⟨Fin,hF⟩:∃Fin:Goroutine->Prop,Fin=fun g=> ∀o',X.GI (fun i=> decide (i<X.n)) o'->T (Mp prog) St ((View.beside X Hx).put X.C (true,o')) g:=⟨_,rfl⟩
 have hcF:Cl prog true A0 Fin:=⟨fun g g' hs h hf=> by
  subst hF;exact fun o' ho=> .step ⟨hs,fun w hw dC=> ⟨g',w,#[],_,h w (fun _ _ e=> by cases e),.refl hw,hf o' ho⟩⟩⟩
 have hz:cD [Value.int .i64 0] (k.nt*1)=vE k (fun _=> false):=by
  rw[RN,Nat.mul_one];unfold vE;simp[List.map_const']
 refine T.phase (Po:=fun H' g'=> T (Mp prog) St H' g') (Ph.begin X Fin (.cells ⟨vE k (fun _=> false)⟩ 3 (0,0)) (by subst hX;exact JM) (by subst hX;exact n2) (by subst hX;rw[<-hz];exact x3) (by subst hX;exact x1) (by subst hX;exact rfl) (fun κ=> ?_) (fun o' g' ho hg=> by subst hF;exact hg o' ho)) (fun H' g' h=> h);have eC:mW X k (ro (View.beside X Hx)) b5 b6 A lc B tc F fc:=
  ⟨hB.of (fun b f o h=> ⟨false,jE (hle _ _ h)⟩),hn,ha,by subst hX;rfl,⟨false,jE y5⟩,by subst hX;exact⟨false,jE y6⟩,aH nN.2,by subst hX;rfl⟩
 have pE:∀(R:Rg),OB (rgS X k b1 b5 b6 k.nt) R->∀κ (H:View),Sc (Jm prog X Fin κ .wd k.nt H) 50 b33 (c::cs) R [] [.code T33]:=by
  intro R hR κ Hk;refine Sc.drop hR ?_;unfold rgS;refine .sq (.rg rfl rfl ?_);refine So.bD rfl rfl rfl nofun rfl (.mk' rfl) rfl (aDV hcF) ?_;rintro v J' ⟨rfl,rfl⟩;subst hF;refine So.all (fun o' uQ=> ?_);have hGI:X.GI=GIl k:=by subst hX;rfl
  rw[hGI] at uQ;have ho2:o'=.cells ⟨vE k (fun i=> decide (i<X.n))⟩ 3 (0,0):=uQ;subst ho2;have hX2:X.n=k.nt:=by subst hX;rfl
  have z5:(View.beside X Hx).put X.C (true,.cells ⟨vE k (fun i=> decide (i<X.n))⟩ 3 (0,0)) b5=some (true,.cells ⟨(k.val A lc B tc).cells.toList⟩ 166 (0,0)):=by
   rw[View.GA _ _ (by subst hX;exact Ne.symm n8)];exact y5
  have z6:(View.beside X Hx).put X.C (true,.cells ⟨vE k (fun i=> decide (i<X.n))⟩ 3 (0,0)) b6=some (true,.cells ⟨[.slice (some ⟨X.C,0,none⟩) k.nt k.nt]⟩ 24 (0,0)):=by
   rw[View.GA _ _ (by subst hX;exact n5)];subst hX;exact y6
  have zC:(View.beside X Hx).put X.C (true,.cells ⟨vE k (fun i=> decide (i<X.n))⟩ 3 (0,0)) X.C=some (true,.cells ⟨vE k (fun i=> decide (i<X.n))⟩ 3 (0,0)):=View.bB ..;have zle:H.le ((View.beside X Hx).put X.C (true,.cells ⟨vE k (fun i=> decide (i<X.n))⟩ 3 (0,0))):=fun b y hb=> by
   rw[View.GA _ _ (by rintro rfl;subst hX;rw[jX bC (.inl rfl)] at hb;cases hb)];exact hle _ _ hb
  generalize (View.beside X Hx).put X.C (true,.cells ⟨vE k (fun i=> decide (i<X.n))⟩ 3 (0,0))=H2 at z5 z6 zC zle;refine So.aGA (kA.nil H2) ?_;refine .done (.sr ?_);refine .x .l0 ?_;refine To.sB rfl rfl rfl rfl rfl rfl dE (CB.f aD3 rfl (XJ _ H2 k A lc B tc (hB.bk.le zle).rows hn.nl (hB.bk.le zle).UD dC JM)) (fun v H₃ hv=> ?_);obtain⟨kK,m,es,cl,rfl,⟨fm,q3⟩,q4⟩:=hv;have IE:=Bk.IP q4;have z6':=kK _ _ z6;have zC':=kK _ _ zC;refine .x (xA.MK (E:=en) (es:=es) rfl rfl rfl rfl rfl (fun H hs=> ⟨fm,hs.base _ _ q3⟩) rfl rfl) ?_;refine .g ?_;refine .g ?_;refine .done ?_;rw[IE];refine .seq (.sr ?_);refine .x .l0 ?_;refine .x .ln ?_;refine .m ?_;refine .done (.block ?_);refine Tc.db (Tc.sA (σ:= { j:Nat//j<=k.nt }) (fun j=> ([(2,.int .i64 (k.sF j.1).1),(3,.int .i64 (k.sF j.1).2),(35,.slice (some ⟨X.C,0,none⟩) k.nt k.nt),(36,.int .i64 (k.nt:Nat)),(37,.int .i64 (j.1:Nat))],[])) (fun j=> k.nt-j.1) ?_ ⟨0,Nat.zero_le _⟩);rintro⟨j,hj⟩ ih;show Tc (Mp prog) St _ _ _ _ [(2,.int .i64 (k.sF j).1),(3,.int .i64 (k.sF j).2),(35,.slice (some ⟨X.C,0,none⟩) k.nt k.nt),(36,.int .i64 (k.nt:Nat)),(37,.int .i64 (j:Nat))] [] _ _;by_cases c1:j=k.nt
  ·subst c1;refine .sr ?_;refine .i ?_ (z:=lJ oM);refine .done (.seq (.ff rfl (.exit rfl (.sr ?_))));refine .m ?_;refine .m ?_;refine .g ?_;refine .g ?_;refine .g ?_;refine .done ?_;refine .rt hK func51 results51 [_,_,_] ?_;exact fun H' hs=> ⟨View.le_trans zle (View.le_trans kK hs.base),rfl⟩
  ·have c2:j<k.nt:=by omega
   have f1:BC false 1 (vE k (fun i=> decide (i<X.n))) (0+((j:Nat):Int).toNat*1)=some (.int .i64 ((k.left j:Nat):Int)):=by
    show _[_]? =_;rw[Nat.zero_add,Int.toNat_natCast,Nat.mul_one];unfold vE;rw[List.getElem?_map,List.getElem?_range c2];simp[hX2,c2]
   by_cases c3:((k.left j:Nat):Int)<(k.sF j).2
   ·have e:k.sF (j+1)=(((j:Nat):Int),((k.left j:Nat):Int)):=by rw[Bk.sF,if_pos c3]
    refine .sr ?_;refine .i ?_ (z:=DN oM);refine .done (.seq (.tt rfl (.skip (.seq (.block (.sr ?_))))));refine .m ?_;refine .x .ia ?_;refine .x .l0 ?_;refine .g ?_;refine .g ?_;refine .done (.sr ?_);refine .m ?_;refine .m ?_;refine .i ?_ (z:=DN oM);refine .done (.tt rfl (.r ?_));refine .m ?_;refine .m ?_;refine .g ?_;refine .g ?_;refine .done (.inBlock (.r ?_));refine .i ?_ (z:=LB oM oM);refine .m ?_;refine .done ?_;refine Tc.gC (ih ⟨j+1,c2⟩ (by simp only;omega)) ?_ sL;simp only[e];exact⟨rfl,rfl,rfl,rfl,rfl,trivial⟩
   ·have e:k.sF (j+1)=k.sF j:=by rw[Bk.sF,if_neg c3]
    refine .sr ?_;refine .i ?_ (z:=DN oM);refine .done (.seq (.tt rfl (.skip (.seq (.block (.sr ?_))))));refine .m ?_;refine .x .ia ?_;refine .x .l0 ?_;refine .g ?_;refine .g ?_;refine .done (.sr ?_);refine .m ?_;refine .m ?_;refine .i ?_ (z:=lJ oM);refine .done (.ff rfl (.skip (.inBlock (.r ?_))));refine .i ?_ (z:=LB oM oM);refine .m ?_;refine .done ?_;refine Tc.gC (ih ⟨j+1,c2⟩ (by simp only;omega)) ?_ sL;simp only[e];exact⟨rfl,rfl,rfl,rfl,rfl,trivial⟩
 refine Sc.block Jm.cl (Sc.loop Jm.cl ?_) tmps hr;have hgo:=XP pE k.nt 0 κ (ro (View.beside X Hx)) oM eC;subst hX;exact hgo _ (by unfold rgS;refine⟨rfl,?_⟩;refine⟨rfl,?_⟩;refine⟨rfl,?_⟩;refine⟨rfl,?_⟩;refine⟨rfl,?_⟩;refine⟨rfl,?_⟩;exact trivial)
end
end Go.Proofs.YtldmfjcgjdchcaaGreatDoor
namespace Go.Proofs.YtldmfjcgjdchcaaGreatDoor
open Go.RL Go.Proofs.Tryz
set_option maxRecDepth 100000
theorem DZ:AE.xD= [[49,50],[49,51]]:=by decide +kernel
theorem EZ:DF.xD= [[49,49,50],[50,50]]:=by decide +kernel
theorem lS:(AE.mB 0=0/\AE.mB 1=0/\AE.mB 2=2)/\AE.mB (-1)=2:=by decide +kernel
theorem mS:(DF.mB 0=2/\DF.mB 1=2/\DF.mB 2=0)/\DF.mB (-1)=0:=by decide +kernel
theorem aBP:(pA (fun i=> !DF.iJ (uC [1,1,2]) (uC [3,9,9]) i) 3).isSome=false/\DF.MD (uC [1,1,2]) (uC [3,9,9]) 3=⟨[50,50],0,false⟩/\DF.line [50,50]=some 2:=by decide +kernel
theorem aBQ:(pA (fun i=> !DF.iJ (uC [1,1,2]) (uC [5,9,9]) i) 3).isSome=false/\DF.MD (uC [1,1,2]) (uC [5,9,9]) 3=⟨[49,49,50],0,false⟩/\DF.line [49,49,50]=none:=by decide +kernel
theorem T9:AE.look=(1,1):=by decide +kernel
theorem W9:AE.settled=none:=by decide +kernel
theorem oO:ZA 2 2 6 6=true/\AE.w6 1 2 2 6 6=true:=by decide +kernel
theorem X9:XR.settled=some (2,0):=by decide +kernel
theorem VO:(AE.jG 1 0=2/\AE.jG 1 1=0)/\AE.RF 1 2=2:=by decide +kernel
theorem L4:nZ (AE.cP 0)= [1,2]:=by decide +kernel
theorem J4:AE.tI [51]=.tuple ⟨[.bool false,.int .i64 0]⟩:=by
 have h:isNum [51]=true/\AE.clash [51]=false/\AE.safe [51]=false:=by decide +kernel
 unfold Bk.tI;rw[if_neg (by rw[tG];decide),if_neg (by rw[h.1];decide),if_neg (by rw[h.2.1];decide),h.2.2]
theorem K4:AE.tI [53]=.tuple ⟨[.bool true,.int .i64 0]⟩:=by
 have h:isNum [53]=true/\AE.clash [53]=false/\AE.safe [53]=true:=by decide +kernel
 unfold Bk.tI;rw[if_neg (by rw[tG];decide),if_neg (by rw[h.1];decide),if_neg (by rw[h.2.1];decide),h.2.2]
theorem M4:AE.wJ 1 true=GG [48] true 0:=by
 have h:AE.spare 1 true=some [48]:=by decide +kernel
 unfold Bk.wJ;rw[if_neg (by rw[tG];decide),if_neg dE];show(match AE.spare 1 true with|some x=> GG x true 0|none=> GG [] false 0)=_;rw[h]
theorem FZ:OL [49,50,48]=.tuple ⟨[.int .i64 13,.int .i64 0]⟩:=by
 have h:isNum [49,50,48]=true/\KB [49,50,48]=13:=by decide +kernel
 unfold OL;rw[if_neg (by rw[h.1];decide),h.2];rfl
theorem I4:(EF 2 2).length<=12/\(pA (fun j=> !gF (uC [5,3,1] j)) 3).isSome=false/\(mI (uC [5,3,1]) 3 2 2).total=18/\(mI (uC [5,3,1]) 3 2 2).done=true/\(mI (uC [5,3,1]) 3 2 2).RE= [[49],[50,49],[50,50]]:=by decide +kernel
theorem NW:DF.BE 3 3 (uC [1,1,2]) (uC [3,9,9])=cE [50,50] 2 0:=by
 obtain⟨h1,h2,h3⟩:=aBP;unfold Bk.BE;rw[if_neg (by rw[WR];decide),if_neg dE];show(if(pA (fun i=> !DF.iJ (uC [1,1,2]) (uC [3,9,9]) i) 3).isSome=true then _ else cE (DF.MD (uC [1,1,2]) (uC [3,9,9]) 3).heard (wB (DF.line (DF.MD (uC [1,1,2]) (uC [3,9,9]) 3).heard)) 0)=_;rw[h1,h2];simp only[Bool.false_eq_true,if_false];rw[h3];rfl
theorem OW:DF.BE 3 3 (uC [1,1,2]) (uC [5,9,9])=cE [49,49,50] (-1) 0:=by
 obtain⟨h1,h2,h3⟩:=aBQ;unfold Bk.BE;rw[if_neg (by rw[WR];decide),if_neg dE];show(if(pA (fun i=> !DF.iJ (uC [1,1,2]) (uC [5,9,9]) i) 3).isSome=true then _ else cE (DF.MD (uC [1,1,2]) (uC [5,9,9]) 3).heard (wB (DF.line (DF.MD (uC [1,1,2]) (uC [5,9,9]) 3).heard)) 0)=_;rw[h1,h2];simp only[Bool.false_eq_true,if_false];rw[h3];rfl
end Go.Proofs.YtldmfjcgjdchcaaGreatDoor
namespace Go.RL
open Go.Conc
section
variable {P:Program}{M:Md P}{St:View->Goroutine->Prop}{n:Nat}{b:FB}{H₀:View}{cs:List Frame}{R:Rg}{L:Bl}{ds:List Deferred}{k:List Item}{md:Region.Mode}{ops:Array Oper}
theorem Ta.aBE(i j:Nat){B:List Nat}{Hs:View}{Ls Lb:Bl}{o:Oper}{d:Nat}{fuel:Nat}{listed:Array Bool}{cl:Go.Call}{x:Operand}{fv:Value}{az:List Value}(hr:Region.ready md ops listed= [i,j])(hi:ops[i]? =some o)
  (hw:XA (ops.toList.map (fun o:Oper=> o.dst)) R o=some true) (qA:o.op=.call cl) (yB:cl.callee=.value x) (hx:RA R x=some fv) (has:FD R cl.args.toList=some az) (hd:o.dst=some d) (hn:d<n)
  {Q:Value->View->Prop} (hc:CB M fv az H₀ Q) (hle:∀v H₁,Q v H₁->Hs.le H₁) (h1:Ls.Sublist L) (h2:(B.all fun j=> !((listed.setIfInBounds i true).getD j true))=false\/Lb.Sublist L)
  (hk:∀v H₁,Q v H₁->Ta M St n b H₁ cs (S2 Hs B Ls Lb) md ops fuel (listed.setIfInBounds i true) ((d,v)::R) L ds k)
  (hj:OT M St n b H₀ cs (S2 Hs B Ls Lb) md ops fuel listed R L ds k j):
  Ta M St n b H₀ cs (S2 Hs B Ls Lb) md ops (fuel+1) listed R L ds k:=fun H tmps hs mF _ H₂ h2' _=> by
 have hs:=hs.mono h2';refine⟨fun e=> (by rw[hr] at e;cases e),fun j' wS o' uQ=> ?_⟩;rw[hr] at wS;have xU:j'=i\/j'=j:=by simpa using wS
 rcases xU with rfl|rfl
 ·rw[hi] at uQ;cases uQ
  refine⟨(by rw[qA];rfl),?_⟩;have cW:Region.wanted o (yielded ops tmps)=true:=cC (fun j=> by
   simp only[List.getElem?_map,Array.getElem?_toList];cases ops[j]? <;> rfl) mF hw
  rw[if_pos cW];obtain⟨F,rfl,O1,hF⟩:=hs.split;have e1:=mF.ev hx;have yL:cl.args.map (IC tmps)=az.toArray:=by
   apply Array.ext'
   simpa using mF.evs has
  have hex:execOp (IC tmps) o=(Deferred.ofValue fv az.toArray).bind fun d=> invoke d.target d.args:=by
   have h1:execOp (IC tmps) o=(resolve (IC tmps) cl o.type).bind fun d=> invoke d.target d.args:=by unfold execOp;rw[qA];rfl
   rw[h1];unfold resolve;rw[yB];simp only[e1,yL]
  unfold kF;rw[hex];have fin:∀v H'',CK F Q v H''->S2 Hs B Ls Lb (listed.setIfInBounds j' true) H''/\EI M md ops (S2 Hs B Ls Lb) (fun tmps H=> T M St H (G (b.at tmps ds k) cs)) fuel (listed.setIfInBounds j' true) (kC tmps o.dst v) H'':=by
   rintro v H'' ⟨H₁,rfl,jQ,hq⟩;have AS:kA H₁ L (H₁.plus F):=.CS hs.nodup hF jQ;have hS:S2 Hs B Ls Lb (listed.setIfInBounds j' true) (H₁.plus F):=S2.mkL (hle v H₁ hq) h1 h2 _ AS;refine⟨hS,?_⟩;rw[hd];exact hk v H₁ hq _ _ AS (mF.put hn v) hS
  refine kB _ (fun nx H' ZK=> ?_) (hc.frame O1);cases nx <;> first
   | exact ZK.elim
   | exact aA.mono ZK fin
   | exact jN.mono ZK fin
 ·obtain⟨o2,ho2,hd2,hw2,h'⟩:=hj;rw[uQ] at ho2;cases ho2
  refine⟨hd2,?_⟩;have cW:Region.wanted o' (yielded ops tmps)=true:=cC (fun j=> by
   simp only[List.getElem?_map,Array.getElem?_toList];cases ops[j]? <;> rfl) mF hw2
  rw[if_pos cW];refine(h' H₂ tmps hs mF).mono ?_;rintro t H' ⟨R',L',h1,h2,h3,h4⟩;exact⟨h3 H' h2,h4 H' t h2 h1 (h3 H' h2)⟩
theorem Tc.aGK {x:Item}(F:View->Rg->Bl->Prop)(hF:∀H R L,F H R L->Tc M St n b H cs R L ds k)(h:(∀H R L,F H R L->Tc M St n b H cs R L ds k)->Tc M St n b H₀ cs R L ds (x::k)):Tc M St n b H₀ cs R L ds (x::k):=h hF
end
end Go.RL
namespace Go.Proofs.YtldmfjcgjdchcaaGreatDoor
open Go.RL Go.Proofs.Tryz
set_option maxRecDepth 10000
set_option maxHeartbeats 32000000
theorem YP {H:View}{b:Nat}{f:Bool}{gt:TypeId}{gz:Nat×Nat}(m:List (List UInt8))(h:H b=some (f,.cells ⟨PB m⟩ gt gz)):HE H (some ⟨b,0,none⟩) m.length (fun j=> m[j]?.getD []):=
 .inr ⟨b,0,f,_,gt,gz,rfl,h,fun j hj=> by
  show(PB m)[_]? =_;rw[Nat.zero_add,Int.toNat_natCast,Nat.mul_one];unfold PB;rw[List.getElem?_map];simp only[List.getElem?_eq_getElem hj];rfl⟩
theorem XK(l:List (List UInt8)){n:Nat}(hn:n=l.length):(decide (n=l.length)&&rG (fun i=> decide ((fun j=> l[j]?.getD []) i=(fun j=> l[j]?.getD []) i)) n)=true:=by
 rw[decide_eq_true hn,(JD n).2 (fun i _=> decide_eq_true rfl)];rfl
theorem WE {H:View}{b:Nat}{f:Bool}{gt:TypeId}{gz:Nat×Nat}(m:List Int)(h:H b=some (f,.cells ⟨jA m⟩ gt gz)):GB H (some ⟨b,0,none⟩) m.length (uC m):=
 .inr ⟨b,0,f,_,gt,gz,rfl,h,fun j hj=> by
  show(jA m)[_]? =_;rw[Nat.zero_add,Int.toNat_natCast,Nat.mul_one];unfold jA uC;rw[List.getElem?_map];simp only[List.getElem?_eq_getElem hj];rfl⟩
theorem dU {e:TypeId}(g:Gl e 1){H:View}(h:∀x∈g.bl,H x.1=some x.2){f:Nat->Int}{n:Nat}(hl:g.l=VV f n)(hn:g.n=n):GB H (g.blk.map fun b=> ⟨b,0,none⟩) n f:=by
 cases hb:g.blk with
 | none=>
  have:=g.h0 hb;have:=g.hc;exact .inl oM
 | some b=>
  have QJ:g.bl= [(b,true,.cells ⟨g.l++g.HB⟩ e (0,0))]:=by unfold Gl.bl;rw[hb]
  refine .inr ⟨b,0,true,_,e,(0,0),rfl,h (b,true,.cells ⟨g.l++g.HB⟩ e (0,0)) (by rw[QJ];simp),fun j hj=> ?_⟩;show(g.l++g.HB)[_]? =_;rw[Nat.zero_add,Int.toNat_natCast,Nat.mul_one,List.getElem?_append_left (by rw[hl,K9];exact hj),hl];unfold VV;rw[List.getElem?_map,List.getElem?_range hj];rfl
theorem X3(m:List Int):jA m=VV (uC m) m.length:=by
 apply List.ext_getElem?
 intro i;unfold jA VV uC;rw[List.getElem?_map,List.getElem?_map];by_cases h:i<m.length
 ·rw[List.getElem?_range h,List.getElem?_eq_getElem h];simp[h]
 ·rw[List.getElem?_eq_none oM,List.getElem?_eq_none (by simp;omega)];rfl
theorem three {p:Nat->Prop}(h0:p 0)(h1:p 1)(h2:p 2):∀i,i<3->p i:=fun i hi=> by
 rcases(by omega:i=0\/i=1\/i=2) with rfl|rfl|rfl
 ·exact h0
 ·exact h1
 ·exact h2
theorem two {p:Nat->Prop}(h0:p 0)(h1:p 1):∀i,i<2->p i:=fun i hi=> by
 rcases(by omega:i=0\/i=1) with rfl|rfl
 ·exact h0
 ·exact h1
theorem GV {H:View}{a:Option Addr}{n c:Nat}{l:List (List UInt8)}(h:UA H 1 (.slice a n c) n (PB l))(hn:n=l.length):HE H a n (fun j=> l[j]?.getD []):=by
 obtain⟨_,_,⟨_,_,h1,h2⟩|⟨b,off,c',f,cs,e,fz,h1,h2,h3,h4⟩⟩:=h
 ·have:l= []:=by simpa [PB] using h2
  exact .inl (by rw[hn,this];rfl)
 ·simp only[Value.slice.injEq] at h1;refine .inr ⟨b,off,f,cs,e,fz,h1.1,h2,fun j hj=> ?_⟩;show cs[_]? =_;have D8:j<l.length:=by omega
  have h5:=congrArg (fun x=> x[j]?) h4;simp only[List.getElem?_take,List.getElem?_drop] at h5;rw[if_pos (by rw[xF];exact D8)] at h5;rw[Int.toNat_natCast,Nat.mul_one,h5];unfold PB;rw[List.getElem?_map];simp only[List.getElem?_eq_getElem D8];rfl
theorem To.aCx {P:Program}{M:Md P}{St:View->Goroutine->Prop}{n:Nat}{b:FB}{H₀:View}{cs:List Frame}{R:Rg}{L L₁:Bl}{ds:List Deferred}{k:List Item}{dl:List (Option Tmp)}{l:List Oper}(p:L₁.Perm L)(h:To M St n b H₀ cs dl R L₁ ds l k):To M St n b H₀ cs dl R L ds l k:=To.perm p h
theorem aAm(H:View)(hG:HC H):aA (Mp prog) 15 #[] H (fun v H'=> H.le H'/\v=.bool true):=by
 have sD:AE.small:=UO rfl dE rfl rfl;have sE:DF.small:=UO rfl dE rfl rfl;have sO:XR.small:=UO rfl dE rfl rfl;refine .en func15 ntmps15 fun St c cs hK=> ?_;refine U6 ?_;refine To.sB rfl rfl rfl rfl rfl rfl dE (CB.h (iZ _ H)) (fun v H1 hv=> ?_);obtain⟨tl1,dA,dlc,dB,dtc,dF,dfc,rfl,hD1⟩:=hv;refine To.sB rfl rfl rfl rfl rfl rfl dE (CB.h (R5 _ H1)) (fun v H2 hv=> ?_);obtain⟨le2,eA,elc,eB,etc,eF,efc,rfl,SW⟩:=hv;have tl2:=View.le_trans tl1 le2;have hD2:=hD1.le le2;have hG2:=EA hG tl2;refine .al fun b1=> ?_;refine .al fun b2=> ?_;refine U4 ?_;refine Tc.db (R':= [(1,.pointer (some ⟨b1,0,none⟩)),(2,.pointer (some ⟨b2,0,none⟩))]) (L':= [(b2,true,.cells ⟨(DF.val eA elc eB etc).cells.toList⟩ 45 (0,0)),(b1,true,.cells ⟨(AE.val dA dlc dB dtc).cells.toList⟩ 45 (0,0))]) ?_;refine U2 ?_;refine To.sB rfl rfl rfl rfl rfl rfl dE (CB.h (BO _ H2 AE dA dlc dB dtc hD2.bk sD hG2 tG)) (fun v H3 hv=> ?_);obtain⟨le3,g3,rfl,⟨ng3,lg3⟩,mg3⟩:=hv;rw[DZ] at ng3 lg3;refine U6 ?_;have tl3:=View.le_trans tl2 le3;have hD3:=hD2.le le3;have hE3:=SW.le le3;have hG3:=EA hG tl3;refine U ?_;refine Tc.db (R':= [(1,.pointer (some ⟨b1,0,none⟩)),(2,.pointer (some ⟨b2,0,none⟩)),(3,g3.val),(4,.int .i64 0)]) (L':= [(b2,true,.cells ⟨(DF.val eA elc eB etc).cells.toList⟩ 45 (0,0)),(b1,true,.cells ⟨(AE.val dA dlc dB dtc).cells.toList⟩ 45 (0,0))]) ?_;refine U2 ?_;refine To.sB rfl rfl rfl rfl rfl rfl dE (CB.h (pM _ H3 AE dA dlc dB dtc hD3.bk sD hG3 tG)) (fun v H4 hv=> ?_);obtain⟨le4,g5,rfl,⟨ng5,lg5⟩,mg5⟩:=hv;rw[lS.2];refine U8 ?_;have tl4:=View.le_trans tl3 le4;have hD4:=hD3.le le4;have hE4:=hE3.le le4;have hG4:=EA hG tl4;refine U ?_;refine Tc.db (R':= [(1,.pointer (some ⟨b1,0,none⟩)),(2,.pointer (some ⟨b2,0,none⟩)),(3,g3.val),(4,.int .i64 0),(5,g5.val),(6,.int .i64 2),(7,.int .i64 0)]) (L':= [(b2,true,.cells ⟨(DF.val eA elc eB etc).cells.toList⟩ 45 (0,0)),(b1,true,.cells ⟨(AE.val dA dlc dB dtc).cells.toList⟩ 45 (0,0))]) ?_;refine U2 ?_;refine To.sB rfl rfl rfl rfl rfl rfl dE (CB.h (BO _ H4 DF eA elc eB etc hE4.bk sE hG4 WR)) (fun v H5 hv=> ?_);obtain⟨le5,g8,rfl,⟨ng8,lg8⟩,mg8⟩:=hv;rw[EZ] at ng8 lg8;refine U6 ?_;have tl5:=View.le_trans tl4 le5;have hD5:=hD4.le le5;have hE5:=hE4.le le5;have hG5:=EA hG tl5;refine U ?_;refine Tc.db (R':= [(1,.pointer (some ⟨b1,0,none⟩)),(2,.pointer (some ⟨b2,0,none⟩)),(3,g3.val),(4,.int .i64 0),(5,g5.val),(6,.int .i64 2),(7,.int .i64 0),(8,g8.val),(9,.int .i64 0)]) (L':= [(b2,true,.cells ⟨(DF.val eA elc eB etc).cells.toList⟩ 45 (0,0)),(b1,true,.cells ⟨(AE.val dA dlc dB dtc).cells.toList⟩ 45 (0,0))]) ?_;refine U2 ?_;refine To.sB rfl rfl rfl rfl rfl rfl dE (CB.h (pM _ H5 DF eA elc eB etc hE5.bk sE hG5 WR)) (fun v H6 hv=> ?_);obtain⟨le6,g10,rfl,⟨ng10,lg10⟩,mg10⟩:=hv;rw[mS.2];refine U8 ?_;have tl6:=View.le_trans tl5 le6;have hD6:=hD5.le le6;have hE6:=hE5.le le6;have hG6:=EA hG tl6;refine U ?_;refine Tc.db (R':= [(1,.pointer (some ⟨b1,0,none⟩)),(2,.pointer (some ⟨b2,0,none⟩)),(3,g3.val),(4,.int .i64 0),(5,g5.val),(6,.int .i64 2),(7,.int .i64 0),(8,g8.val),(9,.int .i64 0),(10,g10.val),(11,.int .i64 0),(12,.int .i64 0)]) (L':= [(b2,true,.cells ⟨(DF.val eA elc eB etc).cells.toList⟩ 45 (0,0)),(b1,true,.cells ⟨(AE.val dA dlc dB dtc).cells.toList⟩ 45 (0,0))]) ?_;have fl6:=fun(H':View) (p1 p2:Nat) (h':H6.le H') (k1:H' p1=some (true,.cells ⟨jA [1,1,2]⟩ 3 (0,0))) (k2:H' p2=some (true,.cells ⟨jA [3,9,9]⟩ 3 (0,0)))=> dW (HT (Mp prog) H' DF eA elc eB etc (hE6.bk.le h') sE (EA hG6 h') (some ⟨p1,0,none⟩) (some ⟨p2,0,none⟩) 3 3 3 3 (uC [1,1,2]) (uC [3,9,9]) (WE [1,1,2] k1) (WE [3,9,9] k2)) NW;refine U2 ?_;refine .e (.bs (zz:=fun p1=> ?_));refine .e (.bs (zz:=fun p2=> ?_));refine .cl (fun H hs=> fl6 H p1 p2 hs.base (hs.get (i:=1) rfl) (hs.get (i:=0) rfl)) ?_;refine U9 ?_;refine Tc.db (R':= [(1,.pointer (some ⟨b1,0,none⟩)),(2,.pointer (some ⟨b2,0,none⟩)),(3,g3.val),(4,.int .i64 0),(5,g5.val),(6,.int .i64 2),(7,.int .i64 0),(8,g8.val),(9,.int .i64 0),(10,g10.val),(11,.int .i64 0),(12,.int .i64 0),(13,vA [50,50]),(14,.int .i64 2),(15,.int .i64 0)]) (L':= [(b2,true,.cells ⟨(DF.val eA elc eB etc).cells.toList⟩ 45 (0,0)),(b1,true,.cells ⟨(AE.val dA dlc dB dtc).cells.toList⟩ 45 (0,0))]) ?_;have fl7:=fun(H':View) (p1 p2:Nat) (h':H6.le H') (k1:H' p1=some (true,.cells ⟨jA [1,1,2]⟩ 3 (0,0))) (k2:H' p2=some (true,.cells ⟨jA [5,9,9]⟩ 3 (0,0)))=> dW (HT (Mp prog) H' DF eA elc eB etc (hE6.bk.le h') sE (EA hG6 h') (some ⟨p1,0,none⟩) (some ⟨p2,0,none⟩) 3 3 3 3 (uC [1,1,2]) (uC [5,9,9]) (WE [1,1,2] k1) (WE [5,9,9] k2)) OW;refine U2 ?_;refine .e (.bs (zz:=fun p1=> ?_));refine .e (.bs (zz:=fun p2=> ?_));refine .cl (fun H hs=> fl7 H p1 p2 hs.base (hs.get (i:=1) rfl) (hs.get (i:=0) rfl)) ?_;refine U9 ?_;refine Tc.db (R':= [(1,.pointer (some ⟨b1,0,none⟩)),(2,.pointer (some ⟨b2,0,none⟩)),(3,g3.val),(4,.int .i64 0),(5,g5.val),(6,.int .i64 2),(7,.int .i64 0),(8,g8.val),(9,.int .i64 0),(10,g10.val),(11,.int .i64 0),(12,.int .i64 0),(13,vA [50,50]),(14,.int .i64 2),(15,.int .i64 0),(16,vA [49,49,50]),(17,.int .i64 (-1)),(18,.int .i64 0)]) (L':= [(b2,true,.cells ⟨(DF.val eA elc eB etc).cells.toList⟩ 45 (0,0)),(b1,true,.cells ⟨(AE.val dA dlc dB dtc).cells.toList⟩ 45 (0,0))]) ?_;refine U2 ?_;refine .cl (fun H hs=> dW (aBt H AE dA dlc dB dtc dF dfc (hD6.le hs.base) sD (EA hG6 hs.base) tG) (congrArg aBj T9)) ?_;refine U9 ?_;refine Tc.db (R':= [(1,.pointer (some ⟨b1,0,none⟩)),(2,.pointer (some ⟨b2,0,none⟩)),(3,g3.val),(4,.int .i64 0),(5,g5.val),(6,.int .i64 2),(7,.int .i64 0),(8,g8.val),(9,.int .i64 0),(10,g10.val),(11,.int .i64 0),(12,.int .i64 0),(13,vA [50,50]),(14,.int .i64 2),(15,.int .i64 0),(16,vA [49,49,50]),(17,.int .i64 (-1)),(18,.int .i64 0),(19,.int .i64 1),(20,.int .i64 1),(21,.int .i64 0)]) (L':= [(b2,true,.cells ⟨(DF.val eA elc eB etc).cells.toList⟩ 45 (0,0)),(b1,true,.cells ⟨(AE.val dA dlc dB dtc).cells.toList⟩ 45 (0,0))]) ?_;refine U2 ?_;refine .cl (fun H hs=> dW (IQ _ H AE dA dlc dB dtc (hD6.bk.le hs.base) sD (EA hG6 hs.base) tG) (congrArg NP W9)) ?_;refine YD ?_;refine Tc.db (R':= [(1,.pointer (some ⟨b1,0,none⟩)),(2,.pointer (some ⟨b2,0,none⟩)),(3,g3.val),(4,.int .i64 0),(5,g5.val),(6,.int .i64 2),(7,.int .i64 0),(8,g8.val),(9,.int .i64 0),(10,g10.val),(11,.int .i64 0),(12,.int .i64 0),(13,vA [50,50]),(14,.int .i64 2),(15,.int .i64 0),(16,vA [49,49,50]),(17,.int .i64 (-1)),(18,.int .i64 0),(19,.int .i64 1),(20,.int .i64 1),(21,.int .i64 0),(22,.int .i64 0),(23,.int .i64 0),(24,.bool false),(25,.int .i64 0)]) (L':= [(b2,true,.cells ⟨(DF.val eA elc eB etc).cells.toList⟩ 45 (0,0)),(b1,true,.cells ⟨(AE.val dA dlc dB dtc).cells.toList⟩ 45 (0,0))]) ?_;refine Tc.aGK (fun H' R' L'=> ∃oA olc oB otc oF ofc b26,H6.le H'/\VB H' XR oA olc oB otc oF ofc/\OB [(1,.pointer (some ⟨b1,0,none⟩)),(2,.pointer (some ⟨b2,0,none⟩)),(3,g3.val),(4,.int .i64 0),(5,g5.val),(6,.int .i64 2),(7,.int .i64 0),(8,g8.val),(9,.int .i64 0),(10,g10.val),(11,.int .i64 0),(12,.int .i64 0),(13,vA [50,50]),(14,.int .i64 2),(15,.int .i64 0),(16,vA [49,49,50]),(17,.int .i64 (-1)),(18,.int .i64 0),(19,.int .i64 1),(20,.int .i64 1),(21,.int .i64 0),(22,.int .i64 0),(23,.int .i64 0),(24,.bool false),(25,.int .i64 0),(26,.pointer (some ⟨b26,0,none⟩)),(27,.int .i64 0)] R'/\List.Sublist [(b26,true,.cells ⟨(XR.val oA olc oB otc).cells.toList⟩ 45 (0,0)),(b2,true,.cells ⟨(DF.val eA elc eB etc).cells.toList⟩ 45 (0,0)),(b1,true,.cells ⟨(AE.val dA dlc dB dtc).cells.toList⟩ 45 (0,0))] L') ?_ (fun fin=> ?_)
 rotate_left
 ·refine Tc.dr [7] [] mixed rfl ?_;refine .q 0 rfl (xA.load (E:=en) 1 rfl rfl rfl rfl rfl) ?_;refine .z 1 rfl (xA.tk fun H hs=> yO _ H 2 6) ?_;refine Ta.aBE 2 6 kR rfl rfl rfl rfl rfl rfl rfl dE (CB.h (I2 _ H6 AE dA dlc dB dtc dF dfc hD6 sD hG6 tG 1 dE 2 2 6 6 oO.1 oO.2)) (by intro _ _ hh;exact hh.1) sL (.inr sL) (fun v Hk hv=> ?_) (OT.mk rfl rfl rfl (.al (zz:=fun b26=> ⟨S2.mk sL (.inr sL),?_⟩)))
  ·obtain⟨lek,oA,olc,oB,otc,oF,ofc,rfl,hO⟩:=hv;refine V2 3 ?_;refine .nw 5 ?_;refine .ea 6 rfl (.al (zz:=fun b26=> ⟨S2.mkL lek sL (.inr sL),?_⟩));refine .ea 7 rfl (Or.storeT (E:=en) 0 rfl rfl rfl rfl rfl rfl rfl rfl rfl rfl rfl ⟨S2.mkL lek sL (.inl kR),?_⟩);refine .nw 8 ?_;refine .dn ?_;exact fin _ _ _ ⟨oA,olc,oB,otc,oF,ofc,b26,lek,hO,⟨rfl,rfl,rfl,rfl,rfl,rfl,rfl,rfl,rfl,rfl,rfl,rfl,rfl,rfl,rfl,rfl,rfl,rfl,rfl,rfl,rfl,rfl,rfl,rfl,rfl,rfl,rfl,trivial⟩,sL⟩
  ·refine Ta.J3 2 kR rfl rfl rfl rfl rfl rfl rfl dE (CB.h (I2 _ H6 AE dA dlc dB dtc dF dfc hD6 sD hG6 tG 1 dE 2 2 6 6 oO.1 oO.2)) (by intro _ _ hh;exact hh.1) sL (.inr sL) (fun v Hk hv=> ?_);obtain⟨lek,oA,olc,oB,otc,oF,ofc,rfl,hO⟩:=hv;refine V2 3 ?_;refine .nw 5 ?_;refine .ea 7 rfl (Or.storeT (E:=en) 0 rfl rfl rfl rfl rfl rfl rfl rfl rfl rfl rfl ⟨S2.mkL lek sL (.inl kR),?_⟩);refine .nw 8 ?_;refine .dn ?_;exact fin _ _ _ ⟨oA,olc,oB,otc,oF,ofc,b26,lek,hO,⟨rfl,rfl,rfl,rfl,rfl,rfl,rfl,rfl,rfl,rfl,rfl,rfl,rfl,rfl,rfl,rfl,rfl,rfl,rfl,rfl,rfl,rfl,rfl,rfl,rfl,rfl,rfl,trivial⟩,sL⟩
 rintro H7 R' L' ⟨oA,olc,oB,otc,oF,ofc,b26,le7,hO7,hR,hL⟩;have tl7:=View.le_trans tl6 le7;have hD7:=hD6.le le7;have hE7:=hE6.le le7;have hG7:=EA hG tl7;refine Tc.gC (R':= [(1,.pointer (some ⟨b1,0,none⟩)),(2,.pointer (some ⟨b2,0,none⟩)),(3,g3.val),(4,.int .i64 0),(5,g5.val),(6,.int .i64 2),(7,.int .i64 0),(8,g8.val),(9,.int .i64 0),(10,g10.val),(11,.int .i64 0),(12,.int .i64 0),(13,vA [50,50]),(14,.int .i64 2),(15,.int .i64 0),(16,vA [49,49,50]),(17,.int .i64 (-1)),(18,.int .i64 0),(19,.int .i64 1),(20,.int .i64 1),(21,.int .i64 0),(22,.int .i64 0),(23,.int .i64 0),(24,.bool false),(25,.int .i64 0),(26,.pointer (some ⟨b26,0,none⟩)),(27,.int .i64 0)]) (L':= [(b26,true,.cells ⟨(XR.val oA olc oB otc).cells.toList⟩ 45 (0,0)),(b2,true,.cells ⟨(DF.val eA elc eB etc).cells.toList⟩ 45 (0,0)),(b1,true,.cells ⟨(AE.val dA dlc dB dtc).cells.toList⟩ 45 (0,0))]) ?_ hR hL;refine U3 ?_;refine .cl (fun H hs=> dW (IQ _ H XR oA olc oB otc (hO7.bk.le hs.base) sO (EA hG7 hs.base) aBB) (congrArg NP X9)) ?_;refine YD ?_;refine Tc.db (R':= [(1,.pointer (some ⟨b1,0,none⟩)),(2,.pointer (some ⟨b2,0,none⟩)),(3,g3.val),(4,.int .i64 0),(5,g5.val),(6,.int .i64 2),(7,.int .i64 0),(8,g8.val),(9,.int .i64 0),(10,g10.val),(11,.int .i64 0),(12,.int .i64 0),(13,vA [50,50]),(14,.int .i64 2),(15,.int .i64 0),(16,vA [49,49,50]),(17,.int .i64 (-1)),(18,.int .i64 0),(19,.int .i64 1),(20,.int .i64 1),(21,.int .i64 0),(22,.int .i64 0),(23,.int .i64 0),(24,.bool false),(25,.int .i64 0),(26,.pointer (some ⟨b26,0,none⟩)),(27,.int .i64 0),(28,.int .i64 2),(29,.int .i64 0),(30,.bool true),(31,.int .i64 0)]) (L':= [(b26,true,.cells ⟨(XR.val oA olc oB otc).cells.toList⟩ 45 (0,0)),(b2,true,.cells ⟨(DF.val eA elc eB etc).cells.toList⟩ 45 (0,0)),(b1,true,.cells ⟨(AE.val dA dlc dB dtc).cells.toList⟩ 45 (0,0))]) ?_;have e2:AE.RF 1 (AE.nf 1)=2:=VO.2;refine U2 ?_;refine To.sB rfl rfl rfl rfl rfl rfl dE (CB.h (m9 _ H7 AE dA dlc dB dtc hD7.bk sD hG7 tG 1 dE)) (fun v H8 hv=> ?_);obtain⟨le8,g32,rfl,⟨ng32,lg32⟩,mg32⟩:=hv;rw[e2];refine U8 ?_;have tl8:=View.le_trans tl7 le8;have hD8:=hD7.le le8;have hE8:=hE7.le le8;have hO8:=hO7.le le8;have hG8:=EA hG tl8;refine U ?_;refine Tc.db (R':= [(1,.pointer (some ⟨b1,0,none⟩)),(2,.pointer (some ⟨b2,0,none⟩)),(3,g3.val),(4,.int .i64 0),(5,g5.val),(6,.int .i64 2),(7,.int .i64 0),(8,g8.val),(9,.int .i64 0),(10,g10.val),(11,.int .i64 0),(12,.int .i64 0),(13,vA [50,50]),(14,.int .i64 2),(15,.int .i64 0),(16,vA [49,49,50]),(17,.int .i64 (-1)),(18,.int .i64 0),(19,.int .i64 1),(20,.int .i64 1),(21,.int .i64 0),(22,.int .i64 0),(23,.int .i64 0),(24,.bool false),(25,.int .i64 0),(26,.pointer (some ⟨b26,0,none⟩)),(27,.int .i64 0),(28,.int .i64 2),(29,.int .i64 0),(30,.bool true),(31,.int .i64 0),(32,g32.val),(33,.int .i64 2),(34,.int .i64 0)]) (L':= [(b26,true,.cells ⟨(XR.val oA olc oB otc).cells.toList⟩ 45 (0,0)),(b2,true,.cells ⟨(DF.val eA elc eB etc).cells.toList⟩ 45 (0,0)),(b1,true,.cells ⟨(AE.val dA dlc dB dtc).cells.toList⟩ 45 (0,0))]) ?_;refine U2 ?_;refine To.sB rfl rfl rfl rfl rfl rfl dE (CB.h (c9 _ H8 AE dA dlc dB dtc hD8.bk sD hG8 tG 0 dE)) (fun v H9 hv=> ?_);obtain⟨le9,g35,sm,rfl,⟨st1,st2⟩,⟨ng35,lg35⟩,mg35⟩:=hv;have e35:rB sm sm.length= [1,2]:=by rw[st1.len,P5 rfl st1 st2];exact L4
 rw[e35] at ng35 lg35;refine U6 ?_;have tl9:=View.le_trans tl8 le9;have hD9:=hD8.le le9;have hE9:=hE8.le le9;have hO9:=hO8.le le9;have hG9:=EA hG tl9;refine U ?_;refine Tc.db (R':= [(1,.pointer (some ⟨b1,0,none⟩)),(2,.pointer (some ⟨b2,0,none⟩)),(3,g3.val),(4,.int .i64 0),(5,g5.val),(6,.int .i64 2),(7,.int .i64 0),(8,g8.val),(9,.int .i64 0),(10,g10.val),(11,.int .i64 0),(12,.int .i64 0),(13,vA [50,50]),(14,.int .i64 2),(15,.int .i64 0),(16,vA [49,49,50]),(17,.int .i64 (-1)),(18,.int .i64 0),(19,.int .i64 1),(20,.int .i64 1),(21,.int .i64 0),(22,.int .i64 0),(23,.int .i64 0),(24,.bool false),(25,.int .i64 0),(26,.pointer (some ⟨b26,0,none⟩)),(27,.int .i64 0),(28,.int .i64 2),(29,.int .i64 0),(30,.bool true),(31,.int .i64 0),(32,g32.val),(33,.int .i64 2),(34,.int .i64 0),(35,g35.val),(36,.int .i64 0)]) (L':= [(b26,true,.cells ⟨(XR.val oA olc oB otc).cells.toList⟩ 45 (0,0)),(b2,true,.cells ⟨(DF.val eA elc eB etc).cells.toList⟩ 45 (0,0)),(b1,true,.cells ⟨(AE.val dA dlc dB dtc).cells.toList⟩ 45 (0,0))]) ?_;refine U2 ?_;refine .cl (fun H hs=> dW (P2 _ H AE dA dlc dB dtc (hD9.bk.le hs.base) sD (EA hG9 hs.base) [51] dE) J4) ?_;refine U7 ?_;refine Tc.db (R':= [(1,.pointer (some ⟨b1,0,none⟩)),(2,.pointer (some ⟨b2,0,none⟩)),(3,g3.val),(4,.int .i64 0),(5,g5.val),(6,.int .i64 2),(7,.int .i64 0),(8,g8.val),(9,.int .i64 0),(10,g10.val),(11,.int .i64 0),(12,.int .i64 0),(13,vA [50,50]),(14,.int .i64 2),(15,.int .i64 0),(16,vA [49,49,50]),(17,.int .i64 (-1)),(18,.int .i64 0),(19,.int .i64 1),(20,.int .i64 1),(21,.int .i64 0),(22,.int .i64 0),(23,.int .i64 0),(24,.bool false),(25,.int .i64 0),(26,.pointer (some ⟨b26,0,none⟩)),(27,.int .i64 0),(28,.int .i64 2),(29,.int .i64 0),(30,.bool true),(31,.int .i64 0),(32,g32.val),(33,.int .i64 2),(34,.int .i64 0),(35,g35.val),(36,.int .i64 0),(37,.bool false),(38,.int .i64 0)]) (L':= [(b26,true,.cells ⟨(XR.val oA olc oB otc).cells.toList⟩ 45 (0,0)),(b2,true,.cells ⟨(DF.val eA elc eB etc).cells.toList⟩ 45 (0,0)),(b1,true,.cells ⟨(AE.val dA dlc dB dtc).cells.toList⟩ 45 (0,0))]) ?_;refine U2 ?_;refine .cl (fun H hs=> dW (P2 _ H AE dA dlc dB dtc (hD9.bk.le hs.base) sD (EA hG9 hs.base) [53] dE) K4) ?_;refine U7 ?_;refine Tc.db (R':= [(1,.pointer (some ⟨b1,0,none⟩)),(2,.pointer (some ⟨b2,0,none⟩)),(3,g3.val),(4,.int .i64 0),(5,g5.val),(6,.int .i64 2),(7,.int .i64 0),(8,g8.val),(9,.int .i64 0),(10,g10.val),(11,.int .i64 0),(12,.int .i64 0),(13,vA [50,50]),(14,.int .i64 2),(15,.int .i64 0),(16,vA [49,49,50]),(17,.int .i64 (-1)),(18,.int .i64 0),(19,.int .i64 1),(20,.int .i64 1),(21,.int .i64 0),(22,.int .i64 0),(23,.int .i64 0),(24,.bool false),(25,.int .i64 0),(26,.pointer (some ⟨b26,0,none⟩)),(27,.int .i64 0),(28,.int .i64 2),(29,.int .i64 0),(30,.bool true),(31,.int .i64 0),(32,g32.val),(33,.int .i64 2),(34,.int .i64 0),(35,g35.val),(36,.int .i64 0),(37,.bool false),(38,.int .i64 0),(39,.bool true),(40,.int .i64 0)]) (L':= [(b26,true,.cells ⟨(XR.val oA olc oB otc).cells.toList⟩ 45 (0,0)),(b2,true,.cells ⟨(DF.val eA elc eB etc).cells.toList⟩ 45 (0,0)),(b1,true,.cells ⟨(AE.val dA dlc dB dtc).cells.toList⟩ 45 (0,0))]) ?_;refine U2 ?_;refine .cl (fun H hs=> dW (l9 _ H AE dA dlc dB dtc (hD9.bk.le hs.base) sD (EA hG9 hs.base) 1 true) M4) ?_;refine U9 ?_;refine Tc.db (R':= [(1,.pointer (some ⟨b1,0,none⟩)),(2,.pointer (some ⟨b2,0,none⟩)),(3,g3.val),(4,.int .i64 0),(5,g5.val),(6,.int .i64 2),(7,.int .i64 0),(8,g8.val),(9,.int .i64 0),(10,g10.val),(11,.int .i64 0),(12,.int .i64 0),(13,vA [50,50]),(14,.int .i64 2),(15,.int .i64 0),(16,vA [49,49,50]),(17,.int .i64 (-1)),(18,.int .i64 0),(19,.int .i64 1),(20,.int .i64 1),(21,.int .i64 0),(22,.int .i64 0),(23,.int .i64 0),(24,.bool false),(25,.int .i64 0),(26,.pointer (some ⟨b26,0,none⟩)),(27,.int .i64 0),(28,.int .i64 2),(29,.int .i64 0),(30,.bool true),(31,.int .i64 0),(32,g32.val),(33,.int .i64 2),(34,.int .i64 0),(35,g35.val),(36,.int .i64 0),(37,.bool false),(38,.int .i64 0),(39,.bool true),(40,.int .i64 0),(41,vA [48]),(42,.bool true),(43,.int .i64 0)]) (L':= [(b26,true,.cells ⟨(XR.val oA olc oB otc).cells.toList⟩ 45 (0,0)),(b2,true,.cells ⟨(DF.val eA elc eB etc).cells.toList⟩ 45 (0,0)),(b1,true,.cells ⟨(AE.val dA dlc dB dtc).cells.toList⟩ 45 (0,0))]) ?_;refine U ?_;refine .cl (fun H hs=> dW (O2 _ H [49,50,48] dE) FZ) ?_;refine U7 ?_;refine Tc.db (R':= [(1,.pointer (some ⟨b1,0,none⟩)),(2,.pointer (some ⟨b2,0,none⟩)),(3,g3.val),(4,.int .i64 0),(5,g5.val),(6,.int .i64 2),(7,.int .i64 0),(8,g8.val),(9,.int .i64 0),(10,g10.val),(11,.int .i64 0),(12,.int .i64 0),(13,vA [50,50]),(14,.int .i64 2),(15,.int .i64 0),(16,vA [49,49,50]),(17,.int .i64 (-1)),(18,.int .i64 0),(19,.int .i64 1),(20,.int .i64 1),(21,.int .i64 0),(22,.int .i64 0),(23,.int .i64 0),(24,.bool false),(25,.int .i64 0),(26,.pointer (some ⟨b26,0,none⟩)),(27,.int .i64 0),(28,.int .i64 2),(29,.int .i64 0),(30,.bool true),(31,.int .i64 0),(32,g32.val),(33,.int .i64 2),(34,.int .i64 0),(35,g35.val),(36,.int .i64 0),(37,.bool false),(38,.int .i64 0),(39,.bool true),(40,.int .i64 0),(41,vA [48]),(42,.bool true),(43,.int .i64 0),(44,.int .i64 13),(45,.int .i64 0)]) (L':= [(b26,true,.cells ⟨(XR.val oA olc oB otc).cells.toList⟩ 45 (0,0)),(b2,true,.cells ⟨(DF.val eA elc eB etc).cells.toList⟩ 45 (0,0)),(b1,true,.cells ⟨(AE.val dA dlc dB dtc).cells.toList⟩ 45 (0,0))]) ?_;refine U ?_;refine .e (.bs (zz:=fun bw=> ?_));refine To.aCx (L₁:= [(b26,true,.cells ⟨(XR.val oA olc oB otc).cells.toList⟩ 45 (0,0)),(b2,true,.cells ⟨(DF.val eA elc eB etc).cells.toList⟩ 45 (0,0)),(b1,true,.cells ⟨(AE.val dA dlc dB dtc).cells.toList⟩ 45 (0,0))]++[(bw,true,.cells ⟨jA [5,3,1]⟩ 3 (0,0))]) (by exact List.perm_append_comm) ?_;refine To.lift (L₂:= [(b26,true,.cells ⟨(XR.val oA olc oB otc).cells.toList⟩ 45 (0,0)),(b2,true,.cells ⟨(DF.val eA elc eB etc).cells.toList⟩ 45 (0,0)),(b1,true,.cells ⟨(AE.val dA dlc dB dtc).cells.toList⟩ 45 (0,0))]) (L₁:= [(bw,true,.cells ⟨jA [5,3,1]⟩ 3 (0,0))]) rfl (fun H10 hw=> ?_);have le10:=hw.base;have tl10:=View.le_trans tl9 le10;have aFT:=hD9.le le10;have aFV:=hE9.le le10;have aFX:=hO9.le le10;have aGS:=EA hG tl10;obtain⟨xc1,xc2,xc3,xc4,xc5⟩:=I4;have al5:(mI (uC [5,3,1]) 3 2 2).al=0:=by unfold eH.al;rw[xc4];rfl
 refine To.sB rfl rfl rfl rfl rfl rfl dE (CB.h (eW _ H10 (some ⟨bw,0,none⟩) 3 3 (uC [5,3,1]) (WE [5,3,1] (hw.get (i:=0) rfl)) 2 2 dE xc2 dE dE)) (fun v H11 hv=> ?_);obtain⟨le11,ca,cn,cc,rfl,cn1,cs1⟩:=hv;rw[xc5] at cn1 cs1;rw[xc3,al5];refine U8 ?_;have tl11:=View.le_trans tl10 le11;have aGQ:=aFT.le le11;have aGR:=aFV.le le11;have aGU:=aFX.le le11;have aGT:=EA hG tl11;refine U2 ?_;refine Tc.gC (R':= [(1,.pointer (some ⟨b1,0,none⟩)),(2,.pointer (some ⟨b2,0,none⟩)),(3,g3.val),(4,.int .i64 0),(5,g5.val),(6,.int .i64 2),(7,.int .i64 0),(8,g8.val),(9,.int .i64 0),(10,g10.val),(11,.int .i64 0),(12,.int .i64 0),(13,vA [50,50]),(14,.int .i64 2),(15,.int .i64 0),(16,vA [49,49,50]),(17,.int .i64 (-1)),(18,.int .i64 0),(19,.int .i64 1),(20,.int .i64 1),(21,.int .i64 0),(22,.int .i64 0),(23,.int .i64 0),(24,.bool false),(25,.int .i64 0),(26,.pointer (some ⟨b26,0,none⟩)),(27,.int .i64 0),(28,.int .i64 2),(29,.int .i64 0),(30,.bool true),(31,.int .i64 0),(32,g32.val),(33,.int .i64 2),(34,.int .i64 0),(35,g35.val),(36,.int .i64 0),(37,.bool false),(38,.int .i64 0),(39,.bool true),(40,.int .i64 0),(41,vA [48]),(42,.bool true),(43,.int .i64 0),(44,.int .i64 13),(45,.int .i64 0),(46,.slice ca cn cc),(47,.int .i64 18),(48,.int .i64 0)]) (L':= [(b26,true,.cells ⟨(XR.val oA olc oB otc).cells.toList⟩ 45 (0,0)),(b2,true,.cells ⟨(DF.val eA elc eB etc).cells.toList⟩ 45 (0,0)),(b1,true,.cells ⟨(AE.val dA dlc dB dtc).cells.toList⟩ 45 (0,0))]) ?_ ⟨rfl,rfl,rfl,rfl,rfl,rfl,rfl,rfl,rfl,rfl,rfl,rfl,rfl,rfl,rfl,rfl,rfl,rfl,rfl,rfl,rfl,rfl,rfl,rfl,rfl,rfl,rfl,rfl,rfl,rfl,rfl,rfl,rfl,rfl,rfl,rfl,rfl,rfl,rfl,rfl,rfl,rfl,rfl,rfl,rfl,rfl,rfl,rfl,trivial⟩ sL;(iterate 72 refine U ?_);refine Tc.db (R':= [(1,.pointer (some ⟨b1,0,none⟩)),(2,.pointer (some ⟨b2,0,none⟩)),(3,g3.val),(4,.int .i64 0),(5,g5.val),(6,.int .i64 2),(7,.int .i64 0),(8,g8.val),(9,.int .i64 0),(10,g10.val),(11,.int .i64 0),(12,.int .i64 0),(13,vA [50,50]),(14,.int .i64 2),(15,.int .i64 0),(16,vA [49,49,50]),(17,.int .i64 (-1)),(18,.int .i64 0),(19,.int .i64 1),(20,.int .i64 1),(21,.int .i64 0),(22,.int .i64 0),(23,.int .i64 0),(24,.bool false),(25,.int .i64 0),(26,.pointer (some ⟨b26,0,none⟩)),(27,.int .i64 0),(28,.int .i64 2),(29,.int .i64 0),(30,.bool true),(31,.int .i64 0),(32,g32.val),(33,.int .i64 2),(34,.int .i64 0),(35,g35.val),(36,.int .i64 0),(37,.bool false),(38,.int .i64 0),(39,.bool true),(40,.int .i64 0),(41,vA [48]),(42,.bool true),(43,.int .i64 0),(44,.int .i64 13),(45,.int .i64 0),(46,.slice ca cn cc),(47,.int .i64 18),(48,.int .i64 0)]) (L':= [(b26,true,.cells ⟨(XR.val oA olc oB otc).cells.toList⟩ 45 (0,0)),(b2,true,.cells ⟨(DF.val eA elc eB etc).cells.toList⟩ 45 (0,0)),(b1,true,.cells ⟨(AE.val dA dlc dB dtc).cells.toList⟩ 45 (0,0))]) ?_;have up:∀ {A B C:View},A.le B->B.le C->A.le C:=View.le_trans;have w3:=fun(H':View) (h':H11.le H') (bs:Nat) (k1:H' bs=some (true,.cells ⟨PB [[49,50],[49,51]]⟩ 9 (0,0)))=> KI (Mp prog) H' (g3.blk.map fun b=> ⟨b,0,none⟩) (some ⟨bs,0,none⟩) g3.n ([[49,50],[49,51]]:List (List UInt8)).length g3.cap ([[49,50],[49,51]]:List (List UInt8)).length _ _ (ZJ (g0:=g3) g3 (fun x hx=> h' _ _ ((up (up (up (up (up (up (up le4 le5) le6) le7) le8) le9) le10) le11) _ _ (mg3 x hx).1)) lg3 rfl rfl) (YP [[49,50],[49,51]] k1) (by rw[ng3];decide) dE true (XK [[49,50],[49,51]] ng3);have w8:=fun(H':View) (h':H11.le H') (bs:Nat) (k1:H' bs=some (true,.cells ⟨PB [[49,49,50],[50,50]]⟩ 9 (0,0)))=> KI (Mp prog) H' (g8.blk.map fun b=> ⟨b,0,none⟩) (some ⟨bs,0,none⟩) g8.n ([[49,49,50],[50,50]]:List (List UInt8)).length g8.cap ([[49,49,50],[50,50]]:List (List UInt8)).length _ _ (ZJ (g0:=g8) g8 (fun x hx=> h' _ _ ((up (up (up (up (up le6 le7) le8) le9) le10) le11) _ _ (mg8 x hx).1)) lg8 rfl rfl) (YP [[49,49,50],[50,50]] k1) (by rw[ng8];decide) dE true (XK [[49,49,50],[50,50]] ng8);have c5:=fun(H':View) (h':H11.le H') (bs:Nat) (k1:H' bs=some (true,.cells ⟨jA [0,0,2]⟩ 110 (0,0)))=> LO (Mp prog) H' (g5.blk.map fun b=> ⟨b,0,none⟩) (some ⟨bs,0,none⟩) g5.n ([0,0,2]:List Int).length g5.cap ([0,0,2]:List Int).length (fun i=> AE.mB (i:Nat)) _ (by rw[ng5];exact dU g5 (fun x hx=> h' _ _ ((up (up (up (up (up (up le5 le6) le7) le8) le9) le10) le11) _ _ (mg5 x hx).1)) lg5 ng5) (WE [0,0,2] k1) (by rw[ng5];decide) dE true (by rw[ng5];rw[decide_eq_true (by rfl)];show(true&&rG _ 3)=true;rw[(JD _).2 (three (decide_eq_true lS.1.1) (decide_eq_true lS.1.2.1) (decide_eq_true lS.1.2.2))];rfl);have c10:=fun(H':View) (h':H11.le H') (bs:Nat) (k1:H' bs=some (true,.cells ⟨jA [2,2,0]⟩ 110 (0,0)))=> LO (Mp prog) H' (g10.blk.map fun b=> ⟨b,0,none⟩) (some ⟨bs,0,none⟩) g10.n ([2,2,0]:List Int).length g10.cap ([2,2,0]:List Int).length (fun i=> DF.mB (i:Nat)) _ (by rw[ng10];exact dU g10 (fun x hx=> h' _ _ ((up (up (up (up le7 le8) le9) le10) le11) _ _ (mg10 x hx).1)) lg10 ng10) (WE [2,2,0] k1) (by rw[ng10];decide) dE true (by rw[ng10];rw[decide_eq_true (by rfl)];show(true&&rG _ 3)=true;rw[(JD _).2 (three (decide_eq_true mS.1.1) (decide_eq_true mS.1.2.1) (decide_eq_true mS.1.2.2))];rfl);refine U2 ?_;refine .e (.bs (zz:=fun x1=> ?_));refine .cl (fun H hs=> w3 H hs.base x1 (hs.get (i:=0) rfl)) ?_;refine U3 ?_;refine .e (.bs (zz:=fun x2=> ?_));refine .cl (fun H hs=> c5 H hs.base x2 (hs.get (i:=0) rfl)) ?_;refine U8 ?_;refine .e (.bs (zz:=fun x3=> ?_));refine .cl (fun H hs=> w8 H hs.base x3 (hs.get (i:=0) rfl)) ?_;refine U4 ?_;refine .e (.bs (zz:=fun x4=> ?_));refine .cl (fun H hs=> c10 H hs.base x4 (hs.get (i:=0) rfl)) ?_;refine U37 ?_;refine Tc.db (R':= [(1,.pointer (some ⟨b1,0,none⟩)),(2,.pointer (some ⟨b2,0,none⟩)),(3,g3.val),(4,.int .i64 0),(5,g5.val),(6,.int .i64 2),(7,.int .i64 0),(8,g8.val),(9,.int .i64 0),(10,g10.val),(11,.int .i64 0),(12,.int .i64 0),(13,vA [50,50]),(14,.int .i64 2),(15,.int .i64 0),(16,vA [49,49,50]),(17,.int .i64 (-1)),(18,.int .i64 0),(19,.int .i64 1),(20,.int .i64 1),(21,.int .i64 0),(22,.int .i64 0),(23,.int .i64 0),(24,.bool false),(25,.int .i64 0),(26,.pointer (some ⟨b26,0,none⟩)),(27,.int .i64 0),(28,.int .i64 2),(29,.int .i64 0),(30,.bool true),(31,.int .i64 0),(32,g32.val),(33,.int .i64 2),(34,.int .i64 0),(35,g35.val),(36,.int .i64 0),(37,.bool false),(38,.int .i64 0),(39,.bool true),(40,.int .i64 0),(41,vA [48]),(42,.bool true),(43,.int .i64 0),(44,.int .i64 13),(45,.int .i64 0),(46,.slice ca cn cc),(47,.int .i64 18),(48,.int .i64 0)]) (L':= [(b26,true,.cells ⟨(XR.val oA olc oB otc).cells.toList⟩ 45 (0,0)),(b2,true,.cells ⟨(DF.val eA elc eB etc).cells.toList⟩ 45 (0,0)),(b1,true,.cells ⟨(AE.val dA dlc dB dtc).cells.toList⟩ 45 (0,0))]) ?_;have c32:=fun(H':View) (h':H11.le H') (bs:Nat) (k1:H' bs=some (true,.cells ⟨jA [2,0]⟩ 110 (0,0)))=> LO (Mp prog) H' (g32.blk.map fun b=> ⟨b,0,none⟩) (some ⟨bs,0,none⟩) g32.n ([2,0]:List Int).length g32.cap ([2,0]:List Int).length (AE.jG 1) _ (by rw[ng32];exact dU g32 (fun x hx=> h' _ _ ((up (up le9 le10) le11) _ _ (mg32 x hx).1)) lg32 ng32) (WE [2,0] k1) (by rw[ng32];decide) dE true (by rw[ng32];rw[decide_eq_true (by rfl)];show(true&&rG _ 2)=true;rw[(JD _).2 (two (decide_eq_true VO.1.1) (decide_eq_true VO.1.2))];rfl);have n35:=fun(H':View) (h':H11.le H') (bs:Nat) (k1:H' bs=some (true,.cells ⟨jA [1,2]⟩ 3 (0,0)))=> MT (Mp prog) H' (g35.blk.map fun b=> ⟨b,0,none⟩) (some ⟨bs,0,none⟩) 2 g35.cap 2 (uC [1,2]) (uC [1,2]) (dU g35 (fun x hx=> h' _ _ ((up le10 le11) _ _ (mg35 x hx).1)) (lg35.trans (X3 _)) ng35) (WE [1,2] k1) dE (fun _ _=> rfl);have w46:=fun(H':View) (h':H11.le H') (bs:Nat) (k1:H' bs=some (true,.cells ⟨PB [[49],[50,49],[50,50]]⟩ 9 (0,0)))=> KI (Mp prog) H' ca (some ⟨bs,0,none⟩) cn ([[49],[50,49],[50,50]]:List (List UInt8)).length cc ([[49],[50,49],[50,50]]:List (List UInt8)).length _ _ (GV (cs1.mono (View.le_trans (View.le_refl H11) h')) cn1) (YP [[49],[50,49],[50,50]] k1) (by rw[cn1];decide) dE true (XK [[49],[50,49],[50,50]] cn1);rw[show g35.val=.slice (g35.blk.map fun b=> ⟨b,0,none⟩) 2 g35.cap by unfold Gl.val;rw[ng35];rfl];refine SE ?_;refine .e (.bs (zz:=fun y1=> ?_));refine .cl (fun H hs=> c32 H hs.base y1 (hs.get (i:=0) rfl)) ?_;refine U7 ?_;refine .e (.bs (zz:=fun y2=> ?_));refine .cl (fun H hs=> n35 H hs.base y2 (hs.get (i:=0) rfl)) ?_;refine hY ?_;refine .e (.bs (zz:=fun y3=> ?_));refine .cl (fun H hs=> w46 H hs.base y3 (hs.get (i:=0) rfl)) ?_;refine U7 ?_;refine .rt hK func15 results15 [_] ?_;exact fun H' hs=> ⟨View.le_trans tl11 hs.base,rfl⟩
set_option maxHeartbeats 8000000
section
variable(M:Md prog)(H:View)
theorem DK(x lo hi:Int)(t:Bool)(ht:decide (lo<=x/\x<=hi)=t):aA M 24 #[.int .i64 x,.int .i64 lo,.int .i64 hi] H (fun v H'=> H.le H'/\v=.bool t):=by
 rw[<-ht];refine .en func24 ntmps24 fun St c cs hK=> ?_;by_cases c1:lo<=x
 all_goals by_cases c2:x<=hi
 all_goals
  refine U8 ?_;refine .i ?_ (z:=by first|exact oI oM|exact VG oM);refine U ?_;first|(refine .sk ?_)|(refine .m ?_)
  first|(refine .sk ?_)|(refine .m ?_)
  first|(refine .sk ?_)|(refine .x (.it (zz:=(by first|exact CD oM|exact BD oM))) ?_)
  refine U3 ?_;refine .rt hK func24 results24 [_] ?_;exact fun H' hs=> ⟨hs.base,by simp[oC,c1,c2]⟩
theorem mC(a b lo hi:Int)(t:Bool)(ht:decide (lo<=a/\a<=b/\b<=hi)=t):aA M 168 #[YB a b,.int .i64 lo,.int .i64 hi] H (fun v H'=> H.le H'/\v=.bool t):=by
 rw[<-ht];refine .en func168 ntmps168 fun St c cs hK=> ?_;by_cases c1:lo<=a
 all_goals by_cases c2:a<=b
 all_goals by_cases c3:b<=hi
 all_goals
  refine U2 ?_;refine .bo fun b1=> ?_;refine U8 ?_;refine .i ?_ (z:=by first|exact CD oM|exact BD oM);refine U ?_;first|(refine .sk ?_)|(refine .x .fa ?_)
  first|(refine .sk ?_)|((refine .x (.ld 0) ?_))
  first|(refine .sk ?_)|(refine .m ?_)
  first|(refine .sk ?_)|(refine .x (.it (zz:=(by first|exact oI oM|exact VG oM))) ?_)
  refine U2 ?_;first|(refine .sk ?_)|(refine .x .fa ?_)
  first|(refine .sk ?_)|((refine .x (.ld 0) ?_))
  first|(refine .sk ?_)|(refine .m ?_)
  first|(refine .sk ?_)|(refine .x (.it (zz:=(by first|exact CD oM|exact BD oM))) ?_)
  refine U3 ?_;refine .rt hK func168 results168 [_] ?_;exact fun H' hs=> ⟨hs.base,by simp[oC,c1,c2,c3]⟩
theorem FQ(x:Int)(t:Bool)(ht:aE x=t):aA M 167 #[.int .i64 x] H (fun v H'=> H.le H'/\v=.bool t):=by
 rw[<-ht];unfold aE;refine .en func167 ntmps167 fun St c cs hK=> ?_;by_cases c1:0<=x
 all_goals by_cases c2:x<=2
 all_goals try omega
 all_goals
  refine U7 ?_;refine .i ?_ (z:=by first|exact oI oM|exact VG oM);refine U ?_;first|(refine .sk ?_)|(refine .m ?_)
  first|(refine .sk ?_)|(refine .x (.it (zz:=(by first|exact CD oM|exact BD oM))) ?_)
  refine U3 ?_;refine .rt hK func167 results167 [_] ?_;exact fun H' hs=> ⟨hs.base,by simp[oC,c1,c2]⟩
theorem VL(x:UInt8)(t:Bool)(ht:low x=t):aA M 235 #[.int .u8 (x.toNat:Nat)] H (fun v H'=> H.le H'/\v=.bool t):=by
 rw[<-ht];unfold low;refine .en func235 ntmps235 fun St c cs hK=> ?_;by_cases c1:97<=x.toNat
 all_goals by_cases c2:x.toNat<=122
 all_goals try omega
 all_goals
  refine U7 ?_;refine .i ?_ (z:=by first|exact oI oM|exact VG oM);refine U ?_;first|(refine .sk ?_)|(refine .m ?_)
  first|(refine .sk ?_)|(refine .x (.it (zz:=(by first|exact CD oM|exact BD oM))) ?_)
  refine U3 ?_;refine .rt hK func235 results235 [_] ?_;exact fun H' hs=> ⟨hs.base,by simp[oC,c1,c2]⟩
theorem gU(x:UInt8)(t:Bool)(ht:TE x=t):aA M 236 #[.int .u8 (x.toNat:Nat)] H (fun v H'=> H.le H'/\v=.bool t):=by
 have e:TE x=decide (48<=x.toNat/\x.toNat<=57):=by unfold TE;exact decide_eq_decide.2 oM
 rw[<-ht,e];refine .en func236 ntmps236 fun St c cs hK=> ?_;by_cases c1:48<=x.toNat
 all_goals by_cases c2:x.toNat<=57
 all_goals try omega
 all_goals
  refine U7 ?_;refine .i ?_ (z:=by first|exact oI oM|exact VG oM);refine U ?_;first|(refine .sk ?_)|(refine .m ?_)
  first|(refine .sk ?_)|(refine .x (.it (zz:=(by first|exact CD oM|exact BD oM))) ?_)
  refine U3 ?_;refine .rt hK func236 results236 [_] ?_;exact fun H' hs=> ⟨hs.base,by simp[oC,c1,c2]⟩
theorem HI(s p:List UInt8)(t:Bool)(ht:AB s p=t):aA M 237 #[vA s,vA p] H (fun v H'=> H.le H'/\v=.bool t):=by
 rw[<-ht];refine .en func237 ntmps237 fun St c cs hK=> ?_;by_cases c1:p.length<=s.length
 ·have e:AB s p=(s.take p.length==p):=by unfold AB;simp[c1]
  rw[e] at hK;refine kN ?_;refine .x (xA.cI (E:=en) rfl rfl rfl rfl rfl rfl oM oM oM) ?_;refine U5 ?_;refine .rt hK func237 results237 [_] ?_;exact fun H' hs=> ⟨hs.base,by simp[oC]⟩
 ·have e:AB s p=false:=by unfold AB;simp[c1]
  rw[e] at hK;refine lO ?_;refine .rt hK func237 results237 [_] ?_;exact okB
theorem u9 {s:List UInt8}{j:Nat}{x:UInt8}(h:s[j]? =some x)(hx:TE x=false):s.all TE=false:=by
 rw[List.all_eq_false];exact⟨x,List.mem_of_getElem? h,by rw[hx];decide⟩
theorem QG(s:List UInt8)(hl:s.length<=1000000)(t:Bool)(ht:isNum s=t):aA M 165 #[vA s] H (fun v H'=> H.le H'/\v=.bool t):=by
 rw[<-ht];clear ht;refine .en func165 ntmps165 fun St c cs hK=> ?_;refine UC ?_;refine Tc.db (Tc.sA (σ:= { j:Nat//j<=s.length/\∀i x,i<j->s[i]? =some x->TE x=true }) (fun j=> ([(0,vA s),(3,.int .i64 (j.1:Nat))],[])) (fun j=> s.length-j.1) ?_ ⟨0,Nat.zero_le _,fun i x hi=> by omega⟩);rintro⟨j,hj,TA⟩ ih;show Tc M St _ _ _ _ [(0,vA s),(3,.int .i64 (j:Nat))] [] _ _;by_cases c1:j=s.length
 ·have e:s.all TE=true:=List.all_eq_true.2 fun x hx=> by
   obtain⟨i,hi,rfl⟩:=List.mem_iff_getElem.1 hx;exact TA i _ oM (List.getElem?_eq_getElem hi)
  have e2:isNum s=decide (1<=((s.length:Nat):Int)/\((s.length:Nat):Int)<=3):=by
   unfold isNum;rw[e,Bool.and_true];exact decide_eq_decide.2 oM
  rw[e2] at hK;subst c1;refine lF ?_;refine .cl (fun H hs=> DK M H (s.length:Nat) 1 3 _ rfl) ?_;refine U2 ?_;refine .rt hK func165 results165 [_] ?_;exact okB
 ·have c2:j<s.length:=by omega
  obtain⟨x,hx⟩:∃x,s[j]? =some x:=⟨_,List.getElem?_eq_getElem c2⟩
  have f1:s[((j:Nat):Int).toNat]? =some x:=by rw[Int.toNat_natCast];exact hx
  cases hd:TE x with
  | true=>
   have:=of_decide_eq_true hd;refine U33 ?_;exact Tc.db (ih ⟨j+1,oM,fun i y hi hy=> by
    by_cases e:i=j
    ·subst e;rw[hx] at hy;cases hy;exact hd
    ·exact TA i y oM hy⟩ (by simp only;omega))
  | false=>
   have e:isNum s=false:=by unfold isNum;rw[u9 hx hd];simp
   have jF:=of_decide_eq_false hd;rw[e] at hK;by_cases c3:x.toNat<48
   ·refine U30 ?_;refine .rt hK func165 results165 [_] ?_;exact okB
   ·have c4:57<x.toNat:=by omega
    refine U30 ?_;refine .rt hK func165 results165 [_] ?_;exact okB
theorem kG(s:List UInt8)(hl:s.length<=1000000)(t:Bool)(ht:mK s=t):aA M 164 #[vA s] H (fun v H'=> H.le H'/\v=.bool t):=by
 rw[<-ht];clear ht;refine .en func164 ntmps164 fun St c cs hK=> ?_;refine UC ?_;refine Tc.db (Tc.sA (σ:= { j:Nat//j<=s.length/\∀i,i<j->LH s i=true }) (fun j=> ([(0,vA s),(3,.int .i64 (j.1:Nat))],[])) (fun j=> s.length-j.1) ?_ ⟨0,Nat.zero_le _,fun i hi=> by omega⟩);rintro⟨j,hj,TA⟩ ih;show Tc M St _ _ _ _ [(0,vA s),(3,.int .i64 (j:Nat))] [] _ _;by_cases c1:j=s.length
 ·have e:rG (LH s) s.length=true:=(JD _).2 (by rw[<-c1];exact TA);have e2:mK s=decide (1<=((s.length:Nat):Int)/\((s.length:Nat):Int)<=9):=by
   unfold mK;rw[e,Bool.and_true];exact decide_eq_decide.2 oM
  rw[e2] at hK;subst c1;refine lF ?_;refine .cl (fun H hs=> DK M H (s.length:Nat) 1 9 _ rfl) ?_;refine U2 ?_;refine .rt hK func164 results164 [_] ?_;exact okB
 ·have c2:j<s.length:=by omega
  obtain⟨x,hx⟩:∃x,s[j]? =some x:=⟨_,List.getElem?_eq_getElem c2⟩
  have f1:s[((j:Nat):Int).toNat]? =some x:=by rw[Int.toNat_natCast];exact hx
  cases F8:low x with
  | true=>
   have hn:LH s j=true:=by unfold LH;rw[hx];simp[F8]
   refine BI ?_;refine .cl (fun H hs=> VL M H x true F8) ?_;refine U5 ?_;refine To.qD rfl dE rfl ?_;refine To.qD rfl dE rfl ?_;refine To.qD rfl dE rfl ?_;refine To.qD rfl dE rfl ?_;refine To.qD rfl dE rfl ?_;refine YD ?_;exact Tc.db (ih ⟨j+1,oM,fun i hi=> by by_cases e:i=j;exact e▸hn;exact TA i oM⟩ (by simp only;omega))
  | false=>
   by_cases c3:j=0
   ·subst c3;have e:mK s=false:=by unfold mK;rw[sG c2 (by unfold LH;rw[hx];simp[F8])];simp
    rw[e] at hK;refine BI ?_;refine .cl (fun H hs=> VL M H x false F8) ?_;refine hY ?_;refine .rt hK func164 results164 [_] ?_;exact okB
   ·have c4:(j:Int)≠0:=by omega
    cases hd:TE x with
    | true=>
     have hn:LH s j=true:=by unfold LH;rw[hx];simp[hd];omega
     refine BI ?_;refine .cl (fun H hs=> VL M H x false F8) ?_;refine U8 ?_;refine .cl (fun H hs=> gU M H x true hd) ?_;refine SE ?_;exact Tc.db (ih ⟨j+1,oM,fun i hi=> by by_cases e:i=j;exact e▸hn;exact TA i oM⟩ (by simp only;omega))
    | false=>
     have e:mK s=false:=by unfold mK;rw[sG c2 (by unfold LH;rw[hx];simp[F8,hd])];simp
     rw[e] at hK;refine BI ?_;refine .cl (fun H hs=> VL M H x false F8) ?_;refine U8 ?_;refine .cl (fun H hs=> gU M H x false hd) ?_;refine U9 ?_;refine .rt hK func164 results164 [_] ?_;exact okB
theorem DQ(A:Option Addr)(n ac:Nat)(x:Nat->List UInt8)(hA:HE H A n x)(hn:n<=100000000)(s:List UInt8):aA M 156 #[.slice A n ac,vA s] H (fun v H'=> H.le H'/\v=.int .i64 (wB (pA (fun j=> x j==s) n))):=by
 refine .en func156 ntmps156 fun St c cs hK=> ?_;refine UC ?_;refine Tc.db (Tc.sA (σ:= { j:Nat//j<=n/\pA (fun j=> x j==s) j=none }) (fun j=> ([(0,.slice A n ac),(1,vA s),(5,.int .i64 (j.1:Nat))],[])) (fun j=> n-j.1) ?_ ⟨0,Nat.zero_le _,rfl⟩);rintro⟨j,hj,YC⟩ ih;show Tc M St _ _ _ _ [(0,.slice A n ac),(1,vA s),(5,.int .i64 (j:Nat))] [] _ _;by_cases c1:j=n
 ·subst c1;rw[YC] at hK;refine lF ?_;refine .rt hK func156 results156 [_] ?_;exact okB
 ·have c2:j<n:=by omega
  obtain h0|⟨ab,ao,f,gs,gt,gz,rfl,hb,hl⟩:=hA
  ·omega
  have f1:=hl j c2;cases WG:x j==s with
  | true=>
   have f3:RL.JF .eql (x j) s=some (.bool true):=by rw[<-WG];rfl
   have e:pA (fun j=> x j==s) n=some j:=nB (j:=j+1) (by simp[pA,YC,WG]) _ oM;rw[e] at hK;refine U27 ?_;refine .rt hK func156 results156 [_] ?_;exact okB
  | false=>
   have f3:RL.JF .eql (x j) s=some (.bool false):=by rw[<-WG];rfl
   refine U29 ?_;exact Tc.db (ih ⟨j+1,oM,by simp[pA,YC,WG]⟩ (by simp only;omega))
theorem FK(k:Bk)(A:Option Addr)(lc:Nat)(hA:VC H k A lc)(hn:k.nl<=1000)(s:List UInt8)(t:Bool)(ht:k.clash s=t):
  aA M 166 #[.slice A k.nl lc,vA s] H (fun v H'=> H.le H'/\v=.bool t):=by
 rw[<-ht];clear ht;refine .en func166 ntmps166 fun St c cs hK=> ?_;refine UC ?_;refine Tc.db (Tc.sA (σ:= { j:Nat//j<=k.nl/\pA (fun i=> WC (k.num i) s) j=none }) (fun j=> ([(0,.slice A k.nl lc),(1,vA s),(5,.int .i64 (j.1:Nat))],[])) (fun j=> k.nl-j.1) ?_ ⟨0,Nat.zero_le _,rfl⟩);rintro⟨j,hj,YC⟩ ih;show Tc M St _ _ _ _ [(0,.slice A k.nl lc),(1,vA s),(5,.int .i64 (j:Nat))] [] _ _;by_cases c1:j=k.nl
 ·have e:k.clash s=false:=by unfold Bk.clash;rw[<-c1,YC];rfl
  subst c1;rw[e] at hK;refine lF ?_;refine .rt hK func166 results166 [_] ?_;exact okB
 ·have c2:j<k.nl:=by omega
  obtain⟨_,h0|⟨ab,ao,f,gs,gt,gz,rfl,hb,hl⟩⟩:=hA
  ·omega
  obtain⟨F,fc,f1,_,_⟩:=hl j c2;have f2:BC false 1 gs (ao+((j:Nat):Int).toNat*3+1)=some (vA (k.num j)):=GH f1 dE;cases WG:WC (k.num j) s with
  | true=>
   have e:k.clash s=true:=by
    unfold Bk.clash;rw[nB (j:=j+1) (x:=j) (by simp[pA,YC,WG]) _ oM];rfl
   rw[e] at hK;cases JZ:AB s (k.num j) with
   | true=>
    refine QR ?_;refine .cl (fun H hs=> HI M H s (k.num j) true JZ) ?_;refine kN ?_;refine .rt hK func166 results166 [_] ?_;exact okB
   | false=>
    have hb2:AB (k.num j) s=true:=by unfold WC at WG;rw[JZ,Bool.or_false] at WG;exact WG
    refine QR ?_;refine .cl (fun H hs=> HI M H s (k.num j) false JZ) ?_;refine U7 ?_;refine .cl (fun H hs=> HI M H (k.num j) s true hb2) ?_;refine U7 ?_;refine .rt hK func166 results166 [_] ?_;exact okB
  | false=>
   have aEs:AB s (k.num j)=false/\AB (k.num j) s=false:=by unfold WC at WG;rw[Bool.or_eq_false_iff] at WG;exact⟨WG.2,WG.1⟩
   refine QR ?_;refine .cl (fun H hs=> HI M H s (k.num j) false aEs.1) ?_;refine U7 ?_;refine .cl (fun H hs=> HI M H (k.num j) s false aEs.2) ?_;refine UC ?_;exact Tc.db (ih ⟨j+1,oM,by simp[pA,YC,WG]⟩ (by simp only;omega))
theorem kL(a b p q:Int)(z:Int)(hz:(if ZA a b p q then 0 else 1:Int)=z):aA M 84 #[TD a b p q] H (fun v H'=> H.le H'/\v=.int .i64 z):=by
 rw[<-hz];clear hz;by_cases c1:1<=a/\a<=b/\b<=12
 ·by_cases c2:b-a<4
  ·by_cases c3:0<=p/\p<=q/\q<=99
   ·have e:ZA a b p q=true:=by unfold ZA;simp[c1,c2,c3]
    rw[e];refine .en func84 ntmps84 fun St c cs hK=> ?_;refine U2 ?_;refine .bo fun b1=> ?_;refine U7 ?_;refine .cl (fun H hs=> mC M H a b 1 12 true (decide_eq_true c1)) ?_;refine lF ?_;refine .cl (fun H hs=> mC M H p q 0 99 true (decide_eq_true c3)) ?_;refine U9 ?_;refine .rt hK func84 results84 [_] ?_;exact okB
   ·have e:ZA a b p q=false:=by unfold ZA;simp[c3]
    rw[e];refine .en func84 ntmps84 fun St c cs hK=> ?_;refine U2 ?_;refine .bo fun b1=> ?_;refine U7 ?_;refine .cl (fun H hs=> mC M H a b 1 12 true (decide_eq_true c1)) ?_;refine lF ?_;refine .cl (fun H hs=> mC M H p q 0 99 false (decide_eq_false c3)) ?_;refine U8 ?_;refine .rt hK func84 results84 [_] ?_;exact okB
  ·have e:ZA a b p q=false:=by unfold ZA;simp[c2]
   rw[e];refine .en func84 ntmps84 fun St c cs hK=> ?_;refine U2 ?_;refine .bo fun b1=> ?_;refine U7 ?_;refine .cl (fun H hs=> mC M H a b 1 12 true (decide_eq_true c1)) ?_;refine q9 ?_;refine .rt hK func84 results84 [_] ?_;exact okB
 ·have e:ZA a b p q=false:=by unfold ZA;simp[c1]
  rw[e];refine .en func84 ntmps84 fun St c cs hK=> ?_;refine U2 ?_;refine .bo fun b1=> ?_;refine U7 ?_;refine .cl (fun H hs=> mC M H a b 1 12 false (decide_eq_false c1)) ?_;refine q9 ?_;refine .rt hK func84 results84 [_] ?_;exact okB
end
end Go.Proofs.YtldmfjcgjdchcaaGreatDoor
