/-
 Texts of the proofs over baudot/dial.
-/
import Derived.Test.YtldmfjcgjdchcaaGreatDoorS14
namespace Go.Proofs.YtldmfjcgjdchcaaGreatDoor
open Go.RL Go.Proofs.Tryz
set_option maxRecDepth 10000
set_option maxHeartbeats 32000000
structure OO(t:LF)(H:View)(gl:Gl 68 3)(gt:Gl 39 4)(Fs:Nat->Option Addr×Nat):Prop where
 ln:gl.n=t.ls.length
 ll:gl.l=KA t.ls.length (B4 t.bk Fs)
 fr:∀q,q<t.ls.length->t.bk.nf q<=(Fs q).2/\PB H (Fs q).1 (t.bk.nf q) (t.bk.free q)
 tn:gt.n=t.ts.length
 tl:gt.l=KA t.ts.length (K4 t.bk)
theorem OO.book {t:LF}{H H':View}{gl:Gl 68 3}{gt:Gl 39 4}{Fs:Nat->Option Addr×Nat}(h:OO t H gl gt Fs)(hl:H.le H')(h1:∀x∈gl.bl,H' x.1=some x.2)(h2:∀x∈gt.bl,H' x.1=some x.2):
  QD H' t.bk (gl.blk.map fun b=> ⟨b,0,none⟩) gl.cap (gt.blk.map fun b=> ⟨b,0,none⟩) gt.cap:=
 PSt.book (k:=t.bk) (d:=1+t.bk.nl+t.bk.nt) (gp:=t.bk.aD) (gv:=t.bk.yB) (la:=0) ⟨Nat.le_refl _,Nat.le_refl _,.inr ⟨rfl,rfl,rfl⟩,.inr rfl,oM,h.ln,h.ll,h.fr,h.tn,h.tl⟩ hl h1 h2
theorem OO.TC {t:LF}{H:View}{gl:Gl 68 3}{gt:Gl 39 4}{Fs:Nat->Option Addr×Nat}(h:OO t H gl gt Fs)(a b:Int):OO (t.put (.TC a b)) H gl gt Fs:=⟨h.ln,h.ll,h.fr,h.tn,h.tl⟩
theorem JX {α:Type}{l:List α}{y d:α}{q:Nat}(h:q<l.length):(l++[y])[q]?.getD d=l[q]?.getD d:=by rw[List.getElem?_append_left h]
theorem get_eq {α:Type}{l:List α}{y d:α}:(l++[y])[l.length]?.getD d=y:=by simp
theorem OO.xF {t:LF}{H:View}{gl:Gl 68 3}{gt g2:Gl 39 4}{Fs:Nat->Option Addr×Nat}(h:OO t H gl gt Fs)(a z x y:Int)(hn:g2.n=gt.n+1)(hl:g2.l=gt.l++[.iz a,.iz z,.iz x,.iz y]):OO (t.put (.xF a z x y)) H gl g2 Fs:=by
 refine⟨h.ln,h.ll,h.fr,?_,?_⟩
 ·show g2.n=(t.ts++[(a,z,x,y)]).length;rw[hn,h.tn];simp
 ·show g2.l=KA (t.ts++[(a,z,x,y)]).length _;rw[show(t.ts++[(a,z,x,y)]).length=t.ts.length+1 by simp,hl,h.tl,LC];have e2:K4 (t.put (.xF a z x y)).bk t.ts.length= [.iz a,.iz z,.iz x,.iz y]:=by
   unfold K4 LF.bk LF.put;simp only[get_eq]
  rw[e2]
  congr 1
  refine cF _ fun q hq=> ?_;unfold K4 LF.bk LF.put;simp only[JX hq]
theorem OO.line {t:LF}{H H':View}{gl g2:Gl 68 3}{gt:Gl 39 4}{Fs:Nat->Option Addr×Nat}{g:Gl 110 1}(h:OO t H gl gt Fs)(hle:H.le H')(p q:By)(ws:List Int)(XC:g.n=ws.length)(JE:g.l=QB ws)(hb:∀y∈g.bl,H' y.1=some y.2)
  (hn:g2.n=gl.n+1) (hl:g2.l=gl.l++[bA p,bA q,g.val]):OO (t.put (.line p q ws)) H' g2 gt (fun i=> if i=t.ls.length then(g.blk.map fun b=> ⟨b,0,none⟩,g.cap) else Fs i):=by
 have hws:ws=(List.range ws.length).map fun j=> ws[j]?.getD 0:=by
  apply List.ext_getElem
  ·simp
  ·intro i h1 h2;simp[h1]
 have lP:=aBi (x:=fun j=> ws[j]?.getD 0) XC (by rw[JE,<-hws]) hb;have YW:g.val=.slice (g.blk.map fun b=> ⟨b,0,none⟩) ws.length g.cap:=by unfold Gl.val;rw[XC]
 refine⟨?_,?_,fun i hi=> ?_,h.tn,h.tl⟩
 ·show g2.n=(t.ls++[(p,q,ws)]).length;rw[hn,h.ln];simp
 ·show g2.l=KA (t.ls++[(p,q,ws)]).length _;rw[show(t.ls++[(p,q,ws)]).length=t.ls.length+1 by simp,hl,h.ll,LC];have e2:B4 (t.put (.line p q ws)).bk (fun i=> if i=t.ls.length then(g.blk.map fun b=> ⟨b,0,none⟩,g.cap) else Fs i) t.ls.length= [bA p,bA q,g.val]:=by
   unfold B4 LF.bk LF.put;simp only[get_eq,if_true,YW]
  rw[e2]
  congr 1
  refine cF _ fun i hi=> ?_;unfold B4 LF.bk LF.put;simp only[JX hi,if_neg (Nat.ne_of_lt hi)]
 ·have hi:i<(t.ls++[(p,q,ws)]).length:=hi;rw[show(t.ls++[(p,q,ws)]).length=t.ls.length+1 by simp] at hi;by_cases e:i=t.ls.length
  ·subst e;unfold LF.bk LF.put;simp only[get_eq,if_true];exact lP
  ·have hi:i<t.ls.length:=by omega
   have h1:=h.fr i hi;unfold LF.bk at h1;unfold LF.bk LF.put;simp only[JX hi,if_neg e];exact⟨h1.1,h1.2.le hle⟩
section
variable(M:Md prog)(H:View)
theorem IQ {H₀:View}{b2 b3 b4 b5:Nat}{gp gv n:Int}{x y:Value}(hs:jA H₀ [Bb b2 [.iz gp,.iz gv,x,y] 45,Bb b3 [.iz 0] 3,Bb b4 [.iz 0] 25,Bb b5 [.iz n] 3] H):
  G5 M 101 #[.pt b5,.pt b2,.pt b3,.pt b4] H rS fun H'=> jA H₀ [Bb b2 [.iz 0,.iz 0,.slice none 0 0,.slice none 0 0] 45,Bb b3 [.iz n] 3,Bb b4 [.iz 3] 25,Bb b5 [.iz n] 3] H':=by
 refine G5.enter (vs:= [.pt b5,.pt b2,.pt b3,.pt b4]) (n:=15) func101 rfl ntmps101 Nb hs fun St b₀ tmps₀ ds₀ todo₀ cs hK=> ?_;refine U2 ?_;refine To.yY rfl rfl rfl rfl dE ?_;refine U4 ?_;refine .x (pA.aDp rfl rfl kR) ?_;refine U4 ?_;refine .x (pA.dP rfl rfl kR) ?_;refine U6 ?_;refine .al fun b9=> ?_;refine .e (Or.aEK (E:=en) rfl rfl rfl rfl rfl rfl rfl ?_);refine U9 ?_;exact Tc.aBH en hK func101 results101 fun H' hs=> hs.less sL
theorem Y5(hG:mG H)(hC:mR H)(s:By)(hm:s.length<=2000):
  fA M 34 #[bA s] H (fun v H'=> H.le H'/\∃A lc B tc,v=.tuple ⟨[(BE s).1.val A lc B tc,.iz ((BE s).2.1:Nat),.iz (BE s).2.2]⟩/\QD H' (BE s).1 A lc B tc):=by
 obtain⟨PF,hPF⟩:∃PF,PF=ZE (xG s) 0 dK:=⟨_,rfl⟩
 obtain⟨out,dH⟩:∃o,BE s=o:=⟨_,rfl⟩
 have F7:∀n,PF=.inr n->out=(dK.bk,n,3):=fun n e=> by
  rw[<-dH];unfold BE;rw[<-hPF,e]
 have aHc:vC s= []->out=(dK.bk,0,3):=fun e=> by
  have e1:xG s= []:=by unfold xG;rw[e];rfl
  rw[<-dH];unfold BE;rw[e1];rfl
 have aFu:∀t,PF=.inl t->vC s≠ []->out=if t.bk.WA=0 then(t.bk,0,0) else(dK.bk,0,t.bk.WA):=fun t e e2=> by
  have e1:xG s≠ []:=by unfold xG;intro h;exact e2 (List.map_eq_nil_iff.1 h)
  rw[<-dH];unfold BE;rw[<-hPF,e];simp only[if_neg e1]
 have GU:=lR s;rw[dH];clear dH;refine .en func34 ntmps34 fun St c cs hK=> ?_;refine U2 ?_;refine .al fun b2=> ?_;refine .al fun b3=> ?_;refine .al fun b4=> ?_;refine uH ?_;refine .al fun b5=> ?_;refine .al fun b6=> ?_;refine U6 ?_;refine To.defer (first:= []) (captured:= [_,_,_,_]) rfl rfl rfl rfl rfl rfl rfl ?_;refine U5 ?_;refine .e (Or.xA (fun b=> UT b) (fun b=> [Bb b [bA s] 9]) (fun _=> True) rfl rfl rfl rfl rfl dE (fun _=> by simp) (fun H hs=> .h (aAL M H s)) (fun lb _=> ?_));refine U2 ?_;refine Tc.aFi (R':= [(2,.pt b2),(3,.pt b3),(4,.pt b4),(5,.pt b5),(6,.pt b6),(19,UT lb)]) ⟨rfl,rfl,rfl,rfl,rfl,rfl,trivial⟩ ?_;refine Tc.perm (L₁:= [Bb lb [bA s] 9]++([Bb b2 [.iz 0,.iz 0,(Gl.nil 68 3).val,(Gl.nil 39 4).val] 45,Bb b3 [.iz 0] 3,Bb b4 [.iz 0] 25,Bb b5 [.nt 0] 3,Bb b6 [.iz 0] 3]++((Gl.nil 68 3).bl++(Gl.nil 39 4).bl))) (by
  have e:∀a b2 b3 b4 b5 b6:Nat×Bool×Obj,[a,b2,b3,b4,b5,b6].Perm [b6,b5,b4,b3,b2,a]:=fun a b2 b3 b4 b5 b6=> (List.reverse_perm [b6,b5,b4,b3,b2,a])
  exact e _ _ _ _ _ _) ?_
 refine Tc.aBM (v:=rS) (A:= [Bb lb [bA s] 9]) (ts:= [20]) (xs:=vC s) (fun rest H₁ L₁=> ∃(t:LF) (d:Nat) (gl:Gl 68 3) (gt:Gl 39 4) (Fs:Nat->Option Addr×Nat),ZE (rest.map (WH 10)) d t=PF/\d+rest.length=(vC s).length/\t.Small (wl (rest.map (WH 10)))/\(t.la<=2/\(d=0->t.la=0))/\H.le H₁/\OO t H₁ gl gt Fs/\L₁= [Bb b2 [.iz t.aD,.iz t.yB,gl.val,gt.val] 45,Bb b3 [.iz 0] 3,Bb b4 [.iz 0] 25,Bb b5 [.nt d] 3,Bb b6 [.nt t.la] 3]++(gl.bl++gt.bl)) (fun _ _ _=> False) (fun H₁ L₁=> ∃(dd:Nat) (gp gv la:Int) (x y:Value),PF=.inr dd/\H.le H₁/\L₁= [Bb b2 [.iz gp,.iz gv,x,y] 45,Bb b3 [.iz 0] 3,Bb b4 [.iz 0] 25,Bb b5 [.nt dd] 3,Bb b6 [.iz la] 3]) rfl rfl rfl rfl (Cap:=fun _=> True) (fun H' _=> E3 M H' s oM lb rS) (fun _ _ _ _=> trivial) (fun _ _ _ _=> trivial) rfl (fun _ _=> rfl)
   ⟨dK,0,Gl.nil 68 3,Gl.nil 39 4,fun _=> (none,0),hPF.symm,Nat.zero_add _,ZI oM,⟨Nat.zero_le _,fun _=> rfl⟩,View.le_refl _,⟨rfl,rfl,fun q hq=> absurd hq (Nat.not_lt_zero q),rfl,rfl⟩,rfl⟩ ?_ ?_ (fun _ _ _ _ h=> h.elim) ?_
 ·rintro r x rest _ lp tmps asg bdy H₄ _ hx ⟨t,d,gl,gt,Fs,q1,q0,qs,qla,q2,q3,rfl⟩ Q X St1 cc1 cs1 iP hP1 q _ hX;rw[List.length_cons] at q0;rw[List.map_cons] at q1 qs;rw[UE] at qs;have bX:=W8 (WH 10 x) x rfl;have x8:=qs.sum;have PV:=fun H=> ZS M H x 10 oM;generalize K2:WH 10 x=w at q1 qs bX x8 PV;have hwm:w.length<=1000000:=by omega
  have hdn:d<=2001:=by
   have h1:∀l:List By,l.length<=wl l:=fun l=> by
    induction l with
    | nil=> exact Nat.le_refl _
    | cons a l ih=> rw[UE,List.length_cons];omega
   have h2:=h1 ((vC s).map (WH 10));rw[List.length_map] at h2;omega
  have a1:iA .add .i64 ((d:Nat):Int) 1=some (.int .i64 ((d+1:Nat):Int)):=pB oM oM;have hw:PF=.inr (d+1)->∀(H':View) (L:Bl),((r,true,.deferred (some [])):: [Bb b2 [.iz t.aD,.iz t.yB,gl.val,gt.val] 45,Bb b3 [.iz 0] 3,Bb b4 [.iz 0] 25,Bb b5 [.iz (d+1:Nat)] 3,Bb b6 [.nt t.la] 3]:Bl).Sublist L->jA H₄ L H'->T M St1 H' (Go.Conc.G (cc1.raise (Go.RL.raised rS)) cs1):=fun e H' L hL hs=> hP1 H' (hX H' H₄ _ (hs.less hL) ⟨d+1,t.aD,t.yB,_,_,_,e,q2,rfl⟩);refine U3 ?_;refine Tc.beginRound (i:=0) rfl rfl rfl ?_;refine U8 ?_;cases hr:rowOf w with
  | none=>
   rw[LN _ _ _ hr] at q1;have hw:=hw q1.symm;have CK:=fun H (hC:mR H)=> D3 M H hC w hwm hr;refine U2 ?_;refine .cl (fun H hs=> PV H) ?_;refine To.rG rfl rfl rfl rfl rfl (fun H hs=> VE.of (first:= []) (captured:= []) aEY rfl (CK H (hC.le (View.le_trans q2 hs.base)))) (PG.GL func34 fun H' hs=> hw H' _ sL hs)
  | some row=>
   have k8:=qs.put hr;cases row with
   | TC a b=>
    have CK:=fun H (hC:mR H)=> aW M H hC w hwm hr;refine U2 ?_;refine .cl (fun H hs=> PV H) ?_;refine .cl (fun H hs=> CK H (hC.le (View.le_trans q2 hs.base))) ?_;refine U3 ?_;by_cases c1:d=0
    ·by_cases c2:t.la<=0
     ·have hf:HE d t.la (.TC a b)=true:=by
       unfold HE Row.kind;simp[c1,c2]
      rw[EI _ _ _ hr hf] at q1;have e4:iA .eql .i64 ((d+1:Nat):Int) 1=some (.bool true):=wE oM;have e5:iA .geq .i64 0 ((t.la:Nat):Int)=some (.bool true):=CH oM;refine Tc.dr [] [] mixed rfl ?_;refine .nn 0 ?_;refine .z 1 rfl (pA.dC rfl rfl rfl rfl kR oZ (fun H hs=> xM M H a b)) ?_;refine V6 2 ?_;refine .z 8 rfl (pA.dC rfl rfl rfl rfl kR oZ (fun H hs=> xM M H a b)) ?_;refine V3 9 ?_;refine .z 12 rfl (pA.tk fun H hs=> wC M H) ?_;refine .dn ?_;refine U3 ?_;refine .e (Or.R3 (pA.dC rfl rfl rfl rfl kR oZ (fun H hs=> xM M H a b)) rfl dE ?_);refine U9 ?_;refine .x (pA.dP rfl rfl kR) ?_;refine U6 ?_;refine .al fun b9=> ?_;refine U2 ?_;refine Tc.dr [5,7] [3] mixed rfl ?_;refine V2 0 ?_;refine .nw 2 ?_;refine .nw 3 ?_;refine .nn 4 ?_;refine .e 5 3 ?_;refine .nw 6 ?_;refine .e 7 3 ?_;refine .dn ?_;refine U2 ?_;refine Tc.tB iP (i:=1) rfl (.inl ⟨rfl,rfl⟩) (fun H' hs=> q H' H₄ _ (hs.less sL) ⟨t.put (.TC a b),d+1,gl,gt,Fs,q1,oM,k8,⟨Nat.zero_le _,fun _=> rfl⟩,q2,q3.TC a b,rfl⟩)
     ·exact absurd (qla.2 c1) oM
    ·have hf:HE d t.la (.TC a b)=false:=by
      unfold HE Row.kind;simp[c1]
     rw[iF _ _ _ hr hf] at q1;have hw:=hw q1.symm;have e4:iA .eql .i64 ((d+1:Nat):Int) 1=some (.bool false):=IC oM;refine Tc.drP [] [] mixed rfl (PG.GL func34 fun H' hs=> hw H' _ sL hs) ?_;refine Tp.tk 0 kR rfl rfl dE rfl rfl (pA.take .mv) ?_;refine Tp.tk 1 kR rfl rfl dE rfl rfl (pA.dC rfl rfl rfl rfl kR oZ (fun H hs=> xM M H a b)) ?_;refine Tp.tk 2 kR rfl rfl dE rfl rfl (pA.take (.it (zz:=wE oM))) ?_;refine Tp.tk 3 kR rfl rfl dE rfl rfl (pA.take (.ld 5)) ?_;refine Tp.tk 4 kR rfl rfl dE rfl rfl (pA.take (.it (zz:=(by assumption)))) ?_;refine Tp.tk 5 kR rfl rfl dE rfl rfl (pA.take .eb) ?_;refine Tp.tk 6 kR rfl rfl dE rfl rfl (pA.take .mv) ?_;refine Tp.ps 7 kR rfl rfl rfl dE rfl rfl ?_;refine Tp.ps 8 kR rfl rfl rfl dE rfl rfl ?_;refine Tp.ps 9 kR rfl rfl rfl dE rfl rfl ?_;refine Tp.ps 10 kR rfl rfl rfl dE rfl rfl ?_;refine Tp.tk 11 kR rfl rfl dE rfl rfl (pA.take .pk) ?_;exact Tp.DI 12 kR rfl rfl rfl rfl rfl rfl (fun H hs rO=> VE.of (first:= []) (captured:= []) qG rfl (mE M H))
   | line p1 p2 ws=>
    have CK:=fun H (hC:mR H)=> bW M H hC w hwm hr;obtain⟨aHX,aHY⟩:=(PQ hr).2;refine U2 ?_;refine .cl (fun H hs=> PV H) ?_;refine .e (Or.xA (j0 p1 p2) Gl.bl (fun g:Gl 110 1=> g.n=ws.length/\g.l=QB ws) rfl rfl rfl rfl rfl dE Gl.bG (fun H hs=> .h (CK H (hC.le (View.le_trans q2 hs.base)))) (fun g hg=> ?_));refine U3 ?_;by_cases c1:¬d=0
    ·by_cases c2:t.la<=1
     ·have hf:HE d t.la (.line p1 p2 ws)=true:=by
       unfold HE Row.kind;simp[c1,c2]
      rw[EI _ _ _ hr hf] at q1;have e4:iA .eql .i64 ((d+1:Nat):Int) 1=some (.bool false):=IC oM;have e5:iA .geq .i64 1 ((t.la:Nat):Int)=some (.bool true):=CH oM;refine Tc.bT _ g.bl (List.Perm.refl _) (fun H₅ FT hb5=> ?_);refine Tc.dr [] [] mixed rfl ?_;refine .nn 0 ?_;refine .z 1 rfl (pA.dC rfl rfl rfl rfl kR WR (fun H hs=> HI M H p1 p2 g)) ?_;refine V6 2 ?_;refine .z 8 rfl (pA.dC rfl rfl rfl rfl kR WR (fun H hs=> HI M H p1 p2 g)) ?_;refine V3 9 ?_;refine .z 12 rfl (pA.tk fun H hs=> wC M H) ?_;refine .dn ?_;refine U3 ?_;refine .e (Or.R3 (pA.dC rfl rfl rfl rfl kR WR (fun H hs=> HI M H p1 p2 g)) rfl dE ?_);refine U9 ?_;refine .x (pA.dT (E:=en) rfl rfl rfl kR rfl) ?_;refine U6 ?_;refine .x (pA.dP rfl rfl kR) ?_;refine U6 ?_;refine .al fun b10=> ?_;refine U7 ?_;refine .e (.bs (zz:=fun bs=> ?_));refine .e (Or.BP (E:=en) (g:=gl) 9 (fun B=> B++gt.bl) (aC7 _) rfl rfl rfl rfl rfl rfl rfl rfl rfl rfl rfl rfl rfl rfl rfl (fun H hs=> RA.of (hs.get (i:=0) rfl) Nb) rfl (by have:=q3.ln;omega) rfl dE (fun g2 dI LG=> ?_));refine U5 ?_;refine Tc.tB iP (i:=2) rfl (.inl ⟨rfl,rfl⟩) (fun H' hs=> q H' H₅ _ (hs.less sL) ⟨t.put (.line p1 p2 ws),d+1,g2,gt,_,q1,oM,k8,⟨by show 1<=2;omega,fun e=> by omega⟩,View.le_trans q2 FT,q3.line FT p1 p2 ws hg.1 hg.2 hb5 dI LG,rfl⟩)
     ·have hf:HE d t.la (.line p1 p2 ws)=false:=by
       unfold HE Row.kind;simp[c2]
      rw[iF _ _ _ hr hf] at q1;have hw:=hw q1.symm;have e4:iA .eql .i64 ((d+1:Nat):Int) 1=some (.bool false):=IC oM;have e5:iA .geq .i64 1 ((t.la:Nat):Int)=some (.bool false):=mJ oM;refine Tc.drP [] [] mixed rfl (PG.GL func34 fun H' hs=> hw H' _ sL hs) ?_;refine Tp.tk 0 kR rfl rfl dE rfl rfl (pA.take .mv) ?_;refine Tp.tk 1 kR rfl rfl dE rfl rfl (pA.dC rfl rfl rfl rfl kR WR (fun H hs=> HI M H p1 p2 g)) ?_;refine Tp.tk 2 kR rfl rfl dE rfl rfl (pA.take (.it (zz:=IC oM))) ?_;refine Tp.tk 3 kR rfl rfl dE rfl rfl (pA.take (.ld 5)) ?_;refine Tp.tk 4 kR rfl rfl dE rfl rfl (pA.take (.it (zz:=(by assumption)))) ?_;refine Tp.tk 5 kR rfl rfl dE rfl rfl (pA.take .eb) ?_;refine Tp.tk 6 kR rfl rfl dE rfl rfl (pA.take .mv) ?_;refine Tp.tk 7 kR rfl rfl dE rfl rfl (pA.take .mv) ?_;refine Tp.tk 8 kR rfl rfl dE rfl rfl (pA.dC rfl rfl rfl rfl kR WR (fun H hs=> HI M H p1 p2 g)) ?_;refine Tp.tk 9 kR rfl rfl dE rfl rfl (pA.take (.ld 6)) ?_;refine Tp.tk 10 kR rfl rfl dE rfl rfl (pA.take (.it (zz:=(by assumption)))) ?_;refine Tp.tk 11 kR rfl rfl dE rfl rfl (pA.take .pk) ?_;exact Tp.DI 12 kR rfl rfl rfl rfl rfl rfl (fun H hs rO=> VE.of (first:= []) (captured:= []) qG rfl (mE M H))
    ·have hf:HE d t.la (.line p1 p2 ws)=false:=by
      unfold HE Row.kind;simp[Decidable.not_not.1 c1]
     rw[iF _ _ _ hr hf] at q1;have hw:=hw q1.symm;have e4:iA .eql .i64 ((d+1:Nat):Int) 1=some (.bool true):=wE oM;refine Tc.drP [] [] mixed rfl (PG.GL func34 fun H' hs=> hw H' _ sL hs) ?_;refine Tp.tk 0 kR rfl rfl dE rfl rfl (pA.take .mv) ?_;refine Tp.tk 1 kR rfl rfl dE rfl rfl (pA.dC rfl rfl rfl rfl kR WR (fun H hs=> HI M H p1 p2 g)) ?_;refine Tp.tk 2 kR rfl rfl dE rfl rfl (pA.take (.it (zz:=IC oM))) ?_;refine Tp.tk 3 kR rfl rfl dE rfl rfl (pA.take (.ld 5)) ?_;refine Tp.tk 4 kR rfl rfl dE rfl rfl (pA.take (.it (zz:=(by assumption)))) ?_;refine Tp.tk 5 kR rfl rfl dE rfl rfl (pA.take .eb) ?_;refine Tp.tk 6 kR rfl rfl dE rfl rfl (pA.take .mv) ?_;refine Tp.ps 7 kR rfl rfl rfl dE rfl rfl ?_;refine Tp.ps 8 kR rfl rfl rfl dE rfl rfl ?_;refine Tp.ps 9 kR rfl rfl rfl dE rfl rfl ?_;refine Tp.ps 10 kR rfl rfl rfl dE rfl rfl ?_;refine Tp.tk 11 kR rfl rfl dE rfl rfl (pA.take .pk) ?_;exact Tp.DI 12 kR rfl rfl rfl rfl rfl rfl (fun H hs rO=> VE.of (first:= []) (captured:= []) qG rfl (mE M H))
   | xF a z x y=>
    have CK:=fun H (hC:mR H)=> TT M H hC w hwm hr;refine U2 ?_;refine .cl (fun H hs=> PV H) ?_;refine .cl (fun H hs=> CK H (hC.le (View.le_trans q2 hs.base))) ?_;refine U3 ?_;by_cases c1:¬d=0
    ·by_cases c2:t.la<=2
     ·have hf:HE d t.la (.xF a z x y)=true:=by
       unfold HE Row.kind;simp[c1,c2]
      rw[EI _ _ _ hr hf] at q1;have e4:iA .eql .i64 ((d+1:Nat):Int) 1=some (.bool false):=IC oM;have e5:iA .geq .i64 2 ((t.la:Nat):Int)=some (.bool true):=CH oM;refine Tc.dr [] [] mixed rfl ?_;refine .nn 0 ?_;refine .z 1 rfl (pA.dC rfl rfl rfl rfl kR pZ (fun H hs=> yM M H a z x y)) ?_;refine V6 2 ?_;refine .z 8 rfl (pA.dC rfl rfl rfl rfl kR pZ (fun H hs=> yM M H a z x y)) ?_;refine V3 9 ?_;refine .z 12 rfl (pA.tk fun H hs=> wC M H) ?_;refine .dn ?_;refine U3 ?_;refine .e (Or.R3 (pA.dC rfl rfl rfl rfl kR pZ (fun H hs=> yM M H a z x y)) rfl dE ?_);refine U9 ?_;refine .x (pA.dT (E:=en) rfl rfl rfl kR rfl) ?_;refine U6 ?_;refine .x (pA.dT (E:=en) rfl rfl rfl kR rfl) ?_;refine U6 ?_;refine .x (pA.dP rfl rfl kR) ?_;refine U6 ?_;refine .al fun b11=> ?_;refine U7 ?_;refine .e (.bs (zz:=fun bs=> ?_));refine .e (Or.BP (E:=en) (g:=gt) 9 (fun B=> gl.bl++B) (fun _=> List.Perm.refl _) rfl rfl rfl rfl rfl rfl rfl rfl rfl rfl rfl rfl rfl rfl rfl (fun H hs=> RA.of (hs.get (i:=0) rfl) Nb) rfl (by have:=q3.tn;omega) rfl dE (fun g2 dI LG=> ?_));refine U5 ?_;refine Tc.tB iP (i:=2) rfl (.inl ⟨rfl,rfl⟩) (fun H' hs=> q H' H₄ _ (hs.less sL) ⟨t.put (.xF a z x y),d+1,gl,g2,Fs,q1,oM,k8,⟨by show 2<=2;omega,fun e=> by omega⟩,q2,q3.xF a z x y dI LG,rfl⟩)
     ·exact absurd qla.1 c2
    ·have hf:HE d t.la (.xF a z x y)=false:=by
      unfold HE Row.kind;simp[Decidable.not_not.1 c1]
     rw[iF _ _ _ hr hf] at q1;have hw:=hw q1.symm;have e4:iA .eql .i64 ((d+1:Nat):Int) 1=some (.bool true):=wE oM;refine Tc.drP [] [] mixed rfl (PG.GL func34 fun H' hs=> hw H' _ sL hs) ?_;refine Tp.tk 0 kR rfl rfl dE rfl rfl (pA.take .mv) ?_;refine Tp.tk 1 kR rfl rfl dE rfl rfl (pA.dC rfl rfl rfl rfl kR pZ (fun H hs=> yM M H a z x y)) ?_;refine Tp.tk 2 kR rfl rfl dE rfl rfl (pA.take (.it (zz:=IC oM))) ?_;refine Tp.tk 3 kR rfl rfl dE rfl rfl (pA.take (.ld 5)) ?_;refine Tp.tk 4 kR rfl rfl dE rfl rfl (pA.take (.it (zz:=(by assumption)))) ?_;refine Tp.tk 5 kR rfl rfl dE rfl rfl (pA.take .eb) ?_;refine Tp.tk 6 kR rfl rfl dE rfl rfl (pA.take .mv) ?_;refine Tp.ps 7 kR rfl rfl rfl dE rfl rfl ?_;refine Tp.ps 8 kR rfl rfl rfl dE rfl rfl ?_;refine Tp.ps 9 kR rfl rfl rfl dE rfl rfl ?_;refine Tp.ps 10 kR rfl rfl rfl dE rfl rfl ?_;refine Tp.tk 11 kR rfl rfl dE rfl rfl (pA.take .pk) ?_;exact Tp.DI 12 kR rfl rfl rfl rfl rfl rfl (fun H hs rO=> VE.of (first:= []) (captured:= []) qG rfl (mE M H))
 ·rintro r H₄ _ ⟨t,d,gl,gt,Fs,q1,q0,qs,qla,q2,q3,rfl⟩;have q1:PF=.inl t:=q1.symm;rw[List.length_nil] at q0;by_cases c0:d=0
  ·subst c0;have aB:vC s= []:=List.length_eq_zero_iff.1 oM;have dH:=aHc aB;refine U5 ?_;refine To.rG rfl rfl rfl rfl rfl (fun H hs=> VE.of (first:= []) (captured:= []) qG rfl (mE M H)) ?_;refine PG.mark (i:=0) rfl ?_;refine PG.aCf (L':= [Bb b2 [.iz _,.iz _,_,_] 45,Bb b3 [.iz 0] 3,Bb b4 [.iz 0] 25,Bb b5 [.iz _] 3]) sL ?_;refine PG.call nZ (fun H hs=> IQ M H hs) ?_;refine Tb.leave (E:=en) hK func34 results34 (vs:= [_,_,_]) (by refine⟨⟨0,_,_,_,_,_,_,_,rfl,rfl,rfl,rfl⟩,?_⟩;refine⟨⟨1,_,_,_,_,_,_,_,rfl,rfl,rfl,rfl⟩,?_⟩;refine⟨⟨2,_,_,_,_,_,_,_,rfl,rfl,rfl,rfl⟩,?_⟩;exact trivial) ?_;rw[dH];exact fun H' hs=> ⟨View.le_trans q2 hs.base,none,0,none,0,rfl,⟨Nat.le_refl _,.inl rfl⟩,⟨Nat.le_refl _,.inl rfl⟩⟩
  have aB:vC s≠ []:=fun e=> by rw[e] at q0;simp at q0;omega
  have dH:=aFu t q1 aB;have x8:=qs.sum;have rP:=qs.bk;have hd1:0<d:=by omega
  have hv1:gl.val=.slice (gl.blk.map fun b=> ⟨b,0,none⟩) t.bk.nl gl.cap:=by unfold Gl.val;rw[q3.ln];rfl
  have hv2:gt.val=.slice (gt.blk.map fun b=> ⟨b,0,none⟩) t.bk.nt gt.cap:=by unfold Gl.val;rw[q3.tn];rfl
  have NZ:=fun(H':View) (h':H₄.le H') (h1:∀x∈gl.bl,H' x.1=some x.2) (h2:∀x∈gt.bl,H' x.1=some x.2)=> xH M H' t.bk _ _ _ _ (q3.book h' h1 h2) rP (NA hG (View.le_trans q2 h'));have hg1:t.aD=t.bk.aD:=rfl;have fQ:t.yB=t.bk.yB:=rfl;rw[hv1,hv2,hg1,fQ];have c9:iA .gtr .i64 ((d:Nat):Int) 0=some (.bool true):=tG oM;by_cases c1:t.bk.WA=0
  ·rw[if_pos c1] at dH;rw[c1] at NZ;refine U5 ?_;refine .cl (fun H hs=> wC M H) ?_;refine U5 ?_;refine .cl (fun H hs=> NZ H hs.base (fun x hx=> hs.at_ x (by simp[hx])) (fun x hx=> hs.at_ x (by simp[hx]))) ?_;refine LI ?_;refine Tc.aAi rfl ?_;refine Tb.mark (i:=0) rfl ?_;refine Tb.call nZ (fun H hs=> HQ M H [_,_,_,_] rfl) ?_;refine Tb.leave (E:=en) hK func34 results34 (vs:= [_,_,_]) (by refine⟨⟨1,_,_,_,_,_,_,_,rfl,rfl,rfl,rfl⟩,?_⟩;refine⟨⟨2,_,_,_,_,_,_,_,rfl,rfl,rfl,rfl⟩,?_⟩;refine⟨⟨3,_,_,_,_,_,_,_,rfl,rfl,rfl,rfl⟩,?_⟩;exact trivial) ?_;rw[dH];exact fun H' hs=> ⟨View.le_trans q2 hs.base,_,_,_,_,rfl,q3.book hs.base (fun x hx=> hs.at_ x (by simp[hx])) (fun x hx=> hs.at_ x (by simp[hx]))⟩
  ·rw[if_neg c1] at dH;have e2:iA .neq .i64 t.bk.WA 0=some (.bool true):=BI c1;generalize t.bk.WA=a at NZ dH e2;refine U5 ?_;refine .cl (fun H hs=> wC M H) ?_;refine U5 ?_;refine .cl (fun H hs=> NZ H hs.base (fun x hx=> hs.at_ x (by simp[hx])) (fun x hx=> hs.at_ x (by simp[hx]))) ?_;refine LI ?_;refine Tc.aAi rfl ?_;refine Tb.mark (i:=0) rfl ?_;refine Tb.call nZ (fun H hs=> HQ M H [_,_,_,_] rfl) ?_;refine Tb.leave (E:=en) hK func34 results34 (vs:= [_,_,_]) (by refine⟨⟨1,_,_,_,_,_,_,_,rfl,rfl,rfl,rfl⟩,?_⟩;refine⟨⟨2,_,_,_,_,_,_,_,rfl,rfl,rfl,rfl⟩,?_⟩;refine⟨⟨3,_,_,_,_,_,_,_,rfl,rfl,rfl,rfl⟩,?_⟩;exact trivial) ?_;rw[dH];exact fun H' hs=> ⟨View.le_trans q2 hs.base,none,0,none,0,rfl,⟨Nat.le_refl _,.inl rfl⟩,⟨Nat.le_refl _,.inl rfl⟩⟩
 ·rintro r H₄ _ ⟨dd,gp,gv,la,x,y,e,q2,rfl⟩;have dH:=F7 dd e;refine PG.mark (i:=0) rfl ?_;refine PG.aCf (L':= [Bb b2 [.iz _,.iz _,_,_] 45,Bb b3 [.iz 0] 3,Bb b4 [.iz 0] 25,Bb b5 [.iz _] 3]) sL ?_;refine PG.call nZ (fun H hs=> IQ M H hs) ?_;refine Tb.leave (E:=en) hK func34 results34 (vs:= [_,_,_]) (by refine⟨⟨0,_,_,_,_,_,_,_,rfl,rfl,rfl,rfl⟩,?_⟩;refine⟨⟨1,_,_,_,_,_,_,_,rfl,rfl,rfl,rfl⟩,?_⟩;refine⟨⟨2,_,_,_,_,_,_,_,rfl,rfl,rfl,rfl⟩,?_⟩;exact trivial) ?_;rw[dH];exact fun H' hs=> ⟨View.le_trans q2 hs.base,none,0,none,0,rfl,⟨Nat.le_refl _,.inl rfl⟩,⟨Nat.le_refl _,.inl rfl⟩⟩
end
set_option maxHeartbeats 16000000
theorem cK(y x:UInt8):∀p:By,mA y (p++[x])=if x=y then mA y p++[[]] else(mA y p).dropLast++[(mA y p).getLast?.getD []++[x]]
 | []=> by
  show mA y [x]=_;rw[jF];by_cases h:x=y
  ·rw[if_pos h,if_pos h];rfl
  ·rw[if_neg h,if_neg h];rfl
 | z ::p=> by
  have ih:=cK y x p;have aB:=kF y p;show mA y (z::(p++[x]))=_;rw[jF,jF,ih];cases hp:mA y p with
  | nil=> exact(aB hp).elim
  | cons a l=>
   by_cases h:x=y
   ·simp only[if_pos h];by_cases hz:z=y
    ·simp[hz]
    ·simp[hz]
   ·simp only[if_neg h];by_cases hz:z=y
    ·simp only[if_pos hz];cases l with
     | nil=> rfl
     | cons b l=> simp
    ·simp only[if_neg hz];cases l with
     | nil=> simp
     | cons b l=> simp
section
variable(M:Md prog)(H:View)
theorem aBK(s:By)(y:UInt8)(hm:s.length<=1000000):
  fA M 248 #[bA s,.int .u8 (y.toNat:Nat)] H (fun v H'=> H.le H'/\∃g:Gl 9 1,v=g.val/\(g.n=(mA y s).length/\g.l=zA (mA y s)/\∃b,g.blk=some b)/\∀x∈g.bl,H' x.1=some x.2/\H x.1=none):=by
 refine .en func248 ntmps248 fun St c cs hK=> ?_;refine U6 ?_;refine .e (.bs (zz:=fun b0=> ?_));refine U8 ?_;refine Tc.db (Tc.qA (σ:= { x:Nat×Gl 9 1//x.1<=s.length/\x.2.n=(mA y (s.take x.1)).length/\x.2.l=zA (mA y (s.take x.1))/\∃b,x.2.blk=some b }) (fun x=> ([(0,bA s),(1,.int .u8 (y.toNat:Nat)),(5,x.1.2.val),(6,.nt x.1.1)],x.1.2.bl)) (fun x=> s.length-x.1.1) ?_ ⟨(0,⟨some b0,1,1,[bA []],[],rfl,Nat.le_refl _,rfl,fun h=> nomatch h⟩),Nat.zero_le _,rfl,rfl,b0,rfl⟩);rintro⟨⟨i,g⟩,hi,XC,JE,b,hb⟩ ih;simp only at hi XC JE hb;dsimp only;by_cases c1:i=s.length
 ·clear ih;subst c1;rw[List.take_length] at XC JE;refine AJ ?_;refine .rt hK func248 results248 [_] ?_;exact fun H' hs=> ⟨hs.base,g,rfl,⟨XC,JE,b,hb⟩,fun x hx=> ⟨hs.at_ x hx,hs.out x hx⟩⟩
 ·have c2:i<s.length:=by omega
  have hx:s[((i:Nat):Int).toNat]? =some s[i]:=by rw[Int.toNat_natCast,List.getElem?_eq_getElem c2]
  have wG:=cK y s[i] (s.take i);rw[<-List.take_succ_eq_append_getElem c2] at wG;have hbound:(mA y (s.take i)).length<=i+1:=by
   rw[kB];have h1:(s.take i).count y<=(s.take i).length:=List.count_le_length;rw[List.length_take] at h1;omega
  by_cases c3:s[i]=y
  ·have e1:iA .eql .u8 ((s[i].toNat:Nat):Int) ((y.toNat:Nat):Int)=some (.bool true):=wE (by rw[c3]);rw[if_pos c3] at wG;refine U25 ?_;refine .e (.bs (zz:=fun bs=> ?_));refine .e (Or.append (E:=en) 1 rfl rfl rfl rfl rfl rfl rfl rfl rfl rfl rfl rfl rfl rfl rfl (fun H hs=> RA.of (hs.get (i:=0) rfl) Nb) rfl oM rfl dE (fun g3 AN EJ=> ?_));refine U8 ?_;have hb3:∃b,g3.blk=some b:=by
    cases h:g3.blk with
    | some b=> exact⟨b,rfl⟩
    | none=> have:=g3.h0 h;have:=g3.hc;omega
   exact Tc.db (ih ⟨(i+1,g3),by simp only;omega,by simp only;rw[wG,AN,XC];simp,by simp only;rw[wG,EJ,JE,eC];rfl,hb3⟩ Ob)
  ·have hxy:¬((s[i].toNat:Nat):Int)=((y.toNat:Nat):Int):=fun e=> c3 (UInt8.toNat_inj.1 oM);have e1:iA .eql .u8 ((s[i].toNat:Nat):Int) ((y.toNat:Nat):Int)=some (.bool false):=IC hxy;rw[if_neg c3] at wG;obtain⟨l,p,hlp⟩:∃l p,mA y (s.take i)=l++[p]:=⟨(mA y (s.take i)).dropLast,(mA y (s.take i)).getLast (kF _ _),(List.dropLast_concat_getLast _).symm⟩
   have TZ:p.length<=1000000:=by
    have h1:=qC y (s.take i) p (by rw[hlp];simp);rw[List.length_take] at h1;omega
   rw[hlp] at wG XC JE hbound;rw[List.dropLast_concat,List.getLast?_concat,Option.getD_some] at wG;simp only[List.length_append,List.length_cons,List.length_nil] at XC hbound;have hv:g.val=.slice (some ⟨b,0,none⟩) g.n g.cap:=by unfold Gl.val;rw[hb];rfl
   have vJ:g.bl= [Bb b (g.l++g.jB) 9]:=by unfold Gl.bl;rw[hb]
   have a1:iA .sub .i64 ((g.n:Nat):Int) 1=some (.int .i64 ((l.length:Nat):Int)):=by
    rw[XC];exact(pH oM oM).trans (by congr 2;omega)
   have a2:iA .add .i64 ((i:Nat):Int) 1=some (.int .i64 ((i+1:Nat):Int)):=pB oM oM;have t1:(s.drop ((i:Nat):Int).toNat).take (((i+1:Nat):Int).toNat-((i:Nat):Int).toNat)= [s[i]]:=by
    rw[Int.toNat_natCast,Int.toNat_natCast,show i+1-i=1 by omega,List.drop_eq_getElem_cons c2];rfl
   have f1:zE false 1 (g.l++g.jB) (0+((l.length:Nat):Int).toNat*1)=some (bA p):=by
    show(g.l++g.jB)[0+((l.length:Nat):Int).toNat*1]? =_;rw[Int.toNat_natCast,Nat.zero_add,Nat.mul_one,JE,eC,List.append_assoc,List.getElem?_append_right (by rw[VB];exact Nat.le_refl _),VB,Nat.sub_self];rfl
   have aC:∀z:By,wH (g.l++g.jB) (0+((l.length:Nat):Int).toNat*1) [bA z]=zA (l++[z])++g.jB:=fun z=> by
    rw[Int.toNat_natCast,Nat.zero_add,Nat.mul_one,JE,eC,List.append_assoc,eC,List.append_assoc];unfold wH;rw[<-VB l,List.take_left,List.drop_append];have e1:(zA l).length+[bA z].length-(zA l).length=1:=by simp
    rw[List.drop_of_length_le (by simp),e1];simp[zA]
   have aHM:Nat.ble (0+((l.length:Nat):Int).toNat*1+1) (g.l++g.jB).length=true:=by
    have h1:g.l.length=l.length+1:=by rw[JE,VB];simp
    rw[Int.toNat_natCast,Nat.zero_add,Nat.mul_one,List.length_append,h1];exact Nat.ble_eq_true_of_le oM
   have pM:wH (g.l++g.jB) (0+((l.length:Nat):Int).toNat*1) [bA (p++(s.drop ((i:Nat):Int).toNat).take (((i+1:Nat):Int).toNat-((i:Nat):Int).toNat))]=zA (l++[p++[s[i]]])++g.jB:=by rw[t1,aC]
   clear aC t1;rw[hv,vJ];refine U30 ?_;refine Tc.dr [13] [0] mixed rfl ?_;refine iZ 0 ?_;refine .q 10 rfl (pA.pD (E:=en) rfl rfl rfl rfl rfl rfl oM oM oM) ?_;refine .q 11 rfl (pA.LB rfl rfl rfl (by exact UB (by simp <;> omega))) ?_;refine .nn 12 ?_;refine .e 13 0 ?_;refine .dn ?_;refine U6 ?_;obtain⟨g3,Q7⟩:∃g3:Gl 9 1,g3=⟨some b,g.n,g.cap,zA (l++[p++[s[i]]]),g.jB,by rw[VB,XC];simp,g.hc,g.hj,fun h=> nomatch h⟩:=⟨_,rfl⟩
   have hr:=ih ⟨(i+1,g3),by simp only;omega,by simp only;rw[wG,Q7];simp[XC],by simp only;rw[wG,Q7],b,by simp only;rw[Q7]⟩ Ob;have hv3:g3.val=.slice (some ⟨b,0,none⟩) g.n g.cap:=by rw[Q7];rfl
   have aGU:g3.bl= [Bb b (zA (l++[p++[s[i]]])++g.jB) 9]:=by rw[Q7];rfl
   simp only[hv3,aGU] at hr;exact Tc.db (hr)
end
def w5(P:List By)(x:Nat×Nat×List Value):Value:=.slice (some ⟨x.1,0,none⟩) P.length x.2.1
def yL(P:List By)(x:Nat×Nat×List Value):Bl:= [Bb x.1 (zA P++x.2.2) 9]
theorem lB(P:List By)(x:Nat×Nat×List Value):((yL P x).map (·.1)).Nodup:=by simp[yL]
theorem ZZ {P:List By}{i:Nat}{y:By}(J:List Value)(h:P[i]? =some y):zE false 1 (zA P++J) (0+((i:Nat):Int).toNat*1)=some (bA y):=by
 have hi:=(List.getElem?_eq_some_iff.1 h).1;show(zA P++J)[0+((i:Nat):Int).toNat*1]? =_;rw[Int.toNat_natCast,Nat.zero_add,Nat.mul_one,List.getElem?_append_left (by rw[VB];exact hi)];unfold zA;rw[List.getElem?_map,h];rfl
theorem nO {P:List By}(h: []∈P):∃j:Nat,P[j]? =some []/\∀i:Nat,i<j->∃y:By,P[i]? =some y/\y≠ []:=by
 obtain⟨a,b,rfl,h0⟩:=List.eq_append_cons_of_mem h;refine⟨a.length,by rw[List.getElem?_append_right (Nat.le_refl _)];simp,fun i hi=> ⟨a[i]'hi,?_,fun e=> h0 (by rw[<-e];exact List.getElem_mem hi)⟩⟩;rw[List.getElem?_append_left hi,List.getElem?_eq_getElem hi]
theorem MM {y:By}(h:y≠ []):RL.LB .eql y []=some (.bool false):=by
 show some (Value.bool (y== []))=_;rw[beq_eq_false_iff_ne.2 h]
section
variable(M:Md prog)(H:View)
theorem FI(s:By)(y:UInt8)(hm:s.length<=1000000):
  fA M 248 #[bA s,.int .u8 (y.toNat:Nat)] H (fun v H'=> H.le H'/\∃x,v=w5 (mA y s) x/\(mA y s).length<=x.2.1/\∀z∈yL (mA y s) x,H' z.1=some z.2/\H z.1=none):=
 fA.mono (aBK M H s y hm) fun v H' hv=> by
  obtain⟨h1,g,rfl,⟨h2,h3,b,h4⟩,h5⟩:=hv;refine⟨h1,(b,g.cap,g.jB),?_,by rw[<-h2];exact g.hc,fun z hz=> h5 z ?_⟩
  ·unfold Gl.val w5;rw[h4,h2];rfl
  ·unfold Gl.bl;rw[h4,h3];exact hz
theorem U0(s:By)(hm:s.length<=1000000)(h: []∈mA 59 s):fA M 183 #[bA s] H (Ib H (.tuple ⟨[bA [],.slice none 0 0,.bool false]⟩)):=by
 have hp:=fun H=> FI M H s 59 hm;have hlen:(mA 59 s).length<=1000001:=by
  have h1:=kB 59 s;have h2:s.count 59<=s.length:=List.count_le_length;omega
 obtain⟨j,hj,KB⟩:=nO h;have rR:=(List.getElem?_eq_some_iff.1 hj).1;generalize mA 59 s=P at hp hj KB hlen rR;clear h;refine .en func183 ntmps183 fun St c cs hK=> ?_;refine U9 ?_;refine .e (Or.xA (w5 P) (yL P) (fun x=> P.length<=x.2.1) rfl rfl rfl rfl rfl dE (lB P) (fun H hs=> .h (hp H)) (fun x hx=> ?_));refine U8 ?_;obtain⟨b,cap,J⟩:=x;simp only at hx;refine Tc.db (Tc.qA (σ:= { i:Nat//i<=j }) (fun i=> ([(5,.sl b P.length cap),(6,.nt i.1)],[Bb b (zA P++J) 9])) (fun i=> j-i.1) ?_ ⟨0,Nat.zero_le _⟩);rintro⟨i,hi⟩ ih;dsimp only;by_cases c1:i=j
 ·clear ih;subst c1;have f1:=ZZ J hj;refine U27 ?_;refine .rt hK func183 results183 [_,_,_] ?_;exact okB
 ·obtain⟨y,hy,aB⟩:=KB i oM;have f1:=ZZ J hy;have e1:=MM aB;refine U28 ?_;exact Tc.db (ih ⟨i+1,oM⟩ Ob)
def pW(c:Nat):Nat:=if c=1 then 0 else 1
def fiV(w:By)(l:List By)(x:Nat×Nat×List Value):Value:=.tuple ⟨[bA w,.slice (some ⟨x.1,pW x.2.1,none⟩) l.length (x.2.1-1),.bool (decide (1<l.length+1))]⟩
theorem IL(s:By)(hm:s.length<=1000000)(w:By)(l:List By)(hP:mA 59 s=w::l)(h:∀y∈w::l,y≠ []):
  fA M 183 #[bA s] H (fun v H'=> H.le H'/\∃x,v=fiV w l x/\l.length+1<=x.2.1/\∀z∈yL (w::l) x,H' z.1=some z.2/\H z.1=none):=by
 have hp:=fun H=> FI M H s 59 hm;have hlen:(mA 59 s).length<=1000001:=by
  have h1:=kB 59 s;have h2:s.count 59<=s.length:=List.count_le_length;omega
 rw[hP] at hp hlen;simp only[List.length_cons] at hlen;refine .en func183 ntmps183 fun St c cs hK=> ?_;refine U9 ?_;refine .e (Or.xA (w5 (w::l)) (yL (w::l)) (fun x=> (w::l).length<=x.2.1) rfl rfl rfl rfl rfl dE (lB (w::l)) (fun H hs=> .h (hp H)) (fun x hx=> ?_));refine U8 ?_;obtain⟨b,cap,J⟩:=x;simp only[List.length_cons] at hx;refine Tc.db (Tc.qA (σ:= { i:Nat//i<=l.length+1 }) (fun i=> ([(5,.sl b (l.length+1) cap),(6,.nt i.1)],[Bb b (zA (w::l)++J) 9])) (fun i=> l.length+1-i.1) ?_ ⟨0,Nat.zero_le _⟩);rintro⟨i,hi⟩ ih;dsimp only;by_cases c1:i=l.length+1
 ·clear ih;subst c1;have f0:zE false 1 (zA (w::l)++J) (0+(0:Int).toNat*1)=some (bA w):=ZZ (i:=0) J rfl;have e1:iA .gtr .i64 ((l.length+1:Nat):Int) 1=some (.bool (decide (1<l.length+1))):=by
   by_cases c:1<l.length+1
   ·rw[decide_eq_true c];exact tG oM
   ·rw[decide_eq_false c];exact sG oM
  have xJ:if((cap:Nat):Int)=1 then pW cap=0 else pW cap=0+(1:Int).toNat*1:=by
   unfold pW;split
   ·rename_i e;rw[if_pos oM]
   ·rename_i e;rw[if_neg oM];rfl
  refine ND ?_;refine Tc.dr [] [] mixed rfl ?_;refine V4 0 ?_;refine .q 4 rfl (pA.slice (E:=en) (l:=1) (h:=(l.length+1:Nat)) rfl rfl rfl rfl rfl rfl rfl rfl oM oM oM xJ) ?_;refine V6 5 ?_;refine .dn ?_;refine .rt hK func183 results183 [_,_,_] ?_;refine fun H' hs=> ⟨hs.base,(b,cap,J),?_,hx,fun z hz=> ⟨hs.at_ z hz,hs.out z hz⟩⟩
  unfold fiV;rfl
 ·have c2:i<(w::l).length:=by rw[List.length_cons];omega
  have f1:=ZZ J (List.getElem?_eq_getElem c2);have e1:=MM (h _ (List.getElem_mem c2));generalize (w::l)[i]=y at f1 e1;refine U28 ?_;exact Tc.db (ih ⟨i+1,oM⟩ Ob)
end
theorem bS {z:Int}(h:0<=z/\z<=2):sB (kA (fun i=> ([YM,WM,XM][i]?.getD [])==EB z) 3)=z:=by
 have:z=0\/z=1\/z=2:=by omega
 rcases this with rfl|rfl|rfl <;> decide
theorem xR {s:By}(h:MB s=none):sB (kA (fun i=> ([YM,WM,XM][i]?.getD [])==s) 3)= -1:=by
 have e:(fun i:Nat=> ([YM,WM,XM][i]?.getD [])==s)=fun i:Nat=> s==([YM,WM,XM][i]?.getD []):=by
  funext i
  exact Bool.beq_comm
 rw[e];exact ZL h
def wdV(P:List By)(x:Nat×Nat×List Value):Value:=.tuple ⟨[w5 P x,.bool true]⟩
section
variable(M:Md prog)(H:View)
theorem MH:fA M 98 #[] H (fun v H'=> H.le H'/\∃b,v=.slice (some ⟨b,0,none⟩) 3 3/\H' b=some (true,.cells ⟨[bA YM,bA WM,bA XM]⟩ 9 (0,0))):=by
 refine .en func98 ntmps98 fun St c cs hK=> ?_;refine U6 ?_;refine .e (.bs (zz:=fun b1=> ?_));refine U2 ?_;refine .rt hK func98 results98 [_] ?_;exact fun H' hs=> ⟨hs.base,b1,rfl,hs.get (i:=0) rfl⟩
theorem X0:fA M 249 #[bA HY] H (Ib H (.tuple ⟨[.slice none 0 0,.bool true]⟩)):=by
 refine .en func249 ntmps249 fun St c cs hK=> ?_;refine II ?_;refine .rt hK func249 results249 [_,_] ?_;exact okB
theorem u6(s:By)(hm:s.length<=1000000)(hn:s≠HY)(h: []∈mA 44 s):fA M 249 #[bA s] H (Ib H (.tuple ⟨[.slice none 0 0,.bool false]⟩)):=by
 have hp:=fun H=> FI M H s 44 hm;have e0:RL.LB .eql s [110,105,108]=some (.bool false):=by
  show some (Value.bool (s==HY))=_;rw[beq_eq_false_iff_ne.2 hn]
 have hlen:(mA 44 s).length<=1000001:=by
  have h1:=kB 44 s;have h2:s.count 44<=s.length:=List.count_le_length;omega
 obtain⟨j,hj,KB⟩:=nO h;have rR:=(List.getElem?_eq_some_iff.1 hj).1;generalize mA 44 s=P at hp hj KB hlen rR;clear h;refine .en func249 ntmps249 fun St c cs hK=> ?_;refine LI ?_;refine .e (Or.xA (w5 P) (yL P) (fun x=> P.length<=x.2.1) rfl rfl rfl rfl rfl dE (lB P) (fun H hs=> .h (hp H)) (fun x hx=> ?_));refine U8 ?_;obtain⟨b,cap,J⟩:=x;simp only at hx;refine Tc.db (Tc.qA (σ:= { i:Nat//i<=j }) (fun i=> ([(4,.sl b P.length cap),(5,.nt i.1)],[Bb b (zA P++J) 9])) (fun i=> j-i.1) ?_ ⟨0,Nat.zero_le _⟩);rintro⟨i,hi⟩ ih;dsimp only;by_cases c1:i=j
 ·clear ih;subst c1;have f1:=ZZ J hj;refine U26 ?_;refine .rt hK func249 results249 [_,_] ?_;exact okB
 ·obtain⟨y,hy,aB⟩:=KB i oM;have f1:=ZZ J hy;have e1:=MM aB;refine U28 ?_;exact Tc.db (ih ⟨i+1,oM⟩ Ob)
theorem jZ(s:By)(hm:s.length<=1000000)(hn:s≠HY)(h:∀y∈mA 44 s,y≠ []):fA M 249 #[bA s] H (fun v H'=> H.le H'/\∃x,v=wdV (mA 44 s) x/\(mA 44 s).length<=x.2.1/\∀z∈yL (mA 44 s) x,H' z.1=some z.2/\H z.1=none):=by
 have hp:=fun H=> FI M H s 44 hm;have e0:RL.LB .eql s [110,105,108]=some (.bool false):=by
  show some (Value.bool (s==HY))=_;rw[beq_eq_false_iff_ne.2 hn]
 have hlen:(mA 44 s).length<=1000001:=by
  have h1:=kB 44 s;have h2:s.count 44<=s.length:=List.count_le_length;omega
 generalize mA 44 s=P at hp hlen h;refine .en func249 ntmps249 fun St c cs hK=> ?_;refine LI ?_;refine .e (Or.xA (w5 P) (yL P) (fun x=> P.length<=x.2.1) rfl rfl rfl rfl rfl dE (lB P) (fun H hs=> .h (hp H)) (fun x hx=> ?_));refine U8 ?_;obtain⟨b,cap,J⟩:=x;simp only at hx;refine Tc.db (Tc.qA (σ:= { i:Nat//i<=P.length }) (fun i=> ([(4,.sl b P.length cap),(5,.nt i.1)],[Bb b (zA P++J) 9])) (fun i=> P.length-i.1) ?_ ⟨0,Nat.zero_le _⟩);rintro⟨i,hi⟩ ih;dsimp only;by_cases c1:i=P.length
 ·clear ih;subst c1;refine LI ?_;refine .rt hK func249 results249 [_,_] ?_;exact fun H' hs=> ⟨hs.base,(b,cap,J),rfl,hx,fun z hz=> ⟨hs.at_ z hz,hs.out z hz⟩⟩
 ·have c2:i<P.length:=by omega
  have f1:=ZZ J (List.getElem?_eq_getElem c2);have e1:=MM (h _ (List.getElem_mem c2));generalize P[i]=y at f1 e1;refine U28 ?_;exact Tc.db (ih ⟨i+1,oM⟩ Ob)
def frV(g:Gl 110 1):Value:=.tuple ⟨[g.val,.bool true]⟩
theorem u4(s:By)(hm:s.length<=1000000)(ws:List Int)(h:xE s=some ws):
  fA M 184 #[bA s] H (fun v H'=> H.le H'/\∃g:Gl 110 1,v=frV g/\(g.n=ws.length/\g.l=QB ws)/\∀x∈g.bl,H' x.1=some x.2/\H x.1=none):=by
 unfold xE at h;split at h
 ·cases h
  rename_i e
  subst e;refine .en func184 ntmps184 fun St c cs hK=> ?_;refine U8 ?_;refine .cl (fun H hs=> X0 M H) ?_;refine LI ?_;refine Tc.db (Tc.qA (σ:=Unit) (fun _=> ([(4,.slice none 0 0),(5,.bool true),(6,.slice none 0 0),(7,.nt 0)],[])) (fun _=> 0) ?_ ());intro _ ih;clear ih;show Tc M St _ _ _ _ [(4,.slice none 0 0),(5,.bool true),(6,.slice none 0 0),(7,.nt 0)] [] _ _;refine II ?_;refine .rt hK func184 results184 [_,_] ?_;exact fun H' hs=> ⟨hs.base,Gl.nil 110 1,rfl,⟨rfl,rfl⟩,fun x hx=> nomatch hx⟩
 ·rename_i iG
  obtain⟨hP,hw⟩:=SF h;have aB:∀y∈mA 44 s,y≠ []:=fun y hy e=> by
   rw[hP] at hy;obtain⟨z,_,rfl⟩:=List.mem_map.1 hy;have:=KP z;rw[e] at this;simp at this
  have N2:=fun H=> jZ M H s hm iG aB;have hlen:(mA 44 s).length<=1000001:=by
   have h1:=kB 44 s;have h2:s.count 44<=s.length:=List.count_le_length;omega
  have D2:(mA 44 s).length=ws.length:=by rw[hP,List.length_map]
  have hPi:∀i,(hi:i<ws.length)->(mA 44 s)[i]? =some (EB ws[i]):=fun i hi=> by
   rw[hP,List.getElem?_map,List.getElem?_eq_getElem hi];rfl
  clear hP aB h;generalize mA 44 s=P at N2 hlen D2 hPi;refine .en func184 ntmps184 fun St c cs hK=> ?_;refine U8 ?_;refine .e (Or.xA (wdV P) (yL P) (fun x=> P.length<=x.2.1) rfl rfl rfl rfl rfl dE (lB P) (fun H hs=> .h (N2 H)) (fun x hx=> ?_));refine LI ?_;obtain⟨b,cap,J⟩:=x;simp only at hx;refine Tc.db (Tc.qA (σ:= { x:Nat×Gl 110 1//x.1<=ws.length/\x.2.n=x.1/\x.2.l=QB (ws.take x.1) }) (fun x=> ([(4,.sl b P.length cap),(5,.bool true),(6,x.1.2.val),(7,.nt x.1.1)],[Bb b (zA P++J) 9]++x.1.2.bl)) (fun x=> ws.length-x.1.1) ?_ ⟨(0,Gl.nil 110 1),Nat.zero_le _,rfl,rfl⟩);rintro⟨⟨i,g⟩,hi,XC,JE⟩ ih;simp only at hi XC JE;dsimp only;by_cases c1:i=ws.length
  ·clear ih;subst c1;rw[List.take_length] at JE;refine II ?_;refine .rt hK func184 results184 [_,_] ?_;exact fun H' hs=> ⟨hs.base,g,rfl,⟨XC,JE⟩,fun x hx=> ⟨hs.at_ x (List.mem_append_right _ hx),hs.out x (List.mem_append_right _ hx)⟩⟩
  ·have c2:i<ws.length:=by omega
   have hz:=hw _ (List.getElem_mem c2);have f1:=ZZ J (hPi i c2);have cI:=fun(H':View) (b':Nat) (h':H' b'=some (true,.cells ⟨[bA YM,bA WM,bA XM]⟩ 9 (0,0)))=> tK M H' (some ⟨b',0,none⟩) 3 3 (fun i=> [YM,WM,XM][i]?.getD []) (CB (P:= [YM,WM,XM]) (jj:= []) h') dE (EB ws[i]);rw[bS hz] at cI;have g1:iA .lss .i64 ws[i] 0=some (.bool false):=GH oM;have wG:QB (ws.take (i+1))=QB (ws.take i)++[.iz ws[i]]:=by unfold QB;rw[List.take_succ_eq_append_getElem c2,List.map_append];rfl
   obtain⟨z,TV⟩:∃z,z=ws[i]:=⟨_,rfl⟩
   rw[<-TV] at hz f1 cI g1 wG;clear TV;refine JG ?_;refine Tc.dr [] [] mixed rfl ?_;refine V4 1 ?_;refine Ta.WL 0 kR rfl rfl rfl rfl rfl rfl rfl dE (WB.h (MH M H)) (by intro _ _ hh;exact hh.1) sL (.inr sL) (fun v H₂ hv=> ?_);obtain⟨hle,cb,rfl,hb⟩:=hv;refine .ea 5 rfl (Or.R3 (pA.tk fun H hs=> cI H cb (hs.base _ _ hb)) rfl dE ⟨S2.bP (by assumption) sL (.inr sL),?_⟩);refine .ea 6 rfl (Or.uS .sg rfl dE ⟨S2.bP (by assumption) sL (.inr sL),?_⟩);refine .dn ?_;refine Tc.lower hle ?_;refine ND ?_;refine .e (.bs (zz:=fun bs=> ?_));refine .e (Or.append (E:=en) 2 rfl rfl rfl rfl rfl rfl rfl rfl rfl rfl rfl rfl rfl rfl rfl (fun H hs=> RA.of (hs.get (i:=0) rfl) Nb) rfl oM rfl dE (fun g3 AN EJ=> ?_));refine U8 ?_;exact Tc.db (ih ⟨(i+1,g3),by simp only;omega,by simp only;omega,by simp only;rw[EJ,JE,wG];rfl⟩ Ob)
end
theorem ES {s:By}(h:XA s [45]=false):zB 45 s=s:=by
 unfold zB;rw[h];rfl
theorem eV(s:By):XA s [45]=(s[0]? ==some 45):=by
 cases s with
 | nil=> rfl
 | cons x l=>
  unfold XA;simp only[List.length_cons,List.length_nil,List.getElem?_cons_zero];by_cases h:x=45
  ·subst h;simp
  ·have e:(x==45)=false:=beq_eq_false_iff_ne.2 h;simp[e]
theorem zZ:∀(l:By) (n:Nat),n<=l.foldl (fun n x=> 10*n+(x.toNat-48)) n
 | [],n=> Nat.le_refl _
 | x::l,n=> by
  have:=zZ l (10*n+(x.toNat-48));rw[List.foldl_cons];omega
theorem Q3(d:By):PA (45::d)=(PA d&&decide (0<numOf d))/\(PA (45::d)=true->numOf (45::d)= -(numOf d)):=by
 have hb:XA (45::d) [45]=true:=by rw[eV];rfl
 have hu:zB 45 (45::d)=d:=by unfold zB;rw[hb];rfl
 cases hd:XA d [45] with
 | true=>
  obtain⟨e,rfl⟩:=WE hd;have h1:PA (45::45::e)=false:=by
   unfold PA;rw[hu];have:(45::e).all OC=false:=by simp[OC]
   rw[this];simp
  have h2:¬0<numOf (45::e):=by
   unfold numOf;rw[hd];simp only[if_true];omega
  rw[h1,decide_eq_false h2,Bool.and_false];exact⟨rfl,fun h=> by cases h⟩
 | false =>
  have hu2:=ES hd;have hn:numOf d=(wB d:Nat):=by unfold numOf;rw[hd,hu2];rfl
  have dI:numOf (45::d)= -((wB d:Nat):Int):=by unfold numOf;rw[hb,hu];rfl
  refine⟨?_,fun _=> by rw[hn,dI]⟩;unfold PA;rw[hu,hu2,hb,hd,hn];by_cases c1:1<=d.length/\d.length<=9
  ·rw[decide_eq_true c1,Bool.true_and];cases c2:d.all OC with
   | false=> simp
   | true=>
    simp only[Bool.true_and,Bool.not_true,Bool.and_false,Bool.or_false,Bool.not_false,Bool.and_true];obtain⟨x,l,rfl⟩:∃x l,d=x::l:=by
     cases d with
     | nil=> simp at c1
     | cons x l=> exact⟨x,l,rfl⟩
    simp only[List.getElem?_cons_zero,Option.getD_some];have hx:48<=x.toNat:=by
     have:=List.all_eq_true.1 c2 x List.mem_cons_self;exact(of_decide_eq_true this).1
    have AU:x.toNat-48<=wB (x::l):=by
     have:=zZ l (10*0+(x.toNat-48));unfold wB;rw[List.foldl_cons];omega
    by_cases hx0:x=48
    ·subst hx0;cases l with
     | nil=> rfl
     | cons a l=> simp
    ·have h48:x.toNat≠48:=fun e=> hx0 (UInt8.toNat_inj.1 e);have h1:(x !=48)=true:=by simpa using hx0
     rw[h1,decide_eq_true oM];rfl
  ·rw[decide_eq_false c1];simp
section
variable(M:Md prog)(H:View)
theorem zY(s:By)(hm:s.length<=1000000)(h:xE s=none):fA M 184 #[bA s] H (Ib H (.tuple ⟨[.slice none 0 0,.bool false]⟩)):=by
 unfold xE at h;split at h
 ·cases h
 rename_i iG
 obtain⟨ws,y,r,hP,hy,hw⟩:=XH h;by_cases he: []∈mA 44 s
 ·have N2:=fun H=> u6 M H s hm iG he;refine .en func184 ntmps184 fun St c cs hK=> ?_;refine U8 ?_;refine .cl (fun H hs=> N2 H) ?_;refine LI ?_;refine Tc.db (Tc.qA (σ:=Unit) (fun _=> ([(4,.slice none 0 0),(5,.bool false),(6,.slice none 0 0),(7,.nt 0)],[])) (fun _=> 0) ?_ ());intro _ ih;clear ih;show Tc M St _ _ _ _ [(4,.slice none 0 0),(5,.bool false),(6,.slice none 0 0),(7,.nt 0)] [] _ _;refine II ?_;refine .rt hK func184 results184 [_,_] ?_;exact okB
 ·have N2:=fun H=> jZ M H s hm iG (fun y hy e=> he (e▸hy));have hlen:(mA 44 s).length<=1000001:=by
   have h1:=kB 44 s;have h2:s.count 44<=s.length:=List.count_le_length;omega
  have D2:(mA 44 s).length=ws.length+1+r.length:=by rw[hP];simp;omega
  have hPy:(mA 44 s)[ws.length]? =some y:=by rw[hP,List.getElem?_append_right (by simp)];simp
  have hPi:∀i,(hi:i<ws.length)->(mA 44 s)[i]? =some (EB ws[i]):=fun i hi=> by
   rw[hP,List.getElem?_append_left (by simpa using hi),List.getElem?_map,List.getElem?_eq_getElem hi];rfl
  clear hP he h;generalize mA 44 s=P at N2 hlen D2 hPi hPy;refine .en func184 ntmps184 fun St c cs hK=> ?_;refine U8 ?_;refine .e (Or.xA (wdV P) (yL P) (fun x=> P.length<=x.2.1) rfl rfl rfl rfl rfl dE (lB P) (fun H hs=> .h (N2 H)) (fun x hx=> ?_));refine LI ?_;obtain⟨b,cap,J⟩:=x;simp only at hx;refine Tc.db (Tc.qA (σ:= { x:Nat×Gl 110 1//x.1<=ws.length/\x.2.n=x.1 }) (fun x=> ([(4,.sl b P.length cap),(6,x.1.2.val),(7,.nt x.1.1)],[Bb b (zA P++J) 9]++x.1.2.bl)) (fun x=> ws.length-x.1.1) ?_ ⟨(0,Gl.nil 110 1),Nat.zero_le _,rfl⟩);rintro⟨⟨i,g⟩,hi,XC⟩ ih;simp only at hi XC;dsimp only;by_cases c1:i=ws.length
  ·clear ih;have f1:=ZZ J hPy;rw[<-c1] at f1;have cI:=fun(H':View) (b':Nat) (h':H' b'=some (true,.cells ⟨[bA YM,bA WM,bA XM]⟩ 9 (0,0)))=> tK M H' (some ⟨b',0,none⟩) 3 3 (fun i=> [YM,WM,XM][i]?.getD []) (CB (P:= [YM,WM,XM]) (jj:= []) h') dE y;rw[xR hy] at cI;refine JG ?_;refine Tc.dr [] [] mixed rfl ?_;refine V4 1 ?_;refine Ta.WL 0 kR rfl rfl rfl rfl rfl rfl rfl dE (WB.h (MH M H)) (by intro _ _ hh;exact hh.1) sL (.inr sL) (fun v H₂ hv=> ?_);obtain⟨hle,cb,rfl,hb⟩:=hv;refine .ea 5 rfl (Or.R3 (pA.tk fun H hs=> cI H cb (hs.base _ _ hb)) rfl dE ⟨S2.bP (by assumption) sL (.inr sL),?_⟩);refine .ea 6 rfl (Or.uS .sg rfl dE ⟨S2.bP (by assumption) sL (.inr sL),?_⟩);refine .dn ?_;refine Tc.lower hle ?_;refine uH ?_;refine .rt hK func184 results184 [_,_] ?_;exact okB
  ·have c2:i<ws.length:=by omega
   have hz:=hw _ (List.getElem_mem c2);have f1:=ZZ J (hPi i c2);have cI:=fun(H':View) (b':Nat) (h':H' b'=some (true,.cells ⟨[bA YM,bA WM,bA XM]⟩ 9 (0,0)))=> tK M H' (some ⟨b',0,none⟩) 3 3 (fun i=> [YM,WM,XM][i]?.getD []) (CB (P:= [YM,WM,XM]) (jj:= []) h') dE (EB ws[i]);rw[bS hz] at cI;have g1:iA .lss .i64 ws[i] 0=some (.bool false):=GH oM;obtain⟨z,TV⟩:∃z,z=ws[i]:=⟨_,rfl⟩
   rw[<-TV] at hz f1 cI g1;clear TV;refine JG ?_;refine Tc.dr [] [] mixed rfl ?_;refine V4 1 ?_;refine Ta.WL 0 kR rfl rfl rfl rfl rfl rfl rfl dE (WB.h (MH M H)) (by intro _ _ hh;exact hh.1) sL (.inr sL) (fun v H₂ hv=> ?_);obtain⟨hle,cb,rfl,hb⟩:=hv;refine .ea 5 rfl (Or.R3 (pA.tk fun H hs=> cI H cb (hs.base _ _ hb)) rfl dE ⟨S2.bP (by assumption) sL (.inr sL),?_⟩);refine .ea 6 rfl (Or.uS .sg rfl dE ⟨S2.bP (by assumption) sL (.inr sL),?_⟩);refine .dn ?_;refine Tc.lower hle ?_;refine ND ?_;refine .e (.bs (zz:=fun bs=> ?_));refine .e (Or.append (E:=en) 2 rfl rfl rfl rfl rfl rfl rfl rfl rfl rfl rfl rfl rfl rfl rfl (fun H hs=> RA.of (hs.get (i:=0) rfl) Nb) rfl oM rfl dE (fun g3 AN EJ=> ?_));refine U8 ?_;exact Tc.db (ih ⟨(i+1,g3),by simp only;omega,by simp only;omega⟩ Ob)
theorem fZ (s :By)(hm:s.length<=1000000)(hs:s.length<=1\/∃x0,s[(0:Int).toNat]? =some x0/\x0≠45):fA M 250 #[bA s] H (fun v H'=> H.le H'/\∃n:Int,v=.tuple ⟨[.iz n,.bool (PA s)]⟩/\(-1000000000<=n/\n<=1000000000)/\(PA s=true->n=numOf s)):=by
 have cQ:PA s=(decide (1<=s.length/\s.length<=9)&&s.all OC&&(s[0]?.getD 0 !=48||s.length==1))/\numOf s=(wB s:Nat)\/s= [45]:=by
  cases hb:XA s [45] with
  | false=>
   left
   unfold PA numOf;rw[hb,ES hb];exact⟨by simp,rfl⟩
  | true=>
   right
   obtain⟨q,rfl⟩:=WE hb;rcases hs with hs|⟨x0,h1,h2⟩
   ·obtain rfl:q= []:=List.length_eq_zero_iff.1 (by rw[List.length_cons] at hs;omega);rfl
   ·cases h1
    exact(h2 rfl).elim
 rcases cQ with ⟨QC,CR⟩|rfl
 ·by_cases c9 : 1<=s.length/\s.length<=9
  ·rw[decide_eq_true c9,Bool.true_and] at QC;have e0:s[(0:Int).toNat]? =some (s[0]?.getD 0):=by
    show s[0]? =_;rw[List.getElem?_eq_getElem oM];rfl
   by_cases c1:s.length=1
   ·have AV:(s.length==1)=true:=by rw[c1];rfl
    rw[AV,Bool.or_true,Bool.and_true] at QC;have g1:iA .gtr .i64 ((s.length:Nat):Int) 1=some (.bool false):=sG oM;by_cases cd:s.all OC=true
    ·have aC6:PA s=true:=QC.trans cd;have DT:∀i,i<s.length->(h:i<s.length)->OC s[i]=true:=fun i _ h=> List.all_eq_true.1 cd _ (List.getElem_mem h);have BT:∀i,i<=s.length->wB (s.take i)<1000000000:=fun i hi=> by
      have h1:=XG cd i hi;have h2:10 ^ i<=10 ^ 9:=Nat.pow_le_pow_right oM oM;omega
     have P7:=BT s.length (Nat.le_refl _);rw[List.take_length] at P7;refine .en func250 ntmps250 fun St c cs hK=> ?_;refine PO ?_;refine .cl (fun H hs=> VH M H (s.length:Nat) 1 9 true (by exact decide_eq_true oM)) ?_;refine PO ?_;refine Tc.db (Tc.qA (σ:= { i:Nat//i<=s.length }) (fun i=> ([(0,bA s),(6,.iz (wB (s.take i.1):Nat)),(7,.nt i.1)],[])) (fun i=> s.length-i.1) ?_ ⟨0,Nat.zero_le _⟩);rintro⟨i,hi⟩ ih;dsimp only;by_cases c1:i=s.length
     ·clear ih;subst c1;rw[List.take_length];refine LI ?_;refine .rt hK func250 results250 [_,_] ?_;rw[aC6];exact fun H' hs=> ⟨hs.base,_,rfl,oM,fun _=> CR.symm⟩
     ·have c2:i<s.length:=by omega
      have hd:OC s[i]=true:=DT i oM c2;have hx:s[((i:Nat):Int).toNat]? =some s[i]:=by rw[Int.toNat_natCast,List.getElem?_eq_getElem c2]
      have KB:=BT i oM;have wG:wB (s.take (i+1))=10*wB (s.take i)+(s[i].toNat-48):=by rw[List.take_succ_eq_append_getElem c2,XE]
      generalize s[i]=y2 at hx hd wG;have hd2:=of_decide_eq_true (show decide (48<=y2.toNat/\y2.toNat<58)=true from hd);obtain⟨w,hw⟩:∃w:Nat,w=y2.toNat-48:=⟨_,rfl⟩
      obtain⟨dv,hdv⟩:∃dv,dv=wB (s.take i):=⟨_,rfl⟩
      rw[<-hdv] at KB wG ⊢;have m0:IntKind.i64.wrap ((y2.toNat:Nat):Int)=((y2.toNat:Nat):Int):=wrap64 oM oM;have m1:iA .mul .i64 10 ((dv:Nat):Int)=some (.int .i64 ((10*dv:Nat):Int)):=(HD oM oM).trans (by rw[Int.natCast_mul];rfl);have m2:iA .add .i64 ((10*dv:Nat):Int) ((y2.toNat:Nat):Int)=some (.int .i64 ((10*dv+y2.toNat:Nat):Int)):=(pB oM oM).trans (by rw[Int.natCast_add]);have m3:iA .sub .i64 ((10*dv+y2.toNat:Nat):Int) 48=some (.int .i64 ((wB (s.take (i+1)):Nat):Int)):=(pH oM oM).trans (by congr 2;omega);refine fL ?_;refine .cl (fun H hs=> rF M H y2 true hd) ?_;refine fN ?_;exact Tc.db (ih ⟨i+1,oM⟩ Ob)
    ·have gB:PA s=false:=QC.trans (by simpa using cd);obtain⟨j,y,hj,hy,DT,rR⟩:∃(j:Nat) (y:UInt8),s[j]? =some y/\OC y=false/\(∀i,i<j->(h:i<s.length)->OC s[i]=true)/\j<s.length:=by
      have h1:(s.all OC)=false:=by simpa using cd
      clear QC CR hs e0 c9 c1 g1 AV;clear gB cd;induction s with
      | nil=> cases h1
      | cons a l ihl=>
       cases ha:OC a with
       | false=> exact⟨0,a,rfl,ha,fun i hi=> by omega,by simp⟩
       | true=>
        have h2:l.all OC=false:=by simpa [ha] using h1
        obtain⟨j,y,g1,g2,g3,g4⟩:=ihl (by simp at hm;omega) h2;refine⟨j+1,y,by simpa using g1,g2,fun i hi h=> ?_,by simpa using g4⟩;cases i with
        | zero=> exact ha
        | succ i=> exact g3 i oM (by simpa using h)
     have BT:∀i,i<=j->wB (s.take i)<1000000000:=fun i hi=> by
      have h0:(s.take i).all OC=true:=by
       rw[List.all_eq_true];intro x hx;obtain⟨q,hq,rfl⟩:=List.mem_iff_getElem.1 hx;rw[List.length_take] at hq;rw[List.getElem_take];exact DT q oM oM
      have h1:=XG h0 i (by rw[List.length_take];omega);rw[List.take_take,Nat.min_self] at h1;have h2:10 ^ i<=10 ^ 9:=Nat.pow_le_pow_right oM oM;omega
     refine .en func250 ntmps250 fun St c cs hK=> ?_;refine PO ?_;refine .cl (fun H hs=> VH M H (s.length:Nat) 1 9 true (by exact decide_eq_true oM)) ?_;refine PO ?_;refine Tc.db (Tc.qA (σ:= { i:Nat//i<=j }) (fun i=> ([(0,bA s),(6,.iz (wB (s.take i.1):Nat)),(7,.nt i.1)],[])) (fun i=> j-i.1) ?_ ⟨0,Nat.zero_le _⟩);rintro⟨i,hi⟩ ih;dsimp only;by_cases c1:i=j
     ·clear ih;subst c1;have hx:s[((i:Nat):Int).toNat]? =some y:=hj;refine fL ?_;refine .cl (fun H hs=> rF M H y false hy) ?_;refine U8 ?_;refine .rt hK func250 results250 [_,_] ?_;rw[gB];exact fun H' hs=> ⟨hs.base,0,rfl,oM,fun h=> by cases h⟩
     ·have c2:i<s.length:=by omega
      have hd:OC s[i]=true:=DT i oM c2;have hx:s[((i:Nat):Int).toNat]? =some s[i]:=by rw[Int.toNat_natCast,List.getElem?_eq_getElem c2]
      have KB:=BT i oM;have wG:wB (s.take (i+1))=10*wB (s.take i)+(s[i].toNat-48):=by rw[List.take_succ_eq_append_getElem c2,XE]
      generalize s[i]=y2 at hx hd wG;have hd2:=of_decide_eq_true (show decide (48<=y2.toNat/\y2.toNat<58)=true from hd);obtain⟨w,hw⟩:∃w:Nat,w=y2.toNat-48:=⟨_,rfl⟩
      obtain⟨dv,hdv⟩:∃dv,dv=wB (s.take i):=⟨_,rfl⟩
      rw[<-hdv] at KB wG ⊢;have m0:IntKind.i64.wrap ((y2.toNat:Nat):Int)=((y2.toNat:Nat):Int):=wrap64 oM oM;have m1:iA .mul .i64 10 ((dv:Nat):Int)=some (.int .i64 ((10*dv:Nat):Int)):=(HD oM oM).trans (by rw[Int.natCast_mul];rfl);have m2:iA .add .i64 ((10*dv:Nat):Int) ((y2.toNat:Nat):Int)=some (.int .i64 ((10*dv+y2.toNat:Nat):Int)):=(pB oM oM).trans (by rw[Int.natCast_add]);have m3:iA .sub .i64 ((10*dv+y2.toNat:Nat):Int) 48=some (.int .i64 ((wB (s.take (i+1)):Nat):Int)):=(pH oM oM).trans (by congr 2;omega);refine fL ?_;refine .cl (fun H hs=> rF M H y2 true hd) ?_;refine fN ?_;exact Tc.db (ih ⟨i+1,oM⟩ Ob)
   ·have AV:(s.length==1)=false:=beq_eq_false_iff_ne.2 c1;rw[AV,Bool.or_false] at QC;have g1:iA .gtr .i64 ((s.length:Nat):Int) 1=some (.bool true):=tG oM;have aB:s[0]?.getD 0≠45:=by
     rcases hs with hs|⟨x0,h1,h2⟩
     ·omega
     ·have h1:s[0]? =some x0:=h1;rw[h1];exact h2
    generalize s[0]?.getD 0=x0 at e0 QC aB;have g2:iA .eql .u8 ((x0.toNat:Nat):Int) 45=some (.bool false):=IC (fun e=> aB (UInt8.toNat_inj.1 (by show x0.toNat=45;omega)));by_cases c48:x0=48
    ·subst c48;have gB:PA s=false:=QC.trans (by simp);have g3:iA .eql .u8 (((48:UInt8).toNat:Nat):Int) 48=some (.bool true):=wE rfl;refine .en func250 ntmps250 fun St c cs hK=> ?_;refine PO ?_;refine .cl (fun H hs=> VH M H (s.length:Nat) 1 9 true (by exact decide_eq_true oM)) ?_;refine fL ?_;refine .rt hK func250 results250 [_,_] ?_;rw[gB];exact fun H' hs=> ⟨hs.base,0,rfl,oM,fun h=> by cases h⟩
    ·have h48:(x0 !=48)=true:=by simpa using c48
     rw[h48,Bool.and_true] at QC;have g3:iA .eql .u8 ((x0.toNat:Nat):Int) 48=some (.bool false):=IC (fun e=> c48 (UInt8.toNat_inj.1 (by show x0.toNat=48;omega)));by_cases cd:s.all OC=true
     ·have aC6:PA s=true:=QC.trans cd;have DT:∀i,i<s.length->(h:i<s.length)->OC s[i]=true:=fun i _ h=> List.all_eq_true.1 cd _ (List.getElem_mem h);have BT:∀i,i<=s.length->wB (s.take i)<1000000000:=fun i hi=> by
       have h1:=XG cd i hi;have h2:10 ^ i<=10 ^ 9:=Nat.pow_le_pow_right oM oM;omega
      have P7:=BT s.length (Nat.le_refl _);rw[List.take_length] at P7;refine .en func250 ntmps250 fun St c cs hK=> ?_;refine PO ?_;refine .cl (fun H hs=> VH M H (s.length:Nat) 1 9 true (by exact decide_eq_true oM)) ?_;refine PO ?_;refine Tc.db (Tc.qA (σ:= { i:Nat//i<=s.length }) (fun i=> ([(0,bA s),(6,.iz (wB (s.take i.1):Nat)),(7,.nt i.1)],[])) (fun i=> s.length-i.1) ?_ ⟨0,Nat.zero_le _⟩);rintro⟨i,hi⟩ ih;dsimp only;by_cases c1:i=s.length
      ·clear ih;subst c1;rw[List.take_length];refine LI ?_;refine .rt hK func250 results250 [_,_] ?_;rw[aC6];exact fun H' hs=> ⟨hs.base,_,rfl,oM,fun _=> CR.symm⟩
      ·have c2:i<s.length:=by omega
       have hd:OC s[i]=true:=DT i oM c2;have hx:s[((i:Nat):Int).toNat]? =some s[i]:=by rw[Int.toNat_natCast,List.getElem?_eq_getElem c2]
       have KB:=BT i oM;have wG:wB (s.take (i+1))=10*wB (s.take i)+(s[i].toNat-48):=by rw[List.take_succ_eq_append_getElem c2,XE]
       generalize s[i]=y2 at hx hd wG;have hd2:=of_decide_eq_true (show decide (48<=y2.toNat/\y2.toNat<58)=true from hd);obtain⟨w,hw⟩:∃w:Nat,w=y2.toNat-48:=⟨_,rfl⟩
       obtain⟨dv,hdv⟩:∃dv,dv=wB (s.take i):=⟨_,rfl⟩
       rw[<-hdv] at KB wG ⊢;have m0:IntKind.i64.wrap ((y2.toNat:Nat):Int)=((y2.toNat:Nat):Int):=wrap64 oM oM;have m1:iA .mul .i64 10 ((dv:Nat):Int)=some (.int .i64 ((10*dv:Nat):Int)):=(HD oM oM).trans (by rw[Int.natCast_mul];rfl);have m2:iA .add .i64 ((10*dv:Nat):Int) ((y2.toNat:Nat):Int)=some (.int .i64 ((10*dv+y2.toNat:Nat):Int)):=(pB oM oM).trans (by rw[Int.natCast_add]);have m3:iA .sub .i64 ((10*dv+y2.toNat:Nat):Int) 48=some (.int .i64 ((wB (s.take (i+1)):Nat):Int)):=(pH oM oM).trans (by congr 2;omega);refine fL ?_;refine .cl (fun H hs=> rF M H y2 true hd) ?_;refine fN ?_;exact Tc.db (ih ⟨i+1,oM⟩ Ob)
     ·have gB:PA s=false:=QC.trans (by simpa using cd);obtain⟨j,y,hj,hy,DT,rR⟩:∃(j:Nat) (y:UInt8),s[j]? =some y/\OC y=false/\(∀i,i<j->(h:i<s.length)->OC s[i]=true)/\j<s.length:=by
       have h1:(s.all OC)=false:=by simpa using cd
       clear QC CR hs e0 c9 c1 g1 AV aB g2 h48 g3 c48;clear gB cd;induction s with
       | nil=> cases h1
       | cons a l ihl=>
        cases ha:OC a with
        | false=> exact⟨0,a,rfl,ha,fun i hi=> by omega,by simp⟩
        | true=>
         have h2:l.all OC=false:=by simpa [ha] using h1
         obtain⟨j,y,g1,g2,g3,g4⟩:=ihl (by simp at hm;omega) h2;refine⟨j+1,y,by simpa using g1,g2,fun i hi h=> ?_,by simpa using g4⟩;cases i with
         | zero=> exact ha
         | succ i=> exact g3 i oM (by simpa using h)
      have BT:∀i,i<=j->wB (s.take i)<1000000000:=fun i hi=> by
       have h0:(s.take i).all OC=true:=by
        rw[List.all_eq_true];intro x hx;obtain⟨q,hq,rfl⟩:=List.mem_iff_getElem.1 hx;rw[List.length_take] at hq;rw[List.getElem_take];exact DT q oM oM
       have h1:=XG h0 i (by rw[List.length_take];omega);rw[List.take_take,Nat.min_self] at h1;have h2:10 ^ i<=10 ^ 9:=Nat.pow_le_pow_right oM oM;omega
      refine .en func250 ntmps250 fun St c cs hK=> ?_;refine PO ?_;refine .cl (fun H hs=> VH M H (s.length:Nat) 1 9 true (by exact decide_eq_true oM)) ?_;refine PO ?_;refine Tc.db (Tc.qA (σ:= { i:Nat//i<=j }) (fun i=> ([(0,bA s),(6,.iz (wB (s.take i.1):Nat)),(7,.nt i.1)],[])) (fun i=> j-i.1) ?_ ⟨0,Nat.zero_le _⟩);rintro⟨i,hi⟩ ih;dsimp only;by_cases c1:i=j
      ·clear ih;subst c1;have hx:s[((i:Nat):Int).toNat]? =some y:=hj;refine fL ?_;refine .cl (fun H hs=> rF M H y false hy) ?_;refine U8 ?_;refine .rt hK func250 results250 [_,_] ?_;rw[gB];exact fun H' hs=> ⟨hs.base,0,rfl,oM,fun h=> by cases h⟩
      ·have c2:i<s.length:=by omega
       have hd:OC s[i]=true:=DT i oM c2;have hx:s[((i:Nat):Int).toNat]? =some s[i]:=by rw[Int.toNat_natCast,List.getElem?_eq_getElem c2]
       have KB:=BT i oM;have wG:wB (s.take (i+1))=10*wB (s.take i)+(s[i].toNat-48):=by rw[List.take_succ_eq_append_getElem c2,XE]
       generalize s[i]=y2 at hx hd wG;have hd2:=of_decide_eq_true (show decide (48<=y2.toNat/\y2.toNat<58)=true from hd);obtain⟨w,hw⟩:∃w:Nat,w=y2.toNat-48:=⟨_,rfl⟩
       obtain⟨dv,hdv⟩:∃dv,dv=wB (s.take i):=⟨_,rfl⟩
       rw[<-hdv] at KB wG ⊢;have m0:IntKind.i64.wrap ((y2.toNat:Nat):Int)=((y2.toNat:Nat):Int):=wrap64 oM oM;have m1:iA .mul .i64 10 ((dv:Nat):Int)=some (.int .i64 ((10*dv:Nat):Int)):=(HD oM oM).trans (by rw[Int.natCast_mul];rfl);have m2:iA .add .i64 ((10*dv:Nat):Int) ((y2.toNat:Nat):Int)=some (.int .i64 ((10*dv+y2.toNat:Nat):Int)):=(pB oM oM).trans (by rw[Int.natCast_add]);have m3:iA .sub .i64 ((10*dv+y2.toNat:Nat):Int) 48=some (.int .i64 ((wB (s.take (i+1)):Nat):Int)):=(pH oM oM).trans (by congr 2;omega);refine fL ?_;refine .cl (fun H hs=> rF M H y2 true hd) ?_;refine fN ?_;exact Tc.db (ih ⟨i+1,oM⟩ Ob)
  ·have gB:PA s=false:=QC.trans (by rw[decide_eq_false c9];rfl);by_cases c0:s.length=0
   ·have g1:iA .gtr .i64 ((s.length:Nat):Int) 1=some (.bool false):=sG oM;refine .en func250 ntmps250 fun St c cs hK=> ?_;refine PO ?_;refine .cl (fun H hs=> VH M H (s.length:Nat) 1 9 false (by exact decide_eq_false oM)) ?_;refine U6 ?_;refine To.LA rfl dE rfl ?_;refine To.LA rfl dE rfl ?_;refine To.LA rfl dE rfl ?_;refine U9 ?_;refine .rt hK func250 results250 [_,_] ?_;rw[gB];exact fun H' hs=> ⟨hs.base,0,rfl,oM,fun h=> by cases h⟩
   ·obtain⟨x0,e0,aB⟩:∃x0,s[(0:Int).toNat]? =some x0/\x0≠45:=hs.resolve_left oM;have g1:iA .gtr .i64 ((s.length:Nat):Int) 1=some (.bool true):=tG oM;have g2:iA .eql .u8 ((x0.toNat:Nat):Int) 45=some (.bool false):=IC (fun e=> aB (UInt8.toNat_inj.1 (by show x0.toNat=45;omega)));refine .en func250 ntmps250 fun St c cs hK=> ?_;refine PO ?_;refine .cl (fun H hs=> VH M H (s.length:Nat) 1 9 false (by exact decide_eq_false oM)) ?_;refine U6 ?_;refine To.LA rfl dE rfl ?_;refine To.LA rfl dE rfl ?_;refine To.LA rfl dE rfl ?_;refine U9 ?_;refine .rt hK func250 results250 [_,_] ?_;rw[gB];exact fun H' hs=> ⟨hs.base,0,rfl,oM,fun h=> by cases h⟩
 ·refine .en func250 ntmps250 fun St c cs hK=> ?_;refine PO ?_;refine .cl (fun H hs=> VH M H (1:Nat) 1 9 true dE) ?_;refine PO ?_;refine Tc.db (Tc.qA (σ:=Unit) (fun _=> ([(0,bA [45]),(6,.nt 0),(7,.nt 0)],[])) (fun _=> 0) ?_ ());intro _ ih;clear ih;show Tc M St _ _ _ _ [(0,bA [45]),(6,.nt 0),(7,.nt 0)] [] _ _;refine II ?_;refine .x (pA.uL (E:=en) rfl rfl rfl rfl rfl oM (by exact rfl)) ?_;refine .cl (fun H hs=> rF M H 45 false dE) ?_;refine U8 ?_;refine .rt hK func250 results250 [_,_] ?_;exact fun H' hs=> ⟨hs.base,0,rfl,oM,fun h=> by cases h⟩
theorem T5:∀(m:Nat) (s:By) (H:View),s.length<=m->m<=1000000->fA M 250 #[bA s] H (fun v H'=> H.le H'/\∃n:Int,v=.tuple ⟨[.iz n,.bool (PA s)]⟩/\(-1000000000<=n/\n<=1000000000)/\(PA s=true->n=numOf s))
 | 0,s,H,hs,hm=> fZ M H s oM (.inl oM)
 | m + 1,s,H,hs,hm=> by
  match s,hs with
  | [],hs=> exact fZ M H [] oM (.inl (by simp))
  | [x],hs=> exact fZ M H [x] (by simp) (.inl (by simp))
  | x ::z::d,hs=>
   by_cases c:x=45
   ·subst c;have ih:=T5 m (z::d) H (by simp at hs ⊢;omega) oM;obtain⟨l1,l2⟩:=Q3 (z::d);have hsl:(45::z::d).length=(z::d).length+1:=rfl;have hd1:1<=(z::d).length:=by simp
    have hdm:(z::d).length<=m:=by simp at hs ⊢;omega
    generalize z::d=d at ih l1 l2 hsl hd1 hdm;have t1:((45::d).drop (1:Int).toNat).take ((((45::d).length:Nat):Int).toNat-(1:Int).toNat)=d:=by
     show d.take (d.length+1-1)=d;rw[Nat.add_sub_cancel,List.take_length]
    have g1:iA .gtr .i64 (((45::d).length:Nat):Int) 1=some (.bool true):=tG oM;refine .en func250 ntmps250 fun St c cs hK=> ?_;refine JG ?_;refine .x (pA.uL (E:=en) rfl rfl rfl rfl rfl oM (by exact rfl)) ?_;refine U7 ?_;refine .x (pA.TQ (E:=en) rfl rfl rfl rfl rfl rfl oM oM oM t1) ?_;refine To.YB rfl rfl rfl rfl rfl rfl dE (WB.h ih) (fun v H₁ hv=> ?_);obtain⟨hle,n,rfl,hn,hv⟩:=hv;cases ho:PA d with
    | false=>
     rw[ho] at l1;rw[Bool.false_and] at l1;refine U9 ?_;refine .x .ng ?_;refine U8 ?_;refine .rt hK func250 results250 [_,_] ?_;rw[l1];exact fun H' hs=> ⟨View.le_trans hle hs.base, -n,rfl,oM,fun h=> by cases h⟩
    | true=>
     have hv:=hv ho;rw[ho,Bool.true_and,<-hv] at l1;by_cases c0:0<n
     ·rw[decide_eq_true c0] at l1;have l3:=l2 l1;refine U9 ?_;refine .x .ng ?_;refine U8 ?_;refine .rt hK func250 results250 [_,_] ?_;rw[l1];exact fun H' hs=> ⟨View.le_trans hle hs.base, -n,rfl,oM,fun _=> by rw[l3,hv]⟩
     ·rw[decide_eq_false c0] at l1;refine U9 ?_;refine .x .ng ?_;refine U8 ?_;refine .rt hK func250 results250 [_,_] ?_;rw[l1];exact fun H' hs=> ⟨View.le_trans hle hs.base, -n,rfl,oM,fun h=> by cases h⟩
   ·exact fZ M H (x::z::d) oM (.inr ⟨x,rfl,c⟩)
end
def VV(l:List Int):List Value:=l.map fun z=> .int .i64 z
def nX(xs:List Int)(x:Nat×Nat×List Value):Value:=.tuple ⟨[.sl x.1 xs.length x.2.1,.bool true]⟩
def vR(xs:List Int)(x:Nat×Nat×List Value):Bl:= [Bb x.1 (VV xs++x.2.2) 3]
theorem RG(xs:List Int)(x:Nat×Nat×List Value):((vR xs x).map (·.1)).Nodup:=by simp[vR]
def YD(x:Nat->By)(n:Nat):List Int:=(List.range n).map fun i=> numOf (x i)
theorem V1 {x:Nat->By}{n:Nat}(h:¬∀i,i<n->PA (x i)=true):∃j,j<n/\PA (x j)=false/\∀i,i<j->PA (x i)=true:=by
 induction n with
 | zero=> exact(h fun i hi=> by omega).elim
 | succ n ih=>
  by_cases c:∀i,i<n->PA (x i)=true
  ·refine⟨n,oM,?_,c⟩;cases e:PA (x n) with
   | false=> rfl
   | true=>
    refine(h fun i hi=> ?_).elim;by_cases c2:i=n
    ·subst c2;exact e
    ·exact c i oM
  ·obtain⟨j,h1,h2,h3⟩:=ih c;exact⟨j,oM,h2,h3⟩
theorem AO {q:By}(h:(58:UInt8)∈q):PA q=false:=by
 have h1:(58:UInt8)∈zB 45 q:=by
  unfold zB;split
  ·rename_i hb
   obtain⟨r,rfl⟩:=WE hb;rcases List.mem_cons.1 h with h|h
   ·cases h
   ·exact h
  ·exact h
 have h2:(zB 45 q).all OC=false:=by
  rw[List.all_eq_false];exact⟨58,h1,by decide⟩
 unfold PA;rw[h2];simp
section
variable(M:Md prog)(H:View)
theorem W5(s:By)(hm:s.length<=1000000)(h:PA s=true):fA M 250 #[bA s] H (Ib H (.tuple ⟨[.iz (numOf s),.bool true]⟩)):=
 fA.mono (T5 M s.length s H (Nat.le_refl _) hm) fun v H' hv=> by
  obtain⟨h1,n,rfl,_,h2⟩:=hv;rw[h2 h,h];exact⟨h1,rfl⟩
theorem aCu(s:By)(hm:s.length<=1000000)(h:PA s=false):fA M 250 #[bA s] H (fun v H'=> H.le H'/\∃n:Int,v=.tuple ⟨[.iz n,.bool false]⟩):=
 fA.mono (T5 M s.length s H (Nat.le_refl _) hm) fun v H' hv=> by
  obtain⟨h1,n,rfl,_,h2⟩:=hv;rw[h];exact⟨h1,n,rfl⟩
theorem C5(A:Option Addr)(n ac:Nat)(x:Nat->By)(hA:ZB H A n x)(hn:n<=1000001)(hn0:1<=n)(hx:∀i,i<n->(x i).length<=1000000/\PA (x i)=true):
  fA M 185 #[.slice A n ac] H (fun v H'=> H.le H'/\∃y,v=nX (YD x n) y/\n<=y.2.1/\∀z∈vR (YD x n) y,H' z.1=some z.2/\H z.1=none):=by
 obtain h0|⟨ab,ao,f,gs,gt,gz,rfl,hb,hl⟩:=hA
 ·omega
 refine .en func185 ntmps185 fun St c cs hK=> ?_;refine AJ ?_;refine Tc.db (Tc.qA (σ:= { y:Nat×Gl 3 1//y.1<=n/\y.2.n=y.1/\y.2.l=VV (YD x y.1) }) (fun y=> ([(0,.slice (some ⟨ab,ao,none⟩) n ac),(4,y.1.2.val),(5,.nt y.1.1)],y.1.2.bl)) (fun y=> n-y.1.1) ?_ ⟨(0,Gl.nil 3 1),Nat.zero_le _,rfl,rfl⟩);rintro⟨⟨i,g⟩,hi,XC,JE⟩ ih;simp only at hi XC JE;dsimp only;by_cases c1:i=n
 ·clear ih;subst c1;refine LI ?_;refine .rt hK func185 results185 [_,_] ?_;refine fun H' hs=> ⟨hs.base,?_⟩
  obtain⟨b,hb⟩:∃b,g.blk=some b:=by
   cases h:g.blk with
   | some b=> exact⟨b,rfl⟩
   | none=> have:=g.h0 h;have:=g.hc;omega
  have hlen:(YD x i).length=i:=by simp[YD]
  refine⟨(b,g.cap,g.jB),?_,by rw[<-XC];exact g.hc,fun z hz=> ?_⟩
  ·unfold nX Gl.val;rw[hb,XC,hlen];rfl
  ·have vJ:g.bl=vR (YD x i) (b,g.cap,g.jB):=by unfold Gl.bl vR;rw[hb,JE]
   rw[<-vJ] at hz;exact⟨hs.at_ z hz,hs.out z hz⟩
 ·have c2:i<n:=by omega
  have f1:=hl i c2;obtain⟨h1,h2⟩:=hx i c2;have pL:=fun H=> W5 M H (x i) h1 h2;have wG:VV (YD x (i+1))=VV (YD x i)++[.iz (numOf (x i))]:=by unfold VV YD;rw[List.range_succ,List.map_append,List.map_append];rfl
  generalize numOf (x i)=w at pL wG;refine fL ?_;refine .cl (fun H hs=> pL H) ?_;refine II ?_;refine .e (.bs (zz:=fun bs=> ?_));refine .e (Or.append (E:=en) 1 rfl rfl rfl rfl rfl rfl rfl rfl rfl rfl rfl rfl rfl rfl rfl (fun H hs=> RA.of (hs.get (i:=0) rfl) Nb) rfl oM rfl dE (fun g3 AN EJ=> ?_));refine U8 ?_;exact Tc.db (ih ⟨(i+1,g3),by simp only;omega,by simp only;omega,by simp only;rw[EJ,JE,wG];rfl⟩ Ob)
theorem B5(A:Option Addr)(n ac:Nat)(x:Nat->By)(hA:ZB H A n x)(hn:n<=1000001)(hx:∀i,i<n->(x i).length<=1000000)(F7:¬∀i,i<n->PA (x i)=true):
  fA M 185 #[.slice A n ac] H (Ib H (.tuple ⟨[.slice none 0 0,.bool false]⟩)):=by
 obtain⟨j,hj,hjn,rR⟩:=V1 F7;obtain h0|⟨ab,ao,f,gs,gt,gz,rfl,hb,hl⟩:=hA
 ·omega
 refine .en func185 ntmps185 fun St c cs hK=> ?_;refine AJ ?_;refine Tc.db (Tc.qA (σ:= { y:Nat×Gl 3 1//y.1<=j/\y.2.n=y.1 }) (fun y=> ([(0,.slice (some ⟨ab,ao,none⟩) n ac),(4,y.1.2.val),(5,.nt y.1.1)],y.1.2.bl)) (fun y=> j-y.1.1) ?_ ⟨(0,Gl.nil 3 1),Nat.zero_le _,rfl⟩);rintro⟨⟨i,g⟩,hi,XC⟩ ih;simp only at hi XC;dsimp only;by_cases c1:i=j
 ·clear ih;subst c1;have f1:=hl i hj;refine fL ?_;refine To.YB rfl rfl rfl rfl rfl rfl dE (WB.h (aCu M H (x i) (hx i hj) hjn)) (fun v H₁ hv=> ?_);obtain⟨hle,w,rfl⟩:=hv;refine fL ?_;refine .rt hK func185 results185 [_,_] ?_;exact fun H' hs=> ⟨View.le_trans hle hs.base,rfl⟩
 ·have c2:i<n:=by omega
  have f1:=hl i c2;have h1:=hx i c2;have h2:=rR i oM;have pL:=fun H=> W5 M H (x i) h1 h2;generalize numOf (x i)=w at pL;refine fL ?_;refine .cl (fun H hs=> pL H) ?_;refine II ?_;refine .e (.bs (zz:=fun bs=> ?_));refine .e (Or.append (E:=en) 1 rfl rfl rfl rfl rfl rfl rfl rfl rfl rfl rfl rfl rfl rfl rfl (fun H hs=> RA.of (hs.get (i:=0) rfl) Nb) rfl oM rfl dE (fun g3 AN EJ=> ?_));refine U8 ?_;exact Tc.db (ih ⟨(i+1,g3),by simp only;omega,by simp only;omega⟩ Ob)
end
end Go.Proofs.YtldmfjcgjdchcaaGreatDoor
