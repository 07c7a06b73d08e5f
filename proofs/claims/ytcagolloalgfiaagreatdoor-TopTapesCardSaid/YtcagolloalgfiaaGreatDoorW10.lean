/-
 Texts of the proofs over baudot/dial.
-/
import Derived.Test.YtcagolloalgfiaaGreatDoorW09
namespace Go.Proofs.YtcagolloalgfiaaGreatDoor
open Go.RL Go.Proofs.Tryz
set_option maxRecDepth 10000
set_option maxHeartbeats 16000000
section
variable(M:Md prog)(H:View)
theorem CheckRecord6_c(b:Sb)(a:Sa)(hb:SbAt H b a)(hnm:b.nm<=20)(hgr:∀i,i<b.nm->1<=b.gr i/\b.gr i<=4)(hns:b.ns<=4)(k x y m:Int):
  CallT M 37 #[b.val a,recV k x y m] H (fun v H'=> H.le H'/\∃z,v=.int .i64 z/\(z=0->b.recOk k x y m)):=by
 have hbad:∀z:Int,z≠0->∀H',H.le H'->H.le H'/\∃z',Value.int .i64 z=.int .i64 z'/\(z'=0->b.recOk k x y m):=fun z hz H' h=> ⟨h,z,rfl,fun e=> (hz e).elim⟩
 refine .en func37 ntmps37 fun St c cs hK=> ?_;by_cases c0:k<0
 ·refine U2 ?_;refine .bo fun b2=> ?_;refine .bo fun b3=> ?_;refine U19 ?_;refine .rt hK func37 results37 [_] ?_;exact fun H' hs=> hbad 1 dE H' hs.base
 by_cases c1:5<k
 ·refine U2 ?_;refine .bo fun b2=> ?_;refine .bo fun b3=> ?_;refine U19 ?_;refine .rt hK func37 results37 [_] ?_;exact fun H' hs=> hbad 1 dE H' hs.base
 by_cases c2:k≠4/\y≠0
 ·obtain⟨c2,c2'⟩:=c2;refine U2 ?_;refine .bo fun b2=> ?_;refine .bo fun b3=> ?_;refine U32 ?_;refine To.skippedU rfl dE rfl ?_;refine To.skippedU rfl dE rfl ?_;refine To.skippedU rfl dE rfl ?_;refine U2 ?_;refine To.skippedU rfl dE rfl ?_;refine To.skippedU rfl dE rfl ?_;refine To.skippedU rfl dE rfl ?_;refine U8 ?_;refine .rt hK func37 results37 [_] ?_;exact fun H' hs=> hbad 1 dE H' hs.base
 by_cases c3:(k=0\/k=1)/\m≠0
 ·have hy0:y=0:=by omega
  obtain⟨rfl|rfl,hm⟩:=c3;all_goals
   refine U2 ?_;refine .bo fun b2=> ?_;refine .bo fun b3=> ?_;refine U30 ?_;refine .i ?_ (z:=by first|exact eql_t oM|exact eql_f oM);refine U ?_;first|(refine .sk ?_)|(refine .x .fa ?_)
   first|(refine .sk ?_)|((refine .x (.ld 0) ?_))
   first|(refine .sk ?_)|((refine .x (.it (zz:=eql_t oM)) ?_))
   refine U13 ?_;refine .rt hK func37 results37 [_] ?_;exact fun H' hs=> hbad 1 dE H' hs.base
 by_cases k4:k=4
 ·subst k4;have hIs:=fun(H':View) (h':H.le H')=> Is_c M H' b a (hb.le h') oM (fun i hi=> by have:=hgr i hi;omega) x y;cases t0:b.isPart x y with
  | false=>
   rw[t0] at hIs;refine U2 ?_;refine .bo fun b2=> ?_;refine .bo fun b3=> ?_;(iterate 71 refine U ?_);refine .cl (fun H hs=> hIs H hs.base) ?_;refine U7 ?_;refine .rt hK func37 results37 [_] ?_;exact fun H' hs=> hbad 6 dE H' hs.base
  | true=>
   rw[t0] at hIs;by_cases d1:0<=m/\m<=b.ns
   ·have hfin:b.recOk 4 x y m:=⟨by decide,by decide,fun h=> (h rfl).elim,fun h=> by omega,d1.1,fun h=> by omega,fun _=> ⟨t0,d1.2⟩,fun h=> by omega⟩
    refine U2 ?_;refine .bo fun b2=> ?_;refine .bo fun b3=> ?_;(iterate 71 refine U ?_);refine .cl (fun H hs=> hIs H hs.base) ?_;refine U17 ?_;refine .cl (fun H hs=> In_c M H m 0 b.ns true (decide_eq_true d1)) ?_;refine U8 ?_;refine .rt hK func37 results37 [_] ?_;exact fun H' hs=> ⟨hs.base,0,rfl,fun _=> hfin⟩
   ·refine U2 ?_;refine .bo fun b2=> ?_;refine .bo fun b3=> ?_;(iterate 71 refine U ?_);refine .cl (fun H hs=> hIs H hs.base) ?_;refine U17 ?_;refine .cl (fun H hs=> In_c M H m 0 b.ns false (decide_eq_false d1)) ?_;refine U7 ?_;refine .rt hK func37 results37 [_] ?_;exact fun H' hs=> hbad 1 dE H' hs.base
 have hy0:y=0:=by omega
 subst hy0;by_cases k5:k=5
 ·subst k5;by_cases d0:0<=x/\x<b.nm
  ·have hth:=fun(H':View)=> isV (there_c M H' x b.nm oM) (w':=.bool true) (by rw[decide_eq_true d0]);obtain⟨n,rfl⟩:∃n:Nat,x=n:=⟨x.toNat,oM⟩
   have hn:n<b.nm:=by omega
   obtain⟨_,h0|⟨mk,o,f,gs,gt,gz,e1,e2,e3⟩⟩:=hb.msgs
   ·omega
   have f1:=e3 n hn;have f2:ldL false 1 gs (o+((n:Nat):Int).toNat*3+1)=some (.int .i64 (b.gr n)):=ldL_cell f1 dE;obtain⟨aA,mc,aS,sc,aR,rc⟩:=a;simp only at e1;subst e1;by_cases d1:0<=m/\m<=b.gr n
   ·have hfin:b.recOk 5 n 0 m:=⟨by decide,by decide,fun _=> rfl,fun h=> by omega,d1.1,fun h=> by omega,fun h=> by omega,fun _=> ⟨d0.1,d0.2,by rw[Int.toNat_natCast];exact d1.2⟩⟩
    refine U2 ?_;refine .bo fun b2=> ?_;refine .bo fun b3=> ?_;(iterate 76 refine U ?_);refine .cl (fun H hs=> hth H) ?_;refine U21 ?_;refine .cl (fun H hs=> In_c M H m 0 (b.gr n) true (decide_eq_true d1)) ?_;refine U8 ?_;refine .rt hK func37 results37 [_] ?_;exact fun H' hs=> ⟨hs.base,0,rfl,fun _=> hfin⟩
   ·refine U2 ?_;refine .bo fun b2=> ?_;refine .bo fun b3=> ?_;(iterate 76 refine U ?_);refine .cl (fun H hs=> hth H) ?_;refine U21 ?_;refine .cl (fun H hs=> In_c M H m 0 (b.gr n) false (decide_eq_false d1)) ?_;refine U7 ?_;refine .rt hK func37 results37 [_] ?_;exact fun H' hs=> hbad 1 dE H' hs.base
  ·have hth:=fun(H':View)=> isV (there_c M H' x b.nm oM) (w':=.bool false) (by rw[decide_eq_false d0]);refine U2 ?_;refine .bo fun b2=> ?_;refine .bo fun b3=> ?_;(iterate 76 refine U ?_);refine .cl (fun H hs=> hth H) ?_;refine U7 ?_;refine .rt hK func37 results37 [_] ?_;exact fun H' hs=> hbad 6 dE H' hs.base
 have hkk:k=0\/k=1\/(2<=k/\k<=3):=by omega
 by_cases d0:0<=x/\x<b.ns
 ·have hth:=fun(H':View)=> isV (there_c M H' x b.ns oM) (w':=.bool true) (by rw[decide_eq_true d0]);obtain⟨n,rfl⟩:∃n:Nat,x=n:=⟨x.toNat,oM⟩
  have hn:n<b.ns:=by omega
  obtain⟨_,h0|⟨mk,o,f,gs,gt,gz,e1,e2,e3⟩⟩:=hb.sess
  ·omega
  obtain⟨P,pc,f1,hpc,hP⟩:=e3 n hn;have f2:ldL false 1 gs (o+((n:Nat):Int).toNat*1+0)=some (.slice P (b.np n) pc):=ldL_cell f1 dE;obtain⟨aA,mc,aS,sc,aR,rc⟩:=a;simp only at e1;subst e1;by_cases d1:0<=m/\m<=b.np n
  ·have hfin:b.recOk k n 0 m:=⟨oM,oM,fun _=> rfl,fun h=> by omega,d1.1,fun h=> ⟨d0.1,d0.2,by rw[Int.toNat_natCast];exact d1.2⟩,fun h=> by omega,fun h=> by omega⟩
   rcases hkk with hk1|hk1|⟨hk1,hk2⟩
   all_goals
    refine U2 ?_;refine .bo fun b2=> ?_;refine .bo fun b3=> ?_;refine U30 ?_;refine .i ?_ (z:=by first|exact eql_t oM|exact eql_f oM);refine U ?_;first|(refine .sk ?_)|(refine .x .fa ?_)
    first|(refine .sk ?_)|((refine .x (.ld 0) ?_))
    first|(refine .sk ?_)|((refine .x (.it (zz:=(by first|exact eql_t oM|exact eql_f oM))) ?_))
    refine U2 ?_;first|(refine .sk ?_)|(refine .x .fa ?_)
    first|(refine .sk ?_)|((refine .x (.ld 0) ?_))
    first|(refine .sk ?_)|((refine .x (.it (zz:=neq_f oM)) ?_))
    refine U36 ?_;refine .cl (fun H hs=> hth H) ?_;refine U22 ?_;refine .cl (fun H hs=> In_c M H m 0 (b.np n) true (decide_eq_true d1)) ?_;refine U8 ?_;refine .rt hK func37 results37 [_] ?_;exact fun H' hs=> ⟨hs.base,0,rfl,fun _=> hfin⟩
  ·rcases hkk with hk1|hk1|⟨hk1,hk2⟩
   ·exfalso;omega
   ·exfalso;omega
   all_goals
    refine U2 ?_;refine .bo fun b2=> ?_;refine .bo fun b3=> ?_;(iterate 76 refine U ?_);refine .cl (fun H hs=> hth H) ?_;refine U22 ?_;refine .cl (fun H hs=> In_c M H m 0 (b.np n) false (decide_eq_false d1)) ?_;refine U7 ?_;refine .rt hK func37 results37 [_] ?_;exact fun H' hs=> hbad 1 dE H' hs.base
 ·have hth:=fun(H':View)=> isV (there_c M H' x b.ns oM) (w':=.bool false) (by rw[decide_eq_false d0]);rcases hkk with hk1|hk1|⟨hk1,hk2⟩
  all_goals
   refine U2 ?_;refine .bo fun b2=> ?_;refine .bo fun b3=> ?_;refine U30 ?_;refine .i ?_ (z:=by first|exact eql_t oM|exact eql_f oM);refine U ?_;first|(refine .sk ?_)|(refine .x .fa ?_)
   first|(refine .sk ?_)|((refine .x (.ld 0) ?_))
   first|(refine .sk ?_)|((refine .x (.it (zz:=(by first|exact eql_t oM|exact eql_f oM))) ?_))
   refine U2 ?_;first|(refine .sk ?_)|(refine .x .fa ?_)
   first|(refine .sk ?_)|((refine .x (.ld 0) ?_))
   first|(refine .sk ?_)|((refine .x (.it (zz:=neq_f oM)) ?_))
   refine U36 ?_;refine .cl (fun H hs=> hth H) ?_;refine U7 ?_;refine .rt hK func37 results37 [_] ?_;exact fun H' hs=> hbad 6 dE H' hs.base
end
section
variable(M:Md prog)(H:View)
theorem CheckBook6_c(b:Sb)(a:Sa)(hb:SbAt H b a)(hs0:b.small):CallT M 10 #[b.val a] H (fun v H'=> H.le H'/\∃z,v=.int .i64 z/\(z=0->b.Ok)):=by
 have hbad:∀z:Int,z≠0->∀H',H.le H'->H.le H'/\∃z',Value.int .i64 z=.int .i64 z'/\(z'=0->b.Ok):=fun z hz H' h=> ⟨h,z,rfl,fun e=> (hz e).elim⟩
 refine .en func10 ntmps10 fun St c cs hK=> ?_;by_cases r1:1<=b.room/\b.room<=20
 ·by_cases r2 : 0<=b.gap/\b.gap<=99
  ·have hnr := hs0.nr;refine U2 ?_;refine .bo fun b1=> ?_;refine U7 ?_;refine .cl (fun H hs=> In_c M H b.room 1 20 true (decide_eq_true r1)) ?_;refine U4 ?_;refine .cl (fun H hs=> In_c M H b.gap 0 99 true (decide_eq_true r2)) ?_;refine U9 ?_;refine To.callF rfl rfl rfl rfl rfl rfl dE (FnT.h (messages6_c M H b a hb hs0)) (fun v H₁ hv=> ?_);obtain⟨hl1,z1,rfl,m1⟩:=hv;by_cases e1:z1=0
   ·subst e1;obtain⟨hnm,hms⟩:=m1 rfl;have hgr:∀i,i<b.nm->1<=b.gr i/\b.gr i<=4:=fun i hi=> (hms i hi).2.2.1;refine U13 ?_;refine To.callF rfl rfl rfl rfl rfl rfl dE (FnT.h (sessions6_c M H₁ b a (hb.le hl1) hs0 (fun i hi=> by have:=hgr i hi;omega))) (fun v H₂ hv=> ?_);obtain⟨hl2,z2,rfl,m2⟩:=hv;by_cases e2:z2=0
    ·subst e2;obtain⟨hns,hss⟩:=m2 rfl;by_cases c0:5<b.nr
     ·refine U22 ?_;refine .rt hK func10 results10 [_] ?_;exact fun H' hs=> hbad 2 dE H' (View.le_trans hl1 (View.le_trans hl2 hs.base))
     ·refine U25 ?_;refine Tc.db (Tc.loopB (σ:= { x:Nat×View//x.1<=b.nr/\(∀j,j<x.1->b.recOk (b.kd j) (b.ra j) (b.rb j) (b.rm j))/\H.le x.2 }) (fun x=> (x.1.2,[(1,.pointer (some ⟨b1,0,none⟩)),(5,.int .i64 (x.1.1:Nat))],[(b1,true,.cells ⟨(b.val a).cells.toList⟩ 26 (0,0))])) (fun x=> b.nr-x.1.1) ?_ ⟨(0,H₂),Nat.zero_le _,fun j hj=> by omega,View.le_trans hl1 hl2⟩);rintro⟨⟨i,H₃⟩,g1,g2,g3⟩ ih;simp only at g1 g2 g3;show Tc M St _ _ H₃ _ [(1,.pointer (some ⟨b1,0,none⟩)),(5,.int .i64 (i:Nat))] [(b1,true,.cells ⟨(b.val a).cells.toList⟩ 26 (0,0))] _ _;by_cases c1:i=b.nr
      ·subst c1;refine U15 ?_;refine .rt hK func10 results10 [_] ?_;exact fun H' hs=> ⟨View.le_trans g3 hs.base,0,rfl,fun _=> { room:=r1,gap:=r2,nm:=hnm,name:=fun i hi=> (hms i hi).1,apart:=fun i hi=> (hms i hi).2.1,gr:=hgr,due:=fun i hi=> (hms i hi).2.2.2,ns:=hns,np:=fun i hi=> (hss i hi).1,parts:=fun i hi j hj=> ((hss i hi).2 j hj).1,once:=fun i hi j hj=> ((hss i hi).2 j hj).2,nr:=by omega,recs:=g2 }⟩
      ·have c2:i<b.nr:=by omega
       obtain⟨_,h0|⟨k,o,f,gs,gt,gz,q1,q2,q3⟩⟩:=(hb.le g3).recs
       ·omega
       have f1:=q3 i c2;have hrec:=CheckRecord6_c M H₃ b a (hb.le g3) oM hgr hns (b.kd i) (b.ra i) (b.rb i) (b.rm i);obtain⟨aA,mc,aS,sc,aR,rc⟩:=a;simp only at q1;subst q1;refine U14 ?_;refine Tc.dr [] [] mixed rfl ?_;refine V6 0 ?_;refine Ta.callL 6 kR rfl rfl rfl rfl rfl rfl rfl dE (FnT.h hrec) (by intro _ _ hh;exact hh.1) sL (.inr sL) (fun v H₄ hv=> ?_);obtain⟨hl4,z4,rfl,m4⟩:=hv;refine .ea 7 rfl (Or.ofV .sg rfl dE ⟨S2.mkL (by assumption) sL (.inr sL),?_⟩);refine .dn ?_;by_cases e4:z4=0
       ·subst e4;refine U13 ?_;exact Tc.db (ih ⟨(i+1,H₄),by simp only;omega,fun j hj=> by
         by_cases e:j=i
         ·subst e;exact m4 rfl
         ·exact g2 j (by simp only at hj;omega),View.le_trans g3 hl4⟩ (by simp only;omega))
       ·refine U11 ?_;refine .rt hK func10 results10 [_] ?_;exact fun H' hs=> hbad z4 e4 H' (View.le_trans g3 (View.le_trans hl4 hs.base))
    ·refine U13 ?_;refine .rt hK func10 results10 [_] ?_;exact fun H' hs=> hbad z2 e2 H' (View.le_trans hl1 (View.le_trans hl2 hs.base))
   ·refine U13 ?_;refine .rt hK func10 results10 [_] ?_;exact fun H' hs=> hbad z1 e1 H' (View.le_trans hl1 hs.base)
  ·refine U2 ?_;refine .bo fun b1=> ?_;refine U7 ?_;refine .cl (fun H hs=> In_c M H b.room 1 20 true (decide_eq_true r1)) ?_;refine U4 ?_;refine .cl (fun H hs=> In_c M H b.gap 0 99 false (decide_eq_false r2)) ?_;refine U8 ?_;refine .rt hK func10 results10 [_] ?_;exact fun H' hs=> hbad 1 dE H' hs.base
 ·refine U2 ?_;refine .bo fun b1=> ?_;refine U7 ?_;refine .cl (fun H hs=> In_c M H b.room 1 20 false (decide_eq_false r1)) ?_;refine U13 ?_;refine .rt hK func10 results10 [_] ?_;exact fun H' hs=> hbad 1 dE H' hs.base
theorem Fit6_c(b:Sb)(a:Sa)(hb:SbAt H b a):CallT M 4 #[b.val a] H (fun v H'=> H.le H'/\∃t:Bool,v=.bool t/\(t=true->b.small/\b.Ok)):=by
 refine .en func4 ntmps4 fun St c cs hK=> ?_;refine U2 ?_;refine .bo fun b1=> ?_;refine U5 ?_;refine To.callF rfl rfl rfl rfl rfl rfl dE (FnT.h (Great6_c M H b a hb)) (fun v H₁ hv=> ?_);obtain⟨hl1,t,rfl,m1⟩:=hv;cases t with
 | true=>
  refine U8 ?_;refine .rt hK func4 results4 [_] ?_;exact fun H' hs=> ⟨View.le_trans hl1 hs.base,false,rfl,fun h=> by cases h⟩
 | false=>
  have hs0:=m1 rfl;refine U3 ?_;refine To.callF rfl rfl rfl rfl rfl rfl dE (FnT.h (CheckBook6_c M H₁ b a (hb.le hl1) hs0)) (fun v H₂ hv=> ?_);obtain⟨hl2,z,rfl,m2⟩:=hv;by_cases e:z=0
  ·subst e;refine U4 ?_;refine .rt hK func4 results4 [_] ?_;exact fun H' hs=> ⟨View.le_trans hl1 (View.le_trans hl2 hs.base),true,rfl,fun _=> ⟨hs0,m2 rfl⟩⟩
  ·refine U4 ?_;refine .rt hK func4 results4 [_] ?_;exact fun H' hs=> ⟨View.le_trans hl1 (View.le_trans hl2 hs.base),false,rfl,fun h=> by cases h⟩
end
section
variable(M:Md prog)(H:View)
theorem HaveOf_c(b:Sb)(a:Sa)(hb:SbAt H b a)(ho:b.Ok)(F:Option Addr)(fc:Nat)(u:Nat->Nat)(hF:FreeAt H F b.ns (fun i=> (u i:Int)))(hu:∀i,i<b.ns->u i<=b.np i)(m:Nat)(hm:m<b.nm):
  CallT M 34 #[b.val a,.slice F b.ns fc,.int .i64 (m:Nat)] H (fun v H'=> H.le H'/\v=.int .i64 (haveN (fun p=> cntS b u p b.ns) m (b.gr m).toNat:Nat)):=by
 have hgr:=ho.gr m hm;obtain⟨_,h0|⟨k,o,f,gs,gt,gz,e1,e2,e3⟩⟩:=hb.msgs
 ·omega
 have f1:=e3 m hm;have f3:ldL false 1 gs (o+((m:Nat):Int).toNat*3+1)=some (.int .i64 (b.gr m)):=ldL_cell f1 dE;obtain⟨G,hG⟩:∃G:Nat,b.gr m=G:=⟨(b.gr m).toNat,oM⟩
 rw[hG] at f3 hgr ⊢;rw[Int.toNat_natCast];have hcp:=fun(H':View) (h':H.le H') (p:Int×Int)=> CopiesOf_c M H' b a (hb.le h') ho.few F fc u (hF.le h') hu p;obtain⟨aA,mc,aS,sc,aR,rc⟩:=a;simp only at e1;subst e1;refine .en func34 ntmps34 fun St c cs hK=> ?_;refine U2 ?_;refine .bo fun b3=> ?_;refine U12 ?_;refine Tc.db (Tc.loopInv (σ:= { g:Nat//g<=G }) (fun g=> ([(1,.slice F b.ns fc),(2,.int .i64 (m:Nat)),(3,.pointer (some ⟨b3,0,none⟩)),(7,.int .i64 (haveN (fun p=> cntS b u p b.ns) m g.1:Nat)),(8,.int .i64 (g.1:Nat))],[(b3,true,.cells ⟨(b.val ⟨some ⟨k,o,none⟩,mc,aS,sc,aR,rc⟩).cells.toList⟩ 26 (0,0))])) (fun g=> G-g.1) ?_ ⟨0,Nat.zero_le _⟩);rintro⟨g,hg⟩ ih;show Tc M St _ _ _ _ [(1,.slice F b.ns fc),(2,.int .i64 (m:Nat)),(3,.pointer (some ⟨b3,0,none⟩)),(7,.int .i64 (haveN (fun p=> cntS b u p b.ns) m g:Nat)),(8,.int .i64 (g:Nat))] [(b3,true,.cells ⟨(b.val ⟨some ⟨k,o,none⟩,mc,aS,sc,aR,rc⟩).cells.toList⟩ 26 (0,0))] _ _;by_cases c0:g=G
 ·subst c0;refine U19 ?_;refine .rt hK func34 results34 [_] ?_;exact okB
 ·have c1:g<G:=by omega
  have hle:haveN (fun p=> cntS b u p b.ns) m g<=g:=Nat.le_trans List.countP_le_length (by simp);have e4:haveN (fun p=> cntS b u p b.ns) m (g+1)=haveN (fun p=> cntS b u p b.ns) m g+if 0<cntS b u ((m:Int),(g:Int)) b.ns then 1 else 0:=by
   unfold haveN;rw[List.range_succ,List.countP_append,List.countP_singleton];simp
  have hz:=copN_zero (b:=b) (c:=u) (p:=((m:Int),(g:Int))) b.ns;obtain⟨w,hw⟩:∃w,haveN (fun p=> cntS b u p b.ns) m g=w:=⟨_,rfl⟩
  rw[hw] at e4 hle ⊢;have hc:=fun(H':View) (h':H.le H')=> hcp H' h' ((m:Int),(g:Int));by_cases c2:0<cntS b u ((m:Int),(g:Int)) b.ns
  ·rw[if_pos c2] at e4;have c3:0<copN b u ((m:Int),(g:Int)) b.ns:=by omega
   have hadd:intBin .add .i64 ((w:Nat):Int) 1=some (.int .i64 ((w+1:Nat):Int)):=by
    rw[add_in oM oM];rfl
   refine U23 ?_;refine .cl (fun H hs=> hc H hs.base) ?_;refine U14 ?_;rw[<-e4];exact Tc.db (ih ⟨g+1,oM⟩ (by simp only;omega))
  ·rw[if_neg c2] at e4;have c3:copN b u ((m:Int),(g:Int)) b.ns=0:=by omega
   have c4:((copN b u ((m:Int),(g:Int)) b.ns:Nat):Int)=0:=by omega
   refine U23 ?_;refine .cl (fun H hs=> hc H hs.base) ?_;refine U10 ?_;rw[show w=haveN (fun p=> cntS b u p b.ns) m (g+1) by omega];exact Tc.db (ih ⟨g+1,oM⟩ (by simp only;omega))
end
set_option maxHeartbeats 400000
def Sb.tkd(b:Sb)(u:Nat->Nat)(i:Nat):Int:=if b.kd i=0\/b.kd i=1 then(if u (b.ra i).toNat=b.np (b.ra i).toNat then 0 else 1) else b.kd i
def Sb.trm(b:Sb)(u:Nat->Nat)(i:Nat):Int:=
 if b.kd i=2 then(if(u (b.ra i).toNat:Int)<b.rm i then(u (b.ra i).toNat:Int) else b.rm i)
 else if b.kd i=3 then(if(u (b.ra i).toNat:Int)>b.rm i then(u (b.ra i).toNat:Int) else b.rm i)
 else if b.kd i=4 then(copN b u (b.ra i,b.rb i) b.ns:Nat)
 else if b.kd i=5 then(haveN (fun p=> cntS b u p b.ns) (b.ra i) (b.gr (b.ra i).toNat).toNat:Nat)
 else b.rm i
def Sb.truly(b:Sb)(u:Nat->Nat):Sb:= { b with kd:=b.tkd u,rm:=b.trm u }
def recsT(b:Sb)(u:Nat->Nat)(n:Nat):List Value:=(List.range n).flatMap fun i=> [.int .i64 (b.tkd u i),.int .i64 (b.ra i),.int .i64 (b.rb i),.int .i64 (b.trm u i)]
theorem recsT_succ(b:Sb)(u:Nat->Nat)(n:Nat):recsT b u (n+1)=recsT b u n++[.int .i64 (b.tkd u n),.int .i64 (b.ra n),.int .i64 (b.rb n),.int .i64 (b.trm u n)]:=by
 unfold recsT;rw[List.range_succ,List.flatMap_append];simp
theorem recsT_at {b:Sb}{u:Nat->Nat}{n i:Nat}(hi:i<n){jj:List Value}:ldL true 4 (recsT b u n++jj) (0+(i:Int).toNat*4)=some (recV (b.tkd u i) (b.ra i) (b.rb i) (b.trm u i)):=by
 have h:∀n,(recsT b u n).length=n*4:=by
  intro n;induction n with
  | zero=> rfl
  | succ n ih=> rw[recsT_succ,List.length_append,ih];simp;omega
 have h2:∀n,i<n->∀jj,((recsT b u n++jj).drop (i*4)).take 4= [.int .i64 (b.tkd u i),.int .i64 (b.ra i),.int .i64 (b.rb i),.int .i64 (b.trm u i)]:=by
  intro n;induction n with
  | zero=> intro h;omega
  | succ n ih=>
   intro hi jj;rw[recsT_succ,List.append_assoc];by_cases e:i=n
   ·subst e;rw[<-h i,List.drop_left];rfl
   ·exact ih oM _
 rw[Int.toNat_natCast,Nat.zero_add];have h3:=h2 n hi jj;have h4:Nat.ble (i*4+4) (recsT b u n++jj).length=true:=by
  rw[List.length_append,h];exact Nat.ble_eq_true_of_le oM
 unfold ldL;simp only[h4,h3];rfl
section
variable(M:Md prog)(H:View)
theorem part6_c(m g:Int):CallT M 33 #[.int .i64 m,.int .i64 g] H (fun v H'=> H.le H'/\v=prtV m g):=by
 refine .en func33 ntmps33 fun St c cs hK=> ?_;refine U2 ?_;refine .al fun b4=> ?_;refine U8 ?_;refine .rt hK func33 results33 [_] ?_;exact okB
theorem Truly_c(b:Sb)(a:Sa)(hb:SbAt H b a)(ho:b.Ok)(F:Option Addr)(fc:Nat)(u:Nat->Nat)(hF:FreeAt H F b.ns (fun i=> (u i:Int)))(hu:∀i,i<b.ns->u i<=b.np i):
  CallT M 9 #[b.val a,.slice F b.ns fc] H (fun v H'=> H.le H'/\∃a',v=(b.truly u).val a'/\SbAt H' (b.truly u) a'):=by
 have hnr:=ho.nr;have hcp:=fun(H':View) (h':H.le H') (p:Int×Int)=> CopiesOf_c M H' b a (hb.le h') ho.few F fc u (hF.le h') hu p;have hhv:=fun(H':View) (h':H.le H') (m:Nat) (hm:m<b.nm)=> HaveOf_c M H' b a (hb.le h') ho F fc u (hF.le h') hu m hm;refine .en func9 ntmps9 fun St c cs hK=> ?_;refine U2 ?_;refine .bo fun b2=> ?_;refine .al fun b4=> ?_;refine U4 ?_;refine .al fun b5=> ?_;refine U13 ?_;refine Tc.db (Tc.loopInv (σ:= { s:Nat×Gl 93 4//s.1<=b.nr/\s.2.l=recsT b u s.1/\s.2.n=s.1 })
  (fun s=> ([(1,.slice F b.ns fc),(2,.pointer (some ⟨b2,0,none⟩)),(4,.pointer (some ⟨b4,0,none⟩)),(5,.pointer (some ⟨b5,0,none⟩)),(6,.int .i64 (s.1.1:Nat))],[(b5,true,.cells ⟨[.int .i64 b.room,.int .i64 b.gap,.slice a.A b.nm a.mc,.slice a.S b.ns a.sc,s.1.2.val]⟩ 26 (0,0)),(b4,true,.cells ⟨[.int .i64 0,.int .i64 0,.slice none 0 0,.slice none 0 0,.slice none 0 0]⟩ 26 (0,0)),(b2,true,.cells ⟨(b.val a).cells.toList⟩ 26 (0,0))]++s.1.2.bl)) (fun s=> b.nr-s.1.1) ?_ ⟨(0,Gl.nil 93 4),Nat.zero_le _,rfl,rfl⟩)
 rintro⟨⟨i,g⟩,g1,g2,g3⟩ ih;simp only at g1 g2 g3;show Tc M St _ _ H _ [(1,.slice F b.ns fc),(2,.pointer (some ⟨b2,0,none⟩)),(4,.pointer (some ⟨b4,0,none⟩)),(5,.pointer (some ⟨b5,0,none⟩)),(6,.int .i64 (i:Nat))] ([(b5,true,.cells ⟨[.int .i64 b.room,.int .i64 b.gap,.slice a.A b.nm a.mc,.slice a.S b.ns a.sc,g.val]⟩ 26 (0,0)),(b4,true,.cells ⟨[.int .i64 0,.int .i64 0,.slice none 0 0,.slice none 0 0,.slice none 0 0]⟩ 26 (0,0)),(b2,true,.cells ⟨(b.val a).cells.toList⟩ 26 (0,0))]++g.bl) _ _;by_cases c0:i=b.nr
 ·subst c0;refine U16 ?_;refine .rt hK func9 results9 [_] ?_;intro H' hs;have hb':=hb.le hs.base;refine⟨hs.base,⟨a.A,a.mc,a.S,a.sc,g.blk.map fun b=> ⟨b,0,none⟩,g.cap⟩,?_,⟨hb'.msgs,hb'.sess,?_,?_⟩⟩
  ·show _=Value.agg ⟨[.int .i64 b.room,.int .i64 b.gap,.slice a.A b.nm a.mc,.slice a.S b.ns a.sc,.slice (g.blk.map fun b=> ⟨b,0,none⟩) b.nr g.cap]⟩;rw[<-g3];rfl
  ·show b.nr<=g.cap;have:=g.hc;omega
  ·by_cases e:b.nr=0
   ·exact .inl e
   ·cases hbb:g.blk with
    | none=>
     have:=g.h0 hbb;have:=g.hc;omega
    | some tb=>
     refine .inr ⟨tb,0,true,g.l++g.junk,93,(0,0),rfl,hs.at_ (tb,true,.cells ⟨g.l++g.junk⟩ 93 (0,0)) ?_,fun j hj=> ?_⟩
     ·refine List.mem_cons_of_mem _ (List.mem_cons_of_mem _ (List.mem_cons_of_mem _ ?_));show _∈g.bl;unfold Gl.bl;rw[hbb];exact List.mem_singleton.2 rfl
     ·rw[g2];exact recsT_at hj
 ·have c1 : i<b.nr:=by omega
  obtain⟨_,h0|⟨k,o,f,gs,gt,gz,e1,e2,e3⟩⟩:=hb.recs
  ·omega
  have f1:=e3 i c1;have hrec:=ho.recs i c1;obtain⟨aA,mc,aS,sc,aR,rc⟩:=a;simp only at e1;subst e1;refine U20 ?_;refine .al fun b7=> ?_;refine U8 ?_;refine Tc.via (fun R' L'=> AllIn [(1,.slice F b.ns fc),(2,.pointer (some ⟨b2,0,none⟩)),(4,.pointer (some ⟨b4,0,none⟩)),(5,.pointer (some ⟨b5,0,none⟩)),(6,.int .i64 (i:Nat)),(7,.pointer (some ⟨b7,0,none⟩))] R'/\(([(b7,true,.cells ⟨[.int .i64 (b.tkd u i),.int .i64 (b.ra i),.int .i64 (b.rb i),.int .i64 (b.trm u i)]⟩ 93 (0,0)),(b5,true,.cells ⟨[.int .i64 b.room,.int .i64 b.gap,.slice aA b.nm mc,.slice aS b.ns sc,g.val]⟩ 26 (0,0)),(b4,true,.cells ⟨[.int .i64 0,.int .i64 0,.slice none 0 0,.slice none 0 0,.slice none 0 0]⟩ 26 (0,0)),(b2,true,.cells ⟨(b.val ⟨aA,mc,aS,sc,some ⟨k,o,none⟩,rc⟩).cells.toList⟩ 26 (0,0))]:Bl)++g.bl).Sublist L') ?_ (fun fin=> ?_)
  ·rintro R' L' ⟨hR',hL'⟩;refine Tc.dropB ?_ hR' hL';refine U4 ?_;refine .e (.bs (zz:=fun bs=> ?_));refine .e (Or.append (E:=en) 5 rfl rfl rfl rfl rfl rfl rfl rfl rfl rfl rfl rfl rfl rfl rfl (fun H hs=> SrcAt.of (hs.get (i:=0) rfl) (Nat.le_of_ble_eq_true rfl)) rfl oM rfl dE (fun g6 hn6 hl6=> ?_));refine U9 ?_;exact Tc.db (ih ⟨(i+1,g6),by simp only;omega,by simp only;rw[hl6,g2,recsT_succ];rfl,by simp only;rw[hn6,g3]⟩ (by simp only;omega))
  ·obtain ⟨k0,k5,_,_,_,r3,r4,r5⟩:=hrec;by_cases hk3:b.kd i<=3
   ·obtain⟨x0,x1,_⟩:=r3 hk3;obtain⟨n,hn⟩:∃n:Nat,(b.ra i).toNat=n:=⟨_,rfl⟩
    have hnn:n<b.ns:=by omega
    have hun:=hu n hnn;have hnp:=ho.np n hnn;rcases hF with h0|⟨fb,fo,ff,fgs,fgt,fgz,rfl,hfb,hfl⟩
    ·omega
    have f2:ldL false 1 fgs (fo+(b.ra i).toNat*1)=some (.int .i64 (u n:Nat)):=by
     have:=hfl n hnn;simp only[Int.toNat_natCast] at this;rw[hn];exact this
    obtain⟨_,h0|⟨sk,so,sf,sgs,sgt,sgz,q1,q2,q3⟩⟩:=hb.sess
    ·omega
    obtain⟨P,pc,f3,hpc,hP⟩:=q3 n hnn;have f4:ldL false 1 sgs (so+(b.ra i).toNat*1+0)=some (.slice P (b.np n) pc):=by
     have:=ldL_cell f3 (d:=0) dE;simp only[Int.toNat_natCast] at this;rw[hn];exact this
    simp only at q1;subst q1;by_cases hk1:b.kd i=0\/b.kd i=1
    ·by_cases hev:u n=b.np n
     ·have t1:b.tkd u i=0:=by unfold Sb.tkd;rw[if_pos hk1,hn,if_pos hev]
      have t2:b.trm u i=b.rm i:=by unfold Sb.trm;rw[if_neg oM,if_neg oM,if_neg oM,if_neg oM]
      rw[t1,t2] at fin;rcases hk1 with hk1|hk1
      ·skip
       refine U16 ?_;refine Tc.dr [] [] mixed rfl ?_;refine V14 0 ?_;refine .dn ?_;refine U6 ?_;exact fin _ _ ⟨⟨rfl,rfl,rfl,rfl,rfl,rfl,trivial⟩,sL⟩
      ·skip
       refine U19 ?_;refine Tc.dr [] [] mixed rfl ?_;refine V14 0 ?_;refine .dn ?_;refine U6 ?_;exact fin _ _ ⟨⟨rfl,rfl,rfl,rfl,rfl,rfl,trivial⟩,sL⟩
     ·have t1:b.tkd u i=1:=by unfold Sb.tkd;rw[if_pos hk1,hn,if_neg hev]
      have t2:b.trm u i=b.rm i:=by unfold Sb.trm;rw[if_neg oM,if_neg oM,if_neg oM,if_neg oM]
      have hev':((u n:Nat):Int)≠((b.np n:Nat):Int):=by omega
      rw[t1,t2] at fin;rcases hk1 with hk1|hk1
      ·skip
       refine U16 ?_;refine Tc.dr [] [] mixed rfl ?_;refine V14 0 ?_;refine .dn ?_;refine U3 ?_;exact fin _ _ ⟨⟨rfl,rfl,rfl,rfl,rfl,rfl,trivial⟩,sL⟩
      ·skip
       refine U19 ?_;refine Tc.dr [] [] mixed rfl ?_;refine V14 0 ?_;refine .dn ?_;refine U3 ?_;exact fin _ _ ⟨⟨rfl,rfl,rfl,rfl,rfl,rfl,trivial⟩,sL⟩
    ·have t1:b.tkd u i=b.kd i:=by unfold Sb.tkd;rw[if_neg hk1]
     by_cases hk2:b.kd i=2
     ·have t2:b.trm u i=if(u n:Int)<b.rm i then(u n:Int) else b.rm i:=by unfold Sb.trm;rw[if_pos hk2,hn]
      rw[t1,t2] at fin;refine U19 ?_;refine Tc.dr [9] [0] mixed rfl ?_;refine V7 0 ?_;refine .q 7 rfl (OpV.min rfl rfl rfl rfl rfl rfl (by exact rfl)) ?_;refine .nn 8 ?_;refine .e 9 0 ?_;refine .dn ?_;refine U ?_;exact fin _ _ ⟨⟨rfl,rfl,rfl,rfl,rfl,rfl,trivial⟩,sL⟩
     ·have hk3':b.kd i=3:=by omega
      have t2:b.trm u i=if(u n:Int)>b.rm i then(u n:Int) else b.rm i:=by unfold Sb.trm;rw[if_neg oM,if_pos hk3',hn]
      rw[t1,t2] at fin;refine U25 ?_;refine Tc.dr [9] [0] mixed rfl ?_;refine V7 0 ?_;refine .q 7 rfl (OpV.max rfl rfl rfl rfl rfl rfl (by exact rfl)) ?_;refine .nn 8 ?_;refine .e 9 0 ?_;refine .dn ?_;refine U ?_;exact fin _ _ ⟨⟨rfl,rfl,rfl,rfl,rfl,rfl,trivial⟩,sL⟩
   ·have t1:b.tkd u i=b.kd i:=by unfold Sb.tkd;rw[if_neg oM]
    by_cases hk4:b.kd i=4
    ·have t2:b.trm u i=(copN b u (b.ra i,b.rb i) b.ns:Nat):=by unfold Sb.trm;rw[if_neg oM,if_neg oM,if_pos hk4]
     rw[t1,t2] at fin;refine U31 ?_;refine Tc.dr [9] [0] mixed rfl ?_;refine V6 0 ?_;refine .z 6 rfl (OpV.tk fun H hs=> part6_c M H (b.ra i) (b.rb i)) ?_;refine .z 7 rfl (OpV.tk fun H hs=> hcp H hs.base (b.ra i,b.rb i)) ?_;refine .nn 8 ?_;refine .e 9 0 ?_;refine .dn ?_;refine U ?_;exact fin _ _ ⟨⟨rfl,rfl,rfl,rfl,rfl,rfl,trivial⟩,sL⟩
    ·have hk5:b.kd i=5:=by omega
     obtain⟨x0,x1,_⟩:=r5 hk5;obtain⟨n,hn⟩:∃n:Nat,(b.ra i).toNat=n:=⟨_,rfl⟩
     have hnn:n<b.nm:=by omega
     have hnx:b.ra i=(n:Int):=by omega
     have hhv5:=fun(H':View) (h':H.le H')=> (show CallT M 34 _ _ _ from by have h5:=hhv H' h' n hnn;rw[<-hnx] at h5;exact h5)
     have t2:b.trm u i=(haveN (fun p=> cntS b u p b.ns) (b.ra i) (b.gr n).toNat:Nat):=by unfold Sb.trm;rw[if_neg oM,if_neg oM,if_neg oM,if_pos hk5,hn]
     rw[t1,t2] at fin;refine U42 ?_;refine .cl (fun H hs=> hhv5 H hs.base) ?_;refine U4 ?_;exact fin _ _ ⟨⟨rfl,rfl,rfl,rfl,rfl,rfl,trivial⟩,sL⟩
end
set_option maxHeartbeats 16000000
theorem natsL_ld {l:List Nat}{jj:List Value}{k:Nat}(hk:k<l.length):ldL false 1 (natsL l++jj) (0+((k:Nat):Int).toNat*1)=some (.int .i64 (l[k]?.getD 0:Nat)):=by
 show(natsL l++jj)[0+((k:Nat):Int).toNat*1]? =_;rw[Int.toNat_natCast,Nat.zero_add,Nat.mul_one,List.getElem?_append_left (by rw[natsL_len];exact hk)];unfold natsL;rw[List.getElem?_map,List.getElem?_eq_getElem hk];rfl
theorem natsL_ble {l:List Nat}{jj:List Value}{k:Nat}(hk:k<l.length):Nat.ble (0+((k:Nat):Int).toNat*1+1) (natsL l++jj).length=true:=by
 rw[List.length_append,natsL_len];exact Nat.ble_eq_true_of_le oM
theorem natsL_st {l:List Nat}{jj:List Value}{k x:Nat}(hk:k<l.length):stL (natsL l++jj) (0+((k:Nat):Int).toNat*1) [.int .i64 (x:Nat)]=natsL (l.set k x)++jj:=by
 unfold stL;rw[Int.toNat_natCast,Nat.zero_add,Nat.mul_one];have e1:natsL (l.set k x)=(natsL l).set k (.int .i64 (x:Nat)):=by unfold natsL;rw[List.map_set]
 rw[e1,List.set_eq_take_append_cons_drop,if_pos (by rw[natsL_len];exact hk),List.take_append_of_le_length (by rw[natsL_len];omega),List.drop_append_of_le_length (by rw[natsL_len];simp only[List.length_cons,List.length_nil];omega)];simp
def TapQ(H:View)(n:Nat)(lo:Nat->Nat)(pl:Nat->Int)(v:Value)(H':View):Prop:=
 H.le H'/\((v=.tuple ⟨[.slice none 0 0,.bool false]⟩/\¬∀i,i<n->okAt n lo pl i)\/ 
  (∀i,i<n->okAt n lo pl i)/\∃g:Gl 3 1,v=.tuple ⟨[g.val,.bool (!(firstTo (fun i=> decide ((0:Int)=(((tapS lo pl n)[i]?.getD 0:Nat):Int))) (tapS lo pl n).length).isSome)]⟩/\g.l=natsL (tapS lo pl n)/\g.n=(tapS lo pl n).length/\(g.n=0->g=Gl.nil 3 1)/\∀x∈g.bl,H' x.1=some x.2/\H x.1=none)
section
variable(M:Md prog)(H:View)
theorem tapes_c (b:Sb)(a:Sa)(bs pb:Nat)(hnm:b.nm<=5)(lo:Nat->Nat)(hlo:∀i,lo i<=20)(pl:Nat->Int)(hbs:∃f,H bs=some (f,.cells ⟨cellsN lo b.nm⟩ 3 (0,0)))(hP:FreeAt H (some ⟨pb,0,none⟩) b.nm pl):
  CallT M 82 #[nightV b a bs,.slice (some ⟨pb,0,none⟩) b.nm b.nm] H (TapQ H b.nm lo pl):=by
 obtain⟨fbs,hbs⟩:=hbs;refine .en func82 ntmps82 fun St c cs hK=> ?_;refine U2 ?_;refine .bo fun b2=> ?_;refine U15 ?_;refine Tc.db (Tc.loopInv (σ:= { s:Nat×Gl 3 1//s.1<=b.nm/\(∀j,j<s.1->okAt b.nm lo pl j)/\s.2.l=natsL (tapS lo pl s.1)/\s.2.n=(tapS lo pl s.1).length/\(s.2.n=0->s.2=Gl.nil 3 1) })
  (fun s=> ([(1,.slice (some ⟨pb,0,none⟩) b.nm b.nm),(2,.pointer (some ⟨b2,0,none⟩)),(6,s.1.2.val),(9,.slice (some ⟨pb,0,none⟩) b.nm b.nm),(10,.int .i64 (b.nm:Nat)),(11,.int .i64 (s.1.1:Nat))],[(b2,true,.cells ⟨(nightV b a bs).cells.toList⟩ 106 (0,0))]++s.1.2.bl)) (fun s=> b.nm-s.1.1) ?_ ⟨(0,Gl.nil 3 1),Nat.zero_le _,fun j hj=> by omega,rfl,rfl,fun _=> rfl⟩)
 rintro⟨⟨i,g⟩,g1,g2,g3,g4,g5⟩ ih;simp only at g1 g2 g3 g4 g5;show Tc M St _ _ H _ [(1,.slice (some ⟨pb,0,none⟩) b.nm b.nm),(2,.pointer (some ⟨b2,0,none⟩)),(6,g.val),(9,.slice (some ⟨pb,0,none⟩) b.nm b.nm),(10,.int .i64 (b.nm:Nat)),(11,.int .i64 (i:Nat))] ([(b2,true,.cells ⟨(nightV b a bs).cells.toList⟩ 106 (0,0))]++g.bl) _ _;by_cases c0:i=b.nm
 ·subst c0;have hlen:=(tapS_len (n:=b.nm) (lo:=lo) (pl:=pl) b.nm g2).1;have hct:=fun(H':View) (h':∀x∈g.bl,H' x.1=some x.2)=> ContainsN_c M H' (g.blk.map fun b=> ⟨b,0,none⟩) (tapS lo pl b.nm).length g.cap (fun i=> (((tapS lo pl b.nm)[i]?.getD 0:Nat):Int)) (free_of g h' g4 (fun j hj=> by
   rw[g3];unfold natsL;rw[List.getElem?_map,List.getElem?_eq_getElem hj];rfl)) oM 0
  rw[<-g4] at hct;refine U11 ?_;refine .cl (fun H hs=> hct H fun x hx=> hs.at_ x (List.mem_append_right _ hx)) ?_;refine U4 ?_;refine .rt hK func82 results82 [_,_] ?_;exact fun H' hs=> ⟨hs.base,.inr ⟨g2,g,by rw[g4];rfl,g3,g4,g5,fun x hx=> ⟨hs.at_ x (List.mem_append_right _ hx),hs.out x (List.mem_append_right _ hx)⟩⟩⟩
 ·have c1 : i < b.nm:=by omega
  rcases hP with h0|⟨pb',po,pf,pgs,pgt,pgz,e1,e2,e3⟩
  ·omega
  cases e1
  have f1:=e3 i c1;have f2:=cellsN_ld lo c1;have hloi:=hlo i;by_cases k1:pl i < -1
  ·have hno:¬∀j,j<b.nm->okAt b.nm lo pl j:=fun h=> by have:=(h i c1).1;omega
   refine U46 ?_;refine .rt hK func82 results82 [_,_] ?_;exact fun H' hs=> ⟨hs.base,.inl ⟨rfl,hno⟩⟩
  ·by_cases k2 :(b.nm:Int)<=pl i
   ·have hno:¬∀j,j<b.nm->okAt b.nm lo pl j:=fun h=> by have:=(h i c1).2.1;omega
    refine U46 ?_;refine .rt hK func82 results82 [_,_] ?_;exact fun H' hs=> ⟨hs.base,.inl ⟨rfl,hno⟩⟩
   ·by_cases k3:pl i= -1
    ·by_cases k4:lo i=0
     ·have k4':((lo i:Nat):Int)=0:=by omega
      have htp:tapS lo pl (i+1)=tapS lo pl i:=by
       show(if pl i<0 then _ else _)=_;rw[if_pos oM]
      refine U54 ?_;exact Tc.db (ih ⟨(i+1,g),by simp only;omega,fun j hj=> by
       by_cases e:j=i
       ·subst e;exact⟨oM,oM,fun _=> k4,fun _=> k3⟩
       ·exact g2 j (by simp only at hj;omega),by simp only;rw[htp];exact g3,by simp only;rw[htp];exact g4,g5⟩ (by simp only;omega))
     ·have hno:¬∀j,j<b.nm->okAt b.nm lo pl j:=fun h=> k4 ((h i c1).2.2.1 k3);have k4':((lo i:Nat):Int)≠0:=by omega
      refine U46 ?_;refine .rt hK func82 results82 [_,_] ?_;exact fun H' hs=> ⟨hs.base,.inl ⟨rfl,hno⟩⟩
    ·by_cases k4:lo i=0
     ·have hno:¬∀j,j<b.nm->okAt b.nm lo pl j:=fun h=> k3 ((h i c1).2.2.2 k4);have k4':((lo i:Nat):Int)=0:=by omega
      refine U46 ?_;refine .rt hK func82 results82 [_,_] ?_;exact fun H' hs=> ⟨hs.base,.inl ⟨rfl,hno⟩⟩
     ·have k4':((lo i:Nat):Int)≠0:=by omega
      obtain⟨k,hk⟩:∃k:Nat,pl i=k:=⟨(pl i).toNat,oM⟩
      have hkn:k<b.nm:=by omega
      have hok:∀j,j<i+1->okAt b.nm lo pl j:=fun j hj=> by
       by_cases e:j=i
       ·subst e;exact⟨oM,oM,fun h=> (k3 h).elim,fun h=> (k4 h).elim⟩
       ·exact g2 j oM
      have htp:tapS lo pl (i+1)=addAt (padTo (tapS lo pl i) (k+1)) k (lo i):=by
       show(if pl i<0 then _ else _)=_;rw[if_neg oM,hk,Int.toNat_natCast]
      have hvl:=tapS_le (pl:=pl) hlo i;have hlen:=(tapS_len (n:=b.nm) (lo:=lo) (pl:=pl) i g2).1;obtain⟨out,hout⟩:∃out,tapS lo pl i=out:=⟨_,rfl⟩
      rw[hout] at g3 g4 htp hvl hlen;rw[hk] at f1 k1 k2 k3;refine U52 ?_;refine Tc.db (Tc.loopInv (σ:= { s:Gl 3 1×Nat//s.1.l=natsL (out++List.replicate s.2 0)/\s.1.n=out.length+s.2/\(s.2=0\/s.1.n<=k+1)/\(s.1.n=0->s.1=Gl.nil 3 1) })
       (fun s=> ([(1,.slice (some ⟨pb,0,none⟩) b.nm b.nm),(2,.pointer (some ⟨b2,0,none⟩)),(6,s.1.1.val),(7,.int .i64 (i:Nat)),(8,.int .i64 (k:Nat)),(9,.slice (some ⟨pb,0,none⟩) b.nm b.nm),(10,.int .i64 (b.nm:Nat)),(11,.int .i64 (i:Nat))],[(b2,true,.cells ⟨(nightV b a bs).cells.toList⟩ 106 (0,0))]++s.1.1.bl)) (fun s=> k+1-s.1.1.n) ?_ ⟨(g,0),by simp only[List.replicate_zero,List.append_nil];exact g3,g4,.inl rfl,g5⟩)
      rintro⟨⟨g6,q⟩,p1,p2,p3,p4⟩ ih₂;simp only at p1 p2 p3 p4;show Tc M St _ _ H _ [(1,.slice (some ⟨pb,0,none⟩) b.nm b.nm),(2,.pointer (some ⟨b2,0,none⟩)),(6,g6.val),(7,.int .i64 (i:Nat)),(8,.int .i64 (k:Nat)),(9,.slice (some ⟨pb,0,none⟩) b.nm b.nm),(10,.int .i64 (b.nm:Nat)),(11,.int .i64 (i:Nat))] ([(b2,true,.cells ⟨(nightV b a bs).cells.toList⟩ 106 (0,0))]++g6.bl) _ _;by_cases d0:g6.n<=k
      ·refine U13 ?_;refine .e (.bs (zz:=fun bs2=> ?_));refine .e (Or.append (E:=en) 2 rfl rfl rfl rfl rfl rfl rfl rfl rfl rfl rfl rfl rfl rfl rfl (fun H hs=> SrcAt.of (hs.get (i:=0) rfl) (Nat.le_of_ble_eq_true rfl)) rfl oM rfl dE (fun g7 hn7 hl7=> ?_));refine U3 ?_;exact Tc.db (ih₂ ⟨(g7,q+1),by simp only;rw[hl7,p1,List.replicate_succ',<-List.append_assoc,natsL_app (out++List.replicate q 0)];rfl,by simp only;omega,.inr (by simp only;omega),fun h=> by simp only at h;omega⟩ (by simp only;omega))
      ·have hq:q=k+1-out.length:=by omega
       have hpd:out++List.replicate q 0=padTo out (k+1):=by unfold padTo;rw[hq]
       rw[hpd] at p1;have hpl:g6.n=(padTo out (k+1)).length:=by rw[padTo_len];omega
       obtain⟨w,hw⟩:∃w,(padTo out (k+1))[k]?.getD 0=w:=⟨_,rfl⟩
       have hk2:k<(padTo out (k+1)).length:=by rw[padTo_len];omega
       have hwl:w<=20*i:=by
        rw[<-hw,List.getElem?_eq_getElem hk2];have hm:=List.getElem_mem hk2;show(padTo out (k+1))[k]<=_;unfold padTo at hm;rcases List.mem_append.1 hm with hm|hm
        ·exact hvl _ hm
        ·have:=List.eq_of_mem_replicate hm;unfold padTo;omega
       obtain⟨tb,htb⟩:∃tb,g6.blk=some tb:=by
        cases hbb:g6.blk with
        | none=>
         have:=g6.h0 hbb;have:=g6.hc;omega
        | some tb=> exact⟨tb,rfl⟩
       have hbl:g6.bl= [(tb,true,.cells ⟨natsL (padTo out (k+1))++g6.junk⟩ 3 (0,0))]:=by unfold Gl.bl;rw[htb,p1]
       have hval:g6.val=.slice (some ⟨tb,0,none⟩) g6.n g6.cap:=by unfold Gl.val;rw[htb];rfl
       have f3:=natsL_ld (jj:=g6.junk) hk2;have t3:=natsL_ble (jj:=g6.junk) hk2;have s3:=natsL_st (jj:=g6.junk) (x:=w+lo i) hk2;rw[hw] at f3;have hadd:intBin .add .i64 ((w:Nat):Int) ((lo i:Nat):Int)=some (.int .i64 ((w+lo i:Nat):Int)):=by
        rw[add_in oM oM];rfl
       have hkk:k<g6.n:=by omega
       let g8:Gl 3 1:=withL g6 (natsL ((padTo out (k+1)).set k (w+lo i))) (by rw[p1,natsL_len,natsL_len,List.length_set])
       have h8b:g8.bl= [(tb,true,.cells ⟨natsL ((padTo out (k+1)).set k (w+lo i))++g6.junk⟩ 3 (0,0))]:=by
        show(match g6.blk with|none=> [] | some b=> _)=_;rw[htb];rfl
       have h8v:g8.val=.slice (some ⟨tb,0,none⟩) g6.n g6.cap:=hval;have hfin:=ih ⟨(i+1,g8),by simp only;omega,hok,by simp only;rw[htp];unfold addAt;rw[hw];rfl,by simp only;rw[htp];unfold addAt;rw[List.length_set];exact hpl,fun h=> by
        have:g6.n=0:=h;omega⟩ (by simp only;omega)
       simp only[h8b,h8v] at hfin;rw[hbl,hval];refine U10 ?_;refine Tc.dr [11] [1] mixed rfl ?_;refine V11 0 ?_;refine .e 11 1 ?_;refine .dn ?_;refine U5 ?_;exact Tc.db (hfin)
end
section
variable(M:Md prog)(H:View)
theorem late1_c(b:Sb)(a:Sa)(bs b3:Nat)(h3:∃f,H b3=some (f,.cells ⟨(nightV b a bs).cells.toList⟩ 106 (0,0)))(x:Int):
  FnT M (.func (.func 134) #[] #[.pointer (some ⟨b3,0,none⟩)]) [.int .i64 x] H fun v H'=> H.le H'/\v=.bool (decide (b.room<x)):=by
 obtain⟨f,h3⟩:=h3;refine FnT.of (first:= []) (captured:= [_]) ca134 rfl ?_;refine .en func134 ntmps134 fun St c cs hK=> ?_;by_cases c0:b.room<x
 ·rw[decide_eq_true c0] at hK;refine U14 ?_;refine .rt hK func134 results134 [_] ?_;exact okB
 ·rw[decide_eq_false c0] at hK;refine U14 ?_;refine .rt hK func134 results134 [_] ?_;exact okB
theorem late_c(b:Sb)(a:Sa)(bs:Nat)(hb:SbAt H b a)(ho:b.Ok)(P:Option Addr)(pc:Nat)(pl:Nat->Int)(hP:FreeAt H P b.nm pl)(F:Option Addr)(m fc:Nat)(x:Nat->Int)(hF:FreeAt H F m x)(hm:m<=5)(hx:∀i,i<m->0<=x i/\x i<=1000)(hpl:∀i,i<b.nm->pl i<m):
  CallT M 83 #[nightV b a bs,.slice P b.nm pc,.slice F m fc] H (fun v H'=> H.le H'/\∃(z:Int) (t:Bool),v=.tuple ⟨[.int .i64 z,.bool t]⟩/\ -999<=z/\z<=10000):=by
 have hnm:=ho.nm;refine .en func83 ntmps83 fun St c cs hK=> ?_;refine U2 ?_;refine .bo fun b3=> ?_;refine U7 ?_;refine To.callF rfl rfl rfl rfl rfl rfl dE (FnT.h (ends_c M H b a bs ho F m fc x hF hm hx 0 oM)) (fun v H₁ hv=> ?_);obtain⟨hle,g,rfl,⟨k1,k2⟩,k3⟩:=hv;have hE:=free_of g (fun y hy=> (k3 y hy).1) k2 (x:=fun j=> endN b.gap x 0 (j+1)) (fun j hj=> by
  rw[k1];unfold endsL;rw[List.getElem?_map,List.getElem?_range hj];rfl)
 obtain⟨gA,hgA⟩:∃gA:Option Addr,g.blk.map (fun b=> (⟨b,0,none⟩:Addr))=gA:=⟨_,rfl⟩
 have hgv:g.val=.slice gA m g.cap:=by rw[<-hgA,<-k2];rfl
 rw[hgA] at hE;rw[hgv];refine U14 ?_;refine Tc.db (Tc.loopInv (σ:= { s:Nat×Int//s.1<=b.nm/\ -999<=s.2/\s.2<=10000 })
  (fun s=> ([(2,.slice F m fc),(3,.pointer (some ⟨b3,0,none⟩)),(8,.slice gA m g.cap),(9,.int .i64 s.1.2),(15,.slice P b.nm pc),(16,.int .i64 (b.nm:Nat)),(17,.int .i64 (s.1.1:Nat))],[(b3,true,.cells ⟨(nightV b a bs).cells.toList⟩ 106 (0,0))])) (fun s=> b.nm-s.1.1) ?_ ⟨(0, -999),Nat.zero_le _,by decide,by decide⟩)
 rintro⟨⟨i,z⟩,g1,g2,g3⟩ ih;simp only at g1 g2 g3;show Tc M St _ _ H₁ _ [(2,.slice F m fc),(3,.pointer (some ⟨b3,0,none⟩)),(8,.slice gA m g.cap),(9,.int .i64 z),(15,.slice P b.nm pc),(16,.int .i64 (b.nm:Nat)),(17,.int .i64 (i:Nat))] [(b3,true,.cells ⟨(nightV b a bs).cells.toList⟩ 106 (0,0))] _ _;by_cases c0:i=b.nm
 ·subst c0;have hct:=fun(H':View) (h':H₁.le H') (h3:∃f,H' b3=some (f,.cells ⟨(nightV b a bs).cells.toList⟩ 106 (0,0)))=> ContainsI_c M H' F m fc x (hF.le (View.le_trans hle h')) oM (.func (.func 134) #[] #[.pointer (some ⟨b3,0,none⟩)]) (fun j=> decide (b.room<x j)) (fun j _ H'' h''=> late1_c M H'' b a bs b3 (h3.imp fun _ e=> h'' _ _ e) (x j));refine U12 ?_;refine .cl (fun H hs=> hct H hs.base ⟨true,hs.get (i:=0) rfl⟩) ?_;refine U4 ?_;refine .rt hK func83 results83 [_,_] ?_;exact fun H' hs=> ⟨View.le_trans hle hs.base,z,_,rfl,g2,g3⟩
 ·have c1:i<b.nm:=by omega
  rcases hP.le hle with h0|⟨pb,po,pf,pgs,pgt,pgz,rfl,e2,e3⟩
  ·omega
  have f1:=e3 i c1;have hpi:=hpl i c1;by_cases c2:0<=pl i
  ·obtain⟨k,hk⟩:∃k:Nat,pl i=k:=⟨(pl i).toNat,oM⟩
   rw[hk] at f1 c2 hpi;have hkm:k<m:=by omega
   rcases hE with h0|⟨eb,eo,ef,egs,egt,egz,rfl,w2,w3⟩
   ·omega
   have f2:=w3 k hkm;have hend:=endN_in ho.gap (now:=0) oM (k+1) (fun j hj=> hx j oM);obtain⟨w,hw⟩:∃w,endN b.gap x 0 (k+1)=w:=⟨_,rfl⟩
   simp only at f2;rw[hw] at f2 hend;obtain⟨_,h0|⟨mk,mo,mf,mgs,mgt,mgz,r1,r2,r3⟩⟩:=(hb.le hle).msgs
   ·omega
   have f4:=r3 i c1;have f5:ldL false 1 mgs (mo+((i:Nat):Int).toNat*3+2)=some (.int .i64 (b.due i)):=ldL_cell f4 dE;have hdu:=ho.due i c1;obtain⟨aA,mc,aS,sc,aR,rc⟩:=a;simp only at r1;subst r1;refine U23 ?_;refine Tc.dr [] [] mixed rfl ?_;refine V14 0 ?_;refine .q 14 rfl (OpV.max rfl rfl rfl rfl rfl rfl (by exact rfl)) ?_;refine .nn 15 ?_;refine .dn ?_;refine U5 ?_;exact Tc.db (ih ⟨(i+1,if w-b.due i>z then w-b.due i else z),by simp only;omega,by simp only;split <;> omega,by simp only;split <;> omega⟩ (by simp only;omega))
  ·refine U29 ?_;exact Tc.db (ih ⟨(i+1,z),by simp only;omega,g2,g3⟩ (by simp only;omega))
end
section
variable(M:Md prog)(H:View)
theorem good_c(b:Sb)(a:Sa)(bs:Nat)(hb:SbAt H b a)(ho:b.Ok)(P:Option Addr)(pc:Nat)(pl:Nat->Int)(hP:FreeAt H P b.nm pl)(F:Option Addr)(m fc:Nat)(x:Nat->Int)(hF:FreeAt H F m x)(hm:m<=5)(hx:∀i,i<m->0<=x i/\x i<=1000)(hpl:∀i,i<b.nm->pl i<m)(now:Int)(hw:0<=now/\now<=999):
  CallT M 44 #[nightV b a bs,.slice P b.nm pc,.slice F m fc,.int .i64 now] H (fun v H'=> H.le H'/\∃t:Bool,v=.bool t):=by
 refine .en func44 ntmps44 fun St c cs hK=> ?_;refine U2 ?_;refine .bo fun b4=> ?_;refine U7 ?_;refine To.callF rfl rfl rfl rfl rfl rfl dE (FnT.h (late_c M H b a bs hb ho P pc pl hP F m fc x hF hm hx hpl)) (fun v H₁ hv=> ?_);obtain⟨hle,z,t,rfl,z1,z2⟩:=hv;cases t with
 | false=>
  refine U15 ?_;refine To.skippedU rfl dE rfl ?_;refine To.skippedU rfl dE rfl ?_;refine To.skippedU rfl dE rfl ?_;refine U4 ?_;refine .rt hK func44 results44 [_] ?_;exact fun H' hs=> ⟨View.le_trans hle hs.base,_,rfl⟩
 | true=>
  by_cases c0:z+now<=0
  ·refine U22 ?_;refine .rt hK func44 results44 [_] ?_;exact fun H' hs=> ⟨View.le_trans hle hs.base,_,rfl⟩
  ·by_cases c1:m=0
   ·subst c1;refine U22 ?_;refine .rt hK func44 results44 [_] ?_;exact fun H' hs=> ⟨View.le_trans hle hs.base,_,rfl⟩
   ·refine U22 ?_;refine .rt hK func44 results44 [_] ?_;exact fun H' hs=> ⟨View.le_trans hle hs.base,_,rfl⟩
end
end Go.Proofs.YtcagolloalgfiaaGreatDoor
namespace Go.RL
open Go.Conc
set_option maxRecDepth 10000
def IterS {P:Program}(M:Md P){ε:Type}(fv:Value)(ok:ε->Prop)(arg:ε->List Value)(B B':ε->Bl)(Cap:View->Prop)(H:View):Prop:=
 ∀ (l:Nat) (J D:View->Prop),(∀H',J H'->Cap H')->J H-> 
  (∀e H' H'',ok e->J H'->SymSt H' (B e) H''->FnT M (.func (.yield l) #[] #[]) (arg e) H'' fun v H3=> (v=.bool true/\∃H₂,SymSt H₂ (B' e) H3/\J H₂)\/(v=.bool false/\D H3))-> 
  FnT M fv [.func (.yield l) #[] #[]] H fun _ H3=> ∃H₁,H₁.le H3/\(J H₁\/D H₁)
section
variable {P:Program}{M:Md P}{St:View->Goroutine->Prop}{n:Nat}{b:FB}{H₀:View}{cs:List Frame}{R:Rg}{L:Bl}{ds:List Deferred}{k:List Item}
variable {ε:Type}{fv:Value}{ok:ε->Prop}{arg:ε->List Value}{B B':ε->Bl}{Cap:View->Prop}
def RoundS(M:Md P)(n:Nat)(b:FB)(R:Rg)(ok:ε->Prop)(arg:ε->List Value)(B B':ε->Bl)(ts:List Nat)(assign body:Code)(I:View->Bl->Prop)(df:Nat)(T:Bl->Bl):Prop:=
 ∀ e l tmps asg bdy H₁ L₁,ok e->I H₁ L₁->∀(Q:Value->View->Prop) (St:View->Goroutine->Prop) (c:Frame) (cs:List Frame),(∀v H',Q v H'->Go.RL.T M St H' (G (c.finish v) cs))-> 
  (∀H' H₂ L₂,SymSt H₂ (B' e++(l,true,.loop (Loop.fresh b.fn tmps ts.toArray asg bdy df))::T L₂) H'->I H₂ L₂->Q (.bool true) H')-> 
  Tc M St n ⟨b.fn,.normal,some l⟩ H₁ (c::cs) (putR R ts (arg e)) (B e++(l,true,.loop (Loop.fresh b.fn tmps ts.toArray asg bdy df))::T L₁) [] [.code assign,.beginRound,.code body]
theorem Tc.rangeS {f:Operand}{assign body:Code}{ts:List Nat}{pa:Array Tmp}(I:View->Bl->Prop)(hpa:pa=ts.toArray)(hrd:b.rd=none)(hf:evR R f=some fv)(hit:∀H,Cap H->IterS M fv ok arg B B' Cap H)
  (hC:∀H H',H.le H'->Cap H->Cap H') (hI:∀H₁ L₁,I H₁ L₁->Cap H₁) (hts:(ts.all fun t=> Nat.blt t n)=true) (hlen:∀e,ts.length=(arg e).length) (h0:I H₀ L)
  (round:∀r,RoundS M n b R ok arg B B' ts assign body I r fun L₁=> (r,true,.deferred (some []))::L₁)
  (hk:∀r H₁ L₁,I H₁ L₁->Tc M St n b H₁ cs R ((r,true,.deferred (some []))::L₁) (markOf r::ds) k):
  Tc M St n b H₀ cs R L ds (.code (.rangeFunc f pa assign body)::k):=by
 subst hpa;refine Tc.rangeFunc hrd hf (fun l r j H₁ L₁=> j=none/\I H₁ L₁) (fun l r tmps H hr hs=> ?_) (fun l r j H₁ L₁ hz=> ?_)
 ·have hcap:Cap H:=hC _ _ hs.base (hI _ _ h0);have hJ:∀Hv,(∃H₁ L₁,SymSt H₁ ((l,true,.loop (Loop.fresh b.fn tmps ts.toArray assign body r))::(r,true,.deferred (some []))::L₁) Hv/\I H₁ L₁)->Cap Hv:=by
   rintro Hv ⟨H₁,L₁,h1,h2⟩;exact hC _ _ h1.base (hI _ _ h2)
  refine FnT.mono (hit H hcap l (fun Hv=> ∃H₁ L₁,SymSt H₁ ((l,true,.loop (Loop.fresh b.fn tmps ts.toArray assign body r))::(r,true,.deferred (some []))::L₁) Hv/\I H₁ L₁)
   (fun _=> False) hJ ⟨H₀,L,hs,h0⟩ ?_) ?_
  ·rintro e H' H'' hok ⟨H₁,L₁,h1,h2⟩ h3;refine FnT.round (i:=(B e).length) (lp:=Loop.fresh b.fn tmps ts.toArray assign body r) (l:=l) (h1.append h3) (by simp) rfl hts (hlen e) hr fun St c cs hK=> ?_;exact round r e l tmps assign body H₁ L₁ hok h2 _ St c cs hK (fun H' H₂ L₂ g1 g2=> by
    obtain⟨Hm,g3,g4⟩:=g1.unappend;exact .inl ⟨rfl,Hm,g3,H₂,L₂,g4,g2⟩)
  ·rintro v H' ⟨Hv,hle,⟨H₁,L₁,g1,g2⟩|hf⟩
   ·exact⟨H₁,L₁,Loop.fresh b.fn tmps ts.toArray assign body r,g1.mono hle,(fun h=> nomatch h),rfl,g2⟩
   ·exact hf.elim
 ·obtain⟨rfl,hz⟩:=hz;exact hk r H₁ L₁ hz
end
end Go.RL
namespace Go.Proofs.YtcagolloalgfiaaGreatDoor
open Go.RL Go.Proofs.Tryz
set_option maxRecDepth 10000
set_option maxHeartbeats 16000000
def updI(f:Nat->Int)(i:Nat)(x:Int):Nat->Int:=fun k=> if k=i then x else f k
def cellsI(f:Nat->Int)(n:Nat):List Value:=(List.range n).map fun i=> .int .i64 (f i)
theorem cellsI_len(f:Nat->Int)(n:Nat):(cellsI f n).length=n:=by simp[cellsI]
theorem cellsI_ld(f:Nat->Int){n i:Nat}(hi:i<n):ldL false 1 (cellsI f n) (0+(i:Int).toNat*1)=some (.int .i64 (f i)):=by
 show(cellsI f n)[0+(i:Int).toNat*1]? =_;rw[Int.toNat_natCast,Nat.zero_add,Nat.mul_one];unfold cellsI;rw[List.getElem?_map,List.getElem?_range hi];rfl
theorem cellsI_ble(f:Nat->Int){n i:Nat}(hi:i<n):Nat.ble (0+(i:Int).toNat*1+1) (cellsI f n).length=true:=by
 rw[cellsI_len];exact Nat.ble_eq_true_of_le oM
theorem cellsI_st(f:Nat->Int){n i:Nat}(hi:i<n)(x:Int):stL (cellsI f n) (0+(i:Int).toNat*1) [.int .i64 x]=cellsI (updI f i x) n:=by
 apply List.ext_getElem?
 intro j;unfold stL;rw[Int.toNat_natCast,Nat.zero_add,Nat.mul_one];have hl:((cellsI f n).take i++[Value.int .i64 x]).length=i+1:=by
  rw[List.length_append,List.length_take,cellsI_len];simp
  omega
 by_cases h1:j<i
 ·rw[List.append_assoc,List.getElem?_append_left (by rw[List.length_take,cellsI_len];omega),List.getElem?_take_of_lt h1];unfold cellsI;rw[List.getElem?_map,List.getElem?_map,List.getElem?_range oM];simp[updI,Nat.ne_of_lt h1]
 ·by_cases h2:j=i
  ·subst h2;rw[List.getElem?_append_left (by rw[hl];omega),List.getElem?_append_right (by rw[List.length_take,cellsI_len];omega)];unfold cellsI;rw[List.length_take,List.length_map,List.length_range,Nat.min_eq_left oM,Nat.sub_self,List.getElem?_map,List.getElem?_range hi];simp[updI]
  ·rw[List.getElem?_append_right (by rw[hl];omega),hl,List.getElem?_drop];simp only[List.length_cons,List.length_nil];rw[show i+(0+1)+(j-(i+1))=j by omega];unfold cellsI;rw[List.getElem?_map,List.getElem?_map];by_cases h3:j<n
   ·rw[List.getElem?_range h3];simp[updI,h2]
   ·rw[List.getElem?_eq_none (by simp;omega)];rfl
theorem cellsI_zero(n:Nat):zeroRow [.int .i64 0] (n*1)=cellsI (fun _=> 0) n:=by
 unfold cellsI zeroRow;simp
 intro a _;rw[Nat.mod_one];rfl
theorem cellsI_free {H:View}{pb n:Nat}{pl:Nat->Int}(h:∃f,H pb=some (f,.cells ⟨cellsI pl n⟩ 3 (0,0))):FreeAt H (some ⟨pb,0,none⟩) n pl:=by
 obtain⟨f,h⟩:=h;exact .inr ⟨pb,0,f,_,_,_,rfl,h,fun j hj=> cellsI_ld pl hj⟩
def plsF(bp b2 b3 b5:Nat):Value:=.func (.func 81) #[] #[.pointer (some ⟨bp,0,none⟩),.pointer (some ⟨b2,0,none⟩),.pointer (some ⟨b3,0,none⟩),.pointer (some ⟨b5,0,none⟩)]
def plsB(nv:Value)(l n pb bp b2 b3 b5:Nat):Bl:= [(b5,true,.cells ⟨[plsF bp b2 b3 b5]⟩ 163 (0,0)),(bp,true,.cells ⟨[.slice (some ⟨pb,0,none⟩) n n]⟩ 44 (0,0)),(b3,true,.cells ⟨[.func (.yield l) #[] #[]]⟩ 87 (0,0)),(b2,true,.cells ⟨nv.cells.toList⟩ 106 (0,0))]
def plnB(pb n:Nat)(pl:Nat->Int):Bl:= [(pb,true,.cells ⟨cellsI pl n⟩ 3 (0,0))]
structure Pln where
 pl:Nat->Int
 pb:Nat
 g:Gl 3 1
def Pln.ok(n:Nat)(lo:Nat->Nat)(e:Pln):Prop:=(∀i,i<n->okAt n lo e.pl i)/\e.g.l=natsL (tapS lo e.pl n)/\e.g.n=(tapS lo e.pl n).length
def CapP(n bs:Nat)(lo:Nat->Nat)(H:View):Prop:=∃f,H bs=some (f,.cells ⟨cellsN lo n⟩ 3 (0,0))
theorem CapP.le {n bs:Nat}{lo:Nat->Nat}(H H':View)(h:H.le H')(c:CapP n bs lo H):CapP n bs lo H':=c.imp fun _ e=> h _ _ e
theorem SymSt.withG {H₁ Hx H₃:View}{L:Bl}{e:TypeId}{sz:Nat}(h:SymSt H₁ L Hx)(g:Gl e sz)(hle:Hx.le H₃)(hg:∀x∈g.bl,H₃ x.1=some x.2/\Hx x.1=none):SymSt H₁ (L++g.bl) H₃:=by
 have h2:SymSt Hx g.bl H₃:=⟨by
  unfold Gl.bl;split <;> simp,fun x hx=> (hg x hx).2,fun x hx=> (hg x hx).1,hle⟩
 exact(h.append h2).perm List.perm_append_comm
section
variable(M:Md prog)(H:View)
theorem pls_c(b:Sb)(a:Sa)(hnm:b.nm<=5)(lo:Nat->Nat)(hlo:∀i,lo i<=20)(bs l pb bp b2 b3 b5:Nat)(J D:View->Prop)(hcap:∀H',J H'->CapP b.nm bs lo H')
  (hy:∀(e:Pln) H' H'',e.ok b.nm lo->J H'->SymSt H' (plnB e.pb b.nm e.pl++e.g.bl) H''->FnT M (.func (.yield l) #[] #[]) [.slice (some ⟨e.pb,0,none⟩) b.nm b.nm,e.g.val] H'' fun v H3=> (v=.bool true/\∃H₂,SymSt H₂ (plnB e.pb b.nm e.pl) H3/\J H₂)\/(v=.bool false/\D H3)):
  ∀ (d i:Nat) (pl:Nat->Int) (H₁ Hc:View),i+d=b.nm->J H₁->SymSt H₁ (plsB (nightV b a bs) l b.nm pb bp b2 b3 b5++plnB pb b.nm pl) Hc-> 
   CallT M 81 #[.int .i64 (i:Nat),.pointer (some ⟨bp,0,none⟩),.pointer (some ⟨b2,0,none⟩),.pointer (some ⟨b3,0,none⟩),.pointer (some ⟨b5,0,none⟩)] Hc
    (fun v H3=> (v=.bool true/\∃H₂ pl',SymSt H₂ (plsB (nightV b a bs) l b.nm pb bp b2 b3 b5++plnB pb b.nm pl') H3/\J H₂/\∀k,k<i->pl' k=pl k)\/(v=.bool false/\∃H₂,H₂.le H3/\D H₂)):=by
 intro d;induction d with
 | zero=>
  intro i pl H₁ Hc hid hJ hsy;have hcp:=hcap _ hJ;have hi:i=b.nm:=by omega
  subst hi;refine CallT.enter (vs:= [.int .i64 (b.nm:Nat),.pointer (some ⟨bp,0,none⟩),.pointer (some ⟨b2,0,none⟩),.pointer (some ⟨b3,0,none⟩),.pointer (some ⟨b5,0,none⟩)]) func81 rfl ntmps81 (Nat.le_of_ble_eq_true rfl) (hsy) fun St c cs hK=> ?_;unfold plsB;refine U17 ?_;refine To.lift (L₂:=plsB (nightV b a bs) l b.nm pb bp b2 b3 b5) (L₁:=plnB pb b.nm pl) rfl (fun Hx hx=> ?_);refine To.callF rfl rfl rfl rfl rfl rfl dE (FnT.h (tapes_c M Hx b a bs pb hnm lo hlo pl (hcp.imp fun _ e=> hx.base _ _ e) (cellsI_free ⟨true,hx.get (i:=0) rfl⟩))) (fun v H₃ hv=> ?_);obtain⟨hle,⟨rfl,hno⟩|⟨hok,g,rfl,k1,k2,k3,k4⟩⟩:=hv
  ·have hx2:SymSt H₁ (plnB pb b.nm pl) H₃:=hx.mono hle;refine To.expand hx2 ?_;unfold plsB plnB;refine U18 ?_;refine .rt hK func81 results81 [_] ?_;exact fun H' hs=> .inl ⟨rfl,H₁,pl,hs,hJ,fun _ _=> rfl⟩
  ·have hx2:SymSt H₁ (plnB pb b.nm pl++g.bl) H₃:=SymSt.withG hx g hle k4;refine To.expand hx2 ?_;unfold plsB plnB;cases (firstTo (fun i=> decide ((0:Int)=(((tapS lo pl b.nm)[i]?.getD 0:Nat):Int))) (tapS lo pl b.nm).length).isSome with
   | true=>
    refine U18 ?_;refine .rt hK func81 results81 [_] ?_;exact fun H' hs=> .inl ⟨rfl,H₁,pl,hs.less sL,hJ,fun _ _=> rfl⟩
   | false=>
    refine U14 ?_;refine To.lift (L₂:=plsB (nightV b a bs) l b.nm pb bp b2 b3 b5) (L₁:=plnB pb b.nm pl++g.bl) rfl (fun Hy hy1=> ?_);refine To.callF rfl rfl rfl rfl rfl rfl dE (hy ⟨pl,pb,g⟩ H₁ Hy ⟨hok,k1,k2⟩ hJ hy1) (fun v H₄ hv=> ?_);rcases hv with ⟨rfl,H5,h8,j3⟩|⟨rfl,hD⟩
    ·refine To.expand h8 ?_;unfold plsB plnB;refine U3 ?_;refine .rt hK func81 results81 [_] ?_;exact fun H' hs=> .inl ⟨rfl,H5,pl,hs,j3,fun _ _=> rfl⟩
    ·unfold plsB;refine U3 ?_;refine .rt hK func81 results81 [_] ?_;exact fun H' hs=> .inr ⟨rfl,H₄,hs.base,hD⟩
 | succ d ihd=>
  intro i pl H₁ Hc hid hJ hsy;have hi:i<b.nm:=by omega
  have f0:=cellsN_ld lo hi;obtain⟨fb,fcap⟩:=hcap _ hJ;have hloi:=hlo i;have hadd2:intBin .add .i64 ((i:Nat):Int) 1=some (.int .i64 ((i+1:Nat):Int)):=by
   rw[add_in oM oM];rfl
  by_cases c0:lo i=0
  ·have c0':((lo i:Nat):Int)=0:=by omega
   have t0:=cellsI_ble pl hi;have s0:=cellsI_st pl hi (-1);refine CallT.enter (vs:= [.int .i64 (i:Nat),.pointer (some ⟨bp,0,none⟩),.pointer (some ⟨b2,0,none⟩),.pointer (some ⟨b3,0,none⟩),.pointer (some ⟨b5,0,none⟩)]) func81 rfl ntmps81 (Nat.le_of_ble_eq_true rfl) (hsy) fun St c cs hK=> ?_;unfold plsB plnB;refine U15 ?_;refine Tc.dr [] [] mixed rfl ?_;refine V4 0 ?_;refine .dn ?_;refine U25 ?_;refine Tc.db (Tc.loopB (σ:= { x:Int×(Nat->Int)×View//(-1:Int)<=x.1/\x.1<=0/\x.2.1 i=x.1/\(∀k,k<i->x.2.1 k=pl k)/\J x.2.2 })
    (fun x=> (x.1.2.2,[(0,.int .i64 (i:Nat)),(1,.pointer (some ⟨bp,0,none⟩)),(2,.pointer (some ⟨b2,0,none⟩)),(3,.pointer (some ⟨b3,0,none⟩)),(4,.pointer (some ⟨b5,0,none⟩)),(10,.int .i64 0)],[(b5,true,.cells ⟨[plsF bp b2 b3 b5]⟩ 163 (0,0)),(bp,true,.cells ⟨[.slice (some ⟨pb,0,none⟩) b.nm b.nm]⟩ 44 (0,0)),(b3,true,.cells ⟨[.func (.yield l) #[] #[]]⟩ 87 (0,0)),(b2,true,.cells ⟨(nightV b a bs).cells.toList⟩ 106 (0,0)),(pb,true,.cells ⟨cellsI x.1.2.1 b.nm⟩ 3 (0,0))])) (fun x=> ((0:Int)-x.1.1).toNat) ?_ ⟨((-1),updI pl i (-1),H₁),by simp only;omega,by simp only;omega,by simp[updI],fun k hk=> by simp only;unfold updI;rw[if_neg oM],hJ⟩)
   rintro⟨⟨k,pl1,H₂⟩,g0,g1,g2,g3,j1⟩ ih;simp only at g0 g1 g2 g3 j1;show Tc M St _ _ H₂ _ [(0,.int .i64 (i:Nat)),(1,.pointer (some ⟨bp,0,none⟩)),(2,.pointer (some ⟨b2,0,none⟩)),(3,.pointer (some ⟨b3,0,none⟩)),(4,.pointer (some ⟨b5,0,none⟩)),(10,.int .i64 0)] [(b5,true,.cells ⟨[plsF bp b2 b3 b5]⟩ 163 (0,0)),(bp,true,.cells ⟨[.slice (some ⟨pb,0,none⟩) b.nm b.nm]⟩ 44 (0,0)),(b3,true,.cells ⟨[.func (.yield l) #[] #[]]⟩ 87 (0,0)),(b2,true,.cells ⟨(nightV b a bs).cells.toList⟩ 106 (0,0)),(pb,true,.cells ⟨cellsI pl1 b.nm⟩ 3 (0,0))] _ _;have f4:=cellsI_ld pl1 hi;rw[g2] at f4;by_cases c1:k=0
   ·clear ih;subst c1;refine U16 ?_;refine .rt hK func81 results81 [_] ?_;exact fun H' hs=> .inl ⟨rfl,H₂,pl1,hs.less sL,j1,g3⟩
   ·refine U19 ?_;refine To.lift (L₂:= []) (L₁:=plsB (nightV b a bs) l b.nm pb bp b2 b3 b5++plnB pb b.nm pl1) rfl (fun Hx hx=> ?_);refine To.callF rfl rfl rfl rfl rfl rfl dE (FnT.of (first:= []) (captured:= [_,_,_,_]) ca81 rfl (ihd (i+1) pl1 H₂ Hx oM j1 hx)) (fun v H₃ hv=> ?_);rcases hv with ⟨rfl,H4,pl2,h8,j3,g4⟩|⟨rfl,H4,hl4,hD⟩
    ·refine To.expand h8 ?_;unfold plsB plnB;have f5:=cellsI_ld pl2 hi;rw[g4 i oM,g2] at f5;have t2:=cellsI_ble pl2 hi;have s2:=cellsI_st pl2 hi (k+1);refine U14 ?_;exact Tc.db (ih ⟨(k+1,updI pl2 i (k+1),H4),by simp only;omega,by simp only;omega,by simp[updI],fun q hq=> by simp only;unfold updI;rw[if_neg oM,g4 q oM,g3 q hq],j3⟩ (by simp only;omega))
    ·refine U7 ?_;refine .rt hK func81 results81 [_] ?_;exact fun H' hs=> .inr ⟨rfl,H4,View.le_trans hl4 hs.base,hD⟩
  ·have c0':((lo i:Nat):Int)≠0:=by omega
   have t0:=cellsI_ble pl hi;have s0:=cellsI_st pl hi (0);refine CallT.enter (vs:= [.int .i64 (i:Nat),.pointer (some ⟨bp,0,none⟩),.pointer (some ⟨b2,0,none⟩),.pointer (some ⟨b3,0,none⟩),.pointer (some ⟨b5,0,none⟩)]) func81 rfl ntmps81 (Nat.le_of_ble_eq_true rfl) (hsy) fun St c cs hK=> ?_;unfold plsB plnB;refine U15 ?_;refine Tc.dr [] [] mixed rfl ?_;refine V4 0 ?_;refine .dn ?_;refine U22 ?_;refine Tc.db (Tc.loopB (σ:= { x:Int×(Nat->Int)×View//(0:Int)<=x.1/\x.1<=(b.nm:Nat)/\x.2.1 i=x.1/\(∀k,k<i->x.2.1 k=pl k)/\J x.2.2 })
    (fun x=> (x.1.2.2,[(0,.int .i64 (i:Nat)),(1,.pointer (some ⟨bp,0,none⟩)),(2,.pointer (some ⟨b2,0,none⟩)),(3,.pointer (some ⟨b3,0,none⟩)),(4,.pointer (some ⟨b5,0,none⟩)),(10,.int .i64 (b.nm:Nat))],[(b5,true,.cells ⟨[plsF bp b2 b3 b5]⟩ 163 (0,0)),(bp,true,.cells ⟨[.slice (some ⟨pb,0,none⟩) b.nm b.nm]⟩ 44 (0,0)),(b3,true,.cells ⟨[.func (.yield l) #[] #[]]⟩ 87 (0,0)),(b2,true,.cells ⟨(nightV b a bs).cells.toList⟩ 106 (0,0)),(pb,true,.cells ⟨cellsI x.1.2.1 b.nm⟩ 3 (0,0))])) (fun x=> (((b.nm:Nat):Int)-x.1.1).toNat) ?_ ⟨((0),updI pl i (0),H₁),by simp only;omega,by simp only;omega,by simp[updI],fun k hk=> by simp only;unfold updI;rw[if_neg oM],hJ⟩)
   rintro⟨⟨k,pl1,H₂⟩,g0,g1,g2,g3,j1⟩ ih;simp only at g0 g1 g2 g3 j1;show Tc M St _ _ H₂ _ [(0,.int .i64 (i:Nat)),(1,.pointer (some ⟨bp,0,none⟩)),(2,.pointer (some ⟨b2,0,none⟩)),(3,.pointer (some ⟨b3,0,none⟩)),(4,.pointer (some ⟨b5,0,none⟩)),(10,.int .i64 (b.nm:Nat))] [(b5,true,.cells ⟨[plsF bp b2 b3 b5]⟩ 163 (0,0)),(bp,true,.cells ⟨[.slice (some ⟨pb,0,none⟩) b.nm b.nm]⟩ 44 (0,0)),(b3,true,.cells ⟨[.func (.yield l) #[] #[]]⟩ 87 (0,0)),(b2,true,.cells ⟨(nightV b a bs).cells.toList⟩ 106 (0,0)),(pb,true,.cells ⟨cellsI pl1 b.nm⟩ 3 (0,0))] _ _;have f4:=cellsI_ld pl1 hi;rw[g2] at f4;by_cases c1:k=(b.nm:Nat)
   ·clear ih;subst c1;refine U16 ?_;refine .rt hK func81 results81 [_] ?_;exact fun H' hs=> .inl ⟨rfl,H₂,pl1,hs.less sL,j1,g3⟩
   ·refine U19 ?_;refine To.lift (L₂:= []) (L₁:=plsB (nightV b a bs) l b.nm pb bp b2 b3 b5++plnB pb b.nm pl1) rfl (fun Hx hx=> ?_);refine To.callF rfl rfl rfl rfl rfl rfl dE (FnT.of (first:= []) (captured:= [_,_,_,_]) ca81 rfl (ihd (i+1) pl1 H₂ Hx oM j1 hx)) (fun v H₃ hv=> ?_);rcases hv with ⟨rfl,H4,pl2,h8,j3,g4⟩|⟨rfl,H4,hl4,hD⟩
    ·refine To.expand h8 ?_;unfold plsB plnB;have f5:=cellsI_ld pl2 hi;rw[g4 i oM,g2] at f5;have t2:=cellsI_ble pl2 hi;have s2:=cellsI_st pl2 hi (k+1);refine U14 ?_;exact Tc.db (ih ⟨(k+1,updI pl2 i (k+1),H4),by simp only;omega,by simp only;omega,by simp[updI],fun q hq=> by simp only;unfold updI;rw[if_neg oM,g4 q oM,g3 q hq],j3⟩ (by simp only;omega))
    ·refine U7 ?_;refine .rt hK func81 results81 [_] ?_;exact fun H' hs=> .inr ⟨rfl,H4,View.le_trans hl4 hs.base,hD⟩
theorem plans_it(b:Sb)(a:Sa)(hnm:b.nm<=5)(lo:Nat->Nat)(hlo:∀i,lo i<=20)(bs:Nat):
  IterS M (.func (.func 43) #[nightV b a bs] #[]) (fun e:Pln=> e.ok b.nm lo) (fun e=> [.slice (some ⟨e.pb,0,none⟩) b.nm b.nm,e.g.val]) (fun e=> plnB e.pb b.nm e.pl++e.g.bl) (fun e=> plnB e.pb b.nm e.pl) (CapP b.nm bs lo) H:=fun l J D hcap h0 hy=> by
 refine FnT.of (first:= [_]) (captured:= []) ca43 rfl ?_;refine .en func43 ntmps43 fun St c cs hK=> ?_;refine U2 ?_;refine .bo fun b2=> ?_;refine .bo fun b3=> ?_;refine U6 ?_;refine .e (Or.makeSlice (E:=en) (len:=b.nm) (cap:=b.nm) rfl rfl rfl rfl rfl rfl (Nat.le_refl _) oM rfl rfl dE (fun pb=> ?_));refine .al fun bp=> ?_;refine U4 ?_;refine .al fun b5=> ?_;refine U8 ?_;refine To.lift (L₂:= []) rfl (fun Hx hx=> ?_);have hp:SymSt H (plsB (nightV b a bs) l b.nm pb bp b2 b3 b5++plnB pb b.nm (fun _=> 0)) Hx:=hx.perm (by
  rw[show plnB pb b.nm (fun _=> 0)= [(pb,true,.cells ⟨zeroRow [.int .i64 0] (b.nm*1)⟩ 3 (0,0))] from by rw[cellsI_zero];rfl];unfold plsB;refine .cons _ (.cons _ ?_);refine(List.Perm.cons _ (List.Perm.swap _ _ _)).trans ?_;exact List.Perm.swap _ _ _)
 refine To.callF rfl rfl rfl rfl rfl rfl dE (FnT.of (first:= []) (captured:= [_,_,_,_]) ca81 rfl (pls_c M b a hnm lo hlo bs l pb bp b2 b3 b5 J D hcap (fun e H' H'' h1 h2 h3=> hy e H' H'' h1 h2 h3) b.nm 0 _ H Hx (Nat.zero_add _) h0 hp)) (fun v H₃ hv=> ?_);refine U ?_;refine .ov hK func43 results43 [] ?_;intro H' hs;rcases hv with ⟨_,H4,w',h8,j3,_⟩|⟨_,H4,hl4,hD⟩
 ·exact⟨H4,View.le_trans h8.base hs.base,.inl j3⟩
 ·exact⟨H4,View.le_trans hl4 hs.base,.inr hD⟩
end
theorem SymSt.only {H₁ H:View}{L:Bl}(h:SymSt H₁ L H):∃H₂,SymSt H₂ L H/\(∀c x,H c=some x->c ∉ L.map (·.1)->H₂ c=some x)/\H₁.le H₂:=by
 refine⟨fun c=> if c∈L.map (·.1) then none else H c,⟨h.nodup,fun x hx=> if_pos (List.mem_map_of_mem hx),h.at_,fun c x hc=> ?_⟩,fun c x h1 h2=> (if_neg h2).trans h1,fun c x hc=> ?_⟩
 ·split at hc
  ·cases hc
  ·exact hc
 ·have:c ∉ L.map (·.1):=fun hm=> by
   obtain⟨y,hy,e⟩:=List.mem_map.1 hm;have:=h.out y hy;rw[e,hc] at this;cases this
  exact(if_neg this).trans (h.base c x hc)
def Pq(H:View)(n:Nat)(lo:Nat->Nat)(fnd:Bool)(pv:Value):Prop:=
 (fnd=false/\pv=.slice none 0 0)\/(fnd=true/\∃Q qc pl,pv=.slice Q n qc/\FreeAt H Q n pl/\∀i,i<n->okAt n lo pl i)
theorem Pq.le {H H':View}{n:Nat}{lo:Nat->Nat}{fnd:Bool}{pv:Value}(h:Pq H n lo fnd pv)(hl:H.le H'):Pq H' n lo fnd pv:=
 h.imp id fun⟨h1,Q,qc,pl,h2,h3,h4⟩=> ⟨h1,Q,qc,pl,h2,h3.le hl,h4⟩
theorem loN_le {l:List (Int×Int)}(i:Nat):loN l i<=l.length:=List.countP_le_length
theorem cellsI_src {H:View}{pb n:Nat}{pl:Nat->Int}(h:∃f,H pb=some (f,.cells ⟨cellsI pl n⟩ 3 (0,0))):SrcAt H 1 (.slice (some ⟨pb,0,none⟩) n n) n (cellsI pl n):=by
 obtain⟨f,h⟩:=h;have h1:=SrcAt.of (c:=n) (off:=0) (m:=n) (sz:=1) h (by rw[cellsI_len];omega);have h2:((cellsI pl n).drop 0).take (n*1)=cellsI pl n:=by rw[List.drop_zero,List.take_of_length_le (by rw[cellsI_len];omega)]
 rwa [h2] at h1
section
variable(M:Md prog)(H:View)
theorem timedN_c(n:Int):CallT M 41 #[.int .i64 n] H (fun v H'=> H.le H'/\∃b1,v=timedF b1/\True/\∀y∈([(b1,true,.cells ⟨[.int .i64 n]⟩ 3 (0,0))]:Bl),H' y.1=some y.2/\H y.1=none):=by
 refine .en func41 ntmps41 fun St c cs hK=> ?_;refine U2 ?_;refine .bo fun b1=> ?_;refine U7 ?_;refine .rt hK func41 results41 [_] ?_;exact fun H' hs=> ⟨hs.base,b1,rfl,trivial,fun y hy=> ⟨hs.at_ y hy,hs.out y hy⟩⟩
theorem Pack_c(b:Sb)(a:Sa)(hb:SbAt H b a)(hk:Knd H)(ho:b.Ok)(hne:b.histories≠ [])(hhl:∀x∈b.histories,∀i,i<b.ns->x i<=b.np i)(now:Int)(hw:0<=now/\now<=999):
  CallT M 12 #[b.val a,.int .i64 now] H (fun v H'=> H.le H'/\∃(fnd:Bool) (pv:Value),v=.tuple ⟨[pv,.bool fnd,.int .i64 0]⟩/\Pq H' b.nm (loN (b.missL b.histories)) fnd pv):=by
 have hnm:=ho.nm;have hml:(b.missL b.histories).length<=20:=Nat.le_trans (List.length_filter_le _ _) (grps_len ho);have hlo:∀i,loN (b.missL b.histories) i<=20:=fun i=> Nat.le_trans (loN_le i) hml;have opened:=fun(H':View) (hl:H.le H') (b1:Nat) (h1:∃f,H' b1=some (f,.cells ⟨[.int .i64 now]⟩ 3 (0,0)))=> CallT.mono (open_c M H' b a (hb.le hl) (hk.le hl) ho hne (timedF b1) (fun H'' h''=> timed1_c M H'' b a now hw b1 (h1.imp fun _ e=> h'' _ _ e))) (Q':=fun v H''=> H'.le H''/\∃g:Gl 222 4,v=.tuple ⟨[b.val a,g.val,.int .i64 0]⟩/\(g.l=camesV b.histories/\g.n=b.histories.length)/\∀x∈g.bl,H'' x.1=some x.2/\H' x.1=none) (by
  rintro v H'' ⟨k1,g,k2,k3,k4,k5⟩;exact⟨k1,g,k2,⟨k3,k4⟩,k5⟩)
 refine .en func12 ntmps12 fun St c cs hK=> ?_;refine U2 ?_;refine .bo fun b2=> ?_;refine .bo fun b3=> ?_;refine .al fun b4=> ?_;refine .al fun b5=> ?_;refine U3 ?_;refine Tc.via (fun R' L'=> ∃(g:Gl 222 4) (b7:Nat),g.l=camesV b.histories/\g.n=b.histories.length/\AllIn [(3,.pointer (some ⟨b3,0,none⟩)),(4,.pointer (some ⟨b4,0,none⟩)),(5,.pointer (some ⟨b5,0,none⟩)),(6,.int .i64 0),(7,.pointer (some ⟨b7,0,none⟩)),(8,g.val)] R'/\(([(b7,true,.cells ⟨(b.val a).cells.toList⟩ 98 (0,0)),(b5,true,.cells ⟨[.bool false]⟩ 4 (0,0)),(b4,true,.cells ⟨[.slice none 0 0]⟩ 44 (0,0)),(b3,true,.cells ⟨[.int .i64 now]⟩ 3 (0,0))]:Bl)++g.bl).Sublist L') ?_ (fun fin=> ?_)
 ·rintro R' L' ⟨g,b7,g1,g2,hR',hL'⟩;refine Tc.dropB ?_ hR' hL';refine Tc.lift (L₂:= [(b7,true,.cells ⟨(b.val a).cells.toList⟩ 98 (0,0)),(b5,true,.cells ⟨[.bool false]⟩ 4 (0,0)),(b4,true,.cells ⟨[.slice none 0 0]⟩ 44 (0,0)),(b3,true,.cells ⟨[.int .i64 now]⟩ 3 (0,0))]) (L₁:=g.bl) rfl (fun Hx hx=> ?_);have hxl:=hx.base;have hhis:=his_of g (fun x hx'=> hx.at_ x hx') g1;have hno:=nightOf_c M Hx b a (hb.le hxl) ho b.histories hhl (histories_len ho) (g.blk.map fun b=> ⟨b,0,none⟩) g.cap hhis;rw[<-g2] at hno;refine U12 ?_;refine To.callF rfl rfl rfl rfl rfl rfl dE (FnT.h hno) (fun v H₁ hv=> ?_);obtain⟨hle,bs,rfl,q1,q2⟩:=hv;refine .al fun b9=> ?_;refine U4 ?_;refine .al fun b10=> ?_;refine U9 ?_;refine Tc.db (R':= [(3,.pointer (some ⟨b3,0,none⟩)),(4,.pointer (some ⟨b4,0,none⟩)),(5,.pointer (some ⟨b5,0,none⟩)),(6,.int .i64 0),(9,.pointer (some ⟨b9,0,none⟩)),(10,.pointer (some ⟨b10,0,none⟩)),(28,.func (.func 43) #[nightV b a bs] #[])]) (L':= [(b10,true,.cells ⟨[.int .i64 ((0:Nat):Int)]⟩ 3 (0,0)),(b9,true,.cells ⟨(nightV b a bs).cells.toList⟩ 106 (0,0)),(b5,true,.cells ⟨[.bool false]⟩ 4 (0,0)),(b4,true,.cells ⟨[.slice none 0 0]⟩ 44 (0,0)),(b3,true,.cells ⟨[.int .i64 now]⟩ 3 (0,0))]) ?_;refine Tc.rangeS (ts:= [29,30]) (fun H₄ L₄=> ∃(fnd:Bool) (few:Nat) (pv:Value),L₄= [(b10,true,.cells ⟨[.int .i64 (few:Nat)]⟩ 3 (0,0)),(b9,true,.cells ⟨(nightV b a bs).cells.toList⟩ 106 (0,0)),(b5,true,.cells ⟨[.bool fnd]⟩ 4 (0,0)),(b4,true,.cells ⟨[pv]⟩ 44 (0,0)),(b3,true,.cells ⟨[.int .i64 now]⟩ 3 (0,0))]/\few<=5/\Pq H₄ b.nm (loN (b.missL b.histories)) fnd pv/\H.le H₄/\CapP b.nm bs (loN (b.missL b.histories)) H₄) rfl rfl rfl (fun H' _=> plans_it M H' b a hnm _ hlo bs) CapP.le (fun _ _ ⟨_,_,_,_,_,_,_,h⟩=> h) rfl (fun _=> rfl) ⟨false,0,.slice none 0 0,rfl,oM,.inl ⟨rfl,rfl⟩,View.le_trans hxl hle,true,q2⟩ ?_ ?_
  ·rintro r e lp tmps asg bdy H₄ _ ⟨ok1,ok2,ok3⟩ ⟨fnd,few,pv,rfl,hfew,hpq,hle4,hcap⟩ Q St1 cc1 cs1 hK1 q;have htl:=tapS_len (n:=b.nm) (lo:=loN (b.missL b.histories)) (pl:=e.pl) b.nm ok1;have htv:=tapS_le (pl:=e.pl) hlo b.nm;refine Tc.perm List.perm_append_comm ?_;refine Tc.lift rfl (fun Hy hy=> ?_);have hyl:=hy.base;have hbk:=hb.le (View.le_trans hle4 hyl);have hPl:∃f,Hy e.pb=some (f,.cells ⟨cellsI e.pl b.nm⟩ 3 (0,0)):=⟨true,hy.get (i:=0) rfl⟩
   have hF:=free_of e.g (fun x hx=> hy.at_ x (List.mem_append_right _ hx)) ok3 (x:=fun i=> (((tapS (loN (b.missL b.histories)) e.pl b.nm)[i]?.getD 0:Nat):Int)) (fun j hj=> by
    rw[ok2];unfold natsL;rw[List.getElem?_map,List.getElem?_eq_getElem hj];rfl)
   have hgood:=good_c M Hy b a bs hbk ho (some ⟨e.pb,0,none⟩) b.nm e.pl (cellsI_free hPl) (e.g.blk.map fun b=> ⟨b,0,none⟩) (tapS (loN (b.missL b.histories)) e.pl b.nm).length e.g.cap _ hF oM (fun i hi=> by
    rw[List.getElem?_eq_getElem hi];have:=htv _ (List.getElem_mem hi);simp only[Option.getD_some];omega) htl.2 now hw
   rw[<-ok3] at hgood htl;have hgn:e.g.n<=5:=by omega
   refine U7 ?_;refine Tc.beginRound (i:=0) rfl rfl rfl ?_;refine U7 ?_;refine To.callF rfl rfl rfl rfl rfl rfl dE (FnT.h hgood) (fun v H₅ hv=> ?_);obtain⟨hle5,t,rfl⟩:=hv;have keep:∀H' L₂,SymSt H₅ L₂ H'->∃H₂,SymSt H₂ (L₂++plnB e.pb b.nm e.pl) H'/\H₄.le H₂/\∀c x,H₅ c=some x->c≠e.pb->H₂ c=some x:=fun H' L₂ hs=> by
    obtain⟨H₂,k1,k2,k3⟩:=SymSt.only (hy.mono hle5 |>.less (L':=plnB e.pb b.nm e.pl) (List.sublist_append_left _ _));exact⟨H₂,k1.append hs,k3,fun c x h1 h2=> k2 c x h1 (by simpa [plnB] using h2)⟩
   have out:∀H',SymSt H₅ ((lp,true,.loop (Loop.fresh 12 tmps [29,30].toArray asg bdy r))::(r,true,.deferred (some [])):: [(b10,true,.cells ⟨[.int .i64 (few:Nat)]⟩ 3 (0,0)),(b9,true,.cells ⟨(nightV b a bs).cells.toList⟩ 106 (0,0)),(b5,true,.cells ⟨[.bool fnd]⟩ 4 (0,0)),(b4,true,.cells ⟨[pv]⟩ 44 (0,0)),(b3,true,.cells ⟨[.int .i64 now]⟩ 3 (0,0))]) H'->Q (.bool true) H':=fun H' hs=> by
    obtain⟨H₂,k1,k2,_⟩:=keep H' _ hs;exact q H' H₂ _ (k1.perm List.perm_append_comm) ⟨fnd,few,pv,rfl,hfew,hpq.le k2,View.le_trans hle4 k2,hcap.le _ _ k2⟩
   have put:∀H₆,H₅.le H₆->∀(g':Gl 3 1),g'.l=cellsI e.pl b.nm->(∀x∈g'.bl,H₆ x.1=some x.2/\H₅ x.1=none)->∀H',SymSt H₆ ((lp,true,.loop (Loop.fresh 12 tmps [29,30].toArray asg bdy r))::(r,true,.deferred (some [])):: [(b10,true,.cells ⟨[.int .i64 (e.g.n:Nat)]⟩ 3 (0,0)),(b9,true,.cells ⟨(nightV b a bs).cells.toList⟩ 106 (0,0)),(b5,true,.cells ⟨[.bool true]⟩ 4 (0,0)),(b4,true,.cells ⟨[g'.val]⟩ 44 (0,0)),(b3,true,.cells ⟨[.int .i64 now]⟩ 3 (0,0))]) H'->Q (.bool true) H':=fun H₆ hle6 g' e1 e2 H' hs=> by
    obtain⟨H₂,k1,k2,k3⟩:=SymSt.only (hy.mono (View.le_trans hle5 hle6) |>.less (L':=plnB e.pb b.nm e.pl) (List.sublist_append_left _ _));have hgn':g'.n=b.nm:=by
     have:=g'.hl;rw[e1,cellsI_len] at this;omega
    refine q H' H₂ _ ((k1.append hs).perm List.perm_append_comm) ⟨true,e.g.n,g'.val,rfl,hgn,.inr ⟨rfl,g'.blk.map (fun b=> ⟨b,0,none⟩),g'.cap,e.pl,by rw[<-hgn'];rfl,free_of g' (fun x hx=> k2 _ _ (e2 x hx).1 ?_) hgn' (fun j hj=> ?_),ok1⟩,View.le_trans hle4 k3,hcap.le _ _ k3⟩
    ·intro hm;have h1:x.1=e.pb:=by simpa [plnB] using hm
     obtain⟨f,h2⟩:=hPl;have h3:=hle5 _ _ h2;rw[<-h1,(e2 x hx).2] at h3;cases h3
    ·rw[e1];unfold cellsI;rw[List.getElem?_map,List.getElem?_range hj];rfl
   have hcl:=fun(_:True)=> Sg.clone_c M H₅ (some ⟨e.pb,0,none⟩) b.nm b.nm (cellsI e.pl b.nm) oM (cellsI_src (hPl.imp fun _ h=> hle5 _ _ h)) (by unfold cellsI;simp[single]);cases t with
   | false=>
    refine U4 ?_;refine To.skippedU rfl dE rfl ?_;refine To.skippedU rfl dE rfl ?_;refine To.skippedU rfl dE rfl ?_;refine To.skippedU rfl dE rfl ?_;refine U6 ?_;refine Tc.leaveRound hK1 (i:=0) rfl (.inl ⟨rfl,rfl⟩) (fun H' hs=> out H' hs)
   | true=>
    cases fnd with
    | false=>
     refine U14 ?_;refine To.callF rfl rfl rfl rfl rfl rfl dE (FnT.h (hcl trivial)) (fun w H₆ hw=> ?_);obtain⟨hle6,g',rfl,e1,e2⟩:=hw;refine U7 ?_;refine Tc.leaveRound hK1 (i:=0) rfl (.inl ⟨rfl,rfl⟩) (fun H' hs=> put H₆ hle6 g' e1 e2 H' hs)
    | true=>
     by_cases c0:e.g.n<few
     ·refine U14 ?_;refine To.callF rfl rfl rfl rfl rfl rfl dE (FnT.h (hcl trivial)) (fun w H₆ hw=> ?_);obtain⟨hle6,g',rfl,e1,e2⟩:=hw;refine U7 ?_;refine Tc.leaveRound hK1 (i:=0) rfl (.inl ⟨rfl,rfl⟩) (fun H' hs=> put H₆ hle6 g' e1 e2 H' hs)
     ·refine U14 ?_;refine Tc.leaveRound hK1 (i:=0) rfl (.inl ⟨rfl,rfl⟩) (fun H' hs=> out H' hs)
  ·rintro r H₄ _ ⟨fnd,few,pv,rfl,_,hpq,hle4,_⟩;obtain⟨pA,pn,pc,rfl⟩:∃A n c,pv=.slice A n c:=by
    rcases hpq with ⟨_,rfl⟩|⟨_,Q,qc,_,rfl,_⟩ <;> exact⟨_,_,_,rfl⟩
   refine U2 ?_;refine Tc.dr4 [2] [3] [3] [4] [3,4] mixed rfl ?_;refine Ta.tka 0 kR rfl rfl rfl dE rfl rfl (OpV.take (.ld 3)) ?_;refine Ta.tkb 1 kR rfl rfl rfl dE rfl rfl (OpV.take (.ld 3)) ?_;refine .ea 2 rfl (.st 4 (zz:=⟨S4.mk sL (.inl kR) (.inr sL),?_⟩));refine .ea 3 rfl (.st 3 (zz:=⟨S4.mk sL (.inl kR) (.inl kR),?_⟩));refine .ea 4 rfl (Or.ofV .sg rfl dE ⟨S4.mk sL (.inl kR) (.inl kR),?_⟩);refine .dn ?_;refine Tc.retD (E:=en) (i:=0) hK func12 results12 (vs:= [_,_,_]) rfl (by refine⟨⟨4,_,_,_,_,_,_,_,rfl,rfl,rfl,rfl⟩,?_⟩;refine⟨⟨3,_,_,_,_,_,_,_,rfl,rfl,rfl,rfl⟩,?_⟩;refine⟨rfl,?_⟩;exact trivial) ?_;intro H' hs;exact⟨View.le_trans hle4 hs.base,fnd,_,rfl,hpq.le hs.base⟩
 ·refine Tc.dr [9] [] mixed rfl ?_;refine V2 0 ?_;refine Ta.each [2,8] kR rfl ⟨TaOp.mk rfl rfl rfl (Or.callNew (fun b1=> timedF b1) (fun b1=> [(b1,true,.cells ⟨[.int .i64 now]⟩ 3 (0,0))]) (fun _=> True) rfl rfl rfl rfl rfl dE (fun _=> by simp) (fun H hs=> .h (timedN_c M H now)) (fun b1 _=> ⟨S2.mk sL (.inr sL),?_⟩)),TaOp.mk rfl rfl rfl (.al (zz:=fun b7=> ⟨S2.mk sL (.inr sL),?_⟩)),trivial⟩
  ·refine Ta.each [3,8] kR rfl ⟨TaOp.mk rfl rfl rfl (Or.callNew (fun g:Gl 222 4=> .tuple ⟨[b.val a,g.val,.int .i64 0]⟩) Gl.bl (fun g=> g.l=camesV b.histories/\g.n=b.histories.length) rfl rfl rfl rfl rfl dE Sg.gl_nodup (fun H hs=> .h (opened H hs.base _ ⟨true,hs.get (i:=4) rfl⟩)) (fun g hg=> ⟨S2.mk sL (.inr sL),?_⟩)),TaOp.mk rfl rfl rfl (.al (zz:=fun b7=> ⟨S2.mk sL (.inr sL),?_⟩)),trivial⟩
   ·refine V2 4 ?_;refine .nw 6 ?_;refine .nw 7 ?_;refine .ea 8 rfl (.al (zz:=fun b7=> ⟨S2.mk sL (.inr sL),?_⟩));refine .e 9 0 ?_;refine .nw 10 ?_;refine .nw 11 ?_;refine .dn ?_;exact fin _ _ ⟨g,b7,hg.1,hg.2,⟨rfl,rfl,rfl,rfl,rfl,rfl,trivial⟩,sL⟩
   ·refine .ea 3 rfl (Or.callNew (fun g:Gl 222 4=> .tuple ⟨[b.val a,g.val,.int .i64 0]⟩) Gl.bl (fun g=> g.l=camesV b.histories/\g.n=b.histories.length) rfl rfl rfl rfl rfl dE Sg.gl_nodup (fun H hs=> .h (opened H hs.base _ ⟨true,hs.get (i:=5) rfl⟩)) (fun g hg=> ⟨S2.mk sL (.inr sL),?_⟩));refine V2 4 ?_;refine .nw 6 ?_;refine .nw 7 ?_;refine .e 9 0 ?_;refine .nw 10 ?_;refine .nw 11 ?_;refine .dn ?_;exact fin _ _ ⟨g,b7,hg.1,hg.2,⟨rfl,rfl,rfl,rfl,rfl,rfl,trivial⟩,sL⟩
  ·refine .ea 2 rfl (Or.callNew (fun b1=> timedF b1) (fun b1=> [(b1,true,.cells ⟨[.int .i64 now]⟩ 3 (0,0))]) (fun _=> True) rfl rfl rfl rfl rfl dE (fun _=> by simp) (fun H hs=> .h (timedN_c M H now)) (fun b1 _=> ⟨S2.mk sL (.inr sL),?_⟩));refine .ea 3 rfl (Or.callNew (fun g:Gl 222 4=> .tuple ⟨[b.val a,g.val,.int .i64 0]⟩) Gl.bl (fun g=> g.l=camesV b.histories/\g.n=b.histories.length) rfl rfl rfl rfl rfl dE Sg.gl_nodup (fun H hs=> .h (opened H hs.base _ ⟨true,hs.get (i:=5) rfl⟩)) (fun g hg=> ⟨S2.mk sL (.inr sL),?_⟩));refine V2 4 ?_;refine .nw 6 ?_;refine .nw 7 ?_;refine .e 9 0 ?_;refine .nw 10 ?_;refine .nw 11 ?_;refine .dn ?_;exact fin _ _ ⟨g,b7,hg.1,hg.2,⟨rfl,rfl,rfl,rfl,rfl,rfl,trivial⟩,sL⟩
end
end Go.Proofs.YtcagolloalgfiaaGreatDoor
