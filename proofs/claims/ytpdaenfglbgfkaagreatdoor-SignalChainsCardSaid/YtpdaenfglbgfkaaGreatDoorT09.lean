/-
  Texts of the proofs over baudot/signal: Q1 Q2 Q3 Q4 Q5 Q6 O2 O3 Q7.
-/
import Derived.Test.YtpdaenfglbgfkaaGreatDoorT08
section
namespace Go.Proofs.YtpdaenfglbgfkaaGreatDoor
open Go.RL
set_option maxRecDepth 10000
set_option maxHeartbeats 8000000
def spotAt(n:Nat)(l:List Int)(i:Nat):Prop:=(0≤l[i]?.getD 0∧l[i]?.getD 0≤(n:Int)-2)∧(0<i→l[i-1]?.getD 0<l[i]?.getD 0)
instance(n:Nat)(l:List Int):DecidablePred (spotAt n l):=fun i=> by unfold spotAt;infer_instance
inductive JErr(ch:Ch)(l:List Int):Int→Prop
 | chain {e:Int}:ch.alarm=e→e≠0→JErr ch l e
 | absent {j:Nat}:ch.alarm=0→j<l.length→(∀i,i<j→spotAt ch.n l i)→¬(0≤l[j]?.getD 0∧l[j]?.getD 0≤(ch.n:Int)-2)→JErr ch l 6
 | order {j:Nat}:ch.alarm=0→j<l.length→(∀i,i<j→spotAt ch.n l i)→(0≤l[j]?.getD 0∧l[j]?.getD 0≤(ch.n:Int)-2)→0<j→l[j]?.getD 0≤l[j-1]?.getD 0→JErr ch l 7
theorem JErr.or(ch:Ch)(l:List Int):(∃e,JErr ch l e)∨(ch.alarm=0∧∀i,i<l.length→spotAt ch.n l i):=by
 by_cases ha:ch.alarm=0
 · rcases firstBad (p:=spotAt ch.n l) l.length with h|⟨j,h1,h2,h3⟩
   · exact .inr ⟨ha,h⟩
   · refine .inl ?_
     by_cases h4:0≤l[j]?.getD 0∧l[j]?.getD 0≤(ch.n:Int)-2
     · by_cases h5:0<j
       · by_cases h6:l[j-1]?.getD 0<l[j]?.getD 0
         · exact(h3 ⟨h4,fun _=> h6⟩).elim
         · exact⟨7,.order ha h1 h2 h4 h5 (by omega)⟩
       · exact(h3 ⟨h4,fun h=> (h5 h).elim⟩).elim
     · exact⟨6,.absent ha h1 h2 h4⟩
 · exact .inl ⟨_,.chain rfl ha⟩
theorem Ch.linesAlarm_in(ch:Ch):ch.linesAlarm=0∨ch.linesAlarm=1∨ch.linesAlarm=2:=by
 unfold Ch.linesAlarm
 split
 · split
   · exact .inl rfl
   · exact .inr (.inl rfl)
 · exact .inr (.inr rfl)
theorem Ch.alarm_in(ch:Ch):ch.alarm=0∨ch.alarm=1∨ch.alarm=2:=by
 unfold Ch.alarm
 split
 · exact ch.linesAlarm_in
 · exact .inr (.inl rfl)
theorem JErr.pos {ch:Ch}{l:List Int}{e:Int}(h:JErr ch l e):e=1∨e=2∨e=6∨e=7:=by
 cases h with
 | chain h1 h2=>
   subst h1
   rcases ch.alarm_in with h|h|h
   · exact(h2 h).elim
   · exact .inl h
   · exact .inr (.inl h)
 | absent _ _ _ _=> exact .inr (.inr (.inl rfl))
 | order _ _ _ _ _ _=> exact .inr (.inr (.inr rfl))
section
variable(M:Md Tryz.prog)(H:View)
theorem isPaces_bad(a b:Int)(h:paceOk a b=false):CallT M 129 #[bandV a b] H (fun v H'=> H.le H'∧v=.bool false):=
 CallT.mono (isPaces_c M H a b) (by rintro v H' ⟨h1,h2⟩;exact⟨h1,h2.trans (congrArg Value.bool h)⟩)
theorem checkLine_is(x y z u:Int)(hG:Glob H)(t:Bool)(h:(leanOk x y&&moveOk z u)=t)(n:Int)(hn:n=if t then 0 else 1):CallT M 126 #[lineV x y z u] H (fun v H'=> H.le H'∧v=.int .i64 n):=
 CallT.mono (checkLine_c M H x y z u hG) (by rintro v H' ⟨h1,h2⟩;rw[line_ok,h] at h2;rw[hn];exact⟨h1,h2⟩)
theorem refLine_is(x y z u:Int)(t:Bool)(h:(leanOk x y&&moveOk z u)=t)(n:Int)(hn:n=if t then 0 else 1):CallT M 82 #[lineV x y z u] H (fun v H'=> H.le H'∧v=.int .i64 n):=
 CallT.mono (refLine_c M H x y z u) (by rintro v H' ⟨h1,h2⟩;rw[h] at h2;rw[hn];exact⟨h1,h2⟩)
theorem checkLines_any(ch:Ch)(A:Option Addr)(lc:Nat)(hA:LinesAt H ch A lc)(hG:Glob H):
   CallT M 124 #[.slice A ch.n lc] H (fun v H'=> H.le H'∧v=.int .i64 ch.linesAlarm):=by
 by_cases h:1≤ch.n∧ch.n≤4
 · obtain⟨hlc,h0|⟨lb,lo,f,gs,gt,gz,rfl,hA1,hA2⟩⟩:=hA
   · omega
   refine CallT.enter (vs:= [.slice (some ⟨lb,lo,none⟩) ch.n lc]) Tryz.func124 rfl Tryz.ntmps124 (Nat.le_of_ble_eq_true rfl) (SymSt.nil _) fun St c cs hK=> ?_
   refine .sr ?_
   refine .g ?_
   refine .done (.seq (.sr ?_))
   refine .m ?_
   refine .x .ln ?_
   refine .i ?_ (z:=lss_f (by omega))
   refine .m ?_
   refine .m ?_
   refine .x .ln ?_
   refine .i ?_ (z:=gtr_f (by omega))
   refine .x .pk ?_
   refine .done (.ff rfl (.skip (.seq (.sr ?_))))
   refine .m ?_
   refine .x .ln ?_
   refine .m ?_
   refine .done (.block ?_)
   refine Tc.db (Tc.loopInv (σ:= { j:Nat//j≤ch.n∧allTo ch.lineAt j=true }) (fun j=> ([(14,.slice (some ⟨lb,lo,none⟩) ch.n lc),(15,.int .i64 (ch.n:Nat)),(16,.int .i64 (j.1:Nat)),(2,.int .i64 0)],[])) (fun j=> ch.n-j.1) ?_ ⟨0,by omega,rfl⟩)
   rintro⟨j,hj,hall⟩ ih
   show Tc M St _ _ _ _ [(14,.slice (some ⟨lb,lo,none⟩) ch.n lc),(15,.int .i64 (ch.n:Nat)),(16,.int .i64 (j:Nat)),(2,.int .i64 0)] [] _ _
   by_cases c1:j=ch.n
   · have e:ch.linesAlarm=0:=by unfold Ch.linesAlarm;rw[if_pos h,←c1,if_pos hall]
     rw[e] at hK
     subst c1
     refine .sr ?_
     refine .i ?_ (z:=lss_f (by omega))
     refine .done (.seq (.ff rfl (.exit rfl (.sr ?_))))
     refine .g ?_
     refine .done ?_
     refine .rt hK Tryz.func124 Tryz.results124 [_] ?_
     exact fun H' hs=> ⟨hs.base,rfl⟩
   · have c2:j<ch.n:=by omega
     have f1:ldL true 4 gs (lo+(j:Int).toNat*4)=some (lineV (ch.x j) (ch.y j) (ch.z j) (ch.u j)):=by rw[show(j:Int).toNat=j by simp];exact hA2 j c2
     cases hl:ch.lineAt j with
     | true=>
       refine .sr ?_
       refine .i ?_ (z:=lss_t (by omega))
       refine .done (.seq (.tt rfl (.skip (.seq (.block (.sr ?_))))))
       refine .x .ia ?_
       refine .x .l0 ?_
       refine .e (.al (zz:=fun b4=> ?_))
       refine .e (.st 0 (zz:=?_))
       refine .done (.sr ?_)
       refine .x (.ld 0) ?_
       refine .c rfl rfl rfl rfl (fun H hs=> .f ca126 rfl (checkLine_is M H (ch.x j) (ch.y j) (ch.z j) (ch.u j) (glob_le hG hs.base) true hl 0 rfl)) ?_
       refine .g ?_
       refine .done (.sr ?_)
       refine .m ?_
       refine .i ?_ (z:=neq_f (by omega))
       refine .done (.ff rfl (.skip (.inBlock (.r ?_))))
       refine .i ?_ (z:=add_in (by omega) (by omega))
       refine .m ?_
       refine .done ?_
       exact Tc.db (ih ⟨j+1,by omega,by unfold allTo;rw[hall,hl];rfl⟩ (by simp only;omega))
     | false=>
       have e:ch.linesAlarm=1:=by
         unfold Ch.linesAlarm
         rw[if_pos h,if_neg]
         intro h5
         rw[allTo_iff.1 h5 j c2] at hl
         cases hl
       rw[e] at hK
       refine .sr ?_
       refine .i ?_ (z:=lss_t (by omega))
       refine .done (.seq (.tt rfl (.skip (.seq (.block (.sr ?_))))))
       refine .x .ia ?_
       refine .x .l0 ?_
       refine .e (.al (zz:=fun b4=> ?_))
       refine .e (.st 0 (zz:=?_))
       refine .done (.sr ?_)
       refine .x (.ld 0) ?_
       refine .c rfl rfl rfl rfl (fun H hs=> .f ca126 rfl (checkLine_is M H (ch.x j) (ch.y j) (ch.z j) (ch.u j) (glob_le hG hs.base) false hl 1 rfl)) ?_
       refine .g ?_
       refine .done (.sr ?_)
       refine .m ?_
       refine .i ?_ (z:=neq_t (by omega))
       refine .done (.tt rfl (.sr ?_))
       refine .m ?_
       refine .g ?_
       refine .done ?_
       refine .rt hK Tryz.func124 Tryz.results124 [_] ?_
       exact fun H' hs=> ⟨hs.base,rfl⟩
 · have e:ch.linesAlarm=2:=by unfold Ch.linesAlarm;rw[if_neg h]
   rw[e]
   by_cases h1:ch.n<1
   · refine CallT.enter (vs:= [.slice A ch.n lc]) Tryz.func124 rfl Tryz.ntmps124 (Nat.le_of_ble_eq_true rfl) (SymSt.nil _) fun St c cs hK=> ?_
     refine .sr ?_
     refine .g ?_
     refine .done (.seq (.sr ?_))
     refine .m ?_
     refine .x .ln ?_
     refine .i ?_ (z:=lss_t (by omega))
     refine .m ?_
     refine .sk ?_
     refine .sk ?_
     refine .sk ?_
     refine .x .pk ?_
     refine .done (.tt rfl (.sr ?_))
     refine .g ?_
     refine .done ?_
     refine .rt hK Tryz.func124 Tryz.results124 [_] ?_
     exact fun H' hs=> ⟨hs.base,rfl⟩
   · have h2:4<ch.n:=by omega
     refine CallT.enter (vs:= [.slice A ch.n lc]) Tryz.func124 rfl Tryz.ntmps124 (Nat.le_of_ble_eq_true rfl) (SymSt.nil _) fun St c cs hK=> ?_
     refine .sr ?_
     refine .g ?_
     refine .done (.seq (.sr ?_))
     refine .m ?_
     refine .x .ln ?_
     refine .i ?_ (z:=lss_f (by omega))
     refine .m ?_
     refine .m ?_
     refine .x .ln ?_
     refine .i ?_ (z:=gtr_t (by omega))
     refine .x .pk ?_
     refine .done (.tt rfl (.sr ?_))
     refine .g ?_
     refine .done ?_
     refine .rt hK Tryz.func124 Tryz.results124 [_] ?_
     exact fun H' hs=> ⟨hs.base,rfl⟩
theorem CheckChain_any(ch:Ch)(A:Option Addr)(lc:Nat)(hA:LinesAt H ch A lc)(hG:Glob H):CallT M 66 #[ch.valA A lc] H (fun v H'=> H.le H'∧v=.int .i64 ch.alarm):=by
 refine CallT.enter (vs:= [ch.valA A lc]) Tryz.func66 rfl Tryz.ntmps66 (Nat.le_of_ble_eq_true rfl) (SymSt.nil _) fun St c cs hK=> ?_
 refine .sr ?_
 refine .e (.bx (zz:=fun b1=> ?_))
 refine .g ?_
 refine .done (.seq (.sr ?_))
 refine .x .fa ?_
 refine .x (.ld 0) ?_
 refine .x .fa ?_
 refine .x (.ld 0) ?_
 refine .x .fa ?_
 refine .x (.ld 0) ?_
 refine .x .bu ?_
 refine .m ?_
 refine .done (.block ?_)
 refine Tc.db (Tc.loopInv (σ:= { j:Nat//j≤3∧(1≤j→paceOk ch.s0 ch.s1=true)∧(2≤j→paceOk ch.a0 ch.a1=true)∧(3≤j→paceOk ch.r0 ch.r1=true) }) (fun j=> ([(11,.agg ⟨[.int .i64 ch.s0,.int .i64 ch.s1,.int .i64 ch.a0,.int .i64 ch.a1,.int .i64 ch.r0,.int .i64 ch.r1]⟩),(1,.pointer (some ⟨b1,0,none⟩)),(12,.int .i64 (j.1:Nat)),(2,.int .i64 0)],[(b1,true,.cells ⟨(ch.valA A lc).cells.toList⟩ 73 (0,0))])) (fun j=> 3-j.1) ?_ ⟨0,by omega,by omega,by omega,by omega⟩)
 rintro⟨j,hj,h1,h2,h3⟩ ih
 show Tc M St _ _ _ _ [(11,.agg ⟨[.int .i64 ch.s0,.int .i64 ch.s1,.int .i64 ch.a0,.int .i64 ch.a1,.int .i64 ch.r0,.int .i64 ch.r1]⟩),(1,.pointer (some ⟨b1,0,none⟩)),(12,.int .i64 (j:Nat)),(2,.int .i64 0)] [(b1,true,.cells ⟨(ch.valA A lc).cells.toList⟩ 73 (0,0))] _ _
 rcases(by omega:j=0∨j=1∨j=2∨j=3) with rfl|rfl|rfl|rfl
 · cases hp:paceOk ch.s0 ch.s1 with
   | true=>
     refine .sr ?_
     refine .i ?_ (z:=lss_t (by omega))
     refine .done (.seq (.tt rfl (.skip (.seq (.block (.sr ?_))))))
     refine .x .ix ?_
     refine .e (.al (zz:=fun b4=> ?_))
     refine .e (.st 0 (zz:=?_))
     refine .done (.sr ?_)
     refine .x (.ld 0) ?_
     refine .c rfl rfl rfl rfl (fun H hs=> .f ca129 rfl (isPaces_good M H ch.s0 ch.s1 hp)) ?_
     refine .x .nt ?_
     refine .done (.ff rfl (.skip (.inBlock (.r ?_))))
     refine .i ?_ (z:=add_in (by omega) (by omega))
     refine .m ?_
     refine .done ?_
     exact Tc.db (ih ⟨1,by omega,fun _=> hp,fun h=> absurd h (by decide),fun h=> absurd h (by decide)⟩ (by simp))
   | false=>
     have e:ch.alarm=1:=by
       unfold Ch.alarm Ch.paces
       rw[hp]
       simp
     rw[e] at hK
     refine .sr ?_
     refine .i ?_ (z:=lss_t (by omega))
     refine .done (.seq (.tt rfl (.skip (.seq (.block (.sr ?_))))))
     refine .x .ix ?_
     refine .e (.al (zz:=fun b4=> ?_))
     refine .e (.st 0 (zz:=?_))
     refine .done (.sr ?_)
     refine .x (.ld 0) ?_
     refine .c rfl rfl rfl rfl (fun H hs=> .f ca129 rfl (isPaces_bad M H ch.s0 ch.s1 hp)) ?_
     refine .x .nt ?_
     refine .done (.tt rfl (.sr ?_))
     refine .g ?_
     refine .done ?_
     refine .rt hK Tryz.func66 Tryz.results66 [_] ?_
     exact fun H' hs=> ⟨hs.base,rfl⟩
 · cases hp:paceOk ch.a0 ch.a1 with
   | true=>
     refine .sr ?_
     refine .i ?_ (z:=lss_t (by omega))
     refine .done (.seq (.tt rfl (.skip (.seq (.block (.sr ?_))))))
     refine .x .ix ?_
     refine .e (.al (zz:=fun b4=> ?_))
     refine .e (.st 0 (zz:=?_))
     refine .done (.sr ?_)
     refine .x (.ld 0) ?_
     refine .c rfl rfl rfl rfl (fun H hs=> .f ca129 rfl (isPaces_good M H ch.a0 ch.a1 hp)) ?_
     refine .x .nt ?_
     refine .done (.ff rfl (.skip (.inBlock (.r ?_))))
     refine .i ?_ (z:=add_in (by omega) (by omega))
     refine .m ?_
     refine .done ?_
     exact Tc.db (ih ⟨2,by omega,fun _=> h1 (by omega),fun _=> hp,fun h=> absurd h (by decide)⟩ (by simp))
   | false=>
     have e:ch.alarm=1:=by
       unfold Ch.alarm Ch.paces
       rw[hp]
       simp
     rw[e] at hK
     refine .sr ?_
     refine .i ?_ (z:=lss_t (by omega))
     refine .done (.seq (.tt rfl (.skip (.seq (.block (.sr ?_))))))
     refine .x .ix ?_
     refine .e (.al (zz:=fun b4=> ?_))
     refine .e (.st 0 (zz:=?_))
     refine .done (.sr ?_)
     refine .x (.ld 0) ?_
     refine .c rfl rfl rfl rfl (fun H hs=> .f ca129 rfl (isPaces_bad M H ch.a0 ch.a1 hp)) ?_
     refine .x .nt ?_
     refine .done (.tt rfl (.sr ?_))
     refine .g ?_
     refine .done ?_
     refine .rt hK Tryz.func66 Tryz.results66 [_] ?_
     exact fun H' hs=> ⟨hs.base,rfl⟩
 · cases hp:paceOk ch.r0 ch.r1 with
   | true=>
     refine .sr ?_
     refine .i ?_ (z:=lss_t (by omega))
     refine .done (.seq (.tt rfl (.skip (.seq (.block (.sr ?_))))))
     refine .x .ix ?_
     refine .e (.al (zz:=fun b4=> ?_))
     refine .e (.st 0 (zz:=?_))
     refine .done (.sr ?_)
     refine .x (.ld 0) ?_
     refine .c rfl rfl rfl rfl (fun H hs=> .f ca129 rfl (isPaces_good M H ch.r0 ch.r1 hp)) ?_
     refine .x .nt ?_
     refine .done (.ff rfl (.skip (.inBlock (.r ?_))))
     refine .i ?_ (z:=add_in (by omega) (by omega))
     refine .m ?_
     refine .done ?_
     exact Tc.db (ih ⟨3,by omega,fun _=> h1 (by omega),fun _=> h2 (by omega),fun _=> hp⟩ (by simp))
   | false=>
     have e:ch.alarm=1:=by
       unfold Ch.alarm Ch.paces
       rw[hp]
       simp
     rw[e] at hK
     refine .sr ?_
     refine .i ?_ (z:=lss_t (by omega))
     refine .done (.seq (.tt rfl (.skip (.seq (.block (.sr ?_))))))
     refine .x .ix ?_
     refine .e (.al (zz:=fun b4=> ?_))
     refine .e (.st 0 (zz:=?_))
     refine .done (.sr ?_)
     refine .x (.ld 0) ?_
     refine .c rfl rfl rfl rfl (fun H hs=> .f ca129 rfl (isPaces_bad M H ch.r0 ch.r1 hp)) ?_
     refine .x .nt ?_
     refine .done (.tt rfl (.sr ?_))
     refine .g ?_
     refine .done ?_
     refine .rt hK Tryz.func66 Tryz.results66 [_] ?_
     exact fun H' hs=> ⟨hs.base,rfl⟩
 · have e:ch.alarm=ch.linesAlarm:=by
     unfold Ch.alarm Ch.paces
     rw[h1 (by omega),h2 (by omega),h3 (by omega)]
     rfl
   rw[e] at hK
   refine .sr ?_
   refine .i ?_ (z:=lss_f (by omega))
   refine .done (.seq (.ff rfl (.exit rfl (.sr ?_))))
   refine .x .fa ?_
   refine .x (.ld 0) ?_
   refine .c rfl rfl rfl rfl (fun H hs=> .f ca124 rfl (checkLines_any M H ch A lc (hA.le hs.base) (glob_le hG hs.base))) ?_
   refine .g ?_
   refine .done ?_
   refine .rt hK Tryz.func66 Tryz.results66 [_] ?_
   exact fun H' hs=> ⟨hs.base,rfl⟩
theorem openChain_err(ch:Ch)(A:Option Addr)(lc:Nat)(hA:LinesAt H ch A lc)(hG:Glob H)(l:List Int)(B:Option Addr)(m ac:Nat)(hm:m=l.length)(h20:m≤20)(hB:Nums H B l)(e:Int)(h:JErr ch l e):
   CallT M 121 #[ch.valA A lc,.slice B m ac] H (fun v H'=> H.le H'∧v=.tuple ⟨[.agg ⟨[.int .i64 0,.int .i64 0,.slice none 0 0,.int .i64 0,.int .i64 0,.int .i64 0,.int .i64 0,.slice none 0 0]⟩,.int .i64 e]⟩):=by
 have hpos:=h.pos
 by_cases ha:ch.alarm=0
 · obtain⟨j,hj,hall,hbad⟩:∃j,j<l.length∧(∀i,i<j→spotAt ch.n l i)∧(e=6∧¬(0≤l[j]?.getD 0∧l[j]?.getD 0≤(ch.n:Int)-2)∨e=7∧(0≤l[j]?.getD 0∧l[j]?.getD 0≤(ch.n:Int)-2)∧0<j∧l[j]?.getD 0≤l[j-1]?.getD 0):=by
     cases h with
     | chain h1 h2=> exact(h2 (h1.symm.trans ha)).elim
     | @absent j _ h1 h2 h3=> exact⟨j,h1,h2,.inl ⟨rfl,h3⟩⟩
     | @order j _ h1 h2 h3 h4 h5=> exact⟨j,h1,h2,.inr ⟨rfl,h3,h4,h5⟩⟩
   have hn4:1≤ch.n∧ch.n≤4:=by
     have:=Ch.alarm_zero.1 ha
     unfold Ch.fair at this
     simp only[Bool.and_eq_true,decide_eq_true_eq] at this
     exact this.2.1
   have hcc:=fun(H':View) (h':H.le H')=> CheckChain_any M H' ch A lc (hA.le h') (glob_le hG h')
   rw[ha] at hcc
   refine CallT.enter (vs:= [ch.valA A lc,.slice B m ac]) Tryz.func121 rfl Tryz.ntmps121 (Nat.le_of_ble_eq_true rfl) (SymSt.nil _) fun St c cs hK=> ?_
   refine .sr ?_
   refine .e (.bx (zz:=fun b2=> ?_))
   refine .e (.al (zz:=fun b4=> ?_))
   refine .g ?_
   refine .done (.seq (.sr ?_))
   refine .x (.ld 1) ?_
   refine .c rfl rfl rfl rfl (fun H hs=> .f ca66 rfl (hcc H hs.base)) ?_
   refine .g ?_
   refine .done (.sr ?_)
   refine .m ?_
   refine .i ?_ (z:=neq_f (by omega))
   refine .done (.ff rfl (.skip (.seq (.sr ?_))))
   refine .m ?_
   refine .x .ln ?_
   refine .m ?_
   refine .done (.block ?_)
   refine Tc.db (Tc.loopInv (σ:= { i:Nat//i≤j }) (fun i=> ([(1,.slice B m ac),(2,.pointer (some ⟨b2,0,none⟩)),(4,.pointer (some ⟨b4,0,none⟩)),(15,.slice B m ac),(16,.int .i64 (m:Nat)),(17,.int .i64 (i.1:Nat))],
     [(b4,true,.cells ⟨[.int .i64 0,.int .i64 0,.slice none 0 0,.int .i64 0,.int .i64 0,.int .i64 0,.int .i64 0,.slice none 0 0]⟩ 146 (0,0)),(b2,true,.cells ⟨(ch.valA A lc).cells.toList⟩ 73 (0,0))])) (fun i=> j-i.1) ?_ ⟨0,Nat.zero_le _⟩)
   rintro⟨i,hi⟩ ih
   show Tc M St _ _ _ _ [(1,.slice B m ac),(2,.pointer (some ⟨b2,0,none⟩)),(4,.pointer (some ⟨b4,0,none⟩)),(15,.slice B m ac),(16,.int .i64 (m:Nat)),(17,.int .i64 (i:Nat))]
     [(b4,true,.cells ⟨[.int .i64 0,.int .i64 0,.slice none 0 0,.int .i64 0,.int .i64 0,.int .i64 0,.int .i64 0,.slice none 0 0]⟩ 146 (0,0)),(b2,true,.cells ⟨(ch.valA A lc).cells.toList⟩ 73 (0,0))] _ _
   rcases hB with hB|⟨a1,a2,a3,a4,a5,a6,rfl,a7,a8⟩
   · rw[hB] at hj;simp at hj
   have f1:=a8 i (by omega)
   by_cases c1:i=j
   · subst c1
     rcases hbad with ⟨rfl,hb⟩|⟨rfl,hb1,hb2,hb3⟩
     · by_cases c2:l[i]?.getD 0<0
       · refine .sr ?_
         refine .i ?_ (z:=lss_t (by omega))
         refine .done (.seq (.tt rfl (.skip (.seq (.block (.sr ?_))))))
         refine .m ?_
         refine .x .ia ?_
         refine .x .l0 ?_
         refine .g ?_
         refine .g ?_
         refine .done (.block (.sr ?_))
         refine .m ?_
         refine .i ?_ (z:=lss_t (by omega))
         refine .m ?_
         refine .sk ?_
         refine .sk ?_
         refine .sk ?_
         refine .sk ?_
         refine .sk ?_
         refine .sk ?_
         refine .x .pk ?_
         refine .g ?_
         refine .done (.tt rfl (.sr ?_))
         refine .x .bu ?_
         refine .e (.st 0 (zz:=?_))
         refine .g ?_
         refine .done ?_
         refine Tc.retN (E:=en) hK Tryz.func121 Tryz.results121 (vs:= [_,_]) (by refine⟨⟨0,_,_,_,_,_,_,_,rfl,rfl,rfl,rfl⟩,?_⟩;refine⟨rfl,?_⟩;exact trivial) ?_
         exact fun H' hs=> ⟨hs.base,rfl⟩
       · have c3:(ch.n:Int)-2<l[i]?.getD 0:=by omega
         refine .sr ?_
         refine .i ?_ (z:=lss_t (by omega))
         refine .done (.seq (.tt rfl (.skip (.seq (.block (.sr ?_))))))
         refine .m ?_
         refine .x .ia ?_
         refine .x .l0 ?_
         refine .g ?_
         refine .g ?_
         refine .done (.block (.sr ?_))
         refine .m ?_
         refine .i ?_ (z:=lss_f (by omega))
         refine .m ?_
         refine .m ?_
         refine .x .fa ?_
         refine .x (.ld 1) ?_
         refine .x .ln ?_
         refine .i ?_ (z:=sub_in (by omega) (by omega))
         refine .i ?_ (z:=gtr_t (by omega))
         refine .x .pk ?_
         refine .g ?_
         refine .done (.tt rfl (.sr ?_))
         refine .x .bu ?_
         refine .e (.st 0 (zz:=?_))
         refine .g ?_
         refine .done ?_
         refine Tc.retN (E:=en) hK Tryz.func121 Tryz.results121 (vs:= [_,_]) (by refine⟨⟨0,_,_,_,_,_,_,_,rfl,rfl,rfl,rfl⟩,?_⟩;refine⟨rfl,?_⟩;exact trivial) ?_
         exact fun H' hs=> ⟨hs.base,rfl⟩
     · have f2:ldL false 1 a4 (a2+((i:Int)-1).toNat*1)=some (.int .i64 (l[i-1]?.getD 0)):=by rw[show((i:Int)-1).toNat=((i-1:Nat):Int).toNat by omega];exact a8 (i-1) (by omega)
       refine .sr ?_
       refine .i ?_ (z:=lss_t (by omega))
       refine .done (.seq (.tt rfl (.skip (.seq (.block (.sr ?_))))))
       refine .m ?_
       refine .x .ia ?_
       refine .x .l0 ?_
       refine .g ?_
       refine .g ?_
       refine .done (.block (.sr ?_))
       refine .m ?_
       refine .i ?_ (z:=lss_f (by omega))
       refine .m ?_
       refine .m ?_
       refine .x .fa ?_
       refine .x (.ld 1) ?_
       refine .x .ln ?_
       refine .i ?_ (z:=sub_in (by omega) (by omega))
       refine .i ?_ (z:=gtr_f (by omega))
       refine .x .pk ?_
       refine .g ?_
       refine .done (.ff rfl (.sr ?_))
       refine .m ?_
       refine .i ?_ (z:=gtr_t (by omega))
       refine .m ?_
       refine .m ?_
       refine .m ?_
       refine .m ?_
       refine .i ?_ (z:=sub_in (by omega) (by omega))
       refine .x .ia ?_
       refine .x .l0 ?_
       refine .i ?_ (z:=leq_t (by omega))
       refine .x .pk ?_
       refine .g ?_
       refine .done (.tt rfl (.sr ?_))
       refine .x .bu ?_
       refine .e (.st 0 (zz:=?_))
       refine .g ?_
       refine .done ?_
       refine Tc.retN (E:=en) hK Tryz.func121 Tryz.results121 (vs:= [_,_]) (by refine⟨⟨0,_,_,_,_,_,_,_,rfl,rfl,rfl,rfl⟩,?_⟩;refine⟨rfl,?_⟩;exact trivial) ?_
       exact fun H' hs=> ⟨hs.base,rfl⟩
   · have hs1:=hall i (by omega)
     unfold spotAt at hs1
     obtain⟨g1,g2⟩:=hs1
     by_cases c0:i=0
     · subst c0
       refine .sr ?_
       refine .i ?_ (z:=lss_t (by omega))
       refine .done (.seq (.tt rfl (.skip (.seq (.block (.sr ?_))))))
       refine .m ?_
       refine .x .ia ?_
       refine .x .l0 ?_
       refine .g ?_
       refine .g ?_
       refine .done (.block (.sr ?_))
       refine .m ?_
       refine .i ?_ (z:=lss_f (by omega))
       refine .m ?_
       refine .m ?_
       refine .x .fa ?_
       refine .x (.ld 1) ?_
       refine .x .ln ?_
       refine .i ?_ (z:=sub_in (by omega) (by omega))
       refine .i ?_ (z:=gtr_f (by omega))
       refine .x .pk ?_
       refine .g ?_
       refine .done (.ff rfl (.sr ?_))
       refine .m ?_
       refine .i ?_ (z:=gtr_f (by omega))
       refine .m ?_
       refine .sk ?_
       refine .sk ?_
       refine .sk ?_
       refine .sk ?_
       refine .sk ?_
       refine .sk ?_
       refine .sk ?_
       refine .x .pk ?_
       refine .g ?_
       refine .done (.ff rfl (.skip (.inBlock (.inBlock (.r ?_)))))
       refine .i ?_ (z:=add_in (by omega) (by omega))
       refine .m ?_
       refine .done ?_
       exact Tc.db (ih ⟨1,by omega⟩ (by simp only;omega))
     · have f2:ldL false 1 a4 (a2+((i:Int)-1).toNat*1)=some (.int .i64 (l[i-1]?.getD 0)):=by rw[show((i:Int)-1).toNat=((i-1:Nat):Int).toNat by omega];exact a8 (i-1) (by omega)
       have g3:=g2 (by omega)
       refine .sr ?_
       refine .i ?_ (z:=lss_t (by omega))
       refine .done (.seq (.tt rfl (.skip (.seq (.block (.sr ?_))))))
       refine .m ?_
       refine .x .ia ?_
       refine .x .l0 ?_
       refine .g ?_
       refine .g ?_
       refine .done (.block (.sr ?_))
       refine .m ?_
       refine .i ?_ (z:=lss_f (by omega))
       refine .m ?_
       refine .m ?_
       refine .x .fa ?_
       refine .x (.ld 1) ?_
       refine .x .ln ?_
       refine .i ?_ (z:=sub_in (by omega) (by omega))
       refine .i ?_ (z:=gtr_f (by omega))
       refine .x .pk ?_
       refine .g ?_
       refine .done (.ff rfl (.sr ?_))
       refine .m ?_
       refine .i ?_ (z:=gtr_t (by omega))
       refine .m ?_
       refine .m ?_
       refine .m ?_
       refine .m ?_
       refine .i ?_ (z:=sub_in (by omega) (by omega))
       refine .x .ia ?_
       refine .x .l0 ?_
       refine .i ?_ (z:=leq_f (by omega))
       refine .x .pk ?_
       refine .g ?_
       refine .done (.ff rfl (.skip (.inBlock (.inBlock (.r ?_)))))
       refine .i ?_ (z:=add_in (by omega) (by omega))
       refine .m ?_
       refine .done ?_
       exact Tc.db (ih ⟨i+1,by omega⟩ (by simp only;omega))
 · have he:ch.alarm=e:=by
     cases h with
     | chain h1 h2=> exact h1
     | absent h1 _ _ _=> exact(ha h1).elim
     | order h1 _ _ _ _ _=> exact(ha h1).elim
   have hcc:=fun(H':View) (h':H.le H')=> CheckChain_any M H' ch A lc (hA.le h') (glob_le hG h')
   rw[he] at hcc
   refine CallT.enter (vs:= [ch.valA A lc,.slice B m ac]) Tryz.func121 rfl Tryz.ntmps121 (Nat.le_of_ble_eq_true rfl) (SymSt.nil _) fun St c cs hK=> ?_
   refine .sr ?_
   refine .e (.bx (zz:=fun b2=> ?_))
   refine .e (.al (zz:=fun b4=> ?_))
   refine .g ?_
   refine .done (.seq (.sr ?_))
   refine .x (.ld 1) ?_
   refine .c rfl rfl rfl rfl (fun H hs=> .f ca66 rfl (hcc H hs.base)) ?_
   refine .g ?_
   refine .done (.sr ?_)
   refine .m ?_
   refine .i ?_ (z:=neq_t (by omega))
   refine .done (.tt rfl (.sr ?_))
   refine .x .bu ?_
   refine .m ?_
   refine .e (.st 0 (zz:=?_))
   refine .g ?_
   refine .done ?_
   refine Tc.retN (E:=en) hK Tryz.func121 Tryz.results121 (vs:= [_,_]) (by refine⟨⟨0,_,_,_,_,_,_,_,rfl,rfl,rfl,rfl⟩,?_⟩;refine⟨rfl,?_⟩;exact trivial) ?_
   exact fun H' hs=> ⟨hs.base,rfl⟩
theorem Section_err(ch:Ch)(A:Option Addr)(lc:Nat)(hA:LinesAt H ch A lc)(hG:Glob H)(l:List Int)(B:Option Addr)(m ac:Nat)(hm:m=l.length)(h20:m≤20)(hB:Nums H B l)(i:Int)(e:Int)(h:JErr ch l e):
   CallT M 60 #[ch.valA A lc,.slice B m ac,.int .i64 i] H (fun v H'=> H.le H'∧v=.tuple ⟨[lk0.val,.int .i64 e]⟩):=by
 have hpos:=h.pos
 refine CallT.enter (vs:= [ch.valA A lc,.slice B m ac,.int .i64 i]) Tryz.func60 rfl Tryz.ntmps60 (Nat.le_of_ble_eq_true rfl) (SymSt.nil _) fun St c cs hK=> ?_
 refine .sr ?_
 refine .e (.bx (zz:=fun b3=> ?_))
 refine .e (.al (zz:=fun b6=> ?_))
 refine .g ?_
 refine .done (.sr ?_)
 refine .x (.ld 1) ?_
 refine .m ?_
 refine .c rfl rfl rfl rfl (fun H hs=> .f ca121 rfl (openChain_err M H ch A lc (hA.le hs.base) (glob_le hG hs.base) l B m ac hm h20 (hB.le hs.base) e h)) ?_
 refine .m ?_
 refine .x .et ?_
 refine .x .et ?_
 refine .e (.al (zz:=fun b8=> ?_))
 refine .e (.st 0 (zz:=?_))
 refine .g ?_
 refine .done (.seq (.sr ?_))
 refine .m ?_
 refine .i ?_ (z:=neq_t (by omega))
 refine .done (.tt rfl (.sr ?_))
 refine .x .bu ?_
 refine .m ?_
 refine .e (.st 1 (zz:=?_))
 refine .g ?_
 refine .done ?_
 refine Tc.retN (E:=en) hK Tryz.func60 Tryz.results60 (vs:= [_,_]) (by refine⟨⟨1,_,_,_,_,_,_,_,rfl,rfl,rfl,rfl⟩,?_⟩;refine⟨rfl,?_⟩;exact trivial) ?_
 exact fun H' hs=> ⟨hs.base,rfl⟩
theorem Holds_err(ch:Ch)(A:Option Addr)(lc:Nat)(hA:LinesAt H ch A lc)(hG:Glob H)(l:List Int)(B:Option Addr)(m ac:Nat)(hm:m=l.length)(h20:m≤20)(hB:Nums H B l)(e:Int)(h:JErr ch l e):
   CallT M 56 #[ch.valA A lc,.slice B m ac] H (fun v H'=> H.le H'∧v=.tuple ⟨[.bool false,.int .i64 e]⟩):=by
 have hpos:=h.pos
 refine CallT.enter (vs:= [ch.valA A lc,.slice B m ac]) Tryz.func56 rfl Tryz.ntmps56 (Nat.le_of_ble_eq_true rfl) (SymSt.nil _) fun St c cs hK=> ?_
 refine .sr ?_
 refine .e (.bx (zz:=fun b2=> ?_))
 refine .g ?_
 refine .g ?_
 refine .done (.sr ?_)
 refine .x (.ld 0) ?_
 refine .m ?_
 refine .c rfl rfl rfl rfl (fun H hs=> .f ca121 rfl (openChain_err M H ch A lc (hA.le hs.base) (glob_le hG hs.base) l B m ac hm h20 (hB.le hs.base) e h)) ?_
 refine .m ?_
 refine .x .et ?_
 refine .x .et ?_
 refine .e (.al (zz:=fun b6=> ?_))
 refine .e (.st 0 (zz:=?_))
 refine .g ?_
 refine .done (.seq (.sr ?_))
 refine .m ?_
 refine .i ?_ (z:=neq_t (by omega))
 refine .done (.tt rfl (.sr ?_))
 refine .m ?_
 refine .g ?_
 refine .g ?_
 refine .done ?_
 refine .rt hK Tryz.func56 Tryz.results56 [_,_] ?_
 exact fun H' hs=> ⟨hs.base,rfl⟩
theorem Weak_err(ch:Ch)(A:Option Addr)(lc:Nat)(hA:LinesAt H ch A lc)(hG:Glob H)(l:List Int)(B:Option Addr)(m ac:Nat)(hm:m=l.length)(h20:m≤20)(hB:Nums H B l)(e:Int)(h:JErr ch l e):
   CallT M 58 #[ch.valA A lc,.slice B m ac] H (fun v H'=> H.le H'∧v=.tuple ⟨[.int .i64 0,.int .i64 0,.bool false,.int .i64 e]⟩):=by
 have hpos:=h.pos
 refine CallT.enter (vs:= [ch.valA A lc,.slice B m ac]) Tryz.func58 rfl Tryz.ntmps58 (Nat.le_of_ble_eq_true rfl) (SymSt.nil _) fun St c cs hK=> ?_
 refine .sr ?_
 refine .e (.bx (zz:=fun b2=> ?_))
 refine .g ?_
 refine .g ?_
 refine .g ?_
 refine .g ?_
 refine .done (.sr ?_)
 refine .x (.ld 0) ?_
 refine .m ?_
 refine .c rfl rfl rfl rfl (fun H hs=> .f ca121 rfl (openChain_err M H ch A lc (hA.le hs.base) (glob_le hG hs.base) l B m ac hm h20 (hB.le hs.base) e h)) ?_
 refine .m ?_
 refine .x .et ?_
 refine .x .et ?_
 refine .e (.al (zz:=fun b8=> ?_))
 refine .e (.st 0 (zz:=?_))
 refine .g ?_
 refine .done (.seq (.sr ?_))
 refine .m ?_
 refine .i ?_ (z:=neq_t (by omega))
 refine .done (.tt rfl (.sr ?_))
 refine .m ?_
 refine .g ?_
 refine .g ?_
 refine .g ?_
 refine .g ?_
 refine .done ?_
 refine .rt hK Tryz.func58 Tryz.results58 [_,_,_,_] ?_
 exact fun H' hs=> ⟨hs.base,rfl⟩
def JAns(ch:Ch)(x y z u e:Int):Prop:=
 ch.linesAlarm=e∧e≠0∧x=0∧y=0∧z=0∧u=0∨
 ch.linesAlarm=0∧(leanOk (sumI ch.x ch.n) (sumI ch.y ch.n)&&moveOk (sumI ch.z ch.n) (sumI ch.u ch.n))=false∧e=1∧x=0∧y=0∧z=0∧u=0∨
 ch.linesAlarm=0∧(leanOk (sumI ch.x ch.n) (sumI ch.y ch.n)&&moveOk (sumI ch.z ch.n) (sumI ch.u ch.n))=true∧e=0∧x=sumI ch.x ch.n∧y=sumI ch.y ch.n∧z=sumI ch.z ch.n∧u=sumI ch.u ch.n
theorem JAns.some(ch:Ch):∃x y z u e,JAns ch x y z u e:=by
 by_cases h:ch.linesAlarm=0
 · cases h2:(leanOk (sumI ch.x ch.n) (sumI ch.y ch.n)&&moveOk (sumI ch.z ch.n) (sumI ch.u ch.n)) with
   | false=> exact⟨0,0,0,0,1,.inr (.inl ⟨h,h2,rfl,rfl,rfl,rfl,rfl⟩)⟩
   | true=> exact⟨_,_,_,_,0,.inr (.inr ⟨h,h2,rfl,rfl,rfl,rfl,rfl⟩)⟩
 · exact⟨0,0,0,0,_,.inl ⟨rfl,h,rfl,rfl,rfl,rfl⟩⟩
theorem Ch.lines_in {ch:Ch}(h:ch.linesAlarm=0):(1≤ch.n∧ch.n≤4)∧∀i,i<ch.n→(-9≤ch.x i∧ch.x i≤ch.y i∧ch.y i≤9)∧(-12≤ch.z i∧ch.z i≤ch.u i∧ch.u i≤12):=by
 unfold Ch.linesAlarm at h
 split at h
 · rename_i hn
   split at h
   · rename_i hall
     refine⟨hn,fun i hi=> ?_⟩
     have:=allTo_iff.1 hall i hi
     unfold Ch.lineAt leanOk moveOk at this
     simp only[Bool.and_eq_true,decide_eq_true_eq] at this
     omega
   · cases h
 · cases h
theorem Join_any(ch:Ch)(A:Option Addr)(lc:Nat)(hA:LinesAt H ch A lc)(hG:Glob H)(x y z u e:Int)(h:JAns ch x y z u e):
   CallT M 64 #[.slice A ch.n lc] H (fun v H'=> H.le H'∧v=.tuple ⟨[lineV x y z u,.int .i64 e]⟩):=by
 have hcl:=fun(H':View) (h':H.le H')=> checkLines_any M H' ch A lc (hA.le h') (glob_le hG h')
 rcases h with ⟨h1,h2,rfl,rfl,rfl,rfl⟩|h
 · rw[h1] at hcl
   refine CallT.enter (vs:= [.slice A ch.n lc]) Tryz.func64 rfl Tryz.ntmps64 (Nat.le_of_ble_eq_true rfl) (SymSt.nil _) fun St c cs hK=> ?_
   refine .sr ?_
   refine .e (.al (zz:=fun b2=> ?_))
   refine .g ?_
   refine .done (.seq (.sr ?_))
   refine .m ?_
   refine .c rfl rfl rfl rfl (fun H hs=> .f ca124 rfl (hcl H hs.base)) ?_
   refine .g ?_
   refine .done (.sr ?_)
   refine .m ?_
   refine .i ?_ (z:=neq_t (by omega))
   refine .done (.tt rfl (.sr ?_))
   refine .x .bu ?_
   refine .m ?_
   refine .e (.st 0 (zz:=?_))
   refine .g ?_
   refine .done ?_
   refine Tc.retN (E:=en) hK Tryz.func64 Tryz.results64 (vs:= [_,_]) (by refine⟨⟨0,_,_,_,_,_,_,_,rfl,rfl,rfl,rfl⟩,?_⟩;refine⟨rfl,?_⟩;exact trivial) ?_
   exact fun H' hs=> ⟨hs.base,rfl⟩
 · have h0:ch.linesAlarm=0:=by rcases h with h|h <;> exact h.1
   rw[h0] at hcl
   obtain⟨hn,hb⟩:=Ch.lines_in h0
   have hA':=hA
   obtain⟨hlc,h00|⟨lb,lo,f,gs,gt,gz,rfl,hA1,hA2⟩⟩:=hA'
   · omega
   have hj:=fun(H':View) (h':H.le H')=> join_c M H' lb lo ch.n lc f gs gt gz ch.x ch.y ch.z ch.u (by omega) (h' _ _ hA1) hA2 (fun i hi=> by have:=hb i hi;omega) (fun i hi=> by have:=hb i hi;omega) (fun i hi=> by have:=hb i hi;omega) (fun i hi=> by have:=hb i hi;omega)
   rcases h with ⟨_,h2,rfl,rfl,rfl,rfl,rfl⟩|⟨_,h2,rfl,rfl,rfl,rfl,rfl⟩
   · refine CallT.enter (vs:= [.slice (some ⟨lb,lo,none⟩) ch.n lc]) Tryz.func64 rfl Tryz.ntmps64 (Nat.le_of_ble_eq_true rfl) (SymSt.nil _) fun St c cs hK=> ?_
     refine .sr ?_
     refine .e (.al (zz:=fun b2=> ?_))
     refine .g ?_
     refine .done (.seq (.sr ?_))
     refine .m ?_
     refine .c rfl rfl rfl rfl (fun H hs=> .f ca124 rfl (hcl H hs.base)) ?_
     refine .g ?_
     refine .done (.sr ?_)
     refine .m ?_
     refine .i ?_ (z:=neq_f (by omega))
     refine .done (.ff rfl (.skip (.sr ?_)))
     refine .m ?_
     refine .c rfl rfl rfl rfl (fun H hs=> .f ca125 rfl (hj H hs.base)) ?_
     refine .e (.al (zz:=fun b5=> ?_))
     refine .e (.st 0 (zz:=?_))
     refine .done (.seq (.sr ?_))
     refine .x (.ld 0) ?_
     refine .c rfl rfl rfl rfl (fun H hs=> .f ca126 rfl (checkLine_is M H _ _ _ _ (glob_le hG hs.base) false h2 1 rfl)) ?_
     refine .g ?_
     refine .done (.sr ?_)
     refine .m ?_
     refine .i ?_ (z:=neq_t (by omega))
     refine .done (.tt rfl (.sr ?_))
     refine .x .bu ?_
     refine .m ?_
     refine .e (.st 1 (zz:=?_))
     refine .g ?_
     refine .done ?_
     refine Tc.retN (E:=en) hK Tryz.func64 Tryz.results64 (vs:= [_,_]) (by refine⟨⟨1,_,_,_,_,_,_,_,rfl,rfl,rfl,rfl⟩,?_⟩;refine⟨rfl,?_⟩;exact trivial) ?_
     exact fun H' hs=> ⟨hs.base,rfl⟩
   · refine CallT.enter (vs:= [.slice (some ⟨lb,lo,none⟩) ch.n lc]) Tryz.func64 rfl Tryz.ntmps64 (Nat.le_of_ble_eq_true rfl) (SymSt.nil _) fun St c cs hK=> ?_
     refine .sr ?_
     refine .e (.al (zz:=fun b2=> ?_))
     refine .g ?_
     refine .done (.seq (.sr ?_))
     refine .m ?_
     refine .c rfl rfl rfl rfl (fun H hs=> .f ca124 rfl (hcl H hs.base)) ?_
     refine .g ?_
     refine .done (.sr ?_)
     refine .m ?_
     refine .i ?_ (z:=neq_f (by omega))
     refine .done (.ff rfl (.skip (.sr ?_)))
     refine .m ?_
     refine .c rfl rfl rfl rfl (fun H hs=> .f ca125 rfl (hj H hs.base)) ?_
     refine .e (.al (zz:=fun b5=> ?_))
     refine .e (.st 0 (zz:=?_))
     refine .done (.seq (.sr ?_))
     refine .x (.ld 0) ?_
     refine .c rfl rfl rfl rfl (fun H hs=> .f ca126 rfl (checkLine_is M H _ _ _ _ (glob_le hG hs.base) true h2 0 rfl)) ?_
     refine .g ?_
     refine .done (.sr ?_)
     refine .m ?_
     refine .i ?_ (z:=neq_f (by omega))
     refine .done (.ff rfl (.skip (.sr ?_)))
     refine .x (.ld 0) ?_
     refine .e (.st 1 (zz:=?_))
     refine .g ?_
     refine .done ?_
     refine Tc.retN (E:=en) hK Tryz.func64 Tryz.results64 (vs:= [_,_]) (by refine⟨⟨1,_,_,_,_,_,_,_,rfl,rfl,rfl,rfl⟩,?_⟩;refine⟨rfl,?_⟩;exact trivial) ?_
     exact fun H' hs=> ⟨hs.base,rfl⟩
end
end Go.Proofs.YtpdaenfglbgfkaaGreatDoor
end
section
namespace Go.Proofs.YtpdaenfglbgfkaaGreatDoor
open Go.RL
set_option maxRecDepth 10000
set_option maxHeartbeats 8000000
def sumR(x:Nat→Int):Nat→Int
 | 0=> x 0
 | k+1=> sumR x k+x (k+1)
theorem sumR_eq(x:Nat→Int):∀k,sumR x k=sumI x (k+1)
 | 0=> by simp[sumR,sumI]
 | k+1=> by
   show sumR x k+x (k+1)=sumI x (k+1)+x (k+1)
   rw[sumR_eq x k]
theorem sumR_in {x:Nat→Int}{m:Nat}(h:∀i,i<m→ -1000000≤x i∧x i≤1000000)(hm:m≤1000):∀k,k<m→ -1000000000≤sumR x k∧sumR x k≤1000000000:=fun k hk=> by
 rw[sumR_eq]
 have:=sumI_in h (k+1) (by omega)
 omega
theorem ld_line {gs:List Value}{o:Nat}{a b c d:Value}(h:ldL true 4 gs o=some (.agg ⟨[a,b,c,d]⟩)):ldL true 2 gs o=some (.agg ⟨[a,b]⟩)∧ldL true 2 gs (o+2)=some (.agg ⟨[c,d]⟩):=by
 unfold ldL at h ⊢
 cases hb:Nat.ble (o+4) gs.length with
 | false=> simp[hb] at h
 | true=>
   have hl:=Nat.le_of_ble_eq_true hb
   simp only[hb,Option.some.injEq,Value.agg.injEq,Array.mk.injEq] at h
   have e1:(gs.drop o).take 2= [a,b]:=by
     have:=congrArg (List.take 2) h
     rw[List.take_take] at this
     simpa using this
   have e2:(gs.drop (o+2)).take 2= [c,d]:=by
     have:=congrArg (List.drop 2) h
     rw[List.drop_take,List.drop_drop] at this
     simpa using this
   have b1:Nat.ble (o+2) gs.length=true:=Nat.ble_eq_true_of_le (by omega)
   have b2:Nat.ble (o+2+2) gs.length=true:=Nat.ble_eq_true_of_le (by omega)
   simp only[b1,e1,e2,and_self]
section
variable(M:Md Tryz.prog)(H:View)
theorem addB_c(a b x y:Int)(h1: -1000000000≤a∧a≤1000000000)(h2: -1000000000≤b∧b≤1000000000)(h3: -1000000000≤x∧x≤1000000000)(h4: -1000000000≤y∧y≤1000000000):CallT M 167 #[bandV a b,bandV x y] H (fun v H'=> H.le H'∧v=bandV (a+x) (b+y)):=by
 refine CallT.enter (vs:= [bandV a b,bandV x y]) Tryz.func167 rfl Tryz.ntmps167 (Nat.le_of_ble_eq_true rfl) (SymSt.nil _) fun St c cs hK=> ?_
 refine .sr ?_
 refine .e (.bx (zz:=fun b2=> ?_))
 refine .e (.bx (zz:=fun b3=> ?_))
 refine .e (.al (zz:=fun b4=> ?_))
 refine .done (.sr ?_)
 refine .x .fa ?_
 refine .x (.ld 2) ?_
 refine .x .fa ?_
 refine .x (.ld 1) ?_
 refine .i ?_ (z:=add_in (by omega) (by omega))
 refine .x .fa ?_
 refine .x (.ld 2) ?_
 refine .x .fa ?_
 refine .x (.ld 1) ?_
 refine .i ?_ (z:=add_in (by omega) (by omega))
 refine .x .bu ?_
 refine .e (.st 0 (zz:=?_))
 refine .done ?_
 refine Tc.retN (E:=en) hK Tryz.func167 Tryz.results167 (vs:= [_]) (by refine⟨⟨0,_,_,_,_,_,_,_,rfl,rfl,rfl,rfl⟩,?_⟩;exact trivial) ?_
 exact fun H' hs=> ⟨hs.base,rfl⟩
theorem JoinOf_c(gb off m cc:Nat)(f:Bool)(gs:List Value)(gt:TypeId)(gz:Nat×Nat)(x y z u:Nat→Int)(h0:0<m)(hm:m≤1000)(hG:H gb=some (f,.cells ⟨gs⟩ gt gz))(hG2:∀i:Nat,i<m→ldL true 4 gs (off+i*4)=some (lineV (x i) (y i) (z i) (u i)))
   (hx:∀i,i<m→ -1000000≤x i∧x i≤1000000) (hy:∀i,i<m→ -1000000≤y i∧y i≤1000000) (hz:∀i,i<m→ -1000000≤z i∧z i≤1000000) (hu:∀i,i<m→ -1000000≤u i∧u i≤1000000):
   CallT M 128 #[.slice (some ⟨gb,off,none⟩) m cc] H (fun v H'=> H.le H'∧v=lineV (sumI x m) (sumI y m) (sumI z m) (sumI u m)):=by
 obtain⟨d,rfl⟩:∃d,m=d+1:=⟨m-1,by omega⟩
 rw[←sumR_eq,←sumR_eq,←sumR_eq,←sumR_eq]
 obtain⟨m,hmm⟩:∃m,d+1=m:=⟨_,rfl⟩
 rw[hmm] at hm hG2 hx hy hz hu ⊢
 have f00:ldL true 4 gs (off+(0:Int).toNat*4)=some (lineV (x 0) (y 0) (z 0) (u 0)):=hG2 0 (by omega)
 refine CallT.enter (vs:= [.slice (some ⟨gb,off,none⟩) m cc]) Tryz.func128 rfl Tryz.ntmps128 (Nat.le_of_ble_eq_true rfl) (SymSt.nil _) fun St c cs hK=> ?_
 refine .sr ?_
 refine .e (.al (zz:=fun b2=> ?_))
 refine .done (.sr ?_)
 refine .m ?_
 refine .x .ia ?_
 refine .x .l0 ?_
 refine .e (.al (zz:=fun b3=> ?_))
 refine .e (.st 0 (zz:=?_))
 refine .done (.seq (.sr ?_))
 refine .g ?_
 refine .done (.block ?_)
 refine Tc.db (Tc.loopInv (σ:= { k:Nat//k<m })
   (fun s=> ([(0,.slice (some ⟨gb,off,none⟩) m cc),(2,.pointer (some ⟨b2,0,none⟩)),(3,.pointer (some ⟨b3,0,none⟩)),(4,.int .i64 ((s.1+1:Nat):Int))],[(b3,true,.cells ⟨[.int .i64 (sumR x s.1),.int .i64 (sumR y s.1),.int .i64 (sumR z s.1),.int .i64 (sumR u s.1)]⟩ 25 (0,0)),(b2,true,.cells ⟨[.int .i64 0,.int .i64 0,.int .i64 0,.int .i64 0]⟩ 25 (0,0))])) (fun s=> m-s.1) ?_ ⟨0,by omega⟩)
 rintro⟨k,g1⟩ ih
 show Tc M St _ _ _ _ [(0,.slice (some ⟨gb,off,none⟩) m cc),(2,.pointer (some ⟨b2,0,none⟩)),(3,.pointer (some ⟨b3,0,none⟩)),(4,.int .i64 ((k+1:Nat):Int))] [(b3,true,.cells ⟨[.int .i64 (sumR x k),.int .i64 (sumR y k),.int .i64 (sumR z k),.int .i64 (sumR u k)]⟩ 25 (0,0)),(b2,true,.cells ⟨[.int .i64 0,.int .i64 0,.int .i64 0,.int .i64 0]⟩ 25 (0,0))] _ _
 by_cases c1:k+1=m
 · obtain rfl:k=d:=by omega
   refine .seq (.sr ?_)
   refine .m ?_
   refine .m ?_
   refine .x .ln ?_
   refine .i ?_ (z:=lss_f (by omega))
   refine .done (.ff rfl (.exit rfl (.sr ?_)))
   refine .x (.ld 0) ?_
   refine .e (.st 1 (zz:=?_))
   refine .done ?_
   refine Tc.retN (E:=en) hK Tryz.func128 Tryz.results128 (vs:= [_]) (by refine⟨⟨1,_,_,_,_,_,_,_,rfl,rfl,rfl,rfl⟩,?_⟩;exact trivial) ?_
   exact fun H' hs=> ⟨hs.base,rfl⟩
 · have c2:k+1<m:=by omega
   obtain⟨f1,f2⟩:=ld_line (show ldL true 4 gs (off+((k+1:Nat):Int).toNat*4)=some (.agg ⟨[.int .i64 (x (k+1)),.int .i64 (y (k+1)),.int .i64 (z (k+1)),.int .i64 (u (k+1))]⟩) by rw[Int.toNat_natCast];exact hG2 (k+1) c2)
   have f3:ldL true 2 gs (off+((k+1:Nat):Int).toNat*4+0)=some (bandV (x (k+1)) (y (k+1))):=f1
   have f4:ldL true 2 gs (off+((k+1:Nat):Int).toNat*4+2)=some (bandV (z (k+1)) (u (k+1))):=f2
   have x1:=sumR_in hx hm k g1
   have x2:=hx (k+1) c2
   have y1:=sumR_in hy hm k g1
   have y2:=hy (k+1) c2
   have z1:=sumR_in hz hm k g1
   have z2:=hz (k+1) c2
   have u1:=sumR_in hu hm k g1
   have u2:=hu (k+1) c2
   refine .seq (.sr ?_)
   refine .m ?_
   refine .m ?_
   refine .x .ln ?_
   refine .i ?_ (z:=lss_t (by omega))
   refine .done (.tt rfl (.skip (.seq (.block ?_))))
   refine Tc.dr [17] [0] mixed rfl ?_
   refine .q 0 rfl .fa ?_
   refine .q 1 rfl (.ld 0) ?_
   refine .q 2 rfl .mv ?_
   refine .q 3 rfl .mv ?_
   refine .q 4 rfl .ia ?_
   refine .q 5 rfl .fa ?_
   refine .q 6 rfl .l0 ?_
   refine .z 7 rfl (OpV.takeCall rfl rfl rfl rfl (fun H hs=> .f ca167 rfl (addB_c M H (sumR x k) (sumR y k) (x (k+1)) (y (k+1)) x1 y1 (by omega) (by omega)))) ?_
   refine .q 8 rfl .fa ?_
   refine .q 9 rfl (.ld 0) ?_
   refine .q 10 rfl .mv ?_
   refine .q 11 rfl .mv ?_
   refine .q 12 rfl .ia ?_
   refine .q 13 rfl .fa ?_
   refine .q 14 rfl .l0 ?_
   refine .z 15 rfl (OpV.takeCall rfl rfl rfl rfl (fun H hs=> .f ca167 rfl (addB_c M H (sumR z k) (sumR u k) (z (k+1)) (u (k+1)) z1 u1 (by omega) (by omega)))) ?_
   refine .q 16 rfl .bu ?_
   refine Ta.each [17] (by kernel_rfl) rfl ⟨TaOp.mk rfl rfl rfl (.st 0 (zz:=⟨S2.mk (by apply List.Sublist.cons;exact List.Sublist.refl _) (.inl (by kernel_rfl)),?_⟩)),trivial⟩
   refine Ta.done (by kernel_rfl) ?_
   refine .inBlock (.r ?_)
   refine .m ?_
   refine .i ?_ (z:=add_in (by omega) (by omega))
   refine .g ?_
   refine .done ?_
   exact Tc.db (ih ⟨k+1,by omega⟩ (by simp only;omega))
theorem LinkOf_c(ch:Ch)(i lb lo lc ac:Nat)(A:Option Addr)(hc:ch.Ok)(hA:ChAt H ch lb lo lc A)(hi:i≤ch.m):
   CallT M 131 #[ch.val7 lb lo lc,.slice A ch.m ac,.int .i64 i] H (fun v H'=> H.le H'∧v=(ch.lk i).val):=by
 refine CallT.enter (vs:= [ch.val7 lb lo lc,.slice A ch.m ac,.int .i64 i]) Tryz.func131 rfl Tryz.ntmps131 (Nat.le_of_ble_eq_true rfl) (SymSt.nil _) fun St c cs hK=> ?_
 have hend:=hc.ends hi
 have hm3:ch.at_ i+1<ch.n∨ch.m≤i:=by
   by_cases e:i<ch.m
   · exact .inl (hc.lt i e)
   · exact .inr (by omega)
 have hn4:=hc.n4
 have hmn:=hc.m_lt
 refine .sr ?_
 refine .e (.bx (zz:=fun b3=> ?_))
 refine .e (.al (zz:=fun b6=> ?_))
 refine .done (.sr ?_)
 refine .x .fa ?_
 refine .x (.ld 1) ?_
 refine .x .fa ?_
 refine .x (.ld 1) ?_
 refine .x .bu ?_
 refine .e (.al (zz:=fun b7=> ?_))
 refine .e (.st 0 (zz:=?_))
 refine .done (.seq ?_)
 refine Tc.dr [] [] mixed rfl ?_
 refine .q 0 rfl .fa ?_
 refine .q 1 rfl (.ld 2) ?_
 refine .q 2 rfl .ln ?_
 refine .q 3 rfl .sg ?_
 refine .q 4 rfl .sg ?_
 refine Ta.done (by kernel_rfl) ?_
 refine .seq (.seq ?_)
 refine Tc.via2 (fun R' L'=> AllIn [(1,.slice A ch.m ac),(2,.int .i64 (i:Nat)),(3,.pointer (some ⟨b3,0,none⟩)),(6,.pointer (some ⟨b6,0,none⟩)),(7,.pointer (some ⟨b7,0,none⟩)),(8,.int .i64 (ch.fr i:Nat)),(9,.int .i64 (ch.n:Nat))] R'∧
   L'= [(b7,true,.cells ⟨[.int .i64 (ch.lk i).s0,.int .i64 (ch.lk i).s1,.int .i64 ch.r0,.int .i64 ch.r1,.int .i64 0,.int .i64 0,.int .i64 0,.int .i64 0]⟩ 27 (0,0)),(b6,true,.cells ⟨[.int .i64 0,.int .i64 0,.int .i64 0,.int .i64 0,.int .i64 0,.int .i64 0,.int .i64 0,.int .i64 0]⟩ 27 (0,0)),(b3,true,.cells ⟨(ch.val7 lb lo lc).cells.toList⟩ 73 (0,0))]) ?_ (fun fin=> ?_)
 · rintro R' L' ⟨hR,rfl⟩
   refine Tc.dropB ?_ hR (List.Sublist.refl _)
   refine .seq (.seq ?_)
   refine Tc.via2 (fun R' L'=> AllIn [(3,.pointer (some ⟨b3,0,none⟩)),(6,.pointer (some ⟨b6,0,none⟩)),(7,.pointer (some ⟨b7,0,none⟩)),(8,.int .i64 (ch.fr i:Nat)),(9,.int .i64 (ch.to i:Nat))] R'∧
     L'= [(b7,true,.cells ⟨[.int .i64 (ch.lk i).s0,.int .i64 (ch.lk i).s1,.int .i64 (ch.lk i).r0,.int .i64 (ch.lk i).r1,.int .i64 0,.int .i64 0,.int .i64 0,.int .i64 0]⟩ 27 (0,0)),(b6,true,.cells ⟨[.int .i64 0,.int .i64 0,.int .i64 0,.int .i64 0,.int .i64 0,.int .i64 0,.int .i64 0,.int .i64 0]⟩ 27 (0,0)),(b3,true,.cells ⟨(ch.val7 lb lo lc).cells.toList⟩ 73 (0,0))]) ?_ (fun fin=> ?_)
   · rintro R' L' ⟨hR,rfl⟩
     refine Tc.dropB ?_ hR (List.Sublist.refl _)
     obtain⟨f,gs,gt,gz,hA1,hA2⟩:=hA.ln
     have hlc:=hA.lc
     have hj:∀j:Nat,j<ch.to i-ch.fr i→ldL true 4 gs ((lo+ch.fr i*4)+j*4)=some (lineV (ch.x (ch.fr i+j)) (ch.y (ch.fr i+j)) (ch.z (ch.fr i+j)) (ch.u (ch.fr i+j))):=fun j hj=> by
       rw[show lo+ch.fr i*4+j*4=lo+(ch.fr i+j)*4 by omega]
       exact hA2 _ (by omega)
     refine .sr ?_
     refine .x .fa ?_
     refine .x (.ld 2) ?_
     refine .m ?_
     refine .m ?_
     refine .x (OpV.slice (E:=en) (l:=(ch.fr i:Nat)) (h:=(ch.to i:Nat)) (off':=lo+ch.fr i*4) rfl rfl rfl rfl rfl rfl rfl rfl (by omega) (by omega) (by omega) (by rw[if_neg (by omega)];rfl)) ?_
     refine .c rfl rfl rfl rfl (fun H hs=> .f ca128 rfl (JoinOf_c M H lb (lo+ch.fr i*4) (ch.to i-ch.fr i) (lc-ch.fr i) f gs gt gz (fun j=> ch.x (ch.fr i+j)) (fun j=> ch.y (ch.fr i+j)) (fun j=> ch.z (ch.fr i+j)) (fun j=> ch.u (ch.fr i+j)) (by omega) (by omega) (hs.base _ _ hA1) hj (fun j hj=> hc.x _ (by omega)) (fun j hj=> hc.y _ (by omega)) (fun j hj=> hc.z _ (by omega)) (fun j hj=> hc.u _ (by omega)))) ?_
     refine .x .fa ?_
     refine .e (.st 0 (zz:=?_))
     refine .done (.sr ?_)
     refine .x (.ld 0) ?_
     refine .e (.st 1 (zz:=?_))
     refine .done ?_
     refine Tc.retN (E:=en) hK Tryz.func131 Tryz.results131 (vs:= [_]) (by refine⟨⟨1,_,_,_,_,_,_,_,rfl,rfl,rfl,rfl⟩,?_⟩;exact trivial) ?_
     exact fun H' hs=> ⟨hs.base,rfl⟩
   · by_cases h0:i<ch.m
     · have e1:ch.to i=ch.at_ i+1:=if_pos h0
       have e2:(ch.lk i).r0=ch.a0:=if_pos h0
       have e3:(ch.lk i).r1=ch.a1:=if_pos h0
       obtain⟨ab,ao,f,gs,gt,gz,rfl,hA3,hA4⟩:=hA.at_ (by omega)
       have hld:ldL false 1 gs (ao+((i:Nat):Int).toNat*1)=some (.int .i64 (ch.at_ i:Nat)):=hA4 i h0
       have hlt:=hc.lt i h0
       refine .r ?_
       refine .m ?_
       refine .m ?_
       refine .x .ln ?_
       refine .i ?_ (z:=lss_t (by omega))
       refine .done (.tt rfl ?_)
       refine Tc.dr [8] [0] mixed rfl ?_
       refine .q 0 rfl .fa ?_
       refine .q 1 rfl (.ld 2) ?_
       refine Ta.tkw 2 (by kernel_rfl) rfl rfl rfl (by decide) rfl rfl (OpV.take .mv) ?_
       refine Ta.tkw 3 (by kernel_rfl) rfl rfl rfl (by decide) rfl rfl (OpV.take .mv) ?_
       refine Ta.tkw 4 (by kernel_rfl) rfl rfl rfl (by decide) rfl rfl (OpV.take .ia) ?_
       refine Ta.tkw 5 (by kernel_rfl) rfl rfl rfl (by decide) rfl rfl (OpV.take .l0) ?_
       refine Ta.tkw 6 (by kernel_rfl) rfl rfl rfl (by decide) rfl rfl (OpV.take (.it (zz:=add_in (by omega) (by omega)))) ?_
       refine .q 7 rfl .fa ?_
       refine Ta.each [8] (by kernel_rfl) rfl ⟨TaOp.mk rfl rfl rfl (.st 0 (zz:=⟨S2.mk (by apply List.Sublist.cons;exact List.Sublist.refl _) (.inl (by kernel_rfl)),?_⟩)),trivial⟩
       refine Ta.tkw 9 (by kernel_rfl) rfl rfl rfl (by decide) rfl rfl (OpV.take .sg) ?_
       refine Ta.done (by kernel_rfl) ?_
       refine fin _ _ ⟨?_,?_⟩
       · rw[e1]
         refine⟨rfl,?_⟩;refine⟨rfl,?_⟩;refine⟨rfl,?_⟩;refine⟨rfl,?_⟩;refine⟨rfl,?_⟩;exact trivial
       · rw[e2,e3]
         rfl
     · have e1:ch.to i=ch.n:=if_neg h0
       have e2:(ch.lk i).r0=ch.r0:=if_neg h0
       have e3:(ch.lk i).r1=ch.r1:=if_neg h0
       refine .r ?_
       refine .m ?_
       refine .m ?_
       refine .x .ln ?_
       refine .i ?_ (z:=lss_f (by omega))
       refine .done (.ff rfl (.skip ?_))
       refine fin _ _ ⟨?_,?_⟩
       · rw[e1]
         refine⟨rfl,?_⟩;refine⟨rfl,?_⟩;refine⟨rfl,?_⟩;refine⟨rfl,?_⟩;refine⟨rfl,?_⟩;exact trivial
       · rw[e2,e3]
 · by_cases h0:i=0
   · subst h0
     refine .r ?_
     refine .m ?_
     refine .i ?_ (z:=gtr_f (by omega))
     refine .done (.ff rfl (.skip ?_))
     exact fin _ _ ⟨⟨rfl,rfl,rfl,rfl,rfl,rfl,rfl,trivial⟩,rfl⟩
   · have e1:ch.fr i=ch.at_ (i-1)+1:=if_neg h0
     have e2:(ch.lk i).s0=ch.a0:=if_neg h0
     have e3:(ch.lk i).s1=ch.a1:=if_neg h0
     obtain⟨ab,ao,f,gs,gt,gz,rfl,hA3,hA4⟩:=hA.at_ (by omega)
     have hld:ldL false 1 gs (ao+(((i:Nat):Int)-1).toNat*1)=some (.int .i64 (ch.at_ (i-1):Nat)):=by
       rw[show(((i:Nat):Int)-1).toNat=i-1 by omega]
       exact hA4 (i-1) (by omega)
     have hlt:=hc.lt (i-1) (by omega)
     refine .r ?_
     refine .m ?_
     refine .i ?_ (z:=gtr_t (by omega))
     refine .done (.tt rfl ?_)
     refine Tc.dr [9] [0] mixed rfl ?_
     refine .q 0 rfl .fa ?_
     refine .q 1 rfl (.ld 2) ?_
     refine Ta.tkw 2 (by kernel_rfl) rfl rfl rfl (by decide) rfl rfl (OpV.take .mv) ?_
     refine Ta.tkw 3 (by kernel_rfl) rfl rfl rfl (by decide) rfl rfl (OpV.take .mv) ?_
     refine Ta.tkw 4 (by kernel_rfl) rfl rfl rfl (by decide) rfl rfl (OpV.take (.it (zz:=sub_in (by omega) (by omega)))) ?_
     refine Ta.tkw 5 (by kernel_rfl) rfl rfl rfl (by decide) rfl rfl (OpV.take .ia) ?_
     refine Ta.tkw 6 (by kernel_rfl) rfl rfl rfl (by decide) rfl rfl (OpV.take .l0) ?_
     refine Ta.tkw 7 (by kernel_rfl) rfl rfl rfl (by decide) rfl rfl (OpV.take (.it (zz:=add_in (by omega) (by omega)))) ?_
     refine .q 8 rfl .fa ?_
     refine Ta.each [9] (by kernel_rfl) rfl ⟨TaOp.mk rfl rfl rfl (.st 0 (zz:=⟨S2.mk (by apply List.Sublist.cons;exact List.Sublist.refl _) (.inl (by kernel_rfl)),?_⟩)),trivial⟩
     refine Ta.tkw 10 (by kernel_rfl) rfl rfl rfl (by decide) rfl rfl (OpV.take .sg) ?_
     refine Ta.done (by kernel_rfl) ?_
     refine fin _ _ ⟨?_,?_⟩
     · rw[e1]
       refine⟨rfl,?_⟩;refine⟨rfl,?_⟩;refine⟨rfl,?_⟩;refine⟨rfl,?_⟩;refine⟨rfl,?_⟩;refine⟨rfl,?_⟩;refine⟨rfl,?_⟩;exact trivial
     · rw[e2,e3]
       rfl
theorem refJoin_any(ch:Ch)(A:Option Addr)(lc:Nat)(hA:LinesAt H ch A lc)(x y z u e:Int)(h:JAns ch x y z u e):
   CallT M 65 #[.slice A ch.n lc] H (fun v H'=> H.le H'∧v=.tuple ⟨[lineV x y z u,.int .i64 e]⟩):=by
 have hcl:=fun(H':View) (h':H.le H')=> refLines_c M H' ch A lc (hA.le h')
 rcases h with ⟨h1,h2,rfl,rfl,rfl,rfl⟩|h
 · rw[h1] at hcl
   refine CallT.enter (vs:= [.slice A ch.n lc]) Tryz.func65 rfl Tryz.ntmps65 (Nat.le_of_ble_eq_true rfl) (SymSt.nil _) fun St c cs hK=> ?_
   refine .sr ?_
   refine .e (.al (zz:=fun b2=> ?_))
   refine .g ?_
   refine .done (.seq (.sr ?_))
   refine .m ?_
   refine .c rfl rfl rfl rfl (fun H hs=> .f ca127 rfl (hcl H hs.base)) ?_
   refine .g ?_
   refine .done (.sr ?_)
   refine .m ?_
   refine .i ?_ (z:=neq_t (by omega))
   refine .done (.tt rfl (.sr ?_))
   refine .x .bu ?_
   refine .m ?_
   refine .e (.st 0 (zz:=?_))
   refine .g ?_
   refine .done ?_
   refine Tc.retN (E:=en) hK Tryz.func65 Tryz.results65 (vs:= [_,_]) (by refine⟨⟨0,_,_,_,_,_,_,_,rfl,rfl,rfl,rfl⟩,?_⟩;refine⟨rfl,?_⟩;exact trivial) ?_
   exact fun H' hs=> ⟨hs.base,rfl⟩
 · have h0:ch.linesAlarm=0:=by rcases h with h|h <;> exact h.1
   rw[h0] at hcl
   obtain⟨hn,hb⟩:=Ch.lines_in h0
   have hA':=hA
   obtain⟨hlc,h00|⟨lb,lo,f,gs,gt,gz,rfl,hA1,hA2⟩⟩:=hA'
   · omega
   have hj:=fun(H':View) (h':H.le H')=> JoinOf_c M H' lb lo ch.n lc f gs gt gz ch.x ch.y ch.z ch.u (by omega) (by omega) (h' _ _ hA1) hA2 (fun i hi=> by have:=hb i hi;omega) (fun i hi=> by have:=hb i hi;omega) (fun i hi=> by have:=hb i hi;omega) (fun i hi=> by have:=hb i hi;omega)
   rcases h with ⟨_,h2,rfl,rfl,rfl,rfl,rfl⟩|⟨_,h2,rfl,rfl,rfl,rfl,rfl⟩
   · refine CallT.enter (vs:= [.slice (some ⟨lb,lo,none⟩) ch.n lc]) Tryz.func65 rfl Tryz.ntmps65 (Nat.le_of_ble_eq_true rfl) (SymSt.nil _) fun St c cs hK=> ?_
     refine .sr ?_
     refine .e (.al (zz:=fun b2=> ?_))
     refine .g ?_
     refine .done (.seq (.sr ?_))
     refine .m ?_
     refine .c rfl rfl rfl rfl (fun H hs=> .f ca127 rfl (hcl H hs.base)) ?_
     refine .g ?_
     refine .done (.sr ?_)
     refine .m ?_
     refine .i ?_ (z:=neq_f (by omega))
     refine .done (.ff rfl (.skip (.sr ?_)))
     refine .m ?_
     refine .c rfl rfl rfl rfl (fun H hs=> .f ca128 rfl (hj H hs.base)) ?_
     refine .e (.al (zz:=fun b5=> ?_))
     refine .e (.st 0 (zz:=?_))
     refine .done (.seq (.sr ?_))
     refine .x (.ld 0) ?_
     refine .c rfl rfl rfl rfl (fun H hs=> .f ca82 rfl (refLine_is M H _ _ _ _ false h2 1 rfl)) ?_
     refine .g ?_
     refine .done (.sr ?_)
     refine .m ?_
     refine .i ?_ (z:=neq_t (by omega))
     refine .done (.tt rfl (.sr ?_))
     refine .x .bu ?_
     refine .m ?_
     refine .e (.st 1 (zz:=?_))
     refine .g ?_
     refine .done ?_
     refine Tc.retN (E:=en) hK Tryz.func65 Tryz.results65 (vs:= [_,_]) (by refine⟨⟨1,_,_,_,_,_,_,_,rfl,rfl,rfl,rfl⟩,?_⟩;refine⟨rfl,?_⟩;exact trivial) ?_
     exact fun H' hs=> ⟨hs.base,rfl⟩
   · refine CallT.enter (vs:= [.slice (some ⟨lb,lo,none⟩) ch.n lc]) Tryz.func65 rfl Tryz.ntmps65 (Nat.le_of_ble_eq_true rfl) (SymSt.nil _) fun St c cs hK=> ?_
     refine .sr ?_
     refine .e (.al (zz:=fun b2=> ?_))
     refine .g ?_
     refine .done (.seq (.sr ?_))
     refine .m ?_
     refine .c rfl rfl rfl rfl (fun H hs=> .f ca127 rfl (hcl H hs.base)) ?_
     refine .g ?_
     refine .done (.sr ?_)
     refine .m ?_
     refine .i ?_ (z:=neq_f (by omega))
     refine .done (.ff rfl (.skip (.sr ?_)))
     refine .m ?_
     refine .c rfl rfl rfl rfl (fun H hs=> .f ca128 rfl (hj H hs.base)) ?_
     refine .e (.al (zz:=fun b5=> ?_))
     refine .e (.st 0 (zz:=?_))
     refine .done (.seq (.sr ?_))
     refine .x (.ld 0) ?_
     refine .c rfl rfl rfl rfl (fun H hs=> .f ca82 rfl (refLine_is M H _ _ _ _ true h2 0 rfl)) ?_
     refine .g ?_
     refine .done (.sr ?_)
     refine .m ?_
     refine .i ?_ (z:=neq_f (by omega))
     refine .done (.ff rfl (.skip (.sr ?_)))
     refine .x (.ld 0) ?_
     refine .e (.st 1 (zz:=?_))
     refine .g ?_
     refine .done ?_
     refine Tc.retN (E:=en) hK Tryz.func65 Tryz.results65 (vs:= [_,_]) (by refine⟨⟨1,_,_,_,_,_,_,_,rfl,rfl,rfl,rfl⟩,?_⟩;refine⟨rfl,?_⟩;exact trivial) ?_
     exact fun H' hs=> ⟨hs.base,rfl⟩
end
end Go.Proofs.YtpdaenfglbgfkaaGreatDoor
end
section
namespace Go.Proofs.YtpdaenfglbgfkaaGreatDoor
open Go.RL
set_option maxRecDepth 10000
set_option maxHeartbeats 8000000
structure JGood(ch:Ch)(l:List Int)(l':List Nat):Prop where
 nums:l=numsL l'
 good:(ch.on l').Good
theorem JGood.of {ch:Ch}{l:List Int}(hm:ch.m=0)(ha:ch.alarm=0)(h:∀i,i<l.length→spotAt ch.n l i):∃l',JGood ch l l':=by
 have hg:=Ch.fair_good (Ch.alarm_zero.1 ha) hm
 have hn:l=numsL (l.map Int.toNat):=by
   apply List.ext_getElem?
   intro i
   unfold numsL
   rw[List.getElem?_map,List.getElem?_map]
   by_cases hi:i<l.length
   · have h1:=(h i hi).1.1
     rw[List.getElem?_eq_getElem hi] at h1 ⊢
     simp only[Option.getD_some] at h1
     simp only[Option.map_some,Option.some.injEq]
     omega
   · rw[List.getElem?_eq_none (by omega)]
     rfl
 have hat:∀i,i<l.length→(((l.map Int.toNat)[i]?.getD 0:Nat):Int)=l[i]?.getD 0:=fun i hi=> by
   have h1:=(h i hi).1.1
   rw[List.getElem?_map]
   rw[List.getElem?_eq_getElem hi] at h1 ⊢
   simp only[Option.getD_some,Option.map_some] at h1 ⊢
   omega
 have hlen:(l.map Int.toNat).length=l.length:=List.length_map ..
 refine⟨l.map Int.toNat,hn,⟨⟨hg.ok.n0,hg.ok.n4,hg.ok.x,hg.ok.y,hg.ok.z,hg.ok.u,fun i hi=> ?_,fun i hi=> ?_⟩,hg.s,hg.a,hg.r,hg.ln⟩⟩
 · have hi':i<l.length:=by rw[←hlen];exact hi
   have h1:=(h i hi').1.2
   have h2:=hat i hi'
   show(l.map Int.toNat)[i]?.getD 0+1<ch.n
   omega
 · have hi':i+1<l.length:=by rw[←hlen];exact hi
   have h1:=(h (i+1) hi').2 (by omega)
   rw[Nat.add_sub_cancel] at h1
   have h2:=hat i (by omega)
   have h3:=hat (i+1) hi'
   show(l.map Int.toNat)[i]?.getD 0<(l.map Int.toNat)[i+1]?.getD 0
   omega
theorem JGood.len {ch:Ch}{l:List Int}{l':List Nat}(h:JGood ch l l'):l.length=(ch.on l').m:=by
 rw[h.nums]
 unfold numsL
 rw[List.length_map]
 rfl
theorem JGood.at_ {ch:Ch}{l:List Int}{l':List Nat}(h:JGood ch l l'){H:View}{lb lo lc:Nat}{B:Option Addr}(hL:LinesAt H ch (some ⟨lb,lo,none⟩) lc)(hB:Nums H B l):ChAt H (ch.on l') lb lo lc B:=by
 have hn0:=h.good.ok.n0
 obtain⟨h1,h2|⟨lb',lo',f,gs,gt,gz,h3,h4,h5⟩⟩:=hL
 · have:(ch.on l').n=0:=h2
   omega
 · simp only[Option.some.injEq,Addr.mk.injEq,and_true] at h3
   obtain⟨rfl,rfl⟩:=h3
   refine⟨⟨f,gs,gt,gz,h4,h5⟩,h1,fun hm=> ?_⟩
   have hll:=h.len
   rcases hB with hB|⟨ab,ao,f2,gs2,gt2,gz2,e1,e2,e3⟩
   · rw[hB] at hll
     simp only[List.length_nil] at hll
     omega
   · refine⟨ab,ao,f2,gs2,gt2,gz2,e1,e2,fun i hi=> ?_⟩
     have:=e3 i (by omega)
     rw[Int.toNat_natCast] at this
     rw[this,h.nums]
     unfold numsL
     rw[List.getElem?_map]
     have hi':i<l'.length:=hi
     rw[List.getElem?_eq_getElem hi']
     show some (Value.int .i64 ((l'[i]:Nat):Int))=some (.int .i64 ((l'[i]?.getD 0:Nat):Int))
     rw[List.getElem?_eq_getElem hi']
     rfl
theorem LinesAt.some {H:View}{ch:Ch}{A:Option Addr}{lc:Nat}(h:LinesAt H ch A lc)(hn:0<ch.n):∃lb lo,A=Option.some ⟨lb,lo,none⟩:=by
 obtain⟨_,h2|⟨lb,lo,_,_,_,_,h3,_⟩⟩:=h
 · omega
 · exact⟨lb,lo,h3⟩
theorem Ch.Good.ok_lk {c:Ch}(h:c.Good)(i:Nat):(c.lk i).ok=c.fits i:=by
 cases hf:c.fits i with
 | true=> exact h.fine i hf
 | false=>
   cases ho:(c.lk i).ok with
   | false=> rfl
   | true=>
     rw[Lk.ok_eq] at ho
     simp only[Bool.and_eq_true] at ho
     unfold Ch.fits at hf
     rw[line_ok] at hf
     have h1:leanOk (c.lk i).l0 (c.lk i).l1=true:=ho.2.1
     have h2:moveOk (c.lk i).m0 (c.lk i).m1=true:=ho.2.2
     rw[h1,h2] at hf
     cases hf
section
variable(M:Md Tryz.prog)(H:View)
theorem Ascending_err(n:Nat)(l:List Int)(A:Option Addr)(m ca:Nat)(x:Int)(hx:x=(n:Int)-1)(hn:n≤1000)(hm:m=l.length)(h20:m≤20)(hA:Nums H A l)(e:Int)(j:Nat)(hj:j<l.length)(hall:∀i,i<j→spotAt n l i)
   (hbad:e=6∧¬(0≤l[j]?.getD 0∧l[j]?.getD 0≤(n:Int)-2)∨e=7∧(0≤l[j]?.getD 0∧l[j]?.getD 0≤(n:Int)-2)∧0<j∧l[j]?.getD 0≤l[j-1]?.getD 0):
   CallT M 38 #[.slice A m ca,.int .i64 x] H (fun v H'=> H.le H'∧v=.int .i64 e):=by
 rcases hA with hA|⟨a1,a2,a3,a4,a5,a6,rfl,a7,a8⟩
 · rw[hA] at hj;simp at hj
 have hIn:∀(y:Int) (t:Bool),decide (0≤y∧y≤x-1)=t→∀H',CallT M 59 #[.int .i64 y,.int .i64 0,.int .i64 (x-1)] H' (fun v H''=> H'.le H''∧v=.bool t):=fun y t ht H'=>
   CallT.mono (In_c M H' y 0 (x-1)) (by rintro v H'' ⟨h1,h2⟩;rw[ht] at h2;exact⟨h1,h2⟩)
 refine CallT.enter (vs:= [.slice (some ⟨a1,a2,none⟩) m ca,.int .i64 x]) Tryz.func38 rfl Tryz.ntmps38 (Nat.le_of_ble_eq_true rfl) (SymSt.nil _) fun St c cs hK=> ?_
 refine .sr ?_
 refine .g ?_
 refine .done (.seq (.sr ?_))
 refine .g ?_
 refine .done (.block ?_)
 refine Tc.db (Tc.loopInv (σ:= { i:Nat//i≤j }) (fun i=> ([(0,.slice (some ⟨a1,a2,none⟩) m ca),(1,.int .i64 x),(5,.int .i64 (i.1:Nat))],[])) (fun i=> j-i.1) ?_ ⟨0,Nat.zero_le _⟩)
 rintro⟨i,hi⟩ ih
 show Tc M St _ _ _ _ [(0,.slice (some ⟨a1,a2,none⟩) m ca),(1,.int .i64 x),(5,.int .i64 (i:Nat))] [] _ _
 have f1:=a8 i (by omega)
 by_cases c1:i=j
 · subst c1
   rcases hbad with ⟨rfl,hb⟩|⟨rfl,hb1,hb2,hb3⟩
   · refine .seq (.sr ?_)
     refine .m ?_
     refine .m ?_
     refine .x .ln ?_
     refine .i ?_ (z:=lss_t (by omega))
     refine .done (.tt rfl (.skip (.seq (.block (.seq (.sr ?_))))))
     refine .m ?_
     refine .m ?_
     refine .x .ia ?_
     refine .x .l0 ?_
     refine .m ?_
     refine .i ?_ (z:=sub_in (by omega) (by omega))
     refine .c rfl rfl rfl rfl (fun H hs=> .f ca59 rfl (hIn (l[i]?.getD 0) false (decide_eq_false (by omega)) H)) ?_
     refine .x .nt ?_
     refine .done (.tt rfl (.sr ?_))
     refine .g ?_
     refine .done ?_
     refine .rt hK Tryz.func38 Tryz.results38 [_] ?_
     exact fun H' hs=> ⟨hs.base,rfl⟩
   · have f2:ldL false 1 a4 (a2+((i:Int)-1).toNat*1)=some (.int .i64 (l[i-1]?.getD 0)):=by rw[show((i:Int)-1).toNat=((i-1:Nat):Int).toNat by omega];exact a8 (i-1) (by omega)
     refine .seq (.sr ?_)
     refine .m ?_
     refine .m ?_
     refine .x .ln ?_
     refine .i ?_ (z:=lss_t (by omega))
     refine .done (.tt rfl (.skip (.seq (.block (.seq (.sr ?_))))))
     refine .m ?_
     refine .m ?_
     refine .x .ia ?_
     refine .x .l0 ?_
     refine .m ?_
     refine .i ?_ (z:=sub_in (by omega) (by omega))
     refine .c rfl rfl rfl rfl (fun H hs=> .f ca59 rfl (hIn (l[i]?.getD 0) true (decide_eq_true (by omega)) H)) ?_
     refine .x .nt ?_
     refine .done (.ff rfl (.skip (.seq ?_)))
     refine Tc.dr [] [] mixed rfl ?_
     refine .q 0 rfl .mv ?_
     refine .q 1 rfl (.it (zz:=gtr_t (by omega))) ?_
     refine .q 2 rfl .mv ?_
     refine .q 3 rfl .mv ?_
     refine .q 4 rfl .mv ?_
     refine .q 5 rfl (.it (zz:=sub_in (by omega) (by omega))) ?_
     refine .q 6 rfl .ia ?_
     refine .q 7 rfl .l0 ?_
     refine .q 8 rfl .mv ?_
     refine .q 9 rfl .mv ?_
     refine .q 10 rfl .ia ?_
     refine .q 11 rfl .l0 ?_
     refine .q 12 rfl (.it (zz:=geq_t (by omega))) ?_
     refine .q 13 rfl .pk ?_
     refine Ta.done (by kernel_rfl) ?_
     refine .tt rfl (.sr ?_)
     refine .g ?_
     refine .done ?_
     refine .rt hK Tryz.func38 Tryz.results38 [_] ?_
     exact fun H' hs=> ⟨hs.base,rfl⟩
 · have hs1:=hall i (by omega)
   unfold spotAt at hs1
   obtain⟨g1,g2⟩:=hs1
   by_cases c0:i=0
   · subst c0
     refine .seq (.sr ?_)
     refine .m ?_
     refine .m ?_
     refine .x .ln ?_
     refine .i ?_ (z:=lss_t (by omega))
     refine .done (.tt rfl (.skip (.seq (.block (.seq (.sr ?_))))))
     refine .m ?_
     refine .m ?_
     refine .x .ia ?_
     refine .x .l0 ?_
     refine .m ?_
     refine .i ?_ (z:=sub_in (by omega) (by omega))
     refine .c rfl rfl rfl rfl (fun H hs=> .f ca59 rfl (hIn (l[0]?.getD 0) true (decide_eq_true (by omega)) H)) ?_
     refine .x .nt ?_
     refine .done (.ff rfl (.skip (.seq ?_)))
     refine Tc.dr [] [] mixed rfl ?_
     refine .q 0 rfl .mv ?_
     refine .q 1 rfl (.it (zz:=gtr_f (by omega))) ?_
     refine .q 2 rfl .mv ?_
     refine Ta.ps 3 (by kernel_rfl) rfl rfl rfl (by decide) rfl rfl ?_
     refine Ta.ps 4 (by kernel_rfl) rfl rfl rfl (by decide) rfl rfl ?_
     refine Ta.ps 5 (by kernel_rfl) rfl rfl rfl (by decide) rfl rfl ?_
     refine Ta.ps 6 (by kernel_rfl) rfl rfl rfl (by decide) rfl rfl ?_
     refine Ta.ps 7 (by kernel_rfl) rfl rfl rfl (by decide) rfl rfl ?_
     refine Ta.ps 8 (by kernel_rfl) rfl rfl rfl (by decide) rfl rfl ?_
     refine Ta.ps 9 (by kernel_rfl) rfl rfl rfl (by decide) rfl rfl ?_
     refine Ta.ps 10 (by kernel_rfl) rfl rfl rfl (by decide) rfl rfl ?_
     refine Ta.ps 11 (by kernel_rfl) rfl rfl rfl (by decide) rfl rfl ?_
     refine Ta.ps 12 (by kernel_rfl) rfl rfl rfl (by decide) rfl rfl ?_
     refine .q 13 rfl .pk ?_
     refine Ta.done (by kernel_rfl) ?_
     refine .ff rfl (.skip (.inBlock (.r ?_)))
     refine .m ?_
     refine .i ?_ (z:=add_in (by omega) (by omega))
     refine .g ?_
     refine .done ?_
     exact Tc.db (ih ⟨1,by omega⟩ (by simp only;omega))
   · have f2:ldL false 1 a4 (a2+((i:Int)-1).toNat*1)=some (.int .i64 (l[i-1]?.getD 0)):=by rw[show((i:Int)-1).toNat=((i-1:Nat):Int).toNat by omega];exact a8 (i-1) (by omega)
     have g3:=g2 (by omega)
     refine .seq (.sr ?_)
     refine .m ?_
     refine .m ?_
     refine .x .ln ?_
     refine .i ?_ (z:=lss_t (by omega))
     refine .done (.tt rfl (.skip (.seq (.block (.seq (.sr ?_))))))
     refine .m ?_
     refine .m ?_
     refine .x .ia ?_
     refine .x .l0 ?_
     refine .m ?_
     refine .i ?_ (z:=sub_in (by omega) (by omega))
     refine .c rfl rfl rfl rfl (fun H hs=> .f ca59 rfl (hIn (l[i]?.getD 0) true (decide_eq_true (by omega)) H)) ?_
     refine .x .nt ?_
     refine .done (.ff rfl (.skip (.seq ?_)))
     refine Tc.dr [] [] mixed rfl ?_
     refine .q 0 rfl .mv ?_
     refine .q 1 rfl (.it (zz:=gtr_t (by omega))) ?_
     refine .q 2 rfl .mv ?_
     refine .q 3 rfl .mv ?_
     refine .q 4 rfl .mv ?_
     refine .q 5 rfl (.it (zz:=sub_in (by omega) (by omega))) ?_
     refine .q 6 rfl .ia ?_
     refine .q 7 rfl .l0 ?_
     refine .q 8 rfl .mv ?_
     refine .q 9 rfl .mv ?_
     refine .q 10 rfl .ia ?_
     refine .q 11 rfl .l0 ?_
     refine .q 12 rfl (.it (zz:=geq_f (by omega))) ?_
     refine .q 13 rfl .pk ?_
     refine Ta.done (by kernel_rfl) ?_
     refine .ff rfl (.skip (.inBlock (.r ?_)))
     refine .m ?_
     refine .i ?_ (z:=add_in (by omega) (by omega))
     refine .g ?_
     refine .done ?_
     exact Tc.db (ih ⟨i+1,by omega⟩ (by simp only;omega))
theorem checkSpots_err(ch:Ch)(A:Option Addr)(lc:Nat)(hA:LinesAt H ch A lc)(l:List Int)(B:Option Addr)(m ac:Nat)(hm:m=l.length)(h20:m≤20)(hB:Nums H B l)(e:Int)(h:JErr ch l e):
   CallT M 130 #[ch.valA A lc,.slice B m ac] H (fun v H'=> H.le H'∧v=.int .i64 e):=by
 have hpos:=h.pos
 have hcc:=fun(H':View) (h':H.le H')=> refChain_c M H' ch A lc (hA.le h')
 by_cases ha:ch.alarm=0
 · obtain⟨j,hj,hall,hbad⟩:∃j,j<l.length∧(∀i,i<j→spotAt ch.n l i)∧(e=6∧¬(0≤l[j]?.getD 0∧l[j]?.getD 0≤(ch.n:Int)-2)∨e=7∧(0≤l[j]?.getD 0∧l[j]?.getD 0≤(ch.n:Int)-2)∧0<j∧l[j]?.getD 0≤l[j-1]?.getD 0):=by
     cases h with
     | chain h1 h2=> exact(h2 (h1.symm.trans ha)).elim
     | @absent j _ h1 h2 h3=> exact⟨j,h1,h2,.inl ⟨rfl,h3⟩⟩
     | @order j _ h1 h2 h3 h4 h5=> exact⟨j,h1,h2,.inr ⟨rfl,h3,h4,h5⟩⟩
   have hn4:1≤ch.n∧ch.n≤4:=by
     have:=Ch.alarm_zero.1 ha
     unfold Ch.fair at this
     simp only[Bool.and_eq_true,decide_eq_true_eq] at this
     exact this.2.1
   rw[ha] at hcc
   refine CallT.enter (vs:= [ch.valA A lc,.slice B m ac]) Tryz.func130 rfl Tryz.ntmps130 (Nat.le_of_ble_eq_true rfl) (SymSt.nil _) fun St c cs hK=> ?_
   refine .sr ?_
   refine .e (.bx (zz:=fun b2=> ?_))
   refine .g ?_
   refine .done (.seq (.sr ?_))
   refine .x (.ld 0) ?_
   refine .c rfl rfl rfl rfl (fun H hs=> .f ca67 rfl (hcc H hs.base)) ?_
   refine .g ?_
   refine .done (.sr ?_)
   refine .m ?_
   refine .i ?_ (z:=neq_f (by omega))
   refine .done (.ff rfl (.skip (.sr ?_)))
   refine .m ?_
   refine .x .fa ?_
   refine .x (.ld 0) ?_
   refine .x .ln ?_
   refine .i ?_ (z:=sub_in (by omega) (by omega))
   refine .c rfl rfl rfl rfl (fun H hs=> .f ca38 rfl (Ascending_err M H ch.n l B m ac ((ch.n:Int)-1) rfl (by omega) hm h20 (hB.le hs.base) e j hj hall hbad)) ?_
   refine .g ?_
   refine .done ?_
   refine .rt hK Tryz.func130 Tryz.results130 [_] ?_
   exact fun H' hs=> ⟨hs.base,rfl⟩
 · have he:ch.alarm=e:=by
     cases h with
     | chain h1 h2=> exact h1
     | absent h1 _ _ _=> exact(ha h1).elim
     | order h1 _ _ _ _ _=> exact(ha h1).elim
   rw[he] at hcc
   refine CallT.enter (vs:= [ch.valA A lc,.slice B m ac]) Tryz.func130 rfl Tryz.ntmps130 (Nat.le_of_ble_eq_true rfl) (SymSt.nil _) fun St c cs hK=> ?_
   refine .sr ?_
   refine .e (.bx (zz:=fun b2=> ?_))
   refine .g ?_
   refine .done (.seq (.sr ?_))
   refine .x (.ld 0) ?_
   refine .c rfl rfl rfl rfl (fun H hs=> .f ca67 rfl (hcc H hs.base)) ?_
   refine .g ?_
   refine .done (.sr ?_)
   refine .m ?_
   refine .i ?_ (z:=neq_t (by omega))
   refine .done (.tt rfl (.sr ?_))
   refine .m ?_
   refine .g ?_
   refine .done ?_
   refine .rt hK Tryz.func130 Tryz.results130 [_] ?_
   exact fun H' hs=> ⟨hs.base,rfl⟩
theorem checkSpots_good(ch:Ch)(A:Option Addr)(lc:Nat)(hA:LinesAt H ch A lc)(l:List Int)(B:Option Addr)(m ac:Nat)(hm:m=l.length)(h20:m≤20)(hB:Nums H B l)(ha:ch.alarm=0)(h:∀i,i<l.length→spotAt ch.n l i):
   CallT M 130 #[ch.valA A lc,.slice B m ac] H (fun v H'=> H.le H'∧v=.int .i64 0):=by
 have hcc:=fun(H':View) (h':H.le H')=> refChain_c M H' ch A lc (hA.le h')
 rw[ha] at hcc
 have hn4:1≤ch.n∧ch.n≤4:=by
   have:=Ch.alarm_zero.1 ha
   unfold Ch.fair at this
   simp only[Bool.and_eq_true,decide_eq_true_eq] at this
   exact this.2.1
 refine CallT.enter (vs:= [ch.valA A lc,.slice B m ac]) Tryz.func130 rfl Tryz.ntmps130 (Nat.le_of_ble_eq_true rfl) (SymSt.nil _) fun St c cs hK=> ?_
 refine .sr ?_
 refine .e (.bx (zz:=fun b2=> ?_))
 refine .g ?_
 refine .done (.seq (.sr ?_))
 refine .x (.ld 0) ?_
 refine .c rfl rfl rfl rfl (fun H hs=> .f ca67 rfl (hcc H hs.base)) ?_
 refine .g ?_
 refine .done (.sr ?_)
 refine .m ?_
 refine .i ?_ (z:=neq_f (by omega))
 refine .done (.ff rfl (.skip (.sr ?_)))
 refine .m ?_
 refine .x .fa ?_
 refine .x (.ld 0) ?_
 refine .x .ln ?_
 refine .i ?_ (z:=sub_in (by omega) (by omega))
 refine .c rfl rfl rfl rfl (fun H hs=> .f ca38 rfl (Ascending_good M H B l m ac ((ch.n:Int)-1) hm (by omega) (by omega) (hB.le hs.base) (fun i hi=> by have:=(h i (by omega)).1;omega) (fun i h0 hi=> (h i (by omega)).2 h0))) ?_
 refine .g ?_
 refine .done ?_
 refine .rt hK Tryz.func130 Tryz.results130 [_] ?_
 exact fun H' hs=> ⟨hs.base,rfl⟩
theorem WeakOf_c(ch:Ch)(lb lo lc ac:Nat)(A:Option Addr)(hA:ChAt H ch lb lo lc A)(hg:ch.Good):
   CallT M 132 #[ch.val7 lb lo lc,.slice A ch.m ac] H (fun v H'=> H.le H'∧v=.tuple ⟨[.int .i64 (ch.sec:Nat),.int .i64 ((ch.bad ch.sec).getD 0),.bool ch.first.isSome]⟩):=by
 have hmn:=hg.ok.m_lt
 have hn4:=hg.ok.n4
 refine CallT.enter (vs:= [ch.val7 lb lo lc,.slice A ch.m ac]) Tryz.func132 rfl Tryz.ntmps132 (Nat.le_of_ble_eq_true rfl) (SymSt.nil _) fun St c cs hK=> ?_
 refine .sr ?_
 refine .e (.bx (zz:=fun b2=> ?_))
 refine .g ?_
 refine .g ?_
 refine .g ?_
 refine .done (.seq (.sr ?_))
 refine .g ?_
 refine .done (.block ?_)
 refine Tc.db (Tc.loopInv (σ:= { i:Nat//i≤ch.m+1∧firstTo ch.isBad i=none }) (fun i=> ([(1,.slice A ch.m ac),(2,.pointer (some ⟨b2,0,none⟩)),(7,.int .i64 (i.1:Nat))],[(b2,true,.cells ⟨(ch.val7 lb lo lc).cells.toList⟩ 73 (0,0))])) (fun i=> ch.m+1-i.1) ?_ ⟨0,Nat.zero_le _,rfl⟩)
 rintro⟨i,hi,hno⟩ ih
 show Tc M St _ _ _ _ [(1,.slice A ch.m ac),(2,.pointer (some ⟨b2,0,none⟩)),(7,.int .i64 (i:Nat))] [(b2,true,.cells ⟨(ch.val7 lb lo lc).cells.toList⟩ 73 (0,0))] _ _
 by_cases c1:i=ch.m+1
 · subst c1
   have e1:ch.first=none:=hno
   have e2:ch.sec=0:=by unfold Ch.sec;rw[e1];rfl
   have e3:ch.bad 0=none:=by
     have:=(firstTo_none _).1 hno 0 (by omega)
     unfold Ch.isBad at this
     cases h:ch.bad 0 with
     | none=> rfl
     | some z=> rw[h] at this;cases this
   rw[e1,e2,e3] at hK
   refine .seq (.sr ?_)
   refine .m ?_
   refine .m ?_
   refine .x .ln ?_
   refine .i ?_ (z:=leq_f (by omega))
   refine .done (.ff rfl (.exit rfl (.sr ?_)))
   refine .g ?_
   refine .g ?_
   refine .g ?_
   refine .done ?_
   refine .rt hK Tryz.func132 Tryz.results132 [_,_,_] ?_
   exact fun H' hs=> ⟨hs.base,rfl⟩
 · have c2:i≤ch.m:=by omega
   have hlk:=fun(H':View) (h':H.le H')=> LinkOf_c M H' ch i lb lo lc ac A hg.ok (hA.le h') c2
   have hdone:∀z,ch.bad i=some z→ch.sec=i∧(ch.bad ch.sec).getD 0=z∧ch.first.isSome=true:=fun z hz=> by
     have hb:ch.isBad i=true:=by unfold Ch.isBad;rw[hz];rfl
     have h1:firstTo ch.isBad (i+1)=some i:=by simp[firstTo,hno,hb]
     have h2:ch.first=some i:=firstTo_stays h1 (ch.m+1) (by omega)
     have h3:ch.sec=i:=by unfold Ch.sec;rw[h2];rfl
     exact⟨h3,by rw[h3,hz];rfl,by rw[h2];rfl⟩
   have hok:=hg.ok_lk i
   cases hf:ch.fits i with
   | false=>
     rw[hf] at hok
     have hb:ch.bad i=some (-1):=by unfold Ch.bad;rw[hf];rfl
     obtain⟨e1,e2,e3⟩:=hdone _ hb
     rw[e2,e3,e1] at hK
     refine .seq (.sr ?_)
     refine .m ?_
     refine .m ?_
     refine .x .ln ?_
     refine .i ?_ (z:=leq_t (by omega))
     refine .done (.tt rfl (.skip (.seq (.block (.sr ?_)))))
     refine .x (.ld 0) ?_
     refine .m ?_
     refine .m ?_
     refine .c rfl rfl rfl rfl (fun H hs=> .f ca131 rfl (hlk H hs.base)) ?_
     refine .e (.al (zz:=fun b8=> ?_))
     refine .e (.st 0 (zz:=?_))
     refine .done (.seq (.sr ?_))
     refine .x (.ld 0) ?_
     refine .c rfl rfl rfl rfl (fun H hs=> .f ca61 rfl (refLink_is M H (ch.lk i) false hok 1 rfl)) ?_
     refine .i ?_ (z:=neq_t (by omega))
     refine .done (.tt rfl (.sr ?_))
     refine .m ?_
     refine .g ?_
     refine .g ?_
     refine .g ?_
     refine .done ?_
     refine .rt hK Tryz.func132 Tryz.results132 [_,_,_] ?_
     exact fun H' hs=> ⟨hs.base,rfl⟩
   | true=>
     rw[hf] at hok
     cases hw:(ch.lk i).weak with
     | none=>
       have hb:ch.isBad i=false:=by unfold Ch.isBad Ch.bad;rw[hf,hw];rfl
       have hu:=Lk.unsure_none hw
       refine .seq (.sr ?_)
       refine .m ?_
       refine .m ?_
       refine .x .ln ?_
       refine .i ?_ (z:=leq_t (by omega))
       refine .done (.tt rfl (.skip (.seq (.block (.sr ?_)))))
       refine .x (.ld 0) ?_
       refine .m ?_
       refine .m ?_
       refine .c rfl rfl rfl rfl (fun H hs=> .f ca131 rfl (hlk H hs.base)) ?_
       refine .e (.al (zz:=fun b8=> ?_))
       refine .e (.st 0 (zz:=?_))
       refine .done (.seq (.sr ?_))
       refine .x (.ld 0) ?_
       refine .c rfl rfl rfl rfl (fun H hs=> .f ca61 rfl (refLink_is M H (ch.lk i) true hok 0 rfl)) ?_
       refine .i ?_ (z:=neq_f (by omega))
       refine .done (.ff rfl (.skip (.sr ?_)))
       refine .x (.ld 0) ?_
       refine .c rfl rfl rfl rfl (fun H hs=> .f ca107 rfl (Unsure_is M H (ch.lk i) hok (-1) hu)) ?_
       refine .g ?_
       refine .done (.sr ?_)
       refine .m ?_
       refine .i ?_ (z:=geq_f (by omega))
       refine .done (.ff rfl (.skip (.inBlock (.r ?_))))
       refine .m ?_
       refine .i ?_ (z:=add_in (by omega) (by omega))
       refine .g ?_
       refine .done ?_
       exact Tc.db (ih ⟨i+1,by omega,by simp[firstTo,hno,hb]⟩ (by simp only;omega))
     | some w=>
       have hb:ch.bad i=some (w:Nat):=by unfold Ch.bad;rw[hf,hw];rfl
       obtain⟨e1,e2,e3⟩:=hdone _ hb
       rw[e2,e3,e1] at hK
       have hu:=Lk.unsure_some hw
       refine .seq (.sr ?_)
       refine .m ?_
       refine .m ?_
       refine .x .ln ?_
       refine .i ?_ (z:=leq_t (by omega))
       refine .done (.tt rfl (.skip (.seq (.block (.sr ?_)))))
       refine .x (.ld 0) ?_
       refine .m ?_
       refine .m ?_
       refine .c rfl rfl rfl rfl (fun H hs=> .f ca131 rfl (hlk H hs.base)) ?_
       refine .e (.al (zz:=fun b8=> ?_))
       refine .e (.st 0 (zz:=?_))
       refine .done (.seq (.sr ?_))
       refine .x (.ld 0) ?_
       refine .c rfl rfl rfl rfl (fun H hs=> .f ca61 rfl (refLink_is M H (ch.lk i) true hok 0 rfl)) ?_
       refine .i ?_ (z:=neq_f (by omega))
       refine .done (.ff rfl (.skip (.sr ?_)))
       refine .x (.ld 0) ?_
       refine .c rfl rfl rfl rfl (fun H hs=> .f ca107 rfl (Unsure_is M H (ch.lk i) hok (w:Nat) hu)) ?_
       refine .g ?_
       refine .done (.sr ?_)
       refine .m ?_
       refine .i ?_ (z:=geq_t (by omega))
       refine .done (.tt rfl (.sr ?_))
       refine .m ?_
       refine .m ?_
       refine .g ?_
       refine .g ?_
       refine .g ?_
       refine .done ?_
       refine .rt hK Tryz.func132 Tryz.results132 [_,_,_] ?_
       exact fun H' hs=> ⟨hs.base,rfl⟩
end
end Go.Proofs.YtpdaenfglbgfkaaGreatDoor
end
section
namespace Go.RL
section
variable {P:Program}{E:Env P}{M:Md P}{n:Nat}{H₀:View}{R:Rg}{L:Bl}{K:Rg→Bl→Prop}{o:Oper}{d:Nat}
theorem Or.permL {L₁:Bl}(p:L₁.Perm L)(h:Or M n H₀ R L₁ o K):Or M n H₀ R L o K:=fun H tmps hs hr=> h H tmps (hs.perm p) hr
theorem Or.appendAt(L₁:Bl){cl:Go.Call}{x y:Operand}{t xt e:TypeId}{sz m:Nat}{yv:Value}{new:List Value}{g:Gl e sz}{r re rx:TyRow}{ex:TypeId}(hop:o.op=.call cl)(hcl:cl.callee=.builtin .append)(hat:cl.argTypes=#[t,xt])(har:cl.args=#[x,y])
   (hx:evR R x=some g.val) (hy:evR R y=some yv) (ht:E.ty t=some r) (hds:r.ds=.slice e) (hre:E.ty e=some re) (hsz:re.size=sz) (hzs:Nat.beq re.zero.cells.toList.length sz=true) (hxt:E.ty xt=some rx) (hex:rx.ds=.slice ex) (hby:Nat.ble re.bytes 1000=true)
   (hsrc:∀H,SymSt H₀ (L₁++g.bl) H→SrcAt H sz yv m new) (hs:new.all single=true) (hm:g.n+m≤1000000000) (hd:o.dst=some d) (hn:d<n)
   (hk:∀g':Gl e sz,g'.n=g.n+m→g'.l=g.l++new→K ((d,g'.val)::R) (L₁++g'.bl)):Or M n H₀ R (L₁++g.bl) o K:=
 Or.append L₁.length hop hcl hat har hx hy ht hds hre hsz hzs hxt hex hby (by simp) hsrc hs hm hd hn fun g' h1 h2=> by
   rw[List.take_left' rfl]
   exact hk g' h1 h2
end
end Go.RL
namespace Go.Proofs.YtpdaenfglbgfkaaGreatDoor
open Go.RL
set_option maxRecDepth 10000
set_option maxHeartbeats 16000000
def choicesI:List Int→List (List Int)
 | []=> [[]]
 | a::l=> []::((choicesI l).map (a::·)++(choicesI l).tail)
theorem choicesI_len:∀l:List Int,(choicesI l).length=2 ^ l.length
 | []=> rfl
 | a::l=> by
   have h:=choicesI_len l
   have h2:0<2 ^ l.length:=Nat.pow_pos (by decide)
   show((choicesI l).map (a::·)++(choicesI l).tail).length+1=2 ^ (l.length+1)
   rw[List.length_append,List.length_map,List.length_tail,h,Nat.pow_succ]
   omega
theorem choices_short:∀(l m:List Int),m∈choicesI l→m.length≤l.length
 | [],m,h=> by
   simp only[choicesI,List.mem_singleton] at h
   rw[h]
   exact Nat.le_refl _
 | a ::l,m,h=> by
   simp only[choicesI,List.mem_cons,List.mem_append,List.mem_map] at h
   rcases h with rfl|⟨m',h,rfl⟩|h
   · simp
   · have:=choices_short l m' h
     simp only[List.length_cons]
     omega
   · have:=choices_short l m (List.mem_of_mem_tail h)
     simp only[List.length_cons]
     omega
theorem choices_tail {l:List Int}{i:Nat}(hi:i<l.length):(choicesI (l.drop i)).tail=(choicesI (l.drop (i+1))).map ((l[i]?.getD 0)::·)++(choicesI (l.drop (i+1))).tail:=by
 rw[List.drop_eq_getElem_cons hi,List.getElem?_eq_getElem hi]
 rfl
def IsL(H:View)(w:Value)(l:List Int):Prop:=∃A c,w=.slice A l.length c∧Nums H A l∧(l= []→A=none∧c=0)
theorem IsL.le {H H':View}{w:Value}{l:List Int}(h:IsL H w l)(k:H.le H'):IsL H' w l:=by
 obtain⟨A,c,h1,h2,h3⟩:=h
 exact⟨A,c,h1,h2.le k,h3⟩
theorem IsL.src {H:View}{w:Value}{l:List Int}(h:IsL H w l):SrcAt H 1 w l.length (intsL l):=by
 obtain⟨A,c,rfl,h2,h3⟩:=h
 by_cases hl:l= []
 · obtain⟨rfl,rfl⟩:=h3 hl
   subst hl
   exact⟨⟨_,_,rfl⟩,rfl,.inl ⟨0,rfl,rfl⟩⟩
 · exact h2.src hl rfl c
theorem single_ints(l:List Int):(intsL l).all single=true:=by
 rw[List.all_eq_true]
 intro y hy
 obtain⟨z,_,rfl⟩:=List.mem_map.1 hy
 rfl
def AllIs(H:View)(vs:List Value)(ls:List (List Int)):Prop:=vs.length=ls.length∧∀j:Nat,j<ls.length→∃w,vs[j]? =some w∧IsL H w (ls[j]?.getD [])
theorem AllIs.le {H H':View}{vs:List Value}{ls:List (List Int)}(h:AllIs H vs ls)(k:H.le H'):AllIs H' vs ls:=
 ⟨h.1,fun j hj=> by obtain⟨w,h1,h2⟩:=h.2 j hj;exact⟨w,h1,h2.le k⟩⟩
theorem AllIs.snoc {H:View}{vs:List Value}{ls:List (List Int)}(h:AllIs H vs ls){w:Value}{l:List Int}(hw:IsL H w l):AllIs H (vs++[w]) (ls++[l]):=by
 refine⟨by simp[h.1],fun j hj=> ?_⟩
 rw[List.length_append,List.length_singleton] at hj
 by_cases h1:j<ls.length
 · obtain⟨w',h2,h3⟩:=h.2 j h1
   rw[List.getElem?_append_left (by rw[h.1];exact h1),List.getElem?_append_left h1]
   exact⟨w',h2,h3⟩
 · have:j=ls.length:=by omega
   subst this
   rw[List.getElem?_append_right (by rw[h.1];exact Nat.le_refl _),List.getElem?_append_right (Nat.le_refl _),h.1,Nat.sub_self]
   exact⟨w,rfl,hw⟩
def Lists(H:View)(v:Value)(ls:List (List Int)):Prop:=∃b o c f gs gt gz,v=.slice (some ⟨b,o,none⟩) ls.length c∧H b=some (f,.cells ⟨gs⟩ gt gz)∧∀j:Nat,j<ls.length→∃w,ldL false 1 gs (o+(j:Int).toNat*1)=some w∧IsL H w (ls[j]?.getD [])
theorem Lists.of {H:View}{g:Gl 28 1}{ls:List (List Int)}(hne:ls≠ [])(hg:g.n=ls.length)(h:AllIs H g.l ls)(hb:∀y∈g.bl,H y.1=some y.2):Lists H g.val ls:=by
 have h0:0<ls.length:=List.length_pos_iff.2 hne
 obtain⟨_|b,n,cap,gl,gj,h1,h2,h3,h4⟩:=g
 · have:=h4 rfl
   simp only at hg h2
   omega
 · simp only at hg h
   subst hg
   refine⟨b,0,cap,true,gl++gj,28,(0,0),rfl,hb (b,true,.cells ⟨gl++gj⟩ 28 (0,0)) (by simp[Gl.bl]),fun j hj=> ?_⟩
   obtain⟨w,e1,e2⟩:=h.2 j hj
   refine⟨w,?_,e2⟩
   show(gl++gj)[0+(j:Int).toNat*1]? =_
   rw[Nat.zero_add,Nat.mul_one,Int.toNat_natCast,List.getElem?_append_left (by rw[h.1];exact hj)]
   exact e1
section
variable(M:Md Tryz.prog)
theorem Choices_c:∀(d:Nat) (H:View) (l:List Int) (A:Option Addr) (n ca:Nat),l.length≤d→l.length≤3→n=l.length→n≤ca→Nums H A l→CallT M 133 #[.slice A n ca] H (fun v H'=> H.le H'∧Lists H' v (choicesI l)):=by
 intro d
 induction d with
 | zero=>
   intro H l A n ca hd _ hn _ _
   obtain rfl:l= []:=List.eq_nil_of_length_eq_zero (by omega)
   simp only[List.length_nil] at hn
   subst hn
   refine CallT.enter (vs:= [.slice A 0 ca]) Tryz.func133 rfl Tryz.ntmps133 (Nat.le_of_ble_eq_true rfl) (SymSt.nil _) fun St c cs hK=> ?_
   refine .sr ?_
   refine .g ?_
   refine .done (.seq (.sr ?_))
   refine .m ?_
   refine .x .ln ?_
   refine .i ?_ (z:=eql_t (by omega))
   refine .done (.tt rfl (.sr ?_))
   refine .e (.bs (zz:=fun b=> ?_))
   refine .g ?_
   refine .done ?_
   refine .rt hK Tryz.func133 Tryz.results133 [_] ?_
   exact fun H' hs=> ⟨hs.base,b,0,1,true,_,_,_,rfl,hs.get (i:=0) rfl,fun j hj=> by
     obtain rfl:j=0:=by simp[choicesI] at hj;exact hj
     exact⟨.slice none 0 0,rfl,none,0,rfl,.inl rfl,fun _=> ⟨rfl,rfl⟩⟩⟩
 | succ d ihd=>
   intro H l A n ca hd h3 hn hca hA
   by_cases hl0:l= []
   · exact ihd H l A n ca (by rw[hl0];exact Nat.zero_le _) h3 hn hca hA
   · rcases hA with hA|⟨ab,ao,fA,gA,tA,zA,rfl,hA1,hA2⟩
     · exact absurd hA hl0
     have hl1:0<l.length:=List.length_pos_iff.2 hl0
     have h8:(choicesI l).length≤8:=by rw[choicesI_len];exact Nat.pow_le_pow_right (by decide) h3
     refine CallT.enter (vs:= [.slice (some ⟨ab,ao,none⟩) n ca]) Tryz.func133 rfl Tryz.ntmps133 (Nat.le_of_ble_eq_true rfl) (SymSt.nil _) fun St c cs hK=> ?_
     refine .sr ?_
     refine .g ?_
     refine .done (.seq (.sr ?_))
     refine .m ?_
     refine .x .ln ?_
     refine .i ?_ (z:=eql_f (by omega))
     refine .done (.ff rfl (.skip (.sr ?_)))
     refine .e (.bs (zz:=fun b3=> ?_))
     refine .g ?_
     refine .done (.seq (.sr ?_))
     refine .g ?_
     refine .done (.block ?_)
     refine Tc.db (Tc.loopB (σ:= { s:View×Nat×Gl 28 1×List (List Int)//H.le s.1∧s.2.1≤n∧s.2.2.1.n=s.2.2.2.length∧s.2.2.2≠ []∧AllIs s.1 s.2.2.1.l s.2.2.2∧choicesI l=s.2.2.2++(choicesI (l.drop s.2.1)).tail })
       (fun s=> (s.1.1,[(0,.slice (some ⟨ab,ao,none⟩) n ca),(3,s.1.2.2.1.val),(4,.int .i64 (s.1.2.1:Nat))],s.1.2.2.1.bl)) (fun s=> n-s.1.2.1) ?_ ⟨(H,0,Gl.full 28 b3 [.slice none 0 0],[[]]),View.le_refl _,Nat.zero_le _,rfl,by simp,⟨rfl,fun j hj=> by
         obtain rfl:j=0:=by simpa using hj
         exact⟨.slice none 0 0,rfl,none,0,rfl,.inl rfl,fun _=> ⟨rfl,rfl⟩⟩⟩,by
         cases l with
         | nil=> exact absurd rfl hl0
         | cons a l=> rfl⟩)
     rintro⟨⟨Hc,i,g,done⟩,q1,q2,q3,q4,q5,q6⟩ ih₁
     simp only at q1 q2 q3 q4 q5 q6
     show Tc M St _ _ Hc _ [(0,.slice (some ⟨ab,ao,none⟩) n ca),(3,g.val),(4,.int .i64 (i:Nat))] g.bl _ _
     have hdl:done.length≤8:=by have:=congrArg List.length q6;rw[List.length_append] at this;omega
     have hAc:=q1 _ _ hA1
     by_cases c1:i=n
     · subst c1
       have e1:choicesI l=done:=by
         rw[q6,List.drop_eq_nil_of_le (by omega)]
         simp[choicesI]
       rw[e1] at hK
       clear ih₁
       refine .seq (.sr ?_)
       refine .m ?_
       refine .m ?_
       refine .x .ln ?_
       refine .i ?_ (z:=lss_f (by omega))
       refine .done (.ff rfl (.exit rfl (.sr ?_)))
       refine .m ?_
       refine .g ?_
       refine .done ?_
       refine .rt hK Tryz.func133 Tryz.results133 [_] ?_
       exact fun H' hs=> ⟨View.le_trans q1 hs.base,Lists.of q4 q3 (q5.le hs.base) (fun y hy=> hs.at_ y hy)⟩
     · have c2:i<l.length:=by omega
       have f1:=hA2 i c2
       obtain⟨x,hx⟩:∃x,l[i]?.getD 0=x:=⟨_,rfl⟩
       rw[hx] at f1
       have q7:choicesI l=done++((choicesI (l.drop (i+1))).map (x::·)++(choicesI (l.drop (i+1))).tail):=by rw[q6,choices_tail c2,hx]
       obtain⟨off',hoff,hN⟩:∃off',(if(ca:Int)=(i:Int)+1 then off'=ao else off'=ao+((i:Int)+1).toNat*1)∧Nums Hc (some ⟨ab,off',none⟩) (l.drop (i+1)):=by
         by_cases e:(ca:Int)=(i:Int)+1
         · exact⟨ao,by rw[if_pos e],.inl (List.drop_eq_nil_of_le (by omega))⟩
         · refine⟨ao+((i:Int)+1).toNat*1,by rw[if_neg e],.inr ⟨ab,_,fA,gA,tA,zA,rfl,hAc,fun j hj=> ?_⟩⟩
           rw[List.length_drop] at hj
           have:=hA2 (i+1+j) (by omega)
           rw[List.getElem?_drop]
           rw[Int.toNat_natCast] at this ⊢
           rw[show ao+((i:Int)+1).toNat*1+j*1=ao+(i+1+j)*1 by omega]
           exact this
       refine .seq (.sr ?_)
       refine .m ?_
       refine .m ?_
       refine .x .ln ?_
       refine .i ?_ (z:=lss_t (by omega))
       refine .done (.tt rfl (.skip (.seq (.block (.sr ?_)))))
       refine .m ?_
       refine .m ?_
       refine .i ?_ (z:=add_in (by omega) (by omega))
       refine .x (OpV.slice (E:=en) (l:=(i:Int)+1) (h:=(n:Nat)) (off':=off') rfl rfl rfl rfl rfl rfl rfl rfl (by omega) (by omega) (by omega) hoff) ?_
       refine To.callF rfl rfl rfl rfl rfl rfl (by decide) (FnT.f ca133 rfl (ihd Hc (l.drop (i+1)) _ _ _ (by rw[List.length_drop];omega) (by rw[List.length_drop];omega) (by rw[List.length_drop];omega) (by omega) hN)) (fun v H₂ hv=> ?_)
       refine .g ?_
       refine .done ?_
       obtain⟨hle2,ab5,ao5,c5,f5,gs5,gt5,gz5,rfl,h51,h52⟩:=hv
       obtain⟨ls,hls⟩:∃ls,choicesI (l.drop (i+1))=ls:=⟨_,rfl⟩
       rw[hls] at h52 q7 ⊢
       have hls8:done.length+ls.length≤8:=by
         have:=congrArg List.length q7
         rw[List.length_append,List.length_append,List.length_map] at this
         omega
       refine .sr ?_
       refine .g ?_
       refine .done (.block ?_)
       refine Tc.db (Tc.loopB (σ:= { s:View×Nat×Gl 28 1//H₂.le s.1∧s.2.1≤ls.length∧s.2.2.n=done.length+s.2.1∧AllIs s.1 s.2.2.l (done++(ls.take s.2.1).map (x::·)) })
         (fun s=> (s.1.1,[(0,.slice (some ⟨ab,ao,none⟩) n ca),(3,s.1.2.2.val),(4,.int .i64 (i:Nat)),(5,.slice (some ⟨ab5,ao5,none⟩) ls.length c5),(6,.int .i64 (s.1.2.1:Nat))],s.1.2.2.bl)) (fun s=> ls.length-s.1.2.1) ?_ ⟨(H₂,0,g),View.le_refl _,Nat.zero_le _,by rw[q3];rfl,by rw[List.take_zero,List.map_nil,List.append_nil];exact q5.le hle2⟩)
       rintro⟨⟨Hk,k,g⟩,p1,p2,p3,p4⟩ ih₂
       simp only at p1 p2 p3 p4
       show Tc M St _ _ Hk _ [(0,.slice (some ⟨ab,ao,none⟩) n ca),(3,g.val),(4,.int .i64 (i:Nat)),(5,.slice (some ⟨ab5,ao5,none⟩) ls.length c5),(6,.int .i64 (k:Nat))] g.bl _ _
       have hAk:=p1 _ _ (hle2 _ _ hAc)
       have h5k:=p1 _ _ h51
       by_cases c3:k=ls.length
       · subst c3
         rw[List.take_length] at p4
         clear ih₂
         refine .seq (.sr ?_)
         refine .m ?_
         refine .m ?_
         refine .x .ln ?_
         refine .i ?_ (z:=lss_f (by omega))
         refine .done (.ff rfl (.exit rfl (.inBlock (.r ?_))))
         refine .m ?_
         refine .i ?_ (z:=add_in (by omega) (by omega))
         refine .g ?_
         refine .done ?_
         exact Tc.db (ih₁ ⟨(Hk,i+1,g,done++ls.map (x::·)),View.le_trans q1 (View.le_trans hle2 p1),by simp only;omega,by simp only;rw[p3,List.length_append,List.length_map],by simp[q4],p4,by simp only;rw[q7,hls,List.append_assoc]⟩ (by simp only;omega))
       · have c4:k<ls.length:=by omega
         obtain⟨w,f2,hw⟩:=h52 k c4
         have hsrc:=hw.le p1
         obtain⟨lk,hlk⟩:∃lk,ls[k]?.getD []=lk:=⟨_,rfl⟩
         rw[hlk] at hsrc
         have hlk20:lk.length≤1000:=by
           have:=choices_short (l.drop (i+1)) lk (by rw[hls,←hlk,List.getElem?_eq_getElem c4];exact List.getElem_mem _)
           rw[List.length_drop] at this
           omega
         obtain⟨wA,wc,hwe⟩:∃A c,w=.slice A lk.length c:=by
           obtain⟨A,c,e,_⟩:=hsrc
           exact⟨A,c,e⟩
         refine .seq (.sr ?_)
         refine .m ?_
         refine .m ?_
         refine .x .ln ?_
         refine .i ?_ (z:=lss_t (by omega))
         refine .done (.tt rfl (.skip (.seq (.block ?_))))
         refine Tc.drT [10,12] [] [] 0 mixed rfl ?_
         refine Ta.tkwC 0 (by kernel_rfl) rfl rfl rfl (by decide) rfl rfl (OpV.take .mv) ?_
         refine Ta.tkC 1 (by kernel_rfl) rfl rfl (by decide) rfl rfl (OpV.take .mv) ?_
         refine Ta.tkC 2 (by kernel_rfl) rfl rfl (by decide) rfl rfl (OpV.take .mv) ?_
         refine Ta.tkC 3 (by kernel_rfl) rfl rfl (by decide) rfl rfl (OpV.take .ia) ?_
         refine Ta.tkC 4 (by kernel_rfl) rfl rfl (by decide) rfl rfl (OpV.take .l0) ?_
         refine Ta.tkC 6 (by kernel_rfl) rfl rfl (by decide) rfl rfl (OpV.take .mv) ?_
         refine Ta.tkC 7 (by kernel_rfl) rfl rfl (by decide) rfl rfl (OpV.take .mv) ?_
         refine Ta.tkC 8 (by kernel_rfl) rfl rfl (by decide) rfl rfl (OpV.take .ia) ?_
         refine Ta.tkC 9 (by kernel_rfl) rfl rfl (by decide) rfl rfl (OpV.take .l0) ?_
         refine Ta.each [5] (by kernel_rfl) rfl ⟨TaOp.mk rfl rfl rfl (.bs (zz:=fun be=> ⟨S3.mk (by exact List.nil_sublist _) (.inr (by apply List.Sublist.cons;exact List.Sublist.refl _)),?_⟩)),trivial⟩
         refine Ta.each [10] (by kernel_rfl) rfl ⟨TaOp.mk rfl rfl rfl (Or.permL (L₁:=g.bl++(Gl.full 3 be [.int .i64 x]).bl) List.perm_append_comm (Or.appendAt (E:=en) (g:=Gl.full 3 be [.int .i64 x]) g.bl rfl rfl rfl rfl rfl rfl rfl rfl rfl rfl rfl rfl rfl rfl (fun H hs=> (hsrc.le hs.base).src) (single_ints _) (by show 1+_≤_;omega) rfl (by decide) (fun g1 hn1 hl1=> ⟨S3.mk (by exact List.nil_sublist _) (.inl (by kernel_rfl)),?_⟩))),trivial⟩
         refine Ta.each [11] (by kernel_rfl) rfl ⟨TaOp.mk rfl rfl rfl (.bs (zz:=fun bo=> ⟨S3.mk (by exact List.nil_sublist _) (.inl (by kernel_rfl)),?_⟩)),trivial⟩
         refine Ta.each [12] (by kernel_rfl) rfl ⟨TaOp.mk rfl rfl rfl (Or.permL (L₁:=((bo,true,.cells ⟨[g1.val]⟩ 28 (0,0))::g1.bl)++g.bl) (List.Perm.cons _ List.perm_append_comm) (Or.appendAt (E:=en) (g:=g) ((bo,true,.cells ⟨[g1.val]⟩ 28 (0,0))::g1.bl) rfl rfl rfl rfl rfl rfl rfl rfl rfl rfl rfl rfl rfl rfl (fun H hs=> SrcAt.of (hs.get (i:=0) rfl) (Nat.le_of_ble_eq_true rfl)) rfl (by omega) rfl (by decide) (fun g2 hn2 hl2=> ⟨S3.mk (by exact List.nil_sublist _) (.inl (by kernel_rfl)),?_⟩))),trivial⟩
         refine Ta.tkwC 13 (by kernel_rfl) rfl rfl rfl (by decide) rfl rfl (OpV.take .sg) ?_
         refine Ta.done (by kernel_rfl) ?_
         refine Tc.perm (L₁:=g2.bl++((bo,true,.cells ⟨[g1.val]⟩ 28 (0,0))::g1.bl)) List.perm_append_comm ?_
         refine Tc.lift rfl (fun Hx hxx=> ?_)
         have hg1:g1.l=intsL (x::lk):=by rw[hl1];rfl
         obtain⟨n1,N1⟩:=Nums.of (H:=Hx) hg1 (fun y hy=> hxx.at_ y (by simp[hy]))
         have hIs:IsL Hx g1.val (x::lk):=⟨_,g1.cap,by unfold Gl.val;rw[n1],N1,fun h=> by cases h⟩
         have hleX:=hxx.base
         have hp4:AllIs Hx g2.l (done++(ls.take (k+1)).map (x::·)):=by
           have e1:ls.take (k+1)=ls.take k++[lk]:=by
             rw[List.take_add_one,←hlk,List.getElem?_eq_getElem c4]
             rfl
           rw[hl2,e1,List.map_append,←List.append_assoc]
           exact(p4.le hleX).snoc hIs
         clear hxx
         refine .inBlock (.r ?_)
         refine .m ?_
         refine .i ?_ (z:=add_in (by omega) (by omega))
         refine .g ?_
         refine .done ?_
         exact Tc.db (ih₂ ⟨(Hx,k+1,g2),View.le_trans p1 hleX,by simp only;omega,by simp only;omega,hp4⟩ (by simp only;omega))
end
end Go.Proofs.YtpdaenfglbgfkaaGreatDoor
end
section
namespace Go.RL
open Go.Conc
section
variable {P:Program}{M:Md P}{St:View→Goroutine→Prop}{n:Nat}{b:FB}{H₀:View}{cs:List Frame}{R:Rg}{L:Bl}{ds:List Deferred}{k:List Item}{S:Array Bool→View→Prop}{md:Region.Mode}{ops:Array Oper}
theorem Ta.psU(i:Nat){B:List Nat}{Ls L₁:Bl}{o:Oper}{d:Nat}{fuel:Nat}{listed:Array Bool}(hc:takeOk md ops [] listed i=true)(hSi:B.contains i=false)(hi:ops[i]? =some o)(hd:o.dst=some d)(hn:d<n)(hnd:isDefer o.op=false)(hw:offB (ops.toList.map (fun o:Oper=> o.dst)) R o=true)
   (h:Ta M St n b H₀ cs (S2 H₀ B Ls L) md ops fuel (listed.setIfInBounds i true) ((d,undef)::R) L₁ ds k):Ta M St n b H₀ cs (S2 H₀ B Ls L) md ops (fuel+1) listed R L₁ ds k:=by
 simp only[takeOk,Bool.and_eq_true,Bool.not_eq_true'] at hc
 obtain⟨⟨⟨⟨⟨hsel,hr⟩,hf⟩,hcl⟩,_⟩,_⟩:=hc
 intro H tmps hs hr' hS
 refine AnyT.first hi (Region.noSelect_spec hsel) hnd (S2.same hSi) fuel listed tmps H (fun j oj hj hne hun hno=> Region.free_spec hi hf j oj hj hne hun hno) hcl (by simpa using hr) (.inr ⟨offB_ok (fun j=> ?_) hr' hw,rfl⟩) ?_
 · simp only[List.getElem?_map,Array.getElem?_toList]
   cases ops[j]? <;> rfl
 · rw[hd]
   exact h H _ hs (hr'.put hn undef) ((S2.same hSi _ H).2 hS)
end
end Go.RL
namespace Go.Proofs.YtpdaenfglbgfkaaGreatDoor
open Go.RL
set_option maxRecDepth 10000
set_option maxHeartbeats 16000000
def ordL:Nat→List Nat
 | 0=> [0]
 | 1=> [0,1]
 | 2=> [0,1,3,2]
 | _=> [0,1,3,7,5,2,6,4]
def ordN(k i:Nat):Nat:=(ordL k)[i]?.getD 0
theorem choices_ord:∀k:Nat,k<4→choicesI (numsL (List.range k))=(ordL k).map fun m=> numsL (bitsL m k):=by decide +kernel
theorem ord_len:∀k:Nat,k<4→(ordL k).length=2 ^ k:=by decide +kernel
theorem ord_lt(k i:Nat):ordN k i<8:=by
 have h:∀m∈ordL k,m<8:=by
   unfold ordL
   split <;> decide
 unfold ordN
 cases hx:(ordL k)[i]? with
 | none=> decide
 | some m=> exact h m (List.mem_of_getElem? hx)
theorem ord_get {k i:Nat}(hk:k<4)(hi:i<2 ^ k):(choicesI (numsL (List.range k)))[i]?.getD []=numsL (bitsL (ordN k i) k):=by
 rw[choices_ord k hk,List.getElem?_map]
 have:i<(ordL k).length:=by rw[ord_len k hk];exact hi
 unfold ordN
 rw[List.getElem?_eq_getElem this]
 rfl
def stepP(k:Nat)(f:Nat→Bool)(best:Option (List Nat))(m:Nat):Option (List Nat):=if skips (bitsL m k) best then best else if f m then best else some (bitsL m k)
def progTo(k:Nat)(f:Nat→Bool):Nat→Option (List Nat)
 | 0=> none
 | j+1=> stepP k f (progTo k f j) j
def refStep(k:Nat)(f:Nat→Bool)(best:Option Nat)(i:Nat):Option Nat:=
 if f (ordN k i) then best else match best with
   | none=> some i
   | some b=> if(bitsL (ordN k i) k).length<(bitsL (ordN k b) k).length then some i else some b
def refTo(k:Nat)(f:Nat→Bool):Nat→Option Nat
 | 0=> none
 | j+1=> refStep k f (refTo k f j) j
def pick8(a b c d e f g h:Bool):Nat→Bool
 | 0=> a
 | 1=> b
 | 2=> c
 | 3=> d
 | 4=> e
 | 5=> f
 | 6=> g
 | _=> h
theorem best8:∀k:Nat,k<4→∀a b c d e f g h:Bool,progTo k (pick8 a b c d e f g h) (2 ^ k)=(refTo k (pick8 a b c d e f g h) (2 ^ k)).map fun i=> bitsL (ordN k i) k:=by decide +kernel
theorem progTo_congr {k:Nat}{f g:Nat→Bool}(h:∀m,m<8→f m=g m):∀j,j≤8→progTo k f j=progTo k g j
 | 0,_=> rfl
 | j+1,hj=> by
   show stepP k f (progTo k f j) j=stepP k g (progTo k g j) j
   rw[progTo_congr h j (by omega)]
   unfold stepP
   rw[h j (by omega)]
theorem refTo_congr {k:Nat}{f g:Nat→Bool}(h:∀m,m<8→f m=g m):∀j,refTo k f j=refTo k g j
 | 0=> rfl
 | j+1=> by
   show refStep k f (refTo k f j) j=refStep k g (refTo k g j) j
   rw[refTo_congr h j]
   unfold refStep
   rw[h _ (ord_lt k j)]
theorem pick8_at(f:Nat→Bool):∀m,m<8→f m=pick8 (f 0) (f 1) (f 2) (f 3) (f 4) (f 5) (f 6) (f 7) m:=fun m hm=> by
 rcases(by omega:m=0∨m=1∨m=2∨m=3∨m=4∨m=5∨m=6∨m=7) with rfl|rfl|rfl|rfl|rfl|rfl|rfl|rfl <;> rfl
theorem pow8 {k:Nat}(hk:k<4):2 ^ k≤8:=Nat.pow_le_pow_right (by decide:0<2) (by omega:k≤3)
theorem numsLen(l:List Nat):(numsL l).length=l.length:=by simp[numsL]
theorem best_same(k:Nat)(hk:k<4)(f:Nat→Bool):progTo k f (2 ^ k)=(refTo k f (2 ^ k)).map fun i=> bitsL (ordN k i) k:=by
 rw[progTo_congr (pick8_at f) _ (pow8 hk),refTo_congr (pick8_at f)]
 exact best8 k hk _ _ _ _ _ _ _ _
theorem refTo_lt {k:Nat}{f:Nat→Bool}:∀ {j b:Nat},refTo k f j=some b→b<j
 | 0,b,h=> by cases h
 | j + 1,b,h=> by
   unfold refTo refStep at h
   split at h
   · have:=refTo_lt h
     omega
   · split at h
     · cases h
       omega
     · rename_i x hx
       have:=refTo_lt hx
       split at h
       · cases h
         omega
       · cases h
         omega
def Ch.weakAt(c:Ch)(m:Nat):Bool:=(c.on (bitsL m (c.n-1))).first.isSome
theorem Ch.spotsTo_prog(c:Ch):∀j,c.spotsTo j=progTo (c.n-1) c.weakAt j
 | 0=> rfl
 | j+1=> by
   show c.spotStep (c.spotsTo j) j=stepP (c.n-1) c.weakAt (progTo (c.n-1) c.weakAt j) j
   rw[c.spotsTo_prog j]
   rfl
theorem Ch.spots_ref(c:Ch)(h4:c.n≤4):c.spots=(refTo (c.n-1) c.weakAt (2 ^ (c.n-1))).map fun i=> bitsL (ordN (c.n-1) i) (c.n-1):=by
 unfold Ch.spots
 rw[c.spotsTo_prog]
 exact best_same _ (by omega) _
def bestI:Option Nat→Int
 | none=> -1
 | some b=> (b:Nat)
def Ch.spotsA(c:Ch):Option (List Nat):=if c.alarm=0 then c.spots else none
def SpQ(ch:Ch)(H:View)(v:Value)(H':View):Prop:=H.le H'∧∃B m cc,v=.tuple ⟨[.slice B m cc,.bool ch.spotsA.isSome,.int .i64 ch.alarm]⟩∧m=(numsL (ch.spotsA.getD [])).length∧Nums H' B (numsL (ch.spotsA.getD []))
theorem Ch.spotsA_err {c:Ch}(h:¬c.alarm=0):c.spotsA=none:=if_neg h
theorem SpQ.err {ch:Ch}(h:¬ch.alarm=0){H H':View}(hle:H.le H'):SpQ ch H (.tuple ⟨[.slice none 0 0,.bool false,.int .i64 ch.alarm]⟩) H':=
 ⟨hle,none,0,0,by rw[Ch.spotsA_err h];rfl,by rw[Ch.spotsA_err h];rfl,.inl (by rw[Ch.spotsA_err h];rfl)⟩
theorem spotsA_len(c:Ch):(c.spotsA.getD []).length≤8:=by
 unfold Ch.spotsA
 split
 · rename_i h
   have h4:=(Ch.alarm_zero.1 h)
   unfold Ch.fair at h4
   simp only[Bool.and_eq_true,decide_eq_true_eq] at h4
   cases hs:c.spots with
   | none=> simp
   | some b=>
     have:=spots_le c _ b hs
     have:=h4.2.1.2
     simp only[Option.getD_some]
     omega
 · simp
section
variable(M:Md Tryz.prog)(H:View)
theorem spotsRef_any(ch:Ch)(hm:ch.m=0)(A:Option Addr)(lc:Nat)(hA:LinesAt H ch A lc):CallT M 71 #[ch.valA A lc] H (SpQ ch H):=by
 have hcc:=fun(H':View) (h':H.le H')=> refChain_c M H' ch A lc (hA.le h')
 by_cases ha:ch.alarm=0
 · have hgood:=Ch.fair_good (Ch.alarm_zero.1 ha) hm
   have hn0:=hgood.ok.n0
   have hn4:=hgood.ok.n4
   obtain⟨lb,lo,rfl⟩:=hA.some hn0
   have hsp:=ch.spots_ref hn4
   have hspa:ch.spotsA=ch.spots:=if_pos ha
   rw[hsp] at hspa
   rw[ha] at hcc
   obtain⟨k,hk⟩:∃k,ch.n-1=k:=⟨_,rfl⟩
   have hk4:k<4:=by omega
   have hk1:(ch.n:Int)-1=(k:Nat):=by omega
   rw[hk] at hspa
   refine CallT.enter (vs:= [ch.valA (some ⟨lb,lo,none⟩) lc]) Tryz.func71 rfl Tryz.ntmps71 (Nat.le_of_ble_eq_true rfl) (SymSt.nil _) fun St c cs hK=> ?_
   refine .sr ?_
   refine .e (.bx (zz:=fun b1=> ?_))
   refine .g ?_
   refine .g ?_
   refine .g ?_
   refine .done (.seq (.sr ?_))
   refine .x (.ld 0) ?_
   refine .c rfl rfl rfl rfl (fun H hs=> .f ca67 rfl (hcc H hs.base)) ?_
   refine .g ?_
   refine .done (.sr ?_)
   refine .m ?_
   refine .i ?_ (z:=neq_f (by omega))
   refine .done (.ff rfl (.skip (.sr ?_)))
   refine .x .fa ?_
   refine .x (.ld 0) ?_
   refine .x .ln ?_
   refine .i ?_ (z:=sub_in (by omega) (by omega))
   rw[hk1]
   refine .e (Or.callNew Gl.val Gl.bl (fun g:Gl 3 1=> g.l=placesV (List.range k)∧g.n=k) rfl rfl rfl rfl rfl (by decide) gl_nodup (fun H hs=> .f ca62 rfl (UpTo_c _ H k (by omega))) (fun g hg=> ?_))
   obtain⟨hg1,hg2⟩:=hg
   refine To.lift (L₂:= [(b1,true,.cells ⟨(ch.valA (some ⟨lb,lo,none⟩) lc).cells.toList⟩ 73 (0,0))]) (L₁:=g.bl) rfl (fun Hx hx=> ?_)
   obtain⟨hgn,hNg⟩:=Nums.of (H:=Hx) (hg1.trans (places_nums _)) (fun y hy=> hx.at_ y hy)
   have hkl:(numsL (List.range k)).length=k:=by simp[numsL]
   have hlex:=hx.base
   clear hx
   refine To.callF rfl rfl rfl rfl rfl rfl (by decide) (FnT.f ca133 rfl (Choices_c M 3 Hx (numsL (List.range k)) _ g.n g.cap (by omega) (by omega) (by omega) g.hc hNg)) (fun v H₂ hv=> ?_)
   refine .g ?_
   refine .done ?_
   have hle2:=View.le_trans hlex hv.1
   obtain⟨_,ab,ao,ac,fA,gs,gt,gz,rfl,hb,hl⟩:=hv
   have hN:(choicesI (numsL (List.range k))).length=2 ^ k:=by rw[choicesI_len,hkl]
   have h8:=pow8 hk4
   have hAx:=hA.le hle2
   rw[hN] at hl ⊢
   obtain⟨N,hNN⟩:∃N,2 ^ k=N:=⟨_,rfl⟩
   rw[hNN] at hl h8 hspa ⊢
   have hat:∀i,i<N→∃B cb,ldL false 1 gs (ao+(i:Int).toNat*1)=some (.slice B (bitsL (ordN k i) k).length cb)∧Nums H₂ B (numsL (bitsL (ordN k i) k)):=fun i hi=> by
     obtain⟨w,h1,B,cb,rfl,h2,_⟩:=hl i hi
     rw[ord_get hk4 (by omega)] at h1 h2
     rw[numsLen] at h1
     exact⟨B,cb,h1,h2⟩
   clear hl
   refine .sr ?_
   refine .g ?_
   refine .done (.seq (.sr ?_))
   refine .g ?_
   refine .done (.block ?_)
   refine Tc.db (Tc.loopInv (σ:= { i:Nat//i≤N }) (fun i=> ([(1,.pointer (some ⟨b1,0,none⟩)),(6,.slice (some ⟨ab,ao,none⟩) N ac),(7,.int .i64 (bestI (refTo k ch.weakAt i.1))),(8,.int .i64 (i.1:Nat))],[(b1,true,.cells ⟨(ch.valA (some ⟨lb,lo,none⟩) lc).cells.toList⟩ 73 (0,0))])) (fun i=> N-i.1) ?_ ⟨0,Nat.zero_le _⟩)
   rintro⟨i,hi⟩ ih
   obtain⟨z,hz⟩:∃z,bestI (refTo k ch.weakAt i)=z:=⟨_,rfl⟩
   show Tc M St _ _ _ _ [(1,.pointer (some ⟨b1,0,none⟩)),(6,.slice (some ⟨ab,ao,none⟩) N ac),(7,.int .i64 (bestI (refTo k ch.weakAt i))),(8,.int .i64 (i:Nat))] [(b1,true,.cells ⟨(ch.valA (some ⟨lb,lo,none⟩) lc).cells.toList⟩ 73 (0,0))] _ _
   rw[hz]
   by_cases c1:i=N
   · subst c1
     cases hr:refTo k ch.weakAt i with
     | none=>
       rw[hr] at hz hspa
       have hz':z= -1:=hz.symm
       subst hz'
       refine .seq (.sr ?_)
       refine .m ?_
       refine .m ?_
       refine .x .ln ?_
       refine .i ?_ (z:=lss_f (by omega))
       refine .done (.ff rfl (.exit rfl (.seq (.sr ?_))))
       refine .m ?_
       refine .i ?_ (z:=lss_t (by omega))
       refine .done (.tt rfl (.sr ?_))
       refine .g ?_
       refine .g ?_
       refine .g ?_
       refine .done ?_
       refine .rt hK Tryz.func71 Tryz.results71 [_,_,_] ?_
       exact fun H' hs=> ⟨View.le_trans hle2 hs.base,none,0,0,by rw[hspa,ha];rfl,by rw[hspa];rfl,.inl (by rw[hspa];rfl)⟩
     | some q=>
       rw[hr] at hz hspa
       have hz':z=(q:Nat):=hz.symm
       subst hz'
       have hq:=refTo_lt hr
       obtain⟨B,cb,f1,f2⟩:=hat q hq
       refine .seq (.sr ?_)
       refine .m ?_
       refine .m ?_
       refine .x .ln ?_
       refine .i ?_ (z:=lss_f (by omega))
       refine .done (.ff rfl (.exit rfl (.seq (.sr ?_))))
       refine .m ?_
       refine .i ?_ (z:=lss_f (by omega))
       refine .done (.ff rfl (.skip (.sr ?_)))
       refine .m ?_
       refine .m ?_
       refine .x .ia ?_
       refine .x .l0 ?_
       refine .g ?_
       refine .g ?_
       refine .g ?_
       refine .done ?_
       refine .rt hK Tryz.func71 Tryz.results71 [_,_,_] ?_
       exact fun H' hs=> ⟨View.le_trans hle2 hs.base,B,_,cb,by rw[hspa,ha];rfl,by rw[hspa];exact(numsLen _).symm,by rw[hspa];exact f2.le hs.base⟩
   · have c2 :i<N:=by omega
     obtain⟨B,cb,f1,f2⟩:=hat i c2
     have hJ:JGood ch (numsL (bitsL (ordN k i) k)) (bitsL (ordN k i) k):=⟨rfl,by rw[←hk];exact hgood.on _⟩
     have hW:=fun(H':View) (h':H₂.le H')=> WeakOf_c M H' (ch.on (bitsL (ordN k i) k)) lb lo lc cb B (hJ.at_ (hAx.le h') (f2.le h')) hJ.good
     have hwa:ch.weakAt (ordN k i)=(ch.on (bitsL (ordN k i) k)).first.isSome:=by unfold Ch.weakAt;rw[hk]
     obtain⟨s1,hs1⟩:∃x:Nat,(ch.on (bitsL (ordN k i) k)).sec=x:=⟨_,rfl⟩
     obtain⟨s2,hs2⟩:∃x:Int,((ch.on (bitsL (ordN k i) k)).bad s1).getD 0=x:=⟨_,rfl⟩
     rw[hs1,hs2] at hW
     obtain⟨li,hli⟩:∃x:Nat,(bitsL (ordN k i) k).length=x:=⟨_,rfl⟩
     have hW':∀(H':View),H₂.le H'→CallT M 132 #[ch.valA (some ⟨lb,lo,none⟩) lc,.slice B li cb] H' (fun v H''=> H'.le H''∧v=.tuple ⟨[.int .i64 (s1:Nat),.int .i64 s2,.bool (ch.on (bitsL (ordN k i) k)).first.isSome]⟩):=fun H' h'=> by
       rw[←hli]
       exact hW H' h'
     rw[hli] at f1
     cases hw:(ch.on (bitsL (ordN k i) k)).first.isSome with
     | true=>
       rw[hw] at hW' hwa
       have hnext:bestI (refTo k ch.weakAt (i+1))=z:=by
         unfold refTo refStep
         rw[hwa]
         exact hz
       refine .seq (.sr ?_)
       refine .m ?_
       refine .m ?_
       refine .x .ln ?_
       refine .i ?_ (z:=lss_t (by omega))
       refine .done (.tt rfl (.skip (.seq (.block (.seq ?_)))))
       refine Tc.dr [] [] mixed rfl ?_
       refine .q 0 rfl (.ld 0) ?_
       refine .q 1 rfl .mv ?_
       refine .q 2 rfl .mv ?_
       refine .q 3 rfl .ia ?_
       refine .q 4 rfl .l0 ?_
       refine .z 5 rfl (OpV.takeCall rfl rfl rfl rfl (fun H hs=> .f ca132 rfl (hW' H hs.base))) ?_
       refine .q 6 rfl .mv ?_
       refine .q 7 rfl .et ?_
       refine .q 8 rfl .et ?_
       refine .q 9 rfl .et ?_
       refine .q 10 rfl .sg ?_
       refine .q 11 rfl .sg ?_
       refine .q 12 rfl .sg ?_
       refine Ta.done (by kernel_rfl) ?_
       refine .seq ?_
       refine Tc.dr [] [] mixed rfl ?_
       refine .q 0 rfl .mv ?_
       refine .q 1 rfl .nt ?_
       refine .q 2 rfl .mv ?_
       refine Ta.ps 3 (by kernel_rfl) rfl rfl rfl (by decide) rfl rfl ?_
       refine Ta.ps 4 (by kernel_rfl) rfl rfl rfl (by decide) rfl rfl ?_
       refine Ta.ps 5 (by kernel_rfl) rfl rfl rfl (by decide) rfl rfl ?_
       refine Ta.psU 6 (by kernel_rfl) rfl rfl rfl (by decide) rfl rfl ?_
       refine Ta.psU 7 (by kernel_rfl) rfl rfl rfl (by decide) rfl rfl ?_
       refine Ta.psU 8 (by kernel_rfl) rfl rfl rfl (by decide) rfl rfl ?_
       refine Ta.psU 9 (by kernel_rfl) rfl rfl rfl (by decide) rfl rfl ?_
       refine Ta.psU 10 (by kernel_rfl) rfl rfl rfl (by decide) rfl rfl ?_
       refine Ta.psU 11 (by kernel_rfl) rfl rfl rfl (by decide) rfl rfl ?_
       refine Ta.psU 12 (by kernel_rfl) rfl rfl rfl (by decide) rfl rfl ?_
       refine Ta.psU 13 (by kernel_rfl) rfl rfl rfl (by decide) rfl rfl ?_
       refine Ta.psU 14 (by kernel_rfl) rfl rfl rfl (by decide) rfl rfl ?_
       refine Ta.psU 15 (by kernel_rfl) rfl rfl rfl (by decide) rfl rfl ?_
       refine Ta.psU 16 (by kernel_rfl) rfl rfl rfl (by decide) rfl rfl ?_
       refine Ta.ps 17 (by kernel_rfl) rfl rfl rfl (by decide) rfl rfl ?_
       refine .q 18 rfl .pk ?_
       refine Ta.done (by kernel_rfl) ?_
       refine .ff rfl (.skip (.inBlock (.r ?_)))
       refine .m ?_
       refine .i ?_ (z:=add_in (by omega) (by omega))
       refine .g ?_
       refine .done ?_
       have hfin:=ih ⟨i+1,by omega⟩ (by simp only;omega)
       simp only[hnext] at hfin
       exact Tc.db hfin
     | false =>
       rw[hw] at hW' hwa
       cases hr:refTo k ch.weakAt i with
       | none=>
         rw[hr] at hz
         have hz':z= -1:=hz.symm
         subst hz'
         have hnext:bestI (refTo k ch.weakAt (i+1))=(i:Nat):=by
           unfold refTo refStep
           rw[hwa,hr]
           rfl
         refine .seq (.sr ?_)
         refine .m ?_
         refine .m ?_
         refine .x .ln ?_
         refine .i ?_ (z:=lss_t (by omega))
         refine .done (.tt rfl (.skip (.seq (.block (.seq ?_)))))
         refine Tc.dr [] [] mixed rfl ?_
         refine .q 0 rfl (.ld 0) ?_
         refine .q 1 rfl .mv ?_
         refine .q 2 rfl .mv ?_
         refine .q 3 rfl .ia ?_
         refine .q 4 rfl .l0 ?_
         refine .z 5 rfl (OpV.takeCall rfl rfl rfl rfl (fun H hs=> .f ca132 rfl (hW' H hs.base))) ?_
         refine .q 6 rfl .mv ?_
         refine .q 7 rfl .et ?_
         refine .q 8 rfl .et ?_
         refine .q 9 rfl .et ?_
         refine .q 10 rfl .sg ?_
         refine .q 11 rfl .sg ?_
         refine .q 12 rfl .sg ?_
         refine Ta.done (by kernel_rfl) ?_
         refine .seq ?_
         refine Tc.dr [] [] mixed rfl ?_
         refine .q 0 rfl .mv ?_
         refine .q 1 rfl .nt ?_
         refine .q 2 rfl .mv ?_
         refine .q 3 rfl .mv ?_
         refine .q 4 rfl (.it (zz:=lss_t (by omega))) ?_
         refine .q 5 rfl .mv ?_
         refine Ta.ps 6 (by kernel_rfl) rfl rfl rfl (by decide) rfl rfl ?_
         refine Ta.ps 7 (by kernel_rfl) rfl rfl rfl (by decide) rfl rfl ?_
         refine Ta.ps 8 (by kernel_rfl) rfl rfl rfl (by decide) rfl rfl ?_
         refine Ta.ps 9 (by kernel_rfl) rfl rfl rfl (by decide) rfl rfl ?_
         refine Ta.ps 10 (by kernel_rfl) rfl rfl rfl (by decide) rfl rfl ?_
         refine Ta.ps 11 (by kernel_rfl) rfl rfl rfl (by decide) rfl rfl ?_
         refine Ta.ps 12 (by kernel_rfl) rfl rfl rfl (by decide) rfl rfl ?_
         refine Ta.ps 13 (by kernel_rfl) rfl rfl rfl (by decide) rfl rfl ?_
         refine Ta.ps 14 (by kernel_rfl) rfl rfl rfl (by decide) rfl rfl ?_
         refine Ta.ps 15 (by kernel_rfl) rfl rfl rfl (by decide) rfl rfl ?_
         refine Ta.ps 16 (by kernel_rfl) rfl rfl rfl (by decide) rfl rfl ?_
         refine .q 17 rfl .pk ?_
         refine .q 18 rfl .pk ?_
         refine Ta.done (by kernel_rfl) ?_
         refine .tt rfl (.r ?_)
         refine .m ?_
         refine .g ?_
         refine .done (.inBlock (.r ?_))
         refine .m ?_
         refine .i ?_ (z:=add_in (by omega) (by omega))
         refine .g ?_
         refine .done ?_
         have hfin:=ih ⟨i+1,by omega⟩ (by simp only;omega)
         simp only[hnext] at hfin
         exact Tc.db hfin
       | some q=>
         rw[hr] at hz
         have hz':z=(q:Nat):=hz.symm
         subst hz'
         have hq:=refTo_lt hr
         obtain⟨Bq,cq,q1,_⟩:=hat q (by omega)
         obtain⟨lq,hlq⟩:∃x:Nat,(bitsL (ordN k q) k).length=x:=⟨_,rfl⟩
         rw[hlq] at q1
         by_cases c3:li<lq
         · have hnext:bestI (refTo k ch.weakAt (i+1))=(i:Nat):=by
             unfold refTo refStep
             rw[hwa,hr]
             show bestI (if(bitsL (ordN k i) k).length<(bitsL (ordN k q) k).length then some i else some q)=_
             rw[hli,hlq,if_pos c3]
             rfl
           refine .seq (.sr ?_)
           refine .m ?_
           refine .m ?_
           refine .x .ln ?_
           refine .i ?_ (z:=lss_t (by omega))
           refine .done (.tt rfl (.skip (.seq (.block (.seq ?_)))))
           refine Tc.dr [] [] mixed rfl ?_
           refine .q 0 rfl (.ld 0) ?_
           refine .q 1 rfl .mv ?_
           refine .q 2 rfl .mv ?_
           refine .q 3 rfl .ia ?_
           refine .q 4 rfl .l0 ?_
           refine .z 5 rfl (OpV.takeCall rfl rfl rfl rfl (fun H hs=> .f ca132 rfl (hW' H hs.base))) ?_
           refine .q 6 rfl .mv ?_
           refine .q 7 rfl .et ?_
           refine .q 8 rfl .et ?_
           refine .q 9 rfl .et ?_
           refine .q 10 rfl .sg ?_
           refine .q 11 rfl .sg ?_
           refine .q 12 rfl .sg ?_
           refine Ta.done (by kernel_rfl) ?_
           refine .seq ?_
           refine Tc.dr [] [] mixed rfl ?_
           refine .q 0 rfl .mv ?_
           refine .q 1 rfl .nt ?_
           refine .q 2 rfl .mv ?_
           refine .q 3 rfl .mv ?_
           refine .q 4 rfl (.it (zz:=lss_f (by omega))) ?_
           refine .q 5 rfl .mv ?_
           refine .q 6 rfl .mv ?_
           refine .q 7 rfl .mv ?_
           refine .q 8 rfl .ia ?_
           refine .q 9 rfl .l0 ?_
           refine .q 10 rfl .ln ?_
           refine .q 11 rfl .mv ?_
           refine .q 12 rfl .mv ?_
           refine .q 13 rfl .ia ?_
           refine .q 14 rfl .l0 ?_
           refine .q 15 rfl .ln ?_
           refine .q 16 rfl (.it (zz:=lss_t (by omega))) ?_
           refine .q 17 rfl .pk ?_
           refine .q 18 rfl .pk ?_
           refine Ta.done (by kernel_rfl) ?_
           refine .tt rfl (.r ?_)
           refine .m ?_
           refine .g ?_
           refine .done (.inBlock (.r ?_))
           refine .m ?_
           refine .i ?_ (z:=add_in (by omega) (by omega))
           refine .g ?_
           refine .done ?_
           have hfin:=ih ⟨i+1,by omega⟩ (by simp only;omega)
           simp only[hnext] at hfin
           exact Tc.db hfin
         · have hnext:bestI (refTo k ch.weakAt (i+1))=(q:Nat):=by
             unfold refTo refStep
             rw[hwa,hr]
             show bestI (if(bitsL (ordN k i) k).length<(bitsL (ordN k q) k).length then some i else some q)=_
             rw[hli,hlq,if_neg c3]
             rfl
           refine .seq (.sr ?_)
           refine .m ?_
           refine .m ?_
           refine .x .ln ?_
           refine .i ?_ (z:=lss_t (by omega))
           refine .done (.tt rfl (.skip (.seq (.block (.seq ?_)))))
           refine Tc.dr [] [] mixed rfl ?_
           refine .q 0 rfl (.ld 0) ?_
           refine .q 1 rfl .mv ?_
           refine .q 2 rfl .mv ?_
           refine .q 3 rfl .ia ?_
           refine .q 4 rfl .l0 ?_
           refine .z 5 rfl (OpV.takeCall rfl rfl rfl rfl (fun H hs=> .f ca132 rfl (hW' H hs.base))) ?_
           refine .q 6 rfl .mv ?_
           refine .q 7 rfl .et ?_
           refine .q 8 rfl .et ?_
           refine .q 9 rfl .et ?_
           refine .q 10 rfl .sg ?_
           refine .q 11 rfl .sg ?_
           refine .q 12 rfl .sg ?_
           refine Ta.done (by kernel_rfl) ?_
           refine .seq ?_
           refine Tc.dr [] [] mixed rfl ?_
           refine .q 0 rfl .mv ?_
           refine .q 1 rfl .nt ?_
           refine .q 2 rfl .mv ?_
           refine .q 3 rfl .mv ?_
           refine .q 4 rfl (.it (zz:=lss_f (by omega))) ?_
           refine .q 5 rfl .mv ?_
           refine .q 6 rfl .mv ?_
           refine .q 7 rfl .mv ?_
           refine .q 8 rfl .ia ?_
           refine .q 9 rfl .l0 ?_
           refine .q 10 rfl .ln ?_
           refine .q 11 rfl .mv ?_
           refine .q 12 rfl .mv ?_
           refine .q 13 rfl .ia ?_
           refine .q 14 rfl .l0 ?_
           refine .q 15 rfl .ln ?_
           refine .q 16 rfl (.it (zz:=lss_f (by omega))) ?_
           refine .q 17 rfl .pk ?_
           refine .q 18 rfl .pk ?_
           refine Ta.done (by kernel_rfl) ?_
           refine .ff rfl (.skip (.inBlock (.r ?_)))
           refine .m ?_
           refine .i ?_ (z:=add_in (by omega) (by omega))
           refine .g ?_
           refine .done ?_
           have hfin:=ih ⟨i+1,by omega⟩ (by simp only;omega)
           simp only[hnext] at hfin
           exact Tc.db hfin
 · refine CallT.enter (vs:= [ch.valA A lc]) Tryz.func71 rfl Tryz.ntmps71 (Nat.le_of_ble_eq_true rfl) (SymSt.nil _) fun St c cs hK=> ?_
   refine .sr ?_
   refine .e (.bx (zz:=fun b1=> ?_))
   refine .g ?_
   refine .g ?_
   refine .g ?_
   refine .done (.seq (.sr ?_))
   refine .x (.ld 0) ?_
   refine .c rfl rfl rfl rfl (fun H hs=> .f ca67 rfl (hcc H hs.base)) ?_
   refine .g ?_
   refine .done (.sr ?_)
   refine .m ?_
   refine .i ?_ (z:=neq_t (by omega))
   refine .done (.tt rfl (.sr ?_))
   refine .m ?_
   refine .g ?_
   refine .g ?_
   refine .g ?_
   refine .done ?_
   refine .rt hK Tryz.func71 Tryz.results71 [_,_,_] ?_
   exact fun H' hs=> SpQ.err ha hs.base
end
end Go.Proofs.YtpdaenfglbgfkaaGreatDoor
end
section
namespace Go.Proofs.YtpdaenfglbgfkaaGreatDoor
open Go.RL
set_option maxRecDepth 10000
set_option maxHeartbeats 16000000
section
variable(M:Md Tryz.prog)(H:View)
theorem Section_far(ch:Ch)(lb lo lc ac:Nat)(A:Option Addr)(hA:ChAt H ch lb lo lc A)(hg:ch.Good)(hG:Glob H)(i:Int)(hi:¬(0≤i∧i≤ch.m)):
   CallT M 60 #[ch.val7 lb lo lc,.slice A ch.m ac,.int .i64 i] H (fun v H'=> H.le H'∧v=.tuple ⟨[lk0.val,.int .i64 6]⟩):=by
 have hmn:=hg.ok.m_lt
 have hn4:=hg.ok.n4
 by_cases h0:i<0
 · refine CallT.enter (vs:= [ch.val7 lb lo lc,.slice A ch.m ac,.int .i64 i]) Tryz.func60 rfl Tryz.ntmps60 (Nat.le_of_ble_eq_true rfl) (SymSt.nil _) fun St c cs hK=> ?_
   refine .sr ?_
   refine .e (.bx (zz:=fun b3=> ?_))
   refine .e (.al (zz:=fun b6=> ?_))
   refine .g ?_
   refine .done (.sr ?_)
   refine .x (.ld 1) ?_
   refine .m ?_
   refine .c rfl rfl rfl rfl (fun H hs=> .f ca121 rfl (openChain_good _ H ch lb lo lc ac A (hA.le hs.base) hg (glob_le hG hs.base))) ?_
   refine .m ?_
   refine .x .et ?_
   refine .x .et ?_
   refine .e (.al (zz:=fun b8=> ?_))
   refine .e (.st 0 (zz:=?_))
   refine .g ?_
   refine .done (.seq (.sr ?_))
   refine .m ?_
   refine .i ?_ (z:=neq_f (by omega))
   refine .done (.ff rfl (.skip (.seq (.sr ?_))))
   refine .m ?_
   refine .i ?_ (z:=lss_t (by omega))
   refine .m ?_
   refine .sk ?_
   refine .sk ?_
   refine .sk ?_
   refine .sk ?_
   refine .x .pk ?_
   refine .done (.tt rfl (.sr ?_))
   refine .x .bu ?_
   refine .e (.st 1 (zz:=?_))
   refine .g ?_
   refine .done ?_
   refine Tc.retN (E:=en) hK Tryz.func60 Tryz.results60 (vs:= [_,_]) (by refine⟨⟨1,_,_,_,_,_,_,_,rfl,rfl,rfl,rfl⟩,?_⟩;refine⟨rfl,?_⟩;exact trivial) ?_
   exact fun H' hs=> ⟨hs.base,rfl⟩
 · have h1:(ch.m:Int)<i:=by omega
   refine CallT.enter (vs:= [ch.val7 lb lo lc,.slice A ch.m ac,.int .i64 i]) Tryz.func60 rfl Tryz.ntmps60 (Nat.le_of_ble_eq_true rfl) (SymSt.nil _) fun St c cs hK=> ?_
   refine .sr ?_
   refine .e (.bx (zz:=fun b3=> ?_))
   refine .e (.al (zz:=fun b6=> ?_))
   refine .g ?_
   refine .done (.sr ?_)
   refine .x (.ld 1) ?_
   refine .m ?_
   refine .c rfl rfl rfl rfl (fun H hs=> .f ca121 rfl (openChain_good _ H ch lb lo lc ac A (hA.le hs.base) hg (glob_le hG hs.base))) ?_
   refine .m ?_
   refine .x .et ?_
   refine .x .et ?_
   refine .e (.al (zz:=fun b8=> ?_))
   refine .e (.st 0 (zz:=?_))
   refine .g ?_
   refine .done (.seq (.sr ?_))
   refine .m ?_
   refine .i ?_ (z:=neq_f (by omega))
   refine .done (.ff rfl (.skip (.seq (.sr ?_))))
   refine .m ?_
   refine .i ?_ (z:=lss_f (by omega))
   refine .m ?_
   refine .m ?_
   refine .m ?_
   refine .x .ln ?_
   refine .i ?_ (z:=gtr_t (by omega))
   refine .x .pk ?_
   refine .done (.tt rfl (.sr ?_))
   refine .x .bu ?_
   refine .e (.st 1 (zz:=?_))
   refine .g ?_
   refine .done ?_
   refine Tc.retN (E:=en) hK Tryz.func60 Tryz.results60 (vs:= [_,_]) (by refine⟨⟨1,_,_,_,_,_,_,_,rfl,rfl,rfl,rfl⟩,?_⟩;refine⟨rfl,?_⟩;exact trivial) ?_
   exact fun H' hs=> ⟨hs.base,rfl⟩
theorem refSection_err(ch:Ch)(A:Option Addr)(lc:Nat)(hA:LinesAt H ch A lc)(l:List Int)(B:Option Addr)(m ac:Nat)(hm:m=l.length)(h20:m≤20)(hB:Nums H B l)(i:Int)(e:Int)(h:JErr ch l e):
   CallT M 68 #[ch.valA A lc,.slice B m ac,.int .i64 i] H (fun v H'=> H.le H'∧v=.tuple ⟨[lk0.val,.int .i64 e]⟩):=by
 have hpos:=h.pos
 refine CallT.enter (vs:= [ch.valA A lc,.slice B m ac,.int .i64 i]) Tryz.func68 rfl Tryz.ntmps68 (Nat.le_of_ble_eq_true rfl) (SymSt.nil _) fun St c cs hK=> ?_
 refine .sr ?_
 refine .e (.bx (zz:=fun b3=> ?_))
 refine .e (.al (zz:=fun b6=> ?_))
 refine .g ?_
 refine .done (.seq (.sr ?_))
 refine .x (.ld 1) ?_
 refine .m ?_
 refine .c rfl rfl rfl rfl (fun H hs=> .f ca130 rfl (checkSpots_err M H ch A lc (hA.le hs.base) l B m ac hm h20 (hB.le hs.base) e h)) ?_
 refine .g ?_
 refine .done (.sr ?_)
 refine .m ?_
 refine .i ?_ (z:=neq_t (by omega))
 refine .done (.tt rfl (.sr ?_))
 refine .x .bu ?_
 refine .m ?_
 refine .e (.st 0 (zz:=?_))
 refine .g ?_
 refine .done ?_
 refine Tc.retN (E:=en) hK Tryz.func68 Tryz.results68 (vs:= [_,_]) (by refine⟨⟨0,_,_,_,_,_,_,_,rfl,rfl,rfl,rfl⟩,?_⟩;refine⟨rfl,?_⟩;exact trivial) ?_
 exact fun H' hs=> ⟨hs.base,rfl⟩
theorem refHolds_err(ch:Ch)(A:Option Addr)(lc:Nat)(hA:LinesAt H ch A lc)(l:List Int)(B:Option Addr)(m ac:Nat)(hm:m=l.length)(h20:m≤20)(hB:Nums H B l)(e:Int)(h:JErr ch l e):
   CallT M 69 #[ch.valA A lc,.slice B m ac] H (fun v H'=> H.le H'∧v=.tuple ⟨[.bool false,.int .i64 e]⟩):=by
 have hpos:=h.pos
 refine CallT.enter (vs:= [ch.valA A lc,.slice B m ac]) Tryz.func69 rfl Tryz.ntmps69 (Nat.le_of_ble_eq_true rfl) (SymSt.nil _) fun St c cs hK=> ?_
 refine .sr ?_
 refine .e (.bx (zz:=fun b2=> ?_))
 refine .g ?_
 refine .g ?_
 refine .done (.seq (.sr ?_))
 refine .x (.ld 0) ?_
 refine .m ?_
 refine .c rfl rfl rfl rfl (fun H hs=> .f ca130 rfl (checkSpots_err M H ch A lc (hA.le hs.base) l B m ac hm h20 (hB.le hs.base) e h)) ?_
 refine .g ?_
 refine .done (.sr ?_)
 refine .m ?_
 refine .i ?_ (z:=neq_t (by omega))
 refine .done (.tt rfl (.sr ?_))
 refine .m ?_
 refine .g ?_
 refine .g ?_
 refine .done ?_
 refine .rt hK Tryz.func69 Tryz.results69 [_,_] ?_
 exact fun H' hs=> ⟨hs.base,rfl⟩
theorem refWeak_err(ch:Ch)(A:Option Addr)(lc:Nat)(hA:LinesAt H ch A lc)(l:List Int)(B:Option Addr)(m ac:Nat)(hm:m=l.length)(h20:m≤20)(hB:Nums H B l)(e:Int)(h:JErr ch l e):
   CallT M 70 #[ch.valA A lc,.slice B m ac] H (fun v H'=> H.le H'∧v=.tuple ⟨[.int .i64 0,.int .i64 0,.bool false,.int .i64 e]⟩):=by
 have hpos:=h.pos
 refine CallT.enter (vs:= [ch.valA A lc,.slice B m ac]) Tryz.func70 rfl Tryz.ntmps70 (Nat.le_of_ble_eq_true rfl) (SymSt.nil _) fun St c cs hK=> ?_
 refine .sr ?_
 refine .e (.bx (zz:=fun b2=> ?_))
 refine .g ?_
 refine .g ?_
 refine .g ?_
 refine .g ?_
 refine .done (.seq (.sr ?_))
 refine .x (.ld 0) ?_
 refine .m ?_
 refine .c rfl rfl rfl rfl (fun H hs=> .f ca130 rfl (checkSpots_err M H ch A lc (hA.le hs.base) l B m ac hm h20 (hB.le hs.base) e h)) ?_
 refine .g ?_
 refine .done (.sr ?_)
 refine .m ?_
 refine .i ?_ (z:=neq_t (by omega))
 refine .done (.tt rfl (.sr ?_))
 refine .m ?_
 refine .g ?_
 refine .g ?_
 refine .g ?_
 refine .g ?_
 refine .done ?_
 refine .rt hK Tryz.func70 Tryz.results70 [_,_,_,_] ?_
 exact fun H' hs=> ⟨hs.base,rfl⟩
section
variable(ch:Ch)(lb lo lc ac m:Nat)(A:Option Addr)(hA:ChAt H ch lb lo lc A)(hg:ch.Good)(hm:m=ch.m)
 (hsp:∀H',H.le H'→CallT M 130 #[ch.val7 lb lo lc,.slice A m ac] H' (fun v H''=> H'.le H''∧v=.int .i64 0))
include hA hg hm hsp
theorem refHolds_good(t:Bool)(ht:ch.first.isSome=t):
   CallT M 69 #[ch.val7 lb lo lc,.slice A m ac] H (fun v H'=> H.le H'∧v=.tuple ⟨[.bool (!t),.int .i64 0]⟩):=by
 subst hm
 obtain⟨s1,hs1⟩:∃x:Nat,ch.sec=x:=⟨_,rfl⟩
 obtain⟨s2,hs2⟩:∃x:Int,(ch.bad s1).getD 0=x:=⟨_,rfl⟩
 have hW:=fun(H':View) (h':H.le H')=> WeakOf_c M H' ch lb lo lc ac A (hA.le h') hg
 rw[hs1,hs2,ht] at hW
 refine CallT.enter (vs:= [ch.val7 lb lo lc,.slice A ch.m ac]) Tryz.func69 rfl Tryz.ntmps69 (Nat.le_of_ble_eq_true rfl) (SymSt.nil _) fun St c cs hK=> ?_
 refine .sr ?_
 refine .e (.bx (zz:=fun b2=> ?_))
 refine .g ?_
 refine .g ?_
 refine .done (.seq (.sr ?_))
 refine .x (.ld 0) ?_
 refine .m ?_
 refine .c rfl rfl rfl rfl (fun H hs=> .f ca130 rfl (hsp H hs.base)) ?_
 refine .g ?_
 refine .done (.sr ?_)
 refine .m ?_
 refine .i ?_ (z:=neq_f (by omega))
 refine .done (.ff rfl (.skip (.sr ?_)))
 refine .x (.ld 0) ?_
 refine .m ?_
 refine .c rfl rfl rfl rfl (fun H hs=> .f ca132 rfl (hW H hs.base)) ?_
 refine .m ?_
 refine .x .et ?_
 refine .x .et ?_
 refine .x .et ?_
 refine .g ?_
 refine .g ?_
 refine .g ?_
 refine .done (.sr ?_)
 refine .m ?_
 refine .x .nt ?_
 refine .g ?_
 refine .g ?_
 refine .done ?_
 refine .rt hK Tryz.func69 Tryz.results69 [_,_] ?_
 exact fun H' hs=> ⟨hs.base,rfl⟩
theorem refWeak_good(t:Bool)(ht:ch.first.isSome=t)(s1:Nat)(hs1:ch.sec=s1)(s2:Int)(hs2:(ch.bad s1).getD 0=s2):
   CallT M 70 #[ch.val7 lb lo lc,.slice A m ac] H (fun v H'=> H.le H'∧v=.tuple ⟨[.int .i64 (s1:Nat),.int .i64 s2,.bool t,.int .i64 0]⟩):=by
 subst hm
 have hW:=fun(H':View) (h':H.le H')=> WeakOf_c M H' ch lb lo lc ac A (hA.le h') hg
 rw[hs1,hs2,ht] at hW
 refine CallT.enter (vs:= [ch.val7 lb lo lc,.slice A ch.m ac]) Tryz.func70 rfl Tryz.ntmps70 (Nat.le_of_ble_eq_true rfl) (SymSt.nil _) fun St c cs hK=> ?_
 refine .sr ?_
 refine .e (.bx (zz:=fun b2=> ?_))
 refine .g ?_
 refine .g ?_
 refine .g ?_
 refine .g ?_
 refine .done (.seq (.sr ?_))
 refine .x (.ld 0) ?_
 refine .m ?_
 refine .c rfl rfl rfl rfl (fun H hs=> .f ca130 rfl (hsp H hs.base)) ?_
 refine .g ?_
 refine .done (.sr ?_)
 refine .m ?_
 refine .i ?_ (z:=neq_f (by omega))
 refine .done (.ff rfl (.skip (.sr ?_)))
 refine .x (.ld 0) ?_
 refine .m ?_
 refine .c rfl rfl rfl rfl (fun H hs=> .f ca132 rfl (hW H hs.base)) ?_
 refine .m ?_
 refine .x .et ?_
 refine .x .et ?_
 refine .x .et ?_
 refine .g ?_
 refine .g ?_
 refine .g ?_
 refine .done (.sr ?_)
 refine .m ?_
 refine .m ?_
 refine .m ?_
 refine .g ?_
 refine .g ?_
 refine .g ?_
 refine .g ?_
 refine .done ?_
 refine .rt hK Tryz.func70 Tryz.results70 [_,_,_,_] ?_
 exact fun H' hs=> ⟨hs.base,rfl⟩
omit hA in
theorem refSection_far(i:Int)(hi:¬(0≤i∧i≤ch.m)):
    CallT M 68 #[ch.val7 lb lo lc,.slice A m ac,.int .i64 i] H (fun v H'=> H.le H'∧v=.tuple ⟨[lk0.val,.int .i64 6]⟩):=by
  subst hm
  have hIn:∀H',CallT M 59 #[.int .i64 i,.int .i64 0,.int .i64 (ch.m:Nat)] H' (fun v H''=> H'.le H''∧v=.bool false):=fun H'=>
    CallT.mono (In_c M H' i 0 (ch.m:Nat)) (by rintro v H'' ⟨h1,h2⟩;rw[decide_eq_false hi] at h2;exact⟨h1,h2⟩)
  have hmn:=hg.ok.m_lt
  have hn4:=hg.ok.n4
  refine CallT.enter (vs:= [ch.val7 lb lo lc,.slice A ch.m ac,.int .i64 i]) Tryz.func68 rfl Tryz.ntmps68 (Nat.le_of_ble_eq_true rfl) (SymSt.nil _) fun St c cs hK=> ?_
  refine .sr ?_
  refine .e (.bx (zz:=fun b3=> ?_))
  refine .e (.al (zz:=fun b6=> ?_))
  refine .g ?_
  refine .done (.seq (.sr ?_))
  refine .x (.ld 1) ?_
  refine .m ?_
  refine .c rfl rfl rfl rfl (fun H hs=> .f ca130 rfl (hsp H hs.base)) ?_
  refine .g ?_
  refine .done (.sr ?_)
  refine .m ?_
  refine .i ?_ (z:=neq_f (by omega))
  refine .done (.ff rfl (.skip (.seq (.sr ?_))))
  refine .m ?_
  refine .m ?_
  refine .x .ln ?_
  refine .c rfl rfl rfl rfl (fun H hs=> .f ca59 rfl (hIn H)) ?_
  refine .x .nt ?_
  refine .done (.tt rfl (.sr ?_))
  refine .x .bu ?_
  refine .e (.st 0 (zz:=?_))
  refine .g ?_
  refine .done ?_
  refine Tc.retN (E:=en) hK Tryz.func68 Tryz.results68 (vs:= [_,_]) (by refine⟨⟨0,_,_,_,_,_,_,_,rfl,rfl,rfl,rfl⟩,?_⟩;refine⟨rfl,?_⟩;exact trivial) ?_
  exact fun H' hs=> ⟨hs.base,rfl⟩
theorem refSection_no(i:Nat)(hi:i≤ch.m)(hf:ch.fits i=false):
   CallT M 68 #[ch.val7 lb lo lc,.slice A m ac,.int .i64 (i:Nat)] H (fun v H'=> H.le H'∧v=.tuple ⟨[lk0.val,.int .i64 1]⟩):=by
 subst hm
 have hIn:∀H',CallT M 59 #[.int .i64 (i:Nat),.int .i64 0,.int .i64 (ch.m:Nat)] H' (fun v H''=> H'.le H''∧v=.bool true):=fun H'=>
   CallT.mono (In_c M H' (i:Nat) 0 (ch.m:Nat)) (by rintro v H'' ⟨h1,h2⟩;rw[decide_eq_true (by omega)] at h2;exact⟨h1,h2⟩)
 have hlk:=fun(H':View) (h':H.le H')=> LinkOf_c M H' ch i lb lo lc ac A hg.ok (hA.le h') hi
 have hmn:=hg.ok.m_lt
 have hn4:=hg.ok.n4
 have hok:=hg.ok_lk i
 rw[hf] at hok
 refine CallT.enter (vs:= [ch.val7 lb lo lc,.slice A ch.m ac,.int .i64 (i:Nat)]) Tryz.func68 rfl Tryz.ntmps68 (Nat.le_of_ble_eq_true rfl) (SymSt.nil _) fun St c cs hK=> ?_
 refine .sr ?_
 refine .e (.bx (zz:=fun b3=> ?_))
 refine .e (.al (zz:=fun b6=> ?_))
 refine .g ?_
 refine .done (.seq (.sr ?_))
 refine .x (.ld 1) ?_
 refine .m ?_
 refine .c rfl rfl rfl rfl (fun H hs=> .f ca130 rfl (hsp H hs.base)) ?_
 refine .g ?_
 refine .done (.sr ?_)
 refine .m ?_
 refine .i ?_ (z:=neq_f (by omega))
 refine .done (.ff rfl (.skip (.seq (.sr ?_))))
 refine .m ?_
 refine .m ?_
 refine .x .ln ?_
 refine .c rfl rfl rfl rfl (fun H hs=> .f ca59 rfl (hIn H)) ?_
 refine .x .nt ?_
 refine .done (.ff rfl (.skip (.sr ?_)))
 refine .x (.ld 1) ?_
 refine .m ?_
 refine .m ?_
 refine .c rfl rfl rfl rfl (fun H hs=> .f ca131 rfl (hlk H hs.base)) ?_
 refine .e (.al (zz:=fun b9=> ?_))
 refine .e (.st 0 (zz:=?_))
 refine .done (.seq (.sr ?_))
 refine .x (.ld 0) ?_
 refine .c rfl rfl rfl rfl (fun H hs=> .f ca61 rfl (refLink_is M H (ch.lk i) false hok 1 rfl)) ?_
 refine .g ?_
 refine .done (.sr ?_)
 refine .m ?_
 refine .i ?_ (z:=neq_t (by omega))
 refine .done (.tt rfl (.sr ?_))
 refine .x .bu ?_
 refine .m ?_
 refine .e (.st 1 (zz:=?_))
 refine .g ?_
 refine .done ?_
 refine Tc.retN (E:=en) hK Tryz.func68 Tryz.results68 (vs:= [_,_]) (by refine⟨⟨1,_,_,_,_,_,_,_,rfl,rfl,rfl,rfl⟩,?_⟩;refine⟨rfl,?_⟩;exact trivial) ?_
 exact fun H' hs=> ⟨hs.base,rfl⟩
theorem refSection_yes(i:Nat)(hi:i≤ch.m)(hf:ch.fits i=true):
   CallT M 68 #[ch.val7 lb lo lc,.slice A m ac,.int .i64 (i:Nat)] H (fun v H'=> H.le H'∧v=.tuple ⟨[(ch.lk i).val,.int .i64 0]⟩):=by
 subst hm
 have hIn:∀H',CallT M 59 #[.int .i64 (i:Nat),.int .i64 0,.int .i64 (ch.m:Nat)] H' (fun v H''=> H'.le H''∧v=.bool true):=fun H'=>
   CallT.mono (In_c M H' (i:Nat) 0 (ch.m:Nat)) (by rintro v H'' ⟨h1,h2⟩;rw[decide_eq_true (by omega)] at h2;exact⟨h1,h2⟩)
 have hlk:=fun(H':View) (h':H.le H')=> LinkOf_c M H' ch i lb lo lc ac A hg.ok (hA.le h') hi
 have hmn:=hg.ok.m_lt
 have hn4:=hg.ok.n4
 have hok:=hg.ok_lk i
 rw[hf] at hok
 refine CallT.enter (vs:= [ch.val7 lb lo lc,.slice A ch.m ac,.int .i64 (i:Nat)]) Tryz.func68 rfl Tryz.ntmps68 (Nat.le_of_ble_eq_true rfl) (SymSt.nil _) fun St c cs hK=> ?_
 refine .sr ?_
 refine .e (.bx (zz:=fun b3=> ?_))
 refine .e (.al (zz:=fun b6=> ?_))
 refine .g ?_
 refine .done (.seq (.sr ?_))
 refine .x (.ld 1) ?_
 refine .m ?_
 refine .c rfl rfl rfl rfl (fun H hs=> .f ca130 rfl (hsp H hs.base)) ?_
 refine .g ?_
 refine .done (.sr ?_)
 refine .m ?_
 refine .i ?_ (z:=neq_f (by omega))
 refine .done (.ff rfl (.skip (.seq (.sr ?_))))
 refine .m ?_
 refine .m ?_
 refine .x .ln ?_
 refine .c rfl rfl rfl rfl (fun H hs=> .f ca59 rfl (hIn H)) ?_
 refine .x .nt ?_
 refine .done (.ff rfl (.skip (.sr ?_)))
 refine .x (.ld 1) ?_
 refine .m ?_
 refine .m ?_
 refine .c rfl rfl rfl rfl (fun H hs=> .f ca131 rfl (hlk H hs.base)) ?_
 refine .e (.al (zz:=fun b9=> ?_))
 refine .e (.st 0 (zz:=?_))
 refine .done (.seq (.sr ?_))
 refine .x (.ld 0) ?_
 refine .c rfl rfl rfl rfl (fun H hs=> .f ca61 rfl (refLink_is M H (ch.lk i) true hok 0 rfl)) ?_
 refine .g ?_
 refine .done (.sr ?_)
 refine .m ?_
 refine .i ?_ (z:=neq_f (by omega))
 refine .done (.ff rfl (.skip (.sr ?_)))
 refine .x (.ld 0) ?_
 refine .e (.st 1 (zz:=?_))
 refine .g ?_
 refine .done ?_
 refine Tc.retN (E:=en) hK Tryz.func68 Tryz.results68 (vs:= [_,_]) (by refine⟨⟨1,_,_,_,_,_,_,_,rfl,rfl,rfl,rfl⟩,?_⟩;refine⟨rfl,?_⟩;exact trivial) ?_
 exact fun H' hs=> ⟨hs.base,rfl⟩
end
end
theorem SpotsPr_any(H:View)(ch:Ch)(hm:ch.m=0)(A:Option Addr)(lc:Nat)(hA:LinesAt H ch A lc)(hG:Glob H):CallT (Mp Tryz.prog) 54 #[ch.valA A lc] H (SpQ ch H):=by
 by_cases ha:ch.alarm=0
 · have hgood:=Ch.fair_good (Ch.alarm_zero.1 ha) hm
   obtain⟨lb,lo,rfl⟩:=hA.some hgood.ok.n0
   have hsp:ch.spotsA=ch.spots:=if_pos ha
   have hCA:ChAt H ch lb lo lc none:=by
     have hJ:JGood ch [] []:=⟨rfl,by
       have:ch.on []= { ch with m:=0,at_:=fun i=> ([]:List Nat)[i]?.getD 0 }:=rfl
       refine⟨⟨hgood.ok.n0,hgood.ok.n4,hgood.ok.x,hgood.ok.y,hgood.ok.z,hgood.ok.u,fun i hi=> ?_,fun i hi=> ?_⟩,hgood.s,hgood.a,hgood.r,hgood.ln⟩
       · exact absurd hi (Nat.not_lt_zero _)
       · exact absurd hi (Nat.not_lt_zero _)⟩
     have:=hJ.at_ (B:=none) hA (.inl rfl)
     exact⟨this.ln,this.lc,fun h=> absurd h (by omega)⟩
   refine CallT.mono (Spots_c H ch lb lo lc none hCA hgood hG) ?_
   rintro v H' ⟨h1,g,rfl,h2,h3⟩
   obtain⟨h4,h5⟩:=Nums.of (H:=H') (h2.trans (places_nums _)) (fun y hy=> (h3 y hy).1)
   rw[←hsp] at h4 h5 ⊢
   exact⟨h1,_,g.n,g.cap,by rw[ha];rfl,h4,h5⟩
 · have hcc:=fun(H':View) (h':H.le H')=> CheckChain_any (Mp Tryz.prog) H' ch A lc (hA.le h') (glob_le hG h')
   refine CallT.enter (vs:= [ch.valA A lc]) Tryz.func54 rfl Tryz.ntmps54 (Nat.le_of_ble_eq_true rfl) (SymSt.nil _) fun St c cs hK=> ?_
   refine .sr ?_
   refine .e (.bx (zz:=fun b1=> ?_))
   refine .g ?_
   refine .g ?_
   refine .g ?_
   refine .done ?_
   refine Tc.scope ?_
   refine .seq (.sr ?_)
   refine .x (.ld 0) ?_
   refine .c rfl rfl rfl rfl (fun H hs=> .f ca66 rfl (hcc H hs.base)) ?_
   refine .g ?_
   refine .done (.sr ?_)
   refine .m ?_
   refine .i ?_ (z:=neq_t (by omega))
   refine .done (.tt rfl (.sr ?_))
   refine .m ?_
   refine .g ?_
   refine .g ?_
   refine .g ?_
   refine .done ?_
   refine .rt hK Tryz.func54 Tryz.results54 [_,_,_] ?_
   exact fun H' hs=> SpQ.err ha hs.base
theorem chains_any(H:View)(hG:Glob H)(ch:Ch)(hm0:ch.m=0)(A:Option Addr)(lc:Nat)(hA:LinesAt H ch A lc)(l:List Int)(B:Option Addr)(m ac:Nat)(hm:m=l.length)(h20:m≤20)(hB:Nums H B l)(i:Int):
   ∃ (kl:Lk) (e1:Int) (o:Bool) (e2:Int) (w1 w2:Int) (t:Bool) (e3:Int),
     (∀H',H.le H'→CallT (Mp Tryz.prog) 60 #[ch.valA A lc,.slice B m ac,.int .i64 i] H' (fun v H''=> H'.le H''∧v=.tuple ⟨[kl.val,.int .i64 e1]⟩))
     ∧(∀H',H.le H'→CallT (Mp Tryz.prog) 68 #[ch.valA A lc,.slice B m ac,.int .i64 i] H' (fun v H''=> H'.le H''∧v=.tuple ⟨[kl.val,.int .i64 e1]⟩))
     ∧(∀H',H.le H'→CallT (Mp Tryz.prog) 56 #[ch.valA A lc,.slice B m ac] H' (fun v H''=> H'.le H''∧v=.tuple ⟨[.bool o,.int .i64 e2]⟩))
     ∧(∀H',H.le H'→CallT (Mp Tryz.prog) 69 #[ch.valA A lc,.slice B m ac] H' (fun v H''=> H'.le H''∧v=.tuple ⟨[.bool o,.int .i64 e2]⟩))
     ∧(∀H',H.le H'→CallT (Mp Tryz.prog) 58 #[ch.valA A lc,.slice B m ac] H' (fun v H''=> H'.le H''∧v=.tuple ⟨[.int .i64 w1,.int .i64 w2,.bool t,.int .i64 e3]⟩))
     ∧(∀H',H.le H'→CallT (Mp Tryz.prog) 70 #[ch.valA A lc,.slice B m ac] H' (fun v H''=> H'.le H''∧v=.tuple ⟨[.int .i64 w1,.int .i64 w2,.bool t,.int .i64 e3]⟩)):=by
 rcases JErr.or ch l with ⟨e,he⟩|⟨ha,hall⟩
 · exact⟨lk0,e,false,e,0,0,false,e,
     fun H' h=> Section_err _ H' ch A lc (hA.le h) (glob_le hG h) l B m ac hm h20 (hB.le h) i e he,
     fun H' h=> refSection_err _ H' ch A lc (hA.le h) l B m ac hm h20 (hB.le h) i e he,
     fun H' h=> Holds_err _ H' ch A lc (hA.le h) (glob_le hG h) l B m ac hm h20 (hB.le h) e he,
     fun H' h=> refHolds_err _ H' ch A lc (hA.le h) l B m ac hm h20 (hB.le h) e he,
     fun H' h=> Weak_err _ H' ch A lc (hA.le h) (glob_le hG h) l B m ac hm h20 (hB.le h) e he,
     fun H' h=> refWeak_err _ H' ch A lc (hA.le h) l B m ac hm h20 (hB.le h) e he⟩
 · obtain⟨l',hJ⟩:=JGood.of hm0 ha hall
   obtain⟨lb,lo,rfl⟩:=hA.some hJ.good.ok.n0
   have hCA:=hJ.at_ hA hB
   have hg:=hJ.good
   have hml:m=(ch.on l').m:=hm.trans hJ.len
   have hv:(ch.on l').val7 lb lo lc=ch.valA (some ⟨lb,lo,none⟩) lc:=rfl
   have hsp:∀H',H.le H'→CallT (Mp Tryz.prog) 130 #[(ch.on l').val7 lb lo lc,.slice B m ac] H' (fun v H''=> H'.le H''∧v=.int .i64 0):=fun H' h=> by
     rw[hv]
     exact checkSpots_good _ H' ch _ lc (hA.le h) l B m ac hm h20 (hB.le h) ha hall
   obtain⟨t,ht⟩:∃t,(ch.on l').first.isSome=t:=⟨_,rfl⟩
   obtain⟨s1,hs1⟩:∃x:Nat,(ch.on l').sec=x:=⟨_,rfl⟩
   obtain⟨s2,hs2⟩:∃x:Int,((ch.on l').bad s1).getD 0=x:=⟨_,rfl⟩
   obtain⟨kl,e1,h1,h2⟩:∃(kl:Lk) (e1:Int),(∀H',H.le H'→CallT (Mp Tryz.prog) 60 #[(ch.on l').val7 lb lo lc,.slice B m ac,.int .i64 i] H' (fun v H''=> H'.le H''∧v=.tuple ⟨[kl.val,.int .i64 e1]⟩))
       ∧(∀H',H.le H'→CallT (Mp Tryz.prog) 68 #[(ch.on l').val7 lb lo lc,.slice B m ac,.int .i64 i] H' (fun v H''=> H'.le H''∧v=.tuple ⟨[kl.val,.int .i64 e1]⟩)):=by
     by_cases hi:0≤i∧i≤(ch.on l').m
     · obtain⟨j,rfl⟩:∃j:Nat,i=(j:Int):=⟨i.toNat,by omega⟩
       have hj:j≤(ch.on l').m:=by omega
       cases hf:(ch.on l').fits j with
       | true=> exact⟨_,0,fun H' h=> Section_yes _ H' (ch.on l') lb lo lc ac B (hCA.le h) hg (glob_le hG h) m hml j hj hf,fun H' h=> refSection_yes _ H' (ch.on l') lb lo lc ac m B (hCA.le h) hg hml (fun H'' h2=> hsp H'' (View.le_trans h h2)) j hj hf⟩
       | false=> exact⟨_,1,fun H' h=> Section_no _ H' (ch.on l') lb lo lc ac B (hCA.le h) hg (glob_le hG h) m hml j hj hf,fun H' h=> refSection_no _ H' (ch.on l') lb lo lc ac m B (hCA.le h) hg hml (fun H'' h2=> hsp H'' (View.le_trans h h2)) j hj hf⟩
     · refine⟨lk0,6,fun H' h=> ?_,fun H' h=> refSection_far _ H' (ch.on l') lb lo lc ac m B hg hml (fun H'' h2=> hsp H'' (View.le_trans h h2)) i hi⟩
       rw[hml]
       exact Section_far _ H' (ch.on l') lb lo lc ac B (hCA.le h) hg (glob_le hG h) i hi
   refine⟨kl,e1,!t,0,s1,s2,t,0,h1,h2,fun H' h=> Holds_c H' (ch.on l') lb lo lc ac B (hCA.le h) hg (glob_le hG h) m hml t ht,
     fun H' h=> refHolds_good _ H' (ch.on l') lb lo lc ac m B (hCA.le h) hg hml (fun H'' h2=> hsp H'' (View.le_trans h h2)) t ht,fun H' h=> ?_,
     fun H' h=> refWeak_good _ H' (ch.on l') lb lo lc ac m B (hCA.le h) hg hml (fun H'' h2=> hsp H'' (View.le_trans h h2)) t ht s1 hs1 s2 hs2⟩
   have:=Weak_c H' (ch.on l') lb lo lc ac B (hCA.le h) hg (glob_le hG h)
   rw[hs1,hs2,ht,←hml] at this
   exact this
end Go.Proofs.YtpdaenfglbgfkaaGreatDoor
end
section
namespace Go.Proofs.YtpdaenfglbgfkaaGreatDoor
open Go.RL
set_option maxRecDepth 10000
set_option maxHeartbeats 8000000
section
variable(M:Md Tryz.prog)(H:View)
end
end Go.Proofs.YtpdaenfglbgfkaaGreatDoor
end
section
namespace Go.Proofs.YtpdaenfglbgfkaaGreatDoor
open Go.RL
set_option maxRecDepth 10000
set_option maxHeartbeats 16000000
def PAns(k:Lk)(c a r n:Int)(mv:List Int)(sl:List Int)(w:Int)(o:Bool)(e:Int):Prop:=
 PErr k c a r n mv e∧sl= []∧w=0∧o=false∨k.ok=true∧∃code:Nat,c=(code:Int)∧code<32∧k.Past code a r n mv∧sl=seenL (placesTo code 7) mv a n∧readV (readN (pastView code a r n mv))=.tuple ⟨[.int .i64 w,.bool o,.int .i64 0]⟩∧e=0
section
variable(M:Md Tryz.prog)(H:View)
theorem long_c(A:Option Addr)(m ca:Nat)(t:Bool)(ht:decide (20<m)=t):CallT M 45 #[.slice A m ca] H (fun v H'=> H.le H'∧v=.bool t):=by
 by_cases h:20<m
 · rw[decide_eq_true h] at ht
   subst ht
   refine CallT.enter (vs:= [.slice A m ca]) Tryz.func45 rfl Tryz.ntmps45 (Nat.le_of_ble_eq_true rfl) (SymSt.nil _) fun St c cs hK=> ?_
   refine .sr ?_
   refine .g ?_
   refine .done (.sr ?_)
   refine .m ?_
   refine .x .ln ?_
   refine .i ?_ (z:=gtr_t (by omega))
   refine .g ?_
   refine .done ?_
   refine .rt hK Tryz.func45 Tryz.results45 [_] ?_
   exact fun H' hs=> ⟨hs.base,rfl⟩
 · rw[decide_eq_false h] at ht
   subst ht
   refine CallT.enter (vs:= [.slice A m ca]) Tryz.func45 rfl Tryz.ntmps45 (Nat.le_of_ble_eq_true rfl) (SymSt.nil _) fun St c cs hK=> ?_
   refine .sr ?_
   refine .g ?_
   refine .done (.sr ?_)
   refine .m ?_
   refine .x .ln ?_
   refine .i ?_ (z:=gtr_f (by omega))
   refine .g ?_
   refine .done ?_
   refine .rt hK Tryz.func45 Tryz.results45 [_] ?_
   exact fun H' hs=> ⟨hs.base,rfl⟩
variable(k:Lk)(c a r n:Int)(mv sl:List Int)(w:Int)(o:Bool)(e:Int)(h:PAns k c a r n mv sl w o e)(A:Option Addr)(m ca:Nat)(hm:m=mv.length)(hm6:m≤20)(hA:Nums H A mv)
include h hm hm6 hA
end
end Go.Proofs.YtpdaenfglbgfkaaGreatDoor
end
section
namespace Go.Proofs.YtpdaenfglbgfkaaGreatDoor
open Go.RL
set_option maxRecDepth 10000
set_option maxHeartbeats 16000000
theorem eg25:Tryz.prog.eqGuardType Tryz.prog.depth 25=false:=by kernel_rfl
theorem Chains_w {St:View→Goroutine→Prop}{cs:List Frame}(H:View)(hG:Glob H)(ch:Ch)(hm0:ch.m=0)(A:Option Addr)(lc:Nat)(hA:LinesAt H ch A lc)(l:List Int)(B:Option Addr)(m ac:Nat)(hm:m=l.length)(hB:Nums H B l)(i:Int)
   (hR:∀(H₀:View) (R:Rg) (L:Bl) (kk:List Item),lk R 6=some (.bool true)→H.le H₀→Tc (Mp Tryz.prog) St 159 ⟨12,.normal,none⟩ H₀ cs R L [] (.code .ret::kk)):
   Tc (Mp Tryz.prog) St 159 ⟨12,.normal,none⟩ H cs (argR [ch.valA A lc,.slice B m ac,.int .i64 i]) [] [] [.code (bodyOf Tryz.f12)]:=by
 by_cases h1:20<ch.n
 · refine .sr ?_
   refine .e (.bx (zz:=fun b3=> ?_))
   refine .g ?_
   refine .done (.seq (.sr ?_))
   refine .x (.ld 0) ?_
   refine .c rfl rfl rfl rfl (fun H hs=> .f ca63 rfl (Great_c _ H ch A lc true (decide_eq_true h1).symm)) ?_
   refine .m ?_
   refine .sk ?_
   refine .sk ?_
   refine .x .pk ?_
   refine .done (.tt rfl (.sr ?_))
   refine .c rfl rfl rfl rfl (fun H hs=> .f ca31 rfl (signalled_c H (glob_le hG hs.base))) ?_
   refine .g ?_
   refine .done ?_
   exact hR _ _ _ _ rfl (View.le_refl _)
 by_cases h2:20<m
 · refine .sr ?_
   refine .e (.bx (zz:=fun b3=> ?_))
   refine .g ?_
   refine .done (.seq (.sr ?_))
   refine .x (.ld 0) ?_
   refine .c rfl rfl rfl rfl (fun H hs=> .f ca63 rfl (Great_c _ H ch A lc false (decide_eq_false h1).symm)) ?_
   refine .m ?_
   refine .m ?_
   refine .c rfl rfl rfl rfl (fun H hs=> .f ca45 rfl (long_c _ H B m ac true (decide_eq_true h2))) ?_
   refine .x .pk ?_
   refine .done (.tt rfl (.sr ?_))
   refine .c rfl rfl rfl rfl (fun H hs=> .f ca31 rfl (signalled_c H (glob_le hG hs.base))) ?_
   refine .g ?_
   refine .done ?_
   exact hR _ _ _ _ rfl (View.le_refl _)
 have h20:m≤20:=by omega
 obtain⟨x,y,z,u,je,hJ⟩:=JAns.some ch
 obtain⟨kl,e1,o,e2,w1,w2,t,e3,s1,s2,g1,g2,k1,k2⟩:=chains_any H hG ch hm0 A lc hA l B m ac hm h20 hB i
 obtain⟨al,hal⟩:∃e,ch.alarm=e:=⟨_,rfl⟩
 have hc1:=fun(H':View) (h':H.le H')=> CheckChain_any (Mp Tryz.prog) H' ch A lc (hA.le h') (glob_le hG h')
 have hc2:=fun(H':View) (h':H.le H')=> refChain_c (Mp Tryz.prog) H' ch A lc (hA.le h')
 rw[hal] at hc1 hc2
 have hlen:=spotsA_len ch
 refine .sr ?_
 refine .e (.bx (zz:=fun b3=> ?_))
 refine .g ?_
 refine .done (.seq (.sr ?_))
 refine .x (.ld 0) ?_
 refine .c rfl rfl rfl rfl (fun H hs=> .f ca63 rfl (Great_c _ H ch A lc false (decide_eq_false h1).symm)) ?_
 refine .m ?_
 refine .m ?_
 refine .c rfl rfl rfl rfl (fun H hs=> .f ca45 rfl (long_c _ H B m ac false (decide_eq_false h2))) ?_
 refine .x .pk ?_
 refine .done (.ff rfl (.skip (.sr ?_)))
 refine .x .fa ?_
 refine .x (.ld 0) ?_
 refine .c rfl rfl rfl rfl (fun H hs=> .f ca64 rfl (Join_any _ H ch A lc (hA.le hs.base) (glob_le hG hs.base) x y z u je hJ)) ?_
 refine .m ?_
 refine .x .et ?_
 refine .x .et ?_
 refine .e (.al (zz:=fun b7=> ?_))
 refine .e (.st 0 (zz:=?_))
 refine .g ?_
 refine .done (.sr ?_)
 refine .x .fa ?_
 refine .x (.ld 1) ?_
 refine .c rfl rfl rfl rfl (fun H hs=> .f ca65 rfl (refJoin_any _ H ch A lc (hA.le hs.base) x y z u je hJ)) ?_
 refine .m ?_
 refine .x .et ?_
 refine .x .et ?_
 refine .e (.al (zz:=fun b9=> ?_))
 refine .e (.st 0 (zz:=?_))
 refine .g ?_
 refine .done (.seq (.seq ?_))
 refine Tc.dr [] [] mixed rfl ?_
 refine .q 0 rfl (.ld 2) ?_
 refine .z 1 rfl (OpV.takeCall rfl rfl rfl rfl (fun H hs=> .f ca66 rfl (hc1 H hs.base))) ?_
 refine .q 2 rfl (.ld 2) ?_
 refine .z 3 rfl (OpV.takeCall rfl rfl rfl rfl (fun H hs=> .f ca67 rfl (hc2 H hs.base))) ?_
 refine .q 4 rfl (.it (zz:=neq_f (by omega))) ?_
 refine .q 5 rfl .mv ?_
 refine .q 6 rfl (.ld 1) ?_
 refine .q 7 rfl (.ld 0) ?_
 refine .q 8 rfl (OpV.neA (E:=en) true 3 rfl rfl rfl rfl rfl eg25 (by decide) (line_flat x y z u) (line_flat x y z u) (by simp)) ?_
 refine .q 9 rfl .pk ?_
 refine .q 10 rfl .mv ?_
 refine .q 11 rfl .mv ?_
 refine .q 12 rfl .mv ?_
 refine .q 13 rfl (.it (zz:=neq_f (by omega))) ?_
 refine .q 14 rfl .pk ?_
 refine Ta.done (by kernel_rfl) ?_
 refine .ff rfl (.skip (.seq ?_))
 refine Tc.db (R':= [(1,.slice B m ac),(2,.int .i64 i),(3,.pointer (some ⟨b3,0,none⟩))]) (L':= [(b3,true,.cells ⟨(ch.valA A lc).cells.toList⟩ 73 (0,0))]) ?_
 refine .r ?_
 refine .x (.ld 0) ?_
 refine .m ?_
 refine .m ?_
 refine .c rfl rfl rfl rfl (fun H hs=> .f ca60 rfl (s1 H hs.base)) ?_
 refine .m ?_
 refine .x .et ?_
 refine .x .et ?_
 refine .e (.al (zz:=fun b11=> ?_))
 refine .e (.st 0 (zz:=?_))
 refine .g ?_
 refine .done (.sr ?_)
 refine .x (.ld 1) ?_
 refine .m ?_
 refine .m ?_
 refine .c rfl rfl rfl rfl (fun H hs=> .f ca68 rfl (s2 H hs.base)) ?_
 refine .m ?_
 refine .x .et ?_
 refine .x .et ?_
 refine .e (.al (zz:=fun b12=> ?_))
 refine .e (.st 0 (zz:=?_))
 refine .g ?_
 refine .done (.seq (.sr ?_))
 refine .x (.ld 1) ?_
 refine .x (.ld 0) ?_
 refine .x (OpV.neA (E:=en) true 4 rfl rfl rfl rfl rfl eg27 (by decide) (link_flat kl) (link_flat kl) (by simp)) ?_
 refine .m ?_
 refine .m ?_
 refine .m ?_
 refine .i ?_ (z:=neq_f (by omega))
 refine .x .pk ?_
 refine .done (.ff rfl (.skip (.seq ?_)))
 refine Tc.db (R':= [(1,.slice B m ac),(2,.int .i64 i),(3,.pointer (some ⟨b3,0,none⟩))]) (L':= [(b3,true,.cells ⟨(ch.valA A lc).cells.toList⟩ 73 (0,0))]) ?_
 refine .r ?_
 refine .x (.ld 0) ?_
 refine .m ?_
 refine .c rfl rfl rfl rfl (fun H hs=> .f ca56 rfl (g1 H hs.base)) ?_
 refine .m ?_
 refine .x .et ?_
 refine .x .et ?_
 refine .g ?_
 refine .g ?_
 refine .done (.sr ?_)
 refine .x (.ld 0) ?_
 refine .m ?_
 refine .c rfl rfl rfl rfl (fun H hs=> .f ca69 rfl (g2 H hs.base)) ?_
 refine .m ?_
 refine .x .et ?_
 refine .x .et ?_
 refine .g ?_
 refine .g ?_
 refine .done (.seq (.seq ?_))
 have hne:∀q:Bool,(!(q==q))=false:=by decide
 refine .r ?_
 refine .m ?_
 refine .m ?_
 refine .x .nb ?_
 rw[hne o]
 refine .m ?_
 refine .m ?_
 refine .m ?_
 refine .i ?_ (z:=neq_f (by omega))
 refine .x .pk ?_
 refine .done (.ff rfl (.skip (.seq ?_)))
 refine Tc.db (R':= [(1,.slice B m ac),(2,.int .i64 i),(3,.pointer (some ⟨b3,0,none⟩))]) (L':= [(b3,true,.cells ⟨(ch.valA A lc).cells.toList⟩ 73 (0,0))]) ?_
 refine .r ?_
 refine .x (.ld 0) ?_
 refine .m ?_
 refine .c rfl rfl rfl rfl (fun H hs=> .f ca58 rfl (k1 H hs.base)) ?_
 refine .m ?_
 refine .x .et ?_
 refine .x .et ?_
 refine .x .et ?_
 refine .x .et ?_
 refine .g ?_
 refine .g ?_
 refine .g ?_
 refine .g ?_
 refine .done (.sr ?_)
 refine .x (.ld 0) ?_
 refine .m ?_
 refine .c rfl rfl rfl rfl (fun H hs=> .f ca70 rfl (k2 H hs.base)) ?_
 refine .m ?_
 refine .x .et ?_
 refine .x .et ?_
 refine .x .et ?_
 refine .x .et ?_
 refine .g ?_
 refine .g ?_
 refine .g ?_
 refine .g ?_
 refine .done (.seq (.sr ?_))
 refine .m ?_
 refine .m ?_
 refine .i ?_ (z:=neq_f (by omega))
 refine .m ?_
 refine .m ?_
 refine .m ?_
 refine .i ?_ (z:=neq_f (by omega))
 refine .x .pk ?_
 refine .m ?_
 refine .m ?_
 refine .m ?_
 refine .x .nb ?_
 rw[hne t]
 refine .x .pk ?_
 refine .m ?_
 refine .m ?_
 refine .m ?_
 refine .i ?_ (z:=neq_f (by omega))
 refine .x .pk ?_
 refine .done (.ff rfl (.skip (.seq ?_)))
 refine Tc.db (R':= [(1,.slice B m ac),(2,.int .i64 i),(3,.pointer (some ⟨b3,0,none⟩))]) (L':= [(b3,true,.cells ⟨(ch.valA A lc).cells.toList⟩ 73 (0,0))]) ?_
 refine .r ?_
 refine .x (.ld 0) ?_
 refine To.callF rfl rfl rfl rfl rfl rfl (by decide) (FnT.f ca54 rfl (SpotsPr_any H ch hm0 A lc hA hG)) (fun v H₂ hv=> ?_)
 obtain⟨hle2,B1,m1,c1,rfl,hm1,hB1⟩:=hv
 refine .m ?_
 refine .x .et ?_
 refine .x .et ?_
 refine .x .et ?_
 refine .g ?_
 refine .g ?_
 refine .g ?_
 refine .done (.sr ?_)
 refine .x (.ld 0) ?_
 refine To.callF rfl rfl rfl rfl rfl rfl (by decide) (FnT.f ca71 rfl (spotsRef_any (Mp Tryz.prog) H₂ ch hm0 A lc (hA.le hle2))) (fun v H₃ hv=> ?_)
 obtain⟨hle3,B2,m2,c2,rfl,hm2,hB2⟩:=hv
 refine .m ?_
 refine .x .et ?_
 refine .x .et ?_
 refine .x .et ?_
 refine .g ?_
 refine .g ?_
 refine .g ?_
 refine .done ?_
 have hle:=View.le_trans hle2 hle3
 have hB1':=hB1.le hle3
 rw[hal]
 refine .sr ?_
 refine .m ?_
 refine .m ?_
 refine .c rfl rfl rfl rfl (fun H hs=> .f ca23 rfl (SameNums_two _ H _ _ (numsL (ch.spotsA.getD [])) m1 m2 c1 c2 hm1 hm2 (by rw[numsLen];omega) (hB1'.le hs.base) (hB2.le hs.base))) ?_
 refine .m ?_
 refine .m ?_
 refine .m ?_
 refine .x .eb ?_
 rw[show(ch.spotsA.isSome==ch.spotsA.isSome)=true from beq_self_eq_true _]
 refine .x .pk ?_
 refine .m ?_
 refine .m ?_
 refine .m ?_
 refine .i ?_ (z:=eql_t (by omega))
 refine .x .pk ?_
 refine .m ?_
 refine .c rfl rfl rfl rfl (fun H hs=> .f ca31 rfl (signalled_c H (glob_le hG (View.le_trans hle hs.base)))) ?_
 refine .x .pk ?_
 refine .g ?_
 refine .done ?_
 exact hR _ _ _ _ rfl hle
end Go.Proofs.YtpdaenfglbgfkaaGreatDoor
end
