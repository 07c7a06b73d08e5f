/-
 Texts of the proofs over baudot/dial.
-/
import Derived.Test.YtldmfjcgjdchcaaGreatDoorJ06
namespace Go.Proofs.YtldmfjcgjdchcaaGreatDoor
open Go.RL Go.Proofs.Tryz
set_option maxRecDepth 10000
set_option maxHeartbeats 16000000
section
variable(M:Md prog)(H:View)
theorem QS(dec:Int->List UInt8)(sb:Nat)(l:List Int)(jj:List Value)(n cap a b pv:Nat)(hn:n=l.length)(hE:SN dec l)(hb:b<=n)(fD:n<=100000000)(hp:a<=pv/\pv<b)(hS:H sb=some (true,.cells ⟨(tA dec l)++jj⟩ 9 (0,0))):
  aA M 264 #[.slice (some ⟨sb,0,none⟩) n cap,.int .i64 (a:Nat),.int .i64 (b:Nat),.int .i64 (pv:Nat)] H (pB dec H sb jj (fun v m=> ∃s:Nat×Bool×List Int,v=.tuple ⟨[.int .i64 (s.1:Nat),.bool s.2.1]⟩/\m=s.2.2/\(iA a b l s.2.2/\Part a b s.1 s.2.2))):=by
 refine aA.enter (vs:= [.slice (some ⟨sb,0,none⟩) n cap,.int .i64 (a:Nat),.int .i64 (b:Nat),.int .i64 (pv:Nat)]) func264 rfl ntmps264 (Nat.le_of_ble_eq_true rfl) (kA.pull hS) fun St c cs hK=> ?_;obtain⟨u,hue⟩:∃u,MA l a pv=u:=⟨_,rfl⟩
 have hu:iA a b l u:=by rw[<-hue];exact iA.swap oM oM oM oM
 have yI:=hu.len;have PJ:=hE.zD hu;have eC:=pG.start (a:=a) (b:=b) (u:=u) oM;have eb:((b:Nat):Int)-1=((b-1:Nat):Int):=by omega
 have y1:=yA (dec:=dec) (m:=l) (j:=jj) (k:=(a:Nat)) (p:=a) rfl oM;have y2:=yA (dec:=dec) (m:=l) (j:=jj) (k:=(pv:Nat)) (p:=pv) rfl oM;have y3:=JA (dec:=dec) (m:=l) (j:=jj) (k:=(a:Nat)) (x:=nA l (pv)) (p:=a) rfl oM;have y4:=JA (dec:=dec) (m:=(l).set (a) (nA l (pv))) (j:=jj) (k:=(pv:Nat)) (x:=nA l (a)) (p:=pv) rfl (by rw[List.length_set];omega);have y5:=IA (dec:=dec) (m:=l) (j:=jj) (k:=(a:Nat)) (p:=a) rfl oM;have y6:=IA (dec:=dec) (m:=(l).set (a) (nA l (pv))) (j:=jj) (k:=(pv:Nat)) (p:=pv) rfl (by rw[List.length_set];omega);refine U6 ?_;refine Tc.dr [13,15] [0] mixed rfl ?_;refine V2 0 ?_;refine .nw 2 ?_;refine .nw 3 ?_;refine V4 4 ?_;refine .nw 8 ?_;refine .nw 9 ?_;refine .nw 10 ?_;refine V2 11 ?_;refine .e 13 0 ?_;refine .nw 14 ?_;refine .e 15 0 ?_;refine .dn ?_;refine U9 ?_;rw[eb];refine Tc.db (R':= [(0,.slice (some ⟨sb,0,none⟩) n cap),(1,.int .i64 (a:Nat)),(10,.int .i64 (a+1:Nat)),(11,.int .i64 (b-1:Nat))]) (L':= [(sb,true,.cells ⟨(tA dec (MA l a pv))++jj⟩ 9 (0,0))]) ?_;rw[hue];refine U ?_;refine pD (fun R' L'=> ∃s,a+1<=s/\pG a b s (b-1) u/\(s<=b-1->¬nA u s<nA u a)/\OB [(0,.slice (some ⟨sb,0,none⟩) n cap),(1,.int .i64 (a:Nat)),(10,.int .i64 (s:Nat)),(11,.int .i64 (b-1:Nat))] R'/\L'= [(sb,true,.cells ⟨(tA dec u)++jj⟩ 9 (0,0))]) ?_ (fun fin=> ?_)
 ·rintro R' _ ⟨i1,i1le,o1,y1,yG,rfl⟩;refine Tc.gC ?_ yG (List.Sublist.refl _);have o1a:=o1.ai;have o1b:=o1.ij;have o1c:=o1.jb;refine U ?_;refine pD (fun R' L'=> ∃s,s<=b-1/\pG a b (i1) s u/\(i1<=s->nA u s<nA u a)/\OB [(0,.slice (some ⟨sb,0,none⟩) n cap),(1,.int .i64 (a:Nat)),(10,.int .i64 (i1:Nat)),(11,.int .i64 (s:Nat))] R'/\L'= [(sb,true,.cells ⟨(tA dec u)++jj⟩ 9 (0,0))]) ?_ (fun fin=> ?_)
  ·rintro R' _ ⟨j1,j1le,o2,y2,yG,rfl⟩;refine Tc.gC ?_ yG (List.Sublist.refl _);have o2a:=o2.ai;have o2b:=o2.ij;have o2c:=o2.jb;have o2d:=o2.aj;by_cases d:j1<i1
   ·refine U9 ?_;have z1:=yA (dec:=dec) (m:=u) (j:=jj) (k:=(j1:Nat)) (p:=j1) rfl oM;have z2:=yA (dec:=dec) (m:=u) (j:=jj) (k:=(a:Nat)) (p:=a) rfl oM;have z3:=JA (dec:=dec) (m:=u) (j:=jj) (k:=(j1:Nat)) (x:=nA u (a)) (p:=j1) rfl oM;have z4:=JA (dec:=dec) (m:=(u).set (j1) (nA u (a))) (j:=jj) (k:=(a:Nat)) (x:=nA u (j1)) (p:=a) rfl (by rw[List.length_set];omega);have z5:=IA (dec:=dec) (m:=u) (j:=jj) (k:=(j1:Nat)) (p:=j1) rfl oM;have z6:=IA (dec:=dec) (m:=(u).set (j1) (nA u (a))) (j:=jj) (k:=(a:Nat)) (p:=a) rfl (by rw[List.length_set];omega);refine Tc.dr [13,15] [0] mixed rfl ?_;refine V2 0 ?_;refine .nw 2 ?_;refine .nw 3 ?_;refine V4 4 ?_;refine .nw 8 ?_;refine .nw 9 ?_;refine .nw 10 ?_;refine V2 11 ?_;refine .e 13 0 ?_;refine .nw 14 ?_;refine .e 15 0 ?_;refine .dn ?_;refine U6 ?_;refine .rt hK func264 results264 [_,_] ?_;exact fun H' hs=> pB.of (dec:=dec) hs (i:=0) rfl ⟨(j1,true,MA u j1 a),rfl,rfl,hu.trans (iA.swap oM oM oM oM),o2.fin oM d⟩
   ·have e2 :((j1:Nat):Int)-1=((j1-1:Nat):Int):=by omega
    have R1:=o2.swap oM oM (y1 oM) (y2 oM);refine UC ?_;have z1:=yA (dec:=dec) (m:=u) (j:=jj) (k:=(i1:Nat)) (p:=i1) rfl oM;have z2:=yA (dec:=dec) (m:=u) (j:=jj) (k:=(j1:Nat)) (p:=j1) rfl oM;have z3:=JA (dec:=dec) (m:=u) (j:=jj) (k:=(i1:Nat)) (x:=nA u (j1)) (p:=i1) rfl oM;have z4:=JA (dec:=dec) (m:=(u).set (i1) (nA u (j1))) (j:=jj) (k:=(j1:Nat)) (x:=nA u (i1)) (p:=j1) rfl (by rw[List.length_set];omega);have z5:=IA (dec:=dec) (m:=u) (j:=jj) (k:=(i1:Nat)) (p:=i1) rfl oM;have z6:=IA (dec:=dec) (m:=(u).set (i1) (nA u (j1))) (j:=jj) (k:=(j1:Nat)) (p:=j1) rfl (by rw[List.length_set];omega);refine Tc.dr [13,15] [0] mixed rfl ?_;refine V2 0 ?_;refine .nw 2 ?_;refine .nw 3 ?_;refine V4 4 ?_;refine .nw 8 ?_;refine .nw 9 ?_;refine .nw 10 ?_;refine V2 11 ?_;refine .e 13 0 ?_;refine .nw 14 ?_;refine .e 15 0 ?_;refine .dn ?_;refine SE ?_;rw[e2];refine U2 ?_;refine Tc.db (Tc.sA (σ:= { s:Nat×Nat×List Int//pG a b s.1 s.2.1 s.2.2/\iA a b l s.2.2 }) (fun s=> ([(0,.slice (some ⟨sb,0,none⟩) n cap),(1,.int .i64 (a:Nat)),(10,.int .i64 (s.1.1:Nat)),(11,.int .i64 (s.1.2.1:Nat))],[(sb,true,.cells ⟨(tA dec s.1.2.2)++jj⟩ 9 (0,0))])) (fun s=> s.1.2.1+1-s.1.1) ?_ ⟨(i1+1,j1-1,MA u i1 j1),R1.2,hu.trans (iA.swap oM oM oM oM)⟩);rintro⟨⟨i,j,w⟩,g1,g2⟩ ih0;simp only at g1 g2;have LY:=g2.len;have PJ:=hE.zD g2;have g1a:=g1.ai;have g1b:=g1.ij;have g1c:=g1.jb;show Tc M St _ _ _ _ [(0,.slice (some ⟨sb,0,none⟩) n cap),(1,.int .i64 (a:Nat)),(10,.int .i64 (i:Nat)),(11,.int .i64 (j:Nat))] [(sb,true,.cells ⟨(tA dec w)++jj⟩ 9 (0,0))] _ _;refine U2 ?_;refine pD (fun R' L'=> ∃s,i<=s/\pG a b s (j) w/\(s<=j->¬nA w s<nA w a)/\OB [(0,.slice (some ⟨sb,0,none⟩) n cap),(1,.int .i64 (a:Nat)),(10,.int .i64 (s:Nat)),(11,.int .i64 (j:Nat))] R'/\L'= [(sb,true,.cells ⟨(tA dec w)++jj⟩ 9 (0,0))]) ?_ (fun fin=> ?_)
    ·rintro R' _ ⟨i2,i2le,p1,x1,yG,rfl⟩;refine Tc.gC ?_ yG (List.Sublist.refl _);have p1a:=p1.ai;have p1b:=p1.ij;have p1c:=p1.jb;refine U ?_;refine pD (fun R' L'=> ∃s,s<=j/\pG a b (i2) s w/\(i2<=s->nA w s<nA w a)/\OB [(0,.slice (some ⟨sb,0,none⟩) n cap),(1,.int .i64 (a:Nat)),(10,.int .i64 (i2:Nat)),(11,.int .i64 (s:Nat))] R'/\L'= [(sb,true,.cells ⟨(tA dec w)++jj⟩ 9 (0,0))]) ?_ (fun fin=> ?_)
     ·rintro R' _ ⟨j2,j2le,p2,x2,yG,rfl⟩;refine Tc.gC ?_ yG (List.Sublist.refl _);have p2a:=p2.ai;have p2b:=p2.ij;have p2c:=p2.jb;have p2d:=p2.aj;by_cases d:j2<i2
      ·refine UC ?_;have z1:=yA (dec:=dec) (m:=w) (j:=jj) (k:=(j2:Nat)) (p:=j2) rfl oM;have z2:=yA (dec:=dec) (m:=w) (j:=jj) (k:=(a:Nat)) (p:=a) rfl oM;have z3:=JA (dec:=dec) (m:=w) (j:=jj) (k:=(j2:Nat)) (x:=nA w (a)) (p:=j2) rfl oM;have z4:=JA (dec:=dec) (m:=(w).set (j2) (nA w (a))) (j:=jj) (k:=(a:Nat)) (x:=nA w (j2)) (p:=a) rfl (by rw[List.length_set];omega);have z5:=IA (dec:=dec) (m:=w) (j:=jj) (k:=(j2:Nat)) (p:=j2) rfl oM;have z6:=IA (dec:=dec) (m:=(w).set (j2) (nA w (a))) (j:=jj) (k:=(a:Nat)) (p:=a) rfl (by rw[List.length_set];omega);refine Tc.dr [13,15] [0] mixed rfl ?_;refine V2 0 ?_;refine .nw 2 ?_;refine .nw 3 ?_;refine V4 4 ?_;refine .nw 8 ?_;refine .nw 9 ?_;refine .nw 10 ?_;refine V2 11 ?_;refine .e 13 0 ?_;refine .nw 14 ?_;refine .e 15 0 ?_;refine .dn ?_;refine U6 ?_;refine .rt hK func264 results264 [_,_] ?_;exact fun H' hs=> pB.of (dec:=dec) hs (i:=0) rfl ⟨(j2,false,MA w j2 a),rfl,rfl,g2.trans (iA.swap oM oM oM oM),p2.fin oM d⟩
      ·have R1:=p2.swap oM oM (x1 oM) (x2 oM);have e2:((j2:Nat):Int)-1=((j2-1:Nat):Int):=by omega
       refine UC ?_;have z1:=yA (dec:=dec) (m:=w) (j:=jj) (k:=(i2:Nat)) (p:=i2) rfl oM;have z2:=yA (dec:=dec) (m:=w) (j:=jj) (k:=(j2:Nat)) (p:=j2) rfl oM;have z3:=JA (dec:=dec) (m:=w) (j:=jj) (k:=(i2:Nat)) (x:=nA w (j2)) (p:=i2) rfl oM;have z4:=JA (dec:=dec) (m:=(w).set (i2) (nA w (j2))) (j:=jj) (k:=(j2:Nat)) (x:=nA w (i2)) (p:=j2) rfl (by rw[List.length_set];omega);have z5:=IA (dec:=dec) (m:=w) (j:=jj) (k:=(i2:Nat)) (p:=i2) rfl oM;have z6:=IA (dec:=dec) (m:=(w).set (i2) (nA w (j2))) (j:=jj) (k:=(j2:Nat)) (p:=j2) rfl (by rw[List.length_set];omega);refine Tc.dr [13,15] [0] mixed rfl ?_;refine V2 0 ?_;refine .nw 2 ?_;refine .nw 3 ?_;refine V4 4 ?_;refine .nw 8 ?_;refine .nw 9 ?_;refine .nw 10 ?_;refine V2 11 ?_;refine .e 13 0 ?_;refine .nw 14 ?_;refine .e 15 0 ?_;refine .dn ?_;refine YD ?_;rw[e2];refine U ?_;exact Tc.db (ih0 ⟨(i2+1,j2-1,MA w i2 j2),R1.2,g2.trans (iA.swap oM oM oM oM)⟩ (by simp only;omega))
     ·refine Tc.db (Tc.sA (σ:= { s:Nat//s<=j/\pG a b (i2) s w }) (fun s=> ([(0,.slice (some ⟨sb,0,none⟩) n cap),(1,.int .i64 (a:Nat)),(10,.int .i64 (i2:Nat)),(11,.int .i64 (s.1:Nat))],[(sb,true,.cells ⟨(tA dec w)++jj⟩ 9 (0,0))])) (fun s=> s.1) ?_ ⟨j,Nat.le_refl _,p1⟩);rintro⟨s,q1,q2⟩ ih;have q3:=q2.ai;have q4:=q2.ij;have q5:=q2.jb;show Tc M St _ _ _ _ [(0,.slice (some ⟨sb,0,none⟩) n cap),(1,.int .i64 (a:Nat)),(10,.int .i64 (i2:Nat)),(11,.int .i64 (s:Nat))] [(sb,true,.cells ⟨(tA dec w)++jj⟩ 9 (0,0))] _ _;by_cases c1:i2<=s
      ·have e1:((s:Nat):Int)-1=((s-1:Nat):Int):=by omega
       have k1:=yA (dec:=dec) (m:=w) (j:=jj) (k:=(s:Nat)) (p:=s) rfl oM;have k2:=yA (dec:=dec) (m:=w) (j:=jj) (k:=(a:Nat)) (p:=a) rfl oM;by_cases c2:nA w s<nA w a
       ·refine U2 ?_;refine Tc.dr [] [] mixed rfl ?_;refine vI 0 ?_;refine .z 12 rfl (xA.tk fun H hs=> nC M H PJ (zA oM) (zA oM) true (decide_eq_true c2)) ?_;refine V2 13 ?_;refine .dn ?_;refine U2 ?_;exact Tc.db (fin [(0,.slice (some ⟨sb,0,none⟩) n cap),(1,.int .i64 (a:Nat)),(10,.int .i64 (i2:Nat)),(11,.int .i64 (s:Nat))] [(sb,true,.cells ⟨(tA dec w)++jj⟩ 9 (0,0))] ⟨s,q1,q2,fun _=> c2,⟨rfl,rfl,rfl,rfl,trivial⟩,rfl⟩)
       ·refine U2 ?_;refine Tc.dr [] [] mixed rfl ?_;refine vI 0 ?_;refine .z 12 rfl (xA.tk fun H hs=> nC M H PJ (zA oM) (zA oM) false (decide_eq_false c2)) ?_;refine V2 13 ?_;refine .dn ?_;refine U8 ?_;rw[e1];refine U ?_;exact Tc.db (ih ⟨s-1,oM,q2.down c1 c2⟩ (by simp only;omega))
      ·refine U2 ?_;refine Tc.dr [] [] mixed rfl ?_;refine V4 0 ?_;refine .nw 4 ?_;refine .nw 5 ?_;refine .nw 6 ?_;refine .nw 7 ?_;refine .nw 8 ?_;refine .nw 9 ?_;refine .nw 10 ?_;refine .nw 11 ?_;refine .nw 12 ?_;refine .nw 13 ?_;refine .nn 14 ?_;refine .dn ?_;refine U2 ?_;exact Tc.db (fin [(0,.slice (some ⟨sb,0,none⟩) n cap),(1,.int .i64 (a:Nat)),(10,.int .i64 (i2:Nat)),(11,.int .i64 (s:Nat))] [(sb,true,.cells ⟨(tA dec w)++jj⟩ 9 (0,0))] ⟨s,q1,q2,fun h=> absurd h c1,⟨rfl,rfl,rfl,rfl,trivial⟩,rfl⟩)
    ·refine Tc.db (Tc.sA (σ:= { s:Nat//i<=s/\pG a b s (j) w }) (fun s=> ([(0,.slice (some ⟨sb,0,none⟩) n cap),(1,.int .i64 (a:Nat)),(10,.int .i64 (s.1:Nat)),(11,.int .i64 (j:Nat))],[(sb,true,.cells ⟨(tA dec w)++jj⟩ 9 (0,0))])) (fun s=> j+1-s.1) ?_ ⟨i,Nat.le_refl _,g1⟩);rintro⟨s,q1,q2⟩ ih;have q3:=q2.ai;have q4:=q2.ij;have q5:=q2.jb;show Tc M St _ _ _ _ [(0,.slice (some ⟨sb,0,none⟩) n cap),(1,.int .i64 (a:Nat)),(10,.int .i64 (s:Nat)),(11,.int .i64 (j:Nat))] [(sb,true,.cells ⟨(tA dec w)++jj⟩ 9 (0,0))] _ _;by_cases c1:s<=j
     ·have k1:=yA (dec:=dec) (m:=w) (j:=jj) (k:=(s:Nat)) (p:=s) rfl oM;have k2:=yA (dec:=dec) (m:=w) (j:=jj) (k:=(a:Nat)) (p:=a) rfl oM;by_cases c2:nA w s<nA w a
      ·refine U2 ?_;refine Tc.dr [] [] mixed rfl ?_;refine vI 0 ?_;refine .z 12 rfl (xA.tk fun H hs=> nC M H PJ (zA oM) (zA oM) true (decide_eq_true c2)) ?_;refine .nn 13 ?_;refine .dn ?_;refine U9 ?_;exact Tc.db (ih ⟨s+1,oM,q2.up c1 c2⟩ (by simp only;omega))
      ·refine U2 ?_;refine Tc.dr [] [] mixed rfl ?_;refine vI 0 ?_;refine .z 12 rfl (xA.tk fun H hs=> nC M H PJ (zA oM) (zA oM) false (decide_eq_false c2)) ?_;refine .nn 13 ?_;refine .dn ?_;refine U2 ?_;exact Tc.db (fin [(0,.slice (some ⟨sb,0,none⟩) n cap),(1,.int .i64 (a:Nat)),(10,.int .i64 (s:Nat)),(11,.int .i64 (j:Nat))] [(sb,true,.cells ⟨(tA dec w)++jj⟩ 9 (0,0))] ⟨s,q1,q2,fun _=> c2,⟨rfl,rfl,rfl,rfl,trivial⟩,rfl⟩)
     ·refine U2 ?_;refine Tc.dr [] [] mixed rfl ?_;refine V4 0 ?_;refine .nw 4 ?_;refine .nw 5 ?_;refine .nw 6 ?_;refine .nw 7 ?_;refine .nw 8 ?_;refine .nw 9 ?_;refine .nw 10 ?_;refine .nw 11 ?_;refine .nw 12 ?_;refine .nn 13 ?_;refine .dn ?_;refine U2 ?_;exact Tc.db (fin [(0,.slice (some ⟨sb,0,none⟩) n cap),(1,.int .i64 (a:Nat)),(10,.int .i64 (s:Nat)),(11,.int .i64 (j:Nat))] [(sb,true,.cells ⟨(tA dec w)++jj⟩ 9 (0,0))] ⟨s,q1,q2,fun h=> absurd h c1,⟨rfl,rfl,rfl,rfl,trivial⟩,rfl⟩)
  ·refine Tc.db (Tc.sA (σ:= { s:Nat//s<=b-1/\pG a b (i1) s u }) (fun s=> ([(0,.slice (some ⟨sb,0,none⟩) n cap),(1,.int .i64 (a:Nat)),(10,.int .i64 (i1:Nat)),(11,.int .i64 (s.1:Nat))],[(sb,true,.cells ⟨(tA dec u)++jj⟩ 9 (0,0))])) (fun s=> s.1) ?_ ⟨b-1,Nat.le_refl _,o1⟩);rintro⟨s,q1,q2⟩ ih;have q3:=q2.ai;have q4:=q2.ij;have q5:=q2.jb;show Tc M St _ _ _ _ [(0,.slice (some ⟨sb,0,none⟩) n cap),(1,.int .i64 (a:Nat)),(10,.int .i64 (i1:Nat)),(11,.int .i64 (s:Nat))] [(sb,true,.cells ⟨(tA dec u)++jj⟩ 9 (0,0))] _ _;by_cases c1:i1<=s
   ·have e1:((s:Nat):Int)-1=((s-1:Nat):Int):=by omega
    have k1:=yA (dec:=dec) (m:=u) (j:=jj) (k:=(s:Nat)) (p:=s) rfl oM;have k2:=yA (dec:=dec) (m:=u) (j:=jj) (k:=(a:Nat)) (p:=a) rfl oM;by_cases c2:nA u s<nA u a
    ·refine U2 ?_;refine Tc.dr [] [] mixed rfl ?_;refine vI 0 ?_;refine .z 12 rfl (xA.tk fun H hs=> nC M H PJ (zA oM) (zA oM) true (decide_eq_true c2)) ?_;refine V2 13 ?_;refine .dn ?_;refine U2 ?_;exact Tc.db (fin [(0,.slice (some ⟨sb,0,none⟩) n cap),(1,.int .i64 (a:Nat)),(10,.int .i64 (i1:Nat)),(11,.int .i64 (s:Nat))] [(sb,true,.cells ⟨(tA dec u)++jj⟩ 9 (0,0))] ⟨s,q1,q2,fun _=> c2,⟨rfl,rfl,rfl,rfl,trivial⟩,rfl⟩)
    ·refine U2 ?_;refine Tc.dr [] [] mixed rfl ?_;refine vI 0 ?_;refine .z 12 rfl (xA.tk fun H hs=> nC M H PJ (zA oM) (zA oM) false (decide_eq_false c2)) ?_;refine V2 13 ?_;refine .dn ?_;refine U8 ?_;rw[e1];refine U ?_;exact Tc.db (ih ⟨s-1,oM,q2.down c1 c2⟩ (by simp only;omega))
   ·refine U2 ?_;refine Tc.dr [] [] mixed rfl ?_;refine V4 0 ?_;refine .nw 4 ?_;refine .nw 5 ?_;refine .nw 6 ?_;refine .nw 7 ?_;refine .nw 8 ?_;refine .nw 9 ?_;refine .nw 10 ?_;refine .nw 11 ?_;refine .nw 12 ?_;refine .nw 13 ?_;refine .nn 14 ?_;refine .dn ?_;refine U2 ?_;exact Tc.db (fin [(0,.slice (some ⟨sb,0,none⟩) n cap),(1,.int .i64 (a:Nat)),(10,.int .i64 (i1:Nat)),(11,.int .i64 (s:Nat))] [(sb,true,.cells ⟨(tA dec u)++jj⟩ 9 (0,0))] ⟨s,q1,q2,fun h=> absurd h c1,⟨rfl,rfl,rfl,rfl,trivial⟩,rfl⟩)
 ·refine Tc.db (Tc.sA (σ:= { s:Nat//a+1<=s/\pG a b s (b-1) u }) (fun s=> ([(0,.slice (some ⟨sb,0,none⟩) n cap),(1,.int .i64 (a:Nat)),(10,.int .i64 (s.1:Nat)),(11,.int .i64 (b-1:Nat))],[(sb,true,.cells ⟨(tA dec u)++jj⟩ 9 (0,0))])) (fun s=> b-1+1-s.1) ?_ ⟨a+1,Nat.le_refl _,eC⟩);rintro⟨s,q1,q2⟩ ih;have q3:=q2.ai;have q4:=q2.ij;have q5:=q2.jb;show Tc M St _ _ _ _ [(0,.slice (some ⟨sb,0,none⟩) n cap),(1,.int .i64 (a:Nat)),(10,.int .i64 (s:Nat)),(11,.int .i64 (b-1:Nat))] [(sb,true,.cells ⟨(tA dec u)++jj⟩ 9 (0,0))] _ _;by_cases c1:s<=b-1
  ·have k1:=yA (dec:=dec) (m:=u) (j:=jj) (k:=(s:Nat)) (p:=s) rfl oM;have k2:=yA (dec:=dec) (m:=u) (j:=jj) (k:=(a:Nat)) (p:=a) rfl oM;by_cases c2:nA u s<nA u a
   ·refine U2 ?_;refine Tc.dr [] [] mixed rfl ?_;refine vI 0 ?_;refine .z 12 rfl (xA.tk fun H hs=> nC M H PJ (zA oM) (zA oM) true (decide_eq_true c2)) ?_;refine .nn 13 ?_;refine .dn ?_;refine U9 ?_;exact Tc.db (ih ⟨s+1,oM,q2.up c1 c2⟩ (by simp only;omega))
   ·refine U2 ?_;refine Tc.dr [] [] mixed rfl ?_;refine vI 0 ?_;refine .z 12 rfl (xA.tk fun H hs=> nC M H PJ (zA oM) (zA oM) false (decide_eq_false c2)) ?_;refine .nn 13 ?_;refine .dn ?_;refine U2 ?_;exact Tc.db (fin [(0,.slice (some ⟨sb,0,none⟩) n cap),(1,.int .i64 (a:Nat)),(10,.int .i64 (s:Nat)),(11,.int .i64 (b-1:Nat))] [(sb,true,.cells ⟨(tA dec u)++jj⟩ 9 (0,0))] ⟨s,q1,q2,fun _=> c2,⟨rfl,rfl,rfl,rfl,trivial⟩,rfl⟩)
  ·refine U2 ?_;refine Tc.dr [] [] mixed rfl ?_;refine V4 0 ?_;refine .nw 4 ?_;refine .nw 5 ?_;refine .nw 6 ?_;refine .nw 7 ?_;refine .nw 8 ?_;refine .nw 9 ?_;refine .nw 10 ?_;refine .nw 11 ?_;refine .nw 12 ?_;refine .nn 13 ?_;refine .dn ?_;refine U2 ?_;exact Tc.db (fin [(0,.slice (some ⟨sb,0,none⟩) n cap),(1,.int .i64 (a:Nat)),(10,.int .i64 (s:Nat)),(11,.int .i64 (b-1:Nat))] [(sb,true,.cells ⟨(tA dec u)++jj⟩ 9 (0,0))] ⟨s,q1,q2,fun h=> absurd h c1,⟨rfl,rfl,rfl,rfl,trivial⟩,rfl⟩)
end
section
variable(M:Md prog)(H:View)
theorem CX (dec:Int->List UInt8)(sb:Nat)(l:List Int)(jj:List Value)(n cap a b:Nat)(hn:n=l.length)(hE:SN dec l)(hb:b<=n)(fD:n<=100000000)(pI:a<b)(hah:XB a b l)(hS:H sb=some (true,.cells ⟨(tA dec l)++jj⟩ 9 (0,0))):
  aA M 261 #[.slice (some ⟨sb,0,none⟩) n cap,.int .i64 (a:Nat),.int .i64 (b:Nat)] H (pB dec H sb jj (fun v m=> ∃t:Bool,v=.bool t/\iA a b l m/\(t=true->TC a b m))):=by
 refine aA.enter (vs:= [.slice (some ⟨sb,0,none⟩) n cap,.int .i64 (a:Nat),.int .i64 (b:Nat)]) func261 rfl ntmps261 (Nat.le_of_ble_eq_true rfl) (kA.pull hS) fun St c cs hK=> ?_;have ea:rA .add .i64 (a:Nat) 1=some (.int .i64 ((a+1:Nat):Int)):=by rw[LB oM oM];rfl
 refine lN ?_;refine Tc.db (Tc.sA (σ:= { s:Nat×Nat×List Int//a+1<=s.1/\s.1<=b/\s.2.1<=5/\iA a b l s.2.2/\TC a s.1 s.2.2 }) (fun s=> ([(0,.slice (some ⟨sb,0,none⟩) n cap),(1,.int .i64 (a:Nat)),(2,.int .i64 (b:Nat)),(7,.int .i64 (s.1.1:Nat)),(8,.int .i64 (s.1.2.1:Nat))],[(sb,true,.cells ⟨(tA dec s.1.2.2)++jj⟩ 9 (0,0))])) (fun s=> 5-s.1.2.1) ?_
  ⟨(a+1,0,l),Nat.le_refl _,by simp only;omega,Nat.zero_le _,iA.refl ..,fun p q h1 h2 h3=> by simp only at h3;omega⟩)
 rintro⟨⟨i0,c0,u⟩,f1,f2,f3,f4,f5⟩ ih;simp only at f1 f2 f3 f4 f5;have yI:=f4.len;have PJ:=hE.zD f4;have hau:=hah.bF f4 oM;show Tc M St _ _ _ _ [(0,.slice (some ⟨sb,0,none⟩) n cap),(1,.int .i64 (a:Nat)),(2,.int .i64 (b:Nat)),(7,.int .i64 (i0:Nat)),(8,.int .i64 (c0:Nat))] [(sb,true,.cells ⟨(tA dec u)++jj⟩ 9 (0,0))] _ _;by_cases d0:c0<5
 ·have ec : rA .add .i64 (c0:Nat) 1=some (.int .i64 ((c0+1:Nat):Int)):=by rw[LB oM oM];rfl
  refine SE ?_;refine Tc.db (Tc.sA (σ:= { i:Nat//a+1<=i/\i<=b/\TC a i u }) (fun i=> ([(0,.slice (some ⟨sb,0,none⟩) n cap),(1,.int .i64 (a:Nat)),(2,.int .i64 (b:Nat)),(7,.int .i64 (i.1:Nat)),(8,.int .i64 (c0:Nat))],[(sb,true,.cells ⟨(tA dec u)++jj⟩ 9 (0,0))])) (fun i=> b-i.1) ?_ ⟨i0,f1,f2,f5⟩);rintro⟨i,g1,g2,g3⟩ ih2;show Tc M St _ _ _ _ [(0,.slice (some ⟨sb,0,none⟩) n cap),(1,.int .i64 (a:Nat)),(2,.int .i64 (b:Nat)),(7,.int .i64 (i:Nat)),(8,.int .i64 (c0:Nat))] [(sb,true,.cells ⟨(tA dec u)++jj⟩ 9 (0,0))] _ _;by_cases d1:i<b
  ·have e1 : ((i : Nat):Int)-1=((i-1:Nat):Int):=by omega
   have k1:=yA (dec:=dec) (m:=u) (j:=jj) (k:=(i:Nat)) (p:=i) rfl oM;have k2:=yA (dec:=dec) (m:=u) (j:=jj) (k:=(i:Nat)-1) (p:=i-1) e1 oM;by_cases d2:nA u i<nA u (i-1)
   ·clear ih2;by_cases d3:b<a+50
    ·refine U2 ?_;refine Tc.dr [] [] mixed rfl ?_;refine Z2 0 ?_;refine .z 13 rfl (xA.tk fun H hs=> nC M H PJ (zA oM) (zA oM) true (decide_eq_true d2)) ?_;refine V2 14 ?_;refine .dn ?_;refine U24 ?_;refine .rt hK func261 results261 [_] ?_;exact fun H' hs=> pB.of (dec:=dec) hs (i:=0) rfl ⟨false,rfl,f4,fun h=> nomatch h⟩
    ·have s1 :=JA (dec:=dec) (m:=u) (j:=jj) (k:=(i:Nat)) (x:=nA u (i-1)) (p:=i) rfl oM;have s2:=JA (dec:=dec) (m:=u.set i (nA u (i-1))) (j:=jj) (k:=(i:Nat)-1) (x:=nA u i) (p:=i-1) e1 (by rw[List.length_set];omega);have l1:=IA (dec:=dec) (m:=u) (j:=jj) (k:=(i:Nat)) (p:=i) rfl oM;have l2:=IA (dec:=dec) (m:=u.set i (nA u (i-1))) (j:=jj) (k:=(i:Nat)-1) (p:=i-1) e1 (by rw[List.length_set];omega);refine U2 ?_;refine Tc.dr [] [] mixed rfl ?_;refine Z2 0 ?_;refine .z 13 rfl (xA.tk fun H hs=> nC M H PJ (zA oM) (zA oM) true (decide_eq_true d2)) ?_;refine V2 14 ?_;refine .dn ?_;refine p9 ?_;refine Tc.dr [15,17] [0] mixed rfl ?_;refine V2 0 ?_;refine .nw 2 ?_;refine .nw 3 ?_;refine .nw 4 ?_;refine V5 5 ?_;refine .nw 10 ?_;refine .nw 11 ?_;refine .nw 12 ?_;refine V2 13 ?_;refine .e 15 0 ?_;refine .nw 16 ?_;refine .e 17 0 ?_;refine .dn ?_;refine Tc.db (R':= [(0,.slice (some ⟨sb,0,none⟩) n cap),(1,.int .i64 (a:Nat)),(2,.int .i64 (b:Nat)),(7,.int .i64 (i:Nat)),(8,.int .i64 (c0:Nat))]) (L':= [(sb,true,.cells ⟨(tA dec (MA u i (i-1)))++jj⟩ 9 (0,0))]) ?_;have hx:iA a b l (MA u i (i-1)):=f4.trans (iA.swap oM oM oM oM);have X4:∀p q,a<=p->p<q->q<=i-1->q≠i-1->nA (MA u i (i-1)) p<=nA (MA u i (i-1)) q:=fun p q h1 h2 h3 h4=> by
      rw[xB oM oM,xB oM oM,if_neg oM,if_neg oM,if_neg oM,if_neg oM];exact g3 p q h1 h2 oM
     generalize MA u i (i-1)=x at hx X4;clear k1 k2 s1 s2 l1 l2 d2 g3 hau PJ yI;have hxl:=hx.len;refine U ?_;refine Tc.via (fun R' L'=> ∃w,iA a b l w/\TC a i w/\OB [(0,.slice (some ⟨sb,0,none⟩) n cap),(1,.int .i64 (a:Nat)),(2,.int .i64 (b:Nat)),(7,.int .i64 (i:Nat)),(8,.int .i64 (c0:Nat))] R'/\L'= [(sb,true,.cells ⟨(tA dec w)++jj⟩ 9 (0,0))]) ?_ (fun fin=> ?_)
     rotate_left
     ·by_cases d4 :a+2<=i
      ·refine lF ?_;rw[e1];refine U ?_;refine Tc.db (Tc.sA (σ:= { s:Nat×List Int//a<=s.1/\s.1<i/\iA a b l s.2/\∀p q,a<=p->p<q->q<=i-1->q≠s.1->nA s.2 p<=nA s.2 q }) (fun s=> ([(0,.slice (some ⟨sb,0,none⟩) n cap),(1,.int .i64 (a:Nat)),(2,.int .i64 (b:Nat)),(7,.int .i64 (i:Nat)),(8,.int .i64 (c0:Nat)),(9,.int .i64 (s.1.1:Nat))],[(sb,true,.cells ⟨(tA dec s.1.2)++jj⟩ 9 (0,0))])) (fun s=> s.1.1) ?_
        ⟨(i-1,x),by simp only;omega,by simp only;omega,hx,X4⟩)
       rintro⟨⟨j,w⟩,p1,p2,p3,p4⟩ ih3;simp only at p1 p2 p3 p4;have LY:=p3.len;have TW:=hE.zD p3;have haw:=hah.bF p3 oM;show Tc M St _ _ _ _ [(0,.slice (some ⟨sb,0,none⟩) n cap),(1,.int .i64 (a:Nat)),(2,.int .i64 (b:Nat)),(7,.int .i64 (i:Nat)),(8,.int .i64 (c0:Nat)),(9,.int .i64 (j:Nat))] [(sb,true,.cells ⟨(tA dec w)++jj⟩ 9 (0,0))] _ _;have aEN:(a<j->¬nA w j<nA w (j-1))->TC a i w:=fun h=> by
        by_cases e:a<j
        ·have:=CL (i:=i-1) p4 e (h e)
         rwa [show i-1+1=i by omega] at this
        ·exact fun p q h1 h2 h3=> p4 p q h1 h2 oM oM
       by_cases d5:1<=j
       ·have e2 :((j:Nat):Int)-1=((j-1:Nat):Int):=by omega
        have y1:=yA (dec:=dec) (m:=w) (j:=jj) (k:=(j:Nat)) (p:=j) rfl oM;have y2:=yA (dec:=dec) (m:=w) (j:=jj) (k:=(j:Nat)-1) (p:=j-1) e2 oM;by_cases d6:nA w j<nA w (j-1)
        ·have haj:a<j:=by
          rcases haw with h|h
          ·omega
          ·by_cases e:a<j
           ·exact e
           ·have e3:j=a:=by omega
            subst e3;have:=h j (Nat.le_refl _) oM;omega
         have t1:=JA (dec:=dec) (m:=w) (j:=jj) (k:=(j:Nat)) (x:=nA w (j-1)) (p:=j) rfl oM;have t2:=JA (dec:=dec) (m:=w.set j (nA w (j-1))) (j:=jj) (k:=(j:Nat)-1) (x:=nA w j) (p:=j-1) e2 (by rw[List.length_set];omega);have m1:=IA (dec:=dec) (m:=w) (j:=jj) (k:=(j:Nat)) (p:=j) rfl oM;have m2:=IA (dec:=dec) (m:=w.set j (nA w (j-1))) (j:=jj) (k:=(j:Nat)-1) (p:=j-1) e2 (by rw[List.length_set];omega);refine SE ?_;refine Tc.dr [] [] mixed rfl ?_;refine V9 0 ?_;refine .z 9 rfl (xA.tk fun H hs=> nC M H TW (zA oM) (zA oM) true (decide_eq_true d6)) ?_;refine .nn 10 ?_;refine .dn ?_;refine U2 ?_;refine Tc.dr [15,17] [0] mixed rfl ?_;refine V2 0 ?_;refine .nw 2 ?_;refine .nw 3 ?_;refine .nw 4 ?_;refine V5 5 ?_;refine .nw 10 ?_;refine .nw 11 ?_;refine .nw 12 ?_;refine V2 13 ?_;refine .e 15 0 ?_;refine .nw 16 ?_;refine .e 17 0 ?_;refine .dn ?_;refine U6 ?_;rw[e2];exact Tc.db (ih3 ⟨(j-1,MA w j (j-1)),by simp only;omega,by simp only;omega,p3.trans (iA.swap oM oM oM oM),kJ oM oM p4 haj d6⟩ (by simp only;omega))
        ·refine SE ?_;refine Tc.dr [] [] mixed rfl ?_;refine V9 0 ?_;refine .z 9 rfl (xA.tk fun H hs=> nC M H TW (zA oM) (zA oM) false (decide_eq_false d6)) ?_;refine .nn 10 ?_;refine .dn ?_;refine U2 ?_;exact fin _ _ ⟨w,p3,aEN fun _=> d6,⟨rfl,rfl,rfl,rfl,rfl,trivial⟩,rfl⟩
       ·repeat (refine Tc.seq ?_)
        refine U6 ?_;exact fin _ _ ⟨w,p3,aEN fun h=> by omega,⟨rfl,rfl,rfl,rfl,rfl,trivial⟩,rfl⟩
      ·have hi:i=a+1:=by omega
       refine U9 ?_;exact fin _ _ ⟨x,hx,fun p q h1 h2 h3=> by omega,⟨rfl,rfl,rfl,rfl,rfl,trivial⟩,rfl⟩
     rintro R' _ ⟨w0,p1,p2,yG,rfl⟩;refine Tc.gC ?_ yG (List.Sublist.refl _);clear yG hx X4 hxl x;have LY:=p1.len;refine Tc.via (fun R' L'=> ∃w,iA a b l w/\TC a i w/\OB [(0,.slice (some ⟨sb,0,none⟩) n cap),(1,.int .i64 (a:Nat)),(2,.int .i64 (b:Nat)),(7,.int .i64 (i:Nat)),(8,.int .i64 (c0:Nat))] R'/\L'= [(sb,true,.cells ⟨(tA dec w)++jj⟩ 9 (0,0))]) ?_ (fun fin=> ?_)
     ·rintro R' _ ⟨w,o1,o2,yG,rfl⟩;refine Tc.gC ?_ yG (List.Sublist.refl _);refine U6 ?_;exact Tc.db (ih ⟨(i,c0+1,w),g1,g2,by simp only;omega,o1,o2⟩ (by simp only;omega))
     ·by_cases d4:i+2<=b
      ·have ei:rA .add .i64 (i:Nat) 1=some (.int .i64 ((i+1:Nat):Int)):=by rw[LB oM oM];rfl
       refine kN ?_;refine Tc.db (Tc.sA (σ:= { s:Nat×List Int//i+1<=s.1/\s.1<=b/\iA a b l s.2/\TC a i s.2 }) (fun s=> ([(0,.slice (some ⟨sb,0,none⟩) n cap),(1,.int .i64 (a:Nat)),(2,.int .i64 (b:Nat)),(7,.int .i64 (i:Nat)),(8,.int .i64 (c0:Nat)),(10,.int .i64 (s.1.1:Nat))],[(sb,true,.cells ⟨(tA dec s.1.2)++jj⟩ 9 (0,0))])) (fun s=> b-s.1.1) ?_
        ⟨(i+1,w0),Nat.le_refl _,by simp only;omega,p1,p2⟩)
       rintro⟨⟨j,w⟩,q1,q2,q3,q4⟩ ih3;simp only at q1 q2 q3 q4;have LY:=q3.len;have TW:=hE.zD q3;show Tc M St _ _ _ _ [(0,.slice (some ⟨sb,0,none⟩) n cap),(1,.int .i64 (a:Nat)),(2,.int .i64 (b:Nat)),(7,.int .i64 (i:Nat)),(8,.int .i64 (c0:Nat)),(10,.int .i64 (j:Nat))] [(sb,true,.cells ⟨(tA dec w)++jj⟩ 9 (0,0))] _ _;by_cases d5:j<b
       ·have e2:((j:Nat):Int)-1=((j-1:Nat):Int):=by omega
        have y1:=yA (dec:=dec) (m:=w) (j:=jj) (k:=(j:Nat)) (p:=j) rfl oM;have y2:=yA (dec:=dec) (m:=w) (j:=jj) (k:=(j:Nat)-1) (p:=j-1) e2 oM;by_cases d6:nA w j<nA w (j-1)
        ·have t1:=JA (dec:=dec) (m:=w) (j:=jj) (k:=(j:Nat)) (x:=nA w (j-1)) (p:=j) rfl oM;have t2:=JA (dec:=dec) (m:=w.set j (nA w (j-1))) (j:=jj) (k:=(j:Nat)-1) (x:=nA w j) (p:=j-1) e2 (by rw[List.length_set];omega);have m1:=IA (dec:=dec) (m:=w) (j:=jj) (k:=(j:Nat)) (p:=j) rfl oM;have m2:=IA (dec:=dec) (m:=w.set j (nA w (j-1))) (j:=jj) (k:=(j:Nat)-1) (p:=j-1) e2 (by rw[List.length_set];omega);have ej:rA .add .i64 (j:Nat) 1=some (.int .i64 ((j+1:Nat):Int)):=by rw[LB oM oM];rfl
         refine ZF ?_;refine Tc.dr [] [] mixed rfl ?_;refine V9 0 ?_;refine .z 9 rfl (xA.tk fun H hs=> nC M H TW (zA oM) (zA oM) true (decide_eq_true d6)) ?_;refine .nn 10 ?_;refine .dn ?_;refine U2 ?_;refine Tc.dr [15,17] [0] mixed rfl ?_;refine V2 0 ?_;refine .nw 2 ?_;refine .nw 3 ?_;refine .nw 4 ?_;refine V5 5 ?_;refine .nw 10 ?_;refine .nw 11 ?_;refine .nw 12 ?_;refine V2 13 ?_;refine .e 15 0 ?_;refine .nw 16 ?_;refine .e 17 0 ?_;refine .dn ?_;refine U6 ?_;exact Tc.db (ih3 ⟨(j+1,MA w j (j-1)),by simp only;omega,by simp only;omega,q3.trans (iA.swap oM oM oM oM),y7 oM oM q4⟩ (by simp only;omega))
        ·refine ZF ?_;refine Tc.dr [] [] mixed rfl ?_;refine V9 0 ?_;refine .z 9 rfl (xA.tk fun H hs=> nC M H TW (zA oM) (zA oM) false (decide_eq_false d6)) ?_;refine .nn 10 ?_;refine .dn ?_;refine U2 ?_;exact fin _ _ ⟨w,q3,q4,⟨rfl,rfl,rfl,rfl,rfl,trivial⟩,rfl⟩
       ·repeat (refine Tc.seq ?_)
        refine U7 ?_;exact fin _ _ ⟨w,q3,q4,⟨rfl,rfl,rfl,rfl,rfl,trivial⟩,rfl⟩
      ·refine U9 ?_;exact fin _ _ ⟨w0,p1,p2,⟨rfl,rfl,rfl,rfl,rfl,trivial⟩,rfl⟩
   ·have ei:rA .add .i64 (i:Nat) 1=some (.int .i64 ((i+1:Nat):Int)):=by rw[LB oM oM];rfl
    refine U2 ?_;refine Tc.dr [] [] mixed rfl ?_;refine Z2 0 ?_;refine .z 13 rfl (xA.tk fun H hs=> nC M H PJ (zA oM) (zA oM) false (decide_eq_false d2)) ?_;refine V2 14 ?_;refine .dn ?_;refine U9 ?_;exact Tc.db (ih2 ⟨i+1,oM,oM,w7 g3 oM d2⟩ (by simp only;omega))
  ·refine U2 ?_;refine Tc.dr [] [] mixed rfl ?_;refine V4 0 ?_;refine .nw 4 ?_;refine .nw 5 ?_;refine .nw 6 ?_;refine .nw 7 ?_;refine .nw 8 ?_;refine .nw 9 ?_;refine .nw 10 ?_;refine .nw 11 ?_;refine .nw 12 ?_;refine .nw 13 ?_;refine .nw 14 ?_;refine .nn 15 ?_;refine .dn ?_;refine lF ?_;refine .rt hK func261 results261 [_] ?_;have hi:i=b:=by omega
   exact fun H' hs=> pB.of (dec:=dec) hs (i:=0) rfl ⟨true,rfl,f4,fun _=> hi▸g3⟩
 ·refine SE ?_;refine .rt hK func261 results261 [_] ?_;exact fun H' hs=> pB.of (dec:=dec) hs (i:=0) rfl ⟨false,rfl,f4,fun h=> nomatch h⟩
end
set_option maxHeartbeats 8000000
theorem jL {x:Nat}(hx:0<x):x<2 ^ bl x/\2 ^ bl x<=2*x:=by
 unfold bl;rw[if_neg oM];have h1:x<2 ^ (Nat.log2 x+1):=Nat.lt_log2_self;have h2:2 ^ Nat.log2 x<=x:=Nat.log2_self_le oM;refine⟨h1,?_⟩;rw[Nat.pow_succ];omega
theorem y9 {x r:Nat}(hx:0<x)(h1:x<2 ^ r)(h2:2 ^ r<=2*x):bl x=r:=by
 obtain⟨h3,h4⟩:=jL hx;have a1:2 ^ bl x<2 ^ (r+1):=by rw[Nat.pow_succ];omega
 have a2:2 ^ r<2 ^ (bl x+1):=by rw[Nat.pow_succ];omega
 have b1:=(Nat.pow_lt_pow_iff_right (a:=2) dE).1 a1;have b2:=(Nat.pow_lt_pow_iff_right (a:=2) dE).1 a2;omega
theorem aU {x k:Nat}(hx:2 ^ k<=x):bl x=k+bl (x/2 ^ k):=by
 have hp:0<2 ^ k:=Nat.pow_pos dE;have hy:0<x/2 ^ k:=Nat.div_pos hx hp;obtain⟨h1,h2⟩:=jL hy;refine y9 oM ?_ ?_
 ·rw[Nat.pow_add];rw[Nat.mul_comm];exact(Nat.div_lt_iff_lt_mul hp).1 h1
 ·rw[Nat.pow_add];have h3:2 ^ k*(x/2 ^ k)<=x:=Nat.mul_div_le x _
  calc 2 ^ k*2 ^ bl (x/2 ^ k)<=2 ^ k*(2*(x/2 ^ k)):=Nat.mul_le_mul_left _ h2
   _=2*(2 ^ k*(x/2 ^ k)):=by rw[Nat.mul_left_comm]
   _<=2*x:=Nat.mul_le_mul_left _ h3
theorem aBC:∀x:Nat,x<256->(UInt8.ofNat (bl x)).toNat=bl x/\bl x<=8:=by decide +kernel
theorem aDR:∀x:Nat,x<256->IntKind.u8.wrap (x:Int)=(x:Int):=by decide +kernel
theorem ZY {x k:Nat}(hk:k<=64):qC .shr .u64 (x:Nat) (k:Nat)=some (.int .u64 ((x/2 ^ k:Nat):Int)):=by
 have e:min ((k:Nat):Int).toNat IntKind.u64.bits=k:=by
  have:IntKind.u64.bits=64:=rfl;rw[this,Int.toNat_natCast];omega
 show some (Value.int .u64 (((x:Nat):Int).fdiv (2 ^ (min ((k:Nat):Int).toNat IntKind.u64.bits))))=_;rw[e]
 congr 2
 have:((2:Int) ^ k)=((2 ^ k:Nat):Int):=by norm_cast
 rw[this,Int.fdiv_eq_ediv_of_nonneg _ (Int.natCast_nonneg _)];rfl
section
variable(M:Md prog)(H:View)
theorem K2(x:Nat)(hx:x<4294967296):aA M 266 #[.int .u64 (x:Nat)] H (fun v H'=> H.le H'/\v=.int .i64 (bl x:Nat)):=by
 refine .en func266 ntmps266 fun St c cs hK=> ?_;refine ZF ?_;refine Tc.via (fun R' L'=> ∃y s:Nat,y<65536/\s<=16/\bl x=s+bl y/\OB [(0,.int .u64 (y:Nat)),(2,.int .i64 (s:Nat))] R') ?_ (fun fin=> ?_)
 rotate_left
 ·by_cases c1:65536<=x
  ·have gM:=ZY (x:=x) (k:=16) dE;refine U9 ?_;refine .x (xA.shift rfl rfl rfl oM gM) ?_;refine U7 ?_;exact fin _ [] ⟨x/2 ^ 16,16,oM,oM,aU (k:=16) c1,⟨rfl,rfl,trivial⟩⟩
  ·refine U7 ?_;exact fin _ [] ⟨x,0,oM,oM,oM,⟨rfl,rfl,trivial⟩⟩
 rintro R' L' ⟨y,s,hy,hs,hb,hR⟩;refine Tc.gC (R':= [(0,.int .u64 (y:Nat)),(2,.int .i64 (s:Nat))]) (L':= []) ?_ hR (List.nil_sublist _);clear hR;refine U ?_;refine Tc.via (fun R' L'=> ∃y s:Nat,y<256/\s<=24/\bl x=s+bl y/\OB [(0,.int .u64 (y:Nat)),(2,.int .i64 (s:Nat))] R') ?_ (fun fin=> ?_)
 rotate_left
 ·by_cases c1:256<=y
  ·have gM:=ZY (x:=y) (k:=8) dE;have e8:rA .add .i64 (s:Nat) 8=some (.int .i64 ((s+8:Nat):Int)):=by rw[LB oM oM];rfl
   refine U9 ?_;refine .x (xA.shift rfl rfl rfl oM gM) ?_;refine U7 ?_;exact fin _ [] ⟨y/2 ^ 8,s+8,oM,oM,by have:=aU (x:=y) (k:=8) c1;omega,⟨rfl,rfl,trivial⟩⟩
  ·refine U7 ?_;exact fin _ [] ⟨y,s,oM,oM,hb,⟨rfl,rfl,trivial⟩⟩
 rintro R' L' ⟨z,r,hz,hr,hb2,hR⟩;refine Tc.gC (R':= [(0,.int .u64 (z:Nat)),(2,.int .i64 (r:Nat))]) (L':= []) ?_ hR (List.nil_sublist _);clear hR;obtain⟨b1,b2⟩:=aBC z hz;have hw:=aDR z hz;have hw2:IntKind.i64.wrap (((UInt8.ofNat (bl z)).toNat:Nat):Int)=((bl z:Nat):Int):=by rw[b1];exact wrap64 oM oM
 have R4:rA .add .i64 (r:Nat) ((bl z:Nat):Int)=some (.int .i64 ((bl x:Nat):Int)):=by rw[LB oM oM,hb2];rfl
 refine U5 ?_;refine .x (xA.FH (c:=UInt8.ofNat (bl z)) rfl rfl rfl (iH ((en.ok _ _ (show en.ty 9=some _ from rfl)).ds.trans rfl)) oM (by
  rw[Int.toNat_natCast];exact(fun(s:ByteArray) (h:∀y:Nat,y<256->s[y]? =some (UInt8.ofNat (bl y)))=> h z hz) _ (by decide +kernel))) ?_
 refine .x (xA.TQ (E:=en) rfl rfl rfl rfl rfl rfl hw2) ?_;refine .i ?_ (z:=R4);refine U2 ?_;refine .rt hK func266 results266 [_] ?_;exact okB
theorem L2(x:Nat)(hx:x<4294967296):aA M 197 #[.int .u64 (x:Nat)] H (fun v H'=> H.le H'/\v=.int .i64 (bl x:Nat)):=by
 refine .en func197 ntmps197 fun St c cs hK=> ?_;refine UC ?_;refine .cl (fun H hs=> K2 M H x hx) ?_;refine U2 ?_;refine .rt hK func197 results197 [_] ?_;exact okB
def DO(H:View)(cb:Nat)(v:Value)(H':View):Prop:=
 (∀b x,b≠cb->H b=some x->H' b=some x)/\∃z:Int,v=.int .u64 z/\H' cb=some (true,.cells ⟨[.int .u64 z]⟩ 388 (0,0))
theorem jW(cb:Nat)(z:Int)(hC:H cb=some (true,.cells ⟨[.int .u64 z]⟩ 388 (0,0))):aA M 303 #[.pointer (some ⟨cb,0,none⟩)] H (DO H cb):=by
 obtain⟨z1,h1⟩:∃z1,qC .shl .u64 z 13=some (.int .u64 z1):=⟨_,rfl⟩
 obtain⟨z2,h2⟩:∃z2,rA .xor .u64 z z1=some (.int .u64 z2):=⟨_,rfl⟩
 obtain⟨z3,h3⟩:∃z3,qC .shr .u64 z2 7=some (.int .u64 z3):=⟨_,rfl⟩
 obtain⟨z4,h4⟩:∃z4,rA .xor .u64 z2 z3=some (.int .u64 z4):=⟨_,rfl⟩
 obtain⟨z5,h5⟩:∃z5,qC .shl .u64 z4 17=some (.int .u64 z5):=⟨_,rfl⟩
 obtain⟨z6,h6⟩:∃z6,rA .xor .u64 z4 z5=some (.int .u64 z6):=⟨_,rfl⟩
 refine aA.enter (vs:= [.pointer (some ⟨cb,0,none⟩)]) func303 rfl ntmps303 (Nat.le_of_ble_eq_true rfl) (kA.pull hC) fun St c cs hK=> ?_;refine U5 ?_;refine Tc.dr [9] [0] mixed rfl ?_;refine V6 0 ?_;refine .q 6 rfl .sf ?_;refine V2 7 ?_;refine .e 9 0 ?_;refine .dn ?_;refine U ?_;refine Tc.dr [9] [0] mixed rfl ?_;refine V6 0 ?_;refine .q 6 rfl .sf ?_;refine V2 7 ?_;refine .e 9 0 ?_;refine .dn ?_;refine U ?_;refine Tc.dr [9] [0] mixed rfl ?_;refine V6 0 ?_;refine .q 6 rfl .sf ?_;refine V2 7 ?_;refine .e 9 0 ?_;refine .dn ?_;refine U7 ?_;refine .rt hK func303 results303 [_] ?_;exact fun H' hs=> ⟨fun b x hb hx=> hs.base b x (by rw[HA hb];exact hx),z6,rfl,hs.get (i:=0) rfl⟩
theorem u64_in {x:Nat}(hx:x<18446744073709551616):IntKind.u64.wrap ((x:Nat):Int)=((x:Nat):Int):=by
 show(((x:Nat):Int)%(2 ^ 64:Int))=_;omega
theorem PM(x:Nat)(hx:0<x/\x<1000000000):aA M 302 #[.int .i64 (x:Nat)] H (fun v H'=> H.le H'/\v=.int .u64 ((2 ^ bl x:Nat):Int)):=by
 obtain⟨h1,h2⟩:=jL hx.1;have hw:IntKind.u64.wrap ((x:Nat):Int)=((x:Nat):Int):=u64_in oM;have hb:bl x<=31:=by
  have h3:2 ^ bl x<2 ^ 32:=by omega
  have:=(Nat.pow_lt_pow_iff_right (a:=2) dE).1 h3;omega
 have hs:qC .shl .u64 1 ((bl x:Nat):Int)=some (.int .u64 ((2 ^ bl x:Nat):Int)):=by
  have e:min ((bl x:Nat):Int).toNat IntKind.u64.bits=bl x:=by
   have:IntKind.u64.bits=64:=rfl;rw[this,Int.toNat_natCast];omega
  show some (Value.int .u64 (IntKind.u64.wrap (1*2 ^ (min ((bl x:Nat):Int).toNat IntKind.u64.bits))))=_;rw[e,Int.one_mul];have:((2:Int) ^ bl x)=((2 ^ bl x:Nat):Int):=by norm_cast
  rw[this,u64_in oM]
 refine .en func302 ntmps302 fun St c cs hK=> ?_;refine U8 ?_;refine .cl (fun H hs=> L2 M H x oM) ?_;refine .x .sf ?_;refine U2 ?_;refine .rt hK func302 results302 [_] ?_;exact okB
end
theorem VR(z:Int)(m:Nat)(h:m<4294967296):∃w:Nat,rA .and .u64 z (m:Nat)=some (.int .u64 (w:Nat))/\w<=m:=by
 have h2:((BitVec.ofInt 64 z) &&& (BitVec.ofInt 64 (m:Int))).toNat<=m:=by
  rw[BitVec.toNat_and];refine Nat.le_trans Nat.and_le_right ?_;rw[BitVec.toNat_ofInt];omega
 refine⟨((BitVec.ofInt 64 z) &&& (BitVec.ofInt 64 (m:Int))).toNat,?_,h2⟩;show some (Value.int .u64 (IntKind.u64.wrap (((BitVec.ofInt 64 z) &&& (BitVec.ofInt 64 (m:Int))).toNat:Int)))=_;rw[u64_in oM]
theorem Or.rnd {M:Md prog}{n:Nat}{H₀:View}{R:Rg}{L:Bl}{o:Oper}{K:Rg->Bl->Prop}{cl:Go.Call}{x:Operand}{fv:Value}{az:List Value}{d:Nat}(i:Nat){cb:Nat}{z:Int}
  (qA:o.op=.call cl) (yB:cl.callee=.value x) (hx:RA R x=some fv) (has:FD R cl.args.toList=some az) (hd:o.dst=some d) (hn:d<n) (hi:L[i]? =some (cb,true,.cells ⟨[.int .u64 z]⟩ 388 (0,0)))
  (hc:∀H,kA H₀ L H->CB M fv az H (DO H cb)) (hk:∀z,K ((d,.int .u64 z)::R) (L.set i (cb,true,.cells ⟨[.int .u64 z]⟩ 388 (0,0)))):Or M n H₀ R L o K:=
 .pN qA yB hx has (Q:=fun H v H'=> DO H cb v H') hc fun H v H' hs ⟨h1,z,h2,h3⟩=>
  ⟨_,_,qG hs hi h1 h3,by rw[hd];exact⟨hn,by rw[h2]⟩,hk z⟩
section
variable(M:Md prog)(H:View)
theorem I3(dec:Int->List UInt8)(sb:Nat)(l:List Int)(jj:List Value)(n cap a b:Nat)(hn:n=l.length)(hb:b<=n)(fD:n<=100000000)(h8:a+8<=b)(hS:H sb=some (true,.cells ⟨(tA dec l)++jj⟩ 9 (0,0))):
  aA M 258 #[.slice (some ⟨sb,0,none⟩) n cap,.int .i64 (a:Nat),.int .i64 (b:Nat)] H (pB dec H sb jj (fun v m=> v=.tuple ⟨[]⟩/\iA a b l m)):=by
 obtain⟨m,hm⟩:∃m,m=b-a:=⟨_,rfl⟩
 obtain⟨w,hw⟩:∃w,w=m/4:=⟨_,rfl⟩
 obtain⟨b3,b5⟩:=jL (x:=m) oM;have G8:=fun(H':View)=> PM M H' m oM;generalize 2 ^ bl m=P at b3 b5 G8;have e0:((b:Nat):Int)-((a:Nat):Int)=((m:Nat):Int):=by omega
 have hwr:IntKind.u64.wrap ((m:Nat):Int)=((m:Nat):Int):=u64_in oM;have hq:rA .quo .i64 ((m:Nat):Int) 4=some (.int .i64 ((w:Nat):Int)):=by
  rw[pH oM oM oM]
  congr 2
  omega
 have e1:((a:Nat):Int)+((w:Nat):Int)*2-1=((a+w*2-1:Nat):Int):=by omega
 have NG:rA .sub .u64 ((P:Nat):Int) 1=some (.int .u64 ((P-1:Nat):Int)):=by
  have h:=u64_in (x:=P-1) oM;have h2:((P:Nat):Int)-1=((P-1:Nat):Int):=by omega
  show some (Value.int .u64 (IntKind.u64.wrap (((P:Nat):Int)-1)))=_;rw[h2,h]
 refine aA.enter (vs:= [.slice (some ⟨sb,0,none⟩) n cap,.int .i64 (a:Nat),.int .i64 (b:Nat)]) func258 rfl ntmps258 (Nat.le_of_ble_eq_true rfl) (kA.pull hS) fun St c cs hK=> ?_;refine U7 ?_;rw[e0];refine UC ?_;refine .al fun b7=> ?_;refine U5 ?_;refine .cl (fun H hs=> G8 H) ?_;refine U7 ?_;refine .i ?_ (z:=RB oM oM);refine U4 ?_;rw[e1];refine U ?_;refine Tc.db (Tc.sA (σ:= { s:Nat×Int×List Int//a+w*2-1<=s.1/\s.1<=a+w*2+2/\iA a b l s.2.2 }) (fun s=> ([(0,.slice (some ⟨sb,0,none⟩) n cap),(1,.int .i64 (a:Nat)),(6,.int .i64 (m:Nat)),(7,.pointer (some ⟨b7,0,none⟩)),(8,.int .u64 (P:Nat)),(9,.int .i64 (s.1.1:Nat))],[(b7,true,.cells ⟨[.int .u64 s.1.2.1]⟩ 388 (0,0)),(sb,true,.cells ⟨(tA dec s.1.2.2)++jj⟩ 9 (0,0))])) (fun s=> a+w*2+2-s.1.1) ?_
  ⟨(a+w*2-1,m,l),Nat.le_refl _,by simp only;omega,iA.refl ..⟩)
 rintro⟨⟨i,z0,u⟩,g1,g2,g3⟩ ih;simp only at g1 g2 g3;have yI:=g3.len;show Tc M St _ _ _ _ [(0,.slice (some ⟨sb,0,none⟩) n cap),(1,.int .i64 (a:Nat)),(6,.int .i64 (m:Nat)),(7,.pointer (some ⟨b7,0,none⟩)),(8,.int .u64 (P:Nat)),(9,.int .i64 (i:Nat))] [(b7,true,.cells ⟨[.int .u64 z0]⟩ 388 (0,0)),(sb,true,.cells ⟨(tA dec u)++jj⟩ 9 (0,0))] _ _;by_cases c1:i<=a+w*2+1
 ·refine U7 ?_;refine .i ?_ (z:=RB oM oM);refine UC ?_;refine .e (Or.rnd (z:=z0) 0 rfl rfl rfl rfl rfl dE rfl (fun H hs=> .h (jW M H b7 z0 (hs.get (i:=0) rfl))) (fun z=> ?_));obtain⟨x,hx,aGu⟩:=VR z (P-1) oM;have XW:IntKind.i64.wrap ((x:Nat):Int)=((x:Nat):Int):=wrap64 oM oM;refine U ?_;refine .i ?_ (z:=NG);refine .i ?_ (z:=hx);refine .x (xA.TQ (E:=en) rfl rfl rfl rfl rfl rfl XW) ?_;refine U4 ?_;by_cases c2:x<m
  ·refine U7 ?_;have z1:=yA (dec:=dec) (m:=u) (j:=jj) (k:=(i:Nat)) (p:=i) rfl oM;have z2:=yA (dec:=dec) (m:=u) (j:=jj) (k:=(a:Nat)+(x:Nat)) (p:=a+x) oM oM;have z3:=JA (dec:=dec) (m:=u) (j:=jj) (k:=(i:Nat)) (x:=nA u (a+x)) (p:=i) rfl oM;have z4:=JA (dec:=dec) (m:=(u).set (i) (nA u (a+x))) (j:=jj) (k:=(a:Nat)+(x:Nat)) (x:=nA u (i)) (p:=a+x) oM (by rw[List.length_set];omega);have z5:=IA (dec:=dec) (m:=u) (j:=jj) (k:=(i:Nat)) (p:=i) rfl oM;have z6:=IA (dec:=dec) (m:=(u).set (i) (nA u (a+x))) (j:=jj) (k:=(a:Nat)+(x:Nat)) (p:=a+x) oM (by rw[List.length_set];omega);refine Tc.dr [17,19] [1] mixed rfl ?_;refine V2 0 ?_;refine .nw 2 ?_;refine .nw 3 ?_;refine .nw 4 ?_;refine .nw 5 ?_;refine V6 6 ?_;refine .nw 12 ?_;refine .nw 13 ?_;refine .nw 14 ?_;refine V2 15 ?_;refine .e 17 1 ?_;refine .nw 18 ?_;refine .e 19 1 ?_;refine .dn ?_;refine U6 ?_;exact Tc.db (ih ⟨(i+1,z,MA u i (a+x)),by simp only;omega,by simp only;omega,g3.trans (iA.swap oM oM oM oM)⟩ (by simp only;omega))
  ·have e5:((x:Nat):Int)-((m:Nat):Int)=((x-m:Nat):Int):=by omega
   refine SE ?_;rw[e5];have z1:=yA (dec:=dec) (m:=u) (j:=jj) (k:=(i:Nat)) (p:=i) rfl oM;have z2:=yA (dec:=dec) (m:=u) (j:=jj) (k:=(a:Nat)+((x-m:Nat):Int)) (p:=a+(x-m)) oM oM;have z3:=JA (dec:=dec) (m:=u) (j:=jj) (k:=(i:Nat)) (x:=nA u (a+(x-m))) (p:=i) rfl oM;have z4:=JA (dec:=dec) (m:=(u).set (i) (nA u (a+(x-m)))) (j:=jj) (k:=(a:Nat)+((x-m:Nat):Int)) (x:=nA u (i)) (p:=a+(x-m)) oM (by rw[List.length_set];omega);have z5:=IA (dec:=dec) (m:=u) (j:=jj) (k:=(i:Nat)) (p:=i) rfl oM;have z6:=IA (dec:=dec) (m:=(u).set (i) (nA u (a+(x-m)))) (j:=jj) (k:=(a:Nat)+((x-m:Nat):Int)) (p:=a+(x-m)) oM (by rw[List.length_set];omega);refine Tc.dr [17,19] [1] mixed rfl ?_;refine V2 0 ?_;refine .nw 2 ?_;refine .nw 3 ?_;refine .nw 4 ?_;refine .nw 5 ?_;refine V6 6 ?_;refine .nw 12 ?_;refine .nw 13 ?_;refine .nw 14 ?_;refine V2 15 ?_;refine .e 17 1 ?_;refine .nw 18 ?_;refine .e 19 1 ?_;refine .dn ?_;refine U6 ?_;exact Tc.db (ih ⟨(i+1,z,MA u i (a+(x-m))),by simp only;omega,by simp only;omega,g3.trans (iA.swap oM oM oM oM)⟩ (by simp only;omega))
 ·refine U7 ?_;refine .i ?_ (z:=RB oM oM);refine U6 ?_;refine .ov hK func258 results258 [] ?_;exact fun H' hs=> pB.of (dec:=dec) hs (i:=1) rfl ⟨rfl,g3⟩
end
end Go.Proofs.YtldmfjcgjdchcaaGreatDoor
