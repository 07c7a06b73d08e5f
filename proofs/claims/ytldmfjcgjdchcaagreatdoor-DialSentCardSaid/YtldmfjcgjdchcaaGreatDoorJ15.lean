/-
 Texts of the proofs over baudot/dial.
-/
import Derived.Test.YtldmfjcgjdchcaaGreatDoorJ14
namespace Go.Proofs.YtldmfjcgjdchcaaGreatDoor.Sg
open Go.RL Go.Proofs.Tryz
set_option maxHeartbeats 8000000
set_option maxRecDepth 10000
structure pG(a b i j:Nat)(u:List Int):Prop where
 ai:a+1<=i
 ij:i<=j+1
 jb:j<b
 aj:a<=j
 lo:∀k,a<k->k<i->nA u k<nA u a
 hi:∀k,j<k->k<b->nA u a<=nA u k
theorem pG.start {a b:Nat}{u:List Int}(h:a<b):pG a b (a+1) (b-1) u:=⟨Nat.le_refl _,oM,oM,oM,fun k h1 h2=> by omega,fun k h1 h2=> by omega⟩
theorem pG.up {a b i j:Nat}{u:List Int}(h:pG a b i j u)(aO:i<=j)(NB:nA u i<nA u a):pG a b (i+1) j u:=
 ⟨by have:=h.ai;omega,oM,h.jb,h.aj,fun k h1 h2=> by
  by_cases e:k=i
  ·rw[e];exact NB
  ·exact h.lo k h1 oM,h.hi⟩
theorem pG.down {a b i j:Nat}{u:List Int}(h:pG a b i j u)(aO:i<=j)(YV:¬nA u j<nA u a):pG a b i (j-1) u:=
 ⟨h.ai,oM,by have:=h.jb;omega,by have:=h.ai;omega,h.lo,fun k h1 h2=> by
  by_cases e:k=j
  ·rw[e];omega
  ·exact h.hi k oM h2⟩
theorem pG.swap {a b i j:Nat}{u:List Int}(h:pG a b i j u)(hl:b<=u.length)(aO:i<=j)(h1:¬nA u i<nA u a)(h2:nA u j<nA u a):i<j/\pG a b (i+1) (j-1) (MA u i j):=by
 have ha:=h.ai;have hb:=h.jb;have uB:i≠j:=by
  rintro rfl;omega
 have hs:=fun q=> xB (l:=u) (p:=i) (q:=j) oM oM q;have h0:nA (MA u i j) a=nA u a:=by rw[hs,if_neg oM,if_neg oM]
 refine⟨oM,⟨oM,oM,oM,oM,fun k h3 h4=> ?_,fun k h3 h4=> ?_⟩⟩
 ·rw[h0,hs,if_neg oM];by_cases e:k=i
  ·rw[if_pos e];exact h2
  ·rw[if_neg e];exact h.lo k h3 oM
 ·rw[h0,hs];by_cases e:k=j
  ·rw[if_pos e];omega
  ·rw[if_neg e,if_neg oM];exact h.hi k oM h4
structure Part(a b j:Nat)(u:List Int):Prop where
 aj:a<=j
 jb:j<b
 lo:∀k,a<=k->k<j->nA u k<nA u j
 hi:∀k,j<k->k<b->nA u j<=nA u k
theorem pG.fin {a b i j:Nat}{u:List Int}(h:pG a b i j u)(hl:b<=u.length)(aO:j<i):Part a b j (MA u j a):=by
 have ha:=h.ai;have hb:=h.jb;have hj:=h.aj;have hi:=h.ij;have hs:=fun q=> xB (l:=u) (p:=j) (q:=a) oM oM q;have h0:nA (MA u j a) j=nA u a:=by
  rw[hs];by_cases e:j=a
  ·rw[if_pos e,e]
  ·rw[if_neg e,if_pos rfl]
 refine⟨hj,hb,fun k h3 h4=> ?_,fun k h3 h4=> ?_⟩
 ·rw[h0,hs];by_cases e:k=a
  ·rw[if_pos e];exact h.lo j oM oM
  ·rw[if_neg e,if_neg oM];exact h.lo k oM oM
 ·rw[h0,hs,if_neg oM,if_neg oM];exact h.hi k h3 h4
theorem Part.sorted {a b j:Nat}{u m w:List Int}(h:Part a b j u)(hl:b<=u.length)(h1:iA a j u m)(s1:TC a j m)(h2:iA (j+1) b m w)(s2:TC (j+1) b w):iA a b u w/\TC a b w:=by
 have hj:=h.aj;have hb:=h.jb;have HM:=h1.len;refine⟨(h1.wide (Nat.le_refl _) oM).trans (h2.wide oM (Nat.le_refl _)),fun p q g1 g2 g3=> ?_⟩;have ej:nA w j=nA u j:=by rw[h2.out j (.inl oM),h1.out j (.inr (Nat.le_refl _))]
 have lo:∀k,a<=k->k<j->nA w k<=nA u j:=fun k c1 c2=> by
  rw[h2.out k (.inl oM)];exact h1.all oM (P:=fun x=> x<=nA u j) (fun k c3 c4=> Int.le_of_lt (h.lo k c3 c4)) k c1 c2
 have hi:∀k,j<k->k<b->nA u j<=nA w k:=fun k c1 c2=>
  h2.all oM (P:=fun x=> nA u j<=x) (fun k c3 c4=> by rw[h1.out k (.inr oM)];exact h.hi k oM c4) k oM c2
 by_cases c1:q<j
 ·rw[h2.out p (.inl oM),h2.out q (.inl oM)];exact s1 p q g1 g2 c1
 ·by_cases c2:q=j
  ·rw[c2,ej];exact lo p g1 oM
  ·by_cases c3:p<j
   ·exact Int.le_trans (lo p g1 c3) (hi q oM g3)
   ·by_cases c4:p=j
    ·rw[c4,ej];exact hi q oM g3
    ·exact s2 p q oM g2 g3
set_option maxHeartbeats 16000000
section
variable(M:Md prog)(H:View)
theorem mV(sb:Nat)(l:List Int)(jj:List Value)(n cap a b pv:Nat)(hn:n=l.length)(hb:b<=n)(fD:n<=1000)(hp:a<=pv/\pv<b)(hS:H sb=some (true,.cells ⟨jA l++jj⟩ 3 (0,0))):
  aA M 280 #[.slice (some ⟨sb,0,none⟩) n cap,.int .i64 (a:Nat),.int .i64 (b:Nat),.int .i64 (pv:Nat)] H (rC H sb jj (fun v m=> ∃s:Nat×Bool×List Int,v=.tuple ⟨[.int .i64 (s.1:Nat),.bool s.2.1]⟩/\m=s.2.2/\(iA a b l s.2.2/\Part a b s.1 s.2.2))):=by
 refine aA.enter (vs:= [.slice (some ⟨sb,0,none⟩) n cap,.int .i64 (a:Nat),.int .i64 (b:Nat),.int .i64 (pv:Nat)]) func280 rfl ntmps280 (Nat.le_of_ble_eq_true rfl) (kA.pull hS) fun St c cs hK=> ?_;obtain⟨u,hue⟩:∃u,MA l a pv=u:=⟨_,rfl⟩
 have hu:iA a b l u:=by rw[<-hue];exact iA.swap oM oM oM oM
 have yI:=hu.len;have eC:=pG.start (a:=a) (b:=b) (u:=u) oM;have eb:((b:Nat):Int)-1=((b-1:Nat):Int):=by omega
 have y1:=KA (m:=l) (j:=jj) (k:=(a:Nat)) (p:=a) rfl oM;have y2:=KA (m:=l) (j:=jj) (k:=(pv:Nat)) (p:=pv) rfl oM;have y3:=jB (m:=l) (j:=jj) (k:=(a:Nat)) (x:=nA l (pv)) (p:=a) rfl oM;have y4:=jB (m:=(l).set (a) (nA l (pv))) (j:=jj) (k:=(pv:Nat)) (x:=nA l (a)) (p:=pv) rfl (by rw[List.length_set];omega);have y5:=iB (m:=l) (j:=jj) (k:=(a:Nat)) (p:=a) rfl oM;have y6:=iB (m:=(l).set (a) (nA l (pv))) (j:=jj) (k:=(pv:Nat)) (p:=pv) rfl (by rw[List.length_set];omega);refine U6 ?_;refine Tc.dr [13,15] [0] mixed rfl ?_;refine V2 0 ?_;refine .nw 2 ?_;refine .nw 3 ?_;refine V4 4 ?_;refine .nw 8 ?_;refine .nw 9 ?_;refine .nw 10 ?_;refine V2 11 ?_;refine .e 13 0 ?_;refine .nw 14 ?_;refine .e 15 0 ?_;refine .dn ?_;refine U9 ?_;rw[eb];refine Tc.db (R':= [(0,.slice (some ⟨sb,0,none⟩) n cap),(1,.int .i64 (a:Nat)),(10,.int .i64 (a+1:Nat)),(11,.int .i64 (b-1:Nat))]) (L':= [(sb,true,.cells ⟨jA (MA l a pv)++jj⟩ 3 (0,0))]) ?_;rw[hue];refine U ?_;refine pD (fun R' L'=> ∃s,a+1<=s/\pG a b s (b-1) u/\(s<=b-1->¬nA u s<nA u a)/\OB [(0,.slice (some ⟨sb,0,none⟩) n cap),(1,.int .i64 (a:Nat)),(10,.int .i64 (s:Nat)),(11,.int .i64 (b-1:Nat))] R'/\L'= [(sb,true,.cells ⟨jA u++jj⟩ 3 (0,0))]) ?_ (fun fin=> ?_)
 ·rintro R' _ ⟨i1,i1le,o1,y1,yG,rfl⟩;refine Tc.gC ?_ yG (List.Sublist.refl _);have o1a:=o1.ai;have o1b:=o1.ij;have o1c:=o1.jb;refine U ?_;refine pD (fun R' L'=> ∃s,s<=b-1/\pG a b (i1) s u/\(i1<=s->nA u s<nA u a)/\OB [(0,.slice (some ⟨sb,0,none⟩) n cap),(1,.int .i64 (a:Nat)),(10,.int .i64 (i1:Nat)),(11,.int .i64 (s:Nat))] R'/\L'= [(sb,true,.cells ⟨jA u++jj⟩ 3 (0,0))]) ?_ (fun fin=> ?_)
  ·rintro R' _ ⟨j1,j1le,o2,y2,yG,rfl⟩;refine Tc.gC ?_ yG (List.Sublist.refl _);have o2a:=o2.ai;have o2b:=o2.ij;have o2c:=o2.jb;have o2d:=o2.aj;by_cases d:j1<i1
   ·refine U9 ?_;have z1:=KA (m:=u) (j:=jj) (k:=(j1:Nat)) (p:=j1) rfl oM;have z2:=KA (m:=u) (j:=jj) (k:=(a:Nat)) (p:=a) rfl oM;have z3:=jB (m:=u) (j:=jj) (k:=(j1:Nat)) (x:=nA u (a)) (p:=j1) rfl oM;have z4:=jB (m:=(u).set (j1) (nA u (a))) (j:=jj) (k:=(a:Nat)) (x:=nA u (j1)) (p:=a) rfl (by rw[List.length_set];omega);have z5:=iB (m:=u) (j:=jj) (k:=(j1:Nat)) (p:=j1) rfl oM;have z6:=iB (m:=(u).set (j1) (nA u (a))) (j:=jj) (k:=(a:Nat)) (p:=a) rfl (by rw[List.length_set];omega);refine Tc.dr [13,15] [0] mixed rfl ?_;refine V2 0 ?_;refine .nw 2 ?_;refine .nw 3 ?_;refine V4 4 ?_;refine .nw 8 ?_;refine .nw 9 ?_;refine .nw 10 ?_;refine V2 11 ?_;refine .e 13 0 ?_;refine .nw 14 ?_;refine .e 15 0 ?_;refine .dn ?_;refine U6 ?_;refine .rt hK func280 results280 [_,_] ?_;exact fun H' hs=> rC.of hs (i:=0) rfl ⟨(j1,true,MA u j1 a),rfl,rfl,hu.trans (iA.swap oM oM oM oM),o2.fin oM d⟩
   ·have e2 :((j1:Nat):Int)-1=((j1-1:Nat):Int):=by omega
    have R1:=o2.swap oM oM (y1 oM) (y2 oM);refine UC ?_;have z1:=KA (m:=u) (j:=jj) (k:=(i1:Nat)) (p:=i1) rfl oM;have z2:=KA (m:=u) (j:=jj) (k:=(j1:Nat)) (p:=j1) rfl oM;have z3:=jB (m:=u) (j:=jj) (k:=(i1:Nat)) (x:=nA u (j1)) (p:=i1) rfl oM;have z4:=jB (m:=(u).set (i1) (nA u (j1))) (j:=jj) (k:=(j1:Nat)) (x:=nA u (i1)) (p:=j1) rfl (by rw[List.length_set];omega);have z5:=iB (m:=u) (j:=jj) (k:=(i1:Nat)) (p:=i1) rfl oM;have z6:=iB (m:=(u).set (i1) (nA u (j1))) (j:=jj) (k:=(j1:Nat)) (p:=j1) rfl (by rw[List.length_set];omega);refine Tc.dr [13,15] [0] mixed rfl ?_;refine V2 0 ?_;refine .nw 2 ?_;refine .nw 3 ?_;refine V4 4 ?_;refine .nw 8 ?_;refine .nw 9 ?_;refine .nw 10 ?_;refine V2 11 ?_;refine .e 13 0 ?_;refine .nw 14 ?_;refine .e 15 0 ?_;refine .dn ?_;refine SE ?_;rw[e2];refine U2 ?_;refine Tc.db (Tc.sA (σ:= { s:Nat×Nat×List Int//pG a b s.1 s.2.1 s.2.2/\iA a b l s.2.2 }) (fun s=> ([(0,.slice (some ⟨sb,0,none⟩) n cap),(1,.int .i64 (a:Nat)),(10,.int .i64 (s.1.1:Nat)),(11,.int .i64 (s.1.2.1:Nat))],[(sb,true,.cells ⟨jA s.1.2.2++jj⟩ 3 (0,0))])) (fun s=> s.1.2.1+1-s.1.1) ?_ ⟨(i1+1,j1-1,MA u i1 j1),R1.2,hu.trans (iA.swap oM oM oM oM)⟩);rintro⟨⟨i,j,w⟩,g1,g2⟩ ih0;simp only at g1 g2;have LY:=g2.len;have g1a:=g1.ai;have g1b:=g1.ij;have g1c:=g1.jb;show Tc M St _ _ _ _ [(0,.slice (some ⟨sb,0,none⟩) n cap),(1,.int .i64 (a:Nat)),(10,.int .i64 (i:Nat)),(11,.int .i64 (j:Nat))] [(sb,true,.cells ⟨jA w++jj⟩ 3 (0,0))] _ _;refine U2 ?_;refine pD (fun R' L'=> ∃s,i<=s/\pG a b s (j) w/\(s<=j->¬nA w s<nA w a)/\OB [(0,.slice (some ⟨sb,0,none⟩) n cap),(1,.int .i64 (a:Nat)),(10,.int .i64 (s:Nat)),(11,.int .i64 (j:Nat))] R'/\L'= [(sb,true,.cells ⟨jA w++jj⟩ 3 (0,0))]) ?_ (fun fin=> ?_)
    ·rintro R' _ ⟨i2,i2le,p1,x1,yG,rfl⟩;refine Tc.gC ?_ yG (List.Sublist.refl _);have p1a:=p1.ai;have p1b:=p1.ij;have p1c:=p1.jb;refine U ?_;refine pD (fun R' L'=> ∃s,s<=j/\pG a b (i2) s w/\(i2<=s->nA w s<nA w a)/\OB [(0,.slice (some ⟨sb,0,none⟩) n cap),(1,.int .i64 (a:Nat)),(10,.int .i64 (i2:Nat)),(11,.int .i64 (s:Nat))] R'/\L'= [(sb,true,.cells ⟨jA w++jj⟩ 3 (0,0))]) ?_ (fun fin=> ?_)
     ·rintro R' _ ⟨j2,j2le,p2,x2,yG,rfl⟩;refine Tc.gC ?_ yG (List.Sublist.refl _);have p2a:=p2.ai;have p2b:=p2.ij;have p2c:=p2.jb;have p2d:=p2.aj;by_cases d:j2<i2
      ·refine UC ?_;have z1:=KA (m:=w) (j:=jj) (k:=(j2:Nat)) (p:=j2) rfl oM;have z2:=KA (m:=w) (j:=jj) (k:=(a:Nat)) (p:=a) rfl oM;have z3:=jB (m:=w) (j:=jj) (k:=(j2:Nat)) (x:=nA w (a)) (p:=j2) rfl oM;have z4:=jB (m:=(w).set (j2) (nA w (a))) (j:=jj) (k:=(a:Nat)) (x:=nA w (j2)) (p:=a) rfl (by rw[List.length_set];omega);have z5:=iB (m:=w) (j:=jj) (k:=(j2:Nat)) (p:=j2) rfl oM;have z6:=iB (m:=(w).set (j2) (nA w (a))) (j:=jj) (k:=(a:Nat)) (p:=a) rfl (by rw[List.length_set];omega);refine Tc.dr [13,15] [0] mixed rfl ?_;refine V2 0 ?_;refine .nw 2 ?_;refine .nw 3 ?_;refine V4 4 ?_;refine .nw 8 ?_;refine .nw 9 ?_;refine .nw 10 ?_;refine V2 11 ?_;refine .e 13 0 ?_;refine .nw 14 ?_;refine .e 15 0 ?_;refine .dn ?_;refine U6 ?_;refine .rt hK func280 results280 [_,_] ?_;exact fun H' hs=> rC.of hs (i:=0) rfl ⟨(j2,false,MA w j2 a),rfl,rfl,g2.trans (iA.swap oM oM oM oM),p2.fin oM d⟩
      ·have R1:=p2.swap oM oM (x1 oM) (x2 oM);have e2:((j2:Nat):Int)-1=((j2-1:Nat):Int):=by omega
       refine UC ?_;have z1:=KA (m:=w) (j:=jj) (k:=(i2:Nat)) (p:=i2) rfl oM;have z2:=KA (m:=w) (j:=jj) (k:=(j2:Nat)) (p:=j2) rfl oM;have z3:=jB (m:=w) (j:=jj) (k:=(i2:Nat)) (x:=nA w (j2)) (p:=i2) rfl oM;have z4:=jB (m:=(w).set (i2) (nA w (j2))) (j:=jj) (k:=(j2:Nat)) (x:=nA w (i2)) (p:=j2) rfl (by rw[List.length_set];omega);have z5:=iB (m:=w) (j:=jj) (k:=(i2:Nat)) (p:=i2) rfl oM;have z6:=iB (m:=(w).set (i2) (nA w (j2))) (j:=jj) (k:=(j2:Nat)) (p:=j2) rfl (by rw[List.length_set];omega);refine Tc.dr [13,15] [0] mixed rfl ?_;refine V2 0 ?_;refine .nw 2 ?_;refine .nw 3 ?_;refine V4 4 ?_;refine .nw 8 ?_;refine .nw 9 ?_;refine .nw 10 ?_;refine V2 11 ?_;refine .e 13 0 ?_;refine .nw 14 ?_;refine .e 15 0 ?_;refine .dn ?_;refine YD ?_;rw[e2];refine U ?_;exact Tc.db (ih0 ⟨(i2+1,j2-1,MA w i2 j2),R1.2,g2.trans (iA.swap oM oM oM oM)⟩ (by simp only;omega))
     ·refine Tc.db (Tc.sA (σ:= { s:Nat//s<=j/\pG a b (i2) s w }) (fun s=> ([(0,.slice (some ⟨sb,0,none⟩) n cap),(1,.int .i64 (a:Nat)),(10,.int .i64 (i2:Nat)),(11,.int .i64 (s.1:Nat))],[(sb,true,.cells ⟨jA w++jj⟩ 3 (0,0))])) (fun s=> s.1) ?_ ⟨j,Nat.le_refl _,p1⟩);rintro⟨s,q1,q2⟩ ih;have q3:=q2.ai;have q4:=q2.ij;have q5:=q2.jb;show Tc M St _ _ _ _ [(0,.slice (some ⟨sb,0,none⟩) n cap),(1,.int .i64 (a:Nat)),(10,.int .i64 (i2:Nat)),(11,.int .i64 (s:Nat))] [(sb,true,.cells ⟨jA w++jj⟩ 3 (0,0))] _ _;by_cases c1:i2<=s
      ·have e1:((s:Nat):Int)-1=((s-1:Nat):Int):=by omega
       have k1:=KA (m:=w) (j:=jj) (k:=(s:Nat)) (p:=s) rfl oM;have k2:=KA (m:=w) (j:=jj) (k:=(a:Nat)) (p:=a) rfl oM;by_cases c2:nA w s<nA w a
       ·refine U2 ?_;refine Tc.dr [] [] mixed rfl ?_;refine vI 0 ?_;refine .z 12 rfl (xA.tk fun H hs=> aA.is (.bool true) (by rewrite [decide_eq_true c2];rfl) (CC M H (nA w s) (nA w a))) ?_;refine V2 13 ?_;refine .dn ?_;refine U2 ?_;exact Tc.db (fin [(0,.slice (some ⟨sb,0,none⟩) n cap),(1,.int .i64 (a:Nat)),(10,.int .i64 (i2:Nat)),(11,.int .i64 (s:Nat))] [(sb,true,.cells ⟨jA w++jj⟩ 3 (0,0))] ⟨s,q1,q2,fun _=> c2,⟨rfl,rfl,rfl,rfl,trivial⟩,rfl⟩)
       ·refine U2 ?_;refine Tc.dr [] [] mixed rfl ?_;refine vI 0 ?_;refine .z 12 rfl (xA.tk fun H hs=> aA.is (.bool false) (by rewrite [decide_eq_false c2];rfl) (CC M H (nA w s) (nA w a))) ?_;refine V2 13 ?_;refine .dn ?_;refine U8 ?_;rw[e1];refine U ?_;exact Tc.db (ih ⟨s-1,oM,q2.down c1 c2⟩ (by simp only;omega))
      ·refine U2 ?_;refine Tc.dr [] [] mixed rfl ?_;refine V4 0 ?_;refine .nw 4 ?_;refine .nw 5 ?_;refine .nw 6 ?_;refine .nw 7 ?_;refine .nw 8 ?_;refine .nw 9 ?_;refine .nw 10 ?_;refine .nw 11 ?_;refine .nw 12 ?_;refine .nw 13 ?_;refine .nn 14 ?_;refine .dn ?_;refine U2 ?_;exact Tc.db (fin [(0,.slice (some ⟨sb,0,none⟩) n cap),(1,.int .i64 (a:Nat)),(10,.int .i64 (i2:Nat)),(11,.int .i64 (s:Nat))] [(sb,true,.cells ⟨jA w++jj⟩ 3 (0,0))] ⟨s,q1,q2,fun h=> absurd h c1,⟨rfl,rfl,rfl,rfl,trivial⟩,rfl⟩)
    ·refine Tc.db (Tc.sA (σ:= { s:Nat//i<=s/\pG a b s (j) w }) (fun s=> ([(0,.slice (some ⟨sb,0,none⟩) n cap),(1,.int .i64 (a:Nat)),(10,.int .i64 (s.1:Nat)),(11,.int .i64 (j:Nat))],[(sb,true,.cells ⟨jA w++jj⟩ 3 (0,0))])) (fun s=> j+1-s.1) ?_ ⟨i,Nat.le_refl _,g1⟩);rintro⟨s,q1,q2⟩ ih;have q3:=q2.ai;have q4:=q2.ij;have q5:=q2.jb;show Tc M St _ _ _ _ [(0,.slice (some ⟨sb,0,none⟩) n cap),(1,.int .i64 (a:Nat)),(10,.int .i64 (s:Nat)),(11,.int .i64 (j:Nat))] [(sb,true,.cells ⟨jA w++jj⟩ 3 (0,0))] _ _;by_cases c1:s<=j
     ·have k1:=KA (m:=w) (j:=jj) (k:=(s:Nat)) (p:=s) rfl oM;have k2:=KA (m:=w) (j:=jj) (k:=(a:Nat)) (p:=a) rfl oM;by_cases c2:nA w s<nA w a
      ·refine U2 ?_;refine Tc.dr [] [] mixed rfl ?_;refine vI 0 ?_;refine .z 12 rfl (xA.tk fun H hs=> aA.is (.bool true) (by rewrite [decide_eq_true c2];rfl) (CC M H (nA w s) (nA w a))) ?_;refine .nn 13 ?_;refine .dn ?_;refine U9 ?_;exact Tc.db (ih ⟨s+1,oM,q2.up c1 c2⟩ (by simp only;omega))
      ·refine U2 ?_;refine Tc.dr [] [] mixed rfl ?_;refine vI 0 ?_;refine .z 12 rfl (xA.tk fun H hs=> aA.is (.bool false) (by rewrite [decide_eq_false c2];rfl) (CC M H (nA w s) (nA w a))) ?_;refine .nn 13 ?_;refine .dn ?_;refine U2 ?_;exact Tc.db (fin [(0,.slice (some ⟨sb,0,none⟩) n cap),(1,.int .i64 (a:Nat)),(10,.int .i64 (s:Nat)),(11,.int .i64 (j:Nat))] [(sb,true,.cells ⟨jA w++jj⟩ 3 (0,0))] ⟨s,q1,q2,fun _=> c2,⟨rfl,rfl,rfl,rfl,trivial⟩,rfl⟩)
     ·refine U2 ?_;refine Tc.dr [] [] mixed rfl ?_;refine V4 0 ?_;refine .nw 4 ?_;refine .nw 5 ?_;refine .nw 6 ?_;refine .nw 7 ?_;refine .nw 8 ?_;refine .nw 9 ?_;refine .nw 10 ?_;refine .nw 11 ?_;refine .nw 12 ?_;refine .nn 13 ?_;refine .dn ?_;refine U2 ?_;exact Tc.db (fin [(0,.slice (some ⟨sb,0,none⟩) n cap),(1,.int .i64 (a:Nat)),(10,.int .i64 (s:Nat)),(11,.int .i64 (j:Nat))] [(sb,true,.cells ⟨jA w++jj⟩ 3 (0,0))] ⟨s,q1,q2,fun h=> absurd h c1,⟨rfl,rfl,rfl,rfl,trivial⟩,rfl⟩)
  ·refine Tc.db (Tc.sA (σ:= { s:Nat//s<=b-1/\pG a b (i1) s u }) (fun s=> ([(0,.slice (some ⟨sb,0,none⟩) n cap),(1,.int .i64 (a:Nat)),(10,.int .i64 (i1:Nat)),(11,.int .i64 (s.1:Nat))],[(sb,true,.cells ⟨jA u++jj⟩ 3 (0,0))])) (fun s=> s.1) ?_ ⟨b-1,Nat.le_refl _,o1⟩);rintro⟨s,q1,q2⟩ ih;have q3:=q2.ai;have q4:=q2.ij;have q5:=q2.jb;show Tc M St _ _ _ _ [(0,.slice (some ⟨sb,0,none⟩) n cap),(1,.int .i64 (a:Nat)),(10,.int .i64 (i1:Nat)),(11,.int .i64 (s:Nat))] [(sb,true,.cells ⟨jA u++jj⟩ 3 (0,0))] _ _;by_cases c1:i1<=s
   ·have e1:((s:Nat):Int)-1=((s-1:Nat):Int):=by omega
    have k1:=KA (m:=u) (j:=jj) (k:=(s:Nat)) (p:=s) rfl oM;have k2:=KA (m:=u) (j:=jj) (k:=(a:Nat)) (p:=a) rfl oM;by_cases c2:nA u s<nA u a
    ·refine U2 ?_;refine Tc.dr [] [] mixed rfl ?_;refine vI 0 ?_;refine .z 12 rfl (xA.tk fun H hs=> aA.is (.bool true) (by rewrite [decide_eq_true c2];rfl) (CC M H (nA u s) (nA u a))) ?_;refine V2 13 ?_;refine .dn ?_;refine U2 ?_;exact Tc.db (fin [(0,.slice (some ⟨sb,0,none⟩) n cap),(1,.int .i64 (a:Nat)),(10,.int .i64 (i1:Nat)),(11,.int .i64 (s:Nat))] [(sb,true,.cells ⟨jA u++jj⟩ 3 (0,0))] ⟨s,q1,q2,fun _=> c2,⟨rfl,rfl,rfl,rfl,trivial⟩,rfl⟩)
    ·refine U2 ?_;refine Tc.dr [] [] mixed rfl ?_;refine vI 0 ?_;refine .z 12 rfl (xA.tk fun H hs=> aA.is (.bool false) (by rewrite [decide_eq_false c2];rfl) (CC M H (nA u s) (nA u a))) ?_;refine V2 13 ?_;refine .dn ?_;refine U8 ?_;rw[e1];refine U ?_;exact Tc.db (ih ⟨s-1,oM,q2.down c1 c2⟩ (by simp only;omega))
   ·refine U2 ?_;refine Tc.dr [] [] mixed rfl ?_;refine V4 0 ?_;refine .nw 4 ?_;refine .nw 5 ?_;refine .nw 6 ?_;refine .nw 7 ?_;refine .nw 8 ?_;refine .nw 9 ?_;refine .nw 10 ?_;refine .nw 11 ?_;refine .nw 12 ?_;refine .nw 13 ?_;refine .nn 14 ?_;refine .dn ?_;refine U2 ?_;exact Tc.db (fin [(0,.slice (some ⟨sb,0,none⟩) n cap),(1,.int .i64 (a:Nat)),(10,.int .i64 (i1:Nat)),(11,.int .i64 (s:Nat))] [(sb,true,.cells ⟨jA u++jj⟩ 3 (0,0))] ⟨s,q1,q2,fun h=> absurd h c1,⟨rfl,rfl,rfl,rfl,trivial⟩,rfl⟩)
 ·refine Tc.db (Tc.sA (σ:= { s:Nat//a+1<=s/\pG a b s (b-1) u }) (fun s=> ([(0,.slice (some ⟨sb,0,none⟩) n cap),(1,.int .i64 (a:Nat)),(10,.int .i64 (s.1:Nat)),(11,.int .i64 (b-1:Nat))],[(sb,true,.cells ⟨jA u++jj⟩ 3 (0,0))])) (fun s=> b-1+1-s.1) ?_ ⟨a+1,Nat.le_refl _,eC⟩);rintro⟨s,q1,q2⟩ ih;have q3:=q2.ai;have q4:=q2.ij;have q5:=q2.jb;show Tc M St _ _ _ _ [(0,.slice (some ⟨sb,0,none⟩) n cap),(1,.int .i64 (a:Nat)),(10,.int .i64 (s:Nat)),(11,.int .i64 (b-1:Nat))] [(sb,true,.cells ⟨jA u++jj⟩ 3 (0,0))] _ _;by_cases c1:s<=b-1
  ·have k1:=KA (m:=u) (j:=jj) (k:=(s:Nat)) (p:=s) rfl oM;have k2:=KA (m:=u) (j:=jj) (k:=(a:Nat)) (p:=a) rfl oM;by_cases c2:nA u s<nA u a
   ·refine U2 ?_;refine Tc.dr [] [] mixed rfl ?_;refine vI 0 ?_;refine .z 12 rfl (xA.tk fun H hs=> aA.is (.bool true) (by rewrite [decide_eq_true c2];rfl) (CC M H (nA u s) (nA u a))) ?_;refine .nn 13 ?_;refine .dn ?_;refine U9 ?_;exact Tc.db (ih ⟨s+1,oM,q2.up c1 c2⟩ (by simp only;omega))
   ·refine U2 ?_;refine Tc.dr [] [] mixed rfl ?_;refine vI 0 ?_;refine .z 12 rfl (xA.tk fun H hs=> aA.is (.bool false) (by rewrite [decide_eq_false c2];rfl) (CC M H (nA u s) (nA u a))) ?_;refine .nn 13 ?_;refine .dn ?_;refine U2 ?_;exact Tc.db (fin [(0,.slice (some ⟨sb,0,none⟩) n cap),(1,.int .i64 (a:Nat)),(10,.int .i64 (s:Nat)),(11,.int .i64 (b-1:Nat))] [(sb,true,.cells ⟨jA u++jj⟩ 3 (0,0))] ⟨s,q1,q2,fun _=> c2,⟨rfl,rfl,rfl,rfl,trivial⟩,rfl⟩)
  ·refine U2 ?_;refine Tc.dr [] [] mixed rfl ?_;refine V4 0 ?_;refine .nw 4 ?_;refine .nw 5 ?_;refine .nw 6 ?_;refine .nw 7 ?_;refine .nw 8 ?_;refine .nw 9 ?_;refine .nw 10 ?_;refine .nw 11 ?_;refine .nw 12 ?_;refine .nn 13 ?_;refine .dn ?_;refine U2 ?_;exact Tc.db (fin [(0,.slice (some ⟨sb,0,none⟩) n cap),(1,.int .i64 (a:Nat)),(10,.int .i64 (s:Nat)),(11,.int .i64 (b-1:Nat))] [(sb,true,.cells ⟨jA u++jj⟩ 3 (0,0))] ⟨s,q1,q2,fun h=> absurd h c1,⟨rfl,rfl,rfl,rfl,trivial⟩,rfl⟩)
end
set_option maxHeartbeats 8000000
theorem r9 {a b:Nat}{l:List Int}(h:∀k,a<k->k<b->nA l (k-1)<=nA l k):TC a b l:=fun p q h1 h2 h3=> by
 induction q using Nat.strongRecOn with
 | ind q ih=>
  by_cases e:p=q-1
  ·rw[e];exact h q oM h3
  ·exact Int.le_trans (ih (q-1) oM oM oM) (h q oM h3)
section
variable(M:Md prog)(H:View)
theorem L0(sb:Nat)(f:Bool)(l:List Int)(jj:List Value)(n cap a b:Nat)(hn:n=l.length)(hb:b<=n)(fD:n<=1000)(pI:a<b)(h50:b<a+50)(hS:H sb=some (f,.cells ⟨jA l++jj⟩ 3 (0,0))):
  aA M 277 #[.slice (some ⟨sb,0,none⟩) n cap,.int .i64 (a:Nat),.int .i64 (b:Nat)] H (fun v H'=> H.le H'/\∃t:Bool,v=.bool t/\(t=true->TC a b l)/\∀y∈([]:Bl),H' y.1=some y.2/\H y.1=none):=by
 refine .en func277 ntmps277 fun St c cs hK=> ?_;refine lF ?_;refine .done (.block (.loop (.seq (.sr ?_))));refine U9 ?_;refine Tc.db (Tc.sA (σ:= { i:Nat//a+1<=i/\i<=b/\∀k,a<k->k<i->nA l (k-1)<=nA l k }) (fun i=> ([(0,.slice (some ⟨sb,0,none⟩) n cap),(1,.int .i64 (a:Nat)),(2,.int .i64 (b:Nat)),(7,.int .i64 (i.1:Nat)),(8,.int .i64 0)],[])) (fun i=> b-i.1) ?_ ⟨a+1,Nat.le_refl _,oM,fun k h1 h2=> by omega⟩);rintro⟨i,g1,g2,g3⟩ ih;show Tc M St _ _ _ _ [(0,.slice (some ⟨sb,0,none⟩) n cap),(1,.int .i64 (a:Nat)),(2,.int .i64 (b:Nat)),(7,.int .i64 (i:Nat)),(8,.int .i64 0)] [] _ _;by_cases c1:i<b
 ·have e1:((i:Nat):Int)-1=((i-1:Nat):Int):=by omega
  have k1:=KA (m:=l) (j:=jj) (k:=(i:Nat)) (p:=i) rfl oM;have k2:=KA (m:=l) (j:=jj) (k:=(i:Nat)-1) (p:=i-1) e1 oM;by_cases c2:nA l i<nA l (i-1)
  ·refine U2 ?_;refine Tc.dr [] [] mixed rfl ?_;refine Z2 0 ?_;refine .z 13 rfl (xA.tk fun H hs=> aA.is (.bool true) (by rewrite [decide_eq_true c2];rfl) (CC M H (nA l i) (nA l (i-1)))) ?_;refine V2 14 ?_;refine .dn ?_;refine U24 ?_;refine .rt hK func277 results277 [_] ?_;exact fun H' hs=> ⟨hs.base,false,rfl,fun h=> (Bool.false_ne_true h).elim,by simp⟩
  ·refine U2 ?_;refine Tc.dr [] [] mixed rfl ?_;refine Z2 0 ?_;refine .z 13 rfl (xA.tk fun H hs=> aA.is (.bool false) (by rewrite [decide_eq_false c2];rfl) (CC M H (nA l i) (nA l (i-1)))) ?_;refine V2 14 ?_;refine .dn ?_;refine U9 ?_;exact Tc.db (ih ⟨i+1,oM,oM,fun k h1 h2=> by
    by_cases e:k=i
    ·rw[e];omega
    ·exact g3 k h1 oM⟩ (by simp only;omega))
 ·refine U2 ?_;refine Tc.dr [] [] mixed rfl ?_;refine V4 0 ?_;refine .nw 4 ?_;refine .nw 5 ?_;refine .nw 6 ?_;refine .nw 7 ?_;refine .nw 8 ?_;refine .nw 9 ?_;refine .nw 10 ?_;refine .nw 11 ?_;refine .nw 12 ?_;refine .nw 13 ?_;refine .nw 14 ?_;refine .nn 15 ?_;refine .dn ?_;refine lF ?_;refine .rt hK func277 results277 [_] ?_;exact fun H' hs=> ⟨hs.base,true,rfl,fun _=> r9 fun k h1 h2=> g3 k h1 oM,by simp⟩
end
def bl(x:Nat):Nat:=if x=0 then 0 else Nat.log2 x+1
theorem NQ:∀x:Nat,x<64->(UInt8.ofNat (bl x)).toNat=bl x/\bl x<=6/\x<2 ^ bl x/\2 ^ bl x<=2*x+1:=by decide +kernel
theorem nT:∀x:Nat,x<64->IntKind.u8.wrap (x:Int)=(x:Int):=by decide +kernel
section
variable(M:Md prog)(H:View)
theorem JR(x:Nat)(hx:x<64):aA M 266 #[.int .u64 (x:Nat)] H (fun v H'=> H.le H'/\v=.int .i64 (bl x:Nat)):=by
 obtain⟨b1,b2,_,_⟩:=NQ x hx;have hw:=nT x hx;have hw2:IntKind.i64.wrap (((UInt8.ofNat (bl x)).toNat:Nat):Int)=((bl x:Nat):Int):=by rw[b1];exact wrap64 oM oM
 have R4:rA .add .i64 0 ((bl x:Nat):Int)=some (.int .i64 ((bl x:Nat):Int)):=by rw[LB oM oM,Int.zero_add]
 refine .en func266 ntmps266 fun St c cs hK=> ?_;refine U33 ?_;refine .x (xA.FH (c:=UInt8.ofNat (bl x)) rfl rfl rfl aDS oM (by
  rw[Int.toNat_natCast];exact(fun(s:ByteArray) (h:∀y:Nat,y<64->s[y]? =some (UInt8.ofNat (bl y)))=> h x hx) _ (by decide +kernel))) ?_
 refine .x (xA.TQ (E:=en) rfl rfl rfl rfl rfl rfl hw2) ?_;refine .i ?_ (z:=R4);refine U2 ?_;refine .rt hK func266 results266 [_] ?_;exact okB
theorem CO(x:Nat)(hx:x<64):aA M 197 #[.int .u64 (x:Nat)] H (fun v H'=> H.le H'/\v=.int .i64 (bl x:Nat)):=by
 refine .en func197 ntmps197 fun St c cs hK=> ?_;refine UC ?_;refine .cl (fun H hs=> JR M H x hx) ?_;refine U2 ?_;refine .rt hK func197 results197 [_] ?_;exact okB
end
def DO(H:View)(cb:Nat)(v:Value)(H':View):Prop:=
 (∀b x,b≠cb->H b=some x->H' b=some x)/\∃z:Int,v=.int .u64 z/\H' cb=some (true,.cells ⟨[.int .u64 z]⟩ 388 (0,0))
section
variable(M:Md prog)(H:View)
theorem jW(cb:Nat)(z:Int)(hC:H cb=some (true,.cells ⟨[.int .u64 z]⟩ 388 (0,0))):aA M 303 #[.pointer (some ⟨cb,0,none⟩)] H (DO H cb):=by
 obtain⟨z1,h1⟩:∃z1,qC .shl .u64 z 13=some (.int .u64 z1):=⟨_,rfl⟩
 obtain⟨z2,h2⟩:∃z2,rA .xor .u64 z z1=some (.int .u64 z2):=⟨_,rfl⟩
 obtain⟨z3,h3⟩:∃z3,qC .shr .u64 z2 7=some (.int .u64 z3):=⟨_,rfl⟩
 obtain⟨z4,h4⟩:∃z4,rA .xor .u64 z2 z3=some (.int .u64 z4):=⟨_,rfl⟩
 obtain⟨z5,h5⟩:∃z5,qC .shl .u64 z4 17=some (.int .u64 z5):=⟨_,rfl⟩
 obtain⟨z6,h6⟩:∃z6,rA .xor .u64 z4 z5=some (.int .u64 z6):=⟨_,rfl⟩
 refine aA.enter (vs:= [.pointer (some ⟨cb,0,none⟩)]) func303 rfl ntmps303 (Nat.le_of_ble_eq_true rfl) (kA.pull hC) fun St c cs hK=> ?_;refine U5 ?_;refine Tc.dr [9] [0] mixed rfl ?_;refine V6 0 ?_;refine .q 6 rfl .sf ?_;refine V2 7 ?_;refine .e 9 0 ?_;refine .dn ?_;refine U ?_;refine Tc.dr [9] [0] mixed rfl ?_;refine V6 0 ?_;refine .q 6 rfl .sf ?_;refine V2 7 ?_;refine .e 9 0 ?_;refine .dn ?_;refine U ?_;refine Tc.dr [9] [0] mixed rfl ?_;refine V6 0 ?_;refine .q 6 rfl .sf ?_;refine V2 7 ?_;refine .e 9 0 ?_;refine .dn ?_;refine U7 ?_;refine .rt hK func303 results303 [_] ?_;exact fun H' hs=> ⟨fun b x hb hx=> hs.base b x (by rw[HA hb];exact hx),z6,rfl,hs.get (i:=0) rfl⟩
theorem PM(x:Nat)(hx:x<64):aA M 302 #[.int .i64 (x:Nat)] H (fun v H'=> H.le H'/\v=.int .u64 ((2 ^ bl x:Nat):Int)):=by
 have hw:IntKind.u64.wrap ((x:Nat):Int)=((x:Nat):Int):=(by decide +kernel:∀y:Nat,y<64->IntKind.u64.wrap (y:Int)=(y:Int)) x hx;have hs:qC .shl .u64 1 ((bl x:Nat):Int)=some (.int .u64 ((2 ^ bl x:Nat):Int)):=by
  have h:=(by decide +kernel:∀y:Nat,y<64->IntKind.u64.wrap (1*2 ^ (min ((bl y:Nat):Int).toNat IntKind.u64.bits))=((2 ^ bl y:Nat):Int)) x hx;show some (Value.int .u64 (IntKind.u64.wrap (1*2 ^ (min ((bl x:Nat):Int).toNat IntKind.u64.bits))))=_;rw[h]
 refine .en func302 ntmps302 fun St c cs hK=> ?_;refine U8 ?_;refine .cl (fun H hs=> CO M H x hx) ?_;refine .x .sf ?_;refine U2 ?_;refine .rt hK func302 results302 [_] ?_;exact okB
end
theorem cK:∀y:Nat,y<128->IntKind.u64.wrap (y:Int)=(y:Int):=by decide +kernel
theorem aBD:∀x:Nat,x<64->0<x->2 ^ bl x<=2*x:=by decide +kernel
theorem VR(z:Int)(m:Nat)(h:m<64):∃w:Nat,rA .and .u64 z (m:Nat)=some (.int .u64 (w:Nat))/\w<=m:=by
 have h2:((BitVec.ofInt 64 z) &&& (BitVec.ofInt 64 (m:Int))).toNat<=m:=by
  rw[BitVec.toNat_and];refine Nat.le_trans Nat.and_le_right ?_;rw[BitVec.toNat_ofInt];omega
 refine⟨((BitVec.ofInt 64 z) &&& (BitVec.ofInt 64 (m:Int))).toNat,?_,h2⟩;show some (Value.int .u64 (IntKind.u64.wrap (((BitVec.ofInt 64 z) &&& (BitVec.ofInt 64 (m:Int))).toNat:Int)))=_;rw[cK _ oM]
theorem Or.rnd {M:Md prog}{n:Nat}{H₀:View}{R:Rg}{L:Bl}{o:Oper}{K:Rg->Bl->Prop}{cl:Go.Call}{x:Operand}{fv:Value}{az:List Value}{d:Nat}(i:Nat){cb:Nat}{z:Int}
  (qA:o.op=.call cl) (yB:cl.callee=.value x) (hx:RA R x=some fv) (has:FD R cl.args.toList=some az) (hd:o.dst=some d) (hn:d<n) (hi:L[i]? =some (cb,true,.cells ⟨[.int .u64 z]⟩ 388 (0,0)))
  (hc:∀H,kA H₀ L H->CB M fv az H (DO H cb)) (hk:∀z,K ((d,.int .u64 z)::R) (L.set i (cb,true,.cells ⟨[.int .u64 z]⟩ 388 (0,0)))):Or M n H₀ R L o K:=
 .pN qA yB hx has (Q:=fun H v H'=> DO H cb v H') hc fun H v H' hs ⟨h1,z,h2,h3⟩=>
  ⟨_,_,hs.bF hi h1 h3,by rw[hd];exact⟨hn,by rw[h2]⟩,hk z⟩
section
variable(M:Md prog)(H:View)
theorem A9(sb:Nat)(l:List Int)(jj:List Value)(n cap a b:Nat)(hn:n=l.length)(hb:b<=n)(fD:n<=1000)(h8:a+8<=b)(h50:b<a+50)(hS:H sb=some (true,.cells ⟨jA l++jj⟩ 3 (0,0))):
  aA M 274 #[.slice (some ⟨sb,0,none⟩) n cap,.int .i64 (a:Nat),.int .i64 (b:Nat)] H (rC H sb jj (fun v m=> v=.tuple ⟨[]⟩/\iA a b l m)):=by
 obtain⟨m,hm⟩:∃m,m=b-a:=⟨_,rfl⟩
 obtain⟨w,hw⟩:∃w,w=m/4:=⟨_,rfl⟩
 obtain⟨_,_,b3,b4⟩:=NQ m oM;obtain⟨P,hP⟩:∃P,2 ^ bl m=P:=⟨_,rfl⟩
 rw[hP] at b3 b4;have b5:=aBD m oM oM;rw[hP] at b5;have QJ:P<=64:=by
  have h:=(NQ m oM).2.1;have h2:2 ^ bl m<=2 ^ 6:=Nat.pow_le_pow_right dE h;omega
 have e0:((b:Nat):Int)-((a:Nat):Int)=((m:Nat):Int):=by omega
 have hwr:IntKind.u64.wrap ((m:Nat):Int)=((m:Nat):Int):=cK m oM;have hq:rA .quo .i64 ((m:Nat):Int) 4=some (.int .i64 ((w:Nat):Int)):=by
  rw[pH oM oM oM]
  congr 2
  omega
 have e1:((a:Nat):Int)+((w:Nat):Int)*2-1=((a+w*2-1:Nat):Int):=by omega
 have NG:rA .sub .u64 ((P:Nat):Int) 1=some (.int .u64 ((P-1:Nat):Int)):=by
  have h:=cK (P-1) oM;have h2:((P:Nat):Int)-1=((P-1:Nat):Int):=by omega
  show some (Value.int .u64 (IntKind.u64.wrap (((P:Nat):Int)-1)))=_;rw[h2,h]
 refine aA.enter (vs:= [.slice (some ⟨sb,0,none⟩) n cap,.int .i64 (a:Nat),.int .i64 (b:Nat)]) func274 rfl ntmps274 (Nat.le_of_ble_eq_true rfl) (kA.pull hS) fun St c cs hK=> ?_;refine U7 ?_;rw[e0];refine UC ?_;refine .al fun b7=> ?_;refine U5 ?_;refine .cl (fun H hs=> aA.is (.int .u64 (P:Nat)) (by rewrite [hP];rfl) (PM M H m oM)) ?_;refine U7 ?_;refine .i ?_ (z:=RB oM oM);refine U4 ?_;rw[e1];refine U ?_;refine Tc.db (Tc.sA (σ:= { s:Nat×Int×List Int//a+w*2-1<=s.1/\s.1<=a+w*2+2/\iA a b l s.2.2 }) (fun s=> ([(0,.slice (some ⟨sb,0,none⟩) n cap),(1,.int .i64 (a:Nat)),(6,.int .i64 (m:Nat)),(7,.pointer (some ⟨b7,0,none⟩)),(8,.int .u64 (P:Nat)),(9,.int .i64 (s.1.1:Nat))],[(b7,true,.cells ⟨[.int .u64 s.1.2.1]⟩ 388 (0,0)),(sb,true,.cells ⟨jA s.1.2.2++jj⟩ 3 (0,0))])) (fun s=> a+w*2+2-s.1.1) ?_
  ⟨(a+w*2-1,m,l),Nat.le_refl _,by simp only;omega,iA.refl ..⟩)
 rintro⟨⟨i,z0,u⟩,g1,g2,g3⟩ ih;simp only at g1 g2 g3;have yI:=g3.len;show Tc M St _ _ _ _ [(0,.slice (some ⟨sb,0,none⟩) n cap),(1,.int .i64 (a:Nat)),(6,.int .i64 (m:Nat)),(7,.pointer (some ⟨b7,0,none⟩)),(8,.int .u64 (P:Nat)),(9,.int .i64 (i:Nat))] [(b7,true,.cells ⟨[.int .u64 z0]⟩ 388 (0,0)),(sb,true,.cells ⟨jA u++jj⟩ 3 (0,0))] _ _;by_cases c1:i<=a+w*2+1
 ·refine U7 ?_;refine .i ?_ (z:=RB oM oM);refine UC ?_;refine .e (Or.rnd (z:=z0) 0 rfl rfl rfl rfl rfl dE rfl (fun H hs=> .h (jW M H b7 z0 (hs.get (i:=0) rfl))) (fun z=> ?_));obtain⟨x,hx,aGu⟩:=VR z (P-1) oM;have XW:IntKind.i64.wrap ((x:Nat):Int)=((x:Nat):Int):=wrap64 oM oM;refine U ?_;refine .i ?_ (z:=NG);refine .i ?_ (z:=hx);refine .x (xA.TQ (E:=en) rfl rfl rfl rfl rfl rfl XW) ?_;refine U4 ?_;by_cases c2:x<m
  ·refine U7 ?_;have z1:=KA (m:=u) (j:=jj) (k:=(i:Nat)) (p:=i) rfl oM;have z2:=KA (m:=u) (j:=jj) (k:=(a:Nat)+(x:Nat)) (p:=a+x) oM oM;have z3:=jB (m:=u) (j:=jj) (k:=(i:Nat)) (x:=nA u (a+x)) (p:=i) rfl oM;have z4:=jB (m:=(u).set (i) (nA u (a+x))) (j:=jj) (k:=(a:Nat)+(x:Nat)) (x:=nA u (i)) (p:=a+x) oM (by rw[List.length_set];omega);have z5:=iB (m:=u) (j:=jj) (k:=(i:Nat)) (p:=i) rfl oM;have z6:=iB (m:=(u).set (i) (nA u (a+x))) (j:=jj) (k:=(a:Nat)+(x:Nat)) (p:=a+x) oM (by rw[List.length_set];omega);refine Tc.dr [17,19] [1] mixed rfl ?_;refine V2 0 ?_;refine .nw 2 ?_;refine .nw 3 ?_;refine .nw 4 ?_;refine .nw 5 ?_;refine V6 6 ?_;refine .nw 12 ?_;refine .nw 13 ?_;refine .nw 14 ?_;refine V2 15 ?_;refine .e 17 1 ?_;refine .nw 18 ?_;refine .e 19 1 ?_;refine .dn ?_;refine U6 ?_;exact Tc.db (ih ⟨(i+1,z,MA u i (a+x)),by simp only;omega,by simp only;omega,g3.trans (iA.swap oM oM oM oM)⟩ (by simp only;omega))
  ·have e5:((x:Nat):Int)-((m:Nat):Int)=((x-m:Nat):Int):=by omega
   refine SE ?_;rw[e5];have z1:=KA (m:=u) (j:=jj) (k:=(i:Nat)) (p:=i) rfl oM;have z2:=KA (m:=u) (j:=jj) (k:=(a:Nat)+((x-m:Nat):Int)) (p:=a+(x-m)) oM oM;have z3:=jB (m:=u) (j:=jj) (k:=(i:Nat)) (x:=nA u (a+(x-m))) (p:=i) rfl oM;have z4:=jB (m:=(u).set (i) (nA u (a+(x-m)))) (j:=jj) (k:=(a:Nat)+((x-m:Nat):Int)) (x:=nA u (i)) (p:=a+(x-m)) oM (by rw[List.length_set];omega);have z5:=iB (m:=u) (j:=jj) (k:=(i:Nat)) (p:=i) rfl oM;have z6:=iB (m:=(u).set (i) (nA u (a+(x-m)))) (j:=jj) (k:=(a:Nat)+((x-m:Nat):Int)) (p:=a+(x-m)) oM (by rw[List.length_set];omega);refine Tc.dr [17,19] [1] mixed rfl ?_;refine V2 0 ?_;refine .nw 2 ?_;refine .nw 3 ?_;refine .nw 4 ?_;refine .nw 5 ?_;refine V6 6 ?_;refine .nw 12 ?_;refine .nw 13 ?_;refine .nw 14 ?_;refine V2 15 ?_;refine .e 17 1 ?_;refine .nw 18 ?_;refine .e 19 1 ?_;refine .dn ?_;refine U6 ?_;exact Tc.db (ih ⟨(i+1,z,MA u i (a+(x-m))),by simp only;omega,by simp only;omega,g3.trans (iA.swap oM oM oM oM)⟩ (by simp only;omega))
 ·refine U7 ?_;refine .i ?_ (z:=RB oM oM);refine U6 ?_;refine .ov hK func274 results274 [] ?_;exact fun H' hs=> rC.of hs (i:=1) rfl ⟨rfl,g3⟩
end
def Diff(l:List Int):Prop:=∀x,l.count x<=1
theorem iA.diff {a b:Nat}{l m:List Int}(h:iA a b l m)(hd:Diff l):Diff m:=fun x=> by rw[h.cnt];exact hd x
theorem Diff.ne {l:List Int}(h:Diff l){i k:Nat}(hik:i<k)(hk:k<l.length):nA l i≠nA l k:=fun e=> by
 have h1:=h (nA l k);have h2:l=l.take k++l.drop k:=(List.take_append_drop k l).symm;have h3:=congrArg (List.count (nA l k)) h2;rw[List.count_append] at h3;have h4:nA l k∈l.take k:=by
  rw[<-e,List.mem_iff_getElem?];exact⟨i,by rw[List.getElem?_take_of_lt hik];exact KD oM⟩
 have h5:nA l k∈l.drop k:=by
  rw[List.mem_iff_getElem?];exact⟨0,by rw[List.getElem?_drop,Nat.add_zero];exact KD hk⟩
 have h6:=List.count_pos_iff.2 h4;have h7:=List.count_pos_iff.2 h5;omega
theorem Part.aT {a b j:Nat}{u m w:List Int}(h:Part a b j u)(hl:b<=u.length)(h1:iA (j+1) b u m)(s1:TC (j+1) b m)(h2:iA a j m w)(s2:TC a j w):iA a b u w/\TC a b w:=by
 have hj:=h.aj;have hb:=h.jb;have HM:=h1.len;refine⟨(h1.wide oM (Nat.le_refl _)).trans (h2.wide (Nat.le_refl _) oM),fun p q g1 g2 g3=> ?_⟩;have ej:nA w j=nA u j:=by rw[h2.out j (.inr (Nat.le_refl _)),h1.out j (.inl oM)]
 have lo:∀k,a<=k->k<j->nA w k<=nA u j:=fun k c1 c2=>
  h2.all oM (P:=fun x=> x<=nA u j) (fun k c3 c4=> by rw[h1.out k (.inl oM)];exact Int.le_of_lt (h.lo k c3 c4)) k c1 c2
 have hi:∀k,j<k->k<b->nA u j<=nA w k:=fun k c1 c2=> by
  rw[h2.out k (.inr oM)];exact h1.all oM (P:=fun x=> nA u j<=x) (fun k c3 c4=> h.hi k oM c4) k oM c2
 by_cases c1:q<j
 ·exact s2 p q g1 g2 c1
 ·by_cases c2:q=j
  ·rw[c2,ej];exact lo p g1 oM
  ·by_cases c3:p<j
   ·exact Int.le_trans (lo p g1 c3) (hi q oM g3)
   ·by_cases c4:p=j
    ·rw[c4,ej];exact hi q oM g3
    ·rw[h2.out p (.inr oM),h2.out q (.inr oM)];exact s1 p q oM g2 g3
set_option maxHeartbeats 16000000
def XB(a b:Nat)(u:List Int):Prop:=a=0\/∀i,a<=i->i<b->nA u (a-1)<nA u i
def oE(l:List Int)(a b a' b':Nat)(u:List Int):Prop:=∀m,iA a' b' u m->TC a' b' m->iA a b l m/\TC a b m
theorem oE.bF {l u w:List Int}{a b a' b':Nat}(h:oE l a b a' b' u)(k:iA a' b' u w):oE l a b a' b' w:=fun m h1 h2=> h m (k.trans h1) h2
theorem XB.bF {a b:Nat}{u w:List Int}(h:XB a b u)(k:iA a b u w)(hb:b<=u.length)(_:a<=b):XB a b w:=by
 rcases h with h|h
 ·exact .inl h
 ·by_cases h0:a=0
  ·exact .inl h0
  ·refine .inr fun i h1 h2=> ?_;rw[k.out (a-1) (.inl oM)];exact k.all hb (P:=fun x=> nA u (a-1)<x) h i h1 h2
theorem XB.left {a b c:Nat}{u:List Int}(h:XB a b u)(k:c<=b):XB a c u:=by
 rcases h with h|h
 ·exact .inl h
 ·exact .inr fun i h1 h2=> h i h1 oM
theorem XB.keep {a c b:Nat}{u w:List Int}(h:XB a c u)(k:iA (c+1) b u w):XB a c w:=by
 rcases h with h|h
 ·exact .inl h
 ·refine .inr fun i h1 h2=> ?_;rw[k.out (a-1) (.inl oM),k.out i (.inl oM)];exact h i h1 h2
theorem oE.right {l u x:List Int}{a b a' b' c:Nat}(h:oE l a b a' b' u)(k:Part a' b' c u)(hl:b'<=u.length)(h1:iA a' c u x)(s1:TC a' c x):oE l a b (c+1) b' x:=fun m h2 s2=> by
 obtain⟨g1,g2⟩:=k.sorted hl h1 s1 h2 s2;exact h m g1 g2
theorem oE.left {l u x:List Int}{a b a' b' c:Nat}(h:oE l a b a' b' u)(k:Part a' b' c u)(hl:b'<=u.length)(h1:iA (c+1) b' u x)(s1:TC (c+1) b' x):oE l a b a' c x:=fun m h2 s2=> by
 obtain⟨g1,g2⟩:=k.aT hl h1 s1 h2 s2;exact h m g1 g2
theorem Part.ahead {a b c:Nat}{u x:List Int}(k:Part a b c u)(h1:iA a c u x)(hd:Diff x)(hl:b<=x.length):XB (c+1) b x:=.inr fun i g1 g2=> by
 have e:c+1-1=c:=by omega
 rw[e];have h2:=k.hi i oM g2;have h3:=hd.ne (i:=c) (k:=i) oM oM;rw[<-h1.out c (.inr (Nat.le_refl _)),<-h1.out i (.inr oM)] at h2;omega
section
variable(M:Md prog)
theorem aE1 (sb:Nat)(jj:List Value)(n cap:Nat)(h40:n<=40):∀(d:Nat) (H:View) (l:List Int) (a b lim:Nat),b-a<d->n=l.length->a<=b->b<=n->lim<=100->Diff l->XB a b l->H sb=some (true,.cells ⟨jA l++jj⟩ 3 (0,0))-> 
  aA M 222 #[.slice (some ⟨sb,0,none⟩) n cap,.int .i64 (a:Nat),.int .i64 (b:Nat),.int .i64 (lim:Nat)] H (rC H sb jj (fun v m=> v=.tuple ⟨[]⟩/\iA a b l m/\TC a b m)):=by
 intro d;induction d with
 | zero=> intro H l a b lim hd;omega
 | succ d ihd=>
 intro H l a b lim hd hn pI hb aGd xI hah hS;refine aA.enter (vs:= [.slice (some ⟨sb,0,none⟩) n cap,.int .i64 (a:Nat),.int .i64 (b:Nat),.int .i64 (lim:Nat)]) func222 rfl ntmps222 (Nat.le_of_ble_eq_true rfl) (kA.pull hS) fun St c cs hK=> ?_;refine U9 ?_;refine Tc.db (Tc.sA (σ:= { s:Nat×Nat×Nat×Bool×Bool×List Int//a<=s.1/\s.1<=s.2.1/\s.2.1<=b/\s.2.2.1<=lim/\iA a b l s.2.2.2.2.2/\oE l a b s.1 s.2.1 s.2.2.2.2.2/\XB s.1 s.2.1 s.2.2.2.2.2 }) (fun s=> ([(0,.slice (some ⟨sb,0,none⟩) n cap),(1,.int .i64 (s.1.1:Nat)),(2,.int .i64 (s.1.2.1:Nat)),(3,.int .i64 (s.1.2.2.1:Nat)),(8,.bool s.1.2.2.2.1),(9,.bool s.1.2.2.2.2.1)],[(sb,true,.cells ⟨jA s.1.2.2.2.2.2++jj⟩ 3 (0,0))])) (fun s=> s.1.2.1-s.1.1) ?_
  ⟨(a,b,lim,true,true,l),Nat.le_refl _,pI,Nat.le_refl _,Nat.le_refl _,iA.refl ..,fun m h1 h2=> ⟨h1,h2⟩,hah⟩)
 rintro⟨⟨a',b',lm,wb,wp,u⟩,g1,g2,g3,g4,g5,g6,g7⟩ ih;simp only at g1 g2 g3 g4 g5 g6 g7;have yI:=g5.len;have hdu:=g5.diff xI;obtain⟨m,hm⟩:∃m,m=b'-a':=⟨_,rfl⟩
 have e0:((b':Nat):Int)-((a':Nat):Int)=((m:Nat):Int):=by omega
 show Tc M St _ _ _ _ [(0,.slice (some ⟨sb,0,none⟩) n cap),(1,.int .i64 (a':Nat)),(2,.int .i64 (b':Nat)),(3,.int .i64 (lm:Nat)),(8,.bool wb),(9,.bool wp)] [(sb,true,.cells ⟨jA u++jj⟩ 3 (0,0))] _ _;refine U8 ?_;rw[e0];refine U2 ?_;by_cases c1:m<=12
 ·refine UC ?_;refine .e (Or.vJ (l:=u) 0 (fun v m=> v=.tuple ⟨[]⟩/\iA a' b' u m/\TC a' b' m) rfl rfl rfl rfl rfl dE rfl (fun H hs=> .h (QU M H sb u jj n cap a' b' oM oM oM oM (hs.get (i:=0) rfl))) (fun v w ⟨_,wt,ws⟩=> ?_));refine U ?_;refine .rt hK func222 results222 [] ?_;exact fun H' hs=> rC.of hs (i:=0) rfl ⟨rfl,g6 w wt ws⟩
 ·refine U8 ?_;by_cases c2:lm=0
  ·refine UC ?_;refine .e (Or.vJ (l:=u) 0 (fun v m=> v=.tuple ⟨[]⟩/\iA a' b' u m/\TC a' b' m) rfl rfl rfl rfl rfl dE rfl (fun H hs=> .h (ZW M H sb u jj n cap a' b' oM oM oM oM (hs.get (i:=0) rfl))) (fun v w ⟨_,wt,ws⟩=> ?_));refine U ?_;refine .rt hK func222 results222 [] ?_;exact fun H' hs=> rC.of hs (i:=0) rfl ⟨rfl,g6 w wt ws⟩
  ·refine U7 ?_;refine Tc.via (fun R' L'=> ∃(lm1:Nat) (x:List Int),lm1<=lm/\iA a' b' u x/\OB [(0,.slice (some ⟨sb,0,none⟩) n cap),(1,.int .i64 (a':Nat)),(2,.int .i64 (b':Nat)),(3,.int .i64 (lm1:Nat)),(8,.bool wb),(9,.bool wp),(10,.int .i64 (m:Nat))] R'/\L'= [(sb,true,.cells ⟨jA x++jj⟩ 3 (0,0))]) ?_ (fun fin=> ?_)
   ·rintro R' _ ⟨lm1,x,o1,o2,yG,rfl⟩;refine Tc.gC ?_ yG (List.Sublist.refl _);have hxl:=o2.len;refine U5 ?_;refine .e (Or.SB Q6 (fun _=> []) (fun s:Nat×Nat=> a'<=s.1/\s.1<b'/\s.2<=2) rfl rfl rfl rfl rfl dE (fun _=> by simp) (fun H hs=> .h (pQ M H sb true x jj n cap a' b' oM oM oM oM oM (hs.get (i:=0) rfl))) (fun⟨p,h⟩ ⟨v1,v2,v3⟩=> ?_));refine U6 ?_;simp only at v1 v2 v3;refine U ?_;refine Tc.via (fun R' L'=> ∃(p:Nat) (y:List Int),a'<=p/\p<b'/\iA a' b' x y/\(∃h:Nat,OB [(0,.slice (some ⟨sb,0,none⟩) n cap),(1,.int .i64 (a':Nat)),(2,.int .i64 (b':Nat)),(3,.int .i64 (lm1:Nat)),(8,.bool wb),(9,.bool wp),(10,.int .i64 (m:Nat)),(11,.int .i64 (p:Nat)),(12,.int .i64 (h:Nat))] R')/\L'= [(sb,true,.cells ⟨jA y++jj⟩ 3 (0,0))]) ?_ (fun fin=> ?_)
    ·clear v1 v2 v3;rintro R' _ ⟨p,y,v1,v2,o3,⟨h,yG⟩,rfl⟩;refine Tc.gC ?_ yG (List.Sublist.refl _);have hyl:=o3.len;refine U ?_;refine Tc.via (fun R' L'=> OB [(0,.slice (some ⟨sb,0,none⟩) n cap),(1,.int .i64 (a':Nat)),(2,.int .i64 (b':Nat)),(3,.int .i64 (lm1:Nat)),(8,.bool wb),(9,.bool wp),(10,.int .i64 (m:Nat)),(11,.int .i64 (p:Nat))] R'/\L'= [(sb,true,.cells ⟨jA y++jj⟩ 3 (0,0))]) ?_ (fun fin=> ?_)
     ·rintro R' _ ⟨yG,rfl⟩;refine Tc.gC ?_ yG (List.Sublist.refl _);clear yG;refine U ?_;have g5y:=(g5.trans ((o2.trans o3).wide g1 g3))
      have gy:oE l a b a' b' y:=g6.bF (o2.trans o3);have ay:XB a' b' y:=g7.bF (o2.trans o3) oM oM;have hdy:=(o2.trans o3).diff hdu;refine Tc.via (fun R' L'=> OB [(0,.slice (some ⟨sb,0,none⟩) n cap),(1,.int .i64 (a':Nat)),(2,.int .i64 (b':Nat)),(3,.int .i64 (lm1:Nat)),(8,.bool wb),(9,.bool wp),(10,.int .i64 (m:Nat)),(11,.int .i64 (p:Nat))] R'/\L'= [(sb,true,.cells ⟨jA y++jj⟩ 3 (0,0))]) ?_ (fun fin=> ?_)
      ·rintro R' _ ⟨yG,rfl⟩;refine Tc.gC ?_ yG (List.Sublist.refl _);clear yG;refine U6 ?_;refine .e (Or.UP (l:=y) 0 (fun s:Nat×Bool×List Int=> .tuple ⟨[.int .i64 (s.1:Nat),.bool s.2.1]⟩) (fun s=> s.2.2) (fun s=> iA a' b' y s.2.2/\Part a' b' s.1 s.2.2) rfl rfl rfl rfl rfl dE rfl (fun H hs=> .h (mV M H sb y jj n cap a' b' p oM oM oM oM (hs.get (i:=0) rfl))) (fun⟨FE,al,w⟩ ⟨k1,k2⟩=> ?_));refine U6 ?_;simp only at k1 k2;have k3:=k2.aj;have k4:=k2.jb;have LY:=k1.len;have hdw:=k1.diff hdy;have gw:oE l a b a' b' w:=gy.bF k1;have aw:XB a' b' w:=ay.bF k1 oM oM;have e1:((FE:Nat):Int)-((a':Nat):Int)=((FE-a':Nat):Int):=by omega
       have e2:((b':Nat):Int)-((FE:Nat):Int)=((b'-FE:Nat):Int):=by omega
       have hq:rA .quo .i64 ((m:Nat):Int) 8=some (.int .i64 ((m/8:Nat):Int)):=by
        rw[pH oM oM oM]
        congr 2
       have hgt:∀x y:Nat,rA .geq .i64 ((x:Nat):Int) ((y:Nat):Int)=some (.bool (decide (y<=x))):=fun x y=> by
        by_cases c:y<=x
        ·rw[decide_eq_true c];exact oI oM
        ·rw[decide_eq_false c];exact VG oM
       have B8:=hgt (FE-a') (m/8);have YN:=hgt (b'-FE) (m/8);refine lN ?_;rw[e1,e2];refine U7 ?_;by_cases c5:FE-a'<b'-FE
       ·refine UC ?_;refine .i ?_ (z:=B8);refine U8 ?_;refine .e (Or.vJ (l:=w) 0 (fun v m=> v=.tuple ⟨[]⟩/\iA a' FE w m/\TC a' FE m) rfl rfl rfl rfl rfl dE rfl (fun H hs=> .h (ihd H w a' FE lm1 oM oM oM oM oM hdw (aw.left oM) (hs.get (i:=0) rfl))) (fun v x ⟨_,xt,xs⟩=> ?_));refine U7 ?_;have hxn:=xt.len;have r1:iA a b l x:=g5y.trans ((k1.trans (xt.wide oM oM)).wide oM oM);have r2:oE l a b (FE+1) b' x:=gw.right k2 oM xt xs;have r3:XB (FE+1) b' x:=k2.ahead xt (xt.diff hdw) oM;have r4:lm1<=lim:=by omega
        have r5:a<=FE+1:=by omega
        have r6:FE+1<=b':=by omega
        exact Tc.db (ih ⟨(FE+1,b',lm1,decide (m/8<=FE-a'),al,x),r5,r6,g3,r4,r1,r2,r3⟩ (by simp only;omega))
       ·refine UC ?_;refine .i ?_ (z:=YN);refine U9 ?_;refine .e (Or.vJ (l:=w) 0 (fun v m=> v=.tuple ⟨[]⟩/\iA (FE+1) b' w m/\TC (FE+1) b' m) rfl rfl rfl rfl rfl dE rfl (fun H hs=> .h (ihd H w (FE+1) b' lm1 oM oM oM oM oM hdw (k2.ahead (iA.refl a' FE w) hdw oM) (hs.get (i:=0) rfl))) (fun v x ⟨_,xt,xs⟩=> ?_));refine U6 ?_;have r1:iA a b l x:=g5y.trans ((k1.trans (xt.wide oM oM)).wide oM oM);have r2:oE l a b a' FE x:=gw.left k2 oM xt xs;have r3:XB a' FE x:=(aw.left oM).keep xt;have r4:lm1<=lim:=by omega
        have r5:a'<=FE:=by omega
        have r6:FE<=b:=by omega
        exact Tc.db (ih ⟨(a',FE,lm1,decide (m/8<=b'-FE),al,x),g1,r5,r6,r4,r1,r2,r3⟩ (by simp only;omega))
      ·by_cases c3:a'=0
       ·subst c3;refine U ?_;refine Tc.dr [] [] mixed rfl ?_;refine V3 0 ?_;refine .nw 3 ?_;refine .nw 4 ?_;refine .nw 5 ?_;refine .nw 6 ?_;refine .nw 7 ?_;refine .nw 8 ?_;refine .nw 9 ?_;refine .nw 10 ?_;refine .nw 11 ?_;refine .nw 12 ?_;refine .nw 13 ?_;refine .nn 14 ?_;refine .dn ?_;refine U2 ?_;exact Tc.db (fin [(0,.slice (some ⟨sb,0,none⟩) n cap),(1,.int .i64 (0:Nat)),(2,.int .i64 (b':Nat)),(3,.int .i64 (lm1:Nat)),(8,.bool wb),(9,.bool wp),(10,.int .i64 (m:Nat)),(11,.int .i64 (p:Nat))] [(sb,true,.cells ⟨jA y++jj⟩ 3 (0,0))] ⟨⟨rfl,rfl,rfl,rfl,rfl,rfl,rfl,rfl,trivial⟩,rfl⟩)
       ·have NB:nA y (a'-1)<nA y p:=by
         rcases ay with h0|h0
         ·exact absurd h0 c3
         ·exact h0 p v1 v2
        have ea:((a':Nat):Int)-1=((a'-1:Nat):Int):=by omega
        have y1:=KA (m:=y) (j:=jj) (k:=((a':Nat):Int)-1) (p:=a'-1) oM oM;have y2:=KA (m:=y) (j:=jj) (k:=(p:Nat)) (p:=p) rfl oM;refine U ?_;refine Tc.dr [] [] mixed rfl ?_;refine vI 0 ?_;refine .z 12 rfl (xA.tk fun H hs=> aA.is (.bool true) (by rewrite [decide_eq_true NB];rfl) (CC M H (nA y (a'-1)) (nA y p))) ?_;refine V2 13 ?_;refine .dn ?_;refine U2 ?_;exact Tc.db (fin [(0,.slice (some ⟨sb,0,none⟩) n cap),(1,.int .i64 (a':Nat)),(2,.int .i64 (b':Nat)),(3,.int .i64 (lm1:Nat)),(8,.bool wb),(9,.bool wp),(10,.int .i64 (m:Nat)),(11,.int .i64 (p:Nat))] [(sb,true,.cells ⟨jA y++jj⟩ 3 (0,0))] ⟨⟨rfl,rfl,rfl,rfl,rfl,rfl,rfl,rfl,trivial⟩,rfl⟩)
     ·refine U ?_;by_cases c4:wb=true/\wp=true/\h=1
      ·obtain⟨rfl,rfl,rfl⟩:=c4;refine lN ?_;refine .e (Or.SB (fun t:Bool=> .bool t) (fun _=> []) (fun t:Bool=> t=true->TC a' b' y) rfl rfl rfl rfl rfl dE (fun _=> by simp) (fun H hs=> .h (L0 M H sb true y jj n cap a' b' oM oM oM oM oM (hs.get (i:=0) rfl))) (fun t ht=> ?_));refine U ?_;cases t
       ·refine U2 ?_;exact Tc.db (fin [(0,.slice (some ⟨sb,0,none⟩) n cap),(1,.int .i64 (a':Nat)),(2,.int .i64 (b':Nat)),(3,.int .i64 (lm1:Nat)),(8,.bool true),(9,.bool true),(10,.int .i64 (m:Nat)),(11,.int .i64 (p:Nat))] [(sb,true,.cells ⟨jA y++jj⟩ 3 (0,0))] ⟨⟨rfl,rfl,rfl,rfl,rfl,rfl,rfl,rfl,trivial⟩,rfl⟩)
       ·have TA:=(g6.bF (o2.trans o3)) y (iA.refl ..) (ht rfl);refine U ?_;refine .rt hK func222 results222 [] ?_;exact fun H' hs=> rC.of hs (i:=0) rfl ⟨rfl,TA⟩
      ·have c5:wb=true->wp=true->h≠1:=fun e1 e2 e3=> c4 ⟨e1,e2,e3⟩;cases wb
       ·cases wp
        ·refine SE ?_;exact Tc.db (fin [(0,.slice (some ⟨sb,0,none⟩) n cap),(1,.int .i64 (a':Nat)),(2,.int .i64 (b':Nat)),(3,.int .i64 (lm1:Nat)),(8,.bool false),(9,.bool false),(10,.int .i64 (m:Nat)),(11,.int .i64 (p:Nat))] [(sb,true,.cells ⟨jA y++jj⟩ 3 (0,0))] ⟨⟨rfl,rfl,rfl,rfl,rfl,rfl,rfl,rfl,trivial⟩,rfl⟩)
        ·refine SE ?_;exact Tc.db (fin [(0,.slice (some ⟨sb,0,none⟩) n cap),(1,.int .i64 (a':Nat)),(2,.int .i64 (b':Nat)),(3,.int .i64 (lm1:Nat)),(8,.bool false),(9,.bool true),(10,.int .i64 (m:Nat)),(11,.int .i64 (p:Nat))] [(sb,true,.cells ⟨jA y++jj⟩ 3 (0,0))] ⟨⟨rfl,rfl,rfl,rfl,rfl,rfl,rfl,rfl,trivial⟩,rfl⟩)
       ·cases wp
        ·refine SE ?_;exact Tc.db (fin [(0,.slice (some ⟨sb,0,none⟩) n cap),(1,.int .i64 (a':Nat)),(2,.int .i64 (b':Nat)),(3,.int .i64 (lm1:Nat)),(8,.bool true),(9,.bool false),(10,.int .i64 (m:Nat)),(11,.int .i64 (p:Nat))] [(sb,true,.cells ⟨jA y++jj⟩ 3 (0,0))] ⟨⟨rfl,rfl,rfl,rfl,rfl,rfl,rfl,rfl,trivial⟩,rfl⟩)
        ·have c6:=c5 rfl rfl;refine SE ?_;exact Tc.db (fin [(0,.slice (some ⟨sb,0,none⟩) n cap),(1,.int .i64 (a':Nat)),(2,.int .i64 (b':Nat)),(3,.int .i64 (lm1:Nat)),(8,.bool true),(9,.bool true),(10,.int .i64 (m:Nat)),(11,.int .i64 (p:Nat))] [(sb,true,.cells ⟨jA y++jj⟩ 3 (0,0))] ⟨⟨rfl,rfl,rfl,rfl,rfl,rfl,rfl,rfl,trivial⟩,rfl⟩)
    ·refine U ?_;by_cases c4:h=2
     ·have e1:((b':Nat):Int)-1-(((p:Nat):Int)-((a':Nat):Int))=((b'-1-(p-a'):Nat):Int):=by omega
      refine UC ?_;refine .e (Or.vJ (l:=x) 0 (fun v m=> v=.tuple ⟨[]⟩/\iA a' b' x m) rfl rfl rfl rfl rfl dE rfl (fun H hs=> .h (P0 M H sb x jj n cap a' b' oM oM oM oM (hs.get (i:=0) rfl))) (fun v y ⟨_,yt⟩=> ?_));refine YD ?_;rw[e1];refine U3 ?_;exact Tc.db (fin [(0,.slice (some ⟨sb,0,none⟩) n cap),(1,.int .i64 (a':Nat)),(2,.int .i64 (b':Nat)),(3,.int .i64 (lm1:Nat)),(8,.bool wb),(9,.bool wp),(10,.int .i64 (m:Nat)),(11,.int .i64 (b'-1-(p-a'):Nat)),(12,.int .i64 (1:Nat))] [(sb,true,.cells ⟨jA y++jj⟩ 3 (0,0))] ⟨b'-1-(p-a'),y,oM,oM,yt,⟨1,rfl,rfl,rfl,rfl,rfl,rfl,rfl,rfl,rfl,trivial⟩,rfl⟩)
     ·refine U6 ?_;exact Tc.db (fin [(0,.slice (some ⟨sb,0,none⟩) n cap),(1,.int .i64 (a':Nat)),(2,.int .i64 (b':Nat)),(3,.int .i64 (lm1:Nat)),(8,.bool wb),(9,.bool wp),(10,.int .i64 (m:Nat)),(11,.int .i64 (p:Nat)),(12,.int .i64 (h:Nat))] [(sb,true,.cells ⟨jA x++jj⟩ 3 (0,0))] ⟨p,x,oM,oM,iA.refl ..,⟨h,rfl,rfl,rfl,rfl,rfl,rfl,rfl,rfl,rfl,trivial⟩,rfl⟩)
   ·refine U ?_;cases wb
    ·have e1:((lm:Nat):Int)-1=((lm-1:Nat):Int):=by omega
     refine UC ?_;refine .e (Or.vJ (l:=u) 0 (fun v m=> v=.tuple ⟨[]⟩/\iA a' b' u m) rfl rfl rfl rfl rfl dE rfl (fun H hs=> .h (A9 M H sb u jj n cap a' b' oM oM oM oM oM (hs.get (i:=0) rfl))) (fun v x ⟨_,xt⟩=> ?_));refine U6 ?_;rw[e1];exact Tc.db (fin [(0,.slice (some ⟨sb,0,none⟩) n cap),(1,.int .i64 (a':Nat)),(2,.int .i64 (b':Nat)),(3,.int .i64 (lm-1:Nat)),(8,.bool false),(9,.bool wp),(10,.int .i64 (m:Nat))] [(sb,true,.cells ⟨jA x++jj⟩ 3 (0,0))] ⟨lm-1,x,oM,xt,⟨rfl,rfl,rfl,rfl,rfl,rfl,rfl,trivial⟩,rfl⟩)
    ·refine U6 ?_;exact Tc.db (fin [(0,.slice (some ⟨sb,0,none⟩) n cap),(1,.int .i64 (a':Nat)),(2,.int .i64 (b':Nat)),(3,.int .i64 (lm:Nat)),(8,.bool true),(9,.bool wp),(10,.int .i64 (m:Nat))] [(sb,true,.cells ⟨jA u++jj⟩ 3 (0,0))] ⟨lm,u,Nat.le_refl _,iA.refl ..,⟨rfl,rfl,rfl,rfl,rfl,rfl,rfl,trivial⟩,rfl⟩)
end
set_option maxHeartbeats 8000000
section
variable(M:Md prog)(H:View)
theorem aBw(sb:Nat)(l:List Int)(jj:List Value)(n cap:Nat)(hn:n=l.length)(h40:n<=40)(hd:Diff l)(hS:H sb=some (true,.cells ⟨jA l++jj⟩ 3 (0,0))):
  aA M 135 #[.slice (some ⟨sb,0,none⟩) n cap] H (rC H sb jj (fun v m=> v=.tuple ⟨[]⟩/\iA 0 n l m/\TC 0 n m)):=by
 have hw:=cK n oM;have hb:=NQ n oM;refine aA.enter (vs:= [.slice (some ⟨sb,0,none⟩) n cap]) func135 rfl ntmps135 (Nat.le_of_ble_eq_true rfl) (kA.pull hS) fun St c cs hK=> ?_;refine YD ?_;refine .cl (fun H hs=> CO M H n oM) ?_;refine .e (Or.vJ (l:=l) 0 (fun v m=> v=.tuple ⟨[]⟩/\iA 0 n l m/\TC 0 n m) rfl rfl rfl rfl rfl dE rfl (fun H hs=> .h (aE1 M sb jj n cap h40 (n+1) H l 0 n (bl n) oM hn oM (Nat.le_refl _) oM hd (.inl rfl) (hs.get (i:=0) rfl))) (fun v m ⟨_,ht,hs⟩=> ?_));refine U ?_;refine .ov hK func135 results135 [] ?_;exact fun H' hs'=> rC.of hs' (i:=0) rfl ⟨rfl,ht,hs⟩
end
def intOf:Value->Int
 | .int _ i=> i
 | _=> 0
theorem M0 {l:List Value}{k:List Int}(h:l.Perm (jA k)):∃u:List Int,l=jA u/\u.Perm k:=by
 refine⟨l.map intOf,?_,?_⟩
 ·unfold jA;rw[List.map_map]
  symm
  have:∀v∈l,(((fun x=> Value.int .i64 x)∘intOf) v)=v:=fun v hv=> by
   have:=h.subset hv;unfold jA at this;obtain⟨x,_,rfl⟩:=List.mem_map.1 this;rfl
  rw[List.map_congr_left this,List.map_id']
 ·have h2:=h.map intOf;have:(jA k).map intOf=k:=by
   unfold jA;rw[List.map_map];have:∀x∈k,(intOf∘fun x=> Value.int .i64 x) x=x:=fun x _=> rfl;rw[List.map_congr_left this,List.map_id']
  rwa [this] at h2
theorem TC.pairwise {m:List Int}(h:TC 0 m.length m):m.Pairwise (· <=·):=by
 rw[List.pairwise_iff_getElem];intro i j hi hj aO;have:=h i j (Nat.zero_le _) aO hj;unfold nA at this;rw[List.getElem?_eq_getElem hi,List.getElem?_eq_getElem hj] at this;exact this
theorem U0 {u m k:List Int}(h:u.Perm k)(hk:k.Pairwise (· < ·))(ht:iA 0 u.length u m)(hs:TC 0 u.length m):m=k:=by
 have AN:m.Perm k:=(List.perm_iff_count.2 ht.cnt).trans h;rw[<-ht.len] at hs;exact List.Perm.eq_of_pairwise (le:=(· <=·)) (fun a b _ _ h1 h2=> Int.le_antisymm h1 h2) hs.pairwise (hk.imp (fun h=> Int.le_of_lt h)) AN
theorem O9 {u k:List Int}(h:u.Perm k)(hk:k.Pairwise (· < ·)):Diff u:=fun x=> by
 rw[h.count_eq];exact List.nodup_iff_count.1 (List.nodup_iff_pairwise_ne.2 (hk.imp (fun h=> Int.ne_of_lt h))) x
theorem FL(p:Nat->Bool)(n:Nat):(tB p n).Pairwise (· < ·):=by
 unfold tB;rw[List.pairwise_map];exact(List.Pairwise.filter p List.pairwise_lt_range).imp (fun h=> by exact_mod_cast h)
def Gl.j8(g:Gl 3 1)(m:List Value)(h:m.length=g.n):Gl 3 1:=⟨g.blk,g.n,g.cap,m,g.HB,by rw[h,Nat.mul_one],g.hc,g.hj,g.h0⟩
theorem Or.aDK {M:Md prog}{n:Nat}{H₀:View}{R:Rg}{L1:Bl}{o:Oper}{K:Rg->Bl->Prop}{cl:Go.Call}{x:Operand}{fv:Value}{d:Nat}(g:Gl 3 1)(u k:List Int)(hg:g.l=jA u)(hp:u.Perm k)(hk:k.Pairwise (· < ·))(h40:k.length<=40)
  (qA:o.op=.call cl) (yB:cl.callee=.value x) (hx:RA R x=some fv) (has:FD R cl.args.toList=some [g.val]) (hd:o.dst=some d) (hn:d<n)
  (hc:∀(H:View) (Q:Value->View->Prop),aA M 135 #[g.val] H Q->CB M fv [g.val] H Q)
  (hK:∀g':Gl 3 1,g'.val=g.val->g'.n=g.n->g'.l=jA k->K ((d,.tuple ⟨[]⟩)::R) (L1++g'.bl)):Or M n H₀ R (L1++g.bl) o K:=by
 have yI:u.length=g.n:=by have:=g.hl;rw[hg,uA] at this;omega
 have hkl:k.length=g.n:=by rw[<-yI];exact hp.length_eq.symm
 have hdu:=O9 hp hk;cases hb:g.blk with
 | none=>
  have ZB:=g.h0 hb;have C8:=g.hc;have h0:g.n=0:=by omega
  have m5:k= []:=List.eq_nil_of_length_eq_zero oM;have S1:u= []:=List.eq_nil_of_length_eq_zero oM;have QJ:g.bl= []:=by unfold Gl.bl;rw[hb]
  have hv:g.val=.slice (g.blk.map fun b=> ⟨b,0,none⟩) g.n g.cap:=rfl;refine Or.SB (fun _:Unit=> .tuple ⟨[]⟩) (fun _=> []) (fun _=> True) qA yB hx has hd hn (fun _=> by simp) (fun H hs=> hc H _ ?_) (fun _ _=> ?_)
  ·rw[hv];exact aA.mono (T2 M H _ g.n g.cap oM) (fun v H' ⟨h1,h2⟩=> ⟨h1,(),h2,trivial,by simp⟩)
  ·rw[List.append_nil];exact hK g rfl rfl (by rw[hg,S1,m5])
 | some b=>
  have QJ:g.bl= [(b,true,.cells ⟨jA u++g.HB⟩ 3 (0,0))]:=by unfold Gl.bl;rw[hb,hg]
  have hv:g.val=.slice (some ⟨b,0,none⟩) g.n g.cap:=by unfold Gl.val;rw[hb];rfl
  rw[QJ];refine Or.vJ (l:=u) L1.length (fun v m=> v=.tuple ⟨[]⟩/\iA 0 g.n u m/\TC 0 g.n m) qA yB hx has hd hn (by rw[List.getElem?_append_right (Nat.le_refl _),Nat.sub_self];rfl)
   (fun H hs=> hc H _ ?_) (fun v m ⟨h1,h2,h3⟩=> ?_)
  ·rw[hv];exact aBw M H b u g.HB g.n g.cap yI.symm oM hdu (hs.get (i:=L1.length) (by rw[List.getElem?_append_right (Nat.le_refl _),Nat.sub_self];rfl))
  ·subst h1;rw[<-yI] at h2 h3;have hm:=U0 hp hk h2 h3;subst hm;have:=hK (Gl.j8 g (jA m) (by rw[uA];exact hkl)) rfl rfl rfl;have VW:(Gl.j8 g (jA m) (by rw[uA];exact hkl)).bl= [(b,true,.cells ⟨jA m++g.HB⟩ 3 (0,0))]:=by
    unfold Gl.bl Gl.j8;simp only[hb]
   rw[VW] at this;rw[List.set_append_right _ _ (Nat.le_refl _),Nat.sub_self];exact this
set_option maxHeartbeats 4000000
section
variable(M:Md prog)(H:View)
theorem X8(k:Lk)(code:Nat)(hG:HC H)(hk:k.ok=true)(hc:code<32):aA M 68 #[k.val,.int .i64 code] H (aBu (AG (k.MC code) 32) (k.refused code) H):=by
 refine .en func68 ntmps68 fun St c cs hK=> ?_;refine U2 ?_;refine .bo fun b2=> ?_;refine U8 ?_;refine .e (Or.SB (fun x=> .tuple ⟨[k.val,VU code x,.int .i64 0]⟩) (wQ code) (fun _=> True) rfl rfl rfl rfl rfl dE (VH code) (fun H hs=> .h (aCt M H k code (EA hG hs.base) hk hc)) (fun x hx=> ?_));refine U4 ?_;refine .al fun b7=> ?_;refine .al fun b8=> ?_;refine lO ?_;refine .e (Or.SB (fun y:Nat×Array MapEntry×Nat=> .map (some y.1)) (fun y=> [(y.1,true,.map y.2.1 y.2.2)]) (fun y=> vB y.2.1 y.2.2 (vF (k.iO code))) rfl rfl rfl rfl rfl dE (fun _=> by simp) (fun H hs=> .h (aA.mono (s9 M H k (Lk.aBS hk) code x.1 x.2.1 hc (KW fun y hy=> hs.at_ y (by simp[hy]))) (by rintro v H' ⟨h1,m,es,cl,h2,h3,h4,h5⟩;exact⟨h1,(m,es,cl),h2,h5,by simp[h3,h4]⟩))) (fun y hm=> ?_));have aEy:(tB (k.MC code) 32).length<=32:=LM _ _;have aG4:(AG (k.MC code) 32).length<=32:=by rw[EL,uA];exact aEy
 obtain⟨m,es,cl⟩:=y;simp only at hm;have aEG:=HW hm;have aFZ:=w9 hm;refine .e (Or.range (E:=en) (es:=es) (cl:=cl) rfl rfl (fun H hs=> ⟨true,hs.at_ (m,true,.map es cl) (by simp)⟩) rfl rfl rfl dE (fun it=> ?_));refine U ?_;refine Tc.lift (L₂:= [(it,true,.mapIter (some m) cl #[] cl)]) rfl (fun Hm fJ=> ?_);have yL:Hm m=some (true,.map es cl):=fJ.at_ (m,true,.map es cl) (by simp);have P1:∀b x,Hm b=none->H b=some x->False:=fun b x h2 h3=> by rw[fJ.base _ _ h3] at h2;cases h2
 refine U ?_;refine Tc.db (Tc.sA (σ:= { s:Array Nat×Gl 3 1×Bool//(s.2.1.l++(aD es s.1).filterMap lL).Perm (AG (k.MC code) 32)/\(s.2.2||(aD es s.1).any sW)=k.bad code })
  (fun s=> ([(26,.pointer (some ⟨it,0,none⟩)),(4,s.1.2.1.val),(9,.bool s.1.2.2)],[(it,true,.mapIter (some m) cl s.1.1 cl)]++s.1.2.1.bl)) (fun s=> (aD es s.1.1).length) ?_ ⟨(#[],Gl.nil 3 1,false),by rw[SC];exact aEG,by rw[SC,aFZ];rfl⟩)
 rintro⟨⟨seen,g,bd⟩,g1,g2⟩ ih;simp only at g1 g2;have FY:=g1.length_eq;rw[List.length_append] at FY;have iK:=g.hl;rw[Nat.mul_one] at iK;show Tc M St _ _ _ _ [(26,.pointer (some ⟨it,0,none⟩)),(4,g.val),(9,.bool bd)] ([(it,true,.mapIter (some m) cl seen cl)]++g.bl) _ _;refine U2 ?_;refine .e (Or.next (es:=es) 0 rfl rfl rfl (fun H hs=> ⟨true,hs.base _ _ yL⟩) hm.lt rfl dE (fun e he K8=> ?_) (fun TA=> ?_))
 ·have hp:=KF hm.QI he K8;obtain⟨_,u,u1,u2,u3⟩:=(hm.mem e.key e.val).2 ⟨e,he,rfl,rfl⟩;have HF:es.find? (fun x=> x.born==e.born)=some e:=by
   rw[<-Array.find?_toList];cases hf:es.toList.find? (fun x=> x.born==e.born) with
   | none=> have:=List.find?_eq_none.1 hf e he;simp at this
   | some e'=>
    have h3:=List.mem_of_find?_eq_some hf;have h4:=List.find?_some hf;simp only[beq_iff_eq] at h4;rw[oN hm.QI e' h3 e he h4]
  refine U8 ?_;refine .e (Or.entry (es:=es) (e:=e) (st:=e.born) rfl rfl (fun H hs=> ⟨true,hs.get (i:=0) rfl⟩) (fun H hs=> ⟨true,hs.base _ _ yL⟩) (by simp) HF rfl dE ?_);rw[u2];refine U4 ?_;have y8:=hp.filterMap lL;have JZ:=hp.any_eq (f:=sW);have hbE:sW e=(YF u).isNone:=by unfold sW DS;rw[u2];rfl
  have hcE:lL e=(YF u).map fun n=> .int .i64 (n:Nat):=by unfold lL DS;rw[u2];rfl
  cases hu:YF u with
  | none=>
   rw[hu] at hbE hcE;refine U2 ?_;refine .cl (fun H hs=> aA.is (.tuple ⟨[.int .i64 0,.bool false]⟩) (by rewrite [hu];rfl) (Y6 M H u u1)) ?_;refine kN ?_;exact Tc.db (ih ⟨(seen.push e.born,g,true),by simp only;rw[List.filterMap_cons_none hcE] at y8;exact(List.Perm.append_left _ y8.symm).trans g1,by simp only;rw[<-g2,JZ,List.any_cons,hbE];simp⟩ (by simp only;rw[hp.length_eq];simp))
  | some n=>
   rw[hu] at hbE hcE;have hn:=HP hu;have aBe:g.n+1<=32:=by
    rw[<-iK];have h5:=y8.length_eq;rw[List.filterMap_cons_some hcE,List.length_cons] at h5;omega
   refine U2 ?_;refine .cl (fun H hs=> aA.is (.tuple ⟨[.int .i64 (n:Nat),.bool true]⟩) (by rewrite [hu];rfl) (Y6 M H u u1)) ?_;refine lF ?_;refine .e (.bs (zz:=fun bs=> ?_));refine .e (Or.append (E:=en) 2 rfl rfl rfl rfl rfl rfl rfl rfl rfl rfl rfl rfl rfl rfl rfl (fun H hs=> UA.of (hs.get (i:=0) rfl) (Nat.le_of_ble_eq_true rfl)) rfl oM rfl dE (fun g' ZK hl=> ?_));refine U3 ?_;exact Tc.db (ih ⟨(seen.push e.born,g',bd),by simp only;rw[hl,List.append_assoc];rw[List.filterMap_cons_some hcE] at y8;exact(List.Perm.append_left _ y8.symm).trans g1,by simp only;rw[<-g2,JZ,List.any_cons,hbE];simp⟩ (by simp only;rw[hp.length_eq];simp))
 ·have TZ:=PE TA;rw[TZ] at g1 g2;simp only[List.filterMap_nil,List.append_nil,List.any_nil,Bool.or_false] at g1 g2;rw[EL] at g1;obtain⟨u,hgu,hup⟩:=M0 g1;subst g2;refine U8 ?_;refine .e (Or.aDK (L1:= [(it,true,.mapIter (some m) cl seen cl)]) g u (tB (k.MC code) 32) hgu hup (FL _ _) (by have:=aEy;omega) rfl rfl rfl rfl rfl dE (fun H Q h=> .h h) (fun g' lX ZK dX=> ?_));refine U ?_;have Y4:g'.l=AG (k.MC code) 32:=by rw[dX,EL]
  have aAd:g'.l.length=g.n:=by rw[g'.hl,ZK,Nat.mul_one]
  refine U3 ?_;cases iQ:k.bad code with
  | false=>
   have hr:k.refused code=2:=by unfold Lk.refused;rw[iQ];rfl
   refine ZF ?_;refine .rt hK func68 results68 [_,_,_] ?_;exact fun H' hs=> ⟨View.le_trans fJ.base hs.base,g',by rw[hr,lX];rfl,Y4,fun y hy=> ⟨hs.at_ y (by simp[hy]),by cases h:H y.1 with|none=> rfl|some x=> exact(P1 _ x (hs.out y (by simp[hy])) h).elim⟩⟩
  | true=>
   refine U7 ?_;by_cases h0:g.n=0
   ·have hr:k.refused code=1:=by unfold Lk.refused;rw[iQ,<-Y4,aAd,h0];rfl
    refine ZF ?_;refine .rt hK func68 results68 [_,_,_] ?_;exact fun H' hs=> ⟨View.le_trans fJ.base hs.base,Gl.nil 3 1,by rw[hr];rfl,by rw[<-Y4];exact(List.eq_nil_of_length_eq_zero oM).symm,by simp[Gl.nil,Gl.bl]⟩
   ·have hr:k.refused code=0:=by unfold Lk.refused;rw[iQ,<-Y4,aAd,if_pos rfl,if_neg h0]
    refine lN ?_;refine .rt hK func68 results68 [_,_,_] ?_;exact fun H' hs=> ⟨View.le_trans fJ.base hs.base,g',by rw[hr,lX];rfl,Y4,fun y hy=> ⟨hs.at_ y (by simp[hy]),by cases h:H y.1 with|none=> rfl|some x=> exact(P1 _ x (hs.out y (by simp[hy])) h).elim⟩⟩
end
set_option maxHeartbeats 8000000
section
variable(M:Md prog)(H:View)
theorem AT(A:Option Addr)(p:Nat->Bool)(k n ca:Nat)(hk:k<=1000)(hn:n=(tB p k).length)(hA:MG H A (tB p k)):aA M 69 #[.slice A n ca,.int .i64 (k:Nat)] H (fun v H'=> H.le H'/\v=.int .i64 0):=by
 have hl:=LM p k;exact AO M H _ _ n ca k hn oM oM hA (fun i hi=> lR oM) (fun i h0 hi=> qX h0 oM)
end
set_option maxHeartbeats 4000000
theorem Lk.JO {o k:Lk}(ho:o.ok=true)(hk:k.ok=true)(h:o.RR k){c n:Nat}(hc:c<32)(hr:o.MC c n=true):k.MC c n=true:=
 Lk.AV (Lk.F6 ho).2.1.1 (Lk.F6 hk).2.1.1 h hc hr
section
variable(M:Md prog)(H:View)
end
end Go.Proofs.YtldmfjcgjdchcaaGreatDoor.Sg
namespace Go.RL
open Go.Conc
section
variable {P:Program}{E:Env P}{M:Md P}{n:Nat}{H₀:View}{R:Rg}{L L':Bl}{K:Rg->Bl->Prop}{o:Oper}{d:Nat}{v:Value}
end
section
variable {P:Program}{E:Env P}{M:Md P}{n:Nat}{H₀:View}{R:Rg}{L L':Bl}{K:Rg->Bl->Prop}{o:Oper}{d:Nat}{v:Value}
end
end Go.RL
namespace Go.Proofs.YtldmfjcgjdchcaaGreatDoor
open Go.RL Go.Proofs.Tryz
set_option maxRecDepth 10000
set_option maxHeartbeats 8000000
section
variable(M:Md prog)(H:View)
theorem jP(x:Int)(t:Bool)(ht:decide (0<=x/\x<=31)=t):aA M 114 #[.int .i64 x] H (fun v H'=> H.le H'/\v=.bool t):=by
 refine .en func114 ntmps114 fun St c cs hK=> ?_;refine U7 ?_;refine .cl (fun H hs=> uW M H x 0 31 t ht) ?_;refine U2 ?_;refine .rt hK func114 results114 [_] ?_;exact okB
end
section
variable(M:Md prog)(H:View)
end
section
variable(M:Md prog)(H:View)
end
section
variable(M:Md prog)(H:View)
theorem aFv(a b:Int):aA M 46 #[.int .i64 a,.int .i64 b] H (fun v H'=> H.le H'/\v=YB a b):=by
 refine .en func46 ntmps46 fun St c cs hK=> ?_;refine U2 ?_;refine .al fun _=> ?_;refine U8 ?_;refine .rt hK func46 results46 [YB a b] ?_;exact okB
end
section
variable(H:View)
end
def OH(H:View)(F:Option Addr)(n:Nat)(x:Nat->Nat):Prop:=
 n=0\/∃b o f gs gt gz,F=some ⟨b,o,none⟩/\H b=some (f,.cells ⟨gs⟩ gt gz)/\∀j:Nat,j<n->BC false 1 gs (o+(j:Int).toNat*1)=some (.int .u8 (x j:Nat))/\x j<256
theorem OH.le {H H':View}{F:Option Addr}{n:Nat}{x:Nat->Nat}(h:OH H F n x)(k:H.le H'):OH H' F n x:=
 h.imp id fun⟨b,o,f,gs,gt,gz,h1,h2,h3⟩=> ⟨b,o,f,gs,gt,gz,h1,k _ _ h2,h3⟩
def OG(l:List Int):Int:=1+(l[0]?.getD 0)*3/32
def oH(l:List Int):Int:=1+(l[l.length-1]?.getD 0)*3/32
theorem kS {l:List Int}(h:l.Pairwise (· < ·)){x:Int}(hx:x∈l):l[0]?.getD 0<=x/\x<=l[l.length-1]?.getD 0:=by
 obtain⟨i,hi,rfl⟩:=List.getElem_of_mem hx;have hp:=List.pairwise_iff_getElem.1 h;rw[List.getElem?_eq_getElem (show 0<l.length by omega),List.getElem?_eq_getElem (show l.length-1<l.length by omega)];simp only[Option.getD_some];constructor
 ·by_cases e:i=0
  ·subst e;exact Int.le_refl _
  ·exact Int.le_of_lt (hp 0 i oM hi oM)
 ·by_cases e:i=l.length-1
  ·subst e;exact Int.le_refl _
  ·exact Int.le_of_lt (hp i (l.length-1) hi oM oM)
theorem mR {p:Nat->Bool}(h:Sg.tB p 32≠ []):(Sg.tB p 32)[0]?.getD 0∈Sg.tB p 32/\(Sg.tB p 32)[(Sg.tB p 32).length-1]?.getD 0∈Sg.tB p 32:=by
 have hl:0<(Sg.tB p 32).length:=List.length_pos_iff.2 h;rw[List.getElem?_eq_getElem hl,List.getElem?_eq_getElem (show(Sg.tB p 32).length-1<(Sg.tB p 32).length by omega)];exact⟨List.getElem_mem _,List.getElem_mem _⟩
theorem mP {p:Nat->Bool}{x:Int}(h:x∈Sg.tB p 32):0<=x/\x<=31:=by
 obtain⟨i,hi,rfl⟩:=List.getElem_of_mem h;have:=Sg.lR hi;rw[List.getElem?_eq_getElem hi] at this;simp only[Option.getD_some] at this;omega
theorem TU {p q:Nat->Bool}(h:∀i,i<32->p i=true->q i=true){x:Int}(hx:x∈Sg.tB p 32):x∈Sg.tB q 32:=by
 unfold Sg.tB at hx ⊢;obtain⟨i,h1,rfl⟩:=List.mem_map.1 hx;obtain⟨h2,h3⟩:=List.mem_filter.1 h1;exact List.mem_map.2 ⟨i,List.mem_filter.2 ⟨h2,h i (List.mem_range.1 h2) h3⟩,rfl⟩
theorem T6 {p:Nat->Bool}(h:Sg.tB p 32≠ []):1<=OG (Sg.tB p 32)/\OG (Sg.tB p 32)<=oH (Sg.tB p 32)/\oH (Sg.tB p 32)<=3:=by
 obtain⟨h1,h2⟩:=mR h;have h3:=mP h1;have h4:=mP h2;have h5:=(kS (Sg.FL p 32) h2).1;unfold OG oH;omega
theorem aAD {p q:Nat->Bool}(hs:∀i,i<32->p i=true->q i=true)(h:Sg.tB p 32≠ []):OG (Sg.tB q 32)<=OG (Sg.tB p 32)/\oH (Sg.tB p 32)<=oH (Sg.tB q 32):=by
 obtain⟨h1,h2⟩:=mR h;have g1:=(kS (Sg.FL q 32) (TU hs h1)).1;have g2:=(kS (Sg.FL q 32) (TU hs h2)).2;unfold OG oH;omega
def Bk.SF(k:Bk)(rd:Nat->List Int)(j:Nat):Bk:= { k with pf:=fun i=> if i<j then OG (rd i) else k.pf i,pt:=fun i=> if i<j then oH (rd i) else k.pt i }
theorem TM {k:Bk}(ha:k.VA=0){rd:Nat->List Int}{j:Nat}(h:∀i,i<j->1<=OG (rd i)/\OG (rd i)<=oH (rd i)/\oH (rd i)<=3):(k.SF rd j).VA=0:=by
 obtain⟨h1,h2,h3⟩:=Bk.pW ha;obtain⟨_,_,JM,dC⟩:=Bk.valid ha;have e1:(k.SF rd j).DD=0:=h1;have e2:(k.SF rd j).OD=0:=h2;have e3 :(k.SF rd j).PC=0:=by
  unfold Bk.PC;have hn:¬6<(k.SF rd j).nt:=by show ¬6<k.nt;omega
  rw[if_neg hn];have:pA (k.SF rd j).aC (k.SF rd j).nt=none:=(MB _).2 fun i hi=> by
   unfold Bk.aC;have ZN:i<k.nt:=hi;have:ZA ((k.SF rd j).pf i) ((k.SF rd j).pt i) ((k.SF rd j).qf i) ((k.SF rd j).qt i)=true:=by
    have h4:ZA (k.pf i) (k.pt i) (k.qf i) (k.qt i)=true:=dC i ZN;show ZA (if i<j then OG (rd i) else k.pf i) (if i<j then oH (rd i) else k.pt i) (k.qf i) (k.qt i)=true;unfold ZA at h4 ⊢;simp only[Bool.and_eq_true,decide_eq_true_eq] at h4 ⊢;by_cases c:i<j
    ·have:=h i c;simp only[if_pos c];omega
    ·simp only[if_neg c];omega
   rw[this];rfl
  rw[this];rfl
 unfold Bk.VA;rw[if_pos e1,if_pos e2,e3]
theorem W6(k:Bk){r s:Nat->List Int}{j:Nat}(h:∀i,i<j->OG (r i)<=OG (s i)/\oH (s i)<=oH (r i)):(k.SF s j).KR (k.SF r j):=by
 refine⟨rfl,rfl,rfl,fun i x hx=> ?_⟩;have g1:x∈dK (if i<j then OG (s i) else k.pf i).toNat (if i<j then oH (s i) else k.pt i).toNat (k.kind (k.qf i)) (k.kind (k.qt i)):=hx;show x∈dK (if i<j then OG (r i) else k.pf i).toNat (if i<j then oH (r i) else k.pt i).toNat (k.kind (k.qf i)) (k.kind (k.qt i));rw[oJ] at g1 ⊢;by_cases c:i<j
 ·have:=h i c;simp only[if_pos c] at g1 ⊢;omega
 ·simp only[if_neg c] at g1 ⊢;exact g1
theorem aAP {L:List Value}{o:Nat}{a b:Value}(h:o<L.length):yE L o [a,b]=yE (yE L o [a]) (o+1) [b]:=by
 have e1:yE L o [a]=L.set o a:=by rw[<-MH L o a [] h,xO]
 rw[e1,MH L o a [b] h]
theorem aCy(k:Bk)(rd:Nat->List Int){j:Nat}(hj:j<k.nt)(jj:List Value):
  yE (QA k.nt (PA (k.SF rd j))++jj) (0+((j:Nat):Int).toNat*4+0) [.int .i64 (OG (rd j)),.int .i64 (oH (rd j))]=QA k.nt (PA (k.SF rd (j+1)))++jj:=by
 rw[Int.toNat_natCast,Nat.zero_add,Nat.add_zero,aAP (by rw[List.length_append,wC (f:=PA (k.SF rd j)) (sz:=4) (fun _=> rfl)];omega)];have h1:=YO (f:=PA (k.SF rd j)) (g:=fun i=> if i=j then [.int .i64 (OG (rd j)),.int .i64 (k.pt j),.int .i64 (k.qf j),.int .i64 (k.qt j)] else PA (k.SF rd j) i) (sz:=4) (i:=j) (d:=0) (n:=k.nt) (fun _=> rfl) hj dE jj (.int .i64 (OG (rd j))) (fun i _ uB=> by simp only[if_neg uB]) (by simp[PA,Bk.SF]);rw[Nat.add_zero] at h1;rw[h1];exact YO (f:=fun i=> if i=j then [.int .i64 (OG (rd j)),.int .i64 (k.pt j),.int .i64 (k.qf j),.int .i64 (k.qt j)] else PA (k.SF rd j) i) (g:=PA (k.SF rd (j+1))) (sz:=4) (i:=j) (d:=1) (n:=k.nt) (fun i=> by by_cases e:i=j <;> simp[e,PA]) hj dE jj (.int .i64 (oH (rd j)))
  (fun i hi uB=> by
   by_cases c:i<j
   ·have c2:i<j+1:=by omega
    simp[uB,PA,Bk.SF,c,c2]
   ·have c2:¬i<j+1:=by omega
    simp[uB,PA,Bk.SF,c,c2])
  (by simp[PA,Bk.SF])
section
variable(M:Md prog)(H:View)
theorem aAE(X:Option Addr)(l:List Int)(n xc:Nat)(hn:n=l.length)(h0:0<n)(hn6:n<=1000000)(hX:Sg.MG H X l)(hl:∀x∈l,0<=x/\x<=31):aA M 70 #[.slice X n xc] H (fun v H'=> H.le H'/\v=YB (OG l) (oH l)):=by
 obtain⟨m,rfl⟩:∃m,n=m+1:=⟨n-1,oM⟩
 rcases hX with h|⟨ab,ao,f,gs,gt,gz,rfl,hb,bR⟩
 ·rw[h] at hn;simp at hn
 have g1:=hl (l[0]?.getD 0) (by rw[List.getElem?_eq_getElem (show 0<l.length by omega)];exact List.getElem_mem _);have g2:=hl (l[m]?.getD 0) (by rw[List.getElem?_eq_getElem (show m<l.length by omega)];exact List.getElem_mem _);have e2:oH l=1+(l[m]?.getD 0)*3/32:=by unfold oH;rw[<-hn,Nat.add_sub_cancel]
 have f1:BC false 1 gs (ao+(0:Int).toNat*1)=some (.int .i64 (l[0]?.getD 0)):=bR 0 oM;have f2:=bR m oM;have s1:rA .sub .i64 ((m+1:Nat):Int) 1=some (.int .i64 ((m:Nat):Int)):=by rw[ZP oM oM];congr 2;omega
 have e1:OG l=1+(l[0]?.getD 0)*3/32:=rfl;rw[e1,e2];clear e1 e2;generalize l[0]?.getD 0=x at f1 g1 ⊢;generalize l[m]?.getD 0=y at f2 g2 ⊢;have m1:rA .mul .i64 x 3=some (.int .i64 (x*3)):=RB oM oM;have m2:rA .mul .i64 y 3=some (.int .i64 (y*3)):=RB oM oM;have q1:rA .quo .i64 (x*3) 32=some (.int .i64 (x*3/32)):=pH oM oM oM;have q2:rA .quo .i64 (y*3) 32=some (.int .i64 (y*3/32)):=pH oM oM oM;have a1:rA .add .i64 1 (x*3/32)=some (.int .i64 (1+x*3/32)):=LB oM oM;have a2:rA .add .i64 1 (y*3/32)=some (.int .i64 (1+y*3/32)):=LB oM oM;refine .en func70 ntmps70 fun St c cs hK=> ?_;refine U2 ?_;refine .al fun b2=> ?_;refine U2 ?_;refine Tc.dr [16] [0] mixed rfl ?_;refine V15 0 ?_;refine .z 15 rfl (xA.tk fun H hs=> aFv M H (1+x*3/32) (1+y*3/32)) ?_;refine .e 16 0 ?_;refine .dn ?_;refine .rt hK func70 results70 [_] ?_;exact okB
end
end Go.Proofs.YtldmfjcgjdchcaaGreatDoor
namespace Go.Proofs.YtldmfjcgjdchcaaGreatDoor
open Go.RL Go.Proofs.Tryz Go.ChangeShapes Go.WideShapes Go.ChangeAt Go.RowKit
set_option maxRecDepth 100000
section
variable {H:Type}{enc:TypeId×Value->H}{W:World}
theorem aFA {n:Int}(h:(Lit.int .u8 n).wf=true):0<=n/\n<=255:=by
 have e1:IntKind.u8.min=0:=by kernel_rfl
 have e2:IntKind.u8.max=255:=by kernel_rfl
 simp only[Lit.wf,Bool.and_eq_true,decide_eq_true_eq,e1,e2] at h;omega
theorem WX {n:Nat}{cs:List Value}{y:DataW H×List MemPlace}(h:DataW.trod enc prog W 0 (fun _=> true) true n 60 cs=some y):
  ∃(F:Option Addr) (m fc:Nat) (x:Nat->Nat),cs= [.slice F m fc]/\OH (NC W) F m x:=by
 rcases open_ints (by kernel_rfl:prog.underlying 60=some (.slice 5)) (by kernel_rfl:prog.underlying 5=some (.int .u8)) (by kernel_rfl:prog.cellsOf 5=1) h with ⟨h1,_⟩|⟨a',len,cap,zs,h1,_,h3,h4,h5,_,h7,h8⟩
 ·exact⟨none,0,0,fun _=> 0,h1,.inl rfl⟩
 ·simp only[if_true] at h5;refine⟨some a',len,cap,fun j=> (zs.getD j 0).toNat,h1,?_⟩;cases len with
  | zero=> exact .inl rfl
  | succ m=>
   obtain⟨ab,ao,spt⟩:=a';have h0:=h7 0 oM;have KY:spt=none:=by simpa [Addr.add] using World.cell?_spot h0
   subst KY;obtain⟨cs',gt,gz,e1,_⟩:=tE h0;have e1':W.heap[ab]? =some (.cells cs' gt gz):=by simpa [Addr.add] using e1
   refine .inr ⟨ab,ao,false,cs'.toList,gt,gz,rfl,by simp only[NC,e1',Option.map_some],fun j hj=> ?_⟩;have hw:0<=zs.getD j 0/\zs.getD j 0<=255:=by
    rw[List.getD_eq_getElem?_getD,List.getElem?_eq_getElem oM,Option.getD_some];exact aFA (h8 _ (List.getElem_mem _))
   have h9:=h7 j oM;rw[rM] at h9;obtain⟨cs2,gt',gz',e2,e3⟩:=tE h9;rw[e1'] at e2;cases e2
   refine⟨?_,by show(zs.getD j 0).toNat<256;omega⟩;show cs'.toList[ao+(j:Int).toNat*1]? =some (.int .u8 (((zs.getD j 0).toNat:Nat):Int));rw[Int.toNat_natCast,Nat.mul_one,Array.getElem?_toList,e3,Int.toNat_of_nonneg hw.1]
theorem AX {base:Nat}{v:Value}(hv:Value.okWide prog W .any base 60 v)(h:∃d q,DataW.Trod enc prog W 0 (fun _=> true) true 60 v d q):
  ∃(F:Option Addr) (m fc:Nat) (x:Nat->Nat),v=.slice F m fc/\OH (NC W) F m x:=by
 have lX:∃F m fc,v=.slice F m fc:=by
  unfold Value.okWide Cell.okWide Cell.ok at hv;rw[show prog.underlying 60=some (.slice 5) by kernel_rfl] at hv;cases v with
  | slice a b c=> exact⟨a,b,c,rfl⟩
  | _=> exact hv.elim
 obtain⟨F0,m0,c0,rfl⟩:=lX;obtain⟨d,q,n,h⟩:=h;obtain⟨F,m,fc,x,hx,h1⟩:=WX h;have vT:(Value.slice F0 m0 c0).cells.toList= [.slice F0 m0 c0]:=rfl;rw[vT] at hx;exact⟨F,m,fc,x,(List.cons.inj hx).1,h1⟩
end
end Go.Proofs.YtldmfjcgjdchcaaGreatDoor
namespace Go.Proofs.YtldmfjcgjdchcaaGreatDoor.Sg
open Go.RL Go.Proofs.Tryz
set_option maxRecDepth 10000
set_option maxHeartbeats 16000000
section
variable(M:Md prog)(H:View)
end
section
variable(M:Md prog)
end
theorem ML:∀co:Nat,co<32->(gA co 7)[0]?.getD 0=0/\2<=(gA co 7).length:=by decide +kernel
section
variable(M:Md prog)(H:View)
end
set_option maxHeartbeats 8000000
section
variable(M:Md prog)(H:View)
def Bad(k:Lk)(co:Int):Prop:=k.ok=false\/¬(0<=co/\co<=31)
theorem Bad.no {k:Lk}{co:Int}(h:Bad k co):¬(k.ok=true/\0<=co/\co<=31):=fun⟨h1,h2⟩=> h.elim (fun h=> by rw[h1] at h;cases h) (fun h=> h h2)
end
end Go.Proofs.YtldmfjcgjdchcaaGreatDoor.Sg
