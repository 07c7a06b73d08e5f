/-
 Texts of the proofs over baudot/dial.
-/
import Derived.Test.YtldmfjcgjdchcaaGreatDoorJ07
namespace Go.Proofs.YtldmfjcgjdchcaaGreatDoor
open Go.RL Go.Proofs.Tryz
set_option maxRecDepth 10000
set_option maxHeartbeats 16000000
structure MR(a b i j:Nat)(u:List Int):Prop where
 ai:a+1<=i
 ij:i<=j+1
 jb:j<b
 aj:a<=j
 lo:∀k,a<k->k<i->nA u k<=nA u a
 hi:∀k,j<k->k<b->nA u a<nA u k
theorem MR.start {a b:Nat}{u:List Int}(h:a<b):MR a b (a+1) (b-1) u:=⟨Nat.le_refl _,oM,oM,oM,fun k h1 h2=> by omega,fun k h1 h2=> by omega⟩
theorem MR.up {a b i j:Nat}{u:List Int}(h:MR a b i j u)(aO:i<=j)(hle:¬nA u a<nA u i):MR a b (i+1) j u:=
 ⟨by have:=h.ai;omega,oM,h.jb,h.aj,fun k h1 h2=> by
  by_cases e:k=i
  ·rw[e];omega
  ·exact h.lo k h1 oM,h.hi⟩
theorem MR.down {a b i j:Nat}{u:List Int}(h:MR a b i j u)(aO:i<=j)(NB:nA u a<nA u j):MR a b i (j-1) u:=
 ⟨h.ai,oM,by have:=h.jb;omega,by have:=h.ai;omega,h.lo,fun k h1 h2=> by
  by_cases e:k=j
  ·rw[e];exact NB
  ·exact h.hi k oM h2⟩
theorem MR.swap {a b i j:Nat}{u:List Int}(h:MR a b i j u)(hl:b<=u.length)(aO:i<=j)(h1:nA u a<nA u i)(h2:¬nA u a<nA u j):i<j/\MR a b (i+1) (j-1) (MA u i j)/\nA (MA u i j) a=nA u a:=by
 have ha:=h.ai;have hb:=h.jb;have uB:i≠j:=by
  rintro rfl;omega
 have hs:=fun q=> xB (l:=u) (p:=i) (q:=j) oM oM q;have h0:nA (MA u i j) a=nA u a:=by rw[hs,if_neg oM,if_neg oM]
 refine⟨oM,⟨oM,oM,oM,oM,fun k h3 h4=> ?_,fun k h3 h4=> ?_⟩,h0⟩
 ·rw[h0,hs,if_neg oM];by_cases e:k=i
  ·rw[if_pos e];omega
  ·rw[if_neg e];exact h.lo k h3 oM
 ·rw[h0,hs];by_cases e:k=j
  ·rw[if_pos e];exact h1
  ·rw[if_neg e,if_neg oM];exact h.hi k oM h4
structure lM(a b c:Nat)(x:Int)(u:List Int):Prop where
 ac:a<c
 cb:c<=b
 lo:∀k,a<=k->k<c->nA u k<=x
 hi:∀k,c<=k->k<b->x<nA u k
theorem MR.fin {a b i j:Nat}{u:List Int}(h:MR a b i j u)(aO:j<i){x:Int}(hx:nA u a=x):lM a b i x u:=by
 have h1:=h.ij;have h2:=h.ai;have h3:=h.jb;exact⟨oM,oM,fun k g1 g2=> by
  by_cases e:k=a
  ·rw[e,hx];exact Int.le_refl _
  ·rw[<-hx];exact h.lo k oM g2,fun k g1 g2=> by rw[<-hx];exact h.hi k oM g2⟩
section
variable(M:Md prog)(H:View)
theorem K0(dec:Int->List UInt8)(sb:Nat)(l:List Int)(jj:List Value)(n cap a b pv:Nat)(hn:n=l.length)(hE:SN dec l)(hb:b<=n)(fD:n<=100000000)(hp:a<=pv/\pv<b)(hS:H sb=some (true,.cells ⟨(tA dec l)++jj⟩ 9 (0,0))):
  aA M 263 #[.slice (some ⟨sb,0,none⟩) n cap,.int .i64 (a:Nat),.int .i64 (b:Nat),.int .i64 (pv:Nat)] H (pB dec H sb jj (fun v m=> ∃s:Nat×List Int,v=.int .i64 (s.1:Nat)/\m=s.2/\(iA a b l s.2/\lM a b s.1 (nA l pv) s.2))):=by
 refine aA.enter (vs:= [.slice (some ⟨sb,0,none⟩) n cap,.int .i64 (a:Nat),.int .i64 (b:Nat),.int .i64 (pv:Nat)]) func263 rfl ntmps263 (Nat.le_of_ble_eq_true rfl) (kA.pull hS) fun St c cs hK=> ?_;have hx0:nA (MA l a pv) a=nA l pv:=by
  rw[xB oM oM];by_cases e:a=pv
  ·rw[if_pos e,e]
  ·rw[if_neg e,if_pos rfl]
 have hu:iA a b l (MA l a pv):=iA.swap oM oM oM oM;have eb:((b:Nat):Int)-1=((b-1:Nat):Int):=by omega
 have ea:rA .add .i64 (a:Nat) 1=some (.int .i64 ((a+1:Nat):Int)):=by rw[LB oM oM];rfl
 have y1:=yA (dec:=dec) (m:=l) (j:=jj) (k:=(a:Nat)) (p:=a) rfl oM;have y2:=yA (dec:=dec) (m:=l) (j:=jj) (k:=(pv:Nat)) (p:=pv) rfl oM;have y3:=JA (dec:=dec) (m:=l) (j:=jj) (k:=(a:Nat)) (x:=nA l (pv)) (p:=a) rfl oM;have y4:=JA (dec:=dec) (m:=(l).set (a) (nA l (pv))) (j:=jj) (k:=(pv:Nat)) (x:=nA l (a)) (p:=pv) rfl (by rw[List.length_set];omega);have y5:=IA (dec:=dec) (m:=l) (j:=jj) (k:=(a:Nat)) (p:=a) rfl oM;have y6:=IA (dec:=dec) (m:=(l).set (a) (nA l (pv))) (j:=jj) (k:=(pv:Nat)) (p:=pv) rfl (by rw[List.length_set];omega);refine U5 ?_;refine Tc.dr [13,15] [0] mixed rfl ?_;refine V2 0 ?_;refine .nw 2 ?_;refine .nw 3 ?_;refine V4 4 ?_;refine .nw 8 ?_;refine .nw 9 ?_;refine .nw 10 ?_;refine V2 11 ?_;refine .e 13 0 ?_;refine .nw 14 ?_;refine .e 15 0 ?_;refine .dn ?_;refine U9 ?_;rw[eb];refine U2 ?_;refine Tc.db (Tc.sA (σ:= { s:Nat×Nat×List Int//MR a b s.1 s.2.1 s.2.2/\iA a b l s.2.2/\nA s.2.2 a=nA l pv }) (fun s=> ([(0,.slice (some ⟨sb,0,none⟩) n cap),(1,.int .i64 (a:Nat)),(9,.int .i64 (s.1.1:Nat)),(10,.int .i64 (s.1.2.1:Nat))],[(sb,true,.cells ⟨(tA dec s.1.2.2)++jj⟩ 9 (0,0))])) (fun s=> s.1.2.1+1-s.1.1) ?_
  ⟨(a+1,b-1,MA l a pv),MR.start oM,hu,hx0⟩)
 clear y1 y2 y3 y4 y5 y6 hx0 hu;rintro⟨⟨i,j,w⟩,g1,g2,g3⟩ ih0;simp only at g1 g2 g3;have LY:=g2.len;have TW:=hE.zD g2;have g1a:=g1.ai;have g1b:=g1.ij;have g1c:=g1.jb;show Tc M St _ _ _ _ [(0,.slice (some ⟨sb,0,none⟩) n cap),(1,.int .i64 (a:Nat)),(9,.int .i64 (i:Nat)),(10,.int .i64 (j:Nat))] [(sb,true,.cells ⟨(tA dec w)++jj⟩ 9 (0,0))] _ _;have za:=yA (dec:=dec) (m:=w) (j:=jj) (k:=(a:Nat)) (p:=a) rfl oM;refine U2 ?_;refine pD (fun R' L'=> ∃s,i<=s/\MR a b s j w/\(s<=j->nA w a<nA w s)/\OB [(0,.slice (some ⟨sb,0,none⟩) n cap),(1,.int .i64 (a:Nat)),(9,.int .i64 (s:Nat)),(10,.int .i64 (j:Nat))] R'/\L'= [(sb,true,.cells ⟨(tA dec w)++jj⟩ 9 (0,0))]) ?_ (fun fin=> ?_)
 ·rintro R' _ ⟨i2,i2le,p1,x1,yG,rfl⟩;refine Tc.gC ?_ yG (List.Sublist.refl _);have p1a:=p1.ai;have p1b:=p1.ij;have p1c:=p1.jb;refine U ?_;refine pD (fun R' L'=> ∃s,s<=j/\MR a b i2 s w/\(i2<=s->¬nA w a<nA w s)/\OB [(0,.slice (some ⟨sb,0,none⟩) n cap),(1,.int .i64 (a:Nat)),(9,.int .i64 (i2:Nat)),(10,.int .i64 (s:Nat))] R'/\L'= [(sb,true,.cells ⟨(tA dec w)++jj⟩ 9 (0,0))]) ?_ (fun fin=> ?_)
  ·rintro R' _ ⟨j2,j2le,p2,x2,yG,rfl⟩;refine Tc.gC ?_ yG (List.Sublist.refl _);have p2a:=p2.ai;have p2b:=p2.ij;have p2c:=p2.jb;have p2d:=p2.aj;by_cases d:j2<i2
   ·refine lF ?_;refine .rt hK func263 results263 [_] ?_;exact fun H' hs=> pB.of (dec:=dec) hs (i:=0) rfl ⟨(i2,w),rfl,rfl,g2,p2.fin d g3⟩
   ·obtain⟨w1,w2,w3⟩:=p2.swap oM oM (x1 oM) (x2 oM);have e2:((j2:Nat):Int)-1=((j2-1:Nat):Int):=by omega
    have ei:rA .add .i64 (i2:Nat) 1=some (.int .i64 ((i2+1:Nat):Int)):=by rw[LB oM oM];rfl
    refine UC ?_;have z1:=yA (dec:=dec) (m:=w) (j:=jj) (k:=(i2:Nat)) (p:=i2) rfl oM;have z2:=yA (dec:=dec) (m:=w) (j:=jj) (k:=(j2:Nat)) (p:=j2) rfl oM;have z3:=JA (dec:=dec) (m:=w) (j:=jj) (k:=(i2:Nat)) (x:=nA w (j2)) (p:=i2) rfl oM;have z4:=JA (dec:=dec) (m:=(w).set (i2) (nA w (j2))) (j:=jj) (k:=(j2:Nat)) (x:=nA w (i2)) (p:=j2) rfl (by rw[List.length_set];omega);have z5:=IA (dec:=dec) (m:=w) (j:=jj) (k:=(i2:Nat)) (p:=i2) rfl oM;have z6:=IA (dec:=dec) (m:=(w).set (i2) (nA w (j2))) (j:=jj) (k:=(j2:Nat)) (p:=j2) rfl (by rw[List.length_set];omega);refine Tc.dr [13,15] [0] mixed rfl ?_;refine V2 0 ?_;refine .nw 2 ?_;refine .nw 3 ?_;refine V4 4 ?_;refine .nw 8 ?_;refine .nw 9 ?_;refine .nw 10 ?_;refine V2 11 ?_;refine .e 13 0 ?_;refine .nw 14 ?_;refine .e 15 0 ?_;refine .dn ?_;refine YD ?_;rw[e2];refine U ?_;exact Tc.db (ih0 ⟨(i2+1,j2-1,MA w i2 j2),w2,g2.trans (iA.swap oM oM oM oM),w3.trans g3⟩ (by simp only;omega))
  ·refine Tc.db (Tc.sA (σ:= { s:Nat//s<=j/\MR a b i2 s w }) (fun s=> ([(0,.slice (some ⟨sb,0,none⟩) n cap),(1,.int .i64 (a:Nat)),(9,.int .i64 (i2:Nat)),(10,.int .i64 (s.1:Nat))],[(sb,true,.cells ⟨(tA dec w)++jj⟩ 9 (0,0))])) (fun s=> s.1) ?_ ⟨j,Nat.le_refl _,p1⟩);rintro⟨s,q1,q2⟩ ih;have q3:=q2.ai;have q4:=q2.ij;have q5:=q2.jb;show Tc M St _ _ _ _ [(0,.slice (some ⟨sb,0,none⟩) n cap),(1,.int .i64 (a:Nat)),(9,.int .i64 (i2:Nat)),(10,.int .i64 (s:Nat))] [(sb,true,.cells ⟨(tA dec w)++jj⟩ 9 (0,0))] _ _;by_cases c1:i2<=s
   ·have zs:=yA (dec:=dec) (m:=w) (j:=jj) (k:=(s:Nat)) (p:=s) rfl oM;have es:((s:Nat):Int)-1=((s-1:Nat):Int):=by omega
    by_cases c2:nA w a<nA w s
    ·refine U2 ?_;refine Tc.dr [] [] mixed rfl ?_;refine vI 0 ?_;refine .z 12 rfl (xA.tk fun H hs=> nC M H TW (zA oM) (zA oM) true (decide_eq_true c2)) ?_;refine .nn 13 ?_;refine .dn ?_;refine U8 ?_;rw[es];refine U ?_;exact Tc.db (ih ⟨s-1,oM,q2.down c1 c2⟩ (by simp only;omega))
    ·repeat (refine Tc.seq ?_)
     refine Tc.dr [] [] mixed rfl ?_;refine vI 0 ?_;refine .z 12 rfl (xA.tk fun H hs=> nC M H TW (zA oM) (zA oM) false (decide_eq_false c2)) ?_;refine .nn 13 ?_;refine .dn ?_;refine U2 ?_;exact fin _ _ ⟨s,q1,q2,fun _=> c2,⟨rfl,rfl,rfl,rfl,trivial⟩,rfl⟩
   ·repeat (refine Tc.seq ?_)
    refine Tc.dr [] [] mixed rfl ?_;refine V4 0 ?_;refine .nw 4 ?_;refine .nw 5 ?_;refine .nw 6 ?_;refine .nw 7 ?_;refine .nw 8 ?_;refine .nw 9 ?_;refine .nw 10 ?_;refine .nw 11 ?_;refine .nw 12 ?_;refine .nn 13 ?_;refine .dn ?_;refine U2 ?_;exact fin _ _ ⟨s,q1,q2,fun h=> (c1 h).elim,⟨rfl,rfl,rfl,rfl,trivial⟩,rfl⟩
 ·refine Tc.db (Tc.sA (σ:= { s:Nat//i<=s/\MR a b s j w }) (fun s=> ([(0,.slice (some ⟨sb,0,none⟩) n cap),(1,.int .i64 (a:Nat)),(9,.int .i64 (s.1:Nat)),(10,.int .i64 (j:Nat))],[(sb,true,.cells ⟨(tA dec w)++jj⟩ 9 (0,0))])) (fun s=> j+1-s.1) ?_ ⟨i,Nat.le_refl _,g1⟩);rintro⟨s,q1,q2⟩ ih;have q3:=q2.ai;have q4:=q2.ij;have q5:=q2.jb;show Tc M St _ _ _ _ [(0,.slice (some ⟨sb,0,none⟩) n cap),(1,.int .i64 (a:Nat)),(9,.int .i64 (s:Nat)),(10,.int .i64 (j:Nat))] [(sb,true,.cells ⟨(tA dec w)++jj⟩ 9 (0,0))] _ _;by_cases c1:s<=j
  ·have zs:=yA (dec:=dec) (m:=w) (j:=jj) (k:=(s:Nat)) (p:=s) rfl oM;have es:rA .add .i64 (s:Nat) 1=some (.int .i64 ((s+1:Nat):Int)):=by rw[LB oM oM];rfl
   by_cases c2:nA w a<nA w s
   ·repeat (refine Tc.seq ?_)
    refine Tc.dr [] [] mixed rfl ?_;refine vI 0 ?_;refine .z 12 rfl (xA.tk fun H hs=> nC M H TW (zA oM) (zA oM) true (decide_eq_true c2)) ?_;refine V2 13 ?_;refine .dn ?_;refine U2 ?_;exact fin _ _ ⟨s,q1,q2,fun _=> c2,⟨rfl,rfl,rfl,rfl,trivial⟩,rfl⟩
   ·refine U2 ?_;refine Tc.dr [] [] mixed rfl ?_;refine vI 0 ?_;refine .z 12 rfl (xA.tk fun H hs=> nC M H TW (zA oM) (zA oM) false (decide_eq_false c2)) ?_;refine V2 13 ?_;refine .dn ?_;refine U9 ?_;exact Tc.db (ih ⟨s+1,oM,q2.up c1 c2⟩ (by simp only;omega))
  ·repeat (refine Tc.seq ?_)
   refine Tc.dr [] [] mixed rfl ?_;refine V4 0 ?_;refine .nw 4 ?_;refine .nw 5 ?_;refine .nw 6 ?_;refine .nw 7 ?_;refine .nw 8 ?_;refine .nw 9 ?_;refine .nw 10 ?_;refine .nw 11 ?_;refine .nw 12 ?_;refine .nw 13 ?_;refine .nn 14 ?_;refine .dn ?_;refine U2 ?_;exact fin _ _ ⟨s,q1,q2,fun h=> (c1 h).elim,⟨rfl,rfl,rfl,rfl,trivial⟩,rfl⟩
end
def oE(l:List Int)(a b a' b':Nat)(u:List Int):Prop:=∀m,iA a' b' u m->TC a' b' m->iA a b l m/\TC a b m
theorem oE.bF {l u w:List Int}{a b a' b':Nat}(h:oE l a b a' b' u)(k:iA a' b' u w):oE l a b a' b' w:=fun m h1 h2=> h m (k.trans h1) h2
theorem XB.left {a b c:Nat}{u:List Int}(h:XB a b u)(k:c<=b):XB a c u:=by
 rcases h with h|h
 ·exact .inl h
 ·exact .inr fun i h1 h2=> h i h1 oM
theorem XB.keep {a c b:Nat}{u w:List Int}(h:XB a c u)(k:iA (c+1) b u w):XB a c w:=by
 rcases h with h|h
 ·exact .inl h
 ·refine .inr fun i h1 h2=> ?_;rw[k.out (a-1) (.inl oM),k.out i (.inl oM)];exact h i h1 h2
theorem oE.right {l u x:List Int}{a b a' b' c:Nat}(h:oE l a b a' b' u)(k:Part a' b' c u)(hl:b'<=u.length)(h1:iA a' c u x)(s1:TC a' c x):oE l a b (c+1) b' x:=fun m h2 s2=> by
 obtain⟨g1,g2⟩:=k.sorted hl h1 s1 h2 s2;exact h m g1 g2
theorem oE.left {l u x:List Int}{a b a' b' c:Nat}(h:oE l a b a' b' u)(k:Part a' b' c u)(hl:b'<=u.length)(h1:iA (c+1) b' u x)(s1:TC (c+1) b' x):oE l a b a' c x:=fun m h2 s2=> by
 obtain⟨g1,g2⟩:=k.aT hl h1 s1 h2 s2;exact h m g1 g2
theorem Part.ahead {a b c:Nat}{u x:List Int}(k:Part a b c u)(h1:iA a c u x):XB (c+1) b x:=.inr fun i g1 g2=> by
 have e:c+1-1=c:=by omega
 rw[e];have h2:=k.hi i oM g2;rw[<-h1.out c (.inr (Nat.le_refl _)),<-h1.out i (.inr oM)] at h2;exact h2
theorem lM.ahead {a b c:Nat}{x:Int}{w:List Int}(k:lM a b c x w):XB c b w:=.inr fun i g1 g2=> by
 have h1:=k.ac;have h2:=k.lo (c-1) oM oM;have h3:=k.hi i g1 g2;omega
theorem oE.eq {l u w:List Int}{a b a' b' c:Nat}{x:Int}(h:oE l a b a' b' u)(k:lM a' b' c x w)(ht:iA a' b' u w)(YV:∀i,a'<=i->i<b'->x<=nA w i)(hl:b'<=w.length):oE l a b c b' w:=fun m h1 s1=> by
 have c1:=k.ac;have c2:=k.cb;refine h m (ht.trans (h1.wide oM (Nat.le_refl _))) fun p q g1 g2 g3=> ?_;have GM:∀i,a'<=i->i<c->nA m i=x:=fun i e1 e2=> by
  rw[h1.out i (.inl e2)];have e3:=k.lo i e1 e2;have e4:=YV i e1 oM;omega
 have lQ:∀i,c<=i->i<b'->x<nA m i:=h1.all hl (P:=fun z=> x<z) k.hi;by_cases d1:q<c
 ·rw[GM p g1 oM,GM q oM d1];exact Int.le_refl _
 ·by_cases d2:p<c
  ·rw[GM p g1 d2];have:=lQ q oM g3;omega
  ·exact s1 p q oM g2 g3
theorem Or.cT {dec:Int->List UInt8}{M:Md prog}{n:Nat}{H₀:View}{R:Rg}{L:Bl}{o:Oper}{K:Rg->Bl->Prop}{cl:Go.Call}{x:Operand}{fv:Value}{az:List Value}{d:Nat}{σ:Type}(i:Nat){sb:Nat}{l:List Int}{j:List Value}(val:σ->Value)(mm:σ->List Int)(p:σ->Prop)
  (qA:o.op=.call cl) (yB:cl.callee=.value x) (hx:RA R x=some fv) (has:FD R cl.args.toList=some az) (hd:o.dst=some d) (hn:d<n) (hi:L[i]? =some (sb,true,.cells ⟨(tA dec l)++j⟩ 9 (0,0)))
  (hc:∀H,kA H₀ L H->CB M fv az H (pB dec H sb j fun v m=> ∃s,v=val s/\m=mm s/\p s)) (hk:∀s,p s->K ((d,val s)::R) (L.set i (sb,true,.cells ⟨(tA dec (mm s))++j⟩ 9 (0,0)))):Or M n H₀ R L o K:=
 Or.YE i (fun v m=> ∃s,v=val s/\m=mm s/\p s) qA yB hx has hd hn hi hc fun v m h=> by
  obtain⟨s,rfl,rfl,h3⟩:=h;exact hk s h3
section
variable(M:Md prog)
theorem aCu (dec:Int->List UInt8)(sb:Nat)(jj:List Value)(n cap:Nat)(h40:n<=100000000):∀(d:Nat) (H:View) (l:List Int) (a b lim:Nat),b-a<d->n=l.length->a<=b->b<=n->lim<=100->SN dec l->XB a b l->H sb=some (true,.cells ⟨(tA dec l)++jj⟩ 9 (0,0))-> 
  aA M 196 #[.slice (some ⟨sb,0,none⟩) n cap,.int .i64 (a:Nat),.int .i64 (b:Nat),.int .i64 (lim:Nat)] H (pB dec H sb jj (fun v m=> v=.tuple ⟨[]⟩/\iA a b l m/\TC a b m)):=by
 intro d;induction d with
 | zero=> intro H l a b lim hd;omega
 | succ d ihd=>
 intro H l a b lim hd hn pI hb aGd hE hah hS;refine aA.enter (vs:= [.slice (some ⟨sb,0,none⟩) n cap,.int .i64 (a:Nat),.int .i64 (b:Nat),.int .i64 (lim:Nat)]) func196 rfl ntmps196 (Nat.le_of_ble_eq_true rfl) (kA.pull hS) fun St c cs hK=> ?_;refine U9 ?_;refine Tc.db (Tc.sA (σ:= { s:Nat×Nat×Nat×Bool×Bool×List Int//a<=s.1/\s.1<=s.2.1/\s.2.1<=b/\s.2.2.1<=lim/\iA a b l s.2.2.2.2.2/\oE l a b s.1 s.2.1 s.2.2.2.2.2/\XB s.1 s.2.1 s.2.2.2.2.2 }) (fun s=> ([(0,.slice (some ⟨sb,0,none⟩) n cap),(1,.int .i64 (s.1.1:Nat)),(2,.int .i64 (s.1.2.1:Nat)),(3,.int .i64 (s.1.2.2.1:Nat)),(8,.bool s.1.2.2.2.1),(9,.bool s.1.2.2.2.2.1)],[(sb,true,.cells ⟨(tA dec s.1.2.2.2.2.2)++jj⟩ 9 (0,0))])) (fun s=> s.1.2.1-s.1.1) ?_
  ⟨(a,b,lim,true,true,l),Nat.le_refl _,pI,Nat.le_refl _,Nat.le_refl _,iA.refl ..,fun m h1 h2=> ⟨h1,h2⟩,hah⟩)
 rintro⟨⟨a',b',lm,wb,wp,u⟩,g1,g2,g3,g4,g5,g6,g7⟩ ih;simp only at g1 g2 g3 g4 g5 g6 g7;have yI:=g5.len;have PJ:=hE.zD g5;obtain⟨m,hm⟩:∃m,m=b'-a':=⟨_,rfl⟩
 have e0:((b':Nat):Int)-((a':Nat):Int)=((m:Nat):Int):=by omega
 show Tc M St _ _ _ _ [(0,.slice (some ⟨sb,0,none⟩) n cap),(1,.int .i64 (a':Nat)),(2,.int .i64 (b':Nat)),(3,.int .i64 (lm:Nat)),(8,.bool wb),(9,.bool wp)] [(sb,true,.cells ⟨(tA dec u)++jj⟩ 9 (0,0))] _ _;refine U8 ?_;rw[e0];refine U2 ?_;by_cases c1:m<=12
 ·refine UC ?_;refine .e (Or.YE (dec:=dec) (l:=u) 0 (fun v m=> v=.tuple ⟨[]⟩/\iA a' b' u m/\TC a' b' m) rfl rfl rfl rfl rfl dE rfl (fun H hs=> .h (DL M H dec sb u jj n cap a' b' oM PJ oM oM oM (hs.get (i:=0) rfl))) (fun v w ⟨_,wt,ws⟩=> ?_));refine U ?_;refine .rt hK func196 results196 [] ?_;exact fun H' hs=> pB.of (dec:=dec) hs (i:=0) rfl ⟨rfl,g6 w wt ws⟩
 ·refine U8 ?_;by_cases c2:lm=0
  ·refine UC ?_;refine .e (Or.YE (dec:=dec) (l:=u) 0 (fun v m=> v=.tuple ⟨[]⟩/\iA a' b' u m/\TC a' b' m) rfl rfl rfl rfl rfl dE rfl (fun H hs=> .h (zU M H dec sb u jj n cap a' b' oM PJ oM oM oM (hs.get (i:=0) rfl))) (fun v w ⟨_,wt,ws⟩=> ?_));refine U ?_;refine .rt hK func196 results196 [] ?_;exact fun H' hs=> pB.of (dec:=dec) hs (i:=0) rfl ⟨rfl,g6 w wt ws⟩
  ·refine U7 ?_;refine Tc.via (fun R' L'=> ∃(lm1:Nat) (x:List Int),lm1<=lm/\iA a' b' u x/\OB [(0,.slice (some ⟨sb,0,none⟩) n cap),(1,.int .i64 (a':Nat)),(2,.int .i64 (b':Nat)),(3,.int .i64 (lm1:Nat)),(8,.bool wb),(9,.bool wp),(10,.int .i64 (m:Nat))] R'/\L'= [(sb,true,.cells ⟨(tA dec x)++jj⟩ 9 (0,0))]) ?_ (fun fin=> ?_)
   ·rintro R' _ ⟨lm1,x,o1,o2,yG,rfl⟩;refine Tc.gC ?_ yG (List.Sublist.refl _);have hxl:=o2.len;refine U5 ?_;refine .e (Or.SB Q6 (fun _=> []) (fun s:Nat×Nat=> a'<=s.1/\s.1<b'/\s.2<=2) rfl rfl rfl rfl rfl dE (fun _=> by simp) (fun H hs=> .h (KO M H dec sb true x jj n cap a' b' oM (PJ.zD o2) h40 oM oM (hs.get (i:=0) rfl))) (fun⟨p,h⟩ ⟨v1,v2,v3⟩=> ?_));refine U6 ?_;simp only at v1 v2 v3;refine U ?_;refine Tc.via (fun R' L'=> ∃(p:Nat) (y:List Int),a'<=p/\p<b'/\iA a' b' x y/\(∃h:Nat,OB [(0,.slice (some ⟨sb,0,none⟩) n cap),(1,.int .i64 (a':Nat)),(2,.int .i64 (b':Nat)),(3,.int .i64 (lm1:Nat)),(8,.bool wb),(9,.bool wp),(10,.int .i64 (m:Nat)),(11,.int .i64 (p:Nat)),(12,.int .i64 (h:Nat))] R')/\L'= [(sb,true,.cells ⟨(tA dec y)++jj⟩ 9 (0,0))]) ?_ (fun fin=> ?_)
    ·clear v1 v2 v3;rintro R' _ ⟨p,y,v1,v2,o3,⟨h,yG⟩,rfl⟩;refine Tc.gC ?_ yG (List.Sublist.refl _);have hyl:=o3.len;refine U ?_;refine Tc.via (fun R' L'=> ∃y':List Int,iA a' b' y y'/\OB [(0,.slice (some ⟨sb,0,none⟩) n cap),(1,.int .i64 (a':Nat)),(2,.int .i64 (b':Nat)),(3,.int .i64 (lm1:Nat)),(8,.bool wb),(9,.bool wp),(10,.int .i64 (m:Nat)),(11,.int .i64 (p:Nat))] R'/\L'= [(sb,true,.cells ⟨(tA dec y')++jj⟩ 9 (0,0))]) ?_ (fun fin=> ?_)
     ·rintro R' _ ⟨y,o4,yG,rfl⟩;refine Tc.gC ?_ yG (List.Sublist.refl _);clear yG;replace o3:=o3.trans o4;have hyl:=o3.len;have hEy:=PJ.zD (o2.trans o3);refine U ?_;have g5y:=(g5.trans ((o2.trans o3).wide g1 g3))
      have gy:oE l a b a' b' y:=g6.bF (o2.trans o3);have ay:XB a' b' y:=g7.bF (o2.trans o3) oM;refine Tc.via (fun R' L'=> OB [(0,.slice (some ⟨sb,0,none⟩) n cap),(1,.int .i64 (a':Nat)),(2,.int .i64 (b':Nat)),(3,.int .i64 (lm1:Nat)),(8,.bool wb),(9,.bool wp),(10,.int .i64 (m:Nat)),(11,.int .i64 (p:Nat))] R'/\L'= [(sb,true,.cells ⟨(tA dec y)++jj⟩ 9 (0,0))]) ?_ (fun fin=> ?_)
      ·rintro R' _ ⟨yG,rfl⟩;refine Tc.gC ?_ yG (List.Sublist.refl _);clear yG;refine U6 ?_;refine .e (Or.cT (dec:=dec) (l:=y) 0 (fun s:Nat×Bool×List Int=> .tuple ⟨[.int .i64 (s.1:Nat),.bool s.2.1]⟩) (fun s=> s.2.2) (fun s=> iA a' b' y s.2.2/\Part a' b' s.1 s.2.2) rfl rfl rfl rfl rfl dE rfl (fun H hs=> .h (QS M H dec sb y jj n cap a' b' p oM hEy oM oM oM (hs.get (i:=0) rfl))) (fun⟨FE,al,w⟩ ⟨k1,k2⟩=> ?_));refine U6 ?_;simp only at k1 k2;have k3:=k2.aj;have k4:=k2.jb;have LY:=k1.len;have TW:=hEy.zD k1;have gw:oE l a b a' b' w:=gy.bF k1;have aw:XB a' b' w:=ay.bF k1 oM;have e1:((FE:Nat):Int)-((a':Nat):Int)=((FE-a':Nat):Int):=by omega
       have e2:((b':Nat):Int)-((FE:Nat):Int)=((b'-FE:Nat):Int):=by omega
       have hq:rA .quo .i64 ((m:Nat):Int) 8=some (.int .i64 ((m/8:Nat):Int)):=by
        rw[pH oM oM oM]
        congr 2
       have hgt:∀x y:Nat,rA .geq .i64 ((x:Nat):Int) ((y:Nat):Int)=some (.bool (decide (y<=x))):=fun x y=> by
        by_cases c:y<=x
        ·rw[decide_eq_true c];exact oI oM
        ·rw[decide_eq_false c];exact VG oM
       have B8:=hgt (FE-a') (m/8);have YN:=hgt (b'-FE) (m/8);refine lN ?_;rw[e1,e2];refine U7 ?_;by_cases c5:FE-a'<b'-FE
       ·refine UC ?_;refine .i ?_ (z:=B8);refine U8 ?_;refine .e (Or.YE (dec:=dec) (l:=w) 0 (fun v m=> v=.tuple ⟨[]⟩/\iA a' FE w m/\TC a' FE m) rfl rfl rfl rfl rfl dE rfl (fun H hs=> .h (ihd H w a' FE lm1 oM oM oM oM oM TW (aw.left oM) (hs.get (i:=0) rfl))) (fun v x ⟨_,xt,xs⟩=> ?_));refine U7 ?_;have hxn:=xt.len;have r1:iA a b l x:=g5y.trans ((k1.trans (xt.wide oM oM)).wide oM oM);have r2:oE l a b (FE+1) b' x:=gw.right k2 oM xt xs;have r3:XB (FE+1) b' x:=k2.ahead xt;have r4:lm1<=lim:=by omega
        have r5:a<=FE+1:=by omega
        have r6:FE+1<=b':=by omega
        exact Tc.db (ih ⟨(FE+1,b',lm1,decide (m/8<=FE-a'),al,x),r5,r6,g3,r4,r1,r2,r3⟩ (by simp only;omega))
       ·refine UC ?_;refine .i ?_ (z:=YN);refine U9 ?_;refine .e (Or.YE (dec:=dec) (l:=w) 0 (fun v m=> v=.tuple ⟨[]⟩/\iA (FE+1) b' w m/\TC (FE+1) b' m) rfl rfl rfl rfl rfl dE rfl (fun H hs=> .h (ihd H w (FE+1) b' lm1 oM oM oM oM oM TW (k2.ahead (iA.refl a' FE w)) (hs.get (i:=0) rfl))) (fun v x ⟨_,xt,xs⟩=> ?_));refine U6 ?_;have r1:iA a b l x:=g5y.trans ((k1.trans (xt.wide oM oM)).wide oM oM);have r2:oE l a b a' FE x:=gw.left k2 oM xt xs;have r3:XB a' FE x:=(aw.left oM).keep xt;have r4:lm1<=lim:=by omega
        have r5:a'<=FE:=by omega
        have r6:FE<=b:=by omega
        exact Tc.db (ih ⟨(a',FE,lm1,decide (m/8<=b'-FE),al,x),g1,r5,r6,r4,r1,r2,r3⟩ (by simp only;omega))
      ·by_cases c3:a'=0
       ·subst c3;refine U ?_;refine Tc.dr [] [] mixed rfl ?_;refine V3 0 ?_;refine .nw 3 ?_;refine .nw 4 ?_;refine .nw 5 ?_;refine .nw 6 ?_;refine .nw 7 ?_;refine .nw 8 ?_;refine .nw 9 ?_;refine .nw 10 ?_;refine .nw 11 ?_;refine .nw 12 ?_;refine .nw 13 ?_;refine .nn 14 ?_;refine .dn ?_;refine U2 ?_;exact Tc.db (fin [(0,.slice (some ⟨sb,0,none⟩) n cap),(1,.int .i64 (0:Nat)),(2,.int .i64 (b':Nat)),(3,.int .i64 (lm1:Nat)),(8,.bool wb),(9,.bool wp),(10,.int .i64 (m:Nat)),(11,.int .i64 (p:Nat))] [(sb,true,.cells ⟨(tA dec y)++jj⟩ 9 (0,0))] ⟨⟨rfl,rfl,rfl,rfl,rfl,rfl,rfl,rfl,trivial⟩,rfl⟩)
       ·have ea:((a':Nat):Int)-1=((a'-1:Nat):Int):=by omega
        have y1:=yA (dec:=dec) (m:=y) (j:=jj) (k:=((a':Nat):Int)-1) (p:=a'-1) oM oM;have y2:=yA (dec:=dec) (m:=y) (j:=jj) (k:=(p:Nat)) (p:=p) rfl oM;by_cases NB:nA y (a'-1)<nA y p
        ·refine U ?_;refine Tc.dr [] [] mixed rfl ?_;refine vI 0 ?_;refine .z 12 rfl (xA.tk fun H hs=> nC M H hEy (zA oM) (zA oM) true (decide_eq_true NB)) ?_;refine V2 13 ?_;refine .dn ?_;refine U2 ?_;exact Tc.db (fin [(0,.slice (some ⟨sb,0,none⟩) n cap),(1,.int .i64 (a':Nat)),(2,.int .i64 (b':Nat)),(3,.int .i64 (lm1:Nat)),(8,.bool wb),(9,.bool wp),(10,.int .i64 (m:Nat)),(11,.int .i64 (p:Nat))] [(sb,true,.cells ⟨(tA dec y)++jj⟩ 9 (0,0))] ⟨⟨rfl,rfl,rfl,rfl,rfl,rfl,rfl,rfl,trivial⟩,rfl⟩)
        ·have YV:∀i,a'<=i->i<b'->nA y p<=nA y i:=fun i q1 q2=> by
          rcases ay with h0|h0
          ·exact absurd h0 c3
          ·have:=h0 i q1 q2;omega
         refine U ?_;refine Tc.dr [] [] mixed rfl ?_;refine vI 0 ?_;refine .z 12 rfl (xA.tk fun H hs=> nC M H hEy (zA oM) (zA oM) false (decide_eq_false NB)) ?_;refine V2 13 ?_;refine .dn ?_;refine U2 ?_;clear fin;refine U5 ?_;refine .e (Or.cT (dec:=dec) (l:=y) 0 (fun s:Nat×List Int=> .int .i64 (s.1:Nat)) (fun s=> s.2) (fun s=> iA a' b' y s.2/\lM a' b' s.1 (nA y p) s.2) rfl rfl rfl rfl rfl dE rfl (fun H hs=> .h (K0 M H dec sb y jj n cap a' b' p oM hEy oM h40 oM (hs.get (i:=0) rfl))) (fun⟨FE,w⟩ ⟨k1,k2⟩=> ?_));refine U2 ?_;simp only at k1 k2;have k3:=k2.ac;have k4:=k2.cb;have LY:=k1.len;refine U6 ?_;have r1:iA a b l w:=g5y.trans (k1.wide oM oM);have r2:oE l a b FE b' w:=gy.eq k2 k1 (k1.all oM (P:=fun z=> nA y p<=z) YV) oM;have r3:XB FE b' w:=k2.ahead;have r4:lm1<=lim:=by omega
         have r5:a<=FE:=by omega
         exact Tc.db (ih ⟨(FE,b',lm1,wb,wp,w),r5,k4,g3,r4,r1,r2,r3⟩ (by simp only;omega))
     ·refine U ?_;by_cases c4:wb=true/\wp=true/\h=1
      ·obtain⟨rfl,rfl,rfl⟩:=c4;refine lN ?_;refine .e (Or.cT (dec:=dec) (l:=y) 0 (fun s:Bool×List Int=> .bool s.1) (fun s=> s.2) (fun s=> iA a' b' y s.2/\(s.1=true->TC a' b' s.2)) rfl rfl rfl rfl rfl dE rfl (fun H hs=> .h (aA.mono (CX M H dec sb y jj n cap a' b' oM (PJ.zD (o2.trans o3)) oM h40 oM (g7.bF (o2.trans o3) oM) (hs.get (i:=0) rfl)) (fun v H' ⟨q1,m',⟨t',q2,q3,q4⟩,q5⟩=> ⟨q1,m',⟨(t',m'),q2,rfl,q3,q4⟩,q5⟩))) (fun⟨t,y2⟩ ⟨ht,IY⟩=> ?_));refine U ?_;simp only at ht IY;cases t
       ·refine U2 ?_;exact Tc.db (fin [(0,.slice (some ⟨sb,0,none⟩) n cap),(1,.int .i64 (a':Nat)),(2,.int .i64 (b':Nat)),(3,.int .i64 (lm1:Nat)),(8,.bool true),(9,.bool true),(10,.int .i64 (m:Nat)),(11,.int .i64 (p:Nat))] [(sb,true,.cells ⟨(tA dec y2)++jj⟩ 9 (0,0))] ⟨y2,ht,⟨rfl,rfl,rfl,rfl,rfl,rfl,rfl,rfl,trivial⟩,rfl⟩)
       ·have TA:=(g6.bF (o2.trans o3)) y2 ht (IY rfl);refine U ?_;refine .rt hK func196 results196 [] ?_;exact fun H' hs=> pB.of (dec:=dec) hs (i:=0) rfl ⟨rfl,TA⟩
      ·have c5:wb=true->wp=true->h≠1:=fun e1 e2 e3=> c4 ⟨e1,e2,e3⟩;cases wb
       ·cases wp
        ·refine SE ?_;exact Tc.db (fin [(0,.slice (some ⟨sb,0,none⟩) n cap),(1,.int .i64 (a':Nat)),(2,.int .i64 (b':Nat)),(3,.int .i64 (lm1:Nat)),(8,.bool false),(9,.bool false),(10,.int .i64 (m:Nat)),(11,.int .i64 (p:Nat))] [(sb,true,.cells ⟨(tA dec y)++jj⟩ 9 (0,0))] ⟨y,iA.refl ..,⟨rfl,rfl,rfl,rfl,rfl,rfl,rfl,rfl,trivial⟩,rfl⟩)
        ·refine SE ?_;exact Tc.db (fin [(0,.slice (some ⟨sb,0,none⟩) n cap),(1,.int .i64 (a':Nat)),(2,.int .i64 (b':Nat)),(3,.int .i64 (lm1:Nat)),(8,.bool false),(9,.bool true),(10,.int .i64 (m:Nat)),(11,.int .i64 (p:Nat))] [(sb,true,.cells ⟨(tA dec y)++jj⟩ 9 (0,0))] ⟨y,iA.refl ..,⟨rfl,rfl,rfl,rfl,rfl,rfl,rfl,rfl,trivial⟩,rfl⟩)
       ·cases wp
        ·refine SE ?_;exact Tc.db (fin [(0,.slice (some ⟨sb,0,none⟩) n cap),(1,.int .i64 (a':Nat)),(2,.int .i64 (b':Nat)),(3,.int .i64 (lm1:Nat)),(8,.bool true),(9,.bool false),(10,.int .i64 (m:Nat)),(11,.int .i64 (p:Nat))] [(sb,true,.cells ⟨(tA dec y)++jj⟩ 9 (0,0))] ⟨y,iA.refl ..,⟨rfl,rfl,rfl,rfl,rfl,rfl,rfl,rfl,trivial⟩,rfl⟩)
        ·have c6:=c5 rfl rfl;refine SE ?_;exact Tc.db (fin [(0,.slice (some ⟨sb,0,none⟩) n cap),(1,.int .i64 (a':Nat)),(2,.int .i64 (b':Nat)),(3,.int .i64 (lm1:Nat)),(8,.bool true),(9,.bool true),(10,.int .i64 (m:Nat)),(11,.int .i64 (p:Nat))] [(sb,true,.cells ⟨(tA dec y)++jj⟩ 9 (0,0))] ⟨y,iA.refl ..,⟨rfl,rfl,rfl,rfl,rfl,rfl,rfl,rfl,trivial⟩,rfl⟩)
    ·refine U ?_;by_cases c4:h=2
     ·have e1:((b':Nat):Int)-1-(((p:Nat):Int)-((a':Nat):Int))=((b'-1-(p-a'):Nat):Int):=by omega
      refine UC ?_;refine .e (Or.YE (dec:=dec) (l:=x) 0 (fun v m=> v=.tuple ⟨[]⟩/\iA a' b' x m) rfl rfl rfl rfl rfl dE rfl (fun H hs=> .h (KX M H dec sb x jj n cap a' b' oM oM oM oM (hs.get (i:=0) rfl))) (fun v y ⟨_,yt⟩=> ?_));refine YD ?_;rw[e1];refine U3 ?_;exact Tc.db (fin [(0,.slice (some ⟨sb,0,none⟩) n cap),(1,.int .i64 (a':Nat)),(2,.int .i64 (b':Nat)),(3,.int .i64 (lm1:Nat)),(8,.bool wb),(9,.bool wp),(10,.int .i64 (m:Nat)),(11,.int .i64 (b'-1-(p-a'):Nat)),(12,.int .i64 (1:Nat))] [(sb,true,.cells ⟨(tA dec y)++jj⟩ 9 (0,0))] ⟨b'-1-(p-a'),y,oM,oM,yt,⟨1,rfl,rfl,rfl,rfl,rfl,rfl,rfl,rfl,rfl,trivial⟩,rfl⟩)
     ·refine U6 ?_;exact Tc.db (fin [(0,.slice (some ⟨sb,0,none⟩) n cap),(1,.int .i64 (a':Nat)),(2,.int .i64 (b':Nat)),(3,.int .i64 (lm1:Nat)),(8,.bool wb),(9,.bool wp),(10,.int .i64 (m:Nat)),(11,.int .i64 (p:Nat)),(12,.int .i64 (h:Nat))] [(sb,true,.cells ⟨(tA dec x)++jj⟩ 9 (0,0))] ⟨p,x,oM,oM,iA.refl ..,⟨h,rfl,rfl,rfl,rfl,rfl,rfl,rfl,rfl,rfl,trivial⟩,rfl⟩)
   ·refine U ?_;cases wb
    ·have e1:((lm:Nat):Int)-1=((lm-1:Nat):Int):=by omega
     refine UC ?_;refine .e (Or.YE (dec:=dec) (l:=u) 0 (fun v m=> v=.tuple ⟨[]⟩/\iA a' b' u m) rfl rfl rfl rfl rfl dE rfl (fun H hs=> .h (I3 M H dec sb u jj n cap a' b' oM oM h40 oM (hs.get (i:=0) rfl))) (fun v x ⟨_,xt⟩=> ?_));refine U6 ?_;rw[e1];exact Tc.db (fin [(0,.slice (some ⟨sb,0,none⟩) n cap),(1,.int .i64 (a':Nat)),(2,.int .i64 (b':Nat)),(3,.int .i64 (lm-1:Nat)),(8,.bool false),(9,.bool wp),(10,.int .i64 (m:Nat))] [(sb,true,.cells ⟨(tA dec x)++jj⟩ 9 (0,0))] ⟨lm-1,x,oM,xt,⟨rfl,rfl,rfl,rfl,rfl,rfl,rfl,trivial⟩,rfl⟩)
    ·refine U6 ?_;exact Tc.db (fin [(0,.slice (some ⟨sb,0,none⟩) n cap),(1,.int .i64 (a':Nat)),(2,.int .i64 (b':Nat)),(3,.int .i64 (lm:Nat)),(8,.bool true),(9,.bool wp),(10,.int .i64 (m:Nat))] [(sb,true,.cells ⟨(tA dec u)++jj⟩ 9 (0,0))] ⟨lm,u,Nat.le_refl _,iA.refl ..,⟨rfl,rfl,rfl,rfl,rfl,rfl,rfl,trivial⟩,rfl⟩)
end
set_option maxHeartbeats 8000000
section
variable(M:Md prog)(H:View)
theorem g9(dec:Int->List UInt8)(sb:Nat)(l:List Int)(jj:List Value)(n cap:Nat)(hn:n=l.length)(hE:SN dec l)(uT:n<=100000000)(hS:H sb=some (true,.cells ⟨(tA dec l)++jj⟩ 9 (0,0))):
  aA M 120 #[.slice (some ⟨sb,0,none⟩) n cap] H (pB dec H sb jj (fun v m=> v=.tuple ⟨[]⟩/\iA 0 n l m/\TC 0 n m)):=by
 have hw:=u64_in (x:=n) oM;have hb:bl n<=32:=by
  by_cases h0:0<n
  ·have h1:=jL h0;have h3:2 ^ bl n<2 ^ 32:=by omega
   have:=(Nat.pow_lt_pow_iff_right (a:=2) dE).1 h3;omega
  ·unfold bl;rw[if_pos oM];omega
 refine aA.enter (vs:= [.slice (some ⟨sb,0,none⟩) n cap]) func120 rfl ntmps120 (Nat.le_of_ble_eq_true rfl) (kA.pull hS) fun St c cs hK=> ?_;refine YD ?_;refine .cl (fun H hs=> L2 M H n oM) ?_;refine .e (Or.YE (dec:=dec) (l:=l) 0 (fun v m=> v=.tuple ⟨[]⟩/\iA 0 n l m/\TC 0 n m) rfl rfl rfl rfl rfl dE rfl (fun H hs=> .h (aCu M dec sb jj n cap uT (n+1) H l 0 n (bl n) oM hn oM (Nat.le_refl _) oM hE (.inl rfl) (hs.get (i:=0) rfl))) (fun v m hm=> ?_));refine U ?_;obtain⟨rfl,ht,AF⟩:=hm;refine .ov hK func120 results120 [] ?_;exact fun H' hs=> pB.of hs (i:=0) rfl ⟨rfl,ht,AF⟩
end
theorem Or.v7 {dec:Int->List UInt8}{M:Md prog}{n:Nat}{H₀:View}{R:Rg}{L1:Bl}{o:Oper}{K:Rg->Bl->Prop}{cl:Go.Call}{x:Operand}{fv:Value}{d:Nat}(g:Gl 9 1)(u:List Int)(hg:g.l=(tA dec u))(hE:SN dec u)(uT:g.n<=100000000)
  (qA:o.op=.call cl) (yB:cl.callee=.value x) (hx:RA R x=some fv) (has:FD R cl.args.toList=some [g.val]) (hd:o.dst=some d) (hn:d<n)
  (hc:∀(H:View) (Q:Value->View->Prop),aA M 120 #[g.val] H Q->CB M fv [g.val] H Q)
  (hK:∀(g':Gl 9 1) (m:List Int),g'.val=g.val->g'.n=g.n->g'.blk=g.blk->g'.l=(tA dec m)->iA 0 g.n u m->TC 0 g.n m->K ((d,.tuple ⟨[]⟩)::R) (L1++g'.bl)):Or M n H₀ R (L1++g.bl) o K:=by
 have yI:u.length=g.n:=by have:=g.hl;rw[hg,WB] at this;omega
 cases hb:g.blk with
 | none=>
  have ZB:=g.h0 hb;have C8:=g.hc;have h0:g.n=0:=by omega
  have QJ:g.bl= []:=by unfold Gl.bl;rw[hb]
  have hv:g.val=.slice none 0 g.cap:=by unfold Gl.val;rw[hb,h0];rfl
  refine Or.SB (fun _:Unit=> .tuple ⟨[]⟩) (fun _=> []) (fun _=> True) qA yB hx has hd hn (fun _=> by simp) (fun H hs=> hc H _ ?_) (fun _ _=> ?_)
  ·rw[hv];exact aA.mono (JQ M H g.cap) (fun v H' ⟨h1,h2⟩=> ⟨h1,(),h2,trivial,by simp⟩)
  ·rw[List.append_nil];exact hK g u rfl rfl rfl hg (iA.refl _ _ _) (fun p q h1 h2 h3=> by omega)
 | some b=>
  have QJ:g.bl= [(b,true,.cells ⟨(tA dec u)++g.HB⟩ 9 (0,0))]:=by unfold Gl.bl;rw[hb,hg]
  have hv:g.val=.slice (some ⟨b,0,none⟩) g.n g.cap:=by unfold Gl.val;rw[hb];rfl
  rw[QJ];refine Or.YE (dec:=dec) (l:=u) L1.length (fun v m=> v=.tuple ⟨[]⟩/\iA 0 g.n u m/\TC 0 g.n m) qA yB hx has hd hn (by rw[List.getElem?_append_right (Nat.le_refl _),Nat.sub_self];rfl)
   (fun H hs=> hc H _ ?_) (fun v m ⟨h1,h2,h3⟩=> ?_)
  ·rw[hv];exact g9 M H dec b u g.HB g.n g.cap yI.symm hE uT (hs.get (i:=L1.length) (by rw[List.getElem?_append_right (Nat.le_refl _),Nat.sub_self];rfl))
  ·subst h1;have HM:m.length=g.n:=by rw[h2.len];exact yI
   have:=hK (Gl.DR g (tA dec m) (by rw[WB];exact HM)) m rfl rfl rfl rfl h2 h3;have VW:(Gl.DR g (tA dec m) (by rw[WB];exact HM)).bl= [(b,true,.cells ⟨(tA dec m)++g.HB⟩ 9 (0,0))]:=by
    unfold Gl.bl Gl.DR;simp only[hb]
   rw[VW] at this;rw[List.set_append_right _ _ (Nat.le_refl _),Nat.sub_self];exact this
set_option maxHeartbeats 16000000
def nI:List UInt8:= [49,50,51,52,53,54,55,56,57]
def EF(most n:Nat):List (List UInt8):=(List.range n).flatMap fun i=> sM (nI.take most) (i+1)
theorem EK(most n:Nat):EF most (n+1)=EF most n++sM (nI.take most) (n+1):=by
 unfold EF;rw[List.range_succ,List.flatMap_append];simp
theorem mN(dg:List UInt8):∀(d:Nat) (s:List UInt8),(iD dg d s).length=dg.length ^ d
 | 0,_=> rfl
 | d+1,s=> by
  unfold iD;rw[List.length_flatMap];have:∀x∈dg,(fun x=> (iD dg d (s++[x])).length) x=(fun _=> dg.length ^ d) x:=fun x _=> mN dg d _;rw[List.map_congr_left this,List.map_const',List.sum_replicate_nat,Nat.pow_succ,Nat.mul_comm]
theorem UT {most n:Nat}(hm:most<=3)(hn:n<=3):(sM (nI.take most) n).length<=27:=by
 unfold sM;rw[mN];have hl:(nI.take most).length<=3:=by rw[List.length_take];omega
 calc (nI.take most).length ^ n<=3 ^ n:=Nat.pow_le_pow_left hl n
  _<=3 ^ 3:=Nat.pow_le_pow_right dE hn
  _=27:=by decide
theorem PQ {most:Nat}(hm:most<=3):∀n,n<=3->(EF most n).length<=27*n
 | 0,_=> Nat.le_refl _
 | n+1,h=> by
  rw[EK,List.length_append];have h1:=PQ hm n oM;have h2:=UT hm h;omega
theorem VQ(most:Nat):(nI.take most).all TE=true:=by
 have h:nI.all TE=true:=by decide +kernel
 exact List.all_eq_true.2 fun x hx=> List.all_eq_true.1 h x (List.mem_of_mem_take hx)
theorem n0 {most n:Nat}{s:List UInt8}(h:s∈EF most n)(hn:n<=3):s.all TE=true/\s.length<=3:=by
 obtain⟨i,hi,h2⟩:=List.mem_flatMap.1 h;obtain⟨h3,h4⟩:=XU h2;have:=List.mem_range.1 hi;exact⟨List.all_eq_true.2 fun y hy=> List.all_eq_true.1 (VQ most) y (h4 y hy),oM⟩
theorem aE2(a b c d e f:Nat×Bool×Obj)(B:Bl):(a::b::c::d::e::f::B).Perm (c::d::e::a::b::f::B):=by
 have h1:([a,b]++c::(d::e::f::B)).Perm (c::([a,b]++d::e::f::B)):=List.perm_middle;have h2:([a,b]++d::(e::f::B)).Perm (d::([a,b]++e::f::B)):=List.perm_middle;have h3:([a,b]++e::(f::B)).Perm (e::([a,b]++f::B)):=List.perm_middle;exact h1.trans (.cons _ (h2.trans (.cons _ h3)))
def mI(w:Nat->Int)(nw digits most:Nat):eH:=zF (WL (EF most digits)) w nw [] 0 ⟨false,0,[]⟩
def T3(num:Value)(t a:Int):Value:=.tuple ⟨[num,.int .i64 t,.int .i64 a]⟩
section
variable(M:Md prog)(H:View)
theorem fW(A:Option Addr)(nw wc:Nat)(w:Nat->Int)(hA:GB H A nw w)(digits most:Nat)(h0:1<=(nw:Int)/\(nw:Int)<=3)(hw:(pA (fun j=> !gF (w j)) nw).isSome=false)(hd:1<=((digits:Nat):Int)/\((digits:Nat):Int)<=3)(hm:1<=((most:Nat):Int)/\((most:Nat):Int)<=3):
  aA M 58 #[.slice A nw wc,.int .i64 (digits:Nat),.int .i64 (most:Nat)] H (fun v H'=> H.le H'/\∃a n c',v=T3 (.slice a n c') (mI w nw digits most).total (mI w nw digits most).al/\n=(mI w nw digits most).RE.length/\UA H' 1 (.slice a n c') n (PB (mI w nw digits most).RE)/\n<=c'):=by
 have hc:=fun(H':View) (h':H.le H')=> DT M H' A nw wc w (hA.le h') oM (.func (.func 140) #[] #[]) (fun j=> !gF (w j)) (fun j _ H'' _=> .h (QV M H'' (w j)));have aGs:∀i,i<nw->0<=w i/\w i<=99:=fun i hi=> by
  have h1:pA (fun j=> !gF (w j)) nw=none:=by
   cases hz:pA (fun j=> !gF (w j)) nw with
   | none=> rfl
   | some y=> rw[hz] at hw;cases hw
  have h2:=(MB _).1 h1 i hi;unfold gF at h2;simpa using h2
 refine .en func58 ntmps58 fun St c cs hK=> ?_;refine U2 ?_;refine .bo fun b3=> ?_;refine .al fun b6=> ?_;refine .al fun b7=> ?_;refine .al fun b8=> ?_;refine U7 ?_;refine .cl (fun H hs=> CA M H (nw:Nat) 1 3 true (decide_eq_true h0)) ?_;refine U8 ?_;refine .cl (fun H hs=> eG (hc H hs.base) hw) ?_;refine U6 ?_;refine .cl (fun H hs=> CA M H (digits:Nat) 1 3 true (decide_eq_true hd)) ?_;refine U6 ?_;refine .cl (fun H hs=> CA M H (most:Nat) 1 3 true (decide_eq_true hm)) ?_;refine U8 ?_;refine .al fun b9=> ?_;refine U8 ?_;refine Tc.db (Tc.rI (σ:= { y:View×Nat×Gl 9 1//H.le y.1/\y.2.1<=digits/\y.2.2.l=PB (EF most y.2.1)/\y.2.2.n=(EF most y.2.1).length })
  (fun y=> (y.1.1,[(2,.int .i64 (most:Nat)),(3,.pointer (some ⟨b3,0,none⟩)),(6,.pointer (some ⟨b6,0,none⟩)),(7,.pointer (some ⟨b7,0,none⟩)),(8,.pointer (some ⟨b8,0,none⟩)),(9,.pointer (some ⟨b9,0,none⟩)),(26,.int .i64 (digits:Nat)),(27,.int .i64 (y.1.2.1:Nat))],
   [(b9,true,.cells ⟨[y.1.2.2.val]⟩ 107 (0,0)),(b8,true,.cells ⟨[.int .i64 0]⟩ 25 (0,0)),(b7,true,.cells ⟨[.int .i64 0]⟩ 3 (0,0)),(b6,true,.cells ⟨[.slice none 0 0]⟩ 107 (0,0)),(b3,true,.cells ⟨[.slice A nw wc]⟩ 24 (0,0))]++y.1.2.2.bl)) (fun y=> digits-y.1.2.1) ?_ ⟨(H,0,Gl.nil 9 1),View.le_refl _,Nat.zero_le _,rfl,rfl⟩)
 rintro⟨⟨H₁,i,g⟩,g1,g2,g3,g4⟩ ih;simp only at g1 g2 g3 g4;show Tc M St _ _ H₁ _ [(2,.int .i64 (most:Nat)),(3,.pointer (some ⟨b3,0,none⟩)),(6,.pointer (some ⟨b6,0,none⟩)),(7,.pointer (some ⟨b7,0,none⟩)),(8,.pointer (some ⟨b8,0,none⟩)),(9,.pointer (some ⟨b9,0,none⟩)),(26,.int .i64 (digits:Nat)),(27,.int .i64 (i:Nat))]
   ([(b9,true,.cells ⟨[g.val]⟩ 107 (0,0)),(b8,true,.cells ⟨[.int .i64 0]⟩ 25 (0,0)),(b7,true,.cells ⟨[.int .i64 0]⟩ 3 (0,0)),(b6,true,.cells ⟨[.slice none 0 0]⟩ 107 (0,0)),(b3,true,.cells ⟨[.slice A nw wc]⟩ 24 (0,0))]++g.bl) _ _
 have yB:=PQ (most:=most) oM i oM;by_cases c1:i=digits
 ·subst c1;refine UC ?_;refine .e (Or.v7 (dec:=mL (EF most i)) (L1:= [(b9,true,.cells ⟨[g.val]⟩ 107 (0,0)),(b8,true,.cells ⟨[.int .i64 0]⟩ 25 (0,0)),(b7,true,.cells ⟨[.int .i64 0]⟩ 3 (0,0)),(b6,true,.cells ⟨[.slice none 0 0]⟩ 107 (0,0)),(b3,true,.cells ⟨[.slice A nw wc]⟩ 24 (0,0))]) g (NF (EF most i)) (g3.trans (LN _).symm) (AH _) oM rfl rfl rfl rfl rfl dE (fun H Q h=> .h h) (fun g' m lX ZK uS dX ht hs'=> ?_));rw[<-lX];have hso:=cS g4 ht hs';have xN:g'.l=PB (WL (EF most i)):=by rw[dX,xR,hso];rfl
  have J5:(WL (EF most i)).length=(EF most i).length:=(eI _).length_eq;clear dX ht hs' hso lX;refine U7 ?_;refine .al fun b11=> ?_;refine U9 ?_;refine To.lift (L₂:= []) (L₁:= [(b11,true,.cells ⟨[yW b8 b7 b3 b6 b9 b11]⟩ 249 (0,0)),(b9,true,.cells ⟨[g'.val]⟩ 107 (0,0)),(b8,true,.cells ⟨[.int .i64 9]⟩ 25 (0,0)),(b7,true,.cells ⟨[.int .i64 0]⟩ 3 (0,0)),(b6,true,.cells ⟨[.slice none 0 0]⟩ 107 (0,0)),(b3,true,.cells ⟨[.slice A nw wc]⟩ 24 (0,0))]++g'.bl) rfl (fun Hx hx=> ?_);obtain⟨H',h1,h2⟩:=kA.VD (B:= [(b8,true,.cells ⟨[.int .i64 9]⟩ 25 (0,0)),(b7,true,.cells ⟨[.int .i64 0]⟩ 3 (0,0)),(b6,true,.cells ⟨[.slice none 0 0]⟩ 107 (0,0))]) (L:= [(b11,true,.cells ⟨[yW b8 b7 b3 b6 b9 b11]⟩ 249 (0,0)),(b9,true,.cells ⟨[g'.val]⟩ 107 (0,0)),(b3,true,.cells ⟨[.slice A nw wc]⟩ 24 (0,0))]++g'.bl) (hx.perm (by
   simp only[List.cons_append,List.nil_append];exact(aE2 _ _ _ _ _ _ _).symm))
  have ZB:BT (WL (EF most i)) w nw b8 b7 b3 b6 b9 b11 (g'.blk.map fun b=> ⟨b,0,none⟩) A g'.cap wc H':=
   ⟨⟨true,h2.get (i:=0) rfl⟩,⟨true,by have h3:=h2.get (i:=1) rfl;rw[J5,<-g4,<-ZK];exact h3⟩,⟨true,h2.get (i:=2) rfl⟩,by
    have h3:=ZJ (g0:=g') g' (H:=H') (fun x hx=> h2.at_ x (List.mem_append_right _ hx)) xN rfl rfl;rw[ZK,g4,<-J5] at h3;exact h3,(hA.le g1).le h2.base⟩
  refine To.sB rfl rfl rfl rfl rfl rfl dE (CB.of (first:= []) (captured:= [_,_,_,_,_,_]) bU rfl (aAq M (WL (EF most i)) w nw b8 b7 b3 b6 b9 b11 (g'.blk.map fun b=> ⟨b,0,none⟩) A g'.cap wc oM (by rw[J5];omega) (fun s hs=> n0 ((eI _).mem_iff.1 hs) oM) aGs nw (Gl.nil 9 1) [] 0 ⟨false,0,[]⟩ none 0 0 H' Hx rfl (Nat.zero_add _) dE ZB rfl ⟨⟨⟨_,_,rfl⟩,rfl,.inl ⟨none,0,rfl,rfl⟩⟩,Nat.le_refl 0⟩ h1)) (fun v H₃ hv=> ?_);obtain⟨_,H₄,g4',a4,n4,c4,r1,r2,r3,r4,r5⟩:=hv;refine To.expand r2 ?_;unfold V0;refine U2 ?_;refine Tc.dr [] [] mixed rfl ?_;refine V3 0 ?_;refine .ea 3 rfl (.st 2 (zz:=⟨S2.mk sL (.inr sL),?_⟩));refine .ea 4 rfl (.st 1 (zz:=⟨S2.mk sL (.inr sL),?_⟩));refine .ea 5 rfl (.st 0 (zz:=⟨S2.mk sL (.inr sL),?_⟩));refine .dn ?_;refine .rt hK func58 results58 [_,_,_] ?_;exact fun H' hs=> ⟨View.le_trans g1 (View.le_trans h2.base (View.le_trans r1 hs.base)),a4,n4,c4,rfl,r4,r5.1.mono hs.base,r5.2⟩
 ·have c2:i<digits:=by omega
  have uK:=UT (most:=most) (n:=i+1) oM oM;have bR:([49,50,51,52,53,54,55,56,57]:List UInt8).length=9:=rfl;have ZQ:(nI.take most).length<=1000:=by rw[List.length_take];omega
  refine lF ?_;refine Tc.drT [7] [6] [0] 5 mixed rfl ?_;refine .oo 0 ?_;refine .oo 1 ?_;refine .oo 2 ?_;refine .oo 3 ?_;refine Ta.N8 4 kR rfl rfl dE rfl rfl (xA.take (xA.cI (E:=en) rfl rfl rfl rfl rfl rfl oM oM oM)) ?_;refine .ea 5 rfl (Or.SB (fun s=> TT s.1.1 s.1.2) (KQ (i+1) (nI.take most)) (fun _=> True) rfl rfl rfl rfl rfl dE (QT _ _) (fun H hs=> .h (aD1 M H (i+1) (nI.take most))) (fun s _=> ⟨S3.mk sL (.inr sL),?_⟩));refine Ta.lift (L₂:= [(b9,true,.cells ⟨[g.val]⟩ 107 (0,0)),(b8,true,.cells ⟨[.int .i64 0]⟩ 25 (0,0)),(b7,true,.cells ⟨[.int .i64 0]⟩ 3 (0,0)),(b6,true,.cells ⟨[.slice none 0 0]⟩ 107 (0,0)),(b3,true,.cells ⟨[.slice A nw wc]⟩ 24 (0,0))]) (L₁:=g.bl++KQ (i+1) (nI.take most) s) rfl (fun Hx hx=> ?_);obtain⟨H',h1,h2⟩:=hx.VD;refine Ta.sB 6 kR rfl kR rfl rfl rfl rfl rfl rfl dE (CB.h (zT M g (EF most i) g3 oM (i+1) (nI.take most) oM (VQ most) ZQ oM s.1.1 s.1.2 H' Hx ⟨⟨true,h2.get (i:=0) rfl⟩,⟨true,h2.get (i:=1) rfl⟩⟩ h1)) (fun v H₃ hv=> ?_);obtain⟨g',H₂,rfl,q1,q2,q3,q4⟩:=hv;refine Ta.expand q2 ?_;refine .ea 7 rfl (.st 0 (zz:=⟨S3.off kR,?_⟩));refine .dn ?_;refine U5 ?_;exact Tc.db (ih ⟨(H₂,i+1,g'),View.le_trans g1 (View.le_trans h2.base q1),by simp only;omega,by simp only;rw[EK];exact q3,by simp only;rw[EK,List.length_append,q4,g4]⟩ (by simp only;omega))
theorem eW(A:Option Addr)(nw wc:Nat)(w:Nat->Int)(hA:GB H A nw w)(digits most:Nat)(h0:1<=(nw:Int)/\(nw:Int)<=3)(hw:(pA (fun j=> !gF (w j)) nw).isSome=false)(hd:1<=((digits:Nat):Int)/\((digits:Nat):Int)<=3)(hm:1<=((most:Nat):Int)/\((most:Nat):Int)<=3):
  aA M 58 #[.slice A nw wc,.int .i64 (digits:Nat),.int .i64 (most:Nat)] H (fun v H'=> H.le H'/\∃a n c',v=T3 (.slice a n c') (mI w nw digits most).total (mI w nw digits most).al/\n=(mI w nw digits most).RE.length/\UA H' 1 (.slice a n c') n (PB (mI w nw digits most).RE)):=
 aA.mono (fW M H A nw wc w hA digits most h0 hw hd hm) (by
  rintro v H' ⟨h1,a,n,c',h2,h3,h4,_⟩;exact⟨h1,a,n,c',h2,h3,h4⟩)
end
end Go.Proofs.YtldmfjcgjdchcaaGreatDoor
namespace Go.Proofs.YtldmfjcgjdchcaaGreatDoor
open Go.RL Go.Proofs.Tryz
set_option maxRecDepth 10000
theorem SI {l:List Int}{x:Int}:∀k,k<=l.length->(x∈rB l k<->∃i,i<k/\nA l i=x)
 | 0,_=> by simp[rB]
 | k + 1,hk=> by
  have ih:=SI (l:=l) (x:=x) k oM;unfold rB;split
  ·rename_i h
   rw[ih];constructor
   ·rintro⟨i,h1,h2⟩;exact⟨i,oM,h2⟩
   ·rintro⟨i,h1,h2⟩;by_cases e:i=k
    ·subst e;exact⟨i-1,oM,by rw[<-h.2];exact h2⟩
    ·exact⟨i,oM,h2⟩
  ·rw[List.mem_append,ih,List.mem_singleton];constructor
   ·rintro(⟨i,h1,h2⟩|rfl)
    ·exact⟨i,oM,h2⟩
    ·exact⟨k,oM,rfl⟩
   ·rintro⟨i,h1,h2⟩;by_cases e:i=k
    ·subst e;exact .inr h2.symm
    ·exact .inl ⟨i,oM,h2⟩
theorem NO {l:List Int}{n:Nat}(hs:TC 0 n l)(hn:n<=l.length):∀k,k<=n->(rB l k).Pairwise (· < ·)
 | 0,_=> List.Pairwise.nil
 | k + 1,hk=> by
  have ih:=NO hs hn k oM;unfold rB;split
  ·exact ih
  ·rename_i h
   rw[List.pairwise_append];refine⟨ih,List.pairwise_singleton _ _,fun a ha b hb=> ?_⟩;have uS:b=nA l k:=by simpa using hb
   subst uS;obtain⟨i,h1,rfl⟩:=(SI k oM).1 ha;have h2:=hs i (k-1) (Nat.zero_le _);have h3:=hs (k-1) k (Nat.zero_le _) oM oM;have h4:nA l k≠nA l (k-1):=fun e=> h ⟨oM,e⟩;by_cases e:i=k-1
   ·subst e;omega
   ·have:=h2 oM oM;omega
theorem TC.at_mem {l:List Int}{x:Int}:x∈l<->∃i,i<l.length/\nA l i=x:=by
 rw[List.mem_iff_getElem];constructor
 ·rintro⟨i,h,rfl⟩;exact⟨i,h,by unfold nA;rw[List.getElem?_eq_getElem h];rfl⟩
 ·rintro⟨i,h,e⟩;refine⟨i,h,?_⟩;unfold nA at e;rw[List.getElem?_eq_getElem h] at e;exact e
theorem E3 {l m:List Int}(hl:l.Pairwise (· < ·))(hm:m.Pairwise (· < ·))(h:∀x,x∈l<->x∈m):l=m:=by
 have hp:l.Perm m:=(List.perm_ext_iff_of_nodup (List.nodup_iff_pairwise_ne.2 (hl.imp (fun h=> Int.ne_of_lt h))) (List.nodup_iff_pairwise_ne.2 (hm.imp (fun h=> Int.ne_of_lt h)))).2 h;exact List.Perm.eq_of_pairwise (le:=(· <=·)) (fun a b _ _ h1 h2=> Int.le_antisymm h1 h2) (hl.imp (fun h=> Int.le_of_lt h)) (hm.imp (fun h=> Int.le_of_lt h)) hp
def hZ(l:List (List UInt8)):Prop:=l.Pairwise fun a b=> Op.bytesLess a b=true
theorem MQ {l m:List (List UInt8)}(hl:hZ l)(hm:hZ m)(h:∀x,x∈l<->x∈m):l=m:=by
 have ne:∀ {a b:List UInt8},Op.bytesLess a b=true->a≠b:=fun h e=> by rw[e,JH] at h;cases h
 have hp:l.Perm m:=(List.perm_ext_iff_of_nodup (List.nodup_iff_pairwise_ne.2 (hl.imp ne)) (List.nodup_iff_pairwise_ne.2 (hm.imp ne))).2 h;have le:∀ {a b:List UInt8},Op.bytesLess a b=true->yT a b=true:=fun h=> by unfold yT;rw[NM h];rfl
 exact KN hp (hl.imp le) (hm.imp le)
def EX(x:List UInt8):List (List UInt8)->List (List UInt8)
 | []=> [x]
 | y::t=> if Op.bytesLess x y then x::y::t else if x=y then y::t else y::EX x t
def iL:List (List UInt8)->List (List UInt8)
 | []=> []
 | x::t=> EX x (iL t)
theorem wP {x z:List UInt8}:∀l,z∈EX x l<->z=x\/z∈l
 | []=> by simp[EX]
 | y ::t=> by
  unfold EX;split
  ·simp
  ·split
   ·rename_i e
    subst e;simp
   ·rw[List.mem_cons,wP t,List.mem_cons];constructor
    ·rintro(h|h|h)
     ·exact .inr (.inl h)
     ·exact .inl h
     ·exact .inr (.inr h)
    ·rintro(h|h|h)
     ·exact .inr (.inl h)
     ·exact .inl h
     ·exact .inr (.inr h)
theorem pV(x:List UInt8):∀l,hZ l->hZ (EX x l)
 | [],_=> List.pairwise_singleton _ _
 | y ::t,h=> by
  obtain⟨h1,h2⟩:=List.pairwise_cons.1 h;unfold EX;split
  ·rename_i hx
   refine List.pairwise_cons.2 ⟨fun z hz=> ?_,h⟩;rcases List.mem_cons.1 hz with rfl|hz
   ·exact hx
   ·exact rF hx (h1 z hz)
  ·rename_i hx
   split
   ·exact h
   ·rename_i uB
    refine List.pairwise_cons.2 ⟨fun z hz=> ?_,pV x t h2⟩;rcases(wP t).1 hz with rfl|hz
    ·cases e:Op.bytesLess y z with
     | true=> rfl
     | false=> exact(uB (KH (by simpa using hx) e)).elim
    ·exact h1 z hz
theorem mG {z:List UInt8}:∀l,z∈iL l<->z∈l
 | []=> Iff.rfl
 | x::t=> by
  unfold iL;rw[wP,mG t,List.mem_cons]
theorem zH:∀l,hZ (iL l)
 | []=> List.Pairwise.nil
 | x::t=> pV x _ (zH t)
theorem tZ {S:List (List UInt8)}{m:List Int}{n:Nat}(hn:n=S.length)(ht:iA 0 n (NF S) m)(hs:TC 0 n m):(rB m n).map (mL S)=iL S:=by
 have HM:m.length=n:=by rw[ht.len,hn];simp[NF]
 have yD:∀x∈rB m n,x∈NF S:=fun x hx=> by
  obtain⟨i,h1,rfl⟩:=(SI n oM).1 hx;exact(ht.mem _).1 (zA oM)
 refine MQ ?_ (zH S) (fun z=> ?_)
 ·unfold hZ;rw[List.pairwise_map];have h1:=NO hs oM n (Nat.le_refl _);refine List.Pairwise.imp_of_mem (fun {a b} ha hb h3=> ?_) h1;rw[AH S a (yD a ha) b (yD b hb)];exact decide_eq_true h3
 ·rw[mG,List.mem_map];constructor
  ·rintro⟨x,hx,rfl⟩;obtain⟨s,h1,h2⟩:=List.mem_map.1 (yD x hx);rw[<-h2,UI h1];exact h1
  ·intro hz;refine⟨((DG S z:Nat):Int),?_,UI hz⟩;have h1:((DG S z:Nat):Int)∈m:=(ht.mem _).2 (List.mem_map.2 ⟨z,hz,rfl⟩);obtain⟨i,h2,h3⟩:=TC.at_mem.1 h1;exact(SI n oM).2 ⟨i,oM,h3⟩
theorem ZT {l m:List (List UInt8)}(h:∀x,x∈l<->x∈m):iL l=iL m:=
 MQ (zH l) (zH m) fun x=> by rw[mG,mG,h]
def DX(x:Int):List Int->List Int
 | []=> [x]
 | y::t=> if x<y then x::y::t else if x=y then y::t else y::DX x t
def nZ:List Int->List Int
 | []=> []
 | x::t=> DX x (nZ t)
theorem vP {x z:Int}:∀l,z∈DX x l<->z=x\/z∈l
 | []=> by simp[DX]
 | y ::t=> by
  unfold DX;split
  ·simp
  ·split
   ·rename_i e
    subst e;simp
   ·rw[List.mem_cons,vP t,List.mem_cons];constructor
    ·rintro(h|h|h)
     ·exact .inr (.inl h)
     ·exact .inl h
     ·exact .inr (.inr h)
    ·rintro(h|h|h)
     ·exact .inr (.inl h)
     ·exact .inl h
     ·exact .inr (.inr h)
theorem oV(x:Int):∀l:List Int,l.Pairwise (· < ·)->(DX x l).Pairwise (· < ·)
 | [],_=> List.pairwise_singleton _ _
 | y ::t,h=> by
  obtain⟨h1,h2⟩:=List.pairwise_cons.1 h;unfold DX;split
  ·rename_i hx
   refine List.pairwise_cons.2 ⟨fun z hz=> ?_,h⟩;rcases List.mem_cons.1 hz with rfl|hz
   ·exact hx
   ·have:=h1 z hz;omega
  ·rename_i hx
   split
   ·exact h
   ·rename_i uB
    refine List.pairwise_cons.2 ⟨fun z hz=> ?_,oV x t h2⟩;rcases(vP t).1 hz with rfl|hz
    ·omega
    ·exact h1 z hz
theorem YU {z:Int}:∀l,z∈nZ l<->z∈l
 | []=> Iff.rfl
 | x::t=> by
  unfold nZ;rw[vP,YU t,List.mem_cons]
theorem YT:∀l,(nZ l).Pairwise (· < ·)
 | []=> List.Pairwise.nil
 | x::t=> oV x _ (YT t)
theorem P5 {S m:List Int}{n:Nat}(hn:n=S.length)(ht:iA 0 n S m)(hs:TC 0 n m):rB m n=nZ S:=by
 have HM:m.length=n:=by rw[ht.len,hn]
 refine E3 (NO hs oM n (Nat.le_refl _)) (YT S) (fun z=> ?_);rw[YU,SI n oM,<-ht.mem z,TC.at_mem,HM]
set_option maxHeartbeats 16000000
def Bk.xD(k:Bk):List (List UInt8):=iL ((k.UF k.nt).map (·.heard))
def aDW(g:Gl 9 1)(a:Int):Value:=.tuple ⟨[g.val,.int .i64 a]⟩
theorem KL {α:Type}:∀ {l m:List α},l.Nodup->(∀x∈l,x∈m)->l.length<=m.length
 | [],_,_,_=> Nat.zero_le _
 | x ::t,m,hn,hs=> by
  obtain⟨h1,h2⟩:=List.nodup_cons.1 hn;obtain⟨a,b,rfl⟩:=List.append_of_mem (hs x (List.mem_cons_self ..));have:=KL (l:=t) (m:=a++b) h2 (fun y hy=> by
   have:=hs y (List.mem_cons_of_mem _ hy);rcases List.mem_append.1 this with h|h
   ·exact List.mem_append_left _ h
   ·rcases List.mem_cons.1 h with rfl|h
    ·exact(h1 hy).elim
    ·exact List.mem_append_right _ h)
  simp only[List.length_append,List.length_cons] at this ⊢;omega
theorem zZ {k:Bk}{es:Array MapEntry}{cl n:Nat}(h:vB es cl (oL (k.AD n))):es.size<=(k.UF n).length:=by
 have NG:∀x∈es.toList.map (·.key),x∈(k.UF n).map LG.val:=by
  intro x hx;obtain⟨e,he,rfl⟩:=List.mem_map.1 hx;obtain⟨y,h1,h2,_⟩:=bE h e he;exact List.mem_map.2 ⟨y,(k.LC n y).2 h1,h2.symm⟩
 have:=KL h.keys NG;simpa using this
section
variable(M:Md prog)(H:View)
end
set_option maxHeartbeats 8000000
section
variable(M:Md prog)(H:View)
theorem uW(x lo hi:Int)(t:Bool)(ht:decide (lo<=x/\x<=hi)=t):aA M 37 #[.int .i64 x,.int .i64 lo,.int .i64 hi] H (fun v H'=> H.le H'/\v=.bool t):=by
 subst ht;refine .en func37 ntmps37 fun St c cs hK=> ?_;by_cases c1:lo<=x
 all_goals by_cases c2:x<=hi
 all_goals
  refine U8 ?_;refine .i ?_ (z:=by first|exact CD oM|exact BD oM);refine U ?_;first|(refine .sk ?_)|(refine .m ?_)
  first|(refine .sk ?_)|(refine .m ?_)
  first|(refine .sk ?_)|(refine .x (.it (zz:=(by first|exact CD oM|exact BD oM))) ?_)
  refine U3 ?_;refine .rt hK func37 results37 [_] ?_;exact fun H' hs=> ⟨hs.base,by simp[oC,c1,c2]⟩
end
end Go.Proofs.YtldmfjcgjdchcaaGreatDoor
namespace Go.RL
open Go.Conc Go.ConcN Go.RL.Au
open Go.ConcR (stA smA)
open Go.ConcM (muA OsLater)
section
variable {X:Fk}{B:View}{base N:Nat}{os0:M1}{w w':World}{t:Trace}{ths:List Th}{m m':Mn}{s s':Sh}{H:Nat->View}{D:Nat->Bool}{fn:FuncId}{pos:String}
theorem vO {ths:List Th}{κ:Nat}{T T':Th}(hκ:ths[κ]? =some T):∀(κ':Nat) T'',(ths.set κ T')[κ']? =some T''->(κ'=κ/\T''=T')\/(κ'≠κ/\ths[κ']? =some T''):=fun κ' T'' h'=> by
 by_cases e:κ=κ'
 ·subst e;rw[List.getElem?_set_self (List.getElem?_eq_some_iff.1 hκ).1] at h';cases h'
  exact .inl ⟨rfl,rfl⟩
 ·rw[List.getElem?_set_ne e] at h';exact .inr ⟨Ne.symm e,h'⟩
theorem AP(i:Nat)(mm:Mark):MemOp.ofEvents i fn pos #[Go.ConcR.mk mm]=#[{ g:=i,fn,pos,act:=.mark mm }]:=by
 rw[ofEvents_eq];simp[Go.ConcR.ofEvent_mk]
theorem oR {i j:Nat}{mm:Mark}(h1:mm≠ .disable)(h2:mm≠ .enable):Deaf (t++MemOp.ofEvents i fn pos #[Go.ConcR.mk mm]) j=Deaf t j:=by
 refine Deaf_still t j _ fun op qA=> ?_;rw[AP] at qA;simp at qA
 subst qA;simp[h1,h2]
theorem v9 {D:Nat->Bool}{κ κ':Nat}(e:κ'≠κ):XT D κ κ'=D κ':=by simp[XT,e]
theorem WT.aGC(h:WT X B base N os0 w t ths m s H D)(ne:X.Wg≠X.C){κ:Nat}(hκ:ths[κ]? =some .pw)(hN:base+κ<N){w':World}{o':Obj}{es:Array Event}{D':Nat->Bool}(ht:aDZ X κ w w' o' es)(hG:X.GI D' o'):
  WT X B base N os0 w' (t++MemOp.ofEvents (base+κ) fn pos es) (ths.set κ .wr) m s H D':=by
 obtain⟨_,h3,h4⟩:=h.free;have MU:∀op∈MemOp.ofEvents (base+κ) fn pos es,op.g=base+κ/\op.act=MemAct.ofEvent ⟨.cell ⟨X.C,κ,none⟩,true,false⟩:=by
  rw[ofEvents_eq];intro op qA;obtain⟨e,he,rfl⟩:=Array.mem_map.1 qA;rw[ht.ev e he];exact⟨rfl,rfl⟩
 have cO:∀op∈MemOp.ofEvents (base+κ) fn pos es,op.g=base+κ:=fun op qA=> (MU op qA).1;have hto:∀op∈MemOp.ofEvents (base+κ) fn pos es,∀a,op.act.touch? =some a->a.kind=.plain/\a.loc=.cell ⟨X.C,κ,none⟩:=fun op qA a ha=> by
  rw[(MU op qA).2] at ha;simp[MemAct.ofEvent,MemAct.touch?] at ha
  subst ha;exact⟨rfl,rfl⟩
 have CM:∀j,Deaf (t++MemOp.ofEvents (base+κ) fn pos es) j=Deaf t j:=fun j=> Deaf_still t j _ fun op qA=> by rw[(MU op qA).2];simp[MemAct.ofEvent]
 have JK:∀V:View,V X.C=none->Sat V w->Sat V w':=fun V hV hs b f o CI=> by
  rw[ht.rest b (by rintro rfl;rw[hV] at CI;cases CI)];exact hs b f o CI
 refine⟨⟨by rw[ht.rest _ ne];exact h.sh.wg⟩,by rw[ht.size];exact h.cb,⟨fun g=> JK _ (h3 g) (h.vi.sat g),h.vi.dj,h.vi.sh,JK _ h.vi.bn.2 h.vi.bs,h.vi.bd,h.vi.bn⟩,h.hx,?_,⟨⟨o',ht.at_,hG⟩,h3,h4.own cO hto⟩,fun κ' T OC hT=> ?_,by rw[CM];exact h.WV,fun κ' T OC hT=> ?_,h.os.trans ht.os⟩
 ·rw[ht.size];exact h.ti.own h4 hN cO hto (fun op qA a e=> by rw[(MU op qA).2] at e;simp[MemAct.ofEvent] at e) h3 ⟨Ne.symm ne,Ne.symm ne⟩ h.cb
 ·rcases vO hκ κ' T OC with ⟨rfl,rfl⟩|⟨e,gJ⟩
  ·cases hT
  ·obtain⟨r,hr⟩:=h.pJ κ' T gJ hT;exact⟨r,hr.appOther (g:=base+κ) cO oM⟩
 ·rw[CM];rcases vO hκ κ' T OC with ⟨rfl,rfl⟩|⟨e,gJ⟩
  ·exact h.uZ κ' .pw hκ (by simp)
  ·exact h.uZ κ' T gJ hT
theorem WT.mute(h:WT X B base N os0 w t ths m s H D)(ne:X.Wg≠X.C){κ:Nat}(hκ:ths[κ]? =some .wr)(hN:base+κ<N):
  WT X B base N os0 w (t++MemOp.ofEvents (base+κ) fn pos #[Go.ConcR.mk (.releaseMerge (stA X.Wg))]) (ths.set κ .wk) m s H D:=by
 have NB:=(List.getElem?_eq_some_iff.1 hκ).1;have ZO:Act base N (base+κ):=.inr ⟨oM,hN⟩;have qA:=JS (X:=X) (H:=H (base+κ)) (g:=base+κ) (fn:=fn) (pos:=pos) (m:=.releaseMerge (stA X.Wg)) (t:=t) (fun x hx=> by cases hx) (fun a e=> by cases e);have hd0:Deaf t (base+κ)=0:=h.uZ κ _ hκ (by simp);have CM:∀j,Deaf (t++MemOp.ofEvents (base+κ) fn pos #[Go.ConcR.mk (.releaseMerge (stA X.Wg))]) j=Deaf t j:=fun j=> oR (by simp) (by simp);refine⟨h.sh,h.cb,h.vi,h.hx,h.HV ne ZO hN qA,?_,fun κ' T OC hT=> ?_,by rw[CM];exact h.WV,fun κ' T OC hT=> ?_,h.os⟩
 ·obtain⟨h1,h3,h4⟩:=h.free;refine⟨h1,h3,h4.grow fun op uE x hx=> ?_⟩;rw[AP] at uE;simp at uE
  subst uE;cases hx
 ·rcases vO hκ κ' T OC with ⟨rfl,rfl⟩|⟨e,gJ⟩
  ·exact⟨_,RelBy.new hd0 fn pos⟩
  ·obtain⟨r,hr⟩:=h.pJ κ' T gJ hT;exact⟨r,hr.appOther (g:=base+κ) qA.own oM⟩
 ·rw[CM];rcases vO hκ κ' T OC with ⟨rfl,rfl⟩|⟨e,gJ⟩
  ·exact hd0
  ·exact h.uZ κ' T gJ hT
theorem jE {R:View}{b:Nat}{f:Bool}{o:Obj}(h:ro R b=some (f,o)):f=false/\∃f',R b=some (f',o):=by
 unfold ro at h;obtain⟨x,hx,he⟩:=Option.map_eq_some_iff.1 h;cases he
 exact⟨rfl,x.1,hx⟩
theorem aH {R:View}{b:Nat}(h:R b=none):ro R b=none:=by simp[ro,h]
theorem WT.fork(h:WT X B base N os0 w t ths .go s H D)(hb:1<=base)(hN:N=base+ths.length)(hm:m'.deaf=0){x y:MemOp}(hx:x.g=0/\x.act=.go N)(hy:y.g=N/\y.act=.start):
  WT X B base (N+1) os0 w (t ++ #[x,y]) (ths++[.pw]) m' s (upd (upd H 0 (ro (H 0))) N (ro (H 0))) D:=by
 have hN0:N≠0:=by omega
 have hHN:∀b,H N b=none:=h.hx N fun hh=> hh.elim hN0 fun hh=> by omega
 have hd0:Deaf t 0=0:=h.WV;have MU:∀op∈#[x,y],op.act≠ .mark .disable/\op.act≠ .mark .enable:=by
  intro op qA;simp only[List.mem_toArray,List.mem_cons,List.not_mem_nil,or_false] at qA;rcases qA with rfl|rfl
  ·rw[hx.2];simp
  ·rw[hy.2];simp
 have CM:∀j,Deaf (t ++ #[x,y]) j=Deaf t j:=fun j=> Deaf_still t j _ MU;have hV:∀j b,upd (upd H 0 (ro (H 0))) N (ro (H 0)) j b=if j=N\/j=0 then ro (H 0) b else H j b:=fun j b=> by
  by_cases e:j=N
  ·subst e;rw[upd_same,if_pos (.inl rfl)]
  ·rw[upd_ne _ _ e];by_cases e0:j=0
   ·subst e0;rw[upd_same,if_pos (.inr rfl)]
   ·rw[upd_ne _ _ e0,if_neg (by simp[e,e0])]
 have get:∀(κ:Nat) T,(ths++[Th.pw])[κ]? =some T->ths[κ]? =some T\/(κ=ths.length/\T=.pw):=fun κ T hκ=> by
  rw[List.getElem?_append] at hκ;split at hκ
  ·exact .inl hκ
  ·cases hz:κ-ths.length with
   | zero=> rw[hz] at hκ;cases hκ;exact .inr ⟨oM,rfl⟩
   | succ z=> rw[hz] at hκ;cases hκ
 refine⟨h.sh,h.cb,⟨fun j b f o CI=> ?_,fun i j aO b o hi=> ?_,fun j=> ?_,h.vi.bs,fun j b x' o CI hj=> ?_,h.vi.bn⟩,fun g hg b=> ?_,?_,?_,fun κ T hκ hT=> ?_,by rw[CM,hm];exact hd0,fun κ T hκ hT=> ?_,h.os⟩
 ·rw[hV] at CI;split at CI
  ·obtain⟨_,f',h1⟩:=jE CI;exact h.vi.sat 0 b f' o h1
  ·exact h.vi.sat j b f o CI
 ·rw[hV] at hi ⊢;split at hi
  ·have:=(jE hi).1;cases this
  ·split
   ·exact aH (h.vi.dj i 0 oM b o hi)
   ·exact h.vi.dj i j aO b o hi
 ·rw[hV];split
  ·exact aH (h.vi.sh 0)
  ·exact h.vi.sh j
 ·rw[hV] at hj;split at hj
  ·have:=(jE hj).1;cases this
  ·exact h.vi.bd j b x' o CI hj
 ·rw[hV,if_neg (by
   rintro(rfl|rfl)
   ·exact hg (.inr ⟨oM,oM⟩)
   ·exact hg (.inl rfl))]
  exact h.hx g (fun hh=> hg (hh.imp id fun⟨h1,h2⟩=> ⟨h1,oM⟩)) b
 ·exact h.ti.fork hx hy hd0 oM oM (fun b f o CI=> jE CI) hHN
 ·obtain⟨h1,h3,h4⟩:=h.free;refine⟨h1,fun g=> ?_,h4.fork h.ti.gs hx hy hd0⟩;rw[hV];split
  ·exact aH (h3 0)
  ·exact h3 g
 ·rcases get κ T hκ with OC|⟨_,rfl⟩
  ·obtain⟨r,hr⟩:=h.pJ κ T OC hT;have NB:=(List.getElem?_eq_some_iff.1 OC).1;refine⟨r,hr.app fun i hi hgi hc=> ?_⟩;obtain⟨a,ha,_⟩:=hc;obtain⟨op,qA,gX⟩:=touch_of ha;rcases getElem?_append_cases qA with ⟨hl,_⟩|⟨_,gD⟩
   ·omega
   ·simp only[List.mem_toArray,List.mem_cons,List.not_mem_nil,or_false] at gD;rcases gD with rfl|rfl
    ·rw[hx.2] at gX;cases gX
    ·rw[hy.2] at gX;cases gX
  ·cases hT
 ·rw[CM];rcases get κ T hκ with OC|⟨rfl,rfl⟩
  ·exact h.uZ κ T OC hT
  ·rw[<-hN];exact Deaf_absent fun i op hi e=> by have:=h.ti.gs i op hi;omega
end
theorem aCp {s:Sh}{t:Mn}(hp:t.plain=true)(hm:t.mv s= []):t=.ws/\s.q=0:=by
 cases t <;> simp only[Mn.mv] at hm
 case go=> cases hp
 case ret=> cases hp
 case ws=>
  split at hm
  ·exact⟨rfl,by assumption⟩
  ·cases hm
 case w2=> split at hm <;> cases hm
 all_goals cases hm
theorem TI.bare {Mu Wg C base N hs g:Nat}{H:Nat->View}{B:View}{t u:Trace}(h:TI Mu Wg C base N hs H B t)(hg:∀op∈u,op.g=g)(hN:g<N)(hu:∀op∈u,op.act.touch? =none)(hr:∀op∈u,∀a,op.act≠ .mark (.release a)):TI Mu Wg C base N hs H B (t++u):=by
 have old:∀ {i:Nat} {a:Touch},touchAt (t++u) i=some a->touchAt t i=some a/\i<t.size:=by
  intro i a ha;rcases EB ha with ⟨hi,wH⟩|⟨hi,op,qA,_,hxx⟩
  ·exact⟨wH,hi⟩
  ·rw[hu op qA] at hxx;cases hxx
 have oldop:∀ {i:Nat} {op:MemOp} {a:Touch},(t++u)[i]? =some op->op.act.touch? =some a->t[i]? =some op/\i<t.size:=by
  intro i op a qA ha;rcases getElem?_append_cases qA with ⟨hi,eE⟩|⟨hi,gD⟩
  ·exact⟨eE,hi⟩
  ·rw[hu op gD] at ha;cases ha
 refine⟨fun said=> noRace_append (h.nr said) hg fun i a _ op qA b hb _=> (by rw[hu op qA] at hb;cases hb),fun i a b ha hb=> h.bd i a b (old ha).1 hb,fun j hj i a b f o ha hb hH hw=> (h.kn j hj i a b f o (old ha).1 hb hH hw).app u,
  fun i op a qA ha hk NB=> (h.pl i op a (oldop qA ha).1 ha hk NB).app u,fun i a b ha hk hb=> h.np i a b (old ha).1 hk hb,fun i op a qA ha hk=> ?_,fun j hj i a b ha hk hb CI=> (h.sy j hj i a b (old ha).1 hk hb CI).app u,fun a=> (h.rel a).app fun op qA=> hr op qA a,fun i op qA=> ?_,fun i a ha=> h.mem i a (old ha).1⟩
 ·obtain⟨h3,hi⟩:=oldop qA ha;obtain⟨h1,h2⟩:=h.B0 i op a h3 ha hk;exact⟨h1,fun e e'=> by rw[heard_old hi];exact h2 e e'⟩
 ·rcases getElem?_append_cases qA with ⟨hi,eE⟩|⟨hi,gD⟩
  ·exact h.gs i op eE
  ·rw[hg op gD];exact hN
theorem cV {g:Nat}{fn:FuncId}{pos:String}{es:Array Event}(h:∀e∈es,e.mute=true):∀op∈MemOp.ofEvents g fn pos es,op.g=g/\op.act.touch? =none/\∀a,op.act≠ .mark (.release a):=by
 rw[ofEvents_eq];intro op qA;obtain⟨e,he,rfl⟩:=Array.mem_map.1 qA;have:=h e he;obtain⟨loc,wr,sy⟩:=e;cases loc with
 | mark m=> cases m <;> simp[Event.mute] at this <;> simp[MemAct.ofEvent,MemAct.touch?]
 | _=> simp[Event.mute] at this
section
variable {P:Program}{X:Fk}{Fin:Goroutine->Prop}{B:View}{base:Nat}{os0:M1}{gs:Array Goroutine}{w:World}{t:Trace}{ths:List Th}{m:Mn}{s:Sh}{H:Nat->View}{ks:Nat->Nat}{rks:List TB}{q:Nat->Nat}{D:Nat->Bool}
variable {sl:Option (Nat×Nat)}
theorem WT.leave {N:Nat}(h:WT X B base N os0 w t ths m s H D){i:Nat}{fn:FuncId}{pos:String}{es:Array Event}(hi:0<i)(hN:i<N)(hm:∀e∈es,e.mute=true)(hq:∀(κ:Nat) T,ths[κ]? =some T->base+κ=i->T=.quit):
  WT X B base N os0 w (t++MemOp.ofEvents i fn pos es) ths m s H D:=by
 have ho:=cV (g:=i) (fn:=fn) (pos:=pos) hm;have cO:∀op∈MemOp.ofEvents i fn pos es,op.g=i:=fun op qA=> (ho op qA).1;refine⟨h.sh,h.cb,h.vi,h.hx,h.ti.bare cO hN (fun op qA=> (ho op qA).2.1) (fun op qA=> (ho op qA).2.2),?_,fun κ T hκ hT=> ?_,?_,fun κ T hκ hT=> ?_,h.os⟩
 ·obtain⟨h1,h3,h4⟩:=h.free;exact⟨h1,h3,h4.grow fun op qA x hx=> by rw[(ho op qA).2.1] at hx;cases hx⟩
 ·obtain⟨r,hr⟩:=h.pJ κ T hκ hT;refine⟨r,hr.app fun j hj hgj hc=> ?_⟩;obtain⟨a,ha,_⟩:=hc;obtain⟨op,qA,gX⟩:=touch_of ha;rcases getElem?_append_cases qA with ⟨hl,_⟩|⟨_,gD⟩
  ·omega
  ·rw[(ho op gD).2.1] at gX;cases gX
 ·rw[Deaf_other t (g:=0) (g':=i) oM _ cO];exact h.WV
 ·have e:i≠base+κ:=fun e=> hT (hq κ T hκ e.symm);rw[Deaf_other t (g:=base+κ) (g':=i) e _ cO];exact h.uZ κ T hκ hT
theorem PI.pos(h:PI P X Fin B base os0 gs w t ths m s H ks rks q D):∀i,Act base gs.size i->0<ks i:=fun i hi=> Nat.lt_of_le_of_lt (Nat.zero_le _) (h.depth i hi)
theorem PI.at(h:PI P X Fin B base os0 gs w t ths m s H ks rks q D)(d:Nat):PI P X Fin B base os0 gs (w.at d) t ths m s H ks rks q D:=⟨h.inv,h.b1,h.ne,h.dd,h.depth,h.wt.at d,h.si⟩
def PI.meas(X:Fk)(gs:Array Goroutine)(ths:List Th)(m:Mn)(s:Sh)(rks:List TB)(q:Nat->Nat):LR:=(mu X.n ths m s,rks,sumTo gs.size q,runs gs)
def Goes(P:Program)(X:Fk)(Fin:Goroutine->Prop)(B:View)(base:Nat)(os0:M1)(μ:LR)(w:World)(t:Trace)(gs:Array Goroutine)(r:Stepped×Array MemOp):Prop:=
 (∃gs' w' sl' ops ths' m' s' H' ks' rks' q' D',r=(.next (crowd gs' w' sl'),ops)/\PI P X Fin B base os0 gs' w' (t++ops) ths' m' s' H' ks' rks' q' D'/\oG (PI.meas X gs' ths' m' s' rks' q') μ)\/ 
 (∃gs' sl' g g' ths s H ks rks q D,gs[0]? =some g/\r=(.next (crowd gs' w sl'),MemOp.ofEvents 0 g.frame.fn g.frame.place #[Go.ConcR.mk (.acquire (stA X.Wg))])/\gs'=rD P gs 0 g g' w/\Fin g'/\PI P X Fin B base os0 gs w t ths .aq s H ks rks q D)
theorem PI.m4(h:PI P X Fin B base os0 gs w t ths m s H ks rks q D){κ:Nat}{T T':Th}(hκ:ths[κ]? =some T)(hd:T'.did=T.did):∀κ',D κ'=(((ths.set κ T')[κ']?).map Th.did).getD false:=fun κ'=> by
 rw[h.dd κ'];by_cases e:κ=κ'
 ·subst e;rw[List.getElem?_set_self (List.getElem?_eq_some_iff.1 hκ).1,hκ];simp[hd]
 ·rw[List.getElem?_set_ne e]
theorem FF {i:Nat}{u:Trace}(hu:∀op∈u,op.g=i):∀j,j≠i->Deaf (t++u) j=Deaf t j:=fun j hj=> Deaf_other t (g:=j) (g':=i) (Ne.symm hj) u hu
theorem ofEvents_g {g:Nat}{fn:FuncId}{pos:String}{es:Array Event}:∀op∈MemOp.ofEvents g fn pos es,op.g=g:=by
 rw[ofEvents_eq];intro op qA;obtain⟨e,_,rfl⟩:=Array.mem_map.1 qA;rfl
theorem X5 {a b:Nat}{x y:List TB×(Nat×Nat)}(h:a<b):oG (a,x) (b,y):=.left _ _ h
theorem Y5 {a:Nat}{x y:List TB}{u v:Nat×Nat}(h:fY x y):oG (a,x,u) (a,y,v):=.right _ (.left _ _ h)
theorem aCm {a b c:Nat}{x:List TB}{u v:Nat}(h:b<c):oG (a,x,b,u) (a,x,c,v):=.right _ (.right _ (.left _ _ h))
theorem aCn {a b:Nat}{x:List TB}{u v:Nat}(h:u<v):oG (a,x,b,u) (a,x,b,v):=.right _ (.right _ (.right _ h))
theorem MX {i:Nat}{g g':Goroutine}(hi:gs[i]? =some g)(hg:g.status=.running)(hg':g'.status=.blocked):runs (rD P gs i g g' w)<runs gs:=by
 have e:rD P gs i g g' w=gs.setIfInBounds i g':=by
  unfold rD;have:woken P g g' w=id:=by
   funext o
   simp[woken,hg']
  rw[this,Array.map_id]
 rw[e];obtain⟨NB,rfl⟩:=Array.getElem?_eq_some_iff.1 hi;unfold runs;rw[Array.toList_setIfInBounds];have:=List.countP_set (p:=fun g:Goroutine=> g.status==.running) (l:=gs.toList) (i:=i) (a:=g') (by simpa using NB);rw[this];have h1:((gs.toList[i]'(by simpa using NB)).status==GoStatus.running)=true:=by simpa using hg
 have h2:0<gs.toList.countP fun g:Goroutine=> g.status==.running:=List.countP_pos_iff.2 ⟨gs[i],by simp,by simp[hg]⟩;have h3:¬(g'.status==GoStatus.running)=true:=by simp[hg']
 rw[if_pos h1,if_neg h3];omega
theorem PI.bV(h:PI P X Fin B base os0 gs w t ths m s H ks rks q D){κ k:Nat}{T T':Th}{s':Sh}{g g':Goroutine}{w':World}{es:Array Event}{H':View}{D':Nat->Bool}{ρ':TB}{q':Nat}(hκ:ths[κ]? =some T)(hg:gs[base+κ]? =some g)(hk:ks (base+κ)=k+1)
  (hm:(T',s')∈T.mv s) (eC:stepG P false g w=.go g' w' es) (tO:WT X B base gs.size os0 w' (t++MemOp.ofEvents (base+κ) g.frame.fn g.frame.place es) (ths.set κ T') m s' (upd H (base+κ) H') D')
  (hs:OR P X κ T' k H' ρ' q' (Deaf (t++MemOp.ofEvents (base+κ) g.frame.fn g.frame.place es) (base+κ)) g') (CM:∀κ',D' κ'=(((ths.set κ T')[κ']?).map Th.did).getD false)
  (hQ:s'.q<=s.q\/(mayWake P g=true/\g'.status=.running)):
  Goes P X Fin B base os0 (PI.meas X gs ths m s rks q) w t gs (runT P (crowd gs w sl) (base+κ)):=by
 have hN:base+κ<gs.size:=(Array.getElem?_eq_some_iff.1 hg).1;have hb:=h.b1;have ZO:Act base gs.size (base+κ):=.inr ⟨oM,hN⟩;have cX:(base+κ==0)=false:=by simp;omega
 have AN:=o0 h.inv hκ hm;have xL:=h.depth _ ZO;rw[hk] at xL;have JY:=h.si.worker (w':=w') (g:=g) (g':=g') (T':=T') (H':=H') (k':=k) (q':=q') (ρ':=ρ') (s':=s') hb h.pos hκ (FF ofEvents_g) hQ hs;refine .inl ⟨rD P gs (base+κ) g g' w',w',sl,_,ths.set κ T',m,s',_,_,_,_,D',runT_crowd_go hg (by rw[cX];exact eC),⟨h.inv.step hκ hm,hb,h.ne,CM,fun j hj=> ?_,?_,JY⟩,X5 AN⟩
 ·rw[LA] at hj;by_cases e:j=base+κ
  ·subst e;rw[upd_same];omega
  ·rw[upd_ne _ _ e];exact Nat.lt_trans AN (h.depth j hj)
 ·rw[LA];exact tO
theorem PI.aZ(h:PI P X Fin B base os0 gs w t ths m s H ks rks q D){κ k:Nat}{T:Th}{g:Goroutine}(hκ:ths[κ]? =some T)(hg:gs[base+κ]? =some g)(hk:ks (base+κ)=k+1)
  (hs:WS P X κ (k+1) T (H (base+κ)) g):
  Goes P X Fin B base os0 (PI.meas X gs ths m s rks q) w t gs (runT P (crowd gs w sl) (base+κ)):=by
 have hN:base+κ<gs.size:=(Array.getElem?_eq_some_iff.1 hg).1;have hb:=h.b1;obtain⟨_,pw,wr,qt,pl⟩:=hs;have JK:=h.wt.vi.sat (base+κ);have eJ:upd H (base+κ) (H (base+κ))=H:=BJ _ _;have NB:=(List.getElem?_eq_some_iff.1 hκ).1;have aFU:D κ=T.did:=by rw[h.dd κ,hκ];rfl
 cases hp:T.plain with
 | true=>
  obtain⟨dC,gK⟩:=h.inv.ok hκ;obtain⟨T',s',g',w',es,hm,eC,htu,hqe,hra,kH,hq1,hq2,hq3⟩:=pl hp w s JK h.wt.sh dC gK;obtain⟨k2,k3⟩:=dV hp hm;have tO:=h.wt.aZ (fn:=g.frame.fn) (pos:=g.frame.place) h.ne hb hκ hN hp hm htu hqe;have CM:=h.m4 hκ k2;have hQ:s'.q<=s.q\/(mayWake P g=true/\g'.status=.running):=by
   cases aEJ:T.FX with
   | true=> exact .inr ⟨hra aEJ,kH⟩
   | false=> exact .inl (aCr aEJ hm)
  by_cases wK:T'=.quit
  ·obtain⟨q',GY⟩:=hq1 wK;refine h.bV hκ hg hk hm eC (H':=H (base+κ)) (D':=D) (ρ':=.stop) (q':=q') (by rw[eJ];exact tO) (.quit wK ?_) CM hQ;have:Deaf (t++MemOp.ofEvents (base+κ) g.frame.fn g.frame.place es) (base+κ)=1:=by
    rw[Deaf_own,h.wt.uZ κ T hκ (by rintro rfl;cases hp),hqe.net,wK];rfl
   rw[this];exact GY
  ·cases AN:T'.mute with
   | true=>
    obtain⟨n,hn⟩:=hq2 wK AN;exact h.bV hκ hg hk hm eC (H':=H (base+κ)) (D':=D) (ρ':=YG n) (q':=q (base+κ)) (by rw[eJ];exact tO) (.quiet n ⟨wK,AN⟩ rfl hn) CM hQ
   | false=>
    obtain⟨ρ',N5⟩:=(hq3 AN).GX;exact h.bV hκ hg hk hm eC (H':=H (base+κ)) (D':=D) (ρ':=ρ') (q':=q (base+κ)) (by rw[eJ];exact tO) (.walk AN N5) CM hQ
 | false=>
  have xU:T=.pw\/T=.wr\/T=.quit:=by cases T <;> simp[Th.plain] at hp <;> simp
  rcases xU with rfl|rfl|rfl
  ·obtain⟨⟨o,h1,h2⟩,_,_⟩:=h.wt.free;obtain⟨g',w',o',es,eC,how,hG,hT'⟩:=pw rfl D o aFU h2 w JK h1;obtain⟨ρ',N5⟩:=hT'.GX;have tO:=h.wt.aGC (fn:=g.frame.fn) (pos:=g.frame.place) h.ne hκ hN how hG;refine h.bV hκ hg hk (T':=.wr) (s':=s) (by simp[Th.mv]) eC (H':=H (base+κ)) (by rw[eJ];exact tO) (q':=q (base+κ)) (.walk rfl N5) (fun κ'=> ?_) (.inl (Nat.le_refl _));by_cases e:κ'=κ
   ·subst e;rw[List.getElem?_set_self NB];simp[XT,Th.did]
   ·rw[List.getElem?_set_ne (Ne.symm e),<-h.dd κ',v9 e]
  ·obtain⟨g',eC,n,hn⟩:=wr rfl w JK;have tO:=h.wt.mute (fn:=g.frame.fn) (pos:=g.frame.place) h.ne hκ hN;exact h.bV hκ hg hk (T':=.wk) (s':=s) (by simp[Th.mv]) eC (H':=H (base+κ)) (D':=D) (ρ':=YG n) (q':=q (base+κ)) (by rw[eJ];exact tO) (.quiet n ⟨by simp,rfl⟩ rfl hn) (h.m4 hκ rfl) (.inl (Nat.le_refl _))
  ·exact(qt rfl).elim
theorem PI.worker(h:PI P X Fin B base os0 gs w t ths m s H ks rks q D){κ:Nat}{T:Th}{g:Goroutine}(hκ:ths[κ]? =some T)(hg:gs[base+κ]? =some g)(hr:g.status=.running):
  Goes P X Fin B base os0 (PI.meas X gs ths m s rks q) w t gs (runT P (crowd gs w sl) (base+κ)):=by
 have hN:base+κ<gs.size:=(Array.getElem?_eq_some_iff.1 hg).1;have NB:=(List.getElem?_eq_some_iff.1 hκ).1;have hb:=h.b1;have ZO:Act base gs.size (base+κ):=.inr ⟨oM,hN⟩;have cX:(base+κ==0)=false:=by simp;omega
 obtain⟨g₁,ρ,h1,h2,LK⟩:=h.si.work κ T hκ;rw[hg] at h1;cases h1
 have hkp:=h.pos _ ZO;obtain⟨k,hk⟩:∃k,ks (base+κ)=k+1:=⟨ks (base+κ)-1,oM⟩
 have xL:=h.depth _ ZO;rw[hk] at LK xL;have aGO:upd ks (base+κ) (ks (base+κ))=ks:=BJ _ _;have aGm:upd q (base+κ) (q (base+κ))=q:=BJ _ _;have eJ:upd H (base+κ) (H (base+κ))=H:=BJ _ _
 -- a step that leaves the automaton where it is
 have stay:∀(g':Goroutine) (w':World) (es:Array Event) (H':View) (q':Nat) (ρ':TB),stepG P false g w=.go g' w' es-> 
   WT X B base gs.size os0 w' (t++MemOp.ofEvents (base+κ) g.frame.fn g.frame.place es) ths m s (upd H (base+κ) H') D-> 
   OR P X κ T (k+1) H' ρ' q' (Deaf (t++MemOp.ofEvents (base+κ) g.frame.fn g.frame.place es) (base+κ)) g'-> 
   oG (PI.meas X (rD P gs (base+κ) g g' w') ths m s (rks.set (base+κ) ρ') (upd q (base+κ) q')) (PI.meas X gs ths m s rks q)-> 
   Goes P X Fin B base os0 (PI.meas X gs ths m s rks q) w t gs (runT P (crowd gs w sl) (base+κ)):=by
  intro g' w' es H' q' ρ' eC tO hs' aAf;have aEL:ths.set κ T=ths:=by
   apply List.ext_getElem?
   intro j;by_cases e:κ=j
   ·subst e;rw[List.getElem?_set_self NB,hκ]
   ·rw[List.getElem?_set_ne e]
  have JY:=h.si.worker (w':=w') (g:=g) (g':=g') (T':=T) (H':=H') (k':=k+1) (q':=q') (ρ':=ρ') (s':=s) hb h.pos hκ (FF ofEvents_g) (.inl (Nat.le_refl _)) hs';rw[aEL] at JY;refine .inl ⟨rD P gs (base+κ) g g' w',w',sl,MemOp.ofEvents (base+κ) g.frame.fn g.frame.place es,ths,m,s,upd H (base+κ) H',upd ks (base+κ) (k+1),rks.set (base+κ) ρ',upd q (base+κ) q',D,runT_crowd_go hg (by rw[cX];exact eC),⟨h.inv,hb,h.ne,h.dd,fun j hj=> ?_,?_,JY⟩,aAf⟩
  ·rw[LA] at hj;by_cases e:j=base+κ
   ·subst e;rw[upd_same];exact xL
   ·rw[upd_ne _ _ e];exact h.depth j hj
  ·rw[LA];exact tO
 cases LK with
 | quit hT hq=>
  cases hqq:q (base+κ) with
  | zero=> rw[hqq] at hq;rw[hq.1] at hr;cases hr
  | succ q'=>
   rw[hqq] at hq;rcases hq with ⟨hf,_⟩|⟨_,g',es,AN,eC,GY⟩
   ·rw[hf] at hr;cases hr
   ·have hrk:rks.set (base+κ) ρ=rks:=by
     apply List.ext_getElem?
     intro j;by_cases e:base+κ=j
     ·subst e;rw[List.getElem?_set_self (by rw[h.si.T1];exact hN),h2]
     ·rw[List.getElem?_set_ne e]
    have tO:=h.wt.leave (i:=base+κ) (fn:=g.frame.fn) (pos:=g.frame.place) oM hN AN fun κ' T' OC e=> by
     obtain rfl:κ'=κ:=by omega
     rw[hκ] at OC;cases OC
     exact hT
    refine stay g' w es (H (base+κ)) q' ρ (eC w) (by rw[eJ];exact tO) (.quit hT (by rw[Deaf_own];exact GY)) ?_;rw[hrk];unfold PI.meas;rw[LA];refine aCm ?_;have:=sumTo_upd (f:=q) q' (fun a=> a) (i:=base+κ) (j:=gs.size) hN;have e:sumTo gs.size (fun a=> upd q (base+κ) q' a)=sumTo gs.size (upd q (base+κ) q'):=rfl;have e2:sumTo gs.size (fun a=> q a)=sumTo gs.size q:=rfl;omega
 | quiet n hT hρ hgo=>
  cases n with
  | succ n=>
   obtain⟨_,g',eC,aF6⟩:=hgo;refine stay g' w #[] (H (base+κ)) (q (base+κ)) (YG n) (eC w) (by rw[eJ];simpa [MemOp.ofEvents] using h.wt) (.quiet n hT rfl aF6) ?_;unfold PI.meas;refine Y5 (fY.set h2 ?_);rw[hρ];exact zX n
  | zero=> exact h.aZ hκ hg hk hgo
 | walk hT hgo=>
  cases ρ with
  | stop=> exact h.aZ hκ hg hk hgo
  | step f=>
   obtain⟨_,eC⟩:=hgo;obtain⟨g',w',es,H',h3,h4,h5⟩:=eC w (h.wt.vi.sat _) ⟨h.wt.cb,_,h.wt.sh⟩;refine stay g' w' es H' (q (base+κ)) (f w) h3 (h.wt.walk h.ne ZO hN h4 fun κ' T' OC e=> ?_) (.walk hT h5) ?_
   ·obtain rfl:κ'=κ:=by omega
    rw[hκ] at OC;cases OC
    exact hT
   ·unfold PI.meas;exact Y5 (fY.set h2 (.step f w))
  | phase f=>
   obtain⟨_,hp,_⟩:=hgo;exact hp.elim
end
end Go.RL
