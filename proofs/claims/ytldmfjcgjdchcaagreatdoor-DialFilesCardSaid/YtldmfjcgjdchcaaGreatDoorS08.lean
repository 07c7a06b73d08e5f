/-
 Texts of the proofs over baudot/dial.
-/
import Derived.Test.YtldmfjcgjdchcaaGreatDoorS07
namespace Go.Proofs.YtldmfjcgjdchcaaGreatDoor
open Go.RL Go.Proofs.Tryz
set_option maxRecDepth 10000
set_option maxHeartbeats 16000000
structure VS(a b i j:Nat)(u:List Int):Prop where
 ai:a+1<=i
 ij:i<=j+1
 jb:j<b
 aj:a<=j
 lo:∀k,a<k->k<i->vA u k<=vA u a
 hi:∀k,j<k->k<b->vA u a<vA u k
theorem VS.start {a b:Nat}{u:List Int}(h:a<b):VS a b (a+1) (b-1) u:=⟨Nat.le_refl _,oM,oM,oM,fun k h1 h2=> by omega,fun k h1 h2=> by omega⟩
theorem VS.up {a b i j:Nat}{u:List Int}(h:VS a b i j u)(CU:i<=j)(hle:¬vA u a<vA u i):VS a b (i+1) j u:=
 ⟨by have:=h.ai;omega,oM,h.jb,h.aj,fun k h1 h2=> by
  by_cases e:k=i
  ·rw[e];omega
  ·exact h.lo k h1 oM,h.hi⟩
theorem VS.down {a b i j:Nat}{u:List Int}(h:VS a b i j u)(CU:i<=j)(KB:vA u a<vA u j):VS a b i (j-1) u:=
 ⟨h.ai,oM,by have:=h.jb;omega,by have:=h.ai;omega,h.lo,fun k h1 h2=> by
  by_cases e:k=j
  ·rw[e];exact KB
  ·exact h.hi k oM h2⟩
theorem VS.swap {a b i j:Nat}{u:List Int}(h:VS a b i j u)(hl:b<=u.length)(CU:i<=j)(h1:vA u a<vA u i)(h2:¬vA u a<vA u j):i<j/\VS a b (i+1) (j-1) (GB u i j)/\vA (GB u i j) a=vA u a:=by
 have ha:=h.ai;have hb:=h.jb;have aB:i≠j:=by
  rintro rfl;omega
 have hs:=fun q=> WC (l:=u) (p:=i) (q:=j) oM oM q;have h0:vA (GB u i j) a=vA u a:=by rw[hs,if_neg oM,if_neg oM]
 refine⟨oM,⟨oM,oM,oM,oM,fun k h3 h4=> ?_,fun k h3 h4=> ?_⟩,h0⟩
 ·rw[h0,hs,if_neg oM];by_cases e:k=i
  ·rw[if_pos e];omega
  ·rw[if_neg e];exact h.lo k h3 oM
 ·rw[h0,hs];by_cases e:k=j
  ·rw[if_pos e];exact h1
  ·rw[if_neg e,if_neg oM];exact h.hi k oM h4
structure cN(a b c:Nat)(x:Int)(u:List Int):Prop where
 ac:a<c
 cb:c<=b
 lo:∀k,a<=k->k<c->vA u k<=x
 hi:∀k,c<=k->k<b->x<vA u k
theorem VS.fin {a b i j:Nat}{u:List Int}(h:VS a b i j u)(CU:j<i){x:Int}(hx:vA u a=x):cN a b i x u:=by
 have h1:=h.ij;have h2:=h.ai;have h3:=h.jb;exact⟨oM,oM,fun k g1 g2=> by
  by_cases e:k=a
  ·rw[e,hx];exact Int.le_refl _
  ·rw[<-hx];exact h.lo k oM g2,fun k g1 g2=> by rw[<-hx];exact h.hi k oM g2⟩
section
variable(M:Md prog)(H:View)
theorem Y3(dec:Int->By)(sb:Nat)(l:List Int)(jj:List Value)(n cap a b pv:Nat)(hn:n=l.length)(hE:MO dec l)(hb:b<=n)(gG:n<=100000000)(hp:a<=pv/\pv<b)(hS:H sb=some (true,.cells ⟨(rA dec l)++jj⟩ 9 (0,0))):
  fA M 263 #[.sl sb n cap,.nt a,.nt b,.nt pv] H (xB dec H sb jj (fun v m=> ∃s:Nat×List Int,v=.int .i64 (s.1:Nat)/\m=s.2/\(nA a b l s.2/\cN a b s.1 (vA l pv) s.2))):=by
 refine fA.enter (vs:= [.sl sb n cap,.nt a,.nt b,.nt pv]) func263 rfl ntmps263 Nb (jA.pull hS) fun St c cs hK=> ?_;have hx0:vA (GB l a pv) a=vA l pv:=by
  rw[WC oM oM];by_cases e:a=pv
  ·rw[if_pos e,e]
  ·rw[if_neg e,if_pos rfl]
 have hu:nA a b l (GB l a pv):=nA.swap oM oM oM oM;have eb:((b:Nat):Int)-1=((b-1:Nat):Int):=by omega
 have ea:iA .add .i64 (a:Nat) 1=some (.int .i64 ((a+1:Nat):Int)):=by rw[pB oM oM];rfl
 have y1:=sA (dec:=dec) (m:=l) (j:=jj) (k:=(a:Nat)) (p:=a) rfl oM;have y2:=sA (dec:=dec) (m:=l) (j:=jj) (k:=(pv:Nat)) (p:=pv) rfl oM;have y3:=EA (dec:=dec) (m:=l) (j:=jj) (k:=(a:Nat)) (x:=vA l (pv)) (p:=a) rfl oM;have y4:=EA (dec:=dec) (m:=(l).set (a) (vA l (pv))) (j:=jj) (k:=(pv:Nat)) (x:=vA l (a)) (p:=pv) rfl (by rw[List.length_set];omega);have y5:=CA (dec:=dec) (m:=l) (j:=jj) (k:=(a:Nat)) (p:=a) rfl oM;have y6:=CA (dec:=dec) (m:=(l).set (a) (vA l (pv))) (j:=jj) (k:=(pv:Nat)) (p:=pv) rfl (by rw[List.length_set];omega);refine U5 ?_;refine Tc.dr [13,15] [0] mixed rfl ?_;refine V2 0 ?_;refine .nw 2 ?_;refine .nw 3 ?_;refine V4 4 ?_;refine .nw 8 ?_;refine .nw 9 ?_;refine .nw 10 ?_;refine V2 11 ?_;refine .e 13 0 ?_;refine .nw 14 ?_;refine .e 15 0 ?_;refine .dn ?_;refine U9 ?_;rw[eb];refine U2 ?_;refine Tc.db (Tc.qA (σ:= { s:Nat×Nat×List Int//VS a b s.1 s.2.1 s.2.2/\nA a b l s.2.2/\vA s.2.2 a=vA l pv }) (fun s=> ([(0,.sl sb n cap),(1,.nt a),(9,.nt s.1.1),(10,.nt s.1.2.1)],[Bb sb ((rA dec s.1.2.2)++jj) 9])) (fun s=> s.1.2.1+1-s.1.1) ?_
  ⟨(a+1,b-1,GB l a pv),VS.start oM,hu,hx0⟩)
 clear y1 y2 y3 y4 y5 y6 hx0 hu;rintro⟨⟨i,j,w⟩,g1,g2,g3⟩ ih0;simp only at g1 g2 g3;have GU:=g2.len;have KX:=hE.JD g2;have g1a:=g1.ai;have g1b:=g1.ij;have g1c:=g1.jb;show Tc M St _ _ _ _ [(0,.sl sb n cap),(1,.nt a),(9,.nt i),(10,.nt j)] [Bb sb ((rA dec w)++jj) 9] _ _;have za:=sA (dec:=dec) (m:=w) (j:=jj) (k:=(a:Nat)) (p:=a) rfl oM;refine U2 ?_;refine VG (fun R' L'=> ∃s,i<=s/\VS a b s j w/\(s<=j->vA w a<vA w s)/\pC [(0,.sl sb n cap),(1,.nt a),(9,.nt s),(10,.nt j)] R'/\L'= [Bb sb ((rA dec w)++jj) 9]) ?_ (fun fin=> ?_)
 ·rintro R' _ ⟨i2,i2le,p1,x1,iM,rfl⟩;refine Tc.yC ?_ iM (List.Sublist.refl _);have p1a:=p1.ai;have p1b:=p1.ij;have p1c:=p1.jb;refine U ?_;refine VG (fun R' L'=> ∃s,s<=j/\VS a b i2 s w/\(i2<=s->¬vA w a<vA w s)/\pC [(0,.sl sb n cap),(1,.nt a),(9,.nt i2),(10,.nt s)] R'/\L'= [Bb sb ((rA dec w)++jj) 9]) ?_ (fun fin=> ?_)
  ·rintro R' _ ⟨j2,j2le,p2,x2,iM,rfl⟩;refine Tc.yC ?_ iM (List.Sublist.refl _);have p2a:=p2.ai;have p2b:=p2.ij;have p2c:=p2.jb;have p2d:=p2.aj;by_cases d:j2<i2
   ·refine MF ?_;refine .rt hK func263 results263 [_] ?_;exact fun H' hs=> xB.of (dec:=dec) hs (i:=0) rfl ⟨(i2,w),rfl,rfl,g2,p2.fin d g3⟩
   ·obtain⟨w1,w2,w3⟩:=p2.swap oM oM (x1 oM) (x2 oM);have e2:((j2:Nat):Int)-1=((j2-1:Nat):Int):=by omega
    have ei:iA .add .i64 (i2:Nat) 1=some (.int .i64 ((i2+1:Nat):Int)):=by rw[pB oM oM];rfl
    refine iD ?_;have z1:=sA (dec:=dec) (m:=w) (j:=jj) (k:=(i2:Nat)) (p:=i2) rfl oM;have z2:=sA (dec:=dec) (m:=w) (j:=jj) (k:=(j2:Nat)) (p:=j2) rfl oM;have z3:=EA (dec:=dec) (m:=w) (j:=jj) (k:=(i2:Nat)) (x:=vA w (j2)) (p:=i2) rfl oM;have z4:=EA (dec:=dec) (m:=(w).set (i2) (vA w (j2))) (j:=jj) (k:=(j2:Nat)) (x:=vA w (i2)) (p:=j2) rfl (by rw[List.length_set];omega);have z5:=CA (dec:=dec) (m:=w) (j:=jj) (k:=(i2:Nat)) (p:=i2) rfl oM;have z6:=CA (dec:=dec) (m:=(w).set (i2) (vA w (j2))) (j:=jj) (k:=(j2:Nat)) (p:=j2) rfl (by rw[List.length_set];omega);refine Tc.dr [13,15] [0] mixed rfl ?_;refine V2 0 ?_;refine .nw 2 ?_;refine .nw 3 ?_;refine V4 4 ?_;refine .nw 8 ?_;refine .nw 9 ?_;refine .nw 10 ?_;refine V2 11 ?_;refine .e 13 0 ?_;refine .nw 14 ?_;refine .e 15 0 ?_;refine .dn ?_;refine ND ?_;rw[e2];refine U ?_;exact Tc.db (ih0 ⟨(i2+1,j2-1,GB w i2 j2),w2,g2.trans (nA.swap oM oM oM oM),w3.trans g3⟩ Ob)
  ·refine Tc.db (Tc.qA (σ:= { s:Nat//s<=j/\VS a b i2 s w }) (fun s=> ([(0,.sl sb n cap),(1,.nt a),(9,.nt i2),(10,.nt s.1)],[Bb sb ((rA dec w)++jj) 9])) (fun s=> s.1) ?_ ⟨j,Nat.le_refl _,p1⟩);rintro⟨s,q1,q2⟩ ih;have q3:=q2.ai;have q4:=q2.ij;have q5:=q2.jb;show Tc M St _ _ _ _ [(0,.sl sb n cap),(1,.nt a),(9,.nt i2),(10,.nt s)] [Bb sb ((rA dec w)++jj) 9] _ _;by_cases c1:i2<=s
   ·have zs:=sA (dec:=dec) (m:=w) (j:=jj) (k:=(s:Nat)) (p:=s) rfl oM;have es:((s:Nat):Int)-1=((s-1:Nat):Int):=by omega
    by_cases c2:vA w a<vA w s
    ·refine U2 ?_;refine Tc.dr [] [] mixed rfl ?_;refine nR 0 ?_;refine .z 12 rfl (pA.tk fun H hs=> CC M H KX (tA oM) (tA oM) true (decide_eq_true c2)) ?_;refine .nn 13 ?_;refine .dn ?_;refine U8 ?_;rw[es];refine U ?_;exact Tc.db (ih ⟨s-1,oM,q2.down c1 c2⟩ Ob)
    ·repeat (refine Tc.seq ?_)
     refine Tc.dr [] [] mixed rfl ?_;refine nR 0 ?_;refine .z 12 rfl (pA.tk fun H hs=> CC M H KX (tA oM) (tA oM) false (decide_eq_false c2)) ?_;refine .nn 13 ?_;refine .dn ?_;refine U2 ?_;exact fin _ _ ⟨s,q1,q2,fun _=> c2,⟨rfl,rfl,rfl,rfl,trivial⟩,rfl⟩
   ·repeat (refine Tc.seq ?_)
    refine Tc.dr [] [] mixed rfl ?_;refine V4 0 ?_;refine .nw 4 ?_;refine .nw 5 ?_;refine .nw 6 ?_;refine .nw 7 ?_;refine .nw 8 ?_;refine .nw 9 ?_;refine .nw 10 ?_;refine .nw 11 ?_;refine .nw 12 ?_;refine .nn 13 ?_;refine .dn ?_;refine U2 ?_;exact fin _ _ ⟨s,q1,q2,fun h=> (c1 h).elim,⟨rfl,rfl,rfl,rfl,trivial⟩,rfl⟩
 ·refine Tc.db (Tc.qA (σ:= { s:Nat//i<=s/\VS a b s j w }) (fun s=> ([(0,.sl sb n cap),(1,.nt a),(9,.nt s.1),(10,.nt j)],[Bb sb ((rA dec w)++jj) 9])) (fun s=> j+1-s.1) ?_ ⟨i,Nat.le_refl _,g1⟩);rintro⟨s,q1,q2⟩ ih;have q3:=q2.ai;have q4:=q2.ij;have q5:=q2.jb;show Tc M St _ _ _ _ [(0,.sl sb n cap),(1,.nt a),(9,.nt s),(10,.nt j)] [Bb sb ((rA dec w)++jj) 9] _ _;by_cases c1:s<=j
  ·have zs:=sA (dec:=dec) (m:=w) (j:=jj) (k:=(s:Nat)) (p:=s) rfl oM;have es:iA .add .i64 (s:Nat) 1=some (.int .i64 ((s+1:Nat):Int)):=by rw[pB oM oM];rfl
   by_cases c2:vA w a<vA w s
   ·repeat (refine Tc.seq ?_)
    refine Tc.dr [] [] mixed rfl ?_;refine nR 0 ?_;refine .z 12 rfl (pA.tk fun H hs=> CC M H KX (tA oM) (tA oM) true (decide_eq_true c2)) ?_;refine V2 13 ?_;refine .dn ?_;refine U2 ?_;exact fin _ _ ⟨s,q1,q2,fun _=> c2,⟨rfl,rfl,rfl,rfl,trivial⟩,rfl⟩
   ·refine U2 ?_;refine Tc.dr [] [] mixed rfl ?_;refine nR 0 ?_;refine .z 12 rfl (pA.tk fun H hs=> CC M H KX (tA oM) (tA oM) false (decide_eq_false c2)) ?_;refine V2 13 ?_;refine .dn ?_;refine U9 ?_;exact Tc.db (ih ⟨s+1,oM,q2.up c1 c2⟩ Ob)
  ·repeat (refine Tc.seq ?_)
   refine Tc.dr [] [] mixed rfl ?_;refine V4 0 ?_;refine .nw 4 ?_;refine .nw 5 ?_;refine .nw 6 ?_;refine .nw 7 ?_;refine .nw 8 ?_;refine .nw 9 ?_;refine .nw 10 ?_;refine .nw 11 ?_;refine .nw 12 ?_;refine .nw 13 ?_;refine .nn 14 ?_;refine .dn ?_;refine U2 ?_;exact fin _ _ ⟨s,q1,q2,fun h=> (c1 h).elim,⟨rfl,rfl,rfl,rfl,trivial⟩,rfl⟩
end
def tJ(l:List Int)(a b a' b':Nat)(u:List Int):Prop:=∀m,nA a' b' u m->AF a' b' m->nA a b l m/\AF a b m
theorem tJ.dJ {l u w:List Int}{a b a' b':Nat}(h:tJ l a b a' b' u)(k:nA a' b' u w):tJ l a b a' b' w:=fun m h1 h2=> h m (k.trans h1) h2
theorem nF.left {a b c:Nat}{u:List Int}(h:nF a b u)(k:c<=b):nF a c u:=by
 rcases h with h|h
 ·exact .inl h
 ·exact .inr fun i h1 h2=> h i h1 oM
theorem nF.keep {a c b:Nat}{u w:List Int}(h:nF a c u)(k:nA (c+1) b u w):nF a c w:=by
 rcases h with h|h
 ·exact .inl h
 ·refine .inr fun i h1 h2=> ?_;rw[k.out (a-1) (.inl oM),k.out i (.inl oM)];exact h i h1 h2
theorem tJ.right {l u x:List Int}{a b a' b' c:Nat}(h:tJ l a b a' b' u)(k:Part a' b' c u)(hl:b'<=u.length)(h1:nA a' c u x)(s1:AF a' c x):tJ l a b (c+1) b' x:=fun m h2 s2=> by
 obtain⟨g1,g2⟩:=k.sorted hl h1 s1 h2 s2;exact h m g1 g2
theorem tJ.left {l u x:List Int}{a b a' b' c:Nat}(h:tJ l a b a' b' u)(k:Part a' b' c u)(hl:b'<=u.length)(h1:nA (c+1) b' u x)(s1:AF (c+1) b' x):tJ l a b a' c x:=fun m h2 s2=> by
 obtain⟨g1,g2⟩:=k.aBQ hl h1 s1 h2 s2;exact h m g1 g2
theorem Part.ahead {a b c:Nat}{u x:List Int}(k:Part a b c u)(h1:nA a c u x):nF (c+1) b x:=.inr fun i g1 g2=> by
 have e:c+1-1=c:=by omega
 rw[e];have h2:=k.hi i oM g2;rw[<-h1.out c (.inr (Nat.le_refl _)),<-h1.out i (.inr oM)] at h2;exact h2
theorem cN.ahead {a b c:Nat}{x:Int}{w:List Int}(k:cN a b c x w):nF c b w:=.inr fun i g1 g2=> by
 have h1:=k.ac;have h2:=k.lo (c-1) oM oM;have h3:=k.hi i g1 g2;omega
theorem tJ.eq {l u w:List Int}{a b a' b' c:Nat}{x:Int}(h:tJ l a b a' b' u)(k:cN a' b' c x w)(ht:nA a' b' u w)(AU:∀i,a'<=i->i<b'->x<=vA w i)(hl:b'<=w.length):tJ l a b c b' w:=fun m h1 s1=> by
 have c1:=k.ac;have c2:=k.cb;refine h m (ht.trans (h1.wide oM (Nat.le_refl _))) fun p q g1 g2 g3=> ?_;have zN:∀i,a'<=i->i<c->vA m i=x:=fun i e1 e2=> by
  rw[h1.out i (.inl e2)];have e3:=k.lo i e1 e2;have e4:=AU i e1 oM;omega
 have gQ:∀i,c<=i->i<b'->x<vA m i:=h1.all hl (P:=fun z=> x<z) k.hi;by_cases d1:q<c
 ·rw[zN p g1 oM,zN q oM d1];exact Int.le_refl _
 ·by_cases d2:p<c
  ·rw[zN p g1 d2];have:=gQ q oM g3;omega
  ·exact s1 p q oM g2 g3
theorem Or.oU {dec:Int->By}{M:Md prog}{n:Nat}{H₀:View}{R:Rg}{L:Bl}{o:Oper}{K:Rg->Bl->Prop}{cl:Go.Call}{x:Operand}{fv:Value}{az:List Value}{d:Nat}{σ:Type}(i:Nat){sb:Nat}{l:List Int}{j:List Value}(val:σ->Value)(mm:σ->List Int)(p:σ->Prop)
  (lA:o.op=.call cl) (iB:cl.callee=.value x) (hx:JA R x=some fv) (has:lD R cl.args.toList=some az) (hd:o.dst=some d) (hn:d<n) (hi:L[i]? =some (sb,true,.cells ⟨(rA dec l)++j⟩ 9 (0,0)))
  (hc:∀H,jA H₀ L H->WB M fv az H (xB dec H sb j fun v m=> ∃s,v=val s/\m=mm s/\p s)) (hk:∀s,p s->K ((d,val s)::R) (L.set i (sb,true,.cells ⟨(rA dec (mm s))++j⟩ 9 (0,0)))):Or M n H₀ R L o K:=
 Or.vF i (fun v m=> ∃s,v=val s/\m=mm s/\p s) lA iB hx has hd hn hi hc fun v m h=> by
  obtain⟨s,rfl,rfl,h3⟩:=h;exact hk s h3
section
variable(M:Md prog)
theorem aDt (dec:Int->By)(sb:Nat)(jj:List Value)(n cap:Nat)(h40:n<=100000000):∀(d:Nat) (H:View) (l:List Int) (a b lim:Nat),b-a<d->n=l.length->a<=b->b<=n->lim<=100->MO dec l->nF a b l->H sb=some (true,.cells ⟨(rA dec l)++jj⟩ 9 (0,0))-> 
  fA M 196 #[.sl sb n cap,.nt a,.nt b,.nt lim] H (xB dec H sb jj (fun v m=> v=.tuple ⟨[]⟩/\nA a b l m/\AF a b m)):=by
 intro d;induction d with
 | zero=> intro H l a b lim hd;omega
 | succ d ihd=>
 intro H l a b lim hd hn AR hb aHU hE hah hS;refine fA.enter (vs:= [.sl sb n cap,.nt a,.nt b,.nt lim]) func196 rfl ntmps196 Nb (jA.pull hS) fun St c cs hK=> ?_;refine U9 ?_;refine Tc.db (Tc.qA (σ:= { s:Nat×Nat×Nat×Bool×Bool×List Int//a<=s.1/\s.1<=s.2.1/\s.2.1<=b/\s.2.2.1<=lim/\nA a b l s.2.2.2.2.2/\tJ l a b s.1 s.2.1 s.2.2.2.2.2/\nF s.1 s.2.1 s.2.2.2.2.2 }) (fun s=> ([(0,.sl sb n cap),(1,.nt s.1.1),(2,.nt s.1.2.1),(3,.nt s.1.2.2.1),(8,.bool s.1.2.2.2.1),(9,.bool s.1.2.2.2.2.1)],[Bb sb ((rA dec s.1.2.2.2.2.2)++jj) 9])) (fun s=> s.1.2.1-s.1.1) ?_
  ⟨(a,b,lim,true,true,l),Nat.le_refl _,AR,Nat.le_refl _,Nat.le_refl _,nA.refl ..,fun m h1 h2=> ⟨h1,h2⟩,hah⟩)
 rintro⟨⟨a',b',lm,wb,wp,u⟩,g1,g2,g3,g4,g5,g6,g7⟩ ih;simp only at g1 g2 g3 g4 g5 g6 g7;have uO:=g5.len;have BK:=hE.JD g5;obtain⟨m,hm⟩:∃m,m=b'-a':=⟨_,rfl⟩
 have e0:((b':Nat):Int)-((a':Nat):Int)=((m:Nat):Int):=by omega
 show Tc M St _ _ _ _ [(0,.sl sb n cap),(1,.nt a'),(2,.nt b'),(3,.nt lm),(8,.bool wb),(9,.bool wp)] [Bb sb ((rA dec u)++jj) 9] _ _;refine U8 ?_;rw[e0];refine U2 ?_;by_cases c1:m<=12
 ·refine iD ?_;refine .e (Or.vF (dec:=dec) (l:=u) 0 (fun v m=> v=.tuple ⟨[]⟩/\nA a' b' u m/\AF a' b' m) rfl rfl rfl rfl rfl dE rfl (fun H hs=> .h (rM M H dec sb u jj n cap a' b' oM BK oM oM oM (hs.get (i:=0) rfl))) (fun v w ⟨_,wt,ws⟩=> ?_));refine U ?_;refine .rt hK func196 results196 [] ?_;exact fun H' hs=> xB.of (dec:=dec) hs (i:=0) rfl ⟨rfl,g6 w wt ws⟩
 ·refine U8 ?_;by_cases c2:lm=0
  ·refine iD ?_;refine .e (Or.vF (dec:=dec) (l:=u) 0 (fun v m=> v=.tuple ⟨[]⟩/\nA a' b' u m/\AF a' b' m) rfl rfl rfl rfl rfl dE rfl (fun H hs=> .h (DV M H dec sb u jj n cap a' b' oM BK oM oM oM (hs.get (i:=0) rfl))) (fun v w ⟨_,wt,ws⟩=> ?_));refine U ?_;refine .rt hK func196 results196 [] ?_;exact fun H' hs=> xB.of (dec:=dec) hs (i:=0) rfl ⟨rfl,g6 w wt ws⟩
  ·refine U7 ?_;refine Tc.via (fun R' L'=> ∃(lm1:Nat) (x:List Int),lm1<=lm/\nA a' b' u x/\pC [(0,.sl sb n cap),(1,.nt a'),(2,.nt b'),(3,.nt lm1),(8,.bool wb),(9,.bool wp),(10,.nt m)] R'/\L'= [Bb sb ((rA dec x)++jj) 9]) ?_ (fun fin=> ?_)
   ·rintro R' _ ⟨lm1,x,o1,o2,iM,rfl⟩;refine Tc.yC ?_ iM (List.Sublist.refl _);have bX:=o2.len;refine U5 ?_;refine .e (Or.xA aFW (fun _=> []) (fun s:Nat×Nat=> a'<=s.1/\s.1<b'/\s.2<=2) rfl rfl rfl rfl rfl dE (fun _=> by simp) (fun H hs=> .h (JP M H dec sb true x jj n cap a' b' oM (BK.JD o2) h40 oM oM (hs.get (i:=0) rfl))) (fun⟨p,h⟩ ⟨v1,v2,v3⟩=> ?_));refine U6 ?_;simp only at v1 v2 v3;refine U ?_;refine Tc.via (fun R' L'=> ∃(p:Nat) (y:List Int),a'<=p/\p<b'/\nA a' b' x y/\(∃h:Nat,pC [(0,.sl sb n cap),(1,.nt a'),(2,.nt b'),(3,.nt lm1),(8,.bool wb),(9,.bool wp),(10,.nt m),(11,.nt p),(12,.nt h)] R')/\L'= [Bb sb ((rA dec y)++jj) 9]) ?_ (fun fin=> ?_)
    ·clear v1 v2 v3;rintro R' _ ⟨p,y,v1,v2,o3,⟨h,iM⟩,rfl⟩;refine Tc.yC ?_ iM (List.Sublist.refl _);have hyl:=o3.len;refine U ?_;refine Tc.via (fun R' L'=> ∃y':List Int,nA a' b' y y'/\pC [(0,.sl sb n cap),(1,.nt a'),(2,.nt b'),(3,.nt lm1),(8,.bool wb),(9,.bool wp),(10,.nt m),(11,.nt p)] R'/\L'= [Bb sb ((rA dec y')++jj) 9]) ?_ (fun fin=> ?_)
     ·rintro R' _ ⟨y,o4,iM,rfl⟩;refine Tc.yC ?_ iM (List.Sublist.refl _);clear iM;replace o3:=o3.trans o4;have hyl:=o3.len;have hEy:=BK.JD (o2.trans o3);refine U ?_;have g5y:=(g5.trans ((o2.trans o3).wide g1 g3))
      have gy:tJ l a b a' b' y:=g6.dJ (o2.trans o3);have ay:nF a' b' y:=g7.dJ (o2.trans o3) oM;refine Tc.via (fun R' L'=> pC [(0,.sl sb n cap),(1,.nt a'),(2,.nt b'),(3,.nt lm1),(8,.bool wb),(9,.bool wp),(10,.nt m),(11,.nt p)] R'/\L'= [Bb sb ((rA dec y)++jj) 9]) ?_ (fun fin=> ?_)
      ·rintro R' _ ⟨iM,rfl⟩;refine Tc.yC ?_ iM (List.Sublist.refl _);clear iM;refine U6 ?_;refine .e (Or.oU (dec:=dec) (l:=y) 0 (fun s:Nat×Bool×List Int=> .tuple ⟨[.nt s.1,.bool s.2.1]⟩) (fun s=> s.2.2) (fun s=> nA a' b' y s.2.2/\Part a' b' s.1 s.2.2) rfl rfl rfl rfl rfl dE rfl (fun H hs=> .h (eU M H dec sb y jj n cap a' b' p oM hEy oM oM oM (hs.get (i:=0) rfl))) (fun⟨EK,al,w⟩ ⟨k1,k2⟩=> ?_));refine U6 ?_;simp only at k1 k2;have k3:=k2.aj;have k4:=k2.jb;have GU:=k1.len;have KX:=hEy.JD k1;have gw:tJ l a b a' b' w:=gy.dJ k1;have aw:nF a' b' w:=ay.dJ k1 oM;have e1:((EK:Nat):Int)-((a':Nat):Int)=((EK-a':Nat):Int):=by omega
       have e2:((b':Nat):Int)-((EK:Nat):Int)=((b'-EK:Nat):Int):=by omega
       have hq:iA .quo .i64 ((m:Nat):Int) 8=some (.int .i64 ((m/8:Nat):Int)):=by
        rw[ON oM oM oM]
        congr 2
       have hgt:∀x y:Nat,iA .geq .i64 ((x:Nat):Int) ((y:Nat):Int)=some (.bool (decide (y<=x))):=fun x y=> by
        by_cases c:y<=x
        ·rw[decide_eq_true c];exact CH oM
        ·rw[decide_eq_false c];exact mJ oM
       have hg1:=hgt (EK-a') (m/8);have fQ:=hgt (b'-EK) (m/8);refine LI ?_;rw[e1,e2];refine U7 ?_;by_cases c5:EK-a'<b'-EK
       ·refine iD ?_;refine .i ?_ (z:=hg1);refine U8 ?_;refine .e (Or.vF (dec:=dec) (l:=w) 0 (fun v m=> v=.tuple ⟨[]⟩/\nA a' EK w m/\AF a' EK m) rfl rfl rfl rfl rfl dE rfl (fun H hs=> .h (ihd H w a' EK lm1 oM oM oM oM oM KX (aw.left oM) (hs.get (i:=0) rfl))) (fun v x ⟨_,xt,xs⟩=> ?_));refine U7 ?_;have hxn:=xt.len;have r1:nA a b l x:=g5y.trans ((k1.trans (xt.wide oM oM)).wide oM oM);have r2:tJ l a b (EK+1) b' x:=gw.right k2 oM xt xs;have r3:nF (EK+1) b' x:=k2.ahead xt;have r4:lm1<=lim:=by omega
        have r5:a<=EK+1:=by omega
        have r6:EK+1<=b':=by omega
        exact Tc.db (ih ⟨(EK+1,b',lm1,decide (m/8<=EK-a'),al,x),r5,r6,g3,r4,r1,r2,r3⟩ Ob)
       ·refine iD ?_;refine .i ?_ (z:=fQ);refine U9 ?_;refine .e (Or.vF (dec:=dec) (l:=w) 0 (fun v m=> v=.tuple ⟨[]⟩/\nA (EK+1) b' w m/\AF (EK+1) b' m) rfl rfl rfl rfl rfl dE rfl (fun H hs=> .h (ihd H w (EK+1) b' lm1 oM oM oM oM oM KX (k2.ahead (nA.refl a' EK w)) (hs.get (i:=0) rfl))) (fun v x ⟨_,xt,xs⟩=> ?_));refine U6 ?_;have r1:nA a b l x:=g5y.trans ((k1.trans (xt.wide oM oM)).wide oM oM);have r2:tJ l a b a' EK x:=gw.left k2 oM xt xs;have r3:nF a' EK x:=(aw.left oM).keep xt;have r4:lm1<=lim:=by omega
        have r5:a'<=EK:=by omega
        have r6:EK<=b:=by omega
        exact Tc.db (ih ⟨(a',EK,lm1,decide (m/8<=b'-EK),al,x),g1,r5,r6,r4,r1,r2,r3⟩ Ob)
      ·by_cases c3:a'=0
       ·subst c3;refine U ?_;refine Tc.dr [] [] mixed rfl ?_;refine V3 0 ?_;refine .nw 3 ?_;refine .nw 4 ?_;refine .nw 5 ?_;refine .nw 6 ?_;refine .nw 7 ?_;refine .nw 8 ?_;refine .nw 9 ?_;refine .nw 10 ?_;refine .nw 11 ?_;refine .nw 12 ?_;refine .nw 13 ?_;refine .nn 14 ?_;refine .dn ?_;refine U2 ?_;exact Tc.db (fin [(0,.sl sb n cap),(1,.nt 0),(2,.nt b'),(3,.nt lm1),(8,.bool wb),(9,.bool wp),(10,.nt m),(11,.nt p)] [Bb sb ((rA dec y)++jj) 9] ⟨⟨rfl,rfl,rfl,rfl,rfl,rfl,rfl,rfl,trivial⟩,rfl⟩)
       ·have ea:((a':Nat):Int)-1=((a'-1:Nat):Int):=by omega
        have y1:=sA (dec:=dec) (m:=y) (j:=jj) (k:=((a':Nat):Int)-1) (p:=a'-1) oM oM;have y2:=sA (dec:=dec) (m:=y) (j:=jj) (k:=(p:Nat)) (p:=p) rfl oM;by_cases KB:vA y (a'-1)<vA y p
        ·refine U ?_;refine Tc.dr [] [] mixed rfl ?_;refine nR 0 ?_;refine .z 12 rfl (pA.tk fun H hs=> CC M H hEy (tA oM) (tA oM) true (decide_eq_true KB)) ?_;refine V2 13 ?_;refine .dn ?_;refine U2 ?_;exact Tc.db (fin [(0,.sl sb n cap),(1,.nt a'),(2,.nt b'),(3,.nt lm1),(8,.bool wb),(9,.bool wp),(10,.nt m),(11,.nt p)] [Bb sb ((rA dec y)++jj) 9] ⟨⟨rfl,rfl,rfl,rfl,rfl,rfl,rfl,rfl,trivial⟩,rfl⟩)
        ·have AU:∀i,a'<=i->i<b'->vA y p<=vA y i:=fun i q1 q2=> by
          rcases ay with h0|h0
          ·exact absurd h0 c3
          ·have:=h0 i q1 q2;omega
         refine U ?_;refine Tc.dr [] [] mixed rfl ?_;refine nR 0 ?_;refine .z 12 rfl (pA.tk fun H hs=> CC M H hEy (tA oM) (tA oM) false (decide_eq_false KB)) ?_;refine V2 13 ?_;refine .dn ?_;refine U2 ?_;clear fin;refine U5 ?_;refine .e (Or.oU (dec:=dec) (l:=y) 0 (fun s:Nat×List Int=> .int .i64 (s.1:Nat)) (fun s=> s.2) (fun s=> nA a' b' y s.2/\cN a' b' s.1 (vA y p) s.2) rfl rfl rfl rfl rfl dE rfl (fun H hs=> .h (Y3 M H dec sb y jj n cap a' b' p oM hEy oM h40 oM (hs.get (i:=0) rfl))) (fun⟨EK,w⟩ ⟨k1,k2⟩=> ?_));refine U2 ?_;simp only at k1 k2;have k3:=k2.ac;have k4:=k2.cb;have GU:=k1.len;refine U6 ?_;have r1:nA a b l w:=g5y.trans (k1.wide oM oM);have r2:tJ l a b EK b' w:=gy.eq k2 k1 (k1.all oM (P:=fun z=> vA y p<=z) AU) oM;have r3:nF EK b' w:=k2.ahead;have r4:lm1<=lim:=by omega
         have r5:a<=EK:=by omega
         exact Tc.db (ih ⟨(EK,b',lm1,wb,wp,w),r5,k4,g3,r4,r1,r2,r3⟩ Ob)
     ·refine U ?_;by_cases c4:wb=true/\wp=true/\h=1
      ·obtain⟨rfl,rfl,rfl⟩:=c4;refine LI ?_;refine .e (Or.oU (dec:=dec) (l:=y) 0 (fun s:Bool×List Int=> .bool s.1) (fun s=> s.2) (fun s=> nA a' b' y s.2/\(s.1=true->AF a' b' s.2)) rfl rfl rfl rfl rfl dE rfl (fun H hs=> .h (fA.mono (rY M H dec sb y jj n cap a' b' oM (BK.JD (o2.trans o3)) oM h40 oM (g7.dJ (o2.trans o3) oM) (hs.get (i:=0) rfl)) (fun v H' ⟨q1,m',⟨t',q2,q3,q4⟩,q5⟩=> ⟨q1,m',⟨(t',m'),q2,rfl,q3,q4⟩,q5⟩))) (fun⟨t,y2⟩ ⟨ht,rO⟩=> ?_));refine U ?_;simp only at ht rO;cases t
       ·refine U2 ?_;exact Tc.db (fin [(0,.sl sb n cap),(1,.nt a'),(2,.nt b'),(3,.nt lm1),(8,.bool true),(9,.bool true),(10,.nt m),(11,.nt p)] [Bb sb ((rA dec y2)++jj) 9] ⟨y2,ht,⟨rfl,rfl,rfl,rfl,rfl,rfl,rfl,rfl,trivial⟩,rfl⟩)
       ·have QA:=(g6.dJ (o2.trans o3)) y2 ht (rO rfl);refine U ?_;refine .rt hK func196 results196 [] ?_;exact fun H' hs=> xB.of (dec:=dec) hs (i:=0) rfl ⟨rfl,QA⟩
      ·have c5:wb=true->wp=true->h≠1:=fun e1 e2 e3=> c4 ⟨e1,e2,e3⟩;cases wb
       ·cases wp
        ·refine uH ?_;exact Tc.db (fin [(0,.sl sb n cap),(1,.nt a'),(2,.nt b'),(3,.nt lm1),(8,.bool false),(9,.bool false),(10,.nt m),(11,.nt p)] [Bb sb ((rA dec y)++jj) 9] ⟨y,nA.refl ..,⟨rfl,rfl,rfl,rfl,rfl,rfl,rfl,rfl,trivial⟩,rfl⟩)
        ·refine uH ?_;exact Tc.db (fin [(0,.sl sb n cap),(1,.nt a'),(2,.nt b'),(3,.nt lm1),(8,.bool false),(9,.bool true),(10,.nt m),(11,.nt p)] [Bb sb ((rA dec y)++jj) 9] ⟨y,nA.refl ..,⟨rfl,rfl,rfl,rfl,rfl,rfl,rfl,rfl,trivial⟩,rfl⟩)
       ·cases wp
        ·refine uH ?_;exact Tc.db (fin [(0,.sl sb n cap),(1,.nt a'),(2,.nt b'),(3,.nt lm1),(8,.bool true),(9,.bool false),(10,.nt m),(11,.nt p)] [Bb sb ((rA dec y)++jj) 9] ⟨y,nA.refl ..,⟨rfl,rfl,rfl,rfl,rfl,rfl,rfl,rfl,trivial⟩,rfl⟩)
        ·have c6:=c5 rfl rfl;refine uH ?_;exact Tc.db (fin [(0,.sl sb n cap),(1,.nt a'),(2,.nt b'),(3,.nt lm1),(8,.bool true),(9,.bool true),(10,.nt m),(11,.nt p)] [Bb sb ((rA dec y)++jj) 9] ⟨y,nA.refl ..,⟨rfl,rfl,rfl,rfl,rfl,rfl,rfl,rfl,trivial⟩,rfl⟩)
    ·refine U ?_;by_cases c4:h=2
     ·have e1:((b':Nat):Int)-1-(((p:Nat):Int)-((a':Nat):Int))=((b'-1-(p-a'):Nat):Int):=by omega
      refine iD ?_;refine .e (Or.vF (dec:=dec) (l:=x) 0 (fun v m=> v=.tuple ⟨[]⟩/\nA a' b' x m) rfl rfl rfl rfl rfl dE rfl (fun H hs=> .h (FY M H dec sb x jj n cap a' b' oM oM oM oM (hs.get (i:=0) rfl))) (fun v y ⟨_,yt⟩=> ?_));refine ND ?_;rw[e1];refine U3 ?_;exact Tc.db (fin [(0,.sl sb n cap),(1,.nt a'),(2,.nt b'),(3,.nt lm1),(8,.bool wb),(9,.bool wp),(10,.nt m),(11,.iz (b'-1-(p-a'):Nat)),(12,.nt 1)] [Bb sb ((rA dec y)++jj) 9] ⟨b'-1-(p-a'),y,oM,oM,yt,⟨1,rfl,rfl,rfl,rfl,rfl,rfl,rfl,rfl,rfl,trivial⟩,rfl⟩)
     ·refine U6 ?_;exact Tc.db (fin [(0,.sl sb n cap),(1,.nt a'),(2,.nt b'),(3,.nt lm1),(8,.bool wb),(9,.bool wp),(10,.nt m),(11,.nt p),(12,.nt h)] [Bb sb ((rA dec x)++jj) 9] ⟨p,x,oM,oM,nA.refl ..,⟨h,rfl,rfl,rfl,rfl,rfl,rfl,rfl,rfl,rfl,trivial⟩,rfl⟩)
   ·refine U ?_;cases wb
    ·have e1:((lm:Nat):Int)-1=((lm-1:Nat):Int):=by omega
     refine iD ?_;refine .e (Or.vF (dec:=dec) (l:=u) 0 (fun v m=> v=.tuple ⟨[]⟩/\nA a' b' u m) rfl rfl rfl rfl rfl dE rfl (fun H hs=> .h (G6 M H dec sb u jj n cap a' b' oM oM h40 oM (hs.get (i:=0) rfl))) (fun v x ⟨_,xt⟩=> ?_));refine U6 ?_;rw[e1];exact Tc.db (fin [(0,.sl sb n cap),(1,.nt a'),(2,.nt b'),(3,.iz (lm-1:Nat)),(8,.bool false),(9,.bool wp),(10,.nt m)] [Bb sb ((rA dec x)++jj) 9] ⟨lm-1,x,oM,xt,⟨rfl,rfl,rfl,rfl,rfl,rfl,rfl,trivial⟩,rfl⟩)
    ·refine U6 ?_;exact Tc.db (fin [(0,.sl sb n cap),(1,.nt a'),(2,.nt b'),(3,.nt lm),(8,.bool true),(9,.bool wp),(10,.nt m)] [Bb sb ((rA dec u)++jj) 9] ⟨lm,u,Nat.le_refl _,nA.refl ..,⟨rfl,rfl,rfl,rfl,rfl,rfl,rfl,trivial⟩,rfl⟩)
end
set_option maxHeartbeats 8000000
section
variable(M:Md prog)(H:View)
theorem aAP(dec:Int->By)(sb:Nat)(l:List Int)(jj:List Value)(n cap:Nat)(hn:n=l.length)(hE:MO dec l)(oR:n<=100000000)(hS:H sb=some (true,.cells ⟨(rA dec l)++jj⟩ 9 (0,0))):
  fA M 120 #[.sl sb n cap] H (xB dec H sb jj (fun v m=> v=.tuple ⟨[]⟩/\nA 0 n l m/\AF 0 n m)):=by
 have hw:=u64_in (x:=n) oM;have hb:bl n<=32:=by
  by_cases h0:0<n
  ·have h1:=UL h0;have h3:2 ^ bl n<2 ^ 32:=by omega
   have:=(Nat.pow_lt_pow_iff_right (a:=2) dE).1 h3;omega
  ·unfold bl;rw[if_pos oM];omega
 refine fA.enter (vs:= [.sl sb n cap]) func120 rfl ntmps120 Nb (jA.pull hS) fun St c cs hK=> ?_;refine ND ?_;refine .cl (fun H hs=> R5 M H n oM) ?_;refine .e (Or.vF (dec:=dec) (l:=l) 0 (fun v m=> v=.tuple ⟨[]⟩/\nA 0 n l m/\AF 0 n m) rfl rfl rfl rfl rfl dE rfl (fun H hs=> .h (aDt M dec sb jj n cap oR (n+1) H l 0 n (bl n) oM hn oM (Nat.le_refl _) oM hE (.inl rfl) (hs.get (i:=0) rfl))) (fun v m hm=> ?_));refine U ?_;obtain⟨rfl,ht,FJ⟩:=hm;refine .ov hK func120 results120 [] ?_;exact fun H' hs=> xB.of hs (i:=0) rfl ⟨rfl,ht,FJ⟩
end
theorem Or.T9 {dec:Int->By}{M:Md prog}{n:Nat}{H₀:View}{R:Rg}{L1:Bl}{o:Oper}{K:Rg->Bl->Prop}{cl:Go.Call}{x:Operand}{fv:Value}{d:Nat}(g:Gl 9 1)(u:List Int)(hg:g.l=(rA dec u))(hE:MO dec u)(oR:g.n<=100000000)
  (lA:o.op=.call cl) (iB:cl.callee=.value x) (hx:JA R x=some fv) (has:lD R cl.args.toList=some [g.val]) (hd:o.dst=some d) (hn:d<n)
  (hc:∀(H:View) (Q:Value->View->Prop),fA M 120 #[g.val] H Q->WB M fv [g.val] H Q)
  (hK:∀(g':Gl 9 1) (m:List Int),g'.val=g.val->g'.n=g.n->g'.blk=g.blk->g'.l=(rA dec m)->nA 0 g.n u m->AF 0 g.n m->K ((d,.tuple ⟨[]⟩)::R) (L1++g'.bl)):Or M n H₀ R (L1++g.bl) o K:=by
 have uO:u.length=g.n:=by have:=g.hl;rw[hg,kC] at this;omega
 cases hb:g.blk with
 | none=>
  have BC:=g.h0 hb;have XW:=g.hc;have h0:g.n=0:=by omega
  have vJ:g.bl= []:=by unfold Gl.bl;rw[hb]
  have hv:g.val=.slice none 0 g.cap:=by unfold Gl.val;rw[hb,h0];rfl
  refine Or.xA (fun _:Unit=> .tuple ⟨[]⟩) (fun _=> []) (fun _=> True) lA iB hx has hd hn (fun _=> by simp) (fun H hs=> hc H _ ?_) (fun _ _=> ?_)
  ·rw[hv];exact fA.mono (QR M H g.cap) (fun v H' ⟨h1,h2⟩=> ⟨h1,(),h2,trivial,by simp⟩)
  ·rw[List.append_nil];exact hK g u rfl rfl rfl hg (nA.refl _ _ _) (fun p q h1 h2 h3=> by omega)
 | some b=>
  have vJ:g.bl= [Bb b ((rA dec u)++g.jB) 9]:=by unfold Gl.bl;rw[hb,hg]
  have hv:g.val=.slice (some ⟨b,0,none⟩) g.n g.cap:=by unfold Gl.val;rw[hb];rfl
  rw[vJ];refine Or.vF (dec:=dec) (l:=u) L1.length (fun v m=> v=.tuple ⟨[]⟩/\nA 0 g.n u m/\AF 0 g.n m) lA iB hx has hd hn (by rw[List.getElem?_append_right (Nat.le_refl _),Nat.sub_self];rfl)
   (fun H hs=> hc H _ ?_) (fun v m ⟨h1,h2,h3⟩=> ?_)
  ·rw[hv];exact aAP M H dec b u g.jB g.n g.cap uO.symm hE oR (hs.get (i:=L1.length) (by rw[List.getElem?_append_right (Nat.le_refl _),Nat.sub_self];rfl))
  ·subst h1;have jQ:m.length=g.n:=by rw[h2.len];exact uO
   have:=hK (Gl.LS g (rA dec m) (by rw[kC];exact jQ)) m rfl rfl rfl rfl h2 h3;have G7:(Gl.LS g (rA dec m) (by rw[kC];exact jQ)).bl= [Bb b ((rA dec m)++g.jB) 9]:=by
    unfold Gl.bl Gl.LS;simp only[hb]
   rw[G7] at this;rw[List.set_append_right _ _ (Nat.le_refl _),Nat.sub_self];exact this
set_option maxHeartbeats 16000000
def kJ:By:= [49,50,51,52,53,54,55,56,57]
def cG(most n:Nat):List By:=(List.range n).flatMap fun i=> gN (kJ.take most) (i+1)
theorem jL(most n:Nat):cG most (n+1)=cG most n++gN (kJ.take most) (n+1):=by
 unfold cG;rw[List.range_succ,List.flatMap_append];simp
theorem gO(dg:By):∀(d:Nat) (s:By),(vD dg d s).length=dg.length ^ d
 | 0,_=> rfl
 | d+1,s=> by
  unfold vD;rw[List.length_flatMap];have:∀x∈dg,(fun x=> (vD dg d (s++[x])).length) x=(fun _=> dg.length ^ d) x:=fun x _=> gO dg d _;rw[List.map_congr_left this,List.map_const',List.sum_replicate_nat,Nat.pow_succ,Nat.mul_comm]
theorem aV {most n:Nat}(hm:most<=3)(hn:n<=3):(gN (kJ.take most) n).length<=27:=by
 unfold gN;rw[gO];have hl:(kJ.take most).length<=3:=by rw[List.length_take];omega
 calc (kJ.take most).length ^ n<=3 ^ n:=Nat.pow_le_pow_left hl n
  _<=3 ^ 3:=Nat.pow_le_pow_right dE hn
  _=27:=by decide
theorem YR {most:Nat}(hm:most<=3):∀n,n<=3->(cG most n).length<=27*n
 | 0,_=> Nat.le_refl _
 | n+1,h=> by
  rw[jL,List.length_append];have h1:=YR hm n oM;have h2:=aV hm h;omega
theorem fS(most:Nat):(kJ.take most).all OC=true:=by
 have h:kJ.all OC=true:=by decide +kernel
 exact List.all_eq_true.2 fun x hx=> List.all_eq_true.1 h x (List.mem_of_mem_take hx)
theorem J3 {most n:Nat}{s:By}(h:s∈cG most n)(hn:n<=3):s.all OC=true/\s.length<=3:=by
 obtain⟨i,hi,h2⟩:=List.mem_flatMap.1 h;obtain⟨h3,h4⟩:=eW h2;have:=List.mem_range.1 hi;exact⟨List.all_eq_true.2 fun y hy=> List.all_eq_true.1 (fS most) y (h4 y hy),oM⟩
theorem aFV(a b c d e f:Nat×Bool×Obj)(B:Bl):(a::b::c::d::e::f::B).Perm (c::d::e::a::b::f::B):=by
 have h1:([a,b]++c::(d::e::f::B)).Perm (c::([a,b]++d::e::f::B)):=List.perm_middle;have h2:([a,b]++d::(e::f::B)).Perm (d::([a,b]++e::f::B)):=List.perm_middle;have h3:([a,b]++e::(f::B)).Perm (e::([a,b]++f::B)):=List.perm_middle;exact h1.trans (.cons _ (h2.trans (.cons _ h3)))
def iJ(w:Nat->Int)(nw digits most:Nat):UH:=RF (HM (cG most digits)) w nw [] 0 ⟨false,0,[]⟩
def R6(num:Value)(t a:Int):Value:=.tuple ⟨[num,.iz t,.iz a]⟩
section
variable(M:Md prog)(H:View)
theorem dX(A:Option Addr)(nw wc:Nat)(w:Nat->Int)(hA:PB H A nw w)(digits most:Nat)(h0:1<=(nw:Int)/\(nw:Int)<=3)(hw:(kA (fun j=> !zF (w j)) nw).isSome=false)(hd:1<=((digits:Nat):Int)/\((digits:Nat):Int)<=3)(hm:1<=((most:Nat):Int)/\((most:Nat):Int)<=3):
  fA M 58 #[.slice A nw wc,.nt digits,.nt most] H (fun v H'=> H.le H'/\∃a n c',v=R6 (.slice a n c') (iJ w nw digits most).total (iJ w nw digits most).al/\n=(iJ w nw digits most).lF.length/\RA H' 1 (.slice a n c') n (zA (iJ w nw digits most).lF)/\n<=c'):=by
 have hc:=fun(H':View) (h':H.le H')=> NU M H' A nw wc w (hA.le h') oM (.func (.func 140) #[] #[]) (fun j=> !zF (w j)) (fun j _ H'' _=> .h (QW M H'' (w j)));have aHk:∀i,i<nw->0<=w i/\w i<=99:=fun i hi=> by
  have h1:kA (fun j=> !zF (w j)) nw=none:=by
   cases hz:kA (fun j=> !zF (w j)) nw with
   | none=> rfl
   | some y=> rw[hz] at hw;cases hw
  have h2:=(RB _).1 h1 i hi;unfold zF at h2;simpa using h2
 refine .en func58 ntmps58 fun St c cs hK=> ?_;refine U2 ?_;refine .bo fun b3=> ?_;refine .al fun b6=> ?_;refine .al fun b7=> ?_;refine .al fun b8=> ?_;refine U7 ?_;refine .cl (fun H hs=> uA M H (nw:Nat) 1 3 true (decide_eq_true h0)) ?_;refine U8 ?_;refine .cl (fun H hs=> tH (hc H hs.base) hw) ?_;refine U6 ?_;refine .cl (fun H hs=> uA M H (digits:Nat) 1 3 true (decide_eq_true hd)) ?_;refine U6 ?_;refine .cl (fun H hs=> uA M H (most:Nat) 1 3 true (decide_eq_true hm)) ?_;refine U8 ?_;refine .al fun b9=> ?_;refine U8 ?_;refine Tc.db (Tc.aK (σ:= { y:View×Nat×Gl 9 1//H.le y.1/\y.2.1<=digits/\y.2.2.l=zA (cG most y.2.1)/\y.2.2.n=(cG most y.2.1).length })
  (fun y=> (y.1.1,[(2,.nt most),(3,.pt b3),(6,.pt b6),(7,.pt b7),(8,.pt b8),(9,.pt b9),(26,.nt digits),(27,.nt y.1.2.1)],
   [Bb b9 [y.1.2.2.val] 107,Bb b8 [.iz 0] 25,Bb b7 [.iz 0] 3,Bb b6 [.slice none 0 0] 107,Bb b3 [.slice A nw wc] 24]++y.1.2.2.bl)) (fun y=> digits-y.1.2.1) ?_ ⟨(H,0,Gl.nil 9 1),View.le_refl _,Nat.zero_le _,rfl,rfl⟩)
 rintro⟨⟨H₁,i,g⟩,g1,g2,g3,g4⟩ ih;simp only at g1 g2 g3 g4;show Tc M St _ _ H₁ _ [(2,.nt most),(3,.pt b3),(6,.pt b6),(7,.pt b7),(8,.pt b8),(9,.pt b9),(26,.nt digits),(27,.nt i)]
   ([Bb b9 [g.val] 107,Bb b8 [.iz 0] 25,Bb b7 [.iz 0] 3,Bb b6 [.slice none 0 0] 107,Bb b3 [.slice A nw wc] 24]++g.bl) _ _
 have iB:=YR (most:=most) oM i oM;by_cases c1:i=digits
 ·subst c1;refine iD ?_;refine .e (Or.T9 (dec:=bM (cG most i)) (L1:= [Bb b9 [g.val] 107,Bb b8 [.iz 0] 25,Bb b7 [.iz 0] 3,Bb b6 [.slice none 0 0] 107,Bb b3 [.slice A nw wc] 24]) g (nG (cG most i)) (g3.trans (EO _).symm) (qI _) oM rfl rfl rfl rfl rfl dE (fun H Q h=> .h h) (fun g' m hv' nP qO TX ht hs'=> ?_));rw[<-hv'];have hso:=lT g4 ht hs';have LG:g'.l=zA (HM (cG most i)):=by rw[TX,zS,hso];rfl
  have p8:(HM (cG most i)).length=(cG most i).length:=(cJ _).length_eq;clear TX ht hs' hso hv';refine U7 ?_;refine .al fun b11=> ?_;refine U9 ?_;refine To.lift (L₂:= []) (L₁:= [Bb b11 [sX b8 b7 b3 b6 b9 b11] 249,Bb b9 [g'.val] 107,Bb b8 [.iz 9] 25,Bb b7 [.iz 0] 3,Bb b6 [.slice none 0 0] 107,Bb b3 [.slice A nw wc] 24]++g'.bl) rfl (fun Hx hx=> ?_);obtain⟨H',h1,h2⟩:=jA.AD (B:= [Bb b8 [.iz 9] 25,Bb b7 [.iz 0] 3,Bb b6 [.slice none 0 0] 107]) (L:= [Bb b11 [sX b8 b7 b3 b6 b9 b11] 249,Bb b9 [g'.val] 107,Bb b3 [.slice A nw wc] 24]++g'.bl) (hx.perm (by
   simp only[List.cons_append,List.nil_append];exact(aFV _ _ _ _ _ _ _).symm))
  have BC:MU (HM (cG most i)) w nw b8 b7 b3 b6 b9 b11 (g'.blk.map fun b=> ⟨b,0,none⟩) A g'.cap wc H':=
   ⟨⟨true,h2.get (i:=0) rfl⟩,⟨true,by have h3:=h2.get (i:=1) rfl;rw[p8,<-g4,<-nP];exact h3⟩,⟨true,h2.get (i:=2) rfl⟩,by
    have h3:=HK (g0:=g') g' (H:=H') (fun x hx=> h2.at_ x (List.mem_append_right _ hx)) LG rfl rfl;rw[nP,g4,<-p8] at h3;exact h3,(hA.le g1).le h2.base⟩
  refine To.YB rfl rfl rfl rfl rfl rfl dE (WB.of (first:= []) (captured:= [_,_,_,_,_,_]) iV rfl (aBv M (HM (cG most i)) w nw b8 b7 b3 b6 b9 b11 (g'.blk.map fun b=> ⟨b,0,none⟩) A g'.cap wc oM (by rw[p8];omega) (fun s hs=> J3 ((cJ _).mem_iff.1 hs) oM) aHk nw (Gl.nil 9 1) [] 0 ⟨false,0,[]⟩ none 0 0 H' Hx rfl (Nat.zero_add _) dE BC rfl ⟨⟨⟨_,_,rfl⟩,rfl,.inl ⟨none,0,rfl,rfl⟩⟩,Nat.le_refl 0⟩ h1)) (fun v H₃ hv=> ?_);obtain⟨_,H₄,g4',a4,n4,c4,r1,r2,r3,r4,r5⟩:=hv;refine To.expand r2 ?_;unfold F4;refine U2 ?_;refine Tc.dr [] [] mixed rfl ?_;refine V3 0 ?_;refine .ea 3 rfl (.st 2 (zz:=⟨S2.mk sL (.inr sL),?_⟩));refine .ea 4 rfl (.st 1 (zz:=⟨S2.mk sL (.inr sL),?_⟩));refine .ea 5 rfl (.st 0 (zz:=⟨S2.mk sL (.inr sL),?_⟩));refine .dn ?_;refine .rt hK func58 results58 [_,_,_] ?_;exact fun H' hs=> ⟨View.le_trans g1 (View.le_trans h2.base (View.le_trans r1 hs.base)),a4,n4,c4,rfl,r4,r5.1.mono hs.base,r5.2⟩
 ·have c2:i<digits:=by omega
  have W4:=aV (most:=most) (n:=i+1) oM oM;have Y7:([49,50,51,52,53,54,55,56,57]:By).length=9:=rfl;have kP:(kJ.take most).length<=1000:=by rw[List.length_take];omega
  refine MF ?_;refine Tc.drT [7] [6] [0] 5 mixed rfl ?_;refine .oo 0 ?_;refine .oo 1 ?_;refine .oo 2 ?_;refine .oo 3 ?_;refine Ta.MY 4 kR rfl rfl dE rfl rfl (pA.take (pA.pD (E:=en) rfl rfl rfl rfl rfl rfl oM oM oM)) ?_;refine .ea 5 rfl (Or.xA (fun s=> ZU s.1.1 s.1.2) (RR (i+1) (kJ.take most)) (fun _=> True) rfl rfl rfl rfl rfl dE (YU _ _) (fun H hs=> .h (aEW M H (i+1) (kJ.take most))) (fun s _=> ⟨S3.mk sL (.inr sL),?_⟩));refine Ta.lift (L₂:= [Bb b9 [g.val] 107,Bb b8 [.iz 0] 25,Bb b7 [.iz 0] 3,Bb b6 [.slice none 0 0] 107,Bb b3 [.slice A nw wc] 24]) (L₁:=g.bl++RR (i+1) (kJ.take most) s) rfl (fun Hx hx=> ?_);obtain⟨H',h1,h2⟩:=hx.AD;refine Ta.YB 6 kR rfl kR rfl rfl rfl rfl rfl rfl dE (WB.h (IU M g (cG most i) g3 oM (i+1) (kJ.take most) oM (fS most) kP oM s.1.1 s.1.2 H' Hx ⟨⟨true,h2.get (i:=0) rfl⟩,⟨true,h2.get (i:=1) rfl⟩⟩ h1)) (fun v H₃ hv=> ?_);obtain⟨g',H₂,rfl,q1,q2,q3,q4⟩:=hv;refine Ta.expand q2 ?_;refine .ea 7 rfl (.st 0 (zz:=⟨S3.off kR,?_⟩));refine .dn ?_;refine U5 ?_;exact Tc.db (ih ⟨(H₂,i+1,g'),View.le_trans g1 (View.le_trans h2.base q1),by simp only;omega,by simp only;rw[jL];exact q3,by simp only;rw[jL,List.length_append,q4,g4]⟩ Ob)
theorem cX(A:Option Addr)(nw wc:Nat)(w:Nat->Int)(hA:PB H A nw w)(digits most:Nat)(h0:1<=(nw:Int)/\(nw:Int)<=3)(hw:(kA (fun j=> !zF (w j)) nw).isSome=false)(hd:1<=((digits:Nat):Int)/\((digits:Nat):Int)<=3)(hm:1<=((most:Nat):Int)/\((most:Nat):Int)<=3):
  fA M 58 #[.slice A nw wc,.nt digits,.nt most] H (fun v H'=> H.le H'/\∃a n c',v=R6 (.slice a n c') (iJ w nw digits most).total (iJ w nw digits most).al/\n=(iJ w nw digits most).lF.length/\RA H' 1 (.slice a n c') n (zA (iJ w nw digits most).lF)):=
 fA.mono (dX M H A nw wc w hA digits most h0 hw hd hm) (by
  rintro v H' ⟨h1,a,n,c',h2,h3,h4,_⟩;exact⟨h1,a,n,c',h2,h3,h4⟩)
end
end Go.Proofs.YtldmfjcgjdchcaaGreatDoor
namespace Go.Proofs.YtldmfjcgjdchcaaGreatDoor
open Go.RL Go.Proofs.Tryz
set_option maxRecDepth 10000
theorem NJ {l:List Int}{x:Int}:∀k,k<=l.length->(x∈AB l k<->∃i,i<k/\vA l i=x)
 | 0,_=> by simp[AB]
 | k + 1,hk=> by
  have ih:=NJ (l:=l) (x:=x) k oM;unfold AB;split
  ·rename_i h
   rw[ih];constructor
   ·rintro⟨i,h1,h2⟩;exact⟨i,oM,h2⟩
   ·rintro⟨i,h1,h2⟩;by_cases e:i=k
    ·subst e;exact⟨i-1,oM,by rw[<-h.2];exact h2⟩
    ·exact⟨i,oM,h2⟩
  ·rw[List.mem_append,ih,List.mem_singleton];constructor
   ·rintro(⟨i,h1,h2⟩|rfl)
    ·exact⟨i,oM,h2⟩
    ·exact⟨k,oM,rfl⟩
   ·rintro⟨i,h1,h2⟩;by_cases e:i=k
    ·subst e;exact .inr h2.symm
    ·exact .inl ⟨i,oM,h2⟩
theorem NP {l:List Int}{n:Nat}(hs:AF 0 n l)(hn:n<=l.length):∀k,k<=n->(AB l k).Pairwise (· < ·)
 | 0,_=> List.Pairwise.nil
 | k + 1,hk=> by
  have ih:=NP hs hn k oM;unfold AB;split
  ·exact ih
  ·rename_i h
   rw[List.pairwise_append];refine⟨ih,List.pairwise_singleton _ _,fun a ha b hb=> ?_⟩;have qO:b=vA l k:=by simpa using hb
   subst qO;obtain⟨i,h1,rfl⟩:=(NJ k oM).1 ha;have h2:=hs i (k-1) (Nat.zero_le _);have h3:=hs (k-1) k (Nat.zero_le _) oM oM;have h4:vA l k≠vA l (k-1):=fun e=> h ⟨oM,e⟩;by_cases e:i=k-1
   ·subst e;omega
   ·have:=h2 oM oM;omega
theorem AF.at_mem {l:List Int}{x:Int}:x∈l<->∃i,i<l.length/\vA l i=x:=by
 rw[List.mem_iff_getElem];constructor
 ·rintro⟨i,h,rfl⟩;exact⟨i,h,by unfold vA;rw[List.getElem?_eq_getElem h];rfl⟩
 ·rintro⟨i,h,e⟩;refine⟨i,h,?_⟩;unfold vA at e;rw[List.getElem?_eq_getElem h] at e;exact e
theorem C6 {l m:List Int}(hl:l.Pairwise (· < ·))(hm:m.Pairwise (· < ·))(h:∀x,x∈l<->x∈m):l=m:=by
 have hp:l.Perm m:=(List.perm_ext_iff_of_nodup (List.nodup_iff_pairwise_ne.2 (hl.imp (fun h=> Int.ne_of_lt h))) (List.nodup_iff_pairwise_ne.2 (hm.imp (fun h=> Int.ne_of_lt h)))).2 h;exact List.Perm.eq_of_pairwise (le:=(· <=·)) (fun a b _ _ h1 h2=> Int.le_antisymm h1 h2) (hl.imp (fun h=> Int.le_of_lt h)) (hm.imp (fun h=> Int.le_of_lt h)) hp
def S0(l:List By):Prop:=l.Pairwise fun a b=> Op.bytesLess a b=true
theorem SR {l m:List By}(hl:S0 l)(hm:S0 m)(h:∀x,x∈l<->x∈m):l=m:=by
 have ne:∀ {a b:By},Op.bytesLess a b=true->a≠b:=fun h e=> by rw[e,yI] at h;cases h
 have hp:l.Perm m:=(List.perm_ext_iff_of_nodup (List.nodup_iff_pairwise_ne.2 (hl.imp ne)) (List.nodup_iff_pairwise_ne.2 (hm.imp ne))).2 h;have le:∀ {a b:By},Op.bytesLess a b=true->HU a b=true:=fun h=> by unfold HU;rw[oS h];rfl
 exact DO hp (hl.imp le) (hm.imp le)
def uY(x:By):List By->List By
 | []=> [x]
 | y::t=> if Op.bytesLess x y then x::y::t else if x=y then y::t else y::uY x t
def SL:List By->List By
 | []=> []
 | x::t=> uY x (SL t)
theorem AQ {x z:By}:∀l,z∈uY x l<->z=x\/z∈l
 | []=> by simp[uY]
 | y ::t=> by
  unfold uY;split
  ·simp
  ·split
   ·rename_i e
    subst e;simp
   ·rw[List.mem_cons,AQ t,List.mem_cons];constructor
    ·rintro(h|h|h)
     ·exact .inr (.inl h)
     ·exact .inl h
     ·exact .inr (.inr h)
    ·rintro(h|h|h)
     ·exact .inr (.inl h)
     ·exact .inl h
     ·exact .inr (.inr h)
theorem vW(x:By):∀l,S0 l->S0 (uY x l)
 | [],_=> List.pairwise_singleton _ _
 | y ::t,h=> by
  obtain⟨h1,h2⟩:=List.pairwise_cons.1 h;unfold uY;split
  ·rename_i hx
   refine List.pairwise_cons.2 ⟨fun z hz=> ?_,h⟩;rcases List.mem_cons.1 hz with rfl|hz
   ·exact hx
   ·exact GF hx (h1 z hz)
  ·rename_i hx
   split
   ·exact h
   ·rename_i aB
    refine List.pairwise_cons.2 ⟨fun z hz=> ?_,vW x t h2⟩;rcases(AQ t).1 hz with rfl|hz
    ·cases e:Op.bytesLess y z with
     | true=> rfl
     | false=> exact(aB (zI (by simpa using hx) e)).elim
    ·exact h1 z hz
theorem DK {z:By}:∀l,z∈SL l<->z∈l
 | []=> Iff.rfl
 | x::t=> by
  unfold SL;rw[AQ,DK t,List.mem_cons]
theorem vK:∀l,S0 (SL l)
 | []=> List.Pairwise.nil
 | x::t=> vW x _ (vK t)
theorem G1 {S:List By}{m:List Int}{n:Nat}(hn:n=S.length)(ht:nA 0 n (nG S) m)(hs:AF 0 n m):(AB m n).map (bM S)=SL S:=by
 have jQ:m.length=n:=by rw[ht.len,hn];simp[nG]
 have VD:∀x∈AB m n,x∈nG S:=fun x hx=> by
  obtain⟨i,h1,rfl⟩:=(NJ n oM).1 hx;exact(ht.mem _).1 (tA oM)
 refine SR ?_ (vK S) (fun z=> ?_)
 ·unfold S0;rw[List.pairwise_map];have h1:=NP hs oM n (Nat.le_refl _);refine List.Pairwise.imp_of_mem (fun {a b} ha hb h3=> ?_) h1;rw[qI S a (VD a ha) b (VD b hb)];exact decide_eq_true h3
 ·rw[DK,List.mem_map];constructor
  ·rintro⟨x,hx,rfl⟩;obtain⟨s,h1,h2⟩:=List.mem_map.1 (VD x hx);rw[<-h2,OJ h1];exact h1
  ·intro hz;refine⟨((kH S z:Nat):Int),?_,OJ hz⟩;have h1:((kH S z:Nat):Int)∈m:=(ht.mem _).2 (List.mem_map.2 ⟨z,hz,rfl⟩);obtain⟨i,h2,h3⟩:=AF.at_mem.1 h1;exact(NJ n oM).2 ⟨i,oM,h3⟩
theorem dV {l m:List By}(h:∀x,x∈l<->x∈m):SL l=SL m:=
 SR (vK l) (vK m) fun x=> by rw[DK,DK,h]
def tY(x:Int):List Int->List Int
 | []=> [x]
 | y::t=> if x<y then x::y::t else if x=y then y::t else y::tY x t
def Z0:List Int->List Int
 | []=> []
 | x::t=> tY x (Z0 t)
theorem zQ {x z:Int}:∀l,z∈tY x l<->z=x\/z∈l
 | []=> by simp[tY]
 | y ::t=> by
  unfold tY;split
  ·simp
  ·split
   ·rename_i e
    subst e;simp
   ·rw[List.mem_cons,zQ t,List.mem_cons];constructor
    ·rintro(h|h|h)
     ·exact .inr (.inl h)
     ·exact .inl h
     ·exact .inr (.inr h)
    ·rintro(h|h|h)
     ·exact .inr (.inl h)
     ·exact .inl h
     ·exact .inr (.inr h)
theorem uW(x:Int):∀l:List Int,l.Pairwise (· < ·)->(tY x l).Pairwise (· < ·)
 | [],_=> List.pairwise_singleton _ _
 | y ::t,h=> by
  obtain⟨h1,h2⟩:=List.pairwise_cons.1 h;unfold tY;split
  ·rename_i hx
   refine List.pairwise_cons.2 ⟨fun z hz=> ?_,h⟩;rcases List.mem_cons.1 hz with rfl|hz
   ·exact hx
   ·have:=h1 z hz;omega
  ·rename_i hx
   split
   ·exact h
   ·rename_i aB
    refine List.pairwise_cons.2 ⟨fun z hz=> ?_,uW x t h2⟩;rcases(zQ t).1 hz with rfl|hz
    ·omega
    ·exact h1 z hz
theorem fW {z:Int}:∀l,z∈Z0 l<->z∈l
 | []=> Iff.rfl
 | x::t=> by
  unfold Z0;rw[zQ,fW t,List.mem_cons]
theorem cV:∀l,(Z0 l).Pairwise (· < ·)
 | []=> List.Pairwise.nil
 | x::t=> uW x _ (cV t)
theorem C8 {S m:List Int}{n:Nat}(hn:n=S.length)(ht:nA 0 n S m)(hs:AF 0 n m):AB m n=Z0 S:=by
 have jQ:m.length=n:=by rw[ht.len,hn]
 refine C6 (NP hs oM n (Nat.le_refl _)) (cV S) (fun z=> ?_);rw[fW,NJ n oM,<-ht.mem z,AF.at_mem,jQ]
set_option maxHeartbeats 16000000
def Bk.RJ(k:Bk):List By:=SL ((k.YG k.nt).map (·.heard))
def aES(g:Gl 9 1)(a:Int):Value:=.tuple ⟨[g.val,.iz a]⟩
theorem oW {α:Type}:∀ {l m:List α},l.Nodup->(∀x∈l,x∈m)->l.length<=m.length
 | [],_,_,_=> Nat.zero_le _
 | x ::t,m,hn,hs=> by
  obtain⟨h1,h2⟩:=List.nodup_cons.1 hn;obtain⟨a,b,rfl⟩:=List.append_of_mem (hs x (List.mem_cons_self ..));have:=oW (l:=t) (m:=a++b) h2 (fun y hy=> by
   have:=hs y (List.mem_cons_of_mem _ hy);rcases List.mem_append.1 this with h|h
   ·exact List.mem_append_left _ h
   ·rcases List.mem_cons.1 h with rfl|h
    ·exact(h1 hy).elim
    ·exact List.mem_append_right _ h)
  simp only[List.length_append,List.length_cons] at this ⊢;omega
theorem P1 {k:Bk}{es:Array MapEntry}{cl n:Nat}(h:mC es cl (dM (k.FE n))):es.size<=(k.YG n).length:=by
 have VJ:∀x∈es.toList.map (·.key),x∈(k.YG n).map sH.val:=by
  intro x hx;obtain⟨e,he,rfl⟩:=List.mem_map.1 hx;obtain⟨y,h1,h2,_⟩:=iE h e he;exact List.mem_map.2 ⟨y,(k.CD n y).2 h1,h2.symm⟩
 have:=oW h.keys VJ;simpa using this
section
variable(M:Md prog)(H:View)
end
set_option maxHeartbeats 8000000
theorem aGM:Xt prog 290 Extern.BytealgIndexByte.indexByte:=⟨Tryz.f290,func290,by kernel_rfl,by kernel_rfl,by kernel_rfl,by kernel_rfl⟩
section
variable(M:Md prog)(H:View)
theorem ML(s:By)(x:Nat):fA M 241 #[bA s,.int .u8 (x:Nat)] H (Ib H (.int .i64 (F8 s (UInt8.ofNat x)))):=by
 refine .en func241 ntmps241 fun St c cs hK=> ?_;refine U8 ?_;refine .x (pA.entry rfl rfl rfl rfl aGM (fun H Q hq=> aB1 hq)) ?_;refine U2 ?_;refine .rt hK func241 results241 [_] ?_;exact okB
theorem SU(s:By)(x:Nat):fA M 176 #[bA s,.int .u8 (x:Nat)] H (Ib H (.int .i64 (F8 s (UInt8.ofNat x)))):=by
 refine .en func176 ntmps176 fun St c cs hK=> ?_;refine U8 ?_;refine .cl (fun H hs=> ML M H s x) ?_;refine U2 ?_;refine .rt hK func176 results176 [_] ?_;exact okB
theorem NL(s:By)(x:Nat)(z:Int)(h:F8 s (UInt8.ofNat x)=z):fA M 176 #[bA s,.int .u8 (x:Nat)] H (Ib H (.int .i64 z)):=by
 subst h;exact SU M H s x
end
end Go.Proofs.YtldmfjcgjdchcaaGreatDoor
namespace Go.RL
open Go.Conc Go.ConcN Go.RL.Au
open Go.ConcR (stA smA)
open Go.ConcM (muA OsLater)
section
variable {X:Fk}{B:View}{base N:Nat}{os0:T4}{w w':World}{t:Trace}{ths:List Th}{m m':Mn}{s s':Sh}{H:Nat->View}{D:Nat->Bool}{fn:FuncId}{pos:String}
theorem uP {ths:List Th}{κ:Nat}{T T':Th}(hκ:ths[κ]? =some T):∀(κ':Nat) T'',(ths.set κ T')[κ']? =some T''->(κ'=κ/\T''=T')\/(κ'≠κ/\ths[κ']? =some T''):=fun κ' T'' h'=> by
 by_cases e:κ=κ'
 ·subst e;rw[List.getElem?_set_self (List.getElem?_eq_some_iff.1 hκ).1] at h';cases h'
  exact .inl ⟨rfl,rfl⟩
 ·rw[List.getElem?_set_ne e] at h';exact .inr ⟨Ne.symm e,h'⟩
theorem GQ(i:Nat)(mm:Mark):MemOp.ofEvents i fn pos #[Go.ConcR.mk mm]=#[{ g:=i,fn,pos,act:=.mark mm }]:=by
 rw[ofEvents_eq];simp[Go.ConcR.ofEvent_mk]
theorem sS {i j:Nat}{mm:Mark}(h1:mm≠ .disable)(h2:mm≠ .enable):Deaf (t++MemOp.ofEvents i fn pos #[Go.ConcR.mk mm]) j=Deaf t j:=by
 refine Deaf_still t j _ fun op lA=> ?_;rw[GQ] at lA;simp at lA
 subst lA;simp[h1,h2]
theorem aAV {D:Nat->Bool}{κ κ':Nat}(e:κ'≠κ):bV D κ κ'=D κ':=by simp[bV,e]
theorem WT.aHs(h:WT X B base N os0 w t ths m s H D)(ne:X.Wg≠X.C){κ:Nat}(hκ:ths[κ]? =some .pw)(hN:base+κ<N){w':World}{o':Obj}{es:Array Event}{D':Nat->Bool}(ht:aEU X κ w w' o' es)(hG:X.GI D' o'):
  WT X B base N os0 w' (t++MemOp.ofEvents (base+κ) fn pos es) (ths.set κ .wr) m s H D':=by
 obtain⟨_,h3,h4⟩:=h.free;have NV:∀op∈MemOp.ofEvents (base+κ) fn pos es,op.g=base+κ/\op.act=MemAct.ofEvent ⟨.cell ⟨X.C,κ,none⟩,true,false⟩:=by
  rw[ofEvents_eq];intro op lA;obtain⟨e,he,rfl⟩:=Array.mem_map.1 lA;rw[ht.ev e he];exact⟨rfl,rfl⟩
 have VO:∀op∈MemOp.ofEvents (base+κ) fn pos es,op.g=base+κ:=fun op lA=> (NV op lA).1;have hto:∀op∈MemOp.ofEvents (base+κ) fn pos es,∀a,op.act.touch? =some a->a.kind=.plain/\a.loc=.cell ⟨X.C,κ,none⟩:=fun op lA a ha=> by
  rw[(NV op lA).2] at ha;simp[MemAct.ofEvent,MemAct.touch?] at ha
  subst ha;exact⟨rfl,rfl⟩
 have TO:∀j,Deaf (t++MemOp.ofEvents (base+κ) fn pos es) j=Deaf t j:=fun j=> Deaf_still t j _ fun op lA=> by rw[(NV op lA).2];simp[MemAct.ofEvent]
 have rL:∀V:View,V X.C=none->Sat V w->Sat V w':=fun V hV hs b f o BJ=> by
  rw[ht.rest b (by rintro rfl;rw[hV] at BJ;cases BJ)];exact hs b f o BJ
 refine⟨⟨by rw[ht.rest _ ne];exact h.sh.wg⟩,by rw[ht.size];exact h.cb,⟨fun g=> rL _ (h3 g) (h.vi.sat g),h.vi.dj,h.vi.sh,rL _ h.vi.bn.2 h.vi.bs,h.vi.bd,h.vi.bn⟩,h.hx,?_,⟨⟨o',ht.at_,hG⟩,h3,h4.own VO hto⟩,fun κ' T VC hT=> ?_,by rw[TO];exact h.WW,fun κ' T VC hT=> ?_,h.os.trans ht.os⟩
 ·rw[ht.size];exact h.ti.own h4 hN VO hto (fun op lA a e=> by rw[(NV op lA).2] at e;simp[MemAct.ofEvent] at e) h3 ⟨Ne.symm ne,Ne.symm ne⟩ h.cb
 ·rcases uP hκ κ' T VC with ⟨rfl,rfl⟩|⟨e,WJ⟩
  ·cases hT
  ·obtain⟨r,hr⟩:=h.bK κ' T WJ hT;exact⟨r,hr.appOther (g:=base+κ) VO oM⟩
 ·rw[TO];rcases uP hκ κ' T VC with ⟨rfl,rfl⟩|⟨e,WJ⟩
  ·exact h.J1 κ' .pw hκ (by simp)
  ·exact h.J1 κ' T WJ hT
theorem WT.mute(h:WT X B base N os0 w t ths m s H D)(ne:X.Wg≠X.C){κ:Nat}(hκ:ths[κ]? =some .wr)(hN:base+κ<N):
  WT X B base N os0 w (t++MemOp.ofEvents (base+κ) fn pos #[Go.ConcR.mk (.releaseMerge (stA X.Wg))]) (ths.set κ .wk) m s H D:=by
 have KB:=(List.getElem?_eq_some_iff.1 hκ).1;have aQ:Act base N (base+κ):=.inr ⟨oM,hN⟩;have lA:=XT (X:=X) (H:=H (base+κ)) (g:=base+κ) (fn:=fn) (pos:=pos) (m:=.releaseMerge (stA X.Wg)) (t:=t) (fun x hx=> by cases hx) (fun a e=> by cases e);have hd0:Deaf t (base+κ)=0:=h.J1 κ _ hκ (by simp);have TO:∀j,Deaf (t++MemOp.ofEvents (base+κ) fn pos #[Go.ConcR.mk (.releaseMerge (stA X.Wg))]) j=Deaf t j:=fun j=> sS (by simp) (by simp);refine⟨h.sh,h.cb,h.vi,h.hx,h.IW ne aQ hN lA,?_,fun κ' T VC hT=> ?_,by rw[TO];exact h.WW,fun κ' T VC hT=> ?_,h.os⟩
 ·obtain⟨h1,h3,h4⟩:=h.free;refine⟨h1,h3,h4.grow fun op KE x hx=> ?_⟩;rw[GQ] at KE;simp at KE
  subst KE;cases hx
 ·rcases uP hκ κ' T VC with ⟨rfl,rfl⟩|⟨e,WJ⟩
  ·exact⟨_,RelBy.new hd0 fn pos⟩
  ·obtain⟨r,hr⟩:=h.bK κ' T WJ hT;exact⟨r,hr.appOther (g:=base+κ) lA.own oM⟩
 ·rw[TO];rcases uP hκ κ' T VC with ⟨rfl,rfl⟩|⟨e,WJ⟩
  ·exact hd0
  ·exact h.J1 κ' T WJ hT
theorem pE {R:View}{b:Nat}{f:Bool}{o:Obj}(h:ro R b=some (f,o)):f=false/\∃f',R b=some (f',o):=by
 unfold ro at h;obtain⟨x,hx,he⟩:=Option.map_eq_some_iff.1 h;cases he
 exact⟨rfl,x.1,hx⟩
theorem NH {R:View}{b:Nat}(h:R b=none):ro R b=none:=by simp[ro,h]
theorem WT.fork(h:WT X B base N os0 w t ths .go s H D)(hb:1<=base)(hN:N=base+ths.length)(hm:m'.deaf=0){x y:MemOp}(hx:x.g=0/\x.act=.go N)(hy:y.g=N/\y.act=.start):
  WT X B base (N+1) os0 w (t ++ #[x,y]) (ths++[.pw]) m' s (upd (upd H 0 (ro (H 0))) N (ro (H 0))) D:=by
 have hN0:N≠0:=by omega
 have hHN:∀b,H N b=none:=h.hx N fun hh=> hh.elim hN0 fun hh=> by omega
 have hd0:Deaf t 0=0:=h.WW;have NV:∀op∈#[x,y],op.act≠ .mark .disable/\op.act≠ .mark .enable:=by
  intro op lA;simp only[List.mem_toArray,List.mem_cons,List.not_mem_nil,or_false] at lA;rcases lA with rfl|rfl
  ·rw[hx.2];simp
  ·rw[hy.2];simp
 have TO:∀j,Deaf (t ++ #[x,y]) j=Deaf t j:=fun j=> Deaf_still t j _ NV;have hV:∀j b,upd (upd H 0 (ro (H 0))) N (ro (H 0)) j b=if j=N\/j=0 then ro (H 0) b else H j b:=fun j b=> by
  by_cases e:j=N
  ·subst e;rw[upd_same,if_pos (.inl rfl)]
  ·rw[upd_ne _ _ e];by_cases e0:j=0
   ·subst e0;rw[upd_same,if_pos (.inr rfl)]
   ·rw[upd_ne _ _ e0,if_neg (by simp[e,e0])]
 have get:∀(κ:Nat) T,(ths++[Th.pw])[κ]? =some T->ths[κ]? =some T\/(κ=ths.length/\T=.pw):=fun κ T hκ=> by
  rw[List.getElem?_append] at hκ;split at hκ
  ·exact .inl hκ
  ·cases hz:κ-ths.length with
   | zero=> rw[hz] at hκ;cases hκ;exact .inr ⟨oM,rfl⟩
   | succ z=> rw[hz] at hκ;cases hκ
 refine⟨h.sh,h.cb,⟨fun j b f o BJ=> ?_,fun i j CU b o hi=> ?_,fun j=> ?_,h.vi.bs,fun j b x' o BJ hj=> ?_,h.vi.bn⟩,fun g hg b=> ?_,?_,?_,fun κ T hκ hT=> ?_,by rw[TO,hm];exact hd0,fun κ T hκ hT=> ?_,h.os⟩
 ·rw[hV] at BJ;split at BJ
  ·obtain⟨_,f',h1⟩:=pE BJ;exact h.vi.sat 0 b f' o h1
  ·exact h.vi.sat j b f o BJ
 ·rw[hV] at hi ⊢;split at hi
  ·have:=(pE hi).1;cases this
  ·split
   ·exact NH (h.vi.dj i 0 oM b o hi)
   ·exact h.vi.dj i j CU b o hi
 ·rw[hV];split
  ·exact NH (h.vi.sh 0)
  ·exact h.vi.sh j
 ·rw[hV] at hj;split at hj
  ·have:=(pE hj).1;cases this
  ·exact h.vi.bd j b x' o BJ hj
 ·rw[hV,if_neg (by
   rintro(rfl|rfl)
   ·exact hg (.inr ⟨oM,oM⟩)
   ·exact hg (.inl rfl))]
  exact h.hx g (fun hh=> hg (hh.imp id fun⟨h1,h2⟩=> ⟨h1,oM⟩)) b
 ·exact h.ti.fork hx hy hd0 oM oM (fun b f o BJ=> pE BJ) hHN
 ·obtain⟨h1,h3,h4⟩:=h.free;refine⟨h1,fun g=> ?_,h4.fork h.ti.gs hx hy hd0⟩;rw[hV];split
  ·exact NH (h3 0)
  ·exact h3 g
 ·rcases get κ T hκ with VC|⟨_,rfl⟩
  ·obtain⟨r,hr⟩:=h.bK κ T VC hT;have KB:=(List.getElem?_eq_some_iff.1 VC).1;refine⟨r,hr.app fun i hi hgi hc=> ?_⟩;obtain⟨a,ha,_⟩:=hc;obtain⟨op,lA,XX⟩:=touch_of ha;rcases getElem?_append_cases lA with ⟨hl,_⟩|⟨_,nD⟩
   ·omega
   ·simp only[List.mem_toArray,List.mem_cons,List.not_mem_nil,or_false] at nD;rcases nD with rfl|rfl
    ·rw[hx.2] at XX;cases XX
    ·rw[hy.2] at XX;cases XX
  ·cases hT
 ·rw[TO];rcases get κ T hκ with VC|⟨rfl,rfl⟩
  ·exact h.J1 κ T VC hT
  ·rw[<-hN];exact Deaf_absent fun i op hi e=> by have:=h.ti.gs i op hi;omega
end
theorem aDg {s:Sh}{t:Mn}(hp:t.plain=true)(hm:t.mv s= []):t=.ws/\s.q=0:=by
 cases t <;> simp only[Mn.mv] at hm
 case go=> cases hp
 case ret=> cases hp
 case ws=>
  split at hm
  ·exact⟨rfl,by assumption⟩
  ·cases hm
 case w2=> split at hm <;> cases hm
 all_goals cases hm
theorem TI.bare {Mu Wg C base N hs g:Nat}{H:Nat->View}{B:View}{t u:Trace}(h:TI Mu Wg C base N hs H B t)(hg:∀op∈u,op.g=g)(hN:g<N)(hu:∀op∈u,op.act.touch? =none)(hr:∀op∈u,∀a,op.act≠ .mark (.release a)):TI Mu Wg C base N hs H B (t++u):=by
 have old:∀ {i:Nat} {a:Touch},touchAt (t++u) i=some a->touchAt t i=some a/\i<t.size:=by
  intro i a ha;rcases NB ha with ⟨hi,lI⟩|⟨hi,op,lA,_,hxx⟩
  ·exact⟨lI,hi⟩
  ·rw[hu op lA] at hxx;cases hxx
 have oldop:∀ {i:Nat} {op:MemOp} {a:Touch},(t++u)[i]? =some op->op.act.touch? =some a->t[i]? =some op/\i<t.size:=by
  intro i op a lA ha;rcases getElem?_append_cases lA with ⟨hi,kE⟩|⟨hi,nD⟩
  ·exact⟨kE,hi⟩
  ·rw[hu op nD] at ha;cases ha
 refine⟨fun said=> noRace_append (h.nr said) hg fun i a _ op lA b hb _=> (by rw[hu op lA] at hb;cases hb),fun i a b ha hb=> h.bd i a b (old ha).1 hb,fun j hj i a b f o ha hb hH hw=> (h.kn j hj i a b f o (old ha).1 hb hH hw).app u,
  fun i op a lA ha hk KB=> (h.pl i op a (oldop lA ha).1 ha hk KB).app u,fun i a b ha hk hb=> h.np i a b (old ha).1 hk hb,fun i op a lA ha hk=> ?_,fun j hj i a b ha hk hb BJ=> (h.sy j hj i a b (old ha).1 hk hb BJ).app u,fun a=> (h.rel a).app fun op lA=> hr op lA a,fun i op lA=> ?_,fun i a ha=> h.mem i a (old ha).1⟩
 ·obtain⟨h3,hi⟩:=oldop lA ha;obtain⟨h1,h2⟩:=h.P3 i op a h3 ha hk;exact⟨h1,fun e e'=> by rw[heard_old hi];exact h2 e e'⟩
 ·rcases getElem?_append_cases lA with ⟨hi,kE⟩|⟨hi,nD⟩
  ·exact h.gs i op kE
  ·rw[hg op nD];exact hN
theorem jW {g:Nat}{fn:FuncId}{pos:String}{es:Array Event}(h:∀e∈es,e.mute=true):∀op∈MemOp.ofEvents g fn pos es,op.g=g/\op.act.touch? =none/\∀a,op.act≠ .mark (.release a):=by
 rw[ofEvents_eq];intro op lA;obtain⟨e,he,rfl⟩:=Array.mem_map.1 lA;have:=h e he;obtain⟨loc,wr,sy⟩:=e;cases loc with
 | mark m=> cases m <;> simp[Event.mute] at this <;> simp[MemAct.ofEvent,MemAct.touch?]
 | _=> simp[Event.mute] at this
section
variable {P:Program}{X:Fk}{Fin:Goroutine->Prop}{B:View}{base:Nat}{os0:T4}{gs:Array Goroutine}{w:World}{t:Trace}{ths:List Th}{m:Mn}{s:Sh}{H:Nat->View}{ks:Nat->Nat}{rks:List gC}{q:Nat->Nat}{D:Nat->Bool}
variable {sl:Option (Nat×Nat)}
theorem WT.leave {N:Nat}(h:WT X B base N os0 w t ths m s H D){i:Nat}{fn:FuncId}{pos:String}{es:Array Event}(hi:0<i)(hN:i<N)(hm:∀e∈es,e.mute=true)(hq:∀(κ:Nat) T,ths[κ]? =some T->base+κ=i->T=.quit):
  WT X B base N os0 w (t++MemOp.ofEvents i fn pos es) ths m s H D:=by
 have ho:=jW (g:=i) (fn:=fn) (pos:=pos) hm;have VO:∀op∈MemOp.ofEvents i fn pos es,op.g=i:=fun op lA=> (ho op lA).1;refine⟨h.sh,h.cb,h.vi,h.hx,h.ti.bare VO hN (fun op lA=> (ho op lA).2.1) (fun op lA=> (ho op lA).2.2),?_,fun κ T hκ hT=> ?_,?_,fun κ T hκ hT=> ?_,h.os⟩
 ·obtain⟨h1,h3,h4⟩:=h.free;exact⟨h1,h3,h4.grow fun op lA x hx=> by rw[(ho op lA).2.1] at hx;cases hx⟩
 ·obtain⟨r,hr⟩:=h.bK κ T hκ hT;refine⟨r,hr.app fun j hj hgj hc=> ?_⟩;obtain⟨a,ha,_⟩:=hc;obtain⟨op,lA,XX⟩:=touch_of ha;rcases getElem?_append_cases lA with ⟨hl,_⟩|⟨_,nD⟩
  ·omega
  ·rw[(ho op nD).2.1] at XX;cases XX
 ·rw[Deaf_other t (g:=0) (g':=i) oM _ VO];exact h.WW
 ·have e:i≠base+κ:=fun e=> hT (hq κ T hκ e.symm);rw[Deaf_other t (g:=base+κ) (g':=i) e _ VO];exact h.J1 κ T hκ hT
theorem PI.pos(h:PI P X Fin B base os0 gs w t ths m s H ks rks q D):∀i,Act base gs.size i->0<ks i:=fun i hi=> Nat.lt_of_le_of_lt (Nat.zero_le _) (h.depth i hi)
theorem PI.at(h:PI P X Fin B base os0 gs w t ths m s H ks rks q D)(d:Nat):PI P X Fin B base os0 gs (w.at d) t ths m s H ks rks q D:=⟨h.inv,h.b1,h.ne,h.dd,h.depth,h.wt.at d,h.si⟩
def PI.meas(X:Fk)(gs:Array Goroutine)(ths:List Th)(m:Mn)(s:Sh)(rks:List gC)(q:Nat->Nat):US:=(mu X.n ths m s,rks,sumTo gs.size q,runs gs)
def Goes(P:Program)(X:Fk)(Fin:Goroutine->Prop)(B:View)(base:Nat)(os0:T4)(μ:US)(w:World)(t:Trace)(gs:Array Goroutine)(r:Stepped×Array MemOp):Prop:=
 (∃gs' w' sl' ops ths' m' s' H' ks' rks' q' D',r=(.next (crowd gs' w' sl'),ops)/\PI P X Fin B base os0 gs' w' (t++ops) ths' m' s' H' ks' rks' q' D'/\NG (PI.meas X gs' ths' m' s' rks' q') μ)\/ 
 (∃gs' sl' g g' ths s H ks rks q D,gs[0]? =some g/\r=(.next (crowd gs' w sl'),MemOp.ofEvents 0 g.frame.fn g.frame.place #[Go.ConcR.mk (.acquire (stA X.Wg))])/\gs'=zD P gs 0 g g' w/\Fin g'/\PI P X Fin B base os0 gs w t ths .aq s H ks rks q D)
theorem PI.Y6(h:PI P X Fin B base os0 gs w t ths m s H ks rks q D){κ:Nat}{T T':Th}(hκ:ths[κ]? =some T)(hd:T'.did=T.did):∀κ',D κ'=(((ths.set κ T')[κ']?).map Th.did).getD false:=fun κ'=> by
 rw[h.dd κ'];by_cases e:κ=κ'
 ·subst e;rw[List.getElem?_set_self (List.getElem?_eq_some_iff.1 hκ).1,hκ];simp[hd]
 ·rw[List.getElem?_set_ne e]
theorem eG {i:Nat}{u:Trace}(hu:∀op∈u,op.g=i):∀j,j≠i->Deaf (t++u) j=Deaf t j:=fun j hj=> Deaf_other t (g:=j) (g':=i) (Ne.symm hj) u hu
theorem ofEvents_g {g:Nat}{fn:FuncId}{pos:String}{es:Array Event}:∀op∈MemOp.ofEvents g fn pos es,op.g=g:=by
 rw[ofEvents_eq];intro op lA;obtain⟨e,_,rfl⟩:=Array.mem_map.1 lA;rfl
theorem Y8 {a b:Nat}{x y:List gC×(Nat×Nat)}(h:a<b):NG (a,x) (b,y):=.left _ _ h
theorem Z8 {a:Nat}{x y:List gC}{u v:Nat×Nat}(h:dZ x y):NG (a,x,u) (a,y,v):=.right _ (.left _ _ h)
theorem aDd {a b c:Nat}{x:List gC}{u v:Nat}(h:b<c):NG (a,x,b,u) (a,x,c,v):=.right _ (.right _ (.left _ _ h))
theorem aDe {a b:Nat}{x:List gC}{u v:Nat}(h:u<v):NG (a,x,b,u) (a,x,b,v):=.right _ (.right _ (.right _ h))
theorem GY {i:Nat}{g g':Goroutine}(hi:gs[i]? =some g)(hg:g.status=.running)(hg':g'.status=.blocked):runs (zD P gs i g g' w)<runs gs:=by
 have e:zD P gs i g g' w=gs.setIfInBounds i g':=by
  unfold zD;have:woken P g g' w=id:=by
   funext o
   simp[woken,hg']
  rw[this,Array.map_id]
 rw[e];obtain⟨KB,rfl⟩:=Array.getElem?_eq_some_iff.1 hi;unfold runs;rw[Array.toList_setIfInBounds];have:=List.countP_set (p:=fun g:Goroutine=> g.status==.running) (l:=gs.toList) (i:=i) (a:=g') (by simpa using KB);rw[this];have h1:((gs.toList[i]'(by simpa using KB)).status==GoStatus.running)=true:=by simpa using hg
 have h2:0<gs.toList.countP fun g:Goroutine=> g.status==.running:=List.countP_pos_iff.2 ⟨gs[i],by simp,by simp[hg]⟩;have h3:¬(g'.status==GoStatus.running)=true:=by simp[hg']
 rw[if_pos h1,if_neg h3];omega
theorem PI.iW(h:PI P X Fin B base os0 gs w t ths m s H ks rks q D){κ k:Nat}{T T':Th}{s':Sh}{g g':Goroutine}{w':World}{es:Array Event}{H':View}{D':Nat->Bool}{ρ':gC}{q':Nat}(hκ:ths[κ]? =some T)(hg:gs[base+κ]? =some g)(hk:ks (base+κ)=k+1)
  (hm:(T',s')∈T.mv s) (aC:stepG P false g w=.go g' w' es) (vO:WT X B base gs.size os0 w' (t++MemOp.ofEvents (base+κ) g.frame.fn g.frame.place es) (ths.set κ T') m s' (upd H (base+κ) H') D')
  (hs:YS P X κ T' k H' ρ' q' (Deaf (t++MemOp.ofEvents (base+κ) g.frame.fn g.frame.place es) (base+κ)) g') (TO:∀κ',D' κ'=(((ths.set κ T')[κ']?).map Th.did).getD false)
  (hQ:s'.q<=s.q\/(mayWake P g=true/\g'.status=.running)):
  Goes P X Fin B base os0 (PI.meas X gs ths m s rks q) w t gs (runT P (crowd gs w sl) (base+κ)):=by
 have hN:base+κ<gs.size:=(Array.getElem?_eq_some_iff.1 hg).1;have hb:=h.b1;have aQ:Act base gs.size (base+κ):=.inr ⟨oM,hN⟩;have T7:(base+κ==0)=false:=by simp;omega
 have mP:=K3 h.inv hκ hm;have jM:=h.depth _ aQ;rw[hk] at jM;have XZ:=h.si.worker (w':=w') (g:=g) (g':=g') (T':=T') (H':=H') (k':=k) (q':=q') (ρ':=ρ') (s':=s') hb h.pos hκ (eG ofEvents_g) hQ hs;refine .inl ⟨zD P gs (base+κ) g g' w',w',sl,_,ths.set κ T',m,s',_,_,_,_,D',runT_crowd_go hg (by rw[T7];exact aC),⟨h.inv.step hκ hm,hb,h.ne,TO,fun j hj=> ?_,?_,XZ⟩,Y8 mP⟩
 ·rw[GA] at hj;by_cases e:j=base+κ
  ·subst e;rw[upd_same];omega
  ·rw[upd_ne _ _ e];exact Nat.lt_trans mP (h.depth j hj)
 ·rw[GA];exact vO
theorem PI.J0(h:PI P X Fin B base os0 gs w t ths m s H ks rks q D){κ k:Nat}{T:Th}{g:Goroutine}(hκ:ths[κ]? =some T)(hg:gs[base+κ]? =some g)(hk:ks (base+κ)=k+1)
  (hs:WS P X κ (k+1) T (H (base+κ)) g):
  Goes P X Fin B base os0 (PI.meas X gs ths m s rks q) w t gs (runT P (crowd gs w sl) (base+κ)):=by
 have hN:base+κ<gs.size:=(Array.getElem?_eq_some_iff.1 hg).1;have hb:=h.b1;obtain⟨_,pw,wr,qt,pl⟩:=hs;have rL:=h.wt.vi.sat (base+κ);have UJ:upd H (base+κ) (H (base+κ))=H:=lK _ _;have KB:=(List.getElem?_eq_some_iff.1 hκ).1;have aGP:D κ=T.did:=by rw[h.dd κ,hκ];rfl
 cases hp:T.plain with
 | true=>
  obtain⟨QC,PX⟩:=h.inv.ok hκ;obtain⟨T',s',g',w',es,hm,aC,htu,hqe,hra,eI,hq1,hq2,hq3⟩:=pl hp w s rL h.wt.sh QC PX;obtain⟨k2,k3⟩:=kW hp hm;have vO:=h.wt.J0 (fn:=g.frame.fn) (pos:=g.frame.place) h.ne hb hκ hN hp hm htu hqe;have TO:=h.Y6 hκ k2;have hQ:s'.q<=s.q\/(mayWake P g=true/\g'.status=.running):=by
   cases aFD:T.vY with
   | true=> exact .inr ⟨hra aFD,eI⟩
   | false=> exact .inl (aDi aFD hm)
  by_cases VK:T'=.quit
  ·obtain⟨q',UZ⟩:=hq1 VK;refine h.iW hκ hg hk hm aC (H':=H (base+κ)) (D':=D) (ρ':=.stop) (q':=q') (by rw[UJ];exact vO) (.quit VK ?_) TO hQ;have:Deaf (t++MemOp.ofEvents (base+κ) g.frame.fn g.frame.place es) (base+κ)=1:=by
    rw[Deaf_own,h.wt.J1 κ T hκ (by rintro rfl;cases hp),hqe.net,VK];rfl
   rw[this];exact UZ
  ·cases mP:T'.mute with
   | true=>
    obtain⟨n,hn⟩:=hq2 VK mP;exact h.iW hκ hg hk hm aC (H':=H (base+κ)) (D':=D) (ρ':=JH n) (q':=q (base+κ)) (by rw[UJ];exact vO) (.quiet n ⟨VK,mP⟩ rfl hn) TO hQ
   | false=>
    obtain⟨ρ',A8⟩:=(hq3 mP).wY;exact h.iW hκ hg hk hm aC (H':=H (base+κ)) (D':=D) (ρ':=ρ') (q':=q (base+κ)) (by rw[UJ];exact vO) (.walk mP A8) TO hQ
 | false=>
  have cQ:T=.pw\/T=.wr\/T=.quit:=by cases T <;> simp[Th.plain] at hp <;> simp
  rcases cQ with rfl|rfl|rfl
  ·obtain⟨⟨o,h1,h2⟩,_,_⟩:=h.wt.free;obtain⟨g',w',o',es,aC,how,hG,hT'⟩:=pw rfl D o aGP h2 w rL h1;obtain⟨ρ',A8⟩:=hT'.wY;have vO:=h.wt.aHs (fn:=g.frame.fn) (pos:=g.frame.place) h.ne hκ hN how hG;refine h.iW hκ hg hk (T':=.wr) (s':=s) (by simp[Th.mv]) aC (H':=H (base+κ)) (by rw[UJ];exact vO) (q':=q (base+κ)) (.walk rfl A8) (fun κ'=> ?_) (.inl (Nat.le_refl _));by_cases e:κ'=κ
   ·subst e;rw[List.getElem?_set_self KB];simp[bV,Th.did]
   ·rw[List.getElem?_set_ne (Ne.symm e),<-h.dd κ',aAV e]
  ·obtain⟨g',aC,n,hn⟩:=wr rfl w rL;have vO:=h.wt.mute (fn:=g.frame.fn) (pos:=g.frame.place) h.ne hκ hN;exact h.iW hκ hg hk (T':=.wk) (s':=s) (by simp[Th.mv]) aC (H':=H (base+κ)) (D':=D) (ρ':=JH n) (q':=q (base+κ)) (by rw[UJ];exact vO) (.quiet n ⟨by simp,rfl⟩ rfl hn) (h.Y6 hκ rfl) (.inl (Nat.le_refl _))
  ·exact(qt rfl).elim
theorem PI.worker(h:PI P X Fin B base os0 gs w t ths m s H ks rks q D){κ:Nat}{T:Th}{g:Goroutine}(hκ:ths[κ]? =some T)(hg:gs[base+κ]? =some g)(hr:g.status=.running):
  Goes P X Fin B base os0 (PI.meas X gs ths m s rks q) w t gs (runT P (crowd gs w sl) (base+κ)):=by
 have hN:base+κ<gs.size:=(Array.getElem?_eq_some_iff.1 hg).1;have KB:=(List.getElem?_eq_some_iff.1 hκ).1;have hb:=h.b1;have aQ:Act base gs.size (base+κ):=.inr ⟨oM,hN⟩;have T7:(base+κ==0)=false:=by simp;omega
 obtain⟨g₁,ρ,h1,h2,tL⟩:=h.si.work κ T hκ;rw[hg] at h1;cases h1
 have hkp:=h.pos _ aQ;obtain⟨k,hk⟩:∃k,ks (base+κ)=k+1:=⟨ks (base+κ)-1,oM⟩
 have jM:=h.depth _ aQ;rw[hk] at tL jM;have aHE:upd ks (base+κ) (ks (base+κ))=ks:=lK _ _;have aHg:upd q (base+κ) (q (base+κ))=q:=lK _ _;have UJ:upd H (base+κ) (H (base+κ))=H:=lK _ _
 -- a step that leaves the automaton where it is
 have stay:∀(g':Goroutine) (w':World) (es:Array Event) (H':View) (q':Nat) (ρ':gC),stepG P false g w=.go g' w' es-> 
   WT X B base gs.size os0 w' (t++MemOp.ofEvents (base+κ) g.frame.fn g.frame.place es) ths m s (upd H (base+κ) H') D-> 
   YS P X κ T (k+1) H' ρ' q' (Deaf (t++MemOp.ofEvents (base+κ) g.frame.fn g.frame.place es) (base+κ)) g'-> 
   NG (PI.meas X (zD P gs (base+κ) g g' w') ths m s (rks.set (base+κ) ρ') (upd q (base+κ) q')) (PI.meas X gs ths m s rks q)-> 
   Goes P X Fin B base os0 (PI.meas X gs ths m s rks q) w t gs (runT P (crowd gs w sl) (base+κ)):=by
  intro g' w' es H' q' ρ' aC vO hs' aBm;have aFG:ths.set κ T=ths:=by
   apply List.ext_getElem?
   intro j;by_cases e:κ=j
   ·subst e;rw[List.getElem?_set_self KB,hκ]
   ·rw[List.getElem?_set_ne e]
  have XZ:=h.si.worker (w':=w') (g:=g) (g':=g') (T':=T) (H':=H') (k':=k+1) (q':=q') (ρ':=ρ') (s':=s) hb h.pos hκ (eG ofEvents_g) (.inl (Nat.le_refl _)) hs';rw[aFG] at XZ;refine .inl ⟨zD P gs (base+κ) g g' w',w',sl,MemOp.ofEvents (base+κ) g.frame.fn g.frame.place es,ths,m,s,upd H (base+κ) H',upd ks (base+κ) (k+1),rks.set (base+κ) ρ',upd q (base+κ) q',D,runT_crowd_go hg (by rw[T7];exact aC),⟨h.inv,hb,h.ne,h.dd,fun j hj=> ?_,?_,XZ⟩,aBm⟩
  ·rw[GA] at hj;by_cases e:j=base+κ
   ·subst e;rw[upd_same];exact jM
   ·rw[upd_ne _ _ e];exact h.depth j hj
  ·rw[GA];exact vO
 cases tL with
 | quit hT hq=>
  cases hqq:q (base+κ) with
  | zero=> rw[hqq] at hq;rw[hq.1] at hr;cases hr
  | succ q'=>
   rw[hqq] at hq;rcases hq with ⟨hf,_⟩|⟨_,g',es,mP,aC,UZ⟩
   ·rw[hf] at hr;cases hr
   ·have hrk:rks.set (base+κ) ρ=rks:=by
     apply List.ext_getElem?
     intro j;by_cases e:base+κ=j
     ·subst e;rw[List.getElem?_set_self (by rw[h.si.A5];exact hN),h2]
     ·rw[List.getElem?_set_ne e]
    have vO:=h.wt.leave (i:=base+κ) (fn:=g.frame.fn) (pos:=g.frame.place) oM hN mP fun κ' T' VC e=> by
     obtain rfl:κ'=κ:=by omega
     rw[hκ] at VC;cases VC
     exact hT
    refine stay g' w es (H (base+κ)) q' ρ (aC w) (by rw[UJ];exact vO) (.quit hT (by rw[Deaf_own];exact UZ)) ?_;rw[hrk];unfold PI.meas;rw[GA];refine aDd ?_;have:=sumTo_upd (f:=q) q' (fun a=> a) (i:=base+κ) (j:=gs.size) hN;have e:sumTo gs.size (fun a=> upd q (base+κ) q' a)=sumTo gs.size (upd q (base+κ) q'):=rfl;have e2:sumTo gs.size (fun a=> q a)=sumTo gs.size q:=rfl;omega
 | quiet n hT hρ hgo=>
  cases n with
  | succ n=>
   obtain⟨_,g',aC,aG1⟩:=hgo;refine stay g' w #[] (H (base+κ)) (q (base+κ)) (JH n) (aC w) (by rw[UJ];simpa [MemOp.ofEvents] using h.wt) (.quiet n hT rfl aG1) ?_;unfold PI.meas;refine Z8 (dZ.set h2 ?_);rw[hρ];exact oY n
  | zero=> exact h.J0 hκ hg hk hgo
 | walk hT hgo=>
  cases ρ with
  | stop=> exact h.J0 hκ hg hk hgo
  | step f=>
   obtain⟨_,aC⟩:=hgo;obtain⟨g',w',es,H',h3,h4,h5⟩:=aC w (h.wt.vi.sat _) ⟨h.wt.cb,_,h.wt.sh⟩;refine stay g' w' es H' (q (base+κ)) (f w) h3 (h.wt.walk h.ne aQ hN h4 fun κ' T' VC e=> ?_) (.walk hT h5) ?_
   ·obtain rfl:κ'=κ:=by omega
    rw[hκ] at VC;cases VC
    exact hT
   ·unfold PI.meas;exact Z8 (dZ.set h2 (.step f w))
  | phase f=>
   obtain⟨_,hp,_⟩:=hgo;exact hp.elim
end
end Go.RL
