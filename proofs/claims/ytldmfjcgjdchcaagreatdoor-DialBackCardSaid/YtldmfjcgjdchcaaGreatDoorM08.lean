/-
 Texts of the proofs over baudot/dial.
-/
import Derived.Test.YtldmfjcgjdchcaaGreatDoorM07
namespace Go.Proofs.YtldmfjcgjdchcaaGreatDoor
open Go.RL Go.Proofs.Tryz
set_option maxRecDepth 10000
set_option maxHeartbeats 16000000
structure yQ(a b i j:Nat)(u:List Int):Prop where
 ai:a+1<=i
 ij:i<=j+1
 jb:j<b
 aj:a<=j
 lo:∀k,a<k->k<i->tA u k<=tA u a
 hi:∀k,j<k->k<b->tA u a<tA u k
theorem yQ.start {a b:Nat}{u:List Int}(h:a<b):yQ a b (a+1) (b-1) u:=⟨Nat.le_refl _,oM,oM,oM,fun k h1 h2=> by omega,fun k h1 h2=> by omega⟩
theorem yQ.up {a b i j:Nat}{u:List Int}(h:yQ a b i j u)(WO:i<=j)(hle:¬tA u a<tA u i):yQ a b (i+1) j u:=
 ⟨by have:=h.ai;omega,oM,h.jb,h.aj,fun k h1 h2=> by
  by_cases e:k=i
  ·rw[e];omega
  ·exact h.lo k h1 oM,h.hi⟩
theorem yQ.down {a b i j:Nat}{u:List Int}(h:yQ a b i j u)(WO:i<=j)(xB:tA u a<tA u j):yQ a b i (j-1) u:=
 ⟨h.ai,oM,by have:=h.jb;omega,by have:=h.ai;omega,h.lo,fun k h1 h2=> by
  by_cases e:k=j
  ·rw[e];exact xB
  ·exact h.hi k oM h2⟩
theorem yQ.swap {a b i j:Nat}{u:List Int}(h:yQ a b i j u)(hl:b<=u.length)(WO:i<=j)(h1:tA u a<tA u i)(h2:¬tA u a<tA u j):i<j/\yQ a b (i+1) (j-1) (gB u i j)/\tA (gB u i j) a=tA u a:=by
 have ha:=h.ai;have hb:=h.jb;have nB:i≠j:=by
  rintro rfl;omega
 have hs:=fun q=> mC (l:=u) (p:=i) (q:=j) oM oM q;have h0:tA (gB u i j) a=tA u a:=by rw[hs,if_neg oM,if_neg oM]
 refine⟨oM,⟨oM,oM,oM,oM,fun k h3 h4=> ?_,fun k h3 h4=> ?_⟩,h0⟩
 ·rw[h0,hs,if_neg oM];by_cases e:k=i
  ·rw[if_pos e];omega
  ·rw[if_neg e];exact h.lo k h3 oM
 ·rw[h0,hs];by_cases e:k=j
  ·rw[if_pos e];exact h1
  ·rw[if_neg e,if_neg oM];exact h.hi k oM h4
structure iL(a b c:Nat)(x:Int)(u:List Int):Prop where
 ac:a<c
 cb:c<=b
 lo:∀k,a<=k->k<c->tA u k<=x
 hi:∀k,c<=k->k<b->x<tA u k
theorem yQ.fin {a b i j:Nat}{u:List Int}(h:yQ a b i j u)(WO:j<i){x:Int}(hx:tA u a=x):iL a b i x u:=by
 have h1:=h.ij;have h2:=h.ai;have h3:=h.jb;exact⟨oM,oM,fun k g1 g2=> by
  by_cases e:k=a
  ·rw[e,hx];exact Int.le_refl _
  ·rw[<-hx];exact h.lo k oM g2,fun k g1 g2=> by rw[<-hx];exact h.hi k oM g2⟩
section
variable(M:Md prog)(H:View)
theorem mY(dec:Int->List UInt8)(sb:Nat)(l:List Int)(jj:List Value)(n cap a b pv:Nat)(hn:n=l.length)(hE:HM dec l)(hb:b<=n)(RE:n<=100000000)(hp:a<=pv/\pv<b)(hS:H sb=some (true,.cells ⟨(nA dec l)++jj⟩ 9 (0,0))):
  bA M 263 #[.slice (some ⟨sb,0,none⟩) n cap,.int .i64 (a:Nat),.int .i64 (b:Nat),.int .i64 (pv:Nat)] H (YA dec H sb jj (fun v m=> ∃s:Nat×List Int,v=.int .i64 (s.1:Nat)/\m=s.2/\(lA a b l s.2/\iL a b s.1 (tA l pv) s.2))):=by
 refine bA.enter (vs:= [.slice (some ⟨sb,0,none⟩) n cap,.int .i64 (a:Nat),.int .i64 (b:Nat),.int .i64 (pv:Nat)]) func263 rfl ntmps263 (Nat.le_of_ble_eq_true rfl) (iA.pull hS) fun St c cs hK=> ?_;have hx0:tA (gB l a pv) a=tA l pv:=by
  rw[mC oM oM];by_cases e:a=pv
  ·rw[if_pos e,e]
  ·rw[if_neg e,if_pos rfl]
 have hu:lA a b l (gB l a pv):=lA.swap oM oM oM oM;have eb:((b:Nat):Int)-1=((b-1:Nat):Int):=by omega
 have ea:mA .add .i64 (a:Nat) 1=some (.int .i64 ((a+1:Nat):Int)):=by rw[lB oM oM];rfl
 have y1:=qA (dec:=dec) (m:=l) (j:=jj) (k:=(a:Nat)) (p:=a) rfl oM;have y2:=qA (dec:=dec) (m:=l) (j:=jj) (k:=(pv:Nat)) (p:=pv) rfl oM;have y3:=yA (dec:=dec) (m:=l) (j:=jj) (k:=(a:Nat)) (x:=tA l (pv)) (p:=a) rfl oM;have y4:=yA (dec:=dec) (m:=(l).set (a) (tA l (pv))) (j:=jj) (k:=(pv:Nat)) (x:=tA l (a)) (p:=pv) rfl (by rw[List.length_set];omega);have y5:=xA (dec:=dec) (m:=l) (j:=jj) (k:=(a:Nat)) (p:=a) rfl oM;have y6:=xA (dec:=dec) (m:=(l).set (a) (tA l (pv))) (j:=jj) (k:=(pv:Nat)) (p:=pv) rfl (by rw[List.length_set];omega);refine U5 ?_;refine Tc.dr [13,15] [0] mixed rfl ?_;refine V2 0 ?_;refine .nw 2 ?_;refine .nw 3 ?_;refine V4 4 ?_;refine .nw 8 ?_;refine .nw 9 ?_;refine .nw 10 ?_;refine V2 11 ?_;refine .e 13 0 ?_;refine .nw 14 ?_;refine .e 15 0 ?_;refine .dn ?_;refine U9 ?_;rw[eb];refine U2 ?_;refine Tc.db (Tc.sA (σ:= { s:Nat×Nat×List Int//yQ a b s.1 s.2.1 s.2.2/\lA a b l s.2.2/\tA s.2.2 a=tA l pv }) (fun s=> ([(0,.slice (some ⟨sb,0,none⟩) n cap),(1,.int .i64 (a:Nat)),(9,.int .i64 (s.1.1:Nat)),(10,.int .i64 (s.1.2.1:Nat))],[(sb,true,.cells ⟨(nA dec s.1.2.2)++jj⟩ 9 (0,0))])) (fun s=> s.1.2.1+1-s.1.1) ?_
  ⟨(a+1,b-1,gB l a pv),yQ.start oM,hu,hx0⟩)
 clear y1 y2 y3 y4 y5 y6 hx0 hu;rintro⟨⟨i,j,w⟩,g1,g2,g3⟩ ih0;simp only at g1 g2 g3;have Z0:=g2.len;have QU:=hE.WC g2;have g1a:=g1.ai;have g1b:=g1.ij;have g1c:=g1.jb;show Tc M St _ _ _ _ [(0,.slice (some ⟨sb,0,none⟩) n cap),(1,.int .i64 (a:Nat)),(9,.int .i64 (i:Nat)),(10,.int .i64 (j:Nat))] [(sb,true,.cells ⟨(nA dec w)++jj⟩ 9 (0,0))] _ _;have za:=qA (dec:=dec) (m:=w) (j:=jj) (k:=(a:Nat)) (p:=a) rfl oM;refine U2 ?_;refine yG (fun R' L'=> ∃s,i<=s/\yQ a b s j w/\(s<=j->tA w a<tA w s)/\jC [(0,.slice (some ⟨sb,0,none⟩) n cap),(1,.int .i64 (a:Nat)),(9,.int .i64 (s:Nat)),(10,.int .i64 (j:Nat))] R'/\L'= [(sb,true,.cells ⟨(nA dec w)++jj⟩ 9 (0,0))]) ?_ (fun fin=> ?_)
 ·rintro R' _ ⟨i2,i2le,p1,x1,tK,rfl⟩;refine Tc.ZC ?_ tK (List.Sublist.refl _);have p1a:=p1.ai;have p1b:=p1.ij;have p1c:=p1.jb;refine U ?_;refine yG (fun R' L'=> ∃s,s<=j/\yQ a b i2 s w/\(i2<=s->¬tA w a<tA w s)/\jC [(0,.slice (some ⟨sb,0,none⟩) n cap),(1,.int .i64 (a:Nat)),(9,.int .i64 (i2:Nat)),(10,.int .i64 (s:Nat))] R'/\L'= [(sb,true,.cells ⟨(nA dec w)++jj⟩ 9 (0,0))]) ?_ (fun fin=> ?_)
  ·rintro R' _ ⟨j2,j2le,p2,x2,tK,rfl⟩;refine Tc.ZC ?_ tK (List.Sublist.refl _);have p2a:=p2.ai;have p2b:=p2.ij;have p2c:=p2.jb;have p2d:=p2.aj;by_cases d:j2<i2
   ·refine vF ?_;refine .rt hK func263 results263 [_] ?_;exact fun H' hs=> YA.of (dec:=dec) hs (i:=0) rfl ⟨(i2,w),rfl,rfl,g2,p2.fin d g3⟩
   ·obtain⟨w1,w2,w3⟩:=p2.swap oM oM (x1 oM) (x2 oM);have e2:((j2:Nat):Int)-1=((j2-1:Nat):Int):=by omega
    have ei:mA .add .i64 (i2:Nat) 1=some (.int .i64 ((i2+1:Nat):Int)):=by rw[lB oM oM];rfl
    refine DD ?_;have z1:=qA (dec:=dec) (m:=w) (j:=jj) (k:=(i2:Nat)) (p:=i2) rfl oM;have z2:=qA (dec:=dec) (m:=w) (j:=jj) (k:=(j2:Nat)) (p:=j2) rfl oM;have z3:=yA (dec:=dec) (m:=w) (j:=jj) (k:=(i2:Nat)) (x:=tA w (j2)) (p:=i2) rfl oM;have z4:=yA (dec:=dec) (m:=(w).set (i2) (tA w (j2))) (j:=jj) (k:=(j2:Nat)) (x:=tA w (i2)) (p:=j2) rfl (by rw[List.length_set];omega);have z5:=xA (dec:=dec) (m:=w) (j:=jj) (k:=(i2:Nat)) (p:=i2) rfl oM;have z6:=xA (dec:=dec) (m:=(w).set (i2) (tA w (j2))) (j:=jj) (k:=(j2:Nat)) (p:=j2) rfl (by rw[List.length_set];omega);refine Tc.dr [13,15] [0] mixed rfl ?_;refine V2 0 ?_;refine .nw 2 ?_;refine .nw 3 ?_;refine V4 4 ?_;refine .nw 8 ?_;refine .nw 9 ?_;refine .nw 10 ?_;refine V2 11 ?_;refine .e 13 0 ?_;refine .nw 14 ?_;refine .e 15 0 ?_;refine .dn ?_;refine qE ?_;rw[e2];refine U ?_;exact Tc.db (ih0 ⟨(i2+1,j2-1,gB w i2 j2),w2,g2.trans (lA.swap oM oM oM oM),w3.trans g3⟩ (by simp only;omega))
  ·refine Tc.db (Tc.sA (σ:= { s:Nat//s<=j/\yQ a b i2 s w }) (fun s=> ([(0,.slice (some ⟨sb,0,none⟩) n cap),(1,.int .i64 (a:Nat)),(9,.int .i64 (i2:Nat)),(10,.int .i64 (s.1:Nat))],[(sb,true,.cells ⟨(nA dec w)++jj⟩ 9 (0,0))])) (fun s=> s.1) ?_ ⟨j,Nat.le_refl _,p1⟩);rintro⟨s,q1,q2⟩ ih;have q3:=q2.ai;have q4:=q2.ij;have q5:=q2.jb;show Tc M St _ _ _ _ [(0,.slice (some ⟨sb,0,none⟩) n cap),(1,.int .i64 (a:Nat)),(9,.int .i64 (i2:Nat)),(10,.int .i64 (s:Nat))] [(sb,true,.cells ⟨(nA dec w)++jj⟩ 9 (0,0))] _ _;by_cases c1:i2<=s
   ·have zs:=qA (dec:=dec) (m:=w) (j:=jj) (k:=(s:Nat)) (p:=s) rfl oM;have es:((s:Nat):Int)-1=((s-1:Nat):Int):=by omega
    by_cases c2:tA w a<tA w s
    ·refine U2 ?_;refine Tc.dr [] [] mixed rfl ?_;refine SO 0 ?_;refine .z 12 rfl (pA.tk fun H hs=> VB M H QU (rA oM) (rA oM) true (decide_eq_true c2)) ?_;refine .nn 13 ?_;refine .dn ?_;refine U8 ?_;rw[es];refine U ?_;exact Tc.db (ih ⟨s-1,oM,q2.down c1 c2⟩ (by simp only;omega))
    ·repeat (refine Tc.seq ?_)
     refine Tc.dr [] [] mixed rfl ?_;refine SO 0 ?_;refine .z 12 rfl (pA.tk fun H hs=> VB M H QU (rA oM) (rA oM) false (decide_eq_false c2)) ?_;refine .nn 13 ?_;refine .dn ?_;refine U2 ?_;exact fin _ _ ⟨s,q1,q2,fun _=> c2,⟨rfl,rfl,rfl,rfl,trivial⟩,rfl⟩
   ·repeat (refine Tc.seq ?_)
    refine Tc.dr [] [] mixed rfl ?_;refine V4 0 ?_;refine .nw 4 ?_;refine .nw 5 ?_;refine .nw 6 ?_;refine .nw 7 ?_;refine .nw 8 ?_;refine .nw 9 ?_;refine .nw 10 ?_;refine .nw 11 ?_;refine .nw 12 ?_;refine .nn 13 ?_;refine .dn ?_;refine U2 ?_;exact fin _ _ ⟨s,q1,q2,fun h=> (c1 h).elim,⟨rfl,rfl,rfl,rfl,trivial⟩,rfl⟩
 ·refine Tc.db (Tc.sA (σ:= { s:Nat//i<=s/\yQ a b s j w }) (fun s=> ([(0,.slice (some ⟨sb,0,none⟩) n cap),(1,.int .i64 (a:Nat)),(9,.int .i64 (s.1:Nat)),(10,.int .i64 (j:Nat))],[(sb,true,.cells ⟨(nA dec w)++jj⟩ 9 (0,0))])) (fun s=> j+1-s.1) ?_ ⟨i,Nat.le_refl _,g1⟩);rintro⟨s,q1,q2⟩ ih;have q3:=q2.ai;have q4:=q2.ij;have q5:=q2.jb;show Tc M St _ _ _ _ [(0,.slice (some ⟨sb,0,none⟩) n cap),(1,.int .i64 (a:Nat)),(9,.int .i64 (s:Nat)),(10,.int .i64 (j:Nat))] [(sb,true,.cells ⟨(nA dec w)++jj⟩ 9 (0,0))] _ _;by_cases c1:s<=j
  ·have zs:=qA (dec:=dec) (m:=w) (j:=jj) (k:=(s:Nat)) (p:=s) rfl oM;have es:mA .add .i64 (s:Nat) 1=some (.int .i64 ((s+1:Nat):Int)):=by rw[lB oM oM];rfl
   by_cases c2:tA w a<tA w s
   ·repeat (refine Tc.seq ?_)
    refine Tc.dr [] [] mixed rfl ?_;refine SO 0 ?_;refine .z 12 rfl (pA.tk fun H hs=> VB M H QU (rA oM) (rA oM) true (decide_eq_true c2)) ?_;refine V2 13 ?_;refine .dn ?_;refine U2 ?_;exact fin _ _ ⟨s,q1,q2,fun _=> c2,⟨rfl,rfl,rfl,rfl,trivial⟩,rfl⟩
   ·refine U2 ?_;refine Tc.dr [] [] mixed rfl ?_;refine SO 0 ?_;refine .z 12 rfl (pA.tk fun H hs=> VB M H QU (rA oM) (rA oM) false (decide_eq_false c2)) ?_;refine V2 13 ?_;refine .dn ?_;refine U9 ?_;exact Tc.db (ih ⟨s+1,oM,q2.up c1 c2⟩ (by simp only;omega))
  ·repeat (refine Tc.seq ?_)
   refine Tc.dr [] [] mixed rfl ?_;refine V4 0 ?_;refine .nw 4 ?_;refine .nw 5 ?_;refine .nw 6 ?_;refine .nw 7 ?_;refine .nw 8 ?_;refine .nw 9 ?_;refine .nw 10 ?_;refine .nw 11 ?_;refine .nw 12 ?_;refine .nw 13 ?_;refine .nn 14 ?_;refine .dn ?_;refine U2 ?_;exact fin _ _ ⟨s,q1,q2,fun h=> (c1 h).elim,⟨rfl,rfl,rfl,rfl,trivial⟩,rfl⟩
end
def wH(l:List Int)(a b a' b':Nat)(u:List Int):Prop:=∀m,lA a' b' u m->pE a' b' m->lA a b l m/\pE a b m
theorem wH.jH {l u w:List Int}{a b a' b':Nat}(h:wH l a b a' b' u)(k:lA a' b' u w):wH l a b a' b' w:=fun m h1 h2=> h m (k.trans h1) h2
theorem eE.left {a b c:Nat}{u:List Int}(h:eE a b u)(k:c<=b):eE a c u:=by
 rcases h with h|h
 ·exact .inl h
 ·exact .inr fun i h1 h2=> h i h1 oM
theorem eE.keep {a c b:Nat}{u w:List Int}(h:eE a c u)(k:lA (c+1) b u w):eE a c w:=by
 rcases h with h|h
 ·exact .inl h
 ·refine .inr fun i h1 h2=> ?_;rw[k.out (a-1) (.inl oM),k.out i (.inl oM)];exact h i h1 h2
theorem wH.right {l u x:List Int}{a b a' b' c:Nat}(h:wH l a b a' b' u)(k:Part a' b' c u)(hl:b'<=u.length)(h1:lA a' c u x)(s1:pE a' c x):wH l a b (c+1) b' x:=fun m h2 s2=> by
 obtain⟨g1,g2⟩:=k.sorted hl h1 s1 h2 s2;exact h m g1 g2
theorem wH.left {l u x:List Int}{a b a' b' c:Nat}(h:wH l a b a' b' u)(k:Part a' b' c u)(hl:b'<=u.length)(h1:lA (c+1) b' u x)(s1:pE (c+1) b' x):wH l a b a' c x:=fun m h2 s2=> by
 obtain⟨g1,g2⟩:=k.Q7 hl h1 s1 h2 s2;exact h m g1 g2
theorem Part.ahead {a b c:Nat}{u x:List Int}(k:Part a b c u)(h1:lA a c u x):eE (c+1) b x:=.inr fun i g1 g2=> by
 have e:c+1-1=c:=by omega
 rw[e];have h2:=k.hi i oM g2;rw[<-h1.out c (.inr (Nat.le_refl _)),<-h1.out i (.inr oM)] at h2;exact h2
theorem iL.ahead {a b c:Nat}{x:Int}{w:List Int}(k:iL a b c x w):eE c b w:=.inr fun i g1 g2=> by
 have h1:=k.ac;have h2:=k.lo (c-1) oM oM;have h3:=k.hi i g1 g2;omega
theorem wH.eq {l u w:List Int}{a b a' b' c:Nat}{x:Int}(h:wH l a b a' b' u)(k:iL a' b' c x w)(ht:lA a' b' u w)(SS:∀i,a'<=i->i<b'->x<=tA w i)(hl:b'<=w.length):wH l a b c b' w:=fun m h1 s1=> by
 have c1:=k.ac;have c2:=k.cb;refine h m (ht.trans (h1.wide oM (Nat.le_refl _))) fun p q g1 g2 g3=> ?_;have AL:∀i,a'<=i->i<c->tA m i=x:=fun i e1 e2=> by
  rw[h1.out i (.inl e2)];have e3:=k.lo i e1 e2;have e4:=SS i e1 oM;omega
 have ON:∀i,c<=i->i<b'->x<tA m i:=h1.all hl (P:=fun z=> x<z) k.hi;by_cases d1:q<c
 ·rw[AL p g1 oM,AL q oM d1];exact Int.le_refl _
 ·by_cases d2:p<c
  ·rw[AL p g1 d2];have:=ON q oM g3;omega
  ·exact s1 p q oM g2 g3
theorem Or.GR {dec:Int->List UInt8}{M:Md prog}{n:Nat}{H₀:View}{R:Rg}{L:Bl}{o:Oper}{K:Rg->Bl->Prop}{cl:Go.Call}{x:Operand}{fv:Value}{az:List Value}{d:Nat}{σ:Type}(i:Nat){sb:Nat}{l:List Int}{j:List Value}(val:σ->Value)(mm:σ->List Int)(p:σ->Prop)
  (kA:o.op=.call cl) (iB:cl.callee=.value x) (hx:HA R x=some fv) (has:VC R cl.args.toList=some az) (hd:o.dst=some d) (hn:d<n) (hi:L[i]? =some (sb,true,.cells ⟨(nA dec l)++j⟩ 9 (0,0)))
  (hc:∀H,iA H₀ L H->yB M fv az H (YA dec H sb j fun v m=> ∃s,v=val s/\m=mm s/\p s)) (hk:∀s,p s->K ((d,val s)::R) (L.set i (sb,true,.cells ⟨(nA dec (mm s))++j⟩ 9 (0,0)))):Or M n H₀ R L o K:=
 Or.lE i (fun v m=> ∃s,v=val s/\m=mm s/\p s) kA iB hx has hd hn hi hc fun v m h=> by
  obtain⟨s,rfl,rfl,h3⟩:=h;exact hk s h3
section
variable(M:Md prog)
theorem aAL (dec:Int->List UInt8)(sb:Nat)(jj:List Value)(n cap:Nat)(h40:n<=100000000):∀(d:Nat) (H:View) (l:List Int) (a b lim:Nat),b-a<d->n=l.length->a<=b->b<=n->lim<=100->HM dec l->eE a b l->H sb=some (true,.cells ⟨(nA dec l)++jj⟩ 9 (0,0))-> 
  bA M 196 #[.slice (some ⟨sb,0,none⟩) n cap,.int .i64 (a:Nat),.int .i64 (b:Nat),.int .i64 (lim:Nat)] H (YA dec H sb jj (fun v m=> v=.tuple ⟨[]⟩/\lA a b l m/\pE a b m)):=by
 intro d;induction d with
 | zero=> intro H l a b lim hd;omega
 | succ d ihd=>
 intro H l a b lim hd hn KS hb aE9 hE hah hS;refine bA.enter (vs:= [.slice (some ⟨sb,0,none⟩) n cap,.int .i64 (a:Nat),.int .i64 (b:Nat),.int .i64 (lim:Nat)]) func196 rfl ntmps196 (Nat.le_of_ble_eq_true rfl) (iA.pull hS) fun St c cs hK=> ?_;refine U9 ?_;refine Tc.db (Tc.sA (σ:= { s:Nat×Nat×Nat×Bool×Bool×List Int//a<=s.1/\s.1<=s.2.1/\s.2.1<=b/\s.2.2.1<=lim/\lA a b l s.2.2.2.2.2/\wH l a b s.1 s.2.1 s.2.2.2.2.2/\eE s.1 s.2.1 s.2.2.2.2.2 }) (fun s=> ([(0,.slice (some ⟨sb,0,none⟩) n cap),(1,.int .i64 (s.1.1:Nat)),(2,.int .i64 (s.1.2.1:Nat)),(3,.int .i64 (s.1.2.2.1:Nat)),(8,.bool s.1.2.2.2.1),(9,.bool s.1.2.2.2.2.1)],[(sb,true,.cells ⟨(nA dec s.1.2.2.2.2.2)++jj⟩ 9 (0,0))])) (fun s=> s.1.2.1-s.1.1) ?_
  ⟨(a,b,lim,true,true,l),Nat.le_refl _,KS,Nat.le_refl _,Nat.le_refl _,lA.refl ..,fun m h1 h2=> ⟨h1,h2⟩,hah⟩)
 rintro⟨⟨a',b',lm,wb,wp,u⟩,g1,g2,g3,g4,g5,g6,g7⟩ ih;simp only at g1 g2 g3 g4 g5 g6 g7;have nM:=g5.len;have FI:=hE.WC g5;obtain⟨m,hm⟩:∃m,m=b'-a':=⟨_,rfl⟩
 have e0:((b':Nat):Int)-((a':Nat):Int)=((m:Nat):Int):=by omega
 show Tc M St _ _ _ _ [(0,.slice (some ⟨sb,0,none⟩) n cap),(1,.int .i64 (a':Nat)),(2,.int .i64 (b':Nat)),(3,.int .i64 (lm:Nat)),(8,.bool wb),(9,.bool wp)] [(sb,true,.cells ⟨(nA dec u)++jj⟩ 9 (0,0))] _ _;refine U8 ?_;rw[e0];refine U2 ?_;by_cases c1:m<=12
 ·refine DD ?_;refine .e (Or.lE (dec:=dec) (l:=u) 0 (fun v m=> v=.tuple ⟨[]⟩/\lA a' b' u m/\pE a' b' m) rfl rfl rfl rfl rfl dE rfl (fun H hs=> .h (DK M H dec sb u jj n cap a' b' oM FI oM oM oM (hs.get (i:=0) rfl))) (fun v w ⟨_,wt,ws⟩=> ?_));refine U ?_;refine .rt hK func196 results196 [] ?_;exact fun H' hs=> YA.of (dec:=dec) hs (i:=0) rfl ⟨rfl,g6 w wt ws⟩
 ·refine U8 ?_;by_cases c2:lm=0
  ·refine DD ?_;refine .e (Or.lE (dec:=dec) (l:=u) 0 (fun v m=> v=.tuple ⟨[]⟩/\lA a' b' u m/\pE a' b' m) rfl rfl rfl rfl rfl dE rfl (fun H hs=> .h (QS M H dec sb u jj n cap a' b' oM FI oM oM oM (hs.get (i:=0) rfl))) (fun v w ⟨_,wt,ws⟩=> ?_));refine U ?_;refine .rt hK func196 results196 [] ?_;exact fun H' hs=> YA.of (dec:=dec) hs (i:=0) rfl ⟨rfl,g6 w wt ws⟩
  ·refine U7 ?_;refine Tc.via (fun R' L'=> ∃(lm1:Nat) (x:List Int),lm1<=lm/\lA a' b' u x/\jC [(0,.slice (some ⟨sb,0,none⟩) n cap),(1,.int .i64 (a':Nat)),(2,.int .i64 (b':Nat)),(3,.int .i64 (lm1:Nat)),(8,.bool wb),(9,.bool wp),(10,.int .i64 (m:Nat))] R'/\L'= [(sb,true,.cells ⟨(nA dec x)++jj⟩ 9 (0,0))]) ?_ (fun fin=> ?_)
   ·rintro R' _ ⟨lm1,x,o1,o2,tK,rfl⟩;refine Tc.ZC ?_ tK (List.Sublist.refl _);have D1:=o2.len;refine U5 ?_;refine .e (Or.PB aDb (fun _=> []) (fun s:Nat×Nat=> a'<=s.1/\s.1<b'/\s.2<=2) rfl rfl rfl rfl rfl dE (fun _=> by simp) (fun H hs=> .h (xN M H dec sb true x jj n cap a' b' oM (FI.WC o2) h40 oM oM (hs.get (i:=0) rfl))) (fun⟨p,h⟩ ⟨v1,v2,v3⟩=> ?_));refine U6 ?_;simp only at v1 v2 v3;refine U ?_;refine Tc.via (fun R' L'=> ∃(p:Nat) (y:List Int),a'<=p/\p<b'/\lA a' b' x y/\(∃h:Nat,jC [(0,.slice (some ⟨sb,0,none⟩) n cap),(1,.int .i64 (a':Nat)),(2,.int .i64 (b':Nat)),(3,.int .i64 (lm1:Nat)),(8,.bool wb),(9,.bool wp),(10,.int .i64 (m:Nat)),(11,.int .i64 (p:Nat)),(12,.int .i64 (h:Nat))] R')/\L'= [(sb,true,.cells ⟨(nA dec y)++jj⟩ 9 (0,0))]) ?_ (fun fin=> ?_)
    ·clear v1 v2 v3;rintro R' _ ⟨p,y,v1,v2,o3,⟨h,tK⟩,rfl⟩;refine Tc.ZC ?_ tK (List.Sublist.refl _);have hyl:=o3.len;refine U ?_;refine Tc.via (fun R' L'=> ∃y':List Int,lA a' b' y y'/\jC [(0,.slice (some ⟨sb,0,none⟩) n cap),(1,.int .i64 (a':Nat)),(2,.int .i64 (b':Nat)),(3,.int .i64 (lm1:Nat)),(8,.bool wb),(9,.bool wp),(10,.int .i64 (m:Nat)),(11,.int .i64 (p:Nat))] R'/\L'= [(sb,true,.cells ⟨(nA dec y')++jj⟩ 9 (0,0))]) ?_ (fun fin=> ?_)
     ·rintro R' _ ⟨y,o4,tK,rfl⟩;refine Tc.ZC ?_ tK (List.Sublist.refl _);clear tK;replace o3:=o3.trans o4;have hyl:=o3.len;have hEy:=FI.WC (o2.trans o3);refine U ?_;have g5y:=(g5.trans ((o2.trans o3).wide g1 g3))
      have gy:wH l a b a' b' y:=g6.jH (o2.trans o3);have ay:eE a' b' y:=g7.jH (o2.trans o3) oM;refine Tc.via (fun R' L'=> jC [(0,.slice (some ⟨sb,0,none⟩) n cap),(1,.int .i64 (a':Nat)),(2,.int .i64 (b':Nat)),(3,.int .i64 (lm1:Nat)),(8,.bool wb),(9,.bool wp),(10,.int .i64 (m:Nat)),(11,.int .i64 (p:Nat))] R'/\L'= [(sb,true,.cells ⟨(nA dec y)++jj⟩ 9 (0,0))]) ?_ (fun fin=> ?_)
      ·rintro R' _ ⟨tK,rfl⟩;refine Tc.ZC ?_ tK (List.Sublist.refl _);clear tK;refine U6 ?_;refine .e (Or.GR (dec:=dec) (l:=y) 0 (fun s:Nat×Bool×List Int=> .tuple ⟨[.int .i64 (s.1:Nat),.bool s.2.1]⟩) (fun s=> s.2.2) (fun s=> lA a' b' y s.2.2/\Part a' b' s.1 s.2.2) rfl rfl rfl rfl rfl dE rfl (fun H hs=> .h (yR M H dec sb y jj n cap a' b' p oM hEy oM oM oM (hs.get (i:=0) rfl))) (fun⟨LI,al,w⟩ ⟨k1,k2⟩=> ?_));refine U6 ?_;simp only at k1 k2;have k3:=k2.aj;have k4:=k2.jb;have Z0:=k1.len;have QU:=hEy.WC k1;have gw:wH l a b a' b' w:=gy.jH k1;have aw:eE a' b' w:=ay.jH k1 oM;have e1:((LI:Nat):Int)-((a':Nat):Int)=((LI-a':Nat):Int):=by omega
       have e2:((b':Nat):Int)-((LI:Nat):Int)=((b'-LI:Nat):Int):=by omega
       have hq:mA .quo .i64 ((m:Nat):Int) 8=some (.int .i64 ((m/8:Nat):Int)):=by
        rw[tO oM oM oM]
        congr 2
       have hgt:∀x y:Nat,mA .geq .i64 ((x:Nat):Int) ((y:Nat):Int)=some (.bool (decide (y<=x))):=fun x y=> by
        by_cases c:y<=x
        ·rw[decide_eq_true c];exact jJ oM
        ·rw[decide_eq_false c];exact SH oM
       have M8:=hgt (LI-a') (m/8);have dP:=hgt (b'-LI) (m/8);refine aP ?_;rw[e1,e2];refine U7 ?_;by_cases c5:LI-a'<b'-LI
       ·refine DD ?_;refine .i ?_ (z:=M8);refine U8 ?_;refine .e (Or.lE (dec:=dec) (l:=w) 0 (fun v m=> v=.tuple ⟨[]⟩/\lA a' LI w m/\pE a' LI m) rfl rfl rfl rfl rfl dE rfl (fun H hs=> .h (ihd H w a' LI lm1 oM oM oM oM oM QU (aw.left oM) (hs.get (i:=0) rfl))) (fun v x ⟨_,xt,xs⟩=> ?_));refine U7 ?_;have hxn:=xt.len;have r1:lA a b l x:=g5y.trans ((k1.trans (xt.wide oM oM)).wide oM oM);have r2:wH l a b (LI+1) b' x:=gw.right k2 oM xt xs;have r3:eE (LI+1) b' x:=k2.ahead xt;have r4:lm1<=lim:=by omega
        have r5:a<=LI+1:=by omega
        have r6:LI+1<=b':=by omega
        exact Tc.db (ih ⟨(LI+1,b',lm1,decide (m/8<=LI-a'),al,x),r5,r6,g3,r4,r1,r2,r3⟩ (by simp only;omega))
       ·refine DD ?_;refine .i ?_ (z:=dP);refine U9 ?_;refine .e (Or.lE (dec:=dec) (l:=w) 0 (fun v m=> v=.tuple ⟨[]⟩/\lA (LI+1) b' w m/\pE (LI+1) b' m) rfl rfl rfl rfl rfl dE rfl (fun H hs=> .h (ihd H w (LI+1) b' lm1 oM oM oM oM oM QU (k2.ahead (lA.refl a' LI w)) (hs.get (i:=0) rfl))) (fun v x ⟨_,xt,xs⟩=> ?_));refine U6 ?_;have r1:lA a b l x:=g5y.trans ((k1.trans (xt.wide oM oM)).wide oM oM);have r2:wH l a b a' LI x:=gw.left k2 oM xt xs;have r3:eE a' LI x:=(aw.left oM).keep xt;have r4:lm1<=lim:=by omega
        have r5:a'<=LI:=by omega
        have r6:LI<=b:=by omega
        exact Tc.db (ih ⟨(a',LI,lm1,decide (m/8<=b'-LI),al,x),g1,r5,r6,r4,r1,r2,r3⟩ (by simp only;omega))
      ·by_cases c3:a'=0
       ·subst c3;refine U ?_;refine Tc.dr [] [] mixed rfl ?_;refine V3 0 ?_;refine .nw 3 ?_;refine .nw 4 ?_;refine .nw 5 ?_;refine .nw 6 ?_;refine .nw 7 ?_;refine .nw 8 ?_;refine .nw 9 ?_;refine .nw 10 ?_;refine .nw 11 ?_;refine .nw 12 ?_;refine .nw 13 ?_;refine .nn 14 ?_;refine .dn ?_;refine U2 ?_;exact Tc.db (fin [(0,.slice (some ⟨sb,0,none⟩) n cap),(1,.int .i64 (0:Nat)),(2,.int .i64 (b':Nat)),(3,.int .i64 (lm1:Nat)),(8,.bool wb),(9,.bool wp),(10,.int .i64 (m:Nat)),(11,.int .i64 (p:Nat))] [(sb,true,.cells ⟨(nA dec y)++jj⟩ 9 (0,0))] ⟨⟨rfl,rfl,rfl,rfl,rfl,rfl,rfl,rfl,trivial⟩,rfl⟩)
       ·have ea:((a':Nat):Int)-1=((a'-1:Nat):Int):=by omega
        have y1:=qA (dec:=dec) (m:=y) (j:=jj) (k:=((a':Nat):Int)-1) (p:=a'-1) oM oM;have y2:=qA (dec:=dec) (m:=y) (j:=jj) (k:=(p:Nat)) (p:=p) rfl oM;by_cases xB:tA y (a'-1)<tA y p
        ·refine U ?_;refine Tc.dr [] [] mixed rfl ?_;refine SO 0 ?_;refine .z 12 rfl (pA.tk fun H hs=> VB M H hEy (rA oM) (rA oM) true (decide_eq_true xB)) ?_;refine V2 13 ?_;refine .dn ?_;refine U2 ?_;exact Tc.db (fin [(0,.slice (some ⟨sb,0,none⟩) n cap),(1,.int .i64 (a':Nat)),(2,.int .i64 (b':Nat)),(3,.int .i64 (lm1:Nat)),(8,.bool wb),(9,.bool wp),(10,.int .i64 (m:Nat)),(11,.int .i64 (p:Nat))] [(sb,true,.cells ⟨(nA dec y)++jj⟩ 9 (0,0))] ⟨⟨rfl,rfl,rfl,rfl,rfl,rfl,rfl,rfl,trivial⟩,rfl⟩)
        ·have SS:∀i,a'<=i->i<b'->tA y p<=tA y i:=fun i q1 q2=> by
          rcases ay with h0|h0
          ·exact absurd h0 c3
          ·have:=h0 i q1 q2;omega
         refine U ?_;refine Tc.dr [] [] mixed rfl ?_;refine SO 0 ?_;refine .z 12 rfl (pA.tk fun H hs=> VB M H hEy (rA oM) (rA oM) false (decide_eq_false xB)) ?_;refine V2 13 ?_;refine .dn ?_;refine U2 ?_;clear fin;refine U5 ?_;refine .e (Or.GR (dec:=dec) (l:=y) 0 (fun s:Nat×List Int=> .int .i64 (s.1:Nat)) (fun s=> s.2) (fun s=> lA a' b' y s.2/\iL a' b' s.1 (tA y p) s.2) rfl rfl rfl rfl rfl dE rfl (fun H hs=> .h (mY M H dec sb y jj n cap a' b' p oM hEy oM h40 oM (hs.get (i:=0) rfl))) (fun⟨LI,w⟩ ⟨k1,k2⟩=> ?_));refine U2 ?_;simp only at k1 k2;have k3:=k2.ac;have k4:=k2.cb;have Z0:=k1.len;refine U6 ?_;have r1:lA a b l w:=g5y.trans (k1.wide oM oM);have r2:wH l a b LI b' w:=gy.eq k2 k1 (k1.all oM (P:=fun z=> tA y p<=z) SS) oM;have r3:eE LI b' w:=k2.ahead;have r4:lm1<=lim:=by omega
         have r5:a<=LI:=by omega
         exact Tc.db (ih ⟨(LI,b',lm1,wb,wp,w),r5,k4,g3,r4,r1,r2,r3⟩ (by simp only;omega))
     ·refine U ?_;by_cases c4:wb=true/\wp=true/\h=1
      ·obtain⟨rfl,rfl,rfl⟩:=c4;refine aP ?_;refine .e (Or.GR (dec:=dec) (l:=y) 0 (fun s:Bool×List Int=> .bool s.1) (fun s=> s.2) (fun s=> lA a' b' y s.2/\(s.1=true->pE a' b' s.2)) rfl rfl rfl rfl rfl dE rfl (fun H hs=> .h (bA.mono (BV M H dec sb y jj n cap a' b' oM (FI.WC (o2.trans o3)) oM h40 oM (g7.jH (o2.trans o3) oM) (hs.get (i:=0) rfl)) (fun v H' ⟨q1,m',⟨t',q2,q3,q4⟩,q5⟩=> ⟨q1,m',⟨(t',m'),q2,rfl,q3,q4⟩,q5⟩))) (fun⟨t,y2⟩ ⟨ht,lU⟩=> ?_));refine U ?_;simp only at ht lU;cases t
       ·refine U2 ?_;exact Tc.db (fin [(0,.slice (some ⟨sb,0,none⟩) n cap),(1,.int .i64 (a':Nat)),(2,.int .i64 (b':Nat)),(3,.int .i64 (lm1:Nat)),(8,.bool true),(9,.bool true),(10,.int .i64 (m:Nat)),(11,.int .i64 (p:Nat))] [(sb,true,.cells ⟨(nA dec y2)++jj⟩ 9 (0,0))] ⟨y2,ht,⟨rfl,rfl,rfl,rfl,rfl,rfl,rfl,rfl,trivial⟩,rfl⟩)
       ·have OA:=(g6.jH (o2.trans o3)) y2 ht (lU rfl);refine U ?_;refine .rt hK func196 results196 [] ?_;exact fun H' hs=> YA.of (dec:=dec) hs (i:=0) rfl ⟨rfl,OA⟩
      ·have c5:wb=true->wp=true->h≠1:=fun e1 e2 e3=> c4 ⟨e1,e2,e3⟩;cases wb
       ·cases wp
        ·refine PF ?_;exact Tc.db (fin [(0,.slice (some ⟨sb,0,none⟩) n cap),(1,.int .i64 (a':Nat)),(2,.int .i64 (b':Nat)),(3,.int .i64 (lm1:Nat)),(8,.bool false),(9,.bool false),(10,.int .i64 (m:Nat)),(11,.int .i64 (p:Nat))] [(sb,true,.cells ⟨(nA dec y)++jj⟩ 9 (0,0))] ⟨y,lA.refl ..,⟨rfl,rfl,rfl,rfl,rfl,rfl,rfl,rfl,trivial⟩,rfl⟩)
        ·refine PF ?_;exact Tc.db (fin [(0,.slice (some ⟨sb,0,none⟩) n cap),(1,.int .i64 (a':Nat)),(2,.int .i64 (b':Nat)),(3,.int .i64 (lm1:Nat)),(8,.bool false),(9,.bool true),(10,.int .i64 (m:Nat)),(11,.int .i64 (p:Nat))] [(sb,true,.cells ⟨(nA dec y)++jj⟩ 9 (0,0))] ⟨y,lA.refl ..,⟨rfl,rfl,rfl,rfl,rfl,rfl,rfl,rfl,trivial⟩,rfl⟩)
       ·cases wp
        ·refine PF ?_;exact Tc.db (fin [(0,.slice (some ⟨sb,0,none⟩) n cap),(1,.int .i64 (a':Nat)),(2,.int .i64 (b':Nat)),(3,.int .i64 (lm1:Nat)),(8,.bool true),(9,.bool false),(10,.int .i64 (m:Nat)),(11,.int .i64 (p:Nat))] [(sb,true,.cells ⟨(nA dec y)++jj⟩ 9 (0,0))] ⟨y,lA.refl ..,⟨rfl,rfl,rfl,rfl,rfl,rfl,rfl,rfl,trivial⟩,rfl⟩)
        ·have c6:=c5 rfl rfl;refine PF ?_;exact Tc.db (fin [(0,.slice (some ⟨sb,0,none⟩) n cap),(1,.int .i64 (a':Nat)),(2,.int .i64 (b':Nat)),(3,.int .i64 (lm1:Nat)),(8,.bool true),(9,.bool true),(10,.int .i64 (m:Nat)),(11,.int .i64 (p:Nat))] [(sb,true,.cells ⟨(nA dec y)++jj⟩ 9 (0,0))] ⟨y,lA.refl ..,⟨rfl,rfl,rfl,rfl,rfl,rfl,rfl,rfl,trivial⟩,rfl⟩)
    ·refine U ?_;by_cases c4:h=2
     ·have e1:((b':Nat):Int)-1-(((p:Nat):Int)-((a':Nat):Int))=((b'-1-(p-a'):Nat):Int):=by omega
      refine DD ?_;refine .e (Or.lE (dec:=dec) (l:=x) 0 (fun v m=> v=.tuple ⟨[]⟩/\lA a' b' x m) rfl rfl rfl rfl rfl dE rfl (fun H hs=> .h (JV M H dec sb x jj n cap a' b' oM oM oM oM (hs.get (i:=0) rfl))) (fun v y ⟨_,yt⟩=> ?_));refine qE ?_;rw[e1];refine U3 ?_;exact Tc.db (fin [(0,.slice (some ⟨sb,0,none⟩) n cap),(1,.int .i64 (a':Nat)),(2,.int .i64 (b':Nat)),(3,.int .i64 (lm1:Nat)),(8,.bool wb),(9,.bool wp),(10,.int .i64 (m:Nat)),(11,.int .i64 (b'-1-(p-a'):Nat)),(12,.int .i64 (1:Nat))] [(sb,true,.cells ⟨(nA dec y)++jj⟩ 9 (0,0))] ⟨b'-1-(p-a'),y,oM,oM,yt,⟨1,rfl,rfl,rfl,rfl,rfl,rfl,rfl,rfl,rfl,trivial⟩,rfl⟩)
     ·refine U6 ?_;exact Tc.db (fin [(0,.slice (some ⟨sb,0,none⟩) n cap),(1,.int .i64 (a':Nat)),(2,.int .i64 (b':Nat)),(3,.int .i64 (lm1:Nat)),(8,.bool wb),(9,.bool wp),(10,.int .i64 (m:Nat)),(11,.int .i64 (p:Nat)),(12,.int .i64 (h:Nat))] [(sb,true,.cells ⟨(nA dec x)++jj⟩ 9 (0,0))] ⟨p,x,oM,oM,lA.refl ..,⟨h,rfl,rfl,rfl,rfl,rfl,rfl,rfl,rfl,rfl,trivial⟩,rfl⟩)
   ·refine U ?_;cases wb
    ·have e1:((lm:Nat):Int)-1=((lm-1:Nat):Int):=by omega
     refine DD ?_;refine .e (Or.lE (dec:=dec) (l:=u) 0 (fun v m=> v=.tuple ⟨[]⟩/\lA a' b' u m) rfl rfl rfl rfl rfl dE rfl (fun H hs=> .h (oZ M H dec sb u jj n cap a' b' oM oM h40 oM (hs.get (i:=0) rfl))) (fun v x ⟨_,xt⟩=> ?_));refine U6 ?_;rw[e1];exact Tc.db (fin [(0,.slice (some ⟨sb,0,none⟩) n cap),(1,.int .i64 (a':Nat)),(2,.int .i64 (b':Nat)),(3,.int .i64 (lm-1:Nat)),(8,.bool false),(9,.bool wp),(10,.int .i64 (m:Nat))] [(sb,true,.cells ⟨(nA dec x)++jj⟩ 9 (0,0))] ⟨lm-1,x,oM,xt,⟨rfl,rfl,rfl,rfl,rfl,rfl,rfl,trivial⟩,rfl⟩)
    ·refine U6 ?_;exact Tc.db (fin [(0,.slice (some ⟨sb,0,none⟩) n cap),(1,.int .i64 (a':Nat)),(2,.int .i64 (b':Nat)),(3,.int .i64 (lm:Nat)),(8,.bool true),(9,.bool wp),(10,.int .i64 (m:Nat))] [(sb,true,.cells ⟨(nA dec u)++jj⟩ 9 (0,0))] ⟨lm,u,Nat.le_refl _,lA.refl ..,⟨rfl,rfl,rfl,rfl,rfl,rfl,rfl,trivial⟩,rfl⟩)
end
set_option maxHeartbeats 8000000
section
variable(M:Md prog)(H:View)
theorem R5(dec:Int->List UInt8)(sb:Nat)(l:List Int)(jj:List Value)(n cap:Nat)(hn:n=l.length)(hE:HM dec l)(TO:n<=100000000)(hS:H sb=some (true,.cells ⟨(nA dec l)++jj⟩ 9 (0,0))):
  bA M 120 #[.slice (some ⟨sb,0,none⟩) n cap] H (YA dec H sb jj (fun v m=> v=.tuple ⟨[]⟩/\lA 0 n l m/\pE 0 n m)):=by
 have hw:=u64_in (x:=n) oM;have hb:bl n<=32:=by
  by_cases h0:0<n
  ·have h1:=gK h0;have h3:2 ^ bl n<2 ^ 32:=by omega
   have:=(Nat.pow_lt_pow_iff_right (a:=2) dE).1 h3;omega
  ·unfold bl;rw[if_pos oM];omega
 refine bA.enter (vs:= [.slice (some ⟨sb,0,none⟩) n cap]) func120 rfl ntmps120 (Nat.le_of_ble_eq_true rfl) (iA.pull hS) fun St c cs hK=> ?_;refine qE ?_;refine .cl (fun H hs=> XY M H n oM) ?_;refine .e (Or.lE (dec:=dec) (l:=l) 0 (fun v m=> v=.tuple ⟨[]⟩/\lA 0 n l m/\pE 0 n m) rfl rfl rfl rfl rfl dE rfl (fun H hs=> .h (aAL M dec sb jj n cap TO (n+1) H l 0 n (bl n) oM hn oM (Nat.le_refl _) oM hE (.inl rfl) (hs.get (i:=0) rfl))) (fun v m hm=> ?_));refine U ?_;obtain⟨rfl,ht,AH⟩:=hm;refine .ov hK func120 results120 [] ?_;exact fun H' hs=> YA.of hs (i:=0) rfl ⟨rfl,ht,AH⟩
end
theorem Or.N3 {dec:Int->List UInt8}{M:Md prog}{n:Nat}{H₀:View}{R:Rg}{L1:Bl}{o:Oper}{K:Rg->Bl->Prop}{cl:Go.Call}{x:Operand}{fv:Value}{d:Nat}(g:Gl 9 1)(u:List Int)(hg:g.l=(nA dec u))(hE:HM dec u)(TO:g.n<=100000000)
  (kA:o.op=.call cl) (iB:cl.callee=.value x) (hx:HA R x=some fv) (has:VC R cl.args.toList=some [g.val]) (hd:o.dst=some d) (hn:d<n)
  (hc:∀(H:View) (Q:Value->View->Prop),bA M 120 #[g.val] H Q->yB M fv [g.val] H Q)
  (hK:∀(g':Gl 9 1) (m:List Int),g'.val=g.val->g'.n=g.n->g'.blk=g.blk->g'.l=(nA dec m)->lA 0 g.n u m->pE 0 g.n m->K ((d,.tuple ⟨[]⟩)::R) (L1++g'.bl)):Or M n H₀ R (L1++g.bl) o K:=by
 have nM:u.length=g.n:=by have:=g.hl;rw[hg,GB] at this;omega
 cases hb:g.blk with
 | none=>
  have aC:=g.h0 hb;have W6:=g.hc;have h0:g.n=0:=by omega
  have EJ:g.bl= []:=by unfold Gl.bl;rw[hb]
  have hv:g.val=.slice none 0 g.cap:=by unfold Gl.val;rw[hb,h0];rfl
  refine Or.PB (fun _:Unit=> .tuple ⟨[]⟩) (fun _=> []) (fun _=> True) kA iB hx has hd hn (fun _=> by simp) (fun H hs=> hc H _ ?_) (fun _ _=> ?_)
  ·rw[hv];exact bA.mono (yP M H g.cap) (fun v H' ⟨h1,h2⟩=> ⟨h1,(),h2,trivial,by simp⟩)
  ·rw[List.append_nil];exact hK g u rfl rfl rfl hg (lA.refl _ _ _) (fun p q h1 h2 h3=> by omega)
 | some b=>
  have EJ:g.bl= [(b,true,.cells ⟨(nA dec u)++g.kB⟩ 9 (0,0))]:=by unfold Gl.bl;rw[hb,hg]
  have hv:g.val=.slice (some ⟨b,0,none⟩) g.n g.cap:=by unfold Gl.val;rw[hb];rfl
  rw[EJ];refine Or.lE (dec:=dec) (l:=u) L1.length (fun v m=> v=.tuple ⟨[]⟩/\lA 0 g.n u m/\pE 0 g.n m) kA iB hx has hd hn (by rw[List.getElem?_append_right (Nat.le_refl _),Nat.sub_self];rfl)
   (fun H hs=> hc H _ ?_) (fun v m ⟨h1,h2,h3⟩=> ?_)
  ·rw[hv];exact R5 M H dec b u g.kB g.n g.cap nM.symm hE TO (hs.get (i:=L1.length) (by rw[List.getElem?_append_right (Nat.le_refl _),Nat.sub_self];rfl))
  ·subst h1;have QN:m.length=g.n:=by rw[h2.len];exact nM
   have:=hK (Gl.sQ g (nA dec m) (by rw[GB];exact QN)) m rfl rfl rfl rfl h2 h3;have j0:(Gl.sQ g (nA dec m) (by rw[GB];exact QN)).bl= [(b,true,.cells ⟨(nA dec m)++g.kB⟩ 9 (0,0))]:=by
    unfold Gl.bl Gl.sQ;simp only[hb]
   rw[j0] at this;rw[List.set_append_right _ _ (Nat.le_refl _),Nat.sub_self];exact this
set_option maxHeartbeats 16000000
def pH:List UInt8:= [49,50,51,52,53,54,55,56,57]
def ME(most n:Nat):List (List UInt8):=(List.range n).flatMap fun i=> mL (pH.take most) (i+1)
theorem zJ(most n:Nat):ME most (n+1)=ME most n++mL (pH.take most) (n+1):=by
 unfold ME;rw[List.range_succ,List.flatMap_append];simp
theorem bM(dg:List UInt8):∀(d:Nat) (s:List UInt8),(EC dg d s).length=dg.length ^ d
 | 0,_=> rfl
 | d+1,s=> by
  unfold EC;rw[List.length_flatMap];have:∀x∈dg,(fun x=> (EC dg d (s++[x])).length) x=(fun _=> dg.length ^ d) x:=fun x _=> bM dg d _;rw[List.map_congr_left this,List.map_const',List.sum_replicate_nat,Nat.pow_succ,Nat.mul_comm]
theorem nS {most n:Nat}(hm:most<=3)(hn:n<=3):(mL (pH.take most) n).length<=27:=by
 unfold mL;rw[bM];have hl:(pH.take most).length<=3:=by rw[List.length_take];omega
 calc (pH.take most).length ^ n<=3 ^ n:=Nat.pow_le_pow_left hl n
  _<=3 ^ 3:=Nat.pow_le_pow_right dE hn
  _=27:=by decide
theorem GP {most:Nat}(hm:most<=3):∀n,n<=3->(ME most n).length<=27*n
 | 0,_=> Nat.le_refl _
 | n+1,h=> by
  rw[zJ,List.length_append];have h1:=GP hm n oM;have h2:=nS hm h;omega
theorem MP(most:Nat):(pH.take most).all CD=true:=by
 have h:pH.all CD=true:=by decide +kernel
 exact List.all_eq_true.2 fun x hx=> List.all_eq_true.1 h x (List.mem_of_mem_take hx)
theorem eY {most n:Nat}{s:List UInt8}(h:s∈ME most n)(hn:n<=3):s.all CD=true/\s.length<=3:=by
 obtain⟨i,hi,h2⟩:=List.mem_flatMap.1 h;obtain⟨h3,h4⟩:=lT h2;have:=List.mem_range.1 hi;exact⟨List.all_eq_true.2 fun y hy=> List.all_eq_true.1 (MP most) y (h4 y hy),oM⟩
theorem aDa(a b c d e f:Nat×Bool×Obj)(B:Bl):(a::b::c::d::e::f::B).Perm (c::d::e::a::b::f::B):=by
 have h1:([a,b]++c::(d::e::f::B)).Perm (c::([a,b]++d::e::f::B)):=List.perm_middle;have h2:([a,b]++d::(e::f::B)).Perm (d::([a,b]++e::f::B)):=List.perm_middle;have h3:([a,b]++e::(f::B)).Perm (e::([a,b]++f::B)):=List.perm_middle;exact h1.trans (.cons _ (h2.trans (.cons _ h3)))
def oH(w:Nat->Int)(nw digits most:Nat):kG:=HE (RK (ME most digits)) w nw [] 0 ⟨false,0,[]⟩
def BZ(num:Value)(t a:Int):Value:=.tuple ⟨[num,.int .i64 t,.int .i64 a]⟩
section
variable(M:Md prog)(H:View)
theorem nU(A:Option Addr)(nw wc:Nat)(w:Nat->Int)(hA:pB H A nw w)(digits most:Nat)(h0:1<=(nw:Int)/\(nw:Int)<=3)(hw:(jA (fun j=> !oE (w j)) nw).isSome=false)(hd:1<=((digits:Nat):Int)/\((digits:Nat):Int)<=3)(hm:1<=((most:Nat):Int)/\((most:Nat):Int)<=3):
  bA M 58 #[.slice A nw wc,.int .i64 (digits:Nat),.int .i64 (most:Nat)] H (fun v H'=> H.le H'/\∃a n c',v=BZ (.slice a n c') (oH w nw digits most).total (oH w nw digits most).al/\n=(oH w nw digits most).cE.length/\ZA H' 1 (.slice a n c') n (VA (oH w nw digits most).cE)/\n<=c'):=by
 have hc:=fun(H':View) (h':H.le H')=> ZR M H' A nw wc w (hA.le h') oM (.func (.func 140) #[] #[]) (fun j=> !oE (w j)) (fun j _ H'' _=> .h (eU M H'' (w j)));have aEz:∀i,i<nw->0<=w i/\w i<=99:=fun i hi=> by
  have h1:jA (fun j=> !oE (w j)) nw=none:=by
   cases hz:jA (fun j=> !oE (w j)) nw with
   | none=> rfl
   | some y=> rw[hz] at hw;cases hw
  have h2:=(KB _).1 h1 i hi;unfold oE at h2;simpa using h2
 refine .en func58 ntmps58 fun St c cs hK=> ?_;refine U2 ?_;refine .bo fun b3=> ?_;refine .al fun b6=> ?_;refine .al fun b7=> ?_;refine .al fun b8=> ?_;refine U7 ?_;refine .cl (fun H hs=> uA M H (nw:Nat) 1 3 true (decide_eq_true h0)) ?_;refine U8 ?_;refine .cl (fun H hs=> OF (hc H hs.base) hw) ?_;refine U6 ?_;refine .cl (fun H hs=> uA M H (digits:Nat) 1 3 true (decide_eq_true hd)) ?_;refine U6 ?_;refine .cl (fun H hs=> uA M H (most:Nat) 1 3 true (decide_eq_true hm)) ?_;refine U8 ?_;refine .al fun b9=> ?_;refine U8 ?_;refine Tc.db (Tc.oJ (σ:= { y:View×Nat×Gl 9 1//H.le y.1/\y.2.1<=digits/\y.2.2.l=VA (ME most y.2.1)/\y.2.2.n=(ME most y.2.1).length })
  (fun y=> (y.1.1,[(2,.int .i64 (most:Nat)),(3,.pointer (some ⟨b3,0,none⟩)),(6,.pointer (some ⟨b6,0,none⟩)),(7,.pointer (some ⟨b7,0,none⟩)),(8,.pointer (some ⟨b8,0,none⟩)),(9,.pointer (some ⟨b9,0,none⟩)),(26,.int .i64 (digits:Nat)),(27,.int .i64 (y.1.2.1:Nat))],
   [(b9,true,.cells ⟨[y.1.2.2.val]⟩ 107 (0,0)),(b8,true,.cells ⟨[.int .i64 0]⟩ 25 (0,0)),(b7,true,.cells ⟨[.int .i64 0]⟩ 3 (0,0)),(b6,true,.cells ⟨[.slice none 0 0]⟩ 107 (0,0)),(b3,true,.cells ⟨[.slice A nw wc]⟩ 24 (0,0))]++y.1.2.2.bl)) (fun y=> digits-y.1.2.1) ?_ ⟨(H,0,Gl.nil 9 1),View.le_refl _,Nat.zero_le _,rfl,rfl⟩)
 rintro⟨⟨H₁,i,g⟩,g1,g2,g3,g4⟩ ih;simp only at g1 g2 g3 g4;show Tc M St _ _ H₁ _ [(2,.int .i64 (most:Nat)),(3,.pointer (some ⟨b3,0,none⟩)),(6,.pointer (some ⟨b6,0,none⟩)),(7,.pointer (some ⟨b7,0,none⟩)),(8,.pointer (some ⟨b8,0,none⟩)),(9,.pointer (some ⟨b9,0,none⟩)),(26,.int .i64 (digits:Nat)),(27,.int .i64 (i:Nat))]
   ([(b9,true,.cells ⟨[g.val]⟩ 107 (0,0)),(b8,true,.cells ⟨[.int .i64 0]⟩ 25 (0,0)),(b7,true,.cells ⟨[.int .i64 0]⟩ 3 (0,0)),(b6,true,.cells ⟨[.slice none 0 0]⟩ 107 (0,0)),(b3,true,.cells ⟨[.slice A nw wc]⟩ 24 (0,0))]++g.bl) _ _
 have iB:=GP (most:=most) oM i oM;by_cases c1:i=digits
 ·subst c1;refine DD ?_;refine .e (Or.N3 (dec:=lK (ME most i)) (L1:= [(b9,true,.cells ⟨[g.val]⟩ 107 (0,0)),(b8,true,.cells ⟨[.int .i64 0]⟩ 25 (0,0)),(b7,true,.cells ⟨[.int .i64 0]⟩ 3 (0,0)),(b6,true,.cells ⟨[.slice none 0 0]⟩ 107 (0,0)),(b3,true,.cells ⟨[.slice A nw wc]⟩ 24 (0,0))]) g (XE (ME most i)) (g3.trans (xM _).symm) (BG _) oM rfl rfl rfl rfl rfl dE (fun H Q h=> .h h) (fun g' m u5 dN jM YU ht hs'=> ?_));rw[<-u5];have hso:=MQ g4 ht hs';have lM:g'.l=VA (RK (ME most i)):=by rw[YU,jQ,hso];rfl
  have U0:(RK (ME most i)).length=(ME most i).length:=(iH _).length_eq;clear YU ht hs' hso u5;refine U7 ?_;refine .al fun b11=> ?_;refine U9 ?_;refine To.lift (L₂:= []) (L₁:= [(b11,true,.cells ⟨[yU b8 b7 b3 b6 b9 b11]⟩ 249 (0,0)),(b9,true,.cells ⟨[g'.val]⟩ 107 (0,0)),(b8,true,.cells ⟨[.int .i64 9]⟩ 25 (0,0)),(b7,true,.cells ⟨[.int .i64 0]⟩ 3 (0,0)),(b6,true,.cells ⟨[.slice none 0 0]⟩ 107 (0,0)),(b3,true,.cells ⟨[.slice A nw wc]⟩ 24 (0,0))]++g'.bl) rfl (fun Hx hx=> ?_);obtain⟨H',h1,h2⟩:=iA.PD (B:= [(b8,true,.cells ⟨[.int .i64 9]⟩ 25 (0,0)),(b7,true,.cells ⟨[.int .i64 0]⟩ 3 (0,0)),(b6,true,.cells ⟨[.slice none 0 0]⟩ 107 (0,0))]) (L:= [(b11,true,.cells ⟨[yU b8 b7 b3 b6 b9 b11]⟩ 249 (0,0)),(b9,true,.cells ⟨[g'.val]⟩ 107 (0,0)),(b3,true,.cells ⟨[.slice A nw wc]⟩ 24 (0,0))]++g'.bl) (hx.perm (by
   simp only[List.cons_append,List.nil_append];exact(aDa _ _ _ _ _ _ _).symm))
  have aC:YR (RK (ME most i)) w nw b8 b7 b3 b6 b9 b11 (g'.blk.map fun b=> ⟨b,0,none⟩) A g'.cap wc H':=
   ⟨⟨true,h2.get (i:=0) rfl⟩,⟨true,by have h3:=h2.get (i:=1) rfl;rw[U0,<-g4,<-dN];exact h3⟩,⟨true,h2.get (i:=2) rfl⟩,by
    have h3:=SI (g0:=g') g' (H:=H') (fun x hx=> h2.at_ x (List.mem_append_right _ hx)) lM rfl rfl;rw[dN,g4,<-U0] at h3;exact h3,(hA.le g1).le h2.base⟩
  refine To.uB rfl rfl rfl rfl rfl rfl dE (yB.of (first:= []) (captured:= [_,_,_,_,_,_]) uS rfl (B7 M (RK (ME most i)) w nw b8 b7 b3 b6 b9 b11 (g'.blk.map fun b=> ⟨b,0,none⟩) A g'.cap wc oM (by rw[U0];omega) (fun s hs=> eY ((iH _).mem_iff.1 hs) oM) aEz nw (Gl.nil 9 1) [] 0 ⟨false,0,[]⟩ none 0 0 H' Hx rfl (Nat.zero_add _) dE aC rfl ⟨⟨⟨_,_,rfl⟩,rfl,.inl ⟨none,0,rfl,rfl⟩⟩,Nat.le_refl 0⟩ h1)) (fun v H₃ hv=> ?_);obtain⟨_,H₄,g4',a4,n4,c4,r1,r2,r3,r4,r5⟩:=hv;refine To.expand r2 ?_;unfold sY;refine U2 ?_;refine Tc.dr [] [] mixed rfl ?_;refine V3 0 ?_;refine .ea 3 rfl (.st 2 (zz:=⟨S2.mk sL (.inr sL),?_⟩));refine .ea 4 rfl (.st 1 (zz:=⟨S2.mk sL (.inr sL),?_⟩));refine .ea 5 rfl (.st 0 (zz:=⟨S2.mk sL (.inr sL),?_⟩));refine .dn ?_;refine .rt hK func58 results58 [_,_,_] ?_;exact fun H' hs=> ⟨View.le_trans g1 (View.le_trans h2.base (View.le_trans r1 hs.base)),a4,n4,c4,rfl,r4,r5.1.mono hs.base,r5.2⟩
 ·have c2:i<digits:=by omega
  have R4:=nS (most:=most) (n:=i+1) oM oM;have Y6:([49,50,51,52,53,54,55,56,57]:List UInt8).length=9:=rfl;have SP:(pH.take most).length<=1000:=by rw[List.length_take];omega
  refine vF ?_;refine Tc.drT [7] [6] [0] 5 mixed rfl ?_;refine .oo 0 ?_;refine .oo 1 ?_;refine .oo 2 ?_;refine .oo 3 ?_;refine Ta.SV 4 kR rfl rfl dE rfl rfl (pA.take (pA.kD (E:=en) rfl rfl rfl rfl rfl rfl oM oM oM)) ?_;refine .ea 5 rfl (Or.PB (fun s=> mS s.1.1 s.1.2) (AP (i+1) (pH.take most)) (fun _=> True) rfl rfl rfl rfl rfl dE (lS _ _) (fun H hs=> .h (aCe M H (i+1) (pH.take most))) (fun s _=> ⟨S3.mk sL (.inr sL),?_⟩));refine Ta.lift (L₂:= [(b9,true,.cells ⟨[g.val]⟩ 107 (0,0)),(b8,true,.cells ⟨[.int .i64 0]⟩ 25 (0,0)),(b7,true,.cells ⟨[.int .i64 0]⟩ 3 (0,0)),(b6,true,.cells ⟨[.slice none 0 0]⟩ 107 (0,0)),(b3,true,.cells ⟨[.slice A nw wc]⟩ 24 (0,0))]) (L₁:=g.bl++AP (i+1) (pH.take most) s) rfl (fun Hx hx=> ?_);obtain⟨H',h1,h2⟩:=hx.PD;refine Ta.uB 6 kR rfl kR rfl rfl rfl rfl rfl rfl dE (yB.h (XR M g (ME most i) g3 oM (i+1) (pH.take most) oM (MP most) SP oM s.1.1 s.1.2 H' Hx ⟨⟨true,h2.get (i:=0) rfl⟩,⟨true,h2.get (i:=1) rfl⟩⟩ h1)) (fun v H₃ hv=> ?_);obtain⟨g',H₂,rfl,q1,q2,q3,q4⟩:=hv;refine Ta.expand q2 ?_;refine .ea 7 rfl (.st 0 (zz:=⟨S3.off kR,?_⟩));refine .dn ?_;refine U5 ?_;exact Tc.db (ih ⟨(H₂,i+1,g'),View.le_trans g1 (View.le_trans h2.base q1),by simp only;omega,by simp only;rw[zJ];exact q3,by simp only;rw[zJ,List.length_append,q4,g4]⟩ (by simp only;omega))
theorem mU(A:Option Addr)(nw wc:Nat)(w:Nat->Int)(hA:pB H A nw w)(digits most:Nat)(h0:1<=(nw:Int)/\(nw:Int)<=3)(hw:(jA (fun j=> !oE (w j)) nw).isSome=false)(hd:1<=((digits:Nat):Int)/\((digits:Nat):Int)<=3)(hm:1<=((most:Nat):Int)/\((most:Nat):Int)<=3):
  bA M 58 #[.slice A nw wc,.int .i64 (digits:Nat),.int .i64 (most:Nat)] H (fun v H'=> H.le H'/\∃a n c',v=BZ (.slice a n c') (oH w nw digits most).total (oH w nw digits most).al/\n=(oH w nw digits most).cE.length/\ZA H' 1 (.slice a n c') n (VA (oH w nw digits most).cE)):=
 bA.mono (nU M H A nw wc w hA digits most h0 hw hd hm) (by
  rintro v H' ⟨h1,a,n,c',h2,h3,h4,_⟩;exact⟨h1,a,n,c',h2,h3,h4⟩)
end
end Go.Proofs.YtldmfjcgjdchcaaGreatDoor
namespace Go.Proofs.YtldmfjcgjdchcaaGreatDoor
open Go.RL Go.Proofs.Tryz
set_option maxRecDepth 10000
theorem NH {l:List Int}{x:Int}:∀k,k<=l.length->(x∈aB l k<->∃i,i<k/\tA l i=x)
 | 0,_=> by simp[aB]
 | k + 1,hk=> by
  have ih:=NH (l:=l) (x:=x) k oM;unfold aB;split
  ·rename_i h
   rw[ih];constructor
   ·rintro⟨i,h1,h2⟩;exact⟨i,oM,h2⟩
   ·rintro⟨i,h1,h2⟩;by_cases e:i=k
    ·subst e;exact⟨i-1,oM,by rw[<-h.2];exact h2⟩
    ·exact⟨i,oM,h2⟩
  ·rw[List.mem_append,ih,List.mem_singleton];constructor
   ·rintro(⟨i,h1,h2⟩|rfl)
    ·exact⟨i,oM,h2⟩
    ·exact⟨k,oM,rfl⟩
   ·rintro⟨i,h1,h2⟩;by_cases e:i=k
    ·subst e;exact .inr h2.symm
    ·exact .inl ⟨i,oM,h2⟩
theorem AN {l:List Int}{n:Nat}(hs:pE 0 n l)(hn:n<=l.length):∀k,k<=n->(aB l k).Pairwise (· < ·)
 | 0,_=> List.Pairwise.nil
 | k + 1,hk=> by
  have ih:=AN hs hn k oM;unfold aB;split
  ·exact ih
  ·rename_i h
   rw[List.pairwise_append];refine⟨ih,List.pairwise_singleton _ _,fun a ha b hb=> ?_⟩;have jM:b=tA l k:=by simpa using hb
   subst jM;obtain⟨i,h1,rfl⟩:=(NH k oM).1 ha;have h2:=hs i (k-1) (Nat.zero_le _);have h3:=hs (k-1) k (Nat.zero_le _) oM oM;have h4:tA l k≠tA l (k-1):=fun e=> h ⟨oM,e⟩;by_cases e:i=k-1
   ·subst e;omega
   ·have:=h2 oM oM;omega
theorem pE.at_mem {l:List Int}{x:Int}:x∈l<->∃i,i<l.length/\tA l i=x:=by
 rw[List.mem_iff_getElem];constructor
 ·rintro⟨i,h,rfl⟩;exact⟨i,h,by unfold tA;rw[List.getElem?_eq_getElem h];rfl⟩
 ·rintro⟨i,h,e⟩;refine⟨i,h,?_⟩;unfold tA at e;rw[List.getElem?_eq_getElem h] at e;exact e
theorem lZ {l m:List Int}(hl:l.Pairwise (· < ·))(hm:m.Pairwise (· < ·))(h:∀x,x∈l<->x∈m):l=m:=by
 have hp:l.Perm m:=(List.perm_ext_iff_of_nodup (List.nodup_iff_pairwise_ne.2 (hl.imp (fun h=> Int.ne_of_lt h))) (List.nodup_iff_pairwise_ne.2 (hm.imp (fun h=> Int.ne_of_lt h)))).2 h;exact List.Perm.eq_of_pairwise (le:=(· <=·)) (fun a b _ _ h1 h2=> Int.le_antisymm h1 h2) (hl.imp (fun h=> Int.le_of_lt h)) (hm.imp (fun h=> Int.le_of_lt h)) hp
def pX(l:List (List UInt8)):Prop:=l.Pairwise fun a b=> Op.bytesLess a b=true
theorem BP {l m:List (List UInt8)}(hl:pX l)(hm:pX m)(h:∀x,x∈l<->x∈m):l=m:=by
 have ne:∀ {a b:List UInt8},Op.bytesLess a b=true->a≠b:=fun h e=> by rw[e,JG] at h;cases h
 have hp:l.Perm m:=(List.perm_ext_iff_of_nodup (List.nodup_iff_pairwise_ne.2 (hl.imp ne)) (List.nodup_iff_pairwise_ne.2 (hm.imp ne))).2 h;have le:∀ {a b:List UInt8},Op.bytesLess a b=true->WR a b=true:=fun h=> by unfold WR;rw[YP h];rfl
 exact wM hp (hl.imp le) (hm.imp le)
def DV(x:List UInt8):List (List UInt8)->List (List UInt8)
 | []=> [x]
 | y::t=> if Op.bytesLess x y then x::y::t else if x=y then y::t else y::DV x t
def dK:List (List UInt8)->List (List UInt8)
 | []=> []
 | x::t=> DV x (dK t)
theorem gO {x z:List UInt8}:∀l,z∈DV x l<->z=x\/z∈l
 | []=> by simp[DV]
 | y ::t=> by
  unfold DV;split
  ·simp
  ·split
   ·rename_i e
    subst e;simp
   ·rw[List.mem_cons,gO t,List.mem_cons];constructor
    ·rintro(h|h|h)
     ·exact .inr (.inl h)
     ·exact .inl h
     ·exact .inr (.inr h)
    ·rintro(h|h|h)
     ·exact .inr (.inl h)
     ·exact .inl h
     ·exact .inr (.inr h)
theorem AT(x:List UInt8):∀l,pX l->pX (DV x l)
 | [],_=> List.pairwise_singleton _ _
 | y ::t,h=> by
  obtain⟨h1,h2⟩:=List.pairwise_cons.1 h;unfold DV;split
  ·rename_i hx
   refine List.pairwise_cons.2 ⟨fun z hz=> ?_,h⟩;rcases List.mem_cons.1 hz with rfl|hz
   ·exact hx
   ·exact zE hx (h1 z hz)
  ·rename_i hx
   split
   ·exact h
   ·rename_i nB
    refine List.pairwise_cons.2 ⟨fun z hz=> ?_,AT x t h2⟩;rcases(gO t).1 hz with rfl|hz
    ·cases e:Op.bytesLess y z with
     | true=> rfl
     | false=> exact(nB (KG (by simpa using hx) e)).elim
    ·exact h1 z hz
theorem KI {z:List UInt8}:∀l,z∈dK l<->z∈l
 | []=> Iff.rfl
 | x::t=> by
  unfold dK;rw[gO,KI t,List.mem_cons]
theorem xI:∀l,pX (dK l)
 | []=> List.Pairwise.nil
 | x::t=> AT x _ (xI t)
theorem BX {S:List (List UInt8)}{m:List Int}{n:Nat}(hn:n=S.length)(ht:lA 0 n (XE S) m)(hs:pE 0 n m):(aB m n).map (lK S)=dK S:=by
 have QN:m.length=n:=by rw[ht.len,hn];simp[XE]
 have JD:∀x∈aB m n,x∈XE S:=fun x hx=> by
  obtain⟨i,h1,rfl⟩:=(NH n oM).1 hx;exact(ht.mem _).1 (rA oM)
 refine BP ?_ (xI S) (fun z=> ?_)
 ·unfold pX;rw[List.pairwise_map];have h1:=AN hs oM n (Nat.le_refl _);refine List.Pairwise.imp_of_mem (fun {a b} ha hb h3=> ?_) h1;rw[BG S a (JD a ha) b (JD b hb)];exact decide_eq_true h3
 ·rw[KI,List.mem_map];constructor
  ·rintro⟨x,hx,rfl⟩;obtain⟨s,h1,h2⟩:=List.mem_map.1 (JD x hx);rw[<-h2,OH h1];exact h1
  ·intro hz;refine⟨((HF S z:Nat):Int),?_,OH hz⟩;have h1:((HF S z:Nat):Int)∈m:=(ht.mem _).2 (List.mem_map.2 ⟨z,hz,rfl⟩);obtain⟨i,h2,h3⟩:=pE.at_mem.1 h1;exact(NH n oM).2 ⟨i,oM,h3⟩
theorem qS {l m:List (List UInt8)}(h:∀x,x∈l<->x∈m):dK l=dK m:=
 BP (xI l) (xI m) fun x=> by rw[KI,KI,h]
def CV(x:Int):List Int->List Int
 | []=> [x]
 | y::t=> if x<y then x::y::t else if x=y then y::t else y::CV x t
def wX:List Int->List Int
 | []=> []
 | x::t=> CV x (wX t)
theorem fO {x z:Int}:∀l,z∈CV x l<->z=x\/z∈l
 | []=> by simp[CV]
 | y ::t=> by
  unfold CV;split
  ·simp
  ·split
   ·rename_i e
    subst e;simp
   ·rw[List.mem_cons,fO t,List.mem_cons];constructor
    ·rintro(h|h|h)
     ·exact .inr (.inl h)
     ·exact .inl h
     ·exact .inr (.inr h)
    ·rintro(h|h|h)
     ·exact .inr (.inl h)
     ·exact .inl h
     ·exact .inr (.inr h)
theorem zT(x:Int):∀l:List Int,l.Pairwise (· < ·)->(CV x l).Pairwise (· < ·)
 | [],_=> List.pairwise_singleton _ _
 | y ::t,h=> by
  obtain⟨h1,h2⟩:=List.pairwise_cons.1 h;unfold CV;split
  ·rename_i hx
   refine List.pairwise_cons.2 ⟨fun z hz=> ?_,h⟩;rcases List.mem_cons.1 hz with rfl|hz
   ·exact hx
   ·have:=h1 z hz;omega
  ·rename_i hx
   split
   ·exact h
   ·rename_i nB
    refine List.pairwise_cons.2 ⟨fun z hz=> ?_,zT x t h2⟩;rcases(fO t).1 hz with rfl|hz
    ·omega
    ·exact h1 z hz
theorem mT {z:Int}:∀l,z∈wX l<->z∈l
 | []=> Iff.rfl
 | x::t=> by
  unfold wX;rw[fO,mT t,List.mem_cons]
theorem pS:∀l,(wX l).Pairwise (· < ·)
 | []=> List.Pairwise.nil
 | x::t=> zT x _ (pS t)
theorem I1 {S m:List Int}{n:Nat}(hn:n=S.length)(ht:lA 0 n S m)(hs:pE 0 n m):aB m n=wX S:=by
 have QN:m.length=n:=by rw[ht.len,hn]
 refine lZ (AN hs oM n (Nat.le_refl _)) (pS S) (fun z=> ?_);rw[mT,NH n oM,<-ht.mem z,pE.at_mem,QN]
set_option maxHeartbeats 16000000
def Bk.VH(k:Bk):List (List UInt8):=dK ((k.AF k.nt).map (·.heard))
def aCa(g:Gl 9 1)(a:Int):Value:=.tuple ⟨[g.val,.int .i64 a]⟩
theorem uT {α:Type}:∀ {l m:List α},l.Nodup->(∀x∈l,x∈m)->l.length<=m.length
 | [],_,_,_=> Nat.zero_le _
 | x ::t,m,hn,hs=> by
  obtain⟨h1,h2⟩:=List.nodup_cons.1 hn;obtain⟨a,b,rfl⟩:=List.append_of_mem (hs x (List.mem_cons_self ..));have:=uT (l:=t) (m:=a++b) h2 (fun y hy=> by
   have:=hs y (List.mem_cons_of_mem _ hy);rcases List.mem_append.1 this with h|h
   ·exact List.mem_append_left _ h
   ·rcases List.mem_cons.1 h with rfl|h
    ·exact(h1 hy).elim
    ·exact List.mem_append_right _ h)
  simp only[List.length_append,List.length_cons] at this ⊢;omega
theorem IX {k:Bk}{es:Array MapEntry}{cl n:Nat}(h:IB es cl (nK (k.HD n))):es.size<=(k.AF n).length:=by
 have BK:∀x∈es.toList.map (·.key),x∈(k.AF n).map MF.val:=by
  intro x hx;obtain⟨e,he,rfl⟩:=List.mem_map.1 hx;obtain⟨y,h1,h2,_⟩:=qD h e he;exact List.mem_map.2 ⟨y,(k.OC n y).2 h1,h2.symm⟩
 have:=uT h.keys BK;simpa using this
section
variable(M:Md prog)(H:View)
end
set_option maxHeartbeats 8000000
theorem aD2:Xt prog 290 Extern.BytealgIndexByte.indexByte:=⟨Tryz.f290,func290,by kernel_rfl,by kernel_rfl,by kernel_rfl,by kernel_rfl⟩
section
variable(M:Md prog)(H:View)
theorem XJ(s:List UInt8)(x:Nat):bA M 241 #[gA s,.int .u8 (x:Nat)] H (fun v H'=> H.le H'/\v=.int .i64 (M1 s (UInt8.ofNat x))):=by
 refine .en func241 ntmps241 fun St c cs hK=> ?_;refine U8 ?_;refine .x (pA.entry rfl rfl rfl rfl aD2 (fun H Q hq=> l8 hq)) ?_;refine U2 ?_;refine .rt hK func241 results241 [_] ?_;exact okB
theorem gS(s:List UInt8)(x:Nat):bA M 176 #[gA s,.int .u8 (x:Nat)] H (fun v H'=> H.le H'/\v=.int .i64 (M1 s (UInt8.ofNat x))):=by
 refine .en func176 ntmps176 fun St c cs hK=> ?_;refine U8 ?_;refine .cl (fun H hs=> XJ M H s x) ?_;refine U2 ?_;refine .rt hK func176 results176 [_] ?_;exact okB
theorem YJ(s:List UInt8)(x:Nat)(z:Int)(h:M1 s (UInt8.ofNat x)=z):bA M 176 #[gA s,.int .u8 (x:Nat)] H (fun v H'=> H.le H'/\v=.int .i64 z):=by
 subst h;exact gS M H s x
end
end Go.Proofs.YtldmfjcgjdchcaaGreatDoor
namespace Go.RL
open Go.Conc Go.ConcN Go.RL.Au
open Go.ConcR (stA smA)
open Go.ConcM (muA OsLater)
section
variable {X:Fk}{B:View}{base N:Nat}{os0:GY}{w w':World}{t:Trace}{ths:List Th}{m m':Mn}{s s':Sh}{H:Nat->View}{D:Nat->Bool}{fn:FuncId}{pos:String}
theorem iN {ths:List Th}{κ:Nat}{T T':Th}(hκ:ths[κ]? =some T):∀(κ':Nat) T'',(ths.set κ T')[κ']? =some T''->(κ'=κ/\T''=T')\/(κ'≠κ/\ths[κ']? =some T''):=fun κ' T'' h'=> by
 by_cases e:κ=κ'
 ·subst e;rw[List.getElem?_set_self (List.getElem?_eq_some_iff.1 hκ).1] at h';cases h'
  exact .inl ⟨rfl,rfl⟩
 ·rw[List.getElem?_set_ne e] at h';exact .inr ⟨Ne.symm e,h'⟩
theorem kO(i:Nat)(mm:Mark):MemOp.ofEvents i fn pos #[Go.ConcR.mk mm]=#[{ g:=i,fn,pos,act:=.mark mm }]:=by
 rw[ofEvents_eq];simp[Go.ConcR.ofEvent_mk]
theorem bQ {i j:Nat}{mm:Mark}(h1:mm≠ .disable)(h2:mm≠ .enable):Deaf (t++MemOp.ofEvents i fn pos #[Go.ConcR.mk mm]) j=Deaf t j:=by
 refine Deaf_still t j _ fun op kA=> ?_;rw[kO] at kA;simp at kA
 subst kA;simp[h1,h2]
theorem Z5 {D:Nat->Bool}{κ κ':Nat}(e:κ'≠κ):oS D κ κ'=D κ':=by simp[oS,e]
theorem WT.aEH(h:WT X B base N os0 w t ths m s H D)(ne:X.Wg≠X.C){κ:Nat}(hκ:ths[κ]? =some .pw)(hN:base+κ<N){w':World}{o':Obj}{es:Array Event}{D':Nat->Bool}(ht:aCc X κ w w' o' es)(hG:X.GI D' o'):
  WT X B base N os0 w' (t++MemOp.ofEvents (base+κ) fn pos es) (ths.set κ .wr) m s H D':=by
 obtain⟨_,h3,h4⟩:=h.free;have bT:∀op∈MemOp.ofEvents (base+κ) fn pos es,op.g=base+κ/\op.act=MemAct.ofEvent ⟨.cell ⟨X.C,κ,none⟩,true,false⟩:=by
  rw[ofEvents_eq];intro op kA;obtain⟨e,he,rfl⟩:=Array.mem_map.1 kA;rw[ht.ev e he];exact⟨rfl,rfl⟩
 have QM:∀op∈MemOp.ofEvents (base+κ) fn pos es,op.g=base+κ:=fun op kA=> (bT op kA).1;have hto:∀op∈MemOp.ofEvents (base+κ) fn pos es,∀a,op.act.touch? =some a->a.kind=.plain/\a.loc=.cell ⟨X.C,κ,none⟩:=fun op kA a ha=> by
  rw[(bT op kA).2] at ha;simp[MemAct.ofEvent,MemAct.touch?] at ha
  subst ha;exact⟨rfl,rfl⟩
 have uK:∀j,Deaf (t++MemOp.ofEvents (base+κ) fn pos es) j=Deaf t j:=fun j=> Deaf_still t j _ fun op kA=> by rw[(bT op kA).2];simp[MemAct.ofEvent]
 have FJ:∀V:View,V X.C=none->Sat V w->Sat V w':=fun V hV hs b f o zH=> by
  rw[ht.rest b (by rintro rfl;rw[hV] at zH;cases zH)];exact hs b f o zH
 refine⟨⟨by rw[ht.rest _ ne];exact h.sh.wg⟩,by rw[ht.size];exact h.cb,⟨fun g=> FJ _ (h3 g) (h.vi.sat g),h.vi.dj,h.vi.sh,FJ _ h.vi.bn.2 h.vi.bs,h.vi.bd,h.vi.bn⟩,h.hx,?_,⟨⟨o',ht.at_,hG⟩,h3,h4.own QM hto⟩,fun κ' T lC hT=> ?_,by rw[uK];exact h.jU,fun κ' T lC hT=> ?_,h.os.trans ht.os⟩
 ·rw[ht.size];exact h.ti.own h4 hN QM hto (fun op kA a e=> by rw[(bT op kA).2] at e;simp[MemAct.ofEvent] at e) h3 ⟨Ne.symm ne,Ne.symm ne⟩ h.cb
 ·rcases iN hκ κ' T lC with ⟨rfl,rfl⟩|⟨e,aI⟩
  ·cases hT
  ·obtain⟨r,hr⟩:=h.dI κ' T aI hT;exact⟨r,hr.appOther (g:=base+κ) QM oM⟩
 ·rw[uK];rcases iN hκ κ' T lC with ⟨rfl,rfl⟩|⟨e,aI⟩
  ·exact h.DX κ' .pw hκ (by simp)
  ·exact h.DX κ' T aI hT
theorem WT.mute(h:WT X B base N os0 w t ths m s H D)(ne:X.Wg≠X.C){κ:Nat}(hκ:ths[κ]? =some .wr)(hN:base+κ<N):
  WT X B base N os0 w (t++MemOp.ofEvents (base+κ) fn pos #[Go.ConcR.mk (.releaseMerge (stA X.Wg))]) (ths.set κ .wk) m s H D:=by
 have xB:=(List.getElem?_eq_some_iff.1 hκ).1;have MN:Act base N (base+κ):=.inr ⟨oM,hN⟩;have kA:=sR (X:=X) (H:=H (base+κ)) (g:=base+κ) (fn:=fn) (pos:=pos) (m:=.releaseMerge (stA X.Wg)) (t:=t) (fun x hx=> by cases hx) (fun a e=> by cases e);have hd0:Deaf t (base+κ)=0:=h.DX κ _ hκ (by simp);have uK:∀j,Deaf (t++MemOp.ofEvents (base+κ) fn pos #[Go.ConcR.mk (.releaseMerge (stA X.Wg))]) j=Deaf t j:=fun j=> bQ (by simp) (by simp);refine⟨h.sh,h.cb,h.vi,h.hx,h.VT ne MN hN kA,?_,fun κ' T lC hT=> ?_,by rw[uK];exact h.jU,fun κ' T lC hT=> ?_,h.os⟩
 ·obtain⟨h1,h3,h4⟩:=h.free;refine⟨h1,h3,h4.grow fun op KD x hx=> ?_⟩;rw[kO] at KD;simp at KD
  subst KD;cases hx
 ·rcases iN hκ κ' T lC with ⟨rfl,rfl⟩|⟨e,aI⟩
  ·exact⟨_,RelBy.new hd0 fn pos⟩
  ·obtain⟨r,hr⟩:=h.dI κ' T aI hT;exact⟨r,hr.appOther (g:=base+κ) kA.own oM⟩
 ·rw[uK];rcases iN hκ κ' T lC with ⟨rfl,rfl⟩|⟨e,aI⟩
  ·exact hd0
  ·exact h.DX κ' T aI hT
theorem xD {R:View}{b:Nat}{f:Bool}{o:Obj}(h:ro R b=some (f,o)):f=false/\∃f',R b=some (f',o):=by
 unfold ro at h;obtain⟨x,hx,he⟩:=Option.map_eq_some_iff.1 h;cases he
 exact⟨rfl,x.1,hx⟩
theorem eG {R:View}{b:Nat}(h:R b=none):ro R b=none:=by simp[ro,h]
theorem WT.fork(h:WT X B base N os0 w t ths .go s H D)(hb:1<=base)(hN:N=base+ths.length)(hm:m'.deaf=0){x y:MemOp}(hx:x.g=0/\x.act=.go N)(hy:y.g=N/\y.act=.start):
  WT X B base (N+1) os0 w (t ++ #[x,y]) (ths++[.pw]) m' s (upd (upd H 0 (ro (H 0))) N (ro (H 0))) D:=by
 have hN0:N≠0:=by omega
 have hHN:∀b,H N b=none:=h.hx N fun hh=> hh.elim hN0 fun hh=> by omega
 have hd0:Deaf t 0=0:=h.jU;have bT:∀op∈#[x,y],op.act≠ .mark .disable/\op.act≠ .mark .enable:=by
  intro op kA;simp only[List.mem_toArray,List.mem_cons,List.not_mem_nil,or_false] at kA;rcases kA with rfl|rfl
  ·rw[hx.2];simp
  ·rw[hy.2];simp
 have uK:∀j,Deaf (t ++ #[x,y]) j=Deaf t j:=fun j=> Deaf_still t j _ bT;have hV:∀j b,upd (upd H 0 (ro (H 0))) N (ro (H 0)) j b=if j=N\/j=0 then ro (H 0) b else H j b:=fun j b=> by
  by_cases e:j=N
  ·subst e;rw[upd_same,if_pos (.inl rfl)]
  ·rw[upd_ne _ _ e];by_cases e0:j=0
   ·subst e0;rw[upd_same,if_pos (.inr rfl)]
   ·rw[upd_ne _ _ e0,if_neg (by simp[e,e0])]
 have get:∀(κ:Nat) T,(ths++[Th.pw])[κ]? =some T->ths[κ]? =some T\/(κ=ths.length/\T=.pw):=fun κ T hκ=> by
  rw[List.getElem?_append] at hκ;split at hκ
  ·exact .inl hκ
  ·cases hz:κ-ths.length with
   | zero=> rw[hz] at hκ;cases hκ;exact .inr ⟨oM,rfl⟩
   | succ z=> rw[hz] at hκ;cases hκ
 refine⟨h.sh,h.cb,⟨fun j b f o zH=> ?_,fun i j WO b o hi=> ?_,fun j=> ?_,h.vi.bs,fun j b x' o zH hj=> ?_,h.vi.bn⟩,fun g hg b=> ?_,?_,?_,fun κ T hκ hT=> ?_,by rw[uK,hm];exact hd0,fun κ T hκ hT=> ?_,h.os⟩
 ·rw[hV] at zH;split at zH
  ·obtain⟨_,f',h1⟩:=xD zH;exact h.vi.sat 0 b f' o h1
  ·exact h.vi.sat j b f o zH
 ·rw[hV] at hi ⊢;split at hi
  ·have:=(xD hi).1;cases this
  ·split
   ·exact eG (h.vi.dj i 0 oM b o hi)
   ·exact h.vi.dj i j WO b o hi
 ·rw[hV];split
  ·exact eG (h.vi.sh 0)
  ·exact h.vi.sh j
 ·rw[hV] at hj;split at hj
  ·have:=(xD hj).1;cases this
  ·exact h.vi.bd j b x' o zH hj
 ·rw[hV,if_neg (by
   rintro(rfl|rfl)
   ·exact hg (.inr ⟨oM,oM⟩)
   ·exact hg (.inl rfl))]
  exact h.hx g (fun hh=> hg (hh.imp id fun⟨h1,h2⟩=> ⟨h1,oM⟩)) b
 ·exact h.ti.fork hx hy hd0 oM oM (fun b f o zH=> xD zH) hHN
 ·obtain⟨h1,h3,h4⟩:=h.free;refine⟨h1,fun g=> ?_,h4.fork h.ti.gs hx hy hd0⟩;rw[hV];split
  ·exact eG (h3 0)
  ·exact h3 g
 ·rcases get κ T hκ with lC|⟨_,rfl⟩
  ·obtain⟨r,hr⟩:=h.dI κ T lC hT;have xB:=(List.getElem?_eq_some_iff.1 lC).1;refine⟨r,hr.app fun i hi hgi hc=> ?_⟩;obtain⟨a,ha,_⟩:=hc;obtain⟨op,kA,bV⟩:=touch_of ha;rcases getElem?_append_cases kA with ⟨hl,_⟩|⟨_,yC⟩
   ·omega
   ·simp only[List.mem_toArray,List.mem_cons,List.not_mem_nil,or_false] at yC;rcases yC with rfl|rfl
    ·rw[hx.2] at bV;cases bV
    ·rw[hy.2] at bV;cases bV
  ·cases hT
 ·rw[uK];rcases get κ T hκ with lC|⟨rfl,rfl⟩
  ·exact h.DX κ T lC hT
  ·rw[<-hN];exact Deaf_absent fun i op hi e=> by have:=h.ti.gs i op hi;omega
end
theorem aAG {s:Sh}{t:Mn}(hp:t.plain=true)(hm:t.mv s= []):t=.ws/\s.q=0:=by
 cases t <;> simp only[Mn.mv] at hm
 case go=> cases hp
 case ret=> cases hp
 case ws=>
  split at hm
  ·exact⟨rfl,by assumption⟩
  ·cases hm
 case w2=> split at hm <;> cases hm
 all_goals cases hm
theorem TI.bare {Mu Wg C base N hs g:Nat}{H:Nat->View}{B:View}{t u:Trace}(h:TI Mu Wg C base N hs H B t)(hg:∀op∈u,op.g=g)(hN:g<N)(hu:∀op∈u,op.act.touch? =none)(hr:∀op∈u,∀a,op.act≠ .mark (.release a)):TI Mu Wg C base N hs H B (t++u):=by
 have old:∀ {i:Nat} {a:Touch},touchAt (t++u) i=some a->touchAt t i=some a/\i<t.size:=by
  intro i a ha;rcases mB ha with ⟨hi,tG⟩|⟨hi,op,kA,_,hxx⟩
  ·exact⟨tG,hi⟩
  ·rw[hu op kA] at hxx;cases hxx
 have oldop:∀ {i:Nat} {op:MemOp} {a:Touch},(t++u)[i]? =some op->op.act.touch? =some a->t[i]? =some op/\i<t.size:=by
  intro i op a kA ha;rcases getElem?_append_cases kA with ⟨hi,tD⟩|⟨hi,yC⟩
  ·exact⟨tD,hi⟩
  ·rw[hu op yC] at ha;cases ha
 refine⟨fun said=> noRace_append (h.nr said) hg fun i a _ op kA b hb _=> (by rw[hu op kA] at hb;cases hb),fun i a b ha hb=> h.bd i a b (old ha).1 hb,fun j hj i a b f o ha hb hH hw=> (h.kn j hj i a b f o (old ha).1 hb hH hw).app u,
  fun i op a kA ha hk xB=> (h.pl i op a (oldop kA ha).1 ha hk xB).app u,fun i a b ha hk hb=> h.np i a b (old ha).1 hk hb,fun i op a kA ha hk=> ?_,fun j hj i a b ha hk hb zH=> (h.sy j hj i a b (old ha).1 hk hb zH).app u,fun a=> (h.rel a).app fun op kA=> hr op kA a,fun i op kA=> ?_,fun i a ha=> h.mem i a (old ha).1⟩
 ·obtain⟨h3,hi⟩:=oldop kA ha;obtain⟨h1,h2⟩:=h.iY i op a h3 ha hk;exact⟨h1,fun e e'=> by rw[heard_old hi];exact h2 e e'⟩
 ·rcases getElem?_append_cases kA with ⟨hi,tD⟩|⟨hi,yC⟩
  ·exact h.gs i op tD
  ·rw[hg op yC];exact hN
theorem pT {g:Nat}{fn:FuncId}{pos:String}{es:Array Event}(h:∀e∈es,e.mute=true):∀op∈MemOp.ofEvents g fn pos es,op.g=g/\op.act.touch? =none/\∀a,op.act≠ .mark (.release a):=by
 rw[ofEvents_eq];intro op kA;obtain⟨e,he,rfl⟩:=Array.mem_map.1 kA;have:=h e he;obtain⟨loc,wr,sy⟩:=e;cases loc with
 | mark m=> cases m <;> simp[Event.mute] at this <;> simp[MemAct.ofEvent,MemAct.touch?]
 | _=> simp[Event.mute] at this
section
variable {P:Program}{X:Fk}{Fin:Goroutine->Prop}{B:View}{base:Nat}{os0:GY}{gs:Array Goroutine}{w:World}{t:Trace}{ths:List Th}{m:Mn}{s:Sh}{H:Nat->View}{ks:Nat->Nat}{rks:List zB}{q:Nat->Nat}{D:Nat->Bool}
variable {sl:Option (Nat×Nat)}
theorem WT.leave {N:Nat}(h:WT X B base N os0 w t ths m s H D){i:Nat}{fn:FuncId}{pos:String}{es:Array Event}(hi:0<i)(hN:i<N)(hm:∀e∈es,e.mute=true)(hq:∀(κ:Nat) T,ths[κ]? =some T->base+κ=i->T=.quit):
  WT X B base N os0 w (t++MemOp.ofEvents i fn pos es) ths m s H D:=by
 have ho:=pT (g:=i) (fn:=fn) (pos:=pos) hm;have QM:∀op∈MemOp.ofEvents i fn pos es,op.g=i:=fun op kA=> (ho op kA).1;refine⟨h.sh,h.cb,h.vi,h.hx,h.ti.bare QM hN (fun op kA=> (ho op kA).2.1) (fun op kA=> (ho op kA).2.2),?_,fun κ T hκ hT=> ?_,?_,fun κ T hκ hT=> ?_,h.os⟩
 ·obtain⟨h1,h3,h4⟩:=h.free;exact⟨h1,h3,h4.grow fun op kA x hx=> by rw[(ho op kA).2.1] at hx;cases hx⟩
 ·obtain⟨r,hr⟩:=h.dI κ T hκ hT;refine⟨r,hr.app fun j hj hgj hc=> ?_⟩;obtain⟨a,ha,_⟩:=hc;obtain⟨op,kA,bV⟩:=touch_of ha;rcases getElem?_append_cases kA with ⟨hl,_⟩|⟨_,yC⟩
  ·omega
  ·rw[(ho op yC).2.1] at bV;cases bV
 ·rw[Deaf_other t (g:=0) (g':=i) oM _ QM];exact h.jU
 ·have e:i≠base+κ:=fun e=> hT (hq κ T hκ e.symm);rw[Deaf_other t (g:=base+κ) (g':=i) e _ QM];exact h.DX κ T hκ hT
theorem PI.pos(h:PI P X Fin B base os0 gs w t ths m s H ks rks q D):∀i,Act base gs.size i->0<ks i:=fun i hi=> Nat.lt_of_le_of_lt (Nat.zero_le _) (h.depth i hi)
theorem PI.at(h:PI P X Fin B base os0 gs w t ths m s H ks rks q D)(d:Nat):PI P X Fin B base os0 gs (w.at d) t ths m s H ks rks q D:=⟨h.inv,h.b1,h.ne,h.dd,h.depth,h.wt.at d,h.si⟩
def PI.meas(X:Fk)(gs:Array Goroutine)(ths:List Th)(m:Mn)(s:Sh)(rks:List zB)(q:Nat->Nat):xQ:=(mu X.n ths m s,rks,sumTo gs.size q,runs gs)
def Goes(P:Program)(X:Fk)(Fin:Goroutine->Prop)(B:View)(base:Nat)(os0:GY)(μ:xQ)(w:World)(t:Trace)(gs:Array Goroutine)(r:Stepped×Array MemOp):Prop:=
 (∃gs' w' sl' ops ths' m' s' H' ks' rks' q' D',r=(.next (crowd gs' w' sl'),ops)/\PI P X Fin B base os0 gs' w' (t++ops) ths' m' s' H' ks' rks' q' D'/\tF (PI.meas X gs' ths' m' s' rks' q') μ)\/ 
 (∃gs' sl' g g' ths s H ks rks q D,gs[0]? =some g/\r=(.next (crowd gs' w sl'),MemOp.ofEvents 0 g.frame.fn g.frame.place #[Go.ConcR.mk (.acquire (stA X.Wg))])/\gs'=NC P gs 0 g g' w/\Fin g'/\PI P X Fin B base os0 gs w t ths .aq s H ks rks q D)
theorem PI.IZ(h:PI P X Fin B base os0 gs w t ths m s H ks rks q D){κ:Nat}{T T':Th}(hκ:ths[κ]? =some T)(hd:T'.did=T.did):∀κ',D κ'=(((ths.set κ T')[κ']?).map Th.did).getD false:=fun κ'=> by
 rw[h.dd κ'];by_cases e:κ=κ'
 ·subst e;rw[List.getElem?_set_self (List.getElem?_eq_some_iff.1 hκ).1,hκ];simp[hd]
 ·rw[List.getElem?_set_ne e]
theorem OE {i:Nat}{u:Trace}(hu:∀op∈u,op.g=i):∀j,j≠i->Deaf (t++u) j=Deaf t j:=fun j hj=> Deaf_other t (g:=j) (g':=i) (Ne.symm hj) u hu
theorem ofEvents_g {g:Nat}{fn:FuncId}{pos:String}{es:Array Event}:∀op∈MemOp.ofEvents g fn pos es,op.g=g:=by
 rw[ofEvents_eq];intro op kA;obtain⟨e,_,rfl⟩:=Array.mem_map.1 kA;rfl
theorem X1 {a b:Nat}{x y:List zB×(Nat×Nat)}(h:a<b):tF (a,x) (b,y):=.left _ _ h
theorem Y1 {a:Nat}{x y:List zB}{u v:Nat×Nat}(h:kW x y):tF (a,x,u) (a,y,v):=.right _ (.left _ _ h)
theorem aAD {a b c:Nat}{x:List zB}{u v:Nat}(h:b<c):tF (a,x,b,u) (a,x,c,v):=.right _ (.right _ (.left _ _ h))
theorem aAE {a b:Nat}{x:List zB}{u v:Nat}(h:u<v):tF (a,x,b,u) (a,x,b,v):=.right _ (.right _ (.right _ h))
theorem MV {i:Nat}{g g':Goroutine}(hi:gs[i]? =some g)(hg:g.status=.running)(W4:g'.status=.blocked):runs (NC P gs i g g' w)<runs gs:=by
 have e:NC P gs i g g' w=gs.setIfInBounds i g':=by
  unfold NC;have:woken P g g' w=id:=by
   funext o
   simp[woken,W4]
  rw[this,Array.map_id]
 rw[e];obtain⟨xB,rfl⟩:=Array.getElem?_eq_some_iff.1 hi;unfold runs;rw[Array.toList_setIfInBounds];have:=List.countP_set (p:=fun g:Goroutine=> g.status==.running) (l:=gs.toList) (i:=i) (a:=g') (by simpa using xB);rw[this];have h1:((gs.toList[i]'(by simpa using xB)).status==GoStatus.running)=true:=by simpa using hg
 have h2:0<gs.toList.countP fun g:Goroutine=> g.status==.running:=List.countP_pos_iff.2 ⟨gs[i],by simp,by simp[hg]⟩;have h3:¬(g'.status==GoStatus.running)=true:=by simp[W4]
 rw[if_pos h1,if_neg h3];omega
theorem PI.oT(h:PI P X Fin B base os0 gs w t ths m s H ks rks q D){κ k:Nat}{T T':Th}{s':Sh}{g g':Goroutine}{w':World}{es:Array Event}{H':View}{D':Nat->Bool}{ρ':zB}{q':Nat}(hκ:ths[κ]? =some T)(hg:gs[base+κ]? =some g)(hk:ks (base+κ)=k+1)
  (hm:(T',s')∈T.mv s) (LB:stepG P false g w=.go g' w' es) (fN:WT X B base gs.size os0 w' (t++MemOp.ofEvents (base+κ) g.frame.fn g.frame.place es) (ths.set κ T') m s' (upd H (base+κ) H') D')
  (hs:AQ P X κ T' k H' ρ' q' (Deaf (t++MemOp.ofEvents (base+κ) g.frame.fn g.frame.place es) (base+κ)) g') (uK:∀κ',D' κ'=(((ths.set κ T')[κ']?).map Th.did).getD false)
  (hQ:s'.q<=s.q\/(mayWake P g=true/\g'.status=.running)):
  Goes P X Fin B base os0 (PI.meas X gs ths m s rks q) w t gs (runT P (crowd gs w sl) (base+κ)):=by
 have hN:base+κ<gs.size:=(Array.getElem?_eq_some_iff.1 hg).1;have hb:=h.b1;have MN:Act base gs.size (base+κ):=.inr ⟨oM,hN⟩;have J0:(base+κ==0)=false:=by simp;omega
 have cN:=fY h.inv hκ hm;have vK:=h.depth _ MN;rw[hk] at vK;have VW:=h.si.worker (w':=w') (g:=g) (g':=g') (T':=T') (H':=H') (k':=k) (q':=q') (ρ':=ρ') (s':=s') hb h.pos hκ (OE ofEvents_g) hQ hs;refine .inl ⟨NC P gs (base+κ) g g' w',w',sl,_,ths.set κ T',m,s',_,_,_,_,D',runT_crowd_go hg (by rw[J0];exact LB),⟨h.inv.step hκ hm,hb,h.ne,uK,fun j hj=> ?_,?_,VW⟩,X1 cN⟩
 ·rw[zA] at hj;by_cases e:j=base+κ
  ·subst e;rw[upd_same];omega
  ·rw[upd_ne _ _ e];exact Nat.lt_trans cN (h.depth j hj)
 ·rw[zA];exact fN
theorem PI.jX(h:PI P X Fin B base os0 gs w t ths m s H ks rks q D){κ k:Nat}{T:Th}{g:Goroutine}(hκ:ths[κ]? =some T)(hg:gs[base+κ]? =some g)(hk:ks (base+κ)=k+1)
  (hs:WS P X κ (k+1) T (H (base+κ)) g):
  Goes P X Fin B base os0 (PI.meas X gs ths m s rks q) w t gs (runT P (crowd gs w sl) (base+κ)):=by
 have hN:base+κ<gs.size:=(Array.getElem?_eq_some_iff.1 hg).1;have hb:=h.b1;obtain⟨_,pw,wr,qt,pl⟩:=hs;have FJ:=h.wt.vi.sat (base+κ);have ZH:upd H (base+κ) (H (base+κ))=H:=pI _ _;have xB:=(List.getElem?_eq_some_iff.1 hκ).1;have aD5:D κ=T.did:=by rw[h.dd κ,hκ];rfl
 cases hp:T.plain with
 | true=>
  obtain⟨MC,SU⟩:=h.inv.ok hκ;obtain⟨T',s',g',w',es,hm,LB,htu,hqe,hra,mG,hq1,hq2,hq3⟩:=pl hp w s FJ h.wt.sh MC SU;obtain⟨k2,k3⟩:=qT hp hm;have fN:=h.wt.jX (fn:=g.frame.fn) (pos:=g.frame.place) h.ne hb hκ hN hp hm htu hqe;have uK:=h.IZ hκ k2;have hQ:s'.q<=s.q\/(mayWake P g=true/\g'.status=.running):=by
   cases aCS:T.EV with
   | true=> exact .inr ⟨hra aCS,mG⟩
   | false=> exact .inl (aAI aCS hm)
  by_cases mJ:T'=.quit
  ·obtain⟨q',TW⟩:=hq1 mJ;refine h.oT hκ hg hk hm LB (H':=H (base+κ)) (D':=D) (ρ':=.stop) (q':=q') (by rw[ZH];exact fN) (.quit mJ ?_) uK hQ;have:Deaf (t++MemOp.ofEvents (base+κ) g.frame.fn g.frame.place es) (base+κ)=1:=by
    rw[Deaf_own,h.wt.DX κ T hκ (by rintro rfl;cases hp),hqe.net,mJ];rfl
   rw[this];exact TW
  ·cases cN:T'.mute with
   | true=>
    obtain⟨n,hn⟩:=hq2 mJ cN;exact h.oT hκ hg hk hm LB (H':=H (base+κ)) (D':=D) (ρ':=aG n) (q':=q (base+κ)) (by rw[ZH];exact fN) (.quiet n ⟨mJ,cN⟩ rfl hn) uK hQ
   | false=>
    obtain⟨ρ',E1⟩:=(hq3 cN).FV;exact h.oT hκ hg hk hm LB (H':=H (base+κ)) (D':=D) (ρ':=ρ') (q':=q (base+κ)) (by rw[ZH];exact fN) (.walk cN E1) uK hQ
 | false=>
  have OS:T=.pw\/T=.wr\/T=.quit:=by cases T <;> simp[Th.plain] at hp <;> simp
  rcases OS with rfl|rfl|rfl
  ·obtain⟨⟨o,h1,h2⟩,_,_⟩:=h.wt.free;obtain⟨g',w',o',es,LB,how,hG,hT'⟩:=pw rfl D o aD5 h2 w FJ h1;obtain⟨ρ',E1⟩:=hT'.FV;have fN:=h.wt.aEH (fn:=g.frame.fn) (pos:=g.frame.place) h.ne hκ hN how hG;refine h.oT hκ hg hk (T':=.wr) (s':=s) (by simp[Th.mv]) LB (H':=H (base+κ)) (by rw[ZH];exact fN) (q':=q (base+κ)) (.walk rfl E1) (fun κ'=> ?_) (.inl (Nat.le_refl _));by_cases e:κ'=κ
   ·subst e;rw[List.getElem?_set_self xB];simp[oS,Th.did]
   ·rw[List.getElem?_set_ne (Ne.symm e),<-h.dd κ',Z5 e]
  ·obtain⟨g',LB,n,hn⟩:=wr rfl w FJ;have fN:=h.wt.mute (fn:=g.frame.fn) (pos:=g.frame.place) h.ne hκ hN;exact h.oT hκ hg hk (T':=.wk) (s':=s) (by simp[Th.mv]) LB (H':=H (base+κ)) (D':=D) (ρ':=aG n) (q':=q (base+κ)) (by rw[ZH];exact fN) (.quiet n ⟨by simp,rfl⟩ rfl hn) (h.IZ hκ rfl) (.inl (Nat.le_refl _))
  ·exact(qt rfl).elim
theorem PI.worker(h:PI P X Fin B base os0 gs w t ths m s H ks rks q D){κ:Nat}{T:Th}{g:Goroutine}(hκ:ths[κ]? =some T)(hg:gs[base+κ]? =some g)(hr:g.status=.running):
  Goes P X Fin B base os0 (PI.meas X gs ths m s rks q) w t gs (runT P (crowd gs w sl) (base+κ)):=by
 have hN:base+κ<gs.size:=(Array.getElem?_eq_some_iff.1 hg).1;have xB:=(List.getElem?_eq_some_iff.1 hκ).1;have hb:=h.b1;have MN:Act base gs.size (base+κ):=.inr ⟨oM,hN⟩;have J0:(base+κ==0)=false:=by simp;omega
 obtain⟨g₁,ρ,h1,h2,GJ⟩:=h.si.work κ T hκ;rw[hg] at h1;cases h1
 have N8:=h.pos _ MN;obtain⟨k,hk⟩:∃k,ks (base+κ)=k+1:=⟨ks (base+κ)-1,oM⟩
 have vK:=h.depth _ MN;rw[hk] at GJ vK;have aEU:upd ks (base+κ) (ks (base+κ))=ks:=pI _ _;have aEt:upd q (base+κ) (q (base+κ))=q:=pI _ _;have ZH:upd H (base+κ) (H (base+κ))=H:=pI _ _
 -- a step that leaves the automaton where it is
 have stay:∀(g':Goroutine) (w':World) (es:Array Event) (H':View) (q':Nat) (ρ':zB),stepG P false g w=.go g' w' es-> 
   WT X B base gs.size os0 w' (t++MemOp.ofEvents (base+κ) g.frame.fn g.frame.place es) ths m s (upd H (base+κ) H') D-> 
   AQ P X κ T (k+1) H' ρ' q' (Deaf (t++MemOp.ofEvents (base+κ) g.frame.fn g.frame.place es) (base+κ)) g'-> 
   tF (PI.meas X (NC P gs (base+κ) g g' w') ths m s (rks.set (base+κ) ρ') (upd q (base+κ) q')) (PI.meas X gs ths m s rks q)-> 
   Goes P X Fin B base os0 (PI.meas X gs ths m s rks q) w t gs (runT P (crowd gs w sl) (base+κ)):=by
  intro g' w' es H' q' ρ' LB fN hs' j7;have aCV:ths.set κ T=ths:=by
   apply List.ext_getElem?
   intro j;by_cases e:κ=j
   ·subst e;rw[List.getElem?_set_self xB,hκ]
   ·rw[List.getElem?_set_ne e]
  have VW:=h.si.worker (w':=w') (g:=g) (g':=g') (T':=T) (H':=H') (k':=k+1) (q':=q') (ρ':=ρ') (s':=s) hb h.pos hκ (OE ofEvents_g) (.inl (Nat.le_refl _)) hs';rw[aCV] at VW;refine .inl ⟨NC P gs (base+κ) g g' w',w',sl,MemOp.ofEvents (base+κ) g.frame.fn g.frame.place es,ths,m,s,upd H (base+κ) H',upd ks (base+κ) (k+1),rks.set (base+κ) ρ',upd q (base+κ) q',D,runT_crowd_go hg (by rw[J0];exact LB),⟨h.inv,hb,h.ne,h.dd,fun j hj=> ?_,?_,VW⟩,j7⟩
  ·rw[zA] at hj;by_cases e:j=base+κ
   ·subst e;rw[upd_same];exact vK
   ·rw[upd_ne _ _ e];exact h.depth j hj
  ·rw[zA];exact fN
 cases GJ with
 | quit hT hq=>
  cases R8:q (base+κ) with
  | zero=> rw[R8] at hq;rw[hq.1] at hr;cases hr
  | succ q'=>
   rw[R8] at hq;rcases hq with ⟨hf,_⟩|⟨_,g',es,cN,LB,TW⟩
   ·rw[hf] at hr;cases hr
   ·have hrk:rks.set (base+κ) ρ=rks:=by
     apply List.ext_getElem?
     intro j;by_cases e:base+κ=j
     ·subst e;rw[List.getElem?_set_self (by rw[h.si.LY];exact hN),h2]
     ·rw[List.getElem?_set_ne e]
    have fN:=h.wt.leave (i:=base+κ) (fn:=g.frame.fn) (pos:=g.frame.place) oM hN cN fun κ' T' lC e=> by
     obtain rfl:κ'=κ:=by omega
     rw[hκ] at lC;cases lC
     exact hT
    refine stay g' w es (H (base+κ)) q' ρ (LB w) (by rw[ZH];exact fN) (.quit hT (by rw[Deaf_own];exact TW)) ?_;rw[hrk];unfold PI.meas;rw[zA];refine aAD ?_;have:=sumTo_upd (f:=q) q' (fun a=> a) (i:=base+κ) (j:=gs.size) hN;have e:sumTo gs.size (fun a=> upd q (base+κ) q' a)=sumTo gs.size (upd q (base+κ) q'):=rfl;have e2:sumTo gs.size (fun a=> q a)=sumTo gs.size q:=rfl;omega
 | quiet n hT hρ hgo=>
  cases n with
  | succ n=>
   obtain⟨_,g',LB,aEg⟩:=hgo;refine stay g' w #[] (H (base+κ)) (q (base+κ)) (aG n) (LB w) (by rw[ZH];simpa [MemOp.ofEvents] using h.wt) (.quiet n hT rfl aEg) ?_;unfold PI.meas;refine Y1 (kW.set h2 ?_);rw[hρ];exact yV n
  | zero=> exact h.jX hκ hg hk hgo
 | walk hT hgo=>
  cases ρ with
  | stop=> exact h.jX hκ hg hk hgo
  | step f=>
   obtain⟨_,LB⟩:=hgo;obtain⟨g',w',es,H',h3,h4,h5⟩:=LB w (h.wt.vi.sat _) ⟨h.wt.cb,_,h.wt.sh⟩;refine stay g' w' es H' (q (base+κ)) (f w) h3 (h.wt.walk h.ne MN hN h4 fun κ' T' lC e=> ?_) (.walk hT h5) ?_
   ·obtain rfl:κ'=κ:=by omega
    rw[hκ] at lC;cases lC
    exact hT
   ·unfold PI.meas;exact Y1 (kW.set h2 (.step f w))
  | phase f=>
   obtain⟨_,hp,_⟩:=hgo;exact hp.elim
end
end Go.RL
