/-
 Texts of the proofs over baudot/dial.
-/
import Derived.Test.YtldmfjcgjdchcaaGreatDoorL07
namespace Go.Proofs.YtldmfjcgjdchcaaGreatDoor
open Go.RL Go.Proofs.Tryz
set_option maxRecDepth 10000
set_option maxHeartbeats 16000000
structure HR(a b i j:Nat)(u:List Int):Prop where
 ai:a+1<=i
 ij:i<=j+1
 jb:j<b
 aj:a<=j
 lo:∀k,a<k->k<i->xA u k<=xA u a
 hi:∀k,j<k->k<b->xA u a<xA u k
theorem HR.start {a b:Nat}{u:List Int}(h:a<b):HR a b (a+1) (b-1) u:=⟨Nat.le_refl _,oM,oM,oM,fun k h1 h2=> by omega,fun k h1 h2=> by omega⟩
theorem HR.up {a b i j:Nat}{u:List Int}(h:HR a b i j u)(qS:i<=j)(hle:¬xA u a<xA u i):HR a b (i+1) j u:=
 ⟨by have:=h.ai;omega,oM,h.jb,h.aj,fun k h1 h2=> by
  by_cases e:k=i
  ·rw[e];omega
  ·exact h.lo k h1 oM,h.hi⟩
theorem HR.down {a b i j:Nat}{u:List Int}(h:HR a b i j u)(qS:i<=j)(HB:xA u a<xA u j):HR a b i (j-1) u:=
 ⟨h.ai,oM,by have:=h.jb;omega,by have:=h.ai;omega,h.lo,fun k h1 h2=> by
  by_cases e:k=j
  ·rw[e];exact HB
  ·exact h.hi k oM h2⟩
theorem HR.swap {a b i j:Nat}{u:List Int}(h:HR a b i j u)(hl:b<=u.length)(qS:i<=j)(h1:xA u a<xA u i)(h2:¬xA u a<xA u j):i<j/\HR a b (i+1) (j-1) (mB u i j)/\xA (mB u i j) a=xA u a:=by
 have ha:=h.ai;have hb:=h.jb;have xB:i≠j:=by
  rintro rfl;omega
 have hs:=fun q=> wC (l:=u) (p:=i) (q:=j) oM oM q;have h0:xA (mB u i j) a=xA u a:=by rw[hs,if_neg oM,if_neg oM]
 refine⟨oM,⟨oM,oM,oM,oM,fun k h3 h4=> ?_,fun k h3 h4=> ?_⟩,h0⟩
 ·rw[h0,hs,if_neg oM];by_cases e:k=i
  ·rw[if_pos e];omega
  ·rw[if_neg e];exact h.lo k h3 oM
 ·rw[h0,hs];by_cases e:k=j
  ·rw[if_pos e];exact h1
  ·rw[if_neg e,if_neg oM];exact h.hi k oM h4
structure XL(a b c:Nat)(x:Int)(u:List Int):Prop where
 ac:a<c
 cb:c<=b
 lo:∀k,a<=k->k<c->xA u k<=x
 hi:∀k,c<=k->k<b->x<xA u k
theorem HR.fin {a b i j:Nat}{u:List Int}(h:HR a b i j u)(qS:j<i){x:Int}(hx:xA u a=x):XL a b i x u:=by
 have h1:=h.ij;have h2:=h.ai;have h3:=h.jb;exact⟨oM,oM,fun k g1 g2=> by
  by_cases e:k=a
  ·rw[e,hx];exact Int.le_refl _
  ·rw[<-hx];exact h.lo k oM g2,fun k g1 g2=> by rw[<-hx];exact h.hi k oM g2⟩
section
variable(M:Md prog)(H:View)
theorem YZ(dec:Int->List UInt8)(sb:Nat)(l:List Int)(jj:List Value)(n cap a b pv:Nat)(hn:n=l.length)(hE:DN dec l)(hb:b<=n)(wF:n<=100000000)(hp:a<=pv/\pv<b)(hS:H sb=some (true,.cells ⟨(nA dec l)++jj⟩ 9 (0,0))):
  bA M 263 #[.slice (some ⟨sb,0,none⟩) n cap,.int .i64 (a:Nat),.int .i64 (b:Nat),.int .i64 (pv:Nat)] H (gB dec H sb jj (fun v m=> ∃s:Nat×List Int,v=.int .i64 (s.1:Nat)/\m=s.2/\(kA a b l s.2/\XL a b s.1 (xA l pv) s.2))):=by
 refine bA.enter (vs:= [.slice (some ⟨sb,0,none⟩) n cap,.int .i64 (a:Nat),.int .i64 (b:Nat),.int .i64 (pv:Nat)]) func263 rfl ntmps263 (Nat.le_of_ble_eq_true rfl) (gA.pull hS) fun St c cs hK=> ?_;have hx0:xA (mB l a pv) a=xA l pv:=by
  rw[wC oM oM];by_cases e:a=pv
  ·rw[if_pos e,e]
  ·rw[if_neg e,if_pos rfl]
 have hu:kA a b l (mB l a pv):=kA.swap oM oM oM oM;have eb:((b:Nat):Int)-1=((b-1:Nat):Int):=by omega
 have ea:pA .add .i64 (a:Nat) 1=some (.int .i64 ((a+1:Nat):Int)):=by rw[eC oM oM];rfl
 have y1:=rA (dec:=dec) (m:=l) (j:=jj) (k:=(a:Nat)) (p:=a) rfl oM;have y2:=rA (dec:=dec) (m:=l) (j:=jj) (k:=(pv:Nat)) (p:=pv) rfl oM;have y3:=BA (dec:=dec) (m:=l) (j:=jj) (k:=(a:Nat)) (x:=xA l (pv)) (p:=a) rfl oM;have y4:=BA (dec:=dec) (m:=(l).set (a) (xA l (pv))) (j:=jj) (k:=(pv:Nat)) (x:=xA l (a)) (p:=pv) rfl (by rw[List.length_set];omega);have y5:=AA (dec:=dec) (m:=l) (j:=jj) (k:=(a:Nat)) (p:=a) rfl oM;have y6:=AA (dec:=dec) (m:=(l).set (a) (xA l (pv))) (j:=jj) (k:=(pv:Nat)) (p:=pv) rfl (by rw[List.length_set];omega);refine U5 ?_;refine Tc.dr [13,15] [0] mixed rfl ?_;refine V2 0 ?_;refine .nw 2 ?_;refine .nw 3 ?_;refine V4 4 ?_;refine .nw 8 ?_;refine .nw 9 ?_;refine .nw 10 ?_;refine V2 11 ?_;refine .e 13 0 ?_;refine .nw 14 ?_;refine .e 15 0 ?_;refine .dn ?_;refine U9 ?_;rw[eb];refine U2 ?_;refine Tc.db (Tc.tA (σ:= { s:Nat×Nat×List Int//HR a b s.1 s.2.1 s.2.2/\kA a b l s.2.2/\xA s.2.2 a=xA l pv }) (fun s=> ([(0,.slice (some ⟨sb,0,none⟩) n cap),(1,.int .i64 (a:Nat)),(9,.int .i64 (s.1.1:Nat)),(10,.int .i64 (s.1.2.1:Nat))],[(sb,true,.cells ⟨(nA dec s.1.2.2)++jj⟩ 9 (0,0))])) (fun s=> s.1.2.1+1-s.1.1) ?_
  ⟨(a+1,b-1,mB l a pv),HR.start oM,hu,hx0⟩)
 clear y1 y2 y3 y4 y5 y6 hx0 hu;rintro⟨⟨i,j,w⟩,g1,g2,g3⟩ ih0;simp only at g1 g2 g3;have P5:=g2.len;have IW:=hE.uD g2;have g1a:=g1.ai;have g1b:=g1.ij;have g1c:=g1.jb;show Tc M St _ _ _ _ [(0,.slice (some ⟨sb,0,none⟩) n cap),(1,.int .i64 (a:Nat)),(9,.int .i64 (i:Nat)),(10,.int .i64 (j:Nat))] [(sb,true,.cells ⟨(nA dec w)++jj⟩ 9 (0,0))] _ _;have za:=rA (dec:=dec) (m:=w) (j:=jj) (k:=(a:Nat)) (p:=a) rfl oM;refine U2 ?_;refine rF (fun R' L'=> ∃s,i<=s/\HR a b s j w/\(s<=j->xA w a<xA w s)/\PB [(0,.slice (some ⟨sb,0,none⟩) n cap),(1,.int .i64 (a:Nat)),(9,.int .i64 (s:Nat)),(10,.int .i64 (j:Nat))] R'/\L'= [(sb,true,.cells ⟨(nA dec w)++jj⟩ 9 (0,0))]) ?_ (fun fin=> ?_)
 ·rintro R' _ ⟨i2,i2le,p1,x1,kL,rfl⟩;refine Tc.rC ?_ kL (List.Sublist.refl _);have p1a:=p1.ai;have p1b:=p1.ij;have p1c:=p1.jb;refine U ?_;refine rF (fun R' L'=> ∃s,s<=j/\HR a b i2 s w/\(i2<=s->¬xA w a<xA w s)/\PB [(0,.slice (some ⟨sb,0,none⟩) n cap),(1,.int .i64 (a:Nat)),(9,.int .i64 (i2:Nat)),(10,.int .i64 (s:Nat))] R'/\L'= [(sb,true,.cells ⟨(nA dec w)++jj⟩ 9 (0,0))]) ?_ (fun fin=> ?_)
  ·rintro R' _ ⟨j2,j2le,p2,x2,kL,rfl⟩;refine Tc.rC ?_ kL (List.Sublist.refl _);have p2a:=p2.ai;have p2b:=p2.ij;have p2c:=p2.jb;have p2d:=p2.aj;by_cases d:j2<i2
   ·refine QE ?_;refine .rt hK func263 results263 [_] ?_;exact fun H' hs=> gB.of (dec:=dec) hs (i:=0) rfl ⟨(i2,w),rfl,rfl,g2,p2.fin d g3⟩
   ·obtain⟨w1,w2,w3⟩:=p2.swap oM oM (x1 oM) (x2 oM);have e2:((j2:Nat):Int)-1=((j2-1:Nat):Int):=by omega
    have ei:pA .add .i64 (i2:Nat) 1=some (.int .i64 ((i2+1:Nat):Int)):=by rw[eC oM oM];rfl
    refine lD ?_;have z1:=rA (dec:=dec) (m:=w) (j:=jj) (k:=(i2:Nat)) (p:=i2) rfl oM;have z2:=rA (dec:=dec) (m:=w) (j:=jj) (k:=(j2:Nat)) (p:=j2) rfl oM;have z3:=BA (dec:=dec) (m:=w) (j:=jj) (k:=(i2:Nat)) (x:=xA w (j2)) (p:=i2) rfl oM;have z4:=BA (dec:=dec) (m:=(w).set (i2) (xA w (j2))) (j:=jj) (k:=(j2:Nat)) (x:=xA w (i2)) (p:=j2) rfl (by rw[List.length_set];omega);have z5:=AA (dec:=dec) (m:=w) (j:=jj) (k:=(i2:Nat)) (p:=i2) rfl oM;have z6:=AA (dec:=dec) (m:=(w).set (i2) (xA w (j2))) (j:=jj) (k:=(j2:Nat)) (p:=j2) rfl (by rw[List.length_set];omega);refine Tc.dr [13,15] [0] mixed rfl ?_;refine V2 0 ?_;refine .nw 2 ?_;refine .nw 3 ?_;refine V4 4 ?_;refine .nw 8 ?_;refine .nw 9 ?_;refine .nw 10 ?_;refine V2 11 ?_;refine .e 13 0 ?_;refine .nw 14 ?_;refine .e 15 0 ?_;refine .dn ?_;refine PE ?_;rw[e2];refine U ?_;exact Tc.db (ih0 ⟨(i2+1,j2-1,mB w i2 j2),w2,g2.trans (kA.swap oM oM oM oM),w3.trans g3⟩ (by simp only;omega))
  ·refine Tc.db (Tc.tA (σ:= { s:Nat//s<=j/\HR a b i2 s w }) (fun s=> ([(0,.slice (some ⟨sb,0,none⟩) n cap),(1,.int .i64 (a:Nat)),(9,.int .i64 (i2:Nat)),(10,.int .i64 (s.1:Nat))],[(sb,true,.cells ⟨(nA dec w)++jj⟩ 9 (0,0))])) (fun s=> s.1) ?_ ⟨j,Nat.le_refl _,p1⟩);rintro⟨s,q1,q2⟩ ih;have q3:=q2.ai;have q4:=q2.ij;have q5:=q2.jb;show Tc M St _ _ _ _ [(0,.slice (some ⟨sb,0,none⟩) n cap),(1,.int .i64 (a:Nat)),(9,.int .i64 (i2:Nat)),(10,.int .i64 (s:Nat))] [(sb,true,.cells ⟨(nA dec w)++jj⟩ 9 (0,0))] _ _;by_cases c1:i2<=s
   ·have zs:=rA (dec:=dec) (m:=w) (j:=jj) (k:=(s:Nat)) (p:=s) rfl oM;have es:((s:Nat):Int)-1=((s-1:Nat):Int):=by omega
    by_cases c2:xA w a<xA w s
    ·refine U2 ?_;refine Tc.dr [] [] mixed rfl ?_;refine gO 0 ?_;refine .z 12 rfl (qA.tk fun H hs=> aC M H IW (uA oM) (uA oM) true (decide_eq_true c2)) ?_;refine .nn 13 ?_;refine .dn ?_;refine U8 ?_;rw[es];refine U ?_;exact Tc.db (ih ⟨s-1,oM,q2.down c1 c2⟩ (by simp only;omega))
    ·repeat (refine Tc.seq ?_)
     refine Tc.dr [] [] mixed rfl ?_;refine gO 0 ?_;refine .z 12 rfl (qA.tk fun H hs=> aC M H IW (uA oM) (uA oM) false (decide_eq_false c2)) ?_;refine .nn 13 ?_;refine .dn ?_;refine U2 ?_;exact fin _ _ ⟨s,q1,q2,fun _=> c2,⟨rfl,rfl,rfl,rfl,trivial⟩,rfl⟩
   ·repeat (refine Tc.seq ?_)
    refine Tc.dr [] [] mixed rfl ?_;refine V4 0 ?_;refine .nw 4 ?_;refine .nw 5 ?_;refine .nw 6 ?_;refine .nw 7 ?_;refine .nw 8 ?_;refine .nw 9 ?_;refine .nw 10 ?_;refine .nw 11 ?_;refine .nw 12 ?_;refine .nn 13 ?_;refine .dn ?_;refine U2 ?_;exact fin _ _ ⟨s,q1,q2,fun h=> (c1 h).elim,⟨rfl,rfl,rfl,rfl,trivial⟩,rfl⟩
 ·refine Tc.db (Tc.tA (σ:= { s:Nat//i<=s/\HR a b s j w }) (fun s=> ([(0,.slice (some ⟨sb,0,none⟩) n cap),(1,.int .i64 (a:Nat)),(9,.int .i64 (s.1:Nat)),(10,.int .i64 (j:Nat))],[(sb,true,.cells ⟨(nA dec w)++jj⟩ 9 (0,0))])) (fun s=> j+1-s.1) ?_ ⟨i,Nat.le_refl _,g1⟩);rintro⟨s,q1,q2⟩ ih;have q3:=q2.ai;have q4:=q2.ij;have q5:=q2.jb;show Tc M St _ _ _ _ [(0,.slice (some ⟨sb,0,none⟩) n cap),(1,.int .i64 (a:Nat)),(9,.int .i64 (s:Nat)),(10,.int .i64 (j:Nat))] [(sb,true,.cells ⟨(nA dec w)++jj⟩ 9 (0,0))] _ _;by_cases c1:s<=j
  ·have zs:=rA (dec:=dec) (m:=w) (j:=jj) (k:=(s:Nat)) (p:=s) rfl oM;have es:pA .add .i64 (s:Nat) 1=some (.int .i64 ((s+1:Nat):Int)):=by rw[eC oM oM];rfl
   by_cases c2:xA w a<xA w s
   ·repeat (refine Tc.seq ?_)
    refine Tc.dr [] [] mixed rfl ?_;refine gO 0 ?_;refine .z 12 rfl (qA.tk fun H hs=> aC M H IW (uA oM) (uA oM) true (decide_eq_true c2)) ?_;refine V2 13 ?_;refine .dn ?_;refine U2 ?_;exact fin _ _ ⟨s,q1,q2,fun _=> c2,⟨rfl,rfl,rfl,rfl,trivial⟩,rfl⟩
   ·refine U2 ?_;refine Tc.dr [] [] mixed rfl ?_;refine gO 0 ?_;refine .z 12 rfl (qA.tk fun H hs=> aC M H IW (uA oM) (uA oM) false (decide_eq_false c2)) ?_;refine V2 13 ?_;refine .dn ?_;refine U9 ?_;exact Tc.db (ih ⟨s+1,oM,q2.up c1 c2⟩ (by simp only;omega))
  ·repeat (refine Tc.seq ?_)
   refine Tc.dr [] [] mixed rfl ?_;refine V4 0 ?_;refine .nw 4 ?_;refine .nw 5 ?_;refine .nw 6 ?_;refine .nw 7 ?_;refine .nw 8 ?_;refine .nw 9 ?_;refine .nw 10 ?_;refine .nw 11 ?_;refine .nw 12 ?_;refine .nw 13 ?_;refine .nn 14 ?_;refine .dn ?_;refine U2 ?_;exact fin _ _ ⟨s,q1,q2,fun h=> (c1 h).elim,⟨rfl,rfl,rfl,rfl,trivial⟩,rfl⟩
end
def jI(l:List Int)(a b a' b':Nat)(u:List Int):Prop:=∀m,kA a' b' u m->HE a' b' m->kA a b l m/\HE a b m
theorem jI.VH {l u w:List Int}{a b a' b':Nat}(h:jI l a b a' b' u)(k:kA a' b' u w):jI l a b a' b' w:=fun m h1 h2=> h m (k.trans h1) h2
theorem vE.left {a b c:Nat}{u:List Int}(h:vE a b u)(k:c<=b):vE a c u:=by
 rcases h with h|h
 ·exact .inl h
 ·exact .inr fun i h1 h2=> h i h1 oM
theorem vE.keep {a c b:Nat}{u w:List Int}(h:vE a c u)(k:kA (c+1) b u w):vE a c w:=by
 rcases h with h|h
 ·exact .inl h
 ·refine .inr fun i h1 h2=> ?_;rw[k.out (a-1) (.inl oM),k.out i (.inl oM)];exact h i h1 h2
theorem jI.right {l u x:List Int}{a b a' b' c:Nat}(h:jI l a b a' b' u)(k:Part a' b' c u)(hl:b'<=u.length)(h1:kA a' c u x)(s1:HE a' c x):jI l a b (c+1) b' x:=fun m h2 s2=> by
 obtain⟨g1,g2⟩:=k.sorted hl h1 s1 h2 s2;exact h m g1 g2
theorem jI.left {l u x:List Int}{a b a' b' c:Nat}(h:jI l a b a' b' u)(k:Part a' b' c u)(hl:b'<=u.length)(h1:kA (c+1) b' u x)(s1:HE (c+1) b' x):jI l a b a' c x:=fun m h2 s2=> by
 obtain⟨g1,g2⟩:=k.aAC hl h1 s1 h2 s2;exact h m g1 g2
theorem Part.ahead {a b c:Nat}{u x:List Int}(k:Part a b c u)(h1:kA a c u x):vE (c+1) b x:=.inr fun i g1 g2=> by
 have e:c+1-1=c:=by omega
 rw[e];have h2:=k.hi i oM g2;rw[<-h1.out c (.inr (Nat.le_refl _)),<-h1.out i (.inr oM)] at h2;exact h2
theorem XL.ahead {a b c:Nat}{x:Int}{w:List Int}(k:XL a b c x w):vE c b w:=.inr fun i g1 g2=> by
 have h1:=k.ac;have h2:=k.lo (c-1) oM oM;have h3:=k.hi i g1 g2;omega
theorem jI.eq {l u w:List Int}{a b a' b' c:Nat}{x:Int}(h:jI l a b a' b' u)(k:XL a' b' c x w)(ht:kA a' b' u w)(pS:∀i,a'<=i->i<b'->x<=xA w i)(hl:b'<=w.length):jI l a b c b' w:=fun m h1 s1=> by
 have c1:=k.ac;have c2:=k.cb;refine h m (ht.trans (h1.wide oM (Nat.le_refl _))) fun p q g1 g2 g3=> ?_;have HN:∀i,a'<=i->i<c->xA m i=x:=fun i e1 e2=> by
  rw[h1.out i (.inl e2)];have e3:=k.lo i e1 e2;have e4:=pS i e1 oM;omega
 have dQ:∀i,c<=i->i<b'->x<xA m i:=h1.all hl (P:=fun z=> x<z) k.hi;by_cases d1:q<c
 ·rw[HN p g1 oM,HN q oM d1];exact Int.le_refl _
 ·by_cases d2:p<c
  ·rw[HN p g1 d2];have:=dQ q oM g3;omega
  ·exact s1 p q oM g2 g3
theorem Or.fT {dec:Int->List UInt8}{M:Md prog}{n:Nat}{H₀:View}{R:Rg}{L:Bl}{o:Oper}{K:Rg->Bl->Prop}{cl:Go.Call}{x:Operand}{fv:Value}{az:List Value}{d:Nat}{σ:Type}(i:Nat){sb:Nat}{l:List Int}{j:List Value}(val:σ->Value)(mm:σ->List Int)(p:σ->Prop)
  (lA:o.op=.call cl) (nB:cl.callee=.value x) (hx:JA R x=some fv) (has:HD R cl.args.toList=some az) (hd:o.dst=some d) (hn:d<n) (hi:L[i]? =some (sb,true,.cells ⟨(nA dec l)++j⟩ 9 (0,0)))
  (hc:∀H,gA H₀ L H->uB M fv az H (gB dec H sb j fun v m=> ∃s,v=val s/\m=mm s/\p s)) (hk:∀s,p s->K ((d,val s)::R) (L.set i (sb,true,.cells ⟨(nA dec (mm s))++j⟩ 9 (0,0)))):Or M n H₀ R L o K:=
 Or.BE i (fun v m=> ∃s,v=val s/\m=mm s/\p s) lA nB hx has hd hn hi hc fun v m h=> by
  obtain⟨s,rfl,rfl,h3⟩:=h;exact hk s h3
section
variable(M:Md prog)
theorem aCn (dec:Int->List UInt8)(sb:Nat)(jj:List Value)(n cap:Nat)(h40:n<=100000000):∀(d:Nat) (H:View) (l:List Int) (a b lim:Nat),b-a<d->n=l.length->a<=b->b<=n->lim<=100->DN dec l->vE a b l->H sb=some (true,.cells ⟨(nA dec l)++jj⟩ 9 (0,0))-> 
  bA M 196 #[.slice (some ⟨sb,0,none⟩) n cap,.int .i64 (a:Nat),.int .i64 (b:Nat),.int .i64 (lim:Nat)] H (gB dec H sb jj (fun v m=> v=.tuple ⟨[]⟩/\kA a b l m/\HE a b m)):=by
 intro d;induction d with
 | zero=> intro H l a b lim hd;omega
 | succ d ihd=>
 intro H l a b lim hd hn OQ hb aG3 hE hah hS;refine bA.enter (vs:= [.slice (some ⟨sb,0,none⟩) n cap,.int .i64 (a:Nat),.int .i64 (b:Nat),.int .i64 (lim:Nat)]) func196 rfl ntmps196 (Nat.le_of_ble_eq_true rfl) (gA.pull hS) fun St c cs hK=> ?_;refine U9 ?_;refine Tc.db (Tc.tA (σ:= { s:Nat×Nat×Nat×Bool×Bool×List Int//a<=s.1/\s.1<=s.2.1/\s.2.1<=b/\s.2.2.1<=lim/\kA a b l s.2.2.2.2.2/\jI l a b s.1 s.2.1 s.2.2.2.2.2/\vE s.1 s.2.1 s.2.2.2.2.2 }) (fun s=> ([(0,.slice (some ⟨sb,0,none⟩) n cap),(1,.int .i64 (s.1.1:Nat)),(2,.int .i64 (s.1.2.1:Nat)),(3,.int .i64 (s.1.2.2.1:Nat)),(8,.bool s.1.2.2.2.1),(9,.bool s.1.2.2.2.2.1)],[(sb,true,.cells ⟨(nA dec s.1.2.2.2.2.2)++jj⟩ 9 (0,0))])) (fun s=> s.1.2.1-s.1.1) ?_
  ⟨(a,b,lim,true,true,l),Nat.le_refl _,OQ,Nat.le_refl _,Nat.le_refl _,kA.refl ..,fun m h1 h2=> ⟨h1,h2⟩,hah⟩)
 rintro⟨⟨a',b',lm,wb,wp,u⟩,g1,g2,g3,g4,g5,g6,g7⟩ ih;simp only at g1 g2 g3 g4 g5 g6 g7;have cN:=g5.len;have vJ:=hE.uD g5;obtain⟨m,hm⟩:∃m,m=b'-a':=⟨_,rfl⟩
 have e0:((b':Nat):Int)-((a':Nat):Int)=((m:Nat):Int):=by omega
 show Tc M St _ _ _ _ [(0,.slice (some ⟨sb,0,none⟩) n cap),(1,.int .i64 (a':Nat)),(2,.int .i64 (b':Nat)),(3,.int .i64 (lm:Nat)),(8,.bool wb),(9,.bool wp)] [(sb,true,.cells ⟨(nA dec u)++jj⟩ 9 (0,0))] _ _;refine U8 ?_;rw[e0];refine U2 ?_;by_cases c1:m<=12
 ·refine lD ?_;refine .e (Or.BE (dec:=dec) (l:=u) 0 (fun v m=> v=.tuple ⟨[]⟩/\kA a' b' u m/\HE a' b' m) rfl rfl rfl rfl rfl dE rfl (fun H hs=> .h (rL M H dec sb u jj n cap a' b' oM vJ oM oM oM (hs.get (i:=0) rfl))) (fun v w ⟨_,wt,ws⟩=> ?_));refine U ?_;refine .rt hK func196 results196 [] ?_;exact fun H' hs=> gB.of (dec:=dec) hs (i:=0) rfl ⟨rfl,g6 w wt ws⟩
 ·refine U8 ?_;by_cases c2:lm=0
  ·refine lD ?_;refine .e (Or.BE (dec:=dec) (l:=u) 0 (fun v m=> v=.tuple ⟨[]⟩/\kA a' b' u m/\HE a' b' m) rfl rfl rfl rfl rfl dE rfl (fun H hs=> .h (BU M H dec sb u jj n cap a' b' oM vJ oM oM oM (hs.get (i:=0) rfl))) (fun v w ⟨_,wt,ws⟩=> ?_));refine U ?_;refine .rt hK func196 results196 [] ?_;exact fun H' hs=> gB.of (dec:=dec) hs (i:=0) rfl ⟨rfl,g6 w wt ws⟩
  ·refine U7 ?_;refine Tc.via (fun R' L'=> ∃(lm1:Nat) (x:List Int),lm1<=lm/\kA a' b' u x/\PB [(0,.slice (some ⟨sb,0,none⟩) n cap),(1,.int .i64 (a':Nat)),(2,.int .i64 (b':Nat)),(3,.int .i64 (lm1:Nat)),(8,.bool wb),(9,.bool wp),(10,.int .i64 (m:Nat))] R'/\L'= [(sb,true,.cells ⟨(nA dec x)++jj⟩ 9 (0,0))]) ?_ (fun fin=> ?_)
   ·rintro R' _ ⟨lm1,x,o1,o2,kL,rfl⟩;refine Tc.rC ?_ kL (List.Sublist.refl _);have B8:=o2.len;refine U5 ?_;refine .e (Or.ZA aEY (fun _=> []) (fun s:Nat×Nat=> a'<=s.1/\s.1<b'/\s.2<=2) rfl rfl rfl rfl rfl dE (fun _=> by simp) (fun H hs=> .h (nO M H dec sb true x jj n cap a' b' oM (vJ.uD o2) h40 oM oM (hs.get (i:=0) rfl))) (fun⟨p,h⟩ ⟨v1,v2,v3⟩=> ?_));refine U6 ?_;simp only at v1 v2 v3;refine U ?_;refine Tc.via (fun R' L'=> ∃(p:Nat) (y:List Int),a'<=p/\p<b'/\kA a' b' x y/\(∃h:Nat,PB [(0,.slice (some ⟨sb,0,none⟩) n cap),(1,.int .i64 (a':Nat)),(2,.int .i64 (b':Nat)),(3,.int .i64 (lm1:Nat)),(8,.bool wb),(9,.bool wp),(10,.int .i64 (m:Nat)),(11,.int .i64 (p:Nat)),(12,.int .i64 (h:Nat))] R')/\L'= [(sb,true,.cells ⟨(nA dec y)++jj⟩ 9 (0,0))]) ?_ (fun fin=> ?_)
    ·clear v1 v2 v3;rintro R' _ ⟨p,y,v1,v2,o3,⟨h,kL⟩,rfl⟩;refine Tc.rC ?_ kL (List.Sublist.refl _);have hyl:=o3.len;refine U ?_;refine Tc.via (fun R' L'=> ∃y':List Int,kA a' b' y y'/\PB [(0,.slice (some ⟨sb,0,none⟩) n cap),(1,.int .i64 (a':Nat)),(2,.int .i64 (b':Nat)),(3,.int .i64 (lm1:Nat)),(8,.bool wb),(9,.bool wp),(10,.int .i64 (m:Nat)),(11,.int .i64 (p:Nat))] R'/\L'= [(sb,true,.cells ⟨(nA dec y')++jj⟩ 9 (0,0))]) ?_ (fun fin=> ?_)
     ·rintro R' _ ⟨y,o4,kL,rfl⟩;refine Tc.rC ?_ kL (List.Sublist.refl _);clear kL;replace o3:=o3.trans o4;have hyl:=o3.len;have hEy:=vJ.uD (o2.trans o3);refine U ?_;have g5y:=(g5.trans ((o2.trans o3).wide g1 g3))
      have gy:jI l a b a' b' y:=g6.VH (o2.trans o3);have ay:vE a' b' y:=g7.VH (o2.trans o3) oM;refine Tc.via (fun R' L'=> PB [(0,.slice (some ⟨sb,0,none⟩) n cap),(1,.int .i64 (a':Nat)),(2,.int .i64 (b':Nat)),(3,.int .i64 (lm1:Nat)),(8,.bool wb),(9,.bool wp),(10,.int .i64 (m:Nat)),(11,.int .i64 (p:Nat))] R'/\L'= [(sb,true,.cells ⟨(nA dec y)++jj⟩ 9 (0,0))]) ?_ (fun fin=> ?_)
      ·rintro R' _ ⟨kL,rfl⟩;refine Tc.rC ?_ kL (List.Sublist.refl _);clear kL;refine U6 ?_;refine .e (Or.fT (dec:=dec) (l:=y) 0 (fun s:Nat×Bool×List Int=> .tuple ⟨[.int .i64 (s.1:Nat),.bool s.2.1]⟩) (fun s=> s.2.2) (fun s=> kA a' b' y s.2.2/\Part a' b' s.1 s.2.2) rfl rfl rfl rfl rfl dE rfl (fun H hs=> .h (SS M H dec sb y jj n cap a' b' p oM hEy oM oM oM (hs.get (i:=0) rfl))) (fun⟨zJ,al,w⟩ ⟨k1,k2⟩=> ?_));refine U6 ?_;simp only at k1 k2;have k3:=k2.aj;have k4:=k2.jb;have P5:=k1.len;have IW:=hEy.uD k1;have gw:jI l a b a' b' w:=gy.VH k1;have aw:vE a' b' w:=ay.VH k1 oM;have e1:((zJ:Nat):Int)-((a':Nat):Int)=((zJ-a':Nat):Int):=by omega
       have e2:((b':Nat):Int)-((zJ:Nat):Int)=((b'-zJ:Nat):Int):=by omega
       have hq:pA .quo .i64 ((m:Nat):Int) 8=some (.int .i64 ((m/8:Nat):Int)):=by
        rw[VS oM oM oM]
        congr 2
       have hgt:∀x y:Nat,pA .geq .i64 ((x:Nat):Int) ((y:Nat):Int)=some (.bool (decide (y<=x))):=fun x y=> by
        by_cases c:y<=x
        ·rw[decide_eq_true c];exact WJ oM
        ·rw[decide_eq_false c];exact cI oM
       have hg1:=hgt (zJ-a') (m/8);have nM:=hgt (b'-zJ) (m/8);refine vQ ?_;rw[e1,e2];refine U7 ?_;by_cases c5:zJ-a'<b'-zJ
       ·refine lD ?_;refine .i ?_ (z:=hg1);refine U8 ?_;refine .e (Or.BE (dec:=dec) (l:=w) 0 (fun v m=> v=.tuple ⟨[]⟩/\kA a' zJ w m/\HE a' zJ m) rfl rfl rfl rfl rfl dE rfl (fun H hs=> .h (ihd H w a' zJ lm1 oM oM oM oM oM IW (aw.left oM) (hs.get (i:=0) rfl))) (fun v x ⟨_,xt,xs⟩=> ?_));refine U7 ?_;have hxn:=xt.len;have r1:kA a b l x:=g5y.trans ((k1.trans (xt.wide oM oM)).wide oM oM);have r2:jI l a b (zJ+1) b' x:=gw.right k2 oM xt xs;have r3:vE (zJ+1) b' x:=k2.ahead xt;have r4:lm1<=lim:=by omega
        have r5:a<=zJ+1:=by omega
        have r6:zJ+1<=b':=by omega
        exact Tc.db (ih ⟨(zJ+1,b',lm1,decide (m/8<=zJ-a'),al,x),r5,r6,g3,r4,r1,r2,r3⟩ (by simp only;omega))
       ·refine lD ?_;refine .i ?_ (z:=nM);refine U9 ?_;refine .e (Or.BE (dec:=dec) (l:=w) 0 (fun v m=> v=.tuple ⟨[]⟩/\kA (zJ+1) b' w m/\HE (zJ+1) b' m) rfl rfl rfl rfl rfl dE rfl (fun H hs=> .h (ihd H w (zJ+1) b' lm1 oM oM oM oM oM IW (k2.ahead (kA.refl a' zJ w)) (hs.get (i:=0) rfl))) (fun v x ⟨_,xt,xs⟩=> ?_));refine U6 ?_;have r1:kA a b l x:=g5y.trans ((k1.trans (xt.wide oM oM)).wide oM oM);have r2:jI l a b a' zJ x:=gw.left k2 oM xt xs;have r3:vE a' zJ x:=(aw.left oM).keep xt;have r4:lm1<=lim:=by omega
        have r5:a'<=zJ:=by omega
        have r6:zJ<=b:=by omega
        exact Tc.db (ih ⟨(a',zJ,lm1,decide (m/8<=b'-zJ),al,x),g1,r5,r6,r4,r1,r2,r3⟩ (by simp only;omega))
      ·by_cases c3:a'=0
       ·subst c3;refine U ?_;refine Tc.dr [] [] mixed rfl ?_;refine V3 0 ?_;refine .nw 3 ?_;refine .nw 4 ?_;refine .nw 5 ?_;refine .nw 6 ?_;refine .nw 7 ?_;refine .nw 8 ?_;refine .nw 9 ?_;refine .nw 10 ?_;refine .nw 11 ?_;refine .nw 12 ?_;refine .nw 13 ?_;refine .nn 14 ?_;refine .dn ?_;refine U2 ?_;exact Tc.db (fin [(0,.slice (some ⟨sb,0,none⟩) n cap),(1,.int .i64 (0:Nat)),(2,.int .i64 (b':Nat)),(3,.int .i64 (lm1:Nat)),(8,.bool wb),(9,.bool wp),(10,.int .i64 (m:Nat)),(11,.int .i64 (p:Nat))] [(sb,true,.cells ⟨(nA dec y)++jj⟩ 9 (0,0))] ⟨⟨rfl,rfl,rfl,rfl,rfl,rfl,rfl,rfl,trivial⟩,rfl⟩)
       ·have ea:((a':Nat):Int)-1=((a'-1:Nat):Int):=by omega
        have y1:=rA (dec:=dec) (m:=y) (j:=jj) (k:=((a':Nat):Int)-1) (p:=a'-1) oM oM;have y2:=rA (dec:=dec) (m:=y) (j:=jj) (k:=(p:Nat)) (p:=p) rfl oM;by_cases HB:xA y (a'-1)<xA y p
        ·refine U ?_;refine Tc.dr [] [] mixed rfl ?_;refine gO 0 ?_;refine .z 12 rfl (qA.tk fun H hs=> aC M H hEy (uA oM) (uA oM) true (decide_eq_true HB)) ?_;refine V2 13 ?_;refine .dn ?_;refine U2 ?_;exact Tc.db (fin [(0,.slice (some ⟨sb,0,none⟩) n cap),(1,.int .i64 (a':Nat)),(2,.int .i64 (b':Nat)),(3,.int .i64 (lm1:Nat)),(8,.bool wb),(9,.bool wp),(10,.int .i64 (m:Nat)),(11,.int .i64 (p:Nat))] [(sb,true,.cells ⟨(nA dec y)++jj⟩ 9 (0,0))] ⟨⟨rfl,rfl,rfl,rfl,rfl,rfl,rfl,rfl,trivial⟩,rfl⟩)
        ·have pS:∀i,a'<=i->i<b'->xA y p<=xA y i:=fun i q1 q2=> by
          rcases ay with h0|h0
          ·exact absurd h0 c3
          ·have:=h0 i q1 q2;omega
         refine U ?_;refine Tc.dr [] [] mixed rfl ?_;refine gO 0 ?_;refine .z 12 rfl (qA.tk fun H hs=> aC M H hEy (uA oM) (uA oM) false (decide_eq_false HB)) ?_;refine V2 13 ?_;refine .dn ?_;refine U2 ?_;clear fin;refine U5 ?_;refine .e (Or.fT (dec:=dec) (l:=y) 0 (fun s:Nat×List Int=> .int .i64 (s.1:Nat)) (fun s=> s.2) (fun s=> kA a' b' y s.2/\XL a' b' s.1 (xA y p) s.2) rfl rfl rfl rfl rfl dE rfl (fun H hs=> .h (YZ M H dec sb y jj n cap a' b' p oM hEy oM h40 oM (hs.get (i:=0) rfl))) (fun⟨zJ,w⟩ ⟨k1,k2⟩=> ?_));refine U2 ?_;simp only at k1 k2;have k3:=k2.ac;have k4:=k2.cb;have P5:=k1.len;refine U6 ?_;have r1:kA a b l w:=g5y.trans (k1.wide oM oM);have r2:jI l a b zJ b' w:=gy.eq k2 k1 (k1.all oM (P:=fun z=> xA y p<=z) pS) oM;have r3:vE zJ b' w:=k2.ahead;have r4:lm1<=lim:=by omega
         have r5:a<=zJ:=by omega
         exact Tc.db (ih ⟨(zJ,b',lm1,wb,wp,w),r5,k4,g3,r4,r1,r2,r3⟩ (by simp only;omega))
     ·refine U ?_;by_cases c4:wb=true/\wp=true/\h=1
      ·obtain⟨rfl,rfl,rfl⟩:=c4;refine vQ ?_;refine .e (Or.fT (dec:=dec) (l:=y) 0 (fun s:Bool×List Int=> .bool s.1) (fun s=> s.2) (fun s=> kA a' b' y s.2/\(s.1=true->HE a' b' s.2)) rfl rfl rfl rfl rfl dE rfl (fun H hs=> .h (bA.mono (qX M H dec sb y jj n cap a' b' oM (vJ.uD (o2.trans o3)) oM h40 oM (g7.VH (o2.trans o3) oM) (hs.get (i:=0) rfl)) (fun v H' ⟨q1,m',⟨t',q2,q3,q4⟩,q5⟩=> ⟨q1,m',⟨(t',m'),q2,rfl,q3,q4⟩,q5⟩))) (fun⟨t,y2⟩ ⟨ht,OO⟩=> ?_));refine U ?_;simp only at ht OO;cases t
       ·refine U2 ?_;exact Tc.db (fin [(0,.slice (some ⟨sb,0,none⟩) n cap),(1,.int .i64 (a':Nat)),(2,.int .i64 (b':Nat)),(3,.int .i64 (lm1:Nat)),(8,.bool true),(9,.bool true),(10,.int .i64 (m:Nat)),(11,.int .i64 (p:Nat))] [(sb,true,.cells ⟨(nA dec y2)++jj⟩ 9 (0,0))] ⟨y2,ht,⟨rfl,rfl,rfl,rfl,rfl,rfl,rfl,rfl,trivial⟩,rfl⟩)
       ·have SA:=(g6.VH (o2.trans o3)) y2 ht (OO rfl);refine U ?_;refine .rt hK func196 results196 [] ?_;exact fun H' hs=> gB.of (dec:=dec) hs (i:=0) rfl ⟨rfl,SA⟩
      ·have c5:wb=true->wp=true->h≠1:=fun e1 e2 e3=> c4 ⟨e1,e2,e3⟩;cases wb
       ·cases wp
        ·refine NF ?_;exact Tc.db (fin [(0,.slice (some ⟨sb,0,none⟩) n cap),(1,.int .i64 (a':Nat)),(2,.int .i64 (b':Nat)),(3,.int .i64 (lm1:Nat)),(8,.bool false),(9,.bool false),(10,.int .i64 (m:Nat)),(11,.int .i64 (p:Nat))] [(sb,true,.cells ⟨(nA dec y)++jj⟩ 9 (0,0))] ⟨y,kA.refl ..,⟨rfl,rfl,rfl,rfl,rfl,rfl,rfl,rfl,trivial⟩,rfl⟩)
        ·refine NF ?_;exact Tc.db (fin [(0,.slice (some ⟨sb,0,none⟩) n cap),(1,.int .i64 (a':Nat)),(2,.int .i64 (b':Nat)),(3,.int .i64 (lm1:Nat)),(8,.bool false),(9,.bool true),(10,.int .i64 (m:Nat)),(11,.int .i64 (p:Nat))] [(sb,true,.cells ⟨(nA dec y)++jj⟩ 9 (0,0))] ⟨y,kA.refl ..,⟨rfl,rfl,rfl,rfl,rfl,rfl,rfl,rfl,trivial⟩,rfl⟩)
       ·cases wp
        ·refine NF ?_;exact Tc.db (fin [(0,.slice (some ⟨sb,0,none⟩) n cap),(1,.int .i64 (a':Nat)),(2,.int .i64 (b':Nat)),(3,.int .i64 (lm1:Nat)),(8,.bool true),(9,.bool false),(10,.int .i64 (m:Nat)),(11,.int .i64 (p:Nat))] [(sb,true,.cells ⟨(nA dec y)++jj⟩ 9 (0,0))] ⟨y,kA.refl ..,⟨rfl,rfl,rfl,rfl,rfl,rfl,rfl,rfl,trivial⟩,rfl⟩)
        ·have c6:=c5 rfl rfl;refine NF ?_;exact Tc.db (fin [(0,.slice (some ⟨sb,0,none⟩) n cap),(1,.int .i64 (a':Nat)),(2,.int .i64 (b':Nat)),(3,.int .i64 (lm1:Nat)),(8,.bool true),(9,.bool true),(10,.int .i64 (m:Nat)),(11,.int .i64 (p:Nat))] [(sb,true,.cells ⟨(nA dec y)++jj⟩ 9 (0,0))] ⟨y,kA.refl ..,⟨rfl,rfl,rfl,rfl,rfl,rfl,rfl,rfl,trivial⟩,rfl⟩)
    ·refine U ?_;by_cases c4:h=2
     ·have e1:((b':Nat):Int)-1-(((p:Nat):Int)-((a':Nat):Int))=((b'-1-(p-a'):Nat):Int):=by omega
      refine lD ?_;refine .e (Or.BE (dec:=dec) (l:=x) 0 (fun v m=> v=.tuple ⟨[]⟩/\kA a' b' x m) rfl rfl rfl rfl rfl dE rfl (fun H hs=> .h (zX M H dec sb x jj n cap a' b' oM oM oM oM (hs.get (i:=0) rfl))) (fun v y ⟨_,yt⟩=> ?_));refine PE ?_;rw[e1];refine U3 ?_;exact Tc.db (fin [(0,.slice (some ⟨sb,0,none⟩) n cap),(1,.int .i64 (a':Nat)),(2,.int .i64 (b':Nat)),(3,.int .i64 (lm1:Nat)),(8,.bool wb),(9,.bool wp),(10,.int .i64 (m:Nat)),(11,.int .i64 (b'-1-(p-a'):Nat)),(12,.int .i64 (1:Nat))] [(sb,true,.cells ⟨(nA dec y)++jj⟩ 9 (0,0))] ⟨b'-1-(p-a'),y,oM,oM,yt,⟨1,rfl,rfl,rfl,rfl,rfl,rfl,rfl,rfl,rfl,trivial⟩,rfl⟩)
     ·refine U6 ?_;exact Tc.db (fin [(0,.slice (some ⟨sb,0,none⟩) n cap),(1,.int .i64 (a':Nat)),(2,.int .i64 (b':Nat)),(3,.int .i64 (lm1:Nat)),(8,.bool wb),(9,.bool wp),(10,.int .i64 (m:Nat)),(11,.int .i64 (p:Nat)),(12,.int .i64 (h:Nat))] [(sb,true,.cells ⟨(nA dec x)++jj⟩ 9 (0,0))] ⟨p,x,oM,oM,kA.refl ..,⟨h,rfl,rfl,rfl,rfl,rfl,rfl,rfl,rfl,rfl,trivial⟩,rfl⟩)
   ·refine U ?_;cases wb
    ·have e1:((lm:Nat):Int)-1=((lm-1:Nat):Int):=by omega
     refine lD ?_;refine .e (Or.BE (dec:=dec) (l:=u) 0 (fun v m=> v=.tuple ⟨[]⟩/\kA a' b' u m) rfl rfl rfl rfl rfl dE rfl (fun H hs=> .h (B3 M H dec sb u jj n cap a' b' oM oM h40 oM (hs.get (i:=0) rfl))) (fun v x ⟨_,xt⟩=> ?_));refine U6 ?_;rw[e1];exact Tc.db (fin [(0,.slice (some ⟨sb,0,none⟩) n cap),(1,.int .i64 (a':Nat)),(2,.int .i64 (b':Nat)),(3,.int .i64 (lm-1:Nat)),(8,.bool false),(9,.bool wp),(10,.int .i64 (m:Nat))] [(sb,true,.cells ⟨(nA dec x)++jj⟩ 9 (0,0))] ⟨lm-1,x,oM,xt,⟨rfl,rfl,rfl,rfl,rfl,rfl,rfl,trivial⟩,rfl⟩)
    ·refine U6 ?_;exact Tc.db (fin [(0,.slice (some ⟨sb,0,none⟩) n cap),(1,.int .i64 (a':Nat)),(2,.int .i64 (b':Nat)),(3,.int .i64 (lm:Nat)),(8,.bool true),(9,.bool wp),(10,.int .i64 (m:Nat))] [(sb,true,.cells ⟨(nA dec u)++jj⟩ 9 (0,0))] ⟨lm,u,Nat.le_refl _,kA.refl ..,⟨rfl,rfl,rfl,rfl,rfl,rfl,rfl,trivial⟩,rfl⟩)
end
set_option maxHeartbeats 8000000
section
variable(M:Md prog)(H:View)
theorem M8(dec:Int->List UInt8)(sb:Nat)(l:List Int)(jj:List Value)(n cap:Nat)(hn:n=l.length)(hE:DN dec l)(yT:n<=100000000)(hS:H sb=some (true,.cells ⟨(nA dec l)++jj⟩ 9 (0,0))):
  bA M 120 #[.slice (some ⟨sb,0,none⟩) n cap] H (gB dec H sb jj (fun v m=> v=.tuple ⟨[]⟩/\kA 0 n l m/\HE 0 n m)):=by
 have hw:=u64_in (x:=n) oM;have hb:bl n<=32:=by
  by_cases h0:0<n
  ·have h1:=SK h0;have h3:2 ^ bl n<2 ^ 32:=by omega
   have:=(Nat.pow_lt_pow_iff_right (a:=2) dE).1 h3;omega
  ·unfold bl;rw[if_pos oM];omega
 refine bA.enter (vs:= [.slice (some ⟨sb,0,none⟩) n cap]) func120 rfl ntmps120 (Nat.le_of_ble_eq_true rfl) (gA.pull hS) fun St c cs hK=> ?_;refine PE ?_;refine .cl (fun H hs=> J2 M H n oM) ?_;refine .e (Or.BE (dec:=dec) (l:=l) 0 (fun v m=> v=.tuple ⟨[]⟩/\kA 0 n l m/\HE 0 n m) rfl rfl rfl rfl rfl dE rfl (fun H hs=> .h (aCn M dec sb jj n cap yT (n+1) H l 0 n (bl n) oM hn oM (Nat.le_refl _) oM hE (.inl rfl) (hs.get (i:=0) rfl))) (fun v m hm=> ?_));refine U ?_;obtain⟨rfl,ht,nI⟩:=hm;refine .ov hK func120 results120 [] ?_;exact fun H' hs=> gB.of hs (i:=0) rfl ⟨rfl,ht,nI⟩
end
theorem Or.s7 {dec:Int->List UInt8}{M:Md prog}{n:Nat}{H₀:View}{R:Rg}{L1:Bl}{o:Oper}{K:Rg->Bl->Prop}{cl:Go.Call}{x:Operand}{fv:Value}{d:Nat}(g:Gl 9 1)(u:List Int)(hg:g.l=(nA dec u))(hE:DN dec u)(yT:g.n<=100000000)
  (lA:o.op=.call cl) (nB:cl.callee=.value x) (hx:JA R x=some fv) (has:HD R cl.args.toList=some [g.val]) (hd:o.dst=some d) (hn:d<n)
  (hc:∀(H:View) (Q:Value->View->Prop),bA M 120 #[g.val] H Q->uB M fv [g.val] H Q)
  (hK:∀(g':Gl 9 1) (m:List Int),g'.val=g.val->g'.n=g.n->g'.blk=g.blk->g'.l=(nA dec m)->kA 0 g.n u m->HE 0 g.n m->K ((d,.tuple ⟨[]⟩)::R) (L1++g'.bl)):Or M n H₀ R (L1++g.bl) o K:=by
 have cN:u.length=g.n:=by have:=g.hl;rw[hg,MB] at this;omega
 cases hb:g.blk with
 | none=>
  have wB:=g.h0 hb;have R9:=g.hc;have h0:g.n=0:=by omega
  have YJ:g.bl= []:=by unfold Gl.bl;rw[hb]
  have hv:g.val=.slice none 0 g.cap:=by unfold Gl.val;rw[hb,h0];rfl
  refine Or.ZA (fun _:Unit=> .tuple ⟨[]⟩) (fun _=> []) (fun _=> True) lA nB hx has hd hn (fun _=> by simp) (fun H hs=> hc H _ ?_) (fun _ _=> ?_)
  ·rw[hv];exact bA.mono (tQ M H g.cap) (fun v H' ⟨h1,h2⟩=> ⟨h1,(),h2,trivial,by simp⟩)
  ·rw[List.append_nil];exact hK g u rfl rfl rfl hg (kA.refl _ _ _) (fun p q h1 h2 h3=> by omega)
 | some b=>
  have YJ:g.bl= [(b,true,.cells ⟨(nA dec u)++g.qB⟩ 9 (0,0))]:=by unfold Gl.bl;rw[hb,hg]
  have hv:g.val=.slice (some ⟨b,0,none⟩) g.n g.cap:=by unfold Gl.val;rw[hb];rfl
  rw[YJ];refine Or.BE (dec:=dec) (l:=u) L1.length (fun v m=> v=.tuple ⟨[]⟩/\kA 0 g.n u m/\HE 0 g.n m) lA nB hx has hd hn (by rw[List.getElem?_append_right (Nat.le_refl _),Nat.sub_self];rfl)
   (fun H hs=> hc H _ ?_) (fun v m ⟨h1,h2,h3⟩=> ?_)
  ·rw[hv];exact M8 M H dec b u g.qB g.n g.cap cN.symm hE yT (hs.get (i:=L1.length) (by rw[List.getElem?_append_right (Nat.le_refl _),Nat.sub_self];rfl))
  ·subst h1;have GK:m.length=g.n:=by rw[h2.len];exact cN
   have:=hK (Gl.xR g (nA dec m) (by rw[MB];exact GK)) m rfl rfl rfl rfl h2 h3;have S4:(Gl.xR g (nA dec m) (by rw[MB];exact GK)).bl= [(b,true,.cells ⟨(nA dec m)++g.qB⟩ 9 (0,0))]:=by
    unfold Gl.bl Gl.xR;simp only[hb]
   rw[S4] at this;rw[List.set_append_right _ _ (Nat.le_refl _),Nat.sub_self];exact this
set_option maxHeartbeats 16000000
def bI:List UInt8:= [49,50,51,52,53,54,55,56,57]
def sF(most n:Nat):List (List UInt8):=(List.range n).flatMap fun i=> bM (bI.take most) (i+1)
theorem kK(most n:Nat):sF most (n+1)=sF most n++bM (bI.take most) (n+1):=by
 unfold sF;rw[List.range_succ,List.flatMap_append];simp
theorem SM(dg:List UInt8):∀(d:Nat) (s:List UInt8),(aD dg d s).length=dg.length ^ d
 | 0,_=> rfl
 | d+1,s=> by
  unfold aD;rw[List.length_flatMap];have:∀x∈dg,(fun x=> (aD dg d (s++[x])).length) x=(fun _=> dg.length ^ d) x:=fun x _=> SM dg d _;rw[List.map_congr_left this,List.map_const',List.sum_replicate_nat,Nat.pow_succ,Nat.mul_comm]
theorem VT {most n:Nat}(hm:most<=3)(hn:n<=3):(bM (bI.take most) n).length<=27:=by
 unfold bM;rw[SM];have hl:(bI.take most).length<=3:=by rw[List.length_take];omega
 calc (bI.take most).length ^ n<=3 ^ n:=Nat.pow_le_pow_left hl n
  _<=3 ^ 3:=Nat.pow_le_pow_right dE hn
  _=27:=by decide
theorem CQ {most:Nat}(hm:most<=3):∀n,n<=3->(sF most n).length<=27*n
 | 0,_=> Nat.le_refl _
 | n+1,h=> by
  rw[kK,List.length_append];have h1:=CQ hm n oM;have h2:=VT hm h;omega
theorem IQ(most:Nat):(bI.take most).all BD=true:=by
 have h:bI.all BD=true:=by decide +kernel
 exact List.all_eq_true.2 fun x hx=> List.all_eq_true.1 h x (List.mem_of_mem_take hx)
theorem OZ {most n:Nat}{s:List UInt8}(h:s∈sF most n)(hn:n<=3):s.all BD=true/\s.length<=3:=by
 obtain⟨i,hi,h2⟩:=List.mem_flatMap.1 h;obtain⟨h3,h4⟩:=PU h2;have:=List.mem_range.1 hi;exact⟨List.all_eq_true.2 fun y hy=> List.all_eq_true.1 (IQ most) y (h4 y hy),oM⟩
theorem aEX(a b c d e f:Nat×Bool×Obj)(B:Bl):(a::b::c::d::e::f::B).Perm (c::d::e::a::b::f::B):=by
 have h1:([a,b]++c::(d::e::f::B)).Perm (c::([a,b]++d::e::f::B)):=List.perm_middle;have h2:([a,b]++d::(e::f::B)).Perm (d::([a,b]++e::f::B)):=List.perm_middle;have h3:([a,b]++e::(f::B)).Perm (e::([a,b]++f::B)):=List.perm_middle;exact h1.trans (.cons _ (h2.trans (.cons _ h3)))
def aI(w:Nat->Int)(nw digits most:Nat):RG:=jF (GL (sF most digits)) w nw [] 0 ⟨false,0,[]⟩
def N3(num:Value)(t a:Int):Value:=.tuple ⟨[num,.int .i64 t,.int .i64 a]⟩
section
variable(M:Md prog)(H:View)
theorem ZV(A:Option Addr)(nw wc:Nat)(w:Nat->Int)(hA:rB H A nw w)(digits most:Nat)(h0:1<=(nw:Int)/\(nw:Int)<=3)(hw:(jA (fun j=> !FE (w j)) nw).isSome=false)(hd:1<=((digits:Nat):Int)/\((digits:Nat):Int)<=3)(hm:1<=((most:Nat):Int)/\((most:Nat):Int)<=3):
  bA M 58 #[.slice A nw wc,.int .i64 (digits:Nat),.int .i64 (most:Nat)] H (fun v H'=> H.le H'/\∃a n c',v=N3 (.slice a n c') (aI w nw digits most).total (aI w nw digits most).al/\n=(aI w nw digits most).rE.length/\OA H' 1 (.slice a n c') n (GB (aI w nw digits most).rE)/\n<=c'):=by
 have hc:=fun(H':View) (h':H.le H')=> PM M H' A nw wc w (hA.le h') oM (.func (.func 140) #[] #[]) (fun j=> !FE (w j)) (fun j _ H'' _=> .h (PV M H'' (w j)));have aGr:∀i,i<nw->0<=w i/\w i<=99:=fun i hi=> by
  have h1:jA (fun j=> !FE (w j)) nw=none:=by
   cases hz:jA (fun j=> !FE (w j)) nw with
   | none=> rfl
   | some y=> rw[hz] at hw;cases hw
  have h2:=(kB _).1 h1 i hi;unfold FE at h2;simpa using h2
 refine .en func58 ntmps58 fun St c cs hK=> ?_;refine U2 ?_;refine .bo fun b3=> ?_;refine .al fun b6=> ?_;refine .al fun b7=> ?_;refine .al fun b8=> ?_;refine U7 ?_;refine .cl (fun H hs=> zA M H (nw:Nat) 1 3 true (decide_eq_true h0)) ?_;refine U8 ?_;refine .cl (fun H hs=> JF (hc H hs.base) hw) ?_;refine U6 ?_;refine .cl (fun H hs=> zA M H (digits:Nat) 1 3 true (decide_eq_true hd)) ?_;refine U6 ?_;refine .cl (fun H hs=> zA M H (most:Nat) 1 3 true (decide_eq_true hm)) ?_;refine U8 ?_;refine .al fun b9=> ?_;refine U8 ?_;refine Tc.db (Tc.NI (σ:= { y:View×Nat×Gl 9 1//H.le y.1/\y.2.1<=digits/\y.2.2.l=GB (sF most y.2.1)/\y.2.2.n=(sF most y.2.1).length })
  (fun y=> (y.1.1,[(2,.int .i64 (most:Nat)),(3,.pointer (some ⟨b3,0,none⟩)),(6,.pointer (some ⟨b6,0,none⟩)),(7,.pointer (some ⟨b7,0,none⟩)),(8,.pointer (some ⟨b8,0,none⟩)),(9,.pointer (some ⟨b9,0,none⟩)),(26,.int .i64 (digits:Nat)),(27,.int .i64 (y.1.2.1:Nat))],
   [(b9,true,.cells ⟨[y.1.2.2.val]⟩ 107 (0,0)),(b8,true,.cells ⟨[.int .i64 0]⟩ 25 (0,0)),(b7,true,.cells ⟨[.int .i64 0]⟩ 3 (0,0)),(b6,true,.cells ⟨[.slice none 0 0]⟩ 107 (0,0)),(b3,true,.cells ⟨[.slice A nw wc]⟩ 24 (0,0))]++y.1.2.2.bl)) (fun y=> digits-y.1.2.1) ?_ ⟨(H,0,Gl.nil 9 1),View.le_refl _,Nat.zero_le _,rfl,rfl⟩)
 rintro⟨⟨H₁,i,g⟩,g1,g2,g3,g4⟩ ih;simp only at g1 g2 g3 g4;show Tc M St _ _ H₁ _ [(2,.int .i64 (most:Nat)),(3,.pointer (some ⟨b3,0,none⟩)),(6,.pointer (some ⟨b6,0,none⟩)),(7,.pointer (some ⟨b7,0,none⟩)),(8,.pointer (some ⟨b8,0,none⟩)),(9,.pointer (some ⟨b9,0,none⟩)),(26,.int .i64 (digits:Nat)),(27,.int .i64 (i:Nat))]
   ([(b9,true,.cells ⟨[g.val]⟩ 107 (0,0)),(b8,true,.cells ⟨[.int .i64 0]⟩ 25 (0,0)),(b7,true,.cells ⟨[.int .i64 0]⟩ 3 (0,0)),(b6,true,.cells ⟨[.slice none 0 0]⟩ 107 (0,0)),(b3,true,.cells ⟨[.slice A nw wc]⟩ 24 (0,0))]++g.bl) _ _
 have nB:=CQ (most:=most) oM i oM;by_cases c1:i=digits
 ·subst c1;refine lD ?_;refine .e (Or.s7 (dec:=XK (sF most i)) (L1:= [(b9,true,.cells ⟨[g.val]⟩ 107 (0,0)),(b8,true,.cells ⟨[.int .i64 0]⟩ 25 (0,0)),(b7,true,.cells ⟨[.int .i64 0]⟩ 3 (0,0)),(b6,true,.cells ⟨[.slice none 0 0]⟩ 107 (0,0)),(b3,true,.cells ⟨[.slice A nw wc]⟩ 24 (0,0))]) g (CF (sF most i)) (g3.trans (vN _).symm) (gH _) oM rfl rfl rfl rfl rfl dE (fun H Q h=> .h h) (fun g' m A8 rM JO J1 ht hs'=> ?_));rw[<-A8];have hso:=VR g4 ht hs';have TP:g'.l=GB (GL (sF most i)):=by rw[J1,rR,hso];rfl
  have L5:(GL (sF most i)).length=(sF most i).length:=(TH _).length_eq;clear J1 ht hs' hso A8;refine U7 ?_;refine .al fun b11=> ?_;refine U9 ?_;refine To.lift (L₂:= []) (L₁:= [(b11,true,.cells ⟨[qW b8 b7 b3 b6 b9 b11]⟩ 249 (0,0)),(b9,true,.cells ⟨[g'.val]⟩ 107 (0,0)),(b8,true,.cells ⟨[.int .i64 9]⟩ 25 (0,0)),(b7,true,.cells ⟨[.int .i64 0]⟩ 3 (0,0)),(b6,true,.cells ⟨[.slice none 0 0]⟩ 107 (0,0)),(b3,true,.cells ⟨[.slice A nw wc]⟩ 24 (0,0))]++g'.bl) rfl (fun Hx hx=> ?_);obtain⟨H',h1,h2⟩:=gA.oD (B:= [(b8,true,.cells ⟨[.int .i64 9]⟩ 25 (0,0)),(b7,true,.cells ⟨[.int .i64 0]⟩ 3 (0,0)),(b6,true,.cells ⟨[.slice none 0 0]⟩ 107 (0,0))]) (L:= [(b11,true,.cells ⟨[qW b8 b7 b3 b6 b9 b11]⟩ 249 (0,0)),(b9,true,.cells ⟨[g'.val]⟩ 107 (0,0)),(b3,true,.cells ⟨[.slice A nw wc]⟩ 24 (0,0))]++g'.bl) (hx.perm (by
   simp only[List.cons_append,List.nil_append];exact(aEX _ _ _ _ _ _ _).symm))
  have wB:HT (GL (sF most i)) w nw b8 b7 b3 b6 b9 b11 (g'.blk.map fun b=> ⟨b,0,none⟩) A g'.cap wc H':=
   ⟨⟨true,h2.get (i:=0) rfl⟩,⟨true,by have h3:=h2.get (i:=1) rfl;rw[L5,<-g4,<-rM];exact h3⟩,⟨true,h2.get (i:=2) rfl⟩,by
    have h3:=EJ (g0:=g') g' (H:=H') (fun x hx=> h2.at_ x (List.mem_append_right _ hx)) TP rfl rfl;rw[rM,g4,<-L5] at h3;exact h3,(hA.le g1).le h2.base⟩
  refine To.vB rfl rfl rfl rfl rfl rfl dE (uB.of (first:= []) (captured:= [_,_,_,_,_,_]) cU rfl (aAj M (GL (sF most i)) w nw b8 b7 b3 b6 b9 b11 (g'.blk.map fun b=> ⟨b,0,none⟩) A g'.cap wc oM (by rw[L5];omega) (fun s hs=> OZ ((TH _).mem_iff.1 hs) oM) aGr nw (Gl.nil 9 1) [] 0 ⟨false,0,[]⟩ none 0 0 H' Hx rfl (Nat.zero_add _) dE wB rfl ⟨⟨⟨_,_,rfl⟩,rfl,.inl ⟨none,0,rfl,rfl⟩⟩,Nat.le_refl 0⟩ h1)) (fun v H₃ hv=> ?_);obtain⟨_,H₄,g4',a4,n4,c4,r1,r2,r3,r4,r5⟩:=hv;refine To.expand r2 ?_;unfold M0;refine U2 ?_;refine Tc.dr [] [] mixed rfl ?_;refine V3 0 ?_;refine .ea 3 rfl (.st 2 (zz:=⟨S2.mk sL (.inr sL),?_⟩));refine .ea 4 rfl (.st 1 (zz:=⟨S2.mk sL (.inr sL),?_⟩));refine .ea 5 rfl (.st 0 (zz:=⟨S2.mk sL (.inr sL),?_⟩));refine .dn ?_;refine .rt hK func58 results58 [_,_,_] ?_;exact fun H' hs=> ⟨View.le_trans g1 (View.le_trans h2.base (View.le_trans r1 hs.base)),a4,n4,c4,rfl,r4,r5.1.mono hs.base,r5.2⟩
 ·have c2:i<digits:=by omega
  have VV:=VT (most:=most) (n:=i+1) oM oM;have K1:([49,50,51,52,53,54,55,56,57]:List UInt8).length=9:=rfl;have PQ:(bI.take most).length<=1000:=by rw[List.length_take];omega
  refine QE ?_;refine Tc.drT [7] [6] [0] 5 mixed rfl ?_;refine .oo 0 ?_;refine .oo 1 ?_;refine .oo 2 ?_;refine .oo 3 ?_;refine Ta.IX 4 kR rfl rfl dE rfl rfl (qA.take (qA.XG (E:=en) rfl rfl rfl rfl rfl rfl oM oM oM)) ?_;refine .ea 5 rfl (Or.ZA (fun s=> UT s.1.1 s.1.2) (xQ (i+1) (bI.take most)) (fun _=> True) rfl rfl rfl rfl rfl dE (TT _ _) (fun H hs=> .h (aDU M H (i+1) (bI.take most))) (fun s _=> ⟨S3.mk sL (.inr sL),?_⟩));refine Ta.lift (L₂:= [(b9,true,.cells ⟨[g.val]⟩ 107 (0,0)),(b8,true,.cells ⟨[.int .i64 0]⟩ 25 (0,0)),(b7,true,.cells ⟨[.int .i64 0]⟩ 3 (0,0)),(b6,true,.cells ⟨[.slice none 0 0]⟩ 107 (0,0)),(b3,true,.cells ⟨[.slice A nw wc]⟩ 24 (0,0))]) (L₁:=g.bl++xQ (i+1) (bI.take most) s) rfl (fun Hx hx=> ?_);obtain⟨H',h1,h2⟩:=hx.oD;refine Ta.vB 6 kR rfl kR rfl rfl rfl rfl rfl rfl dE (uB.h (FT M g (sF most i) g3 oM (i+1) (bI.take most) oM (IQ most) PQ oM s.1.1 s.1.2 H' Hx ⟨⟨true,h2.get (i:=0) rfl⟩,⟨true,h2.get (i:=1) rfl⟩⟩ h1)) (fun v H₃ hv=> ?_);obtain⟨g',H₂,rfl,q1,q2,q3,q4⟩:=hv;refine Ta.expand q2 ?_;refine .ea 7 rfl (.st 0 (zz:=⟨S3.off kR,?_⟩));refine .dn ?_;refine U5 ?_;exact Tc.db (ih ⟨(H₂,i+1,g'),View.le_trans g1 (View.le_trans h2.base q1),by simp only;omega,by simp only;rw[kK];exact q3,by simp only;rw[kK,List.length_append,q4,g4]⟩ (by simp only;omega))
theorem YV(A:Option Addr)(nw wc:Nat)(w:Nat->Int)(hA:rB H A nw w)(digits most:Nat)(h0:1<=(nw:Int)/\(nw:Int)<=3)(hw:(jA (fun j=> !FE (w j)) nw).isSome=false)(hd:1<=((digits:Nat):Int)/\((digits:Nat):Int)<=3)(hm:1<=((most:Nat):Int)/\((most:Nat):Int)<=3):
  bA M 58 #[.slice A nw wc,.int .i64 (digits:Nat),.int .i64 (most:Nat)] H (fun v H'=> H.le H'/\∃a n c',v=N3 (.slice a n c') (aI w nw digits most).total (aI w nw digits most).al/\n=(aI w nw digits most).rE.length/\OA H' 1 (.slice a n c') n (GB (aI w nw digits most).rE)):=
 bA.mono (ZV M H A nw wc w hA digits most h0 hw hd hm) (by
  rintro v H' ⟨h1,a,n,c',h2,h3,h4,_⟩;exact⟨h1,a,n,c',h2,h3,h4⟩)
end
end Go.Proofs.YtldmfjcgjdchcaaGreatDoor
namespace Go.Proofs.YtldmfjcgjdchcaaGreatDoor
open Go.RL Go.Proofs.Tryz
set_option maxRecDepth 10000
theorem yI {l:List Int}{x:Int}:∀k,k<=l.length->(x∈jB l k<->∃i,i<k/\xA l i=x)
 | 0,_=> by simp[jB]
 | k + 1,hk=> by
  have ih:=yI (l:=l) (x:=x) k oM;unfold jB;split
  ·rename_i h
   rw[ih];constructor
   ·rintro⟨i,h1,h2⟩;exact⟨i,oM,h2⟩
   ·rintro⟨i,h1,h2⟩;by_cases e:i=k
    ·subst e;exact⟨i-1,oM,by rw[<-h.2];exact h2⟩
    ·exact⟨i,oM,h2⟩
  ·rw[List.mem_append,ih,List.mem_singleton];constructor
   ·rintro(⟨i,h1,h2⟩|rfl)
    ·exact⟨i,oM,h2⟩
    ·exact⟨k,oM,rfl⟩
   ·rintro⟨i,h1,h2⟩;by_cases e:i=k
    ·subst e;exact .inr h2.symm
    ·exact .inl ⟨i,oM,h2⟩
theorem vO {l:List Int}{n:Nat}(hs:HE 0 n l)(hn:n<=l.length):∀k,k<=n->(jB l k).Pairwise (· < ·)
 | 0,_=> List.Pairwise.nil
 | k + 1,hk=> by
  have ih:=vO hs hn k oM;unfold jB;split
  ·exact ih
  ·rename_i h
   rw[List.pairwise_append];refine⟨ih,List.pairwise_singleton _ _,fun a ha b hb=> ?_⟩;have JO:b=xA l k:=by simpa using hb
   subst JO;obtain⟨i,h1,rfl⟩:=(yI k oM).1 ha;have h2:=hs i (k-1) (Nat.zero_le _);have h3:=hs (k-1) k (Nat.zero_le _) oM oM;have h4:xA l k≠xA l (k-1):=fun e=> h ⟨oM,e⟩;by_cases e:i=k-1
   ·subst e;omega
   ·have:=h2 oM oM;omega
theorem HE.at_mem {l:List Int}{x:Int}:x∈l<->∃i,i<l.length/\xA l i=x:=by
 rw[List.mem_iff_getElem];constructor
 ·rintro⟨i,h,rfl⟩;exact⟨i,h,by unfold xA;rw[List.getElem?_eq_getElem h];rfl⟩
 ·rintro⟨i,h,e⟩;refine⟨i,h,?_⟩;unfold xA at e;rw[List.getElem?_eq_getElem h] at e;exact e
theorem Z2 {l m:List Int}(hl:l.Pairwise (· < ·))(hm:m.Pairwise (· < ·))(h:∀x,x∈l<->x∈m):l=m:=by
 have hp:l.Perm m:=(List.perm_ext_iff_of_nodup (List.nodup_iff_pairwise_ne.2 (hl.imp (fun h=> Int.ne_of_lt h))) (List.nodup_iff_pairwise_ne.2 (hm.imp (fun h=> Int.ne_of_lt h)))).2 h;exact List.Perm.eq_of_pairwise (le:=(· <=·)) (fun a b _ _ h1 h2=> Int.le_antisymm h1 h2) (hl.imp (fun h=> Int.le_of_lt h)) (hm.imp (fun h=> Int.le_of_lt h)) hp
def ZY(l:List (List UInt8)):Prop:=l.Pairwise fun a b=> Op.bytesLess a b=true
theorem zQ {l m:List (List UInt8)}(hl:ZY l)(hm:ZY m)(h:∀x,x∈l<->x∈m):l=m:=by
 have ne:∀ {a b:List UInt8},Op.bytesLess a b=true->a≠b:=fun h e=> by rw[e,oH] at h;cases h
 have hp:l.Perm m:=(List.perm_ext_iff_of_nodup (List.nodup_iff_pairwise_ne.2 (hl.imp ne)) (List.nodup_iff_pairwise_ne.2 (hm.imp ne))).2 h;have le:∀ {a b:List UInt8},Op.bytesLess a b=true->ET a b=true:=fun h=> by unfold ET;rw[aR h];rfl
 exact uN hp (hl.imp le) (hm.imp le)
def sX(x:List UInt8):List (List UInt8)->List (List UInt8)
 | []=> [x]
 | y::t=> if Op.bytesLess x y then x::y::t else if x=y then y::t else y::sX x t
def QK:List (List UInt8)->List (List UInt8)
 | []=> []
 | x::t=> sX x (QK t)
theorem fP {x z:List UInt8}:∀l,z∈sX x l<->z=x\/z∈l
 | []=> by simp[sX]
 | y ::t=> by
  unfold sX;split
  ·simp
  ·split
   ·rename_i e
    subst e;simp
   ·rw[List.mem_cons,fP t,List.mem_cons];constructor
    ·rintro(h|h|h)
     ·exact .inr (.inl h)
     ·exact .inl h
     ·exact .inr (.inr h)
    ·rintro(h|h|h)
     ·exact .inr (.inl h)
     ·exact .inl h
     ·exact .inr (.inr h)
theorem kV(x:List UInt8):∀l,ZY l->ZY (sX x l)
 | [],_=> List.pairwise_singleton _ _
 | y ::t,h=> by
  obtain⟨h1,h2⟩:=List.pairwise_cons.1 h;unfold sX;split
  ·rename_i hx
   refine List.pairwise_cons.2 ⟨fun z hz=> ?_,h⟩;rcases List.mem_cons.1 hz with rfl|hz
   ·exact hx
   ·exact WE hx (h1 z hz)
  ·rename_i hx
   split
   ·exact h
   ·rename_i xB
    refine List.pairwise_cons.2 ⟨fun z hz=> ?_,kV x t h2⟩;rcases(fP t).1 hz with rfl|hz
    ·cases e:Op.bytesLess y z with
     | true=> rfl
     | false=> exact(xB (pH (by simpa using hx) e)).elim
    ·exact h1 z hz
theorem yJ {z:List UInt8}:∀l,z∈QK l<->z∈l
 | []=> Iff.rfl
 | x::t=> by
  unfold QK;rw[fP,yJ t,List.mem_cons]
theorem oJ:∀l,ZY (QK l)
 | []=> List.Pairwise.nil
 | x::t=> kV x _ (oJ t)
theorem oZ {S:List (List UInt8)}{m:List Int}{n:Nat}(hn:n=S.length)(ht:kA 0 n (CF S) m)(hs:HE 0 n m):(jB m n).map (XK S)=QK S:=by
 have GK:m.length=n:=by rw[ht.len,hn];simp[CF]
 have lE:∀x∈jB m n,x∈CF S:=fun x hx=> by
  obtain⟨i,h1,rfl⟩:=(yI n oM).1 hx;exact(ht.mem _).1 (uA oM)
 refine zQ ?_ (oJ S) (fun z=> ?_)
 ·unfold ZY;rw[List.pairwise_map];have h1:=vO hs oM n (Nat.le_refl _);refine List.Pairwise.imp_of_mem (fun {a b} ha hb h3=> ?_) h1;rw[gH S a (lE a ha) b (lE b hb)];exact decide_eq_true h3
 ·rw[yJ,List.mem_map];constructor
  ·rintro⟨x,hx,rfl⟩;obtain⟨s,h1,h2⟩:=List.mem_map.1 (lE x hx);rw[<-h2,zI h1];exact h1
  ·intro hz;refine⟨((qG S z:Nat):Int),?_,zI hz⟩;have h1:((qG S z:Nat):Int)∈m:=(ht.mem _).2 (List.mem_map.2 ⟨z,hz,rfl⟩);obtain⟨i,h2,h3⟩:=HE.at_mem.1 h1;exact(yI n oM).2 ⟨i,oM,h3⟩
theorem aU {l m:List (List UInt8)}(h:∀x,x∈l<->x∈m):QK l=QK m:=
 zQ (oJ l) (oJ m) fun x=> by rw[yJ,yJ,h]
def rX(x:Int):List Int->List Int
 | []=> [x]
 | y::t=> if x<y then x::y::t else if x=y then y::t else y::rX x t
def iZ:List Int->List Int
 | []=> []
 | x::t=> rX x (iZ t)
theorem eP {x z:Int}:∀l,z∈rX x l<->z=x\/z∈l
 | []=> by simp[rX]
 | y ::t=> by
  unfold rX;split
  ·simp
  ·split
   ·rename_i e
    subst e;simp
   ·rw[List.mem_cons,eP t,List.mem_cons];constructor
    ·rintro(h|h|h)
     ·exact .inr (.inl h)
     ·exact .inl h
     ·exact .inr (.inr h)
    ·rintro(h|h|h)
     ·exact .inr (.inl h)
     ·exact .inl h
     ·exact .inr (.inr h)
theorem jV(x:Int):∀l:List Int,l.Pairwise (· < ·)->(rX x l).Pairwise (· < ·)
 | [],_=> List.pairwise_singleton _ _
 | y ::t,h=> by
  obtain⟨h1,h2⟩:=List.pairwise_cons.1 h;unfold rX;split
  ·rename_i hx
   refine List.pairwise_cons.2 ⟨fun z hz=> ?_,h⟩;rcases List.mem_cons.1 hz with rfl|hz
   ·exact hx
   ·have:=h1 z hz;omega
  ·rename_i hx
   split
   ·exact h
   ·rename_i xB
    refine List.pairwise_cons.2 ⟨fun z hz=> ?_,jV x t h2⟩;rcases(eP t).1 hz with rfl|hz
    ·omega
    ·exact h1 z hz
theorem QU {z:Int}:∀l,z∈iZ l<->z∈l
 | []=> Iff.rfl
 | x::t=> by
  unfold iZ;rw[eP,QU t,List.mem_cons]
theorem ZT:∀l,(iZ l).Pairwise (· < ·)
 | []=> List.Pairwise.nil
 | x::t=> jV x _ (ZT t)
theorem S5 {S m:List Int}{n:Nat}(hn:n=S.length)(ht:kA 0 n S m)(hs:HE 0 n m):jB m n=iZ S:=by
 have GK:m.length=n:=by rw[ht.len,hn]
 refine Z2 (vO hs oM n (Nat.le_refl _)) (ZT S) (fun z=> ?_);rw[QU,yI n oM,<-ht.mem z,HE.at_mem,GK]
set_option maxHeartbeats 16000000
def Bk.FI(k:Bk):List (List UInt8):=QK ((k.eG k.nt).map (·.heard))
def aDO(g:Gl 9 1)(a:Int):Value:=.tuple ⟨[g.val,.int .i64 a]⟩
theorem aV {α:Type}:∀ {l m:List α},l.Nodup->(∀x∈l,x∈m)->l.length<=m.length
 | [],_,_,_=> Nat.zero_le _
 | x ::t,m,hn,hs=> by
  obtain⟨h1,h2⟩:=List.nodup_cons.1 hn;obtain⟨a,b,rfl⟩:=List.append_of_mem (hs x (List.mem_cons_self ..));have:=aV (l:=t) (m:=a++b) h2 (fun y hy=> by
   have:=hs y (List.mem_cons_of_mem _ hy);rcases List.mem_append.1 this with h|h
   ·exact List.mem_append_left _ h
   ·rcases List.mem_cons.1 h with rfl|h
    ·exact(h1 hy).elim
    ·exact List.mem_append_right _ h)
  simp only[List.length_append,List.length_cons] at this ⊢;omega
theorem vZ {k:Bk}{es:Array MapEntry}{cl n:Nat}(h:NB es cl (dL (k.bE n))):es.size<=(k.eG n).length:=by
 have zG:∀x∈es.toList.map (·.key),x∈(k.eG n).map YF.val:=by
  intro x hx;obtain⟨e,he,rfl⟩:=List.mem_map.1 hx;obtain⟨y,h1,h2,_⟩:=OD h e he;exact List.mem_map.2 ⟨y,(k.pD n y).2 h1,h2.symm⟩
 have:=aV h.keys zG;simpa using this
section
variable(M:Md prog)(H:View)
end
set_option maxHeartbeats 8000000
def yV:List UInt8:= [65,66,67,68,69,70,71,72,73,74,75,76,77,78,79,80,81,82,83,84,85,86,87,88,89,90]
def DL:List UInt8:= [49,50,51,52,53,54,55,56,57,48,46,44,58,63,39,40,41,47,43,45,61,33,36,38,37,35]
def eZ(H:View):Prop:=∃f gt gz,H 4=some (f,.cells ⟨[mA yV,mA DL]⟩ gt gz)
theorem eZ.le {H H':View}(h:eZ H)(hl:H.le H'):eZ H':=h.imp fun _ ⟨gt,gz,e⟩=> ⟨gt,gz,hl _ _ e⟩
theorem aFP:Xt prog 290 Extern.BytealgIndexByte.indexByte:=⟨Tryz.f290,func290,by kernel_rfl,by kernel_rfl,by kernel_rfl,by kernel_rfl⟩
def uO(d:Nat):Nat:=if d=0 then 10 else d
theorem aB6:∀d,d<10->ixB yV (UInt8.ofNat (48+d))= -1:=by decide +kernel
theorem aB5:∀d,d<10->ixB DL (UInt8.ofNat (48+d))+1=((uO d:Nat):Int):=by decide +kernel
theorem T3:∀d,d<10->1<=uO d/\uO d<=10:=by decide
section
variable(M:Md prog)(H:View)
theorem DR(s:List UInt8)(x:Nat):bA M 241 #[mA s,.int .u8 (x:Nat)] H (fun v H'=> H.le H'/\v=.int .i64 (ixB s (UInt8.ofNat x))):=by
 refine .en func241 ntmps241 fun St c cs hK=> ?_;refine U8 ?_;refine .x (qA.entry rfl rfl rfl rfl aFP (fun H Q hq=> aAM hq)) ?_;refine U2 ?_;refine .rt hK func241 results241 [_] ?_;exact okB
theorem OT(s:List UInt8)(x:Nat):bA M 176 #[mA s,.int .u8 (x:Nat)] H (fun v H'=> H.le H'/\v=.int .i64 (ixB s (UInt8.ofNat x))):=by
 refine .en func176 ntmps176 fun St c cs hK=> ?_;refine U8 ?_;refine .cl (fun H hs=> DR M H s x) ?_;refine U2 ?_;refine .rt hK func176 results176 [_] ?_;exact okB
theorem JK(s:List UInt8)(x:Nat)(z:Int)(h:ixB s (UInt8.ofNat x)=z):bA M 176 #[mA s,.int .u8 (x:Nat)] H (fun v H'=> H.le H'/\v=.int .i64 z):=by
 subst h;exact OT M H s x
theorem aCj(hG:eZ H)(d:Nat)(hd:d<10)(p:Nat)(f:Bool)(gv:Value)(gz:Nat×Nat)(hp:H p=some (f,.cells ⟨[.int .i64 1,gv]⟩ 88 gz)):
  bA M 111 #[.pointer (some ⟨p,0,none⟩),.int .u8 ((48+d:Nat):Int)] H (fun v H'=> H.le H'/\v=.tuple ⟨[.int .i64 2,.int .i64 (uO d:Nat),.int .i64 1]⟩):=by
 obtain⟨f4,gt4,gz4,hG4⟩:=hG;have x1:=aB6 d hd;have x2:=aB5 d hd;have x3:=T3 d hd;generalize hz:ixB DL (UInt8.ofNat (48+d))=z at x2;refine .en func111 ntmps111 fun St c cs hK=> ?_;refine U31 ?_;refine .done (.block (.loop (.sr ?_)));refine lD ?_;refine .x (qA.index (E:=en) rfl rfl rfl rfl rfl rfl oM oM (by exact rfl)) ?_;refine U7 ?_;refine .cl (fun H hs=> JK M H yV (48+d) (-1) x1) ?_;refine QE ?_;refine Tc.inLoop ?_;refine NF ?_;refine .x (qA.index (E:=en) rfl rfl rfl rfl rfl rfl oM oM (by exact rfl)) ?_;refine U7 ?_;refine .cl (fun H hs=> JK M H DL (48+d) z hz) ?_;refine MR ?_;refine Tc.dr [] [] mixed rfl ?_;refine V9 0 ?_;refine .dn ?_;refine .rt hK func111 results111 [_,_,_] ?_;refine fun H' hs=> ⟨hs.base,?_⟩
 rw[<-x2];rfl
def puL(p:Nat)(g:Gl 3 1):Bl:=(p,true,.cells ⟨[.int .i64 1,g.val]⟩ 88 (0,0))::g.bl
def puP(d:Nat)(g g':Gl 3 1):Prop:=g'.n=g.n+1/\g'.l=g.l++[.int .i64 (uO d:Nat)]
theorem aAt(H₁:View)(hG:eZ H₁)(d:Nat)(hd:d<10)(p:Nat)(g:Gl 3 1)(hg:g.n<=1000)(ME:gA H₁ (puL p g) H):
  bA M 38 #[.pointer (some ⟨p,0,none⟩),.int .u8 ((48+d:Nat):Int)] H (uQ H₁ (fun _=> .bool true) (fun g':Gl 3 1=> puL p g') (puP d g)):=by
 refine bA.enter (vs:= [.pointer (some ⟨p,0,none⟩),.int .u8 ((48+d:Nat):Int)]) func38 rfl ntmps38 (Nat.le_of_ble_eq_true rfl) (ME) fun St c cs hK=> ?_;refine U8 ?_;refine .cl (fun H hs=> aCj M H (hG.le hs.base) d hd p true g.val (0,0) (hs.get (i:=0) rfl)) ?_;refine U43 ?_;refine .e (.bs (zz:=fun bs=> ?_));refine .e (Or.append (E:=en) 2 rfl rfl rfl rfl rfl rfl rfl rfl rfl rfl rfl rfl rfl rfl rfl (fun H hs=> OA.of (hs.get (i:=0) rfl) (Nat.le_of_ble_eq_true rfl)) rfl oM rfl dE (fun g2 TW TP=> ?_));refine U8 ?_;refine .rt hK func38 results38 [_] ?_;exact fun H' hs=> ⟨g2,H₁,rfl,View.le_refl _,hs.sub (List.sublist_cons_self _ _),TW,TP⟩
theorem jK(x lo hi:Int)(t:Bool)(ht:decide (lo<=x/\x<=hi)=t):bA M 37 #[.int .i64 x,.int .i64 lo,.int .i64 hi] H (fun v H'=> H.le H'/\v=.bool t):=by
 subst ht;refine .en func37 ntmps37 fun St c cs hK=> ?_;by_cases c1:lo<=x
 all_goals by_cases c2:x<=hi
 all_goals
  refine U8 ?_;refine .i ?_ (z:=by first|exact KD oM|exact JD oM);refine U ?_;first|(refine .sk ?_)|(refine .m ?_)
  first|(refine .sk ?_)|(refine .m ?_)
  first|(refine .sk ?_)|(refine .x (.it (zz:=(by first|exact KD oM|exact JD oM))) ?_)
  refine U3 ?_;refine .rt hK func37 results37 [_] ?_;exact fun H' hs=> ⟨hs.base,by simp[cC,c1,c2]⟩
def lB(s:List UInt8):List Value:=s.map fun x=> .int .i64 (pn x:Nat)
theorem hU {s:List UInt8}{p:Nat}{x:UInt8}(h:s[p]? =some x):lB (s.take (p+1))=lB (s.take p)++[.int .i64 (pn x:Nat)]:=by
 obtain⟨hp,rfl⟩:=List.getElem?_eq_some_iff.1 h;unfold lB;rw[List.take_succ_eq_append_getElem hp,List.map_append];rfl
theorem aEe {x:UInt8}(h:BD x=true):∃d,d<10/\x.toNat=48+d/\uO d=pn x:=by
 have h1:48<=x.toNat/\x.toNat<58:=of_decide_eq_true h;refine⟨x.toNat-48,oM,oM,?_⟩;unfold uO pn;split <;> split <;> omega
theorem V1(hG:eZ H)(s:List UInt8)(GH:s.all BD=true)(OO:s.length<=12):
  bA M 10 #[mA s,.int .i64 1] H (fun v H'=> H.le H'/\∃g:Gl 3 1,v=.tuple ⟨[g.val,.int .i64 0]⟩/\(g.n=s.length/\g.l=lB s)/\∀x∈g.bl,H' x.1=some x.2/\H x.1=none):=by
 refine .en func10 ntmps10 fun St c cs hK=> ?_;refine U9 ?_;refine .cl (fun H hs=> jK M H 1 0 2 true rfl) ?_;refine U8 ?_;refine .bo fun p=> ?_;refine U6 ?_;refine .e (Or.aBr (E:=en) rfl rfl rfl rfl rfl rfl rfl rfl rfl dE (fun sb cap jj fz=> ?_));refine U4 ?_;refine Tc.db (Tc.tA (σ:= { x:Nat×Gl 3 1//x.1<=s.length/\x.2.n=x.1/\x.2.l=lB (s.take x.1) }) (fun x=> ([(6,.pointer (some ⟨p,0,none⟩)),(16,.slice (some ⟨sb,0,none⟩) s.length cap),(17,.int .i64 (s.length:Nat)),(18,.int .i64 (x.1.1:Nat))],(sb,true,.cells ⟨sB s++jj⟩ 5 fz)::puL p x.1.2)) (fun x=> s.length-x.1.1) ?_ ⟨(0,Gl.nil 3 1),Nat.zero_le _,rfl,rfl⟩);rintro⟨⟨q,g⟩,hq,nL,TN⟩ ih;simp only at hq nL TN;show Tc M St _ _ _ _ [(6,.pointer (some ⟨p,0,none⟩)),(16,.slice (some ⟨sb,0,none⟩) s.length cap),(17,.int .i64 (s.length:Nat)),(18,.int .i64 (q:Nat))] ((sb,true,.cells ⟨sB s++jj⟩ 5 fz)::puL p g) _ _;by_cases c1:q=s.length
 ·clear ih;subst c1;rw[List.take_length] at TN;refine U28 ?_;refine .rt hK func10 results10 [_,_] ?_;exact fun H' hs=> ⟨hs.base,g,rfl,⟨nL,TN⟩,fun x hx=> ⟨hs.at_ x (by simp[puL,hx]),hs.out x (by simp[puL,hx])⟩⟩
 ·have c2:q<s.length:=by omega
  obtain⟨x,hx,F1,lL⟩:=sJ s q c2 GH;obtain⟨d,hd,hxd,hpd⟩:=aEe F1;have f1:gD false 1 (sB s++jj) (0+((q:Nat):Int).toNat*1)=some (.int .u8 ((48+d:Nat):Int)):=by
   show(sB s++jj)[0+((q:Nat):Int).toNat*1]? =_;rw[Int.toNat_natCast,Nat.zero_add,Nat.mul_one,List.getElem?_append_left (by rw[yH];exact c2)];unfold sB;rw[List.getElem?_map,hx,<-hxd];rfl
  refine YP ?_;refine .e (Or.UK 1 (σ:=Gl 3 1) (fun _=> .bool true) (fun g'=> puL p g') (puP d g) rfl rfl rfl rfl rfl dE (fun H₁ H₂ M1 aX=> .h (aAt M H₂ H₁ (hG.le M1.base) d hd p g oM aX)) (fun g2 nM=> ?_));refine U9 ?_;exact Tc.db (ih ⟨(q+1,g2),by simp only;omega,by simp only;rw[nM.1,nL],by simp only;rw[nM.2,TN,hU hx,hpd]⟩ (by simp only;omega))
end
end Go.Proofs.YtldmfjcgjdchcaaGreatDoor
namespace Go.RL
open Go.Conc Go.ConcN Go.RL.Au
open Go.ConcR (stA smA)
open Go.ConcM (muA OsLater)
section
variable {X:Fk}{B:View}{base N:Nat}{os0:C1}{w w':World}{t:Trace}{ths:List Th}{m m':Mn}{s s':Sh}{H:Nat->View}{D:Nat->Bool}{fn:FuncId}{pos:String}
theorem XN {ths:List Th}{κ:Nat}{T T':Th}(hκ:ths[κ]? =some T):∀(κ':Nat) T'',(ths.set κ T')[κ']? =some T''->(κ'=κ/\T''=T')\/(κ'≠κ/\ths[κ']? =some T''):=fun κ' T'' h'=> by
 by_cases e:κ=κ'
 ·subst e;rw[List.getElem?_set_self (List.getElem?_eq_some_iff.1 hκ).1] at h';cases h'
  exact .inl ⟨rfl,rfl⟩
 ·rw[List.getElem?_set_ne e] at h';exact .inr ⟨Ne.symm e,h'⟩
theorem lP(i:Nat)(mm:Mark):MemOp.ofEvents i fn pos #[Go.ConcR.mk mm]=#[{ g:=i,fn,pos,act:=.mark mm }]:=by
 rw[ofEvents_eq];simp[Go.ConcR.ofEvent_mk]
theorem dR {i j:Nat}{mm:Mark}(h1:mm≠ .disable)(h2:mm≠ .enable):Deaf (t++MemOp.ofEvents i fn pos #[Go.ConcR.mk mm]) j=Deaf t j:=by
 refine Deaf_still t j _ fun op lA=> ?_;rw[lP] at lA;simp at lA
 subst lA;simp[h1,h2]
theorem Z8 {D:Nat->Bool}{κ κ':Nat}(e:κ'≠κ):YT D κ κ'=D κ':=by simp[YT,e]
theorem WT.aGz(h:WT X B base N os0 w t ths m s H D)(ne:X.Wg≠X.C){κ:Nat}(hκ:ths[κ]? =some .pw)(hN:base+κ<N){w':World}{o':Obj}{es:Array Event}{D':Nat->Bool}(ht:aDQ X κ w w' o' es)(hG:X.GI D' o'):
  WT X B base N os0 w' (t++MemOp.ofEvents (base+κ) fn pos es) (ths.set κ .wr) m s H D':=by
 obtain⟨_,h3,h4⟩:=h.free;have IU:∀op∈MemOp.ofEvents (base+κ) fn pos es,op.g=base+κ/\op.act=MemAct.ofEvent ⟨.cell ⟨X.C,κ,none⟩,true,false⟩:=by
  rw[ofEvents_eq];intro op lA;obtain⟨e,he,rfl⟩:=Array.mem_map.1 lA;rw[ht.ev e he];exact⟨rfl,rfl⟩
 have JN:∀op∈MemOp.ofEvents (base+κ) fn pos es,op.g=base+κ:=fun op lA=> (IU op lA).1;have hto:∀op∈MemOp.ofEvents (base+κ) fn pos es,∀a,op.act.touch? =some a->a.kind=.plain/\a.loc=.cell ⟨X.C,κ,none⟩:=fun op lA a ha=> by
  rw[(IU op lA).2] at ha;simp[MemAct.ofEvent,MemAct.touch?] at ha
  subst ha;exact⟨rfl,rfl⟩
 have mM:∀j,Deaf (t++MemOp.ofEvents (base+κ) fn pos es) j=Deaf t j:=fun j=> Deaf_still t j _ fun op lA=> by rw[(IU op lA).2];simp[MemAct.ofEvent]
 have sK:∀V:View,V X.C=none->Sat V w->Sat V w':=fun V hV hs b f o EH=> by
  rw[ht.rest b (by rintro rfl;rw[hV] at EH;cases EH)];exact hs b f o EH
 refine⟨⟨by rw[ht.rest _ ne];exact h.sh.wg⟩,by rw[ht.size];exact h.cb,⟨fun g=> sK _ (h3 g) (h.vi.sat g),h.vi.dj,h.vi.sh,sK _ h.vi.bn.2 h.vi.bs,h.vi.bd,h.vi.bn⟩,h.hx,?_,⟨⟨o',ht.at_,hG⟩,h3,h4.own JN hto⟩,fun κ' T uC hT=> ?_,by rw[mM];exact h.SV,fun κ' T uC hT=> ?_,h.os.trans ht.os⟩
 ·rw[ht.size];exact h.ti.own h4 hN JN hto (fun op lA a e=> by rw[(IU op lA).2] at e;simp[MemAct.ofEvent] at e) h3 ⟨Ne.symm ne,Ne.symm ne⟩ h.cb
 ·rcases XN hκ κ' T uC with ⟨rfl,rfl⟩|⟨e,KI⟩
  ·cases hT
  ·obtain⟨r,hr⟩:=h.UI κ' T KI hT;exact⟨r,hr.appOther (g:=base+κ) JN oM⟩
 ·rw[mM];rcases XN hκ κ' T uC with ⟨rfl,rfl⟩|⟨e,KI⟩
  ·exact h.qZ κ' .pw hκ (by simp)
  ·exact h.qZ κ' T KI hT
theorem WT.mute(h:WT X B base N os0 w t ths m s H D)(ne:X.Wg≠X.C){κ:Nat}(hκ:ths[κ]? =some .wr)(hN:base+κ<N):
  WT X B base N os0 w (t++MemOp.ofEvents (base+κ) fn pos #[Go.ConcR.mk (.releaseMerge (stA X.Wg))]) (ths.set κ .wk) m s H D:=by
 have HB:=(List.getElem?_eq_some_iff.1 hκ).1;have HO:Act base N (base+κ):=.inr ⟨oM,hN⟩;have lA:=LS (X:=X) (H:=H (base+κ)) (g:=base+κ) (fn:=fn) (pos:=pos) (m:=.releaseMerge (stA X.Wg)) (t:=t) (fun x hx=> by cases hx) (fun a e=> by cases e);have hd0:Deaf t (base+κ)=0:=h.qZ κ _ hκ (by simp);have mM:∀j,Deaf (t++MemOp.ofEvents (base+κ) fn pos #[Go.ConcR.mk (.releaseMerge (stA X.Wg))]) j=Deaf t j:=fun j=> dR (by simp) (by simp);refine⟨h.sh,h.cb,h.vi,h.hx,h.DV ne HO hN lA,?_,fun κ' T uC hT=> ?_,by rw[mM];exact h.SV,fun κ' T uC hT=> ?_,h.os⟩
 ·obtain⟨h1,h3,h4⟩:=h.free;refine⟨h1,h3,h4.grow fun op cE x hx=> ?_⟩;rw[lP] at cE;simp at cE
  subst cE;cases hx
 ·rcases XN hκ κ' T uC with ⟨rfl,rfl⟩|⟨e,KI⟩
  ·exact⟨_,RelBy.new hd0 fn pos⟩
  ·obtain⟨r,hr⟩:=h.UI κ' T KI hT;exact⟨r,hr.appOther (g:=base+κ) lA.own oM⟩
 ·rw[mM];rcases XN hκ κ' T uC with ⟨rfl,rfl⟩|⟨e,KI⟩
  ·exact hd0
  ·exact h.qZ κ' T KI hT
theorem TD {R:View}{b:Nat}{f:Bool}{o:Obj}(h:ro R b=some (f,o)):f=false/\∃f',R b=some (f',o):=by
 unfold ro at h;obtain⟨x,hx,he⟩:=Option.map_eq_some_iff.1 h;cases he
 exact⟨rfl,x.1,hx⟩
theorem MG {R:View}{b:Nat}(h:R b=none):ro R b=none:=by simp[ro,h]
theorem WT.fork(h:WT X B base N os0 w t ths .go s H D)(hb:1<=base)(hN:N=base+ths.length)(hm:m'.deaf=0){x y:MemOp}(hx:x.g=0/\x.act=.go N)(hy:y.g=N/\y.act=.start):
  WT X B base (N+1) os0 w (t ++ #[x,y]) (ths++[.pw]) m' s (upd (upd H 0 (ro (H 0))) N (ro (H 0))) D:=by
 have hN0:N≠0:=by omega
 have hHN:∀b,H N b=none:=h.hx N fun hh=> hh.elim hN0 fun hh=> by omega
 have hd0:Deaf t 0=0:=h.SV;have IU:∀op∈#[x,y],op.act≠ .mark .disable/\op.act≠ .mark .enable:=by
  intro op lA;simp only[List.mem_toArray,List.mem_cons,List.not_mem_nil,or_false] at lA;rcases lA with rfl|rfl
  ·rw[hx.2];simp
  ·rw[hy.2];simp
 have mM:∀j,Deaf (t ++ #[x,y]) j=Deaf t j:=fun j=> Deaf_still t j _ IU;have hV:∀j b,upd (upd H 0 (ro (H 0))) N (ro (H 0)) j b=if j=N\/j=0 then ro (H 0) b else H j b:=fun j b=> by
  by_cases e:j=N
  ·subst e;rw[upd_same,if_pos (.inl rfl)]
  ·rw[upd_ne _ _ e];by_cases e0:j=0
   ·subst e0;rw[upd_same,if_pos (.inr rfl)]
   ·rw[upd_ne _ _ e0,if_neg (by simp[e,e0])]
 have get:∀(κ:Nat) T,(ths++[Th.pw])[κ]? =some T->ths[κ]? =some T\/(κ=ths.length/\T=.pw):=fun κ T hκ=> by
  rw[List.getElem?_append] at hκ;split at hκ
  ·exact .inl hκ
  ·cases hz:κ-ths.length with
   | zero=> rw[hz] at hκ;cases hκ;exact .inr ⟨oM,rfl⟩
   | succ z=> rw[hz] at hκ;cases hκ
 refine⟨h.sh,h.cb,⟨fun j b f o EH=> ?_,fun i j qS b o hi=> ?_,fun j=> ?_,h.vi.bs,fun j b x' o EH hj=> ?_,h.vi.bn⟩,fun g hg b=> ?_,?_,?_,fun κ T hκ hT=> ?_,by rw[mM,hm];exact hd0,fun κ T hκ hT=> ?_,h.os⟩
 ·rw[hV] at EH;split at EH
  ·obtain⟨_,f',h1⟩:=TD EH;exact h.vi.sat 0 b f' o h1
  ·exact h.vi.sat j b f o EH
 ·rw[hV] at hi ⊢;split at hi
  ·have:=(TD hi).1;cases this
  ·split
   ·exact MG (h.vi.dj i 0 oM b o hi)
   ·exact h.vi.dj i j qS b o hi
 ·rw[hV];split
  ·exact MG (h.vi.sh 0)
  ·exact h.vi.sh j
 ·rw[hV] at hj;split at hj
  ·have:=(TD hj).1;cases this
  ·exact h.vi.bd j b x' o EH hj
 ·rw[hV,if_neg (by
   rintro(rfl|rfl)
   ·exact hg (.inr ⟨oM,oM⟩)
   ·exact hg (.inl rfl))]
  exact h.hx g (fun hh=> hg (hh.imp id fun⟨h1,h2⟩=> ⟨h1,oM⟩)) b
 ·exact h.ti.fork hx hy hd0 oM oM (fun b f o EH=> TD EH) hHN
 ·obtain⟨h1,h3,h4⟩:=h.free;refine⟨h1,fun g=> ?_,h4.fork h.ti.gs hx hy hd0⟩;rw[hV];split
  ·exact MG (h3 0)
  ·exact h3 g
 ·rcases get κ T hκ with uC|⟨_,rfl⟩
  ·obtain⟨r,hr⟩:=h.UI κ T uC hT;have HB:=(List.getElem?_eq_some_iff.1 uC).1;refine⟨r,hr.app fun i hi hgi hc=> ?_⟩;obtain⟨a,ha,_⟩:=hc;obtain⟨op,lA,WW⟩:=touch_of ha;rcases getElem?_append_cases lA with ⟨hl,_⟩|⟨_,QC⟩
   ·omega
   ·simp only[List.mem_toArray,List.mem_cons,List.not_mem_nil,or_false] at QC;rcases QC with rfl|rfl
    ·rw[hx.2] at WW;cases WW
    ·rw[hy.2] at WW;cases WW
  ·cases hT
 ·rw[mM];rcases get κ T hκ with uC|⟨rfl,rfl⟩
  ·exact h.qZ κ T uC hT
  ·rw[<-hN];exact Deaf_absent fun i op hi e=> by have:=h.ti.gs i op hi;omega
end
end Go.RL
