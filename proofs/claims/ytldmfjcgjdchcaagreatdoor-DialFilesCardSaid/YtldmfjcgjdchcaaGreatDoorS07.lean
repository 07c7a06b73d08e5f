/-
 Texts of the proofs over baudot/dial.
-/
import Derived.Test.YtldmfjcgjdchcaaGreatDoorS06
namespace Go.Proofs.YtldmfjcgjdchcaaGreatDoor
open Go.RL Go.Proofs.Tryz
set_option maxRecDepth 10000
set_option maxHeartbeats 8000000
theorem Or.PH {M:Md prog}{n:Nat}{H₀:View}{R:Rg}{L:Bl}{o:Oper}{K:Rg->Bl->Prop}{cl:Go.Call}{x:Operand}{fv:Value}{az:List Value}{d:Nat}{σ:Type}(i:Nat){sb:Nat}{l:List Int}{j:List Value}(val:σ->Value)(mm:σ->List Int)(p:σ->Prop)
  (lA:o.op=.call cl) (iB:cl.callee=.value x) (hx:JA R x=some fv) (has:lD R cl.args.toList=some az) (hd:o.dst=some d) (hn:d<n) (hi:L[i]? =some (sb,true,.cells ⟨SA l++j⟩ 3 (0,0)))
  (hc:∀H,jA H₀ L H->WB M fv az H (FD H sb j fun v m=> ∃s,v=val s/\m=mm s/\p s)) (hk:∀s,p s->K ((d,val s)::R) (L.set i (sb,true,.cells ⟨SA (mm s)++j⟩ 3 (0,0)))):Or M n H₀ R L o K:=
 Or.nU i (fun v m=> ∃s,v=val s/\m=mm s/\p s) lA iB hx has hd hn hi hc fun v m h=> by
  obtain⟨s,rfl,rfl,h3⟩:=h;exact hk s h3
def aBY(s:Nat×Nat×Int):Value:=.tuple ⟨[.nt s.1,.nt s.2.1]⟩
def aBX(p q:Nat)(z:Int)(s:Nat×Nat×Int):Prop:=(s.1=p/\s.2.1=q\/s.1=q/\s.2.1=p)/\z<=s.2.2/\s.2.2<=z+1
section
variable(M:Md prog)(H:View)
theorem KN(dec:Int->By)(sb cb:Nat)(f:Bool)(l:List Int)(jj:List Value)(n cap p q:Nat)(z:Int)(hn:n=l.length)(hE:MO dec l)(hp:p<n)(hq:q<n)(hz:0<=z/\z<=1000)(aB:sb≠cb)(hS:H sb=some (f,.cells ⟨(rA dec l)++jj⟩ 9 (0,0)))(hC:H cb=some (true,.cells ⟨[.iz z]⟩ 3 (0,0))):
  fA M 326 #[.sl sb n cap,.nt p,.nt q,.pt cb] H (FD H cb [] (fun v m=> ∃s,v=aBY s/\m= [s.2.2]/\aBX p q z s)):=by
 have zR:(H.uE cb) sb=some (f,.cells ⟨(rA dec l)++jj⟩ 9 (0,0)):=by rw[nB aB];exact hS
 have k1:=sA (dec:=dec) (m:=l) (j:=jj) (k:=(p:Nat)) (p:=p) rfl oM;have k2:=sA (dec:=dec) (m:=l) (j:=jj) (k:=(q:Nat)) (p:=q) rfl oM;refine fA.enter (vs:= [.sl sb n cap,.nt p,.nt q,.pt cb]) func326 rfl ntmps326 Nb (jA.pull hC) fun St c cs hK=> ?_;by_cases c1:vA l q<vA l p
 ·refine U7 ?_;refine Tc.dr [] [] mixed rfl ?_;refine V8 0 ?_;refine .z 8 rfl (pA.tk fun H hs=> CC M H hE (tA oM) (tA oM) true (decide_eq_true c1)) ?_;refine .dn ?_;refine II ?_;refine .rt hK func326 results326 [_,_] ?_;exact fun H' hs=> FD.of (m:= [z+1]) hs (i:=0) rfl ⟨(q,p,z+1),rfl,rfl,.inr ⟨rfl,rfl⟩,by simp only;omega,by simp only;omega⟩
 ·refine U7 ?_;refine Tc.dr [] [] mixed rfl ?_;refine V8 0 ?_;refine .z 8 rfl (pA.tk fun H hs=> CC M H hE (tA oM) (tA oM) false (decide_eq_false c1)) ?_;refine .dn ?_;refine U9 ?_;refine .rt hK func326 results326 [_,_] ?_;exact fun H' hs=> FD.of (m:= [z]) hs (i:=0) rfl ⟨(p,q,z),rfl,rfl,.inl ⟨rfl,rfl⟩,by simp only;omega,by simp only;omega⟩
theorem tS(dec:Int->By)(sb cb:Nat)(f:Bool)(l:List Int)(jj:List Value)(n cap p q r:Nat)(z:Int)(hn:n=l.length)(hE:MO dec l)(hp:p<n)(hq:q<n)(hr:r<n)(hz:0<=z/\z<=900)(aB:sb≠cb)(hS:H sb=some (f,.cells ⟨(rA dec l)++jj⟩ 9 (0,0)))(hC:H cb=some (true,.cells ⟨[.iz z]⟩ 3 (0,0))):
  fA M 305 #[.sl sb n cap,.nt p,.nt q,.nt r,.pt cb] H (FD H cb [] (fun v m=> ∃s:Nat×Int,v=.int .i64 (s.1:Nat)/\m= [s.2]/\((s.1=p\/s.1=q\/s.1=r)/\z<=s.2/\s.2<=z+3))):=by
 have zR:(H.uE cb) sb=some (f,.cells ⟨(rA dec l)++jj⟩ 9 (0,0)):=by rw[nB aB];exact hS
 refine fA.enter (vs:= [.sl sb n cap,.nt p,.nt q,.nt r,.pt cb]) func305 rfl ntmps305 Nb (jA.pull hC) fun St c cs hK=> ?_;refine iD ?_;refine .e (Or.PH (l:= [z]) (j:= []) 0 aBY (fun s=> [s.2.2]) (aBX p q z) rfl rfl rfl rfl rfl dE rfl (fun H hs=> .h (KN M H dec sb cb f l jj n cap p q z hn hE hp hq oM aB (hs.base _ _ zR) (hs.get (i:=0) rfl))) (fun⟨x1,y1,z1⟩ ⟨o1,o2,o3⟩=> ?_));refine U6 ?_;simp only at o1 o2 o3;refine U6 ?_;refine .e (Or.PH (l:= [z1]) (j:= []) 0 aBY (fun s=> [s.2.2]) (aBX y1 r z1) rfl rfl rfl rfl rfl dE rfl (fun H hs=> .h (KN M H dec sb cb f l jj n cap y1 r z1 hn hE oM hr oM aB (hs.base _ _ zR) (hs.get (i:=0) rfl))) (fun⟨x2,y2,z2⟩ ⟨p1,p2,p3⟩=> ?_));refine U6 ?_;simp only at p1 p2 p3;refine U6 ?_;refine .e (Or.PH (l:= [z2]) (j:= []) 0 aBY (fun s=> [s.2.2]) (aBX x1 x2 z2) rfl rfl rfl rfl rfl dE rfl (fun H hs=> .h (KN M H dec sb cb f l jj n cap x1 x2 z2 hn hE oM oM oM aB (hs.base _ _ zR) (hs.get (i:=0) rfl))) (fun⟨x3,y3,z3⟩ ⟨q1,q2,q3⟩=> ?_));refine U6 ?_;simp only at q1 q2 q3;refine U5 ?_;refine .rt hK func305 results305 [_] ?_;exact fun H' hs=> FD.of (m:= [z3]) hs (i:=0) rfl ⟨(y3,z3),rfl,rfl,by simp only;omega,by simp only;omega,by simp only;omega⟩
def aFW(s:Nat×Nat):Value:=.tuple ⟨[.nt s.1,.nt s.2]⟩
theorem WI(dec:Int->By)(sb cb:Nat)(f:Bool)(l:List Int)(jj:List Value)(n cap p:Nat)(z:Int)(hn:n=l.length)(hE:MO dec l)(gG:n<=100000000)(hp:1<=p/\p+1<n)(hz:0<=z/\z<=900)(aB:sb≠cb)(hS:H sb=some (f,.cells ⟨(rA dec l)++jj⟩ 9 (0,0)))(hC:H cb=some (true,.cells ⟨[.iz z]⟩ 3 (0,0))):
  fA M 304 #[.sl sb n cap,.nt p,.pt cb] H (FD H cb [] (fun v m=> ∃s:Nat×Int,v=.int .i64 (s.1:Nat)/\m= [s.2]/\((s.1=p-1\/s.1=p\/s.1=p+1)/\z<=s.2/\s.2<=z+3))):=by
 have zR:(H.uE cb) sb=some (f,.cells ⟨(rA dec l)++jj⟩ 9 (0,0)):=by rw[nB aB];exact hS
 have e1:iA .sub .i64 (p:Nat) 1=some (.int .i64 ((p-1:Nat):Int)):=by rw[pH oM oM];congr 2;omega
 have e2:iA .add .i64 (p:Nat) 1=some (.int .i64 ((p+1:Nat):Int)):=by rw[pB oM oM];rfl
 refine fA.enter (vs:= [.sl sb n cap,.nt p,.pt cb]) func304 rfl ntmps304 Nb (jA.pull hC) fun St c cs hK=> ?_;refine JG ?_;refine .e (Or.PH (l:= [z]) (j:= []) 0 (fun s:Nat×Int=> .int .i64 (s.1:Nat)) (fun s=> [s.2]) (fun s=> (s.1=p-1\/s.1=p\/s.1=p+1)/\z<=s.2/\s.2<=z+3) rfl rfl rfl rfl rfl dE rfl (fun H hs=> .h (tS M H dec sb cb f l jj n cap (p-1) p (p+1) z hn hE oM oM oM oM aB (hs.base _ _ zR) (hs.get (i:=0) rfl))) (fun⟨x1,z1⟩ ⟨o1,o2,o3⟩=> ?_));refine U2 ?_;simp only at o1 o2 o3;refine .rt hK func304 results304 [_] ?_;exact fun H' hs=> FD.of (m:= [z1]) hs (i:=0) rfl ⟨(x1,z1),rfl,rfl,o1,o2,o3⟩
theorem JP(dec:Int->By)(sb:Nat)(f:Bool)(l:List Int)(jj:List Value)(n cap a b:Nat)(hn:n=l.length)(hE:MO dec l)(gG:n<=100000000)(hb:b<=n)(h8:a+8<=b)(hS:H sb=some (f,.cells ⟨(rA dec l)++jj⟩ 9 (0,0))):
  fA M 259 #[.sl sb n cap,.nt a,.nt b] H (fun v H'=> H.le H'/\∃s:Nat×Nat,v=aFW s/\(a<=s.1/\s.1<b/\s.2<=2)/\∀y∈([]:Bl),H' y.1=some y.2/\H y.1=none):=by
 obtain⟨m,hm⟩:∃m,m=b-a:=⟨_,rfl⟩
 obtain⟨w,hw⟩:∃w,w=m/4:=⟨_,rfl⟩
 have e0:((b:Nat):Int)-((a:Nat):Int)=((m:Nat):Int):=by omega
 have hq:iA .quo .i64 ((m:Nat):Int) 4=some (.int .i64 ((w:Nat):Int)):=by
  rw[ON oM oM oM]
  congr 2
  omega
 have e1:((a:Nat):Int)+((w:Nat):Int)*1=((a+w:Nat):Int):=by omega
 have e2:((a:Nat):Int)+((w:Nat):Int)*2=((a+w*2:Nat):Int):=by omega
 have e3:((a:Nat):Int)+((w:Nat):Int)*3=((a+w*3:Nat):Int):=by omega
 refine .en func259 ntmps259 fun St c cs hK=> ?_;refine uH ?_;rw[e0];refine U2 ?_;refine .al fun b9=> ?_;refine U6 ?_;refine .i ?_ (z:=HD oM oM);refine U3 ?_;rw[e1];refine U5 ?_;refine .i ?_ (z:=HD oM oM);refine U3 ?_;rw[e2];refine U5 ?_;refine .i ?_ (z:=HD oM oM);refine U3 ?_;rw[e3];refine U7 ?_;refine Tc.lift (L₂:= [Bb b9 [.iz 0] 3]) (L₁:= []) rfl (fun Hx hx=> ?_);have hle:=hx.base;have hSx:=hx.base _ _ hS;have aB:∀(z:Int) H',jA Hx [Bb b9 [.iz z] 3] H'->sb≠b9:=fun z H' hs e=> by
  have:=hs.out (b9,true,.cells ⟨[.iz z]⟩ 3 (0,0)) (by simp);rw[<-e,hSx] at this;cases this
 clear hx;refine U ?_;refine Tc.via (fun R' L'=> ∃(p q r:Nat) (z:Int),((a<=p/\p<b)/\(a<=q/\q<b)/\(a<=r/\r<b)/\(0<=z/\z<=9))/\pC [(0,.sl sb n cap),(9,.pt b9),(10,.nt p),(11,.nt q),(12,.nt r)] R'/\List.Sublist [Bb b9 [.iz z] 3] L') ?_ (fun fin=> ?_)
 rotate_left
 ·by_cases c50:50<=m
  ·refine iD ?_;refine .e (Or.PH (l:= [0]) (j:= []) 0 (fun s:Nat×Int=> .int .i64 (s.1:Nat)) (fun s=> [s.2]) (fun s=> (s.1=a+w-1\/s.1=a+w\/s.1=a+w+1)/\0<=s.2/\s.2<=0+3) rfl rfl rfl rfl rfl dE rfl (fun H hs=> .h (WI M H dec sb b9 f l jj n cap (a+w) 0 hn hE gG oM oM (aB _ H hs) (hs.base _ _ hSx) (hs.get (i:=0) rfl))) (fun⟨x1,zx1⟩ ⟨ox1,ux1,vx1⟩=> ?_));refine U2 ?_;simp only at ox1 ux1 vx1;refine U4 ?_;refine .e (Or.PH (l:= [zx1]) (j:= []) 0 (fun s:Nat×Int=> .int .i64 (s.1:Nat)) (fun s=> [s.2]) (fun s=> (s.1=a+w*2-1\/s.1=a+w*2\/s.1=a+w*2+1)/\zx1<=s.2/\s.2<=zx1+3) rfl rfl rfl rfl rfl dE rfl (fun H hs=> .h (WI M H dec sb b9 f l jj n cap (a+w*2) zx1 hn hE gG oM oM (aB _ H hs) (hs.base _ _ hSx) (hs.get (i:=0) rfl))) (fun⟨x2,zx2⟩ ⟨ox2,ux2,vx2⟩=> ?_));refine U2 ?_;simp only at ox2 ux2 vx2;refine U3 ?_;refine .e (Or.PH (l:= [zx2]) (j:= []) 0 (fun s:Nat×Int=> .int .i64 (s.1:Nat)) (fun s=> [s.2]) (fun s=> (s.1=a+w*3-1\/s.1=a+w*3\/s.1=a+w*3+1)/\zx2<=s.2/\s.2<=zx2+3) rfl rfl rfl rfl rfl dE rfl (fun H hs=> .h (WI M H dec sb b9 f l jj n cap (a+w*3) zx2 hn hE gG oM oM (aB _ H hs) (hs.base _ _ hSx) (hs.get (i:=0) rfl))) (fun⟨x3,zx3⟩ ⟨ox3,ux3,vx3⟩=> ?_));refine U2 ?_;simp only at ox3 ux3 vx3;exact fin _ _ ⟨x1,x2,x3,zx3,⟨oM,oM,oM,oM⟩,⟨rfl,rfl,rfl,rfl,rfl,trivial⟩,sL⟩
  ·refine U7 ?_;exact fin _ _ ⟨a+w,a+w*2,a+w*3,0,⟨oM,oM,oM,oM⟩,⟨rfl,rfl,rfl,rfl,rfl,trivial⟩,sL⟩
 rintro R' L' ⟨p,q,r,z,⟨hp,hq2,hr,hz⟩,iM,hLL⟩;refine Tc.yC (R':= [(0,.sl sb n cap),(9,.pt b9),(10,.nt p),(11,.nt q),(12,.nt r)]) (L':= [Bb b9 [.iz z] 3]) ?_ iM hLL;clear iM hLL;refine U5 ?_;refine .e (Or.PH (l:= [z]) (j:= []) 0 (fun s:Nat×Int=> .int .i64 (s.1:Nat)) (fun s=> [s.2]) (fun s=> (s.1=p\/s.1=q\/s.1=r)/\z<=s.2/\s.2<=z+3) rfl rfl rfl rfl rfl dE rfl (fun H hs=> .h (tS M H dec sb b9 f l jj n cap p q r z hn hE oM oM oM oM (aB _ H hs) (hs.base _ _ hSx) (hs.get (i:=0) rfl))) (fun⟨x1,z1⟩ ⟨o1,o2,o3⟩=> ?_));refine U2 ?_;simp only at o1 o2 o3;clear aB;refine U6 ?_;by_cases c1:z1=0
 ·refine ND ?_;refine .rt hK func259 results259 [_,_] ?_;exact fun H' hs=> ⟨View.le_trans hle hs.base,(x1,1),rfl,⟨by simp only;omega,by simp only;omega,by simp⟩,by simp⟩
 ·by_cases c2:z1=12
  ·refine II ?_;refine .rt hK func259 results259 [_,_] ?_;exact fun H' hs=> ⟨View.le_trans hle hs.base,(x1,2),rfl,⟨by simp only;omega,by simp only;omega,by simp⟩,by simp⟩
  ·refine II ?_;refine .rt hK func259 results259 [_,_] ?_;exact fun H' hs=> ⟨View.le_trans hle hs.base,(x1,0),rfl,⟨by simp only;omega,by simp only;omega,by simp⟩,by simp⟩
end
set_option maxHeartbeats 16000000
section
variable(M:Md prog)(H:View)
theorem eU(dec:Int->By)(sb:Nat)(l:List Int)(jj:List Value)(n cap a b pv:Nat)(hn:n=l.length)(hE:MO dec l)(hb:b<=n)(gG:n<=100000000)(hp:a<=pv/\pv<b)(hS:H sb=some (true,.cells ⟨(rA dec l)++jj⟩ 9 (0,0))):
  fA M 264 #[.sl sb n cap,.nt a,.nt b,.nt pv] H (xB dec H sb jj (fun v m=> ∃s:Nat×Bool×List Int,v=.tuple ⟨[.nt s.1,.bool s.2.1]⟩/\m=s.2.2/\(nA a b l s.2.2/\Part a b s.1 s.2.2))):=by
 refine fA.enter (vs:= [.sl sb n cap,.nt a,.nt b,.nt pv]) func264 rfl ntmps264 Nb (jA.pull hS) fun St c cs hK=> ?_;obtain⟨u,hue⟩:∃u,GB l a pv=u:=⟨_,rfl⟩
 have hu:nA a b l u:=by rw[<-hue];exact nA.swap oM oM oM oM
 have uO:=hu.len;have BK:=hE.JD hu;have aC:=yP.start (a:=a) (b:=b) (u:=u) oM;have eb:((b:Nat):Int)-1=((b-1:Nat):Int):=by omega
 have y1:=sA (dec:=dec) (m:=l) (j:=jj) (k:=(a:Nat)) (p:=a) rfl oM;have y2:=sA (dec:=dec) (m:=l) (j:=jj) (k:=(pv:Nat)) (p:=pv) rfl oM;have y3:=EA (dec:=dec) (m:=l) (j:=jj) (k:=(a:Nat)) (x:=vA l (pv)) (p:=a) rfl oM;have y4:=EA (dec:=dec) (m:=(l).set (a) (vA l (pv))) (j:=jj) (k:=(pv:Nat)) (x:=vA l (a)) (p:=pv) rfl (by rw[List.length_set];omega);have y5:=CA (dec:=dec) (m:=l) (j:=jj) (k:=(a:Nat)) (p:=a) rfl oM;have y6:=CA (dec:=dec) (m:=(l).set (a) (vA l (pv))) (j:=jj) (k:=(pv:Nat)) (p:=pv) rfl (by rw[List.length_set];omega);refine U6 ?_;refine Tc.dr [13,15] [0] mixed rfl ?_;refine V2 0 ?_;refine .nw 2 ?_;refine .nw 3 ?_;refine V4 4 ?_;refine .nw 8 ?_;refine .nw 9 ?_;refine .nw 10 ?_;refine V2 11 ?_;refine .e 13 0 ?_;refine .nw 14 ?_;refine .e 15 0 ?_;refine .dn ?_;refine U9 ?_;rw[eb];refine Tc.db (R':= [(0,.sl sb n cap),(1,.nt a),(10,.iz (a+1:Nat)),(11,.iz (b-1:Nat))]) (L':= [Bb sb ((rA dec (GB l a pv))++jj) 9]) ?_;rw[hue];refine U ?_;refine VG (fun R' L'=> ∃s,a+1<=s/\yP a b s (b-1) u/\(s<=b-1->¬vA u s<vA u a)/\pC [(0,.sl sb n cap),(1,.nt a),(10,.nt s),(11,.iz (b-1:Nat))] R'/\L'= [Bb sb ((rA dec u)++jj) 9]) ?_ (fun fin=> ?_)
 ·rintro R' _ ⟨i1,i1le,o1,y1,iM,rfl⟩;refine Tc.yC ?_ iM (List.Sublist.refl _);have o1a:=o1.ai;have o1b:=o1.ij;have o1c:=o1.jb;refine U ?_;refine VG (fun R' L'=> ∃s,s<=b-1/\yP a b (i1) s u/\(i1<=s->vA u s<vA u a)/\pC [(0,.sl sb n cap),(1,.nt a),(10,.nt i1),(11,.nt s)] R'/\L'= [Bb sb ((rA dec u)++jj) 9]) ?_ (fun fin=> ?_)
  ·rintro R' _ ⟨j1,j1le,o2,y2,iM,rfl⟩;refine Tc.yC ?_ iM (List.Sublist.refl _);have o2a:=o2.ai;have o2b:=o2.ij;have o2c:=o2.jb;have o2d:=o2.aj;by_cases d:j1<i1
   ·refine U9 ?_;have z1:=sA (dec:=dec) (m:=u) (j:=jj) (k:=(j1:Nat)) (p:=j1) rfl oM;have z2:=sA (dec:=dec) (m:=u) (j:=jj) (k:=(a:Nat)) (p:=a) rfl oM;have z3:=EA (dec:=dec) (m:=u) (j:=jj) (k:=(j1:Nat)) (x:=vA u (a)) (p:=j1) rfl oM;have z4:=EA (dec:=dec) (m:=(u).set (j1) (vA u (a))) (j:=jj) (k:=(a:Nat)) (x:=vA u (j1)) (p:=a) rfl (by rw[List.length_set];omega);have z5:=CA (dec:=dec) (m:=u) (j:=jj) (k:=(j1:Nat)) (p:=j1) rfl oM;have z6:=CA (dec:=dec) (m:=(u).set (j1) (vA u (a))) (j:=jj) (k:=(a:Nat)) (p:=a) rfl (by rw[List.length_set];omega);refine Tc.dr [13,15] [0] mixed rfl ?_;refine V2 0 ?_;refine .nw 2 ?_;refine .nw 3 ?_;refine V4 4 ?_;refine .nw 8 ?_;refine .nw 9 ?_;refine .nw 10 ?_;refine V2 11 ?_;refine .e 13 0 ?_;refine .nw 14 ?_;refine .e 15 0 ?_;refine .dn ?_;refine U6 ?_;refine .rt hK func264 results264 [_,_] ?_;exact fun H' hs=> xB.of (dec:=dec) hs (i:=0) rfl ⟨(j1,true,GB u j1 a),rfl,rfl,hu.trans (nA.swap oM oM oM oM),o2.fin oM d⟩
   ·have e2 :((j1:Nat):Int)-1=((j1-1:Nat):Int):=by omega
    have aX:=o2.swap oM oM (y1 oM) (y2 oM);refine iD ?_;have z1:=sA (dec:=dec) (m:=u) (j:=jj) (k:=(i1:Nat)) (p:=i1) rfl oM;have z2:=sA (dec:=dec) (m:=u) (j:=jj) (k:=(j1:Nat)) (p:=j1) rfl oM;have z3:=EA (dec:=dec) (m:=u) (j:=jj) (k:=(i1:Nat)) (x:=vA u (j1)) (p:=i1) rfl oM;have z4:=EA (dec:=dec) (m:=(u).set (i1) (vA u (j1))) (j:=jj) (k:=(j1:Nat)) (x:=vA u (i1)) (p:=j1) rfl (by rw[List.length_set];omega);have z5:=CA (dec:=dec) (m:=u) (j:=jj) (k:=(i1:Nat)) (p:=i1) rfl oM;have z6:=CA (dec:=dec) (m:=(u).set (i1) (vA u (j1))) (j:=jj) (k:=(j1:Nat)) (p:=j1) rfl (by rw[List.length_set];omega);refine Tc.dr [13,15] [0] mixed rfl ?_;refine V2 0 ?_;refine .nw 2 ?_;refine .nw 3 ?_;refine V4 4 ?_;refine .nw 8 ?_;refine .nw 9 ?_;refine .nw 10 ?_;refine V2 11 ?_;refine .e 13 0 ?_;refine .nw 14 ?_;refine .e 15 0 ?_;refine .dn ?_;refine uH ?_;rw[e2];refine U2 ?_;refine Tc.db (Tc.qA (σ:= { s:Nat×Nat×List Int//yP a b s.1 s.2.1 s.2.2/\nA a b l s.2.2 }) (fun s=> ([(0,.sl sb n cap),(1,.nt a),(10,.nt s.1.1),(11,.nt s.1.2.1)],[Bb sb ((rA dec s.1.2.2)++jj) 9])) (fun s=> s.1.2.1+1-s.1.1) ?_ ⟨(i1+1,j1-1,GB u i1 j1),aX.2,hu.trans (nA.swap oM oM oM oM)⟩);rintro⟨⟨i,j,w⟩,g1,g2⟩ ih0;simp only at g1 g2;have GU:=g2.len;have BK:=hE.JD g2;have g1a:=g1.ai;have g1b:=g1.ij;have g1c:=g1.jb;show Tc M St _ _ _ _ [(0,.sl sb n cap),(1,.nt a),(10,.nt i),(11,.nt j)] [Bb sb ((rA dec w)++jj) 9] _ _;refine U2 ?_;refine VG (fun R' L'=> ∃s,i<=s/\yP a b s (j) w/\(s<=j->¬vA w s<vA w a)/\pC [(0,.sl sb n cap),(1,.nt a),(10,.nt s),(11,.nt j)] R'/\L'= [Bb sb ((rA dec w)++jj) 9]) ?_ (fun fin=> ?_)
    ·rintro R' _ ⟨i2,i2le,p1,x1,iM,rfl⟩;refine Tc.yC ?_ iM (List.Sublist.refl _);have p1a:=p1.ai;have p1b:=p1.ij;have p1c:=p1.jb;refine U ?_;refine VG (fun R' L'=> ∃s,s<=j/\yP a b (i2) s w/\(i2<=s->vA w s<vA w a)/\pC [(0,.sl sb n cap),(1,.nt a),(10,.nt i2),(11,.nt s)] R'/\L'= [Bb sb ((rA dec w)++jj) 9]) ?_ (fun fin=> ?_)
     ·rintro R' _ ⟨j2,j2le,p2,x2,iM,rfl⟩;refine Tc.yC ?_ iM (List.Sublist.refl _);have p2a:=p2.ai;have p2b:=p2.ij;have p2c:=p2.jb;have p2d:=p2.aj;by_cases d:j2<i2
      ·refine iD ?_;have z1:=sA (dec:=dec) (m:=w) (j:=jj) (k:=(j2:Nat)) (p:=j2) rfl oM;have z2:=sA (dec:=dec) (m:=w) (j:=jj) (k:=(a:Nat)) (p:=a) rfl oM;have z3:=EA (dec:=dec) (m:=w) (j:=jj) (k:=(j2:Nat)) (x:=vA w (a)) (p:=j2) rfl oM;have z4:=EA (dec:=dec) (m:=(w).set (j2) (vA w (a))) (j:=jj) (k:=(a:Nat)) (x:=vA w (j2)) (p:=a) rfl (by rw[List.length_set];omega);have z5:=CA (dec:=dec) (m:=w) (j:=jj) (k:=(j2:Nat)) (p:=j2) rfl oM;have z6:=CA (dec:=dec) (m:=(w).set (j2) (vA w (a))) (j:=jj) (k:=(a:Nat)) (p:=a) rfl (by rw[List.length_set];omega);refine Tc.dr [13,15] [0] mixed rfl ?_;refine V2 0 ?_;refine .nw 2 ?_;refine .nw 3 ?_;refine V4 4 ?_;refine .nw 8 ?_;refine .nw 9 ?_;refine .nw 10 ?_;refine V2 11 ?_;refine .e 13 0 ?_;refine .nw 14 ?_;refine .e 15 0 ?_;refine .dn ?_;refine U6 ?_;refine .rt hK func264 results264 [_,_] ?_;exact fun H' hs=> xB.of (dec:=dec) hs (i:=0) rfl ⟨(j2,false,GB w j2 a),rfl,rfl,g2.trans (nA.swap oM oM oM oM),p2.fin oM d⟩
      ·have aX:=p2.swap oM oM (x1 oM) (x2 oM);have e2:((j2:Nat):Int)-1=((j2-1:Nat):Int):=by omega
       refine iD ?_;have z1:=sA (dec:=dec) (m:=w) (j:=jj) (k:=(i2:Nat)) (p:=i2) rfl oM;have z2:=sA (dec:=dec) (m:=w) (j:=jj) (k:=(j2:Nat)) (p:=j2) rfl oM;have z3:=EA (dec:=dec) (m:=w) (j:=jj) (k:=(i2:Nat)) (x:=vA w (j2)) (p:=i2) rfl oM;have z4:=EA (dec:=dec) (m:=(w).set (i2) (vA w (j2))) (j:=jj) (k:=(j2:Nat)) (x:=vA w (i2)) (p:=j2) rfl (by rw[List.length_set];omega);have z5:=CA (dec:=dec) (m:=w) (j:=jj) (k:=(i2:Nat)) (p:=i2) rfl oM;have z6:=CA (dec:=dec) (m:=(w).set (i2) (vA w (j2))) (j:=jj) (k:=(j2:Nat)) (p:=j2) rfl (by rw[List.length_set];omega);refine Tc.dr [13,15] [0] mixed rfl ?_;refine V2 0 ?_;refine .nw 2 ?_;refine .nw 3 ?_;refine V4 4 ?_;refine .nw 8 ?_;refine .nw 9 ?_;refine .nw 10 ?_;refine V2 11 ?_;refine .e 13 0 ?_;refine .nw 14 ?_;refine .e 15 0 ?_;refine .dn ?_;refine ND ?_;rw[e2];refine U ?_;exact Tc.db (ih0 ⟨(i2+1,j2-1,GB w i2 j2),aX.2,g2.trans (nA.swap oM oM oM oM)⟩ Ob)
     ·refine Tc.db (Tc.qA (σ:= { s:Nat//s<=j/\yP a b (i2) s w }) (fun s=> ([(0,.sl sb n cap),(1,.nt a),(10,.nt i2),(11,.nt s.1)],[Bb sb ((rA dec w)++jj) 9])) (fun s=> s.1) ?_ ⟨j,Nat.le_refl _,p1⟩);rintro⟨s,q1,q2⟩ ih;have q3:=q2.ai;have q4:=q2.ij;have q5:=q2.jb;show Tc M St _ _ _ _ [(0,.sl sb n cap),(1,.nt a),(10,.nt i2),(11,.nt s)] [Bb sb ((rA dec w)++jj) 9] _ _;by_cases c1:i2<=s
      ·have e1:((s:Nat):Int)-1=((s-1:Nat):Int):=by omega
       have k1:=sA (dec:=dec) (m:=w) (j:=jj) (k:=(s:Nat)) (p:=s) rfl oM;have k2:=sA (dec:=dec) (m:=w) (j:=jj) (k:=(a:Nat)) (p:=a) rfl oM;by_cases c2:vA w s<vA w a
       ·refine U2 ?_;refine Tc.dr [] [] mixed rfl ?_;refine nR 0 ?_;refine .z 12 rfl (pA.tk fun H hs=> CC M H BK (tA oM) (tA oM) true (decide_eq_true c2)) ?_;refine V2 13 ?_;refine .dn ?_;refine U2 ?_;exact Tc.db (fin [(0,.sl sb n cap),(1,.nt a),(10,.nt i2),(11,.nt s)] [Bb sb ((rA dec w)++jj) 9] ⟨s,q1,q2,fun _=> c2,⟨rfl,rfl,rfl,rfl,trivial⟩,rfl⟩)
       ·refine U2 ?_;refine Tc.dr [] [] mixed rfl ?_;refine nR 0 ?_;refine .z 12 rfl (pA.tk fun H hs=> CC M H BK (tA oM) (tA oM) false (decide_eq_false c2)) ?_;refine V2 13 ?_;refine .dn ?_;refine U8 ?_;rw[e1];refine U ?_;exact Tc.db (ih ⟨s-1,oM,q2.down c1 c2⟩ Ob)
      ·refine U2 ?_;refine Tc.dr [] [] mixed rfl ?_;refine V4 0 ?_;refine .nw 4 ?_;refine .nw 5 ?_;refine .nw 6 ?_;refine .nw 7 ?_;refine .nw 8 ?_;refine .nw 9 ?_;refine .nw 10 ?_;refine .nw 11 ?_;refine .nw 12 ?_;refine .nw 13 ?_;refine .nn 14 ?_;refine .dn ?_;refine U2 ?_;exact Tc.db (fin [(0,.sl sb n cap),(1,.nt a),(10,.nt i2),(11,.nt s)] [Bb sb ((rA dec w)++jj) 9] ⟨s,q1,q2,fun h=> absurd h c1,⟨rfl,rfl,rfl,rfl,trivial⟩,rfl⟩)
    ·refine Tc.db (Tc.qA (σ:= { s:Nat//i<=s/\yP a b s (j) w }) (fun s=> ([(0,.sl sb n cap),(1,.nt a),(10,.nt s.1),(11,.nt j)],[Bb sb ((rA dec w)++jj) 9])) (fun s=> j+1-s.1) ?_ ⟨i,Nat.le_refl _,g1⟩);rintro⟨s,q1,q2⟩ ih;have q3:=q2.ai;have q4:=q2.ij;have q5:=q2.jb;show Tc M St _ _ _ _ [(0,.sl sb n cap),(1,.nt a),(10,.nt s),(11,.nt j)] [Bb sb ((rA dec w)++jj) 9] _ _;by_cases c1:s<=j
     ·have k1:=sA (dec:=dec) (m:=w) (j:=jj) (k:=(s:Nat)) (p:=s) rfl oM;have k2:=sA (dec:=dec) (m:=w) (j:=jj) (k:=(a:Nat)) (p:=a) rfl oM;by_cases c2:vA w s<vA w a
      ·refine U2 ?_;refine Tc.dr [] [] mixed rfl ?_;refine nR 0 ?_;refine .z 12 rfl (pA.tk fun H hs=> CC M H BK (tA oM) (tA oM) true (decide_eq_true c2)) ?_;refine .nn 13 ?_;refine .dn ?_;refine U9 ?_;exact Tc.db (ih ⟨s+1,oM,q2.up c1 c2⟩ Ob)
      ·refine U2 ?_;refine Tc.dr [] [] mixed rfl ?_;refine nR 0 ?_;refine .z 12 rfl (pA.tk fun H hs=> CC M H BK (tA oM) (tA oM) false (decide_eq_false c2)) ?_;refine .nn 13 ?_;refine .dn ?_;refine U2 ?_;exact Tc.db (fin [(0,.sl sb n cap),(1,.nt a),(10,.nt s),(11,.nt j)] [Bb sb ((rA dec w)++jj) 9] ⟨s,q1,q2,fun _=> c2,⟨rfl,rfl,rfl,rfl,trivial⟩,rfl⟩)
     ·refine U2 ?_;refine Tc.dr [] [] mixed rfl ?_;refine V4 0 ?_;refine .nw 4 ?_;refine .nw 5 ?_;refine .nw 6 ?_;refine .nw 7 ?_;refine .nw 8 ?_;refine .nw 9 ?_;refine .nw 10 ?_;refine .nw 11 ?_;refine .nw 12 ?_;refine .nn 13 ?_;refine .dn ?_;refine U2 ?_;exact Tc.db (fin [(0,.sl sb n cap),(1,.nt a),(10,.nt s),(11,.nt j)] [Bb sb ((rA dec w)++jj) 9] ⟨s,q1,q2,fun h=> absurd h c1,⟨rfl,rfl,rfl,rfl,trivial⟩,rfl⟩)
  ·refine Tc.db (Tc.qA (σ:= { s:Nat//s<=b-1/\yP a b (i1) s u }) (fun s=> ([(0,.sl sb n cap),(1,.nt a),(10,.nt i1),(11,.nt s.1)],[Bb sb ((rA dec u)++jj) 9])) (fun s=> s.1) ?_ ⟨b-1,Nat.le_refl _,o1⟩);rintro⟨s,q1,q2⟩ ih;have q3:=q2.ai;have q4:=q2.ij;have q5:=q2.jb;show Tc M St _ _ _ _ [(0,.sl sb n cap),(1,.nt a),(10,.nt i1),(11,.nt s)] [Bb sb ((rA dec u)++jj) 9] _ _;by_cases c1:i1<=s
   ·have e1:((s:Nat):Int)-1=((s-1:Nat):Int):=by omega
    have k1:=sA (dec:=dec) (m:=u) (j:=jj) (k:=(s:Nat)) (p:=s) rfl oM;have k2:=sA (dec:=dec) (m:=u) (j:=jj) (k:=(a:Nat)) (p:=a) rfl oM;by_cases c2:vA u s<vA u a
    ·refine U2 ?_;refine Tc.dr [] [] mixed rfl ?_;refine nR 0 ?_;refine .z 12 rfl (pA.tk fun H hs=> CC M H BK (tA oM) (tA oM) true (decide_eq_true c2)) ?_;refine V2 13 ?_;refine .dn ?_;refine U2 ?_;exact Tc.db (fin [(0,.sl sb n cap),(1,.nt a),(10,.nt i1),(11,.nt s)] [Bb sb ((rA dec u)++jj) 9] ⟨s,q1,q2,fun _=> c2,⟨rfl,rfl,rfl,rfl,trivial⟩,rfl⟩)
    ·refine U2 ?_;refine Tc.dr [] [] mixed rfl ?_;refine nR 0 ?_;refine .z 12 rfl (pA.tk fun H hs=> CC M H BK (tA oM) (tA oM) false (decide_eq_false c2)) ?_;refine V2 13 ?_;refine .dn ?_;refine U8 ?_;rw[e1];refine U ?_;exact Tc.db (ih ⟨s-1,oM,q2.down c1 c2⟩ Ob)
   ·refine U2 ?_;refine Tc.dr [] [] mixed rfl ?_;refine V4 0 ?_;refine .nw 4 ?_;refine .nw 5 ?_;refine .nw 6 ?_;refine .nw 7 ?_;refine .nw 8 ?_;refine .nw 9 ?_;refine .nw 10 ?_;refine .nw 11 ?_;refine .nw 12 ?_;refine .nw 13 ?_;refine .nn 14 ?_;refine .dn ?_;refine U2 ?_;exact Tc.db (fin [(0,.sl sb n cap),(1,.nt a),(10,.nt i1),(11,.nt s)] [Bb sb ((rA dec u)++jj) 9] ⟨s,q1,q2,fun h=> absurd h c1,⟨rfl,rfl,rfl,rfl,trivial⟩,rfl⟩)
 ·refine Tc.db (Tc.qA (σ:= { s:Nat//a+1<=s/\yP a b s (b-1) u }) (fun s=> ([(0,.sl sb n cap),(1,.nt a),(10,.nt s.1),(11,.iz (b-1:Nat))],[Bb sb ((rA dec u)++jj) 9])) (fun s=> b-1+1-s.1) ?_ ⟨a+1,Nat.le_refl _,aC⟩);rintro⟨s,q1,q2⟩ ih;have q3:=q2.ai;have q4:=q2.ij;have q5:=q2.jb;show Tc M St _ _ _ _ [(0,.sl sb n cap),(1,.nt a),(10,.nt s),(11,.iz (b-1:Nat))] [Bb sb ((rA dec u)++jj) 9] _ _;by_cases c1:s<=b-1
  ·have k1:=sA (dec:=dec) (m:=u) (j:=jj) (k:=(s:Nat)) (p:=s) rfl oM;have k2:=sA (dec:=dec) (m:=u) (j:=jj) (k:=(a:Nat)) (p:=a) rfl oM;by_cases c2:vA u s<vA u a
   ·refine U2 ?_;refine Tc.dr [] [] mixed rfl ?_;refine nR 0 ?_;refine .z 12 rfl (pA.tk fun H hs=> CC M H BK (tA oM) (tA oM) true (decide_eq_true c2)) ?_;refine .nn 13 ?_;refine .dn ?_;refine U9 ?_;exact Tc.db (ih ⟨s+1,oM,q2.up c1 c2⟩ Ob)
   ·refine U2 ?_;refine Tc.dr [] [] mixed rfl ?_;refine nR 0 ?_;refine .z 12 rfl (pA.tk fun H hs=> CC M H BK (tA oM) (tA oM) false (decide_eq_false c2)) ?_;refine .nn 13 ?_;refine .dn ?_;refine U2 ?_;exact Tc.db (fin [(0,.sl sb n cap),(1,.nt a),(10,.nt s),(11,.iz (b-1:Nat))] [Bb sb ((rA dec u)++jj) 9] ⟨s,q1,q2,fun _=> c2,⟨rfl,rfl,rfl,rfl,trivial⟩,rfl⟩)
  ·refine U2 ?_;refine Tc.dr [] [] mixed rfl ?_;refine V4 0 ?_;refine .nw 4 ?_;refine .nw 5 ?_;refine .nw 6 ?_;refine .nw 7 ?_;refine .nw 8 ?_;refine .nw 9 ?_;refine .nw 10 ?_;refine .nw 11 ?_;refine .nw 12 ?_;refine .nn 13 ?_;refine .dn ?_;refine U2 ?_;exact Tc.db (fin [(0,.sl sb n cap),(1,.nt a),(10,.nt s),(11,.iz (b-1:Nat))] [Bb sb ((rA dec u)++jj) 9] ⟨s,q1,q2,fun h=> absurd h c1,⟨rfl,rfl,rfl,rfl,trivial⟩,rfl⟩)
end
section
variable(M:Md prog)(H:View)
theorem rY (dec:Int->By)(sb:Nat)(l:List Int)(jj:List Value)(n cap a b:Nat)(hn:n=l.length)(hE:MO dec l)(hb:b<=n)(gG:n<=100000000)(AR:a<b)(hah:nF a b l)(hS:H sb=some (true,.cells ⟨(rA dec l)++jj⟩ 9 (0,0))):
  fA M 261 #[.sl sb n cap,.nt a,.nt b] H (xB dec H sb jj (fun v m=> ∃t:Bool,v=.bool t/\nA a b l m/\(t=true->AF a b m))):=by
 refine fA.enter (vs:= [.sl sb n cap,.nt a,.nt b]) func261 rfl ntmps261 Nb (jA.pull hS) fun St c cs hK=> ?_;have ea:iA .add .i64 (a:Nat) 1=some (.int .i64 ((a+1:Nat):Int)):=by rw[pB oM oM];rfl
 refine LI ?_;refine Tc.db (Tc.qA (σ:= { s:Nat×Nat×List Int//a+1<=s.1/\s.1<=b/\s.2.1<=5/\nA a b l s.2.2/\AF a s.1 s.2.2 }) (fun s=> ([(0,.sl sb n cap),(1,.nt a),(2,.nt b),(7,.nt s.1.1),(8,.nt s.1.2.1)],[Bb sb ((rA dec s.1.2.2)++jj) 9])) (fun s=> 5-s.1.2.1) ?_
  ⟨(a+1,0,l),Nat.le_refl _,by simp only;omega,Nat.zero_le _,nA.refl ..,fun p q h1 h2 h3=> by simp only at h3;omega⟩)
 rintro⟨⟨i0,c0,u⟩,f1,f2,f3,f4,f5⟩ ih;simp only at f1 f2 f3 f4 f5;have uO:=f4.len;have BK:=hE.JD f4;have hau:=hah.dJ f4 oM;show Tc M St _ _ _ _ [(0,.sl sb n cap),(1,.nt a),(2,.nt b),(7,.nt i0),(8,.nt c0)] [Bb sb ((rA dec u)++jj) 9] _ _;by_cases d0:c0<5
 ·have ec : iA .add .i64 (c0:Nat) 1=some (.int .i64 ((c0+1:Nat):Int)):=by rw[pB oM oM];rfl
  refine uH ?_;refine Tc.db (Tc.qA (σ:= { i:Nat//a+1<=i/\i<=b/\AF a i u }) (fun i=> ([(0,.sl sb n cap),(1,.nt a),(2,.nt b),(7,.nt i.1),(8,.nt c0)],[Bb sb ((rA dec u)++jj) 9])) (fun i=> b-i.1) ?_ ⟨i0,f1,f2,f5⟩);rintro⟨i,g1,g2,g3⟩ ih2;show Tc M St _ _ _ _ [(0,.sl sb n cap),(1,.nt a),(2,.nt b),(7,.nt i),(8,.nt c0)] [Bb sb ((rA dec u)++jj) 9] _ _;by_cases d1:i<b
  ·have e1 : ((i : Nat):Int)-1=((i-1:Nat):Int):=by omega
   have k1:=sA (dec:=dec) (m:=u) (j:=jj) (k:=(i:Nat)) (p:=i) rfl oM;have k2:=sA (dec:=dec) (m:=u) (j:=jj) (k:=(i:Nat)-1) (p:=i-1) e1 oM;by_cases d2:vA u i<vA u (i-1)
   ·clear ih2;by_cases d3:b<a+50
    ·refine U2 ?_;refine Tc.dr [] [] mixed rfl ?_;refine V13 0 ?_;refine .z 13 rfl (pA.tk fun H hs=> CC M H BK (tA oM) (tA oM) true (decide_eq_true d2)) ?_;refine V2 14 ?_;refine .dn ?_;refine PO ?_;refine .rt hK func261 results261 [_] ?_;exact fun H' hs=> xB.of (dec:=dec) hs (i:=0) rfl ⟨false,rfl,f4,fun h=> nomatch h⟩
    ·have s1 :=EA (dec:=dec) (m:=u) (j:=jj) (k:=(i:Nat)) (x:=vA u (i-1)) (p:=i) rfl oM;have s2:=EA (dec:=dec) (m:=u.set i (vA u (i-1))) (j:=jj) (k:=(i:Nat)-1) (x:=vA u i) (p:=i-1) e1 (by rw[List.length_set];omega);have l1:=CA (dec:=dec) (m:=u) (j:=jj) (k:=(i:Nat)) (p:=i) rfl oM;have l2:=CA (dec:=dec) (m:=u.set i (vA u (i-1))) (j:=jj) (k:=(i:Nat)-1) (p:=i-1) e1 (by rw[List.length_set];omega);refine U2 ?_;refine Tc.dr [] [] mixed rfl ?_;refine V13 0 ?_;refine .z 13 rfl (pA.tk fun H hs=> CC M H BK (tA oM) (tA oM) true (decide_eq_true d2)) ?_;refine V2 14 ?_;refine .dn ?_;refine o6 ?_;refine Tc.dr [15,17] [0] mixed rfl ?_;refine V2 0 ?_;refine .nw 2 ?_;refine .nw 3 ?_;refine .nw 4 ?_;refine V5 5 ?_;refine .nw 10 ?_;refine .nw 11 ?_;refine .nw 12 ?_;refine V2 13 ?_;refine .e 15 0 ?_;refine .nw 16 ?_;refine .e 17 0 ?_;refine .dn ?_;refine Tc.db (R':= [(0,.sl sb n cap),(1,.nt a),(2,.nt b),(7,.nt i),(8,.nt c0)]) (L':= [Bb sb ((rA dec (GB u i (i-1)))++jj) 9]) ?_;have hx:nA a b l (GB u i (i-1)):=f4.trans (nA.swap oM oM oM oM);have R7:∀p q,a<=p->p<q->q<=i-1->q≠i-1->vA (GB u i (i-1)) p<=vA (GB u i (i-1)) q:=fun p q h1 h2 h3 h4=> by
      rw[WC oM oM,WC oM oM,if_neg oM,if_neg oM,if_neg oM,if_neg oM];exact g3 p q h1 h2 oM
     generalize GB u i (i-1)=x at hx R7;clear k1 k2 s1 s2 l1 l2 d2 g3 hau BK uO;have bX:=hx.len;refine U ?_;refine Tc.via (fun R' L'=> ∃w,nA a b l w/\AF a i w/\pC [(0,.sl sb n cap),(1,.nt a),(2,.nt b),(7,.nt i),(8,.nt c0)] R'/\L'= [Bb sb ((rA dec w)++jj) 9]) ?_ (fun fin=> ?_)
     rotate_left
     ·by_cases d4 :a+2<=i
      ·refine MF ?_;rw[e1];refine U ?_;refine Tc.db (Tc.qA (σ:= { s:Nat×List Int//a<=s.1/\s.1<i/\nA a b l s.2/\∀p q,a<=p->p<q->q<=i-1->q≠s.1->vA s.2 p<=vA s.2 q }) (fun s=> ([(0,.sl sb n cap),(1,.nt a),(2,.nt b),(7,.nt i),(8,.nt c0),(9,.nt s.1.1)],[Bb sb ((rA dec s.1.2)++jj) 9])) (fun s=> s.1.1) ?_
        ⟨(i-1,x),by simp only;omega,by simp only;omega,hx,R7⟩)
       rintro⟨⟨j,w⟩,p1,p2,p3,p4⟩ ih3;simp only at p1 p2 p3 p4;have GU:=p3.len;have KX:=hE.JD p3;have haw:=hah.dJ p3 oM;show Tc M St _ _ _ _ [(0,.sl sb n cap),(1,.nt a),(2,.nt b),(7,.nt i),(8,.nt c0),(9,.nt j)] [Bb sb ((rA dec w)++jj) 9] _ _;have aFI:(a<j->¬vA w j<vA w (j-1))->AF a i w:=fun h=> by
        by_cases e:a<j
        ·have:=OT (i:=i-1) p4 e (h e)
         rwa [show i-1+1=i by omega] at this
        ·exact fun p q h1 h2 h3=> p4 p q h1 h2 oM oM
       by_cases d5:1<=j
       ·have e2 :((j:Nat):Int)-1=((j-1:Nat):Int):=by omega
        have y1:=sA (dec:=dec) (m:=w) (j:=jj) (k:=(j:Nat)) (p:=j) rfl oM;have y2:=sA (dec:=dec) (m:=w) (j:=jj) (k:=(j:Nat)-1) (p:=j-1) e2 oM;by_cases d6:vA w j<vA w (j-1)
        ·have haj:a<j:=by
          rcases haw with h|h
          ·omega
          ·by_cases e:a<j
           ·exact e
           ·have e3:j=a:=by omega
            subst e3;have:=h j (Nat.le_refl _) oM;omega
         have t1:=EA (dec:=dec) (m:=w) (j:=jj) (k:=(j:Nat)) (x:=vA w (j-1)) (p:=j) rfl oM;have t2:=EA (dec:=dec) (m:=w.set j (vA w (j-1))) (j:=jj) (k:=(j:Nat)-1) (x:=vA w j) (p:=j-1) e2 (by rw[List.length_set];omega);have m1:=CA (dec:=dec) (m:=w) (j:=jj) (k:=(j:Nat)) (p:=j) rfl oM;have m2:=CA (dec:=dec) (m:=w.set j (vA w (j-1))) (j:=jj) (k:=(j:Nat)-1) (p:=j-1) e2 (by rw[List.length_set];omega);refine uH ?_;refine Tc.dr [] [] mixed rfl ?_;refine V9 0 ?_;refine .z 9 rfl (pA.tk fun H hs=> CC M H KX (tA oM) (tA oM) true (decide_eq_true d6)) ?_;refine .nn 10 ?_;refine .dn ?_;refine U2 ?_;refine Tc.dr [15,17] [0] mixed rfl ?_;refine V2 0 ?_;refine .nw 2 ?_;refine .nw 3 ?_;refine .nw 4 ?_;refine V5 5 ?_;refine .nw 10 ?_;refine .nw 11 ?_;refine .nw 12 ?_;refine V2 13 ?_;refine .e 15 0 ?_;refine .nw 16 ?_;refine .e 17 0 ?_;refine .dn ?_;refine U6 ?_;rw[e2];exact Tc.db (ih3 ⟨(j-1,GB w j (j-1)),by simp only;omega,by simp only;omega,p3.trans (nA.swap oM oM oM oM),mQ oM oM p4 haj d6⟩ Ob)
        ·refine uH ?_;refine Tc.dr [] [] mixed rfl ?_;refine V9 0 ?_;refine .z 9 rfl (pA.tk fun H hs=> CC M H KX (tA oM) (tA oM) false (decide_eq_false d6)) ?_;refine .nn 10 ?_;refine .dn ?_;refine U2 ?_;exact fin _ _ ⟨w,p3,aFI fun _=> d6,⟨rfl,rfl,rfl,rfl,rfl,trivial⟩,rfl⟩
       ·repeat (refine Tc.seq ?_)
        refine U6 ?_;exact fin _ _ ⟨w,p3,aFI fun h=> by omega,⟨rfl,rfl,rfl,rfl,rfl,trivial⟩,rfl⟩
      ·have hi:i=a+1:=by omega
       refine U9 ?_;exact fin _ _ ⟨x,hx,fun p q h1 h2 h3=> by omega,⟨rfl,rfl,rfl,rfl,rfl,trivial⟩,rfl⟩
     rintro R' _ ⟨w0,p1,p2,iM,rfl⟩;refine Tc.yC ?_ iM (List.Sublist.refl _);clear iM hx R7 bX x;have GU:=p1.len;refine Tc.via (fun R' L'=> ∃w,nA a b l w/\AF a i w/\pC [(0,.sl sb n cap),(1,.nt a),(2,.nt b),(7,.nt i),(8,.nt c0)] R'/\L'= [Bb sb ((rA dec w)++jj) 9]) ?_ (fun fin=> ?_)
     ·rintro R' _ ⟨w,o1,o2,iM,rfl⟩;refine Tc.yC ?_ iM (List.Sublist.refl _);refine U6 ?_;exact Tc.db (ih ⟨(i,c0+1,w),g1,g2,by simp only;omega,o1,o2⟩ Ob)
     ·by_cases d4:i+2<=b
      ·have ei:iA .add .i64 (i:Nat) 1=some (.int .i64 ((i+1:Nat):Int)):=by rw[pB oM oM];rfl
       refine AJ ?_;refine Tc.db (Tc.qA (σ:= { s:Nat×List Int//i+1<=s.1/\s.1<=b/\nA a b l s.2/\AF a i s.2 }) (fun s=> ([(0,.sl sb n cap),(1,.nt a),(2,.nt b),(7,.nt i),(8,.nt c0),(10,.nt s.1.1)],[Bb sb ((rA dec s.1.2)++jj) 9])) (fun s=> b-s.1.1) ?_
        ⟨(i+1,w0),Nat.le_refl _,by simp only;omega,p1,p2⟩)
       rintro⟨⟨j,w⟩,q1,q2,q3,q4⟩ ih3;simp only at q1 q2 q3 q4;have GU:=q3.len;have KX:=hE.JD q3;show Tc M St _ _ _ _ [(0,.sl sb n cap),(1,.nt a),(2,.nt b),(7,.nt i),(8,.nt c0),(10,.nt j)] [Bb sb ((rA dec w)++jj) 9] _ _;by_cases d5:j<b
       ·have e2:((j:Nat):Int)-1=((j-1:Nat):Int):=by omega
        have y1:=sA (dec:=dec) (m:=w) (j:=jj) (k:=(j:Nat)) (p:=j) rfl oM;have y2:=sA (dec:=dec) (m:=w) (j:=jj) (k:=(j:Nat)-1) (p:=j-1) e2 oM;by_cases d6:vA w j<vA w (j-1)
        ·have t1:=EA (dec:=dec) (m:=w) (j:=jj) (k:=(j:Nat)) (x:=vA w (j-1)) (p:=j) rfl oM;have t2:=EA (dec:=dec) (m:=w.set j (vA w (j-1))) (j:=jj) (k:=(j:Nat)-1) (x:=vA w j) (p:=j-1) e2 (by rw[List.length_set];omega);have m1:=CA (dec:=dec) (m:=w) (j:=jj) (k:=(j:Nat)) (p:=j) rfl oM;have m2:=CA (dec:=dec) (m:=w.set j (vA w (j-1))) (j:=jj) (k:=(j:Nat)-1) (p:=j-1) e2 (by rw[List.length_set];omega);have ej:iA .add .i64 (j:Nat) 1=some (.int .i64 ((j+1:Nat):Int)):=by rw[pB oM oM];rfl
         refine JG ?_;refine Tc.dr [] [] mixed rfl ?_;refine V9 0 ?_;refine .z 9 rfl (pA.tk fun H hs=> CC M H KX (tA oM) (tA oM) true (decide_eq_true d6)) ?_;refine .nn 10 ?_;refine .dn ?_;refine U2 ?_;refine Tc.dr [15,17] [0] mixed rfl ?_;refine V2 0 ?_;refine .nw 2 ?_;refine .nw 3 ?_;refine .nw 4 ?_;refine V5 5 ?_;refine .nw 10 ?_;refine .nw 11 ?_;refine .nw 12 ?_;refine V2 13 ?_;refine .e 15 0 ?_;refine .nw 16 ?_;refine .e 17 0 ?_;refine .dn ?_;refine U6 ?_;exact Tc.db (ih3 ⟨(j+1,GB w j (j-1)),by simp only;omega,by simp only;omega,q3.trans (nA.swap oM oM oM oM),X9 oM oM q4⟩ Ob)
        ·refine JG ?_;refine Tc.dr [] [] mixed rfl ?_;refine V9 0 ?_;refine .z 9 rfl (pA.tk fun H hs=> CC M H KX (tA oM) (tA oM) false (decide_eq_false d6)) ?_;refine .nn 10 ?_;refine .dn ?_;refine U2 ?_;exact fin _ _ ⟨w,q3,q4,⟨rfl,rfl,rfl,rfl,rfl,trivial⟩,rfl⟩
       ·repeat (refine Tc.seq ?_)
        refine U7 ?_;exact fin _ _ ⟨w,q3,q4,⟨rfl,rfl,rfl,rfl,rfl,trivial⟩,rfl⟩
      ·refine U9 ?_;exact fin _ _ ⟨w0,p1,p2,⟨rfl,rfl,rfl,rfl,rfl,trivial⟩,rfl⟩
   ·have ei:iA .add .i64 (i:Nat) 1=some (.int .i64 ((i+1:Nat):Int)):=by rw[pB oM oM];rfl
    refine U2 ?_;refine Tc.dr [] [] mixed rfl ?_;refine V13 0 ?_;refine .z 13 rfl (pA.tk fun H hs=> CC M H BK (tA oM) (tA oM) false (decide_eq_false d2)) ?_;refine V2 14 ?_;refine .dn ?_;refine U9 ?_;exact Tc.db (ih2 ⟨i+1,oM,oM,W9 g3 oM d2⟩ Ob)
  ·refine U2 ?_;refine Tc.dr [] [] mixed rfl ?_;refine V4 0 ?_;refine .nw 4 ?_;refine .nw 5 ?_;refine .nw 6 ?_;refine .nw 7 ?_;refine .nw 8 ?_;refine .nw 9 ?_;refine .nw 10 ?_;refine .nw 11 ?_;refine .nw 12 ?_;refine .nw 13 ?_;refine .nw 14 ?_;refine .nn 15 ?_;refine .dn ?_;refine MF ?_;refine .rt hK func261 results261 [_] ?_;have hi:i=b:=by omega
   exact fun H' hs=> xB.of (dec:=dec) hs (i:=0) rfl ⟨true,rfl,f4,fun _=> hi▸g3⟩
 ·refine uH ?_;refine .rt hK func261 results261 [_] ?_;exact fun H' hs=> xB.of (dec:=dec) hs (i:=0) rfl ⟨false,rfl,f4,fun h=> nomatch h⟩
end
set_option maxHeartbeats 8000000
theorem UL {x:Nat}(hx:0<x):x<2 ^ bl x/\2 ^ bl x<=2*x:=by
 unfold bl;rw[if_neg oM];have h1:x<2 ^ (Nat.log2 x+1):=Nat.lt_log2_self;have h2:2 ^ Nat.log2 x<=x:=Nat.log2_self_le oM;refine⟨h1,?_⟩;rw[Nat.pow_succ];omega
theorem aAZ {x r:Nat}(hx:0<x)(h1:x<2 ^ r)(h2:2 ^ r<=2*x):bl x=r:=by
 obtain⟨h3,h4⟩:=UL hx;have a1:2 ^ bl x<2 ^ (r+1):=by rw[Nat.pow_succ];omega
 have a2:2 ^ r<2 ^ (bl x+1):=by rw[Nat.pow_succ];omega
 have b1:=(Nat.pow_lt_pow_iff_right (a:=2) dE).1 a1;have b2:=(Nat.pow_lt_pow_iff_right (a:=2) dE).1 a2;omega
theorem fV {x k:Nat}(hx:2 ^ k<=x):bl x=k+bl (x/2 ^ k):=by
 have hp:0<2 ^ k:=Nat.pow_pos dE;have hy:0<x/2 ^ k:=Nat.div_pos hx hp;obtain⟨h1,h2⟩:=UL hy;refine aAZ oM ?_ ?_
 ·rw[Nat.pow_add];rw[Nat.mul_comm];exact(Nat.div_lt_iff_lt_mul hp).1 h1
 ·rw[Nat.pow_add];have h3:2 ^ k*(x/2 ^ k)<=x:=Nat.mul_div_le x _
  calc 2 ^ k*2 ^ bl (x/2 ^ k)<=2 ^ k*(2*(x/2 ^ k)):=Nat.mul_le_mul_left _ h2
   _=2*(2 ^ k*(x/2 ^ k)):=by rw[Nat.mul_left_comm]
   _<=2*x:=Nat.mul_le_mul_left _ h3
theorem aCA:∀x:Nat,x<256->(UInt8.ofNat (bl x)).toNat=bl x/\bl x<=8:=by decide +kernel
theorem aEO:∀x:Nat,x<256->IntKind.u8.wrap (x:Int)=(x:Int):=by decide +kernel
theorem G0 {x k:Nat}(hk:k<=64):CE .shr .u64 (x:Nat) (k:Nat)=some (.int .u64 ((x/2 ^ k:Nat):Int)):=by
 have e:min ((k:Nat):Int).toNat IntKind.u64.bits=k:=by
  have:IntKind.u64.bits=64:=rfl;rw[this,Int.toNat_natCast];omega
 show some (Value.int .u64 (((x:Nat):Int).fdiv (2 ^ (min ((k:Nat):Int).toNat IntKind.u64.bits))))=_;rw[e]
 congr 2
 have:((2:Int) ^ k)=((2 ^ k:Nat):Int):=by norm_cast
 rw[this,Int.fdiv_eq_ediv_of_nonneg _ (Int.natCast_nonneg _)];rfl
section
variable(M:Md prog)(H:View)
theorem Q5(x:Nat)(hx:x<4294967296):fA M 266 #[.int .u64 (x:Nat)] H (Ib H (.int .i64 (bl x:Nat))):=by
 refine .en func266 ntmps266 fun St c cs hK=> ?_;refine JG ?_;refine Tc.via (fun R' L'=> ∃y s:Nat,y<65536/\s<=16/\bl x=s+bl y/\pC [(0,.int .u64 (y:Nat)),(2,.nt s)] R') ?_ (fun fin=> ?_)
 rotate_left
 ·by_cases c1:65536<=x
  ·have tO:=G0 (x:=x) (k:=16) dE;refine U9 ?_;refine .x (pA.shift rfl rfl rfl oM tO) ?_;refine U7 ?_;exact fin _ [] ⟨x/2 ^ 16,16,oM,oM,fV (k:=16) c1,⟨rfl,rfl,trivial⟩⟩
  ·refine U7 ?_;exact fin _ [] ⟨x,0,oM,oM,oM,⟨rfl,rfl,trivial⟩⟩
 rintro R' L' ⟨y,s,hy,hs,hb,hR⟩;refine Tc.yC (R':= [(0,.int .u64 (y:Nat)),(2,.nt s)]) (L':= []) ?_ hR (List.nil_sublist _);clear hR;refine U ?_;refine Tc.via (fun R' L'=> ∃y s:Nat,y<256/\s<=24/\bl x=s+bl y/\pC [(0,.int .u64 (y:Nat)),(2,.nt s)] R') ?_ (fun fin=> ?_)
 rotate_left
 ·by_cases c1:256<=y
  ·have tO:=G0 (x:=y) (k:=8) dE;have e8:iA .add .i64 (s:Nat) 8=some (.int .i64 ((s+8:Nat):Int)):=by rw[pB oM oM];rfl
   refine U9 ?_;refine .x (pA.shift rfl rfl rfl oM tO) ?_;refine U7 ?_;exact fin _ [] ⟨y/2 ^ 8,s+8,oM,oM,by have:=fV (x:=y) (k:=8) c1;omega,⟨rfl,rfl,trivial⟩⟩
  ·refine U7 ?_;exact fin _ [] ⟨y,s,oM,oM,hb,⟨rfl,rfl,trivial⟩⟩
 rintro R' L' ⟨z,r,hz,hr,hb2,hR⟩;refine Tc.yC (R':= [(0,.int .u64 (z:Nat)),(2,.nt r)]) (L':= []) ?_ hR (List.nil_sublist _);clear hR;obtain⟨b1,b2⟩:=aCA z hz;have hw:=aEO z hz;have hw2:IntKind.i64.wrap (((UInt8.ofNat (bl z)).toNat:Nat):Int)=((bl z:Nat):Int):=by rw[b1];exact wrap64 oM oM
 have aCT:iA .add .i64 (r:Nat) ((bl z:Nat):Int)=some (.int .i64 ((bl x:Nat):Int)):=by rw[pB oM oM,hb2];rfl
 refine U5 ?_;refine .x (pA.lQ (c:=UInt8.ofNat (bl z)) rfl rfl rfl (DF ((en.ok _ _ (show en.ty 9=some _ from rfl)).ds.trans rfl)) oM (by
  rw[Int.toNat_natCast];exact(fun(s:ByteArray) (h:∀y:Nat,y<256->s[y]? =some (UInt8.ofNat (bl y)))=> h z hz) _ (by decide +kernel))) ?_
 refine .x (pA.xZ (E:=en) rfl rfl rfl rfl rfl rfl hw2) ?_;refine .i ?_ (z:=aCT);refine U2 ?_;refine .rt hK func266 results266 [_] ?_;exact okB
theorem R5(x:Nat)(hx:x<4294967296):fA M 197 #[.int .u64 (x:Nat)] H (Ib H (.int .i64 (bl x:Nat))):=by
 refine .en func197 ntmps197 fun St c cs hK=> ?_;refine iD ?_;refine .cl (fun H hs=> Q5 M H x hx) ?_;refine U2 ?_;refine .rt hK func197 results197 [_] ?_;exact okB
def S5(H:View)(cb:Nat)(v:Value)(H':View):Prop:=
 (∀b x,b≠cb->H b=some x->H' b=some x)/\∃z:Int,v=.int .u64 z/\H' cb=some (true,.cells ⟨[.int .u64 z]⟩ 388 (0,0))
theorem aCt(cb:Nat)(z:Int)(hC:H cb=some (true,.cells ⟨[.int .u64 z]⟩ 388 (0,0))):fA M 303 #[.pt cb] H (S5 H cb):=by
 obtain⟨z1,h1⟩:∃z1,CE .shl .u64 z 13=some (.int .u64 z1):=⟨_,rfl⟩
 obtain⟨z2,h2⟩:∃z2,iA .xor .u64 z z1=some (.int .u64 z2):=⟨_,rfl⟩
 obtain⟨z3,h3⟩:∃z3,CE .shr .u64 z2 7=some (.int .u64 z3):=⟨_,rfl⟩
 obtain⟨z4,h4⟩:∃z4,iA .xor .u64 z2 z3=some (.int .u64 z4):=⟨_,rfl⟩
 obtain⟨z5,h5⟩:∃z5,CE .shl .u64 z4 17=some (.int .u64 z5):=⟨_,rfl⟩
 obtain⟨z6,h6⟩:∃z6,iA .xor .u64 z4 z5=some (.int .u64 z6):=⟨_,rfl⟩
 refine fA.enter (vs:= [.pt cb]) func303 rfl ntmps303 Nb (jA.pull hC) fun St c cs hK=> ?_;refine U5 ?_;refine Tc.dr [9] [0] mixed rfl ?_;refine V6 0 ?_;refine .q 6 rfl .sf ?_;refine V2 7 ?_;refine .e 9 0 ?_;refine .dn ?_;refine U ?_;refine Tc.dr [9] [0] mixed rfl ?_;refine V6 0 ?_;refine .q 6 rfl .sf ?_;refine V2 7 ?_;refine .e 9 0 ?_;refine .dn ?_;refine U ?_;refine Tc.dr [9] [0] mixed rfl ?_;refine V6 0 ?_;refine .q 6 rfl .sf ?_;refine V2 7 ?_;refine .e 9 0 ?_;refine .dn ?_;refine U7 ?_;refine .rt hK func303 results303 [_] ?_;exact fun H' hs=> ⟨fun b x hb hx=> hs.base b x (by rw[nB hb];exact hx),z6,rfl,hs.get (i:=0) rfl⟩
theorem u64_in {x:Nat}(hx:x<18446744073709551616):IntKind.u64.wrap ((x:Nat):Int)=((x:Nat):Int):=by
 show(((x:Nat):Int)%(2 ^ 64:Int))=_;omega
theorem L3(x:Nat)(hx:0<x/\x<1000000000):fA M 302 #[.nt x] H (Ib H (.int .u64 ((2 ^ bl x:Nat):Int))):=by
 obtain⟨h1,h2⟩:=UL hx.1;have hw:IntKind.u64.wrap ((x:Nat):Int)=((x:Nat):Int):=u64_in oM;have hb:bl x<=31:=by
  have h3:2 ^ bl x<2 ^ 32:=by omega
  have:=(Nat.pow_lt_pow_iff_right (a:=2) dE).1 h3;omega
 have hs:CE .shl .u64 1 ((bl x:Nat):Int)=some (.int .u64 ((2 ^ bl x:Nat):Int)):=by
  have e:min ((bl x:Nat):Int).toNat IntKind.u64.bits=bl x:=by
   have:IntKind.u64.bits=64:=rfl;rw[this,Int.toNat_natCast];omega
  show some (Value.int .u64 (IntKind.u64.wrap (1*2 ^ (min ((bl x:Nat):Int).toNat IntKind.u64.bits))))=_;rw[e,Int.one_mul];have:((2:Int) ^ bl x)=((2 ^ bl x:Nat):Int):=by norm_cast
  rw[this,u64_in oM]
 refine .en func302 ntmps302 fun St c cs hK=> ?_;refine U8 ?_;refine .cl (fun H hs=> R5 M H x oM) ?_;refine .x .sf ?_;refine U2 ?_;refine .rt hK func302 results302 [_] ?_;exact okB
end
theorem aAW(z:Int)(m:Nat)(h:m<4294967296):∃w:Nat,iA .and .u64 z (m:Nat)=some (.int .u64 (w:Nat))/\w<=m:=by
 have h2:((BitVec.ofInt 64 z) &&& (BitVec.ofInt 64 (m:Int))).toNat<=m:=by
  rw[BitVec.toNat_and];refine Nat.le_trans Nat.and_le_right ?_;rw[BitVec.toNat_ofInt];omega
 refine⟨((BitVec.ofInt 64 z) &&& (BitVec.ofInt 64 (m:Int))).toNat,?_,h2⟩;show some (Value.int .u64 (IntKind.u64.wrap (((BitVec.ofInt 64 z) &&& (BitVec.ofInt 64 (m:Int))).toNat:Int)))=_;rw[u64_in oM]
theorem Or.rnd {M:Md prog}{n:Nat}{H₀:View}{R:Rg}{L:Bl}{o:Oper}{K:Rg->Bl->Prop}{cl:Go.Call}{x:Operand}{fv:Value}{az:List Value}{d:Nat}(i:Nat){cb:Nat}{z:Int}
  (lA:o.op=.call cl) (iB:cl.callee=.value x) (hx:JA R x=some fv) (has:lD R cl.args.toList=some az) (hd:o.dst=some d) (hn:d<n) (hi:L[i]? =some (cb,true,.cells ⟨[.int .u64 z]⟩ 388 (0,0)))
  (hc:∀H,jA H₀ L H->WB M fv az H (S5 H cb)) (hk:∀z,K ((d,.int .u64 z)::R) (L.set i (cb,true,.cells ⟨[.int .u64 z]⟩ 388 (0,0)))):Or M n H₀ R L o K:=
 .IP lA iB hx has (Q:=fun H v H'=> S5 H cb v H') hc fun H v H' hs ⟨h1,z,h2,h3⟩=>
  ⟨_,_,OG hs hi h1 h3,by rw[hd];exact⟨hn,by rw[h2]⟩,hk z⟩
section
variable(M:Md prog)(H:View)
theorem G6(dec:Int->By)(sb:Nat)(l:List Int)(jj:List Value)(n cap a b:Nat)(hn:n=l.length)(hb:b<=n)(gG:n<=100000000)(h8:a+8<=b)(hS:H sb=some (true,.cells ⟨(rA dec l)++jj⟩ 9 (0,0))):
  fA M 258 #[.sl sb n cap,.nt a,.nt b] H (xB dec H sb jj (fun v m=> v=.tuple ⟨[]⟩/\nA a b l m)):=by
 obtain⟨m,hm⟩:∃m,m=b-a:=⟨_,rfl⟩
 obtain⟨w,hw⟩:∃w,w=m/4:=⟨_,rfl⟩
 obtain⟨b3,b5⟩:=UL (x:=m) oM;have l5:=fun(H':View)=> L3 M H' m oM;generalize 2 ^ bl m=P at b3 b5 l5;have e0:((b:Nat):Int)-((a:Nat):Int)=((m:Nat):Int):=by omega
 have hwr:IntKind.u64.wrap ((m:Nat):Int)=((m:Nat):Int):=u64_in oM;have hq:iA .quo .i64 ((m:Nat):Int) 4=some (.int .i64 ((w:Nat):Int)):=by
  rw[ON oM oM oM]
  congr 2
  omega
 have e1:((a:Nat):Int)+((w:Nat):Int)*2-1=((a+w*2-1:Nat):Int):=by omega
 have VJ:iA .sub .u64 ((P:Nat):Int) 1=some (.int .u64 ((P-1:Nat):Int)):=by
  have h:=u64_in (x:=P-1) oM;have h2:((P:Nat):Int)-1=((P-1:Nat):Int):=by omega
  show some (Value.int .u64 (IntKind.u64.wrap (((P:Nat):Int)-1)))=_;rw[h2,h]
 refine fA.enter (vs:= [.sl sb n cap,.nt a,.nt b]) func258 rfl ntmps258 Nb (jA.pull hS) fun St c cs hK=> ?_;refine U7 ?_;rw[e0];refine iD ?_;refine .al fun b7=> ?_;refine U5 ?_;refine .cl (fun H hs=> l5 H) ?_;refine U7 ?_;refine .i ?_ (z:=HD oM oM);refine U4 ?_;rw[e1];refine U ?_;refine Tc.db (Tc.qA (σ:= { s:Nat×Int×List Int//a+w*2-1<=s.1/\s.1<=a+w*2+2/\nA a b l s.2.2 }) (fun s=> ([(0,.sl sb n cap),(1,.nt a),(6,.nt m),(7,.pt b7),(8,.int .u64 (P:Nat)),(9,.nt s.1.1)],[Bb b7 [.int .u64 s.1.2.1] 388,Bb sb ((rA dec s.1.2.2)++jj) 9])) (fun s=> a+w*2+2-s.1.1) ?_
  ⟨(a+w*2-1,m,l),Nat.le_refl _,by simp only;omega,nA.refl ..⟩)
 rintro⟨⟨i,z0,u⟩,g1,g2,g3⟩ ih;simp only at g1 g2 g3;have uO:=g3.len;show Tc M St _ _ _ _ [(0,.sl sb n cap),(1,.nt a),(6,.nt m),(7,.pt b7),(8,.int .u64 (P:Nat)),(9,.nt i)] [Bb b7 [.int .u64 z0] 388,Bb sb ((rA dec u)++jj) 9] _ _;by_cases c1:i<=a+w*2+1
 ·refine U7 ?_;refine .i ?_ (z:=HD oM oM);refine iD ?_;refine .e (Or.rnd (z:=z0) 0 rfl rfl rfl rfl rfl dE rfl (fun H hs=> .h (aCt M H b7 z0 (hs.get (i:=0) rfl))) (fun z=> ?_));obtain⟨x,hx,aH0⟩:=aAW z (P-1) oM;have hcv:IntKind.i64.wrap ((x:Nat):Int)=((x:Nat):Int):=wrap64 oM oM;refine U ?_;refine .i ?_ (z:=VJ);refine .i ?_ (z:=hx);refine .x (pA.xZ (E:=en) rfl rfl rfl rfl rfl rfl hcv) ?_;refine U4 ?_;by_cases c2:x<m
  ·refine U7 ?_;have z1:=sA (dec:=dec) (m:=u) (j:=jj) (k:=(i:Nat)) (p:=i) rfl oM;have z2:=sA (dec:=dec) (m:=u) (j:=jj) (k:=(a:Nat)+(x:Nat)) (p:=a+x) oM oM;have z3:=EA (dec:=dec) (m:=u) (j:=jj) (k:=(i:Nat)) (x:=vA u (a+x)) (p:=i) rfl oM;have z4:=EA (dec:=dec) (m:=(u).set (i) (vA u (a+x))) (j:=jj) (k:=(a:Nat)+(x:Nat)) (x:=vA u (i)) (p:=a+x) oM (by rw[List.length_set];omega);have z5:=CA (dec:=dec) (m:=u) (j:=jj) (k:=(i:Nat)) (p:=i) rfl oM;have z6:=CA (dec:=dec) (m:=(u).set (i) (vA u (a+x))) (j:=jj) (k:=(a:Nat)+(x:Nat)) (p:=a+x) oM (by rw[List.length_set];omega);refine Tc.dr [17,19] [1] mixed rfl ?_;refine V2 0 ?_;refine .nw 2 ?_;refine .nw 3 ?_;refine .nw 4 ?_;refine .nw 5 ?_;refine V6 6 ?_;refine .nw 12 ?_;refine .nw 13 ?_;refine .nw 14 ?_;refine V2 15 ?_;refine .e 17 1 ?_;refine .nw 18 ?_;refine .e 19 1 ?_;refine .dn ?_;refine U6 ?_;exact Tc.db (ih ⟨(i+1,z,GB u i (a+x)),by simp only;omega,by simp only;omega,g3.trans (nA.swap oM oM oM oM)⟩ Ob)
  ·have e5:((x:Nat):Int)-((m:Nat):Int)=((x-m:Nat):Int):=by omega
   refine uH ?_;rw[e5];have z1:=sA (dec:=dec) (m:=u) (j:=jj) (k:=(i:Nat)) (p:=i) rfl oM;have z2:=sA (dec:=dec) (m:=u) (j:=jj) (k:=(a:Nat)+((x-m:Nat):Int)) (p:=a+(x-m)) oM oM;have z3:=EA (dec:=dec) (m:=u) (j:=jj) (k:=(i:Nat)) (x:=vA u (a+(x-m))) (p:=i) rfl oM;have z4:=EA (dec:=dec) (m:=(u).set (i) (vA u (a+(x-m)))) (j:=jj) (k:=(a:Nat)+((x-m:Nat):Int)) (x:=vA u (i)) (p:=a+(x-m)) oM (by rw[List.length_set];omega);have z5:=CA (dec:=dec) (m:=u) (j:=jj) (k:=(i:Nat)) (p:=i) rfl oM;have z6:=CA (dec:=dec) (m:=(u).set (i) (vA u (a+(x-m)))) (j:=jj) (k:=(a:Nat)+((x-m:Nat):Int)) (p:=a+(x-m)) oM (by rw[List.length_set];omega);refine Tc.dr [17,19] [1] mixed rfl ?_;refine V2 0 ?_;refine .nw 2 ?_;refine .nw 3 ?_;refine .nw 4 ?_;refine .nw 5 ?_;refine V6 6 ?_;refine .nw 12 ?_;refine .nw 13 ?_;refine .nw 14 ?_;refine V2 15 ?_;refine .e 17 1 ?_;refine .nw 18 ?_;refine .e 19 1 ?_;refine .dn ?_;refine U6 ?_;exact Tc.db (ih ⟨(i+1,z,GB u i (a+(x-m))),by simp only;omega,by simp only;omega,g3.trans (nA.swap oM oM oM oM)⟩ Ob)
 ·refine U7 ?_;refine .i ?_ (z:=HD oM oM);refine U6 ?_;refine .ov hK func258 results258 [] ?_;exact fun H' hs=> xB.of (dec:=dec) hs (i:=1) rfl ⟨rfl,g3⟩
end
end Go.Proofs.YtldmfjcgjdchcaaGreatDoor
