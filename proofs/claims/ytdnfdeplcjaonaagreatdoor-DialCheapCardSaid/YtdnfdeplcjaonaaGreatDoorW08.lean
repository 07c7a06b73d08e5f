/-
  Texts of the proofs over baudot/dial: KB KC C9 S9 H1 Z7 ZD ZJ ZN KD X3 X4 ZO Bytes ZQ R3 OA App3 ZF Z6 ZG P1 Grow Abs P2 P3 NA OB NB OC NC ND App4 OD OE OH SliceF DrawU.
-/
import Derived.Test.YtdnfdeplcjaonaaGreatDoorW07
namespace Go.Proofs.YtdnfdeplcjaonaaGreatDoor
open Go.RL Go.Proofs.Tryz
set_option maxRecDepth 10000
set_option maxHeartbeats 16000000
def Glue(l:List Int)(a b a' b':Nat)(u:List Int):Prop:=∀m,Turned a' b' u m→Srt a' b' m→Turned a b l m∧Srt a b m
theorem Glue.turn {l u w:List Int}{a b a' b':Nat}(h:Glue l a b a' b' u)(k:Turned a' b' u w):Glue l a b a' b' w:=fun m h1 h2=> h m (k.trans h1) h2
theorem Ahead.left {a b c:Nat}{u:List Int}(h:Ahead a b u)(k:c≤b):Ahead a c u:=by
 rcases h with h|h
 · exact .inl h
 · exact .inr fun i h1 h2=> h i h1 (by omega)
theorem Ahead.keep {a c b:Nat}{u w:List Int}(h:Ahead a c u)(k:Turned (c+1) b u w):Ahead a c w:=by
 rcases h with h|h
 · exact .inl h
 · refine .inr fun i h1 h2=> ?_;rw[k.out (a-1) (.inl (by omega)),k.out i (.inl (by omega))];exact h i h1 h2
theorem Glue.right {l u x:List Int}{a b a' b' c:Nat}(h:Glue l a b a' b' u)(k:Part a' b' c u)(hl:b'≤u.length)(h1:Turned a' c u x)(s1:Srt a' c x):Glue l a b (c+1) b' x:=fun m h2 s2=> by
 obtain⟨g1,g2⟩:=k.sorted hl h1 s1 h2 s2;exact h m g1 g2
theorem Glue.left {l u x:List Int}{a b a' b' c:Nat}(h:Glue l a b a' b' u)(k:Part a' b' c u)(hl:b'≤u.length)(h1:Turned (c+1) b' u x)(s1:Srt (c+1) b' x):Glue l a b a' c x:=fun m h2 s2=> by
 obtain⟨g1,g2⟩:=k.sorted2 hl h1 s1 h2 s2;exact h m g1 g2
theorem Part.ahead {a b c:Nat}{u x:List Int}(k:Part a b c u)(h1:Turned a c u x):Ahead (c+1) b x:=.inr fun i g1 g2=> by
 have e:c+1-1=c:=by omega
 rw[e];have h2:=k.hi i (by omega) g2;rw[←h1.out c (.inr (Nat.le_refl _)),←h1.out i (.inr (by omega))] at h2;exact h2
theorem EqPart.ahead {a b c:Nat}{x:Int}{w:List Int}(k:EqPart a b c x w):Ahead c b w:=.inr fun i g1 g2=> by
 have h1:=k.ac;have h2:=k.lo (c-1) (by omega) (by omega);have h3:=k.hi i g1 g2;omega
theorem Glue.eq {l u w:List Int}{a b a' b' c:Nat}{x:Int}(h:Glue l a b a' b' u)(k:EqPart a' b' c x w)(ht:Turned a' b' u w)(hge:∀i,a'≤i→i<b'→x≤at0 w i)(hl:b'≤w.length):Glue l a b c b' w:=fun m h1 s1=> by
 have c1:=k.ac;have c2:=k.cb;refine h m (ht.trans (h1.wide (by omega) (Nat.le_refl _))) fun p q g1 g2 g3=> ?_;have hlo:∀i,a'≤i→i<c→at0 m i=x:=fun i e1 e2=> by
   rw[h1.out i (.inl e2)];have e3:=k.lo i e1 e2;have e4:=hge i e1 (by omega);omega
 have hhi:∀i,c≤i→i<b'→x<at0 m i:=h1.all hl (P:=fun z=> x<z) k.hi;by_cases d1:q<c
 · rw[hlo p g1 (by omega),hlo q (by omega) d1];exact Int.le_refl _
 · by_cases d2:p<c
   · rw[hlo p g1 d2];have:=hhi q (by omega) g3;omega
   · exact s1 p q (by omega) g2 g3
theorem Or.sortsSF {dec:Int→List UInt8}{M:Md prog}{n:Nat}{H₀:View}{R:Rg}{L:Bl}{o:Oper}{K:Rg→Bl→Prop}{cl:Go.Call}{x:Operand}{fv:Value}{az:List Value}{d:Nat}{σ:Type}(i:Nat){sb:Nat}{l:List Int}{j:List Value}(val:σ→Value)(mm:σ→List Int)(p:σ→Prop)
   (hop:o.op=.call cl) (hcl:cl.callee=.value x) (hx:evR R x=some fv) (has:evRs R cl.args.toList=some az) (hd:o.dst=some d) (hn:d<n) (hi:L[i]? =some (sb,true,.cells ⟨(strsL dec l)++j⟩ 9 (0,0)))
   (hc:∀H,SymSt H₀ L H→FnT M fv az H (SortSQ dec H sb j fun v m=> ∃s,v=val s∧m=mm s∧p s)) (hk:∀s,p s→K ((d,val s)::R) (L.set i (sb,true,.cells ⟨(strsL dec (mm s))++j⟩ 9 (0,0)))):Or M n H₀ R L o K:=
 Or.sortsS i (fun v m=> ∃s,v=val s∧m=mm s∧p s) hop hcl hx has hd hn hi hc fun v m h=> by
   obtain⟨s,rfl,rfl,h3⟩:=h;exact hk s h3
section
variable(M:Md prog)
theorem pdqG_c (dec:Int→List UInt8)(sb:Nat)(jj:List Value)(n cap:Nat)(h40:n≤100000000):∀(d:Nat) (H:View) (l:List Int) (a b lim:Nat),b-a<d→n=l.length→a≤b→b≤n→lim≤100→Enc dec l→Ahead a b l→H sb=some (true,.cells ⟨(strsL dec l)++jj⟩ 9 (0,0))→
   CallT M 157 #[.slice (some ⟨sb,0,none⟩) n cap,.int .i64 (a:Nat),.int .i64 (b:Nat),.int .i64 (lim:Nat)] H (SortSQ dec H sb jj (fun v m=> v=.tuple ⟨[]⟩∧Turned a b l m∧Srt a b m)):=by
 intro d;induction d with
 | zero=> intro H l a b lim hd;omega
 | succ d ihd=>
 intro H l a b lim hd hn hab hb hlim hE hah hS;refine CallT.enter (vs:= [.slice (some ⟨sb,0,none⟩) n cap,.int .i64 (a:Nat),.int .i64 (b:Nat),.int .i64 (lim:Nat)]) func157 rfl ntmps157 (Nat.le_of_ble_eq_true rfl) (SymSt.pull hS) fun St c cs hK=> ?_;refine U9 ?_;refine Tc.db (Tc.loopInv (σ:= { s:Nat×Nat×Nat×Bool×Bool×List Int//a≤s.1∧s.1≤s.2.1∧s.2.1≤b∧s.2.2.1≤lim∧Turned a b l s.2.2.2.2.2∧Glue l a b s.1 s.2.1 s.2.2.2.2.2∧Ahead s.1 s.2.1 s.2.2.2.2.2 }) (fun s=> ([(0,.slice (some ⟨sb,0,none⟩) n cap),(1,.int .i64 (s.1.1:Nat)),(2,.int .i64 (s.1.2.1:Nat)),(3,.int .i64 (s.1.2.2.1:Nat)),(8,.bool s.1.2.2.2.1),(9,.bool s.1.2.2.2.2.1)],[(sb,true,.cells ⟨(strsL dec s.1.2.2.2.2.2)++jj⟩ 9 (0,0))])) (fun s=> s.1.2.1-s.1.1) ?_
   ⟨(a,b,lim,true,true,l),Nat.le_refl _,hab,Nat.le_refl _,Nat.le_refl _,Turned.refl ..,fun m h1 h2=> ⟨h1,h2⟩,hah⟩)
 rintro⟨⟨a',b',lm,wb,wp,u⟩,g1,g2,g3,g4,g5,g6,g7⟩ ih;simp only at g1 g2 g3 g4 g5 g6 g7;have hul:=g5.len;have hEu:=hE.turned g5;obtain⟨m,hm⟩:∃m,m=b'-a':=⟨_,rfl⟩
 have e0:((b':Nat):Int)-((a':Nat):Int)=((m:Nat):Int):=by omega
 show Tc M St _ _ _ _ [(0,.slice (some ⟨sb,0,none⟩) n cap),(1,.int .i64 (a':Nat)),(2,.int .i64 (b':Nat)),(3,.int .i64 (lm:Nat)),(8,.bool wb),(9,.bool wp)] [(sb,true,.cells ⟨(strsL dec u)++jj⟩ 9 (0,0))] _ _;refine U8 ?_;rw[e0];refine U2 ?_;by_cases c1:m≤12
 · refine U10 ?_;refine .e (Or.sortsS (dec:=dec) (l:=u) 0 (fun v m=> v=.tuple ⟨[]⟩∧Turned a' b' u m∧Srt a' b' m) rfl rfl rfl rfl rfl (by decide) rfl (fun H hs=> .h (insertionS_c M H dec sb u jj n cap a' b' (by omega) hEu (by omega) (by omega) (by omega) (hs.get (i:=0) rfl))) (fun v w ⟨_,wt,ws⟩=> ?_));refine U ?_;refine .rt hK func157 results157 [] ?_;exact fun H' hs=> SortSQ.of (dec:=dec) hs (i:=0) rfl ⟨rfl,g6 w wt ws⟩
 · refine U8 ?_;by_cases c2:lm=0
   · refine U10 ?_;refine .e (Or.sortsS (dec:=dec) (l:=u) 0 (fun v m=> v=.tuple ⟨[]⟩∧Turned a' b' u m∧Srt a' b' m) rfl rfl rfl rfl rfl (by decide) rfl (fun H hs=> .h (heapSortS_c M H dec sb u jj n cap a' b' (by omega) hEu (by omega) (by omega) (by omega) (hs.get (i:=0) rfl))) (fun v w ⟨_,wt,ws⟩=> ?_));refine U ?_;refine .rt hK func157 results157 [] ?_;exact fun H' hs=> SortSQ.of (dec:=dec) hs (i:=0) rfl ⟨rfl,g6 w wt ws⟩
   · refine U7 ?_;refine Tc.via (fun R' L'=> ∃(lm1:Nat) (x:List Int),lm1≤lm∧Turned a' b' u x∧AllIn [(0,.slice (some ⟨sb,0,none⟩) n cap),(1,.int .i64 (a':Nat)),(2,.int .i64 (b':Nat)),(3,.int .i64 (lm1:Nat)),(8,.bool wb),(9,.bool wp),(10,.int .i64 (m:Nat))] R'∧L'= [(sb,true,.cells ⟨(strsL dec x)++jj⟩ 9 (0,0))]) ?_ (fun fin=> ?_)
     · rintro R' _ ⟨lm1,x,o1,o2,hRR,rfl⟩;refine Tc.dropB ?_ hRR (List.Sublist.refl _);have hxl:=o2.len;refine U5 ?_;refine .e (Or.callNew pivV (fun _=> []) (fun s:Nat×Nat=> a'≤s.1∧s.1<b'∧s.2≤2) rfl rfl rfl rfl rfl (by decide) (fun _=> by simp) (fun H hs=> .h (choosePivotS_c M H dec sb true x jj n cap a' b' (by omega) (hEu.turned o2) h40 (by omega) (by omega) (hs.get (i:=0) rfl))) (fun⟨p,h⟩ ⟨v1,v2,v3⟩=> ?_));refine U6 ?_;simp only at v1 v2 v3;refine U ?_;refine Tc.via (fun R' L'=> ∃(p:Nat) (y:List Int),a'≤p∧p<b'∧Turned a' b' x y∧(∃h:Nat,AllIn [(0,.slice (some ⟨sb,0,none⟩) n cap),(1,.int .i64 (a':Nat)),(2,.int .i64 (b':Nat)),(3,.int .i64 (lm1:Nat)),(8,.bool wb),(9,.bool wp),(10,.int .i64 (m:Nat)),(11,.int .i64 (p:Nat)),(12,.int .i64 (h:Nat))] R')∧L'= [(sb,true,.cells ⟨(strsL dec y)++jj⟩ 9 (0,0))]) ?_ (fun fin=> ?_)
       · clear v1 v2 v3;rintro R' _ ⟨p,y,v1,v2,o3,⟨h,hRR⟩,rfl⟩;refine Tc.dropB ?_ hRR (List.Sublist.refl _);have hyl:=o3.len;refine U ?_;refine Tc.via (fun R' L'=> ∃y':List Int,Turned a' b' y y'∧AllIn [(0,.slice (some ⟨sb,0,none⟩) n cap),(1,.int .i64 (a':Nat)),(2,.int .i64 (b':Nat)),(3,.int .i64 (lm1:Nat)),(8,.bool wb),(9,.bool wp),(10,.int .i64 (m:Nat)),(11,.int .i64 (p:Nat))] R'∧L'= [(sb,true,.cells ⟨(strsL dec y')++jj⟩ 9 (0,0))]) ?_ (fun fin=> ?_)
         · rintro R' _ ⟨y,o4,hRR,rfl⟩;refine Tc.dropB ?_ hRR (List.Sublist.refl _);clear hRR;replace o3:=o3.trans o4;have hyl:=o3.len;have hEy:=hEu.turned (o2.trans o3);refine U ?_;have g5y:=(g5.trans ((o2.trans o3).wide g1 g3))
           have gy:Glue l a b a' b' y:=g6.turn (o2.trans o3);have ay:Ahead a' b' y:=g7.turn (o2.trans o3) (by omega);refine Tc.via (fun R' L'=> AllIn [(0,.slice (some ⟨sb,0,none⟩) n cap),(1,.int .i64 (a':Nat)),(2,.int .i64 (b':Nat)),(3,.int .i64 (lm1:Nat)),(8,.bool wb),(9,.bool wp),(10,.int .i64 (m:Nat)),(11,.int .i64 (p:Nat))] R'∧L'= [(sb,true,.cells ⟨(strsL dec y)++jj⟩ 9 (0,0))]) ?_ (fun fin=> ?_)
           · rintro R' _ ⟨hRR,rfl⟩;refine Tc.dropB ?_ hRR (List.Sublist.refl _);clear hRR;refine U6 ?_;refine .e (Or.sortsSF (dec:=dec) (l:=y) 0 (fun s:Nat×Bool×List Int=> .tuple ⟨[.int .i64 (s.1:Nat),.bool s.2.1]⟩) (fun s=> s.2.2) (fun s=> Turned a' b' y s.2.2∧Part a' b' s.1 s.2.2) rfl rfl rfl rfl rfl (by decide) rfl (fun H hs=> .h (partitionS_c M H dec sb y jj n cap a' b' p (by omega) hEy (by omega) (by omega) (by omega) (hs.get (i:=0) rfl))) (fun⟨mid,al,w⟩ ⟨k1,k2⟩=> ?_));refine U6 ?_;simp only at k1 k2;have k3:=k2.aj;have k4:=k2.jb;have hwl:=k1.len;have hEw:=hEy.turned k1;have gw:Glue l a b a' b' w:=gy.turn k1;have aw:Ahead a' b' w:=ay.turn k1 (by omega);have e1:((mid:Nat):Int)-((a':Nat):Int)=((mid-a':Nat):Int):=by omega
             have e2:((b':Nat):Int)-((mid:Nat):Int)=((b'-mid:Nat):Int):=by omega
             have hq:intBin .quo .i64 ((m:Nat):Int) 8=some (.int .i64 ((m/8:Nat):Int)):=by
               rw[quo_in (by omega) (by omega) (by omega)]
               congr 2
             have hgt:∀x y:Nat,intBin .geq .i64 ((x:Nat):Int) ((y:Nat):Int)=some (.bool (decide (y≤x))):=fun x y=> by
               by_cases c:y≤x
               · rw[decide_eq_true c];exact geq_t (by omega)
               · rw[decide_eq_false c];exact geq_f (by omega)
             have hg1:=hgt (mid-a') (m/8);have hg2:=hgt (b'-mid) (m/8);refine U16 ?_;rw[e1,e2];refine U7 ?_;by_cases c5:mid-a'<b'-mid
             · refine U10 ?_;refine .i ?_ (z:=hg1);refine U8 ?_;refine .e (Or.sortsS (dec:=dec) (l:=w) 0 (fun v m=> v=.tuple ⟨[]⟩∧Turned a' mid w m∧Srt a' mid m) rfl rfl rfl rfl rfl (by decide) rfl (fun H hs=> .h (ihd H w a' mid lm1 (by omega) (by omega) (by omega) (by omega) (by omega) hEw (aw.left (by omega)) (hs.get (i:=0) rfl))) (fun v x ⟨_,xt,xs⟩=> ?_));refine U7 ?_;have hxn:=xt.len;have r1:Turned a b l x:=g5y.trans ((k1.trans (xt.wide (by omega) (by omega))).wide (by omega) (by omega));have r2:Glue l a b (mid+1) b' x:=gw.right k2 (by omega) xt xs;have r3:Ahead (mid+1) b' x:=k2.ahead xt;have r4:lm1≤lim:=by omega
               have r5:a≤mid+1:=by omega
               have r6:mid+1≤b':=by omega
               exact Tc.db (ih ⟨(mid+1,b',lm1,decide (m/8≤mid-a'),al,x),r5,r6,g3,r4,r1,r2,r3⟩ (by simp only;omega))
             · refine U10 ?_;refine .i ?_ (z:=hg2);refine U9 ?_;refine .e (Or.sortsS (dec:=dec) (l:=w) 0 (fun v m=> v=.tuple ⟨[]⟩∧Turned (mid+1) b' w m∧Srt (mid+1) b' m) rfl rfl rfl rfl rfl (by decide) rfl (fun H hs=> .h (ihd H w (mid+1) b' lm1 (by omega) (by omega) (by omega) (by omega) (by omega) hEw (k2.ahead (Turned.refl a' mid w)) (hs.get (i:=0) rfl))) (fun v x ⟨_,xt,xs⟩=> ?_));refine U6 ?_;have r1:Turned a b l x:=g5y.trans ((k1.trans (xt.wide (by omega) (by omega))).wide (by omega) (by omega));have r2:Glue l a b a' mid x:=gw.left k2 (by omega) xt xs;have r3:Ahead a' mid x:=(aw.left (by omega)).keep xt;have r4:lm1≤lim:=by omega
               have r5:a'≤mid:=by omega
               have r6:mid≤b:=by omega
               exact Tc.db (ih ⟨(a',mid,lm1,decide (m/8≤b'-mid),al,x),g1,r5,r6,r4,r1,r2,r3⟩ (by simp only;omega))
           · by_cases c3:a'=0
             · subst c3;refine U ?_;refine Tc.dr [] [] mixed rfl ?_;refine .nn 0 ?_;refine .nn 1 ?_;refine .nn 2 ?_;refine .nw 3 ?_;refine .nw 4 ?_;refine .nw 5 ?_;refine .nw 6 ?_;refine .nw 7 ?_;refine .nw 8 ?_;refine .nw 9 ?_;refine .nw 10 ?_;refine .nw 11 ?_;refine .nw 12 ?_;refine .nw 13 ?_;refine .nn 14 ?_;refine .dn ?_;refine U2 ?_;exact Tc.db (fin [(0,.slice (some ⟨sb,0,none⟩) n cap),(1,.int .i64 (0:Nat)),(2,.int .i64 (b':Nat)),(3,.int .i64 (lm1:Nat)),(8,.bool wb),(9,.bool wp),(10,.int .i64 (m:Nat)),(11,.int .i64 (p:Nat))] [(sb,true,.cells ⟨(strsL dec y)++jj⟩ 9 (0,0))] ⟨⟨rfl,rfl,rfl,rfl,rfl,rfl,rfl,rfl,trivial⟩,rfl⟩)
             · have ea:((a':Nat):Int)-1=((a'-1:Nat):Int):=by omega
               have y1:=cellsS_ld (dec:=dec) (m:=y) (j:=jj) (k:=((a':Nat):Int)-1) (p:=a'-1) (by omega) (by omega);have y2:=cellsS_ld (dec:=dec) (m:=y) (j:=jj) (k:=(p:Nat)) (p:=p) rfl (by omega);by_cases hlt:at0 y (a'-1)<at0 y p
               · refine U ?_;refine Tc.dr [] [] mixed rfl ?_;refine .nn 0 ?_;refine .nn 1 ?_;refine .nn 2 ?_;refine .nn 3 ?_;refine .nn 4 ?_;refine .nn 5 ?_;refine .nn 6 ?_;refine .nn 7 ?_;refine .nn 8 ?_;refine .nn 9 ?_;refine .nn 10 ?_;refine .nn 11 ?_;refine .z 12 rfl (OpV.takeCall rfl rfl rfl rfl (fun H hs=> .h (lessS M H hEy (at0_mem (by omega)) (at0_mem (by omega)) true (decide_eq_true hlt)))) ?_;refine .nn 13 ?_;refine .nn 14 ?_;refine .dn ?_;refine U2 ?_;exact Tc.db (fin [(0,.slice (some ⟨sb,0,none⟩) n cap),(1,.int .i64 (a':Nat)),(2,.int .i64 (b':Nat)),(3,.int .i64 (lm1:Nat)),(8,.bool wb),(9,.bool wp),(10,.int .i64 (m:Nat)),(11,.int .i64 (p:Nat))] [(sb,true,.cells ⟨(strsL dec y)++jj⟩ 9 (0,0))] ⟨⟨rfl,rfl,rfl,rfl,rfl,rfl,rfl,rfl,trivial⟩,rfl⟩)
               · have hge:∀i,a'≤i→i<b'→at0 y p≤at0 y i:=fun i q1 q2=> by
                   rcases ay with h0|h0
                   · exact absurd h0 c3
                   · have:=h0 i q1 q2;omega
                 refine U ?_;refine Tc.dr [] [] mixed rfl ?_;refine .nn 0 ?_;refine .nn 1 ?_;refine .nn 2 ?_;refine .nn 3 ?_;refine .nn 4 ?_;refine .nn 5 ?_;refine .nn 6 ?_;refine .nn 7 ?_;refine .nn 8 ?_;refine .nn 9 ?_;refine .nn 10 ?_;refine .nn 11 ?_;refine .z 12 rfl (OpV.takeCall rfl rfl rfl rfl (fun H hs=> .h (lessS M H hEy (at0_mem (by omega)) (at0_mem (by omega)) false (decide_eq_false hlt)))) ?_;refine .nn 13 ?_;refine .nn 14 ?_;refine .dn ?_;refine U2 ?_;clear fin;refine U5 ?_;refine .e (Or.sortsSF (dec:=dec) (l:=y) 0 (fun s:Nat×List Int=> .int .i64 (s.1:Nat)) (fun s=> s.2) (fun s=> Turned a' b' y s.2∧EqPart a' b' s.1 (at0 y p) s.2) rfl rfl rfl rfl rfl (by decide) rfl (fun H hs=> .h (partEqS_c M H dec sb y jj n cap a' b' p (by omega) hEy (by omega) h40 (by omega) (hs.get (i:=0) rfl))) (fun⟨mid,w⟩ ⟨k1,k2⟩=> ?_));refine U2 ?_;simp only at k1 k2;have k3:=k2.ac;have k4:=k2.cb;have hwl:=k1.len;refine U6 ?_;have r1:Turned a b l w:=g5y.trans (k1.wide (by omega) (by omega));have r2:Glue l a b mid b' w:=gy.eq k2 k1 (k1.all (by omega) (P:=fun z=> at0 y p≤z) hge) (by omega);have r3:Ahead mid b' w:=k2.ahead;have r4:lm1≤lim:=by omega
                 have r5:a≤mid:=by omega
                 exact Tc.db (ih ⟨(mid,b',lm1,wb,wp,w),r5,k4,g3,r4,r1,r2,r3⟩ (by simp only;omega))
         · refine U ?_;by_cases c4:wb=true∧wp=true∧h=1
           · obtain⟨rfl,rfl,rfl⟩:=c4;refine U16 ?_;refine .e (Or.sortsSF (dec:=dec) (l:=y) 0 (fun s:Bool×List Int=> .bool s.1) (fun s=> s.2) (fun s=> Turned a' b' y s.2∧(s.1=true→Srt a' b' s.2)) rfl rfl rfl rfl rfl (by decide) rfl (fun H hs=> .h (CallT.mono (partialS_c M H dec sb y jj n cap a' b' (by omega) (hEu.turned (o2.trans o3)) (by omega) h40 (by omega) (g7.turn (o2.trans o3) (by omega)) (hs.get (i:=0) rfl)) (fun v H' ⟨q1,m',⟨t',q2,q3,q4⟩,q5⟩=> ⟨q1,m',⟨(t',m'),q2,rfl,q3,q4⟩,q5⟩))) (fun⟨t,y2⟩ ⟨ht,hs2⟩=> ?_));refine U ?_;simp only at ht hs2;cases t
             · refine U2 ?_;exact Tc.db (fin [(0,.slice (some ⟨sb,0,none⟩) n cap),(1,.int .i64 (a':Nat)),(2,.int .i64 (b':Nat)),(3,.int .i64 (lm1:Nat)),(8,.bool true),(9,.bool true),(10,.int .i64 (m:Nat)),(11,.int .i64 (p:Nat))] [(sb,true,.cells ⟨(strsL dec y2)++jj⟩ 9 (0,0))] ⟨y2,ht,⟨rfl,rfl,rfl,rfl,rfl,rfl,rfl,rfl,trivial⟩,rfl⟩)
             · have hall:=(g6.turn (o2.trans o3)) y2 ht (hs2 rfl);refine U ?_;refine .rt hK func157 results157 [] ?_;exact fun H' hs=> SortSQ.of (dec:=dec) hs (i:=0) rfl ⟨rfl,hall⟩
           · have c5:wb=true→wp=true→h≠1:=fun e1 e2 e3=> c4 ⟨e1,e2,e3⟩;cases wb
             · cases wp
               · refine U12 ?_;exact Tc.db (fin [(0,.slice (some ⟨sb,0,none⟩) n cap),(1,.int .i64 (a':Nat)),(2,.int .i64 (b':Nat)),(3,.int .i64 (lm1:Nat)),(8,.bool false),(9,.bool false),(10,.int .i64 (m:Nat)),(11,.int .i64 (p:Nat))] [(sb,true,.cells ⟨(strsL dec y)++jj⟩ 9 (0,0))] ⟨y,Turned.refl ..,⟨rfl,rfl,rfl,rfl,rfl,rfl,rfl,rfl,trivial⟩,rfl⟩)
               · refine U12 ?_;exact Tc.db (fin [(0,.slice (some ⟨sb,0,none⟩) n cap),(1,.int .i64 (a':Nat)),(2,.int .i64 (b':Nat)),(3,.int .i64 (lm1:Nat)),(8,.bool false),(9,.bool true),(10,.int .i64 (m:Nat)),(11,.int .i64 (p:Nat))] [(sb,true,.cells ⟨(strsL dec y)++jj⟩ 9 (0,0))] ⟨y,Turned.refl ..,⟨rfl,rfl,rfl,rfl,rfl,rfl,rfl,rfl,trivial⟩,rfl⟩)
             · cases wp
               · refine U12 ?_;exact Tc.db (fin [(0,.slice (some ⟨sb,0,none⟩) n cap),(1,.int .i64 (a':Nat)),(2,.int .i64 (b':Nat)),(3,.int .i64 (lm1:Nat)),(8,.bool true),(9,.bool false),(10,.int .i64 (m:Nat)),(11,.int .i64 (p:Nat))] [(sb,true,.cells ⟨(strsL dec y)++jj⟩ 9 (0,0))] ⟨y,Turned.refl ..,⟨rfl,rfl,rfl,rfl,rfl,rfl,rfl,rfl,trivial⟩,rfl⟩)
               · have c6:=c5 rfl rfl;refine U12 ?_;exact Tc.db (fin [(0,.slice (some ⟨sb,0,none⟩) n cap),(1,.int .i64 (a':Nat)),(2,.int .i64 (b':Nat)),(3,.int .i64 (lm1:Nat)),(8,.bool true),(9,.bool true),(10,.int .i64 (m:Nat)),(11,.int .i64 (p:Nat))] [(sb,true,.cells ⟨(strsL dec y)++jj⟩ 9 (0,0))] ⟨y,Turned.refl ..,⟨rfl,rfl,rfl,rfl,rfl,rfl,rfl,rfl,trivial⟩,rfl⟩)
       · refine U ?_;by_cases c4:h=2
         · have e1:((b':Nat):Int)-1-(((p:Nat):Int)-((a':Nat):Int))=((b'-1-(p-a'):Nat):Int):=by omega
           refine U10 ?_;refine .e (Or.sortsS (dec:=dec) (l:=x) 0 (fun v m=> v=.tuple ⟨[]⟩∧Turned a' b' x m) rfl rfl rfl rfl rfl (by decide) rfl (fun H hs=> .h (reverseS_c M H dec sb x jj n cap a' b' (by omega) (by omega) (by omega) (by omega) (hs.get (i:=0) rfl))) (fun v y ⟨_,yt⟩=> ?_));refine U11 ?_;rw[e1];refine U3 ?_;exact Tc.db (fin [(0,.slice (some ⟨sb,0,none⟩) n cap),(1,.int .i64 (a':Nat)),(2,.int .i64 (b':Nat)),(3,.int .i64 (lm1:Nat)),(8,.bool wb),(9,.bool wp),(10,.int .i64 (m:Nat)),(11,.int .i64 (b'-1-(p-a'):Nat)),(12,.int .i64 (1:Nat))] [(sb,true,.cells ⟨(strsL dec y)++jj⟩ 9 (0,0))] ⟨b'-1-(p-a'),y,by omega,by omega,yt,⟨1,rfl,rfl,rfl,rfl,rfl,rfl,rfl,rfl,rfl,trivial⟩,rfl⟩)
         · refine U6 ?_;exact Tc.db (fin [(0,.slice (some ⟨sb,0,none⟩) n cap),(1,.int .i64 (a':Nat)),(2,.int .i64 (b':Nat)),(3,.int .i64 (lm1:Nat)),(8,.bool wb),(9,.bool wp),(10,.int .i64 (m:Nat)),(11,.int .i64 (p:Nat)),(12,.int .i64 (h:Nat))] [(sb,true,.cells ⟨(strsL dec x)++jj⟩ 9 (0,0))] ⟨p,x,by omega,by omega,Turned.refl ..,⟨h,rfl,rfl,rfl,rfl,rfl,rfl,rfl,rfl,rfl,trivial⟩,rfl⟩)
     · refine U ?_;cases wb
       · have e1:((lm:Nat):Int)-1=((lm-1:Nat):Int):=by omega
         refine U10 ?_;refine .e (Or.sortsS (dec:=dec) (l:=u) 0 (fun v m=> v=.tuple ⟨[]⟩∧Turned a' b' u m) rfl rfl rfl rfl rfl (by decide) rfl (fun H hs=> .h (breakS_c M H dec sb u jj n cap a' b' (by omega) (by omega) h40 (by omega) (hs.get (i:=0) rfl))) (fun v x ⟨_,xt⟩=> ?_));refine U6 ?_;rw[e1];exact Tc.db (fin [(0,.slice (some ⟨sb,0,none⟩) n cap),(1,.int .i64 (a':Nat)),(2,.int .i64 (b':Nat)),(3,.int .i64 (lm-1:Nat)),(8,.bool false),(9,.bool wp),(10,.int .i64 (m:Nat))] [(sb,true,.cells ⟨(strsL dec x)++jj⟩ 9 (0,0))] ⟨lm-1,x,by omega,xt,⟨rfl,rfl,rfl,rfl,rfl,rfl,rfl,trivial⟩,rfl⟩)
       · refine U6 ?_;exact Tc.db (fin [(0,.slice (some ⟨sb,0,none⟩) n cap),(1,.int .i64 (a':Nat)),(2,.int .i64 (b':Nat)),(3,.int .i64 (lm:Nat)),(8,.bool true),(9,.bool wp),(10,.int .i64 (m:Nat))] [(sb,true,.cells ⟨(strsL dec u)++jj⟩ 9 (0,0))] ⟨lm,u,Nat.le_refl _,Turned.refl ..,⟨rfl,rfl,rfl,rfl,rfl,rfl,rfl,trivial⟩,rfl⟩)
end
set_option maxHeartbeats 8000000
section
variable(M:Md prog)(H:View)
theorem SortG_c(dec:Int→List UInt8)(sb:Nat)(l:List Int)(jj:List Value)(n cap:Nat)(hn:n=l.length)(hE:Enc dec l)(h12:n≤100000000)(hS:H sb=some (true,.cells ⟨(strsL dec l)++jj⟩ 9 (0,0))):
   CallT M 91 #[.slice (some ⟨sb,0,none⟩) n cap] H (SortSQ dec H sb jj (fun v m=> v=.tuple ⟨[]⟩∧Turned 0 n l m∧Srt 0 n m)):=by
 have hw:=u64_in (x:=n) (by omega);have hb:bl n≤32:=by
   by_cases h0:0<n
   · have h1:=bl_spec h0;have h3:2 ^ bl n<2 ^ 32:=by omega
     have:=(Nat.pow_lt_pow_iff_right (a:=2) (by decide)).1 h3;omega
   · unfold bl;rw[if_pos (by omega)];omega
 refine CallT.enter (vs:= [.slice (some ⟨sb,0,none⟩) n cap]) func91 rfl ntmps91 (Nat.le_of_ble_eq_true rfl) (SymSt.pull hS) fun St c cs hK=> ?_;refine U11 ?_;refine .c rfl rfl rfl rfl (fun H hs=> .h (LenG_c M H n (by omega))) ?_;refine .e (Or.sortsS (dec:=dec) (l:=l) 0 (fun v m=> v=.tuple ⟨[]⟩∧Turned 0 n l m∧Srt 0 n m) rfl rfl rfl rfl rfl (by decide) rfl (fun H hs=> .h (pdqG_c M dec sb jj n cap h12 (n+1) H l 0 n (bl n) (by omega) hn (by omega) (Nat.le_refl _) (by omega) hE (.inl rfl) (hs.get (i:=0) rfl))) (fun v m hm=> ?_));refine U ?_;obtain⟨rfl,ht,hs0⟩:=hm;refine .ov hK func91 results91 [] ?_;exact fun H' hs=> SortSQ.of hs (i:=0) rfl ⟨rfl,ht,hs0⟩
end
theorem Or.sortGG {dec:Int→List UInt8}{M:Md prog}{n:Nat}{H₀:View}{R:Rg}{L1:Bl}{o:Oper}{K:Rg→Bl→Prop}{cl:Go.Call}{x:Operand}{fv:Value}{d:Nat}(g:Gl 9 1)(u:List Int)(hg:g.l=(strsL dec u))(hE:Enc dec u)(h12:g.n≤100000000)
   (hop:o.op=.call cl) (hcl:cl.callee=.value x) (hx:evR R x=some fv) (has:evRs R cl.args.toList=some [g.val]) (hd:o.dst=some d) (hn:d<n)
   (hc:∀(H:View) (Q:Value→View→Prop),CallT M 91 #[g.val] H Q→FnT M fv [g.val] H Q)
   (hK:∀(g':Gl 9 1) (m:List Int),g'.val=g.val→g'.n=g.n→g'.blk=g.blk→g'.l=(strsL dec m)→Turned 0 g.n u m→Srt 0 g.n m→K ((d,.tuple ⟨[]⟩)::R) (L1++g'.bl)):Or M n H₀ R (L1++g.bl) o K:=by
 have hul:u.length=g.n:=by have:=g.hl;rw[hg,strsL_len] at this;omega
 cases hb:g.blk with
 | none=>
   have hcap:=g.h0 hb;have hgc:=g.hc;have h0:g.n=0:=by omega
   have hbl:g.bl= []:=by unfold Gl.bl;rw[hb]
   have hv:g.val=.slice none 0 g.cap:=by unfold Gl.val;rw[hb,h0];rfl
   refine Or.callNew (fun _:Unit=> .tuple ⟨[]⟩) (fun _=> []) (fun _=> True) hop hcl hx has hd hn (fun _=> by simp) (fun H hs=> hc H _ ?_) (fun _ _=> ?_)
   · rw[hv];exact CallT.mono (SortS_nil M H g.cap) (fun v H' ⟨h1,h2⟩=> ⟨h1,(),h2,trivial,by simp⟩)
   · rw[List.append_nil];exact hK g u rfl rfl rfl hg (Turned.refl _ _ _) (fun p q h1 h2 h3=> by omega)
 | some b=>
   have hbl:g.bl= [(b,true,.cells ⟨(strsL dec u)++g.junk⟩ 9 (0,0))]:=by unfold Gl.bl;rw[hb,hg]
   have hv:g.val=.slice (some ⟨b,0,none⟩) g.n g.cap:=by unfold Gl.val;rw[hb];rfl
   rw[hbl];refine Or.sortsS (dec:=dec) (l:=u) L1.length (fun v m=> v=.tuple ⟨[]⟩∧Turned 0 g.n u m∧Srt 0 g.n m) hop hcl hx has hd hn (by rw[List.getElem?_append_right (Nat.le_refl _),Nat.sub_self];rfl)
     (fun H hs=> hc H _ ?_) (fun v m ⟨h1,h2,h3⟩=> ?_)
   · rw[hv];exact SortG_c M H dec b u g.junk g.n g.cap hul.symm hE h12 (hs.get (i:=L1.length) (by rw[List.getElem?_append_right (Nat.le_refl _),Nat.sub_self];rfl))
   · subst h1;have hml:m.length=g.n:=by rw[h2.len];exact hul
     have:=hK (Gl.withS g (strsL dec m) (by rw[strsL_len];exact hml)) m rfl rfl rfl rfl h2 h3;have hbl':(Gl.withS g (strsL dec m) (by rw[strsL_len];exact hml)).bl= [(b,true,.cells ⟨(strsL dec m)++g.junk⟩ 9 (0,0))]:=by
       unfold Gl.bl Gl.withS;simp only[hb]
     rw[hbl'] at this;rw[List.set_append_right _ _ (Nat.le_refl _),Nat.sub_self];exact this
set_option maxHeartbeats 16000000
def digs1:List UInt8:= [49,50,51,52,53,54,55,56,57]
def canTo(most n:Nat):List (List UInt8):=(List.range n).flatMap fun i=> allL (digs1.take most) (i+1)
theorem canTo_succ(most n:Nat):canTo most (n+1)=canTo most n++allL (digs1.take most) (n+1):=by
 unfold canTo;rw[List.range_succ,List.flatMap_append];simp
theorem allFrom_len(dg:List UInt8):∀(d:Nat) (s:List UInt8),(allFrom dg d s).length=dg.length ^ d
 | 0,_=> rfl
 | d+1,s=> by
   unfold allFrom;rw[List.length_flatMap];have:∀x∈dg,(fun x=> (allFrom dg d (s++[x])).length) x=(fun _=> dg.length ^ d) x:=fun x _=> allFrom_len dg d _;rw[List.map_congr_left this,List.map_const',List.sum_replicate_nat,Nat.pow_succ,Nat.mul_comm]
theorem allL_len {most n:Nat}(hm:most≤3)(hn:n≤3):(allL (digs1.take most) n).length≤27:=by
 unfold allL;rw[allFrom_len];have hl:(digs1.take most).length≤3:=by rw[List.length_take];omega
 calc (digs1.take most).length ^ n≤3 ^ n:=Nat.pow_le_pow_left hl n
   _≤3 ^ 3:=Nat.pow_le_pow_right (by decide) hn
   _=27:=by decide
theorem canTo_len {most:Nat}(hm:most≤3):∀n,n≤3→(canTo most n).length≤27*n
 | 0,_=> Nat.le_refl _
 | n+1,h=> by
   rw[canTo_succ,List.length_append];have h1:=canTo_len hm n (by omega);have h2:=allL_len hm h;omega
theorem digs1_dig(most:Nat):(digs1.take most).all dig=true:=by
 have h:digs1.all dig=true:=by decide +kernel
 exact List.all_eq_true.2 fun x hx=> List.all_eq_true.1 h x (List.mem_of_mem_take hx)
theorem mem_canTo {most n:Nat}{s:List UInt8}(h:s∈canTo most n)(hn:n≤3):s.all dig=true∧s.length≤3:=by
 obtain⟨i,hi,h2⟩:=List.mem_flatMap.1 h;obtain⟨h3,h4⟩:=mem_allL h2;have:=List.mem_range.1 hi;exact⟨List.all_eq_true.2 fun y hy=> List.all_eq_true.1 (digs1_dig most) y (h4 y hy),by omega⟩
theorem perm5(a b c d e f:Nat×Bool×Obj)(B:Bl):(a::b::c::d::e::f::B).Perm (c::d::e::a::b::f::B):=by
 have h1:([a,b]++c::(d::e::f::B)).Perm (c::([a,b]++d::e::f::B)):=List.perm_middle;have h2:([a,b]++d::(e::f::B)).Perm (d::([a,b]++e::f::B)):=List.perm_middle;have h3:([a,b]++e::(f::B)).Perm (e::([a,b]++f::B)):=List.perm_middle;exact h1.trans (.cons _ (h2.trans (.cons _ h3)))
def cheap(w:Nat→Int)(nw digits most:Nat):ChSt:=cheapGo (sortS (canTo most digits)) w nw [] 0 ⟨false,0,[]⟩
def cheapV(num:Value)(t a:Int):Value:=.tuple ⟨[num,.int .i64 t,.int .i64 a]⟩
section
variable(M:Md prog)(H:View)
theorem Cheapest_k(A:Option Addr)(nw wc:Nat)(w:Nat→Int)(hA:FreeAt H A nw w)(digits most:Nat)(h0:1≤(nw:Int)∧(nw:Int)≤3)(hw:(firstTo (fun j=> !weightOk (w j)) nw).isSome=false)(hd:1≤((digits:Nat):Int)∧((digits:Nat):Int)≤3)(hm:1≤((most:Nat):Int)∧((most:Nat):Int)≤3):
   CallT M 53 #[.slice A nw wc,.int .i64 (digits:Nat),.int .i64 (most:Nat)] H (fun v H'=> H.le H'∧∃a n c',v=cheapV (.slice a n c') (cheap w nw digits most).total (cheap w nw digits most).al∧n=(cheap w nw digits most).best.length∧SrcAt H' 1 (.slice a n c') n (strsV (cheap w nw digits most).best)∧n≤c'):=by
 have hc:=fun(H':View) (h':H.le H')=> ContainsI_c M H' A nw wc w (hA.le h') (by omega) (.func (.func 121) #[] #[]) (fun j=> !weightOk (w j)) (fun j _ H'' _=> .h (weightBad_c M H'' (w j)));have hwok:∀i,i<nw→0≤w i∧w i≤99:=fun i hi=> by
   have h1:firstTo (fun j=> !weightOk (w j)) nw=none:=by
     cases hz:firstTo (fun j=> !weightOk (w j)) nw with
     | none=> rfl
     | some y=> rw[hz] at hw;cases hw
   have h2:=(firstTo_none _).1 h1 i hi;unfold weightOk at h2;simpa using h2
 refine .en func53 ntmps53 fun St c cs hK=> ?_;refine U2 ?_;refine .bo fun b3=> ?_;refine .al fun b6=> ?_;refine .al fun b7=> ?_;refine .al fun b8=> ?_;refine U7 ?_;refine .c rfl rfl rfl rfl (fun H hs=> .h (between_is M H (nw:Nat) 1 3 true (decide_eq_true h0))) ?_;refine U8 ?_;refine .c rfl rfl rfl rfl (fun H hs=> .h (isB (hc H hs.base) hw)) ?_;refine U6 ?_;refine .c rfl rfl rfl rfl (fun H hs=> .h (between_is M H (digits:Nat) 1 3 true (decide_eq_true hd))) ?_;refine U6 ?_;refine .c rfl rfl rfl rfl (fun H hs=> .h (between_is M H (most:Nat) 1 3 true (decide_eq_true hm))) ?_;refine U8 ?_;refine .al fun b9=> ?_;refine U8 ?_;refine Tc.db (Tc.loopB (σ:= { y:View×Nat×Gl 9 1//H.le y.1∧y.2.1≤digits∧y.2.2.l=strsV (canTo most y.2.1)∧y.2.2.n=(canTo most y.2.1).length })
   (fun y=> (y.1.1,[(2,.int .i64 (most:Nat)),(3,.pointer (some ⟨b3,0,none⟩)),(6,.pointer (some ⟨b6,0,none⟩)),(7,.pointer (some ⟨b7,0,none⟩)),(8,.pointer (some ⟨b8,0,none⟩)),(9,.pointer (some ⟨b9,0,none⟩)),(26,.int .i64 (digits:Nat)),(27,.int .i64 (y.1.2.1:Nat))],
     [(b9,true,.cells ⟨[y.1.2.2.val]⟩ 33 (0,0)),(b8,true,.cells ⟨[.int .i64 0]⟩ 29 (0,0)),(b7,true,.cells ⟨[.int .i64 0]⟩ 3 (0,0)),(b6,true,.cells ⟨[.slice none 0 0]⟩ 33 (0,0)),(b3,true,.cells ⟨[.slice A nw wc]⟩ 26 (0,0))]++y.1.2.2.bl)) (fun y=> digits-y.1.2.1) ?_ ⟨(H,0,Gl.nil 9 1),View.le_refl _,Nat.zero_le _,rfl,rfl⟩)
 rintro⟨⟨H₁,i,g⟩,g1,g2,g3,g4⟩ ih;simp only at g1 g2 g3 g4;show Tc M St _ _ H₁ _ [(2,.int .i64 (most:Nat)),(3,.pointer (some ⟨b3,0,none⟩)),(6,.pointer (some ⟨b6,0,none⟩)),(7,.pointer (some ⟨b7,0,none⟩)),(8,.pointer (some ⟨b8,0,none⟩)),(9,.pointer (some ⟨b9,0,none⟩)),(26,.int .i64 (digits:Nat)),(27,.int .i64 (i:Nat))]
     ([(b9,true,.cells ⟨[g.val]⟩ 33 (0,0)),(b8,true,.cells ⟨[.int .i64 0]⟩ 29 (0,0)),(b7,true,.cells ⟨[.int .i64 0]⟩ 3 (0,0)),(b6,true,.cells ⟨[.slice none 0 0]⟩ 33 (0,0)),(b3,true,.cells ⟨[.slice A nw wc]⟩ 26 (0,0))]++g.bl) _ _
 have hcl:=canTo_len (most:=most) (by omega) i (by omega);by_cases c1:i=digits
 · subst c1;refine U10 ?_;refine .e (Or.sortGG (dec:=decS (canTo most i)) (L1:= [(b9,true,.cells ⟨[g.val]⟩ 33 (0,0)),(b8,true,.cells ⟨[.int .i64 0]⟩ 29 (0,0)),(b7,true,.cells ⟨[.int .i64 0]⟩ 3 (0,0)),(b6,true,.cells ⟨[.slice none 0 0]⟩ 33 (0,0)),(b3,true,.cells ⟨[.slice A nw wc]⟩ 26 (0,0))]) g (codesS (canTo most i)) (g3.trans (strsL_codes _).symm) (codes_enc _) (by omega) rfl rfl rfl rfl rfl (by decide) (fun H Q h=> .h h) (fun g' m hv' hn' hb' hl' ht hs'=> ?_));rw[←hv'];have hso:=codes_sorted g4 ht hs';have hl2:g'.l=strsV (sortS (canTo most i)):=by rw[hl',strsL_map,hso];rfl
   have hslen:(sortS (canTo most i)).length=(canTo most i).length:=(sortS_perm _).length_eq;clear hl' ht hs' hso hv';refine U7 ?_;refine .al fun b11=> ?_;refine U9 ?_;refine To.lift (L₂:= []) (L₁:= [(b11,true,.cells ⟨[cheapF b8 b7 b3 b6 b9 b11]⟩ 171 (0,0)),(b9,true,.cells ⟨[g'.val]⟩ 33 (0,0)),(b8,true,.cells ⟨[.int .i64 9]⟩ 29 (0,0)),(b7,true,.cells ⟨[.int .i64 0]⟩ 3 (0,0)),(b6,true,.cells ⟨[.slice none 0 0]⟩ 33 (0,0)),(b3,true,.cells ⟨[.slice A nw wc]⟩ 26 (0,0))]++g'.bl) rfl (fun Hx hx=> ?_);obtain⟨H',h1,h2⟩:=SymSt.unappend (B:= [(b8,true,.cells ⟨[.int .i64 9]⟩ 29 (0,0)),(b7,true,.cells ⟨[.int .i64 0]⟩ 3 (0,0)),(b6,true,.cells ⟨[.slice none 0 0]⟩ 33 (0,0))]) (L:= [(b11,true,.cells ⟨[cheapF b8 b7 b3 b6 b9 b11]⟩ 171 (0,0)),(b9,true,.cells ⟨[g'.val]⟩ 33 (0,0)),(b3,true,.cells ⟨[.slice A nw wc]⟩ 26 (0,0))]++g'.bl) (hx.perm (by
     simp only[List.cons_append,List.nil_append];exact(perm5 _ _ _ _ _ _ _).symm))
   have hcap:ChCap (sortS (canTo most i)) w nw b8 b7 b3 b6 b9 b11 (g'.blk.map fun b=> ⟨b,0,none⟩) A g'.cap wc H':=
     ⟨⟨true,h2.get (i:=0) rfl⟩,⟨true,by have h3:=h2.get (i:=1) rfl;rw[hslen,←g4,←hn'];exact h3⟩,⟨true,h2.get (i:=2) rfl⟩,by
       have h3:=strs_of (g0:=g') g' (H:=H') (fun x hx=> h2.at_ x (List.mem_append_right _ hx)) hl2 rfl rfl;rw[hn',g4,←hslen] at h3;exact h3,(hA.le g1).le h2.base⟩
   refine To.callF rfl rfl rfl rfl rfl rfl (by decide) (FnT.of (first:= []) (captured:= [_,_,_,_,_,_]) ca123 rfl (more2_c M (sortS (canTo most i)) w nw b8 b7 b3 b6 b9 b11 (g'.blk.map fun b=> ⟨b,0,none⟩) A g'.cap wc (by omega) (by rw[hslen];omega) (fun s hs=> mem_canTo ((sortS_perm _).mem_iff.1 hs) (by omega)) hwok nw (Gl.nil 9 1) [] 0 ⟨false,0,[]⟩ none 0 0 H' Hx rfl (Nat.zero_add _) (by decide) hcap rfl ⟨⟨⟨_,_,rfl⟩,rfl,.inl ⟨none,0,rfl,rfl⟩⟩,Nat.le_refl 0⟩ h1)) (fun v H₃ hv=> ?_);obtain⟨_,H₄,g4',a4,n4,c4,r1,r2,r3,r4,r5⟩:=hv;refine To.expand r2 ?_;unfold stB;refine U2 ?_;refine Tc.dr [] [] mixed rfl ?_;refine .nn 0 ?_;refine .nn 1 ?_;refine .nn 2 ?_;refine Ta.each [3] (by kernel_rfl) rfl ⟨TaOp.mk rfl rfl rfl (.st 2 (zz:=⟨S2.mk (by exact List.Sublist.refl _) (.inr (by exact List.Sublist.refl _)),?_⟩)),trivial⟩;refine Ta.each [4] (by kernel_rfl) rfl ⟨TaOp.mk rfl rfl rfl (.st 1 (zz:=⟨S2.mk (by exact List.Sublist.refl _) (.inr (by exact List.Sublist.refl _)),?_⟩)),trivial⟩;refine Ta.each [5] (by kernel_rfl) rfl ⟨TaOp.mk rfl rfl rfl (.st 0 (zz:=⟨S2.mk (by exact List.Sublist.refl _) (.inr (by exact List.Sublist.refl _)),?_⟩)),trivial⟩;refine .dn ?_;refine .rt hK func53 results53 [_,_,_] ?_;exact fun H' hs=> ⟨View.le_trans g1 (View.le_trans h2.base (View.le_trans r1 hs.base)),a4,n4,c4,rfl,r4,r5.1.mono hs.base,r5.2⟩
 · have c2:i<digits:=by omega
   have hal:=allL_len (most:=most) (n:=i+1) (by omega) (by omega);have hlc:([49,50,51,52,53,54,55,56,57]:List UInt8).length=9:=rfl;have hdl:(digs1.take most).length≤1000:=by rw[List.length_take];omega
   refine U14 ?_;refine Tc.drT [7] [6] [0] 5 mixed rfl ?_;refine .oo 0 ?_;refine .oo 1 ?_;refine .oo 2 ?_;refine .oo 3 ?_;refine Ta.tkC 4 (by kernel_rfl) rfl rfl (by decide) rfl rfl (OpV.take (OpV.sliceS (E:=en) rfl rfl rfl rfl rfl rfl (by omega) (by omega) (by omega))) ?_;refine Ta.each [5] (by kernel_rfl) rfl ⟨TaOp.mk rfl rfl rfl (Or.callNew (fun s=> allF s.1.1 s.1.2) (allB2 (i+1) (digs1.take most)) (fun _=> True) rfl rfl rfl rfl rfl (by decide) (allB2_nodup _ _) (fun H hs=> .h (all_n M H (i+1) (digs1.take most))) (fun s _=> ⟨S3.mk (by apply List.Sublist.cons;exact List.sublist_append_left _ _) (.inr (by exact List.sublist_append_left _ _)),?_⟩)),trivial⟩;refine Ta.lift (L₂:= [(b9,true,.cells ⟨[g.val]⟩ 33 (0,0)),(b8,true,.cells ⟨[.int .i64 0]⟩ 29 (0,0)),(b7,true,.cells ⟨[.int .i64 0]⟩ 3 (0,0)),(b6,true,.cells ⟨[.slice none 0 0]⟩ 33 (0,0)),(b3,true,.cells ⟨[.slice A nw wc]⟩ 26 (0,0))]) (L₁:=g.bl++allB2 (i+1) (digs1.take most) s) rfl (fun Hx hx=> ?_);obtain⟨H',h1,h2⟩:=hx.unappend;refine Ta.callF 6 (by kernel_rfl) rfl (by kernel_rfl) rfl rfl rfl rfl rfl rfl (by decide) (FnT.h (AppendSeq_c M g (canTo most i) g3 (by omega) (i+1) (digs1.take most) (by omega) (digs1_dig most) hdl (by omega) s.1.1 s.1.2 H' Hx ⟨⟨true,h2.get (i:=0) rfl⟩,⟨true,h2.get (i:=1) rfl⟩⟩ h1)) (fun v H₃ hv=> ?_);obtain⟨g',H₂,rfl,q1,q2,q3,q4⟩:=hv;refine Ta.expand q2 ?_;refine Ta.each [7] (by kernel_rfl) rfl ⟨TaOp.mk rfl rfl rfl (.st 0 (zz:=⟨S3.off (by kernel_rfl),?_⟩)),trivial⟩;refine .dn ?_;refine U5 ?_;exact Tc.db (ih ⟨(H₂,i+1,g'),View.le_trans g1 (View.le_trans h2.base q1),by simp only;omega,by simp only;rw[canTo_succ];exact q3,by simp only;rw[canTo_succ,List.length_append,q4,g4]⟩ (by simp only;omega))
theorem Cheapest_c(A:Option Addr)(nw wc:Nat)(w:Nat→Int)(hA:FreeAt H A nw w)(digits most:Nat)(h0:1≤(nw:Int)∧(nw:Int)≤3)(hw:(firstTo (fun j=> !weightOk (w j)) nw).isSome=false)(hd:1≤((digits:Nat):Int)∧((digits:Nat):Int)≤3)(hm:1≤((most:Nat):Int)∧((most:Nat):Int)≤3):
   CallT M 53 #[.slice A nw wc,.int .i64 (digits:Nat),.int .i64 (most:Nat)] H (fun v H'=> H.le H'∧∃a n c',v=cheapV (.slice a n c') (cheap w nw digits most).total (cheap w nw digits most).al∧n=(cheap w nw digits most).best.length∧SrcAt H' 1 (.slice a n c') n (strsV (cheap w nw digits most).best)):=
 CallT.mono (Cheapest_k M H A nw wc w hA digits most h0 hw hd hm) (by
   rintro v H' ⟨h1,a,n,c',h2,h3,h4,_⟩;exact⟨h1,a,n,c',h2,h3,h4⟩)
end
end Go.Proofs.YtdnfdeplcjaonaaGreatDoor
namespace Go.Proofs.YtdnfdeplcjaonaaGreatDoor
open Go.RL Go.Proofs.Tryz
set_option maxRecDepth 10000
theorem ddTo_mem {l:List Int}{x:Int}:∀k,k≤l.length→(x∈ddTo l k↔∃i,i<k∧at0 l i=x)
 | 0,_=> by simp[ddTo]
 | k + 1,hk=> by
   have ih:=ddTo_mem (l:=l) (x:=x) k (by omega);unfold ddTo;split
   · rename_i h
     rw[ih];constructor
     · rintro⟨i,h1,h2⟩;exact⟨i,by omega,h2⟩
     · rintro⟨i,h1,h2⟩;by_cases e:i=k
       · subst e;exact⟨i-1,by omega,by rw[←h.2];exact h2⟩
       · exact⟨i,by omega,h2⟩
   · rw[List.mem_append,ih,List.mem_singleton];constructor
     · rintro(⟨i,h1,h2⟩|rfl)
       · exact⟨i,by omega,h2⟩
       · exact⟨k,by omega,rfl⟩
     · rintro⟨i,h1,h2⟩;by_cases e:i=k
       · subst e;exact .inr h2.symm
       · exact .inl ⟨i,by omega,h2⟩
theorem ddTo_asc {l:List Int}{n:Nat}(hs:Srt 0 n l)(hn:n≤l.length):∀k,k≤n→(ddTo l k).Pairwise (· < ·)
 | 0,_=> List.Pairwise.nil
 | k + 1,hk=> by
   have ih:=ddTo_asc hs hn k (by omega);unfold ddTo;split
   · exact ih
   · rename_i h
     rw[List.pairwise_append];refine⟨ih,List.pairwise_singleton _ _,fun a ha b hb=> ?_⟩;have hb':b=at0 l k:=by simpa using hb
     subst hb';obtain⟨i,h1,rfl⟩:=(ddTo_mem k (by omega)).1 ha;have h2:=hs i (k-1) (Nat.zero_le _);have h3:=hs (k-1) k (Nat.zero_le _) (by omega) (by omega);have h4:at0 l k≠at0 l (k-1):=fun e=> h ⟨by omega,e⟩;by_cases e:i=k-1
     · subst e;omega
     · have:=h2 (by omega) (by omega);omega
theorem Srt.at_mem {l:List Int}{x:Int}:x∈l↔∃i,i<l.length∧at0 l i=x:=by
 rw[List.mem_iff_getElem];constructor
 · rintro⟨i,h,rfl⟩;exact⟨i,h,by unfold at0;rw[List.getElem?_eq_getElem h];rfl⟩
 · rintro⟨i,h,e⟩;refine⟨i,h,?_⟩;unfold at0 at e;rw[List.getElem?_eq_getElem h] at e;exact e
theorem asc_uniq {l m:List Int}(hl:l.Pairwise (· < ·))(hm:m.Pairwise (· < ·))(h:∀x,x∈l↔x∈m):l=m:=by
 have hp:l.Perm m:=(List.perm_ext_iff_of_nodup (List.nodup_iff_pairwise_ne.2 (hl.imp (fun h=> Int.ne_of_lt h))) (List.nodup_iff_pairwise_ne.2 (hm.imp (fun h=> Int.ne_of_lt h)))).2 h;exact List.Perm.eq_of_pairwise (le:=(· ≤·)) (fun a b _ _ h1 h2=> Int.le_antisymm h1 h2) (hl.imp (fun h=> Int.le_of_lt h)) (hm.imp (fun h=> Int.le_of_lt h)) hp
def AscS(l:List (List UInt8)):Prop:=l.Pairwise fun a b=> Op.bytesLess a b=true
theorem ascS_uniq {l m:List (List UInt8)}(hl:AscS l)(hm:AscS m)(h:∀x,x∈l↔x∈m):l=m:=by
 have ne:∀ {a b:List UInt8},Op.bytesLess a b=true→a≠b:=fun h e=> by rw[e,less_irr] at h;cases h
 have hp:l.Perm m:=(List.perm_ext_iff_of_nodup (List.nodup_iff_pairwise_ne.2 (hl.imp ne)) (List.nodup_iff_pairwise_ne.2 (hm.imp ne))).2 h;have le:∀ {a b:List UInt8},Op.bytesLess a b=true→leS a b=true:=fun h=> by unfold leS;rw[less_asym h];rfl
 exact sorted_uniq hp (hl.imp le) (hm.imp le)
def putS(x:List UInt8):List (List UInt8)→List (List UInt8)
 | []=> [x]
 | y::t=> if Op.bytesLess x y then x::y::t else if x=y then y::t else y::putS x t
def ascOf:List (List UInt8)→List (List UInt8)
 | []=> []
 | x::t=> putS x (ascOf t)
theorem mem_putS {x z:List UInt8}:∀l,z∈putS x l↔z=x∨z∈l
 | []=> by simp[putS]
 | y ::t=> by
   unfold putS;split
   · simp
   · split
     · rename_i e
       subst e;simp
     · rw[List.mem_cons,mem_putS t,List.mem_cons];constructor
       · rintro(h|h|h)
         · exact .inr (.inl h)
         · exact .inl h
         · exact .inr (.inr h)
       · rintro(h|h|h)
         · exact .inr (.inl h)
         · exact .inl h
         · exact .inr (.inr h)
theorem putS_asc(x:List UInt8):∀l,AscS l→AscS (putS x l)
 | [],_=> List.pairwise_singleton _ _
 | y ::t,h=> by
   obtain⟨h1,h2⟩:=List.pairwise_cons.1 h;unfold putS;split
   · rename_i hx
     refine List.pairwise_cons.2 ⟨fun z hz=> ?_,h⟩;rcases List.mem_cons.1 hz with rfl|hz
     · exact hx
     · exact less_trans hx (h1 z hz)
   · rename_i hx
     split
     · exact h
     · rename_i hne
       refine List.pairwise_cons.2 ⟨fun z hz=> ?_,putS_asc x t h2⟩;rcases(mem_putS t).1 hz with rfl|hz
       · cases e:Op.bytesLess y z with
         | true=> rfl
         | false=> exact(hne (less_tri (by simpa using hx) e)).elim
       · exact h1 z hz
theorem mem_ascOf {z:List UInt8}:∀l,z∈ascOf l↔z∈l
 | []=> Iff.rfl
 | x::t=> by
   unfold ascOf;rw[mem_putS,mem_ascOf t,List.mem_cons]
theorem ascOf_asc:∀l,AscS (ascOf l)
 | []=> List.Pairwise.nil
 | x::t=> putS_asc x _ (ascOf_asc t)
theorem codes_asc {S:List (List UInt8)}{m:List Int}{n:Nat}(hn:n=S.length)(ht:Turned 0 n (codesS S) m)(hs:Srt 0 n m):(ddTo m n).map (decS S)=ascOf S:=by
 have hml:m.length=n:=by rw[ht.len,hn];simp[codesS]
 have hmem:∀x∈ddTo m n,x∈codesS S:=fun x hx=> by
   obtain⟨i,h1,rfl⟩:=(ddTo_mem n (by omega)).1 hx;exact(ht.mem _).1 (at0_mem (by omega))
 refine ascS_uniq ?_ (ascOf_asc S) (fun z=> ?_)
 · unfold AscS;rw[List.pairwise_map];have h1:=ddTo_asc hs (by omega) n (Nat.le_refl _);refine List.Pairwise.imp_of_mem (fun {a b} ha hb h3=> ?_) h1;rw[codes_enc S a (hmem a ha) b (hmem b hb)];exact decide_eq_true h3
 · rw[mem_ascOf,List.mem_map];constructor
   · rintro⟨x,hx,rfl⟩;obtain⟨s,h1,h2⟩:=List.mem_map.1 (hmem x hx);rw[←h2,dec_rank h1];exact h1
   · intro hz;refine⟨((rankS S z:Nat):Int),?_,dec_rank hz⟩;have h1:((rankS S z:Nat):Int)∈m:=(ht.mem _).2 (List.mem_map.2 ⟨z,hz,rfl⟩);obtain⟨i,h2,h3⟩:=Srt.at_mem.1 h1;exact(ddTo_mem n (by omega)).2 ⟨i,by omega,h3⟩
theorem ascOf_congr {l m:List (List UInt8)}(h:∀x,x∈l↔x∈m):ascOf l=ascOf m:=
 ascS_uniq (ascOf_asc l) (ascOf_asc m) fun x=> by rw[mem_ascOf,mem_ascOf,h]
def putI(x:Int):List Int→List Int
 | []=> [x]
 | y::t=> if x<y then x::y::t else if x=y then y::t else y::putI x t
def ascI:List Int→List Int
 | []=> []
 | x::t=> putI x (ascI t)
theorem mem_putI {x z:Int}:∀l,z∈putI x l↔z=x∨z∈l
 | []=> by simp[putI]
 | y ::t=> by
   unfold putI;split
   · simp
   · split
     · rename_i e
       subst e;simp
     · rw[List.mem_cons,mem_putI t,List.mem_cons];constructor
       · rintro(h|h|h)
         · exact .inr (.inl h)
         · exact .inl h
         · exact .inr (.inr h)
       · rintro(h|h|h)
         · exact .inr (.inl h)
         · exact .inl h
         · exact .inr (.inr h)
theorem putI_asc(x:Int):∀l:List Int,l.Pairwise (· < ·)→(putI x l).Pairwise (· < ·)
 | [],_=> List.pairwise_singleton _ _
 | y ::t,h=> by
   obtain⟨h1,h2⟩:=List.pairwise_cons.1 h;unfold putI;split
   · rename_i hx
     refine List.pairwise_cons.2 ⟨fun z hz=> ?_,h⟩;rcases List.mem_cons.1 hz with rfl|hz
     · exact hx
     · have:=h1 z hz;omega
   · rename_i hx
     split
     · exact h
     · rename_i hne
       refine List.pairwise_cons.2 ⟨fun z hz=> ?_,putI_asc x t h2⟩;rcases(mem_putI t).1 hz with rfl|hz
       · omega
       · exact h1 z hz
theorem mem_ascI {z:Int}:∀l,z∈ascI l↔z∈l
 | []=> Iff.rfl
 | x::t=> by
   unfold ascI;rw[mem_putI,mem_ascI t,List.mem_cons]
theorem ascI_asc:∀l,(ascI l).Pairwise (· < ·)
 | []=> List.Pairwise.nil
 | x::t=> putI_asc x _ (ascI_asc t)
theorem ints_asc {S m:List Int}{n:Nat}(hn:n=S.length)(ht:Turned 0 n S m)(hs:Srt 0 n m):ddTo m n=ascI S:=by
 have hml:m.length=n:=by rw[ht.len,hn]
 refine asc_uniq (ddTo_asc hs (by omega) n (Nat.le_refl _)) (ascI_asc S) (fun z=> ?_);rw[mem_ascI,ddTo_mem n (by omega),←ht.mem z,Srt.at_mem,hml]
set_option maxHeartbeats 16000000
def Bk.heardL(k:Bk):List (List UInt8):=ascOf ((k.earsL k.nt).map (·.heard))
def wordsV(g:Gl 9 1)(a:Int):Value:=.tuple ⟨[g.val,.int .i64 a]⟩
theorem nodup_le {α:Type}:∀ {l m:List α},l.Nodup→(∀x∈l,x∈m)→l.length≤m.length
 | [],_,_,_=> Nat.zero_le _
 | x ::t,m,hn,hs=> by
   obtain⟨h1,h2⟩:=List.nodup_cons.1 hn;obtain⟨a,b,rfl⟩:=List.append_of_mem (hs x (List.mem_cons_self ..));have:=nodup_le (l:=t) (m:=a++b) h2 (fun y hy=> by
     have:=hs y (List.mem_cons_of_mem _ hy);rcases List.mem_append.1 this with h|h
     · exact List.mem_append_left _ h
     · rcases List.mem_cons.1 h with rfl|h
       · exact(h1 hy).elim
       · exact List.mem_append_right _ h)
   simp only[List.length_append,List.length_cons] at this ⊢;omega
theorem ears_size {k:Bk}{es:Array MapEntry}{cl n:Nat}(h:MapOk es cl (earF (k.earsS n))):es.size≤(k.earsL n).length:=by
 have hsub:∀x∈es.toList.map (·.key),x∈(k.earsL n).map Ear.val:=by
   intro x hx;obtain⟨e,he,rfl⟩:=List.mem_map.1 hx;obtain⟨y,h1,h2,_⟩:=earF_keys h e he;exact List.mem_map.2 ⟨y,(k.mem_earsL n y).2 h1,h2.symm⟩
 have:=nodup_le h.keys hsub;simpa using this
section
variable(M:Md prog)(H:View)
end
set_option maxHeartbeats 8000000
section
variable(M:Md prog)(H:View)
end
set_option maxHeartbeats 1000000
section
variable {k:Bk}{t:Nat}{x:Quad}
end
set_option maxHeartbeats 16000000
theorem can_len {k:Bk}(hok:k.trainsOk){i:Nat}(hi:i<k.nt):(k.can i).length≤12:=by
 obtain⟨h1,h2,h3⟩:=k.train_in hok hi;have e:∀a b lo hi:Nat,(canL a b lo hi).length=(b+1-a)*(hi+1-lo):=fun a b lo hi=> by
   unfold canL upN;rw[List.length_flatMap];simp only[List.length_map,List.length_range',List.map_const',List.sum_replicate_nat]
 unfold Bk.can;rw[e];have h4:=k.kind_le (k.qt i);have m1:(k.pt i).toNat+1-(k.pf i).toNat≤4:=by omega
 have m2:k.kind (k.qt i)+1-k.kind (k.qf i)≤3:=by omega
 exact Nat.mul_le_mul m1 m2
theorem ears_count {k:Bk}(ha:k.alarm=0):(k.earsL k.nt).length≤12 ^ 6:=by
 obtain⟨_,_,hnt,hok⟩:=Bk.valid ha;have h:∀n,n≤k.nt→(k.earsL n).length≤12 ^ n:=by
   intro n;induction n with
   | zero=> intro _;exact Nat.le_refl _
   | succ n ih=>
     intro hn;unfold Bk.earsL;rw[List.length_flatMap];have h1:∀l:List Ear,(l.map fun e=> ((k.can n).map fun x=> e.hear x.1 x.2).length).sum≤l.length*12:=by
       intro l;induction l with
       | nil=> exact Nat.le_refl _
       | cons e t iht=>
         have:=can_len hok (i:=n) (by omega);simp only[List.map_cons,List.sum_cons,List.length_map,List.length_cons] at iht ⊢;omega
     have h2:=h1 (k.earsL n);have h3:=ih (by omega);rw[Nat.pow_succ];omega
 exact Nat.le_trans (h k.nt (Nat.le_refl _)) (Nat.pow_le_pow_right (by decide) hnt)
section
variable(M:Md prog)(H:View)
theorem HeardG_c(k:Bk)(A:Option Addr)(lc:Nat)(B:Option Addr)(tc:Nat)(hk:BkAt H k A lc B tc)(hn:k.small)(hG:Glob H)(ha:k.alarm=0):
   CallT M 23 #[k.val A lc B tc] H (fun v H'=> H.le H'∧∃g:Gl 9 1,v=wordsV g 0∧(g.n=k.heardL.length∧g.l=strsV k.heardL)∧∀x∈g.bl,H' x.1=some x.2∧H x.1=none):=by
 obtain⟨_,hnl,hnt,hok⟩:=Bk.valid ha;have h12:=ears_count ha;have hop:=fun(H':View) (h':H.le H')=> open_yes M H' k A lc B tc (hk.le h') hn (glob_le hG h') ha;refine .en func23 ntmps23 fun St c cs hK=> ?_;refine U2 ?_;refine .bo fun b1=> ?_;refine U6 ?_;refine .c rfl rfl rfl rfl (fun H hs=> .h (hop H hs.base)) ?_;refine U3 ?_;refine .al fun b4=> ?_;refine U22 ?_;refine To.callF rfl rfl rfl rfl rfl rfl (by decide) (FnT.h (ears_c M H k A lc B tc hk.trains hok hnt k.nt (Nat.le_refl _))) (fun v H₂ hv=> ?_);obtain⟨hle,m,es,cl,rfl,⟨fm,q3⟩,q4⟩:=hv;have hsz:=ears_size q4;refine .e (Or.range (E:=en) (es:=es) (cl:=cl) rfl rfl (fun H hs=> ⟨fm,hs.base _ _ q3⟩) rfl rfl rfl (by decide) (fun it=> ?_));refine U2 ?_;refine Tc.db (Tc.loopInv (σ:= { s:Array Nat×List (List UInt8)×Gl 9 1//s.2.2.l=strsV s.2.1∧(unseen es s.1).length+s.2.1.length=es.size∧∀x,x∈(k.earsL k.nt).map (·.heard)↔(x∈s.2.1∨∃me∈unseen es s.1,∃e:Ear,me.key=e.val∧x=e.heard) })
   (fun s=> ([(1,.pointer (some ⟨b1,0,none⟩)),(4,.pointer (some ⟨b4,0,none⟩)),(6,s.1.2.2.val),(21,.pointer (some ⟨it,0,none⟩))],[(it,true,.mapIter (some m) cl s.1.1 cl),(b4,true,.cells ⟨(k.val A lc B tc).cells.toList⟩ 113 (0,0)),(b1,true,.cells ⟨(k.val A lc B tc).cells.toList⟩ 25 (0,0))]++s.1.2.2.bl)) (fun s=> (unseen es s.1.1).length) ?_ ⟨(#[],[],Gl.nil 9 1),rfl,by rw[unseen_start];simp,fun x=> by
     rw[unseen_start,List.mem_map];constructor
     · rintro⟨e,he,rfl⟩;obtain⟨me,h1,h2,_⟩:=(q4.mem e.val (.bool true)).1 ⟨e,(k.mem_earsL _ e).1 he,rfl,rfl⟩;exact .inr ⟨me,h1,e,h2,rfl⟩
     · rintro(h|⟨me,h1,e,h2,rfl⟩)
       · cases h
       · obtain⟨y,h3,h4,_⟩:=earF_keys q4 me h1;rw[ear_inj (h2.symm.trans h4)];exact⟨y,(k.mem_earsL _ y).2 h3,rfl⟩⟩)
 rintro⟨⟨seen,dn,g⟩,p2,p3,p4⟩ ih;simp only at p2 p3 p4;show Tc M St _ _ H₂ _ [(1,.pointer (some ⟨b1,0,none⟩)),(4,.pointer (some ⟨b4,0,none⟩)),(6,g.val),(21,.pointer (some ⟨it,0,none⟩))] ([(it,true,.mapIter (some m) cl seen cl),(b4,true,.cells ⟨(k.val A lc B tc).cells.toList⟩ 113 (0,0)),(b1,true,.cells ⟨(k.val A lc B tc).cells.toList⟩ 25 (0,0))]++g.bl) _ _;have hgn:g.n=dn.length:=by have:=g.hl;rw[p2,strsV_len] at this;omega
 refine U2 ?_;refine .e (Or.next (es:=es) 0 rfl rfl rfl (fun H hs=> ⟨fm,hs.base _ _ q3⟩) q4.lt rfl (by decide) (fun me he hse=> ?_) (fun hall=> ?_))
 · have hp :=unseen_next q4.borns he hse;obtain⟨e0,u1,u2,_⟩:=earF_keys q4 me he;have hfind:=earF_find q4 he;have hpl:=hp.length_eq;rw[List.length_cons] at hpl;refine U8 ?_;refine .e (Or.entry (es:=es) (e:=me) (st:=me.born) rfl rfl (fun H hs=> ⟨true,hs.get (i:=0) rfl⟩) (fun H hs=> ⟨fm,hs.base _ _ q3⟩) (by simp) hfind rfl (by decide) ?_);rw[u2];refine U ?_;refine .al fun b7=> ?_;refine U6 ?_;refine .e (.bs (zz:=fun bs=> ?_));refine .e (Or.append (E:=en) 5 rfl rfl rfl rfl rfl rfl rfl rfl rfl rfl rfl rfl rfl rfl rfl (fun H hs=> SrcAt.of (hs.get (i:=0) rfl) (Nat.le_of_ble_eq_true rfl)) rfl (by omega) rfl (by decide) (fun g' hn2 hl2=> ?_));refine U3 ?_;exact Tc.db (ih ⟨(seen.push me.born,dn++[e0.heard],g'),by simp only;rw[hl2,p2,strsV_app];rfl,by simp only;rw[List.length_append,List.length_singleton];omega,fun x=> by
     rw[p4 x,List.mem_append,List.mem_singleton];constructor
     · rintro(h|⟨me',h1,e',h2,h5⟩)
       · exact .inl (.inl h)
       · rcases List.mem_cons.1 (hp.mem_iff.1 h1) with rfl|h6
         · rw[ear_inj (h2.symm.trans u2)] at h5;exact .inl (.inr h5)
         · exact .inr ⟨me',h6,e',h2,h5⟩
     · rintro((h|h)|⟨me',h6,h7⟩)
       · exact .inl h
       · exact .inr ⟨me,hp.mem_iff.2 (List.mem_cons_self ..),e0,u2,h⟩
       · exact .inr ⟨me',hp.mem_iff.2 (List.mem_cons_of_mem _ h6),h7⟩⟩ (by simp only;omega))
 · have hnil:=unseen_done hall;rw[hnil] at p3 p4;simp only[List.not_mem_nil,false_and,exists_false,or_false] at p4;rw[List.length_nil,Nat.zero_add] at p3;have hheard:k.heardL=ascOf dn:=ascOf_congr p4;refine U8 ?_;refine .e (Or.sortGG (dec:=decS dn) (L1:= [(it,true,.mapIter (some m) cl seen cl),(b4,true,.cells ⟨(k.val A lc B tc).cells.toList⟩ 113 (0,0)),(b1,true,.cells ⟨(k.val A lc B tc).cells.toList⟩ 25 (0,0))]) g (codesS dn) (p2.trans (strsL_codes _).symm) (codes_enc _) (by omega) rfl rfl rfl rfl rfl (by decide) (fun H Q h=> .h h) (fun g' mm hv' hn' hb' hl' ht hs'=> ?_));rw[←hv'];rw[hgn] at ht hs' hn';have hfin:(ddTo mm dn.length).map (decS dn)=k.heardL:=by rw[hheard];exact codes_asc rfl ht hs'
   have hE':=(codes_enc dn).turned ht;refine U4 ?_;refine .e (Or.compSGl (dec:=decS dn) (L1:= [(it,true,.mapIter (some m) cl seen cl),(b4,true,.cells ⟨(k.val A lc B tc).cells.toList⟩ 113 (0,0)),(b1,true,.cells ⟨(k.val A lc B tc).cells.toList⟩ 25 (0,0))]) g' mm hl' hE' (by omega) rfl rfl rfl rfl rfl (by decide) (fun H Q h=> .h h) (fun g2 hn3 hl3=> ?_));rw[hn'] at hn3 hl3;have hl4:g2.l=strsV k.heardL:=by rw[hl3,strsL_map,hfin];rfl
   have hn4:g2.n=k.heardL.length:=by rw[hn3,←hfin,List.length_map]
   refine U3 ?_;refine .rt hK func23 results23 [_,_] ?_;exact fun H' hs=> ⟨View.le_trans hle hs.base,g2,rfl,⟨hn4,hl4⟩,fun x hx=> ⟨hs.at_ x (by simp[hx]),none_le hle (hs.out x (by simp[hx]))⟩⟩
end
end Go.Proofs.YtdnfdeplcjaonaaGreatDoor
namespace Go.Proofs.YtdnfdeplcjaonaaGreatDoor
open Go.RL Go.Proofs.Tryz
set_option maxRecDepth 100000
theorem ex_heardD:bkD.heardL= [[49,50],[49,51]]:=by decide +kernel
theorem ex_heardE:bkE.heardL= [[49,49,50],[50,50]]:=by decide +kernel
theorem ex_clD:(bkD.claimOf 0=0∧bkD.claimOf 1=0∧bkD.claimOf 2=2)∧bkD.claimOf (-1)=2:=by decide +kernel
theorem ex_clE:(bkE.claimOf 0=2∧bkE.claimOf 1=2∧bkE.claimOf 2=0)∧bkE.claimOf (-1)=0:=by decide +kernel
theorem ex_in1:(firstTo (fun i=> !bkE.inAt (exAt [1,1,2]) (exAt [3,9,9]) i) 3).isSome=false∧bkE.earTo (exAt [1,1,2]) (exAt [3,9,9]) 3=⟨[50,50],0,false⟩∧bkE.line [50,50]=some 2:=by decide +kernel
theorem ex_in2:(firstTo (fun i=> !bkE.inAt (exAt [1,1,2]) (exAt [5,9,9]) i) 3).isSome=false∧bkE.earTo (exAt [1,1,2]) (exAt [5,9,9]) 3=⟨[49,49,50],0,false⟩∧bkE.line [49,49,50]=none:=by decide +kernel
theorem ex_look:bkD.look=(1,1):=by decide +kernel
theorem ex_setD:bkD.settled=none:=by decide +kernel
theorem ex_know:trainOk 2 2 6 6=true∧bkD.nowOk 1 2 2 6 6=true:=by decide +kernel
theorem ex_setO:bkO.settled=some (2,0):=by decide +kernel
theorem ex_taken:(bkD.takenAt 1 0=2∧bkD.takenAt 1 1=0)∧bkD.needTo 1 2=2:=by decide +kernel
theorem ex_slips:ascI (bkD.hits 0)= [1,2]:=by decide +kernel
theorem ex_safe3:bkD.safeV [51]=.tuple ⟨[.bool false,.int .i64 0]⟩:=by
 have h:isNum [51]=true∧bkD.clash [51]=false∧bkD.safe [51]=false:=by decide +kernel
 unfold Bk.safeV;rw[if_neg (by rw[bkD_al];decide),if_neg (by rw[h.1];decide),if_neg (by rw[h.2.1];decide),h.2.2]
theorem ex_safe5:bkD.safeV [53]=.tuple ⟨[.bool true,.int .i64 0]⟩:=by
 have h:isNum [53]=true∧bkD.clash [53]=false∧bkD.safe [53]=true:=by decide +kernel
 unfold Bk.safeV;rw[if_neg (by rw[bkD_al];decide),if_neg (by rw[h.1];decide),if_neg (by rw[h.2.1];decide),h.2.2]
theorem ex_spare:bkD.spareV 1 true=spare3 [48] true 0:=by
 have h:bkD.spare 1 true=some [48]:=by decide +kernel
 unfold Bk.spareV;rw[if_neg (by rw[bkD_al];decide),if_neg (by decide)];show(match bkD.spare 1 true with|some x=> spare3 x true 0|none=> spare3 [] false 0)=_;rw[h]
theorem ex_pulses:pulsesV [49,50,48]=.tuple ⟨[.int .i64 13,.int .i64 0]⟩:=by
 have h:isNum [49,50,48]=true∧takenN [49,50,48]=13:=by decide +kernel
 unfold pulsesV;rw[if_neg (by rw[h.1];decide),h.2];rfl
theorem ex_cheap:(canTo 2 2).length≤12∧(firstTo (fun j=> !weightOk (exAt [5,3,1] j)) 3).isSome=false∧(cheap (exAt [5,3,1]) 3 2 2).total=18∧(cheap (exAt [5,3,1]) 3 2 2).done=true∧(cheap (exAt [5,3,1]) 3 2 2).best= [[49],[50,49],[50,50]]:=by decide +kernel
theorem ex_follow1:bkE.followV 3 3 (exAt [1,1,2]) (exAt [3,9,9])=follow3 [50,50] 2 0:=by
 obtain⟨h1,h2,h3⟩:=ex_in1;unfold Bk.followV;rw[if_neg (by rw[bkE_al];decide),if_neg (by decide)];show(if(firstTo (fun i=> !bkE.inAt (exAt [1,1,2]) (exAt [3,9,9]) i) 3).isSome=true then _ else follow3 (bkE.earTo (exAt [1,1,2]) (exAt [3,9,9]) 3).heard (firstI (bkE.line (bkE.earTo (exAt [1,1,2]) (exAt [3,9,9]) 3).heard)) 0)=_;rw[h1,h2];simp only[Bool.false_eq_true,if_false];rw[h3];rfl
theorem ex_follow2:bkE.followV 3 3 (exAt [1,1,2]) (exAt [5,9,9])=follow3 [49,49,50] (-1) 0:=by
 obtain⟨h1,h2,h3⟩:=ex_in2;unfold Bk.followV;rw[if_neg (by rw[bkE_al];decide),if_neg (by decide)];show(if(firstTo (fun i=> !bkE.inAt (exAt [1,1,2]) (exAt [5,9,9]) i) 3).isSome=true then _ else follow3 (bkE.earTo (exAt [1,1,2]) (exAt [5,9,9]) 3).heard (firstI (bkE.line (bkE.earTo (exAt [1,1,2]) (exAt [5,9,9]) 3).heard)) 0)=_;rw[h1,h2];simp only[Bool.false_eq_true,if_false];rw[h3];rfl
set_option maxRecDepth 10000
set_option maxHeartbeats 32000000
theorem strs_lit {H:View}{b:Nat}{f:Bool}{gt:TypeId}{gz:Nat×Nat}(m:List (List UInt8))(h:H b=some (f,.cells ⟨strsV m⟩ gt gz)):StrsAt H (some ⟨b,0,none⟩) m.length (fun j=> m[j]?.getD []):=
 .inr ⟨b,0,f,_,gt,gz,rfl,h,fun j hj=> by
   show(strsV m)[_]? =_;rw[Nat.zero_add,Int.toNat_natCast,Nat.mul_one];unfold strsV;rw[List.getElem?_map];simp only[List.getElem?_eq_getElem hj];rfl⟩
theorem words_true(l:List (List UInt8)){n:Nat}(hn:n=l.length):(decide (n=l.length)&&allB (fun i=> decide ((fun j=> l[j]?.getD []) i=(fun j=> l[j]?.getD []) i)) n)=true:=by
 rw[decide_eq_true hn,(allB_iff n).2 (fun i _=> decide_eq_true rfl)];rfl
theorem ints_lit {H:View}{b:Nat}{f:Bool}{gt:TypeId}{gz:Nat×Nat}(m:List Int)(h:H b=some (f,.cells ⟨intsL m⟩ gt gz)):FreeAt H (some ⟨b,0,none⟩) m.length (exAt m):=
 .inr ⟨b,0,f,_,gt,gz,rfl,h,fun j hj=> by
   show(intsL m)[_]? =_;rw[Nat.zero_add,Int.toNat_natCast,Nat.mul_one];unfold intsL exAt;rw[List.getElem?_map];simp only[List.getElem?_eq_getElem hj];rfl⟩
theorem cl_at {e:TypeId}(g:Gl e 1){H:View}(h:∀x∈g.bl,H x.1=some x.2){f:Nat→Int}{n:Nat}(hl:g.l=clL f n)(hn:g.n=n):FreeAt H (g.blk.map fun b=> ⟨b,0,none⟩) n f:=by
 cases hb:g.blk with
 | none=>
   have:=g.h0 hb;have:=g.hc;exact .inl (by omega)
 | some b=>
   have hbl:g.bl= [(b,true,.cells ⟨g.l++g.junk⟩ e (0,0))]:=by unfold Gl.bl;rw[hb]
   refine .inr ⟨b,0,true,_,e,(0,0),rfl,h (b,true,.cells ⟨g.l++g.junk⟩ e (0,0)) (by rw[hbl];simp),fun j hj=> ?_⟩;show(g.l++g.junk)[_]? =_;rw[Nat.zero_add,Int.toNat_natCast,Nat.mul_one,List.getElem?_append_left (by rw[hl,clL_len];exact hj),hl];unfold clL;rw[List.getElem?_map,List.getElem?_range hj];rfl
theorem clL_ints(m:List Int):intsL m=clL (exAt m) m.length:=by
 apply List.ext_getElem?
 intro i;unfold intsL clL exAt;rw[List.getElem?_map,List.getElem?_map];by_cases h:i<m.length
 · rw[List.getElem?_range h,List.getElem?_eq_getElem h];simp[h]
 · rw[List.getElem?_eq_none (by omega),List.getElem?_eq_none (by simp;omega)];rfl
theorem three {p:Nat→Prop}(h0:p 0)(h1:p 1)(h2:p 2):∀i,i<3→p i:=fun i hi=> by
 rcases(by omega:i=0∨i=1∨i=2) with rfl|rfl|rfl
 · exact h0
 · exact h1
 · exact h2
theorem two {p:Nat→Prop}(h0:p 0)(h1:p 1):∀i,i<2→p i:=fun i hi=> by
 rcases(by omega:i=0∨i=1) with rfl|rfl
 · exact h0
 · exact h1
theorem strs_src {H:View}{a:Option Addr}{n c:Nat}{l:List (List UInt8)}(h:SrcAt H 1 (.slice a n c) n (strsV l))(hn:n=l.length):StrsAt H a n (fun j=> l[j]?.getD []):=by
 obtain⟨_,_,⟨_,_,h1,h2⟩|⟨b,off,c',f,cs,e,fz,h1,h2,h3,h4⟩⟩:=h
 · have:l= []:=by simpa [strsV] using h2
   exact .inl (by rw[hn,this];rfl)
 · simp only[Value.slice.injEq] at h1;refine .inr ⟨b,off,f,cs,e,fz,h1.1,h2,fun j hj=> ?_⟩;show cs[_]? =_;have hjl:j<l.length:=by omega
   have h5:=congrArg (fun x=> x[j]?) h4;simp only[List.getElem?_take,List.getElem?_drop] at h5;rw[if_pos (by rw[strsV_len];exact hjl)] at h5;rw[Int.toNat_natCast,Nat.mul_one,h5];unfold strsV;rw[List.getElem?_map];simp only[List.getElem?_eq_getElem hjl];rfl
theorem To.permL2 {P:Program}{M:Md P}{St:View→Goroutine→Prop}{n:Nat}{b:FB}{H₀:View}{cs:List Frame}{R:Rg}{L L₁:Bl}{ds:List Deferred}{k:List Item}{dl:List (Option Tmp)}{l:List Oper}(p:L₁.Perm L)(h:To M St n b H₀ cs dl R L₁ ds l k):To M St n b H₀ cs dl R L ds l k:=To.perm p h
theorem lives_c(H:View)(hG:Glob H):CallT (Mp prog) 18 #[] H (fun v H'=> H.le H'∧v=.bool true):=by
 have sD:bkD.small:=ex_small rfl (by decide) rfl rfl;have sE:bkE.small:=ex_small rfl (by decide) rfl rfl;have sO:bkO.small:=ex_small rfl (by decide) rfl rfl;refine .en func18 ntmps18 fun St c cs hK=> ?_;refine U6 ?_;refine To.callF rfl rfl rfl rfl rfl rfl (by decide) (FnT.h (Example_c _ H)) (fun v H1 hv=> ?_);obtain⟨tl1,dA,dlc,dB,dtc,dF,dfc,rfl,hD1⟩:=hv;refine To.callF rfl rfl rfl rfl rfl rfl (by decide) (FnT.h (joined_c _ H1)) (fun v H2 hv=> ?_);obtain⟨le2,eA,elc,eB,etc,eF,efc,rfl,hE2⟩:=hv;have tl2:=View.le_trans tl1 le2;have hD2:=hD1.le le2;have hG2:=glob_le hG tl2;refine .al fun b1=> ?_;refine .al fun b2=> ?_;refine U4 ?_;refine Tc.db (R':= [(1,.pointer (some ⟨b1,0,none⟩)),(2,.pointer (some ⟨b2,0,none⟩))]) (L':= [(b2,true,.cells ⟨(bkE.val eA elc eB etc).cells.toList⟩ 25 (0,0)),(b1,true,.cells ⟨(bkD.val dA dlc dB dtc).cells.toList⟩ 25 (0,0))]) ?_;refine U2 ?_;refine To.callF rfl rfl rfl rfl rfl rfl (by decide) (FnT.h (HeardG_c _ H2 bkD dA dlc dB dtc hD2.bk sD hG2 bkD_al)) (fun v H3 hv=> ?_);obtain⟨le3,g3,rfl,⟨ng3,lg3⟩,mg3⟩:=hv;rw[ex_heardD] at ng3 lg3;refine U6 ?_;have tl3:=View.le_trans tl2 le3;have hD3:=hD2.le le3;have hE3:=hE2.le le3;have hG3:=glob_le hG tl3;refine U ?_;refine Tc.db (R':= [(1,.pointer (some ⟨b1,0,none⟩)),(2,.pointer (some ⟨b2,0,none⟩)),(3,g3.val),(4,.int .i64 0)]) (L':= [(b2,true,.cells ⟨(bkE.val eA elc eB etc).cells.toList⟩ 25 (0,0)),(b1,true,.cells ⟨(bkD.val dA dlc dB dtc).cells.toList⟩ 25 (0,0))]) ?_;refine U2 ?_;refine To.callF rfl rfl rfl rfl rfl rfl (by decide) (FnT.h (Reaches_c _ H3 bkD dA dlc dB dtc hD3.bk sD hG3 bkD_al)) (fun v H4 hv=> ?_);obtain⟨le4,g5,rfl,⟨ng5,lg5⟩,mg5⟩:=hv;rw[ex_clD.2];refine U8 ?_;have tl4:=View.le_trans tl3 le4;have hD4:=hD3.le le4;have hE4:=hE3.le le4;have hG4:=glob_le hG tl4;refine U ?_;refine Tc.db (R':= [(1,.pointer (some ⟨b1,0,none⟩)),(2,.pointer (some ⟨b2,0,none⟩)),(3,g3.val),(4,.int .i64 0),(5,g5.val),(6,.int .i64 2),(7,.int .i64 0)]) (L':= [(b2,true,.cells ⟨(bkE.val eA elc eB etc).cells.toList⟩ 25 (0,0)),(b1,true,.cells ⟨(bkD.val dA dlc dB dtc).cells.toList⟩ 25 (0,0))]) ?_;refine U2 ?_;refine To.callF rfl rfl rfl rfl rfl rfl (by decide) (FnT.h (HeardG_c _ H4 bkE eA elc eB etc hE4.bk sE hG4 bkE_al)) (fun v H5 hv=> ?_);obtain⟨le5,g8,rfl,⟨ng8,lg8⟩,mg8⟩:=hv;rw[ex_heardE] at ng8 lg8;refine U6 ?_;have tl5:=View.le_trans tl4 le5;have hD5:=hD4.le le5;have hE5:=hE4.le le5;have hG5:=glob_le hG tl5;refine U ?_;refine Tc.db (R':= [(1,.pointer (some ⟨b1,0,none⟩)),(2,.pointer (some ⟨b2,0,none⟩)),(3,g3.val),(4,.int .i64 0),(5,g5.val),(6,.int .i64 2),(7,.int .i64 0),(8,g8.val),(9,.int .i64 0)]) (L':= [(b2,true,.cells ⟨(bkE.val eA elc eB etc).cells.toList⟩ 25 (0,0)),(b1,true,.cells ⟨(bkD.val dA dlc dB dtc).cells.toList⟩ 25 (0,0))]) ?_;refine U2 ?_;refine To.callF rfl rfl rfl rfl rfl rfl (by decide) (FnT.h (Reaches_c _ H5 bkE eA elc eB etc hE5.bk sE hG5 bkE_al)) (fun v H6 hv=> ?_);obtain⟨le6,g10,rfl,⟨ng10,lg10⟩,mg10⟩:=hv;rw[ex_clE.2];refine U8 ?_;have tl6:=View.le_trans tl5 le6;have hD6:=hD5.le le6;have hE6:=hE5.le le6;have hG6:=glob_le hG tl6;refine U ?_;refine Tc.db (R':= [(1,.pointer (some ⟨b1,0,none⟩)),(2,.pointer (some ⟨b2,0,none⟩)),(3,g3.val),(4,.int .i64 0),(5,g5.val),(6,.int .i64 2),(7,.int .i64 0),(8,g8.val),(9,.int .i64 0),(10,g10.val),(11,.int .i64 0),(12,.int .i64 0)]) (L':= [(b2,true,.cells ⟨(bkE.val eA elc eB etc).cells.toList⟩ 25 (0,0)),(b1,true,.cells ⟨(bkD.val dA dlc dB dtc).cells.toList⟩ 25 (0,0))]) ?_;have fl6:=fun(H':View) (p1 p2:Nat) (h':H6.le H') (k1:H' p1=some (true,.cells ⟨intsL [1,1,2]⟩ 3 (0,0))) (k2:H' p2=some (true,.cells ⟨intsL [3,9,9]⟩ 3 (0,0)))=> isV (Follow_c (Mp prog) H' bkE eA elc eB etc (hE6.bk.le h') sE (glob_le hG6 h') (some ⟨p1,0,none⟩) (some ⟨p2,0,none⟩) 3 3 3 3 (exAt [1,1,2]) (exAt [3,9,9]) (ints_lit [1,1,2] k1) (ints_lit [3,9,9] k2)) ex_follow1;refine U2 ?_;refine .e (.bs (zz:=fun p1=> ?_));refine .e (.bs (zz:=fun p2=> ?_));refine .c rfl rfl rfl rfl (fun H hs=> .h (fl6 H p1 p2 hs.base (hs.get (i:=1) rfl) (hs.get (i:=0) rfl))) ?_;refine U9 ?_;refine Tc.db (R':= [(1,.pointer (some ⟨b1,0,none⟩)),(2,.pointer (some ⟨b2,0,none⟩)),(3,g3.val),(4,.int .i64 0),(5,g5.val),(6,.int .i64 2),(7,.int .i64 0),(8,g8.val),(9,.int .i64 0),(10,g10.val),(11,.int .i64 0),(12,.int .i64 0),(13,strV [50,50]),(14,.int .i64 2),(15,.int .i64 0)]) (L':= [(b2,true,.cells ⟨(bkE.val eA elc eB etc).cells.toList⟩ 25 (0,0)),(b1,true,.cells ⟨(bkD.val dA dlc dB dtc).cells.toList⟩ 25 (0,0))]) ?_;have fl7:=fun(H':View) (p1 p2:Nat) (h':H6.le H') (k1:H' p1=some (true,.cells ⟨intsL [1,1,2]⟩ 3 (0,0))) (k2:H' p2=some (true,.cells ⟨intsL [5,9,9]⟩ 3 (0,0)))=> isV (Follow_c (Mp prog) H' bkE eA elc eB etc (hE6.bk.le h') sE (glob_le hG6 h') (some ⟨p1,0,none⟩) (some ⟨p2,0,none⟩) 3 3 3 3 (exAt [1,1,2]) (exAt [5,9,9]) (ints_lit [1,1,2] k1) (ints_lit [5,9,9] k2)) ex_follow2;refine U2 ?_;refine .e (.bs (zz:=fun p1=> ?_));refine .e (.bs (zz:=fun p2=> ?_));refine .c rfl rfl rfl rfl (fun H hs=> .h (fl7 H p1 p2 hs.base (hs.get (i:=1) rfl) (hs.get (i:=0) rfl))) ?_;refine U9 ?_;refine Tc.db (R':= [(1,.pointer (some ⟨b1,0,none⟩)),(2,.pointer (some ⟨b2,0,none⟩)),(3,g3.val),(4,.int .i64 0),(5,g5.val),(6,.int .i64 2),(7,.int .i64 0),(8,g8.val),(9,.int .i64 0),(10,g10.val),(11,.int .i64 0),(12,.int .i64 0),(13,strV [50,50]),(14,.int .i64 2),(15,.int .i64 0),(16,strV [49,49,50]),(17,.int .i64 (-1)),(18,.int .i64 0)]) (L':= [(b2,true,.cells ⟨(bkE.val eA elc eB etc).cells.toList⟩ 25 (0,0)),(b1,true,.cells ⟨(bkD.val dA dlc dB dtc).cells.toList⟩ 25 (0,0))]) ?_;refine U2 ?_;refine .c rfl rfl rfl rfl (fun H hs=> .h (isV (Look_c H bkD dA dlc dB dtc dF dfc (hD6.le hs.base) sD (glob_le hG6 hs.base) bkD_al) (congrArg lookV ex_look))) ?_;refine U9 ?_;refine Tc.db (R':= [(1,.pointer (some ⟨b1,0,none⟩)),(2,.pointer (some ⟨b2,0,none⟩)),(3,g3.val),(4,.int .i64 0),(5,g5.val),(6,.int .i64 2),(7,.int .i64 0),(8,g8.val),(9,.int .i64 0),(10,g10.val),(11,.int .i64 0),(12,.int .i64 0),(13,strV [50,50]),(14,.int .i64 2),(15,.int .i64 0),(16,strV [49,49,50]),(17,.int .i64 (-1)),(18,.int .i64 0),(19,.int .i64 1),(20,.int .i64 1),(21,.int .i64 0)]) (L':= [(b2,true,.cells ⟨(bkE.val eA elc eB etc).cells.toList⟩ 25 (0,0)),(b1,true,.cells ⟨(bkD.val dA dlc dB dtc).cells.toList⟩ 25 (0,0))]) ?_;refine U2 ?_;refine .c rfl rfl rfl rfl (fun H hs=> .h (isV (Settled_c _ H bkD dA dlc dB dtc (hD6.bk.le hs.base) sD (glob_le hG6 hs.base) bkD_al) (congrArg settledV ex_setD))) ?_;refine U11 ?_;refine Tc.db (R':= [(1,.pointer (some ⟨b1,0,none⟩)),(2,.pointer (some ⟨b2,0,none⟩)),(3,g3.val),(4,.int .i64 0),(5,g5.val),(6,.int .i64 2),(7,.int .i64 0),(8,g8.val),(9,.int .i64 0),(10,g10.val),(11,.int .i64 0),(12,.int .i64 0),(13,strV [50,50]),(14,.int .i64 2),(15,.int .i64 0),(16,strV [49,49,50]),(17,.int .i64 (-1)),(18,.int .i64 0),(19,.int .i64 1),(20,.int .i64 1),(21,.int .i64 0),(22,.int .i64 0),(23,.int .i64 0),(24,.bool false),(25,.int .i64 0)]) (L':= [(b2,true,.cells ⟨(bkE.val eA elc eB etc).cells.toList⟩ 25 (0,0)),(b1,true,.cells ⟨(bkD.val dA dlc dB dtc).cells.toList⟩ 25 (0,0))]) ?_;refine Tc.viaB (fun H' R' L'=> ∃oA olc oB otc oF ofc b26,H6.le H'∧BookAt H' bkO oA olc oB otc oF ofc∧AllIn [(1,.pointer (some ⟨b1,0,none⟩)),(2,.pointer (some ⟨b2,0,none⟩)),(3,g3.val),(4,.int .i64 0),(5,g5.val),(6,.int .i64 2),(7,.int .i64 0),(8,g8.val),(9,.int .i64 0),(10,g10.val),(11,.int .i64 0),(12,.int .i64 0),(13,strV [50,50]),(14,.int .i64 2),(15,.int .i64 0),(16,strV [49,49,50]),(17,.int .i64 (-1)),(18,.int .i64 0),(19,.int .i64 1),(20,.int .i64 1),(21,.int .i64 0),(22,.int .i64 0),(23,.int .i64 0),(24,.bool false),(25,.int .i64 0),(26,.pointer (some ⟨b26,0,none⟩)),(27,.int .i64 0)] R'∧List.Sublist [(b26,true,.cells ⟨(bkO.val oA olc oB otc).cells.toList⟩ 25 (0,0)),(b2,true,.cells ⟨(bkE.val eA elc eB etc).cells.toList⟩ 25 (0,0)),(b1,true,.cells ⟨(bkD.val dA dlc dB dtc).cells.toList⟩ 25 (0,0))] L') ?_ (fun fin=> ?_)
 rotate_left
 · refine Tc.dr [7] [] mixed rfl ?_;refine .q 0 rfl (OpV.load (E:=en) 1 rfl rfl rfl rfl rfl) ?_;refine .z 1 rfl (OpV.takeCall rfl rfl rfl rfl (fun H hs=> .h (train_c _ H 2 6))) ?_;refine Ta.callL2 2 6 (by kernel_rfl) rfl rfl rfl rfl rfl rfl rfl (by decide) (FnT.h (Know_c _ H6 bkD dA dlc dB dtc dF dfc hD6 sD hG6 bkD_al 1 (by decide) 2 2 6 6 ex_know.1 ex_know.2)) (by intro _ _ hh;exact hh.1) (by exact List.Sublist.refl _) (.inr (by exact List.Sublist.refl _)) (fun v Hk hv=> ?_) (TaOp.mk rfl rfl rfl (.al (zz:=fun b26=> ⟨S2.mk (by apply List.Sublist.cons;exact List.Sublist.refl _) (.inr (by apply List.Sublist.cons;exact List.Sublist.refl _)),?_⟩)))
   · obtain⟨lek,oA,olc,oB,otc,oF,ofc,rfl,hO⟩:=hv;refine .nn 3 ?_;refine .nn 4 ?_;refine .nw 5 ?_;refine Ta.each [6] (by kernel_rfl) rfl ⟨TaOp.mk rfl rfl rfl (.al (zz:=fun b26=> ⟨S2.mkL lek (by apply List.Sublist.cons;exact List.Sublist.refl _) (.inr (by apply List.Sublist.cons;exact List.Sublist.refl _)),?_⟩)),trivial⟩;refine Ta.each [7] (by kernel_rfl) rfl ⟨TaOp.mk rfl rfl rfl (Or.storeT (E:=en) 0 rfl rfl rfl rfl rfl rfl rfl rfl rfl rfl rfl ⟨S2.mkL lek (by apply List.Sublist.cons;exact List.Sublist.refl _) (.inl (by kernel_rfl)),?_⟩),trivial⟩;refine .nw 8 ?_;refine .dn ?_;exact fin _ _ _ ⟨oA,olc,oB,otc,oF,ofc,b26,lek,hO,⟨rfl,rfl,rfl,rfl,rfl,rfl,rfl,rfl,rfl,rfl,rfl,rfl,rfl,rfl,rfl,rfl,rfl,rfl,rfl,rfl,rfl,rfl,rfl,rfl,rfl,rfl,rfl,trivial⟩,(by exact List.Sublist.refl _)⟩
   · refine Ta.callL 2 (by kernel_rfl) rfl rfl rfl rfl rfl rfl rfl (by decide) (FnT.h (Know_c _ H6 bkD dA dlc dB dtc dF dfc hD6 sD hG6 bkD_al 1 (by decide) 2 2 6 6 ex_know.1 ex_know.2)) (by intro _ _ hh;exact hh.1) (by apply List.Sublist.cons;exact List.Sublist.refl _) (.inr (by apply List.Sublist.cons;exact List.Sublist.refl _)) (fun v Hk hv=> ?_);obtain⟨lek,oA,olc,oB,otc,oF,ofc,rfl,hO⟩:=hv;refine .nn 3 ?_;refine .nn 4 ?_;refine .nw 5 ?_;refine Ta.each [7] (by kernel_rfl) rfl ⟨TaOp.mk rfl rfl rfl (Or.storeT (E:=en) 0 rfl rfl rfl rfl rfl rfl rfl rfl rfl rfl rfl ⟨S2.mkL lek (by apply List.Sublist.cons;exact List.Sublist.refl _) (.inl (by kernel_rfl)),?_⟩),trivial⟩;refine .nw 8 ?_;refine .dn ?_;exact fin _ _ _ ⟨oA,olc,oB,otc,oF,ofc,b26,lek,hO,⟨rfl,rfl,rfl,rfl,rfl,rfl,rfl,rfl,rfl,rfl,rfl,rfl,rfl,rfl,rfl,rfl,rfl,rfl,rfl,rfl,rfl,rfl,rfl,rfl,rfl,rfl,rfl,trivial⟩,(by exact List.Sublist.refl _)⟩
 rintro H7 R' L' ⟨oA,olc,oB,otc,oF,ofc,b26,le7,hO7,hR,hL⟩;have tl7:=View.le_trans tl6 le7;have hD7:=hD6.le le7;have hE7:=hE6.le le7;have hG7:=glob_le hG tl7;refine Tc.dropB (R':= [(1,.pointer (some ⟨b1,0,none⟩)),(2,.pointer (some ⟨b2,0,none⟩)),(3,g3.val),(4,.int .i64 0),(5,g5.val),(6,.int .i64 2),(7,.int .i64 0),(8,g8.val),(9,.int .i64 0),(10,g10.val),(11,.int .i64 0),(12,.int .i64 0),(13,strV [50,50]),(14,.int .i64 2),(15,.int .i64 0),(16,strV [49,49,50]),(17,.int .i64 (-1)),(18,.int .i64 0),(19,.int .i64 1),(20,.int .i64 1),(21,.int .i64 0),(22,.int .i64 0),(23,.int .i64 0),(24,.bool false),(25,.int .i64 0),(26,.pointer (some ⟨b26,0,none⟩)),(27,.int .i64 0)]) (L':= [(b26,true,.cells ⟨(bkO.val oA olc oB otc).cells.toList⟩ 25 (0,0)),(b2,true,.cells ⟨(bkE.val eA elc eB etc).cells.toList⟩ 25 (0,0)),(b1,true,.cells ⟨(bkD.val dA dlc dB dtc).cells.toList⟩ 25 (0,0))]) ?_ hR hL;refine U3 ?_;refine .c rfl rfl rfl rfl (fun H hs=> .h (isV (Settled_c _ H bkO oA olc oB otc (hO7.bk.le hs.base) sO (glob_le hG7 hs.base) bkO_al) (congrArg settledV ex_setO))) ?_;refine U11 ?_;refine Tc.db (R':= [(1,.pointer (some ⟨b1,0,none⟩)),(2,.pointer (some ⟨b2,0,none⟩)),(3,g3.val),(4,.int .i64 0),(5,g5.val),(6,.int .i64 2),(7,.int .i64 0),(8,g8.val),(9,.int .i64 0),(10,g10.val),(11,.int .i64 0),(12,.int .i64 0),(13,strV [50,50]),(14,.int .i64 2),(15,.int .i64 0),(16,strV [49,49,50]),(17,.int .i64 (-1)),(18,.int .i64 0),(19,.int .i64 1),(20,.int .i64 1),(21,.int .i64 0),(22,.int .i64 0),(23,.int .i64 0),(24,.bool false),(25,.int .i64 0),(26,.pointer (some ⟨b26,0,none⟩)),(27,.int .i64 0),(28,.int .i64 2),(29,.int .i64 0),(30,.bool true),(31,.int .i64 0)]) (L':= [(b26,true,.cells ⟨(bkO.val oA olc oB otc).cells.toList⟩ 25 (0,0)),(b2,true,.cells ⟨(bkE.val eA elc eB etc).cells.toList⟩ 25 (0,0)),(b1,true,.cells ⟨(bkD.val dA dlc dB dtc).cells.toList⟩ 25 (0,0))]) ?_;have e2:bkD.needTo 1 (bkD.nf 1)=2:=ex_taken.2;refine U2 ?_;refine To.callF rfl rfl rfl rfl rfl rfl (by decide) (FnT.h (Taken_c _ H7 bkD dA dlc dB dtc hD7.bk sD hG7 bkD_al 1 (by decide))) (fun v H8 hv=> ?_);obtain⟨le8,g32,rfl,⟨ng32,lg32⟩,mg32⟩:=hv;rw[e2];refine U8 ?_;have tl8:=View.le_trans tl7 le8;have hD8:=hD7.le le8;have hE8:=hE7.le le8;have hO8:=hO7.le le8;have hG8:=glob_le hG tl8;refine U ?_;refine Tc.db (R':= [(1,.pointer (some ⟨b1,0,none⟩)),(2,.pointer (some ⟨b2,0,none⟩)),(3,g3.val),(4,.int .i64 0),(5,g5.val),(6,.int .i64 2),(7,.int .i64 0),(8,g8.val),(9,.int .i64 0),(10,g10.val),(11,.int .i64 0),(12,.int .i64 0),(13,strV [50,50]),(14,.int .i64 2),(15,.int .i64 0),(16,strV [49,49,50]),(17,.int .i64 (-1)),(18,.int .i64 0),(19,.int .i64 1),(20,.int .i64 1),(21,.int .i64 0),(22,.int .i64 0),(23,.int .i64 0),(24,.bool false),(25,.int .i64 0),(26,.pointer (some ⟨b26,0,none⟩)),(27,.int .i64 0),(28,.int .i64 2),(29,.int .i64 0),(30,.bool true),(31,.int .i64 0),(32,g32.val),(33,.int .i64 2),(34,.int .i64 0)]) (L':= [(b26,true,.cells ⟨(bkO.val oA olc oB otc).cells.toList⟩ 25 (0,0)),(b2,true,.cells ⟨(bkE.val eA elc eB etc).cells.toList⟩ 25 (0,0)),(b1,true,.cells ⟨(bkD.val dA dlc dB dtc).cells.toList⟩ 25 (0,0))]) ?_;refine U2 ?_;refine To.callF rfl rfl rfl rfl rfl rfl (by decide) (FnT.h (Slips_c _ H8 bkD dA dlc dB dtc hD8.bk sD hG8 bkD_al 0 (by decide))) (fun v H9 hv=> ?_);obtain⟨le9,g35,sm,rfl,⟨st1,st2⟩,⟨ng35,lg35⟩,mg35⟩:=hv;have e35:ddTo sm sm.length= [1,2]:=by rw[st1.len,ints_asc rfl st1 st2];exact ex_slips
 rw[e35] at ng35 lg35;refine U6 ?_;have tl9:=View.le_trans tl8 le9;have hD9:=hD8.le le9;have hE9:=hE8.le le9;have hO9:=hO8.le le9;have hG9:=glob_le hG tl9;refine U ?_;refine Tc.db (R':= [(1,.pointer (some ⟨b1,0,none⟩)),(2,.pointer (some ⟨b2,0,none⟩)),(3,g3.val),(4,.int .i64 0),(5,g5.val),(6,.int .i64 2),(7,.int .i64 0),(8,g8.val),(9,.int .i64 0),(10,g10.val),(11,.int .i64 0),(12,.int .i64 0),(13,strV [50,50]),(14,.int .i64 2),(15,.int .i64 0),(16,strV [49,49,50]),(17,.int .i64 (-1)),(18,.int .i64 0),(19,.int .i64 1),(20,.int .i64 1),(21,.int .i64 0),(22,.int .i64 0),(23,.int .i64 0),(24,.bool false),(25,.int .i64 0),(26,.pointer (some ⟨b26,0,none⟩)),(27,.int .i64 0),(28,.int .i64 2),(29,.int .i64 0),(30,.bool true),(31,.int .i64 0),(32,g32.val),(33,.int .i64 2),(34,.int .i64 0),(35,g35.val),(36,.int .i64 0)]) (L':= [(b26,true,.cells ⟨(bkO.val oA olc oB otc).cells.toList⟩ 25 (0,0)),(b2,true,.cells ⟨(bkE.val eA elc eB etc).cells.toList⟩ 25 (0,0)),(b1,true,.cells ⟨(bkD.val dA dlc dB dtc).cells.toList⟩ 25 (0,0))]) ?_;refine U2 ?_;refine .c rfl rfl rfl rfl (fun H hs=> .h (isV (Safe_c _ H bkD dA dlc dB dtc (hD9.bk.le hs.base) sD (glob_le hG9 hs.base) [51] (by decide)) ex_safe3)) ?_;refine U7 ?_;refine Tc.db (R':= [(1,.pointer (some ⟨b1,0,none⟩)),(2,.pointer (some ⟨b2,0,none⟩)),(3,g3.val),(4,.int .i64 0),(5,g5.val),(6,.int .i64 2),(7,.int .i64 0),(8,g8.val),(9,.int .i64 0),(10,g10.val),(11,.int .i64 0),(12,.int .i64 0),(13,strV [50,50]),(14,.int .i64 2),(15,.int .i64 0),(16,strV [49,49,50]),(17,.int .i64 (-1)),(18,.int .i64 0),(19,.int .i64 1),(20,.int .i64 1),(21,.int .i64 0),(22,.int .i64 0),(23,.int .i64 0),(24,.bool false),(25,.int .i64 0),(26,.pointer (some ⟨b26,0,none⟩)),(27,.int .i64 0),(28,.int .i64 2),(29,.int .i64 0),(30,.bool true),(31,.int .i64 0),(32,g32.val),(33,.int .i64 2),(34,.int .i64 0),(35,g35.val),(36,.int .i64 0),(37,.bool false),(38,.int .i64 0)]) (L':= [(b26,true,.cells ⟨(bkO.val oA olc oB otc).cells.toList⟩ 25 (0,0)),(b2,true,.cells ⟨(bkE.val eA elc eB etc).cells.toList⟩ 25 (0,0)),(b1,true,.cells ⟨(bkD.val dA dlc dB dtc).cells.toList⟩ 25 (0,0))]) ?_;refine U2 ?_;refine .c rfl rfl rfl rfl (fun H hs=> .h (isV (Safe_c _ H bkD dA dlc dB dtc (hD9.bk.le hs.base) sD (glob_le hG9 hs.base) [53] (by decide)) ex_safe5)) ?_;refine U7 ?_;refine Tc.db (R':= [(1,.pointer (some ⟨b1,0,none⟩)),(2,.pointer (some ⟨b2,0,none⟩)),(3,g3.val),(4,.int .i64 0),(5,g5.val),(6,.int .i64 2),(7,.int .i64 0),(8,g8.val),(9,.int .i64 0),(10,g10.val),(11,.int .i64 0),(12,.int .i64 0),(13,strV [50,50]),(14,.int .i64 2),(15,.int .i64 0),(16,strV [49,49,50]),(17,.int .i64 (-1)),(18,.int .i64 0),(19,.int .i64 1),(20,.int .i64 1),(21,.int .i64 0),(22,.int .i64 0),(23,.int .i64 0),(24,.bool false),(25,.int .i64 0),(26,.pointer (some ⟨b26,0,none⟩)),(27,.int .i64 0),(28,.int .i64 2),(29,.int .i64 0),(30,.bool true),(31,.int .i64 0),(32,g32.val),(33,.int .i64 2),(34,.int .i64 0),(35,g35.val),(36,.int .i64 0),(37,.bool false),(38,.int .i64 0),(39,.bool true),(40,.int .i64 0)]) (L':= [(b26,true,.cells ⟨(bkO.val oA olc oB otc).cells.toList⟩ 25 (0,0)),(b2,true,.cells ⟨(bkE.val eA elc eB etc).cells.toList⟩ 25 (0,0)),(b1,true,.cells ⟨(bkD.val dA dlc dB dtc).cells.toList⟩ 25 (0,0))]) ?_;refine U2 ?_;refine .c rfl rfl rfl rfl (fun H hs=> .h (isV (Spare_c _ H bkD dA dlc dB dtc (hD9.bk.le hs.base) sD (glob_le hG9 hs.base) 1 true) ex_spare)) ?_;refine U9 ?_;refine Tc.db (R':= [(1,.pointer (some ⟨b1,0,none⟩)),(2,.pointer (some ⟨b2,0,none⟩)),(3,g3.val),(4,.int .i64 0),(5,g5.val),(6,.int .i64 2),(7,.int .i64 0),(8,g8.val),(9,.int .i64 0),(10,g10.val),(11,.int .i64 0),(12,.int .i64 0),(13,strV [50,50]),(14,.int .i64 2),(15,.int .i64 0),(16,strV [49,49,50]),(17,.int .i64 (-1)),(18,.int .i64 0),(19,.int .i64 1),(20,.int .i64 1),(21,.int .i64 0),(22,.int .i64 0),(23,.int .i64 0),(24,.bool false),(25,.int .i64 0),(26,.pointer (some ⟨b26,0,none⟩)),(27,.int .i64 0),(28,.int .i64 2),(29,.int .i64 0),(30,.bool true),(31,.int .i64 0),(32,g32.val),(33,.int .i64 2),(34,.int .i64 0),(35,g35.val),(36,.int .i64 0),(37,.bool false),(38,.int .i64 0),(39,.bool true),(40,.int .i64 0),(41,strV [48]),(42,.bool true),(43,.int .i64 0)]) (L':= [(b26,true,.cells ⟨(bkO.val oA olc oB otc).cells.toList⟩ 25 (0,0)),(b2,true,.cells ⟨(bkE.val eA elc eB etc).cells.toList⟩ 25 (0,0)),(b1,true,.cells ⟨(bkD.val dA dlc dB dtc).cells.toList⟩ 25 (0,0))]) ?_;refine U ?_;refine .c rfl rfl rfl rfl (fun H hs=> .h (isV (Pulses_c _ H [49,50,48] (by decide)) ex_pulses)) ?_;refine U7 ?_;refine Tc.db (R':= [(1,.pointer (some ⟨b1,0,none⟩)),(2,.pointer (some ⟨b2,0,none⟩)),(3,g3.val),(4,.int .i64 0),(5,g5.val),(6,.int .i64 2),(7,.int .i64 0),(8,g8.val),(9,.int .i64 0),(10,g10.val),(11,.int .i64 0),(12,.int .i64 0),(13,strV [50,50]),(14,.int .i64 2),(15,.int .i64 0),(16,strV [49,49,50]),(17,.int .i64 (-1)),(18,.int .i64 0),(19,.int .i64 1),(20,.int .i64 1),(21,.int .i64 0),(22,.int .i64 0),(23,.int .i64 0),(24,.bool false),(25,.int .i64 0),(26,.pointer (some ⟨b26,0,none⟩)),(27,.int .i64 0),(28,.int .i64 2),(29,.int .i64 0),(30,.bool true),(31,.int .i64 0),(32,g32.val),(33,.int .i64 2),(34,.int .i64 0),(35,g35.val),(36,.int .i64 0),(37,.bool false),(38,.int .i64 0),(39,.bool true),(40,.int .i64 0),(41,strV [48]),(42,.bool true),(43,.int .i64 0),(44,.int .i64 13),(45,.int .i64 0)]) (L':= [(b26,true,.cells ⟨(bkO.val oA olc oB otc).cells.toList⟩ 25 (0,0)),(b2,true,.cells ⟨(bkE.val eA elc eB etc).cells.toList⟩ 25 (0,0)),(b1,true,.cells ⟨(bkD.val dA dlc dB dtc).cells.toList⟩ 25 (0,0))]) ?_;refine U ?_;refine .e (.bs (zz:=fun bw=> ?_));refine To.permL2 (L₁:= [(b26,true,.cells ⟨(bkO.val oA olc oB otc).cells.toList⟩ 25 (0,0)),(b2,true,.cells ⟨(bkE.val eA elc eB etc).cells.toList⟩ 25 (0,0)),(b1,true,.cells ⟨(bkD.val dA dlc dB dtc).cells.toList⟩ 25 (0,0))]++[(bw,true,.cells ⟨intsL [5,3,1]⟩ 3 (0,0))]) (by exact List.perm_append_comm) ?_;refine To.lift (L₂:= [(b26,true,.cells ⟨(bkO.val oA olc oB otc).cells.toList⟩ 25 (0,0)),(b2,true,.cells ⟨(bkE.val eA elc eB etc).cells.toList⟩ 25 (0,0)),(b1,true,.cells ⟨(bkD.val dA dlc dB dtc).cells.toList⟩ 25 (0,0))]) (L₁:= [(bw,true,.cells ⟨intsL [5,3,1]⟩ 3 (0,0))]) rfl (fun H10 hw=> ?_);have le10:=hw.base;have tl10:=View.le_trans tl9 le10;have hD10:=hD9.le le10;have hE10:=hE9.le le10;have hO10:=hO9.le le10;have hG10:=glob_le hG tl10;obtain⟨xc1,xc2,xc3,xc4,xc5⟩:=ex_cheap;have al5:(cheap (exAt [5,3,1]) 3 2 2).al=0:=by unfold ChSt.al;rw[xc4];rfl
 refine To.callF rfl rfl rfl rfl rfl rfl (by decide) (FnT.h (Cheapest_c _ H10 (some ⟨bw,0,none⟩) 3 3 (exAt [5,3,1]) (ints_lit [5,3,1] (hw.get (i:=0) rfl)) 2 2 (by decide) xc2 (by decide) (by decide))) (fun v H11 hv=> ?_);obtain⟨le11,ca,cn,cc,rfl,cn1,cs1⟩:=hv;rw[xc5] at cn1 cs1;rw[xc3,al5];refine U8 ?_;have tl11:=View.le_trans tl10 le11;have hD11:=hD10.le le11;have hE11:=hE10.le le11;have hO11:=hO10.le le11;have hG11:=glob_le hG tl11;refine U2 ?_;refine Tc.dropB (R':= [(1,.pointer (some ⟨b1,0,none⟩)),(2,.pointer (some ⟨b2,0,none⟩)),(3,g3.val),(4,.int .i64 0),(5,g5.val),(6,.int .i64 2),(7,.int .i64 0),(8,g8.val),(9,.int .i64 0),(10,g10.val),(11,.int .i64 0),(12,.int .i64 0),(13,strV [50,50]),(14,.int .i64 2),(15,.int .i64 0),(16,strV [49,49,50]),(17,.int .i64 (-1)),(18,.int .i64 0),(19,.int .i64 1),(20,.int .i64 1),(21,.int .i64 0),(22,.int .i64 0),(23,.int .i64 0),(24,.bool false),(25,.int .i64 0),(26,.pointer (some ⟨b26,0,none⟩)),(27,.int .i64 0),(28,.int .i64 2),(29,.int .i64 0),(30,.bool true),(31,.int .i64 0),(32,g32.val),(33,.int .i64 2),(34,.int .i64 0),(35,g35.val),(36,.int .i64 0),(37,.bool false),(38,.int .i64 0),(39,.bool true),(40,.int .i64 0),(41,strV [48]),(42,.bool true),(43,.int .i64 0),(44,.int .i64 13),(45,.int .i64 0),(46,.slice ca cn cc),(47,.int .i64 18),(48,.int .i64 0)]) (L':= [(b26,true,.cells ⟨(bkO.val oA olc oB otc).cells.toList⟩ 25 (0,0)),(b2,true,.cells ⟨(bkE.val eA elc eB etc).cells.toList⟩ 25 (0,0)),(b1,true,.cells ⟨(bkD.val dA dlc dB dtc).cells.toList⟩ 25 (0,0))]) ?_ ⟨rfl,rfl,rfl,rfl,rfl,rfl,rfl,rfl,rfl,rfl,rfl,rfl,rfl,rfl,rfl,rfl,rfl,rfl,rfl,rfl,rfl,rfl,rfl,rfl,rfl,rfl,rfl,rfl,rfl,rfl,rfl,rfl,rfl,rfl,rfl,rfl,rfl,rfl,rfl,rfl,rfl,rfl,rfl,rfl,rfl,rfl,rfl,rfl,trivial⟩ (by exact List.Sublist.refl _);(iterate 72 refine U ?_);refine Tc.db (R':= [(1,.pointer (some ⟨b1,0,none⟩)),(2,.pointer (some ⟨b2,0,none⟩)),(3,g3.val),(4,.int .i64 0),(5,g5.val),(6,.int .i64 2),(7,.int .i64 0),(8,g8.val),(9,.int .i64 0),(10,g10.val),(11,.int .i64 0),(12,.int .i64 0),(13,strV [50,50]),(14,.int .i64 2),(15,.int .i64 0),(16,strV [49,49,50]),(17,.int .i64 (-1)),(18,.int .i64 0),(19,.int .i64 1),(20,.int .i64 1),(21,.int .i64 0),(22,.int .i64 0),(23,.int .i64 0),(24,.bool false),(25,.int .i64 0),(26,.pointer (some ⟨b26,0,none⟩)),(27,.int .i64 0),(28,.int .i64 2),(29,.int .i64 0),(30,.bool true),(31,.int .i64 0),(32,g32.val),(33,.int .i64 2),(34,.int .i64 0),(35,g35.val),(36,.int .i64 0),(37,.bool false),(38,.int .i64 0),(39,.bool true),(40,.int .i64 0),(41,strV [48]),(42,.bool true),(43,.int .i64 0),(44,.int .i64 13),(45,.int .i64 0),(46,.slice ca cn cc),(47,.int .i64 18),(48,.int .i64 0)]) (L':= [(b26,true,.cells ⟨(bkO.val oA olc oB otc).cells.toList⟩ 25 (0,0)),(b2,true,.cells ⟨(bkE.val eA elc eB etc).cells.toList⟩ 25 (0,0)),(b1,true,.cells ⟨(bkD.val dA dlc dB dtc).cells.toList⟩ 25 (0,0))]) ?_;have up:∀ {A B C:View},A.le B→B.le C→A.le C:=View.le_trans;have w3:=fun(H':View) (h':H11.le H') (bs:Nat) (k1:H' bs=some (true,.cells ⟨strsV [[49,50],[49,51]]⟩ 9 (0,0)))=> SameWords_c (Mp prog) H' (g3.blk.map fun b=> ⟨b,0,none⟩) (some ⟨bs,0,none⟩) g3.n ([[49,50],[49,51]]:List (List UInt8)).length g3.cap ([[49,50],[49,51]]:List (List UInt8)).length _ _ (strs_of (g0:=g3) g3 (fun x hx=> h' _ _ ((up (up (up (up (up (up (up le4 le5) le6) le7) le8) le9) le10) le11) _ _ (mg3 x hx).1)) lg3 rfl rfl) (strs_lit [[49,50],[49,51]] k1) (by rw[ng3];decide) (by decide) true (words_true [[49,50],[49,51]] ng3);have w8:=fun(H':View) (h':H11.le H') (bs:Nat) (k1:H' bs=some (true,.cells ⟨strsV [[49,49,50],[50,50]]⟩ 9 (0,0)))=> SameWords_c (Mp prog) H' (g8.blk.map fun b=> ⟨b,0,none⟩) (some ⟨bs,0,none⟩) g8.n ([[49,49,50],[50,50]]:List (List UInt8)).length g8.cap ([[49,49,50],[50,50]]:List (List UInt8)).length _ _ (strs_of (g0:=g8) g8 (fun x hx=> h' _ _ ((up (up (up (up (up le6 le7) le8) le9) le10) le11) _ _ (mg8 x hx).1)) lg8 rfl rfl) (strs_lit [[49,49,50],[50,50]] k1) (by rw[ng8];decide) (by decide) true (words_true [[49,49,50],[50,50]] ng8);have c5:=fun(H':View) (h':H11.le H') (bs:Nat) (k1:H' bs=some (true,.cells ⟨intsL [0,0,2]⟩ 38 (0,0)))=> claims_c (Mp prog) H' (g5.blk.map fun b=> ⟨b,0,none⟩) (some ⟨bs,0,none⟩) g5.n ([0,0,2]:List Int).length g5.cap ([0,0,2]:List Int).length (fun i=> bkD.claimOf (i:Nat)) _ (by rw[ng5];exact cl_at g5 (fun x hx=> h' _ _ ((up (up (up (up (up (up le5 le6) le7) le8) le9) le10) le11) _ _ (mg5 x hx).1)) lg5 ng5) (ints_lit [0,0,2] k1) (by rw[ng5];decide) (by decide) true (by rw[ng5];rw[decide_eq_true (by rfl)];show(true&&allB _ 3)=true;rw[(allB_iff _).2 (three (decide_eq_true ex_clD.1.1) (decide_eq_true ex_clD.1.2.1) (decide_eq_true ex_clD.1.2.2))];rfl);have c10:=fun(H':View) (h':H11.le H') (bs:Nat) (k1:H' bs=some (true,.cells ⟨intsL [2,2,0]⟩ 38 (0,0)))=> claims_c (Mp prog) H' (g10.blk.map fun b=> ⟨b,0,none⟩) (some ⟨bs,0,none⟩) g10.n ([2,2,0]:List Int).length g10.cap ([2,2,0]:List Int).length (fun i=> bkE.claimOf (i:Nat)) _ (by rw[ng10];exact cl_at g10 (fun x hx=> h' _ _ ((up (up (up (up le7 le8) le9) le10) le11) _ _ (mg10 x hx).1)) lg10 ng10) (ints_lit [2,2,0] k1) (by rw[ng10];decide) (by decide) true (by rw[ng10];rw[decide_eq_true (by rfl)];show(true&&allB _ 3)=true;rw[(allB_iff _).2 (three (decide_eq_true ex_clE.1.1) (decide_eq_true ex_clE.1.2.1) (decide_eq_true ex_clE.1.2.2))];rfl);refine U2 ?_;refine .e (.bs (zz:=fun x1=> ?_));refine .c rfl rfl rfl rfl (fun H hs=> .h (w3 H hs.base x1 (hs.get (i:=0) rfl))) ?_;refine U3 ?_;refine .e (.bs (zz:=fun x2=> ?_));refine .c rfl rfl rfl rfl (fun H hs=> .h (c5 H hs.base x2 (hs.get (i:=0) rfl))) ?_;refine U8 ?_;refine .e (.bs (zz:=fun x3=> ?_));refine .c rfl rfl rfl rfl (fun H hs=> .h (w8 H hs.base x3 (hs.get (i:=0) rfl))) ?_;refine U4 ?_;refine .e (.bs (zz:=fun x4=> ?_));refine .c rfl rfl rfl rfl (fun H hs=> .h (c10 H hs.base x4 (hs.get (i:=0) rfl))) ?_;refine U37 ?_;refine Tc.db (R':= [(1,.pointer (some ⟨b1,0,none⟩)),(2,.pointer (some ⟨b2,0,none⟩)),(3,g3.val),(4,.int .i64 0),(5,g5.val),(6,.int .i64 2),(7,.int .i64 0),(8,g8.val),(9,.int .i64 0),(10,g10.val),(11,.int .i64 0),(12,.int .i64 0),(13,strV [50,50]),(14,.int .i64 2),(15,.int .i64 0),(16,strV [49,49,50]),(17,.int .i64 (-1)),(18,.int .i64 0),(19,.int .i64 1),(20,.int .i64 1),(21,.int .i64 0),(22,.int .i64 0),(23,.int .i64 0),(24,.bool false),(25,.int .i64 0),(26,.pointer (some ⟨b26,0,none⟩)),(27,.int .i64 0),(28,.int .i64 2),(29,.int .i64 0),(30,.bool true),(31,.int .i64 0),(32,g32.val),(33,.int .i64 2),(34,.int .i64 0),(35,g35.val),(36,.int .i64 0),(37,.bool false),(38,.int .i64 0),(39,.bool true),(40,.int .i64 0),(41,strV [48]),(42,.bool true),(43,.int .i64 0),(44,.int .i64 13),(45,.int .i64 0),(46,.slice ca cn cc),(47,.int .i64 18),(48,.int .i64 0)]) (L':= [(b26,true,.cells ⟨(bkO.val oA olc oB otc).cells.toList⟩ 25 (0,0)),(b2,true,.cells ⟨(bkE.val eA elc eB etc).cells.toList⟩ 25 (0,0)),(b1,true,.cells ⟨(bkD.val dA dlc dB dtc).cells.toList⟩ 25 (0,0))]) ?_;have c32:=fun(H':View) (h':H11.le H') (bs:Nat) (k1:H' bs=some (true,.cells ⟨intsL [2,0]⟩ 38 (0,0)))=> claims_c (Mp prog) H' (g32.blk.map fun b=> ⟨b,0,none⟩) (some ⟨bs,0,none⟩) g32.n ([2,0]:List Int).length g32.cap ([2,0]:List Int).length (bkD.takenAt 1) _ (by rw[ng32];exact cl_at g32 (fun x hx=> h' _ _ ((up (up le9 le10) le11) _ _ (mg32 x hx).1)) lg32 ng32) (ints_lit [2,0] k1) (by rw[ng32];decide) (by decide) true (by rw[ng32];rw[decide_eq_true (by rfl)];show(true&&allB _ 2)=true;rw[(allB_iff _).2 (two (decide_eq_true ex_taken.1.1) (decide_eq_true ex_taken.1.2))];rfl);have n35:=fun(H':View) (h':H11.le H') (bs:Nat) (k1:H' bs=some (true,.cells ⟨intsL [1,2]⟩ 3 (0,0)))=> SameNums_eq (Mp prog) H' (g35.blk.map fun b=> ⟨b,0,none⟩) (some ⟨bs,0,none⟩) 2 g35.cap 2 (exAt [1,2]) (exAt [1,2]) (cl_at g35 (fun x hx=> h' _ _ ((up le10 le11) _ _ (mg35 x hx).1)) (lg35.trans (clL_ints _)) ng35) (ints_lit [1,2] k1) (by decide) (fun _ _=> rfl);have w46:=fun(H':View) (h':H11.le H') (bs:Nat) (k1:H' bs=some (true,.cells ⟨strsV [[49],[50,49],[50,50]]⟩ 9 (0,0)))=> SameWords_c (Mp prog) H' ca (some ⟨bs,0,none⟩) cn ([[49],[50,49],[50,50]]:List (List UInt8)).length cc ([[49],[50,49],[50,50]]:List (List UInt8)).length _ _ (strs_src (cs1.mono (View.le_trans (View.le_refl H11) h')) cn1) (strs_lit [[49],[50,49],[50,50]] k1) (by rw[cn1];decide) (by decide) true (words_true [[49],[50,49],[50,50]] cn1);rw[show g35.val=.slice (g35.blk.map fun b=> ⟨b,0,none⟩) 2 g35.cap by unfold Gl.val;rw[ng35];rfl];refine U12 ?_;refine .e (.bs (zz:=fun y1=> ?_));refine .c rfl rfl rfl rfl (fun H hs=> .h (c32 H hs.base y1 (hs.get (i:=0) rfl))) ?_;refine U7 ?_;refine .e (.bs (zz:=fun y2=> ?_));refine .c rfl rfl rfl rfl (fun H hs=> .h (n35 H hs.base y2 (hs.get (i:=0) rfl))) ?_;refine U18 ?_;refine .e (.bs (zz:=fun y3=> ?_));refine .c rfl rfl rfl rfl (fun H hs=> .h (w46 H hs.base y3 (hs.get (i:=0) rfl))) ?_;refine U7 ?_;refine .rt hK func18 results18 [_] ?_;exact fun H' hs=> ⟨View.le_trans tl11 hs.base,rfl⟩
set_option maxHeartbeats 16000000
section
variable(M:Md prog)(H:View)
end
end Go.Proofs.YtdnfdeplcjaonaaGreatDoor
namespace Go.RL
open Go.Conc
def bytesV(s:List UInt8):List Value:=s.map fun b=> .int .u8 (b.toNat:Nat)
section
variable {P:Program}{E:Env P}{M:Md P}{n:Nat}{H₀:View}{R:Rg}{L L':Bl}{K:Rg→Bl→Prop}{o:Oper}{d:Nat}{v:Value}
theorem bytes_push(a:List UInt8)(b:UInt8):(ByteArray.mk ⟨a⟩).push b=ByteArray.mk ⟨a++[b]⟩:=by
 apply ByteArray.ext
 apply Array.ext'
 simp
theorem vwp_bytesLoop {H:View}{Q:ByteArray→View→Prop}(F:Value→ByteArray→Sem (ForInStep ByteArray))(hF:∀(b:UInt8) acc,F (.int .u8 (b.toNat:Nat)) acc=Sem.pure (.yield (acc.push b))):∀(s a:List UInt8),Q ⟨⟨a++s⟩⟩ H→vwp P (forIn (bytesV s) (ByteArray.mk ⟨a⟩) F) H Q
 | [],a,h=> by
   rw[List.append_nil] at h;exact h
 | b::s,a,h=> by
   show vwp P (forIn (Value.int .u8 (b.toNat:Nat)::bytesV s) (ByteArray.mk ⟨a⟩) F) H Q;rw[List.forIn_cons];refine vwp_bind _ _ ?_;rw[hF];show vwp P (forIn (bytesV s) ((ByteArray.mk ⟨a⟩).push b) F) H Q;rw[bytes_push];refine vwp_bytesLoop F hF s (a++[b]) ?_;rw[List.append_assoc];exact h
theorem vwp_bytesToString {H:View}{Q:Value→View→Prop}{y:Value}{m:Nat}{s:List UInt8}(h:SrcAt H 1 y m (bytesV s))(hq:Q (strV s) H):vwp P (Conv.bytesToString y) H Q:=by
 obtain⟨_,hl,⟨a,c,rfl,he⟩|⟨b,off,c,f,cs,e,fz,rfl,hb,hle,ht⟩⟩:=h
 · have:s= []:=by cases s with
     | nil=> rfl
     | cons _ _=> cases he
   subst this;have hm:m=0:=by simpa [bytesV] using hl.symm
   subst hm;cases a with
   | none=> exact hq
   | some a=> exact hq
 · have hm:m=(bytesV s).length:=by rw[hl,Nat.mul_one]
   unfold Conv.bytesToString;show vwp P ((loadCellsFrom ⟨b,off,none⟩ 0 m #[]).bind _) H Q;refine vwp_bind _ _ (vwp_loadCells b off hb m 0 #[] (by rw[hm];omega) ?_);rw[hm,Nat.add_zero,ht];refine vwp_bind _ _ ?_;simp only[Array.empty_append,List.forIn_toArray];exact vwp_bytesLoop _ (fun b acc=> by
     show(pure (ForInStep.yield (acc.push (UInt8.ofNat ((b.toNat:Nat):Int).toNat))):Sem (ForInStep ByteArray))=Sem.pure (ForInStep.yield (acc.push b));rw[Int.toNat_natCast,UInt8.ofNat_toNat];rfl) s [] hq
theorem OpV.convB {t u e:TypeId}{x:Operand}{yv:Value}{m:Nat}{s:List UInt8}{r re r':TyRow}(hop:o.op=.convert t u x)(hx:evR R x=some yv)(hsrc:∀H,SymSt H₀ L H→SrcAt H 1 yv m (bytesV s))(ht:E.ty t=some r)(hr:r.ds=.slice e)(hte:E.ty e=some re)(hre:re.ds=.int .u8)(ht':E.ty u=some r')(hr':r'.ds=.str):
   OpV P n H₀ R L o (strV s):=fun H tmps hs hrr=> by
 unfold execOp;rw[hop];simp only[hrr.ev hx];have h1:=hsrc H hs;obtain⟨⟨a,c,rfl⟩,_⟩:=h1;refine vwp_bind (convert t u (.slice a m c)) _ ?_;unfold convert;refine vwp_bind (underlying t) _ (vwp_underlying (ds_slice ((E.ok _ _ ht).ds.trans hr)) (vwp_bind (underlying u) _ (vwp_underlying (ds_str ((E.ok _ _ ht').ds.trans hr')) ?_)));refine vwp_bind (underlying e) _ (vwp_underlying (ds_int ((E.ok _ _ hte).ds.trans hre)) ?_);exact vwp_bytesToString (hsrc H hs) ⟨rfl,rfl⟩
end
end Go.RL
namespace Go.Proofs.YtdnfdeplcjaonaaGreatDoor
open Go.RL Go.Proofs.Tryz
set_option maxRecDepth 10000
set_option maxHeartbeats 16000000
def PicksAt(H:View)(F:Option Addr)(n:Nat)(x:Nat→Nat):Prop:=
 n=0∨∃b o f gs gt gz,F=some ⟨b,o,none⟩∧H b=some (f,.cells ⟨gs⟩ gt gz)∧∀j:Nat,j<n→ldL false 1 gs (o+(j:Int).toNat*1)=some (.int .u16 (x j:Nat))∧x j<65536
theorem PicksAt.le {H H':View}{F:Option Addr}{n:Nat}{x:Nat→Nat}(h:PicksAt H F n x)(k:H.le H'):PicksAt H' F n x:=
 h.imp id fun⟨b,o,f,gs,gt,gz,h1,h2,h3⟩=> ⟨b,o,f,gs,gt,gz,h1,k _ _ h2,h3⟩
def choiceOf(n:Nat)(x:Nat→Nat)(i:Nat):Nat:=if i<n then x i else 0
section
variable(M:Md prog)(H:View)
theorem Choice_c(A:Option Addr)(n ac:Nat)(x:Nat→Nat)(hA:PicksAt H A n x)(i:Nat):
   CallT M 55 #[.slice A n ac,.int .i64 (i:Nat)] H (fun v H'=> H.le H'∧v=.int .i64 (choiceOf n x i:Nat)):=by
 by_cases c1:i<n
 · obtain h0|⟨ab,ao,f,gs,gt,gz,rfl,hb,hl⟩:=hA
   · omega
   obtain⟨f1,f2⟩:=hl i c1;have f3:IntKind.i64.wrap ((x i:Nat):Int)=((x i:Nat):Int):=wrap64 (by omega) (by omega);rw[show choiceOf n x i=x i from if_pos c1];refine .en func55 ntmps55 fun St c cs hK=> ?_;refine U27 ?_;refine .rt hK func55 results55 [_] ?_;exact okB
 · rw[show choiceOf n x i=0 from if_neg c1];refine .en func55 ntmps55 fun St c cs hK=> ?_;refine U21 ?_;refine .rt hK func55 results55 [_] ?_;exact okB
end
end Go.Proofs.YtdnfdeplcjaonaaGreatDoor
namespace Go.Proofs.YtdnfdeplcjaonaaGreatDoor
open Go.RL Go.Proofs.Tryz Go.ChangeShapes Go.WideShapes Go.ChangeAt Go.RowKit
set_option maxRecDepth 100000
section
variable {H:Type}{enc:TypeId×Value→H}{W:World}
theorem wf_u16 {n:Int}(h:(Lit.int .u16 n).wf=true):0≤n∧n≤65535:=by
 have e1:IntKind.u16.min=0:=by kernel_rfl
 have e2:IntKind.u16.max=65535:=by kernel_rfl
 simp only[Lit.wf,Bool.and_eq_true,decide_eq_true_eq,e1,e2] at h;omega
theorem trod_picks {n:Nat}{cs:List Value}{y:DataW H×List MemPlace}(h:DataW.trod enc prog W 0 (fun _=> true) true n 56 cs=some y):
   ∃(F:Option Addr) (m fc:Nat) (x:Nat→Nat),cs= [.slice F m fc]∧PicksAt (fullV W) F m x:=by
 rcases open_ints (by kernel_rfl:prog.underlying 56=some (.slice 73)) (by kernel_rfl:prog.underlying 73=some (.int .u16)) (by kernel_rfl:prog.cellsOf 73=1) h with ⟨h1,_⟩|⟨a',len,cap,zs,h1,_,h3,h4,h5,_,h7,h8⟩
 · exact⟨none,0,0,fun _=> 0,h1,.inl rfl⟩
 · simp only[if_true] at h5;refine⟨some a',len,cap,fun j=> (zs.getD j 0).toNat,h1,?_⟩;cases len with
   | zero=> exact .inl rfl
   | succ m=>
     obtain⟨ab,ao,spt⟩:=a';have h0:=h7 0 (by omega);have hsp:spt=none:=by simpa [Addr.add] using World.cell?_spot h0
     subst hsp;obtain⟨cs',gt,gz,e1,_⟩:=cells_of h0;have e1':W.heap[ab]? =some (.cells cs' gt gz):=by simpa [Addr.add] using e1
     refine .inr ⟨ab,ao,false,cs'.toList,gt,gz,rfl,by simp only[fullV,e1',Option.map_some],fun j hj=> ?_⟩;have hw:0≤zs.getD j 0∧zs.getD j 0≤65535:=by
       rw[List.getD_eq_getElem?_getD,List.getElem?_eq_getElem (by omega),Option.getD_some];exact wf_u16 (h8 _ (List.getElem_mem _))
     have h9:=h7 j (by omega);rw[add_at] at h9;obtain⟨cs2,gt',gz',e2,e3⟩:=cells_of h9;rw[e1'] at e2;cases e2
     refine⟨?_,by show(zs.getD j 0).toNat<65536;omega⟩;show cs'.toList[ao+(j:Int).toNat*1]? =some (.int .u16 (((zs.getD j 0).toNat:Nat):Int));rw[Int.toNat_natCast,Nat.mul_one,Array.getElem?_toList,e3,Int.toNat_of_nonneg hw.1]
theorem open_picks {base:Nat}{v:Value}(hv:Value.okWide prog W .any base 56 v)(h:∃d q,DataW.Trod enc prog W 0 (fun _=> true) true 56 v d q):
   ∃(F:Option Addr) (m fc:Nat) (x:Nat→Nat),v=.slice F m fc∧PicksAt (fullV W) F m x:=by
 have hv':∃F m fc,v=.slice F m fc:=by
   unfold Value.okWide Cell.okWide Cell.ok at hv;rw[show prog.underlying 56=some (.slice 73) by kernel_rfl] at hv;cases v with
   | slice a b c=> exact⟨a,b,c,rfl⟩
   | _=> exact hv.elim
 obtain⟨F0,m0,c0,rfl⟩:=hv';obtain⟨d,q,n,h⟩:=h;obtain⟨F,m,fc,x,hx,h1⟩:=trod_picks h;have hcs:(Value.slice F0 m0 c0).cells.toList= [.slice F0 m0 c0]:=rfl;rw[hcs] at hx;exact⟨F,m,fc,x,(List.cons.inj hx).1,h1⟩
end
end Go.Proofs.YtdnfdeplcjaonaaGreatDoor
namespace Go.Proofs.YtdnfdeplcjaonaaGreatDoor
open Go.RL Go.Proofs.Tryz
set_option maxRecDepth 10000
set_option maxHeartbeats 4000000
def wordsL(can:List (List UInt8)):Nat→List (List UInt8)→List (List (List UInt8))
 | 0,l=> [l]
 | d+1,l=> can.flatMap fun s=> if nearL l s then [] else wordsL can d (l++[s])
def costF(w:Nat→Int):Nat→List (List UInt8)→Int
 | _,[]=> 0
 | i,s::t=> w i*(takenN s:Nat)+costF w (i+1) t
def costL(w:Nat→Int)(l:List (List UInt8)):Int:=costF w 0 l
theorem costF_app(w:Nat→Int):∀(i:Nat) (l m:List (List UInt8)),costF w i (l++m)=costF w i l+costF w (i+l.length) m
 | i,[],m=> by simp[costF]
 | i,s::l,m=> by
   show _+costF w (i+1) (l++m)=_+costF w (i+1) l+_;rw[costF_app w (i+1) l m,List.length_cons,show i+1+l.length=i+(l.length+1) by omega];omega
theorem costL_snoc(w:Nat→Int)(l:List (List UInt8))(s:List UInt8):costL w (l++[s])=costL w l+w l.length*(takenN s:Nat):=by
 unfold costL;rw[costF_app];simp[costF]
theorem costF_nn {w:Nat→Int}{n:Nat}(hw:∀i,i<n→0≤w i):∀(m:List (List UInt8)) (i:Nat),i+m.length≤n→0≤costF w i m
 | [],_,_=> Int.le_refl _
 | s::m,i,h=> by
   rw[List.length_cons] at h;have h1:=costF_nn hw m (i+1) (by omega);have h2:=Int.mul_nonneg (hw i (by omega)) (Int.natCast_nonneg (takenN s));show 0≤w i*(takenN s:Nat)+costF w (i+1) m;omega
theorem mem_words {can:List (List UInt8)}:∀(d:Nat) (l t:List (List UInt8)),t∈wordsL can d l→∃m,t=l++m∧m.length=d∧∀s∈m,s∈can
 | 0,l,t,h=> by
   rw[List.mem_singleton.1 h];exact⟨[],by simp,rfl,fun s h=> (nomatch h)⟩
 | d + 1,l,t,h=> by
   obtain⟨s,hs,h2⟩:=List.mem_flatMap.1 h;split at h2
   · cases h2
   · obtain⟨m,rfl,h3,h4⟩:=mem_words d _ t h2;refine⟨s::m,by simp,by simp[h3],fun y hy=> ?_⟩;rcases List.mem_cons.1 hy with rfl|hy
     · exact hs
     · exact h4 y hy
theorem words_congr {can can':List (List UInt8)}(hc:∀s,s∈can↔s∈can'):∀(d:Nat) (l t:List (List UInt8)),t∈wordsL can d l↔t∈wordsL can' d l
 | 0,l,t=> Iff.rfl
 | d + 1,l,t=> by
   show t∈can.flatMap _↔t∈can'.flatMap _;simp only[List.mem_flatMap];constructor
   · rintro⟨s,h1,h2⟩;refine⟨s,(hc s).1 h1,?_⟩;split at h2
     · cases h2
     · rename_i h3
       rw[if_neg h3];exact(words_congr hc d _ t).1 h2
   · rintro⟨s,h1,h2⟩;refine⟨s,(hc s).2 h1,?_⟩;split at h2
     · cases h2
     · rename_i h3
       rw[if_neg h3];exact(words_congr hc d _ t).2 h2
def pickW(w:Nat→Int)(st:ChSt)(t:List (List UInt8)):ChSt:=if st.done=true∧costL w t≥st.total then st else⟨true,costL w t,t⟩
theorem pick_stay {w:Nat→Int}{st:ChSt}(hd:st.done=true):∀L:List (List (List UInt8)),(∀t∈L,costL w t≥st.total)→L.foldl (pickW w) st=st
 | [],_=> rfl
 | t::L,h=> by
   have e:pickW w st t=st:=if_pos ⟨hd,h t (List.mem_cons_self ..)⟩;rw[List.foldl_cons,e];exact pick_stay hd L fun y hy=> h y (List.mem_cons_of_mem _ hy)
theorem foldl_flat {α β γ:Type}(f:α→List β)(g:γ→β→γ):∀(l:List α) (i:γ),(l.flatMap f).foldl g i=l.foldl (fun acc x=> (f x).foldl g acc) i
 | [],_=> rfl
 | x::l,i=> by
   rw[List.flatMap_cons,List.foldl_append,List.foldl_cons];exact foldl_flat f g l _
theorem cheapGo_fold {can:List (List UInt8)}{w:Nat→Int}{n:Nat}(hw:∀i,i<n→0≤w i):∀(d:Nat) (l:List (List UInt8)) (st:ChSt),l.length+d=n→cheapGo can w d l (costL w l) st=(wordsL can d l).foldl (pickW w) st
 | 0,l,st,_=> rfl
 | d + 1,l,st,hn=> by
   have e:cheapGo can w (d+1) l (costL w l) st=if st.done=true∧costL w l≥st.total then st else can.foldl (fun st s=> if nearL l s then st else cheapGo can w d (l++[s]) (costL w l+w l.length*(takenN s:Nat)) st) st:=rfl
   rw[e];split
   · rename_i h
     refine(pick_stay h.1 _ fun t ht=> ?_).symm;obtain⟨m,rfl,h1,_⟩:=mem_words _ _ _ ht;have h2:=costF_nn hw m l.length (by omega);have h3:costL w (l++m)=costL w l+costF w (0+l.length) m:=costF_app w 0 l m;rw[Nat.zero_add] at h3;have h4:=h.2;omega
   · show _=(can.flatMap fun s=> if nearL l s then [] else wordsL can d (l++[s])).foldl (pickW w) st;rw[foldl_flat]
     congr 1
     funext acc s
     split
     · rfl
     · rw[←costL_snoc];exact cheapGo_fold hw d (l++[s]) acc (by rw[List.length_append];show l.length+1+d=n;omega)
def lexB:List (List UInt8)→List (List UInt8)→Bool
 | x::a,y::b=> if x=y then lexB a b else Op.bytesLess x y
 | _,_=> false
theorem lexB_irr:∀l,lexB l l=false
 | []=> rfl
 | x::l=> by
   show(if x=x then lexB l l else _)=false;rw[if_pos rfl];exact lexB_irr l
theorem lexB_app:∀(l a b:List (List UInt8)),lexB (l++a) (l++b)=lexB a b
 | [],_,_=> rfl
 | x::l,a,b=> by
   show(if x=x then lexB (l++a) (l++b) else _)=_;rw[if_pos rfl];exact lexB_app l a b
theorem lexB_tri:∀ {a b:List (List UInt8)},a.length=b.length→lexB a b=false→lexB b a=false→a=b
 | [],[],_,_,_=> rfl
 | x ::a,y::b,hl,h1,h2=> by
   have h1':(if x=y then lexB a b else Op.bytesLess x y)=false:=h1;have h2':(if y=x then lexB b a else Op.bytesLess y x)=false:=h2;by_cases q:x=y
   · subst q;rw[if_pos rfl] at h1' h2';rw[lexB_tri (by simpa using hl) h1' h2']
   · rw[if_neg q] at h1';rw[if_neg (fun h=> q h.symm)] at h2';exact(q (less_tri h1' h2')).elim
theorem lexB_trans:∀ {a b c:List (List UInt8)},lexB a b=true→lexB b c=true→lexB a c=true
 | [],_,_,h,_=> (nomatch h)
 | _::_,[],_,h,_=> (nomatch h)
 | _::_,_::_,[],_,h=> (nomatch h)
 | x ::a,y::b,z::c,h1,h2=> by
   have h1':(if x=y then lexB a b else Op.bytesLess x y)=true:=h1;have h2':(if y=z then lexB b c else Op.bytesLess y z)=true:=h2;show(if x=z then lexB a c else Op.bytesLess x z)=true;by_cases q:x=y
   · subst q;rw[if_pos rfl] at h1';by_cases r:x=z
     · subst r;rw[if_pos rfl] at h2' ⊢;exact lexB_trans h1' h2'
     · rw[if_neg r] at h2' ⊢;exact h2'
   · rw[if_neg q] at h1';by_cases r:y=z
     · subst r;rw[if_neg q];exact h1'
     · rw[if_neg r] at h2';have h3:=less_trans h1' h2';have h4:x≠z:=fun e=> by
         subst e;rw[less_irr] at h3;cases h3
       rw[if_neg h4];exact h3
theorem words_asc {can:List (List UInt8)}(hc:AscS can):∀(d:Nat) (l:List (List UInt8)),(wordsL can d l).Pairwise (fun x y=> lexB y x=false)
 | 0,l=> List.pairwise_singleton ..
 | d + 1,l=> by
   show(can.flatMap fun s=> if nearL l s then [] else wordsL can d (l++[s])).Pairwise _;refine List.pairwise_flatMap.2 ⟨fun s _=> ?_,hc.imp fun {a b} hab x hx y hy=> ?_⟩
   · split
     · exact List.Pairwise.nil
     · exact words_asc hc d _
   · split at hx
     · cases hx
     split at hy
     · cases hy
     obtain⟨m1,rfl,_⟩:=mem_words _ _ _ hx;obtain⟨m2,rfl,_⟩:=mem_words _ _ _ hy;rw[List.append_assoc,List.append_assoc,lexB_app];show(if b=a then lexB m2 m1 else Op.bytesLess b a)=false;have h1:=less_asym hab;have h2:b≠a:=fun e=> by
       subst e;rw[less_irr] at hab;cases hab
     rw[if_neg h2];exact h1
def Least(w:Nat→Int)(L:List (List (List UInt8)))(b:List (List UInt8)):Prop:=b∈L∧∀t∈L,costL w b≤costL w t∧(costL w t=costL w b→lexB t b=false)
theorem fold_least {w:Nat→Int}:∀(L:List (List (List UInt8))) (b:List (List UInt8)),(b::L).Pairwise (fun x y=> lexB y x=false)→∃b',L.foldl (pickW w) ⟨true,costL w b,b⟩=⟨true,costL w b',b'⟩∧Least w (b::L) b'∧(b'=b∨costL w b'<costL w b)
 | [],b,_=> ⟨b,rfl,⟨List.mem_singleton.2 rfl,fun t ht=> by rw[List.mem_singleton.1 ht];exact⟨Int.le_refl _,fun _=> lexB_irr b⟩⟩,.inl rfl⟩
 | y ::L,b,hp=> by
   have hp1:=List.pairwise_cons.1 hp;by_cases c:costL w y≥costL w b
   · have e:pickW w ⟨true,costL w b,b⟩ y=⟨true,costL w b,b⟩:=if_pos ⟨rfl,c⟩;rw[List.foldl_cons,e];obtain⟨b',h1,⟨h2,h3⟩,h4⟩:=fold_least L b (List.pairwise_cons.2 ⟨fun z hz=> hp1.1 z (List.mem_cons_of_mem _ hz),(List.pairwise_cons.1 hp1.2).2⟩);refine⟨b',h1,⟨?_,fun t ht=> ?_⟩,h4⟩
     · rcases List.mem_cons.1 h2 with h|h
       · rw[h];exact List.mem_cons_self ..
       · exact List.mem_cons_of_mem _ (List.mem_cons_of_mem _ h)
     · rcases List.mem_cons.1 ht with rfl|ht
       · exact h3 _ (List.mem_cons_self ..)
       rcases List.mem_cons.1 ht with rfl|ht
       · have h5:=(h3 b (List.mem_cons_self ..)).1;refine⟨by omega,fun h6=> ?_⟩;rcases h4 with rfl|h4
         · exact hp1.1 _ (List.mem_cons_self ..)
         · omega
       · exact h3 t (List.mem_cons_of_mem _ ht)
   · have e:pickW w ⟨true,costL w b,b⟩ y=⟨true,costL w y,y⟩:=if_neg fun h=> c h.2;rw[List.foldl_cons,e];obtain⟨b',h1,⟨h2,h3⟩,h4⟩:=fold_least L y hp1.2;have h5:=(h3 y (List.mem_cons_self ..)).1;refine⟨b',h1,⟨List.mem_cons_of_mem _ h2,fun t ht=> ?_⟩,.inr (by omega)⟩;rcases List.mem_cons.1 ht with rfl|ht
     · exact⟨by omega,fun h6=> by omega⟩
     · exact h3 t ht
theorem least_uniq {w:Nat→Int}{L L':List (List (List UInt8))}(hm:∀t,t∈L↔t∈L'){b b':List (List UInt8)}(hl:b.length=b'.length)(h:Least w L b)(h':Least w L' b'):b=b':=by
 obtain⟨h1,h2⟩:=h;obtain⟨h3,h4⟩:=h';have h5:=h2 b' ((hm _).2 h3);have h6:=h4 b ((hm _).1 h1);have h7:costL w b=costL w b':=by omega
 exact lexB_tri hl (h6.2 h7) (h5.2 h7.symm)
def better(w:Nat→Int)(t b:List (List UInt8)):Bool:=decide (costL w t<costL w b)||(decide (costL w t=costL w b)&&lexB t b)
theorem least_step {w:Nat→Int}{L:List (List (List UInt8))}{b t:List (List UInt8)}(h:Least w L b):Least w (L++[t]) (if better w t b=true then t else b):=by
 obtain⟨h1,h2⟩:=h;unfold better;by_cases c1:costL w t<costL w b
 · rw[if_pos (by simp[c1])];refine⟨by simp,fun u hu=> ?_⟩;rcases List.mem_append.1 hu with hu|hu
   · have:=(h2 u hu).1;exact⟨by omega,fun h=> by omega⟩
   · rw[List.mem_singleton.1 hu];exact⟨Int.le_refl _,fun _=> lexB_irr t⟩
 · by_cases c2:costL w t=costL w b∧lexB t b=true
   · rw[if_pos (by simp[c2.1,c2.2])];refine⟨by simp,fun u hu=> ?_⟩;rcases List.mem_append.1 hu with hu|hu
     · have h3:=h2 u hu;refine⟨by omega,fun h4=> ?_⟩;have h5:=h3.2 (by omega);cases q:lexB u t with
       | false=> rfl
       | true=> rw[lexB_trans q c2.2] at h5;cases h5
     · rw[List.mem_singleton.1 hu];exact⟨Int.le_refl _,fun _=> lexB_irr t⟩
   · rw[if_neg (by
       intro h;simp only[Bool.or_eq_true,Bool.and_eq_true,decide_eq_true_eq] at h;rcases h with h|h
       · exact c1 h
       · exact c2 h)]
     refine⟨List.mem_append_left _ h1,fun u hu=> ?_⟩;rcases List.mem_append.1 hu with hu|hu
     · exact h2 u hu
     · rw[List.mem_singleton.1 hu];refine⟨by omega,fun h=> ?_⟩;cases q:lexB t b with
       | false=> rfl
       | true=> exact(c2 ⟨h,q⟩).elim
theorem canTo_nodup:∀most,most<4→∀digits,digits<4→(canTo most digits).Nodup:=by decide +kernel
theorem sortS_asc {l:List (List UInt8)}(h:l.Nodup):AscS (sortS l):=by
 have h1:(sortS l).Nodup:=(sortS_perm l).nodup_iff.2 h;have h2:=sortS_sorted l;unfold AscS;refine(h1.and h2).imp fun {a b} hab=> ?_;have h3:Op.bytesLess b a=false:=by simpa [leS] using hab.2
 cases q:Op.bytesLess a b with
 | true=> rfl
 | false=> exact(hab.1 (less_tri q h3)).elim
theorem cheap_none {w:Nat→Int}{nw digits most:Nat}(hw:∀i,i<nw→0≤w i)(h:wordsL (canTo most digits) nw []= []):cheap w nw digits most=⟨false,0,[]⟩:=by
 have e:cheap w nw digits most=(wordsL (sortS (canTo most digits)) nw []).foldl (pickW w) ⟨false,0,[]⟩:=cheapGo_fold (n:=nw) hw nw [] _ (by simp);have e2:wordsL (sortS (canTo most digits)) nw []= []:=by
   refine List.eq_nil_iff_forall_not_mem.2 fun t ht=> ?_;have:=(words_congr (fun s=> (sortS_perm (canTo most digits)).mem_iff) nw [] t).1 ht;rw[h] at this;cases this
 rw[e,e2];rfl
theorem cheap_least {w:Nat→Int}{nw digits most:Nat}(hw:∀i,i<nw→0≤w i)(hm:most<4)(hd:digits<4){b:List (List UInt8)}(hb:Least w (wordsL (canTo most digits) nw []) b):cheap w nw digits most=⟨true,costL w b,b⟩:=by
 have e:cheap w nw digits most=(wordsL (sortS (canTo most digits)) nw []).foldl (pickW w) ⟨false,0,[]⟩:=cheapGo_fold (n:=nw) hw nw [] _ (by simp);have hm':=fun t=> words_congr (fun s=> (sortS_perm (canTo most digits)).mem_iff) nw [] t;have ha:=words_asc (sortS_asc (canTo_nodup most hm digits hd)) nw [];have hlen:∀t,t∈wordsL (canTo most digits) nw []→t.length=nw:=fun t ht=> by
   obtain⟨m,rfl,h1,_⟩:=mem_words _ _ _ ht;simpa using h1
 rw[e];generalize wordsL (sortS (canTo most digits)) nw []=L at ha hm';cases L with
 | nil=>
   have:=(hm' b).2 hb.1;cases this
 | cons y L=>
   have e1:pickW w ⟨false,0,[]⟩ y=⟨true,costL w y,y⟩:=if_neg fun h=> Bool.noConfusion h.1;obtain⟨b',h1,h2,_⟩:=fold_least (w:=w) L y ha;rw[List.foldl_cons,e1,h1];have h3:b'=b:=least_uniq hm' (by rw[hlen b' ((hm' _).1 h2.1),hlen b hb.1]) h2 hb;rw[h3]
end Go.Proofs.YtdnfdeplcjaonaaGreatDoor
namespace Go.RL
section
variable {P:Program}{E:Env P}{M:Md P}{n:Nat}{H₀:View}{R:Rg}{L:Bl}{K:Rg→Bl→Prop}{o:Oper}{d:Nat}
end
end Go.RL
namespace Go.Proofs.YtdnfdeplcjaonaaGreatDoor
open Go.RL Go.Proofs.Tryz
set_option maxRecDepth 10000
set_option maxHeartbeats 16000000
section
variable(M:Md prog)(H:View)
end
set_option maxHeartbeats 8000000
section
variable(M:Md prog)(H:View)
end
set_option maxHeartbeats 1000000
section
variable(M:Md prog)(H:View)
end
set_option maxHeartbeats 8000000
section
variable(M:Md prog)(H:View)
end
end Go.Proofs.YtdnfdeplcjaonaaGreatDoor
namespace Go.RL
section
variable {P:Program}{M:Md P}{n:Nat}{H₀:View}{R:Rg}{L:Bl}{o:Oper}{K:Rg→Bl→Prop}{d:Nat}
end
section
variable {P:Program}{M:Md P}{St:View→Goroutine→Prop}{n:Nat}{b:FB}{H₀:View}{cs:List Frame}{R:Rg}{L:Bl}{ds:List Deferred}{todo:List Item}
theorem Tc.absorb(A B:Bl)(p:(A++B).Perm L)(h:∀H₁:View,H₀.le H₁→(∀x∈B,H₁ x.1=some x.2)→Tc M St n b H₁ cs R A ds todo):Tc M St n b H₀ cs R L ds todo:=fun H tmps hs hr=> by
 obtain⟨H₂,h1,h2⟩:=(hs.perm p).unappend;exact h H₂ h2.base h2.at_ H tmps h1 hr
end
end Go.RL
namespace Go.Proofs.YtdnfdeplcjaonaaGreatDoor
open Go.RL Go.Proofs.Tryz
set_option maxRecDepth 10000
set_option maxHeartbeats 8000000
section
variable(M:Md prog)(H:View)
end
section
variable(M:Md prog)(H:View)
end
section
variable(M:Md prog)(H:View)
end
section
variable(M:Md prog)(H:View)
end
theorem strs_at {H:View}{G:Option Addr}{l:List (List UInt8)}(h:StrsAt H G l.length (fun j=> l[j]?.getD [])){j:Nat}(hj:j<l.length):∃b o f gs gt gz y,G=some ⟨b,o,none⟩∧H b=some (f,.cells ⟨gs⟩ gt gz)∧l[j]? =some y∧ldL false 1 gs (o+((j:Nat):Int).toNat*1)=some (strV y):=by
 rcases h with h|⟨b,o,f,gs,gt,gz,h1,h2,h3⟩
 · omega
 · have h4:=h3 j hj;simp only[List.getElem?_eq_getElem hj,Option.getD_some] at h4;exact⟨b,o,f,gs,gt,gz,l[j],h1,h2,List.getElem?_eq_getElem hj,h4⟩
section
variable(M:Md prog)(H:View)
end
theorem nearL_no {l:List (List UInt8)}{s:List UInt8}:nearL l s=false↔∀j y,j<l.length→l[j]? =some y→clash1 y s=false:=by
 unfold nearL;constructor
 · intro h j y hj hy;have h2:firstTo (fun j=> clash1 (l[j]?.getD []) s) l.length=none:=by
     cases q:firstTo (fun j=> clash1 (l[j]?.getD []) s) l.length with
     | none=> rfl
     | some z=> rw[q] at h;cases h
   have:=(firstTo_none _).1 h2 j hj;rw[hy] at this;exact this
 · intro h;have h2:firstTo (fun j=> clash1 (l[j]?.getD []) s) l.length=none:=(firstTo_none _).2 fun j hj=> by
     rw[List.getElem?_eq_getElem hj];exact h j l[j] hj (List.getElem?_eq_getElem hj)
   rw[h2];rfl
theorem nearL_yes {l:List (List UInt8)}{s:List UInt8}{j:Nat}{y:List UInt8}(hy:l[j]? =some y)(h:clash1 y s=true):nearL l s=true:=by
 cases q:nearL l s with
 | true=> rfl
 | false=>
   have:=nearL_no.1 q j y (List.getElem?_eq_some_iff.1 hy).1 hy;rw[h] at this;cases this
theorem costL_take {w:Nat→Int}{l:List (List UInt8)}{i:Nat}{s:List UInt8}(h:l[i]? =some s):costL w (l.take (i+1))=costL w (l.take i)+w i*(takenN s:Nat):=by
 obtain⟨hi,rfl⟩:=List.getElem?_eq_some_iff.1 h;rw[List.take_succ_eq_append_getElem hi,costL_snoc,List.length_take,Nat.min_eq_left (by omega)]
section
variable(M:Md prog)(H:View)
end
section
variable(M:Md prog)(H:View)
end
theorem allFrom_pre(dg:List UInt8):∀(d:Nat) (s:List UInt8),allFrom dg d s=(allL dg d).map (s++·)
 | 0,s=> by simp[allFrom,allL]
 | d+1,s=> by
   have h1:=fun x=> allFrom_pre dg d (s++[x]);have h2:=fun x=> allFrom_pre dg d [x];show dg.flatMap (fun x=> allFrom dg d (s++[x]))=(dg.flatMap fun x=> allFrom dg d ([]++[x])).map (s++·);simp only[List.nil_append,h1,h2,List.map_flatMap,List.map_map]
   congr 1
   funext x
   congr 1
   funext y
   simp
theorem flat_le {α β:Type}{f:α→List β}{K:Nat}(h:∀x,(f x).length≤K):∀l:List α,(l.flatMap f).length≤l.length*K
 | []=> Nat.zero_le _
 | x::l=> by
   rw[List.flatMap_cons,List.length_append,List.length_cons,Nat.succ_mul];have h1:=h x;have h2:=flat_le h l;omega
theorem allLen(dg:List UInt8)(hd:dg.length≤10):∀d,(allL dg d).length≤10 ^ d
 | 0=> Nat.le_refl _
 | d+1=> by
   show(dg.flatMap fun x=> allFrom dg d ([]++[x])).length≤_;have h1:=flat_le (f:=fun x=> allFrom dg d ([]++[x])) (K:=10 ^ d) (fun x=> by rw[allFrom_pre,List.length_map];exact allLen dg hd d) dg;rw[Nat.pow_succ,Nat.mul_comm];exact Nat.le_trans h1 (Nat.mul_le_mul_right _ hd)
def byts(a n:Nat):List UInt8:=(List.range' a n).map UInt8.ofNat
theorem byts_at {a n i:Nat}(h:i<n):(byts a n)[i]? =some (UInt8.ofNat (a+i)):=by
 unfold byts;rw[List.getElem?_map,List.getElem?_range' h];simp
theorem byts_len(a n:Nat):(byts a n).length=n:=by unfold byts;rw[List.length_map,List.length_range']
def numsB(dg:List UInt8)(d i:Nat):List (List UInt8):=(dg.take i).flatMap fun x=> allFrom dg d [x]
def numsC(dg:List UInt8)(d i:Nat)(x:UInt8)(j:Nat):List (List UInt8):=numsB dg d i++((allL dg d).take j).map ([x]++·)
theorem numsB_all(dg:List UInt8)(d:Nat):numsB dg d dg.length=allL dg (d+1):=by
 unfold numsB;rw[List.take_length];rfl
theorem numsC_zero(dg:List UInt8)(d i:Nat)(x:UInt8):numsC dg d i x 0=numsB dg d i:=by simp[numsC]
theorem numsC_all {dg:List UInt8}{d i:Nat}{x:UInt8}(h:dg[i]? =some x):numsC dg d i x (allL dg d).length=numsB dg d (i+1):=by
 unfold numsC numsB;rw[List.take_length,List.take_add_one,h,List.flatMap_append,←allFrom_pre];simp
theorem numsC_succ {dg:List UInt8}{d i j:Nat}{x:UInt8}{y:List UInt8}(h:(allL dg d)[j]? =some y):numsC dg d i x (j+1)=numsC dg d i x j++[[x]++y]:=by
 unfold numsC;rw[List.take_add_one,h,List.map_append,List.append_assoc];rfl
theorem numsC_le {dg:List UInt8}(hd:dg.length≤10){d:Nat}(h2:d≤2)(i:Nat)(x:UInt8)(j:Nat):(numsC dg d i x j).length≤2000:=by
 have h3:(allL dg d).length≤100:=Nat.le_trans (allLen dg hd d) (by rcases(by omega:d=0∨d=1∨d=2) with rfl|rfl|rfl <;> decide);have h1:=flat_le (f:=fun x=> allFrom dg d [x]) (K:=100) (fun x=> by rw[allFrom_pre,List.length_map];exact h3) (dg.take i);unfold numsC numsB;rw[List.length_append,List.length_map,List.length_take];rw[List.length_take] at h1;have h4:min i dg.length*100≤10*100:=Nat.mul_le_mul_right _ (by omega);omega
theorem u8_128:∀x:Nat,x<128→IntKind.u8.wrap (x:Int)=(x:Int):=by decide +kernel
section
variable(M:Md prog)
theorem Numbers_c(a n b:Nat)(hn:n≤10)(hb:a+n=b+1)(hb2:b≤100):∀(many:Nat) (_:many≤3) (H:View),
   CallT M 129 #[.int .i64 (many:Nat),.int .u8 (a:Nat),.int .u8 (b:Nat)] H (fun v H'=> H.le H'∧∃(G:Option Addr) (c:Nat),v=.slice G (allL (byts a n) many).length c∧StrsAt H' G (allL (byts a n) many).length (fun j=> (allL (byts a n) many)[j]?.getD []))
 | 0,_,H=> by
   refine .en func129 ntmps129 fun St c cs hK=> ?_;refine U13 ?_;refine .e (.bs (zz:=fun bs=> ?_));refine U2 ?_;refine .rt hK func129 results129 [_] ?_;refine fun H' hs=> ⟨hs.base,some ⟨bs,0,none⟩,1,rfl,?_⟩
   have h:SrcAt H' 1 (.slice (some ⟨bs,0,none⟩) 1 1) 1 (strsV [[]]):=SrcAt.of (hs.get (i:=0) rfl) (Nat.le_of_ble_eq_true rfl);exact strs_src (l:= [[]]) h rfl
 | d + 1,hd3,H=> by
   have IH:=fun H'=> Numbers_c a n b hn hb hb2 d (by omega) H';have hdl:(byts a n).length≤10:=by rw[byts_len];exact hn
   have w1:intBin .sub .i64 ((d+1:Nat):Int) 1=some (.int .i64 (d:Nat)):=by rw[sub_in (by omega) (by omega)];congr 2;omega
   have w2:¬((d+1:Nat):Int)=0:=by omega
   refine .en func129 ntmps129 fun St c cs hK=> ?_;refine U23 ?_;refine Tc.db (Tc.loopB (σ:= { x:Nat×Gl 9 1×View//x.1≤n∧H.le x.2.2∧x.2.1.n=(numsB (byts a n) d x.1).length∧x.2.1.l=strsV (numsB (byts a n) d x.1) }) (fun x=> (x.1.2.2,[(0,.int .i64 ((d+1:Nat):Int)),(1,.int .u8 (a:Nat)),(2,.int .u8 (b:Nat)),(7,x.1.2.1.val),(8,.int .u8 ((a+x.1.1:Nat):Int))],x.1.2.1.bl)) (fun x=> n-x.1.1) ?_ ⟨(0,Gl.nil 9 1,H),Nat.zero_le _,View.le_refl _,rfl,rfl⟩);rintro⟨⟨i,g,H₂⟩,hi,hle,hgn,hgl⟩ ih;simp only at hi hle hgn hgl;show Tc M St _ _ H₂ _ [(0,.int .i64 ((d+1:Nat):Int)),(1,.int .u8 (a:Nat)),(2,.int .u8 (b:Nat)),(7,g.val),(8,.int .u8 ((a+i:Nat):Int))] g.bl _ _;by_cases c1:i=n
   · clear ih;subst c1;have e1:=numsB_all (byts a i) d;rw[byts_len] at e1;rw[e1] at hgn hgl;refine U14 ?_;refine .rt hK func129 results129 [_] ?_;refine fun H' hs=> ⟨View.le_trans hle hs.base,g.blk.map fun b=> ⟨b,0,none⟩,g.cap,by rw[←hgn];rfl,?_⟩
     have h:=g.src (H:=H') (fun x hx=> hs.at_ x hx);rw[hgl] at h;unfold Gl.val at h;rw[hgn] at h;exact strs_src h rfl
   · have c2:i<n:=by omega
     have hx:=byts_at (a:=a) c2;have hxe:((a+i:Nat):Int)=(((UInt8.ofNat (a+i)).toNat:Nat):Int):=by rw[UInt8.toNat_ofNat'];omega
     have w3:intBin .add .u8 ((a+i:Nat):Int) 1=some (.int .u8 ((a+(i+1):Nat):Int)):=by
       show some (Value.int _ (IntKind.u8.wrap _))=_;rw[show((a+i:Nat):Int)+1=((a+(i+1):Nat):Int) by omega,u8_128 _ (by omega)]
     have w4:((a+i:Nat):Int)≤((b:Nat):Int):=by omega
     rw[hxe] at w3 w4 ⊢;generalize UInt8.ofNat (a+i)=x at hx w3 w4 ⊢;have hx2:(((x.toNat:Nat):Int))≤((b:Nat):Int):=w4;refine U17 ?_;refine To.callF rfl rfl rfl rfl rfl rfl (by decide) (FnT.h (IH H₂)) (fun v H₃ hv=> ?_);obtain⟨hle3,G,gc,rfl,hG⟩:=hv;have hlen:(allL (byts a n) d).length≤100:=Nat.le_trans (allLen _ hdl d) (by rcases(by omega:d=0∨d=1∨d=2) with rfl|rfl|rfl <;> decide);refine U7 ?_;rw[←numsC_zero _ _ _ x] at hgn hgl;refine Tc.db (Tc.loopInv (σ:= { y:Nat×Gl 9 1//y.1≤(allL (byts a n) d).length∧y.2.n=(numsC (byts a n) d i x y.1).length∧y.2.l=strsV (numsC (byts a n) d i x y.1) }) (fun y=> ([(0,.int .i64 ((d+1:Nat):Int)),(1,.int .u8 (a:Nat)),(2,.int .u8 (b:Nat)),(7,y.1.2.val),(8,.int .u8 ((x.toNat:Nat):Int)),(9,.slice G (allL (byts a n) d).length gc),(10,.int .i64 (y.1.1:Nat))],y.1.2.bl)) (fun y=> (allL (byts a n) d).length-y.1.1) ?_ ⟨(0,g),Nat.zero_le _,hgn,hgl⟩);clear hgn hgl;rintro⟨⟨j,g1⟩,hj,hn1,hl1⟩ ih2;simp only at hj hn1 hl1;show Tc M St _ _ H₃ _ [(0,.int .i64 ((d+1:Nat):Int)),(1,.int .u8 (a:Nat)),(2,.int .u8 (b:Nat)),(7,g1.val),(8,.int .u8 ((x.toNat:Nat):Int)),(9,.slice G (allL (byts a n) d).length gc),(10,.int .i64 (j:Nat))] g1.bl _ _;have hcl:=numsC_le hdl (d:=d) (by omega) i x j;by_cases d1:j=(allL (byts a n) d).length
     · clear ih2;subst d1;rw[numsC_all hx] at hn1 hl1;refine U16 ?_;exact Tc.db (ih ⟨(i+1,g1,H₃),by simp only;omega,View.le_trans hle hle3,hn1,hl1⟩ (by simp only;omega))
     · have d2:j<(allL (byts a n) d).length:=by omega
       obtain⟨xb,xo,xf,xs,xt,xz,y,rfl,hxb,hy,f4⟩:=strs_at hG d2;have hyl:=(mem_allL (List.mem_of_getElem? hy)).1;have hsu:=numsC_succ (i:=i) (x:=x) hy;have q1:RL.strB .add [x] y=some (strV ([x]++y)):=by
         rw[strB_add (by simp only[List.length_singleton];omega)]
       refine U12 ?_;refine Tc.drT [10] [] [] 0 mixed rfl ?_;refine .oo 0 ?_;refine .oo 1 ?_;refine .oo 4 ?_;refine .oo 5 ?_;refine .oo 6 ?_;refine .oo 7 ?_;refine Ta.each [2] (by kernel_rfl) rfl ⟨TaOp.mk rfl rfl rfl (.bs (zz:=fun bb=> ⟨S3.mk (by exact List.nil_sublist _) (.inr (by apply List.Sublist.cons;exact List.Sublist.refl _)),?_⟩)),trivial⟩;refine Ta.each [3] (by kernel_rfl) rfl ⟨TaOp.mk rfl rfl rfl (Or.ofV (OpV.convB (E:=en) (m:=1) (s:= [x]) rfl rfl (fun H hs=> SrcAt.of (hs.get (i:=0) rfl) (Nat.le_of_ble_eq_true rfl)) rfl rfl rfl rfl rfl rfl) rfl (by decide) ⟨S3.mk (by exact List.nil_sublist _) (.inr (by apply List.Sublist.cons;exact List.Sublist.refl _)),?_⟩),trivial⟩;refine .oo 8 ?_;refine Ta.each [9] (by kernel_rfl) rfl ⟨TaOp.mk rfl rfl rfl (.bs (zz:=fun bs=> ⟨S3.mk (by exact List.nil_sublist _) (.inr (by apply List.Sublist.cons;apply List.Sublist.cons;exact List.Sublist.refl _)),?_⟩)),trivial⟩;refine Ta.each [10] (by kernel_rfl) rfl ⟨TaOp.mk rfl rfl rfl (Or.append (E:=en) (g:=g1) (m:=1) (new:= [strV ([x]++y)]) (yv:=.slice (some ⟨bs,0,none⟩) 1 1) 2 rfl rfl rfl rfl rfl rfl rfl rfl rfl rfl rfl rfl rfl rfl rfl (fun H hs=> SrcAt.of (hs.get (i:=0) rfl) (Nat.le_of_ble_eq_true rfl)) rfl (by omega) rfl (by decide) (fun g2 hn2 hl2=> ⟨S3.mk (by exact List.nil_sublist _) (.inl (by kernel_rfl)),?_⟩)),trivial⟩;refine .ow 11 ?_;refine .dn ?_;refine U6 ?_;exact Tc.db (ih2 ⟨(j+1,g2),by simp only;omega,by simp only;rw[hsu,List.length_append,hn2,hn1];rfl,by simp only;rw[hsu,hl2,hl1,strsV_app];rfl⟩ (by simp only;omega))
end
end Go.Proofs.YtdnfdeplcjaonaaGreatDoor
namespace Go.RL
section
variable {P:Program}{E:Env P}{M:Md P}{n:Nat}{H₀:View}{R:Rg}{L:Bl}{K:Rg→Bl→Prop}{o:Oper}{d:Nat}
end
end Go.RL
namespace Go.Proofs.YtdnfdeplcjaonaaGreatDoor
open Go.RL Go.Proofs.Tryz
set_option maxRecDepth 10000
set_option maxHeartbeats 8000000
theorem gl_strs {H:View}(g:Gl 9 1){l:List (List UInt8)}(hn:g.n=l.length)(hl:g.l=strsV l)(h:∀y∈g.bl,H y.1=some y.2):StrsAt H (g.blk.map fun b=> ⟨b,0,none⟩) l.length (fun j=> l[j]?.getD []):=by
 have h1:=g.src (H:=H) h;rw[hl] at h1;unfold Gl.val at h1;rw[hn] at h1;exact strs_src h1 rfl
section
variable(M:Md prog)
end
theorem flat_strs(l:List (List UInt8)):flatR l.length (fun i=> [strV (l[i]?.getD [])])=strsV l:=by
 unfold flatR strsV;apply List.ext_getElem?
 intro i;by_cases c:i<l.length
 · have h1:((List.range l.length).flatMap fun i=> [strV (l[i]?.getD [])])=(List.range l.length).map fun i=> strV (l[i]?.getD []):=by
     rw[List.map_eq_flatMap]
   rw[h1];simp[c]
 · have h1:((List.range l.length).flatMap fun i=> [strV (l[i]?.getD [])])=(List.range l.length).map fun i=> strV (l[i]?.getD []):=by
     rw[List.map_eq_flatMap]
   rw[h1,List.getElem?_eq_none (by simp;omega),List.getElem?_eq_none (by simp;omega)]
theorem strs_back {H:View}{F:Option Addr}{c:Nat}{l:List (List UInt8)}(h:StrsAt H F l.length (fun j=> l[j]?.getD [])):SrcAt H 1 (.slice F l.length c) l.length (strsV l):=by
 rw[←flat_strs l];rcases Nat.eq_zero_or_pos l.length with h0|h0
 · rw[h0];exact⟨⟨_,_,rfl⟩,rfl,.inl ⟨_,_,rfl,rfl⟩⟩
 · rcases h with h|⟨b,o,f,gs,gt,gz,rfl,hb,hl⟩
   · omega
   · refine rows_src (by decide) (fun _=> rfl) h0 hb fun i hi=> ?_;have h1:=hl i hi;rw[Int.toNat_natCast] at h1;have h2:gs[o+i*1]? =some (strV (l[i]?.getD [])):=h1;obtain⟨h3,h4⟩:=List.getElem?_eq_some_iff.1 h2;refine⟨by omega,?_⟩;rw[List.drop_eq_getElem_cons h3,h4];rfl
theorem byts_digs1:∀most,most<4→byts 49 most=digs1.take most:=by decide +kernel
section
variable(M:Md prog)(H:View)
theorem Cheap_c(digits most:Nat)(hd:digits≤3)(hm:most≤3):CallT M 54 #[.int .i64 (digits:Nat),.int .i64 (most:Nat)] H (fun v H'=> H.le H'∧∃(G:Option Addr) (c:Nat),v=.slice G (canTo most digits).length c∧StrsAt H' G (canTo most digits).length (fun j=> (canTo most digits)[j]?.getD [])):=by
 have e1:intBin .add .i64 48 ((most:Nat):Int)=some (.int .i64 (48+((most:Nat):Int))):=add_in (by omega) (by omega);have hw:IntKind.u8.wrap (48+((most:Nat):Int))=((48+most:Nat):Int):=by
   rw[show 48+((most:Nat):Int)=((48+most:Nat):Int) by omega];exact u8_128 _ (by omega)
 refine .en func54 ntmps54 fun St c cs hK=> ?_;refine U14 ?_;refine Tc.db (Tc.loopB (σ:= { x:Nat×Gl 9 1×View//x.1≤digits∧H.le x.2.2∧x.2.1.n=(canTo most x.1).length∧x.2.1.l=strsV (canTo most x.1) }) (fun x=> (x.1.2.2,[(0,.int .i64 (digits:Nat)),(1,.int .i64 (most:Nat)),(5,x.1.2.1.val),(6,.int .i64 ((x.1.1+1:Nat):Int))],x.1.2.1.bl)) (fun x=> digits-x.1.1) ?_ ⟨(0,Gl.nil 9 1,H),Nat.zero_le _,View.le_refl _,rfl,rfl⟩);rintro⟨⟨i,g,H₂⟩,hi,hle,hgn,hgl⟩ ih;simp only at hi hle hgn hgl;show Tc M St _ _ H₂ _ [(0,.int .i64 (digits:Nat)),(1,.int .i64 (most:Nat)),(5,g.val),(6,.int .i64 ((i+1:Nat):Int))] g.bl _ _;by_cases c1:i=digits
 · clear ih;subst c1;refine U14 ?_;refine .rt hK func54 results54 [_] ?_;exact fun H' hs=> ⟨View.le_trans hle hs.base,g.blk.map fun b=> ⟨b,0,none⟩,g.cap,by rw[←hgn];rfl,gl_strs g hgn hgl (fun x hx=> hs.at_ x hx)⟩
 · have c2:i<digits:=by omega
   have hnu:=Numbers_c M 49 most (48+most) (by omega) (by omega) (by omega) (i+1) (by omega) H₂;rw[byts_digs1 most (by omega)] at hnu;have hsu:=canTo_succ most i;have hl1:=canTo_len hm i (by omega);have hl2:=allL_len (most:=most) (n:=i+1) hm (by omega);refine U17 ?_;refine To.callF rfl rfl rfl rfl rfl rfl (by decide) (FnT.h hnu) (fun v H₃ hv=> ?_);obtain⟨hle3,G,gc,rfl,hG⟩:=hv;have hsrc:=strs_back (c:=gc) hG;refine .e (Or.append (E:=en) (g:=g) (m:=(allL (digs1.take most) (i+1)).length) (new:=strsV (allL (digs1.take most) (i+1))) 0 rfl rfl rfl rfl rfl rfl rfl rfl rfl rfl rfl rfl rfl rfl rfl (fun H hs=> hsrc.mono hs.base) (strsV_single _) (by omega) rfl (by decide) (fun g2 hn2 hl2=> ?_));refine U8 ?_;exact Tc.db (ih ⟨(i+1,g2,H₃),by simp only;omega,View.le_trans hle hle3,by simp only;rw[hn2,hsu,List.length_append,hgn],by simp only;rw[hl2,hgl,hsu,strsV_app]⟩ (by simp only;omega))
end
theorem words_in {can:List (List UInt8)}:∀(d:Nat) (l m:List (List UInt8)),m.length=d→(∀i s,m[i]? =some s→s∈can∧nearL (l++m.take i) s=false)→l++m∈wordsL can d l
 | 0,l,m,hm,_=> by
   rw[List.eq_nil_of_length_eq_zero hm,List.append_nil];exact List.mem_singleton.2 rfl
 | d+1,l,[],hm,_=> by cases hm
 | d + 1,l,s::m,hm,h=> by
   obtain⟨h1,h2⟩:=h 0 s rfl;rw[List.take_zero,List.append_nil] at h2;refine List.mem_flatMap.2 ⟨s,h1,?_⟩;rw[if_neg (by rw[h2];decide)];have h3:=words_in d (l++[s]) m (by simpa using hm) fun i y hy=> by
     have h4:=h (i+1) y hy;rw[List.take_succ_cons] at h4;rw[List.append_assoc];exact h4
   rw[List.append_assoc] at h3;exact h3
theorem words_out {can:List (List UInt8)}:∀(d:Nat) (l t:List (List UInt8)),t∈wordsL can d l→∀i s,l.length≤i→t[i]? =some s→s∈can∧nearL (t.take i) s=false
 | 0,l,t,h,i,s,hi,hs=> by
   rw[List.mem_singleton.1 h,List.getElem?_eq_none hi] at hs;cases hs
 | d + 1,l,t,h,i,s,hi,hs=> by
   obtain⟨y,hy,h2⟩:=List.mem_flatMap.1 h;split at h2
   · cases h2
   · rename_i h3
     by_cases c:i=l.length
     · obtain⟨m,rfl,_⟩:=mem_words _ _ _ h2;subst c;rw[List.append_assoc] at hs ⊢;rw[List.getElem?_append_right (Nat.le_refl _),Nat.sub_self] at hs;have:y=s:=by simpa using hs
       subst this;rw[List.take_left];exact⟨hy,by simpa using h3⟩
     · exact words_out d _ t h2 i s (by rw[List.length_append];show l.length+1≤i;omega) hs
theorem words_sub {can can':List (List UInt8)}(hc:∀s,s∈can→s∈can'):∀(d:Nat) (l t:List (List UInt8)),t∈wordsL can d l→t∈wordsL can' d l
 | 0,_,_,h=> h
 | d + 1,l,t,h=> by
   obtain⟨s,h1,h2⟩:=List.mem_flatMap.1 h;refine List.mem_flatMap.2 ⟨s,hc s h1,?_⟩;split at h2
   · cases h2
   · rename_i h3
     rw[if_neg h3];exact words_sub hc d _ t h2
theorem least_ex {w:Nat→Int}(L:List (List (List UInt8)))(hL:L≠ []):∃b,Least w L b:=by
 have h:∀i,i<L.length→∃b,Least w (L.take (i+1)) b:=by
   intro i;induction i with
   | zero=>
     intro hi;have e:L.take (0+1)= [L[0]]:=by rw[List.take_add_one,List.getElem?_eq_getElem hi];rfl
     rw[e];exact⟨L[0],List.mem_singleton.2 rfl,fun t ht=> by rw[List.mem_singleton.1 ht];exact⟨Int.le_refl _,fun _=> lexB_irr _⟩⟩
   | succ i ih=>
     intro hi;obtain⟨b,hb⟩:=ih (by omega);have e:L.take (i+1+1)=L.take (i+1)++[L[i+1]]:=by rw[List.take_add_one,List.getElem?_eq_getElem hi];rfl
     rw[e];exact⟨_,least_step hb⟩
 have hl:0<L.length:=List.length_pos_iff.2 hL;obtain⟨b,hb⟩:=h (L.length-1) (by omega);rw[show L.length-1+1=L.length by omega,List.take_length] at hb;exact⟨b,hb⟩
theorem cheap_cases {w:Nat→Int}{nw digits most:Nat}(hw:∀i,i<nw→0≤w i)(hm:most<4)(hd:digits<4):(wordsL (canTo most digits) nw []= []∧cheap w nw digits most=⟨false,0,[]⟩)∨∃b,Least w (wordsL (canTo most digits) nw []) b∧cheap w nw digits most=⟨true,costL w b,b⟩:=by
 by_cases c:wordsL (canTo most digits) nw []= []
 · exact .inl ⟨c,cheap_none hw c⟩
 · obtain⟨b,hb⟩:=least_ex (w:=w) _ c;exact .inr ⟨b,hb,cheap_least hw hm hd hb⟩
theorem canTo_digits {most digits:Nat}{s:List UInt8}(h:s∈canTo most digits):s∈canTo most (digits+1):=by
 rw[canTo_succ];exact List.mem_append_left _ h
theorem canTo_most:∀most,most<3→∀digits,digits<4→∀s∈canTo most digits,s∈canTo (most+1) digits:=by decide +kernel
theorem canTo_pos:∀most,1≤most→most<4→∀digits,1≤digits→digits<4→1≤(canTo most digits).length∧(canTo most digits).length≤40:=by
 intro most h1 h2 digits h3 h4;rcases(by omega:most=1∨most=2∨most=3) with rfl|rfl|rfl;all_goals rcases(by omega:digits=1∨digits=2∨digits=3) with rfl|rfl|rfl
 all_goals decide +kernel
theorem canTo_num:∀most,most<4→∀digits,digits<4→∀s∈canTo most digits,isNum s=true:=by decide +kernel
theorem cheap_more {w:Nat→Int}{nw d m d' m':Nat}(hw:∀i,i<nw→0≤w i)(hm:m<4)(hd:d<4)(hm':m'<4)(hd':d'<4)(hc:∀s,s∈canTo m d→s∈canTo m' d')(h:(cheap w nw d m).done=true):(cheap w nw d' m').done=true∧(cheap w nw d' m').total≤(cheap w nw d m).total:=by
 rcases cheap_cases (digits:=d) (most:=m) hw hm hd with ⟨_,e⟩|⟨b,hb,e⟩
 · rw[e] at h;cases h
 have hb2:=words_sub hc nw [] b hb.1;rcases cheap_cases (digits:=d') (most:=m') hw hm' hd' with ⟨h1,_⟩|⟨b',hb',e'⟩
 · rw[h1] at hb2;cases hb2
 rw[e,e'];exact⟨rfl,(hb'.2 b hb2).1⟩
theorem cheap_given {w:Nat→Int}{nw d m:Nat}(hw:∀i,i<nw→0≤w i)(hm:m<4)(hd:d<4){gv:List (List UInt8)}(hg:∀i s,gv[i]? =some s→s∈canTo m d∧nearL (gv.take i) s=false)(hl:gv.length=nw):(cheap w nw d m).done=true∧(cheap w nw d m).total≤costL w gv:=by
 have h1:=words_in nw [] gv hl fun i s hs=> by
   rw[List.nil_append];exact hg i s hs
 rw[List.nil_append] at h1;rcases cheap_cases (digits:=d) (most:=m) hw hm hd with ⟨h2,_⟩|⟨b',hb',e'⟩
 · rw[h2] at h1;cases h1
 rw[e'];exact⟨rfl,(hb'.2 gv h1).1⟩
theorem cheap_best {w:Nat→Int}{nw d m:Nat}(hw:∀i,i<nw→0≤w i)(hm:m<4)(hd:d<4)(h:(cheap w nw d m).done=true):(cheap w nw d m).best.length=nw∧(∀i s,(cheap w nw d m).best[i]? =some s→s∈canTo m d∧nearL ((cheap w nw d m).best.take i) s=false)∧(cheap w nw d m).total=costL w (cheap w nw d m).best:=by
 rcases cheap_cases (digits:=d) (most:=m) hw hm hd with ⟨_,e⟩|⟨b,hb,e⟩
 · rw[e] at h;cases h
 rw[e];refine⟨?_,fun i s hs=> words_out nw [] b hb.1 i s (Nat.zero_le _) hs,rfl⟩;obtain⟨m',rfl,h1,_⟩:=mem_words _ _ _ hb.1;simpa using h1
theorem begins_min(a s:List UInt8):(a.take (min a.length s.length)==s.take (min a.length s.length))=clash1 a s:=by
 unfold clash1 begins;rw[Bool.eq_iff_iff];simp only[beq_iff_eq,Bool.or_eq_true,Bool.and_eq_true,decide_eq_true_eq];rcases Nat.le_total a.length s.length with h|h
 · rw[Nat.min_eq_left h,List.take_of_length_le (Nat.le_refl a.length)];constructor
   · intro h1;exact .inr ⟨h,h1.symm⟩
   · rintro(⟨h1,h2⟩|⟨_,h2⟩)
     · have h3:a.length=s.length:=by omega
       rw[h3,List.take_of_length_le (Nat.le_refl s.length)];rw[List.take_of_length_le (by omega)] at h2;exact h2
     · exact h2.symm
 · rw[Nat.min_eq_right h,List.take_of_length_le (Nat.le_refl s.length)];constructor
   · intro h1;exact .inl ⟨h,h1⟩
   · rintro(⟨_,h2⟩|⟨h1,h2⟩)
     · exact h2
     · have h3:a.length=s.length:=by omega
       rw[List.take_of_length_le (by omega)] at h2;rw[List.take_of_length_le (by omega)];exact h2.symm
section
variable(M:Md prog)(H:View)
theorem free_c(G:Option Addr)(gc:Nat)(l:List (List UInt8))(hG:StrsAt H G l.length (fun j=> l[j]?.getD []))(hl:l.length≤1000000)(hl2:∀x∈l,x.length≤1000)(s:List UInt8)(hsl:s.length≤1000)(t:Bool)(ht:nearL l s=t):
   CallT M 56 #[.slice G l.length gc,strV s] H (fun v H'=> H.le H'∧v=.bool (!t)):=by
 rw[←ht];clear ht t;refine .en func56 ntmps56 fun St c cs hK=> ?_;refine U10 ?_;refine Tc.db (Tc.loopInv (σ:= { j:Nat//j≤l.length∧∀i y,i<j→l[i]? =some y→clash1 y s=false }) (fun j=> ([(0,.slice G l.length gc),(1,strV s),(5,.int .i64 (j.1:Nat))],[])) (fun j=> l.length-j.1) ?_ ⟨0,Nat.zero_le _,fun i x hi=> absurd hi (Nat.not_lt_zero i)⟩);rintro⟨j,hj,hno⟩ ih;show Tc M St _ _ _ _ [(0,.slice G l.length gc),(1,strV s),(5,.int .i64 (j:Nat))] [] _ _;by_cases c1:j=l.length
 · clear ih;subst c1;rw[nearL_no.2 hno] at hK;refine U14 ?_;refine .rt hK func56 results56 [_] ?_;exact okB
 · have c2:j<l.length:=by omega
   obtain⟨xb,xo,xf,xs,xt,xz,y,rfl,hxb,hy,f4⟩:=strs_at hG c2;have hyl:=hl2 y (List.mem_of_getElem? hy);have hno2:clash1 y s=false→∀i x,i<j+1→l[i]? =some x→clash1 x s=false:=by
     clear ih;intro h i x hi hx;by_cases q:i=j
     · subst q;rw[hy] at hx;cases hx
       exact h
     · exact hno i x (by omega) hx
   have hbm:=begins_min y s;obtain⟨m,hm⟩:∃m,min y.length s.length=m:=⟨_,rfl⟩
   rw[hm] at hbm;have hm1:m≤y.length∧m≤s.length∧m≤1000:=by omega
   have hmin:(if((s.length:Nat):Int)<((y.length:Nat):Int) then((s.length:Nat):Int) else((y.length:Nat):Int))=(m:Nat):=by split <;> omega
   have f5:RL.strB .eql ((y.drop (0:Int).toNat).take (((m:Nat):Int).toNat-(0:Int).toNat)) ((s.drop (0:Int).toNat).take (((m:Nat):Int).toNat-(0:Int).toNat))=some (.bool (clash1 y s)):=by
     rw[←hbm];rfl
   cases hcl:clash1 y s with
   | true=>
     rw[hcl] at f5;rw[nearL_yes hy hcl] at hK;clear ih;refine U21 ?_;refine .x (OpV.min rfl rfl rfl rfl rfl rfl (by assumption)) ?_;refine U3 ?_;refine Tc.dr [] [] mixed rfl ?_;refine .nn 0 ?_;refine .nn 1 ?_;refine .nn 2 ?_;refine .nn 3 ?_;refine .nn 4 ?_;refine .q 5 rfl (OpV.sliceS (E:=en) rfl rfl rfl rfl rfl rfl (by omega) (by omega) (by omega)) ?_;refine .nn 6 ?_;refine .nn 7 ?_;refine .q 8 rfl (OpV.sliceS (E:=en) rfl rfl rfl rfl rfl rfl (by omega) (by omega) (by omega)) ?_;refine .nn 9 ?_;refine .dn ?_;refine U5 ?_;refine .rt hK func56 results56 [_] ?_;exact okB
   | false=>
     rw[hcl] at f5;have hih:=ih ⟨j+1,by omega,hno2 hcl⟩ (by simp only;omega);clear ih;refine U21 ?_;refine .x (OpV.min rfl rfl rfl rfl rfl rfl (by assumption)) ?_;refine U3 ?_;refine Tc.dr [] [] mixed rfl ?_;refine .nn 0 ?_;refine .nn 1 ?_;refine .nn 2 ?_;refine .nn 3 ?_;refine .nn 4 ?_;refine .q 5 rfl (OpV.sliceS (E:=en) rfl rfl rfl rfl rfl rfl (by omega) (by omega) (by omega)) ?_;refine .nn 6 ?_;refine .nn 7 ?_;refine .q 8 rfl (OpV.sliceS (E:=en) rfl rfl rfl rfl rfl rfl (by omega) (by omega) (by omega)) ?_;refine .nn 9 ?_;refine .dn ?_;refine U8 ?_;exact Tc.db (hih)
theorem costs_c(A:Option Addr)(nw wc:Nat)(w:Nat→Int)(hA:FreeAt H A nw w)(hw:∀i,i<nw→0≤w i∧w i≤99)(G:Option Addr)(gc:Nat)(l:List (List UInt8))(hG:StrsAt H G l.length (fun j=> l[j]?.getD []))(hl:l.length≤nw)(hn:nw≤3)(hd:∀s∈l,isNum s=true):
   CallT M 57 #[.slice A nw wc,.slice G l.length gc] H (fun v H'=> H.le H'∧v=.tuple ⟨[.int .i64 (costL w l),.bool true]⟩):=by
 refine .en func57 ntmps57 fun St c cs hK=> ?_;refine U15 ?_;refine Tc.db (Tc.loopInv (σ:= { j:Nat//j≤l.length∧0≤costL w (l.take j)∧costL w (l.take j)≤2970*(j:Nat) }) (fun j=> ([(0,.slice A nw wc),(1,.slice G l.length gc),(6,.int .i64 (costL w (l.take j.1))),(7,.int .i64 (j.1:Nat))],[])) (fun j=> l.length-j.1) ?_ ⟨0,Nat.zero_le _,Int.le_refl _,Int.le_refl _⟩);rintro⟨j,hj,hj0,hj1⟩ ih;show Tc M St _ _ _ _ [(0,.slice A nw wc),(1,.slice G l.length gc),(6,.int .i64 (costL w (l.take j))),(7,.int .i64 (j:Nat))] [] _ _;by_cases c1:j=l.length
 · clear ih;have e:l.take j=l:=by rw[c1,List.take_length]
   rw[e,c1];refine U22 ?_;refine .rt hK func57 results57 [_,_] ?_;exact okB
 · have c2:j<l.length:=by omega
   have c3:j<nw:=by omega
   obtain⟨xb,xo,xf,xs,xt,xz,y,rfl,hxb,hy,f4⟩:=strs_at hG c2;obtain h0|⟨ab,ao,f,gs,gt,gz,rfl,hb,hlw⟩:=hA
   · omega
   have f5:=hlw j c3;have hin:=hd y (List.mem_of_getElem? hy);have hin2:y.all dig=true∧y.length≤3:=by
     unfold isNum at hin;simp only[Bool.and_eq_true,decide_eq_true_eq] at hin;exact⟨hin.2,hin.1.2⟩
   have epv:pulsesV y=.tuple ⟨[.int .i64 (takenN y:Nat),.int .i64 0]⟩:=if_neg (by simp[hin]);have hpo:=fun(H':View)=> isV (Pulses_c M H' y (by omega)) epv;have ht:=takenN_le y hin2.1;obtain⟨hm0,hm1⟩:=wmul (a:=w j) (t:=takenN y) (hw j c3) (by omega);have hct:=costL_take (w:=w) hy;have hih:=ih ⟨j+1,by omega,by omega,by omega⟩ (by simp only;omega);simp only[hct] at hih;clear ih hct epv;have m1:intBin .mul .i64 (w j) ((takenN y:Nat):Int)=some (.int .i64 (w j*(takenN y:Nat))):=mul_in (by omega) (by omega);generalize w j*(takenN y:Nat)=z at hm0 hm1 hih m1;have e1:intBin .add .i64 (costL w (l.take j)) z=some (.int .i64 (costL w (l.take j)+z)):=add_in (by omega) (by omega);refine U24 ?_;refine .c rfl rfl rfl rfl (fun H hs=> .h (hpo H)) ?_;refine U31 ?_;exact Tc.db (hih)
end
end Go.Proofs.YtdnfdeplcjaonaaGreatDoor
namespace Go.RL
section
variable {P:Program}{n:Nat}{H₀:View}{R:Rg}{L:Bl}{o:Oper}{E:Env P}
theorem OpV.sliceF {t e:TypeId}{x:Operand}{lo hi:Option Operand}{l h:Int}{len cap:Nat}{F:Option Addr}{r re:TyRow}(hop:o.op=.slice t x lo hi none)(hx:evR R x=some (.slice F len cap))(ht:E.ty t=some r)(hds:r.ds=.slice e)
   (hre:E.ty e=some re) (hlo:bound R lo 0=some l) (hhi:bound R hi len=some h) (h0:0≤l) (h1:l≤h) (h2:h≤cap):
   OpV P n H₀ R L o (.slice (if cap=l.toNat then F else F.map (·.add (l.toNat*re.size))) (h.toNat-l.toNat) (cap-l.toNat)):=
 (fun H tmps _ hr=> by
   unfold execOp;rw[hop];simp only[hr.ev hx];refine vwp_bind (Instr.sliceAt t _ _ _ _) _ ?_;refine vwp_bind (underlying t) _ (vwp_underlying (ds_slice ((E.ok _ _ ht).ds.trans hds)) ?_);refine vwp_bind (underlying t) _ (vwp_underlying (ds_slice ((E.ok _ _ ht).ds.trans hds)) ?_);show vwp P ((Instr.sliceBounds true len cap (lo.map (evT tmps)) (hi.map (evT tmps)) none).bind fun b=> _) H _;refine vwp_bind _ _ (vwp_sliceBounds hr hlo hhi h0 h1 h2 ?_);refine vwp_bind (sizeOf e) _ (vwp_sizeOf (E.ok _ _ hre).size ?_);exact⟨rfl,rfl⟩)
theorem src_part {H:View}{G:Option Addr}{n c:Nat}{L:List Value}(h:SrcAt H 1 (.slice G n c) n L)(hc:n≤c){l m:Int}(h0:0≤l)(h1:l≤m)(h2:m≤(n:Nat)):
   SrcAt H 1 (.slice (if c=l.toNat then G else G.map (·.add (l.toNat*1))) (m.toNat-l.toNat) (c-l.toNat)) (m.toNat-l.toNat) ((L.drop l.toNat).take (m.toNat-l.toNat)):=by
 obtain⟨_,hl,h3⟩:=h;refine⟨⟨_,_,rfl⟩,by rw[List.length_take,List.length_drop];omega,?_⟩;rcases h3 with ⟨_,_,h4,h5⟩|⟨b,off,c',f,cs,e,fz,h4,h5,h6,h7⟩
 · exact .inl ⟨_,_,rfl,by rw[h5];simp⟩
 · simp only[Value.slice.injEq,true_and] at h4;obtain⟨rfl,rfl⟩:=h4;by_cases q:c=l.toNat
   · exact .inl ⟨_,_,rfl,List.length_eq_zero_iff.1 (by rw[List.length_take,List.length_drop];omega)⟩
   · rw[if_neg q];refine .inr ⟨b,off+l.toNat*1,c-l.toNat,f,cs,e,fz,?_,h5,?_,?_⟩
     · rw[Option.map_some,add_off ⟨b,off,none⟩ _ rfl]
     · rw[List.length_take,List.length_drop];omega
     · have hlen:((L.drop l.toNat).take (m.toNat-l.toNat)).length=m.toNat-l.toNat:=by rw[List.length_take,List.length_drop];omega
       rw[hlen];have h8:(cs.drop off).take L.length=L:=h7;rw[←h8,List.drop_take,List.take_take,List.drop_drop,Nat.mul_one,Nat.min_eq_left (by rw[hl];omega)]
end
end Go.RL
namespace Go.RL
open Go.Conc
section
variable {P:Program}{M:Md P}{St:View→Goroutine→Prop}{n:Nat}{b:FB}{H₀:View}{cs:List Frame}{R:Rg}{L:Bl}{ds:List Deferred}{k:List Item}{S:Array Bool→View→Prop}{md:Region.Mode}{ops:Array Oper}
end
end Go.RL
