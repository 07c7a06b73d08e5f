/-
 Texts of the proofs over baudot/dial.
-/
import Derived.Test.YtldmfjcgjdchcaaGreatDoorS16
namespace Go.Proofs.YtldmfjcgjdchcaaGreatDoor
open Go.RL Go.Proofs.Tryz
set_option maxRecDepth 10000
set_option maxHeartbeats 16000000
theorem FQ {n:Nat}(h:n<10):IF n= [UInt8.ofNat (48+n)]:=if_pos h
theorem s9 {n:Nat}(h:10<=n)(h2:n<100):IF n=IF (n/10)++[UInt8.ofNat (48+n%10)]:=by
 rw[FQ (show n/10<10 by omega)];exact if_neg (show ¬n<10 by omega)
theorem l7 {l:By}{i:Nat}(h:i<l.length):(l.drop i).reverse=(l.drop (i+1)).reverse++[l[i]]:=by
 rw[List.drop_eq_getElem_cons h,List.reverse_cons]
theorem C1 {l:By}{J:List Value}{i:Nat}(h:i<l.length):zE false 1 (UA l++J) (0+((i:Nat):Int).toNat*1)=some (.int .u8 (l[i].toNat:Nat)):=by
 have e:(0+((i:Nat):Int).toNat*1)=i:=by omega
 rw[e];show(UA l++J)[i]? =_;rw[List.getElem?_append_left (by rw[WG];exact h)];unfold UA;rw[List.getElem?_map,List.getElem?_eq_getElem h];rfl
section
variable(M:Md prog)(H:View)
theorem mX(n:Nat)(h:n<100):fA M 97 #[.nt n] H (Ib H (bA (IF n))):=by
 refine .en func97 ntmps97 fun St c cs hK=> ?_;refine AJ ?_;refine Tc.db (R':= [(0,.nt n),(3,.bool false),(4,.slice none 0 0)]) (L':= []) ?_;refine VG (fun R' L'=> ∃g:Gl 5 1,g.n=(IF n).length/\g.l=UA (IF n).reverse/\pC [(3,.bool false),(4,g.val)] R'/\List.Sublist g.bl L') ?_ (fun fin=> ?_)
 rotate_left
 ·refine Tc.db (Tc.qA (σ:= { x:Nat×Gl 5 1×By//x.1<100/\IF n=IF x.1++x.2.2.reverse/\x.2.1.l=UA x.2.2/\x.2.1.n=x.2.2.length/\x.2.2.length<=1/\(10<=x.1->x.2.2= []) }) (fun x=> ([(0,.nt x.1.1),(3,.bool false),(4,x.1.2.1.val)],x.1.2.1.bl)) (fun x=> x.1.1) ?_ ⟨(n,Gl.nil 5 1,[]),h,by simp,rfl,rfl,by simp,fun _=> rfl⟩);rintro⟨⟨m,g,acc⟩,hm,he,JE,XC,W4,ha⟩ ih;simp only at hm he JE XC W4 ha;dsimp only;have r1:iA .rem .i64 ((m:Nat):Int) 10=some (.int .i64 ((m%10:Nat):Int)):=by rw[rem_in oM oM];congr 2 <;> omega
  have a1:iA .add .i64 48 ((m%10:Nat):Int)=some (.int .i64 ((48+m%10:Nat):Int)):=by rw[pB oM oM];congr 2 <;> omega
  have w1:IntKind.u8.wrap ((48+m%10:Nat):Int)=(((UInt8.ofNat (48+m%10)).toNat:Nat):Int):=by
   rw[aEN _ oM,UInt8.toNat_ofNat'];omega
  have q1:iA .quo .i64 ((m:Nat):Int) 10=some (.int .i64 ((m/10:Nat):Int)):=by rw[ON oM oM oM];congr 2 <;> omega
  by_cases c1:m<10
  ·clear ih;rw[FQ c1] at he;rw[show m%10=m by omega] at r1 a1 w1;rw[show m/10=0 by omega] at q1;generalize UInt8.ofNat (48+m)=y at w1 he;refine fN ?_;refine .e (.bs (zz:=fun bs=> ?_));refine .e (Or.append (E:=en) 1 rfl rfl rfl rfl rfl rfl rfl rfl rfl rfl rfl rfl rfl rfl rfl (fun H hs=> RA.of (hs.get (i:=0) rfl) Nb) rfl oM rfl dE (fun g2 dI LG=> ?_));refine AJ ?_;exact fin _ _ ⟨g2,by rw[dI,XC,he];simp,by rw[LG,JE,he,List.reverse_append,List.reverse_reverse,NI];rfl,⟨rfl,rfl,trivial⟩,sL⟩
  ·have c2:10<=m:=by omega
   obtain rfl:=ha c2;rw[s9 c2 hm] at he;have vG:=fun g2 h1 h2=> ih ⟨(m/10,g2,[UInt8.ofNat (48+m%10)]),by simp only;omega,by simp only;rw[he];simp,h2,h1,by simp,by simp only;omega⟩ Ob;simp only at vG;clear ih;generalize UInt8.ofNat (48+m%10)=y at w1 he vG;refine fN ?_;refine .e (.bs (zz:=fun bs=> ?_));refine .e (Or.append (E:=en) 1 rfl rfl rfl rfl rfl rfl rfl rfl rfl rfl rfl rfl rfl rfl rfl (fun H hs=> RA.of (hs.get (i:=0) rfl) Nb) rfl oM rfl dE (fun g2 dI LG=> ?_));refine LI ?_;exact Tc.db (vG g2 (by rw[dI,XC];rfl) (by rw[LG,JE];rfl))
 rintro R' L' ⟨g,hn,hl,hR,hL⟩;refine Tc.yC ?_ hR hL;clear hR hL;have hlen:=(DQ n h).2.2.2.2.2.1;have aB:=(DQ n h).2.2.2.2.2.2;have uI:1<=(IF n).length:=List.length_pos_iff.2 aB;obtain⟨x,hv,BV⟩:=E7 g oM;rw[hn] at hv;rw[hl] at BV;rw[hv,BV];obtain⟨q,hq⟩:∃q,q=(IF n).reverse:=⟨_,rfl⟩
 have hrl:(IF n).length=q.length:=by rw[hq,List.length_reverse]
 have L2:IF n=q.reverse:=by rw[hq,List.reverse_reverse]
 rw[<-hq,hrl];rw[hrl] at hlen uI;show Tc M St _ _ _ _ [(3,.bool false),(4,.sl x.1 q.length x.2.1)] [Bb x.1 (UA q++x.2.2) 5] _ _;show Tc M St _ _ _ _ [(3,.bool false),(4,.sl x.1 q.length x.2.1)] [Bb x.1 (UA q++x.2.2) 5] _ _;have e0:iA .sub .i64 ((q.length:Nat):Int) 1=some (.int .i64 (((q.length:Nat):Int)-1)):=pH oM oM;refine eO ?_;refine Tc.yC (Tc.qA (σ:= { i:Nat//i<=q.length }) (fun i=> ([(4,.sl x.1 q.length x.2.1),(6,bA (q.drop i.1).reverse),(7,.iz ((i.1:Nat)-1))],[Bb x.1 (UA q++x.2.2) 5])) (fun i=> i.1) ?_ ⟨q.length,Nat.le_refl _⟩) (by simp only[List.drop_length];exact⟨rfl,rfl,rfl,trivial⟩) sL;rintro⟨i,hi⟩ ih;dsimp only;by_cases c1:i=0
 ·clear ih;subst c1;rw[List.drop_zero];refine JG ?_;refine .rt hK func97 results97 [_] ?_;exact fun H' hs=> ⟨hs.base,by rw[L2];rfl⟩
 ·obtain⟨j,rfl⟩:∃j,i=j+1:=⟨i-1,oM⟩
  have e1:(((j+1:Nat):Int)-1)=(j:Nat):=by omega
  have hj:j<q.length:=by omega
  have vG:=ih ⟨j,oM⟩ Ob;simp only[l7 hj] at vG;clear ih;have f1:=C1 (J:=x.2.2) hj;have kP:((q.drop (j+1)).reverse).length<=10:=by rw[List.length_reverse,List.length_drop];omega
  generalize (q.drop (j+1)).reverse=w at vG kP ⊢;generalize q[j]=y at vG f1;have s1:RL.LB .add w [y]=some (bA (w++[y])):=UB (by simp only[List.length_singleton];omega);rw[e1];refine LI ?_;refine .e (.bs (zz:=fun bs=> ?_));refine .x (pA.aFg (E:=en) (m:=1) (s:= [y]) rfl rfl (fun H hs=> RA.of (hs.get (i:=0) rfl) Nb) rfl rfl rfl rfl rfl rfl) ?_;refine U9 ?_;exact Tc.db (vG)
theorem QG(z:Int)(h:m6 z):fA M 97 #[.iz z] H (Ib H (bA (vH z))):=by
 obtain⟨n,rfl⟩:=Int.eq_ofNat_of_zero_le h.1;exact mX M H n (by have:=h.2;omega)
theorem fO(a b:Int)(ha:m6 a)(hb:m6 b):fA M 100 #[SC a b] H (Ib H (bA (aF a b))):=by
 have l1:=PE ha;have l2:=PE hb;by_cases e:a=b
 ·subst e;have hT:aF a a=vH a:=if_pos rfl;rw[hT];refine .en func100 ntmps100 fun St c cs hK=> ?_;refine U2 ?_;refine .bo fun b1=> ?_;refine LI ?_;refine .cl (fun H hs=> QG M H a ha) ?_;refine U2 ?_;refine .rt hK func100 results100 [_] ?_;exact okB
 ·have hT:aF a b=vH a++[58]++vH b:=by
   unfold aF;rw[if_neg e,List.append_assoc];rfl
  rw[hT];have c1:=fun H=> QG M H a ha;have c2:=fun H=> QG M H b hb;generalize vH a=p at l1 c1;generalize vH b=q at l2 c2;have s1:RL.LB .add p [58]=some (bA (p++[58])):=UB (by simp only[List.length_singleton];omega);have s2:RL.LB .add (p++[58]) q=some (bA (p++[58]++q)):=UB (by simp only[List.length_append,List.length_singleton];omega);refine .en func100 ntmps100 fun St c cs hK=> ?_;refine U2 ?_;refine .bo fun b1=> ?_;refine MF ?_;refine Tc.dr [] [] mixed rfl ?_;refine V2 0 ?_;refine .z 2 rfl (pA.tk fun H hs=> c1 H) ?_;refine V3 3 ?_;refine .z 6 rfl (pA.tk fun H hs=> c2 H) ?_;refine V2 7 ?_;refine .dn ?_;refine .rt hK func100 results100 [_] ?_;exact okB
theorem yW(k:Bk)(A:Option Addr)(lc:Nat)(B:Option Addr)(tc:Nat)(hk:QD H k A lc B tc)(hn:k.small)(j5:∀i,i<k.nl->(k.name i).length<=1000000)(ha:k.WA≠0):
  fA M 33 #[k.val A lc B tc] H (Ib H (.tuple ⟨[bA [],.iz k.WA]⟩)):=by
 have ho:=fun(H':View) (h:H.le H')=> lH M H' k A lc B tc (hk.le h) hn j5;have e2:iA .neq .i64 k.WA 0=some (.bool true):=BI ha;generalize k.WA=a at ho e2;refine .en func33 ntmps33 fun St c cs hK=> ?_;refine U2 ?_;refine .bo fun b1=> ?_;refine U7 ?_;refine .cl (fun H hs=> ho H hs.base) ?_;refine MF ?_;refine .rt hK func33 results33 [_,_] ?_;exact okB
theorem YV {sz off d z:Nat}{gs c:List Value}(h:zE true sz gs off=some (.agg ⟨c⟩))(hd:d+z<=sz):zE true z gs (off+d)=some (.agg ⟨(c.drop d).take z⟩):=by
 have h1:=(tQ h).1;rw[uQ h1] at h;simp only[Option.some.injEq,Value.agg.injEq,Array.mk.injEq] at h;rw[uQ oM,<-h,List.drop_take,List.take_take,List.drop_drop,Nat.min_eq_left oM]
theorem CY(k:Bk)(A:Option Addr)(lc:Nat)(B:Option Addr)(tc:Nat)(hk:QD H k A lc B tc)(hn:k.small)(j5:∀i,i<k.nl->(k.name i).length<=1000000)(ha:k.WA=0)(hp:Prt k):
  fA M 33 #[k.val A lc B tc] H (Ib H (.tuple ⟨[bA (sY k),.iz 0]⟩)):=by
 have ho:=fun(H':View) (h:H.le H')=> lH M H' k A lc B tc (hk.le h) hn j5;rw[ha] at ho;have hS0:=xN hp;have hR0:=EG (bH k);have hL0:(bH k).length=3:=rfl;refine .en func33 ntmps33 fun St c cs hK=> ?_;refine U2 ?_;refine .bo fun b1=> ?_;refine U7 ?_;refine .cl (fun H hs=> ho H hs.base) ?_;refine iD ?_;refine Tc.dr [] [] mixed rfl ?_;refine V2 0 ?_;refine .z 2 rfl (pA.tk fun H hs=> QG M H k.aD hp.aD) ?_;refine V2 3 ?_;refine .z 5 rfl (pA.tk fun H hs=> QG M H k.yB hp.yB) ?_;refine .ea 6 rfl (.bs (zz:=fun bs=> ⟨S2.mk sL (.inr sL),?_⟩));refine .ea 7 rfl (Or.R3 (pA.tk fun H hs=> LJ M H bB (some ⟨bs,0,none⟩) 2 [vH k.aD,vH k.yB] (CB (P:= [vH k.aD,vH k.yB]) (jj:= []) (hs.get (i:=0) rfl)) (by simp) dE (by have h1:=PE hp.aD;have h2:=PE hp.yB;simp only[gD,List.map_cons,List.map_nil,List.sum_cons,List.sum_nil,List.length_cons,List.length_nil];omega)) rfl dE ⟨S2.mk sL (.inr sL),?_⟩);refine .nn 8 ?_;refine .dn ?_;refine U6 ?_;have e0:BB k 0 0=BF (bH k):=by simp[BB]
 refine Tc.yC (Tc.qA (σ:= { i:Nat//i<=k.nl }) (fun i=> ([(1,.pt b1),(5,bA (BB k i.1 0)),(6,.nt i.1)],[Bb b1 [.iz k.aD,.iz k.yB,.slice A k.nl lc,.slice B k.nt tc] 45])) (fun i=> k.nl-i.1) ?_ ⟨0,Nat.zero_le _⟩) (by simp only[e0];exact⟨rfl,rfl,rfl,trivial⟩) sL;clear e0;rintro⟨i,hi⟩ ih;dsimp only;have TZ:=LH hp i hi;have oP:=hp.nl;have oL:=hp.nt;by_cases c1:i=k.nl
 ·clear ih;subst c1;refine II ?_;refine Tc.db (Tc.qA (σ:= { j:Nat//j<=k.nt }) (fun j=> ([(1,.pt b1),(5,bA (BB k k.nl j.1)),(10,.nt j.1)],[Bb b1 [.iz k.aD,.iz k.yB,.slice A k.nl lc,.slice B k.nt tc] 45])) (fun j=> k.nt-j.1) ?_ ⟨0,Nat.zero_le _⟩);rintro⟨j,hj⟩ ih;dsimp only;have TZ:=YI hp j hj;by_cases d1:j=k.nt
  ·clear ih;subst d1;refine II ?_;refine .rt hK func33 results33 [_,_] ?_;exact okB
  ·have d2:j<k.nt:=by omega
   obtain⟨_,h0|⟨ab,ao,f,gs,gt,gz,rfl,hb,hl⟩⟩:=hk.xC
   ·omega
   have f1:zE true 2 gs (ao+((j:Nat):Int).toNat*4+0)=some (SC (k.pf j) (k.pt j)):=YV (d:=0) (z:=2) (hl j d2) dE;have f2:zE true 2 gs (ao+((j:Nat):Int).toNat*4+2)=some (SC (k.qf j) (k.qt j)):=YV (d:=2) (z:=2) (hl j d2) dE;obtain⟨t1,t2,t3,t4⟩:=hp.tr j d2;have hS1:=BL hp d2;have hR1:=EG (aE k j);have hL1:(aE k j).length=3:=rfl;have hpt:=jH (k:=k) k.nl j;have s1:RL.LB .add (BB k k.nl j) (BF [IA,aF (k.pf j) (k.pt j),aF (k.qf j) (k.qt j)])=some (bA (BB k k.nl (j+1))):=by rw[hpt];exact UB (by show _+(BF (aE k j)).length<=_;omega)
   have GU:=fun(H':View) (b:Nat) (h:H' b=some (true,.cells ⟨[bA (aF (k.pf j) (k.pt j)),bA (aF (k.qf j) (k.qt j))]⟩ 9 (0,0)))=> LJ M H' IA (some ⟨b,0,none⟩) 2 [aF (k.pf j) (k.pt j),aF (k.qf j) (k.qt j)] (CB (P:= [aF (k.pf j) (k.pt j),aF (k.qf j) (k.qt j)]) (jj:= []) h) (by simp) dE (by simp only[gD,aE,List.map_cons,List.map_nil,List.sum_cons,List.sum_nil,List.length_cons,List.length_nil] at hS1 ⊢;omega);have vG:=ih ⟨j+1,oM⟩ Ob;clear ih;simp only at vG;refine JG ?_;refine Tc.dr [] [] mixed rfl ?_;refine V7 0 ?_;refine .z 7 rfl (pA.tk fun H hs=> fO M H (k.pf j) (k.pt j) t1 t2) ?_;refine V6 8 ?_;refine .z 14 rfl (pA.tk fun H hs=> fO M H (k.qf j) (k.qt j) t3 t4) ?_;refine .ea 15 rfl (.bs (zz:=fun bs=> ⟨S2.mk sL (.inr sL),?_⟩));refine .ea 16 rfl (Or.R3 (pA.tk fun H hs=> GU H bs (hs.get (i:=0) rfl)) rfl dE ⟨S2.mk sL (.inr sL),?_⟩);refine V2 17 ?_;refine .dn ?_;refine U6 ?_;exact Tc.db (vG)
 ·have c2:i<k.nl:=by omega
  obtain⟨_,h0|⟨ab,ao,f,gs,gt,gz,rfl,hb,hl⟩⟩:=hk.rows
  ·omega
  obtain⟨F,fc,f1,OX,hF⟩:=hl i c2;obtain⟨hf1,hf4⟩:=hp.nf i c2;have lP:=hp.free i c2;have hS1:=GN hp c2;have hR1:=EG (jG k i);have hL1:(jG k i).length=4:=rfl;have hpt:=iI (k:=k) i;have O7:=wN k i (k.nf i);have kS:=AK k i (k.nf i);have s1:RL.LB .add (BB k i 0) (BF [OA,k.name i,k.num i,eD 44 (IE k i (k.nf i))])=some (bA (BB k (i+1) 0)):=by rw[hpt];exact UB (by show _+(BF (jG k i)).length<=_;omega)
  have GU:=fun(H':View) (b:Nat) (h:H' b=some (true,.cells ⟨[bA (k.name i),bA (k.num i),bA (eD 44 (IE k i (k.nf i)))]⟩ 9 (0,0)))=> LJ M H' OA (some ⟨b,0,none⟩) 3 [k.name i,k.num i,eD 44 (IE k i (k.nf i))] (CB (P:= [k.name i,k.num i,eD 44 (IE k i (k.nf i))]) (jj:= []) h) (by simp) dE (by simp only[gD,jG,List.map_cons,List.map_nil,List.sum_cons,List.sum_nil,List.length_cons,List.length_nil] at hS1 ⊢;omega);have hww:∀(H':View) (A:Option Addr) (c:Nat),ZB H' A (k.nf i) (fun j=> (IE k i (k.nf i))[j]?.getD [])->fA M 99 #[.slice A (k.nf i) c] H' (fun v H''=> H'.le H''/\v=bA (eD 44 (IE k i (k.nf i)))):=fun H' A c h=> by
   have h2:=aT M H' A c (IE k i (k.nf i)) (by rw[kS];exact h) (fun e=> by rw[e] at kS;simp at kS;omega) oM
   rwa [kS] at h2
  have vG:=ih ⟨i+1,oM⟩ Ob;clear ih;simp only at vG;refine eO ?_;refine .al fun b7=> ?_;refine uH ?_;refine Tc.db (Tc.qA (σ:= { x:Nat×Gl 9 1//x.1<=k.nf i/\x.2.n=x.1/\x.2.l=zA (IE k i x.1) }) (fun x=> ([(1,.pt b1),(5,bA (BB k i 0)),(6,.nt i),(7,.pt b7),(8,x.1.2.val),(9,.nt x.1.1)],[Bb b7 [bA (k.name i),bA (k.num i),.slice F (k.nf i) fc] 68,Bb b1 [.iz k.aD,.iz k.yB,.slice (some ⟨ab,ao,none⟩) k.nl lc,.slice B k.nt tc] 45]++x.1.2.bl)) (fun x=> k.nf i-x.1.1) ?_ ⟨(0,Gl.nil 9 1),Nat.zero_le _,rfl,rfl⟩);rintro⟨⟨j,g2⟩,hj,dI,LG⟩ ih;simp only at hj dI LG;dsimp only;by_cases d1:j=k.nf i
  ·clear ih;subst d1;obtain⟨x,hv,BV⟩:=E7 g2 oM;rw[dI] at hv;rw[LG] at BV;rw[hv,BV];refine ND ?_;refine Tc.dr [] [] mixed rfl ?_;refine V6 0 ?_;refine .z 6 rfl (pA.tk fun H hs=> hww H (some ⟨x.1,0,none⟩) x.2.1 (aAd kS.symm (hs.get (i:=2) rfl))) ?_;refine .ea 7 rfl (.bs (zz:=fun bs=> ⟨S2.mk sL (.inr sL),?_⟩));refine .ea 8 rfl (Or.R3 (pA.tk fun H hs=> GU H bs (hs.get (i:=0) rfl)) rfl dE ⟨S2.mk sL (.inr sL),?_⟩);refine V2 9 ?_;refine .dn ?_;refine U6 ?_;exact Tc.db (vG)
  ·have d2:j<k.nf i:=by omega
   obtain⟨z1,z2⟩:=lP j d2;have f3:=mV ⟨z1,z2⟩;rcases hF with h0|⟨fb,fo,ff,fgs,fgt,fgz,rfl,hfb,aGX⟩
   ·omega
   have f2:=aGX j d2;refine JG ?_;refine Tc.drK [10] 2 mixed rfl ?_;refine .nn 0 ?_;refine .nw 2 ?_;refine .nw 3 ?_;refine .nw 4 ?_;refine .nw 5 ?_;refine .nw 6 ?_;refine Ta.WL 1 kR rfl rfl rfl rfl rfl rfl rfl dE (WB.h (MH M H)) (by intro _ _ hh;exact hh.1) sL (.inr sL) (fun v H₂ hv=> ?_);obtain⟨hle,cb,rfl,NZ⟩:=hv;refine .ea 7 rfl (Or.uS .ia rfl dE ⟨S2.bP (by assumption) sL (.inr sL),?_⟩);refine .ea 8 rfl (Or.uS .l0 rfl dE ⟨S2.bP (by assumption) sL (.inr sL),?_⟩);refine .ea 9 rfl (.bs (zz:=fun bs=> ⟨S2.bP (by assumption) sL (.inr sL),?_⟩));refine .ea 10 rfl (Or.append (E:=en) (g:=g2) (m:=1) (new:= [bA (EB (k.free i j))]) (yv:=.slice (some ⟨bs,0,none⟩) 1 1) 3 rfl rfl rfl rfl rfl rfl rfl rfl rfl rfl rfl rfl rfl rfl rfl (fun H hs=> RA.of (hs.get (i:=0) rfl) Nb) rfl oM rfl dE (fun g3 AN EJ=> ⟨S2.bP (by assumption) sL (.inl kR),?_⟩));refine .ea 11 rfl (Or.uS .sg rfl dE ⟨S2.bP (by assumption) sL (.inl kR),?_⟩);refine .dn ?_;refine Tc.lower hle ?_;refine U6 ?_;exact Tc.db (ih ⟨(j+1,g3),by simp only;omega,by simp only;rw[AN,dI],by simp only;rw[EJ,LG,YP,eC];rfl⟩ Ob)
end
set_option maxHeartbeats 8000000
theorem aFm:prog.eqGuardType prog.depth 39=false:=by kernel_rfl
theorem CP(a b:Int):flat en 2 37 [.iz a,.iz b]:=by
 refine⟨rfl,?_⟩;intro f hf;simp only[List.mem_cons,List.not_mem_nil,or_false] at hf;rcases hf with rfl|rfl
 ·exact⟨⟨_,rfl⟩,_,rfl,rfl,Nat.le_of_ble_eq_true rfl⟩
 ·exact⟨⟨_,rfl⟩,_,rfl,rfl,Nat.le_of_ble_eq_true rfl⟩
theorem GO(a b c d:Int):flat en 3 39 [.iz a,.iz b,.iz c,.iz d]:=by
 refine⟨rfl,?_⟩;intro f hf;simp only[List.mem_cons,List.not_mem_nil,or_false] at hf;rcases hf with rfl|rfl
 ·exact⟨CP a b,_,rfl,rfl,Nat.le_of_ble_eq_true rfl⟩
 ·exact⟨CP c d,_,rfl,rfl,Nat.le_of_ble_eq_true rfl⟩
section
variable(M:Md prog)(H:View)
theorem XS(k:Bk)(B B':Option Addr)(tc tc':Nat)(hB:jD H k B tc)(hB':jD H k B' tc')(hn:k.nt<=1000):
  fA M 110 #[.slice B k.nt tc,.slice B' k.nt tc'] H (Ib H (.bool true)):=by
 refine .en func110 ntmps110 fun St c cs hK=> ?_;refine fN ?_;refine Tc.db (Tc.qA (σ:= { j:Nat//j<=k.nt }) (fun j=> ([(0,.slice B k.nt tc),(1,.slice B' k.nt tc'),(5,.nt j.1)],[])) (fun j=> k.nt-j.1) ?_ ⟨0,Nat.zero_le _⟩);rintro⟨j,hj⟩ ih;dsimp only;by_cases c1:j=k.nt
 ·subst c1;clear ih;refine MF ?_;refine .rt hK func110 results110 [_] ?_;exact okB
 ·have c2:j<k.nt:=by omega
  obtain⟨_,h0|⟨ab,ao,f,gs,gt,gz,rfl,hb,hl⟩⟩:=hB
  ·omega
  obtain⟨_,h0|⟨ab',ao',f',gs',gt',gz',rfl,qO,TX⟩⟩:=hB'
  ·omega
  have f1:=hl j c2;have f2:=TX j c2;refine JG ?_;refine Tc.dr [] [] mixed rfl ?_;refine V8 0 ?_;refine .q 8 rfl (pA.neA (E:=en) true 3 rfl rfl rfl rfl rfl aFm dE (GO (k.pf j) (k.pt j) (k.qf j) (k.qt j)) (GO (k.pf j) (k.pt j) (k.qf j) (k.qt j)) (by simp)) ?_;refine .dn ?_;refine U8 ?_;exact Tc.db (ih ⟨j+1,oM⟩ Ob)
theorem gX(a s:By)(F F':Option Addr)(n c' c'':Nat)(x:Nat->Int)(hF:PB H F n x)(hF':PB H F' n x)(hn:n<=1000):
  fA M 109 #[WK a s F n c',WK a s F' n c''] H (Ib H (.bool true)):=by
 have e1:RL.LB .eql a a=some (.bool true):=by simp[RL.LB]
 have e2:RL.LB .eql s s=some (.bool true):=by simp[RL.LB]
 have h1:=fun(H':View) (h:H.le H')=> QL M H' F F' n n c' c'' x x (hF.le h) (hF'.le h) oM oM true (by rw[decide_eq_true rfl,Bool.true_and];exact(kD _).2 fun i _=> decide_eq_true rfl);refine .en func109 ntmps109 fun St c cs hK=> ?_;refine U2 ?_;refine .bo fun b2=> ?_;refine .bo fun b3=> ?_;refine fN ?_;refine .cl (fun H hs=> h1 H hs.base) ?_;refine U3 ?_;refine .rt hK func109 results109 [_] ?_;exact okB
theorem aCw(k:Bk)(A A':Option Addr)(lc lc':Nat)(B B':Option Addr)(tc tc':Nat)(hk:QD H k A lc B tc)(hk':QD H k A' lc' B' tc')(hn:k.small):
  fA M 36 #[k.val A lc B tc,k.val A' lc' B' tc'] H (Ib H (.bool true)):=by
 have oP:=hn.nl;have aC:=fun(H':View) (h:H.le H')=> XS M H' k B B' tc tc' (hk.le h).xC (hk'.le h).xC hn.nt;refine .en func36 ntmps36 fun St c cs hK=> ?_;refine U2 ?_;refine .bo fun b2=> ?_;refine .bo fun b3=> ?_;refine U35 ?_;refine Tc.db (Tc.qA (σ:= { j:Nat//j<=k.nl }) (fun j=> ([(2,.pt b2),(3,.pt b3),(5,.nt j.1)],[Bb b3 ((k.val A' lc' B' tc').cells.toList) 45,Bb b2 ((k.val A lc B tc).cells.toList) 45])) (fun j=> k.nl-j.1) ?_ ⟨0,Nat.zero_le _⟩);rintro⟨j,hj⟩ ih;dsimp only;by_cases c1:j=k.nl
 ·subst c1;clear ih;refine II ?_;refine .cl (fun H hs=> aC H hs.base) ?_;refine U2 ?_;refine .rt hK func36 results36 [_] ?_;exact okB
 ·have c2:j<k.nl:=by omega
  obtain⟨_,h0|⟨ab,ao,f,gs,gt,gz,rfl,hb,hl⟩⟩:=hk.rows
  ·omega
  obtain⟨_,h0|⟨ab',ao',f',gs',gt',gz',rfl,qO,TX⟩⟩:=hk'.rows
  ·omega
  obtain⟨F,fc,f1,_,hF⟩:=hl j c2;obtain⟨F',fc',f2,_,hF'⟩:=TX j c2;have hsl:=fun(H':View) (h:H.le H')=> gX M H' (k.name j) (k.num j) F F' (k.nf j) fc fc' (k.free j) (hF.le h) (hF'.le h) (hn.num j c2).2;refine MF ?_;refine Tc.dr [] [] mixed rfl ?_;refine iZ 0 ?_;refine .z 10 rfl (pA.tk fun H hs=> hsl H hs.base) ?_;refine .nn 11 ?_;refine .dn ?_;refine U8 ?_;exact Tc.db (ih ⟨j+1,oM⟩ Ob)
end
set_option maxHeartbeats 16000000
theorem rW {s:By}(h:yJ s=true):fU s/\s.length<=9:=by
 unfold yJ at h;rw[Bool.and_eq_true] at h;have h1:=of_decide_eq_true h.1;have h2:=(kD _).1 h.2;have h3:∀x∈s,48<=x.toNat/\x.toNat≠59:=fun x hx=> by
  obtain⟨i,hi⟩:=List.mem_iff_getElem?.1 hx;have h4:=h2 i (List.getElem?_eq_some_iff.1 hi).1;unfold fI at h4;rw[hi] at h4;simp only[Bool.or_eq_true,Bool.and_eq_true] at h4;rcases h4 with h4|⟨_,h4⟩
  ·have:=of_decide_eq_true h4;omega
  ·have:=of_decide_eq_true h4;omega
 refine⟨⟨fun e=> by rw[e] at h1;simp at h1,fun hx=> (h3 _ hx).2 rfl,fun hx=> ?_⟩,h1.2⟩;have:=(h3 _ hx).1;exact absurd this dE
theorem wS {s:By}(h:isNum s=true):fU s/\s.length<=3:=by
 unfold isNum at h;rw[Bool.and_eq_true] at h;have h1:=of_decide_eq_true h.1;have h3:∀x∈s,48<=x.toNat/\x.toNat<58:=fun x hx=> of_decide_eq_true (List.all_eq_true.1 h.2 x hx);refine⟨⟨fun e=> by rw[e] at h1;simp at h1,fun hx=> ?_,fun hx=> ?_⟩,h1.2⟩
 ·have:=(h3 _ hx).2;exact absurd this dE
 ·have:=(h3 _ hx).1;exact absurd this dE
theorem aDy {k:Bk}(ha:k.WA=0):Prs k:=by
 obtain⟨⟨h1,h2,h3,h4⟩,h5,h6,h7⟩:=Bk.valid ha;refine⟨⟨⟨oM,oM⟩,⟨oM,oM⟩,h5,h6,fun i hi=> ?_,fun i hi=> ?_,fun i hi=> ?_,fun i hi=> ?_,fun j hj=> ?_⟩,fun i hi=> ?_,fun i hi=> ?_,fun j hj=> ?_⟩
 ·have:=(rW (Bk.FH ha hi).1).2;omega
 ·have:=(wS (Bk.FH ha hi).2.2.1).2;omega
 ·exact(Bk.FH ha hi).2.2.2.2.1
 ·exact(Bk.FH ha hi).2.2.2.2.2
 ·obtain⟨g1,g2,g3⟩:=Bk.yF h7 hj;exact⟨⟨oM,oM⟩,⟨oM,oM⟩,⟨oM,oM⟩,⟨oM,oM⟩⟩
 ·exact(rW (Bk.FH ha hi).1).1
 ·exact(wS (Bk.FH ha hi).2.2.1).1
 ·obtain⟨g1,g2,g3⟩:=Bk.yF h7 hj;omega
section
variable(M:Md prog)(H:View)
theorem Z5(hG:mG H)(k:Bk)(A:Option Addr)(lc:Nat)(B:Option Addr)(tc:Nat)(hk:QD H k A lc B tc)(hn:k.small)(ha:k.WA≠0):
  fA M 32 #[k.val A lc B tc] H (Ib H (.tuple ⟨[bA [],.iz k.WA]⟩)):=by
 have ho:=fun(H':View) (h:H.le H')=> XI M H' k A lc B tc true (hk.le h) hn (NA hG h) ha;generalize k.WA=a at ha ho;refine .en func32 ntmps32 fun St c cs hK=> ?_;refine U2 ?_;refine .bo fun b1=> ?_;refine U7 ?_;refine .cl (fun H hs=> ho H hs.base) ?_;refine U3 ?_;refine .al fun b4=> ?_;refine AJ ?_;refine .rt hK func32 results32 [_,_] ?_;exact okB
end
section
variable(H:View)
end
theorem wM:∀(xs:List By) (d:Nat) (t u:LF),t.Small (wl xs)->ZE xs d t=.inl u->u.Small 0
 | [],_,t,u,h,e=> by
  have e:Sum.inl t=(Sum.inl u:LF ⊕ Nat):=e;cases e
  exact h
 | x ::xs,d,t,u,h,e=> by
  cases hr:rowOf x with
  | none=> rw[LN xs d t hr] at e;cases e
  | some r=>
   cases hf:HE d t.la r with
   | false=> rw[iF xs d t hr hf] at e;cases e
   | true=>
    rw[EI xs d t hr hf] at e;rw[UE] at h;exact wM xs (d+1) _ u (h.put hr) e
theorem dU(s:By)(hm:s.length<=2000):(BE s).1.small:=by
 have hw:wl (xG s)<=s.length+1:=lR s;have h0:dK.bk.small:=(ZI (n:=0) oM).bk;unfold BE;cases ZX:ZE (xG s) 0 dK with
 | inr n=> exact h0
 | inl t=>
  have h1:=(wM _ _ _ _ (ZI oM) ZX).bk;simp only;split
  ·exact h0
  ·split
   ·exact h1
   ·exact h0
section
variable(H:View)
theorem aDx(hG:mG H)(hC:mR H)(k:Bk)(A:Option Addr)(lc:Nat)(B:Option Addr)(tc:Nat)(hk:QD H k A lc B tc)(hn:k.small)(j5:∀i,i<k.nl->(k.name i).length<=1000000)(M:Md prog):
  ∃(t:By) (a:Int),∀H',H.le H'->fA M 32 #[k.val A lc B tc] H' (fun v H''=> H'.le H''/\v=.tuple ⟨[bA t,.iz a]⟩)/\fA M 33 #[k.val A lc B tc] H' (fun v H''=> H'.le H''/\v=.tuple ⟨[bA t,.iz a]⟩):=by
 by_cases ha:k.WA=0
 ·have hp:=aDy ha;exact⟨_,_,fun H' h=> ⟨aAN M H' (NA hG h) (hC.le h) k A lc B tc (hk.le h) hn ha hp.prt,CY M H' k A lc B tc (hk.le h) hn j5 ha hp.prt⟩⟩
 ·exact⟨_,_,fun H' h=> ⟨Z5 M H' (NA hG h) k A lc B tc (hk.le h) hn ha,yW M H' k A lc B tc (hk.le h) hn j5 ha⟩⟩
theorem aAD {St:View->Goroutine->Prop}{cs:List Frame}(hG:mG H)(hC:mR H)(s:By)(k:Bk)(A:Option Addr)(lc:Nat)(B:Option Addr)(tc:Nat)(hk:QD H k A lc B tc)
  (hR:∀(H₀:View) (R:Rg) (L:Bl) (kk:List Item),lk R 4=some (.bool true)->H.le H₀->Tc (Mp prog) St 67 ⟨7,.normal,none⟩ H₀ cs R L [] (.code .ret::kk)):
  Tc (Mp prog) St 67 ⟨7,.normal,none⟩ H cs (gL [bA s,k.val A lc B tc]) [] [] [.code (kN Tryz.f7)]:=by
 have UX:=fun(H':View) (h:H.le H')=> aBt H' (NA hG h);have hgr:=fun(H':View) (h:H.le H')=> aAE (Mp prog) H' k A lc B tc (hk.le h).rows;cases hg:k.PJ with
 | true=>
  rw[hg] at hgr;refine U2 ?_;refine .bo fun b3=> ?_;refine U6 ?_;refine .cl (fun H hs=> hgr H hs.base) ?_;refine U9 ?_;refine .cl (fun H hs=> UX H hs.base) ?_;refine U2 ?_;exact hR _ _ _ _ rfl (View.le_refl _)
 | false=>
  rw[hg] at hgr;by_cases hm:2000<s.length
  ·refine U2 ?_;refine .bo fun b3=> ?_;refine U6 ?_;refine .cl (fun H hs=> hgr H hs.base) ?_;refine U9 ?_;refine .cl (fun H hs=> UX H hs.base) ?_;refine U2 ?_;exact hR _ _ _ _ rfl (View.le_refl _)
  ·have hm2:s.length<=2000:=by omega
   have hug:=Bk.O0 hg;obtain⟨t,a,hpr⟩:=aDx H hG hC k A lc B tc hk (Bk.HR hg) (fun i hi=> by have:=hug.2.2 i hi;omega) (Mp prog);have m5:=fun(H':View) (h:H.le H')=> Y5 (Mp prog) H' (NA hG h) (hC.le h) s hm2;have hqa:=fun(H':View)=> BY (Mp prog) H' s hm2;have rP:=dU s hm2;generalize BE s=pb at m5 hqa rP;obtain⟨kp,np,ap⟩:=pb;simp only at m5 hqa rP;have e1:RL.LB .neq t t=some (.bool false):=by simp[RL.LB]
   refine U2 ?_;refine .bo fun b3=> ?_;refine U6 ?_;refine .cl (fun H hs=> hgr H hs.base) ?_;refine ND ?_;refine .c rfl rfl rfl rfl (fun H hs=> .h (hpr H hs.base).1) ?_;refine U9 ?_;refine .c rfl rfl rfl rfl (fun H hs=> .h (hpr H hs.base).2) ?_;refine s6 ?_;refine To.YB rfl rfl rfl rfl rfl rfl dE (WB.h (m5 H (View.le_refl _))) (fun v H₁ hv=> ?_);obtain⟨h01,A1,lc1,B1,tc1,rfl,Z4⟩:=hv;refine U4 ?_;refine .al fun b9=> ?_;refine U7 ?_;refine To.YB rfl rfl rfl rfl rfl rfl dE (WB.h (hqa H₁)) (fun v H₂ hv=> ?_);obtain⟨oR,A2,lc2,B2,tc2,rfl,DU⟩:=hv;refine U4 ?_;refine .al fun b11=> ?_;refine U8 ?_;refine .cl (fun H hs=> aCw (Mp prog) H kp A1 A2 lc1 lc2 B1 B2 tc1 tc2 (Z4.le (View.le_trans oR hs.base)) (DU.le hs.base) rP) ?_;refine ND ?_;refine .cl (fun H hs=> UX H (View.le_trans h01 (View.le_trans oR hs.base))) ?_;refine U3 ?_;exact hR _ _ _ _ rfl (View.le_trans h01 oR)
end
end Go.Proofs.YtldmfjcgjdchcaaGreatDoor
