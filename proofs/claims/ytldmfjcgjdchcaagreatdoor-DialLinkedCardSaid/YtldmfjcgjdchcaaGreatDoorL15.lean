/-
 Texts of the proofs over baudot/dial.
-/
import Derived.Test.YtldmfjcgjdchcaaGreatDoorL14
namespace Go.Proofs.YtldmfjcgjdchcaaGreatDoor
open Go.RL Go.Proofs.Tryz
set_option maxRecDepth 10000
set_option maxHeartbeats 8000000
def Bk.QF(k:Bk)(j:Nat):List (List UInt8):=(List.range j).map k.name
theorem OS(k:Bk)(j:Nat):k.QF (j+1)=k.QF j++[k.name j]:=by unfold Bk.QF;rw[List.range_succ,List.map_append];rfl
theorem WU(k:Bk)(j:Nat):(k.QF j).length=j:=by unfold Bk.QF;simp
theorem fL {p q:Nat->Bool}:∀n,(∀i,i<n->p i=q i)->jA p n=jA q n
 | 0,_=> rfl
 | n+1,h=> by rw[jA,jA,fL n (fun i hi=> h i oM),h n oM]
theorem XU(k:Bk)(j n:Nat)(hn:n=j)(s:List UInt8):jA (fun i=> (k.QF j)[i]?.getD []==s) n=jA (fun i=> k.name i==s) j:=by
 subst hn;refine fL _ fun i hi=> ?_;unfold Bk.QF;rw[List.getElem?_map,List.getElem?_eq_getElem (by simpa using hi)];simp
section
variable(M:Md prog)(H:View)
theorem UR (k:Bk)(A:Option Addr)(lc:Nat)(hA:BC H k A lc)(hn:k.nl<=1000)(nI:∀i,i<k.nl->(k.name i).length<=1000000/\(k.num i).length<=1000000/\k.nf i<=1000):
  bA M 83 #[.slice A k.nl lc] H (fun v H'=> H.le H'/\v=.int .i64 k.LD):=by
 by_cases c1:6<k.nl
 ·have e:k.LD=2:=if_pos c1;rw[e];refine .en func83 ntmps83 fun St c cs hK=> ?_;refine vQ ?_;refine .rt hK func83 results83 [_] ?_;exact okB
 ·have e : k.LD =mC k.VB k.nl:=if_neg c1;rw[e];clear e;refine .en func83 ntmps83 fun St c cs hK=> ?_;refine R8 ?_;refine Tc.db (Tc.tA (σ:= { x:Nat×Gl 9 1//x.1<=k.nl/\mC k.VB x.1=0/\x.2.l=GB (k.QF x.1) }) (fun x=> ([(0,.slice A k.nl lc),(3,x.1.2.val),(4,.int .i64 (x.1.1:Nat))],x.1.2.bl)) (fun x=> k.nl-x.1.1) ?_ ⟨(0,Gl.nil 9 1),Nat.zero_le _,rfl,rfl⟩);rintro⟨⟨j,g⟩,hj,PC,TN⟩ ih;simp only at hj PC TN;show Tc M St _ _ _ _ [(0,.slice A k.nl lc),(3,g.val),(4,.int .i64 (j:Nat))] g.bl _ _;have nL:g.n=j:=by
   have:=g.hl;rw[TN,iF,WU] at this;omega
  by_cases c2:j=k.nl
  ·subst c2;rw[PC] at hK;refine QE ?_;refine .rt hK func83 results83 [_] ?_;exact okB
  ·have c3 : j < k.nl:=by omega
   have hA':=hA;obtain⟨K1,h0|⟨ab,ao,f,gs,gt,gz,rfl,hb,hl⟩⟩:=hA
   ·omega
   obtain⟨F,fc,f1,_,hF⟩:=hl j c3;obtain⟨s0,s1,s2⟩:=nI j c3;have f20:gD false 1 gs (ao+((j:Nat):Int).toNat*3+0)=some (mA (k.name j)):=mG f1 dE;have f21:gD false 1 gs (ao+((j:Nat):Int).toNat*3+1)=some (mA (k.num j)):=mG f1 dE;have f22:gD false 1 gs (ao+((j:Nat):Int).toNat*3+2)=some (.slice F (k.nf j) fc):=mG f1 dE;have uY:BC H (k.pre j) (some ⟨ab,ao,none⟩) lc:=hA'.pre hj;have G1:=fun(H':View) (hg:∀x∈g.bl,H' x.1=some x.2)=> cZ M H' (g.blk.map fun b=> ⟨b,0,none⟩) g.n g.cap (fun i=> (k.QF j)[i]?.getD []) (EJ g hg TN rfl rfl) oM (k.name j);rw[XU k j g.n nL] at G1;cases q0:MJ (k.name j) with
   | false=>
    have eA:k.VB j=4:=by unfold Bk.VB;simp only[q0];simp
    rw[kC PC eA dE c3] at hK;refine MR ?_;refine .cl (fun H hs=> UF M H (k.name j) s0 _ q0) ?_;refine U7 ?_;refine .rt hK func83 results83 [_] ?_;exact okB
   | true=>
    cases q1:k.again j with
    | true=>
     obtain⟨i0,OW⟩:∃i,jA (fun i=> k.name i==k.name j) j=some i:=Option.isSome_iff_exists.1 q1;rw[OW] at G1;have G1:=fun(H':View) (hg:∀x∈g.bl,H' x.1=some x.2)=> XV (w':=.int .i64 (i0:Nat)) (G1 H' hg) rfl;have eA:k.VB j=5:=by unfold Bk.VB;simp only[q0,q1];simp
     rw[kC PC eA dE c3] at hK;refine MR ?_;refine .cl (fun H hs=> UF M H (k.name j) s0 _ q0) ?_;refine CG ?_;refine .cl (fun H hs=> G1 H (fun x hx=> hs.at_ x hx)) ?_;refine U7 ?_;refine .rt hK func83 results83 [_] ?_;exact okB
    | false =>
     have OW:jA (fun i=> k.name i==k.name j) j=none:=Option.isNone_iff_eq_none.1 (by have:=q1;unfold Bk.again at this;rw[<-Option.not_isSome,this];rfl);rw[OW] at G1;have G1:=fun(H':View) (hg:∀x∈g.bl,H' x.1=some x.2)=> XV (w':=.int .i64 (-1)) (G1 H' hg) rfl;cases q2:isNum (k.num j) with
     | false=>
      have eA:k.VB j=3:=by unfold Bk.VB;simp only[q0,q1,q2];simp
      rw[kC PC eA dE c3] at hK;refine MR ?_;refine .cl (fun H hs=> UF M H (k.name j) s0 _ q0) ?_;refine CG ?_;refine .cl (fun H hs=> G1 H (fun x hx=> hs.at_ x hx)) ?_;refine NF ?_;refine .e (.bs (zz:=fun bs=> ?_));refine .e (Or.append (E:=en) (g:=g) (m:=1) (new:= [mA (k.name j)]) (yv:=.slice (some ⟨bs,0,none⟩) 1 1) 1 rfl rfl rfl rfl rfl rfl rfl rfl rfl rfl rfl rfl rfl rfl rfl (fun H hs=> OA.of (hs.get (i:=0) rfl) (Nat.le_of_ble_eq_true rfl)) rfl oM rfl dE (fun g2 TW TP=> ?_));refine lD ?_;refine .cl (fun H hs=> BG M H (k.num j) s1 _ q2) ?_;refine U7 ?_;refine .rt hK func83 results83 [_] ?_;exact okB
     | true=>
      cases q3:(k.pre j).clash (k.num j) with
      | true=>
       have eA:k.VB j=10:=by unfold Bk.VB;simp only[q0,q1,q2,q3];simp
       rw[kC PC eA dE c3] at hK;refine MR ?_;refine .cl (fun H hs=> UF M H (k.name j) s0 _ q0) ?_;refine CG ?_;refine .cl (fun H hs=> G1 H (fun x hx=> hs.at_ x hx)) ?_;refine NF ?_;refine .e (.bs (zz:=fun bs=> ?_));refine .e (Or.append (E:=en) (g:=g) (m:=1) (new:= [mA (k.name j)]) (yv:=.slice (some ⟨bs,0,none⟩) 1 1) 1 rfl rfl rfl rfl rfl rfl rfl rfl rfl rfl rfl rfl rfl rfl rfl (fun H hs=> OA.of (hs.get (i:=0) rfl) (Nat.le_of_ble_eq_true rfl)) rfl oM rfl dE (fun g2 TW TP=> ?_));refine lD ?_;refine .cl (fun H hs=> BG M H (k.num j) s1 _ q2) ?_;refine U6 ?_;refine Tc.dr [] [] mixed rfl ?_;refine V2 0 ?_;refine .q 2 rfl (qA.sliceTo (E:=en) (k:=j) rfl rfl rfl rfl rfl rfl oM oM) ?_;refine V5 3 ?_;refine .z 8 rfl (qA.tk fun H hs=> lK M H (k.pre j) (some ⟨ab,ao,none⟩) lc (uY.le hs.base) (by show j<=1000;omega) (k.num j) _ q3) ?_;refine .dn ?_;refine U5 ?_;refine .rt hK func83 results83 [_] ?_;exact okB
      | false =>
       cases q4:decide (1<=((k.nf j:Nat):Int)/\((k.nf j:Nat):Int)<=4) with
       | false=>
        have eA:k.VB j=2:=by unfold Bk.VB;simp only[q0,q1,q2,q3,q4];simp
        rw[kC PC eA dE c3] at hK;refine MR ?_;refine .cl (fun H hs=> UF M H (k.name j) s0 _ q0) ?_;refine CG ?_;refine .cl (fun H hs=> G1 H (fun x hx=> hs.at_ x hx)) ?_;refine NF ?_;refine .e (.bs (zz:=fun bs=> ?_));refine .e (Or.append (E:=en) (g:=g) (m:=1) (new:= [mA (k.name j)]) (yv:=.slice (some ⟨bs,0,none⟩) 1 1) 1 rfl rfl rfl rfl rfl rfl rfl rfl rfl rfl rfl rfl rfl rfl rfl (fun H hs=> OA.of (hs.get (i:=0) rfl) (Nat.le_of_ble_eq_true rfl)) rfl oM rfl dE (fun g2 TW TP=> ?_));refine lD ?_;refine .cl (fun H hs=> BG M H (k.num j) s1 _ q2) ?_;refine U6 ?_;refine Tc.dr [] [] mixed rfl ?_;refine V2 0 ?_;refine .q 2 rfl (qA.sliceTo (E:=en) (k:=j) rfl rfl rfl rfl rfl rfl oM oM) ?_;refine V5 3 ?_;refine .z 8 rfl (qA.tk fun H hs=> lK M H (k.pre j) (some ⟨ab,ao,none⟩) lc (uY.le hs.base) (by show j<=1000;omega) (k.num j) _ q3) ?_;refine .dn ?_;refine PE ?_;refine .cl (fun H hs=> HJ M H ((k.nf j:Nat):Int) 1 4 _ q4) ?_;refine U7 ?_;refine .rt hK func83 results83 [_] ?_;exact okB
       | true=>
        refine MR ?_;refine .cl (fun H hs=> UF M H (k.name j) s0 _ q0) ?_;refine CG ?_;refine .cl (fun H hs=> G1 H (fun x hx=> hs.at_ x hx)) ?_;refine NF ?_;refine .e (.bs (zz:=fun bs=> ?_));refine .e (Or.append (E:=en) (g:=g) (m:=1) (new:= [mA (k.name j)]) (yv:=.slice (some ⟨bs,0,none⟩) 1 1) 1 rfl rfl rfl rfl rfl rfl rfl rfl rfl rfl rfl rfl rfl rfl rfl (fun H hs=> OA.of (hs.get (i:=0) rfl) (Nat.le_of_ble_eq_true rfl)) rfl oM rfl dE (fun g2 TW TP=> ?_));refine lD ?_;refine .cl (fun H hs=> BG M H (k.num j) s1 _ q2) ?_;refine U6 ?_;refine Tc.dr [] [] mixed rfl ?_;refine V2 0 ?_;refine .q 2 rfl (qA.sliceTo (E:=en) (k:=j) rfl rfl rfl rfl rfl rfl oM oM) ?_;refine V5 3 ?_;refine .z 8 rfl (qA.tk fun H hs=> lK M H (k.pre j) (some ⟨ab,ao,none⟩) lc (uY.le hs.base) (by show j<=1000;omega) (k.num j) _ q3) ?_;refine .dn ?_;refine PE ?_;refine .cl (fun H hs=> HJ M H ((k.nf j:Nat):Int) 1 4 _ q4) ?_;refine U9 ?_;refine Tc.db (Tc.tA (σ:= { i:Nat//i<=k.nf j/\jA (fun i=> !ND (k.free j i)) i=none }) (fun i=> ([(0,.slice (some ⟨ab,ao,none⟩) k.nl lc),(3,g2.val),(4,.int .i64 (j:Nat)),(5,.int .i64 (i.1:Nat))],g2.bl)) (fun i=> k.nf j-i.1) ?_ ⟨0,Nat.zero_le _,rfl⟩);rintro⟨i,hi,FK⟩ ih2;show Tc M St _ _ _ _ [(0,.slice (some ⟨ab,ao,none⟩) k.nl lc),(3,g2.val),(4,.int .i64 (j:Nat)),(5,.int .i64 (i:Nat))] g2.bl _ _;by_cases d1:i=k.nf j
        ·have eA:k.VB j=0:=by
          have q5:k.CH j=false:=by unfold Bk.CH;rw[<-d1,FK];rfl
          unfold Bk.VB;simp only[q0,q1,q2,q3,q4,q5];simp
         clear ih2 FK;subst d1;refine MR ?_;exact Tc.db (ih ⟨(j+1,g2),by simp only;omega,by simp only;rw[mC,if_pos PC];exact eA,by simp only;rw[OS,gF,TP,TN];rfl⟩ (by simp only;omega))
        ·have d2:i<k.nf j:=by omega
         obtain h0|⟨fb,fo,ff,fgs,fgt,fgz,rfl,hfb,hfl⟩:=hF
         ·omega
         have f3:=hfl i d2;cases q5:ND (k.free j i) with
         | true=>
          refine U26 ?_;refine .cl (fun H hs=> pQ M H (k.free j i) _ q5) ?_;refine lD ?_;exact Tc.db (ih2 ⟨i+1,oM,by simp[jA,FK,q5]⟩ (by simp only;omega))
         | false=>
          have q6:k.CH j=true:=by
           unfold Bk.CH;rw[fB (j:=i+1) (x:=i) (by simp[jA,FK,q5]) _ oM];rfl
          have eA:k.VB j=1:=by unfold Bk.VB;simp only[q0,q1,q2,q3,q4,q6];simp
          rw[kC PC eA dE c3] at hK;refine U26 ?_;refine .cl (fun H hs=> pQ M H (k.free j i) _ q5) ?_;refine U7 ?_;refine .rt hK func83 results83 [_] ?_;exact okB
end
def Bk.wide(k:Bk)(i:Nat):Bool:=decide (100<(k.name i).length)||decide (100<(k.num i).length)||decide (20<k.nf i)
def Bk.lH(k:Bk):Bool:=decide (20<k.nl)||decide (20<k.nt)||(jA k.wide k.nl).isSome
def Bk.fit(k:Bk):Bool:=!k.lH&&decide (k.WA=0)
theorem Bk.bO {k:Bk}(h:k.lH=false):k.nl<=20/\k.nt<=20/\∀i,i<k.nl->(k.name i).length<=100/\(k.num i).length<=100/\k.nf i<=20:=by
 unfold Bk.lH at h;rw[Bool.or_eq_false_iff,Bool.or_eq_false_iff] at h;have h1:=of_decide_eq_false h.1.1;have h2:=of_decide_eq_false h.1.2;refine⟨oM,oM,fun i hi=> ?_⟩;have h3:k.wide i=false:=(kB _).1 (by rw[<-Option.not_isSome_iff_eq_none,h.2];decide) i hi;unfold Bk.wide at h3;rw[Bool.or_eq_false_iff,Bool.or_eq_false_iff] at h3;have h4:=of_decide_eq_false h3.1.1;have h5:=of_decide_eq_false h3.1.2;have h6:=of_decide_eq_false h3.2;omega
theorem Bk.bH {k:Bk}(h:k.lH=false):k.small:=by
 obtain⟨h1,h2,h3⟩:=Bk.bO h;exact⟨oM,oM,fun i hi=> by have:=h3 i hi;omega⟩
section
variable(M:Md prog)(H:View)
theorem rG(k:Bk)(A:Option Addr)(lc:Nat)(B:Option Addr)(tc:Nat)(hk:LF H k A lc B tc)(hn:k.small)(hnm:∀i,i<k.nl->(k.name i).length<=1000000):
  bA M 29 #[k.val A lc B tc] H (fun v H'=> H.le H'/\v=.int .i64 k.WA):=by
 have tS:=fun(H':View) (h':H.le H')=> UR M H' k A lc (hk.le h').rows hn.nl (fun i hi=> ⟨hnm i hi,hn.num i hi⟩);have hng:=hn.nt;by_cases c1:1<=k.CB/\k.CB<=99
 ·by_cases c2:k.CB+1<=k.TB/\k.TB<=99
  ·have e:k.WA=if k.LD=0 then k.xC else k.LD:=by unfold Bk.WA;rw[if_pos (by unfold Bk.xD;rw[if_pos ⟨c1,c2⟩])]
   rw[e];clear e;by_cases c3:k.LD=0
   ·rw[if_pos c3];rw[c3] at tS;by_cases c4:6<k.nt
    ·have e:k.xC=2:=by unfold Bk.xC;rw[if_pos c4]
     rw[e];refine .en func29 ntmps29 fun St c cs hK=> ?_;refine U2 ?_;refine .bo fun b1=> ?_;refine U7 ?_;refine .cl (fun H hs=> HJ M H k.CB 1 99 true (decide_eq_true c1)) ?_;refine U7 ?_;refine .cl (fun H hs=> HJ M H k.TB (k.CB+1) 99 true (decide_eq_true c2)) ?_;refine lD ?_;refine .cl (fun H hs=> tS H hs.base) ?_;refine ZX ?_;refine .rt hK func29 results29 [_] ?_;exact okB
    ·have e:k.xC=if(jA k.QB k.nt).isSome then 1 else 0:=by unfold Bk.xC;rw[if_neg c4]
     rw[e];clear e;refine .en func29 ntmps29 fun St c cs hK=> ?_;refine U2 ?_;refine .bo fun b1=> ?_;refine U7 ?_;refine .cl (fun H hs=> HJ M H k.CB 1 99 true (decide_eq_true c1)) ?_;refine U7 ?_;refine .cl (fun H hs=> HJ M H k.TB (k.CB+1) 99 true (decide_eq_true c2)) ?_;refine lD ?_;refine .cl (fun H hs=> tS H hs.base) ?_;refine U25 ?_;refine Tc.db (Tc.tA (σ:= { i:Nat//i<=k.nt/\jA k.QB i=none }) (fun i=> ([(1,.pointer (some ⟨b1,0,none⟩)),(4,.int .i64 (i.1:Nat))],[(b1,true,.cells ⟨(k.val A lc B tc).cells.toList⟩ 45 (0,0))])) (fun i=> k.nt-i.1) ?_ ⟨0,Nat.zero_le _,rfl⟩);rintro⟨i,hi,PC⟩ ih;show Tc M St _ _ _ _ [(1,.pointer (some ⟨b1,0,none⟩)),(4,.int .i64 (i:Nat))] [(b1,true,.cells ⟨(k.val A lc B tc).cells.toList⟩ 45 (0,0))] _ _;by_cases c5:i=k.nt
     ·clear ih;subst c5;rw[PC] at hK;refine XP ?_;refine .rt hK func29 results29 [_] ?_;exact okB
     ·have c6:i<k.nt:=by omega
      obtain⟨_,v8,h0|⟨tb,to,f,gs,gt,gz,rfl,hb,hl⟩⟩:=hk
      ·omega
      have f1:=hl i c6;cases q:YA (k.pf i) (k.pt i) (k.qf i) (k.qt i) with
      | true=>
       refine MR ?_;refine .cl (fun H hs=> WK M H (k.pf i) (k.pt i) (k.qf i) (k.qt i) 0 (by rw[q];rfl)) ?_;refine XP ?_;exact Tc.db (ih ⟨i+1,oM,by simp[jA,PC,Bk.QB,q]⟩ (by simp only;omega))
      | false=>
       rw[fB (j:=i+1) (x:=i) (by simp[jA,PC,Bk.QB,q]) _ oM] at hK;refine MR ?_;refine .cl (fun H hs=> WK M H (k.pf i) (k.pt i) (k.qf i) (k.qt i) 1 (by rw[q];rfl)) ?_;refine CG ?_;refine .rt hK func29 results29 [_] ?_;exact okB
   ·rw[if_neg c3];refine .en func29 ntmps29 fun St c cs hK=> ?_;refine U2 ?_;refine .bo fun b1=> ?_;refine U7 ?_;refine .cl (fun H hs=> HJ M H k.CB 1 99 true (decide_eq_true c1)) ?_;refine U7 ?_;refine .cl (fun H hs=> HJ M H k.TB (k.CB+1) 99 true (decide_eq_true c2)) ?_;refine lD ?_;refine .cl (fun H hs=> tS H hs.base) ?_;refine CG ?_;refine .rt hK func29 results29 [_] ?_;exact okB
  ·have e:k.WA=1:=by unfold Bk.WA Bk.xD;simp[c2]
   rw[e];refine .en func29 ntmps29 fun St c cs hK=> ?_;refine U2 ?_;refine .bo fun b1=> ?_;refine U7 ?_;refine .cl (fun H hs=> HJ M H k.CB 1 99 true (decide_eq_true c1)) ?_;refine U7 ?_;refine .cl (fun H hs=> HJ M H k.TB (k.CB+1) 99 false (decide_eq_false c2)) ?_;refine U8 ?_;refine .rt hK func29 results29 [_] ?_;exact okB
 ·have e:k.WA=1:=by unfold Bk.WA Bk.xD;simp[c1]
  rw[e];refine .en func29 ntmps29 fun St c cs hK=> ?_;refine U2 ?_;refine .bo fun b1=> ?_;refine U7 ?_;refine .cl (fun H hs=> HJ M H k.CB 1 99 false (decide_eq_false c1)) ?_;refine vQ ?_;refine .rt hK func29 results29 [_] ?_;exact okB
theorem W7(a num:List UInt8)(F:Option Addr)(n fc:Nat)(t:Bool)(ht:(decide (100<a.length)||decide (100<num.length)||decide (20<n))=t):
  bA M 89 #[gN a num F n fc] H (fun v H'=> H.le H'/\v=.bool t):=by
 rw[<-ht];refine .en func89 ntmps89 fun St c cs hK=> ?_;by_cases c1:100<a.length
 all_goals by_cases c2:100<num.length
 all_goals by_cases c3:20<n
 all_goals
  refine U2 ?_;refine .bo fun b1=> ?_;refine U7 ?_;refine .i ?_ (z:=by first|exact XJ oM|exact DI oM);refine U ?_;first|(refine .sk ?_)|(refine .x .fa ?_)
  first|(refine .sk ?_)|((refine .x (.ld 0) ?_))
  first|(refine .sk ?_)|(refine .x (qA.aEO (E:=en) rfl rfl rfl rfl rfl rfl rfl) ?_)
  first|(refine .sk ?_)|(refine .x (.it (zz:=(by first|exact XJ oM|exact DI oM))) ?_)
  refine U2 ?_;first|(refine .sk ?_)|(refine .x .fa ?_)
  first|(refine .sk ?_)|((refine .x (.ld 0) ?_))
  first|(refine .sk ?_)|(refine .x .ln ?_)
  first|(refine .sk ?_)|(refine .x (.it (zz:=(by first|exact XJ oM|exact DI oM))) ?_)
  refine U3 ?_;refine .rt hK func89 results89 [_] ?_;exact fun H' hs=> ⟨hs.base,by simp[cC,c1,c2,c3]⟩
theorem AR(k:Bk)(A:Option Addr)(lc:Nat)(B:Option Addr)(tc:Nat)(hA:BC H k A lc):
  bA M 31 #[k.val A lc B tc] H (fun v H'=> H.le H'/\v=.bool k.lH):=by
 by_cases c1:20<k.nl
 ·have e:k.lH=true:=by unfold Bk.lH;simp[c1]
  rw[e];refine .en func31 ntmps31 fun St c cs hK=> ?_;refine U2 ?_;refine .bo fun b1=> ?_;refine wQ ?_;refine .rt hK func31 results31 [_] ?_;exact okB
 ·by_cases c2:20<k.nt
  ·have e:k.lH=true:=by unfold Bk.lH;simp[c2]
   rw[e];refine .en func31 ntmps31 fun St c cs hK=> ?_;refine U2 ?_;refine .bo fun b1=> ?_;refine wQ ?_;refine .rt hK func31 results31 [_] ?_;exact okB
  ·have e:k.lH=(jA k.wide k.nl).isSome:=by unfold Bk.lH;simp[c1,c2]
   rw[e];clear e;refine .en func31 ntmps31 fun St c cs hK=> ?_;refine U2 ?_;refine .bo fun b1=> ?_;refine U24 ?_;refine Tc.db (Tc.tA (σ:= { i:Nat//i<=k.nl/\jA k.wide i=none }) (fun i=> ([(1,.pointer (some ⟨b1,0,none⟩)),(3,.int .i64 (i.1:Nat))],[(b1,true,.cells ⟨(k.val A lc B tc).cells.toList⟩ 45 (0,0))])) (fun i=> k.nl-i.1) ?_ ⟨0,Nat.zero_le _,rfl⟩);rintro⟨i,hi,PC⟩ ih;show Tc M St _ _ _ _ [(1,.pointer (some ⟨b1,0,none⟩)),(3,.int .i64 (i:Nat))] [(b1,true,.cells ⟨(k.val A lc B tc).cells.toList⟩ 45 (0,0))] _ _;by_cases c5:i=k.nl
   ·clear ih;subst c5;rw[PC] at hK;refine XP ?_;refine .rt hK func31 results31 [_] ?_;exact okB
   ·have c6:i<k.nl:=by omega
    obtain⟨K1,h0|⟨ab,ao,f,gs,gt,gz,rfl,hb,hl⟩⟩:=hA
    ·omega
    obtain⟨F,fc,f1,_,_⟩:=hl i c6;cases q:k.wide i with
    | true=>
     rw[fB (j:=i+1) (x:=i) (by simp[jA,PC,q]) _ oM] at hK;refine MR ?_;refine .cl (fun H hs=> W7 M H (k.name i) (k.num i) F (k.nf i) fc true q) ?_;refine U6 ?_;refine .rt hK func31 results31 [_] ?_;exact okB
    | false=>
     refine MR ?_;refine .cl (fun H hs=> W7 M H (k.name i) (k.num i) F (k.nf i) fc false q) ?_;refine U9 ?_;exact Tc.db (ih ⟨i+1,oM,by simp[jA,PC,q]⟩ (by simp only;omega))
theorem X1(k:Bk)(A:Option Addr)(lc:Nat)(B:Option Addr)(tc:Nat)(hk:LF H k A lc B tc)(t:Bool)(ht:k.fit=t):
  bA M 16 #[k.val A lc B tc] H (fun v H'=> H.le H'/\v=.bool t):=by
 rw[<-ht];clear ht;cases q:k.lH with
 | true=>
  have e:k.fit=false:=by unfold Bk.fit;rw[q];rfl
  rw[e];refine .en func16 ntmps16 fun St c cs hK=> ?_;refine U2 ?_;refine .bo fun b1=> ?_;refine U5 ?_;refine .cl (fun H hs=> JF (AR M H k A lc B tc (hk.le hs.base).rows) q) ?_;refine U8 ?_;refine .rt hK func16 results16 [_] ?_;exact okB
 | false=>
  by_cases c1:k.WA=0
  ·have e:k.fit=true:=by unfold Bk.fit;rw[q];simp[c1]
   rw[e];refine .en func16 ntmps16 fun St c cs hK=> ?_;refine U2 ?_;refine .bo fun b1=> ?_;refine U5 ?_;refine .cl (fun H hs=> JF (AR M H k A lc B tc (hk.le hs.base).rows) q) ?_;refine U3 ?_;refine .cl (fun H hs=> XV (rG M H k A lc B tc (hk.le hs.base) (Bk.bH q) (fun i hi=> by have:=(Bk.bO q).2.2 i hi;omega)) (w':=.int .i64 0) (by rw[c1])) ?_;refine U4 ?_;refine .rt hK func16 results16 [_] ?_;exact okB
  ·have e:k.fit=false:=by unfold Bk.fit;rw[q];simp[c1]
   rw[e];refine .en func16 ntmps16 fun St c cs hK=> ?_;refine U2 ?_;refine .bo fun b1=> ?_;refine U5 ?_;refine .cl (fun H hs=> JF (AR M H k A lc B tc (hk.le hs.base).rows) q) ?_;refine U3 ?_;refine .cl (fun H hs=> rG M H k A lc B tc (hk.le hs.base) (Bk.bH q) (fun i hi=> by have:=(Bk.bO q).2.2 i hi;omega)) ?_;refine U4 ?_;refine .rt hK func16 results16 [_] ?_;exact okB
end
theorem WO(k:Bk)(p:Int):(p<k.CB/\k.kind p=0)\/(k.CB<=p/\p<k.TB/\k.kind p=1)\/(k.CB<=p/\k.TB<=p/\k.kind p=2):=by
 unfold Bk.kind;by_cases h1:p<k.CB
 ·exact .inl ⟨h1,if_pos h1⟩
 ·by_cases h2:p<k.TB
  ·exact .inr (.inl ⟨oM,h2,by rw[if_neg h1,if_pos h2]⟩)
  ·exact .inr (.inr ⟨oM,oM,by rw[if_neg h1,if_neg h2]⟩)
structure Bk.aGO(o k:Bk):Prop where
 nl:o.nl=k.nl
 nt:o.nt=k.nt
 line:o.line=k.line
 can:∀i,∀x∈o.can i,x∈k.can i
section
variable(M:Md prog)(H:View)
end
theorem xJ(k:Bk){p q:Int}(h:p<=q):k.kind p<=k.kind q:=by
 have c1:=WO k p;have c2:=WO k q;omega
section
variable(M:Md prog)(H:View)
end
end Go.Proofs.YtldmfjcgjdchcaaGreatDoor
namespace Go.Proofs.YtldmfjcgjdchcaaGreatDoor.Sg
open Go.RL Go.Proofs.Tryz
set_option maxRecDepth 10000
set_option maxHeartbeats 16000000
section
variable(M:Md prog)(H:View)
end
section
variable(M:Md prog)
end
section
variable(M:Md prog)(H:View)
end
set_option maxHeartbeats 8000000
section
variable(M:Md prog)(H:View)
end
section
variable(M:Md prog)(H:View)
end
section
variable(M:Md prog)(H:View)
end
section
variable(M:Md prog)(H:View)
end
end Go.Proofs.YtldmfjcgjdchcaaGreatDoor.Sg
namespace Go.RL
section
variable {P:Program}{M:Md P}{St:View->Goroutine->Prop}{n:Nat}{b:FB}{H₀:View}{cs:List Frame}{R:Rg}{L:Bl}{ds:List Deferred}{todo:List Item}
end
end Go.RL
namespace Go.Proofs.YtldmfjcgjdchcaaGreatDoor
open Go.RL Go.Proofs.Tryz
set_option maxRecDepth 10000
set_option maxHeartbeats 16000000
section
variable(H:View)
end
set_option maxHeartbeats 8000000
section
variable(M:Md prog)(H:View)
end
abbrev Ex:=Nat×Nat×List Value
def exV(n:Nat)(x:Ex):Value:=.slice (some ⟨x.1,0,none⟩) n x.2.1
def exB(e:TypeId)(l:List Value)(x:Ex):Bl:= [(x.1,true,.cells ⟨l++x.2.2⟩ e (0,0))]
theorem aAZ {e:TypeId}{sz:Nat}(g:Gl e sz)(h:0<g.n):∃x:Ex,g.val=exV g.n x/\g.bl=exB e g.l x:=by
 obtain⟨gb,gn,gc,gl,gj,h1,h2,h3,h4⟩:=g;cases gb with
 | none=> have:=h4 rfl;simp only at h;omega
 | some b=> exact⟨(b,gc,gj),rfl,rfl⟩
theorem iU {s:List UInt8}{i:Nat}{x:UInt8}(h:s[i]? =some x)(jj:List Value):gD false 1 (lB s++jj) (0+((i:Nat):Int).toNat*1)=some (.int .i64 (pn x:Nat)):=by
 show(lB s++jj)[0+((i:Nat):Int).toNat*1]? =_;rw[Int.toNat_natCast,Nat.zero_add,Nat.mul_one,List.getElem?_append_left (by simp only[lB,List.length_map];exact(List.getElem?_eq_some_iff.1 h).1)];simp only[lB,List.getElem?_map,h];rfl
theorem pZ {s:List UInt8}{H:View}{b n:Nat}{f:Bool}{jj:List Value}{e:TypeId}{fz:Nat×Nat}(h:H b=some (f,.cells ⟨lB s++jj⟩ e fz)):OA H 1 (.slice (some ⟨b,0,none⟩) s.length n) s.length (lB s):=by
 have h1:(lB s).length=s.length:=by simp[lB]
 refine⟨⟨_,_,rfl⟩,oM,.inr ⟨b,0,n,f,_,e,fz,rfl,h,by rw[List.length_append];omega,?_⟩⟩;simp
theorem rO {s:List UInt8}{H:View}{b:Nat}{f:Bool}{jj:List Value}{e:TypeId}{fz:Nat×Nat}(h:H b=some (f,.cells ⟨lB s++jj⟩ e fz)):rB H (some ⟨b,0,none⟩) s.length (fun i=> (HC s i:Nat)):=by
 refine .inr ⟨b,0,f,_,e,fz,rfl,h,fun j hj=> ?_⟩;have:=iU (List.getElem?_eq_getElem hj) jj;rw[this];show _=some (Value.int .i64 ((pn (s[j]?.getD 48):Nat):Int));rw[List.getElem?_eq_getElem hj];rfl
section
variable(M:Md prog)(H:View)
theorem aBa(a b:Int):bA M 46 #[.int .i64 a,.int .i64 b] H (fun v H'=> H.le H'/\v=FD a b):=by
 refine .en func46 ntmps46 fun St c cs hK=> ?_;refine U2 ?_;refine .al fun _=> ?_;refine U8 ?_;refine .rt hK func46 results46 [FD a b] ?_;exact okB
theorem R0(a b:Int):bA M 14 #[.int .i64 a,.int .i64 b] H (fun v H'=> H.le H'/\v=UC a a b b):=by
 refine .en func14 ntmps14 fun St c cs hK=> ?_;refine U2 ?_;refine .al fun _=> ?_;refine U5 ?_;refine .cl (fun H hs=> aBa M H a a) ?_;refine U2 ?_;refine .cl (fun H hs=> aBa M H b b) ?_;refine U3 ?_;refine .rt hK func14 results14 [UC a a b b] ?_;exact okB
theorem W1(hG:eZ H)(s:List UInt8)(GH:s.all BD=true)(OO:s.length<=12)(M1:s≠ []):
  bA M 10 #[mA s,.int .i64 1] H (fun v H'=> H.le H'/\∃x:Ex,v=.tuple ⟨[exV s.length x,.int .i64 0]⟩/\True/\∀y∈exB 3 (lB s) x,H' y.1=some y.2/\H y.1=none):=
 (V1 M H hG s GH OO).mono fun v H' ⟨h1,g,h2,⟨h3,h4⟩,h5⟩=> by
  obtain⟨x,h6,h7⟩:=aAZ g (by rw[h3];exact List.length_pos_iff.2 M1);exact⟨h1,x,by rw[h2,h6,h3],trivial,by rw[h7,h4] at h5;exact h5⟩
end
section
variable(H:View)
end
set_option maxHeartbeats 16000000
theorem NY {m:Nat}(h:1<=m/\m<=10):pn (tE m)=m:=by
 have:∀m:Fin 11,1<=m.1->pn (tE m.1)=m.1:=by decide
 exact this ⟨m,oM⟩ h.1
theorem Z3(m:Nat):BD (tE m)=true:=by
 unfold BD tE;have h:(UInt8.ofNat (48+m%10)).toNat=48+m%10:=by rw[UInt8.toNat_ofNat'];omega
 exact decide_eq_true oM
def saysP(pu:Nat->Nat)(n:Nat):List UInt8:=(List.range n).map fun i=> tE (pu i)
theorem G0(pu:Nat->Nat)(n:Nat):(saysP pu n).length=n:=by simp[saysP]
theorem F0(pu:Nat->Nat)(n:Nat):(saysP pu n).all BD=true:=List.all_eq_true.2 fun x hx=> by
 obtain⟨i,_,rfl⟩:=List.mem_map.1 hx;exact Z3 _
theorem uV {pu:Nat->Nat}{n:Nat}(h:∀i,i<n->1<=pu i/\pu i<=10):lB (saysP pu n)=GN (fun j=> (pu j:Nat)) n:=by
 unfold lB saysP GN;rw[List.map_map];exact List.map_congr_left fun i hi=> by
  show Value.int .i64 ((pn (tE (pu i)):Nat):Int)=_;rw[NY (h i (List.mem_range.1 hi))]
theorem l7 {s:List UInt8}(hs:s.all BD=true){pu:Nat->Nat}(h:∀i,i<s.length->pu i=HC s i):saysP pu s.length=s:=by
 unfold saysP;apply List.ext_getElem
 ·simp
 ·intro i h1 h2;simp only[List.getElem_map,List.getElem_range];rw[h i h2];unfold HC;rw[List.getElem?_eq_getElem h2];exact aBv (List.all_eq_true.1 hs _ (List.getElem_mem _))
def allS(q:Sg.Lk)(s:List UInt8)(j:Nat):Bool:=(List.range j).all fun i=> q.nE (HC s i)
theorem hZ(q:Sg.Lk)(s:List UInt8)(j:Nat):allS q s (j+1)=(allS q s j&&q.nE (HC s j)):=by
 unfold allS;rw[List.range_succ,List.all_append];simp
theorem T8 {q:Sg.Lk}{s:List UInt8}{j:Nat}(h:allS q s j=true)(i:Nat)(hi:i<j):q.nE (HC s i)=true:=List.all_eq_true.1 h i (List.mem_range.2 hi)
def puQ(q:Sg.Lk)(l:List Int)(s:List UInt8)(i:Nat):Nat:=(rdv q (l.drop i) (HC s i)).getD 0
theorem aBI {M:Md prog}(g:Gl 3 1){n:Nat}{pu:Nat->Nat}(h:∀i,i<n->1<=pu i/\pu i<=10)(hn0:0<n)(aG6:n<=12)(hn:g.n=n)(hl:g.l=GN (fun j=> (pu j:Nat)) n):
  ∃ b c:Nat,g.val=.slice (some ⟨b,0,none⟩) n c/\∀H:View,eZ H->(∀x∈g.bl,H x.1=some x.2)->rB H (some ⟨b,0,none⟩) n (fun i=> (pu i:Nat))/\
   bA M 11 #[.slice (some ⟨b,0,none⟩) n c,.int .i64 1] H (fun v H'=> H.le H'/\v=.tuple ⟨[mA (saysP pu n),.int .i64 0]⟩):=by
 obtain⟨⟨b,c,jj⟩,e1,e2⟩:=aAZ g oM;refine⟨b,c,by rw[e1,hn];rfl,fun H hS hb=> ?_⟩;have hx:H b=some (true,.cells ⟨lB (saysP pu n)++jj⟩ 3 (0,0)):=by
  rw[uV h,<-hl];exact hb (b,true,.cells ⟨g.l++jj⟩ 3 (0,0)) (by rw[e2];simp[exB])
 have qK:=G0 pu n;have hd:=U1 M H hS (saysP pu n) (F0 pu n) oM (fun h=> by rw[h] at qK;simp only[List.length_nil] at qK;omega) (some ⟨b,0,none⟩) c (pZ hx) (rO hx);rw[qK] at hd;refine⟨?_,hd⟩;have hf:=rO hx;rw[qK] at hf;rcases hf with h0|⟨b',o,f,gs,gt,gz,h1,h2,h3⟩
 ·exact .inl h0
 ·refine .inr ⟨b',o,f,gs,gt,gz,h1,h2,fun i hi=> ?_⟩;rw[h3 i hi];have:HC (saysP pu n) i=pu i:=by
   unfold HC saysP;rw[List.getElem?_map,List.getElem?_range hi];exact NY (h i hi)
  show some (Value.int .i64 ((HC (saysP pu n) i:Nat):Int))=_;rw[this]
theorem o0 {q:Sg.Lk}(hq:q.ok=true)(l:List Int){c:Nat}(hc:c<32):∃(m:Nat) (o:Bool),Sg.aA8 (rdv q l c)=.tuple ⟨[.int .i64 (m:Nat),.bool o,.int .i64 0]⟩/\(rdv q l c).getD 0=m/\(q.nE c=true->o=true/\m=c)/\m<=31:=by
 cases e:rdv q l c with
 | none=> exact⟨0,false,rfl,rfl,fun h=> (by rw[tP hq l hc h] at e;cases e),oM⟩
 | some m=>
  refine⟨m,true,rfl,rfl,fun h=> ?_,?_⟩
  ·rw[tP hq l hc h] at e;cases e
   exact⟨rfl,rfl⟩
  ·unfold rdv Sg.OE at e;split at e
   ·cases e
    omega
   ·cases e
section
variable {M:Md prog}{n:Nat}{H₀:View}{R:Rg}{L:Bl}{o:Oper}{K:Rg->Bl->Prop}{d:Nat}
theorem LC {e sz:Nat}(g:Gl e sz)(new:List Value)(bs k:Nat)(T:Bl->Bl){Y:Bl}(hT:∀B,(T B).Perm (Y++B))(hk:∀g':Gl e sz,g'.n=g.n+1->g'.l=g.l++new->K ((d,g'.val)::R) (L.take k++T g'.bl)){cl:Go.Call}{x y:Operand}{t xt:TypeId}{r re rx:EA}{ex:TypeId}(lA:o.op=.call cl:=by exact rfl)(nB:cl.callee=.builtin .append:=by exact rfl)(vH:cl.argTypes=#[t,xt]:=by exact rfl)(DH:cl.args=#[x,y]:=by exact rfl)
  (hx:JA R x=some g.val:=by exact rfl) (hy:JA R y=some (.slice (some ⟨bs,0,none⟩) 1 1):=by exact rfl) (ht:en.ty t=some r:=by exact rfl) (SB:r.ds=.slice e:=by exact rfl) (kD:en.ty e=some re:=by exact rfl) (AD:re.size=sz:=by exact rfl) (KU:Nat.beq re.zero.cells.toList.length sz=true:=by exact rfl) (yS:en.ty xt=some rx:=by exact rfl) (hex:rx.ds=.slice ex:=by exact rfl) (JW:Nat.ble re.bytes 1000=true:=by exact rfl)
  (hL:L.drop k=T g.bl:=by exact rfl) (hb:∃i:Nat,L[i]? =some (bs,true,Obj.cells ⟨new⟩ e (0,0)):=by first|exact⟨0,rfl⟩|exact⟨1,rfl⟩|exact⟨2,rfl⟩) (hw:new.length=1*sz:=by exact rfl) (hs:new.all single=true:=by exact rfl) (hm:g.n<=1000:=by omega) (hd:o.dst=some d:=by exact rfl) (hn:d<n:=by decide):Or M n H₀ R L o K:=
 Or.iW (E:=en) (g:=g) (m:=1) (new:=new) (yv:=.slice (some ⟨bs,0,none⟩) 1 1) k T hT lA nB vH DH hx hy ht SB kD AD KU yS hex JW hL (fun H hs=> by
  obtain⟨i,hi⟩:=hb;have h:=OA.of (c:=1) (hs.get hi) (show 0+1*sz<=new.length by omega);rw[List.drop_zero,List.take_of_length_le oM] at h;exact h) hs oM hd hn hk
end
section
variable(H:View)
theorem K2 {St:View->Goroutine->Prop}{cs:List Frame}(hG:aE H)(hS:eZ H)(hC:Sg.aE H)(k:Bk)(A:Option Addr)(lc:Nat)(B:Option Addr)(tc:Nat)(hk:LF H k A lc B tc)(q:Sg.Lk)(p:Int)(hp:0<=p/\p<256)(X:Option Addr)(l:List Int)(n xc:Nat)(hn:n=l.length)(hc:n<=xc)(hX:Sg.tI H X l)
  (hR:∀(H₀:View) (R:Rg) (L:Bl) (kk:List Item),lk R 8=some (.bool true)->H.le H₀->Tc (Mp prog) St 205 ⟨6,.normal,none⟩ H₀ cs R L [] (.code .ret::kk)):
  Tc (Mp prog) St 205 ⟨6,.normal,none⟩ H cs (jO [k.val A lc B tc,q.val,.int .u8 p,.slice X n xc]) [] [] [.code (dM Tryz.f6)]:=by
 have pK:=fun(H':View) (h:H.le H')=> aAg H' (IA hG h);have AY:=fun(H':View) (h:H.le H') (t:Bool) (ht:k.fit=t)=> X1 (Mp prog) H' k A lc B tc (hk.le h) t ht;have aEB:=fun(H':View) (t:Bool) (ht:q.ok=t)=> XV (Sg.X1 (Mp prog) H' q) (w':=.bool t) (by rw[ht]);cases JJ:k.fit with
 | false=>
  refine U2 ?_;refine .bo fun b4=> ?_;refine .bo fun b5=> ?_;refine U6 ?_;refine .cl (fun H hs=> AY H hs.base false JJ) ?_;refine vQ ?_;refine .cl (fun H hs=> pK H hs.base) ?_;refine U2 ?_;exact hR _ _ _ _ rfl (View.le_refl _)
 | true=>
  by_cases c0:k.nl=0
  ·refine U2 ?_;refine .bo fun b4=> ?_;refine .bo fun b5=> ?_;refine U6 ?_;refine .cl (fun H hs=> AY H hs.base true JJ) ?_;refine vQ ?_;refine .cl (fun H hs=> pK H hs.base) ?_;refine U2 ?_;exact hR _ _ _ _ rfl (View.le_refl _)
  cases hq:q.ok with
  | false=>
   refine U2 ?_;refine .bo fun b4=> ?_;refine .bo fun b5=> ?_;refine U6 ?_;refine .cl (fun H hs=> AY H hs.base true JJ) ?_;refine U9 ?_;refine .cl (fun H hs=> aEB H false hq) ?_;refine U6 ?_;refine .cl (fun H hs=> pK H hs.base) ?_;refine U2 ?_;exact hR _ _ _ _ rfl (View.le_refl _)
  | true=>
  obtain⟨hgr,VV⟩:k.lH=false/\k.WA=0:=by
   unfold Bk.fit at JJ;rw[Bool.and_eq_true] at JJ;exact⟨by simpa using JJ.1,of_decide_eq_true JJ.2⟩
  have N1:k.small:=Bk.bH hgr;have hnm:∀i,i<k.nl->(k.name i).length<=1000000:=fun i hi=> by have:=(Bk.bO hgr).2.2 i hi;omega
  obtain⟨hgg,aG7,_,_⟩:=Bk.valid VV;obtain⟨w,hw,hwp⟩:∃w:Nat,w<k.nl/\p%(k.nl:Int)=(w:Nat):=⟨(p%(k.nl:Int)).toNat,by
   have h1:=Int.emod_lt_of_pos p (show(0:Int)<k.nl by omega);have h2:=Int.emod_nonneg p (show(k.nl:Int)≠0 by omega);exact⟨oM,oM⟩⟩
  have hr1:pA .rem .i64 p (k.nl:Nat)=some (.int .i64 (w:Nat)):=by rw[rem_in oM oM,hwp]
  have w2:IntKind.i64.wrap p=p:=wrap64 oM oM;obtain⟨GH,hl1,sS⟩:=Bk.tL VV hw;have aA1:∀t,k.num w <+:t->k.line t=some w:=fun t h=> Bk.line_is VV hw h;obtain⟨K1,hz|⟨ab,ao,fa,gs,gt,gz,rfl,OQ,ZW⟩⟩:=id hk.rows
  ·omega
  obtain⟨F,fc,f1,_,_⟩:=ZW w hw;have f2:gD false 1 gs (ao+((w:Nat):Int).toNat*3+1)=some (mA (k.num w)):=mG f1 dE;clear f1;generalize k.num w=s at GH hl1 sS aA1 f2;have M1:s≠ []:=fun h=> by rw[h] at hl1;simp only[List.length_nil] at hl1;omega
  have xB:pA .neq .i64 ((s.length:Nat):Int) ((s.length:Nat):Int)=some (.bool false):=oG rfl;refine U2 ?_;refine .bo fun b4=> ?_;refine .bo fun b5=> ?_;refine U6 ?_;refine .cl (fun H hs=> AY H hs.base true JJ) ?_;refine U9 ?_;refine .cl (fun H hs=> aEB H true hq) ?_;refine R8 ?_;refine .e (Or.ZA (fun x=> .tuple ⟨[exV s.length x,.int .i64 0]⟩) (fun x=> exB 3 (lB s) x) (fun _=> True) rfl rfl rfl rfl rfl dE (fun _=> by simp[exB]) (fun H hs=> .h (W1 (Mp prog) H (hS.le hs.base) s GH oM M1)) (fun x _=> ?_));refine U6 ?_;obtain⟨cb,cc,cj⟩:=x;refine Tc.lift (L₂:= [(b5,true,.cells ⟨q.val.cells.toList⟩ 49 (0,0)),(b4,true,.cells ⟨(k.val (some ⟨ab,ao,none⟩) lc B tc).cells.toList⟩ 45 (0,0))]) (L₁:=exB 3 (lB s) (cb,cc,cj)) rfl (fun H₁ h1=> ?_);have W4:H₁ cb=some (true,.cells ⟨lB s++cj⟩ 3 (0,0)):=h1.at_ (cb,true,.cells ⟨lB s++cj⟩ 3 (0,0)) (by simp[exB]);have TE:=h1.base;clear h1;refine U3 ?_;refine .e (Or.ZA (fun g:Gl 3 1=> .tuple ⟨[g.val,.int .i64 0]⟩) Gl.bl (fun g:Gl 3 1=> g.l=Sg.ID q.nE 32) rfl rfl rfl rfl rfl dE OC (fun H hs=> .h (Sg.aBi (Mp prog) H q (Sg.IA hC (View.le_trans TE hs.base)) hq)) (fun gS hgS=> ?_));refine U6 ?_;refine Tc.lift (L₂:= [(b5,true,.cells ⟨q.val.cells.toList⟩ 49 (0,0)),(b4,true,.cells ⟨(k.val (some ⟨ab,ao,none⟩) lc B tc).cells.toList⟩ 45 (0,0))]) (L₁:=gS.bl) rfl (fun H₂ h2=> ?_);obtain⟨hSn,hSN⟩:=Sg.dO.of (H:=H₂) (hgS.trans (Sg.X5 _ _)) (fun y hy=> h2.at_ y hy);have hcb:=h2.base _ _ W4;have iG:=View.le_trans TE h2.base;clear h2 W4 TE;have aFW:=iG _ _ OQ;have aGU:gS.n<=32:=by rw[hSn];exact Sg.HZ _ _
  refine U27 ?_;refine .al fun b14=> ?_;refine ZX ?_;have aBY:∀j,puQ q l s j=(rdv q (l.drop j) (HC s j)).getD 0:=fun j=> rfl;have SA:=hZ q s;have aEk:allS q s 0=true:=rfl;have pL:allS q s s.length=true->saysP (puQ q l s) s.length=s:=fun h=> l7 GH fun i hi=> by
   have h1:=T8 h i hi;have h2:=MY GH i;unfold puQ;rw[tP hq _ oM h1];rfl
  generalize puQ q l s=pu at aBY pL;refine Tc.db (Tc.tA (σ:= { x:Nat×Gl 39 4×Gl 3 1×Gl 3 1//(x.1<=s.length/\∀i,i<x.1->1<=pu i/\pu i<=10)/\(x.2.1.n=x.1/\x.2.1.l=quadsP pu k.CB x.1)/\(x.2.2.1.n=x.1/\x.2.2.1.l=GN (fun j=> (pu j:Nat)) x.1)/\(x.2.2.2.n=x.1/\x.2.2.2.l=GN (fun _=> k.CB) x.1) }) (fun x=> ([(3,.slice X n xc),(4,.pointer (some ⟨b4,0,none⟩)),(5,.pointer (some ⟨b5,0,none⟩)),(9,.int .i64 (w:Nat)),(10,.slice (some ⟨cb,0,none⟩) s.length cc),(12,gS.val),(14,.pointer (some ⟨b14,0,none⟩)),(15,.bool (allS q s x.1.1)),(16,x.1.2.2.1.val),(17,x.1.2.2.2.val),(18,.int .i64 (x.1.1:Nat))],((b14,true,.cells ⟨[.int .i64 k.CB,.int .i64 k.TB,.slice (some ⟨ab,ao,none⟩) k.nl lc,x.1.2.1.val]⟩ 45 (0,0))::(b5,true,.cells ⟨q.val.cells.toList⟩ 49 (0,0))::(b4,true,.cells ⟨(k.val (some ⟨ab,ao,none⟩) lc B tc).cells.toList⟩ 45 (0,0))::(x.1.2.1.bl++(x.1.2.2.1.bl++x.1.2.2.2.bl))))) (fun x=> s.length-x.1.1) ?_ ⟨(0,Gl.nil 39 4,Gl.nil 3 1,Gl.nil 3 1),⟨Nat.zero_le _,fun i hi=> nomatch hi⟩,⟨rfl,rfl⟩,⟨rfl,rfl⟩,⟨rfl,rfl⟩⟩);rintro⟨⟨j,g1,g2,g3⟩,⟨hj,FZ⟩,⟨n1,l1⟩,⟨n2,l2⟩,⟨n3,l3⟩⟩ ih;simp only at hj FZ n1 l1 n2 l2 n3 l3;show Tc (Mp prog) St _ _ _ _ [(3,.slice X n xc),(4,.pointer (some ⟨b4,0,none⟩)),(5,.pointer (some ⟨b5,0,none⟩)),(9,.int .i64 (w:Nat)),(10,.slice (some ⟨cb,0,none⟩) s.length cc),(12,gS.val),(14,.pointer (some ⟨b14,0,none⟩)),(15,.bool (allS q s j)),(16,g2.val),(17,g3.val),(18,.int .i64 (j:Nat))] ((b14,true,.cells ⟨[.int .i64 k.CB,.int .i64 k.TB,.slice (some ⟨ab,ao,none⟩) k.nl lc,g1.val]⟩ 45 (0,0))::(b5,true,.cells ⟨q.val.cells.toList⟩ 49 (0,0))::(b4,true,.cells ⟨(k.val (some ⟨ab,ao,none⟩) lc B tc).cells.toList⟩ 45 (0,0))::(g1.bl++(g2.bl++g3.bl))) _ _;by_cases d1:j=s.length
  ·clear ih SA aEk;subst d1;obtain⟨b2,c2,aF4,nM⟩:=aBI (M:=Mp prog) g2 FZ oM oM n2 l2;have aEs:g1.val=.slice (g1.blk.map fun b=> ⟨b,0,none⟩) s.length g1.cap:=by unfold Gl.val;rw[n1]
   have aF5:g3.val=.slice (g3.blk.map fun b=> ⟨b,0,none⟩) s.length g3.cap:=by unfold Gl.val;rw[n3]
   have aEI:(dialP k s.length pu k.CB).small:=⟨N1.nl,by show s.length<=1000;omega,N1.num⟩
   have hch:=fun(H':View) (h1:H.le H') (hT:tC H' (dialP k s.length pu k.CB) (g1.blk.map fun b=> ⟨b,0,none⟩) g1.cap)=> XV (rG (Mp prog) H' (dialP k s.length pu k.CB) (some ⟨ab,ao,none⟩) lc (g1.blk.map fun b=> ⟨b,0,none⟩) g1.cap ⟨hk.rows.le h1,hT⟩ aEI hnm) (w':=.int .i64 0) (by rw[UM VV oM FZ oM]);have hfw:(dialP k s.length pu k.CB).eD s.length s.length (fun i=> (pu i:Nat)) (fun _=> k.CB)=dD (saysP pu s.length) (iB (k.line (saysP pu s.length))) 0:=XR VV oM FZ oM oM;have aBM:=fun(H':View) (h1:H.le H') (hT:tC H' (dialP k s.length pu k.CB) (g1.blk.map fun b=> ⟨b,0,none⟩) g1.cap) (h2:rB H' (some ⟨b2,0,none⟩) s.length (fun i=> (pu i:Nat))) (h3:rB H' (g3.blk.map fun b=> ⟨b,0,none⟩) s.length (fun _=> k.CB))=>
    XV (cO (Mp prog) H' (dialP k s.length pu k.CB) (some ⟨ab,ao,none⟩) lc (g1.blk.map fun b=> ⟨b,0,none⟩) g1.cap ⟨hk.rows.le h1,hT⟩ aEI (IA hG h1) _ _ _ _ c2 g3.cap _ _ h2 h3) hfw
   have hz:allS q s s.length=true->iB (k.line (saysP pu s.length))=(w:Nat):=fun h=> by rw[pL h,aA1 s (List.prefix_refl s)];rfl
   generalize iB (k.line (saysP pu s.length))=z at aBM hz;clear hfw pL;generalize saysP pu s.length=s2 at nM aBM;have hss:RL.fF .eql s2 s2=some (.bool true):=by
    show some (Value.bool (s2==s2))=_;rw[BEq.rfl]
   have hm1:∀x∈g1.bl,x∈((b14,true,.cells ⟨[.int .i64 k.CB,.int .i64 k.TB,.slice (some ⟨ab,ao,none⟩) k.nl lc,g1.val]⟩ 45 (0,0))::(b5,true,.cells ⟨q.val.cells.toList⟩ 49 (0,0))::(b4,true,.cells ⟨(k.val (some ⟨ab,ao,none⟩) lc B tc).cells.toList⟩ 45 (0,0))::(g1.bl++(g2.bl++g3.bl)):Bl):=fun x hx=> by simp[hx]
   have hm2:∀x∈g2.bl,x∈((b14,true,.cells ⟨[.int .i64 k.CB,.int .i64 k.TB,.slice (some ⟨ab,ao,none⟩) k.nl lc,g1.val]⟩ 45 (0,0))::(b5,true,.cells ⟨q.val.cells.toList⟩ 49 (0,0))::(b4,true,.cells ⟨(k.val (some ⟨ab,ao,none⟩) lc B tc).cells.toList⟩ 45 (0,0))::(g1.bl++(g2.bl++g3.bl)):Bl):=fun x hx=> by simp[hx]
   have hm3:∀x∈g3.bl,x∈((b14,true,.cells ⟨[.int .i64 k.CB,.int .i64 k.TB,.slice (some ⟨ab,ao,none⟩) k.nl lc,g1.val]⟩ 45 (0,0))::(b5,true,.cells ⟨q.val.cells.toList⟩ 49 (0,0))::(b4,true,.cells ⟨(k.val (some ⟨ab,ao,none⟩) lc B tc).cells.toList⟩ 45 (0,0))::(g1.bl++(g2.bl++g3.bl)):Bl):=fun x hx=> by simp[hx]
   rw[aEs] at hm1 hm2 hm3;rw[aEs,aF4,aF5];refine QE ?_;refine .cl (fun H hs=> hch H (View.le_trans iG hs.base) (aL k g1 (fun x hx=> hs.at_ x (hm1 x hx)) n1 l1)) ?_;refine U9 ?_;refine .cl (fun H hs=> aBM H (View.le_trans iG hs.base) (aL k g1 (fun x hx=> hs.at_ x (hm1 x hx)) n1 l1) (nM H (hS.le (View.le_trans iG hs.base)) (fun x hx=> hs.at_ x (hm2 x hx))).1 (fU g3 (fun x hx=> hs.at_ x (hm3 x hx)) l3 n3)) ?_;refine PE ?_;refine .c rfl rfl rfl rfl (fun H hs=> .h (nM H (hS.le (View.le_trans iG hs.base)) (fun x hx=> hs.at_ x (hm2 x hx))).2) ?_;refine U7 ?_;cases hae:allS q s s.length with
   | false=>
    refine ZX ?_;refine .cl (fun H hs=> pK H (View.le_trans iG hs.base)) ?_;refine U3 ?_;exact hR _ _ _ _ rfl iG
   | true=>
    obtain rfl:=hz hae;refine ZX ?_;refine .cl (fun H hs=> pK H (View.le_trans iG hs.base)) ?_;refine U3 ?_;exact hR _ _ _ _ rfl iG
  ·have d2 : j < s.length:=by omega
   clear pL aEk;have CY:=MY GH j;obtain⟨x,hx,_,_⟩:=sJ s j d2 GH;have f3:gD false 1 (lB s++cj) (0+((j:Nat):Int).toNat*1)=some (.int .i64 (HC s j:Nat)):=by
    rw[iU hx cj];unfold HC;rw[hx];rfl
   obtain⟨m,o,hmo,hm,hso,aG5⟩:=o0 hq (l.drop j) (c:=HC s j) oM;have TL:pu j=m:=(aBY j).trans hm;have wY:=SA j;have hih:=fun(aBS:1<=m/\m<=10) (a1:Gl 39 4) (a2 a3:Gl 3 1) (p1:a1.n=j+1/\a1.l=quadsP pu k.CB (j+1)) (p2:a2.n=j+1/\a2.l=GN (fun j=> (pu j:Nat)) (j+1)) (p3:a3.n=j+1/\a3.l=GN (fun _=> k.CB) (j+1))=> ih ⟨(j+1,a1,a2,a3),⟨by simp only;omega,fun i hi=> by
    by_cases e:i=j
    ·rw[e,TL];exact aBS
    ·exact FZ i (by simp only at hi;omega)⟩,p1,p2,p3⟩ (by simp only;omega)
   dsimp only at hih
   clear ih SA hm aBY;have R4:=Sg.Lk.LY hq (HC s j) (l.drop j);obtain⟨X',xc',hX',HK⟩:=P6 (Mp prog) H X l n xc hn hc hX j oM;have SQ:∀(H':View) (g:Gl 3 1),H.le H'->g.l=Sg.sA (q.GF (l.drop j) (Sg.iA (HC s j) 7).length)->(∀y∈g.bl,H' y.1=some y.2)->bA (Mp prog) 25 #[q.val,.int .i64 (HC s j:Nat),Sg.fE (q.qN (l.drop j)) (q.pN (l.drop j)) (q.oN (l.drop j)) g] H' (fun v H''=> H'.le H''/\v=.tuple ⟨[.int .i64 (m:Nat),.bool o,.int .i64 0]⟩):=fun H' g h1 h2 h3=> by
    obtain⟨h4,h5⟩:=Sg.dO.of h2 h3;exact XV (Sg.dZ (Mp prog) H' q (Sg.IA hC h1) hq (HC s j) oM _ _ _ _ R4 _ g.n g.cap (by rw[<-R4.len];exact h4) h5) hmo
   have BY:=fun(H':View) (h:H.le H')=> Sg.aBh (Mp prog) H' q hq (HC s j) oM X' (l.drop j) _ xc' rfl (hX'.le h);clear R4 hmo hX';obtain⟨su,hsu⟩:∃su,q.nE (HC s j)=su:=⟨_,rfl⟩
   have EZ:decide (((HC s j:Nat):Int)∈Sg.eI q.nE 32)=su:=by
    rw[<-hsu];apply Bool.eq_iff_iff.2
    rw[decide_eq_true_eq,Sg.XQ];exact⟨fun h=> h.2,fun h=> ⟨oM,h⟩⟩
   have aEt:=fun(H':View) (h:H₂.le H')=> JF (Sg.Y1 (Mp prog) H' _ (Sg.eI q.nE 32) gS.n gS.cap ((HC s j:Nat):Int) hSn oM (hSN.le h)) EZ;rw[hsu] at hso wY;clear EZ hsu hSN hSn;obtain⟨lj,hlj⟩:∃lj,l.drop j=lj:=⟨_,rfl⟩
   rw[hlj] at HK SQ BY;generalize HC s j=c at CY f3 hso SQ BY aEt;generalize allS q s j=al at wY;generalize allS q s (j+1)=al2 at wY hih;subst wY;refine YP ?_;refine .cl (fun H hs=> HJ (Mp prog) H (c:Nat) 1 10 true (decide_eq_true oM)) ?_;refine U5 ?_;refine Tc.dr [] [] mixed rfl ?_;refine gO 0 ?_;refine .z 12 rfl (qA.tk fun H hs=> HK H (View.le_trans iG hs.base)) ?_;refine .ea 13 rfl (Or.ZA (fun g:Gl 3 1=> Sg.fE (q.qN lj) (q.pN lj) (q.oN lj) g) Gl.bl (fun g:Gl 3 1=> g.l=Sg.sA (q.GF lj (Sg.iA c 7).length)) rfl rfl rfl rfl rfl dE OC (fun H hs=> .h (BY H (View.le_trans iG hs.base))) (fun g hg=> ⟨S2.mk sL (.inr sL),?_⟩));refine .ea 14 rfl (Or.ofT (qA.tk fun H hs=> SQ H g (View.le_trans iG hs.base) hg (fun y hy=> hs.at_ y (by simp[hy]))) rfl dE ⟨S2.mk sL (.inr sL),?_⟩);refine V7 15 ?_;refine .dn ?_;refine Tc.db (R':= [(3,.slice X n xc),(4,.pointer (some ⟨b4,0,none⟩)),(5,.pointer (some ⟨b5,0,none⟩)),(9,.int .i64 (w:Nat)),(10,.slice (some ⟨cb,0,none⟩) s.length cc),(12,gS.val),(14,.pointer (some ⟨b14,0,none⟩)),(15,.bool al),(16,g2.val),(17,g3.val),(18,.int .i64 (j:Nat)),(19,.int .i64 (m:Nat)),(20,.bool o),(21,.int .i64 0)]) (L':=((b14,true,.cells ⟨[.int .i64 k.CB,.int .i64 k.TB,.slice (some ⟨ab,ao,none⟩) k.nl lc,g1.val]⟩ 45 (0,0))::(b5,true,.cells ⟨q.val.cells.toList⟩ 49 (0,0))::(b4,true,.cells ⟨(k.val (some ⟨ab,ao,none⟩) lc B tc).cells.toList⟩ 45 (0,0))::(g1.bl++(g2.bl++g3.bl)))) ?_;clear SQ BY HK hg g;refine U7 ?_;refine .cl (fun H hs=> aEt H hs.base) ?_;refine U3 ?_;refine Tc.via (fun R' L'=> PB [(3,.slice X n xc),(4,.pointer (some ⟨b4,0,none⟩)),(5,.pointer (some ⟨b5,0,none⟩)),(9,.int .i64 (w:Nat)),(10,.slice (some ⟨cb,0,none⟩) s.length cc),(12,gS.val),(14,.pointer (some ⟨b14,0,none⟩)),(15,.bool al),(16,g2.val),(17,g3.val),(18,.int .i64 (j:Nat)),(19,.int .i64 (m:Nat)),(20,.bool o),(22,.bool su)] R'/\List.Sublist ((b14,true,.cells ⟨[.int .i64 k.CB,.int .i64 k.TB,.slice (some ⟨ab,ao,none⟩) k.nl lc,g1.val]⟩ 45 (0,0))::(b5,true,.cells ⟨q.val.cells.toList⟩ 49 (0,0))::(b4,true,.cells ⟨(k.val (some ⟨ab,ao,none⟩) lc B tc).cells.toList⟩ 45 (0,0))::(g1.bl++(g2.bl++g3.bl))) L') ?_ (fun fin=> ?_)
   rotate_left
   ·cases su with
    | false=>
     refine lD ?_;refine To.LB rfl dE rfl ?_;refine To.LB rfl dE rfl ?_;refine To.LB rfl dE rfl ?_;refine To.LB rfl dE rfl ?_;refine To.LB rfl dE rfl ?_;refine To.LB rfl dE rfl ?_;refine U6 ?_;exact fin _ _ ⟨⟨rfl,rfl,rfl,rfl,rfl,rfl,rfl,rfl,rfl,rfl,rfl,rfl,rfl,rfl,trivial⟩,sL⟩
    | true=>
     obtain⟨rfl,rfl⟩:=hso rfl;refine ZX ?_;exact fin _ _ ⟨⟨rfl,rfl,rfl,rfl,rfl,rfl,rfl,rfl,rfl,rfl,rfl,rfl,rfl,rfl,trivial⟩,sL⟩
   rintro R' L' ⟨hR',hL⟩;refine Tc.rC (R':= [(3,.slice X n xc),(4,.pointer (some ⟨b4,0,none⟩)),(5,.pointer (some ⟨b5,0,none⟩)),(9,.int .i64 (w:Nat)),(10,.slice (some ⟨cb,0,none⟩) s.length cc),(12,gS.val),(14,.pointer (some ⟨b14,0,none⟩)),(15,.bool al),(16,g2.val),(17,g3.val),(18,.int .i64 (j:Nat)),(19,.int .i64 (m:Nat)),(20,.bool o),(22,.bool su)]) (L':=((b14,true,.cells ⟨[.int .i64 k.CB,.int .i64 k.TB,.slice (some ⟨ab,ao,none⟩) k.nl lc,g1.val]⟩ 45 (0,0))::(b5,true,.cells ⟨q.val.cells.toList⟩ 49 (0,0))::(b4,true,.cells ⟨(k.val (some ⟨ab,ao,none⟩) lc B tc).cells.toList⟩ 45 (0,0))::(g1.bl++(g2.bl++g3.bl)))) ?_ hR' hL;clear hR' hL hso;refine U ?_;refine Tc.via (fun R' L'=> PB [(3,.slice X n xc),(4,.pointer (some ⟨b4,0,none⟩)),(5,.pointer (some ⟨b5,0,none⟩)),(9,.int .i64 (w:Nat)),(10,.slice (some ⟨cb,0,none⟩) s.length cc),(12,gS.val),(14,.pointer (some ⟨b14,0,none⟩)),(15,.bool (al&&su)),(16,g2.val),(17,g3.val),(18,.int .i64 (j:Nat)),(19,.int .i64 (m:Nat)),(20,.bool o)] R'/\List.Sublist ((b14,true,.cells ⟨[.int .i64 k.CB,.int .i64 k.TB,.slice (some ⟨ab,ao,none⟩) k.nl lc,g1.val]⟩ 45 (0,0))::(b5,true,.cells ⟨q.val.cells.toList⟩ 49 (0,0))::(b4,true,.cells ⟨(k.val (some ⟨ab,ao,none⟩) lc B tc).cells.toList⟩ 45 (0,0))::(g1.bl++(g2.bl++g3.bl))) L') ?_ (fun fin=> ?_)
   rotate_left
   ·cases al <;> cases su
    all_goals
     refine U3 ?_;first|(refine .sk ?_)|(refine .m ?_)
     refine U3 ?_;exact fin _ _ ⟨⟨rfl,rfl,rfl,rfl,rfl,rfl,rfl,rfl,rfl,rfl,rfl,rfl,rfl,trivial⟩,sL⟩
   rintro R' L' ⟨hR',hL⟩;refine Tc.rC (R':= [(3,.slice X n xc),(4,.pointer (some ⟨b4,0,none⟩)),(5,.pointer (some ⟨b5,0,none⟩)),(9,.int .i64 (w:Nat)),(10,.slice (some ⟨cb,0,none⟩) s.length cc),(12,gS.val),(14,.pointer (some ⟨b14,0,none⟩)),(15,.bool (al&&su)),(16,g2.val),(17,g3.val),(18,.int .i64 (j:Nat)),(19,.int .i64 (m:Nat)),(20,.bool o)]) (L':=((b14,true,.cells ⟨[.int .i64 k.CB,.int .i64 k.TB,.slice (some ⟨ab,ao,none⟩) k.nl lc,g1.val]⟩ 45 (0,0))::(b5,true,.cells ⟨q.val.cells.toList⟩ 49 (0,0))::(b4,true,.cells ⟨(k.val (some ⟨ab,ao,none⟩) lc B tc).cells.toList⟩ 45 (0,0))::(g1.bl++(g2.bl++g3.bl)))) ?_ hR' hL;clear hR' hL;generalize (al&&su)=al at hih;cases o with
   | false=>
    refine QE ?_;refine .cl (fun H hs=> pK H (View.le_trans iG hs.base)) ?_;refine U2 ?_;exact hR _ _ _ _ rfl iG
   | true=>
    by_cases aBS:1<=m/\m<=10
    ·have aF7 :=hih aBS;clear hih;have gQ:=lV pu k.CB j;have KN:=oO (fun j=> (pu j:Nat)) j;have vS:=oO (fun _=> k.CB) j;simp only[TL] at KN;unfold quadV at gQ;rw[TL] at gQ;refine U7 ?_;refine .cl (fun H hs=> HJ (Mp prog) H (m:Nat) 1 10 true (decide_eq_true oM)) ?_;refine U5 ?_;refine Tc.via (fun R' L'=> ∃(a1:Gl 39 4) (a2 a3:Gl 3 1),((a1.n=j+1/\a1.l=quadsP pu k.CB (j+1))/\(a2.n=j+1/\a2.l=GN (fun j=> (pu j:Nat)) (j+1))/\(a3.n=j+1/\a3.l=GN (fun _=> k.CB) (j+1)))/\PB [(3,.slice X n xc),(4,.pointer (some ⟨b4,0,none⟩)),(5,.pointer (some ⟨b5,0,none⟩)),(9,.int .i64 (w:Nat)),(10,.slice (some ⟨cb,0,none⟩) s.length cc),(12,gS.val),(14,.pointer (some ⟨b14,0,none⟩)),(15,.bool al),(16,a2.val),(17,a3.val),(18,.int .i64 (j:Nat))] R'/\List.Sublist ((b14,true,.cells ⟨[.int .i64 k.CB,.int .i64 k.TB,.slice (some ⟨ab,ao,none⟩) k.nl lc,a1.val]⟩ 45 (0,0))::(b5,true,.cells ⟨q.val.cells.toList⟩ 49 (0,0))::(b4,true,.cells ⟨(k.val (some ⟨ab,ao,none⟩) lc B tc).cells.toList⟩ 45 (0,0))::(a1.bl++(a2.bl++a3.bl))) L') ?_ (fun fin=> ?_)
     ·rintro R' L' ⟨a1,a2,a3,⟨p1,p2,p3⟩,hR',hL⟩;refine Tc.rC (R':= [(3,.slice X n xc),(4,.pointer (some ⟨b4,0,none⟩)),(5,.pointer (some ⟨b5,0,none⟩)),(9,.int .i64 (w:Nat)),(10,.slice (some ⟨cb,0,none⟩) s.length cc),(12,gS.val),(14,.pointer (some ⟨b14,0,none⟩)),(15,.bool al),(16,a2.val),(17,a3.val),(18,.int .i64 (j:Nat))]) (L':=((b14,true,.cells ⟨[.int .i64 k.CB,.int .i64 k.TB,.slice (some ⟨ab,ao,none⟩) k.nl lc,a1.val]⟩ 45 (0,0))::(b5,true,.cells ⟨q.val.cells.toList⟩ 49 (0,0))::(b4,true,.cells ⟨(k.val (some ⟨ab,ao,none⟩) lc B tc).cells.toList⟩ 45 (0,0))::(a1.bl++(a2.bl++a3.bl)))) ?_ hR' hL;refine U6 ?_;exact Tc.db (aF7 a1 a2 a3 p1 p2 p3)
     ·refine Tc.drT [7,11,16,18] [] [0] 3 mixed rfl ?_;refine .oo 0 ?_;refine .oo 1 ?_;refine .oo 2 ?_;refine .oo 3 ?_;refine .oo 4 ?_;refine Ta.IX 5 kR rfl rfl dE rfl rfl (qA.tk fun H hs=> R0 (Mp prog) H (m:Nat) k.CB) ?_;refine .ow 8 ?_;refine .ow 9 ?_;refine .ow 12 ?_;refine .ow 13 ?_;refine .ow 14 ?_;refine Ta.each [6,10,15] kR rfl ⟨GC.mk rfl rfl rfl (.bs (zz:=fun bs1=> ⟨S3.mk sL (.inr sL),?_⟩)),GC.mk rfl rfl rfl (.bs (zz:=fun bs2=> ⟨S3.mk sL (.inr sL),?_⟩)),GC.mk rfl rfl rfl (.bs (zz:=fun bs3=> ⟨S3.mk sL (.inr sL),?_⟩)),trivial⟩
      ·refine Ta.each [7,10,15] kR rfl ⟨GC.mk rfl rfl rfl (LC g1 [.int .i64 (m:Nat),.int .i64 (m:Nat),.int .i64 k.CB,.int .i64 k.CB] bs1 4 (fun B=> B++(g2.bl++g3.bl)) (kG _) (fun a1 m1 q1=> ⟨S3.mk sL (.inl kR),?_⟩)),GC.mk rfl rfl rfl (.bs (zz:=fun bs2=> ⟨S3.mk sL (.inr sL),?_⟩)),GC.mk rfl rfl rfl (.bs (zz:=fun bs3=> ⟨S3.mk sL (.inr sL),?_⟩)),trivial⟩
       ·refine .ow 17 ?_;refine Ta.each [10,15] kR rfl ⟨GC.mk rfl rfl rfl (.bs (zz:=fun bs2=> ⟨S3.mk sL (.inl kR),?_⟩)),GC.mk rfl rfl rfl (.bs (zz:=fun bs3=> ⟨S3.mk sL (.inl kR),?_⟩)),trivial⟩
        ·refine Ta.each [11,15] kR rfl ⟨GC.mk rfl rfl rfl (LC g2 [.int .i64 (m:Nat)] bs2 5 (fun B=> a1.bl++(B++g3.bl)) (mE _ _) (fun a2 m2 q2=> ⟨S3.mk sL (.inl kR),?_⟩)),GC.mk rfl rfl rfl (.bs (zz:=fun bs3=> ⟨S3.mk sL (.inl kR),?_⟩)),trivial⟩
         ·refine .ea 15 rfl (.bs (zz:=fun bs3=> ⟨S3.mk sL (.inl kR),?_⟩));refine .ea 16 rfl (LC g3 [.int .i64 k.CB] bs3 6 (fun B=> a1.bl++(a2.bl++B)) (fD _ _) (fun a3 m3 q3=> ⟨S3.mk sL (.inl kR),?_⟩));refine .ea 18 rfl (.st 3 (zz:=⟨S3.mk sL (.inl kR),?_⟩));refine .ow 19 ?_;refine .ow 20 ?_;refine .dn ?_;exact fin _ _ ⟨a1,a2,a3,⟨⟨by rw[m1,n1],by rw[q1,l1,gQ]⟩,⟨by rw[m2,n2],by rw[q2,l2,KN]⟩,⟨by rw[m3,n3],by rw[q3,l3,vS]⟩⟩,⟨rfl,rfl,rfl,rfl,rfl,rfl,rfl,rfl,rfl,rfl,rfl,trivial⟩,sL⟩
         ·refine .ea 11 rfl (LC g2 [.int .i64 (m:Nat)] bs2 6 (fun B=> a1.bl++(B++g3.bl)) (mE _ _) (fun a2 m2 q2=> ⟨S3.mk sL (.inl kR),?_⟩));refine .ea 16 rfl (LC g3 [.int .i64 k.CB] bs3 6 (fun B=> a1.bl++(a2.bl++B)) (fD _ _) (fun a3 m3 q3=> ⟨S3.mk sL (.inl kR),?_⟩));refine .ea 18 rfl (.st 3 (zz:=⟨S3.mk sL (.inl kR),?_⟩));refine .ow 19 ?_;refine .ow 20 ?_;refine .dn ?_;exact fin _ _ ⟨a1,a2,a3,⟨⟨by rw[m1,n1],by rw[q1,l1,gQ]⟩,⟨by rw[m2,n2],by rw[q2,l2,KN]⟩,⟨by rw[m3,n3],by rw[q3,l3,vS]⟩⟩,⟨rfl,rfl,rfl,rfl,rfl,rfl,rfl,rfl,rfl,rfl,rfl,trivial⟩,sL⟩
        ·refine .ea 10 rfl (.bs (zz:=fun bs2=> ⟨S3.mk sL (.inl kR),?_⟩));refine .ea 11 rfl (LC g2 [.int .i64 (m:Nat)] bs2 6 (fun B=> a1.bl++(B++g3.bl)) (mE _ _) (fun a2 m2 q2=> ⟨S3.mk sL (.inl kR),?_⟩));refine .ea 16 rfl (LC g3 [.int .i64 k.CB] bs3 6 (fun B=> a1.bl++(a2.bl++B)) (fD _ _) (fun a3 m3 q3=> ⟨S3.mk sL (.inl kR),?_⟩));refine .ea 18 rfl (.st 3 (zz:=⟨S3.mk sL (.inl kR),?_⟩));refine .ow 19 ?_;refine .ow 20 ?_;refine .dn ?_;exact fin _ _ ⟨a1,a2,a3,⟨⟨by rw[m1,n1],by rw[q1,l1,gQ]⟩,⟨by rw[m2,n2],by rw[q2,l2,KN]⟩,⟨by rw[m3,n3],by rw[q3,l3,vS]⟩⟩,⟨rfl,rfl,rfl,rfl,rfl,rfl,rfl,rfl,rfl,rfl,rfl,trivial⟩,sL⟩
       ·refine Ta.each [7,15] kR rfl ⟨GC.mk rfl rfl rfl (LC g1 [.int .i64 (m:Nat),.int .i64 (m:Nat),.int .i64 k.CB,.int .i64 k.CB] bs1 5 (fun B=> B++(g2.bl++g3.bl)) (kG _) (fun a1 m1 q1=> ⟨S3.mk sL (.inl kR),?_⟩)),GC.mk rfl rfl rfl (.bs (zz:=fun bs3=> ⟨S3.mk sL (.inr sL),?_⟩)),trivial⟩
        ·refine .ow 17 ?_;refine Ta.each [11,15] kR rfl ⟨GC.mk rfl rfl rfl (LC g2 [.int .i64 (m:Nat)] bs2 5 (fun B=> a1.bl++(B++g3.bl)) (mE _ _) (fun a2 m2 q2=> ⟨S3.mk sL (.inl kR),?_⟩)),GC.mk rfl rfl rfl (.bs (zz:=fun bs3=> ⟨S3.mk sL (.inl kR),?_⟩)),trivial⟩
         ·refine .ea 15 rfl (.bs (zz:=fun bs3=> ⟨S3.mk sL (.inl kR),?_⟩));refine .ea 16 rfl (LC g3 [.int .i64 k.CB] bs3 6 (fun B=> a1.bl++(a2.bl++B)) (fD _ _) (fun a3 m3 q3=> ⟨S3.mk sL (.inl kR),?_⟩));refine .ea 18 rfl (.st 3 (zz:=⟨S3.mk sL (.inl kR),?_⟩));refine .ow 19 ?_;refine .ow 20 ?_;refine .dn ?_;exact fin _ _ ⟨a1,a2,a3,⟨⟨by rw[m1,n1],by rw[q1,l1,gQ]⟩,⟨by rw[m2,n2],by rw[q2,l2,KN]⟩,⟨by rw[m3,n3],by rw[q3,l3,vS]⟩⟩,⟨rfl,rfl,rfl,rfl,rfl,rfl,rfl,rfl,rfl,rfl,rfl,trivial⟩,sL⟩
         ·refine .ea 11 rfl (LC g2 [.int .i64 (m:Nat)] bs2 6 (fun B=> a1.bl++(B++g3.bl)) (mE _ _) (fun a2 m2 q2=> ⟨S3.mk sL (.inl kR),?_⟩));refine .ea 16 rfl (LC g3 [.int .i64 k.CB] bs3 6 (fun B=> a1.bl++(a2.bl++B)) (fD _ _) (fun a3 m3 q3=> ⟨S3.mk sL (.inl kR),?_⟩));refine .ea 18 rfl (.st 3 (zz:=⟨S3.mk sL (.inl kR),?_⟩));refine .ow 19 ?_;refine .ow 20 ?_;refine .dn ?_;exact fin _ _ ⟨a1,a2,a3,⟨⟨by rw[m1,n1],by rw[q1,l1,gQ]⟩,⟨by rw[m2,n2],by rw[q2,l2,KN]⟩,⟨by rw[m3,n3],by rw[q3,l3,vS]⟩⟩,⟨rfl,rfl,rfl,rfl,rfl,rfl,rfl,rfl,rfl,rfl,rfl,trivial⟩,sL⟩
        ·refine .ea 7 rfl (LC g1 [.int .i64 (m:Nat),.int .i64 (m:Nat),.int .i64 k.CB,.int .i64 k.CB] bs1 6 (fun B=> B++(g2.bl++g3.bl)) (kG _) (fun a1 m1 q1=> ⟨S3.mk sL (.inl kR),?_⟩));refine .ow 17 ?_;refine .ea 11 rfl (LC g2 [.int .i64 (m:Nat)] bs2 6 (fun B=> a1.bl++(B++g3.bl)) (mE _ _) (fun a2 m2 q2=> ⟨S3.mk sL (.inl kR),?_⟩));refine .ea 16 rfl (LC g3 [.int .i64 k.CB] bs3 6 (fun B=> a1.bl++(a2.bl++B)) (fD _ _) (fun a3 m3 q3=> ⟨S3.mk sL (.inl kR),?_⟩));refine .ea 18 rfl (.st 3 (zz:=⟨S3.mk sL (.inl kR),?_⟩));refine .ow 19 ?_;refine .ow 20 ?_;refine .dn ?_;exact fin _ _ ⟨a1,a2,a3,⟨⟨by rw[m1,n1],by rw[q1,l1,gQ]⟩,⟨by rw[m2,n2],by rw[q2,l2,KN]⟩,⟨by rw[m3,n3],by rw[q3,l3,vS]⟩⟩,⟨rfl,rfl,rfl,rfl,rfl,rfl,rfl,rfl,rfl,rfl,rfl,trivial⟩,sL⟩
       ·refine Ta.each [7,10] kR rfl ⟨GC.mk rfl rfl rfl (LC g1 [.int .i64 (m:Nat),.int .i64 (m:Nat),.int .i64 k.CB,.int .i64 k.CB] bs1 5 (fun B=> B++(g2.bl++g3.bl)) (kG _) (fun a1 m1 q1=> ⟨S3.mk sL (.inl kR),?_⟩)),GC.mk rfl rfl rfl (.bs (zz:=fun bs2=> ⟨S3.mk sL (.inr sL),?_⟩)),trivial⟩
        ·refine .ow 17 ?_;refine .ea 10 rfl (.bs (zz:=fun bs2=> ⟨S3.mk sL (.inl kR),?_⟩));refine .ea 11 rfl (LC g2 [.int .i64 (m:Nat)] bs2 6 (fun B=> a1.bl++(B++g3.bl)) (mE _ _) (fun a2 m2 q2=> ⟨S3.mk sL (.inl kR),?_⟩));refine .ea 16 rfl (LC g3 [.int .i64 k.CB] bs3 6 (fun B=> a1.bl++(a2.bl++B)) (fD _ _) (fun a3 m3 q3=> ⟨S3.mk sL (.inl kR),?_⟩));refine .ea 18 rfl (.st 3 (zz:=⟨S3.mk sL (.inl kR),?_⟩));refine .ow 19 ?_;refine .ow 20 ?_;refine .dn ?_;exact fin _ _ ⟨a1,a2,a3,⟨⟨by rw[m1,n1],by rw[q1,l1,gQ]⟩,⟨by rw[m2,n2],by rw[q2,l2,KN]⟩,⟨by rw[m3,n3],by rw[q3,l3,vS]⟩⟩,⟨rfl,rfl,rfl,rfl,rfl,rfl,rfl,rfl,rfl,rfl,rfl,trivial⟩,sL⟩
        ·refine .ea 7 rfl (LC g1 [.int .i64 (m:Nat),.int .i64 (m:Nat),.int .i64 k.CB,.int .i64 k.CB] bs1 6 (fun B=> B++(g2.bl++g3.bl)) (kG _) (fun a1 m1 q1=> ⟨S3.mk sL (.inl kR),?_⟩));refine .ow 17 ?_;refine .ea 11 rfl (LC g2 [.int .i64 (m:Nat)] bs2 6 (fun B=> a1.bl++(B++g3.bl)) (mE _ _) (fun a2 m2 q2=> ⟨S3.mk sL (.inl kR),?_⟩));refine .ea 16 rfl (LC g3 [.int .i64 k.CB] bs3 6 (fun B=> a1.bl++(a2.bl++B)) (fD _ _) (fun a3 m3 q3=> ⟨S3.mk sL (.inl kR),?_⟩));refine .ea 18 rfl (.st 3 (zz:=⟨S3.mk sL (.inl kR),?_⟩));refine .ow 19 ?_;refine .ow 20 ?_;refine .dn ?_;exact fin _ _ ⟨a1,a2,a3,⟨⟨by rw[m1,n1],by rw[q1,l1,gQ]⟩,⟨by rw[m2,n2],by rw[q2,l2,KN]⟩,⟨by rw[m3,n3],by rw[q3,l3,vS]⟩⟩,⟨rfl,rfl,rfl,rfl,rfl,rfl,rfl,rfl,rfl,rfl,rfl,trivial⟩,sL⟩
      ·refine Ta.each [6,15] kR rfl ⟨GC.mk rfl rfl rfl (.bs (zz:=fun bs1=> ⟨S3.mk sL (.inr sL),?_⟩)),GC.mk rfl rfl rfl (.bs (zz:=fun bs3=> ⟨S3.mk sL (.inr sL),?_⟩)),trivial⟩
       ·refine Ta.each [7,15] kR rfl ⟨GC.mk rfl rfl rfl (LC g1 [.int .i64 (m:Nat),.int .i64 (m:Nat),.int .i64 k.CB,.int .i64 k.CB] bs1 5 (fun B=> B++(g2.bl++g3.bl)) (kG _) (fun a1 m1 q1=> ⟨S3.mk sL (.inl kR),?_⟩)),GC.mk rfl rfl rfl (.bs (zz:=fun bs3=> ⟨S3.mk sL (.inr sL),?_⟩)),trivial⟩
        ·refine .ow 17 ?_;refine Ta.each [11,15] kR rfl ⟨GC.mk rfl rfl rfl (LC g2 [.int .i64 (m:Nat)] bs2 5 (fun B=> a1.bl++(B++g3.bl)) (mE _ _) (fun a2 m2 q2=> ⟨S3.mk sL (.inl kR),?_⟩)),GC.mk rfl rfl rfl (.bs (zz:=fun bs3=> ⟨S3.mk sL (.inl kR),?_⟩)),trivial⟩
         ·refine .ea 15 rfl (.bs (zz:=fun bs3=> ⟨S3.mk sL (.inl kR),?_⟩));refine .ea 16 rfl (LC g3 [.int .i64 k.CB] bs3 6 (fun B=> a1.bl++(a2.bl++B)) (fD _ _) (fun a3 m3 q3=> ⟨S3.mk sL (.inl kR),?_⟩));refine .ea 18 rfl (.st 3 (zz:=⟨S3.mk sL (.inl kR),?_⟩));refine .ow 19 ?_;refine .ow 20 ?_;refine .dn ?_;exact fin _ _ ⟨a1,a2,a3,⟨⟨by rw[m1,n1],by rw[q1,l1,gQ]⟩,⟨by rw[m2,n2],by rw[q2,l2,KN]⟩,⟨by rw[m3,n3],by rw[q3,l3,vS]⟩⟩,⟨rfl,rfl,rfl,rfl,rfl,rfl,rfl,rfl,rfl,rfl,rfl,trivial⟩,sL⟩
         ·refine .ea 11 rfl (LC g2 [.int .i64 (m:Nat)] bs2 6 (fun B=> a1.bl++(B++g3.bl)) (mE _ _) (fun a2 m2 q2=> ⟨S3.mk sL (.inl kR),?_⟩));refine .ea 16 rfl (LC g3 [.int .i64 k.CB] bs3 6 (fun B=> a1.bl++(a2.bl++B)) (fD _ _) (fun a3 m3 q3=> ⟨S3.mk sL (.inl kR),?_⟩));refine .ea 18 rfl (.st 3 (zz:=⟨S3.mk sL (.inl kR),?_⟩));refine .ow 19 ?_;refine .ow 20 ?_;refine .dn ?_;exact fin _ _ ⟨a1,a2,a3,⟨⟨by rw[m1,n1],by rw[q1,l1,gQ]⟩,⟨by rw[m2,n2],by rw[q2,l2,KN]⟩,⟨by rw[m3,n3],by rw[q3,l3,vS]⟩⟩,⟨rfl,rfl,rfl,rfl,rfl,rfl,rfl,rfl,rfl,rfl,rfl,trivial⟩,sL⟩
        ·refine .ea 7 rfl (LC g1 [.int .i64 (m:Nat),.int .i64 (m:Nat),.int .i64 k.CB,.int .i64 k.CB] bs1 6 (fun B=> B++(g2.bl++g3.bl)) (kG _) (fun a1 m1 q1=> ⟨S3.mk sL (.inl kR),?_⟩));refine .ow 17 ?_;refine .ea 11 rfl (LC g2 [.int .i64 (m:Nat)] bs2 6 (fun B=> a1.bl++(B++g3.bl)) (mE _ _) (fun a2 m2 q2=> ⟨S3.mk sL (.inl kR),?_⟩));refine .ea 16 rfl (LC g3 [.int .i64 k.CB] bs3 6 (fun B=> a1.bl++(a2.bl++B)) (fD _ _) (fun a3 m3 q3=> ⟨S3.mk sL (.inl kR),?_⟩));refine .ea 18 rfl (.st 3 (zz:=⟨S3.mk sL (.inl kR),?_⟩));refine .ow 19 ?_;refine .ow 20 ?_;refine .dn ?_;exact fin _ _ ⟨a1,a2,a3,⟨⟨by rw[m1,n1],by rw[q1,l1,gQ]⟩,⟨by rw[m2,n2],by rw[q2,l2,KN]⟩,⟨by rw[m3,n3],by rw[q3,l3,vS]⟩⟩,⟨rfl,rfl,rfl,rfl,rfl,rfl,rfl,rfl,rfl,rfl,rfl,trivial⟩,sL⟩
       ·refine .ea 6 rfl (.bs (zz:=fun bs1=> ⟨S3.mk sL (.inr sL),?_⟩));refine .ea 7 rfl (LC g1 [.int .i64 (m:Nat),.int .i64 (m:Nat),.int .i64 k.CB,.int .i64 k.CB] bs1 6 (fun B=> B++(g2.bl++g3.bl)) (kG _) (fun a1 m1 q1=> ⟨S3.mk sL (.inl kR),?_⟩));refine .ow 17 ?_;refine .ea 11 rfl (LC g2 [.int .i64 (m:Nat)] bs2 6 (fun B=> a1.bl++(B++g3.bl)) (mE _ _) (fun a2 m2 q2=> ⟨S3.mk sL (.inl kR),?_⟩));refine .ea 16 rfl (LC g3 [.int .i64 k.CB] bs3 6 (fun B=> a1.bl++(a2.bl++B)) (fD _ _) (fun a3 m3 q3=> ⟨S3.mk sL (.inl kR),?_⟩));refine .ea 18 rfl (.st 3 (zz:=⟨S3.mk sL (.inl kR),?_⟩));refine .ow 19 ?_;refine .ow 20 ?_;refine .dn ?_;exact fin _ _ ⟨a1,a2,a3,⟨⟨by rw[m1,n1],by rw[q1,l1,gQ]⟩,⟨by rw[m2,n2],by rw[q2,l2,KN]⟩,⟨by rw[m3,n3],by rw[q3,l3,vS]⟩⟩,⟨rfl,rfl,rfl,rfl,rfl,rfl,rfl,rfl,rfl,rfl,rfl,trivial⟩,sL⟩
      ·refine Ta.each [6,10] kR rfl ⟨GC.mk rfl rfl rfl (.bs (zz:=fun bs1=> ⟨S3.mk sL (.inr sL),?_⟩)),GC.mk rfl rfl rfl (.bs (zz:=fun bs2=> ⟨S3.mk sL (.inr sL),?_⟩)),trivial⟩
       ·refine Ta.each [7,10] kR rfl ⟨GC.mk rfl rfl rfl (LC g1 [.int .i64 (m:Nat),.int .i64 (m:Nat),.int .i64 k.CB,.int .i64 k.CB] bs1 5 (fun B=> B++(g2.bl++g3.bl)) (kG _) (fun a1 m1 q1=> ⟨S3.mk sL (.inl kR),?_⟩)),GC.mk rfl rfl rfl (.bs (zz:=fun bs2=> ⟨S3.mk sL (.inr sL),?_⟩)),trivial⟩
        ·refine .ow 17 ?_;refine .ea 10 rfl (.bs (zz:=fun bs2=> ⟨S3.mk sL (.inl kR),?_⟩));refine .ea 11 rfl (LC g2 [.int .i64 (m:Nat)] bs2 6 (fun B=> a1.bl++(B++g3.bl)) (mE _ _) (fun a2 m2 q2=> ⟨S3.mk sL (.inl kR),?_⟩));refine .ea 16 rfl (LC g3 [.int .i64 k.CB] bs3 6 (fun B=> a1.bl++(a2.bl++B)) (fD _ _) (fun a3 m3 q3=> ⟨S3.mk sL (.inl kR),?_⟩));refine .ea 18 rfl (.st 3 (zz:=⟨S3.mk sL (.inl kR),?_⟩));refine .ow 19 ?_;refine .ow 20 ?_;refine .dn ?_;exact fin _ _ ⟨a1,a2,a3,⟨⟨by rw[m1,n1],by rw[q1,l1,gQ]⟩,⟨by rw[m2,n2],by rw[q2,l2,KN]⟩,⟨by rw[m3,n3],by rw[q3,l3,vS]⟩⟩,⟨rfl,rfl,rfl,rfl,rfl,rfl,rfl,rfl,rfl,rfl,rfl,trivial⟩,sL⟩
        ·refine .ea 7 rfl (LC g1 [.int .i64 (m:Nat),.int .i64 (m:Nat),.int .i64 k.CB,.int .i64 k.CB] bs1 6 (fun B=> B++(g2.bl++g3.bl)) (kG _) (fun a1 m1 q1=> ⟨S3.mk sL (.inl kR),?_⟩));refine .ow 17 ?_;refine .ea 11 rfl (LC g2 [.int .i64 (m:Nat)] bs2 6 (fun B=> a1.bl++(B++g3.bl)) (mE _ _) (fun a2 m2 q2=> ⟨S3.mk sL (.inl kR),?_⟩));refine .ea 16 rfl (LC g3 [.int .i64 k.CB] bs3 6 (fun B=> a1.bl++(a2.bl++B)) (fD _ _) (fun a3 m3 q3=> ⟨S3.mk sL (.inl kR),?_⟩));refine .ea 18 rfl (.st 3 (zz:=⟨S3.mk sL (.inl kR),?_⟩));refine .ow 19 ?_;refine .ow 20 ?_;refine .dn ?_;exact fin _ _ ⟨a1,a2,a3,⟨⟨by rw[m1,n1],by rw[q1,l1,gQ]⟩,⟨by rw[m2,n2],by rw[q2,l2,KN]⟩,⟨by rw[m3,n3],by rw[q3,l3,vS]⟩⟩,⟨rfl,rfl,rfl,rfl,rfl,rfl,rfl,rfl,rfl,rfl,rfl,trivial⟩,sL⟩
       ·refine .ea 6 rfl (.bs (zz:=fun bs1=> ⟨S3.mk sL (.inr sL),?_⟩));refine .ea 7 rfl (LC g1 [.int .i64 (m:Nat),.int .i64 (m:Nat),.int .i64 k.CB,.int .i64 k.CB] bs1 6 (fun B=> B++(g2.bl++g3.bl)) (kG _) (fun a1 m1 q1=> ⟨S3.mk sL (.inl kR),?_⟩));refine .ow 17 ?_;refine .ea 11 rfl (LC g2 [.int .i64 (m:Nat)] bs2 6 (fun B=> a1.bl++(B++g3.bl)) (mE _ _) (fun a2 m2 q2=> ⟨S3.mk sL (.inl kR),?_⟩));refine .ea 16 rfl (LC g3 [.int .i64 k.CB] bs3 6 (fun B=> a1.bl++(a2.bl++B)) (fD _ _) (fun a3 m3 q3=> ⟨S3.mk sL (.inl kR),?_⟩));refine .ea 18 rfl (.st 3 (zz:=⟨S3.mk sL (.inl kR),?_⟩));refine .ow 19 ?_;refine .ow 20 ?_;refine .dn ?_;exact fin _ _ ⟨a1,a2,a3,⟨⟨by rw[m1,n1],by rw[q1,l1,gQ]⟩,⟨by rw[m2,n2],by rw[q2,l2,KN]⟩,⟨by rw[m3,n3],by rw[q3,l3,vS]⟩⟩,⟨rfl,rfl,rfl,rfl,rfl,rfl,rfl,rfl,rfl,rfl,rfl,trivial⟩,sL⟩
    ·refine U7 ?_;refine .cl (fun H hs=> HJ (Mp prog) H (m:Nat) 1 10 false (decide_eq_false oM)) ?_;refine U6 ?_;refine .cl (fun H hs=> pK H (View.le_trans iG hs.base)) ?_;refine U2 ?_;exact hR _ _ _ _ rfl iG
end
end Go.Proofs.YtldmfjcgjdchcaaGreatDoor
