/-
 Texts of the proofs over baudot/dial.
-/
import Derived.Test.YtldmfjcgjdchcaaGreatDoorJ13
namespace Go.Proofs.YtldmfjcgjdchcaaGreatDoor
open Go.RL Go.Proofs.Tryz
set_option maxRecDepth 10000
set_option maxHeartbeats 8000000
def Bk.fG(k:Bk)(j:Nat):List (List UInt8):=(List.range j).map k.name
theorem LS(k:Bk)(j:Nat):k.fG (j+1)=k.fG j++[k.name j]:=by unfold Bk.fG;rw[List.range_succ,List.map_append];rfl
theorem eV(k:Bk)(j:Nat):(k.fG j).length=j:=by unfold Bk.fG;simp
theorem pL {p q:Nat->Bool}:∀n,(∀i,i<n->p i=q i)->pA p n=pA q n
 | 0,_=> rfl
 | n+1,h=> by rw[pA,pA,pL n (fun i hi=> h i oM),h n oM]
theorem fV(k:Bk)(j n:Nat)(hn:n=j)(s:List UInt8):pA (fun i=> (k.fG j)[i]?.getD []==s) n=pA (fun i=> k.name i==s) j:=by
 subst hn;refine pL _ fun i hi=> ?_;unfold Bk.fG;rw[List.getElem?_map,List.getElem?_eq_getElem (by simpa using hi)];simp
section
variable(M:Md prog)(H:View)
theorem bS (k:Bk)(A:Option Addr)(lc:Nat)(hA:VC H k A lc)(hn:k.nl<=1000)(AF:∀i,i<k.nl->(k.name i).length<=1000000/\(k.num i).length<=1000000/\k.nf i<=1000):
  aA M 83 #[.slice A k.nl lc] H (fun v H'=> H.le H'/\v=.int .i64 k.OD):=by
 by_cases c1:6<k.nl
 ·have e:k.OD=2:=if_pos c1;rw[e];refine .en func83 ntmps83 fun St c cs hK=> ?_;refine lN ?_;refine .rt hK func83 results83 [_] ?_;exact okB
 ·have e : k.OD =DC k.iC k.nl:=if_neg c1;rw[e];clear e;refine .en func83 ntmps83 fun St c cs hK=> ?_;refine q9 ?_;refine Tc.db (Tc.sA (σ:= { x:Nat×Gl 9 1//x.1<=k.nl/\DC k.iC x.1=0/\x.2.l=PB (k.fG x.1) }) (fun x=> ([(0,.slice A k.nl lc),(3,x.1.2.val),(4,.int .i64 (x.1.1:Nat))],x.1.2.bl)) (fun x=> k.nl-x.1.1) ?_ ⟨(0,Gl.nil 9 1),Nat.zero_le _,rfl,rfl⟩);rintro⟨⟨j,g⟩,hj,YC,FY⟩ ih;simp only at hj YC FY;show Tc M St _ _ _ _ [(0,.slice A k.nl lc),(3,g.val),(4,.int .i64 (j:Nat))] g.bl _ _;have iK:g.n=j:=by
   have:=g.hl;rw[FY,xF,eV] at this;omega
  by_cases c2:j=k.nl
  ·subst c2;rw[YC] at hK;refine lF ?_;refine .rt hK func83 results83 [_] ?_;exact okB
  ·have c3 : j < k.nl:=by omega
   have hA':=hA;obtain⟨bR,h0|⟨ab,ao,f,gs,gt,gz,rfl,hb,hl⟩⟩:=hA
   ·omega
   obtain⟨F,fc,f1,_,hF⟩:=hl j c3;obtain⟨s0,s1,s2⟩:=AF j c3;have f20:BC false 1 gs (ao+((j:Nat):Int).toNat*3+0)=some (vA (k.name j)):=GH f1 dE;have f21:BC false 1 gs (ao+((j:Nat):Int).toNat*3+1)=some (vA (k.num j)):=GH f1 dE;have f22:BC false 1 gs (ao+((j:Nat):Int).toNat*3+2)=some (.slice F (k.nf j) fc):=GH f1 dE;have XV:VC H (k.pre j) (some ⟨ab,ao,none⟩) lc:=hA'.pre hj;have ZV:=fun(H':View) (hg:∀x∈g.bl,H' x.1=some x.2)=> DQ M H' (g.blk.map fun b=> ⟨b,0,none⟩) g.n g.cap (fun i=> (k.fG j)[i]?.getD []) (ZJ g hg FY rfl rfl) oM (k.name j);rw[fV k j g.n iK] at ZV;cases q0:mK (k.name j) with
   | false=>
    have eA:k.iC j=4:=by unfold Bk.iC;simp only[q0];simp
    rw[vC YC eA dE c3] at hK;refine QR ?_;refine .cl (fun H hs=> kG M H (k.name j) s0 _ q0) ?_;refine U7 ?_;refine .rt hK func83 results83 [_] ?_;exact okB
   | true=>
    cases q1:k.again j with
    | true=>
     obtain⟨i0,cX⟩:∃i,pA (fun i=> k.name i==k.name j) j=some i:=Option.isSome_iff_exists.1 q1;rw[cX] at ZV;have ZV:=fun(H':View) (hg:∀x∈g.bl,H' x.1=some x.2)=> dW (w':=.int .i64 (i0:Nat)) (ZV H' hg) rfl;have eA:k.iC j=5:=by unfold Bk.iC;simp only[q0,q1];simp
     rw[vC YC eA dE c3] at hK;refine QR ?_;refine .cl (fun H hs=> kG M H (k.name j) s0 _ q0) ?_;refine ZF ?_;refine .cl (fun H hs=> ZV H (fun x hx=> hs.at_ x hx)) ?_;refine U7 ?_;refine .rt hK func83 results83 [_] ?_;exact okB
    | false =>
     have cX:pA (fun i=> k.name i==k.name j) j=none:=Option.isNone_iff_eq_none.1 (by have:=q1;unfold Bk.again at this;rw[<-Option.not_isSome,this];rfl);rw[cX] at ZV;have ZV:=fun(H':View) (hg:∀x∈g.bl,H' x.1=some x.2)=> dW (w':=.int .i64 (-1)) (ZV H' hg) rfl;cases q2:isNum (k.num j) with
     | false=>
      have eA:k.iC j=3:=by unfold Bk.iC;simp only[q0,q1,q2];simp
      rw[vC YC eA dE c3] at hK;refine QR ?_;refine .cl (fun H hs=> kG M H (k.name j) s0 _ q0) ?_;refine ZF ?_;refine .cl (fun H hs=> ZV H (fun x hx=> hs.at_ x hx)) ?_;refine SE ?_;refine .e (.bs (zz:=fun bs=> ?_));refine .e (Or.append (E:=en) (g:=g) (m:=1) (new:= [vA (k.name j)]) (yv:=.slice (some ⟨bs,0,none⟩) 1 1) 1 rfl rfl rfl rfl rfl rfl rfl rfl rfl rfl rfl rfl rfl rfl rfl (fun H hs=> UA.of (hs.get (i:=0) rfl) (Nat.le_of_ble_eq_true rfl)) rfl oM rfl dE (fun g2 aW xN=> ?_));refine UC ?_;refine .cl (fun H hs=> QG M H (k.num j) s1 _ q2) ?_;refine U7 ?_;refine .rt hK func83 results83 [_] ?_;exact okB
     | true=>
      cases q3:(k.pre j).clash (k.num j) with
      | true=>
       have eA:k.iC j=10:=by unfold Bk.iC;simp only[q0,q1,q2,q3];simp
       rw[vC YC eA dE c3] at hK;refine QR ?_;refine .cl (fun H hs=> kG M H (k.name j) s0 _ q0) ?_;refine ZF ?_;refine .cl (fun H hs=> ZV H (fun x hx=> hs.at_ x hx)) ?_;refine SE ?_;refine .e (.bs (zz:=fun bs=> ?_));refine .e (Or.append (E:=en) (g:=g) (m:=1) (new:= [vA (k.name j)]) (yv:=.slice (some ⟨bs,0,none⟩) 1 1) 1 rfl rfl rfl rfl rfl rfl rfl rfl rfl rfl rfl rfl rfl rfl rfl (fun H hs=> UA.of (hs.get (i:=0) rfl) (Nat.le_of_ble_eq_true rfl)) rfl oM rfl dE (fun g2 aW xN=> ?_));refine UC ?_;refine .cl (fun H hs=> QG M H (k.num j) s1 _ q2) ?_;refine U6 ?_;refine Tc.dr [] [] mixed rfl ?_;refine V2 0 ?_;refine .q 2 rfl (xA.sliceTo (E:=en) (k:=j) rfl rfl rfl rfl rfl rfl oM oM) ?_;refine V5 3 ?_;refine .z 8 rfl (xA.tk fun H hs=> FK M H (k.pre j) (some ⟨ab,ao,none⟩) lc (XV.le hs.base) (by show j<=1000;omega) (k.num j) _ q3) ?_;refine .dn ?_;refine U5 ?_;refine .rt hK func83 results83 [_] ?_;exact okB
      | false =>
       cases q4:decide (1<=((k.nf j:Nat):Int)/\((k.nf j:Nat):Int)<=4) with
       | false=>
        have eA:k.iC j=2:=by unfold Bk.iC;simp only[q0,q1,q2,q3,q4];simp
        rw[vC YC eA dE c3] at hK;refine QR ?_;refine .cl (fun H hs=> kG M H (k.name j) s0 _ q0) ?_;refine ZF ?_;refine .cl (fun H hs=> ZV H (fun x hx=> hs.at_ x hx)) ?_;refine SE ?_;refine .e (.bs (zz:=fun bs=> ?_));refine .e (Or.append (E:=en) (g:=g) (m:=1) (new:= [vA (k.name j)]) (yv:=.slice (some ⟨bs,0,none⟩) 1 1) 1 rfl rfl rfl rfl rfl rfl rfl rfl rfl rfl rfl rfl rfl rfl rfl (fun H hs=> UA.of (hs.get (i:=0) rfl) (Nat.le_of_ble_eq_true rfl)) rfl oM rfl dE (fun g2 aW xN=> ?_));refine UC ?_;refine .cl (fun H hs=> QG M H (k.num j) s1 _ q2) ?_;refine U6 ?_;refine Tc.dr [] [] mixed rfl ?_;refine V2 0 ?_;refine .q 2 rfl (xA.sliceTo (E:=en) (k:=j) rfl rfl rfl rfl rfl rfl oM oM) ?_;refine V5 3 ?_;refine .z 8 rfl (xA.tk fun H hs=> FK M H (k.pre j) (some ⟨ab,ao,none⟩) lc (XV.le hs.base) (by show j<=1000;omega) (k.num j) _ q3) ?_;refine .dn ?_;refine YD ?_;refine .cl (fun H hs=> DK M H ((k.nf j:Nat):Int) 1 4 _ q4) ?_;refine U7 ?_;refine .rt hK func83 results83 [_] ?_;exact okB
       | true=>
        refine QR ?_;refine .cl (fun H hs=> kG M H (k.name j) s0 _ q0) ?_;refine ZF ?_;refine .cl (fun H hs=> ZV H (fun x hx=> hs.at_ x hx)) ?_;refine SE ?_;refine .e (.bs (zz:=fun bs=> ?_));refine .e (Or.append (E:=en) (g:=g) (m:=1) (new:= [vA (k.name j)]) (yv:=.slice (some ⟨bs,0,none⟩) 1 1) 1 rfl rfl rfl rfl rfl rfl rfl rfl rfl rfl rfl rfl rfl rfl rfl (fun H hs=> UA.of (hs.get (i:=0) rfl) (Nat.le_of_ble_eq_true rfl)) rfl oM rfl dE (fun g2 aW xN=> ?_));refine UC ?_;refine .cl (fun H hs=> QG M H (k.num j) s1 _ q2) ?_;refine U6 ?_;refine Tc.dr [] [] mixed rfl ?_;refine V2 0 ?_;refine .q 2 rfl (xA.sliceTo (E:=en) (k:=j) rfl rfl rfl rfl rfl rfl oM oM) ?_;refine V5 3 ?_;refine .z 8 rfl (xA.tk fun H hs=> FK M H (k.pre j) (some ⟨ab,ao,none⟩) lc (XV.le hs.base) (by show j<=1000;omega) (k.num j) _ q3) ?_;refine .dn ?_;refine YD ?_;refine .cl (fun H hs=> DK M H ((k.nf j:Nat):Int) 1 4 _ q4) ?_;refine U9 ?_;refine Tc.db (Tc.sA (σ:= { i:Nat//i<=k.nf j/\pA (fun i=> !aE (k.free j i)) i=none }) (fun i=> ([(0,.slice (some ⟨ab,ao,none⟩) k.nl lc),(3,g2.val),(4,.int .i64 (j:Nat)),(5,.int .i64 (i.1:Nat))],g2.bl)) (fun i=> k.nf j-i.1) ?_ ⟨0,Nat.zero_le _,rfl⟩);rintro⟨i,hi,jK⟩ ih2;show Tc M St _ _ _ _ [(0,.slice (some ⟨ab,ao,none⟩) k.nl lc),(3,g2.val),(4,.int .i64 (j:Nat)),(5,.int .i64 (i:Nat))] g2.bl _ _;by_cases d1:i=k.nf j
        ·have eA:k.iC j=0:=by
          have q5:k.TH j=false:=by unfold Bk.TH;rw[<-d1,jK];rfl
          unfold Bk.iC;simp only[q0,q1,q2,q3,q4,q5];simp
         clear ih2 jK;subst d1;refine QR ?_;exact Tc.db (ih ⟨(j+1,g2),by simp only;omega,by simp only;rw[DC,if_pos YC];exact eA,by simp only;rw[LS,wF,xN,FY];rfl⟩ (by simp only;omega))
        ·have d2:i<k.nf j:=by omega
         obtain h0|⟨fb,fo,ff,fgs,fgt,fgz,rfl,hfb,hfl⟩:=hF
         ·omega
         have f3:=hfl i d2;cases q5:aE (k.free j i) with
         | true=>
          refine U26 ?_;refine .cl (fun H hs=> FQ M H (k.free j i) _ q5) ?_;refine UC ?_;exact Tc.db (ih2 ⟨i+1,oM,by simp[pA,jK,q5]⟩ (by simp only;omega))
         | false=>
          have q6:k.TH j=true:=by
           unfold Bk.TH;rw[nB (j:=i+1) (x:=i) (by simp[pA,jK,q5]) _ oM];rfl
          have eA:k.iC j=1:=by unfold Bk.iC;simp only[q0,q1,q2,q3,q4,q6];simp
          rw[vC YC eA dE c3] at hK;refine U26 ?_;refine .cl (fun H hs=> FQ M H (k.free j i) _ q5) ?_;refine U7 ?_;refine .rt hK func83 results83 [_] ?_;exact okB
end
def Bk.wide(k:Bk)(i:Nat):Bool:=decide (100<(k.name i).length)||decide (100<(k.num i).length)||decide (20<k.nf i)
def Bk.EH(k:Bk):Bool:=decide (20<k.nl)||decide (20<k.nt)||(pA k.wide k.nl).isSome
def Bk.fit(k:Bk):Bool:=!k.EH&&decide (k.VA=0)
theorem Bk.zO {k:Bk}(h:k.EH=false):k.nl<=20/\k.nt<=20/\∀i,i<k.nl->(k.name i).length<=100/\(k.num i).length<=100/\k.nf i<=20:=by
 unfold Bk.EH at h;rw[Bool.or_eq_false_iff,Bool.or_eq_false_iff] at h;have h1:=of_decide_eq_false h.1.1;have h2:=of_decide_eq_false h.1.2;refine⟨oM,oM,fun i hi=> ?_⟩;have h3:k.wide i=false:=(MB _).1 (by rw[<-Option.not_isSome_iff_eq_none,h.2];decide) i hi;unfold Bk.wide at h3;rw[Bool.or_eq_false_iff,Bool.or_eq_false_iff] at h3;have h4:=of_decide_eq_false h3.1.1;have h5:=of_decide_eq_false h3.1.2;have h6:=of_decide_eq_false h3.2;omega
theorem Bk.tH {k:Bk}(h:k.EH=false):k.small:=by
 obtain⟨h1,h2,h3⟩:=Bk.zO h;exact⟨oM,oM,fun i hi=> by have:=h3 i hi;omega⟩
section
variable(M:Md prog)(H:View)
theorem PD(k:Bk)(A:Option Addr)(lc:Nat)(B:Option Addr)(tc:Nat)(hk:GD H k A lc B tc)(hn:k.small)(hnm:∀i,i<k.nl->(k.name i).length<=1000000):
  aA M 29 #[k.val A lc B tc] H (fun v H'=> H.le H'/\v=.int .i64 k.VA):=by
 have xS:=fun(H':View) (h':H.le H')=> bS M H' k A lc (hk.le h').rows hn.nl (fun i hi=> ⟨hnm i hi,hn.num i hi⟩);have hng:=hn.nt;by_cases c1:1<=k.MF/\k.MF<=99
 ·by_cases c2:k.MF+1<=k.lD/\k.lD<=99
  ·have e:k.VA=if k.OD=0 then k.PC else k.OD:=by unfold Bk.VA;rw[if_pos (by unfold Bk.DD;rw[if_pos ⟨c1,c2⟩])]
   rw[e];clear e;by_cases c3:k.OD=0
   ·rw[if_pos c3];rw[c3] at xS;by_cases c4:6<k.nt
    ·have e:k.PC=2:=by unfold Bk.PC;rw[if_pos c4]
     rw[e];refine .en func29 ntmps29 fun St c cs hK=> ?_;refine U2 ?_;refine .bo fun b1=> ?_;refine U7 ?_;refine .cl (fun H hs=> DK M H k.MF 1 99 true (decide_eq_true c1)) ?_;refine U7 ?_;refine .cl (fun H hs=> DK M H k.lD (k.MF+1) 99 true (decide_eq_true c2)) ?_;refine UC ?_;refine .cl (fun H hs=> xS H hs.base) ?_;refine p9 ?_;refine .rt hK func29 results29 [_] ?_;exact okB
    ·have e:k.PC=if(pA k.aC k.nt).isSome then 1 else 0:=by unfold Bk.PC;rw[if_neg c4]
     rw[e];clear e;refine .en func29 ntmps29 fun St c cs hK=> ?_;refine U2 ?_;refine .bo fun b1=> ?_;refine U7 ?_;refine .cl (fun H hs=> DK M H k.MF 1 99 true (decide_eq_true c1)) ?_;refine U7 ?_;refine .cl (fun H hs=> DK M H k.lD (k.MF+1) 99 true (decide_eq_true c2)) ?_;refine UC ?_;refine .cl (fun H hs=> xS H hs.base) ?_;refine U25 ?_;refine Tc.db (Tc.sA (σ:= { i:Nat//i<=k.nt/\pA k.aC i=none }) (fun i=> ([(1,.pointer (some ⟨b1,0,none⟩)),(4,.int .i64 (i.1:Nat))],[(b1,true,.cells ⟨(k.val A lc B tc).cells.toList⟩ 45 (0,0))])) (fun i=> k.nt-i.1) ?_ ⟨0,Nat.zero_le _,rfl⟩);rintro⟨i,hi,YC⟩ ih;show Tc M St _ _ _ _ [(1,.pointer (some ⟨b1,0,none⟩)),(4,.int .i64 (i:Nat))] [(b1,true,.cells ⟨(k.val A lc B tc).cells.toList⟩ 45 (0,0))] _ _;by_cases c5:i=k.nt
     ·clear ih;subst c5;rw[YC] at hK;refine kN ?_;refine .rt hK func29 results29 [_] ?_;exact okB
     ·have c6:i<k.nt:=by omega
      obtain⟨_,SZ,h0|⟨tb,to,f,gs,gt,gz,rfl,hb,hl⟩⟩:=hk
      ·omega
      have f1:=hl i c6;cases q:ZA (k.pf i) (k.pt i) (k.qf i) (k.qt i) with
      | true=>
       refine QR ?_;refine .cl (fun H hs=> kL M H (k.pf i) (k.pt i) (k.qf i) (k.qt i) 0 (by rw[q];rfl)) ?_;refine kN ?_;exact Tc.db (ih ⟨i+1,oM,by simp[pA,YC,Bk.aC,q]⟩ (by simp only;omega))
      | false=>
       rw[nB (j:=i+1) (x:=i) (by simp[pA,YC,Bk.aC,q]) _ oM] at hK;refine QR ?_;refine .cl (fun H hs=> kL M H (k.pf i) (k.pt i) (k.qf i) (k.qt i) 1 (by rw[q];rfl)) ?_;refine ZF ?_;refine .rt hK func29 results29 [_] ?_;exact okB
   ·rw[if_neg c3];refine .en func29 ntmps29 fun St c cs hK=> ?_;refine U2 ?_;refine .bo fun b1=> ?_;refine U7 ?_;refine .cl (fun H hs=> DK M H k.MF 1 99 true (decide_eq_true c1)) ?_;refine U7 ?_;refine .cl (fun H hs=> DK M H k.lD (k.MF+1) 99 true (decide_eq_true c2)) ?_;refine UC ?_;refine .cl (fun H hs=> xS H hs.base) ?_;refine ZF ?_;refine .rt hK func29 results29 [_] ?_;exact okB
  ·have e:k.VA=1:=by unfold Bk.VA Bk.DD;simp[c2]
   rw[e];refine .en func29 ntmps29 fun St c cs hK=> ?_;refine U2 ?_;refine .bo fun b1=> ?_;refine U7 ?_;refine .cl (fun H hs=> DK M H k.MF 1 99 true (decide_eq_true c1)) ?_;refine U7 ?_;refine .cl (fun H hs=> DK M H k.lD (k.MF+1) 99 false (decide_eq_false c2)) ?_;refine U8 ?_;refine .rt hK func29 results29 [_] ?_;exact okB
 ·have e:k.VA=1:=by unfold Bk.VA Bk.DD;simp[c1]
  rw[e];refine .en func29 ntmps29 fun St c cs hK=> ?_;refine U2 ?_;refine .bo fun b1=> ?_;refine U7 ?_;refine .cl (fun H hs=> DK M H k.MF 1 99 false (decide_eq_false c1)) ?_;refine lN ?_;refine .rt hK func29 results29 [_] ?_;exact okB
theorem Z7(a num:List UInt8)(F:Option Addr)(n fc:Nat)(t:Bool)(ht:(decide (100<a.length)||decide (100<num.length)||decide (20<n))=t):
  aA M 89 #[GL a num F n fc] H (fun v H'=> H.le H'/\v=.bool t):=by
 rw[<-ht];refine .en func89 ntmps89 fun St c cs hK=> ?_;by_cases c1:100<a.length
 all_goals by_cases c2:100<num.length
 all_goals by_cases c3:20<n
 all_goals
  refine U2 ?_;refine .bo fun b1=> ?_;refine U7 ?_;refine .i ?_ (z:=by first|exact sK oM|exact aJ oM);refine U ?_;first|(refine .sk ?_)|(refine .x .fa ?_)
  first|(refine .sk ?_)|((refine .x (.ld 0) ?_))
  first|(refine .sk ?_)|(refine .x (xA.aES (E:=en) rfl rfl rfl rfl rfl rfl rfl) ?_)
  first|(refine .sk ?_)|(refine .x (.it (zz:=(by first|exact sK oM|exact aJ oM))) ?_)
  refine U2 ?_;first|(refine .sk ?_)|(refine .x .fa ?_)
  first|(refine .sk ?_)|((refine .x (.ld 0) ?_))
  first|(refine .sk ?_)|(refine .x .ln ?_)
  first|(refine .sk ?_)|(refine .x (.it (zz:=(by first|exact sK oM|exact aJ oM))) ?_)
  refine U3 ?_;refine .rt hK func89 results89 [_] ?_;exact fun H' hs=> ⟨hs.base,by simp[oC,c1,c2,c3]⟩
theorem GR(k:Bk)(A:Option Addr)(lc:Nat)(B:Option Addr)(tc:Nat)(hA:VC H k A lc):
  aA M 31 #[k.val A lc B tc] H (fun v H'=> H.le H'/\v=.bool k.EH):=by
 by_cases c1:20<k.nl
 ·have e:k.EH=true:=by unfold Bk.EH;simp[c1]
  rw[e];refine .en func31 ntmps31 fun St c cs hK=> ?_;refine U2 ?_;refine .bo fun b1=> ?_;refine lO ?_;refine .rt hK func31 results31 [_] ?_;exact okB
 ·by_cases c2:20<k.nt
  ·have e:k.EH=true:=by unfold Bk.EH;simp[c2]
   rw[e];refine .en func31 ntmps31 fun St c cs hK=> ?_;refine U2 ?_;refine .bo fun b1=> ?_;refine lO ?_;refine .rt hK func31 results31 [_] ?_;exact okB
  ·have e:k.EH=(pA k.wide k.nl).isSome:=by unfold Bk.EH;simp[c1,c2]
   rw[e];clear e;refine .en func31 ntmps31 fun St c cs hK=> ?_;refine U2 ?_;refine .bo fun b1=> ?_;refine U24 ?_;refine Tc.db (Tc.sA (σ:= { i:Nat//i<=k.nl/\pA k.wide i=none }) (fun i=> ([(1,.pointer (some ⟨b1,0,none⟩)),(3,.int .i64 (i.1:Nat))],[(b1,true,.cells ⟨(k.val A lc B tc).cells.toList⟩ 45 (0,0))])) (fun i=> k.nl-i.1) ?_ ⟨0,Nat.zero_le _,rfl⟩);rintro⟨i,hi,YC⟩ ih;show Tc M St _ _ _ _ [(1,.pointer (some ⟨b1,0,none⟩)),(3,.int .i64 (i:Nat))] [(b1,true,.cells ⟨(k.val A lc B tc).cells.toList⟩ 45 (0,0))] _ _;by_cases c5:i=k.nl
   ·clear ih;subst c5;rw[YC] at hK;refine kN ?_;refine .rt hK func31 results31 [_] ?_;exact okB
   ·have c6:i<k.nl:=by omega
    obtain⟨bR,h0|⟨ab,ao,f,gs,gt,gz,rfl,hb,hl⟩⟩:=hA
    ·omega
    obtain⟨F,fc,f1,_,_⟩:=hl i c6;cases q:k.wide i with
    | true=>
     rw[nB (j:=i+1) (x:=i) (by simp[pA,YC,q]) _ oM] at hK;refine QR ?_;refine .cl (fun H hs=> Z7 M H (k.name i) (k.num i) F (k.nf i) fc true q) ?_;refine U6 ?_;refine .rt hK func31 results31 [_] ?_;exact okB
    | false=>
     refine QR ?_;refine .cl (fun H hs=> Z7 M H (k.name i) (k.num i) F (k.nf i) fc false q) ?_;refine U9 ?_;exact Tc.db (ih ⟨i+1,oM,by simp[pA,YC,q]⟩ (by simp only;omega))
theorem W1(k:Bk)(A:Option Addr)(lc:Nat)(B:Option Addr)(tc:Nat)(hk:GD H k A lc B tc)(t:Bool)(ht:k.fit=t):
  aA M 16 #[k.val A lc B tc] H (fun v H'=> H.le H'/\v=.bool t):=by
 rw[<-ht];clear ht;cases q:k.EH with
 | true=>
  have e:k.fit=false:=by unfold Bk.fit;rw[q];rfl
  rw[e];refine .en func16 ntmps16 fun St c cs hK=> ?_;refine U2 ?_;refine .bo fun b1=> ?_;refine U5 ?_;refine .cl (fun H hs=> eG (GR M H k A lc B tc (hk.le hs.base).rows) q) ?_;refine U8 ?_;refine .rt hK func16 results16 [_] ?_;exact okB
 | false=>
  by_cases c1:k.VA=0
  ·have e:k.fit=true:=by unfold Bk.fit;rw[q];simp[c1]
   rw[e];refine .en func16 ntmps16 fun St c cs hK=> ?_;refine U2 ?_;refine .bo fun b1=> ?_;refine U5 ?_;refine .cl (fun H hs=> eG (GR M H k A lc B tc (hk.le hs.base).rows) q) ?_;refine U3 ?_;refine .cl (fun H hs=> dW (PD M H k A lc B tc (hk.le hs.base) (Bk.tH q) (fun i hi=> by have:=(Bk.zO q).2.2 i hi;omega)) (w':=.int .i64 0) (by rw[c1])) ?_;refine U4 ?_;refine .rt hK func16 results16 [_] ?_;exact okB
  ·have e:k.fit=false:=by unfold Bk.fit;rw[q];simp[c1]
   rw[e];refine .en func16 ntmps16 fun St c cs hK=> ?_;refine U2 ?_;refine .bo fun b1=> ?_;refine U5 ?_;refine .cl (fun H hs=> eG (GR M H k A lc B tc (hk.le hs.base).rows) q) ?_;refine U3 ?_;refine .cl (fun H hs=> PD M H k A lc B tc (hk.le hs.base) (Bk.tH q) (fun i hi=> by have:=(Bk.zO q).2.2 i hi;omega)) ?_;refine U4 ?_;refine .rt hK func16 results16 [_] ?_;exact okB
end
theorem zM {k d:Bk}(h:∀i,∀x∈k.can i,x∈d.can i):∀n e,k.AD n e->d.AD n e
 | 0,_,he=> he
 | n+1,_,⟨e0,h0,x,hx,he⟩=> ⟨e0,zM h n e0 h0,x,h n x hx,he⟩
theorem nP(k:Bk)(p:Int):(p<k.MF/\k.kind p=0)\/(k.MF<=p/\p<k.lD/\k.kind p=1)\/(k.MF<=p/\k.lD<=p/\k.kind p=2):=by
 unfold Bk.kind;by_cases h1:p<k.MF
 ·exact .inl ⟨h1,if_pos h1⟩
 ·by_cases h2:p<k.lD
  ·exact .inr (.inl ⟨oM,h2,by rw[if_neg h1,if_pos h2]⟩)
  ·exact .inr (.inr ⟨oM,oM,by rw[if_neg h1,if_neg h2]⟩)
theorem aAI {k:Bk}(dC:k.QC):1<=k.qH.length:=by
 obtain⟨e,he⟩:=k.AM dC k.nt (Nat.le_refl _);have h:wB (k.line e.heard)∈k.qH:=(k.IL _).2 ⟨e,he,rfl⟩;exact List.length_pos_of_mem h
theorem DW {k o:Bk}(hs:∀z,z∈o.qH->z∈k.qH)(hp:1<=o.qH.length){z:Int}(h:k.mB z≠0):o.mB z=k.mB z:=by
 unfold Bk.mB at h ⊢;by_cases c:z∈k.qH
 ·rw[if_pos c] at h ⊢;by_cases c2:k.qH.length=1
  ·rw[if_pos c2] at h ⊢;obtain⟨w,hw⟩:=List.length_eq_one_iff.1 c2;have hz:z=w:=by rw[hw] at c;simpa using c
   subst hz;have hle:=KL (l:=o.qH) (m:=k.qH) (LD _) hs;have hl:o.qH.length=1:=by omega
   obtain⟨v,hv⟩:=List.length_eq_one_iff.1 hl;have h3:=hs v (by rw[hv];simp);rw[hw] at h3;have h4:v=z:=by simpa using h3
   subst h4;rw[if_pos (by rw[hv];simp),if_pos hl]
  ·rw[if_neg c2] at h;exact(h rfl).elim
 ·rw[if_neg c,if_neg fun h2=> c (hs z h2)]
theorem LZ {k:Bk}{s:List UInt8}:s∈k.xD<->∃e,k.AD k.nt e/\s=e.heard:=by
 unfold Bk.xD;rw[mG,List.mem_map];constructor
 ·rintro⟨e,he,rfl⟩;exact⟨e,(k.LC _ e).1 he,rfl⟩
 ·rintro⟨e,he,rfl⟩;exact⟨e,(k.LC _ e).2 he,rfl⟩
theorem aR {k:Bk}(ha:k.VA=0):k.xD.length<=12 ^ 6:=by
 have h1:=KL (l:=k.xD) (m:=(k.UF k.nt).map (·.heard)) (by unfold Bk.xD;exact(zH _).imp fun h e=> by subst e;have h2:=NM h;rw[h] at h2;cases h2) (fun x hx=> by unfold Bk.xD at hx;exact(mG _).1 hx);have h2:=RO ha;rw[List.length_map] at h1;omega
theorem AU {l m:List (List UInt8)}{n:Nat}(hn:n=m.length)(h:∀s,s∈l->s∈m){i:Nat}(hi:i<l.length):(pA (fun j=> (fun j=> m[j]?.getD []) j==(fun j=> l[j]?.getD []) i) n).isSome=true:=by
 subst hn;cases e:pA (fun j=> (fun j=> m[j]?.getD []) j==(fun j=> l[j]?.getD []) i) m.length with
 | some _=> rfl
 | none=>
  have h1:=(MB _).1 e;have h2:l[i]∈m:=h _ (List.getElem_mem hi);obtain⟨j,hj,h3⟩:=List.getElem_of_mem h2;have h4:=h1 j hj;simp only[List.getElem?_eq_getElem hj,List.getElem?_eq_getElem hi,Option.getD_some] at h4;rw[h3] at h4;simp at h4
structure Bk.KR(o k:Bk):Prop where
 nl:o.nl=k.nl
 nt:o.nt=k.nt
 line:o.line=k.line
 can:∀i,∀x∈o.can i,x∈k.can i
theorem Bk.KR.heard {o k:Bk}(h:o.KR k)(s:List UInt8)(hs:s∈o.xD):s∈k.xD:=by
 rw[LZ] at hs ⊢;obtain⟨e,he,rfl⟩:=hs;rw[h.nt] at he;exact⟨e,zM h.can _ e he,rfl⟩
theorem Bk.KR.res {o k:Bk}(h:o.KR k)(z:Int)(hz:z∈o.qH):z∈k.qH:=by
 rw[Bk.IL] at hz ⊢;obtain⟨e,he,rfl⟩:=hz;rw[h.nt] at he;exact⟨e,zM h.can _ e he,by rw[h.line]⟩
theorem Bk.KR.aEj {o k:Bk}(h:o.KR k)(ho:o.VA=0)(z:Int)(hz:k.mB z≠0):k.mB z=o.mB z:=
 (DW h.res (aAI (Bk.valid ho).2.2.2) hz).symm
section
variable(M:Md prog)(H:View)
theorem E7(A:Option Addr)(n ac:Nat)(x:Nat->List UInt8)(hA:HE H A n x)(B:Option Addr)(m bc:Nat)(y:Nat->List UInt8)(hB:HE H B m y)(hn:n<=100000000)(hm:m<=100000000)(h:∀i,i<n->(pA (fun j=> y j==x i) m).isSome=true):
  aA M 66 #[.slice A n ac,.slice B m bc] H (fun v H'=> H.le H'/\v=.bool true):=by
 refine .en func66 ntmps66 fun St c cs hK=> ?_;refine UC ?_;refine Tc.db (Tc.sA (σ:= { j:Nat//j<=n }) (fun j=> ([(0,.slice A n ac),(1,.slice B m bc),(5,.int .i64 (j.1:Nat))],[])) (fun j=> n-j.1) ?_ ⟨0,Nat.zero_le _⟩);rintro⟨j,hj⟩ ih;show Tc M St _ _ _ _ [(0,.slice A n ac),(1,.slice B m bc),(5,.int .i64 (j:Nat))] [] _ _;by_cases c1:j=n
 ·clear ih;refine lF ?_;refine .rt hK func66 results66 [_] ?_;exact okB
 ·have c2:j<n:=by omega
  obtain h0|⟨ab,ao,f,gs,gt,gz,rfl,hb,hl⟩:=hA
  ·omega
  have f1:=hl j c2;have h1:=h j c2;have ZV:=fun(H':View) (h':H.le H')=> DQ M H' B m bc y (hB.le h') oM (x j);obtain⟨z,hz⟩:=Option.isSome_iff_exists.1 h1;rw[hz] at ZV;have e:wB (some z)=((z:Nat):Int):=rfl;rw[e] at ZV;refine PR ?_;refine .cl (fun H hs=> ZV H hs.base) ?_;refine UC ?_;exact Tc.db (ih ⟨j+1,oM⟩ (by simp only;omega))
theorem aCi(A:Option Addr)(n ac:Nat)(x:Nat->Int)(hA:GB H A n x)(B:Option Addr)(bc:Nat)(y:Nat->Int)(hB:GB H B n y)(hn:n<=1000)(h:∀i,i<n->x i≠0->x i=y i):
  aA M 67 #[.slice A n ac,.slice B n bc] H (fun v H'=> H.le H'/\v=.bool true):=by
 refine .en func67 ntmps67 fun St c cs hK=> ?_;refine lO ?_;refine Tc.db (Tc.sA (σ:= { j:Nat//j<=n }) (fun j=> ([(0,.slice A n ac),(1,.slice B n bc),(5,.int .i64 (j.1:Nat))],[])) (fun j=> n-j.1) ?_ ⟨0,Nat.zero_le _⟩);rintro⟨j,hj⟩ ih;show Tc M St _ _ _ _ [(0,.slice A n ac),(1,.slice B n bc),(5,.int .i64 (j:Nat))] [] _ _;by_cases c1:j=n
 ·clear ih;refine lF ?_;refine .rt hK func67 results67 [_] ?_;exact okB
 ·have c2:j<n:=by omega
  obtain h0|⟨ab,ao,f,gs,gt,gz,rfl,hb,hl⟩:=hA
  ·omega
  obtain h0|⟨ab2,ao2,f2,gs2,gt2,gz2,rfl,hb2,xN⟩:=hB
  ·omega
  have f1:=hl j c2;have f3:=xN j c2;by_cases c3:x j=0
  ·refine ZF ?_;refine Tc.dr [] [] mixed rfl ?_;refine V6 0 ?_;refine .nw 6 ?_;refine .nw 7 ?_;refine .nw 8 ?_;refine .nw 9 ?_;refine .nw 10 ?_;refine .nw 11 ?_;refine .nw 12 ?_;refine .nw 13 ?_;refine .nw 14 ?_;refine .nn 15 ?_;refine .dn ?_;refine U8 ?_;exact Tc.db (ih ⟨j+1,oM⟩ (by simp only;omega))
  ·have c4:=h j c2 c3;refine ZF ?_;refine Tc.dr [] [] mixed rfl ?_;refine V16 0 ?_;refine .dn ?_;refine U8 ?_;exact Tc.db (ih ⟨j+1,oM⟩ (by simp only;omega))
theorem KT(k:Bk)(A:Option Addr)(lc:Nat)(B:Option Addr)(tc:Nat)(hk:GD H k A lc B tc)(hn:k.small)(hG:HC H)(ha:k.VA=0):
  aA M 49 #[k.val A lc B tc] H (fun v H'=> H.le H'/\∃(G:Option Addr) (n c:Nat),n=k.xD.length/\v=.tuple ⟨[.slice G n c,.int .i64 0]⟩/\HE H' G n (fun j=> k.xD[j]?.getD [])):=
 aA.mono (BO M H k A lc B tc hk hn hG ha) (by
  rintro v H' ⟨h1,g,rfl,⟨h2,h3⟩,h4⟩;have h5:=g.src (H:=H') (fun x hx=> (h4 x hx).1);rw[h3] at h5;exact⟨h1,g.blk.map (fun b=> ⟨b,0,none⟩),g.n,g.cap,h2,rfl,GV h5 h2⟩)
theorem HQ(k:Bk)(A:Option Addr)(lc:Nat)(B:Option Addr)(tc:Nat)(hk:GD H k A lc B tc)(hn:k.small)(hG:HC H)(ha:k.VA=0):
  aA M 50 #[k.val A lc B tc] H (fun v H'=> H.le H'/\∃(G:Option Addr) (c:Nat),v=.tuple ⟨[.slice G k.nl c,.int .i64 (k.mB (-1)),.int .i64 0]⟩/\GB H' G k.nl (fun i=> k.mB (i:Nat))):=
 aA.mono (pM M H k A lc B tc hk hn hG ha) (by
  rintro v H' ⟨h1,g,rfl,⟨h2,h3⟩,h4⟩;have hF:=dU g (fun x hx=> (h4 x hx).1) h3 h2;refine⟨h1,g.blk.map (fun b=> ⟨b,0,none⟩),g.cap,?_,hF⟩;unfold HX Gl.val;rw[h2])
theorem Z9(k:Bk)(A:Option Addr)(lc:Nat)(B:Option Addr)(tc:Nat)(hk:GD H k A lc B tc)(fJ:k.small)(uK:k.VA=0)(o:Bk)(A2:Option Addr)(lc2:Nat)(B2:Option Addr)(tc2:Nat)(hO:GD H o A2 lc2 B2 tc2)(aEF:o.small)(ho:o.VA=0)(hG:HC H)(JU:o.KR k):
  aA M 20 #[k.val A lc B tc,o.val A2 lc2 B2 tc2] H (fun v H'=> H.le H'/\v=.bool true):=by
 have NG:=JU.heard;have yB:=JU.aEj ho;have hl1:=aR uK;have xN:=aR ho;have mQ:=JU.nl;obtain⟨_,aG7,_,_⟩:=Bk.valid uK;refine .en func20 ntmps20 fun St c cs hK=> ?_;refine U2 ?_;refine .bo fun b2=> ?_;refine .bo fun b3=> ?_;refine U5 ?_;refine To.sB rfl rfl rfl rfl rfl rfl dE (CB.h (KT M H k A lc B tc hk fJ hG uK)) (fun v H₃ hv=> ?_);obtain⟨kK,G3,n3,c3,NZ,rfl,hS3⟩:=hv;refine U9 ?_;refine To.sB rfl rfl rfl rfl rfl rfl dE (CB.h (KT M H₃ o A2 lc2 B2 tc2 (hO.le kK) aEF (EA hG kK) ho)) (fun v H₄ hv=> ?_);obtain⟨eX,G4,n4,c4,hn4,rfl,hS4⟩:=hv;have hH4:=View.le_trans kK eX;refine U9 ?_;refine To.sB rfl rfl rfl rfl rfl rfl dE (CB.h (HQ M H₄ k A lc B tc (hk.le hH4) fJ (EA hG hH4) uK)) (fun v H₅ hv=> ?_);obtain⟨fX,G5,c5,rfl,hF5⟩:=hv;have hH5:=View.le_trans hH4 fX;refine YD ?_;refine To.sB rfl rfl rfl rfl rfl rfl dE (CB.h (HQ M H₅ o A2 lc2 B2 tc2 (hO.le hH5) aEF (EA hG hH5) ho)) (fun v H₆ hv=> ?_);obtain⟨HU,G6,c6,rfl,hF6⟩:=hv;rw[mQ] at hF6 ⊢;have hH6:=View.le_trans hH5 HU;have aBh:=fun(H':View) (h:H₆.le H')=> E7 M H' G4 n4 c4 _ (hS4.le (View.le_trans fX (View.le_trans HU h))) G3 n3 c3 _ (hS3.le (View.le_trans eX (View.le_trans fX (View.le_trans HU h)))) oM oM (fun i hi=> AU NZ NG oM);have aEx:=fun(H':View) (h:H₆.le H')=> aCi M H' G5 k.nl c5 _ (hF5.le (View.le_trans HU h)) G6 c6 _ (hF6.le h) oM (fun i _=> yB (i:Nat));have y8:=yB (-1);have hc2:=k.CW (-1);generalize k.mB (-1)=cc at y8 hc2;generalize o.mB (-1)=dd at y8;by_cases q:cc=0
 ·refine U27 ?_;refine .cl (fun H hs=> aBh H hs.base) ?_;refine U4 ?_;refine .cl (fun H hs=> aEx H hs.base) ?_;refine SE ?_;refine .rt hK func20 results20 [_] ?_;exact fun H' hs=> ⟨View.le_trans hH6 hs.base,rfl⟩
 ·have q2:=y8 q;refine U27 ?_;refine .cl (fun H hs=> aBh H hs.base) ?_;refine U4 ?_;refine .cl (fun H hs=> aEx H hs.base) ?_;refine SE ?_;refine .rt hK func20 results20 [_] ?_;exact fun H' hs=> ⟨View.le_trans hH6 hs.base,rfl⟩
end
end Go.Proofs.YtldmfjcgjdchcaaGreatDoor
namespace Go.RL
section
variable {P:Program}{E:Env P}{M:Md P}{n:Nat}{H₀:View}{R:Rg}{L:Bl}{K:Rg->Bl->Prop}{o:Oper}{d:Nat}
theorem Or.rW(k:Nat)(T:Bl->Bl){Y:Bl}(hT:∀B,(T B).Perm (Y++B)){cl:Go.Call}{x y:Operand}{t xt e:TypeId}{sz m:Nat}{yv:Value}{new:List Value}{g:Gl e sz}{r re rx:OA}{ex:TypeId}(qA:o.op=.call cl)(yB:cl.callee=.builtin .append)(YK:cl.argTypes=#[t,xt])(vL:cl.args=#[x,y])
  (hx:RA R x=some g.val) (hy:RA R y=some yv) (ht:E.ty t=some r) (yC:r.ds=.slice e) (EE:E.ty e=some re) (IE:re.size=sz) (hzs:Nat.beq re.zero.cells.toList.length sz=true) (hxt:E.ty xt=some rx) (hex:rx.ds=.slice ex) (hby:Nat.ble re.bytes 1000=true)
  (hL:L.drop k=T g.bl) (UH:∀H,kA H₀ L H->UA H sz yv m new) (hs:new.all single=true) (hm:g.n+m<=1000000000) (hd:o.dst=some d) (hn:d<n)
  (hk:∀g':Gl e sz,g'.n=g.n+m->g'.l=g.l++new->K ((d,g'.val)::R) (L.take k++T g'.bl)):Or M n H₀ R L o K:=
 .val hd hn fun H tmps eC hr=> by
  have hLe:L=L.take k++T g.bl:=by rw[<-hL,List.take_append_drop]
  unfold execOp;rw[qA];simp only[resolve,yB,YK,vL];have hm':Array.map (IC tmps) #[x,y]=#[g.val,yv]:=by simp[hr.ev hx,hr.ev hy]
  rw[hm'];have hp:∀B,((L.take k++Y)++B).Perm (L.take k++T B):=fun B=> by rw[List.append_assoc];exact(List.Perm.refl _).append (hT B).symm
  have RZ:=eC;rw[hLe] at RZ;have kX:kA H₀ ((L.take k++Y)++g.bl) H:=RZ.perm (hp g.bl);refine bA (Builtin.append_ #[t,xt] o.type #[g.val,yv]) _ ?_;refine fQ ht yC EE IE (Nat.eq_of_beq_eq_true hzs) ⟨rx,ex,hxt,hex⟩ (Nat.le_of_ble_eq_true hby) hm (fun z hz=> kX.at_ z (by simp[hz])) (UH H eC) hs fun g' H' h1 h2 h3 h4 h5=> ?_;exact⟨_,rfl,_,(kX.grown h3 h4 h5).perm (hp g'.bl).symm,hk g' h1 h2⟩
theorem aCg(Y:Bl):∀B:Bl,(B++Y).Perm (Y++B):=fun _=> List.perm_append_comm
end
end Go.RL
namespace Go.Proofs.YtldmfjcgjdchcaaGreatDoor
open Go.RL Go.Proofs.Tryz
set_option maxRecDepth 10000
set_option maxHeartbeats 8000000
theorem TJ(k:Bk){p q:Int}(h:p<=q):k.kind p<=k.kind q:=by
 have c1:=nP k p;have c2:=nP k q;omega
section
variable(M:Md prog)(H:View)
theorem A1 {H:View}{k:Bk}{b c:Nat}{f:Bool}{HB:List Value}{e:TypeId}{fz:Nat×Nat}(hc:k.nt<=c)(h:H b=some (f,.cells ⟨QA k.nt (PA k)++HB⟩ e fz)):oD H k (some ⟨b,0,none⟩) c:=by
 refine⟨hc,.inr ⟨b,0,f,_,e,fz,rfl,h,fun i hi=> ?_⟩⟩;rw[Nat.zero_add,Int.toNat_natCast];exact lU (sz:=4) (fun _=> rfl) hi HB
end
end Go.Proofs.YtldmfjcgjdchcaaGreatDoor
namespace Go.Proofs.YtldmfjcgjdchcaaGreatDoor.Sg
open Go.RL Go.Proofs.Tryz
set_option maxHeartbeats 8000000
set_option maxRecDepth 10000
structure Lk.Past(k:Lk)(c:Nat)(a r n:Int)(mv:List Int):Prop where
 send:k.s0<=a/\a<=k.s1
 read:k.r0<=r/\r<=k.r1
 lean:k.l0<=n/\n<=k.l1
 len:mv.length=(gA c 7).length
 yP:∀m∈mv,k.m0<=m/\m<=k.m1
def L6(c:Nat)(a r n:Int)(mv:List Int):Nat:=(⟨c,gA c 7,a,r,n,mv.headD 0,0,0⟩:QB).view mv
theorem QB.DJ {s s':QB}(h1:s.ps=s'.ps)(h2:s.send=s'.send)(h3:s.read=s'.read)(h4:s.lean=s'.lean)(h5:s.first=s'.first):∀(l:List Int) (i v:Nat),s.zE i v l=s'.zE i v l
 | [],_,_=> rfl
 | m::l,i,v=> by
  have:s.fO i m=s'.fO i m:=by unfold QB.fO QB.after;rw[h1,h2,h3,h4,h5]
  show s.zE _ _ l=s'.zE _ _ l;rw[this];exact QB.DJ h1 h2 h3 h4 h5 l _ _
theorem QB.nJ {s:QB}:∀(l:List Int) (i:Nat),0<i->(s.lH i l<->∀m∈l,s.mf<=m/\m<=s.mt)
 | [],_,_=> by simp[QB.lH]
 | m::l,i,h=> by
  simp only[QB.lH,QB.nJ l (i+1) oM,List.mem_cons,forall_eq_or_imp];unfold QB.may;rw[if_neg oM]
theorem Lk.zV {k:Lk}(hk:1<=k.r0){c v:Nat}(hc:c<32):k.iO c v=true<->∃a r n mv,k.Past c a r n mv/\L6 c a r n mv=v:=by
 have h0:=(OE c hc).1;unfold Lk.iO;rw[List.any_eq_true];constructor
 ·rintro⟨s,hs,hv⟩;obtain⟨a,r,n,f,h1,h2,h3,h4,rfl⟩:=Lk.JL.1 hs;have hr:0<(k.M8 c a r n f).read:=by show 0<r;omega
  obtain⟨mv,h5,h6,h7⟩:=(QB.uR hr).1 hv;cases mv with
  | nil=> change 0=(gA c 7).length at h5;omega
  | cons m l=>
   obtain⟨h8,h9⟩:=h6;have hm:m=f:=h8;subst hm;rw[QB.nJ l 1 oM] at h9;refine⟨a,r,n,m::l,⟨h1,h2,h3,h5,fun x hx=> ?_⟩,?_⟩
   ·rcases List.mem_cons.1 hx with rfl|hx
    ·exact h4
    ·exact h9 x hx
   ·rw[<-h7];exact QB.DJ (s:=⟨c,gA c 7,a,r,n,m,0,0⟩) (s':=k.M8 c a r n m) rfl rfl rfl rfl rfl (m::l) 0 127
 ·rintro⟨a,r,n,mv,hp,rfl⟩;cases mv with
  | nil=> have:=hp.len;change 0=(gA c 7).length at this;omega
  | cons m l=>
   refine⟨k.M8 c a r n m,Lk.JL.2 ⟨a,r,n,m,hp.send,hp.read,hp.lean,hp.yP m List.mem_cons_self,rfl⟩,?_⟩;have hr:0<(k.M8 c a r n m).read:=by have h2:=hp.read;show 0<r;omega
   refine(QB.uR hr).2 ⟨m::l,hp.len,⟨rfl,(QB.nJ l 1 oM).2 fun x hx=> hp.yP x (List.mem_cons_of_mem _ hx)⟩,?_⟩;exact QB.DJ (s:=k.M8 c a r n m) (s':=⟨c,gA c 7,a,r,n,m,0,0⟩) rfl rfl rfl rfl rfl (m::l) 0 127
structure Lk.RR(o k:Lk):Prop where
 s:k.s0<=o.s0/\o.s1<=k.s1
 r:k.r0<=o.r0/\o.r1<=k.r1
 l:k.l0<=o.l0/\o.l1<=k.l1
 m:k.m0<=o.m0/\o.m1<=k.m1
theorem Lk.Past.within {o k:Lk}(h:o.RR k){c:Nat}{a r n:Int}{mv:List Int}(p:o.Past c a r n mv):k.Past c a r n mv:=by
 obtain⟨h1,h2,h3,h4⟩:=h;obtain⟨p1,p2,p3,p4,p5⟩:=p;exact⟨oM,oM,oM,p4,fun m hm=> by have:=p5 m hm;omega⟩
theorem Lk.AV {o k:Lk}(ho:1<=o.r0)(hk:1<=k.r0)(h:o.RR k){c v:Nat}(hc:c<32)(hv:o.iO c v=true):k.iO c v=true:=by
 obtain⟨a,r,n,mv,hp,rfl⟩:=(Lk.zV ho hc).1 hv;exact(Lk.zV hk hc).2 ⟨a,r,n,mv,hp.within h,rfl⟩
set_option maxHeartbeats 4000000
section
variable(M:Md prog)(H:View)
variable(k:Lk)(hG:HC H)(hk:k.ok=true)(code:Nat)(hc:code<32)(a r n:Int)(mv:List Int)(hP:k.Past code a r n mv)(A:Option Addr)(m ca:Nat)(hm:m=(gA code 7).length)(hA:MG H A mv)
include hG hk hc hP hm hA
end
set_option maxHeartbeats 8000000
section
variable(M:Md prog)(H:View)
end
def nA(l:List Int)(i:Nat):Int:=l[i]?.getD 0
def MA(l:List Int)(p q:Nat):List Int:=(l.set p (nA l q)).set q (nA l p)
theorem yF(l:List Int)(p q:Nat):(MA l p q).length=l.length:=by simp[MA]
theorem xB {l:List Int}{p q:Nat}(hp:p<l.length)(hq:q<l.length)(r:Nat):nA (MA l p q) r=if r=q then nA l p else if r=p then nA l q else nA l r:=by
 unfold MA nA;rw[List.getElem?_set];by_cases h1:q=r
 ·subst h1;rw[if_pos rfl,if_pos (by rw[List.length_set];exact hq),if_pos rfl];rfl
 ·rw[if_neg h1,if_neg (fun h=> h1 h.symm),List.getElem?_set];by_cases h2:p=r
  ·subst h2;rw[if_pos rfl,if_pos hp,if_pos rfl];rfl
  ·rw[if_neg h2,if_neg (fun h=> h2 h.symm)]
theorem yJ {l:List Int}{p q:Nat}(hp:p<l.length)(hq:q<l.length)(x:Int):(MA l p q).count x=l.count x:=by
 unfold MA nA;rw[List.getElem?_eq_getElem hp,List.getElem?_eq_getElem hq];simp only[Option.getD_some];rw[List.count_set (by rw[List.length_set];exact hq),List.count_set hp,List.getElem_set];have h1:∀ {i:Nat} (h:i<l.length),l[i]=x->0<l.count x:=fun h e=> List.count_pos_iff.2 (e▸List.getElem_mem h);by_cases e:p=q
 ·subst e;simp only[if_true];by_cases e2:l[p]=x
  ·have:=h1 hp e2;simp only[e2,beq_self_eq_true,if_true];omega
  ·have e3:(l[p]==x)=false:=by simpa using e2
   simp only[e3,Bool.false_eq_true,if_false];omega
 ·simp only[if_neg e];by_cases e2:l[p]=x <;> by_cases e3:l[q]=x
  ·have:=h1 hp e2;simp only[e2,e3,beq_self_eq_true,if_true];omega
  ·have e4:(l[q]==x)=false:=by simpa using e3
   have:=h1 hp e2;simp only[e2,e4,beq_self_eq_true,if_true,Bool.false_eq_true,if_false];omega
  ·have e4:(l[p]==x)=false:=by simpa using e2
   have:=h1 hq e3;simp only[e3,e4,beq_self_eq_true,if_true,Bool.false_eq_true,if_false];omega
  ·have e4:(l[p]==x)=false:=by simpa using e2
   have e5:(l[q]==x)=false:=by simpa using e3
   simp only[e4,e5,Bool.false_eq_true,if_false];omega
structure iA(a b:Nat)(l m:List Int):Prop where
 len:m.length=l.length
 cnt:∀x,m.count x=l.count x
 out:∀i,i<a\/b<=i->nA m i=nA l i
theorem iA.refl(a b:Nat)(l:List Int):iA a b l l:=⟨rfl,fun _=> rfl,fun _ _=> rfl⟩
theorem iA.trans {a b:Nat}{l m n:List Int}(h:iA a b l m)(k:iA a b m n):iA a b l n:=⟨k.len.trans h.len,fun x=> (k.cnt x).trans (h.cnt x),fun i hi=> (k.out i hi).trans (h.out i hi)⟩
theorem iA.wide {a b a' b':Nat}{l m:List Int}(h:iA a b l m)(h1:a'<=a)(h2:b<=b'):iA a' b' l m:=⟨h.len,h.cnt,fun i hi=> h.out i oM⟩
theorem iA.swap {a b:Nat}{l:List Int}{p q:Nat}(hp:p<l.length)(hq:q<l.length)(h1:a<=p/\p<b)(h2:a<=q/\q<b):iA a b l (MA l p q):=
 ⟨yF ..,yJ hp hq,fun i hi=> by rw[xB hp hq,if_neg oM,if_neg oM]⟩
def TC(a b:Nat)(l:List Int):Prop:=∀p q,a<=p->p<q->q<b->nA l p<=nA l q
end Go.Proofs.YtldmfjcgjdchcaaGreatDoor.Sg
namespace Go.RL
open Go.Conc
theorem kA.bF {H₀ H H':View}{L:Bl}(h:kA H₀ L H){i sb:Nat}{x y:Bool×Obj}(hi:L[i]? =some (sb,x))(h1:∀b z,b≠sb->H b=some z->H' b=some z)(h2:H' sb=some y):kA H₀ (L.set i (sb,y)) H':=
 (h.set hi y).mono fun b z hb=> by
  by_cases e:b=sb
  ·subst e;rw[View.bB] at hb;rw[h2,hb]
  ·rw[View.GA _ _ e] at hb;exact h1 b z e hb
end Go.RL
namespace Go.Proofs.YtldmfjcgjdchcaaGreatDoor.Sg
open Go.RL Go.Proofs.Tryz
set_option maxRecDepth 10000
set_option maxHeartbeats 4000000
def rC(H:View)(sb:Nat)(j:List Value)(P:Value->List Int->Prop)(v:Value)(H':View):Prop:=
 (∀b x,b≠sb->H b=some x->H' b=some x)/\∃m,P v m/\H' sb=some (true,.cells ⟨jA m++j⟩ 3 (0,0))
theorem rC.of {H H':View}{sb:Nat}{j:List Value}{P:Value->List Int->Prop}{v:Value}{L:Bl}{m:List Int}(hs:kA (H.aB sb) L H'){i:Nat}(hi:L[i]? =some (sb,true,.cells ⟨jA m++j⟩ 3 (0,0)))(hP:P v m):rC H sb j P v H':=
 ⟨fun b x hb hx=> hs.base b x (by rw[HA hb];exact hx),m,hP,hs.get hi⟩
theorem Or.vJ {M:Md prog}{n:Nat}{H₀:View}{R:Rg}{L:Bl}{o:Oper}{K:Rg->Bl->Prop}{cl:Go.Call}{x:Operand}{fv:Value}{az:List Value}{d:Nat}(i:Nat){sb:Nat}{l:List Int}{j:List Value}(P:Value->List Int->Prop)
  (qA:o.op=.call cl) (yB:cl.callee=.value x) (hx:RA R x=some fv) (has:FD R cl.args.toList=some az) (hd:o.dst=some d) (hn:d<n) (hi:L[i]? =some (sb,true,.cells ⟨jA l++j⟩ 3 (0,0)))
  (hc:∀H,kA H₀ L H->CB M fv az H (rC H sb j P)) (hk:∀v m,P v m->K ((d,v)::R) (L.set i (sb,true,.cells ⟨jA m++j⟩ 3 (0,0)))):Or M n H₀ R L o K:=
 .pN qA yB hx has (Q:=fun H v H'=> rC H sb j P v H') hc fun H v H' hs ⟨h1,m,h2,h3⟩=>
  ⟨_,_,hs.bF hi h1 h3,by rw[hd];exact⟨hn,rfl⟩,hk v m h2⟩
theorem KA {m:List Int}{j:List Value}{k:Int}{p:Nat}(hk:k=(p:Nat))(hp:p<m.length):BC false 1 (jA m++j) (0+k.toNat*1)=some (.int .i64 (nA m p)):=by
 subst hk;show(jA m++j)[0+(p:Int).toNat*1]? =_;rw[Nat.zero_add,Nat.mul_one,Int.toNat_natCast,List.getElem?_append_left (by rw[uA];exact hp)];unfold jA nA;rw[List.getElem?_map,List.getElem?_eq_getElem hp];rfl
theorem jB {m:List Int}{j:List Value}{k x:Int}{p:Nat}(hk:k=(p:Nat))(hp:p<m.length):yE (jA m++j) (0+k.toNat*1) [.int .i64 x]=jA (m.set p x)++j:=by
 subst hk;rw[Nat.zero_add,Nat.mul_one,Int.toNat_natCast,fI _ _ _ (by rw[List.length_append,uA];omega),List.set_append_left _ _ (by rw[uA];exact hp)];unfold jA;rw[List.map_set]
theorem iB {m:List Int}{j:List Value}{k:Int}{p:Nat}(hk:k=(p:Nat))(hp:p<m.length):Nat.ble (0+k.toNat*1+1) (jA m++j).length=true:=by
 subst hk;rw[Nat.ble_eq,List.length_append,uA,Int.toNat_natCast];omega
section
variable(M:Md prog)(H:View)
theorem CC(a b:Int):aA M 278 #[.int .i64 a,.int .i64 b] H (fun v H'=> H.le H'/\v=.bool (decide (a<b))):=by
 refine .en func278 ntmps278 fun St c cs hK=> ?_;by_cases c1:a<b
 ·have e:decide (a<b)=true:=decide_eq_true c1;refine U7 ?_;refine .cl (fun H hs=> NY M H a) ?_;refine SE ?_;refine .rt hK func278 results278 [_] ?_;exact fun H' hs=> ⟨hs.base,by rw[e];rfl⟩
 ·have e:decide (a<b)=false:=decide_eq_false c1;refine U7 ?_;refine .cl (fun H hs=> NY M H a) ?_;refine SE ?_;refine .rt hK func278 results278 [_] ?_;exact fun H' hs=> ⟨hs.base,by rw[e];rfl⟩
end
set_option maxHeartbeats 8000000
theorem CL {m:List Int}{a i j:Nat}(hg:∀p q,a<=p->p<q->q<=i->q≠j->nA m p<=nA m q)(hj:a<j)(hle:¬nA m j<nA m (j-1)):TC a (i+1) m:=fun p q h1 h2 h3=> by
 by_cases e:q=j
 ·subst e;have h4:nA m p<=nA m (q-1):=by
   by_cases e2:p=q-1
   ·rw[e2];exact Int.le_refl _
   ·exact hg p (q-1) h1 oM oM oM
  omega
 ·exact hg p q h1 h2 oM e
theorem kJ {m:List Int}{a i j:Nat}(hi:i<m.length)(qO:j<=i)(hg:∀p q,a<=p->p<q->q<=i->q≠j->nA m p<=nA m q)(hj:a<j)(NB:nA m j<nA m (j-1)):
  ∀p q,a<=p->p<q->q<=i->q≠j-1->nA (MA m j (j-1)) p<=nA (MA m j (j-1)) q:=fun p q h1 h2 h3 h4=> by
 rw[xB oM oM,xB oM oM,if_neg h4];by_cases e:q=j
 ·rw[if_pos e];by_cases e2:p=j-1
  ·rw[if_pos e2];omega
  ·rw[if_neg e2,if_neg oM];exact hg p (j-1) h1 oM oM oM
 ·rw[if_neg e];by_cases e2:p=j-1
  ·rw[if_pos e2];exact hg j q oM oM h3 e
  ·rw[if_neg e2];by_cases e3:p=j
   ·rw[if_pos e3];exact hg (j-1) q oM oM h3 e
   ·rw[if_neg e3];exact hg p q h1 h2 h3 e
section
variable(M:Md prog)(H:View)
theorem QU(sb:Nat)(l:List Int)(jj:List Value)(n cap a b:Nat)(hn:n=l.length)(hb:b<=n)(fD:n<=1000)(ha:a<=n)(hS:H sb=some (true,.cells ⟨jA l++jj⟩ 3 (0,0))):
  aA M 272 #[.slice (some ⟨sb,0,none⟩) n cap,.int .i64 (a:Nat),.int .i64 (b:Nat)] H (rC H sb jj (fun v m=> v=.tuple ⟨[]⟩/\iA a b l m/\TC a b m)):=by
 refine aA.enter (vs:= [.slice (some ⟨sb,0,none⟩) n cap,.int .i64 (a:Nat),.int .i64 (b:Nat)]) func272 rfl ntmps272 (Nat.le_of_ble_eq_true rfl) (kA.pull hS) fun St c cs hK=> ?_;have ha1:rA .add .i64 (a:Nat) 1=some (.int .i64 ((a+1:Nat):Int)):=by rw[LB oM oM];rfl
 refine U7 ?_;refine Tc.db (Tc.sA (σ:= { s:Nat×List Int//a+1<=s.1/\(s.1<=b\/s.1=a+1)/\iA a b l s.2/\TC a s.1 s.2 }) (fun s=> ([(0,.slice (some ⟨sb,0,none⟩) n cap),(1,.int .i64 (a:Nat)),(2,.int .i64 (b:Nat)),(6,.int .i64 (s.1.1:Nat))],[(sb,true,.cells ⟨jA s.1.2++jj⟩ 3 (0,0))])) (fun s=> b-s.1.1) ?_
  ⟨(a+1,l),by simp,by simp,iA.refl ..,fun p q h1 h2 h3=> by omega⟩)
 rintro⟨⟨i,m⟩,g1,g2,g3,g4⟩ ih;simp only at g1 g2 g3 g4;show Tc M St _ _ _ _ [(0,.slice (some ⟨sb,0,none⟩) n cap),(1,.int .i64 (a:Nat)),(2,.int .i64 (b:Nat)),(6,.int .i64 (i:Nat))] [(sb,true,.cells ⟨jA m++jj⟩ 3 (0,0))] _ _;by_cases c1:i<b
 ·have HM:=g3.len;have hi1:rA .add .i64 (i:Nat) 1=some (.int .i64 ((i+1:Nat):Int)):=by rw[LB oM oM];rfl
  refine BI ?_;refine Tc.db (Tc.sA (σ:= { s:Nat×List Int//a<=s.1/\s.1<=i/\iA a b l s.2/\∀p q,a<=p->p<q->q<=i->q≠s.1->nA s.2 p<=nA s.2 q }) (fun s=> ([(0,.slice (some ⟨sb,0,none⟩) n cap),(1,.int .i64 (a:Nat)),(2,.int .i64 (b:Nat)),(6,.int .i64 (i:Nat)),(7,.int .i64 (s.1.1:Nat))],[(sb,true,.cells ⟨jA s.1.2++jj⟩ 3 (0,0))])) (fun s=> s.1.1) ?_
   ⟨(i,m),by simp only;omega,by simp only;omega,g3,fun p q h1 h2 h3 h4=> g4 p q h1 h2 (by simp only at h4;omega)⟩)
  rintro⟨⟨j,u⟩,f1,f2,f3,f4⟩ ih2;simp only at f1 f2 f3 f4;have yI:=f3.len;show Tc M St _ _ _ _ [(0,.slice (some ⟨sb,0,none⟩) n cap),(1,.int .i64 (a:Nat)),(2,.int .i64 (b:Nat)),(6,.int .i64 (i:Nat)),(7,.int .i64 (j:Nat))] [(sb,true,.cells ⟨jA u++jj⟩ 3 (0,0))] _ _;by_cases c2:a<j
  ·have e1:((j:Nat):Int)-1=((j-1:Nat):Int):=by omega
   have k1:=KA (m:=u) (j:=jj) (k:=(j:Nat)) (p:=j) rfl oM;have k2:=KA (m:=u) (j:=jj) (k:=(j:Nat)-1) (p:=j-1) e1 oM;by_cases c3:nA u j<nA u (j-1)
   ·have s1:=jB (m:=u) (j:=jj) (k:=(j:Nat)) (x:=nA u (j-1)) (p:=j) rfl oM;have s2:=jB (m:=u.set j (nA u (j-1))) (j:=jj) (k:=(j:Nat)-1) (x:=nA u j) (p:=j-1) e1 (by rw[List.length_set];omega);have l1:=iB (m:=u) (j:=jj) (k:=(j:Nat)) (p:=j) rfl oM;have l2:=iB (m:=u.set j (nA u (j-1))) (j:=jj) (k:=(j:Nat)-1) (p:=j-1) e1 (by rw[List.length_set];omega);refine U2 ?_;refine Tc.dr [] [] mixed rfl ?_;refine Z2 0 ?_;refine .z 13 rfl (xA.tk fun H hs=> aA.is (.bool true) (by rewrite [decide_eq_true c3];rfl) (CC M H (nA u j) (nA u (j-1)))) ?_;refine .nn 14 ?_;refine .dn ?_;refine U4 ?_;refine Tc.dr [15,17] [0] mixed rfl ?_;refine V2 0 ?_;refine .nw 2 ?_;refine .nw 3 ?_;refine .nw 4 ?_;refine V5 5 ?_;refine .nw 10 ?_;refine .nw 11 ?_;refine .nw 12 ?_;refine V2 13 ?_;refine .e 15 0 ?_;refine .nw 16 ?_;refine .e 17 0 ?_;refine .dn ?_;refine U6 ?_;rw[e1];exact Tc.db (ih2 ⟨(j-1,MA u j (j-1)),by simp only;omega,by simp only;omega,f3.trans (iA.swap oM oM oM oM),kJ oM f2 f4 c2 c3⟩ (by simp only;omega))
   ·refine U2 ?_;refine Tc.dr [] [] mixed rfl ?_;refine Z2 0 ?_;refine .z 13 rfl (xA.tk fun H hs=> aA.is (.bool false) (by rewrite [decide_eq_false c3];rfl) (CC M H (nA u j) (nA u (j-1)))) ?_;refine .nn 14 ?_;refine .dn ?_;refine U8 ?_;exact Tc.db (ih ⟨(i+1,u),by simp only;omega,by simp only;omega,f3,CL f4 c2 c3⟩ (by simp only;omega))
  ·refine U2 ?_;refine Tc.dr [] [] mixed rfl ?_;refine V4 0 ?_;refine .nw 4 ?_;refine .nw 5 ?_;refine .nw 6 ?_;refine .nw 7 ?_;refine .nw 8 ?_;refine .nw 9 ?_;refine .nw 10 ?_;refine .nw 11 ?_;refine .nw 12 ?_;refine .nw 13 ?_;refine .nn 14 ?_;refine .dn ?_;refine U8 ?_;exact Tc.db (ih ⟨(i+1,u),by simp only;omega,by simp only;omega,f3,fun p q h1 h2 h3=> f4 p q h1 h2 oM oM⟩ (by simp only;omega))
 ·refine U9 ?_;refine .ov hK func272 results272 [] ?_;exact fun H' hs=> rC.of hs (i:=0) rfl ⟨rfl,g3,fun p q h1 h2 h3=> g4 p q h1 h2 oM⟩
end
theorem KD {l:List Int}{i:Nat}(h:i<l.length):l[i]? =some (nA l i):=by
 unfold nA;rw[List.getElem?_eq_getElem h];rfl
theorem iA.get {a b:Nat}{l m:List Int}(h:iA a b l m){i:Nat}(hi:i<a\/b<=i):m[i]? =l[i]? :=by
 by_cases c:i<l.length
 ·rw[KD c,KD (by rw[h.len];exact c),h.out i hi]
 ·have hl:=h.len;rw[List.getElem?_eq_none oM,List.getElem?_eq_none oM]
theorem parts_eq(l:List Int){a b:Nat}(pI:a<=b):l=l.take a++((l.drop a).take (b-a)++l.drop b):=by
 have h1:l.drop b=(l.drop a).drop (b-a):=by rw[List.drop_drop];congr 1;omega
 rw[h1,List.take_append_drop,List.take_append_drop]
theorem iA.FE {a b:Nat}{l m:List Int}(h:iA a b l m)(pI:a<=b)(x:Int):((m.drop a).take (b-a)).count x=((l.drop a).take (b-a)).count x:=by
 have e1:m.take a=l.take a:=by
  apply List.ext_getElem?
  intro i;by_cases c:i<a
  ·rw[List.getElem?_take_of_lt c,List.getElem?_take_of_lt c];exact h.get (.inl c)
  ·rw[List.getElem?_eq_none (by rw[List.length_take];omega),List.getElem?_eq_none (by rw[List.length_take];omega)]
 have e2:m.drop b=l.drop b:=by
  apply List.ext_getElem?
  intro i;rw[List.getElem?_drop,List.getElem?_drop];exact h.get (.inr oM)
 have h1:=h.cnt x;have h2:=congrArg (List.count x) (parts_eq m pI);have h3:=congrArg (List.count x) (parts_eq l pI);simp only[List.count_append] at h2 h3;rw[e1,e2] at h2;omega
theorem iA.all {a b:Nat}{l m:List Int}(h:iA a b l m)(hb:b<=l.length){P:Int->Prop}(hP:∀p,a<=p->p<b->P (nA l p)):∀p,a<=p->p<b->P (nA m p):=fun p h1 h2=> by
 have g1:nA m p∈(m.drop a).take (b-a):=by
  rw[List.mem_iff_getElem?];refine⟨p-a,?_⟩;rw[List.getElem?_take_of_lt oM,List.getElem?_drop,show a+(p-a)=p by omega];exact KD (by rw[h.len];omega)
 have g2:nA m p∈(l.drop a).take (b-a):=by
  rw[<-List.count_pos_iff,<-h.FE oM];exact List.count_pos_iff.2 g1
 obtain⟨i,hi⟩:=List.mem_iff_getElem?.1 g2;have NB:i<b-a:=by
  have:=(List.getElem?_eq_some_iff.1 hi).1;rw[List.length_take] at this;omega
 rw[List.getElem?_take_of_lt NB,List.getElem?_drop,KD oM] at hi;have:=Option.some.inj hi;rw[<-this];exact hP (a+i) oM oM
def fH(f lo hi:Nat)(l:List Int):Prop:=∀k c,lo<=k->(c=2*k+1\/c=2*k+2)->c<hi->nA l (f+c)<=nA l (f+k)
def pC(f lo hi r:Nat)(l:List Int):Prop:=
 (∀k c,lo<=k->k≠r->(c=2*k+1\/c=2*k+2)->c<hi->nA l (f+c)<=nA l (f+k))/\
 (∀k c,lo<=k->(r=2*k+1\/r=2*k+2)->(c=2*r+1\/c=2*r+2)->c<hi->nA l (f+c)<=nA l (f+k))
theorem fH.top {f hi:Nat}{l:List Int}(h:fH f 0 hi l):∀k,k<hi->nA l (f+k)<=nA l f:=by
 intro k;induction k using Nat.strongRecOn with
 | ind k ih=>
  intro hk;by_cases h0:k=0
  ·subst h0;exact Int.le_refl _
  ·have h1:=h ((k-1)/2) k (Nat.zero_le _) oM hk;have h2:=ih ((k-1)/2) oM oM;omega
theorem pC.fin {f lo hi r:Nat}{l:List Int}(h:pC f lo hi r l)(hr:∀c,(c=2*r+1\/c=2*r+2)->c<hi->nA l (f+c)<=nA l (f+r)):fH f lo hi l:=fun k c h1 h2 h3=> by
 by_cases e:k=r
 ·subst e;exact hr c h2 h3
 ·exact h.1 k c h1 e h2 h3
theorem pC.step {f lo hi r c:Nat}{l:List Int}(h:pC f lo hi r l)(hl:f+hi<=l.length)(hlr:lo<=r)(hc:c=2*r+1\/c=2*r+2)(KZ:c<hi)(NB:nA l (f+r)<nA l (f+c))
  (PF:∀d,(d=2*r+1\/d=2*r+2)->d<hi->nA l (f+d)<=nA l (f+c)):pC f lo hi c (MA l (f+r) (f+c)):=by
 have hs:=fun q=> xB (l:=l) (p:=f+r) (q:=f+c) oM oM q;refine⟨fun k d h1 h2 h3 h4=> ?_,fun k d h1 h2 h3 h4=> ?_⟩
 ·rw[hs,hs,if_neg (show ¬f+k=f+c by omega)];by_cases e:k=r
  ·subst e;rw[if_pos rfl];by_cases e2:d=c
   ·subst e2;rw[if_pos rfl];omega
   ·rw[if_neg oM,if_neg oM];exact PF d h3 h4
  ·rw[if_neg (show ¬f+k=f+r by omega)];by_cases e2:d=c
   ·omega
   ·rw[if_neg oM];by_cases e3:d=r
    ·subst e3;rw[if_pos rfl];exact h.2 k c h1 h3 hc KZ
    ·rw[if_neg oM];exact h.1 k d h1 e h3 h4
 ·have e:k=r:=by omega
  subst e;rw[hs,hs,if_neg oM,if_neg oM,if_neg oM,if_pos rfl];exact h.1 c d oM oM h3 h4
section
variable(M:Md prog)(H:View)
theorem QP(sb:Nat)(l:List Int)(jj:List Value)(n cap lo hi f:Nat)(hn:n=l.length)(hf:f+hi<=n)(fD:n<=1000)(GM:lo<=hi)(hH:pC f lo hi lo l)(hS:H sb=some (true,.cells ⟨jA l++jj⟩ 3 (0,0))):
  aA M 307 #[.slice (some ⟨sb,0,none⟩) n cap,.int .i64 (lo:Nat),.int .i64 (hi:Nat),.int .i64 (f:Nat)] H (rC H sb jj (fun v m=> v=.tuple ⟨[]⟩/\iA f (f+hi) l m/\fH f lo hi m)):=by
 refine aA.enter (vs:= [.slice (some ⟨sb,0,none⟩) n cap,.int .i64 (lo:Nat),.int .i64 (hi:Nat),.int .i64 (f:Nat)]) func307 rfl ntmps307 (Nat.le_of_ble_eq_true rfl) (kA.pull hS) fun St c cs hK=> ?_;refine U6 ?_;refine Tc.db (Tc.sA (σ:= { s:Nat×List Int//lo<=s.1/\s.1<=hi/\iA f (f+hi) l s.2/\pC f lo hi s.1 s.2 }) (fun s=> ([(0,.slice (some ⟨sb,0,none⟩) n cap),(2,.int .i64 (hi:Nat)),(3,.int .i64 (f:Nat)),(8,.int .i64 (s.1.1:Nat))],[(sb,true,.cells ⟨jA s.1.2++jj⟩ 3 (0,0))])) (fun s=> hi-s.1.1) ?_
  ⟨(lo,l),Nat.le_refl _,GM,iA.refl ..,hH⟩)
 rintro⟨⟨r,u⟩,g1,g2,g3,g4⟩ ih;simp only at g1 g2 g3 g4;have yI:=g3.len;have e1:2*((r:Nat):Int)+1=((2*r+1:Nat):Int):=by omega
 have e2:((2*r+1:Nat):Int)+1=((2*r+2:Nat):Int):=by omega
 show Tc M St _ _ _ _ [(0,.slice (some ⟨sb,0,none⟩) n cap),(2,.int .i64 (hi:Nat)),(3,.int .i64 (f:Nat)),(8,.int .i64 (r:Nat))] [(sb,true,.cells ⟨jA u++jj⟩ 3 (0,0))] _ _;refine U4 ?_;refine .i ?_ (z:=RB oM oM);refine U3 ?_;rw[e1];by_cases c0:2*r+1<hi
 ·by_cases d1:2*r+2<hi
  ·have k1:=KA (m:=u) (j:=jj) (k:=(f:Nat)+((2*r+1:Nat):Int)) (p:=f+(2*r+1)) oM oM;have k2:=KA (m:=u) (j:=jj) (k:=(f:Nat)+((2*r+1:Nat):Int)+1) (p:=f+(2*r+2)) oM oM;by_cases d2:nA u (f+(2*r+1))<nA u (f+(2*r+2))
   ·have PF:∀d,(d=2*r+1\/d=2*r+2)->d<hi->nA u (f+d)<=nA u (f+(2*r+2)):=by rintro d (rfl|rfl) _ <;> omega
    refine YD ?_;refine Tc.dr [] [] mixed rfl ?_;refine V18 0 ?_;refine .z 18 rfl (xA.tk fun H hs=> aA.is (.bool true) (by rewrite [decide_eq_true d2];rfl) (CC M H (nA u (f+(2*r+1))) (nA u (f+(2*r+2))))) ?_;refine .nn 19 ?_;refine .dn ?_;refine U6 ?_;rw[e2];refine U2 ?_;have XW:2*r+2<hi:=by omega
    have k3:=KA (m:=u) (j:=jj) (k:=(f:Nat)+(r:Nat)) (p:=f+r) oM oM;have k4:=KA (m:=u) (j:=jj) (k:=(f:Nat)+((2*r+2:Nat):Int)) (p:=f+(2*r+2)) oM oM;by_cases d3:nA u (f+r)<nA u (f+(2*r+2))
    ·have s1:=jB (m:=u) (j:=jj) (k:=(f:Nat)+(r:Nat)) (x:=nA u (f+(2*r+2))) (p:=f+r) oM oM;have s2:=jB (m:=u.set (f+r) (nA u (f+(2*r+2)))) (j:=jj) (k:=(f:Nat)+((2*r+2:Nat):Int)) (x:=nA u (f+r)) (p:=f+(2*r+2)) oM (by rw[List.length_set];omega);have l1:=iB (m:=u) (j:=jj) (k:=(f:Nat)+(r:Nat)) (p:=f+r) oM oM;have l2:=iB (m:=u.set (f+r) (nA u (f+(2*r+2)))) (j:=jj) (k:=(f:Nat)+((2*r+2:Nat):Int)) (p:=f+(2*r+2)) oM (by rw[List.length_set];omega);refine Tc.dr [] [] mixed rfl ?_;refine vI 0 ?_;refine .z 12 rfl (xA.tk fun H hs=> aA.is (.bool true) (by rewrite [decide_eq_true d3];rfl) (CC M H (nA u (f+r)) (nA u (f+(2*r+2))))) ?_;refine .nn 13 ?_;refine .dn ?_;refine U3 ?_;refine Tc.dr [21,23] [0] mixed rfl ?_;refine V4 0 ?_;refine .nw 4 ?_;refine .nw 5 ?_;refine .nw 6 ?_;refine .nw 7 ?_;refine V6 8 ?_;refine .nw 14 ?_;refine .nw 15 ?_;refine .nw 16 ?_;refine .nw 17 ?_;refine .nw 18 ?_;refine V2 19 ?_;refine .e 21 0 ?_;refine .nw 22 ?_;refine .e 23 0 ?_;refine .dn ?_;refine U5 ?_;exact Tc.db (ih ⟨(2*r+2,MA u (f+r) (f+(2*r+2))),by simp only;omega,by simp only;omega,g3.trans (iA.swap oM oM oM oM),g4.step oM g1 oM XW d3 PF⟩ (by simp only;omega))
    ·refine Tc.dr [] [] mixed rfl ?_;refine vI 0 ?_;refine .z 12 rfl (xA.tk fun H hs=> aA.is (.bool false) (by rewrite [decide_eq_false d3];rfl) (CC M H (nA u (f+r)) (nA u (f+(2*r+2))))) ?_;refine .nn 13 ?_;refine .dn ?_;refine U ?_;refine .rt hK func307 results307 [] ?_;exact fun H' hs=> rC.of hs (i:=0) rfl ⟨rfl,g3,g4.fin (fun d h1 h2=> by have:=PF d h1 h2;omega)⟩
   ·have PF:∀d,(d=2*r+1\/d=2*r+2)->d<hi->nA u (f+d)<=nA u (f+(2*r+1)):=by rintro d (rfl|rfl) _ <;> omega
    refine YD ?_;refine Tc.dr [] [] mixed rfl ?_;refine V18 0 ?_;refine .z 18 rfl (xA.tk fun H hs=> aA.is (.bool false) (by rewrite [decide_eq_false d2];rfl) (CC M H (nA u (f+(2*r+1))) (nA u (f+(2*r+2))))) ?_;refine .nn 19 ?_;refine .dn ?_;refine U4 ?_;have XW:2*r+1<hi:=by omega
    have k3:=KA (m:=u) (j:=jj) (k:=(f:Nat)+(r:Nat)) (p:=f+r) oM oM;have k4:=KA (m:=u) (j:=jj) (k:=(f:Nat)+((2*r+1:Nat):Int)) (p:=f+(2*r+1)) oM oM;by_cases d3:nA u (f+r)<nA u (f+(2*r+1))
    ·have s1:=jB (m:=u) (j:=jj) (k:=(f:Nat)+(r:Nat)) (x:=nA u (f+(2*r+1))) (p:=f+r) oM oM;have s2:=jB (m:=u.set (f+r) (nA u (f+(2*r+1)))) (j:=jj) (k:=(f:Nat)+((2*r+1:Nat):Int)) (x:=nA u (f+r)) (p:=f+(2*r+1)) oM (by rw[List.length_set];omega);have l1:=iB (m:=u) (j:=jj) (k:=(f:Nat)+(r:Nat)) (p:=f+r) oM oM;have l2:=iB (m:=u.set (f+r) (nA u (f+(2*r+1)))) (j:=jj) (k:=(f:Nat)+((2*r+1:Nat):Int)) (p:=f+(2*r+1)) oM (by rw[List.length_set];omega);refine Tc.dr [] [] mixed rfl ?_;refine vI 0 ?_;refine .z 12 rfl (xA.tk fun H hs=> aA.is (.bool true) (by rewrite [decide_eq_true d3];rfl) (CC M H (nA u (f+r)) (nA u (f+(2*r+1))))) ?_;refine .nn 13 ?_;refine .dn ?_;refine U3 ?_;refine Tc.dr [21,23] [0] mixed rfl ?_;refine V4 0 ?_;refine .nw 4 ?_;refine .nw 5 ?_;refine .nw 6 ?_;refine .nw 7 ?_;refine V6 8 ?_;refine .nw 14 ?_;refine .nw 15 ?_;refine .nw 16 ?_;refine .nw 17 ?_;refine .nw 18 ?_;refine V2 19 ?_;refine .e 21 0 ?_;refine .nw 22 ?_;refine .e 23 0 ?_;refine .dn ?_;refine U5 ?_;exact Tc.db (ih ⟨(2*r+1,MA u (f+r) (f+(2*r+1))),by simp only;omega,by simp only;omega,g3.trans (iA.swap oM oM oM oM),g4.step oM g1 oM XW d3 PF⟩ (by simp only;omega))
    ·refine Tc.dr [] [] mixed rfl ?_;refine vI 0 ?_;refine .z 12 rfl (xA.tk fun H hs=> aA.is (.bool false) (by rewrite [decide_eq_false d3];rfl) (CC M H (nA u (f+r)) (nA u (f+(2*r+1))))) ?_;refine .nn 13 ?_;refine .dn ?_;refine U ?_;refine .rt hK func307 results307 [] ?_;exact fun H' hs=> rC.of hs (i:=0) rfl ⟨rfl,g3,g4.fin (fun d h1 h2=> by have:=PF d h1 h2;omega)⟩
  ·have PF:∀d,(d=2*r+1\/d=2*r+2)->d<hi->nA u (f+d)<=nA u (f+(2*r+1)):=by rintro d (rfl|rfl) _ <;> omega
   refine YD ?_;refine Tc.dr [] [] mixed rfl ?_;refine V5 0 ?_;refine .nw 5 ?_;refine .nw 6 ?_;refine .nw 7 ?_;refine .nw 8 ?_;refine .nw 9 ?_;refine .nw 10 ?_;refine .nw 11 ?_;refine .nw 12 ?_;refine .nw 13 ?_;refine .nw 14 ?_;refine .nw 15 ?_;refine .nw 16 ?_;refine .nw 17 ?_;refine .nw 18 ?_;refine .nn 19 ?_;refine .dn ?_;refine U4 ?_;have XW:2*r+1<hi:=by omega
   have k3:=KA (m:=u) (j:=jj) (k:=(f:Nat)+(r:Nat)) (p:=f+r) oM oM;have k4:=KA (m:=u) (j:=jj) (k:=(f:Nat)+((2*r+1:Nat):Int)) (p:=f+(2*r+1)) oM oM;by_cases d3:nA u (f+r)<nA u (f+(2*r+1))
   ·have s1:=jB (m:=u) (j:=jj) (k:=(f:Nat)+(r:Nat)) (x:=nA u (f+(2*r+1))) (p:=f+r) oM oM;have s2:=jB (m:=u.set (f+r) (nA u (f+(2*r+1)))) (j:=jj) (k:=(f:Nat)+((2*r+1:Nat):Int)) (x:=nA u (f+r)) (p:=f+(2*r+1)) oM (by rw[List.length_set];omega);have l1:=iB (m:=u) (j:=jj) (k:=(f:Nat)+(r:Nat)) (p:=f+r) oM oM;have l2:=iB (m:=u.set (f+r) (nA u (f+(2*r+1)))) (j:=jj) (k:=(f:Nat)+((2*r+1:Nat):Int)) (p:=f+(2*r+1)) oM (by rw[List.length_set];omega);refine Tc.dr [] [] mixed rfl ?_;refine vI 0 ?_;refine .z 12 rfl (xA.tk fun H hs=> aA.is (.bool true) (by rewrite [decide_eq_true d3];rfl) (CC M H (nA u (f+r)) (nA u (f+(2*r+1))))) ?_;refine .nn 13 ?_;refine .dn ?_;refine U3 ?_;refine Tc.dr [21,23] [0] mixed rfl ?_;refine V4 0 ?_;refine .nw 4 ?_;refine .nw 5 ?_;refine .nw 6 ?_;refine .nw 7 ?_;refine V6 8 ?_;refine .nw 14 ?_;refine .nw 15 ?_;refine .nw 16 ?_;refine .nw 17 ?_;refine .nw 18 ?_;refine V2 19 ?_;refine .e 21 0 ?_;refine .nw 22 ?_;refine .e 23 0 ?_;refine .dn ?_;refine U5 ?_;exact Tc.db (ih ⟨(2*r+1,MA u (f+r) (f+(2*r+1))),by simp only;omega,by simp only;omega,g3.trans (iA.swap oM oM oM oM),g4.step oM g1 oM XW d3 PF⟩ (by simp only;omega))
   ·refine Tc.dr [] [] mixed rfl ?_;refine vI 0 ?_;refine .z 12 rfl (xA.tk fun H hs=> aA.is (.bool false) (by rewrite [decide_eq_false d3];rfl) (CC M H (nA u (f+r)) (nA u (f+(2*r+1))))) ?_;refine .nn 13 ?_;refine .dn ?_;refine U ?_;refine .rt hK func307 results307 [] ?_;exact fun H' hs=> rC.of hs (i:=0) rfl ⟨rfl,g3,g4.fin (fun d h1 h2=> by have:=PF d h1 h2;omega)⟩
 ·refine U9 ?_;refine .ov hK func307 results307 [] ?_;exact fun H' hs=> rC.of hs (i:=0) rfl ⟨rfl,g3,g4.fin (fun d h1 h2=> by omega)⟩
end
theorem EM {f hi s:Nat}{u:List Int}(hs:1<=s)(h:fH f s hi u):pC f (s-1) hi (s-1) u:=
 ⟨fun k c h1 h2 h3 h4=> h k c oM h3 h4,fun k c h1 h2 h3 h4=> by omega⟩
structure PH(f hi s:Nat)(u:List Int):Prop where
 heap:fH f 0 s u
 srt:TC (f+s) (f+hi) u
 low:∀p q,p<s->s<=q->q<hi->nA u (f+p)<=nA u (f+q)
theorem bP {f hi s:Nat}{u:List Int}(hs:1<=s)(gM:s<=hi)(hl:f+hi<=u.length)(h:PH f hi s u):pC f 0 (s-1) 0 (MA u f (f+(s-1))):=by
 have hw:=fun q=> xB (l:=u) (p:=f) (q:=f+(s-1)) oM oM q;refine⟨fun k c h1 h2 h3 h4=> ?_,fun k c h1 h2 h3 h4=> by omega⟩;rw[hw,hw,if_neg oM,if_neg oM,if_neg oM,if_neg oM];exact h.heap k c h1 h3 oM
theorem FM {f hi s:Nat}{u m:List Int}(hs:1<=s)(gM:s<=hi)(hl:f+hi<=u.length)(h:PH f hi s u)(ht:iA f (f+(s-1)) (MA u f (f+(s-1))) m)(hm:fH f 0 (s-1) m):PH f hi (s-1) m:=by
 have hw:=fun q=> xB (l:=u) (p:=f) (q:=f+(s-1)) oM oM q;have aCc:=h.heap.top;have vK:nA m (f+(s-1))=nA u f:=by
  rw[ht.out _ (.inr (Nat.le_refl _)),hw,if_pos rfl]
 have wL:∀q,s<=q->nA m (f+q)=nA u (f+q):=fun q hq=> by
  rw[ht.out _ (.inr oM),hw,if_neg oM,if_neg oM]
 have TA:∀X:Int,(∀p,p<s->nA u (f+p)<=X)->∀p,p<s-1->nA m (f+p)<=X:=fun X hX p hp=>
  ht.all (by rw[yF];omega) (P:=fun x=> x<=X) (fun p h1 h2=> by
   rw[hw,if_neg oM];by_cases e:p=f
   ·rw[if_pos e];exact hX (s-1) oM
   ·rw[if_neg e];have:=hX (p-f) oM
    rwa [show f+(p-f)=p by omega] at this) (f+p) oM oM
 refine⟨hm,fun p q h1 h2 h3=> ?_,fun p q h1 h2 h3=> ?_⟩
 ·by_cases e:p=f+(s-1)
  ·rw[e,vK];have h4:=wL (q-f) oM;rw[show f+(q-f)=q by omega] at h4;rw[h4];have:=h.low 0 (q-f) oM oM oM
   rwa [show f+(q-f)=q by omega,Nat.add_zero] at this
  ·have h4:=wL (q-f) oM;have h5:=wL (p-f) oM;rw[show f+(q-f)=q by omega] at h4;rw[show f+(p-f)=p by omega] at h5;rw[h4,h5];exact h.srt p q oM h2 h3
 ·by_cases e:q=s-1
  ·subst e;rw[vK];exact TA _ (fun p hp=> aCc p hp) p h1
  ·rw[wL q oM];exact TA _ (fun p hp=> h.low p q hp oM h3) p h1
section
variable(M:Md prog)(H:View)
theorem ZW(sb:Nat)(l:List Int)(jj:List Value)(n cap a b:Nat)(hn:n=l.length)(hb:b<=n)(fD:n<=1000)(pI:a<b)(hS:H sb=some (true,.cells ⟨jA l++jj⟩ 3 (0,0))):
  aA M 273 #[.slice (some ⟨sb,0,none⟩) n cap,.int .i64 (a:Nat),.int .i64 (b:Nat)] H (rC H sb jj (fun v m=> v=.tuple ⟨[]⟩/\iA a b l m/\TC a b m)):=by
 obtain⟨hi,lQ⟩:∃hi,hi=b-a:=⟨_,rfl⟩
 have e0:((b:Nat):Int)-((a:Nat):Int)=((hi:Nat):Int):=by omega
 have eb:b=a+hi:=by omega
 obtain⟨s0,AF⟩:∃s0,s0=(hi-1)/2+1:=⟨_,rfl⟩
 have hq:rA .quo .i64 (((hi:Nat):Int)-1) 2=some (.int .i64 (((s0:Nat):Int)-1)):=by
  rw[pH oM oM oM]
  congr 2
  omega
 refine aA.enter (vs:= [.slice (some ⟨sb,0,none⟩) n cap,.int .i64 (a:Nat),.int .i64 (b:Nat)]) func273 rfl ntmps273 (Nat.le_of_ble_eq_true rfl) (kA.pull hS) fun St c cs hK=> ?_;refine lN ?_;rw[e0];refine U9 ?_;refine Tc.db (Tc.sA (σ:= { s:Nat×List Int//s.1<=hi/\iA a b l s.2/\fH a s.1 hi s.2 }) (fun s=> ([(0,.slice (some ⟨sb,0,none⟩) n cap),(6,.int .i64 (a:Nat)),(7,.int .i64 0),(8,.int .i64 (hi:Nat)),(9,.int .i64 ((s.1.1:Nat)-1))],[(sb,true,.cells ⟨jA s.1.2++jj⟩ 3 (0,0))])) (fun s=> s.1.1) ?_
  ⟨(s0,l),by simp only;omega,iA.refl ..,fun k c h1 h2 h3=> by simp only at h1;omega⟩)
 rintro⟨⟨s,u⟩,g1,g2,g3⟩ ih;simp only at g1 g2 g3;show Tc M St _ _ _ _ [(0,.slice (some ⟨sb,0,none⟩) n cap),(6,.int .i64 (a:Nat)),(7,.int .i64 0),(8,.int .i64 (hi:Nat)),(9,.int .i64 ((s:Nat)-1))] [(sb,true,.cells ⟨jA u++jj⟩ 3 (0,0))] _ _;have yI:=g2.len;by_cases c1:1<=s
 ·have e1:((s:Nat):Int)-1=((s-1:Nat):Int):=by omega
  rw[e1];refine kN ?_;refine .e (Or.vJ (l:=u) 0 (fun v m=> v=.tuple ⟨[]⟩/\iA a (a+hi) u m/\fH a (s-1) hi m) rfl rfl rfl rfl rfl dE rfl (fun H hs=> .h (QP M H sb u jj n cap (s-1) hi a oM oM fD oM (EM c1 g3) (hs.get (i:=0) rfl))) (fun v m ⟨hv,ht,hh⟩=> ?_));refine U7 ?_;exact Tc.db (ih ⟨(s-1,m),by simp only;omega,g2.trans (ht.wide (Nat.le_refl _) oM),hh⟩ (by simp only;omega))
 ·have es:s=0:=by omega
  subst es;refine kN ?_;refine Tc.db (Tc.sA (σ:= { s:Nat×List Int//s.1<=hi/\iA a b l s.2/\PH a hi s.1 s.2 }) (fun s=> ([(0,.slice (some ⟨sb,0,none⟩) n cap),(6,.int .i64 (a:Nat)),(7,.int .i64 0),(10,.int .i64 ((s.1.1:Nat)-1))],[(sb,true,.cells ⟨jA s.1.2++jj⟩ 3 (0,0))])) (fun s=> s.1.1) ?_
   ⟨(hi,u),Nat.le_refl _,g2,⟨g3,fun p q h1 h2 h3=> by omega,fun p q h1 h2 h3=> by omega⟩⟩)
  rintro⟨⟨s,w⟩,f1,f2,f3⟩ ih2;simp only at f1 f2 f3;show Tc M St _ _ _ _ [(0,.slice (some ⟨sb,0,none⟩) n cap),(6,.int .i64 (a:Nat)),(7,.int .i64 0),(10,.int .i64 ((s:Nat)-1))] [(sb,true,.cells ⟨jA w++jj⟩ 3 (0,0))] _ _;have LY:=f2.len;by_cases c2:1<=s
  ·have e1:((s:Nat):Int)-1=((s-1:Nat):Int):=by omega
   rw[e1];have k1:=KA (m:=w) (j:=jj) (k:=(a:Nat)) (p:=a) rfl oM;have k2:=KA (m:=w) (j:=jj) (k:=(a:Nat)+((s-1:Nat):Int)) (p:=a+(s-1)) oM oM;have s1:=jB (m:=w) (j:=jj) (k:=(a:Nat)) (x:=nA w (a+(s-1))) (p:=a) rfl oM;have s2:=jB (m:=w.set a (nA w (a+(s-1)))) (j:=jj) (k:=(a:Nat)+((s-1:Nat):Int)) (x:=nA w a) (p:=a+(s-1)) oM (by rw[List.length_set];omega);have l1:=iB (m:=w) (j:=jj) (k:=(a:Nat)) (p:=a) rfl oM;have l2:=iB (m:=w.set a (nA w (a+(s-1)))) (j:=jj) (k:=(a:Nat)+((s-1:Nat):Int)) (p:=a+(s-1)) oM (by rw[List.length_set];omega);have R1:=iA.swap (a:=a) (b:=b) (l:=w) (p:=a) (q:=a+(s-1)) oM oM oM oM;refine YD ?_;refine Tc.dr [17,19] [0] mixed rfl ?_;refine V2 0 ?_;refine .nw 2 ?_;refine .nw 3 ?_;refine .nw 4 ?_;refine .nw 5 ?_;refine V6 6 ?_;refine .nw 12 ?_;refine .nw 13 ?_;refine .nw 14 ?_;refine V2 15 ?_;refine .e 17 0 ?_;refine .nw 18 ?_;refine .e 19 0 ?_;refine .dn ?_;refine U5 ?_;refine .e (Or.vJ (l:=MA w a (a+(s-1))) 0 (fun v m=> v=.tuple ⟨[]⟩/\iA a (a+(s-1)) (MA w a (a+(s-1))) m/\fH a 0 (s-1) m) rfl rfl rfl rfl rfl dE rfl (fun H hs=> .h (QP M H sb (MA w a (a+(s-1))) jj n cap 0 (s-1) a (by rw[yF];omega) oM fD oM (bP c2 f1 oM f3) (hs.get (i:=0) rfl))) (fun v m ⟨hv,ht,hh⟩=> ?_));refine U7 ?_;exact Tc.db (ih2 ⟨(s-1,m),by simp only;omega,f2.trans (R1.trans (ht.wide (Nat.le_refl _) oM)),FM c2 f1 oM f3 ht hh⟩ (by simp only;omega))
  ·have es:s=0:=by omega
   subst es;refine U8 ?_;refine .ov hK func273 results273 [] ?_;exact fun H' hs=> rC.of hs (i:=0) rfl ⟨rfl,f2,eb▸f3.srt⟩
end
section
variable(M:Md prog)(H:View)
theorem P0(sb:Nat)(l:List Int)(jj:List Value)(n cap a b:Nat)(hn:n=l.length)(hb:b<=n)(fD:n<=1000)(ha:a<b)(hS:H sb=some (true,.cells ⟨jA l++jj⟩ 3 (0,0))):
  aA M 276 #[.slice (some ⟨sb,0,none⟩) n cap,.int .i64 (a:Nat),.int .i64 (b:Nat)] H (rC H sb jj (fun v m=> v=.tuple ⟨[]⟩/\iA a b l m)):=by
 refine aA.enter (vs:= [.slice (some ⟨sb,0,none⟩) n cap,.int .i64 (a:Nat),.int .i64 (b:Nat)]) func276 rfl ntmps276 (Nat.le_of_ble_eq_true rfl) (kA.pull hS) fun St c cs hK=> ?_;have JZ:((b:Nat):Int)-1=((b-1:Nat):Int):=by omega
 refine YD ?_;rw[JZ];refine U ?_;refine Tc.db (Tc.sA (σ:= { s:Nat×Nat×List Int//a<=s.1/\s.1<=b/\a<=s.2.1/\s.2.1<b/\iA a b l s.2.2 }) (fun s=> ([(0,.slice (some ⟨sb,0,none⟩) n cap),(6,.int .i64 (s.1.1:Nat)),(7,.int .i64 (s.1.2.1:Nat))],[(sb,true,.cells ⟨jA s.1.2.2++jj⟩ 3 (0,0))])) (fun s=> s.1.2.1) ?_
  ⟨(a,b-1,l),by simp,by simp only;omega,by simp only;omega,by simp only;omega,iA.refl ..⟩)
 rintro⟨⟨i,j,u⟩,g1,g2,g3,g4,g5⟩ ih;simp only at g1 g2 g3 g4 g5;show Tc M St _ _ _ _ [(0,.slice (some ⟨sb,0,none⟩) n cap),(6,.int .i64 (i:Nat)),(7,.int .i64 (j:Nat))] [(sb,true,.cells ⟨jA u++jj⟩ 3 (0,0))] _ _;have yI:=g5.len;by_cases c1:i<j
 ·have e1:((j:Nat):Int)-1=((j-1:Nat):Int):=by omega
  have k1:=KA (m:=u) (j:=jj) (k:=(i:Nat)) (p:=i) rfl oM;have k2:=KA (m:=u) (j:=jj) (k:=(j:Nat)) (p:=j) rfl oM;have s1:=jB (m:=u) (j:=jj) (k:=(i:Nat)) (x:=nA u j) (p:=i) rfl oM;have s2:=jB (m:=u.set i (nA u j)) (j:=jj) (k:=(j:Nat)) (x:=nA u i) (p:=j) rfl (by rw[List.length_set];omega);have l1:=iB (m:=u) (j:=jj) (k:=(i:Nat)) (p:=i) rfl oM;have l2:=iB (m:=u.set i (nA u j)) (j:=jj) (k:=(j:Nat)) (p:=j) rfl (by rw[List.length_set];omega);refine YD ?_;refine Tc.dr [13,15] [0] mixed rfl ?_;refine V2 0 ?_;refine .nw 2 ?_;refine .nw 3 ?_;refine V4 4 ?_;refine .nw 8 ?_;refine .nw 9 ?_;refine .nw 10 ?_;refine V2 11 ?_;refine .e 13 0 ?_;refine .nw 14 ?_;refine .e 15 0 ?_;refine .dn ?_;refine YD ?_;rw[e1];refine U ?_;exact Tc.db (ih ⟨(i+1,j-1,MA u i j),by simp only;omega,by simp only;omega,by simp only;omega,by simp only;omega,g5.trans (iA.swap oM oM oM oM)⟩ (by simp only;omega))
 ·refine U9 ?_;refine .ov hK func276 results276 [] ?_;exact fun H' hs=> rC.of hs (i:=0) rfl ⟨rfl,g5⟩
end
theorem Or.UP {M:Md prog}{n:Nat}{H₀:View}{R:Rg}{L:Bl}{o:Oper}{K:Rg->Bl->Prop}{cl:Go.Call}{x:Operand}{fv:Value}{az:List Value}{d:Nat}{σ:Type}(i:Nat){sb:Nat}{l:List Int}{j:List Value}(val:σ->Value)(mm:σ->List Int)(p:σ->Prop)
  (qA:o.op=.call cl) (yB:cl.callee=.value x) (hx:RA R x=some fv) (has:FD R cl.args.toList=some az) (hd:o.dst=some d) (hn:d<n) (hi:L[i]? =some (sb,true,.cells ⟨jA l++j⟩ 3 (0,0)))
  (hc:∀H,kA H₀ L H->CB M fv az H (rC H sb j fun v m=> ∃s,v=val s/\m=mm s/\p s)) (hk:∀s,p s->K ((d,val s)::R) (L.set i (sb,true,.cells ⟨jA (mm s)++j⟩ 3 (0,0)))):Or M n H₀ R L o K:=
 Or.vJ i (fun v m=> ∃s,v=val s/\m=mm s/\p s) qA yB hx has hd hn hi hc fun v m h=> by
  obtain⟨s,rfl,rfl,h3⟩:=h;exact hk s h3
def lT(s:Nat×Nat×Int):Value:=.tuple ⟨[.int .i64 (s.1:Nat),.int .i64 (s.2.1:Nat)]⟩
def kT(p q:Nat)(z:Int)(s:Nat×Nat×Int):Prop:=(s.1=p/\s.2.1=q\/s.1=q/\s.2.1=p)/\z<=s.2.2/\s.2.2<=z+1
section
variable(M:Md prog)(H:View)
theorem BP(sb cb:Nat)(f:Bool)(l:List Int)(jj:List Value)(n cap p q:Nat)(z:Int)(hn:n=l.length)(hp:p<n)(hq:q<n)(hz:0<=z/\z<=1000)(uB:sb≠cb)(hS:H sb=some (f,.cells ⟨jA l++jj⟩ 3 (0,0)))(hC:H cb=some (true,.cells ⟨[.int .i64 z]⟩ 3 (0,0))):
  aA M 327 #[.slice (some ⟨sb,0,none⟩) n cap,.int .i64 (p:Nat),.int .i64 (q:Nat),.pointer (some ⟨cb,0,none⟩)] H (rC H cb [] (fun v m=> ∃s,v=lT s/\m= [s.2.2]/\kT p q z s)):=by
 have sQ:(H.aB cb) sb=some (f,.cells ⟨jA l++jj⟩ 3 (0,0)):=by rw[HA uB];exact hS
 have k1:=KA (m:=l) (j:=jj) (k:=(p:Nat)) (p:=p) rfl oM;have k2:=KA (m:=l) (j:=jj) (k:=(q:Nat)) (p:=q) rfl oM;refine aA.enter (vs:= [.slice (some ⟨sb,0,none⟩) n cap,.int .i64 (p:Nat),.int .i64 (q:Nat),.pointer (some ⟨cb,0,none⟩)]) func327 rfl ntmps327 (Nat.le_of_ble_eq_true rfl) (kA.pull hC) fun St c cs hK=> ?_;by_cases c1:nA l q<nA l p
 ·refine U7 ?_;refine Tc.dr [] [] mixed rfl ?_;refine V8 0 ?_;refine .z 8 rfl (xA.tk fun H hs=> aA.is (.bool true) (by rewrite [decide_eq_true c1];rfl) (CC M H (nA l q) (nA l p))) ?_;refine .dn ?_;refine BI ?_;refine .rt hK func327 results327 [_,_] ?_;exact fun H' hs=> rC.of (m:= [z+1]) hs (i:=0) rfl ⟨(q,p,z+1),rfl,rfl,.inr ⟨rfl,rfl⟩,by simp only;omega,by simp only;omega⟩
 ·refine U7 ?_;refine Tc.dr [] [] mixed rfl ?_;refine V8 0 ?_;refine .z 8 rfl (xA.tk fun H hs=> aA.is (.bool false) (by rewrite [decide_eq_false c1];rfl) (CC M H (nA l q) (nA l p))) ?_;refine .dn ?_;refine U9 ?_;refine .rt hK func327 results327 [_,_] ?_;exact fun H' hs=> rC.of (m:= [z]) hs (i:=0) rfl ⟨(p,q,z),rfl,rfl,.inl ⟨rfl,rfl⟩,by simp only;omega,by simp only;omega⟩
theorem j6(sb cb:Nat)(f:Bool)(l:List Int)(jj:List Value)(n cap p q r:Nat)(z:Int)(hn:n=l.length)(hp:p<n)(hq:q<n)(hr:r<n)(hz:0<=z/\z<=100)(uB:sb≠cb)(hS:H sb=some (f,.cells ⟨jA l++jj⟩ 3 (0,0)))(hC:H cb=some (true,.cells ⟨[.int .i64 z]⟩ 3 (0,0))):
  aA M 309 #[.slice (some ⟨sb,0,none⟩) n cap,.int .i64 (p:Nat),.int .i64 (q:Nat),.int .i64 (r:Nat),.pointer (some ⟨cb,0,none⟩)] H (rC H cb [] (fun v m=> ∃s:Nat×Int,v=.int .i64 (s.1:Nat)/\m= [s.2]/\((s.1=p\/s.1=q\/s.1=r)/\z<=s.2/\s.2<=z+3))):=by
 have sQ:(H.aB cb) sb=some (f,.cells ⟨jA l++jj⟩ 3 (0,0)):=by rw[HA uB];exact hS
 refine aA.enter (vs:= [.slice (some ⟨sb,0,none⟩) n cap,.int .i64 (p:Nat),.int .i64 (q:Nat),.int .i64 (r:Nat),.pointer (some ⟨cb,0,none⟩)]) func309 rfl ntmps309 (Nat.le_of_ble_eq_true rfl) (kA.pull hC) fun St c cs hK=> ?_;refine UC ?_;refine .e (Or.UP (l:= [z]) (j:= []) 0 lT (fun s=> [s.2.2]) (kT p q z) rfl rfl rfl rfl rfl dE rfl (fun H hs=> .h (BP M H sb cb f l jj n cap p q z hn hp hq oM uB (hs.base _ _ sQ) (hs.get (i:=0) rfl))) (fun⟨x1,y1,z1⟩ ⟨o1,o2,o3⟩=> ?_));refine U6 ?_;simp only at o1 o2 o3;refine U6 ?_;refine .e (Or.UP (l:= [z1]) (j:= []) 0 lT (fun s=> [s.2.2]) (kT y1 r z1) rfl rfl rfl rfl rfl dE rfl (fun H hs=> .h (BP M H sb cb f l jj n cap y1 r z1 hn oM hr oM uB (hs.base _ _ sQ) (hs.get (i:=0) rfl))) (fun⟨x2,y2,z2⟩ ⟨p1,p2,p3⟩=> ?_));refine U6 ?_;simp only at p1 p2 p3;refine U6 ?_;refine .e (Or.UP (l:= [z2]) (j:= []) 0 lT (fun s=> [s.2.2]) (kT x1 x2 z2) rfl rfl rfl rfl rfl dE rfl (fun H hs=> .h (BP M H sb cb f l jj n cap x1 x2 z2 hn oM oM oM uB (hs.base _ _ sQ) (hs.get (i:=0) rfl))) (fun⟨x3,y3,z3⟩ ⟨q1,q2,q3⟩=> ?_));refine U6 ?_;simp only at q1 q2 q3;refine U5 ?_;refine .rt hK func309 results309 [_] ?_;exact fun H' hs=> rC.of (m:= [z3]) hs (i:=0) rfl ⟨(y3,z3),rfl,rfl,by simp only;omega,by simp only;omega,by simp only;omega⟩
def Q6(s:Nat×Nat):Value:=.tuple ⟨[.int .i64 (s.1:Nat),.int .i64 (s.2:Nat)]⟩
theorem pQ(sb:Nat)(f:Bool)(l:List Int)(jj:List Value)(n cap a b:Nat)(hn:n=l.length)(fD:n<=1000)(hb:b<=n)(h8:a+8<=b)(h50:b<a+50)(hS:H sb=some (f,.cells ⟨jA l++jj⟩ 3 (0,0))):
  aA M 275 #[.slice (some ⟨sb,0,none⟩) n cap,.int .i64 (a:Nat),.int .i64 (b:Nat)] H (fun v H'=> H.le H'/\∃s:Nat×Nat,v=Q6 s/\(a<=s.1/\s.1<b/\s.2<=2)/\∀y∈([]:Bl),H' y.1=some y.2/\H y.1=none):=by
 obtain⟨m,hm⟩:∃m,m=b-a:=⟨_,rfl⟩
 obtain⟨w,hw⟩:∃w,w=m/4:=⟨_,rfl⟩
 have e0:((b:Nat):Int)-((a:Nat):Int)=((m:Nat):Int):=by omega
 have hq:rA .quo .i64 ((m:Nat):Int) 4=some (.int .i64 ((w:Nat):Int)):=by
  rw[pH oM oM oM]
  congr 2
  omega
 have e1:((a:Nat):Int)+((w:Nat):Int)*1=((a+w:Nat):Int):=by omega
 have e2:((a:Nat):Int)+((w:Nat):Int)*2=((a+w*2:Nat):Int):=by omega
 have e3:((a:Nat):Int)+((w:Nat):Int)*3=((a+w*3:Nat):Int):=by omega
 refine .en func275 ntmps275 fun St c cs hK=> ?_;refine SE ?_;rw[e0];refine U2 ?_;refine .al fun b9=> ?_;refine U6 ?_;refine .i ?_ (z:=RB oM oM);refine U3 ?_;rw[e1];refine U5 ?_;refine .i ?_ (z:=RB oM oM);refine U3 ?_;rw[e2];refine U5 ?_;refine .i ?_ (z:=RB oM oM);refine U3 ?_;rw[e3];refine kN ?_;refine Tc.lift (L₂:= [(b9,true,.cells ⟨[.int .i64 0]⟩ 3 (0,0))]) (L₁:= []) rfl (fun Hx hx=> ?_);have uB:∀H',kA Hx [(b9,true,.cells ⟨[.int .i64 0]⟩ 3 (0,0))] H'->sb≠b9:=fun H' hs e=> by
  have:=hs.out (b9,true,.cells ⟨[.int .i64 0]⟩ 3 (0,0)) (by simp);rw[<-e,hx.base _ _ hS] at this;cases this
 refine U5 ?_;refine .e (Or.UP (l:= [0]) (j:= []) 0 (fun s:Nat×Int=> .int .i64 (s.1:Nat)) (fun s=> [s.2]) (fun s=> (s.1=a+w\/s.1=a+w*2\/s.1=a+w*3)/\0<=s.2/\s.2<=0+3) rfl rfl rfl rfl rfl dE rfl (fun H hs=> .h (j6 M H sb b9 f l jj n cap (a+w) (a+w*2) (a+w*3) 0 hn oM oM oM oM (uB H hs) (hs.base _ _ (hx.base _ _ hS)) (hs.get (i:=0) rfl))) (fun⟨x1,z1⟩ ⟨o1,o2,o3⟩=> ?_));refine U2 ?_;simp only at o1 o2 o3;have hle:=hx.base;clear hx uB;refine U6 ?_;by_cases c1:z1=0
 ·refine YD ?_;refine .rt hK func275 results275 [_,_] ?_;exact fun H' hs=> ⟨View.le_trans hle hs.base,(x1,1),rfl,⟨by simp only;omega,by simp only;omega,by simp⟩,by simp⟩
 ·refine BI ?_;refine .rt hK func275 results275 [_,_] ?_;exact fun H' hs=> ⟨View.le_trans hle hs.base,(x1,0),rfl,⟨by simp only;omega,by simp only;omega,by simp⟩,by simp⟩
end
end Go.Proofs.YtldmfjcgjdchcaaGreatDoor.Sg
