/-
 Texts of the proofs over baudot/dial.
-/
import Derived.Test.YtldmfjcgjdchcaaGreatDoorM10
namespace Go.Proofs.YtldmfjcgjdchcaaGreatDoor
open Go.RL Go.Proofs.Tryz
set_option maxRecDepth 10000
set_option maxHeartbeats 8000000
section
variable(M:Md prog)(H:View)
theorem kL(x lo hi:Int)(t:Bool)(ht:decide (lo<=x/\x<=hi)=t):bA M 24 #[.int .i64 x,.int .i64 lo,.int .i64 hi] H (fun v H'=> H.le H'/\v=.bool t):=by
 rw[<-ht];refine .en func24 ntmps24 fun St c cs hK=> ?_;by_cases c1:lo<=x
 all_goals by_cases c2:x<=hi
 all_goals
  refine U8 ?_;refine .i ?_ (z:=by first|exact jJ oM|exact SH oM);refine U ?_;first|(refine .sk ?_)|(refine .m ?_)
  first|(refine .sk ?_)|(refine .m ?_)
  first|(refine .sk ?_)|(refine .x (.it (zz:=(by first|exact IG oM|exact HG oM))) ?_)
  refine U3 ?_;refine .rt hK func24 results24 [_] ?_;exact fun H' hs=> ⟨hs.base,by simp[aE,c1,c2]⟩
theorem xG(a b lo hi:Int)(t:Bool)(ht:decide (lo<=a/\a<=b/\b<=hi)=t):bA M 168 #[dJ a b,.int .i64 lo,.int .i64 hi] H (fun v H'=> H.le H'/\v=.bool t):=by
 rw[<-ht];refine .en func168 ntmps168 fun St c cs hK=> ?_;by_cases c1:lo<=a
 all_goals by_cases c2:a<=b
 all_goals by_cases c3:b<=hi
 all_goals
  refine U2 ?_;refine .bo fun b1=> ?_;refine U8 ?_;refine .i ?_ (z:=by first|exact IG oM|exact HG oM);refine U ?_;first|(refine .sk ?_)|(refine .x .fa ?_)
  first|(refine .sk ?_)|((refine .x (.ld 0) ?_))
  first|(refine .sk ?_)|(refine .m ?_)
  first|(refine .sk ?_)|(refine .x (.it (zz:=(by first|exact jJ oM|exact SH oM))) ?_)
  refine U2 ?_;first|(refine .sk ?_)|(refine .x .fa ?_)
  first|(refine .sk ?_)|((refine .x (.ld 0) ?_))
  first|(refine .sk ?_)|(refine .m ?_)
  first|(refine .sk ?_)|(refine .x (.it (zz:=(by first|exact IG oM|exact HG oM))) ?_)
  refine U3 ?_;refine .rt hK func168 results168 [_] ?_;exact fun H' hs=> ⟨hs.base,by simp[aE,c1,c2,c3]⟩
theorem sP(x:Int)(t:Bool)(ht:pD x=t):bA M 167 #[.int .i64 x] H (fun v H'=> H.le H'/\v=.bool t):=by
 rw[<-ht];unfold pD;refine .en func167 ntmps167 fun St c cs hK=> ?_;by_cases c1:0<=x
 all_goals by_cases c2:x<=2
 all_goals try omega
 all_goals
  refine U7 ?_;refine .i ?_ (z:=by first|exact jJ oM|exact SH oM);refine U ?_;first|(refine .sk ?_)|(refine .m ?_)
  first|(refine .sk ?_)|(refine .x (.it (zz:=(by first|exact IG oM|exact HG oM))) ?_)
  refine U3 ?_;refine .rt hK func167 results167 [_] ?_;exact fun H' hs=> ⟨hs.base,by simp[aE,c1,c2]⟩
theorem QK(x:UInt8)(t:Bool)(ht:low x=t):bA M 235 #[.int .u8 (x.toNat:Nat)] H (fun v H'=> H.le H'/\v=.bool t):=by
 rw[<-ht];unfold low;refine .en func235 ntmps235 fun St c cs hK=> ?_;by_cases c1:97<=x.toNat
 all_goals by_cases c2:x.toNat<=122
 all_goals try omega
 all_goals
  refine U7 ?_;refine .i ?_ (z:=by first|exact jJ oM|exact SH oM);refine U ?_;first|(refine .sk ?_)|(refine .m ?_)
  first|(refine .sk ?_)|(refine .x (.it (zz:=(by first|exact IG oM|exact HG oM))) ?_)
  refine U3 ?_;refine .rt hK func235 results235 [_] ?_;exact fun H' hs=> ⟨hs.base,by simp[aE,c1,c2]⟩
theorem AS(x:UInt8)(t:Bool)(ht:CD x=t):bA M 236 #[.int .u8 (x.toNat:Nat)] H (fun v H'=> H.le H'/\v=.bool t):=by
 have e:CD x=decide (48<=x.toNat/\x.toNat<=57):=by unfold CD;exact decide_eq_decide.2 oM
 rw[<-ht,e];refine .en func236 ntmps236 fun St c cs hK=> ?_;by_cases c1:48<=x.toNat
 all_goals by_cases c2:x.toNat<=57
 all_goals try omega
 all_goals
  refine U7 ?_;refine .i ?_ (z:=by first|exact jJ oM|exact SH oM);refine U ?_;first|(refine .sk ?_)|(refine .m ?_)
  first|(refine .sk ?_)|(refine .x (.it (zz:=(by first|exact IG oM|exact HG oM))) ?_)
  refine U3 ?_;refine .rt hK func236 results236 [_] ?_;exact fun H' hs=> ⟨hs.base,by simp[aE,c1,c2]⟩
theorem DH(s p:List UInt8)(t:Bool)(ht:NA s p=t):bA M 237 #[gA s,gA p] H (fun v H'=> H.le H'/\v=.bool t):=by
 rw[<-ht];refine .en func237 ntmps237 fun St c cs hK=> ?_;by_cases c1:p.length<=s.length
 ·have e:NA s p=(s.take p.length==p):=by unfold NA;simp[c1]
  rw[e] at hK;refine XM ?_;refine .x (pA.kD (E:=en) rfl rfl rfl rfl rfl rfl oM oM oM) ?_;refine U5 ?_;refine .rt hK func237 results237 [_] ?_;exact fun H' hs=> ⟨hs.base,by simp[aE]⟩
 ·have e:NA s p=false:=by unfold NA;simp[c1]
  rw[e] at hK;refine zP ?_;refine .rt hK func237 results237 [_] ?_;exact okB
theorem Y5 {s:List UInt8}{j:Nat}{x:UInt8}(h:s[j]? =some x)(hx:CD x=false):s.all CD=false:=by
 rw[List.all_eq_false];exact⟨x,List.mem_of_getElem? h,by rw[hx];decide⟩
theorem SF(s:List UInt8)(hl:s.length<=1000000)(t:Bool)(ht:isNum s=t):bA M 165 #[gA s] H (fun v H'=> H.le H'/\v=.bool t):=by
 rw[<-ht];clear ht;refine .en func165 ntmps165 fun St c cs hK=> ?_;refine DD ?_;refine Tc.db (Tc.sA (σ:= { j:Nat//j<=s.length/\∀i x,i<j->s[i]? =some x->CD x=true }) (fun j=> ([(0,gA s),(3,.int .i64 (j.1:Nat))],[])) (fun j=> s.length-j.1) ?_ ⟨0,Nat.zero_le _,fun i x hi=> by omega⟩);rintro⟨j,hj,OA⟩ ih;show Tc M St _ _ _ _ [(0,gA s),(3,.int .i64 (j:Nat))] [] _ _;by_cases c1:j=s.length
 ·have e:s.all CD=true:=List.all_eq_true.2 fun x hx=> by
   obtain⟨i,hi,rfl⟩:=List.mem_iff_getElem.1 hx;exact OA i _ oM (List.getElem?_eq_getElem hi)
  have e2:isNum s=decide (1<=((s.length:Nat):Int)/\((s.length:Nat):Int)<=3):=by
   unfold isNum;rw[e,Bool.and_true];exact decide_eq_decide.2 oM
  rw[e2] at hK;subst c1;refine vF ?_;refine .cl (fun H hs=> kL M H (s.length:Nat) 1 3 _ rfl) ?_;refine U2 ?_;refine .rt hK func165 results165 [_] ?_;exact okB
 ·have c2:j<s.length:=by omega
  obtain⟨x,hx⟩:∃x,s[j]? =some x:=⟨_,List.getElem?_eq_getElem c2⟩
  have f1:s[((j:Nat):Int).toNat]? =some x:=by rw[Int.toNat_natCast];exact hx
  cases hd:CD x with
  | true=>
   have:=of_decide_eq_true hd;refine U33 ?_;exact Tc.db (ih ⟨j+1,oM,fun i y hi hy=> by
    by_cases e:i=j
    ·subst e;rw[hx] at hy;cases hy;exact hd
    ·exact OA i y oM hy⟩ (by simp only;omega))
  | false=>
   have e:isNum s=false:=by unfold isNum;rw[Y5 hx hd];simp
   have uE:=of_decide_eq_false hd;rw[e] at hK;by_cases c3:x.toNat<48
   ·refine G9 ?_;refine .rt hK func165 results165 [_] ?_;exact okB
   ·have c4:57<x.toNat:=by omega
    refine G9 ?_;refine .rt hK func165 results165 [_] ?_;exact okB
theorem qF(s:List UInt8)(hl:s.length<=1000000)(t:Bool)(ht:xH s=t):bA M 164 #[gA s] H (fun v H'=> H.le H'/\v=.bool t):=by
 rw[<-ht];clear ht;refine .en func164 ntmps164 fun St c cs hK=> ?_;refine DD ?_;refine Tc.db (Tc.sA (σ:= { j:Nat//j<=s.length/\∀i,i<j->nG s i=true }) (fun j=> ([(0,gA s),(3,.int .i64 (j.1:Nat))],[])) (fun j=> s.length-j.1) ?_ ⟨0,Nat.zero_le _,fun i hi=> by omega⟩);rintro⟨j,hj,OA⟩ ih;show Tc M St _ _ _ _ [(0,gA s),(3,.int .i64 (j:Nat))] [] _ _;by_cases c1:j=s.length
 ·have e:wF (nG s) s.length=true:=(vC _).2 (by rw[<-c1];exact OA);have e2:xH s=decide (1<=((s.length:Nat):Int)/\((s.length:Nat):Int)<=9):=by
   unfold xH;rw[e,Bool.and_true];exact decide_eq_decide.2 oM
  rw[e2] at hK;subst c1;refine vF ?_;refine .cl (fun H hs=> kL M H (s.length:Nat) 1 9 _ rfl) ?_;refine U2 ?_;refine .rt hK func164 results164 [_] ?_;exact okB
 ·have c2:j<s.length:=by omega
  obtain⟨x,hx⟩:∃x,s[j]? =some x:=⟨_,List.getElem?_eq_getElem c2⟩
  have f1:s[((j:Nat):Int).toNat]? =some x:=by rw[Int.toNat_natCast];exact hx
  cases Y4:low x with
  | true=>
   have hn:nG s j=true:=by unfold nG;rw[hx];simp[Y4]
   refine TJ ?_;refine .cl (fun H hs=> QK M H x true Y4) ?_;refine U5 ?_;refine To.BB rfl dE rfl ?_;refine To.BB rfl dE rfl ?_;refine To.BB rfl dE rfl ?_;refine To.BB rfl dE rfl ?_;refine To.BB rfl dE rfl ?_;refine qE ?_;exact Tc.db (ih ⟨j+1,oM,fun i hi=> by by_cases e:i=j;exact e▸hn;exact OA i oM⟩ (by simp only;omega))
  | false=>
   by_cases c3:j=0
   ·subst c3;have e:xH s=false:=by unfold xH;rw[xF c2 (by unfold nG;rw[hx];simp[Y4])];simp
    rw[e] at hK;refine TJ ?_;refine .cl (fun H hs=> QK M H x false Y4) ?_;refine SR ?_;refine .rt hK func164 results164 [_] ?_;exact okB
   ·have c4:(j:Int)≠0:=by omega
    cases hd:CD x with
    | true=>
     have hn:nG s j=true:=by unfold nG;rw[hx];simp[hd];omega
     refine TJ ?_;refine .cl (fun H hs=> QK M H x false Y4) ?_;refine U8 ?_;refine .cl (fun H hs=> AS M H x true hd) ?_;refine PF ?_;exact Tc.db (ih ⟨j+1,oM,fun i hi=> by by_cases e:i=j;exact e▸hn;exact OA i oM⟩ (by simp only;omega))
    | false=>
     have e:xH s=false:=by unfold xH;rw[xF c2 (by unfold nG;rw[hx];simp[Y4,hd])];simp
     rw[e] at hK;refine TJ ?_;refine .cl (fun H hs=> QK M H x false Y4) ?_;refine U8 ?_;refine .cl (fun H hs=> AS M H x false hd) ?_;refine U9 ?_;refine .rt hK func164 results164 [_] ?_;exact okB
theorem sX(A:Option Addr)(n ac:Nat)(x:Nat->List UInt8)(hA:oC H A n x)(hn:n<=100000000)(s:List UInt8):bA M 156 #[.slice A n ac,gA s] H (fun v H'=> H.le H'/\v=.int .i64 (fB (jA (fun j=> x j==s) n))):=by
 refine .en func156 ntmps156 fun St c cs hK=> ?_;refine DD ?_;refine Tc.db (Tc.sA (σ:= { j:Nat//j<=n/\jA (fun j=> x j==s) j=none }) (fun j=> ([(0,.slice A n ac),(1,gA s),(5,.int .i64 (j.1:Nat))],[])) (fun j=> n-j.1) ?_ ⟨0,Nat.zero_le _,rfl⟩);rintro⟨j,hj,dC⟩ ih;show Tc M St _ _ _ _ [(0,.slice A n ac),(1,gA s),(5,.int .i64 (j:Nat))] [] _ _;by_cases c1:j=n
 ·subst c1;rw[dC] at hK;refine vF ?_;refine .rt hK func156 results156 [_] ?_;exact okB
 ·have c2:j<n:=by omega
  obtain h0|⟨ab,ao,f,gs,gt,gz,rfl,hb,hl⟩:=hA
  ·omega
  have f1:=hl j c2;cases lF:x j==s with
  | true=>
   have f3:RL.HC .eql (x j) s=some (.bool true):=by rw[<-lF];rfl
   have e:jA (fun j=> x j==s) n=some j:=TA (j:=j+1) (by simp[jA,dC,lF]) _ oM;rw[e] at hK;refine U27 ?_;refine .rt hK func156 results156 [_] ?_;exact okB
  | false=>
   have f3:RL.HC .eql (x j) s=some (.bool false):=by rw[<-lF];rfl
   refine U29 ?_;exact Tc.db (ih ⟨j+1,oM,by simp[jA,dC,lF]⟩ (by simp only;omega))
theorem AJ(k:Bk)(A:Option Addr)(lc:Nat)(hA:nC H k A lc)(hn:k.nl<=1000)(s:List UInt8)(t:Bool)(ht:k.clash s=t):
  bA M 166 #[.slice A k.nl lc,gA s] H (fun v H'=> H.le H'/\v=.bool t):=by
 rw[<-ht];clear ht;refine .en func166 ntmps166 fun St c cs hK=> ?_;refine DD ?_;refine Tc.db (Tc.sA (σ:= { j:Nat//j<=k.nl/\jA (fun i=> pC (k.num i) s) j=none }) (fun j=> ([(0,.slice A k.nl lc),(1,gA s),(5,.int .i64 (j.1:Nat))],[])) (fun j=> k.nl-j.1) ?_ ⟨0,Nat.zero_le _,rfl⟩);rintro⟨j,hj,dC⟩ ih;show Tc M St _ _ _ _ [(0,.slice A k.nl lc),(1,gA s),(5,.int .i64 (j:Nat))] [] _ _;by_cases c1:j=k.nl
 ·have e:k.clash s=false:=by unfold Bk.clash;rw[<-c1,dC];rfl
  subst c1;rw[e] at hK;refine vF ?_;refine .rt hK func166 results166 [_] ?_;exact okB
 ·have c2:j<k.nl:=by omega
  obtain⟨_,h0|⟨ab,ao,f,gs,gt,gz,rfl,hb,hl⟩⟩:=hA
  ·omega
  obtain⟨F,fc,f1,_,_⟩:=hl j c2;have f2:tE false 1 gs (ao+((j:Nat):Int).toNat*3+1)=some (gA (k.num j)):=GG f1 dE;cases lF:pC (k.num j) s with
  | true=>
   have e:k.clash s=true:=by
    unfold Bk.clash;rw[TA (j:=j+1) (x:=j) (by simp[jA,dC,lF]) _ oM];rfl
   rw[e] at hK;cases ZZ:NA s (k.num j) with
   | true=>
    refine TR ?_;refine .cl (fun H hs=> DH M H s (k.num j) true ZZ) ?_;refine XM ?_;refine .rt hK func166 results166 [_] ?_;exact okB
   | false=>
    have hb2:NA (k.num j) s=true:=by unfold pC at lF;rw[ZZ,Bool.or_false] at lF;exact lF
    refine TR ?_;refine .cl (fun H hs=> DH M H s (k.num j) false ZZ) ?_;refine U7 ?_;refine .cl (fun H hs=> DH M H (k.num j) s true hb2) ?_;refine U7 ?_;refine .rt hK func166 results166 [_] ?_;exact okB
  | false=>
   have aCG:NA s (k.num j)=false/\NA (k.num j) s=false:=by unfold pC at lF;rw[Bool.or_eq_false_iff] at lF;exact⟨lF.2,lF.1⟩
   refine TR ?_;refine .cl (fun H hs=> DH M H s (k.num j) false aCG.1) ?_;refine U7 ?_;refine .cl (fun H hs=> DH M H (k.num j) s false aCG.2) ?_;refine DD ?_;exact Tc.db (ih ⟨j+1,oM,by simp[jA,dC,lF]⟩ (by simp only;omega))
theorem kK(a b p q:Int)(z:Int)(hz:(if XA a b p q then 0 else 1:Int)=z):bA M 84 #[mD a b p q] H (fun v H'=> H.le H'/\v=.int .i64 z):=by
 rw[<-hz];clear hz;by_cases c1:1<=a/\a<=b/\b<=12
 ·by_cases c2:b-a<4
  ·by_cases c3:0<=p/\p<=q/\q<=99
   ·have e:XA a b p q=true:=by unfold XA;simp[c1,c2,c3]
    rw[e];refine .en func84 ntmps84 fun St c cs hK=> ?_;refine U2 ?_;refine .bo fun b1=> ?_;refine U7 ?_;refine .cl (fun H hs=> xG M H a b 1 12 true (decide_eq_true c1)) ?_;refine vF ?_;refine .cl (fun H hs=> xG M H p q 0 99 true (decide_eq_true c3)) ?_;refine U9 ?_;refine .rt hK func84 results84 [_] ?_;exact okB
   ·have e:XA a b p q=false:=by unfold XA;simp[c3]
    rw[e];refine .en func84 ntmps84 fun St c cs hK=> ?_;refine U2 ?_;refine .bo fun b1=> ?_;refine U7 ?_;refine .cl (fun H hs=> xG M H a b 1 12 true (decide_eq_true c1)) ?_;refine vF ?_;refine .cl (fun H hs=> xG M H p q 0 99 false (decide_eq_false c3)) ?_;refine U8 ?_;refine .rt hK func84 results84 [_] ?_;exact okB
  ·have e:XA a b p q=false:=by unfold XA;simp[c2]
   rw[e];refine .en func84 ntmps84 fun St c cs hK=> ?_;refine U2 ?_;refine .bo fun b1=> ?_;refine U7 ?_;refine .cl (fun H hs=> xG M H a b 1 12 true (decide_eq_true c1)) ?_;refine F9 ?_;refine .rt hK func84 results84 [_] ?_;exact okB
 ·have e:XA a b p q=false:=by unfold XA;simp[c1]
  rw[e];refine .en func84 ntmps84 fun St c cs hK=> ?_;refine U2 ?_;refine .bo fun b1=> ?_;refine U7 ?_;refine .cl (fun H hs=> xG M H a b 1 12 false (decide_eq_false c1)) ?_;refine F9 ?_;refine .rt hK func84 results84 [_] ?_;exact okB
end
def Bk.mF(k:Bk)(j:Nat):List (List UInt8):=(List.range j).map k.name
theorem tR(k:Bk)(j:Nat):k.mF (j+1)=k.mF j++[k.name j]:=by unfold Bk.mF;rw[List.range_succ,List.map_append];rfl
theorem rT(k:Bk)(j:Nat):(k.mF j).length=j:=by unfold Bk.mF;simp
theorem qK {p q:Nat->Bool}:∀n,(∀i,i<n->p i=q i)->jA p n=jA q n
 | 0,_=> rfl
 | n+1,h=> by rw[jA,jA,qK n (fun i hi=> h i oM),h n oM]
theorem sT(k:Bk)(j n:Nat)(hn:n=j)(s:List UInt8):jA (fun i=> (k.mF j)[i]?.getD []==s) n=jA (fun i=> k.name i==s) j:=by
 subst hn;refine qK _ fun i hi=> ?_;unfold Bk.mF;rw[List.getElem?_map,List.getElem?_eq_getElem (by simpa using hi)];simp
section
variable(M:Md prog)(H:View)
theorem LQ (k:Bk)(A:Option Addr)(lc:Nat)(hA:nC H k A lc)(hn:k.nl<=1000)(AH:∀i,i<k.nl->(k.name i).length<=1000000/\(k.num i).length<=1000000/\k.nf i<=1000):
  bA M 83 #[.slice A k.nl lc] H (fun v H'=> H.le H'/\v=.int .i64 k.ED):=by
 by_cases c1:6<k.nl
 ·have e:k.ED=2:=if_pos c1;rw[e];refine .en func83 ntmps83 fun St c cs hK=> ?_;refine aP ?_;refine .rt hK func83 results83 [_] ?_;exact okB
 ·have e : k.ED =eC k.SB k.nl:=if_neg c1;rw[e];clear e;refine .en func83 ntmps83 fun St c cs hK=> ?_;refine F9 ?_;refine Tc.db (Tc.sA (σ:= { x:Nat×Gl 9 1//x.1<=k.nl/\eC k.SB x.1=0/\x.2.l=VA (k.mF x.1) }) (fun x=> ([(0,.slice A k.nl lc),(3,x.1.2.val),(4,.int .i64 (x.1.1:Nat))],x.1.2.bl)) (fun x=> k.nl-x.1.1) ?_ ⟨(0,Gl.nil 9 1),Nat.zero_le _,rfl,rfl⟩);rintro⟨⟨j,g⟩,hj,dC,dL⟩ ih;simp only at hj dC dL;show Tc M St _ _ _ _ [(0,.slice A k.nl lc),(3,g.val),(4,.int .i64 (j:Nat))] g.bl _ _;have MG:g.n=j:=by
   have:=g.hl;rw[dL,PC,rT] at this;omega
  by_cases c2:j=k.nl
  ·subst c2;rw[dC] at hK;refine vF ?_;refine .rt hK func83 results83 [_] ?_;exact okB
  ·have c3 : j < k.nl:=by omega
   have hA':=hA;obtain⟨Y6,h0|⟨ab,ao,f,gs,gt,gz,rfl,hb,hl⟩⟩:=hA
   ·omega
   obtain⟨F,fc,f1,_,hF⟩:=hl j c3;obtain⟨s0,s1,s2⟩:=AH j c3;have f20:tE false 1 gs (ao+((j:Nat):Int).toNat*3+0)=some (gA (k.name j)):=GG f1 dE;have f21:tE false 1 gs (ao+((j:Nat):Int).toNat*3+1)=some (gA (k.num j)):=GG f1 dE;have f22:tE false 1 gs (ao+((j:Nat):Int).toNat*3+2)=some (.slice F (k.nf j) fc):=GG f1 dE;have IW:nC H (k.pre j) (some ⟨ab,ao,none⟩) lc:=hA'.pre hj;have PW:=fun(H':View) (hg:∀x∈g.bl,H' x.1=some x.2)=> sX M H' (g.blk.map fun b=> ⟨b,0,none⟩) g.n g.cap (fun i=> (k.mF j)[i]?.getD []) (SI g hg dL rfl rfl) oM (k.name j);rw[sT k j g.n MG] at PW;cases q0:xH (k.name j) with
   | false=>
    have eA:k.SB j=4:=by unfold Bk.SB;simp only[q0];simp
    rw[ZB dC eA dE c3] at hK;refine TR ?_;refine .cl (fun H hs=> qF M H (k.name j) s0 _ q0) ?_;refine U7 ?_;refine .rt hK func83 results83 [_] ?_;exact okB
   | true=>
    cases q1:k.again j with
    | true=>
     obtain⟨i0,J0⟩:∃i,jA (fun i=> k.name i==k.name j) j=some i:=Option.isSome_iff_exists.1 q1;rw[J0] at PW;have PW:=fun(H':View) (hg:∀x∈g.bl,H' x.1=some x.2)=> K1 (w':=.int .i64 (i0:Nat)) (PW H' hg) rfl;have eA:k.SB j=5:=by unfold Bk.SB;simp only[q0,q1];simp
     rw[ZB dC eA dE c3] at hK;refine TR ?_;refine .cl (fun H hs=> qF M H (k.name j) s0 _ q0) ?_;refine LG ?_;refine .cl (fun H hs=> PW H (fun x hx=> hs.at_ x hx)) ?_;refine U7 ?_;refine .rt hK func83 results83 [_] ?_;exact okB
    | false =>
     have J0:jA (fun i=> k.name i==k.name j) j=none:=Option.isNone_iff_eq_none.1 (by have:=q1;unfold Bk.again at this;rw[<-Option.not_isSome,this];rfl);rw[J0] at PW;have PW:=fun(H':View) (hg:∀x∈g.bl,H' x.1=some x.2)=> K1 (w':=.int .i64 (-1)) (PW H' hg) rfl;cases q2:isNum (k.num j) with
     | false=>
      have eA:k.SB j=3:=by unfold Bk.SB;simp only[q0,q1,q2];simp
      rw[ZB dC eA dE c3] at hK;refine TR ?_;refine .cl (fun H hs=> qF M H (k.name j) s0 _ q0) ?_;refine LG ?_;refine .cl (fun H hs=> PW H (fun x hx=> hs.at_ x hx)) ?_;refine PF ?_;refine .e (.bs (zz:=fun bs=> ?_));refine .e (Or.append (E:=en) (g:=g) (m:=1) (new:= [gA (k.name j)]) (yv:=.slice (some ⟨bs,0,none⟩) 1 1) 1 rfl rfl rfl rfl rfl rfl rfl rfl rfl rfl rfl rfl rfl rfl rfl (fun H hs=> ZA.of (hs.get (i:=0) rfl) (Nat.le_of_ble_eq_true rfl)) rfl oM rfl dE (fun g2 gP lM=> ?_));refine DD ?_;refine .cl (fun H hs=> SF M H (k.num j) s1 _ q2) ?_;refine U7 ?_;refine .rt hK func83 results83 [_] ?_;exact okB
     | true=>
      cases q3:(k.pre j).clash (k.num j) with
      | true=>
       have eA:k.SB j=10:=by unfold Bk.SB;simp only[q0,q1,q2,q3];simp
       rw[ZB dC eA dE c3] at hK;refine TR ?_;refine .cl (fun H hs=> qF M H (k.name j) s0 _ q0) ?_;refine LG ?_;refine .cl (fun H hs=> PW H (fun x hx=> hs.at_ x hx)) ?_;refine PF ?_;refine .e (.bs (zz:=fun bs=> ?_));refine .e (Or.append (E:=en) (g:=g) (m:=1) (new:= [gA (k.name j)]) (yv:=.slice (some ⟨bs,0,none⟩) 1 1) 1 rfl rfl rfl rfl rfl rfl rfl rfl rfl rfl rfl rfl rfl rfl rfl (fun H hs=> ZA.of (hs.get (i:=0) rfl) (Nat.le_of_ble_eq_true rfl)) rfl oM rfl dE (fun g2 gP lM=> ?_));refine DD ?_;refine .cl (fun H hs=> SF M H (k.num j) s1 _ q2) ?_;refine U6 ?_;refine Tc.dr [] [] mixed rfl ?_;refine V2 0 ?_;refine .q 2 rfl (pA.sliceTo (E:=en) (k:=j) rfl rfl rfl rfl rfl rfl oM oM) ?_;refine V5 3 ?_;refine .z 8 rfl (pA.tk fun H hs=> AJ M H (k.pre j) (some ⟨ab,ao,none⟩) lc (IW.le hs.base) (by show j<=1000;omega) (k.num j) _ q3) ?_;refine .dn ?_;refine U5 ?_;refine .rt hK func83 results83 [_] ?_;exact okB
      | false =>
       cases q4:decide (1<=((k.nf j:Nat):Int)/\((k.nf j:Nat):Int)<=4) with
       | false=>
        have eA:k.SB j=2:=by unfold Bk.SB;simp only[q0,q1,q2,q3,q4];simp
        rw[ZB dC eA dE c3] at hK;refine TR ?_;refine .cl (fun H hs=> qF M H (k.name j) s0 _ q0) ?_;refine LG ?_;refine .cl (fun H hs=> PW H (fun x hx=> hs.at_ x hx)) ?_;refine PF ?_;refine .e (.bs (zz:=fun bs=> ?_));refine .e (Or.append (E:=en) (g:=g) (m:=1) (new:= [gA (k.name j)]) (yv:=.slice (some ⟨bs,0,none⟩) 1 1) 1 rfl rfl rfl rfl rfl rfl rfl rfl rfl rfl rfl rfl rfl rfl rfl (fun H hs=> ZA.of (hs.get (i:=0) rfl) (Nat.le_of_ble_eq_true rfl)) rfl oM rfl dE (fun g2 gP lM=> ?_));refine DD ?_;refine .cl (fun H hs=> SF M H (k.num j) s1 _ q2) ?_;refine U6 ?_;refine Tc.dr [] [] mixed rfl ?_;refine V2 0 ?_;refine .q 2 rfl (pA.sliceTo (E:=en) (k:=j) rfl rfl rfl rfl rfl rfl oM oM) ?_;refine V5 3 ?_;refine .z 8 rfl (pA.tk fun H hs=> AJ M H (k.pre j) (some ⟨ab,ao,none⟩) lc (IW.le hs.base) (by show j<=1000;omega) (k.num j) _ q3) ?_;refine .dn ?_;refine qE ?_;refine .cl (fun H hs=> kL M H ((k.nf j:Nat):Int) 1 4 _ q4) ?_;refine U7 ?_;refine .rt hK func83 results83 [_] ?_;exact okB
       | true=>
        refine TR ?_;refine .cl (fun H hs=> qF M H (k.name j) s0 _ q0) ?_;refine LG ?_;refine .cl (fun H hs=> PW H (fun x hx=> hs.at_ x hx)) ?_;refine PF ?_;refine .e (.bs (zz:=fun bs=> ?_));refine .e (Or.append (E:=en) (g:=g) (m:=1) (new:= [gA (k.name j)]) (yv:=.slice (some ⟨bs,0,none⟩) 1 1) 1 rfl rfl rfl rfl rfl rfl rfl rfl rfl rfl rfl rfl rfl rfl rfl (fun H hs=> ZA.of (hs.get (i:=0) rfl) (Nat.le_of_ble_eq_true rfl)) rfl oM rfl dE (fun g2 gP lM=> ?_));refine DD ?_;refine .cl (fun H hs=> SF M H (k.num j) s1 _ q2) ?_;refine U6 ?_;refine Tc.dr [] [] mixed rfl ?_;refine V2 0 ?_;refine .q 2 rfl (pA.sliceTo (E:=en) (k:=j) rfl rfl rfl rfl rfl rfl oM oM) ?_;refine V5 3 ?_;refine .z 8 rfl (pA.tk fun H hs=> AJ M H (k.pre j) (some ⟨ab,ao,none⟩) lc (IW.le hs.base) (by show j<=1000;omega) (k.num j) _ q3) ?_;refine .dn ?_;refine qE ?_;refine .cl (fun H hs=> kL M H ((k.nf j:Nat):Int) 1 4 _ q4) ?_;refine U9 ?_;refine Tc.db (Tc.sA (σ:= { i:Nat//i<=k.nf j/\jA (fun i=> !pD (k.free j i)) i=none }) (fun i=> ([(0,.slice (some ⟨ab,ao,none⟩) k.nl lc),(3,g2.val),(4,.int .i64 (j:Nat)),(5,.int .i64 (i.1:Nat))],g2.bl)) (fun i=> k.nf j-i.1) ?_ ⟨0,Nat.zero_le _,rfl⟩);rintro⟨i,hi,eP⟩ ih2;show Tc M St _ _ _ _ [(0,.slice (some ⟨ab,ao,none⟩) k.nl lc),(3,g2.val),(4,.int .i64 (j:Nat)),(5,.int .i64 (i:Nat))] g2.bl _ _;by_cases d1:i=k.nf j
        ·have eA:k.SB j=0:=by
          have q5:k.UG j=false:=by unfold Bk.UG;rw[<-d1,eP];rfl
          unfold Bk.SB;simp only[q0,q1,q2,q3,q4,q5];simp
         clear ih2 eP;subst d1;refine TR ?_;exact Tc.db (ih ⟨(j+1,g2),by simp only;omega,by simp only;rw[eC,if_pos dC];exact eA,by simp only;rw[tR,zD,lM,dL];rfl⟩ (by simp only;omega))
        ·have d2:i<k.nf j:=by omega
         obtain h0|⟨fb,fo,ff,fgs,fgt,fgz,rfl,hfb,TU⟩:=hF
         ·omega
         have f3:=TU i d2;cases q5:pD (k.free j i) with
         | true=>
          refine U26 ?_;refine .cl (fun H hs=> sP M H (k.free j i) _ q5) ?_;refine DD ?_;exact Tc.db (ih2 ⟨i+1,oM,by simp[jA,eP,q5]⟩ (by simp only;omega))
         | false=>
          have q6:k.UG j=true:=by
           unfold Bk.UG;rw[TA (j:=i+1) (x:=i) (by simp[jA,eP,q5]) _ oM];rfl
          have eA:k.SB j=1:=by unfold Bk.SB;simp only[q0,q1,q2,q3,q4,q6];simp
          rw[ZB dC eA dE c3] at hK;refine U26 ?_;refine .cl (fun H hs=> sP M H (k.free j i) _ q5) ?_;refine U7 ?_;refine .rt hK func83 results83 [_] ?_;exact okB
end
def Bk.wide(k:Bk)(i:Nat):Bool:=decide (100<(k.name i).length)||decide (100<(k.num i).length)||decide (20<k.nf i)
def Bk.TH(k:Bk):Bool:=decide (20<k.nl)||decide (20<k.nt)||(jA k.wide k.nl).isSome
theorem Bk.mX {k:Bk}(h:k.TH=false):k.nl<=20/\k.nt<=20/\∀i,i<k.nl->(k.name i).length<=100/\(k.num i).length<=100/\k.nf i<=20:=by
 unfold Bk.TH at h;rw[Bool.or_eq_false_iff,Bool.or_eq_false_iff] at h;have h1:=of_decide_eq_false h.1.1;have h2:=of_decide_eq_false h.1.2;refine⟨oM,oM,fun i hi=> ?_⟩;have h3:k.wide i=false:=(KB _).1 (by rw[<-Option.not_isSome_iff_eq_none,h.2];decide) i hi;unfold Bk.wide at h3;rw[Bool.or_eq_false_iff,Bool.or_eq_false_iff] at h3;have h4:=of_decide_eq_false h3.1.1;have h5:=of_decide_eq_false h3.1.2;have h6:=of_decide_eq_false h3.2;omega
theorem Bk.pP {k:Bk}(h:k.TH=false):k.small:=by
 obtain⟨h1,h2,h3⟩:=Bk.mX h;exact⟨oM,oM,fun i hi=> by have:=h3 i hi;omega⟩
section
variable(M:Md prog)(H:View)
theorem uO(k:Bk)(A:Option Addr)(lc:Nat)(B:Option Addr)(tc:Nat)(hk:fE H k A lc B tc)(hn:k.small)(hnm:∀i,i<k.nl->(k.name i).length<=1000000):
  bA M 29 #[k.val A lc B tc] H (fun v H'=> H.le H'/\v=.int .i64 k.QA):=by
 have eR:=fun(H':View) (h':H.le H')=> LQ M H' k A lc (hk.le h').rows hn.nl (fun i hi=> ⟨hnm i hi,hn.num i hi⟩);have hng:=hn.nt;by_cases c1:1<=k.cD/\k.cD<=99
 ·by_cases c2:k.cD+1<=k.rB/\k.rB<=99
  ·have e:k.QA=if k.ED=0 then k.LC else k.ED:=by unfold Bk.QA;rw[if_pos (by unfold Bk.wD;rw[if_pos ⟨c1,c2⟩])]
   rw[e];clear e;by_cases c3:k.ED=0
   ·rw[if_pos c3];rw[c3] at eR;by_cases c4:6<k.nt
    ·have e:k.LC=2:=by unfold Bk.LC;rw[if_pos c4]
     rw[e];refine .en func29 ntmps29 fun St c cs hK=> ?_;refine U2 ?_;refine .bo fun b1=> ?_;refine U7 ?_;refine .cl (fun H hs=> kL M H k.cD 1 99 true (decide_eq_true c1)) ?_;refine U7 ?_;refine .cl (fun H hs=> kL M H k.rB (k.cD+1) 99 true (decide_eq_true c2)) ?_;refine DD ?_;refine .cl (fun H hs=> eR H hs.base) ?_;refine P4 ?_;refine .rt hK func29 results29 [_] ?_;exact okB
    ·have e:k.LC=if(jA k.gC k.nt).isSome then 1 else 0:=by unfold Bk.LC;rw[if_neg c4]
     rw[e];clear e;refine .en func29 ntmps29 fun St c cs hK=> ?_;refine U2 ?_;refine .bo fun b1=> ?_;refine U7 ?_;refine .cl (fun H hs=> kL M H k.cD 1 99 true (decide_eq_true c1)) ?_;refine U7 ?_;refine .cl (fun H hs=> kL M H k.rB (k.cD+1) 99 true (decide_eq_true c2)) ?_;refine DD ?_;refine .cl (fun H hs=> eR H hs.base) ?_;refine U25 ?_;refine Tc.db (Tc.sA (σ:= { i:Nat//i<=k.nt/\jA k.gC i=none }) (fun i=> ([(1,.pointer (some ⟨b1,0,none⟩)),(4,.int .i64 (i.1:Nat))],[(b1,true,.cells ⟨(k.val A lc B tc).cells.toList⟩ 45 (0,0))])) (fun i=> k.nt-i.1) ?_ ⟨0,Nat.zero_le _,rfl⟩);rintro⟨i,hi,dC⟩ ih;show Tc M St _ _ _ _ [(1,.pointer (some ⟨b1,0,none⟩)),(4,.int .i64 (i:Nat))] [(b1,true,.cells ⟨(k.val A lc B tc).cells.toList⟩ 45 (0,0))] _ _;by_cases c5:i=k.nt
     ·clear ih;subst c5;rw[dC] at hK;refine XM ?_;refine .rt hK func29 results29 [_] ?_;exact okB
     ·have c6:i<k.nt:=by omega
      obtain⟨_,KY,h0|⟨tb,to,f,gs,gt,gz,rfl,hb,hl⟩⟩:=hk
      ·omega
      have f1:=hl i c6;cases q:XA (k.pf i) (k.pt i) (k.qf i) (k.qt i) with
      | true=>
       refine TR ?_;refine .cl (fun H hs=> kK M H (k.pf i) (k.pt i) (k.qf i) (k.qt i) 0 (by rw[q];rfl)) ?_;refine XM ?_;exact Tc.db (ih ⟨i+1,oM,by simp[jA,dC,Bk.gC,q]⟩ (by simp only;omega))
      | false=>
       rw[TA (j:=i+1) (x:=i) (by simp[jA,dC,Bk.gC,q]) _ oM] at hK;refine TR ?_;refine .cl (fun H hs=> kK M H (k.pf i) (k.pt i) (k.qf i) (k.qt i) 1 (by rw[q];rfl)) ?_;refine LG ?_;refine .rt hK func29 results29 [_] ?_;exact okB
   ·rw[if_neg c3];refine .en func29 ntmps29 fun St c cs hK=> ?_;refine U2 ?_;refine .bo fun b1=> ?_;refine U7 ?_;refine .cl (fun H hs=> kL M H k.cD 1 99 true (decide_eq_true c1)) ?_;refine U7 ?_;refine .cl (fun H hs=> kL M H k.rB (k.cD+1) 99 true (decide_eq_true c2)) ?_;refine DD ?_;refine .cl (fun H hs=> eR H hs.base) ?_;refine LG ?_;refine .rt hK func29 results29 [_] ?_;exact okB
  ·have e:k.QA=1:=by unfold Bk.QA Bk.wD;simp[c2]
   rw[e];refine .en func29 ntmps29 fun St c cs hK=> ?_;refine U2 ?_;refine .bo fun b1=> ?_;refine U7 ?_;refine .cl (fun H hs=> kL M H k.cD 1 99 true (decide_eq_true c1)) ?_;refine U7 ?_;refine .cl (fun H hs=> kL M H k.rB (k.cD+1) 99 false (decide_eq_false c2)) ?_;refine U8 ?_;refine .rt hK func29 results29 [_] ?_;exact okB
 ·have e:k.QA=1:=by unfold Bk.QA Bk.wD;simp[c1]
  rw[e];refine .en func29 ntmps29 fun St c cs hK=> ?_;refine U2 ?_;refine .bo fun b1=> ?_;refine U7 ?_;refine .cl (fun H hs=> kL M H k.cD 1 99 false (decide_eq_false c1)) ?_;refine aP ?_;refine .rt hK func29 results29 [_] ?_;exact okB
theorem J4(a num:List UInt8)(F:Option Addr)(n fc:Nat)(t:Bool)(ht:(decide (100<a.length)||decide (100<num.length)||decide (20<n))=t):
  bA M 89 #[nJ a num F n fc] H (fun v H'=> H.le H'/\v=.bool t):=by
 rw[<-ht];refine .en func89 ntmps89 fun St c cs hK=> ?_;by_cases c1:100<a.length
 all_goals by_cases c2:100<num.length
 all_goals by_cases c3:20<n
 all_goals
  refine U2 ?_;refine .bo fun b1=> ?_;refine U7 ?_;refine .i ?_ (z:=by first|exact kJ oM|exact EG oM);refine U ?_;first|(refine .sk ?_)|(refine .x .fa ?_)
  first|(refine .sk ?_)|((refine .x (.ld 0) ?_))
  first|(refine .sk ?_)|(refine .x (pA.aC1 (E:=en) rfl rfl rfl rfl rfl rfl rfl) ?_)
  first|(refine .sk ?_)|(refine .x (.it (zz:=(by first|exact kJ oM|exact EG oM))) ?_)
  refine U2 ?_;first|(refine .sk ?_)|(refine .x .fa ?_)
  first|(refine .sk ?_)|((refine .x (.ld 0) ?_))
  first|(refine .sk ?_)|(refine .x .ln ?_)
  first|(refine .sk ?_)|(refine .x (.it (zz:=(by first|exact kJ oM|exact EG oM))) ?_)
  refine U3 ?_;refine .rt hK func89 results89 [_] ?_;exact fun H' hs=> ⟨hs.base,by simp[aE,c1,c2,c3]⟩
theorem F5(k:Bk)(A:Option Addr)(lc:Nat)(B:Option Addr)(tc:Nat)(hA:nC H k A lc):
  bA M 31 #[k.val A lc B tc] H (fun v H'=> H.le H'/\v=.bool k.TH):=by
 by_cases c1:20<k.nl
 ·have e:k.TH=true:=by unfold Bk.TH;simp[c1]
  rw[e];refine .en func31 ntmps31 fun St c cs hK=> ?_;refine U2 ?_;refine .bo fun b1=> ?_;refine zP ?_;refine .rt hK func31 results31 [_] ?_;exact okB
 ·by_cases c2:20<k.nt
  ·have e:k.TH=true:=by unfold Bk.TH;simp[c2]
   rw[e];refine .en func31 ntmps31 fun St c cs hK=> ?_;refine U2 ?_;refine .bo fun b1=> ?_;refine zP ?_;refine .rt hK func31 results31 [_] ?_;exact okB
  ·have e:k.TH=(jA k.wide k.nl).isSome:=by unfold Bk.TH;simp[c1,c2]
   rw[e];clear e;refine .en func31 ntmps31 fun St c cs hK=> ?_;refine U2 ?_;refine .bo fun b1=> ?_;refine U24 ?_;refine Tc.db (Tc.sA (σ:= { i:Nat//i<=k.nl/\jA k.wide i=none }) (fun i=> ([(1,.pointer (some ⟨b1,0,none⟩)),(3,.int .i64 (i.1:Nat))],[(b1,true,.cells ⟨(k.val A lc B tc).cells.toList⟩ 45 (0,0))])) (fun i=> k.nl-i.1) ?_ ⟨0,Nat.zero_le _,rfl⟩);rintro⟨i,hi,dC⟩ ih;show Tc M St _ _ _ _ [(1,.pointer (some ⟨b1,0,none⟩)),(3,.int .i64 (i:Nat))] [(b1,true,.cells ⟨(k.val A lc B tc).cells.toList⟩ 45 (0,0))] _ _;by_cases c5:i=k.nl
   ·clear ih;subst c5;rw[dC] at hK;refine XM ?_;refine .rt hK func31 results31 [_] ?_;exact okB
   ·have c6:i<k.nl:=by omega
    obtain⟨Y6,h0|⟨ab,ao,f,gs,gt,gz,rfl,hb,hl⟩⟩:=hA
    ·omega
    obtain⟨F,fc,f1,_,_⟩:=hl i c6;cases q:k.wide i with
    | true=>
     rw[TA (j:=i+1) (x:=i) (by simp[jA,dC,q]) _ oM] at hK;refine TR ?_;refine .cl (fun H hs=> J4 M H (k.name i) (k.num i) F (k.nf i) fc true q) ?_;refine U6 ?_;refine .rt hK func31 results31 [_] ?_;exact okB
    | false=>
     refine TR ?_;refine .cl (fun H hs=> J4 M H (k.name i) (k.num i) F (k.nf i) fc false q) ?_;refine U9 ?_;exact Tc.db (ih ⟨i+1,oM,by simp[jA,dC,q]⟩ (by simp only;omega))
end
section
variable(M:Md prog)(H:View)
end
set_option maxHeartbeats 16000000
section
variable(M:Md prog)(H:View)
theorem vP(A B:Option Addr)(n ac bc:Nat)(x y:Nat->Int)(hA:pB H A n x)(hB:pB H B n y)(hn:n<=1000000)(he:∀i,i<n->x i=y i):
  bA M 148 #[.slice A n ac,.slice B n bc] H (fun v H'=> H.le H'/\v=.bool false):=by
 refine .en func148 ntmps148 fun St c cs hK=> ?_;refine DD ?_;refine Tc.db (Tc.sA (σ:= { j:Nat//j<=n }) (fun j=> ([(0,.slice A n ac),(1,.slice B n bc),(5,.int .i64 (j.1:Nat))],[])) (fun j=> n-j.1) ?_ ⟨0,Nat.zero_le _⟩);rintro⟨j,hj⟩ ih;show Tc M St _ _ _ _ [(0,.slice A n ac),(1,.slice B n bc),(5,.int .i64 (j:Nat))] [] _ _;by_cases c1:j=n
 ·subst c1;refine U25 ?_;refine .rt hK func148 results148 [_] ?_;exact okB
 ·have c2:j<n:=by omega
  obtain h0|⟨ab,ao,fa,gs,gt,gz,rfl,KS,R4⟩:=hA
  ·omega
  obtain h0|⟨bb,bo,fb,ks,kt,kz,rfl,zH,EJ⟩:=hB
  ·omega
  have f1:=R4 j c2;have f2:=EJ j c2;have f3:=he j c2;refine hU ?_;refine Tc.dr [] [] mixed rfl ?_;refine V9 0 ?_;refine .dn ?_;refine U8 ?_;exact Tc.db (ih ⟨j+1,oM⟩ (by simp only;omega))
theorem iS(A B:Option Addr)(n ac bc:Nat)(x y:Nat->Int)(hA:pB H A n x)(hB:pB H B n y)(hn:n<=1000000)(he:∀i,i<n->x i=y i):
  bA M 61 #[.slice A n ac,.slice B n bc] H (fun v H'=> H.le H'/\v=.bool true):=by
 refine .en func61 ntmps61 fun St c cs hK=> ?_;refine U8 ?_;refine .cl (fun H hs=> vP M H A B n ac bc x y (hA.le hs.base) (hB.le hs.base) hn he) ?_;refine U4 ?_;refine .cl (fun H hs=> vP M H B A n bc ac y x (hB.le hs.base) (hA.le hs.base) hn (fun i hi=> (he i hi).symm)) ?_;refine U4 ?_;refine .rt hK func61 results61 [_] ?_;exact okB
theorem wY(a b:Int):bA M 46 #[.int .i64 a,.int .i64 b] H (fun v H'=> H.le H'/\v=dJ a b):=by
 refine .en func46 ntmps46 fun St c cs hK=> ?_;refine U2 ?_;refine .al fun b4=> ?_;refine U8 ?_;refine .rt hK func46 results46 [_] ?_;exact okB
theorem kN(p q:Int):bA M 14 #[.int .i64 p,.int .i64 q] H (fun v H'=> H.le H'/\v=mD p p q q):=by
 refine .en func14 ntmps14 fun St c cs hK=> ?_;refine U2 ?_;refine .al fun b4=> ?_;refine U5 ?_;refine .cl (fun H hs=> wY M H p p) ?_;refine U2 ?_;refine .cl (fun H hs=> wY M H q q) ?_;refine U3 ?_;refine .rt hK func14 results14 [_] ?_;exact okB
end
def LU(i:Nat):List UInt8:= [[97,110,110],[98,111,98],[101,118,101]][i]?.getD []
def CW(i:Nat):List UInt8:= [[49,50],[49,51],[50]][i]?.getD []
def JX(i:Nat):Nat:= [1,2,1][i]?.getD 0
def KU(i j:Nat):Int:=([[1],[2,1],[0]][i]?.getD [])[j]?.getD 0
def YB(l:List Int)(i:Nat):Int:=l[i]?.getD 0
def QD:Bk:=⟨5,20,3,LU,CW,JX,KU,2,YB [1,2],YB [1,3],YB [8,6],YB [8,6]⟩
def KE:Bk:=⟨5,20,3,LU,CW,JX,KU,3,YB [1,1,2],YB [1,1,2],YB [3,9,9],YB [6,9,9]⟩
def HQ:Bk:=QD.now 1 2 2 6 6
def exF(b0 b1 b2:Nat)(i:Nat):Option Addr:=match i with
 | 0=> some ⟨b0,0,none⟩
 | 1=> some ⟨b1,0,none⟩
 | _=> some ⟨b2,0,none⟩
structure aK(H:View)(bl b0 b1 b2:Nat):Prop where
 h:∃f gt gz,H bl=some (f,.cells ⟨[gA [97,110,110],gA [49,50],.slice (some ⟨b0,0,none⟩) 1 1,gA [98,111,98],gA [49,51],.slice (some ⟨b1,0,none⟩) 2 2,gA [101,118,101],gA [50],.slice (some ⟨b2,0,none⟩) 1 1]⟩ gt gz)
 h0:∃f gt gz,H b0=some (f,.cells ⟨[.int .i64 1]⟩ gt gz)
 h1:∃f gt gz,H b1=some (f,.cells ⟨[.int .i64 2,.int .i64 1]⟩ gt gz)
 h2:∃f gt gz,H b2=some (f,.cells ⟨[.int .i64 0]⟩ gt gz)
theorem aK.le {H H':View}{bl b0 b1 b2:Nat}(h:aK H bl b0 b1 b2)(k:H.le H'):aK H' bl b0 b1 b2:=
 ⟨h.h.imp fun _ ⟨gt,gz,e⟩=> ⟨gt,gz,k _ _ e⟩,h.h0.imp fun _ ⟨gt,gz,e⟩=> ⟨gt,gz,k _ _ e⟩,h.h1.imp fun _ ⟨gt,gz,e⟩=> ⟨gt,gz,k _ _ e⟩,h.h2.imp fun _ ⟨gt,gz,e⟩=> ⟨gt,gz,k _ _ e⟩⟩
theorem mE {H:View}{sz m c b:Nat}{f:Bool}{cs:List Value}{e:TypeId}{fz:Nat×Nat}(hb:H b=some (f,.cells ⟨cs⟩ e fz))(h:cs.length=m*sz):ZA H sz (.slice (some ⟨b,0,none⟩) m c) m cs:=
 ⟨⟨_,_,rfl⟩,h,.inr ⟨b,0,c,f,cs,e,fz,rfl,hb,by simp,by simp⟩⟩
theorem DW {H:View}{k:Bk}{bl b0 b1 b2 bt:Nat}(hl:aK H bl b0 b1 b2)(hn:k.nl=3)(ZS:k.name=LU)(aAq:k.num=CW)(VX:k.nf=JX)(G0:k.free=KU){f:Bool}{gt:TypeId}{gz:Nat×Nat}(ht:H bt=some (f,.cells ⟨MA k.nt (tB k)⟩ gt gz)):
  WB H k (some ⟨bl,0,none⟩) 3 (some ⟨bt,0,none⟩) k.nt (exF b0 b1 b2) JX:=by
 obtain⟨⟨f1,t1,z1,g1⟩,⟨f2,t2,z2,g2⟩,⟨f3,t3,z3,g3⟩,⟨f4,t4,z4,g4⟩⟩:=hl;refine⟨oM,Nat.le_refl _,?_,mE ht (xC (f:=tB k) (sz:=4) (fun _=> rfl) k.nt),fun i hi=> by rw[VX];exact Nat.le_refl _,fun i hi=> ?_⟩
 ·rw[hn];have e:MA 3 (pG k (exF b0 b1 b2) JX)= [gA [97,110,110],gA [49,50],.slice (some ⟨b0,0,none⟩) 1 1,gA [98,111,98],gA [49,51],.slice (some ⟨b1,0,none⟩) 2 2,gA [101,118,101],gA [50],.slice (some ⟨b2,0,none⟩) 1 1]:=by
   unfold pG;rw[ZS,aAq,VX];rfl
  rw[e];exact mE g1 rfl
 ·rw[hn] at hi;rw[VX,G0];rcases(by omega:i=0\/i=1\/i=2) with rfl|rfl|rfl
  ·exact mE g2 rfl
  ·exact mE g3 rfl
  ·exact mE g4 rfl
section
variable(M:Md prog)(H:View)
theorem kT:bA M 118 #[] H (fun v H'=> H.le H'/\∃bl b0 b1 b2,v=.slice (some ⟨bl,0,none⟩) 3 3/\aK H' bl b0 b1 b2):=by
 refine .en func118 ntmps118 fun St c cs hK=> ?_;refine U6 ?_;refine .e (.bs (zz:=fun b0=> ?_));refine U ?_;refine .e (.bs (zz:=fun b1=> ?_));refine U ?_;refine .e (.bs (zz:=fun b2=> ?_));refine U ?_;refine .e (.bs (zz:=fun bl=> ?_));refine U2 ?_;refine .rt hK func118 results118 [_] ?_;exact fun H' hs=> ⟨hs.base,bl,b0,b1,b2,rfl,⟨_,_,_,hs.get (i:=0) rfl⟩,⟨_,_,_,hs.get (i:=3) rfl⟩,⟨_,_,_,hs.get (i:=2) rfl⟩,⟨_,_,_,hs.get (i:=1) rfl⟩⟩
theorem qX:bA M 47 #[] H (fun v H'=> H.le H'/\∃A lc B tc F fc,v=QD.val A lc B tc/\WB H' QD A lc B tc F fc):=by
 refine .en func47 ntmps47 fun St c cs hK=> ?_;refine U2 ?_;refine .al fun b0=> ?_;refine U3 ?_;refine To.uB rfl rfl rfl rfl rfl rfl dE (yB.h (kT M H)) (fun v H₁ hv=> ?_);obtain⟨hle,bl,c0,c1,c2,rfl,hl⟩:=hv;refine .cl (fun H hs=> kN M H 1 8) ?_;refine .cl (fun H hs=> wY M H 2 3) ?_;refine .cl (fun H hs=> wY M H 6 6) ?_;refine U ?_;refine .e (.bs (zz:=fun bt=> ?_));refine U3 ?_;refine .rt hK func47 results47 [_] ?_;exact fun H' hs=> ⟨View.le_trans hle hs.base,_,_,some ⟨bt,0,none⟩,_,_,_,rfl,DW (hl.le hs.base) rfl rfl rfl rfl rfl (hs.get (i:=0) rfl)⟩
theorem P1:bA M 48 #[] H (fun v H'=> H.le H'/\∃A lc B tc F fc,v=KE.val A lc B tc/\WB H' KE A lc B tc F fc):=by
 refine .en func48 ntmps48 fun St c cs hK=> ?_;refine U2 ?_;refine .al fun b0=> ?_;refine U3 ?_;refine To.uB rfl rfl rfl rfl rfl rfl dE (yB.h (kT M H)) (fun v H₁ hv=> ?_);obtain⟨hle,bl,c0,c1,c2,rfl,hl⟩:=hv;refine .cl (fun H hs=> wY M H 1 1) ?_;refine .cl (fun H hs=> wY M H 3 6) ?_;refine U ?_;refine .cl (fun H hs=> kN M H 1 9) ?_;refine .cl (fun H hs=> kN M H 2 9) ?_;refine .e (.bs (zz:=fun bt=> ?_));refine U3 ?_;refine .rt hK func48 results48 [_] ?_;exact fun H' hs=> ⟨View.le_trans hle hs.base,_,_,some ⟨bt,0,none⟩,_,_,_,rfl,DW (hl.le hs.base) rfl rfl rfl rfl rfl (hs.get (i:=0) rfl)⟩
end
theorem zF:QD.QA=0:=by decide +kernel
theorem GQ:KE.QA=0:=by decide +kernel
theorem M9:HQ.QA=0:=by decide +kernel
theorem EN {k:Bk}(hn:k.nl=3)(ht:k.nt<=1000)(aAq:k.num=CW)(VX:k.nf=JX):k.small:=⟨oM,ht,fun i hi=> by
 rw[hn] at hi;rw[aAq,VX];rcases(by omega:i=0\/i=1\/i=2) with rfl|rfl|rfl <;> decide⟩
end Go.Proofs.YtldmfjcgjdchcaaGreatDoor
namespace Go.Proofs.YtldmfjcgjdchcaaGreatDoor
open Go.RL Go.Proofs.Tryz Go.Conc
set_option maxRecDepth 10000
theorem aDT:vG prog 198 (Extern.Race.marked .releaseMerge):=⟨Tryz.f198,func198,by kernel_rfl,by kernel_rfl,by kernel_rfl,by kernel_rfl⟩
theorem aAb:vG prog 199 G6:=⟨Tryz.f199,func199,by kernel_rfl,by kernel_rfl,by kernel_rfl,by kernel_rfl⟩
theorem GX:vG prog 200 enE:=⟨Tryz.f200,func200,by kernel_rfl,by kernel_rfl,by kernel_rfl,by kernel_rfl⟩
theorem aCz:vG prog 201 (fun _=> pure (.bool false)):=⟨Tryz.f201,func201,by kernel_rfl,by kernel_rfl,by kernel_rfl,by kernel_rfl⟩
theorem aDU:vG prog 206 (Extern.Race.marked .read):=⟨Tryz.f206,func206,by kernel_rfl,by kernel_rfl,by kernel_rfl,by kernel_rfl⟩
theorem aDV:vG prog 210 Extern.Sync.semrelease:=⟨Tryz.f210,func210,by kernel_rfl,by kernel_rfl,by kernel_rfl,by kernel_rfl⟩
theorem aCA:vG prog 211 (Extern.Race.marked .acquire):=⟨Tryz.f211,func211,by kernel_rfl,by kernel_rfl,by kernel_rfl,by kernel_rfl⟩
theorem aDW:vG prog 214 (Extern.Race.marked .write):=⟨Tryz.f214,func214,by kernel_rfl,by kernel_rfl,by kernel_rfl,by kernel_rfl⟩
theorem aDX:vG prog 215 Extern.Sync.semacquire:=⟨Tryz.f215,func215,by kernel_rfl,by kernel_rfl,by kernel_rfl,by kernel_rfl⟩
theorem aCB:vG prog 268 (Extern.Atomic.update (Op.intArith .add) .u64 true):=⟨Tryz.f268,func268,by kernel_rfl,by kernel_rfl,by kernel_rfl,by kernel_rfl⟩
theorem aAc:vG prog 269 (Extern.Atomic.loadT (.int .u64)):=⟨Tryz.f269,func269,by kernel_rfl,by kernel_rfl,by kernel_rfl,by kernel_rfl⟩
theorem aDZ:vG prog 270 Extern.Atomic.storeT:=⟨Tryz.f270,func270,by kernel_rfl,by kernel_rfl,by kernel_rfl,by kernel_rfl⟩
theorem aD0:vG prog 271 (Extern.Atomic.casT (.int .u64)):=⟨Tryz.f271,func271,by kernel_rfl,by kernel_rfl,by kernel_rfl,by kernel_rfl⟩
theorem CF:xL prog 233 1=some 0:=by kernel_rfl
theorem sK:xL prog 233 2=some 1:=by kernel_rfl
theorem rK:xL prog 230 2=some 0:=by kernel_rfl
theorem YV:prog.underlying 303=some (.pointer 233):=by kernel_rfl
theorem OO:prog.underlying 305=some .unsafePointer:=by kernel_rfl
theorem C4:prog.underlying 310=some (.pointer 231):=by kernel_rfl
theorem k8:prog.underlying 3=some (.int .i64):=by kernel_rfl
theorem oQ:prog.underlying 21=some (.int .i32):=by kernel_rfl
theorem MR:prog.underlying 231=some (.int .u32):=by kernel_rfl
theorem rG:prog.underlying 228=some (.int .u64):=by kernel_rfl
theorem QV:(prog.info? 233).map (·.size)=some (1+1):=by kernel_rfl
theorem X3:(prog.info? 231).map (·.size)=some (0+1):=by kernel_rfl
end Go.Proofs.YtldmfjcgjdchcaaGreatDoor
namespace Go.Proofs.YtldmfjcgjdchcaaGreatDoor
open Go.RL Go.Proofs.Tryz Go.Conc Go.ConcN Go.RL.Au
open Go.ConcR (stA smA)
open Go.ConcM (OsLater)
set_option maxRecDepth 10000
section
variable {main:Bool}{sh:P5}{J:Goroutine->Prop}{K:Value->(Goroutine->Prop)->Prop}{blk off:Nat}
def KC(main:Bool)(K:Value->(Goroutine->Prop)->Prop):Prop:=∀v J',K v J'->∃sh',Cl prog main sh' J'
theorem r8 {d:Int}(hc:Cl prog main sh J)(hk:KC main K)(h:CH J 268 [.pointer (some ⟨blk,off,none⟩),.int .u64 d] K):CH J 205 [.pointer (some ⟨blk,off,none⟩),.int .u64 d] K:=by
 refine RR.at (by exact hc) aCm (RR.enter (vs:= [.pointer (some ⟨blk,off,none⟩),.int .u64 d]) func205 rfl ntmps205 (Nat.le_of_ble_eq_true rfl) fun c cs hK=> ?_);refine .sq (.rg rfl rfl ?_);refine .g ?_;refine .dn (.sq (.rg rfl rfl ?_));refine .m ?_;refine .x .nk ?_;refine .x (.fa (zz:=rK)) ?_;refine .m ?_;refine So.sC rfl rfl rfl nofun rfl (.mk' rfl) rfl (h) ?_;intro v J' hv;obtain⟨sh',hc⟩:=hk v J' hv;refine .g ?_;refine .dn ?_;refine Sc.aD (by exact hc) rfl (Sb.leave (by exact hc) func205 rfl (by exact .inr ⟨_,results205,rfl⟩) ?_);exact hK v J' hv
theorem vV(hc:Cl prog main sh J)(hk:KC main K)(h:CH J 269 [.pointer (some ⟨blk,off,none⟩)] K):CH J 207 [.pointer (some ⟨blk,off,none⟩)] K:=by
 refine RR.at (by exact hc) aCn (RR.enter (vs:= [.pointer (some ⟨blk,off,none⟩)]) func207 rfl ntmps207 (Nat.le_of_ble_eq_true rfl) fun c cs hK=> ?_);refine .sq (.rg rfl rfl ?_);refine .g ?_;refine .dn (.sq (.rg rfl rfl ?_));refine .m ?_;refine .x .nk ?_;refine .x (.fa (zz:=rK)) ?_;refine So.sC rfl rfl rfl nofun rfl (.mk' rfl) rfl (h) ?_;intro v J' hv;obtain⟨sh',hc⟩:=hk v J' hv;refine .g ?_;refine .dn ?_;refine Sc.aD (by exact hc) rfl (Sb.leave (by exact hc) func207 rfl (by exact .inr ⟨_,results207,rfl⟩) ?_);exact hK v J' hv
theorem R7 {d:Int}(hc:Cl prog main sh J)(hk:KC main K)(hu:∀v J',K v J'->v=.tuple #[])(h:CH J 270 [.pointer (some ⟨blk,off,none⟩),.int .u64 d] K):CH J 208 [.pointer (some ⟨blk,off,none⟩),.int .u64 d] K:=by
 refine RR.at (by exact hc) aCo (RR.enter (vs:= [.pointer (some ⟨blk,off,none⟩),.int .u64 d]) func208 rfl ntmps208 (Nat.le_of_ble_eq_true rfl) fun c cs hK=> ?_);refine .rg rfl rfl ?_;refine .m ?_;refine .x .nk ?_;refine .x (.fa (zz:=rK)) ?_;refine .m ?_;refine So.sC rfl rfl rfl nofun rfl (.mk' rfl) rfl (h) ?_;intro v J' hv;obtain⟨sh',hc⟩:=hk v J' hv;refine .dn ?_;refine Sc.over (by exact hc) rfl (Sb.leave (by exact hc) func208 rfl (by exact .inl ⟨results208,rfl⟩) ?_);exact hu v J' hv▸hK v J' hv
theorem aCv {d e:Int}(hc:Cl prog main sh J)(hk:KC main K)(h:CH J 271 [.pointer (some ⟨blk,off,none⟩),.int .u64 d,.int .u64 e] K):CH J 213 [.pointer (some ⟨blk,off,none⟩),.int .u64 d,.int .u64 e] K:=by
 refine RR.at (by exact hc) aCp (RR.enter (vs:= [.pointer (some ⟨blk,off,none⟩),.int .u64 d,.int .u64 e]) func213 rfl ntmps213 (Nat.le_of_ble_eq_true rfl) fun c cs hK=> ?_);refine .sq (.rg rfl rfl ?_);refine .g ?_;refine .dn (.sq (.rg rfl rfl ?_));refine .m ?_;refine .x .nk ?_;refine .x (.fa (zz:=rK)) ?_;refine .m ?_;refine .m ?_;refine So.sC rfl rfl rfl nofun rfl (.mk' rfl) rfl (h) ?_;intro v J' hv;obtain⟨sh',hc⟩:=hk v J' hv;refine .g ?_;refine .dn ?_;refine Sc.aD (by exact hc) rfl (Sb.leave (by exact hc) func213 rfl (by exact .inr ⟨_,results213,rfl⟩) ?_);exact hK v J' hv
end
set_option maxHeartbeats 1000000
theorem ZQ:∀a:Nat,a<8->∀b:Nat,b<2->KM .and .u64 ((a*4294967296+b:Nat):Int) 2147483648=0:=by decide +kernel
theorem aR:∀a:Nat,a<8->∀b:Nat,b<2->KM .and .u64 ((a*4294967296+b:Nat):Int) 2147483647=(b:Int):=by decide +kernel
theorem bR:∀a:Nat,a<8->∀b:Nat,b<2->((a*4294967296+b:Nat):Int).fdiv (2 ^ (min (32:Int).toNat IntKind.u64.bits))=(a:Int):=by decide +kernel
theorem aB8:IntKind.u64.wrap (-1)=18446744073709551615:=by decide +kernel
theorem N7:FD .shl .u64 18446744073709551615 32=some (.int .u64 18446744069414584320):=by
 show some (Value.int .u64 (IntKind.u64.wrap (18446744073709551615*2 ^ (min (32:Int).toNat IntKind.u64.bits))))=_;rw[show IntKind.u64.wrap (18446744073709551615*2 ^ (min (32:Int).toNat IntKind.u64.bits))=18446744069414584320 by decide +kernel]
theorem aDH:IntKind.u64.wrap 1=1:=by decide +kernel
theorem aBX:FD .shl .u64 1 32=some (.int .u64 4294967296):=by
 show some (Value.int .u64 (IntKind.u64.wrap (1*2 ^ (min (32:Int).toNat IntKind.u64.bits))))=_;rw[show IntKind.u64.wrap (1*2 ^ (min (32:Int).toNat IntKind.u64.bits))=4294967296 by decide +kernel]
theorem eW:IntKind.i32.wrap (-1)= -1:=by decide +kernel
theorem oX:∀a:Nat,a<8->IntKind.i32.wrap (a:Int)=(a:Int):=by decide +kernel
theorem QR:∀a:Nat,a<8->IntKind.u32.wrap (a:Int)=(a:Int):=by decide +kernel
section
variable {X:Fk}{κ:Nat}{H:View}{cc:Frame}{cs:List Frame}
theorem yO(X:Fk):∃e c,X.p9 X.Wg=some (e,c)/\0<c:=⟨X.tW,2,by simp[Fk.p9],by decide⟩
theorem eX(X:Fk):∃e c,X.p9 X.Wg=some (e,c)/\0+1<c:=⟨X.tW,2,by simp[Fk.p9],by decide⟩
theorem kw {K:Value->Th->Prop}{k:Nat}:KC false (fun v J'=> ∃k' t',k'<k/\K v t'/\J'=Jw prog X κ k' t' H):=fun _ _ ⟨_,_,_,_,h⟩=> ⟨_,h▸Jw.LM⟩
noncomputable def J9:Code:=cR (cR (cR (cR (oL Tryz.f124))))
abbrev L9:FB:=⟨124,.normal,none⟩
attribute [local irreducible] IntKind.wrap KM Int.fdiv in
theorem Z9 {a b:Nat}(ha:a<8)(hb:b<2)(hq:¬(a=0/\b=1))(hK:Jq prog 0 (G (cc.finish (.tuple #[])) cs)){R:Rg}
  (hR:jC [(0,.pointer (some ⟨X.Wg,0,none⟩)),(1,.int .i64 (-1)),(4,.bool false),(6,.int .u64 ((a*4294967296+b:Nat):Int))] R):
  Sc (Jq prog 1) 117 L9 (cc::cs) R [dcall 200 #[]] [.code J9]:=by
 refine Sc.drop hR ?_;have mM:=yO X;have f3:=eW;have g1:mA .and .u64 ((a*4294967296+b:Nat):Int) 2147483648=some (.int .u64 0):=by rw[<-ZQ a oM b oM];rfl
 have g2:mA .and .u64 ((a*4294967296+b:Nat):Int) 2147483647=some (.int .u64 (b:Int)):=by rw[<-aR a oM b oM];rfl
 have g3:FD .shr .u64 ((a*4294967296+b:Nat):Int) 32=some (.int .u64 (a:Int)):=by rw[<-bR a oM b oM];rfl
 have g4:=oX a oM;have g5:=QR b oM;rcases Nat.eq_zero_or_pos a with eV|eV;all_goals rcases Nat.eq_zero_or_pos b with aCR|aCR
 all_goals first
  | (exfalso;omega)
  | (
   refine .sq (.sq (.rg rfl rfl ?_));refine .m ?_;refine .i ?_ (z:=by assumption);refine .i ?_ (z:=bG oM);refine .m ?_;refine .sk ?_;refine .sk ?_;refine .x .pk ?_;refine .dn (.ff rfl (.sp (.sq ?_)));refine Sc.drop (R':= [(0,.pointer (some ⟨X.Wg,0,none⟩)),(1,.int .i64 (-1)),(4,.bool false),(6,.int .u64 ((a*4294967296+b:Nat):Int))]) ⟨rfl,rfl,rfl,rfl,trivial⟩ ?_;refine .rg rfl rfl ?_;refine .m ?_;refine .x (bD.shift rfl rfl rfl oM (by assumption)) ?_;refine .x (bD.conv rfl rfl rG oQ (by assumption)) ?_;refine .g ?_;refine .dn (.sq ?_);refine Sc.drop (R':= [(0,.pointer (some ⟨X.Wg,0,none⟩)),(1,.int .i64 (-1)),(6,.int .u64 ((a*4294967296+b:Nat):Int)),(7,.int .i32 (a:Int))]) ⟨rfl,rfl,rfl,rfl,trivial⟩ ?_;refine .rg rfl rfl ?_;refine .m ?_;refine .i ?_ (z:=by assumption);refine .x (bD.conv rfl rfl rG MR (by assumption)) ?_;refine .g ?_;refine .dn (.sq (.sq ?_));refine Sc.drop (R':= [(0,.pointer (some ⟨X.Wg,0,none⟩)),(1,.int .i64 (-1)),(7,.int .i32 (a:Int)),(8,.int .u32 (b:Int))]) ⟨rfl,rfl,rfl,rfl,trivial⟩ ?_;refine .rg rfl rfl ?_;refine .m ?_;refine .m ?_;refine .i ?_ (z:=EG oM);refine .x .pk ?_;refine .m ?_;refine .sk ?_;refine .sk ?_;refine .sk ?_;refine .sk ?_;refine .x .pk ?_;refine .dn (.ff rfl (.sp (.sq (.sq ?_))));refine Sc.drop (R':= [(0,.pointer (some ⟨X.Wg,0,none⟩)),(1,.int .i64 (-1)),(7,.int .i32 (a:Int)),(8,.int .u32 (b:Int))]) ⟨rfl,rfl,rfl,rfl,trivial⟩ ?_;refine .rg rfl rfl ?_;refine .m ?_;refine .i ?_ (z:=pJ oM);refine .dn (.ff rfl (.sp (.sq (.sq ?_))));refine Sc.drop (R':= [(0,.pointer (some ⟨X.Wg,0,none⟩)),(1,.int .i64 (-1)),(7,.int .i32 (a:Int)),(8,.int .u32 (b:Int))]) ⟨rfl,rfl,rfl,rfl,trivial⟩ ?_;refine .rg rfl rfl ?_;refine .m ?_;refine .i ?_ (z:=by first|exact sM oM|exact bG oM);refine .m ?_;first|(refine .sk ?_)|(refine .m ?_)
   first|(refine .sk ?_)|(refine .x (.it (zz:=EG oM)) ?_)
   refine .x .pk ?_;refine .m ?_;refine .sk ?_;refine .sk ?_;refine .sk ?_;refine .sk ?_;refine .x .pk ?_;refine .dn (.ff rfl (.sp (.sq (.sq ?_))));refine Sc.drop (R':= [(0,.pointer (some ⟨X.Wg,0,none⟩)),(1,.int .i64 (-1)),(7,.int .i32 (a:Int)),(8,.int .u32 (b:Int))]) ⟨rfl,rfl,rfl,rfl,trivial⟩ ?_;refine .rg rfl rfl ?_;refine .m ?_;refine .i ?_ (z:=by first|exact kJ oM|exact EG oM);refine .m ?_;first|(refine .sk ?_)|(refine .m ?_)
   first|(refine .sk ?_)|(refine .x (.it (zz:=pK oM)) ?_)
   refine .x .pk ?_;refine .dn (.tt rfl ?_);refine Sc.aD Jq.cl rfl (Jq.en GX rfl (Sb.leave Jq.cl func124 rfl (.inl ⟨results124,rfl⟩) hK)))
noncomputable def aDP:Code:=cR (cR (cR (cR (cR (cR (cR J9))))))
attribute [local irreducible] IntKind.wrap KM Int.fdiv in
theorem I6 {a b k:Nat}(a0:a=0)(b1:b=1)(hK:Jq prog 0 (G (cc.finish (.tuple #[])) cs)){R:Rg}
  (hR:jC [(0,.pointer (some ⟨X.Wg,0,none⟩)),(4,.bool false),(6,.int .u64 ((a*4294967296+b:Nat):Int)),(8,.int .u32 (b:Int))] R):Sc (Jw prog X κ k .d2 H) 117 L9 (cc::cs) R [dcall 200 #[]] [.code aDP]:=by
 refine Sc.drop hR ?_;have mM:=yO X;have g6:mA .sub .u32 (b:Int) 1=some (.int .u32 0):=by
  rw[b1];exact congrArg (fun x=> some (Value.int .u32 x)) (show IntKind.u32.wrap (((1:Nat):Int)-1)=0 by decide +kernel)
 have g7:mA .neq .u64 1 ((a*4294967296+b:Nat):Int)=some (.bool false):=bG oM;refine .sq (.sq (.rg rfl rfl ?_));refine .m ?_;refine .x .nk ?_;refine .x (.fa (zz:=CF)) ?_;refine So.sC rfl rfl rfl nofun rfl (.mk' rfl) rfl (vV Jw.LM kw (Jw.d2 aAc)) ?_;rintro v J' ⟨k5,t,hk5,⟨rfl,rfl⟩,rfl⟩;refine .m ?_;refine .i ?_ (z:=by assumption);refine .dn (.ff rfl (.sp (.sq ?_)));refine Sc.drop (R':= [(0,.pointer (some ⟨X.Wg,0,none⟩)),(4,.bool false),(6,.int .u64 ((a*4294967296+b:Nat):Int)),(8,.int .u32 (b:Int))]) ⟨rfl,rfl,rfl,rfl,trivial⟩ ?_;refine .rg rfl rfl ?_;refine .m ?_;refine .x .nk ?_;refine .x (.fa (zz:=CF)) ?_;refine So.sC rfl rfl rfl nofun rfl (.mk' rfl) rfl (R7 Jw.LM kw (fun v J' ⟨_,_,_,h,_⟩=> h.1) (Jw.d3 aDZ)) ?_;rintro v J' ⟨k6,t,hk6,⟨rfl,rfl⟩,rfl⟩;refine .dn (.sq (.sq ?_));refine Sc.drop (R':= [(0,.pointer (some ⟨X.Wg,0,none⟩)),(4,.bool false),(6,.int .u64 ((a*4294967296+b:Nat):Int)),(8,.int .u32 (b:Int))]) ⟨rfl,rfl,rfl,rfl,trivial⟩ ?_;refine .rg rfl rfl ?_;refine .m ?_;refine .dn (.ff rfl (.sp (.bl ?_)));refine Sc.loop (by exact Jw.LM) ?_;refine .sq (.sq (.rg rfl rfl ?_));refine .m ?_;refine .i ?_ (z:=sM oM);refine .dn (.tt rfl (.sp (.sq (.bl ?_))));refine Sc.drop (R':= [(0,.pointer (some ⟨X.Wg,0,none⟩)),(4,.bool false),(6,.int .u64 ((a*4294967296+b:Nat):Int)),(8,.int .u32 (b:Int))]) ⟨rfl,rfl,rfl,rfl,trivial⟩ ?_;refine .rg rfl rfl ?_;refine .m ?_;refine .x .nk ?_;refine .x (.fa (zz:=sK)) ?_;refine So.sC rfl rfl rfl nofun rfl (.mk' rfl) rfl (Jw.d4 (vs:= [.pointer (some ⟨X.Wg,1,none⟩),.bool false,.int .i64 0]) aDV rfl) ?_;rintro v J' ⟨k7,t,hk7,⟨rfl,rfl⟩,rfl⟩;refine So.mono ?_ (fun g=> Jq.jw);refine .dn (.ib ?_);refine Sc.drop (R':= [(0,.pointer (some ⟨X.Wg,0,none⟩)),(4,.bool false),(6,.int .u64 ((a*4294967296+b:Nat):Int)),(8,.int .u32 (b:Int))]) ⟨rfl,rfl,rfl,rfl,trivial⟩ ?_;refine .rg rfl rfl ?_;refine .m ?_;refine .i ?_ (z:=by assumption);refine .g ?_;refine .dn ?_;refine Sc.inLoop (by exact Jq.cl) ?_;refine Sc.drop (R':= [(8,.int .u32 0)]) ⟨rfl,trivial⟩ ?_;refine .sq (.sq (.rg rfl rfl ?_));refine .m ?_;refine .i ?_ (z:=bG oM);refine .dn (.ff rfl (.xt rfl ?_));refine Sc.over Jq.cl rfl (Jq.en GX rfl (Sb.leave Jq.cl func124 rfl (.inl ⟨results124,rfl⟩) hK))
attribute [local irreducible] IntKind.wrap KM Int.fdiv in
theorem Y9 {a b k:Nat}(a0:a=0)(b1:b=1)(hK:Jq prog 0 (G (cc.finish (.tuple #[])) cs)){R:Rg}
  (hR:jC [(0,.pointer (some ⟨X.Wg,0,none⟩)),(1,.int .i64 (-1)),(4,.bool false),(6,.int .u64 ((a*4294967296+b:Nat):Int))] R):Sc (Jw prog X κ k .d2 H) 117 L9 (cc::cs) R [dcall 200 #[]] [.code J9]:=by
 refine Sc.drop hR ?_;have mM:=yO X;have f3:=eW;have g1:mA .and .u64 ((a*4294967296+b:Nat):Int) 2147483648=some (.int .u64 0):=by rw[<-ZQ a oM b oM];rfl
 have g2:mA .and .u64 ((a*4294967296+b:Nat):Int) 2147483647=some (.int .u64 (b:Int)):=by rw[<-aR a oM b oM];rfl
 have g3:FD .shr .u64 ((a*4294967296+b:Nat):Int) 32=some (.int .u64 (a:Int)):=by rw[<-bR a oM b oM];rfl
 have g4:=oX a oM;have g5:=QR b oM;refine .sq (.sq (.rg rfl rfl ?_));refine .m ?_;refine .i ?_ (z:=by assumption);refine .i ?_ (z:=bG oM);refine .m ?_;refine .sk ?_;refine .sk ?_;refine .x .pk ?_;refine .dn (.ff rfl (.sp (.sq ?_)));refine Sc.drop (R':= [(0,.pointer (some ⟨X.Wg,0,none⟩)),(1,.int .i64 (-1)),(4,.bool false),(6,.int .u64 ((a*4294967296+b:Nat):Int))]) ⟨rfl,rfl,rfl,rfl,trivial⟩ ?_;refine .rg rfl rfl ?_;refine .m ?_;refine .x (bD.shift rfl rfl rfl oM (by assumption)) ?_;refine .x (bD.conv rfl rfl rG oQ (by assumption)) ?_;refine .g ?_;refine .dn (.sq ?_);refine Sc.drop (R':= [(0,.pointer (some ⟨X.Wg,0,none⟩)),(1,.int .i64 (-1)),(4,.bool false),(6,.int .u64 ((a*4294967296+b:Nat):Int)),(7,.int .i32 (a:Int))]) ⟨rfl,rfl,rfl,rfl,rfl,trivial⟩ ?_;refine .rg rfl rfl ?_;refine .m ?_;refine .i ?_ (z:=by assumption);refine .x (bD.conv rfl rfl rG MR (by assumption)) ?_;refine .g ?_;refine .dn (.sq (.sq ?_));refine Sc.drop (R':= [(0,.pointer (some ⟨X.Wg,0,none⟩)),(1,.int .i64 (-1)),(4,.bool false),(6,.int .u64 ((a*4294967296+b:Nat):Int)),(7,.int .i32 (a:Int)),(8,.int .u32 (b:Int))]) ⟨rfl,rfl,rfl,rfl,rfl,rfl,trivial⟩ ?_;refine .rg rfl rfl ?_;refine .m ?_;refine .m ?_;refine .i ?_ (z:=EG oM);refine .x .pk ?_;refine .m ?_;refine .sk ?_;refine .sk ?_;refine .sk ?_;refine .sk ?_;refine .x .pk ?_;refine .dn (.ff rfl (.sp (.sq (.sq ?_))));refine Sc.drop (R':= [(0,.pointer (some ⟨X.Wg,0,none⟩)),(1,.int .i64 (-1)),(4,.bool false),(6,.int .u64 ((a*4294967296+b:Nat):Int)),(7,.int .i32 (a:Int)),(8,.int .u32 (b:Int))]) ⟨rfl,rfl,rfl,rfl,rfl,rfl,trivial⟩ ?_;refine .rg rfl rfl ?_;refine .m ?_;refine .i ?_ (z:=pJ oM);refine .dn (.ff rfl (.sp (.sq (.sq ?_))));refine Sc.drop (R':= [(0,.pointer (some ⟨X.Wg,0,none⟩)),(1,.int .i64 (-1)),(4,.bool false),(6,.int .u64 ((a*4294967296+b:Nat):Int)),(7,.int .i32 (a:Int)),(8,.int .u32 (b:Int))]) ⟨rfl,rfl,rfl,rfl,rfl,rfl,trivial⟩ ?_;refine .rg rfl rfl ?_;refine .m ?_;refine .i ?_ (z:=sM oM);refine .m ?_;refine .m ?_;refine .i ?_ (z:=EG oM);refine .x .pk ?_;refine .m ?_;refine .sk ?_;refine .sk ?_;refine .sk ?_;refine .sk ?_;refine .x .pk ?_;refine .dn (.ff rfl (.sp (.sq (.sq ?_))));refine Sc.drop (R':= [(0,.pointer (some ⟨X.Wg,0,none⟩)),(1,.int .i64 (-1)),(4,.bool false),(6,.int .u64 ((a*4294967296+b:Nat):Int)),(7,.int .i32 (a:Int)),(8,.int .u32 (b:Int))]) ⟨rfl,rfl,rfl,rfl,rfl,rfl,trivial⟩ ?_;refine .rg rfl rfl ?_;refine .m ?_;refine .i ?_ (z:=EG oM);refine .m ?_;refine .m ?_;refine .i ?_ (z:=oK oM);refine .x .pk ?_;refine .dn (.ff rfl (.sp ?_));exact I6 a0 b1 hK ⟨rfl,rfl,rfl,rfl,trivial⟩
attribute [local irreducible] IntKind.wrap KM Int.fdiv in
theorem J6 {k:Nat}:CH (Jw prog X κ k .wr H) 124 [.pointer (some ⟨X.Wg,0,none⟩),.int .i64 (-1)] fun v J'=> v=.tuple #[]/\J'=Jq prog 0:=by
 refine RR.at (by exact Jw.AU rfl) x8 (RR.enter (vs:= [.pointer (some ⟨X.Wg,0,none⟩),.int .i64 (-1)]) func124 rfl ntmps124 (Nat.le_of_ble_eq_true rfl) fun c cs hK=> ?_);have mM:=yO X;have f1:=aB8;have f2:=N7;have f3:=eW;refine .sq (.tt rfl (.sq (.sq (.rg rfl rfl ?_))));refine .m ?_;refine .i ?_ (z:=dO oM);refine .dn (.tt rfl (.rg rfl rfl ?_));refine .m ?_;refine .x (bD.raw rfl rfl YV OO QV (by assumption)) ?_;refine So.sC rfl rfl rfl nofun rfl (.mk' rfl) rfl (Jw.wr aDT) ?_;rintro v J' ⟨rfl,k1,IY,rfl⟩;refine .dn (.sq (.rg rfl rfl ?_));refine So.sC rfl rfl rfl nofun rfl (.mk' rfl) rfl (Jw.wk aAb) ?_;rintro v J' ⟨k2,t,VS,⟨rfl,rfl⟩,rfl⟩;refine .dn (.rg rfl rfl ?_);refine So.defer Jw.LM (f:=200) (vs:= []) rfl nofun rfl rfl ⟨_,rfl⟩ rfl ?_;refine .dn (.sq ?_);refine Sc.drop (R':= [(0,.pointer (some ⟨X.Wg,0,none⟩)),(1,.int .i64 (-1))]) ⟨rfl,rfl,trivial⟩ ?_;refine .rg rfl rfl ?_;refine .g ?_;refine .dn (.sq (.sq (.rg rfl rfl ?_)));refine So.sC rfl rfl rfl nofun rfl (.mk' rfl) rfl (Jw.wi aCz) ?_;rintro v J' ⟨k3,t,hk3,⟨rfl,rfl⟩,rfl⟩;refine .dn (.ff rfl (.sp (.sq ?_)));refine Sc.drop (R':= [(0,.pointer (some ⟨X.Wg,0,none⟩)),(1,.int .i64 (-1)),(4,.bool false)]) ⟨rfl,rfl,rfl,trivial⟩ ?_;refine .rg rfl rfl ?_;refine .m ?_;refine .x .nk ?_;refine .x (.fa (zz:=CF)) ?_;refine .m ?_;refine .x (bD.conv rfl rfl k8 rG (by assumption)) ?_;refine .x (bD.shift rfl rfl rfl oM (by assumption)) ?_;refine So.sC rfl rfl rfl nofun rfl (.mk' rfl) rfl (r8 Jw.LM kw (Jw.d1 aCB)) ?_;rintro v J' ⟨k4,t,hk4,⟨a,b,ha,hb,rfl,rfl⟩,rfl⟩;by_cases hq:a=0/\b=1
 ·rw[if_pos hq];refine .g ?_;refine .dn ?_;exact Y9 hq.1 hq.2 (hK _ _ ⟨rfl,rfl⟩) ⟨rfl,rfl,rfl,rfl,trivial⟩
 ·rw[if_neg hq];refine So.mono ?_ (fun g=> Jq.jw);refine .g ?_;refine .dn ?_;exact Z9 oM oM hq (hK _ _ ⟨rfl,rfl⟩) ⟨rfl,rfl,rfl,rfl,trivial⟩
theorem aAa {k n:Nat}{b:FB}{R:Rg}{ds:List Deferred}(hb:b.rd=none)
  (h:Sb (Jq prog 0) n b cs R ds):Sb (Jw prog X κ k .wr H) n b cs R (dcall 126 #[.pointer (some ⟨X.Wg,0,none⟩)]::ds):=by
 refine Sb.aAd (vs:= [.pointer (some ⟨X.Wg,0,none⟩)]) Jw.LM hb func126 kR rfl ntmps126 (Nat.le_of_ble_eq_true rfl) fun c hm hc=> ?_;refine .rg rfl rfl ?_;refine .m ?_;refine So.sC rfl rfl rfl nofun rfl (.mk' rfl) rfl (J6) ?_;rintro v J' ⟨rfl,rfl⟩;refine .dn ?_;refine Sc.over Jq.cl rfl (Sb.leaveD Jq.cl func126 rfl results126 (.inl hm) (hc _ h))
end
section
variable {X:Fk}{H:View}{Fin:Goroutine->Prop}{j:Nat}{cc:Frame}{cs:List Frame}
theorem km {K:Value->Mn->Prop}{k:Nat}:KC true (fun v J'=> ∃k' m',k'<k/\K v m'/\J'=Jm prog X Fin k' m' j H):=fun _ _ ⟨_,_,_,_,h⟩=> ⟨_,h▸Jm.cl⟩
theorem aDG:IntKind.i32.wrap 1=1:=by decide +kernel
attribute [local irreducible] IntKind.wrap KM Int.fdiv in
theorem hZ {k:Nat}:CH (Jm prog X Fin k .kd j H) 124 [.pointer (some ⟨X.Wg,0,none⟩),.int .i64 1] fun v J'=> v=.tuple #[]/\∃k',J'=Jm prog X Fin k' .go j H:=by
 refine RR.at (by exact Jm.cl) x8 (RR.enter (vs:= [.pointer (some ⟨X.Wg,0,none⟩),.int .i64 1]) func124 rfl ntmps124 (Nat.le_of_ble_eq_true rfl) fun c cs hK=> ?_);have mM:=eX X;have f1:=aDH;have f2:=aBX;have f3:=aDG;refine .sq (.tt rfl (.sq (.sq (.rg rfl rfl ?_))));refine .m ?_;refine .i ?_ (z:=pJ oM);refine .dn (.ff rfl (.sp (.sq (.rg rfl rfl ?_))));refine So.sC rfl rfl rfl nofun rfl (.mk' rfl) rfl (Jm.kd aAb) ?_;rintro v J' ⟨k2,t,VS,⟨rfl,rfl⟩,rfl⟩;refine .dn (.rg rfl rfl ?_);refine So.defer Jm.cl (f:=200) (vs:= []) rfl nofun rfl rfl ⟨_,rfl⟩ rfl ?_;refine .dn (.sq (.rg rfl rfl ?_));refine .g ?_;refine .dn (.sq (.sq (.rg rfl rfl ?_)));refine So.sC rfl rfl rfl nofun rfl (.mk' rfl) rfl (Jm.ki aCz) ?_;rintro v J' ⟨k3,t,hk3,⟨rfl,rfl⟩,rfl⟩;refine .dn (.ff rfl (.sp (.sq (.rg rfl rfl ?_))));refine .m ?_;refine .x .nk ?_;refine .x (.fa (zz:=CF)) ?_;refine .m ?_;refine .x (bD.conv rfl rfl k8 rG (by assumption)) ?_;refine .x (bD.shift rfl rfl rfl oM (by assumption)) ?_;refine So.sC rfl rfl rfl nofun rfl (.mk' rfl) rfl (r8 Jm.cl km (Jm.ka aCB)) ?_;rintro v J' ⟨k4,t,hk4,⟨a,ha,rfl,rfl⟩,rfl⟩;have e0:(((a+1)*4294967296:Nat):Int)=(((a+1)*4294967296+0:Nat):Int):=(congrArg (fun x:Nat=> (x:Int)) (Nat.add_zero _)).symm;have g1:mA .and .u64 (((a+1)*4294967296:Nat):Int) 2147483648=some (.int .u64 0):=by rw[e0,<-ZQ (a+1) oM 0 oM];rfl
 have g2:mA .and .u64 (((a+1)*4294967296:Nat):Int) 2147483647=some (.int .u64 0):=by
  have:=aR (a+1) oM 0 oM;rw[e0];exact congrArg (fun x=> some (Value.int .u64 x)) this
 have g3:FD .shr .u64 (((a+1)*4294967296:Nat):Int) 32=some (.int .u64 ((a+1:Nat):Int)):=by rw[e0,<-bR (a+1) oM 0 oM];rfl
 have g4:=oX (a+1) oM;have g5:IntKind.u32.wrap 0=0:=QR 0 oM;have gg:(0:Int)<((a+1:Nat):Int):=by omega
 refine .g ?_;refine .dn ?_;refine Sc.drop (R':= [(0,.pointer (some ⟨X.Wg,0,none⟩)),(1,.int .i64 1),(4,.bool false),(6,.int .u64 (((a+1)*4294967296:Nat):Int))]) ⟨rfl,rfl,rfl,rfl,trivial⟩ ?_;refine .sq (.sq (.rg rfl rfl ?_));refine .m ?_;refine .i ?_ (z:=by assumption);refine .i ?_ (z:=bG oM);refine .m ?_;refine .sk ?_;refine .sk ?_;refine .x .pk ?_;refine .dn (.ff rfl (.sp (.sq ?_)));refine Sc.drop (R':= [(0,.pointer (some ⟨X.Wg,0,none⟩)),(1,.int .i64 1),(4,.bool false),(6,.int .u64 (((a+1)*4294967296:Nat):Int))]) ⟨rfl,rfl,rfl,rfl,trivial⟩ ?_;refine .rg rfl rfl ?_;refine .m ?_;refine .x (bD.shift rfl rfl rfl oM (by assumption)) ?_;refine .x (bD.conv rfl rfl rG oQ (by assumption)) ?_;refine .g ?_;refine .dn ?_;refine Sc.drop (R':= [(0,.pointer (some ⟨X.Wg,0,none⟩)),(1,.int .i64 1),(4,.bool false),(6,.int .u64 (((a+1)*4294967296:Nat):Int)),(7,.int .i32 ((a+1:Nat):Int))]) ⟨rfl,rfl,rfl,rfl,rfl,trivial⟩ ?_;refine .sq (.rg rfl rfl ?_);refine .m ?_;refine .i ?_ (z:=by assumption);refine .x (bD.conv rfl rfl rG MR (by assumption)) ?_;refine .g ?_;refine .dn ?_;refine Sc.drop (R':= [(0,.pointer (some ⟨X.Wg,0,none⟩)),(1,.int .i64 1),(4,.bool false),(7,.int .i32 ((a+1:Nat):Int)),(8,.int .u32 0)]) ⟨rfl,rfl,rfl,rfl,rfl,trivial⟩ ?_;refine .sq (.sq ?_);by_cases hz:a=0
 ·rw[if_pos hz];have q1:mA .eql .i32 ((a+1:Nat):Int) 1=some (.bool true):=pK oM;refine .rg rfl rfl ?_;refine .m ?_;refine .m ?_;refine .i ?_ (z:=kJ oM);refine .x .pk ?_;refine .m ?_;refine .m ?_;refine .m ?_;refine .x (bD.conv rfl rfl k8 oQ (by assumption)) ?_;refine .i ?_ (z:=by assumption);refine .x .pk ?_;refine .dn (.tt rfl ?_);refine Sc.drop (R':= [(0,.pointer (some ⟨X.Wg,0,none⟩)),(1,.int .i64 1),(4,.bool false),(7,.int .i32 ((a+1:Nat):Int)),(8,.int .u32 0)]) ⟨rfl,rfl,rfl,rfl,rfl,trivial⟩ ?_;refine .rg rfl rfl ?_;refine .m ?_;refine .x .nk ?_;refine .x (.fa (zz:=sK)) ?_;refine .x (bD.raw rfl rfl C4 OO X3 (by assumption)) ?_;refine So.sC rfl rfl rfl nofun rfl (.mk' rfl) rfl (Jm.kr aDU) ?_;rintro v J' ⟨rfl,k5,hk5,rfl⟩;refine .dn ?_;refine Sc.drop (R':= [(0,.pointer (some ⟨X.Wg,0,none⟩)),(1,.int .i64 1),(4,.bool false),(7,.int .i32 ((a+1:Nat):Int)),(8,.int .u32 0)]) ⟨rfl,rfl,rfl,rfl,rfl,trivial⟩ ?_;refine .sq (.sq (.rg rfl rfl ?_));refine .m ?_;refine .i ?_ (z:=pJ oM);refine .dn (.ff rfl (.sp (.sq (.sq (.rg rfl rfl ?_)))));refine .m ?_;refine .i ?_ (z:=bG oM);refine .m ?_;refine .sk ?_;refine .sk ?_;refine .x .pk ?_;refine .m ?_;refine .sk ?_;refine .sk ?_;refine .sk ?_;refine .sk ?_;refine .x .pk ?_;refine .dn (.ff rfl (.sp (.sq (.sq ?_))));refine Sc.drop (R':= [(0,.pointer (some ⟨X.Wg,0,none⟩)),(1,.int .i64 1),(4,.bool false),(7,.int .i32 ((a+1:Nat):Int)),(8,.int .u32 0)]) ⟨rfl,rfl,rfl,rfl,rfl,trivial⟩ ?_;refine .rg rfl rfl ?_;refine .m ?_;refine .i ?_ (z:=kJ oM);refine .m ?_;refine .sk ?_;refine .sk ?_;refine .x .pk ?_;refine .dn (.tt rfl ?_);refine Sc.aD Jm.cl rfl (Jm.ke GX rfl (fun k' _=> Sb.leave Jm.cl func124 rfl (.inl ⟨results124,rfl⟩) (hK _ _ ⟨rfl,k',rfl⟩)))
 ·rw[if_neg hz];have q1:mA .eql .i32 ((a+1:Nat):Int) 1=some (.bool false):=oK oM;refine .rg rfl rfl ?_;refine .m ?_;refine .m ?_;refine .i ?_ (z:=kJ oM);refine .x .pk ?_;refine .m ?_;refine .m ?_;refine .m ?_;refine .x (bD.conv rfl rfl k8 oQ (by assumption)) ?_;refine .i ?_ (z:=by assumption);refine .x .pk ?_;refine .dn (.ff rfl (.sp (.sq (.sq ?_))));refine Sc.drop (R':= [(0,.pointer (some ⟨X.Wg,0,none⟩)),(1,.int .i64 1),(4,.bool false),(7,.int .i32 ((a+1:Nat):Int)),(8,.int .u32 0)]) ⟨rfl,rfl,rfl,rfl,rfl,trivial⟩ ?_;refine .rg rfl rfl ?_;refine .m ?_;refine .i ?_ (z:=pJ oM);refine .dn (.ff rfl (.sp (.sq (.sq (.rg rfl rfl ?_)))));refine .m ?_;refine .i ?_ (z:=bG oM);refine .m ?_;refine .sk ?_;refine .sk ?_;refine .x .pk ?_;refine .m ?_;refine .sk ?_;refine .sk ?_;refine .sk ?_;refine .sk ?_;refine .x .pk ?_;refine .dn (.ff rfl (.sp (.sq (.sq ?_))));refine Sc.drop (R':= [(0,.pointer (some ⟨X.Wg,0,none⟩)),(1,.int .i64 1),(4,.bool false),(7,.int .i32 ((a+1:Nat):Int)),(8,.int .u32 0)]) ⟨rfl,rfl,rfl,rfl,rfl,trivial⟩ ?_;refine .rg rfl rfl ?_;refine .m ?_;refine .i ?_ (z:=kJ oM);refine .m ?_;refine .sk ?_;refine .sk ?_;refine .x .pk ?_;refine .dn (.tt rfl ?_);refine Sc.aD Jm.cl rfl (Jm.ke GX rfl (fun k' _=> Sb.leave Jm.cl func124 rfl (.inl ⟨results124,rfl⟩) (hK _ _ ⟨rfl,k',rfl⟩)))
end
section
variable {X:Fk}{H:View}{Fin:Goroutine->Prop}{j:Nat}{cc:Frame}{cs:List Frame}
noncomputable def aCb:Code:=cB (cB (cR (oL Tryz.f128)))
abbrev aDQ:FB:=⟨128,.normal,none⟩
attribute [local irreducible] IntKind.wrap KM Int.fdiv in
theorem EY(hc:Cl prog true hY Fin)(hK:Fin (G (cc.finish (.tuple #[])) cs))(k:Nat):∀R:Rg,jC [(0,.pointer (some ⟨X.Wg,0,none⟩))] R->Sc (Jm prog X Fin k .w1 j H) 84 aDQ (cc::cs) R [] [.code aCb,.inLoop aCb,.inBlock 0]:=by
 induction k using Nat.strongRecOn with
 | ind k IH=>
  intro R hR;refine Sc.drop hR ?_;have mM:=yO X;have aFc:=eX X;refine Sc.block (by first|exact Jm.cl|exact hc) ?_;refine Sc.seq (by first|exact Jm.cl|exact hc) ?_;refine .rg rfl rfl ?_;refine .m ?_;refine .x .nk ?_;refine .x (.fa (zz:=CF)) ?_;refine So.sC rfl rfl rfl nofun rfl (.mk' rfl) rfl (vV Jm.cl km (Jm.w1 aAc)) ?_;rintro v J' ⟨k1,t,IY,⟨a,ha,rfl,rfl⟩,rfl⟩;have e0:((a*4294967296:Nat):Int)=((a*4294967296+0:Nat):Int):=(congrArg (fun x:Nat=> (x:Int)) (Nat.add_zero _)).symm;have g1:mA .and .u64 ((a*4294967296:Nat):Int) 2147483648=some (.int .u64 0):=by rw[e0,<-ZQ a oM 0 oM];rfl
  have g2:mA .and .u64 ((a*4294967296:Nat):Int) 2147483647=some (.int .u64 0):=by
   have:=aR a oM 0 oM;rw[e0];exact congrArg (fun x=> some (Value.int .u64 x)) this
  have g3:FD .shr .u64 ((a*4294967296:Nat):Int) 32=some (.int .u64 (a:Int)):=by rw[e0,<-bR a oM 0 oM];rfl
  have g4:=oX a oM;have g5:IntKind.u32.wrap 0=0:=QR 0 oM;have g6:mA .add .u64 ((a*4294967296:Nat):Int) 1=some (.int .u64 ((a*4294967296+1:Nat):Int)):=by
   have h:∀a:Nat,a<8->IntKind.u64.wrap (((a*4294967296:Nat):Int)+1)=((a*4294967296+1:Nat):Int):=by decide +kernel
   exact congrArg (fun x=> some (Value.int .u64 x)) (h a oM)
  refine .g ?_;refine .dn ?_;refine Sc.drop (R':= [(0,.pointer (some ⟨X.Wg,0,none⟩)),(2,.int .u64 ((a*4294967296:Nat):Int))]) ⟨rfl,rfl,trivial⟩ ?_;refine Sc.seq (by first|exact Jm.cl|exact hc) ?_;refine .rg rfl rfl ?_;refine .m ?_;refine .x (bD.shift rfl rfl rfl oM (by assumption)) ?_;refine .x (bD.conv rfl rfl rG oQ (by assumption)) ?_;refine .g ?_;refine .dn ?_;refine Sc.drop (R':= [(0,.pointer (some ⟨X.Wg,0,none⟩)),(2,.int .u64 ((a*4294967296:Nat):Int)),(3,.int .i32 (a:Int))]) ⟨rfl,rfl,rfl,trivial⟩ ?_;refine Sc.seq (by first|exact Jm.cl|exact hc) ?_;refine .rg rfl rfl ?_;refine .m ?_;refine .i ?_ (z:=by assumption);refine .x (bD.conv rfl rfl rG MR (by assumption)) ?_;refine .g ?_;refine .dn ?_;refine Sc.drop (R':= [(0,.pointer (some ⟨X.Wg,0,none⟩)),(2,.int .u64 ((a*4294967296:Nat):Int)),(3,.int .i32 (a:Int)),(4,.int .u32 0)]) ⟨rfl,rfl,rfl,rfl,trivial⟩ ?_;refine Sc.seq (by first|exact Jm.cl|exact hc) ?_;refine Sc.seq (by first|exact Jm.cl|exact hc) ?_;by_cases hz:a=0
  ·rw[if_pos hz];have q1:mA .eql .i32 (a:Int) 0=some (.bool true):=pK oM;refine .rg rfl rfl ?_;refine .m ?_;refine .i ?_ (z:=by assumption);refine .dn ?_;refine Sc.cond (by first|exact Jm.cl|exact hc) (t:=true) rfl (fun _=> ?_) (fun h=> nomatch h);refine Sc.seq (by first|exact Jm.cl|exact hc) ?_;refine Sc.cond (by first|exact Jm.cl|exact hc) (t:=true) rfl (fun _=> ?_) (fun h=> nomatch h);refine Sc.seq (by first|exact Jm.cl|exact hc) ?_;refine .rg rfl rfl ?_;refine So.sC rfl rfl rfl nofun rfl (.mk' rfl) rfl (Jm.we GX) ?_;rintro v J' ⟨k2,t,VS,⟨rfl,rfl⟩,rfl⟩;refine .dn (.rg rfl rfl ?_);refine .m ?_;refine .x (bD.raw rfl rfl YV OO QV (by assumption)) ?_;refine So.sC rfl rfl rfl nofun rfl (.mk' rfl) rfl (Jm.aq aCA) ?_;rintro v J' ⟨rfl,rfl⟩;refine .dn (.sq (.sq (.rg rfl rfl ?_)));refine .m ?_;refine .i ?_ (z:=pK oM);refine .m ?_;refine .m ?_;refine .i ?_ (z:=by assumption);refine .i ?_ (z:=bG oM);refine .x .pk ?_;refine .m ?_;refine .sk ?_;refine .sk ?_;refine .x .pk ?_;refine .dn (.ff rfl (.sp ?_));refine Sc.aD (by exact hc) rfl (Sb.leave (by exact hc) func128 rfl (by exact .inl ⟨results128,rfl⟩) ?_);exact hK
  ·rw[if_neg hz];have q1:mA .eql .i32 (a:Int) 0=some (.bool false):=oK oM;refine .rg rfl rfl ?_;refine .m ?_;refine .i ?_ (z:=by assumption);refine .dn ?_;refine Sc.cond (by first|exact Jm.cl|exact hc) (t:=false) rfl (fun h=> nomatch h) (fun _=> ?_);refine Sc.skip (by first|exact Jm.cl|exact hc) ?_;refine Sc.seq (by first|exact Jm.cl|exact hc) ?_;refine .rg rfl rfl ?_;refine .m ?_;refine .x .nk ?_;refine .x (.fa (zz:=CF)) ?_;refine .m ?_;refine .m ?_;refine .i ?_ (z:=by assumption);refine So.sC rfl rfl rfl nofun rfl (.mk' rfl) rfl (aCv Jm.cl km (Jm.w2 aD0)) ?_;rintro v J' ⟨k2,t,VS,⟨rfl,rfl⟩|⟨rfl,rfl⟩,rfl⟩
   ·refine .dn ?_;refine Sc.cond (by first|exact Jm.cl|exact hc) (t:=true) rfl (fun _=> ?_) (fun h=> nomatch h);refine Sc.seq (by first|exact Jm.cl|exact hc) ?_;refine Sc.seq (by first|exact Jm.cl|exact hc) ?_;refine Sc.drop (R':= [(0,.pointer (some ⟨X.Wg,0,none⟩)),(2,.int .u64 ((a*4294967296:Nat):Int)),(4,.int .u32 0)]) ⟨rfl,rfl,rfl,trivial⟩ ?_;refine .rg rfl rfl ?_;refine .m ?_;refine .m ?_;refine .i ?_ (z:=pK oM);refine .x .pk ?_;refine .dn ?_;refine Sc.cond (by first|exact Jm.cl|exact hc) (t:=true) rfl (fun _=> ?_) (fun h=> nomatch h);refine .rg rfl rfl ?_;refine .m ?_;refine .x .nk ?_;refine .x (.fa (zz:=sK)) ?_;refine .x (bD.raw rfl rfl C4 OO X3 (by assumption)) ?_;refine So.sC rfl rfl rfl nofun rfl (.mk' rfl) rfl (Jm.wm aDW) ?_;rintro v J' ⟨rfl,k3,hk3,rfl⟩;refine .dn ?_;refine Sc.drop (R':= [(0,.pointer (some ⟨X.Wg,0,none⟩)),(2,.int .u64 ((a*4294967296:Nat):Int)),(4,.int .u32 0)]) ⟨rfl,rfl,rfl,trivial⟩ ?_;refine Sc.seq (by first|exact Jm.cl|exact hc) ?_;refine .rg rfl rfl ?_;refine .g ?_;refine .dn ?_;refine Sc.seq (by first|exact Jm.cl|exact hc) ?_;refine Sc.seq (by first|exact Jm.cl|exact hc) ?_;refine .rg rfl rfl ?_;refine .m ?_;refine .i ?_ (z:=by assumption);refine .i ?_ (z:=bG oM);refine .m ?_;refine .sk ?_;refine .x .pk ?_;refine .dn ?_;refine Sc.cond (by first|exact Jm.cl|exact hc) (t:=false) rfl (fun h=> nomatch h) (fun _=> ?_);refine Sc.skip (by first|exact Jm.cl|exact hc) ?_;refine Sc.seq (by first|exact Jm.cl|exact hc) ?_;refine .rg rfl rfl ?_;refine .m ?_;refine .x .nk ?_;refine .x (.fa (zz:=sK)) ?_;refine .m ?_;refine So.sC rfl rfl rfl nofun rfl (.mk' rfl) rfl (Jm.ws (vs:= [.pointer (some ⟨X.Wg,1,none⟩),.bool false]) aDX rfl) ?_;rintro v J' ⟨k4,t,hk4,⟨rfl,rfl⟩,rfl⟩;refine .dn ?_;refine Sc.drop (R':= [(0,.pointer (some ⟨X.Wg,0,none⟩))]) ⟨rfl,trivial⟩ ?_;refine Sc.seq (by first|exact Jm.cl|exact hc) ?_;refine .rg rfl rfl ?_;refine .m ?_;refine .x .nk ?_;refine .x (.fa (zz:=CF)) ?_;refine So.sC rfl rfl rfl nofun rfl (.mk' rfl) rfl (vV Jm.cl km (Jm.w4 aAc)) ?_;rintro v J' ⟨k5,t,hk5,⟨rfl,rfl⟩,rfl⟩;refine .i ?_ (z:=bG oM);refine .g ?_;refine .dn ?_;refine Sc.seq (by first|exact Jm.cl|exact hc) ?_;refine Sc.cond (by first|exact Jm.cl|exact hc) (t:=true) rfl (fun _=> ?_) (fun h=> nomatch h);refine Sc.seq (by first|exact Jm.cl|exact hc) ?_;refine .rg rfl rfl ?_;refine So.sC rfl rfl rfl nofun rfl (.mk' rfl) rfl (Jm.we GX) ?_;rintro v J' ⟨k6,t,hk6,⟨rfl,rfl⟩,rfl⟩;refine .dn (.rg rfl rfl ?_);refine .m ?_;refine .x (bD.raw rfl rfl YV OO QV (by assumption)) ?_;refine So.sC rfl rfl rfl nofun rfl (.mk' rfl) rfl (Jm.aq aCA) ?_;rintro v J' ⟨rfl,rfl⟩;refine .dn (.sq (.sq (.rg rfl rfl ?_)));refine .m ?_;refine .dn (.ff rfl (.sp ?_));refine Sc.aD (by exact hc) rfl (Sb.leave (by exact hc) func128 rfl (by exact .inl ⟨results128,rfl⟩) ?_);exact hK
   ·refine .dn ?_;refine Sc.cond (by first|exact Jm.cl|exact hc) (t:=false) rfl (fun h=> nomatch h) (fun _=> ?_);refine Sc.skip (by first|exact Jm.cl|exact hc) ?_;refine Sc.inBlock (by first|exact Jm.cl|exact hc) ?_;refine Sc.inLoop (by exact Jm.cl) ?_;exact IH k2 oM _ ⟨rfl,trivial⟩
theorem aB9 {k:Nat}(hc:Cl prog true hY Fin):CH (Jm prog X Fin k .wd j H) 128 [.pointer (some ⟨X.Wg,0,none⟩)] fun v J'=> v=.tuple #[]/\J'=Fin:=by
 refine RR.at (by exact Jm.cl) aCj (RR.enter (vs:= [.pointer (some ⟨X.Wg,0,none⟩)]) func128 rfl ntmps128 (Nat.le_of_ble_eq_true rfl) fun c cs hK=> ?_);refine Sc.seq (by first|exact Jm.cl|exact hc) ?_;refine Sc.cond (by first|exact Jm.cl|exact hc) (t:=true) rfl (fun _=> ?_) (fun h=> nomatch h);refine .rg rfl rfl ?_;refine So.sC rfl rfl rfl nofun rfl (.mk' rfl) rfl (Jm.wd aAb) ?_;rintro v J' ⟨k2,t,VS,⟨rfl,rfl⟩,rfl⟩;refine .dn ?_;refine Sc.block (by first|exact Jm.cl|exact hc) ?_;refine Sc.loop (by exact Jm.cl) ?_;exact EY hc (hK _ _ ⟨rfl,rfl⟩) k2 _ ⟨rfl,trivial⟩
end
end Go.Proofs.YtldmfjcgjdchcaaGreatDoor
