/-
 Texts of the proofs over baudot/dial.
-/
import Derived.Test.YtldmfjcgjdchcaaGreatDoorS10
namespace Go.Proofs.YtldmfjcgjdchcaaGreatDoor
open Go.RL Go.Proofs.Tryz
set_option maxRecDepth 10000
set_option maxHeartbeats 8000000
section
variable(M:Md prog)(H:View)
theorem VH(x lo hi:Int)(t:Bool)(ht:decide (lo<=x/\x<=hi)=t):fA M 24 #[.iz x,.iz lo,.iz hi] H (Ib H (.bool t)):=by
 rw[<-ht];refine .en func24 ntmps24 fun St c cs hK=> ?_;by_cases c1:lo<=x
 all_goals by_cases c2:x<=hi
 all_goals
  refine U8 ?_;refine .i ?_ (z:=by first|exact CH oM|exact mJ oM);refine U ?_;first|(refine .sk ?_)|(refine .m ?_)
  first|(refine .sk ?_)|(refine .m ?_)
  first|(refine .sk ?_)|(refine .x (.it (zz:=(by first|exact xI oM|exact wI oM))) ?_)
  refine U3 ?_;refine .rt hK func24 results24 [_] ?_;exact fun H' hs=> ⟨hs.base,by simp[gF,c1,c2]⟩
theorem oI(a b lo hi:Int)(t:Bool)(ht:decide (lo<=a/\a<=b/\b<=hi)=t):fA M 168 #[SC a b,.iz lo,.iz hi] H (Ib H (.bool t)):=by
 rw[<-ht];refine .en func168 ntmps168 fun St c cs hK=> ?_;by_cases c1:lo<=a
 all_goals by_cases c2:a<=b
 all_goals by_cases c3:b<=hi
 all_goals
  refine U2 ?_;refine .bo fun b1=> ?_;refine U8 ?_;refine .i ?_ (z:=by first|exact xI oM|exact wI oM);refine U ?_;first|(refine .sk ?_)|(refine .x .fa ?_)
  first|(refine .sk ?_)|((refine .x (.ld 0) ?_))
  first|(refine .sk ?_)|(refine .m ?_)
  first|(refine .sk ?_)|(refine .x (.it (zz:=(by first|exact CH oM|exact mJ oM))) ?_)
  refine U2 ?_;first|(refine .sk ?_)|(refine .x .fa ?_)
  first|(refine .sk ?_)|((refine .x (.ld 0) ?_))
  first|(refine .sk ?_)|(refine .m ?_)
  first|(refine .sk ?_)|(refine .x (.it (zz:=(by first|exact xI oM|exact wI oM))) ?_)
  refine U3 ?_;refine .rt hK func168 results168 [_] ?_;exact fun H' hs=> ⟨hs.base,by simp[gF,c1,c2,c3]⟩
theorem LR(x:Int)(t:Bool)(ht:gE x=t):fA M 167 #[.iz x] H (Ib H (.bool t)):=by
 rw[<-ht];unfold gE;refine .en func167 ntmps167 fun St c cs hK=> ?_;by_cases c1:0<=x
 all_goals by_cases c2:x<=2
 all_goals try omega
 all_goals
  refine U7 ?_;refine .i ?_ (z:=by first|exact CH oM|exact mJ oM);refine U ?_;first|(refine .sk ?_)|(refine .m ?_)
  first|(refine .sk ?_)|(refine .x (.it (zz:=(by first|exact xI oM|exact wI oM))) ?_)
  refine U3 ?_;refine .rt hK func167 results167 [_] ?_;exact fun H' hs=> ⟨hs.base,by simp[gF,c1,c2]⟩
theorem GM(x:UInt8)(t:Bool)(ht:low x=t):fA M 235 #[.int .u8 (x.toNat:Nat)] H (Ib H (.bool t)):=by
 rw[<-ht];unfold low;refine .en func235 ntmps235 fun St c cs hK=> ?_;by_cases c1:97<=x.toNat
 all_goals by_cases c2:x.toNat<=122
 all_goals try omega
 all_goals
  refine U7 ?_;refine .i ?_ (z:=by first|exact CH oM|exact mJ oM);refine U ?_;first|(refine .sk ?_)|(refine .m ?_)
  first|(refine .sk ?_)|(refine .x (.it (zz:=(by first|exact xI oM|exact wI oM))) ?_)
  refine U3 ?_;refine .rt hK func235 results235 [_] ?_;exact fun H' hs=> ⟨hs.base,by simp[gF,c1,c2]⟩
theorem rF(x:UInt8)(t:Bool)(ht:OC x=t):fA M 236 #[.int .u8 (x.toNat:Nat)] H (Ib H (.bool t)):=by
 have e:OC x=decide (48<=x.toNat/\x.toNat<=57):=by unfold OC;exact decide_eq_decide.2 oM
 rw[<-ht,e];refine .en func236 ntmps236 fun St c cs hK=> ?_;by_cases c1:48<=x.toNat
 all_goals by_cases c2:x.toNat<=57
 all_goals try omega
 all_goals
  refine U7 ?_;refine .i ?_ (z:=by first|exact CH oM|exact mJ oM);refine U ?_;first|(refine .sk ?_)|(refine .m ?_)
  first|(refine .sk ?_)|(refine .x (.it (zz:=(by first|exact xI oM|exact wI oM))) ?_)
  refine U3 ?_;refine .rt hK func236 results236 [_] ?_;exact fun H' hs=> ⟨hs.base,by simp[gF,c1,c2]⟩
theorem IJ(s p:By)(t:Bool)(ht:XA s p=t):fA M 237 #[bA s,bA p] H (Ib H (.bool t)):=by
 rw[<-ht];refine .en func237 ntmps237 fun St c cs hK=> ?_;by_cases c1:p.length<=s.length
 ·have e:XA s p=(s.take p.length==p):=by unfold XA;simp[c1]
  rw[e] at hK;refine AJ ?_;refine .x (pA.pD (E:=en) rfl rfl rfl rfl rfl rfl oM oM oM) ?_;refine U5 ?_;refine .rt hK func237 results237 [_] ?_;exact fun H' hs=> ⟨hs.base,by simp[gF]⟩
 ·have e:XA s p=false:=by unfold XA;simp[c1]
  rw[e] at hK;refine fN ?_;refine .rt hK func237 results237 [_] ?_;exact okB
theorem aAU {s:By}{j:Nat}{x:UInt8}(h:s[j]? =some x)(hx:OC x=false):s.all OC=false:=by
 rw[List.all_eq_false];exact⟨x,List.mem_of_getElem? h,by rw[hx];decide⟩
theorem yH(s:By)(hl:s.length<=1000000)(t:Bool)(ht:isNum s=t):fA M 165 #[bA s] H (Ib H (.bool t)):=by
 rw[<-ht];clear ht;refine .en func165 ntmps165 fun St c cs hK=> ?_;refine iD ?_;refine Tc.db (Tc.qA (σ:= { j:Nat//j<=s.length/\∀i x,i<j->s[i]? =some x->OC x=true }) (fun j=> ([(0,bA s),(3,.nt j.1)],[])) (fun j=> s.length-j.1) ?_ ⟨0,Nat.zero_le _,fun i x hi=> by omega⟩);rintro⟨j,hj,QA⟩ ih;dsimp only;by_cases c1:j=s.length
 ·have e:s.all OC=true:=List.all_eq_true.2 fun x hx=> by
   obtain⟨i,hi,rfl⟩:=List.mem_iff_getElem.1 hx;exact QA i _ oM (List.getElem?_eq_getElem hi)
  have e2:isNum s=decide (1<=((s.length:Nat):Int)/\((s.length:Nat):Int)<=3):=by
   unfold isNum;rw[e,Bool.and_true];exact decide_eq_decide.2 oM
  rw[e2] at hK;subst c1;refine MF ?_;refine .cl (fun H hs=> VH M H (s.length:Nat) 1 3 _ rfl) ?_;refine U2 ?_;refine .rt hK func165 results165 [_] ?_;exact okB
 ·have c2:j<s.length:=by omega
  obtain⟨x,hx⟩:∃x,s[j]? =some x:=⟨_,List.getElem?_eq_getElem c2⟩
  have f1:s[((j:Nat):Int).toNat]? =some x:=by rw[Int.toNat_natCast];exact hx
  cases hd:OC x with
  | true=>
   have:=of_decide_eq_true hd;refine U33 ?_;exact Tc.db (ih ⟨j+1,oM,fun i y hi hy=> by
    by_cases e:i=j
    ·subst e;rw[hx] at hy;cases hy;exact hd
    ·exact QA i y oM hy⟩ Ob)
  | false=>
   have e:isNum s=false:=by unfold isNum;rw[aAU hx hd];simp
   have mF:=of_decide_eq_false hd;rw[e] at hK;by_cases c3:x.toNat<48
   ·refine U30 ?_;refine .rt hK func165 results165 [_] ?_;exact okB
   ·have c4:57<x.toNat:=by omega
    refine U30 ?_;refine .rt hK func165 results165 [_] ?_;exact okB
theorem IG(s:By)(hl:s.length<=1000000)(t:Bool)(ht:yJ s=t):fA M 164 #[bA s] H (Ib H (.bool t)):=by
 rw[<-ht];clear ht;refine .en func164 ntmps164 fun St c cs hK=> ?_;refine iD ?_;refine Tc.db (Tc.qA (σ:= { j:Nat//j<=s.length/\∀i,i<j->fI s i=true }) (fun j=> ([(0,bA s),(3,.nt j.1)],[])) (fun j=> s.length-j.1) ?_ ⟨0,Nat.zero_le _,fun i hi=> by omega⟩);rintro⟨j,hj,QA⟩ ih;dsimp only;by_cases c1:j=s.length
 ·have e:SG (fI s) s.length=true:=(kD _).2 (by rw[<-c1];exact QA);have e2:yJ s=decide (1<=((s.length:Nat):Int)/\((s.length:Nat):Int)<=9):=by
   unfold yJ;rw[e,Bool.and_true];exact decide_eq_decide.2 oM
  rw[e2] at hK;subst c1;refine MF ?_;refine .cl (fun H hs=> VH M H (s.length:Nat) 1 9 _ rfl) ?_;refine U2 ?_;refine .rt hK func164 results164 [_] ?_;exact okB
 ·have c2:j<s.length:=by omega
  obtain⟨x,hx⟩:∃x,s[j]? =some x:=⟨_,List.getElem?_eq_getElem c2⟩
  have f1:s[((j:Nat):Int).toNat]? =some x:=by rw[Int.toNat_natCast];exact hx
  cases hlw:low x with
  | true=>
   have hn:fI s j=true:=by unfold fI;rw[hx];simp[hlw]
   refine II ?_;refine .cl (fun H hs=> GM M H x true hlw) ?_;refine U5 ?_;refine To.LA rfl dE rfl ?_;refine To.LA rfl dE rfl ?_;refine To.LA rfl dE rfl ?_;refine To.LA rfl dE rfl ?_;refine To.LA rfl dE rfl ?_;refine ND ?_;exact Tc.db (ih ⟨j+1,oM,fun i hi=> by by_cases e:i=j;exact e▸hn;exact QA i oM⟩ Ob)
  | false=>
   by_cases c3:j=0
   ·subst c3;have e:yJ s=false:=by unfold yJ;rw[TG c2 (by unfold fI;rw[hx];simp[hlw])];simp
    rw[e] at hK;refine II ?_;refine .cl (fun H hs=> GM M H x false hlw) ?_;refine fL ?_;refine .rt hK func164 results164 [_] ?_;exact okB
   ·have c4:(j:Int)≠0:=by omega
    cases hd:OC x with
    | true=>
     have hn:fI s j=true:=by unfold fI;rw[hx];simp[hd];omega
     refine II ?_;refine .cl (fun H hs=> GM M H x false hlw) ?_;refine U8 ?_;refine .cl (fun H hs=> rF M H x true hd) ?_;refine uH ?_;exact Tc.db (ih ⟨j+1,oM,fun i hi=> by by_cases e:i=j;exact e▸hn;exact QA i oM⟩ Ob)
    | false=>
     have e:yJ s=false:=by unfold yJ;rw[TG c2 (by unfold fI;rw[hx];simp[hlw,hd])];simp
     rw[e] at hK;refine II ?_;refine .cl (fun H hs=> GM M H x false hlw) ?_;refine U8 ?_;refine .cl (fun H hs=> rF M H x false hd) ?_;refine U9 ?_;refine .rt hK func164 results164 [_] ?_;exact okB
theorem tK(A:Option Addr)(n ac:Nat)(x:Nat->By)(hA:ZB H A n x)(hn:n<=100000000)(s:By):fA M 156 #[.slice A n ac,bA s] H (fun v H'=> H.le H'/\v=.int .i64 (sB (kA (fun j=> x j==s) n))):=by
 refine .en func156 ntmps156 fun St c cs hK=> ?_;refine iD ?_;refine Tc.db (Tc.qA (σ:= { j:Nat//j<=n/\kA (fun j=> x j==s) j=none }) (fun j=> ([(0,.slice A n ac),(1,bA s),(5,.nt j.1)],[])) (fun j=> n-j.1) ?_ ⟨0,Nat.zero_le _,rfl⟩);rintro⟨j,hj,gB⟩ ih;dsimp only;by_cases c1:j=n
 ·subst c1;rw[gB] at hK;refine MF ?_;refine .rt hK func156 results156 [_] ?_;exact okB
 ·have c2:j<n:=by omega
  obtain h0|⟨ab,ao,f,gs,gt,gz,rfl,hb,hl⟩:=hA
  ·omega
  have f1:=hl j c2;cases CG:x j==s with
  | true=>
   have f3:RL.LB .eql (x j) s=some (.bool true):=by rw[<-CG];rfl
   have e:kA (fun j=> x j==s) n=some j:=mB (j:=j+1) (by simp[kA,gB,CG]) _ oM;rw[e] at hK;refine U27 ?_;refine .rt hK func156 results156 [_] ?_;exact okB
  | false=>
   have f3:RL.LB .eql (x j) s=some (.bool false):=by rw[<-CG];rfl
   refine U29 ?_;exact Tc.db (ih ⟨j+1,oM,by simp[kA,gB,CG]⟩ Ob)
theorem kL(k:Bk)(A:Option Addr)(lc:Nat)(hA:YC H k A lc)(hn:k.nl<=1000)(s:By)(t:Bool)(ht:k.clash s=t):
  fA M 166 #[.slice A k.nl lc,bA s] H (Ib H (.bool t)):=by
 rw[<-ht];clear ht;refine .en func166 ntmps166 fun St c cs hK=> ?_;refine iD ?_;refine Tc.db (Tc.qA (σ:= { j:Nat//j<=k.nl/\kA (fun i=> ZC (k.num i) s) j=none }) (fun j=> ([(0,.slice A k.nl lc),(1,bA s),(5,.nt j.1)],[])) (fun j=> k.nl-j.1) ?_ ⟨0,Nat.zero_le _,rfl⟩);rintro⟨j,hj,gB⟩ ih;dsimp only;by_cases c1:j=k.nl
 ·have e:k.clash s=false:=by unfold Bk.clash;rw[<-c1,gB];rfl
  subst c1;rw[e] at hK;refine MF ?_;refine .rt hK func166 results166 [_] ?_;exact okB
 ·have c2:j<k.nl:=by omega
  obtain⟨_,h0|⟨ab,ao,f,gs,gt,gz,rfl,hb,hl⟩⟩:=hA
  ·omega
  obtain⟨F,fc,f1,_,_⟩:=hl j c2;have f2:zE false 1 gs (ao+((j:Nat):Int).toNat*3+1)=some (bA (k.num j)):=vI f1 dE;cases CG:ZC (k.num j) s with
  | true=>
   have e:k.clash s=true:=by
    unfold Bk.clash;rw[mB (j:=j+1) (x:=j) (by simp[kA,gB,CG]) _ oM];rfl
   rw[e] at hK;cases AV:XA s (k.num j) with
   | true=>
    refine eO ?_;refine .cl (fun H hs=> IJ M H s (k.num j) true AV) ?_;refine AJ ?_;refine .rt hK func166 results166 [_] ?_;exact okB
   | false=>
    have hb2:XA (k.num j) s=true:=by unfold ZC at CG;rw[AV,Bool.or_false] at CG;exact CG
    refine eO ?_;refine .cl (fun H hs=> IJ M H s (k.num j) false AV) ?_;refine U7 ?_;refine .cl (fun H hs=> IJ M H (k.num j) s true hb2) ?_;refine U7 ?_;refine .rt hK func166 results166 [_] ?_;exact okB
  | false=>
   have aFp:XA s (k.num j)=false/\XA (k.num j) s=false:=by unfold ZC at CG;rw[Bool.or_eq_false_iff] at CG;exact⟨CG.2,CG.1⟩
   refine eO ?_;refine .cl (fun H hs=> IJ M H s (k.num j) false aFp.1) ?_;refine U7 ?_;refine .cl (fun H hs=> IJ M H (k.num j) s false aFp.2) ?_;refine iD ?_;exact Tc.db (ih ⟨j+1,oM,by simp[kA,gB,CG]⟩ Ob)
theorem YL(a b p q:Int)(z:Int)(hz:(if vB a b p q then 0 else 1:Int)=z):fA M 84 #[bE a b p q] H (Ib H (.int .i64 z)):=by
 rw[<-hz];clear hz;by_cases c1:1<=a/\a<=b/\b<=12
 ·by_cases c2:b-a<4
  ·by_cases c3:0<=p/\p<=q/\q<=99
   ·have e:vB a b p q=true:=by unfold vB;simp[c1,c2,c3]
    rw[e];refine .en func84 ntmps84 fun St c cs hK=> ?_;refine U2 ?_;refine .bo fun b1=> ?_;refine U7 ?_;refine .cl (fun H hs=> oI M H a b 1 12 true (decide_eq_true c1)) ?_;refine MF ?_;refine .cl (fun H hs=> oI M H p q 0 99 true (decide_eq_true c3)) ?_;refine U9 ?_;refine .rt hK func84 results84 [_] ?_;exact okB
   ·have e:vB a b p q=false:=by unfold vB;simp[c3]
    rw[e];refine .en func84 ntmps84 fun St c cs hK=> ?_;refine U2 ?_;refine .bo fun b1=> ?_;refine U7 ?_;refine .cl (fun H hs=> oI M H a b 1 12 true (decide_eq_true c1)) ?_;refine MF ?_;refine .cl (fun H hs=> oI M H p q 0 99 false (decide_eq_false c3)) ?_;refine U8 ?_;refine .rt hK func84 results84 [_] ?_;exact okB
  ·have e:vB a b p q=false:=by unfold vB;simp[c2]
   rw[e];refine .en func84 ntmps84 fun St c cs hK=> ?_;refine U2 ?_;refine .bo fun b1=> ?_;refine U7 ?_;refine .cl (fun H hs=> oI M H a b 1 12 true (decide_eq_true c1)) ?_;refine s6 ?_;refine .rt hK func84 results84 [_] ?_;exact okB
 ·have e:vB a b p q=false:=by unfold vB;simp[c1]
  rw[e];refine .en func84 ntmps84 fun St c cs hK=> ?_;refine U2 ?_;refine .bo fun b1=> ?_;refine U7 ?_;refine .cl (fun H hs=> oI M H a b 1 12 false (decide_eq_false c1)) ?_;refine s6 ?_;refine .rt hK func84 results84 [_] ?_;exact okB
end
def Bk.DG(k:Bk)(j:Nat):List By:=(List.range j).map k.name
theorem YT(k:Bk)(j:Nat):k.DG (j+1)=k.DG j++[k.name j]:=by unfold Bk.DG;rw[List.range_succ,List.map_append];rfl
theorem lW(k:Bk)(j:Nat):(k.DG j).length=j:=by unfold Bk.DG;simp
theorem eM {p q:Nat->Bool}:∀n,(∀i,i<n->p i=q i)->kA p n=kA q n
 | 0,_=> rfl
 | n+1,h=> by rw[kA,kA,eM n (fun i hi=> h i oM),h n oM]
theorem mW(k:Bk)(j n:Nat)(hn:n=j)(s:By):kA (fun i=> (k.DG j)[i]?.getD []==s) n=kA (fun i=> k.name i==s) j:=by
 subst hn;refine eM _ fun i hi=> ?_;unfold Bk.DG;rw[List.getElem?_map,List.getElem?_eq_getElem (by simpa using hi)];simp
section
variable(M:Md prog)(H:View)
theorem kT (k:Bk)(A:Option Addr)(lc:Nat)(hA:YC H k A lc)(hn:k.nl<=1000)(FJ:∀i,i<k.nl->(k.name i).length<=1000000/\(k.num i).length<=1000000/\k.nf i<=1000):
  fA M 83 #[.slice A k.nl lc] H (Ib H (.int .i64 k.AE)):=by
 by_cases c1:6<k.nl
 ·have e:k.AE=2:=if_pos c1;rw[e];refine .en func83 ntmps83 fun St c cs hK=> ?_;refine LI ?_;refine .rt hK func83 results83 [_] ?_;exact okB
 ·have e : k.AE =JC k.sC k.nl:=if_neg c1;rw[e];clear e;refine .en func83 ntmps83 fun St c cs hK=> ?_;refine s6 ?_;refine Tc.db (Tc.qA (σ:= { x:Nat×Gl 9 1//x.1<=k.nl/\JC k.sC x.1=0/\x.2.l=zA (k.DG x.1) }) (fun x=> ([(0,.slice A k.nl lc),(3,x.1.2.val),(4,.nt x.1.1)],x.1.2.bl)) (fun x=> k.nl-x.1.1) ?_ ⟨(0,Gl.nil 9 1),Nat.zero_le _,rfl,rfl⟩);rintro⟨⟨j,g⟩,hj,gB,JE⟩ ih;simp only at hj gB JE;dsimp only;have XC:g.n=j:=by
   have:=g.hl;rw[JE,VB,lW] at this;omega
  by_cases c2:j=k.nl
  ·subst c2;rw[gB] at hK;refine MF ?_;refine .rt hK func83 results83 [_] ?_;exact okB
  ·have c3 : j < k.nl:=by omega
   have hA':=hA;obtain⟨Y7,h0|⟨ab,ao,f,gs,gt,gz,rfl,hb,hl⟩⟩:=hA
   ·omega
   obtain⟨F,fc,f1,_,hF⟩:=hl j c3;obtain⟨s0,s1,s2⟩:=FJ j c3;have f20:zE false 1 gs (ao+((j:Nat):Int).toNat*3+0)=some (bA (k.name j)):=vI f1 dE;have f21:zE false 1 gs (ao+((j:Nat):Int).toNat*3+1)=some (bA (k.num j)):=vI f1 dE;have f22:zE false 1 gs (ao+((j:Nat):Int).toNat*3+2)=some (.slice F (k.nf j) fc):=vI f1 dE;have KZ:YC H (k.pre j) (some ⟨ab,ao,none⟩) lc:=hA'.pre hj;have ZW:=fun(H':View) (hg:∀x∈g.bl,H' x.1=some x.2)=> tK M H' (g.blk.map fun b=> ⟨b,0,none⟩) g.n g.cap (fun i=> (k.DG j)[i]?.getD []) (HK g hg JE rfl rfl) oM (k.name j);rw[mW k j g.n XC] at ZW;cases q0:yJ (k.name j) with
   | false=>
    have eA:k.sC j=4:=by unfold Bk.sC;simp only[q0];simp
    rw[GC gB eA dE c3] at hK;refine eO ?_;refine .cl (fun H hs=> IG M H (k.name j) s0 _ q0) ?_;refine U7 ?_;refine .rt hK func83 results83 [_] ?_;exact okB
   | true=>
    cases q1:k.again j with
    | true=>
     obtain⟨i0,T7⟩:∃i,kA (fun i=> k.name i==k.name j) j=some i:=Option.isSome_iff_exists.1 q1;rw[T7] at ZW;have ZW:=fun(H':View) (hg:∀x∈g.bl,H' x.1=some x.2)=> E8 (w':=.int .i64 (i0:Nat)) (ZW H' hg) rfl;have eA:k.sC j=5:=by unfold Bk.sC;simp only[q0,q1];simp
     rw[GC gB eA dE c3] at hK;refine eO ?_;refine .cl (fun H hs=> IG M H (k.name j) s0 _ q0) ?_;refine JG ?_;refine .cl (fun H hs=> ZW H (fun x hx=> hs.at_ x hx)) ?_;refine U7 ?_;refine .rt hK func83 results83 [_] ?_;exact okB
    | false =>
     have T7:kA (fun i=> k.name i==k.name j) j=none:=Option.isNone_iff_eq_none.1 (by have:=q1;unfold Bk.again at this;rw[<-Option.not_isSome,this];rfl);rw[T7] at ZW;have ZW:=fun(H':View) (hg:∀x∈g.bl,H' x.1=some x.2)=> E8 (w':=.int .i64 (-1)) (ZW H' hg) rfl;cases q2:isNum (k.num j) with
     | false=>
      have eA:k.sC j=3:=by unfold Bk.sC;simp only[q0,q1,q2];simp
      rw[GC gB eA dE c3] at hK;refine eO ?_;refine .cl (fun H hs=> IG M H (k.name j) s0 _ q0) ?_;refine JG ?_;refine .cl (fun H hs=> ZW H (fun x hx=> hs.at_ x hx)) ?_;refine uH ?_;refine .e (.bs (zz:=fun bs=> ?_));refine .e (Or.append (E:=en) (g:=g) (m:=1) (new:= [bA (k.name j)]) (yv:=.slice (some ⟨bs,0,none⟩) 1 1) 1 rfl rfl rfl rfl rfl rfl rfl rfl rfl rfl rfl rfl rfl rfl rfl (fun H hs=> RA.of (hs.get (i:=0) rfl) Nb) rfl oM rfl dE (fun g2 dI LG=> ?_));refine iD ?_;refine .cl (fun H hs=> yH M H (k.num j) s1 _ q2) ?_;refine U7 ?_;refine .rt hK func83 results83 [_] ?_;exact okB
     | true=>
      cases q3:(k.pre j).clash (k.num j) with
      | true=>
       have eA:k.sC j=10:=by unfold Bk.sC;simp only[q0,q1,q2,q3];simp
       rw[GC gB eA dE c3] at hK;refine eO ?_;refine .cl (fun H hs=> IG M H (k.name j) s0 _ q0) ?_;refine JG ?_;refine .cl (fun H hs=> ZW H (fun x hx=> hs.at_ x hx)) ?_;refine uH ?_;refine .e (.bs (zz:=fun bs=> ?_));refine .e (Or.append (E:=en) (g:=g) (m:=1) (new:= [bA (k.name j)]) (yv:=.slice (some ⟨bs,0,none⟩) 1 1) 1 rfl rfl rfl rfl rfl rfl rfl rfl rfl rfl rfl rfl rfl rfl rfl (fun H hs=> RA.of (hs.get (i:=0) rfl) Nb) rfl oM rfl dE (fun g2 dI LG=> ?_));refine iD ?_;refine .cl (fun H hs=> yH M H (k.num j) s1 _ q2) ?_;refine U6 ?_;refine Tc.dr [] [] mixed rfl ?_;refine V2 0 ?_;refine .q 2 rfl (pA.sliceTo (E:=en) (k:=j) rfl rfl rfl rfl rfl rfl oM oM) ?_;refine V5 3 ?_;refine .z 8 rfl (pA.tk fun H hs=> kL M H (k.pre j) (some ⟨ab,ao,none⟩) lc (KZ.le hs.base) (by show j<=1000;omega) (k.num j) _ q3) ?_;refine .dn ?_;refine U5 ?_;refine .rt hK func83 results83 [_] ?_;exact okB
      | false =>
       cases q4:decide (1<=((k.nf j:Nat):Int)/\((k.nf j:Nat):Int)<=4) with
       | false=>
        have eA:k.sC j=2:=by unfold Bk.sC;simp only[q0,q1,q2,q3,q4];simp
        rw[GC gB eA dE c3] at hK;refine eO ?_;refine .cl (fun H hs=> IG M H (k.name j) s0 _ q0) ?_;refine JG ?_;refine .cl (fun H hs=> ZW H (fun x hx=> hs.at_ x hx)) ?_;refine uH ?_;refine .e (.bs (zz:=fun bs=> ?_));refine .e (Or.append (E:=en) (g:=g) (m:=1) (new:= [bA (k.name j)]) (yv:=.slice (some ⟨bs,0,none⟩) 1 1) 1 rfl rfl rfl rfl rfl rfl rfl rfl rfl rfl rfl rfl rfl rfl rfl (fun H hs=> RA.of (hs.get (i:=0) rfl) Nb) rfl oM rfl dE (fun g2 dI LG=> ?_));refine iD ?_;refine .cl (fun H hs=> yH M H (k.num j) s1 _ q2) ?_;refine U6 ?_;refine Tc.dr [] [] mixed rfl ?_;refine V2 0 ?_;refine .q 2 rfl (pA.sliceTo (E:=en) (k:=j) rfl rfl rfl rfl rfl rfl oM oM) ?_;refine V5 3 ?_;refine .z 8 rfl (pA.tk fun H hs=> kL M H (k.pre j) (some ⟨ab,ao,none⟩) lc (KZ.le hs.base) (by show j<=1000;omega) (k.num j) _ q3) ?_;refine .dn ?_;refine ND ?_;refine .cl (fun H hs=> VH M H ((k.nf j:Nat):Int) 1 4 _ q4) ?_;refine U7 ?_;refine .rt hK func83 results83 [_] ?_;exact okB
       | true=>
        refine eO ?_;refine .cl (fun H hs=> IG M H (k.name j) s0 _ q0) ?_;refine JG ?_;refine .cl (fun H hs=> ZW H (fun x hx=> hs.at_ x hx)) ?_;refine uH ?_;refine .e (.bs (zz:=fun bs=> ?_));refine .e (Or.append (E:=en) (g:=g) (m:=1) (new:= [bA (k.name j)]) (yv:=.slice (some ⟨bs,0,none⟩) 1 1) 1 rfl rfl rfl rfl rfl rfl rfl rfl rfl rfl rfl rfl rfl rfl rfl (fun H hs=> RA.of (hs.get (i:=0) rfl) Nb) rfl oM rfl dE (fun g2 dI LG=> ?_));refine iD ?_;refine .cl (fun H hs=> yH M H (k.num j) s1 _ q2) ?_;refine U6 ?_;refine Tc.dr [] [] mixed rfl ?_;refine V2 0 ?_;refine .q 2 rfl (pA.sliceTo (E:=en) (k:=j) rfl rfl rfl rfl rfl rfl oM oM) ?_;refine V5 3 ?_;refine .z 8 rfl (pA.tk fun H hs=> kL M H (k.pre j) (some ⟨ab,ao,none⟩) lc (KZ.le hs.base) (by show j<=1000;omega) (k.num j) _ q3) ?_;refine .dn ?_;refine ND ?_;refine .cl (fun H hs=> VH M H ((k.nf j:Nat):Int) 1 4 _ q4) ?_;refine U9 ?_;refine Tc.db (Tc.qA (σ:= { i:Nat//i<=k.nf j/\kA (fun i=> !gE (k.free j i)) i=none }) (fun i=> ([(0,.slice (some ⟨ab,ao,none⟩) k.nl lc),(3,g2.val),(4,.nt j),(5,.nt i.1)],g2.bl)) (fun i=> k.nf j-i.1) ?_ ⟨0,Nat.zero_le _,rfl⟩);rintro⟨i,hi,BR⟩ ih2;show Tc M St _ _ _ _ [(0,.slice (some ⟨ab,ao,none⟩) k.nl lc),(3,g2.val),(4,.nt j),(5,.nt i)] g2.bl _ _;by_cases d1:i=k.nf j
        ·have eA:k.sC j=0:=by
          have q5:k.SI j=false:=by unfold Bk.SI;rw[<-d1,BR];rfl
          unfold Bk.sC;simp only[q0,q1,q2,q3,q4,q5];simp
         clear ih2 BR;subst d1;refine eO ?_;exact Tc.db (ih ⟨(j+1,g2),by simp only;omega,by simp only;rw[JC,if_pos gB];exact eA,by simp only;rw[YT,eC,LG,JE];rfl⟩ Ob)
        ·have d2:i<k.nf j:=by omega
         obtain h0|⟨fb,fo,ff,fgs,fgt,fgz,rfl,hfb,kS⟩:=hF
         ·omega
         have f3:=kS i d2;cases q5:gE (k.free j i) with
         | true=>
          refine U26 ?_;refine .cl (fun H hs=> LR M H (k.free j i) _ q5) ?_;refine iD ?_;exact Tc.db (ih2 ⟨i+1,oM,by simp[kA,BR,q5]⟩ Ob)
         | false=>
          have q6:k.SI j=true:=by
           unfold Bk.SI;rw[mB (j:=i+1) (x:=i) (by simp[kA,BR,q5]) _ oM];rfl
          have eA:k.sC j=1:=by unfold Bk.sC;simp only[q0,q1,q2,q3,q4,q6];simp
          rw[GC gB eA dE c3] at hK;refine U26 ?_;refine .cl (fun H hs=> LR M H (k.free j i) _ q5) ?_;refine U7 ?_;refine .rt hK func83 results83 [_] ?_;exact okB
end
def Bk.wide(k:Bk)(i:Nat):Bool:=decide (100<(k.name i).length)||decide (100<(k.num i).length)||decide (20<k.nf i)
def Bk.PJ(k:Bk):Bool:=decide (20<k.nl)||decide (20<k.nt)||(kA k.wide k.nl).isSome
theorem Bk.O0 {k:Bk}(h:k.PJ=false):k.nl<=20/\k.nt<=20/\∀i,i<k.nl->(k.name i).length<=100/\(k.num i).length<=100/\k.nf i<=20:=by
 unfold Bk.PJ at h;rw[Bool.or_eq_false_iff,Bool.or_eq_false_iff] at h;have h1:=of_decide_eq_false h.1.1;have h2:=of_decide_eq_false h.1.2;refine⟨oM,oM,fun i hi=> ?_⟩;have h3:k.wide i=false:=(RB _).1 (by rw[<-Option.not_isSome_iff_eq_none,h.2];decide) i hi;unfold Bk.wide at h3;rw[Bool.or_eq_false_iff,Bool.or_eq_false_iff] at h3;have h4:=of_decide_eq_false h3.1.1;have h5:=of_decide_eq_false h3.1.2;have h6:=of_decide_eq_false h3.2;omega
theorem Bk.HR {k:Bk}(h:k.PJ=false):k.small:=by
 obtain⟨h1,h2,h3⟩:=Bk.O0 h;exact⟨oM,oM,fun i hi=> by have:=h3 i hi;omega⟩
section
variable(M:Md prog)(H:View)
theorem lH(k:Bk)(A:Option Addr)(lc:Nat)(B:Option Addr)(tc:Nat)(hk:QD H k A lc B tc)(hn:k.small)(j5:∀i,i<k.nl->(k.name i).length<=1000000):
  fA M 29 #[k.val A lc B tc] H (Ib H (.int .i64 k.WA)):=by
 have HT:=fun(H':View) (h':H.le H')=> kT M H' k A lc (hk.le h').rows hn.nl (fun i hi=> ⟨j5 i hi,hn.num i hi⟩);have hng:=hn.nt;by_cases c1:1<=k.aD/\k.aD<=99
 ·by_cases c2:k.aD+1<=k.yB/\k.yB<=99
  ·have e:k.WA=if k.AE=0 then k.yD else k.AE:=by unfold Bk.WA;rw[if_pos (by unfold Bk.oE;rw[if_pos ⟨c1,c2⟩])]
   rw[e];clear e;by_cases c3:k.AE=0
   ·rw[if_pos c3];rw[c3] at HT;by_cases c4:6<k.nt
    ·have e:k.yD=2:=by unfold Bk.yD;rw[if_pos c4]
     rw[e];refine .en func29 ntmps29 fun St c cs hK=> ?_;refine U2 ?_;refine .bo fun b1=> ?_;refine U7 ?_;refine .cl (fun H hs=> VH M H k.aD 1 99 true (decide_eq_true c1)) ?_;refine U7 ?_;refine .cl (fun H hs=> VH M H k.yB (k.aD+1) 99 true (decide_eq_true c2)) ?_;refine iD ?_;refine .cl (fun H hs=> HT H hs.base) ?_;refine o6 ?_;refine .rt hK func29 results29 [_] ?_;exact okB
    ·have e:k.yD=if(kA k.NC k.nt).isSome then 1 else 0:=by unfold Bk.yD;rw[if_neg c4]
     rw[e];clear e;refine .en func29 ntmps29 fun St c cs hK=> ?_;refine U2 ?_;refine .bo fun b1=> ?_;refine U7 ?_;refine .cl (fun H hs=> VH M H k.aD 1 99 true (decide_eq_true c1)) ?_;refine U7 ?_;refine .cl (fun H hs=> VH M H k.yB (k.aD+1) 99 true (decide_eq_true c2)) ?_;refine iD ?_;refine .cl (fun H hs=> HT H hs.base) ?_;refine U25 ?_;refine Tc.db (Tc.qA (σ:= { i:Nat//i<=k.nt/\kA k.NC i=none }) (fun i=> ([(1,.pt b1),(4,.nt i.1)],[Bb b1 ((k.val A lc B tc).cells.toList) 45])) (fun i=> k.nt-i.1) ?_ ⟨0,Nat.zero_le _,rfl⟩);rintro⟨i,hi,gB⟩ ih;dsimp only;by_cases c5:i=k.nt
     ·clear ih;subst c5;rw[gB] at hK;refine AJ ?_;refine .rt hK func29 results29 [_] ?_;exact okB
     ·have c6:i<k.nt:=by omega
      obtain⟨_,u5,h0|⟨tb,to,f,gs,gt,gz,rfl,hb,hl⟩⟩:=hk
      ·omega
      have f1:=hl i c6;cases q:vB (k.pf i) (k.pt i) (k.qf i) (k.qt i) with
      | true=>
       refine eO ?_;refine .cl (fun H hs=> YL M H (k.pf i) (k.pt i) (k.qf i) (k.qt i) 0 (by rw[q];rfl)) ?_;refine AJ ?_;exact Tc.db (ih ⟨i+1,oM,by simp[kA,gB,Bk.NC,q]⟩ Ob)
      | false=>
       rw[mB (j:=i+1) (x:=i) (by simp[kA,gB,Bk.NC,q]) _ oM] at hK;refine eO ?_;refine .cl (fun H hs=> YL M H (k.pf i) (k.pt i) (k.qf i) (k.qt i) 1 (by rw[q];rfl)) ?_;refine JG ?_;refine .rt hK func29 results29 [_] ?_;exact okB
   ·rw[if_neg c3];refine .en func29 ntmps29 fun St c cs hK=> ?_;refine U2 ?_;refine .bo fun b1=> ?_;refine U7 ?_;refine .cl (fun H hs=> VH M H k.aD 1 99 true (decide_eq_true c1)) ?_;refine U7 ?_;refine .cl (fun H hs=> VH M H k.yB (k.aD+1) 99 true (decide_eq_true c2)) ?_;refine iD ?_;refine .cl (fun H hs=> HT H hs.base) ?_;refine JG ?_;refine .rt hK func29 results29 [_] ?_;exact okB
  ·have e:k.WA=1:=by unfold Bk.WA Bk.oE;simp[c2]
   rw[e];refine .en func29 ntmps29 fun St c cs hK=> ?_;refine U2 ?_;refine .bo fun b1=> ?_;refine U7 ?_;refine .cl (fun H hs=> VH M H k.aD 1 99 true (decide_eq_true c1)) ?_;refine U7 ?_;refine .cl (fun H hs=> VH M H k.yB (k.aD+1) 99 false (decide_eq_false c2)) ?_;refine U8 ?_;refine .rt hK func29 results29 [_] ?_;exact okB
 ·have e:k.WA=1:=by unfold Bk.WA Bk.oE;simp[c1]
  rw[e];refine .en func29 ntmps29 fun St c cs hK=> ?_;refine U2 ?_;refine .bo fun b1=> ?_;refine U7 ?_;refine .cl (fun H hs=> VH M H k.aD 1 99 false (decide_eq_false c1)) ?_;refine LI ?_;refine .rt hK func29 results29 [_] ?_;exact okB
theorem aAs(a num:By)(F:Option Addr)(n fc:Nat)(t:Bool)(ht:(decide (100<a.length)||decide (100<num.length)||decide (20<n))=t):
  fA M 89 #[WK a num F n fc] H (Ib H (.bool t)):=by
 rw[<-ht];refine .en func89 ntmps89 fun St c cs hK=> ?_;by_cases c1:100<a.length
 all_goals by_cases c2:100<num.length
 all_goals by_cases c3:20<n
 all_goals
  refine U2 ?_;refine .bo fun b1=> ?_;refine U7 ?_;refine .i ?_ (z:=by first|exact tG oM|exact sG oM);refine U ?_;first|(refine .sk ?_)|(refine .x .fa ?_)
  first|(refine .sk ?_)|((refine .x (.ld 0) ?_))
  first|(refine .sk ?_)|(refine .x (pA.aFM (E:=en) rfl rfl rfl rfl rfl rfl rfl) ?_)
  first|(refine .sk ?_)|(refine .x (.it (zz:=(by first|exact tG oM|exact sG oM))) ?_)
  refine U2 ?_;first|(refine .sk ?_)|(refine .x .fa ?_)
  first|(refine .sk ?_)|((refine .x (.ld 0) ?_))
  first|(refine .sk ?_)|(refine .x .ln ?_)
  first|(refine .sk ?_)|(refine .x (.it (zz:=(by first|exact tG oM|exact sG oM))) ?_)
  refine U3 ?_;refine .rt hK func89 results89 [_] ?_;exact fun H' hs=> ⟨hs.base,by simp[gF,c1,c2,c3]⟩
theorem aAE(k:Bk)(A:Option Addr)(lc:Nat)(B:Option Addr)(tc:Nat)(hA:YC H k A lc):
  fA M 31 #[k.val A lc B tc] H (Ib H (.bool k.PJ)):=by
 by_cases c1:20<k.nl
 ·have e:k.PJ=true:=by unfold Bk.PJ;simp[c1]
  rw[e];refine .en func31 ntmps31 fun St c cs hK=> ?_;refine U2 ?_;refine .bo fun b1=> ?_;refine fN ?_;refine .rt hK func31 results31 [_] ?_;exact okB
 ·by_cases c2:20<k.nt
  ·have e:k.PJ=true:=by unfold Bk.PJ;simp[c2]
   rw[e];refine .en func31 ntmps31 fun St c cs hK=> ?_;refine U2 ?_;refine .bo fun b1=> ?_;refine fN ?_;refine .rt hK func31 results31 [_] ?_;exact okB
  ·have e:k.PJ=(kA k.wide k.nl).isSome:=by unfold Bk.PJ;simp[c1,c2]
   rw[e];clear e;refine .en func31 ntmps31 fun St c cs hK=> ?_;refine U2 ?_;refine .bo fun b1=> ?_;refine PO ?_;refine Tc.db (Tc.qA (σ:= { i:Nat//i<=k.nl/\kA k.wide i=none }) (fun i=> ([(1,.pt b1),(3,.nt i.1)],[Bb b1 ((k.val A lc B tc).cells.toList) 45])) (fun i=> k.nl-i.1) ?_ ⟨0,Nat.zero_le _,rfl⟩);rintro⟨i,hi,gB⟩ ih;dsimp only;by_cases c5:i=k.nl
   ·clear ih;subst c5;rw[gB] at hK;refine AJ ?_;refine .rt hK func31 results31 [_] ?_;exact okB
   ·have c6:i<k.nl:=by omega
    obtain⟨Y7,h0|⟨ab,ao,f,gs,gt,gz,rfl,hb,hl⟩⟩:=hA
    ·omega
    obtain⟨F,fc,f1,_,_⟩:=hl i c6;cases q:k.wide i with
    | true=>
     rw[mB (j:=i+1) (x:=i) (by simp[kA,gB,q]) _ oM] at hK;refine eO ?_;refine .cl (fun H hs=> aAs M H (k.name i) (k.num i) F (k.nf i) fc true q) ?_;refine U6 ?_;refine .rt hK func31 results31 [_] ?_;exact okB
    | false=>
     refine eO ?_;refine .cl (fun H hs=> aAs M H (k.name i) (k.num i) F (k.nf i) fc false q) ?_;refine U9 ?_;exact Tc.db (ih ⟨i+1,oM,by simp[kA,gB,q]⟩ Ob)
end
section
variable(M:Md prog)(H:View)
end
set_option maxHeartbeats 16000000
section
variable(M:Md prog)(H:View)
theorem NR(A B:Option Addr)(n ac bc:Nat)(x y:Nat->Int)(hA:PB H A n x)(hB:PB H B n y)(hn:n<=1000000)(he:∀i,i<n->x i=y i):
  fA M 148 #[.slice A n ac,.slice B n bc] H (Ib H (.bool false)):=by
 refine .en func148 ntmps148 fun St c cs hK=> ?_;refine iD ?_;refine Tc.db (Tc.qA (σ:= { j:Nat//j<=n }) (fun j=> ([(0,.slice A n ac),(1,.slice B n bc),(5,.nt j.1)],[])) (fun j=> n-j.1) ?_ ⟨0,Nat.zero_le _⟩);rintro⟨j,hj⟩ ih;dsimp only;by_cases c1:j=n
 ·subst c1;refine U25 ?_;refine .rt hK func148 results148 [_] ?_;exact okB
 ·have c2:j<n:=by omega
  obtain h0|⟨ab,ao,fa,gs,gt,gz,rfl,AR,W4⟩:=hA
  ·omega
  obtain h0|⟨bb,bo,fb,ks,kt,kz,rfl,BJ,vJ⟩:=hB
  ·omega
  have f1:=W4 j c2;have f2:=vJ j c2;have f3:=he j c2;refine XU ?_;refine Tc.dr [] [] mixed rfl ?_;refine V9 0 ?_;refine .dn ?_;refine U8 ?_;exact Tc.db (ih ⟨j+1,oM⟩ Ob)
theorem VU(A B:Option Addr)(n ac bc:Nat)(x y:Nat->Int)(hA:PB H A n x)(hB:PB H B n y)(hn:n<=1000000)(he:∀i,i<n->x i=y i):
  fA M 61 #[.slice A n ac,.slice B n bc] H (Ib H (.bool true)):=by
 refine .en func61 ntmps61 fun St c cs hK=> ?_;refine U8 ?_;refine .cl (fun H hs=> NR M H A B n ac bc x y (hA.le hs.base) (hB.le hs.base) hn he) ?_;refine U4 ?_;refine .cl (fun H hs=> NR M H B A n bc ac y x (hB.le hs.base) (hA.le hs.base) hn (fun i hi=> (he i hi).symm)) ?_;refine U4 ?_;refine .rt hK func61 results61 [_] ?_;exact okB
theorem J4(a b:Int):fA M 46 #[.iz a,.iz b] H (Ib H (SC a b)):=by
 refine .en func46 ntmps46 fun St c cs hK=> ?_;refine U2 ?_;refine .al fun b4=> ?_;refine U8 ?_;refine .rt hK func46 results46 [_] ?_;exact okB
theorem wP(p q:Int):fA M 14 #[.iz p,.iz q] H (Ib H (bE p p q q)):=by
 refine .en func14 ntmps14 fun St c cs hK=> ?_;refine U2 ?_;refine .al fun b4=> ?_;refine U5 ?_;refine .cl (fun H hs=> J4 M H p p) ?_;refine U2 ?_;refine .cl (fun H hs=> J4 M H q q) ?_;refine U3 ?_;refine .rt hK func14 results14 [_] ?_;exact okB
end
def EX(i:Nat):By:= [[97,110,110],[98,111,98],[101,118,101]][i]?.getD []
def DZ(i:Nat):By:= [[49,50],[49,51],[50]][i]?.getD []
def Q1(i:Nat):Nat:= [1,2,1][i]?.getD 0
def DX(i j:Nat):Int:=([[1],[2,1],[0]][i]?.getD [])[j]?.getD 0
def FC(l:List Int)(i:Nat):Int:=l[i]?.getD 0
def RE:Bk:=⟨5,20,3,EX,DZ,Q1,DX,2,FC [1,2],FC [1,3],FC [8,6],FC [8,6]⟩
def aG:Bk:=⟨5,20,3,EX,DZ,Q1,DX,3,FC [1,1,2],FC [1,1,2],FC [3,9,9],FC [6,9,9]⟩
def fT:Bk:=RE.now 1 2 2 6 6
def exF(b0 b1 b2:Nat)(i:Nat):Option Addr:=match i with
 | 0=> some ⟨b0,0,none⟩
 | 1=> some ⟨b1,0,none⟩
 | _=> some ⟨b2,0,none⟩
structure PL(H:View)(bl b0 b1 b2:Nat):Prop where
 h:∃f gt gz,H bl=some (f,.cells ⟨[bA [97,110,110],bA [49,50],.sl b0 1 1,bA [98,111,98],bA [49,51],.sl b1 2 2,bA [101,118,101],bA [50],.sl b2 1 1]⟩ gt gz)
 h0:∃f gt gz,H b0=some (f,.cells ⟨[.iz 1]⟩ gt gz)
 h1:∃f gt gz,H b1=some (f,.cells ⟨[.iz 2,.iz 1]⟩ gt gz)
 h2:∃f gt gz,H b2=some (f,.cells ⟨[.iz 0]⟩ gt gz)
theorem PL.le {H H':View}{bl b0 b1 b2:Nat}(h:PL H bl b0 b1 b2)(k:H.le H'):PL H' bl b0 b1 b2:=
 ⟨h.h.imp fun _ ⟨gt,gz,e⟩=> ⟨gt,gz,k _ _ e⟩,h.h0.imp fun _ ⟨gt,gz,e⟩=> ⟨gt,gz,k _ _ e⟩,h.h1.imp fun _ ⟨gt,gz,e⟩=> ⟨gt,gz,k _ _ e⟩,h.h2.imp fun _ ⟨gt,gz,e⟩=> ⟨gt,gz,k _ _ e⟩⟩
theorem wF {H:View}{sz m c b:Nat}{f:Bool}{cs:List Value}{e:TypeId}{fz:Nat×Nat}(hb:H b=some (f,.cells ⟨cs⟩ e fz))(h:cs.length=m*sz):RA H sz (.slice (some ⟨b,0,none⟩) m c) m cs:=
 ⟨⟨_,_,rfl⟩,h,.inr ⟨b,0,c,f,cs,e,fz,rfl,hb,by simp,by simp⟩⟩
theorem EZ {H:View}{k:Bk}{bl b0 b1 b2 bt:Nat}(hl:PL H bl b0 b1 b2)(hn:k.nl=3)(KV:k.name=EX)(pL:k.num=DZ)(J2:k.nf=Q1)(lP:k.free=DX){f:Bool}{gt:TypeId}{gz:Nat×Nat}(ht:H bt=some (f,.cells ⟨KA k.nt (uB k)⟩ gt gz)):
  JB H k (some ⟨bl,0,none⟩) 3 (some ⟨bt,0,none⟩) k.nt (exF b0 b1 b2) Q1:=by
 obtain⟨⟨f1,t1,z1,g1⟩,⟨f2,t2,z2,g2⟩,⟨f3,t3,z3,g3⟩,⟨f4,t4,z4,g4⟩⟩:=hl;refine⟨oM,Nat.le_refl _,?_,wF ht (mD (f:=uB k) (sz:=4) (fun _=> rfl) k.nt),fun i hi=> by rw[J2];exact Nat.le_refl _,fun i hi=> ?_⟩
 ·rw[hn];have e:KA 3 (uF k (exF b0 b1 b2) Q1)= [bA [97,110,110],bA [49,50],.sl b0 1 1,bA [98,111,98],bA [49,51],.sl b1 2 2,bA [101,118,101],bA [50],.sl b2 1 1]:=by
   unfold uF;rw[KV,pL,J2];rfl
  rw[e];exact wF g1 rfl
 ·rw[hn] at hi;rw[J2,lP];rcases(by omega:i=0\/i=1\/i=2) with rfl|rfl|rfl
  ·exact wF g2 rfl
  ·exact wF g3 rfl
  ·exact wF g4 rfl
section
variable(M:Md prog)(H:View)
theorem dW:fA M 118 #[] H (fun v H'=> H.le H'/\∃bl b0 b1 b2,v=.slice (some ⟨bl,0,none⟩) 3 3/\PL H' bl b0 b1 b2):=by
 refine .en func118 ntmps118 fun St c cs hK=> ?_;refine U6 ?_;refine .e (.bs (zz:=fun b0=> ?_));refine U ?_;refine .e (.bs (zz:=fun b1=> ?_));refine U ?_;refine .e (.bs (zz:=fun b2=> ?_));refine U ?_;refine .e (.bs (zz:=fun bl=> ?_));refine U2 ?_;refine .rt hK func118 results118 [_] ?_;exact fun H' hs=> ⟨hs.base,bl,b0,b1,b2,rfl,⟨_,_,_,hs.get (i:=0) rfl⟩,⟨_,_,_,hs.get (i:=3) rfl⟩,⟨_,_,_,hs.get (i:=2) rfl⟩,⟨_,_,_,hs.get (i:=1) rfl⟩⟩
theorem T0:fA M 47 #[] H (fun v H'=> H.le H'/\∃A lc B tc F fc,v=RE.val A lc B tc/\JB H' RE A lc B tc F fc):=by
 refine .en func47 ntmps47 fun St c cs hK=> ?_;refine U2 ?_;refine .al fun b0=> ?_;refine U3 ?_;refine To.YB rfl rfl rfl rfl rfl rfl dE (WB.h (dW M H)) (fun v H₁ hv=> ?_);obtain⟨hle,bl,c0,c1,c2,rfl,hl⟩:=hv;refine .cl (fun H hs=> wP M H 1 8) ?_;refine .cl (fun H hs=> J4 M H 2 3) ?_;refine .cl (fun H hs=> J4 M H 6 6) ?_;refine U ?_;refine .e (.bs (zz:=fun bt=> ?_));refine U3 ?_;refine .rt hK func47 results47 [_] ?_;exact fun H' hs=> ⟨View.le_trans hle hs.base,_,_,some ⟨bt,0,none⟩,_,_,_,rfl,EZ (hl.le hs.base) rfl rfl rfl rfl rfl (hs.get (i:=0) rfl)⟩
theorem J8:fA M 48 #[] H (fun v H'=> H.le H'/\∃A lc B tc F fc,v=aG.val A lc B tc/\JB H' aG A lc B tc F fc):=by
 refine .en func48 ntmps48 fun St c cs hK=> ?_;refine U2 ?_;refine .al fun b0=> ?_;refine U3 ?_;refine To.YB rfl rfl rfl rfl rfl rfl dE (WB.h (dW M H)) (fun v H₁ hv=> ?_);obtain⟨hle,bl,c0,c1,c2,rfl,hl⟩:=hv;refine .cl (fun H hs=> J4 M H 1 1) ?_;refine .cl (fun H hs=> J4 M H 3 6) ?_;refine U ?_;refine .cl (fun H hs=> wP M H 1 9) ?_;refine .cl (fun H hs=> wP M H 2 9) ?_;refine .e (.bs (zz:=fun bt=> ?_));refine U3 ?_;refine .rt hK func48 results48 [_] ?_;exact fun H' hs=> ⟨View.le_trans hle hs.base,_,_,some ⟨bt,0,none⟩,_,_,_,rfl,EZ (hl.le hs.base) rfl rfl rfl rfl rfl (hs.get (i:=0) rfl)⟩
end
theorem UG:RE.WA=0:=by decide +kernel
theorem eT:aG.WA=0:=by decide +kernel
theorem aCz:fT.WA=0:=by decide +kernel
theorem QP {k:Bk}(hn:k.nl=3)(ht:k.nt<=1000)(pL:k.num=DZ)(J2:k.nf=Q1):k.small:=⟨oM,ht,fun i hi=> by
 rw[hn] at hi;rw[pL,J2];rcases(by omega:i=0\/i=1\/i=2) with rfl|rfl|rfl <;> decide⟩
end Go.Proofs.YtldmfjcgjdchcaaGreatDoor
namespace Go.Proofs.YtldmfjcgjdchcaaGreatDoor
open Go.RL Go.Proofs.Tryz Go.Conc
set_option maxRecDepth 10000
theorem aGD:mI prog 198 (Extern.Race.marked .releaseMerge):=⟨Tryz.f198,func198,by kernel_rfl,by kernel_rfl,by kernel_rfl,by kernel_rfl⟩
theorem aCL:mI prog 199 aBa:=⟨Tryz.f199,func199,by kernel_rfl,by kernel_rfl,by kernel_rfl,by kernel_rfl⟩
theorem N1:mI prog 200 enE:=⟨Tryz.f200,func200,by kernel_rfl,by kernel_rfl,by kernel_rfl,by kernel_rfl⟩
theorem aFj:mI prog 201 (fun _=> pure (.bool false)):=⟨Tryz.f201,func201,by kernel_rfl,by kernel_rfl,by kernel_rfl,by kernel_rfl⟩
theorem aGE:mI prog 206 (Extern.Race.marked .read):=⟨Tryz.f206,func206,by kernel_rfl,by kernel_rfl,by kernel_rfl,by kernel_rfl⟩
theorem aGF:mI prog 210 Extern.Sync.semrelease:=⟨Tryz.f210,func210,by kernel_rfl,by kernel_rfl,by kernel_rfl,by kernel_rfl⟩
theorem aFk:mI prog 211 (Extern.Race.marked .acquire):=⟨Tryz.f211,func211,by kernel_rfl,by kernel_rfl,by kernel_rfl,by kernel_rfl⟩
theorem aGG:mI prog 214 (Extern.Race.marked .write):=⟨Tryz.f214,func214,by kernel_rfl,by kernel_rfl,by kernel_rfl,by kernel_rfl⟩
theorem aGH:mI prog 215 Extern.Sync.semacquire:=⟨Tryz.f215,func215,by kernel_rfl,by kernel_rfl,by kernel_rfl,by kernel_rfl⟩
theorem aFl:mI prog 268 (Extern.Atomic.update (Op.intArith .add) .u64 true):=⟨Tryz.f268,func268,by kernel_rfl,by kernel_rfl,by kernel_rfl,by kernel_rfl⟩
theorem aCM:mI prog 269 (Extern.Atomic.loadT (.int .u64)):=⟨Tryz.f269,func269,by kernel_rfl,by kernel_rfl,by kernel_rfl,by kernel_rfl⟩
theorem aGJ:mI prog 270 Extern.Atomic.storeT:=⟨Tryz.f270,func270,by kernel_rfl,by kernel_rfl,by kernel_rfl,by kernel_rfl⟩
theorem aGK:mI prog 271 (Extern.Atomic.casT (.int .u64)):=⟨Tryz.f271,func271,by kernel_rfl,by kernel_rfl,by kernel_rfl,by kernel_rfl⟩
theorem aH:vN prog 233 1=some 0:=by kernel_rfl
theorem gM:vN prog 233 2=some 1:=by kernel_rfl
theorem fM:vN prog 230 2=some 0:=by kernel_rfl
theorem SY:prog.underlying 303=some (.pointer 233):=by kernel_rfl
theorem gR:prog.underlying 305=some .unsafePointer:=by kernel_rfl
theorem aAn:prog.underlying 310=some (.pointer 231):=by kernel_rfl
theorem aB0:prog.underlying 3=some (.int .i64):=by kernel_rfl
theorem CS:prog.underlying 21=some (.int .i32):=by kernel_rfl
theorem tU:prog.underlying 231=some (.int .u32):=by kernel_rfl
theorem kI:prog.underlying 228=some (.int .u64):=by kernel_rfl
theorem LY:(prog.info? 233).map (·.size)=some (1+1):=by kernel_rfl
theorem aAf:(prog.info? 231).map (·.size)=some (0+1):=by kernel_rfl
end Go.Proofs.YtldmfjcgjdchcaaGreatDoor
namespace Go.Proofs.YtldmfjcgjdchcaaGreatDoor
open Go.RL Go.Proofs.Tryz Go.Conc Go.ConcN Go.RL.Au
open Go.ConcR (stA smA)
open Go.ConcM (OsLater)
set_option maxRecDepth 10000
section
variable {main:Bool}{sh:Shp}{J:Goroutine->Prop}{K:Value->(Goroutine->Prop)->Prop}{blk off:Nat}
def KC(main:Bool)(K:Value->(Goroutine->Prop)->Prop):Prop:=∀v J',K v J'->∃sh',Cl prog main sh' J'
theorem aB5 {d:Int}(hc:Cl prog main sh J)(hk:KC main K)(h:HJ J 268 [.pointer (some ⟨blk,off,none⟩),.int .u64 d] K):HJ J 205 [.pointer (some ⟨blk,off,none⟩),.int .u64 d] K:=by
 refine zU.at (by exact hc) aE5 (zU.enter (vs:= [.pointer (some ⟨blk,off,none⟩),.int .u64 d]) func205 rfl ntmps205 Nb fun c cs hK=> ?_);refine .sq (.rg rfl rfl ?_);refine .g ?_;refine .dn (.sq (.rg rfl rfl ?_));refine .m ?_;refine .x .nk ?_;refine .x (.fa (zz:=fM)) ?_;refine .m ?_;refine So.dD rfl rfl rfl nofun rfl (.mk' rfl) rfl (h) ?_;intro v J' hv;obtain⟨sh',hc⟩:=hk v J' hv;refine .g ?_;refine .dn ?_;refine Sc.LD (by exact hc) rfl (Sb.leave (by exact hc) func205 rfl (by exact .inr ⟨_,results205,rfl⟩) ?_);exact hK v J' hv
theorem lY(hc:Cl prog main sh J)(hk:KC main K)(h:HJ J 269 [.pointer (some ⟨blk,off,none⟩)] K):HJ J 207 [.pointer (some ⟨blk,off,none⟩)] K:=by
 refine zU.at (by exact hc) aE6 (zU.enter (vs:= [.pointer (some ⟨blk,off,none⟩)]) func207 rfl ntmps207 Nb fun c cs hK=> ?_);refine .sq (.rg rfl rfl ?_);refine .g ?_;refine .dn (.sq (.rg rfl rfl ?_));refine .m ?_;refine .x .nk ?_;refine .x (.fa (zz:=fM)) ?_;refine So.dD rfl rfl rfl nofun rfl (.mk' rfl) rfl (h) ?_;intro v J' hv;obtain⟨sh',hc⟩:=hk v J' hv;refine .g ?_;refine .dn ?_;refine Sc.LD (by exact hc) rfl (Sb.leave (by exact hc) func207 rfl (by exact .inr ⟨_,results207,rfl⟩) ?_);exact hK v J' hv
theorem aBR {d:Int}(hc:Cl prog main sh J)(hk:KC main K)(hu:∀v J',K v J'->v=.tuple #[])(h:HJ J 270 [.pointer (some ⟨blk,off,none⟩),.int .u64 d] K):HJ J 208 [.pointer (some ⟨blk,off,none⟩),.int .u64 d] K:=by
 refine zU.at (by exact hc) aE7 (zU.enter (vs:= [.pointer (some ⟨blk,off,none⟩),.int .u64 d]) func208 rfl ntmps208 Nb fun c cs hK=> ?_);refine .rg rfl rfl ?_;refine .m ?_;refine .x .nk ?_;refine .x (.fa (zz:=fM)) ?_;refine .m ?_;refine So.dD rfl rfl rfl nofun rfl (.mk' rfl) rfl (h) ?_;intro v J' hv;obtain⟨sh',hc⟩:=hk v J' hv;refine .dn ?_;refine Sc.over (by exact hc) rfl (Sb.leave (by exact hc) func208 rfl (by exact .inl ⟨results208,rfl⟩) ?_);exact hu v J' hv▸hK v J' hv
theorem aFf {d e:Int}(hc:Cl prog main sh J)(hk:KC main K)(h:HJ J 271 [.pointer (some ⟨blk,off,none⟩),.int .u64 d,.int .u64 e] K):HJ J 213 [.pointer (some ⟨blk,off,none⟩),.int .u64 d,.int .u64 e] K:=by
 refine zU.at (by exact hc) aE8 (zU.enter (vs:= [.pointer (some ⟨blk,off,none⟩),.int .u64 d,.int .u64 e]) func213 rfl ntmps213 Nb fun c cs hK=> ?_);refine .sq (.rg rfl rfl ?_);refine .g ?_;refine .dn (.sq (.rg rfl rfl ?_));refine .m ?_;refine .x .nk ?_;refine .x (.fa (zz:=fM)) ?_;refine .m ?_;refine .m ?_;refine So.dD rfl rfl rfl nofun rfl (.mk' rfl) rfl (h) ?_;intro v J' hv;obtain⟨sh',hc⟩:=hk v J' hv;refine .g ?_;refine .dn ?_;refine Sc.LD (by exact hc) rfl (Sb.leave (by exact hc) func213 rfl (by exact .inr ⟨_,results213,rfl⟩) ?_);exact hK v J' hv
end
set_option maxHeartbeats 1000000
theorem yT:∀a:Nat,a<8->∀b:Nat,b<2->QO .and .u64 ((a*4294967296+b:Nat):Int) 2147483648=0:=by decide +kernel
theorem zT:∀a:Nat,a<8->∀b:Nat,b<2->QO .and .u64 ((a*4294967296+b:Nat):Int) 2147483647=(b:Int):=by decide +kernel
theorem AT:∀a:Nat,a<8->∀b:Nat,b<2->((a*4294967296+b:Nat):Int).fdiv (2 ^ (min (32:Int).toNat IntKind.u64.bits))=(a:Int):=by decide +kernel
theorem aEQ:IntKind.u64.wrap (-1)=18446744073709551615:=by decide +kernel
theorem aBN:CE .shl .u64 18446744073709551615 32=some (.int .u64 18446744069414584320):=by
 show some (Value.int .u64 (IntKind.u64.wrap (18446744073709551615*2 ^ (min (32:Int).toNat IntKind.u64.bits))))=_;rw[show IntKind.u64.wrap (18446744073709551615*2 ^ (min (32:Int).toNat IntKind.u64.bits))=18446744069414584320 by decide +kernel]
theorem aGq:IntKind.u64.wrap 1=1:=by decide +kernel
theorem aEH:CE .shl .u64 1 32=some (.int .u64 4294967296):=by
 show some (Value.int .u64 (IntKind.u64.wrap (1*2 ^ (min (32:Int).toNat IntKind.u64.bits))))=_;rw[show IntKind.u64.wrap (1*2 ^ (min (32:Int).toNat IntKind.u64.bits))=4294967296 by decide +kernel]
theorem YY:IntKind.i32.wrap (-1)= -1:=by decide +kernel
theorem R0:∀a:Nat,a<8->IntKind.i32.wrap (a:Int)=(a:Int):=by decide +kernel
theorem yU:∀a:Nat,a<8->IntKind.u32.wrap (a:Int)=(a:Int):=by decide +kernel
section
variable {X:Fk}{κ:Nat}{H:View}{cc:Frame}{cs:List Frame}
theorem SQ(X:Fk):∃e c,X.shp X.Wg=some (e,c)/\0<c:=⟨X.tW,2,by simp[Fk.shp],by decide⟩
theorem F0(X:Fk):∃e c,X.shp X.Wg=some (e,c)/\0+1<c:=⟨X.tW,2,by simp[Fk.shp],by decide⟩
theorem kw {K:Value->Th->Prop}{k:Nat}:KC false (fun v J'=> ∃k' t',k'<k/\K v t'/\J'=Jw prog X κ k' t' H):=fun _ _ ⟨_,_,_,_,h⟩=> ⟨_,h▸Jw.RO⟩
noncomputable def aCx:Code:=cR (cR (cR (cR (kN Tryz.f124))))
abbrev aCy:FB:=⟨124,.normal,none⟩
attribute [local irreducible] IntKind.wrap QO Int.fdiv in
theorem aCJ {a b:Nat}(ha:a<8)(hb:b<2)(hq:¬(a=0/\b=1))(hK:Jq prog 0 (G (cc.finish (.tuple #[])) cs)){R:Rg}
  (hR:pC [(0,.pt X.Wg),(1,.iz (-1)),(4,.bool false),(6,.int .u64 ((a*4294967296+b:Nat):Int))] R):
  Sc (Jq prog 1) 117 aCy (cc::cs) R [dcall 200 #[]] [.code aCx]:=by
 refine Sc.drop hR ?_;have tO:=SQ X;have f3:=YY;have g1:iA .and .u64 ((a*4294967296+b:Nat):Int) 2147483648=some (.int .u64 0):=by rw[<-yT a oM b oM];rfl
 have g2:iA .and .u64 ((a*4294967296+b:Nat):Int) 2147483647=some (.int .u64 (b:Int)):=by rw[<-zT a oM b oM];rfl
 have g3:CE .shr .u64 ((a*4294967296+b:Nat):Int) 32=some (.int .u64 (a:Int)):=by rw[<-AT a oM b oM];rfl
 have g4:=R0 a oM;have g5:=yU b oM;rcases Nat.eq_zero_or_pos a with uI|uI;all_goals rcases Nat.eq_zero_or_pos b with aFC|aFC
 all_goals first
  | (exfalso;omega)
  | (
   refine .sq (.sq (.rg rfl rfl ?_));refine .m ?_;refine .i ?_ (z:=by assumption);refine .i ?_ (z:=gH oM);refine .m ?_;refine .sk ?_;refine .sk ?_;refine .x .pk ?_;refine .dn (.ff rfl (.sp (.sq ?_)));refine Sc.drop (R':= [(0,.pt X.Wg),(1,.iz (-1)),(4,.bool false),(6,.int .u64 ((a*4294967296+b:Nat):Int))]) ⟨rfl,rfl,rfl,rfl,trivial⟩ ?_;refine .rg rfl rfl ?_;refine .m ?_;refine .x (MD.shift rfl rfl rfl oM (by assumption)) ?_;refine .x (MD.conv rfl rfl kI CS (by assumption)) ?_;refine .g ?_;refine .dn (.sq ?_);refine Sc.drop (R':= [(0,.pt X.Wg),(1,.iz (-1)),(6,.int .u64 ((a*4294967296+b:Nat):Int)),(7,.int .i32 (a:Int))]) ⟨rfl,rfl,rfl,rfl,trivial⟩ ?_;refine .rg rfl rfl ?_;refine .m ?_;refine .i ?_ (z:=by assumption);refine .x (MD.conv rfl rfl kI tU (by assumption)) ?_;refine .g ?_;refine .dn (.sq (.sq ?_));refine Sc.drop (R':= [(0,.pt X.Wg),(1,.iz (-1)),(7,.int .i32 (a:Int)),(8,.int .u32 (b:Int))]) ⟨rfl,rfl,rfl,rfl,trivial⟩ ?_;refine .rg rfl rfl ?_;refine .m ?_;refine .m ?_;refine .i ?_ (z:=sG oM);refine .x .pk ?_;refine .m ?_;refine .sk ?_;refine .sk ?_;refine .sk ?_;refine .sk ?_;refine .x .pk ?_;refine .dn (.ff rfl (.sp (.sq (.sq ?_))));refine Sc.drop (R':= [(0,.pt X.Wg),(1,.iz (-1)),(7,.int .i32 (a:Int)),(8,.int .u32 (b:Int))]) ⟨rfl,rfl,rfl,rfl,trivial⟩ ?_;refine .rg rfl rfl ?_;refine .m ?_;refine .i ?_ (z:=GH oM);refine .dn (.ff rfl (.sp (.sq (.sq ?_))));refine Sc.drop (R':= [(0,.pt X.Wg),(1,.iz (-1)),(7,.int .i32 (a:Int)),(8,.int .u32 (b:Int))]) ⟨rfl,rfl,rfl,rfl,trivial⟩ ?_;refine .rg rfl rfl ?_;refine .m ?_;refine .i ?_ (z:=by first|exact BI oM|exact gH oM);refine .m ?_;first|(refine .sk ?_)|(refine .m ?_)
   first|(refine .sk ?_)|(refine .x (.it (zz:=sG oM)) ?_)
   refine .x .pk ?_;refine .m ?_;refine .sk ?_;refine .sk ?_;refine .sk ?_;refine .sk ?_;refine .x .pk ?_;refine .dn (.ff rfl (.sp (.sq (.sq ?_))));refine Sc.drop (R':= [(0,.pt X.Wg),(1,.iz (-1)),(7,.int .i32 (a:Int)),(8,.int .u32 (b:Int))]) ⟨rfl,rfl,rfl,rfl,trivial⟩ ?_;refine .rg rfl rfl ?_;refine .m ?_;refine .i ?_ (z:=by first|exact tG oM|exact sG oM);refine .m ?_;first|(refine .sk ?_)|(refine .m ?_)
   first|(refine .sk ?_)|(refine .x (.it (zz:=wE oM)) ?_)
   refine .x .pk ?_;refine .dn (.tt rfl ?_);refine Sc.LD Jq.cl rfl (Jq.en N1 rfl (Sb.leave Jq.cl func124 rfl (.inl ⟨results124,rfl⟩) hK)))
noncomputable def aGz:Code:=cR (cR (cR (cR (cR (cR (cR aCx))))))
attribute [local irreducible] IntKind.wrap QO Int.fdiv in
theorem aBb {a b k:Nat}(a0:a=0)(b1:b=1)(hK:Jq prog 0 (G (cc.finish (.tuple #[])) cs)){R:Rg}
  (hR:pC [(0,.pt X.Wg),(4,.bool false),(6,.int .u64 ((a*4294967296+b:Nat):Int)),(8,.int .u32 (b:Int))] R):Sc (Jw prog X κ k .d2 H) 117 aCy (cc::cs) R [dcall 200 #[]] [.code aGz]:=by
 refine Sc.drop hR ?_;have tO:=SQ X;have g6:iA .sub .u32 (b:Int) 1=some (.int .u32 0):=by
  rw[b1];exact congrArg (fun x=> some (Value.int .u32 x)) (show IntKind.u32.wrap (((1:Nat):Int)-1)=0 by decide +kernel)
 have g7:iA .neq .u64 1 ((a*4294967296+b:Nat):Int)=some (.bool false):=gH oM;refine .sq (.sq (.rg rfl rfl ?_));refine .m ?_;refine .x .nk ?_;refine .x (.fa (zz:=aH)) ?_;refine So.dD rfl rfl rfl nofun rfl (.mk' rfl) rfl (lY Jw.RO kw (Jw.d2 aCM)) ?_;rintro v J' ⟨k5,t,hk5,⟨rfl,rfl⟩,rfl⟩;refine .m ?_;refine .i ?_ (z:=by assumption);refine .dn (.ff rfl (.sp (.sq ?_)));refine Sc.drop (R':= [(0,.pt X.Wg),(4,.bool false),(6,.int .u64 ((a*4294967296+b:Nat):Int)),(8,.int .u32 (b:Int))]) ⟨rfl,rfl,rfl,rfl,trivial⟩ ?_;refine .rg rfl rfl ?_;refine .m ?_;refine .x .nk ?_;refine .x (.fa (zz:=aH)) ?_;refine So.dD rfl rfl rfl nofun rfl (.mk' rfl) rfl (aBR Jw.RO kw (fun v J' ⟨_,_,_,h,_⟩=> h.1) (Jw.d3 aGJ)) ?_;rintro v J' ⟨k6,t,hk6,⟨rfl,rfl⟩,rfl⟩;refine .dn (.sq (.sq ?_));refine Sc.drop (R':= [(0,.pt X.Wg),(4,.bool false),(6,.int .u64 ((a*4294967296+b:Nat):Int)),(8,.int .u32 (b:Int))]) ⟨rfl,rfl,rfl,rfl,trivial⟩ ?_;refine .rg rfl rfl ?_;refine .m ?_;refine .dn (.ff rfl (.sp (.bl ?_)));refine Sc.loop (by exact Jw.RO) ?_;refine .sq (.sq (.rg rfl rfl ?_));refine .m ?_;refine .i ?_ (z:=BI oM);refine .dn (.tt rfl (.sp (.sq (.bl ?_))));refine Sc.drop (R':= [(0,.pt X.Wg),(4,.bool false),(6,.int .u64 ((a*4294967296+b:Nat):Int)),(8,.int .u32 (b:Int))]) ⟨rfl,rfl,rfl,rfl,trivial⟩ ?_;refine .rg rfl rfl ?_;refine .m ?_;refine .x .nk ?_;refine .x (.fa (zz:=gM)) ?_;refine So.dD rfl rfl rfl nofun rfl (.mk' rfl) rfl (Jw.d4 (vs:= [.pointer (some ⟨X.Wg,1,none⟩),.bool false,.iz 0]) aGF rfl) ?_;rintro v J' ⟨k7,t,hk7,⟨rfl,rfl⟩,rfl⟩;refine So.mono ?_ (fun g=> Jq.jw);refine .dn (.ib ?_);refine Sc.drop (R':= [(0,.pt X.Wg),(4,.bool false),(6,.int .u64 ((a*4294967296+b:Nat):Int)),(8,.int .u32 (b:Int))]) ⟨rfl,rfl,rfl,rfl,trivial⟩ ?_;refine .rg rfl rfl ?_;refine .m ?_;refine .i ?_ (z:=by assumption);refine .g ?_;refine .dn ?_;refine Sc.inLoop (by exact Jq.cl) ?_;refine Sc.drop (R':= [(8,.int .u32 0)]) ⟨rfl,trivial⟩ ?_;refine .sq (.sq (.rg rfl rfl ?_));refine .m ?_;refine .i ?_ (z:=gH oM);refine .dn (.ff rfl (.xt rfl ?_));refine Sc.over Jq.cl rfl (Jq.en N1 rfl (Sb.leave Jq.cl func124 rfl (.inl ⟨results124,rfl⟩) hK))
attribute [local irreducible] IntKind.wrap QO Int.fdiv in
theorem aCI {a b k:Nat}(a0:a=0)(b1:b=1)(hK:Jq prog 0 (G (cc.finish (.tuple #[])) cs)){R:Rg}
  (hR:pC [(0,.pt X.Wg),(1,.iz (-1)),(4,.bool false),(6,.int .u64 ((a*4294967296+b:Nat):Int))] R):Sc (Jw prog X κ k .d2 H) 117 aCy (cc::cs) R [dcall 200 #[]] [.code aCx]:=by
 refine Sc.drop hR ?_;have tO:=SQ X;have f3:=YY;have g1:iA .and .u64 ((a*4294967296+b:Nat):Int) 2147483648=some (.int .u64 0):=by rw[<-yT a oM b oM];rfl
 have g2:iA .and .u64 ((a*4294967296+b:Nat):Int) 2147483647=some (.int .u64 (b:Int)):=by rw[<-zT a oM b oM];rfl
 have g3:CE .shr .u64 ((a*4294967296+b:Nat):Int) 32=some (.int .u64 (a:Int)):=by rw[<-AT a oM b oM];rfl
 have g4:=R0 a oM;have g5:=yU b oM;refine .sq (.sq (.rg rfl rfl ?_));refine .m ?_;refine .i ?_ (z:=by assumption);refine .i ?_ (z:=gH oM);refine .m ?_;refine .sk ?_;refine .sk ?_;refine .x .pk ?_;refine .dn (.ff rfl (.sp (.sq ?_)));refine Sc.drop (R':= [(0,.pt X.Wg),(1,.iz (-1)),(4,.bool false),(6,.int .u64 ((a*4294967296+b:Nat):Int))]) ⟨rfl,rfl,rfl,rfl,trivial⟩ ?_;refine .rg rfl rfl ?_;refine .m ?_;refine .x (MD.shift rfl rfl rfl oM (by assumption)) ?_;refine .x (MD.conv rfl rfl kI CS (by assumption)) ?_;refine .g ?_;refine .dn (.sq ?_);refine Sc.drop (R':= [(0,.pt X.Wg),(1,.iz (-1)),(4,.bool false),(6,.int .u64 ((a*4294967296+b:Nat):Int)),(7,.int .i32 (a:Int))]) ⟨rfl,rfl,rfl,rfl,rfl,trivial⟩ ?_;refine .rg rfl rfl ?_;refine .m ?_;refine .i ?_ (z:=by assumption);refine .x (MD.conv rfl rfl kI tU (by assumption)) ?_;refine .g ?_;refine .dn (.sq (.sq ?_));refine Sc.drop (R':= [(0,.pt X.Wg),(1,.iz (-1)),(4,.bool false),(6,.int .u64 ((a*4294967296+b:Nat):Int)),(7,.int .i32 (a:Int)),(8,.int .u32 (b:Int))]) ⟨rfl,rfl,rfl,rfl,rfl,rfl,trivial⟩ ?_;refine .rg rfl rfl ?_;refine .m ?_;refine .m ?_;refine .i ?_ (z:=sG oM);refine .x .pk ?_;refine .m ?_;refine .sk ?_;refine .sk ?_;refine .sk ?_;refine .sk ?_;refine .x .pk ?_;refine .dn (.ff rfl (.sp (.sq (.sq ?_))));refine Sc.drop (R':= [(0,.pt X.Wg),(1,.iz (-1)),(4,.bool false),(6,.int .u64 ((a*4294967296+b:Nat):Int)),(7,.int .i32 (a:Int)),(8,.int .u32 (b:Int))]) ⟨rfl,rfl,rfl,rfl,rfl,rfl,trivial⟩ ?_;refine .rg rfl rfl ?_;refine .m ?_;refine .i ?_ (z:=GH oM);refine .dn (.ff rfl (.sp (.sq (.sq ?_))));refine Sc.drop (R':= [(0,.pt X.Wg),(1,.iz (-1)),(4,.bool false),(6,.int .u64 ((a*4294967296+b:Nat):Int)),(7,.int .i32 (a:Int)),(8,.int .u32 (b:Int))]) ⟨rfl,rfl,rfl,rfl,rfl,rfl,trivial⟩ ?_;refine .rg rfl rfl ?_;refine .m ?_;refine .i ?_ (z:=BI oM);refine .m ?_;refine .m ?_;refine .i ?_ (z:=sG oM);refine .x .pk ?_;refine .m ?_;refine .sk ?_;refine .sk ?_;refine .sk ?_;refine .sk ?_;refine .x .pk ?_;refine .dn (.ff rfl (.sp (.sq (.sq ?_))));refine Sc.drop (R':= [(0,.pt X.Wg),(1,.iz (-1)),(4,.bool false),(6,.int .u64 ((a*4294967296+b:Nat):Int)),(7,.int .i32 (a:Int)),(8,.int .u32 (b:Int))]) ⟨rfl,rfl,rfl,rfl,rfl,rfl,trivial⟩ ?_;refine .rg rfl rfl ?_;refine .m ?_;refine .i ?_ (z:=sG oM);refine .m ?_;refine .m ?_;refine .i ?_ (z:=IC oM);refine .x .pk ?_;refine .dn (.ff rfl (.sp ?_));exact aBb a0 b1 hK ⟨rfl,rfl,rfl,rfl,trivial⟩
attribute [local irreducible] IntKind.wrap QO Int.fdiv in
theorem aBc {k:Nat}:HJ (Jw prog X κ k .wr H) 124 [.pt X.Wg,.iz (-1)] fun v J'=> v=.tuple #[]/\J'=Jq prog 0:=by
 refine zU.at (by exact Jw.uX rfl) aB8 (zU.enter (vs:= [.pt X.Wg,.iz (-1)]) func124 rfl ntmps124 Nb fun c cs hK=> ?_);have tO:=SQ X;have f1:=aEQ;have f2:=aBN;have f3:=YY;refine .sq (.tt rfl (.sq (.sq (.rg rfl rfl ?_))));refine .m ?_;refine .i ?_ (z:=xO oM);refine .dn (.tt rfl (.rg rfl rfl ?_));refine .m ?_;refine .x (MD.raw rfl rfl SY gR LY (by assumption)) ?_;refine So.dD rfl rfl rfl nofun rfl (.mk' rfl) rfl (Jw.wr aGD) ?_;rintro v J' ⟨rfl,k1,Z4,rfl⟩;refine .dn (.sq (.rg rfl rfl ?_));refine So.dD rfl rfl rfl nofun rfl (.mk' rfl) rfl (Jw.wk aCL) ?_;rintro v J' ⟨k2,t,DU,⟨rfl,rfl⟩,rfl⟩;refine .dn (.rg rfl rfl ?_);refine So.defer Jw.RO (f:=200) (vs:= []) rfl nofun rfl rfl ⟨_,rfl⟩ rfl ?_;refine .dn (.sq ?_);refine Sc.drop (R':= [(0,.pt X.Wg),(1,.iz (-1))]) ⟨rfl,rfl,trivial⟩ ?_;refine .rg rfl rfl ?_;refine .g ?_;refine .dn (.sq (.sq (.rg rfl rfl ?_)));refine So.dD rfl rfl rfl nofun rfl (.mk' rfl) rfl (Jw.wi aFj) ?_;rintro v J' ⟨k3,t,hk3,⟨rfl,rfl⟩,rfl⟩;refine .dn (.ff rfl (.sp (.sq ?_)));refine Sc.drop (R':= [(0,.pt X.Wg),(1,.iz (-1)),(4,.bool false)]) ⟨rfl,rfl,rfl,trivial⟩ ?_;refine .rg rfl rfl ?_;refine .m ?_;refine .x .nk ?_;refine .x (.fa (zz:=aH)) ?_;refine .m ?_;refine .x (MD.conv rfl rfl aB0 kI (by assumption)) ?_;refine .x (MD.shift rfl rfl rfl oM (by assumption)) ?_;refine So.dD rfl rfl rfl nofun rfl (.mk' rfl) rfl (aB5 Jw.RO kw (Jw.d1 aFl)) ?_;rintro v J' ⟨k4,t,hk4,⟨a,b,ha,hb,rfl,rfl⟩,rfl⟩;by_cases hq:a=0/\b=1
 ·rw[if_pos hq];refine .g ?_;refine .dn ?_;exact aCI hq.1 hq.2 (hK _ _ ⟨rfl,rfl⟩) ⟨rfl,rfl,rfl,rfl,trivial⟩
 ·rw[if_neg hq];refine So.mono ?_ (fun g=> Jq.jw);refine .g ?_;refine .dn ?_;exact aCJ oM oM hq (hK _ _ ⟨rfl,rfl⟩) ⟨rfl,rfl,rfl,rfl,trivial⟩
theorem aCK {k n:Nat}{b:FB}{R:Rg}{ds:List Deferred}(hb:b.rd=none)
  (h:Sb (Jq prog 0) n b cs R ds):Sb (Jw prog X κ k .wr H) n b cs R (dcall 126 #[.pt X.Wg]::ds):=by
 refine Sb.aCN (vs:= [.pt X.Wg]) Jw.RO hb func126 kR rfl ntmps126 Nb fun c hm hc=> ?_;refine .rg rfl rfl ?_;refine .m ?_;refine So.dD rfl rfl rfl nofun rfl (.mk' rfl) rfl (aBc) ?_;rintro v J' ⟨rfl,rfl⟩;refine .dn ?_;refine Sc.over Jq.cl rfl (Sb.leaveD Jq.cl func126 rfl results126 (.inl hm) (hc _ h))
end
section
variable {X:Fk}{H:View}{Fin:Goroutine->Prop}{j:Nat}{cc:Frame}{cs:List Frame}
theorem km {K:Value->Mn->Prop}{k:Nat}:KC true (fun v J'=> ∃k' m',k'<k/\K v m'/\J'=Jm prog X Fin k' m' j H):=fun _ _ ⟨_,_,_,_,h⟩=> ⟨_,h▸Jm.cl⟩
theorem aGp:IntKind.i32.wrap 1=1:=by decide +kernel
attribute [local irreducible] IntKind.wrap QO Int.fdiv in
theorem w6 {k:Nat}:HJ (Jm prog X Fin k .kd j H) 124 [.pt X.Wg,.iz 1] fun v J'=> v=.tuple #[]/\∃k',J'=Jm prog X Fin k' .go j H:=by
 refine zU.at (by exact Jm.cl) aB8 (zU.enter (vs:= [.pt X.Wg,.iz 1]) func124 rfl ntmps124 Nb fun c cs hK=> ?_);have tO:=F0 X;have f1:=aGq;have f2:=aEH;have f3:=aGp;refine .sq (.tt rfl (.sq (.sq (.rg rfl rfl ?_))));refine .m ?_;refine .i ?_ (z:=GH oM);refine .dn (.ff rfl (.sp (.sq (.rg rfl rfl ?_))));refine So.dD rfl rfl rfl nofun rfl (.mk' rfl) rfl (Jm.kd aCL) ?_;rintro v J' ⟨k2,t,DU,⟨rfl,rfl⟩,rfl⟩;refine .dn (.rg rfl rfl ?_);refine So.defer Jm.cl (f:=200) (vs:= []) rfl nofun rfl rfl ⟨_,rfl⟩ rfl ?_;refine .dn (.sq (.rg rfl rfl ?_));refine .g ?_;refine .dn (.sq (.sq (.rg rfl rfl ?_)));refine So.dD rfl rfl rfl nofun rfl (.mk' rfl) rfl (Jm.ki aFj) ?_;rintro v J' ⟨k3,t,hk3,⟨rfl,rfl⟩,rfl⟩;refine .dn (.ff rfl (.sp (.sq (.rg rfl rfl ?_))));refine .m ?_;refine .x .nk ?_;refine .x (.fa (zz:=aH)) ?_;refine .m ?_;refine .x (MD.conv rfl rfl aB0 kI (by assumption)) ?_;refine .x (MD.shift rfl rfl rfl oM (by assumption)) ?_;refine So.dD rfl rfl rfl nofun rfl (.mk' rfl) rfl (aB5 Jm.cl km (Jm.ka aFl)) ?_;rintro v J' ⟨k4,t,hk4,⟨a,ha,rfl,rfl⟩,rfl⟩;have e0:(((a+1)*4294967296:Nat):Int)=(((a+1)*4294967296+0:Nat):Int):=(congrArg (fun x:Nat=> (x:Int)) (Nat.add_zero _)).symm;have g1:iA .and .u64 (((a+1)*4294967296:Nat):Int) 2147483648=some (.int .u64 0):=by rw[e0,<-yT (a+1) oM 0 oM];rfl
 have g2:iA .and .u64 (((a+1)*4294967296:Nat):Int) 2147483647=some (.int .u64 0):=by
  have:=zT (a+1) oM 0 oM;rw[e0];exact congrArg (fun x=> some (Value.int .u64 x)) this
 have g3:CE .shr .u64 (((a+1)*4294967296:Nat):Int) 32=some (.int .u64 ((a+1:Nat):Int)):=by rw[e0,<-AT (a+1) oM 0 oM];rfl
 have g4:=R0 (a+1) oM;have g5:IntKind.u32.wrap 0=0:=yU 0 oM;have gg:(0:Int)<((a+1:Nat):Int):=by omega
 refine .g ?_;refine .dn ?_;refine Sc.drop (R':= [(0,.pt X.Wg),(1,.iz 1),(4,.bool false),(6,.int .u64 (((a+1)*4294967296:Nat):Int))]) ⟨rfl,rfl,rfl,rfl,trivial⟩ ?_;refine .sq (.sq (.rg rfl rfl ?_));refine .m ?_;refine .i ?_ (z:=by assumption);refine .i ?_ (z:=gH oM);refine .m ?_;refine .sk ?_;refine .sk ?_;refine .x .pk ?_;refine .dn (.ff rfl (.sp (.sq ?_)));refine Sc.drop (R':= [(0,.pt X.Wg),(1,.iz 1),(4,.bool false),(6,.int .u64 (((a+1)*4294967296:Nat):Int))]) ⟨rfl,rfl,rfl,rfl,trivial⟩ ?_;refine .rg rfl rfl ?_;refine .m ?_;refine .x (MD.shift rfl rfl rfl oM (by assumption)) ?_;refine .x (MD.conv rfl rfl kI CS (by assumption)) ?_;refine .g ?_;refine .dn ?_;refine Sc.drop (R':= [(0,.pt X.Wg),(1,.iz 1),(4,.bool false),(6,.int .u64 (((a+1)*4294967296:Nat):Int)),(7,.int .i32 ((a+1:Nat):Int))]) ⟨rfl,rfl,rfl,rfl,rfl,trivial⟩ ?_;refine .sq (.rg rfl rfl ?_);refine .m ?_;refine .i ?_ (z:=by assumption);refine .x (MD.conv rfl rfl kI tU (by assumption)) ?_;refine .g ?_;refine .dn ?_;refine Sc.drop (R':= [(0,.pt X.Wg),(1,.iz 1),(4,.bool false),(7,.int .i32 ((a+1:Nat):Int)),(8,.int .u32 0)]) ⟨rfl,rfl,rfl,rfl,rfl,trivial⟩ ?_;refine .sq (.sq ?_);by_cases hz:a=0
 ·rw[if_pos hz];have q1:iA .eql .i32 ((a+1:Nat):Int) 1=some (.bool true):=wE oM;refine .rg rfl rfl ?_;refine .m ?_;refine .m ?_;refine .i ?_ (z:=tG oM);refine .x .pk ?_;refine .m ?_;refine .m ?_;refine .m ?_;refine .x (MD.conv rfl rfl aB0 CS (by assumption)) ?_;refine .i ?_ (z:=by assumption);refine .x .pk ?_;refine .dn (.tt rfl ?_);refine Sc.drop (R':= [(0,.pt X.Wg),(1,.iz 1),(4,.bool false),(7,.int .i32 ((a+1:Nat):Int)),(8,.int .u32 0)]) ⟨rfl,rfl,rfl,rfl,rfl,trivial⟩ ?_;refine .rg rfl rfl ?_;refine .m ?_;refine .x .nk ?_;refine .x (.fa (zz:=gM)) ?_;refine .x (MD.raw rfl rfl aAn gR aAf (by assumption)) ?_;refine So.dD rfl rfl rfl nofun rfl (.mk' rfl) rfl (Jm.kr aGE) ?_;rintro v J' ⟨rfl,k5,hk5,rfl⟩;refine .dn ?_;refine Sc.drop (R':= [(0,.pt X.Wg),(1,.iz 1),(4,.bool false),(7,.int .i32 ((a+1:Nat):Int)),(8,.int .u32 0)]) ⟨rfl,rfl,rfl,rfl,rfl,trivial⟩ ?_;refine .sq (.sq (.rg rfl rfl ?_));refine .m ?_;refine .i ?_ (z:=GH oM);refine .dn (.ff rfl (.sp (.sq (.sq (.rg rfl rfl ?_)))));refine .m ?_;refine .i ?_ (z:=gH oM);refine .m ?_;refine .sk ?_;refine .sk ?_;refine .x .pk ?_;refine .m ?_;refine .sk ?_;refine .sk ?_;refine .sk ?_;refine .sk ?_;refine .x .pk ?_;refine .dn (.ff rfl (.sp (.sq (.sq ?_))));refine Sc.drop (R':= [(0,.pt X.Wg),(1,.iz 1),(4,.bool false),(7,.int .i32 ((a+1:Nat):Int)),(8,.int .u32 0)]) ⟨rfl,rfl,rfl,rfl,rfl,trivial⟩ ?_;refine .rg rfl rfl ?_;refine .m ?_;refine .i ?_ (z:=tG oM);refine .m ?_;refine .sk ?_;refine .sk ?_;refine .x .pk ?_;refine .dn (.tt rfl ?_);refine Sc.LD Jm.cl rfl (Jm.ke N1 rfl (fun k' _=> Sb.leave Jm.cl func124 rfl (.inl ⟨results124,rfl⟩) (hK _ _ ⟨rfl,k',rfl⟩)))
 ·rw[if_neg hz];have q1:iA .eql .i32 ((a+1:Nat):Int) 1=some (.bool false):=IC oM;refine .rg rfl rfl ?_;refine .m ?_;refine .m ?_;refine .i ?_ (z:=tG oM);refine .x .pk ?_;refine .m ?_;refine .m ?_;refine .m ?_;refine .x (MD.conv rfl rfl aB0 CS (by assumption)) ?_;refine .i ?_ (z:=by assumption);refine .x .pk ?_;refine .dn (.ff rfl (.sp (.sq (.sq ?_))));refine Sc.drop (R':= [(0,.pt X.Wg),(1,.iz 1),(4,.bool false),(7,.int .i32 ((a+1:Nat):Int)),(8,.int .u32 0)]) ⟨rfl,rfl,rfl,rfl,rfl,trivial⟩ ?_;refine .rg rfl rfl ?_;refine .m ?_;refine .i ?_ (z:=GH oM);refine .dn (.ff rfl (.sp (.sq (.sq (.rg rfl rfl ?_)))));refine .m ?_;refine .i ?_ (z:=gH oM);refine .m ?_;refine .sk ?_;refine .sk ?_;refine .x .pk ?_;refine .m ?_;refine .sk ?_;refine .sk ?_;refine .sk ?_;refine .sk ?_;refine .x .pk ?_;refine .dn (.ff rfl (.sp (.sq (.sq ?_))));refine Sc.drop (R':= [(0,.pt X.Wg),(1,.iz 1),(4,.bool false),(7,.int .i32 ((a+1:Nat):Int)),(8,.int .u32 0)]) ⟨rfl,rfl,rfl,rfl,rfl,trivial⟩ ?_;refine .rg rfl rfl ?_;refine .m ?_;refine .i ?_ (z:=tG oM);refine .m ?_;refine .sk ?_;refine .sk ?_;refine .x .pk ?_;refine .dn (.tt rfl ?_);refine Sc.LD Jm.cl rfl (Jm.ke N1 rfl (fun k' _=> Sb.leave Jm.cl func124 rfl (.inl ⟨results124,rfl⟩) (hK _ _ ⟨rfl,k',rfl⟩)))
end
section
variable {X:Fk}{H:View}{Fin:Goroutine->Prop}{j:Nat}{cc:Frame}{cs:List Frame}
noncomputable def aET:Code:=cB (cB (cR (kN Tryz.f128)))
abbrev aGA:FB:=⟨128,.normal,none⟩
attribute [local irreducible] IntKind.wrap QO Int.fdiv in
theorem R4(hc:Cl prog true O3 Fin)(hK:Fin (G (cc.finish (.tuple #[])) cs))(k:Nat):∀R:Rg,pC [(0,.pt X.Wg)] R->Sc (Jm prog X Fin k .w1 j H) 84 aGA (cc::cs) R [] [.code aET,.inLoop aET,.inBlock 0]:=by
 induction k using Nat.strongRecOn with
 | ind k IH=>
  intro R hR;refine Sc.drop hR ?_;have tO:=SQ X;have aHZ:=F0 X;refine Sc.block (by first|exact Jm.cl|exact hc) ?_;refine Sc.seq (by first|exact Jm.cl|exact hc) ?_;refine .rg rfl rfl ?_;refine .m ?_;refine .x .nk ?_;refine .x (.fa (zz:=aH)) ?_;refine So.dD rfl rfl rfl nofun rfl (.mk' rfl) rfl (lY Jm.cl km (Jm.w1 aCM)) ?_;rintro v J' ⟨k1,t,Z4,⟨a,ha,rfl,rfl⟩,rfl⟩;have e0:((a*4294967296:Nat):Int)=((a*4294967296+0:Nat):Int):=(congrArg (fun x:Nat=> (x:Int)) (Nat.add_zero _)).symm;have g1:iA .and .u64 ((a*4294967296:Nat):Int) 2147483648=some (.int .u64 0):=by rw[e0,<-yT a oM 0 oM];rfl
  have g2:iA .and .u64 ((a*4294967296:Nat):Int) 2147483647=some (.int .u64 0):=by
   have:=zT a oM 0 oM;rw[e0];exact congrArg (fun x=> some (Value.int .u64 x)) this
  have g3:CE .shr .u64 ((a*4294967296:Nat):Int) 32=some (.int .u64 (a:Int)):=by rw[e0,<-AT a oM 0 oM];rfl
  have g4:=R0 a oM;have g5:IntKind.u32.wrap 0=0:=yU 0 oM;have g6:iA .add .u64 ((a*4294967296:Nat):Int) 1=some (.int .u64 ((a*4294967296+1:Nat):Int)):=by
   have h:∀a:Nat,a<8->IntKind.u64.wrap (((a*4294967296:Nat):Int)+1)=((a*4294967296+1:Nat):Int):=by decide +kernel
   exact congrArg (fun x=> some (Value.int .u64 x)) (h a oM)
  refine .g ?_;refine .dn ?_;refine Sc.drop (R':= [(0,.pt X.Wg),(2,.int .u64 ((a*4294967296:Nat):Int))]) ⟨rfl,rfl,trivial⟩ ?_;refine Sc.seq (by first|exact Jm.cl|exact hc) ?_;refine .rg rfl rfl ?_;refine .m ?_;refine .x (MD.shift rfl rfl rfl oM (by assumption)) ?_;refine .x (MD.conv rfl rfl kI CS (by assumption)) ?_;refine .g ?_;refine .dn ?_;refine Sc.drop (R':= [(0,.pt X.Wg),(2,.int .u64 ((a*4294967296:Nat):Int)),(3,.int .i32 (a:Int))]) ⟨rfl,rfl,rfl,trivial⟩ ?_;refine Sc.seq (by first|exact Jm.cl|exact hc) ?_;refine .rg rfl rfl ?_;refine .m ?_;refine .i ?_ (z:=by assumption);refine .x (MD.conv rfl rfl kI tU (by assumption)) ?_;refine .g ?_;refine .dn ?_;refine Sc.drop (R':= [(0,.pt X.Wg),(2,.int .u64 ((a*4294967296:Nat):Int)),(3,.int .i32 (a:Int)),(4,.int .u32 0)]) ⟨rfl,rfl,rfl,rfl,trivial⟩ ?_;refine Sc.seq (by first|exact Jm.cl|exact hc) ?_;refine Sc.seq (by first|exact Jm.cl|exact hc) ?_;by_cases hz:a=0
  ·rw[if_pos hz];have q1:iA .eql .i32 (a:Int) 0=some (.bool true):=wE oM;refine .rg rfl rfl ?_;refine .m ?_;refine .i ?_ (z:=by assumption);refine .dn ?_;refine Sc.cond (by first|exact Jm.cl|exact hc) (t:=true) rfl (fun _=> ?_) (fun h=> nomatch h);refine Sc.seq (by first|exact Jm.cl|exact hc) ?_;refine Sc.cond (by first|exact Jm.cl|exact hc) (t:=true) rfl (fun _=> ?_) (fun h=> nomatch h);refine Sc.seq (by first|exact Jm.cl|exact hc) ?_;refine .rg rfl rfl ?_;refine So.dD rfl rfl rfl nofun rfl (.mk' rfl) rfl (Jm.we N1) ?_;rintro v J' ⟨k2,t,DU,⟨rfl,rfl⟩,rfl⟩;refine .dn (.rg rfl rfl ?_);refine .m ?_;refine .x (MD.raw rfl rfl SY gR LY (by assumption)) ?_;refine So.dD rfl rfl rfl nofun rfl (.mk' rfl) rfl (Jm.aq aFk) ?_;rintro v J' ⟨rfl,rfl⟩;refine .dn (.sq (.sq (.rg rfl rfl ?_)));refine .m ?_;refine .i ?_ (z:=wE oM);refine .m ?_;refine .m ?_;refine .i ?_ (z:=by assumption);refine .i ?_ (z:=gH oM);refine .x .pk ?_;refine .m ?_;refine .sk ?_;refine .sk ?_;refine .x .pk ?_;refine .dn (.ff rfl (.sp ?_));refine Sc.LD (by exact hc) rfl (Sb.leave (by exact hc) func128 rfl (by exact .inl ⟨results128,rfl⟩) ?_);exact hK
  ·rw[if_neg hz];have q1:iA .eql .i32 (a:Int) 0=some (.bool false):=IC oM;refine .rg rfl rfl ?_;refine .m ?_;refine .i ?_ (z:=by assumption);refine .dn ?_;refine Sc.cond (by first|exact Jm.cl|exact hc) (t:=false) rfl (fun h=> nomatch h) (fun _=> ?_);refine Sc.skip (by first|exact Jm.cl|exact hc) ?_;refine Sc.seq (by first|exact Jm.cl|exact hc) ?_;refine .rg rfl rfl ?_;refine .m ?_;refine .x .nk ?_;refine .x (.fa (zz:=aH)) ?_;refine .m ?_;refine .m ?_;refine .i ?_ (z:=by assumption);refine So.dD rfl rfl rfl nofun rfl (.mk' rfl) rfl (aFf Jm.cl km (Jm.w2 aGK)) ?_;rintro v J' ⟨k2,t,DU,⟨rfl,rfl⟩|⟨rfl,rfl⟩,rfl⟩
   ·refine .dn ?_;refine Sc.cond (by first|exact Jm.cl|exact hc) (t:=true) rfl (fun _=> ?_) (fun h=> nomatch h);refine Sc.seq (by first|exact Jm.cl|exact hc) ?_;refine Sc.seq (by first|exact Jm.cl|exact hc) ?_;refine Sc.drop (R':= [(0,.pt X.Wg),(2,.int .u64 ((a*4294967296:Nat):Int)),(4,.int .u32 0)]) ⟨rfl,rfl,rfl,trivial⟩ ?_;refine .rg rfl rfl ?_;refine .m ?_;refine .m ?_;refine .i ?_ (z:=wE oM);refine .x .pk ?_;refine .dn ?_;refine Sc.cond (by first|exact Jm.cl|exact hc) (t:=true) rfl (fun _=> ?_) (fun h=> nomatch h);refine .rg rfl rfl ?_;refine .m ?_;refine .x .nk ?_;refine .x (.fa (zz:=gM)) ?_;refine .x (MD.raw rfl rfl aAn gR aAf (by assumption)) ?_;refine So.dD rfl rfl rfl nofun rfl (.mk' rfl) rfl (Jm.wm aGG) ?_;rintro v J' ⟨rfl,k3,hk3,rfl⟩;refine .dn ?_;refine Sc.drop (R':= [(0,.pt X.Wg),(2,.int .u64 ((a*4294967296:Nat):Int)),(4,.int .u32 0)]) ⟨rfl,rfl,rfl,trivial⟩ ?_;refine Sc.seq (by first|exact Jm.cl|exact hc) ?_;refine .rg rfl rfl ?_;refine .g ?_;refine .dn ?_;refine Sc.seq (by first|exact Jm.cl|exact hc) ?_;refine Sc.seq (by first|exact Jm.cl|exact hc) ?_;refine .rg rfl rfl ?_;refine .m ?_;refine .i ?_ (z:=by assumption);refine .i ?_ (z:=gH oM);refine .m ?_;refine .sk ?_;refine .x .pk ?_;refine .dn ?_;refine Sc.cond (by first|exact Jm.cl|exact hc) (t:=false) rfl (fun h=> nomatch h) (fun _=> ?_);refine Sc.skip (by first|exact Jm.cl|exact hc) ?_;refine Sc.seq (by first|exact Jm.cl|exact hc) ?_;refine .rg rfl rfl ?_;refine .m ?_;refine .x .nk ?_;refine .x (.fa (zz:=gM)) ?_;refine .m ?_;refine So.dD rfl rfl rfl nofun rfl (.mk' rfl) rfl (Jm.ws (vs:= [.pointer (some ⟨X.Wg,1,none⟩),.bool false]) aGH rfl) ?_;rintro v J' ⟨k4,t,hk4,⟨rfl,rfl⟩,rfl⟩;refine .dn ?_;refine Sc.drop (R':= [(0,.pt X.Wg)]) ⟨rfl,trivial⟩ ?_;refine Sc.seq (by first|exact Jm.cl|exact hc) ?_;refine .rg rfl rfl ?_;refine .m ?_;refine .x .nk ?_;refine .x (.fa (zz:=aH)) ?_;refine So.dD rfl rfl rfl nofun rfl (.mk' rfl) rfl (lY Jm.cl km (Jm.w4 aCM)) ?_;rintro v J' ⟨k5,t,hk5,⟨rfl,rfl⟩,rfl⟩;refine .i ?_ (z:=gH oM);refine .g ?_;refine .dn ?_;refine Sc.seq (by first|exact Jm.cl|exact hc) ?_;refine Sc.cond (by first|exact Jm.cl|exact hc) (t:=true) rfl (fun _=> ?_) (fun h=> nomatch h);refine Sc.seq (by first|exact Jm.cl|exact hc) ?_;refine .rg rfl rfl ?_;refine So.dD rfl rfl rfl nofun rfl (.mk' rfl) rfl (Jm.we N1) ?_;rintro v J' ⟨k6,t,hk6,⟨rfl,rfl⟩,rfl⟩;refine .dn (.rg rfl rfl ?_);refine .m ?_;refine .x (MD.raw rfl rfl SY gR LY (by assumption)) ?_;refine So.dD rfl rfl rfl nofun rfl (.mk' rfl) rfl (Jm.aq aFk) ?_;rintro v J' ⟨rfl,rfl⟩;refine .dn (.sq (.sq (.rg rfl rfl ?_)));refine .m ?_;refine .dn (.ff rfl (.sp ?_));refine Sc.LD (by exact hc) rfl (Sb.leave (by exact hc) func128 rfl (by exact .inl ⟨results128,rfl⟩) ?_);exact hK
   ·refine .dn ?_;refine Sc.cond (by first|exact Jm.cl|exact hc) (t:=false) rfl (fun h=> nomatch h) (fun _=> ?_);refine Sc.skip (by first|exact Jm.cl|exact hc) ?_;refine Sc.inBlock (by first|exact Jm.cl|exact hc) ?_;refine Sc.inLoop (by exact Jm.cl) ?_;exact IH k2 oM _ ⟨rfl,trivial⟩
theorem aER {k:Nat}(hc:Cl prog true O3 Fin):HJ (Jm prog X Fin k .wd j H) 128 [.pt X.Wg] fun v J'=> v=.tuple #[]/\J'=Fin:=by
 refine zU.at (by exact Jm.cl) aE1 (zU.enter (vs:= [.pt X.Wg]) func128 rfl ntmps128 Nb fun c cs hK=> ?_);refine Sc.seq (by first|exact Jm.cl|exact hc) ?_;refine Sc.cond (by first|exact Jm.cl|exact hc) (t:=true) rfl (fun _=> ?_) (fun h=> nomatch h);refine .rg rfl rfl ?_;refine So.dD rfl rfl rfl nofun rfl (.mk' rfl) rfl (Jm.wd aCL) ?_;rintro v J' ⟨k2,t,DU,⟨rfl,rfl⟩,rfl⟩;refine .dn ?_;refine Sc.block (by first|exact Jm.cl|exact hc) ?_;refine Sc.loop (by exact Jm.cl) ?_;exact R4 hc (hK _ _ ⟨rfl,rfl⟩) k2 _ ⟨rfl,trivial⟩
end
end Go.Proofs.YtldmfjcgjdchcaaGreatDoor
