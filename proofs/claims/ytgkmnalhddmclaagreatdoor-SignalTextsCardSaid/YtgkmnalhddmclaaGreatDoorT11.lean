/-
 Texts of the proofs over baudot/dial.
-/
import Derived.Test.YtgkmnalhddmclaaGreatDoorT10
namespace Go.Proofs.YtgkmnalhddmclaaGreatDoor
open Go.RL Go.Proofs.Tryz
set_option maxRecDepth 10000
set_option maxHeartbeats 16000000
theorem uP {s:List UInt8}(h:dC s [45]=false):UA 45 s=s:=by
 unfold UA;rw[h];rfl
theorem DR(s:List UInt8):dC s [45]=(s[0]? ==some 45):=by
 cases s with
 | nil=> rfl
 | cons x l=>
  unfold dC;simp only[List.length_cons,List.length_nil,List.getElem?_cons_zero];by_cases h:x=45
  ·subst h;simp
  ·have e:(x==45)=false:=beq_eq_false_iff_ne.2 h;simp[e]
theorem KV:∀(l:List UInt8) (n:Nat),n<=l.foldl (fun n x=> 10*n+(x.toNat-48)) n
 | [],n=> Nat.le_refl _
 | x::l,n=> by
  have:=KV l (10*n+(x.toNat-48));rw[List.foldl_cons];omega
theorem AX(d:List UInt8):RA (45::d)=(RA d&&decide (0<numOf d))/\(RA (45::d)=true->numOf (45::d)= -(numOf d)):=by
 have hb:dC (45::d) [45]=true:=by rw[DR];rfl
 have hu:UA 45 (45::d)=d:=by unfold UA;rw[hb];rfl
 cases hd:dC d [45] with
 | true=>
  obtain⟨e,rfl⟩:=CD hd;have h1:RA (45::45::e)=false:=by
   unfold RA;rw[hu];have:(45::e).all KD=false:=by simp[KD]
   rw[this];simp
  have h2:¬0<numOf (45::e):=by
   unfold numOf;rw[hd];simp only[if_true];omega
  rw[h1,decide_eq_false h2,Bool.and_false];exact⟨rfl,fun h=> by cases h⟩
 | false =>
  have hu2:=uP hd;have hn:numOf d=(aB d:Nat):=by unfold numOf;rw[hd,hu2];rfl
  have CK:numOf (45::d)= -((aB d:Nat):Int):=by unfold numOf;rw[hb,hu];rfl
  refine⟨?_,fun _=> by rw[hn,CK]⟩;unfold RA;rw[hu,hu2,hb,hd,hn];by_cases c1:1<=d.length/\d.length<=9
  ·rw[decide_eq_true c1,Bool.true_and];cases c2:d.all KD with
   | false=> simp
   | true=>
    simp only[Bool.true_and,Bool.not_true,Bool.and_false,Bool.or_false,Bool.not_false,Bool.and_true];obtain⟨x,l,rfl⟩:∃x l,d=x::l:=by
     cases d with
     | nil=> simp at c1
     | cons x l=> exact⟨x,l,rfl⟩
    simp only[List.getElem?_cons_zero,Option.getD_some];have hx:48<=x.toNat:=by
     have:=List.all_eq_true.1 c2 x List.mem_cons_self;exact(of_decide_eq_true this).1
    have jU:x.toNat-48<=aB (x::l):=by
     have:=KV l (10*0+(x.toNat-48));unfold aB;rw[List.foldl_cons];omega
    by_cases hx0:x=48
    ·subst hx0;cases l with
     | nil=> rfl
     | cons a l=> simp
    ·have h48:x.toNat≠48:=fun e=> hx0 (UInt8.toNat_inj.1 e);have h1:(x !=48)=true:=by simpa using hx0
     rw[h1,decide_eq_true oM];rfl
  ·rw[decide_eq_false c1];simp
section
variable(M:Md prog)(H:View)
theorem zV (s :List UInt8)(hm:s.length<=1000000)(hs:s.length<=1\/∃x0,s[(0:Int).toNat]? =some x0/\x0≠45):cA M 170 #[jA s] H (fun v H'=> H.le H'/\∃n:Int,v=.tuple ⟨[.int .i64 n,.bool (RA s)]⟩/\(-1000000000<=n/\n<=1000000000)/\(RA s=true->n=numOf s)):=by
 have SM:RA s=(decide (1<=s.length/\s.length<=9)&&s.all KD&&(s[0]?.getD 0 !=48||s.length==1))/\numOf s=(aB s:Nat)\/s= [45]:=by
  cases hb:dC s [45] with
  | false=>
   left
   unfold RA numOf;rw[hb,uP hb];exact⟨by simp,rfl⟩
  | true=>
   right
   obtain⟨q,rfl⟩:=CD hb;rcases hs with hs|⟨x0,h1,h2⟩
   ·obtain rfl:q= []:=List.length_eq_zero_iff.1 (by rw[List.length_cons] at hs;omega);rfl
   ·cases h1
    exact(h2 rfl).elim
 rcases SM with ⟨GB,tO⟩|rfl
 ·by_cases c9 : 1<=s.length/\s.length<=9
  ·rw[decide_eq_true c9,Bool.true_and] at GB;have e0:s[(0:Int).toNat]? =some (s[0]?.getD 0):=by
    show s[0]? =_;rw[List.getElem?_eq_getElem oM];rfl
   by_cases c1:s.length=1
   ·have K5:(s.length==1)=true:=by rw[c1];rfl
    rw[K5,Bool.or_true,Bool.and_true] at GB;have g1:gA .gtr .i64 ((s.length:Nat):Int) 1=some (.bool false):=UF oM;by_cases cd:s.all KD=true
    ·have aAj:RA s=true:=GB.trans cd;have pQ:∀i,i<s.length->(h:i<s.length)->KD s[i]=true:=fun i _ h=> List.all_eq_true.1 cd _ (List.getElem_mem h);have eQ:∀i,i<=s.length->aB (s.take i)<1000000000:=fun i hi=> by
      have h1:=uF cd i hi;have h2:10 ^ i<=10 ^ 9:=Nat.pow_le_pow_right oM oM;omega
     have oL:=eQ s.length (Nat.le_refl _);rw[List.take_length] at oL;refine .en func170 ntmps170 fun St c cs hK=> ?_;refine xR ?_;refine .cl (fun H hs=> dL M H (s.length:Nat) 1 9 true (by exact decide_eq_true oM)) ?_;refine xR ?_;refine Tc.db (Tc.vA (σ:= { i:Nat//i<=s.length }) (fun i=> ([(0,jA s),(6,.int .i64 (aB (s.take i.1):Nat)),(7,.int .i64 (i.1:Nat))],[])) (fun i=> s.length-i.1) ?_ ⟨0,Nat.zero_le _⟩);rintro⟨i,hi⟩ ih;show Tc M St _ _ _ _ [(0,jA s),(6,.int .i64 (aB (s.take i):Nat)),(7,.int .i64 (i:Nat))] [] _ _;by_cases c1:i=s.length
     ·clear ih;subst c1;rw[List.take_length];refine bJ ?_;refine .rt hK func170 results170 [_,_] ?_;rw[aAj];exact fun H' hs=> ⟨hs.base,_,rfl,oM,fun _=> tO.symm⟩
     ·have c2:i<s.length:=by omega
      have hd:KD s[i]=true:=pQ i oM c2;have hx:s[((i:Nat):Int).toNat]? =some s[i]:=by rw[Int.toNat_natCast,List.getElem?_eq_getElem c2]
      have mB:=eQ i oM;have mG:aB (s.take (i+1))=10*aB (s.take i)+(s[i].toNat-48):=by rw[List.take_succ_eq_append_getElem c2,DD]
      generalize s[i]=y2 at hx hd mG;have hd2:=of_decide_eq_true (show decide (48<=y2.toNat/\y2.toNat<58)=true from hd);obtain⟨w,hw⟩:∃w:Nat,w=y2.toNat-48:=⟨_,rfl⟩
      obtain⟨dv,hdv⟩:∃dv,dv=aB (s.take i):=⟨_,rfl⟩
      rw[<-hdv] at mB mG ⊢;have m0:IntKind.i64.wrap ((y2.toNat:Nat):Int)=((y2.toNat:Nat):Int):=wrap64 oM oM;have m1:gA .mul .i64 10 ((dv:Nat):Int)=some (.int .i64 ((10*dv:Nat):Int)):=(JC oM oM).trans (by rw[Int.natCast_mul];rfl);have m2:gA .add .i64 ((10*dv:Nat):Int) ((y2.toNat:Nat):Int)=some (.int .i64 ((10*dv+y2.toNat:Nat):Int)):=(tC oM oM).trans (by rw[Int.natCast_add]);have m3:gA .sub .i64 ((10*dv+y2.toNat:Nat):Int) 48=some (.int .i64 ((aB (s.take (i+1)):Nat):Int)):=(GF oM oM).trans (by congr 2;omega);refine pH ?_;refine .cl (fun H hs=> tF M H y2 true hd) ?_;refine wR ?_;exact Tc.db (ih ⟨i+1,oM⟩ (by simp only;omega))
    ·have wG:RA s=false:=GB.trans (by simpa using cd);obtain⟨j,y,hj,hy,pQ,mZ⟩:∃(j:Nat) (y:UInt8),s[j]? =some y/\KD y=false/\(∀i,i<j->(h:i<s.length)->KD s[i]=true)/\j<s.length:=by
      have h1:(s.all KD)=false:=by simpa using cd
      clear GB tO hs e0 c9 c1 g1 K5;clear wG cd;induction s with
      | nil=> cases h1
      | cons a l ihl=>
       cases ha:KD a with
       | false=> exact⟨0,a,rfl,ha,fun i hi=> by omega,by simp⟩
       | true=>
        have h2:l.all KD=false:=by simpa [ha] using h1
        obtain⟨j,y,g1,g2,g3,g4⟩:=ihl (by simp at hm;omega) h2;refine⟨j+1,y,by simpa using g1,g2,fun i hi h=> ?_,by simpa using g4⟩;cases i with
        | zero=> exact ha
        | succ i=> exact g3 i oM (by simpa using h)
     have eQ:∀i,i<=j->aB (s.take i)<1000000000:=fun i hi=> by
      have h0:(s.take i).all KD=true:=by
       rw[List.all_eq_true];intro x hx;obtain⟨q,hq,rfl⟩:=List.mem_iff_getElem.1 hx;rw[List.length_take] at hq;rw[List.getElem_take];exact pQ q oM oM
      have h1:=uF h0 i (by rw[List.length_take];omega);rw[List.take_take,Nat.min_self] at h1;have h2:10 ^ i<=10 ^ 9:=Nat.pow_le_pow_right oM oM;omega
     refine .en func170 ntmps170 fun St c cs hK=> ?_;refine xR ?_;refine .cl (fun H hs=> dL M H (s.length:Nat) 1 9 true (by exact decide_eq_true oM)) ?_;refine xR ?_;refine Tc.db (Tc.vA (σ:= { i:Nat//i<=j }) (fun i=> ([(0,jA s),(6,.int .i64 (aB (s.take i.1):Nat)),(7,.int .i64 (i.1:Nat))],[])) (fun i=> j-i.1) ?_ ⟨0,Nat.zero_le _⟩);rintro⟨i,hi⟩ ih;show Tc M St _ _ _ _ [(0,jA s),(6,.int .i64 (aB (s.take i):Nat)),(7,.int .i64 (i:Nat))] [] _ _;by_cases c1:i=j
     ·clear ih;subst c1;have hx:s[((i:Nat):Int).toNat]? =some y:=hj;refine pH ?_;refine .cl (fun H hs=> tF M H y false hy) ?_;refine U8 ?_;refine .rt hK func170 results170 [_,_] ?_;rw[wG];exact fun H' hs=> ⟨hs.base,0,rfl,oM,fun h=> by cases h⟩
     ·have c2:i<s.length:=by omega
      have hd:KD s[i]=true:=pQ i oM c2;have hx:s[((i:Nat):Int).toNat]? =some s[i]:=by rw[Int.toNat_natCast,List.getElem?_eq_getElem c2]
      have mB:=eQ i oM;have mG:aB (s.take (i+1))=10*aB (s.take i)+(s[i].toNat-48):=by rw[List.take_succ_eq_append_getElem c2,DD]
      generalize s[i]=y2 at hx hd mG;have hd2:=of_decide_eq_true (show decide (48<=y2.toNat/\y2.toNat<58)=true from hd);obtain⟨w,hw⟩:∃w:Nat,w=y2.toNat-48:=⟨_,rfl⟩
      obtain⟨dv,hdv⟩:∃dv,dv=aB (s.take i):=⟨_,rfl⟩
      rw[<-hdv] at mB mG ⊢;have m0:IntKind.i64.wrap ((y2.toNat:Nat):Int)=((y2.toNat:Nat):Int):=wrap64 oM oM;have m1:gA .mul .i64 10 ((dv:Nat):Int)=some (.int .i64 ((10*dv:Nat):Int)):=(JC oM oM).trans (by rw[Int.natCast_mul];rfl);have m2:gA .add .i64 ((10*dv:Nat):Int) ((y2.toNat:Nat):Int)=some (.int .i64 ((10*dv+y2.toNat:Nat):Int)):=(tC oM oM).trans (by rw[Int.natCast_add]);have m3:gA .sub .i64 ((10*dv+y2.toNat:Nat):Int) 48=some (.int .i64 ((aB (s.take (i+1)):Nat):Int)):=(GF oM oM).trans (by congr 2;omega);refine pH ?_;refine .cl (fun H hs=> tF M H y2 true hd) ?_;refine wR ?_;exact Tc.db (ih ⟨i+1,oM⟩ (by simp only;omega))
   ·have K5:(s.length==1)=false:=beq_eq_false_iff_ne.2 c1;rw[K5,Bool.or_false] at GB;have g1:gA .gtr .i64 ((s.length:Nat):Int) 1=some (.bool true):=zF oM;have gB:s[0]?.getD 0≠45:=by
     rcases hs with hs|⟨x0,h1,h2⟩
     ·omega
     ·have h1:s[0]? =some x0:=h1;rw[h1];exact h2
    generalize s[0]?.getD 0=x0 at e0 GB gB;have g2:gA .eql .u8 ((x0.toNat:Nat):Int) 45=some (.bool false):=CB (fun e=> gB (UInt8.toNat_inj.1 (by show x0.toNat=45;omega)));by_cases c48:x0=48
    ·subst c48;have wG:RA s=false:=GB.trans (by simp);have g3:gA .eql .u8 (((48:UInt8).toNat:Nat):Int) 48=some (.bool true):=vC rfl;refine .en func170 ntmps170 fun St c cs hK=> ?_;refine xR ?_;refine .cl (fun H hs=> dL M H (s.length:Nat) 1 9 true (by exact decide_eq_true oM)) ?_;refine pH ?_;refine .rt hK func170 results170 [_,_] ?_;rw[wG];exact fun H' hs=> ⟨hs.base,0,rfl,oM,fun h=> by cases h⟩
    ·have h48:(x0 !=48)=true:=by simpa using c48
     rw[h48,Bool.and_true] at GB;have g3:gA .eql .u8 ((x0.toNat:Nat):Int) 48=some (.bool false):=CB (fun e=> c48 (UInt8.toNat_inj.1 (by show x0.toNat=48;omega)));by_cases cd:s.all KD=true
     ·have aAj:RA s=true:=GB.trans cd;have pQ:∀i,i<s.length->(h:i<s.length)->KD s[i]=true:=fun i _ h=> List.all_eq_true.1 cd _ (List.getElem_mem h);have eQ:∀i,i<=s.length->aB (s.take i)<1000000000:=fun i hi=> by
       have h1:=uF cd i hi;have h2:10 ^ i<=10 ^ 9:=Nat.pow_le_pow_right oM oM;omega
      have oL:=eQ s.length (Nat.le_refl _);rw[List.take_length] at oL;refine .en func170 ntmps170 fun St c cs hK=> ?_;refine xR ?_;refine .cl (fun H hs=> dL M H (s.length:Nat) 1 9 true (by exact decide_eq_true oM)) ?_;refine xR ?_;refine Tc.db (Tc.vA (σ:= { i:Nat//i<=s.length }) (fun i=> ([(0,jA s),(6,.int .i64 (aB (s.take i.1):Nat)),(7,.int .i64 (i.1:Nat))],[])) (fun i=> s.length-i.1) ?_ ⟨0,Nat.zero_le _⟩);rintro⟨i,hi⟩ ih;show Tc M St _ _ _ _ [(0,jA s),(6,.int .i64 (aB (s.take i):Nat)),(7,.int .i64 (i:Nat))] [] _ _;by_cases c1:i=s.length
      ·clear ih;subst c1;rw[List.take_length];refine bJ ?_;refine .rt hK func170 results170 [_,_] ?_;rw[aAj];exact fun H' hs=> ⟨hs.base,_,rfl,oM,fun _=> tO.symm⟩
      ·have c2:i<s.length:=by omega
       have hd:KD s[i]=true:=pQ i oM c2;have hx:s[((i:Nat):Int).toNat]? =some s[i]:=by rw[Int.toNat_natCast,List.getElem?_eq_getElem c2]
       have mB:=eQ i oM;have mG:aB (s.take (i+1))=10*aB (s.take i)+(s[i].toNat-48):=by rw[List.take_succ_eq_append_getElem c2,DD]
       generalize s[i]=y2 at hx hd mG;have hd2:=of_decide_eq_true (show decide (48<=y2.toNat/\y2.toNat<58)=true from hd);obtain⟨w,hw⟩:∃w:Nat,w=y2.toNat-48:=⟨_,rfl⟩
       obtain⟨dv,hdv⟩:∃dv,dv=aB (s.take i):=⟨_,rfl⟩
       rw[<-hdv] at mB mG ⊢;have m0:IntKind.i64.wrap ((y2.toNat:Nat):Int)=((y2.toNat:Nat):Int):=wrap64 oM oM;have m1:gA .mul .i64 10 ((dv:Nat):Int)=some (.int .i64 ((10*dv:Nat):Int)):=(JC oM oM).trans (by rw[Int.natCast_mul];rfl);have m2:gA .add .i64 ((10*dv:Nat):Int) ((y2.toNat:Nat):Int)=some (.int .i64 ((10*dv+y2.toNat:Nat):Int)):=(tC oM oM).trans (by rw[Int.natCast_add]);have m3:gA .sub .i64 ((10*dv+y2.toNat:Nat):Int) 48=some (.int .i64 ((aB (s.take (i+1)):Nat):Int)):=(GF oM oM).trans (by congr 2;omega);refine pH ?_;refine .cl (fun H hs=> tF M H y2 true hd) ?_;refine wR ?_;exact Tc.db (ih ⟨i+1,oM⟩ (by simp only;omega))
     ·have wG:RA s=false:=GB.trans (by simpa using cd);obtain⟨j,y,hj,hy,pQ,mZ⟩:∃(j:Nat) (y:UInt8),s[j]? =some y/\KD y=false/\(∀i,i<j->(h:i<s.length)->KD s[i]=true)/\j<s.length:=by
       have h1:(s.all KD)=false:=by simpa using cd
       clear GB tO hs e0 c9 c1 g1 K5 gB g2 h48 g3 c48;clear wG cd;induction s with
       | nil=> cases h1
       | cons a l ihl=>
        cases ha:KD a with
        | false=> exact⟨0,a,rfl,ha,fun i hi=> by omega,by simp⟩
        | true=>
         have h2:l.all KD=false:=by simpa [ha] using h1
         obtain⟨j,y,g1,g2,g3,g4⟩:=ihl (by simp at hm;omega) h2;refine⟨j+1,y,by simpa using g1,g2,fun i hi h=> ?_,by simpa using g4⟩;cases i with
         | zero=> exact ha
         | succ i=> exact g3 i oM (by simpa using h)
      have eQ:∀i,i<=j->aB (s.take i)<1000000000:=fun i hi=> by
       have h0:(s.take i).all KD=true:=by
        rw[List.all_eq_true];intro x hx;obtain⟨q,hq,rfl⟩:=List.mem_iff_getElem.1 hx;rw[List.length_take] at hq;rw[List.getElem_take];exact pQ q oM oM
       have h1:=uF h0 i (by rw[List.length_take];omega);rw[List.take_take,Nat.min_self] at h1;have h2:10 ^ i<=10 ^ 9:=Nat.pow_le_pow_right oM oM;omega
      refine .en func170 ntmps170 fun St c cs hK=> ?_;refine xR ?_;refine .cl (fun H hs=> dL M H (s.length:Nat) 1 9 true (by exact decide_eq_true oM)) ?_;refine xR ?_;refine Tc.db (Tc.vA (σ:= { i:Nat//i<=j }) (fun i=> ([(0,jA s),(6,.int .i64 (aB (s.take i.1):Nat)),(7,.int .i64 (i.1:Nat))],[])) (fun i=> j-i.1) ?_ ⟨0,Nat.zero_le _⟩);rintro⟨i,hi⟩ ih;show Tc M St _ _ _ _ [(0,jA s),(6,.int .i64 (aB (s.take i):Nat)),(7,.int .i64 (i:Nat))] [] _ _;by_cases c1:i=j
      ·clear ih;subst c1;have hx:s[((i:Nat):Int).toNat]? =some y:=hj;refine pH ?_;refine .cl (fun H hs=> tF M H y false hy) ?_;refine U8 ?_;refine .rt hK func170 results170 [_,_] ?_;rw[wG];exact fun H' hs=> ⟨hs.base,0,rfl,oM,fun h=> by cases h⟩
      ·have c2:i<s.length:=by omega
       have hd:KD s[i]=true:=pQ i oM c2;have hx:s[((i:Nat):Int).toNat]? =some s[i]:=by rw[Int.toNat_natCast,List.getElem?_eq_getElem c2]
       have mB:=eQ i oM;have mG:aB (s.take (i+1))=10*aB (s.take i)+(s[i].toNat-48):=by rw[List.take_succ_eq_append_getElem c2,DD]
       generalize s[i]=y2 at hx hd mG;have hd2:=of_decide_eq_true (show decide (48<=y2.toNat/\y2.toNat<58)=true from hd);obtain⟨w,hw⟩:∃w:Nat,w=y2.toNat-48:=⟨_,rfl⟩
       obtain⟨dv,hdv⟩:∃dv,dv=aB (s.take i):=⟨_,rfl⟩
       rw[<-hdv] at mB mG ⊢;have m0:IntKind.i64.wrap ((y2.toNat:Nat):Int)=((y2.toNat:Nat):Int):=wrap64 oM oM;have m1:gA .mul .i64 10 ((dv:Nat):Int)=some (.int .i64 ((10*dv:Nat):Int)):=(JC oM oM).trans (by rw[Int.natCast_mul];rfl);have m2:gA .add .i64 ((10*dv:Nat):Int) ((y2.toNat:Nat):Int)=some (.int .i64 ((10*dv+y2.toNat:Nat):Int)):=(tC oM oM).trans (by rw[Int.natCast_add]);have m3:gA .sub .i64 ((10*dv+y2.toNat:Nat):Int) 48=some (.int .i64 ((aB (s.take (i+1)):Nat):Int)):=(GF oM oM).trans (by congr 2;omega);refine pH ?_;refine .cl (fun H hs=> tF M H y2 true hd) ?_;refine wR ?_;exact Tc.db (ih ⟨i+1,oM⟩ (by simp only;omega))
  ·have wG:RA s=false:=GB.trans (by rw[decide_eq_false c9];rfl);by_cases c0:s.length=0
   ·have g1:gA .gtr .i64 ((s.length:Nat):Int) 1=some (.bool false):=UF oM;refine .en func170 ntmps170 fun St c cs hK=> ?_;refine xR ?_;refine .cl (fun H hs=> dL M H (s.length:Nat) 1 9 false (by exact decide_eq_false oM)) ?_;refine U6 ?_;refine To.LA rfl dE rfl ?_;refine To.LA rfl dE rfl ?_;refine To.LA rfl dE rfl ?_;refine U9 ?_;refine .rt hK func170 results170 [_,_] ?_;rw[wG];exact fun H' hs=> ⟨hs.base,0,rfl,oM,fun h=> by cases h⟩
   ·obtain⟨x0,e0,gB⟩:∃x0,s[(0:Int).toNat]? =some x0/\x0≠45:=hs.resolve_left oM;have g1:gA .gtr .i64 ((s.length:Nat):Int) 1=some (.bool true):=zF oM;have g2:gA .eql .u8 ((x0.toNat:Nat):Int) 45=some (.bool false):=CB (fun e=> gB (UInt8.toNat_inj.1 (by show x0.toNat=45;omega)));refine .en func170 ntmps170 fun St c cs hK=> ?_;refine xR ?_;refine .cl (fun H hs=> dL M H (s.length:Nat) 1 9 false (by exact decide_eq_false oM)) ?_;refine U6 ?_;refine To.LA rfl dE rfl ?_;refine To.LA rfl dE rfl ?_;refine To.LA rfl dE rfl ?_;refine U9 ?_;refine .rt hK func170 results170 [_,_] ?_;rw[wG];exact fun H' hs=> ⟨hs.base,0,rfl,oM,fun h=> by cases h⟩
 ·refine .en func170 ntmps170 fun St c cs hK=> ?_;refine xR ?_;refine .cl (fun H hs=> dL M H (1:Nat) 1 9 true dE) ?_;refine xR ?_;refine Tc.db (Tc.vA (σ:=Unit) (fun _=> ([(0,jA [45]),(6,.int .i64 (0:Nat)),(7,.int .i64 (0:Nat))],[])) (fun _=> 0) ?_ ());intro _ ih;clear ih;show Tc M St _ _ _ _ [(0,jA [45]),(6,.int .i64 (0:Nat)),(7,.int .i64 (0:Nat))] [] _ _;refine xT ?_;refine .x (oA.uJ (E:=en) rfl rfl rfl rfl rfl oM (by exact rfl)) ?_;refine .cl (fun H hs=> tF M H 45 false dE) ?_;refine U8 ?_;refine .rt hK func170 results170 [_,_] ?_;exact fun H' hs=> ⟨hs.base,0,rfl,oM,fun h=> by cases h⟩
theorem sY:∀(m:Nat) (s:List UInt8) (H:View),s.length<=m->m<=1000000->cA M 170 #[jA s] H (fun v H'=> H.le H'/\∃n:Int,v=.tuple ⟨[.int .i64 n,.bool (RA s)]⟩/\(-1000000000<=n/\n<=1000000000)/\(RA s=true->n=numOf s))
 | 0,s,H,hs,hm=> zV M H s oM (.inl oM)
 | m + 1,s,H,hs,hm=> by
  match s,hs with
  | [],hs=> exact zV M H [] oM (.inl (by simp))
  | [x],hs=> exact zV M H [x] (by simp) (.inl (by simp))
  | x ::z::d,hs=>
   by_cases c:x=45
   ·subst c;have ih:=sY m (z::d) H (by simp at hs ⊢;omega) oM;obtain⟨l1,l2⟩:=AX (z::d);have hsl:(45::z::d).length=(z::d).length+1:=rfl;have hd1:1<=(z::d).length:=by simp
    have hdm:(z::d).length<=m:=by simp at hs ⊢;omega
    generalize z::d=d at ih l1 l2 hsl hd1 hdm;have t1:((45::d).drop (1:Int).toNat).take ((((45::d).length:Nat):Int).toNat-(1:Int).toNat)=d:=by
     show d.take (d.length+1-1)=d;rw[Nat.add_sub_cancel,List.take_length]
    have g1:gA .gtr .i64 (((45::d).length:Nat):Int) 1=some (.bool true):=zF oM;refine .en func170 ntmps170 fun St c cs hK=> ?_;refine aJ ?_;refine .x (oA.uJ (E:=en) rfl rfl rfl rfl rfl oM (by exact rfl)) ?_;refine U7 ?_;refine .x (oA.CN (E:=en) rfl rfl rfl rfl rfl rfl oM oM oM t1) ?_;refine To.sF rfl rfl rfl rfl rfl rfl dE (UC.h ih) (fun v H₁ hv=> ?_);obtain⟨hle,n,rfl,hn,hv⟩:=hv;cases ho:RA d with
    | false=>
     rw[ho] at l1;rw[Bool.false_and] at l1;refine U9 ?_;refine .x .ng ?_;refine U8 ?_;refine .rt hK func170 results170 [_,_] ?_;rw[l1];exact fun H' hs=> ⟨View.le_trans hle hs.base, -n,rfl,oM,fun h=> by cases h⟩
    | true=>
     have hv:=hv ho;rw[ho,Bool.true_and,<-hv] at l1;by_cases c0:0<n
     ·rw[decide_eq_true c0] at l1;have l3:=l2 l1;refine U9 ?_;refine .x .ng ?_;refine U8 ?_;refine .rt hK func170 results170 [_,_] ?_;rw[l1];exact fun H' hs=> ⟨View.le_trans hle hs.base, -n,rfl,oM,fun _=> by rw[l3,hv]⟩
     ·rw[decide_eq_false c0] at l1;refine U9 ?_;refine .x .ng ?_;refine U8 ?_;refine .rt hK func170 results170 [_,_] ?_;rw[l1];exact fun H' hs=> ⟨View.le_trans hle hs.base, -n,rfl,oM,fun h=> by cases h⟩
   ·exact zV M H (x::z::d) oM (.inr ⟨x,rfl,c⟩)
end
def kS(l:List Int):List Value:=l.map fun z=> .int .i64 z
def PW(xs:List Int)(x:Nat×Nat×List Value):Value:=.tuple ⟨[.slice (some ⟨x.1,0,none⟩) xs.length x.2.1,.bool true]⟩
def NP(xs:List Int)(x:Nat×Nat×List Value):Bl:= [(x.1,true,.cells ⟨kS xs++x.2.2⟩ 3 (0,0))]
theorem UG(xs:List Int)(x:Nat×Nat×List Value):((NP xs x).map (·.1)).Nodup:=by simp[NP]
def wD(x:Nat->List UInt8)(n:Nat):List Int:=(List.range n).map fun i=> numOf (x i)
theorem fX {x:Nat->List UInt8}{n:Nat}(h:¬∀i,i<n->RA (x i)=true):∃j,j<n/\RA (x j)=false/\∀i,i<j->RA (x i)=true:=by
 induction n with
 | zero=> exact(h fun i hi=> by omega).elim
 | succ n ih=>
  by_cases c:∀i,i<n->RA (x i)=true
  ·refine⟨n,oM,?_,c⟩;cases e:RA (x n) with
   | false=> rfl
   | true=>
    refine(h fun i hi=> ?_).elim;by_cases c2:i=n
    ·subst c2;exact e
    ·exact c i oM
  ·obtain⟨j,h1,h2,h3⟩:=ih c;exact⟨j,oM,h2,h3⟩
theorem zL {q:List UInt8}(h:(58:UInt8)∈q):RA q=false:=by
 have h1:(58:UInt8)∈UA 45 q:=by
  unfold UA;split
  ·rename_i hb
   obtain⟨r,rfl⟩:=CD hb;rcases List.mem_cons.1 h with h|h
   ·cases h
   ·exact h
  ·exact h
 have h2:(UA 45 q).all KD=false:=by
  rw[List.all_eq_false];exact⟨58,h1,by decide⟩
 unfold RA;rw[h2];simp
section
variable(M:Md prog)(H:View)
theorem tY(s:List UInt8)(hm:s.length<=1000000)(h:RA s=true):cA M 170 #[jA s] H (fun v H'=> H.le H'/\v=.tuple ⟨[.int .i64 (numOf s),.bool true]⟩):=
 cA.mono (sY M s.length s H (Nat.le_refl _) hm) fun v H' hv=> by
  obtain⟨h1,n,rfl,_,h2⟩:=hv;rw[h2 h,h];exact⟨h1,rfl⟩
theorem m9(s:List UInt8)(hm:s.length<=1000000)(h:RA s=false):cA M 170 #[jA s] H (fun v H'=> H.le H'/\∃n:Int,v=.tuple ⟨[.int .i64 n,.bool false]⟩):=
 cA.mono (sY M s.length s H (Nat.le_refl _) hm) fun v H' hv=> by
  obtain⟨h1,n,rfl,_,h2⟩:=hv;rw[h];exact⟨h1,n,rfl⟩
theorem j9(A:Option Addr)(n ac:Nat)(x:Nat->List UInt8)(hA:PH H A n x)(hn:n<=1000001)(qU:1<=n)(hx:∀i,i<n->(x i).length<=1000000/\RA (x i)=true):
  cA M 120 #[.slice A n ac] H (fun v H'=> H.le H'/\∃y,v=PW (wD x n) y/\n<=y.2.1/\∀z∈NP (wD x n) y,H' z.1=some z.2/\H z.1=none):=by
 obtain h0|⟨ab,ao,f,gs,gt,gz,rfl,hb,hl⟩:=hA
 ·omega
 refine .en func120 ntmps120 fun St c cs hK=> ?_;refine WL ?_;refine Tc.db (Tc.vA (σ:= { y:Nat×Gl 3 1//y.1<=n/\y.2.n=y.1/\y.2.l=kS (wD x y.1) }) (fun y=> ([(0,.slice (some ⟨ab,ao,none⟩) n ac),(4,y.1.2.val),(5,.int .i64 (y.1.1:Nat))],y.1.2.bl)) (fun y=> n-y.1.1) ?_ ⟨(0,Gl.nil 3 1),Nat.zero_le _,rfl,rfl⟩);rintro⟨⟨i,g⟩,hi,uD,ZE⟩ ih;simp only at hi uD ZE;show Tc M St _ _ _ _ [(0,.slice (some ⟨ab,ao,none⟩) n ac),(4,g.val),(5,.int .i64 (i:Nat))] g.bl _ _;by_cases c1:i=n
 ·clear ih;subst c1;refine bJ ?_;refine .rt hK func120 results120 [_,_] ?_;refine fun H' hs=> ⟨hs.base,?_⟩
  obtain⟨b,hb⟩:∃b,g.blk=some b:=by
   cases h:g.blk with
   | some b=> exact⟨b,rfl⟩
   | none=> have:=g.h0 h;have:=g.hc;omega
  have hlen:(wD x i).length=i:=by simp[wD]
  refine⟨(b,g.cap,g.CC),?_,by rw[<-uD];exact g.hc,fun z hz=> ?_⟩
  ·unfold PW Gl.val;rw[hb,uD,hlen];rfl
  ·have hZ:g.bl=NP (wD x i) (b,g.cap,g.CC):=by unfold Gl.bl NP;rw[hb,ZE]
   rw[<-hZ] at hz;exact⟨hs.at_ z hz,hs.out z hz⟩
 ·have c2:i<n:=by omega
  have f1:=hl i c2;obtain⟨h1,h2⟩:=hx i c2;have UM:=fun H=> tY M H (x i) h1 h2;have mG:kS (wD x (i+1))=kS (wD x i)++[.int .i64 (numOf (x i))]:=by unfold kS wD;rw[List.range_succ,List.map_append,List.map_append];rfl
  generalize numOf (x i)=w at UM mG;refine pH ?_;refine .cl (fun H hs=> UM H) ?_;refine xT ?_;refine .e (.bs (zz:=fun bs=> ?_));refine .e (Or.append (E:=en) 1 rfl rfl rfl rfl rfl rfl rfl rfl rfl rfl rfl rfl rfl rfl rfl (fun H hs=> NA.of (hs.get (i:=0) rfl) (Nat.le_of_ble_eq_true rfl)) rfl oM rfl dE (fun g3 Y5 dW=> ?_));refine U8 ?_;exact Tc.db (ih ⟨(i+1,g3),by simp only;omega,by simp only;omega,by simp only;rw[dW,ZE,mG];rfl⟩ (by simp only;omega))
theorem e9(A:Option Addr)(n ac:Nat)(x:Nat->List UInt8)(hA:PH H A n x)(hn:n<=1000001)(hx:∀i,i<n->(x i).length<=1000000)(gZ:¬∀i,i<n->RA (x i)=true):
  cA M 120 #[.slice A n ac] H (fun v H'=> H.le H'/\v=.tuple ⟨[.slice none 0 0,.bool false]⟩):=by
 obtain⟨j,hj,hjn,mZ⟩:=fX gZ;obtain h0|⟨ab,ao,f,gs,gt,gz,rfl,hb,hl⟩:=hA
 ·omega
 refine .en func120 ntmps120 fun St c cs hK=> ?_;refine WL ?_;refine Tc.db (Tc.vA (σ:= { y:Nat×Gl 3 1//y.1<=j/\y.2.n=y.1 }) (fun y=> ([(0,.slice (some ⟨ab,ao,none⟩) n ac),(4,y.1.2.val),(5,.int .i64 (y.1.1:Nat))],y.1.2.bl)) (fun y=> j-y.1.1) ?_ ⟨(0,Gl.nil 3 1),Nat.zero_le _,rfl⟩);rintro⟨⟨i,g⟩,hi,uD⟩ ih;simp only at hi uD;show Tc M St _ _ _ _ [(0,.slice (some ⟨ab,ao,none⟩) n ac),(4,g.val),(5,.int .i64 (i:Nat))] g.bl _ _;by_cases c1:i=j
 ·clear ih;subst c1;have f1:=hl i hj;refine pH ?_;refine To.sF rfl rfl rfl rfl rfl rfl dE (UC.h (m9 M H (x i) (hx i hj) hjn)) (fun v H₁ hv=> ?_);obtain⟨hle,w,rfl⟩:=hv;refine pH ?_;refine .rt hK func120 results120 [_,_] ?_;exact fun H' hs=> ⟨View.le_trans hle hs.base,rfl⟩
 ·have c2:i<n:=by omega
  have f1:=hl i c2;have h1:=hx i c2;have h2:=mZ i oM;have UM:=fun H=> tY M H (x i) h1 h2;generalize numOf (x i)=w at UM;refine pH ?_;refine .cl (fun H hs=> UM H) ?_;refine xT ?_;refine .e (.bs (zz:=fun bs=> ?_));refine .e (Or.append (E:=en) 1 rfl rfl rfl rfl rfl rfl rfl rfl rfl rfl rfl rfl rfl rfl rfl (fun H hs=> NA.of (hs.get (i:=0) rfl) (Nat.le_of_ble_eq_true rfl)) rfl oM rfl dE (fun g3 Y5 dW=> ?_));refine U8 ?_;exact Tc.db (ih ⟨(i+1,g3),by simp only;omega,by simp only;omega⟩ (by simp only;omega))
end
section
variable(M:Md prog)(H:View)
theorem rR(s:List UInt8)(hm:s.length<=1000000)(h:¬∀i,i<(nA 58 s).length->RA ((nA 58 s)[i]?.getD [])=true):cA M 83 #[jA s] H (fun v H'=> H.le H'/\v=.tuple ⟨[rB 0 0,.bool false]⟩):=by
 have hp:=fun H=> oK M H s 58 hm;have hb:=QE 58 s;have hlen:(nA 58 s).length<=1000001:=by
  have h1:=YB 58 s;have h2:s.count 58<=s.length:=List.count_le_length;omega
 generalize nA 58 s=P at hp hlen h hb;have rO:∀i,i<P.length->(P[i]?.getD []).length<=1000000:=fun i hi=> by
  rw[List.getElem?_eq_getElem hi];have:=hb _ (List.getElem_mem hi);simp only[Option.getD_some];omega
 refine .en func83 ntmps83 fun St c cs hK=> ?_;refine U2 ?_;refine .al fun b2=> ?_;refine U5 ?_;refine .e (Or.uA (W6 P) (uW P) (fun x=> P.length<=x.2.1) rfl rfl rfl rfl rfl dE (rD P) (fun H hs=> .h (hp H)) (fun x hx=> ?_));refine .cl (fun H hs=> e9 M H (some ⟨x.1,0,none⟩) P.length x.2.1 (fun i=> P[i]?.getD []) (vK (P:=P) (jj:=x.2.2) (hs.get (i:=1) rfl)) hlen rO h) ?_;refine X1 ?_;refine Tc.dr [] [0] mixed rfl ?_;refine V3 0 ?_;refine .nw 3 ?_;refine .nw 4 ?_;refine .nw 5 ?_;refine V2 6 ?_;refine .nw 8 ?_;refine .nw 9 ?_;refine .nw 10 ?_;refine .nw 11 ?_;refine .nw 12 ?_;refine .nw 13 ?_;refine .nw 14 ?_;refine .nn 15 ?_;refine .dn ?_;refine U7 ?_;refine .rt hK func83 results83 [_,_] ?_;exact okB
theorem sR(s:List UInt8)(hm:s.length<=1000000)(h:∀i,i<(nA 58 s).length->RA ((nA 58 s)[i]?.getD [])=true):
  cA M 83 #[jA s] H (fun v H'=> H.le H'/\v=(match wD (fun i=> (nA 58 s)[i]?.getD []) (nA 58 s).length with
   | [a]=> .tuple ⟨[rB a a,.bool true]⟩
   | [a,b]=> if a=b then .tuple ⟨[rB 0 0,.bool false]⟩ else .tuple ⟨[rB a b,.bool true]⟩
   | _=> .tuple ⟨[rB 0 0,.bool false]⟩)):=by
 have hp:=fun H=> oK M H s 58 hm;have hb:=QE 58 s;have qU:1<=(nA 58 s).length:=List.length_pos_iff.2 (AE 58 s);have hlen:(nA 58 s).length<=1000001:=by
  have h1:=YB 58 s;have h2:s.count 58<=s.length:=List.count_le_length;omega
 generalize nA 58 s=P at hp hlen h hb qU;have rO:∀i,i<P.length->(P[i]?.getD []).length<=1000000/\RA (P[i]?.getD [])=true:=fun i hi=> by
  refine⟨?_,h i hi⟩;rw[List.getElem?_eq_getElem hi];have:=hb _ (List.getElem_mem hi);simp only[Option.getD_some];omega
 have zA:=fun(H':View) (x:Nat×Nat×List Value) (h':∀z∈uW P x,H' z.1=some z.2)=> j9 M H' (some ⟨x.1,0,none⟩) P.length x.2.1 (fun i=> P[i]?.getD []) (vK (P:=P) (jj:=x.2.2) (h' _ List.mem_cons_self)) hlen qU rO;obtain⟨xs,QL⟩:∃xs,xs=wD (fun i=> P[i]?.getD []) P.length:=⟨_,rfl⟩
 have rX:xs.length=P.length:=by rw[QL];simp[wD]
 rw[<-QL] at zA ⊢
 match xs,rX with
 | [],rX=> rw[<-rX] at qU;cases qU
 | [a],rX=>
  refine .en func83 ntmps83 fun St c cs hK=> ?_;refine U2 ?_;refine .al fun b2=> ?_;refine U5 ?_;refine .e (Or.uA (W6 P) (uW P) (fun x=> P.length<=x.2.1) rfl rfl rfl rfl rfl dE (rD P) (fun H hs=> .h (hp H)) (fun x hx=> ?_));refine .e (Or.uA (PW [a]) (NP [a]) (fun y=> P.length<=y.2.1) rfl rfl rfl rfl rfl dE (UG [a]) (fun H hs=> .h (zA H x (fun z hz=> hs.at_ z (List.mem_append_right _ hz)))) (fun y hy=> ?_));refine pH ?_;refine Tc.dr [7] [0] mixed rfl ?_;refine V7 0 ?_;refine .e 7 0 ?_;refine .nw 8 ?_;refine .dn ?_;refine .rt hK func83 results83 [_,_] ?_;exact okB
 | [a,b],rX=>
  have RJ:([a,b]:List Int).length=2:=rfl;by_cases hY:a=b
  ·subst hY;have e1:gA .eql .i64 a a=some (.bool true):=vC rfl;refine .en func83 ntmps83 fun St c cs hK=> ?_;refine U2 ?_;refine .al fun b2=> ?_;refine U5 ?_;refine .e (Or.uA (W6 P) (uW P) (fun x=> P.length<=x.2.1) rfl rfl rfl rfl rfl dE (rD P) (fun H hs=> .h (hp H)) (fun x hx=> ?_));refine .e (Or.uA (PW [a,a]) (NP [a,a]) (fun y=> P.length<=y.2.1) rfl rfl rfl rfl rfl dE (UG [a,a]) (fun H hs=> .h (zA H x (fun z hz=> hs.at_ z (List.mem_append_right _ hz)))) (fun y hy=> ?_));refine X1 ?_;refine Tc.dr [] [0] mixed rfl ?_;refine V16 0 ?_;refine .dn ?_;refine U7 ?_;refine .rt hK func83 results83 [_,_] ?_;exact fun H' hs=> ⟨hs.base,by show _=(if a=a then _ else _);rw[if_pos rfl];rfl⟩
  ·have e1:gA .eql .i64 a b=some (.bool false):=CB hY;refine .en func83 ntmps83 fun St c cs hK=> ?_;refine U2 ?_;refine .al fun b2=> ?_;refine U5 ?_;refine .e (Or.uA (W6 P) (uW P) (fun x=> P.length<=x.2.1) rfl rfl rfl rfl rfl dE (rD P) (fun H hs=> .h (hp H)) (fun x hx=> ?_));refine .e (Or.uA (PW [a,b]) (NP [a,b]) (fun y=> P.length<=y.2.1) rfl rfl rfl rfl rfl dE (UG [a,b]) (fun H hs=> .h (zA H x (fun z hz=> hs.at_ z (List.mem_append_right _ hz)))) (fun y hy=> ?_));refine X1 ?_;refine Tc.dr [] [0] mixed rfl ?_;refine V16 0 ?_;refine .dn ?_;refine U3 ?_;refine Tc.dr [7] [0] mixed rfl ?_;refine V7 0 ?_;refine .e 7 0 ?_;refine .nw 8 ?_;refine .dn ?_;refine .rt hK func83 results83 [_,_] ?_;exact fun H' hs=> ⟨hs.base,by show _=(if a=b then _ else _);rw[if_neg hY];rfl⟩
 | a::b::d::l,rX=>
  have e1:gA .eql .i64 (((a::b::d::l).length:Nat):Int) 1=some (.bool false):=CB (by simp only[List.length_cons];omega);have e2:gA .neq .i64 (((a::b::d::l).length:Nat):Int) 2=some (.bool true):=SC (by simp only[List.length_cons];omega);refine .en func83 ntmps83 fun St c cs hK=> ?_;refine U2 ?_;refine .al fun b2=> ?_;refine U5 ?_;refine .e (Or.uA (W6 P) (uW P) (fun x=> P.length<=x.2.1) rfl rfl rfl rfl rfl dE (rD P) (fun H hs=> .h (hp H)) (fun x hx=> ?_));refine .e (Or.uA (PW (a::b::d::l)) (NP (a::b::d::l)) (fun y=> P.length<=y.2.1) rfl rfl rfl rfl rfl dE (UG _) (fun H hs=> .h (zA H x (fun z hz=> hs.at_ z (List.mem_append_right _ hz)))) (fun y hy=> ?_));refine X1 ?_;refine Tc.dr [] [0] mixed rfl ?_;refine V8 0 ?_;refine .nw 8 ?_;refine .nw 9 ?_;refine .nw 10 ?_;refine .nw 11 ?_;refine .nw 12 ?_;refine .nw 13 ?_;refine .nw 14 ?_;refine .nn 15 ?_;refine .dn ?_;refine U7 ?_;refine .rt hK func83 results83 [_,_] ?_;exact okB
theorem lY(s:List UInt8)(hm:s.length<=1000000):cA M 83 #[jA s] H (fun v H'=> H.le H'/\v=.tuple ⟨[if GC s then rB (WA s) (ZA s) else rB 0 0,.bool (GC s)]⟩):=by
 rcases jG 58 s with h0|⟨p,q,rfl,h0⟩
 ·obtain⟨b1,b2,b3⟩:=IK h0;have hP:=MB 58 s h0;cases hn:RA s with
  | true=>
   have:=sR M H s hm (by rw[hP];intro i hi;obtain rfl:i=0:=(by simp at hi;exact hi);exact hn);rw[hP] at this;rw[b1,hn,b2,b3];exact this
  | false=>
   have:=rR M H s hm (by rw[hP];intro h;have h1:=h 0 (by simp);rw[show([s]:List (List UInt8))[0]?.getD []=s from rfl,hn] at h1;cases h1);rw[b1,hn];exact this
 ·obtain ⟨b1,b2,b3⟩:=mJ (q:=q) h0;have hP:=MC 58 q p h0;by_cases zA:∀i,i<(nA 58 (p++58::q)).length->RA ((nA 58 (p++58::q))[i]?.getD [])=true
  ·have hb:=sR M H (p++58::q) hm zA;rw[hP] at hb zA;have hp:=zA 0 (by simp);have hp:RA p=true:=hp;rcases jG 58 q with h1|⟨a,b,rfl,h1⟩
   ·rw[MB 58 q h1] at hb zA;have hq:RA q=true:=zA 1 (by simp);rw[b1,b2,b3,hp,hq];refine cA.mono hb fun v H' hv=> ⟨hv.1,?_⟩
    rw[hv.2];show(if numOf p=numOf q then _ else _)=_;by_cases e:numOf p=numOf q
    ·rw[if_pos e,e];simp
    ·rw[if_neg e];have:(numOf p !=numOf q)=true:=by simpa using e
     rw[this];rfl
   ·rw[MC 58 b a h1] at hb;have hq:RA (a++58::b)=false:=zL (by simp);rw[b1,hq,Bool.and_false,Bool.false_and];refine cA.mono hb fun v H' hv=> ⟨hv.1,?_⟩
    rw[hv.2];obtain⟨y,l,hy⟩:∃y l,nA 58 b=y::l:=by
     cases hc:nA 58 b with
     | nil=> exact(AE 58 b hc).elim
     | cons y l=> exact⟨y,l,rfl⟩
    rw[hy];have e:∃u w z r,wD (fun i=> (p::a::y::l)[i]?.getD []) (p::a::y::l).length=u::w::z::r:=by
     have:(wD (fun i=> (p::a::y::l)[i]?.getD []) (p::a::y::l).length).length=l.length+3:=by simp[wD]
     match wD (fun i=> (p::a::y::l)[i]?.getD []) (p::a::y::l).length,this with
     | u::w::z::r,_=> exact⟨u,w,z,r,rfl⟩
    obtain⟨u,w,z,r,e⟩:=e;rw[e];rfl
  ·have ha:=rR M H (p++58::q) hm zA;have wG:GC (p++58::q)=false:=by
    rw[b1];cases hp:RA p with
    | false=> rfl
    | true=>
     cases hq:RA q with
     | false=> rfl
     | true=>
      refine(zA fun i hi=> ?_).elim;have h58:(58:UInt8) ∉ q:=fun h=> by rw[zL h] at hq;cases hq
      rw[hP,MB 58 q h58] at hi ⊢
      match i,hi with
      | 0,_=> exact hp
      | 1,_=> exact hq
   rw[wG];exact ha
end
end Go.Proofs.YtgkmnalhddmclaaGreatDoor
namespace Go.RL
section
variable {P:Program}{E:Env P}{M:Md P}{n:Nat}{H₀:View}{R:Rg}{L:Bl}{K:Rg->Bl->Prop}{o:Oper}{d:Nat}
theorem Or.HK(k:Nat)(Y:Bl){cl:Go.Call}{x y:Operand}{t xt e:TypeId}{sz m:Nat}{yv:Value}{new:List Value}{g:Gl e sz}{r re rx:wA}{ex:TypeId}(iA:o.op=.call cl)(PB:cl.callee=.builtin .append)(VH:cl.argTypes=#[t,xt])(sJ:cl.args=#[x,y])
  (hx:GA R x=some g.val) (hy:GA R y=some yv) (ht:E.ty t=some r) (LB:r.ds=.slice e) (ZC:E.ty e=some re) (QD:re.size=sz) (sX:Nat.beq re.zero.cells.toList.length sz=true) (yU:E.ty xt=some rx) (hex:rx.ds=.slice ex) (jZ:Nat.ble re.bytes 1000=true)
  (hL:L.drop k=g.bl++Y) (nG:∀H,eA H₀ L H->NA H sz yv m new) (hs:new.all single=true) (hm:g.n+m<=1000000000) (hd:o.dst=some d) (hn:d<n)
  (hk:∀g':Gl e sz,g'.n=g.n+m->g'.l=g.l++new->K ((d,g'.val)::R) (L.take k++(Y++g'.bl))):Or M n H₀ R L o K:=
 .val hd hn fun H tmps kB hr=> by
  have hLe:L=L.take k++(g.bl++Y):=by rw[<-hL,List.take_append_drop]
  unfold execOp;rw[iA];simp only[resolve,PB,VH,sJ];have pU:Array.map (uB tmps) #[x,y]=#[g.val,yv]:=by simp[hr.ev hx,hr.ev hy]
  rw[pU];have yZ:=kB;rw[hLe] at yZ;have NK:eA H₀ ((L.take k++Y)++g.bl) H:=yZ.perm (RZ _ _ _);refine aA (Builtin.append_ #[t,xt] o.type #[g.val,yv]) _ ?_;refine KN ht LB ZC QD (Nat.eq_of_beq_eq_true sX) ⟨rx,ex,yU,hex⟩ (Nat.le_of_ble_eq_true jZ) hm (fun z hz=> NK.at_ z (by simp[hz])) (nG H kB) hs fun g' H' h1 h2 h3 h4 h5=> ?_;exact⟨_,rfl,_,(NK.grown h3 h4 h5).perm (by rw[List.append_assoc]),hk g' h1 h2⟩
end
section
variable {P:Program}{M:Md P}{St:View->Goroutine->Prop}{n:Nat}{b:FB}{H₀:View}{cs:List Frame}{R:Rg}{L:Bl}{ds:List Deferred}{todo:List Item}
theorem Tc.B9(A B:Bl)(p:(A++B).Perm L)(h:∀H₁:View,H₀.le H₁->(∀x∈B,H₁ x.1=some x.2)->Tc M St n b H₁ cs R A ds todo):Tc M St n b H₀ cs R L ds todo:=fun H tmps hs hr=> by
 obtain⟨H₂,h1,h2⟩:=(hs.perm p).mD;exact h H₂ h2.base h2.at_ H tmps h1 hr
end
end Go.RL
namespace Go.Proofs.YtgkmnalhddmclaaGreatDoor
open Go.RL Go.Proofs.Tryz
set_option maxRecDepth 10000
set_option maxHeartbeats 4000000
theorem xJ(l:List (Int×Int×Int×Int)):(lK l).all single=true:=by
 unfold lK;rw[List.all_flatMap];exact List.all_eq_true.2 fun _ _=> rfl
theorem AQ:∀l:List (Int×Int×Int×Int),(lK l).length=l.length*4
 | []=> rfl
 | x::l=> by
  have:=AQ l;unfold lK at this ⊢;rw[List.flatMap_cons,List.length_append,this,List.length_cons];simp only[List.length_cons,List.length_nil];omega
def iC(t:EK)(w:List UInt8)(d:Nat):EK×Bool:=
 match MG w with
 | some r=> if r.fits d then(t.put r,true) else(t,false)
 | none=> (t,false)
def fL(H:View)(t:EK)(A:Option Addr)(lc:Nat):Prop:=NA H 4 (.slice A t.ls.length lc) t.ls.length (lK t.ls)
section
variable(M:Md prog)(H:View)
theorem w6 (t:EK)(A:Option Addr)(lc:Nat)(hA:fL H t A lc)(I5:t.ls.length<=lc)(hn:t.ls.length<=3000)(w:List UInt8)(hm:w.length<=1000000)(first:Bool):
  cA M 44 #[t.ch.lE A lc,jA w,.bool first] H (fun v H'=> H.le H'/\∃A' lc',v=.tuple ⟨[(iC t w (if first then 0 else 1)).1.ch.lE A' lc',.bool (iC t w (if first then 0 else 1)).2]⟩/\fL H' (iC t w (if first then 0 else 1)).1 A' lc'/\(iC t w (if first then 0 else 1)).1.ls.length<=lc'):=by
 have QN:=QE 59 w;have X9:=YB 59 w;have hct:=List.count_le_length (a:=(59:UInt8)) (l:=w);by_cases wG: []∈nA 59 w
 ·have hr:MG w=none:=by
   unfold MG;revert wG;generalize nA 59 w=P;intro wG
   match P,wG with
   | [],h=> cases h
   | a ::l,h=>
    rcases List.mem_cons.1 h with h|h
    ·subst h
     match l with
     | []=> rfl
     | [_]=> rfl
     | [_,_]=> exact wW dE
     | [_,_,_]=> exact xW dE
     | _::_::_::_::_=> rfl
    ·exact OQ h rfl
  have hf:=fun H=> HW M H w hm wG;have hR:iC t w (if first then 0 else 1)=(t,false):=by unfold iC;rw[hr]
  rw[hR];refine .en func44 ntmps44 fun St c cs hK=> ?_;refine U2 ?_;refine .bo fun b3=> ?_;refine .al fun b6=> ?_;refine U5 ?_;refine .cl (fun H hs=> hf H) ?_;refine wR ?_;refine .rt hK func44 results44 [_,_] ?_;exact fun H' hs=> ⟨hs.base,A,lc,rfl,hA.mono hs.base,I5⟩
 ·obtain ⟨w0, l,hP⟩:∃w0 l,nA 59 w=w0::l:=by
   cases h:nA 59 w with
   | nil=> exact absurd h (AE 59 w)
   | cons a l=> exact⟨a,l,rfl⟩
  rw[hP] at QN X9 wG;have hf:=fun H=> pY M H w hm w0 l hP (fun y hy e=> wG (e▸hy));rw[List.length_cons] at X9;have hll:l.length<=1000000:=by omega
  by_cases L8:l= []
  ·subst L8;have hR:iC t w (if first then 0 else 1)=(t,false):=by unfold iC MG;rw[hP];rfl
   rw[hR];refine .en func44 ntmps44 fun St c cs hK=> ?_;refine U2 ?_;refine .bo fun b3=> ?_;refine .al fun b6=> ?_;refine U5 ?_;refine .e (Or.uA (fiV w0 []) (uW [w0]) (fun x=> ([]:List (List UInt8)).length+1<=x.2.1) rfl rfl rfl rfl rfl dE (rD _) (fun H hs=> .h (hf H)) (fun x hx=> ?_));refine wR ?_;refine .rt hK func44 results44 [_,_] ?_;exact fun H' hs=> ⟨hs.base,A,lc,rfl,hA.mono hs.base,I5⟩
  have hl1:1<=l.length:=List.length_pos_iff.2 L8;have hdt:decide (1<l.length+1)=true:=decide_eq_true oM;have hfi:∀x,fiV w0 l x=.tuple ⟨[jA w0,.slice (some ⟨x.1,PU x.2.1,none⟩) l.length (x.2.1-1),.bool true]⟩:=fun x=> by unfold fiV;rw[hdt]
  simp only[hfi] at hf;refine .en func44 ntmps44 fun St c cs hK=> ?_;refine U2 ?_;refine .bo fun b3=> ?_;refine .al fun b6=> ?_;refine U5 ?_;refine .e (Or.uA (fun x:Nat×Nat×List Value=> .tuple ⟨[jA w0,.slice (some ⟨x.1,PU x.2.1,none⟩) l.length (x.2.1-1),.bool true]⟩) (uW (w0::l)) (fun x=> l.length+1<=x.2.1) rfl rfl rfl rfl rfl dE (rD _) (fun H hs=> .h (hf H)) (fun x hx=> ?_));refine U8 ?_;obtain⟨b,cap,J⟩:=x;have hx:l.length+1<=cap:=hx;have ho:PU cap=1:=if_neg oM;simp only[ho];refine pH ?_;refine Tc.db (Tc.vA (σ:= { x:Nat×Gl 23 2//x.1<=l.length/\(∀q∈l.take x.1,GC q=true)/\x.2.n=x.1/\x.2.l=FV (l.take x.1) }) (fun x=> ([(2,.bool first),(3,.pointer (some ⟨b3,0,none⟩)),(6,.pointer (some ⟨b6,0,none⟩)),(8,jA w0),(9,.slice (some ⟨b,1,none⟩) l.length (cap-1)),(11,x.1.2.val),(12,.int .i64 (x.1.1:Nat))],[(b6,true,.cells ⟨[.int .i64 0,.int .i64 0,.slice none 0 0,.int .i64 0,.int .i64 0,.int .i64 0,.int .i64 0]⟩ 26 (0,0)),(b3,true,.cells ⟨[.int .i64 t.s0,.int .i64 t.s1,.slice A t.ls.length lc,.int .i64 t.a0,.int .i64 t.a1,.int .i64 t.r0,.int .i64 t.r1]⟩ 26 (0,0)),(b,true,.cells ⟨eB (w0::l)++J⟩ 9 (0,0))]++x.1.2.bl)) (fun x=> l.length-x.1.1) ?_ ⟨(0,Gl.nil 23 2),Nat.zero_le _,fun _ h=> (nomatch h),rfl,rfl⟩);rintro⟨⟨i,g⟩,hi,zA,uD,ZE⟩ ih;simp only at hi zA uD ZE;show Tc M St _ _ _ _ [(2,.bool first),(3,.pointer (some ⟨b3,0,none⟩)),(6,.pointer (some ⟨b6,0,none⟩)),(8,jA w0),(9,.slice (some ⟨b,1,none⟩) l.length (cap-1)),(11,g.val),(12,.int .i64 (i:Nat))] ([(b6,true,.cells ⟨[.int .i64 0,.int .i64 0,.slice none 0 0,.int .i64 0,.int .i64 0,.int .i64 0,.int .i64 0]⟩ 26 (0,0)),(b3,true,.cells ⟨[.int .i64 t.s0,.int .i64 t.s1,.slice A t.ls.length lc,.int .i64 t.a0,.int .i64 t.a1,.int .i64 t.r0,.int .i64 t.r1]⟩ 26 (0,0)),(b,true,.cells ⟨eB (w0::l)++J⟩ 9 (0,0))]++g.bl) _ _;by_cases c2:i=l.length
  ·clear ih;subst c2;rw[List.take_length] at zA ZE;obtain⟨x,hv,jX⟩:=RV g oM;rw[uD] at hv;rw[ZE] at jX;rw[hv,jX];clear hv jX uD ZE;have ho1:(if first then 0 else 1)=0\/(if first then 0 else 1)=1:=by cases first <;> simp
   by_cases k1:w0=SE/\first=true/\l.length=3
   ·obtain⟨rfl,rfl,dW⟩:=k1
    match l,dW,zA,hP with
    | [p,q,r],_,zA,hP=>
     have h1:=zA p (by simp);have h2:=zA q (by simp);have h3:=zA r (by simp);have hr:MG w=some (.mW (WA p) (ZA p) (WA q) (ZA q) (WA r) (ZA r)):=by
      unfold MG;rw[hP];exact if_pos ⟨rfl,by rw[h1,h2,h3];rfl⟩
     have hR:iC t w 0=(t.put (.mW (WA p) (ZA p) (WA q) (ZA q) (WA r) (ZA r)),true):=by unfold iC;rw[hr];rfl
     simp only[if_true,hR] at hK;have s1:RL.cC .eql SE SE=some (.bool true):=rfl;refine Tc.db (L':= [(b6,true,.cells ⟨[.int .i64 0,.int .i64 0,.slice none 0 0,.int .i64 0,.int .i64 0,.int .i64 0,.int .i64 0]⟩ 26 (0,0)),(b3,true,.cells ⟨[.int .i64 t.s0,.int .i64 t.s1,.slice A t.ls.length lc,.int .i64 t.a0,.int .i64 t.a1,.int .i64 t.r0,.int .i64 t.r1]⟩ 26 (0,0)),(x.1,true,.cells ⟨FV [p,q,r]++x.2.2⟩ 23 (0,0))]) (R':= [(2,.bool true),(3,.pointer (some ⟨b3,0,none⟩)),(6,.pointer (some ⟨b6,0,none⟩)),(8,jA SE),(9,.slice (some ⟨b,1,none⟩) 3 (cap-1)),(11,.slice (some ⟨x.1,0,none⟩) 3 x.2.1),(12,.int .i64 (3:Nat))]) ?_;refine U26 ?_;refine Tc.dr [10,12,14] [1] mixed rfl ?_;refine V3 0 ?_;refine .nw 3 ?_;refine .nw 4 ?_;refine .nw 5 ?_;refine .nw 6 ?_;refine .nw 7 ?_;refine .nw 8 ?_;refine .nn 9 ?_;refine .e 10 1 ?_;refine .nw 11 ?_;refine .e 12 1 ?_;refine .nw 13 ?_;refine .e 14 1 ?_;refine .dn ?_;refine U6 ?_;refine .rt hK func44 results44 [_,_] ?_;exact fun H' hs=> ⟨hs.base,A,lc,rfl,hA.mono hs.base,I5⟩
   ·by_cases k2:w0=BE/\first=false/\l.length=2
    ·obtain ⟨rfl,rfl,RJ⟩:=k2
     match l,RJ,zA,hP with
     | [p, q],_,zA,hP=>
      have h1:=zA p (by simp);have h2:=zA q (by simp);have hr:MG w=some (.oS (WA p) (ZA p) (WA q) (ZA q)):=by
       unfold MG;rw[hP];exact if_pos ⟨rfl,by rw[h1,h2];rfl⟩
      have hR:iC t w 1=(t.put (.oS (WA p) (ZA p) (WA q) (ZA q)),true):=by unfold iC;rw[hr];rfl
      simp only[Bool.false_eq_true,if_false,hR] at hK;have s1:RL.cC .eql BE SE=some (.bool false):=rfl;have s2:RL.cC .neq BE BE=some (.bool false):=rfl;refine Tc.db (L':= [(b6,true,.cells ⟨[.int .i64 0,.int .i64 0,.slice none 0 0,.int .i64 0,.int .i64 0,.int .i64 0,.int .i64 0]⟩ 26 (0,0)),(b3,true,.cells ⟨[.int .i64 t.s0,.int .i64 t.s1,.slice A t.ls.length lc,.int .i64 t.a0,.int .i64 t.a1,.int .i64 t.r0,.int .i64 t.r1]⟩ 26 (0,0)),(x.1,true,.cells ⟨FV [p,q]++x.2.2⟩ 23 (0,0))]) (R':= [(2,.bool false),(3,.pointer (some ⟨b3,0,none⟩)),(6,.pointer (some ⟨b6,0,none⟩)),(8,jA BE),(9,.slice (some ⟨b,1,none⟩) 2 (cap-1)),(11,.slice (some ⟨x.1,0,none⟩) 2 x.2.1),(12,.int .i64 (2:Nat))]) ?_;refine U43 ?_;refine Tc.db (R':= [(3,.pointer (some ⟨b3,0,none⟩)),(6,.pointer (some ⟨b6,0,none⟩)),(11,.slice (some ⟨x.1,0,none⟩) 2 x.2.1)]) (L':= [(b6,true,.cells ⟨[.int .i64 0,.int .i64 0,.slice none 0 0,.int .i64 0,.int .i64 0,.int .i64 0,.int .i64 0]⟩ 26 (0,0)),(b3,true,.cells ⟨[.int .i64 t.s0,.int .i64 t.s1,.slice A t.ls.length lc,.int .i64 t.a0,.int .i64 t.a1,.int .i64 t.r0,.int .i64 t.r1]⟩ 26 (0,0)),(x.1,true,.cells ⟨FV [p,q]++x.2.2⟩ 23 (0,0))]) ?_;refine Tc.via (fun R' L'=> ∃g:Gl 38 4,(g.n=t.ls.length+1/\g.l=lK t.ls++[.int .i64 (WA p),.int .i64 (ZA p),.int .i64 (WA q),.int .i64 (ZA q)])/\WB [(3,.pointer (some ⟨b3,0,none⟩)),(6,.pointer (some ⟨b6,0,none⟩))] R'/\List.Sublist ([(b6,true,.cells ⟨[.int .i64 0,.int .i64 0,.slice none 0 0,.int .i64 0,.int .i64 0,.int .i64 0,.int .i64 0]⟩ 26 (0,0)),(b3,true,.cells ⟨[.int .i64 t.s0,.int .i64 t.s1,g.val,.int .i64 t.a0,.int .i64 t.a1,.int .i64 t.r0,.int .i64 t.r1]⟩ 26 (0,0))]++g.bl) L') ?_ (fun fin=> ?_)
      rotate_left
      ·refine Tc.dr [14] [1] mixed rfl ?_;refine V2 1 ?_;refine V7 4 ?_;refine Ta.each [0,11] kR rfl ⟨yG.mk rfl rfl rfl (.bs (zz:=fun bs0=> ⟨S2.mk sL (.inr sL),?_⟩)),yG.mk rfl rfl rfl (.bs (zz:=fun bs1=> ⟨S2.mk sL (.inr sL),?_⟩)),trivial⟩
       ·refine Ta.each [3,11] kR rfl ⟨yG.mk rfl rfl rfl (Or.HK (E:=en) (g:=Gl.emp 38 4 bs0) (m:=t.ls.length) (new:=lK t.ls) 0 [(b6,true,.cells ⟨[.int .i64 0,.int .i64 0,.slice none 0 0,.int .i64 0,.int .i64 0,.int .i64 0,.int .i64 0]⟩ 26 (0,0)),(b3,true,.cells ⟨[.int .i64 t.s0,.int .i64 t.s1,.slice A t.ls.length lc,.int .i64 t.a0,.int .i64 t.a1,.int .i64 t.r0,.int .i64 t.r1]⟩ 26 (0,0)),(x.1,true,.cells ⟨FV [p,q]++x.2.2⟩ 23 (0,0))] rfl rfl rfl rfl rfl rfl rfl rfl rfl rfl rfl rfl rfl rfl rfl (fun H hs=> hA.mono hs.base) (xJ _) (by show 0+_<=_;omega) rfl dE (fun g1 M8 hl1=> ⟨S2.mk sL (.inr sL),?_⟩)),yG.mk rfl rfl rfl (.bs (zz:=fun bs1=> ⟨S2.mk sL (.inr sL),?_⟩)),trivial⟩
        ·refine .ea 11 rfl (.bs (zz:=fun bs1=> ⟨S2.mk sL (.inr sL),?_⟩));refine .ea 12 rfl (Or.append (E:=en) (g:=g1) (m:=1) (new:= [.int .i64 (WA p),.int .i64 (ZA p),.int .i64 (WA q),.int .i64 (ZA q)]) (yv:=.slice (some ⟨bs1,0,none⟩) 1 1) 4 rfl rfl rfl rfl rfl rfl rfl rfl rfl rfl rfl rfl rfl rfl rfl (fun H hs=> NA.of (hs.get (i:=0) rfl) (Nat.le_of_ble_eq_true rfl)) rfl (by rw[M8];show 0+_+1<=_;omega) rfl dE (fun g2 CK RJ=> ⟨S2.mk sL (.inr sL),?_⟩));refine .nn 13 ?_;refine .e 14 2 ?_;refine .dn ?_;exact fin _ _ ⟨g2,⟨by rw[CK,M8];show 0+_+1=_;omega,by rw[RJ,hl1];rfl⟩,⟨rfl,rfl,trivial⟩,sL⟩
        ·refine .ea 3 rfl (Or.HK (E:=en) (g:=Gl.emp 38 4 bs0) (m:=t.ls.length) (new:=lK t.ls) 1 [(b6,true,.cells ⟨[.int .i64 0,.int .i64 0,.slice none 0 0,.int .i64 0,.int .i64 0,.int .i64 0,.int .i64 0]⟩ 26 (0,0)),(b3,true,.cells ⟨[.int .i64 t.s0,.int .i64 t.s1,.slice A t.ls.length lc,.int .i64 t.a0,.int .i64 t.a1,.int .i64 t.r0,.int .i64 t.r1]⟩ 26 (0,0)),(x.1,true,.cells ⟨FV [p,q]++x.2.2⟩ 23 (0,0))] rfl rfl rfl rfl rfl rfl rfl rfl rfl rfl rfl rfl rfl rfl rfl (fun H hs=> hA.mono hs.base) (xJ _) (by show 0+_<=_;omega) rfl dE (fun g1 M8 hl1=> ⟨S2.mk sL (.inr sL),?_⟩));refine .ea 12 rfl (Or.append (E:=en) (g:=g1) (m:=1) (new:= [.int .i64 (WA p),.int .i64 (ZA p),.int .i64 (WA q),.int .i64 (ZA q)]) (yv:=.slice (some ⟨bs1,0,none⟩) 1 1) 4 rfl rfl rfl rfl rfl rfl rfl rfl rfl rfl rfl rfl rfl rfl rfl (fun H hs=> NA.of (hs.get (i:=0) rfl) (Nat.le_of_ble_eq_true rfl)) rfl (by rw[M8];show 0+_+1<=_;omega) rfl dE (fun g2 CK RJ=> ⟨S2.mk sL (.inr sL),?_⟩));refine .nn 13 ?_;refine .e 14 2 ?_;refine .dn ?_;exact fin _ _ ⟨g2,⟨by rw[CK,M8];show 0+_+1=_;omega,by rw[RJ,hl1];rfl⟩,⟨rfl,rfl,trivial⟩,sL⟩
       ·refine .ea 0 rfl (.bs (zz:=fun bs0=> ⟨S2.mk sL (.inr sL),?_⟩));refine .ea 3 rfl (Or.HK (E:=en) (g:=Gl.emp 38 4 bs0) (m:=t.ls.length) (new:=lK t.ls) 0 [(bs1,true,.cells ⟨[.int .i64 (WA p),.int .i64 (ZA p),.int .i64 (WA q),.int .i64 (ZA q)]⟩ 38 (0,0)),(b6,true,.cells ⟨[.int .i64 0,.int .i64 0,.slice none 0 0,.int .i64 0,.int .i64 0,.int .i64 0,.int .i64 0]⟩ 26 (0,0)),(b3,true,.cells ⟨[.int .i64 t.s0,.int .i64 t.s1,.slice A t.ls.length lc,.int .i64 t.a0,.int .i64 t.a1,.int .i64 t.r0,.int .i64 t.r1]⟩ 26 (0,0)),(x.1,true,.cells ⟨FV [p,q]++x.2.2⟩ 23 (0,0))] rfl rfl rfl rfl rfl rfl rfl rfl rfl rfl rfl rfl rfl rfl rfl (fun H hs=> hA.mono hs.base) (xJ _) (by show 0+_<=_;omega) rfl dE (fun g1 M8 hl1=> ⟨S2.mk sL (.inr sL),?_⟩));refine .ea 12 rfl (Or.append (E:=en) (g:=g1) (m:=1) (new:= [.int .i64 (WA p),.int .i64 (ZA p),.int .i64 (WA q),.int .i64 (ZA q)]) (yv:=.slice (some ⟨bs1,0,none⟩) 1 1) 4 rfl rfl rfl rfl rfl rfl rfl rfl rfl rfl rfl rfl rfl rfl rfl (fun H hs=> NA.of (hs.get (i:=0) rfl) (Nat.le_of_ble_eq_true rfl)) rfl (by rw[M8];show 0+_+1<=_;omega) rfl dE (fun g2 CK RJ=> ⟨S2.mk sL (.inr sL),?_⟩));refine .nn 13 ?_;refine .e 14 2 ?_;refine .dn ?_;exact fin _ _ ⟨g2,⟨by rw[CK,M8];show 0+_+1=_;omega,by rw[RJ,hl1];rfl⟩,⟨rfl,rfl,trivial⟩,sL⟩
      rintro R' L' ⟨g,⟨uD,ZE⟩,hR',hL⟩;refine Tc.PC ?_ hR' hL;clear hR' hL;refine Tc.B9 [(b6,true,.cells ⟨[.int .i64 0,.int .i64 0,.slice none 0 0,.int .i64 0,.int .i64 0,.int .i64 0,.int .i64 0]⟩ 26 (0,0)),(b3,true,.cells ⟨[.int .i64 t.s0,.int .i64 t.s1,g.val,.int .i64 t.a0,.int .i64 t.a1,.int .i64 t.r0,.int .i64 t.r1]⟩ 26 (0,0))] g.bl (List.Perm.refl _) (fun H₃ TM hb3=> ?_);refine U6 ?_;refine .rt hK func44 results44 [_,_] ?_;have hgv:g.val=.slice (g.blk.map fun b=> ⟨b,0,none⟩) (t.ls.length+1) g.cap:=by unfold Gl.val;rw[uD]
      have mX:(t.put (.oS (WA p) (ZA p) (WA q) (ZA q))).ls.length=t.ls.length+1:=by show(t.ls++[_]).length=_;rw[List.length_append];rfl
      have hlc:lK (t.put (.oS (WA p) (ZA p) (WA q) (ZA q))).ls=lK t.ls++[.int .i64 (WA p),.int .i64 (ZA p),.int .i64 (WA q),.int .i64 (ZA q)]:=by show lK (t.ls++[_])=_;unfold lK;rw[List.flatMap_append];rfl
      refine fun H' hs=> ⟨View.le_trans TM hs.base,g.blk.map fun b=> ⟨b,0,none⟩,g.cap,?_,?_,?_⟩
      ·rw[hgv];unfold Ch.lE EK.ch;rw[mX];rfl
      ·have h1:=g.src (H:=H') (fun x hx=> hs.base _ _ (hb3 x hx));rw[hgv,uD,ZE] at h1;unfold fL;rw[mX,hlc];exact h1
      ·show(t.put (.oS (WA p) (ZA p) (WA q) (ZA q))).ls.length<=_;rw[mX,<-uD];exact g.hc
    ·have hR:iC t w (if first then 0 else 1)=(t,false):=by
      unfold iC MG;rw[hP]
      match l,zA,k1,k2 with
      | [],_,_,_=> rfl
      | [_],_,_,_=> rfl
      | [p,q],zA,_,k2=>
       by_cases e:w0=BE
       ·subst e;have hf:first=true:=by cases first with|true=> rfl|false=> exact absurd ⟨rfl,rfl,rfl⟩ k2
        subst hf;have h1:=zA p (by simp);have h2:=zA q (by simp);have hr:s7 [BE,p,q]=some (.oS (WA p) (ZA p) (WA q) (ZA q)):=if_pos ⟨rfl,by rw[h1,h2];rfl⟩;rw[hr];rfl
       ·rw[wW e]
      | [p,q,r],zA,k1,_=>
       by_cases e:w0=SE
       ·subst e;have hf:first=false:=by cases first with|false=> rfl|true=> exact absurd ⟨rfl,rfl,rfl⟩ k1
        subst hf;have h1:=zA p (by simp);have h2:=zA q (by simp);have h3:=zA r (by simp);have hr:s7 [SE,p,q,r]=some (.mW (WA p) (ZA p) (WA q) (ZA q) (WA r) (ZA r)):=if_pos ⟨rfl,by rw[h1,h2,h3];rfl⟩;rw[hr];rfl
       ·rw[xW e]
      | _::_::_::_::_,_,_,_=> rfl
     rw[hR] at hK;refine Tc.db (L':= [(b6,true,.cells ⟨[.int .i64 0,.int .i64 0,.slice none 0 0,.int .i64 0,.int .i64 0,.int .i64 0,.int .i64 0]⟩ 26 (0,0)),(b3,true,.cells ⟨[.int .i64 t.s0,.int .i64 t.s1,.slice A t.ls.length lc,.int .i64 t.a0,.int .i64 t.a1,.int .i64 t.r0,.int .i64 t.r1]⟩ 26 (0,0))]) (R':= [(2,.bool first),(3,.pointer (some ⟨b3,0,none⟩)),(6,.pointer (some ⟨b6,0,none⟩)),(8,jA w0),(9,.slice (some ⟨b,1,none⟩) l.length (cap-1)),(11,.slice (some ⟨x.1,0,none⟩) l.length x.2.1),(12,.int .i64 (l.length:Nat))]) ?_;by_cases e1:w0=SE
     ·subst e1;have s1:RL.cC .eql SE SE=some (.bool true):=rfl;have s2:RL.cC .neq SE BE=some (.bool true):=rfl;cases first with
      | true=>
       have dW:l.length≠3:=fun e=> k1 ⟨rfl,rfl,e⟩;refine U47 ?_;refine .rt hK func44 results44 [_,_] ?_;exact fun H' hs=> ⟨hs.base,A,lc,rfl,hA.mono hs.base,I5⟩
      | false=>
       refine U47 ?_;refine .rt hK func44 results44 [_,_] ?_;exact fun H' hs=> ⟨hs.base,A,lc,rfl,hA.mono hs.base,I5⟩
     ·have s1:RL.cC .eql w0 SE=some (.bool false):=by
       show some (Value.bool (w0==SE))=_;rw[beq_eq_false_iff_ne.2 e1]
      by_cases e2:w0=BE
      ·subst e2;have s2:RL.cC .neq BE BE=some (.bool false):=rfl;cases first with
       | true=>
        refine U47 ?_;refine .rt hK func44 results44 [_,_] ?_;exact fun H' hs=> ⟨hs.base,A,lc,rfl,hA.mono hs.base,I5⟩
       | false=>
        have dW:l.length≠2:=fun e=> k2 ⟨rfl,rfl,e⟩;refine U47 ?_;refine .rt hK func44 results44 [_,_] ?_;exact fun H' hs=> ⟨hs.base,A,lc,rfl,hA.mono hs.base,I5⟩
      ·have s2:RL.cC .neq w0 BE=some (.bool true):=by
        show some (Value.bool (w0 !=BE))=_;rw[bne_iff_ne.2 e2]
       refine U47 ?_;refine .rt hK func44 results44 [_,_] ?_;exact fun H' hs=> ⟨hs.base,A,lc,rfl,hA.mono hs.base,I5⟩
  ·have c3:i<l.length:=by omega
   have QC:l[i]∈l:=List.getElem_mem c3;have hql:=QN l[i] (List.mem_cons_of_mem _ QC);have f1:SB false 1 (eB (w0::l)++J) (1+((i:Nat):Int).toNat*1)=some (jA l[i]):=by
    have e:=ldP (P:=w0::l) (i:=i+1) J (by rw[List.getElem?_cons_succ];exact List.getElem?_eq_getElem c3);rw[show 1+((i:Nat):Int).toNat*1=0+((i+1:Nat):Int).toNat*1 by omega];exact e
   have pR:l.take (i+1)=l.take i++[l[i]]:=List.take_succ_eq_append_getElem c3;have hbo:=fun H=> lY M H l[i] oM;generalize l[i]=q at QC hql f1 pR hbo;cases hq:GC q with
   | false=>
    have hR:iC t w (if first then 0 else 1)=(t,false):=by unfold iC MG;rw[hP,OQ QC hq]
    simp only[hq,Bool.false_eq_true,if_false] at hbo;rw[hR] at hK;clear ih;refine pH ?_;refine .cl (fun H hs=> hbo H) ?_;refine U3 ?_;refine .al fun b13=> ?_;refine bJ ?_;refine .rt hK func44 results44 [_,_] ?_;exact fun H' hs=> ⟨hs.base,A,lc,rfl,hA.mono hs.base,I5⟩
   | true=>
    simp only[hq,if_true] at hbo;have bE:=fun(g2:Gl 23 2) (h1:g2.n=i+1) (h2:g2.l=FV (l.take i)++FV [q])=> ih ⟨(i+1,g2),by simp only;omega,by
     simp only;rw[pR];intro y hy;rcases List.mem_append.1 hy with hy|hy
     ·exact zA y hy
     ·rw[List.mem_singleton.1 hy];exact hq,h1,by
     simp only;rw[pR];unfold FV;rw[List.flatMap_append];exact h2⟩ (by simp only;omega)
    simp only at bE;clear ih;refine pH ?_;refine .cl (fun H hs=> hbo H) ?_;refine U3 ?_;refine .al fun b13=> ?_;refine zH ?_;refine .e (.bs (zz:=fun bs=> ?_));refine .e (Or.append (E:=en) 5 rfl rfl rfl rfl rfl rfl rfl rfl rfl rfl rfl rfl rfl rfl rfl (fun H hs=> NA.of (hs.get (i:=0) rfl) (Nat.le_of_ble_eq_true rfl)) rfl oM rfl dE (fun g2 CK RJ=> ?_));refine U8 ?_;exact Tc.db (bE g2 (by rw[CK,uD]) (by rw[RJ,ZE];rfl))
end
def UP(b2 b3 b4 d:Nat)(t:EK)(v:Value):Bl:= [(b2,true,.cells ⟨[.int .i64 t.s0,.int .i64 t.s1,v,.int .i64 t.a0,.int .i64 t.a1,.int .i64 t.r0,.int .i64 t.r1]⟩ 26 (0,0)),(b3,true,.cells ⟨[.int .i64 (d:Nat)]⟩ 3 (0,0)),(b4,true,.cells ⟨[.int .i64 0]⟩ 29 (0,0))]
theorem oJ(H:View):zB H TH.ch none 0:=⟨Nat.le_refl _,.inl rfl⟩
section
variable(M:Md prog)(H:View)
theorem LW(hG:FC H)(s:List UInt8)(hm:s.length<=2000):
  cA M 9 #[jA s] H (fun v H'=> H.le H'/\∃A lc,v=.tuple ⟨[(xD s).1.lE A lc,.int .i64 ((xD s).2.1:Nat),.int .i64 (xD s).2.2]⟩/\zB H' (xD s).1 A lc):=by
 obtain⟨PF,D8⟩:∃PF,PF=LC (xE s) 0 TH:=⟨_,rfl⟩
 obtain⟨out,BF⟩:∃o,xD s=o:=⟨_,rfl⟩
 have gZ:∀n,PF=.inr n->out=(TH.ch,n,3):=fun n e=> by
  rw[<-BF];unfold xD;rw[<-D8,e]
 have aEi:xB s= []->out=(TH.ch,0,3):=fun e=> by
  have e1:xE s= []:=by unfold xE;rw[e];rfl
  rw[<-BF];unfold xD;rw[e1];rfl
 have bW:∀t,PF=.inl t->xB s≠ []->out=if t.ch.nB=0 then(t.ch,0,0) else(TH.ch,0,t.ch.nB):=fun t e e2=> by
  have e1:xE s≠ []:=by unfold xE;intro h;exact e2 (List.map_eq_nil_iff.1 h)
  rw[<-BF];unfold xD;rw[<-D8,e];simp only[if_neg e1]
 have hwl:=ON s;have mX:(xB s).length<=2001:=by
  have:=iR ((xB s).map (JF 10));rw[List.length_map] at this;omega
 have hwx:∀x∈xB s,(JF 10 x).length<=2000:=fun x hx=> by
  have h1:∀l:List (List UInt8),∀p∈l,p.length+1<=wl l:=fun l=> by
   induction l with
   | nil=> intro p hp;cases hp
   | cons a l ih=>
    intro p hp;rw[nH];rcases List.mem_cons.1 hp with rfl|hp
    ·omega
    ·have:=ih p hp;omega
  have:=h1 _ _ (List.mem_map_of_mem hx (f:=JF 10));omega
 rw[BF];clear BF;refine .en func9 ntmps9 fun St c cs hK=> ?_;refine U2 ?_;refine .al fun b2=> ?_;refine .al fun b3=> ?_;refine .al fun b4=> ?_;refine aJ ?_;refine To.defer (first:= []) (captured:= [_,_]) rfl rfl rfl rfl rfl rfl rfl ?_;refine U5 ?_;refine .e (Or.uA (fun b=> yQ b) (fun b=> [(b,true,.cells ⟨[jA s]⟩ 9 (0,0))]) (fun _=> True) rfl rfl rfl rfl rfl dE (fun _=> by simp) (fun H hs=> .h (T3 M H s)) (fun lb _=> ?_));refine U2 ?_;refine Tc.r8 (R':= [(2,.pointer (some ⟨b2,0,none⟩)),(3,.pointer (some ⟨b3,0,none⟩)),(4,.pointer (some ⟨b4,0,none⟩)),(15,yQ lb)]) ⟨rfl,rfl,rfl,rfl,trivial⟩ ?_;refine Tc.perm (L₁:= [(lb,true,.cells ⟨[jA s]⟩ 9 (0,0))]++(UP b2 b3 b4 0 TH (Gl.nil 38 4).val++(Gl.nil 38 4).bl)) (by
  have e:∀a b2 b3 b4:Nat×Bool×Obj,[a,b2,b3,b4].Perm [b4,b3,b2,a]:=fun a b2 b3 b4=> (List.reverse_perm [b4,b3,b2,a])
  exact e _ _ _ _) ?_
 refine Tc.j7 (v:=E6) (A:= [(lb,true,.cells ⟨[jA s]⟩ 9 (0,0))]) (ts:= [16]) (xs:=xB s) (fun rest H₁ L₁=> ∃(t:EK) (d:Nat) (gl:Gl 38 4),LC (rest.map (JF 10)) d t=PF/\d+rest.length=(xB s).length/\H.le H₁/\(gl.n=t.ls.length/\t.ls.length<=d/\gl.l=lK t.ls)/\L₁=UP b2 b3 b4 d t gl.val++gl.bl) (fun _ _ _=> False) (fun H₁ L₁=> ∃(dd:Nat) (t:EK) (v:Value),PF=.inr dd/\H.le H₁/\L₁=UP b2 b3 b4 dd t v) rfl rfl rfl rfl (Cap:=fun _=> True) (fun H' _=> xX M H' s oM lb E6) (fun _ _ _ _=> trivial) (fun _ _ _ _=> trivial) rfl (fun _ _=> rfl)
   ⟨TH,0,Gl.nil 38 4,D8.symm,Nat.zero_add _,View.le_refl _,⟨rfl,Nat.le_refl _,rfl⟩,rfl⟩ ?_ ?_ (fun _ _ _ _ h=> h.elim) ?_
 ·rintro r x rest _ lp tmps asg bdy H₄ _ hx ⟨t,d,gl,q1,q0,q2,q3,rfl⟩ Q X St1 cc1 cs1 mR hP1 q _ hX;rw[List.length_cons] at q0;rw[List.map_cons] at q1;have aEt:=hwx x hx;have rX:=KZ (JF 10 x) x rfl;have qR:=fun H=> KP M H x 10 oM;generalize JF 10 x=w at q1 rX qR aEt;have a1:gA .add .i64 ((d:Nat):Int) 1=some (.int .i64 ((d+1:Nat):Int)):=tC oM oM;have hw:PF=.inr (d+1)->∀(H₅ H':View) (L:Bl),H₄.le H₅->((r,true,.deferred (some []))::UP b2 b3 b4 (d+1) t gl.val:Bl).Sublist L->eA H₅ L H'->T M St1 H' (Go.Conc.G (cc1.raise (Go.RL.raised E6)) cs1):=fun e H₅ H' L hle hL hs=> hP1 H' (hX H' H₅ _ (hs.less hL) ⟨d+1,t,_,e,View.le_trans q2 hle,rfl⟩);refine U3 ?_;refine Tc.beginRound (i:=0) rfl rfl rfl ?_;refine zI ?_;refine .cl (fun H hs=> qR H) ?_;refine To.TT rfl rfl rfl rfl rfl rfl dE (PN.of (first:= []) (captured:= []) aDG rfl (r7 M H₄ w oM)) (fun v H₅ hv=> ?_) (fun H₅ hx=> JH.gP func9 fun H' hs=> hw (by rw[<-q1];exact BJ _ _ _ hx.2) H₅ H' _ hx.1 sL hs);obtain⟨S5,row,hr,rfl⟩:=hv;refine U ?_;cases row with
  | mW y1 y2 y3 y4 y5 y6=>
   refine U3 ?_;refine .x (oA.OP rfl rfl kR) ?_;refine U6 ?_;refine .al fun b6=> ?_;refine U3 ?_;by_cases c1:d=0
   ·have hf:(Rw.mW y1 y2 y3 y4 y5 y6).fits d=true:=by rw[c1];rfl
    rw[gH _ _ _ hr hf] at q1;have e4:gA .eql .i64 ((d+1:Nat):Int) 1=some (.bool true):=vC oM;refine U3 ?_;refine .cl (fun H hs=> dI M H) ?_;refine U ?_;refine Tc.dr [7,9,11] [3] mixed rfl ?_;refine V2 0 ?_;refine .nw 2 ?_;refine .nw 3 ?_;refine .nw 4 ?_;refine .nw 5 ?_;refine .nn 6 ?_;refine .e 7 3 ?_;refine .nw 8 ?_;refine .e 9 3 ?_;refine .nw 10 ?_;refine .e 11 3 ?_;refine .dn ?_;refine U2 ?_;refine Tc.FA mR (i:=1) rfl (.inl ⟨rfl,rfl⟩) (fun H' hs=> q H' H₅ _ (hs.less sL) ⟨t.put (.mW y1 y2 y3 y4 y5 y6),d+1,gl,q1,oM,View.le_trans q2 S5,⟨q3.1,Nat.le_succ_of_le q3.2.1,q3.2.2⟩,rfl⟩)
   ·have hf:(Rw.mW y1 y2 y3 y4 y5 y6).fits d=false:=beq_eq_false_iff_ne.2 c1;rw[kF _ _ _ hr hf] at q1;have hw:=hw q1.symm;have e4:gA .eql .i64 ((d+1:Nat):Int) 1=some (.bool false):=CB oM;refine U3 ?_;refine To.QF rfl rfl rfl rfl rfl (fun H hs=> yH.of (first:= []) (captured:= []) eO rfl (dH M H)) (JH.gP func9 fun H' hs=> hw H₅ H' _ S5 sL hs)
  | oS x1 x2 x3 x4=>
   refine U3 ?_;refine .x (oA.J4 (E:=en) rfl rfl rfl kR rfl) ?_;refine U6 ?_;refine .x (oA.OP rfl rfl kR) ?_;refine U6 ?_;refine .al fun b7=> ?_;refine U3 ?_;by_cases c1:d=0
   ·have hf:(Rw.oS x1 x2 x3 x4).fits d=false:=by rw[c1];rfl
    rw[kF _ _ _ hr hf] at q1;have hw:=hw q1.symm;have e4:gA .gtr .i64 ((d+1:Nat):Int) 1=some (.bool false):=UF oM;refine U3 ?_;refine To.QF rfl rfl rfl rfl rfl (fun H hs=> yH.of (first:= []) (captured:= []) eO rfl (dH M H)) (JH.gP func9 fun H' hs=> hw H₅ H' _ S5 sL hs)
   ·have hf:(Rw.oS x1 x2 x3 x4).fits d=true:=bne_iff_ne.2 c1;rw[gH _ _ _ hr hf] at q1;have e4:gA .gtr .i64 ((d+1:Nat):Int) 1=some (.bool true):=zF oM;refine U3 ?_;refine .cl (fun H hs=> dI M H) ?_;refine U6 ?_;refine .e (.bs (zz:=fun bs=> ?_));refine .e (Or.append (E:=en) 7 rfl rfl rfl rfl rfl rfl rfl rfl rfl rfl rfl rfl rfl rfl rfl (fun H hs=> NA.of (hs.get (i:=0) rfl) (Nat.le_of_ble_eq_true rfl)) rfl oM rfl dE (fun g2 CK RJ=> ?_));refine U5 ?_;refine Tc.FA mR (i:=2) rfl (.inl ⟨rfl,rfl⟩) (fun H' hs=> q H' H₅ _ (hs.less sL) ⟨t.put (.oS x1 x2 x3 x4),d+1,g2,q1,oM,View.le_trans q2 S5,⟨by rw[CK,q3.1];show _=(t.ls++[(x1,x2,x3,x4)]).length;rw[List.length_append];rfl,by show(t.ls++[(x1,x2,x3,x4)]).length<=_;rw[List.length_append];have:=q3.2.1;simp only[List.length_cons,List.length_nil];omega,by rw[RJ,q3.2.2];show _=lK (t.ls++[(x1,x2,x3,x4)]);unfold lK;rw[List.flatMap_append];rfl⟩,rfl⟩)
 ·rintro r H₄ _ ⟨t,d,gl,q1,q0,q2,q3,rfl⟩;have q1:PF=.inl t:=q1.symm;rw[List.length_nil] at q0;by_cases c0:d=0
  ·subst c0;have gB:xB s= []:=List.length_eq_zero_iff.1 oM;have BF:=aEi gB;refine U5 ?_;refine To.QF rfl rfl rfl rfl rfl (fun H hs=> yH.of (first:= []) (captured:= []) eO rfl (dH M H)) ?_;refine JH.mark (i:=0) rfl ?_;refine JH.q8 (L':=UP b2 b3 b4 0 t gl.val) sL ?_;refine JH.call M4 (fun H hs=> oN M H hs) ?_;refine Tb.leave (E:=en) hK func9 results9 (vs:= [_,_,_]) (by refine⟨⟨0,_,_,_,_,_,_,_,rfl,rfl,rfl,rfl⟩,?_⟩;refine⟨⟨1,_,_,_,_,_,_,_,rfl,rfl,rfl,rfl⟩,?_⟩;refine⟨⟨2,_,_,_,_,_,_,_,rfl,rfl,rfl,rfl⟩,?_⟩;exact trivial) ?_;rw[BF];exact fun H' hs=> ⟨View.le_trans q2 hs.base,none,0,rfl,oJ H'⟩
  have gB:xB s≠ []:=fun e=> by rw[e] at q0;simp at q0;omega
  have BF:=bW t q1 gB;have hv1:gl.val=.slice (gl.blk.map fun b=> ⟨b,0,none⟩) t.ch.n gl.cap:=by unfold Gl.val;rw[q3.1];rfl
  have L5:=fun(H':View) (h':H₄.le H') (h1:∀x∈gl.bl,H' x.1=some x.2)=> pF M H' t.ch _ _ (pS q3.1 q3.2.2 h1) (HA hG (View.le_trans q2 h'));rw[hv1];have c9:gA .gtr .i64 ((d:Nat):Int) 0=some (.bool true):=zF oM;by_cases c1:t.ch.nB=0
  ·rw[if_pos c1] at BF;rw[c1] at L5;refine U5 ?_;refine .cl (fun H hs=> dI M H) ?_;refine U5 ?_;refine .cl (fun H hs=> L5 H hs.base (fun x hx=> hs.at_ x (by simp[UP,hx]))) ?_;refine bJ ?_;refine Tc.D1 rfl ?_;refine Tb.mark (i:=0) rfl ?_;refine Tb.call M4 (fun H hs=> nN M H [_,_] rfl) ?_;refine Tb.leave (E:=en) hK func9 results9 (vs:= [_,_,_]) (by refine⟨⟨1,_,_,_,_,_,_,_,rfl,rfl,rfl,rfl⟩,?_⟩;refine⟨⟨2,_,_,_,_,_,_,_,rfl,rfl,rfl,rfl⟩,?_⟩;refine⟨⟨3,_,_,_,_,_,_,_,rfl,rfl,rfl,rfl⟩,?_⟩;exact trivial) ?_;rw[BF];exact fun H' hs=> ⟨View.le_trans q2 hs.base,_,_,rfl,pS q3.1 q3.2.2 (fun x hx=> hs.at_ x (by simp[UP,hx]))⟩
  ·rw[if_neg c1] at BF;have e2:gA .neq .i64 t.ch.nB 0=some (.bool true):=SC c1;generalize t.ch.nB=a at L5 BF e2;refine U5 ?_;refine .cl (fun H hs=> dI M H) ?_;refine U5 ?_;refine .cl (fun H hs=> L5 H hs.base (fun x hx=> hs.at_ x (by simp[UP,hx]))) ?_;refine bJ ?_;refine Tc.D1 rfl ?_;refine Tb.mark (i:=0) rfl ?_;refine Tb.call M4 (fun H hs=> nN M H [_,_] rfl) ?_;refine Tb.leave (E:=en) hK func9 results9 (vs:= [_,_,_]) (by refine⟨⟨1,_,_,_,_,_,_,_,rfl,rfl,rfl,rfl⟩,?_⟩;refine⟨⟨2,_,_,_,_,_,_,_,rfl,rfl,rfl,rfl⟩,?_⟩;refine⟨⟨3,_,_,_,_,_,_,_,rfl,rfl,rfl,rfl⟩,?_⟩;exact trivial) ?_;rw[BF];exact fun H' hs=> ⟨View.le_trans q2 hs.base,none,0,rfl,oJ H'⟩
 ·rintro r H₄ _ ⟨dd,t,v,e,q2,rfl⟩;have BF:=gZ dd e;refine JH.mark (i:=0) rfl ?_;refine JH.q8 (L':=UP b2 b3 b4 dd t v) sL ?_;refine JH.call M4 (fun H hs=> oN M H hs) ?_;refine Tb.leave (E:=en) hK func9 results9 (vs:= [_,_,_]) (by refine⟨⟨0,_,_,_,_,_,_,_,rfl,rfl,rfl,rfl⟩,?_⟩;refine⟨⟨1,_,_,_,_,_,_,_,rfl,rfl,rfl,rfl⟩,?_⟩;refine⟨⟨2,_,_,_,_,_,_,_,rfl,rfl,rfl,rfl⟩,?_⟩;exact trivial) ?_;rw[BF];exact fun H' hs=> ⟨View.le_trans q2 hs.base,none,0,rfl,oJ H'⟩
end
end Go.Proofs.YtgkmnalhddmclaaGreatDoor
