/-
  Texts of the proofs over baudot/dial: B4 B5 VWt2 VRun VRun2 VMain VTop R0 R1 A4 MapOk A5 Marks Draw3 Perm A6 A7 A8 A9 A10 A11.
-/
import Derived.Test.YtdnfdeplcjaonaaGreatDoorW03
import Derived.Test.YtdnfdeplcjaonaaGreatDoorTie
import Derived.Test.YtdnfdeplcjaonaaGreatDoorCards
import Derived.ProofKit
import Derived.LaidMore
import Derived.LaidHandle
import Derived.LaidSub
import Derived.Lay
import Derived.Laws.IdiomArrays
import Derived.Conc.LeavingOf
import Derived.SevenTiedAt
import Derived.Deep.Slices
namespace Go.Proofs.YtdnfdeplcjaonaaGreatDoor
open Go.RL Go.Proofs.Tryz
set_option maxRecDepth 10000
set_option maxHeartbeats 4000000
theorem isV {M:Md prog}{f:FuncId}{az:Array Value}{H:View}{w w':Value}(h:CallT M f az H fun v H'=> H.le H'∧v=w)(e:w=w'):CallT M f az H fun v H'=> H.le H'∧v=w':=e▸h
theorem isB {M:Md prog}{f:FuncId}{az:Array Value}{H:View}{w w':Bool}(h:CallT M f az H fun v H'=> H.le H'∧v=.bool w)(e:w=w'):CallT M f az H fun v H'=> H.le H'∧v=.bool w':=e▸h
def firstA(f:Nat→Int):Nat→Int
 | 0=> 0
 | n+1=> if firstA f n=0 then f n else firstA f n
theorem firstA_stays {f:Nat→Int}{j:Nat}(h:firstA f j≠0):∀m,j≤m→firstA f m=firstA f j:=by
 intro m hm;induction m with
 | zero=>
   have:j=0:=by omega
   subst this;rfl
 | succ m ih=>
   by_cases e:j=m+1
   · subst e;rfl
   · rw[firstA,ih (by omega),if_neg h]
theorem firstA_at {f:Nat→Int}{j:Nat}(h0:firstA f j=0){a:Int}(h:f j=a)(ha:a≠0){m:Nat}(hm:j<m):firstA f m=a:=by
 have h1:firstA f (j+1)=a:=by rw[firstA,if_pos h0];exact h
 rw[firstA_stays (j:=j+1) (by rw[h1];exact ha) m (by omega),h1]
def claimOk(x:Int):Bool:=decide (0≤x∧x≤2)
def Bk.pausesA(k:Bk):Int:=if(1≤k.gap∧k.gap≤99)∧(k.gap+1≤k.give∧k.give≤99) then 0 else 1
def Bk.trainBad(k:Bk)(i:Nat):Bool:=!trainOk (k.pf i) (k.pt i) (k.qf i) (k.qt i)
def Bk.trainsA(k:Bk):Int:=if 6<k.nt then 2 else if(firstTo k.trainBad k.nt).isSome then 1 else 0
section
variable(M:Md prog)(H:View)
theorem IndexC_c(F:Option Addr)(n fc:Nat)(x:Nat→Int)(hF:FreeAt H F n x)(hn:n≤1000)(fv:Value)(p:Nat→Bool)(hp:∀j,j<n→∀H',H.le H'→FnT M fv [.int .i64 (x j)] H' fun v H''=> H'.le H''∧v=.bool (p j)):
   CallT M 293 #[.slice F n fc,fv] H (fun v H'=> H.le H'∧v=.int .i64 (firstI (firstTo p n))):=by
 refine .en func293 ntmps293 fun St c cs hK=> ?_;refine U12 ?_;refine Tc.db (Tc.loopInv (σ:= { j:Nat//j≤n∧firstTo p j=none }) (fun j=> ([(0,.slice F n fc),(1,fv),(7,.int .i64 (n:Nat)),(8,.int .i64 (j.1:Nat))],[])) (fun j=> n-j.1) ?_ ⟨0,Nat.zero_le _,rfl⟩);rintro⟨j,hj,hno⟩ ih;show Tc M St _ _ _ _ [(0,.slice F n fc),(1,fv),(7,.int .i64 (n:Nat)),(8,.int .i64 (j:Nat))] [] _ _;by_cases c1:j=n
 · subst c1;rw[hno] at hK;refine U11 ?_;refine .rt hK func293 results293 [_] ?_;exact okB
 · have c2:j<n:=by omega
   obtain h0|⟨ab,ao,f,gs,gt,gz,rfl,hb,hl⟩:=hF
   · omega
   have f1:=hl j c2;have hpj:=hp j c2;cases hpp:p j with
   | true=>
     rw[hpp] at hpj;have e:firstTo p n=some j:=firstTo_stays (j:=j+1) (by simp[firstTo,hno,hpp]) _ (by omega);rw[e] at hK;refine U21 ?_;refine .c rfl rfl rfl rfl (fun H hs=> hpj H hs.base) ?_;refine U7 ?_;refine .rt hK func293 results293 [_] ?_;exact okB
   | false=>
     rw[hpp] at hpj;refine U21 ?_;refine .c rfl rfl rfl rfl (fun H hs=> hpj H hs.base) ?_;refine U8 ?_;exact Tc.db (ih ⟨j+1,by omega,by simp[firstTo,hno,hpp]⟩ (by simp only;omega))
theorem claimBad_c(x:Int):CallT M 290 #[.int .i64 x] H (fun v H'=> H.le H'∧v=.bool (!claimOk x)):=by
 cases h:claimOk x with
 | true=>
   refine .en func290 ntmps290 fun St c cs hK=> ?_;refine U7 ?_;refine .c rfl rfl rfl rfl (fun H hs=> .h (between_is M H x 0 2 true h)) ?_;refine U3 ?_;refine .rt hK func290 results290 [_] ?_;exact okB
 | false=>
   refine .en func290 ntmps290 fun St c cs hK=> ?_;refine U7 ?_;refine .c rfl rfl rfl rfl (fun H hs=> .h (between_is M H x 0 2 false h)) ?_;refine U3 ?_;refine .rt hK func290 results290 [_] ?_;exact okB
theorem ContainsC_c(F:Option Addr)(n fc:Nat)(x:Nat→Int)(hF:FreeAt H F n x)(hn:n≤1000):
   CallT M 289 #[.slice F n fc,.func (.func 290) #[] #[]] H (fun v H'=> H.le H'∧v=.bool (firstTo (fun j=> !claimOk (x j)) n).isSome):=by
 have hi:=fun(H':View) (h':H.le H')=> IndexC_c M H' F n fc x (hF.le h') hn (.func (.func 290) #[] #[]) (fun j=> !claimOk (x j)) (fun j _ H'' _=> .h (claimBad_c M H'' (x j)));cases hq:firstTo (fun j=> !claimOk (x j)) n with
 | none=>
   rw[hq] at hi;have e:firstI none= -1:=rfl;rw[e] at hi;refine .en func289 ntmps289 fun St c cs hK=> ?_;refine U8 ?_;refine .c rfl rfl rfl rfl (fun H hs=> .h (hi H hs.base)) ?_;refine U3 ?_;refine .rt hK func289 results289 [_] ?_;exact okB
 | some j=>
   rw[hq] at hi;have e:firstI (some j)=(j:Nat):=rfl;rw[e] at hi;refine .en func289 ntmps289 fun St c cs hK=> ?_;refine U8 ?_;refine .c rfl rfl rfl rfl (fun H hs=> .h (hi H hs.base)) ?_;refine U3 ?_;refine .rt hK func289 results289 [_] ?_;exact okB
theorem trainBad_c(a b c' d:Int):CallT M 292 #[trainV a b c' d] H (fun v H'=> H.le H'∧v=.bool (!trainOk a b c' d)):=by
 cases h:trainOk a b c' d with
 | true=>
   have ht:=fun(H':View)=> isB (isTrain_c M H' a b c' d) h;refine .en func292 ntmps292 fun St c cs hK=> ?_;refine U2 ?_;refine .bo fun b1=> ?_;refine U5 ?_;refine .c rfl rfl rfl rfl (fun H hs=> .h (ht H)) ?_;refine U3 ?_;refine .rt hK func292 results292 [_] ?_;exact okB
 | false=>
   have ht:=fun(H':View)=> isB (isTrain_c M H' a b c' d) h;refine .en func292 ntmps292 fun St c cs hK=> ?_;refine U2 ?_;refine .bo fun b1=> ?_;refine U5 ?_;refine .c rfl rfl rfl rfl (fun H hs=> .h (ht H)) ?_;refine U3 ?_;refine .rt hK func292 results292 [_] ?_;exact okB
theorem IndexT_c(k:Bk)(B:Option Addr)(tc:Nat)(hB:TrainsAt H k B tc)(hn:k.nt≤1000):
   CallT M 294 #[.slice B k.nt tc,.func (.func 292) #[] #[]] H (fun v H'=> H.le H'∧v=.int .i64 (firstI (firstTo k.trainBad k.nt))):=by
 refine .en func294 ntmps294 fun St c cs hK=> ?_;refine U12 ?_;refine Tc.db (Tc.loopInv (σ:= { j:Nat//j≤k.nt∧firstTo k.trainBad j=none }) (fun j=> ([(0,.slice B k.nt tc),(1,.func (.func 292) #[] #[]),(7,.int .i64 (k.nt:Nat)),(8,.int .i64 (j.1:Nat))],[])) (fun j=> k.nt-j.1) ?_ ⟨0,Nat.zero_le _,rfl⟩);rintro⟨j,hj,hno⟩ ih;show Tc M St _ _ _ _ [(0,.slice B k.nt tc),(1,.func (.func 292) #[] #[]),(7,.int .i64 (k.nt:Nat)),(8,.int .i64 (j:Nat))] [] _ _;by_cases c1:j=k.nt
 · subst c1;rw[hno] at hK;refine U11 ?_;refine .rt hK func294 results294 [_] ?_;exact okB
 · have c2:j<k.nt:=by omega
   obtain⟨_,h0|⟨ab,ao,f,gs,gt,gz,rfl,hb,hl⟩⟩:=hB
   · omega
   have f1:=hl j c2;cases hpp:k.trainBad j with
   | true=>
     have ht:=fun(H':View)=> isB (trainBad_c M H' (k.pf j) (k.pt j) (k.qf j) (k.qt j)) hpp;have e:firstTo k.trainBad k.nt=some j:=firstTo_stays (j:=j+1) (by simp[firstTo,hno,hpp]) _ (by omega);rw[e] at hK;refine U21 ?_;refine .c rfl rfl rfl rfl (fun H hs=> .h (ht H)) ?_;refine U7 ?_;refine .rt hK func294 results294 [_] ?_;exact okB
   | false=>
     have ht:=fun(H':View)=> isB (trainBad_c M H' (k.pf j) (k.pt j) (k.qf j) (k.qt j)) hpp;refine U21 ?_;refine .c rfl rfl rfl rfl (fun H hs=> .h (ht H)) ?_;refine U8 ?_;exact Tc.db (ih ⟨j+1,by omega,by simp[firstTo,hno,hpp]⟩ (by simp only;omega))
theorem ContainsT_c(k:Bk)(B:Option Addr)(tc:Nat)(hB:TrainsAt H k B tc)(hn:k.nt≤1000):
   CallT M 291 #[.slice B k.nt tc,.func (.func 292) #[] #[]] H (fun v H'=> H.le H'∧v=.bool (firstTo k.trainBad k.nt).isSome):=by
 have hi:=fun(H':View) (h':H.le H')=> IndexT_c M H' k B tc (hB.le h') hn;cases hq:firstTo k.trainBad k.nt with
 | none=>
   rw[hq] at hi;have e:firstI none= -1:=rfl;rw[e] at hi;refine .en func291 ntmps291 fun St c cs hK=> ?_;refine U8 ?_;refine .c rfl rfl rfl rfl (fun H hs=> .h (hi H hs.base)) ?_;refine U3 ?_;refine .rt hK func291 results291 [_] ?_;exact okB
 | some j=>
   rw[hq] at hi;have e:firstI (some j)=(j:Nat):=rfl;rw[e] at hi;refine .en func291 ntmps291 fun St c cs hK=> ?_;refine U8 ?_;refine .c rfl rfl rfl rfl (fun H hs=> .h (hi H hs.base)) ?_;refine U3 ?_;refine .rt hK func291 results291 [_] ?_;exact okB
theorem trains_c(k:Bk)(A:Option Addr)(lc:Nat)(B:Option Addr)(tc:Nat)(hB:TrainsAt H k B tc)(hn:k.nt≤1000):
   CallT M 286 #[k.val A lc B tc] H (fun v H'=> H.le H'∧v=.int .i64 k.trainsA):=by
 by_cases c1:6<k.nt
 · have e:k.trainsA=2:=if_pos c1;rw[e];refine .en func286 ntmps286 fun St c cs hK=> ?_;refine U2 ?_;refine .bo fun b1=> ?_;refine U18 ?_;refine .rt hK func286 results286 [_] ?_;exact okB
 · have hc:=fun(H':View) (h':H.le H')=> ContainsT_c M H' k B tc (hB.le h') hn;cases hq:(firstTo k.trainBad k.nt).isSome with
   | true=>
     rw[hq] at hc;have e:k.trainsA=1:=by unfold Bk.trainsA;rw[if_neg c1,hq];rfl
     rw[e];refine .en func286 ntmps286 fun St c cs hK=> ?_;refine U2 ?_;refine .bo fun b1=> ?_;refine U19 ?_;refine .c rfl rfl rfl rfl (fun H hs=> .h (hc H hs.base)) ?_;refine U7 ?_;refine .rt hK func286 results286 [_] ?_;exact okB
   | false=>
     rw[hq] at hc;have e:k.trainsA=0:=by unfold Bk.trainsA;rw[if_neg c1,hq];rfl
     rw[e];refine .en func286 ntmps286 fun St c cs hK=> ?_;refine U2 ?_;refine .bo fun b1=> ?_;refine U19 ?_;refine .c rfl rfl rfl rfl (fun H hs=> .h (hc H hs.base)) ?_;refine U9 ?_;refine .rt hK func286 results286 [_] ?_;exact okB
theorem pauses_c(k:Bk)(A:Option Addr)(lc:Nat)(B:Option Addr)(tc:Nat):
   CallT M 284 #[k.val A lc B tc] H (fun v H'=> H.le H'∧v=.int .i64 k.pausesA):=by
 by_cases c1:1≤k.gap∧k.gap≤99
 · by_cases c2:k.gap+1≤k.give∧k.give≤99
   · have e:k.pausesA=0:=if_pos ⟨c1,c2⟩;rw[e];have h1:=fun(H':View)=> between_is M H' k.gap 1 99 true (decide_eq_true c1);have h2:=fun(H':View)=> between_is M H' k.give (k.gap+1) 99 true (decide_eq_true c2);refine .en func284 ntmps284 fun St c cs hK=> ?_;refine U2 ?_;refine .bo fun b1=> ?_;refine U8 ?_;refine .c rfl rfl rfl rfl (fun H hs=> .h (h1 H)) ?_;refine U9 ?_;refine .c rfl rfl rfl rfl (fun H hs=> .h (h2 H)) ?_;refine U9 ?_;refine .rt hK func284 results284 [_] ?_;exact okB
   · have e:k.pausesA=1:=if_neg (fun h=> c2 h.2);rw[e];have h1:=fun(H':View)=> between_is M H' k.gap 1 99 true (decide_eq_true c1);have h2:=fun(H':View)=> between_is M H' k.give (k.gap+1) 99 false (decide_eq_false c2);refine .en func284 ntmps284 fun St c cs hK=> ?_;refine U2 ?_;refine .bo fun b1=> ?_;refine U8 ?_;refine .c rfl rfl rfl rfl (fun H hs=> .h (h1 H)) ?_;refine U9 ?_;refine .c rfl rfl rfl rfl (fun H hs=> .h (h2 H)) ?_;refine U8 ?_;refine .rt hK func284 results284 [_] ?_;exact okB
 · have e:k.pausesA=1:=if_neg (fun h=> c1 h.1);rw[e];have h1:=fun(H':View)=> between_is M H' k.gap 1 99 false (decide_eq_false c1);refine .en func284 ntmps284 fun St c cs hK=> ?_;refine U2 ?_;refine .bo fun b1=> ?_;refine U8 ?_;refine .c rfl rfl rfl rfl (fun H hs=> .h (h1 H)) ?_;refine U18 ?_;refine .rt hK func284 results284 [_] ?_;exact okB
end
set_option maxHeartbeats 8000000
def Bk.pre(k:Bk)(i:Nat):Bk:= { k with nl:=i }
def Bk.again(k:Bk)(i:Nat):Bool:=(firstTo (fun j=> k.name j==k.name i) i).isSome
def Bk.freeBad(k:Bk)(i:Nat):Bool:=(firstTo (fun j=> !claimOk (k.free i j)) (k.nf i)).isSome
def Bk.lineA(k:Bk)(i:Nat):Int:=if isNm (k.name i)=false then 4 else if k.again i=true then 5 else if isNum (k.num i)=false then 3 else if(k.pre i).clash (k.num i)=true then 10 else if decide (1≤((k.nf i:Nat):Int)∧((k.nf i:Nat):Int)≤4)=false then 2 else if k.freeBad i=true then 1 else 0
def Bk.linesA(k:Bk):Int:=if 6<k.nl then 2 else firstA k.lineA k.nl
def Bk.alarm(k:Bk):Int:=if k.pausesA=0 then if k.linesA=0 then k.trainsA else k.linesA else k.pausesA
theorem RowsAt.pre {H:View}{k:Bk}{A:Option Addr}{lc:Nat}(h:RowsAt H k A lc){i:Nat}(hi:i≤k.nl):RowsAt H (k.pre i) A lc:=by
 obtain⟨h1,h2⟩:=h;refine⟨Nat.le_trans hi h1,?_⟩;rcases h2 with h2|⟨b,o,f,gs,gt,gz,h3,h4,h5⟩
 · exact .inl (by show i=0;omega)
 · exact .inr ⟨b,o,f,gs,gt,gz,h3,h4,fun j hj=> h5 j (Nat.lt_of_lt_of_le hj hi)⟩
section
variable(M:Md prog)(H:View)
theorem same_c(nm:List UInt8)(b3:Nat)(f:Bool)(c0:List Value)(hb:H b3=some (f,.cells ⟨strV nm::c0⟩ 64 (0,0)))(a num:List UInt8)(F:Option Addr)(n fc:Nat):
   CallT M 288 #[lineV a num F n fc,.pointer (some ⟨b3,0,none⟩)] H (fun v H'=> H.le H'∧v=.bool (a==nm)):=by
 refine .en func288 ntmps288 fun St c cs hK=> ?_;refine U2 ?_;refine .bo fun b2=> ?_;refine U11 ?_;refine .rt hK func288 results288 [_] ?_;exact okB
theorem lines_c (k:Bk)(A:Option Addr)(lc:Nat)(B:Option Addr)(tc:Nat)(hA:RowsAt H k A lc)(hn:k.nl≤1000)(hs0:∀i,i<k.nl→(k.num i).length≤1000000∧k.nf i≤1000):
   CallT M 285 #[k.val A lc B tc] H (fun v H'=> H.le H'∧v=.int .i64 k.linesA):=by
 by_cases c1:6<k.nl
 · have e:k.linesA=2:=if_pos c1;rw[e];refine .en func285 ntmps285 fun St c cs hK=> ?_;refine U2 ?_;refine .bo fun b1=> ?_;refine U16 ?_;refine .rt hK func285 results285 [_] ?_;exact okB
 · have e:k.linesA=firstA k.lineA k.nl:=if_neg c1;rw[e];clear e;refine .en func285 ntmps285 fun St c cs hK=> ?_;refine U2 ?_;refine .bo fun b1=> ?_;refine U23 ?_;refine Tc.db (Tc.loopInv (σ:= { j:Nat//j≤k.nl∧firstA k.lineA j=0 }) (fun j=> ([(1,.pointer (some ⟨b1,0,none⟩)),(13,.slice A k.nl lc),(14,.int .i64 (k.nl:Nat)),(15,.int .i64 (j.1:Nat))],[(b1,true,.cells ⟨(k.val A lc B tc).cells.toList⟩ 113 (0,0))])) (fun j=> k.nl-j.1) ?_ ⟨0,Nat.zero_le _,rfl⟩);rintro⟨j,hj,hno⟩ ih;show Tc M St _ _ _ _ [(1,.pointer (some ⟨b1,0,none⟩)),(13,.slice A k.nl lc),(14,.int .i64 (k.nl:Nat)),(15,.int .i64 (j:Nat))] [(b1,true,.cells ⟨(k.val A lc B tc).cells.toList⟩ 113 (0,0))] _ _;by_cases c2:j=k.nl
   · subst c2;rw[hno] at hK;refine U11 ?_;refine .rt hK func285 results285 [_] ?_;exact okB
   · have c3 : j < k.nl:=by omega
     have hA':=hA;obtain⟨hlc,h0|⟨ab,ao,f,gs,gt,gz,rfl,hb,hl⟩⟩:=hA
     · omega
     obtain⟨F,fc,f1,_,hF⟩:=hl j c3;obtain⟨s1,s2⟩:=hs0 j c3;have hA2:RowsAt H (k.pre j) (some ⟨ab,ao,none⟩) lc:=hA'.pre hj;cases q0:isNm (k.name j) with
     | false=>
       have eA:k.lineA j=4:=by unfold Bk.lineA;simp only[q0];simp
       rw[firstA_at hno eA (by decide) c3] at hK;refine U14 ?_;refine .al fun b4=> ?_;refine U9 ?_;refine .x (OpV.sliceTo (E:=en) (k:=j) rfl rfl rfl rfl rfl rfl (by omega) (by omega)) ?_;refine U7 ?_;refine .c rfl rfl rfl rfl (fun H hs=> .h (isB (isName_c M H (k.name j)) q0)) ?_;refine U8 ?_;refine .rt hK func285 results285 [_] ?_;exact okB
     | true=>
       cases q1:k.again j with
       | true=>
         have eA:k.lineA j=5:=by unfold Bk.lineA;simp only[q0,q1];simp
         rw[firstA_at hno eA (by decide) c3] at hK;refine U14 ?_;refine .al fun b4=> ?_;refine U9 ?_;refine .x (OpV.sliceTo (E:=en) (k:=j) rfl rfl rfl rfl rfl rfl (by omega) (by omega)) ?_;refine U7 ?_;refine .c rfl rfl rfl rfl (fun H hs=> .h (isB (isName_c M H (k.name j)) q0)) ?_;refine U8 ?_;refine .c rfl rfl rfl rfl (fun H hs=> .h (isB (ContainsL_c M H (k.pre j) (some ⟨ab,ao,none⟩) lc (hA2.le hs.base) (by show j≤1000;omega) _ (fun i=> k.name i==k.name j) (fun i _ F fc H' hle=> FnT.of (first:= []) (captured:= [_]) ca288 rfl (same_c M H' (k.name j) b4 true _ (hle _ _ (hs.get (i:=0) rfl)) (k.name i) (k.num i) F (k.nf i) fc))) q1)) ?_;refine U7 ?_;refine .rt hK func285 results285 [_] ?_;exact okB
       | false =>
         cases q2:isNum (k.num j) with
         | false=>
           have eA:k.lineA j=3:=by unfold Bk.lineA;simp only[q0,q1,q2];simp
           rw[firstA_at hno eA (by decide) c3] at hK;refine U14 ?_;refine .al fun b4=> ?_;refine U9 ?_;refine .x (OpV.sliceTo (E:=en) (k:=j) rfl rfl rfl rfl rfl rfl (by omega) (by omega)) ?_;refine U7 ?_;refine .c rfl rfl rfl rfl (fun H hs=> .h (isB (isName_c M H (k.name j)) q0)) ?_;refine U8 ?_;refine .c rfl rfl rfl rfl (fun H hs=> .h (isB (ContainsL_c M H (k.pre j) (some ⟨ab,ao,none⟩) lc (hA2.le hs.base) (by show j≤1000;omega) _ (fun i=> k.name i==k.name j) (fun i _ F fc H' hle=> FnT.of (first:= []) (captured:= [_]) ca288 rfl (same_c M H' (k.name j) b4 true _ (hle _ _ (hs.get (i:=0) rfl)) (k.name i) (k.num i) F (k.nf i) fc))) q1)) ?_;refine U7 ?_;refine .c rfl rfl rfl rfl (fun H hs=> .h (isB (isNumber_c M H (k.num j) s1) q2)) ?_;refine U8 ?_;refine .rt hK func285 results285 [_] ?_;exact okB
         | true=>
           cases q3:(k.pre j).clash (k.num j) with
           | true=>
             have eA:k.lineA j=10:=by unfold Bk.lineA;simp only[q0,q1,q2,q3];simp
             rw[firstA_at hno eA (by decide) c3] at hK;refine U14 ?_;refine .al fun b4=> ?_;refine U9 ?_;refine .x (OpV.sliceTo (E:=en) (k:=j) rfl rfl rfl rfl rfl rfl (by omega) (by omega)) ?_;refine U7 ?_;refine .c rfl rfl rfl rfl (fun H hs=> .h (isB (isName_c M H (k.name j)) q0)) ?_;refine U8 ?_;refine .c rfl rfl rfl rfl (fun H hs=> .h (isB (ContainsL_c M H (k.pre j) (some ⟨ab,ao,none⟩) lc (hA2.le hs.base) (by show j≤1000;omega) _ (fun i=> k.name i==k.name j) (fun i _ F fc H' hle=> FnT.of (first:= []) (captured:= [_]) ca288 rfl (same_c M H' (k.name j) b4 true _ (hle _ _ (hs.get (i:=0) rfl)) (k.name i) (k.num i) F (k.nf i) fc))) q1)) ?_;refine U7 ?_;refine .c rfl rfl rfl rfl (fun H hs=> .h (isB (isNumber_c M H (k.num j) s1) q2)) ?_;refine U9 ?_;refine .c rfl rfl rfl rfl (fun H hs=> .h (isB (clashes_c M H (k.pre j) (some ⟨ab,ao,none⟩) lc (hA2.le hs.base) (by show j≤1000;omega) (k.num j)) q3)) ?_;refine U7 ?_;refine .rt hK func285 results285 [_] ?_;exact okB
           | false=>
             cases q4:decide (1≤((k.nf j:Nat):Int)∧((k.nf j:Nat):Int)≤4) with
             | false=>
               have eA:k.lineA j=2:=by unfold Bk.lineA;simp only[q0,q1,q2,q3,q4];simp
               rw[firstA_at hno eA (by decide) c3] at hK;refine U14 ?_;refine .al fun b4=> ?_;refine U9 ?_;refine .x (OpV.sliceTo (E:=en) (k:=j) rfl rfl rfl rfl rfl rfl (by omega) (by omega)) ?_;refine U7 ?_;refine .c rfl rfl rfl rfl (fun H hs=> .h (isB (isName_c M H (k.name j)) q0)) ?_;refine U8 ?_;refine .c rfl rfl rfl rfl (fun H hs=> .h (isB (ContainsL_c M H (k.pre j) (some ⟨ab,ao,none⟩) lc (hA2.le hs.base) (by show j≤1000;omega) _ (fun i=> k.name i==k.name j) (fun i _ F fc H' hle=> FnT.of (first:= []) (captured:= [_]) ca288 rfl (same_c M H' (k.name j) b4 true _ (hle _ _ (hs.get (i:=0) rfl)) (k.name i) (k.num i) F (k.nf i) fc))) q1)) ?_;refine U7 ?_;refine .c rfl rfl rfl rfl (fun H hs=> .h (isB (isNumber_c M H (k.num j) s1) q2)) ?_;refine U9 ?_;refine .c rfl rfl rfl rfl (fun H hs=> .h (isB (clashes_c M H (k.pre j) (some ⟨ab,ao,none⟩) lc (hA2.le hs.base) (by show j≤1000;omega) (k.num j)) q3)) ?_;refine U8 ?_;refine .c rfl rfl rfl rfl (fun H hs=> .h (between_is M H ((k.nf j:Nat):Int) 1 4 false q4)) ?_;refine U8 ?_;refine .rt hK func285 results285 [_] ?_;exact okB
             | true=>
               cases q5:k.freeBad j with
               | true=>
                 have eA:k.lineA j=1:=by unfold Bk.lineA;simp only[q0,q1,q2,q3,q4,q5];simp
                 rw[firstA_at hno eA (by decide) c3] at hK;refine U14 ?_;refine .al fun b4=> ?_;refine U9 ?_;refine .x (OpV.sliceTo (E:=en) (k:=j) rfl rfl rfl rfl rfl rfl (by omega) (by omega)) ?_;refine U7 ?_;refine .c rfl rfl rfl rfl (fun H hs=> .h (isB (isName_c M H (k.name j)) q0)) ?_;refine U8 ?_;refine .c rfl rfl rfl rfl (fun H hs=> .h (isB (ContainsL_c M H (k.pre j) (some ⟨ab,ao,none⟩) lc (hA2.le hs.base) (by show j≤1000;omega) _ (fun i=> k.name i==k.name j) (fun i _ F fc H' hle=> FnT.of (first:= []) (captured:= [_]) ca288 rfl (same_c M H' (k.name j) b4 true _ (hle _ _ (hs.get (i:=0) rfl)) (k.name i) (k.num i) F (k.nf i) fc))) q1)) ?_;refine U7 ?_;refine .c rfl rfl rfl rfl (fun H hs=> .h (isB (isNumber_c M H (k.num j) s1) q2)) ?_;refine U9 ?_;refine .c rfl rfl rfl rfl (fun H hs=> .h (isB (clashes_c M H (k.pre j) (some ⟨ab,ao,none⟩) lc (hA2.le hs.base) (by show j≤1000;omega) (k.num j)) q3)) ?_;refine U8 ?_;refine .c rfl rfl rfl rfl (fun H hs=> .h (between_is M H ((k.nf j:Nat):Int) 1 4 true q4)) ?_;refine U8 ?_;refine .c rfl rfl rfl rfl (fun H hs=> .h (isB (ContainsC_c M H F (k.nf j) fc (k.free j) (hF.le hs.base) s2) q5)) ?_;refine U7 ?_;refine .rt hK func285 results285 [_] ?_;exact okB
               | false=>
                 have eA:k.lineA j=0:=by unfold Bk.lineA;simp only[q0,q1,q2,q3,q4,q5];simp
                 refine U14 ?_;refine .al fun b4=> ?_;refine U9 ?_;refine .x (OpV.sliceTo (E:=en) (k:=j) rfl rfl rfl rfl rfl rfl (by omega) (by omega)) ?_;refine U7 ?_;refine .c rfl rfl rfl rfl (fun H hs=> .h (isB (isName_c M H (k.name j)) q0)) ?_;refine U8 ?_;refine .c rfl rfl rfl rfl (fun H hs=> .h (isB (ContainsL_c M H (k.pre j) (some ⟨ab,ao,none⟩) lc (hA2.le hs.base) (by show j≤1000;omega) _ (fun i=> k.name i==k.name j) (fun i _ F fc H' hle=> FnT.of (first:= []) (captured:= [_]) ca288 rfl (same_c M H' (k.name j) b4 true _ (hle _ _ (hs.get (i:=0) rfl)) (k.name i) (k.num i) F (k.nf i) fc))) q1)) ?_;refine U7 ?_;refine .c rfl rfl rfl rfl (fun H hs=> .h (isB (isNumber_c M H (k.num j) s1) q2)) ?_;refine U9 ?_;refine .c rfl rfl rfl rfl (fun H hs=> .h (isB (clashes_c M H (k.pre j) (some ⟨ab,ao,none⟩) lc (hA2.le hs.base) (by show j≤1000;omega) (k.num j)) q3)) ?_;refine U8 ?_;refine .c rfl rfl rfl rfl (fun H hs=> .h (between_is M H ((k.nf j:Nat):Int) 1 4 true q4)) ?_;refine U8 ?_;refine .c rfl rfl rfl rfl (fun H hs=> .h (isB (ContainsC_c M H F (k.nf j) fc (k.free j) (hF.le hs.base) s2) q5)) ?_;refine U10 ?_;exact Tc.db (ih ⟨j+1,by omega,by rw[firstA,if_pos hno];exact eA⟩ (by simp only;omega))
def chkF(i:Nat):Value:=.func (.func ([284,285,286][i]?.getD 0)) #[] #[]
def Glob(H:View):Prop:=(∃f gt gz,H 0=some (f,.cells ⟨[chkF 0,chkF 1,chkF 2]⟩ gt gz))∧∃f gt gz,H 1=some (f,.cells ⟨[.int .i64 0,.int .i64 2,.int .i64 1]⟩ gt gz)
def Bk.chk(k:Bk)(i:Nat):Int:= [k.pausesA,k.linesA,k.trainsA][i]?.getD 0
theorem glob_le {H H':View}(h:Glob H)(hl:H.le H'):Glob H':=⟨h.1.imp fun _ ⟨gt,gz,e⟩=> ⟨gt,gz,hl _ _ e⟩,h.2.imp fun _ ⟨gt,gz,e⟩=> ⟨gt,gz,hl _ _ e⟩⟩
theorem Bk.alarm_eq(k:Bk):k.alarm=firstA k.chk 3:=by
 unfold Bk.alarm;simp only[firstA,Bk.chk];by_cases h1:k.pausesA=0 <;> by_cases h2:k.linesA=0 <;> simp[h1,h2]
structure BkAt(H:View)(k:Bk)(A:Option Addr)(lc:Nat)(B:Option Addr)(tc:Nat):Prop where
 rows:RowsAt H k A lc
 trains:TrainsAt H k B tc
theorem BkAt.le {H H':View}{k:Bk}{A:Option Addr}{lc:Nat}{B:Option Addr}{tc:Nat}(h:BkAt H k A lc B tc)(hl:H.le H'):BkAt H' k A lc B tc:=⟨h.rows.le hl,h.trains.le hl⟩
structure Bk.small(k:Bk):Prop where
 nl:k.nl≤1000
 nt:k.nt≤1000
 num:∀i,i<k.nl→(k.num i).length≤1000000∧k.nf i≤1000
theorem chk_c(k:Bk)(A:Option Addr)(lc:Nat)(B:Option Addr)(tc:Nat)(hk:BkAt H k A lc B tc)(hn:k.small)(i:Nat)(hi:i<3):FnT M (chkF i) [k.val A lc B tc] H fun v H''=> H.le H''∧v=.int .i64 (k.chk i):=by
 match i,hi with
 | 0,_=> exact FnT.h (pauses_c M H k A lc B tc)
 | 1,_=> exact FnT.h (lines_c M H k A lc B tc hk.rows hn.nl hn.num)
 | 2,_=> exact FnT.h (trains_c M H k A lc B tc hk.trains hn.nt)
theorem CheckBook_c(k:Bk)(A:Option Addr)(lc:Nat)(B:Option Addr)(tc:Nat)(hk:BkAt H k A lc B tc)(hn:k.small)(hG:Glob H):
   CallT M 21 #[k.val A lc B tc] H (fun v H'=> H.le H'∧v=.int .i64 k.alarm):=by
 rw[k.alarm_eq];obtain⟨⟨f,gt,gz,hG⟩,_⟩:=hG;refine .en func21 ntmps21 fun St c cs hK=> ?_;refine U2 ?_;refine .bo fun b1=> ?_;refine U9 ?_;refine Tc.db (Tc.loopInv (σ:= { j:Nat//j≤3∧firstA k.chk j=0 }) (fun j=> ([(1,.pointer (some ⟨b1,0,none⟩)),(6,.agg ⟨[chkF 0,chkF 1,chkF 2]⟩),(7,.int .i64 (j.1:Nat))],[(b1,true,.cells ⟨(k.val A lc B tc).cells.toList⟩ 25 (0,0))])) (fun j=> 3-j.1) ?_ ⟨0,Nat.zero_le _,rfl⟩);rintro⟨j,hj,hno⟩ ih;show Tc M St _ _ _ _ [(1,.pointer (some ⟨b1,0,none⟩)),(6,.agg ⟨[chkF 0,chkF 1,chkF 2]⟩),(7,.int .i64 (j:Nat))] [(b1,true,.cells ⟨(k.val A lc B tc).cells.toList⟩ 25 (0,0))] _ _;by_cases c1:j=3
 · subst c1;rw[hno] at hK;refine U11 ?_;refine .rt hK func21 results21 [_] ?_;exact okB
 · have c2:j<3:=by omega
   have f1:ldL false 1 [chkF 0,chkF 1,chkF 2] (((j:Nat):Int).toNat*1)=some (chkF j):=by
     rcases(by omega:j=0∨j=1∨j=2) with rfl|rfl|rfl <;> rfl
   by_cases c3:k.chk j=0
   · have hc:=fun(H':View) (h':H.le H')=> chk_c M H' k A lc B tc (hk.le h') hn j c2;rw[c3] at hc;refine U11 ?_;refine .x (OpV.index (E:=en) rfl rfl rfl rfl rfl rfl (by omega) (by omega) (by assumption)) ?_;refine U7 ?_;refine .c rfl rfl rfl rfl (fun H hs=> hc H hs.base) ?_;refine U14 ?_;exact Tc.db (ih ⟨j+1,by omega,by rw[firstA,if_pos hno];exact c3⟩ (by simp only;omega))
   · rw[firstA_at hno rfl c3 c2] at hK;refine U11 ?_;refine .x (OpV.index (E:=en) rfl rfl rfl rfl rfl rfl (by omega) (by omega) (by assumption)) ?_;refine U7 ?_;refine .c rfl rfl rfl rfl (fun H hs=> chk_c M H k A lc B tc (hk.le hs.base) hn j c2) ?_;refine U13 ?_;refine .rt hK func21 results21 [_] ?_;exact okB
def bk0:Bk:=⟨0,0,0,fun _=> [],fun _=> [],fun _=> 0,fun _ _=> 0,0,fun _=> 0,fun _=> 0,fun _=> 0,fun _=> 0⟩
theorem open_alarm(k:Bk)(A:Option Addr)(lc:Nat)(B:Option Addr)(tc:Nat)(there:Bool)(hk:BkAt H k A lc B tc)(hn:k.small)(hG:Glob H)(ha:k.alarm≠0):
   CallT M 81 #[k.val A lc B tc,.bool there] H (fun v H'=> H.le H'∧v=.tuple ⟨[bk0.val none 0 none 0,.int .i64 k.alarm]⟩):=by
 refine .en func81 ntmps81 fun St c cs hK=> ?_;refine U2 ?_;refine .bo fun b2=> ?_;refine .al fun b4=> ?_;refine U6 ?_;refine .c rfl rfl rfl rfl (fun H hs=> .h (CheckBook_c M H k A lc B tc (hk.le hs.base) hn (glob_le hG hs.base))) ?_;refine U15 ?_;refine .rt hK func81 results81 [_,_] ?_;exact okB
theorem open_absent(k:Bk)(A:Option Addr)(lc:Nat)(B:Option Addr)(tc:Nat)(hk:BkAt H k A lc B tc)(hn:k.small)(hG:Glob H)(ha:k.alarm=0):
   CallT M 81 #[k.val A lc B tc,.bool false] H (fun v H'=> H.le H'∧v=.tuple ⟨[bk0.val none 0 none 0,.int .i64 6]⟩):=by
 have hc:=fun(H':View) (h':H.le H')=> CheckBook_c M H' k A lc B tc (hk.le h') hn (glob_le hG h');rw[ha] at hc;refine .en func81 ntmps81 fun St c cs hK=> ?_;refine U2 ?_;refine .bo fun b2=> ?_;refine .al fun b4=> ?_;refine U6 ?_;refine .c rfl rfl rfl rfl (fun H hs=> .h (hc H hs.base)) ?_;refine U22 ?_;refine .rt hK func81 results81 [_,_] ?_;exact okB
theorem open_yes(k:Bk)(A:Option Addr)(lc:Nat)(B:Option Addr)(tc:Nat)(hk:BkAt H k A lc B tc)(hn:k.small)(hG:Glob H)(ha:k.alarm=0):
   CallT M 81 #[k.val A lc B tc,.bool true] H (fun v H'=> H.le H'∧v=.tuple ⟨[k.val A lc B tc,.int .i64 0]⟩):=by
 have hc:=fun(H':View) (h':H.le H')=> CheckBook_c M H' k A lc B tc (hk.le h') hn (glob_le hG h');rw[ha] at hc;refine .en func81 ntmps81 fun St c cs hK=> ?_;refine U2 ?_;refine .bo fun b2=> ?_;refine .al fun b4=> ?_;refine U6 ?_;refine .c rfl rfl rfl rfl (fun H hs=> .h (hc H hs.base)) ?_;refine U24 ?_;refine .rt hK func81 results81 [_,_] ?_;exact okB
end
end Go.Proofs.YtdnfdeplcjaonaaGreatDoor
namespace Go.RL
open Go.Conc Go.ConcN Go.RL.Au
open Go.ConcR (stA smA)
open Go.ConcM (muA OsLater)
section
variable {X:Fk}{B:View}{base N:Nat}{os0:Os0}{w w':World}{t:Trace}{ths:List Th}{m m':Mn}{s s':Sh}{H:Nat→View}{D:Nat→Bool}{fn:FuncId}{pos:String}
theorem set_get {ths:List Th}{κ:Nat}{T T':Th}(hκ:ths[κ]? =some T):∀(κ':Nat) T'',(ths.set κ T')[κ']? =some T''→(κ'=κ∧T''=T')∨(κ'≠κ∧ths[κ']? =some T''):=fun κ' T'' h'=> by
 by_cases e:κ=κ'
 · subst e;rw[List.getElem?_set_self (List.getElem?_eq_some_iff.1 hκ).1] at h';cases h'
   exact .inl ⟨rfl,rfl⟩
 · rw[List.getElem?_set_ne e] at h';exact .inr ⟨Ne.symm e,h'⟩
theorem one_mark(i:Nat)(mm:Mark):MemOp.ofEvents i fn pos #[Go.ConcR.mk mm]=#[{ g:=i,fn,pos,act:=.mark mm }]:=by
 rw[ofEvents_eq];simp[Go.ConcR.ofEvent_mk]
theorem mark_deaf {i j:Nat}{mm:Mark}(h1:mm≠ .disable)(h2:mm≠ .enable):Deaf (t++MemOp.ofEvents i fn pos #[Go.ConcR.mk mm]) j=Deaf t j:=by
 refine Deaf_still t j _ fun op hop=> ?_;rw[one_mark] at hop;simp at hop
 subst hop;simp[h1,h2]
theorem also_ne {D:Nat→Bool}{κ κ':Nat}(e:κ'≠κ):also D κ κ'=D κ':=by simp[also,e]
theorem WT.ownW(h:WT X B base N os0 w t ths m s H D)(ne:X.Wg≠X.C){κ:Nat}(hκ:ths[κ]? =some .pw)(hN:base+κ<N){w':World}{o':Obj}{es:Array Event}{D':Nat→Bool}(ht:OwnW X κ w w' o' es)(hG:X.GI D' o'):
   WT X B base N os0 w' (t++MemOp.ofEvents (base+κ) fn pos es) (ths.set κ .wr) m s H D':=by
 obtain⟨_,h3,h4⟩:=h.free;have hops:∀op∈MemOp.ofEvents (base+κ) fn pos es,op.g=base+κ∧op.act=MemAct.ofEvent ⟨.cell ⟨X.C,κ,none⟩,true,false⟩:=by
   rw[ofEvents_eq];intro op hop;obtain⟨e,he,rfl⟩:=Array.mem_map.1 hop;rw[ht.ev e he];exact⟨rfl,rfl⟩
 have hown:∀op∈MemOp.ofEvents (base+κ) fn pos es,op.g=base+κ:=fun op hop=> (hops op hop).1;have hto:∀op∈MemOp.ofEvents (base+κ) fn pos es,∀a,op.act.touch? =some a→a.kind=.plain∧a.loc=.cell ⟨X.C,κ,none⟩:=fun op hop a ha=> by
   rw[(hops op hop).2] at ha;simp[MemAct.ofEvent,MemAct.touch?] at ha
   subst ha;exact⟨rfl,rfl⟩
 have hdd:∀j,Deaf (t++MemOp.ofEvents (base+κ) fn pos es) j=Deaf t j:=fun j=> Deaf_still t j _ fun op hop=> by rw[(hops op hop).2];simp[MemAct.ofEvent]
 have hsat:∀V:View,V X.C=none→Sat V w→Sat V w':=fun V hV hs b f o hbb=> by
   rw[ht.rest b (by rintro rfl;rw[hV] at hbb;cases hbb)];exact hs b f o hbb
 refine⟨⟨by rw[ht.rest _ ne];exact h.sh.wg⟩,by rw[ht.size];exact h.cb,⟨fun g=> hsat _ (h3 g) (h.vi.sat g),h.vi.dj,h.vi.sh,hsat _ h.vi.bn.2 h.vi.bs,h.vi.bd,h.vi.bn⟩,h.hx,?_,⟨⟨o',ht.at_,hG⟩,h3,h4.own hown hto⟩,fun κ' T hκ' hT=> ?_,by rw[hdd];exact h.df0,fun κ' T hκ' hT=> ?_,h.os.trans ht.os⟩
 · rw[ht.size];exact h.ti.own h4 hN hown hto (fun op hop a e=> by rw[(hops op hop).2] at e;simp[MemAct.ofEvent] at e) h3 ⟨Ne.symm ne,Ne.symm ne⟩ h.cb
 · rcases set_get hκ κ' T hκ' with ⟨rfl,rfl⟩|⟨e,hκ''⟩
   · cases hT
   · obtain⟨r,hr⟩:=h.muted κ' T hκ'' hT;exact⟨r,hr.appOther (g:=base+κ) hown (by omega)⟩
 · rw[hdd];rcases set_get hκ κ' T hκ' with ⟨rfl,rfl⟩|⟨e,hκ''⟩
   · exact h.dfw κ' .pw hκ (by simp)
   · exact h.dfw κ' T hκ'' hT
theorem WT.mute(h:WT X B base N os0 w t ths m s H D)(ne:X.Wg≠X.C){κ:Nat}(hκ:ths[κ]? =some .wr)(hN:base+κ<N):
   WT X B base N os0 w (t++MemOp.ofEvents (base+κ) fn pos #[Go.ConcR.mk (.releaseMerge (stA X.Wg))]) (ths.set κ .wk) m s H D:=by
 have hlt:=(List.getElem?_eq_some_iff.1 hκ).1;have hact:Act base N (base+κ):=.inr ⟨by omega,hN⟩;have hop:=mark_op (X:=X) (H:=H (base+κ)) (g:=base+κ) (fn:=fn) (pos:=pos) (m:=.releaseMerge (stA X.Wg)) (t:=t) (fun x hx=> by cases hx) (fun a e=> by cases e);have hd0:Deaf t (base+κ)=0:=h.dfw κ _ hκ (by simp);have hdd:∀j,Deaf (t++MemOp.ofEvents (base+κ) fn pos #[Go.ConcR.mk (.releaseMerge (stA X.Wg))]) j=Deaf t j:=fun j=> mark_deaf (by simp) (by simp);refine⟨h.sh,h.cb,h.vi,h.hx,h.tiOwn ne hact hN hop,?_,fun κ' T hκ' hT=> ?_,by rw[hdd];exact h.df0,fun κ' T hκ' hT=> ?_,h.os⟩
 · obtain⟨h1,h3,h4⟩:=h.free;refine⟨h1,h3,h4.grow fun op hopm x hx=> ?_⟩;rw[one_mark] at hopm;simp at hopm
   subst hopm;cases hx
 · rcases set_get hκ κ' T hκ' with ⟨rfl,rfl⟩|⟨e,hκ''⟩
   · exact⟨_,RelBy.new hd0 fn pos⟩
   · obtain⟨r,hr⟩:=h.muted κ' T hκ'' hT;exact⟨r,hr.appOther (g:=base+κ) hop.own (by omega)⟩
 · rw[hdd];rcases set_get hκ κ' T hκ' with ⟨rfl,rfl⟩|⟨e,hκ''⟩
   · exact hd0
   · exact h.dfw κ' T hκ'' hT
theorem ro_some {R:View}{b:Nat}{f:Bool}{o:Obj}(h:ro R b=some (f,o)):f=false∧∃f',R b=some (f',o):=by
 unfold ro at h;obtain⟨x,hx,he⟩:=Option.map_eq_some_iff.1 h;cases he
 exact⟨rfl,x.1,hx⟩
theorem ro_none {R:View}{b:Nat}(h:R b=none):ro R b=none:=by simp[ro,h]
theorem WT.fork(h:WT X B base N os0 w t ths .go s H D)(hb:1≤base)(hN:N=base+ths.length)(hm:m'.deaf=0){x y:MemOp}(hx:x.g=0∧x.act=.go N)(hy:y.g=N∧y.act=.start):
   WT X B base (N+1) os0 w (t ++ #[x,y]) (ths++[.pw]) m' s (upd (upd H 0 (ro (H 0))) N (ro (H 0))) D:=by
 have hN0:N≠0:=by omega
 have hHN:∀b,H N b=none:=h.hx N fun hh=> hh.elim hN0 fun hh=> by omega
 have hd0:Deaf t 0=0:=h.df0;have hops:∀op∈#[x,y],op.act≠ .mark .disable∧op.act≠ .mark .enable:=by
   intro op hop;simp only[List.mem_toArray,List.mem_cons,List.not_mem_nil,or_false] at hop;rcases hop with rfl|rfl
   · rw[hx.2];simp
   · rw[hy.2];simp
 have hdd:∀j,Deaf (t ++ #[x,y]) j=Deaf t j:=fun j=> Deaf_still t j _ hops;have hV:∀j b,upd (upd H 0 (ro (H 0))) N (ro (H 0)) j b=if j=N∨j=0 then ro (H 0) b else H j b:=fun j b=> by
   by_cases e:j=N
   · subst e;rw[upd_same,if_pos (.inl rfl)]
   · rw[upd_ne _ _ e];by_cases e0:j=0
     · subst e0;rw[upd_same,if_pos (.inr rfl)]
     · rw[upd_ne _ _ e0,if_neg (by simp[e,e0])]
 have get:∀(κ:Nat) T,(ths++[Th.pw])[κ]? =some T→ths[κ]? =some T∨(κ=ths.length∧T=.pw):=fun κ T hκ=> by
   rw[List.getElem?_append] at hκ;split at hκ
   · exact .inl hκ
   · cases hz:κ-ths.length with
     | zero=> rw[hz] at hκ;cases hκ;exact .inr ⟨by omega,rfl⟩
     | succ z=> rw[hz] at hκ;cases hκ
 refine⟨h.sh,h.cb,⟨fun j b f o hbb=> ?_,fun i j hij b o hi=> ?_,fun j=> ?_,h.vi.bs,fun j b x' o hbb hj=> ?_,h.vi.bn⟩,fun g hg b=> ?_,?_,?_,fun κ T hκ hT=> ?_,by rw[hdd,hm];exact hd0,fun κ T hκ hT=> ?_,h.os⟩
 · rw[hV] at hbb;split at hbb
   · obtain⟨_,f',h1⟩:=ro_some hbb;exact h.vi.sat 0 b f' o h1
   · exact h.vi.sat j b f o hbb
 · rw[hV] at hi ⊢;split at hi
   · have:=(ro_some hi).1;cases this
   · split
     · exact ro_none (h.vi.dj i 0 (by omega) b o hi)
     · exact h.vi.dj i j hij b o hi
 · rw[hV];split
   · exact ro_none (h.vi.sh 0)
   · exact h.vi.sh j
 · rw[hV] at hj;split at hj
   · have:=(ro_some hj).1;cases this
   · exact h.vi.bd j b x' o hbb hj
 · rw[hV,if_neg (by
     rintro(rfl|rfl)
     · exact hg (.inr ⟨by omega,by omega⟩)
     · exact hg (.inl rfl))]
   exact h.hx g (fun hh=> hg (hh.imp id fun⟨h1,h2⟩=> ⟨h1,by omega⟩)) b
 · exact h.ti.fork hx hy hd0 (by omega) (by omega) (fun b f o hbb=> ro_some hbb) hHN
 · obtain⟨h1,h3,h4⟩:=h.free;refine⟨h1,fun g=> ?_,h4.fork h.ti.gs hx hy hd0⟩;rw[hV];split
   · exact ro_none (h3 0)
   · exact h3 g
 · rcases get κ T hκ with hκ'|⟨_,rfl⟩
   · obtain⟨r,hr⟩:=h.muted κ T hκ' hT;have hlt:=(List.getElem?_eq_some_iff.1 hκ').1;refine⟨r,hr.app fun i hi hgi hc=> ?_⟩;obtain⟨a,ha,_⟩:=hc;obtain⟨op,hop,hopa⟩:=touch_of ha;rcases getElem?_append_cases hop with ⟨hl,_⟩|⟨_,hopu⟩
     · omega
     · simp only[List.mem_toArray,List.mem_cons,List.not_mem_nil,or_false] at hopu;rcases hopu with rfl|rfl
       · rw[hx.2] at hopa;cases hopa
       · rw[hy.2] at hopa;cases hopa
   · cases hT
 · rw[hdd];rcases get κ T hκ with hκ'|⟨rfl,rfl⟩
   · exact h.dfw κ T hκ' hT
   · rw[←hN];exact Deaf_absent fun i op hi e=> by have:=h.ti.gs i op hi;omega
end
theorem mn_nil {s:Sh}{t:Mn}(hp:t.plain=true)(hm:t.mv s= []):t=.ws∧s.q=0:=by
 cases t <;> simp only[Mn.mv] at hm
 case go=> cases hp
 case ret=> cases hp
 case ws=>
   split at hm
   · exact⟨rfl,by assumption⟩
   · cases hm
 case w2=> split at hm <;> cases hm
 all_goals cases hm
theorem TI.bare {Mu Wg C base N hs g:Nat}{H:Nat→View}{B:View}{t u:Trace}(h:TI Mu Wg C base N hs H B t)(hg:∀op∈u,op.g=g)(hN:g<N)(hu:∀op∈u,op.act.touch? =none)(hr:∀op∈u,∀a,op.act≠ .mark (.release a)):TI Mu Wg C base N hs H B (t++u):=by
 have old:∀ {i:Nat} {a:Touch},touchAt (t++u) i=some a→touchAt t i=some a∧i<t.size:=by
   intro i a ha;rcases touch_cases ha with ⟨hi,ha'⟩|⟨hi,op,hop,_,hxx⟩
   · exact⟨ha',hi⟩
   · rw[hu op hop] at hxx;cases hxx
 have oldop:∀ {i:Nat} {op:MemOp} {a:Touch},(t++u)[i]? =some op→op.act.touch? =some a→t[i]? =some op∧i<t.size:=by
   intro i op a hop ha;rcases getElem?_append_cases hop with ⟨hi,hop'⟩|⟨hi,hopu⟩
   · exact⟨hop',hi⟩
   · rw[hu op hopu] at ha;cases ha
 refine⟨fun said=> noRace_append (h.nr said) hg fun i a _ op hop b hb _=> (by rw[hu op hop] at hb;cases hb),fun i a b ha hb=> h.bd i a b (old ha).1 hb,fun j hj i a b f o ha hb hH hw=> (h.kn j hj i a b f o (old ha).1 hb hH hw).app u,
   fun i op a hop ha hk hlt=> (h.pl i op a (oldop hop ha).1 ha hk hlt).app u,fun i a b ha hk hb=> h.np i a b (old ha).1 hk hb,fun i op a hop ha hk=> ?_,fun j hj i a b ha hk hb hbb=> (h.sy j hj i a b (old ha).1 hk hb hbb).app u,fun a=> (h.rel a).app fun op hop=> hr op hop a,fun i op hop=> ?_,fun i a ha=> h.mem i a (old ha).1⟩
 · obtain⟨h3,hi⟩:=oldop hop ha;obtain⟨h1,h2⟩:=h.np2 i op a h3 ha hk;exact⟨h1,fun e e'=> by rw[heard_old hi];exact h2 e e'⟩
 · rcases getElem?_append_cases hop with ⟨hi,hop'⟩|⟨hi,hopu⟩
   · exact h.gs i op hop'
   · rw[hg op hopu];exact hN
theorem mute_ops {g:Nat}{fn:FuncId}{pos:String}{es:Array Event}(h:∀e∈es,e.mute=true):∀op∈MemOp.ofEvents g fn pos es,op.g=g∧op.act.touch? =none∧∀a,op.act≠ .mark (.release a):=by
 rw[ofEvents_eq];intro op hop;obtain⟨e,he,rfl⟩:=Array.mem_map.1 hop;have:=h e he;obtain⟨loc,wr,sy⟩:=e;cases loc with
 | mark m=> cases m <;> simp[Event.mute] at this <;> simp[MemAct.ofEvent,MemAct.touch?]
 | _=> simp[Event.mute] at this
section
variable {P:Program}{X:Fk}{Fin:Goroutine→Prop}{B:View}{base:Nat}{os0:Os0}{gs:Array Goroutine}{w:World}{t:Trace}{ths:List Th}{m:Mn}{s:Sh}{H:Nat→View}{ks:Nat→Nat}{rks:List Rank}{q:Nat→Nat}{D:Nat→Bool}
variable {sl:Option (Nat×Nat)}
theorem WT.leave {N:Nat}(h:WT X B base N os0 w t ths m s H D){i:Nat}{fn:FuncId}{pos:String}{es:Array Event}(hi:0<i)(hN:i<N)(hm:∀e∈es,e.mute=true)(hq:∀(κ:Nat) T,ths[κ]? =some T→base+κ=i→T=.quit):
   WT X B base N os0 w (t++MemOp.ofEvents i fn pos es) ths m s H D:=by
 have ho:=mute_ops (g:=i) (fn:=fn) (pos:=pos) hm;have hown:∀op∈MemOp.ofEvents i fn pos es,op.g=i:=fun op hop=> (ho op hop).1;refine⟨h.sh,h.cb,h.vi,h.hx,h.ti.bare hown hN (fun op hop=> (ho op hop).2.1) (fun op hop=> (ho op hop).2.2),?_,fun κ T hκ hT=> ?_,?_,fun κ T hκ hT=> ?_,h.os⟩
 · obtain⟨h1,h3,h4⟩:=h.free;exact⟨h1,h3,h4.grow fun op hop x hx=> by rw[(ho op hop).2.1] at hx;cases hx⟩
 · obtain⟨r,hr⟩:=h.muted κ T hκ hT;refine⟨r,hr.app fun j hj hgj hc=> ?_⟩;obtain⟨a,ha,_⟩:=hc;obtain⟨op,hop,hopa⟩:=touch_of ha;rcases getElem?_append_cases hop with ⟨hl,_⟩|⟨_,hopu⟩
   · omega
   · rw[(ho op hopu).2.1] at hopa;cases hopa
 · rw[Deaf_other t (g:=0) (g':=i) (by omega) _ hown];exact h.df0
 · have e:i≠base+κ:=fun e=> hT (hq κ T hκ e.symm);rw[Deaf_other t (g:=base+κ) (g':=i) e _ hown];exact h.dfw κ T hκ hT
theorem PI.pos(h:PI P X Fin B base os0 gs w t ths m s H ks rks q D):∀i,Act base gs.size i→0<ks i:=fun i hi=> Nat.lt_of_le_of_lt (Nat.zero_le _) (h.depth i hi)
theorem PI.at(h:PI P X Fin B base os0 gs w t ths m s H ks rks q D)(d:Nat):PI P X Fin B base os0 gs (w.at d) t ths m s H ks rks q D:=⟨h.inv,h.b1,h.ne,h.dd,h.depth,h.wt.at d,h.si⟩
def PI.meas(X:Fk)(gs:Array Goroutine)(ths:List Th)(m:Mn)(s:Sh)(rks:List Rank)(q:Nat→Nat):Meas:=(mu X.n ths m s,rks,sumTo gs.size q,runs gs)
def Goes(P:Program)(X:Fk)(Fin:Goroutine→Prop)(B:View)(base:Nat)(os0:Os0)(μ:Meas)(w:World)(t:Trace)(gs:Array Goroutine)(r:Stepped×Array MemOp):Prop:=
 (∃gs' w' sl' ops ths' m' s' H' ks' rks' q' D',r=(.next (crowd gs' w' sl'),ops)∧PI P X Fin B base os0 gs' w' (t++ops) ths' m' s' H' ks' rks' q' D'∧LtMeas (PI.meas X gs' ths' m' s' rks' q') μ)∨
 (∃gs' sl' g g' ths s H ks rks q D,gs[0]? =some g∧r=(.next (crowd gs' w sl'),MemOp.ofEvents 0 g.frame.fn g.frame.place #[Go.ConcR.mk (.acquire (stA X.Wg))])∧gs'=stepd P gs 0 g g' w∧Fin g'∧PI P X Fin B base os0 gs w t ths .aq s H ks rks q D)
theorem PI.dd_set(h:PI P X Fin B base os0 gs w t ths m s H ks rks q D){κ:Nat}{T T':Th}(hκ:ths[κ]? =some T)(hd:T'.did=T.did):∀κ',D κ'=(((ths.set κ T')[κ']?).map Th.did).getD false:=fun κ'=> by
 rw[h.dd κ'];by_cases e:κ=κ'
 · subst e;rw[List.getElem?_set_self (List.getElem?_eq_some_iff.1 hκ).1,hκ];simp[hd]
 · rw[List.getElem?_set_ne e]
theorem deaf_others {i:Nat}{u:Trace}(hu:∀op∈u,op.g=i):∀j,j≠i→Deaf (t++u) j=Deaf t j:=fun j hj=> Deaf_other t (g:=j) (g':=i) (Ne.symm hj) u hu
theorem ofEvents_g {g:Nat}{fn:FuncId}{pos:String}{es:Array Event}:∀op∈MemOp.ofEvents g fn pos es,op.g=g:=by
 rw[ofEvents_eq];intro op hop;obtain⟨e,_,rfl⟩:=Array.mem_map.1 hop;rfl
theorem lt_mu {a b:Nat}{x y:List Rank×(Nat×Nat)}(h:a<b):LtMeas (a,x) (b,y):=.left _ _ h
theorem lt_rk {a:Nat}{x y:List Rank}{u v:Nat×Nat}(h:LtL x y):LtMeas (a,x,u) (a,y,v):=.right _ (.left _ _ h)
theorem lt_q {a b c:Nat}{x:List Rank}{u v:Nat}(h:b<c):LtMeas (a,x,b,u) (a,x,c,v):=.right _ (.right _ (.left _ _ h))
theorem lt_run {a b:Nat}{x:List Rank}{u v:Nat}(h:u<v):LtMeas (a,x,b,u) (a,x,b,v):=.right _ (.right _ (.right _ h))
theorem runs_block {i:Nat}{g g':Goroutine}(hi:gs[i]? =some g)(hg:g.status=.running)(hg':g'.status=.blocked):runs (stepd P gs i g g' w)<runs gs:=by
 have e:stepd P gs i g g' w=gs.setIfInBounds i g':=by
   unfold stepd;have:woken P g g' w=id:=by
     funext o
     simp[woken,hg']
   rw[this,Array.map_id]
 rw[e];obtain⟨hlt,rfl⟩:=Array.getElem?_eq_some_iff.1 hi;unfold runs;rw[Array.toList_setIfInBounds];have:=List.countP_set (p:=fun g:Goroutine=> g.status==.running) (l:=gs.toList) (i:=i) (a:=g') (by simpa using hlt);rw[this];have h1:((gs.toList[i]'(by simpa using hlt)).status==GoStatus.running)=true:=by simpa using hg
 have h2:0<gs.toList.countP fun g:Goroutine=> g.status==.running:=List.countP_pos_iff.2 ⟨gs[i],by simp,by simp[hg]⟩;have h3:¬(g'.status==GoStatus.running)=true:=by simp[hg']
 rw[if_pos h1,if_neg h3];omega
theorem PI.moveW(h:PI P X Fin B base os0 gs w t ths m s H ks rks q D){κ k:Nat}{T T':Th}{s':Sh}{g g':Goroutine}{w':World}{es:Array Event}{H':View}{D':Nat→Bool}{ρ':Rank}{q':Nat}(hκ:ths[κ]? =some T)(hg:gs[base+κ]? =some g)(hk:ks (base+κ)=k+1)
   (hm:(T',s')∈T.mv s) (hst:stepG P false g w=.go g' w' es) (hwt:WT X B base gs.size os0 w' (t++MemOp.ofEvents (base+κ) g.frame.fn g.frame.place es) (ths.set κ T') m s' (upd H (base+κ) H') D')
   (hs:SitW P X κ T' k H' ρ' q' (Deaf (t++MemOp.ofEvents (base+κ) g.frame.fn g.frame.place es) (base+κ)) g') (hdd:∀κ',D' κ'=(((ths.set κ T')[κ']?).map Th.did).getD false)
   (hQ:s'.q≤s.q∨(mayWake P g=true∧g'.status=.running)):
   Goes P X Fin B base os0 (PI.meas X gs ths m s rks q) w t gs (runT P (crowd gs w sl) (base+κ)):=by
 have hN:base+κ<gs.size:=(Array.getElem?_eq_some_iff.1 hg).1;have hb:=h.b1;have hact:Act base gs.size (base+κ):=.inr ⟨by omega,hN⟩;have hi0:(base+κ==0)=false:=by simp;omega
 have hmu:=mu_worker h.inv hκ hm;have hdep:=h.depth _ hact;rw[hk] at hdep;have hsi:=h.si.worker (w':=w') (g:=g) (g':=g') (T':=T') (H':=H') (k':=k) (q':=q') (ρ':=ρ') (s':=s') hb h.pos hκ (deaf_others ofEvents_g) hQ hs;refine .inl ⟨stepd P gs (base+κ) g g' w',w',sl,_,ths.set κ T',m,s',_,_,_,_,D',runT_crowd_go hg (by rw[hi0];exact hst),⟨h.inv.step hκ hm,hb,h.ne,hdd,fun j hj=> ?_,?_,hsi⟩,lt_mu hmu⟩
 · rw[stepd_size] at hj;by_cases e:j=base+κ
   · subst e;rw[upd_same];omega
   · rw[upd_ne _ _ e];exact Nat.lt_trans hmu (h.depth j hj)
 · rw[stepd_size];exact hwt
theorem PI.stopW(h:PI P X Fin B base os0 gs w t ths m s H ks rks q D){κ k:Nat}{T:Th}{g:Goroutine}(hκ:ths[κ]? =some T)(hg:gs[base+κ]? =some g)(hk:ks (base+κ)=k+1)
   (hs:WS P X κ (k+1) T (H (base+κ)) g):
   Goes P X Fin B base os0 (PI.meas X gs ths m s rks q) w t gs (runT P (crowd gs w sl) (base+κ)):=by
 have hN:base+κ<gs.size:=(Array.getElem?_eq_some_iff.1 hg).1;have hb:=h.b1;obtain⟨_,pw,wr,qt,pl⟩:=hs;have hsat:=h.wt.vi.sat (base+κ);have hselfH:upd H (base+κ) (H (base+κ))=H:=upd_eq _ _;have hlt:=(List.getElem?_eq_some_iff.1 hκ).1;have hDκ:D κ=T.did:=by rw[h.dd κ,hκ];rfl
 cases hp:T.plain with
 | true=>
   obtain⟨hok,hfit⟩:=h.inv.ok hκ;obtain⟨T',s',g',w',es,hm,hst,htu,hqe,hra,hrun,hq1,hq2,hq3⟩:=pl hp w s hsat h.wt.sh hok hfit;obtain⟨k2,k3⟩:=mv_keeps hp hm;have hwt:=h.wt.stopW (fn:=g.frame.fn) (pos:=g.frame.place) h.ne hb hκ hN hp hm htu hqe;have hdd:=h.dd_set hκ k2;have hQ:s'.q≤s.q∨(mayWake P g=true∧g'.status=.running):=by
     cases hra':T.raises with
     | true=> exact .inr ⟨hra hra',hrun⟩
     | false=> exact .inl (mv_low hra' hm)
   by_cases hquit:T'=.quit
   · obtain⟨q',hq'⟩:=hq1 hquit;refine h.moveW hκ hg hk hm hst (H':=H (base+κ)) (D':=D) (ρ':=.stop) (q':=q') (by rw[hselfH];exact hwt) (.quit hquit ?_) hdd hQ;have:Deaf (t++MemOp.ofEvents (base+κ) g.frame.fn g.frame.place es) (base+κ)=1:=by
       rw[Deaf_own,h.wt.dfw κ T hκ (by rintro rfl;cases hp),hqe.net,hquit];rfl
     rw[this];exact hq'
   · cases hmu:T'.mute with
     | true=>
       obtain⟨n,hn⟩:=hq2 hquit hmu;exact h.moveW hκ hg hk hm hst (H':=H (base+κ)) (D':=D) (ρ':=natRank n) (q':=q (base+κ)) (by rw[hselfH];exact hwt) (.quiet n ⟨hquit,hmu⟩ rfl hn) hdd hQ
     | false=>
       obtain⟨ρ',hρ'⟩:=(hq3 hmu).rank;exact h.moveW hκ hg hk hm hst (H':=H (base+κ)) (D':=D) (ρ':=ρ') (q':=q (base+κ)) (by rw[hselfH];exact hwt) (.walk hmu hρ') hdd hQ
 | false=>
   have hcase:T=.pw∨T=.wr∨T=.quit:=by cases T <;> simp[Th.plain] at hp <;> simp
   rcases hcase with rfl|rfl|rfl
   · obtain⟨⟨o,h1,h2⟩,_,_⟩:=h.wt.free;obtain⟨g',w',o',es,hst,how,hG,hT'⟩:=pw rfl D o hDκ h2 w hsat h1;obtain⟨ρ',hρ'⟩:=hT'.rank;have hwt:=h.wt.ownW (fn:=g.frame.fn) (pos:=g.frame.place) h.ne hκ hN how hG;refine h.moveW hκ hg hk (T':=.wr) (s':=s) (by simp[Th.mv]) hst (H':=H (base+κ)) (by rw[hselfH];exact hwt) (q':=q (base+κ)) (.walk rfl hρ') (fun κ'=> ?_) (.inl (Nat.le_refl _));by_cases e:κ'=κ
     · subst e;rw[List.getElem?_set_self hlt];simp[also,Th.did]
     · rw[List.getElem?_set_ne (Ne.symm e),←h.dd κ',also_ne e]
   · obtain⟨g',hst,n,hn⟩:=wr rfl w hsat;have hwt:=h.wt.mute (fn:=g.frame.fn) (pos:=g.frame.place) h.ne hκ hN;exact h.moveW hκ hg hk (T':=.wk) (s':=s) (by simp[Th.mv]) hst (H':=H (base+κ)) (D':=D) (ρ':=natRank n) (q':=q (base+κ)) (by rw[hselfH];exact hwt) (.quiet n ⟨by simp,rfl⟩ rfl hn) (h.dd_set hκ rfl) (.inl (Nat.le_refl _))
   · exact(qt rfl).elim
theorem PI.worker(h:PI P X Fin B base os0 gs w t ths m s H ks rks q D){κ:Nat}{T:Th}{g:Goroutine}(hκ:ths[κ]? =some T)(hg:gs[base+κ]? =some g)(hr:g.status=.running):
   Goes P X Fin B base os0 (PI.meas X gs ths m s rks q) w t gs (runT P (crowd gs w sl) (base+κ)):=by
 have hN:base+κ<gs.size:=(Array.getElem?_eq_some_iff.1 hg).1;have hlt:=(List.getElem?_eq_some_iff.1 hκ).1;have hb:=h.b1;have hact:Act base gs.size (base+κ):=.inr ⟨by omega,hN⟩;have hi0:(base+κ==0)=false:=by simp;omega
 obtain⟨g₁,ρ,h1,h2,hsit⟩:=h.si.work κ T hκ;rw[hg] at h1;cases h1
 have hkp:=h.pos _ hact;obtain⟨k,hk⟩:∃k,ks (base+κ)=k+1:=⟨ks (base+κ)-1,by omega⟩
 have hdep:=h.depth _ hact;rw[hk] at hsit hdep;have hself:upd ks (base+κ) (ks (base+κ))=ks:=upd_eq _ _;have hselfq:upd q (base+κ) (q (base+κ))=q:=upd_eq _ _;have hselfH:upd H (base+κ) (H (base+κ))=H:=upd_eq _ _
 -- a step that leaves the automaton where it is
 have stay:∀(g':Goroutine) (w':World) (es:Array Event) (H':View) (q':Nat) (ρ':Rank),stepG P false g w=.go g' w' es→
     WT X B base gs.size os0 w' (t++MemOp.ofEvents (base+κ) g.frame.fn g.frame.place es) ths m s (upd H (base+κ) H') D→
     SitW P X κ T (k+1) H' ρ' q' (Deaf (t++MemOp.ofEvents (base+κ) g.frame.fn g.frame.place es) (base+κ)) g'→
     LtMeas (PI.meas X (stepd P gs (base+κ) g g' w') ths m s (rks.set (base+κ) ρ') (upd q (base+κ) q')) (PI.meas X gs ths m s rks q)→
     Goes P X Fin B base os0 (PI.meas X gs ths m s rks q) w t gs (runT P (crowd gs w sl) (base+κ)):=by
   intro g' w' es H' q' ρ' hst hwt hs' hlt';have hsets:ths.set κ T=ths:=by
     apply List.ext_getElem?
     intro j;by_cases e:κ=j
     · subst e;rw[List.getElem?_set_self hlt,hκ]
     · rw[List.getElem?_set_ne e]
   have hsi:=h.si.worker (w':=w') (g:=g) (g':=g') (T':=T) (H':=H') (k':=k+1) (q':=q') (ρ':=ρ') (s':=s) hb h.pos hκ (deaf_others ofEvents_g) (.inl (Nat.le_refl _)) hs';rw[hsets] at hsi;refine .inl ⟨stepd P gs (base+κ) g g' w',w',sl,MemOp.ofEvents (base+κ) g.frame.fn g.frame.place es,ths,m,s,upd H (base+κ) H',upd ks (base+κ) (k+1),rks.set (base+κ) ρ',upd q (base+κ) q',D,runT_crowd_go hg (by rw[hi0];exact hst),⟨h.inv,hb,h.ne,h.dd,fun j hj=> ?_,?_,hsi⟩,hlt'⟩
   · rw[stepd_size] at hj;by_cases e:j=base+κ
     · subst e;rw[upd_same];exact hdep
     · rw[upd_ne _ _ e];exact h.depth j hj
   · rw[stepd_size];exact hwt
 cases hsit with
 | quit hT hq=>
   cases hqq:q (base+κ) with
   | zero=> rw[hqq] at hq;rw[hq.1] at hr;cases hr
   | succ q'=>
     rw[hqq] at hq;rcases hq with ⟨hf,_⟩|⟨_,g',es,hmu,hst,hq'⟩
     · rw[hf] at hr;cases hr
     · have hrk:rks.set (base+κ) ρ=rks:=by
         apply List.ext_getElem?
         intro j;by_cases e:base+κ=j
         · subst e;rw[List.getElem?_set_self (by rw[h.si.rsz];exact hN),h2]
         · rw[List.getElem?_set_ne e]
       have hwt:=h.wt.leave (i:=base+κ) (fn:=g.frame.fn) (pos:=g.frame.place) (by omega) hN hmu fun κ' T' hκ' e=> by
         obtain rfl:κ'=κ:=by omega
         rw[hκ] at hκ';cases hκ'
         exact hT
       refine stay g' w es (H (base+κ)) q' ρ (hst w) (by rw[hselfH];exact hwt) (.quit hT (by rw[Deaf_own];exact hq')) ?_;rw[hrk];unfold PI.meas;rw[stepd_size];refine lt_q ?_;have:=sumTo_upd (f:=q) q' (fun a=> a) (i:=base+κ) (j:=gs.size) hN;have e:sumTo gs.size (fun a=> upd q (base+κ) q' a)=sumTo gs.size (upd q (base+κ) q'):=rfl;have e2:sumTo gs.size (fun a=> q a)=sumTo gs.size q:=rfl;omega
 | quiet n hT hρ hgo=>
   cases n with
   | succ n=>
     obtain⟨_,g',hst,hgo'⟩:=hgo;refine stay g' w #[] (H (base+κ)) (q (base+κ)) (natRank n) (hst w) (by rw[hselfH];simpa [MemOp.ofEvents] using h.wt) (.quiet n hT rfl hgo') ?_;unfold PI.meas;refine lt_rk (LtL.set h2 ?_);rw[hρ];exact natRank_lt n
   | zero=> exact h.stopW hκ hg hk hgo
 | walk hT hgo=>
   cases ρ with
   | stop=> exact h.stopW hκ hg hk hgo
   | step f=>
     obtain⟨_,hst⟩:=hgo;obtain⟨g',w',es,H',h3,h4,h5⟩:=hst w (h.wt.vi.sat _) ⟨h.wt.cb,_,h.wt.sh⟩;refine stay g' w' es H' (q (base+κ)) (f w) h3 (h.wt.walk h.ne hact hN h4 fun κ' T' hκ' e=> ?_) (.walk hT h5) ?_
     · obtain rfl:κ'=κ:=by omega
       rw[hκ] at hκ';cases hκ'
       exact hT
     · unfold PI.meas;exact lt_rk (LtL.set h2 (.step f w))
   | phase f=>
     obtain⟨_,hp,_⟩:=hgo;exact hp.elim
end
end Go.RL
section
namespace Go.RL
open Go.Conc Go.ConcN Go.RL.Au
open Go.ConcR (stA smA)
open Go.ConcM (muA OsLater)
attribute [local irreducible] mu
section
variable {P:Program}{X:Fk}{Fin:Goroutine→Prop}{B:View}{base:Nat}{os0:Os0}{gs:Array Goroutine}{w:World}{t:Trace}{ths:List Th}{m:Mn}{s:Sh}{H:Nat→View}{ks:Nat→Nat}{rks:List Rank}{q:Nat→Nat}{D:Nat→Bool}
variable {sl:Option (Nat×Nat)}
theorem PI.leaver(h:PI P X Fin B base os0 gs w t ths m s H ks rks q D){i:Nat}{g:Goroutine}(h0:0<i)(hib:i<base)(hg:gs[i]? =some g)(hr:g.status=.running):
   Goes P X Fin B base os0 (PI.meas X gs ths m s rks q) w t gs (runT P (crowd gs w sl) i):=by
 have hN:i<gs.size:=(Array.getElem?_eq_some_iff.1 hg).1;have hi0:(i==0)=false:=by simp;omega
 obtain⟨g₁,h1,hq⟩:=h.si.leav i h0 hib;rw[hg] at h1;cases h1
 cases hqq:q i with
 | zero=> rw[hqq] at hq;rw[hq.1] at hr;cases hr
 | succ q'=>
   rw[hqq] at hq;rcases hq with ⟨hf,_⟩|⟨_,g',es,hmu,hst,hq'⟩
   · rw[hf] at hr;cases hr
   · have hwt:=h.wt.leave (i:=i) (fn:=g.frame.fn) (pos:=g.frame.place) h0 hN hmu fun κ' T' hκ' e=> by omega
     have hsi:=h.si.leaver (w':=w) (g:=g) (g':=g') (q':=q') (df':=Deaf (t++MemOp.ofEvents i g.frame.fn g.frame.place es)) h.pos h0 hib (deaf_others ofEvents_g) (by rw[Deaf_own];exact hq');refine .inl ⟨stepd P gs i g g' w,w,sl,_,ths,m,s,H,ks,rks,upd q i q',D,runT_crowd_go hg (by rw[hi0];exact hst w),⟨h.inv,h.b1,h.ne,h.dd,by rw[stepd_size];exact h.depth,by rw[stepd_size];exact hwt,hsi⟩,?_⟩;unfold PI.meas;rw[stepd_size];refine lt_q ?_;have:=sumTo_upd (f:=q) q' (fun a=> a) (i:=i) (j:=gs.size) hN;have e:sumTo gs.size (fun a=> upd q i q' a)=sumTo gs.size (upd q i q'):=rfl;have e2:sumTo gs.size (fun a=> q a)=sumTo gs.size q:=rfl;omega
theorem PI.moveM(h:PI P X Fin B base os0 gs w t ths m s H ks rks q D){k:Nat}{m':Mn}{s':Sh}{g g':Goroutine}{w':World}{es:Array Event}(hg:gs[0]? =some g)(hk:ks 0=k+1)
   (hm:(m',s')∈m.mv s) (hst:stepG P true g w=.go g' w' es) (hwt:WT X B base gs.size os0 w' (t++MemOp.ofEvents 0 g.frame.fn g.frame.place es) ths m' s' H D)
   (hs:T (Mw P true X.ok) (MS P X Fin k m' ths.length) (H 0) g'):
   Goes P X Fin B base os0 (PI.meas X gs ths m s rks q) w t gs (runT P (crowd gs w sl) 0):=by
 have hb:=h.b1;have hmu:=mu_main h.inv hm;have hdep:=h.depth 0 (.inl rfl);rw[hk] at hdep;obtain⟨ρ',hρ'⟩:=hs.rank;have hsi:=h.si.starter (w':=w') (g:=g) (g':=g') (m':=m') (H':=H 0) (k':=k) (ρ':=ρ') (s':=s') (df':=Deaf (t++MemOp.ofEvents 0 g.frame.fn g.frame.place es)) hb h.pos (deaf_others ofEvents_g) (.walk hρ');rw[upd_eq] at hsi;refine .inl ⟨stepd P gs 0 g g' w',w',sl,_,ths,m',s',H,_,_,q,D,runT_crowd_go hg hst,⟨h.inv.main hm,hb,h.ne,h.dd,fun j hj=> ?_,?_,hsi⟩,lt_mu hmu⟩
 · rw[stepd_size] at hj;by_cases e:j=0
   · subst e;rw[upd_same];omega
   · rw[upd_ne _ _ e];exact Nat.lt_trans hmu (h.depth j hj)
 · rw[stepd_size];exact hwt
theorem get_push {gs:Array Goroutine}{g' ch x:Goroutine}{j:Nat}(hj:gs[j]? =some x)(h0:j≠0):((gs.setIfInBounds 0 g').push ch)[j]? =some x:=by
 have hlt:=(Array.getElem?_eq_some_iff.1 hj).1;rw[Array.getElem?_push];simp only[Array.size_setIfInBounds];rw[if_neg (by omega),Array.getElem?_setIfInBounds_ne (Ne.symm h0),hj]
theorem PI.moveF(h:PI P X Fin B base os0 gs w t ths .go s H ks rks q D){k:Nat}{m':Mn}{g g' ch:Goroutine}(hg:gs[0]? =some g)(hk:ks 0=k+1)(hinv:Inv X.n (ths++[.pw]) m' s)(hmu:mu X.n (ths++[.pw]) m' s<mu X.n ths .go s)(hd:m'.deaf=0)
   (hst:stepG P true g w=.spawn g' ch w #[]) (hT:T (Mw P true X.ok) (MS P X Fin k m' (ths.length+1)) (ro (H 0)) g') (hC:T (Mw P false X.ok) (WS P X ths.length k .pw) (ro (H 0)) ch):
   Goes P X Fin B base os0 (PI.meas X gs ths .go s rks q) w t gs (runT P (crowd gs w sl) 0):=by
 have hN:0<gs.size:=(Array.getElem?_eq_some_iff.1 hg).1;have hb:=h.b1;have hdep:=h.depth 0 (.inl rfl);have hsz:=h.si.size;obtain⟨x,hx⟩:∃x:MemOp,x= { g:=0,fn:=g.frame.fn,pos:=g.frame.place,act:=.go gs.size }:=⟨_,rfl⟩
 obtain⟨y,hy⟩:∃y:MemOp,y= { g:=gs.size,fn:=ch.frame.fn,pos:=g.frame.place,act:=.start }:=⟨_,rfl⟩
 have hx':x.g=0∧x.act=.go gs.size:=by rw[hx];exact⟨rfl,rfl⟩
 have hy':y.g=gs.size∧y.act=.start:=by rw[hy];exact⟨rfl,rfl⟩
 have hwt:=h.wt.fork (m':=m') hb hsz hd hx' hy';have hrun':=runT_crowd_spawn (P:=P) (sl:=sl) hg hst;have hops:((MemOp.ofEvents 0 g.frame.fn g.frame.place #[]).push { g:=0,fn:=g.frame.fn,pos:=g.frame.place,act:=.go gs.size } |>.push { g:=gs.size,fn:=ch.frame.fn,pos:=g.frame.place,act:=.start })=#[x,y]:=by
   rw[hx,hy];simp[MemOp.ofEvents]
 rw[hops] at hrun';rw[hk] at hdep;obtain⟨ρm,hρm⟩:=hT.rank;obtain⟨ρc,hρc⟩:=hC.rank;have hsz':((gs.setIfInBounds 0 g').push ch).size=gs.size+1:=by simp
 have hdf:∀j,Deaf (t ++ #[x,y]) j=Deaf t j:=fun j=> Deaf_still t j _ fun op hop=> by
   simp only[List.mem_toArray,List.mem_cons,List.not_mem_nil,or_false] at hop;rcases hop with rfl|rfl
   · rw[hx'.2];simp
   · rw[hy'.2];simp
 have hsits:Sits P X Fin base ((gs.setIfInBounds 0 g').push ch) (Deaf (t ++ #[x,y])) (ths++[.pw]) m' s (upd (upd H 0 (ro (H 0))) gs.size (ro (H 0))) (upd (upd ks 0 k) gs.size k) ((rks.set 0 ρm)++[ρc]) q:=by
   refine⟨by rw[hsz',List.length_append];simp;omega,by rw[hsz',List.length_append,List.length_set,h.si.rsz];simp,⟨g',ρm,?_,?_,?_⟩,fun κ T hκ=> ?_,fun i h0 hib=> ?_⟩
   · rw[Array.getElem?_push];simp only[Array.size_setIfInBounds];rw[if_neg (by omega)];simp[hN]
   · rw[List.getElem?_append_left (by rw[List.length_set,h.si.rsz];exact hN),List.getElem?_set_self (by rw[h.si.rsz];exact hN)]
   · rw[upd_ne _ _ (by omega),upd_same,upd_ne _ _ (by omega),upd_same];rw[List.length_append];exact .walk hρm
   · rw[List.getElem?_append] at hκ;split at hκ
     · obtain⟨g0,ρ0,h3,h4,h5⟩:=h.si.work κ T hκ;have hne:base+κ≠gs.size:=by omega
       refine⟨g0,ρ0,get_push h3 (by omega),?_,?_⟩
       · have hl:=(List.getElem?_eq_some_iff.1 h4).1;rw[List.getElem?_append_left (by rw[List.length_set];exact hl),List.getElem?_set_ne (by omega)];exact h4
       · rw[upd_ne _ _ hne,upd_ne _ _ (by omega),upd_ne _ _ hne,upd_ne _ _ (by omega),hdf];exact h5
     · cases hz:κ-ths.length with
       | succ z=> rw[hz] at hκ;cases hκ
       | zero=>
         rw[hz] at hκ;cases hκ
         have he:base+κ=gs.size:=by omega
         refine⟨ch,ρc,?_,?_,?_⟩
         · rw[he,Array.getElem?_push];simp
         · rw[he,List.getElem?_append_right (by rw[List.length_set,h.si.rsz];omega),List.length_set,h.si.rsz];simp
         · rw[he,upd_same,upd_same];have:κ=ths.length:=by omega
           subst this;exact .walk rfl hρc
   · obtain⟨g0,h3,h4⟩:=h.si.leav i h0 hib;exact⟨g0,get_push h3 (by omega),by rw[hdf];exact h4⟩
 refine .inl ⟨(gs.setIfInBounds 0 g').push ch,w,sl,#[x,y],ths++[.pw],m',s,upd (upd H 0 (ro (H 0))) gs.size (ro (H 0)),upd (upd ks 0 k) gs.size k,(rks.set 0 ρm)++[ρc],q,D,hrun',⟨hinv,hb,h.ne,fun κ=> ?_,fun j hj=> ?_,by rw[hsz'];exact hwt,hsits⟩,lt_mu hmu⟩
 · rw[h.dd κ,List.getElem?_append];split
   · rfl
   · rename_i hge
     rw[List.getElem?_eq_none (by omega)];cases hz:κ-ths.length with
     | zero=> rfl
     | succ z=> rfl
 · rw[hsz'] at hj;by_cases e:j=gs.size
   · subst e;rw[upd_same];exact Nat.lt_of_lt_of_le hmu (Nat.le_of_lt_succ hdep)
   · rw[upd_ne _ _ e];by_cases e0:j=0
     · subst e0;rw[upd_same];exact Nat.lt_of_lt_of_le hmu (Nat.le_of_lt_succ hdep)
     · rw[upd_ne _ _ e0];exact Nat.lt_trans hmu (h.depth j (hj.imp id fun⟨h1,h2⟩=> ⟨h1,by omega⟩))
theorem PI.stopM(h:PI P X Fin B base os0 gs w t ths m s H ks rks q D){k:Nat}{g:Goroutine}{ρ:Rank}(hg:gs[0]? =some g)(hr:g.status=.running)(hk:ks 0=k+1)(h2:rks[0]? =some ρ)(hρ:ρ=.stop)
   (hs:MS P X Fin (k+1) m ths.length (H 0) g):
   Goes P X Fin B base os0 (PI.meas X gs ths m s rks q) w t gs (runT P (crowd gs w sl) 0):=by
 have hN:0<gs.size:=(Array.getElem?_eq_some_iff.1 hg).1;have hb:=h.b1;obtain⟨hrun,go,kr,wm,aq,rt,pl⟩:=hs;have hsat:=h.wt.vi.sat 0;have hdep:=h.depth 0 (.inl rfl);cases hp:m.plain with
 | true=>
   obtain⟨hok,hfit⟩:=h.inv.mok;rcases pl hp w s hsat h.wt.sh hok hfit with ⟨hnil,hst⟩|⟨m',s',g',w',es,hm,hst,htu,hqe,hq3⟩
   · obtain⟨rfl,hQ⟩:=mn_nil hp hnil;have hrk:rks.set 0 .stop=rks:=by
       apply List.ext_getElem?
       intro j;by_cases e:0=j
       · subst e;rw[List.getElem?_set_self (by rw[h.si.rsz];exact hN),h2,hρ]
       · rw[List.getElem?_set_ne e]
     have hsi:=h.si.starter (w':=w) (g:=g) (g':= { g with status:=.blocked }) (m':=.ws) (H':=H 0) (k':=k+1) (ρ':=.stop) (s':=s) (df':=Deaf t) hb h.pos (fun _ _=> rfl) (.wait g ⟨rfl,hQ,rfl⟩ rfl ⟨hrun,go,kr,wm,aq,rt,pl⟩);rw[hrk,upd_eq,show upd ks 0 (k+1)=ks by rw[←hk];exact upd_eq _ _] at hsi;refine .inl ⟨stepd P gs 0 g { g with status:=.blocked } w,w,sl,_,ths,.ws,s,H,ks,rks,q,D,runT_crowd_go hg hst,⟨h.inv,hb,h.ne,h.dd,by rw[stepd_size];exact h.depth,?_,?_⟩,?_⟩
     · rw[stepd_size];simpa [MemOp.ofEvents] using h.wt
     · simpa [MemOp.ofEvents] using hsi
     · unfold PI.meas;rw[stepd_size];exact lt_run (runs_block hg hr rfl)
   · exact h.moveM hg hk hm hst (h.wt.stopM h.ne hb hN htu hqe) hq3
 | false=>
   have hcase:m=.kr∨m=.go∨m=.wm∨m=.aq∨m=.ret:=by cases m <;> simp[Mn.plain] at hp <;> simp
   rcases hcase with rfl|rfl|rfl|rfl|rfl
   · obtain⟨g',hst,hT⟩:=kr rfl w hsat;exact h.moveM hg hk (m':=.ke) (s':=s) (by simp[Mn.mv]) hst (h.wt.said h.ne hb hN (.inl rfl) rfl) hT
   · obtain⟨g',ch,hst,hT,hC⟩:=go rfl w hsat;exact h.moveF hg hk (h.inv.fork) (mu_fork h.inv (by split <;> simp[Mn.wt])) (by split <;> rfl) hst hT hC
   · obtain⟨g',hst,hT⟩:=wm rfl w hsat;exact h.moveM hg hk (m':=.ws) (s':=s) (by simp[Mn.mv]) hst (h.wt.said h.ne hb hN (.inr rfl) rfl) hT
   · obtain⟨g',hst,hF⟩:=aq rfl w hsat;exact .inr ⟨_,sl,g,g',ths,s,H,ks,rks,q,D,hg,runT_crowd_go hg hst,rfl,hF,h⟩
   · exact(rt rfl).elim
theorem PI.starter(h:PI P X Fin B base os0 gs w t ths m s H ks rks q D){g:Goroutine}(hg:gs[0]? =some g)(hr:g.status=.running):
   Goes P X Fin B base os0 (PI.meas X gs ths m s rks q) w t gs (runT P (crowd gs w sl) 0):=by
 have hN:0<gs.size:=(Array.getElem?_eq_some_iff.1 hg).1;have hb:=h.b1;obtain⟨g₁,ρ,h1,h2,hsit⟩:=h.si.main;rw[hg] at h1;cases h1
 have hkp:=h.pos 0 (.inl rfl);obtain⟨k,hk⟩:∃k,ks 0=k+1:=⟨ks 0-1,by omega⟩
 have hdep:=h.depth 0 (.inl rfl);rw[hk] at hsit hdep;cases hsit with
 | wait g₀ hT hgg hw=> rw[hgg] at hr;cases hr
 | walk hgo=>
   cases ρ with
   | stop=> exact h.stopM hg hr hk h2 rfl hgo
   | phase f=> obtain⟨_,hp,_⟩:=hgo;exact hp.elim
   | step f=>
     obtain⟨_,hst⟩:=hgo;obtain⟨g',w',es,H',h3,h4,h5⟩:=hst w (h.wt.vi.sat _) ⟨h.wt.cb,_,h.wt.sh⟩;have hwt:=h.wt.walk (i:=0) (fn:=g.frame.fn) (pos:=g.frame.place) h.ne (.inl rfl) hN h4 fun κ' T' hκ' e=> by omega
     have hsi:=h.si.starter (w':=w') (g:=g) (g':=g') (m':=m) (H':=H') (k':=k+1) (ρ':=f w) (s':=s) (df':=Deaf (t++MemOp.ofEvents 0 g.frame.fn g.frame.place es)) hb h.pos (deaf_others ofEvents_g) (.walk h5);refine .inl ⟨stepd P gs 0 g g' w',w',sl,_,ths,m,s,upd H 0 H',upd ks 0 (k+1),rks.set 0 (f w),q,D,runT_crowd_go hg h3,⟨h.inv,hb,h.ne,h.dd,fun j hj=> ?_,by rw[stepd_size];exact hwt,hsi⟩,lt_rk (LtL.set h2 (.step f w))⟩;rw[stepd_size] at hj;by_cases e:j=0
     · subst e;rw[upd_same];exact hdep
     · rw[upd_ne _ _ e];exact h.depth j hj
theorem PI.someone(h:PI P X Fin B base os0 gs w t ths m s H ks rks q D):∃(i:Nat) (g:Goroutine),gs[i]? =some g∧g.status=.running:=by
 refine Classical.byContradiction fun hno=> ?_;have hnr:∀(i:Nat) g,gs[i]? =some g→g.status≠ .running:=fun i g hi hr=> hno ⟨i,g,hi,hr⟩;obtain⟨g,ρ,h1,h2,hsit⟩:=h.si.main;have hkp:=h.pos 0 (.inl rfl);obtain⟨k,hk⟩:∃k,ks 0=k+1:=⟨ks 0-1,by omega⟩
 rw[hk] at hsit;cases hsit with
 | walk hgo=> exact hnr 0 g h1 (hgo.run (fun _ _ _ h=> h) fun _ _ h=> h.1.1)
 | wait g₀ hT hgg hw=>
   obtain⟨rfl,hq0,_⟩:=hT;obtain⟨κ,T,hκ,hT⟩:=h.inv.live (by simp) (by simp) (by simp[Mn.mv,hq0]);obtain⟨g',ρ',h3,h4,hs'⟩:=h.si.work κ T hκ;have hN:=(Array.getElem?_eq_some_iff.1 h3).1;have hkp':=h.pos (base+κ) (.inr ⟨by omega,hN⟩);obtain⟨k',hk'⟩:∃k,ks (base+κ)=k+1:=⟨ks (base+κ)-1,by omega⟩
   rw[hk'] at hs';cases hs' with
   | quit hT' _=> subst hT';exact hT rfl
   | quiet n hT' hρ hgo=> exact hnr _ g' h3 (hgo.run fun _ h=> h.1.1)
   | walk hT' hgo=> exact hnr _ g' h3 (hgo.run (fun _ _ _ h=> h) fun _ _ h=> h.1.1)
theorem PI.awake(h:PI P X Fin B base os0 gs w t ths m s H ks rks q D):∀g∈gs,awake g:=by
 intro g hg tm;obtain⟨i,hi,rfl⟩:=Array.mem_iff_getElem.1 hg;have hi':=Array.getElem?_eq_getElem hi;have key:gs[i].status=.running∨gs[i].status=.finished∨gs[i].status=.blocked:=by
   by_cases e0:i=0
   · subst e0;obtain⟨g,ρ,h1,h2,hsit⟩:=h.si.main;have hkp:=h.pos 0 (.inl rfl);obtain⟨k,hk⟩:∃k,ks 0=k+1:=⟨ks 0-1,by omega⟩
     rw[hk] at hsit;rw[h1] at hi';cases hi'
     exact hsit.status.imp id .inr
   · rcases Nat.lt_or_ge i base with hlt|hge
     · obtain⟨g,h1,hq⟩:=h.si.leav i (by omega) hlt;rw[h1] at hi';cases hi'
       exact hq.status.imp id .inl
     · have hsz:=h.si.size;obtain⟨T,hT⟩:∃T,ths[i-base]? =some T:=⟨_,List.getElem?_eq_getElem (by omega)⟩
       obtain⟨g,ρ,h1,h2,hsit⟩:=h.si.work _ T hT;rw[show base+(i-base)=i by omega] at h1 hsit;have hkp:=h.pos i (.inr ⟨hge,hi⟩);obtain⟨k,hk⟩:∃k,ks i=k+1:=⟨ks i-1,by omega⟩
       rw[hk] at hsit;rw[h1] at hi';cases hi'
       exact hsit.status.imp id .inl
 rcases key with e|e|e <;> rw[e] <;> simp
theorem PI.step(h:PI P X Fin B base os0 gs w t ths m s H ks rks q D):∃d,Goes P X Fin B base os0 (PI.meas X gs ths m s rks q) (w.at d) t gs (stepT P (crowd gs w sl)):=by
 obtain⟨i,g,d,sl',hg,hrun,hstep⟩:=crowd_pick (P:=P) (w:=w) (sl:=sl) h.awake h.someone;rw[hstep];refine⟨d,?_⟩;have h':=h.at d;by_cases e0:i=0
 · subst e0;exact h'.starter hg hrun
 · rcases Nat.lt_or_ge i base with hlt|hge
   · exact h'.leaver (by omega) hlt hg hrun
   · have hsz:=h.si.size;have hN:=(Array.getElem?_eq_some_iff.1 hg).1;obtain⟨T,hT⟩:∃T,ths[i-base]? =some T:=⟨_,List.getElem?_eq_getElem (by omega)⟩
     have:=h'.worker (sl:=sl') hT (g:=g) (by rw[show base+(i-base)=i by omega];exact hg) hrun
     rwa [show base+(i-base)=i by omega] at this
end
end Go.RL
end
section
namespace Go.RL
open Go.Conc Go.ConcN Go.RL.Au
open Go.ConcR (stA smA)
open Go.ConcM (muA OsLater)
attribute [local irreducible] mu
structure AI(P:Program)(H:View)(os0:Os0)(gs:Array Goroutine)(w:World)(t:Trace)(q:Nat→Nat):Prop where
 pos:0<gs.size
 sat:Sat H w
 nr:∀said,¬Race said t
 kn:∀i a,touchAt t i=some a→a.kind=.plain→Knows t 0 i
 np:∀i a b,touchAt t i=some a→a.kind≠ .plain→lb a.loc=some b→H b=none
 np2:∀(i:Nat) op a,t[i]? =some op→op.act.touch? =some a→a.kind≠ .plain→(a.kind=.said→op.g=0)∧(a.kind=.atomic→op.g≠0→¬t.heard i)
 bd:∀i a b,touchAt t i=some a→lb a.loc=some b→b<w.heap.size
 rel:∀a,NoRelease a t
 gb:∀(i:Nat) op,t[i]? =some op→op.g<gs.size
 mem:∀i a,touchAt t i=some a→∃b,lb a.loc=some b
 df0:Deaf t 0=0
 leav:∀i,0<i→i<gs.size→∃g,gs[i]? =some g∧QuitsD P (q i) (Deaf t i) g
 os:Kpt os0 w
section
variable {P:Program}{H:View}{os0:Os0}{gs:Array Goroutine}{w w':World}{t:Trace}{q:Nat→Nat}
theorem AI.at(h:AI P H os0 gs w t q)(d:Nat):AI P H os0 gs (w.at d) t q:=⟨h.pos,h.sat,h.nr,h.kn,h.np,h.np2,h.bd,h.rel,h.gb,h.mem,h.df0,h.leav,h.os⟩
theorem AI.walk(h:AI P H os0 gs w t q){g g':Goroutine}{H':View}{es:Array Event}{fn:FuncId}{pos:String}(ht:Trans H w H' w' es):AI P H' os0 (stepd P gs 0 g g' w') w' (t++MemOp.ofEvents 0 fn pos es) q:=by
 obtain⟨hop,hdf⟩:=evOk_op (X:=⟨0,0,0,0,fun _ _=> True⟩) (g:=0) (fn:=fn) (pos:=pos) (t:=t) ht.ev;have hd:∀j,Deaf (t++MemOp.ofEvents 0 fn pos es) j=Deaf t j:=fun j=> Deaf_still t j _ hdf;have htouch:∀op∈MemOp.ofEvents 0 fn pos es,∀x,op.act.touch? =some x→x.kind=.plain∧∃b f o,lb x.loc=some b∧H' b=some (f,o):=by
   rw[ofEvents_eq];intro op hopm x hx;obtain⟨e,he,rfl⟩:=Array.mem_map.1 hopm;have hk:=ht.ev e he;obtain⟨loc,wr,sy⟩:=e;unfold EvOk at hk;cases loc with
   | cell a=>
     obtain⟨hs,f,o,h1,h2⟩:=hk;simp only at hs;subst hs;cases wr <;> simp[MemAct.ofEvent,MemAct.touch?] at hx <;> subst hx <;> exact⟨rfl,_,f,o,rfl,h1⟩
   | obj r=>
     obtain⟨hs,f,o,h1,h2⟩:=hk;simp only at hs;subst hs;cases wr <;> simp[MemAct.ofEvent,MemAct.touch?] at hx <;> subst hx <;> exact⟨rfl,_,f,o,rfl,h1⟩
   | mark m=>
     cases m <;> first
       | exact hk.elim
       | simp[MemAct.ofEvent,MemAct.touch?] at hx
   | _=> exact hk.elim
 have old:∀i a b f o,touchAt t i=some a→lb a.loc=some b→H' b=some (f,o)→∃o',H b=some (f,o'):=by
   intro i a b f o ha hb hx;rcases ht.ext b f o hx with h1|⟨_,hle⟩
   · exact h1
   · have:=h.bd i a b ha hb;omega
 have npk:∀i a b,touchAt t i=some a→a.kind≠ .plain→lb a.loc=some b→H' b=none:=fun i a b ha hk hb=> by
   cases hx:H' b with
   | none=> rfl
   | some x=>
     obtain⟨o',h4⟩:=old i a b x.1 x.2 ha hb hx;rw[h.np i a b ha hk hb] at h4;cases h4
 refine⟨by rw[stepd_size];exact h.pos,ht.sat,fun said=> ?_,fun i a ha hk=> ?_,fun i a b ha hk hb=> ?_,fun i op a hopi ha hk=> ?_,fun i a b ha hb=> ?_,fun a=> (h.rel a).app fun op hopm=> hop.rel op hopm a,fun i op hopi=> ?_,fun i a ha=> ?_,by rw[hd];exact h.df0,fun i h0 hi=> ?_,h.os.trans ⟨ht.os,ht.out⟩⟩
 · refine noRace_append (h.nr said) hop.own fun i a ha op hopm b hb hc=> ?_;obtain⟨hloc,hmem,_,_⟩:=hc;obtain⟨_,blk,f,o,h1,h2⟩:=htouch op hopm b hb;refine h.kn i a ha (Classical.byContradiction fun hne=> ?_);rw[npk i a blk ha hne (by rw[hloc];exact h1)] at h2;cases h2
 · rcases touch_cases ha with ⟨hi,ha'⟩|⟨hi,op,hopm,hop',hx⟩
   · exact(h.kn i a ha' hk).app _
   · have:=knows_own hop'
     rwa [hop.own op hopm] at this
 · rcases touch_cases ha with ⟨hi,ha'⟩|⟨hi,op,hopm,hop',hx⟩
   · exact npk i a b ha' hk hb
   · exact absurd (htouch op hopm a hx).1 hk
 · rcases getElem?_append_cases hopi with ⟨hi,hop'⟩|⟨hi,hopu⟩
   · obtain⟨h1,h2⟩:=h.np2 i op a hop' ha hk;exact⟨h1,fun e e'=> by rw[heard_old hi];exact h2 e e'⟩
   · exact absurd (htouch op hopu a ha).1 hk
 · rcases touch_cases ha with ⟨hi,ha'⟩|⟨hi,op,hopm,hop',hx⟩
   · exact Nat.lt_of_lt_of_le (h.bd i a b ha' hb) ht.size
   · obtain⟨_,b',f,o,h1,h2⟩:=htouch op hopm a hx;rw[h1] at hb;cases hb
     exact ht.sat.lt h2
 · rw[stepd_size];rcases getElem?_append_cases hopi with ⟨hi,hop'⟩|⟨hi,hopu⟩
   · exact h.gb i op hop'
   · rw[hop.own op hopu];exact h.pos
 · rcases touch_cases ha with ⟨hi,ha'⟩|⟨hi,op,hopm,hop',hx⟩
   · exact h.mem i a ha'
   · obtain⟨_,b',f,o,h1,h2⟩:=htouch op hopm a hx;exact⟨b',h1⟩
 · rw[stepd_size] at hi;obtain⟨g0,h1,h2⟩:=h.leav i h0 hi;exact⟨_,stepd_other (by omega) h1,by rw[hd,woken_quitsD h2];exact h2⟩
theorem AI.leave(h:AI P H os0 gs w t q){i q':Nat}{g g':Goroutine}{es:Array Event}{fn:FuncId}{pos:String}(h0:0<i)(hi:i<gs.size)(hm:∀e∈es,e.mute=true)(hq:QuitsD P q' (deafBehind (Deaf t i) es) g'):AI P H os0 (stepd P gs i g g' w) w (t++MemOp.ofEvents i fn pos es) (upd q i q'):=by
 have ho:=mute_ops (g:=i) (fn:=fn) (pos:=pos) hm;have hown:∀op∈MemOp.ofEvents i fn pos es,op.g=i:=fun op hop=> (ho op hop).1;have old:∀ {j:Nat} {a:Touch},touchAt (t++MemOp.ofEvents i fn pos es) j=some a→touchAt t j=some a:=by
   intro j a ha;rcases touch_cases ha with ⟨_,ha'⟩|⟨_,op,hop,_,hxx⟩
   · exact ha'
   · rw[(ho op hop).2.1] at hxx;cases hxx
 refine⟨by rw[stepd_size];exact h.pos,h.sat,fun said=> noRace_append (h.nr said) hown fun j a _ op hop b hb _=> (by rw[(ho op hop).2.1] at hb;cases hb),fun j a ha hk=> (h.kn j a (old ha) hk).app _,fun j a b ha hk hb=> h.np j a b (old ha) hk hb,fun j op a hopj ha hk=> ?_,fun j a b ha hb=> h.bd j a b (old ha) hb,fun a=> (h.rel a).app fun op hop=> (ho op hop).2.2 a,fun j op hopj=> ?_,fun j a ha=> h.mem j a (old ha),?_,fun j h0' hj=> ?_,h.os⟩
 · rcases getElem?_append_cases hopj with ⟨hl,hop'⟩|⟨hl,hopu⟩
   · obtain⟨h1,h2⟩:=h.np2 j op a hop' ha hk;exact⟨h1,fun e e'=> by rw[heard_old hl];exact h2 e e'⟩
   · rw[(ho op hopu).2.1] at ha;cases ha
 · rw[stepd_size];rcases getElem?_append_cases hopj with ⟨hl,hop'⟩|⟨hl,hopu⟩
   · exact h.gb j op hop'
   · rw[hown op hopu];exact hi
 · rw[Deaf_other t (g:=0) (g':=i) (by omega) _ hown];exact h.df0
 · rw[stepd_size] at hj;by_cases e:j=i
   · subst e;exact⟨g',stepd_self hj,by rw[upd_same,Deaf_own];exact hq⟩
   · obtain⟨g0,h1,h2⟩:=h.leav j h0' hj;exact⟨_,stepd_other e h1,by rw[upd_ne _ _ e,Deaf_other t (g:=j) (g':=i) (Ne.symm e) _ hown,woken_quitsD h2];exact h2⟩
theorem AI.begin {X:Fk}{Fin:Goroutine→Prop}{H₁ F:View}{o:Obj}{g:Goroutine}(hn6:X.n≤6)(ne:X.Wg≠X.C)(hnone:H₁ X.Wg=none∧H₁ X.C=none)
   (hd:Dj ((H₁.put X.C (true,o)).put X.Wg (true,X.wgO ⟨0,0,0⟩)) F) (h:AI P (((H₁.put X.C (true,o)).put X.Wg (true,X.wgO ⟨0,0,0⟩)).plus F) os0 gs w t q)
   (hG:X.GI (fun _=> false) o) (hg:gs[0]? =some g) (hT:∀k,T (Mw P true X.ok) (MS P X Fin k (if 0<X.n then .kd else .wd) 0) (ro H₁) g):
   ∃s H ks rks D,PI P X Fin (H₁.plus F) gs.size os0 gs w t [] (if 0<X.n then .kd else .wd) s H ks rks q D:=by
 obtain⟨ρ,hρ⟩:=(hT (mu X.n [] (if 0<X.n then .kd else .wd) ⟨0,0,0⟩+1)).rank;have hWg:((H₁.put X.C (true,o)).put X.Wg (true,X.wgO ⟨0,0,0⟩)) X.Wg=some (true,X.wgO ⟨0,0,0⟩):=View.put_same ..;have hC:((H₁.put X.C (true,o)).put X.Wg (true,X.wgO ⟨0,0,0⟩)) X.C=some (true,o):=by rw[View.put_other _ _ (Ne.symm ne),View.put_same]
 have hH:∀b x,H₁ b=some x→((H₁.put X.C (true,o)).put X.Wg (true,X.wgO ⟨0,0,0⟩)) b=some x:=fun b x hb=> by
   rw[View.put_other,View.put_other]
   · exact hb
   · rintro rfl;rw[hnone.2] at hb;cases hb
   · rintro rfl;rw[hnone.1] at hb;cases hb
 generalize ((H₁.put X.C (true,o)).put X.Wg (true,X.wgO ⟨0,0,0⟩))=HH at hd h hWg hC hH;have hFn:F X.Wg=none∧F X.C=none:=⟨hd.none hWg,hd.none hC⟩
 have hB:∀b x,(H₁.plus F) b=some x→(HH.plus F) b=some x:=fun b x hb=> by
   unfold View.plus at hb;split at hb
   · rename_i y hy
     cases hb
     exact plus_left (hH b _ hy)
   · rw[plus_right (hd b x hb)];exact hb
 have hBn:∀b,(HH.plus F) b=none→(H₁.plus F) b=none:=fun b hb=> by
   cases hx:(H₁.plus F) b with
   | none=> rfl
   | some x=> rw[hB b x hx] at hb;cases hb
 have hV:∀j b,upd (fun _=> fun _=> none) 0 (ro H₁) j b=if j=0 then ro H₁ b else none:=fun j b=> by
   by_cases e:j=0
   · subst e;rw[upd_same,if_pos rfl]
   · rw[upd_ne _ _ e,if_neg e]
 have hro:∀b f o',ro H₁ b=some (f,o')→∃f',(HH.plus F) b=some (f',o'):=fun b f o' hb=> by
   obtain⟨_,f',h1⟩:=ro_some hb;exact⟨f',plus_left (hH b _ h1)⟩
 have hact:∀j,Act gs.size gs.size j→j=0:=fun j hj=> hj.elim id fun⟨h1,h2⟩=> by omega
 refine⟨⟨0,0,0⟩,upd (fun _=> fun _=> none) 0 (ro H₁),fun _=> mu X.n [] (if 0<X.n then .kd else .wd) ⟨0,0,0⟩+1,ρ::List.replicate (gs.size-1) .stop,fun _=> false,Inv.start hn6,h.pos,ne,fun κ=> rfl,fun _ _=> Nat.lt_succ_self _,⟨⟨?_⟩,?_,⟨fun j b f o' hb=> ?_,fun i j hij b o' hi=> ?_,fun j=> ?_,fun b f o' hb=> ?_,fun j b x o' _ hj=> ?_,?_⟩,fun j hj b=> ?_,?_,⟨⟨o,?_,hG⟩,fun j=> ?_,fun i op a hop ha hb=> ?_⟩,fun κ T hκ=> ?_,h.df0.trans (by split <;> rfl),fun κ T hκ=> ?_,h.os⟩,⟨rfl,?_,⟨g,ρ,hg,rfl,?_⟩,fun κ T hκ=> ?_,h.leav⟩⟩
 · exact h.sat _ _ _ (plus_left hWg)
 · exact h.sat.lt (plus_left hC)
 · rw[hV] at hb;split at hb
   · obtain⟨f',h1⟩:=hro b f o' hb;exact h.sat b f' o' h1
   · cases hb
 · rw[hV] at hi;split at hi
   · have:=(ro_some hi).1;cases this
   · cases hi
 · rw[hV];split
   · exact ro_none hnone.1
   · rfl
 · exact h.sat b f o' (hB b _ hb)
 · rw[hV] at hj;split at hj
   · have:=(ro_some hj).1;cases this
   · cases hj
 · exact⟨by rw[plus_right hnone.1];exact hFn.1,by rw[plus_right hnone.2];exact hFn.2⟩
 · rw[hV,if_neg fun e=> hj (.inl e)]
 · refine ⟨h.nr,h.bd,fun j hj i a b f o' ha hb hx hw=> ?_,fun i op a hop ha hk _=> h.kn i a (by rw[touchAt_of hop];exact ha) hk,fun i a b ha hk hb=> ?_,h.np2,fun j hj i a b ha hk hb _=> ?_,h.rel,h.gb,h.mem⟩
   · have:=hact j hj;subst this;rw[hV,if_pos rfl] at hx;obtain⟨f',h1⟩:=hro b f o' hx;refine h.kn i a ha (Classical.byContradiction fun hne=> ?_);rw[h.np i a b ha hne hb] at h1;cases h1
   · have h1:=h.np i a b ha hk hb;refine⟨fun j=> ?_,hBn b h1,?_⟩
     · rw[hV];split
       · cases hx:ro H₁ b with
         | none=> rfl
         | some x=>
           obtain⟨f',h2⟩:=hro b x.1 x.2 hx;rw[h1] at h2;cases h2
       · rfl
     · rintro rfl;rw[plus_left hC] at h1;cases h1
   · have:=hact j hj;subst this;exact h.kn i a ha hk
 · exact h.sat _ _ _ (plus_left hC)
 · rw[hV];split
   · exact ro_none hnone.2
   · rfl
 · refine .inl fun j hj=> ?_;have:=hact j hj;subst this;have ha':touchAt t i=some a:=by rw[touchAt_of hop];exact ha
   refine h.kn i a ha' (Classical.byContradiction fun hne=> ?_);have:=h.np i a _ ha' hne hb;rw[plus_left hC] at this;cases this
 · simp at hκ
 · simp at hκ
 · simp;have:=h.pos;omega
 · rw[upd_same];exact .walk hρ
 · simp at hκ
theorem PI.ends {X:Fk}{Fin:Goroutine→Prop}{H₁ F:View}{base:Nat}{ths:List Th}{s:Sh}{H:Nat→View}{ks:Nat→Nat}{rks:List Rank}{D:Nat→Bool}{g g':Goroutine}(h:PI P X Fin (H₁.plus F) base os0 gs w t ths .aq s H ks rks q D)(hC:H₁ X.C=none)(fn:FuncId)(pos:String):
   ∃o,X.GI (fun i=> decide (i<X.n)) o∧F X.C=none∧AI P ((H₁.put X.C (true,o)).plus F) os0 (stepd P gs 0 g g' w) w (t++MemOp.ofEvents 0 fn pos #[Go.ConcR.mk (.acquire (stA X.Wg))]) q:=by
 obtain⟨hlen,hquit⟩:=h.inv.done rfl;have hb:=h.b1;have hsz:=h.si.size;have hN:0<gs.size:=by omega
 obtain⟨⟨o,h1,h2⟩,h3,_⟩:=h.wt.free;have hD:D=fun i=> decide (i<X.n):=by
   funext κ
   rw[h.dd κ];by_cases e:κ<ths.length
   · rw[List.getElem?_eq_getElem e,hquit κ _ (List.getElem?_eq_getElem e)];simp[Th.did];omega
   · rw[List.getElem?_eq_none (by omega)];simp;omega
 subst hD;have hFC:F X.C=none:=by have:=h.wt.vi.bn.2;rw[plus_right hC] at this;exact this
 have hop:=mark_op (X:=X) (H:=H 0) (g:=0) (fn:=fn) (pos:=pos) (m:=.acquire (stA X.Wg)) (t:=t) (fun x hx=> by cases hx) (fun a e=> by cases e);have hti:=h.wt.tiOwn h.ne (.inl rfl) hN hop;have hdd:∀j,Deaf (t++MemOp.ofEvents 0 fn pos #[Go.ConcR.mk (.acquire (stA X.Wg))]) j=Deaf t j:=fun j=> mark_deaf (by simp) (by simp);have hj:=h.wt.ti.join (y:= { g:=0,fn,pos,act:=.mark (.acquire (stA X.Wg)) }) ⟨rfl,rfl⟩ h.wt.df0 fun g hge hlt=> by
   have hκ:g-base<ths.length:=by omega
   have hT:=List.getElem?_eq_getElem hκ;obtain⟨r,hr⟩:=h.wt.muted _ _ hT (by rw[hquit _ _ hT];rfl);rw[show base+(g-base)=g by omega] at hr;exact⟨r,hr⟩
 rw[←one_mark] at hj;refine⟨o,h2,hFC,by rw[stepd_size];exact hN,fun b f o' hbb=> ?_,hti.nr,hj,fun i a b ha hk hb'=> ?_,hti.np2,hti.bd,hti.rel,fun i op hopi=> by rw[stepd_size];exact hti.gs i op hopi,hti.mem,by rw[hdd];exact h.wt.df0,fun i h0 hi=> ?_,h.wt.os⟩
 · unfold View.plus at hbb;split at hbb
   · rename_i y hy
     cases hbb
     by_cases e:b=X.C
     · subst e;rw[View.put_same] at hy;cases hy;exact h1
     · rw[View.put_other _ _ e] at hy;exact h.wt.vi.bs b f o' (plus_left hy)
   · rename_i hy
     have e:b≠X.C:=by rintro rfl;rw[View.put_same] at hy;cases hy
     rw[View.put_other _ _ e] at hy;exact h.wt.vi.bs b f o' (by rw[plus_right hy];exact hbb)
 · obtain⟨_,g2,g3⟩:=hti.np i a b ha hk hb';unfold View.plus at g2 ⊢;rw[View.put_other _ _ g3];exact g2
 · rw[stepd_size] at hi;rcases Nat.lt_or_ge i base with hlt|hge
   · obtain⟨g0,g1,g2⟩:=h.si.leav i h0 hlt;exact⟨_,stepd_other (by omega) g1,by rw[hdd,woken_quitsD g2];exact g2⟩
   · have hκ:i-base<ths.length:=by omega
     have hT:=List.getElem?_eq_getElem hκ;obtain⟨g0,ρ,g1,_,g2⟩:=h.si.work _ _ hT;rw[show base+(i-base)=i by omega] at g1 g2;have hq:QuitsD P (q i) (Deaf t i) g0:=by
       cases g2 with
       | quit _ hq=> exact hq
       | quiet n hh _ _=> exact absurd (hquit _ _ hT) hh.1
       | walk hh _=> rw[hquit _ _ hT] at hh;cases hh
     exact⟨_,stepd_other (by omega) g1,by rw[hdd,woken_quitsD hq];exact hq⟩
def AtRet(P:Program)(Post:Value→World→Prop)(H:View)(g:Goroutine):Prop:=
 g.status=.running∧∀w,Sat H w→∃v es,stepG P true g w=.ended (.done v) w es∧(∀e∈es,EvOk H e)∧Post v w
inductive MI(P:Program)(St:View→Goroutine→Prop)(os0:Os0):Rank×Meas→Machine→Trace→Prop where
 | alone {gs:Array Goroutine} {w:World} {sl:Option (Nat×Nat)} {t:Trace} {q:Nat→Nat} {H:View} {g:Goroutine} {ρ:Rank} (h:AI P H os0 gs w t q) (hg:gs[0]? =some g) (hT:Tr (Mp P) St ρ H g) (hρ:∀f,ρ≠ .phase f):MI P St os0 (ρ,0,[],sumTo gs.size q,0) (crowd gs w sl) t
 | phase {gs:Array Goroutine} {w:World} {sl:Option (Nat×Nat)} {t:Trace} {q:Nat→Nat} {X:Fk} {Fin:Goroutine→Prop} {H₁ F:View} {base:Nat} {ths:List Th} {m:Mn} {s:Sh} {H:Nat→View} {ks:Nat→Nat} {rks:List Rank} {D:Nat→Bool} {f:View→Goroutine→Rank} {μ:Meas}
     (h:PI P X Fin (H₁.plus F) base os0 gs w t ths m s H ks rks q D) (hC:H₁ X.C=none) (hd:Dj H₁ F) (hμ:μ=PI.meas X gs ths m s rks q)
     (hk:∀o g',X.GI (fun i=> decide (i<X.n)) o→Fin g'→F X.C=none→Tr (Mp P) St (f ((H₁.put X.C (true,o)).plus F) g') ((H₁.put X.C (true,o)).plus F) g'):MI P St os0 (.phase f,μ) (crowd gs w sl) t
theorem MI.of {St:View→Goroutine→Prop}{sl:Option (Nat×Nat)}{g:Goroutine}{ρ:Rank}(h:AI P H os0 gs w t q)(hg:gs[0]? =some g)(hT:Tr (Mp P) St ρ H g):∃μ,MI P St os0 (ρ,μ) (crowd gs w sl) t:=by
 cases ρ with
 | stop=> exact⟨_,.alone h hg hT (fun f=> by simp)⟩
 | step f=> exact⟨_,.alone h hg hT (fun f=> by simp)⟩
 | phase f=>
   obtain⟨Po,⟨H₁,F,Po₁,hd,rfl,⟨X,Fin,H₂,o,hn6,ne,hnone,rfl,hG,hMS,hend⟩,hP⟩,hk⟩:=hT;obtain⟨s,H',ks,rks,D,hPI⟩:=AI.begin hn6 ne hnone hd h hG hg hMS;have hd':Dj H₂ F:=fun b x hb=> by
     have:=hd b x hb;cases hx:H₂ b with
     | none=> rfl
     | some y=>
       rw[View.put_other,View.put_other] at this
       · rw[hx] at this;cases this
       · rintro rfl;rw[hnone.2] at hx;cases hx
       · rintro rfl;rw[hnone.1] at hx;cases hx
   exact⟨_,.phase hPI hnone.2 hd' rfl fun o g' ho hF hFC=> hk _ _ (hP _ _ (hd'.put hFC) (hend o g' ho hF))⟩
def LtAll:Rank×Meas→Rank×Meas→Prop:=Prod.Lex Rank.Lt LtMeas
theorem LtAll.wf:WellFounded LtAll:=(Prod.lex ⟨Rank.Lt,Rank.wf⟩ ⟨LtMeas,LtMeas.wf⟩).wf
theorem handed(h:AI P H os0 gs w t q):t.HandedOver:=by
 intro i g hgi hne hc;obtain⟨x,hx,hm,hk⟩:=hc;obtain⟨op,hop,hopx⟩:=touch_of hx;have hog:op.g=g:=by simpa [Trace.g?,hop] using hgi
 have hpl:x.kind=.plain:=by
   refine Classical.byContradiction fun hne'=> ?_;obtain⟨h1,h2⟩:=h.np2 i op x hop hopx hne';have hnsaid:x.kind≠ .said:=fun e=> hne (hog▸h1 e);have hat:x.kind=.atomic:=by
     cases hkk:x.kind with
     | plain=> exact absurd hkk hne'
     | atomic=> rfl
     | said=> exact absurd hkk hnsaid
   rcases hk with hk|hk
   · exact hk hat
   · exact h2 hat (by rw[hog];exact hne) hk
 obtain⟨j,z,h1,h2,h3⟩:=h.kn i x hx hpl;refine⟨j,by simp[Trace.g?,h1,h2],?_⟩;rcases h3 with rfl|h3
 · rw[hop] at h1;cases h1
   exact absurd (hog.symm.trans h2) hne
 · exact h3
theorem MI.step {Post:Value→World→Prop}(μ:Rank×Meas)(m:Machine)(t:Trace)(h:MI P (AtRet P Post) os0 μ m t):
   (∃o w ops,stepT P m=(.ended o w,ops)∧Go.Conc.Good P (fun v w=> Post v w∧Kpt os0 w) m o w (t++ops))∨(∃m' ops μ',stepT P m=(.next m',ops)∧LtAll μ' μ∧MI P (AtRet P Post) os0 μ' m' (t++ops)):=by
 cases h with
 | phase h hC hd hμ hk=>
   rename_i gs w sl q X Fin H₁ F base ths mn s H ks rks D f μ
   obtain⟨d,hg⟩:=h.step (sl:=sl);rcases hg with ⟨gs',w',sl',ops,ths',m',s',H',ks',rks',q',D',hr,hPI,hlt⟩|⟨gs',sl',g,g',ths',s',H',ks',rks',q',D',hg0,hr,rfl,hF,hPI⟩
   · exact .inr ⟨_,ops,(.phase f,_),hr,.right _ (by rw[hμ];exact hlt),.phase hPI hC hd rfl hk⟩
   · obtain⟨o,ho,hFC,hAI⟩:=hPI.ends (g:=g) (g':=g') hC g.frame.fn g.frame.place;obtain⟨μ',hMI⟩:=MI.of (sl:=sl') hAI (stepd_self (by have:=hPI.si.size;have:=hPI.b1;omega)) (hk o g' ho hF hFC);exact .inr ⟨_,_,_,hr,.left _ _ (.phase f _ _),hMI⟩
 | alone h hg hT hρ=>
   rename_i gs w sl q H g ρ
   have hrun:g.status=.running:=by
     cases ρ with
     | stop=> exact hT.1
     | step f=> exact hT.1
     | phase f=> exact absurd rfl (hρ f)
   have haw:∀x∈gs,awake x:=by
     intro x hx tm;obtain⟨i,hi,rfl⟩:=Array.mem_iff_getElem.1 hx;have hi':=Array.getElem?_eq_getElem hi;by_cases e0:i=0
     · subst e0;rw[hg] at hi';cases hi'
       rw[hrun];simp
     · obtain⟨g0,h1,h2⟩:=h.leav i (by omega) hi;rw[h1] at hi';cases hi'
       rcases h2.status with e|e <;> rw[e] <;> simp
   obtain⟨i,g₁,d,sl',hg₁,hr₁,hstep⟩:=crowd_pick (P:=P) (w:=w) (sl:=sl) haw ⟨0,g,hg,hrun⟩;rw[hstep];have h':=h.at d;by_cases e0:i=0
   · subst e0;rw[hg] at hg₁;cases hg₁
     cases ρ with
     | phase f=> exact absurd rfl (hρ f)
     | step f=>
       obtain⟨_,hst⟩:=hT;obtain⟨g',w',es,H',h3,h4,h5⟩:=hst (w.at d) h'.sat trivial;have hAI:=h'.walk (g:=g) (g':=g') (fn:=g.frame.fn) (pos:=g.frame.place) h4;obtain⟨μ',hMI⟩:=MI.of (sl:=sl') hAI (stepd_self h.pos) h5;exact .inr ⟨_,_,_,runT_crowd_go hg h3,.left _ _ (.step f _),hMI⟩
     | stop=>
       obtain⟨_,hst⟩:=hT;obtain⟨v,es,h3,h4,h5⟩:=hst (w.at d) h'.sat;have hAI:=h'.walk (g:=g) (g':=g) (fn:=g.frame.fn) (pos:=g.frame.place) { Trans.refl h'.sat with ev:=h4 };have hleaves:∀x∈(crowd gs w sl).gs.toList.drop 1,x.Leaves P:=fun x hx=> by
         obtain⟨j,hj⟩:=List.mem_iff_getElem?.1 hx;rw[List.getElem?_drop] at hj;have hj':gs[1+j]? =some x:=by simpa [crowd] using hj
         have hjl:=(Array.getElem?_eq_some_iff.1 hj').1;obtain⟨g0,g1,g2⟩:=h.leav (1+j) (by omega) hjl;rw[hj'] at g1;cases g1
         exact⟨_,g2.leaves⟩
       have hhear:(crowd gs w sl).EndHearing P (t++MemOp.ofEvents 0 g.frame.fn g.frame.place es):=fun j x hj hj0=> by
         have hj':gs[j]? =some x:=hj;have hjl:j<gs.size:=(Array.getElem?_eq_some_iff.1 hj').1;obtain⟨g0,g1,g2⟩:=h.leav j (by omega) hjl;rw[hj'] at g1;cases g1
         refine⟨q j,?_⟩;have hdf:Deaf (t++MemOp.ofEvents 0 g.frame.fn g.frame.place es) j=Deaf t j:=Deaf_other t (g:=j) (g':=0) (by omega) _ ofEvents_g;have e:(t++MemOp.ofEvents 0 g.frame.fn g.frame.place es).deaf j (t++MemOp.ofEvents 0 g.frame.fn g.frame.place es).size=Deaf t j:=hdf;rw[e];exact g2.hears _
       exact .inl ⟨_,_,_,runT_many_ended hg h3,v,rfl,⟨h5,h.os⟩,hAI.nr,handed hAI,⟨hleaves,rfl⟩,hhear⟩
   · have hi:i<gs.size:=(Array.getElem?_eq_some_iff.1 hg₁).1;obtain⟨g0,g1,g2⟩:=h.leav i (by omega) hi;rw[g1] at hg₁;cases hg₁
     have hi0:(i==0)=false:=by simp;omega
     cases hqq:q i with
     | zero=> rw[hqq] at g2;rw[g2.1] at hr₁;cases hr₁
     | succ q'=>
       rw[hqq] at g2;rcases g2 with ⟨hf,_⟩|⟨_,g',es,hmu,hst,hq'⟩
       · rw[hf] at hr₁;cases hr₁
       · have hAI:=h'.leave (g:=g₁) (fn:=g₁.frame.fn) (pos:=g₁.frame.place) (by omega) hi hmu hq';have h0':(stepd P gs i g₁ g' (w.at d))[0]? =some g:=by
           rw[stepd_other (by omega) hg,woken_running (.inl hrun)]
         refine .inr ⟨_,_,_,runT_crowd_go g1 (by rw[hi0];exact hst _),?_,.alone hAI h0' hT hρ⟩;refine .right _ (lt_q ?_);show sumTo (stepd P gs i g₁ g' (w.at d)).size _<_;rw[stepd_size];have:=sumTo_upd (f:=q) q' (fun a=> a) (i:=i) (j:=gs.size) hi;have e:sumTo gs.size (fun a=> upd q i q' a)=sumTo gs.size (upd q i q'):=rfl;have e2:sumTo gs.size (fun a=> q a)=sumTo gs.size q:=rfl;omega
theorem T.runs {Post:Value→World→Prop}{H:View}{g:Goroutine}{W:World}(h:T (Mp P) (AtRet P Post) H g)(hs:Sat H W):
   ∃N last o w' t',runNT P (N+1) (solo g W) #[]=(.ended o w',t')∧runN P N (solo g W)=.next last∧Go.step P last=.ended o w'∧Go.Conc.Good P (fun v w=> Post v w∧Kpt (W.os,W.output) w) last o w' t':=by
 obtain⟨ρ,hρ⟩:=h.rank;have hAI:AI P H (W.os,W.output) #[g] W #[] (fun _=> 0):=by
   have none:∀(i:Nat) a,touchAt #[] i≠some a:=fun i a=> by simp[touchAt,Trace.act?]
   exact⟨by simp,hs,fun said ⟨i,j,_,⟨a,_,ha,_⟩,_⟩=> by simp[Trace.act?] at ha,fun i a ha=> absurd ha (none i a),fun i a b ha=> absurd ha (none i a),fun i op a hop=> by simp at hop,fun i a b ha=> absurd ha (none i a),fun a i=> by simp[Trace.act?],fun i op hop=> by simp at hop,fun i a ha=> absurd ha (none i a),rfl,fun i h0 hi=> by simp at hi;omega,Kpt.refl _⟩
 obtain⟨μ,hMI⟩:=MI.of (sl:=none) hAI (by simp) hρ;rw[solo_eq_crowd];exact run_of_inv LtAll.wf (MI P (AtRet P Post) (W.os,W.output)) (fun m o w t=> Go.Conc.Good P (fun v w=> Post v w∧Kpt (W.os,W.output) w) m o w t) (fun μ m t hm=> MI.step μ m t hm) _ _ _ hMI
end
end Go.RL
end
namespace Go.RL
open Go.Conc Go.ConcN
section
variable {P:Program}{n:Nat}{R:Rg}{L:Bl}{H₀:View}{k:List Item}
theorem T.top {M:Md P}{Post:Value→World→Prop}{H:View}{fn:Func}{b:FB}{tmps:Array Value}{todo:List Item}{v:Value}(hf:P.funcs[b.fn]? =some fn)(hi:P.inits.idxOf? b.fn=none)(hk:b.kind=.normal)(hv:resP fn R v)(hr:RegOk n R tmps)
   (hp:∀w,Sat H w→Post v w):T M (AtRet P Post) H (G (b.back tmps [] todo) []):=by
 refine .stop ⟨rfl,fun w hs=> ⟨v,#[],?_,fun e he=> by simp at he,hp w hs⟩⟩;have:stepG P true (G (b.back tmps [] todo) []) w=unwind P true (b.back tmps [] todo) [] none w:=by simp[G,stepG,FB.back]
 rw[this];unfold unwind;simp only[FB.back,hf,hv.run (P:=P) hr w,doReturn,hk,hi,GStep.after,seen_none];simp
theorem Tc.retTop {Post:Value→World→Prop}{fn:Func}{f:FuncId}{v:Value}(hf:P.funcs[f]? =some fn)(hi:P.inits.idxOf? f=none)(hv:resP fn R v)(hp:∀H w,SymSt H₀ L H→Sat H w→Post v w):
   Tc (Mp P) (AtRet P Post) n ⟨f,.normal,none⟩ H₀ [] R L [] (.code .ret::k):=fun H _ hs hr=> .retCode rfl (T.top hf hi rfl hv hr fun w hw=> hp H w hs hw)
theorem T.enterTop {f:FuncId}{fn:Func}{body:Code}{vs:List Value}{H:View}{St:View→Goroutine→Prop}(hf:P.funcs[f]? =some fn)(hb:fn.body=some body)(hn:fn.ntmps=n)(hv:vs.length≤n)
   (h:Tc (Mp P) St n ⟨f,.normal,none⟩ H [] (argR vs) [] [] [.code body]):T (Mp P) St H (G (Frame.enter P f vs.toArray .normal) []):=by
 have:=h H (vs.toArray++Array.replicate (n-vs.length) undef) (SymSt.nil H) ⟨by simp;omega,fun d v hd=> ?_⟩
 · have e:Frame.enter P f vs.toArray .normal=(⟨f,.normal,none⟩:FB).at (vs.toArray++Array.replicate (n-vs.length) undef) [] [.code body]:=by
     simp[Frame.enter,FB.at,hf,hb,hn]
   rw[e];exact this
 · obtain⟨_,h2⟩:=argR_go vs 0 d v hd;simp only[Nat.sub_zero] at h2;have hlt:=(List.getElem?_eq_some_iff.1 h2).1;rw[Array.getElem?_append_left (by simpa using hlt)];simpa using h2
end
end Go.RL
namespace Go.Proofs.YtdnfdeplcjaonaaGreatDoor
open Go.RL Go.Proofs.Tryz Go.ChangeShapes Go.WideShapes Go.ChangeAt Go.RowKit
set_option maxRecDepth 100000
def fullV(W:World):View:=fun b=> (W.heap[b]?).map fun o=> (false,o)
theorem fullV_sat(W:World):Sat (fullV W) W:=fun b f o h=> by
 simp only[fullV,Option.map_eq_some_iff,Prod.mk.injEq] at h;obtain⟨o',h1,_,rfl⟩:=h;exact h1
theorem ownK:ownKnob prog.godebug=none:=by kernel_rfl
theorem laidOutK:laidOutB prog=true:=by kernel_rfl
theorem gChecks:prog.globalNamed "baudot/dial.checks"=some 0:=by kernel_rfl
theorem tChecks:(prog.globals[0]?).map (·.type)=some 125:=by kernel_rfl
theorem gNot:prog.globalNamed "baudot/dial.not"=some 1:=by kernel_rfl
theorem tNot:(prog.globals[1]?).map (·.type)=some 142:=by kernel_rfl
theorem und125:prog.underlying 125=some (.array 3 124):=by kernel_rfl
theorem und124:prog.underlying 124=some (.func #[113] #[29] false):=by kernel_rfl
theorem und142:prog.underlying 142=some (.array 3 38):=by kernel_rfl
theorem und38:prog.underlying 38=some (.int .i64):=by kernel_rfl
theorem cells124:prog.cellsOf 124=1:=by kernel_rfl
theorem cells125:prog.cellsOf 125=3:=by kernel_rfl
theorem cells38:prog.cellsOf 38=1:=by kernel_rfl
theorem cells142:prog.cellsOf 142=3:=by kernel_rfl
abbrev laidL:List (String×DataW Unit):= [("math/bits.deBruijn32tab",Rows.laid_math_bits_deBruijn32tab),("math/bits.deBruijn64tab",Rows.laid_math_bits_deBruijn64tab),("internal/strconv.uint64pow10",Rows.laid_internal_strconv_uint64pow10),("unicode/utf8.acceptRanges",Rows.laid_unicode_utf8_acceptRanges),("baudot/dial.not",Rows.laid_baudot_dial_not),("baudot/dial.checks",Rows.laid_baudot_dial_checks),("unicode/utf8.first",Rows.laid_unicode_utf8_first)]
theorem laidVars_at {P:Program}{w:World}:∀ {l:List (String×DataW Unit)} {ps:List MemPlace},DataW.LaidVars P w l ps→∀ {n:String} {d:DataW Unit},(n,d)∈l→
   ∃g t cs fuel p,P.globalNamed n=some g∧(P.globals[g]?).map (·.type)=some t∧w.var? P n=some cs∧DataW.trod (fun _=> ()) P w 0 (fun _=> true) false fuel t cs.toList=some (d,p)
 | [],_,_,_,_,h=> by cases h
 | (m,e)::r,ps,h,n,d,hm=> by
   obtain⟨g,t,cs,fuel,p,q,h1,h2,h3,h4,h5,_⟩:=h;rcases List.mem_cons.1 hm with e1|hm
   · cases e1
     exact⟨g,t,cs,fuel,p,h1,h2,h3,h4⟩
   · exact laidVars_at h5 hm
theorem var_heap {W:World}{n:String}{g:Nat}{cs:Array Value}(hg:prog.globalNamed n=some g)(hv:W.var? prog n=some cs):∃gt gz,W.heap[g]? =some (.cells cs gt gz):=by
 unfold World.var? at hv;rw[hg] at hv;simp only[Option.bind_some] at hv;split at hv
 · rename_i cs' t' z e
   obtain rfl:=Option.some.inj hv;exact⟨_,_,e⟩
 · cases hv
theorem not_kept:("baudot/dial.not",(Rows.laid_baudot_dial_not:DataW Unit))∈laidL.filter fun x=> x.2.handleName?.isNone:=
 List.mem_filter.2 ⟨by simp[laidL],by kernel_rfl⟩
theorem glob_of {W:World}(h:laidMetH prog laidL W):Glob (fullV W):=by
 constructor
 · obtain⟨g,t,cs,fuel,p,hg,ht,hv,hd⟩:=h.funcs (n:= "baudot/dial.checks") (by simp only[laidL,List.mem_cons];exact .inr (.inr (.inr (.inr (.inr (.inl rfl))))));obtain rfl:=Option.some.inj (gChecks.symm.trans hg);obtain rfl:=Option.some.inj (tChecks.symm.trans ht);obtain⟨gt,gz,hh⟩:=var_heap gChecks hv;have hlen:cs.toList.length=3:=by
     cases fuel with
     | zero=> simp[DataW.trod] at hd
     | succ n=>
       unfold DataW.trod at hd;rw[und125] at hd;simp[cells125] at hd
       simpa using hd.1
   obtain⟨c0,c1,c2,hcs⟩:∃c0 c1 c2,cs.toList= [c0,c1,c2]:=by
     match e:cs.toList,hlen with
     | [c0,c1,c2],_=> exact⟨c0,c1,c2,rfl⟩
   rw[hcs] at hd;obtain⟨y0,y1,y2,n,hx,r0,r1,r2⟩:=trod_array3 und125 cells124 hd;have hx':=congrArg Prod.fst hx;have hx2:(DataW.agg [y0.1,y1.1,y2.1]:DataW (List UInt8))=DataW.agg [.held _,.held _,.held _]:=hx'.symm;simp only[DataW.agg.injEq,List.cons.injEq,and_true] at hx2;obtain⟨e0,e1,e2⟩:=hx2;obtain⟨d0,q0⟩:=y0;obtain⟨d1,q1⟩:=y1;obtain⟨d2,q2⟩:=y2;simp only at e0 e1 e2;subst e0 e1 e2;obtain rfl:=func_of_trod (f0:=284) und124 (by kernel_rfl) r0;obtain rfl:=func_of_trod (f0:=285) und124 (by kernel_rfl) r1;obtain rfl:=func_of_trod (f0:=286) und124 (by kernel_rfl) r2;refine⟨false,gt,gz,?_⟩;have ec:cs=⟨[chkF 0,chkF 1,chkF 2]⟩:=by
     apply Array.ext'
     rw[hcs];rfl
   rw[←ec];simp only[fullV,hh,Option.map_some]
 · obtain⟨⟨ps,hl,_⟩,_⟩:=laidMetH_iff.1 h;obtain⟨g,t,cs,fuel,p,hg,ht,hv,hd⟩:=laidVars_at hl not_kept;obtain rfl:=Option.some.inj (gNot.symm.trans hg);obtain rfl:=Option.some.inj (tNot.symm.trans ht);obtain⟨gt,gz,hh⟩:=var_heap gNot hv;have hlen:cs.toList.length=3:=by
     cases fuel with
     | zero=> simp[DataW.trod] at hd
     | succ n=>
       unfold DataW.trod at hd;rw[und142] at hd;simp[cells142] at hd
       simpa using hd.1
   obtain⟨c0,c1,c2,hcs⟩:∃c0 c1 c2,cs.toList= [c0,c1,c2]:=by
     match e:cs.toList,hlen with
     | [c0,c1,c2],_=> exact⟨c0,c1,c2,rfl⟩
   rw[hcs] at hd;obtain⟨y0,y1,y2,n,hx,r0,r1,r2⟩:=trod_array3 und142 cells38 hd;have hx':=congrArg Prod.fst hx;have hx2:(DataW.agg [y0.1,y1.1,y2.1]:DataW Unit)=DataW.agg [.lit (.int .i64 0),.lit (.int .i64 2),.lit (.int .i64 1)]:=hx'.symm;simp only[DataW.agg.injEq,List.cons.injEq,and_true] at hx2;obtain⟨e0,e1,e2⟩:=hx2;obtain⟨z0,g0,g0',_⟩:=DataW.trod_int und38 r0;obtain⟨z1,g1,g1',_⟩:=DataW.trod_int und38 r1;obtain⟨z2,g2,g2',_⟩:=DataW.trod_int und38 r2;subst g0' g1' g2';simp only[DataW.lit.injEq,Lit.int.injEq,true_and] at e0 e1 e2;simp only[List.cons.injEq,and_true] at g0 g1 g2;refine⟨false,gt,gz,?_⟩;have ec:cs=⟨[.int .i64 0,.int .i64 2,.int .i64 1]⟩:=by
     apply Array.ext'
     rw[hcs,g0,g1,g2,e0,e1,e2]
   rw[←ec];simp only[fullV,hh,Option.map_some]
section
variable {H:Type}{enc:TypeId×Value→H}{P:Program}{W W':World}
theorem trodAll_stays(hl:laidOutB P=true)(hb:∀x:MemPlace,x.block<W.heap.size→W.sameAt W' x):∀ {ts:List TypeId} {vs:List Value} {ds:List (DataW H)} {p:List MemPlace},ts.all (fun t=> P.readableRec t&&decide (t<P.types.size))=true→
   DataW.TrodAll enc P W 0 (fun _=> true) true ts vs ds p→(∀x∈p,x.block<W.heap.size)→DataW.TrodAll enc P W' 0 (fun b=> decide (b<W.heap.size)) true ts vs ds p
 | [],[],[],_,_,h,_=> h
 | t::ts,v::vs,d::ds,p,hr,h,hlt=> by
   simp only[List.all_cons,Bool.and_eq_true,decide_eq_true_eq] at hr;obtain⟨a,b,h1,h2,rfl⟩:=h;exact⟨a,b,WideElems.Trod_stays hl hr.1.1 hr.1.2 h1 (fun x hx=> hb x (hlt x (by simp[hx]))) (fun x hx=> by simpa using hlt x (by simp[hx])),trodAll_stays hl hb hr.2 h2 (fun x hx=> hlt x (by simp[hx])),rfl⟩
 | [],[],_::_,_,_,h,_=> h.elim
 | [],_::_,[],_,_,h,_=> h.elim
 | [],_::_,_::_,_,_,h,_=> h.elim
 | _::_,[],[],_,_,h,_=> h.elim
 | _::_,[],_::_,_,_,h,_=> h.elim
 | _::_,_::_,[],_,_,h,_=> h.elim
theorem trodAll_len {base:Nat}{sp:Nat→Bool}{held:Bool}:∀ {ts:List TypeId} {vs:List Value} {ds:List (DataW H)} {p:List MemPlace},DataW.TrodAll enc P W base sp held ts vs ds p→ds.length=ts.length
 | [],[],[],_,_=> rfl
 | _::_,_::_,_::_,_,h=> by
   obtain⟨_,_,_,h2,_⟩:=h;simp[trodAll_len h2]
 | [],[],_::_,_,h=> h.elim
 | [],_::_,[],_,h=> h.elim
 | [],_::_,_::_,_,h=> h.elim
 | _::_,[],[],_,h=> h.elim
 | _::_,[],_::_,_,h=> h.elim
 | _::_,_::_,[],_,h=> h.elim
theorem keptBut_of_kept(ho:W'.os=W.os)(hout:W'.output=W.output)(hb:∀b<W.heap.size,W'.heap[b]? =W.heap[b]?)(may:MemPlace→Prop):W.keptBut W' may:=by
 refine⟨ho,hout,fun i hi=> ?_⟩;rw[hb i hi];cases h:W.heap[i]? with
 | none=> exact rfl
 | some o=>
   cases o with
   | cells c t fr=> exact⟨rfl,rfl,rfl,fun _ _=> rfl⟩
   | map es k=> exact .inr ⟨rfl,rfl⟩
   | _=> exact rfl
theorem post_kept {f:Func}{s:ChangeSpec}{args:Array Value}{ds gs:List (DataW H)}{before:List MemPlace}{tb:TypeId}(hl:laidOutB P=true)(hr:f.params.toList.all (fun t=> P.readableRec t&&decide (t<P.types.size))=true)
   (hres:f.resultTypes=#[tb]) (htb:P.underlying tb=some .bool) (hs:s.vars= []) (hW:DataW.Whole enc P f.params.toList s.vars false W args.toList ds gs before) (hfn:s.fn H (ds++gs)= { results:= [.lit (.bool true)],args:=ds })
   (hout:W'.output=W.output) (hsz:W.heap.size≤W'.heap.size) (hb:∀b<W.heap.size,W'.heap[b]? =W.heap[b]?):s.post enc P f false true false false W args (.bool true) { W' with os:=W.os }:=by
 have hlt:=hW.lt;have hW0:=hW;obtain⟨p,q,hA,hV,rfl,hfz,hnd⟩:=hW;rw[hs] at hV;obtain⟨rfl,rfl⟩:=trodVars_none hV;have hbel:Below W.heap.size W { W' with os:=W.os,tape:=W.tape }:=⟨rfl,rfl,hout,hsz,hb⟩
 refine⟨ds,[],p++[],[],p,[],hW0,?_,?_,?_,keptBut_of_kept (W:=W) (W':= { W' with os:=W.os }) rfl hout hb _,fun h=> nomatch h⟩
 · rw[hfn,hres];exact trodAll_mk1 (shut_bool htb _)
 · rw[hfn];exact trodAll_stays (W':= { W' with os:=W.os }) hl (fun x hx=> hbel.same hx) hr hA (fun x hx=> hlt x (by simp[hx]))
 · rw[hfn,hs];rfl
end
theorem keep_os {w w':World}(h:w'.os=w.os){Q:World→Prop}(hq:Q { w' with os:=w.os }):Q w':=by
 rw[←h] at hq;exact hq
theorem lifted {f:FuncId}{fn:Func}{s:ChangeSpec}{n:Nat}{body:Code}{a:Assume}{os:Os}{H:Type}{enc:TypeId×Value→H}{conds:List PathCond}
   (hfn:prog.funcs[f]? =some fn) (hb:fn.body=some body) (hn:fn.ntmps=n) (hi:prog.inits.idxOf? f=none) (hpn:fn.params.size≤n)
   (hres:fn.resultTypes=#[4]) (hread:fn.params.toList.all (fun t=> prog.readableRec t&&decide (t<prog.types.size))=true)
   (hsv:s.vars= []) (hsf:∀ds:List (DataW H),ds.length=fn.params.size→s.fn H (ds++[])= { results:= [.lit (.bool true)],args:=ds })
   (started:os.Started)
   (witness:∃(w:World) (tape:Tape) (i:Input),w.os=os∧(w.forCall tape i).Shaped prog∧i.vars= []∧Input.okWide prog (w.forCall tape i) .any w.heap.size f i∧
     ((s.pre enc prog fn conds false (w.forCall tape i).memory i.args∧laidMetH prog laidL (w.forCall tape i).memory)∧sizedMet enc prog fn (OpenSpec.ofChange s) false (w.forCall tape i).memory i.args)∧a.holds prog (lone (Frame.enter prog f i.args .normal) [] (w.forCall tape i)))
   (walk:∀(W:World) (base:Nat) (vs:List Value) (ds:List (DataW H)) (p:List MemPlace),vs.length=fn.params.size→(∀(j:Nat) t v,fn.params[j]? =some t→vs[j]? =some v→Value.okWide prog W .any base t v)→
     DataW.TrodAll enc prog W 0 (fun _=> true) true fn.params.toList vs ds p→(DataW.weightsEach prog fn.params.toList ds).all (· ≤reachBytes)=true→Glob (fullV W)→
     ∀(St:View→Goroutine→Prop),(∀(H₀:View) (R:Rg) (L:Bl) (kk:List Item),resP fn R (.bool true)→(fullV W).le H₀→Tc (Mp prog) St n ⟨f,.normal,none⟩ H₀ [] R L [] (.code .ret::kk))→
     Tc (Mp prog) St n ⟨f,.normal,none⟩ (fullV W) [] (argR vs) [] [] [.code body]):
   ReturnsInLeavingWide a Tryz.checked os f .any (fun w args=> (s.pre enc prog fn conds false w args∧laidMetH prog laidL w)∧sizedMet enc prog fn (OpenSpec.ofChange s) false w args)
     (s.post enc prog fn false true false false):=by
 refine returnsInLeavingWide_of_good (C:=Tryz.checked) ownK started witness ?_;intro w tape i _ _ _ hok hpre _;obtain⟨_,_,_,fn',hfn',_,_,_,hsize,hval⟩:=hok;have e:fn'=fn:=Option.some.inj (hfn'.symm.trans hfn);subst e;obtain⟨⟨⟨ds,gs,before,hw,hc⟩,hl⟩,hz⟩:=hpre;generalize hWe:w.forCall tape i=W at *;have hw':DataW.Whole enc prog fn'.params.toList s.vars false W i.args.toList ds gs before:=hw.of_heap (by rfl);have hl':laidMetH prog laidL W:=hl.of_heap (by rfl);have hwt:=hz.weights hw;have hw0:=hw';obtain⟨p,q,hA,hV,rfl,hfz,hnd⟩:=hw';rw[hsv] at hV;obtain⟨rfl,rfl⟩:=trodVars_none hV;have hlen:ds.length=fn'.params.size:=by
   simpa using trodAll_len hA
 have hwt':(DataW.weightsEach prog fn'.params.toList ds).all (· ≤reachBytes)=true:=by
   have e:DataSpec.varTypes prog (OpenSpec.ofChange s).bare.plain= []:=by
     show List.filterMap _ s.vars= []
     rw[hsv];rfl
   have:=hwt;rw[e] at this;simpa using this
 have hT :=T.runs (Post:=fun v w=> v=.bool true∧W.heap.size≤w.heap.size∧∀b<W.heap.size,w.heap[b]? =W.heap[b]?) (H:=fullV W) (T.enterTop hfn hb hn (by simpa [hsize] using hpn)
   (walk W w.heap.size i.args.toList ds p (by simpa using hsize) (fun j t v h1 h2=> hval j t v h1 (by simpa using h2)) hA hwt' (glob_of hl') _
     (fun H₀ R L kk hv hle=> Tc.retTop hfn hi hv (fun H w hs hw=> by
       have hk:∀b<W.heap.size,w.heap[b]? =W.heap[b]? :=fun b hb=> by
         have h1:fullV W b=some (false,W.heap[b]):=by simp[fullV,hb]
         rw[hw b false _ (hs.base _ _ (hle _ _ h1))];simp[hb]
       refine⟨rfl,?_,hk⟩;rcases Nat.eq_zero_or_pos W.heap.size with hz|hz
       · omega
       · have h1:=hk (W.heap.size-1) (by omega);have h2:=h1.trans (Array.getElem?_eq_getElem (show W.heap.size-1<W.heap.size by omega));have:=(Array.getElem?_eq_some_iff.1 h2).1;omega)))) (fullV_sat W)
 rw[Array.toArray_toList] at hT;obtain⟨N,last,o,w',t',h1,h2,h3,v,ho,⟨⟨rfl,hp1,hp2⟩,hk1,hk2⟩,r1,r2,r3,r4⟩:=hT;exact⟨N,last,o,w',t',h1,h2,h3,.bool true,ho,ChangeSpec.post_blind (keep_os hk1 (post_kept laidOutK hread hres (by kernel_rfl) hsv hw0 (hsf ds hlen) hk2 hp1 hp2)),r1,r2,r3,r4⟩
theorem open_u8 {W:World}{base:Nat}{v:Value}(h:Value.okWide prog W .any base 5 v):∃x,v=.int .u8 x∧0≤x∧x<256:=by
 unfold Value.okWide Cell.okWide Cell.ok at h;rw[show prog.underlying 5=some (.int .u8) by kernel_rfl] at h;cases v with
 | int k n=>
   obtain⟨rfl,h1,h2⟩:=h;have e1:IntKind.u8.min=0:=by kernel_rfl
   have e2:IntKind.u8.max=255:=by kernel_rfl
   exact⟨n,rfl,by omega,by omega⟩
 | _=> exact h.elim
theorem cells_of {W:World}{a:Addr}{v:Value}(h:W.cell? a=some v):∃c t z,W.heap[a.block]? =some (.cells c t z)∧c[a.off]? =some v:=by
 unfold World.cell? at h;split at h
 · rename_i c t z e
   split at h
   · cases h
   · exact⟨c,t,z,e,h⟩
 · cases h
abbrev plainL:List (String×DataW Unit):=laidL.filter fun x=> x.2.handleName?.isNone
noncomputable def startW (os:Os):World:=(World.doorLaid prog 600 os).layVars prog plainL
theorem start_os(os:Os):(startW os).os=os:=World.layVars_os _ _ _
theorem start_fits(os:Os):(World.doorLaid prog 600 os).layFits prog plainL []=true:=by kernel_rfl
theorem start_ifaces(os:Os):(World.doorLaid prog 600 os).layIfaces prog plainL (startW os)=true:=by kernel_rfl
theorem start_plain(os:Os)(args:Array Value):laidMet prog plainL ((startW os).forCall (fun _ _=> 0) ⟨#[],args,[]⟩).memory:=by
 have e1:(plainL.filter fun x=> (plainL.map (·.1)).contains x.1)=plainL:=List.filter_eq_self.2 fun x hx=> List.contains_iff_mem.2 (List.mem_map.2 ⟨x,hx,rfl⟩);have e2:(plainL.filter fun x=> !(plainL.map (·.1)).contains x.1)= []:=List.filter_eq_nil_iff.2 fun x hx=> by rw[List.contains_iff_mem.2 (List.mem_map.2 ⟨x,hx,rfl⟩)];simp
 have h:laidMet prog plainL (startW os):=laidMet_layVars (w0:=World.doorLaid prog 600 os) (plainL.map (·.1)) [] (by rw[e1];rfl) (by rw[e1];exact start_fits os) (by rw[e1];exact start_ifaces os) (by rw[e2];exact LaidIn.none);exact h.of_heap (by simp[World.memory,World.forCall,Input.heap])
theorem door_met(os:Os)(args:Array Value):laidMetH prog laidL ((startW os).forCall (fun _ _=> 0) ⟨#[],args,[]⟩).memory:=
 laidMetH_of_parts3 (fuel:=8) (start_plain os args) (by kernel_rfl) (by kernel_rfl)
theorem witness_plain {H:Type}{enc:TypeId×Value→H}{C:Checked}{os:Os}{f:FuncId}{fn:Func}{s:ChangeSpec}{conds:List PathCond}{apart:Bool}{X:World→Array Value→Prop}(w0:World)(args:Array Value)(fuel:Nat)(hos:w0.os=os)
   (hsh:(w0.forCall (fun _ _=> 0) ⟨#[],args,[]⟩).Shaped C.prog)
   (hok:Input.okWideB C.prog (w0.forCall (fun _ _=> 0) ⟨#[],args,[]⟩) f ⟨#[],args,[]⟩=true)
   (hpre:s.preB enc C.prog fn conds apart (w0.forCall (fun _ _=> 0) ⟨#[],args,[]⟩).memory args fuel=true)
   (hsz:s.sizedB enc C.prog fn apart (w0.forCall (fun _ _=> 0) ⟨#[],args,[]⟩).memory args fuel=true)
   (hx:X (w0.forCall (fun _ _=> 0) ⟨#[],args,[]⟩).memory args):
   ∃ (w:World) (tape:Tape) (i:Input),w.os=os∧(w.forCall tape i).Shaped C.prog∧i.vars= []∧Input.okWide C.prog (w.forCall tape i) .any w.heap.size f i∧
     ((s.pre enc C.prog fn conds apart (w.forCall tape i).memory i.args∧X (w.forCall tape i).memory i.args)∧sizedMet enc C.prog fn (OpenSpec.ofChange s) apart (w.forCall tape i).memory i.args)∧({}:Assume).holds C.prog (lone (Frame.enter C.prog f i.args .normal) [] (w.forCall tape i)):=
 ⟨w0,fun _ _=> 0,⟨#[],args,[]⟩,hos,hsh,(Input.okWide_of_okWideB (base:=0) hok).1,(Input.okWide_of_okWideB hok).2,⟨⟨ChangeSpec.pre_of_preB hpre,hx⟩,sizedMet_of_sizedB hsz⟩,by
   simp only[Assume.holds];simp⟩
theorem holds_tied_goes(Lk:Looks){p:Pinned}{s:OpenSpec}{c:OpenClaim}(kinds:List LaidKind)(tests:Bool)(har:Bool×String)(lk:Bool)
   (hc:c.holds p s) (hw:c.wfByText s=true) (htie:c.laidByTextAt Lk p kinds tests)
   (hst:c.start=.entering) (hnb:c.noBlocks=false∧c.again=false) (hm:p.checked.prog.mainIs=some (har.1,har.2.toList)) (hn:(!har.1&&har.2.isEmpty && !lk)=false)
   (hl:∀f fn,p.checked.prog.funcNamed c.func=some f→p.checked.prog.funcs[f]? =some fn→lk=p.checked.prog.looks []∧∀(j:Nat) t,fn.params[j]? =some t→p.checked.prog.wantsStandIn t=false)
   (hg:true=c.goesBy p.checked.prog):
   Claim7.holds p (.plain s) { stood:= { row:=c,standIns:= [],harness:=har,looks:=lk },kinds:= [],alts:= [],goes:=true,laidByText:=true,laidKinds:=kinds,laidTests:=tests,laidLooks:=Lk }:=by
 have h6:∀r:OpenClaim,Claim7.isSixth { stood:= { row:=r,standIns:= [],harness:=har,looks:=lk },kinds:= [] }=false:=fun r=> by simpa [Claim7.isSixth] using hn
 obtain⟨h1,h2⟩:=Claim7.tied_new_at Lk kinds tests (Claim7.new_of_sixth hc har lk hst hnb hm (h6 c) hl) hw;exact⟨⟨h1,h2⟩,(fun D hD=> by cases hD),htie,(fun h=> by cases h),hg⟩
theorem no_stand {ps:Array TypeId}(h:ps.toList.all (fun u=> !prog.wantsStandIn u)=true):∀(j:Nat) t,ps[j]? =some t→prog.wantsStandIn t=false:=fun j t ht=> by
 have hm:t∈ps.toList:=by simpa using Array.mem_of_getElem? ht
 simpa using List.all_eq_true.1 h t hm
section
variable {H:Type}{enc:TypeId×Value→H}{P:Program}{W:World}{base:Nat}{sp:Nat→Bool}{held:Bool}
theorem trodAll_at:∀ {ts:List TypeId} {vs:List Value} {ds:List (DataW H)} {p:List MemPlace},DataW.TrodAll enc P W base sp held ts vs ds p→∀(j:Nat) t v,ts[j]? =some t→vs[j]? =some v→∃d q,DataW.Trod enc P W base sp held t v d q
 | [],_,_,_,_,_,_,_,h,_=> by simp at h
 | t ::ts,v::vs,d::ds,p,⟨a,b,h1,h2,_⟩,j,t',v',ht,hv=> by
   cases j with
   | zero=>
     simp only[List.getElem?_cons_zero,Option.some.injEq] at ht hv;subst ht hv;exact⟨_,_,h1⟩
   | succ j=>
     simp only[List.getElem?_cons_succ] at ht hv;exact trodAll_at h2 j t' v' ht hv
 | _::_,[],_,_,h,_,_,_,_,_=> by cases h
 | _::_,_::_,[],_,h,_,_,_,_,_=> by cases h
end
theorem add_at(ab ao j:Nat):(⟨ab,ao,none⟩:Addr).add j=⟨ab,ao+j,none⟩:=by
 unfold Addr.add;split
 · rename_i h;subst h;rfl
 · rfl
section
variable {H:Type}{enc:TypeId×Value→H}{W:World}
end
end Go.Proofs.YtdnfdeplcjaonaaGreatDoor
namespace Go.Proofs.YtdnfdeplcjaonaaGreatDoor
open Go.RL Go.Proofs.Tryz
set_option maxRecDepth 10000
set_option maxHeartbeats 4000000
def upN(a b:Nat):List Nat:=List.range' a (b+1-a)
theorem upN_nil {a b:Nat}(h:b<a):upN a b= []:=by unfold upN;rw[show b+1-a=0 by omega];rfl
theorem upN_cons {a b:Nat}(h:a≤b):upN a b=a::upN (a+1) b:=by
 unfold upN;rw[show b+1-a=(b+1-(a+1))+1 by omega];rfl
theorem mem_upN {a b x:Nat}:x∈upN a b↔a≤x∧x≤b:=by
 unfold upN;rw[List.mem_range'_1];omega
def canL(a b lo hi:Nat):List (Nat×Nat):=(upN a b).flatMap fun n=> (upN lo hi).map fun d=> (n,d)
def canFrom(n b lo hi d:Nat):List (Nat×Nat):=(upN d hi).map (fun d=> (n,d))++canL (n+1) b lo hi
theorem canL_nil {a b lo hi:Nat}(h:b<a):canL a b lo hi= []:=by unfold canL;rw[upN_nil h];rfl
theorem canL_cons {a b lo hi:Nat}(h:a≤b):canL a b lo hi=canFrom a b lo hi lo:=by unfold canL canFrom;rw[upN_cons h,List.flatMap_cons];rfl
theorem canFrom_cons {n b lo hi d:Nat}(h:d≤hi):canFrom n b lo hi d=(n,d)::canFrom n b lo hi (d+1):=by unfold canFrom;rw[upN_cons h];rfl
theorem canFrom_nil {n b lo hi d:Nat}(h:hi<d):canFrom n b lo hi d=canL (n+1) b lo hi:=by unfold canFrom;rw[upN_nil h];rfl
theorem mem_canL {a b lo hi:Nat}{x:Nat×Nat}:x∈canL a b lo hi↔(a≤x.1∧x.1≤b)∧(lo≤x.2∧x.2≤hi):=by
 unfold canL;simp only[List.mem_flatMap,List.mem_map,mem_upN];constructor
 · rintro⟨n,h1,d,h2,rfl⟩;exact⟨h1,h2⟩
 · rintro⟨h1,h2⟩;exact⟨x.1,h1,x.2,h2,rfl⟩
def canF(b5 b2:Nat):Value:=.func (.func 197) #[] #[.pointer (some ⟨b5,0,none⟩),.pointer (some ⟨b2,0,none⟩)]
structure CapC(v w:Value)(b5 b2:Nat)(H:View):Prop where
 a:∃f,H b5=some (f,.cells ⟨v.cells.toList⟩ 47 (0,0))
 b:∃f,H b2=some (f,.cells ⟨w.cells.toList⟩ 113 (0,0))
theorem CapC.le {v w:Value}{b5 b2:Nat}(H H':View)(h:H.le H')(c:CapC v w b5 b2 H):CapC v w b5 b2 H':=
 ⟨c.a.imp fun _ e=> h _ _ e,c.b.imp fun _ e=> h _ _ e⟩
def Bk.can(k:Bk)(i:Nat):List (Nat×Nat):=canL (k.pf i).toNat (k.pt i).toNat (k.kind (k.qf i)) (k.kind (k.qt i))
section
variable(M:Md prog)(H:View)
theorem can_c(k:Bk)(A:Option Addr)(lc:Nat)(B:Option Addr)(tc:Nat)(hB:TrainsAt H k B tc)(i:Nat)(hi:i<k.nt):
   CallT M 156 #[k.val A lc B tc,.int .i64 (i:Nat)] H (fun v H'=> H.le H'∧∃b5 b2,v=canF b5 b2∧CapC (trainV (k.pf i) (k.pt i) (k.qf i) (k.qt i)) (k.val A lc B tc) b5 b2 H'):=by
 obtain⟨_,h0|⟨tb,to,f,gs,gt,gz,rfl,hb,ht⟩⟩:=hB
 · omega
 have f1:=ht i hi;refine .en func156 ntmps156 fun St c cs hK=> ?_;refine U2 ?_;refine .bo fun b2=> ?_;refine U10 ?_;refine .al fun b5=> ?_;refine U7 ?_;refine .rt hK func156 results156 [_] ?_;exact fun H' hs=> ⟨hs.base,b5,b2,rfl,⟨true,hs.get (i:=0) rfl⟩,⟨true,hs.get (i:=1) rfl⟩⟩
theorem can_it(k:Bk)(A:Option Addr)(lc:Nat)(B:Option Addr)(tc:Nat)(i:Nat)(a b lo hi:Nat)(ha:k.pf i=(a:Nat))(hb:k.pt i=(b:Nat))(hb1:b≤1000)(hlo:k.kind (k.qf i)=lo)(hhi:k.kind (k.qt i)=hi)(hhi2:hi≤2)(b5 b2:Nat)
   (hC:CapC (trainV (k.pf i) (k.pt i) (k.qf i) (k.qt i)) (k.val A lc B tc) b5 b2 H):
   IterT M (canF b5 b2) (canL a b lo hi) (fun x (_:Unit)=> [.int .i64 (x.1:Nat),.int .i64 (x.2:Nat)]) (fun _ _=> []) (fun _ _=> []) (CapC (trainV (k.pf i) (k.pt i) (k.qf i) (k.qt i)) (k.val A lc B tc) b5 b2) [] H:=fun l J D hcap h0 hy H₀ hs₀=> by
 have hk1:=fun(H':View)=> kind_c M H' k A lc B tc (k.qf i);have hk2:=fun(H':View)=> kind_c M H' k A lc B tc (k.qt i);rw[hlo] at hk1;rw[hhi] at hk2;rw[ha,hb] at hC hcap;refine FnT.of (first:= []) (captured:= [_,_]) ca197 rfl ?_;obtain⟨⟨fa,h5⟩,⟨fb,h2⟩⟩:=hC;refine CallT.enter (vs:= [.func (.yield l) #[] #[],.pointer (some ⟨b5,0,none⟩),.pointer (some ⟨b2,0,none⟩)]) func197 rfl ntmps197 (Nat.le_of_ble_eq_true rfl) (hs₀) fun St c cs hK=> ?_;refine U8 ?_;refine Tc.db (Tc.loopB (σ:= { s:Nat×View//a≤s.1∧J (canL s.1 b lo hi) s.2 })
   (fun s=> (s.1.2,[(0,.func (.yield l) #[] #[]),(1,.pointer (some ⟨b5,0,none⟩)),(2,.pointer (some ⟨b2,0,none⟩)),(4,.int .i64 (s.1.1:Nat))],[])) (fun s=> b+1-s.1.1) ?_ ⟨(a,H),Nat.le_refl _,h0⟩)
 rintro⟨⟨n,H₁⟩,g1,j1⟩ ih₁;simp only at g1 j1;show Tc M St _ _ H₁ _ [(0,.func (.yield l) #[] #[]),(1,.pointer (some ⟨b5,0,none⟩)),(2,.pointer (some ⟨b2,0,none⟩)),(4,.int .i64 (n:Nat))] [] _ _;obtain⟨⟨fa,h5⟩,⟨fb,h2⟩⟩:=hcap _ _ j1;by_cases c1:n≤b
 · rw[canL_cons c1] at j1;refine U19 ?_;refine .c rfl rfl rfl rfl (fun H hs=> .h (hk1 H)) ?_;refine U3 ?_;refine Tc.db (Tc.loopB (σ:= { s:Nat×View//lo≤s.1∧J (canFrom n b lo hi s.1) s.2 })
     (fun s=> (s.1.2,[(0,.func (.yield l) #[] #[]),(1,.pointer (some ⟨b5,0,none⟩)),(2,.pointer (some ⟨b2,0,none⟩)),(4,.int .i64 (n:Nat)),(5,.int .i64 (s.1.1:Nat))],[])) (fun s=> hi+1-s.1.1) ?_ ⟨(lo,H₁),Nat.le_refl _,j1⟩)
   rintro⟨⟨d,H₂⟩,g2,j2⟩ ih₂;simp only at g2 j2;show Tc M St _ _ H₂ _ [(0,.func (.yield l) #[] #[]),(1,.pointer (some ⟨b5,0,none⟩)),(2,.pointer (some ⟨b2,0,none⟩)),(4,.int .i64 (n:Nat)),(5,.int .i64 (d:Nat))] [] _ _;obtain⟨⟨fc,h6⟩,⟨fd,h7⟩⟩:=hcap _ _ j2;by_cases c2:d≤hi
   · rw[canFrom_cons c2] at j2;have hmem:(n,d)∈canL a b lo hi:=mem_canL.2 ⟨⟨g1,c1⟩,g2,c2⟩;refine U8 ?_;refine .c rfl rfl rfl rfl (fun H hs=> .h (hk2 H)) ?_;refine U11 ?_;refine To.callF rfl rfl rfl rfl rfl rfl (by decide) (hy (n,d) (canFrom n b lo hi (d+1)) () H₂ H₂ hmem j2 (SymSt.nil H₂)) (fun v H₃ hv=> ?_);rcases hv with ⟨rfl,H4,h8,j3⟩|⟨rfl,hD⟩
     · refine To.lower h8.base ?_;refine U10 ?_;exact Tc.db (ih₂ ⟨(d+1,H4),by simp only;omega,j3⟩ (by simp only;omega))
     · refine U3 ?_;refine .rt hK func197 results197 [] ?_;exact fun H' hs=> ⟨H₃,hs.base,.inr hD⟩
   · have c3:hi<d:=by omega
     rw[canFrom_nil c3] at j2;refine U8 ?_;refine .c rfl rfl rfl rfl (fun H hs=> .h (hk2 H)) ?_;refine U10 ?_;exact Tc.db (ih₁ ⟨(n+1,H₂),by simp only;omega,j2⟩ (by simp only;omega))
 · have c2:b<n:=by omega
   rw[canL_nil c2] at j1;refine U11 ?_;refine .ov hK func197 results197 [] ?_;exact fun H' hs=> ⟨H₁,hs.base,.inl j1⟩
end
end Go.Proofs.YtdnfdeplcjaonaaGreatDoor
namespace Go.RL
open Go.Conc
structure MapOk(es:Array MapEntry)(cl:Nat)(F:Value→Value→Prop):Prop where
 keys:(es.toList.map (·.key)).Nodup
 borns:(es.toList.map (·.born)).Nodup
 lt:∀e∈es.toList,e.born<cl
 mem:∀k v,F k v↔∃e∈es.toList,e.key=k∧e.val=v
theorem MapOk.nil:MapOk #[] 0 fun _ _=> False:=⟨by simp,by simp,by simp,by simp⟩
theorem MapOk.congr {es:Array MapEntry}{cl:Nat}{F F':Value→Value→Prop}(h:MapOk es cl F)(k:∀a b,F' a b↔F a b):MapOk es cl F':=⟨h.keys,h.borns,h.lt,fun a b=> (k a b).trans (h.mem a b)⟩
theorem MapOk.find {es:Array MapEntry}{cl:Nat}{F:Value→Value→Prop}(h:MapOk es cl F){k:Value}{r:Option (Nat×Value)}(hr:FindOk es.toList k r):match r with
   | some (_,v)=> F k v
   | none=> ∀v,¬F k v:=by
 cases r with
 | none=>
   intro v hv;obtain⟨e,he,h1,_⟩:=(h.mem k v).1 hv;exact hr e he h1
 | some p=>
   obtain⟨i,v⟩:=p;obtain⟨e,h1,h2,h3⟩:=hr;exact(h.mem k v).2 ⟨e,List.mem_of_getElem? h1,h2,h3⟩
theorem MapOk.put {es:Array MapEntry}{cl:Nat}{F:Value→Value→Prop}(h:MapOk es cl F){k:Value}(v:Value){r:Option (Nat×Value)}(hr:FindOk es.toList k r):
   ∃es' cl',mapPut es cl k v r=.map es' cl'∧MapOk es' cl' fun k' v'=> (k'=k∧v'=v)∨(k'≠k∧F k' v'):=by
 cases r with
 | none=>
   refine⟨_,_,rfl,?_,?_,?_,?_⟩
   · simp only[Array.toList_push,List.map_append,List.map_cons,List.map_nil];rw[List.nodup_append];refine⟨h.keys,by simp,fun a ha b hb=> ?_⟩;simp only[List.mem_singleton] at hb;subst hb;obtain⟨e,he,rfl⟩:=List.mem_map.1 ha;exact hr e he
   · simp only[Array.toList_push,List.map_append,List.map_cons,List.map_nil];rw[List.nodup_append];refine⟨h.borns,by simp,fun a ha b hb=> ?_⟩;simp only[List.mem_singleton] at hb;subst hb;obtain⟨e,he,rfl⟩:=List.mem_map.1 ha;have:=h.lt e he;omega
   · intro e he;simp only[Array.toList_push,List.mem_append,List.mem_singleton] at he;rcases he with he|rfl
     · have:=h.lt e he;omega
     · simp
   · intro k' v';simp only[Array.toList_push,List.mem_append,List.mem_singleton];constructor
     · rintro(⟨rfl,rfl⟩|⟨_,hf⟩)
       · exact⟨_,.inr rfl,rfl,rfl⟩
       · obtain⟨e,he,h1,h2⟩:=(h.mem k' v').1 hf;exact⟨e,.inl he,h1,h2⟩
     · rintro⟨e,he|rfl,h1,h2⟩
       · exact .inr ⟨fun e'=> hr e he (h1.trans e'),(h.mem k' v').2 ⟨e,he,h1,h2⟩⟩
       · exact .inl ⟨h1.symm,h2.symm⟩
 | some p=>
   obtain⟨i,u⟩:=p;obtain⟨e,h1,h2,h3⟩:=hr;have hi:=(List.getElem?_eq_some_iff.1 h1).1;have he:es.toList[i]=e:=(List.getElem?_eq_some_iff.1 h1).2;have hes:es.toList=es.toList.take i++e::es.toList.drop (i+1):=by
     rw[←he,←List.drop_eq_getElem_cons hi,List.take_append_drop]
   have hml:(es.modify i fun e=> { e with key:=k,val:=v }).toList=es.toList.take i++{ e with key:=k,val:=v }::es.toList.drop (i+1):=by
     rw[Array.toList_modify,List.modify_eq_take_cons_drop hi,he]
   have hk:=h.keys;rw[hes,List.map_append,List.map_cons] at hk;refine⟨_,_,rfl,?_,?_,?_,?_⟩
   · rw[hml,List.map_append,List.map_cons];rw[h2] at hk;exact hk
   · have hb:=h.borns;rw[hes,List.map_append,List.map_cons] at hb;rw[hml,List.map_append,List.map_cons];exact hb
   · intro x hx;rw[hml] at hx;rcases List.mem_append.1 hx with hx|hx
     · exact h.lt x (by rw[hes];exact List.mem_append_left _ hx)
     · rcases List.mem_cons.1 hx with rfl|hx
       · exact h.lt e (by rw[hes];simp)
       · exact h.lt x (by rw[hes];exact List.mem_append_right _ (List.mem_cons_of_mem _ hx))
   · intro k' v';rw[hml];rw[List.nodup_append,List.nodup_cons] at hk;obtain⟨_,⟨hk1,_⟩,hk2⟩:=hk;constructor
     · rintro(⟨rfl,rfl⟩|⟨hne,hf⟩)
       · exact⟨_,List.mem_append_right _ (List.mem_cons_self ..),rfl,rfl⟩
       · obtain⟨x,hx,g1,g2⟩:=(h.mem k' v').1 hf;rw[hes] at hx;rcases List.mem_append.1 hx with hx|hx
         · exact⟨x,List.mem_append_left _ hx,g1,g2⟩
         · rcases List.mem_cons.1 hx with rfl|hx
           · exact absurd (g1.symm.trans h2) hne
           · exact⟨x,List.mem_append_right _ (List.mem_cons_of_mem _ hx),g1,g2⟩
     · rintro⟨x,hx,g1,g2⟩;rcases List.mem_append.1 hx with hx|hx
       · refine .inr ⟨fun e'=> hk2 _ (List.mem_map_of_mem hx) _ (List.mem_cons_self ..) (g1.trans (e'.trans h2.symm)),(h.mem k' v').2 ⟨x,by rw[hes];exact List.mem_append_left _ hx,g1,g2⟩⟩
       · rcases List.mem_cons.1 hx with rfl|hx
         · exact .inl ⟨g1.symm,g2.symm⟩
         · refine .inr ⟨fun e'=> hk1 ?_,(h.mem k' v').2 ⟨x,by rw[hes];exact List.mem_append_right _ (List.mem_cons_of_mem _ hx),g1,g2⟩⟩;have:=List.mem_map_of_mem (f:=(·.key)) hx;rw[g1,e',←h2] at this;exact this
def unseen(es:Array MapEntry)(seen:Array Nat):List MapEntry:=es.toList.filter fun e=> !seen.contains e.born
theorem unseen_start(es:Array MapEntry):unseen es #[]=es.toList:=by simp[unseen]
theorem unseen_done {es:Array MapEntry}{seen:Array Nat}(h:∀e∈es.toList,seen.contains e.born=true):unseen es seen= []:=by
 unfold unseen;rw[List.filter_eq_nil_iff];intro e he;rw[h e he];simp
theorem unseen_next {es:Array MapEntry}{seen:Array Nat}{e:MapEntry}(hn:(es.toList.map (·.born)).Nodup)(he:e∈es.toList)(hs:seen.contains e.born=false):(unseen es seen).Perm (e::unseen es (seen.push e.born)):=by
 have hme:e∈unseen es seen:=by
   unfold unseen;rw[List.mem_filter];exact⟨he,by rw[hs];rfl⟩
 obtain⟨A,B,hAB⟩:=List.append_of_mem he;have hb:=hn;rw[hAB,List.map_append,List.map_cons,List.nodup_append,List.nodup_cons] at hb;obtain⟨_,⟨h1,_⟩,h2⟩:=hb;have other:∀x:MapEntry,x.born≠e.born→(!(seen.push e.born).contains x.born)=!seen.contains x.born:=fun x hx=> by
   rw[Array.contains_push];have:(x.born==e.born)=false:=by simpa using hx
   simp[this]
 have hA:A.filter (fun x=> !(seen.push e.born).contains x.born)=A.filter fun x=> !seen.contains x.born:=List.filter_congr fun x hx=> other x fun e'=> h2 _ (List.mem_map_of_mem hx) _ (List.mem_cons_self ..) e';have hB:B.filter (fun x=> !(seen.push e.born).contains x.born)=B.filter fun x=> !seen.contains x.born:=List.filter_congr fun x hx=> other x fun e'=> h1 (by
   have:=List.mem_map_of_mem (f:=(·.born)) hx;rw[e'] at this;exact this)
 unfold unseen;rw[hAB,List.filter_append,List.filter_append,List.filter_cons_of_pos (by rw[hs];rfl),List.filter_cons_of_neg (by simp),hA,hB];exact List.perm_middle
end Go.RL
namespace Go.Proofs.YtdnfdeplcjaonaaGreatDoor
open Go.RL Go.Proofs.Tryz
set_option maxRecDepth 10000
theorem ear_flat(s:List UInt8)(m:Int)(d:Bool):flat en 2 117 [strV s,.int .i64 m,.bool d]:=by
 refine⟨rfl,?_⟩;intro f hf;simp only[List.mem_cons,List.not_mem_nil,or_false] at hf;rcases hf with rfl|rfl|rfl
 · exact⟨⟨_,rfl⟩,_,rfl,rfl,Nat.le_of_ble_eq_true rfl⟩
 · exact⟨⟨_,rfl⟩,_,rfl,rfl,Nat.le_of_ble_eq_true rfl⟩
 · exact⟨⟨_,rfl⟩,_,rfl,rfl,Nat.le_of_ble_eq_true rfl⟩
theorem ear_key(e:Ear):KeyFl en 2 117 e.val:=⟨_,[strV e.heard,.int .i64 (e.pend:Nat),.bool e.deaf],rfl,rfl,ear_flat _ _ _⟩
theorem ear_inj {e e':Ear}(h:e.val=e'.val):e=e':=by
 obtain⟨s,m,d⟩:=e;obtain⟨s',m',d'⟩:=e';unfold Ear.val earV at h;simp only[Value.agg.injEq,Array.mk.injEq,List.cons.injEq,Value.string.injEq,ByteArray.mk.injEq,Value.int.injEq,Value.bool.injEq,and_true,true_and] at h;obtain⟨h1,h2,h3⟩:=h;subst h1;subst h3;simp only[Ear.mk.injEq,and_true,true_and];omega
def Bk.earsS(k:Bk):Nat→Ear→Prop
 | 0,e=> e=⟨[],0,false⟩
 | i+1,e=> ∃e0,k.earsS i e0∧∃x∈k.can i,e=e0.hear x.1 x.2
def earF(S:Ear→Prop)(kv v:Value):Prop:=∃e,S e∧kv=e.val∧v=.bool true
def Bk.trainsOk(k:Bk):Prop:=∀i,i<k.nt→trainOk (k.pf i) (k.pt i) (k.qf i) (k.qt i)=true
theorem Bk.train_in {k:Bk}(h:k.trainsOk){i:Nat}(hi:i<k.nt):(1≤k.pf i∧k.pf i≤k.pt i∧k.pt i≤12)∧k.pt i-k.pf i<4∧(0≤k.qf i∧k.qf i≤k.qt i∧k.qt i≤99):=by
 have:=h i hi;unfold trainOk at this;simp only[Bool.and_eq_true,decide_eq_true_eq] at this;exact⟨this.1.1,this.1.2,this.2⟩
theorem Bk.kind_le(k:Bk)(p:Int):k.kind p≤2:=by
 unfold Bk.kind;split
 · omega
 · split <;> omega
theorem Bk.can_in {k:Bk}(h:k.trainsOk){i:Nat}(hi:i<k.nt){x:Nat×Nat}(hx:x∈k.can i):x.1≤12∧x.2≤2:=by
 have h1:=k.train_in h hi;have h2:=mem_canL.1 hx;have h3:=k.kind_le (k.qt i);omega
theorem Ear.hear_bd {e:Ear}{p kd a b:Nat}(h1:e.heard.length≤a)(h2:e.pend≤b)(h3:p≤12):(e.hear p kd).heard.length≤a+1∧(e.hear p kd).pend≤b+12:=by
 unfold Ear.hear;split
 · omega
 · split
   · simp only;omega
   · split
     · simp only;omega
     · simp only[List.length_append,List.length_cons,List.length_nil];omega
theorem Bk.ears_bd {k:Bk}(h:k.trainsOk):∀ {i:Nat} {e:Ear},i≤k.nt→k.earsS i e→e.heard.length≤i∧e.pend≤12*i
 | 0,e,_,he=> by
   have:e=⟨[],0,false⟩:=he;subst this;exact⟨Nat.le_refl _,Nat.le_refl _⟩
 | i+1,e,hi,⟨e0,h0,x,hx,he⟩=> by
   have h1:=Bk.ears_bd h (i:=i) (by omega) h0;have h2:=Bk.can_in h (i:=i) (by omega) hx;subst he;have:=Ear.hear_bd (kd:=x.2) h1.1 h1.2 h2.1;omega
theorem earF_one(e:Ear){S:Ear→Prop}(hS:∀x,S x↔x=e)(kv v:Value):earF S kv v↔(kv=e.val∧v=.bool true)∨(kv≠e.val∧False):=by
 constructor
 · rintro⟨x,h1,h2,h3⟩;rw[(hS x).1 h1] at h2;exact .inl ⟨h2,h3⟩
 · rintro(⟨h1,h2⟩|⟨_,h⟩)
   · exact⟨e,(hS e).2 rfl,h1,h2⟩
   · exact h.elim
theorem earF_put(e:Ear)(S:Ear→Prop)(kv v:Value):earF (fun x=> x=e∨S x) kv v↔(kv=e.val∧v=.bool true)∨(kv≠e.val∧earF S kv v):=by
 constructor
 · rintro⟨x,h1,h2,h3⟩;by_cases hx:x=e
   · subst hx;exact .inl ⟨h2,h3⟩
   · exact .inr ⟨fun h=> hx (ear_inj (h2.symm.trans h)),x,h1.resolve_left hx,h2,h3⟩
 · rintro(⟨h1,h2⟩|⟨_,x,h1,h2,h3⟩)
   · exact⟨e,.inl rfl,h1,h2⟩
   · exact⟨x,.inr h1,h2,h3⟩
theorem earF_keys {es:Array MapEntry}{cl:Nat}{S:Ear→Prop}(h:MapOk es cl (earF S)):∀e∈es.toList,∃x,S x∧e.key=x.val∧e.val=.bool true:=fun e he=>
 (h.mem e.key e.val).2 ⟨e,he,rfl,rfl⟩
theorem earF_flat {es:Array MapEntry}{cl:Nat}{S:Ear→Prop}(h:MapOk es cl (earF S)):∀e∈es.toList,KeyFl en 2 117 e.key:=fun e he=> by
 obtain⟨x,_,h2,_⟩:=earF_keys h e he;rw[h2];exact ear_key x
theorem earF_find {es:Array MapEntry}{cl:Nat}{S:Ear→Prop}(h:MapOk es cl (earF S)){e:MapEntry}(he:e∈es.toList):es.find? (fun x=> x.born==e.born)=some e:=by
 rw[←Array.find?_toList];cases hf:es.toList.find? (fun x=> x.born==e.born) with
 | none=> have:=List.find?_eq_none.1 hf e he;simp at this
 | some e'=>
   have h3:=List.mem_of_find?_eq_some hf;have h4:=List.find?_some hf;simp only[beq_iff_eq] at h4;obtain⟨i,hi,rfl⟩:=List.mem_iff_getElem.1 h3;obtain⟨j,hj,rfl⟩:=List.mem_iff_getElem.1 he;have hb:=h.borns;have hi':i<(es.toList.map (·.born)).length:=by rw[List.length_map];exact hi
   have hj':j<(es.toList.map (·.born)).length:=by rw[List.length_map];exact hj
   have:(es.toList.map (·.born))[i]=(es.toList.map (·.born))[j]:=by rw[List.getElem_map,List.getElem_map];exact h4
   have:=(List.getElem_inj hb).1 this;subst this;rfl
end Go.Proofs.YtdnfdeplcjaonaaGreatDoor
namespace Go.RL
open Go.Conc
def Mk(rs:List Nat):Bl:=rs.map fun r=> (r,true,.deferred (some []))
def marks(rs:List Nat):List Deferred:=rs.map markOf
section
variable {P:Program}{E:Env P}{M:Md P}{St:View→Goroutine→Prop}{n:Nat}{b:FB}{H₀:View}{cs:List Frame}{R:Rg}{L L₁:Bl}{ds:List Deferred}{k:List Item}
theorem Tc.permL(p:L₁.Perm L)(h:Tc M St n b H₀ cs R L₁ ds k):Tc M St n b H₀ cs R L ds k:=fun H tmps hs hr=> h H tmps (hs.perm p) hr
theorem Tc.marked {r:Nat}{rs:List Nat}(h:Tc M St n b H₀ cs R (L++Mk (r::rs)) (marks (r::rs)) k):Tc M St n b H₀ cs R ((r,true,.deferred (some []))::(L++Mk rs)) (markOf r::marks rs) k:=
 Tc.permL (L₁:=L++Mk (r::rs)) (List.perm_middle (l₁:=L) (l₂:=Mk rs)) h
theorem Tc.loopBD {σ:Type}(I:σ→View×Rg×Bl×List Deferred)(μ:σ→Nat){body:Code}
   (step:∀s,(∀s',μ s'<μ s→Tc M St n b (I s').1 cs (I s').2.1 (I s').2.2.1 (I s').2.2.2 (.inLoop body::k))→Tc M St n b (I s).1 cs (I s).2.1 (I s).2.2.1 (I s).2.2.2 (.code body:: .inLoop body::k)) (s₀:σ):
   Tc M St n b (I s₀).1 cs (I s₀).2.1 (I s₀).2.2.1 (I s₀).2.2.2 (.code (.loop body)::k):=by
 have key:∀(m:Nat) (s:σ),μ s≤m→Tc M St n b (I s).1 cs (I s).2.1 (I s).2.2.1 (I s).2.2.2 (.code body:: .inLoop body::k):=by
   intro m;induction m with
   | zero=> exact fun s hs=> step s fun s' hlt=> by omega
   | succ m ih=> exact fun s hs=> step s fun s' hlt=> .inLoop (ih s' (by omega))
 exact .loop (key _ s₀ (Nat.le_refl _))
theorem marks_back {fn:Func}{c:Frame}{Q:Value→View→Prop}{f:FuncId}{rv:List ResultVar}{vs:List Value}{todo:List Item}{tmps:Array Value}(hK:∀v H',Q v H'→T M St H' (G (c.finish v) cs))(hf:P.funcs[f]? =some fn)(hrs:fn.results=rv.toArray)
   (ho:ResOk E R L rv vs) (hr:RegOk n R tmps) (h:∀H',SymSt H₀ L H'→Q (packV vs) H'):∀(rs:List Nat) (H:View),SymSt H₀ (L++Mk rs) H→T M St H (G ((⟨f,.normal,none⟩:FB).back tmps (marks rs) todo) (c::cs))
 | [],H,hs=> by
   have hs':SymSt H₀ L H:=by
     have:=hs;unfold Mk at this
     rwa [List.map_nil,List.append_nil] at this
   exact .leave hf rfl (vwp_mono _ hK (vwp_results hs' hr hrs ho (h _ hs')))
 | r ::rs,H,hs=> by
   have hi:(L++Mk (r::rs))[L.length]? =some (r,true,.deferred (some [])):=by
     rw[List.getElem?_append_right (Nat.le_refl _),Nat.sub_self];rfl
   have hd:=hs.get hi;refine .collect ?_;refine⟨true,_,hd,by simp,rfl,?_⟩;refine⟨⟨_,hd,by simp⟩,rfl,?_⟩;have hs':=hs.set hi (true,.deferred none);refine marks_back hK hf hrs ho hr h rs _ (hs'.less ?_);rw[List.set_append_right _ _ (Nat.le_refl _),Nat.sub_self];exact List.Sublist.append (List.Sublist.refl _) (List.sublist_cons_self _ _)
theorem Tc.retDs {rs:List Nat}{fn:Func}{c:Frame}{Q:Value→View→Prop}{f:FuncId}{rv:List ResultVar}{vs:List Value}(hK:∀v H',Q v H'→T M St H' (G (c.finish v) cs))(hf:P.funcs[f]? =some fn)(hrs:fn.results=rv.toArray)
   (ho:ResOk E R L rv vs) (h:∀H',SymSt H₀ L H'→Q (packV vs) H'):Tc M St n ⟨f,.normal,none⟩ H₀ (c::cs) R (L++Mk rs) (marks rs) (.code .ret::k):=
 fun H _ hs hr=> .retCode rfl (marks_back hK hf hrs ho hr h rs H hs)
end
section
variable {P:Program}{M:Md P}{St:View→Goroutine→Prop}{n:Nat}{b:FB}{H₀:View}{cs:List Frame}{R:Rg}{L:Bl}{ds:List Deferred}{k:List Item}{ops:Array Oper}
theorem Tc.drT {id:Nat}{fuel:Nat}(B C E:List Nat)(m:Nat)(hm:P.follows .mixedOrders=true)(hf:ops.size=fuel)(h:Ta M St n b H₀ cs (S3 H₀ B C (eraseL (L.take m) E) L) .any ops fuel (Array.replicate fuel false) R L ds k):
   Tc M St n b H₀ cs R L ds (.code (.region id ops true)::k):=fun H tmps hs hr=> by
 subst hf;refine .region_draw fun t=> ?_;simp only[Region.schedule,hm,Bool.true_or,if_true];have hS:=S3.mk (H₀:=H₀) (B:=B) (C:=C) (listed:=Array.replicate ops.size false) ((eraseL_sub E (L.take m)).trans (List.take_sublist m L)) (.inr (List.Sublist.refl L)) H hs;exact(h H tmps hs hr hS).sound _ t _ _ _ hS
end
end Go.RL
namespace Go.Proofs.YtdnfdeplcjaonaaGreatDoor
open Go.RL Go.Proofs.Tryz
set_option maxRecDepth 10000
set_option maxHeartbeats 16000000
section
variable(M:Md prog)(H:View)
theorem ears_c (k:Bk)(A:Option Addr)(lc:Nat)(B:Option Addr)(tc:Nat)(hB:TrainsAt H k B tc)(ht:k.trainsOk)(h6:k.nt≤6)(n:Nat)(hn:n≤k.nt):
   CallT M 90 #[k.val A lc B tc,.int .i64 (n:Nat)] H (fun v H'=> H.le H'∧∃m es cl,v=.map (some m)∧(∃f,H' m=some (f,.map es cl))∧MapOk es cl (earF (k.earsS n))):=by
 refine .en func90 ntmps90 fun St c cs hK=> ?_;refine U2 ?_;refine .bo fun b2=> ?_;refine U4 ?_;refine .e (Or.makeMap rfl rfl (by decide) (fun m0=> ?_));refine U ?_;refine .e (Or.insert (E:=en) 0 2 rfl rfl rfl rfl rfl rfl rfl (by decide) (ear_key ⟨[],0,false⟩) (by simp) rfl (fun r hr=> ?_));obtain⟨es1,cl1,e1,hm1⟩:=MapOk.nil.put (.bool true) hr;rw[e1];refine U3 ?_;have hm1':MapOk es1 cl1 (earF (k.earsS 0)):=hm1.congr (earF_one ⟨[],0,false⟩ (fun x=> Iff.rfl));refine Tc.permL (L₁:= [(b2,true,.cells ⟨(k.val A lc B tc).cells.toList⟩ 113 (0,0)),(m0,true,.map es1 cl1)]) (List.Perm.swap ..) ?_;refine Tc.lift (L₂:= [(b2,true,.cells ⟨(k.val A lc B tc).cells.toList⟩ 113 (0,0))]) (L₁:= [(m0,true,.map es1 cl1)]) rfl (fun Hx hx=> ?_);have hle0:=hx.base;have hmap0:Hx m0=some (true,.map es1 cl1):=hx.get (i:=0) rfl;clear hx;refine U7 ?_;refine Tc.db (Tc.loopBD (σ:= { s:View×Nat×Nat×Array MapEntry×Nat×List Nat//H.le s.1∧s.2.1≤n∧(∃f,s.1 s.2.2.1=some (f,.map s.2.2.2.1 s.2.2.2.2.1))∧MapOk s.2.2.2.1 s.2.2.2.2.1 (earF (k.earsS s.2.1)) })
   (fun s=> (s.1.1,[(2,.pointer (some ⟨b2,0,none⟩)),(5,.map (some s.1.2.2.1)),(14,.int .i64 (n:Nat)),(15,.int .i64 (s.1.2.1:Nat))],[(b2,true,.cells ⟨(k.val A lc B tc).cells.toList⟩ 113 (0,0))]++Mk s.1.2.2.2.2.2,marks s.1.2.2.2.2.2)) (fun s=> n-s.1.2.1) ?_ ⟨(Hx,0,m0,es1,cl1,[]),hle0,Nat.zero_le _,⟨true,hmap0⟩,hm1'⟩)
 rintro⟨⟨H₁,i,m,es,cl,rs⟩,g1,g2,⟨fm,g3⟩,g4⟩ ih₁;simp only at g1 g2 g3 g4;show Tc M St _ _ H₁ _ [(2,.pointer (some ⟨b2,0,none⟩)),(5,.map (some m)),(14,.int .i64 (n:Nat)),(15,.int .i64 (i:Nat))] ([(b2,true,.cells ⟨(k.val A lc B tc).cells.toList⟩ 113 (0,0))]++Mk rs) (marks rs) _;by_cases c1:i=n
 · subst c1;refine U12 ?_;refine Tc.retDs (E:=en) (L:= [(b2,true,.cells ⟨(k.val A lc B tc).cells.toList⟩ 113 (0,0))]) (rs:=rs) hK func90 results90 (vs:= [_]) ⟨rfl,trivial⟩ ?_;exact fun H' hs=> ⟨View.le_trans g1 hs.base,m,es,cl,rfl,⟨fm,hs.base _ _ g3⟩,g4⟩
 · have c2 : i < k.nt:=by omega
   obtain⟨t1,t2,t3⟩:=k.train_in ht c2;refine U16 ?_;refine .e (Or.makeMap rfl rfl (by decide) (fun mo=> ?_));refine .al fun b7=> ?_;refine U6 ?_;refine .e (Or.range (E:=en) (es:=es) (cl:=cl) rfl rfl (fun H hs=> ⟨fm,hs.base _ _ g3⟩) rfl rfl rfl (by decide) (fun it=> ?_));refine U2 ?_;refine Tc.db (Tc.loopBD (σ:= { s:View×Array Nat×Array MapEntry×Nat×List Nat//H₁.le s.1∧∃S:Ear→Prop,MapOk s.2.2.1 s.2.2.2.1 (earF S)∧∀e,k.earsS (i+1) e↔(S e∨∃me∈unseen es s.2.1,∃e0:Ear,me.key=e0.val∧∃x∈k.can i,e=e0.hear x.1 x.2) })
     (fun s=> (s.1.1,[(2,.pointer (some ⟨b2,0,none⟩)),(6,.int .i64 (i:Nat)),(7,.pointer (some ⟨b7,0,none⟩)),(14,.int .i64 (n:Nat)),(15,.int .i64 (i:Nat)),(20,.pointer (some ⟨it,0,none⟩))],[(it,true,.mapIter (some m) cl s.1.2.1 cl),(b7,true,.cells ⟨[.map (some mo)]⟩ 128 (0,0)),(mo,true,.map s.1.2.2.1 s.1.2.2.2.1),(b2,true,.cells ⟨(k.val A lc B tc).cells.toList⟩ 113 (0,0))]++Mk s.1.2.2.2.2,marks s.1.2.2.2.2)) (fun s=> (unseen es s.1.2.1).length) ?_ ⟨(H₁,#[],#[],0,rs),View.le_refl _,fun _=> False,MapOk.nil.congr (by rintro a b;simp[earF]),fun e=> by
       rw[unseen_start];constructor
       · rintro⟨e0,h0,x,hx,rfl⟩;obtain⟨me,h1,h2,_⟩:=(g4.mem e0.val (.bool true)).1 ⟨e0,h0,rfl,rfl⟩;exact .inr ⟨me,h1,e0,h2,x,hx,rfl⟩
       · rintro(h|⟨me,h1,e0,h2,x,hx,rfl⟩)
         · exact h.elim
         · obtain⟨y,h3,h4,_⟩:=earF_keys g4 me h1;rw[ear_inj (h2.symm.trans h4)];exact⟨y,h3,x,hx,rfl⟩⟩)
   rintro⟨⟨H₂,seen,es2,cl2,rs2⟩,p1,S,p2,p3⟩ ih₂;simp only at p1 p2 p3;show Tc M St _ _ H₂ _ [(2,.pointer (some ⟨b2,0,none⟩)),(6,.int .i64 (i:Nat)),(7,.pointer (some ⟨b7,0,none⟩)),(14,.int .i64 (n:Nat)),(15,.int .i64 (i:Nat)),(20,.pointer (some ⟨it,0,none⟩))] ([(it,true,.mapIter (some m) cl seen cl),(b7,true,.cells ⟨[.map (some mo)]⟩ 128 (0,0)),(mo,true,.map es2 cl2),(b2,true,.cells ⟨(k.val A lc B tc).cells.toList⟩ 113 (0,0))]++Mk rs2) (marks rs2) _;have g3':=p1 _ _ g3;refine U2 ?_;refine .e (Or.next (es:=es) 0 rfl rfl rfl (fun H hs=> ⟨fm,hs.base _ _ g3'⟩) g4.lt rfl (by decide) (fun me he hse=> ?_) (fun hall=> ?_))
   · have hp :=unseen_next g4.borns he hse;obtain⟨e0,u1,u2,_⟩:=earF_keys g4 me he;have hfind:=earF_find g4 he;have hbd:=k.ears_bd ht (by omega) u1;refine U8 ?_;refine .e (Or.entry (es:=es) (e:=me) (st:=me.born) rfl rfl (fun H hs=> ⟨true,hs.get (i:=0) rfl⟩) (fun H hs=> ⟨fm,hs.base _ _ g3'⟩) (by simp) hfind rfl (by decide) ?_);rw[u2];refine U ?_;refine .al fun b8=> ?_;refine U6 ?_;refine To.callF rfl rfl rfl rfl rfl rfl (by decide) (FnT.h (can_c M H₂ k A lc B tc (hB.le (View.le_trans g1 p1)) i c2)) (fun v H₃ hv=> ?_);obtain⟨hle3,b5,b2',rfl,hcap⟩:=hv;refine U ?_;have hit:=fun(H':View) (hc:CapC (trainV (k.pf i) (k.pt i) (k.qf i) (k.qt i)) (k.val A lc B tc) b5 b2' H')=> can_it M H' k A lc B tc i (k.pf i).toNat (k.pt i).toNat _ _ (by omega) (by omega) (by omega) rfl rfl (k.kind_le _) b5 b2' hc;refine U ?_;refine Tc.rangeL (A:= []) (ts:= [28,29]) (xs:=k.can i) (fun rest H₄ L₄=> ∃es3 cl3,∃S3:Ear→Prop,L₄= [(b8,true,.cells ⟨e0.val.cells.toList⟩ 117 (0,0)),(it,true,.mapIter (some m) cl (seen.push me.born) cl),(b7,true,.cells ⟨[.map (some mo)]⟩ 128 (0,0)),(mo,true,.map es3 cl3),(b2,true,.cells ⟨(k.val A lc B tc).cells.toList⟩ 113 (0,0))]++Mk rs2
         ∧MapOk es3 cl3 (earF S3)∧(∀e,(S e∨∃x∈k.can i,e=e0.hear x.1 x.2)↔(S3 e∨∃x∈rest,e=e0.hear x.1 x.2))∧CapC (trainV (k.pf i) (k.pt i) (k.qf i) (k.qt i)) (k.val A lc B tc) b5 b2' H₄∧H₃.le H₄) (fun _ _ _=> False) rfl rfl rfl rfl hit (fun _ _=> CapC.le _ _) (fun _ _ _ ⟨_,_,_,_,_,_,h,_⟩=> h) rfl (fun _ _=> rfl)
         ⟨es2,cl2,S,rfl,p2,fun _=> Iff.rfl,hcap,View.le_refl _⟩ ?_ ?_ (fun _ _ _ _ h=> h.elim)
     · rintro r x rest _ l tmps asg bdy H₄ _ hx ⟨es3,cl3,S3,rfl,q2,q3,q4,q5⟩ Q St1 cc1 cs1 hK1 q q';have hxin:=k.can_in ht c2 hx;refine U7 ?_;refine Tc.beginRound (i:=0) rfl rfl rfl ?_;refine U ?_;refine Tc.dr [5] [5] mixed rfl ?_;refine .nn 0 ?_;refine .nn 1 ?_;refine .nn 2 ?_;refine .nn 3 ?_;refine .z 4 rfl (OpV.takeCall rfl rfl rfl rfl (fun H hs=> .h (hear_c M H e0 x.1 x.2 (by omega) (by omega) (by omega) (by omega)))) ?_;refine Ta.each [5] (by kernel_rfl) rfl ⟨TaOp.mk rfl rfl rfl (Or.mapUpdate (E:=en) 5 2 rfl rfl rfl rfl rfl rfl rfl (by decide) (ear_key _) (earF_flat q2) rfl (fun r hr=> ⟨S2.mk (by apply List.Sublist.cons_cons;apply List.Sublist.cons_cons;apply List.Sublist.cons_cons;apply List.Sublist.cons_cons;apply List.Sublist.cons_cons;apply List.Sublist.cons;exact List.Sublist.refl _) (.inl (by kernel_rfl)),?_⟩)),trivial⟩;refine .dn ?_;obtain⟨es4,cl4,e4,q6⟩:=q2.put (.bool true) hr;rw[e4];refine U ?_;refine Tc.leaveRound hK1 (i:=0) rfl (.inl ⟨rfl,rfl⟩) (fun H' hs=> q H' H₄ _ hs ⟨es4,cl4,fun y=> y=e0.hear x.1 x.2∨S3 y,rfl,q6.congr (earF_put _ _),fun e=> ?_,q4,q5⟩);rw[q3 e];constructor
       · rintro(h|⟨y,h1,h2⟩)
         · exact .inl (.inr h)
         · rcases List.mem_cons.1 h1 with rfl|h3
           · exact .inl (.inl h2)
           · exact .inr ⟨y,h3,h2⟩
       · rintro((h|h)|⟨y,h1,h2⟩)
         · exact .inr ⟨x,List.mem_cons_self ..,h⟩
         · exact .inl h
         · exact .inr ⟨y,List.mem_cons_of_mem _ h1,h2⟩
     · rintro r H₄ _ ⟨es3,cl3,S3,rfl,q2,q3,q4,q5⟩;refine Tc.marked ?_;refine U2 ?_;have hfin:=ih₂ ⟨(H₄,seen.push me.born,es3,cl3,r::rs2),View.le_trans p1 (View.le_trans hle3 q5),S3,q2,fun e=> ?_⟩ (by simp only;rw[hp.length_eq];simp)
       · exact Tc.db hfin
       · have h3:=q3 e;simp only[List.not_mem_nil,false_and,exists_false,or_false] at h3;rw[p3 e,←h3];constructor
         · rintro(h|⟨me',h1,e0',h2,y,h4,h5⟩)
           · exact .inl (.inl h)
           · rcases List.mem_cons.1 (hp.mem_iff.1 h1) with rfl|h6
             · rw[ear_inj (h2.symm.trans u2)] at h5;exact .inl (.inr ⟨y,h4,h5⟩)
             · exact .inr ⟨me',h6,e0',h2,y,h4,h5⟩
         · rintro((h|⟨y,h4,h5⟩)|⟨me',h6,h7⟩)
           · exact .inl h
           · exact .inr ⟨me,hp.mem_iff.2 (List.mem_cons_self ..),e0,u2,y,h4,h5⟩
           · exact .inr ⟨me',hp.mem_iff.2 (List.mem_cons_of_mem _ h6),h7⟩
   · have hnil:=unseen_done hall;rw[hnil] at p3;refine U14 ?_;refine Tc.db (R':= [(2,.pointer (some ⟨b2,0,none⟩)),(5,.map (some mo)),(14,.int .i64 (n:Nat)),(15,.int .i64 ((i+1:Nat):Int))]) (L':= [(mo,true,.map es2 cl2)]++([(b2,true,.cells ⟨(k.val A lc B tc).cells.toList⟩ 113 (0,0))]++Mk rs2)) ?_;refine Tc.permL (L₁:=([(b2,true,.cells ⟨(k.val A lc B tc).cells.toList⟩ 113 (0,0))]++Mk rs2)++[(mo,true,.map es2 cl2)]) List.perm_append_comm ?_;refine Tc.lift (L₂:= [(b2,true,.cells ⟨(k.val A lc B tc).cells.toList⟩ 113 (0,0))]++Mk rs2) (L₁:= [(mo,true,.map es2 cl2)]) rfl (fun Hy hy=> ?_);have hfin:=ih₁ ⟨(Hy,i+1,mo,es2,cl2,rs2),View.le_trans g1 (View.le_trans p1 hy.base),by simp only;omega,⟨true,hy.get (i:=0) rfl⟩,p2.congr fun kv v=> ?_⟩ (by simp only;omega)
     · exact Tc.db hfin
     · simp only[List.not_mem_nil,false_and,exists_false,or_false] at p3;unfold earF;simp only[p3]
end
def resF(S:Int→Prop)(kv v:Value):Prop:=∃z,S z∧kv=.int .i64 z∧v=.bool true
theorem int_key(z:Int):KeyFl en 1 3 (.int .i64 z):=⟨_,[.int .i64 z],rfl,rfl,⟨z,rfl⟩⟩
theorem resF_put(z:Int)(S:Int→Prop)(kv v:Value):resF (fun x=> x=z∨S x) kv v↔(kv=.int .i64 z∧v=.bool true)∨(kv≠ .int .i64 z∧resF S kv v):=by
 constructor
 · rintro⟨x,h1,h2,h3⟩;by_cases hx:x=z
   · subst hx;exact .inl ⟨h2,h3⟩
   · refine .inr ⟨fun h=> hx ?_,x,h1.resolve_left hx,h2,h3⟩;rw[h2] at h;simpa using h
 · rintro(⟨h1,h2⟩|⟨_,x,h1,h2,h3⟩)
   · exact⟨z,.inl rfl,h1,h2⟩
   · exact⟨x,.inr h1,h2,h3⟩
theorem resF_keys {es:Array MapEntry}{cl:Nat}{S:Int→Prop}(h:MapOk es cl (resF S)):∀e∈es.toList,∃z,S z∧e.key=.int .i64 z∧e.val=.bool true:=fun e he=>
 (h.mem e.key e.val).2 ⟨e,he,rfl,rfl⟩
theorem resF_flat {es:Array MapEntry}{cl:Nat}{S:Int→Prop}(h:MapOk es cl (resF S)):∀e∈es.toList,KeyFl en 1 3 e.key:=fun e he=> by
 obtain⟨z,_,h2,_⟩:=resF_keys h e he;rw[h2];exact int_key z
def Bk.resS(k:Bk)(z:Int):Prop:=∃e,k.earsS k.nt e∧z=firstI (k.line e.heard)
section
variable(M:Md prog)(H:View)
theorem results_c(k:Bk)(A:Option Addr)(lc:Nat)(B:Option Addr)(tc:Nat)(hA:RowsAt H k A lc)(hl:k.nl≤1000)(hB:TrainsAt H k B tc)(ht:k.trainsOk)(h6:k.nt≤6):
   CallT M 94 #[k.val A lc B tc] H (fun v H'=> H.le H'∧∃m es cl,v=.map (some m)∧(∃f,H' m=some (f,.map es cl))∧MapOk es cl (resF k.resS)):=by
 refine .en func94 ntmps94 fun St c cs hK=> ?_;refine U2 ?_;refine .bo fun b1=> ?_;refine U4 ?_;refine .e (Or.makeMap rfl rfl (by decide) (fun mr=> ?_));refine U10 ?_;refine To.callF rfl rfl rfl rfl rfl rfl (by decide) (FnT.h (ears_c M H k A lc B tc hB ht h6 k.nt (Nat.le_refl _))) (fun v H₂ hv=> ?_);obtain⟨hle,m,es,cl,rfl,⟨fm,g3⟩,g4⟩:=hv;refine .e (Or.range (E:=en) (es:=es) (cl:=cl) rfl rfl (fun H hs=> ⟨fm,hs.base _ _ g3⟩) rfl rfl rfl (by decide) (fun it=> ?_));refine U2 ?_;refine Tc.db (Tc.loopInv (σ:= { s:Array Nat×Array MapEntry×Nat//∃S:Int→Prop,MapOk s.2.1 s.2.2 (resF S)∧∀z,k.resS z↔(S z∨∃me∈unseen es s.1,∃e0:Ear,me.key=e0.val∧z=firstI (k.line e0.heard)) })
   (fun s=> ([(1,.pointer (some ⟨b1,0,none⟩)),(3,.map (some mr)),(12,.pointer (some ⟨it,0,none⟩))],[(it,true,.mapIter (some m) cl s.1.1 cl),(mr,true,.map s.1.2.1 s.1.2.2),(b1,true,.cells ⟨(k.val A lc B tc).cells.toList⟩ 113 (0,0))])) (fun s=> (unseen es s.1.1).length) ?_ ⟨(#[],#[],0),fun _=> False,MapOk.nil.congr (by rintro a b;simp[resF]),fun z=> by
     rw[unseen_start];constructor
     · rintro⟨e0,h0,rfl⟩;obtain⟨me,h1,h2,_⟩:=(g4.mem e0.val (.bool true)).1 ⟨e0,h0,rfl,rfl⟩;exact .inr ⟨me,h1,e0,h2,rfl⟩
     · rintro(h|⟨me,h1,e0,h2,rfl⟩)
       · exact h.elim
       · obtain⟨y,h3,h4,_⟩:=earF_keys g4 me h1;rw[ear_inj (h2.symm.trans h4)];exact⟨y,h3,rfl⟩⟩)
 rintro⟨⟨seen,es2,cl2⟩,S,p2,p3⟩ ih;simp only at p2 p3;show Tc M St _ _ H₂ _ [(1,.pointer (some ⟨b1,0,none⟩)),(3,.map (some mr)),(12,.pointer (some ⟨it,0,none⟩))] [(it,true,.mapIter (some m) cl seen cl),(mr,true,.map es2 cl2),(b1,true,.cells ⟨(k.val A lc B tc).cells.toList⟩ 113 (0,0))] _ _;refine U2 ?_;refine .e (Or.next (es:=es) 0 rfl rfl rfl (fun H hs=> ⟨fm,hs.base _ _ g3⟩) g4.lt rfl (by decide) (fun me he hse=> ?_) (fun hall=> ?_))
 · have hp :=unseen_next g4.borns he hse;obtain⟨e0,u1,u2,_⟩:=earF_keys g4 me he;have hfind:=earF_find g4 he;refine U8 ?_;refine .e (Or.entry (es:=es) (e:=me) (st:=me.born) rfl rfl (fun H hs=> ⟨true,hs.get (i:=0) rfl⟩) (fun H hs=> ⟨fm,hs.base _ _ g3⟩) (by simp) hfind rfl (by decide) ?_);rw[u2];refine U ?_;refine .al fun b4=> ?_;refine U7 ?_;refine .c rfl rfl rfl rfl (fun H hs=> .h (line_c M H k A lc B tc (hA.le (View.le_trans hle hs.base)) hl e0.heard)) ?_;refine .e (Or.mapUpdate (E:=en) 2 1 rfl rfl rfl rfl rfl rfl rfl (by decide) (int_key _) (resF_flat p2) rfl (fun r hr=> ?_));obtain⟨es4,cl4,e4,q6⟩:=p2.put (.bool true) hr;rw[e4];refine U2 ?_;exact Tc.db (ih ⟨(seen.push me.born,es4,cl4),fun y=> y=firstI (k.line e0.heard)∨S y,q6.congr (resF_put _ _),fun z=> by
     rw[p3 z];constructor
     · rintro(h|⟨me',h1,e0',h2,h5⟩)
       · exact .inl (.inr h)
       · rcases List.mem_cons.1 (hp.mem_iff.1 h1) with rfl|h6
         · rw[ear_inj (h2.symm.trans u2)] at h5;exact .inl (.inl h5)
         · exact .inr ⟨me',h6,e0',h2,h5⟩
     · rintro((h|h)|⟨me',h6,h7⟩)
       · exact .inr ⟨me,hp.mem_iff.2 (List.mem_cons_self ..),e0,u2,h⟩
       · exact .inl h
       · exact .inr ⟨me',hp.mem_iff.2 (List.mem_cons_of_mem _ h6),h7⟩⟩ (by simp only;rw[hp.length_eq];simp))
 · have hnil:=unseen_done hall;rw[hnil] at p3;refine U10 ?_;refine .rt hK func94 results94 [_] ?_;simp only[List.not_mem_nil,false_and,exists_false,or_false] at p3;exact fun H' hs=> ⟨View.le_trans hle hs.base,mr,es2,cl2,rfl,⟨true,hs.get (i:=1) rfl⟩,p2.congr fun kv v=> by unfold resF;simp only[p3]⟩
end
set_option maxHeartbeats 4000000
def Bk.fate(k:Bk)(e:Ear)(over:Bool):Int:=match k.line e.heard with
 | some i=> (i:Nat)
 | none=> if(e.deaf||over)||(firstTo (fun i=> begins (k.num i) e.heard) k.nl).isNone then -1 else -2
theorem resF_found {es:Array MapEntry}{cl:Nat}{S:Int→Prop}(h:MapOk es cl (resF S)){z:Int}{t:Bool}(ht:t=true↔S z){r:Option (Nat×Value)}(hr:FindOk es.toList (.int .i64 z) r):foundV (.bool false) r false=.bool t:=by
 have h1:=h.find hr;cases r with
 | none=>
   cases t with
   | false=> rfl
   | true=> exact(h1 (.bool true) ⟨z,ht.1 rfl,rfl,rfl⟩).elim
 | some p=>
   obtain⟨i,v⟩:=p;obtain⟨y,h2,h3,h4⟩:=h1;have hy:z=y:=by simpa using h3
   subst hy;subst h4;rw[ht.2 h2];rfl
section
variable(M:Md prog)(H:View)
theorem claim_c(S:Int→Prop)(z:Int)(m:Nat)(es:Array MapEntry)(cl:Nat)(f:Bool)(hm:H m=some (f,.map es cl))(hok:MapOk es cl (resF S))(w:Int)(h:(¬S z∧w=2)∨(S z∧es.size=1∧w=1)∨(S z∧es.size≠1∧w=0)):
   CallT M 95 #[.map (some m),.int .i64 z] H (fun v H'=> H.le H'∧v=.int .i64 w):=by
 rcases h with ⟨h1,rfl⟩|⟨h1,h2,rfl⟩|⟨h1,h2,rfl⟩
 · refine .en func95 ntmps95 fun St c cs hK=> ?_;refine U10 ?_;refine .x (OpV.lookup (E:=en) 1 (es:=es) (v:=.bool false) rfl rfl rfl (fun H hs=> ⟨f,hs.base _ _ hm⟩) rfl rfl rfl (by decide) (int_key z) (resF_flat hok) (fun r hr=> resF_found hok (t:=false) (by simp[h1]) hr)) ?_;refine U8 ?_;refine .rt hK func95 results95 [_] ?_;exact okB
 · refine .en func95 ntmps95 fun St c cs hK=> ?_;refine U10 ?_;refine .x (OpV.lookup (E:=en) 1 (es:=es) (v:=.bool true) rfl rfl rfl (fun H hs=> ⟨f,hs.base _ _ hm⟩) rfl rfl rfl (by decide) (int_key z) (resF_flat hok) (fun r hr=> resF_found hok (t:=true) (by simp[h1]) hr)) ?_;refine U7 ?_;refine .x (OpV.lenMap (E:=en) (es:=es) rfl rfl rfl rfl rfl (fun H hs=> ⟨f,hs.base _ _ hm⟩) rfl rfl) ?_;rw[h2];refine U8 ?_;refine .rt hK func95 results95 [_] ?_;exact okB
 · refine .en func95 ntmps95 fun St c cs hK=> ?_;refine U10 ?_;refine .x (OpV.lookup (E:=en) 1 (es:=es) (v:=.bool true) rfl rfl rfl (fun H hs=> ⟨f,hs.base _ _ hm⟩) rfl rfl rfl (by decide) (int_key z) (resF_flat hok) (fun r hr=> resF_found hok (t:=true) (by simp[h1]) hr)) ?_;refine U7 ?_;refine .x (OpV.lenMap (E:=en) (es:=es) rfl rfl rfl rfl rfl (fun H hs=> ⟨f,hs.base _ _ hm⟩) rfl rfl) ?_;refine U10 ?_;refine .rt hK func95 results95 [_] ?_;exact okB
theorem fate1_c(e:Ear)(b4:Nat)(f:Bool)(hb:H b4=some (f,.cells ⟨e.val.cells.toList⟩ 117 (0,0)))(a num:List UInt8)(F:Option Addr)(n fc:Nat):
   CallT M 162 #[lineV a num F n fc,.pointer (some ⟨b4,0,none⟩)] H (fun v H'=> H.le H'∧v=.bool (begins num e.heard)):=by
 refine .en func162 ntmps162 fun St c cs hK=> ?_;refine U2 ?_;refine .bo fun b2=> ?_;refine U8 ?_;refine .c rfl rfl rfl rfl (fun H hs=> .h (HasPrefix_c M H num e.heard)) ?_;refine U2 ?_;refine .rt hK func162 results162 [_] ?_;exact okB
theorem fate_c(k:Bk)(A:Option Addr)(lc:Nat)(B:Option Addr)(tc:Nat)(hA:RowsAt H k A lc)(hl:k.nl≤1000)(e:Ear)(over:Bool):
   CallT M 101 #[k.val A lc B tc,e.val,.bool over] H (fun v H'=> H.le H'∧v=.int .i64 (k.fate e over)):=by
 have hln:=fun(H':View) (h':H.le H')=> line_c M H' k A lc B tc (hA.le h') hl e.heard;have hf1:=fun(H':View) (h':H.le H') (fv:Value)=> first_c M H' k A lc (hA.le h') hl fv (fun i=> begins (k.num i) e.heard);cases hk:k.line e.heard with
 | some i=>
   have e1:k.fate e over=(i:Nat):=by unfold Bk.fate;rw[hk]
   rw[e1];rw[hk] at hln;have e2:firstI (some i)=(i:Nat):=rfl;rw[e2] at hln;refine .en func101 ntmps101 fun St c cs hK=> ?_;refine U2 ?_;refine .bo fun b3=> ?_;refine .bo fun b4=> ?_;refine U8 ?_;refine .c rfl rfl rfl rfl (fun H hs=> .h (hln H hs.base)) ?_;refine U13 ?_;refine .rt hK func101 results101 [_] ?_;exact okB
 | none=>
   rw[hk] at hln;have e2:firstI none= -1:=rfl;rw[e2] at hln;obtain⟨df,hdf⟩:∃d,e.deaf=d:=⟨_,rfl⟩
   have ev:e.val=earV e.heard e.pend df:=by rw[←hdf];rfl
   cases df with
   | true=>
     have e1:k.fate e over= -1:=by unfold Bk.fate;rw[hk];simp[hdf]
     rw[e1,ev];refine .en func101 ntmps101 fun St c cs hK=> ?_;refine U2 ?_;refine .bo fun b3=> ?_;refine .bo fun b4=> ?_;refine U8 ?_;refine .c rfl rfl rfl rfl (fun H hs=> .h (hln H hs.base)) ?_;refine U31 ?_;refine .rt hK func101 results101 [_] ?_;exact okB
   | false=>
     cases over with
     | true=>
       have e1:k.fate e true= -1:=by unfold Bk.fate;rw[hk];simp
       rw[e1,ev];refine .en func101 ntmps101 fun St c cs hK=> ?_;refine U2 ?_;refine .bo fun b3=> ?_;refine .bo fun b4=> ?_;refine U8 ?_;refine .c rfl rfl rfl rfl (fun H hs=> .h (hln H hs.base)) ?_;refine U31 ?_;refine .rt hK func101 results101 [_] ?_;exact okB
     | false=>
       have ask:∀b4 H₀,H₀ b4=some (true,.cells ⟨(earV e.heard e.pend false).cells.toList⟩ 117 (0,0))→AskL M H₀ (.func (.func 162) #[] #[.pointer (some ⟨b4,0,none⟩)]) k (fun i=> begins (k.num i) e.heard):=fun b4 H₀ hb i _ F fc H' hle=>
         FnT.of (first:= []) (captured:= [_]) ca162 rfl (fate1_c M H' e b4 true (by rw[ev];exact hle _ _ hb) (k.name i) (k.num i) F (k.nf i) fc)
       cases hq:firstTo (fun i=> begins (k.num i) e.heard) k.nl with
       | none=>
         have e1:k.fate e false= -1:=by unfold Bk.fate;rw[hk];simp[hq]
         rw[e1,ev];rw[hq,e2] at hf1;refine .en func101 ntmps101 fun St c cs hK=> ?_;refine U2 ?_;refine .bo fun b3=> ?_;refine .bo fun b4=> ?_;refine U8 ?_;refine .c rfl rfl rfl rfl (fun H hs=> .h (hln H hs.base)) ?_;refine U22 ?_;refine .c rfl rfl rfl rfl (fun H hs=> .h (hf1 H hs.base _ (ask b4 H (hs.get (i:=0) rfl)))) ?_;refine U8 ?_;refine .rt hK func101 results101 [_] ?_;exact okB
       | some j=>
         have e1:k.fate e false= -2:=by unfold Bk.fate;rw[hk];simp[hq,hdf]
         rw[e1,ev];rw[hq] at hf1;have e3:firstI (some j)=(j:Nat):=rfl;rw[e3] at hf1;refine .en func101 ntmps101 fun St c cs hK=> ?_;refine U2 ?_;refine .bo fun b3=> ?_;refine .bo fun b4=> ?_;refine U8 ?_;refine .c rfl rfl rfl rfl (fun H hs=> .h (hln H hs.base)) ?_;refine U22 ?_;refine .c rfl rfl rfl rfl (fun H hs=> .h (hf1 H hs.base _ (ask b4 H (hs.get (i:=0) rfl)))) ?_;refine U9 ?_;refine .rt hK func101 results101 [_] ?_;exact okB
end
end Go.Proofs.YtdnfdeplcjaonaaGreatDoor
namespace Go.Proofs.YtdnfdeplcjaonaaGreatDoor
open Go.RL Go.Proofs.Tryz
set_option maxRecDepth 10000
theorem ldL_le {sz off:Nat}{gs:List Value}{v:Value}(h:ldL true sz gs off=some v):off+sz≤gs.length∧v=.agg ⟨(gs.drop off).take sz⟩:=by
 unfold ldL at h;simp only at h;split at h
 · rename_i hle
   exact⟨Nat.le_of_ble_eq_true hle,(Option.some.inj h).symm⟩
 · cases h
theorem ldL_of {sz off:Nat}{gs:List Value}(h:off+sz≤gs.length):ldL true sz gs off=some (.agg ⟨(gs.drop off).take sz⟩):=by
 unfold ldL;have:Nat.ble (off+sz) gs.length=true:=Nat.ble_eq_true_of_le h;simp only[this]
section
variable(M:Md prog)(H:View)
theorem clone138_c(a:Option Addr)(m ca:Nat)(l:List Value)(hm:m≤100000)(hs0:SrcAt H 3 (.slice a m ca) m l)(h1:l.all single=true):CallT M 138 #[.slice a m ca] H (fun v H'=> H.le H'∧∃g:Gl 64 3,v=g.val∧(g.l=l∧g.n=m)∧∀x∈g.bl,H' x.1=some x.2∧H x.1=none):=by
 refine .en func138 ntmps138 fun St c cs hK=> ?_;cases a with
 | none=>
   refine U8 ?_;refine .x (OpV.eqNil (E:=en) rfl rfl rfl rfl rfl) ?_;refine U6 ?_;refine .rt hK func138 results138 [_] ?_;obtain⟨_,h2,h3|⟨b,off,_,_,_,_,_,h3,_⟩⟩:=hs0
   · obtain⟨_,_,_,rfl⟩:=h3;have:m=0:=by simp at h2;omega
     subst this;exact fun H' hs'=> ⟨hs'.base,Gl.nil 64 3,rfl,⟨rfl,rfl⟩,by simp[Gl.nil,Gl.bl]⟩
   · cases h3
 | some a=>
   refine U8 ?_;refine .x (OpV.eqNil (E:=en) rfl rfl rfl rfl rfl) ?_;refine U5 ?_;refine .e (.bs (zz:=fun bs=> ?_));refine U ?_;refine .e (Or.append (E:=en) (g:=Gl.emp 64 3 bs) 0 rfl rfl rfl rfl rfl rfl rfl rfl rfl rfl rfl rfl rfl rfl rfl (fun H' hs'=> hs0.mono hs'.base) h1 (by show 0+m≤_;omega) rfl (by decide) (fun g' hn hl=> ?_));refine U2 ?_;refine .rt hK func138 results138 [_] ?_;exact fun H' hs'=> ⟨hs'.base,g',rfl,⟨by rw[hl];rfl,by rw[hn];show 0+m=m;omega⟩,fun x hx=> ⟨hs'.at_ x hx,hs'.out x hx⟩⟩
end
section
variable(M:Md prog)(H:View)
theorem clone139_c(a:Option Addr)(m ca:Nat)(l:List Value)(hm:m≤100000)(hs0:SrcAt H 4 (.slice a m ca) m l)(h1:l.all single=true):CallT M 139 #[.slice a m ca] H (fun v H'=> H.le H'∧∃g:Gl 47 4,v=g.val∧(g.l=l∧g.n=m)∧∀x∈g.bl,H' x.1=some x.2∧H x.1=none):=by
 refine .en func139 ntmps139 fun St c cs hK=> ?_;cases a with
 | none=>
   refine U8 ?_;refine .x (OpV.eqNil (E:=en) rfl rfl rfl rfl rfl) ?_;refine U6 ?_;refine .rt hK func139 results139 [_] ?_;obtain⟨_,h2,h3|⟨b,off,_,_,_,_,_,h3,_⟩⟩:=hs0
   · obtain⟨_,_,_,rfl⟩:=h3;have:m=0:=by simp at h2;omega
     subst this;exact fun H' hs'=> ⟨hs'.base,Gl.nil 47 4,rfl,⟨rfl,rfl⟩,by simp[Gl.nil,Gl.bl]⟩
   · cases h3
 | some a=>
   refine U8 ?_;refine .x (OpV.eqNil (E:=en) rfl rfl rfl rfl rfl) ?_;refine U5 ?_;refine .e (.bs (zz:=fun bs=> ?_));refine U ?_;refine .e (Or.append (E:=en) (g:=Gl.emp 47 4 bs) 0 rfl rfl rfl rfl rfl rfl rfl rfl rfl rfl rfl rfl rfl rfl rfl (fun H' hs'=> hs0.mono hs'.base) h1 (by show 0+m≤_;omega) rfl (by decide) (fun g' hn hl=> ?_));refine U2 ?_;refine .rt hK func139 results139 [_] ?_;exact fun H' hs'=> ⟨hs'.base,g',rfl,⟨by rw[hl];rfl,by rw[hn];show 0+m=m;omega⟩,fun x hx=> ⟨hs'.at_ x hx,hs'.out x hx⟩⟩
theorem clone140_c(a:Option Addr)(m ca:Nat)(l:List Value)(hm:m≤100000)(hs0:SrcAt H 1 (.slice a m ca) m l)(h1:l.all single=true):CallT M 140 #[.slice a m ca] H (fun v H'=> H.le H'∧∃g:Gl 38 1,v=g.val∧(g.l=l∧g.n=m)∧∀x∈g.bl,H' x.1=some x.2∧H x.1=none):=by
 refine .en func140 ntmps140 fun St c cs hK=> ?_;cases a with
 | none=>
   refine U8 ?_;refine .x (OpV.eqNil (E:=en) rfl rfl rfl rfl rfl) ?_;refine U6 ?_;refine .rt hK func140 results140 [_] ?_;obtain⟨_,h2,h3|⟨b,off,_,_,_,_,_,h3,_⟩⟩:=hs0
   · obtain⟨_,_,_,rfl⟩:=h3;have:m=0:=by simp at h2;omega
     subst this;exact fun H' hs'=> ⟨hs'.base,Gl.nil 38 1,rfl,⟨rfl,rfl⟩,by simp[Gl.nil,Gl.bl]⟩
   · cases h3
 | some a=>
   refine U8 ?_;refine .x (OpV.eqNil (E:=en) rfl rfl rfl rfl rfl) ?_;refine U5 ?_;refine .e (.bs (zz:=fun bs=> ?_));refine U ?_;refine .e (Or.append (E:=en) (g:=Gl.emp 38 1 bs) 0 rfl rfl rfl rfl rfl rfl rfl rfl rfl rfl rfl rfl rfl rfl rfl (fun H' hs'=> hs0.mono hs'.base) h1 (by show 0+m≤_;omega) rfl (by decide) (fun g' hn hl=> ?_));refine U2 ?_;refine .rt hK func140 results140 [_] ?_;exact fun H' hs'=> ⟨hs'.base,g',rfl,⟨by rw[hl];rfl,by rw[hn];show 0+m=m;omega⟩,fun x hx=> ⟨hs'.at_ x hx,hs'.out x hx⟩⟩
end
def andOf(a b:Int):Int:=if a=2∨b=2 then 2 else if a=1 then b else 0
section
variable(M:Md prog)(H:View)
theorem and_c(a b:Int):CallT M 98 #[.int .i64 a,.int .i64 b] H (fun v H'=> H.le H'∧v=.int .i64 (andOf a b)):=by
 refine .en func98 ntmps98 fun St c cs hK=> ?_;by_cases c1:a=2
 · have e:andOf a b=2:=by unfold andOf;simp[c1]
   subst c1;refine U21 ?_;refine .rt hK func98 results98 [_] ?_;exact fun H' hs=> ⟨hs.base,by rw[e];rfl⟩
 · by_cases c2:b=2
   · have e:andOf a b=2:=by unfold andOf;simp[c2]
     subst c2;refine U21 ?_;refine .rt hK func98 results98 [_] ?_;exact fun H' hs=> ⟨hs.base,by rw[e];rfl⟩
   · by_cases c3:a=1
     · have e:andOf a b=b:=by unfold andOf;simp[c2,c3]
       subst c3;refine U29 ?_;refine .rt hK func98 results98 [_] ?_;exact fun H' hs=> ⟨hs.base,by rw[e];rfl⟩
     · have e:andOf a b=0:=by unfold andOf;simp[c1,c2,c3]
       refine U30 ?_;refine .rt hK func98 results98 [_] ?_;exact fun H' hs=> ⟨hs.base,by rw[e];rfl⟩
end
end Go.Proofs.YtdnfdeplcjaonaaGreatDoor
