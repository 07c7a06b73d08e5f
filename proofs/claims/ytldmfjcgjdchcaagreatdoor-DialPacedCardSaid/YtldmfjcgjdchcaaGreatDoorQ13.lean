/-
  Texts of the proofs over baudot/dial: Z3 EA App3 EB TL3 TH2 TL4 TM3 TM4 TM5 TH3 TH5 TJ1 TJ2 TJ3 TJ5 TJ6 TJ7 TJ4 TJ8 TJ9 TJA TJB TJC TJD TJE TJF TJG TJH TJI TK1 TM7 TO1 TP1 TP3 Abs EC.
-/
import Derived.Test.YtldmfjcgjdchcaaGreatDoorQ12
namespace Go.Proofs.YtldmfjcgjdchcaaGreatDoor
open Go.RL Go.Proofs.Tryz
set_option maxRecDepth 10000
set_option maxHeartbeats 8000000
def Bk.wide(k:Bk)(i:Nat):Bool:=decide (100<(k.name i).length)||decide (100<(k.num i).length)||decide (20<k.nf i)
def Bk.great(k:Bk):Bool:=decide (20<k.nl)||decide (20<k.nt)||(firstTo k.wide k.nl).isSome
def Bk.fit(k:Bk):Bool:=!k.great&&decide (k.alarm=0)
theorem Bk.ungreat {k:Bk}(h:k.great=false):k.nl≤20∧k.nt≤20∧∀i,i<k.nl→(k.name i).length≤100∧(k.num i).length≤100∧k.nf i≤20:=by
 unfold Bk.great at h;rw[Bool.or_eq_false_iff,Bool.or_eq_false_iff] at h;have h1:=of_decide_eq_false h.1.1;have h2:=of_decide_eq_false h.1.2;refine⟨by omega,by omega,fun i hi=> ?_⟩;have h3:k.wide i=false:=(firstTo_none _).1 (by rw[←Option.not_isSome_iff_eq_none,h.2];decide) i hi;unfold Bk.wide at h3;rw[Bool.or_eq_false_iff,Bool.or_eq_false_iff] at h3;have h4:=of_decide_eq_false h3.1.1;have h5:=of_decide_eq_false h3.1.2;have h6:=of_decide_eq_false h3.2;omega
theorem Bk.ungreat_small {k:Bk}(h:k.great=false):k.small:=by
 obtain⟨h1,h2,h3⟩:=Bk.ungreat h;exact⟨by omega,by omega,fun i hi=> by have:=h3 i hi;omega⟩
section
variable(M:Md prog)(H:View)
theorem refCheckBook_c(k:Bk)(A:Option Addr)(lc:Nat)(B:Option Addr)(tc:Nat)(hk:BkAt H k A lc B tc)(hn:k.small)(hnm:∀i,i<k.nl→(k.name i).length≤1000000):
   CallT M 29 #[k.val A lc B tc] H (fun v H'=> H.le H'∧v=.int .i64 k.alarm):=by
 have hlines:=fun(H':View) (h':H.le H')=> checkLines_c M H' k A lc (hk.le h').rows hn.nl (fun i hi=> ⟨hnm i hi,hn.num i hi⟩);have hng:=hn.nt;by_cases c1:1≤k.gap∧k.gap≤99
 · by_cases c2:k.gap+1≤k.give∧k.give≤99
   · have e:k.alarm=if k.linesA=0 then k.trainsA else k.linesA:=by unfold Bk.alarm;rw[if_pos (by unfold Bk.pausesA;rw[if_pos ⟨c1,c2⟩])]
     rw[e];clear e;by_cases c3:k.linesA=0
     · rw[if_pos c3];rw[c3] at hlines;by_cases c4:6<k.nt
       · have e:k.trainsA=2:=by unfold Bk.trainsA;rw[if_pos c4]
         rw[e];refine .en func29 ntmps29 fun St c cs hK=> ?_;refine U2 ?_;refine .bo fun b1=> ?_;refine U7 ?_;refine .c rfl rfl rfl rfl (fun H hs=> .h (In_c M H k.gap 1 99 true (decide_eq_true c1))) ?_;refine U7 ?_;refine .c rfl rfl rfl rfl (fun H hs=> .h (In_c M H k.give (k.gap+1) 99 true (decide_eq_true c2))) ?_;refine U10 ?_;refine .c rfl rfl rfl rfl (fun H hs=> .h (hlines H hs.base)) ?_;refine U22 ?_;refine .rt hK func29 results29 [_] ?_;exact okB
       · have e:k.trainsA=if(firstTo k.trainBad k.nt).isSome then 1 else 0:=by unfold Bk.trainsA;rw[if_neg c4]
         rw[e];clear e;refine .en func29 ntmps29 fun St c cs hK=> ?_;refine U2 ?_;refine .bo fun b1=> ?_;refine U7 ?_;refine .c rfl rfl rfl rfl (fun H hs=> .h (In_c M H k.gap 1 99 true (decide_eq_true c1))) ?_;refine U7 ?_;refine .c rfl rfl rfl rfl (fun H hs=> .h (In_c M H k.give (k.gap+1) 99 true (decide_eq_true c2))) ?_;refine U10 ?_;refine .c rfl rfl rfl rfl (fun H hs=> .h (hlines H hs.base)) ?_;refine U25 ?_;refine Tc.db (Tc.loopInv (σ:= { i:Nat//i≤k.nt∧firstTo k.trainBad i=none }) (fun i=> ([(1,.pointer (some ⟨b1,0,none⟩)),(4,.int .i64 (i.1:Nat))],[(b1,true,.cells ⟨(k.val A lc B tc).cells.toList⟩ 45 (0,0))])) (fun i=> k.nt-i.1) ?_ ⟨0,Nat.zero_le _,rfl⟩);rintro⟨i,hi,hno⟩ ih;show Tc M St _ _ _ _ [(1,.pointer (some ⟨b1,0,none⟩)),(4,.int .i64 (i:Nat))] [(b1,true,.cells ⟨(k.val A lc B tc).cells.toList⟩ 45 (0,0))] _ _;by_cases c5:i=k.nt
         · clear ih;subst c5;rw[hno] at hK;refine U15 ?_;refine .rt hK func29 results29 [_] ?_;exact okB
         · have c6:i<k.nt:=by omega
           obtain⟨_,htc,h0|⟨tb,to,f,gs,gt,gz,rfl,hb,hl⟩⟩:=hk
           · omega
           have f1:=hl i c6;cases q:trainOk (k.pf i) (k.pt i) (k.qf i) (k.qt i) with
           | true=>
             refine U20 ?_;refine .c rfl rfl rfl rfl (fun H hs=> .h (checkTrain_c M H (k.pf i) (k.pt i) (k.qf i) (k.qt i) 0 (by rw[q];rfl))) ?_;refine U15 ?_;exact Tc.db (ih ⟨i+1,by omega,by simp[firstTo,hno,Bk.trainBad,q]⟩ (by simp only;omega))
           | false=>
             rw[firstTo_stays (j:=i+1) (x:=i) (by simp[firstTo,hno,Bk.trainBad,q]) _ (by omega)] at hK;refine U20 ?_;refine .c rfl rfl rfl rfl (fun H hs=> .h (checkTrain_c M H (k.pf i) (k.pt i) (k.qf i) (k.qt i) 1 (by rw[q];rfl))) ?_;refine U13 ?_;refine .rt hK func29 results29 [_] ?_;exact okB
     · rw[if_neg c3];refine .en func29 ntmps29 fun St c cs hK=> ?_;refine U2 ?_;refine .bo fun b1=> ?_;refine U7 ?_;refine .c rfl rfl rfl rfl (fun H hs=> .h (In_c M H k.gap 1 99 true (decide_eq_true c1))) ?_;refine U7 ?_;refine .c rfl rfl rfl rfl (fun H hs=> .h (In_c M H k.give (k.gap+1) 99 true (decide_eq_true c2))) ?_;refine U10 ?_;refine .c rfl rfl rfl rfl (fun H hs=> .h (hlines H hs.base)) ?_;refine U13 ?_;refine .rt hK func29 results29 [_] ?_;exact okB
   · have e:k.alarm=1:=by unfold Bk.alarm Bk.pausesA;simp[c2]
     rw[e];refine .en func29 ntmps29 fun St c cs hK=> ?_;refine U2 ?_;refine .bo fun b1=> ?_;refine U7 ?_;refine .c rfl rfl rfl rfl (fun H hs=> .h (In_c M H k.gap 1 99 true (decide_eq_true c1))) ?_;refine U7 ?_;refine .c rfl rfl rfl rfl (fun H hs=> .h (In_c M H k.give (k.gap+1) 99 false (decide_eq_false c2))) ?_;refine U8 ?_;refine .rt hK func29 results29 [_] ?_;exact okB
 · have e:k.alarm=1:=by unfold Bk.alarm Bk.pausesA;simp[c1]
   rw[e];refine .en func29 ntmps29 fun St c cs hK=> ?_;refine U2 ?_;refine .bo fun b1=> ?_;refine U7 ?_;refine .c rfl rfl rfl rfl (fun H hs=> .h (In_c M H k.gap 1 99 false (decide_eq_false c1))) ?_;refine U16 ?_;refine .rt hK func29 results29 [_] ?_;exact okB
theorem wide_c(a num:List UInt8)(F:Option Addr)(n fc:Nat)(t:Bool)(ht:(decide (100<a.length)||decide (100<num.length)||decide (20<n))=t):
   CallT M 89 #[lineV a num F n fc] H (fun v H'=> H.le H'∧v=.bool t):=by
 rw[←ht];refine .en func89 ntmps89 fun St c cs hK=> ?_;by_cases c1:100<a.length
 all_goals by_cases c2:100<num.length
 all_goals by_cases c3:20<n
 all_goals
   refine U2 ?_;refine .bo fun b1=> ?_;refine U7 ?_;refine .i ?_ (z:=by first|exact gtr_t (by omega)|exact gtr_f (by omega));refine U ?_;first|(refine .sk ?_)|(refine .x .fa ?_)
   first|(refine .sk ?_)|((refine .x (.ld 0) ?_))
   first|(refine .sk ?_)|(refine .x (OpV.lenS (E:=en) rfl rfl rfl rfl rfl rfl rfl) ?_)
   first|(refine .sk ?_)|(refine .x (.it (zz:=(by first|exact gtr_t (by omega)|exact gtr_f (by omega)))) ?_)
   refine U2 ?_;first|(refine .sk ?_)|(refine .x .fa ?_)
   first|(refine .sk ?_)|((refine .x (.ld 0) ?_))
   first|(refine .sk ?_)|(refine .x .ln ?_)
   first|(refine .sk ?_)|(refine .x (.it (zz:=(by first|exact gtr_t (by omega)|exact gtr_f (by omega)))) ?_)
   refine U3 ?_;refine .rt hK func89 results89 [_] ?_;exact fun H' hs=> ⟨hs.base,by simp[packV,c1,c2,c3]⟩
theorem Great_c(k:Bk)(A:Option Addr)(lc:Nat)(B:Option Addr)(tc:Nat)(hA:RowsAt H k A lc):
   CallT M 31 #[k.val A lc B tc] H (fun v H'=> H.le H'∧v=.bool k.great):=by
 by_cases c1:20<k.nl
 · have e:k.great=true:=by unfold Bk.great;simp[c1]
   rw[e];refine .en func31 ntmps31 fun St c cs hK=> ?_;refine U2 ?_;refine .bo fun b1=> ?_;refine U21 ?_;refine .rt hK func31 results31 [_] ?_;exact okB
 · by_cases c2:20<k.nt
   · have e:k.great=true:=by unfold Bk.great;simp[c2]
     rw[e];refine .en func31 ntmps31 fun St c cs hK=> ?_;refine U2 ?_;refine .bo fun b1=> ?_;refine U21 ?_;refine .rt hK func31 results31 [_] ?_;exact okB
   · have e:k.great=(firstTo k.wide k.nl).isSome:=by unfold Bk.great;simp[c1,c2]
     rw[e];clear e;refine .en func31 ntmps31 fun St c cs hK=> ?_;refine U2 ?_;refine .bo fun b1=> ?_;refine U24 ?_;refine Tc.db (Tc.loopInv (σ:= { i:Nat//i≤k.nl∧firstTo k.wide i=none }) (fun i=> ([(1,.pointer (some ⟨b1,0,none⟩)),(3,.int .i64 (i.1:Nat))],[(b1,true,.cells ⟨(k.val A lc B tc).cells.toList⟩ 45 (0,0))])) (fun i=> k.nl-i.1) ?_ ⟨0,Nat.zero_le _,rfl⟩);rintro⟨i,hi,hno⟩ ih;show Tc M St _ _ _ _ [(1,.pointer (some ⟨b1,0,none⟩)),(3,.int .i64 (i:Nat))] [(b1,true,.cells ⟨(k.val A lc B tc).cells.toList⟩ 45 (0,0))] _ _;by_cases c5:i=k.nl
     · clear ih;subst c5;rw[hno] at hK;refine U15 ?_;refine .rt hK func31 results31 [_] ?_;exact okB
     · have c6:i<k.nl:=by omega
       obtain⟨hlc,h0|⟨ab,ao,f,gs,gt,gz,rfl,hb,hl⟩⟩:=hA
       · omega
       obtain⟨F,fc,f1,_,_⟩:=hl i c6;cases q:k.wide i with
       | true=>
         rw[firstTo_stays (j:=i+1) (x:=i) (by simp[firstTo,hno,q]) _ (by omega)] at hK;refine U20 ?_;refine .c rfl rfl rfl rfl (fun H hs=> .h (wide_c M H (k.name i) (k.num i) F (k.nf i) fc true q)) ?_;refine U6 ?_;refine .rt hK func31 results31 [_] ?_;exact okB
       | false=>
         refine U20 ?_;refine .c rfl rfl rfl rfl (fun H hs=> .h (wide_c M H (k.name i) (k.num i) F (k.nf i) fc false q)) ?_;refine U9 ?_;exact Tc.db (ih ⟨i+1,by omega,by simp[firstTo,hno,q]⟩ (by simp only;omega))
theorem Fit_c(k:Bk)(A:Option Addr)(lc:Nat)(B:Option Addr)(tc:Nat)(hk:BkAt H k A lc B tc)(t:Bool)(ht:k.fit=t):
   CallT M 16 #[k.val A lc B tc] H (fun v H'=> H.le H'∧v=.bool t):=by
 rw[←ht];clear ht;cases q:k.great with
 | true=>
   have e:k.fit=false:=by unfold Bk.fit;rw[q];rfl
   rw[e];refine .en func16 ntmps16 fun St c cs hK=> ?_;refine U2 ?_;refine .bo fun b1=> ?_;refine U5 ?_;refine .c rfl rfl rfl rfl (fun H hs=> .h (isB (Great_c M H k A lc B tc (hk.le hs.base).rows) q)) ?_;refine U8 ?_;refine .rt hK func16 results16 [_] ?_;exact okB
 | false=>
   by_cases c1:k.alarm=0
   · have e:k.fit=true:=by unfold Bk.fit;rw[q];simp[c1]
     rw[e];refine .en func16 ntmps16 fun St c cs hK=> ?_;refine U2 ?_;refine .bo fun b1=> ?_;refine U5 ?_;refine .c rfl rfl rfl rfl (fun H hs=> .h (isB (Great_c M H k A lc B tc (hk.le hs.base).rows) q)) ?_;refine U3 ?_;refine .c rfl rfl rfl rfl (fun H hs=> .h (isV (refCheckBook_c M H k A lc B tc (hk.le hs.base) (Bk.ungreat_small q) (fun i hi=> by have:=(Bk.ungreat q).2.2 i hi;omega)) (w':=.int .i64 0) (by rw[c1]))) ?_;refine U4 ?_;refine .rt hK func16 results16 [_] ?_;exact okB
   · have e:k.fit=false:=by unfold Bk.fit;rw[q];simp[c1]
     rw[e];refine .en func16 ntmps16 fun St c cs hK=> ?_;refine U2 ?_;refine .bo fun b1=> ?_;refine U5 ?_;refine .c rfl rfl rfl rfl (fun H hs=> .h (isB (Great_c M H k A lc B tc (hk.le hs.base).rows) q)) ?_;refine U3 ?_;refine .c rfl rfl rfl rfl (fun H hs=> .h (refCheckBook_c M H k A lc B tc (hk.le hs.base) (Bk.ungreat_small q) (fun i hi=> by have:=(Bk.ungreat q).2.2 i hi;omega))) ?_;refine U4 ?_;refine .rt hK func16 results16 [_] ?_;exact okB
end
theorem earsS_sub {k d:Bk}(h:∀i,∀x∈k.can i,x∈d.can i):∀n e,k.earsS n e→d.earsS n e
 | 0,_,he=> he
 | n+1,_,⟨e0,h0,x,hx,he⟩=> ⟨e0,earsS_sub h n e0 h0,x,h n x hx,he⟩
theorem kind_cases(k:Bk)(p:Int):(p<k.gap∧k.kind p=0)∨(k.gap≤p∧p<k.give∧k.kind p=1)∨(k.gap≤p∧k.give≤p∧k.kind p=2):=by
 unfold Bk.kind;by_cases h1:p<k.gap
 · exact .inl ⟨h1,if_pos h1⟩
 · by_cases h2:p<k.give
   · exact .inr (.inl ⟨by omega,h2,by rw[if_neg h1,if_pos h2]⟩)
   · exact .inr (.inr ⟨by omega,by omega,by rw[if_neg h1,if_neg h2]⟩)
theorem res_pos {k:Bk}(hok:k.trainsOk):1≤k.resL.length:=by
 obtain⟨e,he⟩:=k.ears_some hok k.nt (Nat.le_refl _);have h:firstI (k.line e.heard)∈k.resL:=(k.mem_resL _).2 ⟨e,he,rfl⟩;exact List.length_pos_of_mem h
theorem claim_keep {k o:Bk}(hs:∀z,z∈o.resL→z∈k.resL)(hp:1≤o.resL.length){z:Int}(h:k.claimOf z≠0):o.claimOf z=k.claimOf z:=by
 unfold Bk.claimOf at h ⊢;by_cases c:z∈k.resL
 · rw[if_pos c] at h ⊢;by_cases c2:k.resL.length=1
   · rw[if_pos c2] at h ⊢;obtain⟨w,hw⟩:=List.length_eq_one_iff.1 c2;have hz:z=w:=by rw[hw] at c;simpa using c
     subst hz;have hle:=nodup_le (l:=o.resL) (m:=k.resL) (distinct_nodup _) hs;have hl:o.resL.length=1:=by omega
     obtain⟨v,hv⟩:=List.length_eq_one_iff.1 hl;have h3:=hs v (by rw[hv];simp);rw[hw] at h3;have h4:v=z:=by simpa using h3
     subst h4;rw[if_pos (by rw[hv];simp),if_pos hl]
   · rw[if_neg c2] at h;exact(h rfl).elim
 · rw[if_neg c,if_neg fun h2=> c (hs z h2)]
theorem heard_mem {k:Bk}{s:List UInt8}:s∈k.heardL↔∃e,k.earsS k.nt e∧s=e.heard:=by
 unfold Bk.heardL;rw[mem_ascOf,List.mem_map];constructor
 · rintro⟨e,he,rfl⟩;exact⟨e,(k.mem_earsL _ e).1 he,rfl⟩
 · rintro⟨e,he,rfl⟩;exact⟨e,(k.mem_earsL _ e).2 he,rfl⟩
theorem heard_len {k:Bk}(ha:k.alarm=0):k.heardL.length≤12 ^ 6:=by
 have h1:=nodup_le (l:=k.heardL) (m:=(k.earsL k.nt).map (·.heard)) (by unfold Bk.heardL;exact(ascOf_asc _).imp fun h e=> by subst e;have h2:=less_asym h;rw[h] at h2;cases h2) (fun x hx=> by unfold Bk.heardL at hx;exact(mem_ascOf _).1 hx);have h2:=ears_count ha;rw[List.length_map] at h1;omega
theorem heard_first {l m:List (List UInt8)}{n:Nat}(hn:n=m.length)(h:∀s,s∈l→s∈m){i:Nat}(hi:i<l.length):(firstTo (fun j=> (fun j=> m[j]?.getD []) j==(fun j=> l[j]?.getD []) i) n).isSome=true:=by
 subst hn;cases e:firstTo (fun j=> (fun j=> m[j]?.getD []) j==(fun j=> l[j]?.getD []) i) m.length with
 | some _=> rfl
 | none=>
   have h1:=(firstTo_none _).1 e;have h2:l[i]∈m:=h _ (List.getElem_mem hi);obtain⟨j,hj,h3⟩:=List.getElem_of_mem h2;have h4:=h1 j hj;simp only[List.getElem?_eq_getElem hj,List.getElem?_eq_getElem hi,Option.getD_some] at h4;rw[h3] at h4;simp at h4
structure Bk.Less(o k:Bk):Prop where
 nl:o.nl=k.nl
 nt:o.nt=k.nt
 line:o.line=k.line
 can:∀i,∀x∈o.can i,x∈k.can i
theorem Bk.Less.heard {o k:Bk}(h:o.Less k)(s:List UInt8)(hs:s∈o.heardL):s∈k.heardL:=by
 rw[heard_mem] at hs ⊢;obtain⟨e,he,rfl⟩:=hs;rw[h.nt] at he;exact⟨e,earsS_sub h.can _ e he,rfl⟩
theorem Bk.Less.res {o k:Bk}(h:o.Less k)(z:Int)(hz:z∈o.resL):z∈k.resL:=by
 rw[Bk.mem_resL] at hz ⊢;obtain⟨e,he,rfl⟩:=hz;rw[h.nt] at he;exact⟨e,earsS_sub h.can _ e he,by rw[h.line]⟩
theorem Bk.Less.claim {o k:Bk}(h:o.Less k)(ho:o.alarm=0)(z:Int)(hz:k.claimOf z≠0):k.claimOf z=o.claimOf z:=
 (claim_keep h.res (res_pos (Bk.valid ho).2.2.2) hz).symm
section
variable(M:Md prog)(H:View)
theorem subset_c(A:Option Addr)(n ac:Nat)(x:Nat→List UInt8)(hA:StrsAt H A n x)(B:Option Addr)(m bc:Nat)(y:Nat→List UInt8)(hB:StrsAt H B m y)(hn:n≤100000000)(hm:m≤100000000)(h:∀i,i<n→(firstTo (fun j=> y j==x i) m).isSome=true):
   CallT M 66 #[.slice A n ac,.slice B m bc] H (fun v H'=> H.le H'∧v=.bool true):=by
 refine .en func66 ntmps66 fun St c cs hK=> ?_;refine U10 ?_;refine Tc.db (Tc.loopInv (σ:= { j:Nat//j≤n }) (fun j=> ([(0,.slice A n ac),(1,.slice B m bc),(5,.int .i64 (j.1:Nat))],[])) (fun j=> n-j.1) ?_ ⟨0,Nat.zero_le _⟩);rintro⟨j,hj⟩ ih;show Tc M St _ _ _ _ [(0,.slice A n ac),(1,.slice B m bc),(5,.int .i64 (j:Nat))] [] _ _;by_cases c1:j=n
 · clear ih;refine U14 ?_;refine .rt hK func66 results66 [_] ?_;exact okB
 · have c2:j<n:=by omega
   obtain h0|⟨ab,ao,f,gs,gt,gz,rfl,hb,hl⟩:=hA
   · omega
   have f1:=hl j c2;have h1:=h j c2;have hix:=fun(H':View) (h':H.le H')=> IndexOf_c M H' B m bc y (hB.le h') (by omega) (x j);obtain⟨z,hz⟩:=Option.isSome_iff_exists.1 h1;rw[hz] at hix;have e:firstI (some z)=((z:Nat):Int):=rfl;rw[e] at hix;refine U19 ?_;refine .c rfl rfl rfl rfl (fun H hs=> .h (hix H hs.base)) ?_;refine U10 ?_;exact Tc.db (ih ⟨j+1,by omega⟩ (by simp only;omega))
theorem kept_c(A:Option Addr)(n ac:Nat)(x:Nat→Int)(hA:FreeAt H A n x)(B:Option Addr)(bc:Nat)(y:Nat→Int)(hB:FreeAt H B n y)(hn:n≤1000)(h:∀i,i<n→x i≠0→x i=y i):
   CallT M 67 #[.slice A n ac,.slice B n bc] H (fun v H'=> H.le H'∧v=.bool true):=by
 refine .en func67 ntmps67 fun St c cs hK=> ?_;refine U21 ?_;refine Tc.db (Tc.loopInv (σ:= { j:Nat//j≤n }) (fun j=> ([(0,.slice A n ac),(1,.slice B n bc),(5,.int .i64 (j.1:Nat))],[])) (fun j=> n-j.1) ?_ ⟨0,Nat.zero_le _⟩);rintro⟨j,hj⟩ ih;show Tc M St _ _ _ _ [(0,.slice A n ac),(1,.slice B n bc),(5,.int .i64 (j:Nat))] [] _ _;by_cases c1:j=n
 · clear ih;refine U14 ?_;refine .rt hK func67 results67 [_] ?_;exact okB
 · have c2:j<n:=by omega
   obtain h0|⟨ab,ao,f,gs,gt,gz,rfl,hb,hl⟩:=hA
   · omega
   obtain h0|⟨ab2,ao2,f2,gs2,gt2,gz2,rfl,hb2,hl2⟩:=hB
   · omega
   have f1:=hl j c2;have f3:=hl2 j c2;by_cases c3:x j=0
   · refine U13 ?_;refine Tc.dr [] [] mixed rfl ?_;refine .nn 0 ?_;refine .nn 1 ?_;refine .nn 2 ?_;refine .nn 3 ?_;refine .nn 4 ?_;refine .nn 5 ?_;refine .nw 6 ?_;refine .nw 7 ?_;refine .nw 8 ?_;refine .nw 9 ?_;refine .nw 10 ?_;refine .nw 11 ?_;refine .nw 12 ?_;refine .nw 13 ?_;refine .nw 14 ?_;refine .nn 15 ?_;refine .dn ?_;refine U8 ?_;exact Tc.db (ih ⟨j+1,by omega⟩ (by simp only;omega))
   · have c4:=h j c2 c3;refine U13 ?_;refine Tc.dr [] [] mixed rfl ?_;refine .nn 0 ?_;refine .nn 1 ?_;refine .nn 2 ?_;refine .nn 3 ?_;refine .nn 4 ?_;refine .nn 5 ?_;refine .nn 6 ?_;refine .nn 7 ?_;refine .nn 8 ?_;refine .nn 9 ?_;refine .nn 10 ?_;refine .nn 11 ?_;refine .nn 12 ?_;refine .nn 13 ?_;refine .nn 14 ?_;refine .nn 15 ?_;refine .dn ?_;refine U8 ?_;exact Tc.db (ih ⟨j+1,by omega⟩ (by simp only;omega))
theorem HeardG_l(k:Bk)(A:Option Addr)(lc:Nat)(B:Option Addr)(tc:Nat)(hk:BkAt H k A lc B tc)(hn:k.small)(hG:Glob H)(ha:k.alarm=0):
   CallT M 49 #[k.val A lc B tc] H (fun v H'=> H.le H'∧∃(G:Option Addr) (n c:Nat),n=k.heardL.length∧v=.tuple ⟨[.slice G n c,.int .i64 0]⟩∧StrsAt H' G n (fun j=> k.heardL[j]?.getD [])):=
 CallT.mono (HeardG_c M H k A lc B tc hk hn hG ha) (by
   rintro v H' ⟨h1,g,rfl,⟨h2,h3⟩,h4⟩;have h5:=g.src (H:=H') (fun x hx=> (h4 x hx).1);rw[h3] at h5;exact⟨h1,g.blk.map (fun b=> ⟨b,0,none⟩),g.n,g.cap,h2,rfl,strs_src h5 h2⟩)
theorem Reaches_l(k:Bk)(A:Option Addr)(lc:Nat)(B:Option Addr)(tc:Nat)(hk:BkAt H k A lc B tc)(hn:k.small)(hG:Glob H)(ha:k.alarm=0):
   CallT M 50 #[k.val A lc B tc] H (fun v H'=> H.le H'∧∃(G:Option Addr) (c:Nat),v=.tuple ⟨[.slice G k.nl c,.int .i64 (k.claimOf (-1)),.int .i64 0]⟩∧FreeAt H' G k.nl (fun i=> k.claimOf (i:Nat))):=
 CallT.mono (Reaches_c M H k A lc B tc hk hn hG ha) (by
   rintro v H' ⟨h1,g,rfl,⟨h2,h3⟩,h4⟩;have hF:=cl_at g (fun x hx=> (h4 x hx).1) h3 h2;refine⟨h1,g.blk.map (fun b=> ⟨b,0,none⟩),g.cap,?_,hF⟩;unfold reachV Gl.val;rw[h2])
theorem fewer_c(k:Bk)(A:Option Addr)(lc:Nat)(B:Option Addr)(tc:Nat)(hk:BkAt H k A lc B tc)(hsm:k.small)(hal:k.alarm=0)(o:Bk)(A2:Option Addr)(lc2:Nat)(B2:Option Addr)(tc2:Nat)(hO:BkAt H o A2 lc2 B2 tc2)(hosm:o.small)(ho:o.alarm=0)(hG:Glob H)(hless:o.Less k):
   CallT M 20 #[k.val A lc B tc,o.val A2 lc2 B2 tc2] H (fun v H'=> H.le H'∧v=.bool true):=by
 have hsub:=hless.heard;have hcl:=hless.claim ho;have hl1:=heard_len hal;have hl2:=heard_len ho;have hnl:=hless.nl;obtain⟨_,hnl6,_,_⟩:=Bk.valid hal;refine .en func20 ntmps20 fun St c cs hK=> ?_;refine U2 ?_;refine .bo fun b2=> ?_;refine .bo fun b3=> ?_;refine U5 ?_;refine To.callF rfl rfl rfl rfl rfl rfl (by decide) (FnT.h (HeardG_l M H k A lc B tc hk hsm hG hal)) (fun v H₃ hv=> ?_);obtain⟨hle3,G3,n3,c3,hn3,rfl,hS3⟩:=hv;refine U9 ?_;refine To.callF rfl rfl rfl rfl rfl rfl (by decide) (FnT.h (HeardG_l M H₃ o A2 lc2 B2 tc2 (hO.le hle3) hosm (glob_le hG hle3) ho)) (fun v H₄ hv=> ?_);obtain⟨hle4,G4,n4,c4,hn4,rfl,hS4⟩:=hv;have hH4:=View.le_trans hle3 hle4;refine U9 ?_;refine To.callF rfl rfl rfl rfl rfl rfl (by decide) (FnT.h (Reaches_l M H₄ k A lc B tc (hk.le hH4) hsm (glob_le hG hH4) hal)) (fun v H₅ hv=> ?_);obtain⟨hle5,G5,c5,rfl,hF5⟩:=hv;have hH5:=View.le_trans hH4 hle5;refine U11 ?_;refine To.callF rfl rfl rfl rfl rfl rfl (by decide) (FnT.h (Reaches_l M H₅ o A2 lc2 B2 tc2 (hO.le hH5) hosm (glob_le hG hH5) ho)) (fun v H₆ hv=> ?_);obtain⟨hle6,G6,c6,rfl,hF6⟩:=hv;rw[hnl] at hF6 ⊢;have hH6:=View.le_trans hH5 hle6;have hsubc:=fun(H':View) (h:H₆.le H')=> subset_c M H' G4 n4 c4 _ (hS4.le (View.le_trans hle5 (View.le_trans hle6 h))) G3 n3 c3 _ (hS3.le (View.le_trans hle4 (View.le_trans hle5 (View.le_trans hle6 h)))) (by omega) (by omega) (fun i hi=> heard_first hn3 hsub (by omega));have hkep:=fun(H':View) (h:H₆.le H')=> kept_c M H' G5 k.nl c5 _ (hF5.le (View.le_trans hle6 h)) G6 c6 _ (hF6.le h) (by omega) (fun i _=> hcl (i:Nat));have hc1:=hcl (-1);have hc2:=k.claimOf_in (-1);generalize k.claimOf (-1)=cc at hc1 hc2;generalize o.claimOf (-1)=dd at hc1;by_cases q:cc=0
 · refine U27 ?_;refine .c rfl rfl rfl rfl (fun H hs=> .h (hsubc H hs.base)) ?_;refine U4 ?_;refine .c rfl rfl rfl rfl (fun H hs=> .h (hkep H hs.base)) ?_;refine U12 ?_;refine .rt hK func20 results20 [_] ?_;exact fun H' hs=> ⟨View.le_trans hH6 hs.base,rfl⟩
 · have q2:=hc1 q;refine U27 ?_;refine .c rfl rfl rfl rfl (fun H hs=> .h (hsubc H hs.base)) ?_;refine U4 ?_;refine .c rfl rfl rfl rfl (fun H hs=> .h (hkep H hs.base)) ?_;refine U12 ?_;refine .rt hK func20 results20 [_] ?_;exact fun H' hs=> ⟨View.le_trans hH6 hs.base,rfl⟩
end
end Go.Proofs.YtldmfjcgjdchcaaGreatDoor
namespace Go.RL
section
variable {P:Program}{E:Env P}{M:Md P}{n:Nat}{H₀:View}{R:Rg}{L:Bl}{K:Rg→Bl→Prop}{o:Oper}{d:Nat}
theorem Or.appendAmid(k:Nat)(T:Bl→Bl){Y:Bl}(hT:∀B,(T B).Perm (Y++B)){cl:Go.Call}{x y:Operand}{t xt e:TypeId}{sz m:Nat}{yv:Value}{new:List Value}{g:Gl e sz}{r re rx:TyRow}{ex:TypeId}(hop:o.op=.call cl)(hcl:cl.callee=.builtin .append)(hat:cl.argTypes=#[t,xt])(har:cl.args=#[x,y])
   (hx:evR R x=some g.val) (hy:evR R y=some yv) (ht:E.ty t=some r) (hds:r.ds=.slice e) (hre:E.ty e=some re) (hsz:re.size=sz) (hzs:Nat.beq re.zero.cells.toList.length sz=true) (hxt:E.ty xt=some rx) (hex:rx.ds=.slice ex) (hby:Nat.ble re.bytes 1000=true)
   (hL:L.drop k=T g.bl) (hsrc:∀H,SymSt H₀ L H→SrcAt H sz yv m new) (hs:new.all single=true) (hm:g.n+m≤1000000000) (hd:o.dst=some d) (hn:d<n)
   (hk:∀g':Gl e sz,g'.n=g.n+m→g'.l=g.l++new→K ((d,g'.val)::R) (L.take k++T g'.bl)):Or M n H₀ R L o K:=
 .val hd hn fun H tmps hst hr=> by
   have hLe:L=L.take k++T g.bl:=by rw[←hL,List.take_append_drop]
   unfold execOp;rw[hop];simp only[resolve,hcl,hat,har];have hm':Array.map (evT tmps) #[x,y]=#[g.val,yv]:=by simp[hr.ev hx,hr.ev hy]
   rw[hm'];have hp:∀B,((L.take k++Y)++B).Perm (L.take k++T B):=fun B=> by rw[List.append_assoc];exact(List.Perm.refl _).append (hT B).symm
   have hst0:=hst;rw[hLe] at hst0;have hst2:SymSt H₀ ((L.take k++Y)++g.bl) H:=hst0.perm (hp g.bl);refine vwp_bind (Builtin.append_ #[t,xt] o.type #[g.val,yv]) _ ?_;refine vwp_append ht hds hre hsz (Nat.eq_of_beq_eq_true hzs) ⟨rx,ex,hxt,hex⟩ (Nat.le_of_ble_eq_true hby) hm (fun z hz=> hst2.at_ z (by simp[hz])) (hsrc H hst) hs fun g' H' h1 h2 h3 h4 h5=> ?_;exact⟨_,rfl,_,(hst2.grown h3 h4 h5).perm (hp g'.bl).symm,hk g' h1 h2⟩
theorem in_one(Y:Bl):∀B:Bl,(B++Y).Perm (Y++B):=fun _=> List.perm_append_comm
end
end Go.RL
namespace Go.Proofs.YtldmfjcgjdchcaaGreatDoor
open Go.RL Go.Proofs.Tryz
set_option maxRecDepth 10000
set_option maxHeartbeats 8000000
def Bk.pause(k:Bk)(a b:Int):Bk:= { k with qf:=fun i=> if i=0 then a else k.qf i,qt:=fun i=> if i=0 then b else k.qt i }
theorem pause_alarm {k:Bk}(ha:k.alarm=0){a b:Int}(h:0≤a∧a≤b∧b≤99):(k.pause a b).alarm=0:=by
 obtain⟨h1,h2,h3⟩:=Bk.alarm0 ha;obtain⟨_,_,hnt,hok⟩:=Bk.valid ha;have e1:(k.pause a b).pausesA=0:=h1;have e2:(k.pause a b).linesA=0:=h2;have e3:(k.pause a b).trainsA=0:=by
   unfold Bk.trainsA;have hn:¬6<(k.pause a b).nt:=by show ¬6<k.nt;omega
   rw[if_neg hn];have:firstTo (k.pause a b).trainBad (k.pause a b).nt=none:=(firstTo_none _).2 fun i hi=> by
     unfold Bk.trainBad;have hi':i<k.nt:=hi;have:trainOk ((k.pause a b).pf i) ((k.pause a b).pt i) ((k.pause a b).qf i) ((k.pause a b).qt i)=true:=by
       have h4:trainOk (k.pf i) (k.pt i) (k.qf i) (k.qt i)=true:=hok i hi';show trainOk (k.pf i) (k.pt i) (if i=0 then a else k.qf i) (if i=0 then b else k.qt i)=true;unfold trainOk at h4 ⊢;simp only[Bool.and_eq_true,decide_eq_true_eq] at h4 ⊢;split
       · omega
       · omega
     rw[this];rfl
   rw[this];rfl
 unfold Bk.alarm;rw[if_pos e1,if_pos e2,e3]
theorem kind_le(k:Bk){p q:Int}(h:p≤q):k.kind p≤k.kind q:=by
 have c1:=kind_cases k p;have c2:=kind_cases k q;omega
theorem pause_less(k:Bk){a b c d:Int}(h1:c≤a)(h2:b≤d):(k.pause a b).Less (k.pause c d):=by
 refine⟨rfl,rfl,rfl,fun i x hx=> ?_⟩;have g1:x∈canL (k.pf i).toNat (k.pt i).toNat (k.kind (if i=0 then a else k.qf i)) (k.kind (if i=0 then b else k.qt i)):=hx;show x∈canL (k.pf i).toNat (k.pt i).toNat (k.kind (if i=0 then c else k.qf i)) (k.kind (if i=0 then d else k.qt i));rw[mem_canL] at g1 ⊢;by_cases hi:i=0
 · simp only[if_pos hi] at g1 ⊢;have:=kind_le k h1;have:=kind_le k h2;omega
 · simp only[if_neg hi] at g1 ⊢;exact g1
section
variable(M:Md prog)(H:View)
theorem trains_of {H:View}{k:Bk}{b c:Nat}{f:Bool}{junk:List Value}{e:TypeId}{fz:Nat×Nat}(hc:k.nt≤c)(h:H b=some (f,.cells ⟨flatR k.nt (trainL k)++junk⟩ e fz)):TrainsAt H k (some ⟨b,0,none⟩) c:=by
 refine⟨hc,.inr ⟨b,0,f,_,e,fz,rfl,h,fun i hi=> ?_⟩⟩;rw[Nat.zero_add,Int.toNat_natCast];exact flatR_ld (sz:=4) (fun _=> rfl) hi junk
theorem paused_c(k:Bk)(A:Option Addr)(lc:Nat)(B:Option Addr)(tc:Nat)(F:Nat→Option Addr)(fc:Nat→Nat)(hB:BookAt H k A lc B tc F fc)(hsm:k.small)(hnm:∀i,i<k.nl→(k.name i).length≤1000000)(ha:k.alarm=0)(h0:0<k.nt)(a b:Int)(hab:0≤a∧a≤b∧b≤99):
   CallT M 19 #[k.val A lc B tc,bandV a b] H (fun v H'=> H.le H'∧∃B' tc',v=.tuple ⟨[(k.pause a b).val A lc B' tc',.bool true]⟩∧BkAt H' (k.pause a b) A lc B' tc'):=by
 obtain⟨_,_,hnt6,_⟩:=Bk.valid ha;have hal:=pause_alarm ha hab;have hk:=hB.bk;refine .en func19 ntmps19 fun St c cs hK=> ?_;refine U2 ?_;refine .bo fun b2=> ?_;refine .bo fun b3=> ?_;refine .al fun b4=> ?_;refine U5 ?_;refine .al fun b6=> ?_;refine U4 ?_;refine .e (.bs (zz:=fun be=> ?_));refine U2 ?_;refine .e (Or.appendAmid (E:=en) (g:=Gl.emp 39 4 be) (m:=k.nt) (new:=flatR k.nt (trainL k)) (yv:=.slice B k.nt tc) 0 (fun Bb=> Bb++[(b6,true,.cells ⟨(k.val A lc B tc).cells.toList⟩ 45 (0,0)),(b4,true,.cells ⟨[.int .i64 0,.int .i64 0,.slice none 0 0,.slice none 0 0]⟩ 45 (0,0)),(b3,true,.cells ⟨[.int .i64 a,.int .i64 b]⟩ 37 (0,0)),(b2,true,.cells ⟨(k.val A lc B tc).cells.toList⟩ 45 (0,0))]) (in_one _) rfl rfl rfl rfl rfl rfl rfl rfl rfl rfl rfl rfl rfl rfl rfl (fun H hs=> hB.trains.mono hs.base) (flatR_single (trainL_single k) _) (by show 0+_≤_;omega) rfl (by decide) (fun g2 hn2 hl2=> ?_));obtain⟨gb,gn,gc,gl,gj,q1,q2,q3,q4⟩:=g2;simp only[Gl.emp,Nat.zero_add,List.nil_append] at hn2 hl2;subst hn2 hl2;cases gb with
 | none=> have:=q4 rfl;omega
 | some tb=>
   have hst:stL (flatR k.nt (trainL k)++gj) (0+(0:Int).toNat*4+2) [.int .i64 a,.int .i64 b]=flatR k.nt (trainL (k.pause a b))++gj:=by
     have h1:=flatR_row (f:=trainL k) (g:=trainL (k.pause a b)) (sz:=4) (fun _=> rfl) (fun _=> rfl) h0 gj (fun i _ hi=> by simp[trainL,Bk.pause,hi]);rw[←h1];obtain⟨t,g1,_⟩:=flatR_split (f:=trainL k) k.nt 0 h0;rw[g1];simp[stL,trainL,Bk.pause,flatR]
   have f3:Nat.ble (0+(0:Int).toNat*4+2+2) (flatR k.nt (trainL k)++gj).length=true:=by
     refine Nat.ble_eq_true_of_le ?_;rw[List.length_append,flatR_len (f:=trainL k) (sz:=4) (fun _=> rfl)];show 0+0*4+2+2≤_;omega
   have hbk:∀H':View,H.le H'→H' tb=some (true,.cells ⟨flatR k.nt (trainL (k.pause a b))++gj⟩ 39 (0,0))→BkAt H' (k.pause a b) A lc (some ⟨tb,0,none⟩) gc:=fun H' hle hc=> by
     exact⟨(hk.le hle).rows,trains_of (k:=k.pause a b) q2 hc⟩
   have hch:=fun(H':View) (h:BkAt H' (k.pause a b) A lc (some ⟨tb,0,none⟩) gc)=> isV (refCheckBook_c M H' (k.pause a b) A lc (some ⟨tb,0,none⟩) gc h ⟨hsm.nl,hsm.nt,hsm.num⟩ hnm) (w':=.int .i64 0) (by rw[hal]);show To M St _ _ _ _ _ ((11,.slice (some ⟨tb,0,none⟩) k.nt gc)::_) ((tb,true,.cells ⟨flatR k.nt (trainL k)++gj⟩ 39 (0,0))::_) _ _ _;refine U13 ?_;refine Tc.dr [4] [2] mixed rfl ?_;refine .nn 0 ?_;refine .nw 1 ?_;refine .z 2 rfl (OpV.takeCall rfl rfl rfl rfl (fun H hs=> .h (hch H (hbk H hs.base (hs.get (i:=0) rfl))))) ?_;refine .nw 3 ?_;refine .e 4 2 ?_;refine .nw 5 ?_;refine .dn ?_;refine .rt hK func19 results19 [_,_] ?_;exact fun H' hs=> ⟨hs.base,some ⟨tb,0,none⟩,gc,rfl,hbk H' hs.base (hs.get (i:=0) rfl)⟩
end
end Go.Proofs.YtldmfjcgjdchcaaGreatDoor
namespace Go.Proofs.YtldmfjcgjdchcaaGreatDoor.Sg
open Go.RL Go.Proofs.Tryz
set_option maxHeartbeats 8000000
set_option maxRecDepth 10000
structure Lk.Past(k:Lk)(c:Nat)(a r n:Int)(mv:List Int):Prop where
 send:k.s0≤a∧a≤k.s1
 read:k.r0≤r∧r≤k.r1
 lean:k.l0≤n∧n≤k.l1
 len:mv.length=(placesTo c 7).length
 moves:∀m∈mv,k.m0≤m∧m≤k.m1
set_option maxHeartbeats 4000000
section
variable(M:Md prog)(H:View)
variable(k:Lk)(hG:Glob H)(hk:k.ok=true)(code:Nat)(hc:code<32)(a r n:Int)(mv:List Int)(hP:k.Past code a r n mv)(A:Option Addr)(m ca:Nat)(hm:m=(placesTo code 7).length)(hA:Nums H A mv)
include hG hk hc hP hm hA
end
set_option maxHeartbeats 16000000
section
variable(M:Md prog)(H:View)
end
section
variable(M:Md prog)
end
theorem places_first:∀co:Nat,co<32→(placesTo co 7)[0]?.getD 0=0∧2≤(placesTo co 7).length:=by decide +kernel
section
variable(M:Md prog)(H:View)
end
set_option maxHeartbeats 8000000
section
variable(M:Md prog)(H:View)
end
set_option maxHeartbeats 4000000
section
variable(M:Md prog)(H:View)
end
set_option maxHeartbeats 8000000
section
variable(M:Md prog)(H:View)
end
section
variable(M:Md prog)(H:View)
end
section
variable(M:Md prog)(H:View)
end
section
variable(M:Md prog)(H:View)
end
section
variable(M:Md prog)(H:View)
end
set_option maxHeartbeats 16000000
section
variable(M:Md prog)(H:View)
end
set_option maxHeartbeats 8000000
section
variable(M:Md prog)(H:View)
end
def bl(x:Nat):Nat:=if x=0 then 0 else Nat.log2 x+1
section
variable(M:Md prog)(H:View)
end
section
variable(M:Md prog)(H:View)
end
section
variable(M:Md prog)(H:View)
end
set_option maxHeartbeats 16000000
section
variable(M:Md prog)
end
set_option maxHeartbeats 8000000
section
variable(M:Md prog)(H:View)
end
set_option maxHeartbeats 4000000
section
variable(M:Md prog)(H:View)
end
set_option maxHeartbeats 8000000
section
variable(M:Md prog)(H:View)
def Bad(k:Lk)(co:Int):Prop:=k.ok=false∨¬(0≤co∧co≤31)
theorem Bad.no {k:Lk}{co:Int}(h:Bad k co):¬(k.ok=true∧0≤co∧co≤31):=fun⟨h1,h2⟩=> h.elim (fun h=> by rw[h1] at h;cases h) (fun h=> h h2)
end
theorem firstBad {p:Nat→Prop} [DecidablePred p]:∀n:Nat,(∀i,i<n→p i)∨∃j,j<n∧(∀i,i<j→p i)∧¬p j
 | 0=> .inl fun i h=> absurd h (Nat.not_lt_zero i)
 | n + 1 => by
   rcases firstBad n (p:=p) with h|⟨j,h1,h2,h3⟩
   · by_cases hn:p n
     · exact .inl fun i hi=> by
         rcases Nat.lt_succ_iff_lt_or_eq.1 hi with h'|rfl
         · exact h i h'
         · exact hn
     · exact .inr ⟨n,Nat.lt_succ_self n,h,hn⟩
   · exact .inr ⟨j,by omega,h2,h3⟩
section
variable(M:Md prog)(H:View)
end
theorem Nums.times {H:View}{A:Option Addr}{l:List Int}(h:Nums H A l)(hne:l≠ []):TimesAt H A l:=by
 rcases h with h|⟨ab,ao,f,gs,gt,gz,h1,h2,h3⟩
 · exact(hne h).elim
 · have hg:∀j,j<l.length→gs[ao+j]? =some (.int .i64 (l[j]?.getD 0)):=fun j hj=> by
     have:=h3 j hj;rw[Int.toNat_natCast,Nat.mul_one] at this;exact this
   have hlen:ao+l.length≤gs.length:=by
     have hp:0<l.length:=List.length_pos_iff.2 hne;have:=hg (l.length-1) (by omega);have:=(List.getElem?_eq_some_iff.1 this).1;omega
   refine⟨ab,ao,f,gs,gt,gz,h1,h2,by omega,?_⟩;rw[Nat.mul_one];apply List.ext_getElem?
   intro j;by_cases hj:j<l.length
   · rw[List.getElem?_take_of_lt hj,List.getElem?_drop,hg j hj];unfold intsL;rw[List.getElem?_map,List.getElem?_eq_getElem hj];rfl
   · rw[List.getElem?_eq_none (by rw[List.length_take];omega),List.getElem?_eq_none (by rw[intsL_len];omega)]
section
variable(M:Md prog)(H:View)
theorem told_err(l:List Int)(A:Option Addr)(n ca:Nat)(hn:n=l.length)(h6:n≤20)(hA:Nums H A l)(j:Nat)(hj:j<n)(hb:∀i,i<j→ -999≤l[i]?.getD 0∧l[i]?.getD 0≤999)(hx:¬(-999≤l[j]?.getD 0∧l[j]?.getD 0≤999)):
   CallT M 64 #[.slice A n ca] H (fun v H'=> H.le H'∧v=.tuple ⟨[timesV [0,0,0,0,0,0],.int .i64 1]⟩):=by
 refine .en func64 ntmps64 fun St c cs hK=> ?_;refine U2 ?_;refine .al fun b2=> ?_;refine U4 ?_;refine .al fun b4=> ?_;refine U9 ?_;refine Tc.db (Tc.loopInv (σ:= { i:Nat//i≤j }) (fun i=> ([(2,.pointer (some ⟨b2,0,none⟩)),(4,.pointer (some ⟨b4,0,none⟩)),(7,.slice A n ca),(8,.int .i64 (n:Nat)),(9,.int .i64 (i.1:Nat))],
   [(b4,true,.cells ⟨[.int .i64 0,.int .i64 0,.int .i64 0,.int .i64 0,.int .i64 0,.int .i64 0]⟩ 139 (0,0)),(b2,true,.cells ⟨[.int .i64 0,.int .i64 0,.int .i64 0,.int .i64 0,.int .i64 0,.int .i64 0]⟩ 139 (0,0))])) (fun i=> j-i.1) ?_ ⟨0,Nat.zero_le _⟩)
 rintro⟨i,hi⟩ ih;show Tc M St _ _ _ _ [(2,.pointer (some ⟨b2,0,none⟩)),(4,.pointer (some ⟨b4,0,none⟩)),(7,.slice A n ca),(8,.int .i64 (n:Nat)),(9,.int .i64 (i:Nat))]
   [(b4,true,.cells ⟨[.int .i64 0,.int .i64 0,.int .i64 0,.int .i64 0,.int .i64 0,.int .i64 0]⟩ 139 (0,0)),(b2,true,.cells ⟨[.int .i64 0,.int .i64 0,.int .i64 0,.int .i64 0,.int .i64 0,.int .i64 0]⟩ 139 (0,0))] _ _
 have c2:i<n:=by omega
 rcases hA with hA|⟨a1,a2,a3,a4,a5,a6,rfl,a7,a8⟩
 · rw[hA] at hn;simp at hn;omega
 have f1:=a8 i (by omega);by_cases c1:i=j
 · subst c1;by_cases c3:l[i]?.getD 0 < -999
   · refine U31 ?_;refine .rt hK func64 results64 [_,_] ?_;exact okB
   · refine U31 ?_;refine .rt hK func64 results64 [_,_] ?_;exact okB
 · have f2:=hb i (by omega);refine U31 ?_;exact Tc.db (ih ⟨i+1,by omega⟩ (by simp only;omega))
end
def Far(l:List Int):Prop:=∃j,j<l.length∧(∀i,i<j→ -999≤l[i]?.getD 0∧l[i]?.getD 0≤999)∧¬(-999≤l[j]?.getD 0∧l[j]?.getD 0≤999)
theorem Far.or(l:List Int):Far l∨∀x∈l, -999≤x∧x≤999:=by
 rcases firstBad (p:=fun i=> -999≤l[i]?.getD 0∧l[i]?.getD 0≤999) l.length with h|⟨j,g1,g2,g3⟩
 · refine .inr fun m hm=> ?_;obtain⟨i,hi,rfl⟩:=List.getElem_of_mem hm;have:=h i hi;rw[List.getElem?_eq_getElem hi] at this;exact this
 · exact .inl ⟨j,g1,g2,g3⟩
inductive TErr(k:Lk):Int→List Int→Int→Prop
 | bad {co:Int} {l:List Int}:Bad k co→TErr k co l 1
 | tally {co:Nat} {l:List Int}:k.ok=true→co<32→l.length≠(placesTo co 7).length→TErr k co l 2
 | limit {co:Nat} {l:List Int}:k.ok=true→co<32→l.length=(placesTo co 7).length→Far l→TErr k co l 1
 | conflict {co:Nat} {l:List Int}:k.ok=true→co<32→l.length=(placesTo co 7).length→(∀x∈l, -999≤x∧x≤999)→k.tune (placesTo co 7) (pad6 l)=none→TErr k co l 10
def TAns(k:Lk)(co:Int)(l:List Int)(a b e:Int):Prop:=
 TErr k co l e∧a=0∧b=0∨k.ok=true∧∃code:Nat,co=(code:Int)∧code<32∧l.length=(placesTo code 7).length∧(∀x∈l, -999≤x∧x≤999)∧k.tune (placesTo code 7) (pad6 l)=some (a,b)∧e=0
theorem TAns.some(k:Lk)(co:Int)(l:List Int):∃a b e,TAns k co l a b e:=by
 by_cases hb:Bad k co
 · exact⟨0,0,1,.inl ⟨.bad hb,rfl,rfl⟩⟩
 · have hk:k.ok=true:=by
     cases h:k.ok with
     | true=> rfl
     | false=> exact(hb (.inl h)).elim
   have hcr:0≤co∧co≤31:=Classical.byContradiction fun h=> hb (.inr h);obtain⟨code,rfl⟩:∃n:Nat,co=(n:Int):=⟨co.toNat,by omega⟩
   have hc:code<32:=by omega
   by_cases h1:l.length=(placesTo code 7).length
   · rcases Far.or l with h2|h2
     · exact⟨0,0,1,.inl ⟨.limit hk hc h1 h2,rfl,rfl⟩⟩
     · cases h3:k.tune (placesTo code 7) (pad6 l) with
       | none=> exact⟨0,0,10,.inl ⟨.conflict hk hc h1 h2 h3,rfl,rfl⟩⟩
       | some ab=> exact⟨ab.1,ab.2,0,.inr ⟨hk,code,rfl,hc,h1,h2,h3,rfl⟩⟩
   · exact⟨0,0,2,.inl ⟨.tally hk hc h1,rfl,rfl⟩⟩
theorem told_of {l:List Int}{code:Nat}(hc:code<32)(h:l.length=(placesTo code 7).length)(hb:∀x∈l, -999≤x∧x≤999):Told l:=by
 obtain⟨hp0,hp6,_⟩:=places_in code hc;exact⟨by omega,fun e=> by rw[e] at h;simp at h;omega,hb⟩
section
variable(M:Md prog)(H:View)
theorem Tune_no(k:Lk)(co:Int)(hG:Glob H)(h:Bad k co)(A:Option Addr)(n ca:Nat):CallT M 18 #[k.val,.int .i64 co,.slice A n ca] H (fun v H'=> H.le H'∧v=.tuple ⟨[bandV 0 0,.int .i64 1]⟩):=by
 refine .en func18 ntmps18 fun St c cs hK=> ?_;refine U2 ?_;refine .bo fun b3=> ?_;refine .al fun b6=> ?_;refine U6 ?_;refine .c rfl rfl rfl rfl (fun H hs=> .h (open_no M H k co (glob_le hG hs.base) h.no)) ?_;refine U4 ?_;refine .al fun b8=> ?_;refine .al fun b9=> ?_;refine U18 ?_;refine .rt hK func18 results18 [_,_] ?_;exact fun H2 hs=> ⟨hs.base,rfl⟩
theorem Tune_far(k:Lk)(code:Nat)(hG:Glob H)(hk:k.ok=true)(hc:code<32)(l:List Int)(A:Option Addr)(n ca:Nat)(hn:n=l.length)(hlen:l.length=(placesTo code 7).length)(hA:Nums H A l)(hf:Far l):CallT M 18 #[k.val,.int .i64 code,.slice A n ca] H (fun v H'=> H.le H'∧v=.tuple ⟨[bandV 0 0,.int .i64 1]⟩):=by
 obtain⟨j,g1,g2,g3⟩:=hf;have hp6:=(places_in code hc).2.1;refine .en func18 ntmps18 fun St c cs hK=> ?_;refine U2 ?_;refine .bo fun b3=> ?_;refine .al fun b6=> ?_;refine U6 ?_;refine .e (Or.callNew (fun x=> .tuple ⟨[k.val,letN code x,.int .i64 0]⟩) (letB code) (fun x=> (placesTo code 7).length≤x.2.1) rfl rfl rfl rfl rfl (by decide) (letB_nodup code) (fun H hs=> .h (open_m M H k code (glob_le hG hs.base) hk hc)) (fun x hx=> ?_));refine U4 ?_;refine .al fun b8=> ?_;refine .al fun b9=> ?_;refine U27 ?_;refine .c rfl rfl rfl rfl (fun H hs=> .h (told_err M H l A n ca hn (by omega) (hA.le hs.base) j (by omega) g2 g3)) ?_;refine U3 ?_;refine .al fun b11=> ?_;refine U17 ?_;refine .rt hK func18 results18 [_,_] ?_;exact fun H2 hs=> ⟨hs.base,rfl⟩
theorem Tune_any(k:Lk)(co:Int)(l:List Int)(a b e:Int)(h:TAns k co l a b e)(hG:Glob H)(A:Option Addr)(n ca:Nat)(hn:n=l.length)(hA:Nums H A l):CallT M 18 #[k.val,.int .i64 co,.slice A n ca] H (fun v H'=> H.le H'∧v=.tuple ⟨[bandV a b,.int .i64 e]⟩):=by
 rcases h with ⟨h,rfl,rfl⟩|⟨hk,code,rfl,hc,h1,h2,h3,rfl⟩
 · cases h with
   | bad h=> exact Tune_no M H k co hG h A n ca
   | @tally code _ hk hc h1=> exact Tune_tally M H k code hG hk hc A n ca (by omega)
   | @limit code _ hk hc h1 h2=> exact Tune_far M H k code hG hk hc l A n ca hn h1 hA h2
   | @conflict code _ hk hc h1 h2 h3=>
     subst hn;have hT:=told_of hc h1 h2;have h9:=(places_first code hc).2;exact CallT.mono (Tune_c M H k code hG hk hc l hT (by omega) h1 A ca (hA.times hT.pos)) (by rintro v H' ⟨g1,g2⟩;rw[h3] at g2;exact⟨g1,g2⟩)
 · subst hn;have hT:=told_of hc h1 h2;have h9:=(places_first code hc).2;exact CallT.mono (Tune_c M H k code hG hk hc l hT (by omega) h1 A ca (hA.times hT.pos)) (by rintro v H' ⟨g1,g2⟩;rw[h3] at g2;exact⟨g1,g2⟩)
end
end Go.Proofs.YtldmfjcgjdchcaaGreatDoor.Sg
namespace Go.RL
section
variable {P:Program}{M:Md P}{St:View→Goroutine→Prop}{n:Nat}{b:FB}{H₀:View}{cs:List Frame}{R:Rg}{L:Bl}{ds:List Deferred}{todo:List Item}
theorem Tc.absorb(A B:Bl)(p:(A++B).Perm L)(h:∀H₁:View,H₀.le H₁→(∀x∈B,H₁ x.1=some x.2)→Tc M St n b H₁ cs R A ds todo):Tc M St n b H₀ cs R L ds todo:=fun H tmps hs hr=> by
 obtain⟨H₂,h1,h2⟩:=(hs.perm p).unappend;exact h H₂ h2.base h2.at_ H tmps h1 hr
end
end Go.RL
namespace Go.Proofs.YtldmfjcgjdchcaaGreatDoor
open Go.RL Go.Proofs.Tryz
set_option maxRecDepth 10000
set_option maxHeartbeats 16000000
theorem tans_band {k:Sg.Lk}{co:Int}{l:List Int}{a b:Int}(h:Sg.TAns k co l a b 0):k.s0≤a∧a≤b∧b≤k.s1:=by
 rcases h with ⟨h,_,_⟩|⟨_,code,_,_,_,_,h,_⟩
 · generalize he:(0:Int)=e at h;cases h <;> omega
 · obtain⟨_,_,h1,h2,h3⟩:=Sg.Lk.tune_in h;exact⟨h2,h1,h3⟩
theorem lk_send {k:Sg.Lk}(h:k.ok=true):1≤k.s0∧k.s0≤k.s1∧k.s1≤40:=by
 rw[Sg.Lk.ok_eq] at h;simp only[Bool.and_eq_true] at h;obtain⟨⟨h4,_⟩,_⟩:=h;have h7:1≤k.s0∧k.s0≤k.s1∧k.s1≤40∧k.s1-k.s0<3:=of_decide_eq_true h4;omega
section
variable(H:View)
theorem Paced_w {St:View→Goroutine→Prop}{cs:List Frame}(hG:Glob H)(hC:Sg.Glob H)(k:Bk)(A:Option Addr)(lc:Nat)(B:Option Addr)(tc:Nat)(F:Nat→Option Addr)(fc:Nat→Nat)(hB:BookAt H k A lc B tc F fc)(q:Sg.Lk)(p:Int)(hp:0≤p∧p<256)(X:Option Addr)(l:List Int)(n xc:Nat)(hn:n=l.length)(hX:Sg.Shorts H X l)
   (hR:∀(H₀:View) (R:Rg) (L:Bl) (kk:List Item),lk R 8=some (.bool true)→H.le H₀→Tc (Mp prog) St 88 ⟨4,.normal,none⟩ H₀ cs R L [] (.code .ret::kk)):
   Tc (Mp prog) St 88 ⟨4,.normal,none⟩ H cs (argR [k.val A lc B tc,q.val,.int .u8 p,.slice X n xc]) [] [] [.code (bodyOf Tryz.f4)]:=by
 have hk:=hB.bk;have hlives:=fun(H':View) (h:H.le H')=> lives_c H' (glob_le hG h);have hfitc:=fun(H':View) (h:H.le H') (t:Bool) (ht:k.fit=t)=> Fit_c (Mp prog) H' k A lc B tc (hk.le h) t ht;have hokc:=fun(H':View) (t:Bool) (ht:q.ok=t)=> isV (Sg.Fit_c (Mp prog) H' q) (w':=.bool t) (by rw[ht]);obtain⟨qo,hq⟩:∃qo,q.ok=qo:=⟨_,rfl⟩
 cases hfit:k.fit with
 | false=>
   refine U2 ?_;refine .bo fun b4=> ?_;refine .bo fun b5=> ?_;refine U6 ?_;refine .c rfl rfl rfl rfl (fun H hs=> .h (hfitc H hs.base false hfit)) ?_;refine U21 ?_;refine .c rfl rfl rfl rfl (fun H hs=> .h (hlives H hs.base)) ?_;refine U2 ?_;exact hR _ _ _ _ rfl (View.le_refl _)
 | true=>
   by_cases h0:k.nt=0
   · refine U2 ?_;refine .bo fun b4=> ?_;refine .bo fun b5=> ?_;refine U6 ?_;refine .c rfl rfl rfl rfl (fun H hs=> .h (hfitc H hs.base true hfit)) ?_;refine U21 ?_;refine .c rfl rfl rfl rfl (fun H hs=> .h (hlives H hs.base)) ?_;refine U2 ?_;exact hR _ _ _ _ rfl (View.le_refl _)
   cases qo with
   | false=>
     refine U2 ?_;refine .bo fun b4=> ?_;refine .bo fun b5=> ?_;refine U6 ?_;refine .c rfl rfl rfl rfl (fun H hs=> .h (hfitc H hs.base true hfit)) ?_;refine U9 ?_;refine .c rfl rfl rfl rfl (fun H hs=> .h (hokc H false hq)) ?_;refine U11 ?_;refine .c rfl rfl rfl rfl (fun H hs=> .h (hlives H hs.base)) ?_;refine U2 ?_;exact hR _ _ _ _ rfl (View.le_refl _)
   | true=>
   by_cases h20:20<n
   · refine U2 ?_;refine .bo fun b4=> ?_;refine .bo fun b5=> ?_;refine U6 ?_;refine .c rfl rfl rfl rfl (fun H hs=> .h (hfitc H hs.base true hfit)) ?_;refine U9 ?_;refine .c rfl rfl rfl rfl (fun H hs=> .h (hokc H true hq)) ?_;refine U11 ?_;refine .c rfl rfl rfl rfl (fun H hs=> .h (hlives H hs.base)) ?_;refine U2 ?_;exact hR _ _ _ _ rfl (View.le_refl _)
   obtain⟨hgr,hal⟩:k.great=false∧k.alarm=0:=by
     unfold Bk.fit at hfit;rw[Bool.and_eq_true] at hfit;exact⟨by simpa using hfit.1,of_decide_eq_true hfit.2⟩
   have hsm:k.small:=Bk.ungreat_small hgr;have hnm:∀i,i<k.nl→(k.name i).length≤1000000:=fun i hi=> by have:=(Bk.ungreat hgr).2.2 i hi;omega
   obtain⟨hl16,hX⟩:=hX;have hsd:=lk_send hq;refine U2 ?_;refine .bo fun b4=> ?_;refine .bo fun b5=> ?_;refine U6 ?_;refine .c rfl rfl rfl rfl (fun H hs=> .h (hfitc H hs.base true hfit)) ?_;refine U9 ?_;refine .c rfl rfl rfl rfl (fun H hs=> .h (hokc H true hq)) ?_;refine U20 ?_;refine Tc.db (Tc.loopInv (σ:= { x:Nat×Gl 3 1//x.1≤n∧x.2.n=x.1∧x.2.l=Sg.intsL (l.take x.1) }) (fun x=> ([(2,.int .u8 p),(3,.slice X n xc),(4,.pointer (some ⟨b4,0,none⟩)),(5,.pointer (some ⟨b5,0,none⟩)),(9,x.1.2.val),(10,.int .i64 (x.1.1:Nat))],
     (b5,true,.cells ⟨q.val.cells.toList⟩ 49 (0,0))::(b4,true,.cells ⟨(k.val A lc B tc).cells.toList⟩ 45 (0,0))::x.1.2.bl)) (fun x=> n-x.1.1) ?_ ⟨(0,Gl.nil 3 1),Nat.zero_le _,rfl,rfl⟩)
   rintro⟨⟨i,g⟩,hi,hgn,hgl⟩ ih;simp only at hi hgn hgl;show Tc (Mp prog) St _ _ _ _ [(2,.int .u8 p),(3,.slice X n xc),(4,.pointer (some ⟨b4,0,none⟩)),(5,.pointer (some ⟨b5,0,none⟩)),(9,g.val),(10,.int .i64 (i:Nat))]
     ((b5,true,.cells ⟨q.val.cells.toList⟩ 49 (0,0))::(b4,true,.cells ⟨(k.val A lc B tc).cells.toList⟩ 45 (0,0))::g.bl) _ _
   by_cases c1:i<n
   · obtain h00|⟨ab,ao,f,gs,gt,gz,rfl,hb,hlc⟩:=hX
     · rw[h00] at hn;simp only[List.length_nil] at hn;omega
     have f1:=hlc i (by omega);have hx:=hl16 (l[i]?.getD 0) (by rw[List.getElem?_eq_getElem (by omega)];exact List.getElem_mem _);have hsn:Sg.intsL (l.take (i+1))=Sg.intsL (l.take i)++[.int .i64 (l[i]?.getD 0)]:=by
       rw[List.getElem?_eq_getElem (by omega),List.take_succ_eq_append_getElem (by omega)];unfold Sg.intsL;rw[List.map_append];rfl
     have hih:∀(g':Gl 3 1) (h1:g'.n=i+1) (h2:g'.l=Sg.intsL (l.take i)++[.int .i64 (l[i]?.getD 0)]),_:=fun g' h1 h2=> ih ⟨(i+1,g'),by simp only;omega,h1,h2.trans hsn.symm⟩ (by simp only;omega);clear ih;generalize l[i]?.getD 0=x at f1 hx hsn hih;have w1:IntKind.i64.wrap x=x:=wrap64 (by omega) (by omega);refine U19 ?_;refine .e (.bs (zz:=fun bs=> ?_));refine .e (Or.append (E:=en) 3 rfl rfl rfl rfl rfl rfl rfl rfl rfl rfl rfl rfl rfl rfl rfl (fun H hs=> SrcAt.of (hs.get (i:=0) rfl) (Nat.le_of_ble_eq_true rfl)) rfl (by omega) rfl (by decide) (fun g2 hn2 hl2=> ?_));refine U8 ?_;exact Tc.db (hih g2 (by rw[hn2,hgn]) (by rw[hl2,hgl];rfl))
   · have c4:i=n:=by omega
     clear ih;subst c4;rw[hn,List.take_length] at hgl;obtain⟨a,b,e,hT⟩:=Sg.TAns.some q (p%32) l;have hr1:intBin .rem .u8 p 32=some (.int .u8 (p%32)):=rem_in (by omega) (by omega);have w2:IntKind.i64.wrap (p%32)=p%32:=wrap64 (by omega) (by omega);refine U11 ?_;refine Tc.absorb [(b5,true,.cells ⟨q.val.cells.toList⟩ 49 (0,0)),(b4,true,.cells ⟨(k.val A lc B tc).cells.toList⟩ 45 (0,0))] g.bl (List.Perm.refl _) (fun H₁ hle1 hgb=> ?_);obtain⟨hgn2,hNums⟩:=Sg.Nums.of hgl hgb;refine U6 ?_;refine .c rfl rfl rfl rfl (fun H hs=> .h (Sg.Tune_any (Mp prog) H q (p%32) l a b e hT (Sg.glob_le hC (View.le_trans hle1 hs.base)) _ g.n g.cap hgn2 (hNums.le hs.base))) ?_;refine U3 ?_;refine .al fun b11=> ?_;refine U5 ?_;by_cases he:e=0
     · subst he;have hab:=tans_band hT;refine U11 ?_;refine To.callF rfl rfl rfl rfl rfl rfl (by decide) (FnT.h (paused_c (Mp prog) H₁ k A lc B tc F fc (hB.le hle1) hsm hnm hal (by omega) q.s0 q.s1 (by omega))) (fun v H₂ hv=> ?_);obtain⟨hle2,B2,tc2,rfl,hk2⟩:=hv;have hle12:=View.le_trans hle1 hle2;refine U3 ?_;refine .al fun b13=> ?_;refine U7 ?_;refine To.callF rfl rfl rfl rfl rfl rfl (by decide) (FnT.h (paused_c (Mp prog) H₂ k A lc B tc F fc (hB.le hle12) hsm hnm hal (by omega) a b (by omega))) (fun v H₃ hv=> ?_);obtain⟨hle3,B3,tc3,rfl,hk3⟩:=hv;have hle13:=View.le_trans hle12 hle3;refine U3 ?_;refine .al fun b15=> ?_;refine U12 ?_;refine .c rfl rfl rfl rfl (fun H hs=> .h (fewer_c (Mp prog) H (k.pause q.s0 q.s1) A lc B2 tc2 (hk2.le (View.le_trans hle3 hs.base)) ⟨hsm.nl,hsm.nt,hsm.num⟩ (pause_alarm hal (by omega)) (k.pause a b) A lc B3 tc3 (hk3.le hs.base) ⟨hsm.nl,hsm.nt,hsm.num⟩ (pause_alarm hal (by omega)) (glob_le hG (View.le_trans hle13 hs.base)) (pause_less k (by omega) (by omega)))) ?_;refine U2 ?_;refine .c rfl rfl rfl rfl (fun H hs=> .h (hlives H (View.le_trans hle13 hs.base))) ?_;refine U3 ?_;exact hR _ _ _ _ rfl hle13
     · refine U7 ?_;refine .c rfl rfl rfl rfl (fun H hs=> .h (hlives H (View.le_trans hle1 hs.base))) ?_;refine U2 ?_;exact hR _ _ _ _ rfl hle1
end
end Go.Proofs.YtldmfjcgjdchcaaGreatDoor
