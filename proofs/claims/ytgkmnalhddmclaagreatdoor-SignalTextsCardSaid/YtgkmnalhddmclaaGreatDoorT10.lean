/-
 Texts of the proofs over baudot/dial.
-/
import Derived.Test.YtgkmnalhddmclaaGreatDoorT09
namespace Go.Proofs.YtgkmnalhddmclaaGreatDoor
open Go.RL Go.Proofs.Tryz
set_option maxRecDepth 10000
set_option maxHeartbeats 600000
section
variable(M:Md prog)(H:View)
theorem ZN(s:List UInt8)(y:UInt8)(hm:s.length<=1000000):cA M 194 #[jA s,jA [y]] H (fun v H'=> H.le H'/\v=jA (UA y s)):=by
 have h1:([y]:List UInt8).length=1:=rfl;generalize c1:dC s [y]=t;have hp:=fun H=> FP M H s [y];rw[c1] at hp;cases t with
 | true=>
  have c2:1<=s.length:=by obtain⟨q,rfl⟩:=CD c1;simp
  have e1:(s.drop (([y].length:Nat):Int).toNat).take (((s.length:Nat):Int).toNat-(([y].length:Nat):Int).toNat)=UA y s:=by
   unfold UA;rw[if_pos c1];exact List.take_of_length_le (by simp only[List.length_drop];omega)
  refine .en func194 ntmps194 fun St c cs hK=> ?_;refine U9 ?_;refine .cl (fun H hs=> hp H) ?_;refine U7 ?_;refine .x (oA.HD (E:=en) rfl rfl rfl rfl rfl rfl oM oM oM) ?_;refine U2 ?_;refine .rt hK func194 results194 [_] ?_;refine fun H' hs=> ⟨hs.base,?_⟩
  rw[e1];rfl
 | false=>
  have e1:UA y s=s:=by unfold UA;rw[c1];rfl
  rw[e1];refine .en func194 ntmps194 fun St c cs hK=> ?_;refine U9 ?_;refine .cl (fun H hs=> hp H) ?_;refine U8 ?_;refine .rt hK func194 results194 [_] ?_;exact okB
theorem XJ(s:List UInt8)(y:UInt8)(hm:s.length<=1000000):cA M 167 #[jA s,jA [y]] H (fun v H'=> H.le H'/\v=jA (UA y s)):=by
 refine .en func167 ntmps167 fun St c cs hK=> ?_;refine U8 ?_;refine .cl (fun H hs=> ZN M H s y hm) ?_;refine U2 ?_;refine .rt hK func167 results167 [_] ?_;exact okB
theorem fI(s:List UInt8)(hm:s.length<=1000000)(h:RA s=true):cA M 117 #[jA s] H (fun v H'=> H.le H'/\v=.int .i64 (numOf s)):=by
 unfold RA at h;simp only[Bool.and_eq_true,Bool.or_eq_true] at h;obtain⟨⟨h1,h2⟩,h3⟩:=h;have h1:=of_decide_eq_true h1;have fQ:=fun H=> XJ M H s 45 hm;have VH:=fun H=> Z2 M H s h2 h1;have hu:dC s [45]=false->UA 45 s=s:=fun e=> by unfold UA;rw[e];rfl
 obtain⟨sg,oR⟩:∃sg,sg=dC s [45]:=⟨_,rfl⟩
 generalize UA 45 s=d at h1 h2 h3 fQ VH hu;rw[<-oR] at h3 hu;have e0:d[0]? =some (d[0]?.getD 0):=by
  rw[List.getElem?_eq_getElem oM];rfl
 generalize d[0]?.getD 0=x0 at e0 h3;have e17:RL.cC .eql (oI d) []=some (.bool true):=by
  show some (Value.bool (oI d== []))=_;rw[YK,h2]
 have htr:=fun H=> AY M H d oM;cases hx:x0 !=48 with
 | true=>
  have n1:gA .neq .u8 ((x0.toNat:Nat):Int) 48=some (.bool true):=SC (fun e=> by
   have:x0=48:=UInt8.toNat_inj.1 (by show x0.toNat=48;omega);rw[this] at hx;cases hx)
  refine .en func117 ntmps117 fun St c cs hK=> ?_;refine U7 ?_;refine .cl (fun H hs=> fQ H) ?_;refine zH ?_;refine .cl (fun H hs=> htr H) ?_;refine eF ?_;refine .cl (fun H hs=> dI M H) ?_;refine U4 ?_;refine .cl (fun H hs=> VH H) ?_;refine eF ?_;refine .rt hK func117 results117 [_] ?_;exact okB
 | false=>
  rw[hx] at h3;have h4:x0=48:=by simpa using hx
  subst h4;have h5:d.length=1/\sg=false:=by simpa using h3
  obtain⟨h5,rfl⟩:=h5;have LB:d=s:=hu rfl;have hd:d= [48]:=by
   obtain⟨a,rfl⟩:=List.length_eq_one_iff.1 h5;have ha:a=48:=by simpa using e0
   rw[ha]
  have e19:RL.cC .eql s [48]=some (.bool true):=by rw[<-LB,hd];rfl
  refine .en func117 ntmps117 fun St c cs hK=> ?_;refine U7 ?_;refine .cl (fun H hs=> fQ H) ?_;refine zH ?_;refine .cl (fun H hs=> htr H) ?_;refine eF ?_;refine .cl (fun H hs=> dI M H) ?_;refine U4 ?_;refine .cl (fun H hs=> VH H) ?_;refine eF ?_;refine .rt hK func117 results117 [_] ?_;exact okB
theorem SK(s:List UInt8)(hm:s.length<=1000000)(h:RA s=false):NH M 117 #[jA s] H E6 (fun H'=> H.le H'):=by
 unfold RA at h;have fQ:=fun H=> XJ M H s 45 hm;have nR:(UA 45 s).length<=1000000:=by
  unfold UA;split
  ·rw[List.length_drop];omega
  ·exact hm
 have hz:s= [48]->(UA 45 s).length=1/\dC s [45]=false:=by rintro rfl;exact⟨rfl,rfl⟩
 obtain⟨sg,oR⟩:∃sg,sg=dC s [45]:=⟨_,rfl⟩
 generalize UA 45 s=d at h fQ nR hz;rw[<-oR] at h hz;have htr:=fun H=> AY M H d oM;have fW:=fun H=> dH M H;by_cases c1:1<=d.length/\d.length<=9
 ·rw[decide_eq_true c1,Bool.true_and] at h;have e0:d[0]? =some (d[0]?.getD 0):=by
   rw[List.getElem?_eq_getElem oM];rfl
  generalize d[0]?.getD 0=x0 at e0 h;cases c2:d.all KD with
  | false=>
   have e17:RL.cC .eql (oI d) []=some (.bool false):=by
    show some (Value.bool (oI d== []))=_;rw[YK,c2]
   refine NH.enter (vs:= [jA s]) func117 rfl ntmps117 (Nat.le_of_ble_eq_true rfl) fun St c cs hP=> ?_;refine U7 ?_;refine .cl (fun H hs=> fQ H) ?_;refine zH ?_;refine .cl (fun H hs=> htr H) ?_;refine U7 ?_;refine To.LA rfl dE rfl ?_;refine To.LA rfl dE rfl ?_;refine U2 ?_;refine To.QF rfl rfl rfl rfl rfl (fun H hs=> yH.of (first:= []) (captured:= []) eO rfl (fW H)) (JH.gP func117 fun H' hs=> hP H' hs.base)
  | true=>
   rw[c2,Bool.true_and,Bool.or_eq_false_iff] at h;obtain⟨h3,h4⟩:=h;have e17:RL.cC .eql (oI d) []=some (.bool true):=by
    show some (Value.bool (oI d== []))=_;rw[YK,c2]
   have h5:x0=48:=by simpa using h3
   subst h5;have gB:s≠ [48]:=fun e=> by
    obtain⟨y1,y2⟩:=hz e;rw[y1,y2] at h4;cases h4
   have e19:RL.cC .eql s [48]=some (.bool false):=by
    show some (Value.bool (s== [48]))=_;rw[beq_eq_false_iff_ne.2 gB]
   refine NH.enter (vs:= [jA s]) func117 rfl ntmps117 (Nat.le_of_ble_eq_true rfl) fun St c cs hP=> ?_;refine U7 ?_;refine .cl (fun H hs=> fQ H) ?_;refine zH ?_;refine .cl (fun H hs=> htr H) ?_;refine eF ?_;refine To.QF rfl rfl rfl rfl rfl (fun H hs=> yH.of (first:= []) (captured:= []) eO rfl (fW H)) (JH.gP func117 fun H' hs=> hP H' hs.base)
 ·rcases(by omega:d.length=0\/9<d.length) with c2|c2
  ·refine NH.enter (vs:= [jA s]) func117 rfl ntmps117 (Nat.le_of_ble_eq_true rfl) fun St c cs hP=> ?_;refine U7 ?_;refine .cl (fun H hs=> fQ H) ?_;refine w9 ?_;refine To.LA rfl dE rfl ?_;refine To.LA rfl dE rfl ?_;refine U2 ?_;refine To.QF rfl rfl rfl rfl rfl (fun H hs=> yH.of (first:= []) (captured:= []) eO rfl (fW H)) (JH.gP func117 fun H' hs=> hP H' hs.base)
  ·refine NH.enter (vs:= [jA s]) func117 rfl ntmps117 (Nat.le_of_ble_eq_true rfl) fun St c cs hP=> ?_;refine U7 ?_;refine .cl (fun H hs=> fQ H) ?_;refine w9 ?_;refine To.LA rfl dE rfl ?_;refine To.LA rfl dE rfl ?_;refine U2 ?_;refine To.QF rfl rfl rfl rfl rfl (fun H hs=> yH.of (first:= []) (captured:= []) eO rfl (fW H)) (JH.gP func117 fun H' hs=> hP H' hs.base)
theorem VU(s:List UInt8)(hm:s.length<=1000000)(h:GC s=true):cA M 80 #[jA s] H (fun v H'=> H.le H'/\v=rB (WA s) (ZA s)):=by
 rcases jG 58 s with h0|⟨p,q,rfl,h0⟩
 ·obtain⟨b1,b2,b3⟩:=IK h0;rw[b1] at h;rw[b2,b3];refine .en func80 ntmps80 fun St c cs hK=> ?_;refine U2 ?_;refine .al fun b2=> ?_;refine U4 ?_;refine .cl (fun H hs=> mY M H s 58 h0) ?_;refine eF ?_;refine .cl (fun H hs=> fI M H s hm h) ?_;refine U ?_;refine .al fun b6=> ?_;refine wR ?_;refine .rt hK func80 results80 [_] ?_;exact okB
 ·obtain⟨b1,b2,b3⟩:=mJ (q:=q) h0;rw[b1] at h;rw[b2,b3];simp only[Bool.and_eq_true] at h;obtain⟨⟨h1,h2⟩,h3⟩:=h;have h4:numOf p≠numOf q:=by simpa using h3
  have hl:(p++58::q).length=p.length+1+q.length:=by simp;omega
  have n1:gA .neq .i64 (numOf p) (numOf q)=some (.bool true):=SC h4;have c1:=fun H=> fI M H p oM h1;have c2:=fun H=> fI M H q oM h2;generalize numOf p=x at n1 c1;generalize numOf q=z at n1 c2;refine .en func80 ntmps80 fun St c cs hK=> ?_;refine U2 ?_;refine .al fun b2=> ?_;refine U4 ?_;refine .cl (fun H hs=> EP M H p q 58 h0 oM) ?_;refine eF ?_;refine .cl (fun H hs=> c1 H) ?_;refine U ?_;refine .al fun b6=> ?_;refine pH ?_;refine .cl (fun H hs=> c2 H) ?_;refine U9 ?_;refine .cl (fun H hs=> dI M H) ?_;refine U6 ?_;refine .rt hK func80 results80 [_] ?_;exact okB
theorem QS(s:List UInt8)(hm:s.length<=1000000)(h:GC s=false):NH M 80 #[jA s] H E6 (fun H'=> H.le H'):=by
 rcases jG 58 s with h0|⟨p,q,rfl,h0⟩
 ·obtain⟨b1,b2,b3⟩:=IK h0;rw[b1] at h;have UM:=fun H=> SK M H s hm h;refine NH.enter (vs:= [jA s]) func80 rfl ntmps80 (Nat.le_of_ble_eq_true rfl) fun St c cs hP=> ?_;refine U2 ?_;refine .al fun b2=> ?_;refine U4 ?_;refine .cl (fun H hs=> mY M H s 58 h0) ?_;refine eF ?_;refine To.QF rfl rfl rfl rfl rfl (fun H hs=> yH.of (first:= []) (captured:= []) JY rfl (UM H)) (JH.gP func80 fun H' hs=> hP H' hs.base)
 ·obtain⟨b1,b2,b3⟩:=mJ (q:=q) h0;rw[b1] at h;have hl:(p++58::q).length=p.length+1+q.length:=by simp;omega
  cases h1:RA p with
  | false=>
   have UM:=fun H=> SK M H p oM h1;refine NH.enter (vs:= [jA (p++58::q)]) func80 rfl ntmps80 (Nat.le_of_ble_eq_true rfl) fun St c cs hP=> ?_;refine U2 ?_;refine .al fun b2=> ?_;refine U4 ?_;refine .cl (fun H hs=> EP M H p q 58 h0 oM) ?_;refine eF ?_;refine To.QF rfl rfl rfl rfl rfl (fun H hs=> yH.of (first:= []) (captured:= []) JY rfl (UM H)) (JH.gP func80 fun H' hs=> hP H' hs.base)
  | true=>
   have c1:=fun H=> fI M H p oM h1;cases h2:RA q with
   | false=>
    have UM:=fun H=> SK M H q oM h2;generalize numOf p=x at c1;refine NH.enter (vs:= [jA (p++58::q)]) func80 rfl ntmps80 (Nat.le_of_ble_eq_true rfl) fun St c cs hP=> ?_;refine U2 ?_;refine .al fun b2=> ?_;refine U4 ?_;refine .cl (fun H hs=> EP M H p q 58 h0 oM) ?_;refine eF ?_;refine .cl (fun H hs=> c1 H) ?_;refine U ?_;refine .al fun b6=> ?_;refine pH ?_;refine To.QF rfl rfl rfl rfl rfl (fun H hs=> yH.of (first:= []) (captured:= []) JY rfl (UM H)) (JH.gP func80 fun H' hs=> hP H' hs.base)
   | true=>
    have h4:numOf p=numOf q:=by simpa [h1,h2] using h
    have c2:=fun H=> fI M H q oM h2;rw[<-h4] at c2;generalize numOf p=x at c1 c2;have n1:gA .neq .i64 x x=some (.bool false):=DC rfl;refine NH.enter (vs:= [jA (p++58::q)]) func80 rfl ntmps80 (Nat.le_of_ble_eq_true rfl) fun St c cs hP=> ?_;refine U2 ?_;refine .al fun b2=> ?_;refine U4 ?_;refine .cl (fun H hs=> EP M H p q 58 h0 oM) ?_;refine eF ?_;refine .cl (fun H hs=> c1 H) ?_;refine U ?_;refine .al fun b6=> ?_;refine pH ?_;refine .cl (fun H hs=> c2 H) ?_;refine U9 ?_;refine To.QF rfl rfl rfl rfl rfl (fun H hs=> yH.of (first:= []) (captured:= []) eO rfl (dH M H)) (JH.gP func80 fun H' hs=> hP H' hs.base)
end
set_option maxHeartbeats 16000000
def xB(s:List UInt8):List (List UInt8):=
 (((nA 10 s).dropLast).map fun p=> p++[10])++(if((nA 10 s).getLast?.getD [])= [] then [] else [(nA 10 s).getLast?.getD []])
theorem wJ:xB []= []:=rfl
theorem ZO {s:List UInt8}(h:(10:UInt8) ∉ s)(gB:s≠ []):xB s= [s]:=by
 unfold xB;rw[MB 10 s h];show []++(if s= [] then [] else [s])=_;rw[if_neg gB];rfl
theorem eN {p q:List UInt8}(h:(10:UInt8) ∉ p):xB (p++10::q)=(p++[10])::xB q:=by
 unfold xB;rw[MC 10 q p h];cases hq:nA 10 q with
 | nil=> exact(AE 10 q hq).elim
 | cons a l=> rfl
def yQ(b1:Nat):Value:=.func (.func 77) #[] #[.pointer (some ⟨b1,0,none⟩)]
section
variable(M:Md prog)(H:View)
theorem T3(s:List UInt8):cA M 39 #[jA s] H (fun v H'=> H.le H'/\∃b,v=yQ b/\True/\∀z∈ [(b,true,Obj.cells ⟨[jA s]⟩ 9 (0,0))],H' z.1=some z.2/\H z.1=none):=by
 refine .en func39 ntmps39 fun St c cs hK=> ?_;refine U2 ?_;refine .bo fun b1=> ?_;refine U7 ?_;refine .rt hK func39 results39 [_] ?_;refine fun H' hs=> ⟨hs.base,b1,rfl,trivial,fun z hz=> ?_⟩
 simp only[List.mem_singleton] at hz;subst hz;exact⟨hs.get (i:=0) rfl,hs.fresh (i:=0) rfl⟩
end
end Go.Proofs.YtgkmnalhddmclaaGreatDoor
namespace Go.Proofs.YtgkmnalhddmclaaGreatDoor
open Go.RL Go.Proofs.Tryz
set_option maxRecDepth 10000
theorem FU(y:UInt8)(s:List UInt8):lastB y (s++[y])=true:=by simp[lastB]
theorem FO(y:UInt8)(s:List UInt8):JF y (s++[y])=s:=by
 unfold JF;rw[if_pos (FU y s),List.dropLast_concat]
theorem IV {y:UInt8}{s:List UInt8}(h:y ∉ s):JF y s=s:=by
 unfold JF;rw[if_neg];intro e;have e:s.getLast? =some y:=by simpa [lastB] using e
 exact h (List.mem_of_getLast? e)
set_option maxHeartbeats 16000000
theorem QE(y:UInt8)(s:List UInt8):∀p∈nA y s,p.length<=s.length:=by
 suffices h:∀(n:Nat) (s:List UInt8),s.length<=n->∀p∈nA y s,p.length<=s.length from h s.length s (Nat.le_refl _)
 intro n;induction n with
 | zero=>
  intro s hs p hp;obtain rfl:s= []:=List.length_eq_zero_iff.1 oM;rw[MB y [] (by simp)] at hp;simp only[List.mem_singleton] at hp;subst hp;exact Nat.le_refl _
 | succ n ih=>
  intro s hs p hp;rcases jG y s with h0|⟨a,b,rfl,h0⟩
  ·rw[MB y s h0] at hp;simp only[List.mem_singleton] at hp;subst hp;exact Nat.le_refl _
  ·rw[MC y b a h0] at hp;simp only[List.length_append,List.length_cons] at hs ⊢;rcases List.mem_cons.1 hp with rfl|hp
   ·omega
   ·have:=ih b oM p hp;omega
def wl(l:List (List UInt8)):Nat:=(l.map fun p=> p.length+1).sum
theorem nH(p:List UInt8)(l:List (List UInt8)):wl (p::l)=p.length+1+wl l:=by simp[wl]
theorem U1:wl []=0:=rfl
theorem aDr(y:UInt8)(s:List UInt8):wl (nA y s)=s.length+1:=by
 suffices h:∀(n:Nat) (s:List UInt8),s.length<=n->wl (nA y s)=s.length+1 from h s.length s (Nat.le_refl _)
 intro n;induction n with
 | zero=>
  intro s hs;obtain rfl:s= []:=List.length_eq_zero_iff.1 oM;rw[MB y [] (by simp)];rfl
 | succ n ih=>
  intro s hs;rcases jG y s with h0|⟨a,b,rfl,h0⟩
  ·rw[MB y s h0,nH,U1]
  ·simp only[List.length_append,List.length_cons] at hs;rw[MC y b a h0,nH,ih b oM];simp only[List.length_append,List.length_cons];omega
theorem ON(s:List UInt8):wl ((xB s).map (JF 10))<=s.length+1:=by
 suffices h:∀(n:Nat) (s:List UInt8),s.length<=n->wl ((xB s).map (JF 10))<=s.length+1 from h s.length s (Nat.le_refl _)
 intro n;induction n with
 | zero=>
  intro s hs;obtain rfl:s= []:=List.length_eq_zero_iff.1 oM;rw[wJ];simp[wl]
 | succ n ih=>
  intro s hs;by_cases gB:s= []
  ·subst gB;rw[wJ];simp[wl]
  rcases jG 10 s with h0|⟨a,b,rfl,h0⟩
  ·rw[ZO h0 gB,List.map_cons,List.map_nil,IV h0,nH,U1];exact Nat.le_refl _
  ·simp only[List.length_append,List.length_cons] at hs;rw[eN h0,List.map_cons,FO,nH];have:=ih b oM;simp only[List.length_append,List.length_cons];omega
def xE(s:List UInt8):List (List UInt8):=(xB s).map (JF 10)
section
variable(M:Md prog)(H:View)
theorem xX(s:List UInt8)(hm:s.length<=1000000)(b1:Nat)(pv:Value):
  O7 M (yQ b1) (xB s) (fun x (_:Unit)=> [jA x]) (fun _ _=> []) (fun _ _=> []) (fun _=> True) [(b1,true,.cells ⟨[jA s]⟩ 9 (0,0))] H pv:=fun l J D X _ h0 hy H₀ LD=> by
 refine PN.of (first:= []) (captured:= [_]) aDN rfl ?_;refine rM.enter (vs:= [.func (.yield l) #[] #[],.pointer (some ⟨b1,0,none⟩)]) func77 rfl ntmps77 (Nat.le_of_ble_eq_true rfl) LD fun St c cs hK hP=> ?_;refine U ?_;refine Tc.db (Tc.aP (σ:= { x:List UInt8×View//J (xB x.1) x.2/\x.1.length<=1000000/\∃dn,dn++xB x.1=xB s }) (fun x=> (x.1.2,[(0,.func (.yield l) #[] #[]),(1,.pointer (some ⟨b1,0,none⟩))],[(b1,true,.cells ⟨[jA x.1.1]⟩ 9 (0,0))])) (fun x=> x.1.1.length) ?_ ⟨(s,H),h0,hm,[],rfl⟩);rintro⟨⟨r,H₁⟩,j1,hr,dn,hdn⟩ ih;simp only at j1 hr hdn;show Tc M St _ _ H₁ _ [(0,.func (.yield l) #[] #[]),(1,.pointer (some ⟨b1,0,none⟩))] [(b1,true,.cells ⟨[jA r]⟩ 9 (0,0))] _ _;by_cases c1:r= []
 ·clear ih;subst c1;refine U9 ?_;refine .ov hK func77 results77 [] ?_;exact fun H' hs=> ⟨H₁,hs.base,.inl j1⟩
 ·have c2:1<=r.length:=List.length_pos_iff.2 c1;rcases jG 10 r with h0|⟨p,q,rfl,h0⟩
  ·have hx:=EZ h0;rw[ZO h0 c1] at j1 hdn;have QC:r∈xB s:=by rw[<-hdn];simp
   refine pH ?_;refine .cl (fun H hs=> VJ M H r 10 _ hx) ?_;refine xT ?_;refine To.TT rfl rfl rfl rfl rfl rfl dE (hy r [] () H₁ H₁ QC j1 (eA.nil _)) (fun v H₂ hv=> ?_) (fun H₂ hx=> JH.gP func77 fun H' hs=> hP H' ⟨H₂,hs.base,hx⟩);rcases hv with ⟨rfl,H₃,h3,j3⟩|⟨rfl,hD⟩
   ·have bE:=ih ⟨([],H₃),j3,by simp,dn++[r],by rw[wJ,List.append_nil];exact hdn⟩ (by simp only[List.length_nil];omega);refine To.lower h3.base ?_;refine U5 ?_;exact Tc.db (bE)
   ·refine U3 ?_;refine .rt hK func77 results77 [] ?_;exact fun H' hs=> ⟨H₂,hs.base,.inr hD⟩
  ·have hx:=fM (q:=q) h0;rw[eN h0] at j1 hdn;have QC:p++[10]∈xB s:=by rw[<-hdn];simp
   have hl:(p++10::q).length=p.length+1+q.length:=by simp;omega
   have t1:((p++10::q).drop ((0:Nat):Int).toNat).take ((((p.length:Nat):Int)+1).toNat-((0:Nat):Int).toNat)=p++[10]:=by
    have e:(((p.length:Nat):Int)+1).toNat=p.length+1:=by omega
    rw[e,show p++10::q=(p++[10])++q by simp];show((p++[10])++q).take (p.length+1-0)=_;rw[List.take_left' (by simp)]
   have t2:((p++10::q).drop (((p.length:Nat):Int)+1).toNat).take ((((p++10::q).length:Nat):Int).toNat-(((p.length:Nat):Int)+1).toNat)=q:=by
    have e:(((p.length:Nat):Int)+1).toNat=p.length+1:=by omega
    rw[e,hl,List.drop_append,List.drop_of_length_le oM,List.nil_append,Nat.add_sub_cancel_left,List.drop_succ_cons,List.drop_zero];exact List.take_of_length_le oM
   have bE:=fun(H₃:View) (j3:J (xB q) H₃)=> ih ⟨(q,H₃),j3,by simp only;omega,dn++[p++[10]],by rw[<-hdn];simp⟩ (by simp only;omega);clear ih;simp only at bE;obtain⟨r,pX⟩:∃r,r=p++10::q:=⟨_,rfl⟩
   rw[<-pX] at hl hx t1 t2 hr c2 ⊢;refine pH ?_;refine .cl (fun H hs=> VJ M H r 10 _ hx) ?_;refine U8 ?_;refine Tc.dr [9] [0] mixed rfl ?_;refine V3 0 ?_;refine .q 3 rfl (oA.HD (E:=en) rfl rfl rfl rfl rfl rfl oM oM oM) ?_;refine V3 4 ?_;refine .q 7 rfl (oA.HD (E:=en) rfl rfl rfl rfl rfl rfl oM oM oM) ?_;refine .nn 8 ?_;refine .e 9 0 ?_;refine .dn ?_;rw[t1,t2];refine U4 ?_;refine To.TT rfl rfl rfl rfl rfl rfl dE (hy (p++[10]) (xB q) () H₁ H₁ QC j1 (eA.nil _)) (fun v H₂ hv=> ?_) (fun H₂ hx=> JH.gP func77 fun H' hs=> hP H' ⟨H₂,hs.base,hx⟩);rcases hv with ⟨rfl,H₃,h3,j3⟩|⟨rfl,hD⟩
   ·refine To.lower h3.base ?_;refine U5 ?_;exact Tc.db (bE H₃ j3)
   ·refine U3 ?_;refine .rt hK func77 results77 [] ?_;exact fun H' hs=> ⟨H₂,hs.base,.inr hD⟩
end
theorem DU(y:UInt8)(l:List (List UInt8))(p:List UInt8):wE y (l++[p])=if l= [] then p else wE y l++[y]++p:=by
 cases l with
 | nil=> simp[wE]
 | cons a l=> simp[wE]
section
variable(M:Md prog)(H:View)
theorem E5(A:Option Addr)(ac:Nat)(P:List (List UInt8))(hA:PH H A P.length (fun i=> P[i]?.getD []))(y:UInt8)(hm:P.length+GH P<=900000):
  cA M 75 #[.slice A P.length ac,jA [y]] H (fun v H'=> H.le H'/\v=jA (wE y P)):=by
 refine .en func75 ntmps75 fun St c cs hK=> ?_;refine zH ?_;refine Tc.db (Tc.vA (σ:= { i:Nat//i<=P.length }) (fun i=> ([(0,.slice A P.length ac),(1,jA [y]),(5,jA (wE y (P.take i.1))),(6,.int .i64 (i.1:Nat))],[])) (fun i=> P.length-i.1) ?_ ⟨0,Nat.zero_le _⟩);rintro⟨i,hi⟩ ih;show Tc M St _ _ _ _ [(0,.slice A P.length ac),(1,jA [y]),(5,jA (wE y (P.take i))),(6,.int .i64 (i:Nat))] [] _ _;by_cases c1:i=P.length
 ·clear ih;subst c1;rw[List.take_length];refine WL ?_;refine .rt hK func75 results75 [_] ?_;exact okB
 ·have c2:i<P.length:=by omega
  obtain h0|⟨ab,ao,f,gs,gt,gz,rfl,hb,hl⟩:=hA
  ·omega
  have f1:=hl i c2;simp only at f1;rw[List.getElem?_eq_getElem c2] at f1;have VH:P[i]? =some P[i]:=List.getElem?_eq_getElem c2;have UN:=UX VH;have R2:=F7 P (i+1);have hj:=lS y (P.take i);rw[List.length_take] at hj;have mG:=DU y (P.take i) P[i];rw[<-List.take_succ_eq_append_getElem c2] at mG;simp only[Option.getD_some] at f1;have hy1:([y]:List UInt8).length=1:=rfl;generalize P[i]=w at f1 UN mG;by_cases c3:i=0
  ·subst c3;rw[List.take_zero,if_pos rfl] at mG;rw[List.take_zero];have e1:RL.cC .add (wE y []) w=some (jA w):=ZB (l:= []) (m:=w) (by rw[List.length_nil];omega);refine U35 ?_;refine Tc.PC (ih ⟨1,oM⟩ (by simp only;omega)) (by rw[show P.take (⟨1,oM⟩: { i:Nat//i<=P.length }).1=P.take (0+1) from rfl,mG];refine⟨rfl,?_⟩;refine⟨rfl,?_⟩;refine⟨rfl,?_⟩;refine⟨rfl,?_⟩;exact trivial) sL
  ·have gB:P.take i≠ []:=fun e=> by
    have:=congrArg List.length e;rw[List.length_take,List.length_nil] at this;omega
   rw[if_neg gB] at mG;have g1:gA .gtr .i64 ((i:Nat):Int) 0=some (.bool true):=zF oM;generalize wE y (P.take i)=t at hj mG;have hl1:(t++[y]).length=t.length+1:=by simp
   refine w9 ?_;refine .x (oA.cC rfl rfl rfl (by exact ZB oM)) ?_;refine U8 ?_;refine .x (oA.cC rfl rfl rfl (by exact ZB oM)) ?_;refine U8 ?_;refine Tc.PC (ih ⟨i+1,oM⟩ (by simp only;omega)) (by rw[show P.take (⟨i+1,oM⟩: { i:Nat//i<=P.length }).1=P.take (i+1) from rfl,mG];refine⟨rfl,?_⟩;refine⟨rfl,?_⟩;refine⟨rfl,?_⟩;refine⟨rfl,?_⟩;exact trivial) sL
theorem iL(w:List UInt8)(A:Option Addr)(ac:Nat)(P:List (List UInt8))(hA:PH H A P.length (fun i=> P[i]?.getD []))(gB:P≠ [])(hw:w.length<=1000)(hm:P.length+GH P<=900000):
  cA M 36 #[jA w,.slice A P.length ac] H (fun v H'=> H.le H'/\v=jA (LG (w::P))):=by
 have hg:=fun(H':View) (h:H.le H')=> E5 M H' A ac P (hA.le h) 59 hm;have hj:=lS 59 P;have e:LG (w::P)=w++[59]++wE 59 P++[10]:=by
  unfold LG;cases P with
  | nil=> exact(gB rfl).elim
  | cons a l=> simp[wE]
 rw[e];generalize wE 59 P=t at hg hj;have l1:(w++[59]).length=w.length+1:=by simp
 have l2:(w++[59]++t).length=w.length+1+t.length:=by simp;omega
 have l3:([59]:List UInt8).length=1:=rfl;have l4:([10]:List UInt8).length=1:=rfl;refine .en func36 ntmps36 fun St c cs hK=> ?_;refine U7 ?_;refine .x (oA.cC rfl rfl rfl (by exact ZB oM)) ?_;refine U ?_;refine .cl (fun H hs=> hg H hs.base) ?_;refine .x (oA.cC rfl rfl rfl (by exact ZB oM)) ?_;refine .x (oA.cC rfl rfl rfl (by exact ZB oM)) ?_;refine U2 ?_;refine .rt hK func36 results36 [_] ?_;exact okB
end
set_option maxHeartbeats 8000000
section
variable(M:Md prog)(H:View)
theorem YH(a b:Int)(h:tB a b=false):cA M 71 #[rB a b] H (fun v H'=> H.le H'/\v=.bool false):=
 cA.mono (HI M H a b) (by rintro v H' ⟨h1,h2⟩;exact⟨h1,h2.trans (congrArg Value.bool h)⟩)
theorem aK(x y z u:Int)(hG:FC H)(t:Bool)(h:(eE x y&&yE z u)=t)(n:Int)(hn:n=if t then 0 else 1):cA M 111 #[fF x y z u] H (fun v H'=> H.le H'/\v=.int .i64 n):=
 cA.mono (RF M H x y z u hG) (by rintro v H' ⟨h1,h2⟩;rw[A6,h] at h2;rw[hn];exact⟨h1,h2⟩)
theorem CM(ch:Ch)(A:Option Addr)(lc:Nat)(hA:zB H ch A lc)(hG:FC H):
  cA M 72 #[.slice A ch.n lc] H (fun v H'=> H.le H'/\v=.int .i64 ch.TA):=by
 by_cases h:1<=ch.n/\ch.n<=4
 ·obtain⟨hlc,h0|⟨lb,lo,f,gs,gt,gz,rfl,hA1,F5⟩⟩:=hA
  ·omega
  refine .en func72 ntmps72 fun St c cs hK=> ?_;refine U26 ?_;refine Tc.db (Tc.vA (σ:= { j:Nat//j<=ch.n/\tD ch.aI j=true }) (fun j=> ([(14,.slice (some ⟨lb,lo,none⟩) ch.n lc),(15,.int .i64 (ch.n:Nat)),(16,.int .i64 (j.1:Nat)),(2,.int .i64 0)],[])) (fun j=> ch.n-j.1) ?_ ⟨0,oM,rfl⟩);rintro⟨j,hj,zA⟩ ih;show Tc M St _ _ _ _ [(14,.slice (some ⟨lb,lo,none⟩) ch.n lc),(15,.int .i64 (ch.n:Nat)),(16,.int .i64 (j:Nat)),(2,.int .i64 0)] [] _ _;by_cases c1:j=ch.n
  ·have e:ch.TA=0:=by unfold Ch.TA;rw[if_pos h,<-c1,if_pos zA]
   rw[e] at hK;subst c1;refine eF ?_;refine .rt hK func72 results72 [_] ?_;exact okB
  ·have c2:j<ch.n:=by omega
   have f1:SB true 4 gs (lo+(j:Int).toNat*4)=some (fF (ch.x j) (ch.y j) (ch.z j) (ch.u j)):=by rw[show(j:Int).toNat=j by simp];exact F5 j c2
   cases hl:ch.aI j with
   | true=>
    refine aJ ?_;refine .al fun b4=> ?_;refine U5 ?_;refine .cl (fun H hs=> aK M H (ch.x j) (ch.y j) (ch.z j) (ch.u j) (HA hG hs.base) true hl 0 rfl) ?_;refine zH ?_;exact Tc.db (ih ⟨j+1,oM,by unfold tD;rw[zA,hl];rfl⟩ (by simp only;omega))
   | false=>
    have e:ch.TA=1:=by
     unfold Ch.TA;rw[if_pos h,if_neg];intro h5;rw[CI.1 h5 j c2] at hl;cases hl
    rw[e] at hK;refine aJ ?_;refine .al fun b4=> ?_;refine U5 ?_;refine .cl (fun H hs=> aK M H (ch.x j) (ch.y j) (ch.z j) (ch.u j) (HA hG hs.base) false hl 1 rfl) ?_;refine aJ ?_;refine .rt hK func72 results72 [_] ?_;exact okB
 ·have e:ch.TA=2:=by unfold Ch.TA;rw[if_neg h]
  rw[e];by_cases h1:ch.n<1
  ·refine .en func72 ntmps72 fun St c cs hK=> ?_;refine wR ?_;refine .rt hK func72 results72 [_] ?_;exact okB
  ·have h2:4<ch.n:=by omega
   refine .en func72 ntmps72 fun St c cs hK=> ?_;refine wR ?_;refine .rt hK func72 results72 [_] ?_;exact okB
theorem pF(ch:Ch)(A:Option Addr)(lc:Nat)(hA:zB H ch A lc)(hG:FC H):cA M 30 #[ch.lE A lc] H (fun v H'=> H.le H'/\v=.int .i64 ch.nB):=by
 refine .en func30 ntmps30 fun St c cs hK=> ?_;refine U2 ?_;refine .bo fun b1=> ?_;refine WL ?_;refine Tc.db (Tc.vA (σ:= { j:Nat//j<=3/\(1<=j->tB ch.s0 ch.s1=true)/\(2<=j->tB ch.a0 ch.a1=true)/\(3<=j->tB ch.r0 ch.r1=true) }) (fun j=> ([(11,.agg ⟨[.int .i64 ch.s0,.int .i64 ch.s1,.int .i64 ch.a0,.int .i64 ch.a1,.int .i64 ch.r0,.int .i64 ch.r1]⟩),(1,.pointer (some ⟨b1,0,none⟩)),(12,.int .i64 (j.1:Nat)),(2,.int .i64 0)],[(b1,true,.cells ⟨(ch.lE A lc).cells.toList⟩ 26 (0,0))])) (fun j=> 3-j.1) ?_ ⟨0,oM,oM,oM,oM⟩);rintro⟨j,hj,h1,h2,h3⟩ ih;show Tc M St _ _ _ _ [(11,.agg ⟨[.int .i64 ch.s0,.int .i64 ch.s1,.int .i64 ch.a0,.int .i64 ch.a1,.int .i64 ch.r0,.int .i64 ch.r1]⟩),(1,.pointer (some ⟨b1,0,none⟩)),(12,.int .i64 (j:Nat)),(2,.int .i64 0)] [(b1,true,.cells ⟨(ch.lE A lc).cells.toList⟩ 26 (0,0))] _ _;rcases(by omega:j=0\/j=1\/j=2\/j=3) with rfl|rfl|rfl|rfl
 ·cases hp:tB ch.s0 ch.s1 with
  | true=>
   refine eF ?_;refine .x (oA.index (E:=en) rfl rfl rfl rfl rfl rfl oM oM (by exact rfl)) ?_;refine .al fun b4=> ?_;refine U5 ?_;refine .cl (fun H hs=> qD M H ch.s0 ch.s1 hp) ?_;refine U9 ?_;exact Tc.db (ih ⟨1,oM,fun _=> hp,fun h=> absurd h dE,fun h=> absurd h dE⟩ (by simp))
  | false=>
   have e:ch.nB=1:=by
    unfold Ch.nB Ch.jI;rw[hp];simp
   rw[e] at hK;refine eF ?_;refine .x (oA.index (E:=en) rfl rfl rfl rfl rfl rfl oM oM (by exact rfl)) ?_;refine .al fun b4=> ?_;refine U5 ?_;refine .cl (fun H hs=> YH M H ch.s0 ch.s1 hp) ?_;refine U7 ?_;refine .rt hK func30 results30 [_] ?_;exact okB
 ·cases hp:tB ch.a0 ch.a1 with
  | true=>
   refine eF ?_;refine .x (oA.index (E:=en) rfl rfl rfl rfl rfl rfl oM oM (by exact rfl)) ?_;refine .al fun b4=> ?_;refine U5 ?_;refine .cl (fun H hs=> qD M H ch.a0 ch.a1 hp) ?_;refine U9 ?_;exact Tc.db (ih ⟨2,oM,fun _=> h1 oM,fun _=> hp,fun h=> absurd h dE⟩ (by simp))
  | false=>
   have e:ch.nB=1:=by
    unfold Ch.nB Ch.jI;rw[hp];simp
   rw[e] at hK;refine eF ?_;refine .x (oA.index (E:=en) rfl rfl rfl rfl rfl rfl oM oM (by exact rfl)) ?_;refine .al fun b4=> ?_;refine U5 ?_;refine .cl (fun H hs=> YH M H ch.a0 ch.a1 hp) ?_;refine U7 ?_;refine .rt hK func30 results30 [_] ?_;exact okB
 ·cases hp:tB ch.r0 ch.r1 with
  | true=>
   refine eF ?_;refine .x (oA.index (E:=en) rfl rfl rfl rfl rfl rfl oM oM (by exact rfl)) ?_;refine .al fun b4=> ?_;refine U5 ?_;refine .cl (fun H hs=> qD M H ch.r0 ch.r1 hp) ?_;refine U9 ?_;exact Tc.db (ih ⟨3,oM,fun _=> h1 oM,fun _=> h2 oM,fun _=> hp⟩ (by simp))
  | false=>
   have e:ch.nB=1:=by
    unfold Ch.nB Ch.jI;rw[hp];simp
   rw[e] at hK;refine eF ?_;refine .x (oA.index (E:=en) rfl rfl rfl rfl rfl rfl oM oM (by exact rfl)) ?_;refine .al fun b4=> ?_;refine U5 ?_;refine .cl (fun H hs=> YH M H ch.r0 ch.r1 hp) ?_;refine U7 ?_;refine .rt hK func30 results30 [_] ?_;exact okB
 ·have e:ch.nB=ch.TA:=by
   unfold Ch.nB Ch.jI;rw[h1 oM,h2 oM,h3 oM];rfl
  rw[e] at hK;refine eF ?_;refine .cl (fun H hs=> CM M H ch A lc (hA.le hs.base) (HA hG hs.base)) ?_;refine U2 ?_;refine .rt hK func30 results30 [_] ?_;exact okB
theorem Ch.LZ {ch:Ch}(h:ch.TA=0):(1<=ch.n/\ch.n<=4)/\∀i,i<ch.n->(-9<=ch.x i/\ch.x i<=ch.y i/\ch.y i<=9)/\(-12<=ch.z i/\ch.z i<=ch.u i/\ch.u i<=12):=by
 unfold Ch.TA at h;split at h
 ·rename_i hn
  split at h
  ·rename_i zA
   refine⟨hn,fun i hi=> ?_⟩;have:=CI.1 zA i hi;unfold Ch.aI eE yE at this;simp only[Bool.and_eq_true,decide_eq_true_eq] at this;omega
  ·cases h
 ·cases h
end
set_option maxHeartbeats 2000000
def SE:List UInt8:= [109,111,116,111,114,115]
def BE:List UInt8:= [108,105,110,101]
def LO(c:Ch):List (List UInt8):= [SE,dB c.s0 c.s1,dB c.a0 c.a1,dB c.r0 c.r1]
def JU(c:Ch)(i:Nat):List (List UInt8):= [BE,dB (c.x i) (c.y i),dB (c.z i) (c.u i)]
def HB(c:Ch)(i:Nat):List UInt8:=LG (LO c)++(List.range i).flatMap fun i=> LG (JU c i)
def UU(c:Ch):List UInt8:=HB c c.n
structure NW(c:Ch):Prop where
 n:1<=c.n/\c.n<=4
 s:VL c.s0/\VL c.s1
 a:VL c.a0/\VL c.a1
 r:VL c.r0/\VL c.r1
 l:∀i,i<c.n->(VL (c.x i)/\VL (c.y i))/\(VL (c.z i)/\VL (c.u i))
theorem qG(c:Ch)(i:Nat):HB c (i+1)=HB c i++LG (JU c i):=by
 unfold HB;rw[List.range_succ,List.flatMap_append];simp
theorem MO {c:Ch}(hp:NW c):(LG (LO c)).length<=40:=by
 have h1:=OB hp.s.1 hp.s.2;have h2:=OB hp.a.1 hp.a.2;have h3:=OB hp.r.1 hp.r.2;simp only[LG,LO,wE,SE,List.flatMap_cons,List.flatMap_nil,List.length_append,List.length_cons,List.length_nil];omega
theorem cN {c:Ch}(hp:NW c){i:Nat}(hi:i<c.n):(LG (JU c i)).length<=40:=by
 obtain⟨⟨y1,y2⟩,y3,y4⟩:=hp.l i hi;have h1:=OB y1 y2;have h2:=OB y3 y4;simp only[LG,JU,wE,BE,List.flatMap_cons,List.flatMap_nil,List.length_append,List.length_cons,List.length_nil];omega
theorem iH {c:Ch}(hp:NW c):∀i,i<=c.n->(HB c i).length<=40+i*40
 | 0,_=> by
  have:=MO hp;show(LG (LO c)++[]).length<=_;rw[List.append_nil];omega
 | i+1,hi=> by
  have ih:=iH hp i oM;have:=cN hp (i:=i) oM;rw[qG,List.length_append];omega
def AP(H:View)(F:Option Addr)(l:List (Int×Int)):Prop:=
 ∃b o f gs gt gz,F=some ⟨b,o,none⟩/\H b=some (f,.cells ⟨gs⟩ gt gz)/\∀i:Nat,i<l.length->SB true 2 gs (o+(i:Int).toNat*2)=some (rB (l[i]?.getD (0,0)).1 (l[i]?.getD (0,0)).2)
def iG(l:List (Int×Int)):List (List UInt8):=l.map fun x=> dB x.1 x.2
def aBO(l:List (Int×Int)):Prop:=∀x∈l,VL x.1/\VL x.2
theorem RP {p q:List UInt8}{g g1 g2:Gl 5 1}(h1:OT p g g1)(h2:OT q g1 g2):OT (p++q) g g2:=
 ⟨by rw[h2.1,h1.1,List.length_append];omega,by rw[h2.2,h1.2,WG,List.append_assoc]⟩
def IS(w:List UInt8)(P:List (List UInt8)):List UInt8:=w++P.flatMap fun q=> 59::q
theorem HX(w:List UInt8)(P:List (List UInt8))(q:List UInt8):IS w (P++[q])=IS w P++(59::q):=by
 simp[IS]
theorem K0(w:List UInt8){l:List (Int×Int)}(h:aBO l):(IS w (iG l)).length<=w.length+8*l.length:=by
 unfold IS iG;rw[List.length_append]
 suffices hh:((l.map fun x=> dB x.1 x.2).flatMap fun q=> 59::q).length<=8*l.length by omega
 induction l with
 | nil=> simp
 | cons a l ih=>
  have h1:=h a List.mem_cons_self;have h2:=OB h1.1 h1.2;have h3:=ih fun x hx=> h x (List.mem_cons_of_mem _ hx);simp only[List.map_cons,List.flatMap_cons,List.length_append,List.length_cons];omega
section
variable(M:Md prog)(H:View)
theorem yR(H₁:View)(b:Nat)(u:Bool)(g:Gl 5 1)(y:UInt8)(hm:g.n+1<=1000000)(LD:eA H₁ (cO b u g) H):
  cA M 34 #[.pointer (some ⟨b,0,none⟩),.int .u8 (y.toNat:Nat)] H (YJ H₁ (fun _:Gl 5 1=> .nilIface) (fun g'=> cO b true g') (OT [y] g)):=by
 refine cA.enter (vs:= [.pointer (some ⟨b,0,none⟩),.int .u8 (y.toNat:Nat)]) func34 rfl ntmps34 (Nat.le_of_ble_eq_true rfl) (LD) fun St c cs hK=> ?_;refine U7 ?_;refine .e (Or.zD 0 (σ:=Unit) (fun _=> .tuple ⟨[]⟩) (fun _=> cO b true g) (fun _=> True) rfl rfl rfl rfl rfl dE (fun H₁ H₂ xU iK=> .h (lL M H₂ H₁ b u g iK)) (fun _ _=> ?_));refine U9 ?_;refine .e (.bs (zz:=fun bs=> ?_));refine .e (Or.append (E:=en) 2 rfl rfl rfl rfl rfl rfl rfl rfl rfl rfl rfl rfl rfl rfl rfl (fun H hs=> NA.of (hs.get (i:=0) rfl) (Nat.le_of_ble_eq_true rfl)) rfl oM rfl dE (fun g2 CK RJ=> ?_));refine U8 ?_;refine .rt hK func34 results34 [_] ?_;exact fun H' hs=> ⟨g2,H₁,rfl,View.le_refl _,hs.less sL,CK,RJ⟩
theorem P0(H₁:View)(hP:Pow H₁)(b:Nat)(u:Bool)(g:Gl 5 1)(w:List UInt8)(l:List (Int×Int))(F:Option Addr)(n fc:Nat)(hF:AP H₁ F l)(hn:n=l.length)(hl:aBO l)(hl4:l.length<=4)(hw:w.length<=10)(hm:g.n<=1000)(LD:eA H₁ (cO b u g) H):
  cA M 31 #[jA w,.slice F n fc,.pointer (some ⟨b,0,none⟩)] H (YJ H₁ (fun _:Gl 5 1=> .tuple ⟨[]⟩) (fun g'=> cO b true g') (OT (LG (w::iG l)) g)):=by
 subst hn;refine cA.enter (vs:= [jA w,.slice F l.length fc,.pointer (some ⟨b,0,none⟩)]) func31 rfl ntmps31 (Nat.le_of_ble_eq_true rfl) (LD) fun St c cs hK=> ?_;refine U3 ?_;refine .e (Or.zD 0 (σ:=Gl 5 1) (fun _=> .tuple ⟨[.int .i64 (w.length:Nat),.nilIface]⟩) (fun g'=> cO b true g') (OT w g) rfl rfl rfl rfl rfl dE (fun H₁ H₂ xU iK=> .h (cJ M H₂ H₁ b u g w oM iK)) (fun g0 hg0=> ?_));refine U9 ?_;refine Tc.db (Tc.vA (σ:= { x:Nat×Gl 5 1//x.1<=l.length/\OT (IS w (iG (l.take x.1))) g x.2 }) (fun x=> ([(2,.pointer (some ⟨b,0,none⟩)),(9,.slice F l.length fc),(10,.int .i64 (l.length:Nat)),(11,.int .i64 (x.1.1:Nat))],cO b true x.1.2)) (fun x=> l.length-x.1.1) ?_ ⟨(0,g0),Nat.zero_le _,by simpa [IS,iG] using hg0⟩);rintro⟨⟨i,g1⟩,hi,O5⟩ ih;simp only at hi O5;show Tc M St _ _ _ _ [(2,.pointer (some ⟨b,0,none⟩)),(9,.slice F l.length fc),(10,.int .i64 (l.length:Nat)),(11,.int .i64 (i:Nat))] (cO b true g1) _ _;have rO:=K0 w (l:=l.take i) (fun x hx=> hl x (List.mem_of_mem_take hx));have htl:(l.take i).length<=4:=by rw[List.length_take];omega
 have uD:g1.n<=1100:=by have:=O5.1;omega
 by_cases c1:i=l.length
 ·clear ih;subst c1;rw[List.take_length] at O5;have e1:LG (w::iG l)=IS w (iG l)++[10]:=rfl;refine U8 ?_;refine .e (Or.zD 0 (σ:=Gl 5 1) (fun _=> .nilIface) (fun g'=> cO b true g') (OT [10] g1) rfl rfl rfl rfl rfl dE (fun H₁ H₂ xU iK=> .h (yR M H₂ H₁ b true g1 10 oM iK)) (fun g2 kX=> ?_));refine U ?_;refine .ov hK func31 results31 [] ?_;exact fun H' hs=> ⟨g2,H₁,rfl,View.le_refl _,hs,by rw[e1];exact RP O5 kX⟩
 ·have c2:i<l.length:=by omega
  obtain⟨ab,ao,f,gs,gt,gz,rfl,hb,hld⟩:=hF;have f1:=hld i c2;have hx:=hl l[i] (List.getElem_mem c2);have mG:iG (l.take (i+1))=iG (l.take i)++[dB l[i].1 l[i].2]:=by
   rw[List.take_succ_eq_append_getElem c2];unfold iG;rw[List.map_append];rfl
  rw[List.getElem?_eq_getElem c2] at f1;simp only[Option.getD_some] at f1;have bE:=fun(g2:Gl 5 1) (h:OT (59::dB l[i].1 l[i].2) g1 g2)=> ih ⟨(i+1,g2),by simp only;omega,by simp only;rw[mG,HX];exact RP O5 h⟩ (by simp only;omega);simp only at bE;clear ih mG;have hbt:=fun(H':View) (h':H₁.le H')=> CR M H' (hP.le h') l[i].1 l[i].2 hx.1 hx.2;have hZ:=OB hx.1 hx.2;generalize l[i].1=p at f1 bE hbt hZ;generalize l[i].2=q at f1 bE hbt hZ;generalize dB p q=v at bE hbt hZ;have s1:RL.cC .add [59] v=some (jA (59::v)):=ZB (by simp only[List.length_singleton];omega);refine aJ ?_;refine .al fun b6=> ?_;refine U4 ?_;refine .cl (fun H hs=> hbt H hs.base) ?_;refine U ?_;refine .e (Or.zD 1 (σ:=Gl 5 1) (fun _=> .tuple ⟨[.int .i64 ((59::v).length:Nat),.nilIface]⟩) (fun g'=> cO b true g') (OT (59::v) g1) rfl rfl rfl rfl rfl dE (fun H₁ H₂ xU iK=> .h (cJ M H₂ H₁ b true g1 (59::v) (by simp only[List.length_cons];omega) iK)) (fun g2 kX=> ?_));refine U6 ?_;exact Tc.db (bE g2 kX)
theorem E9 {H:View}{b:Nat}{f:Bool}{e:TypeId}{fz:Nat×Nat}{x0 y0 x1 y1 x2 y2:Int}(h:H b=some (f,.cells ⟨[.int .i64 x0,.int .i64 y0,.int .i64 x1,.int .i64 y1,.int .i64 x2,.int .i64 y2]⟩ e fz)):AP H (some ⟨b,0,none⟩) [(x0,y0),(x1,y1),(x2,y2)]:=
 ⟨b,0,f,_,e,fz,rfl,h,fun i hi=> by
  have hi:i<3:=hi;rcases(by omega:i=0\/i=1\/i=2) with rfl|rfl|rfl <;> rfl⟩
theorem D9 {H:View}{b:Nat}{f:Bool}{e:TypeId}{fz:Nat×Nat}{x0 y0 x1 y1:Int}(h:H b=some (f,.cells ⟨[.int .i64 x0,.int .i64 y0,.int .i64 x1,.int .i64 y1]⟩ e fz)):AP H (some ⟨b,0,none⟩) [(x0,y0),(x1,y1)]:=
 ⟨b,0,f,_,e,fz,rfl,h,fun i hi=> by
  have hi:i<2:=hi;rcases(by omega:i=0\/i=1) with rfl|rfl <;> rfl⟩
theorem MW(hG:FC H)(ch:Ch)(A:Option Addr)(lc:Nat)(hA:zB H ch A lc)(ha:ch.nB≠0):
  cA M 7 #[ch.lE A lc] H (fun v H'=> H.le H'/\v=.tuple ⟨[jA [],.int .i64 ch.nB]⟩):=by
 have ho:=fun(H':View) (h:H.le H')=> pF M H' ch A lc (hA.le h) (HA hG h);have e2:gA .neq .i64 ch.nB 0=some (.bool true):=SC ha;generalize ch.nB=a at ho e2;refine .en func7 ntmps7 fun St c cs hK=> ?_;refine U2 ?_;refine .bo fun b1=> ?_;refine U7 ?_;refine .cl (fun H hs=> ho H hs.base) ?_;refine zH ?_;refine .rt hK func7 results7 [_,_] ?_;exact okB
theorem vY(hG:FC H)(hP:Pow H)(ch:Ch)(A:Option Addr)(lc:Nat)(hA:zB H ch A lc)(ha:ch.nB=0)(hp:NW ch):
  cA M 7 #[ch.lE A lc] H (fun v H'=> H.le H'/\v=.tuple ⟨[jA (UU ch),.int .i64 0]⟩):=by
 have ho:=fun(H':View) (h:H.le H')=> pF M H' ch A lc (hA.le h) (HA hG h);rw[ha] at ho;have hH0:=MO hp;refine .en func7 ntmps7 fun St c cs hK=> ?_;refine U2 ?_;refine .bo fun b1=> ?_;refine U7 ?_;refine .cl (fun H hs=> ho H hs.base) ?_;refine eF ?_;refine .al fun b5=> ?_;refine U7 ?_;refine Tc.perm (L₁:= [(b1,true,.cells ⟨[.int .i64 ch.s0,.int .i64 ch.s1,.slice A ch.n lc,.int .i64 ch.a0,.int .i64 ch.a1,.int .i64 ch.r0,.int .i64 ch.r1]⟩ 26 (0,0))]++cO b5 false (Gl.nil 5 1)) (List.perm_append_comm (l₁:= [_]) (l₂:= [_])) ?_;refine U8 ?_;refine .e (.bs (zz:=fun bs=> ?_));refine .e (Or.zD 2 (σ:=Gl 5 1) (fun _=> .tuple ⟨[]⟩) (fun g'=> cO b5 true g') (OT (LG (LO ch)) (Gl.nil 5 1)) rfl rfl rfl rfl rfl dE (fun H₁ H₂ xU iK=> UC.of (first:= []) (captured:= [_]) aB6 rfl (P0 M H₂ H₁ (hP.le xU.base) b5 false (Gl.nil 5 1) SE [(ch.s0,ch.s1),(ch.a0,ch.a1),(ch.r0,ch.r1)] (some ⟨bs,0,none⟩) 3 3 (E9 (xU.get (i:=0) rfl)) rfl (by intro x hx;simp only[List.mem_cons,List.not_mem_nil,or_false] at hx;rcases hx with rfl|rfl|rfl;exact hp.s;exact hp.a;exact hp.r) (by show 3<=4;omega) dE dE iK)) (fun g0 hg0=> ?_));refine zI ?_;refine Tc.db (Tc.vA (σ:= { x:Nat×Gl 5 1//x.1<=ch.n/\OT (HB ch x.1) (Gl.nil 5 1) x.2 }) (fun x=> ([(5,.pointer (some ⟨b5,0,none⟩)),(6,.func (.func 31) #[] #[.pointer (some ⟨b5,0,none⟩)]),(25,.slice A ch.n lc),(26,.int .i64 (ch.n:Nat)),(27,.int .i64 (x.1.1:Nat))],cO b5 true x.1.2)) (fun x=> ch.n-x.1.1) ?_ ⟨(0,g0),Nat.zero_le _,by simpa [HB] using hg0⟩);rintro⟨⟨i,g⟩,hi,hg⟩ ih;simp only at hi hg;show Tc M St _ _ _ _ [(5,.pointer (some ⟨b5,0,none⟩)),(6,.func (.func 31) #[] #[.pointer (some ⟨b5,0,none⟩)]),(25,.slice A ch.n lc),(26,.int .i64 (ch.n:Nat)),(27,.int .i64 (i:Nat))] (cO b5 true g) _ _;have rO:=iH hp i hi;have N8:=hp.n;have uD:g.n=(HB ch i).length:=by rw[hg.1];show 0+_=_;omega
 have ZE:g.l=CA (HB ch i):=by rw[hg.2];rfl
 by_cases c1:i=ch.n
 ·clear ih;subst c1;have gB:HB ch ch.n≠ []:=by
   intro h;have:=congrArg List.length h;simp[HB,LG] at this
  refine U9 ?_;refine .e (Or.zD 0 (σ:=Unit) (fun _=> jA (UU ch)) (fun _=> []) (fun _=> True) rfl rfl rfl rfl rfl dE (fun H₁ H₂ xU iK=> .h (zY M H₂ H₁ b5 true g _ gB uD ZE oM iK)) (fun _ _=> ?_));refine U3 ?_;refine .rt hK func7 results7 [_,_] ?_;exact okB
 ·have c2:i<ch.n:=by omega
  obtain⟨_,h0|⟨ab,ao,f,gs,gt,gz,rfl,hb,hl⟩⟩:=hA
  ·omega
  have f1:SB true 4 gs (ao+(i:Int).toNat*4)=some (fF (ch.x i) (ch.y i) (ch.z i) (ch.u i)):=by rw[Int.toNat_natCast];exact hl i c2
  obtain⟨t1,t2⟩:=hp.l i c2;have hL1:=cN hp c2;have bE:=fun(g2:Gl 5 1) (h:OT (LG (JU ch i)) g g2)=> ih ⟨(i+1,g2),by simp only;omega,by simp only;rw[qG];exact RP hg h⟩ (by simp only;omega);simp only at bE;clear ih;refine aJ ?_;refine .al fun b8=> ?_;refine U8 ?_;refine .e (.bs (zz:=fun bs=> ?_));refine .e (Or.zD 2 (σ:=Gl 5 1) (fun _=> .tuple ⟨[]⟩) (fun g'=> cO b5 true g') (OT (LG (JU ch i)) g) rfl rfl rfl rfl rfl dE (fun H₁ H₂ xU iK=> UC.of (first:= []) (captured:= [_]) aB6 rfl (P0 M H₂ H₁ (hP.le xU.base) b5 true g BE [(ch.x i,ch.y i),(ch.z i,ch.u i)] (some ⟨bs,0,none⟩) 2 2 (D9 (xU.get (i:=0) rfl)) rfl (by intro x hx;simp only[List.mem_cons,List.not_mem_nil,or_false] at hx;rcases hx with rfl|rfl;exact t1;exact t2) (by show 2<=4;omega) dE oM iK)) (fun g2 kX=> ?_));refine U6 ?_;exact Tc.db (bE g2 kX)
end
inductive Rw where
 | mW (a b c d e f:Int)
 | oS (x y z u:Int)
def s7:List (List UInt8)->Option Rw
 | [w,p,q,r]=> if w=SE/\(GC p&&(GC q&&GC r))=true then some (.mW (WA p) (ZA p) (WA q) (ZA q) (WA r) (ZA r)) else none
 | [w,p,q]=> if w=BE/\(GC p&&GC q)=true then some (.oS (WA p) (ZA p) (WA q) (ZA q)) else none
 | _=> none
def MG(s:List UInt8):Option Rw:=s7 (nA 59 s)
def Rw.val:Rw->Value
 | .mW a b c d e f=> .iface 93 (.agg ⟨[.int .i64 a,.int .i64 b,.int .i64 c,.int .i64 d,.int .i64 e,.int .i64 f]⟩)
 | .oS x y z u=> .iface 96 (.agg ⟨[.int .i64 x,.int .i64 y,.int .i64 z,.int .i64 u]⟩)
def FV(l:List (List UInt8)):List Value:=l.flatMap fun q=> [.int .i64 (WA q),.int .i64 (ZA q)]
theorem wW {w p q:List UInt8}(h:w≠BE):s7 [w,p,q]=none:=if_neg fun e=> h e.1
theorem xW {w p q r:List UInt8}(h:w≠SE):s7 [w,p,q,r]=none:=if_neg fun e=> h e.1
theorem OQ {w q:List UInt8}{l:List (List UInt8)}(h:q∈l)(hq:GC q=false):s7 (w::l)=none:=by
 match l,h with
 | [],h=> cases h
 | [a],_=> rfl
 | [a,b],h=>
  refine if_neg ?_;rintro⟨_,e⟩;rw[Bool.and_eq_true] at e;simp only[List.mem_cons,List.not_mem_nil,or_false] at h;rcases h with rfl|rfl
  ·rw[e.1] at hq;cases hq
  ·rw[e.2] at hq;cases hq
 | [a,b,c],h=>
  refine if_neg ?_;rintro⟨_,e⟩;rw[Bool.and_eq_true,Bool.and_eq_true] at e;simp only[List.mem_cons,List.not_mem_nil,or_false] at h;rcases h with rfl|rfl|rfl
  ·rw[e.1] at hq;cases hq
  ·rw[e.2.1] at hq;cases hq
  ·rw[e.2.2] at hq;cases hq
 | _::_::_::_::_,_=> rfl
section
variable(M:Md prog)(H:View)
theorem r7(s:List UInt8)(hm:s.length<=1000000):
  rM M 40 #[jA s] H (fun v H'=> H.le H'/\∃r,MG s=some r/\v=r.val) E6 (fun H'=> H.le H'/\MG s=none):=by
 have kY:=fun H=> m4 M H s 59 hm;have QN:=QE 59 s;have mX:=YB 59 s;unfold MG;generalize nA 59 s=P at kY QN mX;refine rM.enter (vs:= [jA s]) func40 rfl ntmps40 (Nat.le_of_ble_eq_true rfl) (eA.nil _) fun St c cs hK hP=> ?_;have hw:s7 P=none->∀(H':View) (L:Bl),([]:Bl).Sublist L->eA H L H'->T M St H' (Go.Conc.G (c.raise (Go.RL.raised E6)) cs):=fun e H' L _ hs=> hP H' ⟨hs.base,e⟩;refine U7 ?_;refine .e (Or.uA (TX P) (bT P) (fun _=> True) rfl rfl rfl rfl rfl dE (fun _=> by simp[bT]) (fun H hs=> .h (kY H)) (fun b _=> ?_));refine U3 ?_;cases P with
 | nil=>
  have hw:=hw rfl;refine U4 ?_;refine To.QF rfl rfl rfl rfl rfl (fun H hs=> yH.of (first:= []) (captured:= []) eO rfl (dH M H)) (JH.gP func40 fun H' hs=> hw H' _ sL hs)
 | cons w fs =>
  by_cases c0:fs= []
  ·subst c0;have hw:=hw rfl;refine U4 ?_;refine To.QF rfl rfl rfl rfl rfl (fun H hs=> yH.of (first:= []) (captured:= []) eO rfl (dH M H)) (JH.gP func40 fun H' hs=> hw H' _ sL hs)
  ·have c1 : 1<=fs.length:=List.length_pos_iff.2 c0;have hct:=List.count_le_length (a:=(59:UInt8)) (l:=s);have mX:fs.length+1<=s.length+1:=by rw[List.length_cons] at mX;omega
   have rO:(w::fs).length=fs.length+1:=rfl;have g1:gA .gtr .i64 (((w::fs).length:Nat):Int) 1=some (.bool true):=zF oM;refine U4 ?_;refine .cl (fun H hs=> dI M H) ?_;refine U9 ?_;refine .x (oA.slice (E:=en) (l:=1) (h:=(fs.length+1:Nat)) (off':=1) rfl rfl rfl rfl rfl rfl rfl rfl oM oM oM (by rw[if_neg oM];rfl)) ?_;refine U4 ?_;refine Tc.db (Tc.vA (σ:= { x:Nat×Gl 23 2//x.1<=fs.length/\(∀q∈fs.take x.1,GC q=true)/\x.2.n=x.1/\x.2.l=FV (fs.take x.1) }) (fun x=> ([(3,.slice (some ⟨b,0,none⟩) (fs.length+1) (fs.length+1)),(4,x.1.2.val),(14,.slice (some ⟨b,1,none⟩) fs.length fs.length),(15,.int .i64 (fs.length:Nat)),(16,.int .i64 (x.1.1:Nat))],[(b,true,.cells ⟨jA w::eB fs⟩ 9 (0,0))]++x.1.2.bl)) (fun x=> fs.length-x.1.1) ?_ ⟨(0,Gl.nil 23 2),Nat.zero_le _,fun _ h=> (nomatch h),rfl,rfl⟩);rintro⟨⟨i,g⟩,hi,zA,uD,ZE⟩ ih;simp only at hi zA uD ZE;show Tc M St _ _ _ _ [(3,.slice (some ⟨b,0,none⟩) (fs.length+1) (fs.length+1)),(4,g.val),(14,.slice (some ⟨b,1,none⟩) fs.length fs.length),(15,.int .i64 (fs.length:Nat)),(16,.int .i64 (i:Nat))] ([(b,true,.cells ⟨jA w::eB fs⟩ 9 (0,0))]++g.bl) _ _;by_cases c2:i=fs.length
   ·clear ih;subst c2;rw[List.take_length] at zA ZE;obtain⟨x,hv,jX⟩:=RV g oM;rw[uD] at hv;rw[ZE] at jX;rw[hv,jX];clear hv jX uD ZE;have f0:SB false 1 (jA w::eB fs) (0+(0:Int).toNat*1)=some (jA w):=rfl;by_cases c3:w=SE
    ·subst c3;have s1:RL.cC .eql SE SE=some (.bool true):=rfl;have s2:RL.cC .eql SE BE=some (.bool false):=rfl;by_cases c4:fs.length=3
     ·match fs,c4,zA,QN with
      | [p,q,r],_,zA,_=>
       have h1:=zA p (by simp);have h2:=zA q (by simp);have h3:=zA r (by simp);have hr:s7 [SE,p,q,r]=some (.mW (WA p) (ZA p) (WA q) (ZA q) (WA r) (ZA r)):=if_pos ⟨rfl,by rw[h1,h2,h3];rfl⟩;refine xR ?_;refine Tc.dr [] [] mixed rfl ?_;refine V10 0 ?_;refine .q 10 rfl (oA.iface rfl rfl kR) ?_;refine .nn 11 ?_;refine .dn ?_;refine .rt hK func40 results40 [_] ?_;exact fun H' hs=> ⟨hs.base,_,hr,rfl⟩
     ·have hw:=hw (by
       match fs,c4 with
       | [],_=> rfl
       | [_],_=> rfl
       | [p,q],_=> exact wW dE
       | [_,_,_],h=> exact absurd rfl h
       | _::_::_::_::_,_=> rfl)
      refine U41 ?_;refine .x (oA.iface rfl rfl kR) ?_;exact To.lM rfl rfl rfl func40 fun H' hle=> hw H' [] (List.Sublist.refl _) ((eA.nil H).mono hle)
    ·have s1:RL.cC .eql w SE=some (.bool false):=by
      show some (Value.bool (w==SE))=_;rw[beq_eq_false_iff_ne.2 c3]
     by_cases c5:w=BE
     ·subst c5;have s2:RL.cC .eql BE BE=some (.bool true):=rfl;by_cases c4:fs.length=2
      ·match fs,c4,zA,QN with
       | [p,q],_,zA,_=>
        have h1:=zA p (by simp);have h2:=zA q (by simp);have hr:s7 [BE,p,q]=some (.oS (WA p) (ZA p) (WA q) (ZA q)):=if_pos ⟨rfl,by rw[h1,h2];rfl⟩;refine U38 ?_;refine Tc.dr [] [] mixed rfl ?_;refine V8 0 ?_;refine .q 8 rfl (oA.iface rfl rfl kR) ?_;refine .nn 9 ?_;refine .dn ?_;refine .rt hK func40 results40 [_] ?_;exact fun H' hs=> ⟨hs.base,_,hr,rfl⟩
      ·have hw:=hw (by
        match fs,c4 with
        | [],_=> rfl
        | [_],_=> rfl
        | [_,_],h=> exact absurd rfl h
        | [p,q,r],_=> exact xW dE
        | _::_::_::_::_,_=> rfl)
       refine U41 ?_;refine .x (oA.iface rfl rfl kR) ?_;exact To.lM rfl rfl rfl func40 fun H' hle=> hw H' [] (List.Sublist.refl _) ((eA.nil H).mono hle)
     ·have s2:RL.cC .eql w BE=some (.bool false):=by
       show some (Value.bool (w==BE))=_;rw[beq_eq_false_iff_ne.2 c5]
      have hw:=hw (by
       match fs with
       | []=> rfl
       | [_]=> rfl
       | [p,q]=> exact wW c5
       | [p,q,r]=> exact xW c3
       | _::_::_::_::_=> rfl)
      refine U41 ?_;refine .x (oA.iface rfl rfl kR) ?_;exact To.lM rfl rfl rfl func40 fun H' hle=> hw H' [] (List.Sublist.refl _) ((eA.nil H).mono hle)
   ·have c3:i<fs.length:=by omega
    have QC:fs[i]∈fs:=List.getElem_mem c3;have hql:=QN fs[i] (List.mem_cons_of_mem _ QC);have f1:SB false 1 (jA w::eB fs) (1+((i:Nat):Int).toNat*1)=some (jA fs[i]):=by
     have e:1+((i:Nat):Int).toNat*1=i+1:=by omega
     rw[e];show(jA w::eB fs)[i+1]? =_;rw[List.getElem?_cons_succ];unfold eB;rw[List.getElem?_map,List.getElem?_eq_getElem c3];rfl
    have pR:fs.take (i+1)=fs.take i++[fs[i]]:=List.take_succ_eq_append_getElem c3;generalize fs[i]=q at QC hql f1 pR;cases hq:GC q with
    | false=>
     have hw:=hw (OQ QC hq);clear ih;refine pH ?_;refine To.QF rfl rfl rfl rfl rfl (fun H hs=> yH.of (first:= []) (captured:= []) aDO rfl (QS M H q oM hq)) (JH.gP func40 fun H' hs=> hw H' _ sL hs)
    | true=>
     have hbc:=fun H=> VU M H q oM hq;have bE:=fun(g2:Gl 23 2) (h1:g2.n=i+1) (h2:g2.l=FV (fs.take i)++FV [q])=> ih ⟨(i+1,g2),by simp only;omega,by
      simp only;rw[pR];intro y hy;rcases List.mem_append.1 hy with hy|hy
      ·exact zA y hy
      ·rw[List.mem_singleton.1 hy];exact hq,h1,by
      simp only;rw[pR];unfold FV;rw[List.flatMap_append];exact h2⟩ (by simp only;omega)
     simp only at bE;clear ih;refine pH ?_;refine .cl (fun H hs=> hbc H) ?_;refine .e (.bs (zz:=fun bs=> ?_));refine .e (Or.append (E:=en) 2 rfl rfl rfl rfl rfl rfl rfl rfl rfl rfl rfl rfl rfl rfl rfl (fun H hs=> NA.of (hs.get (i:=0) rfl) (Nat.le_of_ble_eq_true rfl)) rfl oM rfl dE (fun g2 CK RJ=> ?_));refine U7 ?_;exact Tc.db (bE g2 (by rw[CK,uD]) (by rw[RJ,ZE];rfl))
end
end Go.Proofs.YtgkmnalhddmclaaGreatDoor
namespace Go.RL
open Go.Conc
section
variable {P:Program}{M:Md P}{St:View->Goroutine->Prop}{n:Nat}{b:FB}{H₀:View}{cs:List Frame}{R:Rg}{L L':Bl}{ds:List Deferred}{o:Oper}{v:Value}
theorem oA.aAy {t u s:TypeId}{x:Operand}{w:Value}(iA:o.op=.binOp .eql t x (.const .nilIface) u)(hx:GA R x=some (.iface s w))(hi:ifT P t=true):oA P n H₀ R L o (.bool false):=fun H tmps _ hr=> by
 obtain⟨ms,ht⟩:=AU hi;unfold execOp;rw[iA];simp only[hr.ev hx];show yA P (((eqGuard .eql t x (.const .nilIface) (.iface s w) .nilIface).bind fun _=> binOp .eql t (.iface s w) .nilIface).bind _) H _;refine aA _ _ (aA _ _ ?_);have hg:eqGuard .eql t x (.const .nilIface) (.iface s w) .nilIface=Sem.pure ():=by
  unfold eqGuard;cases x <;> rfl
 rw[hg];show yA P ((Op.equalIn (9999+1) t (.iface s w) .nilIface).bind fun c=> Sem.pure (Value.bool c)) H _;refine aA _ _ ?_;unfold Op.equalIn;refine aA (underlying t) _ (dA ht ?_);exact⟨rfl,rfl⟩
theorem JH.q8(hL:L'.Sublist L)(h:JH M St n b H₀ cs R L' ds v):JH M St n b H₀ cs R L ds v:=fun H tmps todo hs hr=> h H tmps todo (hs.less hL) hr
variable {E:Env P}{K:Rg->Bl->Prop}
theorem Or.aBw {t:TypeId}{x y:Operand}{r:wA}{blk off:Nat}(iA:o.op=.store t x y)(hx:GA R x=some (.pointer (some ⟨blk,off,none⟩)))(hy:GA R y=some v)(ht:E.ty t=some r)(hz:v.cells.toList= [])(h0:r.size=0)(hd:o.dst=none)(hk:K R L):Or M n H₀ R L o K:=
 .gP hd fun H tmps kB hr=> by
  unfold execOp;rw[iA];simp only[hr.ev hx,hr.ev hy];show yA P ((storeVar t _ v).bind _) H _;refine aA _ _ (aA (sizeOf t) _ (IA (E.ok _ _ ht).size ?_));have hs:v.cells.size=0:=by rw[<-Array.length_toList,hz];rfl
  rw[if_neg (by simp[hs,h0])];show yA P (storeCells ⟨blk,off,none⟩ v.cells.toList) H _;rw[hz];exact⟨rfl,L,kB,hk⟩
end
end Go.RL
namespace Go.Proofs.YtgkmnalhddmclaaGreatDoor
open Go.RL Go.Proofs.Tryz
set_option maxRecDepth 10000
set_option maxHeartbeats 16000000
theorem kI(y x:UInt8):∀p:List UInt8,nA y (p++[x])=if x=y then nA y p++[[]] else(nA y p).dropLast++[(nA y p).getLast?.getD []++[x]]
 | []=> by
  show nA y [x]=_;rw[MD];by_cases h:x=y
  ·rw[if_pos h,if_pos h];rfl
  ·rw[if_neg h,if_neg h];rfl
 | z ::p=> by
  have ih:=kI y x p;have gB:=AE y p;show nA y (z::(p++[x]))=_;rw[MD,MD,ih];cases hp:nA y p with
  | nil=> exact(gB hp).elim
  | cons a l=>
   by_cases h:x=y
   ·simp only[if_pos h];by_cases hz:z=y
    ·simp[hz]
    ·simp[hz]
   ·simp only[if_neg h];by_cases hz:z=y
    ·simp only[if_pos hz];cases l with
     | nil=> rfl
     | cons b l=> simp
    ·simp only[if_neg hz];cases l with
     | nil=> simp
     | cons b l=> simp
section
variable(M:Md prog)(H:View)
theorem S6(s:List UInt8)(y:UInt8)(hm:s.length<=1000000):
  cA M 119 #[jA s,.int .u8 (y.toNat:Nat)] H (fun v H'=> H.le H'/\∃g:Gl 9 1,v=g.val/\(g.n=(nA y s).length/\g.l=eB (nA y s)/\∃b,g.blk=some b)/\∀x∈g.bl,H' x.1=some x.2/\H x.1=none):=by
 refine .en func119 ntmps119 fun St c cs hK=> ?_;refine U6 ?_;refine .e (.bs (zz:=fun b0=> ?_));refine U8 ?_;refine Tc.db (Tc.vA (σ:= { x:Nat×Gl 9 1//x.1<=s.length/\x.2.n=(nA y (s.take x.1)).length/\x.2.l=eB (nA y (s.take x.1))/\∃b,x.2.blk=some b }) (fun x=> ([(0,jA s),(1,.int .u8 (y.toNat:Nat)),(5,x.1.2.val),(6,.int .i64 (x.1.1:Nat))],x.1.2.bl)) (fun x=> s.length-x.1.1) ?_ ⟨(0,⟨some b0,1,1,[jA []],[],rfl,Nat.le_refl _,rfl,fun h=> nomatch h⟩),Nat.zero_le _,rfl,rfl,b0,rfl⟩);rintro⟨⟨i,g⟩,hi,uD,ZE,b,hb⟩ ih;simp only at hi uD ZE hb;show Tc M St _ _ _ _ [(0,jA s),(1,.int .u8 (y.toNat:Nat)),(5,g.val),(6,.int .i64 (i:Nat))] g.bl _ _;by_cases c1:i=s.length
 ·clear ih;subst c1;rw[List.take_length] at uD ZE;refine WL ?_;refine .rt hK func119 results119 [_] ?_;exact fun H' hs=> ⟨hs.base,g,rfl,⟨uD,ZE,b,hb⟩,fun x hx=> ⟨hs.at_ x hx,hs.out x hx⟩⟩
 ·have c2:i<s.length:=by omega
  have hx:s[((i:Nat):Int).toNat]? =some s[i]:=by rw[Int.toNat_natCast,List.getElem?_eq_getElem c2]
  have mG:=kI y s[i] (s.take i);rw[<-List.take_succ_eq_append_getElem c2] at mG;have hbound:(nA y (s.take i)).length<=i+1:=by
   rw[YB];have h1:(s.take i).count y<=(s.take i).length:=List.count_le_length;rw[List.length_take] at h1;omega
  by_cases c3:s[i]=y
  ·have e1:gA .eql .u8 ((s[i].toNat:Nat):Int) ((y.toNat:Nat):Int)=some (.bool true):=vC (by rw[c3]);rw[if_pos c3] at mG;refine B4 ?_;refine .e (.bs (zz:=fun bs=> ?_));refine .e (Or.append (E:=en) 1 rfl rfl rfl rfl rfl rfl rfl rfl rfl rfl rfl rfl rfl rfl rfl (fun H hs=> NA.of (hs.get (i:=0) rfl) (Nat.le_of_ble_eq_true rfl)) rfl oM rfl dE (fun g3 Y5 dW=> ?_));refine U8 ?_;have hb3:∃b,g3.blk=some b:=by
    cases h:g3.blk with
    | some b=> exact⟨b,rfl⟩
    | none=> have:=g3.h0 h;have:=g3.hc;omega
   exact Tc.db (ih ⟨(i+1,g3),by simp only;omega,by simp only;rw[mG,Y5,uD];simp,by simp only;rw[mG,dW,ZE,FE];rfl,hb3⟩ (by simp only;omega))
  ·have hxy:¬((s[i].toNat:Nat):Int)=((y.toNat:Nat):Int):=fun e=> c3 (UInt8.toNat_inj.1 oM);have e1:gA .eql .u8 ((s[i].toNat:Nat):Int) ((y.toNat:Nat):Int)=some (.bool false):=CB hxy;rw[if_neg c3] at mG;obtain⟨l,p,hlp⟩:∃l p,nA y (s.take i)=l++[p]:=⟨(nA y (s.take i)).dropLast,(nA y (s.take i)).getLast (AE _ _),(List.dropLast_concat_getLast _).symm⟩
   have rO:p.length<=1000000:=by
    have h1:=QE y (s.take i) p (by rw[hlp];simp);rw[List.length_take] at h1;omega
   rw[hlp] at mG uD ZE hbound;rw[List.dropLast_concat,List.getLast?_concat,Option.getD_some] at mG;simp only[List.length_append,List.length_cons,List.length_nil] at uD hbound;have hv:g.val=.slice (some ⟨b,0,none⟩) g.n g.cap:=by unfold Gl.val;rw[hb];rfl
   have hZ:g.bl= [(b,true,.cells ⟨g.l++g.CC⟩ 9 (0,0))]:=by unfold Gl.bl;rw[hb]
   have a1:gA .sub .i64 ((g.n:Nat):Int) 1=some (.int .i64 ((l.length:Nat):Int)):=by
    rw[uD];exact(GF oM oM).trans (by congr 2;omega)
   have a2:gA .add .i64 ((i:Nat):Int) 1=some (.int .i64 ((i+1:Nat):Int)):=tC oM oM;have t1:(s.drop ((i:Nat):Int).toNat).take (((i+1:Nat):Int).toNat-((i:Nat):Int).toNat)= [s[i]]:=by
    rw[Int.toNat_natCast,Int.toNat_natCast,show i+1-i=1 by omega,List.drop_eq_getElem_cons c2];rfl
   have f1:SB false 1 (g.l++g.CC) (0+((l.length:Nat):Int).toNat*1)=some (jA p):=by
    show(g.l++g.CC)[0+((l.length:Nat):Int).toNat*1]? =_;rw[Int.toNat_natCast,Nat.zero_add,Nat.mul_one,ZE,FE,List.append_assoc,List.getElem?_append_right (by rw[sD];exact Nat.le_refl _),sD,Nat.sub_self];rfl
   have kB:∀z:List UInt8,IE (g.l++g.CC) (0+((l.length:Nat):Int).toNat*1) [jA z]=eB (l++[z])++g.CC:=fun z=> by
    rw[Int.toNat_natCast,Nat.zero_add,Nat.mul_one,ZE,FE,List.append_assoc,FE,List.append_assoc];unfold IE;rw[<-sD l,List.take_left,List.drop_append];have e1:(eB l).length+[jA z].length-(eB l).length=1:=by simp
    rw[List.drop_of_length_le (by simp),e1];simp[eB]
   have aEQ:Nat.ble (0+((l.length:Nat):Int).toNat*1+1) (g.l++g.CC).length=true:=by
    have h1:g.l.length=l.length+1:=by rw[ZE,sD];simp
    rw[Int.toNat_natCast,Nat.zero_add,Nat.mul_one,List.length_append,h1];exact Nat.ble_eq_true_of_le oM
   have NK:IE (g.l++g.CC) (0+((l.length:Nat):Int).toNat*1) [jA (p++(s.drop ((i:Nat):Int).toNat).take (((i+1:Nat):Int).toNat-((i:Nat):Int).toNat))]=eB (l++[p++[s[i]]])++g.CC:=by rw[t1,kB]
   clear kB t1;rw[hv,hZ];refine U30 ?_;refine Tc.dr [13] [0] mixed rfl ?_;refine V10 0 ?_;refine .q 10 rfl (oA.HD (E:=en) rfl rfl rfl rfl rfl rfl oM oM oM) ?_;refine .q 11 rfl (oA.cC rfl rfl rfl (by exact ZB (by simp <;> omega))) ?_;refine .nn 12 ?_;refine .e 13 0 ?_;refine .dn ?_;refine U6 ?_;obtain⟨g3,hg3⟩:∃g3:Gl 9 1,g3=⟨some b,g.n,g.cap,eB (l++[p++[s[i]]]),g.CC,by rw[sD,uD];simp,g.hc,g.hj,fun h=> nomatch h⟩:=⟨_,rfl⟩
   have hr:=ih ⟨(i+1,g3),by simp only;omega,by simp only;rw[mG,hg3];simp[uD],by simp only;rw[mG,hg3],b,by simp only;rw[hg3]⟩ (by simp only;omega);have hv3:g3.val=.slice (some ⟨b,0,none⟩) g.n g.cap:=by rw[hg3];rfl
   have aD7:g3.bl= [(b,true,.cells ⟨eB (l++[p++[s[i]]])++g.CC⟩ 9 (0,0))]:=by rw[hg3];rfl
   simp only[hv3,aD7] at hr;exact Tc.db (hr)
end
theorem EX(y:UInt8)(s:List UInt8):∀p∈nA y s,y ∉ p:=by
 suffices h:∀(n:Nat) (s:List UInt8),s.length<=n->∀p∈nA y s,y ∉ p from h s.length s (Nat.le_refl _)
 intro n;induction n with
 | zero=>
  intro s hs p hp;obtain rfl:s= []:=List.length_eq_zero_iff.1 oM;rw[MB y [] (by simp)] at hp;simp only[List.mem_singleton] at hp;subst hp;simp
 | succ n ih=>
  intro s hs p hp;rcases jG y s with h0|⟨a,b,rfl,h0⟩
  ·rw[MB y s h0] at hp;simp only[List.mem_singleton] at hp;subst hp;exact h0
  ·rw[MC y b a h0] at hp;simp only[List.length_append,List.length_cons] at hs;rcases List.mem_cons.1 hp with rfl|hp
   ·exact h0
   ·exact ih b oM p hp
theorem XS {s:List UInt8}{l:List (List UInt8)}{p:List UInt8}(h:nA 10 s=l++[p]):xE s=l++(if p= [] then [] else [p]):=by
 have hp:(10:UInt8) ∉ p:=EX 10 s p (by rw[h];simp);unfold xE xB;rw[h,List.dropLast_concat,List.getLast?_concat,Option.getD_some,List.map_append,List.map_map]
 congr 1
 ·have:(JF 10∘fun p=> p++[10])=id:=by
   funext q
   exact FO 10 q
  rw[this,List.map_id]
 ·split
  ·rfl
  ·rw[List.map_cons,List.map_nil,IV hp]
structure LnI(s:List UInt8)(i f:Nat)(g:Gl 9 1)(l:List (List UInt8)):Prop where
 hi:i<=s.length
 hf:f<=i
 hp:nA 10 (s.take i)=l++[(s.drop f).take (i-f)]
 hn:g.n=l.length
 hl:g.l=eB l
section
variable(M:Md prog)(H:View)
theorem gT(s:List UInt8)(hm:s.length<=1000000):cA M 43 #[jA s] H (fun v H'=> H.le H'/\∃g:Gl 9 1,v=g.val/\(g.n=(xE s).length/\g.l=eB (xE s))/\∀x∈g.bl,H' x.1=some x.2/\H x.1=none):=by
 refine .en func43 ntmps43 fun St c cs hK=> ?_;refine pH ?_;refine Tc.db (Tc.vA (σ:= { x:(Nat×Nat)×Gl 9 1×List (List UInt8)//LnI s x.1.1 x.1.2 x.2.1 x.2.2 }) (fun x=> ([(0,jA s),(3,x.1.2.1.val),(4,.int .i64 (x.1.1.2:Nat)),(5,.int .i64 (x.1.1.1:Nat))],x.1.2.1.bl)) (fun x=> s.length-x.1.1.1) ?_ ⟨((0,0),Gl.nil 9 1,[]),⟨Nat.zero_le _,Nat.le_refl _,rfl,rfl,rfl⟩⟩);rintro⟨⟨⟨i,f⟩,g,l⟩,hI⟩ ih;simp only at hI;show Tc M St _ _ _ _ [(0,jA s),(3,g.val),(4,.int .i64 (f:Nat)),(5,.int .i64 (i:Nat))] g.bl _ _;obtain⟨hi,hf,hp,uD,ZE⟩:=hI;have hll:l.length<=i:=by
  have h1:=congrArg List.length hp;rw[YB,List.length_append] at h1;have h2:(s.take i).count 10<=(s.take i).length:=List.count_le_length;rw[List.length_take] at h2;simp only[List.length_cons,List.length_nil] at h1;omega
 by_cases c1:i=s.length
 ·clear ih;subst c1;rw[List.take_length] at hp;have hrw:=XS hp;by_cases c3:f<s.length
  ·have Z9:(s.drop f).take (s.length-f)≠ []:=fun e=> by
    have:=congrArg List.length e;rw[List.length_take,List.length_drop,List.length_nil] at this;omega
   rw[if_neg Z9] at hrw;refine U23 ?_;refine .x (oA.HD (E:=en) rfl rfl rfl rfl rfl rfl oM oM oM) ?_;refine .e (.bs (zz:=fun bs=> ?_));refine .e (Or.append (E:=en) 1 rfl rfl rfl rfl rfl rfl rfl rfl rfl rfl rfl rfl rfl rfl rfl (fun H hs=> NA.of (hs.get (i:=0) rfl) (Nat.le_of_ble_eq_true rfl)) rfl oM rfl dE (fun g3 Y5 dW=> ?_));refine U7 ?_;refine .rt hK func43 results43 [_] ?_;refine fun H' hs=> ⟨hs.base,g3,rfl,⟨by rw[hrw,Y5,uD];simp,?_⟩,fun x hx=> ⟨hs.at_ x (List.mem_append_right _ hx),hs.out x (List.mem_append_right _ hx)⟩⟩
   rw[dW,ZE,hrw,FE];rfl
  ·have Z9:(s.drop f).take (s.length-f)= []:=by
    rw[List.drop_of_length_le oM,List.take_nil]
   rw[if_pos Z9,List.append_nil] at hrw;refine B4 ?_;refine .rt hK func43 results43 [_] ?_;exact fun H' hs=> ⟨hs.base,g,rfl,⟨by rw[hrw,uD],by rw[hrw,ZE]⟩,fun x hx=> ⟨hs.at_ x hx,hs.out x hx⟩⟩
 ·have c2:i<s.length:=by omega
  have hx:s[((i:Nat):Int).toNat]? =some s[i]:=by rw[Int.toNat_natCast,List.getElem?_eq_getElem c2]
  have mG:=kI 10 s[i] (s.take i);rw[<-List.take_succ_eq_append_getElem c2,hp,List.dropLast_concat,List.getLast?_concat,Option.getD_some] at mG;by_cases c3:s[i]=10
  ·rw[if_pos c3] at mG;have e1:gA .eql .u8 ((s[i].toNat:Nat):Int) 10=some (.bool true):=vC (by rw[c3];rfl);refine B4 ?_;refine .x (oA.HD (E:=en) rfl rfl rfl rfl rfl rfl oM oM oM) ?_;refine .e (.bs (zz:=fun bs=> ?_));refine .e (Or.append (E:=en) 1 rfl rfl rfl rfl rfl rfl rfl rfl rfl rfl rfl rfl rfl rfl rfl (fun H hs=> NA.of (hs.get (i:=0) rfl) (Nat.le_of_ble_eq_true rfl)) rfl oM rfl dE (fun g3 Y5 dW=> ?_));refine eF ?_;exact Tc.db (ih ⟨((i+1,i+1),g3,l++[(s.drop f).take (i-f)]),⟨Nat.succ_le_of_lt c2,Nat.le_refl _,by rw[mG,Nat.sub_self];rfl,by rw[Y5,uD];simp,by rw[dW,ZE,FE];rfl⟩⟩ (by simp only;omega))
  ·rw[if_neg c3] at mG;have e1:gA .eql .u8 ((s[i].toNat:Nat):Int) 10=some (.bool false):=CB (fun e=> c3 (UInt8.toNat_inj.1 (by show s[i].toNat=10;omega)));refine U27 ?_;refine Tc.db (ih ⟨((i+1,f),g,l),⟨Nat.succ_le_of_lt c2,Nat.le_trans hf (Nat.le_succ i),?_,uD,ZE⟩⟩ (by simp only;omega));show nA 10 (s.take (i+1))=l++[(s.drop f).take (i+1-f)];rw[mG]
   congr 2
   rw[show i+1-f=(i-f)+1 by omega,List.take_succ_eq_append_getElem (by rw[List.length_drop];omega),List.getElem_drop]
   congr 2
   congr 1
   omega
end
set_option maxHeartbeats 2000000
structure EK where
 s0:Int
 s1:Int
 a0:Int
 a1:Int
 r0:Int
 r1:Int
 ls:List (Int×Int×Int×Int)
def EK.ch(t:EK):Ch:=
 { s0:=t.s0,s1:=t.s1,a0:=t.a0,a1:=t.a1,r0:=t.r0,r1:=t.r1,n:=t.ls.length,x:=fun i=> (t.ls[i]?.getD (0,0,0,0)).1,y:=fun i=> (t.ls[i]?.getD (0,0,0,0)).2.1,z:=fun i=> (t.ls[i]?.getD (0,0,0,0)).2.2.1,u:=fun i=> (t.ls[i]?.getD (0,0,0,0)).2.2.2,m:=0,at_:=fun _=> 0 }
def TH:EK:=⟨0,0,0,0,0,0,[]⟩
def EK.put(t:EK):Rw->EK
 | .mW a b c d e f=> ⟨a,b,c,d,e,f,t.ls⟩
 | .oS x y z u=> { t with ls:=t.ls++[(x,y,z,u)] }
def Rw.fits:Rw->Nat->Bool
 | .mW _ _ _ _ _ _,d=> d==0
 | .oS _ _ _ _,d=> d !=0
def LC:List (List UInt8)->Nat->EK->EK ⊕ Nat
 | [],_,t=> .inl t
 | x::xs,d,t=>
  match MG x with
  | some r=> if r.fits d then LC xs (d+1) (t.put r) else .inr (d+1)
  | none=> .inr (d+1)
def xD(s:List UInt8):Ch×Nat×Int:=
 match LC (xE s) 0 TH with
 | .inr n=> (TH.ch,n,3)
 | .inl t=> if xE s= [] then(TH.ch,0,3) else if t.ch.nB=0 then(t.ch,0,0) else(TH.ch,0,t.ch.nB)
theorem BJ {x:List UInt8}(xs:List (List UInt8))(d:Nat)(t:EK)(h:MG x=none):LC (x::xs) d t=.inr (d+1):=by
 rw[LC,h]
theorem kF {x:List UInt8}(xs:List (List UInt8))(d:Nat)(t:EK){r:Rw}(h:MG x=some r)(hf:r.fits d=false):LC (x::xs) d t=.inr (d+1):=by
 rw[LC,h];simp only[hf,Bool.false_eq_true,if_false]
theorem gH {x:List UInt8}(xs:List (List UInt8))(d:Nat)(t:EK){r:Rw}(h:MG x=some r)(hf:r.fits d=true):LC (x::xs) d t=LC xs (d+1) (t.put r):=by
 rw[LC,h];simp only[hf,if_true]
theorem EK.vW(t:EK)(r:Rw):(t.put r).ls.length<=t.ls.length+1:=by
 cases r with
 | mW=> exact Nat.le_succ _
 | oS x y z u=>
  show(t.ls++[(x,y,z,u)]).length<=_;rw[List.length_append];exact Nat.le_refl _
theorem AL:∀(xs:List (List UInt8)) (d:Nat) (t u:EK),LC xs d t=.inl u->u.ls.length<=t.ls.length+xs.length
 | [],_,t,u,e=> by
  have e:Sum.inl t=(Sum.inl u:EK ⊕ Nat):=e;cases e
  exact Nat.le_refl _
 | x ::xs,d,t,u,e=> by
  cases hr:MG x with
  | none=> rw[BJ xs d t hr] at e;cases e
  | some r=>
   cases hf:r.fits d with
   | false=> rw[kF xs d t hr hf] at e;cases e
   | true=>
    rw[gH xs d t hr hf] at e;have:=AL xs (d+1) _ u e;have:=t.vW r;rw[List.length_cons];omega
theorem iR:∀l:List (List UInt8),l.length<=wl l
 | []=> Nat.le_refl _
 | a::l=> by
  have:=iR l;rw[nH,List.length_cons];omega
theorem KZ(p x:List UInt8)(h:JF 10 x=p):x.length<=p.length+1:=by
 subst h;unfold JF;split
 ·rw[List.length_dropLast];omega
 ·omega
def lK(l:List (Int×Int×Int×Int)):List Value:=l.flatMap fun x=> [.int .i64 x.1,.int .i64 x.2.1,.int .i64 x.2.2.1,.int .i64 x.2.2.2]
theorem KU:∀(l:List (Int×Int×Int×Int)) (J:List Value) (i:Nat),i<l.length->SB true 4 (lK l++J) (i*4)=some (fF (l[i]?.getD (0,0,0,0)).1 (l[i]?.getD (0,0,0,0)).2.1 (l[i]?.getD (0,0,0,0)).2.2.1 (l[i]?.getD (0,0,0,0)).2.2.2)
 | [],_,_,h=> by cases h
 | x::l,J,0,_=> by
  unfold SB;simp only;have e3:Nat.ble (0*4+4) (lK (x::l)++J).length=true:=Nat.ble_eq_true_of_le (by simp[lK]);rw[e3];rfl
 | x ::l,J,i+1,h=> by
  have ih:=KU l J i (by simpa using h);have e:lK (x::l)++J= [.int .i64 x.1,.int .i64 x.2.1,.int .i64 x.2.2.1,.int .i64 x.2.2.2]++(lK l++J):=by simp[lK]
  have e2:(i+1)*4=4+i*4:=by omega
  rw[List.getElem?_cons_succ,<-ih,e,e2];unfold SB;simp only;have e3:Nat.ble (4+i*4+4) ([Value.int .i64 x.1,.int .i64 x.2.1,.int .i64 x.2.2.1,.int .i64 x.2.2.2]++(lK l++J)).length=Nat.ble (i*4+4) (lK l++J).length:=by
   rw[Bool.eq_iff_iff];simp only[Nat.ble_eq,List.length_append,List.length_cons,List.length_nil];omega
  rw[e3];have e4:List.drop (4+i*4) ([Value.int .i64 x.1,.int .i64 x.2.1,.int .i64 x.2.2.1,.int .i64 x.2.2.2]++(lK l++J))=List.drop (i*4) (lK l++J):=by
   rw[<-List.drop_drop];rfl
  rw[e4]
theorem pS {t:EK}{H:View}{g:Gl 38 4}(hn:g.n=t.ls.length)(hl:g.l=lK t.ls)(h:∀x∈g.bl,H x.1=some x.2):zB H t.ch (g.blk.map fun b=> ⟨b,0,none⟩) g.cap:=by
 refine⟨by rw[<-show g.n=t.ch.n from hn];exact g.hc,?_⟩;obtain⟨gb,gn,gc,gl,gj,h1,h2,h3,h4⟩:=g;simp only at hn hl h1;cases gb with
 | none=>
  have h5:=h4 rfl;subst h5;exact .inl (show t.ls.length=0 by omega)
 | some b=>
  subst hn hl;refine .inr ⟨b,0,true,lK t.ls++gj,_,_,rfl,h _ (List.mem_singleton.2 rfl),fun i hi=> ?_⟩;rw[Nat.zero_add];exact KU t.ls gj i hi
section
variable(M:Md prog)(H:View)
theorem nN(vs:List Value)(hv:vs.length=2):oY M 38 vs.toArray H (fun H'=> H.le H'):=by
 refine oY.enter (n:=12) func38 rfl ntmps38 oM (eA.nil _) fun St b₀ tmps₀ ds₀ todo₀ cs hK=> ?_;refine U2 ?_;refine To.WU rfl rfl rfl rfl dE ?_;refine U4 ?_;refine .x (oA.aCO rfl rfl kR) ?_;refine U6 ?_;exact Tc.Q6 en hK func38 results38 fun H' hs=> hs.base
theorem oN {H₀:View}{b2 b3 b4:Nat}{n s0 s1 a0 a1 r0 r1:Int}{x:Value}(hs:eA H₀ [(b2,true,.cells ⟨[.int .i64 s0,.int .i64 s1,x,.int .i64 a0,.int .i64 a1,.int .i64 r0,.int .i64 r1]⟩ 26 (0,0)),(b3,true,.cells ⟨[.int .i64 n]⟩ 3 (0,0)),(b4,true,.cells ⟨[.int .i64 0]⟩ 29 (0,0))] H):
  nY M 38 #[.pointer (some ⟨b2,0,none⟩),.pointer (some ⟨b4,0,none⟩)] H E6 fun H'=> eA H₀ [(b2,true,.cells ⟨[.int .i64 0,.int .i64 0,.slice none 0 0,.int .i64 0,.int .i64 0,.int .i64 0,.int .i64 0]⟩ 26 (0,0)),(b3,true,.cells ⟨[.int .i64 n]⟩ 3 (0,0)),(b4,true,.cells ⟨[.int .i64 3]⟩ 29 (0,0))] H':=by
 refine nY.enter (vs:= [.pointer (some ⟨b2,0,none⟩),.pointer (some ⟨b4,0,none⟩)]) (n:=12) func38 rfl ntmps38 (Nat.le_of_ble_eq_true rfl) hs fun St b₀ tmps₀ ds₀ todo₀ cs hK=> ?_;refine U2 ?_;refine To.XU rfl rfl rfl rfl dE ?_;refine U4 ?_;refine .x (oA.aAy rfl rfl kR) ?_;refine U4 ?_;refine .x (oA.OP rfl rfl kR) ?_;refine U6 ?_;refine .al fun b9=> ?_;refine .e (Or.aBw (E:=en) rfl rfl rfl rfl rfl rfl rfl ?_);refine U7 ?_;exact Tc.R6 en hK func38 results38 fun H' hs=> hs.less sL
end
set_option maxHeartbeats 16000000
def W6(P:List (List UInt8))(x:Nat×Nat×List Value):Value:=.slice (some ⟨x.1,0,none⟩) P.length x.2.1
def uW(P:List (List UInt8))(x:Nat×Nat×List Value):Bl:= [(x.1,true,.cells ⟨eB P++x.2.2⟩ 9 (0,0))]
theorem rD(P:List (List UInt8))(x:Nat×Nat×List Value):((uW P x).map (·.1)).Nodup:=by simp[uW]
theorem ldP {P:List (List UInt8)}{i:Nat}{y:List UInt8}(J:List Value)(h:P[i]? =some y):SB false 1 (eB P++J) (0+((i:Nat):Int).toNat*1)=some (jA y):=by
 have hi:=(List.getElem?_eq_some_iff.1 h).1;show(eB P++J)[0+((i:Nat):Int).toNat*1]? =_;rw[Int.toNat_natCast,Nat.zero_add,Nat.mul_one,List.getElem?_append_left (by rw[sD];exact hi)];unfold eB;rw[List.getElem?_map,h];rfl
theorem PR {P:List (List UInt8)}(h: []∈P):∃j:Nat,P[j]? =some []/\∀i:Nat,i<j->∃y:List UInt8,P[i]? =some y/\y≠ []:=by
 obtain⟨a,b,rfl,h0⟩:=List.eq_append_cons_of_mem h;refine⟨a.length,by rw[List.getElem?_append_right (Nat.le_refl _)];simp,fun i hi=> ⟨a[i]'hi,?_,fun e=> h0 (by rw[<-e];exact List.getElem_mem hi)⟩⟩;rw[List.getElem?_append_left hi,List.getElem?_eq_getElem hi]
theorem eT {y:List UInt8}(h:y≠ []):RL.cC .eql y []=some (.bool false):=by
 show some (Value.bool (y== []))=_;rw[beq_eq_false_iff_ne.2 h]
section
variable(M:Md prog)(H:View)
theorem oK(s:List UInt8)(y:UInt8)(hm:s.length<=1000000):
  cA M 119 #[jA s,.int .u8 (y.toNat:Nat)] H (fun v H'=> H.le H'/\∃x,v=W6 (nA y s) x/\(nA y s).length<=x.2.1/\∀z∈uW (nA y s) x,H' z.1=some z.2/\H z.1=none):=
 cA.mono (S6 M H s y hm) fun v H' hv=> by
  obtain⟨h1,g,rfl,⟨h2,h3,b,h4⟩,h5⟩:=hv;refine⟨h1,(b,g.cap,g.CC),?_,by rw[<-h2];exact g.hc,fun z hz=> h5 z ?_⟩
  ·unfold Gl.val W6;rw[h4,h2];rfl
  ·unfold Gl.bl;rw[h4,h3];exact hz
theorem HW(s:List UInt8)(hm:s.length<=1000000)(h: []∈nA 59 s):cA M 82 #[jA s] H (fun v H'=> H.le H'/\v=.tuple ⟨[jA [],.slice none 0 0,.bool false]⟩):=by
 have hp:=fun H=> oK M H s 59 hm;have hlen:(nA 59 s).length<=1000001:=by
  have h1:=YB 59 s;have h2:s.count 59<=s.length:=List.count_le_length;omega
 obtain⟨j,hj,mB⟩:=PR h;have mZ:=(List.getElem?_eq_some_iff.1 hj).1;generalize nA 59 s=P at hp hj mB hlen mZ;clear h;refine .en func82 ntmps82 fun St c cs hK=> ?_;refine U9 ?_;refine .e (Or.uA (W6 P) (uW P) (fun x=> P.length<=x.2.1) rfl rfl rfl rfl rfl dE (rD P) (fun H hs=> .h (hp H)) (fun x hx=> ?_));refine U8 ?_;obtain⟨b,cap,J⟩:=x;simp only at hx;refine Tc.db (Tc.vA (σ:= { i:Nat//i<=j }) (fun i=> ([(5,.slice (some ⟨b,0,none⟩) P.length cap),(6,.int .i64 (i.1:Nat))],[(b,true,.cells ⟨eB P++J⟩ 9 (0,0))])) (fun i=> j-i.1) ?_ ⟨0,Nat.zero_le _⟩);rintro⟨i,hi⟩ ih;show Tc M St _ _ _ _ [(5,.slice (some ⟨b,0,none⟩) P.length cap),(6,.int .i64 (i:Nat))] [(b,true,.cells ⟨eB P++J⟩ 9 (0,0))] _ _;by_cases c1:i=j
 ·clear ih;subst c1;have f1:=ldP J hj;refine U27 ?_;refine .rt hK func82 results82 [_,_,_] ?_;exact okB
 ·obtain⟨y,hy,gB⟩:=mB i oM;have f1:=ldP J hy;have e1:=eT gB;refine U28 ?_;exact Tc.db (ih ⟨i+1,oM⟩ (by simp only;omega))
def PU(c:Nat):Nat:=if c=1 then 0 else 1
def fiV(w:List UInt8)(l:List (List UInt8))(x:Nat×Nat×List Value):Value:=.tuple ⟨[jA w,.slice (some ⟨x.1,PU x.2.1,none⟩) l.length (x.2.1-1),.bool (decide (1<l.length+1))]⟩
theorem pY(s:List UInt8)(hm:s.length<=1000000)(w:List UInt8)(l:List (List UInt8))(hP:nA 59 s=w::l)(h:∀y∈w::l,y≠ []):
  cA M 82 #[jA s] H (fun v H'=> H.le H'/\∃x,v=fiV w l x/\l.length+1<=x.2.1/\∀z∈uW (w::l) x,H' z.1=some z.2/\H z.1=none):=by
 have hp:=fun H=> oK M H s 59 hm;have hlen:(nA 59 s).length<=1000001:=by
  have h1:=YB 59 s;have h2:s.count 59<=s.length:=List.count_le_length;omega
 rw[hP] at hp hlen;simp only[List.length_cons] at hlen;refine .en func82 ntmps82 fun St c cs hK=> ?_;refine U9 ?_;refine .e (Or.uA (W6 (w::l)) (uW (w::l)) (fun x=> (w::l).length<=x.2.1) rfl rfl rfl rfl rfl dE (rD (w::l)) (fun H hs=> .h (hp H)) (fun x hx=> ?_));refine U8 ?_;obtain⟨b,cap,J⟩:=x;simp only[List.length_cons] at hx;refine Tc.db (Tc.vA (σ:= { i:Nat//i<=l.length+1 }) (fun i=> ([(5,.slice (some ⟨b,0,none⟩) (l.length+1) cap),(6,.int .i64 (i.1:Nat))],[(b,true,.cells ⟨eB (w::l)++J⟩ 9 (0,0))])) (fun i=> l.length+1-i.1) ?_ ⟨0,Nat.zero_le _⟩);rintro⟨i,hi⟩ ih;show Tc M St _ _ _ _ [(5,.slice (some ⟨b,0,none⟩) (l.length+1) cap),(6,.int .i64 (i:Nat))] [(b,true,.cells ⟨eB (w::l)++J⟩ 9 (0,0))] _ _;by_cases c1:i=l.length+1
 ·clear ih;subst c1;have f0:SB false 1 (eB (w::l)++J) (0+(0:Int).toNat*1)=some (jA w):=ldP (i:=0) J rfl;have e1:gA .gtr .i64 ((l.length+1:Nat):Int) 1=some (.bool (decide (1<l.length+1))):=by
   by_cases c:1<l.length+1
   ·rw[decide_eq_true c];exact zF oM
   ·rw[decide_eq_false c];exact UF oM
  have DH:if((cap:Nat):Int)=1 then PU cap=0 else PU cap=0+(1:Int).toNat*1:=by
   unfold PU;split
   ·rename_i e;rw[if_pos oM]
   ·rename_i e;rw[if_neg oM];rfl
  refine eF ?_;refine Tc.dr [] [] mixed rfl ?_;refine V4 0 ?_;refine .q 4 rfl (oA.slice (E:=en) (l:=1) (h:=(l.length+1:Nat)) rfl rfl rfl rfl rfl rfl rfl rfl oM oM oM DH) ?_;refine V6 5 ?_;refine .dn ?_;refine .rt hK func82 results82 [_,_,_] ?_;refine fun H' hs=> ⟨hs.base,(b,cap,J),?_,hx,fun z hz=> ⟨hs.at_ z hz,hs.out z hz⟩⟩
  unfold fiV;rfl
 ·have c2:i<(w::l).length:=by rw[List.length_cons];omega
  have f1:=ldP J (List.getElem?_eq_getElem c2);have e1:=eT (h _ (List.getElem_mem c2));generalize (w::l)[i]=y at f1 e1;refine U28 ?_;exact Tc.db (ih ⟨i+1,oM⟩ (by simp only;omega))
end
end Go.Proofs.YtgkmnalhddmclaaGreatDoor
