/-
 Texts of the proofs over baudot/dial.
-/
import Derived.Test.YtgkmnalhddmclaaGreatDoorB09
namespace Go.Proofs.YtgkmnalhddmclaaGreatDoor
open Go.RL Go.Proofs.Tryz
set_option maxRecDepth 10000
set_option maxHeartbeats 600000
section
variable(M:Md prog)(H:View)
theorem kN(s:List UInt8)(y:UInt8)(hm:s.length<=1000000):dA M 194 #[nA s,nA [y]] H (fun v H'=> H.le H'/\v=nA (ZA y s)):=by
 have h1:([y]:List UInt8).length=1:=rfl;generalize c1:cD s [y]=t;have hp:=fun H=> HO M H s [y];rw[c1] at hp;cases t with
 | true=>
  have c2:1<=s.length:=by obtain⟨q,rfl⟩:=mG c1;simp
  have e1:(s.drop (([y].length:Nat):Int).toNat).take (((s.length:Nat):Int).toNat-(([y].length:Nat):Int).toNat)=ZA y s:=by
   unfold ZA;rw[if_pos c1];exact List.take_of_length_le (by simp only[List.length_drop];omega)
  refine .en func194 ntmps194 fun St c cs hK=> ?_;refine U9 ?_;refine .cl (fun H hs=> hp H) ?_;refine U7 ?_;refine .x (mA.yE (E:=en) rfl rfl rfl rfl rfl rfl oM oM oM) ?_;refine U2 ?_;refine .rt hK func194 results194 [_] ?_;refine fun H' hs=> ⟨hs.base,?_⟩
  rw[e1];rfl
 | false=>
  have e1:ZA y s=s:=by unfold ZA;rw[c1];rfl
  rw[e1];refine .en func194 ntmps194 fun St c cs hK=> ?_;refine U9 ?_;refine .cl (fun H hs=> hp H) ?_;refine U8 ?_;refine .rt hK func194 results194 [_] ?_;exact okB
theorem nJ(s:List UInt8)(y:UInt8)(hm:s.length<=1000000):dA M 167 #[nA s,nA [y]] H (fun v H'=> H.le H'/\v=nA (ZA y s)):=by
 refine .en func167 ntmps167 fun St c cs hK=> ?_;refine U8 ?_;refine .cl (fun H hs=> kN M H s y hm) ?_;refine U2 ?_;refine .rt hK func167 results167 [_] ?_;exact okB
theorem sH(s:List UInt8)(hm:s.length<=1000000)(h:lE s=true):dA M 117 #[nA s] H (fun v H'=> H.le H'/\v=.int .i64 (numOf s)):=by
 unfold lE at h;simp only[Bool.and_eq_true,Bool.or_eq_true] at h;obtain⟨⟨h1,h2⟩,h3⟩:=h;have h1:=of_decide_eq_true h1;have gP:=fun H=> nJ M H s 45 hm;have KI:=fun H=> QZ M H s h2 h1;have hu:cD s [45]=false->ZA 45 s=s:=fun e=> by unfold ZA;rw[e];rfl
 obtain⟨sg,oQ⟩:∃sg,sg=cD s [45]:=⟨_,rfl⟩
 generalize ZA 45 s=d at h1 h2 h3 gP KI hu;rw[<-oQ] at h3 hu;have e0:d[0]? =some (d[0]?.getD 0):=by
  rw[List.getElem?_eq_getElem oM];rfl
 generalize d[0]?.getD 0=x0 at e0 h3;have e17:RL.cF .eql (AH d) []=some (.bool true):=by
  show some (Value.bool (AH d== []))=_;rw[qK,h2]
 have htr:=fun H=> gX M H d oM;cases hx:x0 !=48 with
 | true=>
  have n1:iA .neq .u8 ((x0.toNat:Nat):Int) 48=some (.bool true):=NC (fun e=> by
   have:x0=48:=UInt8.toNat_inj.1 (by show x0.toNat=48;omega);rw[this] at hx;cases hx)
  refine .en func117 ntmps117 fun St c cs hK=> ?_;refine U7 ?_;refine .cl (fun H hs=> gP H) ?_;refine yI ?_;refine .cl (fun H hs=> htr H) ?_;refine fF ?_;refine .cl (fun H hs=> rH M H) ?_;refine U4 ?_;refine .cl (fun H hs=> KI H) ?_;refine fF ?_;refine .rt hK func117 results117 [_] ?_;exact okB
 | false=>
  rw[hx] at h3;have h4:x0=48:=by simpa using hx
  subst h4;have h5:d.length=1/\sg=false:=by simpa using h3
  obtain⟨h5,rfl⟩:=h5;have yB:d=s:=hu rfl;have hd:d= [48]:=by
   obtain⟨a,rfl⟩:=List.length_eq_one_iff.1 h5;have ha:a=48:=by simpa using e0
   rw[ha]
  have e19:RL.cF .eql s [48]=some (.bool true):=by rw[<-yB,hd];rfl
  refine .en func117 ntmps117 fun St c cs hK=> ?_;refine U7 ?_;refine .cl (fun H hs=> gP H) ?_;refine yI ?_;refine .cl (fun H hs=> htr H) ?_;refine fF ?_;refine .cl (fun H hs=> rH M H) ?_;refine U4 ?_;refine .cl (fun H hs=> KI H) ?_;refine fF ?_;refine .rt hK func117 results117 [_] ?_;exact okB
theorem iK(s:List UInt8)(hm:s.length<=1000000)(h:lE s=false):dH M 117 #[nA s] H R3 (fun H'=> H.le H'):=by
 unfold lE at h;have gP:=fun H=> nJ M H s 45 hm;have NU:(ZA 45 s).length<=1000000:=by
  unfold ZA;split
  ·rw[List.length_drop];omega
  ·exact hm
 have hz:s= [48]->(ZA 45 s).length=1/\cD s [45]=false:=by rintro rfl;exact⟨rfl,rfl⟩
 obtain⟨sg,oQ⟩:∃sg,sg=cD s [45]:=⟨_,rfl⟩
 generalize ZA 45 s=d at h gP NU hz;rw[<-oQ] at h hz;have htr:=fun H=> gX M H d oM;have UU:=fun H=> xG M H;by_cases c1:1<=d.length/\d.length<=9
 ·rw[decide_eq_true c1,Bool.true_and] at h;have e0:d[0]? =some (d[0]?.getD 0):=by
   rw[List.getElem?_eq_getElem oM];rfl
  generalize d[0]?.getD 0=x0 at e0 h;cases c2:d.all OH with
  | false=>
   have e17:RL.cF .eql (AH d) []=some (.bool false):=by
    show some (Value.bool (AH d== []))=_;rw[qK,c2]
   refine dH.enter (vs:= [nA s]) func117 rfl ntmps117 (Nat.le_of_ble_eq_true rfl) fun St c cs hP=> ?_;refine U7 ?_;refine .cl (fun H hs=> gP H) ?_;refine yI ?_;refine .cl (fun H hs=> htr H) ?_;refine U7 ?_;refine To.SA rfl dE rfl ?_;refine To.SA rfl dE rfl ?_;refine U2 ?_;refine To.nF rfl rfl rfl rfl rfl (fun H hs=> SG.of (first:= []) (captured:= []) qN rfl (UU H)) (ZG.hO func117 fun H' hs=> hP H' hs.base)
  | true=>
   rw[c2,Bool.true_and,Bool.or_eq_false_iff] at h;obtain⟨h3,h4⟩:=h;have e17:RL.cF .eql (AH d) []=some (.bool true):=by
    show some (Value.bool (AH d== []))=_;rw[qK,c2]
   have h5:x0=48:=by simpa using h3
   subst h5;have aB:s≠ [48]:=fun e=> by
    obtain⟨y1,y2⟩:=hz e;rw[y1,y2] at h4;cases h4
   have e19:RL.cF .eql s [48]=some (.bool false):=by
    show some (Value.bool (s== [48]))=_;rw[beq_eq_false_iff_ne.2 aB]
   refine dH.enter (vs:= [nA s]) func117 rfl ntmps117 (Nat.le_of_ble_eq_true rfl) fun St c cs hP=> ?_;refine U7 ?_;refine .cl (fun H hs=> gP H) ?_;refine yI ?_;refine .cl (fun H hs=> htr H) ?_;refine fF ?_;refine To.nF rfl rfl rfl rfl rfl (fun H hs=> SG.of (first:= []) (captured:= []) qN rfl (UU H)) (ZG.hO func117 fun H' hs=> hP H' hs.base)
 ·rcases(by omega:d.length=0\/9<d.length) with c2|c2
  ·refine dH.enter (vs:= [nA s]) func117 rfl ntmps117 (Nat.le_of_ble_eq_true rfl) fun St c cs hP=> ?_;refine U7 ?_;refine .cl (fun H hs=> gP H) ?_;refine U22 ?_;refine To.SA rfl dE rfl ?_;refine To.SA rfl dE rfl ?_;refine U2 ?_;refine To.nF rfl rfl rfl rfl rfl (fun H hs=> SG.of (first:= []) (captured:= []) qN rfl (UU H)) (ZG.hO func117 fun H' hs=> hP H' hs.base)
  ·refine dH.enter (vs:= [nA s]) func117 rfl ntmps117 (Nat.le_of_ble_eq_true rfl) fun St c cs hP=> ?_;refine U7 ?_;refine .cl (fun H hs=> gP H) ?_;refine U22 ?_;refine To.SA rfl dE rfl ?_;refine To.SA rfl dE rfl ?_;refine U2 ?_;refine To.nF rfl rfl rfl rfl rfl (fun H hs=> SG.of (first:= []) (captured:= []) qN rfl (UU H)) (ZG.hO func117 fun H' hs=> hP H' hs.base)
theorem HT(s:List UInt8)(hm:s.length<=1000000)(h:kD s=true):dA M 80 #[nA s] H (fun v H'=> H.le H'/\v=WB (HC s) (ZC s)):=by
 rcases EI 58 s with h0|⟨p,q,rfl,h0⟩
 ·obtain⟨b1,b2,b3⟩:=YJ h0;rw[b1] at h;rw[b2,b3];refine .en func80 ntmps80 fun St c cs hK=> ?_;refine U2 ?_;refine .al fun b2=> ?_;refine U4 ?_;refine .cl (fun H hs=> VW M H s 58 h0) ?_;refine fF ?_;refine .cl (fun H hs=> sH M H s hm h) ?_;refine U ?_;refine .al fun b6=> ?_;refine B5 ?_;refine .rt hK func80 results80 [_] ?_;exact okB
 ·obtain⟨b1,b2,b3⟩:=CI (q:=q) h0;rw[b1] at h;rw[b2,b3];simp only[Bool.and_eq_true] at h;obtain⟨⟨h1,h2⟩,h3⟩:=h;have h4:numOf p≠numOf q:=by simpa using h3
  have hl:(p++58::q).length=p.length+1+q.length:=by simp;omega
  have n1:iA .neq .i64 (numOf p) (numOf q)=some (.bool true):=NC h4;have c1:=fun H=> sH M H p oM h1;have c2:=fun H=> sH M H q oM h2;generalize numOf p=x at n1 c1;generalize numOf q=z at n1 c2;refine .en func80 ntmps80 fun St c cs hK=> ?_;refine U2 ?_;refine .al fun b2=> ?_;refine U4 ?_;refine .cl (fun H hs=> GO M H p q 58 h0 oM) ?_;refine fF ?_;refine .cl (fun H hs=> c1 H) ?_;refine U ?_;refine .al fun b6=> ?_;refine mN ?_;refine .cl (fun H hs=> c2 H) ?_;refine U9 ?_;refine .cl (fun H hs=> rH M H) ?_;refine U6 ?_;refine .rt hK func80 results80 [_] ?_;exact okB
theorem OR(s:List UInt8)(hm:s.length<=1000000)(h:kD s=false):dH M 80 #[nA s] H R3 (fun H'=> H.le H'):=by
 rcases EI 58 s with h0|⟨p,q,rfl,h0⟩
 ·obtain⟨b1,b2,b3⟩:=YJ h0;rw[b1] at h;have aY:=fun H=> iK M H s hm h;refine dH.enter (vs:= [nA s]) func80 rfl ntmps80 (Nat.le_of_ble_eq_true rfl) fun St c cs hP=> ?_;refine U2 ?_;refine .al fun b2=> ?_;refine U4 ?_;refine .cl (fun H hs=> VW M H s 58 h0) ?_;refine fF ?_;refine To.nF rfl rfl rfl rfl rfl (fun H hs=> SG.of (first:= []) (captured:= []) rX rfl (aY H)) (ZG.hO func80 fun H' hs=> hP H' hs.base)
 ·obtain⟨b1,b2,b3⟩:=CI (q:=q) h0;rw[b1] at h;have hl:(p++58::q).length=p.length+1+q.length:=by simp;omega
  cases h1:lE p with
  | false=>
   have aY:=fun H=> iK M H p oM h1;refine dH.enter (vs:= [nA (p++58::q)]) func80 rfl ntmps80 (Nat.le_of_ble_eq_true rfl) fun St c cs hP=> ?_;refine U2 ?_;refine .al fun b2=> ?_;refine U4 ?_;refine .cl (fun H hs=> GO M H p q 58 h0 oM) ?_;refine fF ?_;refine To.nF rfl rfl rfl rfl rfl (fun H hs=> SG.of (first:= []) (captured:= []) rX rfl (aY H)) (ZG.hO func80 fun H' hs=> hP H' hs.base)
  | true=>
   have c1:=fun H=> sH M H p oM h1;cases h2:lE q with
   | false=>
    have aY:=fun H=> iK M H q oM h2;generalize numOf p=x at c1;refine dH.enter (vs:= [nA (p++58::q)]) func80 rfl ntmps80 (Nat.le_of_ble_eq_true rfl) fun St c cs hP=> ?_;refine U2 ?_;refine .al fun b2=> ?_;refine U4 ?_;refine .cl (fun H hs=> GO M H p q 58 h0 oM) ?_;refine fF ?_;refine .cl (fun H hs=> c1 H) ?_;refine U ?_;refine .al fun b6=> ?_;refine mN ?_;refine To.nF rfl rfl rfl rfl rfl (fun H hs=> SG.of (first:= []) (captured:= []) rX rfl (aY H)) (ZG.hO func80 fun H' hs=> hP H' hs.base)
   | true=>
    have h4:numOf p=numOf q:=by simpa [h1,h2] using h
    have c2:=fun H=> sH M H q oM h2;rw[<-h4] at c2;generalize numOf p=x at c1 c2;have n1:iA .neq .i64 x x=some (.bool false):=kC rfl;refine dH.enter (vs:= [nA (p++58::q)]) func80 rfl ntmps80 (Nat.le_of_ble_eq_true rfl) fun St c cs hP=> ?_;refine U2 ?_;refine .al fun b2=> ?_;refine U4 ?_;refine .cl (fun H hs=> GO M H p q 58 h0 oM) ?_;refine fF ?_;refine .cl (fun H hs=> c1 H) ?_;refine U ?_;refine .al fun b6=> ?_;refine mN ?_;refine .cl (fun H hs=> c2 H) ?_;refine U9 ?_;refine To.nF rfl rfl rfl rfl rfl (fun H hs=> SG.of (first:= []) (captured:= []) qN rfl (xG M H)) (ZG.hO func80 fun H' hs=> hP H' hs.base)
end
set_option maxHeartbeats 16000000
def nB(s:List UInt8):List (List UInt8):=
 (((FA 10 s).dropLast).map fun p=> p++[10])++(if((FA 10 s).getLast?.getD [])= [] then [] else [(FA 10 s).getLast?.getD []])
theorem OI:nB []= []:=rfl
theorem eK {s:List UInt8}(h:(10:UInt8) ∉ s)(aB:s≠ []):nB s= [s]:=by
 unfold nB;rw[tC 10 s h];show []++(if s= [] then [] else [s])=_;rw[if_neg aB];rfl
theorem wG {p q:List UInt8}(h:(10:UInt8) ∉ p):nB (p++10::q)=(p++[10])::nB q:=by
 unfold nB;rw[rD 10 q p h];cases hq:FA 10 q with
 | nil=> exact(lO 10 q hq).elim
 | cons a l=> rfl
def AP(b1:Nat):Value:=.func (.func 77) #[] #[.pointer (some ⟨b1,0,none⟩)]
section
variable(M:Md prog)(H:View)
theorem H0(s:List UInt8):dA M 39 #[nA s] H (fun v H'=> H.le H'/\∃b,v=AP b/\True/\∀z∈ [(b,true,Obj.cells ⟨[nA s]⟩ 9 (0,0))],H' z.1=some z.2/\H z.1=none):=by
 refine .en func39 ntmps39 fun St c cs hK=> ?_;refine U2 ?_;refine .bo fun b1=> ?_;refine U7 ?_;refine .rt hK func39 results39 [_] ?_;refine fun H' hs=> ⟨hs.base,b1,rfl,trivial,fun z hz=> ?_⟩
 simp only[List.mem_singleton] at hz;subst hz;exact⟨hs.get (i:=0) rfl,hs.fresh (i:=0) rfl⟩
end
end Go.Proofs.YtgkmnalhddmclaaGreatDoor
namespace Go.Proofs.YtgkmnalhddmclaaGreatDoor
open Go.RL Go.Proofs.Tryz
set_option maxRecDepth 10000
theorem yM(y:UInt8):∀(l:List (List UInt8)) (p:List UInt8),(∀q∈p::l,y ∉ q)->FA y (bD y (p::l))=p::l
 | [],p,h=> by
  show FA y (p++[])=_;rw[List.append_nil];exact tC y p (h p List.mem_cons_self)
 | q::l,p,h=> by
  have ih:=yM y l q fun r hr=> h r (List.mem_cons_of_mem _ hr);have e:bD y (p::q::l)=p++y::bD y (q::l):=by simp[bD]
  rw[e,rD y _ p (h p List.mem_cons_self),ih]
theorem pT(y:UInt8)(s:List UInt8):lastB y (s++[y])=true:=by simp[lastB]
theorem aK(y:UInt8)(s:List UInt8):SE y (s++[y])=s:=by
 unfold SE;rw[if_pos (pT y s),List.dropLast_concat]
theorem yU {y:UInt8}{s:List UInt8}(h:y ∉ s):SE y s=s:=by
 unfold SE;rw[if_neg];intro e;have e:s.getLast? =some y:=by simpa [lastB] using e
 exact h (List.mem_of_getLast? e)
def feed(S:List (List UInt8)):List UInt8:=S.flatMap fun s=> s++[10]
theorem QH(s:List UInt8)(S:List (List UInt8)):feed (s::S)=s++10::feed S:=by simp[feed]
theorem wO:∀(S:List (List UInt8)),(∀s∈S,(10:UInt8) ∉ s)->(nB (feed S)).map (SE 10)=S
 | [],_=> rfl
 | s::S,h=> by
  have ih:=wO S fun r hr=> h r (List.mem_cons_of_mem _ hr);rw[QH,wG (h s List.mem_cons_self),List.map_cons,ih,aK]
theorem YR:∀(S:List (List UInt8)),(∀s∈S,(10:UInt8) ∉ s/\s≠ [])->(nB (feed S).dropLast).map (SE 10)=S
 | [],_=> rfl
 | [s],h=> by
  obtain⟨h1,h2⟩:=h s List.mem_cons_self;have e:(feed [s]).dropLast=s:=by
   rw[QH];show(s++[10]).dropLast=s;exact List.dropLast_concat
  rw[e,eK h1 h2,List.map_cons,List.map_nil,yU h1]
 | s ::r::S,h=> by
  have ih:=YR (r::S) fun q hq=> h q (List.mem_cons_of_mem _ hq);have aB:feed (r::S)≠ []:=by rw[QH];simp
  have e:(feed (s::r::S)).dropLast=s++10::(feed (r::S)).dropLast:=by
   rw[QH,List.dropLast_append_of_ne_nil (by simp)];cases hf:feed (r::S) with
   | nil=> exact(aB hf).elim
   | cons a l=> rfl
  rw[e,wG (h s List.mem_cons_self).1,List.map_cons,ih,aK]
def MP(s:List UInt8):Prop:=s≠ []/\(59:UInt8) ∉ s/\(10:UInt8) ∉ s
theorem gW {x y:UInt8}{l:List (List UInt8)}(h:x∈bD y l):x=y\/∃p∈l,x∈p:=by
 cases l with
 | nil=> cases h
 | cons p l=>
  rcases List.mem_append.1 h with h|h
  ·exact .inr ⟨p,List.mem_cons_self,h⟩
  ·obtain⟨q,h1,h2⟩:=List.mem_flatMap.1 h;rcases List.mem_cons.1 h2 with h2|h2
   ·exact .inl h2
   ·exact .inr ⟨q,List.mem_cons_of_mem _ h1,h2⟩
theorem dV {p:List UInt8}{l:List (List UInt8)}(h:∀q∈p::l,MP q):FA 59 (bD 59 (p::l))=p::l/\(10:UInt8) ∉ bD 59 (p::l)/\bD 59 (p::l)≠ []:=by
 refine⟨yM 59 l p fun q hq=> (h q hq).2.1,?_,?_⟩
 ·intro hx;rcases gW hx with h1|⟨q,h1,h2⟩
  ·exact absurd h1 dE
  ·exact(h q h1).2.2 h2
 ·intro e;exact(h p List.mem_cons_self).1 (List.append_eq_nil_iff.1 e).1
set_option maxHeartbeats 16000000
theorem DR(y:UInt8)(s:List UInt8):∀p∈FA y s,p.length<=s.length:=by
 suffices h:∀(n:Nat) (s:List UInt8),s.length<=n->∀p∈FA y s,p.length<=s.length from h s.length s (Nat.le_refl _)
 intro n;induction n with
 | zero=>
  intro s hs p hp;obtain rfl:s= []:=List.length_eq_zero_iff.1 oM;rw[tC y [] (by simp)] at hp;simp only[List.mem_singleton] at hp;subst hp;exact Nat.le_refl _
 | succ n ih=>
  intro s hs p hp;rcases EI y s with h0|⟨a,b,rfl,h0⟩
  ·rw[tC y s h0] at hp;simp only[List.mem_singleton] at hp;subst hp;exact Nat.le_refl _
  ·rw[rD y b a h0] at hp;simp only[List.length_append,List.length_cons] at hs ⊢;rcases List.mem_cons.1 hp with rfl|hp
   ·omega
   ·have:=ih b oM p hp;omega
def wl(l:List (List UInt8)):Nat:=(l.map fun p=> p.length+1).sum
theorem bI(p:List UInt8)(l:List (List UInt8)):wl (p::l)=p.length+1+wl l:=by simp[wl]
theorem AZ:wl []=0:=rfl
theorem aCa(y:UInt8)(s:List UInt8):wl (FA y s)=s.length+1:=by
 suffices h:∀(n:Nat) (s:List UInt8),s.length<=n->wl (FA y s)=s.length+1 from h s.length s (Nat.le_refl _)
 intro n;induction n with
 | zero=>
  intro s hs;obtain rfl:s= []:=List.length_eq_zero_iff.1 oM;rw[tC y [] (by simp)];rfl
 | succ n ih=>
  intro s hs;rcases EI y s with h0|⟨a,b,rfl,h0⟩
  ·rw[tC y s h0,bI,AZ]
  ·simp only[List.length_append,List.length_cons] at hs;rw[rD y b a h0,bI,ih b oM];simp only[List.length_append,List.length_cons];omega
theorem zZ(s:List UInt8):wl ((nB s).map (SE 10))<=s.length+1:=by
 suffices h:∀(n:Nat) (s:List UInt8),s.length<=n->wl ((nB s).map (SE 10))<=s.length+1 from h s.length s (Nat.le_refl _)
 intro n;induction n with
 | zero=>
  intro s hs;obtain rfl:s= []:=List.length_eq_zero_iff.1 oM;rw[OI];simp[wl]
 | succ n ih=>
  intro s hs;by_cases aB:s= []
  ·subst aB;rw[OI];simp[wl]
  rcases EI 10 s with h0|⟨a,b,rfl,h0⟩
  ·rw[eK h0 aB,List.map_cons,List.map_nil,yU h0,bI,AZ];exact Nat.le_refl _
  ·simp only[List.length_append,List.length_cons] at hs;rw[wG h0,List.map_cons,aK,bI];have:=ih b oM;simp only[List.length_append,List.length_cons];omega
def bG(s:List UInt8):List (List UInt8):=(nB s).map (SE 10)
section
variable(M:Md prog)(H:View)
theorem eW(s:List UInt8)(hm:s.length<=1000000)(b1:Nat)(pv:Value):
  w5 M (AP b1) (nB s) (fun x (_:Unit)=> [nA x]) (fun _ _=> []) (fun _ _=> []) (fun _=> True) [(b1,true,.cells ⟨[nA s]⟩ 9 (0,0))] H pv:=fun l J D X _ h0 hy H₀ vD=> by
 refine bN.of (first:= []) (captured:= [_]) aCw rfl ?_;refine EL.enter (vs:= [.func (.yield l) #[] #[],.pointer (some ⟨b1,0,none⟩)]) func77 rfl ntmps77 (Nat.le_of_ble_eq_true rfl) vD fun St c cs hK hP=> ?_;refine U ?_;refine Tc.db (Tc.oR (σ:= { x:List UInt8×View//J (nB x.1) x.2/\x.1.length<=1000000/\∃dn,dn++nB x.1=nB s }) (fun x=> (x.1.2,[(0,.func (.yield l) #[] #[]),(1,.pointer (some ⟨b1,0,none⟩))],[(b1,true,.cells ⟨[nA x.1.1]⟩ 9 (0,0))])) (fun x=> x.1.1.length) ?_ ⟨(s,H),h0,hm,[],rfl⟩);rintro⟨⟨r,H₁⟩,j1,hr,dn,J7⟩ ih;simp only at j1 hr J7;show Tc M St _ _ H₁ _ [(0,.func (.yield l) #[] #[]),(1,.pointer (some ⟨b1,0,none⟩))] [(b1,true,.cells ⟨[nA r]⟩ 9 (0,0))] _ _;by_cases c1:r= []
 ·clear ih;subst c1;refine U9 ?_;refine .ov hK func77 results77 [] ?_;exact fun H' hs=> ⟨H₁,hs.base,.inl j1⟩
 ·have c2:1<=r.length:=List.length_pos_iff.2 c1;rcases EI 10 r with h0|⟨p,q,rfl,h0⟩
  ·have hx:=nY h0;rw[eK h0 c1] at j1 J7;have WC:r∈nB s:=by rw[<-J7];simp
   refine mN ?_;refine .cl (fun H hs=> kJ M H r 10 _ hx) ?_;refine PW ?_;refine To.ES rfl rfl rfl rfl rfl rfl dE (hy r [] () H₁ H₁ WC j1 (eA.nil _)) (fun v H₂ hv=> ?_) (fun H₂ hx=> ZG.hO func77 fun H' hs=> hP H' ⟨H₂,hs.base,hx⟩);rcases hv with ⟨rfl,H₃,h3,j3⟩|⟨rfl,hD⟩
   ·have fJ:=ih ⟨([],H₃),j3,by simp,dn++[r],by rw[OI,List.append_nil];exact J7⟩ (by simp only[List.length_nil];omega);refine To.lower h3.base ?_;refine U5 ?_;exact Tc.db (fJ)
   ·refine U3 ?_;refine .rt hK func77 results77 [] ?_;exact fun H' hs=> ⟨H₂,hs.base,.inr hD⟩
  ·have hx:=uL (q:=q) h0;rw[wG h0] at j1 J7;have WC:p++[10]∈nB s:=by rw[<-J7];simp
   have hl:(p++10::q).length=p.length+1+q.length:=by simp;omega
   have t1:((p++10::q).drop ((0:Nat):Int).toNat).take ((((p.length:Nat):Int)+1).toNat-((0:Nat):Int).toNat)=p++[10]:=by
    have e:(((p.length:Nat):Int)+1).toNat=p.length+1:=by omega
    rw[e,show p++10::q=(p++[10])++q by simp];show((p++[10])++q).take (p.length+1-0)=_;rw[List.take_left' (by simp)]
   have t2:((p++10::q).drop (((p.length:Nat):Int)+1).toNat).take ((((p++10::q).length:Nat):Int).toNat-(((p.length:Nat):Int)+1).toNat)=q:=by
    have e:(((p.length:Nat):Int)+1).toNat=p.length+1:=by omega
    rw[e,hl,List.drop_append,List.drop_of_length_le oM,List.nil_append,Nat.add_sub_cancel_left,List.drop_succ_cons,List.drop_zero];exact List.take_of_length_le oM
   have fJ:=fun(H₃:View) (j3:J (nB q) H₃)=> ih ⟨(q,H₃),j3,by simp only;omega,dn++[p++[10]],by rw[<-J7];simp⟩ (by simp only;omega);clear ih;simp only at fJ;obtain⟨r,s3⟩:∃r,r=p++10::q:=⟨_,rfl⟩
   rw[<-s3] at hl hx t1 t2 hr c2 ⊢;refine mN ?_;refine .cl (fun H hs=> kJ M H r 10 _ hx) ?_;refine U8 ?_;refine Tc.dr [9] [0] mixed rfl ?_;refine V3 0 ?_;refine .q 3 rfl (mA.yE (E:=en) rfl rfl rfl rfl rfl rfl oM oM oM) ?_;refine V3 4 ?_;refine .q 7 rfl (mA.yE (E:=en) rfl rfl rfl rfl rfl rfl oM oM oM) ?_;refine .nn 8 ?_;refine .e 9 0 ?_;refine .dn ?_;rw[t1,t2];refine U4 ?_;refine To.ES rfl rfl rfl rfl rfl rfl dE (hy (p++[10]) (nB q) () H₁ H₁ WC j1 (eA.nil _)) (fun v H₂ hv=> ?_) (fun H₂ hx=> ZG.hO func77 fun H' hs=> hP H' ⟨H₂,hs.base,hx⟩);rcases hv with ⟨rfl,H₃,h3,j3⟩|⟨rfl,hD⟩
   ·refine To.lower h3.base ?_;refine U5 ?_;exact Tc.db (fJ H₃ j3)
   ·refine U3 ?_;refine .rt hK func77 results77 [] ?_;exact fun H' hs=> ⟨H₂,hs.base,.inr hD⟩
end
section
variable(M:Md prog)(H:View)
end
set_option maxHeartbeats 8000000
section
variable(M:Md prog)(H:View)
theorem mH(a b:Int)(h:oB a b=false):dA M 71 #[WB a b] H (fun v H'=> H.le H'/\v=.bool false):=
 dA.mono (UH M H a b) (by rintro v H' ⟨h1,h2⟩;exact⟨h1,h2.trans (congrArg Value.bool h)⟩)
theorem qJ(x y z u:Int)(hG:nC H)(t:Bool)(h:(oD x y&&JD z u)=t)(n:Int)(hn:n=if t then 0 else 1):dA M 111 #[CE x y z u] H (fun v H'=> H.le H'/\v=.int .i64 n):=
 dA.mono (oF M H x y z u hG) (by rintro v H' ⟨h1,h2⟩;rw[L3,h] at h2;rw[hn];exact⟨h1,h2⟩)
theorem QL(ch:Ch)(A:Option Addr)(lc:Nat)(hA:CB H ch A lc)(hG:nC H):
  dA M 72 #[.slice A ch.n lc] H (fun v H'=> H.le H'/\v=.int .i64 ch.JA):=by
 by_cases h:1<=ch.n/\ch.n<=4
 ·obtain⟨hlc,h0|⟨lb,lo,f,gs,gt,gz,rfl,hA1,Z1⟩⟩:=hA
  ·omega
  refine .en func72 ntmps72 fun St c cs hK=> ?_;refine U26 ?_;refine Tc.db (Tc.IA (σ:= { j:Nat//j<=ch.n/\xC ch.aE j=true }) (fun j=> ([(14,.slice (some ⟨lb,lo,none⟩) ch.n lc),(15,.int .i64 (ch.n:Nat)),(16,.int .i64 (j.1:Nat)),(2,.int .i64 0)],[])) (fun j=> ch.n-j.1) ?_ ⟨0,oM,rfl⟩);rintro⟨j,hj,PA⟩ ih;show Tc M St _ _ _ _ [(14,.slice (some ⟨lb,lo,none⟩) ch.n lc),(15,.int .i64 (ch.n:Nat)),(16,.int .i64 (j:Nat)),(2,.int .i64 0)] [] _ _;by_cases c1:j=ch.n
  ·have e:ch.JA=0:=by unfold Ch.JA;rw[if_pos h,<-c1,if_pos PA]
   rw[e] at hK;subst c1;refine fF ?_;refine .rt hK func72 results72 [_] ?_;exact okB
  ·have c2:j<ch.n:=by omega
   have f1:YB true 4 gs (lo+(j:Int).toNat*4)=some (CE (ch.x j) (ch.y j) (ch.z j) (ch.u j)):=by rw[show(j:Int).toNat=j by simp];exact Z1 j c2
   cases hl:ch.aE j with
   | true=>
    refine yK ?_;refine .al fun b4=> ?_;refine U5 ?_;refine .cl (fun H hs=> qJ M H (ch.x j) (ch.y j) (ch.z j) (ch.u j) (zA hG hs.base) true hl 0 rfl) ?_;refine yI ?_;exact Tc.db (ih ⟨j+1,oM,by unfold xC;rw[PA,hl];rfl⟩ (by simp only;omega))
   | false=>
    have e:ch.JA=1:=by
     unfold Ch.JA;rw[if_pos h,if_neg];intro h5;rw[PE.1 h5 j c2] at hl;cases hl
    rw[e] at hK;refine yK ?_;refine .al fun b4=> ?_;refine U5 ?_;refine .cl (fun H hs=> qJ M H (ch.x j) (ch.y j) (ch.z j) (ch.u j) (zA hG hs.base) false hl 1 rfl) ?_;refine yK ?_;refine .rt hK func72 results72 [_] ?_;exact okB
 ·have e:ch.JA=2:=by unfold Ch.JA;rw[if_neg h]
  rw[e];by_cases h1:ch.n<1
  ·refine .en func72 ntmps72 fun St c cs hK=> ?_;refine B5 ?_;refine .rt hK func72 results72 [_] ?_;exact okB
  ·have h2:4<ch.n:=by omega
   refine .en func72 ntmps72 fun St c cs hK=> ?_;refine B5 ?_;refine .rt hK func72 results72 [_] ?_;exact okB
theorem QE(ch:Ch)(A:Option Addr)(lc:Nat)(hA:CB H ch A lc)(hG:nC H):dA M 30 #[ch.fG A lc] H (fun v H'=> H.le H'/\v=.int .i64 ch.dB):=by
 refine .en func30 ntmps30 fun St c cs hK=> ?_;refine U2 ?_;refine .bo fun b1=> ?_;refine AV ?_;refine Tc.db (Tc.IA (σ:= { j:Nat//j<=3/\(1<=j->oB ch.s0 ch.s1=true)/\(2<=j->oB ch.a0 ch.a1=true)/\(3<=j->oB ch.r0 ch.r1=true) }) (fun j=> ([(11,.agg ⟨[.int .i64 ch.s0,.int .i64 ch.s1,.int .i64 ch.a0,.int .i64 ch.a1,.int .i64 ch.r0,.int .i64 ch.r1]⟩),(1,.pointer (some ⟨b1,0,none⟩)),(12,.int .i64 (j.1:Nat)),(2,.int .i64 0)],[(b1,true,.cells ⟨(ch.fG A lc).cells.toList⟩ 26 (0,0))])) (fun j=> 3-j.1) ?_ ⟨0,oM,oM,oM,oM⟩);rintro⟨j,hj,h1,h2,h3⟩ ih;show Tc M St _ _ _ _ [(11,.agg ⟨[.int .i64 ch.s0,.int .i64 ch.s1,.int .i64 ch.a0,.int .i64 ch.a1,.int .i64 ch.r0,.int .i64 ch.r1]⟩),(1,.pointer (some ⟨b1,0,none⟩)),(12,.int .i64 (j:Nat)),(2,.int .i64 0)] [(b1,true,.cells ⟨(ch.fG A lc).cells.toList⟩ 26 (0,0))] _ _;rcases(by omega:j=0\/j=1\/j=2\/j=3) with rfl|rfl|rfl|rfl
 ·cases hp:oB ch.s0 ch.s1 with
  | true=>
   refine fF ?_;refine .x (mA.index (E:=en) rfl rfl rfl rfl rfl rfl oM oM (by exact rfl)) ?_;refine .al fun b4=> ?_;refine U5 ?_;refine .cl (fun H hs=> XC M H ch.s0 ch.s1 hp) ?_;refine U9 ?_;exact Tc.db (ih ⟨1,oM,fun _=> hp,fun h=> absurd h dE,fun h=> absurd h dE⟩ (by simp))
  | false=>
   have e:ch.dB=1:=by
    unfold Ch.dB Ch.vH;rw[hp];simp
   rw[e] at hK;refine fF ?_;refine .x (mA.index (E:=en) rfl rfl rfl rfl rfl rfl oM oM (by exact rfl)) ?_;refine .al fun b4=> ?_;refine U5 ?_;refine .cl (fun H hs=> mH M H ch.s0 ch.s1 hp) ?_;refine U7 ?_;refine .rt hK func30 results30 [_] ?_;exact okB
 ·cases hp:oB ch.a0 ch.a1 with
  | true=>
   refine fF ?_;refine .x (mA.index (E:=en) rfl rfl rfl rfl rfl rfl oM oM (by exact rfl)) ?_;refine .al fun b4=> ?_;refine U5 ?_;refine .cl (fun H hs=> XC M H ch.a0 ch.a1 hp) ?_;refine U9 ?_;exact Tc.db (ih ⟨2,oM,fun _=> h1 oM,fun _=> hp,fun h=> absurd h dE⟩ (by simp))
  | false=>
   have e:ch.dB=1:=by
    unfold Ch.dB Ch.vH;rw[hp];simp
   rw[e] at hK;refine fF ?_;refine .x (mA.index (E:=en) rfl rfl rfl rfl rfl rfl oM oM (by exact rfl)) ?_;refine .al fun b4=> ?_;refine U5 ?_;refine .cl (fun H hs=> mH M H ch.a0 ch.a1 hp) ?_;refine U7 ?_;refine .rt hK func30 results30 [_] ?_;exact okB
 ·cases hp:oB ch.r0 ch.r1 with
  | true=>
   refine fF ?_;refine .x (mA.index (E:=en) rfl rfl rfl rfl rfl rfl oM oM (by exact rfl)) ?_;refine .al fun b4=> ?_;refine U5 ?_;refine .cl (fun H hs=> XC M H ch.r0 ch.r1 hp) ?_;refine U9 ?_;exact Tc.db (ih ⟨3,oM,fun _=> h1 oM,fun _=> h2 oM,fun _=> hp⟩ (by simp))
  | false=>
   have e:ch.dB=1:=by
    unfold Ch.dB Ch.vH;rw[hp];simp
   rw[e] at hK;refine fF ?_;refine .x (mA.index (E:=en) rfl rfl rfl rfl rfl rfl oM oM (by exact rfl)) ?_;refine .al fun b4=> ?_;refine U5 ?_;refine .cl (fun H hs=> mH M H ch.r0 ch.r1 hp) ?_;refine U7 ?_;refine .rt hK func30 results30 [_] ?_;exact okB
 ·have e:ch.dB=ch.JA:=by
   unfold Ch.dB Ch.vH;rw[h1 oM,h2 oM,h3 oM];rfl
  rw[e] at hK;refine fF ?_;refine .cl (fun H hs=> QL M H ch A lc (hA.le hs.base) (zA hG hs.base)) ?_;refine U2 ?_;refine .rt hK func30 results30 [_] ?_;exact okB
theorem Ch.vY {ch:Ch}(h:ch.JA=0):(1<=ch.n/\ch.n<=4)/\∀i,i<ch.n->(-9<=ch.x i/\ch.x i<=ch.y i/\ch.y i<=9)/\(-12<=ch.z i/\ch.z i<=ch.u i/\ch.u i<=12):=by
 unfold Ch.JA at h;split at h
 ·rename_i hn
  split at h
  ·rename_i PA
   refine⟨hn,fun i hi=> ?_⟩;have:=PE.1 PA i hi;unfold Ch.aE oD JD at this;simp only[Bool.and_eq_true,decide_eq_true_eq] at this;omega
  ·cases h
 ·cases h
end
set_option maxHeartbeats 2000000
def IJ:List UInt8:= [109,111,116,111,114,115]
def lI:List UInt8:= [108,105,110,101]
def JG(c:Ch):List (List UInt8):= [IJ,XA c.s0 c.s1,XA c.a0 c.a1,XA c.r0 c.r1]
def tT(c:Ch)(i:Nat):List (List UInt8):= [lI,XA (c.x i) (c.y i),XA (c.z i) (c.u i)]
def OB(c:Ch)(i:Nat):List UInt8:=kI (JG c)++(List.range i).flatMap fun i=> kI (tT c i)
def wE(c:Ch):List UInt8:=OB c c.n
structure JL(c:Ch):Prop where
 n:1<=c.n/\c.n<=4
 s:WJ c.s0/\WJ c.s1
 a:WJ c.a0/\WJ c.a1
 r:WJ c.r0/\WJ c.r1
 l:∀i,i<c.n->(WJ (c.x i)/\WJ (c.y i))/\(WJ (c.z i)/\WJ (c.u i))
theorem rI(c:Ch)(i:Nat):OB c (i+1)=OB c i++kI (tT c i):=by
 unfold OB;rw[List.range_succ,List.flatMap_append];simp
theorem QN {c:Ch}(hp:JL c):(kI (JG c)).length<=40:=by
 have h1:=lD hp.s.1 hp.s.2;have h2:=lD hp.a.1 hp.a.2;have h3:=lD hp.r.1 hp.r.2;simp only[kI,JG,bD,IJ,List.flatMap_cons,List.flatMap_nil,List.length_append,List.length_cons,List.length_nil];omega
theorem iR {c:Ch}(hp:JL c){i:Nat}(hi:i<c.n):(kI (tT c i)).length<=40:=by
 obtain⟨⟨y1,y2⟩,y3,y4⟩:=hp.l i hi;have h1:=lD y1 y2;have h2:=lD y3 y4;simp only[kI,tT,bD,lI,List.flatMap_cons,List.flatMap_nil,List.length_append,List.length_cons,List.length_nil];omega
theorem CG {c:Ch}(hp:JL c):∀i,i<=c.n->(OB c i).length<=40+i*40
 | 0,_=> by
  have:=QN hp;show(kI (JG c)++[]).length<=_;rw[List.append_nil];omega
 | i+1,hi=> by
  have ih:=CG hp i oM;have:=iR hp (i:=i) oM;rw[rI,List.length_append];omega
def DO(H:View)(F:Option Addr)(l:List (Int×Int)):Prop:=
 ∃b o f gs gt gz,F=some ⟨b,o,none⟩/\H b=some (f,.cells ⟨gs⟩ gt gz)/\∀i:Nat,i<l.length->YB true 2 gs (o+(i:Int).toNat*2)=some (WB (l[i]?.getD (0,0)).1 (l[i]?.getD (0,0)).2)
def CF(l:List (Int×Int)):List (List UInt8):=l.map fun x=> XA x.1 x.2
def aAv(l:List (Int×Int)):Prop:=∀x∈l,WJ x.1/\WJ x.2
theorem SO {p q:List UInt8}{g g1 g2:Gl 5 1}(h1:AS p g g1)(h2:AS q g1 g2):AS (p++q) g g2:=
 ⟨by rw[h2.1,h1.1,List.length_append];omega,by rw[h2.2,h1.2,BS,List.append_assoc]⟩
def FR(w:List UInt8)(P:List (List UInt8)):List UInt8:=w++P.flatMap fun q=> 59::q
theorem pW(w:List UInt8)(P:List (List UInt8))(q:List UInt8):FR w (P++[q])=FR w P++(59::q):=by
 simp[FR]
theorem TY(w:List UInt8){l:List (Int×Int)}(h:aAv l):(FR w (CF l)).length<=w.length+8*l.length:=by
 unfold FR CF;rw[List.length_append]
 suffices hh:((l.map fun x=> XA x.1 x.2).flatMap fun q=> 59::q).length<=8*l.length by omega
 induction l with
 | nil=> simp
 | cons a l ih=>
  have h1:=h a List.mem_cons_self;have h2:=lD h1.1 h1.2;have h3:=ih fun x hx=> h x (List.mem_cons_of_mem _ hx);simp only[List.map_cons,List.flatMap_cons,List.length_append,List.length_cons];omega
section
variable(M:Md prog)(H:View)
theorem vQ(H₁:View)(b:Nat)(u:Bool)(g:Gl 5 1)(y:UInt8)(hm:g.n+1<=1000000)(vD:eA H₁ (oN b u g) H):
  dA M 34 #[.pointer (some ⟨b,0,none⟩),.int .u8 (y.toNat:Nat)] H (oJ H₁ (fun _:Gl 5 1=> .nilIface) (fun g'=> oN b true g') (AS [y] g)):=by
 refine dA.enter (vs:= [.pointer (some ⟨b,0,none⟩),.int .u8 (y.toNat:Nat)]) func34 rfl ntmps34 (Nat.le_of_ble_eq_true rfl) (vD) fun St c cs hK=> ?_;refine U7 ?_;refine .e (Or.fD 0 (σ:=Unit) (fun _=> .tuple ⟨[]⟩) (fun _=> oN b true g) (fun _=> True) rfl rfl rfl rfl rfl dE (fun H₁ H₂ jT zJ=> .h (BK M H₂ H₁ b u g zJ)) (fun _ _=> ?_));refine U9 ?_;refine .e (.bs (zz:=fun bs=> ?_));refine .e (Or.append (E:=en) 2 rfl rfl rfl rfl rfl rfl rfl rfl rfl rfl rfl rfl rfl rfl rfl (fun H hs=> gB.of (hs.get (i:=0) rfl) (Nat.le_of_ble_eq_true rfl)) rfl oM rfl dE (fun g2 B6 P2=> ?_));refine U8 ?_;refine .rt hK func34 results34 [_] ?_;exact fun H' hs=> ⟨g2,H₁,rfl,View.le_refl _,hs.less sL,B6,P2⟩
theorem YY(H₁:View)(hP:Pow H₁)(b:Nat)(u:Bool)(g:Gl 5 1)(w:List UInt8)(l:List (Int×Int))(F:Option Addr)(n fc:Nat)(hF:DO H₁ F l)(hn:n=l.length)(hl:aAv l)(hl4:l.length<=4)(hw:w.length<=10)(hm:g.n<=1000)(vD:eA H₁ (oN b u g) H):
  dA M 31 #[nA w,.slice F n fc,.pointer (some ⟨b,0,none⟩)] H (oJ H₁ (fun _:Gl 5 1=> .tuple ⟨[]⟩) (fun g'=> oN b true g') (AS (kI (w::CF l)) g)):=by
 subst hn;refine dA.enter (vs:= [nA w,.slice F l.length fc,.pointer (some ⟨b,0,none⟩)]) func31 rfl ntmps31 (Nat.le_of_ble_eq_true rfl) (vD) fun St c cs hK=> ?_;refine U3 ?_;refine .e (Or.fD 0 (σ:=Gl 5 1) (fun _=> .tuple ⟨[.int .i64 (w.length:Nat),.nilIface]⟩) (fun g'=> oN b true g') (AS w g) rfl rfl rfl rfl rfl dE (fun H₁ H₂ jT zJ=> .h (nI M H₂ H₁ b u g w oM zJ)) (fun g0 hg0=> ?_));refine U9 ?_;refine Tc.db (Tc.IA (σ:= { x:Nat×Gl 5 1//x.1<=l.length/\AS (FR w (CF (l.take x.1))) g x.2 }) (fun x=> ([(2,.pointer (some ⟨b,0,none⟩)),(9,.slice F l.length fc),(10,.int .i64 (l.length:Nat)),(11,.int .i64 (x.1.1:Nat))],oN b true x.1.2)) (fun x=> l.length-x.1.1) ?_ ⟨(0,g0),Nat.zero_le _,by simpa [FR,CF] using hg0⟩);rintro⟨⟨i,g1⟩,hi,J2⟩ ih;simp only at hi J2;show Tc M St _ _ _ _ [(2,.pointer (some ⟨b,0,none⟩)),(9,.slice F l.length fc),(10,.int .i64 (l.length:Nat)),(11,.int .i64 (i:Nat))] (oN b true g1) _ _;have XU:=TY w (l:=l.take i) (fun x hx=> hl x (List.mem_of_mem_take hx));have htl:(l.take i).length<=4:=by rw[List.length_take];omega
 have EK:g1.n<=1100:=by have:=J2.1;omega
 by_cases c1:i=l.length
 ·clear ih;subst c1;rw[List.take_length] at J2;have e1:kI (w::CF l)=FR w (CF l)++[10]:=rfl;refine U8 ?_;refine .e (Or.fD 0 (σ:=Gl 5 1) (fun _=> .nilIface) (fun g'=> oN b true g') (AS [10] g1) rfl rfl rfl rfl rfl dE (fun H₁ H₂ jT zJ=> .h (vQ M H₂ H₁ b true g1 10 oM zJ)) (fun g2 TV=> ?_));refine U ?_;refine .ov hK func31 results31 [] ?_;exact fun H' hs=> ⟨g2,H₁,rfl,View.le_refl _,hs,by rw[e1];exact SO J2 TV⟩
 ·have c2:i<l.length:=by omega
  obtain⟨ab,ao,f,gs,gt,gz,rfl,hb,hld⟩:=hF;have f1:=hld i c2;have hx:=hl l[i] (List.getElem_mem c2);have hsn:CF (l.take (i+1))=CF (l.take i)++[XA l[i].1 l[i].2]:=by
   rw[List.take_succ_eq_append_getElem c2];unfold CF;rw[List.map_append];rfl
  rw[List.getElem?_eq_getElem c2] at f1;simp only[Option.getD_some] at f1;have fJ:=fun(g2:Gl 5 1) (h:AS (59::XA l[i].1 l[i].2) g1 g2)=> ih ⟨(i+1,g2),by simp only;omega,by simp only;rw[hsn,pW];exact SO J2 h⟩ (by simp only;omega);simp only at fJ;clear ih hsn;have hbt:=fun(H':View) (h':H₁.le H')=> zQ M H' (hP.le h') l[i].1 l[i].2 hx.1 hx.2;have hbl:=lD hx.1 hx.2;generalize l[i].1=p at f1 fJ hbt hbl;generalize l[i].2=q at f1 fJ hbt hbl;generalize XA p q=v at fJ hbt hbl;have s1:RL.cF .add [59] v=some (nA (59::v)):=TM (by simp only[List.length_singleton];omega);refine yK ?_;refine .al fun b6=> ?_;refine U4 ?_;refine .cl (fun H hs=> hbt H hs.base) ?_;refine U ?_;refine .e (Or.fD 1 (σ:=Gl 5 1) (fun _=> .tuple ⟨[.int .i64 ((59::v).length:Nat),.nilIface]⟩) (fun g'=> oN b true g') (AS (59::v) g1) rfl rfl rfl rfl rfl dE (fun H₁ H₂ jT zJ=> .h (nI M H₂ H₁ b true g1 (59::v) (by simp only[List.length_cons];omega) zJ)) (fun g2 TV=> ?_));refine U6 ?_;exact Tc.db (fJ g2 TV)
theorem o7 {H:View}{b:Nat}{f:Bool}{e:TypeId}{fz:Nat×Nat}{x0 y0 x1 y1 x2 y2:Int}(h:H b=some (f,.cells ⟨[.int .i64 x0,.int .i64 y0,.int .i64 x1,.int .i64 y1,.int .i64 x2,.int .i64 y2]⟩ e fz)):DO H (some ⟨b,0,none⟩) [(x0,y0),(x1,y1),(x2,y2)]:=
 ⟨b,0,f,_,e,fz,rfl,h,fun i hi=> by
  have hi:i<3:=hi;rcases(by omega:i=0\/i=1\/i=2) with rfl|rfl|rfl <;> rfl⟩
theorem m7 {H:View}{b:Nat}{f:Bool}{e:TypeId}{fz:Nat×Nat}{x0 y0 x1 y1:Int}(h:H b=some (f,.cells ⟨[.int .i64 x0,.int .i64 y0,.int .i64 x1,.int .i64 y1]⟩ e fz)):DO H (some ⟨b,0,none⟩) [(x0,y0),(x1,y1)]:=
 ⟨b,0,f,_,e,fz,rfl,h,fun i hi=> by
  have hi:i<2:=hi;rcases(by omega:i=0\/i=1) with rfl|rfl <;> rfl⟩
theorem yV(hG:nC H)(ch:Ch)(A:Option Addr)(lc:Nat)(hA:CB H ch A lc)(ha:ch.dB≠0):
  dA M 7 #[ch.fG A lc] H (fun v H'=> H.le H'/\v=.tuple ⟨[nA [],.int .i64 ch.dB]⟩):=by
 have ho:=fun(H':View) (h:H.le H')=> QE M H' ch A lc (hA.le h) (zA hG h);have e2:iA .neq .i64 ch.dB 0=some (.bool true):=NC ha;generalize ch.dB=a at ho e2;refine .en func7 ntmps7 fun St c cs hK=> ?_;refine U2 ?_;refine .bo fun b1=> ?_;refine U7 ?_;refine .cl (fun H hs=> ho H hs.base) ?_;refine yI ?_;refine .rt hK func7 results7 [_,_] ?_;exact okB
theorem bX(hG:nC H)(hP:Pow H)(ch:Ch)(A:Option Addr)(lc:Nat)(hA:CB H ch A lc)(ha:ch.dB=0)(hp:JL ch):
  dA M 7 #[ch.fG A lc] H (fun v H'=> H.le H'/\v=.tuple ⟨[nA (wE ch),.int .i64 0]⟩):=by
 have ho:=fun(H':View) (h:H.le H')=> QE M H' ch A lc (hA.le h) (zA hG h);rw[ha] at ho;have hH0:=QN hp;refine .en func7 ntmps7 fun St c cs hK=> ?_;refine U2 ?_;refine .bo fun b1=> ?_;refine U7 ?_;refine .cl (fun H hs=> ho H hs.base) ?_;refine fF ?_;refine .al fun b5=> ?_;refine U7 ?_;refine Tc.perm (L₁:= [(b1,true,.cells ⟨[.int .i64 ch.s0,.int .i64 ch.s1,.slice A ch.n lc,.int .i64 ch.a0,.int .i64 ch.a1,.int .i64 ch.r0,.int .i64 ch.r1]⟩ 26 (0,0))]++oN b5 false (Gl.nil 5 1)) (List.perm_append_comm (l₁:= [_]) (l₂:= [_])) ?_;refine U8 ?_;refine .e (.bs (zz:=fun bs=> ?_));refine .e (Or.fD 2 (σ:=Gl 5 1) (fun _=> .tuple ⟨[]⟩) (fun g'=> oN b5 true g') (AS (kI (JG ch)) (Gl.nil 5 1)) rfl rfl rfl rfl rfl dE (fun H₁ H₂ jT zJ=> TC.of (first:= []) (captured:= [_]) aAN rfl (YY M H₂ H₁ (hP.le jT.base) b5 false (Gl.nil 5 1) IJ [(ch.s0,ch.s1),(ch.a0,ch.a1),(ch.r0,ch.r1)] (some ⟨bs,0,none⟩) 3 3 (o7 (jT.get (i:=0) rfl)) rfl (by intro x hx;simp only[List.mem_cons,List.not_mem_nil,or_false] at hx;rcases hx with rfl|rfl|rfl;exact hp.s;exact hp.a;exact hp.r) (by show 3<=4;omega) dE dE zJ)) (fun g0 hg0=> ?_));refine fH ?_;refine Tc.db (Tc.IA (σ:= { x:Nat×Gl 5 1//x.1<=ch.n/\AS (OB ch x.1) (Gl.nil 5 1) x.2 }) (fun x=> ([(5,.pointer (some ⟨b5,0,none⟩)),(6,.func (.func 31) #[] #[.pointer (some ⟨b5,0,none⟩)]),(25,.slice A ch.n lc),(26,.int .i64 (ch.n:Nat)),(27,.int .i64 (x.1.1:Nat))],oN b5 true x.1.2)) (fun x=> ch.n-x.1.1) ?_ ⟨(0,g0),Nat.zero_le _,by simpa [OB] using hg0⟩);rintro⟨⟨i,g⟩,hi,hg⟩ ih;simp only at hi hg;show Tc M St _ _ _ _ [(5,.pointer (some ⟨b5,0,none⟩)),(6,.func (.func 31) #[] #[.pointer (some ⟨b5,0,none⟩)]),(25,.slice A ch.n lc),(26,.int .i64 (ch.n:Nat)),(27,.int .i64 (i:Nat))] (oN b5 true g) _ _;have XU:=CG hp i hi;have C6:=hp.n;have EK:g.n=(OB ch i).length:=by rw[hg.1];show 0+_=_;omega
 have QU:g.l=QA (OB ch i):=by rw[hg.2];rfl
 by_cases c1:i=ch.n
 ·clear ih;subst c1;have aB:OB ch ch.n≠ []:=by
   intro h;have:=congrArg List.length h;simp[OB,kI] at this
  refine U9 ?_;refine .e (Or.fD 0 (σ:=Unit) (fun _=> nA (wE ch)) (fun _=> []) (fun _=> True) rfl rfl rfl rfl rfl dE (fun H₁ H₂ jT zJ=> .h (fX M H₂ H₁ b5 true g _ aB EK QU oM zJ)) (fun _ _=> ?_));refine U3 ?_;refine .rt hK func7 results7 [_,_] ?_;exact okB
 ·have c2:i<ch.n:=by omega
  obtain⟨_,h0|⟨ab,ao,f,gs,gt,gz,rfl,hb,hl⟩⟩:=hA
  ·omega
  have f1:YB true 4 gs (ao+(i:Int).toNat*4)=some (CE (ch.x i) (ch.y i) (ch.z i) (ch.u i)):=by rw[Int.toNat_natCast];exact hl i c2
  obtain⟨t1,t2⟩:=hp.l i c2;have hL1:=iR hp c2;have fJ:=fun(g2:Gl 5 1) (h:AS (kI (tT ch i)) g g2)=> ih ⟨(i+1,g2),by simp only;omega,by simp only;rw[rI];exact SO hg h⟩ (by simp only;omega);simp only at fJ;clear ih;refine yK ?_;refine .al fun b8=> ?_;refine U8 ?_;refine .e (.bs (zz:=fun bs=> ?_));refine .e (Or.fD 2 (σ:=Gl 5 1) (fun _=> .tuple ⟨[]⟩) (fun g'=> oN b5 true g') (AS (kI (tT ch i)) g) rfl rfl rfl rfl rfl dE (fun H₁ H₂ jT zJ=> TC.of (first:= []) (captured:= [_]) aAN rfl (YY M H₂ H₁ (hP.le jT.base) b5 true g lI [(ch.x i,ch.y i),(ch.z i,ch.u i)] (some ⟨bs,0,none⟩) 2 2 (m7 (jT.get (i:=0) rfl)) rfl (by intro x hx;simp only[List.mem_cons,List.not_mem_nil,or_false] at hx;rcases hx with rfl|rfl;exact t1;exact t2) (by show 2<=4;omega) dE oM zJ)) (fun g2 TV=> ?_));refine U6 ?_;exact Tc.db (fJ g2 TV)
end
inductive Rw where
 | EY (a b c d e f:Int)
 | tY (x y z u:Int)
def NZ:List (List UInt8)->Option Rw
 | [w,p,q,r]=> if w=IJ/\(kD p&&(kD q&&kD r))=true then some (.EY (HC p) (ZC p) (HC q) (ZC q) (HC r) (ZC r)) else none
 | [w,p,q]=> if w=lI/\(kD p&&kD q)=true then some (.tY (HC p) (ZC p) (HC q) (ZC q)) else none
 | _=> none
def KM(s:List UInt8):Option Rw:=NZ (FA 59 s)
def Rw.val:Rw->Value
 | .EY a b c d e f=> .iface 93 (.agg ⟨[.int .i64 a,.int .i64 b,.int .i64 c,.int .i64 d,.int .i64 e,.int .i64 f]⟩)
 | .tY x y z u=> .iface 96 (.agg ⟨[.int .i64 x,.int .i64 y,.int .i64 z,.int .i64 u]⟩)
def bnd(l:List (List UInt8)):List Value:=l.flatMap fun q=> [.int .i64 (HC q),.int .i64 (ZC q)]
theorem I6 {w p q:List UInt8}(h:w≠lI):NZ [w,p,q]=none:=if_neg fun e=> h e.1
theorem J6 {w p q r:List UInt8}(h:w≠IJ):NZ [w,p,q,r]=none:=if_neg fun e=> h e.1
theorem O4 {w q:List UInt8}{l:List (List UInt8)}(h:q∈l)(hq:kD q=false):NZ (w::l)=none:=by
 match l,h with
 | [],h=> cases h
 | [a],_=> rfl
 | [a,b],h=>
  refine if_neg ?_;rintro⟨_,e⟩;rw[Bool.and_eq_true] at e;simp only[List.mem_cons,List.not_mem_nil,or_false] at h;rcases h with rfl|rfl
  ·rw[e.1] at hq;cases hq
  ·rw[e.2] at hq;cases hq
 | [a,b,c],h=>
  refine if_neg ?_;rintro⟨_,e⟩;rw[Bool.and_eq_true,Bool.and_eq_true] at e;simp only[List.mem_cons,List.not_mem_nil,or_false] at h;rcases h with rfl|rfl|rfl
  ·rw[e.1] at hq;cases hq
  ·rw[e.2.1] at hq;cases hq
  ·rw[e.2.2] at hq;cases hq
 | _::_::_::_::_,_=> rfl
section
variable(M:Md prog)(H:View)
theorem M4(s:List UInt8)(hm:s.length<=1000000):
  EL M 40 #[nA s] H (fun v H'=> H.le H'/\∃r,KM s=some r/\v=r.val) R3 (fun H'=> H.le H'/\KM s=none):=by
 have UW:=fun H=> M0 M H s 59 hm;have eP:=DR 59 s;have hln:=BG 59 s;unfold KM;generalize FA 59 s=P at UW eP hln;refine EL.enter (vs:= [nA s]) func40 rfl ntmps40 (Nat.le_of_ble_eq_true rfl) (eA.nil _) fun St c cs hK hP=> ?_;have hw:NZ P=none->∀(H':View) (L:Bl),([]:Bl).Sublist L->eA H L H'->T M St H' (Go.Conc.G (c.raise (Go.RL.raised R3)) cs):=fun e H' L _ hs=> hP H' ⟨hs.base,e⟩;refine U7 ?_;refine .e (Or.EA (CW P) (WR P) (fun _=> True) rfl rfl rfl rfl rfl dE (fun _=> by simp[WR]) (fun H hs=> .h (UW H)) (fun b _=> ?_));refine U3 ?_;cases P with
 | nil=>
  have hw:=hw rfl;refine U4 ?_;refine To.nF rfl rfl rfl rfl rfl (fun H hs=> SG.of (first:= []) (captured:= []) qN rfl (xG M H)) (ZG.hO func40 fun H' hs=> hw H' _ sL hs)
 | cons w fs =>
  by_cases c0:fs= []
  ·subst c0;have hw:=hw rfl;refine U4 ?_;refine To.nF rfl rfl rfl rfl rfl (fun H hs=> SG.of (first:= []) (captured:= []) qN rfl (xG M H)) (ZG.hO func40 fun H' hs=> hw H' _ sL hs)
  ·have c1 : 1<=fs.length:=List.length_pos_iff.2 c0;have hct:=List.count_le_length (a:=(59:UInt8)) (l:=s);have hln:fs.length+1<=s.length+1:=by rw[List.length_cons] at hln;omega
   have XU:(w::fs).length=fs.length+1:=rfl;have g1:iA .gtr .i64 (((w::fs).length:Nat):Int) 1=some (.bool true):=pI oM;refine U4 ?_;refine .cl (fun H hs=> rH M H) ?_;refine U9 ?_;refine .x (mA.slice (E:=en) (l:=1) (h:=(fs.length+1:Nat)) (off':=1) rfl rfl rfl rfl rfl rfl rfl rfl oM oM oM (by rw[if_neg oM];rfl)) ?_;refine U4 ?_;refine Tc.db (Tc.IA (σ:= { x:Nat×Gl 23 2//x.1<=fs.length/\(∀q∈fs.take x.1,kD q=true)/\x.2.n=x.1/\x.2.l=bnd (fs.take x.1) }) (fun x=> ([(3,.slice (some ⟨b,0,none⟩) (fs.length+1) (fs.length+1)),(4,x.1.2.val),(14,.slice (some ⟨b,1,none⟩) fs.length fs.length),(15,.int .i64 (fs.length:Nat)),(16,.int .i64 (x.1.1:Nat))],[(b,true,.cells ⟨nA w::pE fs⟩ 9 (0,0))]++x.1.2.bl)) (fun x=> fs.length-x.1.1) ?_ ⟨(0,Gl.nil 23 2),Nat.zero_le _,fun _ h=> (nomatch h),rfl,rfl⟩);rintro⟨⟨i,g⟩,hi,PA,EK,QU⟩ ih;simp only at hi PA EK QU;show Tc M St _ _ _ _ [(3,.slice (some ⟨b,0,none⟩) (fs.length+1) (fs.length+1)),(4,g.val),(14,.slice (some ⟨b,1,none⟩) fs.length fs.length),(15,.int .i64 (fs.length:Nat)),(16,.int .i64 (i:Nat))] ([(b,true,.cells ⟨nA w::pE fs⟩ 9 (0,0))]++g.bl) _ _;by_cases c2:i=fs.length
   ·clear ih;subst c2;rw[List.take_length] at PA QU;obtain⟨x,hv,hbx⟩:=aA1 g oM;rw[EK] at hv;rw[QU] at hbx;rw[hv,hbx];clear hv hbx EK QU;have f0:YB false 1 (nA w::pE fs) (0+(0:Int).toNat*1)=some (nA w):=rfl;by_cases c3:w=IJ
    ·subst c3;have s1:RL.cF .eql IJ IJ=some (.bool true):=rfl;have s2:RL.cF .eql IJ lI=some (.bool false):=rfl;by_cases c4:fs.length=3
     ·match fs,c4,PA,eP with
      | [p,q,r],_,PA,_=>
       have h1:=PA p (by simp);have h2:=PA q (by simp);have h3:=PA r (by simp);have hr:NZ [IJ,p,q,r]=some (.EY (HC p) (ZC p) (HC q) (ZC q) (HC r) (ZC r)):=if_pos ⟨rfl,by rw[h1,h2,h3];rfl⟩;refine U24 ?_;refine Tc.dr [] [] mixed rfl ?_;refine V10 0 ?_;refine .q 10 rfl (mA.iface rfl rfl kR) ?_;refine .nn 11 ?_;refine .dn ?_;refine .rt hK func40 results40 [_] ?_;exact fun H' hs=> ⟨hs.base,_,hr,rfl⟩
     ·have hw:=hw (by
       match fs,c4 with
       | [],_=> rfl
       | [_],_=> rfl
       | [p,q],_=> exact I6 dE
       | [_,_,_],h=> exact absurd rfl h
       | _::_::_::_::_,_=> rfl)
      refine U41 ?_;refine .x (mA.iface rfl rfl kR) ?_;exact To.zL rfl rfl rfl func40 fun H' hle=> hw H' [] (List.Sublist.refl _) ((eA.nil H).mono hle)
    ·have s1:RL.cF .eql w IJ=some (.bool false):=by
      show some (Value.bool (w==IJ))=_;rw[beq_eq_false_iff_ne.2 c3]
     by_cases c5:w=lI
     ·subst c5;have s2:RL.cF .eql lI lI=some (.bool true):=rfl;by_cases c4:fs.length=2
      ·match fs,c4,PA,eP with
       | [p,q],_,PA,_=>
        have h1:=PA p (by simp);have h2:=PA q (by simp);have hr:NZ [lI,p,q]=some (.tY (HC p) (ZC p) (HC q) (ZC q)):=if_pos ⟨rfl,by rw[h1,h2];rfl⟩;refine U38 ?_;refine Tc.dr [] [] mixed rfl ?_;refine V8 0 ?_;refine .q 8 rfl (mA.iface rfl rfl kR) ?_;refine .nn 9 ?_;refine .dn ?_;refine .rt hK func40 results40 [_] ?_;exact fun H' hs=> ⟨hs.base,_,hr,rfl⟩
      ·have hw:=hw (by
        match fs,c4 with
        | [],_=> rfl
        | [_],_=> rfl
        | [_,_],h=> exact absurd rfl h
        | [p,q,r],_=> exact J6 dE
        | _::_::_::_::_,_=> rfl)
       refine U41 ?_;refine .x (mA.iface rfl rfl kR) ?_;exact To.zL rfl rfl rfl func40 fun H' hle=> hw H' [] (List.Sublist.refl _) ((eA.nil H).mono hle)
     ·have s2:RL.cF .eql w lI=some (.bool false):=by
       show some (Value.bool (w==lI))=_;rw[beq_eq_false_iff_ne.2 c5]
      have hw:=hw (by
       match fs with
       | []=> rfl
       | [_]=> rfl
       | [p,q]=> exact I6 c5
       | [p,q,r]=> exact J6 c3
       | _::_::_::_::_=> rfl)
      refine U41 ?_;refine .x (mA.iface rfl rfl kR) ?_;exact To.zL rfl rfl rfl func40 fun H' hle=> hw H' [] (List.Sublist.refl _) ((eA.nil H).mono hle)
   ·have c3:i<fs.length:=by omega
    have WC:fs[i]∈fs:=List.getElem_mem c3;have hql:=eP fs[i] (List.mem_cons_of_mem _ WC);have f1:YB false 1 (nA w::pE fs) (1+((i:Nat):Int).toNat*1)=some (nA fs[i]):=by
     have e:1+((i:Nat):Int).toNat*1=i+1:=by omega
     rw[e];show(nA w::pE fs)[i+1]? =_;rw[List.getElem?_cons_succ];unfold pE;rw[List.getElem?_map,List.getElem?_eq_getElem c3];rfl
    have bV:fs.take (i+1)=fs.take i++[fs[i]]:=List.take_succ_eq_append_getElem c3;generalize fs[i]=q at WC hql f1 bV;cases hq:kD q with
    | false=>
     have hw:=hw (O4 WC hq);clear ih;refine mN ?_;refine To.nF rfl rfl rfl rfl rfl (fun H hs=> SG.of (first:= []) (captured:= []) aCx rfl (OR M H q oM hq)) (ZG.hO func40 fun H' hs=> hw H' _ sL hs)
    | true=>
     have hbc:=fun H=> HT M H q oM hq;have fJ:=fun(g2:Gl 23 2) (h1:g2.n=i+1) (h2:g2.l=bnd (fs.take i)++bnd [q])=> ih ⟨(i+1,g2),by simp only;omega,by
      simp only;rw[bV];intro y hy;rcases List.mem_append.1 hy with hy|hy
      ·exact PA y hy
      ·rw[List.mem_singleton.1 hy];exact hq,h1,by
      simp only;rw[bV];unfold bnd;rw[List.flatMap_append];exact h2⟩ (by simp only;omega)
     simp only at fJ;clear ih;refine mN ?_;refine .cl (fun H hs=> hbc H) ?_;refine .e (.bs (zz:=fun bs=> ?_));refine .e (Or.append (E:=en) 2 rfl rfl rfl rfl rfl rfl rfl rfl rfl rfl rfl rfl rfl rfl rfl (fun H hs=> gB.of (hs.get (i:=0) rfl) (Nat.le_of_ble_eq_true rfl)) rfl oM rfl dE (fun g2 B6 P2=> ?_));refine U7 ?_;exact Tc.db (fJ g2 (by rw[B6,EK]) (by rw[P2,QU];rfl))
end
end Go.Proofs.YtgkmnalhddmclaaGreatDoor
namespace Go.RL
open Go.Conc
section
variable {P:Program}{M:Md P}{St:View->Goroutine->Prop}{n:Nat}{b:FB}{H₀:View}{cs:List Frame}{R:Rg}{L L':Bl}{ds:List Deferred}{o:Oper}{v:Value}
theorem mA.F8 {t u s:TypeId}{x:Operand}{w:Value}(gA:o.op=.binOp .eql t x (.const .nilIface) u)(hx:BA R x=some (.iface s w))(hi:ifT P t=true):mA P n H₀ R L o (.bool false):=fun H tmps _ hr=> by
 obtain⟨ms,ht⟩:=lT hi;unfold execOp;rw[gA];simp only[hr.ev hx];show vA P (((eqGuard .eql t x (.const .nilIface) (.iface s w) .nilIface).bind fun _=> binOp .eql t (.iface s w) .nilIface).bind _) H _;refine aA _ _ (aA _ _ ?_);have hg:eqGuard .eql t x (.const .nilIface) (.iface s w) .nilIface=Sem.pure ():=by
  unfold eqGuard;cases x <;> rfl
 rw[hg];show vA P ((Op.equalIn (9999+1) t (.iface s w) .nilIface).bind fun c=> Sem.pure (Value.bool c)) H _;refine aA _ _ ?_;unfold Op.equalIn;refine aA (underlying t) _ (cA ht ?_);exact⟨rfl,rfl⟩
theorem ZG.Q5(hL:L'.Sublist L)(h:ZG M St n b H₀ cs R L' ds v):ZG M St n b H₀ cs R L ds v:=fun H tmps todo hs hr=> h H tmps todo (hs.less hL) hr
variable {E:Env P}{K:Rg->Bl->Prop}
theorem Or.aAd {t:TypeId}{x y:Operand}{r:uA}{blk off:Nat}(gA:o.op=.store t x y)(hx:BA R x=some (.pointer (some ⟨blk,off,none⟩)))(hy:BA R y=some v)(ht:E.ty t=some r)(hz:v.cells.toList= [])(h0:r.size=0)(hd:o.dst=none)(hk:K R L):Or M n H₀ R L o K:=
 .hO hd fun H tmps bB hr=> by
  unfold execOp;rw[gA];simp only[hr.ev hx,hr.ev hy];show vA P ((storeVar t _ v).bind _) H _;refine aA _ _ (aA (sizeOf t) _ (CA (E.ok _ _ ht).size ?_));have hs:v.cells.size=0:=by rw[<-Array.length_toList,hz];rfl
  rw[if_neg (by simp[hs,h0])];show vA P (storeCells ⟨blk,off,none⟩ v.cells.toList) H _;rw[hz];exact⟨rfl,L,bB,hk⟩
end
end Go.RL
namespace Go.Proofs.YtgkmnalhddmclaaGreatDoor
open Go.RL Go.Proofs.Tryz
set_option maxRecDepth 10000
set_option maxHeartbeats 16000000
section
variable(M:Md prog)(H:View)
end
structure LnI(s:List UInt8)(i f:Nat)(g:Gl 9 1)(l:List (List UInt8)):Prop where
 hi:i<=s.length
 hf:f<=i
 hp:FA 10 (s.take i)=l++[(s.drop f).take (i-f)]
 hn:g.n=l.length
 hl:g.l=pE l
section
variable(M:Md prog)(H:View)
end
set_option maxHeartbeats 2000000
structure rQ where
 s0:Int
 s1:Int
 a0:Int
 a1:Int
 r0:Int
 r1:Int
 ls:List (Int×Int×Int×Int)
def rQ.ch(t:rQ):Ch:=
 { s0:=t.s0,s1:=t.s1,a0:=t.a0,a1:=t.a1,r0:=t.r0,r1:=t.r1,n:=t.ls.length,x:=fun i=> (t.ls[i]?.getD (0,0,0,0)).1,y:=fun i=> (t.ls[i]?.getD (0,0,0,0)).2.1,z:=fun i=> (t.ls[i]?.getD (0,0,0,0)).2.2.1,u:=fun i=> (t.ls[i]?.getD (0,0,0,0)).2.2.2,m:=0,at_:=fun _=> 0 }
def aL:rQ:=⟨0,0,0,0,0,0,[]⟩
def rQ.put(t:rQ):Rw->rQ
 | .EY a b c d e f=> ⟨a,b,c,d,e,f,t.ls⟩
 | .tY x y z u=> { t with ls:=t.ls++[(x,y,z,u)] }
def Rw.fits:Rw->Nat->Bool
 | .EY _ _ _ _ _ _,d=> d==0
 | .tY _ _ _ _,d=> d !=0
def YC:List (List UInt8)->Nat->rQ->rQ ⊕ Nat
 | [],_,t=> .inl t
 | x::xs,d,t=>
  match KM x with
  | some r=> if r.fits d then YC xs (d+1) (t.put r) else .inr (d+1)
  | none=> .inr (d+1)
def HF(s:List UInt8):Ch×Nat×Int:=
 match YC (bG s) 0 aL with
 | .inr n=> (aL.ch,n,3)
 | .inl t=> if bG s= [] then(aL.ch,0,3) else if t.ch.dB=0 then(t.ch,0,0) else(aL.ch,0,t.ch.dB)
theorem DT {x:List UInt8}(xs:List (List UInt8))(d:Nat)(t:rQ)(h:KM x=none):YC (x::xs) d t=.inr (d+1):=by
 rw[YC,h]
theorem FJ {x:List UInt8}(xs:List (List UInt8))(d:Nat)(t:rQ){r:Rw}(h:KM x=some r)(hf:r.fits d=false):YC (x::xs) d t=.inr (d+1):=by
 rw[YC,h];simp only[hf,Bool.false_eq_true,if_false]
theorem AG {x:List UInt8}(xs:List (List UInt8))(d:Nat)(t:rQ){r:Rw}(h:KM x=some r)(hf:r.fits d=true):YC (x::xs) d t=YC xs (d+1) (t.put r):=by
 rw[YC,h];simp only[hf,if_true]
theorem yZ:∀l:List (List UInt8),l.length<=wl l
 | []=> Nat.le_refl _
 | a::l=> by
  have:=yZ l;rw[bI,List.length_cons];omega
theorem uY(p x:List UInt8)(h:SE 10 x=p):x.length<=p.length+1:=by
 subst h;unfold SE;split
 ·rw[List.length_dropLast];omega
 ·omega
def uT(l:List (Int×Int×Int×Int)):List Value:=l.flatMap fun x=> [.int .i64 x.1,.int .i64 x.2.1,.int .i64 x.2.2.1,.int .i64 x.2.2.2]
theorem xY:∀(l:List (Int×Int×Int×Int)) (J:List Value) (i:Nat),i<l.length->YB true 4 (uT l++J) (i*4)=some (CE (l[i]?.getD (0,0,0,0)).1 (l[i]?.getD (0,0,0,0)).2.1 (l[i]?.getD (0,0,0,0)).2.2.1 (l[i]?.getD (0,0,0,0)).2.2.2)
 | [],_,_,h=> by cases h
 | x::l,J,0,_=> by
  unfold YB;simp only;have e3:Nat.ble (0*4+4) (uT (x::l)++J).length=true:=Nat.ble_eq_true_of_le (by simp[uT]);rw[e3];rfl
 | x ::l,J,i+1,h=> by
  have ih:=xY l J i (by simpa using h);have e:uT (x::l)++J= [.int .i64 x.1,.int .i64 x.2.1,.int .i64 x.2.2.1,.int .i64 x.2.2.2]++(uT l++J):=by simp[uT]
  have e2:(i+1)*4=4+i*4:=by omega
  rw[List.getElem?_cons_succ,<-ih,e,e2];unfold YB;simp only;have e3:Nat.ble (4+i*4+4) ([Value.int .i64 x.1,.int .i64 x.2.1,.int .i64 x.2.2.1,.int .i64 x.2.2.2]++(uT l++J)).length=Nat.ble (i*4+4) (uT l++J).length:=by
   rw[Bool.eq_iff_iff];simp only[Nat.ble_eq,List.length_append,List.length_cons,List.length_nil];omega
  rw[e3];have e4:List.drop (4+i*4) ([Value.int .i64 x.1,.int .i64 x.2.1,.int .i64 x.2.2.1,.int .i64 x.2.2.2]++(uT l++J))=List.drop (i*4) (uT l++J):=by
   rw[<-List.drop_drop];rfl
  rw[e4]
theorem jR {t:rQ}{H:View}{g:Gl 38 4}(hn:g.n=t.ls.length)(hl:g.l=uT t.ls)(h:∀x∈g.bl,H x.1=some x.2):CB H t.ch (g.blk.map fun b=> ⟨b,0,none⟩) g.cap:=by
 refine⟨by rw[<-show g.n=t.ch.n from hn];exact g.hc,?_⟩;obtain⟨gb,gn,gc,gl,gj,h1,h2,h3,h4⟩:=g;simp only at hn hl h1;cases gb with
 | none=>
  have h5:=h4 rfl;subst h5;exact .inl (show t.ls.length=0 by omega)
 | some b=>
  subst hn hl;refine .inr ⟨b,0,true,uT t.ls++gj,_,_,rfl,h _ (List.mem_singleton.2 rfl),fun i hi=> ?_⟩;rw[Nat.zero_add];exact xY t.ls gj i hi
section
variable(M:Md prog)(H:View)
theorem wM(vs:List Value)(hv:vs.length=2):XW M 38 vs.toArray H (fun H'=> H.le H'):=by
 refine XW.enter (n:=12) func38 rfl ntmps38 oM (eA.nil _) fun St b₀ tmps₀ ds₀ todo₀ cs hK=> ?_;refine U2 ?_;refine To.IT rfl rfl rfl rfl dE ?_;refine U4 ?_;refine .x (mA.aBw rfl rfl kR) ?_;refine U6 ?_;exact Tc.C4 en hK func38 results38 fun H' hs=> hs.base
theorem xM {H₀:View}{b2 b3 b4:Nat}{n s0 s1 a0 a1 r0 r1:Int}{x:Value}(hs:eA H₀ [(b2,true,.cells ⟨[.int .i64 s0,.int .i64 s1,x,.int .i64 a0,.int .i64 a1,.int .i64 r0,.int .i64 r1]⟩ 26 (0,0)),(b3,true,.cells ⟨[.int .i64 n]⟩ 3 (0,0)),(b4,true,.cells ⟨[.int .i64 0]⟩ 29 (0,0))] H):
  WW M 38 #[.pointer (some ⟨b2,0,none⟩),.pointer (some ⟨b4,0,none⟩)] H R3 fun H'=> eA H₀ [(b2,true,.cells ⟨[.int .i64 0,.int .i64 0,.slice none 0 0,.int .i64 0,.int .i64 0,.int .i64 0,.int .i64 0]⟩ 26 (0,0)),(b3,true,.cells ⟨[.int .i64 n]⟩ 3 (0,0)),(b4,true,.cells ⟨[.int .i64 3]⟩ 29 (0,0))] H':=by
 refine WW.enter (vs:= [.pointer (some ⟨b2,0,none⟩),.pointer (some ⟨b4,0,none⟩)]) (n:=12) func38 rfl ntmps38 (Nat.le_of_ble_eq_true rfl) hs fun St b₀ tmps₀ ds₀ todo₀ cs hK=> ?_;refine U2 ?_;refine To.KT rfl rfl rfl rfl dE ?_;refine U4 ?_;refine .x (mA.F8 rfl rfl kR) ?_;refine U4 ?_;refine .x (mA.QO rfl rfl kR) ?_;refine U6 ?_;refine .al fun b9=> ?_;refine .e (Or.aAd (E:=en) rfl rfl rfl rfl rfl rfl rfl ?_);refine U7 ?_;exact Tc.D4 en hK func38 results38 fun H' hs=> hs.less sL
end
set_option maxHeartbeats 16000000
section
variable(M:Md prog)(H:View)
end
section
variable(M:Md prog)(H:View)
end
section
variable(M:Md prog)(H:View)
end
section
variable(M:Md prog)(H:View)
end
end Go.Proofs.YtgkmnalhddmclaaGreatDoor
namespace Go.RL
section
variable {P:Program}{E:Env P}{M:Md P}{n:Nat}{H₀:View}{R:Rg}{L:Bl}{K:Rg->Bl->Prop}{o:Oper}{d:Nat}
end
section
variable {P:Program}{M:Md P}{St:View->Goroutine->Prop}{n:Nat}{b:FB}{H₀:View}{cs:List Frame}{R:Rg}{L:Bl}{ds:List Deferred}{todo:List Item}
end
end Go.RL
namespace Go.Proofs.YtgkmnalhddmclaaGreatDoor
open Go.RL Go.Proofs.Tryz
set_option maxRecDepth 10000
set_option maxHeartbeats 4000000
section
variable(M:Md prog)(H:View)
end
def VO(b2 b3 b4 d:Nat)(t:rQ)(v:Value):Bl:= [(b2,true,.cells ⟨[.int .i64 t.s0,.int .i64 t.s1,v,.int .i64 t.a0,.int .i64 t.a1,.int .i64 t.r0,.int .i64 t.r1]⟩ 26 (0,0)),(b3,true,.cells ⟨[.int .i64 (d:Nat)]⟩ 3 (0,0)),(b4,true,.cells ⟨[.int .i64 0]⟩ 29 (0,0))]
theorem NS(H:View):CB H aL.ch none 0:=⟨Nat.le_refl _,.inl rfl⟩
section
variable(M:Md prog)(H:View)
theorem xV(hG:nC H)(s:List UInt8)(hm:s.length<=2000):
  dA M 9 #[nA s] H (fun v H'=> H.le H'/\∃A lc,v=.tuple ⟨[(HF s).1.fG A lc,.int .i64 ((HF s).2.1:Nat),.int .i64 (HF s).2.2]⟩/\CB H' (HF s).1 A lc):=by
 obtain⟨PF,hPF⟩:∃PF,PF=YC (bG s) 0 aL:=⟨_,rfl⟩
 obtain⟨out,XE⟩:∃o,HF s=o:=⟨_,rfl⟩
 have H7:∀n,PF=.inr n->out=(aL.ch,n,3):=fun n e=> by
  rw[<-XE];unfold HF;rw[<-hPF,e]
 have aC0:nB s= []->out=(aL.ch,0,3):=fun e=> by
  have e1:bG s= []:=by unfold bG;rw[e];rfl
  rw[<-XE];unfold HF;rw[e1];rfl
 have RU:∀t,PF=.inl t->nB s≠ []->out=if t.ch.dB=0 then(t.ch,0,0) else(aL.ch,0,t.ch.dB):=fun t e e2=> by
  have e1:bG s≠ []:=by unfold bG;intro h;exact e2 (List.map_eq_nil_iff.1 h)
  rw[<-XE];unfold HF;rw[<-hPF,e];simp only[if_neg e1]
 have hwl:=zZ s;have hln:(nB s).length<=2001:=by
  have:=yZ ((nB s).map (SE 10));rw[List.length_map] at this;omega
 have hwx:∀x∈nB s,(SE 10 x).length<=2000:=fun x hx=> by
  have h1:∀l:List (List UInt8),∀p∈l,p.length+1<=wl l:=fun l=> by
   induction l with
   | nil=> intro p hp;cases hp
   | cons a l ih=>
    intro p hp;rw[bI];rcases List.mem_cons.1 hp with rfl|hp
    ·omega
    ·have:=ih p hp;omega
  have:=h1 _ _ (List.mem_map_of_mem hx (f:=SE 10));omega
 rw[XE];clear XE;refine .en func9 ntmps9 fun St c cs hK=> ?_;refine U2 ?_;refine .al fun b2=> ?_;refine .al fun b3=> ?_;refine .al fun b4=> ?_;refine yK ?_;refine To.defer (first:= []) (captured:= [_,_]) rfl rfl rfl rfl rfl rfl rfl ?_;refine U5 ?_;refine .e (Or.EA (fun b=> AP b) (fun b=> [(b,true,.cells ⟨[nA s]⟩ 9 (0,0))]) (fun _=> True) rfl rfl rfl rfl rfl dE (fun _=> by simp) (fun H hs=> .h (H0 M H s)) (fun lb _=> ?_));refine U2 ?_;refine Tc.R5 (R':= [(2,.pointer (some ⟨b2,0,none⟩)),(3,.pointer (some ⟨b3,0,none⟩)),(4,.pointer (some ⟨b4,0,none⟩)),(15,AP lb)]) ⟨rfl,rfl,rfl,rfl,trivial⟩ ?_;refine Tc.perm (L₁:= [(lb,true,.cells ⟨[nA s]⟩ 9 (0,0))]++(VO b2 b3 b4 0 aL (Gl.nil 38 4).val++(Gl.nil 38 4).bl)) (by
  have e:∀a b2 b3 b4:Nat×Bool×Obj,[a,b2,b3,b4].Perm [b4,b3,b2,a]:=fun a b2 b3 b4=> (List.reverse_perm [b4,b3,b2,a])
  exact e _ _ _ _) ?_
 refine Tc.I4 (v:=R3) (A:= [(lb,true,.cells ⟨[nA s]⟩ 9 (0,0))]) (ts:= [16]) (xs:=nB s) (fun rest H₁ L₁=> ∃(t:rQ) (d:Nat) (gl:Gl 38 4),YC (rest.map (SE 10)) d t=PF/\d+rest.length=(nB s).length/\H.le H₁/\(gl.n=t.ls.length/\t.ls.length<=d/\gl.l=uT t.ls)/\L₁=VO b2 b3 b4 d t gl.val++gl.bl) (fun _ _ _=> False) (fun H₁ L₁=> ∃(dd:Nat) (t:rQ) (v:Value),PF=.inr dd/\H.le H₁/\L₁=VO b2 b3 b4 dd t v) rfl rfl rfl rfl (Cap:=fun _=> True) (fun H' _=> eW M H' s oM lb R3) (fun _ _ _ _=> trivial) (fun _ _ _ _=> trivial) rfl (fun _ _=> rfl)
   ⟨aL,0,Gl.nil 38 4,hPF.symm,Nat.zero_add _,View.le_refl _,⟨rfl,Nat.le_refl _,rfl⟩,rfl⟩ ?_ ?_ (fun _ _ _ _ h=> h.elim) ?_
 ·rintro r x rest _ lp tmps asg bdy H₄ _ hx ⟨t,d,gl,q1,q0,q2,q3,rfl⟩ Q X St1 cc1 cs1 mQ hP1 q _ hX;rw[List.length_cons] at q0;rw[List.map_cons] at q1;have aDb:=hwx x hx;have hxl:=uY (SE 10 x) x rfl;have pQ:=fun H=> NO M H x 10 oM;generalize SE 10 x=w at q1 hxl pQ aDb;have a1:iA .add .i64 ((d:Nat):Int) 1=some (.int .i64 ((d+1:Nat):Int)):=YD oM oM;have hw:PF=.inr (d+1)->∀(H₅ H':View) (L:Bl),H₄.le H₅->((r,true,.deferred (some []))::VO b2 b3 b4 (d+1) t gl.val:Bl).Sublist L->eA H₅ L H'->T M St1 H' (Go.Conc.G (cc1.raise (Go.RL.raised R3)) cs1):=fun e H₅ H' L hle hL hs=> hP1 H' (hX H' H₅ _ (hs.less hL) ⟨d+1,t,_,e,View.le_trans q2 hle,rfl⟩);refine U3 ?_;refine Tc.beginRound (i:=0) rfl rfl rfl ?_;refine fH ?_;refine .cl (fun H hs=> pQ H) ?_;refine To.ES rfl rfl rfl rfl rfl rfl dE (bN.of (first:= []) (captured:= []) aCp rfl (M4 M H₄ w oM)) (fun v H₅ hv=> ?_) (fun H₅ hx=> ZG.hO func9 fun H' hs=> hw (by rw[<-q1];exact DT _ _ _ hx.2) H₅ H' _ hx.1 sL hs);obtain⟨R2,row,hr,rfl⟩:=hv;refine U ?_;cases row with
  | EY y1 y2 y3 y4 y5 y6=>
   refine U3 ?_;refine .x (mA.QO rfl rfl kR) ?_;refine U6 ?_;refine .al fun b6=> ?_;refine U3 ?_;by_cases c1:d=0
   ·have hf:(Rw.EY y1 y2 y3 y4 y5 y6).fits d=true:=by rw[c1];rfl
    rw[AG _ _ _ hr hf] at q1;have e4:iA .eql .i64 ((d+1:Nat):Int) 1=some (.bool true):=aD oM;refine U3 ?_;refine .cl (fun H hs=> rH M H) ?_;refine U ?_;refine Tc.dr [7,9,11] [3] mixed rfl ?_;refine V2 0 ?_;refine .nw 2 ?_;refine .nw 3 ?_;refine .nw 4 ?_;refine .nw 5 ?_;refine .nn 6 ?_;refine .e 7 3 ?_;refine .nw 8 ?_;refine .e 9 3 ?_;refine .nw 10 ?_;refine .e 11 3 ?_;refine .dn ?_;refine U2 ?_;refine Tc.AA mQ (i:=1) rfl (.inl ⟨rfl,rfl⟩) (fun H' hs=> q H' H₅ _ (hs.less sL) ⟨t.put (.EY y1 y2 y3 y4 y5 y6),d+1,gl,q1,oM,View.le_trans q2 R2,⟨q3.1,Nat.le_succ_of_le q3.2.1,q3.2.2⟩,rfl⟩)
   ·have hf:(Rw.EY y1 y2 y3 y4 y5 y6).fits d=false:=beq_eq_false_iff_ne.2 c1;rw[FJ _ _ _ hr hf] at q1;have hw:=hw q1.symm;have e4:iA .eql .i64 ((d+1:Nat):Int) 1=some (.bool false):=XB oM;refine U3 ?_;refine To.nF rfl rfl rfl rfl rfl (fun H hs=> SG.of (first:= []) (captured:= []) qN rfl (xG M H)) (ZG.hO func9 fun H' hs=> hw H₅ H' _ R2 sL hs)
  | tY x1 x2 x3 x4=>
   refine U3 ?_;refine .x (mA.V0 (E:=en) rfl rfl rfl kR rfl) ?_;refine U6 ?_;refine .x (mA.QO rfl rfl kR) ?_;refine U6 ?_;refine .al fun b7=> ?_;refine U3 ?_;by_cases c1:d=0
   ·have hf:(Rw.tY x1 x2 x3 x4).fits d=false:=by rw[c1];rfl
    rw[FJ _ _ _ hr hf] at q1;have hw:=hw q1.symm;have e4:iA .gtr .i64 ((d+1:Nat):Int) 1=some (.bool false):=jH oM;refine U3 ?_;refine To.nF rfl rfl rfl rfl rfl (fun H hs=> SG.of (first:= []) (captured:= []) qN rfl (xG M H)) (ZG.hO func9 fun H' hs=> hw H₅ H' _ R2 sL hs)
   ·have hf:(Rw.tY x1 x2 x3 x4).fits d=true:=bne_iff_ne.2 c1;rw[AG _ _ _ hr hf] at q1;have e4:iA .gtr .i64 ((d+1:Nat):Int) 1=some (.bool true):=pI oM;refine U3 ?_;refine .cl (fun H hs=> rH M H) ?_;refine U6 ?_;refine .e (.bs (zz:=fun bs=> ?_));refine .e (Or.append (E:=en) 7 rfl rfl rfl rfl rfl rfl rfl rfl rfl rfl rfl rfl rfl rfl rfl (fun H hs=> gB.of (hs.get (i:=0) rfl) (Nat.le_of_ble_eq_true rfl)) rfl oM rfl dE (fun g2 B6 P2=> ?_));refine U5 ?_;refine Tc.AA mQ (i:=2) rfl (.inl ⟨rfl,rfl⟩) (fun H' hs=> q H' H₅ _ (hs.less sL) ⟨t.put (.tY x1 x2 x3 x4),d+1,g2,q1,oM,View.le_trans q2 R2,⟨by rw[B6,q3.1];show _=(t.ls++[(x1,x2,x3,x4)]).length;rw[List.length_append];rfl,by show(t.ls++[(x1,x2,x3,x4)]).length<=_;rw[List.length_append];have:=q3.2.1;simp only[List.length_cons,List.length_nil];omega,by rw[P2,q3.2.2];show _=uT (t.ls++[(x1,x2,x3,x4)]);unfold uT;rw[List.flatMap_append];rfl⟩,rfl⟩)
 ·rintro r H₄ _ ⟨t,d,gl,q1,q0,q2,q3,rfl⟩;have q1:PF=.inl t:=q1.symm;rw[List.length_nil] at q0;by_cases c0:d=0
  ·subst c0;have aB:nB s= []:=List.length_eq_zero_iff.1 oM;have XE:=aC0 aB;refine U5 ?_;refine To.nF rfl rfl rfl rfl rfl (fun H hs=> SG.of (first:= []) (captured:= []) qN rfl (xG M H)) ?_;refine ZG.mark (i:=0) rfl ?_;refine ZG.Q5 (L':=VO b2 b3 b4 0 t gl.val) sL ?_;refine ZG.call Y0 (fun H hs=> xM M H hs) ?_;refine Tb.leave (E:=en) hK func9 results9 (vs:= [_,_,_]) (by refine⟨⟨0,_,_,_,_,_,_,_,rfl,rfl,rfl,rfl⟩,?_⟩;refine⟨⟨1,_,_,_,_,_,_,_,rfl,rfl,rfl,rfl⟩,?_⟩;refine⟨⟨2,_,_,_,_,_,_,_,rfl,rfl,rfl,rfl⟩,?_⟩;exact trivial) ?_;rw[XE];exact fun H' hs=> ⟨View.le_trans q2 hs.base,none,0,rfl,NS H'⟩
  have aB:nB s≠ []:=fun e=> by rw[e] at q0;simp at q0;omega
  have XE:=RU t q1 aB;have hv1:gl.val=.slice (gl.blk.map fun b=> ⟨b,0,none⟩) t.ch.n gl.cap:=by unfold Gl.val;rw[q3.1];rfl
  have hcb:=fun(H':View) (h':H₄.le H') (h1:∀x∈gl.bl,H' x.1=some x.2)=> QE M H' t.ch _ _ (jR q3.1 q3.2.2 h1) (zA hG (View.le_trans q2 h'));rw[hv1];have c9:iA .gtr .i64 ((d:Nat):Int) 0=some (.bool true):=pI oM;by_cases c1:t.ch.dB=0
  ·rw[if_pos c1] at XE;rw[c1] at hcb;refine U5 ?_;refine .cl (fun H hs=> rH M H) ?_;refine U5 ?_;refine .cl (fun H hs=> hcb H hs.base (fun x hx=> hs.at_ x (by simp[VO,hx]))) ?_;refine uQ ?_;refine Tc.lZ rfl ?_;refine Tb.mark (i:=0) rfl ?_;refine Tb.call Y0 (fun H hs=> wM M H [_,_] rfl) ?_;refine Tb.leave (E:=en) hK func9 results9 (vs:= [_,_,_]) (by refine⟨⟨1,_,_,_,_,_,_,_,rfl,rfl,rfl,rfl⟩,?_⟩;refine⟨⟨2,_,_,_,_,_,_,_,rfl,rfl,rfl,rfl⟩,?_⟩;refine⟨⟨3,_,_,_,_,_,_,_,rfl,rfl,rfl,rfl⟩,?_⟩;exact trivial) ?_;rw[XE];exact fun H' hs=> ⟨View.le_trans q2 hs.base,_,_,rfl,jR q3.1 q3.2.2 (fun x hx=> hs.at_ x (by simp[VO,hx]))⟩
  ·rw[if_neg c1] at XE;have e2:iA .neq .i64 t.ch.dB 0=some (.bool true):=NC c1;generalize t.ch.dB=a at hcb XE e2;refine U5 ?_;refine .cl (fun H hs=> rH M H) ?_;refine U5 ?_;refine .cl (fun H hs=> hcb H hs.base (fun x hx=> hs.at_ x (by simp[VO,hx]))) ?_;refine uQ ?_;refine Tc.lZ rfl ?_;refine Tb.mark (i:=0) rfl ?_;refine Tb.call Y0 (fun H hs=> wM M H [_,_] rfl) ?_;refine Tb.leave (E:=en) hK func9 results9 (vs:= [_,_,_]) (by refine⟨⟨1,_,_,_,_,_,_,_,rfl,rfl,rfl,rfl⟩,?_⟩;refine⟨⟨2,_,_,_,_,_,_,_,rfl,rfl,rfl,rfl⟩,?_⟩;refine⟨⟨3,_,_,_,_,_,_,_,rfl,rfl,rfl,rfl⟩,?_⟩;exact trivial) ?_;rw[XE];exact fun H' hs=> ⟨View.le_trans q2 hs.base,none,0,rfl,NS H'⟩
 ·rintro r H₄ _ ⟨dd,t,v,e,q2,rfl⟩;have XE:=H7 dd e;refine ZG.mark (i:=0) rfl ?_;refine ZG.Q5 (L':=VO b2 b3 b4 dd t v) sL ?_;refine ZG.call Y0 (fun H hs=> xM M H hs) ?_;refine Tb.leave (E:=en) hK func9 results9 (vs:= [_,_,_]) (by refine⟨⟨0,_,_,_,_,_,_,_,rfl,rfl,rfl,rfl⟩,?_⟩;refine⟨⟨1,_,_,_,_,_,_,_,rfl,rfl,rfl,rfl⟩,?_⟩;refine⟨⟨2,_,_,_,_,_,_,_,rfl,rfl,rfl,rfl⟩,?_⟩;exact trivial) ?_;rw[XE];exact fun H' hs=> ⟨View.le_trans q2 hs.base,none,0,rfl,NS H'⟩
end
section
variable(M:Md prog)(H:View)
end
end Go.Proofs.YtgkmnalhddmclaaGreatDoor
namespace Go.RL
section
variable {P:Program}{M:Md P}{St:View->Goroutine->Prop}{n:Nat}{b:FB}{H₀:View}{cs:List Frame}{R:Rg}{L:Bl}{ds:List Deferred}{k:List Item}{ops:Array Oper}
end
end Go.RL
namespace Go.Proofs.YtgkmnalhddmclaaGreatDoor
open Go.RL Go.Proofs.Tryz
set_option maxRecDepth 10000
set_option maxHeartbeats 16000000
section
variable(M:Md prog)(H:View)
end
set_option maxHeartbeats 2000000
section
variable(M:Md prog)(H:View)
end
end Go.Proofs.YtgkmnalhddmclaaGreatDoor
