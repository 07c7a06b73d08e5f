/-
 Texts of the proofs over baudot/dial.
-/
import Derived.Test.YtldmfjcgjdchcaaGreatDoorS15
namespace Go.Proofs.YtldmfjcgjdchcaaGreatDoor
open Go.RL Go.Proofs.Tryz
set_option maxRecDepth 10000
set_option maxHeartbeats 16000000
section
variable(M:Md prog)(H:View)
theorem JU(s:By)(hm:s.length<=1000000)(h:¬∀i,i<(mA 58 s).length->PA ((mA 58 s)[i]?.getD [])=true):fA M 186 #[bA s] H (Ib H (.tuple ⟨[SC 0 0,.bool false]⟩)):=by
 have hp:=fun H=> FI M H s 58 hm;have hb:=qC 58 s;have hlen:(mA 58 s).length<=1000001:=by
  have h1:=kB 58 s;have h2:s.count 58<=s.length:=List.count_le_length;omega
 generalize mA 58 s=P at hp hlen h hb;have TZ:∀i,i<P.length->(P[i]?.getD []).length<=1000000:=fun i hi=> by
  rw[List.getElem?_eq_getElem hi];have:=hb _ (List.getElem_mem hi);simp only[Option.getD_some];omega
 refine .en func186 ntmps186 fun St c cs hK=> ?_;refine U2 ?_;refine .al fun b2=> ?_;refine U5 ?_;refine .e (Or.xA (w5 P) (yL P) (fun x=> P.length<=x.2.1) rfl rfl rfl rfl rfl dE (lB P) (fun H hs=> .h (hp H)) (fun x hx=> ?_));refine .cl (fun H hs=> B5 M H (some ⟨x.1,0,none⟩) P.length x.2.1 (fun i=> P[i]?.getD []) (CB (P:=P) (jj:=x.2.2) (hs.get (i:=1) rfl)) hlen TZ h) ?_;refine eO ?_;refine Tc.dr [] [0] mixed rfl ?_;refine V3 0 ?_;refine .nw 3 ?_;refine .nw 4 ?_;refine .nw 5 ?_;refine V2 6 ?_;refine .nw 8 ?_;refine .nw 9 ?_;refine .nw 10 ?_;refine .nw 11 ?_;refine .nw 12 ?_;refine .nw 13 ?_;refine .nw 14 ?_;refine .nn 15 ?_;refine .dn ?_;refine U7 ?_;refine .rt hK func186 results186 [_,_] ?_;exact okB
theorem KU(s:By)(hm:s.length<=1000000)(h:∀i,i<(mA 58 s).length->PA ((mA 58 s)[i]?.getD [])=true):
  fA M 186 #[bA s] H (fun v H'=> H.le H'/\v=(match YD (fun i=> (mA 58 s)[i]?.getD []) (mA 58 s).length with
   | [a]=> .tuple ⟨[SC a a,.bool true]⟩
   | [a,b]=> if a=b then .tuple ⟨[SC 0 0,.bool false]⟩ else .tuple ⟨[SC a b,.bool true]⟩
   | _=> .tuple ⟨[SC 0 0,.bool false]⟩)):=by
 have hp:=fun H=> FI M H s 58 hm;have hb:=qC 58 s;have hn0:1<=(mA 58 s).length:=List.length_pos_iff.2 (kF 58 s);have hlen:(mA 58 s).length<=1000001:=by
  have h1:=kB 58 s;have h2:s.count 58<=s.length:=List.count_le_length;omega
 generalize mA 58 s=P at hp hlen h hb hn0;have TZ:∀i,i<P.length->(P[i]?.getD []).length<=1000000/\PA (P[i]?.getD [])=true:=fun i hi=> by
  refine⟨?_,h i hi⟩;rw[List.getElem?_eq_getElem hi];have:=hb _ (List.getElem_mem hi);simp only[Option.getD_some];omega
 have QA:=fun(H':View) (x:Nat×Nat×List Value) (h':∀z∈yL P x,H' z.1=some z.2)=> C5 M H' (some ⟨x.1,0,none⟩) P.length x.2.1 (fun i=> P[i]?.getD []) (CB (P:=P) (jj:=x.2.2) (h' _ List.mem_cons_self)) hlen hn0 TZ;obtain⟨xs,sP⟩:∃xs,xs=YD (fun i=> P[i]?.getD []) P.length:=⟨_,rfl⟩
 have bX:xs.length=P.length:=by rw[sP];simp[YD]
 rw[<-sP] at QA ⊢
 match xs,bX with
 | [],bX=> rw[<-bX] at hn0;cases hn0
 | [a],bX=>
  refine .en func186 ntmps186 fun St c cs hK=> ?_;refine U2 ?_;refine .al fun b2=> ?_;refine U5 ?_;refine .e (Or.xA (w5 P) (yL P) (fun x=> P.length<=x.2.1) rfl rfl rfl rfl rfl dE (lB P) (fun H hs=> .h (hp H)) (fun x hx=> ?_));refine .e (Or.xA (nX [a]) (vR [a]) (fun y=> P.length<=y.2.1) rfl rfl rfl rfl rfl dE (RG [a]) (fun H hs=> .h (QA H x (fun z hz=> hs.at_ z (List.mem_append_right _ hz)))) (fun y hy=> ?_));refine fL ?_;refine Tc.dr [7] [0] mixed rfl ?_;refine V7 0 ?_;refine .e 7 0 ?_;refine .nw 8 ?_;refine .dn ?_;refine .rt hK func186 results186 [_,_] ?_;exact okB
 | [a,b],bX=>
  have LG:([a,b]:List Int).length=2:=rfl;by_cases AR:a=b
  ·subst AR;have e1:iA .eql .i64 a a=some (.bool true):=wE rfl;refine .en func186 ntmps186 fun St c cs hK=> ?_;refine U2 ?_;refine .al fun b2=> ?_;refine U5 ?_;refine .e (Or.xA (w5 P) (yL P) (fun x=> P.length<=x.2.1) rfl rfl rfl rfl rfl dE (lB P) (fun H hs=> .h (hp H)) (fun x hx=> ?_));refine .e (Or.xA (nX [a,a]) (vR [a,a]) (fun y=> P.length<=y.2.1) rfl rfl rfl rfl rfl dE (RG [a,a]) (fun H hs=> .h (QA H x (fun z hz=> hs.at_ z (List.mem_append_right _ hz)))) (fun y hy=> ?_));refine eO ?_;refine Tc.dr [] [0] mixed rfl ?_;refine V16 0 ?_;refine .dn ?_;refine U7 ?_;refine .rt hK func186 results186 [_,_] ?_;exact fun H' hs=> ⟨hs.base,by show _=(if a=a then _ else _);rw[if_pos rfl];rfl⟩
  ·have e1:iA .eql .i64 a b=some (.bool false):=IC AR;refine .en func186 ntmps186 fun St c cs hK=> ?_;refine U2 ?_;refine .al fun b2=> ?_;refine U5 ?_;refine .e (Or.xA (w5 P) (yL P) (fun x=> P.length<=x.2.1) rfl rfl rfl rfl rfl dE (lB P) (fun H hs=> .h (hp H)) (fun x hx=> ?_));refine .e (Or.xA (nX [a,b]) (vR [a,b]) (fun y=> P.length<=y.2.1) rfl rfl rfl rfl rfl dE (RG [a,b]) (fun H hs=> .h (QA H x (fun z hz=> hs.at_ z (List.mem_append_right _ hz)))) (fun y hy=> ?_));refine eO ?_;refine Tc.dr [] [0] mixed rfl ?_;refine V16 0 ?_;refine .dn ?_;refine U3 ?_;refine Tc.dr [7] [0] mixed rfl ?_;refine V7 0 ?_;refine .e 7 0 ?_;refine .nw 8 ?_;refine .dn ?_;refine .rt hK func186 results186 [_,_] ?_;exact fun H' hs=> ⟨hs.base,by show _=(if a=b then _ else _);rw[if_neg AR];rfl⟩
 | a::b::d::l,bX=>
  have e1:iA .eql .i64 (((a::b::d::l).length:Nat):Int) 1=some (.bool false):=IC (by simp only[List.length_cons];omega);have e2:iA .neq .i64 (((a::b::d::l).length:Nat):Int) 2=some (.bool true):=BI (by simp only[List.length_cons];omega);refine .en func186 ntmps186 fun St c cs hK=> ?_;refine U2 ?_;refine .al fun b2=> ?_;refine U5 ?_;refine .e (Or.xA (w5 P) (yL P) (fun x=> P.length<=x.2.1) rfl rfl rfl rfl rfl dE (lB P) (fun H hs=> .h (hp H)) (fun x hx=> ?_));refine .e (Or.xA (nX (a::b::d::l)) (vR (a::b::d::l)) (fun y=> P.length<=y.2.1) rfl rfl rfl rfl rfl dE (RG _) (fun H hs=> .h (QA H x (fun z hz=> hs.at_ z (List.mem_append_right _ hz)))) (fun y hy=> ?_));refine eO ?_;refine Tc.dr [] [0] mixed rfl ?_;refine V8 0 ?_;refine .nw 8 ?_;refine .nw 9 ?_;refine .nw 10 ?_;refine .nw 11 ?_;refine .nw 12 ?_;refine .nw 13 ?_;refine .nw 14 ?_;refine .nn 15 ?_;refine .dn ?_;refine U7 ?_;refine .rt hK func186 results186 [_,_] ?_;exact okB
theorem XF (s : By) (hm:s.length<=1000000):fA M 186 #[bA s] H (Ib H (.tuple ⟨[if qB s then SC (vE s) (EE s) else SC 0 0,.bool (qB s)]⟩)):=by
 rcases ZH 58 s with h0|⟨p,q,rfl,h0⟩
 · obtain⟨b1,b2,b3⟩:=iN h0;have hP:=tC 58 s h0;cases hn:PA s with
   | true=>
     have := KU M H s hm (by rw[hP];intro i hi;obtain rfl:i=0:=(by simp at hi;exact hi);exact hn)
     rw[hP] at this;rw[b1,hn,b2,b3];exact this
   | false=>
     have:=JU M H s hm (by rw[hP];intro h;have h1:=h 0 (by simp);rw[show([s]:List By)[0]?.getD []=s from rfl,hn] at h1;cases h1);rw[b1,hn];exact this
 · obtain ⟨b1,b2,b3⟩:=iL (q:=q) h0;have hP:=xD 58 q p h0;by_cases QA:∀i,i<(mA 58 (p++58::q)).length->PA ((mA 58 (p++58::q))[i]?.getD [])=true
   · have hb:=KU M H (p++58::q) hm QA;rw[hP] at hb QA;have hp:=QA 0 (by simp);have hp:PA p=true:=hp;rcases ZH 58 q with h1|⟨a,b,rfl,h1⟩
     · rw[tC 58 q h1] at hb QA;have hq:PA q=true:=QA 1 (by simp);rw[b1,b2,b3,hp,hq];refine fA.mono hb fun v H' hv=> ⟨hv.1,?_⟩
       rw[hv.2];show(if numOf p=numOf q then _ else _)=_;by_cases e:numOf p=numOf q
       · rw[if_pos e,e];simp
       · rw[if_neg e];have:(numOf p !=numOf q)=true:=by simpa using e
         rw[this];rfl
     · rw[xD 58 b a h1] at hb;have hq:PA (a++58::b)=false:=AO (by simp);rw[b1,hq,Bool.and_false,Bool.false_and];refine fA.mono hb fun v H' hv=> ⟨hv.1,?_⟩
       rw[hv.2];obtain⟨y,l,hy⟩:∃y l,mA 58 b=y::l:=by
         cases hc:mA 58 b with
         | nil=> exact(kF 58 b hc).elim
         | cons y l=> exact⟨y,l,rfl⟩
       rw[hy];have e:∃u w z r,YD (fun i=> (p::a::y::l)[i]?.getD []) (p::a::y::l).length=u::w::z::r:=by
         have:(YD (fun i=> (p::a::y::l)[i]?.getD []) (p::a::y::l).length).length=l.length+3:=by simp[YD]
         match YD (fun i=> (p::a::y::l)[i]?.getD []) (p::a::y::l).length,this with
         | u::w::z::r,_=> exact⟨u,w,z,r,rfl⟩
       obtain⟨u,w,z,r,e⟩:=e;rw[e];rfl
   · have ha:=JU M H (p++58::q) hm QA;have gB:qB (p++58::q)=false:=by
       rw[b1];cases hp:PA p with
       | false=> rfl
       | true=>
         cases hq:PA q with
         | false=> rfl
         | true=>
           refine(QA fun i hi=> ?_).elim;have h58:(58:UInt8) ∉ q:=fun h=> by rw[AO h] at hq;cases hq
           rw[hP,tC 58 q h58] at hi ⊢
           match i,hi with
           | 0,_=> exact hp
           | 1,_=> exact hq
     rw[gB];exact ha
end
section
variable(M:Md prog)(H:View)
theorem aDk(k:Bk)(A:Option Addr)(lc:Nat)(B:Option Addr)(tc:Nat)(s:By)(hm:s.length<=1000000)(h: []∈mA 59 s):fA M 108 #[k.val A lc B tc,bA s] H (Ib H (.tuple ⟨[k.val A lc B tc,.iz (-1)]⟩)):=by
 have hf:=fun H=> U0 M H s hm h;refine .en func108 ntmps108 fun St c cs hK=> ?_;refine U2 ?_;refine .bo fun b2=> ?_;refine .al fun b4=> ?_;refine U5 ?_;refine .cl (fun H hs=> hf H) ?_;refine fN ?_;refine .rt hK func108 results108 [_,_] ?_;exact okB
theorem aDo(k:Bk)(A:Option Addr)(lc:Nat)(B:Option Addr)(tc:Nat)(s:By)(hm:s.length<=1000000)(w:By)(hP:mA 59 s= [w])(h:∀y∈ [w],y≠ []):fA M 108 #[k.val A lc B tc,bA s] H (Ib H (.tuple ⟨[k.val A lc B tc,.iz (-1)]⟩)):=by
 have hf:=fun H=> IL M H s hm w [] hP h;refine .en func108 ntmps108 fun St c cs hK=> ?_;refine U2 ?_;refine .bo fun b2=> ?_;refine .al fun b4=> ?_;refine U5 ?_;refine .e (Or.xA (fiV w []) (yL (w:: [])) (fun x=> [].length+1<=x.2.1) rfl rfl rfl rfl rfl dE (lB _) (fun H hs=> .h (hf H)) (fun x hx=> ?_));refine iD ?_;obtain⟨b,cap,J⟩:=x;simp only at hx;refine ND ?_;refine .rt hK func108 results108 [_,_] ?_;exact okB
theorem aDn(k:Bk)(A:Option Addr)(lc:Nat)(B:Option Addr)(tc:Nat)(s:By)(hm:s.length<=1000000)(w:By)(l:List By)(hP:mA 59 s=w::l)(h:∀y∈w::l,y≠ [])(hl:1<=l.length)(qL:w≠OA)(h2:l.length≠2):fA M 108 #[k.val A lc B tc,bA s] H (Ib H (.tuple ⟨[k.val A lc B tc,.iz (-1)]⟩)):=by
 have hf:=fun H=> IL M H s hm w l hP h;have MK:decide (1<l.length+1)=true:=decide_eq_true oM;unfold fiV at hf;rw[MK] at hf;have esLine:RL.LB .eql w OA=some (.bool false):=by
  show some (Value.bool (w==OA))=_;rw[beq_eq_false_iff_ne.2 qL]
 have e2:iA .neq .i64 ((l.length:Nat):Int) 2=some (.bool true):=BI oM;refine .en func108 ntmps108 fun St c cs hK=> ?_;refine U2 ?_;refine .bo fun b2=> ?_;refine .al fun b4=> ?_;refine U5 ?_;refine .e (Or.xA (fun x:Nat×Nat×List Value=> .tuple ⟨[bA w,.slice (some ⟨x.1,pW x.2.1,none⟩) l.length (x.2.1-1),.bool true]⟩) (yL (w::l)) (fun x=> l.length+1<=x.2.1) rfl rfl rfl rfl rfl dE (lB _) (fun H hs=> .h (hf H)) (fun x hx=> ?_));refine iD ?_;obtain⟨b,cap,J⟩:=x;simp only at hx;refine U33 ?_;refine .rt hK func108 results108 [_,_] ?_;exact okB
theorem aDm(k:Bk)(A:Option Addr)(lc:Nat)(B:Option Addr)(tc:Nat)(s:By)(hm:s.length<=1000000)(w:By)(l:List By)(hP:mA 59 s=w::l)(h:∀y∈w::l,y≠ [])(hl:1<=l.length)(qL:w=OA)(h2:l.length≠2)(h3:l.length≠3):fA M 108 #[k.val A lc B tc,bA s] H (Ib H (.tuple ⟨[k.val A lc B tc,.iz (-1)]⟩)):=by
 have hf:=fun H=> IL M H s hm w l hP h;have MK:decide (1<l.length+1)=true:=decide_eq_true oM;unfold fiV at hf;rw[MK] at hf;have esLine:RL.LB .eql w OA=some (.bool true):=by
  show some (Value.bool (w==OA))=_;rw[beq_iff_eq.2 qL]
 have e3:iA .eql .i64 ((l.length:Nat):Int) 3=some (.bool false):=IC oM;have e2:iA .neq .i64 ((l.length:Nat):Int) 2=some (.bool true):=BI oM;refine .en func108 ntmps108 fun St c cs hK=> ?_;refine U2 ?_;refine .bo fun b2=> ?_;refine .al fun b4=> ?_;refine U5 ?_;refine .e (Or.xA (fun x:Nat×Nat×List Value=> .tuple ⟨[bA w,.slice (some ⟨x.1,pW x.2.1,none⟩) l.length (x.2.1-1),.bool true]⟩) (yL (w::l)) (fun x=> l.length+1<=x.2.1) rfl rfl rfl rfl rfl dE (lB _) (fun H hs=> .h (hf H)) (fun x hx=> ?_));refine iD ?_;obtain⟨b,cap,J⟩:=x;simp only at hx;refine U33 ?_;refine .rt hK func108 results108 [_,_] ?_;exact okB
def TP(w:By)(l:List By)(x:Nat×Nat×List Value):Value:=.tuple ⟨[bA w,.slice (some ⟨x.1,1,none⟩) l.length (x.2.1-1),.bool true]⟩
theorem YF(s:By)(hm:s.length<=1000000)(w:By)(l:List By)(hP:mA 59 s=w::l)(h:∀y∈w::l,y≠ [])(hl:1<=l.length):
  fA M 183 #[bA s] H (fun v H'=> H.le H'/\∃x,v=TP w l x/\l.length+1<=x.2.1/\∀z∈yL (w::l) x,H' z.1=some z.2/\H z.1=none):=
 fA.mono (IL M H s hm w l hP h) fun v H' hv=> by
  obtain⟨h1,x,rfl,h2,h3⟩:=hv;refine⟨h1,x,?_,h2,h3⟩;unfold fiV TP;rw[decide_eq_true oM];have:pW x.2.1=1:=by unfold pW;rw[if_neg oM]
  rw[this]
theorem K0 {w:By}{l:List By}{H:View}{b:Nat}{f:Bool}{J:List Value}{e:TypeId}{fz:Nat×Nat}(h:H b=some (f,.cells ⟨zA (w::l)++J⟩ e fz)):ZB H (some ⟨b,1,none⟩) l.length (fun i=> l[i]?.getD []):=by
 refine .inr ⟨b,1,f,_,e,fz,rfl,h,fun j hj=> ?_⟩;show(zA (w::l)++J)[1+((j:Nat):Int).toNat*1]? =_;rw[Int.toNat_natCast,Nat.mul_one,Nat.add_comm,List.getElem?_append_left (by rw[VB,List.length_cons];omega)];unfold zA;rw[List.getElem?_map,List.getElem?_cons_succ,List.getElem?_eq_getElem hj];show some (bA l[j])=some (bA (l[j]?.getD []));rw[List.getElem?_eq_getElem hj];rfl
theorem aDl(k:Bk)(A:Option Addr)(lc:Nat)(B:Option Addr)(tc:Nat)(s:By)(hm:s.length<=1000000)(p q r:By)(hP:mA 59 s= [OA,p,q,r])(h:∀y∈ [OA,p,q,r],y≠ [])(hr:r.length<=1000000)(UK:xE r=none):fA M 108 #[k.val A lc B tc,bA s] H (Ib H (.tuple ⟨[k.val A lc B tc,.iz (-1)]⟩)):=by
 have hf:=fun H=> YF M H s hm OA [p,q,r] hP h (by simp);refine .en func108 ntmps108 fun St c cs hK=> ?_;refine U2 ?_;refine .bo fun b2=> ?_;refine .al fun b4=> ?_;refine U5 ?_;refine .e (Or.xA (TP OA [p,q,r]) (yL (OA:: [p,q,r])) (fun x=> [p,q,r].length+1<=x.2.1) rfl rfl rfl rfl rfl dE (lB _) (fun H hs=> .h (hf H)) (fun x hx=> ?_));refine iD ?_;obtain⟨b,cap,J⟩:=x;have hx: [p,q,r].length+1<=cap:=hx;have hll:([p,q,r]:List By).length=3:=rfl;simp only[List.length_cons,List.length_nil] at hx;refine s6 ?_;refine .cl (fun H hs=> zY M H r hr UK) ?_;refine XU ?_;refine .rt hK func108 results108 [_,_] ?_;exact okB
theorem aDj(k:Bk)(A:Option Addr)(lc:Nat)(B:Option Addr)(tc:Nat)(s:By)(hm:s.length<=1000000)(p q:By)(hP:mA 59 s= [bB,p,q])(h:∀y∈ [bB,p,q],y≠ [])(hl:p.length<=1000000/\q.length<=1000000)(hn:(PA p&&PA q)=false):fA M 108 #[k.val A lc B tc,bA s] H (Ib H (.tuple ⟨[k.val A lc B tc,.iz (-1)]⟩)):=by
 have hf:=fun H=> YF M H s hm bB [p,q] hP h (by simp);have hpq:∀i,i<2->([p,q][i]?.getD []).length<=1000000:=fun i hi=> by
  match i,hi with
  | 0,_=> exact hl.1
  | 1,_=> exact hl.2
 have F7:¬∀i,i<2->PA ([p,q][i]?.getD [])=true:=fun e=> by
  have h0:PA p=true:=e 0 oM;have h1:PA q=true:=e 1 oM;rw[h0,h1] at hn;cases hn
 refine .en func108 ntmps108 fun St c cs hK=> ?_;refine U2 ?_;refine .bo fun b2=> ?_;refine .al fun b4=> ?_;refine U5 ?_;refine .e (Or.xA (TP bB [p,q]) (yL (bB:: [p,q])) (fun x=> [p,q].length+1<=x.2.1) rfl rfl rfl rfl rfl dE (lB _) (fun H hs=> .h (hf H)) (fun x hx=> ?_));refine iD ?_;obtain⟨b,cap,J⟩:=x;have hx: [p,q].length+1<=cap:=hx;have hll:([p,q]:List By).length=2:=rfl;simp only[List.length_cons,List.length_nil] at hx;refine U38 ?_;refine .cl (fun H hs=> B5 M H (some ⟨b,1,none⟩) 2 (cap-1) (fun i=> [p,q][i]?.getD []) (K0 (l:= [p,q]) (hs.get (i:=2) rfl)) oM hpq F7) ?_;refine XU ?_;refine .rt hK func108 results108 [_,_] ?_;exact okB
theorem aBB(k:Bk)(A:Option Addr)(lc:Nat)(B:Option Addr)(tc:Nat)(s:By)(hm:s.length<=1000000)  (p q:By)(hP:mA 59 s= [OA,p,q])(h:∀y∈ [OA,p,q],y≠ [])(hl:p.length<=1000000/\q.length<=1000000)  :fA M 108 #[k.val A lc B tc,bA s] H (Ib H (.tuple ⟨[k.val A lc B tc,.iz (-1)]⟩)):=by
 have hf:=fun H=> YF M H s hm OA [p,q] hP h (by simp);have pR:=fun H=> XF M H p hl.1;have jP:=fun H=> XF M H q hl.2;have hX:∀(u:Bool) (a b c d:Int),(if u=true then SC a b else SC c d)=SC (if u=true then a else c) (if u=true then b else d):=fun u a b c d=> by cases u <;> rfl
 simp only[hX] at pR jP;generalize (if qB p=true then vE p else 0)=p1 at pR;generalize (if qB p=true then EE p else 0)=p2 at pR;generalize (if qB q=true then vE q else 0)=q1 at jP;generalize (if qB q=true then EE q else 0)=q2 at jP;generalize qB p=u at pR;generalize qB q=u2 at jP;refine .en func108 ntmps108 fun St c cs hK=> ?_;refine U2 ?_;refine .bo fun b2=> ?_;refine .al fun b4=> ?_;refine U5 ?_;refine .e (Or.xA (TP OA [p,q]) (yL (OA:: [p,q])) (fun x=> [p,q].length+1<=x.2.1) rfl rfl rfl rfl rfl dE (lB _) (fun H hs=> .h (hf H)) (fun x hx=> ?_));refine iD ?_;obtain⟨b,cap,J⟩:=x;have hx: [p,q].length+1<=cap:=hx;have hll:([p,q]:List By).length=2:=rfl;simp only[List.length_cons,List.length_nil] at hx;refine U41 ?_;refine .cl (fun H hs=> pR H) ?_;refine U3 ?_;refine .al fun b13=> ?_;refine U8 ?_;refine .cl (fun H hs=> jP H) ?_;refine U3 ?_;refine .al fun b14=> ?_;refine PO ?_;refine .rt hK func108 results108 [_,_] ?_;exact okB
theorem aBC(k:Bk)(A:Option Addr)(lc:Nat)(B:Option Addr)(tc:Nat)(s:By)(hm:s.length<=1000000)(w:By)(qL:w≠OA)(bY:w≠bB)(MT:w≠IA)(p q:By)(hP:mA 59 s= [w,p,q])(h:∀y∈ [w,p,q],y≠ [])(hl:p.length<=1000000/\q.length<=1000000)  :fA M 108 #[k.val A lc B tc,bA s] H (Ib H (.tuple ⟨[k.val A lc B tc,.iz (-1)]⟩)):=by
 have hf:=fun H=> YF M H s hm w [p,q] hP h (by simp);have esLine:RL.LB .eql w OA=some (.bool false):=by
  show some (Value.bool (w==OA))=_;rw[beq_eq_false_iff_ne.2 qL]
 have esDial:RL.LB .eql w bB=some (.bool false):=by
  show some (Value.bool (w==bB))=_;rw[beq_eq_false_iff_ne.2 bY]
 have e9:RL.LB .neq w IA=some (.bool true):=by
  show some (Value.bool (!(w==IA)))=_;rw[beq_eq_false_iff_ne.2 MT];rfl
 have pR:=fun H=> XF M H p hl.1;have jP:=fun H=> XF M H q hl.2;have hX:∀(u:Bool) (a b c d:Int),(if u=true then SC a b else SC c d)=SC (if u=true then a else c) (if u=true then b else d):=fun u a b c d=> by cases u <;> rfl
 simp only[hX] at pR jP;generalize (if qB p=true then vE p else 0)=p1 at pR;generalize (if qB p=true then EE p else 0)=p2 at pR;generalize (if qB q=true then vE q else 0)=q1 at jP;generalize (if qB q=true then EE q else 0)=q2 at jP;generalize qB p=u at pR;generalize qB q=u2 at jP;refine .en func108 ntmps108 fun St c cs hK=> ?_;refine U2 ?_;refine .bo fun b2=> ?_;refine .al fun b4=> ?_;refine U5 ?_;refine .e (Or.xA (TP w [p,q]) (yL (w:: [p,q])) (fun x=> [p,q].length+1<=x.2.1) rfl rfl rfl rfl rfl dE (lB _) (fun H hs=> .h (hf H)) (fun x hx=> ?_));refine iD ?_;obtain⟨b,cap,J⟩:=x;have hx: [p,q].length+1<=cap:=hx;have hll:([p,q]:List By).length=2:=rfl;simp only[List.length_cons,List.length_nil] at hx;refine U41 ?_;refine .cl (fun H hs=> pR H) ?_;refine U3 ?_;refine .al fun b13=> ?_;refine U8 ?_;refine .cl (fun H hs=> jP H) ?_;refine U3 ?_;refine .al fun b14=> ?_;refine PO ?_;refine .rt hK func108 results108 [_,_] ?_;exact okB
theorem aBD(k:Bk)(A:Option Addr)(lc:Nat)(B:Option Addr)(tc:Nat)(s:By)(hm:s.length<=1000000)  (p q:By)(hP:mA 59 s= [IA,p,q])(h:∀y∈ [IA,p,q],y≠ [])(hl:p.length<=1000000/\q.length<=1000000)(hb:(qB p&&qB q)=false):fA M 108 #[k.val A lc B tc,bA s] H (Ib H (.tuple ⟨[k.val A lc B tc,.iz (-1)]⟩)):=by
 have hf:=fun H=> YF M H s hm IA [p,q] hP h (by simp);have pR:=fun H=> XF M H p hl.1;have jP:=fun H=> XF M H q hl.2;have hX:∀(u:Bool) (a b c d:Int),(if u=true then SC a b else SC c d)=SC (if u=true then a else c) (if u=true then b else d):=fun u a b c d=> by cases u <;> rfl
 simp only[hX] at pR jP;generalize (if qB p=true then vE p else 0)=p1 at pR;generalize (if qB p=true then EE p else 0)=p2 at pR;generalize (if qB q=true then vE q else 0)=q1 at jP;generalize (if qB q=true then EE q else 0)=q2 at jP;cases hp:qB p with
 | false=>
  rw[hp] at pR;generalize qB q=u2 at jP;refine .en func108 ntmps108 fun St c cs hK=> ?_;refine U2 ?_;refine .bo fun b2=> ?_;refine .al fun b4=> ?_;refine U5 ?_;refine .e (Or.xA (TP IA [p,q]) (yL (IA:: [p,q])) (fun x=> [p,q].length+1<=x.2.1) rfl rfl rfl rfl rfl dE (lB _) (fun H hs=> .h (hf H)) (fun x hx=> ?_));refine iD ?_;obtain⟨b,cap,J⟩:=x;have hx: [p,q].length+1<=cap:=hx;have hll:([p,q]:List By).length=2:=rfl;simp only[List.length_cons,List.length_nil] at hx;refine U41 ?_;refine .cl (fun H hs=> pR H) ?_;refine U3 ?_;refine .al fun b13=> ?_;refine U8 ?_;refine .cl (fun H hs=> jP H) ?_;refine U3 ?_;refine .al fun b14=> ?_;refine PO ?_;refine .rt hK func108 results108 [_,_] ?_;exact okB
 | true=>
  have hq:qB q=false:=by simpa [hp] using hb
  rw[hp] at pR;rw[hq] at jP;refine .en func108 ntmps108 fun St c cs hK=> ?_;refine U2 ?_;refine .bo fun b2=> ?_;refine .al fun b4=> ?_;refine U5 ?_;refine .e (Or.xA (TP IA [p,q]) (yL (IA:: [p,q])) (fun x=> [p,q].length+1<=x.2.1) rfl rfl rfl rfl rfl dE (lB _) (fun H hs=> .h (hf H)) (fun x hx=> ?_));refine iD ?_;obtain⟨b,cap,J⟩:=x;have hx: [p,q].length+1<=cap:=hx;have hll:([p,q]:List By).length=2:=rfl;simp only[List.length_cons,List.length_nil] at hx;refine U41 ?_;refine .cl (fun H hs=> pR H) ?_;refine U3 ?_;refine .al fun b13=> ?_;refine U8 ?_;refine .cl (fun H hs=> jP H) ?_;refine U3 ?_;refine .al fun b14=> ?_;refine PO ?_;refine .rt hK func108 results108 [_,_] ?_;exact okB
end
theorem L9 {s:By}{a b:Int}(h:rowOf s=some (.TC a b)):∃p q,mA 59 s= [bB,p,q]/\(∀y∈ [bB,p,q],y≠ [])/\PA p=true/\PA q=true/\a=numOf p/\b=numOf q:=by
 unfold rowOf at h;split at h
 ·cases h
 rename_i aB
 have gB:∀y∈mA 59 s,y≠ []:=fun y hy e=> aB (e▸hy);generalize mA 59 s=P at h gB;unfold AW at h;split at h
 ·rename_i w p q
  split at h
  ·rename_i e
   subst e;split at h
   ·rename_i h1
    cases h
    rw[Bool.and_eq_true] at h1;exact⟨p,q,rfl,gB,h1.1,h1.2,rfl,rfl⟩
   ·cases h
  ·split at h
   ·split at h <;> cases h
   ·cases h
 ·split at h
  ·cases hf:xE _ with
   | none=> rw[hf] at h;cases h
   | some ws=> rw[hf] at h;cases h
  ·cases h
 ·cases h
theorem D4 {s:By}{a z x y:Int}(h:rowOf s=some (.xF a z x y)):∃p q,mA 59 s= [IA,p,q]/\(∀y∈ [IA,p,q],y≠ [])/\qB p=true/\qB q=true/\a=vE p/\z=EE p/\x=vE q/\y=EE q:=by
 unfold rowOf at h;split at h
 ·cases h
 rename_i aB
 have gB:∀y∈mA 59 s,y≠ []:=fun y hy e=> aB (e▸hy);generalize mA 59 s=P at h gB;unfold AW at h;split at h
 ·rename_i w p q
  split at h
  ·split at h <;> cases h
  ·split at h
   ·rename_i e
    subst e;split at h
    ·rename_i h1
     cases h
     rw[Bool.and_eq_true] at h1;exact⟨p,q,rfl,gB,h1.1,h1.2,rfl,rfl,rfl,rfl⟩
    ·cases h
   ·cases h
 ·split at h
  ·cases hf:xE _ with
   | none=> rw[hf] at h;cases h
   | some ws=> rw[hf] at h;cases h
  ·cases h
 ·cases h
theorem BW {s p q:By}{ws:List Int}(h:rowOf s=some (.line p q ws)):∃r,mA 59 s= [OA,p,q,r]/\(∀y∈ [OA,p,q,r],y≠ [])/\xE r=some ws:=by
 unfold rowOf at h;split at h
 ·cases h
 rename_i aB
 have gB:∀y∈mA 59 s,y≠ []:=fun y hy e=> aB (e▸hy);generalize mA 59 s=P at h gB;unfold AW at h;split at h
 ·split at h
  ·split at h <;> cases h
  ·split at h
   ·split at h <;> cases h
   ·cases h
 ·rename_i w p' q' r
  split at h
  ·rename_i e
   subst e;cases hf:xE r with
   | none=> rw[hf] at h;cases h
   | some ws'=>
    rw[hf] at h;cases h
    exact⟨r,rfl,gB,hf⟩
  ·cases h
 ·cases h
section
variable(M:Md prog)(H:View)
theorem o0(k:Bk)(A:Option Addr)(lc:Nat)(B:Option Addr)(tc:Nat)(s:By)(hm:s.length<=1000000)(h:rowOf s=none):fA M 108 #[k.val A lc B tc,bA s] H (Ib H (.tuple ⟨[k.val A lc B tc,.iz (-1)]⟩)):=by
 unfold rowOf at h;split at h
 ·rename_i he
  exact aDk M H k A lc B tc s hm he
 rename_i aB
 have hb:=qC 59 s;obtain⟨P,hP⟩:∃P,mA 59 s=P:=⟨_,rfl⟩
 have hPn:=kF 59 s;rw[hP] at h aB hb hPn;have gB:∀x∈P,x≠ []:=fun x hx e=> aB (e▸hx);have many:∀w l,P=w::l->l.length≠2->(w=OA->l.length≠3)->fA M 108 #[k.val A lc B tc,bA s] H (Ib H (.tuple ⟨[k.val A lc B tc,.iz (-1)]⟩)):=fun w l e h2 h3=> by
  subst e;cases hl:l with
  | nil=> subst hl;exact aDo M H k A lc B tc s hm w hP gB
  | cons a r=>
   have h1:1<=l.length:=by rw[hl];simp
   by_cases e2:w=OA
   ·exact aDm M H k A lc B tc s hm w l hP gB h1 e2 h2 (h3 e2)
   ·exact aDn M H k A lc B tc s hm w l hP gB h1 e2 h2
 unfold AW at h;split at h
 ·rename_i w p q
  have hp:=hb p (by simp);have hq:=hb q (by simp);split at h
  ·rename_i e
   subst e;split at h
   ·cases h
   ·rename_i h1
    exact aDj M H k A lc B tc s hm p q hP gB ⟨oM,oM⟩ (by simpa using h1)
  ·rename_i e1
   split at h
   ·rename_i e
    subst e;split at h
    ·cases h
    ·rename_i h1
     exact aBD M H k A lc B tc s hm p q hP gB ⟨oM,oM⟩ (by simpa using h1)
   ·rename_i e2
    by_cases e3:w=OA
    ·subst e3;exact aBB M H k A lc B tc s hm p q hP gB ⟨oM,oM⟩
    ·exact aBC M H k A lc B tc s hm w e3 e1 e2 p q hP gB ⟨oM,oM⟩
 ·rename_i w p q y
  have hy:=hb y (by simp);split at h
  ·rename_i e
   subst e;exact aDl M H k A lc B tc s hm p q y hP gB oM (by cases hf:xE y with
    | none=> rfl
    | some ws=> rw[hf] at h;cases h)
  ·rename_i e1
   exact many w [p,q,y] rfl (by simp) (fun e=> (e1 e).elim)
 ·rename_i n3 n4
  cases P with
  | nil=> exact(hPn rfl).elim
  | cons w l=>
   refine many w l rfl (fun e=> ?_) (fun _ e=> ?_)
   ·match l,e with
    | [p,q],_=> exact n3 w p q rfl
   ·match l,e with
    | [p,q,y],_=> exact n4 w p q y rfl
theorem M3(k:Bk)(A:Option Addr)(lc:Nat)(B:Option Addr)(tc:Nat)(s:By)(hm:s.length<=1000000)(a b:Int)(h:rowOf s=some (.TC a b)):
  fA M 108 #[k.val A lc B tc,bA s] H (Ib H (.tuple ⟨[({ k with aD:=a,yB:=b }:Bk).val A lc B tc,.iz 0]⟩)):=by
 obtain⟨p,q,hP,gB,hp,hq,rfl,rfl⟩:=L9 h;have hb:=qC 59 s;rw[hP] at hb;have j8:=hb p (by simp);have hq1:=hb q (by simp);have hf:=fun H=> YF M H s hm bB [p,q] hP gB (by simp);have hpq:∀i,i<2->([p,q][i]?.getD []).length<=1000000/\PA ([p,q][i]?.getD [])=true:=fun i hi=> by
  match i,hi with
  | 0,_=> exact⟨by show p.length<=_;omega,hp⟩
  | 1,_=> exact⟨by show q.length<=_;omega,hq⟩
 have QA:=fun(H':View) (x:Nat×Nat×List Value) (h':∀z∈yL (bB:: [p,q]) x,H' z.1=some z.2)=> C5 M H' (some ⟨x.1,1,none⟩) 2 (x.2.1-1) (fun i=> [p,q][i]?.getD []) (K0 (l:= [p,q]) (h' _ List.mem_cons_self)) oM oM hpq;have sP:YD (fun i=> [p,q][i]?.getD []) 2= [numOf p,numOf q]:=rfl;rw[sP] at QA;generalize numOf p=a at QA;generalize numOf q=z at QA;have LG:([a,z]:List Int).length=2:=rfl;refine .en func108 ntmps108 fun St c cs hK=> ?_;refine U2 ?_;refine .bo fun b2=> ?_;refine .al fun b4=> ?_;refine U5 ?_;refine .e (Or.xA (TP bB [p,q]) (yL (bB:: [p,q])) (fun x=> [p,q].length+1<=x.2.1) rfl rfl rfl rfl rfl dE (lB _) (fun H hs=> .h (hf H)) (fun x hx=> ?_));refine U48 ?_;refine .e (Or.xA (nX [a,z]) (vR [a,z]) (fun y=> 2<=y.2.1) rfl rfl rfl rfl rfl dE (RG _) (fun H hs=> .h (QA H x (fun z hz=> hs.at_ z (List.mem_append_right _ hz)))) (fun y hy=> ?_));refine AJ ?_;refine Tc.dr [7,9] [1] mixed rfl ?_;refine V3 0 ?_;refine .nw 3 ?_;refine .nw 4 ?_;refine .nw 5 ?_;refine .nn 6 ?_;refine .e 7 1 ?_;refine .nw 8 ?_;refine .e 9 1 ?_;refine .dn ?_;refine U6 ?_;refine .rt hK func108 results108 [_,_] ?_;exact okB
end
end Go.Proofs.YtldmfjcgjdchcaaGreatDoor
namespace Go.RL
section
variable {P:Program}{E:Env P}{M:Md P}{n:Nat}{H₀:View}{R:Rg}{L:Bl}{K:Rg->Bl->Prop}{o:Oper}{d:Nat}
theorem Or.KG(k:Nat)(Y:Bl){cl:Go.Call}{x y:Operand}{t xt e:TypeId}{sz m:Nat}{yv:Value}{new:List Value}{g:Gl e sz}{r re rx:FA}{ex:TypeId}(lA:o.op=.call cl)(iB:cl.callee=.builtin .append)(uG:cl.argTypes=#[t,xt])(sI:cl.args=#[x,y])
  (hx:JA R x=some g.val) (hy:JA R y=some yv) (ht:E.ty t=some r) (jC:r.ds=.slice e) (BD:E.ty e=some re) (yE:re.size=sz) (SV:Nat.beq re.zero.cells.toList.length sz=true) (RV:E.ty xt=some rx) (hex:rx.ds=.slice ex) (LX:Nat.ble re.bytes 1000=true)
  (hL:L.drop k=g.bl++Y) (eH:∀H,jA H₀ L H->RA H sz yv m new) (hs:new.all single=true) (hm:g.n+m<=1000000000) (hd:o.dst=some d) (hn:d<n)
  (hk:∀g':Gl e sz,g'.n=g.n+m->g'.l=g.l++new->K ((d,g'.val)::R) (L.take k++(Y++g'.bl))):Or M n H₀ R L o K:=
 .val hd hn fun H tmps aC hr=> by
  have hLe:L=L.take k++(g.bl++Y):=by rw[<-hL,List.take_append_drop]
  unfold execOp;rw[lA];simp only[resolve,iB,uG,sI];have VX:Array.map (OB tmps) #[x,y]=#[g.val,yv]:=by simp[hr.ev hx,hr.ev hy]
  rw[VX];have ZO:=aC;rw[hLe] at ZO;have pM:jA H₀ ((L.take k++Y)++g.bl) H:=ZO.perm (j9 _ _ _);refine aA (Builtin.append_ #[t,xt] o.type #[g.val,yv]) _ ?_;refine CL ht jC BD yE (Nat.eq_of_beq_eq_true SV) ⟨rx,ex,RV,hex⟩ (Nat.le_of_ble_eq_true LX) hm (fun z hz=> pM.at_ z (by simp[hz])) (eH H aC) hs fun g' H' h1 h2 h3 h4 h5=> ?_;exact⟨_,rfl,_,(pM.grown h3 h4 h5).perm (by rw[List.append_assoc]),hk g' h1 h2⟩
end
end Go.RL
namespace Go.Proofs.YtldmfjcgjdchcaaGreatDoor
open Go.RL Go.Proofs.Tryz
set_option maxRecDepth 10000
set_option maxHeartbeats 16000000
section
variable(M:Md prog)(H:View)
def Bk.HB(k:Bk)(a z x y:Int):Bk:= { k with nt:=k.nt+1,pf:=fun j=> if j=k.nt then a else k.pf j,pt:=fun j=> if j=k.nt then z else k.pt j,qf:=fun j=> if j=k.nt then x else k.qf j,qt:=fun j=> if j=k.nt then y else k.qt j }
theorem pY(k:Bk)(A:Option Addr)(lc:Nat)(B:Option Addr)(tc:Nat)(F:Nat->Option Addr)(fc:Nat->Nat)(hB:JB H k A lc B tc F fc)(oL:k.nt<=1000)(s:By)(hm:s.length<=1000000)(p1 p2 q1 q2:Int)(h:rowOf s=some (.xF p1 p2 q1 q2)):
  fA M 108 #[k.val A lc B tc,bA s] H (fun v H'=> H.le H'/\∃B' tc',v=.tuple ⟨[(k.HB p1 p2 q1 q2).val A lc B' tc',.iz 2]⟩/\JB H' (k.HB p1 p2 q1 q2) A lc B' tc' F fc):=by
 obtain⟨p,q,hP,gB,hp,hq,h1,h2,h3,h4⟩:=D4 h;have hb:=qC 59 s;rw[hP] at hb;have j8:=hb p (by simp);have hq1:=hb q (by simp);have hf:=fun H=> YF M H s hm IA [p,q] hP gB (by simp);have pR:=fun H=> XF M H p oM;have jP:=fun H=> XF M H q oM;simp only[hp,if_true,<-h1,<-h2] at pR;simp only[hq,if_true,<-h3,<-h4] at jP;clear h1 h2 h3 h4 h;have hll:([p,q]:List By).length=2:=rfl;refine .en func108 ntmps108 fun St c cs hK=> ?_;refine U2 ?_;refine .bo fun b2=> ?_;refine .al fun b4=> ?_;refine U5 ?_;refine .e (Or.xA (TP IA [p,q]) (yL (IA:: [p,q])) (fun x=> [p,q].length+1<=x.2.1) rfl rfl rfl rfl rfl dE (lB _) (fun H hs=> .h (hf H)) (fun x hx=> ?_));refine iD ?_;obtain⟨b,cap,J⟩:=x;have hx: [p,q].length+1<=cap:=hx;refine U41 ?_;refine .cl (fun H hs=> pR H) ?_;refine U3 ?_;refine .al fun b13=> ?_;refine U8 ?_;refine .cl (fun H hs=> jP H) ?_;refine U3 ?_;refine .al fun b14=> ?_;refine eO ?_;refine Tc.db (R':= [(2,.pt b2),(4,.pt b4),(13,.pt b13),(14,.pt b14)]) (L':= [Bb b14 [.iz q1,.iz q2] 37,Bb b13 [.iz p1,.iz p2] 37,Bb b4 [.iz 0,.iz 0,.slice none 0 0,.slice none 0 0] 45,Bb b2 ((k.val A lc B tc).cells.toList) 45]) ?_;refine Tc.via (fun R' L'=> ∃g:Gl 39 4,(g.n=k.nt+1/\g.l=KA k.nt (uB k)++[.iz p1,.iz p2,.iz q1,.iz q2])/\pC [(2,.pt b2),(4,.pt b4)] R'/\List.Sublist ([Bb b4 [.iz 0,.iz 0,.slice none 0 0,.slice none 0 0] 45,Bb b2 [.iz k.aD,.iz k.yB,.slice A k.nl lc,g.val] 45]++g.bl) L') ?_ (fun fin=> ?_)
 rotate_left
 ·refine Tc.dr [10] [3] mixed rfl ?_;refine V2 1 ?_;refine V3 4 ?_;refine Ta.each [0,7] kR rfl ⟨uJ.mk rfl rfl rfl (.bs (zz:=fun bs0=> ⟨S2.mk sL (.inr sL),?_⟩)),uJ.mk rfl rfl rfl (.bs (zz:=fun bs1=> ⟨S2.mk sL (.inr sL),?_⟩)),trivial⟩
  ·refine Ta.each [3,7] kR rfl ⟨uJ.mk rfl rfl rfl (Or.KG (E:=en) (g:=Gl.emp 39 4 bs0) (m:=k.nt) (new:=KA k.nt (uB k)) 0 [Bb b14 [.iz q1,.iz q2] 37,Bb b13 [.iz p1,.iz p2] 37,Bb b4 [.iz 0,.iz 0,.slice none 0 0,.slice none 0 0] 45,Bb b2 ((k.val A lc B tc).cells.toList) 45] rfl rfl rfl rfl rfl rfl rfl rfl rfl rfl rfl rfl rfl rfl rfl (fun H hs=> hB.xC.mono hs.base) (DC (UF k) _) (by show 0+_<=_;omega) rfl dE (fun g1 JV RZ=> ⟨S2.mk sL (.inr sL),?_⟩)),uJ.mk rfl rfl rfl (.bs (zz:=fun bs1=> ⟨S2.mk sL (.inr sL),?_⟩)),trivial⟩
   ·refine .ea 7 rfl (.bs (zz:=fun bs1=> ⟨S2.mk sL (.inr sL),?_⟩));refine .ea 8 rfl (Or.append (E:=en) (g:=g1) (m:=1) (new:= [.iz p1,.iz p2,.iz q1,.iz q2]) (yv:=.slice (some ⟨bs1,0,none⟩) 1 1) 5 rfl rfl rfl rfl rfl rfl rfl rfl rfl rfl rfl rfl rfl rfl rfl (fun H hs=> RA.of (hs.get (i:=0) rfl) Nb) rfl (by rw[JV];show 0+_+1<=_;omega) rfl dE (fun g2 dI LG=> ⟨S2.mk sL (.inr sL),?_⟩));refine .nn 9 ?_;refine .e 10 4 ?_;refine .dn ?_;exact fin _ _ ⟨g2,⟨by rw[dI,JV];show 0+_+1=_;omega,by rw[LG,RZ];rfl⟩,⟨rfl,rfl,trivial⟩,sL⟩
   ·refine .ea 3 rfl (Or.KG (E:=en) (g:=Gl.emp 39 4 bs0) (m:=k.nt) (new:=KA k.nt (uB k)) 1 [Bb b14 [.iz q1,.iz q2] 37,Bb b13 [.iz p1,.iz p2] 37,Bb b4 [.iz 0,.iz 0,.slice none 0 0,.slice none 0 0] 45,Bb b2 ((k.val A lc B tc).cells.toList) 45] rfl rfl rfl rfl rfl rfl rfl rfl rfl rfl rfl rfl rfl rfl rfl (fun H hs=> hB.xC.mono hs.base) (DC (UF k) _) (by show 0+_<=_;omega) rfl dE (fun g1 JV RZ=> ⟨S2.mk sL (.inr sL),?_⟩));refine .ea 8 rfl (Or.append (E:=en) (g:=g1) (m:=1) (new:= [.iz p1,.iz p2,.iz q1,.iz q2]) (yv:=.slice (some ⟨bs1,0,none⟩) 1 1) 5 rfl rfl rfl rfl rfl rfl rfl rfl rfl rfl rfl rfl rfl rfl rfl (fun H hs=> RA.of (hs.get (i:=0) rfl) Nb) rfl (by rw[JV];show 0+_+1<=_;omega) rfl dE (fun g2 dI LG=> ⟨S2.mk sL (.inr sL),?_⟩));refine .nn 9 ?_;refine .e 10 4 ?_;refine .dn ?_;exact fin _ _ ⟨g2,⟨by rw[dI,JV];show 0+_+1=_;omega,by rw[LG,RZ];rfl⟩,⟨rfl,rfl,trivial⟩,sL⟩
  ·refine .ea 0 rfl (.bs (zz:=fun bs0=> ⟨S2.mk sL (.inr sL),?_⟩));refine .ea 3 rfl (Or.KG (E:=en) (g:=Gl.emp 39 4 bs0) (m:=k.nt) (new:=KA k.nt (uB k)) 0 [Bb bs1 [.iz p1,.iz p2,.iz q1,.iz q2] 39,Bb b14 [.iz q1,.iz q2] 37,Bb b13 [.iz p1,.iz p2] 37,Bb b4 [.iz 0,.iz 0,.slice none 0 0,.slice none 0 0] 45,Bb b2 ((k.val A lc B tc).cells.toList) 45] rfl rfl rfl rfl rfl rfl rfl rfl rfl rfl rfl rfl rfl rfl rfl (fun H hs=> hB.xC.mono hs.base) (DC (UF k) _) (by show 0+_<=_;omega) rfl dE (fun g1 JV RZ=> ⟨S2.mk sL (.inr sL),?_⟩));refine .ea 8 rfl (Or.append (E:=en) (g:=g1) (m:=1) (new:= [.iz p1,.iz p2,.iz q1,.iz q2]) (yv:=.slice (some ⟨bs1,0,none⟩) 1 1) 5 rfl rfl rfl rfl rfl rfl rfl rfl rfl rfl rfl rfl rfl rfl rfl (fun H hs=> RA.of (hs.get (i:=0) rfl) Nb) rfl (by rw[JV];show 0+_+1<=_;omega) rfl dE (fun g2 dI LG=> ⟨S2.mk sL (.inr sL),?_⟩));refine .nn 9 ?_;refine .e 10 4 ?_;refine .dn ?_;exact fin _ _ ⟨g2,⟨by rw[dI,JV];show 0+_+1=_;omega,by rw[LG,RZ];rfl⟩,⟨rfl,rfl,trivial⟩,sL⟩
 rintro R' L' ⟨g,⟨XC,JE⟩,hR,hL⟩;refine Tc.yC ?_ hR hL;clear hR hL;refine Tc.bT [Bb b4 [.iz 0,.iz 0,.slice none 0 0,.slice none 0 0] 45,Bb b2 [.iz k.aD,.iz k.yB,.slice A k.nl lc,g.val] 45] g.bl (List.Perm.refl _) (fun H₃ OK hb3=> ?_);refine U6 ?_;refine .rt hK func108 results108 [_,_] ?_;refine fun H' hs=> ⟨View.le_trans OK hs.base,g.blk.map fun b=> ⟨b,0,none⟩,g.cap,?_,?_⟩
 ·have YW:g.val=.slice (g.blk.map fun b=> ⟨b,0,none⟩) (k.nt+1) g.cap:=by unfold Gl.val;rw[XC]
  rw[YW];rfl
 ·have e1:KA k.nt (uB k)++[.iz p1,.iz p2,.iz q1,.iz q2]=KA (k.nt+1) (uB (k.HB p1 p2 q1 q2)):=by
   rw[LC]
   congr 1
   ·refine cF _ fun i hi=> ?_;have:i≠k.nt:=by omega
    simp only[uB,Bk.HB,if_neg this]
   ·simp[uB,Bk.HB]
  have h1:=g.src (H:=H') (fun x hx=> hs.base _ _ (hb3 x hx));have YW:g.val=.slice (g.blk.map fun b=> ⟨b,0,none⟩) (k.nt+1) g.cap:=by unfold Gl.val;rw[XC]
  rw[YW,XC,JE,e1] at h1;exact⟨hB.Y7,by show k.nt+1<=g.cap;rw[<-XC];exact g.hc,hB.rows.mono (View.le_trans OK hs.base),h1,hB.OX,fun i hi=> (hB.free i hi).mono (View.le_trans OK hs.base)⟩
end
theorem pV(ws:List Int):QB ws=KA ws.length (TK fun j=> ws[j]?.getD 0):=by
 have hws:ws=(List.range ws.length).map fun j=> ws[j]?.getD 0:=by
  apply List.ext_getElem
  ·simp
  ·intro i h1 h2;simp[h1]
 have e:∀(n:Nat) (x:Nat->Int),KA n (TK x)=QB ((List.range n).map x):=fun n x=> by
  unfold KA TK QB;rw[List.map_map,List.map_eq_flatMap];rfl
 rw[e,<-hws]
section
variable(M:Md prog)(H:View)
def Bk.LQ(k:Bk)(p q:By)(ws:List Int):Bk:= { k with nl:=k.nl+1,name:=fun i=> if i=k.nl then p else k.name i,num:=fun i=> if i=k.nl then q else k.num i,nf:=fun i=> if i=k.nl then ws.length else k.nf i,free:=fun i j=> if i=k.nl then ws[j]?.getD 0 else k.free i j }
theorem N3(k:Bk)(A:Option Addr)(lc:Nat)(B:Option Addr)(tc:Nat)(F:Nat->Option Addr)(fc:Nat->Nat)(hB:JB H k A lc B tc F fc)(oP:k.nl<=1000)(s:By)(hm:s.length<=1000000)(p q:By)(ws:List Int)(h:rowOf s=some (.line p q ws)):
  fA M 108 #[k.val A lc B tc,bA s] H (fun v H'=> H.le H'/\∃A' lc' F' fc',v=.tuple ⟨[(k.LQ p q ws).val A' lc' B tc,.iz 1]⟩/\JB H' (k.LQ p q ws) A' lc' B tc F' fc'):=by
 obtain⟨r,hP,gB,hr⟩:=BW h;have hb:=qC 59 s;rw[hP] at hb;have hr1:=hb r (by simp);have hf:=fun H=> YF M H s hm OA [p,q,r] hP gB (by simp);have lP:=fun H=> u4 M H r oM ws hr;clear h;have hll:([p,q,r]:List By).length=3:=rfl;refine .en func108 ntmps108 fun St c cs hK=> ?_;refine U2 ?_;refine .bo fun b2=> ?_;refine .al fun b4=> ?_;refine U5 ?_;refine .e (Or.xA (TP OA [p,q,r]) (yL (OA:: [p,q,r])) (fun x=> [p,q,r].length+1<=x.2.1) rfl rfl rfl rfl rfl dE (lB _) (fun H hs=> .h (hf H)) (fun x hx=> ?_));refine iD ?_;obtain⟨b,cap,J⟩:=x;have hx: [p,q,r].length+1<=cap:=hx;refine s6 ?_;refine .e (Or.xA frV Gl.bl (fun g:Gl 110 1=> g.n=ws.length/\g.l=QB ws) rfl rfl rfl rfl rfl dE Gl.bG (fun H hs=> .h (lP H)) (fun gf hgf=> ?_));refine AJ ?_;obtain⟨XC,JE⟩:=hgf;have aFs:gf.val=.slice (gf.blk.map fun b=> ⟨b,0,none⟩) ws.length gf.cap:=by unfold Gl.val;rw[XC]
 refine Tc.db (R':= [(2,.pt b2),(4,.pt b4),(7,.slice (some ⟨b,1,none⟩) 3 (cap-1)),(9,gf.val)]) (L':= [Bb b4 [.iz 0,.iz 0,.slice none 0 0,.slice none 0 0] 45,Bb b2 ((k.val A lc B tc).cells.toList) 45,Bb b ([bA OA,bA p,bA q,bA r]++J) 9]++gf.bl) ?_;refine Tc.bT [Bb b4 [.iz 0,.iz 0,.slice none 0 0,.slice none 0 0] 45,Bb b2 ((k.val A lc B tc).cells.toList) 45,Bb b ([bA OA,bA p,bA q,bA r]++J) 9] gf.bl (List.Perm.refl _) (fun H₃ OK hb3=> ?_);have eH:=gf.src hb3;have XW:=gf.hc;rw[aFs,XC,JE,pV] at eH;rw[aFs];rw[XC] at XW;generalize (gf.blk.map fun b=> (⟨b,0,none⟩:Addr))=Fa at eH;generalize gf.cap=fca at eH XW;refine Tc.via (fun R' L'=> ∃g:Gl 68 3,(g.n=k.nl+1/\g.l=KA k.nl (uF k F fc)++[bA p,bA q,.slice Fa ws.length fca])/\pC [(2,.pt b2),(4,.pt b4)] R'/\List.Sublist ([Bb b4 [.iz 0,.iz 0,.slice none 0 0,.slice none 0 0] 45,Bb b2 [.iz k.aD,.iz k.yB,g.val,.slice B k.nt tc] 45]++g.bl) L') ?_ (fun fin=> ?_)
 rotate_left
 ·refine Tc.dr [15] [1] mixed rfl ?_;refine V2 1 ?_;refine V8 4 ?_;refine Ta.each [0,12] kR rfl ⟨uJ.mk rfl rfl rfl (.bs (zz:=fun bs0=> ⟨S2.mk sL (.inr sL),?_⟩)),uJ.mk rfl rfl rfl (.bs (zz:=fun bs1=> ⟨S2.mk sL (.inr sL),?_⟩)),trivial⟩
  ·refine Ta.each [3,12] kR rfl ⟨uJ.mk rfl rfl rfl (Or.KG (E:=en) (g:=Gl.emp 68 3 bs0) (m:=k.nl) (new:=KA k.nl (uF k F fc)) 0 [Bb b4 [.iz 0,.iz 0,.slice none 0 0,.slice none 0 0] 45,Bb b2 ((k.val A lc B tc).cells.toList) 45,Bb b ([bA OA,bA p,bA q,bA r]++J) 9] rfl rfl rfl rfl rfl rfl rfl rfl rfl rfl rfl rfl rfl rfl rfl (fun H hs=> hB.rows.mono (View.le_trans OK hs.base)) (DC (OH k F fc) _) (by show 0+_<=_;omega) rfl dE (fun g1 JV RZ=> ⟨S2.mk sL (.inr sL),?_⟩)),uJ.mk rfl rfl rfl (.bs (zz:=fun bs1=> ⟨S2.mk sL (.inr sL),?_⟩)),trivial⟩
   ·refine .ea 12 rfl (.bs (zz:=fun bs1=> ⟨S2.mk sL (.inr sL),?_⟩));refine .ea 13 rfl (Or.append (E:=en) (g:=g1) (m:=1) (new:= [bA p,bA q,.slice Fa ws.length fca]) (yv:=.slice (some ⟨bs1,0,none⟩) 1 1) 4 rfl rfl rfl rfl rfl rfl rfl rfl rfl rfl rfl rfl rfl rfl rfl (fun H hs=> RA.of (hs.get (i:=0) rfl) Nb) rfl (by rw[JV];show 0+_+1<=_;omega) rfl dE (fun g2 dI LG=> ⟨S2.mk sL (.inr sL),?_⟩));refine .nn 14 ?_;refine .e 15 2 ?_;refine .dn ?_;exact fin _ _ ⟨g2,⟨by rw[dI,JV];show 0+_+1=_;omega,by rw[LG,RZ];rfl⟩,⟨rfl,rfl,trivial⟩,sL⟩
   ·refine .ea 3 rfl (Or.KG (E:=en) (g:=Gl.emp 68 3 bs0) (m:=k.nl) (new:=KA k.nl (uF k F fc)) 1 [Bb b4 [.iz 0,.iz 0,.slice none 0 0,.slice none 0 0] 45,Bb b2 ((k.val A lc B tc).cells.toList) 45,Bb b ([bA OA,bA p,bA q,bA r]++J) 9] rfl rfl rfl rfl rfl rfl rfl rfl rfl rfl rfl rfl rfl rfl rfl (fun H hs=> hB.rows.mono (View.le_trans OK hs.base)) (DC (OH k F fc) _) (by show 0+_<=_;omega) rfl dE (fun g1 JV RZ=> ⟨S2.mk sL (.inr sL),?_⟩));refine .ea 13 rfl (Or.append (E:=en) (g:=g1) (m:=1) (new:= [bA p,bA q,.slice Fa ws.length fca]) (yv:=.slice (some ⟨bs1,0,none⟩) 1 1) 4 rfl rfl rfl rfl rfl rfl rfl rfl rfl rfl rfl rfl rfl rfl rfl (fun H hs=> RA.of (hs.get (i:=0) rfl) Nb) rfl (by rw[JV];show 0+_+1<=_;omega) rfl dE (fun g2 dI LG=> ⟨S2.mk sL (.inr sL),?_⟩));refine .nn 14 ?_;refine .e 15 2 ?_;refine .dn ?_;exact fin _ _ ⟨g2,⟨by rw[dI,JV];show 0+_+1=_;omega,by rw[LG,RZ];rfl⟩,⟨rfl,rfl,trivial⟩,sL⟩
  ·refine .ea 0 rfl (.bs (zz:=fun bs0=> ⟨S2.mk sL (.inr sL),?_⟩));refine .ea 3 rfl (Or.KG (E:=en) (g:=Gl.emp 68 3 bs0) (m:=k.nl) (new:=KA k.nl (uF k F fc)) 0 [Bb bs1 [bA p,bA q,.slice Fa ws.length fca] 68,Bb b4 [.iz 0,.iz 0,.slice none 0 0,.slice none 0 0] 45,Bb b2 ((k.val A lc B tc).cells.toList) 45,Bb b ([bA OA,bA p,bA q,bA r]++J) 9] rfl rfl rfl rfl rfl rfl rfl rfl rfl rfl rfl rfl rfl rfl rfl (fun H hs=> hB.rows.mono (View.le_trans OK hs.base)) (DC (OH k F fc) _) (by show 0+_<=_;omega) rfl dE (fun g1 JV RZ=> ⟨S2.mk sL (.inr sL),?_⟩));refine .ea 13 rfl (Or.append (E:=en) (g:=g1) (m:=1) (new:= [bA p,bA q,.slice Fa ws.length fca]) (yv:=.slice (some ⟨bs1,0,none⟩) 1 1) 4 rfl rfl rfl rfl rfl rfl rfl rfl rfl rfl rfl rfl rfl rfl rfl (fun H hs=> RA.of (hs.get (i:=0) rfl) Nb) rfl (by rw[JV];show 0+_+1<=_;omega) rfl dE (fun g2 dI LG=> ⟨S2.mk sL (.inr sL),?_⟩));refine .nn 14 ?_;refine .e 15 2 ?_;refine .dn ?_;exact fin _ _ ⟨g2,⟨by rw[dI,JV];show 0+_+1=_;omega,by rw[LG,RZ];rfl⟩,⟨rfl,rfl,trivial⟩,sL⟩
 rintro R' L' ⟨g,⟨XC,JE⟩,hR,hL⟩;refine Tc.yC ?_ hR hL;clear hR hL;refine Tc.bT [Bb b4 [.iz 0,.iz 0,.slice none 0 0,.slice none 0 0] 45,Bb b2 [.iz k.aD,.iz k.yB,g.val,.slice B k.nt tc] 45] g.bl (List.Perm.refl _) (fun H₅ FT hb5=> ?_);refine U6 ?_;refine .rt hK func108 results108 [_,_] ?_;have YW:g.val=.slice (g.blk.map fun b=> ⟨b,0,none⟩) (k.nl+1) g.cap:=by unfold Gl.val;rw[XC]
 refine fun H' hs=> ⟨View.le_trans OK (View.le_trans FT hs.base),g.blk.map fun b=> ⟨b,0,none⟩,g.cap,fun i=> if i=k.nl then Fa else F i,fun i=> if i=k.nl then fca else fc i,?_,?_⟩
 ·rw[YW];rfl
 ·have hle:=View.le_trans FT hs.base;have e1:KA k.nl (uF k F fc)++[bA p,bA q,.slice Fa ws.length fca]=KA (k.nl+1) (uF (k.LQ p q ws) (fun i=> if i=k.nl then Fa else F i) (fun i=> if i=k.nl then fca else fc i)):=by
   rw[LC]
   congr 1
   ·refine cF _ fun i hi=> ?_;have:i≠k.nl:=by omega
    simp only[uF,Bk.LQ,if_neg this]
   ·simp[uF,Bk.LQ]
  have h1:=g.src (H:=H') (fun x hx=> hs.base _ _ (hb5 x hx));rw[YW,XC,JE,e1] at h1;refine⟨by show k.nl+1<=g.cap;rw[<-XC];exact g.hc,hB.u5,h1,hB.xC.mono (View.le_trans OK hle),fun i hi=> ?_,fun i hi=> ?_⟩
  ·by_cases c:i=k.nl
   ·simp only[Bk.LQ,if_pos c];exact XW
   ·simp only[Bk.LQ,if_neg c];have hi:i<k.nl+1:=hi;exact hB.OX i oM
  ·by_cases c:i=k.nl
   ·simp only[Bk.LQ,if_pos c];exact eH.mono hle
   ·simp only[Bk.LQ,if_neg c];have hi:i<k.nl+1:=hi;exact(hB.free i oM).mono (View.le_trans OK hle)
end
theorem yV {α:Type}(l:List α)(y d:α)(i:Nat):(l++[y])[i]?.getD d=if i=l.length then y else l[i]?.getD d:=by
 by_cases h:i<l.length
 ·rw[if_neg oM,List.getElem?_append_left h]
 ·by_cases e:i=l.length
  ·subst e;rw[if_pos rfl];simp
  ·rw[if_neg e,List.getElem?_eq_none (by simp;omega),List.getElem?_eq_none oM]
theorem aAY(t:LF)(p q:By)(ws:List Int):(t.put (.line p q ws)).bk=t.bk.LQ p q ws:=by
 unfold LF.bk LF.put Bk.LQ;simp only[yV,List.length_append,List.length_cons,List.length_nil,Nat.zero_add]
 congr 1
 ·funext i;split <;> rfl
 ·funext i;split <;> rfl
 ·funext i;split <;> rfl
 ·funext i j;split <;> rfl
theorem E6(t:LF)(a z x y:Int):(t.put (.xF a z x y)).bk=t.bk.HB a z x y:=by
 unfold LF.bk LF.put Bk.HB;simp only[yV,List.length_append,List.length_cons,List.length_nil,Nat.zero_add]
 congr 1
 ·funext i;split <;> rfl
 ·funext i;split <;> rfl
 ·funext i;split <;> rfl
 ·funext i;split <;> rfl
section
variable(M:Md prog)(H:View)
theorem aBA(t:LF)(A:Option Addr)(lc:Nat)(B:Option Addr)(tc:Nat)(F:Nat->Option Addr)(fc:Nat->Nat)(hB:JB H t.bk A lc B tc F fc)(hl:t.bk.nl<=1000)(oL:t.bk.nt<=1000)(s:By)(hm:s.length<=1000000)(r:Row)(h:rowOf s=some r):
  fA M 108 #[t.bk.val A lc B tc,bA s] H (fun v H'=> H.le H'/\∃A' lc' B' tc' F' fc',v=.tuple ⟨[(t.put r).bk.val A' lc' B' tc',.nt r.kind]⟩/\JB H' (t.put r).bk A' lc' B' tc' F' fc'):=by
 cases r with
 | TC a b=>
  exact fA.mono (M3 M H t.bk A lc B tc s hm a b h) fun v H' hv=> ⟨hv.1,A,lc,B,tc,F,fc,hv.2,⟨hB.Y7,hB.u5,hB.rows.mono hv.1,hB.xC.mono hv.1,hB.OX,fun i hi=> (hB.free i hi).mono hv.1⟩⟩
 | line p q ws=>
  rw[aAY];exact fA.mono (N3 M H t.bk A lc B tc F fc hB hl s hm p q ws h) fun v H' hv=> by
   obtain⟨h1,A',lc',F',fc',h2,h3⟩:=hv;exact⟨h1,A',lc',B,tc,F',fc',h2,h3⟩
 | xF a z x y=>
  rw[E6];exact fA.mono (pY M H t.bk A lc B tc F fc hB oL s hm a z x y h) fun v H' hv=> by
   obtain⟨h1,B',tc',h2,h3⟩:=hv;exact⟨h1,A,lc,B',tc',F,fc,h2,h3⟩
end
theorem Z3(y:UInt8)(s:By):∀p∈mA y s,y ∉ p:=by
 suffices h:∀(n:Nat) (s:By),s.length<=n->∀p∈mA y s,y ∉ p from h s.length s (Nat.le_refl _)
 intro n;induction n with
 | zero=>
  intro s hs p hp;obtain rfl:s= []:=List.length_eq_zero_iff.1 oM;rw[tC y [] (by simp)] at hp;simp only[List.mem_singleton] at hp;subst hp;simp
 | succ n ih=>
  intro s hs p hp;rcases ZH y s with h0|⟨a,b,rfl,h0⟩
  ·rw[tC y s h0] at hp;simp only[List.mem_singleton] at hp;subst hp;exact h0
  ·rw[xD y b a h0] at hp;simp only[List.length_append,List.length_cons] at hs;rcases List.mem_cons.1 hp with rfl|hp
   ·exact h0
   ·exact ih b oM p hp
theorem CW {s:By}{l:List By}{p:By}(h:mA 10 s=l++[p]):xG s=l++(if p= [] then [] else [p]):=by
 have hp:(10:UInt8) ∉ p:=Z3 10 s p (by rw[h];simp);unfold xG vC;rw[h,List.dropLast_concat,List.getLast?_concat,Option.getD_some,List.map_append,List.map_map]
 congr 1
 ·have:(WH 10∘fun p=> p++[10])=id:=by
   funext q
   exact ZR 10 q
  rw[this,List.map_id]
 ·split
  ·rfl
  ·rw[List.map_cons,List.map_nil,vZ hp]
structure LnI(s:By)(i f:Nat)(g:Gl 9 1)(l:List By):Prop where
 hi:i<=s.length
 hf:f<=i
 hp:mA 10 (s.take i)=l++[(s.drop f).take (i-f)]
 hn:g.n=l.length
 hl:g.l=zA l
section
variable(M:Md prog)(H:View)
theorem AY(s:By)(hm:s.length<=1000000):fA M 107 #[bA s] H (fun v H'=> H.le H'/\∃g:Gl 9 1,v=g.val/\(g.n=(xG s).length/\g.l=zA (xG s))/\∀x∈g.bl,H' x.1=some x.2/\H x.1=none):=by
 refine .en func107 ntmps107 fun St c cs hK=> ?_;refine fL ?_;refine Tc.db (Tc.qA (σ:= { x:(Nat×Nat)×Gl 9 1×List By//LnI s x.1.1 x.1.2 x.2.1 x.2.2 }) (fun x=> ([(0,bA s),(3,x.1.2.1.val),(4,.nt x.1.1.2),(5,.nt x.1.1.1)],x.1.2.1.bl)) (fun x=> s.length-x.1.1.1) ?_ ⟨((0,0),Gl.nil 9 1,[]),⟨Nat.zero_le _,Nat.le_refl _,rfl,rfl,rfl⟩⟩);rintro⟨⟨⟨i,f⟩,g,l⟩,hI⟩ ih;simp only at hI;dsimp only;obtain⟨hi,hf,hp,XC,JE⟩:=hI;have hll:l.length<=i:=by
  have h1:=congrArg List.length hp;rw[kB,List.length_append] at h1;have h2:(s.take i).count 10<=(s.take i).length:=List.count_le_length;rw[List.length_take] at h2;simp only[List.length_cons,List.length_nil] at h1;omega
 by_cases c1:i=s.length
 ·clear ih;subst c1;rw[List.take_length] at hp;have hrw:=CW hp;by_cases c3:f<s.length
  ·have aCV:(s.drop f).take (s.length-f)≠ []:=fun e=> by
    have:=congrArg List.length e;rw[List.length_take,List.length_drop,List.length_nil] at this;omega
   rw[if_neg aCV] at hrw;refine s6 ?_;refine .x (pA.pD (E:=en) rfl rfl rfl rfl rfl rfl oM oM oM) ?_;refine .e (.bs (zz:=fun bs=> ?_));refine .e (Or.append (E:=en) 1 rfl rfl rfl rfl rfl rfl rfl rfl rfl rfl rfl rfl rfl rfl rfl (fun H hs=> RA.of (hs.get (i:=0) rfl) Nb) rfl oM rfl dE (fun g3 AN EJ=> ?_));refine U7 ?_;refine .rt hK func107 results107 [_] ?_;refine fun H' hs=> ⟨hs.base,g3,rfl,⟨by rw[hrw,AN,XC];simp,?_⟩,fun x hx=> ⟨hs.at_ x (List.mem_append_right _ hx),hs.out x (List.mem_append_right _ hx)⟩⟩
   rw[EJ,JE,hrw,eC];rfl
  ·have aCV:(s.drop f).take (s.length-f)= []:=by
    rw[List.drop_of_length_le oM,List.take_nil]
   rw[if_pos aCV,List.append_nil] at hrw;refine U25 ?_;refine .rt hK func107 results107 [_] ?_;exact fun H' hs=> ⟨hs.base,g,rfl,⟨by rw[hrw,XC],by rw[hrw,JE]⟩,fun x hx=> ⟨hs.at_ x hx,hs.out x hx⟩⟩
 ·have c2:i<s.length:=by omega
  have hx:s[((i:Nat):Int).toNat]? =some s[i]:=by rw[Int.toNat_natCast,List.getElem?_eq_getElem c2]
  have wG:=cK 10 s[i] (s.take i);rw[<-List.take_succ_eq_append_getElem c2,hp,List.dropLast_concat,List.getLast?_concat,Option.getD_some] at wG;by_cases c3:s[i]=10
  ·rw[if_pos c3] at wG;have e1:iA .eql .u8 ((s[i].toNat:Nat):Int) 10=some (.bool true):=wE (by rw[c3];rfl);refine U25 ?_;refine .x (pA.pD (E:=en) rfl rfl rfl rfl rfl rfl oM oM oM) ?_;refine .e (.bs (zz:=fun bs=> ?_));refine .e (Or.append (E:=en) 1 rfl rfl rfl rfl rfl rfl rfl rfl rfl rfl rfl rfl rfl rfl rfl (fun H hs=> RA.of (hs.get (i:=0) rfl) Nb) rfl oM rfl dE (fun g3 AN EJ=> ?_));refine ND ?_;exact Tc.db (ih ⟨((i+1,i+1),g3,l++[(s.drop f).take (i-f)]),⟨Nat.succ_le_of_lt c2,Nat.le_refl _,by rw[wG,Nat.sub_self];rfl,by rw[AN,XC];simp,by rw[EJ,JE,eC];rfl⟩⟩ Ob)
  ·rw[if_neg c3] at wG;have e1:iA .eql .u8 ((s[i].toNat:Nat):Int) 10=some (.bool false):=IC (fun e=> c3 (UInt8.toNat_inj.1 (by show s[i].toNat=10;omega)));refine U27 ?_;refine Tc.db (ih ⟨((i+1,f),g,l),⟨Nat.succ_le_of_lt c2,Nat.le_trans hf (Nat.le_succ i),?_,XC,JE⟩⟩ Ob);show mA 10 (s.take (i+1))=l++[(s.drop f).take (i+1-f)];rw[wG]
   congr 2
   rw[show i+1-f=(i-f)+1 by omega,List.take_succ_eq_append_getElem (by rw[List.length_drop];omega),List.getElem_drop]
   congr 2
   congr 1
   omega
end
def LF.nms(t:LF):Prop:=∀x∈t.ls,x.1.length<=2000
theorem LF.aBE {t:LF}(h:t.nms){x:By}{r:Row}(hx:x.length<=2000)(hr:rowOf x=some r):(t.put r).nms:=by
 cases r with
 | TC a b=> exact h
 | xF a z x y=> exact h
 | line p q ws=>
  obtain⟨y,hP,_,_⟩:=BW hr;have:=qC 59 x p (by rw[hP];simp);intro z hz;rcases List.mem_append.1 hz with hz|hz
  ·exact h z hz
  ·simp only[List.mem_singleton] at hz;subst hz;show p.length<=2000;omega
theorem LF.aDq {t:LF}(h:t.nms):∀i,i<t.bk.nl->(t.bk.name i).length<=1000000:=fun i hi=> by
 have hi:i<t.ls.length:=hi;have:=h _ (List.getElem_mem hi);show((t.ls[i]?.getD ([],[],[])).1).length<=_;rw[List.getElem?_eq_getElem hi];simp only[Option.getD_some];omega
theorem aCm:∀l:List By,l.length<=wl l
 | []=> Nat.le_refl _
 | a::l=> by
  have:=aCm l;rw[UE,List.length_cons];omega
section
variable(M:Md prog)(H:View)
theorem BY(s:By)(hm:s.length<=2000):
  fA M 35 #[bA s] H (fun v H'=> H.le H'/\∃A lc B tc,v=.tuple ⟨[(BE s).1.val A lc B tc,.iz ((BE s).2.1:Nat),.iz (BE s).2.2]⟩/\QD H' (BE s).1 A lc B tc):=by
 have aCY:=fun H=> AY M H s oM;have GU:wl (xG s)<=s.length+1:=lR s;unfold BE;obtain⟨PF,hPF⟩:∃PF,PF=ZE (xG s) 0 dK:=⟨_,rfl⟩
 rw[<-hPF];generalize xG s=rows at aCY GU hPF;have hrl:=aCm rows;have yN:∀H':View,QD H' dK.bk none 0 none 0:=fun H'=> ⟨⟨Nat.le_refl _,.inl rfl⟩,⟨Nat.le_refl _,.inl rfl⟩⟩
 have aCU:JB H dK.bk none 0 none 0 (fun _=> none) (fun _=> 0):=⟨Nat.le_refl _,Nat.le_refl _,(Gl.nil 68 3).src (fun x hx=> nomatch hx),(Gl.nil 39 4).src (fun x hx=> nomatch hx),fun i hi=> absurd hi (Nat.not_lt_zero i),fun i hi=> absurd hi (Nat.not_lt_zero i)⟩
 by_cases c0:rows= []
 ·subst c0;have hP2:PF=.inl dK:=hPF;subst hP2;refine .en func35 ntmps35 fun St c cs hK=> ?_;refine U2 ?_;refine .al fun b2=> ?_;refine AJ ?_;refine .e (Or.xA Gl.val Gl.bl (fun g:Gl 9 1=> g.n=([]:List By).length/\g.l=zA []) rfl rfl rfl rfl rfl dE Gl.bG (fun H hs=> .h (aCY H)) (fun g hg=> ?_));refine U2 ?_;have YW:g.val=.slice (g.blk.map fun b=> ⟨b,0,none⟩) 0 g.cap:=by unfold Gl.val;rw[hg.1];rfl
  rw[YW];refine AJ ?_;refine .rt hK func35 results35 [_,_,_] ?_;exact fun H' hs=> ⟨hs.base,none,0,none,0,rfl,yN H'⟩
 ·have hlen : 1<=rows.length:=List.length_pos_iff.2 c0;refine .en func35 ntmps35 fun St c cs hK=> ?_;refine U2 ?_;refine .al fun b2=> ?_;refine AJ ?_;refine .e (Or.xA Gl.val Gl.bl (fun g:Gl 9 1=> g.n=rows.length/\g.l=zA rows) rfl rfl rfl rfl rfl dE Gl.bG (fun H hs=> .h (aCY H)) (fun g hg=> ?_));refine U2 ?_;obtain⟨XC,JE⟩:=hg;obtain⟨lb,hlb⟩:∃b,g.blk=some b:=by
   cases h:g.blk with
   | some b=> exact⟨b,rfl⟩
   | none=> have:=g.h0 h;have:=g.hc;omega
  have XW:=g.hc;rw[XC] at XW;have YW:g.val=.slice (some ⟨lb,0,none⟩) rows.length g.cap:=by unfold Gl.val;rw[hlb,XC];rfl
  have vJ:g.bl= [Bb lb (zA rows++g.jB) 9]:=by unfold Gl.bl;rw[hlb,JE]
  rw[YW,vJ];generalize g.cap=cap at XW;generalize g.jB=J;refine ND ?_;refine .al fun b6=> ?_;refine ND ?_;refine Tc.db (Tc.aK (σ:= { x:LF×Nat×View×Option Addr×Nat×Option Addr×Nat//x.2.1<=rows.length/\ZE (rows.drop x.2.1) x.2.1 x.1=PF/\x.1.Small (wl (rows.drop x.2.1))/\x.1.nms/\H.le x.2.2.1/\∃F fc,JB x.2.2.1 x.1.bk x.2.2.2.1 x.2.2.2.2.1 x.2.2.2.2.2.1 x.2.2.2.2.2.2 F fc }) (fun x=> (x.1.2.2.1,[(2,.pt b2),(5,.sl lb rows.length cap),(6,.pt b6),(7,.nt x.1.1.la),(8,.nt x.1.2.1)],[Bb b6 ((x.1.1.bk.val x.1.2.2.2.1 x.1.2.2.2.2.1 x.1.2.2.2.2.2.1 x.1.2.2.2.2.2.2).cells.toList) 45,Bb b2 [.iz 0,.iz 0,.slice none 0 0,.slice none 0 0] 45,Bb lb (zA rows++J) 9])) (fun x=> rows.length-x.1.2.1) ?_ ⟨(dK,0,H,none,0,none,0),Nat.zero_le _,hPF.symm,ZI (by show wl rows<=2001;omega),(fun x hx=> nomatch hx),View.le_refl _,(fun _=> none),(fun _=> 0),aCU⟩);rintro⟨⟨t,i,H₁,A,lc,B,tc⟩,hi,ZX,rP,j5,hle,F,fc,hB⟩ ih;simp only at hi ZX rP j5 hle hB;dsimp only;have x8:=rP.sum;by_cases c1:i=rows.length
  ·clear ih;subst c1;rw[List.drop_length] at ZX;have ZX:PF=.inl t:=ZX.symm;have NZ:=fun(H':View) (h:H₁.le H')=> lH M H' t.bk A lc B tc (hB.bk.le h) rP.bk (LF.aDq j5);subst ZX;simp only[if_neg c0] at hK;by_cases ha:t.bk.WA=0
   ·simp only[if_pos ha] at hK;rw[ha] at NZ;refine MF ?_;refine .cl (fun H hs=> NZ H hs.base) ?_;refine LI ?_;refine .rt hK func35 results35 [_,_,_] ?_;exact fun H' hs=> ⟨View.le_trans hle hs.base,A,lc,B,tc,rfl,(hB.le hs.base).bk⟩
   ·simp only[if_neg ha] at hK;have e2:iA .neq .i64 t.bk.WA 0=some (.bool true):=BI ha;generalize t.bk.WA=a at NZ e2 hK;refine MF ?_;refine .cl (fun H hs=> NZ H hs.base) ?_;refine LI ?_;refine .rt hK func35 results35 [_,_,_] ?_;exact fun H' hs=> ⟨View.le_trans hle hs.base,none,0,none,0,rfl,yN H'⟩
  ·have c2 : i<rows.length:=by omega
   have f1:=ZZ J (List.getElem?_eq_getElem c2);rw[List.drop_eq_getElem_cons c2] at ZX rP;rw[UE] at rP;generalize rows[i]=w at f1 ZX rP;have aBp:=rP.sum;have hwm:w.length<=1000000:=by omega
   have a1:iA .add .i64 ((i:Nat):Int) 1=some (.int .i64 ((i+1:Nat):Int)):=pB oM oM;refine JG ?_;cases hr:rowOf w with
   | none=>
    rw[LN _ _ _ hr] at ZX;subst ZX;refine Tc.aEP (fun H' R' L'=> H₁.le H'/\pC [(2,.pt b2),(7,.nt t.la),(8,.nt i),(10,.iz (-1))] R'/\List.Sublist [Bb b2 [.iz 0,.iz 0,.slice none 0 0,.slice none 0 0] 45] L') ?_ (fun fin=> ?_)
    rotate_left
    ·refine Tc.dr [10] [] mixed rfl ?_;refine .q 0 rfl (pA.load (E:=en) 0 rfl rfl rfl rfl rfl) ?_;refine V3 1 ?_;refine .q 4 rfl (pA.load (E:=en) 2 rfl rfl rfl rfl f1) ?_;refine Ta.qX 5 9 kR rfl rfl rfl rfl rfl rfl rfl dE (WB.h (o0 M H₁ t.bk A lc B tc w hwm hr)) (by intro _ _ hh;exact hh.1) sL (.inr sL) (fun v Hk hv=> ?_) (uJ.mk rfl rfl rfl (.al (zz:=fun b9=> ⟨S2.mk sL (.inr sL),?_⟩)))
     ·obtain⟨lek,rfl⟩:=hv;refine V2 6 ?_;refine .nw 8 ?_;refine .ea 9 rfl (.al (zz:=fun b9=> ⟨S2.bP lek sL (.inr sL),?_⟩));refine .ea 10 rfl (Or.storeT (E:=en) 0 rfl rfl rfl rfl rfl rfl rfl rfl rfl rfl rfl ⟨S2.bP lek sL (.inl kR),?_⟩);refine .nw 11 ?_;refine .dn ?_;exact fin _ _ _ ⟨lek,⟨rfl,rfl,rfl,rfl,trivial⟩,sL⟩
     ·refine Ta.WL 5 kR rfl rfl rfl rfl rfl rfl rfl dE (WB.h (o0 M H₁ t.bk A lc B tc w hwm hr)) (by intro _ _ hh;exact hh.1) sL (.inr sL) (fun v Hk hv=> ?_);obtain⟨lek,rfl⟩:=hv;refine V2 6 ?_;refine .nw 8 ?_;refine .ea 10 rfl (Or.storeT (E:=en) 0 rfl rfl rfl rfl rfl rfl rfl rfl rfl rfl rfl ⟨S2.bP lek sL (.inl kR),?_⟩);refine .nw 11 ?_;refine .dn ?_;exact fin _ _ _ ⟨lek,⟨rfl,rfl,rfl,rfl,trivial⟩,sL⟩
    rintro H3 R' L' ⟨le3,hR,hL⟩;refine Tc.yC ?_ hR hL;refine PO ?_;refine .rt hK func35 results35 [_,_,_] ?_;exact fun H' hs=> ⟨View.le_trans hle (View.le_trans le3 hs.base),none,0,none,0,rfl,yN H'⟩
   | some r=>
    have hnx:=aBA M H₁ t A lc B tc F fc hB rP.bk.nl rP.bk.nt w hwm r hr;have k8:=rP.put hr;have l5:=LF.aBE j5 oM hr;have aG7:(t.put r).la=r.kind:=by cases r <;> rfl
    have DU:r.kind<=2:=by cases r <;> simp[Row.kind]
    refine Tc.aEP (fun H' R' L'=> ∃A' lc' B' tc' F' fc' b9,H₁.le H'/\JB H' (t.put r).bk A' lc' B' tc' F' fc'/\pC [(2,.pt b2),(5,.sl lb rows.length cap),(6,.pt b6),(7,.nt t.la),(8,.nt i),(9,.pt b9),(10,.nt r.kind)] R'/\List.Sublist [Bb b9 (((t.put r).bk.val A' lc' B' tc').cells.toList) 45,Bb b6 ((t.bk.val A lc B tc).cells.toList) 45,Bb b2 [.iz 0,.iz 0,.slice none 0 0,.slice none 0 0] 45,Bb lb (zA rows++J) 9] L') ?_ (fun fin=> ?_)
    rotate_left
    ·refine Tc.dr [10] [] mixed rfl ?_;refine .q 0 rfl (pA.load (E:=en) 0 rfl rfl rfl rfl rfl) ?_;refine V3 1 ?_;refine .q 4 rfl (pA.load (E:=en) 2 rfl rfl rfl rfl f1) ?_;refine Ta.qX 5 9 kR rfl rfl rfl rfl rfl rfl rfl dE (WB.h (hnx)) (by intro _ _ hh;exact hh.1) sL (.inr sL) (fun v Hk hv=> ?_) (uJ.mk rfl rfl rfl (.al (zz:=fun b9=> ⟨S2.mk sL (.inr sL),?_⟩)))
     ·obtain⟨lek,A3,lc3,B3,tc3,F3,fc3,rfl,hO⟩:=hv;refine V2 6 ?_;refine .nw 8 ?_;refine .ea 9 rfl (.al (zz:=fun b9=> ⟨S2.bP lek sL (.inr sL),?_⟩));refine .ea 10 rfl (Or.storeT (E:=en) 0 rfl rfl rfl rfl rfl rfl rfl rfl rfl rfl rfl ⟨S2.bP lek sL (.inl kR),?_⟩);refine .nw 11 ?_;refine .dn ?_;exact fin _ _ _ ⟨A3,lc3,B3,tc3,F3,fc3,b9,lek,hO,⟨rfl,rfl,rfl,rfl,rfl,rfl,rfl,trivial⟩,sL⟩
     ·refine Ta.WL 5 kR rfl rfl rfl rfl rfl rfl rfl dE (WB.h (hnx)) (by intro _ _ hh;exact hh.1) sL (.inr sL) (fun v Hk hv=> ?_);obtain⟨lek,A3,lc3,B3,tc3,F3,fc3,rfl,hO⟩:=hv;refine V2 6 ?_;refine .nw 8 ?_;refine .ea 10 rfl (Or.storeT (E:=en) 0 rfl rfl rfl rfl rfl rfl rfl rfl rfl rfl rfl ⟨S2.bP lek sL (.inl kR),?_⟩);refine .nw 11 ?_;refine .dn ?_;exact fin _ _ _ ⟨A3,lc3,B3,tc3,F3,fc3,b9,lek,hO,⟨rfl,rfl,rfl,rfl,rfl,rfl,rfl,trivial⟩,sL⟩
    rintro H3 R' L' ⟨A3,lc3,B3,tc3,F3,fc3,b9,le3,hO,hR,hL⟩;refine Tc.yC ?_ hR hL;clear hR hL;cases hf:HE i t.la r with
    | true=>
     rw[EI _ _ _ hr hf] at ZX;unfold HE at hf;rw[Bool.and_eq_true] at hf;have h1:=of_decide_eq_true hf.2;have h2:(r.kind==0)=(i==0):=by simpa using hf.1
     have e1:iA .lss .i64 ((r.kind:Nat):Int) ((t.la:Nat):Int)=some (.bool false):=GH oM;have vG:=ih ⟨(t.put r,i+1,H3,A3,lc3,B3,tc3),by simp only;omega,ZX,k8,l5,View.le_trans hle le3,F3,fc3,hO⟩ Ob;simp only[aG7] at vG;generalize (t.put r).bk=k3 at vG hO;by_cases c3:i=0
     ·have c4:r.kind=0:=by rw[c3] at h2;simpa using h2
      have e4:iA .eql .i64 ((r.kind:Nat):Int) 0=some (.bool true):=wE oM;have e5:iA .eql .i64 ((i:Nat):Int) 0=some (.bool true):=wE oM;refine U28 ?_;exact Tc.db (vG)
     ·have c4:r.kind≠0:=fun e=> by rw[e] at h2;exact c3 (by simpa using h2.symm)
      have e4:iA .eql .i64 ((r.kind:Nat):Int) 0=some (.bool false):=IC oM;have e5:iA .eql .i64 ((i:Nat):Int) 0=some (.bool false):=IC oM;refine U28 ?_;exact Tc.db (vG)
    | false =>
     rw[iF _ _ _ hr hf] at ZX;subst ZX;by_cases c5:t.la<=r.kind
     ·have e1:iA .lss .i64 ((r.kind:Nat):Int) ((t.la:Nat):Int)=some (.bool false):=GH oM;unfold HE at hf;rw[decide_eq_true c5,Bool.and_true] at hf;by_cases c3:i=0
      ·have c4:r.kind≠0:=fun e=> by rw[e,c3] at hf;cases hf
       have e4:iA .eql .i64 ((r.kind:Nat):Int) 0=some (.bool false):=IC oM;have e5:iA .eql .i64 ((i:Nat):Int) 0=some (.bool true):=wE oM;refine PO ?_;refine .rt hK func35 results35 [_,_,_] ?_;exact fun H' hs=> ⟨View.le_trans hle (View.le_trans le3 hs.base),none,0,none,0,rfl,yN H'⟩
      ·have c4:r.kind=0:=by
        rw[beq_eq_false_iff_ne.2 c3] at hf;simpa using hf
       have e4:iA .eql .i64 ((r.kind:Nat):Int) 0=some (.bool true):=wE oM;have e5:iA .eql .i64 ((i:Nat):Int) 0=some (.bool false):=IC oM;refine PO ?_;refine .rt hK func35 results35 [_,_,_] ?_;exact fun H' hs=> ⟨View.le_trans hle (View.le_trans le3 hs.base),none,0,none,0,rfl,yN H'⟩
     ·have e1:iA .lss .i64 ((r.kind:Nat):Int) ((t.la:Nat):Int)=some (.bool true):=xO oM;refine PO ?_;refine .rt hK func35 results35 [_,_,_] ?_;exact fun H' hs=> ⟨View.le_trans hle (View.le_trans le3 hs.base),none,0,none,0,rfl,yN H'⟩
end
theorem eY(y:UInt8)(l:List By)(p:By):eD y (l++[p])=if l= [] then p else eD y l++[y]++p:=by
 cases l with
 | nil=> simp[eD]
 | cons a l=> simp[eD]
section
variable(M:Md prog)(H:View)
theorem IZ(A:Option Addr)(ac:Nat)(P:List By)(hA:ZB H A P.length (fun i=> P[i]?.getD []))(y:UInt8)(hm:P.length+gD P<=900000):
  fA M 174 #[.slice A P.length ac,bA [y]] H (Ib H (bA (eD y P))):=by
 refine .en func174 ntmps174 fun St c cs hK=> ?_;refine MF ?_;refine Tc.db (Tc.qA (σ:= { i:Nat//i<=P.length }) (fun i=> ([(0,.slice A P.length ac),(1,bA [y]),(5,bA (eD y (P.take i.1))),(6,.nt i.1)],[])) (fun i=> P.length-i.1) ?_ ⟨0,Nat.zero_le _⟩);rintro⟨i,hi⟩ ih;dsimp only;by_cases c1:i=P.length
 ·clear ih;subst c1;rw[List.take_length];refine AJ ?_;refine .rt hK func174 results174 [_] ?_;exact okB
 ·have c2:i<P.length:=by omega
  obtain h0|⟨ab,ao,f,gs,gt,gz,rfl,hb,hl⟩:=hA
  ·omega
  have f1:=hl i c2;simp only at f1;rw[List.getElem?_eq_getElem c2] at f1;have uG:P[i]? =some P[i]:=List.getElem?_eq_getElem c2;have BN:=AS uG;have rO:=L0 P (i+1);have hj:=YJ y (P.take i);rw[List.length_take] at hj;have wG:=eY y (P.take i) P[i];rw[<-List.take_succ_eq_append_getElem c2] at wG;simp only[Option.getD_some] at f1;have hy1:([y]:By).length=1:=rfl;generalize P[i]=w at f1 BN wG;by_cases c3:i=0
  ·subst c3;rw[List.take_zero,if_pos rfl] at wG;rw[List.take_zero];have e1:RL.LB .add (eD y []) w=some (bA w):=UB (l:= []) (m:=w) (by rw[List.length_nil];omega);refine U35 ?_;refine Tc.yC (ih ⟨1,oM⟩ Ob) (by rw[show P.take (⟨1,oM⟩: { i:Nat//i<=P.length }).1=P.take (0+1) from rfl,wG];refine⟨rfl,?_⟩;refine⟨rfl,?_⟩;refine⟨rfl,?_⟩;refine⟨rfl,?_⟩;exact trivial) sL
  ·have aB:P.take i≠ []:=fun e=> by
    have:=congrArg List.length e;rw[List.length_take,List.length_nil] at this;omega
   rw[if_neg aB] at wG;have g1:iA .gtr .i64 ((i:Nat):Int) 0=some (.bool true):=tG oM;generalize eD y (P.take i)=t at hj wG;have RZ:(t++[y]).length=t.length+1:=by simp
   refine o6 ?_;refine .x (pA.LB rfl rfl rfl (by exact UB oM)) ?_;refine U8 ?_;refine .x (pA.LB rfl rfl rfl (by exact UB oM)) ?_;refine U8 ?_;refine Tc.yC (ih ⟨i+1,oM⟩ Ob) (by rw[show P.take (⟨i+1,oM⟩: { i:Nat//i<=P.length }).1=P.take (i+1) from rfl,wG];refine⟨rfl,?_⟩;refine⟨rfl,?_⟩;refine⟨rfl,?_⟩;refine⟨rfl,?_⟩;exact trivial) sL
theorem aT(A:Option Addr)(ac:Nat)(P:List By)(hA:ZB H A P.length (fun i=> P[i]?.getD []))(aB:P≠ [])(hm:P.length+gD P<=900000):
  fA M 99 #[.slice A P.length ac] H (Ib H (bA (eD 44 P))):=by
 have hg:=fun(H':View) (h:H.le H')=> IZ M H' A ac P (hA.le h) 44 hm;have uI:1<=P.length:=List.length_pos_iff.2 aB;generalize eD 44 P=t at hg;refine .en func99 ntmps99 fun St c cs hK=> ?_;refine LI ?_;refine .cl (fun H hs=> hg H hs.base) ?_;refine U2 ?_;refine .rt hK func99 results99 [_] ?_;exact okB
theorem LJ(w:By)(A:Option Addr)(ac:Nat)(P:List By)(hA:ZB H A P.length (fun i=> P[i]?.getD []))(aB:P≠ [])(hw:w.length<=1000)(hm:P.length+gD P<=900000):
  fA M 96 #[bA w,.slice A P.length ac] H (Ib H (bA (BF (w::P)))):=by
 have hg:=fun(H':View) (h:H.le H')=> IZ M H' A ac P (hA.le h) 59 hm;have hj:=YJ 59 P;have e:BF (w::P)=w++[59]++eD 59 P++[10]:=by
  unfold BF;cases P with
  | nil=> exact(aB rfl).elim
  | cons a l=> simp[eD]
 rw[e];generalize eD 59 P=t at hg hj;have l1:(w++[59]).length=w.length+1:=by simp
 have l2:(w++[59]++t).length=w.length+1+t.length:=by simp;omega
 have l3:([59]:By).length=1:=rfl;have l4:([10]:By).length=1:=rfl;refine .en func96 ntmps96 fun St c cs hK=> ?_;refine U7 ?_;refine .x (pA.LB rfl rfl rfl (by exact UB oM)) ?_;refine U ?_;refine .cl (fun H hs=> hg H hs.base) ?_;refine .x (pA.LB rfl rfl rfl (by exact UB oM)) ?_;refine .x (pA.LB rfl rfl rfl (by exact UB oM)) ?_;refine U2 ?_;refine .rt hK func96 results96 [_] ?_;exact okB
end
end Go.Proofs.YtldmfjcgjdchcaaGreatDoor
namespace Go.RL
section
variable {P:Program}{M:Md P}{St:View->Goroutine->Prop}{n:Nat}{b:FB}{H₀:View}{cs:List Frame}{R:Rg}{L:Bl}{ds:List Deferred}{k:List Item}{ops:Array Oper}
theorem Tc.drK {id:Nat}{fuel:Nat}(B:List Nat)(m:Nat)(hm:P.follows .mixedOrders=true)(hf:ops.size=fuel)(h:Ta M St n b H₀ cs (S2 H₀ B (L.take m) L) .any ops fuel (Array.replicate fuel false) R L ds k):
  Tc M St n b H₀ cs R L ds (.code (.region id ops true)::k):=fun H tmps hs hr=> by
 subst hf;refine .ZD fun t=> ?_;simp only[Region.schedule,hm,Bool.true_or,if_true];have hS:=S2.mk (H₀:=H₀) (B:=B) (listed:=Array.replicate ops.size false) (List.take_sublist m L) (.inr (List.Sublist.refl L)) H hs;exact(h H tmps hs hr hS).sound _ t _ _ _ hS
end
end Go.RL
