/-
 Texts of the proofs over baudot/dial.
-/
import Derived.Test.YtldmfjcgjdchcaaGreatDoorJ09
namespace Go.Proofs.YtldmfjcgjdchcaaGreatDoor.Sg
open Go.RL Go.Proofs.Tryz
set_option maxHeartbeats 8000000
set_option maxRecDepth 10000
def YI(code place:Nat):Nat:=if place=0 then 0 else if place=6 then 1 else code/2 ^ (place-1)%2
def nD(v first:Nat):Nat:=v ^^^ (128-2 ^ first)
def YF(v:Nat):Option Nat:=if v%2=0/\v/64%2=1 then some (v/2%32) else none
theorem jS:∀c:Nat,c<32->∀p:Nat,p<7->p≠0->p≠6->OI .and .i64 (Int.fdiv (c:Int) (2 ^ (min ((p:Int)-1).toNat 64))) 1=(YI c p:Nat):=by decide +kernel
theorem KV:∀v:Nat,v<128->∀f:Nat,f<8->OI .xor .u8 (v:Int) (OI .andNot .u8 127 (IntKind.u8.wrap (IntKind.u8.wrap (1*2 ^ (min (f:Int).toNat 8))-1)))=(nD v f:Nat):=by decide +kernel
theorem LQ:∀v:Nat,v<128->OI .and .u8 (v:Int) 1=((v%2:Nat):Int):=by decide +kernel
theorem qW:∀v:Nat,v<128->OI .and .u8 (v:Int) 31=((v%32:Nat):Int):=by decide +kernel
theorem DV:∀v:Nat,v<128->∀k:Nat,k<7->Int.fdiv (v:Int) (2 ^ (min (k:Int).toNat 8))=((v/2 ^ k:Nat):Int):=by decide +kernel
section
variable(M:Md prog)(H:View)
theorem BZ(code place:Nat)(h1:code<32)(h2:place<7):aA M 229 #[.int .i64 code,.int .i64 place] H (fun v H'=> H.le H'/\v=.int .i64 (YI code place:Nat)):=by
 refine .en func229 ntmps229 fun St c cs hK=> ?_;by_cases c1:place=0
 ·subst c1;refine QR ?_;refine .rt hK func229 results229 [_] ?_;exact okB
 ·by_cases c2:place=6
  ·subst c2;refine U26 ?_;refine .rt hK func229 results229 [_] ?_;exact okB
  ·have hb:=jS code h1 place h2 c1 c2;refine U29 ?_;refine .x .sf ?_;refine U3 ?_;refine .rt hK func229 results229 [_] ?_;exact fun H' hs=> ⟨hs.base,by simp only[oC];rw[<-hb];rfl⟩
theorem P7(v first:Nat)(h1:v<128)(h2:first<8):aA M 77 #[.int .u8 v,.int .i64 first] H (fun r H'=> H.le H'/\r=.int .u8 (nD v first:Nat)):=by
 refine .en func77 ntmps77 fun St c cs hK=> ?_;have hb:=KV v h1 first h2;refine U8 ?_;refine .x .sf ?_;refine U5 ?_;refine .rt hK func77 results77 [_] ?_;exact fun H' hs=> ⟨hs.base,by simp only[oC];rw[<-hb];rfl⟩
theorem Y6(v:Nat)(h1:v<128):aA M 79 #[.int .u8 v] H (fun r H'=> H.le H'/\r=(match YF v with|some n=> .tuple ⟨[.int .i64 (n:Nat),.bool true]⟩|none=> .tuple ⟨[.int .i64 0,.bool false]⟩)):=by
 refine .en func79 ntmps79 fun St c cs hK=> ?_;have e1:rA .and .u8 (v:Int) 1=some (.int .u8 ((v%2:Nat):Int)):=by simp only[rA,LQ v h1]
 have e2:qC .shr .u8 (v:Int) 6=some (.int .u8 ((v/64:Nat):Int)):=by simp only[qC];exact congrArg (fun z=> some (Value.int .u8 z)) (DV v h1 6 oM)
 have e3:rA .and .u8 ((v/64:Nat):Int) 1=some (.int .u8 ((v/64%2:Nat):Int)):=by simp only[rA,LQ (v/64) oM]
 have e4:qC .shr .u8 (v:Int) 1=some (.int .u8 ((v/2:Nat):Int)):=by simp only[qC];exact congrArg (fun z=> some (Value.int .u8 z)) (DV v h1 1 oM)
 have e5:rA .and .u8 ((v/2:Nat):Int) 31=some (.int .u8 ((v/2%32:Nat):Int)):=by simp only[rA,qW (v/2) oM]
 have e6:IntKind.i64.wrap ((v/2%32:Nat):Int)=((v/2%32:Nat):Int):=wrap64 oM oM;by_cases c1:v%2=0
 ·by_cases c2:v/64%2=1
  ·refine ZF ?_;refine .x .sf ?_;refine U9 ?_;refine .x .sf ?_;refine U5 ?_;refine .rt hK func79 results79 [_,_] ?_;exact fun H' hs=> ⟨hs.base,by simp[oC,YF,c1,c2]⟩
  ·refine ZF ?_;refine .x .sf ?_;refine UC ?_;refine .rt hK func79 results79 [_,_] ?_;exact fun H' hs=> ⟨hs.base,by simp[oC,YF,c2]⟩
 ·refine U24 ?_;refine .rt hK func79 results79 [_,_] ?_;exact fun H' hs=> ⟨hs.base,by simp[oC,YF,c1]⟩
end
def mO(code place:Nat):Nat:=if place=0 then 1 else YI code (place-1)
def gA(code:Nat):Nat->List Nat
 | 0=> []
 | p+1=> if YI code p=mO code p then gA code p else gA code p++[p]
def JC(ps:List Nat):List Value:=(ps.zipIdx.map fun x=> [Value.int .i64 (x.1:Nat),Value.int .i64 (x.2:Nat)]).flatten
theorem SO(ps:List Nat)(p:Nat):JC (ps++[p])=JC ps++[.int .i64 (p:Nat),.int .i64 (ps.length:Nat)]:=by
 unfold JC;rw[List.zipIdx_append];simp
theorem RS(code p:Nat):(gA code p).length<=p:=by
 induction p with
 | zero=> simp[gA]
 | succ p ih=>
  unfold gA;split
  ·omega
  ·simp;omega
section
variable(M:Md prog)(H:View)
theorem vX(code:Nat)(h1:code<32):aA M 152 #[.int .i64 code] H (fun v H'=> H.le H'/\∃g:Gl 270 2,v=.agg ⟨[.int .i64 code,g.val]⟩/\g.n=(gA code 7).length/\g.l=JC (gA code 7)/\∀x∈g.bl,H' x.1=some x.2/\H x.1=none):=by
 refine .en func152 ntmps152 fun St c cs hK=> ?_;refine U2 ?_;refine .al fun b2=> ?_;refine U5 ?_;refine .al fun b3=> ?_;refine SE ?_;refine Tc.db (Tc.sA (σ:= { s:Nat×Gl 270 2//s.1<=7/\s.2.n=(gA code s.1).length/\s.2.l=JC (gA code s.1) })
  (fun s=> ([(9,.int .i64 (s.1.1:Nat)),(4,.int .i64 (mO code s.1.1:Nat)),(0,.int .i64 code),(2,.pointer (some ⟨b2,0,none⟩)),(3,.pointer (some ⟨b3,0,none⟩))],
   (b3,true,.cells ⟨[.int .i64 code,s.1.2.val]⟩ 135 (0,0))::(b2,true,.cells ⟨[.int .i64 0,.slice none 0 0]⟩ 135 (0,0))::s.1.2.bl)) (fun s=> 7-s.1.1) ?_ ⟨(0,Gl.nil 270 2),by simp,rfl,rfl⟩)
 rintro⟨⟨p,g⟩,g1,g2,g3⟩ ih;simp only at g1 g2 g3;have hlen:=RS code p;show Tc M St _ _ _ _ [(9,.int .i64 (p:Nat)),(4,.int .i64 (mO code p:Nat)),(0,.int .i64 code),(2,.pointer (some ⟨b2,0,none⟩)),(3,.pointer (some ⟨b3,0,none⟩))]
   ((b3,true,.cells ⟨[.int .i64 code,g.val]⟩ 135 (0,0))::(b2,true,.cells ⟨[.int .i64 0,.slice none 0 0]⟩ 135 (0,0))::g.bl) _ _
 by_cases c7:p=7
 ·subst c7;refine SE ?_;refine .rt hK func152 results152 [_] ?_;refine fun H' hs=> ⟨hs.base,g,rfl,g2,g3,fun x hx=> ⟨hs.at_ x ?_,hs.out x ?_⟩⟩
  ·exact List.mem_cons_of_mem _ (List.mem_cons_of_mem _ hx)
  ·exact List.mem_cons_of_mem _ (List.mem_cons_of_mem _ hx)
 ·have c8:p<7:=by omega
  refine hY ?_;refine .cl (fun H hs=> BZ M H code p h1 c8) ?_;refine U4 ?_;by_cases he:YI code p=mO code p
  ·refine lN ?_;exact Tc.db (ih ⟨(p+1,g),by simp only;omega,by simp only[gA,he,if_true];exact g2,by simp only[gA,he,if_true];exact g3⟩ (by simp only;omega))
  ·refine lF ?_;refine .e (.bs (zz:=fun bs=> ?_));refine .e (Or.append (E:=en) 3 rfl rfl rfl rfl rfl rfl rfl rfl rfl rfl rfl rfl rfl rfl rfl (fun H hs=> UA.of (hs.get (i:=0) rfl) (Nat.le_of_ble_eq_true rfl)) rfl oM rfl dE (fun g' hn hl=> ?_));refine SE ?_;exact Tc.db (ih ⟨(p+1,g'),by simp only;omega,by simp only[gA,he,if_false];rw[hn,g2];simp,by simp only[gA,he,if_false];rw[hl,g3,SO];rw[g2];rfl⟩ (by simp only;omega))
end
section
variable(M:Md prog)(H:View)
end
def AG(p:Nat->Bool)(k:Nat):List Value:=((List.range k).filter p).map fun i=> .int .i64 (i:Nat)
section
variable(M:Md prog)(H:View)
theorem D3(a b:Int)(fv:Value)(J:Int->View->Prop)(D:View->Prop)(ha: -1000000000<=a)(hb:b<=1000000000)(h0:J a H)
  (hy:∀i H',a<=i->i<=b->J i H'->CB M fv [.int .i64 i] H' fun v H''=> (v=.bool true/\J (i+1) H'')\/(v=.bool false/\D H'')):
  aA M 154 #[YB a b,fv] H (fun _ H'=> ∃H₁,H₁.le H'/\((∃i,b<i/\a<=i/\(i=a\/i=b+1)/\J i H₁)\/D H₁)):=by
 refine .en func154 ntmps154 fun St c cs hK=> ?_;refine U2 ?_;refine .bo fun b1=> ?_;refine U8 ?_;refine Tc.db (Tc.rI (σ:= { s:Int×View//a<=s.1/\(s.1=a\/s.1<=b+1)/\J s.1 s.2 })
  (fun s=> (s.1.2,[(4,.int .i64 s.1.1),(1,fv),(2,.pointer (some ⟨b1,0,none⟩))],[(b1,true,.cells ⟨[.int .i64 a,.int .i64 b]⟩ 257 (0,0))])) (fun s=> (b+1-s.1.1).toNat) ?_ ⟨(a,H),by simp,by simp,h0⟩)
 rintro⟨⟨i,H₁⟩,g1,g2,g3⟩ ih;simp only at g1 g2 g3;show Tc M St _ _ H₁ _ [(4,.int .i64 i),(1,fv),(2,.pointer (some ⟨b1,0,none⟩))] [(b1,true,.cells ⟨[.int .i64 a,.int .i64 b]⟩ 257 (0,0))] _ _;by_cases c1:i<=b
 ·refine lN ?_;refine To.sB rfl rfl rfl rfl rfl rfl dE (hy i H₁ g1 c1 g3) (fun v H₂ hv=> ?_);rcases hv with ⟨rfl,hv⟩|⟨rfl,hv⟩
  ·refine UC ?_;exact Tc.db (ih ⟨(i+1,H₂),by simp only;omega,by simp only;omega,hv⟩ (by simp only;omega))
  ·refine U3 ?_;refine .rt hK func154 results154 [] ?_;exact fun H' hs=> ⟨H₂,hs.base,.inr hv⟩
 ·refine UC ?_;refine .ov hK func154 results154 [] ?_;exact fun H' hs=> ⟨H₁,hs.base,.inl ⟨i,oM,g1,oM,g3⟩⟩
end
def jA(l:List Int):List Value:=l.map fun x=> .int .i64 x
def UK(l:List Int):Value:=.agg ⟨jA l⟩
def YA(l:List Int)(k:Nat):List Int:=l.zipIdx.map fun x=> if x.2<k then x.1-l.headD 0 else x.1
theorem uA(l:List Int):(jA l).length=l.length:=by simp[jA]
theorem ID(l:List Int)(k:Nat):(YA l k).length=l.length:=by simp[YA]
theorem SG {l:List Int}{k i:Nat}{x:Int}(h:l[i]? =some x):(YA l k)[i]? =some (if i<k then x-l.headD 0 else x):=by
 simp[YA,h]
theorem RJ {l:List Int}{i:Nat}{x:Int}(h:l[i]? =some x):(jA l)[i]? =some (.int .i64 x):=by simp[jA,h]
theorem fI(l:List Value)(i:Nat)(v:Value)(h:i<l.length):yE l i [v]=l.set i v:=by
 unfold yE;rw[List.set_eq_take_append_cons_drop,if_pos h];simp
theorem six {l:List Int}(h:l.length=6):∃a b c d e f,l= [a,b,c,d,e,f]:=by
 match l,h with
 | [a,b,c,d,e,f],_=> exact⟨a,b,c,d,e,f,rfl⟩
theorem SR {l:List Int}{k:Nat}{x:Int}(h:l[k]? =some x):yE (jA (YA l k)) k [.int .i64 (x-l.headD 0)]=jA (YA l (k+1)):=by
 have hk:k<l.length:=(List.getElem?_eq_some_iff.1 h).1;rw[fI _ _ _ (by rw[uA,ID];exact hk)];apply List.ext_getElem?
 intro i;by_cases e:k=i
 ·subst e;rw[List.getElem?_set_self (by rw[uA,ID];exact hk),RJ (SG h),if_pos oM]
 ·rw[List.getElem?_set_ne e];cases hx:l[i]? with
  | none=>
   have h1:l.length<=i:=List.getElem?_eq_none_iff.1 hx;rw[List.getElem?_eq_none (by rw[uA,ID];exact h1),List.getElem?_eq_none (by rw[uA,ID];exact h1)]
  | some y=>
   rw[RJ (SG hx),RJ (SG hx)];by_cases e2:i<k
   ·rw[if_pos e2,if_pos oM]
   ·rw[if_neg e2,if_neg oM]
section
variable(M:Md prog)(H:View)
theorem TR(l:List Int)(many:Nat)(h6:l.length=6)(hm:many<=6)(hb:∀x∈l, -1000000000<=x/\x<=1000000000):aA M 76 #[UK l,.int .i64 many] H (fun v H'=> H.le H'/\v=UK (YA l many)):=by
 refine .en func76 ntmps76 fun St c cs hK=> ?_;obtain⟨x0,l',rfl⟩:∃x l',l=x::l':=by
  cases l with
  | nil=> cases h6
  | cons x l'=> exact⟨x,l',rfl⟩
 have z0:YA (x0::l') 0=x0::l':=by
  unfold YA;simp
 have hx0:=hb x0 (by simp);refine U2 ?_;refine .bo fun b2=> ?_;refine .al fun b4=> ?_;refine lF ?_;refine Tc.db (Tc.sA (σ:= { s:Nat×List Int//s.1<=many/\s.2=YA (x0::l') s.1 })
  (fun s=> ([(10,.int .i64 (s.1.1:Nat)),(9,.int .i64 many),(5,.int .i64 x0),(2,.pointer (some ⟨b2,0,none⟩)),(4,.pointer (some ⟨b4,0,none⟩))],
   [(b4,true,.cells ⟨[.int .i64 0,.int .i64 0,.int .i64 0,.int .i64 0,.int .i64 0,.int .i64 0]⟩ 139 (0,0)),(b2,true,.cells ⟨jA s.1.2⟩ 139 (0,0))])) (fun s=> many-s.1.1) ?_ ⟨(0,x0::l'),by simp,z0.symm⟩)
 rintro⟨⟨k,cur⟩,g1,g2⟩ ih;simp only at g1 g2;have yB:(jA cur).length=6:=by rw[uA,g2,ID];exact h6
 show Tc M St _ _ _ _ [(10,.int .i64 (k:Nat)),(9,.int .i64 many),(5,.int .i64 x0),(2,.pointer (some ⟨b2,0,none⟩)),(4,.pointer (some ⟨b4,0,none⟩))]
   [(b4,true,.cells ⟨[.int .i64 0,.int .i64 0,.int .i64 0,.int .i64 0,.int .i64 0,.int .i64 0]⟩ 139 (0,0)),(b2,true,.cells ⟨jA cur⟩ 139 (0,0))] _ _
 by_cases c1:k=many
 ·subst c1;obtain⟨y0,y1,y2,y3,y4,y5,hy⟩:=six (show cur.length=6 by rw[<-uA];exact yB);subst hy;refine SE ?_;refine .rt hK func76 results76 [_] ?_;exact fun H' hs=> ⟨hs.base,by rw[<-g2];rfl⟩
 ·have c2:k<many:=by omega
  obtain⟨x,hx⟩:∃x,(x0::l')[k]? =some x:=⟨_,List.getElem?_eq_getElem (by rw[h6];omega)⟩
  have hxb:=hb x (List.mem_of_getElem? hx);have hcx:cur[k]? =some x:=by rw[g2,SG hx,if_neg oM]
  have f1:BC false 1 (jA cur) (0+(k:Int).toNat*1)=some (.int .i64 x):=by
   show(jA cur)[0+(k:Int).toNat*1]? =_;rw[show 0+(k:Int).toNat*1=k by simp];exact RJ hcx
  have f2:yE (jA cur) (0+(k:Int).toNat*1) [.int .i64 (x-x0)]=jA (YA (x0::l') (k+1)):=by
   rw[show 0+(k:Int).toNat*1=k by simp,g2];exact SR hx
  have f3:Nat.ble (0+(k:Int).toNat*1+1) (jA cur).length=true:=Nat.ble_eq_true_of_le (by rw[yB];simp;omega);refine U28 ?_;exact Tc.db (ih ⟨(k+1,YA (x0::l') (k+1)),by simp only;omega,rfl⟩ (by simp only;omega))
end
def aF(place number send lean:Int):Int:=2*place*send+if number%2=0 then -lean else lean
def seenAt(ps:List Nat)(mv:List Int)(send lean:Int)(i:Nat):Int:=aF ((ps[i]?.getD 0:Nat):Int) i send lean+mv[i]?.getD 0
def JE(ps:List Nat)(mv:List Int)(send lean:Int)(k:Nat):List Int:=(List.range 6).map fun i=> if i<k then seenAt ps mv send lean i else 0
theorem QD(ps:List Nat)(mv:List Int)(send lean:Int)(k:Nat):(JE ps mv send lean k).length=6:=by simp[JE]
theorem yV {ps:List Nat}{mv:List Int}{send lean:Int}{k:Nat}(hk:k<6):yE (jA (JE ps mv send lean k)) k [.int .i64 (seenAt ps mv send lean k)]=jA (JE ps mv send lean (k+1)):=by
 rw[fI _ _ _ (by rw[uA,QD];exact hk)];apply List.ext_getElem?
 intro i;by_cases e:k=i
 ·subst e;rw[List.getElem?_set_self (by rw[uA,QD];exact hk)];simp[jA,JE,hk]
 ·rw[List.getElem?_set_ne e];by_cases hi:i<6
  ·simp only[jA,JE,List.getElem?_map,List.getElem?_range hi,Option.map_some];by_cases e2:i<k
   ·rw[if_pos e2,if_pos oM]
   ·rw[if_neg e2,if_neg oM]
  ·rw[List.getElem?_eq_none (by rw[uA,QD];omega),List.getElem?_eq_none (by rw[uA,QD];omega)]
section
variable(M:Md prog)(H:View)
theorem YJ(place number send lean:Int)(h1:0<=place)(h2:place<=6)(h3:0<=number)(h4:0<=send)(h5:send<=1000)(h6: -1000<=lean)(h7:lean<=1000):
  aA M 162 #[.agg ⟨[.int .i64 place,.int .i64 number]⟩,.int .i64 send,.int .i64 lean] H (fun v H'=> H.le H'/\v=.int .i64 (aF place number send lean)):=by
 refine .en func162 ntmps162 fun St c cs hK=> ?_;have h8:0<=2*place*send:=Int.mul_nonneg oM h4;have h9:2*place*send<=12*1000:=Int.mul_le_mul oM h5 h4 oM;refine U2 ?_;refine .bo fun b1=> ?_;refine U2 ?_;by_cases h:number%2=0
 ·refine U5 ?_;refine .i ?_ (z:=rem_in oM oM);refine U5 ?_;refine .x .ng ?_;refine U6 ?_;refine .i ?_ (z:=RB oM oM);refine U ?_;refine .i ?_ (z:=RB oM oM);refine U4 ?_;refine .rt hK func162 results162 [_] ?_;exact fun H' hs=> ⟨hs.base,by simp[oC,aF,h] <;> omega⟩
 ·refine U5 ?_;refine .i ?_ (z:=rem_in oM oM);refine U8 ?_;refine .i ?_ (z:=RB oM oM);refine U ?_;refine .i ?_ (z:=RB oM oM);refine U4 ?_;refine .rt hK func162 results162 [_] ?_;exact fun H' hs=> ⟨hs.base,by simp[oC,aF,h] <;> omega⟩
theorem HG {place number send lean:Int}(h1:0<=place)(h2:place<=6)(h4:0<=send)(h5:send<=1000)(h6: -1000<=lean)(h7:lean<=1000): -1000<=aF place number send lean/\aF place number send lean<=13000:=by
 have h8:0<=2*place*send:=Int.mul_nonneg oM h4;have h9:2*place*send<=12*1000:=Int.mul_le_mul oM h5 h4 oM;unfold aF;split <;> omega
theorem m7(code send read lean:Int)(ps:List Nat)(mv:List Int)(eb eo ec vb vo vc:Nat)(f1 f2:Bool)(es vs:List Value)(et vt:TypeId)(ez vz:Nat×Nat)
  (hE:H eb=some (f1,.cells ⟨es⟩ et ez)) (SW:∀i:Nat,i<ps.length->BC true 2 es (eo+i*2)=some (.agg ⟨[.int .i64 ((ps[i]?.getD 0:Nat):Int),.int .i64 (i:Nat)]⟩))
  (hV:H vb=some (f2,.cells ⟨vs⟩ vt vz)) (hV2:∀i:Nat,i<ps.length->BC false 1 vs (vo+i*1)=some (.int .i64 (mv[i]?.getD 0)))
  (hp:ps.length<=6) (vQ:∀i:Nat,i<ps.length->ps[i]?.getD 0<=6) (hmv:∀i:Nat, -1000<=mv[i]?.getD 0/\mv[i]?.getD 0<=1000) (h4:0<=send) (h5:send<=1000) (h6: -1000<=lean) (h7:lean<=1000) (ml:Nat) (HM:ps.length<=ml):
  aA M 75 #[.agg ⟨[.int .i64 code,.slice (some ⟨eb,eo,none⟩) ps.length ec]⟩,.agg ⟨[.int .i64 send,.int .i64 read,.int .i64 lean,.slice (some ⟨vb,vo,none⟩) ml vc]⟩] H (fun v H'=> H.le H'/\v=UK (JE ps mv send lean ps.length)):=by
 refine .en func75 ntmps75 fun St c cs hK=> ?_;refine U2 ?_;refine .bo fun b2=> ?_;refine .bo fun b3=> ?_;refine .al fun b4=> ?_;refine U3 ?_;refine .al fun b5=> ?_;refine UC ?_;refine Tc.db (Tc.sA (σ:= { s:Nat×List Int//s.1<=ps.length/\s.2=JE ps mv send lean s.1 })
  (fun s=> ([(11,.int .i64 (s.1.1:Nat)),(10,.int .i64 ps.length),(9,.slice (some ⟨eb,eo,none⟩) ps.length ec),(2,.pointer (some ⟨b2,0,none⟩)),(3,.pointer (some ⟨b3,0,none⟩)),(4,.pointer (some ⟨b4,0,none⟩)),(5,.pointer (some ⟨b5,0,none⟩))],
   [(b5,true,.cells ⟨jA s.1.2⟩ 139 (0,0)),(b4,true,.cells ⟨[.int .i64 0,.int .i64 0,.int .i64 0,.int .i64 0,.int .i64 0,.int .i64 0]⟩ 139 (0,0)),
    (b3,true,.cells ⟨[.int .i64 send,.int .i64 read,.int .i64 lean,.slice (some ⟨vb,vo,none⟩) ml vc]⟩ 74 (0,0)),(b2,true,.cells ⟨[.int .i64 code,.slice (some ⟨eb,eo,none⟩) ps.length ec]⟩ 135 (0,0))])) (fun s=> ps.length-s.1.1) ?_ ⟨(0,[0,0,0,0,0,0]),by simp,rfl⟩)
 rintro⟨⟨k,cur⟩,g1,g2⟩ ih;simp only at g1 g2;have yB:(jA cur).length=6:=by rw[uA,g2,QD]
 show Tc M St _ _ _ _ [(11,.int .i64 (k:Nat)),(10,.int .i64 ps.length),(9,.slice (some ⟨eb,eo,none⟩) ps.length ec),(2,.pointer (some ⟨b2,0,none⟩)),(3,.pointer (some ⟨b3,0,none⟩)),(4,.pointer (some ⟨b4,0,none⟩)),(5,.pointer (some ⟨b5,0,none⟩))]
   [(b5,true,.cells ⟨jA cur⟩ 139 (0,0)),(b4,true,.cells ⟨[.int .i64 0,.int .i64 0,.int .i64 0,.int .i64 0,.int .i64 0,.int .i64 0]⟩ 139 (0,0)),
    (b3,true,.cells ⟨[.int .i64 send,.int .i64 read,.int .i64 lean,.slice (some ⟨vb,vo,none⟩) ml vc]⟩ 74 (0,0)),(b2,true,.cells ⟨[.int .i64 code,.slice (some ⟨eb,eo,none⟩) ps.length ec]⟩ 135 (0,0))] _ _
 by_cases c1:k=ps.length
 ·obtain⟨y0,y1,y2,y3,y4,y5,hy⟩:=six (show cur.length=6 by rw[<-uA];exact yB);subst hy;refine SE ?_;refine .rt hK func75 results75 [_] ?_;exact fun H' hs=> ⟨hs.base,by rw[<-c1,<-g2];rfl⟩
 ·have c2:k<ps.length:=by omega
  have k1:(k:Int).toNat=k:=by simp
  have f0:=SW k c2;have f1:BC true 2 es (eo+(k:Int).toNat*2)=some (.agg ⟨[.int .i64 ((ps[k]?.getD 0:Nat):Int),.int .i64 (k:Nat)]⟩):=by rw[k1];exact f0
  have f4:BC false 1 vs (vo+(k:Int).toNat*1)=some (.int .i64 (mv[k]?.getD 0)):=by rw[k1];exact hV2 k c2
  have f2:yE (jA cur) (0+(k:Int).toNat*1) [.int .i64 (aF ((ps[k]?.getD 0:Nat):Int) (k:Nat) send lean+mv[k]?.getD 0)]=jA (JE ps mv send lean (k+1)):=by
   rw[show 0+(k:Int).toNat*1=k by simp,g2];exact yV oM
  have f3:Nat.ble (0+(k:Int).toNat*1+1) (jA cur).length=true:=Nat.ble_eq_true_of_le (by rw[yB];simp;omega);have b6:=vQ k c2;have b7:=hmv k;have b8:=HG (place:=((ps[k]?.getD 0:Nat):Int)) (number:=(k:Nat)) oM oM h4 h5 h6 h7;refine lF ?_;refine .al fun b7=> ?_;refine U3 ?_;refine Tc.dr [14] [1] mixed rfl ?_;refine V6 0 ?_;refine .z 6 rfl (xA.tk fun H hs=> YJ M H (ps[k]?.getD 0:Nat) k send lean oM oM oM h4 h5 h6 h7) ?_;refine V7 7 ?_;refine .e 14 1 ?_;refine .dn ?_;refine U5 ?_;exact Tc.db (ih ⟨(k+1,JE ps mv send lean (k+1)),by simp only;omega,rfl⟩ (by simp only;omega))
end
def VF(p i:Nat):Value:=.agg ⟨[.int .i64 (p:Nat),.int .i64 (i:Nat)]⟩
theorem BH(p i:Nat):flat en 2 270 [.int .i64 (p:Nat),.int .i64 (i:Nat)]:=by
 refine⟨rfl,?_⟩;intro f hf;simp only[List.mem_cons,List.not_mem_nil,or_false] at hf;rcases hf with rfl|rfl
 ·exact⟨⟨_,rfl⟩,_,rfl,rfl,Nat.le_of_ble_eq_true rfl⟩
 ·exact⟨⟨_,rfl⟩,_,rfl,rfl,Nat.le_of_ble_eq_true rfl⟩
theorem TO(p i:Nat):mE en 2 270 (VF p i):=⟨_,_,rfl,rfl,BH p i⟩
theorem AZ {p i q j:Nat}:VF p i=VF q j<->p=q/\i=j:=by
 simp only[VF,Value.agg.injEq,Array.mk.injEq,List.cons.injEq,Value.int.injEq,true_and,and_true];omega
theorem aBa:prog.eqGuardType prog.depth 270=false:=by kernel_rfl
def XF(read mt after:Int):Nat->Int->List (Int×Int)
 | 0,_=> []
 | f+1,n=> if n<=mt then(zB read (after+n),n)::(if zB read (after+n)=7 then [] else XF read mt after f ((2*zB read (after+n)+1)*read+1-after)) else []
def IB(l:List (Int×Int)):List Value:=(l.map fun x=> [Value.int .i64 x.1,Value.int .i64 x.2]).flatten
theorem FN(pace after:Int):∀(f:Nat) (n:Int),n<=EC pace after f n/\EC pace after f n<=n+f/\(EC pace after f n<n+f->after<=(2*EC pace after f n+1)*pace)
 | 0,n=> ⟨by simp[EC],by simp[EC],fun h=> by simp[EC] at h⟩
 | f + 1,n=> by
  unfold EC;split
  ·obtain⟨h1,h2,h3⟩:=FN pace after f (n+1);exact⟨oM,oM,fun h=> h3 oM⟩
  ·rename_i h
   exact⟨oM,oM,fun _=> by omega⟩
theorem mD(pace after:Int):0<=zB pace after/\zB pace after<=7/\(zB pace after≠7->after<=(2*zB pace after+1)*pace):=by
 obtain⟨h1,h2,h3⟩:=FN pace after 7 0;exact⟨h1,by unfold zB;omega,fun h=> h3 (by have:=h2;simp only[zB] at h;omega)⟩
structure QB where
 code:Nat
 ps:List Nat
 send:Int
 read:Int
 lean:Int
 first:Int
 mf:Int
 mt:Int
def QB.after(s:QB)(p i:Nat):Int:=aF p i s.send s.lean-aF ((s.ps[0]?.getD 0:Nat):Int) 0 s.send s.lean-s.first
def QB.opts(s:QB)(p i:Nat):List (Int×Int):=if i=0 then [(0,s.first)] else XF s.read s.mt (s.after p i) (s.mt+1-s.mf).toNat s.mf
structure QB.Ok(s:QB):Prop where
 code:s.code<32
 ps0:0<s.ps.length
 ps6:s.ps.length<=6
 places:∀i:Nat,i<s.ps.length->s.ps[i]?.getD 0<=6
 send:0<=s.send/\s.send<=1000
 read:0<=s.read/\s.read<=1000
 lean: -1000<=s.lean/\s.lean<=1000
 first: -1000<=s.first/\s.first<=1000
 mf: -1000<=s.mf/\s.mf<=1000
 mt:s.mt<=1000
def QB.val(s:QB)(eb ec mb:Nat):Value:=.agg ⟨[.int .i64 s.code,.slice (some ⟨eb,0,none⟩) s.ps.length ec,.int .i64 s.send,.int .i64 s.read,.int .i64 s.lean,.int .i64 s.first,.int .i64 s.mf,.int .i64 s.mt,.map (some mb)]⟩
def aL(H:View)(s:QB)(eb:Nat):Prop:=
 ∃f es et ez,H eb=some (f,.cells ⟨es⟩ et ez)/\∀i:Nat,i<s.ps.length->BC true 2 es (0+i*2)=some (VF (s.ps[i]?.getD 0) i)
def nM(H:View)(s:QB)(es:List MapEntry):Prop:=∀e∈es,∃p i:Nat,e.key=VF p i/\UA H 2 e.val (s.opts p i).length (IB (s.opts p i))
theorem nM.keys {H:View}{s:QB}{es:List MapEntry}(h:nM H s es):∀e∈es,mE en 2 270 e.key:=fun e he=> by
 obtain⟨p,i,hk,_⟩:=h e he;rw[hk];exact TO p i
theorem pD {P:Program}{M:Md P}{St:View->Goroutine->Prop}{n:Nat}{b:FB}{H₀:View}{cs:List Frame}{R:Rg}{L:Bl}{ds:List Deferred}{k:List Item}{id:Nat}{x:Code}(F:Rg->Bl->Prop)(hF:∀R L,F R L->Tc M St n b H₀ cs R L ds k)
 (h:(∀R L,F R L->Tc M St n b H₀ cs R L ds k)->Tc M St n b H₀ cs R L ds (.code x:: .inBlock id::k)):Tc M St n b H₀ cs R L ds (.code (.block id x)::k):=.block (h hF)
theorem ZH(l:List (Int×Int)):(IB l).length=l.length*2:=by
 induction l with
 | nil=> rfl
 | cons x l ih=> simp only[IB,List.map_cons,List.flatten_cons,List.length_append,List.length_cons,List.length_nil] at ih ⊢;omega
theorem xK(x:Int×Int)(l:List (Int×Int)):IB (x::l)= [.int .i64 x.1,.int .i64 x.2]++IB l:=by simp[IB]
theorem P4 {e:TypeId}{sz:Nat}(g:Gl e sz):g.bl= []\/∃b x,g.bl= [(b,x)]:=by
 unfold Gl.bl;cases g.blk with
 | none=> exact .inl rfl
 | some b=> exact .inr ⟨b,_,rfl⟩
theorem oU {H H':View}{mb:Nat}{L:Bl}{i j b:Nat}{x y:Bool×Obj}(hs:kA (H.aB mb) L H')(hi:L[i]? =some (b,x))(hj:L[j]? =some (mb,y))(aO:i≠j):H b=none/\b≠mb:=by
 have uB:b≠mb:=by
  rintro rfl;exact aO (YH hs.nodup hi hj)
 have h1:=hs.out _ (List.mem_of_getElem? hi);rw[HA uB] at h1;exact⟨h1,uB⟩
theorem nM.mono {H H':View}{s:QB}{l:List MapEntry}(h:nM H s l)(k:H.le H'):nM H' s l:=fun e he=> by
 obtain⟨p,i,h1,h2⟩:=h e he;exact⟨p,i,h1,h2.mono k⟩
def nQ(s:QB)(p i mb:Nat)(Hm H:View)(v:Value)(H':View):Prop:=
 (∀b x,b≠mb->H b=some x->H' b=some x)/\∃Hm' es' cl',Hm'.le H'/\(∀b x,Hm' b=some x->Hm b=some x\/H b=none)/\Hm.le Hm'/\Hm' mb=none/\
  UA Hm' 2 v (s.opts p i).length (IB (s.opts p i))/\H' mb=some (true,.map es' cl')/\nM Hm' s es'.toList
theorem nQ.put {s:QB}{p i mb b:Nat}{x:Bool×Obj}{Hm H H':View}{v:Value}{es':Array MapEntry}{cl':Nat}(h1:∀b x,b≠mb->H b=some x->H' b=some x)(hle:Hm.le H)(wT:Hm mb=none)(hb:H b=none)(uB:b≠mb)(hx:H' b=some x)
  (h2:UA (Hm.put b x) 2 v (s.opts p i).length (IB (s.opts p i))) (h3:H' mb=some (true,.map es' cl')) (h4:nM (Hm.put b x) s es'.toList):nQ s p i mb Hm H v H':=by
 have hn:Hm b=none:=by
  cases h:Hm b with
  | none=> rfl
  | some y=> rw[hle _ _ h] at hb;cases hb
 refine⟨h1,Hm.put b x,es',cl',fun c y hc=> ?_,fun c y hc=> ?_,View.rP x hn,by rw[View.GA _ _ (Ne.symm uB)];exact wT,h2,h3,h4⟩
 ·by_cases e:c=b
  ·subst e;rw[View.bB] at hc;cases hc
   exact hx
  ·rw[View.GA _ _ e] at hc;exact h1 c y (fun e=> by rw[e,wT] at hc;cases hc) (hle _ _ hc)
 ·by_cases e:c=b
  ·subst e;exact .inr hb
  ·rw[View.GA _ _ e] at hc;exact .inl hc
theorem nQ.same {s:QB}{p i mb:Nat}{Hm H H':View}{v:Value}{es':Array MapEntry}{cl':Nat}(h1:∀b x,b≠mb->H b=some x->H' b=some x)(hle:Hm.le H)(wT:Hm mb=none)
  (h2:UA Hm 2 v (s.opts p i).length (IB (s.opts p i))) (h3:H' mb=some (true,.map es' cl')) (h4:nM Hm s es'.toList):nQ s p i mb Hm H v H':=
 ⟨h1,Hm,es',cl',fun c y hc=> h1 c y (fun e=> by rw[e,wT] at hc;cases hc) (hle _ _ hc),fun _ _ h=> .inl h,View.le_refl _,wT,h2,h3,h4⟩
section
variable(M:Md prog)(H:View)
theorem J0(s:QB)(dC:s.Ok)(eb ec mb:Nat)(es:Array MapEntry)(cl p i:Nat)(hE:aL H s eb)(hM:H mb=some (true,.map es cl))(Hm:View)(hm:nM Hm s es.toList)(hle:Hm.le H)(wT:Hm mb=none)(hi:i<s.ps.length)(hp:p=s.ps[i]?.getD 0):
  aA M 283 #[s.val eb ec mb,VF p i] H (nQ s p i mb Hm H):=by
 obtain⟨f,ec',et,ez,s8,SW⟩:=hE;have uB:eb≠mb:=by rintro rfl;rw[s8] at hM;cases hM
 have hE0:(H.aB mb) eb=some (f,.cells ⟨ec'⟩ et ez):=by rw[HA uB];exact s8
 have hq:=SW 0 dC.ps0;have CY:∀(H':View),(H.aB mb).le H'->∀b x,b≠mb->H b=some x->H' b=some x:=fun H' hle b x hb hx=> hle b x (by rw[HA hb];exact hx);refine aA.enter (vs:= [s.val eb ec mb,VF p i]) func283 rfl ntmps283 (Nat.le_of_ble_eq_true rfl) (kA.pull hM) fun St c cs hK=> ?_;refine U2 ?_;refine .bo fun b2=> ?_;refine .bo fun b3=> ?_;refine U4 ?_;have hq2:decide (i=0)=true<-> [Value.int .i64 (p:Nat),.int .i64 (i:Nat)]= [.int .i64 ((s.ps[0]?.getD 0:Nat):Int),.int .i64 ((0:Nat):Int)]:=by
  simp only[decide_eq_true_eq,List.cons.injEq,Value.int.injEq,true_and,and_true];constructor
  ·rintro rfl;rw[hp];simp
  ·rintro⟨_,h⟩;omega
 by_cases cX:i=0
 ·subst cX;refine Tc.dr [] [] mixed rfl ?_;refine V6 0 ?_;refine .q 6 rfl (xA.eqA (E:=en) true 2 rfl rfl rfl rfl rfl aBa dE (BH p 0) (BH (s.ps[0]?.getD 0) 0) hq2) ?_;refine .dn ?_;refine U6 ?_;refine .e (.bs (zz:=fun bs=> ?_));refine U2 ?_;refine .rt hK func283 results283 [_] ?_;intro H' hs;obtain⟨f1,f2⟩:=oU hs (i:=0) (j:=3) rfl rfl dE;have hn:Hm bs=none:=by
   cases h:Hm bs with
   | none=> rfl
   | some y=> rw[hle _ _ h] at f1;cases f1
  exact nQ.put (CY H' hs.base) hle wT f1 f2 (hs.get (i:=0) rfl) ⟨⟨_,_,rfl⟩,rfl,.inr ⟨bs,0,1,true,_,_,_,rfl,View.bB ..,Nat.le_of_ble_eq_true rfl,rfl⟩⟩ (hs.get (i:=3) rfl) (hm.mono (View.rP _ hn))
 ·rw[decide_eq_false cX] at hq2;refine Tc.dr [] [] mixed rfl ?_;refine V6 0 ?_;refine .q 6 rfl (xA.eqA (E:=en) false 2 rfl rfl rfl rfl rfl aBa dE (BH p i) (BH (s.ps[0]?.getD 0) 0) hq2) ?_;refine .dn ?_;refine U7 ?_;refine .e (Or.lookup (E:=en) 2 rfl rfl rfl (fun H' hs=> ⟨true,hs.get (i:=2) rfl⟩) rfl rfl rfl dE (TO p i) hm.keys rfl dE (fun r hr=> ?_));cases r with
  | some x=>
   obtain⟨j,v⟩:=x;obtain⟨e,h1,h2,rfl⟩:=hr;obtain⟨q,k,h3,h4⟩:=hm e (List.mem_of_getElem? h1);rw[h2] at h3;obtain⟨rfl,rfl⟩:=AZ.1 h3;refine BI ?_;refine .rt hK func283 results283 [_] ?_;exact fun H' hs=> nQ.same (CY H' hs.base) hle wT h4 (hs.get (i:=2) rfl) hm
  | none=>
   have p1:=dC.places i hi;rw[<-hp] at p1;have p0:=dC.places 0 dC.ps0;obtain⟨s1,s2⟩:=dC.send;obtain⟨l1,l2⟩:=dC.lean;obtain⟨q1,q2⟩:=dC.first;have b1:=HG (place:=(p:Nat)) (number:=(i:Nat)) oM oM s1 s2 l1 l2;have b0:=HG (place:=((s.ps[0]?.getD 0:Nat):Int)) (number:=0) oM oM s1 s2 l1 l2;refine lF ?_;refine Tc.dr [] [] mixed rfl ?_;refine V5 0 ?_;refine .z 5 rfl (xA.tk fun H hs=> YJ M H p i s.send s.lean oM oM oM s1 s2 l1 l2) ?_;refine V9 6 ?_;refine .z 15 rfl (xA.tk fun H hs=> YJ M H (s.ps[0]?.getD 0:Nat) 0 s.send s.lean oM oM oM s1 s2 l1 l2) ?_;refine V5 16 ?_;refine .dn ?_;refine U8 ?_;have w1: -16000<=s.after p i/\s.after p i<=16000:=by unfold QB.after;omega
   have aEE:s.opts p i=XF s.read s.mt (s.after p i) (s.mt+1-s.mf).toNat s.mf:=by unfold QB.opts;rw[if_neg cX]
   have mf1:=dC.mf;have mt1:=dC.mt;obtain⟨r1,r2⟩:=dC.read;refine pD (fun R' L'=> ∃g:Gl 376 2,g.l=IB (s.opts p i)/\R'= [(5,g.val),(2,.pointer (some ⟨b2,0,none⟩)),(3,.pointer (some ⟨b3,0,none⟩))]/\
    L'=(b3,true,.cells ⟨(VF p i).cells.toList⟩ 270 (0,0))::(b2,true,.cells ⟨(s.val eb ec mb).cells.toList⟩ 331 (0,0))::(mb,true,.map es cl)::g.bl) ?_ (fun fin=> ?_)
   ·rintro _ _ ⟨g,hg,rfl,rfl⟩;refine U6 ?_;refine .e (Or.mapUpdate (E:=en) 2 2 rfl rfl rfl rfl rfl rfl rfl dE (TO p i) hm.keys rfl (fun r mF=> ?_));refine U6 ?_;refine .rt hK func283 results283 [_] ?_;intro H' hs;have hlen:g.n=(s.opts p i).length:=by
     have h3:=g.hl;rw[hg,ZH] at h3;omega
    have UH:∀Hv:View,(∀y∈g.bl,Hv y.1=some y.2)->UA Hv 2 g.val (s.opts p i).length (IB (s.opts p i)):=fun Hv hv=> by
     have h1:=g.src (H:=Hv) hv;rw[hlen,hg] at h1;exact h1
    cases r with
    | some x=>
     obtain⟨j,w⟩:=x;obtain⟨e,h1,h2,_⟩:=mF;exact absurd h2 (hr e (List.mem_of_getElem? h1))
    | none=>
     have yD:∀Hv:View,Hm.le Hv->UA Hv 2 g.val (s.opts p i).length (IB (s.opts p i))->nM Hv s (es.push ⟨VF p i,g.val,cl⟩).toList:=fun Hv hv hsv e he=> by
      simp only[Array.toList_push,List.mem_append,List.mem_singleton] at he;rcases he with he|rfl
      ·exact hm.mono hv e he
      ·exact⟨p,i,rfl,hsv⟩
     rcases P4 g with h0|⟨gb,gx,h0⟩
     ·have h5:=UH Hm (by rw[h0];simp);exact nQ.same (CY H' hs.base) hle wT h5 (hs.get (i:=2) rfl) (yD Hm (View.le_refl _) h5)
     ·rw[h0] at hs;obtain⟨f1,f2⟩:=oU hs (i:=3) (j:=2) rfl rfl dE;have hn:Hm gb=none:=by
       cases h:Hm gb with
       | none=> rfl
       | some y=> rw[hle _ _ h] at f1;cases f1
      have h5:=UH (Hm.put gb gx) (by rw[h0];simp[View.bB]);exact nQ.put (CY H' hs.base) hle wT f1 f2 (hs.get (i:=3) rfl) h5 (hs.get (i:=2) rfl) (yD _ (View.rP _ hn) h5)
   ·refine Tc.db (Tc.sA (σ:= { x:Int×Nat×Gl 376 2 // -1000<=x.1/\x.1<=40000/\(s.mt+1-x.1).toNat<=x.2.1/\x.2.2.n+x.2.1<=5000/\x.2.2.l++IB (XF s.read s.mt (s.after p i) x.2.1 x.1)=IB (s.opts p i) })
     (fun x=> ([(8,.int .i64 x.1.1),(7,.int .i64 (s.after p i)),(5,x.1.2.2.val),(2,.pointer (some ⟨b2,0,none⟩)),(3,.pointer (some ⟨b3,0,none⟩))],
      (b3,true,.cells ⟨(VF p i).cells.toList⟩ 270 (0,0))::(b2,true,.cells ⟨(s.val eb ec mb).cells.toList⟩ 331 (0,0))::(mb,true,.map es cl)::x.1.2.2.bl)) (fun x=> x.1.2.1) ?_
     ⟨(s.mf,(s.mt+1-s.mf).toNat,Gl.nil 376 2),mf1.1,by show s.mf<=_;omega,Nat.le_refl _,by show 0+(s.mt+1-s.mf).toNat<=_;omega,by rw[aEE];rfl⟩)
    rintro⟨⟨n,f,g⟩,g1,g2,g3,g4,g5⟩ ih;simp only at g1 g2 g3 g4 g5;show Tc M St _ _ _ _ [(8,.int .i64 n),(7,.int .i64 (s.after p i)),(5,g.val),(2,.pointer (some ⟨b2,0,none⟩)),(3,.pointer (some ⟨b3,0,none⟩))]
      ((b3,true,.cells ⟨(VF p i).cells.toList⟩ 270 (0,0))::(b2,true,.cells ⟨(s.val eb ec mb).cells.toList⟩ 331 (0,0))::(mb,true,.map es cl)::g.bl) _ _
    by_cases c1:n<=s.mt
    ·obtain⟨f,rfl⟩:∃f',f=f'+1:=⟨f-1,oM⟩
     obtain⟨m1,m2,m3⟩:=mD s.read (s.after p i+n);have hc:=aV M H s.read (s.after p i+n) oM oM;unfold XF at g5;rw[if_pos c1,xK,<-List.append_assoc] at g5;generalize hmm:zB s.read (s.after p i+n)=m at m1 m2 m3 g5;have x1:0<=(2*m+1)*s.read:=Int.mul_nonneg oM oM;have x2:(2*m+1)*s.read<=15*1000:=Int.mul_le_mul oM r2 oM oM;refine PR ?_;refine .cl (fun H hs=> hmm▸aV M H s.read (s.after p i+n) oM oM) ?_;refine U2 ?_;refine .al fun b9=> ?_;refine U6 ?_;refine .e (.bs (zz:=fun bs=> ?_));refine .e (Or.append (E:=en) 5 rfl rfl rfl rfl rfl rfl rfl rfl rfl rfl rfl rfl rfl rfl rfl (fun H hs=> UA.of (hs.get (i:=0) rfl) (Nat.le_of_ble_eq_true rfl)) rfl oM rfl dE (fun g' hn hl=> ?_));refine U2 ?_;have dX:g'.l=g.l++[.int .i64 m,.int .i64 n]:=hl;refine U2 ?_;by_cases c7:m=7
     ·subst c7;rw[if_pos rfl] at g5;have pE:g'.l=IB (s.opts p i):=by
       rw[dX,<-g5];simp[IB]
      refine U7 ?_;have hf:=fin _ _ ⟨g',pE,rfl,rfl⟩;exact Tc.db hf
     ·rw[if_neg c7] at g5;refine UC ?_;refine .i ?_ (z:=RB oM oM);refine U3 ?_;refine .i ?_ (z:=RB oM oM);refine U6 ?_;have x3:=m3 c7;exact Tc.db (ih ⟨((2*m+1)*s.read+1-s.after p i,f,g'),by simp only;omega,by simp only;omega,by simp only;omega,by simp only;omega,by simp only;rw[dX];exact g5⟩ (by simp))
    ·have c2:XF s.read s.mt (s.after p i) f n= []:=by
      cases f with
      | zero=> rfl
      | succ f=> unfold XF;rw[if_neg c1]
     rw[c2] at g5;refine YD ?_;exact Tc.db (fin _ _ ⟨g,by simpa [IB] using g5,rfl,rfl⟩)
end
structure Lk where
 s0:Int
 s1:Int
 r0:Int
 r1:Int
 l0:Int
 l1:Int
 m0:Int
 m1:Int
def Lk.val(k:Lk):Value:=.agg ⟨[.int .i64 k.s0,.int .i64 k.s1,.int .i64 k.r0,.int .i64 k.r1,.int .i64 k.l0,.int .i64 k.l1,.int .i64 k.m0,.int .i64 k.m1]⟩
def QK(a b:Int):Bool:=decide (1<=a/\a<=b/\b<=40/\b-a<3)
def BG(a b:Int):Bool:=decide (-9<=a/\a<=b/\b<=9/\b-a<3)
def mH(a b:Int):Bool:=decide (-12<=a/\a<=b/\b<=12/\b-a<25)
def Lk.sends(k:Lk):Bool:=QK k.s0 k.s1
def Lk.reads(k:Lk):Bool:=QK k.r0 k.r1
def Lk.PY(k:Lk):Bool:=BG k.l0 k.l1
def Lk.yP(k:Lk):Bool:=mH k.m0 k.m1
section
variable(M:Md prog)(H:View)
theorem jR(a b:Int):aA M 367 #[YB a b] H (fun v H'=> H.le H'/\v=.bool (decide (1<=a/\a<=b/\b<=40/\b-a<3))):=by
 refine .en func367 ntmps367 fun St c cs hK=> ?_;refine U2 ?_;refine .bo fun b1=> ?_;refine U5 ?_;refine .cl (fun H hs=> rE M H a b) ?_;refine .cl (fun H hs=> gQ M H a b 1 40 3 oM oM) ?_;refine U2 ?_;refine .rt hK func367 results367 [_] ?_;exact okB
theorem aAJ(k:Lk):aA M 363 #[k.val] H (fun v H'=> H.le H'/\v=.bool k.sends):=by
 refine .en func363 ntmps363 fun St c cs hK=> ?_;refine U2 ?_;refine .bo fun b1=> ?_;refine U7 ?_;refine .cl (fun H hs=> jR M H k.s0 k.s1) ?_;refine U2 ?_;refine .rt hK func363 results363 [_] ?_;exact okB
theorem aAH(k:Lk):aA M 364 #[k.val] H (fun v H'=> H.le H'/\v=.bool k.reads):=by
 refine .en func364 ntmps364 fun St c cs hK=> ?_;refine U2 ?_;refine .bo fun b1=> ?_;refine U7 ?_;refine .cl (fun H hs=> jR M H k.r0 k.r1) ?_;refine U2 ?_;refine .rt hK func364 results364 [_] ?_;exact okB
theorem aAj(k:Lk):aA M 354 #[k.val] H (fun v H'=> H.le H'/\v=.bool k.PY):=by
 refine .en func354 ntmps354 fun St c cs hK=> ?_;refine U2 ?_;refine .bo fun b1=> ?_;refine U8 ?_;refine .cl (fun H hs=> rE M H k.l0 k.l1) ?_;refine .cl (fun H hs=> gQ M H k.l0 k.l1 (-9) 9 3 oM oM) ?_;refine U2 ?_;refine .rt hK func354 results354 [_] ?_;exact okB
theorem aAr(k:Lk):aA M 365 #[k.val] H (fun v H'=> H.le H'/\v=.bool k.yP):=by
 refine .en func365 ntmps365 fun St c cs hK=> ?_;refine U2 ?_;refine .bo fun b1=> ?_;refine U8 ?_;refine .cl (fun H hs=> rE M H k.m0 k.m1) ?_;refine .cl (fun H hs=> gQ M H k.m0 k.m1 (-12) 12 25 oM oM) ?_;refine U2 ?_;refine .rt hK func365 results365 [_] ?_;exact okB
def NI(p:Nat->Bool):Nat->Bool
 | 0=> true
 | k+1=> NI p k&&p k
theorem VT {p:Nat->Bool}{k:Nat}(h:NI p k=false):∀m,k<=m->NI p m=false:=by
 intro m hm;induction m with
 | zero=>
  have:k=0:=by omega
  subst this;exact h
 | succ m ih=>
  by_cases e:k=m+1
  ·subst e;exact h
  ·rw[NI,ih oM];rfl
theorem J9(kv:List Value)(gb off m cc:Nat)(f:Bool)(gs:List Value)(gt:TypeId)(gz:Nat×Nat)(fv:Nat->Value)(p:Nat->Bool)(hm:m<=1000)(hk8:kv.length=8)(hG:H gb=some (f,.cells ⟨gs⟩ gt gz))(hG2:∀i:Nat,i<m->BC false 1 gs (off+i*1)=some (fv i))
  (hp:∀i:Nat,i<m->∀H',H.le H'->CB M (fv i) [.agg ⟨kv⟩] H' fun v H''=> H'.le H''/\v=.bool (p i)):
  aA M 158 #[.agg ⟨kv⟩,.slice (some ⟨gb,off,none⟩) m cc] H (fun v H'=> H.le H'/\v=.int .i64 (if NI p m then 0 else 1)):=by
 obtain⟨a0,a1,a2,a3,a4,a5,a6,a7,rfl⟩:∃a0 a1 a2 a3 a4 a5 a6 a7,kv= [a0,a1,a2,a3,a4,a5,a6,a7]:=by
  match kv,hk8 with
  | [a0,a1,a2,a3,a4,a5,a6,a7],_=> exact⟨a0,a1,a2,a3,a4,a5,a6,a7,rfl⟩
 refine .en func158 ntmps158 fun St c cs hK=> ?_;refine U2 ?_;refine .bo fun b2=> ?_;refine UC ?_;refine Tc.db (Tc.sA (σ:= { k:Nat//k<=m/\NI p k=true })
  (fun s=> ([(9,.int .i64 (s.1:Nat)),(8,.int .i64 m),(7,.slice (some ⟨gb,off,none⟩) m cc),(2,.pointer (some ⟨b2,0,none⟩))],[(b2,true,.cells ⟨[a0,a1,a2,a3,a4,a5,a6,a7]⟩ 132 (0,0))])) (fun s=> m-s.1) ?_ ⟨0,by simp,rfl⟩)
 rintro⟨k,g1,g2⟩ ih;show Tc M St _ _ _ _ [(9,.int .i64 (k:Nat)),(8,.int .i64 m),(7,.slice (some ⟨gb,off,none⟩) m cc),(2,.pointer (some ⟨b2,0,none⟩))] [(b2,true,.cells ⟨[a0,a1,a2,a3,a4,a5,a6,a7]⟩ 132 (0,0))] _ _;by_cases c1:k=m
 ·subst c1;refine YD ?_;refine .rt hK func158 results158 [_] ?_;exact fun H' hs=> ⟨hs.base,by rw[g2];rfl⟩
 ·have c2:k<m:=by omega
  have f1:BC false 1 gs (off+(k:Int).toNat*1)=some (fv k):=by rw[show(k:Int).toNat=k by simp];exact hG2 k c2
  cases hpk:p k with
  | true=>
   refine PR ?_;refine .c rfl rfl rfl rfl (fun H hs=> hpk▸hp k c2 H hs.base) ?_;refine U9 ?_;exact Tc.db (ih ⟨k+1,oM,by rw[NI,g2,hpk];rfl⟩ (by simp only;omega))
  | false=>
   have h2:=VT (p:=p) (k:=k+1) (by rw[NI,hpk];simp) m oM;refine PR ?_;refine .c rfl rfl rfl rfl (fun H hs=> hpk▸hp k c2 H hs.base) ?_;refine U7 ?_;refine .rt hK func158 results158 [_] ?_;exact fun H' hs=> ⟨hs.base,by rw[h2];rfl⟩
end
def iF(i:Nat):Value:=.func (.func ([363,364,354,365][i]?.getD 0)) #[] #[]
def HC(H:View):Prop:=∃f gt gz,H 2=some (f,.cells ⟨[iF 0,iF 1,iF 2,iF 3]⟩ gt gz)
def Lk.W3(k:Lk)(i:Nat):Bool:= [k.sends,k.reads,k.PY,k.yP][i]?.getD true
def Lk.ok(k:Lk):Bool:=NI k.W3 4
section
variable(M:Md prog)(H:View)
theorem pY(k:Lk)(i:Nat)(hi:i<4)(H':View):CB M (iF i) [k.val] H' fun v H''=> H'.le H''/\v=.bool (k.W3 i):=by
 match i,hi with
 | 0,_=> exact CB.h (aAJ M H' k)
 | 1,_=> exact CB.h (aAH M H' k)
 | 2,_=> exact CB.h (aAj M H' k)
 | 3,_=> exact CB.h (aAr M H' k)
theorem qN(k:Lk)(hG:HC H):aA M 71 #[k.val] H (fun v H'=> H.le H'/\v=.int .i64 (if k.ok then 0 else 1)):=by
 obtain⟨f,gt,gz,hG⟩:=hG;refine .en func71 ntmps71 fun St c cs hK=> ?_;refine U2 ?_;refine .bo fun b1=> ?_;refine U3 ?_;refine Tc.dr [] [] mixed rfl ?_;refine V2 0 ?_;refine .q 2 rfl (xA.OX (E:=en) (off':=0) rfl rfl rfl rfl rfl rfl rfl rfl dE dE dE (by rw[if_neg dE];rfl)) ?_;refine .z 3 rfl (xA.tk fun H hs=> J9 M H _ 2 0 4 4 f _ gt gz iF k.W3 oM rfl (hs.base _ _ hG) (fun i hi=> by match i,hi with|0,_=> rfl|1,_=> rfl|2,_=> rfl|3,_=> rfl) (fun i hi H' _=> pY M k i hi H')) ?_;refine .nn 4 ?_;refine .dn ?_;refine .rt hK func71 results71 [_] ?_;exact okB
end
theorem DH {e:TypeId}{sz:Nat}(g:Gl e sz):(g.bl.map (·.1)).Nodup:=by
 unfold Gl.bl;split <;> simp
def uO(code:Nat)(g:Gl 270 2):Value:=.agg ⟨[.int .i64 code,g.val]⟩
def lk0:Lk:=⟨0,0,0,0,0,0,0,0⟩
theorem EA {H H':View}(h:HC H)(k:H.le H'):HC H':=by
 obtain⟨f,gt,gz,h⟩:=h;exact⟨f,gt,gz,k _ _ h⟩
section
variable(M:Md prog)(H:View)
theorem oQ(k:Lk)(hG:HC H)(h:k.ok=false):aA M 71 #[k.val] H (fun v H'=> H.le H'/\v=.int .i64 1):=
 aA.mono (qN M H k hG) fun v H' ⟨h1,h2⟩=> ⟨h1,by rw[h2,h];rfl⟩
theorem RI(k:Lk)(hG:HC H)(h:k.ok=true):aA M 71 #[k.val] H (fun v H'=> H.le H'/\v=.int .i64 0):=
 aA.mono (qN M H k hG) fun v H' ⟨h1,h2⟩=> ⟨h1,by rw[h2,h];rfl⟩
theorem VZ(x:Int)(h:¬(0<=x/\x<=31)):aA M 151 #[.int .i64 x] H (fun v H'=> H.le H'/\v=.bool false):=
 aA.mono (jP M H x) fun v H' ⟨h1,h2⟩=> ⟨h1,by rw[h2,decide_eq_false h]⟩
theorem pX(x:Int)(h:0<=x/\x<=31):aA M 151 #[.int .i64 x] H (fun v H'=> H.le H'/\v=.bool true):=
 aA.mono (jP M H x) fun v H' ⟨h1,h2⟩=> ⟨h1,by rw[h2,decide_eq_true h]⟩
theorem aAw(k:Lk)(code:Int)(hG:HC H)(h:¬(k.ok=true/\0<=code/\code<=31)):aA M 63 #[k.val,.int .i64 code] H (fun v H'=> H.le H'/\v=.tuple ⟨[lk0.val,.agg ⟨[.int .i64 0,.slice none 0 0]⟩,.int .i64 1]⟩):=by
 refine .en func63 ntmps63 fun St c cs hK=> ?_;refine U2 ?_;refine .bo fun b2=> ?_;refine .al fun b4=> ?_;refine .al fun b5=> ?_;refine U4 ?_;cases hk:k.ok with
 | false=>
  refine U2 ?_;refine .cl (fun H hs=> oQ M H k (EA hG hs.base) hk) ?_;refine BI ?_;refine .rt hK func63 results63 [_,_,_] ?_;exact okB
 | true=>
  refine U2 ?_;refine .cl (fun H hs=> RI M H k (EA hG hs.base) hk) ?_;refine ZF ?_;refine .cl (fun H hs=> VZ M H code (fun hh=> h ⟨hk,hh⟩)) ?_;refine YD ?_;refine .rt hK func63 results63 [_,_,_] ?_;exact okB
theorem FC(k:Lk)(code:Nat)(hG:HC H)(hk:k.ok=true)(hc:code<32):aA M 63 #[k.val,.int .i64 code] H (fun v H'=> H.le H'/\∃g:Gl 270 2,v=.tuple ⟨[k.val,uO code g,.int .i64 0]⟩/\(g.n=(gA code 7).length/\g.l=JC (gA code 7))/\∀y∈g.bl,H' y.1=some y.2/\H y.1=none):=by
 refine .en func63 ntmps63 fun St c cs hK=> ?_;refine U2 ?_;refine .bo fun b2=> ?_;refine .al fun b4=> ?_;refine .al fun b5=> ?_;refine U6 ?_;refine .cl (fun H hs=> RI M H k (EA hG hs.base) hk) ?_;refine ZF ?_;refine .cl (fun H hs=> pX M H code oM) ?_;refine U5 ?_;refine Tc.dr [4,5] [0,1] mixed rfl ?_;refine V2 0 ?_;refine .nw 2 ?_;refine .ea 3 rfl (Or.SB (uO code) Gl.bl (fun g=> g.n=(gA code 7).length/\g.l=JC (gA code 7)) rfl rfl rfl rfl rfl dE DH (fun H hs=> .h (aA.mono (vX M H code hc) (by rintro v H' ⟨h1,g,h2,h3,h4,h5⟩;exact⟨h1,g,h2,⟨h3,h4⟩,h5⟩))) (fun g hg=> ⟨S2.mk sL (.inr sL),?_⟩));refine .e 4 1 ?_;refine .e 5 0 ?_;refine .nw 6 ?_;refine .dn ?_;refine .rt hK func63 results63 [_,_,_] ?_;exact fun H' hs=> ⟨hs.base,g,rfl,hg,fun y hy=> ⟨hs.at_ y (List.mem_cons_of_mem _ (List.mem_cons_of_mem _ (List.mem_cons_of_mem _ hy))),hs.out y (List.mem_cons_of_mem _ (List.mem_cons_of_mem _ (List.mem_cons_of_mem _ hy)))⟩⟩
end
set_option maxHeartbeats 4000000
def KE(a b:Int):List Int:=(List.range (b+1-a).toNat).map fun i=> a+(i:Nat)
theorem X7 {a b:Int}(h:b<a):KE a b= []:=by
 unfold KE;rw[show(b+1-a).toNat=0 by omega];rfl
theorem D1 {a b:Int}(h:a<=b):KE a b=a::KE (a+1) b:=by
 unfold KE;rw[show(b+1-a).toNat=(b+1-(a+1)).toNat+1 by omega,List.range_succ_eq_map];simp only[List.map_cons,List.map_map,List.cons.injEq];refine⟨by simp,List.map_congr_left fun i _=> ?_⟩;simp only[Function.comp,Nat.succ_eq_add_one];omega
theorem wE {a b x:Int}:x∈KE a b<->a<=x/\x<=b:=by
 unfold KE;simp only[List.mem_map,List.mem_range];constructor
 ·rintro⟨i,h,rfl⟩;omega
 ·rintro⟨h1,h2⟩;exact⟨(x-a).toNat,oM,oM⟩
def Lk.M8(k:Lk)(code:Nat)(s r n f:Int):QB:=⟨code,gA code 7,s,r,n,f,k.m0,k.m1⟩
def Lk.ZL(k:Lk)(code:Nat)(s r n:Int)(l:List Int):List QB:=l.map fun f=> k.M8 code s r n f
def Lk.iG(k:Lk)(code:Nat)(s r:Int)(l:List Int):List QB:=l.flatMap fun n=> k.ZL code s r n (KE k.m0 k.m1)
def Lk.gG(k:Lk)(code:Nat)(s:Int)(l:List Int):List QB:=l.flatMap fun r=> k.iG code s r (KE k.l0 k.l1)
def Lk.gI(k:Lk)(code:Nat)(l:List Int):List QB:=l.flatMap fun s=> k.gG code s (KE k.r0 k.r1)
def Lk.W0(k:Lk)(code:Nat):List QB:=k.gI code (KE k.s0 k.s1)
theorem Lk.gT(k:Lk)(code:Nat)(s r:Int)(l:List Int)(X:List QB):k.gG code s (r::l)++X=k.iG code s r (KE k.l0 k.l1)++(k.gG code s l++X):=by simp[Lk.gG]
theorem Lk.iT(k:Lk)(code:Nat)(s r n:Int)(l:List Int)(X:List QB):k.iG code s r (n::l)++X=k.ZL code s r n (KE k.m0 k.m1)++(k.iG code s r l++X):=by simp[Lk.iG]
theorem Lk.JL {k:Lk}{code:Nat}{x:QB}:x∈k.W0 code<->∃s r n f,(k.s0<=s/\s<=k.s1)/\(k.r0<=r/\r<=k.r1)/\(k.l0<=n/\n<=k.l1)/\(k.m0<=f/\f<=k.m1)/\x=k.M8 code s r n f:=by
 simp only[Lk.W0,Lk.gI,Lk.gG,Lk.iG,Lk.ZL,List.mem_flatMap,List.mem_map,wE];constructor
 ·rintro⟨s,hs,r,hr,n,hn,f,hf,rfl⟩;exact⟨s,r,n,f,hs,hr,hn,hf,rfl⟩
 ·rintro⟨s,r,n,f,hs,hr,hn,hf,rfl⟩;exact⟨s,hs,r,hr,n,hn,f,hf,rfl⟩
structure nG(k:Lk)(code m eb ec b2 b5 b3:Nat)(H:View):Prop where
 l:H b2=some (true,.cells ⟨[.int .i64 k.s0,.int .i64 k.s1,.int .i64 k.r0,.int .i64 k.r1,.int .i64 k.l0,.int .i64 k.l1,.int .i64 k.m0,.int .i64 k.m1]⟩ 132 (0,0))
 mv:H b5=some (true,.cells ⟨[.int .i64 k.m0,.int .i64 k.m1]⟩ 257 (0,0))
 x:H b3=some (true,.cells ⟨[.int .i64 code,.slice (some ⟨eb,0,none⟩) m ec]⟩ 135 (0,0))
theorem nG.le {k:Lk}{code m eb ec b2 b5 b3:Nat}(H H':View)(h:H.le H')(c:nG k code m eb ec b2 b5 b3 H):nG k code m eb ec b2 b5 b3 H':=⟨h _ _ c.l,h _ _ c.mv,h _ _ c.x⟩
def aDH(b2 b5 b3:Nat):Value:=.func (.func 282) #[] #[.pointer (some ⟨b2,0,none⟩),.pointer (some ⟨b5,0,none⟩),.pointer (some ⟨b3,0,none⟩)]
section
variable(M:Md prog)(H:View)
theorem gH(a b:Int)(ha: -1000000000<=a)(hb:b<=1000000000):bL M (.func (.func 154) #[YB a b] #[]) (KE a b) (fun i (_:Unit)=> [.int .i64 i]) (fun _ _=> []) (fun _ _=> []) (fun _=> True) [] H:=fun l J D _ h0 hy H₀ AL=>
 CB.of (first:= [YB a b]) (captured:= []) aD6 rfl (aA.mono (D3 M H₀ a b (.func (.yield l) #[] #[]) (fun i Hv=> ∃H₂,H₂.le Hv/\J (KE i b) H₂) D ha hb ⟨H,AL.base,h0⟩ (fun i H' h1 h2 ⟨H₂,h3,h4⟩=> by
  rw[D1 h2] at h4;refine CB.mono (hy i (KE (i+1) b) () H₂ H' (wE.2 ⟨h1,h2⟩) h4 ⟨by simp,by simp,by simp,h3⟩) ?_;rintro v H3 (⟨rfl,H4,h5,h6⟩|⟨rfl,h5⟩)
  ·exact .inl ⟨rfl,H4,h5.base,h6⟩
  ·exact .inr ⟨rfl,h5⟩)) (by
  rintro v H' ⟨H₁,h1,⟨i,h2,_,_,H₂,h3,h4⟩|h2⟩
  ·rw[X7 h2] at h4;exact⟨H₂,View.le_trans h3 h1,.inl h4⟩
  ·exact⟨H₁,h1,.inr h2⟩))
theorem NX(k:Lk)(code m eb ec:Nat):aA M 230 #[k.val,.agg ⟨[.int .i64 code,.slice (some ⟨eb,0,none⟩) m ec]⟩] H (fun v H'=> H.le H'/\∃b2 b5 b3,v=aDH b2 b5 b3/\nG k code m eb ec b2 b5 b3 H'):=by
 refine .en func230 ntmps230 fun St c cs hK=> ?_;refine U2 ?_;refine .bo fun b2=> ?_;refine .bo fun b3=> ?_;refine U8 ?_;refine .cl (fun H hs=> rE M H k.m0 k.m1) ?_;refine .al fun b5=> ?_;refine U7 ?_;refine .rt hK func230 results230 [_] ?_;exact fun H' hs=> ⟨hs.base,b2,b5,b3,rfl,hs.get (i:=2) rfl,hs.get (i:=0) rfl,hs.get (i:=1) rfl⟩
theorem CV(k:Lk)(code eb ec b2 b5 b3:Nat)(hk:∀z,z∈ [k.s0,k.r0,k.l0,k.m0,k.s1,k.r1,k.l1,k.m1]-> -1000000<=z/\z<=1000000)(hC:nG k code (gA code 7).length eb ec b2 b5 b3 H):
  bL M (aDH b2 b5 b3) (k.W0 code) (fun s mb=> [s.val eb ec mb]) (fun _ mb=> [(mb,true,.map #[] 0)]) (fun _ _=> []) (nG k code (gA code 7).length eb ec b2 b5 b3) [] H:=fun l J D ZB h0 hy H₀ AL=> by
 refine CB.of (first:= []) (captured:= [_,_,_]) aEh rfl ?_;simp only[List.mem_cons,List.not_mem_nil,or_false,forall_eq_or_imp,forall_eq] at hk;obtain⟨k1,k2,k3,k4,k5,k6,k7,k8⟩:=hk;obtain⟨c1,c2,c3⟩:=hC;refine aA.enter (vs:= [.func (.yield l) #[] #[],.pointer (some ⟨b2,0,none⟩),.pointer (some ⟨b5,0,none⟩),.pointer (some ⟨b3,0,none⟩)]) func282 rfl ntmps282 (Nat.le_of_ble_eq_true rfl) (AL) fun St c cs hK=> ?_;refine U2 ?_;refine .bo fun b4=> ?_;refine U6 ?_;refine .cl (fun H hs=> rE M H k.s0 k.s1) ?_;refine U3 ?_;have itS:=fun H (_:(fun _:View=> True) H)=> gH M H k.s0 k.s1 oM oM;have itR:=fun H (_:(fun _:View=> True) H)=> gH M H k.r0 k.r1 oM oM;have itL:=fun H (_:(fun _:View=> True) H)=> gH M H k.l0 k.l1 oM oM;have itM:=fun H (_:(fun _:View=> True) H)=> gH M H k.m0 k.m1 oM oM;refine Tc.TS (A:= []) (ts:= [14]) (fun rest H₁=> J (k.gI code rest) H₁) (fun j H₁=> j=.ret/\D H₁) rfl rfl rfl rfl itS (fun _ _ _ h=> h) (fun _ _ _=> trivial) rfl (fun _ _=> rfl) h0 ?_ ?_ ?_
 ·rintro r s rest1 e l1 tmps1 asg1 bdy1 H₁ _ eR ⟨rfl,j1⟩ Q1 St1 cc1 cs1 eK q1 q1';obtain⟨c1,c2,c3⟩:=ZB _ _ j1;refine U ?_;refine .al fun b6=> ?_;refine U2 ?_;refine Tc.beginRound (i:=1) rfl rfl rfl ?_;refine U6 ?_;refine .cl (fun H hs=> rE M H k.r0 k.r1) ?_;refine U3 ?_;refine Tc.VM (A:= []) (ts:= [20]) (i:=1) (fun rest H₁=> J (k.gG code s rest++k.gI code rest1) H₁) (fun j H₁=> j=.ret/\D H₁) rfl rfl rfl rfl rfl itR (fun _ _ _ h=> h) (fun _ _ _=> trivial) rfl (fun _ _=> rfl) j1 ?_ ?_ ?_
  ·rintro r' rest2 e l2 tmps2 asg2 bdy2 H₁ _ IY ⟨rfl,j2⟩ Q2 St2 cc2 cs2 hK2 q2 q2';obtain⟨c1,c2,c3⟩:=ZB _ _ j2;refine U ?_;refine .al fun b7=> ?_;refine U2 ?_;refine Tc.beginRound (i:=1) rfl rfl rfl ?_;refine U7 ?_;refine .cl (fun H hs=> rE M H k.l0 k.l1) ?_;refine U3 ?_;refine Tc.VM (A:= []) (ts:= [27]) (i:=1) (fun rest H₁=> J (k.iG code s r' rest++(k.gG code s rest2++k.gI code rest1)) H₁) (fun j H₁=> j=.ret/\D H₁) rfl rfl rfl rfl rfl itL (fun _ _ _ h=> h) (fun _ _ _=> trivial) rfl (fun _ _=> rfl) (k.gT ..▸j2) ?_ ?_ ?_
   ·rintro n' rest3 e l3 tmps3 asg3 bdy3 H₁ _ hs3 ⟨rfl,j3⟩ Q3 St3 cc3 cs3 hK3 q3 q3';obtain⟨c1,c2,c3⟩:=ZB _ _ j3;refine U ?_;refine .al fun b8=> ?_;refine U2 ?_;refine Tc.beginRound (i:=1) rfl rfl rfl ?_;refine U7 ?_;refine Tc.VM (A:= []) (ts:= [30]) (i:=1) (fun rest H₁=> J (k.ZL code s r' n' rest++(k.iG code s r' rest3++(k.gG code s rest2++k.gI code rest1))) H₁) (fun j H₁=> j=.ret/\D H₁) rfl rfl rfl rfl rfl itM (fun _ _ _ h=> h) (fun _ _ _=> trivial) rfl (fun _ _=> rfl) (k.iT ..▸j3) ?_ ?_ ?_
    ·rintro f' rest4 e l4 tmps4 asg4 bdy4 H₁ _ hs4 ⟨rfl,j4⟩ Q4 St4 cc4 cs4 hK4 q4 q4';obtain⟨c1,c2,c3⟩:=ZB _ _ j4;refine U3 ?_;refine Tc.beginRound (i:=0) rfl rfl rfl ?_;refine U3 ?_;refine .x (.ld 8) ?_;refine U6 ?_;refine .e (Or.makeMap rfl rfl dE (fun mb=> ?_));refine U ?_;refine To.VY 0 rfl (fun wT=> ?_);have hy':=hy (k.M8 code s r' n' f') (k.ZL code s r' n' rest4++(k.iG code s r' rest3++(k.gG code s rest2++k.gI code rest1))) mb H₁ _ (Lk.JL.2 ⟨s,r',n',f',wE.1 eR,wE.1 IY,wE.1 hs3,wE.1 hs4,rfl⟩) j4 ((kA.nil H₁).cons _ wT);refine To.sB rfl rfl rfl rfl rfl rfl dE (hy') (fun v H3 hv=> ?_);rcases hv with ⟨rfl,H4,h5,h6⟩|⟨rfl,h5⟩
     ·refine To.lower h5.base ?_;refine U5 ?_;refine Tc.FA hK4 (i:=0) rfl (.inl ⟨rfl,rfl⟩) (fun H' hs=> q4 H' _ _ hs ⟨rfl,h6⟩)
     ·refine U3 ?_;refine Tc.FA hK4 (i:=0) rfl (.inr (.inl ⟨_,rfl,rfl⟩)) (fun H' hs=> q4' H' _ _ _ hs ⟨rfl,rfl,h5⟩)
    ·rintro H₁ j4;refine U2 ?_;refine Tc.FA hK3 (i:=1) rfl (.inl ⟨rfl,rfl⟩) (fun H' hs=> q3 H' _ _ (hs.less sL) ⟨rfl,j4⟩)
    ·rintro j H₁ ⟨rfl,h5⟩;refine Tc.FA hK3 (i:=1) rfl (.inr (.inl ⟨_,rfl,rfl⟩)) (fun H' hs=> q3' H' _ _ _ (hs.less sL) ⟨rfl,rfl,h5⟩)
   ·rintro H₁ j3;refine U2 ?_;refine Tc.FA hK2 (i:=1) rfl (.inl ⟨rfl,rfl⟩) (fun H' hs=> q2 H' _ _ (hs.less sL) ⟨rfl,j3⟩)
   ·rintro j H₁ ⟨rfl,h5⟩;refine Tc.FA hK2 (i:=1) rfl (.inr (.inl ⟨_,rfl,rfl⟩)) (fun H' hs=> q2' H' _ _ _ (hs.less sL) ⟨rfl,rfl,h5⟩)
  ·rintro H₁ j2;refine U2 ?_;refine Tc.FA eK (i:=1) rfl (.inl ⟨rfl,rfl⟩) (fun H' hs=> q1 H' _ _ (hs.less sL) ⟨rfl,j2⟩)
  ·rintro j H₁ ⟨rfl,h5⟩;refine Tc.FA eK (i:=1) rfl (.inr (.inl ⟨_,rfl,rfl⟩)) (fun H' hs=> q1' H' _ _ _ (hs.less sL) ⟨rfl,rfl,h5⟩)
 ·rintro r H₁ j1;refine U ?_;refine Tc.aEZ (E:=en) (i:=0) hK func282 results282 (vs:= []) rfl trivial ?_;exact fun H' hs=> ⟨H₁,hs.base,.inl j1⟩
 ·rintro r j H₁ ⟨rfl,h5⟩;refine Tc.gO (E:=en) (i:=0) hK func282 results282 (vs:= []) rfl trivial ?_;exact fun H' hs=> ⟨H₁,hs.base,.inr h5⟩
end
theorem kV {read mt after:Int}:∀ {f:Nat} {n:Int} {o:Int×Int},o∈XF read mt after f n->0<=o.1/\o.1<=7
 | 0,_,_,h=> by cases h
 | f + 1,n,o,h=> by
  unfold XF at h;split at h
  ·rcases List.mem_cons.1 h with rfl|h
   ·have:=mD read (after+n);exact⟨this.1,this.2.1⟩
   ·split at h
    ·cases h
    ·exact kV h
  ·cases h
theorem QB.aAz {s:QB}{p i:Nat}{o:Int×Int}(h:o∈s.opts p i):0<=o.1/\o.1<=7:=by
 unfold QB.opts at h;split at h
 ·simp at h;subst h;exact⟨by simp,by simp⟩
 ·exact kV h
theorem rR {read mt after:Int}:∀(f:Nat) (n:Int),(XF read mt after f n).length<=f
 | 0,_=> by simp[XF]
 | f + 1,n=> by
  unfold XF;split
  ·have:=rR (read:=read) (mt:=mt) (after:=after) f ((2*zB read (after+n)+1)*read+1-after);split <;> simp <;> omega
  ·simp
theorem QB.J6 {s:QB}(dC:s.Ok)(p i:Nat):(s.opts p i).length<=3000:=by
 unfold QB.opts;split
 ·simp
 ·have h1:=rR (read:=s.read) (mt:=s.mt) (after:=s.after p i) (s.mt+1-s.mf).toNat s.mf;have h2:=dC.mf;have h3:=dC.mt;omega
theorem AR:∀v:Nat,v<128->∀f:Nat,f<8->nD v f<128:=by decide +kernel
theorem PS {l:List (Int×Int)}{j:Nat}{o:Int×Int}(h:l[j]? =some o):((IB l).drop (j*2)).take 2= [.int .i64 o.1,.int .i64 o.2]:=by
 induction l generalizing j with
 | nil=> simp at h
 | cons x l ih=>
  rw[xK];cases j with
  | zero=> simp at h;subst h;simp
  | succ j=>
   rw[show(j+1)*2=j*2+2 by omega,List.drop_append];simp only[List.length_cons,List.length_nil];rw[show j*2+2-(0+1+1)=j*2 by omega,List.drop_eq_nil_of_le (by simp)];exact ih (by simpa using h)
theorem aEY {H:View}{s:QB}{p i j:Nat}{v:Value}{o:Int×Int}(h:UA H 2 v (s.opts p i).length (IB (s.opts p i)))(hj:(s.opts p i)[j]? =some o):
  ∃b off c f cs e fz,v=.slice (some ⟨b,off,none⟩) (s.opts p i).length c/\H b=some (f,.cells ⟨cs⟩ e fz)/\BC true 2 cs (off+j*2)=some (.agg ⟨[.int .i64 o.1,.int .i64 o.2]⟩):=by
 have NB:=(List.getElem?_eq_some_iff.1 hj).1;obtain⟨_,h2,⟨_,c,_,h3⟩|⟨b,off,c,f,cs,e,fz,h3,h4,h5,h6⟩⟩:=h
 ·have:=ZH (s.opts p i);rw[h3] at this;simp at this
  omega
 ·refine⟨b,off,c,f,cs,e,fz,h3,h4,?_⟩;have hl:=ZH (s.opts p i);have hle:off+j*2+2<=cs.length:=by rw[hl] at h5;omega
  have:Nat.ble (off+j*2+2) cs.length=true:=Nat.ble_eq_true_of_le hle;unfold BC;simp only[this]
  congr 3
  have e1:=PS hj;rw[<-h6,hl,List.drop_take,List.drop_drop] at e1;rw[<-e1,List.take_take]
  congr 1
  omega
theorem aAy {s:QB}{p i mb:Nat}{Hj Hm H₁:View}{v:Value}{x:Bool×Obj}(hd:Dj Hj (Hm.put mb x))(h:nQ s p i mb Hm (Hj.plus (Hm.put mb x)) v H₁):
  ∃Hm' es' cl',(Hj.plus (Hm'.put mb (true,.map es' cl'))).le H₁/\Dj Hj (Hm'.put mb (true,.map es' cl'))/\Hm.le Hm'/\Hm' mb=none/\UA Hm' 2 v (s.opts p i).length (IB (s.opts p i))/\nM Hm' s es'.toList:=by
 obtain⟨h1,Hm',es',cl',h2,h3,h4,h5,h6,h7,h8⟩:=h;have hjm:Hj mb=none:=hd mb x (View.bB ..);refine⟨Hm',es',cl',fun c y hc=> ?_,fun c y hc=> ?_,h4,h5,h6,h8⟩
 ·unfold View.plus at hc;split at hc
  ·rename_i z hz
   cases hc
   refine h1 c _ ?_ (SA hz);rintro rfl;rw[hjm] at hz;cases hz
  ·by_cases e:c=mb
   ·subst e;rw[View.bB] at hc;cases hc
    exact h7
   ·rw[View.GA _ _ e] at hc;exact h2 c y hc
 ·by_cases e:c=mb
  ·subst e;exact hjm
  ·rw[View.GA _ _ e] at hc;rcases h3 c y hc with h9|h9
   ·exact hd c y (by rw[View.GA _ _ e];exact h9)
   ·exact(UJ h9).1
section
variable(M:Md prog)(H:View)
end
def rowOf(f:Nat->Bool):List Value:=(List.range 128).map fun i=> .bool (f i)
theorem jC(f:Nat->Bool):(rowOf f).length=128:=by simp[rowOf]
theorem tD(f:Nat->Bool){i:Nat}(h:i<128):(rowOf f)[i]? =some (.bool (f i)):=by simp[rowOf,h]
theorem wV {f g:Nat->Bool}(h:∀i,i<128->f i=g i):rowOf f=rowOf g:=by
 unfold rowOf;exact List.map_congr_left fun i hi=> by rw[h i (by simpa using hi)]
theorem S0 {f f':Nat->Bool}{w:Nat}{c:Bool}(hw:w<128)(h1:∀u,u<128->u≠w->f' u=f u)(h2:f' w=c):yE (rowOf f) (0+(w:Int).toNat*1) [.bool c]=rowOf f':=by
 rw[show 0+(w:Int).toNat*1=w by simp,fI _ _ _ (by rw[jC];exact hw)];apply List.ext_getElem?
 intro i;by_cases e:w=i
 ·subst e;rw[List.getElem?_set_self (by rw[jC];exact hw),tD f' hw,h2]
 ·rw[List.getElem?_set_ne e];by_cases hi:i<128
  ·rw[tD f hi,tD f' hi,h1 i hi (Ne.symm e)]
  ·rw[List.getElem?_eq_none (by rw[jC];omega),List.getElem?_eq_none (by rw[jC];omega)]
theorem JP(f:Nat->Bool):BC true 128 (rowOf f) 0=some (.agg ⟨rowOf f⟩):=by
 unfold BC;rw[show Nat.ble (0+128) (rowOf f).length=true by rw[jC];rfl];simp only[List.drop_zero];rw[List.take_of_length_le (by rw[jC];omega)]
theorem KP(f:Nat->Bool){c:List Value}(h:c.length=128):yE c 0 (rowOf f)=rowOf f:=by
 unfold yE;rw[jC,List.drop_of_length_le oM];simp
theorem LX {f:Nat->Bool}(h:∀i,i<128->f i=false):List.replicate 128 (Value.bool false)=rowOf f:=by
 apply List.ext_getElem?
 intro i;by_cases hi:i<128
 ·rw[tD f hi,h i hi,List.getElem?_replicate,if_pos hi]
 ·rw[List.getElem?_eq_none (by simp;omega),List.getElem?_eq_none (by rw[jC];omega)]
theorem xV:(List.replicate 128 (Value.bool false)).set 127 (.bool true)=rowOf (fun w=> w==127):=by kernel_rfl
theorem YM(f:Nat->Bool):(rowOf f).all single=true:=by
 rw[List.all_eq_true];intro x hx;obtain⟨i,_,rfl⟩:=List.mem_map.1 hx;rfl
theorem TK(f:Nat->Bool):Nat.beq (rowOf f).length 128=true:=by rw[jC];rfl
def toV(v:Nat)(o:Int×Int):Nat:=nD v o.1.toNat
def DI(os:List (Int×Int))(R:Nat->Bool)(v j w:Nat):Bool:=((List.range v).any fun u=> (os.any fun o=> toV u o==w)&&R u)||(((os.take j).any fun o=> toV v o==w)&&R v)
def QB.BA(s:QB):Nat->Nat->Bool
 | 0,w=> w==127
 | k+1,w=> DI (s.opts (s.ps[k]?.getD 0) k) (s.BA k) 128 0 w
def QB.reach(s:QB):Nat->Bool:=s.BA s.ps.length
theorem D6(os:List (Int×Int))(R:Nat->Bool)(w:Nat):DI os R 0 0 w=false:=by simp[DI]
theorem B6 {os:List (Int×Int)}{R:Nat->Bool}{v j:Nat}{o:Int×Int}(h:os[j]? =some o)(w:Nat):DI os R v (j+1) w=(DI os R v j w||((toV v o==w)&&R v)):=by
 have NB:=(List.getElem?_eq_some_iff.1 h).1;have e:os.take (j+1)=os.take j++[o]:=by
  rw[List.take_succ_eq_append_getElem NB]
  congr 2
  exact Option.some.inj ((List.getElem?_eq_getElem NB).symm.trans h)
 unfold DI;rw[e,List.any_append];simp only[List.any_cons,List.any_nil,Bool.or_false,Bool.or_assoc,Bool.and_or_distrib_right]
theorem A6(os:List (Int×Int))(R:Nat->Bool)(v w:Nat):DI os R v os.length w=DI os R (v+1) 0 w:=by
 unfold DI;rw[List.take_length,List.range_succ,List.any_append];simp
theorem A7 {H:View}{mb:Nat}{x:Bool×Obj}(hM:H mb=some x):((H.aB mb).plus (View.put (fun _=> none) mb x)).le H/\Dj (H.aB mb) (View.put (fun _=> none) mb x):=by
 refine⟨fun b y hb=> ?_,fun b y hb=> ?_⟩
 ·unfold View.plus at hb;split at hb
  ·rename_i z hz
   cases hb
   by_cases e:b=mb
   ·subst e;simp[View.aB] at hz
   ·rw[HA e] at hz;exact hz
  ·by_cases e:b=mb
   ·subst e;rw[View.bB] at hb;cases hb
    exact hM
   ·rw[View.GA _ _ e] at hb;cases hb
 ·by_cases e:b=mb
  ·subst e;simp[View.aB]
  ·rw[View.GA _ _ e] at hb;cases hb
theorem R6 {Hj Hm:View}{mb:Nat}{x:Bool×Obj}(hd:Dj Hj (Hm.put mb x)):(Hj.plus (Hm.put mb x)) mb=some x:=by rw[BB (hd mb x (View.bB ..)),View.bB]
theorem nV {Hj Hm:View}{mb:Nat}{x:Bool×Obj}(hd:Dj Hj (Hm.put mb x))(wT:Hm mb=none):Hm.le (Hj.plus (Hm.put mb x)):=fun b y hb=> by
 have uB:b≠mb:=by rintro rfl;rw[wT] at hb;cases hb
 have h1:(Hm.put mb x) b=some y:=by rw[View.GA _ _ uB];exact hb
 rw[BB (hd b y h1)];exact h1
structure MSt where
 k:Nat
 Hm:View
 es:Array MapEntry
 cl:Nat
 row:List Value
section
variable(M:Md prog)(H:View)
theorem aAG(s:QB)(dC:s.Ok)(eb ec mb:Nat)(hE:aL H s eb)(hM:H mb=some (true,.map #[] 0)):
  aA M 231 #[s.val eb ec mb] H (fun v H'=> (∀b x,b≠mb->H b=some x->H' b=some x)/\v=.agg ⟨rowOf s.reach⟩):=by
 obtain⟨ef,ees,eet,eez,s8,SW⟩:=hE;have uB:eb≠mb:=by rintro rfl;rw[s8] at hM;cases hM
 obtain⟨eC,O1⟩:=A7 hM;have hEj:(H.aB mb) eb=some (ef,.cells ⟨ees⟩ eet eez):=by rw[HA uB];exact s8
 have h6:=dC.ps6;refine .en func231 ntmps231 fun St c cs hK=> ?_;refine Tc.lower eC ?_;refine U2 ?_;refine .bo fun b1=> ?_;refine .al fun b2=> ?_;refine U4 ?_;refine .al fun b3=> ?_;have g0:(List.replicate 128 (Value.bool false)).set 127 (.bool true)=rowOf (s.BA 0):=xV;refine .e (Or.storeT (E:=en) 0 rfl rfl rfl rfl rfl rfl rfl rfl rfl rfl g0 ?_);refine YD ?_;have PZ:=dC.places;refine Tc.db (Tc.rI (σ:= { x:MSt//x.k<=s.ps.length/\Dj (H.aB mb) (x.Hm.put mb (true,.map x.es x.cl))/\x.Hm mb=none/\nM x.Hm s x.es.toList/\x.row=rowOf (s.BA x.k) })
  (fun x=> ((H.aB mb).plus (x.1.Hm.put mb (true,.map x.1.es x.1.cl)),[(17,.int .i64 (x.1.k:Nat)),(16,.int .i64 s.ps.length),(15,.slice (some ⟨eb,0,none⟩) s.ps.length ec),(1,.pointer (some ⟨b1,0,none⟩)),(2,.pointer (some ⟨b2,0,none⟩)),(3,.pointer (some ⟨b3,0,none⟩))],
   [(b3,true,.cells ⟨x.1.row⟩ 333 (0,0)),(b2,true,.cells ⟨List.replicate 128 (.bool false)⟩ 333 (0,0)),(b1,true,.cells ⟨(s.val eb ec mb).cells.toList⟩ 331 (0,0))])) (fun x=> s.ps.length-x.1.k) ?_ ⟨⟨0,fun _=> none,#[],0,rowOf (s.BA 0)⟩,Nat.zero_le _,O1,rfl,(fun e he=> by cases he),rfl⟩)
 rintro⟨⟨k,Hm,es,cl,row⟩,g1,g2,g3,g4,g5⟩ lh;simp only at g1 g2 g3 g4 g5;subst g5;show Tc M St _ _ ((H.aB mb).plus (Hm.put mb (true,.map es cl))) _ [(17,.int .i64 (k:Nat)),(16,.int .i64 s.ps.length),(15,.slice (some ⟨eb,0,none⟩) s.ps.length ec),(1,.pointer (some ⟨b1,0,none⟩)),(2,.pointer (some ⟨b2,0,none⟩)),(3,.pointer (some ⟨b3,0,none⟩))]
   [(b3,true,.cells ⟨rowOf (s.BA k)⟩ 333 (0,0)),(b2,true,.cells ⟨List.replicate 128 (.bool false)⟩ 333 (0,0)),(b1,true,.cells ⟨(s.val eb ec mb).cells.toList⟩ 331 (0,0))] _ _
 have ld0:=JP (s.BA k);by_cases ck:k=s.ps.length
 ·have st0:yE (List.replicate 128 (Value.bool false)) 0 (rowOf (s.BA k))=rowOf (s.BA k):=KP _ (by simp);have ln0:=TK (s.BA k);have on0:=YM (s.BA k);refine U9 ?_;refine .x (xA.load (E:=en) 0 rfl rfl rfl rfl ld0) ?_;refine .e (Or.storeT (E:=en) 1 rfl rfl rfl rfl rfl ln0 rfl (by decide +kernel) on0 rfl st0 ?_);refine U ?_;refine Tc.aCz (E:=en) hK func231 results231 (vs:= [.agg ⟨rowOf (s.BA k)⟩]) ⟨⟨1,_,_,_,_,_,_,_,rfl,rfl,rfl,ld0⟩,trivial⟩ ?_;exact fun H' hs=> ⟨fun b x hb hx=> hs.base _ _ (SA (by rw[HA hb];exact hx)),by rw[ck];rfl⟩
 ·have ck2:k<s.ps.length:=by omega
  obtain⟨os,hos⟩:∃os,os=s.opts (s.ps[k]?.getD 0) k:=⟨_,rfl⟩
  have f1:BC true 2 ees (0+(k:Int).toNat*2)=some (VF (s.ps[k]?.getD 0) k):=by rw[show(k:Int).toNat=k by simp];exact SW k ck2
  have hE3:((H.aB mb).plus (Hm.put mb (true,.map es cl))) eb=some (ef,.cells ⟨ees⟩ eet eez):=SA hEj;refine ZF ?_;refine .al fun b5=> ?_;refine U4 ?_;refine .al fun b6=> ?_;refine U4 ?_;refine .x (xA.load (E:=en) 2 rfl rfl rfl rfl ld0) ?_;refine U3 ?_;refine Tc.db (Tc.rI (σ:= { x:MSt//x.k<=128/\Dj (H.aB mb) (x.Hm.put mb (true,.map x.es x.cl))/\x.Hm mb=none/\nM x.Hm s x.es.toList/\x.row=rowOf (DI os (s.BA k) x.k 0) })
   (fun x=> ((H.aB mb).plus (x.1.Hm.put mb (true,.map x.1.es x.1.cl)),[(22,.int .i64 (x.1.k:Nat)),(21,.agg ⟨rowOf (s.BA k)⟩),(17,.int .i64 (k:Nat)),(16,.int .i64 s.ps.length),(15,.slice (some ⟨eb,0,none⟩) s.ps.length ec),(1,.pointer (some ⟨b1,0,none⟩)),(2,.pointer (some ⟨b2,0,none⟩)),(3,.pointer (some ⟨b3,0,none⟩)),(5,.pointer (some ⟨b5,0,none⟩)),(6,.pointer (some ⟨b6,0,none⟩))],
    [(b6,true,.cells ⟨x.1.row⟩ 333 (0,0)),(b5,true,.cells ⟨[.int .i64 ((s.ps[k]?.getD 0:Nat):Int),.int .i64 (k:Nat)]⟩ 270 (0,0)),(b3,true,.cells ⟨rowOf (s.BA k)⟩ 333 (0,0)),(b2,true,.cells ⟨List.replicate 128 (.bool false)⟩ 333 (0,0)),(b1,true,.cells ⟨(s.val eb ec mb).cells.toList⟩ 331 (0,0))])) (fun x=> 128-x.1.k) ?_ ⟨⟨0,Hm,es,cl,List.replicate 128 (.bool false)⟩,Nat.zero_le _,g2,g3,g4,LX (fun i _=> D6 ..)⟩)
  rintro⟨⟨v,Hm,es,cl,row⟩,v1,v2,v3,v4,v5⟩ mh;simp only at v1 v2 v3 v4 v5;subst v5;show Tc M St _ _ ((H.aB mb).plus (Hm.put mb (true,.map es cl))) _ [(22,.int .i64 (v:Nat)),(21,.agg ⟨rowOf (s.BA k)⟩),(17,.int .i64 (k:Nat)),(16,.int .i64 s.ps.length),(15,.slice (some ⟨eb,0,none⟩) s.ps.length ec),(1,.pointer (some ⟨b1,0,none⟩)),(2,.pointer (some ⟨b2,0,none⟩)),(3,.pointer (some ⟨b3,0,none⟩)),(5,.pointer (some ⟨b5,0,none⟩)),(6,.pointer (some ⟨b6,0,none⟩))]
    [(b6,true,.cells ⟨rowOf (DI os (s.BA k) v 0)⟩ 333 (0,0)),(b5,true,.cells ⟨[.int .i64 ((s.ps[k]?.getD 0:Nat):Int),.int .i64 (k:Nat)]⟩ 270 (0,0)),(b3,true,.cells ⟨rowOf (s.BA k)⟩ 333 (0,0)),(b2,true,.cells ⟨List.replicate 128 (.bool false)⟩ 333 (0,0)),(b1,true,.cells ⟨(s.val eb ec mb).cells.toList⟩ 331 (0,0))] _ _
  by_cases cv:v=128
  ·subst cv;have ld1:=JP (DI os (s.BA k) 128 0);have st1:yE (rowOf (s.BA k)) 0 (rowOf (DI os (s.BA k) 128 0))=rowOf (DI os (s.BA k) 128 0):=KP _ (jC _);have ln1:=TK (DI os (s.BA k) 128 0);have on1:=YM (DI os (s.BA k) 128 0);have ble:Nat.ble (0+128) (rowOf (s.BA k)).length=true:=by rw[jC];rfl
   have e1:rowOf (DI os (s.BA k) 128 0)=rowOf (s.BA (k+1)):=by subst hos;rfl
   refine U8 ?_;refine .x (xA.load (E:=en) 0 rfl rfl rfl rfl ld1) ?_;refine .e (Or.storeT (E:=en) 2 rfl rfl rfl rfl rfl ln1 rfl ble on1 rfl st1 ?_);refine U6 ?_;have lh':=lh ⟨⟨k+1,Hm,es,cl,rowOf (DI os (s.BA k) 128 0)⟩,by show k+1<=_;omega,v2,v3,v4,e1⟩ (by show _-(k+1)<_-k;omega);exact Tc.db lh'
  ·have cv2:v<128:=by omega
   have hEb:aL ((H.aB mb).plus (Hm.put mb (true,.map es cl))) s eb:=⟨ef,ees,eet,eez,SA hEj,SW⟩
   have f2:BC false 1 (rowOf (s.BA k)) ((v:Int).toNat*1)=some (.bool (s.BA k v)):=by
    show(rowOf (s.BA k))[(v:Int).toNat*1]? =_;rw[show(v:Int).toNat*1=v by simp];exact tD _ cv2
   refine SE ?_;refine .x (xA.index (E:=en) rfl rfl rfl rfl rfl rfl oM oM f2) ?_;refine U7 ?_;refine To.sB rfl rfl rfl rfl rfl rfl dE (CB.h (J0 M _ s dC eb ec mb es cl (s.ps[k]?.getD 0) k hEb (R6 v2) Hm v4 (nV v2 v3) v3 ck2 rfl)) (fun w H1 hw=> ?_);obtain⟨Hm1,es1,cl1,XC,hd1,aG5,aBY,UH,hm1⟩:=aAy v2 hw;refine To.lower XC ?_;have aBg:=UH;obtain⟨⟨oa,oc,cW⟩, -, -⟩:=UH;subst cW;refine U4 ?_;have hol:=QB.J6 dC (s.ps[k]?.getD 0) k;rw[<-hos] at hol aBg;rw[<-hos];refine Tc.db (Tc.sA (σ:= { x:Nat×List Value//x.1<=os.length/\x.2=rowOf (DI os (s.BA k) v x.1) })
    (fun x=> ([(30,.int .i64 (x.1.1:Nat)),(29,.int .i64 (os.length:Nat)),(28,.slice oa os.length oc),(7,.int .i64 (v:Nat)),(8,.bool (s.BA k v)),(22,.int .i64 (v:Nat)),(21,.agg ⟨rowOf (s.BA k)⟩),(17,.int .i64 (k:Nat)),(16,.int .i64 s.ps.length),(15,.slice (some ⟨eb,0,none⟩) s.ps.length ec),(1,.pointer (some ⟨b1,0,none⟩)),(2,.pointer (some ⟨b2,0,none⟩)),(3,.pointer (some ⟨b3,0,none⟩)),(5,.pointer (some ⟨b5,0,none⟩)),(6,.pointer (some ⟨b6,0,none⟩))],
     [(b6,true,.cells ⟨x.1.2⟩ 333 (0,0)),(b5,true,.cells ⟨[.int .i64 ((s.ps[k]?.getD 0:Nat):Int),.int .i64 (k:Nat)]⟩ 270 (0,0)),(b3,true,.cells ⟨rowOf (s.BA k)⟩ 333 (0,0)),(b2,true,.cells ⟨List.replicate 128 (.bool false)⟩ 333 (0,0)),(b1,true,.cells ⟨(s.val eb ec mb).cells.toList⟩ 331 (0,0))])) (fun x=> os.length-x.1.1) ?_ ⟨(0,rowOf (DI os (s.BA k) v 0)),Nat.zero_le _,rfl⟩)
   rintro⟨⟨j,row⟩,j1,j2⟩ jh;simp only at j1 j2;subst j2;show Tc M St _ _ ((H.aB mb).plus (Hm1.put mb (true,.map es1 cl1))) _ [(30,.int .i64 (j:Nat)),(29,.int .i64 (os.length:Nat)),(28,.slice oa os.length oc),(7,.int .i64 (v:Nat)),(8,.bool (s.BA k v)),(22,.int .i64 (v:Nat)),(21,.agg ⟨rowOf (s.BA k)⟩),(17,.int .i64 (k:Nat)),(16,.int .i64 s.ps.length),(15,.slice (some ⟨eb,0,none⟩) s.ps.length ec),(1,.pointer (some ⟨b1,0,none⟩)),(2,.pointer (some ⟨b2,0,none⟩)),(3,.pointer (some ⟨b3,0,none⟩)),(5,.pointer (some ⟨b5,0,none⟩)),(6,.pointer (some ⟨b6,0,none⟩))]
     [(b6,true,.cells ⟨rowOf (DI os (s.BA k) v j)⟩ 333 (0,0)),(b5,true,.cells ⟨[.int .i64 ((s.ps[k]?.getD 0:Nat):Int),.int .i64 (k:Nat)]⟩ 270 (0,0)),(b3,true,.cells ⟨rowOf (s.BA k)⟩ 333 (0,0)),(b2,true,.cells ⟨List.replicate 128 (.bool false)⟩ 333 (0,0)),(b1,true,.cells ⟨(s.val eb ec mb).cells.toList⟩ 331 (0,0))] _ _
   by_cases cj:j=os.length
   ·have e2:rowOf (DI os (s.BA k) v j)=rowOf (DI os (s.BA k) (v+1) 0):=by rw[cj];exact wV fun w _=> A6 ..
    refine SE ?_;have mh':=mh ⟨⟨v+1,Hm1,es1,cl1,rowOf (DI os (s.BA k) v j)⟩,by show v+1<=_;omega,hd1,aBY,hm1,e2⟩ (by show _-(v+1)<_-v;omega);exact Tc.db mh'
   ·have cj2:j<os.length:=by omega
    obtain⟨⟨o1,o2⟩,bW⟩:∃o,os[j]? =some o:=⟨_,List.getElem?_eq_getElem cj2⟩
    have zS:=bW;rw[hos] at zS;have aB3:=QB.aAz (List.mem_of_getElem? zS);simp only at aB3;obtain⟨on,rfl⟩:=Int.eq_ofNat_of_zero_le aB3.1;have hon:on<8:=by
     have h7:(on:Int)<=7:=aB3.2;omega
    obtain⟨ob,off,oc',of,ocs,oe,ofz,ho1,ho2,ho3⟩:=aEY (hos▸aBg) zS;rw[<-hos] at ho1;cases ho1
    have aG9:ob≠mb:=by rintro rfl;rw[aBY] at ho2;cases ho2
    have hob:((H.aB mb).plus (Hm1.put mb (true,.map es1 cl1))) ob=some (of,.cells ⟨ocs⟩ oe ofz):=nV hd1 aBY _ _ ho2;have f3:BC true 2 ocs (off+(j:Int).toNat*2)=some (.agg ⟨[.int .i64 (on:Nat),.int .i64 o2]⟩):=by rw[show(j:Int).toNat=j by simp];exact ho3
    have aEP:=AR v cv2 on hon;have gR:=B6 (R:=s.BA k) (v:=v) bW;have f4:BC false 1 (rowOf (DI os (s.BA k) v j)) (0+((nD v on:Nat):Int).toNat*1)=some (.bool (DI os (s.BA k) v j (nD v on))):=by
     show(rowOf (DI os (s.BA k) v j))[0+((nD v on:Nat):Int).toNat*1]? =_;rw[show 0+((nD v on:Nat):Int).toNat*1=nD v on by simp];exact tD _ aEP
    have f5:yE (rowOf (DI os (s.BA k) v j)) (0+((nD v on:Nat):Int).toNat*1) [.bool (DI os (s.BA k) v j (nD v on)||s.BA k v)]=rowOf (DI os (s.BA k) v (j+1)):=by
     refine S0 aEP (fun u _ hu=> ?_) ?_
     ·rw[gR];have:(toV v ((on:Int),o2)==u)=false:=by simpa [toV] using Ne.symm hu
      rw[this];simp
     ·rw[gR];simp[toV]
    have f6:Nat.ble (0+((nD v on:Nat):Int).toNat*1+1) (rowOf (DI os (s.BA k) v j)).length=true:=by
     rw[jC];exact Nat.ble_eq_true_of_le (by simp;omega)
    have f7:IntKind.u8.wrap (v:Int)=(v:Int):=by
     have:∀v:Nat,v<128->IntKind.u8.wrap (v:Int)=(v:Int):=by decide +kernel
     exact this v cv2
    refine ZF ?_;refine .al fun b10=> ?_;refine U8 ?_;refine .cl (fun H hs=> P7 M H v on cv2 hon) ?_;refine U2 ?_;cases hnv:DI os (s.BA k) v j (nD v on) with
    | true=>
     rw[hnv] at f4 f5;refine lN ?_;have jh':=jh ⟨(j+1,rowOf (DI os (s.BA k) v (j+1))),by show j+1<=_;omega,rfl⟩ (by show _-(j+1)<_-j;omega);exact Tc.db jh'
    | false=>
     rw[hnv] at f4 f5;refine lN ?_;have jh':=jh ⟨(j+1,rowOf (DI os (s.BA k) v (j+1))),by show j+1<=_;omega,rfl⟩ (by show _-(j+1)<_-j;omega);exact Tc.db jh'
end
end Go.Proofs.YtldmfjcgjdchcaaGreatDoor.Sg
