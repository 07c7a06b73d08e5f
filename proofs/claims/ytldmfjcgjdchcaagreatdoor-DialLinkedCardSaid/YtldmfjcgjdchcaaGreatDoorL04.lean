/-
 Texts of the proofs over baudot/dial.
-/
import Derived.Test.YtldmfjcgjdchcaaGreatDoorL03
import Derived.Laws.RangeAny
namespace Go.Proofs.YtldmfjcgjdchcaaGreatDoor
open Go.RL Go.Proofs.Tryz
set_option maxRecDepth 10000
set_option maxHeartbeats 4000000
structure YF where
 heard:List UInt8
 pend:Nat
 deaf:Bool
 deriving DecidableEq
def B4(s:List UInt8)(m:Nat)(d:Bool):Value:=.agg ⟨[mA s,.int .i64 (m:Nat),.bool d]⟩
def YF.val(e:YF):Value:=B4 e.heard e.pend e.deaf
def tE(n:Nat):UInt8:=UInt8.ofNat (48+n%10)
def YF.hear(e:YF)(p:Nat)(kd:Nat):YF:=
 if e.deaf then e else if kd=0 then⟨e.heard,e.pend+p,false⟩ else if 10<e.pend+p then⟨e.heard,0,true⟩ else⟨e.heard++[tE (e.pend+p)],0,decide (kd=2)⟩
def Bk.kind(k:Bk)(aA6:Int):Nat:=if aA6<k.CB then 0 else if aA6<k.TB then 1 else 2
theorem aBt:∀n:Nat,n<10->([48,49,50,51,52,53,54,55,56,57]:List UInt8)[n]? =some (tE n):=by decide
theorem aBu(n:Nat):(tE n).toNat<128:=by
 unfold tE;have:n%10<10:=Nat.mod_lt _ dE;rw[UInt8.toNat_ofNat'];omega
theorem kY(n:Nat):tE (n%10)=tE n:=by unfold tE;rw[Nat.mod_mod]
section
variable(M:Md prog)(H:View)
theorem fX(k:Bk)(A:Option Addr)(lc:Nat)(B:Option Addr)(tc:Nat)(p:Int):bA M 87 #[k.val A lc B tc,.int .i64 p] H (fun v H'=> H.le H'/\v=.int .i64 (k.kind p:Nat)):=by
 by_cases c1:p<k.CB
 ·have e:k.kind p=0:=if_pos c1;rw[e];refine .en func87 ntmps87 fun St c cs hK=> ?_;refine U2 ?_;refine .bo fun b2=> ?_;refine QT ?_;refine .rt hK func87 results87 [_] ?_;exact okB
 ·by_cases c2:p<k.TB
  ·have e:k.kind p=1:=by unfold Bk.kind;rw[if_neg c1,if_pos c2]
   rw[e];refine .en func87 ntmps87 fun St c cs hK=> ?_;refine U2 ?_;refine .bo fun b2=> ?_;refine U28 ?_;refine .rt hK func87 results87 [_] ?_;exact okB
  ·have e:k.kind p=2:=by unfold Bk.kind;rw[if_neg c1,if_neg c2]
   rw[e];refine .en func87 ntmps87 fun St c cs hK=> ?_;refine U2 ?_;refine .bo fun b2=> ?_;refine U30 ?_;refine .rt hK func87 results87 [_] ?_;exact okB
theorem Z4(e:YF)(p kd:Nat)(hh:e.heard.length<=1000)(hp:e.pend<=1000)(hp2:p<=1000)(hk:kd<=2):bA M 86 #[e.val,.int .i64 (p:Nat),.int .i64 (kd:Nat)] H (fun v H'=> H.le H'/\v=(e.hear p kd).val):=by
 obtain⟨s,m,df⟩:=e;simp only at hh hp;show bA M 86 #[B4 s m df,.int .i64 (p:Nat),.int .i64 (kd:Nat)] H _;cases df with
 | true=>
  refine .en func86 ntmps86 fun St c cs hK=> ?_;refine U2 ?_;refine .bo fun b3=> ?_;refine .al fun b6=> ?_;refine CG ?_;refine .rt hK func86 results86 [_] ?_;exact okB
 | false =>
  obtain⟨q,hq⟩:∃q,m+p=q:=⟨_,rfl⟩
  have hmp:((m:Nat):Int)+((p:Nat):Int)=((q:Nat):Int):=by omega
  by_cases k0:kd=0
  ·subst k0;have e1:(⟨s,m,false⟩:YF).hear p 0=⟨s,q,false⟩:=by unfold YF.hear;simp[hq]
   rw[e1];refine .en func86 ntmps86 fun St c cs hK=> ?_;refine U2 ?_;refine .bo fun b3=> ?_;refine .al fun b6=> ?_;refine QE ?_;refine .al fun b7=> ?_;refine lD ?_;rw[hmp];refine U33 ?_;refine .rt hK func86 results86 [_] ?_;exact okB
  ·by_cases c1:10<q
   ·have e1:(⟨s,m,false⟩:YF).hear p kd=⟨s,0,true⟩:=by unfold YF.hear;simp[hq,k0,c1]
    rw[e1];rcases(by omega:kd=1\/kd=2) with rfl|rfl
    ·refine .en func86 ntmps86 fun St c cs hK=> ?_;refine U2 ?_;refine .bo fun b3=> ?_;refine .al fun b6=> ?_;refine QE ?_;refine .al fun b7=> ?_;refine lD ?_;rw[hmp];refine U53 ?_;refine .rt hK func86 results86 [_] ?_;exact okB
    ·refine .en func86 ntmps86 fun St c cs hK=> ?_;refine U2 ?_;refine .bo fun b3=> ?_;refine .al fun b6=> ?_;refine QE ?_;refine .al fun b7=> ?_;refine lD ?_;rw[hmp];refine U51 ?_;refine .rt hK func86 results86 [_] ?_;exact okB
   ·have e1:(⟨s,m,false⟩:YF).hear p kd=⟨s++[tE q],0,decide (kd=2)⟩:=by unfold YF.hear;simp[hq,k0,c1]
    rw[e1];have a2:pA .rem .i64 (q:Nat) 10=some (.int .i64 ((q%10:Nat):Int)):=by rw[rem_in oM oM];rfl
    have a3:([48,49,50,51,52,53,54,55,56,57]:List UInt8)[((q%10:Nat):Int).toNat]? =some (tE q):=by
     rw[Int.toNat_natCast,aBt _ (Nat.mod_lt _ dE),kY]
    have a4:=aBu q;have a5:(UInt8.ofNat (tE q).toNat)=tE q:=UInt8.ofNat_toNat;rcases(by omega:kd=1\/kd=2) with rfl|rfl
    ·refine .en func86 ntmps86 fun St c cs hK=> ?_;refine U2 ?_;refine .bo fun b3=> ?_;refine .al fun b6=> ?_;refine QE ?_;refine .al fun b7=> ?_;refine lD ?_;rw[hmp];refine U43 ?_;refine Tc.dr [8] [0] mixed rfl ?_;refine V5 0 ?_;refine .q 5 rfl (qA.aAX (E:=en) rfl rfl oM rfl rfl rfl rfl) ?_;refine .q 6 rfl (qA.fF rfl rfl rfl (by exact bJ (by simp <;> omega))) ?_;refine .nn 7 ?_;refine .e 8 0 ?_;refine .dn ?_;refine U6 ?_;refine .rt hK func86 results86 [_] ?_;exact fun H' hs=> ⟨hs.base,by rw[a5];rfl⟩
    ·refine .en func86 ntmps86 fun St c cs hK=> ?_;refine U2 ?_;refine .bo fun b3=> ?_;refine .al fun b6=> ?_;refine QE ?_;refine .al fun b7=> ?_;refine lD ?_;rw[hmp];refine U41 ?_;refine Tc.dr [8] [0] mixed rfl ?_;refine V5 0 ?_;refine .q 5 rfl (qA.aAX (E:=en) rfl rfl oM rfl rfl rfl rfl) ?_;refine .q 6 rfl (qA.fF rfl rfl rfl (by exact bJ (by simp <;> omega))) ?_;refine .nn 7 ?_;refine .e 8 0 ?_;refine .dn ?_;refine U6 ?_;refine .rt hK func86 results86 [_] ?_;exact fun H' hs=> ⟨hs.base,by rw[a5];rfl⟩
end
def WB(num s:List UInt8):Bool:=pB num s||pB s num
def Bk.clash(k:Bk)(s:List UInt8):Bool:=(jA (fun i=> WB (k.num i) s) k.nl).isSome
def BD(c:UInt8):Bool:=decide (48<=c.toNat/\c.toNat<58)
def bL:List UInt8:= [48,49,50,51,52,53,54,55,56,57]
def xE(i:Nat):List Value:=(List.range 256).map fun j=> .bool (decide (48<=j/\j<48+i))
def wG(s:List UInt8):List UInt8:=(s.reverse.dropWhile BD).reverse
def sR(s:List UInt8):List UInt8:=(wG s).dropWhile BD
def isNum(s:List UInt8):Bool:=decide (1<=s.length/\s.length<=3)&&s.all BD
theorem lU:xE 0=List.replicate 256 (.bool false):=by kernel_rfl
theorem sZ:∀i,i<10->HF (xE i) (0+((48+i:Nat):Int).toNat*1) [.bool true]=xE (i+1):=by
 intro i hi;rcases(by omega:i=0\/i=1\/i=2\/i=3\/i=4\/i=5\/i=6\/i=7\/i=8\/i=9) with rfl|rfl|rfl|rfl|rfl|rfl|rfl|rfl|rfl|rfl <;> kernel_rfl
theorem rZ(c:UInt8):gD false 1 (xE 10) (0+((c.toNat:Nat):Int).toNat*1)=some (.bool (BD c)):=by
 show(xE 10)[_]? =_;have:c.toNat<256:=c.toNat_lt;unfold xE BD;rw[List.getElem?_map,Int.toNat_natCast,Nat.mul_one,Nat.zero_add,List.getElem?_range this];rfl
theorem D9:∀i,i<10->bL[i]? =some (UInt8.ofNat (48+i)):=by decide
theorem KX(s:List UInt8)(c:UInt8)(h:BD c=true):wG (s++[c])=wG s:=by
 unfold wG;rw[List.reverse_append];simp[h]
theorem LX(s:List UInt8)(c:UInt8)(h:BD c=false):wG (s++[c])=s++[c]:=by
 unfold wG;rw[List.reverse_append];simp[h]
theorem S0(s:List UInt8):(sR s== [])=s.all BD:=by
 have h:sR s= []<->∀c∈s,BD c=true:=by
  unfold sR wG;constructor
  ·intro h c hc;have h1:∀l:List UInt8,l.dropWhile BD= []->∀c∈l,BD c=true:=by
    intro l;induction l with
    | nil=> simp
    | cons x t ih=>
     rw[List.dropWhile_cons];split
     ·rename_i hx
      intro h c hc;rcases List.mem_cons.1 hc with rfl|hc
      ·exact hx
      ·exact ih h c hc
     ·intro h;cases h
   have h2:=h1 _ h;have h3:∀l:List UInt8,(∀c∈l.dropWhile BD,BD c=true)->∀c∈l,BD c=true:=by
    intro l;induction l with
    | nil=> simp
    | cons x t ih=>
     rw[List.dropWhile_cons];split
     ·rename_i hx
      intro h c hc;rcases List.mem_cons.1 hc with rfl|hc
      ·exact hx
      ·exact ih h c hc
     ·intro h c hc;exact h c hc
   exact h3 s.reverse (fun c hc=> h2 c (List.mem_reverse.2 hc)) c (List.mem_reverse.2 hc)
  ·intro h;have h1:∀l:List UInt8,(∀c∈l,BD c=true)->l.dropWhile BD= []:=by
    intro l;induction l with
    | nil=> simp
    | cons x t ih=>
     intro h;rw[List.dropWhile_cons,if_pos (h x (List.mem_cons_self ..))];exact ih fun c hc=> h c (List.mem_cons_of_mem _ hc)
   rw[h1 s.reverse (fun c hc=> h c (List.mem_reverse.1 hc))];rfl
 rw[Bool.eq_iff_iff,beq_iff_eq,h,List.all_eq_true]
section
variable(M:Md prog)(H:View)
theorem MD(s p:List UInt8)(t:Bool)(h:pB s p=t):bA M 146 #[mA s,mA p] H (fun v H'=> H.le H'/\v=.bool t):=
 bA.mono (mF M H s p) (by rintro v H' ⟨h1,h2⟩;rw[h] at h2;exact⟨h1,h2⟩)
theorem B2(k:Bk)(A:Option Addr)(lc:Nat)(hA:BC H k A lc)(hn:k.nl<=1000)(fv:Value)(p:Nat->Bool)(hp:E8 M H fv k p):
  bA M 281 #[.slice A k.nl lc,fv] H (fun v H'=> H.le H'/\v=.int .i64 (iB (jA p k.nl))):=by
 refine .en func281 ntmps281 fun St c cs hK=> ?_;refine NF ?_;refine Tc.db (Tc.tA (σ:= { j:Nat//j<=k.nl/\jA p j=none }) (fun j=> ([(0,.slice A k.nl lc),(1,fv),(7,.int .i64 (k.nl:Nat)),(8,.int .i64 (j.1:Nat))],[])) (fun j=> k.nl-j.1) ?_ ⟨0,Nat.zero_le _,rfl⟩);rintro⟨j,hj,PC⟩ ih;show Tc M St _ _ _ _ [(0,.slice A k.nl lc),(1,fv),(7,.int .i64 (k.nl:Nat)),(8,.int .i64 (j:Nat))] [] _ _;by_cases c1:j=k.nl
 ·subst c1;rw[PC] at hK;refine PE ?_;refine .rt hK func281 results281 [_] ?_;exact okB
 ·have c2:j<k.nl:=by omega
  obtain⟨_,h0|⟨ab,ao,f,gs,gt,gz,rfl,hb,hl⟩⟩:=hA
  ·omega
  obtain⟨F,fc,f1,_,_⟩:=hl j c2;have TL:=hp j c2 F fc;cases IG:p j with
  | true=>
   rw[IG] at TL;have e:jA p k.nl=some j:=fB (j:=j+1) (by simp[jA,PC,IG]) _ oM;rw[e] at hK;refine wQ ?_;refine .c rfl rfl rfl rfl (fun H hs=> TL H hs.base) ?_;refine U7 ?_;refine .rt hK func281 results281 [_] ?_;exact okB
  | false=>
   rw[IG] at TL;refine wQ ?_;refine .c rfl rfl rfl rfl (fun H hs=> TL H hs.base) ?_;refine U8 ?_;exact Tc.db (ih ⟨j+1,oM,by simp[jA,PC,IG]⟩ (by simp only;omega))
theorem CD(k:Bk)(A:Option Addr)(lc:Nat)(hA:BC H k A lc)(hn:k.nl<=1000)(fv:Value)(p:Nat->Bool)(hp:E8 M H fv k p):
  bA M 223 #[.slice A k.nl lc,fv] H (fun v H'=> H.le H'/\v=.bool (jA p k.nl).isSome):=by
 have hi:=fun(H':View) (h':H.le H')=> B2 M H' k A lc (hA.le h') hn fv p (fun i hi F fc H'' hle=> hp i hi F fc H'' (View.le_trans h' hle));cases hq:jA p k.nl with
 | none=>
  rw[hq] at hi;have e:iB none= -1:=rfl;rw[e] at hi;refine .en func223 ntmps223 fun St c cs hK=> ?_;refine U8 ?_;refine .cl (fun H hs=> hi H hs.base) ?_;refine U3 ?_;refine .rt hK func223 results223 [_] ?_;exact okB
 | some j=>
  rw[hq] at hi;have e:iB (some j)=(j:Nat):=rfl;rw[e] at hi;refine .en func223 ntmps223 fun St c cs hK=> ?_;refine U8 ?_;refine .cl (fun H hs=> hi H hs.base) ?_;refine U3 ?_;refine .rt hK func223 results223 [_] ?_;exact okB
theorem R3(s:List UInt8)(b3:Nat)(f:Bool)(hb:H b3=some (f,.cells ⟨[mA s]⟩ 9 (0,0)))(a num:List UInt8)(F:Option Addr)(n fc:Nat):
  bA M 224 #[gN a num F n fc,.pointer (some ⟨b3,0,none⟩)] H (fun v H'=> H.le H'/\v=.bool (WB num s)):=by
 cases h1:pB num s with
 | true=>
  have e:WB num s=true:=by unfold WB;rw[h1];rfl
  rw[e];refine .en func224 ntmps224 fun St c cs hK=> ?_;refine U2 ?_;refine .bo fun b2=> ?_;refine U7 ?_;refine .cl (fun H hs=> MD M H num s true h1) ?_;refine U8 ?_;refine .rt hK func224 results224 [_] ?_;exact okB
 | false=>
  have e:WB num s=pB s num:=by unfold WB;rw[h1];rfl
  rw[e];refine .en func224 ntmps224 fun St c cs hK=> ?_;refine U2 ?_;refine .bo fun b2=> ?_;refine U7 ?_;refine .cl (fun H hs=> MD M H num s false h1) ?_;refine U4 ?_;refine .cl (fun H hs=> mF M H s num) ?_;refine U3 ?_;refine .rt hK func224 results224 [_] ?_;exact okB
theorem RE(k:Bk)(A:Option Addr)(lc:Nat)(hA:BC H k A lc)(hn:k.nl<=1000)(s:List UInt8):
  bA M 137 #[.slice A k.nl lc,mA s] H (fun v H'=> H.le H'/\v=.bool (k.clash s)):=by
 refine .en func137 ntmps137 fun St c cs hK=> ?_;refine U2 ?_;refine .bo fun b3=> ?_;refine U6 ?_;refine .cl (fun H hs=> CD M H k A lc (hA.le hs.base) hn _ (fun i=> WB (k.num i) s) (fun i _ F fc H' hle=> uB.of (first:= []) (captured:= [_]) aD8 rfl (R3 M H' s b3 true (hle _ _ (hs.get (i:=0) rfl)) (k.name i) (k.num i) F (k.nf i) fc))) ?_;refine U2 ?_;refine .rt hK func137 results137 [_] ?_;exact okB
theorem AH(b:Nat)(f:Bool)(gt:TypeId)(gz:Nat×Nat)(hb:H b=some (f,.cells ⟨xE 10⟩ gt gz))(c0:UInt8):
  bA M 251 #[.pointer (some ⟨b,0,none⟩),.int .u8 (c0.toNat:Nat)] H (fun v H'=> H.le H'/\v=.bool (BD c0)):=by
 have f1:=rZ c0;have f2:=c0.toNat_lt;refine .en func251 ntmps251 fun St c cs hK=> ?_;refine CG ?_;refine .rt hK func251 results251 [_] ?_;exact okB
end
section
variable(M:Md prog)(H:View)
theorem NZ:bA M 190 #[mA bL] H (fun v H'=> H.le H'/\v=.tuple ⟨[.agg ⟨xE 10⟩,.bool true]⟩):=by
 refine .en func190 ntmps190 fun St c cs hK=> ?_;refine U2 ?_;refine .al fun b2=> ?_;refine U8 ?_;refine Tc.rC (Tc.tA (σ:= { i:Nat//i<=10 }) (fun i=> ([(0,mA bL),(2,.pointer (some ⟨b2,0,none⟩)),(4,.int .i64 (i.1:Nat))],[(b2,true,.cells ⟨xE i.1⟩ 294 (0,0))])) (fun i=> 10-i.1) ?_ ⟨0,oM⟩) ⟨rfl,rfl,rfl,trivial⟩ (by rw[lU];exact List.Sublist.refl _);rintro⟨i,hi⟩ ih;show Tc M St _ _ _ _ [(0,mA bL),(2,.pointer (some ⟨b2,0,none⟩)),(4,.int .i64 (i:Nat))] [(b2,true,.cells ⟨xE i⟩ 294 (0,0))] _ _;have PQ:(bL.length:Nat)=10:=rfl;by_cases c1:i=10
 ·subst c1;refine vQ ?_;refine .rt hK func190 results190 [_,_] ?_;exact okB
 ·have c2:i<10:=by omega
  have f1:bL[((i:Nat):Int).toNat]? =some (UInt8.ofNat (48+i)):=by rw[Int.toNat_natCast];exact D9 i c2
  have f2:(UInt8.ofNat (48+i)).toNat=48+i:=by rw[UInt8.toNat_ofNat'];omega
  have f3:=sZ i c2;have f4:Nat.ble (0+((48+i:Nat):Int).toNat*1+1) (xE i).length=true:=by
   refine Nat.ble_eq_true_of_le ?_;rw[Int.toNat_natCast];unfold xE;rw[List.length_map,List.length_range];omega
  refine YP ?_;rw[f2];refine YP ?_;exact Tc.db (ih ⟨i+1,oM⟩ (by simp only;omega))
theorem FV(b:Nat)(f:Bool)(gt:TypeId)(gz:Nat×Nat)(hb:H b=some (f,.cells ⟨xE 10⟩ gt gz))(s:List UInt8)(hl:s.length<=1000000):
  bA M 192 #[mA s,.pointer (some ⟨b,0,none⟩)] H (fun v H'=> H.le H'/\v=mA (wG s)):=by
 refine .en func192 ntmps192 fun St c cs hK=> ?_;refine U6 ?_;refine Tc.db (Tc.tA (σ:= { r:List UInt8//wG r=wG s/\r.length<=s.length }) (fun r=> ([(0,mA r.1),(1,.pointer (some ⟨b,0,none⟩))],[])) (fun r=> r.1.length) ?_ ⟨s,rfl,Nat.le_refl _⟩);rintro⟨r,hr,hlr⟩ ih;show Tc M St _ _ _ _ [(0,mA r),(1,.pointer (some ⟨b,0,none⟩))] [] _ _;have hsn:r= []\/∃q x,r=q++[x]:=by
  rcases List.eq_nil_or_concat r with h|⟨q,x,h⟩
  ·exact .inl h
  ·exact .inr ⟨q,x,by rw[h,List.concat_eq_append]⟩
 rcases hsn with rfl|⟨q,x,rfl⟩
 ·have e:wG s= []:=by rw[<-hr];rfl
  rw[e] at hK;refine QE ?_;refine .rt hK func192 results192 [_] ?_;exact okB
 ·have l1:(q++[x]).length=q.length+1:=by simp
  have f1:(q++[x])[(((q++[x]).length:Nat)-1:Int).toNat]? =some x:=by
   rw[l1,show(((q.length+1:Nat):Int)-1).toNat=q.length by omega];simp
  cases hx:BD x with
  | false=>
   have e:wG s=q++[x]:=by rw[<-hr];exact LX q x hx
   have hc:=fun(H':View) (h':H.le H')=> AH M H' b f gt gz (h' _ _ hb) x;rw[hx] at hc;rw[e] at hK;refine YP ?_;refine .cl (fun H hs=> hc H hs.base) ?_;refine U9 ?_;refine .rt hK func192 results192 [_] ?_;exact okB
  | true=>
   have hc:=fun(H':View) (h':H.le H')=> AH M H' b f gt gz (h' _ _ hb) x;rw[hx] at hc;have e:((q++[x]).drop ((0:Nat):Int).toNat).take ((((q++[x]).length:Nat)-1:Int).toNat-((0:Nat):Int).toNat)=q:=by
    rw[l1,show(((q.length+1:Nat):Int)-1).toNat=q.length by omega];simp
   refine YP ?_;refine .cl (fun H hs=> hc H hs.base) ?_;refine U9 ?_;refine .x (qA.XG (E:=en) rfl rfl rfl rfl rfl rfl oM oM oM) ?_;refine U2 ?_;rw[e];refine U ?_;exact Tc.db (ih ⟨q,by rw[<-hr,KX q x hx],oM⟩ (by simp only;omega))
theorem JX(b:Nat)(f:Bool)(gt:TypeId)(gz:Nat×Nat)(hb:H b=some (f,.cells ⟨xE 10⟩ gt gz))(s:List UInt8)(hl:s.length<=1000000):
  bA M 191 #[mA s,.pointer (some ⟨b,0,none⟩)] H (fun v H'=> H.le H'/\v=mA (s.dropWhile BD)):=by
 refine .en func191 ntmps191 fun St c cs hK=> ?_;refine U6 ?_;refine Tc.db (Tc.tA (σ:= { r:List UInt8//r.dropWhile BD=s.dropWhile BD/\r.length<=s.length }) (fun r=> ([(0,mA r.1),(1,.pointer (some ⟨b,0,none⟩))],[])) (fun r=> r.1.length) ?_ ⟨s,rfl,Nat.le_refl _⟩);rintro⟨r,hr,hlr⟩ ih;show Tc M St _ _ _ _ [(0,mA r),(1,.pointer (some ⟨b,0,none⟩))] [] _ _;rcases r with _|⟨x,q⟩
 ·have e:s.dropWhile BD= []:=by rw[<-hr];rfl
  rw[e] at hK;refine QE ?_;refine .rt hK func191 results191 [_] ?_;exact okB
 ·have l1:(x::q).length=q.length+1:=rfl;have f1:(x::q)[(0:Int).toNat]? =some x:=rfl;cases hx:BD x with
  | false=>
   have e:s.dropWhile BD=x::q:=by rw[<-hr,List.dropWhile_cons,hx];rfl
   have hc:=fun(H':View) (h':H.le H')=> AH M H' b f gt gz (h' _ _ hb) x;rw[hx] at hc;rw[e] at hK;refine vQ ?_;refine .cl (fun H hs=> hc H hs.base) ?_;refine U9 ?_;refine .rt hK func191 results191 [_] ?_;exact okB
  | true=>
   have hc:=fun(H':View) (h':H.le H')=> AH M H' b f gt gz (h' _ _ hb) x;rw[hx] at hc;have e:((x::q).drop (1:Int).toNat).take ((((x::q).length:Nat):Int).toNat-(1:Int).toNat)=q:=by
    rw[l1,show(((q.length+1:Nat):Int)).toNat-(1:Int).toNat=q.length by omega];simp
   refine vQ ?_;refine .cl (fun H hs=> hc H hs.base) ?_;refine U6 ?_;refine .x (qA.XG (E:=en) rfl rfl rfl rfl rfl rfl oM oM oM) ?_;refine U2 ?_;rw[e];refine U ?_;exact Tc.db (ih ⟨q,by rw[<-hr,List.dropWhile_cons,hx];rfl,oM⟩ (by simp only;omega))
theorem aBj(s:List UInt8)(hl:s.length<=1000000):bA M 117 #[mA s,mA bL] H (fun v H'=> H.le H'/\v=mA (sR s)):=by
 rcases s with _|⟨x,q⟩
 ·have e:sR []= []:=rfl;rw[e];refine .en func117 ntmps117 fun St c cs hK=> ?_;refine MR ?_;refine .rt hK func117 results117 [_] ?_;exact okB
 ·have hlr:(wG (x::q)).length<=1000000:=by
   unfold wG;rw[List.length_reverse];have:=(List.dropWhile_sublist BD (l:=(x::q).reverse)).length_le;rw[List.length_reverse] at this;omega
  refine .en func117 ntmps117 fun St c cs hK=> ?_;refine U34 ?_;refine .cl (fun H hs=> NZ M H) ?_;refine U3 ?_;refine .al fun b5=> ?_;refine PE ?_;refine .cl (fun H hs=> FV M H b5 true _ _ (hs.get (i:=0) rfl) (x::q) hl) ?_;refine .cl (fun H hs=> JX M H b5 true _ _ (hs.get (i:=0) rfl) (wG (x::q)) hlr) ?_;refine U2 ?_;refine .rt hK func117 results117 [_] ?_;exact okB
theorem CC(s:List UInt8)(hl:s.length<=1000000):bA M 41 #[mA s] H (fun v H'=> H.le H'/\v=.bool (isNum s)):=by
 by_cases c1:1<=(s.length:Int)/\(s.length:Int)<=3
 ·have e:isNum s=(sR s== []):=by
   unfold isNum;rw[S0];have:decide (1<=s.length/\s.length<=3)=true:=decide_eq_true oM;rw[this];rfl
  rw[e];have hb:=fun(H':View)=> zA M H' (s.length:Nat) 1 3 true (decide_eq_true c1);refine .en func41 ntmps41 fun St c cs hK=> ?_;refine U8 ?_;refine .cl (fun H hs=> hb H) ?_;refine U2 ?_;refine .cl (fun H hs=> aBj M H s hl) ?_;refine U4 ?_;refine .rt hK func41 results41 [_] ?_;exact okB
 ·have e:isNum s=false:=by
   unfold isNum;have:decide (1<=s.length/\s.length<=3)=false:=decide_eq_false oM;rw[this];rfl
  rw[e];have hb:=fun(H':View)=> zA M H' (s.length:Nat) 1 3 false (decide_eq_false c1);refine .en func41 ntmps41 fun St c cs hK=> ?_;refine U8 ?_;refine .cl (fun H hs=> hb H) ?_;refine U7 ?_;refine .rt hK func41 results41 [_] ?_;exact okB
end
def low(c:UInt8):Bool:=decide (97<=c.toNat/\c.toNat<=122)
def rH(s:List UInt8)(i:Nat):Bool:=match s[i]? with
 | some c=> low c||(decide (0<i)&&BD c)
 | none=> true
def bG(p:Nat->Bool):Nat->Bool
 | 0=> true
 | n+1=> bG p n&&p n
theorem DD {p:Nat->Bool}:∀n,bG p n=true<->∀i,i<n->p i=true
 | 0=> ⟨fun _ i hi=> by omega,fun _=> rfl⟩
 | n + 1=> by
  unfold bG;rw[Bool.and_eq_true,DD n];constructor
  ·rintro⟨h1,h2⟩ i hi;by_cases e:i=n
   ·subst e;exact h2
   ·exact h1 i oM
  ·exact fun h=> ⟨fun i hi=> h i oM,h n oM⟩
theorem cG {p:Nat->Bool}{n i:Nat}(hi:i<n)(h:p i=false):bG p n=false:=by
 cases e:bG p n with
 | false=> rfl
 | true=> rw[(DD n).1 e i hi] at h;cases h
def MJ(s:List UInt8):Bool:=decide (1<=s.length/\s.length<=9)&&bG (rH s) s.length
theorem X3(s:List UInt8)(p:Nat)(hp:p<s.length):∃z w,Utf8.decode ⟨⟨s⟩⟩ p=(z,w)/\z<=2147483647/\∃x,s[p]? =some x/\(x.toNat<128->z=x.toNat/\w=1)/\(128<=x.toNat->128<=z):=by
 have hs:p<(ByteArray.mk ⟨s⟩).size:=hp;refine⟨(Utf8.decode ⟨⟨s⟩⟩ p).1,(Utf8.decode ⟨⟨s⟩⟩ p).2,rfl,decode_le _ _,(ByteArray.mk ⟨s⟩)[p]'hs,?_,?_,?_⟩
 ·rw[List.getElem?_eq_getElem hp];rfl
 ·intro h;rw[decode_ascii _ p hs h];exact⟨rfl,rfl⟩
 ·intro h;exact(decode_high _ p hs h).1
section
variable(M:Md prog)(H:View)
theorem lG(s:List UInt8):bA M 371 #[mA s] H (fun v H'=> H.le H'/\v=.bool (MJ s)):=by
 by_cases c1:1<=(s.length:Int)/\(s.length:Int)<=9
 ·have e0 : MJ s=bG (rH s) s.length:=by
   unfold MJ;have:decide (1<=s.length/\s.length<=9)=true:=decide_eq_true oM;rw[this];rfl
  have hb:=fun(H':View)=> zA M H' (s.length:Nat) 1 9 true (decide_eq_true c1);rw[e0];refine .en func371 ntmps371 fun St c cs hK=> ?_;refine U9 ?_;refine .cl (fun H hs=> hb H) ?_;refine U8 ?_;refine .e (Or.YS (E:=en) (s:=⟨⟨s⟩⟩) rfl rfl rfl rfl rfl dE (fun it=> ?_));refine U2 ?_;refine Tc.db (Tc.tA (σ:= { p:Nat//p<=s.length/\∀i,i<p->rH s i=true }) (fun p=> ([(10,.pointer (some ⟨it,0,none⟩))],[(it,true,.stringIter ⟨⟨s⟩⟩ p.1)])) (fun p=> s.length-p.1) ?_ ⟨0,Nat.zero_le _,fun i hi=> by omega⟩);rintro⟨p,hp,SA⟩ ih;show Tc M St _ _ _ _ [(10,.pointer (some ⟨it,0,none⟩))] [(it,true,.stringIter ⟨⟨s⟩⟩ p)] _ _;by_cases c2:p=s.length
  ·have e:bG (rH s) s.length=true:=(DD _).2 (by rw[<-c2];exact SA);rw[e] at hK;have p8:¬p<(ByteArray.mk ⟨s⟩).size:=by show ¬p<s.length;omega
   refine U2 ?_;refine .e (Or.PS 0 rfl rfl rfl p8 rfl dE ?_);refine U9 ?_;refine .rt hK func371 results371 [_] ?_;exact okB
  ·have c3 :p<s.length:=by omega
   obtain⟨z,w,lL,hz,x,hx,HN,dQ⟩:=X3 s p c3;have fQ:p<(ByteArray.mk ⟨s⟩).size:=c3;have wz:IntKind.i64.wrap ((z:Nat):Int)=((z:Nat):Int):=wrap64 oM oM;have hxm:=x.toNat_lt;by_cases c4:97<=((z:Nat):Int)/\((z:Nat):Int)<=122
   ·have P1:x.toNat<128:=by
     by_cases h:x.toNat<128
     ·exact h
     ·have:=dQ oM;omega
    obtain⟨h1,rfl⟩:=HN P1;have hn:rH s p=true:=by
     unfold rH;rw[hx];have:low x=true:=decide_eq_true oM;simp[this]
    have hbz:=fun(H':View)=> zA M H' (z:Nat) 97 122 true (decide_eq_true c4);have E1:=fun(H':View)=> cM M H' (z:Nat) 48 57;refine U2 ?_;refine .e (Or.jP 0 rfl rfl rfl fQ lL rfl dE ?_);refine OK ?_;refine .cl (fun H hs=> hbz H) ?_;refine U5 ?_;refine To.LB rfl dE rfl ?_;refine To.LB rfl dE rfl ?_;refine To.LB rfl dE rfl ?_;refine To.LB rfl dE rfl ?_;refine U6 ?_;exact Tc.db (ih ⟨p+1,oM,fun i hi=> by by_cases e:i=p;exact e▸hn;exact SA i oM⟩ (by simp only;omega))
   ·have hbz:=fun(H':View)=> zA M H' (z:Nat) 97 122 false (decide_eq_false c4);have o8:low x=false:=by
     refine decide_eq_false ?_;intro h;obtain⟨h1,_⟩:=HN oM;omega
    by_cases c5:p=0
    ·subst c5;have e:bG (rH s) s.length=false:=cG c3 (by unfold rH;rw[hx];simp[o8]);have E1:=fun(H':View)=> cM M H' (z:Nat) 48 57;rw[e] at hK;refine U2 ?_;refine .e (Or.jP 0 rfl rfl rfl fQ lL rfl dE ?_);refine OK ?_;refine .cl (fun H hs=> hbz H) ?_;refine OK ?_;refine .rt hK func371 results371 [_] ?_;exact okB
    ·have c6:(p:Int)≠0:=by omega
     by_cases c7:48<=((z:Nat):Int)/\((z:Nat):Int)<=57
     ·have P1:x.toNat<128:=by
       by_cases h:x.toNat<128
       ·exact h
       ·have:=dQ oM;omega
      obtain⟨h1,rfl⟩:=HN P1;have hn:rH s p=true:=by
       unfold rH;rw[hx];have:BD x=true:=decide_eq_true oM;have h0:0<p:=by omega
       simp[this,h0]
      have E1:=fun(H':View)=> zA M H' (z:Nat) 48 57 true (decide_eq_true c7);refine U2 ?_;refine .e (Or.jP 0 rfl rfl rfl fQ lL rfl dE ?_);refine OK ?_;refine .cl (fun H hs=> hbz H) ?_;refine U7 ?_;refine .cl (fun H hs=> E1 H) ?_;refine U7 ?_;exact Tc.db (ih ⟨p+1,oM,fun i hi=> by by_cases e:i=p;exact e▸hn;exact SA i oM⟩ (by simp only;omega))
     ·have KW:BD x=false:=by
       refine decide_eq_false ?_;intro h;obtain⟨h1,_⟩:=HN oM;omega
      have e:bG (rH s) s.length=false:=cG c3 (by unfold rH;rw[hx];simp[o8,KW]);have E1:=fun(H':View)=> zA M H' (z:Nat) 48 57 false (decide_eq_false c7);rw[e] at hK;refine U2 ?_;refine .e (Or.jP 0 rfl rfl rfl fQ lL rfl dE ?_);refine OK ?_;refine .cl (fun H hs=> hbz H) ?_;refine U7 ?_;refine .cl (fun H hs=> E1 H) ?_;refine U9 ?_;refine .rt hK func371 results371 [_] ?_;exact okB
 ·have e0:MJ s=false:=by
   unfold MJ;have:decide (1<=s.length/\s.length<=9)=false:=decide_eq_false oM;rw[this];rfl
  have hb:=fun(H':View)=> zA M H' (s.length:Nat) 1 9 false (decide_eq_false c1);rw[e0];refine .en func371 ntmps371 fun St c cs hK=> ?_;refine U9 ?_;refine .cl (fun H hs=> hb H) ?_;refine U7 ?_;refine .rt hK func371 results371 [_] ?_;exact okB
end
theorem XV {M:Md prog}{f:FuncId}{az:Array Value}{H:View}{w w':Value}(h:bA M f az H fun v H'=> H.le H'/\v=w)(e:w=w'):bA M f az H fun v H'=> H.le H'/\v=w':=e▸h
theorem JF {M:Md prog}{f:FuncId}{az:Array Value}{H:View}{w w':Bool}(h:bA M f az H fun v H'=> H.le H'/\v=.bool w)(e:w=w'):bA M f az H fun v H'=> H.le H'/\v=.bool w':=e▸h
def mC(f:Nat->Int):Nat->Int
 | 0=> 0
 | n+1=> if mC f n=0 then f n else mC f n
theorem fS {f:Nat->Int}{j:Nat}(h:mC f j≠0):∀m,j<=m->mC f m=mC f j:=by
 intro m hm;induction m with
 | zero=>
  have:j=0:=by omega
  subst this;rfl
 | succ m ih=>
  by_cases e:j=m+1
  ·subst e;rfl
  ·rw[mC,ih oM,if_neg h]
theorem kC {f:Nat->Int}{j:Nat}(h0:mC f j=0){a:Int}(h:f j=a)(ha:a≠0){m:Nat}(hm:j<m):mC f m=a:=by
 have h1:mC f (j+1)=a:=by rw[mC,if_pos h0];exact h
 rw[fS (j:=j+1) (by rw[h1];exact ha) m oM,h1]
def ND(x:Int):Bool:=decide (0<=x/\x<=2)
def Bk.xD(k:Bk):Int:=if(1<=k.CB/\k.CB<=99)/\(k.CB+1<=k.TB/\k.TB<=99) then 0 else 1
def Bk.QB(k:Bk)(i:Nat):Bool:=!YA (k.pf i) (k.pt i) (k.qf i) (k.qt i)
def Bk.xC(k:Bk):Int:=if 6<k.nt then 2 else if(jA k.QB k.nt).isSome then 1 else 0
section
variable(M:Md prog)(H:View)
theorem Z1(F:Option Addr)(n fc:Nat)(x:Nat->Int)(hF:rB H F n x)(hn:n<=1000)(fv:Value)(p:Nat->Bool)(hp:∀j,j<n->∀H',H.le H'->uB M fv [.int .i64 (x j)] H' fun v H''=> H'.le H''/\v=.bool (p j)):
  bA M 377 #[.slice F n fc,fv] H (fun v H'=> H.le H'/\v=.int .i64 (iB (jA p n))):=by
 refine .en func377 ntmps377 fun St c cs hK=> ?_;refine NF ?_;refine Tc.db (Tc.tA (σ:= { j:Nat//j<=n/\jA p j=none }) (fun j=> ([(0,.slice F n fc),(1,fv),(7,.int .i64 (n:Nat)),(8,.int .i64 (j.1:Nat))],[])) (fun j=> n-j.1) ?_ ⟨0,Nat.zero_le _,rfl⟩);rintro⟨j,hj,PC⟩ ih;show Tc M St _ _ _ _ [(0,.slice F n fc),(1,fv),(7,.int .i64 (n:Nat)),(8,.int .i64 (j:Nat))] [] _ _;by_cases c1:j=n
 ·subst c1;rw[PC] at hK;refine PE ?_;refine .rt hK func377 results377 [_] ?_;exact okB
 ·have c2:j<n:=by omega
  obtain h0|⟨ab,ao,f,gs,gt,gz,rfl,hb,hl⟩:=hF
  ·omega
  have f1:=hl j c2;have TL:=hp j c2;cases IG:p j with
  | true=>
   rw[IG] at TL;have e:jA p n=some j:=fB (j:=j+1) (by simp[jA,PC,IG]) _ oM;rw[e] at hK;refine wQ ?_;refine .c rfl rfl rfl rfl (fun H hs=> TL H hs.base) ?_;refine U7 ?_;refine .rt hK func377 results377 [_] ?_;exact okB
  | false=>
   rw[IG] at TL;refine wQ ?_;refine .c rfl rfl rfl rfl (fun H hs=> TL H hs.base) ?_;refine U8 ?_;exact Tc.db (ih ⟨j+1,oM,by simp[jA,PC,IG]⟩ (by simp only;omega))
theorem uW(x:Int):bA M 374 #[.int .i64 x] H (fun v H'=> H.le H'/\v=.bool (!ND x)):=by
 cases h:ND x with
 | true=>
  refine .en func374 ntmps374 fun St c cs hK=> ?_;refine U7 ?_;refine .cl (fun H hs=> zA M H x 0 2 true h) ?_;refine U3 ?_;refine .rt hK func374 results374 [_] ?_;exact okB
 | false=>
  refine .en func374 ntmps374 fun St c cs hK=> ?_;refine U7 ?_;refine .cl (fun H hs=> zA M H x 0 2 false h) ?_;refine U3 ?_;refine .rt hK func374 results374 [_] ?_;exact okB
theorem OM(F:Option Addr)(n fc:Nat)(x:Nat->Int)(hF:rB H F n x)(hn:n<=1000):
  bA M 373 #[.slice F n fc,.func (.func 374) #[] #[]] H (fun v H'=> H.le H'/\v=.bool (jA (fun j=> !ND (x j)) n).isSome):=by
 have hi:=fun(H':View) (h':H.le H')=> Z1 M H' F n fc x (hF.le h') hn (.func (.func 374) #[] #[]) (fun j=> !ND (x j)) (fun j _ H'' _=> .h (uW M H'' (x j)));cases hq:jA (fun j=> !ND (x j)) n with
 | none=>
  rw[hq] at hi;have e:iB none= -1:=rfl;rw[e] at hi;refine .en func373 ntmps373 fun St c cs hK=> ?_;refine U8 ?_;refine .cl (fun H hs=> hi H hs.base) ?_;refine U3 ?_;refine .rt hK func373 results373 [_] ?_;exact okB
 | some j=>
  rw[hq] at hi;have e:iB (some j)=(j:Nat):=rfl;rw[e] at hi;refine .en func373 ntmps373 fun St c cs hK=> ?_;refine U8 ?_;refine .cl (fun H hs=> hi H hs.base) ?_;refine U3 ?_;refine .rt hK func373 results373 [_] ?_;exact okB
theorem GP(a b c' d:Int):bA M 376 #[UC a b c' d] H (fun v H'=> H.le H'/\v=.bool (!YA a b c' d)):=by
 cases h:YA a b c' d with
 | true=>
  have ht:=fun(H':View)=> JF (VE M H' a b c' d) h;refine .en func376 ntmps376 fun St c cs hK=> ?_;refine U2 ?_;refine .bo fun b1=> ?_;refine U5 ?_;refine .cl (fun H hs=> ht H) ?_;refine U3 ?_;refine .rt hK func376 results376 [_] ?_;exact okB
 | false=>
  have ht:=fun(H':View)=> JF (VE M H' a b c' d) h;refine .en func376 ntmps376 fun St c cs hK=> ?_;refine U2 ?_;refine .bo fun b1=> ?_;refine U5 ?_;refine .cl (fun H hs=> ht H) ?_;refine U3 ?_;refine .rt hK func376 results376 [_] ?_;exact okB
theorem D2(k:Bk)(B:Option Addr)(tc:Nat)(hB:tC H k B tc)(hn:k.nt<=1000):
  bA M 378 #[.slice B k.nt tc,.func (.func 376) #[] #[]] H (fun v H'=> H.le H'/\v=.int .i64 (iB (jA k.QB k.nt))):=by
 refine .en func378 ntmps378 fun St c cs hK=> ?_;refine NF ?_;refine Tc.db (Tc.tA (σ:= { j:Nat//j<=k.nt/\jA k.QB j=none }) (fun j=> ([(0,.slice B k.nt tc),(1,.func (.func 376) #[] #[]),(7,.int .i64 (k.nt:Nat)),(8,.int .i64 (j.1:Nat))],[])) (fun j=> k.nt-j.1) ?_ ⟨0,Nat.zero_le _,rfl⟩);rintro⟨j,hj,PC⟩ ih;show Tc M St _ _ _ _ [(0,.slice B k.nt tc),(1,.func (.func 376) #[] #[]),(7,.int .i64 (k.nt:Nat)),(8,.int .i64 (j:Nat))] [] _ _;by_cases c1:j=k.nt
 ·subst c1;rw[PC] at hK;refine PE ?_;refine .rt hK func378 results378 [_] ?_;exact okB
 ·have c2:j<k.nt:=by omega
  obtain⟨_,h0|⟨ab,ao,f,gs,gt,gz,rfl,hb,hl⟩⟩:=hB
  ·omega
  have f1:=hl j c2;cases IG:k.QB j with
  | true=>
   have ht:=fun(H':View)=> JF (GP M H' (k.pf j) (k.pt j) (k.qf j) (k.qt j)) IG;have e:jA k.QB k.nt=some j:=fB (j:=j+1) (by simp[jA,PC,IG]) _ oM;rw[e] at hK;refine wQ ?_;refine .cl (fun H hs=> ht H) ?_;refine U7 ?_;refine .rt hK func378 results378 [_] ?_;exact okB
  | false=>
   have ht:=fun(H':View)=> JF (GP M H' (k.pf j) (k.pt j) (k.qf j) (k.qt j)) IG;refine wQ ?_;refine .cl (fun H hs=> ht H) ?_;refine U8 ?_;exact Tc.db (ih ⟨j+1,oM,by simp[jA,PC,IG]⟩ (by simp only;omega))
theorem IT(k:Bk)(B:Option Addr)(tc:Nat)(hB:tC H k B tc)(hn:k.nt<=1000):
  bA M 375 #[.slice B k.nt tc,.func (.func 376) #[] #[]] H (fun v H'=> H.le H'/\v=.bool (jA k.QB k.nt).isSome):=by
 have hi:=fun(H':View) (h':H.le H')=> D2 M H' k B tc (hB.le h') hn;cases hq:jA k.QB k.nt with
 | none=>
  rw[hq] at hi;have e:iB none= -1:=rfl;rw[e] at hi;refine .en func375 ntmps375 fun St c cs hK=> ?_;refine U8 ?_;refine .cl (fun H hs=> hi H hs.base) ?_;refine U3 ?_;refine .rt hK func375 results375 [_] ?_;exact okB
 | some j=>
  rw[hq] at hi;have e:iB (some j)=(j:Nat):=rfl;rw[e] at hi;refine .en func375 ntmps375 fun St c cs hK=> ?_;refine U8 ?_;refine .cl (fun H hs=> hi H hs.base) ?_;refine U3 ?_;refine .rt hK func375 results375 [_] ?_;exact okB
theorem G7(k:Bk)(A:Option Addr)(lc:Nat)(B:Option Addr)(tc:Nat)(hB:tC H k B tc)(hn:k.nt<=1000):
  bA M 370 #[k.val A lc B tc] H (fun v H'=> H.le H'/\v=.int .i64 k.xC):=by
 by_cases c1:6<k.nt
 ·have e:k.xC=2:=if_pos c1;rw[e];refine .en func370 ntmps370 fun St c cs hK=> ?_;refine U2 ?_;refine .bo fun b1=> ?_;refine QT ?_;refine .rt hK func370 results370 [_] ?_;exact okB
 ·have hc:=fun(H':View) (h':H.le H')=> IT M H' k B tc (hB.le h') hn;cases hq:(jA k.QB k.nt).isSome with
  | true=>
   rw[hq] at hc;have e:k.xC=1:=by unfold Bk.xC;rw[if_neg c1,hq];rfl
   rw[e];refine .en func370 ntmps370 fun St c cs hK=> ?_;refine U2 ?_;refine .bo fun b1=> ?_;refine YP ?_;refine .cl (fun H hs=> hc H hs.base) ?_;refine U7 ?_;refine .rt hK func370 results370 [_] ?_;exact okB
  | false=>
   rw[hq] at hc;have e:k.xC=0:=by unfold Bk.xC;rw[if_neg c1,hq];rfl
   rw[e];refine .en func370 ntmps370 fun St c cs hK=> ?_;refine U2 ?_;refine .bo fun b1=> ?_;refine YP ?_;refine .cl (fun H hs=> hc H hs.base) ?_;refine U9 ?_;refine .rt hK func370 results370 [_] ?_;exact okB
theorem K6(k:Bk)(A:Option Addr)(lc:Nat)(B:Option Addr)(tc:Nat):
  bA M 368 #[k.val A lc B tc] H (fun v H'=> H.le H'/\v=.int .i64 k.xD):=by
 by_cases c1:1<=k.CB/\k.CB<=99
 ·by_cases c2:k.CB+1<=k.TB/\k.TB<=99
  ·have e:k.xD=0:=if_pos ⟨c1,c2⟩;rw[e];have h1:=fun(H':View)=> zA M H' k.CB 1 99 true (decide_eq_true c1);have h2:=fun(H':View)=> zA M H' k.TB (k.CB+1) 99 true (decide_eq_true c2);refine .en func368 ntmps368 fun St c cs hK=> ?_;refine U2 ?_;refine .bo fun b1=> ?_;refine U8 ?_;refine .cl (fun H hs=> h1 H) ?_;refine U9 ?_;refine .cl (fun H hs=> h2 H) ?_;refine U9 ?_;refine .rt hK func368 results368 [_] ?_;exact okB
  ·have e:k.xD=1:=if_neg (fun h=> c2 h.2);rw[e];have h1:=fun(H':View)=> zA M H' k.CB 1 99 true (decide_eq_true c1);have h2:=fun(H':View)=> zA M H' k.TB (k.CB+1) 99 false (decide_eq_false c2);refine .en func368 ntmps368 fun St c cs hK=> ?_;refine U2 ?_;refine .bo fun b1=> ?_;refine U8 ?_;refine .cl (fun H hs=> h1 H) ?_;refine U9 ?_;refine .cl (fun H hs=> h2 H) ?_;refine U8 ?_;refine .rt hK func368 results368 [_] ?_;exact okB
 ·have e:k.xD=1:=if_neg (fun h=> c1 h.1);rw[e];have h1:=fun(H':View)=> zA M H' k.CB 1 99 false (decide_eq_false c1);refine .en func368 ntmps368 fun St c cs hK=> ?_;refine U2 ?_;refine .bo fun b1=> ?_;refine U8 ?_;refine .cl (fun H hs=> h1 H) ?_;refine QT ?_;refine .rt hK func368 results368 [_] ?_;exact okB
end
set_option maxHeartbeats 8000000
def Bk.pre(k:Bk)(i:Nat):Bk:= { k with nl:=i }
def Bk.again(k:Bk)(i:Nat):Bool:=(jA (fun j=> k.name j==k.name i) i).isSome
def Bk.CH(k:Bk)(i:Nat):Bool:=(jA (fun j=> !ND (k.free i j)) (k.nf i)).isSome
def Bk.VB(k:Bk)(i:Nat):Int:=if MJ (k.name i)=false then 4 else if k.again i=true then 5 else if isNum (k.num i)=false then 3 else if(k.pre i).clash (k.num i)=true then 10 else if decide (1<=((k.nf i:Nat):Int)/\((k.nf i:Nat):Int)<=4)=false then 2 else if k.CH i=true then 1 else 0
def Bk.LD(k:Bk):Int:=if 6<k.nl then 2 else mC k.VB k.nl
def Bk.WA(k:Bk):Int:=if k.xD=0 then if k.LD=0 then k.xC else k.LD else k.xD
theorem BC.pre {H:View}{k:Bk}{A:Option Addr}{lc:Nat}(h:BC H k A lc){i:Nat}(hi:i<=k.nl):BC H (k.pre i) A lc:=by
 obtain⟨h1,h2⟩:=h;refine⟨Nat.le_trans hi h1,?_⟩;rcases h2 with h2|⟨b,o,f,gs,gt,gz,h3,h4,h5⟩
 ·exact .inl (by show i=0;omega)
 ·exact .inr ⟨b,o,f,gs,gt,gz,h3,h4,fun j hj=> h5 j (Nat.lt_of_lt_of_le hj hi)⟩
section
variable(M:Md prog)(H:View)
theorem GM(nm:List UInt8)(b3:Nat)(f:Bool)(c0:List Value)(hb:H b3=some (f,.cells ⟨mA nm::c0⟩ 68 (0,0)))(a num:List UInt8)(F:Option Addr)(n fc:Nat):
  bA M 372 #[gN a num F n fc,.pointer (some ⟨b3,0,none⟩)] H (fun v H'=> H.le H'/\v=.bool (a==nm)):=by
 refine .en func372 ntmps372 fun St c cs hK=> ?_;refine U2 ?_;refine .bo fun b2=> ?_;refine PE ?_;refine .rt hK func372 results372 [_] ?_;exact okB
theorem aAf (k:Bk)(A:Option Addr)(lc:Nat)(B:Option Addr)(tc:Nat)(hA:BC H k A lc)(hn:k.nl<=1000)(nI:∀i,i<k.nl->(k.num i).length<=1000000/\k.nf i<=1000):
  bA M 369 #[k.val A lc B tc] H (fun v H'=> H.le H'/\v=.int .i64 k.LD):=by
 by_cases c1:6<k.nl
 ·have e:k.LD=2:=if_pos c1;rw[e];refine .en func369 ntmps369 fun St c cs hK=> ?_;refine U2 ?_;refine .bo fun b1=> ?_;refine vQ ?_;refine .rt hK func369 results369 [_] ?_;exact okB
 ·have e:k.LD=mC k.VB k.nl:=if_neg c1;rw[e];clear e;refine .en func369 ntmps369 fun St c cs hK=> ?_;refine U2 ?_;refine .bo fun b1=> ?_;refine R8 ?_;refine Tc.db (Tc.tA (σ:= { j:Nat//j<=k.nl/\mC k.VB j=0 }) (fun j=> ([(1,.pointer (some ⟨b1,0,none⟩)),(13,.slice A k.nl lc),(14,.int .i64 (k.nl:Nat)),(15,.int .i64 (j.1:Nat))],[(b1,true,.cells ⟨(k.val A lc B tc).cells.toList⟩ 166 (0,0))])) (fun j=> k.nl-j.1) ?_ ⟨0,Nat.zero_le _,rfl⟩);rintro⟨j,hj,PC⟩ ih;show Tc M St _ _ _ _ [(1,.pointer (some ⟨b1,0,none⟩)),(13,.slice A k.nl lc),(14,.int .i64 (k.nl:Nat)),(15,.int .i64 (j:Nat))] [(b1,true,.cells ⟨(k.val A lc B tc).cells.toList⟩ 166 (0,0))] _ _;by_cases c2:j=k.nl
  ·subst c2;rw[PC] at hK;refine PE ?_;refine .rt hK func369 results369 [_] ?_;exact okB
  ·have c3 : j < k.nl:=by omega
   have hA':=hA;obtain⟨K1,h0|⟨ab,ao,f,gs,gt,gz,rfl,hb,hl⟩⟩:=hA
   ·omega
   obtain⟨F,fc,f1,_,hF⟩:=hl j c3;obtain⟨s1,s2⟩:=nI j c3;have uY:BC H (k.pre j) (some ⟨ab,ao,none⟩) lc:=hA'.pre hj;cases q0:MJ (k.name j) with
   | false=>
    have eA:k.VB j=4:=by unfold Bk.VB;simp only[q0];simp
    rw[kC PC eA dE c3] at hK;refine QE ?_;refine .al fun b4=> ?_;refine U9 ?_;refine .x (qA.sliceTo (E:=en) (k:=j) rfl rfl rfl rfl rfl rfl oM oM) ?_;refine U7 ?_;refine .cl (fun H hs=> JF (lG M H (k.name j)) q0) ?_;refine U8 ?_;refine .rt hK func369 results369 [_] ?_;exact okB
   | true=>
    cases q1:k.again j with
    | true=>
     have eA:k.VB j=5:=by unfold Bk.VB;simp only[q0,q1];simp
     rw[kC PC eA dE c3] at hK;refine QE ?_;refine .al fun b4=> ?_;refine U9 ?_;refine .x (qA.sliceTo (E:=en) (k:=j) rfl rfl rfl rfl rfl rfl oM oM) ?_;refine U7 ?_;refine .cl (fun H hs=> JF (lG M H (k.name j)) q0) ?_;refine U8 ?_;refine .cl (fun H hs=> JF (CD M H (k.pre j) (some ⟨ab,ao,none⟩) lc (uY.le hs.base) (by show j<=1000;omega) _ (fun i=> k.name i==k.name j) (fun i _ F fc H' hle=> uB.of (first:= []) (captured:= [_]) BQ rfl (GM M H' (k.name j) b4 true _ (hle _ _ (hs.get (i:=0) rfl)) (k.name i) (k.num i) F (k.nf i) fc))) q1) ?_;refine U7 ?_;refine .rt hK func369 results369 [_] ?_;exact okB
    | false =>
     cases q2:isNum (k.num j) with
     | false=>
      have eA:k.VB j=3:=by unfold Bk.VB;simp only[q0,q1,q2];simp
      rw[kC PC eA dE c3] at hK;refine QE ?_;refine .al fun b4=> ?_;refine U9 ?_;refine .x (qA.sliceTo (E:=en) (k:=j) rfl rfl rfl rfl rfl rfl oM oM) ?_;refine U7 ?_;refine .cl (fun H hs=> JF (lG M H (k.name j)) q0) ?_;refine U8 ?_;refine .cl (fun H hs=> JF (CD M H (k.pre j) (some ⟨ab,ao,none⟩) lc (uY.le hs.base) (by show j<=1000;omega) _ (fun i=> k.name i==k.name j) (fun i _ F fc H' hle=> uB.of (first:= []) (captured:= [_]) BQ rfl (GM M H' (k.name j) b4 true _ (hle _ _ (hs.get (i:=0) rfl)) (k.name i) (k.num i) F (k.nf i) fc))) q1) ?_;refine U7 ?_;refine .cl (fun H hs=> JF (CC M H (k.num j) s1) q2) ?_;refine U8 ?_;refine .rt hK func369 results369 [_] ?_;exact okB
     | true=>
      cases q3:(k.pre j).clash (k.num j) with
      | true=>
       have eA:k.VB j=10:=by unfold Bk.VB;simp only[q0,q1,q2,q3];simp
       rw[kC PC eA dE c3] at hK;refine QE ?_;refine .al fun b4=> ?_;refine U9 ?_;refine .x (qA.sliceTo (E:=en) (k:=j) rfl rfl rfl rfl rfl rfl oM oM) ?_;refine U7 ?_;refine .cl (fun H hs=> JF (lG M H (k.name j)) q0) ?_;refine U8 ?_;refine .cl (fun H hs=> JF (CD M H (k.pre j) (some ⟨ab,ao,none⟩) lc (uY.le hs.base) (by show j<=1000;omega) _ (fun i=> k.name i==k.name j) (fun i _ F fc H' hle=> uB.of (first:= []) (captured:= [_]) BQ rfl (GM M H' (k.name j) b4 true _ (hle _ _ (hs.get (i:=0) rfl)) (k.name i) (k.num i) F (k.nf i) fc))) q1) ?_;refine U7 ?_;refine .cl (fun H hs=> JF (CC M H (k.num j) s1) q2) ?_;refine U9 ?_;refine .cl (fun H hs=> JF (RE M H (k.pre j) (some ⟨ab,ao,none⟩) lc (uY.le hs.base) (by show j<=1000;omega) (k.num j)) q3) ?_;refine U7 ?_;refine .rt hK func369 results369 [_] ?_;exact okB
      | false=>
       cases q4:decide (1<=((k.nf j:Nat):Int)/\((k.nf j:Nat):Int)<=4) with
       | false=>
        have eA:k.VB j=2:=by unfold Bk.VB;simp only[q0,q1,q2,q3,q4];simp
        rw[kC PC eA dE c3] at hK;refine QE ?_;refine .al fun b4=> ?_;refine U9 ?_;refine .x (qA.sliceTo (E:=en) (k:=j) rfl rfl rfl rfl rfl rfl oM oM) ?_;refine U7 ?_;refine .cl (fun H hs=> JF (lG M H (k.name j)) q0) ?_;refine U8 ?_;refine .cl (fun H hs=> JF (CD M H (k.pre j) (some ⟨ab,ao,none⟩) lc (uY.le hs.base) (by show j<=1000;omega) _ (fun i=> k.name i==k.name j) (fun i _ F fc H' hle=> uB.of (first:= []) (captured:= [_]) BQ rfl (GM M H' (k.name j) b4 true _ (hle _ _ (hs.get (i:=0) rfl)) (k.name i) (k.num i) F (k.nf i) fc))) q1) ?_;refine U7 ?_;refine .cl (fun H hs=> JF (CC M H (k.num j) s1) q2) ?_;refine U9 ?_;refine .cl (fun H hs=> JF (RE M H (k.pre j) (some ⟨ab,ao,none⟩) lc (uY.le hs.base) (by show j<=1000;omega) (k.num j)) q3) ?_;refine U8 ?_;refine .cl (fun H hs=> zA M H ((k.nf j:Nat):Int) 1 4 false q4) ?_;refine U8 ?_;refine .rt hK func369 results369 [_] ?_;exact okB
       | true=>
        cases q5:k.CH j with
        | true=>
         have eA:k.VB j=1:=by unfold Bk.VB;simp only[q0,q1,q2,q3,q4,q5];simp
         rw[kC PC eA dE c3] at hK;refine QE ?_;refine .al fun b4=> ?_;refine U9 ?_;refine .x (qA.sliceTo (E:=en) (k:=j) rfl rfl rfl rfl rfl rfl oM oM) ?_;refine U7 ?_;refine .cl (fun H hs=> JF (lG M H (k.name j)) q0) ?_;refine U8 ?_;refine .cl (fun H hs=> JF (CD M H (k.pre j) (some ⟨ab,ao,none⟩) lc (uY.le hs.base) (by show j<=1000;omega) _ (fun i=> k.name i==k.name j) (fun i _ F fc H' hle=> uB.of (first:= []) (captured:= [_]) BQ rfl (GM M H' (k.name j) b4 true _ (hle _ _ (hs.get (i:=0) rfl)) (k.name i) (k.num i) F (k.nf i) fc))) q1) ?_;refine U7 ?_;refine .cl (fun H hs=> JF (CC M H (k.num j) s1) q2) ?_;refine U9 ?_;refine .cl (fun H hs=> JF (RE M H (k.pre j) (some ⟨ab,ao,none⟩) lc (uY.le hs.base) (by show j<=1000;omega) (k.num j)) q3) ?_;refine U8 ?_;refine .cl (fun H hs=> zA M H ((k.nf j:Nat):Int) 1 4 true q4) ?_;refine U8 ?_;refine .cl (fun H hs=> JF (OM M H F (k.nf j) fc (k.free j) (hF.le hs.base) s2) q5) ?_;refine U7 ?_;refine .rt hK func369 results369 [_] ?_;exact okB
        | false=>
         have eA:k.VB j=0:=by unfold Bk.VB;simp only[q0,q1,q2,q3,q4,q5];simp
         refine QE ?_;refine .al fun b4=> ?_;refine U9 ?_;refine .x (qA.sliceTo (E:=en) (k:=j) rfl rfl rfl rfl rfl rfl oM oM) ?_;refine U7 ?_;refine .cl (fun H hs=> JF (lG M H (k.name j)) q0) ?_;refine U8 ?_;refine .cl (fun H hs=> JF (CD M H (k.pre j) (some ⟨ab,ao,none⟩) lc (uY.le hs.base) (by show j<=1000;omega) _ (fun i=> k.name i==k.name j) (fun i _ F fc H' hle=> uB.of (first:= []) (captured:= [_]) BQ rfl (GM M H' (k.name j) b4 true _ (hle _ _ (hs.get (i:=0) rfl)) (k.name i) (k.num i) F (k.nf i) fc))) q1) ?_;refine U7 ?_;refine .cl (fun H hs=> JF (CC M H (k.num j) s1) q2) ?_;refine U9 ?_;refine .cl (fun H hs=> JF (RE M H (k.pre j) (some ⟨ab,ao,none⟩) lc (uY.le hs.base) (by show j<=1000;omega) (k.num j)) q3) ?_;refine U8 ?_;refine .cl (fun H hs=> zA M H ((k.nf j:Nat):Int) 1 4 true q4) ?_;refine U8 ?_;refine .cl (fun H hs=> JF (OM M H F (k.nf j) fc (k.free j) (hF.le hs.base) s2) q5) ?_;refine lD ?_;exact Tc.db (ih ⟨j+1,oM,by rw[mC,if_pos PC];exact eA⟩ (by simp only;omega))
def IE(i:Nat):Value:=.func (.func ([368,369,370][i]?.getD 0)) #[] #[]
def aE(H:View):Prop:=(∃f gt gz,H 3=some (f,.cells ⟨[IE 0,IE 1,IE 2]⟩ gt gz))/\∃f gt gz,H 1=some (f,.cells ⟨[.int .i64 0,.int .i64 2,.int .i64 1]⟩ gt gz)
def Bk.O3(k:Bk)(i:Nat):Int:= [k.xD,k.LD,k.xC][i]?.getD 0
theorem IA {H H':View}(h:aE H)(hl:H.le H'):aE H':=⟨h.1.imp fun _ ⟨gt,gz,e⟩=> ⟨gt,gz,hl _ _ e⟩,h.2.imp fun _ ⟨gt,gz,e⟩=> ⟨gt,gz,hl _ _ e⟩⟩
theorem Bk.W2(k:Bk):k.WA=mC k.O3 3:=by
 unfold Bk.WA;simp only[mC,Bk.O3];by_cases h1:k.xD=0 <;> by_cases h2:k.LD=0 <;> simp[h1,h2]
structure LF(H:View)(k:Bk)(A:Option Addr)(lc:Nat)(B:Option Addr)(tc:Nat):Prop where
 rows:BC H k A lc
 ZD:tC H k B tc
theorem LF.le {H H':View}{k:Bk}{A:Option Addr}{lc:Nat}{B:Option Addr}{tc:Nat}(h:LF H k A lc B tc)(hl:H.le H'):LF H' k A lc B tc:=⟨h.rows.le hl,h.ZD.le hl⟩
structure Bk.small(k:Bk):Prop where
 nl:k.nl<=1000
 nt:k.nt<=1000
 num:∀i,i<k.nl->(k.num i).length<=1000000/\k.nf i<=1000
theorem iY(k:Bk)(A:Option Addr)(lc:Nat)(B:Option Addr)(tc:Nat)(hk:LF H k A lc B tc)(hn:k.small)(i:Nat)(hi:i<3):uB M (IE i) [k.val A lc B tc] H fun v H''=> H.le H''/\v=.int .i64 (k.O3 i):=by
 match i,hi with
 | 0,_=> exact uB.h (K6 M H k A lc B tc)
 | 1,_=> exact uB.h (aAf M H k A lc B tc hk.rows hn.nl hn.num)
 | 2,_=> exact uB.h (G7 M H k A lc B tc hk.ZD hn.nt)
theorem rI(k:Bk)(A:Option Addr)(lc:Nat)(B:Option Addr)(tc:Nat)(hk:LF H k A lc B tc)(hn:k.small)(hG:aE H):
  bA M 106 #[k.val A lc B tc] H (fun v H'=> H.le H'/\v=.int .i64 k.WA):=by
 rw[k.W2];obtain⟨⟨f,gt,gz,hG⟩,_⟩:=hG;refine .en func106 ntmps106 fun St c cs hK=> ?_;refine U2 ?_;refine .bo fun b1=> ?_;refine U9 ?_;refine Tc.db (Tc.tA (σ:= { j:Nat//j<=3/\mC k.O3 j=0 }) (fun j=> ([(1,.pointer (some ⟨b1,0,none⟩)),(6,.agg ⟨[IE 0,IE 1,IE 2]⟩),(7,.int .i64 (j.1:Nat))],[(b1,true,.cells ⟨(k.val A lc B tc).cells.toList⟩ 45 (0,0))])) (fun j=> 3-j.1) ?_ ⟨0,Nat.zero_le _,rfl⟩);rintro⟨j,hj,PC⟩ ih;show Tc M St _ _ _ _ [(1,.pointer (some ⟨b1,0,none⟩)),(6,.agg ⟨[IE 0,IE 1,IE 2]⟩),(7,.int .i64 (j:Nat))] [(b1,true,.cells ⟨(k.val A lc B tc).cells.toList⟩ 45 (0,0))] _ _;by_cases c1:j=3
 ·subst c1;rw[PC] at hK;refine PE ?_;refine .rt hK func106 results106 [_] ?_;exact okB
 ·have c2:j<3:=by omega
  have f1:gD false 1 [IE 0,IE 1,IE 2] (((j:Nat):Int).toNat*1)=some (IE j):=by
   rcases(by omega:j=0\/j=1\/j=2) with rfl|rfl|rfl <;> rfl
  by_cases c3:k.O3 j=0
  ·have hc:=fun(H':View) (h':H.le H')=> iY M H' k A lc B tc (hk.le h') hn j c2;rw[c3] at hc;refine PE ?_;refine .x (qA.index (E:=en) rfl rfl rfl rfl rfl rfl oM oM (by assumption)) ?_;refine U7 ?_;refine .c rfl rfl rfl rfl (fun H hs=> hc H hs.base) ?_;refine QE ?_;exact Tc.db (ih ⟨j+1,oM,by rw[mC,if_pos PC];exact c3⟩ (by simp only;omega))
  ·rw[kC PC rfl c3 c2] at hK;refine PE ?_;refine .x (qA.index (E:=en) rfl rfl rfl rfl rfl rfl oM oM (by assumption)) ?_;refine U7 ?_;refine .c rfl rfl rfl rfl (fun H hs=> iY M H k A lc B tc (hk.le hs.base) hn j c2) ?_;refine CG ?_;refine .rt hK func106 results106 [_] ?_;exact okB
def bk0:Bk:=⟨0,0,0,fun _=> [],fun _=> [],fun _=> 0,fun _ _=> 0,0,fun _=> 0,fun _=> 0,fun _=> 0,fun _=> 0⟩
theorem wK(k:Bk)(A:Option Addr)(lc:Nat)(B:Option Addr)(tc:Nat)(there:Bool)(hk:LF H k A lc B tc)(hn:k.small)(hG:aE H)(ha:k.WA≠0):
  bA M 85 #[k.val A lc B tc,.bool there] H (fun v H'=> H.le H'/\v=.tuple ⟨[bk0.val none 0 none 0,.int .i64 k.WA]⟩):=by
 refine .en func85 ntmps85 fun St c cs hK=> ?_;refine U2 ?_;refine .bo fun b2=> ?_;refine .al fun b4=> ?_;refine U6 ?_;refine .cl (fun H hs=> rI M H k A lc B tc (hk.le hs.base) hn (IA hG hs.base)) ?_;refine XP ?_;refine .rt hK func85 results85 [_,_] ?_;exact okB
theorem aA5(k:Bk)(A:Option Addr)(lc:Nat)(B:Option Addr)(tc:Nat)(hk:LF H k A lc B tc)(hn:k.small)(hG:aE H)(ha:k.WA=0):
  bA M 85 #[k.val A lc B tc,.bool false] H (fun v H'=> H.le H'/\v=.tuple ⟨[bk0.val none 0 none 0,.int .i64 6]⟩):=by
 have hc:=fun(H':View) (h':H.le H')=> rI M H' k A lc B tc (hk.le h') hn (IA hG h');rw[ha] at hc;refine .en func85 ntmps85 fun St c cs hK=> ?_;refine U2 ?_;refine .bo fun b2=> ?_;refine .al fun b4=> ?_;refine U6 ?_;refine .cl (fun H hs=> hc H hs.base) ?_;refine ZX ?_;refine .rt hK func85 results85 [_,_] ?_;exact okB
theorem vC(k:Bk)(A:Option Addr)(lc:Nat)(B:Option Addr)(tc:Nat)(hk:LF H k A lc B tc)(hn:k.small)(hG:aE H)(ha:k.WA=0):
  bA M 85 #[k.val A lc B tc,.bool true] H (fun v H'=> H.le H'/\v=.tuple ⟨[k.val A lc B tc,.int .i64 0]⟩):=by
 have hc:=fun(H':View) (h':H.le H')=> rI M H' k A lc B tc (hk.le h') hn (IA hG h');rw[ha] at hc;refine .en func85 ntmps85 fun St c cs hK=> ?_;refine U2 ?_;refine .bo fun b2=> ?_;refine .al fun b4=> ?_;refine U6 ?_;refine .cl (fun H hs=> hc H hs.base) ?_;refine U24 ?_;refine .rt hK func85 results85 [_,_] ?_;exact okB
end
set_option maxHeartbeats 4000000
def Q7(a b:Nat):List Nat:=List.range' a (b+1-a)
theorem XY {a b:Nat}(h:b<a):Q7 a b= []:=by unfold Q7;rw[show b+1-a=0 by omega];rfl
theorem JV {a b:Nat}(h:a<=b):Q7 a b=a::Q7 (a+1) b:=by
 unfold Q7;rw[show b+1-a=(b+1-(a+1))+1 by omega];rfl
theorem aAh {a b x:Nat}:x∈Q7 a b<->a<=x/\x<=b:=by
 unfold Q7;rw[List.mem_range'_1];omega
def VK(a b lo hi:Nat):List (Nat×Nat):=(Q7 a b).flatMap fun n=> (Q7 lo hi).map fun d=> (n,d)
def OF(n b lo hi d:Nat):List (Nat×Nat):=(Q7 d hi).map (fun d=> (n,d))++VK (n+1) b lo hi
theorem D3 {a b lo hi:Nat}(h:b<a):VK a b lo hi= []:=by unfold VK;rw[XY h];rfl
theorem mZ {a b lo hi:Nat}(h:a<=b):VK a b lo hi=OF a b lo hi lo:=by unfold VK OF;rw[JV h,List.flatMap_cons];rfl
theorem TR {n b lo hi d:Nat}(h:d<=hi):OF n b lo hi d=(n,d)::OF n b lo hi (d+1):=by unfold OF;rw[JV h];rfl
theorem dU {n b lo hi d:Nat}(h:hi<d):OF n b lo hi d=VK (n+1) b lo hi:=by unfold OF;rw[XY h];rfl
theorem wL {a b lo hi:Nat}{x:Nat×Nat}:x∈VK a b lo hi<->(a<=x.1/\x.1<=b)/\(lo<=x.2/\x.2<=hi):=by
 unfold VK;simp only[List.mem_flatMap,List.mem_map,aAh];constructor
 ·rintro⟨n,h1,d,h2,rfl⟩;exact⟨h1,h2⟩
 ·rintro⟨h1,h2⟩;exact⟨x.1,h1,x.2,h2,rfl⟩
def aBp(b5 b2:Nat):Value:=.func (.func 255) #[] #[.pointer (some ⟨b5,0,none⟩),.pointer (some ⟨b2,0,none⟩)]
structure WL(v w:Value)(b5 b2:Nat)(H:View):Prop where
 a:∃f,H b5=some (f,.cells ⟨v.cells.toList⟩ 39 (0,0))
 b:∃f,H b2=some (f,.cells ⟨w.cells.toList⟩ 166 (0,0))
theorem WL.le {v w:Value}{b5 b2:Nat}(H H':View)(h:H.le H')(c:WL v w b5 b2 H):WL v w b5 b2 H':=
 ⟨c.a.imp fun _ e=> h _ _ e,c.b.imp fun _ e=> h _ _ e⟩
def Bk.can(k:Bk)(i:Nat):List (Nat×Nat):=VK (k.pf i).toNat (k.pt i).toNat (k.kind (k.qf i)) (k.kind (k.qt i))
section
variable(M:Md prog)(H:View)
theorem aAW(k:Bk)(A:Option Addr)(lc:Nat)(B:Option Addr)(tc:Nat)(hB:tC H k B tc)(i:Nat)(hi:i<k.nt):
  bA M 195 #[k.val A lc B tc,.int .i64 (i:Nat)] H (fun v H'=> H.le H'/\∃b5 b2,v=aBp b5 b2/\WL (UC (k.pf i) (k.pt i) (k.qf i) (k.qt i)) (k.val A lc B tc) b5 b2 H'):=by
 obtain⟨_,h0|⟨tb,to,f,gs,gt,gz,rfl,hb,ht⟩⟩:=hB
 ·omega
 have f1:=ht i hi;refine .en func195 ntmps195 fun St c cs hK=> ?_;refine U2 ?_;refine .bo fun b2=> ?_;refine lD ?_;refine .al fun b5=> ?_;refine U7 ?_;refine .rt hK func195 results195 [_] ?_;exact fun H' hs=> ⟨hs.base,b5,b2,rfl,⟨true,hs.get (i:=0) rfl⟩,⟨true,hs.get (i:=1) rfl⟩⟩
theorem E3(k:Bk)(A:Option Addr)(lc:Nat)(B:Option Addr)(tc:Nat)(i:Nat)(a b lo hi:Nat)(ha:k.pf i=(a:Nat))(hb:k.pt i=(b:Nat))(hb1:b<=1000)(HN:k.kind (k.qf i)=lo)(dQ:k.kind (k.qt i)=hi)(aG1:hi<=2)(b5 b2:Nat)
  (hC:WL (UC (k.pf i) (k.pt i) (k.qf i) (k.qt i)) (k.val A lc B tc) b5 b2 H):
  QJ M (aBp b5 b2) (VK a b lo hi) (fun x (_:Unit)=> [.int .i64 (x.1:Nat),.int .i64 (x.2:Nat)]) (fun _ _=> []) (fun _ _=> []) (WL (UC (k.pf i) (k.pt i) (k.qf i) (k.qt i)) (k.val A lc B tc) b5 b2) [] H:=fun l J D wB h0 hy H₀ ME=> by
 have m8:=fun(H':View)=> fX M H' k A lc B tc (k.qf i);have QW:=fun(H':View)=> fX M H' k A lc B tc (k.qt i);rw[HN] at m8;rw[dQ] at QW;rw[ha,hb] at hC wB;refine uB.of (first:= []) (captured:= [_,_]) aEb rfl ?_;obtain⟨⟨fa,h5⟩,⟨fb,h2⟩⟩:=hC;refine bA.enter (vs:= [.func (.yield l) #[] #[],.pointer (some ⟨b5,0,none⟩),.pointer (some ⟨b2,0,none⟩)]) func255 rfl ntmps255 (Nat.le_of_ble_eq_true rfl) (ME) fun St c cs hK=> ?_;refine U8 ?_;refine Tc.db (Tc.NI (σ:= { s:Nat×View//a<=s.1/\J (VK s.1 b lo hi) s.2 })
  (fun s=> (s.1.2,[(0,.func (.yield l) #[] #[]),(1,.pointer (some ⟨b5,0,none⟩)),(2,.pointer (some ⟨b2,0,none⟩)),(4,.int .i64 (s.1.1:Nat))],[])) (fun s=> b+1-s.1.1) ?_ ⟨(a,H),Nat.le_refl _,h0⟩)
 rintro⟨⟨n,H₁⟩,g1,j1⟩ ih₁;simp only at g1 j1;show Tc M St _ _ H₁ _ [(0,.func (.yield l) #[] #[]),(1,.pointer (some ⟨b5,0,none⟩)),(2,.pointer (some ⟨b2,0,none⟩)),(4,.int .i64 (n:Nat))] [] _ _;obtain⟨⟨fa,h5⟩,⟨fb,h2⟩⟩:=wB _ _ j1;by_cases c1:n<=b
 ·rw[mZ c1] at j1;refine YP ?_;refine .cl (fun H hs=> m8 H) ?_;refine U3 ?_;refine Tc.db (Tc.NI (σ:= { s:Nat×View//lo<=s.1/\J (OF n b lo hi s.1) s.2 })
   (fun s=> (s.1.2,[(0,.func (.yield l) #[] #[]),(1,.pointer (some ⟨b5,0,none⟩)),(2,.pointer (some ⟨b2,0,none⟩)),(4,.int .i64 (n:Nat)),(5,.int .i64 (s.1.1:Nat))],[])) (fun s=> hi+1-s.1.1) ?_ ⟨(lo,H₁),Nat.le_refl _,j1⟩)
  rintro⟨⟨d,H₂⟩,g2,j2⟩ ih₂;simp only at g2 j2;show Tc M St _ _ H₂ _ [(0,.func (.yield l) #[] #[]),(1,.pointer (some ⟨b5,0,none⟩)),(2,.pointer (some ⟨b2,0,none⟩)),(4,.int .i64 (n:Nat)),(5,.int .i64 (d:Nat))] [] _ _;obtain⟨⟨fc,h6⟩,⟨fd,h7⟩⟩:=wB _ _ j2;by_cases c2:d<=hi
  ·rw[TR c2] at j2;have lE:(n,d)∈VK a b lo hi:=wL.2 ⟨⟨g1,c1⟩,g2,c2⟩;refine U8 ?_;refine .cl (fun H hs=> QW H) ?_;refine PE ?_;refine To.vB rfl rfl rfl rfl rfl rfl dE (hy (n,d) (OF n b lo hi (d+1)) () H₂ H₂ lE j2 (gA.nil H₂)) (fun v H₃ hv=> ?_);rcases hv with ⟨rfl,H4,h8,j3⟩|⟨rfl,hD⟩
   ·refine To.lower h8.base ?_;refine lD ?_;exact Tc.db (ih₂ ⟨(d+1,H4),by simp only;omega,j3⟩ (by simp only;omega))
   ·refine U3 ?_;refine .rt hK func255 results255 [] ?_;exact fun H' hs=> ⟨H₃,hs.base,.inr hD⟩
  ·have c3:hi<d:=by omega
   rw[dU c3] at j2;refine U8 ?_;refine .cl (fun H hs=> QW H) ?_;refine lD ?_;exact Tc.db (ih₁ ⟨(n+1,H₂),by simp only;omega,j2⟩ (by simp only;omega))
 ·have c2:b<n:=by omega
  rw[D3 c2] at j1;refine PE ?_;refine .ov hK func255 results255 [] ?_;exact fun H' hs=> ⟨H₁,hs.base,.inl j1⟩
end
end Go.Proofs.YtldmfjcgjdchcaaGreatDoor
namespace Go.RL
open Go.Conc
structure NB(es:Array MapEntry)(cl:Nat)(F:Value->Value->Prop):Prop where
 keys:(es.toList.map (·.key)).Nodup
 TK:(es.toList.map (·.born)).Nodup
 lt:∀e∈es.toList,e.born<cl
 mem:∀k v,F k v<->∃e∈es.toList,e.key=k/\e.val=v
theorem NB.nil:NB #[] 0 fun _ _=> False:=⟨by simp,by simp,by simp,by simp⟩
theorem NB.congr {es:Array MapEntry}{cl:Nat}{F F':Value->Value->Prop}(h:NB es cl F)(k:∀a b,F' a b<->F a b):NB es cl F':=⟨h.keys,h.TK,h.lt,fun a b=> (k a b).trans (h.mem a b)⟩
theorem NB.find {es:Array MapEntry}{cl:Nat}{F:Value->Value->Prop}(h:NB es cl F){k:Value}{r:Option (Nat×Value)}(hr:sI es.toList k r):match r with
  | some (_,v)=> F k v
  | none=> ∀v,¬F k v:=by
 cases r with
 | none=>
  intro v hv;obtain⟨e,he,h1,_⟩:=(h.mem k v).1 hv;exact hr e he h1
 | some p=>
  obtain⟨i,v⟩:=p;obtain⟨e,h1,h2,h3⟩:=hr;exact(h.mem k v).2 ⟨e,List.mem_of_getElem? h1,h2,h3⟩
theorem NB.put {es:Array MapEntry}{cl:Nat}{F:Value->Value->Prop}(h:NB es cl F){k:Value}(v:Value){r:Option (Nat×Value)}(hr:sI es.toList k r):
  ∃es' cl',mX es cl k v r=.map es' cl'/\NB es' cl' fun k' v'=> (k'=k/\v'=v)\/(k'≠k/\F k' v'):=by
 cases r with
 | none=>
  refine⟨_,_,rfl,?_,?_,?_,?_⟩
  ·simp only[Array.toList_push,List.map_append,List.map_cons,List.map_nil];rw[List.nodup_append];refine⟨h.keys,by simp,fun a ha b hb=> ?_⟩;simp only[List.mem_singleton] at hb;subst hb;obtain⟨e,he,rfl⟩:=List.mem_map.1 ha;exact hr e he
  ·simp only[Array.toList_push,List.map_append,List.map_cons,List.map_nil];rw[List.nodup_append];refine⟨h.TK,by simp,fun a ha b hb=> ?_⟩;simp only[List.mem_singleton] at hb;subst hb;obtain⟨e,he,rfl⟩:=List.mem_map.1 ha;have:=h.lt e he;omega
  ·intro e he;simp only[Array.toList_push,List.mem_append,List.mem_singleton] at he;rcases he with he|rfl
   ·have:=h.lt e he;omega
   ·simp
  ·intro k' v';simp only[Array.toList_push,List.mem_append,List.mem_singleton];constructor
   ·rintro(⟨rfl,rfl⟩|⟨_,hf⟩)
    ·exact⟨_,.inr rfl,rfl,rfl⟩
    ·obtain⟨e,he,h1,h2⟩:=(h.mem k' v').1 hf;exact⟨e,.inl he,h1,h2⟩
   ·rintro⟨e,he|rfl,h1,h2⟩
    ·exact .inr ⟨fun e'=> hr e he (h1.trans e'),(h.mem k' v').2 ⟨e,he,h1,h2⟩⟩
    ·exact .inl ⟨h1.symm,h2.symm⟩
 | some p=>
  obtain⟨i,u⟩:=p;obtain⟨e,h1,h2,h3⟩:=hr;have hi:=(List.getElem?_eq_some_iff.1 h1).1;have he:es.toList[i]=e:=(List.getElem?_eq_some_iff.1 h1).2;have HI:es.toList=es.toList.take i++e::es.toList.drop (i+1):=by
   rw[<-he,<-List.drop_eq_getElem_cons hi,List.take_append_drop]
  have GK:(es.modify i fun e=> { e with key:=k,val:=v }).toList=es.toList.take i++{ e with key:=k,val:=v }::es.toList.drop (i+1):=by
   rw[Array.toList_modify,List.modify_eq_take_cons_drop hi,he]
  have hk:=h.keys;rw[HI,List.map_append,List.map_cons] at hk;refine⟨_,_,rfl,?_,?_,?_,?_⟩
  ·rw[GK,List.map_append,List.map_cons];rw[h2] at hk;exact hk
  ·have hb:=h.TK;rw[HI,List.map_append,List.map_cons] at hb;rw[GK,List.map_append,List.map_cons];exact hb
  ·intro x hx;rw[GK] at hx;rcases List.mem_append.1 hx with hx|hx
   ·exact h.lt x (by rw[HI];exact List.mem_append_left _ hx)
   ·rcases List.mem_cons.1 hx with rfl|hx
    ·exact h.lt e (by rw[HI];simp)
    ·exact h.lt x (by rw[HI];exact List.mem_append_right _ (List.mem_cons_of_mem _ hx))
  ·intro k' v';rw[GK];rw[List.nodup_append,List.nodup_cons] at hk;obtain⟨_,⟨m8,_⟩,QW⟩:=hk;constructor
   ·rintro(⟨rfl,rfl⟩|⟨xB,hf⟩)
    ·exact⟨_,List.mem_append_right _ (List.mem_cons_self ..),rfl,rfl⟩
    ·obtain⟨x,hx,g1,g2⟩:=(h.mem k' v').1 hf;rw[HI] at hx;rcases List.mem_append.1 hx with hx|hx
     ·exact⟨x,List.mem_append_left _ hx,g1,g2⟩
     ·rcases List.mem_cons.1 hx with rfl|hx
      ·exact absurd (g1.symm.trans h2) xB
      ·exact⟨x,List.mem_append_right _ (List.mem_cons_of_mem _ hx),g1,g2⟩
   ·rintro⟨x,hx,g1,g2⟩;rcases List.mem_append.1 hx with hx|hx
    ·refine .inr ⟨fun e'=> QW _ (List.mem_map_of_mem hx) _ (List.mem_cons_self ..) (g1.trans (e'.trans h2.symm)),(h.mem k' v').2 ⟨x,by rw[HI];exact List.mem_append_left _ hx,g1,g2⟩⟩
    ·rcases List.mem_cons.1 hx with rfl|hx
     ·exact .inl ⟨g1.symm,g2.symm⟩
     ·refine .inr ⟨fun e'=> m8 ?_,(h.mem k' v').2 ⟨x,by rw[HI];exact List.mem_append_right _ (List.mem_cons_of_mem _ hx),g1,g2⟩⟩;have:=List.mem_map_of_mem (f:=(·.key)) hx;rw[g1,e',<-h2] at this;exact this
def vD(es:Array MapEntry)(seen:Array Nat):List MapEntry:=es.toList.filter fun e=> !seen.contains e.born
theorem VD(es:Array MapEntry):vD es #[]=es.toList:=by simp[vD]
theorem yF {es:Array MapEntry}{seen:Array Nat}(h:∀e∈es.toList,seen.contains e.born=true):vD es seen= []:=by
 unfold vD;rw[List.filter_eq_nil_iff];intro e he;rw[h e he];simp
theorem PG {es:Array MapEntry}{seen:Array Nat}{e:MapEntry}(hn:(es.toList.map (·.born)).Nodup)(he:e∈es.toList)(hs:seen.contains e.born=false):(vD es seen).Perm (e::vD es (seen.push e.born)):=by
 have hme:e∈vD es seen:=by
  unfold vD;rw[List.mem_filter];exact⟨he,by rw[hs];rfl⟩
 obtain⟨A,B,hAB⟩:=List.append_of_mem he;have hb:=hn;rw[hAB,List.map_append,List.map_cons,List.nodup_append,List.nodup_cons] at hb;obtain⟨_,⟨h1,_⟩,h2⟩:=hb;have other:∀x:MapEntry,x.born≠e.born->(!(seen.push e.born).contains x.born)=!seen.contains x.born:=fun x hx=> by
  rw[Array.contains_push];have:(x.born==e.born)=false:=by simpa using hx
  simp[this]
 have hA:A.filter (fun x=> !(seen.push e.born).contains x.born)=A.filter fun x=> !seen.contains x.born:=List.filter_congr fun x hx=> other x fun e'=> h2 _ (List.mem_map_of_mem hx) _ (List.mem_cons_self ..) e';have hB:B.filter (fun x=> !(seen.push e.born).contains x.born)=B.filter fun x=> !seen.contains x.born:=List.filter_congr fun x hx=> other x fun e'=> h1 (by
  have:=List.mem_map_of_mem (f:=(·.born)) hx;rw[e'] at this;exact this)
 unfold vD;rw[hAB,List.filter_append,List.filter_append,List.filter_cons_of_pos (by rw[hs];rfl),List.filter_cons_of_neg (by simp),hA,hB];exact List.perm_middle
end Go.RL
namespace Go.Proofs.YtldmfjcgjdchcaaGreatDoor
open Go.RL Go.Proofs.Tryz
set_option maxRecDepth 10000
theorem C4(s:List UInt8)(m:Int)(d:Bool):flat en 2 170 [mA s,.int .i64 m,.bool d]:=by
 refine⟨rfl,?_⟩;intro f hf;simp only[List.mem_cons,List.not_mem_nil,or_false] at hf;rcases hf with rfl|rfl|rfl
 ·exact⟨⟨_,rfl⟩,_,rfl,rfl,Nat.le_of_ble_eq_true rfl⟩
 ·exact⟨⟨_,rfl⟩,_,rfl,rfl,Nat.le_of_ble_eq_true rfl⟩
 ·exact⟨⟨_,rfl⟩,_,rfl,rfl,Nat.le_of_ble_eq_true rfl⟩
theorem aS(e:YF):JE en 2 170 e.val:=⟨_,[mA e.heard,.int .i64 (e.pend:Nat),.bool e.deaf],rfl,rfl,C4 _ _ _⟩
theorem GG {e e':YF}(h:e.val=e'.val):e=e':=by
 obtain⟨s,m,d⟩:=e;obtain⟨s',m',d'⟩:=e';unfold YF.val B4 at h;simp only[Value.agg.injEq,Array.mk.injEq,List.cons.injEq,Value.string.injEq,ByteArray.mk.injEq,Value.int.injEq,Value.bool.injEq,and_true,true_and] at h;obtain⟨h1,h2,h3⟩:=h;subst h1;subst h3;simp only[YF.mk.injEq,and_true,true_and];omega
def Bk.bE(k:Bk):Nat->YF->Prop
 | 0,e=> e=⟨[],0,false⟩
 | i+1,e=> ∃e0,k.bE i e0/\∃x∈k.can i,e=e0.hear x.1 x.2
def dL(S:YF->Prop)(kv v:Value):Prop:=∃e,S e/\kv=e.val/\v=.bool true
def Bk.VC(k:Bk):Prop:=∀i,i<k.nt->YA (k.pf i) (k.pt i) (k.qf i) (k.qt i)=true
theorem Bk.vG {k:Bk}(h:k.VC){i:Nat}(hi:i<k.nt):(1<=k.pf i/\k.pf i<=k.pt i/\k.pt i<=12)/\k.pt i-k.pf i<4/\(0<=k.qf i/\k.qf i<=k.qt i/\k.qt i<=99):=by
 have:=h i hi;unfold YA at this;simp only[Bool.and_eq_true,decide_eq_true_eq] at this;exact⟨this.1.1,this.1.2,this.2⟩
theorem Bk.xJ(k:Bk)(p:Int):k.kind p<=2:=by
 unfold Bk.kind;split
 ·omega
 ·split <;> omega
theorem Bk.oW {k:Bk}(h:k.VC){i:Nat}(hi:i<k.nt){x:Nat×Nat}(hx:x∈k.can i):x.1<=12/\x.2<=2:=by
 have h1:=k.vG h hi;have h2:=wL.1 hx;have h3:=k.xJ (k.qt i);omega
theorem YF.zY {e:YF}{p kd a b:Nat}(h1:e.heard.length<=a)(h2:e.pend<=b)(h3:p<=12):(e.hear p kd).heard.length<=a+1/\(e.hear p kd).pend<=b+12:=by
 unfold YF.hear;split
 ·omega
 ·split
  ·simp only;omega
  ·split
   ·simp only;omega
   ·simp only[List.length_append,List.length_cons,List.length_nil];omega
theorem Bk.lY {k:Bk}(h:k.VC):∀ {i:Nat} {e:YF},i<=k.nt->k.bE i e->e.heard.length<=i/\e.pend<=12*i
 | 0,e,_,he=> by
  have:e=⟨[],0,false⟩:=he;subst this;exact⟨Nat.le_refl _,Nat.le_refl _⟩
 | i+1,e,hi,⟨e0,h0,x,hx,he⟩=> by
  have h1:=Bk.lY h (i:=i) oM h0;have h2:=Bk.oW h (i:=i) oM hx;subst he;have:=YF.zY (kd:=x.2) h1.1 h1.2 h2.1;omega
theorem u4(e:YF){S:YF->Prop}(hS:∀x,S x<->x=e)(kv v:Value):dL S kv v<->(kv=e.val/\v=.bool true)\/(kv≠e.val/\False):=by
 constructor
 ·rintro⟨x,h1,h2,h3⟩;rw[(hS x).1 h1] at h2;exact .inl ⟨h2,h3⟩
 ·rintro(⟨h1,h2⟩|⟨_,h⟩)
  ·exact⟨e,(hS e).2 rfl,h1,h2⟩
  ·exact h.elim
theorem A4(e:YF)(S:YF->Prop)(kv v:Value):dL (fun x=> x=e\/S x) kv v<->(kv=e.val/\v=.bool true)\/(kv≠e.val/\dL S kv v):=by
 constructor
 ·rintro⟨x,h1,h2,h3⟩;by_cases hx:x=e
  ·subst hx;exact .inl ⟨h2,h3⟩
  ·exact .inr ⟨fun h=> hx (GG (h2.symm.trans h)),x,h1.resolve_left hx,h2,h3⟩
 ·rintro(⟨h1,h2⟩|⟨_,x,h1,h2,h3⟩)
  ·exact⟨e,.inl rfl,h1,h2⟩
  ·exact⟨x,.inr h1,h2,h3⟩
theorem OD {es:Array MapEntry}{cl:Nat}{S:YF->Prop}(h:NB es cl (dL S)):∀e∈es.toList,∃x,S x/\e.key=x.val/\e.val=.bool true:=fun e he=>
 (h.mem e.key e.val).2 ⟨e,he,rfl,rfl⟩
theorem uZ {es:Array MapEntry}{cl:Nat}{S:YF->Prop}(h:NB es cl (dL S)):∀e∈es.toList,JE en 2 170 e.key:=fun e he=> by
 obtain⟨x,_,h2,_⟩:=OD h e he;rw[h2];exact aS x
theorem uJ {es:Array MapEntry}{cl:Nat}{S:YF->Prop}(h:NB es cl (dL S)){e:MapEntry}(he:e∈es.toList):es.find? (fun x=> x.born==e.born)=some e:=by
 rw[<-Array.find?_toList];cases hf:es.toList.find? (fun x=> x.born==e.born) with
 | none=> have:=List.find?_eq_none.1 hf e he;simp at this
 | some e'=>
  have h3:=List.mem_of_find?_eq_some hf;have h4:=List.find?_some hf;simp only[beq_iff_eq] at h4;obtain⟨i,hi,rfl⟩:=List.mem_iff_getElem.1 h3;obtain⟨j,hj,rfl⟩:=List.mem_iff_getElem.1 he;have hb:=h.TK;have QQ:i<(es.toList.map (·.born)).length:=by rw[List.length_map];exact hi
  have rS:j<(es.toList.map (·.born)).length:=by rw[List.length_map];exact hj
  have:(es.toList.map (·.born))[i]=(es.toList.map (·.born))[j]:=by rw[List.getElem_map,List.getElem_map];exact h4
  have:=(List.getElem_inj hb).1 this;subst this;rfl
end Go.Proofs.YtldmfjcgjdchcaaGreatDoor
namespace Go.RL
open Go.Conc
def Mk(rs:List Nat):Bl:=rs.map fun r=> (r,true,.deferred (some []))
def marks(rs:List Nat):List Deferred:=rs.map LH
section
variable {P:Program}{E:Env P}{M:Md P}{St:View->Goroutine->Prop}{n:Nat}{b:FB}{H₀:View}{cs:List Frame}{R:Rg}{L L₁:Bl}{ds:List Deferred}{k:List Item}
theorem Tc.rN(p:L₁.Perm L)(h:Tc M St n b H₀ cs R L₁ ds k):Tc M St n b H₀ cs R L ds k:=fun H tmps hs hr=> h H tmps (hs.perm p) hr
theorem Tc.marked {r:Nat}{rs:List Nat}(h:Tc M St n b H₀ cs R (L++Mk (r::rs)) (marks (r::rs)) k):Tc M St n b H₀ cs R ((r,true,.deferred (some []))::(L++Mk rs)) (LH r::marks rs) k:=
 Tc.rN (L₁:=L++Mk (r::rs)) (List.perm_middle (l₁:=L) (l₂:=Mk rs)) h
theorem Tc.lX {σ:Type}(I:σ->View×Rg×Bl×List Deferred)(μ:σ->Nat){body:Code}
  (step:∀s,(∀s',μ s'<μ s->Tc M St n b (I s').1 cs (I s').2.1 (I s').2.2.1 (I s').2.2.2 (.inLoop body::k))->Tc M St n b (I s).1 cs (I s).2.1 (I s).2.2.1 (I s).2.2.2 (.code body:: .inLoop body::k)) (s₀:σ):
  Tc M St n b (I s₀).1 cs (I s₀).2.1 (I s₀).2.2.1 (I s₀).2.2.2 (.code (.loop body)::k):=by
 have key:∀(m:Nat) (s:σ),μ s<=m->Tc M St n b (I s).1 cs (I s).2.1 (I s).2.2.1 (I s).2.2.2 (.code body:: .inLoop body::k):=by
  intro m;induction m with
  | zero=> exact fun s hs=> step s fun s' HB=> by omega
  | succ m ih=> exact fun s hs=> step s fun s' HB=> .inLoop (ih s' oM)
 exact .loop (key _ s₀ (Nat.le_refl _))
theorem dP {fn:Func}{c:Frame}{Q:Value->View->Prop}{f:FuncId}{rv:List ResultVar}{vs:List Value}{todo:List Item}{tmps:Array Value}(hK:∀v H',Q v H'->T M St H' (G (c.finish v) cs))(hf:P.funcs[f]? =some fn)(DT:fn.results=rv.toArray)
  (ho:YH E R L rv vs) (hr:VA n R tmps) (h:∀H',gA H₀ L H'->Q (cC vs) H'):∀(rs:List Nat) (H:View),gA H₀ (L++Mk rs) H->T M St H (G ((⟨f,.normal,none⟩:FB).back tmps (marks rs) todo) (c::cs))
 | [],H,hs=> by
  have hs':gA H₀ L H:=by
   have:=hs;unfold Mk at this
   rwa [List.map_nil,List.append_nil] at this
  exact .leave hf rfl (UA _ hK (AF hs' hr DT ho (h _ hs')))
 | r ::rs,H,hs=> by
  have hi:(L++Mk (r::rs))[L.length]? =some (r,true,.deferred (some [])):=by
   rw[List.getElem?_append_right (Nat.le_refl _),Nat.sub_self];rfl
  have hd:=hs.get hi;refine .collect ?_;refine⟨true,_,hd,by simp,rfl,?_⟩;refine⟨⟨_,hd,by simp⟩,rfl,?_⟩;have hs':=hs.set hi (true,.deferred none);refine dP hK hf DT ho hr h rs _ (hs'.less ?_);rw[List.set_append_right _ _ (Nat.le_refl _),Nat.sub_self];exact List.Sublist.append (List.Sublist.refl _) (List.sublist_cons_self _ _)
theorem Tc.Y6 {rs:List Nat}{fn:Func}{c:Frame}{Q:Value->View->Prop}{f:FuncId}{rv:List ResultVar}{vs:List Value}(hK:∀v H',Q v H'->T M St H' (G (c.finish v) cs))(hf:P.funcs[f]? =some fn)(DT:fn.results=rv.toArray)
  (ho:YH E R L rv vs) (h:∀H',gA H₀ L H'->Q (cC vs) H'):Tc M St n ⟨f,.normal,none⟩ H₀ (c::cs) R (L++Mk rs) (marks rs) (.code .ret::k):=
 fun H _ hs hr=> .SD rfl (dP hK hf DT ho hr h rs H hs)
end
section
variable {P:Program}{M:Md P}{St:View->Goroutine->Prop}{n:Nat}{b:FB}{H₀:View}{cs:List Frame}{R:Rg}{L:Bl}{ds:List Deferred}{k:List Item}{ops:Array Oper}
theorem Tc.drT {id:Nat}{fuel:Nat}(B C E:List Nat)(m:Nat)(hm:P.follows .mixedOrders=true)(hf:ops.size=fuel)(h:Ta M St n b H₀ cs (S3 H₀ B C (CI (L.take m) E) L) .any ops fuel (Array.replicate fuel false) R L ds k):
  Tc M St n b H₀ cs R L ds (.code (.region id ops true)::k):=fun H tmps hs hr=> by
 subst hf;refine .xF fun t=> ?_;simp only[Region.schedule,hm,Bool.true_or,if_true];have hS:=S3.mk (H₀:=H₀) (B:=B) (C:=C) (listed:=Array.replicate ops.size false) ((SE E (L.take m)).trans (List.take_sublist m L)) (.inr (List.Sublist.refl L)) H hs;exact(h H tmps hs hr hS).sound _ t _ _ _ hS
end
end Go.RL
namespace Go.Proofs.YtldmfjcgjdchcaaGreatDoor
open Go.RL Go.Proofs.Tryz
set_option maxRecDepth 10000
set_option maxHeartbeats 16000000
section
variable(M:Md prog)(H:View)
theorem AW (k:Bk)(A:Option Addr)(lc:Nat)(B:Option Addr)(tc:Nat)(hB:tC H k B tc)(ht:k.VC)(h6:k.nt<=6)(n:Nat)(hn:n<=k.nt):
  bA M 119 #[k.val A lc B tc,.int .i64 (n:Nat)] H (fun v H'=> H.le H'/\∃m es cl,v=.map (some m)/\(∃f,H' m=some (f,.map es cl))/\NB es cl (dL (k.bE n))):=by
 refine .en func119 ntmps119 fun St c cs hK=> ?_;refine U2 ?_;refine .bo fun b2=> ?_;refine U4 ?_;refine .e (Or.makeMap rfl rfl dE (fun m0=> ?_));refine U ?_;refine .e (Or.insert (E:=en) 0 2 rfl rfl rfl rfl rfl rfl rfl dE (aS ⟨[],0,false⟩) (by simp) rfl (fun r hr=> ?_));obtain⟨es1,cl1,e1,hm1⟩:=NB.nil.put (.bool true) hr;rw[e1];refine U3 ?_;have aGe:NB es1 cl1 (dL (k.bE 0)):=hm1.congr (u4 ⟨[],0,false⟩ (fun x=> Iff.rfl));refine Tc.rN (L₁:= [(b2,true,.cells ⟨(k.val A lc B tc).cells.toList⟩ 166 (0,0)),(m0,true,.map es1 cl1)]) (List.Perm.swap ..) ?_;refine Tc.lift (L₂:= [(b2,true,.cells ⟨(k.val A lc B tc).cells.toList⟩ 166 (0,0))]) (L₁:= [(m0,true,.map es1 cl1)]) rfl (fun Hx hx=> ?_);have aBP:=hx.base;have aEw:Hx m0=some (true,.map es1 cl1):=hx.get (i:=0) rfl;clear hx;refine U7 ?_;refine Tc.db (Tc.lX (σ:= { s:View×Nat×Nat×Array MapEntry×Nat×List Nat//H.le s.1/\s.2.1<=n/\(∃f,s.1 s.2.2.1=some (f,.map s.2.2.2.1 s.2.2.2.2.1))/\NB s.2.2.2.1 s.2.2.2.2.1 (dL (k.bE s.2.1)) })
  (fun s=> (s.1.1,[(2,.pointer (some ⟨b2,0,none⟩)),(5,.map (some s.1.2.2.1)),(14,.int .i64 (n:Nat)),(15,.int .i64 (s.1.2.1:Nat))],[(b2,true,.cells ⟨(k.val A lc B tc).cells.toList⟩ 166 (0,0))]++Mk s.1.2.2.2.2.2,marks s.1.2.2.2.2.2)) (fun s=> n-s.1.2.1) ?_ ⟨(Hx,0,m0,es1,cl1,[]),aBP,Nat.zero_le _,⟨true,aEw⟩,aGe⟩)
 rintro⟨⟨H₁,i,m,es,cl,rs⟩,g1,g2,⟨fm,g3⟩,g4⟩ ih₁;simp only at g1 g2 g3 g4;show Tc M St _ _ H₁ _ [(2,.pointer (some ⟨b2,0,none⟩)),(5,.map (some m)),(14,.int .i64 (n:Nat)),(15,.int .i64 (i:Nat))] ([(b2,true,.cells ⟨(k.val A lc B tc).cells.toList⟩ 166 (0,0))]++Mk rs) (marks rs) _;by_cases c1:i=n
 ·subst c1;refine NF ?_;refine Tc.Y6 (E:=en) (L:= [(b2,true,.cells ⟨(k.val A lc B tc).cells.toList⟩ 166 (0,0))]) (rs:=rs) hK func119 results119 (vs:= [_]) ⟨rfl,trivial⟩ ?_;exact fun H' hs=> ⟨View.le_trans g1 hs.base,m,es,cl,rfl,⟨fm,hs.base _ _ g3⟩,g4⟩
 ·have c2 : i < k.nt:=by omega
  obtain⟨t1,t2,t3⟩:=k.vG ht c2;refine vQ ?_;refine .e (Or.makeMap rfl rfl dE (fun mo=> ?_));refine .al fun b7=> ?_;refine U6 ?_;refine .e (Or.range (E:=en) (es:=es) (cl:=cl) rfl rfl (fun H hs=> ⟨fm,hs.base _ _ g3⟩) rfl rfl rfl dE (fun it=> ?_));refine U2 ?_;refine Tc.db (Tc.lX (σ:= { s:View×Array Nat×Array MapEntry×Nat×List Nat//H₁.le s.1/\∃S:YF->Prop,NB s.2.2.1 s.2.2.2.1 (dL S)/\∀e,k.bE (i+1) e<->(S e\/∃me∈vD es s.2.1,∃e0:YF,me.key=e0.val/\∃x∈k.can i,e=e0.hear x.1 x.2) })
   (fun s=> (s.1.1,[(2,.pointer (some ⟨b2,0,none⟩)),(6,.int .i64 (i:Nat)),(7,.pointer (some ⟨b7,0,none⟩)),(14,.int .i64 (n:Nat)),(15,.int .i64 (i:Nat)),(20,.pointer (some ⟨it,0,none⟩))],[(it,true,.mapIter (some m) cl s.1.2.1 cl),(b7,true,.cells ⟨[.map (some mo)]⟩ 218 (0,0)),(mo,true,.map s.1.2.2.1 s.1.2.2.2.1),(b2,true,.cells ⟨(k.val A lc B tc).cells.toList⟩ 166 (0,0))]++Mk s.1.2.2.2.2,marks s.1.2.2.2.2)) (fun s=> (vD es s.1.2.1).length) ?_ ⟨(H₁,#[],#[],0,rs),View.le_refl _,fun _=> False,NB.nil.congr (by rintro a b;simp[dL]),fun e=> by
    rw[VD];constructor
    ·rintro⟨e0,h0,x,hx,rfl⟩;obtain⟨me,h1,h2,_⟩:=(g4.mem e0.val (.bool true)).1 ⟨e0,h0,rfl,rfl⟩;exact .inr ⟨me,h1,e0,h2,x,hx,rfl⟩
    ·rintro(h|⟨me,h1,e0,h2,x,hx,rfl⟩)
     ·exact h.elim
     ·obtain⟨y,h3,h4,_⟩:=OD g4 me h1;rw[GG (h2.symm.trans h4)];exact⟨y,h3,x,hx,rfl⟩⟩)
  rintro⟨⟨H₂,seen,es2,cl2,rs2⟩,p1,S,p2,p3⟩ ih₂;simp only at p1 p2 p3;show Tc M St _ _ H₂ _ [(2,.pointer (some ⟨b2,0,none⟩)),(6,.int .i64 (i:Nat)),(7,.pointer (some ⟨b7,0,none⟩)),(14,.int .i64 (n:Nat)),(15,.int .i64 (i:Nat)),(20,.pointer (some ⟨it,0,none⟩))] ([(it,true,.mapIter (some m) cl seen cl),(b7,true,.cells ⟨[.map (some mo)]⟩ 218 (0,0)),(mo,true,.map es2 cl2),(b2,true,.cells ⟨(k.val A lc B tc).cells.toList⟩ 166 (0,0))]++Mk rs2) (marks rs2) _;have g3':=p1 _ _ g3;refine U2 ?_;refine .e (Or.next (es:=es) 0 rfl rfl rfl (fun H hs=> ⟨fm,hs.base _ _ g3'⟩) g4.lt rfl dE (fun me he hse=> ?_) (fun SA=> ?_))
  ·have hp :=PG g4.TK he hse;obtain⟨e0,u1,u2,_⟩:=OD g4 me he;have II:=uJ g4 he;have E1:=k.lY ht oM u1;refine U8 ?_;refine .e (Or.entry (es:=es) (e:=me) (st:=me.born) rfl rfl (fun H hs=> ⟨true,hs.get (i:=0) rfl⟩) (fun H hs=> ⟨fm,hs.base _ _ g3'⟩) (by simp) II rfl dE ?_);rw[u2];refine U ?_;refine .al fun b8=> ?_;refine U6 ?_;refine To.vB rfl rfl rfl rfl rfl rfl dE (uB.h (aAW M H₂ k A lc B tc (hB.le (View.le_trans g1 p1)) i c2)) (fun v H₃ hv=> ?_);obtain⟨pM,b5,b2',rfl,wB⟩:=hv;refine U ?_;have dI:=fun(H':View) (hc:WL (UC (k.pf i) (k.pt i) (k.qf i) (k.qt i)) (k.val A lc B tc) b5 b2' H')=> E3 M H' k A lc B tc i (k.pf i).toNat (k.pt i).toNat _ _ oM oM oM rfl rfl (k.xJ _) b5 b2' hc;refine U ?_;refine Tc.zK (A:= []) (ts:= [28,29]) (xs:=k.can i) (fun rest H₄ L₄=> ∃es3 cl3,∃S3:YF->Prop,L₄= [(b8,true,.cells ⟨e0.val.cells.toList⟩ 170 (0,0)),(it,true,.mapIter (some m) cl (seen.push me.born) cl),(b7,true,.cells ⟨[.map (some mo)]⟩ 218 (0,0)),(mo,true,.map es3 cl3),(b2,true,.cells ⟨(k.val A lc B tc).cells.toList⟩ 166 (0,0))]++Mk rs2
     /\NB es3 cl3 (dL S3)/\(∀e,(S e\/∃x∈k.can i,e=e0.hear x.1 x.2)<->(S3 e\/∃x∈rest,e=e0.hear x.1 x.2))/\WL (UC (k.pf i) (k.pt i) (k.qf i) (k.qt i)) (k.val A lc B tc) b5 b2' H₄/\H₃.le H₄) (fun _ _ _=> False) rfl rfl rfl rfl dI (fun _ _=> WL.le _ _) (fun _ _ _ ⟨_,_,_,_,_,_,h,_⟩=> h) rfl (fun _ _=> rfl)
     ⟨es2,cl2,S,rfl,p2,fun _=> Iff.rfl,wB,View.le_refl _⟩ ?_ ?_ (fun _ _ _ _ h=> h.elim)
   ·rintro r x rest _ l tmps asg bdy H₄ _ hx ⟨es3,cl3,S3,rfl,q2,q3,q4,q5⟩ Q St1 cc1 cs1 ZM q q';have aB3:=k.oW ht c2 hx;refine U7 ?_;refine Tc.beginRound (i:=0) rfl rfl rfl ?_;refine U ?_;refine Tc.dr [5] [5] mixed rfl ?_;refine V4 0 ?_;refine .z 4 rfl (qA.tk fun H hs=> Z4 M H e0 x.1 x.2 oM oM oM oM) ?_;refine .ea 5 rfl (Or.mapUpdate (E:=en) 5 2 rfl rfl rfl rfl rfl rfl rfl dE (aS _) (uZ q2) rfl (fun r hr=> ⟨S2.mk sL (.inl kR),?_⟩));refine .dn ?_;obtain⟨es4,cl4,e4,q6⟩:=q2.put (.bool true) hr;rw[e4];refine U ?_;refine Tc.GA ZM (i:=0) rfl (.inl ⟨rfl,rfl⟩) (fun H' hs=> q H' H₄ _ hs ⟨es4,cl4,fun y=> y=e0.hear x.1 x.2\/S3 y,rfl,q6.congr (A4 _ _),fun e=> ?_,q4,q5⟩);rw[q3 e];constructor
    ·rintro(h|⟨y,h1,h2⟩)
     ·exact .inl (.inr h)
     ·rcases List.mem_cons.1 h1 with rfl|h3
      ·exact .inl (.inl h2)
      ·exact .inr ⟨y,h3,h2⟩
    ·rintro((h|h)|⟨y,h1,h2⟩)
     ·exact .inr ⟨x,List.mem_cons_self ..,h⟩
     ·exact .inl h
     ·exact .inr ⟨y,List.mem_cons_of_mem _ h1,h2⟩
   ·rintro r H₄ _ ⟨es3,cl3,S3,rfl,q2,q3,q4,q5⟩;refine Tc.marked ?_;refine U2 ?_;have XD:=ih₂ ⟨(H₄,seen.push me.born,es3,cl3,r::rs2),View.le_trans p1 (View.le_trans pM q5),S3,q2,fun e=> ?_⟩ (by simp only;rw[hp.length_eq];simp)
    ·exact Tc.db XD
    ·have h3:=q3 e;simp only[List.not_mem_nil,false_and,exists_false,or_false] at h3;rw[p3 e,<-h3];constructor
     ·rintro(h|⟨me',h1,e0',h2,y,h4,h5⟩)
      ·exact .inl (.inl h)
      ·rcases List.mem_cons.1 (hp.mem_iff.1 h1) with rfl|h6
       ·rw[GG (h2.symm.trans u2)] at h5;exact .inl (.inr ⟨y,h4,h5⟩)
       ·exact .inr ⟨me',h6,e0',h2,y,h4,h5⟩
     ·rintro((h|⟨y,h4,h5⟩)|⟨me',h6,h7⟩)
      ·exact .inl h
      ·exact .inr ⟨me,hp.mem_iff.2 (List.mem_cons_self ..),e0,u2,y,h4,h5⟩
      ·exact .inr ⟨me',hp.mem_iff.2 (List.mem_cons_of_mem _ h6),h7⟩
  ·have rK:=yF SA;rw[rK] at p3;refine QE ?_;refine Tc.db (R':= [(2,.pointer (some ⟨b2,0,none⟩)),(5,.map (some mo)),(14,.int .i64 (n:Nat)),(15,.int .i64 ((i+1:Nat):Int))]) (L':= [(mo,true,.map es2 cl2)]++([(b2,true,.cells ⟨(k.val A lc B tc).cells.toList⟩ 166 (0,0))]++Mk rs2)) ?_;refine Tc.rN (L₁:=([(b2,true,.cells ⟨(k.val A lc B tc).cells.toList⟩ 166 (0,0))]++Mk rs2)++[(mo,true,.map es2 cl2)]) List.perm_append_comm ?_;refine Tc.lift (L₂:= [(b2,true,.cells ⟨(k.val A lc B tc).cells.toList⟩ 166 (0,0))]++Mk rs2) (L₁:= [(mo,true,.map es2 cl2)]) rfl (fun Hy hy=> ?_);have XD:=ih₁ ⟨(Hy,i+1,mo,es2,cl2,rs2),View.le_trans g1 (View.le_trans p1 hy.base),by simp only;omega,⟨true,hy.get (i:=0) rfl⟩,p2.congr fun kv v=> ?_⟩ (by simp only;omega)
   ·exact Tc.db XD
   ·simp only[List.not_mem_nil,false_and,exists_false,or_false] at p3;unfold dL;simp only[p3]
end
def mI(S:Int->Prop)(kv v:Value):Prop:=∃z,S z/\kv=.int .i64 z/\v=.bool true
theorem JG(z:Int):JE en 1 3 (.int .i64 z):=⟨_,[.int .i64 z],rfl,rfl,⟨z,rfl⟩⟩
theorem sV(z:Int)(S:Int->Prop)(kv v:Value):mI (fun x=> x=z\/S x) kv v<->(kv=.int .i64 z/\v=.bool true)\/(kv≠ .int .i64 z/\mI S kv v):=by
 constructor
 ·rintro⟨x,h1,h2,h3⟩;by_cases hx:x=z
  ·subst hx;exact .inl ⟨h2,h3⟩
  ·refine .inr ⟨fun h=> hx ?_,x,h1.resolve_left hx,h2,h3⟩;rw[h2] at h;simpa using h
 ·rintro(⟨h1,h2⟩|⟨_,x,h1,h2,h3⟩)
  ·exact⟨z,.inl rfl,h1,h2⟩
  ·exact⟨x,.inr h1,h2,h3⟩
theorem EM {es:Array MapEntry}{cl:Nat}{S:Int->Prop}(h:NB es cl (mI S)):∀e∈es.toList,∃z,S z/\e.key=.int .i64 z/\e.val=.bool true:=fun e he=>
 (h.mem e.key e.val).2 ⟨e,he,rfl,rfl⟩
theorem aF {es:Array MapEntry}{cl:Nat}{S:Int->Prop}(h:NB es cl (mI S)):∀e∈es.toList,JE en 1 3 e.key:=fun e he=> by
 obtain⟨z,_,h2,_⟩:=EM h e he;rw[h2];exact JG z
def Bk.yX(k:Bk)(z:Int):Prop:=∃e,k.bE k.nt e/\z=iB (k.line e.heard)
section
variable(M:Md prog)(H:View)
theorem CJ(k:Bk)(A:Option Addr)(lc:Nat)(B:Option Addr)(tc:Nat)(hA:BC H k A lc)(hl:k.nl<=1000)(hB:tC H k B tc)(ht:k.VC)(h6:k.nt<=6):
  bA M 122 #[k.val A lc B tc] H (fun v H'=> H.le H'/\∃m es cl,v=.map (some m)/\(∃f,H' m=some (f,.map es cl))/\NB es cl (mI k.yX)):=by
 refine .en func122 ntmps122 fun St c cs hK=> ?_;refine U2 ?_;refine .bo fun b1=> ?_;refine U4 ?_;refine .e (Or.makeMap rfl rfl dE (fun mr=> ?_));refine lD ?_;refine To.vB rfl rfl rfl rfl rfl rfl dE (uB.h (AW M H k A lc B tc hB ht h6 k.nt (Nat.le_refl _))) (fun v H₂ hv=> ?_);obtain⟨hle,m,es,cl,rfl,⟨fm,g3⟩,g4⟩:=hv;refine .e (Or.range (E:=en) (es:=es) (cl:=cl) rfl rfl (fun H hs=> ⟨fm,hs.base _ _ g3⟩) rfl rfl rfl dE (fun it=> ?_));refine U2 ?_;refine Tc.db (Tc.tA (σ:= { s:Array Nat×Array MapEntry×Nat//∃S:Int->Prop,NB s.2.1 s.2.2 (mI S)/\∀z,k.yX z<->(S z\/∃me∈vD es s.1,∃e0:YF,me.key=e0.val/\z=iB (k.line e0.heard)) })
  (fun s=> ([(1,.pointer (some ⟨b1,0,none⟩)),(3,.map (some mr)),(12,.pointer (some ⟨it,0,none⟩))],[(it,true,.mapIter (some m) cl s.1.1 cl),(mr,true,.map s.1.2.1 s.1.2.2),(b1,true,.cells ⟨(k.val A lc B tc).cells.toList⟩ 166 (0,0))])) (fun s=> (vD es s.1.1).length) ?_ ⟨(#[],#[],0),fun _=> False,NB.nil.congr (by rintro a b;simp[mI]),fun z=> by
   rw[VD];constructor
   ·rintro⟨e0,h0,rfl⟩;obtain⟨me,h1,h2,_⟩:=(g4.mem e0.val (.bool true)).1 ⟨e0,h0,rfl,rfl⟩;exact .inr ⟨me,h1,e0,h2,rfl⟩
   ·rintro(h|⟨me,h1,e0,h2,rfl⟩)
    ·exact h.elim
    ·obtain⟨y,h3,h4,_⟩:=OD g4 me h1;rw[GG (h2.symm.trans h4)];exact⟨y,h3,rfl⟩⟩)
 rintro⟨⟨seen,es2,cl2⟩,S,p2,p3⟩ ih;simp only at p2 p3;show Tc M St _ _ H₂ _ [(1,.pointer (some ⟨b1,0,none⟩)),(3,.map (some mr)),(12,.pointer (some ⟨it,0,none⟩))] [(it,true,.mapIter (some m) cl seen cl),(mr,true,.map es2 cl2),(b1,true,.cells ⟨(k.val A lc B tc).cells.toList⟩ 166 (0,0))] _ _;refine U2 ?_;refine .e (Or.next (es:=es) 0 rfl rfl rfl (fun H hs=> ⟨fm,hs.base _ _ g3⟩) g4.lt rfl dE (fun me he hse=> ?_) (fun SA=> ?_))
 ·have hp :=PG g4.TK he hse;obtain⟨e0,u1,u2,_⟩:=OD g4 me he;have II:=uJ g4 he;refine U8 ?_;refine .e (Or.entry (es:=es) (e:=me) (st:=me.born) rfl rfl (fun H hs=> ⟨true,hs.get (i:=0) rfl⟩) (fun H hs=> ⟨fm,hs.base _ _ g3⟩) (by simp) II rfl dE ?_);rw[u2];refine U ?_;refine .al fun b4=> ?_;refine U7 ?_;refine .cl (fun H hs=> cP M H k A lc B tc (hA.le (View.le_trans hle hs.base)) hl e0.heard) ?_;refine .e (Or.mapUpdate (E:=en) 2 1 rfl rfl rfl rfl rfl rfl rfl dE (JG _) (aF p2) rfl (fun r hr=> ?_));obtain⟨es4,cl4,e4,q6⟩:=p2.put (.bool true) hr;rw[e4];refine U2 ?_;exact Tc.db (ih ⟨(seen.push me.born,es4,cl4),fun y=> y=iB (k.line e0.heard)\/S y,q6.congr (sV _ _),fun z=> by
   rw[p3 z];constructor
   ·rintro(h|⟨me',h1,e0',h2,h5⟩)
    ·exact .inl (.inr h)
    ·rcases List.mem_cons.1 (hp.mem_iff.1 h1) with rfl|h6
     ·rw[GG (h2.symm.trans u2)] at h5;exact .inl (.inl h5)
     ·exact .inr ⟨me',h6,e0',h2,h5⟩
   ·rintro((h|h)|⟨me',h6,h7⟩)
    ·exact .inr ⟨me,hp.mem_iff.2 (List.mem_cons_self ..),e0,u2,h⟩
    ·exact .inl h
    ·exact .inr ⟨me',hp.mem_iff.2 (List.mem_cons_of_mem _ h6),h7⟩⟩ (by simp only;rw[hp.length_eq];simp))
 ·have rK:=yF SA;rw[rK] at p3;refine lD ?_;refine .rt hK func122 results122 [_] ?_;simp only[List.not_mem_nil,false_and,exists_false,or_false] at p3;exact fun H' hs=> ⟨View.le_trans hle hs.base,mr,es2,cl2,rfl,⟨true,hs.get (i:=1) rfl⟩,p2.congr fun kv v=> by unfold mI;simp only[p3]⟩
end
set_option maxHeartbeats 4000000
def Bk.PF(k:Bk)(e:YF)(over:Bool):Int:=match k.line e.heard with
 | some i=> (i:Nat)
 | none=> if(e.deaf||over)||(jA (fun i=> pB (k.num i) e.heard) k.nl).isNone then -1 else -2
theorem tG {es:Array MapEntry}{cl:Nat}{S:Int->Prop}(h:NB es cl (mI S)){z:Int}{t:Bool}(ht:t=true<->S z){r:Option (Nat×Value)}(hr:sI es.toList (.int .i64 z) r):HW (.bool false) r false=.bool t:=by
 have h1:=h.find hr;cases r with
 | none=>
  cases t with
  | false=> rfl
  | true=> exact(h1 (.bool true) ⟨z,ht.1 rfl,rfl,rfl⟩).elim
 | some p=>
  obtain⟨i,v⟩:=p;obtain⟨y,h2,h3,h4⟩:=h1;have hy:z=y:=by simpa using h3
  subst hy;subst h4;rw[ht.2 h2];rfl
section
variable(M:Md prog)(H:View)
theorem x9(S:Int->Prop)(z:Int)(m:Nat)(es:Array MapEntry)(cl:Nat)(f:Bool)(hm:H m=some (f,.map es cl))(ZB:NB es cl (mI S))(w:Int)(h:(¬S z/\w=2)\/(S z/\es.size=1/\w=1)\/(S z/\es.size≠1/\w=0)):
  bA M 123 #[.map (some m),.int .i64 z] H (fun v H'=> H.le H'/\v=.int .i64 w):=by
 rcases h with ⟨h1,rfl⟩|⟨h1,h2,rfl⟩|⟨h1,h2,rfl⟩
 ·refine .en func123 ntmps123 fun St c cs hK=> ?_;refine lD ?_;refine .x (qA.lookup (E:=en) 1 (es:=es) (v:=.bool false) rfl rfl rfl (fun H hs=> ⟨f,hs.base _ _ hm⟩) rfl rfl rfl dE (JG z) (aF ZB) (fun r hr=> tG ZB (t:=false) (by simp[h1]) hr)) ?_;refine U8 ?_;refine .rt hK func123 results123 [_] ?_;exact okB
 ·refine .en func123 ntmps123 fun St c cs hK=> ?_;refine lD ?_;refine .x (qA.lookup (E:=en) 1 (es:=es) (v:=.bool true) rfl rfl rfl (fun H hs=> ⟨f,hs.base _ _ hm⟩) rfl rfl rfl dE (JG z) (aF ZB) (fun r hr=> tG ZB (t:=true) (by simp[h1]) hr)) ?_;refine U7 ?_;refine .x (qA.uK (E:=en) (es:=es) rfl rfl rfl rfl rfl (fun H hs=> ⟨f,hs.base _ _ hm⟩) rfl rfl) ?_;rw[h2];refine U8 ?_;refine .rt hK func123 results123 [_] ?_;exact okB
 ·refine .en func123 ntmps123 fun St c cs hK=> ?_;refine lD ?_;refine .x (qA.lookup (E:=en) 1 (es:=es) (v:=.bool true) rfl rfl rfl (fun H hs=> ⟨f,hs.base _ _ hm⟩) rfl rfl rfl dE (JG z) (aF ZB) (fun r hr=> tG ZB (t:=true) (by simp[h1]) hr)) ?_;refine U7 ?_;refine .x (qA.uK (E:=en) (es:=es) rfl rfl rfl rfl rfl (fun H hs=> ⟨f,hs.base _ _ hm⟩) rfl rfl) ?_;refine lD ?_;refine .rt hK func123 results123 [_] ?_;exact okB
theorem L9(e:YF)(b4:Nat)(f:Bool)(hb:H b4=some (f,.cells ⟨e.val.cells.toList⟩ 170 (0,0)))(a num:List UInt8)(F:Option Addr)(n fc:Nat):
  bA M 216 #[gN a num F n fc,.pointer (some ⟨b4,0,none⟩)] H (fun v H'=> H.le H'/\v=.bool (pB num e.heard)):=by
 refine .en func216 ntmps216 fun St c cs hK=> ?_;refine U2 ?_;refine .bo fun b2=> ?_;refine U8 ?_;refine .cl (fun H hs=> mF M H num e.heard) ?_;refine U2 ?_;refine .rt hK func216 results216 [_] ?_;exact okB
theorem aBE(k:Bk)(A:Option Addr)(lc:Nat)(B:Option Addr)(tc:Nat)(hA:BC H k A lc)(hl:k.nl<=1000)(e:YF)(over:Bool):
  bA M 129 #[k.val A lc B tc,e.val,.bool over] H (fun v H'=> H.le H'/\v=.int .i64 (k.PF e over)):=by
 have qK:=fun(H':View) (h':H.le H')=> cP M H' k A lc B tc (hA.le h') hl e.heard;have hf1:=fun(H':View) (h':H.le H') (fv:Value)=> qY M H' k A lc (hA.le h') hl fv (fun i=> pB (k.num i) e.heard);cases hk:k.line e.heard with
 | some i=>
  have e1:k.PF e over=(i:Nat):=by unfold Bk.PF;rw[hk]
  rw[e1];rw[hk] at qK;have e2:iB (some i)=(i:Nat):=rfl;rw[e2] at qK;refine .en func129 ntmps129 fun St c cs hK=> ?_;refine U2 ?_;refine .bo fun b3=> ?_;refine .bo fun b4=> ?_;refine U8 ?_;refine .cl (fun H hs=> qK H hs.base) ?_;refine CG ?_;refine .rt hK func129 results129 [_] ?_;exact okB
 | none=>
  rw[hk] at qK;have e2:iB none= -1:=rfl;rw[e2] at qK;obtain⟨df,EI⟩:∃d,e.deaf=d:=⟨_,rfl⟩
  have ev:e.val=B4 e.heard e.pend df:=by rw[<-EI];rfl
  cases df with
  | true=>
   have e1:k.PF e over= -1:=by unfold Bk.PF;rw[hk];simp[EI]
   rw[e1,ev];refine .en func129 ntmps129 fun St c cs hK=> ?_;refine U2 ?_;refine .bo fun b3=> ?_;refine .bo fun b4=> ?_;refine U8 ?_;refine .cl (fun H hs=> qK H hs.base) ?_;refine U31 ?_;refine .rt hK func129 results129 [_] ?_;exact okB
  | false=>
   cases over with
   | true=>
    have e1:k.PF e true= -1:=by unfold Bk.PF;rw[hk];simp
    rw[e1,ev];refine .en func129 ntmps129 fun St c cs hK=> ?_;refine U2 ?_;refine .bo fun b3=> ?_;refine .bo fun b4=> ?_;refine U8 ?_;refine .cl (fun H hs=> qK H hs.base) ?_;refine U31 ?_;refine .rt hK func129 results129 [_] ?_;exact okB
   | false=>
    have ask:∀b4 H₀,H₀ b4=some (true,.cells ⟨(B4 e.heard e.pend false).cells.toList⟩ 170 (0,0))->E8 M H₀ (.func (.func 216) #[] #[.pointer (some ⟨b4,0,none⟩)]) k (fun i=> pB (k.num i) e.heard):=fun b4 H₀ hb i _ F fc H' hle=>
     uB.of (first:= []) (captured:= [_]) aD6 rfl (L9 M H' e b4 true (by rw[ev];exact hle _ _ hb) (k.name i) (k.num i) F (k.nf i) fc)
    cases hq:jA (fun i=> pB (k.num i) e.heard) k.nl with
    | none=>
     have e1:k.PF e false= -1:=by unfold Bk.PF;rw[hk];simp[hq]
     rw[e1,ev];rw[hq,e2] at hf1;refine .en func129 ntmps129 fun St c cs hK=> ?_;refine U2 ?_;refine .bo fun b3=> ?_;refine .bo fun b4=> ?_;refine U8 ?_;refine .cl (fun H hs=> qK H hs.base) ?_;refine ZX ?_;refine .cl (fun H hs=> hf1 H hs.base _ (ask b4 H (hs.get (i:=0) rfl))) ?_;refine U8 ?_;refine .rt hK func129 results129 [_] ?_;exact okB
    | some j=>
     have e1:k.PF e false= -2:=by unfold Bk.PF;rw[hk];simp[hq,EI]
     rw[e1,ev];rw[hq] at hf1;have e3:iB (some j)=(j:Nat):=rfl;rw[e3] at hf1;refine .en func129 ntmps129 fun St c cs hK=> ?_;refine U2 ?_;refine .bo fun b3=> ?_;refine .bo fun b4=> ?_;refine U8 ?_;refine .cl (fun H hs=> qK H hs.base) ?_;refine ZX ?_;refine .cl (fun H hs=> hf1 H hs.base _ (ask b4 H (hs.get (i:=0) rfl))) ?_;refine U9 ?_;refine .rt hK func129 results129 [_] ?_;exact okB
end
end Go.Proofs.YtldmfjcgjdchcaaGreatDoor
namespace Go.Proofs.YtldmfjcgjdchcaaGreatDoor
open Go.RL Go.Proofs.Tryz
set_option maxRecDepth 10000
theorem DS {sz off:Nat}{gs:List Value}{v:Value}(h:gD true sz gs off=some v):off+sz<=gs.length/\v=.agg ⟨(gs.drop off).take sz⟩:=by
 unfold gD at h;simp only at h;split at h
 ·rename_i hle
  exact⟨Nat.le_of_ble_eq_true hle,(Option.some.inj h).symm⟩
 ·cases h
theorem gX {sz off:Nat}{gs:List Value}(h:off+sz<=gs.length):gD true sz gs off=some (.agg ⟨(gs.drop off).take sz⟩):=by
 unfold gD;have:Nat.ble (off+sz) gs.length=true:=Nat.ble_eq_true_of_le h;simp only[this]
section
variable(M:Md prog)(H:View)
theorem vW(a:Option Addr)(m ca:Nat)(l:List Value)(hm:m<=100000)(nI:OA H 3 (.slice a m ca) m l)(h1:l.all single=true):bA M 218 #[.slice a m ca] H (fun v H'=> H.le H'/\∃g:Gl 68 3,v=g.val/\(g.l=l/\g.n=m)/\∀x∈g.bl,H' x.1=some x.2/\H x.1=none):=by
 refine .en func218 ntmps218 fun St c cs hK=> ?_;cases a with
 | none=>
  refine U8 ?_;refine .x (qA.VJ (E:=en) rfl rfl rfl rfl rfl) ?_;refine U6 ?_;refine .rt hK func218 results218 [_] ?_;obtain⟨_,h2,h3|⟨b,off,_,_,_,_,_,h3,_⟩⟩:=nI
  ·obtain⟨_,_,_,rfl⟩:=h3;have:m=0:=by simp at h2;omega
   subst this;exact fun H' hs'=> ⟨hs'.base,Gl.nil 68 3,rfl,⟨rfl,rfl⟩,by simp[Gl.nil,Gl.bl]⟩
  ·cases h3
 | some a=>
  refine U8 ?_;refine .x (qA.VJ (E:=en) rfl rfl rfl rfl rfl) ?_;refine U5 ?_;refine .e (.bs (zz:=fun bs=> ?_));refine U ?_;refine .e (Or.append (E:=en) (g:=Gl.emp 68 3 bs) 0 rfl rfl rfl rfl rfl rfl rfl rfl rfl rfl rfl rfl rfl rfl rfl (fun H' hs'=> nI.mono hs'.base) h1 (by show 0+m<=_;omega) rfl dE (fun g' hn hl=> ?_));refine U2 ?_;refine .rt hK func218 results218 [_] ?_;exact fun H' hs'=> ⟨hs'.base,g',rfl,⟨by rw[hl];rfl,by rw[hn];show 0+m=m;omega⟩,fun x hx=> ⟨hs'.at_ x hx,hs'.out x hx⟩⟩
end
section
variable(M:Md prog)(H:View)
theorem wW(a:Option Addr)(m ca:Nat)(l:List Value)(hm:m<=100000)(nI:OA H 4 (.slice a m ca) m l)(h1:l.all single=true):bA M 219 #[.slice a m ca] H (fun v H'=> H.le H'/\∃g:Gl 39 4,v=g.val/\(g.l=l/\g.n=m)/\∀x∈g.bl,H' x.1=some x.2/\H x.1=none):=by
 refine .en func219 ntmps219 fun St c cs hK=> ?_;cases a with
 | none=>
  refine U8 ?_;refine .x (qA.VJ (E:=en) rfl rfl rfl rfl rfl) ?_;refine U6 ?_;refine .rt hK func219 results219 [_] ?_;obtain⟨_,h2,h3|⟨b,off,_,_,_,_,_,h3,_⟩⟩:=nI
  ·obtain⟨_,_,_,rfl⟩:=h3;have:m=0:=by simp at h2;omega
   subst this;exact fun H' hs'=> ⟨hs'.base,Gl.nil 39 4,rfl,⟨rfl,rfl⟩,by simp[Gl.nil,Gl.bl]⟩
  ·cases h3
 | some a=>
  refine U8 ?_;refine .x (qA.VJ (E:=en) rfl rfl rfl rfl rfl) ?_;refine U5 ?_;refine .e (.bs (zz:=fun bs=> ?_));refine U ?_;refine .e (Or.append (E:=en) (g:=Gl.emp 39 4 bs) 0 rfl rfl rfl rfl rfl rfl rfl rfl rfl rfl rfl rfl rfl rfl rfl (fun H' hs'=> nI.mono hs'.base) h1 (by show 0+m<=_;omega) rfl dE (fun g' hn hl=> ?_));refine U2 ?_;refine .rt hK func219 results219 [_] ?_;exact fun H' hs'=> ⟨hs'.base,g',rfl,⟨by rw[hl];rfl,by rw[hn];show 0+m=m;omega⟩,fun x hx=> ⟨hs'.at_ x hx,hs'.out x hx⟩⟩
theorem xW(a:Option Addr)(m ca:Nat)(l:List Value)(hm:m<=100000)(nI:OA H 1 (.slice a m ca) m l)(h1:l.all single=true):bA M 220 #[.slice a m ca] H (fun v H'=> H.le H'/\∃g:Gl 110 1,v=g.val/\(g.l=l/\g.n=m)/\∀x∈g.bl,H' x.1=some x.2/\H x.1=none):=by
 refine .en func220 ntmps220 fun St c cs hK=> ?_;cases a with
 | none=>
  refine U8 ?_;refine .x (qA.VJ (E:=en) rfl rfl rfl rfl rfl) ?_;refine U6 ?_;refine .rt hK func220 results220 [_] ?_;obtain⟨_,h2,h3|⟨b,off,_,_,_,_,_,h3,_⟩⟩:=nI
  ·obtain⟨_,_,_,rfl⟩:=h3;have:m=0:=by simp at h2;omega
   subst this;exact fun H' hs'=> ⟨hs'.base,Gl.nil 110 1,rfl,⟨rfl,rfl⟩,by simp[Gl.nil,Gl.bl]⟩
  ·cases h3
 | some a=>
  refine U8 ?_;refine .x (qA.VJ (E:=en) rfl rfl rfl rfl rfl) ?_;refine U5 ?_;refine .e (.bs (zz:=fun bs=> ?_));refine U ?_;refine .e (Or.append (E:=en) (g:=Gl.emp 110 1 bs) 0 rfl rfl rfl rfl rfl rfl rfl rfl rfl rfl rfl rfl rfl rfl rfl (fun H' hs'=> nI.mono hs'.base) h1 (by show 0+m<=_;omega) rfl dE (fun g' hn hl=> ?_));refine U2 ?_;refine .rt hK func220 results220 [_] ?_;exact fun H' hs'=> ⟨hs'.base,g',rfl,⟨by rw[hl];rfl,by rw[hn];show 0+m=m;omega⟩,fun x hx=> ⟨hs'.at_ x hx,hs'.out x hx⟩⟩
end
def ZH(a b:Int):Int:=if a=2\/b=2 then 2 else if a=1 then b else 0
section
variable(M:Md prog)(H:View)
theorem aAQ(a b:Int):bA M 133 #[.int .i64 a,.int .i64 b] H (fun v H'=> H.le H'/\v=.int .i64 (ZH a b)):=by
 refine .en func133 ntmps133 fun St c cs hK=> ?_;by_cases c1:a=2
 ·have e:ZH a b=2:=by unfold ZH;simp[c1]
  subst c1;refine wQ ?_;refine .rt hK func133 results133 [_] ?_;exact fun H' hs=> ⟨hs.base,by rw[e];rfl⟩
 ·by_cases c2:b=2
  ·have e:ZH a b=2:=by unfold ZH;simp[c2]
   subst c2;refine wQ ?_;refine .rt hK func133 results133 [_] ?_;exact fun H' hs=> ⟨hs.base,by rw[e];rfl⟩
  ·by_cases c3:a=1
   ·have e:ZH a b=b:=by unfold ZH;simp[c2,c3]
    subst c3;refine U29 ?_;refine .rt hK func133 results133 [_] ?_;exact fun H' hs=> ⟨hs.base,by rw[e];rfl⟩
   ·have e:ZH a b=0:=by unfold ZH;simp[c1,c2,c3]
    refine U30 ?_;refine .rt hK func133 results133 [_] ?_;exact fun H' hs=> ⟨hs.base,by rw[e];rfl⟩
end
set_option maxHeartbeats 4000000
def XA(n:Nat)(f:Nat->List Value):List Value:=(List.range n).flatMap f
theorem kE(n:Nat)(f:Nat->List Value):XA (n+1) f=XA n f++f n:=by
 unfold XA;rw[List.range_succ,List.flatMap_append];simp
theorem NC {f:Nat->List Value}{sz:Nat}(h:∀i,(f i).length=sz):∀n,(XA n f).length=n*sz
 | 0=> by simp[XA]
 | n+1=> by rw[kE,List.length_append,NC h n,h,Nat.succ_mul]
theorem YM {f g:Nat->List Value}:∀n,(∀i,i<n->f i=g i)->XA n f=XA n g
 | 0,_=> rfl
 | n+1,h=> by rw[kE,kE,YM n (fun i hi=> h i oM),h n oM]
theorem vF {f:Nat->List Value}:∀n i,i<n->∃t,XA n f=XA i f++(f i++t)/\∀g:Nat->List Value,(∀j,j<n->j≠i->g j=f j)->XA n g=XA i f++(g i++t)
 | 0,_,h=> by omega
 | n + 1,i,h=> by
  by_cases e:i=n
  ·subst e;refine⟨[],by rw[kE];simp,fun g hg=> ?_⟩;rw[kE,YM i (fun j hj=> hg j oM oM)];simp
  ·obtain⟨t,h1,h2⟩:=vF (f:=f) n i oM;refine⟨t++f n,by rw[kE,h1];simp,fun g hg=> ?_⟩;rw[kE,h2 g (fun j hj=> hg j oM),hg n oM oM];simp
theorem L4 {f:Nat->List Value}{sz:Nat}(h:∀i,(f i).length=sz){n i:Nat}(hi:i<n)(qB:List Value):gD true sz (XA n f++qB) (i*sz)=some (.agg ⟨f i⟩):=by
 obtain⟨t,h1,_⟩:=vF (f:=f) n i hi;rw[h1];have hl:(XA i f).length=i*sz:=NC h i;rw[gX (by simp only[List.length_append,hl,h i];omega)]
 congr 3
 rw[List.append_assoc,List.append_assoc,List.drop_left' hl,List.take_left' (h i)]
theorem BH {f:Nat->List Value}(h:∀i,(f i).all single=true)(n:Nat):(XA n f).all single=true:=by
 unfold XA;rw[List.all_eq_true];intro x hx;obtain⟨i,_,h2⟩:=List.mem_flatMap.1 hx;exact List.all_eq_true.1 (h i) x h2
def WG(k:Bk)(F:Nat->Option Addr)(fc:Nat->Nat)(i:Nat):List Value:= [mA (k.name i),mA (k.num i),.slice (F i) (k.nf i) (fc i)]
def BB(k:Bk)(i:Nat):List Value:= [.int .i64 (k.pf i),.int .i64 (k.pt i),.int .i64 (k.qf i),.int .i64 (k.qt i)]
def FO(x:Nat->Int)(j:Nat):List Value:= [.int .i64 (x j)]
structure dC(H:View)(k:Bk)(A:Option Addr)(lc:Nat)(B:Option Addr)(tc:Nat)(F:Nat->Option Addr)(fc:Nat->Nat):Prop where
 K1:k.nl<=lc
 v8:k.nt<=tc
 rows:OA H 3 (.slice A k.nl lc) k.nl (XA k.nl (WG k F fc))
 ZD:OA H 4 (.slice B k.nt tc) k.nt (XA k.nt (BB k))
 hfc:∀i,i<k.nl->k.nf i<=fc i
 free:∀i,i<k.nl->OA H 1 (.slice (F i) (k.nf i) (fc i)) (k.nf i) (XA (k.nf i) (FO (k.free i)))
theorem dC.le {H H':View}{k:Bk}{A:Option Addr}{lc:Nat}{B:Option Addr}{tc:Nat}{F:Nat->Option Addr}{fc:Nat->Nat}(h:dC H k A lc B tc F fc)(hl:H.le H'):dC H' k A lc B tc F fc:=
 ⟨h.K1,h.v8,h.rows.mono hl,h.ZD.mono hl,h.hfc,fun i hi=> (h.free i hi).mono hl⟩
theorem gT {H:View}{sz n c:Nat}{A:Option Addr}{f:Nat->List Value}(hf:∀i,(f i).length=sz)(h:OA H sz (.slice A n c) n (XA n f))(hn:0<n)(h0:0<sz):
  ∃b o g gs gt gz,A=some ⟨b,o,none⟩/\H b=some (g,.cells ⟨gs⟩ gt gz)/\∀i:Nat,i<n->gD true sz gs (o+(i:Int).toNat*sz)=some (.agg ⟨f i⟩):=by
 have hl:=NC hf n;have G5:0<n*sz:=Nat.mul_pos hn h0;obtain⟨_,_,⟨_,_,_,h1⟩|⟨b,o,c',g,gs,gt,gz,h1,h2,h3,h4⟩⟩:=h
 ·rw[h1] at hl;simp at hl
  omega
 ·simp only[Value.slice.injEq] at h1;refine⟨b,o,g,gs,gt,gz,h1.1,h2,fun i hi=> ?_⟩;have h5:=L4 hf hi [];rw[List.append_nil] at h5;have h6:=(DS h5).1;rw[<-h4] at h5;rw[<-h5,Int.toNat_natCast];have h7:i*sz+sz<=(XA n f).length:=h6;rw[gX oM,gX (by rw[List.length_take,List.length_drop];omega)]
  congr 3
  rw[List.drop_take,List.take_take,List.drop_drop,Nat.min_eq_left oM]
theorem dC.Z6 {H:View}{k:Bk}{A:Option Addr}{lc:Nat}{B:Option Addr}{tc:Nat}{F:Nat->Option Addr}{fc:Nat->Nat}(h:dC H k A lc B tc F fc):BC H k A lc:=by
 refine⟨h.K1,?_⟩;rcases Nat.eq_zero_or_pos k.nl with h0|h0
 ·exact .inl h0
 ·obtain⟨b,o,g,gs,gt,gz,h1,h2,h3⟩:=gT (f:=WG k F fc) (sz:=3) (fun _=> rfl) h.rows h0 dE;refine .inr ⟨b,o,g,gs,gt,gz,h1,h2,fun i hi=> ⟨F i,fc i,h3 i hi,h.hfc i hi,?_⟩⟩;rcases Nat.eq_zero_or_pos (k.nf i) with h4|h4
  ·exact .inl h4
  ·obtain⟨b',o',g',gs',gt',gz',h5,h6,h7⟩:=gT (f:=FO (k.free i)) (sz:=1) (fun _=> rfl) (h.free i hi) h4 dE;refine .inr ⟨b',o',g',gs',gt',gz',h5,h6,fun j hj=> ?_⟩;have h8:=h7 j hj;have h9:=(DS h8).1;have h10:=(DS h8).2;show gs'[_]? =_;simp only[Value.agg.injEq,Array.mk.injEq,FO] at h10;have h11:=congrArg (fun l=> l[0]?) h10;simp only[List.getElem?_take,List.getElem?_drop] at h11;simpa using h11.symm
theorem dC.HP {H:View}{k:Bk}{A:Option Addr}{lc:Nat}{B:Option Addr}{tc:Nat}{F:Nat->Option Addr}{fc:Nat->Nat}(h:dC H k A lc B tc F fc):tC H k B tc:=by
 refine⟨h.v8,?_⟩;rcases Nat.eq_zero_or_pos k.nt with h0|h0
 ·exact .inl h0
 ·obtain⟨b,o,g,gs,gt,gz,h1,h2,h3⟩:=gT (f:=BB k) (sz:=4) (fun _=> rfl) h.ZD h0 dE;exact .inr ⟨b,o,g,gs,gt,gz,h1,h2,fun i hi=> h3 i hi⟩
def Bk.with(k:Bk)(t:Nat)(x y z w:Int):Bk:=
 { k with pf:=fun i=> if i=t then x else k.pf i,pt:=fun i=> if i=t then y else k.pt i,qf:=fun i=> if i=t then z else k.qf i,qt:=fun i=> if i=t then w else k.qt i }
theorem OC {e:TypeId}{sz:Nat}(g:Gl e sz):(g.bl.map (·.1)).Nodup:=by
 unfold Gl.bl;split <;> simp
theorem tV(k:Bk)(F:Nat->Option Addr)(fc:Nat->Nat)(i:Nat):(WG k F fc i).all single=true:=rfl
theorem mQ(k:Bk)(i:Nat):(BB k i).all single=true:=rfl
theorem jS(x:Nat->Int)(i:Nat):(FO x i).all single=true:=rfl
def addrOf(l:List (Gl 110 1))(F:Nat->Option Addr)(i:Nat):Option Addr:=match l[i]? with
 | some g=> g.blk.map fun b=> ⟨b,0,none⟩
 | none=> F i
def oE(l:List (Gl 110 1))(fc:Nat->Nat)(i:Nat):Nat:=match l[i]? with
 | some g=> g.cap
 | none=> fc i
def lO(l:List (Gl 110 1)):Bl:=l.flatMap Gl.bl
theorem GW {f:Nat->List Value}{sz:Nat}(h:∀i,(f i).length=sz){n i d:Nat}(hi:i<n)(hd:d<sz)(qB:List Value):(XA n f++qB)[i*sz+d]? =(f i)[d]? :=by
 obtain⟨t,h1,_⟩:=vF (f:=f) n i hi;have hl:(XA i f).length=i*sz:=NC h i;rw[h1,List.append_assoc,List.append_assoc,List.getElem?_append_right oM,hl,Nat.add_sub_cancel_left,List.getElem?_append_left (by rw[h i];exact hd)]
theorem M4 {f g:Nat->List Value}{sz:Nat}(h:∀i,(f i).length=sz){n i d:Nat}(hi:i<n)(hd:d<sz)(qB:List Value)(v:Value)(hg:∀j,j<n->j≠i->g j=f j)(hv:g i=(f i).set d v):HF (XA n f++qB) (i*sz+d) [v]=XA n g++qB:=by
 obtain⟨t,h1,h2⟩:=vF (f:=f) n i hi;have hl:(XA i f).length=i*sz:=NC h i;rw[h1,h2 g hg,hv,<-IL _ _ _ _ (by simp only[List.length_append,hl,h i];omega),ZN];rw[List.append_assoc,List.append_assoc,List.set_append_right _ _ oM,hl,Nat.add_sub_cancel_left,List.set_append_left _ _ (by rw[h i];exact hd)];simp
theorem NQ {f g:Nat->List Value}{sz:Nat}(h:∀i,(f i).length=sz)(h':∀i,(g i).length=sz){n i:Nat}(hi:i<n)(qB:List Value)(hg:∀j,j<n->j≠i->g j=f j):HF (XA n f++qB) (i*sz) (g i)=XA n g++qB:=by
 obtain⟨t,h1,h2⟩:=vF (f:=f) n i hi;have hl:(XA i f).length=i*sz:=NC h i;rw[h1,h2 g hg];unfold HF;rw[List.append_assoc,List.append_assoc,List.append_assoc,List.append_assoc,List.take_left' hl,h' i,<-List.drop_drop,List.drop_left' hl,List.drop_left' (h i)];simp
theorem CP {H:View}{f:Nat->List Value}{sz n c b:Nat}{fl:Bool}{qB:List Value}{e:TypeId}{fz:Nat×Nat}(h:∀i,(f i).length=sz)(hb:H b=some (fl,.cells ⟨XA n f++qB⟩ e fz)):OA H sz (.slice (some ⟨b,0,none⟩) n c) n (XA n f):=
 ⟨⟨_,_,rfl⟩,NC h n,.inr ⟨b,0,c,fl,_,e,fz,rfl,hb,by simp,by simp⟩⟩
section
variable(M:Md prog)(H:View)
theorem Y7(k:Bk)(A:Option Addr)(lc:Nat)(B:Option Addr)(tc:Nat)(F:Nat->Option Addr)(fc:Nat->Nat)(hB:dC H k A lc B tc F fc)(hn:k.nl<=1000)(aN:k.nt<=1000)(VW:∀i,i<k.nl->k.nf i<=1000)(t:Nat)(ht:t<k.nt)(x y z w:Int):
   bA M 132 #[k.val A lc B tc,.int .i64 (t:Nat),UC x y z w] H (fun v H'=> H.le H'/\∃A' lc' B' tc' F' fc',v=(k.with t x y z w).val A' lc' B' tc'/\dC H' (k.with t x y z w) A' lc' B' tc' F' fc'):=by
 refine .en func132 ntmps132 fun St c cs hK=> ?_;refine U2 ?_;refine .bo fun b3=> ?_;refine .bo fun b5=> ?_;refine .al fun b6=> ?_;refine U2 ?_;refine Tc.dr [10,13] [2] mixed rfl ?_;refine V3 0 ?_;refine V3 4 ?_;refine .ea 3 rfl (Or.ZA Gl.val Gl.bl (fun g:Gl 68 3=> g.l=XA k.nl (WG k F fc)/\g.n=k.nl) rfl rfl rfl rfl rfl dE OC (fun H₁ JU=> .h (vW M H₁ A k.nl lc _ oM (hB.rows.mono JU.base) (BH (tV k F fc) _))) (fun g hg=> ⟨S2.mk sL (.inr sL),?_⟩));refine .nw 8 ?_;refine .nn 9 ?_;refine .ea 7 rfl (Or.ZA Gl.val Gl.bl (fun g:Gl 39 4=> g.l=XA k.nt (BB k)/\g.n=k.nt) rfl rfl rfl rfl rfl dE OC (fun H₁ JU=> .h (wW M H₁ B k.nt tc _ oM (hB.ZD.mono JU.base) (BH (mQ k) _))) (fun g2 nM=> ⟨S2.mk sL (.inr sL),?_⟩));refine .e 10 2 ?_;refine .nw 11 ?_;refine .nw 12 ?_;refine .e 13 2 ?_;refine .dn ?_;obtain⟨gb,gn,gc,gl,gj,TN,R9,hgj,hg0⟩:=g;obtain⟨rfl,rfl⟩:=hg;obtain⟨g2b,g2n,g2c,g2l,g2j,aG0,aEq,aGZ,aF2⟩:=g2;obtain⟨rfl,rfl⟩:=nM;cases g2b with
 | none=>
   have:=aF2 rfl;omega
 | some tb =>
   cases gb with
   | none=>
     have h0:=hg0 rfl;have h00:k.nl=0:=by omega
     have f3:Nat.ble (0+((t:Nat):Int).toNat*4+4) (XA k.nt (BB k)++g2j).length=true:=by
       refine Nat.ble_eq_true_of_le ?_;rw[List.length_append,NC (f:=BB k) (sz:=4) (fun _=> rfl),Int.toNat_natCast];omega
     refine lD ?_;refine Tc.db (Tc.tA (σ:=Unit) (fun _=> ([(1,.int .i64 (t:Nat)),(3,.pointer (some ⟨b3,0,none⟩)),(5,.pointer (some ⟨b5,0,none⟩)),(6,.pointer (some ⟨b6,0,none⟩)),(23,.int .i64 (k.nl:Nat)),(24,.int .i64 0)],
       [(b6,true,.cells ⟨[.int .i64 0,.int .i64 0,.slice none 0 0,.slice none 0 0]⟩ 166 (0,0)),(b5,true,.cells ⟨[.int .i64 x,.int .i64 y,.int .i64 z,.int .i64 w]⟩ 39 (0,0)),(b3,true,.cells ⟨[.int .i64 k.CB,.int .i64 k.TB,.slice none k.nl gc,.slice (some ⟨tb,0,none⟩) k.nt g2c]⟩ 166 (0,0)),(tb,true,.cells ⟨XA k.nt (BB k)++g2j⟩ 39 (0,0))])) (fun _=> 0) ?_ ())
     rintro _ ih;show Tc M St _ _ _ _ [(1,.int .i64 (t:Nat)),(3,.pointer (some ⟨b3,0,none⟩)),(5,.pointer (some ⟨b5,0,none⟩)),(6,.pointer (some ⟨b6,0,none⟩)),(23,.int .i64 (k.nl:Nat)),(24,.int .i64 0)]
       [(b6,true,.cells ⟨[.int .i64 0,.int .i64 0,.slice none 0 0,.slice none 0 0]⟩ 166 (0,0)),(b5,true,.cells ⟨[.int .i64 x,.int .i64 y,.int .i64 z,.int .i64 w]⟩ 39 (0,0)),(b3,true,.cells ⟨[.int .i64 k.CB,.int .i64 k.TB,.slice none k.nl gc,.slice (some ⟨tb,0,none⟩) k.nt g2c]⟩ 166 (0,0)),(tb,true,.cells ⟨XA k.nt (BB k)++g2j⟩ 39 (0,0))] _ _
     clear ih;rw[show((k.nl:Nat):Int)=0 by rw[h00];rfl];refine ZX ?_;refine .rt hK func132 results132 [_] ?_;refine fun H' hs'=> ⟨hs'.base,none,gc,some ⟨tb,0,none⟩,g2c,F,fc,rfl,R9,aEq,?_,?_,fun i hi=> ?_,fun i hi=> ?_⟩
     · show OA H' 3 (.slice none k.nl gc) k.nl (XA k.nl (WG k F fc));rw[h00];exact⟨⟨_,_,rfl⟩,rfl,.inl ⟨none,gc,rfl,rfl⟩⟩
     · have IB:HF (XA k.nt (BB k)++g2j) (0+((t:Nat):Int).toNat*4) [.int .i64 x,.int .i64 y,.int .i64 z,.int .i64 w]=XA k.nt (BB (k.with t x y z w))++g2j:=by
         rw[Nat.zero_add,Int.toNat_natCast];have h1:=NQ (f:=BB k) (g:=BB (k.with t x y z w)) (sz:=4) (fun _=> rfl) (fun _=> rfl) ht g2j (fun i _ hi=> by simp[BB,Bk.with,hi]);rw[<-h1];simp[BB,Bk.with]
       have h2:H' tb=some (true,.cells ⟨XA k.nt (BB (k.with t x y z w))++g2j⟩ 39 (0,0)):=by
         rw[<-IB];exact hs'.get (i:=3) rfl
       exact CP (f:=BB (k.with t x y z w)) (sz:=4) (n:=k.nt) (c:=g2c) (b:=tb) (fun _=> rfl) h2
     · have QQ:i<k.nl:=hi;omega
     · have QQ:i<k.nl:=hi;omega
   | some lb =>
     refine lD ?_;refine Tc.db (Tc.tA (σ:= { l:List (Gl 110 1)//l.length<=k.nl/\∀i g,l[i]? =some g->g.l=XA (k.nf i) (FO (k.free i))/\g.n=k.nf i })
       (fun l=> ([(1,.int .i64 (t:Nat)),(3,.pointer (some ⟨b3,0,none⟩)),(5,.pointer (some ⟨b5,0,none⟩)),(6,.pointer (some ⟨b6,0,none⟩)),(23,.int .i64 (k.nl:Nat)),(24,.int .i64 (l.1.length:Nat))],
         [(b6,true,.cells ⟨[.int .i64 0,.int .i64 0,.slice none 0 0,.slice none 0 0]⟩ 166 (0,0)),(b5,true,.cells ⟨[.int .i64 x,.int .i64 y,.int .i64 z,.int .i64 w]⟩ 39 (0,0)),(b3,true,.cells ⟨[.int .i64 k.CB,.int .i64 k.TB,.slice (some ⟨lb,0,none⟩) k.nl gc,.slice (some ⟨tb,0,none⟩) k.nt g2c]⟩ 166 (0,0)),
           (lb,true,.cells ⟨XA k.nl (WG k (addrOf l.1 F) (oE l.1 fc))++gj⟩ 68 (0,0)),(tb,true,.cells ⟨XA k.nt (BB k)++g2j⟩ 39 (0,0))]++lO l.1)) (fun l=> k.nl-l.1.length) ?_ ⟨[],Nat.zero_le _,by simp⟩)
     rintro⟨l,hll,hlg⟩ ih;show Tc M St _ _ _ _ [(1,.int .i64 (t:Nat)),(3,.pointer (some ⟨b3,0,none⟩)),(5,.pointer (some ⟨b5,0,none⟩)),(6,.pointer (some ⟨b6,0,none⟩)),(23,.int .i64 (k.nl:Nat)),(24,.int .i64 (l.length:Nat))]
         ([(b6,true,.cells ⟨[.int .i64 0,.int .i64 0,.slice none 0 0,.slice none 0 0]⟩ 166 (0,0)),(b5,true,.cells ⟨[.int .i64 x,.int .i64 y,.int .i64 z,.int .i64 w]⟩ 39 (0,0)),(b3,true,.cells ⟨[.int .i64 k.CB,.int .i64 k.TB,.slice (some ⟨lb,0,none⟩) k.nl gc,.slice (some ⟨tb,0,none⟩) k.nt g2c]⟩ 166 (0,0)),
           (lb,true,.cells ⟨XA k.nl (WG k (addrOf l F) (oE l fc))++gj⟩ 68 (0,0)),(tb,true,.cells ⟨XA k.nt (BB k)++g2j⟩ 39 (0,0))]++lO l) _ _
     by_cases c1:l.length=k.nl
     · have f3:Nat.ble (0+((t:Nat):Int).toNat*4+4) (XA k.nt (BB k)++g2j).length=true:=by
         refine Nat.ble_eq_true_of_le ?_;rw[List.length_append,NC (f:=BB k) (sz:=4) (fun _=> rfl),Int.toNat_natCast];omega
       rw[c1];refine ZX ?_;refine .rt hK func132 results132 [_] ?_;refine fun H' hs'=> ⟨hs'.base,some ⟨lb,0,none⟩,gc,some ⟨tb,0,none⟩,g2c,addrOf l F,oE l fc,rfl,R9,aEq,?_,?_,fun i hi=> ?_,fun i hi=> ?_⟩
       · exact CP (f:=WG k (addrOf l F) (oE l fc)) (sz:=3) (n:=k.nl) (c:=gc) (b:=lb) (fun _=> rfl) (hs'.get (i:=3) rfl)
       · have IB:HF (XA k.nt (BB k)++g2j) (0+((t:Nat):Int).toNat*4) [.int .i64 x,.int .i64 y,.int .i64 z,.int .i64 w]=XA k.nt (BB (k.with t x y z w))++g2j:=by
           rw[Nat.zero_add,Int.toNat_natCast];have h1:=NQ (f:=BB k) (g:=BB (k.with t x y z w)) (sz:=4) (fun _=> rfl) (fun _=> rfl) ht g2j (fun i _ hi=> by simp[BB,Bk.with,hi]);rw[<-h1];simp[BB,Bk.with]
         have h2:H' tb=some (true,.cells ⟨XA k.nt (BB (k.with t x y z w))++g2j⟩ 39 (0,0)):=by
           rw[<-IB];exact hs'.get (i:=4) rfl
         exact CP (f:=BB (k.with t x y z w)) (sz:=4) (n:=k.nt) (c:=g2c) (b:=tb) (fun _=> rfl) h2
       · have hil:i<l.length:=by rw[c1];exact hi
         have h1:l[i]? =some l[i]:=List.getElem?_eq_getElem hil;have h2:=hlg i _ h1;show k.nf i<=oE l fc i;unfold oE;rw[h1];have:=(l[i]).hc;simp only;omega
       · have hil:i<l.length:=by rw[c1];exact hi
         have h1:l[i]? =some l[i]:=List.getElem?_eq_getElem hil;have h2:=hlg i _ h1;have h3:=(l[i]).src (H:=H') (fun y hy=> hs'.at_ y (by have h0:y∈lO l:=List.mem_flatMap.2 ⟨_,List.getElem_mem hil,hy⟩;simp[h0]));rw[h2.1,h2.2] at h3;show OA H' 1 (.slice (addrOf l F i) (k.nf i) (oE l fc i)) (k.nf i) (XA (k.nf i) (FO (k.free i)));have h4:Gl.val l[i]=.slice (addrOf l F i) (k.nf i) (oE l fc i):=by
           unfold addrOf oE;rw[h1,<-h2.2];rfl
         rw[<-h4];exact h3
     · have c2:l.length<k.nl:=by omega
       have f1:gD false 1 (XA k.nl (WG k (addrOf l F) (oE l fc))++gj) (0+((l.length:Nat):Int).toNat*3+2)=some (.slice (F l.length) (k.nf l.length) (fc l.length)):=by
         show _[_]? =_;rw[Nat.zero_add,Int.toNat_natCast,GW (f:=WG k (addrOf l F) (oE l fc)) (sz:=3) (d:=2) (fun _=> rfl) c2 dE];simp[WG,addrOf,oE]
       have f2:Nat.ble (0+((l.length:Nat):Int).toNat*3+2+1) (XA k.nl (WG k (addrOf l F) (oE l fc))++gj).length=true:=by
         refine Nat.ble_eq_true_of_le ?_;rw[List.length_append,NC (f:=WG k (addrOf l F) (oE l fc)) (sz:=3) (fun _=> rfl),Int.toNat_natCast];omega
       refine QE ?_;refine Tc.dr [14] [3] mixed rfl ?_;refine V11 0 ?_;refine .ea 11 rfl (Or.ZA Gl.val Gl.bl (fun g:Gl 110 1=> g.l=XA (k.nf l.length) (FO (k.free l.length))/\g.n=k.nf l.length) rfl rfl rfl rfl rfl dE OC (fun H₁ JU=> .h (xW M H₁ (F l.length) (k.nf l.length) (fc l.length) _ (by have:=VW _ c2;omega) ((hB.free _ c2).mono JU.base) (BH (jS (k.free l.length)) _))) (fun g hg=> ⟨S2.mk sL (.inr sL),?_⟩));refine .nw 12 ?_;refine .nn 13 ?_;refine .e 14 3 ?_;refine .dn ?_;refine U5 ?_;have IB:HF (XA k.nl (WG k (addrOf l F) (oE l fc))++gj) (0+((l.length:Nat):Int).toNat*3+2) (Gl.val g).cells.toList=XA k.nl (WG k (addrOf (l++[g]) F) (oE (l++[g]) fc))++gj:=by
         rw[Nat.zero_add,Int.toNat_natCast];refine M4 (f:=WG k (addrOf l F) (oE l fc)) (sz:=3) (d:=2) (fun _=> rfl) c2 dE gj (Gl.val g) (fun i _ hi=> ?_) ?_
         · by_cases h1:i<l.length
           · simp only[WG,addrOf,oE,List.getElem?_append_left h1]
           · simp only[WG,addrOf,oE];rw[List.getElem?_eq_none (by simp;omega),List.getElem?_eq_none oM]
         · simp only[WG,addrOf,oE,List.getElem?_concat_length];rw[<-hg.2];rfl
       have YJ:lO (l++[g])=lO l++g.bl:=by simp[lO]
       refine Tc.rC (ih ⟨l++[g],by simp;omega,fun i g' hi=> ?_⟩ (by simp;omega)) ?_ ?_
       · by_cases h1:i<l.length
         · rw[List.getElem?_append_left h1] at hi;exact hlg i g' hi
         · by_cases h2:i=l.length
           · subst h2;rw[List.getElem?_concat_length] at hi;cases hi
             exact hg
           · rw[List.getElem?_eq_none (by simp;omega)] at hi;cases hi
       · refine⟨rfl,rfl,rfl,rfl,rfl,?_,trivial⟩;have hlen:(((l++[g]).length:Nat):Int)=(l.length:Nat)+1:=by simp
         show _=some (Value.int .i64 (((l++[g]).length:Nat):Int));rw[hlen];rfl
       · show List.Sublist (_++lO (l++[g])) _;rw[YJ,<-IB,<-List.append_assoc];exact List.Sublist.refl _
end
end Go.Proofs.YtldmfjcgjdchcaaGreatDoor
namespace Go.Proofs.YtldmfjcgjdchcaaGreatDoor
open Go.RL Go.Proofs.Tryz
set_option maxRecDepth 10000
def Bk.eG(k:Bk):Nat->List YF
 | 0=> [⟨[],0,false⟩]
 | i+1=> (k.eG i).flatMap fun e=> (k.can i).map fun x=> e.hear x.1 x.2
theorem Bk.pD(k:Bk):∀n e,e∈k.eG n<->k.bE n e
 | 0,e=> by simp[Bk.eG,Bk.bE]
 | n + 1,e=> by
  simp only[Bk.eG,Bk.bE,List.mem_flatMap,List.mem_map];constructor
  ·rintro⟨e0,h0,x,hx,rfl⟩;exact⟨e0,(k.pD n e0).1 h0,x,hx,rfl⟩
  ·rintro⟨e0,h0,x,hx,rfl⟩;exact⟨e0,(k.pD n e0).2 h0,x,hx,rfl⟩
def distinct:List Int->List Int
 | []=> []
 | x::t=> if x∈distinct t then distinct t else x::distinct t
theorem QD {x:Int}:∀l:List Int,x∈distinct l<->x∈l
 | []=> Iff.rfl
 | y ::t=> by
  unfold distinct;split
  ·rename_i h
   rw[List.mem_cons,QD t];constructor
   ·exact .inr
   ·rintro(rfl|h')
    ·exact(QD t).1 h
    ·exact h'
  ·rw[List.mem_cons,List.mem_cons,QD t]
theorem yE:∀l:List Int,(distinct l).Nodup
 | []=> List.nodup_nil
 | y ::t=> by
  unfold distinct;split
  ·exact yE t
  ·rename_i h
   exact List.nodup_cons.2 ⟨h,yE t⟩
def Bk.ZS(k:Bk):List Int:=distinct ((k.eG k.nt).map fun e=> iB (k.line e.heard))
theorem Bk.RU(k:Bk)(z:Int):z∈k.ZS<->k.yX z:=by
 unfold Bk.ZS Bk.yX;rw[QD,List.mem_map];constructor
 ·rintro⟨e,h,rfl⟩;exact⟨e,(k.pD _ e).1 h,rfl⟩
 ·rintro⟨e,h,rfl⟩;exact⟨e,(k.pD _ e).2 h,rfl⟩
theorem FM {es:Array MapEntry}{cl:Nat}{S:Int->Prop}(h:NB es cl (mI S)){l:List Int}(hl:l.Nodup)(hS:∀z,z∈l<->S z):es.size=l.length:=by
 have hp:(es.toList.map (·.key)).Perm (l.map fun z=> Value.int .i64 z):=by
  rw[List.perm_ext_iff_of_nodup h.keys (List.Pairwise.map _ (fun a b OQ=> by simpa using OQ) hl)];intro x;rw[List.mem_map,List.mem_map];constructor
  ·rintro⟨e,he,rfl⟩;obtain⟨z,h1,h2,_⟩:=EM h e he;exact⟨z,(hS z).2 h1,h2.symm⟩
  ·rintro⟨z,hz,rfl⟩;obtain⟨e,he,h2,_⟩:=(h.mem (.int .i64 z) (.bool true)).1 ⟨z,(hS z).1 hz,rfl,rfl⟩;exact⟨e,he,h2⟩
 have:=hp.length_eq;simpa using this
theorem Bk.uP {k:Bk}{es:Array MapEntry}{cl:Nat}(h:NB es cl (mI k.yX)):es.size=k.ZS.length:=FM h (yE _) k.RU
end Go.Proofs.YtldmfjcgjdchcaaGreatDoor
namespace Go.RL
open Go.Conc
section
variable {P:Program}{M:Md P}{St:View->Goroutine->Prop}{n:Nat}{b:FB}{H₀ H₁:View}{cs:List Frame}{R:Rg}{L:Bl}{ds:List Deferred}{k:List Item}{md:Region.Mode}{ops:Array Oper}
theorem S2.mkL {B:List Nat}{Ls Lb L₁:Bl}{listed:Array Bool}(hle:H₀.le H₁)(h1:Ls.Sublist L₁)(h2:(B.all fun j=> !(listed.getD j true))=false\/Lb.Sublist L₁):∀H,gA H₁ L₁ H->S2 H₀ B Ls Lb listed H:=fun H hs=> S2.mk h1 h2 H (hs.lower hle)
theorem Ta.C3(i:Nat){B:List Nat}{Hs:View}{Ls Lb:Bl}{o:Oper}{d:Nat}{fuel:Nat}{listed:Array Bool}{cl:Go.Call}{x:Operand}{fv:Value}{az:List Value}(hr:Region.ready md ops listed= [i])(hi:ops[i]? =some o)
  (hw:RA (ops.toList.map (fun o:Oper=> o.dst)) R o=some true) (lA:o.op=.call cl) (nB:cl.callee=.value x) (hx:JA R x=some fv) (has:HD R cl.args.toList=some az) (hd:o.dst=some d) (hn:d<n)
  {Q:Value->View->Prop} (hc:uB M fv az H₀ Q) (hle:∀v H₁,Q v H₁->Hs.le H₁) (h1:Ls.Sublist L) (h2:(B.all fun j=> !((listed.setIfInBounds i true).getD j true))=false\/Lb.Sublist L)
  (hk:∀v H₁,Q v H₁->Ta M St n b H₁ cs (S2 Hs B Ls Lb) md ops fuel (listed.setIfInBounds i true) ((d,v)::R) L ds k):
  Ta M St n b H₀ cs (S2 Hs B Ls Lb) md ops (fuel+1) listed R L ds k:=fun H tmps hs uE _ H₂ h2' _=> by
 have hs:=hs.mono h2';refine⟨fun e=> (by rw[hr] at e;cases e),fun j hj o' eQ=> ?_⟩;rw[hr] at hj;have:j=i:=by simpa using hj
 subst this;rw[hi] at eQ;cases eQ
 refine⟨(by rw[lA];rfl),?_⟩;have WV:Region.wanted o (yielded ops tmps)=true:=RB (fun j=> by
  simp only[List.getElem?_map,Array.getElem?_toList];cases ops[j]? <;> rfl) uE hw
 rw[if_pos WV];obtain⟨F,rfl,zT,hF⟩:=hs.split;have e1:=uE.ev hx;have qM:cl.args.map (fC tmps)=az.toArray:=by
  apply Array.ext'
  simpa using uE.evs has
 have hex:execOp (fC tmps) o=(Deferred.ofValue fv az.toArray).bind fun d=> invoke d.target d.args:=by
  have h1:execOp (fC tmps) o=(resolve (fC tmps) cl o.type).bind fun d=> invoke d.target d.args:=by unfold execOp;rw[lA];rfl
  rw[h1];unfold resolve;rw[nB];simp only[e1,qM]
 unfold KE;rw[hex];have fin:∀v H'',gK F Q v H''->S2 Hs B Ls Lb (listed.setIfInBounds j true) H''/\oI M md ops (S2 Hs B Ls Lb) (fun tmps H=> T M St H (G (b.at tmps ds k) cs)) fuel (listed.setIfInBounds j true) (XB tmps o.dst v) H'':=by
  rintro v H'' ⟨H₁,rfl,RP,hq⟩;have xS:gA H₁ L (H₁.plus F):=.BS hs.nodup hF RP;have hS:S2 Hs B Ls Lb (listed.setIfInBounds j true) (H₁.plus F):=S2.mkL (hle v H₁ hq) h1 h2 _ xS;refine⟨hS,?_⟩;rw[hd];exact hk v H₁ hq _ _ xS (uE.put hn v) hS
 refine UA _ (fun nx H' rM=> ?_) (hc.frame zT);cases nx <;> first
  | exact rM.elim
  | exact bA.mono rM fin
  | exact ZL.mono rM fin
theorem Tc.drE {id:Nat}{fuel:Nat}(B E E':List Nat)(hm:P.follows .mixedOrders=true)(hf:ops.size=fuel)(h:Ta M St n b H₀ cs (S2 H₀ B (CI L E) (CI L E')) .any ops fuel (Array.replicate fuel false) R L ds k):
  Tc M St n b H₀ cs R L ds (.code (.region id ops true)::k):=fun H tmps hs hr=> by
 subst hf;refine .xF fun t=> ?_;simp only[Region.schedule,hm,Bool.true_or,if_true];have hS:=S2.mk (H₀:=H₀) (B:=B) (listed:=Array.replicate ops.size false) (SE E L) (.inr (SE E' L)) H hs;exact(h H tmps hs hr hS).sound _ t _ _ _ hS
end
end Go.RL
namespace Go.Proofs.YtldmfjcgjdchcaaGreatDoor
open Go.RL Go.Proofs.Tryz
set_option maxRecDepth 10000
set_option maxHeartbeats 16000000
def Bk.RD(k:Bk)(d:Nat):Int:=if d=0 then 0 else if d=1 then k.CB else k.TB
def Bk.aP(k:Bk)(t:Nat)(x:Nat×Nat):Nat:=(k.with t x.1 x.1 (k.RD x.2) (k.RD x.2)).ZS.length
def Bk.left(k:Bk)(t:Nat):Nat:=(k.can t).foldl (fun m x=> max m (k.aP t x)) 0
theorem Bk.aCa {k:Bk}(ZB:k.VC)(hg1:0<=k.CB/\k.CB<=99)(nM:0<=k.TB/\k.TB<=99){t:Nat}{x:Nat×Nat}(h1:1<=x.1)(h2:x.1<=12):(k.with t x.1 x.1 (k.RD x.2) (k.RD x.2)).VC:=fun i hi=> by
 have h3:=ZB i hi;have hp:0<=k.RD x.2/\k.RD x.2<=99:=by
  unfold Bk.RD;split
  ·omega
  ·split <;> omega
 simp only[Bk.with];split
 ·unfold YA;simp only[Bool.and_eq_true,decide_eq_true_eq];omega
 ·exact h3
section
variable(M:Md prog)(H:View)
theorem aCb(k:Bk)(A:Option Addr)(lc:Nat)(B:Option Addr)(tc:Nat)(F:Nat->Option Addr)(fc:Nat->Nat)(hB:dC H k A lc B tc F fc)(hn:k.nl<=1000)(VW:∀i,i<k.nl->k.nf i<=1000)(ZB:k.VC)(h6:k.nt<=6)(hg1:0<=k.CB/\k.CB<=99)(nM:0<=k.TB/\k.TB<=99)(t:Nat)(ht:t<k.nt):
  bA M 127 #[k.val A lc B tc,.int .i64 (t:Nat)] H (fun v H'=> H.le H'/\v=.int .i64 (k.left t:Nat)):=by
 have hT:=hB.HP;have htr:=k.vG ZB ht;refine .en func127 ntmps127 fun St c cs hK=> ?_;refine U2 ?_;refine .bo fun b2=> ?_;refine .bo fun b3=> ?_;refine PE ?_;refine .al fun b5=> ?_;refine U4 ?_;refine .al fun b6=> ?_;refine U7 ?_;refine To.vB rfl rfl rfl rfl rfl rfl dE (uB.h (aAW M H k A lc B tc hT t ht)) (fun v H₁ hv=> ?_);obtain⟨TE,c5,c2,rfl,wB⟩:=hv;refine U ?_;have dI:=fun(H':View) (hc:WL (UC (k.pf t) (k.pt t) (k.qf t) (k.qt t)) (k.val A lc B tc) c5 c2 H')=> E3 M H' k A lc B tc t (k.pf t).toNat (k.pt t).toNat _ _ oM oM oM rfl rfl (k.xJ _) c5 c2 hc;refine U ?_;refine Tc.db (R':= [(2,.pointer (some ⟨b2,0,none⟩)),(3,.pointer (some ⟨b3,0,none⟩)),(5,.pointer (some ⟨b5,0,none⟩)),(6,.pointer (some ⟨b6,0,none⟩)),(18,aBp c5 c2)]) (L':= [(b6,true,.cells ⟨[.int .i64 ((0:Nat):Int)]⟩ 3 (0,0)),(b5,true,.cells ⟨[.int .i64 0,.int .i64 k.CB,.int .i64 k.TB]⟩ 315 (0,0)),(b3,true,.cells ⟨[.int .i64 (t:Nat)]⟩ 3 (0,0)),(b2,true,.cells ⟨(k.val A lc B tc).cells.toList⟩ 166 (0,0))]) ?_;refine Tc.zK (A:= []) (ts:= [19,20]) (xs:=k.can t) (fun rest H₄ L₄=> ∃m:Nat,L₄= [(b6,true,.cells ⟨[.int .i64 (m:Int)]⟩ 3 (0,0)),(b5,true,.cells ⟨[.int .i64 0,.int .i64 k.CB,.int .i64 k.TB]⟩ 315 (0,0)),(b3,true,.cells ⟨[.int .i64 (t:Nat)]⟩ 3 (0,0)),(b2,true,.cells ⟨(k.val A lc B tc).cells.toList⟩ 166 (0,0))]
   /\rest.foldl (fun m x=> max m (k.aP t x)) m=k.left t/\WL (UC (k.pf t) (k.pt t) (k.qf t) (k.qt t)) (k.val A lc B tc) c5 c2 H₄/\H₁.le H₄) (fun _ _ _=> False) rfl rfl rfl rfl dI (fun _ _=> WL.le _ _) (fun _ _ _ ⟨_,_,_,h,_⟩=> h) rfl (fun _ _=> rfl)
   ⟨0,rfl,rfl,wB,View.le_refl _⟩ ?_ ?_ (fun _ _ _ _ h=> h.elim)
 ·rintro r x rest _ l tmps asg bdy H₄ _ hx ⟨m,rfl,q2,q3,q4⟩ Q St1 cc1 cs1 ZM q q';have aB3:=k.oW ZB ht hx;have P1:=(wL.1 hx).1.1;have VQ:1<=x.1:=by omega
  obtain⟨n,d⟩:=x;have aEA:=k.aCa ZB hg1 nM (t:=t) VQ aB3.1;simp only at aB3 P1 VQ aEA q2;have f1:gD false 1 [Value.int .i64 0,.int .i64 k.CB,.int .i64 k.TB] (0+((d:Nat):Int).toNat*1)=some (.int .i64 (k.RD d)):=by
   rcases(by omega:d=0\/d=1\/d=2) with rfl|rfl|rfl <;> rfl
  refine U7 ?_;refine Tc.beginRound (i:=0) rfl rfl rfl ?_;refine U ?_;refine Tc.dr [14] [2] mixed rfl ?_;refine V4 0 ?_;refine .z 4 rfl (qA.tk fun H hs=> aA4 M H (n:Nat)) ?_;refine V3 5 ?_;refine .z 8 rfl (qA.tk fun H hs=> aA4 M H (k.RD d)) ?_;refine .nn 9 ?_;refine Ta.C3 10 kR rfl rfl rfl rfl rfl rfl rfl dE (uB.h (Y7 M H₄ k A lc B tc F fc (hB.le (View.le_trans TE q4)) hn oM VW t ht (n:Nat) (n:Nat) (k.RD d) (k.RD d))) (by intro _ _ hh;exact hh.1) sL (.inr sL) (fun v5 H₅ hv5=> ?_);obtain⟨aBQ,A',lc',B',tc',F',fc',rfl,hB'⟩:=hv5;refine Ta.C3 11 kR rfl rfl rfl rfl rfl rfl rfl dE (uB.h (CJ M H₅ (k.with t (n:Nat) (n:Nat) (k.RD d) (k.RD d)) A' lc' B' tc' hB'.Z6 hn hB'.HP aEA h6)) (by intro _ _ hh;exact View.le_trans (by assumption) hh.1) sL (.inr sL) (fun v6 H₆ hv6=> ?_);have aA0:H₄.le H₆:=View.le_trans aBQ hv6.1;obtain⟨aBR,m',es,cl,rfl,⟨fm,g5⟩,g6⟩:=hv6;have hz:(if((es.size:Nat):Int)>(m:Int) then((es.size:Nat):Int) else(m:Int))=((max m (k.aP t (n,d)):Nat):Int):=by
   have h1:=Bk.uP g6;have h2:k.aP t (n,d)=es.size:=h1.symm;rw[h2];split <;> omega
  refine .ea 12 rfl (Or.bV (qA.uK (E:=en) (es:=es) rfl rfl rfl rfl rfl (fun H hs=> ⟨fm,hs.base _ _ g5⟩) rfl rfl) rfl dE ⟨S2.mkL (by assumption) sL (.inr sL),?_⟩);refine .ea 13 rfl (Or.bV (qA.max rfl rfl rfl rfl rfl rfl (by assumption)) rfl dE ⟨S2.mkL (by assumption) sL (.inr sL),?_⟩);refine .ea 14 rfl (.st 2 (zz:=⟨S2.mkL (by assumption) sL (.inl kR),?_⟩));refine .dn ?_;refine U ?_;refine Tc.GA ZM (i:=0) rfl (.inl ⟨rfl,rfl⟩) (fun H' hs=> q H' H₆ _ hs ⟨max m (k.aP t (n,d)),rfl,q2,WL.le _ _ aA0 q3,View.le_trans q4 aA0⟩)
 ·rintro r H₄ _ ⟨m,rfl,q2,q3,q4⟩;have q5:m=k.left t:=q2;subst q5;refine U6 ?_;refine Tc.aT (E:=en) (i:=0) hK func127 results127 (vs:= [_]) rfl ⟨rfl,trivial⟩ ?_;exact fun H' hs=> ⟨View.le_trans TE (View.le_trans q4 hs.base),rfl⟩
end
def Bk.fG(k:Bk)(n:Nat):Option Int:=match distinct ((k.eG n).map fun e=> k.PF e (decide (n=k.nt))) with
 | [f]=> if f= -2 then none else some f
 | _=> none
def Bk.UD(k:Bk):Nat->Option (Nat×Int)
 | 0=> none
 | n+1=> (k.UD n).or ((k.fG n).map fun f=> (n,f))
def Bk.settled(k:Bk):Option (Nat×Int):=k.UD (k.nt+1)
theorem Bk.NN {k:Bk}{j:Nat}{x:Nat×Int}(h:k.UD j=some x):∀m,j<=m->k.UD m=some x:=by
 intro m hm;induction m with
 | zero=>
  have:j=0:=by omega
  subst this;exact h
 | succ m ih=>
  by_cases e:j=m+1
  ·subst e;exact h
  ·rw[Bk.UD,ih oM];rfl
theorem YR {l:List Int}{z:Int}(h0:z∈l)(h:∀y∈l,y=z):distinct l= [z]:=by
 have hm:∀y,y∈distinct l<->y∈l:=fun y=> QD l;have hn:=yE l;cases hd:distinct l with
 | nil=>
  have:=(hm z).2 h0;rw[hd] at this;cases this
 | cons a t=>
  rw[hd] at hm hn;have ha:a=z:=h a ((hm a).1 (List.mem_cons_self ..));cases t with
  | nil=> rw[ha]
  | cons b t'=>
   have hb:b=z:=h b ((hm b).1 (by simp));rw[ha,hb] at hn;simp at hn
theorem Bk.pU {k:Bk}{n:Nat}{f:Int}(hf:f≠ -2){e0:YF}(h0:k.bE n e0)(h:∀e,k.bE n e->k.PF e (decide (n=k.nt))=f):k.fG n=some f:=by
 unfold Bk.fG;rw[YR (z:=f)]
 ·simp only;rw[if_neg hf]
 ·exact List.mem_map.2 ⟨e0,(k.pD n e0).2 h0,h e0 h0⟩
 ·intro y hy;obtain⟨e,he,rfl⟩:=List.mem_map.1 hy;exact h e ((k.pD n e).1 he)
theorem Bk.CO {k:Bk}{n:Nat}{f:Int}(h:k.fG n=some f):f≠ -2/\∀e,k.bE n e->k.PF e (decide (n=k.nt))=f:=by
 unfold Bk.fG at h;split at h
 ·rename_i g hg
  split at h
  ·cases h
  ·rename_i xB
   cases h
   refine⟨xB,fun e he=> ?_⟩;have:=(QD _).2 (List.mem_map.2 ⟨e,(k.pD n e).2 he,rfl⟩:k.PF e (decide (n=k.nt))∈(k.eG n).map fun e=> k.PF e (decide (n=k.nt)));rw[hg] at this;simpa using this
 ·cases h
theorem Bk.eS {k:Bk}{n:Nat}{e e':YF}(h:k.bE n e)(h':k.bE n e')(xB:k.PF e (decide (n=k.nt))≠k.PF e' (decide (n=k.nt))):k.fG n=none:=by
 cases hq:k.fG n with
 | none=> rfl
 | some f=>
  obtain⟨_,h2⟩:=Bk.CO hq;exact(xB ((h2 e h).trans (h2 e' h').symm)).elim
theorem Bk.dS {k:Bk}{n:Nat}{e:YF}(h:k.bE n e)(xB:k.PF e (decide (n=k.nt))= -2):k.fG n=none:=by
 cases hq:k.fG n with
 | none=> rfl
 | some f=>
  obtain⟨h1,h2⟩:=Bk.CO hq;exact(h1 ((h2 e h).symm.trans xB)).elim
theorem Bk.JQ(k:Bk)(ZB:k.VC):∀n,n<=k.nt->∃e,k.bE n e
 | 0,_=> ⟨_,rfl⟩
 | n + 1,hn=> by
  obtain⟨e0,h0⟩:=k.JQ ZB n oM;obtain⟨h1,h2,h3⟩:=k.vG ZB (i:=n) oM;refine⟨_,e0,h0,((k.pf n).toNat,k.kind (k.qf n)),wL.2 ⟨⟨Nat.le_refl _,oM⟩,Nat.le_refl _,?_⟩,rfl⟩;simp only;unfold Bk.kind;split
  ·omega
  ·split
   ·split
    ·omega
    ·split <;> omega
   ·split
    ·omega
    ·split
     ·omega
     ·omega
theorem Bk.fW {k:Bk}(h:k.WA=0):k.xD=0/\k.LD=0/\k.xC=0:=by
 unfold Bk.WA at h;split at h
 ·rename_i h1
  split at h
  ·rename_i h2
   exact⟨h1,h2,h⟩
  ·rename_i h2
   exact(h2 h).elim
 ·rename_i h1
  exact(h1 h).elim
theorem kB {p:Nat->Bool}:∀n,jA p n=none<->∀i,i<n->p i=false
 | 0=> ⟨fun _ i hi=> by omega,fun _=> rfl⟩
 | n + 1 => by
  rw[jA];constructor
  ·intro h i hi;cases hq:jA p n with
   | some j=> rw[hq] at h;cases h
   | none=>
    rw[hq] at h;by_cases e:i=n
    ·subst e;cases hp:p i with
     | false=> rfl
     | true=> rw[hp] at h;cases h
    ·exact(kB n).1 hq i oM
  ·intro h;rw[(kB n).2 (fun i hi=> h i oM),h n oM];rfl
theorem Bk.valid {k:Bk}(h:k.WA=0):(1<=k.CB/\k.CB<=99/\k.CB+1<=k.TB/\k.TB<=99)/\k.nl<=6/\k.nt<=6/\k.VC:=by
 obtain⟨h1,h2,h3⟩:=Bk.fW h;unfold Bk.xD at h1;unfold Bk.LD at h2;unfold Bk.xC at h3;refine⟨?_,?_,?_,?_⟩
 ·split at h1
  ·omega
  ·cases h1
 ·split at h2
  ·cases h2
  ·omega
 ·split at h3
  ·cases h3
  ·omega
 ·split at h3
  ·cases h3
  ·split at h3
   ·cases h3
   ·rename_i hq
    intro i hi;have h4:jA k.QB k.nt=none:=by
     cases hz:jA k.QB k.nt with
     | none=> rfl
     | some j=> rw[hz] at hq;exact(hq rfl).elim
    have h5:=(kB _).1 h4 i hi;unfold Bk.QB at h5;simpa using h5
def xP:Option (Nat×Int)->Value
 | none=> .tuple ⟨[.int .i64 0,.int .i64 0,.bool false,.int .i64 0]⟩
 | some (n,f)=> .tuple ⟨[.int .i64 (n:Nat),.int .i64 f,.bool true,.int .i64 0]⟩
theorem o6 {es:Array MapEntry}{cl:Nat}{F:Value->Value->Prop}(h:NB es cl F){e:MapEntry}(he:e∈es.toList):es.find? (fun x=> x.born==e.born)=some e:=by
 rw[<-Array.find?_toList];cases hf:es.toList.find? (fun x=> x.born==e.born) with
 | none=> have:=List.find?_eq_none.1 hf e he;simp at this
 | some e'=>
  have h3:=List.mem_of_find?_eq_some hf;have h4:=List.find?_some hf;simp only[beq_iff_eq] at h4;obtain⟨i,hi,rfl⟩:=List.mem_iff_getElem.1 h3;obtain⟨j,hj,rfl⟩:=List.mem_iff_getElem.1 he;have hb:=h.TK;have QQ:i<(es.toList.map (·.born)).length:=by rw[List.length_map];exact hi
  have rS:j<(es.toList.map (·.born)).length:=by rw[List.length_map];exact hj
  have:(es.toList.map (·.born))[i]=(es.toList.map (·.born))[j]:=by rw[List.getElem_map,List.getElem_map];exact h4
  have:=(List.getElem_inj hb).1 this;subst this;rfl
section
variable(M:Md prog)(H:View)
theorem sQ(k:Bk)(A:Option Addr)(lc:Nat)(B:Option Addr)(tc:Nat)(hk:LF H k A lc B tc)(hn:k.small)(hG:aE H)(ha:k.WA=0):
  bA M 52 #[k.val A lc B tc] H (fun v H'=> H.le H'/\v=xP k.settled):=by
 obtain⟨_,RQ,aN,ZB⟩:=Bk.valid ha;refine .en func52 ntmps52 fun St c cs hK=> ?_;refine U2 ?_;refine .bo fun b1=> ?_;refine U5 ?_;refine Tc.scope ?_;refine U3 ?_;refine .cl (fun H hs=> vC M H k A lc B tc (hk.le hs.base) hn (IA hG hs.base) ha) ?_;refine U3 ?_;refine .al fun b6=> ?_;refine NF ?_;refine Tc.label ?_;refine lD ?_;refine Tc.db (Tc.NI (σ:= { s:View×Nat//H.le s.1/\s.2<=k.nt+1/\k.UD s.2=none })
  (fun s=> (s.1.1,[(1,.pointer (some ⟨b1,0,none⟩)),(6,.pointer (some ⟨b6,0,none⟩)),(22,.int .i64 ((k.nt+1:Nat):Int)),(23,.int .i64 (s.1.2:Nat))],[(b6,true,.cells ⟨(k.val A lc B tc).cells.toList⟩ 166 (0,0)),(b1,true,.cells ⟨(k.val A lc B tc).cells.toList⟩ 45 (0,0))])) (fun s=> k.nt+1-s.1.2) ?_ ⟨(H,0),View.le_refl _,Nat.zero_le _,rfl⟩)
 rintro⟨⟨H₁,n⟩,g1,g2,g3⟩ ih₁;simp only at g1 g2 g3;show Tc M St _ _ H₁ _ [(1,.pointer (some ⟨b1,0,none⟩)),(6,.pointer (some ⟨b6,0,none⟩)),(22,.int .i64 ((k.nt+1:Nat):Int)),(23,.int .i64 (n:Nat))] [(b6,true,.cells ⟨(k.val A lc B tc).cells.toList⟩ 166 (0,0)),(b1,true,.cells ⟨(k.val A lc B tc).cells.toList⟩ 45 (0,0))] _ _;by_cases c1:n=k.nt+1
 ·have e:k.settled=none:=by unfold Bk.settled;rw[<-c1];exact g3
  subst c1;rw[e] at hK;refine QE ?_;refine .rt hK func52 results52 [_,_,_,_] ?_;exact fun H' hs=> ⟨View.le_trans g1 hs.base,rfl⟩
 ·have c2 : n <=k.nt:=by omega
  have aGM:pA .eql .i64 ((n:Nat):Int) ((k.nt:Nat):Int)=some (.bool (decide (n=k.nt))):=by
   by_cases c:n=k.nt
   ·rw[decide_eq_true c];exact VM oM
   ·rw[decide_eq_false c];exact LQ oM
  refine vQ ?_;refine .e (Or.makeMap rfl rfl dE (fun mf=> ?_));refine U7 ?_;refine To.vB rfl rfl rfl rfl rfl rfl dE (uB.h (AW M H₁ k A lc B tc (hk.ZD.le g1) ZB aN n c2)) (fun v H₂ hv=> ?_);obtain⟨hle,m,es,cl,rfl,⟨fm,q3⟩,q4⟩:=hv;refine .e (Or.range (E:=en) (es:=es) (cl:=cl) rfl rfl (fun H hs=> ⟨fm,hs.base _ _ q3⟩) rfl rfl rfl dE (fun it=> ?_));refine U2 ?_;refine Tc.db (Tc.tA (σ:= { s:Array Nat×Array MapEntry×Nat×Option Int//NB s.2.1 s.2.2.1 (mI fun z=> s.2.2.2=some z)/\(∀z,s.2.2.2=some z->z≠ -2/\∃e,k.bE n e/\k.PF e (decide (n=k.nt))=z)/\∀e,k.bE n e->(s.2.2.2=some (k.PF e (decide (n=k.nt)))\/∃me∈vD es s.1,me.key=e.val) })
   (fun s=> ([(1,.pointer (some ⟨b1,0,none⟩)),(6,.pointer (some ⟨b6,0,none⟩)),(7,.int .i64 (n:Nat)),(8,.map (some mf)),(22,.int .i64 ((k.nt+1:Nat):Int)),(23,.int .i64 (n:Nat)),(30,.pointer (some ⟨it,0,none⟩))],[(it,true,.mapIter (some m) cl s.1.1 cl),(mf,true,.map s.1.2.1 s.1.2.2.1),(b6,true,.cells ⟨(k.val A lc B tc).cells.toList⟩ 166 (0,0)),(b1,true,.cells ⟨(k.val A lc B tc).cells.toList⟩ 45 (0,0))])) (fun s=> (vD es s.1.1).length) ?_ ⟨(#[],#[],0,none),NB.nil.congr (by rintro a b;simp[mI]),(fun z h=> by cases h),fun e he=> by
    rw[VD];obtain⟨me,h1,h2,_⟩:=(q4.mem e.val (.bool true)).1 ⟨e,he,rfl,rfl⟩;exact .inr ⟨me,h1,h2⟩⟩)
  rintro⟨⟨seen,es2,cl2,o⟩,p2,p3,p4⟩ ih₂;simp only at p2 p3 p4;show Tc M St _ _ H₂ _ [(1,.pointer (some ⟨b1,0,none⟩)),(6,.pointer (some ⟨b6,0,none⟩)),(7,.int .i64 (n:Nat)),(8,.map (some mf)),(22,.int .i64 ((k.nt+1:Nat):Int)),(23,.int .i64 (n:Nat)),(30,.pointer (some ⟨it,0,none⟩))] [(it,true,.mapIter (some m) cl seen cl),(mf,true,.map es2 cl2),(b6,true,.cells ⟨(k.val A lc B tc).cells.toList⟩ 166 (0,0)),(b1,true,.cells ⟨(k.val A lc B tc).cells.toList⟩ 45 (0,0))] _ _;refine U2 ?_;refine .e (Or.next (es:=es) 0 rfl rfl rfl (fun H hs=> ⟨fm,hs.base _ _ q3⟩) q4.lt rfl dE (fun me he hse=> ?_) (fun SA=> ?_))
  ·have hp :=PG q4.TK he hse;obtain⟨e0,u1,u2,_⟩:=OD q4 me he;have II:=uJ q4 he;have hf:=fun(H':View) (h':H₂.le H')=> aBE M H' k A lc B tc (hk.rows.le (View.le_trans g1 (View.le_trans hle h'))) hn.nl e0 (decide (n=k.nt));obtain⟨z,hz⟩:∃z,k.PF e0 (decide (n=k.nt))=z:=⟨_,rfl⟩
   rw[hz] at hf;refine U8 ?_;refine .e (Or.entry (es:=es) (e:=me) (st:=me.born) rfl rfl (fun H hs=> ⟨true,hs.get (i:=0) rfl⟩) (fun H hs=> ⟨fm,hs.base _ _ q3⟩) (by simp) II rfl dE ?_);rw[u2];refine U ?_;refine .al fun b9=> ?_;refine NF ?_;refine .cl (fun H hs=> hf H hs.base) ?_;refine .e (Or.mapUpdate (E:=en) 2 1 rfl rfl rfl rfl rfl rfl rfl dE (JG _) (aF p2) rfl (fun r hr=> ?_));obtain⟨es4,cl4,e4,q6⟩:=p2.put (.bool true) hr;rw[e4];refine U ?_;have q7:NB es4 cl4 (mI fun y=> y=z\/o=some y):=q6.congr (sV _ _);have next0:k.fG n=none->k.UD (n+1)=none:=fun h=> by rw[Bk.UD,g3,h];rfl
   by_cases d1:∃y,o=some y/\y≠z
   ·obtain⟨y,d2,d3⟩:=d1;obtain⟨_,e1,d4,d5⟩:=p3 y d2;have PC:=next0 (Bk.eS d4 u1 (by rw[d5,hz];exact d3));have AD:es4.size=2:=FM q7 (l:= [z,y]) (by simp;exact fun h=> d3 h.symm) (fun x=> by rw[d2];simp;constructor <;> (rintro(h|h) <;> simp[h]));refine U3 ?_;refine .x (qA.uK (E:=en) (es:=es4) rfl rfl rfl rfl rfl (fun H hs=> ⟨true,hs.get (i:=2) rfl⟩) rfl rfl) ?_;refine NF ?_;exact Tc.db (ih₁ ⟨(H₂,n+1),View.le_trans g1 hle,by simp only;omega,PC⟩ (by simp only;omega))
   ·have q8 :NB es4 cl4 (mI fun y=> y=z):=by
     have e:(fun y=> y=z\/o=some y)=fun y=> y=z:=by
      funext y
      refine propext ⟨?_,.inl⟩;rintro(h|h)
      ·exact h
      ·exact Classical.byContradiction fun h'=> d1 ⟨y,h,h'⟩
     rw[<-e];exact q7
    have AD:es4.size=1:=FM q8 (l:= [z]) (by simp) (fun x=> by simp);by_cases d2:z= -2
    ·have PC:=next0 (Bk.dS u1 (hz.trans d2));refine U3 ?_;refine .x (qA.uK (E:=en) (es:=es4) rfl rfl rfl rfl rfl (fun H hs=> ⟨true,hs.get (i:=2) rfl⟩) rfl rfl) ?_;refine U3 ?_;refine .x (qA.lookup (E:=en) 1 (es:=es4) (v:=.bool true) rfl rfl rfl (fun H hs=> ⟨true,hs.get (i:=2) rfl⟩) rfl rfl rfl dE (JG (-2)) (aF q8) (fun r hr=> tG q8 (t:=true) (by simp[d2]) hr)) ?_;refine U8 ?_;exact Tc.db (ih₁ ⟨(H₂,n+1),View.le_trans g1 hle,by simp only;omega,PC⟩ (by simp only;omega))
    ·have d3:¬(-2:Int)=z:=fun h=> d2 h.symm;refine U3 ?_;refine .x (qA.uK (E:=en) (es:=es4) rfl rfl rfl rfl rfl (fun H hs=> ⟨true,hs.get (i:=2) rfl⟩) rfl rfl) ?_;refine U3 ?_;refine .x (qA.lookup (E:=en) 1 (es:=es4) (v:=.bool false) rfl rfl rfl (fun H hs=> ⟨true,hs.get (i:=2) rfl⟩) rfl rfl rfl dE (JG (-2)) (aF q8) (fun r hr=> tG q8 (t:=false) (by simp[d3]) hr)) ?_;refine U5 ?_;exact Tc.db (ih₂ ⟨(seen.push me.born,es4,cl4,some z),q8.congr (by intro a b;simp[mI,eq_comm]),(fun y h=> by cases h;exact⟨d2,e0,u1,hz⟩),fun e he=> by
      rcases p4 e he with h|⟨me',h1,h2⟩
      ·refine .inl ?_;have h3:=Classical.byContradiction fun h'=> d1 ⟨_,h,h'⟩;rw[h3]
      ·rcases List.mem_cons.1 (hp.mem_iff.1 h1) with rfl|h6
       ·have:=GG (h2.symm.trans u2);rw[this,hz];exact .inl rfl
       ·exact .inr ⟨me',h6,h2⟩⟩ (by simp only;rw[hp.length_eq];simp))
  ·have rK:=yF SA;rw[rK] at p4;simp only[List.not_mem_nil,false_and,exists_false,or_false] at p4;obtain⟨e1,he1⟩:=k.JQ ZB n c2;obtain⟨z,hz⟩:∃z,k.PF e1 (decide (n=k.nt))=z:=⟨_,rfl⟩
   have hoz:o=some z:=by rw[<-hz];exact p4 e1 he1
   subst hoz;have aEl:∀e,k.bE n e->k.PF e (decide (n=k.nt))=z:=fun e he=> (Option.some.inj (p4 e he)).symm;have hfa:k.fG n=some z:=Bk.pU (p3 z rfl).1 he1 aEl;have aBZ:k.settled=some (n,z):=Bk.NN (j:=n+1) (by rw[Bk.UD,g3,hfa];rfl) _ oM;rw[aBZ] at hK;refine U8 ?_;refine .e (Or.range (E:=en) (es:=es2) (cl:=cl2) rfl rfl (fun H hs=> ⟨true,hs.get (i:=1) rfl⟩) rfl rfl rfl dE (fun it2=> ?_));refine .done (.block (.loop (.sr ?_)));refine .e (Or.next (es:=es2) 0 rfl rfl rfl (fun H hs=> ⟨true,hs.get (i:=2) rfl⟩) p2.lt rfl dE (fun me he hse=> ?_) (fun SA=> ?_))
   ·obtain⟨y,u1,u2,_⟩:=EM p2 me he;have u3:y=z:=(Option.some.inj u1).symm;subst u3;have II:=o6 p2 he;refine U8 ?_;refine .e (Or.entry (es:=es2) (e:=me) (st:=me.born) rfl rfl (fun H hs=> ⟨true,hs.get (i:=0) rfl⟩) (fun H hs=> ⟨true,hs.get (i:=2) rfl⟩) (by simp) II rfl dE ?_);rw[u2];refine NF ?_;refine .rt hK func52 results52 [_,_,_,_] ?_;exact fun H' hs=> ⟨View.le_trans g1 (View.le_trans hle hs.base),rfl⟩
   ·have h1:=yF SA;rw[VD] at h1;obtain⟨me,h2,_⟩:=(p2.mem (.int .i64 z) (.bool true)).1 ⟨z,rfl,rfl,rfl⟩;rw[h1] at h2;cases h2
end
def Bk.JH(k:Bk)(p q:Nat->Int)(i:Nat):Bool:=decide (k.pf i<=p i/\p i<=k.pt i)&&decide (k.qf i<=q i/\q i<=k.qt i)
def Bk.mD(k:Bk)(p q:Nat->Int):Nat->YF
 | 0=> ⟨[],0,false⟩
 | i+1=> (k.mD p q i).hear (p i).toNat (k.kind (q i))
def dD(s:List UInt8)(z a:Int):Value:=.tuple ⟨[mA s,.int .i64 z,.int .i64 a]⟩
def Bk.eD(k:Bk)(np nq:Nat)(p q:Nat->Int):Value:=
 if k.WA≠0 then dD [] 0 k.WA else if np≠k.nt\/nq≠k.nt then dD [] 0 2 else
  if(jA (fun i=> !k.JH p q i) k.nt).isSome then dD [] 0 1 else dD (k.mD p q k.nt).heard (iB (k.line (k.mD p q k.nt).heard)) 0
theorem Bk.oU {k:Bk}(h:k.VC){p q:Nat->Int}:∀ {i:Nat},i<=k.nt->(∀j,j<i->k.JH p q j=true)->(k.mD p q i).heard.length<=i/\(k.mD p q i).pend<=12*i
 | 0,_,_=> ⟨Nat.le_refl _,Nat.le_refl _⟩
 | i + 1,hi,FK=> by
  have h1:=Bk.oU h (p:=p) (q:=q) (i:=i) oM (fun j hj=> FK j oM);have h2:=k.vG h (i:=i) oM;have h3:=FK i oM;unfold Bk.JH at h3;simp only[Bool.and_eq_true,decide_eq_true_eq] at h3;have:=YF.zY (e:=k.mD p q i) (p:=(p i).toNat) (kd:=k.kind (q i)) h1.1 h1.2 oM;show((k.mD p q i).hear _ _).heard.length<=_/\_;constructor
  ·exact this.1
  ·have:=this.2;show((k.mD p q i).hear _ _).pend<=_;omega
section
variable(M:Md prog)(H:View)
theorem cO (k:Bk)(A:Option Addr)(lc:Nat)(B:Option Addr)(tc:Nat)(hk:LF H k A lc B tc)(hn:k.small)(hG:aE H)(P Q0:Option Addr)(np nq pc qc:Nat)(p q:Nat->Int)(hP:rB H P np p)(hQ:rB H Q0 nq q):
  bA M 30 #[k.val A lc B tc,.slice P np pc,.slice Q0 nq qc] H (fun v H'=> H.le H'/\v=k.eD np nq p q):=by
 by_cases ha:k.WA=0
 ·have lA := fun(H':View) (h':H.le H')=> vC M H' k A lc B tc (hk.le h') hn (IA hG h') ha;by_cases c1:np=k.nt
  ·by_cases c2 :nq=k.nt
   ·obtain ⟨_,RQ,aN,ZB⟩:=Bk.valid ha;have ev:k.eD np nq p q=if(jA (fun i=> !k.JH p q i) k.nt).isSome then dD [] 0 1 else dD (k.mD p q k.nt).heard (iB (k.line (k.mD p q k.nt).heard)) 0:=by
     unfold Bk.eD;rw[if_neg (by simp[ha]),if_neg (by simp[c1,c2])]
    rw[ev];clear ev;subst c1;subst c2;refine .en func30 ntmps30 fun St c cs hK=> ?_;refine U2 ?_;refine .bo fun b3=> ?_;refine U7 ?_;refine .cl (fun H hs=> lA H hs.base) ?_;refine U3 ?_;refine .al fun b9=> ?_;refine U35 ?_;refine .al fun b10=> ?_;refine lD ?_;refine Tc.db (Tc.tA (σ:= { j:Nat//j<=k.nt/\∀i,i<j->k.JH p q i=true }) (fun j=> ([(1,.slice P k.nt pc),(2,.slice Q0 k.nt qc),(3,.pointer (some ⟨b3,0,none⟩)),(9,.pointer (some ⟨b9,0,none⟩)),(10,.pointer (some ⟨b10,0,none⟩)),(38,.slice B k.nt tc),(39,.int .i64 (k.nt:Nat)),(40,.int .i64 (j.1:Nat))],
     [(b10,true,.cells ⟨(k.mD p q j.1).val.cells.toList⟩ 170 (0,0)),(b9,true,.cells ⟨(k.val A lc B tc).cells.toList⟩ 166 (0,0)),(b3,true,.cells ⟨(k.val A lc B tc).cells.toList⟩ 45 (0,0))])) (fun j=> k.nt-j.1) ?_ ⟨0,Nat.zero_le _,fun i hi=> by omega⟩)
    rintro⟨j,hj,FK⟩ ih;show Tc M St _ _ _ _ [(1,.slice P k.nt pc),(2,.slice Q0 k.nt qc),(3,.pointer (some ⟨b3,0,none⟩)),(9,.pointer (some ⟨b9,0,none⟩)),(10,.pointer (some ⟨b10,0,none⟩)),(38,.slice B k.nt tc),(39,.int .i64 (k.nt:Nat)),(40,.int .i64 (j:Nat))]
     [(b10,true,.cells ⟨(k.mD p q j).val.cells.toList⟩ 170 (0,0)),(b9,true,.cells ⟨(k.val A lc B tc).cells.toList⟩ 166 (0,0)),(b3,true,.cells ⟨(k.val A lc B tc).cells.toList⟩ 45 (0,0))] _ _
    by_cases c3:j=k.nt
    ·subst c3;have e:(jA (fun i=> !k.JH p q i) k.nt).isSome=false:=by
      rw[(kB _).2 (fun i hi=> by simp[FK i hi])];rfl
     rw[e] at hK;have qK:=fun(H':View) (h':H.le H')=> cP M H' k A lc B tc (hk.rows.le h') hn.nl (k.mD p q k.nt).heard;refine U8 ?_;refine Tc.dr [] [] mixed rfl ?_;refine V5 0 ?_;refine .z 5 rfl (qA.tk fun H hs=> qK H hs.base) ?_;refine V3 6 ?_;refine .dn ?_;refine .rt hK func30 results30 [_,_,_] ?_;exact okB
    ·have c4 :j<k.nt:=by omega
     have E1:=Bk.oU ZB hj FK;have htr:=k.vG ZB c4;have hT:=hk.ZD;obtain⟨_,h0|⟨tb,to,f,gs,gt,gz,rfl,hb,hl⟩⟩:=hT
     ·omega
     obtain h0|⟨pb,po,fp,ps,pt,pz,rfl,hpb,F5⟩:=hP
     ·omega
     obtain h0|⟨qb,qo,fq,qs,qt,qz,rfl,hqb,hql⟩:=hQ
     ·omega
     have f1:=hl j c4;have f2:=F5 j c4;have f3:=hql j c4;by_cases c5:k.pf j<=p j/\p j<=k.pt j
     ·have h1:=fun(H':View)=> zA M H' (p j) (k.pf j) (k.pt j) true (decide_eq_true c5);by_cases c6:k.qf j<=q j/\q j<=k.qt j
      ·have h2:=fun(H':View)=> zA M H' (q j) (k.qf j) (k.qt j) true (decide_eq_true c6);obtain⟨pn,CY⟩:∃m:Nat,p j=m:=⟨(p j).toNat,oM⟩
       rw[CY] at f2 h1;have hh:=fun(H':View)=> Z4 M H' (k.mD p q j) pn (k.kind (q j)) oM oM oM (k.xJ _);refine QE ?_;refine .al fun b12=> ?_;refine U5 ?_;refine Tc.dr [] [] mixed rfl ?_;refine D1 0 ?_;refine .z 10 rfl (qA.tk fun H hs=> h1 H) ?_;refine gO 11 ?_;refine .z 23 rfl (qA.tk fun H hs=> h2 H) ?_;refine V2 24 ?_;refine .dn ?_;refine U2 ?_;refine Tc.dr [12] [1] mixed rfl ?_;refine D1 0 ?_;refine .z 10 rfl (qA.tk fun H hs=> fX M H k A lc (some ⟨tb,to,none⟩) tc (q j)) ?_;refine .z 11 rfl (qA.tk fun H hs=> hh H) ?_;refine .e 12 1 ?_;refine .dn ?_;refine U5 ?_;refine Tc.rC (ih ⟨j+1,oM,fun i hi=> ?_⟩ (by simp only;omega)) ⟨rfl,rfl,rfl,rfl,rfl,rfl,rfl,rfl,trivial⟩ ?_
       ·by_cases e:i=j
        ·subst e;unfold Bk.JH;rw[decide_eq_true c5,decide_eq_true c6];rfl
        ·exact FK i oM
       ·have e:k.mD p q (j+1)=(k.mD p q j).hear pn (k.kind (q j)):=by rw[Bk.mD,CY];rfl
        simp only[e];exact sL
      ·have h2:=fun(H':View)=> zA M H' (q j) (k.qf j) (k.qt j) false (decide_eq_false c6);have e:(jA (fun i=> !k.JH p q i) k.nt).isSome=true:=by
        rw[fB (j:=j+1) (x:=j) (by
         rw[jA,(kB j).2 (fun i hi=> by simp[FK i hi])];have:k.JH p q j=false:=by unfold Bk.JH;rw[decide_eq_false c6];simp
         simp[this]) _ oM]
        rfl
       rw[e] at hK;refine QE ?_;refine .al fun b12=> ?_;refine U5 ?_;refine Tc.dr [] [] mixed rfl ?_;refine D1 0 ?_;refine .z 10 rfl (qA.tk fun H hs=> h1 H) ?_;refine gO 11 ?_;refine .z 23 rfl (qA.tk fun H hs=> h2 H) ?_;refine V2 24 ?_;refine .dn ?_;refine U7 ?_;refine .rt hK func30 results30 [_,_,_] ?_;exact okB
     ·have h1:=fun(H':View)=> zA M H' (p j) (k.pf j) (k.pt j) false (decide_eq_false c5);have e:(jA (fun i=> !k.JH p q i) k.nt).isSome=true:=by
       rw[fB (j:=j+1) (x:=j) (by
        rw[jA,(kB j).2 (fun i hi=> by simp[FK i hi])];have:k.JH p q j=false:=by unfold Bk.JH;rw[decide_eq_false c5];simp
        simp[this]) _ oM]
       rfl
      rw[e] at hK;refine QE ?_;refine .al fun b12=> ?_;refine U5 ?_;refine Tc.dr [] [] mixed rfl ?_;refine D1 0 ?_;refine .z 10 rfl (qA.tk fun H hs=> h1 H) ?_;refine V2 11 ?_;refine .nw 13 ?_;refine .nw 14 ?_;refine .nw 15 ?_;refine .nw 16 ?_;refine .nw 17 ?_;refine .nw 18 ?_;refine .nw 19 ?_;refine .nw 20 ?_;refine .nw 21 ?_;refine .nw 22 ?_;refine .nw 23 ?_;refine .nw 24 ?_;refine .nn 25 ?_;refine .dn ?_;refine U7 ?_;refine .rt hK func30 results30 [_,_,_] ?_;exact okB
   ·have ev:k.eD np nq p q=dD [] 0 2:=by
     unfold Bk.eD;rw[if_neg (by simp[ha]),if_pos (.inr c2)]
    rw[ev];refine .en func30 ntmps30 fun St c cs hK=> ?_;refine U2 ?_;refine .bo fun b3=> ?_;refine U7 ?_;refine .cl (fun H hs=> lA H hs.base) ?_;refine U3 ?_;refine .al fun b9=> ?_;refine U37 ?_;refine .rt hK func30 results30 [_,_,_] ?_;exact okB
  ·have ev:k.eD np nq p q=dD [] 0 2:=by
    unfold Bk.eD;rw[if_neg (by simp[ha]),if_pos (.inl c1)]
   rw[ev];refine .en func30 ntmps30 fun St c cs hK=> ?_;refine U2 ?_;refine .bo fun b3=> ?_;refine U7 ?_;refine .cl (fun H hs=> lA H hs.base) ?_;refine U3 ?_;refine .al fun b9=> ?_;refine U37 ?_;refine .rt hK func30 results30 [_,_,_] ?_;exact okB
 ·have ev:k.eD np nq p q=dD [] 0 k.WA:=if_pos ha;rw[ev];refine .en func30 ntmps30 fun St c cs hK=> ?_;refine U2 ?_;refine .bo fun b3=> ?_;refine U7 ?_;refine .cl (fun H hs=> wK M H k A lc B tc true (hk.le hs.base) hn (IA hG hs.base) ha) ?_;refine U3 ?_;refine .al fun b9=> ?_;refine YP ?_;refine .rt hK func30 results30 [_,_,_] ?_;exact okB
end
end Go.Proofs.YtldmfjcgjdchcaaGreatDoor
