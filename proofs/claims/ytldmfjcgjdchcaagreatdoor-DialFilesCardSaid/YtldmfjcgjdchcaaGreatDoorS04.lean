/-
 Texts of the proofs over baudot/dial.
-/
import Derived.Test.YtldmfjcgjdchcaaGreatDoorS03
import Derived.Laws.RangeAny
namespace Go.Proofs.YtldmfjcgjdchcaaGreatDoor
open Go.RL Go.Proofs.Tryz
set_option maxRecDepth 10000
set_option maxHeartbeats 4000000
def ZC(num s:By):Bool:=XA num s||XA s num
def Bk.clash(k:Bk)(s:By):Bool:=(kA (fun i=> ZC (k.num i) s) k.nl).isSome
def OC(c:UInt8):Bool:=decide (48<=c.toNat/\c.toNat<58)
def cM:By:= [48,49,50,51,52,53,54,55,56,57]
def qF(i:Nat):List Value:=(List.range 256).map fun j=> .bool (decide (48<=j/\j<48+i))
def qH(s:By):By:=(s.reverse.dropWhile OC).reverse
def qJ(s:By):By:=(qH s).dropWhile OC
def isNum(s:By):Bool:=decide (1<=s.length/\s.length<=3)&&s.all OC
theorem rV:qF 0=List.replicate 256 (.bool false):=by kernel_rfl
theorem M1:∀i,i<10->wH (qF i) (0+((48+i:Nat):Int).toNat*1) [.bool true]=qF (i+1):=by
 intro i hi;rcases(by omega:i=0\/i=1\/i=2\/i=3\/i=4\/i=5\/i=6\/i=7\/i=8\/i=9) with rfl|rfl|rfl|rfl|rfl|rfl|rfl|rfl|rfl|rfl <;> kernel_rfl
theorem K1(c:UInt8):zE false 1 (qF 10) (0+((c.toNat:Nat):Int).toNat*1)=some (.bool (OC c)):=by
 show(qF 10)[_]? =_;have:c.toNat<256:=c.toNat_lt;unfold qF OC;rw[List.getElem?_map,Int.toNat_natCast,Nat.mul_one,Nat.zero_add,List.getElem?_range this];rfl
theorem aA9:∀i,i<10->cM[i]? =some (UInt8.ofNat (48+i)):=by decide
theorem PY(s:By)(c:UInt8)(h:OC c=true):qH (s++[c])=qH s:=by
 unfold qH;rw[List.reverse_append];simp[h]
theorem QY(s:By)(c:UInt8)(h:OC c=false):qH (s++[c])=s++[c]:=by
 unfold qH;rw[List.reverse_append];simp[h]
theorem JK(s:By):(qJ s== [])=s.all OC:=by
 have h:qJ s= []<->∀c∈s,OC c=true:=by
  unfold qJ qH;constructor
  ·intro h c hc;have h1:∀l:By,l.dropWhile OC= []->∀c∈l,OC c=true:=by
    intro l;induction l with
    | nil=> simp
    | cons x t ih=>
     rw[List.dropWhile_cons];split
     ·rename_i hx
      intro h c hc;rcases List.mem_cons.1 hc with rfl|hc
      ·exact hx
      ·exact ih h c hc
     ·intro h;cases h
   have h2:=h1 _ h;have h3:∀l:By,(∀c∈l.dropWhile OC,OC c=true)->∀c∈l,OC c=true:=by
    intro l;induction l with
    | nil=> simp
    | cons x t ih=>
     rw[List.dropWhile_cons];split
     ·rename_i hx
      intro h c hc;rcases List.mem_cons.1 hc with rfl|hc
      ·exact hx
      ·exact ih h c hc
     ·intro h c hc;exact h c hc
   exact h3 s.reverse (fun c hc=> h2 c (List.mem_reverse.2 hc)) c (List.mem_reverse.2 hc)
  ·intro h;have h1:∀l:By,(∀c∈l,OC c=true)->l.dropWhile OC= []:=by
    intro l;induction l with
    | nil=> simp
    | cons x t ih=>
     intro h;rw[List.dropWhile_cons,if_pos (h x (List.mem_cons_self ..))];exact ih fun c hc=> h c (List.mem_cons_of_mem _ hc)
   rw[h1 s.reverse (fun c hc=> h c (List.mem_reverse.1 hc))];rfl
 rw[Bool.eq_iff_iff,beq_iff_eq,h,List.all_eq_true]
section
variable(M:Md prog)(H:View)
theorem fE(s p:By)(t:Bool)(h:XA s p=t):fA M 146 #[bA s,bA p] H (Ib H (.bool t)):=
 fA.mono (ZF M H s p) (by rintro v H' ⟨h1,h2⟩;rw[h] at h2;exact⟨h1,h2⟩)
theorem L5(k:Bk)(A:Option Addr)(lc:Nat)(hA:YC H k A lc)(hn:k.nl<=1000)(fv:Value)(p:Nat->Bool)(hp:aAy M H fv k p):
  fA M 281 #[.slice A k.nl lc,fv] H (Ib H (.int .i64 (sB (kA p k.nl)))):=by
 refine .en func281 ntmps281 fun St c cs hK=> ?_;refine uH ?_;refine Tc.db (Tc.qA (σ:= { j:Nat//j<=k.nl/\kA p j=none }) (fun j=> ([(0,.slice A k.nl lc),(1,fv),(7,.nt k.nl),(8,.nt j.1)],[])) (fun j=> k.nl-j.1) ?_ ⟨0,Nat.zero_le _,rfl⟩);rintro⟨j,hj,gB⟩ ih;dsimp only;by_cases c1:j=k.nl
 ·subst c1;rw[gB] at hK;refine ND ?_;refine .rt hK func281 results281 [_] ?_;exact okB
 ·have c2:j<k.nl:=by omega
  obtain⟨_,h0|⟨ab,ao,f,gs,gt,gz,rfl,hb,hl⟩⟩:=hA
  ·omega
  obtain⟨F,fc,f1,_,_⟩:=hl j c2;have qP:=hp j c2 F fc;cases CG:p j with
  | true=>
   rw[CG] at qP;have e:kA p k.nl=some j:=mB (j:=j+1) (by simp[kA,gB,CG]) _ oM;rw[e] at hK;refine fN ?_;refine .c rfl rfl rfl rfl (fun H hs=> qP H hs.base) ?_;refine U7 ?_;refine .rt hK func281 results281 [_] ?_;exact okB
  | false=>
   rw[CG] at qP;refine fN ?_;refine .c rfl rfl rfl rfl (fun H hs=> qP H hs.base) ?_;refine U8 ?_;exact Tc.db (ih ⟨j+1,oM,by simp[kA,gB,CG]⟩ Ob)
theorem RD(k:Bk)(A:Option Addr)(lc:Nat)(hA:YC H k A lc)(hn:k.nl<=1000)(fv:Value)(p:Nat->Bool)(hp:aAy M H fv k p):
  fA M 223 #[.slice A k.nl lc,fv] H (Ib H (.bool (kA p k.nl).isSome)):=by
 have hi:=fun(H':View) (h':H.le H')=> L5 M H' k A lc (hA.le h') hn fv p (fun i hi F fc H'' hle=> hp i hi F fc H'' (View.le_trans h' hle));cases hq:kA p k.nl with
 | none=>
  rw[hq] at hi;have e:sB none= -1:=rfl;rw[e] at hi;refine .en func223 ntmps223 fun St c cs hK=> ?_;refine U8 ?_;refine .cl (fun H hs=> hi H hs.base) ?_;refine U3 ?_;refine .rt hK func223 results223 [_] ?_;exact okB
 | some j=>
  rw[hq] at hi;have e:sB (some j)=(j:Nat):=rfl;rw[e] at hi;refine .en func223 ntmps223 fun St c cs hK=> ?_;refine U8 ?_;refine .cl (fun H hs=> hi H hs.base) ?_;refine U3 ?_;refine .rt hK func223 results223 [_] ?_;exact okB
theorem W6(s:By)(b3:Nat)(f:Bool)(hb:H b3=some (f,.cells ⟨[bA s]⟩ 9 (0,0)))(a num:By)(F:Option Addr)(n fc:Nat):
  fA M 224 #[WK a num F n fc,.pt b3] H (Ib H (.bool (ZC num s))):=by
 cases h1:XA num s with
 | true=>
  have e:ZC num s=true:=by unfold ZC;rw[h1];rfl
  rw[e];refine .en func224 ntmps224 fun St c cs hK=> ?_;refine U2 ?_;refine .bo fun b2=> ?_;refine U7 ?_;refine .cl (fun H hs=> fE M H num s true h1) ?_;refine U8 ?_;refine .rt hK func224 results224 [_] ?_;exact okB
 | false=>
  have e:ZC num s=XA s num:=by unfold ZC;rw[h1];rfl
  rw[e];refine .en func224 ntmps224 fun St c cs hK=> ?_;refine U2 ?_;refine .bo fun b2=> ?_;refine U7 ?_;refine .cl (fun H hs=> fE M H num s false h1) ?_;refine U4 ?_;refine .cl (fun H hs=> ZF M H s num) ?_;refine U3 ?_;refine .rt hK func224 results224 [_] ?_;exact okB
theorem CF(k:Bk)(A:Option Addr)(lc:Nat)(hA:YC H k A lc)(hn:k.nl<=1000)(s:By):
  fA M 137 #[.slice A k.nl lc,bA s] H (Ib H (.bool (k.clash s))):=by
 refine .en func137 ntmps137 fun St c cs hK=> ?_;refine U2 ?_;refine .bo fun b3=> ?_;refine U6 ?_;refine .cl (fun H hs=> RD M H k A lc (hA.le hs.base) hn _ (fun i=> ZC (k.num i) s) (fun i _ F fc H' hle=> WB.of (first:= []) (captured:= [_]) aFb rfl (W6 M H' s b3 true (hle _ _ (hs.get (i:=0) rfl)) (k.name i) (k.num i) F (k.nf i) fc))) ?_;refine U2 ?_;refine .rt hK func137 results137 [_] ?_;exact okB
theorem QI(b:Nat)(f:Bool)(gt:TypeId)(gz:Nat×Nat)(hb:H b=some (f,.cells ⟨qF 10⟩ gt gz))(c0:UInt8):
  fA M 251 #[.pt b,.int .u8 (c0.toNat:Nat)] H (Ib H (.bool (OC c0))):=by
 have f1:=K1 c0;have f2:=c0.toNat_lt;refine .en func251 ntmps251 fun St c cs hK=> ?_;refine JG ?_;refine .rt hK func251 results251 [_] ?_;exact okB
end
section
variable(M:Md prog)(H:View)
theorem I3:fA M 190 #[bA cM] H (Ib H (.tuple ⟨[.agg ⟨qF 10⟩,.bool true]⟩)):=by
 refine .en func190 ntmps190 fun St c cs hK=> ?_;refine U2 ?_;refine .al fun b2=> ?_;refine U8 ?_;refine Tc.yC (Tc.qA (σ:= { i:Nat//i<=10 }) (fun i=> ([(0,bA cM),(2,.pt b2),(4,.nt i.1)],[Bb b2 (qF i.1) 294])) (fun i=> 10-i.1) ?_ ⟨0,oM⟩) ⟨rfl,rfl,rfl,trivial⟩ (by rw[rV];exact List.Sublist.refl _);rintro⟨i,hi⟩ ih;dsimp only;have kP:(cM.length:Nat)=10:=rfl;by_cases c1:i=10
 ·subst c1;refine LI ?_;refine .rt hK func190 results190 [_,_] ?_;exact okB
 ·have c2:i<10:=by omega
  have f1:cM[((i:Nat):Int).toNat]? =some (UInt8.ofNat (48+i)):=by rw[Int.toNat_natCast];exact aA9 i c2
  have f2:(UInt8.ofNat (48+i)).toNat=48+i:=by rw[UInt8.toNat_ofNat'];omega
  have f3:=M1 i c2;have f4:Nat.ble (0+((48+i:Nat):Int).toNat*1+1) (qF i).length=true:=by
   refine Nat.ble_eq_true_of_le ?_;rw[Int.toNat_natCast];unfold qF;rw[List.length_map,List.length_range];omega
  refine XU ?_;rw[f2];refine XU ?_;exact Tc.db (ih ⟨i+1,oM⟩ Ob)
theorem KW(b:Nat)(f:Bool)(gt:TypeId)(gz:Nat×Nat)(hb:H b=some (f,.cells ⟨qF 10⟩ gt gz))(s:By)(hl:s.length<=1000000):
  fA M 192 #[bA s,.pt b] H (Ib H (bA (qH s))):=by
 refine .en func192 ntmps192 fun St c cs hK=> ?_;refine U6 ?_;refine Tc.db (Tc.qA (σ:= { r:By//qH r=qH s/\r.length<=s.length }) (fun r=> ([(0,bA r.1),(1,.pt b)],[])) (fun r=> r.1.length) ?_ ⟨s,rfl,Nat.le_refl _⟩);rintro⟨r,hr,hlr⟩ ih;dsimp only;have wG:r= []\/∃q x,r=q++[x]:=by
  rcases List.eq_nil_or_concat r with h|⟨q,x,h⟩
  ·exact .inl h
  ·exact .inr ⟨q,x,by rw[h,List.concat_eq_append]⟩
 rcases wG with rfl|⟨q,x,rfl⟩
 ·have e:qH s= []:=by rw[<-hr];rfl
  rw[e] at hK;refine MF ?_;refine .rt hK func192 results192 [_] ?_;exact okB
 ·have l1:(q++[x]).length=q.length+1:=by simp
  have f1:(q++[x])[(((q++[x]).length:Nat)-1:Int).toNat]? =some x:=by
   rw[l1,show(((q.length+1:Nat):Int)-1).toNat=q.length by omega];simp
  cases hx:OC x with
  | false=>
   have e:qH s=q++[x]:=by rw[<-hr];exact QY q x hx
   have hc:=fun(H':View) (h':H.le H')=> QI M H' b f gt gz (h' _ _ hb) x;rw[hx] at hc;rw[e] at hK;refine XU ?_;refine .cl (fun H hs=> hc H hs.base) ?_;refine U9 ?_;refine .rt hK func192 results192 [_] ?_;exact okB
  | true=>
   have hc:=fun(H':View) (h':H.le H')=> QI M H' b f gt gz (h' _ _ hb) x;rw[hx] at hc;have e:((q++[x]).drop ((0:Nat):Int).toNat).take ((((q++[x]).length:Nat)-1:Int).toNat-((0:Nat):Int).toNat)=q:=by
    rw[l1,show(((q.length+1:Nat):Int)-1).toNat=q.length by omega];simp
   refine XU ?_;refine .cl (fun H hs=> hc H hs.base) ?_;refine U9 ?_;refine .x (pA.pD (E:=en) rfl rfl rfl rfl rfl rfl oM oM oM) ?_;refine U2 ?_;rw[e];refine U ?_;exact Tc.db (ih ⟨q,by rw[<-hr,PY q x hx],oM⟩ Ob)
theorem OY(b:Nat)(f:Bool)(gt:TypeId)(gz:Nat×Nat)(hb:H b=some (f,.cells ⟨qF 10⟩ gt gz))(s:By)(hl:s.length<=1000000):
  fA M 191 #[bA s,.pt b] H (Ib H (bA (s.dropWhile OC))):=by
 refine .en func191 ntmps191 fun St c cs hK=> ?_;refine U6 ?_;refine Tc.db (Tc.qA (σ:= { r:By//r.dropWhile OC=s.dropWhile OC/\r.length<=s.length }) (fun r=> ([(0,bA r.1),(1,.pt b)],[])) (fun r=> r.1.length) ?_ ⟨s,rfl,Nat.le_refl _⟩);rintro⟨r,hr,hlr⟩ ih;dsimp only;rcases r with _|⟨x,q⟩
 ·have e:s.dropWhile OC= []:=by rw[<-hr];rfl
  rw[e] at hK;refine MF ?_;refine .rt hK func191 results191 [_] ?_;exact okB
 ·have l1:(x::q).length=q.length+1:=rfl;have f1:(x::q)[(0:Int).toNat]? =some x:=rfl;cases hx:OC x with
  | false=>
   have e:s.dropWhile OC=x::q:=by rw[<-hr,List.dropWhile_cons,hx];rfl
   have hc:=fun(H':View) (h':H.le H')=> QI M H' b f gt gz (h' _ _ hb) x;rw[hx] at hc;rw[e] at hK;refine LI ?_;refine .cl (fun H hs=> hc H hs.base) ?_;refine U9 ?_;refine .rt hK func191 results191 [_] ?_;exact okB
  | true=>
   have hc:=fun(H':View) (h':H.le H')=> QI M H' b f gt gz (h' _ _ hb) x;rw[hx] at hc;have e:((x::q).drop (1:Int).toNat).take ((((x::q).length:Nat):Int).toNat-(1:Int).toNat)=q:=by
    rw[l1,show(((q.length+1:Nat):Int)).toNat-(1:Int).toNat=q.length by omega];simp
   refine LI ?_;refine .cl (fun H hs=> hc H hs.base) ?_;refine U6 ?_;refine .x (pA.pD (E:=en) rfl rfl rfl rfl rfl rfl oM oM oM) ?_;refine U2 ?_;rw[e];refine U ?_;exact Tc.db (ih ⟨q,by rw[<-hr,List.dropWhile_cons,hx];rfl,oM⟩ Ob)
theorem lX(s:By)(hl:s.length<=1000000):fA M 117 #[bA s,bA cM] H (Ib H (bA (qJ s))):=by
 rcases s with _|⟨x,q⟩
 ·have e:qJ []= []:=rfl;rw[e];refine .en func117 ntmps117 fun St c cs hK=> ?_;refine eO ?_;refine .rt hK func117 results117 [_] ?_;exact okB
 ·have hlr:(qH (x::q)).length<=1000000:=by
   unfold qH;rw[List.length_reverse];have:=(List.dropWhile_sublist OC (l:=(x::q).reverse)).length_le;rw[List.length_reverse] at this;omega
  refine .en func117 ntmps117 fun St c cs hK=> ?_;refine U34 ?_;refine .cl (fun H hs=> I3 M H) ?_;refine U3 ?_;refine .al fun b5=> ?_;refine ND ?_;refine .cl (fun H hs=> KW M H b5 true _ _ (hs.get (i:=0) rfl) (x::q) hl) ?_;refine .cl (fun H hs=> OY M H b5 true _ _ (hs.get (i:=0) rfl) (qH (x::q)) hlr) ?_;refine U2 ?_;refine .rt hK func117 results117 [_] ?_;exact okB
theorem bD(s:By)(hl:s.length<=1000000):fA M 41 #[bA s] H (Ib H (.bool (isNum s))):=by
 by_cases c1:1<=(s.length:Int)/\(s.length:Int)<=3
 ·have e:isNum s=(qJ s== []):=by
   unfold isNum;rw[JK];have:decide (1<=s.length/\s.length<=3)=true:=decide_eq_true oM;rw[this];rfl
  rw[e];have hb:=fun(H':View)=> uA M H' (s.length:Nat) 1 3 true (decide_eq_true c1);refine .en func41 ntmps41 fun St c cs hK=> ?_;refine U8 ?_;refine .cl (fun H hs=> hb H) ?_;refine U2 ?_;refine .cl (fun H hs=> lX M H s hl) ?_;refine U4 ?_;refine .rt hK func41 results41 [_] ?_;exact okB
 ·have e:isNum s=false:=by
   unfold isNum;have:decide (1<=s.length/\s.length<=3)=false:=decide_eq_false oM;rw[this];rfl
  rw[e];have hb:=fun(H':View)=> uA M H' (s.length:Nat) 1 3 false (decide_eq_false c1);refine .en func41 ntmps41 fun St c cs hK=> ?_;refine U8 ?_;refine .cl (fun H hs=> hb H) ?_;refine U7 ?_;refine .rt hK func41 results41 [_] ?_;exact okB
end
def low(c:UInt8):Bool:=decide (97<=c.toNat/\c.toNat<=122)
def fI(s:By)(i:Nat):Bool:=match s[i]? with
 | some c=> low c||(decide (0<i)&&OC c)
 | none=> true
def SG(p:Nat->Bool):Nat->Bool
 | 0=> true
 | n+1=> SG p n&&p n
theorem kD {p:Nat->Bool}:∀n,SG p n=true<->∀i,i<n->p i=true
 | 0=> ⟨fun _ i hi=> by omega,fun _=> rfl⟩
 | n + 1=> by
  unfold SG;rw[Bool.and_eq_true,kD n];constructor
  ·rintro⟨h1,h2⟩ i hi;by_cases e:i=n
   ·subst e;exact h2
   ·exact h1 i oM
  ·exact fun h=> ⟨fun i hi=> h i oM,h n oM⟩
theorem TG {p:Nat->Bool}{n i:Nat}(hi:i<n)(h:p i=false):SG p n=false:=by
 cases e:SG p n with
 | false=> rfl
 | true=> rw[(kD n).1 e i hi] at h;cases h
def yJ(s:By):Bool:=decide (1<=s.length/\s.length<=9)&&SG (fI s) s.length
theorem Z6(s:By)(p:Nat)(hp:p<s.length):∃z w,Utf8.decode ⟨⟨s⟩⟩ p=(z,w)/\z<=2147483647/\∃x,s[p]? =some x/\(x.toNat<128->z=x.toNat/\w=1)/\(128<=x.toNat->128<=z):=by
 have hs:p<(ByteArray.mk ⟨s⟩).size:=hp;refine⟨(Utf8.decode ⟨⟨s⟩⟩ p).1,(Utf8.decode ⟨⟨s⟩⟩ p).2,rfl,decode_le _ _,(ByteArray.mk ⟨s⟩)[p]'hs,?_,?_,?_⟩
 ·rw[List.getElem?_eq_getElem hp];rfl
 ·intro h;rw[decode_ascii _ p hs h];exact⟨rfl,rfl⟩
 ·intro h;exact(decode_high _ p hs h).1
section
variable(M:Md prog)(H:View)
theorem fH(s:By):fA M 371 #[bA s] H (Ib H (.bool (yJ s))):=by
 by_cases c1:1<=(s.length:Int)/\(s.length:Int)<=9
 ·have e0 : yJ s=SG (fI s) s.length:=by
   unfold yJ;have:decide (1<=s.length/\s.length<=9)=true:=decide_eq_true oM;rw[this];rfl
  have hb:=fun(H':View)=> uA M H' (s.length:Nat) 1 9 true (decide_eq_true c1);rw[e0];refine .en func371 ntmps371 fun St c cs hK=> ?_;refine U9 ?_;refine .cl (fun H hs=> hb H) ?_;refine U8 ?_;refine .e (Or.hU (E:=en) (s:=⟨⟨s⟩⟩) rfl rfl rfl rfl rfl dE (fun it=> ?_));refine U2 ?_;refine Tc.db (Tc.qA (σ:= { p:Nat//p<=s.length/\∀i,i<p->fI s i=true }) (fun p=> ([(10,.pt it)],[(it,true,.stringIter ⟨⟨s⟩⟩ p.1)])) (fun p=> s.length-p.1) ?_ ⟨0,Nat.zero_le _,fun i hi=> by omega⟩);rintro⟨p,hp,QA⟩ ih;dsimp only;by_cases c2:p=s.length
  ·have e:SG (fI s) s.length=true:=(kD _).2 (by rw[<-c2];exact QA);rw[e] at hK;have l5:¬p<(ByteArray.mk ⟨s⟩).size:=by show ¬p<s.length;omega
   refine U2 ?_;refine .e (Or.ZT 0 rfl rfl rfl l5 rfl dE ?_);refine U9 ?_;refine .rt hK func371 results371 [_] ?_;exact okB
  ·have c3 :p<s.length:=by omega
   obtain⟨z,w,MK,hz,x,hx,zN,gQ⟩:=Z6 s p c3;have EU:p<(ByteArray.mk ⟨s⟩).size:=c3;have wz:IntKind.i64.wrap ((z:Nat):Int)=((z:Nat):Int):=wrap64 oM oM;have hxm:=x.toNat_lt;by_cases c4:97<=((z:Nat):Int)/\((z:Nat):Int)<=122
   ·have y8:x.toNat<128:=by
     by_cases h:x.toNat<128
     ·exact h
     ·have:=gQ oM;omega
    obtain⟨h1,rfl⟩:=zN y8;have hn:fI s p=true:=by
     unfold fI;rw[hx];have:low x=true:=decide_eq_true oM;simp[this]
    have hbz:=fun(H':View)=> uA M H' (z:Nat) 97 122 true (decide_eq_true c4);have X4:=fun(H':View)=> jN M H' (z:Nat) 48 57;refine U2 ?_;refine .e (Or.CQ 0 rfl rfl rfl EU MK rfl dE ?_);refine II ?_;refine .cl (fun H hs=> hbz H) ?_;refine U5 ?_;refine To.LA rfl dE rfl ?_;refine To.LA rfl dE rfl ?_;refine To.LA rfl dE rfl ?_;refine To.LA rfl dE rfl ?_;refine U6 ?_;exact Tc.db (ih ⟨p+1,oM,fun i hi=> by by_cases e:i=p;exact e▸hn;exact QA i oM⟩ Ob)
   ·have hbz:=fun(H':View)=> uA M H' (z:Nat) 97 122 false (decide_eq_false c4);have hlw:low x=false:=by
     refine decide_eq_false ?_;intro h;obtain⟨h1,_⟩:=zN oM;omega
    by_cases c5:p=0
    ·subst c5;have e:SG (fI s) s.length=false:=TG c3 (by unfold fI;rw[hx];simp[hlw]);have X4:=fun(H':View)=> jN M H' (z:Nat) 48 57;rw[e] at hK;refine U2 ?_;refine .e (Or.CQ 0 rfl rfl rfl EU MK rfl dE ?_);refine II ?_;refine .cl (fun H hs=> hbz H) ?_;refine II ?_;refine .rt hK func371 results371 [_] ?_;exact okB
    ·have c6:(p:Int)≠0:=by omega
     by_cases c7:48<=((z:Nat):Int)/\((z:Nat):Int)<=57
     ·have y8:x.toNat<128:=by
       by_cases h:x.toNat<128
       ·exact h
       ·have:=gQ oM;omega
      obtain⟨h1,rfl⟩:=zN y8;have hn:fI s p=true:=by
       unfold fI;rw[hx];have:OC x=true:=decide_eq_true oM;have h0:0<p:=by omega
       simp[this,h0]
      have X4:=fun(H':View)=> uA M H' (z:Nat) 48 57 true (decide_eq_true c7);refine U2 ?_;refine .e (Or.CQ 0 rfl rfl rfl EU MK rfl dE ?_);refine II ?_;refine .cl (fun H hs=> hbz H) ?_;refine U7 ?_;refine .cl (fun H hs=> X4 H) ?_;refine U7 ?_;exact Tc.db (ih ⟨p+1,oM,fun i hi=> by by_cases e:i=p;exact e▸hn;exact QA i oM⟩ Ob)
     ·have MX:OC x=false:=by
       refine decide_eq_false ?_;intro h;obtain⟨h1,_⟩:=zN oM;omega
      have e:SG (fI s) s.length=false:=TG c3 (by unfold fI;rw[hx];simp[hlw,MX]);have X4:=fun(H':View)=> uA M H' (z:Nat) 48 57 false (decide_eq_false c7);rw[e] at hK;refine U2 ?_;refine .e (Or.CQ 0 rfl rfl rfl EU MK rfl dE ?_);refine II ?_;refine .cl (fun H hs=> hbz H) ?_;refine U7 ?_;refine .cl (fun H hs=> X4 H) ?_;refine U9 ?_;refine .rt hK func371 results371 [_] ?_;exact okB
 ·have e0:yJ s=false:=by
   unfold yJ;have:decide (1<=s.length/\s.length<=9)=false:=decide_eq_false oM;rw[this];rfl
  have hb:=fun(H':View)=> uA M H' (s.length:Nat) 1 9 false (decide_eq_false c1);rw[e0];refine .en func371 ntmps371 fun St c cs hK=> ?_;refine U9 ?_;refine .cl (fun H hs=> hb H) ?_;refine U7 ?_;refine .rt hK func371 results371 [_] ?_;exact okB
end
theorem E8 {M:Md prog}{f:FuncId}{az:Array Value}{H:View}{w w':Value}(h:fA M f az H fun v H'=> H.le H'/\v=w)(e:w=w'):fA M f az H fun v H'=> H.le H'/\v=w':=e▸h
theorem tH {M:Md prog}{f:FuncId}{az:Array Value}{H:View}{w w':Bool}(h:fA M f az H fun v H'=> H.le H'/\v=.bool w)(e:w=w'):fA M f az H fun v H'=> H.le H'/\v=.bool w':=e▸h
def JC(f:Nat->Int):Nat->Int
 | 0=> 0
 | n+1=> if JC f n=0 then f n else JC f n
theorem wT {f:Nat->Int}{j:Nat}(h:JC f j≠0):∀m,j<=m->JC f m=JC f j:=by
 intro m hm;induction m with
 | zero=>
  have:j=0:=by omega
  subst this;rfl
 | succ m ih=>
  by_cases e:j=m+1
  ·subst e;rfl
  ·rw[JC,ih oM,if_neg h]
theorem GC {f:Nat->Int}{j:Nat}(h0:JC f j=0){a:Int}(h:f j=a)(ha:a≠0){m:Nat}(hm:j<m):JC f m=a:=by
 have h1:JC f (j+1)=a:=by rw[JC,if_pos h0];exact h
 rw[wT (j:=j+1) (by rw[h1];exact ha) m oM,h1]
def gE(x:Int):Bool:=decide (0<=x/\x<=2)
def Bk.oE(k:Bk):Int:=if(1<=k.aD/\k.aD<=99)/\(k.aD+1<=k.yB/\k.yB<=99) then 0 else 1
def Bk.NC(k:Bk)(i:Nat):Bool:=!vB (k.pf i) (k.pt i) (k.qf i) (k.qt i)
def Bk.yD(k:Bk):Int:=if 6<k.nt then 2 else if(kA k.NC k.nt).isSome then 1 else 0
section
variable(M:Md prog)(H:View)
theorem J5(F:Option Addr)(n fc:Nat)(x:Nat->Int)(hF:PB H F n x)(hn:n<=1000)(fv:Value)(p:Nat->Bool)(hp:∀j,j<n->∀H',H.le H'->WB M fv [.iz (x j)] H' fun v H''=> H'.le H''/\v=.bool (p j)):
  fA M 377 #[.slice F n fc,fv] H (Ib H (.int .i64 (sB (kA p n)))):=by
 refine .en func377 ntmps377 fun St c cs hK=> ?_;refine uH ?_;refine Tc.db (Tc.qA (σ:= { j:Nat//j<=n/\kA p j=none }) (fun j=> ([(0,.slice F n fc),(1,fv),(7,.nt n),(8,.nt j.1)],[])) (fun j=> n-j.1) ?_ ⟨0,Nat.zero_le _,rfl⟩);rintro⟨j,hj,gB⟩ ih;dsimp only;by_cases c1:j=n
 ·subst c1;rw[gB] at hK;refine ND ?_;refine .rt hK func377 results377 [_] ?_;exact okB
 ·have c2:j<n:=by omega
  obtain h0|⟨ab,ao,f,gs,gt,gz,rfl,hb,hl⟩:=hF
  ·omega
  have f1:=hl j c2;have qP:=hp j c2;cases CG:p j with
  | true=>
   rw[CG] at qP;have e:kA p n=some j:=mB (j:=j+1) (by simp[kA,gB,CG]) _ oM;rw[e] at hK;refine fN ?_;refine .c rfl rfl rfl rfl (fun H hs=> qP H hs.base) ?_;refine U7 ?_;refine .rt hK func377 results377 [_] ?_;exact okB
  | false=>
   rw[CG] at qP;refine fN ?_;refine .c rfl rfl rfl rfl (fun H hs=> qP H hs.base) ?_;refine U8 ?_;exact Tc.db (ih ⟨j+1,oM,by simp[kA,gB,CG]⟩ Ob)
theorem vX(x:Int):fA M 374 #[.iz x] H (Ib H (.bool (!gE x))):=by
 cases h:gE x with
 | true=>
  refine .en func374 ntmps374 fun St c cs hK=> ?_;refine U7 ?_;refine .cl (fun H hs=> uA M H x 0 2 true h) ?_;refine U3 ?_;refine .rt hK func374 results374 [_] ?_;exact okB
 | false=>
  refine .en func374 ntmps374 fun St c cs hK=> ?_;refine U7 ?_;refine .cl (fun H hs=> uA M H x 0 2 false h) ?_;refine U3 ?_;refine .rt hK func374 results374 [_] ?_;exact okB
theorem ZN(F:Option Addr)(n fc:Nat)(x:Nat->Int)(hF:PB H F n x)(hn:n<=1000):
  fA M 373 #[.slice F n fc,.func (.func 374) #[] #[]] H (Ib H (.bool (kA (fun j=> !gE (x j)) n).isSome)):=by
 have hi:=fun(H':View) (h':H.le H')=> J5 M H' F n fc x (hF.le h') hn (.func (.func 374) #[] #[]) (fun j=> !gE (x j)) (fun j _ H'' _=> .h (vX M H'' (x j)));cases hq:kA (fun j=> !gE (x j)) n with
 | none=>
  rw[hq] at hi;have e:sB none= -1:=rfl;rw[e] at hi;refine .en func373 ntmps373 fun St c cs hK=> ?_;refine U8 ?_;refine .cl (fun H hs=> hi H hs.base) ?_;refine U3 ?_;refine .rt hK func373 results373 [_] ?_;exact okB
 | some j=>
  rw[hq] at hi;have e:sB (some j)=(j:Nat):=rfl;rw[e] at hi;refine .en func373 ntmps373 fun St c cs hK=> ?_;refine U8 ?_;refine .cl (fun H hs=> hi H hs.base) ?_;refine U3 ?_;refine .rt hK func373 results373 [_] ?_;exact okB
theorem aR(a b c' d:Int):fA M 376 #[bE a b c' d] H (Ib H (.bool (!vB a b c' d))):=by
 cases h:vB a b c' d with
 | true=>
  have ht:=fun(H':View)=> tH (FF M H' a b c' d) h;refine .en func376 ntmps376 fun St c cs hK=> ?_;refine U2 ?_;refine .bo fun b1=> ?_;refine U5 ?_;refine .cl (fun H hs=> ht H) ?_;refine U3 ?_;refine .rt hK func376 results376 [_] ?_;exact okB
 | false=>
  have ht:=fun(H':View)=> tH (FF M H' a b c' d) h;refine .en func376 ntmps376 fun St c cs hK=> ?_;refine U2 ?_;refine .bo fun b1=> ?_;refine U5 ?_;refine .cl (fun H hs=> ht H) ?_;refine U3 ?_;refine .rt hK func376 results376 [_] ?_;exact okB
theorem N5(k:Bk)(B:Option Addr)(tc:Nat)(hB:jD H k B tc)(hn:k.nt<=1000):
  fA M 378 #[.slice B k.nt tc,.func (.func 376) #[] #[]] H (Ib H (.int .i64 (sB (kA k.NC k.nt)))):=by
 refine .en func378 ntmps378 fun St c cs hK=> ?_;refine uH ?_;refine Tc.db (Tc.qA (σ:= { j:Nat//j<=k.nt/\kA k.NC j=none }) (fun j=> ([(0,.slice B k.nt tc),(1,.func (.func 376) #[] #[]),(7,.nt k.nt),(8,.nt j.1)],[])) (fun j=> k.nt-j.1) ?_ ⟨0,Nat.zero_le _,rfl⟩);rintro⟨j,hj,gB⟩ ih;dsimp only;by_cases c1:j=k.nt
 ·subst c1;rw[gB] at hK;refine ND ?_;refine .rt hK func378 results378 [_] ?_;exact okB
 ·have c2:j<k.nt:=by omega
  obtain⟨_,h0|⟨ab,ao,f,gs,gt,gz,rfl,hb,hl⟩⟩:=hB
  ·omega
  have f1:=hl j c2;cases CG:k.NC j with
  | true=>
   have ht:=fun(H':View)=> tH (aR M H' (k.pf j) (k.pt j) (k.qf j) (k.qt j)) CG;have e:kA k.NC k.nt=some j:=mB (j:=j+1) (by simp[kA,gB,CG]) _ oM;rw[e] at hK;refine fN ?_;refine .cl (fun H hs=> ht H) ?_;refine U7 ?_;refine .rt hK func378 results378 [_] ?_;exact okB
  | false=>
   have ht:=fun(H':View)=> tH (aR M H' (k.pf j) (k.pt j) (k.qf j) (k.qt j)) CG;refine fN ?_;refine .cl (fun H hs=> ht H) ?_;refine U8 ?_;exact Tc.db (ih ⟨j+1,oM,by simp[kA,gB,CG]⟩ Ob)
theorem OU(k:Bk)(B:Option Addr)(tc:Nat)(hB:jD H k B tc)(hn:k.nt<=1000):
  fA M 375 #[.slice B k.nt tc,.func (.func 376) #[] #[]] H (Ib H (.bool (kA k.NC k.nt).isSome)):=by
 have hi:=fun(H':View) (h':H.le H')=> N5 M H' k B tc (hB.le h') hn;cases hq:kA k.NC k.nt with
 | none=>
  rw[hq] at hi;have e:sB none= -1:=rfl;rw[e] at hi;refine .en func375 ntmps375 fun St c cs hK=> ?_;refine U8 ?_;refine .cl (fun H hs=> hi H hs.base) ?_;refine U3 ?_;refine .rt hK func375 results375 [_] ?_;exact okB
 | some j=>
  rw[hq] at hi;have e:sB (some j)=(j:Nat):=rfl;rw[e] at hi;refine .en func375 ntmps375 fun St c cs hK=> ?_;refine U8 ?_;refine .cl (fun H hs=> hi H hs.base) ?_;refine U3 ?_;refine .rt hK func375 results375 [_] ?_;exact okB
theorem aAj(k:Bk)(A:Option Addr)(lc:Nat)(B:Option Addr)(tc:Nat)(hB:jD H k B tc)(hn:k.nt<=1000):
  fA M 370 #[k.val A lc B tc] H (Ib H (.int .i64 k.yD)):=by
 by_cases c1:6<k.nt
 ·have e:k.yD=2:=if_pos c1;rw[e];refine .en func370 ntmps370 fun St c cs hK=> ?_;refine U2 ?_;refine .bo fun b1=> ?_;refine fL ?_;refine .rt hK func370 results370 [_] ?_;exact okB
 ·have hc:=fun(H':View) (h':H.le H')=> OU M H' k B tc (hB.le h') hn;cases hq:(kA k.NC k.nt).isSome with
  | true=>
   rw[hq] at hc;have e:k.yD=1:=by unfold Bk.yD;rw[if_neg c1,hq];rfl
   rw[e];refine .en func370 ntmps370 fun St c cs hK=> ?_;refine U2 ?_;refine .bo fun b1=> ?_;refine XU ?_;refine .cl (fun H hs=> hc H hs.base) ?_;refine U7 ?_;refine .rt hK func370 results370 [_] ?_;exact okB
  | false=>
   rw[hq] at hc;have e:k.yD=0:=by unfold Bk.yD;rw[if_neg c1,hq];rfl
   rw[e];refine .en func370 ntmps370 fun St c cs hK=> ?_;refine U2 ?_;refine .bo fun b1=> ?_;refine XU ?_;refine .cl (fun H hs=> hc H hs.base) ?_;refine U9 ?_;refine .rt hK func370 results370 [_] ?_;exact okB
theorem y9(k:Bk)(A:Option Addr)(lc:Nat)(B:Option Addr)(tc:Nat):
  fA M 368 #[k.val A lc B tc] H (Ib H (.int .i64 k.oE)):=by
 by_cases c1:1<=k.aD/\k.aD<=99
 ·by_cases c2:k.aD+1<=k.yB/\k.yB<=99
  ·have e:k.oE=0:=if_pos ⟨c1,c2⟩;rw[e];have h1:=fun(H':View)=> uA M H' k.aD 1 99 true (decide_eq_true c1);have h2:=fun(H':View)=> uA M H' k.yB (k.aD+1) 99 true (decide_eq_true c2);refine .en func368 ntmps368 fun St c cs hK=> ?_;refine U2 ?_;refine .bo fun b1=> ?_;refine U8 ?_;refine .cl (fun H hs=> h1 H) ?_;refine U9 ?_;refine .cl (fun H hs=> h2 H) ?_;refine U9 ?_;refine .rt hK func368 results368 [_] ?_;exact okB
  ·have e:k.oE=1:=if_neg (fun h=> c2 h.2);rw[e];have h1:=fun(H':View)=> uA M H' k.aD 1 99 true (decide_eq_true c1);have h2:=fun(H':View)=> uA M H' k.yB (k.aD+1) 99 false (decide_eq_false c2);refine .en func368 ntmps368 fun St c cs hK=> ?_;refine U2 ?_;refine .bo fun b1=> ?_;refine U8 ?_;refine .cl (fun H hs=> h1 H) ?_;refine U9 ?_;refine .cl (fun H hs=> h2 H) ?_;refine U8 ?_;refine .rt hK func368 results368 [_] ?_;exact okB
 ·have e:k.oE=1:=if_neg (fun h=> c1 h.1);rw[e];have h1:=fun(H':View)=> uA M H' k.aD 1 99 false (decide_eq_false c1);refine .en func368 ntmps368 fun St c cs hK=> ?_;refine U2 ?_;refine .bo fun b1=> ?_;refine U8 ?_;refine .cl (fun H hs=> h1 H) ?_;refine fL ?_;refine .rt hK func368 results368 [_] ?_;exact okB
end
set_option maxHeartbeats 8000000
def Bk.pre(k:Bk)(i:Nat):Bk:= { k with nl:=i }
def Bk.again(k:Bk)(i:Nat):Bool:=(kA (fun j=> k.name j==k.name i) i).isSome
def Bk.SI(k:Bk)(i:Nat):Bool:=(kA (fun j=> !gE (k.free i j)) (k.nf i)).isSome
def Bk.sC(k:Bk)(i:Nat):Int:=if yJ (k.name i)=false then 4 else if k.again i=true then 5 else if isNum (k.num i)=false then 3 else if(k.pre i).clash (k.num i)=true then 10 else if decide (1<=((k.nf i:Nat):Int)/\((k.nf i:Nat):Int)<=4)=false then 2 else if k.SI i=true then 1 else 0
def Bk.AE(k:Bk):Int:=if 6<k.nl then 2 else JC k.sC k.nl
def Bk.WA(k:Bk):Int:=if k.oE=0 then if k.AE=0 then k.yD else k.AE else k.oE
theorem YC.pre {H:View}{k:Bk}{A:Option Addr}{lc:Nat}(h:YC H k A lc){i:Nat}(hi:i<=k.nl):YC H (k.pre i) A lc:=by
 obtain⟨h1,h2⟩:=h;refine⟨Nat.le_trans hi h1,?_⟩;rcases h2 with h2|⟨b,o,f,gs,gt,gz,h3,h4,h5⟩
 ·exact .inl (by show i=0;omega)
 ·exact .inr ⟨b,o,f,gs,gt,gz,h3,h4,fun j hj=> h5 j (Nat.lt_of_lt_of_le hj hi)⟩
section
variable(M:Md prog)(H:View)
theorem SN(nm:By)(b3:Nat)(f:Bool)(c0:List Value)(hb:H b3=some (f,.cells ⟨bA nm::c0⟩ 68 (0,0)))(a num:By)(F:Option Addr)(n fc:Nat):
  fA M 372 #[WK a num F n fc,.pt b3] H (fun v H'=> H.le H'/\v=.bool (a==nm)):=by
 refine .en func372 ntmps372 fun St c cs hK=> ?_;refine U2 ?_;refine .bo fun b2=> ?_;refine ND ?_;refine .rt hK func372 results372 [_] ?_;exact okB
theorem aBs (k:Bk)(A:Option Addr)(lc:Nat)(B:Option Addr)(tc:Nat)(hA:YC H k A lc)(hn:k.nl<=1000)(FJ:∀i,i<k.nl->(k.num i).length<=1000000/\k.nf i<=1000):
  fA M 369 #[k.val A lc B tc] H (Ib H (.int .i64 k.AE)):=by
 by_cases c1:6<k.nl
 ·have e:k.AE=2:=if_pos c1;rw[e];refine .en func369 ntmps369 fun St c cs hK=> ?_;refine U2 ?_;refine .bo fun b1=> ?_;refine LI ?_;refine .rt hK func369 results369 [_] ?_;exact okB
 ·have e:k.AE=JC k.sC k.nl:=if_neg c1;rw[e];clear e;refine .en func369 ntmps369 fun St c cs hK=> ?_;refine U2 ?_;refine .bo fun b1=> ?_;refine s6 ?_;refine Tc.db (Tc.qA (σ:= { j:Nat//j<=k.nl/\JC k.sC j=0 }) (fun j=> ([(1,.pt b1),(13,.slice A k.nl lc),(14,.nt k.nl),(15,.nt j.1)],[Bb b1 ((k.val A lc B tc).cells.toList) 166])) (fun j=> k.nl-j.1) ?_ ⟨0,Nat.zero_le _,rfl⟩);rintro⟨j,hj,gB⟩ ih;dsimp only;by_cases c2:j=k.nl
  ·subst c2;rw[gB] at hK;refine ND ?_;refine .rt hK func369 results369 [_] ?_;exact okB
  ·have c3 : j < k.nl:=by omega
   have hA':=hA;obtain⟨Y7,h0|⟨ab,ao,f,gs,gt,gz,rfl,hb,hl⟩⟩:=hA
   ·omega
   obtain⟨F,fc,f1,_,hF⟩:=hl j c3;obtain⟨s1,s2⟩:=FJ j c3;have KZ:YC H (k.pre j) (some ⟨ab,ao,none⟩) lc:=hA'.pre hj;cases q0:yJ (k.name j) with
   | false=>
    have eA:k.sC j=4:=by unfold Bk.sC;simp only[q0];simp
    rw[GC gB eA dE c3] at hK;refine MF ?_;refine .al fun b4=> ?_;refine U9 ?_;refine .x (pA.sliceTo (E:=en) (k:=j) rfl rfl rfl rfl rfl rfl oM oM) ?_;refine U7 ?_;refine .cl (fun H hs=> tH (fH M H (k.name j)) q0) ?_;refine U8 ?_;refine .rt hK func369 results369 [_] ?_;exact okB
   | true=>
    cases q1:k.again j with
    | true=>
     have eA:k.sC j=5:=by unfold Bk.sC;simp only[q0,q1];simp
     rw[GC gB eA dE c3] at hK;refine MF ?_;refine .al fun b4=> ?_;refine U9 ?_;refine .x (pA.sliceTo (E:=en) (k:=j) rfl rfl rfl rfl rfl rfl oM oM) ?_;refine U7 ?_;refine .cl (fun H hs=> tH (fH M H (k.name j)) q0) ?_;refine U8 ?_;refine .cl (fun H hs=> tH (RD M H (k.pre j) (some ⟨ab,ao,none⟩) lc (KZ.le hs.base) (by show j<=1000;omega) _ (fun i=> k.name i==k.name j) (fun i _ F fc H' hle=> WB.of (first:= []) (captured:= [_]) XR rfl (SN M H' (k.name j) b4 true _ (hle _ _ (hs.get (i:=0) rfl)) (k.name i) (k.num i) F (k.nf i) fc))) q1) ?_;refine U7 ?_;refine .rt hK func369 results369 [_] ?_;exact okB
    | false =>
     cases q2:isNum (k.num j) with
     | false=>
      have eA:k.sC j=3:=by unfold Bk.sC;simp only[q0,q1,q2];simp
      rw[GC gB eA dE c3] at hK;refine MF ?_;refine .al fun b4=> ?_;refine U9 ?_;refine .x (pA.sliceTo (E:=en) (k:=j) rfl rfl rfl rfl rfl rfl oM oM) ?_;refine U7 ?_;refine .cl (fun H hs=> tH (fH M H (k.name j)) q0) ?_;refine U8 ?_;refine .cl (fun H hs=> tH (RD M H (k.pre j) (some ⟨ab,ao,none⟩) lc (KZ.le hs.base) (by show j<=1000;omega) _ (fun i=> k.name i==k.name j) (fun i _ F fc H' hle=> WB.of (first:= []) (captured:= [_]) XR rfl (SN M H' (k.name j) b4 true _ (hle _ _ (hs.get (i:=0) rfl)) (k.name i) (k.num i) F (k.nf i) fc))) q1) ?_;refine U7 ?_;refine .cl (fun H hs=> tH (bD M H (k.num j) s1) q2) ?_;refine U8 ?_;refine .rt hK func369 results369 [_] ?_;exact okB
     | true=>
      cases q3:(k.pre j).clash (k.num j) with
      | true=>
       have eA:k.sC j=10:=by unfold Bk.sC;simp only[q0,q1,q2,q3];simp
       rw[GC gB eA dE c3] at hK;refine MF ?_;refine .al fun b4=> ?_;refine U9 ?_;refine .x (pA.sliceTo (E:=en) (k:=j) rfl rfl rfl rfl rfl rfl oM oM) ?_;refine U7 ?_;refine .cl (fun H hs=> tH (fH M H (k.name j)) q0) ?_;refine U8 ?_;refine .cl (fun H hs=> tH (RD M H (k.pre j) (some ⟨ab,ao,none⟩) lc (KZ.le hs.base) (by show j<=1000;omega) _ (fun i=> k.name i==k.name j) (fun i _ F fc H' hle=> WB.of (first:= []) (captured:= [_]) XR rfl (SN M H' (k.name j) b4 true _ (hle _ _ (hs.get (i:=0) rfl)) (k.name i) (k.num i) F (k.nf i) fc))) q1) ?_;refine U7 ?_;refine .cl (fun H hs=> tH (bD M H (k.num j) s1) q2) ?_;refine U9 ?_;refine .cl (fun H hs=> tH (CF M H (k.pre j) (some ⟨ab,ao,none⟩) lc (KZ.le hs.base) (by show j<=1000;omega) (k.num j)) q3) ?_;refine U7 ?_;refine .rt hK func369 results369 [_] ?_;exact okB
      | false=>
       cases q4:decide (1<=((k.nf j:Nat):Int)/\((k.nf j:Nat):Int)<=4) with
       | false=>
        have eA:k.sC j=2:=by unfold Bk.sC;simp only[q0,q1,q2,q3,q4];simp
        rw[GC gB eA dE c3] at hK;refine MF ?_;refine .al fun b4=> ?_;refine U9 ?_;refine .x (pA.sliceTo (E:=en) (k:=j) rfl rfl rfl rfl rfl rfl oM oM) ?_;refine U7 ?_;refine .cl (fun H hs=> tH (fH M H (k.name j)) q0) ?_;refine U8 ?_;refine .cl (fun H hs=> tH (RD M H (k.pre j) (some ⟨ab,ao,none⟩) lc (KZ.le hs.base) (by show j<=1000;omega) _ (fun i=> k.name i==k.name j) (fun i _ F fc H' hle=> WB.of (first:= []) (captured:= [_]) XR rfl (SN M H' (k.name j) b4 true _ (hle _ _ (hs.get (i:=0) rfl)) (k.name i) (k.num i) F (k.nf i) fc))) q1) ?_;refine U7 ?_;refine .cl (fun H hs=> tH (bD M H (k.num j) s1) q2) ?_;refine U9 ?_;refine .cl (fun H hs=> tH (CF M H (k.pre j) (some ⟨ab,ao,none⟩) lc (KZ.le hs.base) (by show j<=1000;omega) (k.num j)) q3) ?_;refine U8 ?_;refine .cl (fun H hs=> uA M H ((k.nf j:Nat):Int) 1 4 false q4) ?_;refine U8 ?_;refine .rt hK func369 results369 [_] ?_;exact okB
       | true=>
        cases q5:k.SI j with
        | true=>
         have eA:k.sC j=1:=by unfold Bk.sC;simp only[q0,q1,q2,q3,q4,q5];simp
         rw[GC gB eA dE c3] at hK;refine MF ?_;refine .al fun b4=> ?_;refine U9 ?_;refine .x (pA.sliceTo (E:=en) (k:=j) rfl rfl rfl rfl rfl rfl oM oM) ?_;refine U7 ?_;refine .cl (fun H hs=> tH (fH M H (k.name j)) q0) ?_;refine U8 ?_;refine .cl (fun H hs=> tH (RD M H (k.pre j) (some ⟨ab,ao,none⟩) lc (KZ.le hs.base) (by show j<=1000;omega) _ (fun i=> k.name i==k.name j) (fun i _ F fc H' hle=> WB.of (first:= []) (captured:= [_]) XR rfl (SN M H' (k.name j) b4 true _ (hle _ _ (hs.get (i:=0) rfl)) (k.name i) (k.num i) F (k.nf i) fc))) q1) ?_;refine U7 ?_;refine .cl (fun H hs=> tH (bD M H (k.num j) s1) q2) ?_;refine U9 ?_;refine .cl (fun H hs=> tH (CF M H (k.pre j) (some ⟨ab,ao,none⟩) lc (KZ.le hs.base) (by show j<=1000;omega) (k.num j)) q3) ?_;refine U8 ?_;refine .cl (fun H hs=> uA M H ((k.nf j:Nat):Int) 1 4 true q4) ?_;refine U8 ?_;refine .cl (fun H hs=> tH (ZN M H F (k.nf j) fc (k.free j) (hF.le hs.base) s2) q5) ?_;refine U7 ?_;refine .rt hK func369 results369 [_] ?_;exact okB
        | false=>
         have eA:k.sC j=0:=by unfold Bk.sC;simp only[q0,q1,q2,q3,q4,q5];simp
         refine MF ?_;refine .al fun b4=> ?_;refine U9 ?_;refine .x (pA.sliceTo (E:=en) (k:=j) rfl rfl rfl rfl rfl rfl oM oM) ?_;refine U7 ?_;refine .cl (fun H hs=> tH (fH M H (k.name j)) q0) ?_;refine U8 ?_;refine .cl (fun H hs=> tH (RD M H (k.pre j) (some ⟨ab,ao,none⟩) lc (KZ.le hs.base) (by show j<=1000;omega) _ (fun i=> k.name i==k.name j) (fun i _ F fc H' hle=> WB.of (first:= []) (captured:= [_]) XR rfl (SN M H' (k.name j) b4 true _ (hle _ _ (hs.get (i:=0) rfl)) (k.name i) (k.num i) F (k.nf i) fc))) q1) ?_;refine U7 ?_;refine .cl (fun H hs=> tH (bD M H (k.num j) s1) q2) ?_;refine U9 ?_;refine .cl (fun H hs=> tH (CF M H (k.pre j) (some ⟨ab,ao,none⟩) lc (KZ.le hs.base) (by show j<=1000;omega) (k.num j)) q3) ?_;refine U8 ?_;refine .cl (fun H hs=> uA M H ((k.nf j:Nat):Int) 1 4 true q4) ?_;refine U8 ?_;refine .cl (fun H hs=> tH (ZN M H F (k.nf j) fc (k.free j) (hF.le hs.base) s2) q5) ?_;refine iD ?_;exact Tc.db (ih ⟨j+1,oM,by rw[JC,if_pos gB];exact eA⟩ Ob)
def MJ(i:Nat):Value:=.func (.func ([368,369,370][i]?.getD 0)) #[] #[]
def mG(H:View):Prop:=(∃f gt gz,H 3=some (f,.cells ⟨[MJ 0,MJ 1,MJ 2]⟩ gt gz))/\∃f gt gz,H 1=some (f,.cells ⟨[.iz 0,.iz 2,.iz 1]⟩ gt gz)
def Bk.chk(k:Bk)(i:Nat):Int:= [k.oE,k.AE,k.yD][i]?.getD 0
theorem NA {H H':View}(h:mG H)(hl:H.le H'):mG H':=⟨h.1.imp fun _ ⟨gt,gz,e⟩=> ⟨gt,gz,hl _ _ e⟩,h.2.imp fun _ ⟨gt,gz,e⟩=> ⟨gt,gz,hl _ _ e⟩⟩
theorem Bk.A6(k:Bk):k.WA=JC k.chk 3:=by
 unfold Bk.WA;simp only[JC,Bk.chk];by_cases h1:k.oE=0 <;> by_cases h2:k.AE=0 <;> simp[h1,h2]
structure QD(H:View)(k:Bk)(A:Option Addr)(lc:Nat)(B:Option Addr)(tc:Nat):Prop where
 rows:YC H k A lc
 xC:jD H k B tc
theorem QD.le {H H':View}{k:Bk}{A:Option Addr}{lc:Nat}{B:Option Addr}{tc:Nat}(h:QD H k A lc B tc)(hl:H.le H'):QD H' k A lc B tc:=⟨h.rows.le hl,h.xC.le hl⟩
structure Bk.small(k:Bk):Prop where
 nl:k.nl<=1000
 nt:k.nt<=1000
 num:∀i,i<k.nl->(k.num i).length<=1000000/\k.nf i<=1000
theorem aCd(k:Bk)(A:Option Addr)(lc:Nat)(B:Option Addr)(tc:Nat)(hk:QD H k A lc B tc)(hn:k.small)(i:Nat)(hi:i<3):WB M (MJ i) [k.val A lc B tc] H fun v H''=> H.le H''/\v=.int .i64 (k.chk i):=by
 match i,hi with
 | 0,_=> exact WB.h (y9 M H k A lc B tc)
 | 1,_=> exact WB.h (aBs M H k A lc B tc hk.rows hn.nl hn.num)
 | 2,_=> exact WB.h (aAj M H k A lc B tc hk.xC hn.nt)
theorem xH(k:Bk)(A:Option Addr)(lc:Nat)(B:Option Addr)(tc:Nat)(hk:QD H k A lc B tc)(hn:k.small)(hG:mG H):
  fA M 106 #[k.val A lc B tc] H (Ib H (.int .i64 k.WA)):=by
 rw[k.A6];obtain⟨⟨f,gt,gz,hG⟩,_⟩:=hG;refine .en func106 ntmps106 fun St c cs hK=> ?_;refine U2 ?_;refine .bo fun b1=> ?_;refine U9 ?_;refine Tc.db (Tc.qA (σ:= { j:Nat//j<=3/\JC k.chk j=0 }) (fun j=> ([(1,.pt b1),(6,.agg ⟨[MJ 0,MJ 1,MJ 2]⟩),(7,.nt j.1)],[Bb b1 ((k.val A lc B tc).cells.toList) 45])) (fun j=> 3-j.1) ?_ ⟨0,Nat.zero_le _,rfl⟩);rintro⟨j,hj,gB⟩ ih;dsimp only;by_cases c1:j=3
 ·subst c1;rw[gB] at hK;refine ND ?_;refine .rt hK func106 results106 [_] ?_;exact okB
 ·have c2:j<3:=by omega
  have f1:zE false 1 [MJ 0,MJ 1,MJ 2] (((j:Nat):Int).toNat*1)=some (MJ j):=by
   rcases(by omega:j=0\/j=1\/j=2) with rfl|rfl|rfl <;> rfl
  by_cases c3:k.chk j=0
  ·have hc:=fun(H':View) (h':H.le H')=> aCd M H' k A lc B tc (hk.le h') hn j c2;rw[c3] at hc;refine ND ?_;refine .x (pA.index (E:=en) rfl rfl rfl rfl rfl rfl oM oM (by assumption)) ?_;refine U7 ?_;refine .c rfl rfl rfl rfl (fun H hs=> hc H hs.base) ?_;refine MF ?_;exact Tc.db (ih ⟨j+1,oM,by rw[JC,if_pos gB];exact c3⟩ Ob)
  ·rw[GC gB rfl c3 c2] at hK;refine ND ?_;refine .x (pA.index (E:=en) rfl rfl rfl rfl rfl rfl oM oM (by assumption)) ?_;refine U7 ?_;refine .c rfl rfl rfl rfl (fun H hs=> aCd M H k A lc B tc (hk.le hs.base) hn j c2) ?_;refine JG ?_;refine .rt hK func106 results106 [_] ?_;exact okB
def bk0:Bk:=⟨0,0,0,fun _=> [],fun _=> [],fun _=> 0,fun _ _=> 0,0,fun _=> 0,fun _=> 0,fun _=> 0,fun _=> 0⟩
theorem XI(k:Bk)(A:Option Addr)(lc:Nat)(B:Option Addr)(tc:Nat)(there:Bool)(hk:QD H k A lc B tc)(hn:k.small)(hG:mG H)(ha:k.WA≠0):
  fA M 85 #[k.val A lc B tc,.bool there] H (Ib H (.tuple ⟨[bk0.val none 0 none 0,.iz k.WA]⟩)):=by
 refine .en func85 ntmps85 fun St c cs hK=> ?_;refine U2 ?_;refine .bo fun b2=> ?_;refine .al fun b4=> ?_;refine U6 ?_;refine .cl (fun H hs=> xH M H k A lc B tc (hk.le hs.base) hn (NA hG hs.base)) ?_;refine AJ ?_;refine .rt hK func85 results85 [_,_] ?_;exact okB
theorem aCj(k:Bk)(A:Option Addr)(lc:Nat)(B:Option Addr)(tc:Nat)(hk:QD H k A lc B tc)(hn:k.small)(hG:mG H)(ha:k.WA=0):
  fA M 85 #[k.val A lc B tc,.bool false] H (Ib H (.tuple ⟨[bk0.val none 0 none 0,.iz 6]⟩)):=by
 have hc:=fun(H':View) (h':H.le H')=> xH M H' k A lc B tc (hk.le h') hn (NA hG h');rw[ha] at hc;refine .en func85 ntmps85 fun St c cs hK=> ?_;refine U2 ?_;refine .bo fun b2=> ?_;refine .al fun b4=> ?_;refine U6 ?_;refine .cl (fun H hs=> hc H hs.base) ?_;refine o6 ?_;refine .rt hK func85 results85 [_,_] ?_;exact okB
theorem oD(k:Bk)(A:Option Addr)(lc:Nat)(B:Option Addr)(tc:Nat)(hk:QD H k A lc B tc)(hn:k.small)(hG:mG H)(ha:k.WA=0):
  fA M 85 #[k.val A lc B tc,.bool true] H (Ib H (.tuple ⟨[k.val A lc B tc,.iz 0]⟩)):=by
 have hc:=fun(H':View) (h':H.le H')=> xH M H' k A lc B tc (hk.le h') hn (NA hG h');rw[ha] at hc;refine .en func85 ntmps85 fun St c cs hK=> ?_;refine U2 ?_;refine .bo fun b2=> ?_;refine .al fun b4=> ?_;refine U6 ?_;refine .cl (fun H hs=> hc H hs.base) ?_;refine PO ?_;refine .rt hK func85 results85 [_,_] ?_;exact okB
end
set_option maxHeartbeats 4000000
def upN(a b:Nat):List Nat:=List.range' a (b+1-a)
theorem P0 {a b:Nat}(h:b<a):upN a b= []:=by unfold upN;rw[show b+1-a=0 by omega];rfl
theorem LW {a b:Nat}(h:a<=b):upN a b=a::upN (a+1) b:=by
 unfold upN;rw[show b+1-a=(b+1-(a+1))+1 by omega];rfl
theorem aBu {a b x:Nat}:x∈upN a b<->a<=x/\x<=b:=by
 unfold upN;rw[List.mem_range'_1];omega
def XL(a b lo hi:Nat):List (Nat×Nat):=(upN a b).flatMap fun n=> (upN lo hi).map fun d=> (n,d)
def AG(n b lo hi d:Nat):List (Nat×Nat):=(upN d hi).map (fun d=> (n,d))++XL (n+1) b lo hi
theorem K6 {a b lo hi:Nat}(h:b<a):XL a b lo hi= []:=by unfold XL;rw[P0 h];rfl
theorem E1 {a b lo hi:Nat}(h:a<=b):XL a b lo hi=AG a b lo hi lo:=by unfold XL AG;rw[LW h,List.flatMap_cons];rfl
theorem jT {n b lo hi d:Nat}(h:d<=hi):AG n b lo hi d=(n,d)::AG n b lo hi (d+1):=by unfold AG;rw[LW h];rfl
theorem kV {n b lo hi d:Nat}(h:hi<d):AG n b lo hi d=XL (n+1) b lo hi:=by unfold AG;rw[P0 h];rfl
theorem vM {a b lo hi:Nat}{x:Nat×Nat}:x∈XL a b lo hi<->(a<=x.1/\x.1<=b)/\(lo<=x.2/\x.2<=hi):=by
 unfold XL;simp only[List.mem_flatMap,List.mem_map,aBu];constructor
 ·rintro⟨n,h1,d,h2,rfl⟩;exact⟨h1,h2⟩
 ·rintro⟨h1,h2⟩;exact⟨x.1,h1,x.2,h2,rfl⟩
def aCC(b5 b2:Nat):Value:=.func (.func 255) #[] #[.pt b5,.pt b2]
structure bN(v w:Value)(b5 b2:Nat)(H:View):Prop where
 a:∃f,H b5=some (f,.cells ⟨v.cells.toList⟩ 39 (0,0))
 b:∃f,H b2=some (f,.cells ⟨w.cells.toList⟩ 166 (0,0))
theorem bN.le {v w:Value}{b5 b2:Nat}(H H':View)(h:H.le H')(c:bN v w b5 b2 H):bN v w b5 b2 H':=
 ⟨c.a.imp fun _ e=> h _ _ e,c.b.imp fun _ e=> h _ _ e⟩
def Bk.can(k:Bk)(i:Nat):List (Nat×Nat):=XL (k.pf i).toNat (k.pt i).toNat (k.kind (k.qf i)) (k.kind (k.qt i))
section
variable(M:Md prog)(H:View)
theorem aCc(k:Bk)(A:Option Addr)(lc:Nat)(B:Option Addr)(tc:Nat)(hB:jD H k B tc)(i:Nat)(hi:i<k.nt):
  fA M 195 #[k.val A lc B tc,.nt i] H (fun v H'=> H.le H'/\∃b5 b2,v=aCC b5 b2/\bN (bE (k.pf i) (k.pt i) (k.qf i) (k.qt i)) (k.val A lc B tc) b5 b2 H'):=by
 obtain⟨_,h0|⟨tb,to,f,gs,gt,gz,rfl,hb,ht⟩⟩:=hB
 ·omega
 have f1:=ht i hi;refine .en func195 ntmps195 fun St c cs hK=> ?_;refine U2 ?_;refine .bo fun b2=> ?_;refine iD ?_;refine .al fun b5=> ?_;refine U7 ?_;refine .rt hK func195 results195 [_] ?_;exact fun H' hs=> ⟨hs.base,b5,b2,rfl,⟨true,hs.get (i:=0) rfl⟩,⟨true,hs.get (i:=1) rfl⟩⟩
theorem L6(k:Bk)(A:Option Addr)(lc:Nat)(B:Option Addr)(tc:Nat)(i:Nat)(a b lo hi:Nat)(ha:k.pf i=(a:Nat))(hb:k.pt i=(b:Nat))(AV:b<=1000)(zN:k.kind (k.qf i)=lo)(gQ:k.kind (k.qt i)=hi)(aHS:hi<=2)(b5 b2:Nat)
  (hC:bN (bE (k.pf i) (k.pt i) (k.qf i) (k.qt i)) (k.val A lc B tc) b5 b2 H):
  TU M (aCC b5 b2) (XL a b lo hi) (fun x (_:Unit)=> [.nt x.1,.nt x.2]) (fun _ _=> []) (fun _ _=> []) (bN (bE (k.pf i) (k.pt i) (k.qf i) (k.qt i)) (k.val A lc B tc) b5 b2) [] H:=fun l J D BC h0 hy H₀ fF=> by
 have Z4:=fun(H':View)=> fY M H' k A lc B tc (k.qf i);have DU:=fun(H':View)=> fY M H' k A lc B tc (k.qt i);rw[zN] at Z4;rw[gQ] at DU;rw[ha,hb] at hC BC;refine WB.of (first:= []) (captured:= [_,_]) aFd rfl ?_;obtain⟨⟨fa,h5⟩,⟨fb,h2⟩⟩:=hC;refine fA.enter (vs:= [.func (.yield l) #[] #[],.pt b5,.pt b2]) func255 rfl ntmps255 Nb (fF) fun St c cs hK=> ?_;refine U8 ?_;refine Tc.db (Tc.aK (σ:= { s:Nat×View//a<=s.1/\J (XL s.1 b lo hi) s.2 })
  (fun s=> (s.1.2,[(0,.func (.yield l) #[] #[]),(1,.pt b5),(2,.pt b2),(4,.nt s.1.1)],[])) (fun s=> b+1-s.1.1) ?_ ⟨(a,H),Nat.le_refl _,h0⟩)
 rintro⟨⟨n,H₁⟩,g1,j1⟩ ih₁;simp only at g1 j1;show Tc M St _ _ H₁ _ [(0,.func (.yield l) #[] #[]),(1,.pt b5),(2,.pt b2),(4,.nt n)] [] _ _;obtain⟨⟨fa,h5⟩,⟨fb,h2⟩⟩:=BC _ _ j1;by_cases c1:n<=b
 ·rw[E1 c1] at j1;refine XU ?_;refine .cl (fun H hs=> Z4 H) ?_;refine U3 ?_;refine Tc.db (Tc.aK (σ:= { s:Nat×View//lo<=s.1/\J (AG n b lo hi s.1) s.2 })
   (fun s=> (s.1.2,[(0,.func (.yield l) #[] #[]),(1,.pt b5),(2,.pt b2),(4,.nt n),(5,.nt s.1.1)],[])) (fun s=> hi+1-s.1.1) ?_ ⟨(lo,H₁),Nat.le_refl _,j1⟩)
  rintro⟨⟨d,H₂⟩,g2,j2⟩ ih₂;simp only at g2 j2;show Tc M St _ _ H₂ _ [(0,.func (.yield l) #[] #[]),(1,.pt b5),(2,.pt b2),(4,.nt n),(5,.nt d)] [] _ _;obtain⟨⟨fc,h6⟩,⟨fd,h7⟩⟩:=BC _ _ j2;by_cases c2:d<=hi
  ·rw[jT c2] at j2;have VD:(n,d)∈XL a b lo hi:=vM.2 ⟨⟨g1,c1⟩,g2,c2⟩;refine U8 ?_;refine .cl (fun H hs=> DU H) ?_;refine ND ?_;refine To.YB rfl rfl rfl rfl rfl rfl dE (hy (n,d) (AG n b lo hi (d+1)) () H₂ H₂ VD j2 (jA.nil H₂)) (fun v H₃ hv=> ?_);rcases hv with ⟨rfl,H4,h8,j3⟩|⟨rfl,hD⟩
   ·refine To.lower h8.base ?_;refine iD ?_;exact Tc.db (ih₂ ⟨(d+1,H4),by simp only;omega,j3⟩ Ob)
   ·refine U3 ?_;refine .rt hK func255 results255 [] ?_;exact fun H' hs=> ⟨H₃,hs.base,.inr hD⟩
  ·have c3:hi<d:=by omega
   rw[kV c3] at j2;refine U8 ?_;refine .cl (fun H hs=> DU H) ?_;refine iD ?_;exact Tc.db (ih₁ ⟨(n+1,H₂),by simp only;omega,j2⟩ Ob)
 ·have c2:b<n:=by omega
  rw[K6 c2] at j1;refine ND ?_;refine .ov hK func255 results255 [] ?_;exact fun H' hs=> ⟨H₁,hs.base,.inl j1⟩
end
end Go.Proofs.YtldmfjcgjdchcaaGreatDoor
namespace Go.RL
open Go.Conc
structure mC(es:Array MapEntry)(cl:Nat)(F:Value->Value->Prop):Prop where
 keys:(es.toList.map (·.key)).Nodup
 VL:(es.toList.map (·.born)).Nodup
 lt:∀e∈es.toList,e.born<cl
 mem:∀k v,F k v<->∃e∈es.toList,e.key=k/\e.val=v
theorem mC.nil:mC #[] 0 fun _ _=> False:=⟨by simp,by simp,by simp,by simp⟩
theorem mC.congr {es:Array MapEntry}{cl:Nat}{F F':Value->Value->Prop}(h:mC es cl F)(k:∀a b,F' a b<->F a b):mC es cl F':=⟨h.keys,h.VL,h.lt,fun a b=> (k a b).trans (h.mem a b)⟩
theorem mC.find {es:Array MapEntry}{cl:Nat}{F:Value->Value->Prop}(h:mC es cl F){k:Value}{r:Option (Nat×Value)}(hr:eL es.toList k r):match r with
  | some (_,v)=> F k v
  | none=> ∀v,¬F k v:=by
 cases r with
 | none=>
  intro v hv;obtain⟨e,he,h1,_⟩:=(h.mem k v).1 hv;exact hr e he h1
 | some p=>
  obtain⟨i,v⟩:=p;obtain⟨e,h1,h2,h3⟩:=hr;exact(h.mem k v).2 ⟨e,List.mem_of_getElem? h1,h2,h3⟩
theorem mC.put {es:Array MapEntry}{cl:Nat}{F:Value->Value->Prop}(h:mC es cl F){k:Value}(v:Value){r:Option (Nat×Value)}(hr:eL es.toList k r):
  ∃es' cl',nY es cl k v r=.map es' cl'/\mC es' cl' fun k' v'=> (k'=k/\v'=v)\/(k'≠k/\F k' v'):=by
 cases r with
 | none=>
  refine⟨_,_,rfl,?_,?_,?_,?_⟩
  ·simp only[Array.toList_push,List.map_append,List.map_cons,List.map_nil];rw[List.nodup_append];refine⟨h.keys,by simp,fun a ha b hb=> ?_⟩;simp only[List.mem_singleton] at hb;subst hb;obtain⟨e,he,rfl⟩:=List.mem_map.1 ha;exact hr e he
  ·simp only[Array.toList_push,List.map_append,List.map_cons,List.map_nil];rw[List.nodup_append];refine⟨h.VL,by simp,fun a ha b hb=> ?_⟩;simp only[List.mem_singleton] at hb;subst hb;obtain⟨e,he,rfl⟩:=List.mem_map.1 ha;have:=h.lt e he;omega
  ·intro e he;simp only[Array.toList_push,List.mem_append,List.mem_singleton] at he;rcases he with he|rfl
   ·have:=h.lt e he;omega
   ·simp
  ·intro k' v';simp only[Array.toList_push,List.mem_append,List.mem_singleton];constructor
   ·rintro(⟨rfl,rfl⟩|⟨_,hf⟩)
    ·exact⟨_,.inr rfl,rfl,rfl⟩
    ·obtain⟨e,he,h1,h2⟩:=(h.mem k' v').1 hf;exact⟨e,.inl he,h1,h2⟩
   ·rintro⟨e,he|rfl,h1,h2⟩
    ·exact .inr ⟨fun e'=> hr e he (h1.trans e'),(h.mem k' v').2 ⟨e,he,h1,h2⟩⟩
    ·exact .inl ⟨h1.symm,h2.symm⟩
 | some p=>
  obtain⟨i,u⟩:=p;obtain⟨e,h1,h2,h3⟩:=hr;have hi:=(List.getElem?_eq_some_iff.1 h1).1;have he:es.toList[i]=e:=(List.getElem?_eq_some_iff.1 h1).2;have wJ:es.toList=es.toList.take i++e::es.toList.drop (i+1):=by
   rw[<-he,<-List.drop_eq_getElem_cons hi,List.take_append_drop]
  have jQ:(es.modify i fun e=> { e with key:=k,val:=v }).toList=es.toList.take i++{ e with key:=k,val:=v }::es.toList.drop (i+1):=by
   rw[Array.toList_modify,List.modify_eq_take_cons_drop hi,he]
  have hk:=h.keys;rw[wJ,List.map_append,List.map_cons] at hk;refine⟨_,_,rfl,?_,?_,?_,?_⟩
  ·rw[jQ,List.map_append,List.map_cons];rw[h2] at hk;exact hk
  ·have hb:=h.VL;rw[wJ,List.map_append,List.map_cons] at hb;rw[jQ,List.map_append,List.map_cons];exact hb
  ·intro x hx;rw[jQ] at hx;rcases List.mem_append.1 hx with hx|hx
   ·exact h.lt x (by rw[wJ];exact List.mem_append_left _ hx)
   ·rcases List.mem_cons.1 hx with rfl|hx
    ·exact h.lt e (by rw[wJ];simp)
    ·exact h.lt x (by rw[wJ];exact List.mem_append_right _ (List.mem_cons_of_mem _ hx))
  ·intro k' v';rw[jQ];rw[List.nodup_append,List.nodup_cons] at hk;obtain⟨_,⟨Z4,_⟩,DU⟩:=hk;constructor
   ·rintro(⟨rfl,rfl⟩|⟨aB,hf⟩)
    ·exact⟨_,List.mem_append_right _ (List.mem_cons_self ..),rfl,rfl⟩
    ·obtain⟨x,hx,g1,g2⟩:=(h.mem k' v').1 hf;rw[wJ] at hx;rcases List.mem_append.1 hx with hx|hx
     ·exact⟨x,List.mem_append_left _ hx,g1,g2⟩
     ·rcases List.mem_cons.1 hx with rfl|hx
      ·exact absurd (g1.symm.trans h2) aB
      ·exact⟨x,List.mem_append_right _ (List.mem_cons_of_mem _ hx),g1,g2⟩
   ·rintro⟨x,hx,g1,g2⟩;rcases List.mem_append.1 hx with hx|hx
    ·refine .inr ⟨fun e'=> DU _ (List.mem_map_of_mem hx) _ (List.mem_cons_self ..) (g1.trans (e'.trans h2.symm)),(h.mem k' v').2 ⟨x,by rw[wJ];exact List.mem_append_left _ hx,g1,g2⟩⟩
    ·rcases List.mem_cons.1 hx with rfl|hx
     ·exact .inl ⟨g1.symm,g2.symm⟩
     ·refine .inr ⟨fun e'=> Z4 ?_,(h.mem k' v').2 ⟨x,by rw[wJ];exact List.mem_append_right _ (List.mem_cons_of_mem _ hx),g1,g2⟩⟩;have:=List.mem_map_of_mem (f:=(·.key)) hx;rw[g1,e',<-h2] at this;exact this
def KD(es:Array MapEntry)(seen:Array Nat):List MapEntry:=es.toList.filter fun e=> !seen.contains e.born
theorem rE(es:Array MapEntry):KD es #[]=es.toList:=by simp[KD]
theorem lG {es:Array MapEntry}{seen:Array Nat}(h:∀e∈es.toList,seen.contains e.born=true):KD es seen= []:=by
 unfold KD;rw[List.filter_eq_nil_iff];intro e he;rw[h e he];simp
theorem RH {es:Array MapEntry}{seen:Array Nat}{e:MapEntry}(hn:(es.toList.map (·.born)).Nodup)(he:e∈es.toList)(hs:seen.contains e.born=false):(KD es seen).Perm (e::KD es (seen.push e.born)):=by
 have hme:e∈KD es seen:=by
  unfold KD;rw[List.mem_filter];exact⟨he,by rw[hs];rfl⟩
 obtain⟨A,B,hAB⟩:=List.append_of_mem he;have hb:=hn;rw[hAB,List.map_append,List.map_cons,List.nodup_append,List.nodup_cons] at hb;obtain⟨_,⟨h1,_⟩,h2⟩:=hb;have other:∀x:MapEntry,x.born≠e.born->(!(seen.push e.born).contains x.born)=!seen.contains x.born:=fun x hx=> by
  rw[Array.contains_push];have:(x.born==e.born)=false:=by simpa using hx
  simp[this]
 have hA:A.filter (fun x=> !(seen.push e.born).contains x.born)=A.filter fun x=> !seen.contains x.born:=List.filter_congr fun x hx=> other x fun e'=> h2 _ (List.mem_map_of_mem hx) _ (List.mem_cons_self ..) e';have hB:B.filter (fun x=> !(seen.push e.born).contains x.born)=B.filter fun x=> !seen.contains x.born:=List.filter_congr fun x hx=> other x fun e'=> h1 (by
  have:=List.mem_map_of_mem (f:=(·.born)) hx;rw[e'] at this;exact this)
 unfold KD;rw[hAB,List.filter_append,List.filter_append,List.filter_cons_of_pos (by rw[hs];rfl),List.filter_cons_of_neg (by simp),hA,hB];exact List.perm_middle
end Go.RL
namespace Go.Proofs.YtldmfjcgjdchcaaGreatDoor
open Go.RL Go.Proofs.Tryz
set_option maxRecDepth 10000
theorem r7(s:By)(m:Int)(d:Bool):flat en 2 170 [bA s,.iz m,.bool d]:=by
 refine⟨rfl,?_⟩;intro f hf;simp only[List.mem_cons,List.not_mem_nil,or_false] at hf;rcases hf with rfl|rfl|rfl
 ·exact⟨⟨_,rfl⟩,_,rfl,rfl,Nat.le_of_ble_eq_true rfl⟩
 ·exact⟨⟨_,rfl⟩,_,rfl,rfl,Nat.le_of_ble_eq_true rfl⟩
 ·exact⟨⟨_,rfl⟩,_,rfl,rfl,Nat.le_of_ble_eq_true rfl⟩
theorem rT(e:sH):zH en 2 170 e.val:=⟨_,[bA e.heard,.nt e.pend,.bool e.deaf],rfl,rfl,r7 _ _ _⟩
theorem BH {e e':sH}(h:e.val=e'.val):e=e':=by
 obtain⟨s,m,d⟩:=e;obtain⟨s',m',d'⟩:=e';unfold sH.val p7 at h;simp only[Value.agg.injEq,Array.mk.injEq,List.cons.injEq,Value.string.injEq,ByteArray.mk.injEq,Value.int.injEq,Value.bool.injEq,and_true,true_and] at h;obtain⟨h1,h2,h3⟩:=h;subst h1;subst h3;simp only[sH.mk.injEq,and_true,true_and];omega
def Bk.FE(k:Bk):Nat->sH->Prop
 | 0,e=> e=⟨[],0,false⟩
 | i+1,e=> ∃e0,k.FE i e0/\∃x∈k.can i,e=e0.hear x.1 x.2
def dM(S:sH->Prop)(kv v:Value):Prop:=∃e,S e/\kv=e.val/\v=.bool true
def Bk.qD(k:Bk):Prop:=∀i,i<k.nt->vB (k.pf i) (k.pt i) (k.qf i) (k.qt i)=true
theorem Bk.yF {k:Bk}(h:k.qD){i:Nat}(hi:i<k.nt):(1<=k.pf i/\k.pf i<=k.pt i/\k.pt i<=12)/\k.pt i-k.pf i<4/\(0<=k.qf i/\k.qf i<=k.qt i/\k.qt i<=99):=by
 have:=h i hi;unfold vB at this;simp only[Bool.and_eq_true,decide_eq_true_eq] at this;exact⟨this.1.1,this.1.2,this.2⟩
theorem Bk.sM(k:Bk)(p:Int):k.kind p<=2:=by
 unfold Bk.kind;split
 ·omega
 ·split <;> omega
theorem Bk.rX {k:Bk}(h:k.qD){i:Nat}(hi:i<k.nt){x:Nat×Nat}(hx:x∈k.can i):x.1<=12/\x.2<=2:=by
 have h1:=k.yF h hi;have h2:=vM.1 hx;have h3:=k.sM (k.qt i);omega
theorem sH.QZ {e:sH}{p kd a b:Nat}(h1:e.heard.length<=a)(h2:e.pend<=b)(h3:p<=12):(e.hear p kd).heard.length<=a+1/\(e.hear p kd).pend<=b+12:=by
 unfold sH.hear;split
 ·omega
 ·split
  ·simp only;omega
  ·split
   ·simp only;omega
   ·simp only[List.length_append,List.length_cons,List.length_nil];omega
theorem Bk.AZ {k:Bk}(h:k.qD):∀ {i:Nat} {e:sH},i<=k.nt->k.FE i e->e.heard.length<=i/\e.pend<=12*i
 | 0,e,_,he=> by
  have:e=⟨[],0,false⟩:=he;subst this;exact⟨Nat.le_refl _,Nat.le_refl _⟩
 | i+1,e,hi,⟨e0,h0,x,hx,he⟩=> by
  have h1:=Bk.AZ h (i:=i) oM h0;have h2:=Bk.rX h (i:=i) oM hx;subst he;have:=sH.QZ (kd:=x.2) h1.1 h1.2 h2.1;omega
theorem m7(e:sH){S:sH->Prop}(hS:∀x,S x<->x=e)(kv v:Value):dM S kv v<->(kv=e.val/\v=.bool true)\/(kv≠e.val/\False):=by
 constructor
 ·rintro⟨x,h1,h2,h3⟩;rw[(hS x).1 h1] at h2;exact .inl ⟨h2,h3⟩
 ·rintro(⟨h1,h2⟩|⟨_,h⟩)
  ·exact⟨e,(hS e).2 rfl,h1,h2⟩
  ·exact h.elim
theorem o7(e:sH)(S:sH->Prop)(kv v:Value):dM (fun x=> x=e\/S x) kv v<->(kv=e.val/\v=.bool true)\/(kv≠e.val/\dM S kv v):=by
 constructor
 ·rintro⟨x,h1,h2,h3⟩;by_cases hx:x=e
  ·subst hx;exact .inl ⟨h2,h3⟩
  ·exact .inr ⟨fun h=> hx (BH (h2.symm.trans h)),x,h1.resolve_left hx,h2,h3⟩
 ·rintro(⟨h1,h2⟩|⟨_,x,h1,h2,h3⟩)
  ·exact⟨e,.inl rfl,h1,h2⟩
  ·exact⟨x,.inr h1,h2,h3⟩
theorem iE {es:Array MapEntry}{cl:Nat}{S:sH->Prop}(h:mC es cl (dM S)):∀e∈es.toList,∃x,S x/\e.key=x.val/\e.val=.bool true:=fun e he=>
 (h.mem e.key e.val).2 ⟨e,he,rfl,rfl⟩
theorem O1 {es:Array MapEntry}{cl:Nat}{S:sH->Prop}(h:mC es cl (dM S)):∀e∈es.toList,zH en 2 170 e.key:=fun e he=> by
 obtain⟨x,_,h2,_⟩:=iE h e he;rw[h2];exact rT x
theorem zK {es:Array MapEntry}{cl:Nat}{S:sH->Prop}(h:mC es cl (dM S)){e:MapEntry}(he:e∈es.toList):es.find? (fun x=> x.born==e.born)=some e:=by
 rw[<-Array.find?_toList];cases hf:es.toList.find? (fun x=> x.born==e.born) with
 | none=> have:=List.find?_eq_none.1 hf e he;simp at this
 | some e'=>
  have h3:=List.mem_of_find?_eq_some hf;have h4:=List.find?_some hf;simp only[beq_iff_eq] at h4;obtain⟨i,hi,rfl⟩:=List.mem_iff_getElem.1 h3;obtain⟨j,hj,rfl⟩:=List.mem_iff_getElem.1 he;have hb:=h.VL;have BU:i<(es.toList.map (·.born)).length:=by rw[List.length_map];exact hi
  have FV:j<(es.toList.map (·.born)).length:=by rw[List.length_map];exact hj
  have:(es.toList.map (·.born))[i]=(es.toList.map (·.born))[j]:=by rw[List.getElem_map,List.getElem_map];exact h4
  have:=(List.getElem_inj hb).1 this;subst this;rfl
end Go.Proofs.YtldmfjcgjdchcaaGreatDoor
namespace Go.RL
open Go.Conc
def Mk(rs:List Nat):Bl:=rs.map fun r=> (r,true,.deferred (some []))
def marks(rs:List Nat):List Deferred:=rs.map GD
section
variable {P:Program}{E:Env P}{M:Md P}{St:View->Goroutine->Prop}{n:Nat}{b:FB}{H₀:View}{cs:List Frame}{R:Rg}{L L₁:Bl}{ds:List Deferred}{k:List Item}
theorem Tc.BO(p:L₁.Perm L)(h:Tc M St n b H₀ cs R L₁ ds k):Tc M St n b H₀ cs R L ds k:=fun H tmps hs hr=> h H tmps (hs.perm p) hr
theorem Tc.marked {r:Nat}{rs:List Nat}(h:Tc M St n b H₀ cs R (L++Mk (r::rs)) (marks (r::rs)) k):Tc M St n b H₀ cs R ((r,true,.deferred (some []))::(L++Mk rs)) (GD r::marks rs) k:=
 Tc.BO (L₁:=L++Mk (r::rs)) (List.perm_middle (l₁:=L) (l₂:=Mk rs)) h
theorem Tc.mY {σ:Type}(I:σ->View×Rg×Bl×List Deferred)(μ:σ->Nat){body:Code}
  (step:∀s,(∀s',μ s'<μ s->Tc M St n b (I s').1 cs (I s').2.1 (I s').2.2.1 (I s').2.2.2 (.inLoop body::k))->Tc M St n b (I s).1 cs (I s).2.1 (I s).2.2.1 (I s).2.2.2 (.code body:: .inLoop body::k)) (s₀:σ):
  Tc M St n b (I s₀).1 cs (I s₀).2.1 (I s₀).2.2.1 (I s₀).2.2.2 (.code (.loop body)::k):=by
 have key:∀(m:Nat) (s:σ),μ s<=m->Tc M St n b (I s).1 cs (I s).2.1 (I s).2.2.1 (I s).2.2.2 (.code body:: .inLoop body::k):=by
  intro m;induction m with
  | zero=> exact fun s hs=> step s fun s' KB=> by omega
  | succ m ih=> exact fun s hs=> step s fun s' KB=> .inLoop (ih s' oM)
 exact .loop (key _ s₀ (Nat.le_refl _))
theorem yQ {fn:Func}{c:Frame}{Q:Value->View->Prop}{f:FuncId}{rv:List ResultVar}{vs:List Value}{todo:List Item}{tmps:Array Value}(hK:∀v H',Q v H'->T M St H' (G (c.finish v) cs))(hf:P.funcs[f]? =some fn)(XO:fn.results=rv.toArray)
  (ho:fJ E R L rv vs) (hr:YA n R tmps) (h:∀H',jA H₀ L H'->Q (gF vs) H'):∀(rs:List Nat) (H:View),jA H₀ (L++Mk rs) H->T M St H (G ((⟨f,.normal,none⟩:FB).back tmps (marks rs) todo) (c::cs))
 | [],H,hs=> by
  have hs':jA H₀ L H:=by
   have:=hs;unfold Mk at this
   rwa [List.map_nil,List.append_nil] at this
  exact .leave hf rfl (VA _ hK (eE hs' hr XO ho (h _ hs')))
 | r ::rs,H,hs=> by
  have hi:(L++Mk (r::rs))[L.length]? =some (r,true,.deferred (some [])):=by
   rw[List.getElem?_append_right (Nat.le_refl _),Nat.sub_self];rfl
  have hd:=hs.get hi;refine .collect ?_;refine⟨true,_,hd,by simp,rfl,?_⟩;refine⟨⟨_,hd,by simp⟩,rfl,?_⟩;have hs':=hs.set hi (true,.deferred none);refine yQ hK hf XO ho hr h rs _ (hs'.less ?_);rw[List.set_append_right _ _ (Nat.le_refl _),Nat.sub_self];exact List.Sublist.append (List.Sublist.refl _) (List.sublist_cons_self _ _)
theorem Tc.J9 {rs:List Nat}{fn:Func}{c:Frame}{Q:Value->View->Prop}{f:FuncId}{rv:List ResultVar}{vs:List Value}(hK:∀v H',Q v H'->T M St H' (G (c.finish v) cs))(hf:P.funcs[f]? =some fn)(XO:fn.results=rv.toArray)
  (ho:fJ E R L rv vs) (h:∀H',jA H₀ L H'->Q (gF vs) H'):Tc M St n ⟨f,.normal,none⟩ H₀ (c::cs) R (L++Mk rs) (marks rs) (.code .ret::k):=
 fun H _ hs hr=> .LD rfl (yQ hK hf XO ho hr h rs H hs)
end
section
variable {P:Program}{M:Md P}{St:View->Goroutine->Prop}{n:Nat}{b:FB}{H₀:View}{cs:List Frame}{R:Rg}{L:Bl}{ds:List Deferred}{k:List Item}{ops:Array Oper}
theorem Tc.drT {id:Nat}{fuel:Nat}(B C E:List Nat)(m:Nat)(hm:P.follows .mixedOrders=true)(hf:ops.size=fuel)(h:Ta M St n b H₀ cs (S3 H₀ B C (aI (L.take m) E) L) .any ops fuel (Array.replicate fuel false) R L ds k):
  Tc M St n b H₀ cs R L ds (.code (.region id ops true)::k):=fun H tmps hs hr=> by
 subst hf;refine .ZD fun t=> ?_;simp only[Region.schedule,hm,Bool.true_or,if_true];have hS:=S3.mk (H₀:=H₀) (B:=B) (C:=C) (listed:=Array.replicate ops.size false) ((YE E (L.take m)).trans (List.take_sublist m L)) (.inr (List.Sublist.refl L)) H hs;exact(h H tmps hs hr hS).sound _ t _ _ _ hS
end
end Go.RL
namespace Go.Proofs.YtldmfjcgjdchcaaGreatDoor
open Go.RL Go.Proofs.Tryz
set_option maxRecDepth 10000
set_option maxHeartbeats 16000000
section
variable(M:Md prog)(H:View)
theorem BX (k:Bk)(A:Option Addr)(lc:Nat)(B:Option Addr)(tc:Nat)(hB:jD H k B tc)(ht:k.qD)(h6:k.nt<=6)(n:Nat)(hn:n<=k.nt):
  fA M 119 #[k.val A lc B tc,.nt n] H (fun v H'=> H.le H'/\∃m es cl,v=.map (some m)/\(∃f,H' m=some (f,.map es cl))/\mC es cl (dM (k.FE n))):=by
 refine .en func119 ntmps119 fun St c cs hK=> ?_;refine U2 ?_;refine .bo fun b2=> ?_;refine U4 ?_;refine .e (Or.makeMap rfl rfl dE (fun m0=> ?_));refine U ?_;refine .e (Or.insert (E:=en) 0 2 rfl rfl rfl rfl rfl rfl rfl dE (rT ⟨[],0,false⟩) (by simp) rfl (fun r hr=> ?_));obtain⟨es1,cl1,e1,hm1⟩:=mC.nil.put (.bool true) hr;rw[e1];refine U3 ?_;have aHa:mC es1 cl1 (dM (k.FE 0)):=hm1.congr (m7 ⟨[],0,false⟩ (fun x=> Iff.rfl));refine Tc.BO (L₁:= [Bb b2 ((k.val A lc B tc).cells.toList) 166,(m0,true,.map es1 cl1)]) (List.Perm.swap ..) ?_;refine Tc.lift (L₂:= [Bb b2 ((k.val A lc B tc).cells.toList) 166]) (L₁:= [(m0,true,.map es1 cl1)]) rfl (fun Hx hx=> ?_);have aG8:=hx.base;have aFx:Hx m0=some (true,.map es1 cl1):=hx.get (i:=0) rfl;clear hx;refine U7 ?_;refine Tc.db (Tc.mY (σ:= { s:View×Nat×Nat×Array MapEntry×Nat×List Nat//H.le s.1/\s.2.1<=n/\(∃f,s.1 s.2.2.1=some (f,.map s.2.2.2.1 s.2.2.2.2.1))/\mC s.2.2.2.1 s.2.2.2.2.1 (dM (k.FE s.2.1)) })
  (fun s=> (s.1.1,[(2,.pt b2),(5,.map (some s.1.2.2.1)),(14,.nt n),(15,.nt s.1.2.1)],[Bb b2 ((k.val A lc B tc).cells.toList) 166]++Mk s.1.2.2.2.2.2,marks s.1.2.2.2.2.2)) (fun s=> n-s.1.2.1) ?_ ⟨(Hx,0,m0,es1,cl1,[]),aG8,Nat.zero_le _,⟨true,aFx⟩,aHa⟩)
 rintro⟨⟨H₁,i,m,es,cl,rs⟩,g1,g2,⟨fm,g3⟩,g4⟩ ih₁;simp only at g1 g2 g3 g4;show Tc M St _ _ H₁ _ [(2,.pt b2),(5,.map (some m)),(14,.nt n),(15,.nt i)] ([Bb b2 ((k.val A lc B tc).cells.toList) 166]++Mk rs) (marks rs) _;by_cases c1:i=n
 ·subst c1;refine uH ?_;refine Tc.J9 (E:=en) (L:= [Bb b2 ((k.val A lc B tc).cells.toList) 166]) (rs:=rs) hK func119 results119 (vs:= [_]) ⟨rfl,trivial⟩ ?_;exact fun H' hs=> ⟨View.le_trans g1 hs.base,m,es,cl,rfl,⟨fm,hs.base _ _ g3⟩,g4⟩
 ·have c2 : i < k.nt:=by omega
  obtain⟨t1,t2,t3⟩:=k.yF ht c2;refine LI ?_;refine .e (Or.makeMap rfl rfl dE (fun mo=> ?_));refine .al fun b7=> ?_;refine U6 ?_;refine .e (Or.range (E:=en) (es:=es) (cl:=cl) rfl rfl (fun H hs=> ⟨fm,hs.base _ _ g3⟩) rfl rfl rfl dE (fun it=> ?_));refine U2 ?_;refine Tc.db (Tc.mY (σ:= { s:View×Array Nat×Array MapEntry×Nat×List Nat//H₁.le s.1/\∃S:sH->Prop,mC s.2.2.1 s.2.2.2.1 (dM S)/\∀e,k.FE (i+1) e<->(S e\/∃me∈KD es s.2.1,∃e0:sH,me.key=e0.val/\∃x∈k.can i,e=e0.hear x.1 x.2) })
   (fun s=> (s.1.1,[(2,.pt b2),(6,.nt i),(7,.pt b7),(14,.nt n),(15,.nt i),(20,.pt it)],[(it,true,.mapIter (some m) cl s.1.2.1 cl),Bb b7 [.map (some mo)] 218,(mo,true,.map s.1.2.2.1 s.1.2.2.2.1),Bb b2 ((k.val A lc B tc).cells.toList) 166]++Mk s.1.2.2.2.2,marks s.1.2.2.2.2)) (fun s=> (KD es s.1.2.1).length) ?_ ⟨(H₁,#[],#[],0,rs),View.le_refl _,fun _=> False,mC.nil.congr (by rintro a b;simp[dM]),fun e=> by
    rw[rE];constructor
    ·rintro⟨e0,h0,x,hx,rfl⟩;obtain⟨me,h1,h2,_⟩:=(g4.mem e0.val (.bool true)).1 ⟨e0,h0,rfl,rfl⟩;exact .inr ⟨me,h1,e0,h2,x,hx,rfl⟩
    ·rintro(h|⟨me,h1,e0,h2,x,hx,rfl⟩)
     ·exact h.elim
     ·obtain⟨y,h3,h4,_⟩:=iE g4 me h1;rw[BH (h2.symm.trans h4)];exact⟨y,h3,x,hx,rfl⟩⟩)
  rintro⟨⟨H₂,seen,es2,cl2,rs2⟩,p1,S,p2,p3⟩ ih₂;simp only at p1 p2 p3;show Tc M St _ _ H₂ _ [(2,.pt b2),(6,.nt i),(7,.pt b7),(14,.nt n),(15,.nt i),(20,.pt it)] ([(it,true,.mapIter (some m) cl seen cl),Bb b7 [.map (some mo)] 218,(mo,true,.map es2 cl2),Bb b2 ((k.val A lc B tc).cells.toList) 166]++Mk rs2) (marks rs2) _;have g3':=p1 _ _ g3;refine U2 ?_;refine .e (Or.next (es:=es) 0 rfl rfl rfl (fun H hs=> ⟨fm,hs.base _ _ g3'⟩) g4.lt rfl dE (fun me he hse=> ?_) (fun QA=> ?_))
  ·have hp :=RH g4.VL he hse;obtain⟨e0,u1,u2,_⟩:=iE g4 me he;have SJ:=zK g4 he;have X4:=k.AZ ht oM u1;refine U8 ?_;refine .e (Or.entry (es:=es) (e:=me) (st:=me.born) rfl rfl (fun H hs=> ⟨true,hs.get (i:=0) rfl⟩) (fun H hs=> ⟨fm,hs.base _ _ g3'⟩) (by simp) SJ rfl dE ?_);rw[u2];refine U ?_;refine .al fun b8=> ?_;refine U6 ?_;refine To.YB rfl rfl rfl rfl rfl rfl dE (WB.h (aCc M H₂ k A lc B tc (hB.le (View.le_trans g1 p1)) i c2)) (fun v H₃ hv=> ?_);obtain⟨OK,b5,b2',rfl,BC⟩:=hv;refine U ?_;have CJ:=fun(H':View) (hc:bN (bE (k.pf i) (k.pt i) (k.qf i) (k.qt i)) (k.val A lc B tc) b5 b2' H')=> L6 M H' k A lc B tc i (k.pf i).toNat (k.pt i).toNat _ _ oM oM oM rfl rfl (k.sM _) b5 b2' hc;refine U ?_;refine Tc.PN (A:= []) (ts:= [28,29]) (xs:=k.can i) (fun rest H₄ L₄=> ∃es3 cl3,∃S3:sH->Prop,L₄= [Bb b8 e0.val.cells.toList 170,(it,true,.mapIter (some m) cl (seen.push me.born) cl),Bb b7 [.map (some mo)] 218,(mo,true,.map es3 cl3),Bb b2 ((k.val A lc B tc).cells.toList) 166]++Mk rs2
     /\mC es3 cl3 (dM S3)/\(∀e,(S e\/∃x∈k.can i,e=e0.hear x.1 x.2)<->(S3 e\/∃x∈rest,e=e0.hear x.1 x.2))/\bN (bE (k.pf i) (k.pt i) (k.qf i) (k.qt i)) (k.val A lc B tc) b5 b2' H₄/\H₃.le H₄) (fun _ _ _=> False) rfl rfl rfl rfl CJ (fun _ _=> bN.le _ _) (fun _ _ _ ⟨_,_,_,_,_,_,h,_⟩=> h) rfl (fun _ _=> rfl)
     ⟨es2,cl2,S,rfl,p2,fun _=> Iff.rfl,BC,View.le_refl _⟩ ?_ ?_ (fun _ _ _ _ h=> h.elim)
   ·rintro r x rest _ l tmps asg bdy H₄ _ hx ⟨es3,cl3,S3,rfl,q2,q3,q4,q5⟩ Q St1 cc1 cs1 iP q q';have aC5:=k.rX ht c2 hx;refine U7 ?_;refine Tc.beginRound (i:=0) rfl rfl rfl ?_;refine U ?_;refine Tc.dr [5] [5] mixed rfl ?_;refine V4 0 ?_;refine .z 4 rfl (pA.tk fun H hs=> N7 M H e0 x.1 x.2 oM oM oM oM) ?_;refine .ea 5 rfl (Or.mapUpdate (E:=en) 5 2 rfl rfl rfl rfl rfl rfl rfl dE (rT _) (O1 q2) rfl (fun r hr=> ⟨S2.mk sL (.inl kR),?_⟩));refine .dn ?_;obtain⟨es4,cl4,e4,q6⟩:=q2.put (.bool true) hr;rw[e4];refine U ?_;refine Tc.tB iP (i:=0) rfl (.inl ⟨rfl,rfl⟩) (fun H' hs=> q H' H₄ _ hs ⟨es4,cl4,fun y=> y=e0.hear x.1 x.2\/S3 y,rfl,q6.congr (o7 _ _),fun e=> ?_,q4,q5⟩);rw[q3 e];constructor
    ·rintro(h|⟨y,h1,h2⟩)
     ·exact .inl (.inr h)
     ·rcases List.mem_cons.1 h1 with rfl|h3
      ·exact .inl (.inl h2)
      ·exact .inr ⟨y,h3,h2⟩
    ·rintro((h|h)|⟨y,h1,h2⟩)
     ·exact .inr ⟨x,List.mem_cons_self ..,h⟩
     ·exact .inl h
     ·exact .inr ⟨y,List.mem_cons_of_mem _ h1,h2⟩
   ·rintro r H₄ _ ⟨es3,cl3,S3,rfl,q2,q3,q4,q5⟩;refine Tc.marked ?_;refine U2 ?_;have OD:=ih₂ ⟨(H₄,seen.push me.born,es3,cl3,r::rs2),View.le_trans p1 (View.le_trans OK q5),S3,q2,fun e=> ?_⟩ (by simp only;rw[hp.length_eq];simp)
    ·exact Tc.db OD
    ·have h3:=q3 e;simp only[List.not_mem_nil,false_and,exists_false,or_false] at h3;rw[p3 e,<-h3];constructor
     ·rintro(h|⟨me',h1,e0',h2,y,h4,h5⟩)
      ·exact .inl (.inl h)
      ·rcases List.mem_cons.1 (hp.mem_iff.1 h1) with rfl|h6
       ·rw[BH (h2.symm.trans u2)] at h5;exact .inl (.inr ⟨y,h4,h5⟩)
       ·exact .inr ⟨me',h6,e0',h2,y,h4,h5⟩
     ·rintro((h|⟨y,h4,h5⟩)|⟨me',h6,h7⟩)
      ·exact .inl h
      ·exact .inr ⟨me,hp.mem_iff.2 (List.mem_cons_self ..),e0,u2,y,h4,h5⟩
      ·exact .inr ⟨me',hp.mem_iff.2 (List.mem_cons_of_mem _ h6),h7⟩
  ·have iG:=lG QA;rw[iG] at p3;refine MF ?_;refine Tc.db (R':= [(2,.pt b2),(5,.map (some mo)),(14,.nt n),(15,.iz ((i+1:Nat):Int))]) (L':= [(mo,true,.map es2 cl2)]++([Bb b2 ((k.val A lc B tc).cells.toList) 166]++Mk rs2)) ?_;refine Tc.BO (L₁:=([Bb b2 ((k.val A lc B tc).cells.toList) 166]++Mk rs2)++[(mo,true,.map es2 cl2)]) List.perm_append_comm ?_;refine Tc.lift (L₂:= [Bb b2 ((k.val A lc B tc).cells.toList) 166]++Mk rs2) (L₁:= [(mo,true,.map es2 cl2)]) rfl (fun Hy hy=> ?_);have OD:=ih₁ ⟨(Hy,i+1,mo,es2,cl2,rs2),View.le_trans g1 (View.le_trans p1 hy.base),by simp only;omega,⟨true,hy.get (i:=0) rfl⟩,p2.congr fun kv v=> ?_⟩ Ob
   ·exact Tc.db OD
   ·simp only[List.not_mem_nil,false_and,exists_false,or_false] at p3;unfold dM;simp only[p3]
end
def zJ(S:Int->Prop)(kv v:Value):Prop:=∃z,S z/\kv=.int .i64 z/\v=.bool true
theorem EH(z:Int):zH en 1 3 (.int .i64 z):=⟨_,[.iz z],rfl,rfl,⟨z,rfl⟩⟩
theorem zW(z:Int)(S:Int->Prop)(kv v:Value):zJ (fun x=> x=z\/S x) kv v<->(kv=.int .i64 z/\v=.bool true)\/(kv≠ .int .i64 z/\zJ S kv v):=by
 constructor
 ·rintro⟨x,h1,h2,h3⟩;by_cases hx:x=z
  ·subst hx;exact .inl ⟨h2,h3⟩
  ·refine .inr ⟨fun h=> hx ?_,x,h1.resolve_left hx,h2,h3⟩;rw[h2] at h;simpa using h
 ·rintro(⟨h1,h2⟩|⟨_,x,h1,h2,h3⟩)
  ·exact⟨z,.inl rfl,h1,h2⟩
  ·exact⟨x,.inr h1,h2,h3⟩
theorem QN {es:Array MapEntry}{cl:Nat}{S:Int->Prop}(h:mC es cl (zJ S)):∀e∈es.toList,∃z,S z/\e.key=.int .i64 z/\e.val=.bool true:=fun e he=>
 (h.mem e.key e.val).2 ⟨e,he,rfl,rfl⟩
theorem JF {es:Array MapEntry}{cl:Nat}{S:Int->Prop}(h:mC es cl (zJ S)):∀e∈es.toList,zH en 1 3 e.key:=fun e he=> by
 obtain⟨z,_,h2,_⟩:=QN h e he;rw[h2];exact EH z
def Bk.EY(k:Bk)(z:Int):Prop:=∃e,k.FE k.nt e/\z=sB (k.line e.heard)
section
variable(M:Md prog)(H:View)
theorem GK(k:Bk)(A:Option Addr)(lc:Nat)(B:Option Addr)(tc:Nat)(hA:YC H k A lc)(hl:k.nl<=1000)(hB:jD H k B tc)(ht:k.qD)(h6:k.nt<=6):
  fA M 122 #[k.val A lc B tc] H (fun v H'=> H.le H'/\∃m es cl,v=.map (some m)/\(∃f,H' m=some (f,.map es cl))/\mC es cl (zJ k.EY)):=by
 refine .en func122 ntmps122 fun St c cs hK=> ?_;refine U2 ?_;refine .bo fun b1=> ?_;refine U4 ?_;refine .e (Or.makeMap rfl rfl dE (fun mr=> ?_));refine iD ?_;refine To.YB rfl rfl rfl rfl rfl rfl dE (WB.h (BX M H k A lc B tc hB ht h6 k.nt (Nat.le_refl _))) (fun v H₂ hv=> ?_);obtain⟨hle,m,es,cl,rfl,⟨fm,g3⟩,g4⟩:=hv;refine .e (Or.range (E:=en) (es:=es) (cl:=cl) rfl rfl (fun H hs=> ⟨fm,hs.base _ _ g3⟩) rfl rfl rfl dE (fun it=> ?_));refine U2 ?_;refine Tc.db (Tc.qA (σ:= { s:Array Nat×Array MapEntry×Nat//∃S:Int->Prop,mC s.2.1 s.2.2 (zJ S)/\∀z,k.EY z<->(S z\/∃me∈KD es s.1,∃e0:sH,me.key=e0.val/\z=sB (k.line e0.heard)) })
  (fun s=> ([(1,.pt b1),(3,.map (some mr)),(12,.pt it)],[(it,true,.mapIter (some m) cl s.1.1 cl),(mr,true,.map s.1.2.1 s.1.2.2),Bb b1 ((k.val A lc B tc).cells.toList) 166])) (fun s=> (KD es s.1.1).length) ?_ ⟨(#[],#[],0),fun _=> False,mC.nil.congr (by rintro a b;simp[zJ]),fun z=> by
   rw[rE];constructor
   ·rintro⟨e0,h0,rfl⟩;obtain⟨me,h1,h2,_⟩:=(g4.mem e0.val (.bool true)).1 ⟨e0,h0,rfl,rfl⟩;exact .inr ⟨me,h1,e0,h2,rfl⟩
   ·rintro(h|⟨me,h1,e0,h2,rfl⟩)
    ·exact h.elim
    ·obtain⟨y,h3,h4,_⟩:=iE g4 me h1;rw[BH (h2.symm.trans h4)];exact⟨y,h3,rfl⟩⟩)
 rintro⟨⟨seen,es2,cl2⟩,S,p2,p3⟩ ih;simp only at p2 p3;dsimp only;refine U2 ?_;refine .e (Or.next (es:=es) 0 rfl rfl rfl (fun H hs=> ⟨fm,hs.base _ _ g3⟩) g4.lt rfl dE (fun me he hse=> ?_) (fun QA=> ?_))
 ·have hp :=RH g4.VL he hse;obtain⟨e0,u1,u2,_⟩:=iE g4 me he;have SJ:=zK g4 he;refine U8 ?_;refine .e (Or.entry (es:=es) (e:=me) (st:=me.born) rfl rfl (fun H hs=> ⟨true,hs.get (i:=0) rfl⟩) (fun H hs=> ⟨fm,hs.base _ _ g3⟩) (by simp) SJ rfl dE ?_);rw[u2];refine U ?_;refine .al fun b4=> ?_;refine U7 ?_;refine .cl (fun H hs=> wQ M H k A lc B tc (hA.le (View.le_trans hle hs.base)) hl e0.heard) ?_;refine .e (Or.mapUpdate (E:=en) 2 1 rfl rfl rfl rfl rfl rfl rfl dE (EH _) (JF p2) rfl (fun r hr=> ?_));obtain⟨es4,cl4,e4,q6⟩:=p2.put (.bool true) hr;rw[e4];refine U2 ?_;exact Tc.db (ih ⟨(seen.push me.born,es4,cl4),fun y=> y=sB (k.line e0.heard)\/S y,q6.congr (zW _ _),fun z=> by
   rw[p3 z];constructor
   ·rintro(h|⟨me',h1,e0',h2,h5⟩)
    ·exact .inl (.inr h)
    ·rcases List.mem_cons.1 (hp.mem_iff.1 h1) with rfl|h6
     ·rw[BH (h2.symm.trans u2)] at h5;exact .inl (.inl h5)
     ·exact .inr ⟨me',h6,e0',h2,h5⟩
   ·rintro((h|h)|⟨me',h6,h7⟩)
    ·exact .inr ⟨me,hp.mem_iff.2 (List.mem_cons_self ..),e0,u2,h⟩
    ·exact .inl h
    ·exact .inr ⟨me',hp.mem_iff.2 (List.mem_cons_of_mem _ h6),h7⟩⟩ (by simp only;rw[hp.length_eq];simp))
 ·have iG:=lG QA;rw[iG] at p3;refine iD ?_;refine .rt hK func122 results122 [_] ?_;simp only[List.not_mem_nil,false_and,exists_false,or_false] at p3;exact fun H' hs=> ⟨View.le_trans hle hs.base,mr,es2,cl2,rfl,⟨true,hs.get (i:=1) rfl⟩,p2.congr fun kv v=> by unfold zJ;simp only[p3]⟩
end
set_option maxHeartbeats 4000000
def Bk.BG(k:Bk)(e:sH)(over:Bool):Int:=match k.line e.heard with
 | some i=> (i:Nat)
 | none=> if(e.deaf||over)||(kA (fun i=> XA (k.num i) e.heard) k.nl).isNone then -1 else -2
theorem nH {es:Array MapEntry}{cl:Nat}{S:Int->Prop}(h:mC es cl (zJ S)){z:Int}{t:Bool}(ht:t=true<->S z){r:Option (Nat×Value)}(hr:eL es.toList (.int .i64 z) r):C7 (.bool false) r false=.bool t:=by
 have h1:=h.find hr;cases r with
 | none=>
  cases t with
  | false=> rfl
  | true=> exact(h1 (.bool true) ⟨z,ht.1 rfl,rfl,rfl⟩).elim
 | some p=>
  obtain⟨i,v⟩:=p;obtain⟨y,h2,h3,h4⟩:=h1;have hy:z=y:=by simpa using h3
  subst hy;subst h4;rw[ht.2 h2];rfl
section
variable(M:Md prog)(H:View)
theorem aA6(S:Int->Prop)(z:Int)(m:Nat)(es:Array MapEntry)(cl:Nat)(f:Bool)(hm:H m=some (f,.map es cl))(QC:mC es cl (zJ S))(w:Int)(h:(¬S z/\w=2)\/(S z/\es.size=1/\w=1)\/(S z/\es.size≠1/\w=0)):
  fA M 123 #[.map (some m),.iz z] H (Ib H (.int .i64 w)):=by
 rcases h with ⟨h1,rfl⟩|⟨h1,h2,rfl⟩|⟨h1,h2,rfl⟩
 ·refine .en func123 ntmps123 fun St c cs hK=> ?_;refine iD ?_;refine .x (pA.lookup (E:=en) 1 (es:=es) (v:=.bool false) rfl rfl rfl (fun H hs=> ⟨f,hs.base _ _ hm⟩) rfl rfl rfl dE (EH z) (JF QC) (fun r hr=> nH QC (t:=false) (by simp[h1]) hr)) ?_;refine U8 ?_;refine .rt hK func123 results123 [_] ?_;exact okB
 ·refine .en func123 ntmps123 fun St c cs hK=> ?_;refine iD ?_;refine .x (pA.lookup (E:=en) 1 (es:=es) (v:=.bool true) rfl rfl rfl (fun H hs=> ⟨f,hs.base _ _ hm⟩) rfl rfl rfl dE (EH z) (JF QC) (fun r hr=> nH QC (t:=true) (by simp[h1]) hr)) ?_;refine U7 ?_;refine .x (pA.vL (E:=en) (es:=es) rfl rfl rfl rfl rfl (fun H hs=> ⟨f,hs.base _ _ hm⟩) rfl rfl) ?_;rw[h2];refine U8 ?_;refine .rt hK func123 results123 [_] ?_;exact okB
 ·refine .en func123 ntmps123 fun St c cs hK=> ?_;refine iD ?_;refine .x (pA.lookup (E:=en) 1 (es:=es) (v:=.bool true) rfl rfl rfl (fun H hs=> ⟨f,hs.base _ _ hm⟩) rfl rfl rfl dE (EH z) (JF QC) (fun r hr=> nH QC (t:=true) (by simp[h1]) hr)) ?_;refine U7 ?_;refine .x (pA.vL (E:=en) (es:=es) rfl rfl rfl rfl rfl (fun H hs=> ⟨f,hs.base _ _ hm⟩) rfl rfl) ?_;refine iD ?_;refine .rt hK func123 results123 [_] ?_;exact okB
theorem aBg(e:sH)(b4:Nat)(f:Bool)(hb:H b4=some (f,.cells ⟨e.val.cells.toList⟩ 170 (0,0)))(a num:By)(F:Option Addr)(n fc:Nat):
  fA M 216 #[WK a num F n fc,.pt b4] H (Ib H (.bool (XA num e.heard))):=by
 refine .en func216 ntmps216 fun St c cs hK=> ?_;refine U2 ?_;refine .bo fun b2=> ?_;refine U8 ?_;refine .cl (fun H hs=> ZF M H num e.heard) ?_;refine U2 ?_;refine .rt hK func216 results216 [_] ?_;exact okB
theorem aCQ(k:Bk)(A:Option Addr)(lc:Nat)(B:Option Addr)(tc:Nat)(hA:YC H k A lc)(hl:k.nl<=1000)(e:sH)(over:Bool):
  fA M 129 #[k.val A lc B tc,e.val,.bool over] H (Ib H (.int .i64 (k.BG e over))):=by
 have CK:=fun(H':View) (h':H.le H')=> wQ M H' k A lc B tc (hA.le h') hl e.heard;have hf1:=fun(H':View) (h':H.le H') (fv:Value)=> FZ M H' k A lc (hA.le h') hl fv (fun i=> XA (k.num i) e.heard);cases hk:k.line e.heard with
 | some i=>
  have e1:k.BG e over=(i:Nat):=by unfold Bk.BG;rw[hk]
  rw[e1];rw[hk] at CK;have e2:sB (some i)=(i:Nat):=rfl;rw[e2] at CK;refine .en func129 ntmps129 fun St c cs hK=> ?_;refine U2 ?_;refine .bo fun b3=> ?_;refine .bo fun b4=> ?_;refine U8 ?_;refine .cl (fun H hs=> CK H hs.base) ?_;refine JG ?_;refine .rt hK func129 results129 [_] ?_;exact okB
 | none=>
  rw[hk] at CK;have e2:sB none= -1:=rfl;rw[e2] at CK;obtain⟨df,QJ⟩:∃d,e.deaf=d:=⟨_,rfl⟩
  have ev:e.val=p7 e.heard e.pend df:=by rw[<-QJ];rfl
  cases df with
  | true=>
   have e1:k.BG e over= -1:=by unfold Bk.BG;rw[hk];simp[QJ]
   rw[e1,ev];refine .en func129 ntmps129 fun St c cs hK=> ?_;refine U2 ?_;refine .bo fun b3=> ?_;refine .bo fun b4=> ?_;refine U8 ?_;refine .cl (fun H hs=> CK H hs.base) ?_;refine U31 ?_;refine .rt hK func129 results129 [_] ?_;exact okB
  | false=>
   cases over with
   | true=>
    have e1:k.BG e true= -1:=by unfold Bk.BG;rw[hk];simp
    rw[e1,ev];refine .en func129 ntmps129 fun St c cs hK=> ?_;refine U2 ?_;refine .bo fun b3=> ?_;refine .bo fun b4=> ?_;refine U8 ?_;refine .cl (fun H hs=> CK H hs.base) ?_;refine U31 ?_;refine .rt hK func129 results129 [_] ?_;exact okB
   | false=>
    have ask:∀b4 H₀,H₀ b4=some (true,.cells ⟨(p7 e.heard e.pend false).cells.toList⟩ 170 (0,0))->aAy M H₀ (.func (.func 216) #[] #[.pt b4]) k (fun i=> XA (k.num i) e.heard):=fun b4 H₀ hb i _ F fc H' hle=>
     WB.of (first:= []) (captured:= [_]) aE9 rfl (aBg M H' e b4 true (by rw[ev];exact hle _ _ hb) (k.name i) (k.num i) F (k.nf i) fc)
    cases hq:kA (fun i=> XA (k.num i) e.heard) k.nl with
    | none=>
     have e1:k.BG e false= -1:=by unfold Bk.BG;rw[hk];simp[hq]
     rw[e1,ev];rw[hq,e2] at hf1;refine .en func129 ntmps129 fun St c cs hK=> ?_;refine U2 ?_;refine .bo fun b3=> ?_;refine .bo fun b4=> ?_;refine U8 ?_;refine .cl (fun H hs=> CK H hs.base) ?_;refine o6 ?_;refine .cl (fun H hs=> hf1 H hs.base _ (ask b4 H (hs.get (i:=0) rfl))) ?_;refine U8 ?_;refine .rt hK func129 results129 [_] ?_;exact okB
    | some j=>
     have e1:k.BG e false= -2:=by unfold Bk.BG;rw[hk];simp[hq,QJ]
     rw[e1,ev];rw[hq] at hf1;have e3:sB (some j)=(j:Nat):=rfl;rw[e3] at hf1;refine .en func129 ntmps129 fun St c cs hK=> ?_;refine U2 ?_;refine .bo fun b3=> ?_;refine .bo fun b4=> ?_;refine U8 ?_;refine .cl (fun H hs=> CK H hs.base) ?_;refine o6 ?_;refine .cl (fun H hs=> hf1 H hs.base _ (ask b4 H (hs.get (i:=0) rfl))) ?_;refine U9 ?_;refine .rt hK func129 results129 [_] ?_;exact okB
end
end Go.Proofs.YtldmfjcgjdchcaaGreatDoor
namespace Go.Proofs.YtldmfjcgjdchcaaGreatDoor
open Go.RL Go.Proofs.Tryz
set_option maxRecDepth 10000
theorem tQ {sz off:Nat}{gs:List Value}{v:Value}(h:zE true sz gs off=some v):off+sz<=gs.length/\v=.agg ⟨(gs.drop off).take sz⟩:=by
 unfold zE at h;simp only at h;split at h
 ·rename_i hle
  exact⟨Nat.le_of_ble_eq_true hle,(Option.some.inj h).symm⟩
 ·cases h
theorem uQ {sz off:Nat}{gs:List Value}(h:off+sz<=gs.length):zE true sz gs off=some (.agg ⟨(gs.drop off).take sz⟩):=by
 unfold zE;have:Nat.ble (off+sz) gs.length=true:=Nat.ble_eq_true_of_le h;simp only[this]
section
variable(M:Md prog)(H:View)
theorem xX(a:Option Addr)(m ca:Nat)(l:List Value)(hm:m<=100000)(FJ:RA H 3 (.slice a m ca) m l)(h1:l.all single=true):fA M 218 #[.slice a m ca] H (fun v H'=> H.le H'/\∃g:Gl 68 3,v=g.val/\(g.l=l/\g.n=m)/\∀x∈g.bl,H' x.1=some x.2/\H x.1=none):=by
 refine .en func218 ntmps218 fun St c cs hK=> ?_;cases a with
 | none=>
  refine U8 ?_;refine .x (pA.kO (E:=en) rfl rfl rfl rfl rfl) ?_;refine U6 ?_;refine .rt hK func218 results218 [_] ?_;obtain⟨_,h2,h3|⟨b,off,_,_,_,_,_,h3,_⟩⟩:=FJ
  ·obtain⟨_,_,_,rfl⟩:=h3;have:m=0:=by simp at h2;omega
   subst this;exact fun H' hs'=> ⟨hs'.base,Gl.nil 68 3,rfl,⟨rfl,rfl⟩,by simp[Gl.nil,Gl.bl]⟩
  ·cases h3
 | some a=>
  refine U8 ?_;refine .x (pA.kO (E:=en) rfl rfl rfl rfl rfl) ?_;refine U5 ?_;refine .e (.bs (zz:=fun bs=> ?_));refine U ?_;refine .e (Or.append (E:=en) (g:=Gl.emp 68 3 bs) 0 rfl rfl rfl rfl rfl rfl rfl rfl rfl rfl rfl rfl rfl rfl rfl (fun H' hs'=> FJ.mono hs'.base) h1 (by show 0+m<=_;omega) rfl dE (fun g' hn hl=> ?_));refine U2 ?_;refine .rt hK func218 results218 [_] ?_;exact fun H' hs'=> ⟨hs'.base,g',rfl,⟨by rw[hl];rfl,by rw[hn];show 0+m=m;omega⟩,fun x hx=> ⟨hs'.at_ x hx,hs'.out x hx⟩⟩
end
section
variable(M:Md prog)(H:View)
theorem yX(a:Option Addr)(m ca:Nat)(l:List Value)(hm:m<=100000)(FJ:RA H 4 (.slice a m ca) m l)(h1:l.all single=true):fA M 219 #[.slice a m ca] H (fun v H'=> H.le H'/\∃g:Gl 39 4,v=g.val/\(g.l=l/\g.n=m)/\∀x∈g.bl,H' x.1=some x.2/\H x.1=none):=by
 refine .en func219 ntmps219 fun St c cs hK=> ?_;cases a with
 | none=>
  refine U8 ?_;refine .x (pA.kO (E:=en) rfl rfl rfl rfl rfl) ?_;refine U6 ?_;refine .rt hK func219 results219 [_] ?_;obtain⟨_,h2,h3|⟨b,off,_,_,_,_,_,h3,_⟩⟩:=FJ
  ·obtain⟨_,_,_,rfl⟩:=h3;have:m=0:=by simp at h2;omega
   subst this;exact fun H' hs'=> ⟨hs'.base,Gl.nil 39 4,rfl,⟨rfl,rfl⟩,by simp[Gl.nil,Gl.bl]⟩
  ·cases h3
 | some a=>
  refine U8 ?_;refine .x (pA.kO (E:=en) rfl rfl rfl rfl rfl) ?_;refine U5 ?_;refine .e (.bs (zz:=fun bs=> ?_));refine U ?_;refine .e (Or.append (E:=en) (g:=Gl.emp 39 4 bs) 0 rfl rfl rfl rfl rfl rfl rfl rfl rfl rfl rfl rfl rfl rfl rfl (fun H' hs'=> FJ.mono hs'.base) h1 (by show 0+m<=_;omega) rfl dE (fun g' hn hl=> ?_));refine U2 ?_;refine .rt hK func219 results219 [_] ?_;exact fun H' hs'=> ⟨hs'.base,g',rfl,⟨by rw[hl];rfl,by rw[hn];show 0+m=m;omega⟩,fun x hx=> ⟨hs'.at_ x hx,hs'.out x hx⟩⟩
theorem zX(a:Option Addr)(m ca:Nat)(l:List Value)(hm:m<=100000)(FJ:RA H 1 (.slice a m ca) m l)(h1:l.all single=true):fA M 220 #[.slice a m ca] H (fun v H'=> H.le H'/\∃g:Gl 110 1,v=g.val/\(g.l=l/\g.n=m)/\∀x∈g.bl,H' x.1=some x.2/\H x.1=none):=by
 refine .en func220 ntmps220 fun St c cs hK=> ?_;cases a with
 | none=>
  refine U8 ?_;refine .x (pA.kO (E:=en) rfl rfl rfl rfl rfl) ?_;refine U6 ?_;refine .rt hK func220 results220 [_] ?_;obtain⟨_,h2,h3|⟨b,off,_,_,_,_,_,h3,_⟩⟩:=FJ
  ·obtain⟨_,_,_,rfl⟩:=h3;have:m=0:=by simp at h2;omega
   subst this;exact fun H' hs'=> ⟨hs'.base,Gl.nil 110 1,rfl,⟨rfl,rfl⟩,by simp[Gl.nil,Gl.bl]⟩
  ·cases h3
 | some a=>
  refine U8 ?_;refine .x (pA.kO (E:=en) rfl rfl rfl rfl rfl) ?_;refine U5 ?_;refine .e (.bs (zz:=fun bs=> ?_));refine U ?_;refine .e (Or.append (E:=en) (g:=Gl.emp 110 1 bs) 0 rfl rfl rfl rfl rfl rfl rfl rfl rfl rfl rfl rfl rfl rfl rfl (fun H' hs'=> FJ.mono hs'.base) h1 (by show 0+m<=_;omega) rfl dE (fun g' hn hl=> ?_));refine U2 ?_;refine .rt hK func220 results220 [_] ?_;exact fun H' hs'=> ⟨hs'.base,g',rfl,⟨by rw[hl];rfl,by rw[hn];show 0+m=m;omega⟩,fun x hx=> ⟨hs'.at_ x hx,hs'.out x hx⟩⟩
end
def gJ(a b:Int):Int:=if a=2\/b=2 then 2 else if a=1 then b else 0
section
variable(M:Md prog)(H:View)
theorem aB6(a b:Int):fA M 133 #[.iz a,.iz b] H (Ib H (.int .i64 (gJ a b))):=by
 refine .en func133 ntmps133 fun St c cs hK=> ?_;by_cases c1:a=2
 ·have e:gJ a b=2:=by unfold gJ;simp[c1]
  subst c1;refine fN ?_;refine .rt hK func133 results133 [_] ?_;exact fun H' hs=> ⟨hs.base,by rw[e];rfl⟩
 ·by_cases c2:b=2
  ·have e:gJ a b=2:=by unfold gJ;simp[c2]
   subst c2;refine fN ?_;refine .rt hK func133 results133 [_] ?_;exact fun H' hs=> ⟨hs.base,by rw[e];rfl⟩
  ·by_cases c3:a=1
   ·have e:gJ a b=b:=by unfold gJ;simp[c2,c3]
    subst c3;refine U29 ?_;refine .rt hK func133 results133 [_] ?_;exact fun H' hs=> ⟨hs.base,by rw[e];rfl⟩
   ·have e:gJ a b=0:=by unfold gJ;simp[c1,c2,c3]
    refine U30 ?_;refine .rt hK func133 results133 [_] ?_;exact fun H' hs=> ⟨hs.base,by rw[e];rfl⟩
end
set_option maxHeartbeats 4000000
def KA(n:Nat)(f:Nat->List Value):List Value:=(List.range n).flatMap f
theorem LC(n:Nat)(f:Nat->List Value):KA (n+1) f=KA n f++f n:=by
 unfold KA;rw[List.range_succ,List.flatMap_append];simp
theorem mD {f:Nat->List Value}{sz:Nat}(h:∀i,(f i).length=sz):∀n,(KA n f).length=n*sz
 | 0=> by simp[KA]
 | n+1=> by rw[LC,List.length_append,mD h n,h,Nat.succ_mul]
theorem cF {f g:Nat->List Value}:∀n,(∀i,i<n->f i=g i)->KA n f=KA n g
 | 0,_=> rfl
 | n+1,h=> by rw[LC,LC,cF n (fun i hi=> h i oM),h n oM]
theorem fG {f:Nat->List Value}:∀n i,i<n->∃t,KA n f=KA i f++(f i++t)/\∀g:Nat->List Value,(∀j,j<n->j≠i->g j=f j)->KA n g=KA i f++(g i++t)
 | 0,_,h=> by omega
 | n + 1,i,h=> by
  by_cases e:i=n
  ·subst e;refine⟨[],by rw[LC];simp,fun g hg=> ?_⟩;rw[LC,cF i (fun j hj=> hg j oM oM)];simp
  ·obtain⟨t,h1,h2⟩:=fG (f:=f) n i oM;refine⟨t++f n,by rw[LC,h1];simp,fun g hg=> ?_⟩;rw[LC,h2 g (fun j hj=> hg j oM),hg n oM oM];simp
theorem VP {f:Nat->List Value}{sz:Nat}(h:∀i,(f i).length=sz){n i:Nat}(hi:i<n)(jB:List Value):zE true sz (KA n f++jB) (i*sz)=some (.agg ⟨f i⟩):=by
 obtain⟨t,h1,_⟩:=fG (f:=f) n i hi;rw[h1];have hl:(KA i f).length=i*sz:=mD h i;rw[uQ (by simp only[List.length_append,hl,h i];omega)]
 congr 3
 rw[List.append_assoc,List.append_assoc,List.drop_left' hl,List.take_left' (h i)]
theorem DC {f:Nat->List Value}(h:∀i,(f i).all single=true)(n:Nat):(KA n f).all single=true:=by
 unfold KA;rw[List.all_eq_true];intro x hx;obtain⟨i,_,h2⟩:=List.mem_flatMap.1 hx;exact List.all_eq_true.1 (h i) x h2
def uF(k:Bk)(F:Nat->Option Addr)(fc:Nat->Nat)(i:Nat):List Value:= [bA (k.name i),bA (k.num i),.slice (F i) (k.nf i) (fc i)]
def uB(k:Bk)(i:Nat):List Value:= [.iz (k.pf i),.iz (k.pt i),.iz (k.qf i),.iz (k.qt i)]
def TK(x:Nat->Int)(j:Nat):List Value:= [.iz (x j)]
structure JB(H:View)(k:Bk)(A:Option Addr)(lc:Nat)(B:Option Addr)(tc:Nat)(F:Nat->Option Addr)(fc:Nat->Nat):Prop where
 Y7:k.nl<=lc
 u5:k.nt<=tc
 rows:RA H 3 (.slice A k.nl lc) k.nl (KA k.nl (uF k F fc))
 xC:RA H 4 (.slice B k.nt tc) k.nt (KA k.nt (uB k))
 OX:∀i,i<k.nl->k.nf i<=fc i
 free:∀i,i<k.nl->RA H 1 (.slice (F i) (k.nf i) (fc i)) (k.nf i) (KA (k.nf i) (TK (k.free i)))
theorem JB.le {H H':View}{k:Bk}{A:Option Addr}{lc:Nat}{B:Option Addr}{tc:Nat}{F:Nat->Option Addr}{fc:Nat->Nat}(h:JB H k A lc B tc F fc)(hl:H.le H'):JB H' k A lc B tc F fc:=
 ⟨h.Y7,h.u5,h.rows.mono hl,h.xC.mono hl,h.OX,fun i hi=> (h.free i hi).mono hl⟩
theorem pU {H:View}{sz n c:Nat}{A:Option Addr}{f:Nat->List Value}(hf:∀i,(f i).length=sz)(h:RA H sz (.slice A n c) n (KA n f))(hn:0<n)(h0:0<sz):
  ∃b o g gs gt gz,A=some ⟨b,o,none⟩/\H b=some (g,.cells ⟨gs⟩ gt gz)/\∀i:Nat,i<n->zE true sz gs (o+(i:Int).toNat*sz)=some (.agg ⟨f i⟩):=by
 have hl:=mD hf n;have uI:0<n*sz:=Nat.mul_pos hn h0;obtain⟨_,_,⟨_,_,_,h1⟩|⟨b,o,c',g,gs,gt,gz,h1,h2,h3,h4⟩⟩:=h
 ·rw[h1] at hl;simp at hl
  omega
 ·simp only[Value.slice.injEq] at h1;refine⟨b,o,g,gs,gt,gz,h1.1,h2,fun i hi=> ?_⟩;have h5:=VP hf hi [];rw[List.append_nil] at h5;have h6:=(tQ h5).1;rw[<-h4] at h5;rw[<-h5,Int.toNat_natCast];have h7:i*sz+sz<=(KA n f).length:=h6;rw[uQ oM,uQ (by rw[List.length_take,List.length_drop];omega)]
  congr 3
  rw[List.drop_take,List.take_take,List.drop_drop,Nat.min_eq_left oM]
theorem JB.M9 {H:View}{k:Bk}{A:Option Addr}{lc:Nat}{B:Option Addr}{tc:Nat}{F:Nat->Option Addr}{fc:Nat->Nat}(h:JB H k A lc B tc F fc):YC H k A lc:=by
 refine⟨h.Y7,?_⟩;rcases Nat.eq_zero_or_pos k.nl with h0|h0
 ·exact .inl h0
 ·obtain⟨b,o,g,gs,gt,gz,h1,h2,h3⟩:=pU (f:=uF k F fc) (sz:=3) (fun _=> rfl) h.rows h0 dE;refine .inr ⟨b,o,g,gs,gt,gz,h1,h2,fun i hi=> ⟨F i,fc i,h3 i hi,h.OX i hi,?_⟩⟩;rcases Nat.eq_zero_or_pos (k.nf i) with h4|h4
  ·exact .inl h4
  ·obtain⟨b',o',g',gs',gt',gz',h5,h6,h7⟩:=pU (f:=TK (k.free i)) (sz:=1) (fun _=> rfl) (h.free i hi) h4 dE;refine .inr ⟨b',o',g',gs',gt',gz',h5,h6,fun j hj=> ?_⟩;have h8:=h7 j hj;have h9:=(tQ h8).1;have h10:=(tQ h8).2;show gs'[_]? =_;simp only[Value.agg.injEq,Array.mk.injEq,TK] at h10;have h11:=congrArg (fun l=> l[0]?) h10;simp only[List.getElem?_take,List.getElem?_drop] at h11;simpa using h11.symm
theorem JB.bR {H:View}{k:Bk}{A:Option Addr}{lc:Nat}{B:Option Addr}{tc:Nat}{F:Nat->Option Addr}{fc:Nat->Nat}(h:JB H k A lc B tc F fc):jD H k B tc:=by
 refine⟨h.u5,?_⟩;rcases Nat.eq_zero_or_pos k.nt with h0|h0
 ·exact .inl h0
 ·obtain⟨b,o,g,gs,gt,gz,h1,h2,h3⟩:=pU (f:=uB k) (sz:=4) (fun _=> rfl) h.xC h0 dE;exact .inr ⟨b,o,g,gs,gt,gz,h1,h2,fun i hi=> h3 i hi⟩
def Bk.with(k:Bk)(t:Nat)(x y z w:Int):Bk:=
 { k with pf:=fun i=> if i=t then x else k.pf i,pt:=fun i=> if i=t then y else k.pt i,qf:=fun i=> if i=t then z else k.qf i,qt:=fun i=> if i=t then w else k.qt i }
theorem ZP {e:TypeId}{sz:Nat}(g:Gl e sz):(g.bl.map (·.1)).Nodup:=by
 unfold Gl.bl;split <;> simp
theorem OH(k:Bk)(F:Nat->Option Addr)(fc:Nat->Nat)(i:Nat):(uF k F fc i).all single=true:=rfl
theorem UF(k:Bk)(i:Nat):(uB k i).all single=true:=rfl
theorem xT(x:Nat->Int)(i:Nat):(TK x i).all single=true:=rfl
def addrOf(l:List (Gl 110 1))(F:Nat->Option Addr)(i:Nat):Option Addr:=match l[i]? with
 | some g=> g.blk.map fun b=> ⟨b,0,none⟩
 | none=> F i
def bF(l:List (Gl 110 1))(fc:Nat->Nat)(i:Nat):Nat:=match l[i]? with
 | some g=> g.cap
 | none=> fc i
def GP(l:List (Gl 110 1)):Bl:=l.flatMap Gl.bl
theorem IX {f:Nat->List Value}{sz:Nat}(h:∀i,(f i).length=sz){n i d:Nat}(hi:i<n)(hd:d<sz)(jB:List Value):(KA n f++jB)[i*sz+d]? =(f i)[d]? :=by
 obtain⟨t,h1,_⟩:=fG (f:=f) n i hi;have hl:(KA i f).length=i*sz:=mD h i;rw[h1,List.append_assoc,List.append_assoc,List.getElem?_append_right oM,hl,Nat.add_sub_cancel_left,List.getElem?_append_left (by rw[h i];exact hd)]
theorem B7 {f g:Nat->List Value}{sz:Nat}(h:∀i,(f i).length=sz){n i d:Nat}(hi:i<n)(hd:d<sz)(jB:List Value)(v:Value)(hg:∀j,j<n->j≠i->g j=f j)(hv:g i=(f i).set d v):wH (KA n f++jB) (i*sz+d) [v]=KA n g++jB:=by
 obtain⟨t,h1,h2⟩:=fG (f:=f) n i hi;have hl:(KA i f).length=i*sz:=mD h i;rw[h1,h2 g hg,hv,<-JM _ _ _ _ (by simp only[List.length_append,hl,h i];omega),KM];rw[List.append_assoc,List.append_assoc,List.set_append_right _ _ oM,hl,Nat.add_sub_cancel_left,List.set_append_left _ _ (by rw[h i];exact hd)];simp
theorem iS {f g:Nat->List Value}{sz:Nat}(h:∀i,(f i).length=sz)(h':∀i,(g i).length=sz){n i:Nat}(hi:i<n)(jB:List Value)(hg:∀j,j<n->j≠i->g j=f j):wH (KA n f++jB) (i*sz) (g i)=KA n g++jB:=by
 obtain⟨t,h1,h2⟩:=fG (f:=f) n i hi;have hl:(KA i f).length=i*sz:=mD h i;rw[h1,h2 g hg];unfold wH;rw[List.append_assoc,List.append_assoc,List.append_assoc,List.append_assoc,List.take_left' hl,h' i,<-List.drop_drop,List.drop_left' hl,List.drop_left' (h i)];simp
theorem XQ {H:View}{f:Nat->List Value}{sz n c b:Nat}{fl:Bool}{jB:List Value}{e:TypeId}{fz:Nat×Nat}(h:∀i,(f i).length=sz)(hb:H b=some (fl,.cells ⟨KA n f++jB⟩ e fz)):RA H sz (.slice (some ⟨b,0,none⟩) n c) n (KA n f):=
 ⟨⟨_,_,rfl⟩,mD h n,.inr ⟨b,0,c,fl,_,e,fz,rfl,hb,by simp,by simp⟩⟩
section
variable(M:Md prog)(H:View)
theorem aAu(k:Bk)(A:Option Addr)(lc:Nat)(B:Option Addr)(tc:Nat)(F:Nat->Option Addr)(fc:Nat->Nat)(hB:JB H k A lc B tc F fc)(hn:k.nl<=1000)(oL:k.nt<=1000)(J2:∀i,i<k.nl->k.nf i<=1000)(t:Nat)(ht:t<k.nt)(x y z w:Int):
   fA M 132 #[k.val A lc B tc,.nt t,bE x y z w] H (fun v H'=> H.le H'/\∃A' lc' B' tc' F' fc',v=(k.with t x y z w).val A' lc' B' tc'/\JB H' (k.with t x y z w) A' lc' B' tc' F' fc'):=by
 refine .en func132 ntmps132 fun St c cs hK=> ?_;refine U2 ?_;refine .bo fun b3=> ?_;refine .bo fun b5=> ?_;refine .al fun b6=> ?_;refine U2 ?_;refine Tc.dr [10,13] [2] mixed rfl ?_;refine V3 0 ?_;refine V3 4 ?_;refine .ea 3 rfl (Or.xA Gl.val Gl.bl (fun g:Gl 68 3=> g.l=KA k.nl (uF k F fc)/\g.n=k.nl) rfl rfl rfl rfl rfl dE ZP (fun H₁ OV=> .h (xX M H₁ A k.nl lc _ oM (hB.rows.mono OV.base) (DC (OH k F fc) _))) (fun g hg=> ⟨S2.mk sL (.inr sL),?_⟩));refine .nw 8 ?_;refine .nn 9 ?_;refine .ea 7 rfl (Or.xA Gl.val Gl.bl (fun g:Gl 39 4=> g.l=KA k.nt (uB k)/\g.n=k.nt) rfl rfl rfl rfl rfl dE ZP (fun H₁ OV=> .h (yX M H₁ B k.nt tc _ oM (hB.xC.mono OV.base) (DC (UF k) _))) (fun g2 fQ=> ⟨S2.mk sL (.inr sL),?_⟩));refine .e 10 2 ?_;refine .nw 11 ?_;refine .nw 12 ?_;refine .e 13 2 ?_;refine .dn ?_;obtain⟨gb,gn,gc,gl,gj,JE,XW,hgj,hg0⟩:=g;obtain⟨rfl,rfl⟩:=hg;obtain⟨g2b,g2n,g2c,g2l,g2j,aHR,aFr,aHQ,aGZ⟩:=g2;obtain⟨rfl,rfl⟩:=fQ;cases g2b with
 | none=>
   have:=aGZ rfl;omega
 | some tb =>
   cases gb with
   | none=>
     have h0:=hg0 rfl;have h00:k.nl=0:=by omega
     have f3:Nat.ble (0+((t:Nat):Int).toNat*4+4) (KA k.nt (uB k)++g2j).length=true:=by
       refine Nat.ble_eq_true_of_le ?_;rw[List.length_append,mD (f:=uB k) (sz:=4) (fun _=> rfl),Int.toNat_natCast];omega
     refine iD ?_;refine Tc.db (Tc.qA (σ:=Unit) (fun _=> ([(1,.nt t),(3,.pt b3),(5,.pt b5),(6,.pt b6),(23,.int .i64 (k.nl:Nat)),(24,.iz 0)],
       [Bb b6 [.iz 0,.iz 0,.slice none 0 0,.slice none 0 0] 166,Bb b5 [.iz x,.iz y,.iz z,.iz w] 39,Bb b3 [.iz k.aD,.iz k.yB,.slice none k.nl gc,.sl tb k.nt g2c] 166,Bb tb (KA k.nt (uB k)++g2j) 39])) (fun _=> 0) ?_ ())
     rintro _ ih;show Tc M St _ _ _ _ [(1,.nt t),(3,.pt b3),(5,.pt b5),(6,.pt b6),(23,.int .i64 (k.nl:Nat)),(24,.iz 0)]
       [Bb b6 [.iz 0,.iz 0,.slice none 0 0,.slice none 0 0] 166,Bb b5 [.iz x,.iz y,.iz z,.iz w] 39,Bb b3 [.iz k.aD,.iz k.yB,.slice none k.nl gc,.sl tb k.nt g2c] 166,Bb tb (KA k.nt (uB k)++g2j) 39] _ _
     clear ih;rw[show((k.nl:Nat):Int)=0 by rw[h00];rfl];refine o6 ?_;refine .rt hK func132 results132 [_] ?_;refine fun H' hs'=> ⟨hs'.base,none,gc,some ⟨tb,0,none⟩,g2c,F,fc,rfl,XW,aFr,?_,?_,fun i hi=> ?_,fun i hi=> ?_⟩
     · show RA H' 3 (.slice none k.nl gc) k.nl (KA k.nl (uF k F fc));rw[h00];exact⟨⟨_,_,rfl⟩,rfl,.inl ⟨none,gc,rfl,rfl⟩⟩
     · have aC:wH (KA k.nt (uB k)++g2j) (0+((t:Nat):Int).toNat*4) [.iz x,.iz y,.iz z,.iz w]=KA k.nt (uB (k.with t x y z w))++g2j:=by
         rw[Nat.zero_add,Int.toNat_natCast];have h1:=iS (f:=uB k) (g:=uB (k.with t x y z w)) (sz:=4) (fun _=> rfl) (fun _=> rfl) ht g2j (fun i _ hi=> by simp[uB,Bk.with,hi]);rw[<-h1];simp[uB,Bk.with]
       have h2:H' tb=some (true,.cells ⟨KA k.nt (uB (k.with t x y z w))++g2j⟩ 39 (0,0)):=by
         rw[<-aC];exact hs'.get (i:=3) rfl
       exact XQ (f:=uB (k.with t x y z w)) (sz:=4) (n:=k.nt) (c:=g2c) (b:=tb) (fun _=> rfl) h2
     · have BU:i<k.nl:=hi;omega
     · have BU:i<k.nl:=hi;omega
   | some lb =>
     refine iD ?_;refine Tc.db (Tc.qA (σ:= { l:List (Gl 110 1)//l.length<=k.nl/\∀i g,l[i]? =some g->g.l=KA (k.nf i) (TK (k.free i))/\g.n=k.nf i })
       (fun l=> ([(1,.nt t),(3,.pt b3),(5,.pt b5),(6,.pt b6),(23,.int .i64 (k.nl:Nat)),(24,.nt l.1.length)],
         [Bb b6 [.iz 0,.iz 0,.slice none 0 0,.slice none 0 0] 166,Bb b5 [.iz x,.iz y,.iz z,.iz w] 39,Bb b3 [.iz k.aD,.iz k.yB,.sl lb k.nl gc,.sl tb k.nt g2c] 166,
           (lb,true,.cells ⟨KA k.nl (uF k (addrOf l.1 F) (bF l.1 fc))++gj⟩ 68 (0,0)),Bb tb (KA k.nt (uB k)++g2j) 39]++GP l.1)) (fun l=> k.nl-l.1.length) ?_ ⟨[],Nat.zero_le _,by simp⟩)
     rintro⟨l,hll,hlg⟩ ih;show Tc M St _ _ _ _ [(1,.nt t),(3,.pt b3),(5,.pt b5),(6,.pt b6),(23,.int .i64 (k.nl:Nat)),(24,.nt l.length)]
         ([Bb b6 [.iz 0,.iz 0,.slice none 0 0,.slice none 0 0] 166,Bb b5 [.iz x,.iz y,.iz z,.iz w] 39,Bb b3 [.iz k.aD,.iz k.yB,.sl lb k.nl gc,.sl tb k.nt g2c] 166,
           (lb,true,.cells ⟨KA k.nl (uF k (addrOf l F) (bF l fc))++gj⟩ 68 (0,0)),Bb tb (KA k.nt (uB k)++g2j) 39]++GP l) _ _
     by_cases c1:l.length=k.nl
     · have f3:Nat.ble (0+((t:Nat):Int).toNat*4+4) (KA k.nt (uB k)++g2j).length=true:=by
         refine Nat.ble_eq_true_of_le ?_;rw[List.length_append,mD (f:=uB k) (sz:=4) (fun _=> rfl),Int.toNat_natCast];omega
       rw[c1];refine o6 ?_;refine .rt hK func132 results132 [_] ?_;refine fun H' hs'=> ⟨hs'.base,some ⟨lb,0,none⟩,gc,some ⟨tb,0,none⟩,g2c,addrOf l F,bF l fc,rfl,XW,aFr,?_,?_,fun i hi=> ?_,fun i hi=> ?_⟩
       · exact XQ (f:=uF k (addrOf l F) (bF l fc)) (sz:=3) (n:=k.nl) (c:=gc) (b:=lb) (fun _=> rfl) (hs'.get (i:=3) rfl)
       · have aC:wH (KA k.nt (uB k)++g2j) (0+((t:Nat):Int).toNat*4) [.iz x,.iz y,.iz z,.iz w]=KA k.nt (uB (k.with t x y z w))++g2j:=by
           rw[Nat.zero_add,Int.toNat_natCast];have h1:=iS (f:=uB k) (g:=uB (k.with t x y z w)) (sz:=4) (fun _=> rfl) (fun _=> rfl) ht g2j (fun i _ hi=> by simp[uB,Bk.with,hi]);rw[<-h1];simp[uB,Bk.with]
         have h2:H' tb=some (true,.cells ⟨KA k.nt (uB (k.with t x y z w))++g2j⟩ 39 (0,0)):=by
           rw[<-aC];exact hs'.get (i:=4) rfl
         exact XQ (f:=uB (k.with t x y z w)) (sz:=4) (n:=k.nt) (c:=g2c) (b:=tb) (fun _=> rfl) h2
       · have hil:i<l.length:=by rw[c1];exact hi
         have h1:l[i]? =some l[i]:=List.getElem?_eq_getElem hil;have h2:=hlg i _ h1;show k.nf i<=bF l fc i;unfold bF;rw[h1];have:=(l[i]).hc;simp only;omega
       · have hil:i<l.length:=by rw[c1];exact hi
         have h1:l[i]? =some l[i]:=List.getElem?_eq_getElem hil;have h2:=hlg i _ h1;have h3:=(l[i]).src (H:=H') (fun y hy=> hs'.at_ y (by have h0:y∈GP l:=List.mem_flatMap.2 ⟨_,List.getElem_mem hil,hy⟩;simp[h0]));rw[h2.1,h2.2] at h3;show RA H' 1 (.slice (addrOf l F i) (k.nf i) (bF l fc i)) (k.nf i) (KA (k.nf i) (TK (k.free i)));have h4:Gl.val l[i]=.slice (addrOf l F i) (k.nf i) (bF l fc i):=by
           unfold addrOf bF;rw[h1,<-h2.2];rfl
         rw[<-h4];exact h3
     · have c2:l.length<k.nl:=by omega
       have f1:zE false 1 (KA k.nl (uF k (addrOf l F) (bF l fc))++gj) (0+((l.length:Nat):Int).toNat*3+2)=some (.slice (F l.length) (k.nf l.length) (fc l.length)):=by
         show _[_]? =_;rw[Nat.zero_add,Int.toNat_natCast,IX (f:=uF k (addrOf l F) (bF l fc)) (sz:=3) (d:=2) (fun _=> rfl) c2 dE];simp[uF,addrOf,bF]
       have f2:Nat.ble (0+((l.length:Nat):Int).toNat*3+2+1) (KA k.nl (uF k (addrOf l F) (bF l fc))++gj).length=true:=by
         refine Nat.ble_eq_true_of_le ?_;rw[List.length_append,mD (f:=uF k (addrOf l F) (bF l fc)) (sz:=3) (fun _=> rfl),Int.toNat_natCast];omega
       refine MF ?_;refine Tc.dr [14] [3] mixed rfl ?_;refine V11 0 ?_;refine .ea 11 rfl (Or.xA Gl.val Gl.bl (fun g:Gl 110 1=> g.l=KA (k.nf l.length) (TK (k.free l.length))/\g.n=k.nf l.length) rfl rfl rfl rfl rfl dE ZP (fun H₁ OV=> .h (zX M H₁ (F l.length) (k.nf l.length) (fc l.length) _ (by have:=J2 _ c2;omega) ((hB.free _ c2).mono OV.base) (DC (xT (k.free l.length)) _))) (fun g hg=> ⟨S2.mk sL (.inr sL),?_⟩));refine .nw 12 ?_;refine .nn 13 ?_;refine .e 14 3 ?_;refine .dn ?_;refine U5 ?_;have aC:wH (KA k.nl (uF k (addrOf l F) (bF l fc))++gj) (0+((l.length:Nat):Int).toNat*3+2) (Gl.val g).cells.toList=KA k.nl (uF k (addrOf (l++[g]) F) (bF (l++[g]) fc))++gj:=by
         rw[Nat.zero_add,Int.toNat_natCast];refine B7 (f:=uF k (addrOf l F) (bF l fc)) (sz:=3) (d:=2) (fun _=> rfl) c2 dE gj (Gl.val g) (fun i _ hi=> ?_) ?_
         · by_cases h1:i<l.length
           · simp only[uF,addrOf,bF,List.getElem?_append_left h1]
           · simp only[uF,addrOf,bF];rw[List.getElem?_eq_none (by simp;omega),List.getElem?_eq_none oM]
         · simp only[uF,addrOf,bF,List.getElem?_concat_length];rw[<-hg.2];rfl
       have vJ:GP (l++[g])=GP l++g.bl:=by simp[GP]
       refine Tc.yC (ih ⟨l++[g],by simp;omega,fun i g' hi=> ?_⟩ (by simp;omega)) ?_ ?_
       · by_cases h1:i<l.length
         · rw[List.getElem?_append_left h1] at hi;exact hlg i g' hi
         · by_cases h2:i=l.length
           · subst h2;rw[List.getElem?_concat_length] at hi;cases hi
             exact hg
           · rw[List.getElem?_eq_none (by simp;omega)] at hi;cases hi
       · refine⟨rfl,rfl,rfl,rfl,rfl,?_,trivial⟩;have hlen:(((l++[g]).length:Nat):Int)=(l.length:Nat)+1:=by simp
         show _=some (Value.int .i64 (((l++[g]).length:Nat):Int));rw[hlen];rfl
       · show List.Sublist (_++GP (l++[g])) _;rw[vJ,<-aC,<-List.append_assoc];exact List.Sublist.refl _
end
end Go.Proofs.YtldmfjcgjdchcaaGreatDoor
namespace Go.Proofs.YtldmfjcgjdchcaaGreatDoor
open Go.RL Go.Proofs.Tryz
set_option maxRecDepth 10000
def Bk.YG(k:Bk):Nat->List sH
 | 0=> [⟨[],0,false⟩]
 | i+1=> (k.YG i).flatMap fun e=> (k.can i).map fun x=> e.hear x.1 x.2
theorem Bk.CD(k:Bk):∀n e,e∈k.YG n<->k.FE n e
 | 0,e=> by simp[Bk.YG,Bk.FE]
 | n + 1,e=> by
  simp only[Bk.YG,Bk.FE,List.mem_flatMap,List.mem_map];constructor
  ·rintro⟨e0,h0,x,hx,rfl⟩;exact⟨e0,(k.CD n e0).1 h0,x,hx,rfl⟩
  ·rintro⟨e0,h0,x,hx,rfl⟩;exact⟨e0,(k.CD n e0).2 h0,x,hx,rfl⟩
def distinct:List Int->List Int
 | []=> []
 | x::t=> if x∈distinct t then distinct t else x::distinct t
theorem lE {x:Int}:∀l:List Int,x∈distinct l<->x∈l
 | []=> Iff.rfl
 | y ::t=> by
  unfold distinct;split
  ·rename_i h
   rw[List.mem_cons,lE t];constructor
   ·exact .inr
   ·rintro(rfl|h')
    ·exact(lE t).1 h
    ·exact h'
  ·rw[List.mem_cons,List.mem_cons,lE t]
theorem sF:∀l:List Int,(distinct l).Nodup
 | []=> List.nodup_nil
 | y ::t=> by
  unfold distinct;split
  ·exact sF t
  ·rename_i h
   exact List.nodup_cons.2 ⟨h,sF t⟩
def Bk.iU(k:Bk):List Int:=distinct ((k.YG k.nt).map fun e=> sB (k.line e.heard))
theorem Bk.gW(k:Bk)(z:Int):z∈k.iU<->k.EY z:=by
 unfold Bk.iU Bk.EY;rw[lE,List.mem_map];constructor
 ·rintro⟨e,h,rfl⟩;exact⟨e,(k.CD _ e).1 h,rfl⟩
 ·rintro⟨e,h,rfl⟩;exact⟨e,(k.CD _ e).2 h,rfl⟩
theorem RN {es:Array MapEntry}{cl:Nat}{S:Int->Prop}(h:mC es cl (zJ S)){l:List Int}(hl:l.Nodup)(hS:∀z,z∈l<->S z):es.size=l.length:=by
 have hp:(es.toList.map (·.key)).Perm (l.map fun z=> Value.int .i64 z):=by
  rw[List.perm_ext_iff_of_nodup h.keys (List.Pairwise.map _ (fun a b AR=> by simpa using AR) hl)];intro x;rw[List.mem_map,List.mem_map];constructor
  ·rintro⟨e,he,rfl⟩;obtain⟨z,h1,h2,_⟩:=QN h e he;exact⟨z,(hS z).2 h1,h2.symm⟩
  ·rintro⟨z,hz,rfl⟩;obtain⟨e,he,h2,_⟩:=(h.mem (.int .i64 z) (.bool true)).1 ⟨z,(hS z).1 hz,rfl,rfl⟩;exact⟨e,he,h2⟩
 have:=hp.length_eq;simpa using this
theorem Bk.OQ {k:Bk}{es:Array MapEntry}{cl:Nat}(h:mC es cl (zJ k.EY)):es.size=k.iU.length:=RN h (sF _) k.gW
end Go.Proofs.YtldmfjcgjdchcaaGreatDoor
namespace Go.RL
open Go.Conc
section
variable {P:Program}{M:Md P}{St:View->Goroutine->Prop}{n:Nat}{b:FB}{H₀ H₁:View}{cs:List Frame}{R:Rg}{L:Bl}{ds:List Deferred}{k:List Item}{md:Region.Mode}{ops:Array Oper}
theorem S2.bP {B:List Nat}{Ls Lb L₁:Bl}{listed:Array Bool}(hle:H₀.le H₁)(h1:Ls.Sublist L₁)(h2:(B.all fun j=> !(listed.getD j true))=false\/Lb.Sublist L₁):∀H,jA H₁ L₁ H->S2 H₀ B Ls Lb listed H:=fun H hs=> S2.mk h1 h2 H (hs.lower hle)
theorem Ta.WL(i:Nat){B:List Nat}{Hs:View}{Ls Lb:Bl}{o:Oper}{d:Nat}{fuel:Nat}{listed:Array Bool}{cl:Go.Call}{x:Operand}{fv:Value}{az:List Value}(hr:Region.ready md ops listed= [i])(hi:ops[i]? =some o)
  (hw:TA (ops.toList.map (fun o:Oper=> o.dst)) R o=some true) (lA:o.op=.call cl) (iB:cl.callee=.value x) (hx:JA R x=some fv) (has:lD R cl.args.toList=some az) (hd:o.dst=some d) (hn:d<n)
  {Q:Value->View->Prop} (hc:WB M fv az H₀ Q) (hle:∀v H₁,Q v H₁->Hs.le H₁) (h1:Ls.Sublist L) (h2:(B.all fun j=> !((listed.setIfInBounds i true).getD j true))=false\/Lb.Sublist L)
  (hk:∀v H₁,Q v H₁->Ta M St n b H₁ cs (S2 Hs B Ls Lb) md ops fuel (listed.setIfInBounds i true) ((d,v)::R) L ds k):
  Ta M St n b H₀ cs (S2 Hs B Ls Lb) md ops (fuel+1) listed R L ds k:=fun H tmps hs XD _ H₂ h2' _=> by
 have hs:=hs.mono h2';refine⟨fun e=> (by rw[hr] at e;cases e),fun j hj o' pP=> ?_⟩;rw[hr] at hj;have:j=i:=by simpa using hj
 subst this;rw[hi] at pP;cases pP
 refine⟨(by rw[lA];rfl),?_⟩;have YZ:Region.wanted o (yielded ops tmps)=true:=rB (fun j=> by
  simp only[List.getElem?_map,Array.getElem?_toList];cases ops[j]? <;> rfl) XD hw
 rw[if_pos YZ];obtain⟨F,rfl,Y4,hF⟩:=hs.split;have e1:=XD.ev hx;have cH:cl.args.map (OB tmps)=az.toArray:=by
  apply Array.ext'
  simpa using XD.evs has
 have hex:execOp (OB tmps) o=(Deferred.ofValue fv az.toArray).bind fun d=> invoke d.target d.args:=by
  have h1:execOp (OB tmps) o=(resolve (OB tmps) cl o.type).bind fun d=> invoke d.target d.args:=by unfold execOp;rw[lA];rfl
  rw[h1];unfold resolve;rw[iB];simp only[e1,cH]
 unfold pF;rw[hex];have fin:∀v H'',TH F Q v H''->S2 Hs B Ls Lb (listed.setIfInBounds j true) H''/\GJ M md ops (S2 Hs B Ls Lb) (fun tmps H=> T M St H (G (b.at tmps ds k) cs)) fuel (listed.setIfInBounds j true) (HB tmps o.dst v) H'':=by
  rintro v H'' ⟨H₁,rfl,nL,hq⟩;have NT:jA H₁ L (H₁.plus F):=.DN hs.nodup hF nL;have hS:S2 Hs B Ls Lb (listed.setIfInBounds j true) (H₁.plus F):=S2.bP (hle v H₁ hq) h1 h2 _ NT;refine⟨hS,?_⟩;rw[hd];exact hk v H₁ hq _ _ NT (XD.put hn v) hS
 refine VA _ (fun nx H' nP=> ?_) (hc.frame Y4);cases nx <;> first
  | exact nP.elim
  | exact fA.mono nP fin
  | exact VM.mono nP fin
theorem Tc.drE {id:Nat}{fuel:Nat}(B E E':List Nat)(hm:P.follows .mixedOrders=true)(hf:ops.size=fuel)(h:Ta M St n b H₀ cs (S2 H₀ B (aI L E) (aI L E')) .any ops fuel (Array.replicate fuel false) R L ds k):
  Tc M St n b H₀ cs R L ds (.code (.region id ops true)::k):=fun H tmps hs hr=> by
 subst hf;refine .ZD fun t=> ?_;simp only[Region.schedule,hm,Bool.true_or,if_true];have hS:=S2.mk (H₀:=H₀) (B:=B) (listed:=Array.replicate ops.size false) (YE E L) (.inr (YE E' L)) H hs;exact(h H tmps hs hr hS).sound _ t _ _ _ hS
end
end Go.RL
namespace Go.Proofs.YtldmfjcgjdchcaaGreatDoor
open Go.RL Go.Proofs.Tryz
set_option maxRecDepth 10000
set_option maxHeartbeats 16000000
def Bk.nE(k:Bk)(d:Nat):Int:=if d=0 then 0 else if d=1 then k.aD else k.yB
def Bk.vQ(k:Bk)(t:Nat)(x:Nat×Nat):Nat:=(k.with t x.1 x.1 (k.nE x.2) (k.nE x.2)).iU.length
def Bk.left(k:Bk)(t:Nat):Nat:=(k.can t).foldl (fun m x=> max m (k.vQ t x)) 0
theorem Bk.aDa {k:Bk}(QC:k.qD)(hg1:0<=k.aD/\k.aD<=99)(fQ:0<=k.yB/\k.yB<=99){t:Nat}{x:Nat×Nat}(h1:1<=x.1)(h2:x.1<=12):(k.with t x.1 x.1 (k.nE x.2) (k.nE x.2)).qD:=fun i hi=> by
 have h3:=QC i hi;have hp:0<=k.nE x.2/\k.nE x.2<=99:=by
  unfold Bk.nE;split
  ·omega
  ·split <;> omega
 simp only[Bk.with];split
 ·unfold vB;simp only[Bool.and_eq_true,decide_eq_true_eq];omega
 ·exact h3
section
variable(M:Md prog)(H:View)
theorem aDb(k:Bk)(A:Option Addr)(lc:Nat)(B:Option Addr)(tc:Nat)(F:Nat->Option Addr)(fc:Nat->Nat)(hB:JB H k A lc B tc F fc)(hn:k.nl<=1000)(J2:∀i,i<k.nl->k.nf i<=1000)(QC:k.qD)(h6:k.nt<=6)(hg1:0<=k.aD/\k.aD<=99)(fQ:0<=k.yB/\k.yB<=99)(t:Nat)(ht:t<k.nt):
  fA M 127 #[k.val A lc B tc,.nt t] H (Ib H (.int .i64 (k.left t:Nat))):=by
 have hT:=hB.bR;have htr:=k.yF QC ht;refine .en func127 ntmps127 fun St c cs hK=> ?_;refine U2 ?_;refine .bo fun b2=> ?_;refine .bo fun b3=> ?_;refine ND ?_;refine .al fun b5=> ?_;refine U4 ?_;refine .al fun b6=> ?_;refine U7 ?_;refine To.YB rfl rfl rfl rfl rfl rfl dE (WB.h (aCc M H k A lc B tc hT t ht)) (fun v H₁ hv=> ?_);obtain⟨lM,c5,c2,rfl,BC⟩:=hv;refine U ?_;have CJ:=fun(H':View) (hc:bN (bE (k.pf t) (k.pt t) (k.qf t) (k.qt t)) (k.val A lc B tc) c5 c2 H')=> L6 M H' k A lc B tc t (k.pf t).toNat (k.pt t).toNat _ _ oM oM oM rfl rfl (k.sM _) c5 c2 hc;refine U ?_;refine Tc.db (R':= [(2,.pt b2),(3,.pt b3),(5,.pt b5),(6,.pt b6),(18,aCC c5 c2)]) (L':= [Bb b6 [.iz ((0:Nat):Int)] 3,Bb b5 [.iz 0,.iz k.aD,.iz k.yB] 315,Bb b3 [.nt t] 3,Bb b2 ((k.val A lc B tc).cells.toList) 166]) ?_;refine Tc.PN (A:= []) (ts:= [19,20]) (xs:=k.can t) (fun rest H₄ L₄=> ∃m:Nat,L₄= [Bb b6 [.iz (m:Int)] 3,Bb b5 [.iz 0,.iz k.aD,.iz k.yB] 315,Bb b3 [.nt t] 3,Bb b2 ((k.val A lc B tc).cells.toList) 166]
   /\rest.foldl (fun m x=> max m (k.vQ t x)) m=k.left t/\bN (bE (k.pf t) (k.pt t) (k.qf t) (k.qt t)) (k.val A lc B tc) c5 c2 H₄/\H₁.le H₄) (fun _ _ _=> False) rfl rfl rfl rfl CJ (fun _ _=> bN.le _ _) (fun _ _ _ ⟨_,_,_,h,_⟩=> h) rfl (fun _ _=> rfl)
   ⟨0,rfl,rfl,BC,View.le_refl _⟩ ?_ ?_ (fun _ _ _ _ h=> h.elim)
 ·rintro r x rest _ l tmps asg bdy H₄ _ hx ⟨m,rfl,q2,q3,q4⟩ Q St1 cc1 cs1 iP q q';have aC5:=k.rX QC ht hx;have y8:=(vM.1 hx).1.1;have QV:1<=x.1:=by omega
  obtain⟨n,d⟩:=x;have aFB:=k.aDa QC hg1 fQ (t:=t) QV aC5.1;simp only at aC5 y8 QV aFB q2;have f1:zE false 1 [Value.int .i64 0,.iz k.aD,.iz k.yB] (0+((d:Nat):Int).toNat*1)=some (.int .i64 (k.nE d)):=by
   rcases(by omega:d=0\/d=1\/d=2) with rfl|rfl|rfl <;> rfl
  refine U7 ?_;refine Tc.beginRound (i:=0) rfl rfl rfl ?_;refine U ?_;refine Tc.dr [14] [2] mixed rfl ?_;refine V4 0 ?_;refine .z 4 rfl (pA.tk fun H hs=> vS M H (n:Nat)) ?_;refine V3 5 ?_;refine .z 8 rfl (pA.tk fun H hs=> vS M H (k.nE d)) ?_;refine .nn 9 ?_;refine Ta.WL 10 kR rfl rfl rfl rfl rfl rfl rfl dE (WB.h (aAu M H₄ k A lc B tc F fc (hB.le (View.le_trans lM q4)) hn oM J2 t ht (n:Nat) (n:Nat) (k.nE d) (k.nE d))) (by intro _ _ hh;exact hh.1) sL (.inr sL) (fun v5 H₅ hv5=> ?_);obtain⟨FT,A',lc',B',tc',F',fc',rfl,hB'⟩:=hv5;refine Ta.WL 11 kR rfl rfl rfl rfl rfl rfl rfl dE (WB.h (GK M H₅ (k.with t (n:Nat) (n:Nat) (k.nE d) (k.nE d)) A' lc' B' tc' hB'.M9 hn hB'.bR aFB h6)) (by intro _ _ hh;exact View.le_trans (by assumption) hh.1) sL (.inr sL) (fun v6 H₆ hv6=> ?_);have aCg:H₄.le H₆:=View.le_trans FT hv6.1;obtain⟨aCX,m',es,cl,rfl,⟨fm,g5⟩,g6⟩:=hv6;have hz:(if((es.size:Nat):Int)>(m:Int) then((es.size:Nat):Int) else(m:Int))=((max m (k.vQ t (n,d)):Nat):Int):=by
   have h1:=Bk.OQ g6;have h2:k.vQ t (n,d)=es.size:=h1.symm;rw[h2];split <;> omega
  refine .ea 12 rfl (Or.uS (pA.vL (E:=en) (es:=es) rfl rfl rfl rfl rfl (fun H hs=> ⟨fm,hs.base _ _ g5⟩) rfl rfl) rfl dE ⟨S2.bP (by assumption) sL (.inr sL),?_⟩);refine .ea 13 rfl (Or.uS (pA.max rfl rfl rfl rfl rfl rfl (by assumption)) rfl dE ⟨S2.bP (by assumption) sL (.inr sL),?_⟩);refine .ea 14 rfl (.st 2 (zz:=⟨S2.bP (by assumption) sL (.inl kR),?_⟩));refine .dn ?_;refine U ?_;refine Tc.tB iP (i:=0) rfl (.inl ⟨rfl,rfl⟩) (fun H' hs=> q H' H₆ _ hs ⟨max m (k.vQ t (n,d)),rfl,q2,bN.le _ _ aCg q3,View.le_trans q4 aCg⟩)
 ·rintro r H₄ _ ⟨m,rfl,q2,q3,q4⟩;have q5:m=k.left t:=q2;subst q5;refine U6 ?_;refine Tc.A4 (E:=en) (i:=0) hK func127 results127 (vs:= [_]) rfl ⟨rfl,trivial⟩ ?_;exact fun H' hs=> ⟨View.le_trans lM (View.le_trans q4 hs.base),rfl⟩
end
def Bk.ZG(k:Bk)(n:Nat):Option Int:=match distinct ((k.YG n).map fun e=> k.BG e (decide (n=k.nt))) with
 | [f]=> if f= -2 then none else some f
 | _=> none
def Bk.qE(k:Bk):Nat->Option (Nat×Int)
 | 0=> none
 | n+1=> (k.qE n).or ((k.ZG n).map fun f=> (n,f))
def Bk.settled(k:Bk):Option (Nat×Int):=k.qE (k.nt+1)
theorem Bk.cP {k:Bk}{j:Nat}{x:Nat×Int}(h:k.qE j=some x):∀m,j<=m->k.qE m=some x:=by
 intro m hm;induction m with
 | zero=>
  have:j=0:=by omega
  subst this;exact h
 | succ m ih=>
  by_cases e:j=m+1
  ·subst e;exact h
  ·rw[Bk.qE,ih oM];rfl
theorem oT {l:List Int}{z:Int}(h0:z∈l)(h:∀y∈l,y=z):distinct l= [z]:=by
 have hm:∀y,y∈distinct l<->y∈l:=fun y=> lE l;have hn:=sF l;cases hd:distinct l with
 | nil=>
  have:=(hm z).2 h0;rw[hd] at this;cases this
 | cons a t=>
  rw[hd] at hm hn;have ha:a=z:=h a ((hm a).1 (List.mem_cons_self ..));cases t with
  | nil=> rw[ha]
  | cons b t'=>
   have hb:b=z:=h b ((hm b).1 (by simp));rw[ha,hb] at hn;simp at hn
theorem Bk.uV {k:Bk}{n:Nat}{f:Int}(hf:f≠ -2){e0:sH}(h0:k.FE n e0)(h:∀e,k.FE n e->k.BG e (decide (n=k.nt))=f):k.ZG n=some f:=by
 unfold Bk.ZG;rw[oT (z:=f)]
 ·simp only;rw[if_neg hf]
 ·exact List.mem_map.2 ⟨e0,(k.CD n e0).2 h0,h e0 h0⟩
 ·intro y hy;obtain⟨e,he,rfl⟩:=List.mem_map.1 hy;exact h e ((k.CD n e).1 he)
theorem Bk.SP {k:Bk}{n:Nat}{f:Int}(h:k.ZG n=some f):f≠ -2/\∀e,k.FE n e->k.BG e (decide (n=k.nt))=f:=by
 unfold Bk.ZG at h;split at h
 ·rename_i g hg
  split at h
  ·cases h
  ·rename_i aB
   cases h
   refine⟨aB,fun e he=> ?_⟩;have:=(lE _).2 (List.mem_map.2 ⟨e,(k.CD n e).2 he,rfl⟩:k.BG e (decide (n=k.nt))∈(k.YG n).map fun e=> k.BG e (decide (n=k.nt)));rw[hg] at this;simpa using this
 ·cases h
theorem Bk.vT {k:Bk}{n:Nat}{e e':sH}(h:k.FE n e)(h':k.FE n e')(aB:k.BG e (decide (n=k.nt))≠k.BG e' (decide (n=k.nt))):k.ZG n=none:=by
 cases hq:k.ZG n with
 | none=> rfl
 | some f=>
  obtain⟨_,h2⟩:=Bk.SP hq;exact(aB ((h2 e h).trans (h2 e' h').symm)).elim
theorem Bk.uT {k:Bk}{n:Nat}{e:sH}(h:k.FE n e)(aB:k.BG e (decide (n=k.nt))= -2):k.ZG n=none:=by
 cases hq:k.ZG n with
 | none=> rfl
 | some f=>
  obtain⟨h1,h2⟩:=Bk.SP hq;exact(h1 ((h2 e h).symm.trans aB)).elim
theorem Bk.gS(k:Bk)(QC:k.qD):∀n,n<=k.nt->∃e,k.FE n e
 | 0,_=> ⟨_,rfl⟩
 | n + 1,hn=> by
  obtain⟨e0,h0⟩:=k.gS QC n oM;obtain⟨h1,h2,h3⟩:=k.yF QC (i:=n) oM;refine⟨_,e0,h0,((k.pf n).toNat,k.kind (k.qf n)),vM.2 ⟨⟨Nat.le_refl _,oM⟩,Nat.le_refl _,?_⟩,rfl⟩;simp only;unfold Bk.kind;split
  ·omega
  ·split
   ·split
    ·omega
    ·split <;> omega
   ·split
    ·omega
    ·split
     ·omega
     ·omega
theorem Bk.x6 {k:Bk}(h:k.WA=0):k.oE=0/\k.AE=0/\k.yD=0:=by
 unfold Bk.WA at h;split at h
 ·rename_i h1
  split at h
  ·rename_i h2
   exact⟨h1,h2,h⟩
  ·rename_i h2
   exact(h2 h).elim
 ·rename_i h1
  exact(h1 h).elim
theorem RB {p:Nat->Bool}:∀n,kA p n=none<->∀i,i<n->p i=false
 | 0=> ⟨fun _ i hi=> by omega,fun _=> rfl⟩
 | n + 1 => by
  rw[kA];constructor
  ·intro h i hi;cases hq:kA p n with
   | some j=> rw[hq] at h;cases h
   | none=>
    rw[hq] at h;by_cases e:i=n
    ·subst e;cases hp:p i with
     | false=> rfl
     | true=> rw[hp] at h;cases h
    ·exact(RB n).1 hq i oM
  ·intro h;rw[(RB n).2 (fun i hi=> h i oM),h n oM];rfl
theorem Bk.valid {k:Bk}(h:k.WA=0):(1<=k.aD/\k.aD<=99/\k.aD+1<=k.yB/\k.yB<=99)/\k.nl<=6/\k.nt<=6/\k.qD:=by
 obtain⟨h1,h2,h3⟩:=Bk.x6 h;unfold Bk.oE at h1;unfold Bk.AE at h2;unfold Bk.yD at h3;refine⟨?_,?_,?_,?_⟩
 ·split at h1
  ·omega
  ·cases h1
 ·split at h2
  ·cases h2
  ·omega
 ·split at h3
  ·cases h3
  ·omega
 ·split at h3
  ·cases h3
  ·split at h3
   ·cases h3
   ·rename_i hq
    intro i hi;have h4:kA k.NC k.nt=none:=by
     cases hz:kA k.NC k.nt with
     | none=> rfl
     | some j=> rw[hz] at hq;exact(hq rfl).elim
    have h5:=(RB _).1 h4 i hi;unfold Bk.NC at h5;simpa using h5
def RQ:Option (Nat×Int)->Value
 | none=> .tuple ⟨[.int .i64 0,.int .i64 0,.bool false,.int .i64 0]⟩
 | some (n,f)=> .tuple ⟨[.int .i64 (n:Nat),.int .i64 f,.bool true,.int .i64 0]⟩
theorem g9 {es:Array MapEntry}{cl:Nat}{F:Value->Value->Prop}(h:mC es cl F){e:MapEntry}(he:e∈es.toList):es.find? (fun x=> x.born==e.born)=some e:=by
 rw[<-Array.find?_toList];cases hf:es.toList.find? (fun x=> x.born==e.born) with
 | none=> have:=List.find?_eq_none.1 hf e he;simp at this
 | some e'=>
  have h3:=List.mem_of_find?_eq_some hf;have h4:=List.find?_some hf;simp only[beq_iff_eq] at h4;obtain⟨i,hi,rfl⟩:=List.mem_iff_getElem.1 h3;obtain⟨j,hj,rfl⟩:=List.mem_iff_getElem.1 he;have hb:=h.VL;have BU:i<(es.toList.map (·.born)).length:=by rw[List.length_map];exact hi
  have FV:j<(es.toList.map (·.born)).length:=by rw[List.length_map];exact hj
  have:(es.toList.map (·.born))[i]=(es.toList.map (·.born))[j]:=by rw[List.getElem_map,List.getElem_map];exact h4
  have:=(List.getElem_inj hb).1 this;subst this;rfl
section
variable(M:Md prog)(H:View)
theorem PR(k:Bk)(A:Option Addr)(lc:Nat)(B:Option Addr)(tc:Nat)(hk:QD H k A lc B tc)(hn:k.small)(hG:mG H)(ha:k.WA=0):
  fA M 52 #[k.val A lc B tc] H (Ib H (RQ k.settled)):=by
 obtain⟨_,oP,oL,QC⟩:=Bk.valid ha;refine .en func52 ntmps52 fun St c cs hK=> ?_;refine U2 ?_;refine .bo fun b1=> ?_;refine U5 ?_;refine Tc.scope ?_;refine U3 ?_;refine .cl (fun H hs=> oD M H k A lc B tc (hk.le hs.base) hn (NA hG hs.base) ha) ?_;refine U3 ?_;refine .al fun b6=> ?_;refine uH ?_;refine Tc.label ?_;refine iD ?_;refine Tc.db (Tc.aK (σ:= { s:View×Nat//H.le s.1/\s.2<=k.nt+1/\k.qE s.2=none })
  (fun s=> (s.1.1,[(1,.pt b1),(6,.pt b6),(22,.iz ((k.nt+1:Nat):Int)),(23,.nt s.1.2)],[Bb b6 ((k.val A lc B tc).cells.toList) 166,Bb b1 ((k.val A lc B tc).cells.toList) 45])) (fun s=> k.nt+1-s.1.2) ?_ ⟨(H,0),View.le_refl _,Nat.zero_le _,rfl⟩)
 rintro⟨⟨H₁,n⟩,g1,g2,g3⟩ ih₁;simp only at g1 g2 g3;show Tc M St _ _ H₁ _ [(1,.pt b1),(6,.pt b6),(22,.iz ((k.nt+1:Nat):Int)),(23,.nt n)] [Bb b6 ((k.val A lc B tc).cells.toList) 166,Bb b1 ((k.val A lc B tc).cells.toList) 45] _ _;by_cases c1:n=k.nt+1
 ·have e:k.settled=none:=by unfold Bk.settled;rw[<-c1];exact g3
  subst c1;rw[e] at hK;refine MF ?_;refine .rt hK func52 results52 [_,_,_,_] ?_;exact fun H' hs=> ⟨View.le_trans g1 hs.base,rfl⟩
 ·have c2 : n <=k.nt:=by omega
  have aHD:iA .eql .i64 ((n:Nat):Int) ((k.nt:Nat):Int)=some (.bool (decide (n=k.nt))):=by
   by_cases c:n=k.nt
   ·rw[decide_eq_true c];exact wE oM
   ·rw[decide_eq_false c];exact IC oM
  refine LI ?_;refine .e (Or.makeMap rfl rfl dE (fun mf=> ?_));refine U7 ?_;refine To.YB rfl rfl rfl rfl rfl rfl dE (WB.h (BX M H₁ k A lc B tc (hk.xC.le g1) QC oL n c2)) (fun v H₂ hv=> ?_);obtain⟨hle,m,es,cl,rfl,⟨fm,q3⟩,q4⟩:=hv;refine .e (Or.range (E:=en) (es:=es) (cl:=cl) rfl rfl (fun H hs=> ⟨fm,hs.base _ _ q3⟩) rfl rfl rfl dE (fun it=> ?_));refine U2 ?_;refine Tc.db (Tc.qA (σ:= { s:Array Nat×Array MapEntry×Nat×Option Int//mC s.2.1 s.2.2.1 (zJ fun z=> s.2.2.2=some z)/\(∀z,s.2.2.2=some z->z≠ -2/\∃e,k.FE n e/\k.BG e (decide (n=k.nt))=z)/\∀e,k.FE n e->(s.2.2.2=some (k.BG e (decide (n=k.nt)))\/∃me∈KD es s.1,me.key=e.val) })
   (fun s=> ([(1,.pt b1),(6,.pt b6),(7,.nt n),(8,.map (some mf)),(22,.iz ((k.nt+1:Nat):Int)),(23,.nt n),(30,.pt it)],[(it,true,.mapIter (some m) cl s.1.1 cl),(mf,true,.map s.1.2.1 s.1.2.2.1),Bb b6 ((k.val A lc B tc).cells.toList) 166,Bb b1 ((k.val A lc B tc).cells.toList) 45])) (fun s=> (KD es s.1.1).length) ?_ ⟨(#[],#[],0,none),mC.nil.congr (by rintro a b;simp[zJ]),(fun z h=> by cases h),fun e he=> by
    rw[rE];obtain⟨me,h1,h2,_⟩:=(q4.mem e.val (.bool true)).1 ⟨e,he,rfl,rfl⟩;exact .inr ⟨me,h1,h2⟩⟩)
  rintro⟨⟨seen,es2,cl2,o⟩,p2,p3,p4⟩ ih₂;simp only at p2 p3 p4;show Tc M St _ _ H₂ _ [(1,.pt b1),(6,.pt b6),(7,.nt n),(8,.map (some mf)),(22,.iz ((k.nt+1:Nat):Int)),(23,.nt n),(30,.pt it)] [(it,true,.mapIter (some m) cl seen cl),(mf,true,.map es2 cl2),Bb b6 ((k.val A lc B tc).cells.toList) 166,Bb b1 ((k.val A lc B tc).cells.toList) 45] _ _;refine U2 ?_;refine .e (Or.next (es:=es) 0 rfl rfl rfl (fun H hs=> ⟨fm,hs.base _ _ q3⟩) q4.lt rfl dE (fun me he hse=> ?_) (fun QA=> ?_))
  ·have hp :=RH q4.VL he hse;obtain⟨e0,u1,u2,_⟩:=iE q4 me he;have SJ:=zK q4 he;have hf:=fun(H':View) (h':H₂.le H')=> aCQ M H' k A lc B tc (hk.rows.le (View.le_trans g1 (View.le_trans hle h'))) hn.nl e0 (decide (n=k.nt));obtain⟨z,hz⟩:∃z,k.BG e0 (decide (n=k.nt))=z:=⟨_,rfl⟩
   rw[hz] at hf;refine U8 ?_;refine .e (Or.entry (es:=es) (e:=me) (st:=me.born) rfl rfl (fun H hs=> ⟨true,hs.get (i:=0) rfl⟩) (fun H hs=> ⟨fm,hs.base _ _ q3⟩) (by simp) SJ rfl dE ?_);rw[u2];refine U ?_;refine .al fun b9=> ?_;refine uH ?_;refine .cl (fun H hs=> hf H hs.base) ?_;refine .e (Or.mapUpdate (E:=en) 2 1 rfl rfl rfl rfl rfl rfl rfl dE (EH _) (JF p2) rfl (fun r hr=> ?_));obtain⟨es4,cl4,e4,q6⟩:=p2.put (.bool true) hr;rw[e4];refine U ?_;have q7:mC es4 cl4 (zJ fun y=> y=z\/o=some y):=q6.congr (zW _ _);have next0:k.ZG n=none->k.qE (n+1)=none:=fun h=> by rw[Bk.qE,g3,h];rfl
   by_cases d1:∃y,o=some y/\y≠z
   ·obtain⟨y,d2,d3⟩:=d1;obtain⟨_,e1,d4,d5⟩:=p3 y d2;have gB:=next0 (Bk.vT d4 u1 (by rw[d5,hz];exact d3));have yE:es4.size=2:=RN q7 (l:= [z,y]) (by simp;exact fun h=> d3 h.symm) (fun x=> by rw[d2];simp;constructor <;> (rintro(h|h) <;> simp[h]));refine U3 ?_;refine .x (pA.vL (E:=en) (es:=es4) rfl rfl rfl rfl rfl (fun H hs=> ⟨true,hs.get (i:=2) rfl⟩) rfl rfl) ?_;refine uH ?_;exact Tc.db (ih₁ ⟨(H₂,n+1),View.le_trans g1 hle,by simp only;omega,gB⟩ Ob)
   ·have q8 :mC es4 cl4 (zJ fun y=> y=z):=by
     have e:(fun y=> y=z\/o=some y)=fun y=> y=z:=by
      funext y
      refine propext ⟨?_,.inl⟩;rintro(h|h)
      ·exact h
      ·exact Classical.byContradiction fun h'=> d1 ⟨y,h,h'⟩
     rw[<-e];exact q7
    have yE:es4.size=1:=RN q8 (l:= [z]) (by simp) (fun x=> by simp);by_cases d2:z= -2
    ·have gB:=next0 (Bk.uT u1 (hz.trans d2));refine U3 ?_;refine .x (pA.vL (E:=en) (es:=es4) rfl rfl rfl rfl rfl (fun H hs=> ⟨true,hs.get (i:=2) rfl⟩) rfl rfl) ?_;refine U3 ?_;refine .x (pA.lookup (E:=en) 1 (es:=es4) (v:=.bool true) rfl rfl rfl (fun H hs=> ⟨true,hs.get (i:=2) rfl⟩) rfl rfl rfl dE (EH (-2)) (JF q8) (fun r hr=> nH q8 (t:=true) (by simp[d2]) hr)) ?_;refine U8 ?_;exact Tc.db (ih₁ ⟨(H₂,n+1),View.le_trans g1 hle,by simp only;omega,gB⟩ Ob)
    ·have d3:¬(-2:Int)=z:=fun h=> d2 h.symm;refine U3 ?_;refine .x (pA.vL (E:=en) (es:=es4) rfl rfl rfl rfl rfl (fun H hs=> ⟨true,hs.get (i:=2) rfl⟩) rfl rfl) ?_;refine U3 ?_;refine .x (pA.lookup (E:=en) 1 (es:=es4) (v:=.bool false) rfl rfl rfl (fun H hs=> ⟨true,hs.get (i:=2) rfl⟩) rfl rfl rfl dE (EH (-2)) (JF q8) (fun r hr=> nH q8 (t:=false) (by simp[d3]) hr)) ?_;refine U5 ?_;exact Tc.db (ih₂ ⟨(seen.push me.born,es4,cl4,some z),q8.congr (by intro a b;simp[zJ,eq_comm]),(fun y h=> by cases h;exact⟨d2,e0,u1,hz⟩),fun e he=> by
      rcases p4 e he with h|⟨me',h1,h2⟩
      ·refine .inl ?_;have h3:=Classical.byContradiction fun h'=> d1 ⟨_,h,h'⟩;rw[h3]
      ·rcases List.mem_cons.1 (hp.mem_iff.1 h1) with rfl|h6
       ·have:=BH (h2.symm.trans u2);rw[this,hz];exact .inl rfl
       ·exact .inr ⟨me',h6,h2⟩⟩ (by simp only;rw[hp.length_eq];simp))
  ·have iG:=lG QA;rw[iG] at p4;simp only[List.not_mem_nil,false_and,exists_false,or_false] at p4;obtain⟨e1,he1⟩:=k.gS QC n c2;obtain⟨z,hz⟩:∃z,k.BG e1 (decide (n=k.nt))=z:=⟨_,rfl⟩
   have hoz:o=some z:=by rw[<-hz];exact p4 e1 he1
   subst hoz;have aFo:∀e,k.FE n e->k.BG e (decide (n=k.nt))=z:=fun e he=> (Option.some.inj (p4 e he)).symm;have hfa:k.ZG n=some z:=Bk.uV (p3 z rfl).1 he1 aFo;have aC2:k.settled=some (n,z):=Bk.cP (j:=n+1) (by rw[Bk.qE,g3,hfa];rfl) _ oM;rw[aC2] at hK;refine U8 ?_;refine .e (Or.range (E:=en) (es:=es2) (cl:=cl2) rfl rfl (fun H hs=> ⟨true,hs.get (i:=1) rfl⟩) rfl rfl rfl dE (fun it2=> ?_));refine .done (.block (.loop (.sr ?_)));refine .e (Or.next (es:=es2) 0 rfl rfl rfl (fun H hs=> ⟨true,hs.get (i:=2) rfl⟩) p2.lt rfl dE (fun me he hse=> ?_) (fun QA=> ?_))
   ·obtain⟨y,u1,u2,_⟩:=QN p2 me he;have u3:y=z:=(Option.some.inj u1).symm;subst u3;have SJ:=g9 p2 he;refine U8 ?_;refine .e (Or.entry (es:=es2) (e:=me) (st:=me.born) rfl rfl (fun H hs=> ⟨true,hs.get (i:=0) rfl⟩) (fun H hs=> ⟨true,hs.get (i:=2) rfl⟩) (by simp) SJ rfl dE ?_);rw[u2];refine uH ?_;refine .rt hK func52 results52 [_,_,_,_] ?_;exact fun H' hs=> ⟨View.le_trans g1 (View.le_trans hle hs.base),rfl⟩
   ·have h1:=lG QA;rw[rE] at h1;obtain⟨me,h2,_⟩:=(p2.mem (.int .i64 z) (.bool true)).1 ⟨z,rfl,rfl,rfl⟩;rw[h1] at h2;cases h2
end
def Bk.XJ(k:Bk)(p q:Nat->Int)(i:Nat):Bool:=decide (k.pf i<=p i/\p i<=k.pt i)&&decide (k.qf i<=q i/\q i<=k.qt i)
def Bk.TD(k:Bk)(p q:Nat->Int):Nat->sH
 | 0=> ⟨[],0,false⟩
 | i+1=> (k.TD p q i).hear (p i).toNat (k.kind (q i))
def jE(s:By)(z a:Int):Value:=.tuple ⟨[bA s,.iz z,.iz a]⟩
def Bk.SE(k:Bk)(np nq:Nat)(p q:Nat->Int):Value:=
 if k.WA≠0 then jE [] 0 k.WA else if np≠k.nt\/nq≠k.nt then jE [] 0 2 else
  if(kA (fun i=> !k.XJ p q i) k.nt).isSome then jE [] 0 1 else jE (k.TD p q k.nt).heard (sB (k.line (k.TD p q k.nt).heard)) 0
theorem Bk.tV {k:Bk}(h:k.qD){p q:Nat->Int}:∀ {i:Nat},i<=k.nt->(∀j,j<i->k.XJ p q j=true)->(k.TD p q i).heard.length<=i/\(k.TD p q i).pend<=12*i
 | 0,_,_=> ⟨Nat.le_refl _,Nat.le_refl _⟩
 | i + 1,hi,BR=> by
  have h1:=Bk.tV h (p:=p) (q:=q) (i:=i) oM (fun j hj=> BR j oM);have h2:=k.yF h (i:=i) oM;have h3:=BR i oM;unfold Bk.XJ at h3;simp only[Bool.and_eq_true,decide_eq_true_eq] at h3;have:=sH.QZ (e:=k.TD p q i) (p:=(p i).toNat) (kd:=k.kind (q i)) h1.1 h1.2 oM;show((k.TD p q i).hear _ _).heard.length<=_/\_;constructor
  ·exact this.1
  ·have:=this.2;show((k.TD p q i).hear _ _).pend<=_;omega
section
variable(M:Md prog)(H:View)
theorem PU (k:Bk)(A:Option Addr)(lc:Nat)(B:Option Addr)(tc:Nat)(hk:QD H k A lc B tc)(hn:k.small)(hG:mG H)(P Q0:Option Addr)(np nq pc qc:Nat)(p q:Nat->Int)(hP:PB H P np p)(hQ:PB H Q0 nq q):
  fA M 30 #[k.val A lc B tc,.slice P np pc,.slice Q0 nq qc] H (Ib H (k.SE np nq p q)):=by
 by_cases ha:k.WA=0
 ·have lA := fun(H':View) (h':H.le H')=> oD M H' k A lc B tc (hk.le h') hn (NA hG h') ha;by_cases c1:np=k.nt
  ·by_cases c2 :nq=k.nt
   ·obtain ⟨_,oP,oL,QC⟩:=Bk.valid ha;have ev:k.SE np nq p q=if(kA (fun i=> !k.XJ p q i) k.nt).isSome then jE [] 0 1 else jE (k.TD p q k.nt).heard (sB (k.line (k.TD p q k.nt).heard)) 0:=by
     unfold Bk.SE;rw[if_neg (by simp[ha]),if_neg (by simp[c1,c2])]
    rw[ev];clear ev;subst c1;subst c2;refine .en func30 ntmps30 fun St c cs hK=> ?_;refine U2 ?_;refine .bo fun b3=> ?_;refine U7 ?_;refine .cl (fun H hs=> lA H hs.base) ?_;refine U3 ?_;refine .al fun b9=> ?_;refine U35 ?_;refine .al fun b10=> ?_;refine iD ?_;refine Tc.db (Tc.qA (σ:= { j:Nat//j<=k.nt/\∀i,i<j->k.XJ p q i=true }) (fun j=> ([(1,.slice P k.nt pc),(2,.slice Q0 k.nt qc),(3,.pt b3),(9,.pt b9),(10,.pt b10),(38,.slice B k.nt tc),(39,.nt k.nt),(40,.nt j.1)],
     [Bb b10 ((k.TD p q j.1).val.cells.toList) 170,Bb b9 ((k.val A lc B tc).cells.toList) 166,Bb b3 ((k.val A lc B tc).cells.toList) 45])) (fun j=> k.nt-j.1) ?_ ⟨0,Nat.zero_le _,fun i hi=> by omega⟩)
    rintro⟨j,hj,BR⟩ ih;show Tc M St _ _ _ _ [(1,.slice P k.nt pc),(2,.slice Q0 k.nt qc),(3,.pt b3),(9,.pt b9),(10,.pt b10),(38,.slice B k.nt tc),(39,.nt k.nt),(40,.nt j)]
     [Bb b10 ((k.TD p q j).val.cells.toList) 170,Bb b9 ((k.val A lc B tc).cells.toList) 166,Bb b3 ((k.val A lc B tc).cells.toList) 45] _ _
    by_cases c3:j=k.nt
    ·subst c3;have e:(kA (fun i=> !k.XJ p q i) k.nt).isSome=false:=by
      rw[(RB _).2 (fun i hi=> by simp[BR i hi])];rfl
     rw[e] at hK;have CK:=fun(H':View) (h':H.le H')=> wQ M H' k A lc B tc (hk.rows.le h') hn.nl (k.TD p q k.nt).heard;refine U8 ?_;refine Tc.dr [] [] mixed rfl ?_;refine V5 0 ?_;refine .z 5 rfl (pA.tk fun H hs=> CK H hs.base) ?_;refine V3 6 ?_;refine .dn ?_;refine .rt hK func30 results30 [_,_,_] ?_;exact okB
    ·have c4 :j<k.nt:=by omega
     have X4:=Bk.tV QC hj BR;have htr:=k.yF QC c4;have hT:=hk.xC;obtain⟨_,h0|⟨tb,to,f,gs,gt,gz,rfl,hb,hl⟩⟩:=hT
     ·omega
     obtain h0|⟨pb,po,fp,ps,pt,pz,rfl,hpb,TZ⟩:=hP
     ·omega
     obtain h0|⟨qb,qo,fq,qs,qt,qz,rfl,hqb,hql⟩:=hQ
     ·omega
     have f1:=hl j c4;have f2:=TZ j c4;have f3:=hql j c4;by_cases c5:k.pf j<=p j/\p j<=k.pt j
     ·have h1:=fun(H':View)=> uA M H' (p j) (k.pf j) (k.pt j) true (decide_eq_true c5);by_cases c6:k.qf j<=q j/\q j<=k.qt j
      ·have h2:=fun(H':View)=> uA M H' (q j) (k.qf j) (k.qt j) true (decide_eq_true c6);obtain⟨pn,hpn⟩:∃m:Nat,p j=m:=⟨(p j).toNat,oM⟩
       rw[hpn] at f2 h1;have hh:=fun(H':View)=> N7 M H' (k.TD p q j) pn (k.kind (q j)) oM oM oM (k.sM _);refine MF ?_;refine .al fun b12=> ?_;refine U5 ?_;refine Tc.dr [] [] mixed rfl ?_;refine iZ 0 ?_;refine .z 10 rfl (pA.tk fun H hs=> h1 H) ?_;refine nR 11 ?_;refine .z 23 rfl (pA.tk fun H hs=> h2 H) ?_;refine V2 24 ?_;refine .dn ?_;refine U2 ?_;refine Tc.dr [12] [1] mixed rfl ?_;refine iZ 0 ?_;refine .z 10 rfl (pA.tk fun H hs=> fY M H k A lc (some ⟨tb,to,none⟩) tc (q j)) ?_;refine .z 11 rfl (pA.tk fun H hs=> hh H) ?_;refine .e 12 1 ?_;refine .dn ?_;refine U5 ?_;refine Tc.yC (ih ⟨j+1,oM,fun i hi=> ?_⟩ Ob) ⟨rfl,rfl,rfl,rfl,rfl,rfl,rfl,rfl,trivial⟩ ?_
       ·by_cases e:i=j
        ·subst e;unfold Bk.XJ;rw[decide_eq_true c5,decide_eq_true c6];rfl
        ·exact BR i oM
       ·have e:k.TD p q (j+1)=(k.TD p q j).hear pn (k.kind (q j)):=by rw[Bk.TD,hpn];rfl
        simp only[e];exact sL
      ·have h2:=fun(H':View)=> uA M H' (q j) (k.qf j) (k.qt j) false (decide_eq_false c6);have e:(kA (fun i=> !k.XJ p q i) k.nt).isSome=true:=by
        rw[mB (j:=j+1) (x:=j) (by
         rw[kA,(RB j).2 (fun i hi=> by simp[BR i hi])];have:k.XJ p q j=false:=by unfold Bk.XJ;rw[decide_eq_false c6];simp
         simp[this]) _ oM]
        rfl
       rw[e] at hK;refine MF ?_;refine .al fun b12=> ?_;refine U5 ?_;refine Tc.dr [] [] mixed rfl ?_;refine iZ 0 ?_;refine .z 10 rfl (pA.tk fun H hs=> h1 H) ?_;refine nR 11 ?_;refine .z 23 rfl (pA.tk fun H hs=> h2 H) ?_;refine V2 24 ?_;refine .dn ?_;refine U7 ?_;refine .rt hK func30 results30 [_,_,_] ?_;exact okB
     ·have h1:=fun(H':View)=> uA M H' (p j) (k.pf j) (k.pt j) false (decide_eq_false c5);have e:(kA (fun i=> !k.XJ p q i) k.nt).isSome=true:=by
       rw[mB (j:=j+1) (x:=j) (by
        rw[kA,(RB j).2 (fun i hi=> by simp[BR i hi])];have:k.XJ p q j=false:=by unfold Bk.XJ;rw[decide_eq_false c5];simp
        simp[this]) _ oM]
       rfl
      rw[e] at hK;refine MF ?_;refine .al fun b12=> ?_;refine U5 ?_;refine Tc.dr [] [] mixed rfl ?_;refine iZ 0 ?_;refine .z 10 rfl (pA.tk fun H hs=> h1 H) ?_;refine V2 11 ?_;refine .nw 13 ?_;refine .nw 14 ?_;refine .nw 15 ?_;refine .nw 16 ?_;refine .nw 17 ?_;refine .nw 18 ?_;refine .nw 19 ?_;refine .nw 20 ?_;refine .nw 21 ?_;refine .nw 22 ?_;refine .nw 23 ?_;refine .nw 24 ?_;refine .nn 25 ?_;refine .dn ?_;refine U7 ?_;refine .rt hK func30 results30 [_,_,_] ?_;exact okB
   ·have ev:k.SE np nq p q=jE [] 0 2:=by
     unfold Bk.SE;rw[if_neg (by simp[ha]),if_pos (.inr c2)]
    rw[ev];refine .en func30 ntmps30 fun St c cs hK=> ?_;refine U2 ?_;refine .bo fun b3=> ?_;refine U7 ?_;refine .cl (fun H hs=> lA H hs.base) ?_;refine U3 ?_;refine .al fun b9=> ?_;refine U37 ?_;refine .rt hK func30 results30 [_,_,_] ?_;exact okB
  ·have ev:k.SE np nq p q=jE [] 0 2:=by
    unfold Bk.SE;rw[if_neg (by simp[ha]),if_pos (.inl c1)]
   rw[ev];refine .en func30 ntmps30 fun St c cs hK=> ?_;refine U2 ?_;refine .bo fun b3=> ?_;refine U7 ?_;refine .cl (fun H hs=> lA H hs.base) ?_;refine U3 ?_;refine .al fun b9=> ?_;refine U37 ?_;refine .rt hK func30 results30 [_,_,_] ?_;exact okB
 ·have ev:k.SE np nq p q=jE [] 0 k.WA:=if_pos ha;rw[ev];refine .en func30 ntmps30 fun St c cs hK=> ?_;refine U2 ?_;refine .bo fun b3=> ?_;refine U7 ?_;refine .cl (fun H hs=> XI M H k A lc B tc true (hk.le hs.base) hn (NA hG hs.base) ha) ?_;refine U3 ?_;refine .al fun b9=> ?_;refine XU ?_;refine .rt hK func30 results30 [_,_,_] ?_;exact okB
end
theorem none_le {H H':View}(h:H.le H'){b:Nat}(hb:H' b=none):H b=none:=by
 cases e:H b with
 | none=> rfl
 | some x=> rw[h _ _ e] at hb;cases hb
def Bk.MB(k:Bk)(z:Int):Int:=if z∈k.iU then if k.iU.length=1 then 1 else 0 else 2
def VW(f:Nat->Int)(n:Nat):List Value:=(List.range n).map fun i=> .int .i64 (f i)
theorem T6(f:Nat->Int)(n:Nat):VW f (n+1)=VW f n++[.iz (f n)]:=by
 unfold VW;rw[List.range_succ,List.map_append];rfl
theorem aA5(f:Nat->Int)(n:Nat):(VW f n).length=n:=by simp[VW]
def I9(g:Gl 110 1)(c a:Int):Value:=.tuple ⟨[g.val,.iz c,.iz a]⟩
def Bk.oG(k:Bk)(line:Nat):Nat->Int
 | 0=> k.MB (line:Nat)
 | i+1=> gJ (k.oG line i) (if k.free line i=0 then 0 else if k.free line i=1 then 2 else 1)
def Bk.GG(k:Bk)(line i:Nat):Int:=gJ (k.oG line i) (k.free line i)
section
variable(M:Md prog)(H:View)
theorem qN(k:Bk)(z:Int)(m:Nat)(es:Array MapEntry)(cl:Nat)(f:Bool)(hm:H m=some (f,.map es cl))(QC:mC es cl (zJ k.EY)):
  fA M 123 #[.map (some m),.iz z] H (Ib H (.int .i64 (k.MB z))):=by
 refine aA6 M H k.EY z m es cl f hm QC _ ?_;have h1:=Bk.OQ QC;have h2:=k.gW z;unfold Bk.MB;by_cases c1:z∈k.iU
 ·rw[if_pos c1];by_cases c2:k.iU.length=1
  ·rw[if_pos c2];exact .inr (.inl ⟨h2.1 c1,oM,rfl⟩)
  ·rw[if_neg c2];exact .inr (.inr ⟨h2.1 c1,oM,rfl⟩)
 ·rw[if_neg c1];exact .inl ⟨fun h=> c1 (h2.2 h),rfl⟩
theorem OR(k:Bk)(A:Option Addr)(lc:Nat)(B:Option Addr)(tc:Nat)(hk:QD H k A lc B tc)(hn:k.small)(hG:mG H)(ha:k.WA=0):
  fA M 50 #[k.val A lc B tc] H (fun v H'=> H.le H'/\∃g:Gl 110 1,v=I9 g (k.MB (-1)) 0/\(g.n=k.nl/\g.l=VW (fun i=> k.MB (i:Nat)) k.nl)/\∀x∈g.bl,H' x.1=some x.2/\H x.1=none):=by
 obtain⟨_,oP,oL,QC⟩:=Bk.valid ha;have lA:=fun(H':View) (h':H.le H')=> oD M H' k A lc B tc (hk.le h') hn (NA hG h') ha;refine .en func50 ntmps50 fun St c cs hK=> ?_;refine U2 ?_;refine .bo fun b1=> ?_;refine U7 ?_;refine .cl (fun H hs=> lA H hs.base) ?_;refine U3 ?_;refine .al fun b5=> ?_;refine MF ?_;refine To.YB rfl rfl rfl rfl rfl rfl dE (WB.h (GK M H k A lc B tc hk.rows hn.nl hk.xC QC oL)) (fun v H₂ hv=> ?_);obtain⟨hle,m,es,cl,rfl,⟨fm,q3⟩,q4⟩:=hv;refine ND ?_;refine Tc.db (Tc.qA (σ:= { s:Nat×Gl 110 1//s.1<=k.nl/\s.2.n=s.1/\s.2.l=VW (fun i=> k.MB (i:Nat)) s.1 })
  (fun s=> ([(1,.pt b1),(2,s.1.2.val),(5,.pt b5),(6,.map (some m)),(20,.nt k.nl),(21,.nt s.1.1)],[Bb b5 ((k.val A lc B tc).cells.toList) 166,Bb b1 ((k.val A lc B tc).cells.toList) 45]++s.1.2.bl)) (fun s=> k.nl-s.1.1) ?_ ⟨(0,Gl.nil 110 1),Nat.zero_le _,rfl,rfl⟩)
 rintro⟨⟨j,g⟩,p1,p2,p3⟩ ih;simp only at p1 p2 p3;dsimp only;by_cases c1:j=k.nl
 ·subst c1;refine ND ?_;refine .cl (fun H hs=> qN M H k (-1) m es cl fm (hs.base _ _ q3) q4) ?_;refine U4 ?_;refine .rt hK func50 results50 [_,_,_] ?_;exact fun H' hs=> ⟨View.le_trans hle hs.base,g,rfl,⟨p2,p3⟩,fun x hx=> ⟨hs.at_ x (by simp[hx]),none_le hle (hs.out x (by simp[hx]))⟩⟩
 ·have c2:j<k.nl:=by omega
  refine fL ?_;refine .cl (fun H hs=> qN M H k (j:Nat) m es cl fm (hs.base _ _ q3) q4) ?_;refine .e (.bs (zz:=fun bs=> ?_));refine .e (Or.append (E:=en) 3 rfl rfl rfl rfl rfl rfl rfl rfl rfl rfl rfl rfl rfl rfl rfl (fun H hs=> RA.of (hs.get (i:=0) rfl) Nb) rfl oM rfl dE (fun g' dI LG=> ?_));refine U7 ?_;exact Tc.db (ih ⟨(j+1,g'),by simp only;omega,by simp only;omega,by simp only;rw[LG,p3,T6];rfl⟩ Ob)
end
end Go.Proofs.YtldmfjcgjdchcaaGreatDoor
