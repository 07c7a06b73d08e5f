/-
 Texts of the proofs over baudot/dial.
-/
import Derived.Test.YtldmfjcgjdchcaaGreatDoorM03
import Derived.Laws.RangeAny
namespace Go.Proofs.YtldmfjcgjdchcaaGreatDoor
open Go.RL Go.Proofs.Tryz
set_option maxRecDepth 10000
set_option maxHeartbeats 4000000
def pC(num s:List UInt8):Bool:=NA num s||NA s num
def Bk.clash(k:Bk)(s:List UInt8):Bool:=(jA (fun i=> pC (k.num i) s) k.nl).isSome
def CD(c:UInt8):Bool:=decide (48<=c.toNat/\c.toNat<58)
def mK:List UInt8:= [48,49,50,51,52,53,54,55,56,57]
def gE(i:Nat):List Value:=(List.range 256).map fun j=> .bool (decide (48<=j/\j<48+i))
def KF(s:List UInt8):List UInt8:=(s.reverse.dropWhile CD).reverse
def AM(s:List UInt8):List UInt8:=(KF s).dropWhile CD
def isNum(s:List UInt8):Bool:=decide (1<=s.length/\s.length<=3)&&s.all CD
theorem zS:gE 0=List.replicate 256 (.bool false):=by kernel_rfl
theorem FX:∀i,i<10->uG (gE i) (0+((48+i:Nat):Int).toNat*1) [.bool true]=gE (i+1):=by
 intro i hi;rcases(by omega:i=0\/i=1\/i=2\/i=3\/i=4\/i=5\/i=6\/i=7\/i=8\/i=9) with rfl|rfl|rfl|rfl|rfl|rfl|rfl|rfl|rfl|rfl <;> kernel_rfl
theorem EX(c:UInt8):tE false 1 (gE 10) (0+((c.toNat:Nat):Int).toNat*1)=some (.bool (CD c)):=by
 show(gE 10)[_]? =_;have:c.toNat<256:=c.toNat_lt;unfold gE CD;rw[List.getElem?_map,Int.toNat_natCast,Nat.mul_one,Nat.zero_add,List.getElem?_range this];rfl
theorem F6:∀i,i<10->mK[i]? =some (UInt8.ofNat (48+i)):=by decide
theorem VV(s:List UInt8)(c:UInt8)(h:CD c=true):KF (s++[c])=KF s:=by
 unfold KF;rw[List.reverse_append];simp[h]
theorem WV(s:List UInt8)(c:UInt8)(h:CD c=false):KF (s++[c])=s++[c]:=by
 unfold KF;rw[List.reverse_append];simp[h]
theorem mQ(s:List UInt8):(AM s== [])=s.all CD:=by
 have h:AM s= []<->∀c∈s,CD c=true:=by
  unfold AM KF;constructor
  ·intro h c hc;have h1:∀l:List UInt8,l.dropWhile CD= []->∀c∈l,CD c=true:=by
    intro l;induction l with
    | nil=> simp
    | cons x t ih=>
     rw[List.dropWhile_cons];split
     ·rename_i hx
      intro h c hc;rcases List.mem_cons.1 hc with rfl|hc
      ·exact hx
      ·exact ih h c hc
     ·intro h;cases h
   have h2:=h1 _ h;have h3:∀l:List UInt8,(∀c∈l.dropWhile CD,CD c=true)->∀c∈l,CD c=true:=by
    intro l;induction l with
    | nil=> simp
    | cons x t ih=>
     rw[List.dropWhile_cons];split
     ·rename_i hx
      intro h c hc;rcases List.mem_cons.1 hc with rfl|hc
      ·exact hx
      ·exact ih h c hc
     ·intro h c hc;exact h c hc
   exact h3 s.reverse (fun c hc=> h2 c (List.mem_reverse.2 hc)) c (List.mem_reverse.2 hc)
  ·intro h;have h1:∀l:List UInt8,(∀c∈l,CD c=true)->l.dropWhile CD= []:=by
    intro l;induction l with
    | nil=> simp
    | cons x t ih=>
     intro h;rw[List.dropWhile_cons,if_pos (h x (List.mem_cons_self ..))];exact ih fun c hc=> h c (List.mem_cons_of_mem _ hc)
   rw[h1 s.reverse (fun c hc=> h c (List.mem_reverse.1 hc))];rfl
 rw[Bool.eq_iff_iff,beq_iff_eq,h,List.all_eq_true]
section
variable(M:Md prog)(H:View)
theorem oD(s p:List UInt8)(t:Bool)(h:NA s p=t):bA M 146 #[gA s,gA p] H (fun v H'=> H.le H'/\v=.bool t):=
 bA.mono (JE M H s p) (by rintro v H' ⟨h1,h2⟩;rw[h] at h2;exact⟨h1,h2⟩)
theorem RY(k:Bk)(A:Option Addr)(lc:Nat)(hA:nC H k A lc)(hn:k.nl<=1000)(fv:Value)(p:Nat->Bool)(hp:A5 M H fv k p):
  bA M 281 #[.slice A k.nl lc,fv] H (fun v H'=> H.le H'/\v=.int .i64 (fB (jA p k.nl))):=by
 refine .en func281 ntmps281 fun St c cs hK=> ?_;refine PF ?_;refine Tc.db (Tc.sA (σ:= { j:Nat//j<=k.nl/\jA p j=none }) (fun j=> ([(0,.slice A k.nl lc),(1,fv),(7,.int .i64 (k.nl:Nat)),(8,.int .i64 (j.1:Nat))],[])) (fun j=> k.nl-j.1) ?_ ⟨0,Nat.zero_le _,rfl⟩);rintro⟨j,hj,dC⟩ ih;show Tc M St _ _ _ _ [(0,.slice A k.nl lc),(1,fv),(7,.int .i64 (k.nl:Nat)),(8,.int .i64 (j:Nat))] [] _ _;by_cases c1:j=k.nl
 ·subst c1;rw[dC] at hK;refine qE ?_;refine .rt hK func281 results281 [_] ?_;exact okB
 ·have c2:j<k.nl:=by omega
  obtain⟨_,h0|⟨ab,ao,f,gs,gt,gz,rfl,hb,hl⟩⟩:=hA
  ·omega
  obtain⟨F,fc,f1,_,_⟩:=hl j c2;have eN:=hp j c2 F fc;cases lF:p j with
  | true=>
   rw[lF] at eN;have e:jA p k.nl=some j:=TA (j:=j+1) (by simp[jA,dC,lF]) _ oM;rw[e] at hK;refine zP ?_;refine .c rfl rfl rfl rfl (fun H hs=> eN H hs.base) ?_;refine U7 ?_;refine .rt hK func281 results281 [_] ?_;exact okB
  | false=>
   rw[lF] at eN;refine zP ?_;refine .c rfl rfl rfl rfl (fun H hs=> eN H hs.base) ?_;refine U8 ?_;exact Tc.db (ih ⟨j+1,oM,by simp[jA,dC,lF]⟩ (by simp only;omega))
theorem fD(k:Bk)(A:Option Addr)(lc:Nat)(hA:nC H k A lc)(hn:k.nl<=1000)(fv:Value)(p:Nat->Bool)(hp:A5 M H fv k p):
  bA M 223 #[.slice A k.nl lc,fv] H (fun v H'=> H.le H'/\v=.bool (jA p k.nl).isSome):=by
 have hi:=fun(H':View) (h':H.le H')=> RY M H' k A lc (hA.le h') hn fv p (fun i hi F fc H'' hle=> hp i hi F fc H'' (View.le_trans h' hle));cases hq:jA p k.nl with
 | none=>
  rw[hq] at hi;have e:fB none= -1:=rfl;rw[e] at hi;refine .en func223 ntmps223 fun St c cs hK=> ?_;refine U8 ?_;refine .cl (fun H hs=> hi H hs.base) ?_;refine U3 ?_;refine .rt hK func223 results223 [_] ?_;exact okB
 | some j=>
  rw[hq] at hi;have e:fB (some j)=(j:Nat):=rfl;rw[e] at hi;refine .en func223 ntmps223 fun St c cs hK=> ?_;refine U8 ?_;refine .cl (fun H hs=> hi H hs.base) ?_;refine U3 ?_;refine .rt hK func223 results223 [_] ?_;exact okB
theorem GZ(s:List UInt8)(b3:Nat)(f:Bool)(hb:H b3=some (f,.cells ⟨[gA s]⟩ 9 (0,0)))(a num:List UInt8)(F:Option Addr)(n fc:Nat):
  bA M 224 #[nJ a num F n fc,.pointer (some ⟨b3,0,none⟩)] H (fun v H'=> H.le H'/\v=.bool (pC num s)):=by
 cases h1:NA num s with
 | true=>
  have e:pC num s=true:=by unfold pC;rw[h1];rfl
  rw[e];refine .en func224 ntmps224 fun St c cs hK=> ?_;refine U2 ?_;refine .bo fun b2=> ?_;refine U7 ?_;refine .cl (fun H hs=> oD M H num s true h1) ?_;refine U8 ?_;refine .rt hK func224 results224 [_] ?_;exact okB
 | false=>
  have e:pC num s=NA s num:=by unfold pC;rw[h1];rfl
  rw[e];refine .en func224 ntmps224 fun St c cs hK=> ?_;refine U2 ?_;refine .bo fun b2=> ?_;refine U7 ?_;refine .cl (fun H hs=> oD M H num s false h1) ?_;refine U4 ?_;refine .cl (fun H hs=> JE M H s num) ?_;refine U3 ?_;refine .rt hK func224 results224 [_] ?_;exact okB
theorem wE(k:Bk)(A:Option Addr)(lc:Nat)(hA:nC H k A lc)(hn:k.nl<=1000)(s:List UInt8):
  bA M 137 #[.slice A k.nl lc,gA s] H (fun v H'=> H.le H'/\v=.bool (k.clash s)):=by
 refine .en func137 ntmps137 fun St c cs hK=> ?_;refine U2 ?_;refine .bo fun b3=> ?_;refine U6 ?_;refine .cl (fun H hs=> fD M H k A lc (hA.le hs.base) hn _ (fun i=> pC (k.num i) s) (fun i _ F fc H' hle=> yB.of (first:= []) (captured:= [_]) aCs rfl (GZ M H' s b3 true (hle _ _ (hs.get (i:=0) rfl)) (k.name i) (k.num i) F (k.nf i) fc))) ?_;refine U2 ?_;refine .rt hK func137 results137 [_] ?_;exact okB
theorem RG(b:Nat)(f:Bool)(gt:TypeId)(gz:Nat×Nat)(hb:H b=some (f,.cells ⟨gE 10⟩ gt gz))(c0:UInt8):
  bA M 251 #[.pointer (some ⟨b,0,none⟩),.int .u8 (c0.toNat:Nat)] H (fun v H'=> H.le H'/\v=.bool (CD c0)):=by
 have f1:=EX c0;have f2:=c0.toNat_lt;refine .en func251 ntmps251 fun St c cs hK=> ?_;refine LG ?_;refine .rt hK func251 results251 [_] ?_;exact okB
end
section
variable(M:Md prog)(H:View)
theorem dY:bA M 190 #[gA mK] H (fun v H'=> H.le H'/\v=.tuple ⟨[.agg ⟨gE 10⟩,.bool true]⟩):=by
 refine .en func190 ntmps190 fun St c cs hK=> ?_;refine U2 ?_;refine .al fun b2=> ?_;refine U8 ?_;refine Tc.ZC (Tc.sA (σ:= { i:Nat//i<=10 }) (fun i=> ([(0,gA mK),(2,.pointer (some ⟨b2,0,none⟩)),(4,.int .i64 (i.1:Nat))],[(b2,true,.cells ⟨gE i.1⟩ 294 (0,0))])) (fun i=> 10-i.1) ?_ ⟨0,oM⟩) ⟨rfl,rfl,rfl,trivial⟩ (by rw[zS];exact List.Sublist.refl _);rintro⟨i,hi⟩ ih;show Tc M St _ _ _ _ [(0,gA mK),(2,.pointer (some ⟨b2,0,none⟩)),(4,.int .i64 (i:Nat))] [(b2,true,.cells ⟨gE i⟩ 294 (0,0))] _ _;have SP:(mK.length:Nat)=10:=rfl;by_cases c1:i=10
 ·subst c1;refine aP ?_;refine .rt hK func190 results190 [_,_] ?_;exact okB
 ·have c2:i<10:=by omega
  have f1:mK[((i:Nat):Int).toNat]? =some (UInt8.ofNat (48+i)):=by rw[Int.toNat_natCast];exact F6 i c2
  have f2:(UInt8.ofNat (48+i)).toNat=48+i:=by rw[UInt8.toNat_ofNat'];omega
  have f3:=FX i c2;have f4:Nat.ble (0+((48+i:Nat):Int).toNat*1+1) (gE i).length=true:=by
   refine Nat.ble_eq_true_of_le ?_;rw[Int.toNat_natCast];unfold gE;rw[List.length_map,List.length_range];omega
  refine hU ?_;rw[f2];refine hU ?_;exact Tc.db (ih ⟨i+1,oM⟩ (by simp only;omega))
theorem YT(b:Nat)(f:Bool)(gt:TypeId)(gz:Nat×Nat)(hb:H b=some (f,.cells ⟨gE 10⟩ gt gz))(s:List UInt8)(hl:s.length<=1000000):
  bA M 192 #[gA s,.pointer (some ⟨b,0,none⟩)] H (fun v H'=> H.le H'/\v=gA (KF s)):=by
 refine .en func192 ntmps192 fun St c cs hK=> ?_;refine U6 ?_;refine Tc.db (Tc.sA (σ:= { r:List UInt8//KF r=KF s/\r.length<=s.length }) (fun r=> ([(0,gA r.1),(1,.pointer (some ⟨b,0,none⟩))],[])) (fun r=> r.1.length) ?_ ⟨s,rfl,Nat.le_refl _⟩);rintro⟨r,hr,hlr⟩ ih;show Tc M St _ _ _ _ [(0,gA r),(1,.pointer (some ⟨b,0,none⟩))] [] _ _;have W8:r= []\/∃q x,r=q++[x]:=by
  rcases List.eq_nil_or_concat r with h|⟨q,x,h⟩
  ·exact .inl h
  ·exact .inr ⟨q,x,by rw[h,List.concat_eq_append]⟩
 rcases W8 with rfl|⟨q,x,rfl⟩
 ·have e:KF s= []:=by rw[<-hr];rfl
  rw[e] at hK;refine vF ?_;refine .rt hK func192 results192 [_] ?_;exact okB
 ·have l1:(q++[x]).length=q.length+1:=by simp
  have f1:(q++[x])[(((q++[x]).length:Nat)-1:Int).toNat]? =some x:=by
   rw[l1,show(((q.length+1:Nat):Int)-1).toNat=q.length by omega];simp
  cases hx:CD x with
  | false=>
   have e:KF s=q++[x]:=by rw[<-hr];exact WV q x hx
   have hc:=fun(H':View) (h':H.le H')=> RG M H' b f gt gz (h' _ _ hb) x;rw[hx] at hc;rw[e] at hK;refine hU ?_;refine .cl (fun H hs=> hc H hs.base) ?_;refine U9 ?_;refine .rt hK func192 results192 [_] ?_;exact okB
  | true=>
   have hc:=fun(H':View) (h':H.le H')=> RG M H' b f gt gz (h' _ _ hb) x;rw[hx] at hc;have e:((q++[x]).drop ((0:Nat):Int).toNat).take ((((q++[x]).length:Nat)-1:Int).toNat-((0:Nat):Int).toNat)=q:=by
    rw[l1,show(((q.length+1:Nat):Int)-1).toNat=q.length by omega];simp
   refine hU ?_;refine .cl (fun H hs=> hc H hs.base) ?_;refine U9 ?_;refine .x (pA.kD (E:=en) rfl rfl rfl rfl rfl rfl oM oM oM) ?_;refine U2 ?_;rw[e];refine U ?_;exact Tc.db (ih ⟨q,by rw[<-hr,VV q x hx],oM⟩ (by simp only;omega))
theorem TV(b:Nat)(f:Bool)(gt:TypeId)(gz:Nat×Nat)(hb:H b=some (f,.cells ⟨gE 10⟩ gt gz))(s:List UInt8)(hl:s.length<=1000000):
  bA M 191 #[gA s,.pointer (some ⟨b,0,none⟩)] H (fun v H'=> H.le H'/\v=gA (s.dropWhile CD)):=by
 refine .en func191 ntmps191 fun St c cs hK=> ?_;refine U6 ?_;refine Tc.db (Tc.sA (σ:= { r:List UInt8//r.dropWhile CD=s.dropWhile CD/\r.length<=s.length }) (fun r=> ([(0,gA r.1),(1,.pointer (some ⟨b,0,none⟩))],[])) (fun r=> r.1.length) ?_ ⟨s,rfl,Nat.le_refl _⟩);rintro⟨r,hr,hlr⟩ ih;show Tc M St _ _ _ _ [(0,gA r),(1,.pointer (some ⟨b,0,none⟩))] [] _ _;rcases r with _|⟨x,q⟩
 ·have e:s.dropWhile CD= []:=by rw[<-hr];rfl
  rw[e] at hK;refine vF ?_;refine .rt hK func191 results191 [_] ?_;exact okB
 ·have l1:(x::q).length=q.length+1:=rfl;have f1:(x::q)[(0:Int).toNat]? =some x:=rfl;cases hx:CD x with
  | false=>
   have e:s.dropWhile CD=x::q:=by rw[<-hr,List.dropWhile_cons,hx];rfl
   have hc:=fun(H':View) (h':H.le H')=> RG M H' b f gt gz (h' _ _ hb) x;rw[hx] at hc;rw[e] at hK;refine aP ?_;refine .cl (fun H hs=> hc H hs.base) ?_;refine U9 ?_;refine .rt hK func191 results191 [_] ?_;exact okB
  | true=>
   have hc:=fun(H':View) (h':H.le H')=> RG M H' b f gt gz (h' _ _ hb) x;rw[hx] at hc;have e:((x::q).drop (1:Int).toNat).take ((((x::q).length:Nat):Int).toNat-(1:Int).toNat)=q:=by
    rw[l1,show(((q.length+1:Nat):Int)).toNat-(1:Int).toNat=q.length by omega];simp
   refine aP ?_;refine .cl (fun H hs=> hc H hs.base) ?_;refine U6 ?_;refine .x (pA.kD (E:=en) rfl rfl rfl rfl rfl rfl oM oM oM) ?_;refine U2 ?_;rw[e];refine U ?_;exact Tc.db (ih ⟨q,by rw[<-hr,List.dropWhile_cons,hx];rfl,oM⟩ (by simp only;omega))
theorem fZ(s:List UInt8)(hl:s.length<=1000000):bA M 117 #[gA s,gA mK] H (fun v H'=> H.le H'/\v=gA (AM s)):=by
 rcases s with _|⟨x,q⟩
 ·have e:AM []= []:=rfl;rw[e];refine .en func117 ntmps117 fun St c cs hK=> ?_;refine TR ?_;refine .rt hK func117 results117 [_] ?_;exact okB
 ·have hlr:(KF (x::q)).length<=1000000:=by
   unfold KF;rw[List.length_reverse];have:=(List.dropWhile_sublist CD (l:=(x::q).reverse)).length_le;rw[List.length_reverse] at this;omega
  refine .en func117 ntmps117 fun St c cs hK=> ?_;refine U34 ?_;refine .cl (fun H hs=> dY M H) ?_;refine U3 ?_;refine .al fun b5=> ?_;refine qE ?_;refine .cl (fun H hs=> YT M H b5 true _ _ (hs.get (i:=0) rfl) (x::q) hl) ?_;refine .cl (fun H hs=> TV M H b5 true _ _ (hs.get (i:=0) rfl) (KF (x::q)) hlr) ?_;refine U2 ?_;refine .rt hK func117 results117 [_] ?_;exact okB
theorem qC(s:List UInt8)(hl:s.length<=1000000):bA M 41 #[gA s] H (fun v H'=> H.le H'/\v=.bool (isNum s)):=by
 by_cases c1:1<=(s.length:Int)/\(s.length:Int)<=3
 ·have e:isNum s=(AM s== []):=by
   unfold isNum;rw[mQ];have:decide (1<=s.length/\s.length<=3)=true:=decide_eq_true oM;rw[this];rfl
  rw[e];have hb:=fun(H':View)=> uA M H' (s.length:Nat) 1 3 true (decide_eq_true c1);refine .en func41 ntmps41 fun St c cs hK=> ?_;refine U8 ?_;refine .cl (fun H hs=> hb H) ?_;refine U2 ?_;refine .cl (fun H hs=> fZ M H s hl) ?_;refine U4 ?_;refine .rt hK func41 results41 [_] ?_;exact okB
 ·have e:isNum s=false:=by
   unfold isNum;have:decide (1<=s.length/\s.length<=3)=false:=decide_eq_false oM;rw[this];rfl
  rw[e];have hb:=fun(H':View)=> uA M H' (s.length:Nat) 1 3 false (decide_eq_false c1);refine .en func41 ntmps41 fun St c cs hK=> ?_;refine U8 ?_;refine .cl (fun H hs=> hb H) ?_;refine U7 ?_;refine .rt hK func41 results41 [_] ?_;exact okB
end
def low(c:UInt8):Bool:=decide (97<=c.toNat/\c.toNat<=122)
def nG(s:List UInt8)(i:Nat):Bool:=match s[i]? with
 | some c=> low c||(decide (0<i)&&CD c)
 | none=> true
def wF(p:Nat->Bool):Nat->Bool
 | 0=> true
 | n+1=> wF p n&&p n
theorem vC {p:Nat->Bool}:∀n,wF p n=true<->∀i,i<n->p i=true
 | 0=> ⟨fun _ i hi=> by omega,fun _=> rfl⟩
 | n + 1=> by
  unfold wF;rw[Bool.and_eq_true,vC n];constructor
  ·rintro⟨h1,h2⟩ i hi;by_cases e:i=n
   ·subst e;exact h2
   ·exact h1 i oM
  ·exact fun h=> ⟨fun i hi=> h i oM,h n oM⟩
theorem xF {p:Nat->Bool}{n i:Nat}(hi:i<n)(h:p i=false):wF p n=false:=by
 cases e:wF p n with
 | false=> rfl
 | true=> rw[(vC n).1 e i hi] at h;cases h
def xH(s:List UInt8):Bool:=decide (1<=s.length/\s.length<=9)&&wF (nG s) s.length
theorem JZ(s:List UInt8)(p:Nat)(hp:p<s.length):∃z w,Utf8.decode ⟨⟨s⟩⟩ p=(z,w)/\z<=2147483647/\∃x,s[p]? =some x/\(x.toNat<128->z=x.toNat/\w=1)/\(128<=x.toNat->128<=z):=by
 have hs:p<(ByteArray.mk ⟨s⟩).size:=hp;refine⟨(Utf8.decode ⟨⟨s⟩⟩ p).1,(Utf8.decode ⟨⟨s⟩⟩ p).2,rfl,decode_le _ _,(ByteArray.mk ⟨s⟩)[p]'hs,?_,?_,?_⟩
 ·rw[List.getElem?_eq_getElem hp];rfl
 ·intro h;rw[decode_ascii _ p hs h];exact⟨rfl,rfl⟩
 ·intro h;exact(decode_high _ p hs h).1
section
variable(M:Md prog)(H:View)
theorem DF(s:List UInt8):bA M 371 #[gA s] H (fun v H'=> H.le H'/\v=.bool (xH s)):=by
 by_cases c1:1<=(s.length:Int)/\(s.length:Int)<=9
 ·have e0 : xH s=wF (nG s) s.length:=by
   unfold xH;have:decide (1<=s.length/\s.length<=9)=true:=decide_eq_true oM;rw[this];rfl
  have hb:=fun(H':View)=> uA M H' (s.length:Nat) 1 9 true (decide_eq_true c1);rw[e0];refine .en func371 ntmps371 fun St c cs hK=> ?_;refine U9 ?_;refine .cl (fun H hs=> hb H) ?_;refine U8 ?_;refine .e (Or.AR (E:=en) (s:=⟨⟨s⟩⟩) rfl rfl rfl rfl rfl dE (fun it=> ?_));refine U2 ?_;refine Tc.db (Tc.sA (σ:= { p:Nat//p<=s.length/\∀i,i<p->nG s i=true }) (fun p=> ([(10,.pointer (some ⟨it,0,none⟩))],[(it,true,.stringIter ⟨⟨s⟩⟩ p.1)])) (fun p=> s.length-p.1) ?_ ⟨0,Nat.zero_le _,fun i hi=> by omega⟩);rintro⟨p,hp,OA⟩ ih;show Tc M St _ _ _ _ [(10,.pointer (some ⟨it,0,none⟩))] [(it,true,.stringIter ⟨⟨s⟩⟩ p)] _ _;by_cases c2:p=s.length
  ·have e:wF (nG s) s.length=true:=(vC _).2 (by rw[<-c2];exact OA);rw[e] at hK;have Z4:¬p<(ByteArray.mk ⟨s⟩).size:=by show ¬p<s.length;omega
   refine U2 ?_;refine .e (Or.uR 0 rfl rfl rfl Z4 rfl dE ?_);refine U9 ?_;refine .rt hK func371 results371 [_] ?_;exact okB
  ·have c3 :p<s.length:=by omega
   obtain⟨z,w,OM,hz,x,hx,AL,ON⟩:=JZ s p c3;have VR:p<(ByteArray.mk ⟨s⟩).size:=c3;have wz:IntKind.i64.wrap ((z:Nat):Int)=((z:Nat):Int):=wrap64 oM oM;have hxm:=x.toNat_lt;by_cases c4:97<=((z:Nat):Int)/\((z:Nat):Int)<=122
   ·have C1:x.toNat<128:=by
     by_cases h:x.toNat<128
     ·exact h
     ·have:=ON oM;omega
    obtain⟨h1,rfl⟩:=AL C1;have hn:nG s p=true:=by
     unfold nG;rw[hx];have:low x=true:=decide_eq_true oM;simp[this]
    have hbz:=fun(H':View)=> uA M H' (z:Nat) 97 122 true (decide_eq_true c4);have HY:=fun(H':View)=> nL M H' (z:Nat) 48 57;refine U2 ?_;refine .e (Or.jO 0 rfl rfl rfl VR OM rfl dE ?_);refine TJ ?_;refine .cl (fun H hs=> hbz H) ?_;refine U5 ?_;refine To.BB rfl dE rfl ?_;refine To.BB rfl dE rfl ?_;refine To.BB rfl dE rfl ?_;refine To.BB rfl dE rfl ?_;refine U6 ?_;exact Tc.db (ih ⟨p+1,oM,fun i hi=> by by_cases e:i=p;exact e▸hn;exact OA i oM⟩ (by simp only;omega))
   ·have hbz:=fun(H':View)=> uA M H' (z:Nat) 97 122 false (decide_eq_false c4);have Y4:low x=false:=by
     refine decide_eq_false ?_;intro h;obtain⟨h1,_⟩:=AL oM;omega
    by_cases c5:p=0
    ·subst c5;have e:wF (nG s) s.length=false:=xF c3 (by unfold nG;rw[hx];simp[Y4]);have HY:=fun(H':View)=> nL M H' (z:Nat) 48 57;rw[e] at hK;refine U2 ?_;refine .e (Or.jO 0 rfl rfl rfl VR OM rfl dE ?_);refine TJ ?_;refine .cl (fun H hs=> hbz H) ?_;refine TJ ?_;refine .rt hK func371 results371 [_] ?_;exact okB
    ·have c6:(p:Int)≠0:=by omega
     by_cases c7:48<=((z:Nat):Int)/\((z:Nat):Int)<=57
     ·have C1:x.toNat<128:=by
       by_cases h:x.toNat<128
       ·exact h
       ·have:=ON oM;omega
      obtain⟨h1,rfl⟩:=AL C1;have hn:nG s p=true:=by
       unfold nG;rw[hx];have:CD x=true:=decide_eq_true oM;have h0:0<p:=by omega
       simp[this,h0]
      have HY:=fun(H':View)=> uA M H' (z:Nat) 48 57 true (decide_eq_true c7);refine U2 ?_;refine .e (Or.jO 0 rfl rfl rfl VR OM rfl dE ?_);refine TJ ?_;refine .cl (fun H hs=> hbz H) ?_;refine U7 ?_;refine .cl (fun H hs=> HY H) ?_;refine U7 ?_;exact Tc.db (ih ⟨p+1,oM,fun i hi=> by by_cases e:i=p;exact e▸hn;exact OA i oM⟩ (by simp only;omega))
     ·have RU:CD x=false:=by
       refine decide_eq_false ?_;intro h;obtain⟨h1,_⟩:=AL oM;omega
      have e:wF (nG s) s.length=false:=xF c3 (by unfold nG;rw[hx];simp[Y4,RU]);have HY:=fun(H':View)=> uA M H' (z:Nat) 48 57 false (decide_eq_false c7);rw[e] at hK;refine U2 ?_;refine .e (Or.jO 0 rfl rfl rfl VR OM rfl dE ?_);refine TJ ?_;refine .cl (fun H hs=> hbz H) ?_;refine U7 ?_;refine .cl (fun H hs=> HY H) ?_;refine U9 ?_;refine .rt hK func371 results371 [_] ?_;exact okB
 ·have e0:xH s=false:=by
   unfold xH;have:decide (1<=s.length/\s.length<=9)=false:=decide_eq_false oM;rw[this];rfl
  have hb:=fun(H':View)=> uA M H' (s.length:Nat) 1 9 false (decide_eq_false c1);rw[e0];refine .en func371 ntmps371 fun St c cs hK=> ?_;refine U9 ?_;refine .cl (fun H hs=> hb H) ?_;refine U7 ?_;refine .rt hK func371 results371 [_] ?_;exact okB
end
theorem K1 {M:Md prog}{f:FuncId}{az:Array Value}{H:View}{w w':Value}(h:bA M f az H fun v H'=> H.le H'/\v=w)(e:w=w'):bA M f az H fun v H'=> H.le H'/\v=w':=e▸h
theorem OF {M:Md prog}{f:FuncId}{az:Array Value}{H:View}{w w':Bool}(h:bA M f az H fun v H'=> H.le H'/\v=.bool w)(e:w=w'):bA M f az H fun v H'=> H.le H'/\v=.bool w':=e▸h
def eC(f:Nat->Int):Nat->Int
 | 0=> 0
 | n+1=> if eC f n=0 then f n else eC f n
theorem XQ {f:Nat->Int}{j:Nat}(h:eC f j≠0):∀m,j<=m->eC f m=eC f j:=by
 intro m hm;induction m with
 | zero=>
  have:j=0:=by omega
  subst this;rfl
 | succ m ih=>
  by_cases e:j=m+1
  ·subst e;rfl
  ·rw[eC,ih oM,if_neg h]
theorem ZB {f:Nat->Int}{j:Nat}(h0:eC f j=0){a:Int}(h:f j=a)(ha:a≠0){m:Nat}(hm:j<m):eC f m=a:=by
 have h1:eC f (j+1)=a:=by rw[eC,if_pos h0];exact h
 rw[XQ (j:=j+1) (by rw[h1];exact ha) m oM,h1]
def pD(x:Int):Bool:=decide (0<=x/\x<=2)
def Bk.wD(k:Bk):Int:=if(1<=k.cD/\k.cD<=99)/\(k.cD+1<=k.rB/\k.rB<=99) then 0 else 1
def Bk.gC(k:Bk)(i:Nat):Bool:=!XA (k.pf i) (k.pt i) (k.qf i) (k.qt i)
def Bk.LC(k:Bk):Int:=if 6<k.nt then 2 else if(jA k.gC k.nt).isSome then 1 else 0
section
variable(M:Md prog)(H:View)
theorem PY(F:Option Addr)(n fc:Nat)(x:Nat->Int)(hF:pB H F n x)(hn:n<=1000)(fv:Value)(p:Nat->Bool)(hp:∀j,j<n->∀H',H.le H'->yB M fv [.int .i64 (x j)] H' fun v H''=> H'.le H''/\v=.bool (p j)):
  bA M 377 #[.slice F n fc,fv] H (fun v H'=> H.le H'/\v=.int .i64 (fB (jA p n))):=by
 refine .en func377 ntmps377 fun St c cs hK=> ?_;refine PF ?_;refine Tc.db (Tc.sA (σ:= { j:Nat//j<=n/\jA p j=none }) (fun j=> ([(0,.slice F n fc),(1,fv),(7,.int .i64 (n:Nat)),(8,.int .i64 (j.1:Nat))],[])) (fun j=> n-j.1) ?_ ⟨0,Nat.zero_le _,rfl⟩);rintro⟨j,hj,dC⟩ ih;show Tc M St _ _ _ _ [(0,.slice F n fc),(1,fv),(7,.int .i64 (n:Nat)),(8,.int .i64 (j:Nat))] [] _ _;by_cases c1:j=n
 ·subst c1;rw[dC] at hK;refine qE ?_;refine .rt hK func377 results377 [_] ?_;exact okB
 ·have c2:j<n:=by omega
  obtain h0|⟨ab,ao,f,gs,gt,gz,rfl,hb,hl⟩:=hF
  ·omega
  have f1:=hl j c2;have eN:=hp j c2;cases lF:p j with
  | true=>
   rw[lF] at eN;have e:jA p n=some j:=TA (j:=j+1) (by simp[jA,dC,lF]) _ oM;rw[e] at hK;refine zP ?_;refine .c rfl rfl rfl rfl (fun H hs=> eN H hs.base) ?_;refine U7 ?_;refine .rt hK func377 results377 [_] ?_;exact okB
  | false=>
   rw[lF] at eN;refine zP ?_;refine .c rfl rfl rfl rfl (fun H hs=> eN H hs.base) ?_;refine U8 ?_;exact Tc.db (ih ⟨j+1,oM,by simp[jA,dC,lF]⟩ (by simp only;omega))
theorem BU(x:Int):bA M 374 #[.int .i64 x] H (fun v H'=> H.le H'/\v=.bool (!pD x)):=by
 cases h:pD x with
 | true=>
  refine .en func374 ntmps374 fun St c cs hK=> ?_;refine U7 ?_;refine .cl (fun H hs=> uA M H x 0 2 true h) ?_;refine U3 ?_;refine .rt hK func374 results374 [_] ?_;exact okB
 | false=>
  refine .en func374 ntmps374 fun St c cs hK=> ?_;refine U7 ?_;refine .cl (fun H hs=> uA M H x 0 2 false h) ?_;refine U3 ?_;refine .rt hK func374 results374 [_] ?_;exact okB
theorem WL(F:Option Addr)(n fc:Nat)(x:Nat->Int)(hF:pB H F n x)(hn:n<=1000):
  bA M 373 #[.slice F n fc,.func (.func 374) #[] #[]] H (fun v H'=> H.le H'/\v=.bool (jA (fun j=> !pD (x j)) n).isSome):=by
 have hi:=fun(H':View) (h':H.le H')=> PY M H' F n fc x (hF.le h') hn (.func (.func 374) #[] #[]) (fun j=> !pD (x j)) (fun j _ H'' _=> .h (BU M H'' (x j)));cases hq:jA (fun j=> !pD (x j)) n with
 | none=>
  rw[hq] at hi;have e:fB none= -1:=rfl;rw[e] at hi;refine .en func373 ntmps373 fun St c cs hK=> ?_;refine U8 ?_;refine .cl (fun H hs=> hi H hs.base) ?_;refine U3 ?_;refine .rt hK func373 results373 [_] ?_;exact okB
 | some j=>
  rw[hq] at hi;have e:fB (some j)=(j:Nat):=rfl;rw[e] at hi;refine .en func373 ntmps373 fun St c cs hK=> ?_;refine U8 ?_;refine .cl (fun H hs=> hi H hs.base) ?_;refine U3 ?_;refine .rt hK func373 results373 [_] ?_;exact okB
theorem JO(a b c' d:Int):bA M 376 #[mD a b c' d] H (fun v H'=> H.le H'/\v=.bool (!XA a b c' d)):=by
 cases h:XA a b c' d with
 | true=>
  have ht:=fun(H':View)=> OF (yE M H' a b c' d) h;refine .en func376 ntmps376 fun St c cs hK=> ?_;refine U2 ?_;refine .bo fun b1=> ?_;refine U5 ?_;refine .cl (fun H hs=> ht H) ?_;refine U3 ?_;refine .rt hK func376 results376 [_] ?_;exact okB
 | false=>
  have ht:=fun(H':View)=> OF (yE M H' a b c' d) h;refine .en func376 ntmps376 fun St c cs hK=> ?_;refine U2 ?_;refine .bo fun b1=> ?_;refine U5 ?_;refine .cl (fun H hs=> ht H) ?_;refine U3 ?_;refine .rt hK func376 results376 [_] ?_;exact okB
theorem TY(k:Bk)(B:Option Addr)(tc:Nat)(hB:uC H k B tc)(hn:k.nt<=1000):
  bA M 378 #[.slice B k.nt tc,.func (.func 376) #[] #[]] H (fun v H'=> H.le H'/\v=.int .i64 (fB (jA k.gC k.nt))):=by
 refine .en func378 ntmps378 fun St c cs hK=> ?_;refine PF ?_;refine Tc.db (Tc.sA (σ:= { j:Nat//j<=k.nt/\jA k.gC j=none }) (fun j=> ([(0,.slice B k.nt tc),(1,.func (.func 376) #[] #[]),(7,.int .i64 (k.nt:Nat)),(8,.int .i64 (j.1:Nat))],[])) (fun j=> k.nt-j.1) ?_ ⟨0,Nat.zero_le _,rfl⟩);rintro⟨j,hj,dC⟩ ih;show Tc M St _ _ _ _ [(0,.slice B k.nt tc),(1,.func (.func 376) #[] #[]),(7,.int .i64 (k.nt:Nat)),(8,.int .i64 (j:Nat))] [] _ _;by_cases c1:j=k.nt
 ·subst c1;rw[dC] at hK;refine qE ?_;refine .rt hK func378 results378 [_] ?_;exact okB
 ·have c2:j<k.nt:=by omega
  obtain⟨_,h0|⟨ab,ao,f,gs,gt,gz,rfl,hb,hl⟩⟩:=hB
  ·omega
  have f1:=hl j c2;cases lF:k.gC j with
  | true=>
   have ht:=fun(H':View)=> OF (JO M H' (k.pf j) (k.pt j) (k.qf j) (k.qt j)) lF;have e:jA k.gC k.nt=some j:=TA (j:=j+1) (by simp[jA,dC,lF]) _ oM;rw[e] at hK;refine zP ?_;refine .cl (fun H hs=> ht H) ?_;refine U7 ?_;refine .rt hK func378 results378 [_] ?_;exact okB
  | false=>
   have ht:=fun(H':View)=> OF (JO M H' (k.pf j) (k.pt j) (k.qf j) (k.qt j)) lF;refine zP ?_;refine .cl (fun H hs=> ht H) ?_;refine U8 ?_;exact Tc.db (ih ⟨j+1,oM,by simp[jA,dC,lF]⟩ (by simp only;omega))
theorem aS(k:Bk)(B:Option Addr)(tc:Nat)(hB:uC H k B tc)(hn:k.nt<=1000):
  bA M 375 #[.slice B k.nt tc,.func (.func 376) #[] #[]] H (fun v H'=> H.le H'/\v=.bool (jA k.gC k.nt).isSome):=by
 have hi:=fun(H':View) (h':H.le H')=> TY M H' k B tc (hB.le h') hn;cases hq:jA k.gC k.nt with
 | none=>
  rw[hq] at hi;have e:fB none= -1:=rfl;rw[e] at hi;refine .en func375 ntmps375 fun St c cs hK=> ?_;refine U8 ?_;refine .cl (fun H hs=> hi H hs.base) ?_;refine U3 ?_;refine .rt hK func375 results375 [_] ?_;exact okB
 | some j=>
  rw[hq] at hi;have e:fB (some j)=(j:Nat):=rfl;rw[e] at hi;refine .en func375 ntmps375 fun St c cs hK=> ?_;refine U8 ?_;refine .cl (fun H hs=> hi H hs.base) ?_;refine U3 ?_;refine .rt hK func375 results375 [_] ?_;exact okB
theorem j4(k:Bk)(A:Option Addr)(lc:Nat)(B:Option Addr)(tc:Nat)(hB:uC H k B tc)(hn:k.nt<=1000):
  bA M 370 #[k.val A lc B tc] H (fun v H'=> H.le H'/\v=.int .i64 k.LC):=by
 by_cases c1:6<k.nt
 ·have e:k.LC=2:=if_pos c1;rw[e];refine .en func370 ntmps370 fun St c cs hK=> ?_;refine U2 ?_;refine .bo fun b1=> ?_;refine SR ?_;refine .rt hK func370 results370 [_] ?_;exact okB
 ·have hc:=fun(H':View) (h':H.le H')=> aS M H' k B tc (hB.le h') hn;cases hq:(jA k.gC k.nt).isSome with
  | true=>
   rw[hq] at hc;have e:k.LC=1:=by unfold Bk.LC;rw[if_neg c1,hq];rfl
   rw[e];refine .en func370 ntmps370 fun St c cs hK=> ?_;refine U2 ?_;refine .bo fun b1=> ?_;refine hU ?_;refine .cl (fun H hs=> hc H hs.base) ?_;refine U7 ?_;refine .rt hK func370 results370 [_] ?_;exact okB
  | false=>
   rw[hq] at hc;have e:k.LC=0:=by unfold Bk.LC;rw[if_neg c1,hq];rfl
   rw[e];refine .en func370 ntmps370 fun St c cs hK=> ?_;refine U2 ?_;refine .bo fun b1=> ?_;refine hU ?_;refine .cl (fun H hs=> hc H hs.base) ?_;refine U9 ?_;refine .rt hK func370 results370 [_] ?_;exact okB
theorem P2(k:Bk)(A:Option Addr)(lc:Nat)(B:Option Addr)(tc:Nat):
  bA M 368 #[k.val A lc B tc] H (fun v H'=> H.le H'/\v=.int .i64 k.wD):=by
 by_cases c1:1<=k.cD/\k.cD<=99
 ·by_cases c2:k.cD+1<=k.rB/\k.rB<=99
  ·have e:k.wD=0:=if_pos ⟨c1,c2⟩;rw[e];have h1:=fun(H':View)=> uA M H' k.cD 1 99 true (decide_eq_true c1);have h2:=fun(H':View)=> uA M H' k.rB (k.cD+1) 99 true (decide_eq_true c2);refine .en func368 ntmps368 fun St c cs hK=> ?_;refine U2 ?_;refine .bo fun b1=> ?_;refine U8 ?_;refine .cl (fun H hs=> h1 H) ?_;refine U9 ?_;refine .cl (fun H hs=> h2 H) ?_;refine U9 ?_;refine .rt hK func368 results368 [_] ?_;exact okB
  ·have e:k.wD=1:=if_neg (fun h=> c2 h.2);rw[e];have h1:=fun(H':View)=> uA M H' k.cD 1 99 true (decide_eq_true c1);have h2:=fun(H':View)=> uA M H' k.rB (k.cD+1) 99 false (decide_eq_false c2);refine .en func368 ntmps368 fun St c cs hK=> ?_;refine U2 ?_;refine .bo fun b1=> ?_;refine U8 ?_;refine .cl (fun H hs=> h1 H) ?_;refine U9 ?_;refine .cl (fun H hs=> h2 H) ?_;refine U8 ?_;refine .rt hK func368 results368 [_] ?_;exact okB
 ·have e:k.wD=1:=if_neg (fun h=> c1 h.1);rw[e];have h1:=fun(H':View)=> uA M H' k.cD 1 99 false (decide_eq_false c1);refine .en func368 ntmps368 fun St c cs hK=> ?_;refine U2 ?_;refine .bo fun b1=> ?_;refine U8 ?_;refine .cl (fun H hs=> h1 H) ?_;refine SR ?_;refine .rt hK func368 results368 [_] ?_;exact okB
end
set_option maxHeartbeats 8000000
def Bk.pre(k:Bk)(i:Nat):Bk:= { k with nl:=i }
def Bk.again(k:Bk)(i:Nat):Bool:=(jA (fun j=> k.name j==k.name i) i).isSome
def Bk.UG(k:Bk)(i:Nat):Bool:=(jA (fun j=> !pD (k.free i j)) (k.nf i)).isSome
def Bk.SB(k:Bk)(i:Nat):Int:=if xH (k.name i)=false then 4 else if k.again i=true then 5 else if isNum (k.num i)=false then 3 else if(k.pre i).clash (k.num i)=true then 10 else if decide (1<=((k.nf i:Nat):Int)/\((k.nf i:Nat):Int)<=4)=false then 2 else if k.UG i=true then 1 else 0
def Bk.ED(k:Bk):Int:=if 6<k.nl then 2 else eC k.SB k.nl
def Bk.QA(k:Bk):Int:=if k.wD=0 then if k.ED=0 then k.LC else k.ED else k.wD
theorem nC.pre {H:View}{k:Bk}{A:Option Addr}{lc:Nat}(h:nC H k A lc){i:Nat}(hi:i<=k.nl):nC H (k.pre i) A lc:=by
 obtain⟨h1,h2⟩:=h;refine⟨Nat.le_trans hi h1,?_⟩;rcases h2 with h2|⟨b,o,f,gs,gt,gz,h3,h4,h5⟩
 ·exact .inl (by show i=0;omega)
 ·exact .inr ⟨b,o,f,gs,gt,gz,h3,h4,fun j hj=> h5 j (Nat.lt_of_lt_of_le hj hi)⟩
section
variable(M:Md prog)(H:View)
theorem OL(nm:List UInt8)(b3:Nat)(f:Bool)(c0:List Value)(hb:H b3=some (f,.cells ⟨gA nm::c0⟩ 68 (0,0)))(a num:List UInt8)(F:Option Addr)(n fc:Nat):
  bA M 372 #[nJ a num F n fc,.pointer (some ⟨b3,0,none⟩)] H (fun v H'=> H.le H'/\v=.bool (a==nm)):=by
 refine .en func372 ntmps372 fun St c cs hK=> ?_;refine U2 ?_;refine .bo fun b2=> ?_;refine qE ?_;refine .rt hK func372 results372 [_] ?_;exact okB
theorem x7 (k:Bk)(A:Option Addr)(lc:Nat)(B:Option Addr)(tc:Nat)(hA:nC H k A lc)(hn:k.nl<=1000)(AH:∀i,i<k.nl->(k.num i).length<=1000000/\k.nf i<=1000):
  bA M 369 #[k.val A lc B tc] H (fun v H'=> H.le H'/\v=.int .i64 k.ED):=by
 by_cases c1:6<k.nl
 ·have e:k.ED=2:=if_pos c1;rw[e];refine .en func369 ntmps369 fun St c cs hK=> ?_;refine U2 ?_;refine .bo fun b1=> ?_;refine aP ?_;refine .rt hK func369 results369 [_] ?_;exact okB
 ·have e:k.ED=eC k.SB k.nl:=if_neg c1;rw[e];clear e;refine .en func369 ntmps369 fun St c cs hK=> ?_;refine U2 ?_;refine .bo fun b1=> ?_;refine F9 ?_;refine Tc.db (Tc.sA (σ:= { j:Nat//j<=k.nl/\eC k.SB j=0 }) (fun j=> ([(1,.pointer (some ⟨b1,0,none⟩)),(13,.slice A k.nl lc),(14,.int .i64 (k.nl:Nat)),(15,.int .i64 (j.1:Nat))],[(b1,true,.cells ⟨(k.val A lc B tc).cells.toList⟩ 166 (0,0))])) (fun j=> k.nl-j.1) ?_ ⟨0,Nat.zero_le _,rfl⟩);rintro⟨j,hj,dC⟩ ih;show Tc M St _ _ _ _ [(1,.pointer (some ⟨b1,0,none⟩)),(13,.slice A k.nl lc),(14,.int .i64 (k.nl:Nat)),(15,.int .i64 (j:Nat))] [(b1,true,.cells ⟨(k.val A lc B tc).cells.toList⟩ 166 (0,0))] _ _;by_cases c2:j=k.nl
  ·subst c2;rw[dC] at hK;refine qE ?_;refine .rt hK func369 results369 [_] ?_;exact okB
  ·have c3 : j < k.nl:=by omega
   have hA':=hA;obtain⟨Y6,h0|⟨ab,ao,f,gs,gt,gz,rfl,hb,hl⟩⟩:=hA
   ·omega
   obtain⟨F,fc,f1,_,hF⟩:=hl j c3;obtain⟨s1,s2⟩:=AH j c3;have IW:nC H (k.pre j) (some ⟨ab,ao,none⟩) lc:=hA'.pre hj;cases q0:xH (k.name j) with
   | false=>
    have eA:k.SB j=4:=by unfold Bk.SB;simp only[q0];simp
    rw[ZB dC eA dE c3] at hK;refine vF ?_;refine .al fun b4=> ?_;refine U9 ?_;refine .x (pA.sliceTo (E:=en) (k:=j) rfl rfl rfl rfl rfl rfl oM oM) ?_;refine U7 ?_;refine .cl (fun H hs=> OF (DF M H (k.name j)) q0) ?_;refine U8 ?_;refine .rt hK func369 results369 [_] ?_;exact okB
   | true=>
    cases q1:k.again j with
    | true=>
     have eA:k.SB j=5:=by unfold Bk.SB;simp only[q0,q1];simp
     rw[ZB dC eA dE c3] at hK;refine vF ?_;refine .al fun b4=> ?_;refine U9 ?_;refine .x (pA.sliceTo (E:=en) (k:=j) rfl rfl rfl rfl rfl rfl oM oM) ?_;refine U7 ?_;refine .cl (fun H hs=> OF (DF M H (k.name j)) q0) ?_;refine U8 ?_;refine .cl (fun H hs=> OF (fD M H (k.pre j) (some ⟨ab,ao,none⟩) lc (IW.le hs.base) (by show j<=1000;omega) _ (fun i=> k.name i==k.name j) (fun i _ F fc H' hle=> yB.of (first:= []) (captured:= [_]) FP rfl (OL M H' (k.name j) b4 true _ (hle _ _ (hs.get (i:=0) rfl)) (k.name i) (k.num i) F (k.nf i) fc))) q1) ?_;refine U7 ?_;refine .rt hK func369 results369 [_] ?_;exact okB
    | false =>
     cases q2:isNum (k.num j) with
     | false=>
      have eA:k.SB j=3:=by unfold Bk.SB;simp only[q0,q1,q2];simp
      rw[ZB dC eA dE c3] at hK;refine vF ?_;refine .al fun b4=> ?_;refine U9 ?_;refine .x (pA.sliceTo (E:=en) (k:=j) rfl rfl rfl rfl rfl rfl oM oM) ?_;refine U7 ?_;refine .cl (fun H hs=> OF (DF M H (k.name j)) q0) ?_;refine U8 ?_;refine .cl (fun H hs=> OF (fD M H (k.pre j) (some ⟨ab,ao,none⟩) lc (IW.le hs.base) (by show j<=1000;omega) _ (fun i=> k.name i==k.name j) (fun i _ F fc H' hle=> yB.of (first:= []) (captured:= [_]) FP rfl (OL M H' (k.name j) b4 true _ (hle _ _ (hs.get (i:=0) rfl)) (k.name i) (k.num i) F (k.nf i) fc))) q1) ?_;refine U7 ?_;refine .cl (fun H hs=> OF (qC M H (k.num j) s1) q2) ?_;refine U8 ?_;refine .rt hK func369 results369 [_] ?_;exact okB
     | true=>
      cases q3:(k.pre j).clash (k.num j) with
      | true=>
       have eA:k.SB j=10:=by unfold Bk.SB;simp only[q0,q1,q2,q3];simp
       rw[ZB dC eA dE c3] at hK;refine vF ?_;refine .al fun b4=> ?_;refine U9 ?_;refine .x (pA.sliceTo (E:=en) (k:=j) rfl rfl rfl rfl rfl rfl oM oM) ?_;refine U7 ?_;refine .cl (fun H hs=> OF (DF M H (k.name j)) q0) ?_;refine U8 ?_;refine .cl (fun H hs=> OF (fD M H (k.pre j) (some ⟨ab,ao,none⟩) lc (IW.le hs.base) (by show j<=1000;omega) _ (fun i=> k.name i==k.name j) (fun i _ F fc H' hle=> yB.of (first:= []) (captured:= [_]) FP rfl (OL M H' (k.name j) b4 true _ (hle _ _ (hs.get (i:=0) rfl)) (k.name i) (k.num i) F (k.nf i) fc))) q1) ?_;refine U7 ?_;refine .cl (fun H hs=> OF (qC M H (k.num j) s1) q2) ?_;refine U9 ?_;refine .cl (fun H hs=> OF (wE M H (k.pre j) (some ⟨ab,ao,none⟩) lc (IW.le hs.base) (by show j<=1000;omega) (k.num j)) q3) ?_;refine U7 ?_;refine .rt hK func369 results369 [_] ?_;exact okB
      | false=>
       cases q4:decide (1<=((k.nf j:Nat):Int)/\((k.nf j:Nat):Int)<=4) with
       | false=>
        have eA:k.SB j=2:=by unfold Bk.SB;simp only[q0,q1,q2,q3,q4];simp
        rw[ZB dC eA dE c3] at hK;refine vF ?_;refine .al fun b4=> ?_;refine U9 ?_;refine .x (pA.sliceTo (E:=en) (k:=j) rfl rfl rfl rfl rfl rfl oM oM) ?_;refine U7 ?_;refine .cl (fun H hs=> OF (DF M H (k.name j)) q0) ?_;refine U8 ?_;refine .cl (fun H hs=> OF (fD M H (k.pre j) (some ⟨ab,ao,none⟩) lc (IW.le hs.base) (by show j<=1000;omega) _ (fun i=> k.name i==k.name j) (fun i _ F fc H' hle=> yB.of (first:= []) (captured:= [_]) FP rfl (OL M H' (k.name j) b4 true _ (hle _ _ (hs.get (i:=0) rfl)) (k.name i) (k.num i) F (k.nf i) fc))) q1) ?_;refine U7 ?_;refine .cl (fun H hs=> OF (qC M H (k.num j) s1) q2) ?_;refine U9 ?_;refine .cl (fun H hs=> OF (wE M H (k.pre j) (some ⟨ab,ao,none⟩) lc (IW.le hs.base) (by show j<=1000;omega) (k.num j)) q3) ?_;refine U8 ?_;refine .cl (fun H hs=> uA M H ((k.nf j:Nat):Int) 1 4 false q4) ?_;refine U8 ?_;refine .rt hK func369 results369 [_] ?_;exact okB
       | true=>
        cases q5:k.UG j with
        | true=>
         have eA:k.SB j=1:=by unfold Bk.SB;simp only[q0,q1,q2,q3,q4,q5];simp
         rw[ZB dC eA dE c3] at hK;refine vF ?_;refine .al fun b4=> ?_;refine U9 ?_;refine .x (pA.sliceTo (E:=en) (k:=j) rfl rfl rfl rfl rfl rfl oM oM) ?_;refine U7 ?_;refine .cl (fun H hs=> OF (DF M H (k.name j)) q0) ?_;refine U8 ?_;refine .cl (fun H hs=> OF (fD M H (k.pre j) (some ⟨ab,ao,none⟩) lc (IW.le hs.base) (by show j<=1000;omega) _ (fun i=> k.name i==k.name j) (fun i _ F fc H' hle=> yB.of (first:= []) (captured:= [_]) FP rfl (OL M H' (k.name j) b4 true _ (hle _ _ (hs.get (i:=0) rfl)) (k.name i) (k.num i) F (k.nf i) fc))) q1) ?_;refine U7 ?_;refine .cl (fun H hs=> OF (qC M H (k.num j) s1) q2) ?_;refine U9 ?_;refine .cl (fun H hs=> OF (wE M H (k.pre j) (some ⟨ab,ao,none⟩) lc (IW.le hs.base) (by show j<=1000;omega) (k.num j)) q3) ?_;refine U8 ?_;refine .cl (fun H hs=> uA M H ((k.nf j:Nat):Int) 1 4 true q4) ?_;refine U8 ?_;refine .cl (fun H hs=> OF (WL M H F (k.nf j) fc (k.free j) (hF.le hs.base) s2) q5) ?_;refine U7 ?_;refine .rt hK func369 results369 [_] ?_;exact okB
        | false=>
         have eA:k.SB j=0:=by unfold Bk.SB;simp only[q0,q1,q2,q3,q4,q5];simp
         refine vF ?_;refine .al fun b4=> ?_;refine U9 ?_;refine .x (pA.sliceTo (E:=en) (k:=j) rfl rfl rfl rfl rfl rfl oM oM) ?_;refine U7 ?_;refine .cl (fun H hs=> OF (DF M H (k.name j)) q0) ?_;refine U8 ?_;refine .cl (fun H hs=> OF (fD M H (k.pre j) (some ⟨ab,ao,none⟩) lc (IW.le hs.base) (by show j<=1000;omega) _ (fun i=> k.name i==k.name j) (fun i _ F fc H' hle=> yB.of (first:= []) (captured:= [_]) FP rfl (OL M H' (k.name j) b4 true _ (hle _ _ (hs.get (i:=0) rfl)) (k.name i) (k.num i) F (k.nf i) fc))) q1) ?_;refine U7 ?_;refine .cl (fun H hs=> OF (qC M H (k.num j) s1) q2) ?_;refine U9 ?_;refine .cl (fun H hs=> OF (wE M H (k.pre j) (some ⟨ab,ao,none⟩) lc (IW.le hs.base) (by show j<=1000;omega) (k.num j)) q3) ?_;refine U8 ?_;refine .cl (fun H hs=> uA M H ((k.nf j:Nat):Int) 1 4 true q4) ?_;refine U8 ?_;refine .cl (fun H hs=> OF (WL M H F (k.nf j) fc (k.free j) (hF.le hs.base) s2) q5) ?_;refine DD ?_;exact Tc.db (ih ⟨j+1,oM,by rw[eC,if_pos dC];exact eA⟩ (by simp only;omega))
def MH(i:Nat):Value:=.func (.func ([368,369,370][i]?.getD 0)) #[] #[]
def gF(H:View):Prop:=(∃f gt gz,H 3=some (f,.cells ⟨[MH 0,MH 1,MH 2]⟩ gt gz))/\∃f gt gz,H 1=some (f,.cells ⟨[.int .i64 0,.int .i64 2,.int .i64 1]⟩ gt gz)
def Bk.chk(k:Bk)(i:Nat):Int:= [k.wD,k.ED,k.LC][i]?.getD 0
theorem FA {H H':View}(h:gF H)(hl:H.le H'):gF H':=⟨h.1.imp fun _ ⟨gt,gz,e⟩=> ⟨gt,gz,hl _ _ e⟩,h.2.imp fun _ ⟨gt,gz,e⟩=> ⟨gt,gz,hl _ _ e⟩⟩
theorem Bk.jZ(k:Bk):k.QA=eC k.chk 3:=by
 unfold Bk.QA;simp only[eC,Bk.chk];by_cases h1:k.wD=0 <;> by_cases h2:k.ED=0 <;> simp[h1,h2]
structure fE(H:View)(k:Bk)(A:Option Addr)(lc:Nat)(B:Option Addr)(tc:Nat):Prop where
 rows:nC H k A lc
 JC:uC H k B tc
theorem fE.le {H H':View}{k:Bk}{A:Option Addr}{lc:Nat}{B:Option Addr}{tc:Nat}(h:fE H k A lc B tc)(hl:H.le H'):fE H' k A lc B tc:=⟨h.rows.le hl,h.JC.le hl⟩
structure Bk.small(k:Bk):Prop where
 nl:k.nl<=1000
 nt:k.nt<=1000
 num:∀i,i<k.nl->(k.num i).length<=1000000/\k.nf i<=1000
theorem C8(k:Bk)(A:Option Addr)(lc:Nat)(B:Option Addr)(tc:Nat)(hk:fE H k A lc B tc)(hn:k.small)(i:Nat)(hi:i<3):yB M (MH i) [k.val A lc B tc] H fun v H''=> H.le H''/\v=.int .i64 (k.chk i):=by
 match i,hi with
 | 0,_=> exact yB.h (P2 M H k A lc B tc)
 | 1,_=> exact yB.h (x7 M H k A lc B tc hk.rows hn.nl hn.num)
 | 2,_=> exact yB.h (j4 M H k A lc B tc hk.JC hn.nt)
theorem RF(k:Bk)(A:Option Addr)(lc:Nat)(B:Option Addr)(tc:Nat)(hk:fE H k A lc B tc)(hn:k.small)(hG:gF H):
  bA M 106 #[k.val A lc B tc] H (fun v H'=> H.le H'/\v=.int .i64 k.QA):=by
 rw[k.jZ];obtain⟨⟨f,gt,gz,hG⟩,_⟩:=hG;refine .en func106 ntmps106 fun St c cs hK=> ?_;refine U2 ?_;refine .bo fun b1=> ?_;refine U9 ?_;refine Tc.db (Tc.sA (σ:= { j:Nat//j<=3/\eC k.chk j=0 }) (fun j=> ([(1,.pointer (some ⟨b1,0,none⟩)),(6,.agg ⟨[MH 0,MH 1,MH 2]⟩),(7,.int .i64 (j.1:Nat))],[(b1,true,.cells ⟨(k.val A lc B tc).cells.toList⟩ 45 (0,0))])) (fun j=> 3-j.1) ?_ ⟨0,Nat.zero_le _,rfl⟩);rintro⟨j,hj,dC⟩ ih;show Tc M St _ _ _ _ [(1,.pointer (some ⟨b1,0,none⟩)),(6,.agg ⟨[MH 0,MH 1,MH 2]⟩),(7,.int .i64 (j:Nat))] [(b1,true,.cells ⟨(k.val A lc B tc).cells.toList⟩ 45 (0,0))] _ _;by_cases c1:j=3
 ·subst c1;rw[dC] at hK;refine qE ?_;refine .rt hK func106 results106 [_] ?_;exact okB
 ·have c2:j<3:=by omega
  have f1:tE false 1 [MH 0,MH 1,MH 2] (((j:Nat):Int).toNat*1)=some (MH j):=by
   rcases(by omega:j=0\/j=1\/j=2) with rfl|rfl|rfl <;> rfl
  by_cases c3:k.chk j=0
  ·have hc:=fun(H':View) (h':H.le H')=> C8 M H' k A lc B tc (hk.le h') hn j c2;rw[c3] at hc;refine qE ?_;refine .x (pA.index (E:=en) rfl rfl rfl rfl rfl rfl oM oM (by assumption)) ?_;refine U7 ?_;refine .c rfl rfl rfl rfl (fun H hs=> hc H hs.base) ?_;refine vF ?_;exact Tc.db (ih ⟨j+1,oM,by rw[eC,if_pos dC];exact c3⟩ (by simp only;omega))
  ·rw[ZB dC rfl c3 c2] at hK;refine qE ?_;refine .x (pA.index (E:=en) rfl rfl rfl rfl rfl rfl oM oM (by assumption)) ?_;refine U7 ?_;refine .c rfl rfl rfl rfl (fun H hs=> C8 M H k A lc B tc (hk.le hs.base) hn j c2) ?_;refine LG ?_;refine .rt hK func106 results106 [_] ?_;exact okB
def bk0:Bk:=⟨0,0,0,fun _=> [],fun _=> [],fun _=> 0,fun _ _=> 0,0,fun _=> 0,fun _=> 0,fun _=> 0,fun _=> 0⟩
theorem bH(k:Bk)(A:Option Addr)(lc:Nat)(B:Option Addr)(tc:Nat)(there:Bool)(hk:fE H k A lc B tc)(hn:k.small)(hG:gF H)(ha:k.QA≠0):
  bA M 85 #[k.val A lc B tc,.bool there] H (fun v H'=> H.le H'/\v=.tuple ⟨[bk0.val none 0 none 0,.int .i64 k.QA]⟩):=by
 refine .en func85 ntmps85 fun St c cs hK=> ?_;refine U2 ?_;refine .bo fun b2=> ?_;refine .al fun b4=> ?_;refine U6 ?_;refine .cl (fun H hs=> RF M H k A lc B tc (hk.le hs.base) hn (FA hG hs.base)) ?_;refine XM ?_;refine .rt hK func85 results85 [_,_] ?_;exact okB
theorem j9(k:Bk)(A:Option Addr)(lc:Nat)(B:Option Addr)(tc:Nat)(hk:fE H k A lc B tc)(hn:k.small)(hG:gF H)(ha:k.QA=0):
  bA M 85 #[k.val A lc B tc,.bool false] H (fun v H'=> H.le H'/\v=.tuple ⟨[bk0.val none 0 none 0,.int .i64 6]⟩):=by
 have hc:=fun(H':View) (h':H.le H')=> RF M H' k A lc B tc (hk.le h') hn (FA hG h');rw[ha] at hc;refine .en func85 ntmps85 fun St c cs hK=> ?_;refine U2 ?_;refine .bo fun b2=> ?_;refine .al fun b4=> ?_;refine U6 ?_;refine .cl (fun H hs=> hc H hs.base) ?_;refine P4 ?_;refine .rt hK func85 results85 [_,_] ?_;exact okB
theorem BC(k:Bk)(A:Option Addr)(lc:Nat)(B:Option Addr)(tc:Nat)(hk:fE H k A lc B tc)(hn:k.small)(hG:gF H)(ha:k.QA=0):
  bA M 85 #[k.val A lc B tc,.bool true] H (fun v H'=> H.le H'/\v=.tuple ⟨[k.val A lc B tc,.int .i64 0]⟩):=by
 have hc:=fun(H':View) (h':H.le H')=> RF M H' k A lc B tc (hk.le h') hn (FA hG h');rw[ha] at hc;refine .en func85 ntmps85 fun St c cs hK=> ?_;refine U2 ?_;refine .bo fun b2=> ?_;refine .al fun b4=> ?_;refine U6 ?_;refine .cl (fun H hs=> hc H hs.base) ?_;refine U24 ?_;refine .rt hK func85 results85 [_,_] ?_;exact okB
end
set_option maxHeartbeats 4000000
def G4(a b:Nat):List Nat:=List.range' a (b+1-a)
theorem nX {a b:Nat}(h:b<a):G4 a b= []:=by unfold G4;rw[show b+1-a=0 by omega];rfl
theorem ZT {a b:Nat}(h:a<=b):G4 a b=a::G4 (a+1) b:=by
 unfold G4;rw[show b+1-a=(b+1-(a+1))+1 by omega];rfl
theorem A7 {a b x:Nat}:x∈G4 a b<->a<=x/\x<=b:=by
 unfold G4;rw[List.mem_range'_1];omega
def jK(a b lo hi:Nat):List (Nat×Nat):=(G4 a b).flatMap fun n=> (G4 lo hi).map fun d=> (n,d)
def jF(n b lo hi d:Nat):List (Nat×Nat):=(G4 d hi).map (fun d=> (n,d))++jK (n+1) b lo hi
theorem uZ {a b lo hi:Nat}(h:b<a):jK a b lo hi= []:=by unfold jK;rw[nX h];rfl
theorem yX {a b lo hi:Nat}(h:a<=b):jK a b lo hi=jF a b lo hi lo:=by unfold jK jF;rw[ZT h,List.flatMap_cons];rfl
theorem KQ {n b lo hi d:Nat}(h:d<=hi):jF n b lo hi d=(n,d)::jF n b lo hi (d+1):=by unfold jF;rw[ZT h];rfl
theorem vS {n b lo hi d:Nat}(h:hi<d):jF n b lo hi d=jK (n+1) b lo hi:=by unfold jF;rw[nX h];rfl
theorem GK {a b lo hi:Nat}{x:Nat×Nat}:x∈jK a b lo hi<->(a<=x.1/\x.1<=b)/\(lo<=x.2/\x.2<=hi):=by
 unfold jK;simp only[List.mem_flatMap,List.mem_map,A7];constructor
 ·rintro⟨n,h1,d,h2,rfl⟩;exact⟨h1,h2⟩
 ·rintro⟨h1,h2⟩;exact⟨x.1,h1,x.2,h2,rfl⟩
def Q9(b5 b2:Nat):Value:=.func (.func 255) #[] #[.pointer (some ⟨b5,0,none⟩),.pointer (some ⟨b2,0,none⟩)]
structure gL(v w:Value)(b5 b2:Nat)(H:View):Prop where
 a:∃f,H b5=some (f,.cells ⟨v.cells.toList⟩ 39 (0,0))
 b:∃f,H b2=some (f,.cells ⟨w.cells.toList⟩ 166 (0,0))
theorem gL.le {v w:Value}{b5 b2:Nat}(H H':View)(h:H.le H')(c:gL v w b5 b2 H):gL v w b5 b2 H':=
 ⟨c.a.imp fun _ e=> h _ _ e,c.b.imp fun _ e=> h _ _ e⟩
def Bk.can(k:Bk)(i:Nat):List (Nat×Nat):=jK (k.pf i).toNat (k.pt i).toNat (k.kind (k.qf i)) (k.kind (k.qt i))
section
variable(M:Md prog)(H:View)
theorem B8(k:Bk)(A:Option Addr)(lc:Nat)(B:Option Addr)(tc:Nat)(hB:uC H k B tc)(i:Nat)(hi:i<k.nt):
  bA M 195 #[k.val A lc B tc,.int .i64 (i:Nat)] H (fun v H'=> H.le H'/\∃b5 b2,v=Q9 b5 b2/\gL (mD (k.pf i) (k.pt i) (k.qf i) (k.qt i)) (k.val A lc B tc) b5 b2 H'):=by
 obtain⟨_,h0|⟨tb,to,f,gs,gt,gz,rfl,hb,ht⟩⟩:=hB
 ·omega
 have f1:=ht i hi;refine .en func195 ntmps195 fun St c cs hK=> ?_;refine U2 ?_;refine .bo fun b2=> ?_;refine DD ?_;refine .al fun b5=> ?_;refine U7 ?_;refine .rt hK func195 results195 [_] ?_;exact fun H' hs=> ⟨hs.base,b5,b2,rfl,⟨true,hs.get (i:=0) rfl⟩,⟨true,hs.get (i:=1) rfl⟩⟩
theorem vZ(k:Bk)(A:Option Addr)(lc:Nat)(B:Option Addr)(tc:Nat)(i:Nat)(a b lo hi:Nat)(ha:k.pf i=(a:Nat))(hb:k.pt i=(b:Nat))(ZZ:b<=1000)(AL:k.kind (k.qf i)=lo)(ON:k.kind (k.qt i)=hi)(aE7:hi<=2)(b5 b2:Nat)
  (hC:gL (mD (k.pf i) (k.pt i) (k.qf i) (k.qt i)) (k.val A lc B tc) b5 b2 H):
  tP M (Q9 b5 b2) (jK a b lo hi) (fun x (_:Unit)=> [.int .i64 (x.1:Nat),.int .i64 (x.2:Nat)]) (fun _ _=> []) (fun _ _=> []) (gL (mD (k.pf i) (k.pt i) (k.qf i) (k.qt i)) (k.val A lc B tc) b5 b2) [] H:=fun l J D aC h0 hy H₀ ZD=> by
 have IY:=fun(H':View)=> nV M H' k A lc B tc (k.qf i);have VS:=fun(H':View)=> nV M H' k A lc B tc (k.qt i);rw[AL] at IY;rw[ON] at VS;rw[ha,hb] at hC aC;refine yB.of (first:= []) (captured:= [_,_]) aCu rfl ?_;obtain⟨⟨fa,h5⟩,⟨fb,h2⟩⟩:=hC;refine bA.enter (vs:= [.func (.yield l) #[] #[],.pointer (some ⟨b5,0,none⟩),.pointer (some ⟨b2,0,none⟩)]) func255 rfl ntmps255 (Nat.le_of_ble_eq_true rfl) (ZD) fun St c cs hK=> ?_;refine U8 ?_;refine Tc.db (Tc.oJ (σ:= { s:Nat×View//a<=s.1/\J (jK s.1 b lo hi) s.2 })
  (fun s=> (s.1.2,[(0,.func (.yield l) #[] #[]),(1,.pointer (some ⟨b5,0,none⟩)),(2,.pointer (some ⟨b2,0,none⟩)),(4,.int .i64 (s.1.1:Nat))],[])) (fun s=> b+1-s.1.1) ?_ ⟨(a,H),Nat.le_refl _,h0⟩)
 rintro⟨⟨n,H₁⟩,g1,j1⟩ ih₁;simp only at g1 j1;show Tc M St _ _ H₁ _ [(0,.func (.yield l) #[] #[]),(1,.pointer (some ⟨b5,0,none⟩)),(2,.pointer (some ⟨b2,0,none⟩)),(4,.int .i64 (n:Nat))] [] _ _;obtain⟨⟨fa,h5⟩,⟨fb,h2⟩⟩:=aC _ _ j1;by_cases c1:n<=b
 ·rw[yX c1] at j1;refine hU ?_;refine .cl (fun H hs=> IY H) ?_;refine U3 ?_;refine Tc.db (Tc.oJ (σ:= { s:Nat×View//lo<=s.1/\J (jF n b lo hi s.1) s.2 })
   (fun s=> (s.1.2,[(0,.func (.yield l) #[] #[]),(1,.pointer (some ⟨b5,0,none⟩)),(2,.pointer (some ⟨b2,0,none⟩)),(4,.int .i64 (n:Nat)),(5,.int .i64 (s.1.1:Nat))],[])) (fun s=> hi+1-s.1.1) ?_ ⟨(lo,H₁),Nat.le_refl _,j1⟩)
  rintro⟨⟨d,H₂⟩,g2,j2⟩ ih₂;simp only at g2 j2;show Tc M St _ _ H₂ _ [(0,.func (.yield l) #[] #[]),(1,.pointer (some ⟨b5,0,none⟩)),(2,.pointer (some ⟨b2,0,none⟩)),(4,.int .i64 (n:Nat)),(5,.int .i64 (d:Nat))] [] _ _;obtain⟨⟨fc,h6⟩,⟨fd,h7⟩⟩:=aC _ _ j2;by_cases c2:d<=hi
  ·rw[KQ c2] at j2;have JD:(n,d)∈jK a b lo hi:=GK.2 ⟨⟨g1,c1⟩,g2,c2⟩;refine U8 ?_;refine .cl (fun H hs=> VS H) ?_;refine qE ?_;refine To.uB rfl rfl rfl rfl rfl rfl dE (hy (n,d) (jF n b lo hi (d+1)) () H₂ H₂ JD j2 (iA.nil H₂)) (fun v H₃ hv=> ?_);rcases hv with ⟨rfl,H4,h8,j3⟩|⟨rfl,hD⟩
   ·refine To.lower h8.base ?_;refine DD ?_;exact Tc.db (ih₂ ⟨(d+1,H4),by simp only;omega,j3⟩ (by simp only;omega))
   ·refine U3 ?_;refine .rt hK func255 results255 [] ?_;exact fun H' hs=> ⟨H₃,hs.base,.inr hD⟩
  ·have c3:hi<d:=by omega
   rw[vS c3] at j2;refine U8 ?_;refine .cl (fun H hs=> VS H) ?_;refine DD ?_;exact Tc.db (ih₁ ⟨(n+1,H₂),by simp only;omega,j2⟩ (by simp only;omega))
 ·have c2:b<n:=by omega
  rw[uZ c2] at j1;refine qE ?_;refine .ov hK func255 results255 [] ?_;exact fun H' hs=> ⟨H₁,hs.base,.inl j1⟩
end
end Go.Proofs.YtldmfjcgjdchcaaGreatDoor
namespace Go.RL
open Go.Conc
structure IB(es:Array MapEntry)(cl:Nat)(F:Value->Value->Prop):Prop where
 keys:(es.toList.map (·.key)).Nodup
 iK:(es.toList.map (·.born)).Nodup
 lt:∀e∈es.toList,e.born<cl
 mem:∀k v,F k v<->∃e∈es.toList,e.key=k/\e.val=v
theorem IB.nil:IB #[] 0 fun _ _=> False:=⟨by simp,by simp,by simp,by simp⟩
theorem IB.congr {es:Array MapEntry}{cl:Nat}{F F':Value->Value->Prop}(h:IB es cl F)(k:∀a b,F' a b<->F a b):IB es cl F':=⟨h.keys,h.iK,h.lt,fun a b=> (k a b).trans (h.mem a b)⟩
theorem IB.find {es:Array MapEntry}{cl:Nat}{F:Value->Value->Prop}(h:IB es cl F){k:Value}{r:Option (Nat×Value)}(hr:xJ es.toList k r):match r with
  | some (_,v)=> F k v
  | none=> ∀v,¬F k v:=by
 cases r with
 | none=>
  intro v hv;obtain⟨e,he,h1,_⟩:=(h.mem k v).1 hv;exact hr e he h1
 | some p=>
  obtain⟨i,v⟩:=p;obtain⟨e,h1,h2,h3⟩:=hr;exact(h.mem k v).2 ⟨e,List.mem_of_getElem? h1,h2,h3⟩
theorem IB.put {es:Array MapEntry}{cl:Nat}{F:Value->Value->Prop}(h:IB es cl F){k:Value}(v:Value){r:Option (Nat×Value)}(hr:xJ es.toList k r):
  ∃es' cl',xV es cl k v r=.map es' cl'/\IB es' cl' fun k' v'=> (k'=k/\v'=v)\/(k'≠k/\F k' v'):=by
 cases r with
 | none=>
  refine⟨_,_,rfl,?_,?_,?_,?_⟩
  ·simp only[Array.toList_push,List.map_append,List.map_cons,List.map_nil];rw[List.nodup_append];refine⟨h.keys,by simp,fun a ha b hb=> ?_⟩;simp only[List.mem_singleton] at hb;subst hb;obtain⟨e,he,rfl⟩:=List.mem_map.1 ha;exact hr e he
  ·simp only[Array.toList_push,List.map_append,List.map_cons,List.map_nil];rw[List.nodup_append];refine⟨h.iK,by simp,fun a ha b hb=> ?_⟩;simp only[List.mem_singleton] at hb;subst hb;obtain⟨e,he,rfl⟩:=List.mem_map.1 ha;have:=h.lt e he;omega
  ·intro e he;simp only[Array.toList_push,List.mem_append,List.mem_singleton] at he;rcases he with he|rfl
   ·have:=h.lt e he;omega
   ·simp
  ·intro k' v';simp only[Array.toList_push,List.mem_append,List.mem_singleton];constructor
   ·rintro(⟨rfl,rfl⟩|⟨_,hf⟩)
    ·exact⟨_,.inr rfl,rfl,rfl⟩
    ·obtain⟨e,he,h1,h2⟩:=(h.mem k' v').1 hf;exact⟨e,.inl he,h1,h2⟩
   ·rintro⟨e,he|rfl,h1,h2⟩
    ·exact .inr ⟨fun e'=> hr e he (h1.trans e'),(h.mem k' v').2 ⟨e,he,h1,h2⟩⟩
    ·exact .inl ⟨h1.symm,h2.symm⟩
 | some p=>
  obtain⟨i,u⟩:=p;obtain⟨e,h1,h2,h3⟩:=hr;have hi:=(List.getElem?_eq_some_iff.1 h1).1;have he:es.toList[i]=e:=(List.getElem?_eq_some_iff.1 h1).2;have YI:es.toList=es.toList.take i++e::es.toList.drop (i+1):=by
   rw[<-he,<-List.drop_eq_getElem_cons hi,List.take_append_drop]
  have QN:(es.modify i fun e=> { e with key:=k,val:=v }).toList=es.toList.take i++{ e with key:=k,val:=v }::es.toList.drop (i+1):=by
   rw[Array.toList_modify,List.modify_eq_take_cons_drop hi,he]
  have hk:=h.keys;rw[YI,List.map_append,List.map_cons] at hk;refine⟨_,_,rfl,?_,?_,?_,?_⟩
  ·rw[QN,List.map_append,List.map_cons];rw[h2] at hk;exact hk
  ·have hb:=h.iK;rw[YI,List.map_append,List.map_cons] at hb;rw[QN,List.map_append,List.map_cons];exact hb
  ·intro x hx;rw[QN] at hx;rcases List.mem_append.1 hx with hx|hx
   ·exact h.lt x (by rw[YI];exact List.mem_append_left _ hx)
   ·rcases List.mem_cons.1 hx with rfl|hx
    ·exact h.lt e (by rw[YI];simp)
    ·exact h.lt x (by rw[YI];exact List.mem_append_right _ (List.mem_cons_of_mem _ hx))
  ·intro k' v';rw[QN];rw[List.nodup_append,List.nodup_cons] at hk;obtain⟨_,⟨IY,_⟩,VS⟩:=hk;constructor
   ·rintro(⟨rfl,rfl⟩|⟨nB,hf⟩)
    ·exact⟨_,List.mem_append_right _ (List.mem_cons_self ..),rfl,rfl⟩
    ·obtain⟨x,hx,g1,g2⟩:=(h.mem k' v').1 hf;rw[YI] at hx;rcases List.mem_append.1 hx with hx|hx
     ·exact⟨x,List.mem_append_left _ hx,g1,g2⟩
     ·rcases List.mem_cons.1 hx with rfl|hx
      ·exact absurd (g1.symm.trans h2) nB
      ·exact⟨x,List.mem_append_right _ (List.mem_cons_of_mem _ hx),g1,g2⟩
   ·rintro⟨x,hx,g1,g2⟩;rcases List.mem_append.1 hx with hx|hx
    ·refine .inr ⟨fun e'=> VS _ (List.mem_map_of_mem hx) _ (List.mem_cons_self ..) (g1.trans (e'.trans h2.symm)),(h.mem k' v').2 ⟨x,by rw[YI];exact List.mem_append_left _ hx,g1,g2⟩⟩
    ·rcases List.mem_cons.1 hx with rfl|hx
     ·exact .inl ⟨g1.symm,g2.symm⟩
     ·refine .inr ⟨fun e'=> IY ?_,(h.mem k' v').2 ⟨x,by rw[YI];exact List.mem_append_right _ (List.mem_cons_of_mem _ hx),g1,g2⟩⟩;have:=List.mem_map_of_mem (f:=(·.key)) hx;rw[g1,e',<-h2] at this;exact this
def XC(es:Array MapEntry)(seen:Array Nat):List MapEntry:=es.toList.filter fun e=> !seen.contains e.born
theorem AD(es:Array MapEntry):XC es #[]=es.toList:=by simp[XC]
theorem WE {es:Array MapEntry}{seen:Array Nat}(h:∀e∈es.toList,seen.contains e.born=true):XC es seen= []:=by
 unfold XC;rw[List.filter_eq_nil_iff];intro e he;rw[h e he];simp
theorem iG {es:Array MapEntry}{seen:Array Nat}{e:MapEntry}(hn:(es.toList.map (·.born)).Nodup)(he:e∈es.toList)(hs:seen.contains e.born=false):(XC es seen).Perm (e::XC es (seen.push e.born)):=by
 have hme:e∈XC es seen:=by
  unfold XC;rw[List.mem_filter];exact⟨he,by rw[hs];rfl⟩
 obtain⟨A,B,hAB⟩:=List.append_of_mem he;have hb:=hn;rw[hAB,List.map_append,List.map_cons,List.nodup_append,List.nodup_cons] at hb;obtain⟨_,⟨h1,_⟩,h2⟩:=hb;have other:∀x:MapEntry,x.born≠e.born->(!(seen.push e.born).contains x.born)=!seen.contains x.born:=fun x hx=> by
  rw[Array.contains_push];have:(x.born==e.born)=false:=by simpa using hx
  simp[this]
 have hA:A.filter (fun x=> !(seen.push e.born).contains x.born)=A.filter fun x=> !seen.contains x.born:=List.filter_congr fun x hx=> other x fun e'=> h2 _ (List.mem_map_of_mem hx) _ (List.mem_cons_self ..) e';have hB:B.filter (fun x=> !(seen.push e.born).contains x.born)=B.filter fun x=> !seen.contains x.born:=List.filter_congr fun x hx=> other x fun e'=> h1 (by
  have:=List.mem_map_of_mem (f:=(·.born)) hx;rw[e'] at this;exact this)
 unfold XC;rw[hAB,List.filter_append,List.filter_append,List.filter_cons_of_pos (by rw[hs];rfl),List.filter_cons_of_neg (by simp),hA,hB];exact List.perm_middle
end Go.RL
namespace Go.Proofs.YtldmfjcgjdchcaaGreatDoor
open Go.RL Go.Proofs.Tryz
set_option maxRecDepth 10000
theorem OZ(s:List UInt8)(m:Int)(d:Bool):flat en 2 170 [gA s,.int .i64 m,.bool d]:=by
 refine⟨rfl,?_⟩;intro f hf;simp only[List.mem_cons,List.not_mem_nil,or_false] at hf;rcases hf with rfl|rfl|rfl
 ·exact⟨⟨_,rfl⟩,_,rfl,rfl,Nat.le_of_ble_eq_true rfl⟩
 ·exact⟨⟨_,rfl⟩,_,rfl,rfl,Nat.le_of_ble_eq_true rfl⟩
 ·exact⟨⟨_,rfl⟩,_,rfl,rfl,Nat.le_of_ble_eq_true rfl⟩
theorem SQ(e:MF):TF en 2 170 e.val:=⟨_,[gA e.heard,.int .i64 (e.pend:Nat),.bool e.deaf],rfl,rfl,OZ _ _ _⟩
theorem XF {e e':MF}(h:e.val=e'.val):e=e':=by
 obtain⟨s,m,d⟩:=e;obtain⟨s',m',d'⟩:=e';unfold MF.val NZ at h;simp only[Value.agg.injEq,Array.mk.injEq,List.cons.injEq,Value.string.injEq,ByteArray.mk.injEq,Value.int.injEq,Value.bool.injEq,and_true,true_and] at h;obtain⟨h1,h2,h3⟩:=h;subst h1;subst h3;simp only[MF.mk.injEq,and_true,true_and];omega
def Bk.HD(k:Bk):Nat->MF->Prop
 | 0,e=> e=⟨[],0,false⟩
 | i+1,e=> ∃e0,k.HD i e0/\∃x∈k.can i,e=e0.hear x.1 x.2
def nK(S:MF->Prop)(kv v:Value):Prop:=∃e,S e/\kv=e.val/\v=.bool true
def Bk.CC(k:Bk):Prop:=∀i,i<k.nt->XA (k.pf i) (k.pt i) (k.qf i) (k.qt i)=true
theorem Bk.nE {k:Bk}(h:k.CC){i:Nat}(hi:i<k.nt):(1<=k.pf i/\k.pf i<=k.pt i/\k.pt i<=12)/\k.pt i-k.pf i<4/\(0<=k.qf i/\k.qf i<=k.qt i/\k.qt i<=99):=by
 have:=h i hi;unfold XA at this;simp only[Bool.and_eq_true,decide_eq_true_eq] at this;exact⟨this.1.1,this.1.2,this.2⟩
theorem Bk.EK(k:Bk)(p:Int):k.kind p<=2:=by
 unfold Bk.kind;split
 ·omega
 ·split <;> omega
theorem Bk.xU {k:Bk}(h:k.CC){i:Nat}(hi:i<k.nt){x:Nat×Nat}(hx:x∈k.can i):x.1<=12/\x.2<=2:=by
 have h1:=k.nE h hi;have h2:=GK.1 hx;have h3:=k.EK (k.qt i);omega
theorem MF.OW {e:MF}{p kd a b:Nat}(h1:e.heard.length<=a)(h2:e.pend<=b)(h3:p<=12):(e.hear p kd).heard.length<=a+1/\(e.hear p kd).pend<=b+12:=by
 unfold MF.hear;split
 ·omega
 ·split
  ·simp only;omega
  ·split
   ·simp only;omega
   ·simp only[List.length_append,List.length_cons,List.length_nil];omega
theorem Bk.zW {k:Bk}(h:k.CC):∀ {i:Nat} {e:MF},i<=k.nt->k.HD i e->e.heard.length<=i/\e.pend<=12*i
 | 0,e,_,he=> by
  have:e=⟨[],0,false⟩:=he;subst this;exact⟨Nat.le_refl _,Nat.le_refl _⟩
 | i+1,e,hi,⟨e0,h0,x,hx,he⟩=> by
  have h1:=Bk.zW h (i:=i) oM h0;have h2:=Bk.xU h (i:=i) oM hx;subst he;have:=MF.OW (kd:=x.2) h1.1 h1.2 h2.1;omega
theorem LZ(e:MF){S:MF->Prop}(hS:∀x,S x<->x=e)(kv v:Value):nK S kv v<->(kv=e.val/\v=.bool true)\/(kv≠e.val/\False):=by
 constructor
 ·rintro⟨x,h1,h2,h3⟩;rw[(hS x).1 h1] at h2;exact .inl ⟨h2,h3⟩
 ·rintro(⟨h1,h2⟩|⟨_,h⟩)
  ·exact⟨e,(hS e).2 rfl,h1,h2⟩
  ·exact h.elim
theorem MZ(e:MF)(S:MF->Prop)(kv v:Value):nK (fun x=> x=e\/S x) kv v<->(kv=e.val/\v=.bool true)\/(kv≠e.val/\nK S kv v):=by
 constructor
 ·rintro⟨x,h1,h2,h3⟩;by_cases hx:x=e
  ·subst hx;exact .inl ⟨h2,h3⟩
  ·exact .inr ⟨fun h=> hx (XF (h2.symm.trans h)),x,h1.resolve_left hx,h2,h3⟩
 ·rintro(⟨h1,h2⟩|⟨_,x,h1,h2,h3⟩)
  ·exact⟨e,.inl rfl,h1,h2⟩
  ·exact⟨x,.inr h1,h2,h3⟩
theorem qD {es:Array MapEntry}{cl:Nat}{S:MF->Prop}(h:IB es cl (nK S)):∀e∈es.toList,∃x,S x/\e.key=x.val/\e.val=.bool true:=fun e he=>
 (h.mem e.key e.val).2 ⟨e,he,rfl,rfl⟩
theorem HX {es:Array MapEntry}{cl:Nat}{S:MF->Prop}(h:IB es cl (nK S)):∀e∈es.toList,TF en 2 170 e.key:=fun e he=> by
 obtain⟨x,_,h2,_⟩:=qD h e he;rw[h2];exact SQ x
theorem DI {es:Array MapEntry}{cl:Nat}{S:MF->Prop}(h:IB es cl (nK S)){e:MapEntry}(he:e∈es.toList):es.find? (fun x=> x.born==e.born)=some e:=by
 rw[<-Array.find?_toList];cases hf:es.toList.find? (fun x=> x.born==e.born) with
 | none=> have:=List.find?_eq_none.1 hf e he;simp at this
 | some e'=>
  have h3:=List.mem_of_find?_eq_some hf;have h4:=List.find?_some hf;simp only[beq_iff_eq] at h4;obtain⟨i,hi,rfl⟩:=List.mem_iff_getElem.1 h3;obtain⟨j,hj,rfl⟩:=List.mem_iff_getElem.1 he;have hb:=h.iK;have UR:i<(es.toList.map (·.born)).length:=by rw[List.length_map];exact hi
  have US:j<(es.toList.map (·.born)).length:=by rw[List.length_map];exact hj
  have:(es.toList.map (·.born))[i]=(es.toList.map (·.born))[j]:=by rw[List.getElem_map,List.getElem_map];exact h4
  have:=(List.getElem_inj hb).1 this;subst this;rfl
end Go.Proofs.YtldmfjcgjdchcaaGreatDoor
namespace Go.RL
open Go.Conc
def Mk(rs:List Nat):Bl:=rs.map fun r=> (r,true,.deferred (some []))
def marks(rs:List Nat):List Deferred:=rs.map YG
section
variable {P:Program}{E:Env P}{M:Md P}{St:View->Goroutine->Prop}{n:Nat}{b:FB}{H₀:View}{cs:List Frame}{R:Rg}{L L₁:Bl}{ds:List Deferred}{k:List Item}
theorem Tc.tM(p:L₁.Perm L)(h:Tc M St n b H₀ cs R L₁ ds k):Tc M St n b H₀ cs R L ds k:=fun H tmps hs hr=> h H tmps (hs.perm p) hr
theorem Tc.marked {r:Nat}{rs:List Nat}(h:Tc M St n b H₀ cs R (L++Mk (r::rs)) (marks (r::rs)) k):Tc M St n b H₀ cs R ((r,true,.deferred (some []))::(L++Mk rs)) (YG r::marks rs) k:=
 Tc.tM (L₁:=L++Mk (r::rs)) (List.perm_middle (l₁:=L) (l₂:=Mk rs)) h
theorem Tc.wV {σ:Type}(I:σ->View×Rg×Bl×List Deferred)(μ:σ->Nat){body:Code}
  (step:∀s,(∀s',μ s'<μ s->Tc M St n b (I s').1 cs (I s').2.1 (I s').2.2.1 (I s').2.2.2 (.inLoop body::k))->Tc M St n b (I s).1 cs (I s).2.1 (I s).2.2.1 (I s).2.2.2 (.code body:: .inLoop body::k)) (s₀:σ):
  Tc M St n b (I s₀).1 cs (I s₀).2.1 (I s₀).2.2.1 (I s₀).2.2.2 (.code (.loop body)::k):=by
 have key:∀(m:Nat) (s:σ),μ s<=m->Tc M St n b (I s).1 cs (I s).2.1 (I s).2.2.1 (I s).2.2.2 (.code body:: .inLoop body::k):=by
  intro m;induction m with
  | zero=> exact fun s hs=> step s fun s' xB=> by omega
  | succ m ih=> exact fun s hs=> step s fun s' xB=> .inLoop (ih s' oM)
 exact .loop (key _ s₀ (Nat.le_refl _))
theorem eO {fn:Func}{c:Frame}{Q:Value->View->Prop}{f:FuncId}{rv:List ResultVar}{vs:List Value}{todo:List Item}{tmps:Array Value}(hK:∀v H',Q v H'->T M St H' (G (c.finish v) cs))(hf:P.funcs[f]? =some fn)(TP:fn.results=rv.toArray)
  (ho:mH E R L rv vs) (hr:RA n R tmps) (h:∀H',iA H₀ L H'->Q (aE vs) H'):∀(rs:List Nat) (H:View),iA H₀ (L++Mk rs) H->T M St H (G ((⟨f,.normal,none⟩:FB).back tmps (marks rs) todo) (c::cs))
 | [],H,hs=> by
  have hs':iA H₀ L H:=by
   have:=hs;unfold Mk at this
   rwa [List.map_nil,List.append_nil] at this
  exact .leave hf rfl (SA _ hK (bE hs' hr TP ho (h _ hs')))
 | r ::rs,H,hs=> by
  have hi:(L++Mk (r::rs))[L.length]? =some (r,true,.deferred (some [])):=by
   rw[List.getElem?_append_right (Nat.le_refl _),Nat.sub_self];rfl
  have hd:=hs.get hi;refine .collect ?_;refine⟨true,_,hd,by simp,rfl,?_⟩;refine⟨⟨_,hd,by simp⟩,rfl,?_⟩;have hs':=hs.set hi (true,.deferred none);refine eO hK hf TP ho hr h rs _ (hs'.less ?_);rw[List.set_append_right _ _ (Nat.le_refl _),Nat.sub_self];exact List.Sublist.append (List.Sublist.refl _) (List.sublist_cons_self _ _)
theorem Tc.B3 {rs:List Nat}{fn:Func}{c:Frame}{Q:Value->View->Prop}{f:FuncId}{rv:List ResultVar}{vs:List Value}(hK:∀v H',Q v H'->T M St H' (G (c.finish v) cs))(hf:P.funcs[f]? =some fn)(TP:fn.results=rv.toArray)
  (ho:mH E R L rv vs) (h:∀H',iA H₀ L H'->Q (aE vs) H'):Tc M St n ⟨f,.normal,none⟩ H₀ (c::cs) R (L++Mk rs) (marks rs) (.code .ret::k):=
 fun H _ hs hr=> .aD rfl (eO hK hf TP ho hr h rs H hs)
end
section
variable {P:Program}{M:Md P}{St:View->Goroutine->Prop}{n:Nat}{b:FB}{H₀:View}{cs:List Frame}{R:Rg}{L:Bl}{ds:List Deferred}{k:List Item}{ops:Array Oper}
theorem Tc.drT {id:Nat}{fuel:Nat}(B C E:List Nat)(m:Nat)(hm:P.follows .mixedOrders=true)(hf:ops.size=fuel)(h:Ta M St n b H₀ cs (S3 H₀ B C (QH (L.take m) E) L) .any ops fuel (Array.replicate fuel false) R L ds k):
  Tc M St n b H₀ cs R L ds (.code (.region id ops true)::k):=fun H tmps hs hr=> by
 subst hf;refine .TE fun t=> ?_;simp only[Region.schedule,hm,Bool.true_or,if_true];have hS:=S3.mk (H₀:=H₀) (B:=B) (C:=C) (listed:=Array.replicate ops.size false) ((xE E (L.take m)).trans (List.take_sublist m L)) (.inr (List.Sublist.refl L)) H hs;exact(h H tmps hs hr hS).sound _ t _ _ _ hS
end
end Go.RL
namespace Go.Proofs.YtldmfjcgjdchcaaGreatDoor
open Go.RL Go.Proofs.Tryz
set_option maxRecDepth 10000
set_option maxHeartbeats 16000000
section
variable(M:Md prog)(H:View)
theorem IU (k:Bk)(A:Option Addr)(lc:Nat)(B:Option Addr)(tc:Nat)(hB:uC H k B tc)(ht:k.CC)(h6:k.nt<=6)(n:Nat)(hn:n<=k.nt):
  bA M 119 #[k.val A lc B tc,.int .i64 (n:Nat)] H (fun v H'=> H.le H'/\∃m es cl,v=.map (some m)/\(∃f,H' m=some (f,.map es cl))/\IB es cl (nK (k.HD n))):=by
 refine .en func119 ntmps119 fun St c cs hK=> ?_;refine U2 ?_;refine .bo fun b2=> ?_;refine U4 ?_;refine .e (Or.makeMap rfl rfl dE (fun m0=> ?_));refine U ?_;refine .e (Or.insert (E:=en) 0 2 rfl rfl rfl rfl rfl rfl rfl dE (SQ ⟨[],0,false⟩) (by simp) rfl (fun r hr=> ?_));obtain⟨es1,cl1,e1,hm1⟩:=IB.nil.put (.bool true) hr;rw[e1];refine U3 ?_;have aEo:IB es1 cl1 (nK (k.HD 0)):=hm1.congr (LZ ⟨[],0,false⟩ (fun x=> Iff.rfl));refine Tc.tM (L₁:= [(b2,true,.cells ⟨(k.val A lc B tc).cells.toList⟩ 166 (0,0)),(m0,true,.map es1 cl1)]) (List.Perm.swap ..) ?_;refine Tc.lift (L₂:= [(b2,true,.cells ⟨(k.val A lc B tc).cells.toList⟩ 166 (0,0))]) (L₁:= [(m0,true,.map es1 cl1)]) rfl (fun Hx hx=> ?_);have aEm:=hx.base;have aCM:Hx m0=some (true,.map es1 cl1):=hx.get (i:=0) rfl;clear hx;refine U7 ?_;refine Tc.db (Tc.wV (σ:= { s:View×Nat×Nat×Array MapEntry×Nat×List Nat//H.le s.1/\s.2.1<=n/\(∃f,s.1 s.2.2.1=some (f,.map s.2.2.2.1 s.2.2.2.2.1))/\IB s.2.2.2.1 s.2.2.2.2.1 (nK (k.HD s.2.1)) })
  (fun s=> (s.1.1,[(2,.pointer (some ⟨b2,0,none⟩)),(5,.map (some s.1.2.2.1)),(14,.int .i64 (n:Nat)),(15,.int .i64 (s.1.2.1:Nat))],[(b2,true,.cells ⟨(k.val A lc B tc).cells.toList⟩ 166 (0,0))]++Mk s.1.2.2.2.2.2,marks s.1.2.2.2.2.2)) (fun s=> n-s.1.2.1) ?_ ⟨(Hx,0,m0,es1,cl1,[]),aEm,Nat.zero_le _,⟨true,aCM⟩,aEo⟩)
 rintro⟨⟨H₁,i,m,es,cl,rs⟩,g1,g2,⟨fm,g3⟩,g4⟩ ih₁;simp only at g1 g2 g3 g4;show Tc M St _ _ H₁ _ [(2,.pointer (some ⟨b2,0,none⟩)),(5,.map (some m)),(14,.int .i64 (n:Nat)),(15,.int .i64 (i:Nat))] ([(b2,true,.cells ⟨(k.val A lc B tc).cells.toList⟩ 166 (0,0))]++Mk rs) (marks rs) _;by_cases c1:i=n
 ·subst c1;refine PF ?_;refine Tc.B3 (E:=en) (L:= [(b2,true,.cells ⟨(k.val A lc B tc).cells.toList⟩ 166 (0,0))]) (rs:=rs) hK func119 results119 (vs:= [_]) ⟨rfl,trivial⟩ ?_;exact fun H' hs=> ⟨View.le_trans g1 hs.base,m,es,cl,rfl,⟨fm,hs.base _ _ g3⟩,g4⟩
 ·have c2 : i < k.nt:=by omega
  obtain⟨t1,t2,t3⟩:=k.nE ht c2;refine aP ?_;refine .e (Or.makeMap rfl rfl dE (fun mo=> ?_));refine .al fun b7=> ?_;refine U6 ?_;refine .e (Or.range (E:=en) (es:=es) (cl:=cl) rfl rfl (fun H hs=> ⟨fm,hs.base _ _ g3⟩) rfl rfl rfl dE (fun it=> ?_));refine U2 ?_;refine Tc.db (Tc.wV (σ:= { s:View×Array Nat×Array MapEntry×Nat×List Nat//H₁.le s.1/\∃S:MF->Prop,IB s.2.2.1 s.2.2.2.1 (nK S)/\∀e,k.HD (i+1) e<->(S e\/∃me∈XC es s.2.1,∃e0:MF,me.key=e0.val/\∃x∈k.can i,e=e0.hear x.1 x.2) })
   (fun s=> (s.1.1,[(2,.pointer (some ⟨b2,0,none⟩)),(6,.int .i64 (i:Nat)),(7,.pointer (some ⟨b7,0,none⟩)),(14,.int .i64 (n:Nat)),(15,.int .i64 (i:Nat)),(20,.pointer (some ⟨it,0,none⟩))],[(it,true,.mapIter (some m) cl s.1.2.1 cl),(b7,true,.cells ⟨[.map (some mo)]⟩ 218 (0,0)),(mo,true,.map s.1.2.2.1 s.1.2.2.2.1),(b2,true,.cells ⟨(k.val A lc B tc).cells.toList⟩ 166 (0,0))]++Mk s.1.2.2.2.2,marks s.1.2.2.2.2)) (fun s=> (XC es s.1.2.1).length) ?_ ⟨(H₁,#[],#[],0,rs),View.le_refl _,fun _=> False,IB.nil.congr (by rintro a b;simp[nK]),fun e=> by
    rw[AD];constructor
    ·rintro⟨e0,h0,x,hx,rfl⟩;obtain⟨me,h1,h2,_⟩:=(g4.mem e0.val (.bool true)).1 ⟨e0,h0,rfl,rfl⟩;exact .inr ⟨me,h1,e0,h2,x,hx,rfl⟩
    ·rintro(h|⟨me,h1,e0,h2,x,hx,rfl⟩)
     ·exact h.elim
     ·obtain⟨y,h3,h4,_⟩:=qD g4 me h1;rw[XF (h2.symm.trans h4)];exact⟨y,h3,x,hx,rfl⟩⟩)
  rintro⟨⟨H₂,seen,es2,cl2,rs2⟩,p1,S,p2,p3⟩ ih₂;simp only at p1 p2 p3;show Tc M St _ _ H₂ _ [(2,.pointer (some ⟨b2,0,none⟩)),(6,.int .i64 (i:Nat)),(7,.pointer (some ⟨b7,0,none⟩)),(14,.int .i64 (n:Nat)),(15,.int .i64 (i:Nat)),(20,.pointer (some ⟨it,0,none⟩))] ([(it,true,.mapIter (some m) cl seen cl),(b7,true,.cells ⟨[.map (some mo)]⟩ 218 (0,0)),(mo,true,.map es2 cl2),(b2,true,.cells ⟨(k.val A lc B tc).cells.toList⟩ 166 (0,0))]++Mk rs2) (marks rs2) _;have g3':=p1 _ _ g3;refine U2 ?_;refine .e (Or.next (es:=es) 0 rfl rfl rfl (fun H hs=> ⟨fm,hs.base _ _ g3'⟩) g4.lt rfl dE (fun me he T8=> ?_) (fun OA=> ?_))
  ·have hp :=iG g4.iK he T8;obtain⟨e0,u1,u2,_⟩:=qD g4 me he;have WH:=DI g4 he;have HY:=k.zW ht oM u1;refine U8 ?_;refine .e (Or.entry (es:=es) (e:=me) (st:=me.born) rfl rfl (fun H hs=> ⟨true,hs.get (i:=0) rfl⟩) (fun H hs=> ⟨fm,hs.base _ _ g3'⟩) (by simp) WH rfl dE ?_);rw[u2];refine U ?_;refine .al fun b8=> ?_;refine U6 ?_;refine To.uB rfl rfl rfl rfl rfl rfl dE (yB.h (B8 M H₂ k A lc B tc (hB.le (View.le_trans g1 p1)) i c2)) (fun v H₃ hv=> ?_);obtain⟨O0,b5,b2',rfl,aC⟩:=hv;refine U ?_;have HI:=fun(H':View) (hc:gL (mD (k.pf i) (k.pt i) (k.qf i) (k.qt i)) (k.val A lc B tc) b5 b2' H')=> vZ M H' k A lc B tc i (k.pf i).toNat (k.pt i).toNat _ _ oM oM oM rfl rfl (k.EK _) b5 b2' hc;refine U ?_;refine Tc.MJ (A:= []) (ts:= [28,29]) (xs:=k.can i) (fun rest H₄ L₄=> ∃es3 cl3,∃S3:MF->Prop,L₄= [(b8,true,.cells ⟨e0.val.cells.toList⟩ 170 (0,0)),(it,true,.mapIter (some m) cl (seen.push me.born) cl),(b7,true,.cells ⟨[.map (some mo)]⟩ 218 (0,0)),(mo,true,.map es3 cl3),(b2,true,.cells ⟨(k.val A lc B tc).cells.toList⟩ 166 (0,0))]++Mk rs2
     /\IB es3 cl3 (nK S3)/\(∀e,(S e\/∃x∈k.can i,e=e0.hear x.1 x.2)<->(S3 e\/∃x∈rest,e=e0.hear x.1 x.2))/\gL (mD (k.pf i) (k.pt i) (k.qf i) (k.qt i)) (k.val A lc B tc) b5 b2' H₄/\H₃.le H₄) (fun _ _ _=> False) rfl rfl rfl rfl HI (fun _ _=> gL.le _ _) (fun _ _ _ ⟨_,_,_,_,_,_,h,_⟩=> h) rfl (fun _ _=> rfl)
     ⟨es2,cl2,S,rfl,p2,fun _=> Iff.rfl,aC,View.le_refl _⟩ ?_ ?_ (fun _ _ _ _ h=> h.elim)
   ·rintro r x rest _ l tmps asg bdy H₄ _ hx ⟨es3,cl3,S3,rfl,q2,q3,q4,q5⟩ Q St1 cc1 cs1 bN q q';have aAw:=k.xU ht c2 hx;refine U7 ?_;refine Tc.beginRound (i:=0) rfl rfl rfl ?_;refine U ?_;refine Tc.dr [5] [5] mixed rfl ?_;refine V4 0 ?_;refine .z 4 rfl (pA.tk fun H hs=> E0 M H e0 x.1 x.2 oM oM oM oM) ?_;refine .ea 5 rfl (Or.mapUpdate (E:=en) 5 2 rfl rfl rfl rfl rfl rfl rfl dE (SQ _) (HX q2) rfl (fun r hr=> ⟨S2.mk sL (.inl kR),?_⟩));refine .dn ?_;obtain⟨es4,cl4,e4,q6⟩:=q2.put (.bool true) hr;rw[e4];refine U ?_;refine Tc.WA bN (i:=0) rfl (.inl ⟨rfl,rfl⟩) (fun H' hs=> q H' H₄ _ hs ⟨es4,cl4,fun y=> y=e0.hear x.1 x.2\/S3 y,rfl,q6.congr (MZ _ _),fun e=> ?_,q4,q5⟩);rw[q3 e];constructor
    ·rintro(h|⟨y,h1,h2⟩)
     ·exact .inl (.inr h)
     ·rcases List.mem_cons.1 h1 with rfl|h3
      ·exact .inl (.inl h2)
      ·exact .inr ⟨y,h3,h2⟩
    ·rintro((h|h)|⟨y,h1,h2⟩)
     ·exact .inr ⟨x,List.mem_cons_self ..,h⟩
     ·exact .inl h
     ·exact .inr ⟨y,List.mem_cons_of_mem _ h1,h2⟩
   ·rintro r H₄ _ ⟨es3,cl3,S3,rfl,q2,q3,q4,q5⟩;refine Tc.marked ?_;refine U2 ?_;have UD:=ih₂ ⟨(H₄,seen.push me.born,es3,cl3,r::rs2),View.le_trans p1 (View.le_trans O0 q5),S3,q2,fun e=> ?_⟩ (by simp only;rw[hp.length_eq];simp)
    ·exact Tc.db UD
    ·have h3:=q3 e;simp only[List.not_mem_nil,false_and,exists_false,or_false] at h3;rw[p3 e,<-h3];constructor
     ·rintro(h|⟨me',h1,e0',h2,y,h4,h5⟩)
      ·exact .inl (.inl h)
      ·rcases List.mem_cons.1 (hp.mem_iff.1 h1) with rfl|h6
       ·rw[XF (h2.symm.trans u2)] at h5;exact .inl (.inr ⟨y,h4,h5⟩)
       ·exact .inr ⟨me',h6,e0',h2,y,h4,h5⟩
     ·rintro((h|⟨y,h4,h5⟩)|⟨me',h6,h7⟩)
      ·exact .inl h
      ·exact .inr ⟨me,hp.mem_iff.2 (List.mem_cons_self ..),e0,u2,y,h4,h5⟩
      ·exact .inr ⟨me',hp.mem_iff.2 (List.mem_cons_of_mem _ h6),h7⟩
  ·have XH:=WE OA;rw[XH] at p3;refine vF ?_;refine Tc.db (R':= [(2,.pointer (some ⟨b2,0,none⟩)),(5,.map (some mo)),(14,.int .i64 (n:Nat)),(15,.int .i64 ((i+1:Nat):Int))]) (L':= [(mo,true,.map es2 cl2)]++([(b2,true,.cells ⟨(k.val A lc B tc).cells.toList⟩ 166 (0,0))]++Mk rs2)) ?_;refine Tc.tM (L₁:=([(b2,true,.cells ⟨(k.val A lc B tc).cells.toList⟩ 166 (0,0))]++Mk rs2)++[(mo,true,.map es2 cl2)]) List.perm_append_comm ?_;refine Tc.lift (L₂:= [(b2,true,.cells ⟨(k.val A lc B tc).cells.toList⟩ 166 (0,0))]++Mk rs2) (L₁:= [(mo,true,.map es2 cl2)]) rfl (fun Hy hy=> ?_);have UD:=ih₁ ⟨(Hy,i+1,mo,es2,cl2,rs2),View.le_trans g1 (View.le_trans p1 hy.base),by simp only;omega,⟨true,hy.get (i:=0) rfl⟩,p2.congr fun kv v=> ?_⟩ (by simp only;omega)
   ·exact Tc.db UD
   ·simp only[List.not_mem_nil,false_and,exists_false,or_false] at p3;unfold nK;simp only[p3]
end
def yH(S:Int->Prop)(kv v:Value):Prop:=∃z,S z/\kv=.int .i64 z/\v=.bool true
theorem YF(z:Int):TF en 1 3 (.int .i64 z):=⟨_,[.int .i64 z],rfl,rfl,⟨z,rfl⟩⟩
theorem ET(z:Int)(S:Int->Prop)(kv v:Value):yH (fun x=> x=z\/S x) kv v<->(kv=.int .i64 z/\v=.bool true)\/(kv≠ .int .i64 z/\yH S kv v):=by
 constructor
 ·rintro⟨x,h1,h2,h3⟩;by_cases hx:x=z
  ·subst hx;exact .inl ⟨h2,h3⟩
  ·refine .inr ⟨fun h=> hx ?_,x,h1.resolve_left hx,h2,h3⟩;rw[h2] at h;simpa using h
 ·rintro(⟨h1,h2⟩|⟨_,x,h1,h2,h3⟩)
  ·exact⟨z,.inl rfl,h1,h2⟩
  ·exact⟨x,.inr h1,h2,h3⟩
theorem ML {es:Array MapEntry}{cl:Nat}{S:Int->Prop}(h:IB es cl (yH S)):∀e∈es.toList,∃z,S z/\e.key=.int .i64 z/\e.val=.bool true:=fun e he=>
 (h.mem e.key e.val).2 ⟨e,he,rfl,rfl⟩
theorem BE {es:Array MapEntry}{cl:Nat}{S:Int->Prop}(h:IB es cl (yH S)):∀e∈es.toList,TF en 1 3 e.key:=fun e he=> by
 obtain⟨z,_,h2,_⟩:=ML h e he;rw[h2];exact YF z
def Bk.IV(k:Bk)(z:Int):Prop:=∃e,k.HD k.nt e/\z=fB (k.line e.heard)
section
variable(M:Md prog)(H:View)
theorem QI(k:Bk)(A:Option Addr)(lc:Nat)(B:Option Addr)(tc:Nat)(hA:nC H k A lc)(hl:k.nl<=1000)(hB:uC H k B tc)(ht:k.CC)(h6:k.nt<=6):
  bA M 122 #[k.val A lc B tc] H (fun v H'=> H.le H'/\∃m es cl,v=.map (some m)/\(∃f,H' m=some (f,.map es cl))/\IB es cl (yH k.IV)):=by
 refine .en func122 ntmps122 fun St c cs hK=> ?_;refine U2 ?_;refine .bo fun b1=> ?_;refine U4 ?_;refine .e (Or.makeMap rfl rfl dE (fun mr=> ?_));refine DD ?_;refine To.uB rfl rfl rfl rfl rfl rfl dE (yB.h (IU M H k A lc B tc hB ht h6 k.nt (Nat.le_refl _))) (fun v H₂ hv=> ?_);obtain⟨hle,m,es,cl,rfl,⟨fm,g3⟩,g4⟩:=hv;refine .e (Or.range (E:=en) (es:=es) (cl:=cl) rfl rfl (fun H hs=> ⟨fm,hs.base _ _ g3⟩) rfl rfl rfl dE (fun it=> ?_));refine U2 ?_;refine Tc.db (Tc.sA (σ:= { s:Array Nat×Array MapEntry×Nat//∃S:Int->Prop,IB s.2.1 s.2.2 (yH S)/\∀z,k.IV z<->(S z\/∃me∈XC es s.1,∃e0:MF,me.key=e0.val/\z=fB (k.line e0.heard)) })
  (fun s=> ([(1,.pointer (some ⟨b1,0,none⟩)),(3,.map (some mr)),(12,.pointer (some ⟨it,0,none⟩))],[(it,true,.mapIter (some m) cl s.1.1 cl),(mr,true,.map s.1.2.1 s.1.2.2),(b1,true,.cells ⟨(k.val A lc B tc).cells.toList⟩ 166 (0,0))])) (fun s=> (XC es s.1.1).length) ?_ ⟨(#[],#[],0),fun _=> False,IB.nil.congr (by rintro a b;simp[yH]),fun z=> by
   rw[AD];constructor
   ·rintro⟨e0,h0,rfl⟩;obtain⟨me,h1,h2,_⟩:=(g4.mem e0.val (.bool true)).1 ⟨e0,h0,rfl,rfl⟩;exact .inr ⟨me,h1,e0,h2,rfl⟩
   ·rintro(h|⟨me,h1,e0,h2,rfl⟩)
    ·exact h.elim
    ·obtain⟨y,h3,h4,_⟩:=qD g4 me h1;rw[XF (h2.symm.trans h4)];exact⟨y,h3,rfl⟩⟩)
 rintro⟨⟨seen,es2,cl2⟩,S,p2,p3⟩ ih;simp only at p2 p3;show Tc M St _ _ H₂ _ [(1,.pointer (some ⟨b1,0,none⟩)),(3,.map (some mr)),(12,.pointer (some ⟨it,0,none⟩))] [(it,true,.mapIter (some m) cl seen cl),(mr,true,.map es2 cl2),(b1,true,.cells ⟨(k.val A lc B tc).cells.toList⟩ 166 (0,0))] _ _;refine U2 ?_;refine .e (Or.next (es:=es) 0 rfl rfl rfl (fun H hs=> ⟨fm,hs.base _ _ g3⟩) g4.lt rfl dE (fun me he T8=> ?_) (fun OA=> ?_))
 ·have hp :=iG g4.iK he T8;obtain⟨e0,u1,u2,_⟩:=qD g4 me he;have WH:=DI g4 he;refine U8 ?_;refine .e (Or.entry (es:=es) (e:=me) (st:=me.born) rfl rfl (fun H hs=> ⟨true,hs.get (i:=0) rfl⟩) (fun H hs=> ⟨fm,hs.base _ _ g3⟩) (by simp) WH rfl dE ?_);rw[u2];refine U ?_;refine .al fun b4=> ?_;refine U7 ?_;refine .cl (fun H hs=> cO M H k A lc B tc (hA.le (View.le_trans hle hs.base)) hl e0.heard) ?_;refine .e (Or.mapUpdate (E:=en) 2 1 rfl rfl rfl rfl rfl rfl rfl dE (YF _) (BE p2) rfl (fun r hr=> ?_));obtain⟨es4,cl4,e4,q6⟩:=p2.put (.bool true) hr;rw[e4];refine U2 ?_;exact Tc.db (ih ⟨(seen.push me.born,es4,cl4),fun y=> y=fB (k.line e0.heard)\/S y,q6.congr (ET _ _),fun z=> by
   rw[p3 z];constructor
   ·rintro(h|⟨me',h1,e0',h2,h5⟩)
    ·exact .inl (.inr h)
    ·rcases List.mem_cons.1 (hp.mem_iff.1 h1) with rfl|h6
     ·rw[XF (h2.symm.trans u2)] at h5;exact .inl (.inl h5)
     ·exact .inr ⟨me',h6,e0',h2,h5⟩
   ·rintro((h|h)|⟨me',h6,h7⟩)
    ·exact .inr ⟨me,hp.mem_iff.2 (List.mem_cons_self ..),e0,u2,h⟩
    ·exact .inl h
    ·exact .inr ⟨me',hp.mem_iff.2 (List.mem_cons_of_mem _ h6),h7⟩⟩ (by simp only;rw[hp.length_eq];simp))
 ·have XH:=WE OA;rw[XH] at p3;refine DD ?_;refine .rt hK func122 results122 [_] ?_;simp only[List.not_mem_nil,false_and,exists_false,or_false] at p3;exact fun H' hs=> ⟨View.le_trans hle hs.base,mr,es2,cl2,rfl,⟨true,hs.get (i:=1) rfl⟩,p2.congr fun kv v=> by unfold yH;simp only[p3]⟩
end
set_option maxHeartbeats 4000000
def Bk.kF(k:Bk)(e:MF)(over:Bool):Int:=match k.line e.heard with
 | some i=> (i:Nat)
 | none=> if(e.deaf||over)||(jA (fun i=> NA (k.num i) e.heard) k.nl).isNone then -1 else -2
theorem IF {es:Array MapEntry}{cl:Nat}{S:Int->Prop}(h:IB es cl (yH S)){z:Int}{t:Bool}(ht:t=true<->S z){r:Option (Nat×Value)}(hr:xJ es.toList (.int .i64 z) r):XZ (.bool false) r false=.bool t:=by
 have h1:=h.find hr;cases r with
 | none=>
  cases t with
  | false=> rfl
  | true=> exact(h1 (.bool true) ⟨z,ht.1 rfl,rfl,rfl⟩).elim
 | some p=>
  obtain⟨i,v⟩:=p;obtain⟨y,h2,h3,h4⟩:=h1;have hy:z=y:=by simpa using h3
  subst hy;subst h4;rw[ht.2 h2];rfl
section
variable(M:Md prog)(H:View)
theorem C6(S:Int->Prop)(z:Int)(m:Nat)(es:Array MapEntry)(cl:Nat)(f:Bool)(hm:H m=some (f,.map es cl))(MC:IB es cl (yH S))(w:Int)(h:(¬S z/\w=2)\/(S z/\es.size=1/\w=1)\/(S z/\es.size≠1/\w=0)):
  bA M 123 #[.map (some m),.int .i64 z] H (fun v H'=> H.le H'/\v=.int .i64 w):=by
 rcases h with ⟨h1,rfl⟩|⟨h1,h2,rfl⟩|⟨h1,h2,rfl⟩
 ·refine .en func123 ntmps123 fun St c cs hK=> ?_;refine DD ?_;refine .x (pA.lookup (E:=en) 1 (es:=es) (v:=.bool false) rfl rfl rfl (fun H hs=> ⟨f,hs.base _ _ hm⟩) rfl rfl rfl dE (YF z) (BE MC) (fun r hr=> IF MC (t:=false) (by simp[h1]) hr)) ?_;refine U8 ?_;refine .rt hK func123 results123 [_] ?_;exact okB
 ·refine .en func123 ntmps123 fun St c cs hK=> ?_;refine DD ?_;refine .x (pA.lookup (E:=en) 1 (es:=es) (v:=.bool true) rfl rfl rfl (fun H hs=> ⟨f,hs.base _ _ hm⟩) rfl rfl rfl dE (YF z) (BE MC) (fun r hr=> IF MC (t:=true) (by simp[h1]) hr)) ?_;refine U7 ?_;refine .x (pA.HJ (E:=en) (es:=es) rfl rfl rfl rfl rfl (fun H hs=> ⟨f,hs.base _ _ hm⟩) rfl rfl) ?_;rw[h2];refine U8 ?_;refine .rt hK func123 results123 [_] ?_;exact okB
 ·refine .en func123 ntmps123 fun St c cs hK=> ?_;refine DD ?_;refine .x (pA.lookup (E:=en) 1 (es:=es) (v:=.bool true) rfl rfl rfl (fun H hs=> ⟨f,hs.base _ _ hm⟩) rfl rfl rfl dE (YF z) (BE MC) (fun r hr=> IF MC (t:=true) (by simp[h1]) hr)) ?_;refine U7 ?_;refine .x (pA.HJ (E:=en) (es:=es) rfl rfl rfl rfl rfl (fun H hs=> ⟨f,hs.base _ _ hm⟩) rfl rfl) ?_;refine DD ?_;refine .rt hK func123 results123 [_] ?_;exact okB
theorem N6(e:MF)(b4:Nat)(f:Bool)(hb:H b4=some (f,.cells ⟨e.val.cells.toList⟩ 170 (0,0)))(a num:List UInt8)(F:Option Addr)(n fc:Nat):
  bA M 216 #[nJ a num F n fc,.pointer (some ⟨b4,0,none⟩)] H (fun v H'=> H.le H'/\v=.bool (NA num e.heard)):=by
 refine .en func216 ntmps216 fun St c cs hK=> ?_;refine U2 ?_;refine .bo fun b2=> ?_;refine U8 ?_;refine .cl (fun H hs=> JE M H num e.heard) ?_;refine U2 ?_;refine .rt hK func216 results216 [_] ?_;exact okB
theorem aAg(k:Bk)(A:Option Addr)(lc:Nat)(B:Option Addr)(tc:Nat)(hA:nC H k A lc)(hl:k.nl<=1000)(e:MF)(over:Bool):
  bA M 129 #[k.val A lc B tc,e.val,.bool over] H (fun v H'=> H.le H'/\v=.int .i64 (k.kF e over)):=by
 have II:=fun(H':View) (h':H.le H')=> cO M H' k A lc B tc (hA.le h') hl e.heard;have K8:=fun(H':View) (h':H.le H') (fv:Value)=> EW M H' k A lc (hA.le h') hl fv (fun i=> NA (k.num i) e.heard);cases hk:k.line e.heard with
 | some i=>
  have e1:k.kF e over=(i:Nat):=by unfold Bk.kF;rw[hk]
  rw[e1];rw[hk] at II;have e2:fB (some i)=(i:Nat):=rfl;rw[e2] at II;refine .en func129 ntmps129 fun St c cs hK=> ?_;refine U2 ?_;refine .bo fun b3=> ?_;refine .bo fun b4=> ?_;refine U8 ?_;refine .cl (fun H hs=> II H hs.base) ?_;refine LG ?_;refine .rt hK func129 results129 [_] ?_;exact okB
 | none=>
  rw[hk] at II;have e2:fB none= -1:=rfl;rw[e2] at II;obtain⟨df,UH⟩:∃d,e.deaf=d:=⟨_,rfl⟩
  have ev:e.val=NZ e.heard e.pend df:=by rw[<-UH];rfl
  cases df with
  | true=>
   have e1:k.kF e over= -1:=by unfold Bk.kF;rw[hk];simp[UH]
   rw[e1,ev];refine .en func129 ntmps129 fun St c cs hK=> ?_;refine U2 ?_;refine .bo fun b3=> ?_;refine .bo fun b4=> ?_;refine U8 ?_;refine .cl (fun H hs=> II H hs.base) ?_;refine U31 ?_;refine .rt hK func129 results129 [_] ?_;exact okB
  | false=>
   cases over with
   | true=>
    have e1:k.kF e true= -1:=by unfold Bk.kF;rw[hk];simp
    rw[e1,ev];refine .en func129 ntmps129 fun St c cs hK=> ?_;refine U2 ?_;refine .bo fun b3=> ?_;refine .bo fun b4=> ?_;refine U8 ?_;refine .cl (fun H hs=> II H hs.base) ?_;refine U31 ?_;refine .rt hK func129 results129 [_] ?_;exact okB
   | false=>
    have ask:∀b4 H₀,H₀ b4=some (true,.cells ⟨(NZ e.heard e.pend false).cells.toList⟩ 170 (0,0))->A5 M H₀ (.func (.func 216) #[] #[.pointer (some ⟨b4,0,none⟩)]) k (fun i=> NA (k.num i) e.heard):=fun b4 H₀ hb i _ F fc H' hle=>
     yB.of (first:= []) (captured:= [_]) aCq rfl (N6 M H' e b4 true (by rw[ev];exact hle _ _ hb) (k.name i) (k.num i) F (k.nf i) fc)
    cases hq:jA (fun i=> NA (k.num i) e.heard) k.nl with
    | none=>
     have e1:k.kF e false= -1:=by unfold Bk.kF;rw[hk];simp[hq]
     rw[e1,ev];rw[hq,e2] at K8;refine .en func129 ntmps129 fun St c cs hK=> ?_;refine U2 ?_;refine .bo fun b3=> ?_;refine .bo fun b4=> ?_;refine U8 ?_;refine .cl (fun H hs=> II H hs.base) ?_;refine P4 ?_;refine .cl (fun H hs=> K8 H hs.base _ (ask b4 H (hs.get (i:=0) rfl))) ?_;refine U8 ?_;refine .rt hK func129 results129 [_] ?_;exact okB
    | some j=>
     have e1:k.kF e false= -2:=by unfold Bk.kF;rw[hk];simp[hq,UH]
     rw[e1,ev];rw[hq] at K8;have e3:fB (some j)=(j:Nat):=rfl;rw[e3] at K8;refine .en func129 ntmps129 fun St c cs hK=> ?_;refine U2 ?_;refine .bo fun b3=> ?_;refine .bo fun b4=> ?_;refine U8 ?_;refine .cl (fun H hs=> II H hs.base) ?_;refine P4 ?_;refine .cl (fun H hs=> K8 H hs.base _ (ask b4 H (hs.get (i:=0) rfl))) ?_;refine U9 ?_;refine .rt hK func129 results129 [_] ?_;exact okB
end
end Go.Proofs.YtldmfjcgjdchcaaGreatDoor
namespace Go.Proofs.YtldmfjcgjdchcaaGreatDoor
open Go.RL Go.Proofs.Tryz
set_option maxRecDepth 10000
theorem oR {sz off:Nat}{gs:List Value}{v:Value}(h:tE true sz gs off=some v):off+sz<=gs.length/\v=.agg ⟨(gs.drop off).take sz⟩:=by
 unfold tE at h;simp only at h;split at h
 ·rename_i hle
  exact⟨Nat.le_of_ble_eq_true hle,(Option.some.inj h).symm⟩
 ·cases h
theorem pV {sz off:Nat}{gs:List Value}(h:off+sz<=gs.length):tE true sz gs off=some (.agg ⟨(gs.drop off).take sz⟩):=by
 unfold tE;have:Nat.ble (off+sz) gs.length=true:=Nat.ble_eq_true_of_le h;simp only[this]
section
variable(M:Md prog)(H:View)
theorem DU(a:Option Addr)(m ca:Nat)(l:List Value)(hm:m<=100000)(AH:ZA H 3 (.slice a m ca) m l)(h1:l.all single=true):bA M 218 #[.slice a m ca] H (fun v H'=> H.le H'/\∃g:Gl 68 3,v=g.val/\(g.l=l/\g.n=m)/\∀x∈g.bl,H' x.1=some x.2/\H x.1=none):=by
 refine .en func218 ntmps218 fun St c cs hK=> ?_;cases a with
 | none=>
  refine U8 ?_;refine .x (pA.eM (E:=en) rfl rfl rfl rfl rfl) ?_;refine U6 ?_;refine .rt hK func218 results218 [_] ?_;obtain⟨_,h2,h3|⟨b,off,_,_,_,_,_,h3,_⟩⟩:=AH
  ·obtain⟨_,_,_,rfl⟩:=h3;have:m=0:=by simp at h2;omega
   subst this;exact fun H' hs'=> ⟨hs'.base,Gl.nil 68 3,rfl,⟨rfl,rfl⟩,by simp[Gl.nil,Gl.bl]⟩
  ·cases h3
 | some a=>
  refine U8 ?_;refine .x (pA.eM (E:=en) rfl rfl rfl rfl rfl) ?_;refine U5 ?_;refine .e (.bs (zz:=fun bs=> ?_));refine U ?_;refine .e (Or.append (E:=en) (g:=Gl.emp 68 3 bs) 0 rfl rfl rfl rfl rfl rfl rfl rfl rfl rfl rfl rfl rfl rfl rfl (fun H' hs'=> AH.mono hs'.base) h1 (by show 0+m<=_;omega) rfl dE (fun g' hn hl=> ?_));refine U2 ?_;refine .rt hK func218 results218 [_] ?_;exact fun H' hs'=> ⟨hs'.base,g',rfl,⟨by rw[hl];rfl,by rw[hn];show 0+m=m;omega⟩,fun x hx=> ⟨hs'.at_ x hx,hs'.out x hx⟩⟩
end
section
variable(M:Md prog)(H:View)
theorem EU(a:Option Addr)(m ca:Nat)(l:List Value)(hm:m<=100000)(AH:ZA H 4 (.slice a m ca) m l)(h1:l.all single=true):bA M 219 #[.slice a m ca] H (fun v H'=> H.le H'/\∃g:Gl 39 4,v=g.val/\(g.l=l/\g.n=m)/\∀x∈g.bl,H' x.1=some x.2/\H x.1=none):=by
 refine .en func219 ntmps219 fun St c cs hK=> ?_;cases a with
 | none=>
  refine U8 ?_;refine .x (pA.eM (E:=en) rfl rfl rfl rfl rfl) ?_;refine U6 ?_;refine .rt hK func219 results219 [_] ?_;obtain⟨_,h2,h3|⟨b,off,_,_,_,_,_,h3,_⟩⟩:=AH
  ·obtain⟨_,_,_,rfl⟩:=h3;have:m=0:=by simp at h2;omega
   subst this;exact fun H' hs'=> ⟨hs'.base,Gl.nil 39 4,rfl,⟨rfl,rfl⟩,by simp[Gl.nil,Gl.bl]⟩
  ·cases h3
 | some a=>
  refine U8 ?_;refine .x (pA.eM (E:=en) rfl rfl rfl rfl rfl) ?_;refine U5 ?_;refine .e (.bs (zz:=fun bs=> ?_));refine U ?_;refine .e (Or.append (E:=en) (g:=Gl.emp 39 4 bs) 0 rfl rfl rfl rfl rfl rfl rfl rfl rfl rfl rfl rfl rfl rfl rfl (fun H' hs'=> AH.mono hs'.base) h1 (by show 0+m<=_;omega) rfl dE (fun g' hn hl=> ?_));refine U2 ?_;refine .rt hK func219 results219 [_] ?_;exact fun H' hs'=> ⟨hs'.base,g',rfl,⟨by rw[hl];rfl,by rw[hn];show 0+m=m;omega⟩,fun x hx=> ⟨hs'.at_ x hx,hs'.out x hx⟩⟩
theorem FU(a:Option Addr)(m ca:Nat)(l:List Value)(hm:m<=100000)(AH:ZA H 1 (.slice a m ca) m l)(h1:l.all single=true):bA M 220 #[.slice a m ca] H (fun v H'=> H.le H'/\∃g:Gl 110 1,v=g.val/\(g.l=l/\g.n=m)/\∀x∈g.bl,H' x.1=some x.2/\H x.1=none):=by
 refine .en func220 ntmps220 fun St c cs hK=> ?_;cases a with
 | none=>
  refine U8 ?_;refine .x (pA.eM (E:=en) rfl rfl rfl rfl rfl) ?_;refine U6 ?_;refine .rt hK func220 results220 [_] ?_;obtain⟨_,h2,h3|⟨b,off,_,_,_,_,_,h3,_⟩⟩:=AH
  ·obtain⟨_,_,_,rfl⟩:=h3;have:m=0:=by simp at h2;omega
   subst this;exact fun H' hs'=> ⟨hs'.base,Gl.nil 110 1,rfl,⟨rfl,rfl⟩,by simp[Gl.nil,Gl.bl]⟩
  ·cases h3
 | some a=>
  refine U8 ?_;refine .x (pA.eM (E:=en) rfl rfl rfl rfl rfl) ?_;refine U5 ?_;refine .e (.bs (zz:=fun bs=> ?_));refine U ?_;refine .e (Or.append (E:=en) (g:=Gl.emp 110 1 bs) 0 rfl rfl rfl rfl rfl rfl rfl rfl rfl rfl rfl rfl rfl rfl rfl (fun H' hs'=> AH.mono hs'.base) h1 (by show 0+m<=_;omega) rfl dE (fun g' hn hl=> ?_));refine U2 ?_;refine .rt hK func220 results220 [_] ?_;exact fun H' hs'=> ⟨hs'.base,g',rfl,⟨by rw[hl];rfl,by rw[hn];show 0+m=m;omega⟩,fun x hx=> ⟨hs'.at_ x hx,hs'.out x hx⟩⟩
end
def nH(a b:Int):Int:=if a=2\/b=2 then 2 else if a=1 then b else 0
section
variable(M:Md prog)(H:View)
theorem s8(a b:Int):bA M 133 #[.int .i64 a,.int .i64 b] H (fun v H'=> H.le H'/\v=.int .i64 (nH a b)):=by
 refine .en func133 ntmps133 fun St c cs hK=> ?_;by_cases c1:a=2
 ·have e:nH a b=2:=by unfold nH;simp[c1]
  subst c1;refine zP ?_;refine .rt hK func133 results133 [_] ?_;exact fun H' hs=> ⟨hs.base,by rw[e];rfl⟩
 ·by_cases c2:b=2
  ·have e:nH a b=2:=by unfold nH;simp[c2]
   subst c2;refine zP ?_;refine .rt hK func133 results133 [_] ?_;exact fun H' hs=> ⟨hs.base,by rw[e];rfl⟩
  ·by_cases c3:a=1
   ·have e:nH a b=b:=by unfold nH;simp[c2,c3]
    subst c3;refine U29 ?_;refine .rt hK func133 results133 [_] ?_;exact fun H' hs=> ⟨hs.base,by rw[e];rfl⟩
   ·have e:nH a b=0:=by unfold nH;simp[c1,c2,c3]
    refine G9 ?_;refine .rt hK func133 results133 [_] ?_;exact fun H' hs=> ⟨hs.base,by rw[e];rfl⟩
end
set_option maxHeartbeats 4000000
def MA(n:Nat)(f:Nat->List Value):List Value:=(List.range n).flatMap f
theorem GC(n:Nat)(f:Nat->List Value):MA (n+1) f=MA n f++f n:=by
 unfold MA;rw[List.range_succ,List.flatMap_append];simp
theorem xC {f:Nat->List Value}{sz:Nat}(h:∀i,(f i).length=sz):∀n,(MA n f).length=n*sz
 | 0=> by simp[MA]
 | n+1=> by rw[GC,List.length_append,xC h n,h,Nat.succ_mul]
theorem RH {f g:Nat->List Value}:∀n,(∀i,i<n->f i=g i)->MA n f=MA n g
 | 0,_=> rfl
 | n+1,h=> by rw[GC,GC,RH n (fun i hi=> h i oM),h n oM]
theorem QE {f:Nat->List Value}:∀n i,i<n->∃t,MA n f=MA i f++(f i++t)/\∀g:Nat->List Value,(∀j,j<n->j≠i->g j=f j)->MA n g=MA i f++(g i++t)
 | 0,_,h=> by omega
 | n + 1,i,h=> by
  by_cases e:i=n
  ·subst e;refine⟨[],by rw[GC];simp,fun g hg=> ?_⟩;rw[GC,RH i (fun j hj=> hg j oM oM)];simp
  ·obtain⟨t,h1,h2⟩:=QE (f:=f) n i oM;refine⟨t++f n,by rw[GC,h1];simp,fun g hg=> ?_⟩;rw[GC,h2 g (fun j hj=> hg j oM),hg n oM oM];simp
theorem IN {f:Nat->List Value}{sz:Nat}(h:∀i,(f i).length=sz){n i:Nat}(hi:i<n)(kB:List Value):tE true sz (MA n f++kB) (i*sz)=some (.agg ⟨f i⟩):=by
 obtain⟨t,h1,_⟩:=QE (f:=f) n i hi;rw[h1];have hl:(MA i f).length=i*sz:=xC h i;rw[pV (by simp only[List.length_append,hl,h i];omega)]
 congr 3
 rw[List.append_assoc,List.append_assoc,List.drop_left' hl,List.take_left' (h i)]
theorem TG {f:Nat->List Value}(h:∀i,(f i).all single=true)(n:Nat):(MA n f).all single=true:=by
 unfold MA;rw[List.all_eq_true];intro x hx;obtain⟨i,_,h2⟩:=List.mem_flatMap.1 hx;exact List.all_eq_true.1 (h i) x h2
def pG(k:Bk)(F:Nat->Option Addr)(fc:Nat->Nat)(i:Nat):List Value:= [gA (k.name i),gA (k.num i),.slice (F i) (k.nf i) (fc i)]
def tB(k:Bk)(i:Nat):List Value:= [.int .i64 (k.pf i),.int .i64 (k.pt i),.int .i64 (k.qf i),.int .i64 (k.qt i)]
def KN(x:Nat->Int)(j:Nat):List Value:= [.int .i64 (x j)]
structure WB(H:View)(k:Bk)(A:Option Addr)(lc:Nat)(B:Option Addr)(tc:Nat)(F:Nat->Option Addr)(fc:Nat->Nat):Prop where
 Y6:k.nl<=lc
 KY:k.nt<=tc
 rows:ZA H 3 (.slice A k.nl lc) k.nl (MA k.nl (pG k F fc))
 JC:ZA H 4 (.slice B k.nt tc) k.nt (MA k.nt (tB k))
 F0:∀i,i<k.nl->k.nf i<=fc i
 free:∀i,i<k.nl->ZA H 1 (.slice (F i) (k.nf i) (fc i)) (k.nf i) (MA (k.nf i) (KN (k.free i)))
theorem WB.le {H H':View}{k:Bk}{A:Option Addr}{lc:Nat}{B:Option Addr}{tc:Nat}{F:Nat->Option Addr}{fc:Nat->Nat}(h:WB H k A lc B tc F fc)(hl:H.le H'):WB H' k A lc B tc F fc:=
 ⟨h.Y6,h.KY,h.rows.mono hl,h.JC.mono hl,h.F0,fun i hi=> (h.free i hi).mono hl⟩
theorem HR {H:View}{sz n c:Nat}{A:Option Addr}{f:Nat->List Value}(hf:∀i,(f i).length=sz)(h:ZA H sz (.slice A n c) n (MA n f))(hn:0<n)(h0:0<sz):
  ∃b o g gs gt gz,A=some ⟨b,o,none⟩/\H b=some (g,.cells ⟨gs⟩ gt gz)/\∀i:Nat,i<n->tE true sz gs (o+(i:Int).toNat*sz)=some (.agg ⟨f i⟩):=by
 have hl:=xC hf n;have eV:0<n*sz:=Nat.mul_pos hn h0;obtain⟨_,_,⟨_,_,_,h1⟩|⟨b,o,c',g,gs,gt,gz,h1,h2,h3,h4⟩⟩:=h
 ·rw[h1] at hl;simp at hl
  omega
 ·simp only[Value.slice.injEq] at h1;refine⟨b,o,g,gs,gt,gz,h1.1,h2,fun i hi=> ?_⟩;have h5:=IN hf hi [];rw[List.append_nil] at h5;have h6:=(oR h5).1;rw[<-h4] at h5;rw[<-h5,Int.toNat_natCast];have h7:i*sz+sz<=(MA n f).length:=h6;rw[pV oM,pV (by rw[List.length_take,List.length_drop];omega)]
  congr 3
  rw[List.drop_take,List.take_take,List.drop_drop,Nat.min_eq_left oM]
theorem WB.D3 {H:View}{k:Bk}{A:Option Addr}{lc:Nat}{B:Option Addr}{tc:Nat}{F:Nat->Option Addr}{fc:Nat->Nat}(h:WB H k A lc B tc F fc):nC H k A lc:=by
 refine⟨h.Y6,?_⟩;rcases Nat.eq_zero_or_pos k.nl with h0|h0
 ·exact .inl h0
 ·obtain⟨b,o,g,gs,gt,gz,h1,h2,h3⟩:=HR (f:=pG k F fc) (sz:=3) (fun _=> rfl) h.rows h0 dE;refine .inr ⟨b,o,g,gs,gt,gz,h1,h2,fun i hi=> ⟨F i,fc i,h3 i hi,h.F0 i hi,?_⟩⟩;rcases Nat.eq_zero_or_pos (k.nf i) with h4|h4
  ·exact .inl h4
  ·obtain⟨b',o',g',gs',gt',gz',h5,h6,h7⟩:=HR (f:=KN (k.free i)) (sz:=1) (fun _=> rfl) (h.free i hi) h4 dE;refine .inr ⟨b',o',g',gs',gt',gz',h5,h6,fun j hj=> ?_⟩;have h8:=h7 j hj;have h9:=(oR h8).1;have h10:=(oR h8).2;show gs'[_]? =_;simp only[Value.agg.injEq,Array.mk.injEq,KN] at h10;have h11:=congrArg (fun l=> l[0]?) h10;simp only[List.getElem?_take,List.getElem?_drop] at h11;simpa using h11.symm
theorem WB.KO {H:View}{k:Bk}{A:Option Addr}{lc:Nat}{B:Option Addr}{tc:Nat}{F:Nat->Option Addr}{fc:Nat->Nat}(h:WB H k A lc B tc F fc):uC H k B tc:=by
 refine⟨h.KY,?_⟩;rcases Nat.eq_zero_or_pos k.nt with h0|h0
 ·exact .inl h0
 ·obtain⟨b,o,g,gs,gt,gz,h1,h2,h3⟩:=HR (f:=tB k) (sz:=4) (fun _=> rfl) h.JC h0 dE;exact .inr ⟨b,o,g,gs,gt,gz,h1,h2,fun i hi=> h3 i hi⟩
def Bk.with(k:Bk)(t:Nat)(x y z w:Int):Bk:=
 { k with pf:=fun i=> if i=t then x else k.pf i,pt:=fun i=> if i=t then y else k.pt i,qf:=fun i=> if i=t then z else k.qf i,qt:=fun i=> if i=t then w else k.qt i }
theorem LN {e:TypeId}{sz:Nat}(g:Gl e sz):(g.bl.map (·.1)).Nodup:=by
 unfold Gl.bl;split <;> simp
theorem FT(k:Bk)(F:Nat->Option Addr)(fc:Nat->Nat)(i:Nat):(pG k F fc i).all single=true:=rfl
theorem oP(k:Bk)(i:Nat):(tB k i).all single=true:=rfl
theorem YQ(x:Nat->Int)(i:Nat):(KN x i).all single=true:=rfl
def addrOf(l:List (Gl 110 1))(F:Nat->Option Addr)(i:Nat):Option Addr:=match l[i]? with
 | some g=> g.blk.map fun b=> ⟨b,0,none⟩
 | none=> F i
def XD(l:List (Gl 110 1))(fc:Nat->Nat)(i:Nat):Nat:=match l[i]? with
 | some g=> g.cap
 | none=> fc i
def vN(l:List (Gl 110 1)):Bl:=l.flatMap Gl.bl
theorem OU {f:Nat->List Value}{sz:Nat}(h:∀i,(f i).length=sz){n i d:Nat}(hi:i<n)(hd:d<sz)(kB:List Value):(MA n f++kB)[i*sz+d]? =(f i)[d]? :=by
 obtain⟨t,h1,_⟩:=QE (f:=f) n i hi;have hl:(MA i f).length=i*sz:=xC h i;rw[h1,List.append_assoc,List.append_assoc,List.getElem?_append_right oM,hl,Nat.add_sub_cancel_left,List.getElem?_append_left (by rw[h i];exact hd)]
theorem WZ {f g:Nat->List Value}{sz:Nat}(h:∀i,(f i).length=sz){n i d:Nat}(hi:i<n)(hd:d<sz)(kB:List Value)(v:Value)(hg:∀j,j<n->j≠i->g j=f j)(hv:g i=(f i).set d v):uG (MA n f++kB) (i*sz+d) [v]=MA n g++kB:=by
 obtain⟨t,h1,h2⟩:=QE (f:=f) n i hi;have hl:(MA i f).length=i*sz:=xC h i;rw[h1,h2 g hg,hv,<-UK _ _ _ _ (by simp only[List.length_append,hl,h i];omega),VK];rw[List.append_assoc,List.append_assoc,List.set_append_right _ _ oM,hl,Nat.add_sub_cancel_left,List.set_append_left _ _ (by rw[h i];exact hd)];simp
theorem QP {f g:Nat->List Value}{sz:Nat}(h:∀i,(f i).length=sz)(h':∀i,(g i).length=sz){n i:Nat}(hi:i<n)(kB:List Value)(hg:∀j,j<n->j≠i->g j=f j):uG (MA n f++kB) (i*sz) (g i)=MA n g++kB:=by
 obtain⟨t,h1,h2⟩:=QE (f:=f) n i hi;have hl:(MA i f).length=i*sz:=xC h i;rw[h1,h2 g hg];unfold uG;rw[List.append_assoc,List.append_assoc,List.append_assoc,List.append_assoc,List.take_left' hl,h' i,<-List.drop_drop,List.drop_left' hl,List.drop_left' (h i)];simp
theorem EO {H:View}{f:Nat->List Value}{sz n c b:Nat}{fl:Bool}{kB:List Value}{e:TypeId}{fz:Nat×Nat}(h:∀i,(f i).length=sz)(hb:H b=some (fl,.cells ⟨MA n f++kB⟩ e fz)):ZA H sz (.slice (some ⟨b,0,none⟩) n c) n (MA n f):=
 ⟨⟨_,_,rfl⟩,xC h n,.inr ⟨b,0,c,fl,_,e,fz,rfl,hb,by simp,by simp⟩⟩
section
variable(M:Md prog)(H:View)
theorem L4(k:Bk)(A:Option Addr)(lc:Nat)(B:Option Addr)(tc:Nat)(F:Nat->Option Addr)(fc:Nat->Nat)(hB:WB H k A lc B tc F fc)(hn:k.nl<=1000)(zK:k.nt<=1000)(VX:∀i,i<k.nl->k.nf i<=1000)(t:Nat)(ht:t<k.nt)(x y z w:Int):
   bA M 132 #[k.val A lc B tc,.int .i64 (t:Nat),mD x y z w] H (fun v H'=> H.le H'/\∃A' lc' B' tc' F' fc',v=(k.with t x y z w).val A' lc' B' tc'/\WB H' (k.with t x y z w) A' lc' B' tc' F' fc'):=by
 refine .en func132 ntmps132 fun St c cs hK=> ?_;refine U2 ?_;refine .bo fun b3=> ?_;refine .bo fun b5=> ?_;refine .al fun b6=> ?_;refine U2 ?_;refine Tc.dr [10,13] [2] mixed rfl ?_;refine V3 0 ?_;refine V3 4 ?_;refine .ea 3 rfl (Or.PB Gl.val Gl.bl (fun g:Gl 68 3=> g.l=MA k.nl (pG k F fc)/\g.n=k.nl) rfl rfl rfl rfl rfl dE LN (fun H₁ dT=> .h (DU M H₁ A k.nl lc _ oM (hB.rows.mono dT.base) (TG (FT k F fc) _))) (fun g hg=> ⟨S2.mk sL (.inr sL),?_⟩));refine .nw 8 ?_;refine .nn 9 ?_;refine .ea 7 rfl (Or.PB Gl.val Gl.bl (fun g:Gl 39 4=> g.l=MA k.nt (tB k)/\g.n=k.nt) rfl rfl rfl rfl rfl dE LN (fun H₁ dT=> .h (EU M H₁ B k.nt tc _ oM (hB.JC.mono dT.base) (TG (oP k) _))) (fun g2 dP=> ⟨S2.mk sL (.inr sL),?_⟩));refine .e 10 2 ?_;refine .nw 11 ?_;refine .nw 12 ?_;refine .e 13 2 ?_;refine .dn ?_;obtain⟨gb,gn,gc,gl,gj,dL,W6,hgj,L8⟩:=g;obtain⟨rfl,rfl⟩:=hg;obtain⟨g2b,g2n,g2c,g2l,g2j,aE6,aCI,aE5,aEe⟩:=g2;obtain⟨rfl,rfl⟩:=dP;cases g2b with
 | none=>
   have:=aEe rfl;omega
 | some tb =>
   cases gb with
   | none=>
     have h0:=L8 rfl;have F8:k.nl=0:=by omega
     have f3:Nat.ble (0+((t:Nat):Int).toNat*4+4) (MA k.nt (tB k)++g2j).length=true:=by
       refine Nat.ble_eq_true_of_le ?_;rw[List.length_append,xC (f:=tB k) (sz:=4) (fun _=> rfl),Int.toNat_natCast];omega
     refine DD ?_;refine Tc.db (Tc.sA (σ:=Unit) (fun _=> ([(1,.int .i64 (t:Nat)),(3,.pointer (some ⟨b3,0,none⟩)),(5,.pointer (some ⟨b5,0,none⟩)),(6,.pointer (some ⟨b6,0,none⟩)),(23,.int .i64 (k.nl:Nat)),(24,.int .i64 0)],
       [(b6,true,.cells ⟨[.int .i64 0,.int .i64 0,.slice none 0 0,.slice none 0 0]⟩ 166 (0,0)),(b5,true,.cells ⟨[.int .i64 x,.int .i64 y,.int .i64 z,.int .i64 w]⟩ 39 (0,0)),(b3,true,.cells ⟨[.int .i64 k.cD,.int .i64 k.rB,.slice none k.nl gc,.slice (some ⟨tb,0,none⟩) k.nt g2c]⟩ 166 (0,0)),(tb,true,.cells ⟨MA k.nt (tB k)++g2j⟩ 39 (0,0))])) (fun _=> 0) ?_ ())
     rintro _ ih;show Tc M St _ _ _ _ [(1,.int .i64 (t:Nat)),(3,.pointer (some ⟨b3,0,none⟩)),(5,.pointer (some ⟨b5,0,none⟩)),(6,.pointer (some ⟨b6,0,none⟩)),(23,.int .i64 (k.nl:Nat)),(24,.int .i64 0)]
       [(b6,true,.cells ⟨[.int .i64 0,.int .i64 0,.slice none 0 0,.slice none 0 0]⟩ 166 (0,0)),(b5,true,.cells ⟨[.int .i64 x,.int .i64 y,.int .i64 z,.int .i64 w]⟩ 39 (0,0)),(b3,true,.cells ⟨[.int .i64 k.cD,.int .i64 k.rB,.slice none k.nl gc,.slice (some ⟨tb,0,none⟩) k.nt g2c]⟩ 166 (0,0)),(tb,true,.cells ⟨MA k.nt (tB k)++g2j⟩ 39 (0,0))] _ _
     clear ih;rw[show((k.nl:Nat):Int)=0 by rw[F8];rfl];refine P4 ?_;refine .rt hK func132 results132 [_] ?_;refine fun H' hs'=> ⟨hs'.base,none,gc,some ⟨tb,0,none⟩,g2c,F,fc,rfl,W6,aCI,?_,?_,fun i hi=> ?_,fun i hi=> ?_⟩
     · show ZA H' 3 (.slice none k.nl gc) k.nl (MA k.nl (pG k F fc));rw[F8];exact⟨⟨_,_,rfl⟩,rfl,.inl ⟨none,gc,rfl,rfl⟩⟩
     · have LB:uG (MA k.nt (tB k)++g2j) (0+((t:Nat):Int).toNat*4) [.int .i64 x,.int .i64 y,.int .i64 z,.int .i64 w]=MA k.nt (tB (k.with t x y z w))++g2j:=by
         rw[Nat.zero_add,Int.toNat_natCast];have h1:=QP (f:=tB k) (g:=tB (k.with t x y z w)) (sz:=4) (fun _=> rfl) (fun _=> rfl) ht g2j (fun i _ hi=> by simp[tB,Bk.with,hi]);rw[<-h1];simp[tB,Bk.with]
       have h2:H' tb=some (true,.cells ⟨MA k.nt (tB (k.with t x y z w))++g2j⟩ 39 (0,0)):=by
         rw[<-LB];exact hs'.get (i:=3) rfl
       exact EO (f:=tB (k.with t x y z w)) (sz:=4) (n:=k.nt) (c:=g2c) (b:=tb) (fun _=> rfl) h2
     · have UR:i<k.nl:=hi;omega
     · have UR:i<k.nl:=hi;omega
   | some lb =>
     refine DD ?_;refine Tc.db (Tc.sA (σ:= { l:List (Gl 110 1)//l.length<=k.nl/\∀i g,l[i]? =some g->g.l=MA (k.nf i) (KN (k.free i))/\g.n=k.nf i })
       (fun l=> ([(1,.int .i64 (t:Nat)),(3,.pointer (some ⟨b3,0,none⟩)),(5,.pointer (some ⟨b5,0,none⟩)),(6,.pointer (some ⟨b6,0,none⟩)),(23,.int .i64 (k.nl:Nat)),(24,.int .i64 (l.1.length:Nat))],
         [(b6,true,.cells ⟨[.int .i64 0,.int .i64 0,.slice none 0 0,.slice none 0 0]⟩ 166 (0,0)),(b5,true,.cells ⟨[.int .i64 x,.int .i64 y,.int .i64 z,.int .i64 w]⟩ 39 (0,0)),(b3,true,.cells ⟨[.int .i64 k.cD,.int .i64 k.rB,.slice (some ⟨lb,0,none⟩) k.nl gc,.slice (some ⟨tb,0,none⟩) k.nt g2c]⟩ 166 (0,0)),
           (lb,true,.cells ⟨MA k.nl (pG k (addrOf l.1 F) (XD l.1 fc))++gj⟩ 68 (0,0)),(tb,true,.cells ⟨MA k.nt (tB k)++g2j⟩ 39 (0,0))]++vN l.1)) (fun l=> k.nl-l.1.length) ?_ ⟨[],Nat.zero_le _,by simp⟩)
     rintro⟨l,hll,hlg⟩ ih;show Tc M St _ _ _ _ [(1,.int .i64 (t:Nat)),(3,.pointer (some ⟨b3,0,none⟩)),(5,.pointer (some ⟨b5,0,none⟩)),(6,.pointer (some ⟨b6,0,none⟩)),(23,.int .i64 (k.nl:Nat)),(24,.int .i64 (l.length:Nat))]
         ([(b6,true,.cells ⟨[.int .i64 0,.int .i64 0,.slice none 0 0,.slice none 0 0]⟩ 166 (0,0)),(b5,true,.cells ⟨[.int .i64 x,.int .i64 y,.int .i64 z,.int .i64 w]⟩ 39 (0,0)),(b3,true,.cells ⟨[.int .i64 k.cD,.int .i64 k.rB,.slice (some ⟨lb,0,none⟩) k.nl gc,.slice (some ⟨tb,0,none⟩) k.nt g2c]⟩ 166 (0,0)),
           (lb,true,.cells ⟨MA k.nl (pG k (addrOf l F) (XD l fc))++gj⟩ 68 (0,0)),(tb,true,.cells ⟨MA k.nt (tB k)++g2j⟩ 39 (0,0))]++vN l) _ _
     by_cases c1:l.length=k.nl
     · have f3:Nat.ble (0+((t:Nat):Int).toNat*4+4) (MA k.nt (tB k)++g2j).length=true:=by
         refine Nat.ble_eq_true_of_le ?_;rw[List.length_append,xC (f:=tB k) (sz:=4) (fun _=> rfl),Int.toNat_natCast];omega
       rw[c1];refine P4 ?_;refine .rt hK func132 results132 [_] ?_;refine fun H' hs'=> ⟨hs'.base,some ⟨lb,0,none⟩,gc,some ⟨tb,0,none⟩,g2c,addrOf l F,XD l fc,rfl,W6,aCI,?_,?_,fun i hi=> ?_,fun i hi=> ?_⟩
       · exact EO (f:=pG k (addrOf l F) (XD l fc)) (sz:=3) (n:=k.nl) (c:=gc) (b:=lb) (fun _=> rfl) (hs'.get (i:=3) rfl)
       · have LB:uG (MA k.nt (tB k)++g2j) (0+((t:Nat):Int).toNat*4) [.int .i64 x,.int .i64 y,.int .i64 z,.int .i64 w]=MA k.nt (tB (k.with t x y z w))++g2j:=by
           rw[Nat.zero_add,Int.toNat_natCast];have h1:=QP (f:=tB k) (g:=tB (k.with t x y z w)) (sz:=4) (fun _=> rfl) (fun _=> rfl) ht g2j (fun i _ hi=> by simp[tB,Bk.with,hi]);rw[<-h1];simp[tB,Bk.with]
         have h2:H' tb=some (true,.cells ⟨MA k.nt (tB (k.with t x y z w))++g2j⟩ 39 (0,0)):=by
           rw[<-LB];exact hs'.get (i:=4) rfl
         exact EO (f:=tB (k.with t x y z w)) (sz:=4) (n:=k.nt) (c:=g2c) (b:=tb) (fun _=> rfl) h2
       · have hil:i<l.length:=by rw[c1];exact hi
         have h1:l[i]? =some l[i]:=List.getElem?_eq_getElem hil;have h2:=hlg i _ h1;show k.nf i<=XD l fc i;unfold XD;rw[h1];have:=(l[i]).hc;simp only;omega
       · have hil:i<l.length:=by rw[c1];exact hi
         have h1:l[i]? =some l[i]:=List.getElem?_eq_getElem hil;have h2:=hlg i _ h1;have h3:=(l[i]).src (H:=H') (fun y hy=> hs'.at_ y (by have h0:y∈vN l:=List.mem_flatMap.2 ⟨_,List.getElem_mem hil,hy⟩;simp[h0]));rw[h2.1,h2.2] at h3;show ZA H' 1 (.slice (addrOf l F i) (k.nf i) (XD l fc i)) (k.nf i) (MA (k.nf i) (KN (k.free i)));have h4:Gl.val l[i]=.slice (addrOf l F i) (k.nf i) (XD l fc i):=by
           unfold addrOf XD;rw[h1,<-h2.2];rfl
         rw[<-h4];exact h3
     · have c2:l.length<k.nl:=by omega
       have f1:tE false 1 (MA k.nl (pG k (addrOf l F) (XD l fc))++gj) (0+((l.length:Nat):Int).toNat*3+2)=some (.slice (F l.length) (k.nf l.length) (fc l.length)):=by
         show _[_]? =_;rw[Nat.zero_add,Int.toNat_natCast,OU (f:=pG k (addrOf l F) (XD l fc)) (sz:=3) (d:=2) (fun _=> rfl) c2 dE];simp[pG,addrOf,XD]
       have f2:Nat.ble (0+((l.length:Nat):Int).toNat*3+2+1) (MA k.nl (pG k (addrOf l F) (XD l fc))++gj).length=true:=by
         refine Nat.ble_eq_true_of_le ?_;rw[List.length_append,xC (f:=pG k (addrOf l F) (XD l fc)) (sz:=3) (fun _=> rfl),Int.toNat_natCast];omega
       refine vF ?_;refine Tc.dr [14] [3] mixed rfl ?_;refine V11 0 ?_;refine .ea 11 rfl (Or.PB Gl.val Gl.bl (fun g:Gl 110 1=> g.l=MA (k.nf l.length) (KN (k.free l.length))/\g.n=k.nf l.length) rfl rfl rfl rfl rfl dE LN (fun H₁ dT=> .h (FU M H₁ (F l.length) (k.nf l.length) (fc l.length) _ (by have:=VX _ c2;omega) ((hB.free _ c2).mono dT.base) (TG (YQ (k.free l.length)) _))) (fun g hg=> ⟨S2.mk sL (.inr sL),?_⟩));refine .nw 12 ?_;refine .nn 13 ?_;refine .e 14 3 ?_;refine .dn ?_;refine U5 ?_;have LB:uG (MA k.nl (pG k (addrOf l F) (XD l fc))++gj) (0+((l.length:Nat):Int).toNat*3+2) (Gl.val g).cells.toList=MA k.nl (pG k (addrOf (l++[g]) F) (XD (l++[g]) fc))++gj:=by
         rw[Nat.zero_add,Int.toNat_natCast];refine WZ (f:=pG k (addrOf l F) (XD l fc)) (sz:=3) (d:=2) (fun _=> rfl) c2 dE gj (Gl.val g) (fun i _ hi=> ?_) ?_
         · by_cases h1:i<l.length
           · simp only[pG,addrOf,XD,List.getElem?_append_left h1]
           · simp only[pG,addrOf,XD];rw[List.getElem?_eq_none (by simp;omega),List.getElem?_eq_none oM]
         · simp only[pG,addrOf,XD,List.getElem?_concat_length];rw[<-hg.2];rfl
       have EJ:vN (l++[g])=vN l++g.bl:=by simp[vN]
       refine Tc.ZC (ih ⟨l++[g],by simp;omega,fun i g' hi=> ?_⟩ (by simp;omega)) ?_ ?_
       · by_cases h1:i<l.length
         · rw[List.getElem?_append_left h1] at hi;exact hlg i g' hi
         · by_cases h2:i=l.length
           · subst h2;rw[List.getElem?_concat_length] at hi;cases hi
             exact hg
           · rw[List.getElem?_eq_none (by simp;omega)] at hi;cases hi
       · refine⟨rfl,rfl,rfl,rfl,rfl,?_,trivial⟩;have hlen:(((l++[g]).length:Nat):Int)=(l.length:Nat)+1:=by simp
         show _=some (Value.int .i64 (((l++[g]).length:Nat):Int));rw[hlen];rfl
       · show List.Sublist (_++vN (l++[g])) _;rw[EJ,<-LB,<-List.append_assoc];exact List.Sublist.refl _
end
end Go.Proofs.YtldmfjcgjdchcaaGreatDoor
namespace Go.Proofs.YtldmfjcgjdchcaaGreatDoor
open Go.RL Go.Proofs.Tryz
set_option maxRecDepth 10000
def Bk.AF(k:Bk):Nat->List MF
 | 0=> [⟨[],0,false⟩]
 | i+1=> (k.AF i).flatMap fun e=> (k.can i).map fun x=> e.hear x.1 x.2
theorem Bk.OC(k:Bk):∀n e,e∈k.AF n<->k.HD n e
 | 0,e=> by simp[Bk.AF,Bk.HD]
 | n + 1,e=> by
  simp only[Bk.AF,Bk.HD,List.mem_flatMap,List.mem_map];constructor
  ·rintro⟨e0,h0,x,hx,rfl⟩;exact⟨e0,(k.OC n e0).1 h0,x,hx,rfl⟩
  ·rintro⟨e0,h0,x,hx,rfl⟩;exact⟨e0,(k.OC n e0).2 h0,x,hx,rfl⟩
def distinct:List Int->List Int
 | []=> []
 | x::t=> if x∈distinct t then distinct t else x::distinct t
theorem uD {x:Int}:∀l:List Int,x∈distinct l<->x∈l
 | []=> Iff.rfl
 | y ::t=> by
  unfold distinct;split
  ·rename_i h
   rw[List.mem_cons,uD t];constructor
   ·exact .inr
   ·rintro(rfl|h')
    ·exact(uD t).1 h
    ·exact h'
  ·rw[List.mem_cons,List.mem_cons,uD t]
theorem iE:∀l:List Int,(distinct l).Nodup
 | []=> List.nodup_nil
 | y ::t=> by
  unfold distinct;split
  ·exact iE t
  ·rename_i h
   exact List.nodup_cons.2 ⟨h,iE t⟩
def Bk.BR(k:Bk):List Int:=distinct ((k.AF k.nt).map fun e=> fB (k.line e.heard))
theorem Bk.nT(k:Bk)(z:Int):z∈k.BR<->k.IV z:=by
 unfold Bk.BR Bk.IV;rw[uD,List.mem_map];constructor
 ·rintro⟨e,h,rfl⟩;exact⟨e,(k.OC _ e).1 h,rfl⟩
 ·rintro⟨e,h,rfl⟩;exact⟨e,(k.OC _ e).2 h,rfl⟩
theorem NL {es:Array MapEntry}{cl:Nat}{S:Int->Prop}(h:IB es cl (yH S)){l:List Int}(hl:l.Nodup)(hS:∀z,z∈l<->S z):es.size=l.length:=by
 have hp:(es.toList.map (·.key)).Perm (l.map fun z=> Value.int .i64 z):=by
  rw[List.perm_ext_iff_of_nodup h.keys (List.Pairwise.map _ (fun a b KS=> by simpa using KS) hl)];intro x;rw[List.mem_map,List.mem_map];constructor
  ·rintro⟨e,he,rfl⟩;obtain⟨z,h1,h2,_⟩:=ML h e he;exact⟨z,(hS z).2 h1,h2.symm⟩
  ·rintro⟨z,hz,rfl⟩;obtain⟨e,he,h2,_⟩:=(h.mem (.int .i64 z) (.bool true)).1 ⟨z,(hS z).1 hz,rfl,rfl⟩;exact⟨e,he,h2⟩
 have:=hp.length_eq;simpa using this
theorem Bk.vO {k:Bk}{es:Array MapEntry}{cl:Nat}(h:IB es cl (yH k.IV)):es.size=k.BR.length:=NL h (iE _) k.nT
end Go.Proofs.YtldmfjcgjdchcaaGreatDoor
namespace Go.RL
open Go.Conc
section
variable {P:Program}{M:Md P}{St:View->Goroutine->Prop}{n:Nat}{b:FB}{H₀ H₁:View}{cs:List Frame}{R:Rg}{L:Bl}{ds:List Deferred}{k:List Item}{md:Region.Mode}{ops:Array Oper}
theorem S2.g9 {B:List Nat}{Ls Lb L₁:Bl}{listed:Array Bool}(hle:H₀.le H₁)(h1:Ls.Sublist L₁)(h2:(B.all fun j=> !(listed.getD j true))=false\/Lb.Sublist L₁):∀H,iA H₁ L₁ H->S2 H₀ B Ls Lb listed H:=fun H hs=> S2.mk h1 h2 H (hs.lower hle)
theorem Ta.tZ(i:Nat){B:List Nat}{Hs:View}{Ls Lb:Bl}{o:Oper}{d:Nat}{fuel:Nat}{listed:Array Bool}{cl:Go.Call}{x:Operand}{fv:Value}{az:List Value}(hr:Region.ready md ops listed= [i])(hi:ops[i]? =some o)
  (hw:KA (ops.toList.map (fun o:Oper=> o.dst)) R o=some true) (kA:o.op=.call cl) (iB:cl.callee=.value x) (hx:HA R x=some fv) (has:VC R cl.args.toList=some az) (hd:o.dst=some d) (hn:d<n)
  {Q:Value->View->Prop} (hc:yB M fv az H₀ Q) (hle:∀v H₁,Q v H₁->Hs.le H₁) (h1:Ls.Sublist L) (h2:(B.all fun j=> !((listed.setIfInBounds i true).getD j true))=false\/Lb.Sublist L)
  (hk:∀v H₁,Q v H₁->Ta M St n b H₁ cs (S2 Hs B Ls Lb) md ops fuel (listed.setIfInBounds i true) ((d,v)::R) L ds k):
  Ta M St n b H₀ cs (S2 Hs B Ls Lb) md ops (fuel+1) listed R L ds k:=fun H tmps hs rE _ H₂ h2' _=> by
 have hs:=hs.mono h2';refine⟨fun e=> (by rw[hr] at e;cases e),fun j hj o' iP=> ?_⟩;rw[hr] at hj;have:j=i:=by simpa using hj
 subst this;rw[hi] at iP;cases iP
 refine⟨(by rw[kA];rfl),?_⟩;have WW:Region.wanted o (yielded ops tmps)=true:=wB (fun j=> by
  simp only[List.getElem?_map,Array.getElem?_toList];cases ops[j]? <;> rfl) rE hw
 rw[if_pos WW];obtain⟨F,rfl,S4,hF⟩:=hs.split;have e1:=rE.ev hx;have XG:cl.args.map (CB tmps)=az.toArray:=by
  apply Array.ext'
  simpa using rE.evs has
 have hex:execOp (CB tmps) o=(Deferred.ofValue fv az.toArray).bind fun d=> invoke d.target d.args:=by
  have h1:execOp (CB tmps) o=(resolve (CB tmps) cl o.type).bind fun d=> invoke d.target d.args:=by unfold execOp;rw[kA];rfl
  rw[h1];unfold resolve;rw[iB];simp only[e1,XG]
 unfold vE;rw[hex];have fin:∀v H'',vJ F Q v H''->S2 Hs B Ls Lb (listed.setIfInBounds j true) H''/\BH M md ops (S2 Hs B Ls Lb) (fun tmps H=> T M St H (G (b.at tmps ds k) cs)) fuel (listed.setIfInBounds j true) (OB tmps o.dst v) H'':=by
  rintro v H'' ⟨H₁,rfl,UO,hq⟩;have iR:iA H₁ L (H₁.plus F):=.mR hs.nodup hF UO;have hS:S2 Hs B Ls Lb (listed.setIfInBounds j true) (H₁.plus F):=S2.g9 (hle v H₁ hq) h1 h2 _ iR;refine⟨hS,?_⟩;rw[hd];exact hk v H₁ hq _ _ iR (rE.put hn v) hS
 refine SA _ (fun nx H' dN=> ?_) (hc.frame S4);cases nx <;> first
  | exact dN.elim
  | exact bA.mono dN fin
  | exact YL.mono dN fin
theorem Tc.drE {id:Nat}{fuel:Nat}(B E E':List Nat)(hm:P.follows .mixedOrders=true)(hf:ops.size=fuel)(h:Ta M St n b H₀ cs (S2 H₀ B (QH L E) (QH L E')) .any ops fuel (Array.replicate fuel false) R L ds k):
  Tc M St n b H₀ cs R L ds (.code (.region id ops true)::k):=fun H tmps hs hr=> by
 subst hf;refine .TE fun t=> ?_;simp only[Region.schedule,hm,Bool.true_or,if_true];have hS:=S2.mk (H₀:=H₀) (B:=B) (listed:=Array.replicate ops.size false) (xE E L) (.inr (xE E' L)) H hs;exact(h H tmps hs hr hS).sound _ t _ _ _ hS
end
end Go.RL
namespace Go.Proofs.YtldmfjcgjdchcaaGreatDoor
open Go.RL Go.Proofs.Tryz
set_option maxRecDepth 10000
set_option maxHeartbeats 16000000
def Bk.vD(k:Bk)(d:Nat):Int:=if d=0 then 0 else if d=1 then k.cD else k.rB
def Bk.bO(k:Bk)(t:Nat)(x:Nat×Nat):Nat:=(k.with t x.1 x.1 (k.vD x.2) (k.vD x.2)).BR.length
def Bk.left(k:Bk)(t:Nat):Nat:=(k.can t).foldl (fun m x=> max m (k.bO t x)) 0
theorem Bk.aAA {k:Bk}(MC:k.CC)(M8:0<=k.cD/\k.cD<=99)(dP:0<=k.rB/\k.rB<=99){t:Nat}{x:Nat×Nat}(h1:1<=x.1)(h2:x.1<=12):(k.with t x.1 x.1 (k.vD x.2) (k.vD x.2)).CC:=fun i hi=> by
 have h3:=MC i hi;have hp:0<=k.vD x.2/\k.vD x.2<=99:=by
  unfold Bk.vD;split
  ·omega
  ·split <;> omega
 simp only[Bk.with];split
 ·unfold XA;simp only[Bool.and_eq_true,decide_eq_true_eq];omega
 ·exact h3
section
variable(M:Md prog)(H:View)
theorem aAB(k:Bk)(A:Option Addr)(lc:Nat)(B:Option Addr)(tc:Nat)(F:Nat->Option Addr)(fc:Nat->Nat)(hB:WB H k A lc B tc F fc)(hn:k.nl<=1000)(VX:∀i,i<k.nl->k.nf i<=1000)(MC:k.CC)(h6:k.nt<=6)(M8:0<=k.cD/\k.cD<=99)(dP:0<=k.rB/\k.rB<=99)(t:Nat)(ht:t<k.nt):
  bA M 127 #[k.val A lc B tc,.int .i64 (t:Nat)] H (fun v H'=> H.le H'/\v=.int .i64 (k.left t:Nat)):=by
 have hT:=hB.KO;have XX:=k.nE MC ht;refine .en func127 ntmps127 fun St c cs hK=> ?_;refine U2 ?_;refine .bo fun b2=> ?_;refine .bo fun b3=> ?_;refine qE ?_;refine .al fun b5=> ?_;refine U4 ?_;refine .al fun b6=> ?_;refine U7 ?_;refine To.uB rfl rfl rfl rfl rfl rfl dE (yB.h (B8 M H k A lc B tc hT t ht)) (fun v H₁ hv=> ?_);obtain⟨xK,c5,c2,rfl,aC⟩:=hv;refine U ?_;have HI:=fun(H':View) (hc:gL (mD (k.pf t) (k.pt t) (k.qf t) (k.qt t)) (k.val A lc B tc) c5 c2 H')=> vZ M H' k A lc B tc t (k.pf t).toNat (k.pt t).toNat _ _ oM oM oM rfl rfl (k.EK _) c5 c2 hc;refine U ?_;refine Tc.db (R':= [(2,.pointer (some ⟨b2,0,none⟩)),(3,.pointer (some ⟨b3,0,none⟩)),(5,.pointer (some ⟨b5,0,none⟩)),(6,.pointer (some ⟨b6,0,none⟩)),(18,Q9 c5 c2)]) (L':= [(b6,true,.cells ⟨[.int .i64 ((0:Nat):Int)]⟩ 3 (0,0)),(b5,true,.cells ⟨[.int .i64 0,.int .i64 k.cD,.int .i64 k.rB]⟩ 315 (0,0)),(b3,true,.cells ⟨[.int .i64 (t:Nat)]⟩ 3 (0,0)),(b2,true,.cells ⟨(k.val A lc B tc).cells.toList⟩ 166 (0,0))]) ?_;refine Tc.MJ (A:= []) (ts:= [19,20]) (xs:=k.can t) (fun rest H₄ L₄=> ∃m:Nat,L₄= [(b6,true,.cells ⟨[.int .i64 (m:Int)]⟩ 3 (0,0)),(b5,true,.cells ⟨[.int .i64 0,.int .i64 k.cD,.int .i64 k.rB]⟩ 315 (0,0)),(b3,true,.cells ⟨[.int .i64 (t:Nat)]⟩ 3 (0,0)),(b2,true,.cells ⟨(k.val A lc B tc).cells.toList⟩ 166 (0,0))]
   /\rest.foldl (fun m x=> max m (k.bO t x)) m=k.left t/\gL (mD (k.pf t) (k.pt t) (k.qf t) (k.qt t)) (k.val A lc B tc) c5 c2 H₄/\H₁.le H₄) (fun _ _ _=> False) rfl rfl rfl rfl HI (fun _ _=> gL.le _ _) (fun _ _ _ ⟨_,_,_,h,_⟩=> h) rfl (fun _ _=> rfl)
   ⟨0,rfl,rfl,aC,View.le_refl _⟩ ?_ ?_ (fun _ _ _ _ h=> h.elim)
 ·rintro r x rest _ l tmps asg bdy H₄ _ hx ⟨m,rfl,q2,q3,q4⟩ Q St1 cc1 cs1 bN q q';have aAw:=k.xU MC ht hx;have C1:=(GK.1 hx).1.1;have eT:1<=x.1:=by omega
  obtain⟨n,d⟩:=x;have aCQ:=k.aAA MC M8 dP (t:=t) eT aAw.1;simp only at aAw C1 eT aCQ q2;have f1:tE false 1 [Value.int .i64 0,.int .i64 k.cD,.int .i64 k.rB] (0+((d:Nat):Int).toNat*1)=some (.int .i64 (k.vD d)):=by
   rcases(by omega:d=0\/d=1\/d=2) with rfl|rfl|rfl <;> rfl
  refine U7 ?_;refine Tc.beginRound (i:=0) rfl rfl rfl ?_;refine U ?_;refine Tc.dr [14] [2] mixed rfl ?_;refine V4 0 ?_;refine .z 4 rfl (pA.tk fun H hs=> aX M H (n:Nat)) ?_;refine V3 5 ?_;refine .z 8 rfl (pA.tk fun H hs=> aX M H (k.vD d)) ?_;refine .nn 9 ?_;refine Ta.tZ 10 kR rfl rfl rfl rfl rfl rfl rfl dE (yB.h (L4 M H₄ k A lc B tc F fc (hB.le (View.le_trans xK q4)) hn oM VX t ht (n:Nat) (n:Nat) (k.vD d) (k.vD d))) (by intro _ _ hh;exact hh.1) sL (.inr sL) (fun v5 H₅ hv5=> ?_);obtain⟨TX,A',lc',B',tc',F',fc',rfl,hB'⟩:=hv5;refine Ta.tZ 11 kR rfl rfl rfl rfl rfl rfl rfl dE (yB.h (QI M H₅ (k.with t (n:Nat) (n:Nat) (k.vD d) (k.vD d)) A' lc' B' tc' hB'.D3 hn hB'.KO aCQ h6)) (by intro _ _ hh;exact View.le_trans (by assumption) hh.1) sL (.inr sL) (fun v6 H₆ hv6=> ?_);have O8:H₄.le H₆:=View.le_trans TX hv6.1;obtain⟨aAn,m',es,cl,rfl,⟨fm,g5⟩,g6⟩:=hv6;have hz:(if((es.size:Nat):Int)>(m:Int) then((es.size:Nat):Int) else(m:Int))=((max m (k.bO t (n,d)):Nat):Int):=by
   have h1:=Bk.vO g6;have h2:k.bO t (n,d)=es.size:=h1.symm;rw[h2];split <;> omega
  refine .ea 12 rfl (Or.ZW (pA.HJ (E:=en) (es:=es) rfl rfl rfl rfl rfl (fun H hs=> ⟨fm,hs.base _ _ g5⟩) rfl rfl) rfl dE ⟨S2.g9 (by assumption) sL (.inr sL),?_⟩);refine .ea 13 rfl (Or.ZW (pA.max rfl rfl rfl rfl rfl rfl (by assumption)) rfl dE ⟨S2.g9 (by assumption) sL (.inr sL),?_⟩);refine .ea 14 rfl (.st 2 (zz:=⟨S2.g9 (by assumption) sL (.inl kR),?_⟩));refine .dn ?_;refine U ?_;refine Tc.WA bN (i:=0) rfl (.inl ⟨rfl,rfl⟩) (fun H' hs=> q H' H₆ _ hs ⟨max m (k.bO t (n,d)),rfl,q2,gL.le _ _ O8 q3,View.le_trans q4 O8⟩)
 ·rintro r H₄ _ ⟨m,rfl,q2,q3,q4⟩;have q5:m=k.left t:=q2;subst q5;refine U6 ?_;refine Tc.oY (E:=en) (i:=0) hK func127 results127 (vs:= [_]) rfl ⟨rfl,trivial⟩ ?_;exact fun H' hs=> ⟨View.le_trans xK (View.le_trans q4 hs.base),rfl⟩
end
def Bk.BF(k:Bk)(n:Nat):Option Int:=match distinct ((k.AF n).map fun e=> k.kF e (decide (n=k.nt))) with
 | [f]=> if f= -2 then none else some f
 | _=> none
def Bk.yD(k:Bk):Nat->Option (Nat×Int)
 | 0=> none
 | n+1=> (k.yD n).or ((k.BF n).map fun f=> (n,f))
def Bk.settled(k:Bk):Option (Nat×Int):=k.yD (k.nt+1)
theorem Bk.VM {k:Bk}{j:Nat}{x:Nat×Int}(h:k.yD j=some x):∀m,j<=m->k.yD m=some x:=by
 intro m hm;induction m with
 | zero=>
  have:j=0:=by omega
  subst this;exact h
 | succ m ih=>
  by_cases e:j=m+1
  ·subst e;exact h
  ·rw[Bk.yD,ih oM];rfl
theorem PQ {l:List Int}{z:Int}(h0:z∈l)(h:∀y∈l,y=z):distinct l= [z]:=by
 have hm:∀y,y∈distinct l<->y∈l:=fun y=> uD l;have hn:=iE l;cases hd:distinct l with
 | nil=>
  have:=(hm z).2 h0;rw[hd] at this;cases this
 | cons a t=>
  rw[hd] at hm hn;have ha:a=z:=h a ((hm a).1 (List.mem_cons_self ..));cases t with
  | nil=> rw[ha]
  | cons b t'=>
   have hb:b=z:=h b ((hm b).1 (by simp));rw[ha,hb] at hn;simp at hn
theorem Bk.DS {k:Bk}{n:Nat}{f:Int}(hf:f≠ -2){e0:MF}(h0:k.HD n e0)(h:∀e,k.HD n e->k.kF e (decide (n=k.nt))=f):k.BF n=some f:=by
 unfold Bk.BF;rw[PQ (z:=f)]
 ·simp only;rw[if_neg hf]
 ·exact List.mem_map.2 ⟨e0,(k.OC n e0).2 h0,h e0 h0⟩
 ·intro y hy;obtain⟨e,he,rfl⟩:=List.mem_map.1 hy;exact h e ((k.OC n e).1 he)
theorem Bk.GN {k:Bk}{n:Nat}{f:Int}(h:k.BF n=some f):f≠ -2/\∀e,k.HD n e->k.kF e (decide (n=k.nt))=f:=by
 unfold Bk.BF at h;split at h
 ·rename_i g hg
  split at h
  ·cases h
  ·rename_i nB
   cases h
   refine⟨nB,fun e he=> ?_⟩;have:=(uD _).2 (List.mem_map.2 ⟨e,(k.OC n e).2 he,rfl⟩:k.kF e (decide (n=k.nt))∈(k.AF n).map fun e=> k.kF e (decide (n=k.nt)));rw[hg] at this;simpa using this
 ·cases h
theorem Bk.WQ {k:Bk}{n:Nat}{e e':MF}(h:k.HD n e)(h':k.HD n e')(nB:k.kF e (decide (n=k.nt))≠k.kF e' (decide (n=k.nt))):k.BF n=none:=by
 cases hq:k.BF n with
 | none=> rfl
 | some f=>
  obtain⟨_,h2⟩:=Bk.GN hq;exact(nB ((h2 e h).trans (h2 e' h').symm)).elim
theorem Bk.VQ {k:Bk}{n:Nat}{e:MF}(h:k.HD n e)(nB:k.kF e (decide (n=k.nt))= -2):k.BF n=none:=by
 cases hq:k.BF n with
 | none=> rfl
 | some f=>
  obtain⟨h1,h2⟩:=Bk.GN hq;exact(h1 ((h2 e h).symm.trans nB)).elim
theorem Bk.NP(k:Bk)(MC:k.CC):∀n,n<=k.nt->∃e,k.HD n e
 | 0,_=> ⟨_,rfl⟩
 | n + 1,hn=> by
  obtain⟨e0,h0⟩:=k.NP MC n oM;obtain⟨h1,h2,h3⟩:=k.nE MC (i:=n) oM;refine⟨_,e0,h0,((k.pf n).toNat,k.kind (k.qf n)),GK.2 ⟨⟨Nat.le_refl _,oM⟩,Nat.le_refl _,?_⟩,rfl⟩;simp only;unfold Bk.kind;split
  ·omega
  ·split
   ·split
    ·omega
    ·split <;> omega
   ·split
    ·omega
    ·split
     ·omega
     ·omega
theorem Bk.iZ {k:Bk}(h:k.QA=0):k.wD=0/\k.ED=0/\k.LC=0:=by
 unfold Bk.QA at h;split at h
 ·rename_i h1
  split at h
  ·rename_i h2
   exact⟨h1,h2,h⟩
  ·rename_i h2
   exact(h2 h).elim
 ·rename_i h1
  exact(h1 h).elim
theorem KB {p:Nat->Bool}:∀n,jA p n=none<->∀i,i<n->p i=false
 | 0=> ⟨fun _ i hi=> by omega,fun _=> rfl⟩
 | n + 1 => by
  rw[jA];constructor
  ·intro h i hi;cases hq:jA p n with
   | some j=> rw[hq] at h;cases h
   | none=>
    rw[hq] at h;by_cases e:i=n
    ·subst e;cases hp:p i with
     | false=> rfl
     | true=> rw[hp] at h;cases h
    ·exact(KB n).1 hq i oM
  ·intro h;rw[(KB n).2 (fun i hi=> h i oM),h n oM];rfl
theorem Bk.valid {k:Bk}(h:k.QA=0):(1<=k.cD/\k.cD<=99/\k.cD+1<=k.rB/\k.rB<=99)/\k.nl<=6/\k.nt<=6/\k.CC:=by
 obtain⟨h1,h2,h3⟩:=Bk.iZ h;unfold Bk.wD at h1;unfold Bk.ED at h2;unfold Bk.LC at h3;refine⟨?_,?_,?_,?_⟩
 ·split at h1
  ·omega
  ·cases h1
 ·split at h2
  ·cases h2
  ·omega
 ·split at h3
  ·cases h3
  ·omega
 ·split at h3
  ·cases h3
  ·split at h3
   ·cases h3
   ·rename_i hq
    intro i hi;have h4:jA k.gC k.nt=none:=by
     cases hz:jA k.gC k.nt with
     | none=> rfl
     | some j=> rw[hz] at hq;exact(hq rfl).elim
    have h5:=(KB _).1 h4 i hi;unfold Bk.gC at h5;simpa using h5
def xO:Option (Nat×Int)->Value
 | none=> .tuple ⟨[.int .i64 0,.int .i64 0,.bool false,.int .i64 0]⟩
 | some (n,f)=> .tuple ⟨[.int .i64 (n:Nat),.int .i64 f,.bool true,.int .i64 0]⟩
theorem Z1 {es:Array MapEntry}{cl:Nat}{F:Value->Value->Prop}(h:IB es cl F){e:MapEntry}(he:e∈es.toList):es.find? (fun x=> x.born==e.born)=some e:=by
 rw[<-Array.find?_toList];cases hf:es.toList.find? (fun x=> x.born==e.born) with
 | none=> have:=List.find?_eq_none.1 hf e he;simp at this
 | some e'=>
  have h3:=List.mem_of_find?_eq_some hf;have h4:=List.find?_some hf;simp only[beq_iff_eq] at h4;obtain⟨i,hi,rfl⟩:=List.mem_iff_getElem.1 h3;obtain⟨j,hj,rfl⟩:=List.mem_iff_getElem.1 he;have hb:=h.iK;have UR:i<(es.toList.map (·.born)).length:=by rw[List.length_map];exact hi
  have US:j<(es.toList.map (·.born)).length:=by rw[List.length_map];exact hj
  have:(es.toList.map (·.born))[i]=(es.toList.map (·.born))[j]:=by rw[List.getElem_map,List.getElem_map];exact h4
  have:=(List.getElem_inj hb).1 this;subst this;rfl
section
variable(M:Md prog)(H:View)
theorem xP(k:Bk)(A:Option Addr)(lc:Nat)(B:Option Addr)(tc:Nat)(hk:fE H k A lc B tc)(hn:k.small)(hG:gF H)(ha:k.QA=0):
  bA M 52 #[k.val A lc B tc] H (fun v H'=> H.le H'/\v=xO k.settled):=by
 obtain⟨_,RN,zK,MC⟩:=Bk.valid ha;refine .en func52 ntmps52 fun St c cs hK=> ?_;refine U2 ?_;refine .bo fun b1=> ?_;refine U5 ?_;refine Tc.scope ?_;refine U3 ?_;refine .cl (fun H hs=> BC M H k A lc B tc (hk.le hs.base) hn (FA hG hs.base) ha) ?_;refine U3 ?_;refine .al fun b6=> ?_;refine PF ?_;refine Tc.label ?_;refine DD ?_;refine Tc.db (Tc.oJ (σ:= { s:View×Nat//H.le s.1/\s.2<=k.nt+1/\k.yD s.2=none })
  (fun s=> (s.1.1,[(1,.pointer (some ⟨b1,0,none⟩)),(6,.pointer (some ⟨b6,0,none⟩)),(22,.int .i64 ((k.nt+1:Nat):Int)),(23,.int .i64 (s.1.2:Nat))],[(b6,true,.cells ⟨(k.val A lc B tc).cells.toList⟩ 166 (0,0)),(b1,true,.cells ⟨(k.val A lc B tc).cells.toList⟩ 45 (0,0))])) (fun s=> k.nt+1-s.1.2) ?_ ⟨(H,0),View.le_refl _,Nat.zero_le _,rfl⟩)
 rintro⟨⟨H₁,n⟩,g1,g2,g3⟩ ih₁;simp only at g1 g2 g3;show Tc M St _ _ H₁ _ [(1,.pointer (some ⟨b1,0,none⟩)),(6,.pointer (some ⟨b6,0,none⟩)),(22,.int .i64 ((k.nt+1:Nat):Int)),(23,.int .i64 (n:Nat))] [(b6,true,.cells ⟨(k.val A lc B tc).cells.toList⟩ 166 (0,0)),(b1,true,.cells ⟨(k.val A lc B tc).cells.toList⟩ 45 (0,0))] _ _;by_cases c1:n=k.nt+1
 ·have e:k.settled=none:=by unfold Bk.settled;rw[<-c1];exact g3
  subst c1;rw[e] at hK;refine vF ?_;refine .rt hK func52 results52 [_,_,_,_] ?_;exact fun H' hs=> ⟨View.le_trans g1 hs.base,rfl⟩
 ·have c2 : n <=k.nt:=by omega
  have aET:mA .eql .i64 ((n:Nat):Int) ((k.nt:Nat):Int)=some (.bool (decide (n=k.nt))):=by
   by_cases c:n=k.nt
   ·rw[decide_eq_true c];exact pK oM
   ·rw[decide_eq_false c];exact oK oM
  refine aP ?_;refine .e (Or.makeMap rfl rfl dE (fun mf=> ?_));refine U7 ?_;refine To.uB rfl rfl rfl rfl rfl rfl dE (yB.h (IU M H₁ k A lc B tc (hk.JC.le g1) MC zK n c2)) (fun v H₂ hv=> ?_);obtain⟨hle,m,es,cl,rfl,⟨fm,q3⟩,q4⟩:=hv;refine .e (Or.range (E:=en) (es:=es) (cl:=cl) rfl rfl (fun H hs=> ⟨fm,hs.base _ _ q3⟩) rfl rfl rfl dE (fun it=> ?_));refine U2 ?_;refine Tc.db (Tc.sA (σ:= { s:Array Nat×Array MapEntry×Nat×Option Int//IB s.2.1 s.2.2.1 (yH fun z=> s.2.2.2=some z)/\(∀z,s.2.2.2=some z->z≠ -2/\∃e,k.HD n e/\k.kF e (decide (n=k.nt))=z)/\∀e,k.HD n e->(s.2.2.2=some (k.kF e (decide (n=k.nt)))\/∃me∈XC es s.1,me.key=e.val) })
   (fun s=> ([(1,.pointer (some ⟨b1,0,none⟩)),(6,.pointer (some ⟨b6,0,none⟩)),(7,.int .i64 (n:Nat)),(8,.map (some mf)),(22,.int .i64 ((k.nt+1:Nat):Int)),(23,.int .i64 (n:Nat)),(30,.pointer (some ⟨it,0,none⟩))],[(it,true,.mapIter (some m) cl s.1.1 cl),(mf,true,.map s.1.2.1 s.1.2.2.1),(b6,true,.cells ⟨(k.val A lc B tc).cells.toList⟩ 166 (0,0)),(b1,true,.cells ⟨(k.val A lc B tc).cells.toList⟩ 45 (0,0))])) (fun s=> (XC es s.1.1).length) ?_ ⟨(#[],#[],0,none),IB.nil.congr (by rintro a b;simp[yH]),(fun z h=> by cases h),fun e he=> by
    rw[AD];obtain⟨me,h1,h2,_⟩:=(q4.mem e.val (.bool true)).1 ⟨e,he,rfl,rfl⟩;exact .inr ⟨me,h1,h2⟩⟩)
  rintro⟨⟨seen,es2,cl2,o⟩,p2,p3,p4⟩ ih₂;simp only at p2 p3 p4;show Tc M St _ _ H₂ _ [(1,.pointer (some ⟨b1,0,none⟩)),(6,.pointer (some ⟨b6,0,none⟩)),(7,.int .i64 (n:Nat)),(8,.map (some mf)),(22,.int .i64 ((k.nt+1:Nat):Int)),(23,.int .i64 (n:Nat)),(30,.pointer (some ⟨it,0,none⟩))] [(it,true,.mapIter (some m) cl seen cl),(mf,true,.map es2 cl2),(b6,true,.cells ⟨(k.val A lc B tc).cells.toList⟩ 166 (0,0)),(b1,true,.cells ⟨(k.val A lc B tc).cells.toList⟩ 45 (0,0))] _ _;refine U2 ?_;refine .e (Or.next (es:=es) 0 rfl rfl rfl (fun H hs=> ⟨fm,hs.base _ _ q3⟩) q4.lt rfl dE (fun me he T8=> ?_) (fun OA=> ?_))
  ·have hp :=iG q4.iK he T8;obtain⟨e0,u1,u2,_⟩:=qD q4 me he;have WH:=DI q4 he;have hf:=fun(H':View) (h':H₂.le H')=> aAg M H' k A lc B tc (hk.rows.le (View.le_trans g1 (View.le_trans hle h'))) hn.nl e0 (decide (n=k.nt));obtain⟨z,hz⟩:∃z,k.kF e0 (decide (n=k.nt))=z:=⟨_,rfl⟩
   rw[hz] at hf;refine U8 ?_;refine .e (Or.entry (es:=es) (e:=me) (st:=me.born) rfl rfl (fun H hs=> ⟨true,hs.get (i:=0) rfl⟩) (fun H hs=> ⟨fm,hs.base _ _ q3⟩) (by simp) WH rfl dE ?_);rw[u2];refine U ?_;refine .al fun b9=> ?_;refine PF ?_;refine .cl (fun H hs=> hf H hs.base) ?_;refine .e (Or.mapUpdate (E:=en) 2 1 rfl rfl rfl rfl rfl rfl rfl dE (YF _) (BE p2) rfl (fun r hr=> ?_));obtain⟨es4,cl4,e4,q6⟩:=p2.put (.bool true) hr;rw[e4];refine U ?_;have q7:IB es4 cl4 (yH fun y=> y=z\/o=some y):=q6.congr (ET _ _);have next0:k.BF n=none->k.yD (n+1)=none:=fun h=> by rw[Bk.yD,g3,h];rfl
   by_cases d1:∃y,o=some y/\y≠z
   ·obtain⟨y,d2,d3⟩:=d1;obtain⟨_,e1,d4,d5⟩:=p3 y d2;have dC:=next0 (Bk.WQ d4 u1 (by rw[d5,hz];exact d3));have LD:es4.size=2:=NL q7 (l:= [z,y]) (by simp;exact fun h=> d3 h.symm) (fun x=> by rw[d2];simp;constructor <;> (rintro(h|h) <;> simp[h]));refine U3 ?_;refine .x (pA.HJ (E:=en) (es:=es4) rfl rfl rfl rfl rfl (fun H hs=> ⟨true,hs.get (i:=2) rfl⟩) rfl rfl) ?_;refine PF ?_;exact Tc.db (ih₁ ⟨(H₂,n+1),View.le_trans g1 hle,by simp only;omega,dC⟩ (by simp only;omega))
   ·have q8 :IB es4 cl4 (yH fun y=> y=z):=by
     have e:(fun y=> y=z\/o=some y)=fun y=> y=z:=by
      funext y
      refine propext ⟨?_,.inl⟩;rintro(h|h)
      ·exact h
      ·exact Classical.byContradiction fun h'=> d1 ⟨y,h,h'⟩
     rw[<-e];exact q7
    have LD:es4.size=1:=NL q8 (l:= [z]) (by simp) (fun x=> by simp);by_cases d2:z= -2
    ·have dC:=next0 (Bk.VQ u1 (hz.trans d2));refine U3 ?_;refine .x (pA.HJ (E:=en) (es:=es4) rfl rfl rfl rfl rfl (fun H hs=> ⟨true,hs.get (i:=2) rfl⟩) rfl rfl) ?_;refine U3 ?_;refine .x (pA.lookup (E:=en) 1 (es:=es4) (v:=.bool true) rfl rfl rfl (fun H hs=> ⟨true,hs.get (i:=2) rfl⟩) rfl rfl rfl dE (YF (-2)) (BE q8) (fun r hr=> IF q8 (t:=true) (by simp[d2]) hr)) ?_;refine U8 ?_;exact Tc.db (ih₁ ⟨(H₂,n+1),View.le_trans g1 hle,by simp only;omega,dC⟩ (by simp only;omega))
    ·have d3:¬(-2:Int)=z:=fun h=> d2 h.symm;refine U3 ?_;refine .x (pA.HJ (E:=en) (es:=es4) rfl rfl rfl rfl rfl (fun H hs=> ⟨true,hs.get (i:=2) rfl⟩) rfl rfl) ?_;refine U3 ?_;refine .x (pA.lookup (E:=en) 1 (es:=es4) (v:=.bool false) rfl rfl rfl (fun H hs=> ⟨true,hs.get (i:=2) rfl⟩) rfl rfl rfl dE (YF (-2)) (BE q8) (fun r hr=> IF q8 (t:=false) (by simp[d3]) hr)) ?_;refine U5 ?_;exact Tc.db (ih₂ ⟨(seen.push me.born,es4,cl4,some z),q8.congr (by intro a b;simp[yH,eq_comm]),(fun y h=> by cases h;exact⟨d2,e0,u1,hz⟩),fun e he=> by
      rcases p4 e he with h|⟨me',h1,h2⟩
      ·refine .inl ?_;have h3:=Classical.byContradiction fun h'=> d1 ⟨_,h,h'⟩;rw[h3]
      ·rcases List.mem_cons.1 (hp.mem_iff.1 h1) with rfl|h6
       ·have:=XF (h2.symm.trans u2);rw[this,hz];exact .inl rfl
       ·exact .inr ⟨me',h6,h2⟩⟩ (by simp only;rw[hp.length_eq];simp))
  ·have XH:=WE OA;rw[XH] at p4;simp only[List.not_mem_nil,false_and,exists_false,or_false] at p4;obtain⟨e1,he1⟩:=k.NP MC n c2;obtain⟨z,hz⟩:∃z,k.kF e1 (decide (n=k.nt))=z:=⟨_,rfl⟩
   have hoz:o=some z:=by rw[<-hz];exact p4 e1 he1
   subst hoz;have aCF:∀e,k.HD n e->k.kF e (decide (n=k.nt))=z:=fun e he=> (Option.some.inj (p4 e he)).symm;have hfa:k.BF n=some z:=Bk.DS (p3 z rfl).1 he1 aCF;have aAt:k.settled=some (n,z):=Bk.VM (j:=n+1) (by rw[Bk.yD,g3,hfa];rfl) _ oM;rw[aAt] at hK;refine U8 ?_;refine .e (Or.range (E:=en) (es:=es2) (cl:=cl2) rfl rfl (fun H hs=> ⟨true,hs.get (i:=1) rfl⟩) rfl rfl rfl dE (fun it2=> ?_));refine .done (.block (.loop (.sr ?_)));refine .e (Or.next (es:=es2) 0 rfl rfl rfl (fun H hs=> ⟨true,hs.get (i:=2) rfl⟩) p2.lt rfl dE (fun me he T8=> ?_) (fun OA=> ?_))
   ·obtain⟨y,u1,u2,_⟩:=ML p2 me he;have u3:y=z:=(Option.some.inj u1).symm;subst u3;have WH:=Z1 p2 he;refine U8 ?_;refine .e (Or.entry (es:=es2) (e:=me) (st:=me.born) rfl rfl (fun H hs=> ⟨true,hs.get (i:=0) rfl⟩) (fun H hs=> ⟨true,hs.get (i:=2) rfl⟩) (by simp) WH rfl dE ?_);rw[u2];refine PF ?_;refine .rt hK func52 results52 [_,_,_,_] ?_;exact fun H' hs=> ⟨View.le_trans g1 (View.le_trans hle hs.base),rfl⟩
   ·have h1:=WE OA;rw[AD] at h1;obtain⟨me,h2,_⟩:=(p2.mem (.int .i64 z) (.bool true)).1 ⟨z,rfl,rfl,rfl⟩;rw[h1] at h2;cases h2
end
def Bk.bI(k:Bk)(p q:Nat->Int)(i:Nat):Bool:=decide (k.pf i<=p i/\p i<=k.pt i)&&decide (k.qf i<=q i/\q i<=k.qt i)
def Bk.iD(k:Bk)(p q:Nat->Int):Nat->MF
 | 0=> ⟨[],0,false⟩
 | i+1=> (k.iD p q i).hear (p i).toNat (k.kind (q i))
def rD(s:List UInt8)(z a:Int):Value:=.tuple ⟨[gA s,.int .i64 z,.int .i64 a]⟩
def Bk.SD(k:Bk)(np nq:Nat)(p q:Nat->Int):Value:=
 if k.QA≠0 then rD [] 0 k.QA else if np≠k.nt\/nq≠k.nt then rD [] 0 2 else
  if(jA (fun i=> !k.bI p q i) k.nt).isSome then rD [] 0 1 else rD (k.iD p q k.nt).heard (fB (k.line (k.iD p q k.nt).heard)) 0
theorem Bk.CS {k:Bk}(h:k.CC){p q:Nat->Int}:∀ {i:Nat},i<=k.nt->(∀j,j<i->k.bI p q j=true)->(k.iD p q i).heard.length<=i/\(k.iD p q i).pend<=12*i
 | 0,_,_=> ⟨Nat.le_refl _,Nat.le_refl _⟩
 | i + 1,hi,eP=> by
  have h1:=Bk.CS h (p:=p) (q:=q) (i:=i) oM (fun j hj=> eP j oM);have h2:=k.nE h (i:=i) oM;have h3:=eP i oM;unfold Bk.bI at h3;simp only[Bool.and_eq_true,decide_eq_true_eq] at h3;have:=MF.OW (e:=k.iD p q i) (p:=(p i).toNat) (kd:=k.kind (q i)) h1.1 h1.2 oM;show((k.iD p q i).hear _ _).heard.length<=_/\_;constructor
  ·exact this.1
  ·have:=this.2;show((k.iD p q i).hear _ _).pend<=_;omega
section
variable(M:Md prog)(H:View)
theorem cS (k:Bk)(A:Option Addr)(lc:Nat)(B:Option Addr)(tc:Nat)(hk:fE H k A lc B tc)(hn:k.small)(hG:gF H)(P Q0:Option Addr)(np nq pc qc:Nat)(p q:Nat->Int)(hP:pB H P np p)(hQ:pB H Q0 nq q):
  bA M 30 #[k.val A lc B tc,.slice P np pc,.slice Q0 nq qc] H (fun v H'=> H.le H'/\v=k.SD np nq p q):=by
 by_cases ha:k.QA=0
 ·have kA := fun(H':View) (h':H.le H')=> BC M H' k A lc B tc (hk.le h') hn (FA hG h') ha;by_cases c1:np=k.nt
  ·by_cases c2 :nq=k.nt
   ·obtain ⟨_,RN,zK,MC⟩:=Bk.valid ha;have ev:k.SD np nq p q=if(jA (fun i=> !k.bI p q i) k.nt).isSome then rD [] 0 1 else rD (k.iD p q k.nt).heard (fB (k.line (k.iD p q k.nt).heard)) 0:=by
     unfold Bk.SD;rw[if_neg (by simp[ha]),if_neg (by simp[c1,c2])]
    rw[ev];clear ev;subst c1;subst c2;refine .en func30 ntmps30 fun St c cs hK=> ?_;refine U2 ?_;refine .bo fun b3=> ?_;refine U7 ?_;refine .cl (fun H hs=> kA H hs.base) ?_;refine U3 ?_;refine .al fun b9=> ?_;refine U35 ?_;refine .al fun b10=> ?_;refine DD ?_;refine Tc.db (Tc.sA (σ:= { j:Nat//j<=k.nt/\∀i,i<j->k.bI p q i=true }) (fun j=> ([(1,.slice P k.nt pc),(2,.slice Q0 k.nt qc),(3,.pointer (some ⟨b3,0,none⟩)),(9,.pointer (some ⟨b9,0,none⟩)),(10,.pointer (some ⟨b10,0,none⟩)),(38,.slice B k.nt tc),(39,.int .i64 (k.nt:Nat)),(40,.int .i64 (j.1:Nat))],
     [(b10,true,.cells ⟨(k.iD p q j.1).val.cells.toList⟩ 170 (0,0)),(b9,true,.cells ⟨(k.val A lc B tc).cells.toList⟩ 166 (0,0)),(b3,true,.cells ⟨(k.val A lc B tc).cells.toList⟩ 45 (0,0))])) (fun j=> k.nt-j.1) ?_ ⟨0,Nat.zero_le _,fun i hi=> by omega⟩)
    rintro⟨j,hj,eP⟩ ih;show Tc M St _ _ _ _ [(1,.slice P k.nt pc),(2,.slice Q0 k.nt qc),(3,.pointer (some ⟨b3,0,none⟩)),(9,.pointer (some ⟨b9,0,none⟩)),(10,.pointer (some ⟨b10,0,none⟩)),(38,.slice B k.nt tc),(39,.int .i64 (k.nt:Nat)),(40,.int .i64 (j:Nat))]
     [(b10,true,.cells ⟨(k.iD p q j).val.cells.toList⟩ 170 (0,0)),(b9,true,.cells ⟨(k.val A lc B tc).cells.toList⟩ 166 (0,0)),(b3,true,.cells ⟨(k.val A lc B tc).cells.toList⟩ 45 (0,0))] _ _
    by_cases c3:j=k.nt
    ·subst c3;have e:(jA (fun i=> !k.bI p q i) k.nt).isSome=false:=by
      rw[(KB _).2 (fun i hi=> by simp[eP i hi])];rfl
     rw[e] at hK;have II:=fun(H':View) (h':H.le H')=> cO M H' k A lc B tc (hk.rows.le h') hn.nl (k.iD p q k.nt).heard;refine U8 ?_;refine Tc.dr [] [] mixed rfl ?_;refine V5 0 ?_;refine .z 5 rfl (pA.tk fun H hs=> II H hs.base) ?_;refine V3 6 ?_;refine .dn ?_;refine .rt hK func30 results30 [_,_,_] ?_;exact okB
    ·have c4 :j<k.nt:=by omega
     have HY:=Bk.CS MC hj eP;have XX:=k.nE MC c4;have hT:=hk.JC;obtain⟨_,h0|⟨tb,to,f,gs,gt,gz,rfl,hb,hl⟩⟩:=hT
     ·omega
     obtain h0|⟨pb,po,fp,ps,pt,pz,rfl,hpb,hpl⟩:=hP
     ·omega
     obtain h0|⟨qb,qo,fq,qs,qt,qz,rfl,hqb,hql⟩:=hQ
     ·omega
     have f1:=hl j c4;have f2:=hpl j c4;have f3:=hql j c4;by_cases c5:k.pf j<=p j/\p j<=k.pt j
     ·have h1:=fun(H':View)=> uA M H' (p j) (k.pf j) (k.pt j) true (decide_eq_true c5);by_cases c6:k.qf j<=q j/\q j<=k.qt j
      ·have h2:=fun(H':View)=> uA M H' (q j) (k.qf j) (k.qt j) true (decide_eq_true c6);obtain⟨pn,hpn⟩:∃m:Nat,p j=m:=⟨(p j).toNat,oM⟩
       rw[hpn] at f2 h1;have hh:=fun(H':View)=> E0 M H' (k.iD p q j) pn (k.kind (q j)) oM oM oM (k.EK _);refine vF ?_;refine .al fun b12=> ?_;refine U5 ?_;refine Tc.dr [] [] mixed rfl ?_;refine uX 0 ?_;refine .z 10 rfl (pA.tk fun H hs=> h1 H) ?_;refine SO 11 ?_;refine .z 23 rfl (pA.tk fun H hs=> h2 H) ?_;refine V2 24 ?_;refine .dn ?_;refine U2 ?_;refine Tc.dr [12] [1] mixed rfl ?_;refine uX 0 ?_;refine .z 10 rfl (pA.tk fun H hs=> nV M H k A lc (some ⟨tb,to,none⟩) tc (q j)) ?_;refine .z 11 rfl (pA.tk fun H hs=> hh H) ?_;refine .e 12 1 ?_;refine .dn ?_;refine U5 ?_;refine Tc.ZC (ih ⟨j+1,oM,fun i hi=> ?_⟩ (by simp only;omega)) ⟨rfl,rfl,rfl,rfl,rfl,rfl,rfl,rfl,trivial⟩ ?_
       ·by_cases e:i=j
        ·subst e;unfold Bk.bI;rw[decide_eq_true c5,decide_eq_true c6];rfl
        ·exact eP i oM
       ·have e:k.iD p q (j+1)=(k.iD p q j).hear pn (k.kind (q j)):=by rw[Bk.iD,hpn];rfl
        simp only[e];exact sL
      ·have h2:=fun(H':View)=> uA M H' (q j) (k.qf j) (k.qt j) false (decide_eq_false c6);have e:(jA (fun i=> !k.bI p q i) k.nt).isSome=true:=by
        rw[TA (j:=j+1) (x:=j) (by
         rw[jA,(KB j).2 (fun i hi=> by simp[eP i hi])];have:k.bI p q j=false:=by unfold Bk.bI;rw[decide_eq_false c6];simp
         simp[this]) _ oM]
        rfl
       rw[e] at hK;refine vF ?_;refine .al fun b12=> ?_;refine U5 ?_;refine Tc.dr [] [] mixed rfl ?_;refine uX 0 ?_;refine .z 10 rfl (pA.tk fun H hs=> h1 H) ?_;refine SO 11 ?_;refine .z 23 rfl (pA.tk fun H hs=> h2 H) ?_;refine V2 24 ?_;refine .dn ?_;refine U7 ?_;refine .rt hK func30 results30 [_,_,_] ?_;exact okB
     ·have h1:=fun(H':View)=> uA M H' (p j) (k.pf j) (k.pt j) false (decide_eq_false c5);have e:(jA (fun i=> !k.bI p q i) k.nt).isSome=true:=by
       rw[TA (j:=j+1) (x:=j) (by
        rw[jA,(KB j).2 (fun i hi=> by simp[eP i hi])];have:k.bI p q j=false:=by unfold Bk.bI;rw[decide_eq_false c5];simp
        simp[this]) _ oM]
       rfl
      rw[e] at hK;refine vF ?_;refine .al fun b12=> ?_;refine U5 ?_;refine Tc.dr [] [] mixed rfl ?_;refine uX 0 ?_;refine .z 10 rfl (pA.tk fun H hs=> h1 H) ?_;refine V2 11 ?_;refine .nw 13 ?_;refine .nw 14 ?_;refine .nw 15 ?_;refine .nw 16 ?_;refine .nw 17 ?_;refine .nw 18 ?_;refine .nw 19 ?_;refine .nw 20 ?_;refine .nw 21 ?_;refine .nw 22 ?_;refine .nw 23 ?_;refine .nw 24 ?_;refine .nn 25 ?_;refine .dn ?_;refine U7 ?_;refine .rt hK func30 results30 [_,_,_] ?_;exact okB
   ·have ev:k.SD np nq p q=rD [] 0 2:=by
     unfold Bk.SD;rw[if_neg (by simp[ha]),if_pos (.inr c2)]
    rw[ev];refine .en func30 ntmps30 fun St c cs hK=> ?_;refine U2 ?_;refine .bo fun b3=> ?_;refine U7 ?_;refine .cl (fun H hs=> kA H hs.base) ?_;refine U3 ?_;refine .al fun b9=> ?_;refine U37 ?_;refine .rt hK func30 results30 [_,_,_] ?_;exact okB
  ·have ev:k.SD np nq p q=rD [] 0 2:=by
    unfold Bk.SD;rw[if_neg (by simp[ha]),if_pos (.inl c1)]
   rw[ev];refine .en func30 ntmps30 fun St c cs hK=> ?_;refine U2 ?_;refine .bo fun b3=> ?_;refine U7 ?_;refine .cl (fun H hs=> kA H hs.base) ?_;refine U3 ?_;refine .al fun b9=> ?_;refine U37 ?_;refine .rt hK func30 results30 [_,_,_] ?_;exact okB
 ·have ev:k.SD np nq p q=rD [] 0 k.QA:=if_pos ha;rw[ev];refine .en func30 ntmps30 fun St c cs hK=> ?_;refine U2 ?_;refine .bo fun b3=> ?_;refine U7 ?_;refine .cl (fun H hs=> bH M H k A lc B tc true (hk.le hs.base) hn (FA hG hs.base) ha) ?_;refine U3 ?_;refine .al fun b9=> ?_;refine hU ?_;refine .rt hK func30 results30 [_,_,_] ?_;exact okB
end
theorem none_le {H H':View}(h:H.le H'){b:Nat}(hb:H' b=none):H b=none:=by
 cases e:H b with
 | none=> rfl
 | some x=> rw[h _ _ e] at hb;cases hb
def Bk.tC(k:Bk)(z:Int):Int:=if z∈k.BR then if k.BR.length=1 then 1 else 0 else 2
def iU(f:Nat->Int)(n:Nat):List Value:=(List.range n).map fun i=> .int .i64 (f i)
theorem DZ(f:Nat->Int)(n:Nat):iU f (n+1)=iU f n++[.int .i64 (f n)]:=by
 unfold iU;rw[List.range_succ,List.map_append];rfl
theorem B6(f:Nat->Int)(n:Nat):(iU f n).length=n:=by simp[iU]
def A3(g:Gl 110 1)(c a:Int):Value:=.tuple ⟨[g.val,.int .i64 c,.int .i64 a]⟩
def Bk.bF(k:Bk)(line:Nat):Nat->Int
 | 0=> k.tC (line:Nat)
 | i+1=> nH (k.bF line i) (if k.free line i=0 then 0 else if k.free line i=1 then 2 else 1)
def Bk.nF(k:Bk)(line i:Nat):Int:=nH (k.bF line i) (k.free line i)
section
variable(M:Md prog)(H:View)
theorem vL(k:Bk)(z:Int)(m:Nat)(es:Array MapEntry)(cl:Nat)(f:Bool)(hm:H m=some (f,.map es cl))(MC:IB es cl (yH k.IV)):
  bA M 123 #[.map (some m),.int .i64 z] H (fun v H'=> H.le H'/\v=.int .i64 (k.tC z)):=by
 refine C6 M H k.IV z m es cl f hm MC _ ?_;have h1:=Bk.vO MC;have h2:=k.nT z;unfold Bk.tC;by_cases c1:z∈k.BR
 ·rw[if_pos c1];by_cases c2:k.BR.length=1
  ·rw[if_pos c2];exact .inr (.inl ⟨h2.1 c1,oM,rfl⟩)
  ·rw[if_neg c2];exact .inr (.inr ⟨h2.1 c1,oM,rfl⟩)
 ·rw[if_neg c1];exact .inl ⟨fun h=> c1 (h2.2 h),rfl⟩
theorem wP(k:Bk)(A:Option Addr)(lc:Nat)(B:Option Addr)(tc:Nat)(hk:fE H k A lc B tc)(hn:k.small)(hG:gF H)(ha:k.QA=0):
  bA M 50 #[k.val A lc B tc] H (fun v H'=> H.le H'/\∃g:Gl 110 1,v=A3 g (k.tC (-1)) 0/\(g.n=k.nl/\g.l=iU (fun i=> k.tC (i:Nat)) k.nl)/\∀x∈g.bl,H' x.1=some x.2/\H x.1=none):=by
 obtain⟨_,RN,zK,MC⟩:=Bk.valid ha;have kA:=fun(H':View) (h':H.le H')=> BC M H' k A lc B tc (hk.le h') hn (FA hG h') ha;refine .en func50 ntmps50 fun St c cs hK=> ?_;refine U2 ?_;refine .bo fun b1=> ?_;refine U7 ?_;refine .cl (fun H hs=> kA H hs.base) ?_;refine U3 ?_;refine .al fun b5=> ?_;refine vF ?_;refine To.uB rfl rfl rfl rfl rfl rfl dE (yB.h (QI M H k A lc B tc hk.rows hn.nl hk.JC MC zK)) (fun v H₂ hv=> ?_);obtain⟨hle,m,es,cl,rfl,⟨fm,q3⟩,q4⟩:=hv;refine qE ?_;refine Tc.db (Tc.sA (σ:= { s:Nat×Gl 110 1//s.1<=k.nl/\s.2.n=s.1/\s.2.l=iU (fun i=> k.tC (i:Nat)) s.1 })
  (fun s=> ([(1,.pointer (some ⟨b1,0,none⟩)),(2,s.1.2.val),(5,.pointer (some ⟨b5,0,none⟩)),(6,.map (some m)),(20,.int .i64 (k.nl:Nat)),(21,.int .i64 (s.1.1:Nat))],[(b5,true,.cells ⟨(k.val A lc B tc).cells.toList⟩ 166 (0,0)),(b1,true,.cells ⟨(k.val A lc B tc).cells.toList⟩ 45 (0,0))]++s.1.2.bl)) (fun s=> k.nl-s.1.1) ?_ ⟨(0,Gl.nil 110 1),Nat.zero_le _,rfl,rfl⟩)
 rintro⟨⟨j,g⟩,p1,p2,p3⟩ ih;simp only at p1 p2 p3;show Tc M St _ _ _ _ [(1,.pointer (some ⟨b1,0,none⟩)),(2,g.val),(5,.pointer (some ⟨b5,0,none⟩)),(6,.map (some m)),(20,.int .i64 (k.nl:Nat)),(21,.int .i64 (j:Nat))] ([(b5,true,.cells ⟨(k.val A lc B tc).cells.toList⟩ 166 (0,0)),(b1,true,.cells ⟨(k.val A lc B tc).cells.toList⟩ 45 (0,0))]++g.bl) _ _;by_cases c1:j=k.nl
 ·subst c1;refine qE ?_;refine .cl (fun H hs=> vL M H k (-1) m es cl fm (hs.base _ _ q3) q4) ?_;refine U4 ?_;refine .rt hK func50 results50 [_,_,_] ?_;exact fun H' hs=> ⟨View.le_trans hle hs.base,g,rfl,⟨p2,p3⟩,fun x hx=> ⟨hs.at_ x (by simp[hx]),none_le hle (hs.out x (by simp[hx]))⟩⟩
 ·have c2:j<k.nl:=by omega
  refine SR ?_;refine .cl (fun H hs=> vL M H k (j:Nat) m es cl fm (hs.base _ _ q3) q4) ?_;refine .e (.bs (zz:=fun bs=> ?_));refine .e (Or.append (E:=en) 3 rfl rfl rfl rfl rfl rfl rfl rfl rfl rfl rfl rfl rfl rfl rfl (fun H hs=> ZA.of (hs.get (i:=0) rfl) (Nat.le_of_ble_eq_true rfl)) rfl oM rfl dE (fun g' gP lM=> ?_));refine U7 ?_;exact Tc.db (ih ⟨(j+1,g'),by simp only;omega,by simp only;omega,by simp only;rw[lM,p3,DZ];rfl⟩ (by simp only;omega))
end
end Go.Proofs.YtldmfjcgjdchcaaGreatDoor
