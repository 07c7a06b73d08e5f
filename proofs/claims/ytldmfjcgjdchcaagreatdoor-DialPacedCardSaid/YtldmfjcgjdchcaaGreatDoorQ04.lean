/-
  Texts of the proofs over baudot/dial: B1 B2 B3 B4 B5 A4 MapOk A5 Marks Draw3 Perm A6 A7 A8 A9 A10 A11 A12 A13 A14 Draw4 A15 A16 A17.
-/
import Derived.Test.YtldmfjcgjdchcaaGreatDoorQ03
import Derived.Laws.RangeAny
namespace Go.Proofs.YtldmfjcgjdchcaaGreatDoor
open Go.RL Go.Proofs.Tryz
set_option maxRecDepth 10000
set_option maxHeartbeats 4000000
def clash1(num s:List UInt8):Bool:=begins num s||begins s num
def Bk.clash(k:Bk)(s:List UInt8):Bool:=(firstTo (fun i=> clash1 (k.num i) s) k.nl).isSome
def dig(c:UInt8):Bool:=decide (48≤c.toNat∧c.toNat<58)
def digs:List UInt8:= [48,49,50,51,52,53,54,55,56,57]
def digSet(i:Nat):List Value:=(List.range 256).map fun j=> .bool (decide (48≤j∧j<48+i))
def trimR(s:List UInt8):List UInt8:=(s.reverse.dropWhile dig).reverse
def trimD(s:List UInt8):List UInt8:=(trimR s).dropWhile dig
def isNum(s:List UInt8):Bool:=decide (1≤s.length∧s.length≤3)&&s.all dig
theorem digSet_zero:digSet 0=List.replicate 256 (.bool false):=by kernel_rfl
theorem digSet_st:∀i,i<10→stL (digSet i) (0+((48+i:Nat):Int).toNat*1) [.bool true]=digSet (i+1):=by
 intro i hi;rcases(by omega:i=0∨i=1∨i=2∨i=3∨i=4∨i=5∨i=6∨i=7∨i=8∨i=9) with rfl|rfl|rfl|rfl|rfl|rfl|rfl|rfl|rfl|rfl <;> kernel_rfl
theorem digSet_ld(c:UInt8):ldL false 1 (digSet 10) (0+((c.toNat:Nat):Int).toNat*1)=some (.bool (dig c)):=by
 show(digSet 10)[_]? =_;have:c.toNat<256:=c.toNat_lt;unfold digSet dig;rw[List.getElem?_map,Int.toNat_natCast,Nat.mul_one,Nat.zero_add,List.getElem?_range this];rfl
theorem digs_at:∀i,i<10→digs[i]? =some (UInt8.ofNat (48+i)):=by decide
theorem trimR_snoc(s:List UInt8)(c:UInt8)(h:dig c=true):trimR (s++[c])=trimR s:=by
 unfold trimR;rw[List.reverse_append];simp[h]
theorem trimR_stop(s:List UInt8)(c:UInt8)(h:dig c=false):trimR (s++[c])=s++[c]:=by
 unfold trimR;rw[List.reverse_append];simp[h]
theorem trimD_nil(s:List UInt8):(trimD s== [])=s.all dig:=by
 have h:trimD s= []↔∀c∈s,dig c=true:=by
   unfold trimD trimR;constructor
   · intro h c hc;have h1:∀l:List UInt8,l.dropWhile dig= []→∀c∈l,dig c=true:=by
       intro l;induction l with
       | nil=> simp
       | cons x t ih=>
         rw[List.dropWhile_cons];split
         · rename_i hx
           intro h c hc;rcases List.mem_cons.1 hc with rfl|hc
           · exact hx
           · exact ih h c hc
         · intro h;cases h
     have h2:=h1 _ h;have h3:∀l:List UInt8,(∀c∈l.dropWhile dig,dig c=true)→∀c∈l,dig c=true:=by
       intro l;induction l with
       | nil=> simp
       | cons x t ih=>
         rw[List.dropWhile_cons];split
         · rename_i hx
           intro h c hc;rcases List.mem_cons.1 hc with rfl|hc
           · exact hx
           · exact ih h c hc
         · intro h c hc;exact h c hc
     exact h3 s.reverse (fun c hc=> h2 c (List.mem_reverse.2 hc)) c (List.mem_reverse.2 hc)
   · intro h;have h1:∀l:List UInt8,(∀c∈l,dig c=true)→l.dropWhile dig= []:=by
       intro l;induction l with
       | nil=> simp
       | cons x t ih=>
         intro h;rw[List.dropWhile_cons,if_pos (h x (List.mem_cons_self ..))];exact ih fun c hc=> h c (List.mem_cons_of_mem _ hc)
     rw[h1 s.reverse (fun c hc=> h c (List.mem_reverse.1 hc))];rfl
 rw[Bool.eq_iff_iff,beq_iff_eq,h,List.all_eq_true]
section
variable(M:Md prog)(H:View)
theorem HasPrefix_is(s p:List UInt8)(t:Bool)(h:begins s p=t):CallT M 146 #[strV s,strV p] H (fun v H'=> H.le H'∧v=.bool t):=
 CallT.mono (HasPrefix_c M H s p) (by rintro v H' ⟨h1,h2⟩;rw[h] at h2;exact⟨h1,h2⟩)
theorem IndexL_c(k:Bk)(A:Option Addr)(lc:Nat)(hA:RowsAt H k A lc)(hn:k.nl≤1000)(fv:Value)(p:Nat→Bool)(hp:AskL M H fv k p):
   CallT M 281 #[.slice A k.nl lc,fv] H (fun v H'=> H.le H'∧v=.int .i64 (firstI (firstTo p k.nl))):=by
 refine .en func281 ntmps281 fun St c cs hK=> ?_;refine U12 ?_;refine Tc.db (Tc.loopInv (σ:= { j:Nat//j≤k.nl∧firstTo p j=none }) (fun j=> ([(0,.slice A k.nl lc),(1,fv),(7,.int .i64 (k.nl:Nat)),(8,.int .i64 (j.1:Nat))],[])) (fun j=> k.nl-j.1) ?_ ⟨0,Nat.zero_le _,rfl⟩);rintro⟨j,hj,hno⟩ ih;show Tc M St _ _ _ _ [(0,.slice A k.nl lc),(1,fv),(7,.int .i64 (k.nl:Nat)),(8,.int .i64 (j:Nat))] [] _ _;by_cases c1:j=k.nl
 · subst c1;rw[hno] at hK;refine U11 ?_;refine .rt hK func281 results281 [_] ?_;exact okB
 · have c2:j<k.nl:=by omega
   obtain⟨_,h0|⟨ab,ao,f,gs,gt,gz,rfl,hb,hl⟩⟩:=hA
   · omega
   obtain⟨F,fc,f1,_,_⟩:=hl j c2;have hpj:=hp j c2 F fc;cases hpp:p j with
   | true=>
     rw[hpp] at hpj;have e:firstTo p k.nl=some j:=firstTo_stays (j:=j+1) (by simp[firstTo,hno,hpp]) _ (by omega);rw[e] at hK;refine U21 ?_;refine .c rfl rfl rfl rfl (fun H hs=> hpj H hs.base) ?_;refine U7 ?_;refine .rt hK func281 results281 [_] ?_;exact okB
   | false=>
     rw[hpp] at hpj;refine U21 ?_;refine .c rfl rfl rfl rfl (fun H hs=> hpj H hs.base) ?_;refine U8 ?_;exact Tc.db (ih ⟨j+1,by omega,by simp[firstTo,hno,hpp]⟩ (by simp only;omega))
theorem ContainsL_c(k:Bk)(A:Option Addr)(lc:Nat)(hA:RowsAt H k A lc)(hn:k.nl≤1000)(fv:Value)(p:Nat→Bool)(hp:AskL M H fv k p):
   CallT M 223 #[.slice A k.nl lc,fv] H (fun v H'=> H.le H'∧v=.bool (firstTo p k.nl).isSome):=by
 have hi:=fun(H':View) (h':H.le H')=> IndexL_c M H' k A lc (hA.le h') hn fv p (fun i hi F fc H'' hle=> hp i hi F fc H'' (View.le_trans h' hle));cases hq:firstTo p k.nl with
 | none=>
   rw[hq] at hi;have e:firstI none= -1:=rfl;rw[e] at hi;refine .en func223 ntmps223 fun St c cs hK=> ?_;refine U8 ?_;refine .c rfl rfl rfl rfl (fun H hs=> .h (hi H hs.base)) ?_;refine U3 ?_;refine .rt hK func223 results223 [_] ?_;exact okB
 | some j=>
   rw[hq] at hi;have e:firstI (some j)=(j:Nat):=rfl;rw[e] at hi;refine .en func223 ntmps223 fun St c cs hK=> ?_;refine U8 ?_;refine .c rfl rfl rfl rfl (fun H hs=> .h (hi H hs.base)) ?_;refine U3 ?_;refine .rt hK func223 results223 [_] ?_;exact okB
theorem clash1_c(s:List UInt8)(b3:Nat)(f:Bool)(hb:H b3=some (f,.cells ⟨[strV s]⟩ 9 (0,0)))(a num:List UInt8)(F:Option Addr)(n fc:Nat):
   CallT M 224 #[lineV a num F n fc,.pointer (some ⟨b3,0,none⟩)] H (fun v H'=> H.le H'∧v=.bool (clash1 num s)):=by
 cases h1:begins num s with
 | true=>
   have e:clash1 num s=true:=by unfold clash1;rw[h1];rfl
   rw[e];refine .en func224 ntmps224 fun St c cs hK=> ?_;refine U2 ?_;refine .bo fun b2=> ?_;refine U7 ?_;refine .c rfl rfl rfl rfl (fun H hs=> .h (HasPrefix_is M H num s true h1)) ?_;refine U8 ?_;refine .rt hK func224 results224 [_] ?_;exact okB
 | false=>
   have e:clash1 num s=begins s num:=by unfold clash1;rw[h1];rfl
   rw[e];refine .en func224 ntmps224 fun St c cs hK=> ?_;refine U2 ?_;refine .bo fun b2=> ?_;refine U7 ?_;refine .c rfl rfl rfl rfl (fun H hs=> .h (HasPrefix_is M H num s false h1)) ?_;refine U4 ?_;refine .c rfl rfl rfl rfl (fun H hs=> .h (HasPrefix_c M H s num)) ?_;refine U3 ?_;refine .rt hK func224 results224 [_] ?_;exact okB
theorem clashes_c(k:Bk)(A:Option Addr)(lc:Nat)(hA:RowsAt H k A lc)(hn:k.nl≤1000)(s:List UInt8):
   CallT M 137 #[.slice A k.nl lc,strV s] H (fun v H'=> H.le H'∧v=.bool (k.clash s)):=by
 refine .en func137 ntmps137 fun St c cs hK=> ?_;refine U2 ?_;refine .bo fun b3=> ?_;refine U6 ?_;refine .c rfl rfl rfl rfl (fun H hs=> .h (ContainsL_c M H k A lc (hA.le hs.base) hn _ (fun i=> clash1 (k.num i) s) (fun i _ F fc H' hle=> FnT.of (first:= []) (captured:= [_]) ca224 rfl (clash1_c M H' s b3 true (hle _ _ (hs.get (i:=0) rfl)) (k.name i) (k.num i) F (k.nf i) fc)))) ?_;refine U2 ?_;refine .rt hK func137 results137 [_] ?_;exact okB
theorem contains_c(b:Nat)(f:Bool)(gt:TypeId)(gz:Nat×Nat)(hb:H b=some (f,.cells ⟨digSet 10⟩ gt gz))(c0:UInt8):
   CallT M 251 #[.pointer (some ⟨b,0,none⟩),.int .u8 (c0.toNat:Nat)] H (fun v H'=> H.le H'∧v=.bool (dig c0)):=by
 have f1:=digSet_ld c0;have f2:=c0.toNat_lt;refine .en func251 ntmps251 fun St c cs hK=> ?_;refine U13 ?_;refine .rt hK func251 results251 [_] ?_;exact okB
end
section
variable(M:Md prog)(H:View)
theorem makeSet_c:CallT M 190 #[strV digs] H (fun v H'=> H.le H'∧v=.tuple ⟨[.agg ⟨digSet 10⟩,.bool true]⟩):=by
 refine .en func190 ntmps190 fun St c cs hK=> ?_;refine U2 ?_;refine .al fun b2=> ?_;refine U8 ?_;refine Tc.dropB (Tc.loopInv (σ:= { i:Nat//i≤10 }) (fun i=> ([(0,strV digs),(2,.pointer (some ⟨b2,0,none⟩)),(4,.int .i64 (i.1:Nat))],[(b2,true,.cells ⟨digSet i.1⟩ 294 (0,0))])) (fun i=> 10-i.1) ?_ ⟨0,by omega⟩) ⟨rfl,rfl,rfl,trivial⟩ (by rw[digSet_zero];exact List.Sublist.refl _);rintro⟨i,hi⟩ ih;show Tc M St _ _ _ _ [(0,strV digs),(2,.pointer (some ⟨b2,0,none⟩)),(4,.int .i64 (i:Nat))] [(b2,true,.cells ⟨digSet i⟩ 294 (0,0))] _ _;have hdl:(digs.length:Nat)=10:=rfl;by_cases c1:i=10
 · subst c1;refine U16 ?_;refine .rt hK func190 results190 [_,_] ?_;exact okB
 · have c2:i<10:=by omega
   have f1:digs[((i:Nat):Int).toNat]? =some (UInt8.ofNat (48+i)):=by rw[Int.toNat_natCast];exact digs_at i c2
   have f2:(UInt8.ofNat (48+i)).toNat=48+i:=by rw[UInt8.toNat_ofNat'];omega
   have f3:=digSet_st i c2;have f4:Nat.ble (0+((48+i:Nat):Int).toNat*1+1) (digSet i).length=true:=by
     refine Nat.ble_eq_true_of_le ?_;rw[Int.toNat_natCast];unfold digSet;rw[List.length_map,List.length_range];omega
   refine U19 ?_;rw[f2];refine U19 ?_;exact Tc.db (ih ⟨i+1,by omega⟩ (by simp only;omega))
theorem trimRight_c(b:Nat)(f:Bool)(gt:TypeId)(gz:Nat×Nat)(hb:H b=some (f,.cells ⟨digSet 10⟩ gt gz))(s:List UInt8)(hl:s.length≤1000000):
   CallT M 192 #[strV s,.pointer (some ⟨b,0,none⟩)] H (fun v H'=> H.le H'∧v=strV (trimR s)):=by
 refine .en func192 ntmps192 fun St c cs hK=> ?_;refine U6 ?_;refine Tc.db (Tc.loopInv (σ:= { r:List UInt8//trimR r=trimR s∧r.length≤s.length }) (fun r=> ([(0,strV r.1),(1,.pointer (some ⟨b,0,none⟩))],[])) (fun r=> r.1.length) ?_ ⟨s,rfl,Nat.le_refl _⟩);rintro⟨r,hr,hlr⟩ ih;show Tc M St _ _ _ _ [(0,strV r),(1,.pointer (some ⟨b,0,none⟩))] [] _ _;have hsn:r= []∨∃q x,r=q++[x]:=by
   rcases List.eq_nil_or_concat r with h|⟨q,x,h⟩
   · exact .inl h
   · exact .inr ⟨q,x,by rw[h,List.concat_eq_append]⟩
 rcases hsn with rfl|⟨q,x,rfl⟩
 · have e:trimR s= []:=by rw[←hr];rfl
   rw[e] at hK;refine U14 ?_;refine .rt hK func192 results192 [_] ?_;exact okB
 · have l1:(q++[x]).length=q.length+1:=by simp
   have f1:(q++[x])[(((q++[x]).length:Nat)-1:Int).toNat]? =some x:=by
     rw[l1,show(((q.length+1:Nat):Int)-1).toNat=q.length by omega];simp
   cases hx:dig x with
   | false=>
     have e:trimR s=q++[x]:=by rw[←hr];exact trimR_stop q x hx
     have hc:=fun(H':View) (h':H.le H')=> contains_c M H' b f gt gz (h' _ _ hb) x;rw[hx] at hc;rw[e] at hK;refine U19 ?_;refine .c rfl rfl rfl rfl (fun H hs=> .h (hc H hs.base)) ?_;refine U9 ?_;refine .rt hK func192 results192 [_] ?_;exact okB
   | true=>
     have hc:=fun(H':View) (h':H.le H')=> contains_c M H' b f gt gz (h' _ _ hb) x;rw[hx] at hc;have e:((q++[x]).drop ((0:Nat):Int).toNat).take ((((q++[x]).length:Nat)-1:Int).toNat-((0:Nat):Int).toNat)=q:=by
       rw[l1,show(((q.length+1:Nat):Int)-1).toNat=q.length by omega];simp
     refine U19 ?_;refine .c rfl rfl rfl rfl (fun H hs=> .h (hc H hs.base)) ?_;refine U9 ?_;refine .x (OpV.sliceS (E:=en) rfl rfl rfl rfl rfl rfl (by omega) (by omega) (by omega)) ?_;refine U2 ?_;rw[e];refine U ?_;exact Tc.db (ih ⟨q,by rw[←hr,trimR_snoc q x hx],by omega⟩ (by simp only;omega))
theorem trimLeft_c(b:Nat)(f:Bool)(gt:TypeId)(gz:Nat×Nat)(hb:H b=some (f,.cells ⟨digSet 10⟩ gt gz))(s:List UInt8)(hl:s.length≤1000000):
   CallT M 191 #[strV s,.pointer (some ⟨b,0,none⟩)] H (fun v H'=> H.le H'∧v=strV (s.dropWhile dig)):=by
 refine .en func191 ntmps191 fun St c cs hK=> ?_;refine U6 ?_;refine Tc.db (Tc.loopInv (σ:= { r:List UInt8//r.dropWhile dig=s.dropWhile dig∧r.length≤s.length }) (fun r=> ([(0,strV r.1),(1,.pointer (some ⟨b,0,none⟩))],[])) (fun r=> r.1.length) ?_ ⟨s,rfl,Nat.le_refl _⟩);rintro⟨r,hr,hlr⟩ ih;show Tc M St _ _ _ _ [(0,strV r),(1,.pointer (some ⟨b,0,none⟩))] [] _ _;rcases r with _|⟨x,q⟩
 · have e:s.dropWhile dig= []:=by rw[←hr];rfl
   rw[e] at hK;refine U14 ?_;refine .rt hK func191 results191 [_] ?_;exact okB
 · have l1:(x::q).length=q.length+1:=rfl;have f1:(x::q)[(0:Int).toNat]? =some x:=rfl;cases hx:dig x with
   | false=>
     have e:s.dropWhile dig=x::q:=by rw[←hr,List.dropWhile_cons,hx];rfl
     have hc:=fun(H':View) (h':H.le H')=> contains_c M H' b f gt gz (h' _ _ hb) x;rw[hx] at hc;rw[e] at hK;refine U16 ?_;refine .c rfl rfl rfl rfl (fun H hs=> .h (hc H hs.base)) ?_;refine U9 ?_;refine .rt hK func191 results191 [_] ?_;exact okB
   | true=>
     have hc:=fun(H':View) (h':H.le H')=> contains_c M H' b f gt gz (h' _ _ hb) x;rw[hx] at hc;have e:((x::q).drop (1:Int).toNat).take ((((x::q).length:Nat):Int).toNat-(1:Int).toNat)=q:=by
       rw[l1,show(((q.length+1:Nat):Int)).toNat-(1:Int).toNat=q.length by omega];simp
     refine U16 ?_;refine .c rfl rfl rfl rfl (fun H hs=> .h (hc H hs.base)) ?_;refine U6 ?_;refine .x (OpV.sliceS (E:=en) rfl rfl rfl rfl rfl rfl (by omega) (by omega) (by omega)) ?_;refine U2 ?_;rw[e];refine U ?_;exact Tc.db (ih ⟨q,by rw[←hr,List.dropWhile_cons,hx];rfl,by omega⟩ (by simp only;omega))
theorem Trim_c(s:List UInt8)(hl:s.length≤1000000):CallT M 117 #[strV s,strV digs] H (fun v H'=> H.le H'∧v=strV (trimD s)):=by
 rcases s with _|⟨x,q⟩
 · have e:trimD []= []:=rfl;rw[e];refine .en func117 ntmps117 fun St c cs hK=> ?_;refine U20 ?_;refine .rt hK func117 results117 [_] ?_;exact okB
 · have hlr:(trimR (x::q)).length≤1000000:=by
     unfold trimR;rw[List.length_reverse];have:=(List.dropWhile_sublist dig (l:=(x::q).reverse)).length_le;rw[List.length_reverse] at this;omega
   refine .en func117 ntmps117 fun St c cs hK=> ?_;refine U34 ?_;refine .c rfl rfl rfl rfl (fun H hs=> .h (makeSet_c M H)) ?_;refine U3 ?_;refine .al fun b5=> ?_;refine U11 ?_;refine .c rfl rfl rfl rfl (fun H hs=> .h (trimRight_c M H b5 true _ _ (hs.get (i:=0) rfl) (x::q) hl)) ?_;refine .c rfl rfl rfl rfl (fun H hs=> .h (trimLeft_c M H b5 true _ _ (hs.get (i:=0) rfl) (trimR (x::q)) hlr)) ?_;refine U2 ?_;refine .rt hK func117 results117 [_] ?_;exact okB
theorem isNumber_c(s:List UInt8)(hl:s.length≤1000000):CallT M 41 #[strV s] H (fun v H'=> H.le H'∧v=.bool (isNum s)):=by
 by_cases c1:1≤(s.length:Int)∧(s.length:Int)≤3
 · have e:isNum s=(trimD s== []):=by
     unfold isNum;rw[trimD_nil];have:decide (1≤s.length∧s.length≤3)=true:=decide_eq_true (by omega);rw[this];rfl
   rw[e];have hb:=fun(H':View)=> between_is M H' (s.length:Nat) 1 3 true (decide_eq_true c1);refine .en func41 ntmps41 fun St c cs hK=> ?_;refine U8 ?_;refine .c rfl rfl rfl rfl (fun H hs=> .h (hb H)) ?_;refine U2 ?_;refine .c rfl rfl rfl rfl (fun H hs=> .h (Trim_c M H s hl)) ?_;refine U4 ?_;refine .rt hK func41 results41 [_] ?_;exact okB
 · have e:isNum s=false:=by
     unfold isNum;have:decide (1≤s.length∧s.length≤3)=false:=decide_eq_false (by omega);rw[this];rfl
   rw[e];have hb:=fun(H':View)=> between_is M H' (s.length:Nat) 1 3 false (decide_eq_false c1);refine .en func41 ntmps41 fun St c cs hK=> ?_;refine U8 ?_;refine .c rfl rfl rfl rfl (fun H hs=> .h (hb H)) ?_;refine U7 ?_;refine .rt hK func41 results41 [_] ?_;exact okB
end
def low(c:UInt8):Bool:=decide (97≤c.toNat∧c.toNat≤122)
def nmAt(s:List UInt8)(i:Nat):Bool:=match s[i]? with
 | some c=> low c||(decide (0<i)&&dig c)
 | none=> true
def allB(p:Nat→Bool):Nat→Bool
 | 0=> true
 | n+1=> allB p n&&p n
theorem allB_iff {p:Nat→Bool}:∀n,allB p n=true↔∀i,i<n→p i=true
 | 0=> ⟨fun _ i hi=> by omega,fun _=> rfl⟩
 | n + 1=> by
   unfold allB;rw[Bool.and_eq_true,allB_iff n];constructor
   · rintro⟨h1,h2⟩ i hi;by_cases e:i=n
     · subst e;exact h2
     · exact h1 i (by omega)
   · exact fun h=> ⟨fun i hi=> h i (by omega),h n (by omega)⟩
theorem allB_not {p:Nat→Bool}{n i:Nat}(hi:i<n)(h:p i=false):allB p n=false:=by
 cases e:allB p n with
 | false=> rfl
 | true=> rw[(allB_iff n).1 e i hi] at h;cases h
def isNm(s:List UInt8):Bool:=decide (1≤s.length∧s.length≤9)&&allB (nmAt s) s.length
theorem dec_at(s:List UInt8)(p:Nat)(hp:p<s.length):∃z w,Utf8.decode ⟨⟨s⟩⟩ p=(z,w)∧z≤2147483647∧∃x,s[p]? =some x∧(x.toNat<128→z=x.toNat∧w=1)∧(128≤x.toNat→128≤z):=by
 have hs:p<(ByteArray.mk ⟨s⟩).size:=hp;refine⟨(Utf8.decode ⟨⟨s⟩⟩ p).1,(Utf8.decode ⟨⟨s⟩⟩ p).2,rfl,decode_le _ _,(ByteArray.mk ⟨s⟩)[p]'hs,?_,?_,?_⟩
 · rw[List.getElem?_eq_getElem hp];rfl
 · intro h;rw[decode_ascii _ p hs h];exact⟨rfl,rfl⟩
 · intro h;exact(decode_high _ p hs h).1
section
variable(M:Md prog)(H:View)
theorem isName_c(s:List UInt8):CallT M 371 #[strV s] H (fun v H'=> H.le H'∧v=.bool (isNm s)):=by
 by_cases c1:1≤(s.length:Int)∧(s.length:Int)≤9
 · have e0 : isNm s=allB (nmAt s) s.length:=by
     unfold isNm;have:decide (1≤s.length∧s.length≤9)=true:=decide_eq_true (by omega);rw[this];rfl
   have hb:=fun(H':View)=> between_is M H' (s.length:Nat) 1 9 true (decide_eq_true c1);rw[e0];refine .en func371 ntmps371 fun St c cs hK=> ?_;refine U9 ?_;refine .c rfl rfl rfl rfl (fun H hs=> .h (hb H)) ?_;refine U8 ?_;refine .e (Or.rangeS (E:=en) (s:=⟨⟨s⟩⟩) rfl rfl rfl rfl rfl (by decide) (fun it=> ?_));refine U2 ?_;refine Tc.db (Tc.loopInv (σ:= { p:Nat//p≤s.length∧∀i,i<p→nmAt s i=true }) (fun p=> ([(10,.pointer (some ⟨it,0,none⟩))],[(it,true,.stringIter ⟨⟨s⟩⟩ p.1)])) (fun p=> s.length-p.1) ?_ ⟨0,Nat.zero_le _,fun i hi=> by omega⟩);rintro⟨p,hp,hall⟩ ih;show Tc M St _ _ _ _ [(10,.pointer (some ⟨it,0,none⟩))] [(it,true,.stringIter ⟨⟨s⟩⟩ p)] _ _;by_cases c2:p=s.length
   · have e:allB (nmAt s) s.length=true:=(allB_iff _).2 (by rw[←c2];exact hall);rw[e] at hK;have hnp:¬p<(ByteArray.mk ⟨s⟩).size:=by show ¬p<s.length;omega
     refine U2 ?_;refine .e (Or.nextS0 0 rfl rfl rfl hnp rfl (by decide) ?_);refine U9 ?_;refine .rt hK func371 results371 [_] ?_;exact okB
   · have c3 :p<s.length:=by omega
     obtain⟨z,w,hdec,hz,x,hx,hlo,hhi⟩:=dec_at s p c3;have hps:p<(ByteArray.mk ⟨s⟩).size:=c3;have wz:IntKind.i64.wrap ((z:Nat):Int)=((z:Nat):Int):=wrap64 (by omega) (by omega);have hxm:=x.toNat_lt;by_cases c4:97≤((z:Nat):Int)∧((z:Nat):Int)≤122
     · have hx1:x.toNat<128:=by
         by_cases h:x.toNat<128
         · exact h
         · have:=hhi (by omega);omega
       obtain⟨h1,rfl⟩:=hlo hx1;have hn:nmAt s p=true:=by
         unfold nmAt;rw[hx];have:low x=true:=decide_eq_true (by omega);simp[this]
       have hbz:=fun(H':View)=> between_is M H' (z:Nat) 97 122 true (decide_eq_true c4);have hbd:=fun(H':View)=> between_c M H' (z:Nat) 48 57;refine U2 ?_;refine .e (Or.nextS 0 rfl rfl rfl hps hdec rfl (by decide) ?_);refine U17 ?_;refine .c rfl rfl rfl rfl (fun H hs=> .h (hbz H)) ?_;refine U5 ?_;refine To.skippedU rfl (by decide) rfl ?_;refine To.skippedU rfl (by decide) rfl ?_;refine To.skippedU rfl (by decide) rfl ?_;refine To.skippedU rfl (by decide) rfl ?_;refine U6 ?_;exact Tc.db (ih ⟨p+1,by omega,fun i hi=> by by_cases e:i=p;exact e▸hn;exact hall i (by omega)⟩ (by simp only;omega))
     · have hbz:=fun(H':View)=> between_is M H' (z:Nat) 97 122 false (decide_eq_false c4);have hlw:low x=false:=by
         refine decide_eq_false ?_;intro h;obtain⟨h1,_⟩:=hlo (by omega);omega
       by_cases c5:p=0
       · subst c5;have e:allB (nmAt s) s.length=false:=allB_not c3 (by unfold nmAt;rw[hx];simp[hlw]);have hbd:=fun(H':View)=> between_c M H' (z:Nat) 48 57;rw[e] at hK;refine U2 ?_;refine .e (Or.nextS 0 rfl rfl rfl hps hdec rfl (by decide) ?_);refine U17 ?_;refine .c rfl rfl rfl rfl (fun H hs=> .h (hbz H)) ?_;refine U17 ?_;refine .rt hK func371 results371 [_] ?_;exact okB
       · have c6:(p:Int)≠0:=by omega
         by_cases c7:48≤((z:Nat):Int)∧((z:Nat):Int)≤57
         · have hx1:x.toNat<128:=by
             by_cases h:x.toNat<128
             · exact h
             · have:=hhi (by omega);omega
           obtain⟨h1,rfl⟩:=hlo hx1;have hn:nmAt s p=true:=by
             unfold nmAt;rw[hx];have:dig x=true:=decide_eq_true (by omega);have h0:0<p:=by omega
             simp[this,h0]
           have hbd:=fun(H':View)=> between_is M H' (z:Nat) 48 57 true (decide_eq_true c7);refine U2 ?_;refine .e (Or.nextS 0 rfl rfl rfl hps hdec rfl (by decide) ?_);refine U17 ?_;refine .c rfl rfl rfl rfl (fun H hs=> .h (hbz H)) ?_;refine U7 ?_;refine .c rfl rfl rfl rfl (fun H hs=> .h (hbd H)) ?_;refine U7 ?_;exact Tc.db (ih ⟨p+1,by omega,fun i hi=> by by_cases e:i=p;exact e▸hn;exact hall i (by omega)⟩ (by simp only;omega))
         · have hdg:dig x=false:=by
             refine decide_eq_false ?_;intro h;obtain⟨h1,_⟩:=hlo (by omega);omega
           have e:allB (nmAt s) s.length=false:=allB_not c3 (by unfold nmAt;rw[hx];simp[hlw,hdg]);have hbd:=fun(H':View)=> between_is M H' (z:Nat) 48 57 false (decide_eq_false c7);rw[e] at hK;refine U2 ?_;refine .e (Or.nextS 0 rfl rfl rfl hps hdec rfl (by decide) ?_);refine U17 ?_;refine .c rfl rfl rfl rfl (fun H hs=> .h (hbz H)) ?_;refine U7 ?_;refine .c rfl rfl rfl rfl (fun H hs=> .h (hbd H)) ?_;refine U9 ?_;refine .rt hK func371 results371 [_] ?_;exact okB
 · have e0:isNm s=false:=by
     unfold isNm;have:decide (1≤s.length∧s.length≤9)=false:=decide_eq_false (by omega);rw[this];rfl
   have hb:=fun(H':View)=> between_is M H' (s.length:Nat) 1 9 false (decide_eq_false c1);rw[e0];refine .en func371 ntmps371 fun St c cs hK=> ?_;refine U9 ?_;refine .c rfl rfl rfl rfl (fun H hs=> .h (hb H)) ?_;refine U7 ?_;refine .rt hK func371 results371 [_] ?_;exact okB
end
theorem isV {M:Md prog}{f:FuncId}{az:Array Value}{H:View}{w w':Value}(h:CallT M f az H fun v H'=> H.le H'∧v=w)(e:w=w'):CallT M f az H fun v H'=> H.le H'∧v=w':=e▸h
theorem isB {M:Md prog}{f:FuncId}{az:Array Value}{H:View}{w w':Bool}(h:CallT M f az H fun v H'=> H.le H'∧v=.bool w)(e:w=w'):CallT M f az H fun v H'=> H.le H'∧v=.bool w':=e▸h
def firstA(f:Nat→Int):Nat→Int
 | 0=> 0
 | n+1=> if firstA f n=0 then f n else firstA f n
theorem firstA_stays {f:Nat→Int}{j:Nat}(h:firstA f j≠0):∀m,j≤m→firstA f m=firstA f j:=by
 intro m hm;induction m with
 | zero=>
   have:j=0:=by omega
   subst this;rfl
 | succ m ih=>
   by_cases e:j=m+1
   · subst e;rfl
   · rw[firstA,ih (by omega),if_neg h]
theorem firstA_at {f:Nat→Int}{j:Nat}(h0:firstA f j=0){a:Int}(h:f j=a)(ha:a≠0){m:Nat}(hm:j<m):firstA f m=a:=by
 have h1:firstA f (j+1)=a:=by rw[firstA,if_pos h0];exact h
 rw[firstA_stays (j:=j+1) (by rw[h1];exact ha) m (by omega),h1]
def claimOk(x:Int):Bool:=decide (0≤x∧x≤2)
def Bk.pausesA(k:Bk):Int:=if(1≤k.gap∧k.gap≤99)∧(k.gap+1≤k.give∧k.give≤99) then 0 else 1
def Bk.trainBad(k:Bk)(i:Nat):Bool:=!trainOk (k.pf i) (k.pt i) (k.qf i) (k.qt i)
def Bk.trainsA(k:Bk):Int:=if 6<k.nt then 2 else if(firstTo k.trainBad k.nt).isSome then 1 else 0
section
variable(M:Md prog)(H:View)
theorem IndexC_c(F:Option Addr)(n fc:Nat)(x:Nat→Int)(hF:FreeAt H F n x)(hn:n≤1000)(fv:Value)(p:Nat→Bool)(hp:∀j,j<n→∀H',H.le H'→FnT M fv [.int .i64 (x j)] H' fun v H''=> H'.le H''∧v=.bool (p j)):
   CallT M 377 #[.slice F n fc,fv] H (fun v H'=> H.le H'∧v=.int .i64 (firstI (firstTo p n))):=by
 refine .en func377 ntmps377 fun St c cs hK=> ?_;refine U12 ?_;refine Tc.db (Tc.loopInv (σ:= { j:Nat//j≤n∧firstTo p j=none }) (fun j=> ([(0,.slice F n fc),(1,fv),(7,.int .i64 (n:Nat)),(8,.int .i64 (j.1:Nat))],[])) (fun j=> n-j.1) ?_ ⟨0,Nat.zero_le _,rfl⟩);rintro⟨j,hj,hno⟩ ih;show Tc M St _ _ _ _ [(0,.slice F n fc),(1,fv),(7,.int .i64 (n:Nat)),(8,.int .i64 (j:Nat))] [] _ _;by_cases c1:j=n
 · subst c1;rw[hno] at hK;refine U11 ?_;refine .rt hK func377 results377 [_] ?_;exact okB
 · have c2:j<n:=by omega
   obtain h0|⟨ab,ao,f,gs,gt,gz,rfl,hb,hl⟩:=hF
   · omega
   have f1:=hl j c2;have hpj:=hp j c2;cases hpp:p j with
   | true=>
     rw[hpp] at hpj;have e:firstTo p n=some j:=firstTo_stays (j:=j+1) (by simp[firstTo,hno,hpp]) _ (by omega);rw[e] at hK;refine U21 ?_;refine .c rfl rfl rfl rfl (fun H hs=> hpj H hs.base) ?_;refine U7 ?_;refine .rt hK func377 results377 [_] ?_;exact okB
   | false=>
     rw[hpp] at hpj;refine U21 ?_;refine .c rfl rfl rfl rfl (fun H hs=> hpj H hs.base) ?_;refine U8 ?_;exact Tc.db (ih ⟨j+1,by omega,by simp[firstTo,hno,hpp]⟩ (by simp only;omega))
theorem claimBad_c(x:Int):CallT M 374 #[.int .i64 x] H (fun v H'=> H.le H'∧v=.bool (!claimOk x)):=by
 cases h:claimOk x with
 | true=>
   refine .en func374 ntmps374 fun St c cs hK=> ?_;refine U7 ?_;refine .c rfl rfl rfl rfl (fun H hs=> .h (between_is M H x 0 2 true h)) ?_;refine U3 ?_;refine .rt hK func374 results374 [_] ?_;exact okB
 | false=>
   refine .en func374 ntmps374 fun St c cs hK=> ?_;refine U7 ?_;refine .c rfl rfl rfl rfl (fun H hs=> .h (between_is M H x 0 2 false h)) ?_;refine U3 ?_;refine .rt hK func374 results374 [_] ?_;exact okB
theorem ContainsC_c(F:Option Addr)(n fc:Nat)(x:Nat→Int)(hF:FreeAt H F n x)(hn:n≤1000):
   CallT M 373 #[.slice F n fc,.func (.func 374) #[] #[]] H (fun v H'=> H.le H'∧v=.bool (firstTo (fun j=> !claimOk (x j)) n).isSome):=by
 have hi:=fun(H':View) (h':H.le H')=> IndexC_c M H' F n fc x (hF.le h') hn (.func (.func 374) #[] #[]) (fun j=> !claimOk (x j)) (fun j _ H'' _=> .h (claimBad_c M H'' (x j)));cases hq:firstTo (fun j=> !claimOk (x j)) n with
 | none=>
   rw[hq] at hi;have e:firstI none= -1:=rfl;rw[e] at hi;refine .en func373 ntmps373 fun St c cs hK=> ?_;refine U8 ?_;refine .c rfl rfl rfl rfl (fun H hs=> .h (hi H hs.base)) ?_;refine U3 ?_;refine .rt hK func373 results373 [_] ?_;exact okB
 | some j=>
   rw[hq] at hi;have e:firstI (some j)=(j:Nat):=rfl;rw[e] at hi;refine .en func373 ntmps373 fun St c cs hK=> ?_;refine U8 ?_;refine .c rfl rfl rfl rfl (fun H hs=> .h (hi H hs.base)) ?_;refine U3 ?_;refine .rt hK func373 results373 [_] ?_;exact okB
theorem trainBad_c(a b c' d:Int):CallT M 376 #[trainV a b c' d] H (fun v H'=> H.le H'∧v=.bool (!trainOk a b c' d)):=by
 cases h:trainOk a b c' d with
 | true=>
   have ht:=fun(H':View)=> isB (isTrain_c M H' a b c' d) h;refine .en func376 ntmps376 fun St c cs hK=> ?_;refine U2 ?_;refine .bo fun b1=> ?_;refine U5 ?_;refine .c rfl rfl rfl rfl (fun H hs=> .h (ht H)) ?_;refine U3 ?_;refine .rt hK func376 results376 [_] ?_;exact okB
 | false=>
   have ht:=fun(H':View)=> isB (isTrain_c M H' a b c' d) h;refine .en func376 ntmps376 fun St c cs hK=> ?_;refine U2 ?_;refine .bo fun b1=> ?_;refine U5 ?_;refine .c rfl rfl rfl rfl (fun H hs=> .h (ht H)) ?_;refine U3 ?_;refine .rt hK func376 results376 [_] ?_;exact okB
theorem IndexT_c(k:Bk)(B:Option Addr)(tc:Nat)(hB:TrainsAt H k B tc)(hn:k.nt≤1000):
   CallT M 378 #[.slice B k.nt tc,.func (.func 376) #[] #[]] H (fun v H'=> H.le H'∧v=.int .i64 (firstI (firstTo k.trainBad k.nt))):=by
 refine .en func378 ntmps378 fun St c cs hK=> ?_;refine U12 ?_;refine Tc.db (Tc.loopInv (σ:= { j:Nat//j≤k.nt∧firstTo k.trainBad j=none }) (fun j=> ([(0,.slice B k.nt tc),(1,.func (.func 376) #[] #[]),(7,.int .i64 (k.nt:Nat)),(8,.int .i64 (j.1:Nat))],[])) (fun j=> k.nt-j.1) ?_ ⟨0,Nat.zero_le _,rfl⟩);rintro⟨j,hj,hno⟩ ih;show Tc M St _ _ _ _ [(0,.slice B k.nt tc),(1,.func (.func 376) #[] #[]),(7,.int .i64 (k.nt:Nat)),(8,.int .i64 (j:Nat))] [] _ _;by_cases c1:j=k.nt
 · subst c1;rw[hno] at hK;refine U11 ?_;refine .rt hK func378 results378 [_] ?_;exact okB
 · have c2:j<k.nt:=by omega
   obtain⟨_,h0|⟨ab,ao,f,gs,gt,gz,rfl,hb,hl⟩⟩:=hB
   · omega
   have f1:=hl j c2;cases hpp:k.trainBad j with
   | true=>
     have ht:=fun(H':View)=> isB (trainBad_c M H' (k.pf j) (k.pt j) (k.qf j) (k.qt j)) hpp;have e:firstTo k.trainBad k.nt=some j:=firstTo_stays (j:=j+1) (by simp[firstTo,hno,hpp]) _ (by omega);rw[e] at hK;refine U21 ?_;refine .c rfl rfl rfl rfl (fun H hs=> .h (ht H)) ?_;refine U7 ?_;refine .rt hK func378 results378 [_] ?_;exact okB
   | false=>
     have ht:=fun(H':View)=> isB (trainBad_c M H' (k.pf j) (k.pt j) (k.qf j) (k.qt j)) hpp;refine U21 ?_;refine .c rfl rfl rfl rfl (fun H hs=> .h (ht H)) ?_;refine U8 ?_;exact Tc.db (ih ⟨j+1,by omega,by simp[firstTo,hno,hpp]⟩ (by simp only;omega))
theorem ContainsT_c(k:Bk)(B:Option Addr)(tc:Nat)(hB:TrainsAt H k B tc)(hn:k.nt≤1000):
   CallT M 375 #[.slice B k.nt tc,.func (.func 376) #[] #[]] H (fun v H'=> H.le H'∧v=.bool (firstTo k.trainBad k.nt).isSome):=by
 have hi:=fun(H':View) (h':H.le H')=> IndexT_c M H' k B tc (hB.le h') hn;cases hq:firstTo k.trainBad k.nt with
 | none=>
   rw[hq] at hi;have e:firstI none= -1:=rfl;rw[e] at hi;refine .en func375 ntmps375 fun St c cs hK=> ?_;refine U8 ?_;refine .c rfl rfl rfl rfl (fun H hs=> .h (hi H hs.base)) ?_;refine U3 ?_;refine .rt hK func375 results375 [_] ?_;exact okB
 | some j=>
   rw[hq] at hi;have e:firstI (some j)=(j:Nat):=rfl;rw[e] at hi;refine .en func375 ntmps375 fun St c cs hK=> ?_;refine U8 ?_;refine .c rfl rfl rfl rfl (fun H hs=> .h (hi H hs.base)) ?_;refine U3 ?_;refine .rt hK func375 results375 [_] ?_;exact okB
theorem trains_c(k:Bk)(A:Option Addr)(lc:Nat)(B:Option Addr)(tc:Nat)(hB:TrainsAt H k B tc)(hn:k.nt≤1000):
   CallT M 370 #[k.val A lc B tc] H (fun v H'=> H.le H'∧v=.int .i64 k.trainsA):=by
 by_cases c1:6<k.nt
 · have e:k.trainsA=2:=if_pos c1;rw[e];refine .en func370 ntmps370 fun St c cs hK=> ?_;refine U2 ?_;refine .bo fun b1=> ?_;refine U18 ?_;refine .rt hK func370 results370 [_] ?_;exact okB
 · have hc:=fun(H':View) (h':H.le H')=> ContainsT_c M H' k B tc (hB.le h') hn;cases hq:(firstTo k.trainBad k.nt).isSome with
   | true=>
     rw[hq] at hc;have e:k.trainsA=1:=by unfold Bk.trainsA;rw[if_neg c1,hq];rfl
     rw[e];refine .en func370 ntmps370 fun St c cs hK=> ?_;refine U2 ?_;refine .bo fun b1=> ?_;refine U19 ?_;refine .c rfl rfl rfl rfl (fun H hs=> .h (hc H hs.base)) ?_;refine U7 ?_;refine .rt hK func370 results370 [_] ?_;exact okB
   | false=>
     rw[hq] at hc;have e:k.trainsA=0:=by unfold Bk.trainsA;rw[if_neg c1,hq];rfl
     rw[e];refine .en func370 ntmps370 fun St c cs hK=> ?_;refine U2 ?_;refine .bo fun b1=> ?_;refine U19 ?_;refine .c rfl rfl rfl rfl (fun H hs=> .h (hc H hs.base)) ?_;refine U9 ?_;refine .rt hK func370 results370 [_] ?_;exact okB
theorem pauses_c(k:Bk)(A:Option Addr)(lc:Nat)(B:Option Addr)(tc:Nat):
   CallT M 368 #[k.val A lc B tc] H (fun v H'=> H.le H'∧v=.int .i64 k.pausesA):=by
 by_cases c1:1≤k.gap∧k.gap≤99
 · by_cases c2:k.gap+1≤k.give∧k.give≤99
   · have e:k.pausesA=0:=if_pos ⟨c1,c2⟩;rw[e];have h1:=fun(H':View)=> between_is M H' k.gap 1 99 true (decide_eq_true c1);have h2:=fun(H':View)=> between_is M H' k.give (k.gap+1) 99 true (decide_eq_true c2);refine .en func368 ntmps368 fun St c cs hK=> ?_;refine U2 ?_;refine .bo fun b1=> ?_;refine U8 ?_;refine .c rfl rfl rfl rfl (fun H hs=> .h (h1 H)) ?_;refine U9 ?_;refine .c rfl rfl rfl rfl (fun H hs=> .h (h2 H)) ?_;refine U9 ?_;refine .rt hK func368 results368 [_] ?_;exact okB
   · have e:k.pausesA=1:=if_neg (fun h=> c2 h.2);rw[e];have h1:=fun(H':View)=> between_is M H' k.gap 1 99 true (decide_eq_true c1);have h2:=fun(H':View)=> between_is M H' k.give (k.gap+1) 99 false (decide_eq_false c2);refine .en func368 ntmps368 fun St c cs hK=> ?_;refine U2 ?_;refine .bo fun b1=> ?_;refine U8 ?_;refine .c rfl rfl rfl rfl (fun H hs=> .h (h1 H)) ?_;refine U9 ?_;refine .c rfl rfl rfl rfl (fun H hs=> .h (h2 H)) ?_;refine U8 ?_;refine .rt hK func368 results368 [_] ?_;exact okB
 · have e:k.pausesA=1:=if_neg (fun h=> c1 h.1);rw[e];have h1:=fun(H':View)=> between_is M H' k.gap 1 99 false (decide_eq_false c1);refine .en func368 ntmps368 fun St c cs hK=> ?_;refine U2 ?_;refine .bo fun b1=> ?_;refine U8 ?_;refine .c rfl rfl rfl rfl (fun H hs=> .h (h1 H)) ?_;refine U18 ?_;refine .rt hK func368 results368 [_] ?_;exact okB
end
set_option maxHeartbeats 8000000
def Bk.pre(k:Bk)(i:Nat):Bk:= { k with nl:=i }
def Bk.again(k:Bk)(i:Nat):Bool:=(firstTo (fun j=> k.name j==k.name i) i).isSome
def Bk.freeBad(k:Bk)(i:Nat):Bool:=(firstTo (fun j=> !claimOk (k.free i j)) (k.nf i)).isSome
def Bk.lineA(k:Bk)(i:Nat):Int:=if isNm (k.name i)=false then 4 else if k.again i=true then 5 else if isNum (k.num i)=false then 3 else if(k.pre i).clash (k.num i)=true then 10 else if decide (1≤((k.nf i:Nat):Int)∧((k.nf i:Nat):Int)≤4)=false then 2 else if k.freeBad i=true then 1 else 0
def Bk.linesA(k:Bk):Int:=if 6<k.nl then 2 else firstA k.lineA k.nl
def Bk.alarm(k:Bk):Int:=if k.pausesA=0 then if k.linesA=0 then k.trainsA else k.linesA else k.pausesA
theorem RowsAt.pre {H:View}{k:Bk}{A:Option Addr}{lc:Nat}(h:RowsAt H k A lc){i:Nat}(hi:i≤k.nl):RowsAt H (k.pre i) A lc:=by
 obtain⟨h1,h2⟩:=h;refine⟨Nat.le_trans hi h1,?_⟩;rcases h2 with h2|⟨b,o,f,gs,gt,gz,h3,h4,h5⟩
 · exact .inl (by show i=0;omega)
 · exact .inr ⟨b,o,f,gs,gt,gz,h3,h4,fun j hj=> h5 j (Nat.lt_of_lt_of_le hj hi)⟩
section
variable(M:Md prog)(H:View)
theorem same_c(nm:List UInt8)(b3:Nat)(f:Bool)(c0:List Value)(hb:H b3=some (f,.cells ⟨strV nm::c0⟩ 68 (0,0)))(a num:List UInt8)(F:Option Addr)(n fc:Nat):
   CallT M 372 #[lineV a num F n fc,.pointer (some ⟨b3,0,none⟩)] H (fun v H'=> H.le H'∧v=.bool (a==nm)):=by
 refine .en func372 ntmps372 fun St c cs hK=> ?_;refine U2 ?_;refine .bo fun b2=> ?_;refine U11 ?_;refine .rt hK func372 results372 [_] ?_;exact okB
theorem lines_c (k:Bk)(A:Option Addr)(lc:Nat)(B:Option Addr)(tc:Nat)(hA:RowsAt H k A lc)(hn:k.nl≤1000)(hs0:∀i,i<k.nl→(k.num i).length≤1000000∧k.nf i≤1000):
   CallT M 369 #[k.val A lc B tc] H (fun v H'=> H.le H'∧v=.int .i64 k.linesA):=by
 by_cases c1:6<k.nl
 · have e:k.linesA=2:=if_pos c1;rw[e];refine .en func369 ntmps369 fun St c cs hK=> ?_;refine U2 ?_;refine .bo fun b1=> ?_;refine U16 ?_;refine .rt hK func369 results369 [_] ?_;exact okB
 · have e:k.linesA=firstA k.lineA k.nl:=if_neg c1;rw[e];clear e;refine .en func369 ntmps369 fun St c cs hK=> ?_;refine U2 ?_;refine .bo fun b1=> ?_;refine U23 ?_;refine Tc.db (Tc.loopInv (σ:= { j:Nat//j≤k.nl∧firstA k.lineA j=0 }) (fun j=> ([(1,.pointer (some ⟨b1,0,none⟩)),(13,.slice A k.nl lc),(14,.int .i64 (k.nl:Nat)),(15,.int .i64 (j.1:Nat))],[(b1,true,.cells ⟨(k.val A lc B tc).cells.toList⟩ 166 (0,0))])) (fun j=> k.nl-j.1) ?_ ⟨0,Nat.zero_le _,rfl⟩);rintro⟨j,hj,hno⟩ ih;show Tc M St _ _ _ _ [(1,.pointer (some ⟨b1,0,none⟩)),(13,.slice A k.nl lc),(14,.int .i64 (k.nl:Nat)),(15,.int .i64 (j:Nat))] [(b1,true,.cells ⟨(k.val A lc B tc).cells.toList⟩ 166 (0,0))] _ _;by_cases c2:j=k.nl
   · subst c2;rw[hno] at hK;refine U11 ?_;refine .rt hK func369 results369 [_] ?_;exact okB
   · have c3 : j < k.nl:=by omega
     have hA':=hA;obtain⟨hlc,h0|⟨ab,ao,f,gs,gt,gz,rfl,hb,hl⟩⟩:=hA
     · omega
     obtain⟨F,fc,f1,_,hF⟩:=hl j c3;obtain⟨s1,s2⟩:=hs0 j c3;have hA2:RowsAt H (k.pre j) (some ⟨ab,ao,none⟩) lc:=hA'.pre hj;cases q0:isNm (k.name j) with
     | false=>
       have eA:k.lineA j=4:=by unfold Bk.lineA;simp only[q0];simp
       rw[firstA_at hno eA (by decide) c3] at hK;refine U14 ?_;refine .al fun b4=> ?_;refine U9 ?_;refine .x (OpV.sliceTo (E:=en) (k:=j) rfl rfl rfl rfl rfl rfl (by omega) (by omega)) ?_;refine U7 ?_;refine .c rfl rfl rfl rfl (fun H hs=> .h (isB (isName_c M H (k.name j)) q0)) ?_;refine U8 ?_;refine .rt hK func369 results369 [_] ?_;exact okB
     | true=>
       cases q1:k.again j with
       | true=>
         have eA:k.lineA j=5:=by unfold Bk.lineA;simp only[q0,q1];simp
         rw[firstA_at hno eA (by decide) c3] at hK;refine U14 ?_;refine .al fun b4=> ?_;refine U9 ?_;refine .x (OpV.sliceTo (E:=en) (k:=j) rfl rfl rfl rfl rfl rfl (by omega) (by omega)) ?_;refine U7 ?_;refine .c rfl rfl rfl rfl (fun H hs=> .h (isB (isName_c M H (k.name j)) q0)) ?_;refine U8 ?_;refine .c rfl rfl rfl rfl (fun H hs=> .h (isB (ContainsL_c M H (k.pre j) (some ⟨ab,ao,none⟩) lc (hA2.le hs.base) (by show j≤1000;omega) _ (fun i=> k.name i==k.name j) (fun i _ F fc H' hle=> FnT.of (first:= []) (captured:= [_]) ca372 rfl (same_c M H' (k.name j) b4 true _ (hle _ _ (hs.get (i:=0) rfl)) (k.name i) (k.num i) F (k.nf i) fc))) q1)) ?_;refine U7 ?_;refine .rt hK func369 results369 [_] ?_;exact okB
       | false =>
         cases q2:isNum (k.num j) with
         | false=>
           have eA:k.lineA j=3:=by unfold Bk.lineA;simp only[q0,q1,q2];simp
           rw[firstA_at hno eA (by decide) c3] at hK;refine U14 ?_;refine .al fun b4=> ?_;refine U9 ?_;refine .x (OpV.sliceTo (E:=en) (k:=j) rfl rfl rfl rfl rfl rfl (by omega) (by omega)) ?_;refine U7 ?_;refine .c rfl rfl rfl rfl (fun H hs=> .h (isB (isName_c M H (k.name j)) q0)) ?_;refine U8 ?_;refine .c rfl rfl rfl rfl (fun H hs=> .h (isB (ContainsL_c M H (k.pre j) (some ⟨ab,ao,none⟩) lc (hA2.le hs.base) (by show j≤1000;omega) _ (fun i=> k.name i==k.name j) (fun i _ F fc H' hle=> FnT.of (first:= []) (captured:= [_]) ca372 rfl (same_c M H' (k.name j) b4 true _ (hle _ _ (hs.get (i:=0) rfl)) (k.name i) (k.num i) F (k.nf i) fc))) q1)) ?_;refine U7 ?_;refine .c rfl rfl rfl rfl (fun H hs=> .h (isB (isNumber_c M H (k.num j) s1) q2)) ?_;refine U8 ?_;refine .rt hK func369 results369 [_] ?_;exact okB
         | true=>
           cases q3:(k.pre j).clash (k.num j) with
           | true=>
             have eA:k.lineA j=10:=by unfold Bk.lineA;simp only[q0,q1,q2,q3];simp
             rw[firstA_at hno eA (by decide) c3] at hK;refine U14 ?_;refine .al fun b4=> ?_;refine U9 ?_;refine .x (OpV.sliceTo (E:=en) (k:=j) rfl rfl rfl rfl rfl rfl (by omega) (by omega)) ?_;refine U7 ?_;refine .c rfl rfl rfl rfl (fun H hs=> .h (isB (isName_c M H (k.name j)) q0)) ?_;refine U8 ?_;refine .c rfl rfl rfl rfl (fun H hs=> .h (isB (ContainsL_c M H (k.pre j) (some ⟨ab,ao,none⟩) lc (hA2.le hs.base) (by show j≤1000;omega) _ (fun i=> k.name i==k.name j) (fun i _ F fc H' hle=> FnT.of (first:= []) (captured:= [_]) ca372 rfl (same_c M H' (k.name j) b4 true _ (hle _ _ (hs.get (i:=0) rfl)) (k.name i) (k.num i) F (k.nf i) fc))) q1)) ?_;refine U7 ?_;refine .c rfl rfl rfl rfl (fun H hs=> .h (isB (isNumber_c M H (k.num j) s1) q2)) ?_;refine U9 ?_;refine .c rfl rfl rfl rfl (fun H hs=> .h (isB (clashes_c M H (k.pre j) (some ⟨ab,ao,none⟩) lc (hA2.le hs.base) (by show j≤1000;omega) (k.num j)) q3)) ?_;refine U7 ?_;refine .rt hK func369 results369 [_] ?_;exact okB
           | false=>
             cases q4:decide (1≤((k.nf j:Nat):Int)∧((k.nf j:Nat):Int)≤4) with
             | false=>
               have eA:k.lineA j=2:=by unfold Bk.lineA;simp only[q0,q1,q2,q3,q4];simp
               rw[firstA_at hno eA (by decide) c3] at hK;refine U14 ?_;refine .al fun b4=> ?_;refine U9 ?_;refine .x (OpV.sliceTo (E:=en) (k:=j) rfl rfl rfl rfl rfl rfl (by omega) (by omega)) ?_;refine U7 ?_;refine .c rfl rfl rfl rfl (fun H hs=> .h (isB (isName_c M H (k.name j)) q0)) ?_;refine U8 ?_;refine .c rfl rfl rfl rfl (fun H hs=> .h (isB (ContainsL_c M H (k.pre j) (some ⟨ab,ao,none⟩) lc (hA2.le hs.base) (by show j≤1000;omega) _ (fun i=> k.name i==k.name j) (fun i _ F fc H' hle=> FnT.of (first:= []) (captured:= [_]) ca372 rfl (same_c M H' (k.name j) b4 true _ (hle _ _ (hs.get (i:=0) rfl)) (k.name i) (k.num i) F (k.nf i) fc))) q1)) ?_;refine U7 ?_;refine .c rfl rfl rfl rfl (fun H hs=> .h (isB (isNumber_c M H (k.num j) s1) q2)) ?_;refine U9 ?_;refine .c rfl rfl rfl rfl (fun H hs=> .h (isB (clashes_c M H (k.pre j) (some ⟨ab,ao,none⟩) lc (hA2.le hs.base) (by show j≤1000;omega) (k.num j)) q3)) ?_;refine U8 ?_;refine .c rfl rfl rfl rfl (fun H hs=> .h (between_is M H ((k.nf j:Nat):Int) 1 4 false q4)) ?_;refine U8 ?_;refine .rt hK func369 results369 [_] ?_;exact okB
             | true=>
               cases q5:k.freeBad j with
               | true=>
                 have eA:k.lineA j=1:=by unfold Bk.lineA;simp only[q0,q1,q2,q3,q4,q5];simp
                 rw[firstA_at hno eA (by decide) c3] at hK;refine U14 ?_;refine .al fun b4=> ?_;refine U9 ?_;refine .x (OpV.sliceTo (E:=en) (k:=j) rfl rfl rfl rfl rfl rfl (by omega) (by omega)) ?_;refine U7 ?_;refine .c rfl rfl rfl rfl (fun H hs=> .h (isB (isName_c M H (k.name j)) q0)) ?_;refine U8 ?_;refine .c rfl rfl rfl rfl (fun H hs=> .h (isB (ContainsL_c M H (k.pre j) (some ⟨ab,ao,none⟩) lc (hA2.le hs.base) (by show j≤1000;omega) _ (fun i=> k.name i==k.name j) (fun i _ F fc H' hle=> FnT.of (first:= []) (captured:= [_]) ca372 rfl (same_c M H' (k.name j) b4 true _ (hle _ _ (hs.get (i:=0) rfl)) (k.name i) (k.num i) F (k.nf i) fc))) q1)) ?_;refine U7 ?_;refine .c rfl rfl rfl rfl (fun H hs=> .h (isB (isNumber_c M H (k.num j) s1) q2)) ?_;refine U9 ?_;refine .c rfl rfl rfl rfl (fun H hs=> .h (isB (clashes_c M H (k.pre j) (some ⟨ab,ao,none⟩) lc (hA2.le hs.base) (by show j≤1000;omega) (k.num j)) q3)) ?_;refine U8 ?_;refine .c rfl rfl rfl rfl (fun H hs=> .h (between_is M H ((k.nf j:Nat):Int) 1 4 true q4)) ?_;refine U8 ?_;refine .c rfl rfl rfl rfl (fun H hs=> .h (isB (ContainsC_c M H F (k.nf j) fc (k.free j) (hF.le hs.base) s2) q5)) ?_;refine U7 ?_;refine .rt hK func369 results369 [_] ?_;exact okB
               | false=>
                 have eA:k.lineA j=0:=by unfold Bk.lineA;simp only[q0,q1,q2,q3,q4,q5];simp
                 refine U14 ?_;refine .al fun b4=> ?_;refine U9 ?_;refine .x (OpV.sliceTo (E:=en) (k:=j) rfl rfl rfl rfl rfl rfl (by omega) (by omega)) ?_;refine U7 ?_;refine .c rfl rfl rfl rfl (fun H hs=> .h (isB (isName_c M H (k.name j)) q0)) ?_;refine U8 ?_;refine .c rfl rfl rfl rfl (fun H hs=> .h (isB (ContainsL_c M H (k.pre j) (some ⟨ab,ao,none⟩) lc (hA2.le hs.base) (by show j≤1000;omega) _ (fun i=> k.name i==k.name j) (fun i _ F fc H' hle=> FnT.of (first:= []) (captured:= [_]) ca372 rfl (same_c M H' (k.name j) b4 true _ (hle _ _ (hs.get (i:=0) rfl)) (k.name i) (k.num i) F (k.nf i) fc))) q1)) ?_;refine U7 ?_;refine .c rfl rfl rfl rfl (fun H hs=> .h (isB (isNumber_c M H (k.num j) s1) q2)) ?_;refine U9 ?_;refine .c rfl rfl rfl rfl (fun H hs=> .h (isB (clashes_c M H (k.pre j) (some ⟨ab,ao,none⟩) lc (hA2.le hs.base) (by show j≤1000;omega) (k.num j)) q3)) ?_;refine U8 ?_;refine .c rfl rfl rfl rfl (fun H hs=> .h (between_is M H ((k.nf j:Nat):Int) 1 4 true q4)) ?_;refine U8 ?_;refine .c rfl rfl rfl rfl (fun H hs=> .h (isB (ContainsC_c M H F (k.nf j) fc (k.free j) (hF.le hs.base) s2) q5)) ?_;refine U10 ?_;exact Tc.db (ih ⟨j+1,by omega,by rw[firstA,if_pos hno];exact eA⟩ (by simp only;omega))
def chkF(i:Nat):Value:=.func (.func ([368,369,370][i]?.getD 0)) #[] #[]
def Glob(H:View):Prop:=(∃f gt gz,H 3=some (f,.cells ⟨[chkF 0,chkF 1,chkF 2]⟩ gt gz))∧∃f gt gz,H 1=some (f,.cells ⟨[.int .i64 0,.int .i64 2,.int .i64 1]⟩ gt gz)
def Bk.chk(k:Bk)(i:Nat):Int:= [k.pausesA,k.linesA,k.trainsA][i]?.getD 0
theorem glob_le {H H':View}(h:Glob H)(hl:H.le H'):Glob H':=⟨h.1.imp fun _ ⟨gt,gz,e⟩=> ⟨gt,gz,hl _ _ e⟩,h.2.imp fun _ ⟨gt,gz,e⟩=> ⟨gt,gz,hl _ _ e⟩⟩
theorem Bk.alarm_eq(k:Bk):k.alarm=firstA k.chk 3:=by
 unfold Bk.alarm;simp only[firstA,Bk.chk];by_cases h1:k.pausesA=0 <;> by_cases h2:k.linesA=0 <;> simp[h1,h2]
structure BkAt(H:View)(k:Bk)(A:Option Addr)(lc:Nat)(B:Option Addr)(tc:Nat):Prop where
 rows:RowsAt H k A lc
 trains:TrainsAt H k B tc
theorem BkAt.le {H H':View}{k:Bk}{A:Option Addr}{lc:Nat}{B:Option Addr}{tc:Nat}(h:BkAt H k A lc B tc)(hl:H.le H'):BkAt H' k A lc B tc:=⟨h.rows.le hl,h.trains.le hl⟩
structure Bk.small(k:Bk):Prop where
 nl:k.nl≤1000
 nt:k.nt≤1000
 num:∀i,i<k.nl→(k.num i).length≤1000000∧k.nf i≤1000
theorem chk_c(k:Bk)(A:Option Addr)(lc:Nat)(B:Option Addr)(tc:Nat)(hk:BkAt H k A lc B tc)(hn:k.small)(i:Nat)(hi:i<3):FnT M (chkF i) [k.val A lc B tc] H fun v H''=> H.le H''∧v=.int .i64 (k.chk i):=by
 match i,hi with
 | 0,_=> exact FnT.h (pauses_c M H k A lc B tc)
 | 1,_=> exact FnT.h (lines_c M H k A lc B tc hk.rows hn.nl hn.num)
 | 2,_=> exact FnT.h (trains_c M H k A lc B tc hk.trains hn.nt)
theorem CheckBook_c(k:Bk)(A:Option Addr)(lc:Nat)(B:Option Addr)(tc:Nat)(hk:BkAt H k A lc B tc)(hn:k.small)(hG:Glob H):
   CallT M 106 #[k.val A lc B tc] H (fun v H'=> H.le H'∧v=.int .i64 k.alarm):=by
 rw[k.alarm_eq];obtain⟨⟨f,gt,gz,hG⟩,_⟩:=hG;refine .en func106 ntmps106 fun St c cs hK=> ?_;refine U2 ?_;refine .bo fun b1=> ?_;refine U9 ?_;refine Tc.db (Tc.loopInv (σ:= { j:Nat//j≤3∧firstA k.chk j=0 }) (fun j=> ([(1,.pointer (some ⟨b1,0,none⟩)),(6,.agg ⟨[chkF 0,chkF 1,chkF 2]⟩),(7,.int .i64 (j.1:Nat))],[(b1,true,.cells ⟨(k.val A lc B tc).cells.toList⟩ 45 (0,0))])) (fun j=> 3-j.1) ?_ ⟨0,Nat.zero_le _,rfl⟩);rintro⟨j,hj,hno⟩ ih;show Tc M St _ _ _ _ [(1,.pointer (some ⟨b1,0,none⟩)),(6,.agg ⟨[chkF 0,chkF 1,chkF 2]⟩),(7,.int .i64 (j:Nat))] [(b1,true,.cells ⟨(k.val A lc B tc).cells.toList⟩ 45 (0,0))] _ _;by_cases c1:j=3
 · subst c1;rw[hno] at hK;refine U11 ?_;refine .rt hK func106 results106 [_] ?_;exact okB
 · have c2:j<3:=by omega
   have f1:ldL false 1 [chkF 0,chkF 1,chkF 2] (((j:Nat):Int).toNat*1)=some (chkF j):=by
     rcases(by omega:j=0∨j=1∨j=2) with rfl|rfl|rfl <;> rfl
   by_cases c3:k.chk j=0
   · have hc:=fun(H':View) (h':H.le H')=> chk_c M H' k A lc B tc (hk.le h') hn j c2;rw[c3] at hc;refine U11 ?_;refine .x (OpV.index (E:=en) rfl rfl rfl rfl rfl rfl (by omega) (by omega) (by assumption)) ?_;refine U7 ?_;refine .c rfl rfl rfl rfl (fun H hs=> hc H hs.base) ?_;refine U14 ?_;exact Tc.db (ih ⟨j+1,by omega,by rw[firstA,if_pos hno];exact c3⟩ (by simp only;omega))
   · rw[firstA_at hno rfl c3 c2] at hK;refine U11 ?_;refine .x (OpV.index (E:=en) rfl rfl rfl rfl rfl rfl (by omega) (by omega) (by assumption)) ?_;refine U7 ?_;refine .c rfl rfl rfl rfl (fun H hs=> chk_c M H k A lc B tc (hk.le hs.base) hn j c2) ?_;refine U13 ?_;refine .rt hK func106 results106 [_] ?_;exact okB
def bk0:Bk:=⟨0,0,0,fun _=> [],fun _=> [],fun _=> 0,fun _ _=> 0,0,fun _=> 0,fun _=> 0,fun _=> 0,fun _=> 0⟩
theorem open_alarm(k:Bk)(A:Option Addr)(lc:Nat)(B:Option Addr)(tc:Nat)(there:Bool)(hk:BkAt H k A lc B tc)(hn:k.small)(hG:Glob H)(ha:k.alarm≠0):
   CallT M 85 #[k.val A lc B tc,.bool there] H (fun v H'=> H.le H'∧v=.tuple ⟨[bk0.val none 0 none 0,.int .i64 k.alarm]⟩):=by
 refine .en func85 ntmps85 fun St c cs hK=> ?_;refine U2 ?_;refine .bo fun b2=> ?_;refine .al fun b4=> ?_;refine U6 ?_;refine .c rfl rfl rfl rfl (fun H hs=> .h (CheckBook_c M H k A lc B tc (hk.le hs.base) hn (glob_le hG hs.base))) ?_;refine U15 ?_;refine .rt hK func85 results85 [_,_] ?_;exact okB
theorem open_absent(k:Bk)(A:Option Addr)(lc:Nat)(B:Option Addr)(tc:Nat)(hk:BkAt H k A lc B tc)(hn:k.small)(hG:Glob H)(ha:k.alarm=0):
   CallT M 85 #[k.val A lc B tc,.bool false] H (fun v H'=> H.le H'∧v=.tuple ⟨[bk0.val none 0 none 0,.int .i64 6]⟩):=by
 have hc:=fun(H':View) (h':H.le H')=> CheckBook_c M H' k A lc B tc (hk.le h') hn (glob_le hG h');rw[ha] at hc;refine .en func85 ntmps85 fun St c cs hK=> ?_;refine U2 ?_;refine .bo fun b2=> ?_;refine .al fun b4=> ?_;refine U6 ?_;refine .c rfl rfl rfl rfl (fun H hs=> .h (hc H hs.base)) ?_;refine U22 ?_;refine .rt hK func85 results85 [_,_] ?_;exact okB
theorem open_yes(k:Bk)(A:Option Addr)(lc:Nat)(B:Option Addr)(tc:Nat)(hk:BkAt H k A lc B tc)(hn:k.small)(hG:Glob H)(ha:k.alarm=0):
   CallT M 85 #[k.val A lc B tc,.bool true] H (fun v H'=> H.le H'∧v=.tuple ⟨[k.val A lc B tc,.int .i64 0]⟩):=by
 have hc:=fun(H':View) (h':H.le H')=> CheckBook_c M H' k A lc B tc (hk.le h') hn (glob_le hG h');rw[ha] at hc;refine .en func85 ntmps85 fun St c cs hK=> ?_;refine U2 ?_;refine .bo fun b2=> ?_;refine .al fun b4=> ?_;refine U6 ?_;refine .c rfl rfl rfl rfl (fun H hs=> .h (hc H hs.base)) ?_;refine U24 ?_;refine .rt hK func85 results85 [_,_] ?_;exact okB
end
set_option maxHeartbeats 4000000
def upN(a b:Nat):List Nat:=List.range' a (b+1-a)
theorem upN_nil {a b:Nat}(h:b<a):upN a b= []:=by unfold upN;rw[show b+1-a=0 by omega];rfl
theorem upN_cons {a b:Nat}(h:a≤b):upN a b=a::upN (a+1) b:=by
 unfold upN;rw[show b+1-a=(b+1-(a+1))+1 by omega];rfl
theorem mem_upN {a b x:Nat}:x∈upN a b↔a≤x∧x≤b:=by
 unfold upN;rw[List.mem_range'_1];omega
def canL(a b lo hi:Nat):List (Nat×Nat):=(upN a b).flatMap fun n=> (upN lo hi).map fun d=> (n,d)
def canFrom(n b lo hi d:Nat):List (Nat×Nat):=(upN d hi).map (fun d=> (n,d))++canL (n+1) b lo hi
theorem canL_nil {a b lo hi:Nat}(h:b<a):canL a b lo hi= []:=by unfold canL;rw[upN_nil h];rfl
theorem canL_cons {a b lo hi:Nat}(h:a≤b):canL a b lo hi=canFrom a b lo hi lo:=by unfold canL canFrom;rw[upN_cons h,List.flatMap_cons];rfl
theorem canFrom_cons {n b lo hi d:Nat}(h:d≤hi):canFrom n b lo hi d=(n,d)::canFrom n b lo hi (d+1):=by unfold canFrom;rw[upN_cons h];rfl
theorem canFrom_nil {n b lo hi d:Nat}(h:hi<d):canFrom n b lo hi d=canL (n+1) b lo hi:=by unfold canFrom;rw[upN_nil h];rfl
theorem mem_canL {a b lo hi:Nat}{x:Nat×Nat}:x∈canL a b lo hi↔(a≤x.1∧x.1≤b)∧(lo≤x.2∧x.2≤hi):=by
 unfold canL;simp only[List.mem_flatMap,List.mem_map,mem_upN];constructor
 · rintro⟨n,h1,d,h2,rfl⟩;exact⟨h1,h2⟩
 · rintro⟨h1,h2⟩;exact⟨x.1,h1,x.2,h2,rfl⟩
def canF(b5 b2:Nat):Value:=.func (.func 255) #[] #[.pointer (some ⟨b5,0,none⟩),.pointer (some ⟨b2,0,none⟩)]
structure CapC(v w:Value)(b5 b2:Nat)(H:View):Prop where
 a:∃f,H b5=some (f,.cells ⟨v.cells.toList⟩ 39 (0,0))
 b:∃f,H b2=some (f,.cells ⟨w.cells.toList⟩ 166 (0,0))
theorem CapC.le {v w:Value}{b5 b2:Nat}(H H':View)(h:H.le H')(c:CapC v w b5 b2 H):CapC v w b5 b2 H':=
 ⟨c.a.imp fun _ e=> h _ _ e,c.b.imp fun _ e=> h _ _ e⟩
def Bk.can(k:Bk)(i:Nat):List (Nat×Nat):=canL (k.pf i).toNat (k.pt i).toNat (k.kind (k.qf i)) (k.kind (k.qt i))
section
variable(M:Md prog)(H:View)
theorem can_c(k:Bk)(A:Option Addr)(lc:Nat)(B:Option Addr)(tc:Nat)(hB:TrainsAt H k B tc)(i:Nat)(hi:i<k.nt):
   CallT M 195 #[k.val A lc B tc,.int .i64 (i:Nat)] H (fun v H'=> H.le H'∧∃b5 b2,v=canF b5 b2∧CapC (trainV (k.pf i) (k.pt i) (k.qf i) (k.qt i)) (k.val A lc B tc) b5 b2 H'):=by
 obtain⟨_,h0|⟨tb,to,f,gs,gt,gz,rfl,hb,ht⟩⟩:=hB
 · omega
 have f1:=ht i hi;refine .en func195 ntmps195 fun St c cs hK=> ?_;refine U2 ?_;refine .bo fun b2=> ?_;refine U10 ?_;refine .al fun b5=> ?_;refine U7 ?_;refine .rt hK func195 results195 [_] ?_;exact fun H' hs=> ⟨hs.base,b5,b2,rfl,⟨true,hs.get (i:=0) rfl⟩,⟨true,hs.get (i:=1) rfl⟩⟩
theorem can_it(k:Bk)(A:Option Addr)(lc:Nat)(B:Option Addr)(tc:Nat)(i:Nat)(a b lo hi:Nat)(ha:k.pf i=(a:Nat))(hb:k.pt i=(b:Nat))(hb1:b≤1000)(hlo:k.kind (k.qf i)=lo)(hhi:k.kind (k.qt i)=hi)(hhi2:hi≤2)(b5 b2:Nat)
   (hC:CapC (trainV (k.pf i) (k.pt i) (k.qf i) (k.qt i)) (k.val A lc B tc) b5 b2 H):
   IterT M (canF b5 b2) (canL a b lo hi) (fun x (_:Unit)=> [.int .i64 (x.1:Nat),.int .i64 (x.2:Nat)]) (fun _ _=> []) (fun _ _=> []) (CapC (trainV (k.pf i) (k.pt i) (k.qf i) (k.qt i)) (k.val A lc B tc) b5 b2) [] H:=fun l J D hcap h0 hy H₀ hs₀=> by
 have hk1:=fun(H':View)=> kind_c M H' k A lc B tc (k.qf i);have hk2:=fun(H':View)=> kind_c M H' k A lc B tc (k.qt i);rw[hlo] at hk1;rw[hhi] at hk2;rw[ha,hb] at hC hcap;refine FnT.of (first:= []) (captured:= [_,_]) ca255 rfl ?_;obtain⟨⟨fa,h5⟩,⟨fb,h2⟩⟩:=hC;refine CallT.enter (vs:= [.func (.yield l) #[] #[],.pointer (some ⟨b5,0,none⟩),.pointer (some ⟨b2,0,none⟩)]) func255 rfl ntmps255 (Nat.le_of_ble_eq_true rfl) (hs₀) fun St c cs hK=> ?_;refine U8 ?_;refine Tc.db (Tc.loopB (σ:= { s:Nat×View//a≤s.1∧J (canL s.1 b lo hi) s.2 })
   (fun s=> (s.1.2,[(0,.func (.yield l) #[] #[]),(1,.pointer (some ⟨b5,0,none⟩)),(2,.pointer (some ⟨b2,0,none⟩)),(4,.int .i64 (s.1.1:Nat))],[])) (fun s=> b+1-s.1.1) ?_ ⟨(a,H),Nat.le_refl _,h0⟩)
 rintro⟨⟨n,H₁⟩,g1,j1⟩ ih₁;simp only at g1 j1;show Tc M St _ _ H₁ _ [(0,.func (.yield l) #[] #[]),(1,.pointer (some ⟨b5,0,none⟩)),(2,.pointer (some ⟨b2,0,none⟩)),(4,.int .i64 (n:Nat))] [] _ _;obtain⟨⟨fa,h5⟩,⟨fb,h2⟩⟩:=hcap _ _ j1;by_cases c1:n≤b
 · rw[canL_cons c1] at j1;refine U19 ?_;refine .c rfl rfl rfl rfl (fun H hs=> .h (hk1 H)) ?_;refine U3 ?_;refine Tc.db (Tc.loopB (σ:= { s:Nat×View//lo≤s.1∧J (canFrom n b lo hi s.1) s.2 })
     (fun s=> (s.1.2,[(0,.func (.yield l) #[] #[]),(1,.pointer (some ⟨b5,0,none⟩)),(2,.pointer (some ⟨b2,0,none⟩)),(4,.int .i64 (n:Nat)),(5,.int .i64 (s.1.1:Nat))],[])) (fun s=> hi+1-s.1.1) ?_ ⟨(lo,H₁),Nat.le_refl _,j1⟩)
   rintro⟨⟨d,H₂⟩,g2,j2⟩ ih₂;simp only at g2 j2;show Tc M St _ _ H₂ _ [(0,.func (.yield l) #[] #[]),(1,.pointer (some ⟨b5,0,none⟩)),(2,.pointer (some ⟨b2,0,none⟩)),(4,.int .i64 (n:Nat)),(5,.int .i64 (d:Nat))] [] _ _;obtain⟨⟨fc,h6⟩,⟨fd,h7⟩⟩:=hcap _ _ j2;by_cases c2:d≤hi
   · rw[canFrom_cons c2] at j2;have hmem:(n,d)∈canL a b lo hi:=mem_canL.2 ⟨⟨g1,c1⟩,g2,c2⟩;refine U8 ?_;refine .c rfl rfl rfl rfl (fun H hs=> .h (hk2 H)) ?_;refine U11 ?_;refine To.callF rfl rfl rfl rfl rfl rfl (by decide) (hy (n,d) (canFrom n b lo hi (d+1)) () H₂ H₂ hmem j2 (SymSt.nil H₂)) (fun v H₃ hv=> ?_);rcases hv with ⟨rfl,H4,h8,j3⟩|⟨rfl,hD⟩
     · refine To.lower h8.base ?_;refine U10 ?_;exact Tc.db (ih₂ ⟨(d+1,H4),by simp only;omega,j3⟩ (by simp only;omega))
     · refine U3 ?_;refine .rt hK func255 results255 [] ?_;exact fun H' hs=> ⟨H₃,hs.base,.inr hD⟩
   · have c3:hi<d:=by omega
     rw[canFrom_nil c3] at j2;refine U8 ?_;refine .c rfl rfl rfl rfl (fun H hs=> .h (hk2 H)) ?_;refine U10 ?_;exact Tc.db (ih₁ ⟨(n+1,H₂),by simp only;omega,j2⟩ (by simp only;omega))
 · have c2:b<n:=by omega
   rw[canL_nil c2] at j1;refine U11 ?_;refine .ov hK func255 results255 [] ?_;exact fun H' hs=> ⟨H₁,hs.base,.inl j1⟩
end
end Go.Proofs.YtldmfjcgjdchcaaGreatDoor
namespace Go.RL
open Go.Conc
structure MapOk(es:Array MapEntry)(cl:Nat)(F:Value→Value→Prop):Prop where
 keys:(es.toList.map (·.key)).Nodup
 borns:(es.toList.map (·.born)).Nodup
 lt:∀e∈es.toList,e.born<cl
 mem:∀k v,F k v↔∃e∈es.toList,e.key=k∧e.val=v
theorem MapOk.nil:MapOk #[] 0 fun _ _=> False:=⟨by simp,by simp,by simp,by simp⟩
theorem MapOk.congr {es:Array MapEntry}{cl:Nat}{F F':Value→Value→Prop}(h:MapOk es cl F)(k:∀a b,F' a b↔F a b):MapOk es cl F':=⟨h.keys,h.borns,h.lt,fun a b=> (k a b).trans (h.mem a b)⟩
theorem MapOk.find {es:Array MapEntry}{cl:Nat}{F:Value→Value→Prop}(h:MapOk es cl F){k:Value}{r:Option (Nat×Value)}(hr:FindOk es.toList k r):match r with
   | some (_,v)=> F k v
   | none=> ∀v,¬F k v:=by
 cases r with
 | none=>
   intro v hv;obtain⟨e,he,h1,_⟩:=(h.mem k v).1 hv;exact hr e he h1
 | some p=>
   obtain⟨i,v⟩:=p;obtain⟨e,h1,h2,h3⟩:=hr;exact(h.mem k v).2 ⟨e,List.mem_of_getElem? h1,h2,h3⟩
theorem MapOk.put {es:Array MapEntry}{cl:Nat}{F:Value→Value→Prop}(h:MapOk es cl F){k:Value}(v:Value){r:Option (Nat×Value)}(hr:FindOk es.toList k r):
   ∃es' cl',mapPut es cl k v r=.map es' cl'∧MapOk es' cl' fun k' v'=> (k'=k∧v'=v)∨(k'≠k∧F k' v'):=by
 cases r with
 | none=>
   refine⟨_,_,rfl,?_,?_,?_,?_⟩
   · simp only[Array.toList_push,List.map_append,List.map_cons,List.map_nil];rw[List.nodup_append];refine⟨h.keys,by simp,fun a ha b hb=> ?_⟩;simp only[List.mem_singleton] at hb;subst hb;obtain⟨e,he,rfl⟩:=List.mem_map.1 ha;exact hr e he
   · simp only[Array.toList_push,List.map_append,List.map_cons,List.map_nil];rw[List.nodup_append];refine⟨h.borns,by simp,fun a ha b hb=> ?_⟩;simp only[List.mem_singleton] at hb;subst hb;obtain⟨e,he,rfl⟩:=List.mem_map.1 ha;have:=h.lt e he;omega
   · intro e he;simp only[Array.toList_push,List.mem_append,List.mem_singleton] at he;rcases he with he|rfl
     · have:=h.lt e he;omega
     · simp
   · intro k' v';simp only[Array.toList_push,List.mem_append,List.mem_singleton];constructor
     · rintro(⟨rfl,rfl⟩|⟨_,hf⟩)
       · exact⟨_,.inr rfl,rfl,rfl⟩
       · obtain⟨e,he,h1,h2⟩:=(h.mem k' v').1 hf;exact⟨e,.inl he,h1,h2⟩
     · rintro⟨e,he|rfl,h1,h2⟩
       · exact .inr ⟨fun e'=> hr e he (h1.trans e'),(h.mem k' v').2 ⟨e,he,h1,h2⟩⟩
       · exact .inl ⟨h1.symm,h2.symm⟩
 | some p=>
   obtain⟨i,u⟩:=p;obtain⟨e,h1,h2,h3⟩:=hr;have hi:=(List.getElem?_eq_some_iff.1 h1).1;have he:es.toList[i]=e:=(List.getElem?_eq_some_iff.1 h1).2;have hes:es.toList=es.toList.take i++e::es.toList.drop (i+1):=by
     rw[←he,←List.drop_eq_getElem_cons hi,List.take_append_drop]
   have hml:(es.modify i fun e=> { e with key:=k,val:=v }).toList=es.toList.take i++{ e with key:=k,val:=v }::es.toList.drop (i+1):=by
     rw[Array.toList_modify,List.modify_eq_take_cons_drop hi,he]
   have hk:=h.keys;rw[hes,List.map_append,List.map_cons] at hk;refine⟨_,_,rfl,?_,?_,?_,?_⟩
   · rw[hml,List.map_append,List.map_cons];rw[h2] at hk;exact hk
   · have hb:=h.borns;rw[hes,List.map_append,List.map_cons] at hb;rw[hml,List.map_append,List.map_cons];exact hb
   · intro x hx;rw[hml] at hx;rcases List.mem_append.1 hx with hx|hx
     · exact h.lt x (by rw[hes];exact List.mem_append_left _ hx)
     · rcases List.mem_cons.1 hx with rfl|hx
       · exact h.lt e (by rw[hes];simp)
       · exact h.lt x (by rw[hes];exact List.mem_append_right _ (List.mem_cons_of_mem _ hx))
   · intro k' v';rw[hml];rw[List.nodup_append,List.nodup_cons] at hk;obtain⟨_,⟨hk1,_⟩,hk2⟩:=hk;constructor
     · rintro(⟨rfl,rfl⟩|⟨hne,hf⟩)
       · exact⟨_,List.mem_append_right _ (List.mem_cons_self ..),rfl,rfl⟩
       · obtain⟨x,hx,g1,g2⟩:=(h.mem k' v').1 hf;rw[hes] at hx;rcases List.mem_append.1 hx with hx|hx
         · exact⟨x,List.mem_append_left _ hx,g1,g2⟩
         · rcases List.mem_cons.1 hx with rfl|hx
           · exact absurd (g1.symm.trans h2) hne
           · exact⟨x,List.mem_append_right _ (List.mem_cons_of_mem _ hx),g1,g2⟩
     · rintro⟨x,hx,g1,g2⟩;rcases List.mem_append.1 hx with hx|hx
       · refine .inr ⟨fun e'=> hk2 _ (List.mem_map_of_mem hx) _ (List.mem_cons_self ..) (g1.trans (e'.trans h2.symm)),(h.mem k' v').2 ⟨x,by rw[hes];exact List.mem_append_left _ hx,g1,g2⟩⟩
       · rcases List.mem_cons.1 hx with rfl|hx
         · exact .inl ⟨g1.symm,g2.symm⟩
         · refine .inr ⟨fun e'=> hk1 ?_,(h.mem k' v').2 ⟨x,by rw[hes];exact List.mem_append_right _ (List.mem_cons_of_mem _ hx),g1,g2⟩⟩;have:=List.mem_map_of_mem (f:=(·.key)) hx;rw[g1,e',←h2] at this;exact this
def unseen(es:Array MapEntry)(seen:Array Nat):List MapEntry:=es.toList.filter fun e=> !seen.contains e.born
theorem unseen_start(es:Array MapEntry):unseen es #[]=es.toList:=by simp[unseen]
theorem unseen_done {es:Array MapEntry}{seen:Array Nat}(h:∀e∈es.toList,seen.contains e.born=true):unseen es seen= []:=by
 unfold unseen;rw[List.filter_eq_nil_iff];intro e he;rw[h e he];simp
theorem unseen_next {es:Array MapEntry}{seen:Array Nat}{e:MapEntry}(hn:(es.toList.map (·.born)).Nodup)(he:e∈es.toList)(hs:seen.contains e.born=false):(unseen es seen).Perm (e::unseen es (seen.push e.born)):=by
 have hme:e∈unseen es seen:=by
   unfold unseen;rw[List.mem_filter];exact⟨he,by rw[hs];rfl⟩
 obtain⟨A,B,hAB⟩:=List.append_of_mem he;have hb:=hn;rw[hAB,List.map_append,List.map_cons,List.nodup_append,List.nodup_cons] at hb;obtain⟨_,⟨h1,_⟩,h2⟩:=hb;have other:∀x:MapEntry,x.born≠e.born→(!(seen.push e.born).contains x.born)=!seen.contains x.born:=fun x hx=> by
   rw[Array.contains_push];have:(x.born==e.born)=false:=by simpa using hx
   simp[this]
 have hA:A.filter (fun x=> !(seen.push e.born).contains x.born)=A.filter fun x=> !seen.contains x.born:=List.filter_congr fun x hx=> other x fun e'=> h2 _ (List.mem_map_of_mem hx) _ (List.mem_cons_self ..) e';have hB:B.filter (fun x=> !(seen.push e.born).contains x.born)=B.filter fun x=> !seen.contains x.born:=List.filter_congr fun x hx=> other x fun e'=> h1 (by
   have:=List.mem_map_of_mem (f:=(·.born)) hx;rw[e'] at this;exact this)
 unfold unseen;rw[hAB,List.filter_append,List.filter_append,List.filter_cons_of_pos (by rw[hs];rfl),List.filter_cons_of_neg (by simp),hA,hB];exact List.perm_middle
end Go.RL
namespace Go.Proofs.YtldmfjcgjdchcaaGreatDoor
open Go.RL Go.Proofs.Tryz
set_option maxRecDepth 10000
theorem ear_flat(s:List UInt8)(m:Int)(d:Bool):flat en 2 170 [strV s,.int .i64 m,.bool d]:=by
 refine⟨rfl,?_⟩;intro f hf;simp only[List.mem_cons,List.not_mem_nil,or_false] at hf;rcases hf with rfl|rfl|rfl
 · exact⟨⟨_,rfl⟩,_,rfl,rfl,Nat.le_of_ble_eq_true rfl⟩
 · exact⟨⟨_,rfl⟩,_,rfl,rfl,Nat.le_of_ble_eq_true rfl⟩
 · exact⟨⟨_,rfl⟩,_,rfl,rfl,Nat.le_of_ble_eq_true rfl⟩
theorem ear_key(e:Ear):KeyFl en 2 170 e.val:=⟨_,[strV e.heard,.int .i64 (e.pend:Nat),.bool e.deaf],rfl,rfl,ear_flat _ _ _⟩
theorem ear_inj {e e':Ear}(h:e.val=e'.val):e=e':=by
 obtain⟨s,m,d⟩:=e;obtain⟨s',m',d'⟩:=e';unfold Ear.val earV at h;simp only[Value.agg.injEq,Array.mk.injEq,List.cons.injEq,Value.string.injEq,ByteArray.mk.injEq,Value.int.injEq,Value.bool.injEq,and_true,true_and] at h;obtain⟨h1,h2,h3⟩:=h;subst h1;subst h3;simp only[Ear.mk.injEq,and_true,true_and];omega
def Bk.earsS(k:Bk):Nat→Ear→Prop
 | 0,e=> e=⟨[],0,false⟩
 | i+1,e=> ∃e0,k.earsS i e0∧∃x∈k.can i,e=e0.hear x.1 x.2
def earF(S:Ear→Prop)(kv v:Value):Prop:=∃e,S e∧kv=e.val∧v=.bool true
def Bk.trainsOk(k:Bk):Prop:=∀i,i<k.nt→trainOk (k.pf i) (k.pt i) (k.qf i) (k.qt i)=true
theorem Bk.train_in {k:Bk}(h:k.trainsOk){i:Nat}(hi:i<k.nt):(1≤k.pf i∧k.pf i≤k.pt i∧k.pt i≤12)∧k.pt i-k.pf i<4∧(0≤k.qf i∧k.qf i≤k.qt i∧k.qt i≤99):=by
 have:=h i hi;unfold trainOk at this;simp only[Bool.and_eq_true,decide_eq_true_eq] at this;exact⟨this.1.1,this.1.2,this.2⟩
theorem Bk.kind_le(k:Bk)(p:Int):k.kind p≤2:=by
 unfold Bk.kind;split
 · omega
 · split <;> omega
theorem Bk.can_in {k:Bk}(h:k.trainsOk){i:Nat}(hi:i<k.nt){x:Nat×Nat}(hx:x∈k.can i):x.1≤12∧x.2≤2:=by
 have h1:=k.train_in h hi;have h2:=mem_canL.1 hx;have h3:=k.kind_le (k.qt i);omega
theorem Ear.hear_bd {e:Ear}{p kd a b:Nat}(h1:e.heard.length≤a)(h2:e.pend≤b)(h3:p≤12):(e.hear p kd).heard.length≤a+1∧(e.hear p kd).pend≤b+12:=by
 unfold Ear.hear;split
 · omega
 · split
   · simp only;omega
   · split
     · simp only;omega
     · simp only[List.length_append,List.length_cons,List.length_nil];omega
theorem Bk.ears_bd {k:Bk}(h:k.trainsOk):∀ {i:Nat} {e:Ear},i≤k.nt→k.earsS i e→e.heard.length≤i∧e.pend≤12*i
 | 0,e,_,he=> by
   have:e=⟨[],0,false⟩:=he;subst this;exact⟨Nat.le_refl _,Nat.le_refl _⟩
 | i+1,e,hi,⟨e0,h0,x,hx,he⟩=> by
   have h1:=Bk.ears_bd h (i:=i) (by omega) h0;have h2:=Bk.can_in h (i:=i) (by omega) hx;subst he;have:=Ear.hear_bd (kd:=x.2) h1.1 h1.2 h2.1;omega
theorem earF_one(e:Ear){S:Ear→Prop}(hS:∀x,S x↔x=e)(kv v:Value):earF S kv v↔(kv=e.val∧v=.bool true)∨(kv≠e.val∧False):=by
 constructor
 · rintro⟨x,h1,h2,h3⟩;rw[(hS x).1 h1] at h2;exact .inl ⟨h2,h3⟩
 · rintro(⟨h1,h2⟩|⟨_,h⟩)
   · exact⟨e,(hS e).2 rfl,h1,h2⟩
   · exact h.elim
theorem earF_put(e:Ear)(S:Ear→Prop)(kv v:Value):earF (fun x=> x=e∨S x) kv v↔(kv=e.val∧v=.bool true)∨(kv≠e.val∧earF S kv v):=by
 constructor
 · rintro⟨x,h1,h2,h3⟩;by_cases hx:x=e
   · subst hx;exact .inl ⟨h2,h3⟩
   · exact .inr ⟨fun h=> hx (ear_inj (h2.symm.trans h)),x,h1.resolve_left hx,h2,h3⟩
 · rintro(⟨h1,h2⟩|⟨_,x,h1,h2,h3⟩)
   · exact⟨e,.inl rfl,h1,h2⟩
   · exact⟨x,.inr h1,h2,h3⟩
theorem earF_keys {es:Array MapEntry}{cl:Nat}{S:Ear→Prop}(h:MapOk es cl (earF S)):∀e∈es.toList,∃x,S x∧e.key=x.val∧e.val=.bool true:=fun e he=>
 (h.mem e.key e.val).2 ⟨e,he,rfl,rfl⟩
theorem earF_flat {es:Array MapEntry}{cl:Nat}{S:Ear→Prop}(h:MapOk es cl (earF S)):∀e∈es.toList,KeyFl en 2 170 e.key:=fun e he=> by
 obtain⟨x,_,h2,_⟩:=earF_keys h e he;rw[h2];exact ear_key x
theorem earF_find {es:Array MapEntry}{cl:Nat}{S:Ear→Prop}(h:MapOk es cl (earF S)){e:MapEntry}(he:e∈es.toList):es.find? (fun x=> x.born==e.born)=some e:=by
 rw[←Array.find?_toList];cases hf:es.toList.find? (fun x=> x.born==e.born) with
 | none=> have:=List.find?_eq_none.1 hf e he;simp at this
 | some e'=>
   have h3:=List.mem_of_find?_eq_some hf;have h4:=List.find?_some hf;simp only[beq_iff_eq] at h4;obtain⟨i,hi,rfl⟩:=List.mem_iff_getElem.1 h3;obtain⟨j,hj,rfl⟩:=List.mem_iff_getElem.1 he;have hb:=h.borns;have hi':i<(es.toList.map (·.born)).length:=by rw[List.length_map];exact hi
   have hj':j<(es.toList.map (·.born)).length:=by rw[List.length_map];exact hj
   have:(es.toList.map (·.born))[i]=(es.toList.map (·.born))[j]:=by rw[List.getElem_map,List.getElem_map];exact h4
   have:=(List.getElem_inj hb).1 this;subst this;rfl
end Go.Proofs.YtldmfjcgjdchcaaGreatDoor
namespace Go.RL
open Go.Conc
def Mk(rs:List Nat):Bl:=rs.map fun r=> (r,true,.deferred (some []))
def marks(rs:List Nat):List Deferred:=rs.map markOf
section
variable {P:Program}{E:Env P}{M:Md P}{St:View→Goroutine→Prop}{n:Nat}{b:FB}{H₀:View}{cs:List Frame}{R:Rg}{L L₁:Bl}{ds:List Deferred}{k:List Item}
theorem Tc.permL(p:L₁.Perm L)(h:Tc M St n b H₀ cs R L₁ ds k):Tc M St n b H₀ cs R L ds k:=fun H tmps hs hr=> h H tmps (hs.perm p) hr
theorem Tc.marked {r:Nat}{rs:List Nat}(h:Tc M St n b H₀ cs R (L++Mk (r::rs)) (marks (r::rs)) k):Tc M St n b H₀ cs R ((r,true,.deferred (some []))::(L++Mk rs)) (markOf r::marks rs) k:=
 Tc.permL (L₁:=L++Mk (r::rs)) (List.perm_middle (l₁:=L) (l₂:=Mk rs)) h
theorem Tc.loopBD {σ:Type}(I:σ→View×Rg×Bl×List Deferred)(μ:σ→Nat){body:Code}
   (step:∀s,(∀s',μ s'<μ s→Tc M St n b (I s').1 cs (I s').2.1 (I s').2.2.1 (I s').2.2.2 (.inLoop body::k))→Tc M St n b (I s).1 cs (I s).2.1 (I s).2.2.1 (I s).2.2.2 (.code body:: .inLoop body::k)) (s₀:σ):
   Tc M St n b (I s₀).1 cs (I s₀).2.1 (I s₀).2.2.1 (I s₀).2.2.2 (.code (.loop body)::k):=by
 have key:∀(m:Nat) (s:σ),μ s≤m→Tc M St n b (I s).1 cs (I s).2.1 (I s).2.2.1 (I s).2.2.2 (.code body:: .inLoop body::k):=by
   intro m;induction m with
   | zero=> exact fun s hs=> step s fun s' hlt=> by omega
   | succ m ih=> exact fun s hs=> step s fun s' hlt=> .inLoop (ih s' (by omega))
 exact .loop (key _ s₀ (Nat.le_refl _))
theorem marks_back {fn:Func}{c:Frame}{Q:Value→View→Prop}{f:FuncId}{rv:List ResultVar}{vs:List Value}{todo:List Item}{tmps:Array Value}(hK:∀v H',Q v H'→T M St H' (G (c.finish v) cs))(hf:P.funcs[f]? =some fn)(hrs:fn.results=rv.toArray)
   (ho:ResOk E R L rv vs) (hr:RegOk n R tmps) (h:∀H',SymSt H₀ L H'→Q (packV vs) H'):∀(rs:List Nat) (H:View),SymSt H₀ (L++Mk rs) H→T M St H (G ((⟨f,.normal,none⟩:FB).back tmps (marks rs) todo) (c::cs))
 | [],H,hs=> by
   have hs':SymSt H₀ L H:=by
     have:=hs;unfold Mk at this
     rwa [List.map_nil,List.append_nil] at this
   exact .leave hf rfl (vwp_mono _ hK (vwp_results hs' hr hrs ho (h _ hs')))
 | r ::rs,H,hs=> by
   have hi:(L++Mk (r::rs))[L.length]? =some (r,true,.deferred (some [])):=by
     rw[List.getElem?_append_right (Nat.le_refl _),Nat.sub_self];rfl
   have hd:=hs.get hi;refine .collect ?_;refine⟨true,_,hd,by simp,rfl,?_⟩;refine⟨⟨_,hd,by simp⟩,rfl,?_⟩;have hs':=hs.set hi (true,.deferred none);refine marks_back hK hf hrs ho hr h rs _ (hs'.less ?_);rw[List.set_append_right _ _ (Nat.le_refl _),Nat.sub_self];exact List.Sublist.append (List.Sublist.refl _) (List.sublist_cons_self _ _)
theorem Tc.retDs {rs:List Nat}{fn:Func}{c:Frame}{Q:Value→View→Prop}{f:FuncId}{rv:List ResultVar}{vs:List Value}(hK:∀v H',Q v H'→T M St H' (G (c.finish v) cs))(hf:P.funcs[f]? =some fn)(hrs:fn.results=rv.toArray)
   (ho:ResOk E R L rv vs) (h:∀H',SymSt H₀ L H'→Q (packV vs) H'):Tc M St n ⟨f,.normal,none⟩ H₀ (c::cs) R (L++Mk rs) (marks rs) (.code .ret::k):=
 fun H _ hs hr=> .retCode rfl (marks_back hK hf hrs ho hr h rs H hs)
end
section
variable {P:Program}{M:Md P}{St:View→Goroutine→Prop}{n:Nat}{b:FB}{H₀:View}{cs:List Frame}{R:Rg}{L:Bl}{ds:List Deferred}{k:List Item}{ops:Array Oper}
theorem Tc.drT {id:Nat}{fuel:Nat}(B C E:List Nat)(m:Nat)(hm:P.follows .mixedOrders=true)(hf:ops.size=fuel)(h:Ta M St n b H₀ cs (S3 H₀ B C (eraseL (L.take m) E) L) .any ops fuel (Array.replicate fuel false) R L ds k):
   Tc M St n b H₀ cs R L ds (.code (.region id ops true)::k):=fun H tmps hs hr=> by
 subst hf;refine .region_draw fun t=> ?_;simp only[Region.schedule,hm,Bool.true_or,if_true];have hS:=S3.mk (H₀:=H₀) (B:=B) (C:=C) (listed:=Array.replicate ops.size false) ((eraseL_sub E (L.take m)).trans (List.take_sublist m L)) (.inr (List.Sublist.refl L)) H hs;exact(h H tmps hs hr hS).sound _ t _ _ _ hS
end
end Go.RL
namespace Go.Proofs.YtldmfjcgjdchcaaGreatDoor
open Go.RL Go.Proofs.Tryz
set_option maxRecDepth 10000
set_option maxHeartbeats 16000000
section
variable(M:Md prog)(H:View)
theorem ears_c (k:Bk)(A:Option Addr)(lc:Nat)(B:Option Addr)(tc:Nat)(hB:TrainsAt H k B tc)(ht:k.trainsOk)(h6:k.nt≤6)(n:Nat)(hn:n≤k.nt):
   CallT M 119 #[k.val A lc B tc,.int .i64 (n:Nat)] H (fun v H'=> H.le H'∧∃m es cl,v=.map (some m)∧(∃f,H' m=some (f,.map es cl))∧MapOk es cl (earF (k.earsS n))):=by
 refine .en func119 ntmps119 fun St c cs hK=> ?_;refine U2 ?_;refine .bo fun b2=> ?_;refine U4 ?_;refine .e (Or.makeMap rfl rfl (by decide) (fun m0=> ?_));refine U ?_;refine .e (Or.insert (E:=en) 0 2 rfl rfl rfl rfl rfl rfl rfl (by decide) (ear_key ⟨[],0,false⟩) (by simp) rfl (fun r hr=> ?_));obtain⟨es1,cl1,e1,hm1⟩:=MapOk.nil.put (.bool true) hr;rw[e1];refine U3 ?_;have hm1':MapOk es1 cl1 (earF (k.earsS 0)):=hm1.congr (earF_one ⟨[],0,false⟩ (fun x=> Iff.rfl));refine Tc.permL (L₁:= [(b2,true,.cells ⟨(k.val A lc B tc).cells.toList⟩ 166 (0,0)),(m0,true,.map es1 cl1)]) (List.Perm.swap ..) ?_;refine Tc.lift (L₂:= [(b2,true,.cells ⟨(k.val A lc B tc).cells.toList⟩ 166 (0,0))]) (L₁:= [(m0,true,.map es1 cl1)]) rfl (fun Hx hx=> ?_);have hle0:=hx.base;have hmap0:Hx m0=some (true,.map es1 cl1):=hx.get (i:=0) rfl;clear hx;refine U7 ?_;refine Tc.db (Tc.loopBD (σ:= { s:View×Nat×Nat×Array MapEntry×Nat×List Nat//H.le s.1∧s.2.1≤n∧(∃f,s.1 s.2.2.1=some (f,.map s.2.2.2.1 s.2.2.2.2.1))∧MapOk s.2.2.2.1 s.2.2.2.2.1 (earF (k.earsS s.2.1)) })
   (fun s=> (s.1.1,[(2,.pointer (some ⟨b2,0,none⟩)),(5,.map (some s.1.2.2.1)),(14,.int .i64 (n:Nat)),(15,.int .i64 (s.1.2.1:Nat))],[(b2,true,.cells ⟨(k.val A lc B tc).cells.toList⟩ 166 (0,0))]++Mk s.1.2.2.2.2.2,marks s.1.2.2.2.2.2)) (fun s=> n-s.1.2.1) ?_ ⟨(Hx,0,m0,es1,cl1,[]),hle0,Nat.zero_le _,⟨true,hmap0⟩,hm1'⟩)
 rintro⟨⟨H₁,i,m,es,cl,rs⟩,g1,g2,⟨fm,g3⟩,g4⟩ ih₁;simp only at g1 g2 g3 g4;show Tc M St _ _ H₁ _ [(2,.pointer (some ⟨b2,0,none⟩)),(5,.map (some m)),(14,.int .i64 (n:Nat)),(15,.int .i64 (i:Nat))] ([(b2,true,.cells ⟨(k.val A lc B tc).cells.toList⟩ 166 (0,0))]++Mk rs) (marks rs) _;by_cases c1:i=n
 · subst c1;refine U12 ?_;refine Tc.retDs (E:=en) (L:= [(b2,true,.cells ⟨(k.val A lc B tc).cells.toList⟩ 166 (0,0))]) (rs:=rs) hK func119 results119 (vs:= [_]) ⟨rfl,trivial⟩ ?_;exact fun H' hs=> ⟨View.le_trans g1 hs.base,m,es,cl,rfl,⟨fm,hs.base _ _ g3⟩,g4⟩
 · have c2 : i < k.nt:=by omega
   obtain⟨t1,t2,t3⟩:=k.train_in ht c2;refine U16 ?_;refine .e (Or.makeMap rfl rfl (by decide) (fun mo=> ?_));refine .al fun b7=> ?_;refine U6 ?_;refine .e (Or.range (E:=en) (es:=es) (cl:=cl) rfl rfl (fun H hs=> ⟨fm,hs.base _ _ g3⟩) rfl rfl rfl (by decide) (fun it=> ?_));refine U2 ?_;refine Tc.db (Tc.loopBD (σ:= { s:View×Array Nat×Array MapEntry×Nat×List Nat//H₁.le s.1∧∃S:Ear→Prop,MapOk s.2.2.1 s.2.2.2.1 (earF S)∧∀e,k.earsS (i+1) e↔(S e∨∃me∈unseen es s.2.1,∃e0:Ear,me.key=e0.val∧∃x∈k.can i,e=e0.hear x.1 x.2) })
     (fun s=> (s.1.1,[(2,.pointer (some ⟨b2,0,none⟩)),(6,.int .i64 (i:Nat)),(7,.pointer (some ⟨b7,0,none⟩)),(14,.int .i64 (n:Nat)),(15,.int .i64 (i:Nat)),(20,.pointer (some ⟨it,0,none⟩))],[(it,true,.mapIter (some m) cl s.1.2.1 cl),(b7,true,.cells ⟨[.map (some mo)]⟩ 218 (0,0)),(mo,true,.map s.1.2.2.1 s.1.2.2.2.1),(b2,true,.cells ⟨(k.val A lc B tc).cells.toList⟩ 166 (0,0))]++Mk s.1.2.2.2.2,marks s.1.2.2.2.2)) (fun s=> (unseen es s.1.2.1).length) ?_ ⟨(H₁,#[],#[],0,rs),View.le_refl _,fun _=> False,MapOk.nil.congr (by rintro a b;simp[earF]),fun e=> by
       rw[unseen_start];constructor
       · rintro⟨e0,h0,x,hx,rfl⟩;obtain⟨me,h1,h2,_⟩:=(g4.mem e0.val (.bool true)).1 ⟨e0,h0,rfl,rfl⟩;exact .inr ⟨me,h1,e0,h2,x,hx,rfl⟩
       · rintro(h|⟨me,h1,e0,h2,x,hx,rfl⟩)
         · exact h.elim
         · obtain⟨y,h3,h4,_⟩:=earF_keys g4 me h1;rw[ear_inj (h2.symm.trans h4)];exact⟨y,h3,x,hx,rfl⟩⟩)
   rintro⟨⟨H₂,seen,es2,cl2,rs2⟩,p1,S,p2,p3⟩ ih₂;simp only at p1 p2 p3;show Tc M St _ _ H₂ _ [(2,.pointer (some ⟨b2,0,none⟩)),(6,.int .i64 (i:Nat)),(7,.pointer (some ⟨b7,0,none⟩)),(14,.int .i64 (n:Nat)),(15,.int .i64 (i:Nat)),(20,.pointer (some ⟨it,0,none⟩))] ([(it,true,.mapIter (some m) cl seen cl),(b7,true,.cells ⟨[.map (some mo)]⟩ 218 (0,0)),(mo,true,.map es2 cl2),(b2,true,.cells ⟨(k.val A lc B tc).cells.toList⟩ 166 (0,0))]++Mk rs2) (marks rs2) _;have g3':=p1 _ _ g3;refine U2 ?_;refine .e (Or.next (es:=es) 0 rfl rfl rfl (fun H hs=> ⟨fm,hs.base _ _ g3'⟩) g4.lt rfl (by decide) (fun me he hse=> ?_) (fun hall=> ?_))
   · have hp :=unseen_next g4.borns he hse;obtain⟨e0,u1,u2,_⟩:=earF_keys g4 me he;have hfind:=earF_find g4 he;have hbd:=k.ears_bd ht (by omega) u1;refine U8 ?_;refine .e (Or.entry (es:=es) (e:=me) (st:=me.born) rfl rfl (fun H hs=> ⟨true,hs.get (i:=0) rfl⟩) (fun H hs=> ⟨fm,hs.base _ _ g3'⟩) (by simp) hfind rfl (by decide) ?_);rw[u2];refine U ?_;refine .al fun b8=> ?_;refine U6 ?_;refine To.callF rfl rfl rfl rfl rfl rfl (by decide) (FnT.h (can_c M H₂ k A lc B tc (hB.le (View.le_trans g1 p1)) i c2)) (fun v H₃ hv=> ?_);obtain⟨hle3,b5,b2',rfl,hcap⟩:=hv;refine U ?_;have hit:=fun(H':View) (hc:CapC (trainV (k.pf i) (k.pt i) (k.qf i) (k.qt i)) (k.val A lc B tc) b5 b2' H')=> can_it M H' k A lc B tc i (k.pf i).toNat (k.pt i).toNat _ _ (by omega) (by omega) (by omega) rfl rfl (k.kind_le _) b5 b2' hc;refine U ?_;refine Tc.rangeL (A:= []) (ts:= [28,29]) (xs:=k.can i) (fun rest H₄ L₄=> ∃es3 cl3,∃S3:Ear→Prop,L₄= [(b8,true,.cells ⟨e0.val.cells.toList⟩ 170 (0,0)),(it,true,.mapIter (some m) cl (seen.push me.born) cl),(b7,true,.cells ⟨[.map (some mo)]⟩ 218 (0,0)),(mo,true,.map es3 cl3),(b2,true,.cells ⟨(k.val A lc B tc).cells.toList⟩ 166 (0,0))]++Mk rs2
         ∧MapOk es3 cl3 (earF S3)∧(∀e,(S e∨∃x∈k.can i,e=e0.hear x.1 x.2)↔(S3 e∨∃x∈rest,e=e0.hear x.1 x.2))∧CapC (trainV (k.pf i) (k.pt i) (k.qf i) (k.qt i)) (k.val A lc B tc) b5 b2' H₄∧H₃.le H₄) (fun _ _ _=> False) rfl rfl rfl rfl hit (fun _ _=> CapC.le _ _) (fun _ _ _ ⟨_,_,_,_,_,_,h,_⟩=> h) rfl (fun _ _=> rfl)
         ⟨es2,cl2,S,rfl,p2,fun _=> Iff.rfl,hcap,View.le_refl _⟩ ?_ ?_ (fun _ _ _ _ h=> h.elim)
     · rintro r x rest _ l tmps asg bdy H₄ _ hx ⟨es3,cl3,S3,rfl,q2,q3,q4,q5⟩ Q St1 cc1 cs1 hK1 q q';have hxin:=k.can_in ht c2 hx;refine U7 ?_;refine Tc.beginRound (i:=0) rfl rfl rfl ?_;refine U ?_;refine Tc.dr [5] [5] mixed rfl ?_;refine .nn 0 ?_;refine .nn 1 ?_;refine .nn 2 ?_;refine .nn 3 ?_;refine .z 4 rfl (OpV.takeCall rfl rfl rfl rfl (fun H hs=> .h (hear_c M H e0 x.1 x.2 (by omega) (by omega) (by omega) (by omega)))) ?_;refine Ta.each [5] (by kernel_rfl) rfl ⟨TaOp.mk rfl rfl rfl (Or.mapUpdate (E:=en) 5 2 rfl rfl rfl rfl rfl rfl rfl (by decide) (ear_key _) (earF_flat q2) rfl (fun r hr=> ⟨S2.mk (by apply List.Sublist.cons_cons;apply List.Sublist.cons_cons;apply List.Sublist.cons_cons;apply List.Sublist.cons_cons;apply List.Sublist.cons_cons;apply List.Sublist.cons;exact List.Sublist.refl _) (.inl (by kernel_rfl)),?_⟩)),trivial⟩;refine .dn ?_;obtain⟨es4,cl4,e4,q6⟩:=q2.put (.bool true) hr;rw[e4];refine U ?_;refine Tc.leaveRound hK1 (i:=0) rfl (.inl ⟨rfl,rfl⟩) (fun H' hs=> q H' H₄ _ hs ⟨es4,cl4,fun y=> y=e0.hear x.1 x.2∨S3 y,rfl,q6.congr (earF_put _ _),fun e=> ?_,q4,q5⟩);rw[q3 e];constructor
       · rintro(h|⟨y,h1,h2⟩)
         · exact .inl (.inr h)
         · rcases List.mem_cons.1 h1 with rfl|h3
           · exact .inl (.inl h2)
           · exact .inr ⟨y,h3,h2⟩
       · rintro((h|h)|⟨y,h1,h2⟩)
         · exact .inr ⟨x,List.mem_cons_self ..,h⟩
         · exact .inl h
         · exact .inr ⟨y,List.mem_cons_of_mem _ h1,h2⟩
     · rintro r H₄ _ ⟨es3,cl3,S3,rfl,q2,q3,q4,q5⟩;refine Tc.marked ?_;refine U2 ?_;have hfin:=ih₂ ⟨(H₄,seen.push me.born,es3,cl3,r::rs2),View.le_trans p1 (View.le_trans hle3 q5),S3,q2,fun e=> ?_⟩ (by simp only;rw[hp.length_eq];simp)
       · exact Tc.db hfin
       · have h3:=q3 e;simp only[List.not_mem_nil,false_and,exists_false,or_false] at h3;rw[p3 e,←h3];constructor
         · rintro(h|⟨me',h1,e0',h2,y,h4,h5⟩)
           · exact .inl (.inl h)
           · rcases List.mem_cons.1 (hp.mem_iff.1 h1) with rfl|h6
             · rw[ear_inj (h2.symm.trans u2)] at h5;exact .inl (.inr ⟨y,h4,h5⟩)
             · exact .inr ⟨me',h6,e0',h2,y,h4,h5⟩
         · rintro((h|⟨y,h4,h5⟩)|⟨me',h6,h7⟩)
           · exact .inl h
           · exact .inr ⟨me,hp.mem_iff.2 (List.mem_cons_self ..),e0,u2,y,h4,h5⟩
           · exact .inr ⟨me',hp.mem_iff.2 (List.mem_cons_of_mem _ h6),h7⟩
   · have hnil:=unseen_done hall;rw[hnil] at p3;refine U14 ?_;refine Tc.db (R':= [(2,.pointer (some ⟨b2,0,none⟩)),(5,.map (some mo)),(14,.int .i64 (n:Nat)),(15,.int .i64 ((i+1:Nat):Int))]) (L':= [(mo,true,.map es2 cl2)]++([(b2,true,.cells ⟨(k.val A lc B tc).cells.toList⟩ 166 (0,0))]++Mk rs2)) ?_;refine Tc.permL (L₁:=([(b2,true,.cells ⟨(k.val A lc B tc).cells.toList⟩ 166 (0,0))]++Mk rs2)++[(mo,true,.map es2 cl2)]) List.perm_append_comm ?_;refine Tc.lift (L₂:= [(b2,true,.cells ⟨(k.val A lc B tc).cells.toList⟩ 166 (0,0))]++Mk rs2) (L₁:= [(mo,true,.map es2 cl2)]) rfl (fun Hy hy=> ?_);have hfin:=ih₁ ⟨(Hy,i+1,mo,es2,cl2,rs2),View.le_trans g1 (View.le_trans p1 hy.base),by simp only;omega,⟨true,hy.get (i:=0) rfl⟩,p2.congr fun kv v=> ?_⟩ (by simp only;omega)
     · exact Tc.db hfin
     · simp only[List.not_mem_nil,false_and,exists_false,or_false] at p3;unfold earF;simp only[p3]
end
def resF(S:Int→Prop)(kv v:Value):Prop:=∃z,S z∧kv=.int .i64 z∧v=.bool true
theorem int_key(z:Int):KeyFl en 1 3 (.int .i64 z):=⟨_,[.int .i64 z],rfl,rfl,⟨z,rfl⟩⟩
theorem resF_put(z:Int)(S:Int→Prop)(kv v:Value):resF (fun x=> x=z∨S x) kv v↔(kv=.int .i64 z∧v=.bool true)∨(kv≠ .int .i64 z∧resF S kv v):=by
 constructor
 · rintro⟨x,h1,h2,h3⟩;by_cases hx:x=z
   · subst hx;exact .inl ⟨h2,h3⟩
   · refine .inr ⟨fun h=> hx ?_,x,h1.resolve_left hx,h2,h3⟩;rw[h2] at h;simpa using h
 · rintro(⟨h1,h2⟩|⟨_,x,h1,h2,h3⟩)
   · exact⟨z,.inl rfl,h1,h2⟩
   · exact⟨x,.inr h1,h2,h3⟩
theorem resF_keys {es:Array MapEntry}{cl:Nat}{S:Int→Prop}(h:MapOk es cl (resF S)):∀e∈es.toList,∃z,S z∧e.key=.int .i64 z∧e.val=.bool true:=fun e he=>
 (h.mem e.key e.val).2 ⟨e,he,rfl,rfl⟩
theorem resF_flat {es:Array MapEntry}{cl:Nat}{S:Int→Prop}(h:MapOk es cl (resF S)):∀e∈es.toList,KeyFl en 1 3 e.key:=fun e he=> by
 obtain⟨z,_,h2,_⟩:=resF_keys h e he;rw[h2];exact int_key z
def Bk.resS(k:Bk)(z:Int):Prop:=∃e,k.earsS k.nt e∧z=firstI (k.line e.heard)
section
variable(M:Md prog)(H:View)
theorem results_c(k:Bk)(A:Option Addr)(lc:Nat)(B:Option Addr)(tc:Nat)(hA:RowsAt H k A lc)(hl:k.nl≤1000)(hB:TrainsAt H k B tc)(ht:k.trainsOk)(h6:k.nt≤6):
   CallT M 122 #[k.val A lc B tc] H (fun v H'=> H.le H'∧∃m es cl,v=.map (some m)∧(∃f,H' m=some (f,.map es cl))∧MapOk es cl (resF k.resS)):=by
 refine .en func122 ntmps122 fun St c cs hK=> ?_;refine U2 ?_;refine .bo fun b1=> ?_;refine U4 ?_;refine .e (Or.makeMap rfl rfl (by decide) (fun mr=> ?_));refine U10 ?_;refine To.callF rfl rfl rfl rfl rfl rfl (by decide) (FnT.h (ears_c M H k A lc B tc hB ht h6 k.nt (Nat.le_refl _))) (fun v H₂ hv=> ?_);obtain⟨hle,m,es,cl,rfl,⟨fm,g3⟩,g4⟩:=hv;refine .e (Or.range (E:=en) (es:=es) (cl:=cl) rfl rfl (fun H hs=> ⟨fm,hs.base _ _ g3⟩) rfl rfl rfl (by decide) (fun it=> ?_));refine U2 ?_;refine Tc.db (Tc.loopInv (σ:= { s:Array Nat×Array MapEntry×Nat//∃S:Int→Prop,MapOk s.2.1 s.2.2 (resF S)∧∀z,k.resS z↔(S z∨∃me∈unseen es s.1,∃e0:Ear,me.key=e0.val∧z=firstI (k.line e0.heard)) })
   (fun s=> ([(1,.pointer (some ⟨b1,0,none⟩)),(3,.map (some mr)),(12,.pointer (some ⟨it,0,none⟩))],[(it,true,.mapIter (some m) cl s.1.1 cl),(mr,true,.map s.1.2.1 s.1.2.2),(b1,true,.cells ⟨(k.val A lc B tc).cells.toList⟩ 166 (0,0))])) (fun s=> (unseen es s.1.1).length) ?_ ⟨(#[],#[],0),fun _=> False,MapOk.nil.congr (by rintro a b;simp[resF]),fun z=> by
     rw[unseen_start];constructor
     · rintro⟨e0,h0,rfl⟩;obtain⟨me,h1,h2,_⟩:=(g4.mem e0.val (.bool true)).1 ⟨e0,h0,rfl,rfl⟩;exact .inr ⟨me,h1,e0,h2,rfl⟩
     · rintro(h|⟨me,h1,e0,h2,rfl⟩)
       · exact h.elim
       · obtain⟨y,h3,h4,_⟩:=earF_keys g4 me h1;rw[ear_inj (h2.symm.trans h4)];exact⟨y,h3,rfl⟩⟩)
 rintro⟨⟨seen,es2,cl2⟩,S,p2,p3⟩ ih;simp only at p2 p3;show Tc M St _ _ H₂ _ [(1,.pointer (some ⟨b1,0,none⟩)),(3,.map (some mr)),(12,.pointer (some ⟨it,0,none⟩))] [(it,true,.mapIter (some m) cl seen cl),(mr,true,.map es2 cl2),(b1,true,.cells ⟨(k.val A lc B tc).cells.toList⟩ 166 (0,0))] _ _;refine U2 ?_;refine .e (Or.next (es:=es) 0 rfl rfl rfl (fun H hs=> ⟨fm,hs.base _ _ g3⟩) g4.lt rfl (by decide) (fun me he hse=> ?_) (fun hall=> ?_))
 · have hp :=unseen_next g4.borns he hse;obtain⟨e0,u1,u2,_⟩:=earF_keys g4 me he;have hfind:=earF_find g4 he;refine U8 ?_;refine .e (Or.entry (es:=es) (e:=me) (st:=me.born) rfl rfl (fun H hs=> ⟨true,hs.get (i:=0) rfl⟩) (fun H hs=> ⟨fm,hs.base _ _ g3⟩) (by simp) hfind rfl (by decide) ?_);rw[u2];refine U ?_;refine .al fun b4=> ?_;refine U7 ?_;refine .c rfl rfl rfl rfl (fun H hs=> .h (line_c M H k A lc B tc (hA.le (View.le_trans hle hs.base)) hl e0.heard)) ?_;refine .e (Or.mapUpdate (E:=en) 2 1 rfl rfl rfl rfl rfl rfl rfl (by decide) (int_key _) (resF_flat p2) rfl (fun r hr=> ?_));obtain⟨es4,cl4,e4,q6⟩:=p2.put (.bool true) hr;rw[e4];refine U2 ?_;exact Tc.db (ih ⟨(seen.push me.born,es4,cl4),fun y=> y=firstI (k.line e0.heard)∨S y,q6.congr (resF_put _ _),fun z=> by
     rw[p3 z];constructor
     · rintro(h|⟨me',h1,e0',h2,h5⟩)
       · exact .inl (.inr h)
       · rcases List.mem_cons.1 (hp.mem_iff.1 h1) with rfl|h6
         · rw[ear_inj (h2.symm.trans u2)] at h5;exact .inl (.inl h5)
         · exact .inr ⟨me',h6,e0',h2,h5⟩
     · rintro((h|h)|⟨me',h6,h7⟩)
       · exact .inr ⟨me,hp.mem_iff.2 (List.mem_cons_self ..),e0,u2,h⟩
       · exact .inl h
       · exact .inr ⟨me',hp.mem_iff.2 (List.mem_cons_of_mem _ h6),h7⟩⟩ (by simp only;rw[hp.length_eq];simp))
 · have hnil:=unseen_done hall;rw[hnil] at p3;refine U10 ?_;refine .rt hK func122 results122 [_] ?_;simp only[List.not_mem_nil,false_and,exists_false,or_false] at p3;exact fun H' hs=> ⟨View.le_trans hle hs.base,mr,es2,cl2,rfl,⟨true,hs.get (i:=1) rfl⟩,p2.congr fun kv v=> by unfold resF;simp only[p3]⟩
end
set_option maxHeartbeats 4000000
def Bk.fate(k:Bk)(e:Ear)(over:Bool):Int:=match k.line e.heard with
 | some i=> (i:Nat)
 | none=> if(e.deaf||over)||(firstTo (fun i=> begins (k.num i) e.heard) k.nl).isNone then -1 else -2
theorem resF_found {es:Array MapEntry}{cl:Nat}{S:Int→Prop}(h:MapOk es cl (resF S)){z:Int}{t:Bool}(ht:t=true↔S z){r:Option (Nat×Value)}(hr:FindOk es.toList (.int .i64 z) r):foundV (.bool false) r false=.bool t:=by
 have h1:=h.find hr;cases r with
 | none=>
   cases t with
   | false=> rfl
   | true=> exact(h1 (.bool true) ⟨z,ht.1 rfl,rfl,rfl⟩).elim
 | some p=>
   obtain⟨i,v⟩:=p;obtain⟨y,h2,h3,h4⟩:=h1;have hy:z=y:=by simpa using h3
   subst hy;subst h4;rw[ht.2 h2];rfl
section
variable(M:Md prog)(H:View)
theorem claim_c(S:Int→Prop)(z:Int)(m:Nat)(es:Array MapEntry)(cl:Nat)(f:Bool)(hm:H m=some (f,.map es cl))(hok:MapOk es cl (resF S))(w:Int)(h:(¬S z∧w=2)∨(S z∧es.size=1∧w=1)∨(S z∧es.size≠1∧w=0)):
   CallT M 123 #[.map (some m),.int .i64 z] H (fun v H'=> H.le H'∧v=.int .i64 w):=by
 rcases h with ⟨h1,rfl⟩|⟨h1,h2,rfl⟩|⟨h1,h2,rfl⟩
 · refine .en func123 ntmps123 fun St c cs hK=> ?_;refine U10 ?_;refine .x (OpV.lookup (E:=en) 1 (es:=es) (v:=.bool false) rfl rfl rfl (fun H hs=> ⟨f,hs.base _ _ hm⟩) rfl rfl rfl (by decide) (int_key z) (resF_flat hok) (fun r hr=> resF_found hok (t:=false) (by simp[h1]) hr)) ?_;refine U8 ?_;refine .rt hK func123 results123 [_] ?_;exact okB
 · refine .en func123 ntmps123 fun St c cs hK=> ?_;refine U10 ?_;refine .x (OpV.lookup (E:=en) 1 (es:=es) (v:=.bool true) rfl rfl rfl (fun H hs=> ⟨f,hs.base _ _ hm⟩) rfl rfl rfl (by decide) (int_key z) (resF_flat hok) (fun r hr=> resF_found hok (t:=true) (by simp[h1]) hr)) ?_;refine U7 ?_;refine .x (OpV.lenMap (E:=en) (es:=es) rfl rfl rfl rfl rfl (fun H hs=> ⟨f,hs.base _ _ hm⟩) rfl rfl) ?_;rw[h2];refine U8 ?_;refine .rt hK func123 results123 [_] ?_;exact okB
 · refine .en func123 ntmps123 fun St c cs hK=> ?_;refine U10 ?_;refine .x (OpV.lookup (E:=en) 1 (es:=es) (v:=.bool true) rfl rfl rfl (fun H hs=> ⟨f,hs.base _ _ hm⟩) rfl rfl rfl (by decide) (int_key z) (resF_flat hok) (fun r hr=> resF_found hok (t:=true) (by simp[h1]) hr)) ?_;refine U7 ?_;refine .x (OpV.lenMap (E:=en) (es:=es) rfl rfl rfl rfl rfl (fun H hs=> ⟨f,hs.base _ _ hm⟩) rfl rfl) ?_;refine U10 ?_;refine .rt hK func123 results123 [_] ?_;exact okB
theorem fate1_c(e:Ear)(b4:Nat)(f:Bool)(hb:H b4=some (f,.cells ⟨e.val.cells.toList⟩ 170 (0,0)))(a num:List UInt8)(F:Option Addr)(n fc:Nat):
   CallT M 216 #[lineV a num F n fc,.pointer (some ⟨b4,0,none⟩)] H (fun v H'=> H.le H'∧v=.bool (begins num e.heard)):=by
 refine .en func216 ntmps216 fun St c cs hK=> ?_;refine U2 ?_;refine .bo fun b2=> ?_;refine U8 ?_;refine .c rfl rfl rfl rfl (fun H hs=> .h (HasPrefix_c M H num e.heard)) ?_;refine U2 ?_;refine .rt hK func216 results216 [_] ?_;exact okB
theorem fate_c(k:Bk)(A:Option Addr)(lc:Nat)(B:Option Addr)(tc:Nat)(hA:RowsAt H k A lc)(hl:k.nl≤1000)(e:Ear)(over:Bool):
   CallT M 129 #[k.val A lc B tc,e.val,.bool over] H (fun v H'=> H.le H'∧v=.int .i64 (k.fate e over)):=by
 have hln:=fun(H':View) (h':H.le H')=> line_c M H' k A lc B tc (hA.le h') hl e.heard;have hf1:=fun(H':View) (h':H.le H') (fv:Value)=> first_c M H' k A lc (hA.le h') hl fv (fun i=> begins (k.num i) e.heard);cases hk:k.line e.heard with
 | some i=>
   have e1:k.fate e over=(i:Nat):=by unfold Bk.fate;rw[hk]
   rw[e1];rw[hk] at hln;have e2:firstI (some i)=(i:Nat):=rfl;rw[e2] at hln;refine .en func129 ntmps129 fun St c cs hK=> ?_;refine U2 ?_;refine .bo fun b3=> ?_;refine .bo fun b4=> ?_;refine U8 ?_;refine .c rfl rfl rfl rfl (fun H hs=> .h (hln H hs.base)) ?_;refine U13 ?_;refine .rt hK func129 results129 [_] ?_;exact okB
 | none=>
   rw[hk] at hln;have e2:firstI none= -1:=rfl;rw[e2] at hln;obtain⟨df,hdf⟩:∃d,e.deaf=d:=⟨_,rfl⟩
   have ev:e.val=earV e.heard e.pend df:=by rw[←hdf];rfl
   cases df with
   | true=>
     have e1:k.fate e over= -1:=by unfold Bk.fate;rw[hk];simp[hdf]
     rw[e1,ev];refine .en func129 ntmps129 fun St c cs hK=> ?_;refine U2 ?_;refine .bo fun b3=> ?_;refine .bo fun b4=> ?_;refine U8 ?_;refine .c rfl rfl rfl rfl (fun H hs=> .h (hln H hs.base)) ?_;refine U31 ?_;refine .rt hK func129 results129 [_] ?_;exact okB
   | false=>
     cases over with
     | true=>
       have e1:k.fate e true= -1:=by unfold Bk.fate;rw[hk];simp
       rw[e1,ev];refine .en func129 ntmps129 fun St c cs hK=> ?_;refine U2 ?_;refine .bo fun b3=> ?_;refine .bo fun b4=> ?_;refine U8 ?_;refine .c rfl rfl rfl rfl (fun H hs=> .h (hln H hs.base)) ?_;refine U31 ?_;refine .rt hK func129 results129 [_] ?_;exact okB
     | false=>
       have ask:∀b4 H₀,H₀ b4=some (true,.cells ⟨(earV e.heard e.pend false).cells.toList⟩ 170 (0,0))→AskL M H₀ (.func (.func 216) #[] #[.pointer (some ⟨b4,0,none⟩)]) k (fun i=> begins (k.num i) e.heard):=fun b4 H₀ hb i _ F fc H' hle=>
         FnT.of (first:= []) (captured:= [_]) ca216 rfl (fate1_c M H' e b4 true (by rw[ev];exact hle _ _ hb) (k.name i) (k.num i) F (k.nf i) fc)
       cases hq:firstTo (fun i=> begins (k.num i) e.heard) k.nl with
       | none=>
         have e1:k.fate e false= -1:=by unfold Bk.fate;rw[hk];simp[hq]
         rw[e1,ev];rw[hq,e2] at hf1;refine .en func129 ntmps129 fun St c cs hK=> ?_;refine U2 ?_;refine .bo fun b3=> ?_;refine .bo fun b4=> ?_;refine U8 ?_;refine .c rfl rfl rfl rfl (fun H hs=> .h (hln H hs.base)) ?_;refine U22 ?_;refine .c rfl rfl rfl rfl (fun H hs=> .h (hf1 H hs.base _ (ask b4 H (hs.get (i:=0) rfl)))) ?_;refine U8 ?_;refine .rt hK func129 results129 [_] ?_;exact okB
       | some j=>
         have e1:k.fate e false= -2:=by unfold Bk.fate;rw[hk];simp[hq,hdf]
         rw[e1,ev];rw[hq] at hf1;have e3:firstI (some j)=(j:Nat):=rfl;rw[e3] at hf1;refine .en func129 ntmps129 fun St c cs hK=> ?_;refine U2 ?_;refine .bo fun b3=> ?_;refine .bo fun b4=> ?_;refine U8 ?_;refine .c rfl rfl rfl rfl (fun H hs=> .h (hln H hs.base)) ?_;refine U22 ?_;refine .c rfl rfl rfl rfl (fun H hs=> .h (hf1 H hs.base _ (ask b4 H (hs.get (i:=0) rfl)))) ?_;refine U9 ?_;refine .rt hK func129 results129 [_] ?_;exact okB
end
end Go.Proofs.YtldmfjcgjdchcaaGreatDoor
namespace Go.Proofs.YtldmfjcgjdchcaaGreatDoor
open Go.RL Go.Proofs.Tryz
set_option maxRecDepth 10000
theorem ldL_le {sz off:Nat}{gs:List Value}{v:Value}(h:ldL true sz gs off=some v):off+sz≤gs.length∧v=.agg ⟨(gs.drop off).take sz⟩:=by
 unfold ldL at h;simp only at h;split at h
 · rename_i hle
   exact⟨Nat.le_of_ble_eq_true hle,(Option.some.inj h).symm⟩
 · cases h
theorem ldL_of {sz off:Nat}{gs:List Value}(h:off+sz≤gs.length):ldL true sz gs off=some (.agg ⟨(gs.drop off).take sz⟩):=by
 unfold ldL;have:Nat.ble (off+sz) gs.length=true:=Nat.ble_eq_true_of_le h;simp only[this]
section
variable(M:Md prog)(H:View)
theorem clone138_c(a:Option Addr)(m ca:Nat)(l:List Value)(hm:m≤100000)(hs0:SrcAt H 3 (.slice a m ca) m l)(h1:l.all single=true):CallT M 218 #[.slice a m ca] H (fun v H'=> H.le H'∧∃g:Gl 68 3,v=g.val∧(g.l=l∧g.n=m)∧∀x∈g.bl,H' x.1=some x.2∧H x.1=none):=by
 refine .en func218 ntmps218 fun St c cs hK=> ?_;cases a with
 | none=>
   refine U8 ?_;refine .x (OpV.eqNil (E:=en) rfl rfl rfl rfl rfl) ?_;refine U6 ?_;refine .rt hK func218 results218 [_] ?_;obtain⟨_,h2,h3|⟨b,off,_,_,_,_,_,h3,_⟩⟩:=hs0
   · obtain⟨_,_,_,rfl⟩:=h3;have:m=0:=by simp at h2;omega
     subst this;exact fun H' hs'=> ⟨hs'.base,Gl.nil 68 3,rfl,⟨rfl,rfl⟩,by simp[Gl.nil,Gl.bl]⟩
   · cases h3
 | some a=>
   refine U8 ?_;refine .x (OpV.eqNil (E:=en) rfl rfl rfl rfl rfl) ?_;refine U5 ?_;refine .e (.bs (zz:=fun bs=> ?_));refine U ?_;refine .e (Or.append (E:=en) (g:=Gl.emp 68 3 bs) 0 rfl rfl rfl rfl rfl rfl rfl rfl rfl rfl rfl rfl rfl rfl rfl (fun H' hs'=> hs0.mono hs'.base) h1 (by show 0+m≤_;omega) rfl (by decide) (fun g' hn hl=> ?_));refine U2 ?_;refine .rt hK func218 results218 [_] ?_;exact fun H' hs'=> ⟨hs'.base,g',rfl,⟨by rw[hl];rfl,by rw[hn];show 0+m=m;omega⟩,fun x hx=> ⟨hs'.at_ x hx,hs'.out x hx⟩⟩
end
section
variable(M:Md prog)(H:View)
theorem clone139_c(a:Option Addr)(m ca:Nat)(l:List Value)(hm:m≤100000)(hs0:SrcAt H 4 (.slice a m ca) m l)(h1:l.all single=true):CallT M 219 #[.slice a m ca] H (fun v H'=> H.le H'∧∃g:Gl 39 4,v=g.val∧(g.l=l∧g.n=m)∧∀x∈g.bl,H' x.1=some x.2∧H x.1=none):=by
 refine .en func219 ntmps219 fun St c cs hK=> ?_;cases a with
 | none=>
   refine U8 ?_;refine .x (OpV.eqNil (E:=en) rfl rfl rfl rfl rfl) ?_;refine U6 ?_;refine .rt hK func219 results219 [_] ?_;obtain⟨_,h2,h3|⟨b,off,_,_,_,_,_,h3,_⟩⟩:=hs0
   · obtain⟨_,_,_,rfl⟩:=h3;have:m=0:=by simp at h2;omega
     subst this;exact fun H' hs'=> ⟨hs'.base,Gl.nil 39 4,rfl,⟨rfl,rfl⟩,by simp[Gl.nil,Gl.bl]⟩
   · cases h3
 | some a=>
   refine U8 ?_;refine .x (OpV.eqNil (E:=en) rfl rfl rfl rfl rfl) ?_;refine U5 ?_;refine .e (.bs (zz:=fun bs=> ?_));refine U ?_;refine .e (Or.append (E:=en) (g:=Gl.emp 39 4 bs) 0 rfl rfl rfl rfl rfl rfl rfl rfl rfl rfl rfl rfl rfl rfl rfl (fun H' hs'=> hs0.mono hs'.base) h1 (by show 0+m≤_;omega) rfl (by decide) (fun g' hn hl=> ?_));refine U2 ?_;refine .rt hK func219 results219 [_] ?_;exact fun H' hs'=> ⟨hs'.base,g',rfl,⟨by rw[hl];rfl,by rw[hn];show 0+m=m;omega⟩,fun x hx=> ⟨hs'.at_ x hx,hs'.out x hx⟩⟩
theorem clone140_c(a:Option Addr)(m ca:Nat)(l:List Value)(hm:m≤100000)(hs0:SrcAt H 1 (.slice a m ca) m l)(h1:l.all single=true):CallT M 220 #[.slice a m ca] H (fun v H'=> H.le H'∧∃g:Gl 110 1,v=g.val∧(g.l=l∧g.n=m)∧∀x∈g.bl,H' x.1=some x.2∧H x.1=none):=by
 refine .en func220 ntmps220 fun St c cs hK=> ?_;cases a with
 | none=>
   refine U8 ?_;refine .x (OpV.eqNil (E:=en) rfl rfl rfl rfl rfl) ?_;refine U6 ?_;refine .rt hK func220 results220 [_] ?_;obtain⟨_,h2,h3|⟨b,off,_,_,_,_,_,h3,_⟩⟩:=hs0
   · obtain⟨_,_,_,rfl⟩:=h3;have:m=0:=by simp at h2;omega
     subst this;exact fun H' hs'=> ⟨hs'.base,Gl.nil 110 1,rfl,⟨rfl,rfl⟩,by simp[Gl.nil,Gl.bl]⟩
   · cases h3
 | some a=>
   refine U8 ?_;refine .x (OpV.eqNil (E:=en) rfl rfl rfl rfl rfl) ?_;refine U5 ?_;refine .e (.bs (zz:=fun bs=> ?_));refine U ?_;refine .e (Or.append (E:=en) (g:=Gl.emp 110 1 bs) 0 rfl rfl rfl rfl rfl rfl rfl rfl rfl rfl rfl rfl rfl rfl rfl (fun H' hs'=> hs0.mono hs'.base) h1 (by show 0+m≤_;omega) rfl (by decide) (fun g' hn hl=> ?_));refine U2 ?_;refine .rt hK func220 results220 [_] ?_;exact fun H' hs'=> ⟨hs'.base,g',rfl,⟨by rw[hl];rfl,by rw[hn];show 0+m=m;omega⟩,fun x hx=> ⟨hs'.at_ x hx,hs'.out x hx⟩⟩
end
def andOf(a b:Int):Int:=if a=2∨b=2 then 2 else if a=1 then b else 0
section
variable(M:Md prog)(H:View)
theorem and_c(a b:Int):CallT M 133 #[.int .i64 a,.int .i64 b] H (fun v H'=> H.le H'∧v=.int .i64 (andOf a b)):=by
 refine .en func133 ntmps133 fun St c cs hK=> ?_;by_cases c1:a=2
 · have e:andOf a b=2:=by unfold andOf;simp[c1]
   subst c1;refine U21 ?_;refine .rt hK func133 results133 [_] ?_;exact fun H' hs=> ⟨hs.base,by rw[e];rfl⟩
 · by_cases c2:b=2
   · have e:andOf a b=2:=by unfold andOf;simp[c2]
     subst c2;refine U21 ?_;refine .rt hK func133 results133 [_] ?_;exact fun H' hs=> ⟨hs.base,by rw[e];rfl⟩
   · by_cases c3:a=1
     · have e:andOf a b=b:=by unfold andOf;simp[c2,c3]
       subst c3;refine U29 ?_;refine .rt hK func133 results133 [_] ?_;exact fun H' hs=> ⟨hs.base,by rw[e];rfl⟩
     · have e:andOf a b=0:=by unfold andOf;simp[c1,c2,c3]
       refine U30 ?_;refine .rt hK func133 results133 [_] ?_;exact fun H' hs=> ⟨hs.base,by rw[e];rfl⟩
end
set_option maxHeartbeats 4000000
def flatR(n:Nat)(f:Nat→List Value):List Value:=(List.range n).flatMap f
theorem flatR_succ(n:Nat)(f:Nat→List Value):flatR (n+1) f=flatR n f++f n:=by
 unfold flatR;rw[List.range_succ,List.flatMap_append];simp
theorem flatR_len {f:Nat→List Value}{sz:Nat}(h:∀i,(f i).length=sz):∀n,(flatR n f).length=n*sz
 | 0=> by simp[flatR]
 | n+1=> by rw[flatR_succ,List.length_append,flatR_len h n,h,Nat.succ_mul]
theorem flatR_congr {f g:Nat→List Value}:∀n,(∀i,i<n→f i=g i)→flatR n f=flatR n g
 | 0,_=> rfl
 | n+1,h=> by rw[flatR_succ,flatR_succ,flatR_congr n (fun i hi=> h i (by omega)),h n (by omega)]
theorem flatR_split {f:Nat→List Value}:∀n i,i<n→∃t,flatR n f=flatR i f++(f i++t)∧∀g:Nat→List Value,(∀j,j<n→j≠i→g j=f j)→flatR n g=flatR i f++(g i++t)
 | 0,_,h=> by omega
 | n + 1,i,h=> by
   by_cases e:i=n
   · subst e;refine⟨[],by rw[flatR_succ];simp,fun g hg=> ?_⟩;rw[flatR_succ,flatR_congr i (fun j hj=> hg j (by omega) (by omega))];simp
   · obtain⟨t,h1,h2⟩:=flatR_split (f:=f) n i (by omega);refine⟨t++f n,by rw[flatR_succ,h1];simp,fun g hg=> ?_⟩;rw[flatR_succ,h2 g (fun j hj=> hg j (by omega)),hg n (by omega) (by omega)];simp
theorem flatR_ld {f:Nat→List Value}{sz:Nat}(h:∀i,(f i).length=sz){n i:Nat}(hi:i<n)(junk:List Value):ldL true sz (flatR n f++junk) (i*sz)=some (.agg ⟨f i⟩):=by
 obtain⟨t,h1,_⟩:=flatR_split (f:=f) n i hi;rw[h1];have hl:(flatR i f).length=i*sz:=flatR_len h i;rw[ldL_of (by simp only[List.length_append,hl,h i];omega)]
 congr 3
 rw[List.append_assoc,List.append_assoc,List.drop_left' hl,List.take_left' (h i)]
theorem flatR_single {f:Nat→List Value}(h:∀i,(f i).all single=true)(n:Nat):(flatR n f).all single=true:=by
 unfold flatR;rw[List.all_eq_true];intro x hx;obtain⟨i,_,h2⟩:=List.mem_flatMap.1 hx;exact List.all_eq_true.1 (h i) x h2
def rowL(k:Bk)(F:Nat→Option Addr)(fc:Nat→Nat)(i:Nat):List Value:= [strV (k.name i),strV (k.num i),.slice (F i) (k.nf i) (fc i)]
def trainL(k:Bk)(i:Nat):List Value:= [.int .i64 (k.pf i),.int .i64 (k.pt i),.int .i64 (k.qf i),.int .i64 (k.qt i)]
def freeL(x:Nat→Int)(j:Nat):List Value:= [.int .i64 (x j)]
structure BookAt(H:View)(k:Bk)(A:Option Addr)(lc:Nat)(B:Option Addr)(tc:Nat)(F:Nat→Option Addr)(fc:Nat→Nat):Prop where
 hlc:k.nl≤lc
 htc:k.nt≤tc
 rows:SrcAt H 3 (.slice A k.nl lc) k.nl (flatR k.nl (rowL k F fc))
 trains:SrcAt H 4 (.slice B k.nt tc) k.nt (flatR k.nt (trainL k))
 hfc:∀i,i<k.nl→k.nf i≤fc i
 free:∀i,i<k.nl→SrcAt H 1 (.slice (F i) (k.nf i) (fc i)) (k.nf i) (flatR (k.nf i) (freeL (k.free i)))
theorem BookAt.le {H H':View}{k:Bk}{A:Option Addr}{lc:Nat}{B:Option Addr}{tc:Nat}{F:Nat→Option Addr}{fc:Nat→Nat}(h:BookAt H k A lc B tc F fc)(hl:H.le H'):BookAt H' k A lc B tc F fc:=
 ⟨h.hlc,h.htc,h.rows.mono hl,h.trains.mono hl,h.hfc,fun i hi=> (h.free i hi).mono hl⟩
theorem src_row {H:View}{sz n c:Nat}{A:Option Addr}{f:Nat→List Value}(hf:∀i,(f i).length=sz)(h:SrcAt H sz (.slice A n c) n (flatR n f))(hn:0<n)(h0:0<sz):
   ∃b o g gs gt gz,A=some ⟨b,o,none⟩∧H b=some (g,.cells ⟨gs⟩ gt gz)∧∀i:Nat,i<n→ldL true sz gs (o+(i:Int).toNat*sz)=some (.agg ⟨f i⟩):=by
 have hl:=flatR_len hf n;have hpos:0<n*sz:=Nat.mul_pos hn h0;obtain⟨_,_,⟨_,_,_,h1⟩|⟨b,o,c',g,gs,gt,gz,h1,h2,h3,h4⟩⟩:=h
 · rw[h1] at hl;simp at hl
   omega
 · simp only[Value.slice.injEq] at h1;refine⟨b,o,g,gs,gt,gz,h1.1,h2,fun i hi=> ?_⟩;have h5:=flatR_ld hf hi [];rw[List.append_nil] at h5;have h6:=(ldL_le h5).1;rw[←h4] at h5;rw[←h5,Int.toNat_natCast];have h7:i*sz+sz≤(flatR n f).length:=h6;rw[ldL_of (by omega),ldL_of (by rw[List.length_take,List.length_drop];omega)]
   congr 3
   rw[List.drop_take,List.take_take,List.drop_drop,Nat.min_eq_left (by omega)]
theorem BookAt.rowsAt {H:View}{k:Bk}{A:Option Addr}{lc:Nat}{B:Option Addr}{tc:Nat}{F:Nat→Option Addr}{fc:Nat→Nat}(h:BookAt H k A lc B tc F fc):RowsAt H k A lc:=by
 refine⟨h.hlc,?_⟩;rcases Nat.eq_zero_or_pos k.nl with h0|h0
 · exact .inl h0
 · obtain⟨b,o,g,gs,gt,gz,h1,h2,h3⟩:=src_row (f:=rowL k F fc) (sz:=3) (fun _=> rfl) h.rows h0 (by decide);refine .inr ⟨b,o,g,gs,gt,gz,h1,h2,fun i hi=> ⟨F i,fc i,h3 i hi,h.hfc i hi,?_⟩⟩;rcases Nat.eq_zero_or_pos (k.nf i) with h4|h4
   · exact .inl h4
   · obtain⟨b',o',g',gs',gt',gz',h5,h6,h7⟩:=src_row (f:=freeL (k.free i)) (sz:=1) (fun _=> rfl) (h.free i hi) h4 (by decide);refine .inr ⟨b',o',g',gs',gt',gz',h5,h6,fun j hj=> ?_⟩;have h8:=h7 j hj;have h9:=(ldL_le h8).1;have h10:=(ldL_le h8).2;show gs'[_]? =_;simp only[Value.agg.injEq,Array.mk.injEq,freeL] at h10;have h11:=congrArg (fun l=> l[0]?) h10;simp only[List.getElem?_take,List.getElem?_drop] at h11;simpa using h11.symm
theorem BookAt.trainsAt {H:View}{k:Bk}{A:Option Addr}{lc:Nat}{B:Option Addr}{tc:Nat}{F:Nat→Option Addr}{fc:Nat→Nat}(h:BookAt H k A lc B tc F fc):TrainsAt H k B tc:=by
 refine⟨h.htc,?_⟩;rcases Nat.eq_zero_or_pos k.nt with h0|h0
 · exact .inl h0
 · obtain⟨b,o,g,gs,gt,gz,h1,h2,h3⟩:=src_row (f:=trainL k) (sz:=4) (fun _=> rfl) h.trains h0 (by decide);exact .inr ⟨b,o,g,gs,gt,gz,h1,h2,fun i hi=> h3 i hi⟩
def Bk.with(k:Bk)(t:Nat)(x y z w:Int):Bk:=
 { k with pf:=fun i=> if i=t then x else k.pf i,pt:=fun i=> if i=t then y else k.pt i,qf:=fun i=> if i=t then z else k.qf i,qt:=fun i=> if i=t then w else k.qt i }
theorem gl_nodup {e:TypeId}{sz:Nat}(g:Gl e sz):(g.bl.map (·.1)).Nodup:=by
 unfold Gl.bl;split <;> simp
theorem rowL_single(k:Bk)(F:Nat→Option Addr)(fc:Nat→Nat)(i:Nat):(rowL k F fc i).all single=true:=rfl
theorem trainL_single(k:Bk)(i:Nat):(trainL k i).all single=true:=rfl
theorem freeL_single(x:Nat→Int)(i:Nat):(freeL x i).all single=true:=rfl
def addrOf(l:List (Gl 110 1))(F:Nat→Option Addr)(i:Nat):Option Addr:=match l[i]? with
 | some g=> g.blk.map fun b=> ⟨b,0,none⟩
 | none=> F i
def capOf(l:List (Gl 110 1))(fc:Nat→Nat)(i:Nat):Nat:=match l[i]? with
 | some g=> g.cap
 | none=> fc i
def blsOf(l:List (Gl 110 1)):Bl:=l.flatMap Gl.bl
theorem flatR_cell {f:Nat→List Value}{sz:Nat}(h:∀i,(f i).length=sz){n i d:Nat}(hi:i<n)(hd:d<sz)(junk:List Value):(flatR n f++junk)[i*sz+d]? =(f i)[d]? :=by
 obtain⟨t,h1,_⟩:=flatR_split (f:=f) n i hi;have hl:(flatR i f).length=i*sz:=flatR_len h i;rw[h1,List.append_assoc,List.append_assoc,List.getElem?_append_right (by omega),hl,Nat.add_sub_cancel_left,List.getElem?_append_left (by rw[h i];exact hd)]
theorem flatR_st {f g:Nat→List Value}{sz:Nat}(h:∀i,(f i).length=sz){n i d:Nat}(hi:i<n)(hd:d<sz)(junk:List Value)(v:Value)(hg:∀j,j<n→j≠i→g j=f j)(hv:g i=(f i).set d v):stL (flatR n f++junk) (i*sz+d) [v]=flatR n g++junk:=by
 obtain⟨t,h1,h2⟩:=flatR_split (f:=f) n i hi;have hl:(flatR i f).length=i*sz:=flatR_len h i;rw[h1,h2 g hg,hv,←stL_cons _ _ _ _ (by simp only[List.length_append,hl,h i];omega),stL_nil];rw[List.append_assoc,List.append_assoc,List.set_append_right _ _ (by omega),hl,Nat.add_sub_cancel_left,List.set_append_left _ _ (by rw[h i];exact hd)];simp
theorem flatR_row {f g:Nat→List Value}{sz:Nat}(h:∀i,(f i).length=sz)(h':∀i,(g i).length=sz){n i:Nat}(hi:i<n)(junk:List Value)(hg:∀j,j<n→j≠i→g j=f j):stL (flatR n f++junk) (i*sz) (g i)=flatR n g++junk:=by
 obtain⟨t,h1,h2⟩:=flatR_split (f:=f) n i hi;have hl:(flatR i f).length=i*sz:=flatR_len h i;rw[h1,h2 g hg];unfold stL;rw[List.append_assoc,List.append_assoc,List.append_assoc,List.append_assoc,List.take_left' hl,h' i,←List.drop_drop,List.drop_left' hl,List.drop_left' (h i)];simp
theorem src_flat {H:View}{f:Nat→List Value}{sz n c b:Nat}{fl:Bool}{junk:List Value}{e:TypeId}{fz:Nat×Nat}(h:∀i,(f i).length=sz)(hb:H b=some (fl,.cells ⟨flatR n f++junk⟩ e fz)):SrcAt H sz (.slice (some ⟨b,0,none⟩) n c) n (flatR n f):=
 ⟨⟨_,_,rfl⟩,flatR_len h n,.inr ⟨b,0,c,fl,_,e,fz,rfl,hb,by simp,by simp⟩⟩
section
variable(M:Md prog)(H:View)
theorem with_c(k:Bk)(A:Option Addr)(lc:Nat)(B:Option Addr)(tc:Nat)(F:Nat→Option Addr)(fc:Nat→Nat)(hB:BookAt H k A lc B tc F fc)(hn:k.nl≤1000)(hnt:k.nt≤1000)(hnf:∀i,i<k.nl→k.nf i≤1000)(t:Nat)(ht:t<k.nt)(x y z w:Int):
   CallT M 132 #[k.val A lc B tc,.int .i64 (t:Nat),trainV x y z w] H (fun v H'=> H.le H'∧∃A' lc' B' tc' F' fc',v=(k.with t x y z w).val A' lc' B' tc'∧BookAt H' (k.with t x y z w) A' lc' B' tc' F' fc'):=by
 refine .en func132 ntmps132 fun St c cs hK=> ?_;refine U2 ?_;refine .bo fun b3=> ?_;refine .bo fun b5=> ?_;refine .al fun b6=> ?_;refine U2 ?_;refine Tc.dr [10,13] [2] mixed rfl ?_;refine .nn 0 ?_;refine .nn 1 ?_;refine .nn 2 ?_;refine .nn 4 ?_;refine .nn 5 ?_;refine .nn 6 ?_;refine Ta.each [3] (by kernel_rfl) rfl ⟨TaOp.mk rfl rfl rfl (Or.callNew Gl.val Gl.bl (fun g:Gl 68 3=> g.l=flatR k.nl (rowL k F fc)∧g.n=k.nl) rfl rfl rfl rfl rfl (by decide) gl_nodup (fun H₁ hs₁=> .h (clone138_c M H₁ A k.nl lc _ (by omega) (hB.rows.mono hs₁.base) (flatR_single (rowL_single k F fc) _))) (fun g hg=> ⟨S2.mk (by exact List.sublist_append_left _ _) (.inr (by exact List.sublist_append_left _ _)),?_⟩)),trivial⟩;refine .nw 8 ?_;refine .nn 9 ?_;refine Ta.each [7] (by kernel_rfl) rfl ⟨TaOp.mk rfl rfl rfl (Or.callNew Gl.val Gl.bl (fun g:Gl 39 4=> g.l=flatR k.nt (trainL k)∧g.n=k.nt) rfl rfl rfl rfl rfl (by decide) gl_nodup (fun H₁ hs₁=> .h (clone139_c M H₁ B k.nt tc _ (by omega) (hB.trains.mono hs₁.base) (flatR_single (trainL_single k) _))) (fun g2 hg2=> ⟨S2.mk (by exact List.sublist_append_left _ _) (.inr (by exact List.sublist_append_left _ _)),?_⟩)),trivial⟩;refine .e 10 2 ?_;refine .nw 11 ?_;refine .nw 12 ?_;refine .e 13 2 ?_;refine .dn ?_;obtain⟨gb,gn,gc,gl,gj,hgl,hgc,hgj,hg0⟩:=g;obtain⟨rfl,rfl⟩:=hg;obtain⟨g2b,g2n,g2c,g2l,g2j,hg2l,hg2c,hg2j,hg20⟩:=g2;obtain⟨rfl,rfl⟩:=hg2;cases g2b with
 | none=>
   have:=hg20 rfl;omega
 | some tb =>
   cases gb with
   | none=>
     have h0:=hg0 rfl;have h00:k.nl=0:=by omega
     have f3:Nat.ble (0+((t:Nat):Int).toNat*4+4) (flatR k.nt (trainL k)++g2j).length=true:=by
       refine Nat.ble_eq_true_of_le ?_;rw[List.length_append,flatR_len (f:=trainL k) (sz:=4) (fun _=> rfl),Int.toNat_natCast];omega
     refine U10 ?_;refine Tc.db (Tc.loopInv (σ:=Unit) (fun _=> ([(1,.int .i64 (t:Nat)),(3,.pointer (some ⟨b3,0,none⟩)),(5,.pointer (some ⟨b5,0,none⟩)),(6,.pointer (some ⟨b6,0,none⟩)),(23,.int .i64 (k.nl:Nat)),(24,.int .i64 0)],
       [(b6,true,.cells ⟨[.int .i64 0,.int .i64 0,.slice none 0 0,.slice none 0 0]⟩ 166 (0,0)),(b5,true,.cells ⟨[.int .i64 x,.int .i64 y,.int .i64 z,.int .i64 w]⟩ 39 (0,0)),(b3,true,.cells ⟨[.int .i64 k.gap,.int .i64 k.give,.slice none k.nl gc,.slice (some ⟨tb,0,none⟩) k.nt g2c]⟩ 166 (0,0)),(tb,true,.cells ⟨flatR k.nt (trainL k)++g2j⟩ 39 (0,0))])) (fun _=> 0) ?_ ())
     rintro _ ih;show Tc M St _ _ _ _ [(1,.int .i64 (t:Nat)),(3,.pointer (some ⟨b3,0,none⟩)),(5,.pointer (some ⟨b5,0,none⟩)),(6,.pointer (some ⟨b6,0,none⟩)),(23,.int .i64 (k.nl:Nat)),(24,.int .i64 0)]
       [(b6,true,.cells ⟨[.int .i64 0,.int .i64 0,.slice none 0 0,.slice none 0 0]⟩ 166 (0,0)),(b5,true,.cells ⟨[.int .i64 x,.int .i64 y,.int .i64 z,.int .i64 w]⟩ 39 (0,0)),(b3,true,.cells ⟨[.int .i64 k.gap,.int .i64 k.give,.slice none k.nl gc,.slice (some ⟨tb,0,none⟩) k.nt g2c]⟩ 166 (0,0)),(tb,true,.cells ⟨flatR k.nt (trainL k)++g2j⟩ 39 (0,0))] _ _
     clear ih;rw[show((k.nl:Nat):Int)=0 by rw[h00];rfl];refine U22 ?_;refine .rt hK func132 results132 [_] ?_;refine fun H' hs'=> ⟨hs'.base,none,gc,some ⟨tb,0,none⟩,g2c,F,fc,rfl,hgc,hg2c,?_,?_,fun i hi=> ?_,fun i hi=> ?_⟩
     · show SrcAt H' 3 (.slice none k.nl gc) k.nl (flatR k.nl (rowL k F fc));rw[h00];exact⟨⟨_,_,rfl⟩,rfl,.inl ⟨none,gc,rfl,rfl⟩⟩
     · have hst:stL (flatR k.nt (trainL k)++g2j) (0+((t:Nat):Int).toNat*4) [.int .i64 x,.int .i64 y,.int .i64 z,.int .i64 w]=flatR k.nt (trainL (k.with t x y z w))++g2j:=by
         rw[Nat.zero_add,Int.toNat_natCast];have h1:=flatR_row (f:=trainL k) (g:=trainL (k.with t x y z w)) (sz:=4) (fun _=> rfl) (fun _=> rfl) ht g2j (fun i _ hi=> by simp[trainL,Bk.with,hi]);rw[←h1];simp[trainL,Bk.with]
       have h2:H' tb=some (true,.cells ⟨flatR k.nt (trainL (k.with t x y z w))++g2j⟩ 39 (0,0)):=by
         rw[←hst];exact hs'.get (i:=3) rfl
       exact src_flat (f:=trainL (k.with t x y z w)) (sz:=4) (n:=k.nt) (c:=g2c) (b:=tb) (fun _=> rfl) h2
     · have hi':i<k.nl:=hi;omega
     · have hi':i<k.nl:=hi;omega
   | some lb =>
     refine U10 ?_;refine Tc.db (Tc.loopInv (σ:= { l:List (Gl 110 1)//l.length≤k.nl∧∀i g,l[i]? =some g→g.l=flatR (k.nf i) (freeL (k.free i))∧g.n=k.nf i })
       (fun l=> ([(1,.int .i64 (t:Nat)),(3,.pointer (some ⟨b3,0,none⟩)),(5,.pointer (some ⟨b5,0,none⟩)),(6,.pointer (some ⟨b6,0,none⟩)),(23,.int .i64 (k.nl:Nat)),(24,.int .i64 (l.1.length:Nat))],
         [(b6,true,.cells ⟨[.int .i64 0,.int .i64 0,.slice none 0 0,.slice none 0 0]⟩ 166 (0,0)),(b5,true,.cells ⟨[.int .i64 x,.int .i64 y,.int .i64 z,.int .i64 w]⟩ 39 (0,0)),(b3,true,.cells ⟨[.int .i64 k.gap,.int .i64 k.give,.slice (some ⟨lb,0,none⟩) k.nl gc,.slice (some ⟨tb,0,none⟩) k.nt g2c]⟩ 166 (0,0)),
           (lb,true,.cells ⟨flatR k.nl (rowL k (addrOf l.1 F) (capOf l.1 fc))++gj⟩ 68 (0,0)),(tb,true,.cells ⟨flatR k.nt (trainL k)++g2j⟩ 39 (0,0))]++blsOf l.1)) (fun l=> k.nl-l.1.length) ?_ ⟨[],Nat.zero_le _,by simp⟩)
     rintro⟨l,hll,hlg⟩ ih;show Tc M St _ _ _ _ [(1,.int .i64 (t:Nat)),(3,.pointer (some ⟨b3,0,none⟩)),(5,.pointer (some ⟨b5,0,none⟩)),(6,.pointer (some ⟨b6,0,none⟩)),(23,.int .i64 (k.nl:Nat)),(24,.int .i64 (l.length:Nat))]
         ([(b6,true,.cells ⟨[.int .i64 0,.int .i64 0,.slice none 0 0,.slice none 0 0]⟩ 166 (0,0)),(b5,true,.cells ⟨[.int .i64 x,.int .i64 y,.int .i64 z,.int .i64 w]⟩ 39 (0,0)),(b3,true,.cells ⟨[.int .i64 k.gap,.int .i64 k.give,.slice (some ⟨lb,0,none⟩) k.nl gc,.slice (some ⟨tb,0,none⟩) k.nt g2c]⟩ 166 (0,0)),
           (lb,true,.cells ⟨flatR k.nl (rowL k (addrOf l F) (capOf l fc))++gj⟩ 68 (0,0)),(tb,true,.cells ⟨flatR k.nt (trainL k)++g2j⟩ 39 (0,0))]++blsOf l) _ _
     by_cases c1:l.length=k.nl
     · have f3:Nat.ble (0+((t:Nat):Int).toNat*4+4) (flatR k.nt (trainL k)++g2j).length=true:=by
         refine Nat.ble_eq_true_of_le ?_;rw[List.length_append,flatR_len (f:=trainL k) (sz:=4) (fun _=> rfl),Int.toNat_natCast];omega
       rw[c1];refine U22 ?_;refine .rt hK func132 results132 [_] ?_;refine fun H' hs'=> ⟨hs'.base,some ⟨lb,0,none⟩,gc,some ⟨tb,0,none⟩,g2c,addrOf l F,capOf l fc,rfl,hgc,hg2c,?_,?_,fun i hi=> ?_,fun i hi=> ?_⟩
       · exact src_flat (f:=rowL k (addrOf l F) (capOf l fc)) (sz:=3) (n:=k.nl) (c:=gc) (b:=lb) (fun _=> rfl) (hs'.get (i:=3) rfl)
       · have hst:stL (flatR k.nt (trainL k)++g2j) (0+((t:Nat):Int).toNat*4) [.int .i64 x,.int .i64 y,.int .i64 z,.int .i64 w]=flatR k.nt (trainL (k.with t x y z w))++g2j:=by
           rw[Nat.zero_add,Int.toNat_natCast];have h1:=flatR_row (f:=trainL k) (g:=trainL (k.with t x y z w)) (sz:=4) (fun _=> rfl) (fun _=> rfl) ht g2j (fun i _ hi=> by simp[trainL,Bk.with,hi]);rw[←h1];simp[trainL,Bk.with]
         have h2:H' tb=some (true,.cells ⟨flatR k.nt (trainL (k.with t x y z w))++g2j⟩ 39 (0,0)):=by
           rw[←hst];exact hs'.get (i:=4) rfl
         exact src_flat (f:=trainL (k.with t x y z w)) (sz:=4) (n:=k.nt) (c:=g2c) (b:=tb) (fun _=> rfl) h2
       · have hil:i<l.length:=by rw[c1];exact hi
         have h1:l[i]? =some l[i]:=List.getElem?_eq_getElem hil;have h2:=hlg i _ h1;show k.nf i≤capOf l fc i;unfold capOf;rw[h1];have:=(l[i]).hc;simp only;omega
       · have hil:i<l.length:=by rw[c1];exact hi
         have h1:l[i]? =some l[i]:=List.getElem?_eq_getElem hil;have h2:=hlg i _ h1;have h3:=(l[i]).src (H:=H') (fun y hy=> hs'.at_ y (by have h0:y∈blsOf l:=List.mem_flatMap.2 ⟨_,List.getElem_mem hil,hy⟩;simp[h0]));rw[h2.1,h2.2] at h3;show SrcAt H' 1 (.slice (addrOf l F i) (k.nf i) (capOf l fc i)) (k.nf i) (flatR (k.nf i) (freeL (k.free i)));have h4:Gl.val l[i]=.slice (addrOf l F i) (k.nf i) (capOf l fc i):=by
           unfold addrOf capOf;rw[h1,←h2.2];rfl
         rw[←h4];exact h3
     · have c2:l.length<k.nl:=by omega
       have f1:ldL false 1 (flatR k.nl (rowL k (addrOf l F) (capOf l fc))++gj) (0+((l.length:Nat):Int).toNat*3+2)=some (.slice (F l.length) (k.nf l.length) (fc l.length)):=by
         show _[_]? =_;rw[Nat.zero_add,Int.toNat_natCast,flatR_cell (f:=rowL k (addrOf l F) (capOf l fc)) (sz:=3) (d:=2) (fun _=> rfl) c2 (by decide)];simp[rowL,addrOf,capOf]
       have f2:Nat.ble (0+((l.length:Nat):Int).toNat*3+2+1) (flatR k.nl (rowL k (addrOf l F) (capOf l fc))++gj).length=true:=by
         refine Nat.ble_eq_true_of_le ?_;rw[List.length_append,flatR_len (f:=rowL k (addrOf l F) (capOf l fc)) (sz:=3) (fun _=> rfl),Int.toNat_natCast];omega
       refine U14 ?_;refine Tc.dr [14] [3] mixed rfl ?_;refine .nn 0 ?_;refine .nn 1 ?_;refine .nn 2 ?_;refine .nn 3 ?_;refine .nn 4 ?_;refine .nn 5 ?_;refine .nn 6 ?_;refine .nn 7 ?_;refine .nn 8 ?_;refine .nn 9 ?_;refine .nn 10 ?_;refine Ta.each [11] (by kernel_rfl) rfl ⟨TaOp.mk rfl rfl rfl (Or.callNew Gl.val Gl.bl (fun g:Gl 110 1=> g.l=flatR (k.nf l.length) (freeL (k.free l.length))∧g.n=k.nf l.length) rfl rfl rfl rfl rfl (by decide) gl_nodup (fun H₁ hs₁=> .h (clone140_c M H₁ (F l.length) (k.nf l.length) (fc l.length) _ (by have:=hnf _ c2;omega) ((hB.free _ c2).mono hs₁.base) (flatR_single (freeL_single (k.free l.length)) _))) (fun g hg=> ⟨S2.mk (by apply List.Sublist.cons_cons;apply List.Sublist.cons_cons;apply List.Sublist.cons_cons;apply List.Sublist.cons;exact List.sublist_append_left _ _) (.inr (by exact List.sublist_append_left _ _)),?_⟩)),trivial⟩;refine .nw 12 ?_;refine .nn 13 ?_;refine .e 14 3 ?_;refine .dn ?_;refine U5 ?_;have hst:stL (flatR k.nl (rowL k (addrOf l F) (capOf l fc))++gj) (0+((l.length:Nat):Int).toNat*3+2) (Gl.val g).cells.toList=flatR k.nl (rowL k (addrOf (l++[g]) F) (capOf (l++[g]) fc))++gj:=by
         rw[Nat.zero_add,Int.toNat_natCast];refine flatR_st (f:=rowL k (addrOf l F) (capOf l fc)) (sz:=3) (d:=2) (fun _=> rfl) c2 (by decide) gj (Gl.val g) (fun i _ hi=> ?_) ?_
         · by_cases h1:i<l.length
           · simp only[rowL,addrOf,capOf,List.getElem?_append_left h1]
           · simp only[rowL,addrOf,capOf];rw[List.getElem?_eq_none (by simp;omega),List.getElem?_eq_none (by omega)]
         · simp only[rowL,addrOf,capOf,List.getElem?_concat_length];rw[←hg.2];rfl
       have hbl:blsOf (l++[g])=blsOf l++g.bl:=by simp[blsOf]
       refine Tc.dropB (ih ⟨l++[g],by simp;omega,fun i g' hi=> ?_⟩ (by simp;omega)) ?_ ?_
       · by_cases h1:i<l.length
         · rw[List.getElem?_append_left h1] at hi;exact hlg i g' hi
         · by_cases h2:i=l.length
           · subst h2;rw[List.getElem?_concat_length] at hi;cases hi
             exact hg
           · rw[List.getElem?_eq_none (by simp;omega)] at hi;cases hi
       · refine⟨rfl,rfl,rfl,rfl,rfl,?_,trivial⟩;have hlen:(((l++[g]).length:Nat):Int)=(l.length:Nat)+1:=by simp
         show _=some (Value.int .i64 (((l++[g]).length:Nat):Int));rw[hlen];rfl
       · show List.Sublist (_++blsOf (l++[g])) _;rw[hbl,←hst,←List.append_assoc];exact List.Sublist.refl _
end
end Go.Proofs.YtldmfjcgjdchcaaGreatDoor
namespace Go.Proofs.YtldmfjcgjdchcaaGreatDoor
open Go.RL Go.Proofs.Tryz
set_option maxRecDepth 10000
def Bk.earsL(k:Bk):Nat→List Ear
 | 0=> [⟨[],0,false⟩]
 | i+1=> (k.earsL i).flatMap fun e=> (k.can i).map fun x=> e.hear x.1 x.2
theorem Bk.mem_earsL(k:Bk):∀n e,e∈k.earsL n↔k.earsS n e
 | 0,e=> by simp[Bk.earsL,Bk.earsS]
 | n + 1,e=> by
   simp only[Bk.earsL,Bk.earsS,List.mem_flatMap,List.mem_map];constructor
   · rintro⟨e0,h0,x,hx,rfl⟩;exact⟨e0,(k.mem_earsL n e0).1 h0,x,hx,rfl⟩
   · rintro⟨e0,h0,x,hx,rfl⟩;exact⟨e0,(k.mem_earsL n e0).2 h0,x,hx,rfl⟩
def distinct:List Int→List Int
 | []=> []
 | x::t=> if x∈distinct t then distinct t else x::distinct t
theorem mem_distinct {x:Int}:∀l:List Int,x∈distinct l↔x∈l
 | []=> Iff.rfl
 | y ::t=> by
   unfold distinct;split
   · rename_i h
     rw[List.mem_cons,mem_distinct t];constructor
     · exact .inr
     · rintro(rfl|h')
       · exact(mem_distinct t).1 h
       · exact h'
   · rw[List.mem_cons,List.mem_cons,mem_distinct t]
theorem distinct_nodup:∀l:List Int,(distinct l).Nodup
 | []=> List.nodup_nil
 | y ::t=> by
   unfold distinct;split
   · exact distinct_nodup t
   · rename_i h
     exact List.nodup_cons.2 ⟨h,distinct_nodup t⟩
def Bk.resL(k:Bk):List Int:=distinct ((k.earsL k.nt).map fun e=> firstI (k.line e.heard))
theorem Bk.mem_resL(k:Bk)(z:Int):z∈k.resL↔k.resS z:=by
 unfold Bk.resL Bk.resS;rw[mem_distinct,List.mem_map];constructor
 · rintro⟨e,h,rfl⟩;exact⟨e,(k.mem_earsL _ e).1 h,rfl⟩
 · rintro⟨e,h,rfl⟩;exact⟨e,(k.mem_earsL _ e).2 h,rfl⟩
theorem resF_size {es:Array MapEntry}{cl:Nat}{S:Int→Prop}(h:MapOk es cl (resF S)){l:List Int}(hl:l.Nodup)(hS:∀z,z∈l↔S z):es.size=l.length:=by
 have hp:(es.toList.map (·.key)).Perm (l.map fun z=> Value.int .i64 z):=by
   rw[List.perm_ext_iff_of_nodup h.keys (List.Pairwise.map _ (fun a b hab=> by simpa using hab) hl)];intro x;rw[List.mem_map,List.mem_map];constructor
   · rintro⟨e,he,rfl⟩;obtain⟨z,h1,h2,_⟩:=resF_keys h e he;exact⟨z,(hS z).2 h1,h2.symm⟩
   · rintro⟨z,hz,rfl⟩;obtain⟨e,he,h2,_⟩:=(h.mem (.int .i64 z) (.bool true)).1 ⟨z,(hS z).1 hz,rfl,rfl⟩;exact⟨e,he,h2⟩
 have:=hp.length_eq;simpa using this
theorem Bk.res_size {k:Bk}{es:Array MapEntry}{cl:Nat}(h:MapOk es cl (resF k.resS)):es.size=k.resL.length:=resF_size h (distinct_nodup _) k.mem_resL
end Go.Proofs.YtldmfjcgjdchcaaGreatDoor
namespace Go.RL
open Go.Conc
section
variable {P:Program}{M:Md P}{St:View→Goroutine→Prop}{n:Nat}{b:FB}{H₀ H₁:View}{cs:List Frame}{R:Rg}{L:Bl}{ds:List Deferred}{k:List Item}{md:Region.Mode}{ops:Array Oper}
theorem S2.mkL {B:List Nat}{Ls Lb L₁:Bl}{listed:Array Bool}(hle:H₀.le H₁)(h1:Ls.Sublist L₁)(h2:(B.all fun j=> !(listed.getD j true))=false∨Lb.Sublist L₁):∀H,SymSt H₁ L₁ H→S2 H₀ B Ls Lb listed H:=fun H hs=> S2.mk h1 h2 H (hs.lower hle)
theorem Ta.callL(i:Nat){B:List Nat}{Hs:View}{Ls Lb:Bl}{o:Oper}{d:Nat}{fuel:Nat}{listed:Array Bool}{cl:Go.Call}{x:Operand}{fv:Value}{az:List Value}(hr:Region.ready md ops listed= [i])(hi:ops[i]? =some o)
   (hw:wantB (ops.toList.map (fun o:Oper=> o.dst)) R o=some true) (hop:o.op=.call cl) (hcl:cl.callee=.value x) (hx:evR R x=some fv) (has:evRs R cl.args.toList=some az) (hd:o.dst=some d) (hn:d<n)
   {Q:Value→View→Prop} (hc:FnT M fv az H₀ Q) (hle:∀v H₁,Q v H₁→Hs.le H₁) (h1:Ls.Sublist L) (h2:(B.all fun j=> !((listed.setIfInBounds i true).getD j true))=false∨Lb.Sublist L)
   (hk:∀v H₁,Q v H₁→Ta M St n b H₁ cs (S2 Hs B Ls Lb) md ops fuel (listed.setIfInBounds i true) ((d,v)::R) L ds k):
   Ta M St n b H₀ cs (S2 Hs B Ls Lb) md ops (fuel+1) listed R L ds k:=fun H tmps hs hr' _ H₂ h2' _=> by
 have hs:=hs.mono h2';refine⟨fun e=> (by rw[hr] at e;cases e),fun j hj o' ho'=> ?_⟩;rw[hr] at hj;have:j=i:=by simpa using hj
 subst this;rw[hi] at ho';cases ho'
 refine⟨(by rw[hop];rfl),?_⟩;have hw':Region.wanted o (yielded ops tmps)=true:=wantB_ok (fun j=> by
   simp only[List.getElem?_map,Array.getElem?_toList];cases ops[j]? <;> rfl) hr' hw
 rw[if_pos hw'];obtain⟨F,rfl,hdj,hF⟩:=hs.split;have e1:=hr'.ev hx;have hmap:cl.args.map (evT tmps)=az.toArray:=by
   apply Array.ext'
   simpa using hr'.evs has
 have hex:execOp (evT tmps) o=(Deferred.ofValue fv az.toArray).bind fun d=> invoke d.target d.args:=by
   have h1:execOp (evT tmps) o=(resolve (evT tmps) cl o.type).bind fun d=> invoke d.target d.args:=by unfold execOp;rw[hop];rfl
   rw[h1];unfold resolve;rw[hcl];simp only[e1,hmap]
 unfold OpRun;rw[hex];have fin:∀v H'',Beside F Q v H''→S2 Hs B Ls Lb (listed.setIfInBounds j true) H''∧AnyT M md ops (S2 Hs B Ls Lb) (fun tmps H=> T M St H (G (b.at tmps ds k) cs)) fuel (listed.setIfInBounds j true) (putT tmps o.dst v) H'':=by
   rintro v H'' ⟨H₁,rfl,hd',hq⟩;have hsy:SymSt H₁ L (H₁.plus F):=.joined hs.nodup hF hd';have hS:S2 Hs B Ls Lb (listed.setIfInBounds j true) (H₁.plus F):=S2.mkL (hle v H₁ hq) h1 h2 _ hsy;refine⟨hS,?_⟩;rw[hd];exact hk v H₁ hq _ _ hsy (hr'.put hn v) hS
 refine vwp_mono _ (fun nx H' hn'=> ?_) (hc.frame hdj);cases nx <;> first
   | exact hn'.elim
   | exact CallT.mono hn' fin
   | exact GoT.mono hn' fin
theorem Tc.drE {id:Nat}{fuel:Nat}(B E E':List Nat)(hm:P.follows .mixedOrders=true)(hf:ops.size=fuel)(h:Ta M St n b H₀ cs (S2 H₀ B (eraseL L E) (eraseL L E')) .any ops fuel (Array.replicate fuel false) R L ds k):
   Tc M St n b H₀ cs R L ds (.code (.region id ops true)::k):=fun H tmps hs hr=> by
 subst hf;refine .region_draw fun t=> ?_;simp only[Region.schedule,hm,Bool.true_or,if_true];have hS:=S2.mk (H₀:=H₀) (B:=B) (listed:=Array.replicate ops.size false) (eraseL_sub E L) (.inr (eraseL_sub E' L)) H hs;exact(h H tmps hs hr hS).sound _ t _ _ _ hS
end
end Go.RL
namespace Go.Proofs.YtldmfjcgjdchcaaGreatDoor
open Go.RL Go.Proofs.Tryz
set_option maxRecDepth 10000
set_option maxHeartbeats 16000000
def Bk.pauseOf(k:Bk)(d:Nat):Int:=if d=0 then 0 else if d=1 then k.gap else k.give
def Bk.leftOf(k:Bk)(t:Nat)(x:Nat×Nat):Nat:=(k.with t x.1 x.1 (k.pauseOf x.2) (k.pauseOf x.2)).resL.length
def Bk.left(k:Bk)(t:Nat):Nat:=(k.can t).foldl (fun m x=> max m (k.leftOf t x)) 0
theorem Bk.leftOk {k:Bk}(hok:k.trainsOk)(hg1:0≤k.gap∧k.gap≤99)(hg2:0≤k.give∧k.give≤99){t:Nat}{x:Nat×Nat}(h1:1≤x.1)(h2:x.1≤12):(k.with t x.1 x.1 (k.pauseOf x.2) (k.pauseOf x.2)).trainsOk:=fun i hi=> by
 have h3:=hok i hi;have hp:0≤k.pauseOf x.2∧k.pauseOf x.2≤99:=by
   unfold Bk.pauseOf;split
   · omega
   · split <;> omega
 simp only[Bk.with];split
 · unfold trainOk;simp only[Bool.and_eq_true,decide_eq_true_eq];omega
 · exact h3
section
variable(M:Md prog)(H:View)
theorem left_c(k:Bk)(A:Option Addr)(lc:Nat)(B:Option Addr)(tc:Nat)(F:Nat→Option Addr)(fc:Nat→Nat)(hB:BookAt H k A lc B tc F fc)(hn:k.nl≤1000)(hnf:∀i,i<k.nl→k.nf i≤1000)(hok:k.trainsOk)(h6:k.nt≤6)(hg1:0≤k.gap∧k.gap≤99)(hg2:0≤k.give∧k.give≤99)(t:Nat)(ht:t<k.nt):
   CallT M 127 #[k.val A lc B tc,.int .i64 (t:Nat)] H (fun v H'=> H.le H'∧v=.int .i64 (k.left t:Nat)):=by
 have hT:=hB.trainsAt;have htr:=k.train_in hok ht;refine .en func127 ntmps127 fun St c cs hK=> ?_;refine U2 ?_;refine .bo fun b2=> ?_;refine .bo fun b3=> ?_;refine U11 ?_;refine .al fun b5=> ?_;refine U4 ?_;refine .al fun b6=> ?_;refine U7 ?_;refine To.callF rfl rfl rfl rfl rfl rfl (by decide) (FnT.h (can_c M H k A lc B tc hT t ht)) (fun v H₁ hv=> ?_);obtain⟨hle1,c5,c2,rfl,hcap⟩:=hv;refine U ?_;have hit:=fun(H':View) (hc:CapC (trainV (k.pf t) (k.pt t) (k.qf t) (k.qt t)) (k.val A lc B tc) c5 c2 H')=> can_it M H' k A lc B tc t (k.pf t).toNat (k.pt t).toNat _ _ (by omega) (by omega) (by omega) rfl rfl (k.kind_le _) c5 c2 hc;refine U ?_;refine Tc.db (R':= [(2,.pointer (some ⟨b2,0,none⟩)),(3,.pointer (some ⟨b3,0,none⟩)),(5,.pointer (some ⟨b5,0,none⟩)),(6,.pointer (some ⟨b6,0,none⟩)),(18,canF c5 c2)]) (L':= [(b6,true,.cells ⟨[.int .i64 ((0:Nat):Int)]⟩ 3 (0,0)),(b5,true,.cells ⟨[.int .i64 0,.int .i64 k.gap,.int .i64 k.give]⟩ 315 (0,0)),(b3,true,.cells ⟨[.int .i64 (t:Nat)]⟩ 3 (0,0)),(b2,true,.cells ⟨(k.val A lc B tc).cells.toList⟩ 166 (0,0))]) ?_;refine Tc.rangeL (A:= []) (ts:= [19,20]) (xs:=k.can t) (fun rest H₄ L₄=> ∃m:Nat,L₄= [(b6,true,.cells ⟨[.int .i64 (m:Int)]⟩ 3 (0,0)),(b5,true,.cells ⟨[.int .i64 0,.int .i64 k.gap,.int .i64 k.give]⟩ 315 (0,0)),(b3,true,.cells ⟨[.int .i64 (t:Nat)]⟩ 3 (0,0)),(b2,true,.cells ⟨(k.val A lc B tc).cells.toList⟩ 166 (0,0))]
     ∧rest.foldl (fun m x=> max m (k.leftOf t x)) m=k.left t∧CapC (trainV (k.pf t) (k.pt t) (k.qf t) (k.qt t)) (k.val A lc B tc) c5 c2 H₄∧H₁.le H₄) (fun _ _ _=> False) rfl rfl rfl rfl hit (fun _ _=> CapC.le _ _) (fun _ _ _ ⟨_,_,_,h,_⟩=> h) rfl (fun _ _=> rfl)
     ⟨0,rfl,rfl,hcap,View.le_refl _⟩ ?_ ?_ (fun _ _ _ _ h=> h.elim)
 · rintro r x rest _ l tmps asg bdy H₄ _ hx ⟨m,rfl,q2,q3,q4⟩ Q St1 cc1 cs1 hK1 q q';have hxin:=k.can_in hok ht hx;have hx1:=(mem_canL.1 hx).1.1;have hx2:1≤x.1:=by omega
   obtain⟨n,d⟩:=x;have hok':=k.leftOk hok hg1 hg2 (t:=t) hx2 hxin.1;simp only at hxin hx1 hx2 hok' q2;have f1:ldL false 1 [Value.int .i64 0,.int .i64 k.gap,.int .i64 k.give] (0+((d:Nat):Int).toNat*1)=some (.int .i64 (k.pauseOf d)):=by
     rcases(by omega:d=0∨d=1∨d=2) with rfl|rfl|rfl <;> rfl
   refine U7 ?_;refine Tc.beginRound (i:=0) rfl rfl rfl ?_;refine U ?_;refine Tc.dr [14] [2] mixed rfl ?_;refine .nn 0 ?_;refine .nn 1 ?_;refine .nn 2 ?_;refine .nn 3 ?_;refine .z 4 rfl (OpV.takeCall rfl rfl rfl rfl (fun H hs=> .h (one_c M H (n:Nat)))) ?_;refine .nn 5 ?_;refine .nn 6 ?_;refine .nn 7 ?_;refine .z 8 rfl (OpV.takeCall rfl rfl rfl rfl (fun H hs=> .h (one_c M H (k.pauseOf d)))) ?_;refine .nn 9 ?_;refine Ta.callL 10 (by kernel_rfl) rfl rfl rfl rfl rfl rfl rfl (by decide) (FnT.h (with_c M H₄ k A lc B tc F fc (hB.le (View.le_trans hle1 q4)) hn (by omega) hnf t ht (n:Nat) (n:Nat) (k.pauseOf d) (k.pauseOf d))) (by intro _ _ hh;exact hh.1) (by apply List.Sublist.cons_cons;apply List.Sublist.cons_cons;apply List.Sublist.cons;exact List.Sublist.refl _) (.inr (by exact List.Sublist.refl _)) (fun v5 H₅ hv5=> ?_);obtain⟨hle5,A',lc',B',tc',F',fc',rfl,hB'⟩:=hv5;refine Ta.callL 11 (by kernel_rfl) rfl rfl rfl rfl rfl rfl rfl (by decide) (FnT.h (results_c M H₅ (k.with t (n:Nat) (n:Nat) (k.pauseOf d) (k.pauseOf d)) A' lc' B' tc' hB'.rowsAt hn hB'.trainsAt hok' h6)) (by intro _ _ hh;exact View.le_trans (by assumption) hh.1) (by apply List.Sublist.cons_cons;apply List.Sublist.cons_cons;apply List.Sublist.cons;exact List.Sublist.refl _) (.inr (by exact List.Sublist.refl _)) (fun v6 H₆ hv6=> ?_);have hle46:H₄.le H₆:=View.le_trans hle5 hv6.1;obtain⟨hle6,m',es,cl,rfl,⟨fm,g5⟩,g6⟩:=hv6;have hz:(if((es.size:Nat):Int)>(m:Int) then((es.size:Nat):Int) else(m:Int))=((max m (k.leftOf t (n,d)):Nat):Int):=by
     have h1:=Bk.res_size g6;have h2:k.leftOf t (n,d)=es.size:=h1.symm;rw[h2];split <;> omega
   refine Ta.each [12] (by kernel_rfl) rfl ⟨TaOp.mk rfl rfl rfl (Or.ofV (OpV.lenMap (E:=en) (es:=es) rfl rfl rfl rfl rfl (fun H hs=> ⟨fm,hs.base _ _ g5⟩) rfl rfl) rfl (by decide) ⟨S2.mkL (by assumption) (by apply List.Sublist.cons_cons;apply List.Sublist.cons_cons;apply List.Sublist.cons;exact List.Sublist.refl _) (.inr (by exact List.Sublist.refl _)),?_⟩),trivial⟩;refine Ta.each [13] (by kernel_rfl) rfl ⟨TaOp.mk rfl rfl rfl (Or.ofV (OpV.max rfl rfl rfl rfl rfl rfl (by assumption)) rfl (by decide) ⟨S2.mkL (by assumption) (by apply List.Sublist.cons_cons;apply List.Sublist.cons_cons;apply List.Sublist.cons;exact List.Sublist.refl _) (.inr (by exact List.Sublist.refl _)),?_⟩),trivial⟩;refine Ta.each [14] (by kernel_rfl) rfl ⟨TaOp.mk rfl rfl rfl (.st 2 (zz:=⟨S2.mkL (by assumption) (by apply List.Sublist.cons_cons;apply List.Sublist.cons_cons;apply List.Sublist.cons;exact List.Sublist.refl _) (.inl (by kernel_rfl)),?_⟩)),trivial⟩;refine .dn ?_;refine U ?_;refine Tc.leaveRound hK1 (i:=0) rfl (.inl ⟨rfl,rfl⟩) (fun H' hs=> q H' H₆ _ hs ⟨max m (k.leftOf t (n,d)),rfl,q2,CapC.le _ _ hle46 q3,View.le_trans q4 hle46⟩)
 · rintro r H₄ _ ⟨m,rfl,q2,q3,q4⟩;have q5:m=k.left t:=q2;subst q5;refine U6 ?_;refine Tc.retD (E:=en) (i:=0) hK func127 results127 (vs:= [_]) rfl ⟨rfl,trivial⟩ ?_;exact fun H' hs=> ⟨View.le_trans hle1 (View.le_trans q4 hs.base),rfl⟩
end
def Bk.fateAt(k:Bk)(n:Nat):Option Int:=match distinct ((k.earsL n).map fun e=> k.fate e (decide (n=k.nt))) with
 | [f]=> if f= -2 then none else some f
 | _=> none
def Bk.settledTo(k:Bk):Nat→Option (Nat×Int)
 | 0=> none
 | n+1=> (k.settledTo n).or ((k.fateAt n).map fun f=> (n,f))
def Bk.settled(k:Bk):Option (Nat×Int):=k.settledTo (k.nt+1)
theorem Bk.settledTo_stays {k:Bk}{j:Nat}{x:Nat×Int}(h:k.settledTo j=some x):∀m,j≤m→k.settledTo m=some x:=by
 intro m hm;induction m with
 | zero=>
   have:j=0:=by omega
   subst this;exact h
 | succ m ih=>
   by_cases e:j=m+1
   · subst e;exact h
   · rw[Bk.settledTo,ih (by omega)];rfl
theorem distinct_one {l:List Int}{z:Int}(h0:z∈l)(h:∀y∈l,y=z):distinct l= [z]:=by
 have hm:∀y,y∈distinct l↔y∈l:=fun y=> mem_distinct l;have hn:=distinct_nodup l;cases hd:distinct l with
 | nil=>
   have:=(hm z).2 h0;rw[hd] at this;cases this
 | cons a t=>
   rw[hd] at hm hn;have ha:a=z:=h a ((hm a).1 (List.mem_cons_self ..));cases t with
   | nil=> rw[ha]
   | cons b t'=>
     have hb:b=z:=h b ((hm b).1 (by simp));rw[ha,hb] at hn;simp at hn
theorem Bk.fateAt_some {k:Bk}{n:Nat}{f:Int}(hf:f≠ -2){e0:Ear}(h0:k.earsS n e0)(h:∀e,k.earsS n e→k.fate e (decide (n=k.nt))=f):k.fateAt n=some f:=by
 unfold Bk.fateAt;rw[distinct_one (z:=f)]
 · simp only;rw[if_neg hf]
 · exact List.mem_map.2 ⟨e0,(k.mem_earsL n e0).2 h0,h e0 h0⟩
 · intro y hy;obtain⟨e,he,rfl⟩:=List.mem_map.1 hy;exact h e ((k.mem_earsL n e).1 he)
theorem Bk.fateAt_all {k:Bk}{n:Nat}{f:Int}(h:k.fateAt n=some f):f≠ -2∧∀e,k.earsS n e→k.fate e (decide (n=k.nt))=f:=by
 unfold Bk.fateAt at h;split at h
 · rename_i g hg
   split at h
   · cases h
   · rename_i hne
     cases h
     refine⟨hne,fun e he=> ?_⟩;have:=(mem_distinct _).2 (List.mem_map.2 ⟨e,(k.mem_earsL n e).2 he,rfl⟩:k.fate e (decide (n=k.nt))∈(k.earsL n).map fun e=> k.fate e (decide (n=k.nt)));rw[hg] at this;simpa using this
 · cases h
theorem Bk.fateAt_none2 {k:Bk}{n:Nat}{e e':Ear}(h:k.earsS n e)(h':k.earsS n e')(hne:k.fate e (decide (n=k.nt))≠k.fate e' (decide (n=k.nt))):k.fateAt n=none:=by
 cases hq:k.fateAt n with
 | none=> rfl
 | some f=>
   obtain⟨_,h2⟩:=Bk.fateAt_all hq;exact(hne ((h2 e h).trans (h2 e' h').symm)).elim
theorem Bk.fateAt_none1 {k:Bk}{n:Nat}{e:Ear}(h:k.earsS n e)(hne:k.fate e (decide (n=k.nt))= -2):k.fateAt n=none:=by
 cases hq:k.fateAt n with
 | none=> rfl
 | some f=>
   obtain⟨h1,h2⟩:=Bk.fateAt_all hq;exact(h1 ((h2 e h).symm.trans hne)).elim
theorem Bk.ears_some(k:Bk)(hok:k.trainsOk):∀n,n≤k.nt→∃e,k.earsS n e
 | 0,_=> ⟨_,rfl⟩
 | n + 1,hn=> by
   obtain⟨e0,h0⟩:=k.ears_some hok n (by omega);obtain⟨h1,h2,h3⟩:=k.train_in hok (i:=n) (by omega);refine⟨_,e0,h0,((k.pf n).toNat,k.kind (k.qf n)),mem_canL.2 ⟨⟨Nat.le_refl _,by omega⟩,Nat.le_refl _,?_⟩,rfl⟩;simp only;unfold Bk.kind;split
   · omega
   · split
     · split
       · omega
       · split <;> omega
     · split
       · omega
       · split
         · omega
         · omega
theorem Bk.alarm0 {k:Bk}(h:k.alarm=0):k.pausesA=0∧k.linesA=0∧k.trainsA=0:=by
 unfold Bk.alarm at h;split at h
 · rename_i h1
   split at h
   · rename_i h2
     exact⟨h1,h2,h⟩
   · rename_i h2
     exact(h2 h).elim
 · rename_i h1
   exact(h1 h).elim
theorem firstTo_none {p:Nat→Bool}:∀n,firstTo p n=none↔∀i,i<n→p i=false
 | 0=> ⟨fun _ i hi=> by omega,fun _=> rfl⟩
 | n + 1 => by
   rw[firstTo];constructor
   · intro h i hi;cases hq:firstTo p n with
     | some j=> rw[hq] at h;cases h
     | none=>
       rw[hq] at h;by_cases e:i=n
       · subst e;cases hp:p i with
         | false=> rfl
         | true=> rw[hp] at h;cases h
       · exact(firstTo_none n).1 hq i (by omega)
   · intro h;rw[(firstTo_none n).2 (fun i hi=> h i (by omega)),h n (by omega)];rfl
theorem Bk.valid {k:Bk}(h:k.alarm=0):(1≤k.gap∧k.gap≤99∧k.gap+1≤k.give∧k.give≤99)∧k.nl≤6∧k.nt≤6∧k.trainsOk:=by
 obtain⟨h1,h2,h3⟩:=Bk.alarm0 h;unfold Bk.pausesA at h1;unfold Bk.linesA at h2;unfold Bk.trainsA at h3;refine⟨?_,?_,?_,?_⟩
 · split at h1
   · omega
   · cases h1
 · split at h2
   · cases h2
   · omega
 · split at h3
   · cases h3
   · omega
 · split at h3
   · cases h3
   · split at h3
     · cases h3
     · rename_i hq
       intro i hi;have h4:firstTo k.trainBad k.nt=none:=by
         cases hz:firstTo k.trainBad k.nt with
         | none=> rfl
         | some j=> rw[hz] at hq;exact(hq rfl).elim
       have h5:=(firstTo_none _).1 h4 i hi;unfold Bk.trainBad at h5;simpa using h5
def settledV:Option (Nat×Int)→Value
 | none=> .tuple ⟨[.int .i64 0,.int .i64 0,.bool false,.int .i64 0]⟩
 | some (n,f)=> .tuple ⟨[.int .i64 (n:Nat),.int .i64 f,.bool true,.int .i64 0]⟩
theorem map_find {es:Array MapEntry}{cl:Nat}{F:Value→Value→Prop}(h:MapOk es cl F){e:MapEntry}(he:e∈es.toList):es.find? (fun x=> x.born==e.born)=some e:=by
 rw[←Array.find?_toList];cases hf:es.toList.find? (fun x=> x.born==e.born) with
 | none=> have:=List.find?_eq_none.1 hf e he;simp at this
 | some e'=>
   have h3:=List.mem_of_find?_eq_some hf;have h4:=List.find?_some hf;simp only[beq_iff_eq] at h4;obtain⟨i,hi,rfl⟩:=List.mem_iff_getElem.1 h3;obtain⟨j,hj,rfl⟩:=List.mem_iff_getElem.1 he;have hb:=h.borns;have hi':i<(es.toList.map (·.born)).length:=by rw[List.length_map];exact hi
   have hj':j<(es.toList.map (·.born)).length:=by rw[List.length_map];exact hj
   have:(es.toList.map (·.born))[i]=(es.toList.map (·.born))[j]:=by rw[List.getElem_map,List.getElem_map];exact h4
   have:=(List.getElem_inj hb).1 this;subst this;rfl
section
variable(M:Md prog)(H:View)
theorem Settled_c(k:Bk)(A:Option Addr)(lc:Nat)(B:Option Addr)(tc:Nat)(hk:BkAt H k A lc B tc)(hn:k.small)(hG:Glob H)(ha:k.alarm=0):
   CallT M 52 #[k.val A lc B tc] H (fun v H'=> H.le H'∧v=settledV k.settled):=by
 obtain⟨_,hnl,hnt,hok⟩:=Bk.valid ha;refine .en func52 ntmps52 fun St c cs hK=> ?_;refine U2 ?_;refine .bo fun b1=> ?_;refine U5 ?_;refine Tc.scope ?_;refine U3 ?_;refine .c rfl rfl rfl rfl (fun H hs=> .h (open_yes M H k A lc B tc (hk.le hs.base) hn (glob_le hG hs.base) ha)) ?_;refine U3 ?_;refine .al fun b6=> ?_;refine U12 ?_;refine Tc.label ?_;refine U10 ?_;refine Tc.db (Tc.loopB (σ:= { s:View×Nat//H.le s.1∧s.2≤k.nt+1∧k.settledTo s.2=none })
   (fun s=> (s.1.1,[(1,.pointer (some ⟨b1,0,none⟩)),(6,.pointer (some ⟨b6,0,none⟩)),(22,.int .i64 ((k.nt+1:Nat):Int)),(23,.int .i64 (s.1.2:Nat))],[(b6,true,.cells ⟨(k.val A lc B tc).cells.toList⟩ 166 (0,0)),(b1,true,.cells ⟨(k.val A lc B tc).cells.toList⟩ 45 (0,0))])) (fun s=> k.nt+1-s.1.2) ?_ ⟨(H,0),View.le_refl _,Nat.zero_le _,rfl⟩)
 rintro⟨⟨H₁,n⟩,g1,g2,g3⟩ ih₁;simp only at g1 g2 g3;show Tc M St _ _ H₁ _ [(1,.pointer (some ⟨b1,0,none⟩)),(6,.pointer (some ⟨b6,0,none⟩)),(22,.int .i64 ((k.nt+1:Nat):Int)),(23,.int .i64 (n:Nat))] [(b6,true,.cells ⟨(k.val A lc B tc).cells.toList⟩ 166 (0,0)),(b1,true,.cells ⟨(k.val A lc B tc).cells.toList⟩ 45 (0,0))] _ _;by_cases c1:n=k.nt+1
 · have e:k.settled=none:=by unfold Bk.settled;rw[←c1];exact g3
   subst c1;rw[e] at hK;refine U14 ?_;refine .rt hK func52 results52 [_,_,_,_] ?_;exact fun H' hs=> ⟨View.le_trans g1 hs.base,rfl⟩
 · have c2 : n ≤k.nt:=by omega
   have hover:intBin .eql .i64 ((n:Nat):Int) ((k.nt:Nat):Int)=some (.bool (decide (n=k.nt))):=by
     by_cases c:n=k.nt
     · rw[decide_eq_true c];exact eql_t (by omega)
     · rw[decide_eq_false c];exact eql_f (by omega)
   refine U16 ?_;refine .e (Or.makeMap rfl rfl (by decide) (fun mf=> ?_));refine U7 ?_;refine To.callF rfl rfl rfl rfl rfl rfl (by decide) (FnT.h (ears_c M H₁ k A lc B tc (hk.trains.le g1) hok hnt n c2)) (fun v H₂ hv=> ?_);obtain⟨hle,m,es,cl,rfl,⟨fm,q3⟩,q4⟩:=hv;refine .e (Or.range (E:=en) (es:=es) (cl:=cl) rfl rfl (fun H hs=> ⟨fm,hs.base _ _ q3⟩) rfl rfl rfl (by decide) (fun it=> ?_));refine U2 ?_;refine Tc.db (Tc.loopInv (σ:= { s:Array Nat×Array MapEntry×Nat×Option Int//MapOk s.2.1 s.2.2.1 (resF fun z=> s.2.2.2=some z)∧(∀z,s.2.2.2=some z→z≠ -2∧∃e,k.earsS n e∧k.fate e (decide (n=k.nt))=z)∧∀e,k.earsS n e→(s.2.2.2=some (k.fate e (decide (n=k.nt)))∨∃me∈unseen es s.1,me.key=e.val) })
     (fun s=> ([(1,.pointer (some ⟨b1,0,none⟩)),(6,.pointer (some ⟨b6,0,none⟩)),(7,.int .i64 (n:Nat)),(8,.map (some mf)),(22,.int .i64 ((k.nt+1:Nat):Int)),(23,.int .i64 (n:Nat)),(30,.pointer (some ⟨it,0,none⟩))],[(it,true,.mapIter (some m) cl s.1.1 cl),(mf,true,.map s.1.2.1 s.1.2.2.1),(b6,true,.cells ⟨(k.val A lc B tc).cells.toList⟩ 166 (0,0)),(b1,true,.cells ⟨(k.val A lc B tc).cells.toList⟩ 45 (0,0))])) (fun s=> (unseen es s.1.1).length) ?_ ⟨(#[],#[],0,none),MapOk.nil.congr (by rintro a b;simp[resF]),(fun z h=> by cases h),fun e he=> by
       rw[unseen_start];obtain⟨me,h1,h2,_⟩:=(q4.mem e.val (.bool true)).1 ⟨e,he,rfl,rfl⟩;exact .inr ⟨me,h1,h2⟩⟩)
   rintro⟨⟨seen,es2,cl2,o⟩,p2,p3,p4⟩ ih₂;simp only at p2 p3 p4;show Tc M St _ _ H₂ _ [(1,.pointer (some ⟨b1,0,none⟩)),(6,.pointer (some ⟨b6,0,none⟩)),(7,.int .i64 (n:Nat)),(8,.map (some mf)),(22,.int .i64 ((k.nt+1:Nat):Int)),(23,.int .i64 (n:Nat)),(30,.pointer (some ⟨it,0,none⟩))] [(it,true,.mapIter (some m) cl seen cl),(mf,true,.map es2 cl2),(b6,true,.cells ⟨(k.val A lc B tc).cells.toList⟩ 166 (0,0)),(b1,true,.cells ⟨(k.val A lc B tc).cells.toList⟩ 45 (0,0))] _ _;refine U2 ?_;refine .e (Or.next (es:=es) 0 rfl rfl rfl (fun H hs=> ⟨fm,hs.base _ _ q3⟩) q4.lt rfl (by decide) (fun me he hse=> ?_) (fun hall=> ?_))
   · have hp :=unseen_next q4.borns he hse;obtain⟨e0,u1,u2,_⟩:=earF_keys q4 me he;have hfind:=earF_find q4 he;have hf:=fun(H':View) (h':H₂.le H')=> fate_c M H' k A lc B tc (hk.rows.le (View.le_trans g1 (View.le_trans hle h'))) hn.nl e0 (decide (n=k.nt));obtain⟨z,hz⟩:∃z,k.fate e0 (decide (n=k.nt))=z:=⟨_,rfl⟩
     rw[hz] at hf;refine U8 ?_;refine .e (Or.entry (es:=es) (e:=me) (st:=me.born) rfl rfl (fun H hs=> ⟨true,hs.get (i:=0) rfl⟩) (fun H hs=> ⟨fm,hs.base _ _ q3⟩) (by simp) hfind rfl (by decide) ?_);rw[u2];refine U ?_;refine .al fun b9=> ?_;refine U12 ?_;refine .c rfl rfl rfl rfl (fun H hs=> .h (hf H hs.base)) ?_;refine .e (Or.mapUpdate (E:=en) 2 1 rfl rfl rfl rfl rfl rfl rfl (by decide) (int_key _) (resF_flat p2) rfl (fun r hr=> ?_));obtain⟨es4,cl4,e4,q6⟩:=p2.put (.bool true) hr;rw[e4];refine U ?_;have q7:MapOk es4 cl4 (resF fun y=> y=z∨o=some y):=q6.congr (resF_put _ _);have next0:k.fateAt n=none→k.settledTo (n+1)=none:=fun h=> by rw[Bk.settledTo,g3,h];rfl
     by_cases d1:∃y,o=some y∧y≠z
     · obtain⟨y,d2,d3⟩:=d1;obtain⟨_,e1,d4,d5⟩:=p3 y d2;have hno:=next0 (Bk.fateAt_none2 d4 u1 (by rw[d5,hz];exact d3));have hsz:es4.size=2:=resF_size q7 (l:= [z,y]) (by simp;exact fun h=> d3 h.symm) (fun x=> by rw[d2];simp;constructor <;> (rintro(h|h) <;> simp[h]));refine U3 ?_;refine .x (OpV.lenMap (E:=en) (es:=es4) rfl rfl rfl rfl rfl (fun H hs=> ⟨true,hs.get (i:=2) rfl⟩) rfl rfl) ?_;refine U12 ?_;exact Tc.db (ih₁ ⟨(H₂,n+1),View.le_trans g1 hle,by simp only;omega,hno⟩ (by simp only;omega))
     · have q8 :MapOk es4 cl4 (resF fun y=> y=z):=by
         have e:(fun y=> y=z∨o=some y)=fun y=> y=z:=by
           funext y
           refine propext ⟨?_,.inl⟩;rintro(h|h)
           · exact h
           · exact Classical.byContradiction fun h'=> d1 ⟨y,h,h'⟩
         rw[←e];exact q7
       have hsz:es4.size=1:=resF_size q8 (l:= [z]) (by simp) (fun x=> by simp);by_cases d2:z= -2
       · have hno:=next0 (Bk.fateAt_none1 u1 (hz.trans d2));refine U3 ?_;refine .x (OpV.lenMap (E:=en) (es:=es4) rfl rfl rfl rfl rfl (fun H hs=> ⟨true,hs.get (i:=2) rfl⟩) rfl rfl) ?_;refine U3 ?_;refine .x (OpV.lookup (E:=en) 1 (es:=es4) (v:=.bool true) rfl rfl rfl (fun H hs=> ⟨true,hs.get (i:=2) rfl⟩) rfl rfl rfl (by decide) (int_key (-2)) (resF_flat q8) (fun r hr=> resF_found q8 (t:=true) (by simp[d2]) hr)) ?_;refine U8 ?_;exact Tc.db (ih₁ ⟨(H₂,n+1),View.le_trans g1 hle,by simp only;omega,hno⟩ (by simp only;omega))
       · have d3:¬(-2:Int)=z:=fun h=> d2 h.symm;refine U3 ?_;refine .x (OpV.lenMap (E:=en) (es:=es4) rfl rfl rfl rfl rfl (fun H hs=> ⟨true,hs.get (i:=2) rfl⟩) rfl rfl) ?_;refine U3 ?_;refine .x (OpV.lookup (E:=en) 1 (es:=es4) (v:=.bool false) rfl rfl rfl (fun H hs=> ⟨true,hs.get (i:=2) rfl⟩) rfl rfl rfl (by decide) (int_key (-2)) (resF_flat q8) (fun r hr=> resF_found q8 (t:=false) (by simp[d3]) hr)) ?_;refine U5 ?_;exact Tc.db (ih₂ ⟨(seen.push me.born,es4,cl4,some z),q8.congr (by intro a b;simp[resF,eq_comm]),(fun y h=> by cases h;exact⟨d2,e0,u1,hz⟩),fun e he=> by
           rcases p4 e he with h|⟨me',h1,h2⟩
           · refine .inl ?_;have h3:=Classical.byContradiction fun h'=> d1 ⟨_,h,h'⟩;rw[h3]
           · rcases List.mem_cons.1 (hp.mem_iff.1 h1) with rfl|h6
             · have:=ear_inj (h2.symm.trans u2);rw[this,hz];exact .inl rfl
             · exact .inr ⟨me',h6,h2⟩⟩ (by simp only;rw[hp.length_eq];simp))
   · have hnil:=unseen_done hall;rw[hnil] at p4;simp only[List.not_mem_nil,false_and,exists_false,or_false] at p4;obtain⟨e1,he1⟩:=k.ears_some hok n c2;obtain⟨z,hz⟩:∃z,k.fate e1 (decide (n=k.nt))=z:=⟨_,rfl⟩
     have hoz:o=some z:=by rw[←hz];exact p4 e1 he1
     subst hoz;have hall2:∀e,k.earsS n e→k.fate e (decide (n=k.nt))=z:=fun e he=> (Option.some.inj (p4 e he)).symm;have hfa:k.fateAt n=some z:=Bk.fateAt_some (p3 z rfl).1 he1 hall2;have hset:k.settled=some (n,z):=Bk.settledTo_stays (j:=n+1) (by rw[Bk.settledTo,g3,hfa];rfl) _ (by omega);rw[hset] at hK;refine U8 ?_;refine .e (Or.range (E:=en) (es:=es2) (cl:=cl2) rfl rfl (fun H hs=> ⟨true,hs.get (i:=1) rfl⟩) rfl rfl rfl (by decide) (fun it2=> ?_));refine .done (.block (.loop (.sr ?_)));refine .e (Or.next (es:=es2) 0 rfl rfl rfl (fun H hs=> ⟨true,hs.get (i:=2) rfl⟩) p2.lt rfl (by decide) (fun me he hse=> ?_) (fun hall=> ?_))
     · obtain⟨y,u1,u2,_⟩:=resF_keys p2 me he;have u3:y=z:=(Option.some.inj u1).symm;subst u3;have hfind:=map_find p2 he;refine U8 ?_;refine .e (Or.entry (es:=es2) (e:=me) (st:=me.born) rfl rfl (fun H hs=> ⟨true,hs.get (i:=0) rfl⟩) (fun H hs=> ⟨true,hs.get (i:=2) rfl⟩) (by simp) hfind rfl (by decide) ?_);rw[u2];refine U12 ?_;refine .rt hK func52 results52 [_,_,_,_] ?_;exact fun H' hs=> ⟨View.le_trans g1 (View.le_trans hle hs.base),rfl⟩
     · have h1:=unseen_done hall;rw[unseen_start] at h1;obtain⟨me,h2,_⟩:=(p2.mem (.int .i64 z) (.bool true)).1 ⟨z,rfl,rfl,rfl⟩;rw[h1] at h2;cases h2
end
def Bk.inAt(k:Bk)(p q:Nat→Int)(i:Nat):Bool:=decide (k.pf i≤p i∧p i≤k.pt i)&&decide (k.qf i≤q i∧q i≤k.qt i)
def Bk.earTo(k:Bk)(p q:Nat→Int):Nat→Ear
 | 0=> ⟨[],0,false⟩
 | i+1=> (k.earTo p q i).hear (p i).toNat (k.kind (q i))
def follow3(s:List UInt8)(z a:Int):Value:=.tuple ⟨[strV s,.int .i64 z,.int .i64 a]⟩
def Bk.followV(k:Bk)(np nq:Nat)(p q:Nat→Int):Value:=
 if k.alarm≠0 then follow3 [] 0 k.alarm else if np≠k.nt∨nq≠k.nt then follow3 [] 0 2 else
   if(firstTo (fun i=> !k.inAt p q i) k.nt).isSome then follow3 [] 0 1 else follow3 (k.earTo p q k.nt).heard (firstI (k.line (k.earTo p q k.nt).heard)) 0
theorem Bk.earTo_bd {k:Bk}(h:k.trainsOk){p q:Nat→Int}:∀ {i:Nat},i≤k.nt→(∀j,j<i→k.inAt p q j=true)→(k.earTo p q i).heard.length≤i∧(k.earTo p q i).pend≤12*i
 | 0,_,_=> ⟨Nat.le_refl _,Nat.le_refl _⟩
 | i + 1,hi,hin=> by
   have h1:=Bk.earTo_bd h (p:=p) (q:=q) (i:=i) (by omega) (fun j hj=> hin j (by omega));have h2:=k.train_in h (i:=i) (by omega);have h3:=hin i (by omega);unfold Bk.inAt at h3;simp only[Bool.and_eq_true,decide_eq_true_eq] at h3;have:=Ear.hear_bd (e:=k.earTo p q i) (p:=(p i).toNat) (kd:=k.kind (q i)) h1.1 h1.2 (by omega);show((k.earTo p q i).hear _ _).heard.length≤_∧_;constructor
   · exact this.1
   · have:=this.2;show((k.earTo p q i).hear _ _).pend≤_;omega
section
variable(M:Md prog)(H:View)
theorem Follow_c (k:Bk)(A:Option Addr)(lc:Nat)(B:Option Addr)(tc:Nat)(hk:BkAt H k A lc B tc)(hn:k.small)(hG:Glob H)(P Q0:Option Addr)(np nq pc qc:Nat)(p q:Nat→Int)(hP:FreeAt H P np p)(hQ:FreeAt H Q0 nq q):
   CallT M 30 #[k.val A lc B tc,.slice P np pc,.slice Q0 nq qc] H (fun v H'=> H.le H'∧v=k.followV np nq p q):=by
 by_cases ha:k.alarm=0
 · have hop := fun(H':View) (h':H.le H')=> open_yes M H' k A lc B tc (hk.le h') hn (glob_le hG h') ha;by_cases c1:np=k.nt
   · by_cases c2 :nq=k.nt
     · obtain ⟨_,hnl,hnt,hok⟩:=Bk.valid ha;have ev:k.followV np nq p q=if(firstTo (fun i=> !k.inAt p q i) k.nt).isSome then follow3 [] 0 1 else follow3 (k.earTo p q k.nt).heard (firstI (k.line (k.earTo p q k.nt).heard)) 0:=by
         unfold Bk.followV;rw[if_neg (by simp[ha]),if_neg (by simp[c1,c2])]
       rw[ev];clear ev;subst c1;subst c2;refine .en func30 ntmps30 fun St c cs hK=> ?_;refine U2 ?_;refine .bo fun b3=> ?_;refine U7 ?_;refine .c rfl rfl rfl rfl (fun H hs=> .h (hop H hs.base)) ?_;refine U3 ?_;refine .al fun b9=> ?_;refine U35 ?_;refine .al fun b10=> ?_;refine U10 ?_;refine Tc.db (Tc.loopInv (σ:= { j:Nat//j≤k.nt∧∀i,i<j→k.inAt p q i=true }) (fun j=> ([(1,.slice P k.nt pc),(2,.slice Q0 k.nt qc),(3,.pointer (some ⟨b3,0,none⟩)),(9,.pointer (some ⟨b9,0,none⟩)),(10,.pointer (some ⟨b10,0,none⟩)),(38,.slice B k.nt tc),(39,.int .i64 (k.nt:Nat)),(40,.int .i64 (j.1:Nat))],
         [(b10,true,.cells ⟨(k.earTo p q j.1).val.cells.toList⟩ 170 (0,0)),(b9,true,.cells ⟨(k.val A lc B tc).cells.toList⟩ 166 (0,0)),(b3,true,.cells ⟨(k.val A lc B tc).cells.toList⟩ 45 (0,0))])) (fun j=> k.nt-j.1) ?_ ⟨0,Nat.zero_le _,fun i hi=> by omega⟩)
       rintro⟨j,hj,hin⟩ ih;show Tc M St _ _ _ _ [(1,.slice P k.nt pc),(2,.slice Q0 k.nt qc),(3,.pointer (some ⟨b3,0,none⟩)),(9,.pointer (some ⟨b9,0,none⟩)),(10,.pointer (some ⟨b10,0,none⟩)),(38,.slice B k.nt tc),(39,.int .i64 (k.nt:Nat)),(40,.int .i64 (j:Nat))]
         [(b10,true,.cells ⟨(k.earTo p q j).val.cells.toList⟩ 170 (0,0)),(b9,true,.cells ⟨(k.val A lc B tc).cells.toList⟩ 166 (0,0)),(b3,true,.cells ⟨(k.val A lc B tc).cells.toList⟩ 45 (0,0))] _ _
       by_cases c3:j=k.nt
       · subst c3;have e:(firstTo (fun i=> !k.inAt p q i) k.nt).isSome=false:=by
           rw[(firstTo_none _).2 (fun i hi=> by simp[hin i hi])];rfl
         rw[e] at hK;have hln:=fun(H':View) (h':H.le H')=> line_c M H' k A lc B tc (hk.rows.le h') hn.nl (k.earTo p q k.nt).heard;refine U8 ?_;refine Tc.dr [] [] mixed rfl ?_;refine .nn 0 ?_;refine .nn 1 ?_;refine .nn 2 ?_;refine .nn 3 ?_;refine .nn 4 ?_;refine .z 5 rfl (OpV.takeCall rfl rfl rfl rfl (fun H hs=> .h (hln H hs.base))) ?_;refine .nn 6 ?_;refine .nn 7 ?_;refine .nn 8 ?_;refine .dn ?_;refine .rt hK func30 results30 [_,_,_] ?_;exact okB
       · have c4 :j<k.nt:=by omega
         have hbd:=Bk.earTo_bd hok hj hin;have htr:=k.train_in hok c4;have hT:=hk.trains;obtain⟨_,h0|⟨tb,to,f,gs,gt,gz,rfl,hb,hl⟩⟩:=hT
         · omega
         obtain h0|⟨pb,po,fp,ps,pt,pz,rfl,hpb,hpl⟩:=hP
         · omega
         obtain h0|⟨qb,qo,fq,qs,qt,qz,rfl,hqb,hql⟩:=hQ
         · omega
         have f1:=hl j c4;have f2:=hpl j c4;have f3:=hql j c4;by_cases c5:k.pf j≤p j∧p j≤k.pt j
         · have h1:=fun(H':View)=> between_is M H' (p j) (k.pf j) (k.pt j) true (decide_eq_true c5);by_cases c6:k.qf j≤q j∧q j≤k.qt j
           · have h2:=fun(H':View)=> between_is M H' (q j) (k.qf j) (k.qt j) true (decide_eq_true c6);obtain⟨pn,hpn⟩:∃m:Nat,p j=m:=⟨(p j).toNat,by omega⟩
             rw[hpn] at f2 h1;have hh:=fun(H':View)=> hear_c M H' (k.earTo p q j) pn (k.kind (q j)) (by omega) (by omega) (by omega) (k.kind_le _);refine U14 ?_;refine .al fun b12=> ?_;refine U5 ?_;refine Tc.dr [] [] mixed rfl ?_;refine .nn 0 ?_;refine .nn 1 ?_;refine .nn 2 ?_;refine .nn 3 ?_;refine .nn 4 ?_;refine .nn 5 ?_;refine .nn 6 ?_;refine .nn 7 ?_;refine .nn 8 ?_;refine .nn 9 ?_;refine .z 10 rfl (OpV.takeCall rfl rfl rfl rfl (fun H hs=> .h (h1 H))) ?_;refine .nn 11 ?_;refine .nn 12 ?_;refine .nn 13 ?_;refine .nn 14 ?_;refine .nn 15 ?_;refine .nn 16 ?_;refine .nn 17 ?_;refine .nn 18 ?_;refine .nn 19 ?_;refine .nn 20 ?_;refine .nn 21 ?_;refine .nn 22 ?_;refine .z 23 rfl (OpV.takeCall rfl rfl rfl rfl (fun H hs=> .h (h2 H))) ?_;refine .nn 24 ?_;refine .nn 25 ?_;refine .dn ?_;refine U2 ?_;refine Tc.dr [12] [1] mixed rfl ?_;refine .nn 0 ?_;refine .nn 1 ?_;refine .nn 2 ?_;refine .nn 3 ?_;refine .nn 4 ?_;refine .nn 5 ?_;refine .nn 6 ?_;refine .nn 7 ?_;refine .nn 8 ?_;refine .nn 9 ?_;refine .z 10 rfl (OpV.takeCall rfl rfl rfl rfl (fun H hs=> .h (kind_c M H k A lc (some ⟨tb,to,none⟩) tc (q j)))) ?_;refine .z 11 rfl (OpV.takeCall rfl rfl rfl rfl (fun H hs=> .h (hh H))) ?_;refine .e 12 1 ?_;refine .dn ?_;refine U5 ?_;refine Tc.dropB (ih ⟨j+1,by omega,fun i hi=> ?_⟩ (by simp only;omega)) ⟨rfl,rfl,rfl,rfl,rfl,rfl,rfl,rfl,trivial⟩ ?_
             · by_cases e:i=j
               · subst e;unfold Bk.inAt;rw[decide_eq_true c5,decide_eq_true c6];rfl
               · exact hin i (by omega)
             · have e:k.earTo p q (j+1)=(k.earTo p q j).hear pn (k.kind (q j)):=by rw[Bk.earTo,hpn];rfl
               simp only[e];exact(by apply List.Sublist.cons;exact List.Sublist.refl _)
           · have h2:=fun(H':View)=> between_is M H' (q j) (k.qf j) (k.qt j) false (decide_eq_false c6);have e:(firstTo (fun i=> !k.inAt p q i) k.nt).isSome=true:=by
               rw[firstTo_stays (j:=j+1) (x:=j) (by
                 rw[firstTo,(firstTo_none j).2 (fun i hi=> by simp[hin i hi])];have:k.inAt p q j=false:=by unfold Bk.inAt;rw[decide_eq_false c6];simp
                 simp[this]) _ (by omega)]
               rfl
             rw[e] at hK;refine U14 ?_;refine .al fun b12=> ?_;refine U5 ?_;refine Tc.dr [] [] mixed rfl ?_;refine .nn 0 ?_;refine .nn 1 ?_;refine .nn 2 ?_;refine .nn 3 ?_;refine .nn 4 ?_;refine .nn 5 ?_;refine .nn 6 ?_;refine .nn 7 ?_;refine .nn 8 ?_;refine .nn 9 ?_;refine .z 10 rfl (OpV.takeCall rfl rfl rfl rfl (fun H hs=> .h (h1 H))) ?_;refine .nn 11 ?_;refine .nn 12 ?_;refine .nn 13 ?_;refine .nn 14 ?_;refine .nn 15 ?_;refine .nn 16 ?_;refine .nn 17 ?_;refine .nn 18 ?_;refine .nn 19 ?_;refine .nn 20 ?_;refine .nn 21 ?_;refine .nn 22 ?_;refine .z 23 rfl (OpV.takeCall rfl rfl rfl rfl (fun H hs=> .h (h2 H))) ?_;refine .nn 24 ?_;refine .nn 25 ?_;refine .dn ?_;refine U7 ?_;refine .rt hK func30 results30 [_,_,_] ?_;exact okB
         · have h1:=fun(H':View)=> between_is M H' (p j) (k.pf j) (k.pt j) false (decide_eq_false c5);have e:(firstTo (fun i=> !k.inAt p q i) k.nt).isSome=true:=by
             rw[firstTo_stays (j:=j+1) (x:=j) (by
               rw[firstTo,(firstTo_none j).2 (fun i hi=> by simp[hin i hi])];have:k.inAt p q j=false:=by unfold Bk.inAt;rw[decide_eq_false c5];simp
               simp[this]) _ (by omega)]
             rfl
           rw[e] at hK;refine U14 ?_;refine .al fun b12=> ?_;refine U5 ?_;refine Tc.dr [] [] mixed rfl ?_;refine .nn 0 ?_;refine .nn 1 ?_;refine .nn 2 ?_;refine .nn 3 ?_;refine .nn 4 ?_;refine .nn 5 ?_;refine .nn 6 ?_;refine .nn 7 ?_;refine .nn 8 ?_;refine .nn 9 ?_;refine .z 10 rfl (OpV.takeCall rfl rfl rfl rfl (fun H hs=> .h (h1 H))) ?_;refine .nn 11 ?_;refine .nn 12 ?_;refine .nw 13 ?_;refine .nw 14 ?_;refine .nw 15 ?_;refine .nw 16 ?_;refine .nw 17 ?_;refine .nw 18 ?_;refine .nw 19 ?_;refine .nw 20 ?_;refine .nw 21 ?_;refine .nw 22 ?_;refine .nw 23 ?_;refine .nw 24 ?_;refine .nn 25 ?_;refine .dn ?_;refine U7 ?_;refine .rt hK func30 results30 [_,_,_] ?_;exact okB
     · have ev:k.followV np nq p q=follow3 [] 0 2:=by
         unfold Bk.followV;rw[if_neg (by simp[ha]),if_pos (.inr c2)]
       rw[ev];refine .en func30 ntmps30 fun St c cs hK=> ?_;refine U2 ?_;refine .bo fun b3=> ?_;refine U7 ?_;refine .c rfl rfl rfl rfl (fun H hs=> .h (hop H hs.base)) ?_;refine U3 ?_;refine .al fun b9=> ?_;refine U37 ?_;refine .rt hK func30 results30 [_,_,_] ?_;exact okB
   · have ev:k.followV np nq p q=follow3 [] 0 2:=by
       unfold Bk.followV;rw[if_neg (by simp[ha]),if_pos (.inl c1)]
     rw[ev];refine .en func30 ntmps30 fun St c cs hK=> ?_;refine U2 ?_;refine .bo fun b3=> ?_;refine U7 ?_;refine .c rfl rfl rfl rfl (fun H hs=> .h (hop H hs.base)) ?_;refine U3 ?_;refine .al fun b9=> ?_;refine U37 ?_;refine .rt hK func30 results30 [_,_,_] ?_;exact okB
 · have ev:k.followV np nq p q=follow3 [] 0 k.alarm:=if_pos ha;rw[ev];refine .en func30 ntmps30 fun St c cs hK=> ?_;refine U2 ?_;refine .bo fun b3=> ?_;refine U7 ?_;refine .c rfl rfl rfl rfl (fun H hs=> .h (open_alarm M H k A lc B tc true (hk.le hs.base) hn (glob_le hG hs.base) ha)) ?_;refine U3 ?_;refine .al fun b9=> ?_;refine U19 ?_;refine .rt hK func30 results30 [_,_,_] ?_;exact okB
end
end Go.Proofs.YtldmfjcgjdchcaaGreatDoor
