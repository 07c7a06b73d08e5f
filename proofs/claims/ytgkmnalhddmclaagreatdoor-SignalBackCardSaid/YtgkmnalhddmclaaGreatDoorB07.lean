/-
 Texts of the proofs over baudot/dial.
-/
import Derived.Test.YtgkmnalhddmclaaGreatDoorB06
import Derived.Lib.Bytealg
namespace Go.Proofs.YtgkmnalhddmclaaGreatDoor
open Go.RL Go.Proofs.Tryz
set_option maxRecDepth 10000
set_option maxHeartbeats 8000000
theorem aCG:Xt prog 162 Extern.BytealgIndexByte.indexByte:=⟨Tryz.f162,func162,by kernel_rfl,by kernel_rfl,by kernel_rfl,by kernel_rfl⟩
section
variable(M:Md prog)(H:View)
theorem jJ(s:List UInt8)(x:Nat):dA M 114 #[nA s,.int .u8 (x:Nat)] H (fun v H'=> H.le H'/\v=.int .i64 (lY s (UInt8.ofNat x))):=by
 refine .en func114 ntmps114 fun St c cs hK=> ?_;refine U8 ?_;refine .x (mA.entry rfl rfl rfl rfl aCG (fun H Q hq=> q5 hq)) ?_;refine U2 ?_;refine .rt hK func114 results114 [_] ?_;exact okB
theorem tQ(s:List UInt8)(x:Nat):dA M 78 #[nA s,.int .u8 (x:Nat)] H (fun v H'=> H.le H'/\v=.int .i64 (lY s (UInt8.ofNat x))):=by
 refine .en func78 ntmps78 fun St c cs hK=> ?_;refine U8 ?_;refine .cl (fun H hs=> jJ M H s x) ?_;refine U2 ?_;refine .rt hK func78 results78 [_] ?_;exact okB
theorem kJ(s:List UInt8)(x:Nat)(z:Int)(h:lY s (UInt8.ofNat x)=z):dA M 78 #[nA s,.int .u8 (x:Nat)] H (fun v H'=> H.le H'/\v=.int .i64 z):=by
 subst h;exact tQ M H s x
end
def FA(c:UInt8):List UInt8->List (List UInt8)
 | []=> [[]]
 | x::s=> if x=c then []::FA c s else(x::(FA c s).headD [])::(FA c s).tail
theorem wH(c x:UInt8)(s:List UInt8):FA c (x::s)=if x=c then []::FA c s else(x::(FA c s).headD [])::(FA c s).tail:=rfl
theorem lO(c:UInt8):∀s,FA c s≠ []
 | []=> by simp[FA]
 | x::s=> by unfold FA;split <;> simp
theorem BG(c:UInt8):∀s,(FA c s).length=s.count c+1
 | []=> rfl
 | x ::s=> by
  have ih:=BG c s;unfold FA;by_cases h:x=c
  ·subst h;rw[if_pos rfl,List.count_cons_self,List.length_cons,ih]
  ·rw[if_neg h,List.count_cons_of_ne h,List.length_cons,List.length_tail,ih];omega
theorem rD(c:UInt8)(q:List UInt8):∀p,c ∉ p->FA c (p++c::q)=p::FA c q
 | [],_=> by show FA c (c::q)=_;rw[wH,if_pos rfl]
 | x::p,h=> by
  have h1:¬x=c:=fun e=> h (by rw[e];exact List.mem_cons_self);have ih:=rD c q p fun hc=> h (List.mem_cons_of_mem _ hc);show FA c (x::(p++c::q))=_;rw[wH,if_neg h1,ih];rfl
theorem tC(c:UInt8):∀p,c ∉ p->FA c p= [p]
 | [],_=> rfl
 | x::p,h=> by
  have h1:¬x=c:=fun e=> h (by rw[e];exact List.mem_cons_self);have ih:=tC c p fun hc=> h (List.mem_cons_of_mem _ hc);rw[wH,if_neg h1,ih];rfl
theorem EI(c:UInt8)(s:List UInt8):c ∉ s\/∃p q,s=p++c::q/\c ∉ p:=by
 by_cases h:c∈s
 ·obtain⟨p,q,h1,h2⟩:=List.eq_append_cons_of_mem h;exact .inr ⟨p,q,h1,h2⟩
 ·exact .inl h
theorem mY {s:List UInt8}{c:UInt8}{i:Nat}(h:(ByteArray.mk ⟨s⟩)[i]! =c)(hi:i<s.length):s[i]? =some c:=by
 have:(ByteArray.mk ⟨s⟩)[i]! =s[i]:=by
  have e:=ZJ s i;rw[List.getElem?_eq_getElem hi] at e;have h2:i<(ByteArray.mk ⟨s⟩).size:=hi;rw[getElem!_pos (ByteArray.mk ⟨s⟩) i h2];rw[getElem?_pos (ByteArray.mk ⟨s⟩) i h2] at e;exact Option.some.inj e
 rw[List.getElem?_eq_getElem hi,<-this,h]
theorem mX {s:List UInt8}{c:UInt8}{i:Nat}(h:s[i]? =some c):(ByteArray.mk ⟨s⟩)[i]! =c:=by
 obtain⟨hi,h1⟩:=List.getElem?_eq_some_iff.1 h;have e:=ZJ s i;have h2:i<(ByteArray.mk ⟨s⟩).size:=hi;rw[getElem!_pos (ByteArray.mk ⟨s⟩) i h2];rw[getElem?_pos (ByteArray.mk ⟨s⟩) i h2,h] at e;exact Option.some.inj e
theorem nY {s:List UInt8}{c:UInt8}(h:c ∉ s):lY s c= -1:=by
 unfold lY;split
 ·rename_i i hf
  have h1:=List.find?_some hf;have h2:=List.mem_range.1 (List.mem_of_find?_eq_some hf);exact(h (List.mem_of_getElem? (mY (beq_iff_eq.1 h1) h2))).elim
 ·rfl
theorem uL {p q:List UInt8}{c:UInt8}(h:c ∉ p):lY (p++c::q) c=(p.length:Nat):=by
 have hc:(p++c::q)[p.length]? =some c:=by rw[List.getElem?_append_right (Nat.le_refl _),Nat.sub_self];rfl
 unfold lY;split
 ·rename_i i hf
  have h1:=List.find?_some hf;have h2:=List.mem_range.1 (List.mem_of_find?_eq_some hf);have h3:=mY (beq_iff_eq.1 h1) h2;have h4:¬i<p.length:=fun iB=> by
   rw[List.getElem?_append_left iB] at h3;exact h (List.mem_of_getElem? h3)
  have h5:¬p.length<i:=fun iB=> by
   have:=(List.find?_eq_some_iff_getElem.1 hf).2;obtain⟨j,hj,ZS,dN⟩:=this;rw[List.getElem_range] at ZS;subst ZS;have:=dN p.length iB;rw[List.getElem_range,mX hc] at this;simp at this
  congr 1
  omega
 ·rename_i hf
  have:=List.find?_eq_none.1 hf p.length (List.mem_range.2 (by simp));rw[mX hc] at this;simp at this
def lastB(c:UInt8)(s:List UInt8):Bool:=s.getLast? ==some c
def SE(c:UInt8)(s:List UInt8):List UInt8:=if lastB c s then s.dropLast else s
theorem rY(c:UInt8)(s:List UInt8)(h:1<=s.length):((s.drop (s.length-1)).take 1== [c])=lastB c s:=by
 have iB:s.length-1<s.length:=by omega
 unfold lastB;rw[List.getLast?_eq_getElem?,List.drop_eq_getElem_cons iB,List.getElem?_eq_getElem iB];show([s[s.length-1]]== [c])=(some s[s.length-1]==some c)
 simp
theorem DK(c:UInt8):∀(s:List UInt8) (n:Int),s.foldl (fun(n:Int) x=> if x==c then n+1 else n) n=n+(s.count c:Nat)
 | [],n=> by simp
 | x::s,n=> by
  rw[List.foldl_cons,DK c s,List.count_cons];split <;> omega
theorem KW {P:Program}{s:List UInt8}{c:Nat}{H:View}{Q:Value->View->Prop}(h:Q (.int .i64 (s.count (UInt8.ofNat c):Nat)) H):vA P (Extern.BytealgCount.count #[nA s,.int .u8 (c:Nat)]) H Q:=by
 unfold Extern.BytealgCount.count;show vA P (Sem.pure _) H Q;show Q (goInt ((ByteArray.mk ⟨s⟩).foldl (fun(n:Int) x=> if x==((c:Nat):Int).toNat.toUInt8 then n+1 else n) 0)) H;have e1:((c:Nat):Int).toNat.toUInt8=UInt8.ofNat c:=rfl;rw[e1,Go.Lib.foldl_data];show Q (goInt (s.foldl (fun(n:Int) x=> if x==UInt8.ofNat c then n+1 else n) 0)) H;rw[DK,Int.zero_add];exact h
theorem aCJ:Xt prog 192 Extern.BytealgCount.count:=⟨Tryz.f192,func192,by kernel_rfl,by kernel_rfl,by kernel_rfl,by kernel_rfl⟩
section
variable(M:Md prog)(H:View)
theorem SZ(s:List UInt8)(y:UInt8):dA M 164 #[nA s,nA [y]] H (fun v H'=> H.le H'/\v=.int .i64 (s.count y:Nat)):=by
 have hc:UInt8.ofNat y.toNat=y:=UInt8.ofNat_toNat;refine .en func164 ntmps164 fun St c cs hK=> ?_;refine U25 ?_;refine .x (mA.gM (E:=en) rfl rfl rfl rfl rfl oM (by exact rfl)) ?_;refine .x (mA.entry (v:=.int .i64 (s.count y:Nat)) rfl rfl rfl rfl aCJ (fun H Q hq=> KW (by rw[hc];exact hq))) ?_;refine U2 ?_;refine .rt hK func164 results164 [_] ?_;exact okB
theorem GL(s:List UInt8)(y:UInt8)(z:Int)(hz:lY s y=z):dA M 193 #[nA s,nA [y]] H (fun v H'=> H.le H'/\v=.int .i64 z):=by
 have hc:UInt8.ofNat y.toNat=y:=UInt8.ofNat_toNat;have h5:=fun H=> dA.is (.int .i64 z) (by rewrite [hc,hz];rfl) (jJ M H s y.toNat);by_cases he:s= [y]
 ·have h0:z=0:=by rw[<-hz,he];exact uL (p:= []) (q:= []) (by simp)
  have hb:([y]==s)=true:=by rw[he];exact beq_self_eq_true _
  subst h0;refine .en func193 ntmps193 fun St c cs hK=> ?_;refine wS ?_;refine .x (mA.cF (v:=.bool true) rfl rfl rfl (by show some (Value.bool _)=_;rw[hb])) ?_;refine U8 ?_;refine .rt hK func193 results193 [_] ?_;exact okB
 ·have hb:([y]==s)=false:=by simp only[beq_eq_false_iff_ne,ne_eq];exact fun e=> he e.symm
  refine .en func193 ntmps193 fun St c cs hK=> ?_;refine wS ?_;refine .x (mA.cF (v:=.bool false) rfl rfl rfl (by show some (Value.bool _)=_;rw[hb])) ?_;refine AV ?_;refine .x (mA.gM (E:=en) rfl rfl rfl rfl rfl oM (by exact rfl)) ?_;refine .cl (fun H hs=> h5 H) ?_;refine U2 ?_;refine .rt hK func193 results193 [_] ?_;exact okB
end
section
variable(M:Md prog)(H:View)
theorem UZ(s:List UInt8)(y:UInt8)(h:y ∉ s):dA M 166 #[nA s,nA [y]] H (fun v H'=> H.le H'/\v=.tuple ⟨[nA s,nA [],.bool false]⟩):=by
 have hx:=nY h;refine .en func166 ntmps166 fun St c cs hK=> ?_;refine fF ?_;refine .cl (fun H hs=> GL M H s y _ hx) ?_;refine uQ ?_;refine .rt hK func166 results166 [_,_,_] ?_;exact okB
theorem TZ(p q:List UInt8)(y:UInt8)(h:y ∉ p)(hm:p.length+q.length<=1000000):dA M 166 #[nA (p++y::q),nA [y]] H (fun v H'=> H.le H'/\v=.tuple ⟨[nA p,nA q,.bool true]⟩):=by
 have hx:=uL (q:=q) h;have hl:(p++y::q).length=p.length+1+q.length:=by simp;omega
 have h1:([y]:List UInt8).length=1:=rfl;have t1:((p++y::q).drop ((0:Nat):Int).toNat).take (((p.length:Nat):Int).toNat-((0:Nat):Int).toNat)=p:=by simp
 have t2:((p++y::q).drop (((p.length:Nat):Int)+(([y].length:Nat):Int)).toNat).take ((((p++y::q).length:Nat):Int).toNat-(((p.length:Nat):Int)+(([y].length:Nat):Int)).toNat)=q:=by
  have e:(((p.length:Nat):Int)+(([y].length:Nat):Int)).toNat=p.length+1:=by simp only[h1];omega
  rw[e,hl,List.drop_append,List.drop_of_length_le oM,List.nil_append,Nat.add_sub_cancel_left,List.drop_succ_cons,List.drop_zero];exact List.take_of_length_le oM
 generalize p++y::q=s at hl hx t1 t2 ⊢;refine .en func166 ntmps166 fun St c cs hK=> ?_;refine fF ?_;refine .cl (fun H hs=> GL M H s y _ hx) ?_;refine U9 ?_;refine Tc.dr [] [] mixed rfl ?_;refine V2 0 ?_;refine .q 2 rfl (mA.yE (E:=en) rfl rfl rfl rfl rfl rfl oM oM oM) ?_;refine V5 3 ?_;refine .q 8 rfl (mA.yE (E:=en) rfl rfl rfl rfl rfl rfl oM oM oM) ?_;refine V3 9 ?_;refine .dn ?_;refine .rt hK func166 results166 [_,_,_] ?_;refine fun H' hs=> ⟨hs.base,?_⟩
 rw[t1,t2];rfl
theorem VW(s:List UInt8)(y:UInt8)(h:y ∉ s):dA M 116 #[nA s,nA [y]] H (fun v H'=> H.le H'/\v=.tuple ⟨[nA s,nA [],.bool false]⟩):=by
 refine .en func116 ntmps116 fun St c cs hK=> ?_;refine fH ?_;refine .cl (fun H hs=> UZ M H s y h) ?_;refine U7 ?_;refine .rt hK func116 results116 [_,_,_] ?_;exact okB
theorem GO(p q:List UInt8)(y:UInt8)(h:y ∉ p)(hm:p.length+q.length<=1000000):dA M 116 #[nA (p++y::q),nA [y]] H (fun v H'=> H.le H'/\v=.tuple ⟨[nA p,nA q,.bool true]⟩):=by
 refine .en func116 ntmps116 fun St c cs hK=> ?_;refine fH ?_;refine .cl (fun H hs=> TZ M H p q y h hm) ?_;refine U7 ?_;refine .rt hK func116 results116 [_,_,_] ?_;exact okB
theorem tK(s:List UInt8)(y:UInt8)(hm:s.length<=1000000):dA M 118 #[nA s,nA [y]] H (fun v H'=> H.le H'/\v=.bool (lastB y s)):=by
 have h1:([y]:List UInt8).length=1:=rfl;by_cases c1:s= []
 ·subst c1;refine .en func118 ntmps118 fun St c cs hK=> ?_;refine U24 ?_;refine .rt hK func118 results118 [_] ?_;exact okB
 ·have c2:1<=s.length:=List.length_pos_iff.2 c1;have e:=rY y s c2;have e2:(((s.length:Nat):Int)-(([y].length:Nat):Int)).toNat=s.length-1:=by simp only[h1];omega
  have e1:RL.cF .eql ((s.drop (((s.length:Nat):Int)-(([y].length:Nat):Int)).toNat).take (((s.length:Nat):Int).toNat-(((s.length:Nat):Int)-(([y].length:Nat):Int)).toNat)) [y]=some (.bool (lastB y s)):=by
   rw[e2,Int.toNat_natCast,show s.length-(s.length-1)=1 by omega,<-e];rfl
  refine .en func118 ntmps118 fun St c cs hK=> ?_;refine mN ?_;refine .x (mA.yE (E:=en) rfl rfl rfl rfl rfl rfl oM oM oM) ?_;refine U5 ?_;refine .rt hK func118 results118 [_] ?_;exact okB
theorem lN(s:List UInt8)(y:UInt8)(hm:s.length<=1000000):dA M 81 #[nA s,nA [y]] H (fun v H'=> H.le H'/\v=nA (SE y s)):=by
 have h1:([y]:List UInt8).length=1:=rfl;by_cases c1:lastB y s=true
 ·have c2:1<=s.length:=by
   cases s with
   | nil=> cases c1
   | cons=> simp
  have A3:=fun H=> dA.is (.bool true) (by rewrite [c1];rfl) (tK M H s y hm);have e1:(s.drop ((0:Nat):Int).toNat).take ((((s.length:Nat):Int)-(([y].length:Nat):Int)).toNat-((0:Nat):Int).toNat)=SE y s:=by
   have:(((s.length:Nat):Int)-(([y].length:Nat):Int)).toNat=s.length-1:=by simp only[h1];omega
   rw[this];unfold SE;rw[if_pos c1,List.dropLast_eq_take];rfl
  refine .en func81 ntmps81 fun St c cs hK=> ?_;refine U9 ?_;refine .cl (fun H hs=> A3 H) ?_;refine fH ?_;refine .x (mA.yE (E:=en) rfl rfl rfl rfl rfl rfl oM oM oM) ?_;refine U2 ?_;refine .rt hK func81 results81 [_] ?_;refine fun H' hs=> ⟨hs.base,?_⟩
  rw[e1];rfl
 ·have c2:lastB y s=false:=by simpa using c1
  have A3:=fun H=> dA.is (.bool false) (by rewrite [c2];rfl) (tK M H s y hm);have e1:SE y s=s:=by unfold SE;rw[c2];rfl
  rw[e1];refine .en func81 ntmps81 fun St c cs hK=> ?_;refine U9 ?_;refine .cl (fun H hs=> A3 H) ?_;refine U8 ?_;refine .rt hK func81 results81 [_] ?_;exact okB
theorem NO(s:List UInt8)(y:UInt8)(hm:s.length<=1000000):dA M 41 #[nA s,nA [y]] H (fun v H'=> H.le H'/\v=nA (SE y s)):=by
 refine .en func41 ntmps41 fun St c cs hK=> ?_;refine U8 ?_;refine .cl (fun H hs=> lN M H s y hm) ?_;refine U2 ?_;refine .rt hK func41 results41 [_] ?_;exact okB
def ZA(y:UInt8)(s:List UInt8):List UInt8:=if cD s [y] then s.drop 1 else s
theorem mG {s:List UInt8}{y:UInt8}(h:cD s [y]=true):∃q,s=y::q:=by
 cases s with
 | nil=> cases h
 | cons x q=>
  unfold cD at h;simp at h
  exact⟨q,by rw[h]⟩
end
end Go.Proofs.YtgkmnalhddmclaaGreatDoor
namespace Go.RL
open Go.Conc
section
variable {P:Program}{E:Env P}{n:Nat}{H₀:View}{R:Rg}{L:Bl}{o:Oper}
theorem mA.OM {t:TypeId}{x:Operand}{lo hi:Option Operand}{a b:Int}{l z:List UInt8}{r:uA}(gA:o.op=.slice t x lo hi none)(hx:BA R x=some (nA l))(ht:E.ty t=some r)(yB:r.ds=.str)
  (TU:bound R lo 0=some a) (XS:bound R hi l.length=some b) (h0:0<=a) (h1:a<=b) (h2:b<=l.length) (hz:(l.drop a.toNat).take (b.toNat-a.toNat)=z):mA P n H₀ R L o (nA z):=by
 subst hz;exact mA.yE gA hx ht yB TU XS h0 h1 h2
end
end Go.RL
namespace Go.Proofs.YtgkmnalhddmclaaGreatDoor
open Go.RL Go.Proofs.Tryz
set_option maxRecDepth 10000
set_option maxHeartbeats 8000000
def CW(P:List (List UInt8))(b:Nat):Value:=.slice (some ⟨b,0,none⟩) P.length P.length
def WR(P:List (List UInt8))(b:Nat):Bl:= [(b,true,.cells ⟨pE P⟩ 9 (0,0))]
def tF(P:List (List UInt8))(m i:Nat):List Value:=pE (P.take i)++List.replicate (m-i) (nA [])
theorem mW {P:List (List UInt8)}{m i:Nat}(hP:P.length=m)(hi:i<=m):(tF P m i).length=m:=by
 unfold tF;rw[List.length_append,vO,List.length_take,List.length_replicate];omega
theorem CR {P:List (List UInt8)}{m i:Nat}{p:List UInt8}(hP:P.length=m)(hp:P[i]? =some p):zE (tF P m i) (0+((i:Nat):Int).toNat*1) [nA p]=tF P m (i+1):=by
 obtain⟨hi,rfl⟩:=List.getElem?_eq_some_iff.1 hp;have h1:(pE (P.take i)).length=i:=by rw[vO,List.length_take];omega
 rw[Int.toNat_natCast,Nat.zero_add,Nat.mul_one];unfold zE tF;rw[List.take_left' h1,List.drop_append,List.drop_of_length_le (by rw[h1];exact Nat.le_add_right _ _),h1,List.nil_append,List.drop_replicate,List.take_succ_eq_append_getElem hi,DW];have e:m-i-(i+[nA P[i]].length-i)=m-(i+1):=by simp only[List.length_singleton];omega
 rw[e];rfl
theorem FT {P:List (List UInt8)}{m:Nat}(hP:P.length=m):tF P m m=pE P:=by
 unfold tF;rw[List.take_of_length_le oM,Nat.sub_self];simp
section
variable(M:Md prog)(H:View)
theorem ZZ(s:List UInt8)(y:UInt8)(z:Int)(hz:lY s y=z):dA M 165 #[nA s,nA [y]] H (fun v H'=> H.le H'/\v=.int .i64 z):=by
 refine .en func165 ntmps165 fun St c cs hK=> ?_;refine U8 ?_;refine .cl (fun H hs=> GL M H s y z hz) ?_;refine U2 ?_;refine .rt hK func165 results165 [_] ?_;exact okB
theorem eX(s:List UInt8)(y:UInt8)(hm:s.length<=1000000):
  dA M 115 #[nA s,nA [y],.int .i64 0,.int .i64 (-1)] H (fun v H'=> H.le H'/\∃b,v=CW (FA y s) b/\True/\∀z∈WR (FA y s) b,H' z.1=some z.2/\H z.1=none):=by
 have HB:=BG y s;have hle:s.count y<=s.length:=List.count_le_length;obtain⟨P,hP⟩:∃P,P=FA y s:=⟨_,rfl⟩
 obtain⟨m,hmc⟩:∃m,m=s.count y:=⟨_,rfl⟩
 have hPl:P.length=m+1:=by rw[hP,hmc];exact HB
 have hc2:=fun H=> dA.is (.int .i64 (m:Nat)) (by rewrite [<-hmc];rfl) (SZ M H s y);have a1:iA .add .i64 ((m:Nat):Int) 1=some (.int .i64 ((m+1:Nat):Int)):=YD oM oM;have aBc:(if(((s.length:Nat):Int)+1)<((m+1:Nat):Int) then(((s.length:Nat):Int)+1) else((m+1:Nat):Int))=((m+1:Nat):Int):=if_neg oM;have s1:iA .sub .i64 ((m+1:Nat):Int) 1=some (.int .i64 ((m:Nat):Int)):=by rw[UP oM oM];congr 2;omega
 rw[<-hP];refine .en func115 ntmps115 fun St c cs hK=> ?_;refine U30 ?_;refine .cl (fun H hs=> hc2 H) ?_;refine U9 ?_;refine .x (mA.min rfl rfl rfl rfl rfl rfl (by assumption)) ?_;refine U5 ?_;refine .e (Or.makeSlice (E:=en) (len:=m+1) (cap:=m+1) rfl rfl rfl rfl rfl rfl (Nat.le_refl _) oM rfl rfl dE (fun b=> ?_));have hz:RB [nA []] ((m+1)*1)=tF P (m+1) 0:=by
  rw[oS,Nat.mul_one];unfold tF;rfl
 refine To.perm (L₁:= [(b,true,.cells ⟨tF P (m+1) 0⟩ 9 (0,0))]) (by rw[<-hz];exact List.Perm.refl _) ?_;refine yI ?_;refine Tc.db (Tc.IA (σ:= { x:Nat×List UInt8//x.1<=m/\FA y x.2=P.drop x.1/\x.2.length<=1000000 }) (fun x=> ([(0,nA x.1.2),(1,nA [y]),(2,.int .i64 0),(3,.int .i64 (m:Nat)),(9,.slice (some ⟨b,0,none⟩) (m+1) (m+1)),(10,.int .i64 (x.1.1:Nat))],[(b,true,.cells ⟨tF P (m+1) x.1.1⟩ 9 (0,0))])) (fun x=> m-x.1.1) ?_ ⟨(0,s),Nat.zero_le _,hP.symm,hm⟩);rintro⟨⟨i,r⟩,g1,g2,g3⟩ ih;simp only at g1 g2 g3;show Tc M St _ _ _ _ [(0,nA r),(1,nA [y]),(2,.int .i64 0),(3,.int .i64 (m:Nat)),(9,.slice (some ⟨b,0,none⟩) (m+1) (m+1)),(10,.int .i64 (i:Nat))] [(b,true,.cells ⟨tF P (m+1) i⟩ 9 (0,0))] _ _;have hlen:=mW hPl (i:=i) oM;have hbl:Nat.ble (0+((i:Nat):Int).toNat*1+1) (tF P (m+1) i).length=true:=by
  rw[hlen];exact Nat.ble_eq_true_of_le oM
 by_cases c1:i=m
 ·clear ih;subst c1;have LG:P[i]? =some r:=by
   have h1:(P.drop i).length=1:=by rw[List.length_drop];omega
   rw[<-g2,BG] at h1;have h2:y ∉ r:=fun h=> by have:=List.count_pos_iff.2 h;omega
   rw[tC y r h2] at g2;have h3:(P.drop i)[0]? =some r:=by rw[<-g2];rfl
   rwa [List.getElem?_drop] at h3
  have bB:=CR hPl LG;rw[FT hPl] at bB;have a2:iA .add .i64 ((i:Nat):Int) 1=some (.int .i64 ((i+1:Nat):Int)):=YD oM oM;refine U22 ?_;refine .x (mA.sliceTo (E:=en) (k:=i+1) rfl rfl rfl rfl rfl rfl oM oM) ?_;refine U2 ?_;refine .rt hK func115 results115 [_] ?_;refine fun H' hs=> ⟨hs.base,b,?_,trivial,fun z hz=> ?_⟩
  ·show _=CW P b;unfold CW;rw[hPl];rfl
  ·simp only[WR,List.mem_singleton] at hz;subst hz;exact⟨hs.get (i:=0) rfl,hs.fresh (i:=0) rfl⟩
 ·have c2:i<m:=by omega
  rcases EI y r with h0|⟨p,q,rfl,h0⟩
  ·exfalso
   rw[tC y r h0] at g2;have h1:=congrArg List.length g2;rw[List.length_drop,List.length_singleton] at h1;omega
  rw[rD y q p h0] at g2;have hp:P[i]? =some p:=by
   have h3:(P.drop i)[0]? =some p:=by rw[<-g2];rfl
   rwa [List.getElem?_drop] at h3
  have hq:FA y q=P.drop (i+1):=by
   have h3:(P.drop i).drop 1=FA y q:=by rw[<-g2];rfl
   rw[<-h3,List.drop_drop]
  have hx:=uL (q:=q) h0;have hl:(p++y::q).length=p.length+1+q.length:=by simp;omega
  have h1:([y]:List UInt8).length=1:=rfl;have t1:((p++y::q).drop ((0:Nat):Int).toNat).take ((((p.length:Nat):Int)+0).toNat-((0:Nat):Int).toNat)=p:=by simp
  have t2:((p++y::q).drop (((p.length:Nat):Int)+(([y].length:Nat):Int)).toNat).take ((((p++y::q).length:Nat):Int).toNat-(((p.length:Nat):Int)+(([y].length:Nat):Int)).toNat)=q:=by
   have e:(((p.length:Nat):Int)+(([y].length:Nat):Int)).toNat=p.length+1:=by simp only[h1];omega
   rw[e,hl,List.drop_append,List.drop_of_length_le oM,List.nil_append,Nat.add_sub_cancel_left,List.drop_succ_cons,List.drop_zero];exact List.take_of_length_le oM
  have bB:=CR hPl hp;have a2:iA .add .i64 ((i:Nat):Int) 1=some (.int .i64 ((i+1:Nat):Int)):=YD oM oM;have fJ:=ih ⟨(i+1,q),by simp only;omega,hq,by simp only;omega⟩ (by simp only;omega);clear ih;have hg:0<=0:=Nat.le_refl _;obtain⟨r,hr⟩:∃r,r=p++y::q:=⟨_,rfl⟩
  rw[<-hr] at hl hx t1 t2 g3;show Tc M St _ _ _ _ [(0,nA (p++y::q)),(1,nA [y]),(2,.int .i64 0),(3,.int .i64 (m:Nat)),(9,.slice (some ⟨b,0,none⟩) (m+1) (m+1)),(10,.int .i64 (i:Nat))] [(b,true,.cells ⟨tF P (m+1) i⟩ 9 (0,0))] _ _;rw[<-hr];clear hg hr;refine yI ?_;refine .cl (fun H hs=> ZZ M H r y _ hx) ?_;refine mN ?_;refine .x (mA.OM (E:=en) rfl rfl rfl rfl rfl rfl oM oM oM t1) ?_;refine fH ?_;refine .x (mA.OM (E:=en) rfl rfl rfl rfl rfl rfl oM oM oM t2) ?_;refine U8 ?_;exact Tc.db (fJ)
theorem M0(s:List UInt8)(y:UInt8)(hm:s.length<=1000000):
  dA M 79 #[nA s,nA [y]] H (fun v H'=> H.le H'/\∃b,v=CW (FA y s) b/\True/\∀z∈WR (FA y s) b,H' z.1=some z.2/\H z.1=none):=by
 refine .en func79 ntmps79 fun St c cs hK=> ?_;refine U8 ?_;refine .e (Or.EA (CW (FA y s)) (WR (FA y s)) (fun _=> True) rfl rfl rfl rfl rfl dE (fun _=> by simp[WR]) (fun H hs=> .h (eX M H s y hm)) (fun b _=> ?_));refine U2 ?_;refine .rt hK func79 results79 [_] ?_;refine fun H' hs=> ⟨hs.base,b,rfl,trivial,fun z hz=> ?_⟩
 simp only[WR,List.mem_singleton] at hz;subst hz;exact⟨hs.get (i:=0) rfl,hs.fresh (i:=0) rfl⟩
end
end Go.Proofs.YtgkmnalhddmclaaGreatDoor
namespace Go.RL
open Go.Conc
def isIf:TypeDesc->Bool
 | .interface _=> true
 | _=> false
def ifT(P:Program)(t:TypeId):Bool:=match P.underlying t with|some D=> isIf D|none=> false
def HY(P:Program)(t:TypeId):Bool:=match P.underlying t with|some D=> !isIf D|none=> false
theorem lT {P:Program}{t:TypeId}(h:ifT P t=true):∃ms,P.underlying t=some (.interface ms):=by
 unfold ifT at h;split at h
 ·rename_i D hD
  cases D <;> first|exact⟨_,hD⟩|cases h
 ·cases h
theorem GP {P:Program}{t:TypeId}(h:HY P t=true):∃D,P.underlying t=some D/\isIf D=false:=by
 unfold HY at h;split at h
 ·rename_i D hD
  exact⟨D,hD,by simpa using h⟩
 ·cases h
section
variable {P:Program}{E:Env P}{M:Md P}{n:Nat}{H₀:View}{R:Rg}{L L':Bl}{K:Rg->Bl->Prop}{o:Oper}{d:Nat}{v:Value}
theorem mA.aBw {t u:TypeId}{x:Operand}(gA:o.op=.binOp .eql t x (.const .nilIface) u)(hx:BA R x=some .nilIface)(hi:ifT P t=true):mA P n H₀ R L o (.bool true):=fun H tmps _ hr=> by
 obtain⟨ms,ht⟩:=lT hi;unfold execOp;rw[gA];simp only[hr.ev hx];show vA P (((eqGuard .eql t x (.const .nilIface) .nilIface .nilIface).bind fun _=> binOp .eql t .nilIface .nilIface).bind _) H _;refine aA _ _ (aA _ _ ?_);have hg:eqGuard .eql t x (.const .nilIface) .nilIface .nilIface=Sem.pure ():=by
  unfold eqGuard;cases x <;> rfl
 rw[hg];show vA P ((Op.equalIn (9999+1) t .nilIface .nilIface).bind fun c=> Sem.pure (Value.bool c)) H _;refine aA _ _ ?_;unfold Op.equalIn;refine aA (underlying t) _ (cA ht ?_);exact⟨rfl,rfl⟩
theorem mA.aBx {t u:TypeId}{x:Operand}(gA:o.op=.binOp .neq t x (.const .nilIface) u)(hx:BA R x=some .nilIface)(hi:ifT P t=true):mA P n H₀ R L o (.bool false):=fun H tmps _ hr=> by
 obtain⟨ms,ht⟩:=lT hi;unfold execOp;rw[gA];simp only[hr.ev hx];show vA P (((eqGuard .neq t x (.const .nilIface) .nilIface .nilIface).bind fun _=> binOp .neq t .nilIface .nilIface).bind _) H _;refine aA _ _ (aA _ _ ?_);have hg:eqGuard .neq t x (.const .nilIface) .nilIface .nilIface=Sem.pure ():=by
  unfold eqGuard;cases x <;> rfl
 rw[hg];show vA P ((Op.equalIn (9999+1) t .nilIface .nilIface).bind fun c=> Sem.pure (Value.bool (!c))) H _;refine aA _ _ ?_;unfold Op.equalIn;refine aA (underlying t) _ (cA ht ?_);exact⟨rfl,rfl⟩
theorem mA.iface {t:TypeId}{x:Operand}(gA:o.op=.makeInterface t x)(hx:BA R x=some v)(hi:HY P t=true):mA P n H₀ R L o (.iface t v):=fun H tmps _ hr=> by
 obtain⟨D,ht,hD⟩:=GP hi;unfold execOp;rw[gA];simp only[hr.ev hx];refine aA (Instr.makeInterface t v) _ ?_;unfold Instr.makeInterface;refine aA (underlying t) _ (cA ht ?_);cases D <;> first|exact⟨rfl,rfl⟩|cases hD
theorem mA.QO {t a:TypeId}{x:Operand}(gA:o.op=.typeAssert x t a true)(hx:BA R x=some (.iface a v))(hi:HY P a=true):mA P n H₀ R L o (.tuple ⟨[v,.bool true]⟩):=fun H tmps _ hr=> by
 obtain⟨D,ht,hD⟩:=GP hi;unfold execOp;rw[gA];simp only[hr.ev hx];refine aA (Instr.typeAssert _ t a true) _ ?_;unfold Instr.typeAssert;refine aA (underlying a) _ (cA ht ?_);cases D <;> first
   | (show vA P (if a=a then Sem.pure (Value.tuple #[v,.bool true]) else _) H _
      rw[if_pos rfl];exact⟨rfl,rfl⟩)
   | (exfalso;cases hD;done)
theorem mA.V0 {t a b:TypeId}{x:Operand}{r:uA}(gA:o.op=.typeAssert x t a true)(hx:BA R x=some (.iface b v))(aB:Nat.beq b a=false)(hi:HY P a=true)(rF:E.ty a=some r):mA P n H₀ R L o (.tuple ⟨[r.zero,.bool false]⟩):=fun H tmps _ hr=> by
 obtain⟨D,ht,hD⟩:=GP hi;unfold execOp;rw[gA];simp only[hr.ev hx];refine aA (Instr.typeAssert _ t a true) _ ?_;unfold Instr.typeAssert;refine aA (underlying a) _ (cA ht ?_);have h1:¬b=a:=fun e=> by rw[e,Nat.beq_refl] at aB;cases aB
 cases D <;> first
   | (show vA P (if b=a then Sem.pure (Value.tuple #[v,.bool true]) else(zeroValue a).bind fun z=> Sem.pure (Value.tuple #[z,.bool false])) H _
      rw[if_neg h1];refine aA (zeroValue a) _ (sB (E.ok _ _ rF).zero ?_);exact⟨rfl,rfl⟩)
   | (exfalso;cases hD;done)
end
end Go.RL
namespace Go.Proofs.YtgkmnalhddmclaaGreatDoor
open Go.RL Go.Proofs.Tryz
set_option maxRecDepth 10000
set_option maxHeartbeats 8000000
def iE(s:List UInt8):Nat:=s.foldl (fun n x=> 10*n+(x.toNat-48)) 0
theorem FI(s:List UInt8)(x:UInt8):iE (s++[x])=10*iE s+(x.toNat-48):=by simp[iE]
theorem VL {s:List UInt8}(h:s.all OH=true):∀i,i<=s.length->iE (s.take i)<10 ^ i
 | 0,_=> by simp[iE]
 | i+1,hi=> by
  have ih:=VL h i oM;rw[List.take_succ_eq_append_getElem oM,FI,Nat.pow_succ];have h1:OH s[i]=true:=List.all_eq_true.1 h _ (List.getElem_mem _);have h2:=of_decide_eq_true h1;omega
def lE(s:List UInt8):Bool:=
 decide (1<=(ZA 45 s).length/\(ZA 45 s).length<=9)&&(ZA 45 s).all OH&&((ZA 45 s)[0]?.getD 0 !=48||(ZA 45 s).length==1 && !cD s [45])
def numOf(s:List UInt8):Int:=if cD s [45] then -((iE (ZA 45 s):Nat):Int) else(iE (ZA 45 s):Nat)
theorem pZ:∀d:Nat,d<10->iA .sub .u8 ((48+d:Nat):Int) 48=some (.int .u8 ((d:Nat):Int)):=by
 intro d h;have:d=0\/d=1\/d=2\/d=3\/d=4\/d=5\/d=6\/d=7\/d=8\/d=9:=by omega
 rcases this with rfl|rfl|rfl|rfl|rfl|rfl|rfl|rfl|rfl|rfl <;> rfl
theorem CQ {s:List UInt8}{q:Nat}{x:UInt8}(h:s[q]? =some x)(jj:List Value):YB false 1 (QA s++jj) (0+((q:Nat):Int).toNat*1)=some (.int .u8 (x.toNat:Nat)):=by
 show(QA s++jj)[0+((q:Nat):Int).toNat*1]? =_;rw[Int.toNat_natCast,Nat.zero_add,Nat.mul_one,List.getElem?_append_left (by rw[oG];exact(List.getElem?_eq_some_iff.1 h).1)];unfold QA;rw[List.getElem?_map,h];rfl
section
variable(M:Md prog)(H:View)
theorem rH:dA M 42 #[.bool true] H (fun v H'=> H.le H'/\v=.tuple ⟨[]⟩):=by
 refine .en func42 ntmps42 fun St c cs hK=> ?_;refine U7 ?_;refine .ov hK func42 results42 [] ?_;exact okB
theorem P6(s:List UInt8)(h1:(ZA 45 s).all OH=true)(h2:1<=(ZA 45 s).length/\(ZA 45 s).length<=9):dA M 202 #[nA s] H (fun v H'=> H.le H'/\v=.tuple ⟨[.int .i64 (numOf s),.nilIface]⟩):=by
 obtain⟨d,hd⟩:∃d,d=ZA 45 s:=⟨_,rfl⟩
 obtain⟨sg,oQ⟩:∃sg,sg=cD s [45]:=⟨_,rfl⟩
 have hn:numOf s=if sg then -((iE d:Nat):Int) else(iE d:Nat):=by rw[oQ,hd];rfl
 rw[hn];rw[<-hd] at h1 h2;have hd9:iE d<10 ^ 9:=by
   have:=VL h1 d.length (Nat.le_refl _);rw[List.take_length] at this;exact Nat.lt_of_lt_of_le this (Nat.pow_le_pow_right dE h2.2)
 have ht:∀i,i<=d.length->iE (d.take i)<1000000000:=fun i hi=> Nat.lt_of_lt_of_le (VL h1 i hi) (Nat.pow_le_pow_right (n:=10) dE (Nat.le_trans hi h2.2));have hsl:s.length<=10/\1<=s.length:=by
   cases sg with
   | true => obtain⟨q,rfl⟩:=mG oQ.symm;have:d=q:=by rw[hd];unfold ZA;rw[<-oQ];rfl
             subst this;simp only[List.length_cons];omega
   | false => have:d=s:=by rw[hd];unfold ZA;rw[<-oQ];rfl
              subst this;omega
 have e0:s[0]? =some (s[0]?.getD 0):=by
   rw[List.getElem?_eq_getElem oM];rfl
 obtain⟨x0,hx0⟩:∃x,x=s[0]?.getD 0:=⟨_,rfl⟩
 rw[<-hx0] at e0;have b0:iA .eql .u8 ((x0.toNat:Nat):Int) 45=some (.bool sg):=by
   cases sg with
   | true=> obtain⟨q,rfl⟩:=mG oQ.symm;cases e0;rfl
   | false=>
     have:d=s:=by rw[hd];unfold ZA;rw[<-oQ];rfl
     have h3:OH x0=true:=List.all_eq_true.1 h1 _ (by rw[this];exact List.mem_of_getElem? e0);have h4:=of_decide_eq_true h3;exact XB oM
 have p0:sg=false->iA .eql .u8 ((x0.toNat:Nat):Int) 43=some (.bool false):=fun hf=> by
   subst hf;have:d=s:=by rw[hd];unfold ZA;rw[<-oQ];rfl
   have h3:OH x0=true:=List.all_eq_true.1 h1 _ (by rw[this];exact List.mem_of_getElem? e0);have h4:=of_decide_eq_true h3;exact XB oM
 cases sg with
 | false=>
   have yB:d=s:=by rw[hd];unfold ZA;rw[<-oQ];rfl
   have p1:=p0 rfl;subst yB;refine .en func202 ntmps202 fun St c cs hK=> ?_;refine mN ?_;refine To.SA rfl dE rfl ?_;refine To.SA rfl dE rfl ?_;refine U41 ?_;refine .e (Or.xX (E:=en) rfl rfl rfl rfl rfl rfl rfl rfl rfl dE (fun sb cap jj fz=> ?_));refine U4 ?_;refine Tc.db (Tc.IA (σ:= { x:Nat//x<=d.length }) (fun x=> ([(5,nA d),(6,.int .i64 (iE (d.take x.1):Nat)),(47,.slice (some ⟨sb,0,none⟩) d.length cap),(48,.int .i64 (d.length:Nat)),(49,.int .i64 (x.1:Nat))],[(sb,true,.cells ⟨QA d++jj⟩ 5 fz)])) (fun x=> d.length-x.1) ?_ ⟨0,Nat.zero_le _⟩);rintro⟨q,hq⟩ ih;show Tc M St _ _ _ _ [(5,nA d),(6,.int .i64 (iE (d.take q):Nat)),(47,.slice (some ⟨sb,0,none⟩) d.length cap),(48,.int .i64 (d.length:Nat)),(49,.int .i64 (q:Nat))] [(sb,true,.cells ⟨QA d++jj⟩ 5 fz)] _ _;by_cases c1:q=d.length
   · clear ih;subst c1;rw[List.take_length];refine U22 ?_;refine .rt hK func202 results202 [_,_] ?_;exact okB
   · have c2:q<d.length:=by omega
     have hx:=List.getElem?_eq_getElem c2;have h3:OH d[q]=true:=List.all_eq_true.1 h1 _ (List.getElem_mem _);have h4:=of_decide_eq_true h3;have fJ:=ih ⟨q+1,oM⟩ (by simp only;omega);clear ih;simp only at fJ;rw[List.take_succ_eq_append_getElem c2,FI] at fJ;have iB:=ht q oM;generalize iE (d.take q)=z at fJ iB ⊢;obtain⟨y,hy⟩:∃y,y=d[q].toNat-48:=⟨_,rfl⟩
     have e8:d[q].toNat=48+y:=by omega
     rw[<-hy] at fJ;have f1:=CQ hx jj;rw[e8] at f1;have u1:=pZ y oM;have g1:iA .gtr .u8 ((y:Nat):Int) 9=some (.bool false):=jH oM;have w1:IntKind.i64.wrap ((y:Nat):Int)=((y:Nat):Int):=wrap64 oM oM;have m1:iA .mul .i64 ((z:Nat):Int) 10=some (.int .i64 ((10*z:Nat):Int)):=by rw[pD oM oM];congr 2;omega
     have a1:iA .add .i64 ((10*z:Nat):Int) ((y:Nat):Int)=some (.int .i64 ((10*z+y:Nat):Int)):=by rw[YD oM oM];congr 2
     refine U42 ?_;exact Tc.db (fJ)
 | true=>
   obtain⟨d',hs'⟩:=mG oQ.symm;have yB:d=d':=by rw[hd];unfold ZA;rw[<-oQ,hs'];rfl
   subst yB;subst hs';have hl:(45::d:List UInt8).length=d.length+1:=List.length_cons;cases e0
   have t1:((45::d:List UInt8).drop (1:Int).toNat).take ((((45::d:List UInt8).length:Nat):Int).toNat-(1:Int).toNat)=d:=by
     show d.take ((((45::d:List UInt8).length:Nat):Int).toNat-1)=d;exact List.take_of_length_le (by rw[Int.toNat_natCast,hl];omega)
   refine .en func202 ntmps202 fun St c cs hK=> ?_;refine mN ?_;refine To.SA rfl dE rfl ?_;refine To.SA rfl dE rfl ?_;refine U23 ?_;refine .x (mA.gM (E:=en) rfl rfl rfl rfl rfl oM (by exact rfl)) ?_;refine fF ?_;refine .x (mA.OM (E:=en) rfl rfl rfl rfl rfl rfl oM oM oM t1) ?_;refine mN ?_;refine .e (Or.xX (E:=en) rfl rfl rfl rfl rfl rfl rfl rfl rfl dE (fun sb cap jj fz=> ?_));refine U4 ?_;refine Tc.db (Tc.IA (σ:= { x:Nat//x<=d.length }) (fun x=> ([(5,nA (45::d)),(6,.int .i64 (iE (d.take x.1):Nat)),(47,.slice (some ⟨sb,0,none⟩) d.length cap),(48,.int .i64 (d.length:Nat)),(49,.int .i64 (x.1:Nat))],[(sb,true,.cells ⟨QA d++jj⟩ 5 fz)])) (fun x=> d.length-x.1) ?_ ⟨0,Nat.zero_le _⟩);rintro⟨q,hq⟩ ih;show Tc M St _ _ _ _ [(5,nA (45::d)),(6,.int .i64 (iE (d.take q):Nat)),(47,.slice (some ⟨sb,0,none⟩) d.length cap),(48,.int .i64 (d.length:Nat)),(49,.int .i64 (q:Nat))] [(sb,true,.cells ⟨QA d++jj⟩ 5 fz)] _ _;by_cases c1:q=d.length
   · clear ih;subst c1;rw[List.take_length];refine fF ?_;refine .x (mA.gM (E:=en) rfl rfl rfl rfl rfl oM (by exact rfl)) ?_;refine U5 ?_;refine .x .ng ?_;refine U8 ?_;refine .rt hK func202 results202 [_,_] ?_;exact okB
   · have c2:q<d.length:=by omega
     have hx:=List.getElem?_eq_getElem c2;have h3:OH d[q]=true:=List.all_eq_true.1 h1 _ (List.getElem_mem _);have h4:=of_decide_eq_true h3;have fJ:=ih ⟨q+1,oM⟩ (by simp only;omega);clear ih;simp only at fJ;rw[List.take_succ_eq_append_getElem c2,FI] at fJ;have iB:=ht q oM;generalize iE (d.take q)=z at fJ iB ⊢;obtain⟨y,hy⟩:∃y,y=d[q].toNat-48:=⟨_,rfl⟩
     have e8:d[q].toNat=48+y:=by omega
     rw[<-hy] at fJ;have f1:=CQ hx jj;rw[e8] at f1;have u1:=pZ y oM;have g1:iA .gtr .u8 ((y:Nat):Int) 9=some (.bool false):=jH oM;have w1:IntKind.i64.wrap ((y:Nat):Int)=((y:Nat):Int):=wrap64 oM oM;have m1:iA .mul .i64 ((z:Nat):Int) 10=some (.int .i64 ((10*z:Nat):Int)):=by rw[pD oM oM];congr 2;omega
     have a1:iA .add .i64 ((10*z:Nat):Int) ((y:Nat):Int)=some (.int .i64 ((10*z+y:Nat):Int)):=by rw[YD oM oM];congr 2
     refine U42 ?_;exact Tc.db (fJ)
theorem QZ(s:List UInt8)(h1:(ZA 45 s).all OH=true)(h2:1<=(ZA 45 s).length/\(ZA 45 s).length<=9):dA M 169 #[nA s] H (fun v H'=> H.le H'/\v=.tuple ⟨[.int .i64 (numOf s),.nilIface]⟩):=by
 refine .en func169 ntmps169 fun St c cs hK=> ?_;refine U8 ?_;refine .cl (fun H hs=> P6 M H s h1 h2) ?_;refine fH ?_;refine .x (mA.aBx rfl rfl kR) ?_;refine U9 ?_;refine .rt hK func169 results169 [_,_] ?_;exact okB
end
def qD(n:Nat):List UInt8:=if n<10 then [UInt8.ofNat (48+n)] else [UInt8.ofNat (48+n/10),UInt8.ofNat (48+n%10)]
def aBB(n:Int):List UInt8:=qD n.toNat
theorem JY:∀n,n<100->lE (qD n)=true/\numOf (qD n)=(n:Nat)/\(58 ∉ qD n)/\(59 ∉ qD n)/\(10 ∉ qD n)/\(qD n).length<=2/\qD n≠ []:=by decide +kernel
def kD(s:List UInt8):Bool:=
 match FA 58 s with
 | [p]=> lE p
 | p::_=> lE p&&lE (s.drop (p.length+1))&&numOf p !=numOf (s.drop (p.length+1))
 | []=> false
def HC(s:List UInt8):Int:=numOf ((FA 58 s).headD [])
def ZC(s:List UInt8):Int:=if 58∈s then numOf (s.drop (((FA 58 s).headD []).length+1)) else HC s
theorem YJ {s:List UInt8}(h:(58:UInt8) ∉ s):kD s=lE s/\HC s=numOf s/\ZC s=numOf s:=by
 unfold kD ZC HC;rw[tC 58 s h,if_neg h];exact⟨rfl,rfl,rfl⟩
theorem CI {p q:List UInt8}(h:(58:UInt8) ∉ p):kD (p++58::q)=(lE p&&lE q&&numOf p !=numOf q)/\HC (p++58::q)=numOf p/\ZC (p++58::q)=numOf q:=by
 have e:(p++58::q).drop (p.length+1)=q:=by
  rw[List.drop_append,List.drop_of_length_le oM,List.nil_append,Nat.add_sub_cancel_left,List.drop_succ_cons,List.drop_zero]
 have hm:(58:UInt8)∈p++58::q:=by simp
 have hc:=rD 58 q p h;unfold ZC HC;rw[hc,if_pos hm];refine⟨?_,rfl,by show numOf ((p++58::q).drop (p.length+1))=_;rw[e]⟩;unfold kD;rw[hc];cases hq:FA 58 q with
 | nil=> exact(lO 58 q hq).elim
 | cons a l=>
  show(lE p&&lE ((p++58::q).drop (p.length+1))&&numOf p !=numOf ((p++58::q).drop (p.length+1)))=_;rw[e]
section
variable(M:Md prog)(H:View)
def dd:List UInt8:= [48,48,48,49,48,50,48,51,48,52,48,53,48,54,48,55,48,56,48,57,49,48,49,49,49,50,49,51,49,52,49,53,49,54,49,55,49,56,49,57,50,48,50,49,50,50,50,51,50,52,50,53,50,54,50,55,50,56,50,57,51,48,51,49,51,50,51,51,51,52,51,53,51,54,51,55,51,56,51,57,52,48,52,49,52,50,52,51,52,52,52,53,52,54,52,55,52,56,52,57,53,48,53,49,53,50,53,51,53,52,53,53,53,54,53,55,53,56,53,57,54,48,54,49,54,50,54,51,54,52,54,53,54,54,54,55,54,56,54,57,55,48,55,49,55,50,55,51,55,52,55,53,55,54,55,55,55,56,55,57,56,48,56,49,56,50,56,51,56,52,56,53,56,54,56,55,56,56,56,57,57,48,57,49,57,50,57,51,57,52,57,53,57,54,57,55,57,56,57,57]
theorem aAR:∀n,n<100->10<=n->(dd.drop (n*2)).take 2=qD n:=by decide +kernel
theorem KY:∀n,n<10-> [q7 n]=qD n:=by decide
theorem cZ(n:Nat)(h:n<100)(h2:10<=n):dA M 186 #[.int .i64 (n:Nat)] H (fun v H'=> H.le H'/\v=nA (qD n)):=by
 have hl:((dd.length:Nat):Int)=200:=rfl;have e:(dd.drop (((n:Nat):Int)*2).toNat).take (((((n:Nat):Int)*2)+2).toNat-(((n:Nat):Int)*2).toNat)=qD n:=by
  rw[<-aAR n h h2,show(((n:Nat):Int)*2).toNat=n*2 by omega,show((((n:Nat):Int)*2)+2).toNat-n*2=2 by omega]
 refine .en func186 ntmps186 fun St c cs hK=> ?_;refine AV ?_;refine .i ?_ (z:=pD oM oM);refine U ?_;refine .i ?_ (z:=pD oM oM);refine U ?_;refine .x (mA.OM (E:=en) (l:=dd) rfl rfl rfl rfl rfl rfl oM oM oM e) ?_;refine U2 ?_;refine .rt hK func186 results186 [_] ?_;exact okB
theorem dZ(n:Nat)(h:n<100):dA M 186 #[.int .i64 (n:Nat)] H (fun v H'=> H.le H'/\v=nA (qD n)):=by
 by_cases h2:10<=n
 ·exact cZ M H n h h2
 ·have:=T4 M H n oM;rw[KY n oM] at this;exact this
theorem uV(n:Nat)(h:n<100):dA M 161 #[.int .i64 (n:Nat),.int .i64 10] H (fun v H'=> H.le H'/\v=nA (qD n)):=by
 refine .en func161 ntmps161 fun St c cs hK=> ?_;refine U25 ?_;refine .cl (fun H hs=> dZ M H n h) ?_;refine U2 ?_;refine .rt hK func161 results161 [_] ?_;exact okB
theorem B0(n:Nat)(h:n<100):dA M 113 #[.int .i64 (n:Nat)] H (fun v H'=> H.le H'/\v=nA (qD n)):=by
 refine .en func113 ntmps113 fun St c cs hK=> ?_;refine U7 ?_;refine .cl (fun H hs=> uV M H n h) ?_;refine U2 ?_;refine .rt hK func113 results113 [_] ?_;exact okB
theorem o0(z:Int)(h:0<=z/\z<100):dA M 74 #[.int .i64 z] H (fun v H'=> H.le H'/\v=nA (aBB z)):=by
 obtain⟨n,rfl⟩:=Int.eq_ofNat_of_zero_le h.1;refine .en func74 ntmps74 fun St c cs hK=> ?_;refine U7 ?_;refine .cl (fun H hs=> B0 M H n oM) ?_;refine U2 ?_;refine .rt hK func74 results74 [_] ?_;exact okB
end
end Go.Proofs.YtgkmnalhddmclaaGreatDoor
namespace Go.RL
section
variable {P:Program}{E:Env P}{n:Nat}{H₀:View}{R:Rg}{L:Bl}{o:Oper}
theorem mA.aBv {t:TypeId}{x:Operand}{k:IntKind}{p z:Int}(gA:o.op=.unOp .neg t x)(hx:BA R x=some (.int k p))(hz:k.wrap (0-p)=z):mA P n H₀ R L o (.int k z):=
 (fun H tmps _ hr=> by
  subst hz;unfold execOp;rw[gA];simp only[hr.ev hx];exact⟨rfl,rfl⟩)
end
end Go.RL
namespace Go.RL
open Go.Conc
section
variable {P:Program}{E:Env P}{M:Md P}{n:Nat}{H₀:View}{R:Rg}{L L':Bl}{K:Rg->Bl->Prop}{o:Oper}{d:Nat}{v:Value}
theorem mA.AW {cl:Go.Call}{x:Operand}{t:TypeId}{a:Addr}{m c:Nat}(gA:o.op=.call cl)(HB:cl.callee=.builtin .unsafeSliceData)(KI:cl.argTypes=#[t])(wJ:cl.args=#[x])(hx:BA R x=some (.slice (some a) m c))(hc:Nat.beq c 0=false):
  mA P n H₀ R L o (.pointer (some a)):=fun H tmps _ hr=> by
 unfold execOp;rw[gA];simp only[resolve,HB,KI,wJ];have hm:Array.map (vB tmps) #[x]=#[.slice (some a) m c]:=by simp[hr.ev hx]
 rw[hm];refine aA (Builtin.unsafeSliceData_ #[t] o.type #[.slice (some a) m c]) _ ?_;have h0:c≠0:=Nat.ne_of_beq_eq_false hc;show vA P (if c≠0 then Sem.pure (Value.pointer (some a)) else _) H _;rw[if_pos h0];exact⟨rfl,rfl⟩
theorem wI {H:View}{f:Bool}{e:TypeId}{fz:Nat×Nat}{l:List Value}(blk:Nat)(hb:H blk=some (f,.cells ⟨l⟩ e fz)):∀(s a:List UInt8) (off:Nat) {Q:ByteArray->View->Prop},(∀i x,s[i]? =some x->l[off+i]? =some (.int .u8 (x.toNat:Nat)))->Q ⟨⟨a++s⟩⟩ H->vA P (loadBytes ⟨blk,off,none⟩ ⟨⟨a⟩⟩ s.length) H Q
 | [],a,off,Q,_,h=> by
  rw[List.append_nil] at h;exact h
 | x ::s,a,off,Q,hl,h=> by
  have h0:=hl 0 x rfl;have ih:=wI blk hb s (a++[x]) (off+1) (Q:=Q) (fun i y hy=> by
   have:=hl (i+1) y hy;rw[show off+1+i=off+(i+1) by omega];exact this) (by rw[List.append_assoc];exact h)
  refine⟨rfl,rfl,f,⟨l⟩,e,fz,.int .u8 (x.toNat:Nat),hb,?_,?_⟩
  ·simpa using h0
  ·have e1:(ByteArray.mk ⟨a⟩).push ((x.toNat:Nat):Int).toNat.toUInt8=ByteArray.mk ⟨a++[x]⟩:=by
    rw[Int.toNat_natCast,Nat.toUInt8,UInt8.ofNat_toNat,OL]
   show vA P (loadBytes (Addr.add ⟨blk,off,none⟩ 1) ((ByteArray.mk ⟨a⟩).push ((x.toNat:Nat):Int).toNat.toUInt8) s.length) H Q;rw[e1];exact ih
theorem Or.GW(j:Nat){cl:Go.Call}{x y:Operand}{t u e eb blk:Nat}{s:List UInt8}{jj:List Value}(gA:o.op=.call cl)(HB:cl.callee=.builtin .unsafeString)(KI:cl.argTypes=#[t,u])(wJ:cl.args=#[x,y])
  (hx:BA R x=some (.pointer (some ⟨blk,0,none⟩))) (hy:BA R y=some (.int .i64 (s.length:Nat))) (ht:P.underlying t=some (.pointer e)) (SN:s≠ []) (TN:s.length<=1000000000)
  (hL:L[j]? =some (blk,true,.cells ⟨QA s++jj⟩ eb (0,0))) (bR:liesAt P P.depth eb ((QA s++jj).length/P.cellsOf eb) 0 e s.length=true) (hd:o.dst=some d) (hn:d<n)
  (hk:K ((d,nA s)::R) (L.set j (blk,true,.cells ⟨QA s++jj⟩ eb (0,s.length)))):Or M n H₀ R L o K:=
 .val hd hn fun H tmps bB hr=> by
  unfold execOp;rw[gA];simp only[resolve,HB,KI,wJ];have WV:Array.map (vB tmps) #[x,y]=#[.pointer (some ⟨blk,0,none⟩),.int .i64 (s.length:Nat)]:=by simp[hr.ev hx,hr.ev hy]
  rw[WV];have hb:=bB.get hL;have YV:0<s.length:=List.length_pos_iff.2 SN;have h1:¬((s.length:Nat):Int)<0:=by omega
  have h2:¬((s.length:Nat):Int)>IntKind.i64.max:=by
   have:IntKind.i64.max=9223372036854775807:=by decide
   omega
  have h3:¬((s.length:Nat):Int)=0:=by omega
  refine aA (Builtin.unsafeString_ #[t,u] o.type #[.pointer (some ⟨blk,0,none⟩),.int .i64 (s.length:Nat)]) _ ?_;have hz1:∀z:Int,(((s.length:Nat):Int)=z)->¬z<0/\¬z>IntKind.i64.max/\¬z=0/\z.toNat=s.length:=fun z hz=> by subst hz;exact⟨h1,h2,h3,Int.toNat_natCast _⟩
  generalize hzz:((s.length:Nat):Int)=z;obtain⟨z1,z2,z3,z4⟩:=hz1 z hzz
  conv=> arg 2;whnf
  rw[show(IntKind.i64,z).snd.decLt 0=isFalse z1 from Subsingleton.elim _ _]
  conv=> arg 2;whnf
  rw[show IntKind.i64.max.decLt (IntKind.i64,z).snd=isFalse z2 from Subsingleton.elim _ _]
  conv=> arg 2;whnf
  rw[show(IntKind.i64,z).snd.instDecidableEq 0=isFalse z3 from Subsingleton.elim _ _];refine aA (elemOf t) _ (aA (underlying t) _ (cA ht ?_));refine aA (variablesAt ⟨blk,0,none⟩ e z.toNat) _ ?_;rw[z4];refine⟨true,_,_,_,hb,?_⟩;show vA P (if liesAt P P.depth eb ((QA s++jj).length/P.cellsOf eb) 0 e s.length=true then _ else _) H _;rw[if_pos bR];refine aA (loadBytes ⟨blk,0,none⟩ .empty s.length) _ ?_;refine wI blk hb s [] 0 (fun i x hx=> ?_) ?_
  ·rw[Nat.zero_add,List.getElem?_append_left (by rw[oG];exact(List.getElem?_eq_some_iff.1 hx).1)];unfold QA;rw[List.getElem?_map,hx];rfl
  ·refine⟨oM,_,_,_,hb,?_⟩;refine⟨_,rfl,_,bB.set hL _,?_⟩;have e1:(if((0:Nat),(0:Nat)).1==((0:Nat),(0:Nat)).2 then(0,0+s.length) else(min ((0:Nat),(0:Nat)).1 0,max ((0:Nat),(0:Nat)).2 (0+s.length)))=(0,s.length):=by simp
   show K ((d,nA s)::R) (L.set j (blk,true,.cells ⟨QA s++jj⟩ eb (if((0:Nat),(0:Nat)).1==((0:Nat),(0:Nat)).2 then(0,0+s.length) else(min ((0:Nat),(0:Nat)).1 0,max ((0:Nat),(0:Nat)).2 (0+s.length)))));rw[e1];exact hk
end
end Go.RL
namespace Go.Proofs.YtgkmnalhddmclaaGreatDoor
open Go.RL Go.Proofs.Tryz
set_option maxRecDepth 10000
theorem wW(fits:TypeId->Bool)(hf:fits 5=true)(k count n:Nat)(h:n<=count):rowAt prog fits (k+1) 5 count 0 n=true:=by
 have hc:prog.cellsOf 5=1:=by kernel_rfl
 unfold rowAt;simp only[hc];simp[h,hf]
theorem sT(count n:Nat)(h:n<=count):liesAt prog prog.depth 5 (count/prog.cellsOf 5) 0 5 n=true:=by
 have hc:prog.cellsOf 5=1:=by kernel_rfl
 obtain⟨k,hk⟩:∃k,prog.depth=k+1:=⟨prog.depth-1,by
  have:1<=prog.depth:=Nat.le_of_ble_eq_true kR;omega⟩
 have hf:sameLayout prog prog.depth 5 5=true:=by kernel_rfl
 have h1:=wW (fun t=> sameLayout prog prog.depth t 5) hf k count n h;rw[hc,Nat.div_one];show liesAt prog prog.depth 5 count 0 5 n=true;rw[hk] at h1 ⊢;show(rowAt prog (fun t=> sameLayout prog prog.depth t 5) prog.depth 5 count 0 n||_)=true;rw[hk,h1];rfl
theorem VY:prog.underlying 141=some (.pointer 5):=by kernel_rfl
set_option maxHeartbeats 2000000
def Pow(H:View):Prop:=∃f r gt gz,H 2=some (f,.cells ⟨.int .u64 1:: .int .u64 10::r⟩ gt gz)
theorem Pow.le {H H':View}(h:Pow H)(hl:H.le H'):Pow H':=h.imp fun _ ⟨r,gt,gz,e⟩=> ⟨r,gt,gz,hl _ _ e⟩
theorem r8(x:Nat)(h:x<=4):qC .shr .i64 ((x:Int)*78913) 18=some (.int .i64 ((if x<=3 then 0 else 1:Nat):Int)):=by
 rcases(by omega:x=0\/x=1\/x=2\/x=3\/x=4) with rfl|rfl|rfl|rfl|rfl <;> rfl
theorem pX:∀n:Nat,n<13->bl n<=4/\(bl n<=3<->n<8):=by decide
theorem gU(a b:Int)(t:Bool)(h:decide (a≥b)=t):iA .geq .u64 a b=some (.bool t):=by
 subst h;rfl
def gF(z:Int):List UInt8:=if z<0 then 45::qD z.natAbs else qD z.toNat
def WJ(z:Int):Prop:= -12<=z/\z<=99
theorem vR {n:Nat}(h:1<=n):gF (-(n:Int))=45::qD n:=by
 unfold gF;rw[if_pos oM]
 congr 2
 omega
theorem wR {z:Int}(h:0<=z):gF z=aBB z:=by
 unfold gF;rw[if_neg oM];rfl
theorem yT {n:Nat}(h:n<100):n<10/\qD n= [UInt8.ofNat (48+n)]\/10<=n/\qD n= [UInt8.ofNat (48+n/10),UInt8.ofNat (48+n%10)]:=by
 unfold qD;split
 ·exact .inl ⟨oM,rfl⟩
 ·exact .inr ⟨oM,rfl⟩
theorem m4:∀n:Nat,n<13->1<=n->lE (45::qD n)=true/\numOf (45::qD n)= -(n:Int)/\58 ∉ (45::qD n)/\59 ∉ (45::qD n)/\10 ∉ (45::qD n)/\(45::qD n).length<=3:=by decide +kernel
theorem sM {z:Int}(h:WJ z):lE (gF z)=true/\numOf (gF z)=z/\(58 ∉ gF z)/\(59 ∉ gF z)/\(10 ∉ gF z)/\(gF z).length<=3/\gF z≠ []:=by
 by_cases c:0<=z
 ·rw[wR c];obtain⟨h1,h2,h3,h4,h5,h6,h7⟩:=JY z.toNat (by have:=h.2;omega);refine⟨h1,?_,h3,h4,h5,?_,h7⟩
  ·show numOf (qD z.toNat)=z;rw[h2];omega
  ·show(qD z.toNat).length<=3;omega
 ·obtain⟨n,rfl⟩:∃n:Nat,z= -(n:Int):=⟨z.natAbs,oM⟩
  have h12:=h.1;rw[vR oM];obtain⟨h1,h2,h3,h4,h5,h6⟩:=m4 n oM oM;exact⟨h1,h2,h3,h4,h5,h6,by simp⟩
def XA(a b:Int):List UInt8:=if a=b then gF a else gF a++58::gF b
section
variable(M:Md prog)(H:View)
theorem nR(x:Nat)(h:x<=4):dA M 213 #[.int .i64 (x:Nat)] H (fun v H'=> H.le H'/\v=.int .i64 ((if x<=3 then 0 else 1:Nat):Int)):=by
 have e1:=r8 x h;have e0:iA .mul .i64 ((x:Nat):Int) 78913=some (.int .i64 ((x:Int)*78913)):=pD oM oM;generalize (if x<=3 then 0 else 1:Nat)=y at e1;refine .en func213 ntmps213 fun St c cs hK=> ?_;refine U8 ?_;refine .x .sf ?_;refine U2 ?_;refine .rt hK func213 results213 [_] ?_;exact okB
theorem RO(t:Bool):dA M 214 #[.bool t] H (fun v H'=> H.le H'/\v=.int .i64 (if t then 1 else 0)):=by
 cases t with
 | true=>
  refine .en func214 ntmps214 fun St c cs hK=> ?_;refine yI ?_;refine .rt hK func214 results214 [_] ?_;exact okB
 | false=>
  refine .en func214 ntmps214 fun St c cs hK=> ?_;refine AV ?_;refine .rt hK func214 results214 [_] ?_;exact okB
theorem uR(hP:Pow H)(n:Nat)(h1:1<=n)(h:n<13):dA M 187 #[.int .u64 (n:Nat)] H (fun v H'=> H.le H'/\v=.int .i64 ((if n<10 then 1 else 2:Nat):Int)):=by
 obtain⟨b1,b2⟩:=pX n h;obtain⟨f,r,gt,gz,hG⟩:=hP;have hl:=fun H=> G0 M H n oM;have hg:=fun H=> nR M H (bl n) b1;generalize bl n=x at b1 b2 hl hg;by_cases c1:n<8
 ·rw[if_pos (b2.2 c1)] at hg;rw[if_pos oM];have f1:YB false 1 (.int .u64 1:: .int .u64 10::r) (0+((0:Nat):Int).toNat*1)=some (.int .u64 1):=rfl;have e1:=gU ((n:Nat):Int) 1 true (decide_eq_true oM);refine .en func187 ntmps187 fun St c cs hK=> ?_;refine U7 ?_;refine .cl (fun H hs=> hl H) ?_;refine .cl (fun H hs=> hg H) ?_;refine fH ?_;refine .cl (fun H hs=> RO M H true) ?_;refine U3 ?_;refine .rt hK func187 results187 [_] ?_;exact okB
 ·rw[if_neg (fun e=> c1 (b2.1 e))] at hg;have f1:YB false 1 (.int .u64 1:: .int .u64 10::r) (0+((1:Nat):Int).toNat*1)=some (.int .u64 10):=rfl;by_cases c2:n<10
  ·rw[if_pos c2];have e1:=gU ((n:Nat):Int) 10 false (decide_eq_false oM);refine .en func187 ntmps187 fun St c cs hK=> ?_;refine U7 ?_;refine .cl (fun H hs=> hl H) ?_;refine .cl (fun H hs=> hg H) ?_;refine fH ?_;refine .cl (fun H hs=> RO M H false) ?_;refine U3 ?_;refine .rt hK func187 results187 [_] ?_;exact okB
  ·rw[if_neg c2];have e1:=gU ((n:Nat):Int) 10 true (decide_eq_true oM);refine .en func187 ntmps187 fun St c cs hK=> ?_;refine U7 ?_;refine .cl (fun H hs=> hl H) ?_;refine .cl (fun H hs=> hg H) ?_;refine fH ?_;refine .cl (fun H hs=> RO M H true) ?_;refine U3 ?_;refine .rt hK func187 results187 [_] ?_;exact okB
def CV(p:List UInt8)(k:Nat):List Value:=QA p++List.replicate k (.int .u8 0)
theorem u32_in:∀n:Nat,n<300->IntKind.u32.wrap (n:Int)=(n:Int):=by decide +kernel
theorem V1(H₁:View)(b n:Nat)(h:n<10)(vD:eA H₁ [(b,true,.cells ⟨CV [] 24⟩ 262 (0,0))] H):
  dA M 188 #[.slice (some ⟨b,1,none⟩) 1 23,.int .u64 (n:Nat)] H (oJ H₁ (fun _:Unit=> .tuple ⟨[]⟩) (fun _=> [(b,true,.cells ⟨CV [0,UInt8.ofNat (48+n)] 22⟩ 262 (0,0))]) (fun _=> True)):=by
 have w1:IntKind.u32.wrap ((n:Nat):Int)=((n:Nat):Int):=u32_in n oM;have a1:iA .add .u32 48 ((n:Nat):Int)=some (.int .u32 ((48+n:Nat):Int)):=by
  show some (Value.int .u32 (IntKind.u32.wrap (48+(n:Int))))=_;rw[show(48:Int)+(n:Int)=((48+n:Nat):Int) by omega,u32_in _ oM]
 have w2:IntKind.u8.wrap ((48+n:Nat):Int)=(((UInt8.ofNat (48+n)).toNat:Nat):Int):=by
  rw[aAf _ oM,UInt8.toNat_ofNat'];omega
 generalize UInt8.ofNat (48+n)=y at w2;refine dA.enter (vs:= [.slice (some ⟨b,1,none⟩) 1 23,.int .u64 (n:Nat)]) func188 rfl ntmps188 (Nat.le_of_ble_eq_true rfl) (vD) fun St c cs hK=> ?_;refine U5 ?_;refine .done (.seq (.block (.loop (.seq (.sr ?_)))));refine U41 ?_;refine .ov hK func188 results188 [] ?_;exact fun H' hs=> ⟨(),H₁,rfl,View.le_refl _,hs,trivial⟩
theorem aAS:∀n,n<100->dd[2*n]? =some (UInt8.ofNat (48+n/10))/\dd[2*n+1]? =some (UInt8.ofNat (48+n%10)):=by decide +kernel
theorem W1(H₁:View)(b n:Nat)(h:n<100)(Y5:10<=n)(vD:eA H₁ [(b,true,.cells ⟨CV [] 24⟩ 262 (0,0))] H):
  dA M 188 #[.slice (some ⟨b,1,none⟩) 2 23,.int .u64 (n:Nat)] H (oJ H₁ (fun _:Unit=> .tuple ⟨[]⟩) (fun _=> [(b,true,.cells ⟨CV [0,UInt8.ofNat (48+n/10),UInt8.ofNat (48+n%10)] 21⟩ 262 (0,0))]) (fun _=> True)):=by
 obtain⟨d1,d2⟩:=aAS n h;have w1:IntKind.u32.wrap ((n:Nat):Int)=((n:Nat):Int):=u32_in n oM;have r1:iA .rem .u32 ((n:Nat):Int) 100=some (.int .u32 ((n:Nat):Int)):=by
  show some (Value.int .u32 (((n:Nat):Int).tmod 100))=_;rw[Int.tmod_eq_of_lt oM oM]
 have m1:iA .mul .u32 ((n:Nat):Int) 2=some (.int .u32 ((2*n:Nat):Int)):=by
  show some (Value.int .u32 (IntKind.u32.wrap ((n:Int)*2)))=_;rw[show(n:Int)*2=((2*n:Nat):Int) by omega,u32_in _ oM]
 have q1:iA .quo .u32 ((n:Nat):Int) 100=some (.int .u32 0):=by
  show some (Value.int .u32 (IntKind.u32.wrap (((n:Nat):Int).tdiv 100)))=_;rw[Int.tdiv_eq_zero_of_lt oM oM];rfl
 have a1:iA .add .u32 ((2*n:Nat):Int) 1=some (.int .u32 ((2*n+1:Nat):Int)):=by
  show some (Value.int .u32 (IntKind.u32.wrap (((2*n:Nat):Int)+1)))=_;rw[show((2*n:Nat):Int)+1=((2*n+1:Nat):Int) by omega,u32_in _ oM]
 have d3:dd[((2*n+1:Nat):Int).toNat]? =some (UInt8.ofNat (48+n%10)):=d2;have d4:dd[((2*n:Nat):Int).toNat]? =some (UInt8.ofNat (48+n/10)):=d1;clear d1 d2;generalize UInt8.ofNat (48+n%10)=y at d3;generalize UInt8.ofNat (48+n/10)=x at d4;refine dA.enter (vs:= [.slice (some ⟨b,1,none⟩) 2 23,.int .u64 (n:Nat)]) func188 rfl ntmps188 (Nat.le_of_ble_eq_true rfl) (vD) fun St c cs hK=> ?_;refine U5 ?_;refine .done (.seq (.block (.loop (.seq (.sr ?_)))));refine U40 ?_;refine Tc.dr [12,14] [0] mixed rfl ?_;refine V3 0 ?_;refine .nw 3 ?_;refine .nw 4 ?_;refine .nw 5 ?_;refine V3 6 ?_;refine .nw 9 ?_;refine .nw 10 ?_;refine .nn 11 ?_;refine .e 12 0 ?_;refine .nw 13 ?_;refine .e 14 0 ?_;refine .dn ?_;refine xK ?_;refine .ov hK func188 results188 [] ?_;exact fun H' hs=> ⟨(),H₁,rfl,View.le_refl _,hs,trivial⟩
theorem L9:yA prog 262 ⟨true,24,24,.agg ⟨.replicate 24 (.int .u8 0)⟩,[],some (some 24,5),.arr 24 5⟩:=by constructor <;> kernel_rfl
theorem aDl:yA prog 2 ⟨false,1,8,.int .i64 (0),[],none,.int .i64⟩:=by constructor <;> kernel_rfl
theorem j5:∀n:Nat,n<13->1<=n->IntKind.u64.wrap (-(n:Int))=18446744073709551616-(n:Int)/\IntKind.u64.wrap (0-(18446744073709551616-(n:Int)))=(n:Int):=by decide
namespace Fz
def tys:List (Nat×uA):=(2,⟨false,1,8,.int .i64 (0),[],none,.int .i64⟩)::(262,⟨true,24,24,.agg ⟨.replicate 24 (.int .u8 0)⟩,[],some (some 24,5),.arr 24 5⟩)::YtgkmnalhddmclaaGreatDoor.tys
theorem ZP:DL prog tys:=⟨aDl,L9,YtgkmnalhddmclaaGreatDoor.ZP⟩
def en:Env prog:=Env.of tys ZP
theorem sQ(hP:Pow H)(n:Nat)(h1:1<=n)(h:n<13):dA M 161 #[.int .i64 (-(n:Int)),.int .i64 10] H (fun v H'=> H.le H'/\v=nA (45::qD n)):=by
 obtain⟨w1,w2⟩:=j5 n h h1;have hd:=fun(H':View) (h':H.le H')=> uR M H' (hP.le h') n h1 h;have c1:iA .leq .i64 0 (-(n:Int))=some (.bool false):=NG oM;have c2:iA .lss .i64 (-(n:Int)) 0=some (.bool true):=dO oM;rcases yT (n:=n) oM with ⟨Y5,e⟩|⟨Y5,e⟩
 ·rw[e];rw[if_pos Y5] at hd;have hf:=fun(H₂ H₁:View) (b:Nat)=> V1 M H₂ H₁ b n Y5;generalize UInt8.ofNat (48+n)=y at hf;refine .en func161 ntmps161 fun St c cs hK=> ?_;refine U25 ?_;refine .op rfl rfl (Or.alloc (E:=en) rfl rfl rfl (by decide) (fun b5=> ?_));(repeat (refine U ?_));refine .x (mA.P5 (E:=en) rfl rfl rfl rfl rfl rfl (by first|assumption|exact rfl)) ?_;(repeat (refine U ?_));refine .x (mA.aBv rfl rfl w2) ?_;refine U5 ?_;refine .cl (fun H hs=> hd H hs.base) ?_;refine U6 ?_;refine .x (mA.YI (E:=en) (off':=1) rfl rfl rfl rfl rfl rfl rfl rfl dE dE dE (by rw[if_neg dE];rfl)) ?_;refine U ?_;refine .e (Or.fD 0 (σ:=Unit) (fun _=> .tuple ⟨[]⟩) (fun _=> [(b5,true,.cells ⟨CV [0,y] 22⟩ 262 (0,0))]) (fun _=> True) rfl rfl rfl rfl rfl dE (fun H₁ H₂ jT zJ=> .h (hf H₂ H₁ b5 zJ)) (fun _ _=> ?_));(repeat (refine U ?_));refine .x (mA.mT (E:=en) rfl rfl rfl rfl rfl rfl rfl (by omega) (by omega)) ?_;(repeat (refine U ?_));refine .x (mA.YI (E:=en) (off':=0) rfl rfl rfl rfl rfl rfl rfl rfl dE dE dE (by rw[if_neg dE];rfl)) ?_;refine .x (mA.O5 (E:=en) (m:=2) (s:= [45,y]) rfl rfl (fun H hs=> gB.of (hs.get (i:=0) rfl) (Nat.le_of_ble_eq_true rfl)) rfl rfl rfl rfl rfl rfl) ?_;refine U2 ?_;refine .rt hK func161 results161 [_] ?_;exact okB
 ·rw[e];rw[if_neg oM] at hd;have hf:=fun(H₂ H₁:View) (b:Nat)=> W1 M H₂ H₁ b n oM Y5;generalize UInt8.ofNat (48+n%10)=y at hf;generalize UInt8.ofNat (48+n/10)=x at hf;refine .en func161 ntmps161 fun St c cs hK=> ?_;refine U25 ?_;refine .op rfl rfl (Or.alloc (E:=en) rfl rfl rfl (by decide) (fun b5=> ?_));(repeat (refine U ?_));refine .x (mA.P5 (E:=en) rfl rfl rfl rfl rfl rfl (by first|assumption|exact rfl)) ?_;(repeat (refine U ?_));refine .x (mA.aBv rfl rfl w2) ?_;refine U5 ?_;refine .cl (fun H hs=> hd H hs.base) ?_;refine U6 ?_;refine .x (mA.YI (E:=en) (off':=1) rfl rfl rfl rfl rfl rfl rfl rfl dE dE dE (by rw[if_neg dE];rfl)) ?_;refine U ?_;refine .e (Or.fD 0 (σ:=Unit) (fun _=> .tuple ⟨[]⟩) (fun _=> [(b5,true,.cells ⟨CV [0,x,y] 21⟩ 262 (0,0))]) (fun _=> True) rfl rfl rfl rfl rfl dE (fun H₁ H₂ jT zJ=> .h (hf H₂ H₁ b5 zJ)) (fun _ _=> ?_));(repeat (refine U ?_));refine .x (mA.mT (E:=en) rfl rfl rfl rfl rfl rfl rfl (by omega) (by omega)) ?_;(repeat (refine U ?_));refine .x (mA.YI (E:=en) (off':=0) rfl rfl rfl rfl rfl rfl rfl rfl dE dE dE (by rw[if_neg dE];rfl)) ?_;refine .x (mA.O5 (E:=en) (m:=3) (s:= [45,x,y]) rfl rfl (fun H hs=> gB.of (hs.get (i:=0) rfl) (Nat.le_of_ble_eq_true rfl)) rfl rfl rfl rfl rfl rfl) ?_;refine U2 ?_;refine .rt hK func161 results161 [_] ?_;exact okB
end Fz
theorem JO(hP:Pow H)(z:Int)(h:WJ z):dA M 74 #[.int .i64 z] H (fun v H'=> H.le H'/\v=nA (gF z)):=by
 by_cases c:0<=z
 ·rw[wR c];exact o0 M H z ⟨c,by have:=h.2;omega⟩
 ·obtain⟨n,rfl⟩:∃n:Nat,z= -(n:Int):=⟨z.natAbs,oM⟩
  have h12:=h.1;rw[vR oM];have hF:=fun(H':View) (h':H.le H')=> Fz.sQ M H' (hP.le h') n oM oM;have hU:∀H',H.le H'->dA M 113 #[.int .i64 (-(n:Int))] H' (fun v H''=> H'.le H''/\v=nA (45::qD n)):=fun H' h'=> by
   refine .en func113 ntmps113 fun St c cs hK=> ?_;refine U7 ?_;refine .cl (fun H hs=> hF H (View.le_trans h' hs.base)) ?_;refine U2 ?_;refine .rt hK func113 results113 [_] ?_;exact okB
  refine .en func74 ntmps74 fun St c cs hK=> ?_;refine U7 ?_;refine .cl (fun H hs=> hU H hs.base) ?_;refine U2 ?_;refine .rt hK func74 results74 [_] ?_;exact okB
theorem EJ {z:Int}(h:WJ z):(gF z).length<=3:=(sM h).2.2.2.2.2.1
theorem lD {a b:Int}(ha:WJ a)(hb:WJ b):(XA a b).length<=7:=by
 have h1:=EJ ha;have h2:=EJ hb;unfold XA;split
 ·omega
 ·simp only[List.length_append,List.length_cons];omega
theorem zQ(hP:Pow H)(a b:Int)(ha:WJ a)(hb:WJ b):dA M 33 #[WB a b] H (fun v H'=> H.le H'/\v=nA (XA a b)):=by
 have l1:=EJ ha;have l2:=EJ hb;by_cases e:a=b
 ·subst e;have hT:XA a a=gF a:=if_pos rfl;rw[hT];refine .en func33 ntmps33 fun St c cs hK=> ?_;refine U2 ?_;refine .bo fun b1=> ?_;refine uQ ?_;refine .cl (fun H hs=> JO M H (hP.le hs.base) a ha) ?_;refine U2 ?_;refine .rt hK func33 results33 [_] ?_;exact okB
 ·have hT:XA a b=gF a++[58]++gF b:=by
   unfold XA;rw[if_neg e,List.append_assoc];rfl
  rw[hT];have c1:=fun(H':View) (h':H.le H')=> JO M H' (hP.le h') a ha;have c2:=fun(H':View) (h':H.le H')=> JO M H' (hP.le h') b hb;generalize gF a=p at l1 c1;generalize gF b=q at l2 c2;have s1:RL.cF .add p [58]=some (nA (p++[58])):=TM (by simp only[List.length_singleton];omega);have s2:RL.cF .add (p++[58]) q=some (nA (p++[58]++q)):=TM (by simp only[List.length_append,List.length_singleton];omega);refine .en func33 ntmps33 fun St c cs hK=> ?_;refine U2 ?_;refine .bo fun b1=> ?_;refine yI ?_;refine Tc.dr [] [] mixed rfl ?_;refine V2 0 ?_;refine .z 2 rfl (mA.tk fun H hs=> c1 H hs.base) ?_;refine V3 3 ?_;refine .z 6 rfl (mA.tk fun H hs=> c2 H hs.base) ?_;refine V2 7 ?_;refine .dn ?_;refine .rt hK func33 results33 [_] ?_;exact okB
end
end Go.Proofs.YtgkmnalhddmclaaGreatDoor
namespace Go.RL
open Go.Conc Go.ConcN Go.RL.Au
open Go.ConcR (stA smA)
open Go.ConcM (muA OsLater)
section
variable {X:Fk}{B:View}{base N:Nat}{os0:OW}{w w':World}{t:Trace}{ths:List Th}{m m':Mn}{s s':Sh}{H:Nat->View}{D:Nat->Bool}{fn:FuncId}{pos:String}
theorem KE {ths:List Th}{κ:Nat}{T T':Th}(hκ:ths[κ]? =some T):∀(κ':Nat) T'',(ths.set κ T')[κ']? =some T''->(κ'=κ/\T''=T')\/(κ'≠κ/\ths[κ']? =some T''):=fun κ' T'' h'=> by
 by_cases e:κ=κ'
 ·subst e;rw[List.getElem?_set_self (List.getElem?_eq_some_iff.1 hκ).1] at h';cases h'
  exact .inl ⟨rfl,rfl⟩
 ·rw[List.getElem?_set_ne e] at h';exact .inr ⟨Ne.symm e,h'⟩
theorem RY {T:Th}(h:T.owns=true):T.own=1:=by cases T <;> simp[Th.owns] at h <;> rfl
theorem Au.Inv.one {n:Nat}(hv:Inv n ths m s){κ κ':Nat}{T T':Th}(h1:ths[κ]? =some T)(h2:ths[κ']? =some T')(aB:κ≠κ')(ho:T.own=1):T'.owns=false:=by
 cases hT:T'.owns with
 | false=> rfl
 | true=>
  have a1:=aAb (f:=Th.own) rfl h1 h2 aB;have a2:=hv.M.i1;have a3:=RY hT;omega
theorem uH(i:Nat)(mm:Mark):MemOp.ofEvents i fn pos #[Go.ConcR.mk mm]=#[{ g:=i,fn,pos,act:=.mark mm }]:=by
 rw[ofEvents_eq];simp[Go.ConcR.ofEvent_mk]
theorem VH {i j:Nat}{mm:Mark}(h1:mm≠ .disable)(h2:mm≠ .enable):Deaf (t++MemOp.ofEvents i fn pos #[Go.ConcR.mk mm]) j=Deaf t j:=by
 refine Deaf_still t j _ fun op gA=> ?_;rw[uH] at gA;simp at gA
 subst gA;simp[h1,h2]
theorem WT.acquire(h:WT X B base N os0 w t ths m s H D)(hv:Inv X.n ths m s)(ne:X.Mu≠X.Wg/\X.Mu≠X.C/\X.Wg≠X.C){κ:Nat}(hκ:ths[κ]? =some .la)(hN:base+κ<N):
  ∃o,w.heap[X.C]? =some o/\X.GI D o/\Sat ((H (base+κ)).put X.C (true,o)) w/\WT X B base N os0 w (t++MemOp.ofEvents (base+κ) fn pos #[Go.ConcR.mk (.acquire (muA X.Mu))]) (ths.set κ .up) m s (upd H (base+κ) ((H (base+κ)).put X.C (true,o))) D:=by
 have dN:∀(κ':Nat) T,ths[κ']? =some T->T.owns=false:=fun κ' T UA=> by
  by_cases e:κ=κ'
  ·subst e;rw[hκ] at UA;cases UA;rfl
  ·exact hv.one hκ UA e rfl
 obtain⟨⟨o,h1,h2⟩,h3,h4⟩:=h.free dN;have iB:=(List.getElem?_eq_some_iff.1 hκ).1;have DF:Act base N (base+κ):=.inr ⟨oM,hN⟩;have uG:Sat ((H (base+κ)).put X.C (true,o)) w:=(h.vi.sat (base+κ)).put h1 fun _ _ _=> rfl;have gA:=DJ (X:=X) (H:=H (base+κ)) (g:=base+κ) (fn:=fn) (pos:=pos) (m:=.acquire (muA X.Mu)) (t:=t) (fun x hx=> by cases hx) (fun a e=> by cases e);have QW:Deaf t (base+κ)=0:=h.JS κ _ hκ (by simp);have eJ:∀j,Deaf (t++MemOp.ofEvents (base+κ) fn pos #[Go.ConcR.mk (.acquire (muA X.Mu))]) j=Deaf t j:=fun j=> VH (by simp) (by simp);have BN:=h.VM ne DF hN gA;have hka:=h4.acquire (y:= { g:=base+κ,fn,pos,act:=.mark (.acquire (muA X.Mu)) }) DF ⟨rfl,rfl⟩ QW (h.ti.rel _);rw[<-uH] at hka;have hve:∀j b,j≠base+κ->upd H (base+κ) ((H (base+κ)).put X.C (true,o)) j b=H j b:=fun j b e=> by rw[upd_ne _ _ e]
 have hvs:∀b x,upd H (base+κ) ((H (base+κ)).put X.C (true,o)) (base+κ) b=some x->(b=X.C/\x=(true,o))\/(b≠X.C/\H (base+κ) b=some x):=fun b x hx=> by
  rw[upd_same] at hx;by_cases e:b=X.C
  ·subst e;rw[View.pA] at hx;cases hx;exact .inl ⟨rfl,rfl⟩
  ·rw[View.jA _ _ e] at hx;exact .inr ⟨e,hx⟩
 refine⟨o,h1,h2,uG,h.sh,h.cb,⟨fun j=> ?_,fun i j xN b o' hi=> ?_,fun j=> ?_,h.vi.bs,fun j b x o' xJ hj=> ?_,h.vi.bn⟩,fun g hg b=> ?_,?_,fun ho=> ?_,fun κ' T UA hT j hj=> ?_,fun κ' T UA hT=> ?_,by rw[eJ];exact h.GQ,fun κ' T UA hT=> ?_,h.os⟩
 ·by_cases e:j=base+κ
  ·subst e;rw[upd_same];exact uG
  ·rw[upd_ne _ _ e];exact h.vi.sat j
 ·by_cases e:i=base+κ
  ·subst e;rw[hve j b (Ne.symm xN)];rcases hvs b _ hi with ⟨rfl,_⟩|⟨_,hx⟩
   ·exact h3 j
   ·exact h.vi.dj _ j xN b o' hx
  ·rw[hve i b e] at hi;by_cases e':j=base+κ
   ·subst e';cases hx:upd H (base+κ) ((H (base+κ)).put X.C (true,o)) (base+κ) b with
    | none=> rfl
    | some x=>
     rcases hvs b x hx with ⟨rfl,_⟩|⟨_,XG⟩
     ·rw[h3 i] at hi;cases hi
     ·rw[h.vi.dj i _ xN b o' hi] at XG;cases XG
   ·rw[hve j b e'];exact h.vi.dj i j xN b o' hi
 ·by_cases e:j=base+κ
  ·subst e;rw[upd_same];exact⟨by rw[View.jA _ _ ne.2.1];exact(h.vi.sh _).1,by rw[View.jA _ _ ne.2.2];exact(h.vi.sh _).2⟩
  ·rw[upd_ne _ _ e];exact h.vi.sh j
 ·by_cases e:j=base+κ
  ·subst e;rcases hvs b _ hj with ⟨rfl,_⟩|⟨_,hx⟩
   ·rw[h.vi.bn.2.2] at xJ;cases xJ
   ·exact h.vi.bd _ b x o' xJ hx
  ·rw[hve j b e] at hj;exact h.vi.bd j b x o' xJ hj
 ·have e:g≠base+κ:=by rintro rfl;exact hg DF
  rw[upd_ne _ _ e];exact h.hx g hg b
 ·refine⟨BN.nr,BN.bd,fun g hg i a b f o' ha hb hH hw=> ?_,BN.pl,fun i a b ha hk hb=> ?_,BN.eV,BN.sy,BN.rel,BN.gs,BN.mem⟩
  ·by_cases e:g=base+κ
   ·subst e;rcases hvs b _ hH with ⟨rfl,_⟩|⟨_,hx⟩
    ·exact hka i a ha hb
    ·exact BN.kn _ hg i a b f o' ha hb hx hw
   ·rw[hve g b e] at hH;exact BN.kn g hg i a b f o' ha hb hH hw
  ·obtain⟨g1,g2,g3⟩:=BN.np i a b ha hk hb;refine⟨fun g=> ?_,g2,g3⟩;by_cases e:g=base+κ
   ·subst e;rw[upd_same,View.jA _ _ g3];exact g1 _
   ·rw[upd_ne _ _ e];exact g1 g
 ·have:=ho κ .up (List.getElem?_set_self iB);cases this
 ·rcases KE hκ κ' T UA with ⟨rfl,rfl⟩|⟨_,LC⟩
  ·rw[hve j _ hj];exact h3 j
  ·rw[dN κ' T LC] at hT;cases hT
 ·rcases KE hκ κ' T UA with ⟨rfl,rfl⟩|⟨e,LC⟩
  ·cases hT
  ·obtain⟨r,hr⟩:=h.OG κ' T LC hT;exact⟨r,hr.appOther (g:=base+κ) gA.own oM⟩
 ·rw[eJ];rcases KE hκ κ' T UA with ⟨rfl,rfl⟩|⟨e,LC⟩
  ·exact QW
  ·exact h.JS κ' T LC hT
theorem WT.release(h:WT X B base N os0 w t ths m s H D)(hv:Inv X.n ths m s)(ne:X.Mu≠X.Wg/\X.Mu≠X.C/\X.Wg≠X.C){κ:Nat}(hκ:ths[κ]? =some .ur)(hN:base+κ<N){o:Obj}{H':View}(hH:H (base+κ)=H'.put X.C (true,o))(hC:H' X.C=none){D':Nat->Bool}(hG:X.GI D' o):
  WT X B base N os0 w (t++MemOp.ofEvents (base+κ) fn pos #[Go.ConcR.mk (.releaseMerge (muA X.Mu))]) (ths.set κ .ud) m s (upd H (base+κ) H') D':=by
 have dN:∀(κ':Nat) T,κ'≠κ->ths[κ']? =some T->T.owns=false:=fun κ' T e UA=> hv.one hκ UA (Ne.symm e) rfl;have iB:=(List.getElem?_eq_some_iff.1 hκ).1;have DF:Act base N (base+κ):=.inr ⟨oM,hN⟩;have hHC:H (base+κ) X.C=some (true,o):=by rw[hH,View.pA]
 have GD:∀b x,H' b=some x->H (base+κ) b=some x:=fun b x hx=> by
  rw[hH,View.jA]
  ·exact hx
  ·rintro rfl;rw[hC] at hx;cases hx
 have gA:=DJ (X:=X) (H:=H (base+κ)) (g:=base+κ) (fn:=fn) (pos:=pos) (m:=.releaseMerge (muA X.Mu)) (t:=t) (fun x hx=> by cases hx) (fun a e=> by cases e);have QW:Deaf t (base+κ)=0:=h.JS κ _ hκ (by simp);have eJ:∀j,Deaf (t++MemOp.ofEvents (base+κ) fn pos #[Go.ConcR.mk (.releaseMerge (muA X.Mu))]) j=Deaf t j:=fun j=> VH (by simp) (by simp);have BN:=h.VM ne DF hN gA;have bV:=Tok.release (base:=base) (N:=N) (Mu:=X.Mu) (C:=X.C) (y:= { g:=base+κ,fn,pos,act:=.mark (.releaseMerge (muA X.Mu)) }) (fun i a ha hb=> h.ti.kn _ DF i a X.C true o ha hb hHC (.inl rfl)) ⟨rfl,rfl⟩ QW;rw[<-uH] at bV;have AN:=h.own κ _ hκ rfl;refine⟨h.sh,h.cb,⟨fun j=> ?_,fun i j xN b o' hi=> ?_,fun j=> ?_,h.vi.bs,fun j b x o' xJ hj=> ?_,h.vi.bn⟩,fun g hg b=> ?_,BN.less (fun b f o' hb=> ⟨f,o',GD b _ hb,id⟩),fun _=> ⟨⟨o,h.vi.sat (base+κ) _ _ _ hHC,hG⟩,fun j=> ?_,bV⟩,fun κ' T UA hT j hj=> ?_,fun κ' T UA hT=> ?_,by rw[eJ];exact h.GQ,fun κ' T UA hT=> ?_,h.os⟩
 ·by_cases e:j=base+κ
  ·subst e;rw[upd_same];exact fun b f o' hb=> h.vi.sat _ b f o' (GD b _ hb)
  ·rw[upd_ne _ _ e];exact h.vi.sat j
 ·by_cases e:i=base+κ
  ·subst e;rw[upd_same] at hi;rw[upd_ne _ _ (Ne.symm xN)];exact h.vi.dj _ j xN b o' (GD b _ hi)
  ·rw[upd_ne _ _ e] at hi;by_cases e':j=base+κ
   ·subst e';rw[upd_same];cases hx:H' b with
    | none=> rfl
    | some x=> have:=GD b x hx;rw[h.vi.dj i _ xN b o' hi] at this;cases this
   ·rw[upd_ne _ _ e'];exact h.vi.dj i j xN b o' hi
 ·by_cases e:j=base+κ
  ·subst e;rw[upd_same];constructor
   ·cases hx:H' X.Mu with
    | none=> rfl
    | some x=> have:=GD _ x hx;rw[(h.vi.sh _).1] at this;cases this
   ·cases hx:H' X.Wg with
    | none=> rfl
    | some x=> have:=GD _ x hx;rw[(h.vi.sh _).2] at this;cases this
  ·rw[upd_ne _ _ e];exact h.vi.sh j
 ·by_cases e:j=base+κ
  ·subst e;rw[upd_same] at hj;exact h.vi.bd _ b x o' xJ (GD b _ hj)
  ·rw[upd_ne _ _ e] at hj;exact h.vi.bd j b x o' xJ hj
 ·have e:g≠base+κ:=by rintro rfl;exact hg DF
  rw[upd_ne _ _ e];exact h.hx g hg b
 ·by_cases e:j=base+κ
  ·subst e;rw[upd_same];exact hC
  ·rw[upd_ne _ _ e];exact AN j e
 ·rcases KE hκ κ' T UA with ⟨rfl,rfl⟩|⟨e,LC⟩
  ·cases hT
  ·rw[dN κ' T e LC] at hT;cases hT
 ·rcases KE hκ κ' T UA with ⟨rfl,rfl⟩|⟨e,LC⟩
  ·cases hT
  ·obtain⟨r,hr⟩:=h.OG κ' T LC hT;exact⟨r,hr.appOther (g:=base+κ) gA.own oM⟩
 ·rw[eJ];rcases KE hκ κ' T UA with ⟨rfl,rfl⟩|⟨e,LC⟩
  ·exact QW
  ·exact h.JS κ' T LC hT
theorem WT.mute(h:WT X B base N os0 w t ths m s H D)(ne:X.Mu≠X.Wg/\X.Mu≠X.C/\X.Wg≠X.C){κ:Nat}(hκ:ths[κ]? =some .wr)(hN:base+κ<N):
  WT X B base N os0 w (t++MemOp.ofEvents (base+κ) fn pos #[Go.ConcR.mk (.releaseMerge (stA X.Wg))]) (ths.set κ .wk) m s H D:=by
 have iB:=(List.getElem?_eq_some_iff.1 hκ).1;have DF:Act base N (base+κ):=.inr ⟨oM,hN⟩;have gA:=DJ (X:=X) (H:=H (base+κ)) (g:=base+κ) (fn:=fn) (pos:=pos) (m:=.releaseMerge (stA X.Wg)) (t:=t) (fun x hx=> by cases hx) (fun a e=> by cases e);have QW:Deaf t (base+κ)=0:=h.JS κ _ hκ (by simp);have eJ:∀j,Deaf (t++MemOp.ofEvents (base+κ) fn pos #[Go.ConcR.mk (.releaseMerge (stA X.Wg))]) j=Deaf t j:=fun j=> VH (by simp) (by simp);refine⟨h.sh,h.cb,h.vi,h.hx,h.VM ne DF hN gA,fun ho=> ?_,fun κ' T UA hT=> ?_,fun κ' T UA hT=> ?_,by rw[eJ];exact h.GQ,fun κ' T UA hT=> ?_,h.os⟩
 ·obtain⟨h1,h3,h4⟩:=h.free fun κ' T UA=> by
   by_cases e:κ'=κ
   ·subst e;rw[hκ] at UA;cases UA;rfl
   ·exact ho κ' T (by rw[List.getElem?_set_ne (Ne.symm e)];exact UA)
  refine⟨h1,h3,h4.grow fun op gD x hx=> ?_⟩;rw[uH] at gD;simp at gD
  subst gD;cases hx
 ·rcases KE hκ κ' T UA with ⟨rfl,rfl⟩|⟨e,LC⟩
  ·cases hT
  ·exact h.own κ' T LC hT
 ·rcases KE hκ κ' T UA with ⟨rfl,rfl⟩|⟨e,LC⟩
  ·exact⟨_,RelBy.new QW fn pos⟩
  ·obtain⟨r,hr⟩:=h.OG κ' T LC hT;exact⟨r,hr.appOther (g:=base+κ) gA.own oM⟩
 ·rw[eJ];rcases KE hκ κ' T UA with ⟨rfl,rfl⟩|⟨e,LC⟩
  ·exact QW
  ·exact h.JS κ' T LC hT
theorem BC {R:View}{b:Nat}{f:Bool}{o:Obj}(h:ro R b=some (f,o)):f=false/\∃f',R b=some (f',o):=by
 unfold ro at h;obtain⟨x,hx,he⟩:=Option.map_eq_some_iff.1 h;cases he
 exact⟨rfl,x.1,hx⟩
theorem LD {R:View}{b:Nat}(h:R b=none):ro R b=none:=by simp[ro,h]
theorem WT.fork(h:WT X B base N os0 w t ths .go s H D)(hb:1<=base)(hN:N=base+ths.length)(hm:m'.deaf=0){x y:MemOp}(hx:x.g=0/\x.act=.go N)(hy:y.g=N/\y.act=.start):
  WT X B base (N+1) os0 w (t ++ #[x,y]) (ths++[.ld]) m' s (upd (upd H 0 (ro (H 0))) N (ro (H 0))) D:=by
 have hN0:N≠0:=by omega
 have hHN:∀b,H N b=none:=h.hx N fun hh=> hh.elim hN0 fun hh=> by omega
 have QW:Deaf t 0=0:=h.GQ;have T7:∀op∈#[x,y],op.act≠ .mark .disable/\op.act≠ .mark .enable:=by
  intro op gA;simp only[List.mem_toArray,List.mem_cons,List.not_mem_nil,or_false] at gA;rcases gA with rfl|rfl
  ·rw[hx.2];simp
  ·rw[hy.2];simp
 have eJ:∀j,Deaf (t ++ #[x,y]) j=Deaf t j:=fun j=> Deaf_still t j _ T7;have hV:∀j b,upd (upd H 0 (ro (H 0))) N (ro (H 0)) j b=if j=N\/j=0 then ro (H 0) b else H j b:=fun j b=> by
  by_cases e:j=N
  ·subst e;rw[upd_same,if_pos (.inl rfl)]
  ·rw[upd_ne _ _ e];by_cases e0:j=0
   ·subst e0;rw[upd_same,if_pos (.inr rfl)]
   ·rw[upd_ne _ _ e0,if_neg (by simp[e,e0])]
 have get:∀(κ:Nat) T,(ths++[Th.ld])[κ]? =some T->ths[κ]? =some T\/(κ=ths.length/\T=.ld):=fun κ T hκ=> by
  rw[List.getElem?_append] at hκ;split at hκ
  ·exact .inl hκ
  ·cases hz:κ-ths.length with
   | zero=> rw[hz] at hκ;cases hκ;exact .inr ⟨oM,rfl⟩
   | succ z=> rw[hz] at hκ;cases hκ
 have get':∀(κ:Nat) T,ths[κ]? =some T->(ths++[Th.ld])[κ]? =some T:=fun κ T hκ=> by
  rw[List.getElem?_append_left (List.getElem?_eq_some_iff.1 hκ).1];exact hκ
 refine⟨h.sh,h.cb,⟨fun j b f o xJ=> ?_,fun i j xN b o hi=> ?_,fun j=> ?_,h.vi.bs,fun j b x' o xJ hj=> ?_,h.vi.bn⟩,fun g hg b=> ?_,?_,fun ho=> ?_,fun κ T hκ hT j hj=> ?_,fun κ T hκ hT=> ?_,by rw[eJ,hm];exact QW,fun κ T hκ hT=> ?_,h.os⟩
 ·rw[hV] at xJ;split at xJ
  ·obtain⟨_,f',h1⟩:=BC xJ;exact h.vi.sat 0 b f' o h1
  ·exact h.vi.sat j b f o xJ
 ·rw[hV] at hi ⊢;split at hi
  ·have:=(BC hi).1;cases this
  ·split
   ·exact LD (h.vi.dj i 0 oM b o hi)
   ·exact h.vi.dj i j xN b o hi
 ·rw[hV,hV];split
  ·exact⟨LD (h.vi.sh 0).1,LD (h.vi.sh 0).2⟩
  ·exact h.vi.sh j
 ·rw[hV] at hj;split at hj
  ·have:=(BC hj).1;cases this
  ·exact h.vi.bd j b x' o xJ hj
 ·rw[hV,if_neg (by
   rintro(rfl|rfl)
   ·exact hg (.inr ⟨oM,oM⟩)
   ·exact hg (.inl rfl))]
  exact h.hx g (fun hh=> hg (hh.imp id fun⟨h1,h2⟩=> ⟨h1,oM⟩)) b
 ·exact h.ti.fork hx hy QW oM oM (fun b f o xJ=> BC xJ) hHN
 ·obtain⟨h1,h3,h4⟩:=h.free fun κ T hκ=> ho κ T (get' κ T hκ);refine⟨h1,fun g=> ?_,h4.fork h.ti.gs hx hy QW⟩;rw[hV];split
  ·exact LD (h3 0)
  ·exact h3 g
 ·rcases get κ T hκ with UA|⟨_,rfl⟩
  ·have h1:=h.own κ T UA hT;have iB:=(List.getElem?_eq_some_iff.1 UA).1;rw[hV];split
   ·exact LD (h1 0 oM)
   ·exact h1 j hj
  ·cases hT
 ·rcases get κ T hκ with UA|⟨_,rfl⟩
  ·obtain⟨r,hr⟩:=h.OG κ T UA hT;have iB:=(List.getElem?_eq_some_iff.1 UA).1;refine⟨r,hr.app fun i hi hgi hc=> ?_⟩;obtain⟨a,ha,_⟩:=hc;obtain⟨op,gA,gT⟩:=touch_of ha;rcases getElem?_append_cases gA with ⟨hl,_⟩|⟨_,dD⟩
   ·omega
   ·simp only[List.mem_toArray,List.mem_cons,List.not_mem_nil,or_false] at dD;rcases dD with rfl|rfl
    ·rw[hx.2] at gT;cases gT
    ·rw[hy.2] at gT;cases gT
  ·cases hT
 ·rw[eJ];rcases get κ T hκ with UA|⟨rfl,rfl⟩
  ·exact h.JS κ T UA hT
  ·rw[<-hN];exact Deaf_absent fun i op hi e=> by have:=h.ti.gs i op hi;omega
end
end Go.RL
