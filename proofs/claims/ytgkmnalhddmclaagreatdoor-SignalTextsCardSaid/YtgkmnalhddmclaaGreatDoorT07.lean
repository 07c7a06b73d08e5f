/-
 Texts of the proofs over baudot/dial.
-/
import Derived.Test.YtgkmnalhddmclaaGreatDoorT06
import Derived.Lib.Bytealg
namespace Go.Proofs.YtgkmnalhddmclaaGreatDoor
open Go.RL Go.Proofs.Tryz
set_option maxRecDepth 10000
set_option maxHeartbeats 16000000
section
variable(M:Md prog)(H:View)
theorem A7(m:Nat)(hm:m<10):cA M 186 #[.int .i64 (m:Nat)] H (fun v H'=> H.le H'/\v=jA [H9 m]):=by
 have e:(([48,49,50,51,52,53,54,55,56,57,97,98,99,100,101,102,103,104,105,106,107,108,109,110,111,112,113,114,115,116,117,118,119,120,121,122]:List UInt8).drop ((m:Nat):Int).toNat).take ((((m:Nat):Int)+1).toNat-((m:Nat):Int).toNat)= [H9 m]:=by
  rcases(by omega:m=0\/m=1\/m=2\/m=3\/m=4\/m=5\/m=6\/m=7\/m=8\/m=9) with rfl|rfl|rfl|rfl|rfl|rfl|rfl|rfl|rfl|rfl <;> rfl
 have hl:(([48,49,50,51,52,53,54,55,56,57,97,98,99,100,101,102,103,104,105,106,107,108,109,110,111,112,113,114,115,116,117,118,119,120,121,122]:List UInt8).length:Nat)=36:=rfl;rw[<-e];refine .en func186 ntmps186 fun St c cs hK=> ?_;refine bJ ?_;refine .x (oA.HD (E:=en) (l:= [48,49,50,51,52,53,54,55,56,57,97,98,99,100,101,102,103,104,105,106,107,108,109,110,111,112,113,114,115,116,117,118,119,120,121,122]) rfl rfl rfl rfl rfl rfl oM oM oM) ?_;refine U2 ?_;refine .rt hK func186 results186 [_] ?_;exact okB
end
end Go.Proofs.YtgkmnalhddmclaaGreatDoor
namespace Go.RL
open Go.Conc
section
variable {P:Program}{E:Env P}{M:Md P}{n:Nat}{H₀:View}{R:Rg}{L:Bl}{o:Oper}{K:Rg->Bl->Prop}
end
section
variable {P:Program}{E:Env P}{M:Md P}{n:Nat}{H₀:View}{R:Rg}{L:Bl}{o:Oper}{K:Rg->Bl->Prop}{d:Nat}
theorem Gl.FR {e:TypeId}{sz:Nat}(g:Gl e sz):(g.bl.map (·.1)).Nodup:=by
 unfold Gl.bl;split <;> simp
end
end Go.RL
namespace Go.Proofs.YtgkmnalhddmclaaGreatDoor
open Go.RL Go.Proofs.Tryz
set_option maxRecDepth 10000
set_option maxHeartbeats 16000000
def PH(H:View)(F:Option Addr)(n:Nat)(x:Nat->List UInt8):Prop:=
 n=0\/∃b o f gs gt gz,F=some ⟨b,o,none⟩/\H b=some (f,.cells ⟨gs⟩ gt gz)/\∀j:Nat,j<n->SB false 1 gs (o+(j:Int).toNat*1)=some (jA (x j))
theorem PH.le {H H':View}{F:Option Addr}{n:Nat}{x:Nat->List UInt8}(h:PH H F n x)(k:H.le H'):PH H' F n x:=
 h.imp id fun⟨b,o,f,gs,gt,gz,h1,h2,h3⟩=> ⟨b,o,f,gs,gt,gz,h1,k _ _ h2,h3⟩
def eB(l:List (List UInt8)):List Value:=l.map jA
theorem sD(l:List (List UInt8)):(eB l).length=l.length:=by simp[eB]
theorem FE(l m:List (List UInt8)):eB (l++m)=eB l++eB m:=by simp[eB]
end Go.Proofs.YtgkmnalhddmclaaGreatDoor
namespace Go.RL
open Go.Conc
section
variable {P:Program}{M:Md P}{St:View->Goroutine->Prop}{n:Nat}{b:FB}{H₀:View}{cs:List Frame}{R:Rg}{L L₁:Bl}{ds:List Deferred}{k:List Item}{md:Region.Mode}{ops:Array Oper}{S:Array Bool->View->Prop}{fuel:Nat}{listed:Array Bool}
end
end Go.RL
namespace Go.Proofs.YtgkmnalhddmclaaGreatDoor
open Go.RL Go.Proofs.Tryz
set_option maxRecDepth 10000
set_option maxHeartbeats 8000000
theorem aDX:Xt prog 162 Extern.BytealgIndexByte.indexByte:=⟨Tryz.f162,func162,by kernel_rfl,by kernel_rfl,by kernel_rfl,by kernel_rfl⟩
section
variable(M:Md prog)(H:View)
theorem UJ(s:List UInt8)(x:Nat):cA M 114 #[jA s,.int .u8 (x:Nat)] H (fun v H'=> H.le H'/\v=.int .i64 (CZ s (UInt8.ofNat x))):=by
 refine .en func114 ntmps114 fun St c cs hK=> ?_;refine U8 ?_;refine .x (oA.entry rfl rfl rfl rfl aDX (fun H Q hq=> K7 hq)) ?_;refine U2 ?_;refine .rt hK func114 results114 [_] ?_;exact okB
theorem vR(s:List UInt8)(x:Nat):cA M 78 #[jA s,.int .u8 (x:Nat)] H (fun v H'=> H.le H'/\v=.int .i64 (CZ s (UInt8.ofNat x))):=by
 refine .en func78 ntmps78 fun St c cs hK=> ?_;refine U8 ?_;refine .cl (fun H hs=> UJ M H s x) ?_;refine U2 ?_;refine .rt hK func78 results78 [_] ?_;exact okB
theorem VJ(s:List UInt8)(x:Nat)(z:Int)(h:CZ s (UInt8.ofNat x)=z):cA M 78 #[jA s,.int .u8 (x:Nat)] H (fun v H'=> H.le H'/\v=.int .i64 z):=by
 subst h;exact vR M H s x
end
def nA(c:UInt8):List UInt8->List (List UInt8)
 | []=> [[]]
 | x::s=> if x=c then []::nA c s else(x::(nA c s).headD [])::(nA c s).tail
theorem MD(c x:UInt8)(s:List UInt8):nA c (x::s)=if x=c then []::nA c s else(x::(nA c s).headD [])::(nA c s).tail:=rfl
theorem AE(c:UInt8):∀s,nA c s≠ []
 | []=> by simp[nA]
 | x::s=> by unfold nA;split <;> simp
theorem YB(c:UInt8):∀s,(nA c s).length=s.count c+1
 | []=> rfl
 | x ::s=> by
  have ih:=YB c s;unfold nA;by_cases h:x=c
  ·subst h;rw[if_pos rfl,List.count_cons_self,List.length_cons,ih]
  ·rw[if_neg h,List.count_cons_of_ne h,List.length_cons,List.length_tail,ih];omega
theorem MC(c:UInt8)(q:List UInt8):∀p,c ∉ p->nA c (p++c::q)=p::nA c q
 | [],_=> by show nA c (c::q)=_;rw[MD,if_pos rfl]
 | x::p,h=> by
  have h1:¬x=c:=fun e=> h (by rw[e];exact List.mem_cons_self);have ih:=MC c q p fun hc=> h (List.mem_cons_of_mem _ hc);show nA c (x::(p++c::q))=_;rw[MD,if_neg h1,ih];rfl
theorem MB(c:UInt8):∀p,c ∉ p->nA c p= [p]
 | [],_=> rfl
 | x::p,h=> by
  have h1:¬x=c:=fun e=> h (by rw[e];exact List.mem_cons_self);have ih:=MB c p fun hc=> h (List.mem_cons_of_mem _ hc);rw[MD,if_neg h1,ih];rfl
theorem jG(c:UInt8)(s:List UInt8):c ∉ s\/∃p q,s=p++c::q/\c ∉ p:=by
 by_cases h:c∈s
 ·obtain⟨p,q,h1,h2⟩:=List.eq_append_cons_of_mem h;exact .inr ⟨p,q,h1,h2⟩
 ·exact .inl h
theorem DZ {s:List UInt8}{c:UInt8}{i:Nat}(h:(ByteArray.mk ⟨s⟩)[i]! =c)(hi:i<s.length):s[i]? =some c:=by
 have:(ByteArray.mk ⟨s⟩)[i]! =s[i]:=by
  have e:=JK s i;rw[List.getElem?_eq_getElem hi] at e;have h2:i<(ByteArray.mk ⟨s⟩).size:=hi;rw[getElem!_pos (ByteArray.mk ⟨s⟩) i h2];rw[getElem?_pos (ByteArray.mk ⟨s⟩) i h2] at e;exact Option.some.inj e
 rw[List.getElem?_eq_getElem hi,<-this,h]
theorem FY {s:List UInt8}{c:UInt8}{i:Nat}(h:s[i]? =some c):(ByteArray.mk ⟨s⟩)[i]! =c:=by
 obtain⟨hi,h1⟩:=List.getElem?_eq_some_iff.1 h;have e:=JK s i;have h2:i<(ByteArray.mk ⟨s⟩).size:=hi;rw[getElem!_pos (ByteArray.mk ⟨s⟩) i h2];rw[getElem?_pos (ByteArray.mk ⟨s⟩) i h2,h] at e;exact Option.some.inj e
theorem EZ {s:List UInt8}{c:UInt8}(h:c ∉ s):CZ s c= -1:=by
 unfold CZ;split
 ·rename_i i hf
  have h1:=List.find?_some hf;have h2:=List.mem_range.1 (List.mem_of_find?_eq_some hf);exact(h (List.mem_of_getElem? (DZ (beq_iff_eq.1 h1) h2))).elim
 ·rfl
theorem fM {p q:List UInt8}{c:UInt8}(h:c ∉ p):CZ (p++c::q) c=(p.length:Nat):=by
 have hc:(p++c::q)[p.length]? =some c:=by rw[List.getElem?_append_right (Nat.le_refl _),Nat.sub_self];rfl
 unfold CZ;split
 ·rename_i i hf
  have h1:=List.find?_some hf;have h2:=List.mem_range.1 (List.mem_of_find?_eq_some hf);have h3:=DZ (beq_iff_eq.1 h1) h2;have h4:¬i<p.length:=fun mB=> by
   rw[List.getElem?_append_left mB] at h3;exact h (List.mem_of_getElem? h3)
  have h5:¬p.length<i:=fun mB=> by
   have:=(List.find?_eq_some_iff_getElem.1 hf).2;obtain⟨j,hj,mU,wG⟩:=this;rw[List.getElem_range] at mU;subst mU;have:=wG p.length mB;rw[List.getElem_range,FY hc] at this;simp at this
  congr 1
  omega
 ·rename_i hf
  have:=List.find?_eq_none.1 hf p.length (List.mem_range.2 (by simp));rw[FY hc] at this;simp at this
def lastB(c:UInt8)(s:List UInt8):Bool:=s.getLast? ==some c
def JF(c:UInt8)(s:List UInt8):List UInt8:=if lastB c s then s.dropLast else s
theorem IZ(c:UInt8)(s:List UInt8)(h:1<=s.length):((s.drop (s.length-1)).take 1== [c])=lastB c s:=by
 have mB:s.length-1<s.length:=by omega
 unfold lastB;rw[List.getLast?_eq_getElem?,List.drop_eq_getElem_cons mB,List.getElem?_eq_getElem mB];show([s[s.length-1]]== [c])=(some s[s.length-1]==some c)
 simp
theorem nL(c:UInt8):∀(s:List UInt8) (n:Int),s.foldl (fun(n:Int) x=> if x==c then n+1 else n) n=n+(s.count c:Nat)
 | [],n=> by simp
 | x::s,n=> by
  rw[List.foldl_cons,nL c s,List.count_cons];split <;> omega
theorem cY {P:Program}{s:List UInt8}{c:Nat}{H:View}{Q:Value->View->Prop}(h:Q (.int .i64 (s.count (UInt8.ofNat c):Nat)) H):yA P (Extern.BytealgCount.count #[jA s,.int .u8 (c:Nat)]) H Q:=by
 unfold Extern.BytealgCount.count;show yA P (Sem.pure _) H Q;show Q (goInt ((ByteArray.mk ⟨s⟩).foldl (fun(n:Int) x=> if x==((c:Nat):Int).toNat.toUInt8 then n+1 else n) 0)) H;have e1:((c:Nat):Int).toNat.toUInt8=UInt8.ofNat c:=rfl;rw[e1,Go.Lib.foldl_data];show Q (goInt (s.foldl (fun(n:Int) x=> if x==UInt8.ofNat c then n+1 else n) 0)) H;rw[nL,Int.zero_add];exact h
theorem aD0:Xt prog 192 Extern.BytealgCount.count:=⟨Tryz.f192,func192,by kernel_rfl,by kernel_rfl,by kernel_rfl,by kernel_rfl⟩
section
variable(M:Md prog)(H:View)
theorem s3(s:List UInt8)(y:UInt8):cA M 164 #[jA s,jA [y]] H (fun v H'=> H.le H'/\v=.int .i64 (s.count y:Nat)):=by
 have hc:UInt8.ofNat y.toNat=y:=UInt8.ofNat_toNat;refine .en func164 ntmps164 fun St c cs hK=> ?_;refine B4 ?_;refine .x (oA.uJ (E:=en) rfl rfl rfl rfl rfl oM (by exact rfl)) ?_;refine .x (oA.entry (v:=.int .i64 (s.count y:Nat)) rfl rfl rfl rfl aD0 (fun H Q hq=> cY (by rw[hc];exact hq))) ?_;refine U2 ?_;refine .rt hK func164 results164 [_] ?_;exact okB
theorem sM(s:List UInt8)(y:UInt8)(z:Int)(hz:CZ s y=z):cA M 193 #[jA s,jA [y]] H (fun v H'=> H.le H'/\v=.int .i64 z):=by
 have hc:UInt8.ofNat y.toNat=y:=UInt8.ofNat_toNat;have h5:=fun H=> cA.is (.int .i64 z) (by rewrite [hc,hz];rfl) (UJ M H s y.toNat);by_cases he:s= [y]
 ·have h0:z=0:=by rw[<-hz,he];exact fM (p:= []) (q:= []) (by simp)
  have hb:([y]==s)=true:=by rw[he];exact beq_self_eq_true _
  subst h0;refine .en func193 ntmps193 fun St c cs hK=> ?_;refine BV ?_;refine .x (oA.cC (v:=.bool true) rfl rfl rfl (by show some (Value.bool _)=_;rw[hb])) ?_;refine U8 ?_;refine .rt hK func193 results193 [_] ?_;exact okB
 ·have hb:([y]==s)=false:=by simp only[beq_eq_false_iff_ne,ne_eq];exact fun e=> he e.symm
  refine .en func193 ntmps193 fun St c cs hK=> ?_;refine BV ?_;refine .x (oA.cC (v:=.bool false) rfl rfl rfl (by show some (Value.bool _)=_;rw[hb])) ?_;refine WL ?_;refine .x (oA.uJ (E:=en) rfl rfl rfl rfl rfl oM (by exact rfl)) ?_;refine .cl (fun H hs=> h5 H) ?_;refine U2 ?_;refine .rt hK func193 results193 [_] ?_;exact okB
end
section
variable(M:Md prog)(H:View)
theorem C3(s:List UInt8)(y:UInt8)(h:y ∉ s):cA M 166 #[jA s,jA [y]] H (fun v H'=> H.le H'/\v=.tuple ⟨[jA s,jA [],.bool false]⟩):=by
 have hx:=EZ h;refine .en func166 ntmps166 fun St c cs hK=> ?_;refine eF ?_;refine .cl (fun H hs=> sM M H s y _ hx) ?_;refine bJ ?_;refine .rt hK func166 results166 [_,_,_] ?_;exact okB
theorem B3(p q:List UInt8)(y:UInt8)(h:y ∉ p)(hm:p.length+q.length<=1000000):cA M 166 #[jA (p++y::q),jA [y]] H (fun v H'=> H.le H'/\v=.tuple ⟨[jA p,jA q,.bool true]⟩):=by
 have hx:=fM (q:=q) h;have hl:(p++y::q).length=p.length+1+q.length:=by simp;omega
 have h1:([y]:List UInt8).length=1:=rfl;have t1:((p++y::q).drop ((0:Nat):Int).toNat).take (((p.length:Nat):Int).toNat-((0:Nat):Int).toNat)=p:=by simp
 have t2:((p++y::q).drop (((p.length:Nat):Int)+(([y].length:Nat):Int)).toNat).take ((((p++y::q).length:Nat):Int).toNat-(((p.length:Nat):Int)+(([y].length:Nat):Int)).toNat)=q:=by
  have e:(((p.length:Nat):Int)+(([y].length:Nat):Int)).toNat=p.length+1:=by simp only[h1];omega
  rw[e,hl,List.drop_append,List.drop_of_length_le oM,List.nil_append,Nat.add_sub_cancel_left,List.drop_succ_cons,List.drop_zero];exact List.take_of_length_le oM
 generalize p++y::q=s at hl hx t1 t2 ⊢;refine .en func166 ntmps166 fun St c cs hK=> ?_;refine eF ?_;refine .cl (fun H hs=> sM M H s y _ hx) ?_;refine U9 ?_;refine Tc.dr [] [] mixed rfl ?_;refine V2 0 ?_;refine .q 2 rfl (oA.HD (E:=en) rfl rfl rfl rfl rfl rfl oM oM oM) ?_;refine V5 3 ?_;refine .q 8 rfl (oA.HD (E:=en) rfl rfl rfl rfl rfl rfl oM oM oM) ?_;refine V3 9 ?_;refine .dn ?_;refine .rt hK func166 results166 [_,_,_] ?_;refine fun H' hs=> ⟨hs.base,?_⟩
 rw[t1,t2];rfl
theorem mY(s:List UInt8)(y:UInt8)(h:y ∉ s):cA M 116 #[jA s,jA [y]] H (fun v H'=> H.le H'/\v=.tuple ⟨[jA s,jA [],.bool false]⟩):=by
 refine .en func116 ntmps116 fun St c cs hK=> ?_;refine zI ?_;refine .cl (fun H hs=> C3 M H s y h) ?_;refine U7 ?_;refine .rt hK func116 results116 [_,_,_] ?_;exact okB
theorem EP(p q:List UInt8)(y:UInt8)(h:y ∉ p)(hm:p.length+q.length<=1000000):cA M 116 #[jA (p++y::q),jA [y]] H (fun v H'=> H.le H'/\v=.tuple ⟨[jA p,jA q,.bool true]⟩):=by
 refine .en func116 ntmps116 fun St c cs hK=> ?_;refine zI ?_;refine .cl (fun H hs=> B3 M H p q y h hm) ?_;refine U7 ?_;refine .rt hK func116 results116 [_,_,_] ?_;exact okB
theorem bL(s:List UInt8)(y:UInt8)(hm:s.length<=1000000):cA M 118 #[jA s,jA [y]] H (fun v H'=> H.le H'/\v=.bool (lastB y s)):=by
 have h1:([y]:List UInt8).length=1:=rfl;by_cases c1:s= []
 ·subst c1;refine .en func118 ntmps118 fun St c cs hK=> ?_;refine xR ?_;refine .rt hK func118 results118 [_] ?_;exact okB
 ·have c2:1<=s.length:=List.length_pos_iff.2 c1;have e:=IZ y s c2;have e2:(((s.length:Nat):Int)-(([y].length:Nat):Int)).toNat=s.length-1:=by simp only[h1];omega
  have e1:RL.cC .eql ((s.drop (((s.length:Nat):Int)-(([y].length:Nat):Int)).toNat).take (((s.length:Nat):Int).toNat-(((s.length:Nat):Int)-(([y].length:Nat):Int)).toNat)) [y]=some (.bool (lastB y s)):=by
   rw[e2,Int.toNat_natCast,show s.length-(s.length-1)=1 by omega,<-e];rfl
  refine .en func118 ntmps118 fun St c cs hK=> ?_;refine pH ?_;refine .x (oA.HD (E:=en) rfl rfl rfl rfl rfl rfl oM oM oM) ?_;refine U5 ?_;refine .rt hK func118 results118 [_] ?_;exact okB
theorem aO(s:List UInt8)(y:UInt8)(hm:s.length<=1000000):cA M 81 #[jA s,jA [y]] H (fun v H'=> H.le H'/\v=jA (JF y s)):=by
 have h1:([y]:List UInt8).length=1:=rfl;by_cases c1:lastB y s=true
 ·have c2:1<=s.length:=by
   cases s with
   | nil=> cases c1
   | cons=> simp
  have R2:=fun H=> cA.is (.bool true) (by rewrite [c1];rfl) (bL M H s y hm);have e1:(s.drop ((0:Nat):Int).toNat).take ((((s.length:Nat):Int)-(([y].length:Nat):Int)).toNat-((0:Nat):Int).toNat)=JF y s:=by
   have:(((s.length:Nat):Int)-(([y].length:Nat):Int)).toNat=s.length-1:=by simp only[h1];omega
   rw[this];unfold JF;rw[if_pos c1,List.dropLast_eq_take];rfl
  refine .en func81 ntmps81 fun St c cs hK=> ?_;refine U9 ?_;refine .cl (fun H hs=> R2 H) ?_;refine zI ?_;refine .x (oA.HD (E:=en) rfl rfl rfl rfl rfl rfl oM oM oM) ?_;refine U2 ?_;refine .rt hK func81 results81 [_] ?_;refine fun H' hs=> ⟨hs.base,?_⟩
  rw[e1];rfl
 ·have c2:lastB y s=false:=by simpa using c1
  have R2:=fun H=> cA.is (.bool false) (by rewrite [c2];rfl) (bL M H s y hm);have e1:JF y s=s:=by unfold JF;rw[c2];rfl
  rw[e1];refine .en func81 ntmps81 fun St c cs hK=> ?_;refine U9 ?_;refine .cl (fun H hs=> R2 H) ?_;refine U8 ?_;refine .rt hK func81 results81 [_] ?_;exact okB
theorem KP(s:List UInt8)(y:UInt8)(hm:s.length<=1000000):cA M 41 #[jA s,jA [y]] H (fun v H'=> H.le H'/\v=jA (JF y s)):=by
 refine .en func41 ntmps41 fun St c cs hK=> ?_;refine U8 ?_;refine .cl (fun H hs=> aO M H s y hm) ?_;refine U2 ?_;refine .rt hK func41 results41 [_] ?_;exact okB
def UA(y:UInt8)(s:List UInt8):List UInt8:=if dC s [y] then s.drop 1 else s
theorem CD {s:List UInt8}{y:UInt8}(h:dC s [y]=true):∃q,s=y::q:=by
 cases s with
 | nil=> cases h
 | cons x q=>
  unfold dC at h;simp at h
  exact⟨q,by rw[h]⟩
end
end Go.Proofs.YtgkmnalhddmclaaGreatDoor
namespace Go.RL
open Go.Conc
section
variable {P:Program}{E:Env P}{n:Nat}{H₀:View}{R:Rg}{L:Bl}{o:Oper}
theorem oA.CN {t:TypeId}{x:Operand}{lo hi:Option Operand}{a b:Int}{l z:List UInt8}{r:wA}(iA:o.op=.slice t x lo hi none)(hx:GA R x=some (jA l))(ht:E.ty t=some r)(LB:r.ds=.str)
  (eW:bound R lo 0=some a) (kU:bound R hi l.length=some b) (h0:0<=a) (h1:a<=b) (h2:b<=l.length) (hz:(l.drop a.toNat).take (b.toNat-a.toNat)=z):oA P n H₀ R L o (jA z):=by
 subst hz;exact oA.HD iA hx ht LB eW kU h0 h1 h2
end
end Go.RL
namespace Go.Proofs.YtgkmnalhddmclaaGreatDoor
open Go.RL Go.Proofs.Tryz
set_option maxRecDepth 10000
set_option maxHeartbeats 8000000
def TX(P:List (List UInt8))(b:Nat):Value:=.slice (some ⟨b,0,none⟩) P.length P.length
def bT(P:List (List UInt8))(b:Nat):Bl:= [(b,true,.cells ⟨eB P⟩ 9 (0,0))]
def YF(P:List (List UInt8))(m i:Nat):List Value:=eB (P.take i)++List.replicate (m-i) (jA [])
theorem DX {P:List (List UInt8)}{m i:Nat}(hP:P.length=m)(hi:i<=m):(YF P m i).length=m:=by
 unfold YF;rw[List.length_append,sD,List.length_take,List.length_replicate];omega
theorem ES {P:List (List UInt8)}{m i:Nat}{p:List UInt8}(hP:P.length=m)(hp:P[i]? =some p):IE (YF P m i) (0+((i:Nat):Int).toNat*1) [jA p]=YF P m (i+1):=by
 obtain⟨hi,rfl⟩:=List.getElem?_eq_some_iff.1 hp;have h1:(eB (P.take i)).length=i:=by rw[sD,List.length_take];omega
 rw[Int.toNat_natCast,Nat.zero_add,Nat.mul_one];unfold IE YF;rw[List.take_left' h1,List.drop_append,List.drop_of_length_le (by rw[h1];exact Nat.le_add_right _ _),h1,List.nil_append,List.drop_replicate,List.take_succ_eq_append_getElem hi,FE];have e:m-i-(i+[jA P[i]].length-i)=m-(i+1):=by simp only[List.length_singleton];omega
 rw[e];rfl
theorem TU {P:List (List UInt8)}{m:Nat}(hP:P.length=m):YF P m m=eB P:=by
 unfold YF;rw[List.take_of_length_le oM,Nat.sub_self];simp
section
variable(M:Md prog)(H:View)
theorem J3(s:List UInt8)(y:UInt8)(z:Int)(hz:CZ s y=z):cA M 165 #[jA s,jA [y]] H (fun v H'=> H.le H'/\v=.int .i64 z):=by
 refine .en func165 ntmps165 fun St c cs hK=> ?_;refine U8 ?_;refine .cl (fun H hs=> sM M H s y z hz) ?_;refine U2 ?_;refine .rt hK func165 results165 [_] ?_;exact okB
theorem yY(s:List UInt8)(y:UInt8)(hm:s.length<=1000000):
  cA M 115 #[jA s,jA [y],.int .i64 0,.int .i64 (-1)] H (fun v H'=> H.le H'/\∃b,v=TX (nA y s) b/\True/\∀z∈bT (nA y s) b,H' z.1=some z.2/\H z.1=none):=by
 have PB:=YB y s;have hle:s.count y<=s.length:=List.count_le_length;obtain⟨P,hP⟩:∃P,P=nA y s:=⟨_,rfl⟩
 obtain⟨m,hmc⟩:∃m,m=s.count y:=⟨_,rfl⟩
 have hPl:P.length=m+1:=by rw[hP,hmc];exact PB
 have hc2:=fun H=> cA.is (.int .i64 (m:Nat)) (by rewrite [<-hmc];rfl) (s3 M H s y);have a1:gA .add .i64 ((m:Nat):Int) 1=some (.int .i64 ((m+1:Nat):Int)):=tC oM oM;have aCv:(if(((s.length:Nat):Int)+1)<((m+1:Nat):Int) then(((s.length:Nat):Int)+1) else((m+1:Nat):Int))=((m+1:Nat):Int):=if_neg oM;have s1:gA .sub .i64 ((m+1:Nat):Int) 1=some (.int .i64 ((m:Nat):Int)):=by rw[GF oM oM];congr 2;omega
 rw[<-hP];refine .en func115 ntmps115 fun St c cs hK=> ?_;refine U30 ?_;refine .cl (fun H hs=> hc2 H) ?_;refine U9 ?_;refine .x (oA.min rfl rfl rfl rfl rfl rfl (by assumption)) ?_;refine U5 ?_;refine .e (Or.makeSlice (E:=en) (len:=m+1) (cap:=m+1) rfl rfl rfl rfl rfl rfl (Nat.le_refl _) oM rfl rfl dE (fun b=> ?_));have hz:mC [jA []] ((m+1)*1)=YF P (m+1) 0:=by
  rw[wT,Nat.mul_one];unfold YF;rfl
 refine To.perm (L₁:= [(b,true,.cells ⟨YF P (m+1) 0⟩ 9 (0,0))]) (by rw[<-hz];exact List.Perm.refl _) ?_;refine zH ?_;refine Tc.db (Tc.vA (σ:= { x:Nat×List UInt8//x.1<=m/\nA y x.2=P.drop x.1/\x.2.length<=1000000 }) (fun x=> ([(0,jA x.1.2),(1,jA [y]),(2,.int .i64 0),(3,.int .i64 (m:Nat)),(9,.slice (some ⟨b,0,none⟩) (m+1) (m+1)),(10,.int .i64 (x.1.1:Nat))],[(b,true,.cells ⟨YF P (m+1) x.1.1⟩ 9 (0,0))])) (fun x=> m-x.1.1) ?_ ⟨(0,s),Nat.zero_le _,hP.symm,hm⟩);rintro⟨⟨i,r⟩,g1,g2,g3⟩ ih;simp only at g1 g2 g3;show Tc M St _ _ _ _ [(0,jA r),(1,jA [y]),(2,.int .i64 0),(3,.int .i64 (m:Nat)),(9,.slice (some ⟨b,0,none⟩) (m+1) (m+1)),(10,.int .i64 (i:Nat))] [(b,true,.cells ⟨YF P (m+1) i⟩ 9 (0,0))] _ _;have hlen:=DX hPl (i:=i) oM;have hZ:Nat.ble (0+((i:Nat):Int).toNat*1+1) (YF P (m+1) i).length=true:=by
  rw[hlen];exact Nat.ble_eq_true_of_le oM
 by_cases c1:i=m
 ·clear ih;subst c1;have sH:P[i]? =some r:=by
   have h1:(P.drop i).length=1:=by rw[List.length_drop];omega
   rw[<-g2,YB] at h1;have h2:y ∉ r:=fun h=> by have:=List.count_pos_iff.2 h;omega
   rw[MB y r h2] at g2;have h3:(P.drop i)[0]? =some r:=by rw[<-g2];rfl
   rwa [List.getElem?_drop] at h3
  have kB:=ES hPl sH;rw[TU hPl] at kB;have a2:gA .add .i64 ((i:Nat):Int) 1=some (.int .i64 ((i+1:Nat):Int)):=tC oM oM;refine w9 ?_;refine .x (oA.sliceTo (E:=en) (k:=i+1) rfl rfl rfl rfl rfl rfl oM oM) ?_;refine U2 ?_;refine .rt hK func115 results115 [_] ?_;refine fun H' hs=> ⟨hs.base,b,?_,trivial,fun z hz=> ?_⟩
  ·show _=TX P b;unfold TX;rw[hPl];rfl
  ·simp only[bT,List.mem_singleton] at hz;subst hz;exact⟨hs.get (i:=0) rfl,hs.fresh (i:=0) rfl⟩
 ·have c2:i<m:=by omega
  rcases jG y r with h0|⟨p,q,rfl,h0⟩
  ·exfalso
   rw[MB y r h0] at g2;have h1:=congrArg List.length g2;rw[List.length_drop,List.length_singleton] at h1;omega
  rw[MC y q p h0] at g2;have hp:P[i]? =some p:=by
   have h3:(P.drop i)[0]? =some p:=by rw[<-g2];rfl
   rwa [List.getElem?_drop] at h3
  have hq:nA y q=P.drop (i+1):=by
   have h3:(P.drop i).drop 1=nA y q:=by rw[<-g2];rfl
   rw[<-h3,List.drop_drop]
  have hx:=fM (q:=q) h0;have hl:(p++y::q).length=p.length+1+q.length:=by simp;omega
  have h1:([y]:List UInt8).length=1:=rfl;have t1:((p++y::q).drop ((0:Nat):Int).toNat).take ((((p.length:Nat):Int)+0).toNat-((0:Nat):Int).toNat)=p:=by simp
  have t2:((p++y::q).drop (((p.length:Nat):Int)+(([y].length:Nat):Int)).toNat).take ((((p++y::q).length:Nat):Int).toNat-(((p.length:Nat):Int)+(([y].length:Nat):Int)).toNat)=q:=by
   have e:(((p.length:Nat):Int)+(([y].length:Nat):Int)).toNat=p.length+1:=by simp only[h1];omega
   rw[e,hl,List.drop_append,List.drop_of_length_le oM,List.nil_append,Nat.add_sub_cancel_left,List.drop_succ_cons,List.drop_zero];exact List.take_of_length_le oM
  have kB:=ES hPl hp;have a2:gA .add .i64 ((i:Nat):Int) 1=some (.int .i64 ((i+1:Nat):Int)):=tC oM oM;have bE:=ih ⟨(i+1,q),by simp only;omega,hq,by simp only;omega⟩ (by simp only;omega);clear ih;have hg:0<=0:=Nat.le_refl _;obtain⟨r,hr⟩:∃r,r=p++y::q:=⟨_,rfl⟩
  rw[<-hr] at hl hx t1 t2 g3;show Tc M St _ _ _ _ [(0,jA (p++y::q)),(1,jA [y]),(2,.int .i64 0),(3,.int .i64 (m:Nat)),(9,.slice (some ⟨b,0,none⟩) (m+1) (m+1)),(10,.int .i64 (i:Nat))] [(b,true,.cells ⟨YF P (m+1) i⟩ 9 (0,0))] _ _;rw[<-hr];clear hg hr;refine zH ?_;refine .cl (fun H hs=> J3 M H r y _ hx) ?_;refine pH ?_;refine .x (oA.CN (E:=en) rfl rfl rfl rfl rfl rfl oM oM oM t1) ?_;refine zI ?_;refine .x (oA.CN (E:=en) rfl rfl rfl rfl rfl rfl oM oM oM t2) ?_;refine U8 ?_;exact Tc.db (bE)
theorem m4(s:List UInt8)(y:UInt8)(hm:s.length<=1000000):
  cA M 79 #[jA s,jA [y]] H (fun v H'=> H.le H'/\∃b,v=TX (nA y s) b/\True/\∀z∈bT (nA y s) b,H' z.1=some z.2/\H z.1=none):=by
 refine .en func79 ntmps79 fun St c cs hK=> ?_;refine U8 ?_;refine .e (Or.uA (TX (nA y s)) (bT (nA y s)) (fun _=> True) rfl rfl rfl rfl rfl dE (fun _=> by simp[bT]) (fun H hs=> .h (yY M H s y hm)) (fun b _=> ?_));refine U2 ?_;refine .rt hK func79 results79 [_] ?_;refine fun H' hs=> ⟨hs.base,b,rfl,trivial,fun z hz=> ?_⟩
 simp only[bT,List.mem_singleton] at hz;subst hz;exact⟨hs.get (i:=0) rfl,hs.fresh (i:=0) rfl⟩
end
end Go.Proofs.YtgkmnalhddmclaaGreatDoor
namespace Go.RL
open Go.Conc
def isIf:TypeDesc->Bool
 | .interface _=> true
 | _=> false
def ifT(P:Program)(t:TypeId):Bool:=match P.underlying t with|some D=> isIf D|none=> false
def VZ(P:Program)(t:TypeId):Bool:=match P.underlying t with|some D=> !isIf D|none=> false
theorem AU {P:Program}{t:TypeId}(h:ifT P t=true):∃ms,P.underlying t=some (.interface ms):=by
 unfold ifT at h;split at h
 ·rename_i D hD
  cases D <;> first|exact⟨_,hD⟩|cases h
 ·cases h
theorem FQ {P:Program}{t:TypeId}(h:VZ P t=true):∃D,P.underlying t=some D/\isIf D=false:=by
 unfold VZ at h;split at h
 ·rename_i D hD
  exact⟨D,hD,by simpa using h⟩
 ·cases h
section
variable {P:Program}{E:Env P}{M:Md P}{n:Nat}{H₀:View}{R:Rg}{L L':Bl}{K:Rg->Bl->Prop}{o:Oper}{d:Nat}{v:Value}
theorem oA.aCO {t u:TypeId}{x:Operand}(iA:o.op=.binOp .eql t x (.const .nilIface) u)(hx:GA R x=some .nilIface)(hi:ifT P t=true):oA P n H₀ R L o (.bool true):=fun H tmps _ hr=> by
 obtain⟨ms,ht⟩:=AU hi;unfold execOp;rw[iA];simp only[hr.ev hx];show yA P (((eqGuard .eql t x (.const .nilIface) .nilIface .nilIface).bind fun _=> binOp .eql t .nilIface .nilIface).bind _) H _;refine aA _ _ (aA _ _ ?_);have hg:eqGuard .eql t x (.const .nilIface) .nilIface .nilIface=Sem.pure ():=by
  unfold eqGuard;cases x <;> rfl
 rw[hg];show yA P ((Op.equalIn (9999+1) t .nilIface .nilIface).bind fun c=> Sem.pure (Value.bool c)) H _;refine aA _ _ ?_;unfold Op.equalIn;refine aA (underlying t) _ (dA ht ?_);exact⟨rfl,rfl⟩
theorem oA.aCP {t u:TypeId}{x:Operand}(iA:o.op=.binOp .neq t x (.const .nilIface) u)(hx:GA R x=some .nilIface)(hi:ifT P t=true):oA P n H₀ R L o (.bool false):=fun H tmps _ hr=> by
 obtain⟨ms,ht⟩:=AU hi;unfold execOp;rw[iA];simp only[hr.ev hx];show yA P (((eqGuard .neq t x (.const .nilIface) .nilIface .nilIface).bind fun _=> binOp .neq t .nilIface .nilIface).bind _) H _;refine aA _ _ (aA _ _ ?_);have hg:eqGuard .neq t x (.const .nilIface) .nilIface .nilIface=Sem.pure ():=by
  unfold eqGuard;cases x <;> rfl
 rw[hg];show yA P ((Op.equalIn (9999+1) t .nilIface .nilIface).bind fun c=> Sem.pure (Value.bool (!c))) H _;refine aA _ _ ?_;unfold Op.equalIn;refine aA (underlying t) _ (dA ht ?_);exact⟨rfl,rfl⟩
theorem oA.iface {t:TypeId}{x:Operand}(iA:o.op=.makeInterface t x)(hx:GA R x=some v)(hi:VZ P t=true):oA P n H₀ R L o (.iface t v):=fun H tmps _ hr=> by
 obtain⟨D,ht,hD⟩:=FQ hi;unfold execOp;rw[iA];simp only[hr.ev hx];refine aA (Instr.makeInterface t v) _ ?_;unfold Instr.makeInterface;refine aA (underlying t) _ (dA ht ?_);cases D <;> first|exact⟨rfl,rfl⟩|cases hD
theorem oA.OP {t a:TypeId}{x:Operand}(iA:o.op=.typeAssert x t a true)(hx:GA R x=some (.iface a v))(hi:VZ P a=true):oA P n H₀ R L o (.tuple ⟨[v,.bool true]⟩):=fun H tmps _ hr=> by
 obtain⟨D,ht,hD⟩:=FQ hi;unfold execOp;rw[iA];simp only[hr.ev hx];refine aA (Instr.typeAssert _ t a true) _ ?_;unfold Instr.typeAssert;refine aA (underlying a) _ (dA ht ?_);cases D <;> first
   | (show yA P (if a=a then Sem.pure (Value.tuple #[v,.bool true]) else _) H _
      rw[if_pos rfl];exact⟨rfl,rfl⟩)
   | (exfalso;cases hD;done)
theorem oA.J4 {t a b:TypeId}{x:Operand}{r:wA}(iA:o.op=.typeAssert x t a true)(hx:GA R x=some (.iface b v))(gB:Nat.beq b a=false)(hi:VZ P a=true)(vE:E.ty a=some r):oA P n H₀ R L o (.tuple ⟨[r.zero,.bool false]⟩):=fun H tmps _ hr=> by
 obtain⟨D,ht,hD⟩:=FQ hi;unfold execOp;rw[iA];simp only[hr.ev hx];refine aA (Instr.typeAssert _ t a true) _ ?_;unfold Instr.typeAssert;refine aA (underlying a) _ (dA ht ?_);have h1:¬b=a:=fun e=> by rw[e,Nat.beq_refl] at gB;cases gB
 cases D <;> first
   | (show yA P (if b=a then Sem.pure (Value.tuple #[v,.bool true]) else(zeroValue a).bind fun z=> Sem.pure (Value.tuple #[z,.bool false])) H _
      rw[if_neg h1];refine aA (zeroValue a) _ (AB (E.ok _ _ vE).zero ?_);exact⟨rfl,rfl⟩)
   | (exfalso;cases hD;done)
end
end Go.RL
namespace Go.Proofs.YtgkmnalhddmclaaGreatDoor
open Go.RL Go.Proofs.Tryz
set_option maxRecDepth 10000
set_option maxHeartbeats 8000000
def aB(s:List UInt8):Nat:=s.foldl (fun n x=> 10*n+(x.toNat-48)) 0
theorem DD(s:List UInt8)(x:UInt8):aB (s++[x])=10*aB s+(x.toNat-48):=by simp[aB]
theorem uF {s:List UInt8}(h:s.all KD=true):∀i,i<=s.length->aB (s.take i)<10 ^ i
 | 0,_=> by simp[aB]
 | i+1,hi=> by
  have ih:=uF h i oM;rw[List.take_succ_eq_append_getElem oM,DD,Nat.pow_succ];have h1:KD s[i]=true:=List.all_eq_true.1 h _ (List.getElem_mem _);have h2:=of_decide_eq_true h1;omega
def RA(s:List UInt8):Bool:=
 decide (1<=(UA 45 s).length/\(UA 45 s).length<=9)&&(UA 45 s).all KD&&((UA 45 s)[0]?.getD 0 !=48||(UA 45 s).length==1 && !dC s [45])
def numOf(s:List UInt8):Int:=if dC s [45] then -((aB (UA 45 s):Nat):Int) else(aB (UA 45 s):Nat)
theorem I1:∀d:Nat,d<10->gA .sub .u8 ((48+d:Nat):Int) 48=some (.int .u8 ((d:Nat):Int)):=by
 intro d h;have:d=0\/d=1\/d=2\/d=3\/d=4\/d=5\/d=6\/d=7\/d=8\/d=9:=by omega
 rcases this with rfl|rfl|rfl|rfl|rfl|rfl|rfl|rfl|rfl|rfl <;> rfl
theorem HR {s:List UInt8}{q:Nat}{x:UInt8}(h:s[q]? =some x)(jj:List Value):SB false 1 (CA s++jj) (0+((q:Nat):Int).toNat*1)=some (.int .u8 (x.toNat:Nat)):=by
 show(CA s++jj)[0+((q:Nat):Int).toNat*1]? =_;rw[Int.toNat_natCast,Nat.zero_add,Nat.mul_one,List.getElem?_append_left (by rw[rF];exact(List.getElem?_eq_some_iff.1 h).1)];unfold CA;rw[List.getElem?_map,h];rfl
theorem vK {P:List (List UInt8)}{H:View}{b:Nat}{f:Bool}{jj:List Value}{e:TypeId}{fz:Nat×Nat}(h:H b=some (f,.cells ⟨eB P++jj⟩ e fz)):PH H (some ⟨b,0,none⟩) P.length (fun i=> P[i]?.getD []):=by
 refine .inr ⟨b,0,f,_,e,fz,rfl,h,fun j hj=> ?_⟩;show(eB P++jj)[0+((j:Nat):Int).toNat*1]? =_;rw[Int.toNat_natCast,Nat.zero_add,Nat.mul_one,List.getElem?_append_left (by rw[sD];exact hj)];unfold eB;show _=some (jA (P[j]?.getD []));rw[List.getElem?_map,List.getElem?_eq_getElem hj];rfl
section
variable(M:Md prog)(H:View)
theorem dI:cA M 42 #[.bool true] H (fun v H'=> H.le H'/\v=.tuple ⟨[]⟩):=by
 refine .en func42 ntmps42 fun St c cs hK=> ?_;refine U7 ?_;refine .ov hK func42 results42 [] ?_;exact okB
theorem l9(s:List UInt8)(h1:(UA 45 s).all KD=true)(h2:1<=(UA 45 s).length/\(UA 45 s).length<=9):cA M 202 #[jA s] H (fun v H'=> H.le H'/\v=.tuple ⟨[.int .i64 (numOf s),.nilIface]⟩):=by
 obtain⟨d,hd⟩:∃d,d=UA 45 s:=⟨_,rfl⟩
 obtain⟨sg,oR⟩:∃sg,sg=dC s [45]:=⟨_,rfl⟩
 have hn:numOf s=if sg then -((aB d:Nat):Int) else(aB d:Nat):=by rw[oR,hd];rfl
 rw[hn];rw[<-hd] at h1 h2;have hd9:aB d<10 ^ 9:=by
   have:=uF h1 d.length (Nat.le_refl _);rw[List.take_length] at this;exact Nat.lt_of_lt_of_le this (Nat.pow_le_pow_right dE h2.2)
 have ht:∀i,i<=d.length->aB (d.take i)<1000000000:=fun i hi=> Nat.lt_of_lt_of_le (uF h1 i hi) (Nat.pow_le_pow_right (n:=10) dE (Nat.le_trans hi h2.2));have hsl:s.length<=10/\1<=s.length:=by
   cases sg with
   | true => obtain⟨q,rfl⟩:=CD oR.symm;have:d=q:=by rw[hd];unfold UA;rw[<-oR];rfl
             subst this;simp only[List.length_cons];omega
   | false => have:d=s:=by rw[hd];unfold UA;rw[<-oR];rfl
              subst this;omega
 have e0:s[0]? =some (s[0]?.getD 0):=by
   rw[List.getElem?_eq_getElem oM];rfl
 obtain⟨x0,hx0⟩:∃x,x=s[0]?.getD 0:=⟨_,rfl⟩
 rw[<-hx0] at e0;have b0:gA .eql .u8 ((x0.toNat:Nat):Int) 45=some (.bool sg):=by
   cases sg with
   | true=> obtain⟨q,rfl⟩:=CD oR.symm;cases e0;rfl
   | false=>
     have:d=s:=by rw[hd];unfold UA;rw[<-oR];rfl
     have h3:KD x0=true:=List.all_eq_true.1 h1 _ (by rw[this];exact List.mem_of_getElem? e0);have h4:=of_decide_eq_true h3;exact CB oM
 have p0:sg=false->gA .eql .u8 ((x0.toNat:Nat):Int) 43=some (.bool false):=fun hf=> by
   subst hf;have:d=s:=by rw[hd];unfold UA;rw[<-oR];rfl
   have h3:KD x0=true:=List.all_eq_true.1 h1 _ (by rw[this];exact List.mem_of_getElem? e0);have h4:=of_decide_eq_true h3;exact CB oM
 cases sg with
 | false=>
   have LB:d=s:=by rw[hd];unfold UA;rw[<-oR];rfl
   have p1:=p0 rfl;subst LB;refine .en func202 ntmps202 fun St c cs hK=> ?_;refine pH ?_;refine To.LA rfl dE rfl ?_;refine To.LA rfl dE rfl ?_;refine U41 ?_;refine .e (Or.PY (E:=en) rfl rfl rfl rfl rfl rfl rfl rfl rfl dE (fun sb cap jj fz=> ?_));refine U4 ?_;refine Tc.db (Tc.vA (σ:= { x:Nat//x<=d.length }) (fun x=> ([(5,jA d),(6,.int .i64 (aB (d.take x.1):Nat)),(47,.slice (some ⟨sb,0,none⟩) d.length cap),(48,.int .i64 (d.length:Nat)),(49,.int .i64 (x.1:Nat))],[(sb,true,.cells ⟨CA d++jj⟩ 5 fz)])) (fun x=> d.length-x.1) ?_ ⟨0,Nat.zero_le _⟩);rintro⟨q,hq⟩ ih;show Tc M St _ _ _ _ [(5,jA d),(6,.int .i64 (aB (d.take q):Nat)),(47,.slice (some ⟨sb,0,none⟩) d.length cap),(48,.int .i64 (d.length:Nat)),(49,.int .i64 (q:Nat))] [(sb,true,.cells ⟨CA d++jj⟩ 5 fz)] _ _;by_cases c1:q=d.length
   · clear ih;subst c1;rw[List.take_length];refine w9 ?_;refine .rt hK func202 results202 [_,_] ?_;exact okB
   · have c2:q<d.length:=by omega
     have hx:=List.getElem?_eq_getElem c2;have h3:KD d[q]=true:=List.all_eq_true.1 h1 _ (List.getElem_mem _);have h4:=of_decide_eq_true h3;have bE:=ih ⟨q+1,oM⟩ (by simp only;omega);clear ih;simp only at bE;rw[List.take_succ_eq_append_getElem c2,DD] at bE;have mB:=ht q oM;generalize aB (d.take q)=z at bE mB ⊢;obtain⟨y,hy⟩:∃y,y=d[q].toNat-48:=⟨_,rfl⟩
     have hy2:d[q].toNat=48+y:=by omega
     rw[<-hy] at bE;have f1:=HR hx jj;rw[hy2] at f1;have u1:=I1 y oM;have g1:gA .gtr .u8 ((y:Nat):Int) 9=some (.bool false):=UF oM;have w1:IntKind.i64.wrap ((y:Nat):Int)=((y:Nat):Int):=wrap64 oM oM;have m1:gA .mul .i64 ((z:Nat):Int) 10=some (.int .i64 ((10*z:Nat):Int)):=by rw[JC oM oM];congr 2;omega
     have a1:gA .add .i64 ((10*z:Nat):Int) ((y:Nat):Int)=some (.int .i64 ((10*z+y:Nat):Int)):=by rw[tC oM oM];congr 2
     refine U42 ?_;exact Tc.db (bE)
 | true=>
   obtain⟨d',hs'⟩:=CD oR.symm;have LB:d=d':=by rw[hd];unfold UA;rw[<-oR,hs'];rfl
   subst LB;subst hs';have hl:(45::d:List UInt8).length=d.length+1:=List.length_cons;cases e0
   have t1:((45::d:List UInt8).drop (1:Int).toNat).take ((((45::d:List UInt8).length:Nat):Int).toNat-(1:Int).toNat)=d:=by
     show d.take ((((45::d:List UInt8).length:Nat):Int).toNat-1)=d;exact List.take_of_length_le (by rw[Int.toNat_natCast,hl];omega)
   refine .en func202 ntmps202 fun St c cs hK=> ?_;refine pH ?_;refine To.LA rfl dE rfl ?_;refine To.LA rfl dE rfl ?_;refine U23 ?_;refine .x (oA.uJ (E:=en) rfl rfl rfl rfl rfl oM (by exact rfl)) ?_;refine eF ?_;refine .x (oA.CN (E:=en) rfl rfl rfl rfl rfl rfl oM oM oM t1) ?_;refine pH ?_;refine .e (Or.PY (E:=en) rfl rfl rfl rfl rfl rfl rfl rfl rfl dE (fun sb cap jj fz=> ?_));refine U4 ?_;refine Tc.db (Tc.vA (σ:= { x:Nat//x<=d.length }) (fun x=> ([(5,jA (45::d)),(6,.int .i64 (aB (d.take x.1):Nat)),(47,.slice (some ⟨sb,0,none⟩) d.length cap),(48,.int .i64 (d.length:Nat)),(49,.int .i64 (x.1:Nat))],[(sb,true,.cells ⟨CA d++jj⟩ 5 fz)])) (fun x=> d.length-x.1) ?_ ⟨0,Nat.zero_le _⟩);rintro⟨q,hq⟩ ih;show Tc M St _ _ _ _ [(5,jA (45::d)),(6,.int .i64 (aB (d.take q):Nat)),(47,.slice (some ⟨sb,0,none⟩) d.length cap),(48,.int .i64 (d.length:Nat)),(49,.int .i64 (q:Nat))] [(sb,true,.cells ⟨CA d++jj⟩ 5 fz)] _ _;by_cases c1:q=d.length
   · clear ih;subst c1;rw[List.take_length];refine eF ?_;refine .x (oA.uJ (E:=en) rfl rfl rfl rfl rfl oM (by exact rfl)) ?_;refine U5 ?_;refine .x .ng ?_;refine U8 ?_;refine .rt hK func202 results202 [_,_] ?_;exact okB
   · have c2:q<d.length:=by omega
     have hx:=List.getElem?_eq_getElem c2;have h3:KD d[q]=true:=List.all_eq_true.1 h1 _ (List.getElem_mem _);have h4:=of_decide_eq_true h3;have bE:=ih ⟨q+1,oM⟩ (by simp only;omega);clear ih;simp only at bE;rw[List.take_succ_eq_append_getElem c2,DD] at bE;have mB:=ht q oM;generalize aB (d.take q)=z at bE mB ⊢;obtain⟨y,hy⟩:∃y,y=d[q].toNat-48:=⟨_,rfl⟩
     have hy2:d[q].toNat=48+y:=by omega
     rw[<-hy] at bE;have f1:=HR hx jj;rw[hy2] at f1;have u1:=I1 y oM;have g1:gA .gtr .u8 ((y:Nat):Int) 9=some (.bool false):=UF oM;have w1:IntKind.i64.wrap ((y:Nat):Int)=((y:Nat):Int):=wrap64 oM oM;have m1:gA .mul .i64 ((z:Nat):Int) 10=some (.int .i64 ((10*z:Nat):Int)):=by rw[JC oM oM];congr 2;omega
     have a1:gA .add .i64 ((10*z:Nat):Int) ((y:Nat):Int)=some (.int .i64 ((10*z+y:Nat):Int)):=by rw[tC oM oM];congr 2
     refine U42 ?_;exact Tc.db (bE)
theorem Z2(s:List UInt8)(h1:(UA 45 s).all KD=true)(h2:1<=(UA 45 s).length/\(UA 45 s).length<=9):cA M 169 #[jA s] H (fun v H'=> H.le H'/\v=.tuple ⟨[.int .i64 (numOf s),.nilIface]⟩):=by
 refine .en func169 ntmps169 fun St c cs hK=> ?_;refine U8 ?_;refine .cl (fun H hs=> l9 M H s h1 h2) ?_;refine zI ?_;refine .x (oA.aCP rfl rfl kR) ?_;refine U9 ?_;refine .rt hK func169 results169 [_,_] ?_;exact okB
end
def JB(n:Nat):List UInt8:=if n<10 then [UInt8.ofNat (48+n)] else [UInt8.ofNat (48+n/10),UInt8.ofNat (48+n%10)]
def aAz(n:Int):List UInt8:=JB n.toNat
theorem eI:∀n,n<100->RA (JB n)=true/\numOf (JB n)=(n:Nat)/\(58 ∉ JB n)/\(59 ∉ JB n)/\(10 ∉ JB n)/\(JB n).length<=2/\JB n≠ []:=by decide +kernel
def GC(s:List UInt8):Bool:=
 match nA 58 s with
 | [p]=> RA p
 | p::_=> RA p&&RA (s.drop (p.length+1))&&numOf p !=numOf (s.drop (p.length+1))
 | []=> false
def WA(s:List UInt8):Int:=numOf ((nA 58 s).headD [])
def ZA(s:List UInt8):Int:=if 58∈s then numOf (s.drop (((nA 58 s).headD []).length+1)) else WA s
theorem IK {s:List UInt8}(h:(58:UInt8) ∉ s):GC s=RA s/\WA s=numOf s/\ZA s=numOf s:=by
 unfold GC ZA WA;rw[MB 58 s h,if_neg h];exact⟨rfl,rfl,rfl⟩
theorem mJ {p q:List UInt8}(h:(58:UInt8) ∉ p):GC (p++58::q)=(RA p&&RA q&&numOf p !=numOf q)/\WA (p++58::q)=numOf p/\ZA (p++58::q)=numOf q:=by
 have e:(p++58::q).drop (p.length+1)=q:=by
  rw[List.drop_append,List.drop_of_length_le oM,List.nil_append,Nat.add_sub_cancel_left,List.drop_succ_cons,List.drop_zero]
 have hm:(58:UInt8)∈p++58::q:=by simp
 have hc:=MC 58 q p h;unfold ZA WA;rw[hc,if_pos hm];refine⟨?_,rfl,by show numOf ((p++58::q).drop (p.length+1))=_;rw[e]⟩;unfold GC;rw[hc];cases hq:nA 58 q with
 | nil=> exact(AE 58 q hq).elim
 | cons a l=>
  show(RA p&&RA ((p++58::q).drop (p.length+1))&&numOf p !=numOf ((p++58::q).drop (p.length+1)))=_;rw[e]
section
variable(M:Md prog)(H:View)
def dd:List UInt8:= [48,48,48,49,48,50,48,51,48,52,48,53,48,54,48,55,48,56,48,57,49,48,49,49,49,50,49,51,49,52,49,53,49,54,49,55,49,56,49,57,50,48,50,49,50,50,50,51,50,52,50,53,50,54,50,55,50,56,50,57,51,48,51,49,51,50,51,51,51,52,51,53,51,54,51,55,51,56,51,57,52,48,52,49,52,50,52,51,52,52,52,53,52,54,52,55,52,56,52,57,53,48,53,49,53,50,53,51,53,52,53,53,53,54,53,55,53,56,53,57,54,48,54,49,54,50,54,51,54,52,54,53,54,54,54,55,54,56,54,57,55,48,55,49,55,50,55,51,55,52,55,53,55,54,55,55,55,56,55,57,56,48,56,49,56,50,56,51,56,52,56,53,56,54,56,55,56,56,56,57,57,48,57,49,57,50,57,51,57,52,57,53,57,54,57,55,57,56,57,57]
theorem aCb:∀n,n<100->10<=n->(dd.drop (n*2)).take 2=JB n:=by decide +kernel
theorem XZ:∀n,n<10-> [H9 n]=JB n:=by decide
theorem T0(n:Nat)(h:n<100)(h2:10<=n):cA M 186 #[.int .i64 (n:Nat)] H (fun v H'=> H.le H'/\v=jA (JB n)):=by
 have hl:((dd.length:Nat):Int)=200:=rfl;have e:(dd.drop (((n:Nat):Int)*2).toNat).take (((((n:Nat):Int)*2)+2).toNat-(((n:Nat):Int)*2).toNat)=JB n:=by
  rw[<-aCb n h h2,show(((n:Nat):Int)*2).toNat=n*2 by omega,show((((n:Nat):Int)*2)+2).toNat-n*2=2 by omega]
 refine .en func186 ntmps186 fun St c cs hK=> ?_;refine WL ?_;refine .i ?_ (z:=JC oM oM);refine U ?_;refine .i ?_ (z:=JC oM oM);refine U ?_;refine .x (oA.CN (E:=en) (l:=dd) rfl rfl rfl rfl rfl rfl oM oM oM e) ?_;refine U2 ?_;refine .rt hK func186 results186 [_] ?_;exact okB
theorem U0(n:Nat)(h:n<100):cA M 186 #[.int .i64 (n:Nat)] H (fun v H'=> H.le H'/\v=jA (JB n)):=by
 by_cases h2:10<=n
 ·exact T0 M H n h h2
 ·have:=A7 M H n oM;rw[XZ n oM] at this;exact this
theorem IW(n:Nat)(h:n<100):cA M 161 #[.int .i64 (n:Nat),.int .i64 10] H (fun v H'=> H.le H'/\v=jA (JB n)):=by
 refine .en func161 ntmps161 fun St c cs hK=> ?_;refine B4 ?_;refine .cl (fun H hs=> U0 M H n h) ?_;refine U2 ?_;refine .rt hK func161 results161 [_] ?_;exact okB
theorem M3(n:Nat)(h:n<100):cA M 113 #[.int .i64 (n:Nat)] H (fun v H'=> H.le H'/\v=jA (JB n)):=by
 refine .en func113 ntmps113 fun St c cs hK=> ?_;refine U7 ?_;refine .cl (fun H hs=> IW M H n h) ?_;refine U2 ?_;refine .rt hK func113 results113 [_] ?_;exact okB
theorem L3(z:Int)(h:0<=z/\z<100):cA M 74 #[.int .i64 z] H (fun v H'=> H.le H'/\v=jA (aAz z)):=by
 obtain⟨n,rfl⟩:=Int.eq_ofNat_of_zero_le h.1;refine .en func74 ntmps74 fun St c cs hK=> ?_;refine U7 ?_;refine .cl (fun H hs=> M3 M H n oM) ?_;refine U2 ?_;refine .rt hK func74 results74 [_] ?_;exact okB
end
end Go.Proofs.YtgkmnalhddmclaaGreatDoor
namespace Go.RL
section
variable {P:Program}{E:Env P}{n:Nat}{H₀:View}{R:Rg}{L:Bl}{o:Oper}
theorem oA.aCN {t:TypeId}{x:Operand}{k:IntKind}{p z:Int}(iA:o.op=.unOp .neg t x)(hx:GA R x=some (.int k p))(hz:k.wrap (0-p)=z):oA P n H₀ R L o (.int k z):=
 (fun H tmps _ hr=> by
  subst hz;unfold execOp;rw[iA];simp only[hr.ev hx];exact⟨rfl,rfl⟩)
end
end Go.RL
namespace Go.RL
open Go.Conc
section
variable {P:Program}{E:Env P}{M:Md P}{n:Nat}{H₀:View}{R:Rg}{L L':Bl}{K:Rg->Bl->Prop}{o:Oper}{d:Nat}{v:Value}
theorem oA.RX {cl:Go.Call}{x:Operand}{t:TypeId}{a:Addr}{m c:Nat}(iA:o.op=.call cl)(PB:cl.callee=.builtin .unsafeSliceData)(VH:cl.argTypes=#[t])(sJ:cl.args=#[x])(hx:GA R x=some (.slice (some a) m c))(hc:Nat.beq c 0=false):
  oA P n H₀ R L o (.pointer (some a)):=fun H tmps _ hr=> by
 unfold execOp;rw[iA];simp only[resolve,PB,VH,sJ];have hm:Array.map (uB tmps) #[x]=#[.slice (some a) m c]:=by simp[hr.ev hx]
 rw[hm];refine aA (Builtin.unsafeSliceData_ #[t] o.type #[.slice (some a) m c]) _ ?_;have h0:c≠0:=Nat.ne_of_beq_eq_false hc;show yA P (if c≠0 then Sem.pure (Value.pointer (some a)) else _) H _;rw[if_pos h0];exact⟨rfl,rfl⟩
theorem jJ {H:View}{f:Bool}{e:TypeId}{fz:Nat×Nat}{l:List Value}(blk:Nat)(hb:H blk=some (f,.cells ⟨l⟩ e fz)):∀(s a:List UInt8) (off:Nat) {Q:ByteArray->View->Prop},(∀i x,s[i]? =some x->l[off+i]? =some (.int .u8 (x.toNat:Nat)))->Q ⟨⟨a++s⟩⟩ H->yA P (loadBytes ⟨blk,off,none⟩ ⟨⟨a⟩⟩ s.length) H Q
 | [],a,off,Q,_,h=> by
  rw[List.append_nil] at h;exact h
 | x ::s,a,off,Q,hl,h=> by
  have h0:=hl 0 x rfl;have ih:=jJ blk hb s (a++[x]) (off+1) (Q:=Q) (fun i y hy=> by
   have:=hl (i+1) y hy;rw[show off+1+i=off+(i+1) by omega];exact this) (by rw[List.append_assoc];exact h)
  refine⟨rfl,rfl,f,⟨l⟩,e,fz,.int .u8 (x.toNat:Nat),hb,?_,?_⟩
  ·simpa using h0
  ·have e1:(ByteArray.mk ⟨a⟩).push ((x.toNat:Nat):Int).toNat.toUInt8=ByteArray.mk ⟨a++[x]⟩:=by
    rw[Int.toNat_natCast,Nat.toUInt8,UInt8.ofNat_toNat,AM]
   show yA P (loadBytes (Addr.add ⟨blk,off,none⟩ 1) ((ByteArray.mk ⟨a⟩).push ((x.toNat:Nat):Int).toNat.toUInt8) s.length) H Q;rw[e1];exact ih
theorem Or.YX(j:Nat){cl:Go.Call}{x y:Operand}{t u e eb blk:Nat}{s:List UInt8}{jj:List Value}(iA:o.op=.call cl)(PB:cl.callee=.builtin .unsafeString)(VH:cl.argTypes=#[t,u])(sJ:cl.args=#[x,y])
  (hx:GA R x=some (.pointer (some ⟨blk,0,none⟩))) (hy:GA R y=some (.int .i64 (s.length:Nat))) (ht:P.underlying t=some (.pointer e)) (PO:s≠ []) (UN:s.length<=1000000000)
  (hL:L[j]? =some (blk,true,.cells ⟨CA s++jj⟩ eb (0,0))) (fS:liesAt P P.depth eb ((CA s++jj).length/P.cellsOf eb) 0 e s.length=true) (hd:o.dst=some d) (hn:d<n)
  (hk:K ((d,jA s)::R) (L.set j (blk,true,.cells ⟨CA s++jj⟩ eb (0,s.length)))):Or M n H₀ R L o K:=
 .val hd hn fun H tmps kB hr=> by
  unfold execOp;rw[iA];simp only[resolve,PB,VH,sJ];have pU:Array.map (uB tmps) #[x,y]=#[.pointer (some ⟨blk,0,none⟩),.int .i64 (s.length:Nat)]:=by simp[hr.ev hx,hr.ev hy]
  rw[pU];have hb:=kB.get hL;have wU:0<s.length:=List.length_pos_iff.2 PO;have h1:¬((s.length:Nat):Int)<0:=by omega
  have h2:¬((s.length:Nat):Int)>IntKind.i64.max:=by
   have:IntKind.i64.max=9223372036854775807:=by decide
   omega
  have h3:¬((s.length:Nat):Int)=0:=by omega
  refine aA (Builtin.unsafeString_ #[t,u] o.type #[.pointer (some ⟨blk,0,none⟩),.int .i64 (s.length:Nat)]) _ ?_;have hz1:∀z:Int,(((s.length:Nat):Int)=z)->¬z<0/\¬z>IntKind.i64.max/\¬z=0/\z.toNat=s.length:=fun z hz=> by subst hz;exact⟨h1,h2,h3,Int.toNat_natCast _⟩
  generalize hzz:((s.length:Nat):Int)=z;obtain⟨z1,z2,z3,z4⟩:=hz1 z hzz
  conv=> arg 2;whnf
  rw[show(IntKind.i64,z).snd.decLt 0=isFalse z1 from Subsingleton.elim _ _]
  conv=> arg 2;whnf
  rw[show IntKind.i64.max.decLt (IntKind.i64,z).snd=isFalse z2 from Subsingleton.elim _ _]
  conv=> arg 2;whnf
  rw[show(IntKind.i64,z).snd.instDecidableEq 0=isFalse z3 from Subsingleton.elim _ _];refine aA (elemOf t) _ (aA (underlying t) _ (dA ht ?_));refine aA (variablesAt ⟨blk,0,none⟩ e z.toNat) _ ?_;rw[z4];refine⟨true,_,_,_,hb,?_⟩;show yA P (if liesAt P P.depth eb ((CA s++jj).length/P.cellsOf eb) 0 e s.length=true then _ else _) H _;rw[if_pos fS];refine aA (loadBytes ⟨blk,0,none⟩ .empty s.length) _ ?_;refine jJ blk hb s [] 0 (fun i x hx=> ?_) ?_
  ·rw[Nat.zero_add,List.getElem?_append_left (by rw[rF];exact(List.getElem?_eq_some_iff.1 hx).1)];unfold CA;rw[List.getElem?_map,hx];rfl
  ·refine⟨oM,_,_,_,hb,?_⟩;refine⟨_,rfl,_,kB.set hL _,?_⟩;have e1:(if((0:Nat),(0:Nat)).1==((0:Nat),(0:Nat)).2 then(0,0+s.length) else(min ((0:Nat),(0:Nat)).1 0,max ((0:Nat),(0:Nat)).2 (0+s.length)))=(0,s.length):=by simp
   show K ((d,jA s)::R) (L.set j (blk,true,.cells ⟨CA s++jj⟩ eb (if((0:Nat),(0:Nat)).1==((0:Nat),(0:Nat)).2 then(0,0+s.length) else(min ((0:Nat),(0:Nat)).1 0,max ((0:Nat),(0:Nat)).2 (0+s.length)))));rw[e1];exact hk
end
end Go.RL
namespace Go.Proofs.YtgkmnalhddmclaaGreatDoor
open Go.RL Go.Proofs.Tryz
set_option maxRecDepth 10000
theorem NX(fits:TypeId->Bool)(hf:fits 5=true)(k count n:Nat)(h:n<=count):rowAt prog fits (k+1) 5 count 0 n=true:=by
 have hc:prog.cellsOf 5=1:=by kernel_rfl
 unfold rowAt;simp only[hc];simp[h,hf]
theorem IU(count n:Nat)(h:n<=count):liesAt prog prog.depth 5 (count/prog.cellsOf 5) 0 5 n=true:=by
 have hc:prog.cellsOf 5=1:=by kernel_rfl
 obtain⟨k,hk⟩:∃k,prog.depth=k+1:=⟨prog.depth-1,by
  have:1<=prog.depth:=Nat.le_of_ble_eq_true kR;omega⟩
 have hf:sameLayout prog prog.depth 5 5=true:=by kernel_rfl
 have h1:=NX (fun t=> sameLayout prog prog.depth t 5) hf k count n h;rw[hc,Nat.div_one];show liesAt prog prog.depth 5 count 0 5 n=true;rw[hk] at h1 ⊢;show(rowAt prog (fun t=> sameLayout prog prog.depth t 5) prog.depth 5 count 0 n||_)=true;rw[hk,h1];rfl
theorem M0:prog.underlying 141=some (.pointer 5):=by kernel_rfl
set_option maxHeartbeats 2000000
def Pow(H:View):Prop:=∃f r gt gz,H 2=some (f,.cells ⟨.int .u64 1:: .int .u64 10::r⟩ gt gz)
theorem Pow.le {H H':View}(h:Pow H)(hl:H.le H'):Pow H':=h.imp fun _ ⟨r,gt,gz,e⟩=> ⟨r,gt,gz,hl _ _ e⟩
theorem aAo(x:Nat)(h:x<=4):NC .shr .i64 ((x:Int)*78913) 18=some (.int .i64 ((if x<=3 then 0 else 1:Nat):Int)):=by
 rcases(by omega:x=0\/x=1\/x=2\/x=3\/x=4) with rfl|rfl|rfl|rfl|rfl <;> rfl
theorem IY:∀n:Nat,n<13->bl n<=4/\(bl n<=3<->n<8):=by decide
theorem pV(a b:Int)(t:Bool)(h:decide (a≥b)=t):gA .geq .u64 a b=some (.bool t):=by
 subst h;rfl
def zE(z:Int):List UInt8:=if z<0 then 45::JB z.natAbs else JB z.toNat
def VL(z:Int):Prop:= -12<=z/\z<=99
theorem jN {n:Nat}(h:1<=n):zE (-(n:Int))=45::JB n:=by
 unfold zE;rw[if_pos oM]
 congr 2
 omega
theorem kN {z:Int}(h:0<=z):zE z=aAz z:=by
 unfold zE;rw[if_neg oM];rfl
theorem OU {n:Nat}(h:n<100):n<10/\JB n= [UInt8.ofNat (48+n)]\/10<=n/\JB n= [UInt8.ofNat (48+n/10),UInt8.ofNat (48+n%10)]:=by
 unfold JB;split
 ·exact .inl ⟨oM,rfl⟩
 ·exact .inr ⟨oM,rfl⟩
theorem K6:∀n:Nat,n<13->1<=n->RA (45::JB n)=true/\numOf (45::JB n)= -(n:Int)/\58 ∉ (45::JB n)/\59 ∉ (45::JB n)/\10 ∉ (45::JB n)/\(45::JB n).length<=3:=by decide +kernel
theorem YZ {z:Int}(h:VL z):RA (zE z)=true/\numOf (zE z)=z/\(58 ∉ zE z)/\(59 ∉ zE z)/\(10 ∉ zE z)/\(zE z).length<=3/\zE z≠ []:=by
 by_cases c:0<=z
 ·rw[kN c];obtain⟨h1,h2,h3,h4,h5,h6,h7⟩:=eI z.toNat (by have:=h.2;omega);refine⟨h1,?_,h3,h4,h5,?_,h7⟩
  ·show numOf (JB z.toNat)=z;rw[h2];omega
  ·show(JB z.toNat).length<=3;omega
 ·obtain⟨n,rfl⟩:∃n:Nat,z= -(n:Int):=⟨z.natAbs,oM⟩
  have h12:=h.1;rw[jN oM];obtain⟨h1,h2,h3,h4,h5,h6⟩:=K6 n oM oM;exact⟨h1,h2,h3,h4,h5,h6,by simp⟩
def dB(a b:Int):List UInt8:=if a=b then zE a else zE a++58::zE b
section
variable(M:Md prog)(H:View)
theorem rS(x:Nat)(h:x<=4):cA M 213 #[.int .i64 (x:Nat)] H (fun v H'=> H.le H'/\v=.int .i64 ((if x<=3 then 0 else 1:Nat):Int)):=by
 have e1:=aAo x h;have e0:gA .mul .i64 ((x:Nat):Int) 78913=some (.int .i64 ((x:Int)*78913)):=JC oM oM;generalize (if x<=3 then 0 else 1:Nat)=y at e1;refine .en func213 ntmps213 fun St c cs hK=> ?_;refine U8 ?_;refine .x .sf ?_;refine U2 ?_;refine .rt hK func213 results213 [_] ?_;exact okB
theorem QP(t:Bool):cA M 214 #[.bool t] H (fun v H'=> H.le H'/\v=.int .i64 (if t then 1 else 0)):=by
 cases t with
 | true=>
  refine .en func214 ntmps214 fun St c cs hK=> ?_;refine zH ?_;refine .rt hK func214 results214 [_] ?_;exact okB
 | false=>
  refine .en func214 ntmps214 fun St c cs hK=> ?_;refine WL ?_;refine .rt hK func214 results214 [_] ?_;exact okB
theorem xS(hP:Pow H)(n:Nat)(h1:1<=n)(h:n<13):cA M 187 #[.int .u64 (n:Nat)] H (fun v H'=> H.le H'/\v=.int .i64 ((if n<10 then 1 else 2:Nat):Int)):=by
 obtain⟨b1,b2⟩:=IY n h;obtain⟨f,r,gt,gz,hG⟩:=hP;have hl:=fun H=> R3 M H n oM;have hg:=fun H=> rS M H (bl n) b1;generalize bl n=x at b1 b2 hl hg;by_cases c1:n<8
 ·rw[if_pos (b2.2 c1)] at hg;rw[if_pos oM];have f1:SB false 1 (.int .u64 1:: .int .u64 10::r) (0+((0:Nat):Int).toNat*1)=some (.int .u64 1):=rfl;have e1:=pV ((n:Nat):Int) 1 true (decide_eq_true oM);refine .en func187 ntmps187 fun St c cs hK=> ?_;refine U7 ?_;refine .cl (fun H hs=> hl H) ?_;refine .cl (fun H hs=> hg H) ?_;refine zI ?_;refine .cl (fun H hs=> QP M H true) ?_;refine U3 ?_;refine .rt hK func187 results187 [_] ?_;exact okB
 ·rw[if_neg (fun e=> c1 (b2.1 e))] at hg;have f1:SB false 1 (.int .u64 1:: .int .u64 10::r) (0+((1:Nat):Int).toNat*1)=some (.int .u64 10):=rfl;by_cases c2:n<10
  ·rw[if_pos c2];have e1:=pV ((n:Nat):Int) 10 false (decide_eq_false oM);refine .en func187 ntmps187 fun St c cs hK=> ?_;refine U7 ?_;refine .cl (fun H hs=> hl H) ?_;refine .cl (fun H hs=> hg H) ?_;refine zI ?_;refine .cl (fun H hs=> QP M H false) ?_;refine U3 ?_;refine .rt hK func187 results187 [_] ?_;exact okB
  ·rw[if_neg c2];have e1:=pV ((n:Nat):Int) 10 true (decide_eq_true oM);refine .en func187 ntmps187 fun St c cs hK=> ?_;refine U7 ?_;refine .cl (fun H hs=> hl H) ?_;refine .cl (fun H hs=> hg H) ?_;refine zI ?_;refine .cl (fun H hs=> QP M H true) ?_;refine U3 ?_;refine .rt hK func187 results187 [_] ?_;exact okB
def QW(p:List UInt8)(k:Nat):List Value:=CA p++List.replicate k (.int .u8 0)
theorem u32_in:∀n:Nat,n<300->IntKind.u32.wrap (n:Int)=(n:Int):=by decide +kernel
theorem A5(H₁:View)(b n:Nat)(h:n<10)(LD:eA H₁ [(b,true,.cells ⟨QW [] 24⟩ 262 (0,0))] H):
  cA M 188 #[.slice (some ⟨b,1,none⟩) 1 23,.int .u64 (n:Nat)] H (YJ H₁ (fun _:Unit=> .tuple ⟨[]⟩) (fun _=> [(b,true,.cells ⟨QW [0,UInt8.ofNat (48+n)] 22⟩ 262 (0,0))]) (fun _=> True)):=by
 have w1:IntKind.u32.wrap ((n:Nat):Int)=((n:Nat):Int):=u32_in n oM;have a1:gA .add .u32 48 ((n:Nat):Int)=some (.int .u32 ((48+n:Nat):Int)):=by
  show some (Value.int .u32 (IntKind.u32.wrap (48+(n:Int))))=_;rw[show(48:Int)+(n:Int)=((48+n:Nat):Int) by omega,u32_in _ oM]
 have w2:IntKind.u8.wrap ((48+n:Nat):Int)=(((UInt8.ofNat (48+n)).toNat:Nat):Int):=by
  rw[qV _ oM,UInt8.toNat_ofNat'];omega
 generalize UInt8.ofNat (48+n)=y at w2;refine cA.enter (vs:= [.slice (some ⟨b,1,none⟩) 1 23,.int .u64 (n:Nat)]) func188 rfl ntmps188 (Nat.le_of_ble_eq_true rfl) (LD) fun St c cs hK=> ?_;refine U5 ?_;refine .done (.seq (.block (.loop (.seq (.sr ?_)))));refine U41 ?_;refine .ov hK func188 results188 [] ?_;exact fun H' hs=> ⟨(),H₁,rfl,View.le_refl _,hs,trivial⟩
theorem aCc:∀n,n<100->dd[2*n]? =some (UInt8.ofNat (48+n/10))/\dd[2*n+1]? =some (UInt8.ofNat (48+n%10)):=by decide +kernel
theorem B5(H₁:View)(b n:Nat)(h:n<100)(A8:10<=n)(LD:eA H₁ [(b,true,.cells ⟨QW [] 24⟩ 262 (0,0))] H):
  cA M 188 #[.slice (some ⟨b,1,none⟩) 2 23,.int .u64 (n:Nat)] H (YJ H₁ (fun _:Unit=> .tuple ⟨[]⟩) (fun _=> [(b,true,.cells ⟨QW [0,UInt8.ofNat (48+n/10),UInt8.ofNat (48+n%10)] 21⟩ 262 (0,0))]) (fun _=> True)):=by
 obtain⟨d1,d2⟩:=aCc n h;have w1:IntKind.u32.wrap ((n:Nat):Int)=((n:Nat):Int):=u32_in n oM;have r1:gA .rem .u32 ((n:Nat):Int) 100=some (.int .u32 ((n:Nat):Int)):=by
  show some (Value.int .u32 (((n:Nat):Int).tmod 100))=_;rw[Int.tmod_eq_of_lt oM oM]
 have m1:gA .mul .u32 ((n:Nat):Int) 2=some (.int .u32 ((2*n:Nat):Int)):=by
  show some (Value.int .u32 (IntKind.u32.wrap ((n:Int)*2)))=_;rw[show(n:Int)*2=((2*n:Nat):Int) by omega,u32_in _ oM]
 have q1:gA .quo .u32 ((n:Nat):Int) 100=some (.int .u32 0):=by
  show some (Value.int .u32 (IntKind.u32.wrap (((n:Nat):Int).tdiv 100)))=_;rw[Int.tdiv_eq_zero_of_lt oM oM];rfl
 have a1:gA .add .u32 ((2*n:Nat):Int) 1=some (.int .u32 ((2*n+1:Nat):Int)):=by
  show some (Value.int .u32 (IntKind.u32.wrap (((2*n:Nat):Int)+1)))=_;rw[show((2*n:Nat):Int)+1=((2*n+1:Nat):Int) by omega,u32_in _ oM]
 have d3:dd[((2*n+1:Nat):Int).toNat]? =some (UInt8.ofNat (48+n%10)):=d2;have d4:dd[((2*n:Nat):Int).toNat]? =some (UInt8.ofNat (48+n/10)):=d1;clear d1 d2;generalize UInt8.ofNat (48+n%10)=y at d3;generalize UInt8.ofNat (48+n/10)=x at d4;refine cA.enter (vs:= [.slice (some ⟨b,1,none⟩) 2 23,.int .u64 (n:Nat)]) func188 rfl ntmps188 (Nat.le_of_ble_eq_true rfl) (LD) fun St c cs hK=> ?_;refine U5 ?_;refine .done (.seq (.block (.loop (.seq (.sr ?_)))));refine U40 ?_;refine Tc.dr [12,14] [0] mixed rfl ?_;refine V3 0 ?_;refine .nw 3 ?_;refine .nw 4 ?_;refine .nw 5 ?_;refine V3 6 ?_;refine .nw 9 ?_;refine .nw 10 ?_;refine .nn 11 ?_;refine .e 12 0 ?_;refine .nw 13 ?_;refine .e 14 0 ?_;refine .dn ?_;refine JL ?_;refine .ov hK func188 results188 [] ?_;exact fun H' hs=> ⟨(),H₁,rfl,View.le_refl _,hs,trivial⟩
theorem aBg:EA prog 262 ⟨true,24,24,.agg ⟨.replicate 24 (.int .u8 0)⟩,[],some (some 24,5),.arr 24 5⟩:=by constructor <;> kernel_rfl
theorem aED:EA prog 2 ⟨false,1,8,.int .i64 (0),[],none,.int .i64⟩:=by constructor <;> kernel_rfl
theorem H7:∀n:Nat,n<13->1<=n->IntKind.u64.wrap (-(n:Int))=18446744073709551616-(n:Int)/\IntKind.u64.wrap (0-(18446744073709551616-(n:Int)))=(n:Int):=by decide
namespace Fz
def tys:List (Nat×wA):=(2,⟨false,1,8,.int .i64 (0),[],none,.int .i64⟩)::(262,⟨true,24,24,.agg ⟨.replicate 24 (.int .u8 0)⟩,[],some (some 24,5),.arr 24 5⟩)::YtgkmnalhddmclaaGreatDoor.tys
theorem WQ:qM prog tys:=⟨aED,aBg,YtgkmnalhddmclaaGreatDoor.WQ⟩
def en:Env prog:=Env.of tys WQ
theorem uR(hP:Pow H)(n:Nat)(h1:1<=n)(h:n<13):cA M 161 #[.int .i64 (-(n:Int)),.int .i64 10] H (fun v H'=> H.le H'/\v=jA (45::JB n)):=by
 obtain⟨w1,w2⟩:=H7 n h h1;have hd:=fun(H':View) (h':H.le H')=> xS M H' (hP.le h') n h1 h;have c1:gA .leq .i64 0 (-(n:Int))=some (.bool false):=VF oM;have c2:gA .lss .i64 (-(n:Int)) 0=some (.bool true):=bP oM;rcases OU (n:=n) oM with ⟨A8,e⟩|⟨A8,e⟩
 ·rw[e];rw[if_pos A8] at hd;have hf:=fun(H₂ H₁:View) (b:Nat)=> A5 M H₂ H₁ b n A8;generalize UInt8.ofNat (48+n)=y at hf;refine .en func161 ntmps161 fun St c cs hK=> ?_;refine B4 ?_;refine .op rfl rfl (Or.alloc (E:=en) rfl rfl rfl (by decide) (fun b5=> ?_));(repeat (refine U ?_));refine .x (oA.p8 (E:=en) rfl rfl rfl rfl rfl rfl (by first|assumption|exact rfl)) ?_;(repeat (refine U ?_));refine .x (oA.aCN rfl rfl w2) ?_;refine U5 ?_;refine .cl (fun H hs=> hd H hs.base) ?_;refine U6 ?_;refine .x (oA.JJ (E:=en) (off':=1) rfl rfl rfl rfl rfl rfl rfl rfl dE dE dE (by rw[if_neg dE];rfl)) ?_;refine U ?_;refine .e (Or.zD 0 (σ:=Unit) (fun _=> .tuple ⟨[]⟩) (fun _=> [(b5,true,.cells ⟨QW [0,y] 22⟩ 262 (0,0))]) (fun _=> True) rfl rfl rfl rfl rfl dE (fun H₁ H₂ xU iK=> .h (hf H₂ H₁ b5 iK)) (fun _ _=> ?_));(repeat (refine U ?_));refine .x (oA.BU (E:=en) rfl rfl rfl rfl rfl rfl rfl (by omega) (by omega)) ?_;(repeat (refine U ?_));refine .x (oA.JJ (E:=en) (off':=0) rfl rfl rfl rfl rfl rfl rfl rfl dE dE dE (by rw[if_neg dE];rfl)) ?_;refine .x (oA.JV (E:=en) (m:=2) (s:= [45,y]) rfl rfl (fun H hs=> NA.of (hs.get (i:=0) rfl) (Nat.le_of_ble_eq_true rfl)) rfl rfl rfl rfl rfl rfl) ?_;refine U2 ?_;refine .rt hK func161 results161 [_] ?_;exact okB
 ·rw[e];rw[if_neg oM] at hd;have hf:=fun(H₂ H₁:View) (b:Nat)=> B5 M H₂ H₁ b n oM A8;generalize UInt8.ofNat (48+n%10)=y at hf;generalize UInt8.ofNat (48+n/10)=x at hf;refine .en func161 ntmps161 fun St c cs hK=> ?_;refine B4 ?_;refine .op rfl rfl (Or.alloc (E:=en) rfl rfl rfl (by decide) (fun b5=> ?_));(repeat (refine U ?_));refine .x (oA.p8 (E:=en) rfl rfl rfl rfl rfl rfl (by first|assumption|exact rfl)) ?_;(repeat (refine U ?_));refine .x (oA.aCN rfl rfl w2) ?_;refine U5 ?_;refine .cl (fun H hs=> hd H hs.base) ?_;refine U6 ?_;refine .x (oA.JJ (E:=en) (off':=1) rfl rfl rfl rfl rfl rfl rfl rfl dE dE dE (by rw[if_neg dE];rfl)) ?_;refine U ?_;refine .e (Or.zD 0 (σ:=Unit) (fun _=> .tuple ⟨[]⟩) (fun _=> [(b5,true,.cells ⟨QW [0,x,y] 21⟩ 262 (0,0))]) (fun _=> True) rfl rfl rfl rfl rfl dE (fun H₁ H₂ xU iK=> .h (hf H₂ H₁ b5 iK)) (fun _ _=> ?_));(repeat (refine U ?_));refine .x (oA.BU (E:=en) rfl rfl rfl rfl rfl rfl rfl (by omega) (by omega)) ?_;(repeat (refine U ?_));refine .x (oA.JJ (E:=en) (off':=0) rfl rfl rfl rfl rfl rfl rfl rfl dE dE dE (by rw[if_neg dE];rfl)) ?_;refine .x (oA.JV (E:=en) (m:=3) (s:= [45,x,y]) rfl rfl (fun H hs=> NA.of (hs.get (i:=0) rfl) (Nat.le_of_ble_eq_true rfl)) rfl rfl rfl rfl rfl rfl) ?_;refine U2 ?_;refine .rt hK func161 results161 [_] ?_;exact okB
end Fz
theorem GP(hP:Pow H)(z:Int)(h:VL z):cA M 74 #[.int .i64 z] H (fun v H'=> H.le H'/\v=jA (zE z)):=by
 by_cases c:0<=z
 ·rw[kN c];exact L3 M H z ⟨c,by have:=h.2;omega⟩
 ·obtain⟨n,rfl⟩:∃n:Nat,z= -(n:Int):=⟨z.natAbs,oM⟩
  have h12:=h.1;rw[jN oM];have hF:=fun(H':View) (h':H.le H')=> Fz.uR M H' (hP.le h') n oM oM;have hU:∀H',H.le H'->cA M 113 #[.int .i64 (-(n:Int))] H' (fun v H''=> H'.le H''/\v=jA (45::JB n)):=fun H' h'=> by
   refine .en func113 ntmps113 fun St c cs hK=> ?_;refine U7 ?_;refine .cl (fun H hs=> hF H (View.le_trans h' hs.base)) ?_;refine U2 ?_;refine .rt hK func113 results113 [_] ?_;exact okB
  refine .en func74 ntmps74 fun St c cs hK=> ?_;refine U7 ?_;refine .cl (fun H hs=> hU H hs.base) ?_;refine U2 ?_;refine .rt hK func74 results74 [_] ?_;exact okB
theorem FG {z:Int}(h:VL z):(zE z).length<=3:=(YZ h).2.2.2.2.2.1
theorem OB {a b:Int}(ha:VL a)(hb:VL b):(dB a b).length<=7:=by
 have h1:=FG ha;have h2:=FG hb;unfold dB;split
 ·omega
 ·simp only[List.length_append,List.length_cons];omega
theorem CR(hP:Pow H)(a b:Int)(ha:VL a)(hb:VL b):cA M 33 #[rB a b] H (fun v H'=> H.le H'/\v=jA (dB a b)):=by
 have l1:=FG ha;have l2:=FG hb;by_cases e:a=b
 ·subst e;have hT:dB a a=zE a:=if_pos rfl;rw[hT];refine .en func33 ntmps33 fun St c cs hK=> ?_;refine U2 ?_;refine .bo fun b1=> ?_;refine bJ ?_;refine .cl (fun H hs=> GP M H (hP.le hs.base) a ha) ?_;refine U2 ?_;refine .rt hK func33 results33 [_] ?_;exact okB
 ·have hT:dB a b=zE a++[58]++zE b:=by
   unfold dB;rw[if_neg e,List.append_assoc];rfl
  rw[hT];have c1:=fun(H':View) (h':H.le H')=> GP M H' (hP.le h') a ha;have c2:=fun(H':View) (h':H.le H')=> GP M H' (hP.le h') b hb;generalize zE a=p at l1 c1;generalize zE b=q at l2 c2;have s1:RL.cC .add p [58]=some (jA (p++[58])):=ZB (by simp only[List.length_singleton];omega);have s2:RL.cC .add (p++[58]) q=some (jA (p++[58]++q)):=ZB (by simp only[List.length_append,List.length_singleton];omega);refine .en func33 ntmps33 fun St c cs hK=> ?_;refine U2 ?_;refine .bo fun b1=> ?_;refine zH ?_;refine Tc.dr [] [] mixed rfl ?_;refine V2 0 ?_;refine .z 2 rfl (oA.tk fun H hs=> c1 H hs.base) ?_;refine V3 3 ?_;refine .z 6 rfl (oA.tk fun H hs=> c2 H hs.base) ?_;refine V2 7 ?_;refine .dn ?_;refine .rt hK func33 results33 [_] ?_;exact okB
end
end Go.Proofs.YtgkmnalhddmclaaGreatDoor
namespace Go.RL
open Go.Conc Go.ConcN Go.RL.Au
open Go.ConcR (stA smA)
open Go.ConcM (muA OsLater)
section
variable {X:Fk}{B:View}{base N:Nat}{os0:gY}{w w':World}{t:Trace}{ths:List Th}{m m':Mn}{s s':Sh}{H:Nat->View}{D:Nat->Bool}{fn:FuncId}{pos:String}
theorem mF {ths:List Th}{κ:Nat}{T T':Th}(hκ:ths[κ]? =some T):∀(κ':Nat) T'',(ths.set κ T')[κ']? =some T''->(κ'=κ/\T''=T')\/(κ'≠κ/\ths[κ']? =some T''):=fun κ' T'' h'=> by
 by_cases e:κ=κ'
 ·subst e;rw[List.getElem?_set_self (List.getElem?_eq_some_iff.1 hκ).1] at h';cases h'
  exact .inl ⟨rfl,rfl⟩
 ·rw[List.getElem?_set_ne e] at h';exact .inr ⟨Ne.symm e,h'⟩
theorem H0 {T:Th}(h:T.owns=true):T.own=1:=by cases T <;> simp[Th.owns] at h <;> rfl
theorem Au.Inv.one {n:Nat}(hv:Inv n ths m s){κ κ':Nat}{T T':Th}(h1:ths[κ]? =some T)(h2:ths[κ']? =some T')(gB:κ≠κ')(ho:T.own=1):T'.owns=false:=by
 cases hT:T'.owns with
 | false=> rfl
 | true=>
  have a1:=aBu (f:=Th.own) rfl h1 h2 gB;have a2:=hv.M.i1;have a3:=H0 hT;omega
theorem iI(i:Nat)(mm:Mark):MemOp.ofEvents i fn pos #[Go.ConcR.mk mm]=#[{ g:=i,fn,pos,act:=.mark mm }]:=by
 rw[ofEvents_eq];simp[Go.ConcR.ofEvent_mk]
theorem II {i j:Nat}{mm:Mark}(h1:mm≠ .disable)(h2:mm≠ .enable):Deaf (t++MemOp.ofEvents i fn pos #[Go.ConcR.mk mm]) j=Deaf t j:=by
 refine Deaf_still t j _ fun op iA=> ?_;rw[iI] at iA;simp at iA
 subst iA;simp[h1,h2]
theorem WT.acquire(h:WT X B base N os0 w t ths m s H D)(hv:Inv X.n ths m s)(ne:X.Mu≠X.Wg/\X.Mu≠X.C/\X.Wg≠X.C){κ:Nat}(hκ:ths[κ]? =some .la)(hN:base+κ<N):
  ∃o,w.heap[X.C]? =some o/\X.GI D o/\Sat ((H (base+κ)).put X.C (true,o)) w/\WT X B base N os0 w (t++MemOp.ofEvents (base+κ) fn pos #[Go.ConcR.mk (.acquire (muA X.Mu))]) (ths.set κ .up) m s (upd H (base+κ) ((H (base+κ)).put X.C (true,o))) D:=by
 have wG:∀(κ':Nat) T,ths[κ']? =some T->T.owns=false:=fun κ' T YA=> by
  by_cases e:κ=κ'
  ·subst e;rw[hκ] at YA;cases YA;rfl
  ·exact hv.one hκ YA e rfl
 obtain⟨⟨o,h1,h2⟩,h3,h4⟩:=h.free wG;have mB:=(List.getElem?_eq_some_iff.1 hκ).1;have kG:Act base N (base+κ):=.inr ⟨oM,hN⟩;have cH:Sat ((H (base+κ)).put X.C (true,o)) w:=(h.vi.sat (base+κ)).put h1 fun _ _ _=> rfl;have iA:=nK (X:=X) (H:=H (base+κ)) (g:=base+κ) (fn:=fn) (pos:=pos) (m:=.acquire (muA X.Mu)) (t:=t) (fun x hx=> by cases hx) (fun a e=> by cases e);have iY:Deaf t (base+κ)=0:=h.XT κ _ hκ (by simp);have QJ:∀j,Deaf (t++MemOp.ofEvents (base+κ) fn pos #[Go.ConcR.mk (.acquire (muA X.Mu))]) j=Deaf t j:=fun j=> II (by simp) (by simp);have sO:=h.HN ne kG hN iA;have hka:=h4.acquire (y:= { g:=base+κ,fn,pos,act:=.mark (.acquire (muA X.Mu)) }) kG ⟨rfl,rfl⟩ iY (h.ti.rel _);rw[<-iI] at hka;have hve:∀j b,j≠base+κ->upd H (base+κ) ((H (base+κ)).put X.C (true,o)) j b=H j b:=fun j b e=> by rw[upd_ne _ _ e]
 have hvs:∀b x,upd H (base+κ) ((H (base+κ)).put X.C (true,o)) (base+κ) b=some x->(b=X.C/\x=(true,o))\/(b≠X.C/\H (base+κ) b=some x):=fun b x hx=> by
  rw[upd_same] at hx;by_cases e:b=X.C
  ·subst e;rw[View.qA] at hx;cases hx;exact .inl ⟨rfl,rfl⟩
  ·rw[View.kA _ _ e] at hx;exact .inr ⟨e,hx⟩
 refine⟨o,h1,h2,cH,h.sh,h.cb,⟨fun j=> ?_,fun i j mO b o' hi=> ?_,fun j=> ?_,h.vi.bs,fun j b x o' gK hj=> ?_,h.vi.bn⟩,fun g hg b=> ?_,?_,fun ho=> ?_,fun κ' T YA hT j hj=> ?_,fun κ' T YA hT=> ?_,by rw[QJ];exact h.LR,fun κ' T YA hT=> ?_,h.os⟩
 ·by_cases e:j=base+κ
  ·subst e;rw[upd_same];exact cH
  ·rw[upd_ne _ _ e];exact h.vi.sat j
 ·by_cases e:i=base+κ
  ·subst e;rw[hve j b (Ne.symm mO)];rcases hvs b _ hi with ⟨rfl,_⟩|⟨_,hx⟩
   ·exact h3 j
   ·exact h.vi.dj _ j mO b o' hx
  ·rw[hve i b e] at hi;by_cases e':j=base+κ
   ·subst e';cases hx:upd H (base+κ) ((H (base+κ)).put X.C (true,o)) (base+κ) b with
    | none=> rfl
    | some x=>
     rcases hvs b x hx with ⟨rfl,_⟩|⟨_,EH⟩
     ·rw[h3 i] at hi;cases hi
     ·rw[h.vi.dj i _ mO b o' hi] at EH;cases EH
   ·rw[hve j b e'];exact h.vi.dj i j mO b o' hi
 ·by_cases e:j=base+κ
  ·subst e;rw[upd_same];exact⟨by rw[View.kA _ _ ne.2.1];exact(h.vi.sh _).1,by rw[View.kA _ _ ne.2.2];exact(h.vi.sh _).2⟩
  ·rw[upd_ne _ _ e];exact h.vi.sh j
 ·by_cases e:j=base+κ
  ·subst e;rcases hvs b _ hj with ⟨rfl,_⟩|⟨_,hx⟩
   ·rw[h.vi.bn.2.2] at gK;cases gK
   ·exact h.vi.bd _ b x o' gK hx
  ·rw[hve j b e] at hj;exact h.vi.bd j b x o' gK hj
 ·have e:g≠base+κ:=by rintro rfl;exact hg kG
  rw[upd_ne _ _ e];exact h.hx g hg b
 ·refine⟨sO.nr,sO.bd,fun g hg i a b f o' ha hb hH hw=> ?_,sO.pl,fun i a b ha hk hb=> ?_,sO.nW,sO.sy,sO.rel,sO.gs,sO.mem⟩
  ·by_cases e:g=base+κ
   ·subst e;rcases hvs b _ hH with ⟨rfl,_⟩|⟨_,hx⟩
    ·exact hka i a ha hb
    ·exact sO.kn _ hg i a b f o' ha hb hx hw
   ·rw[hve g b e] at hH;exact sO.kn g hg i a b f o' ha hb hH hw
  ·obtain⟨g1,g2,g3⟩:=sO.np i a b ha hk hb;refine⟨fun g=> ?_,g2,g3⟩;by_cases e:g=base+κ
   ·subst e;rw[upd_same,View.kA _ _ g3];exact g1 _
   ·rw[upd_ne _ _ e];exact g1 g
 ·have:=ho κ .up (List.getElem?_set_self mB);cases this
 ·rcases mF hκ κ' T YA with ⟨rfl,rfl⟩|⟨_,iD⟩
  ·rw[hve j _ hj];exact h3 j
  ·rw[wG κ' T iD] at hT;cases hT
 ·rcases mF hκ κ' T YA with ⟨rfl,rfl⟩|⟨e,iD⟩
  ·cases hT
  ·obtain⟨r,hr⟩:=h.uH κ' T iD hT;exact⟨r,hr.appOther (g:=base+κ) iA.own oM⟩
 ·rw[QJ];rcases mF hκ κ' T YA with ⟨rfl,rfl⟩|⟨e,iD⟩
  ·exact iY
  ·exact h.XT κ' T iD hT
theorem WT.release(h:WT X B base N os0 w t ths m s H D)(hv:Inv X.n ths m s)(ne:X.Mu≠X.Wg/\X.Mu≠X.C/\X.Wg≠X.C){κ:Nat}(hκ:ths[κ]? =some .ur)(hN:base+κ<N){o:Obj}{H':View}(hH:H (base+κ)=H'.put X.C (true,o))(hC:H' X.C=none){D':Nat->Bool}(hG:X.GI D' o):
  WT X B base N os0 w (t++MemOp.ofEvents (base+κ) fn pos #[Go.ConcR.mk (.releaseMerge (muA X.Mu))]) (ths.set κ .ud) m s (upd H (base+κ) H') D':=by
 have wG:∀(κ':Nat) T,κ'≠κ->ths[κ']? =some T->T.owns=false:=fun κ' T e YA=> hv.one hκ YA (Ne.symm e) rfl;have mB:=(List.getElem?_eq_some_iff.1 hκ).1;have kG:Act base N (base+κ):=.inr ⟨oM,hN⟩;have hHC:H (base+κ) X.C=some (true,o):=by rw[hH,View.qA]
 have cE:∀b x,H' b=some x->H (base+κ) b=some x:=fun b x hx=> by
  rw[hH,View.kA]
  ·exact hx
  ·rintro rfl;rw[hC] at hx;cases hx
 have iA:=nK (X:=X) (H:=H (base+κ)) (g:=base+κ) (fn:=fn) (pos:=pos) (m:=.releaseMerge (muA X.Mu)) (t:=t) (fun x hx=> by cases hx) (fun a e=> by cases e);have iY:Deaf t (base+κ)=0:=h.XT κ _ hκ (by simp);have QJ:∀j,Deaf (t++MemOp.ofEvents (base+κ) fn pos #[Go.ConcR.mk (.releaseMerge (muA X.Mu))]) j=Deaf t j:=fun j=> II (by simp) (by simp);have sO:=h.HN ne kG hN iA;have pR:=Tok.release (base:=base) (N:=N) (Mu:=X.Mu) (C:=X.C) (y:= { g:=base+κ,fn,pos,act:=.mark (.releaseMerge (muA X.Mu)) }) (fun i a ha hb=> h.ti.kn _ kG i a X.C true o ha hb hHC (.inl rfl)) ⟨rfl,rfl⟩ iY;rw[<-iI] at pR;have qO:=h.own κ _ hκ rfl;refine⟨h.sh,h.cb,⟨fun j=> ?_,fun i j mO b o' hi=> ?_,fun j=> ?_,h.vi.bs,fun j b x o' gK hj=> ?_,h.vi.bn⟩,fun g hg b=> ?_,sO.less (fun b f o' hb=> ⟨f,o',cE b _ hb,id⟩),fun _=> ⟨⟨o,h.vi.sat (base+κ) _ _ _ hHC,hG⟩,fun j=> ?_,pR⟩,fun κ' T YA hT j hj=> ?_,fun κ' T YA hT=> ?_,by rw[QJ];exact h.LR,fun κ' T YA hT=> ?_,h.os⟩
 ·by_cases e:j=base+κ
  ·subst e;rw[upd_same];exact fun b f o' hb=> h.vi.sat _ b f o' (cE b _ hb)
  ·rw[upd_ne _ _ e];exact h.vi.sat j
 ·by_cases e:i=base+κ
  ·subst e;rw[upd_same] at hi;rw[upd_ne _ _ (Ne.symm mO)];exact h.vi.dj _ j mO b o' (cE b _ hi)
  ·rw[upd_ne _ _ e] at hi;by_cases e':j=base+κ
   ·subst e';rw[upd_same];cases hx:H' b with
    | none=> rfl
    | some x=> have:=cE b x hx;rw[h.vi.dj i _ mO b o' hi] at this;cases this
   ·rw[upd_ne _ _ e'];exact h.vi.dj i j mO b o' hi
 ·by_cases e:j=base+κ
  ·subst e;rw[upd_same];constructor
   ·cases hx:H' X.Mu with
    | none=> rfl
    | some x=> have:=cE _ x hx;rw[(h.vi.sh _).1] at this;cases this
   ·cases hx:H' X.Wg with
    | none=> rfl
    | some x=> have:=cE _ x hx;rw[(h.vi.sh _).2] at this;cases this
  ·rw[upd_ne _ _ e];exact h.vi.sh j
 ·by_cases e:j=base+κ
  ·subst e;rw[upd_same] at hj;exact h.vi.bd _ b x o' gK (cE b _ hj)
  ·rw[upd_ne _ _ e] at hj;exact h.vi.bd j b x o' gK hj
 ·have e:g≠base+κ:=by rintro rfl;exact hg kG
  rw[upd_ne _ _ e];exact h.hx g hg b
 ·by_cases e:j=base+κ
  ·subst e;rw[upd_same];exact hC
  ·rw[upd_ne _ _ e];exact qO j e
 ·rcases mF hκ κ' T YA with ⟨rfl,rfl⟩|⟨e,iD⟩
  ·cases hT
  ·rw[wG κ' T e iD] at hT;cases hT
 ·rcases mF hκ κ' T YA with ⟨rfl,rfl⟩|⟨e,iD⟩
  ·cases hT
  ·obtain⟨r,hr⟩:=h.uH κ' T iD hT;exact⟨r,hr.appOther (g:=base+κ) iA.own oM⟩
 ·rw[QJ];rcases mF hκ κ' T YA with ⟨rfl,rfl⟩|⟨e,iD⟩
  ·exact iY
  ·exact h.XT κ' T iD hT
theorem WT.mute(h:WT X B base N os0 w t ths m s H D)(ne:X.Mu≠X.Wg/\X.Mu≠X.C/\X.Wg≠X.C){κ:Nat}(hκ:ths[κ]? =some .wr)(hN:base+κ<N):
  WT X B base N os0 w (t++MemOp.ofEvents (base+κ) fn pos #[Go.ConcR.mk (.releaseMerge (stA X.Wg))]) (ths.set κ .wk) m s H D:=by
 have mB:=(List.getElem?_eq_some_iff.1 hκ).1;have kG:Act base N (base+κ):=.inr ⟨oM,hN⟩;have iA:=nK (X:=X) (H:=H (base+κ)) (g:=base+κ) (fn:=fn) (pos:=pos) (m:=.releaseMerge (stA X.Wg)) (t:=t) (fun x hx=> by cases hx) (fun a e=> by cases e);have iY:Deaf t (base+κ)=0:=h.XT κ _ hκ (by simp);have QJ:∀j,Deaf (t++MemOp.ofEvents (base+κ) fn pos #[Go.ConcR.mk (.releaseMerge (stA X.Wg))]) j=Deaf t j:=fun j=> II (by simp) (by simp);refine⟨h.sh,h.cb,h.vi,h.hx,h.HN ne kG hN iA,fun ho=> ?_,fun κ' T YA hT=> ?_,fun κ' T YA hT=> ?_,by rw[QJ];exact h.LR,fun κ' T YA hT=> ?_,h.os⟩
 ·obtain⟨h1,h3,h4⟩:=h.free fun κ' T YA=> by
   by_cases e:κ'=κ
   ·subst e;rw[hκ] at YA;cases YA;rfl
   ·exact ho κ' T (by rw[List.getElem?_set_ne (Ne.symm e)];exact YA)
  refine⟨h1,h3,h4.grow fun op AD x hx=> ?_⟩;rw[iI] at AD;simp at AD
  subst AD;cases hx
 ·rcases mF hκ κ' T YA with ⟨rfl,rfl⟩|⟨e,iD⟩
  ·cases hT
  ·exact h.own κ' T iD hT
 ·rcases mF hκ κ' T YA with ⟨rfl,rfl⟩|⟨e,iD⟩
  ·exact⟨_,RelBy.new iY fn pos⟩
  ·obtain⟨r,hr⟩:=h.uH κ' T iD hT;exact⟨r,hr.appOther (g:=base+κ) iA.own oM⟩
 ·rw[QJ];rcases mF hκ κ' T YA with ⟨rfl,rfl⟩|⟨e,iD⟩
  ·exact iY
  ·exact h.XT κ' T iD hT
theorem aD {R:View}{b:Nat}{f:Bool}{o:Obj}(h:ro R b=some (f,o)):f=false/\∃f',R b=some (f',o):=by
 unfold ro at h;obtain⟨x,hx,he⟩:=Option.map_eq_some_iff.1 h;cases he
 exact⟨rfl,x.1,hx⟩
theorem iE {R:View}{b:Nat}(h:R b=none):ro R b=none:=by simp[ro,h]
theorem WT.fork(h:WT X B base N os0 w t ths .go s H D)(hb:1<=base)(hN:N=base+ths.length)(hm:m'.deaf=0){x y:MemOp}(hx:x.g=0/\x.act=.go N)(hy:y.g=N/\y.act=.start):
  WT X B base (N+1) os0 w (t ++ #[x,y]) (ths++[.ld]) m' s (upd (upd H 0 (ro (H 0))) N (ro (H 0))) D:=by
 have hN0:N≠0:=by omega
 have hHN:∀b,H N b=none:=h.hx N fun hh=> hh.elim hN0 fun hh=> by omega
 have iY:Deaf t 0=0:=h.LR;have aAg:∀op∈#[x,y],op.act≠ .mark .disable/\op.act≠ .mark .enable:=by
  intro op iA;simp only[List.mem_toArray,List.mem_cons,List.not_mem_nil,or_false] at iA;rcases iA with rfl|rfl
  ·rw[hx.2];simp
  ·rw[hy.2];simp
 have QJ:∀j,Deaf (t ++ #[x,y]) j=Deaf t j:=fun j=> Deaf_still t j _ aAg;have hV:∀j b,upd (upd H 0 (ro (H 0))) N (ro (H 0)) j b=if j=N\/j=0 then ro (H 0) b else H j b:=fun j b=> by
  by_cases e:j=N
  ·subst e;rw[upd_same,if_pos (.inl rfl)]
  ·rw[upd_ne _ _ e];by_cases e0:j=0
   ·subst e0;rw[upd_same,if_pos (.inr rfl)]
   ·rw[upd_ne _ _ e0,if_neg (by simp[e,e0])]
 have get:∀(κ:Nat) T,(ths++[Th.ld])[κ]? =some T->ths[κ]? =some T\/(κ=ths.length/\T=.ld):=fun κ T hκ=> by
  rw[List.getElem?_append] at hκ;split at hκ
  ·exact .inl hκ
  ·cases hz:κ-ths.length with
   | zero=> rw[hz] at hκ;cases hκ;exact .inr ⟨oM,rfl⟩
   | succ z=> rw[hz] at hκ;cases hκ
 have get':∀(κ:Nat) T,ths[κ]? =some T->(ths++[Th.ld])[κ]? =some T:=fun κ T hκ=> by
  rw[List.getElem?_append_left (List.getElem?_eq_some_iff.1 hκ).1];exact hκ
 refine⟨h.sh,h.cb,⟨fun j b f o gK=> ?_,fun i j mO b o hi=> ?_,fun j=> ?_,h.vi.bs,fun j b x' o gK hj=> ?_,h.vi.bn⟩,fun g hg b=> ?_,?_,fun ho=> ?_,fun κ T hκ hT j hj=> ?_,fun κ T hκ hT=> ?_,by rw[QJ,hm];exact iY,fun κ T hκ hT=> ?_,h.os⟩
 ·rw[hV] at gK;split at gK
  ·obtain⟨_,f',h1⟩:=aD gK;exact h.vi.sat 0 b f' o h1
  ·exact h.vi.sat j b f o gK
 ·rw[hV] at hi ⊢;split at hi
  ·have:=(aD hi).1;cases this
  ·split
   ·exact iE (h.vi.dj i 0 oM b o hi)
   ·exact h.vi.dj i j mO b o hi
 ·rw[hV,hV];split
  ·exact⟨iE (h.vi.sh 0).1,iE (h.vi.sh 0).2⟩
  ·exact h.vi.sh j
 ·rw[hV] at hj;split at hj
  ·have:=(aD hj).1;cases this
  ·exact h.vi.bd j b x' o gK hj
 ·rw[hV,if_neg (by
   rintro(rfl|rfl)
   ·exact hg (.inr ⟨oM,oM⟩)
   ·exact hg (.inl rfl))]
  exact h.hx g (fun hh=> hg (hh.imp id fun⟨h1,h2⟩=> ⟨h1,oM⟩)) b
 ·exact h.ti.fork hx hy iY oM oM (fun b f o gK=> aD gK) hHN
 ·obtain⟨h1,h3,h4⟩:=h.free fun κ T hκ=> ho κ T (get' κ T hκ);refine⟨h1,fun g=> ?_,h4.fork h.ti.gs hx hy iY⟩;rw[hV];split
  ·exact iE (h3 0)
  ·exact h3 g
 ·rcases get κ T hκ with YA|⟨_,rfl⟩
  ·have h1:=h.own κ T YA hT;have mB:=(List.getElem?_eq_some_iff.1 YA).1;rw[hV];split
   ·exact iE (h1 0 oM)
   ·exact h1 j hj
  ·cases hT
 ·rcases get κ T hκ with YA|⟨_,rfl⟩
  ·obtain⟨r,hr⟩:=h.uH κ T YA hT;have mB:=(List.getElem?_eq_some_iff.1 YA).1;refine⟨r,hr.app fun i hi hgi hc=> ?_⟩;obtain⟨a,ha,_⟩:=hc;obtain⟨op,iA,tU⟩:=touch_of ha;rcases getElem?_append_cases iA with ⟨hl,_⟩|⟨_,vD⟩
   ·omega
   ·simp only[List.mem_toArray,List.mem_cons,List.not_mem_nil,or_false] at vD;rcases vD with rfl|rfl
    ·rw[hx.2] at tU;cases tU
    ·rw[hy.2] at tU;cases tU
  ·cases hT
 ·rw[QJ];rcases get κ T hκ with YA|⟨rfl,rfl⟩
  ·exact h.XT κ T YA hT
  ·rw[<-hN];exact Deaf_absent fun i op hi e=> by have:=h.ti.gs i op hi;omega
end
end Go.RL
