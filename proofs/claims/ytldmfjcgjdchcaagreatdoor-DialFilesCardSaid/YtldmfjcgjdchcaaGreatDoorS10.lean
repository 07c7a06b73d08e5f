/-
 Texts of the proofs over baudot/dial.
-/
import Derived.Test.YtldmfjcgjdchcaaGreatDoorS09
namespace Go.Proofs.YtldmfjcgjdchcaaGreatDoor
open Go.RL Go.Proofs.Tryz
set_option maxRecDepth 10000
set_option maxHeartbeats 8000000
def FG(P:List By)(b:Nat):Value:=.slice (some ⟨b,0,none⟩) P.length P.length
def PD(P:List By)(b:Nat):Bl:= [Bb b (zA P) 9]
def KH(P:List By)(m i:Nat):List Value:=zA (P.take i)++List.replicate (m-i) (bA [])
theorem X3 {P:List By}{m i:Nat}(hP:P.length=m)(hi:i<=m):(KH P m i).length=m:=by
 unfold KH;rw[List.length_append,VB,List.length_take,List.length_replicate];omega
theorem qW {P:List By}{m i:Nat}{p:By}(hP:P.length=m)(hp:P[i]? =some p):wH (KH P m i) (0+((i:Nat):Int).toNat*1) [bA p]=KH P m (i+1):=by
 obtain⟨hi,rfl⟩:=List.getElem?_eq_some_iff.1 hp;have h1:(zA (P.take i)).length=i:=by rw[VB,List.length_take];omega
 rw[Int.toNat_natCast,Nat.zero_add,Nat.mul_one];unfold wH KH;rw[List.take_left' h1,List.drop_append,List.drop_of_length_le (by rw[h1];exact Nat.le_add_right _ _),h1,List.nil_append,List.drop_replicate,List.take_succ_eq_append_getElem hi,eC];have e:m-i-(i+[bA P[i]].length-i)=m-(i+1):=by simp only[List.length_singleton];omega
 rw[e];rfl
theorem qY {P:List By}{m:Nat}(hP:P.length=m):KH P m m=zA P:=by
 unfold KH;rw[List.take_of_length_le oM,Nat.sub_self];simp
section
variable(M:Md prog)(H:View)
theorem aAF(s:By)(y:UInt8)(z:Int)(hz:F8 s y=z):fA M 293 #[bA s,bA [y]] H (Ib H (.int .i64 z)):=by
 refine .en func293 ntmps293 fun St c cs hK=> ?_;refine U8 ?_;refine .cl (fun H hs=> xP M H s y z hz) ?_;refine U2 ?_;refine .rt hK func293 results293 [_] ?_;exact okB
theorem l6(s:By)(y:UInt8)(hm:s.length<=1000000):
  fA M 242 #[bA s,bA [y],.iz 0,.iz (-1)] H (fun v H'=> H.le H'/\∃b,v=FG (mA y s) b/\True/\∀z∈PD (mA y s) b,H' z.1=some z.2/\H z.1=none):=by
 have iB:=kB y s;have hle:s.count y<=s.length:=List.count_le_length;obtain⟨P,hP⟩:∃P,P=mA y s:=⟨_,rfl⟩
 obtain⟨m,hmc⟩:∃m,m=s.count y:=⟨_,rfl⟩
 have D2:P.length=m+1:=by rw[hP,hmc];exact iB
 have hc2:=fun H=> fA.is (.int .i64 (m:Nat)) (by rewrite [<-hmc];rfl) (aAA M H s y);have a1:iA .add .i64 ((m:Nat):Int) 1=some (.int .i64 ((m+1:Nat):Int)):=pB oM oM;have aFy:(if(((s.length:Nat):Int)+1)<((m+1:Nat):Int) then(((s.length:Nat):Int)+1) else((m+1:Nat):Int))=((m+1:Nat):Int):=if_neg oM;have s1:iA .sub .i64 ((m+1:Nat):Int) 1=some (.int .i64 ((m:Nat):Int)):=by rw[pH oM oM];congr 2;omega
 rw[<-hP];refine .en func242 ntmps242 fun St c cs hK=> ?_;refine U30 ?_;refine .cl (fun H hs=> hc2 H) ?_;refine U9 ?_;refine .x (pA.min rfl rfl rfl rfl rfl rfl (by assumption)) ?_;refine U5 ?_;refine .e (Or.makeSlice (E:=en) (len:=m+1) (cap:=m+1) rfl rfl rfl rfl rfl rfl (Nat.le_refl _) oM rfl rfl dE (fun b=> ?_));have hz:PC [bA []] ((m+1)*1)=KH P (m+1) 0:=by
  rw[sK,Nat.mul_one];unfold KH;rfl
 refine To.perm (L₁:= [Bb b (KH P (m+1) 0) 9]) (by rw[<-hz];exact List.Perm.refl _) ?_;refine MF ?_;refine Tc.db (Tc.qA (σ:= { x:Nat×By//x.1<=m/\mA y x.2=P.drop x.1/\x.2.length<=1000000 }) (fun x=> ([(0,bA x.1.2),(1,bA [y]),(2,.iz 0),(3,.nt m),(9,.sl b (m+1) (m+1)),(10,.nt x.1.1)],[Bb b (KH P (m+1) x.1.1) 9])) (fun x=> m-x.1.1) ?_ ⟨(0,s),Nat.zero_le _,hP.symm,hm⟩);rintro⟨⟨i,r⟩,g1,g2,g3⟩ ih;simp only at g1 g2 g3;dsimp only;have hlen:=X3 D2 (i:=i) oM;have vJ:Nat.ble (0+((i:Nat):Int).toNat*1+1) (KH P (m+1) i).length=true:=by
  rw[hlen];exact Nat.ble_eq_true_of_le oM
 by_cases c1:i=m
 ·clear ih;subst c1;have kM:P[i]? =some r:=by
   have h1:(P.drop i).length=1:=by rw[List.length_drop];omega
   rw[<-g2,kB] at h1;have h2:y ∉ r:=fun h=> by have:=List.count_pos_iff.2 h;omega
   rw[tC y r h2] at g2;have h3:(P.drop i)[0]? =some r:=by rw[<-g2];rfl
   rwa [List.getElem?_drop] at h3
  have aC:=qW D2 kM;rw[qY D2] at aC;have a2:iA .add .i64 ((i:Nat):Int) 1=some (.int .i64 ((i+1:Nat):Int)):=pB oM oM;refine o6 ?_;refine .x (pA.sliceTo (E:=en) (k:=i+1) rfl rfl rfl rfl rfl rfl oM oM) ?_;refine U2 ?_;refine .rt hK func242 results242 [_] ?_;refine fun H' hs=> ⟨hs.base,b,?_,trivial,fun z hz=> ?_⟩
  ·show _=FG P b;unfold FG;rw[D2];rfl
  ·simp only[PD,List.mem_singleton] at hz;subst hz;exact⟨hs.get (i:=0) rfl,hs.fresh (i:=0) rfl⟩
 ·have c2:i<m:=by omega
  rcases ZH y r with h0|⟨p,q,rfl,h0⟩
  ·exfalso
   rw[tC y r h0] at g2;have h1:=congrArg List.length g2;rw[List.length_drop,List.length_singleton] at h1;omega
  rw[xD y q p h0] at g2;have hp:P[i]? =some p:=by
   have h3:(P.drop i)[0]? =some p:=by rw[<-g2];rfl
   rwa [List.getElem?_drop] at h3
  have hq:mA y q=P.drop (i+1):=by
   have h3:(P.drop i).drop 1=mA y q:=by rw[<-g2];rfl
   rw[<-h3,List.drop_drop]
  have hx:=tP (q:=q) h0;have hl:(p++y::q).length=p.length+1+q.length:=by simp;omega
  have h1:([y]:By).length=1:=rfl;have t1:((p++y::q).drop ((0:Nat):Int).toNat).take ((((p.length:Nat):Int)+0).toNat-((0:Nat):Int).toNat)=p:=by simp
  have t2:((p++y::q).drop (((p.length:Nat):Int)+(([y].length:Nat):Int)).toNat).take ((((p++y::q).length:Nat):Int).toNat-(((p.length:Nat):Int)+(([y].length:Nat):Int)).toNat)=q:=by
   have e:(((p.length:Nat):Int)+(([y].length:Nat):Int)).toNat=p.length+1:=by simp only[h1];omega
   rw[e,hl,List.drop_append,List.drop_of_length_le oM,List.nil_append,Nat.add_sub_cancel_left,List.drop_succ_cons,List.drop_zero];exact List.take_of_length_le oM
  have aC:=qW D2 hp;have a2:iA .add .i64 ((i:Nat):Int) 1=some (.int .i64 ((i+1:Nat):Int)):=pB oM oM;have vG:=ih ⟨(i+1,q),by simp only;omega,hq,by simp only;omega⟩ Ob;clear ih;have hg:0<=0:=Nat.le_refl _;obtain⟨r,hr⟩:∃r,r=p++y::q:=⟨_,rfl⟩
  rw[<-hr] at hl hx t1 t2 g3;show Tc M St _ _ _ _ [(0,bA (p++y::q)),(1,bA [y]),(2,.iz 0),(3,.nt m),(9,.sl b (m+1) (m+1)),(10,.nt i)] [Bb b (KH P (m+1) i) 9] _ _;rw[<-hr];clear hg hr;refine MF ?_;refine .cl (fun H hs=> aAF M H r y _ hx) ?_;refine fL ?_;refine .x (pA.TQ (E:=en) rfl rfl rfl rfl rfl rfl oM oM oM t1) ?_;refine iD ?_;refine .x (pA.TQ (E:=en) rfl rfl rfl rfl rfl rfl oM oM oM t2) ?_;refine U8 ?_;exact Tc.db (vG)
theorem uD(s:By)(y:UInt8)(hm:s.length<=1000000):
  fA M 177 #[bA s,bA [y]] H (fun v H'=> H.le H'/\∃b,v=FG (mA y s) b/\True/\∀z∈PD (mA y s) b,H' z.1=some z.2/\H z.1=none):=by
 refine .en func177 ntmps177 fun St c cs hK=> ?_;refine U8 ?_;refine .e (Or.xA (FG (mA y s)) (PD (mA y s)) (fun _=> True) rfl rfl rfl rfl rfl dE (fun _=> by simp[PD]) (fun H hs=> .h (l6 M H s y hm)) (fun b _=> ?_));refine U2 ?_;refine .rt hK func177 results177 [_] ?_;refine fun H' hs=> ⟨hs.base,b,rfl,trivial,fun z hz=> ?_⟩
 simp only[PD,List.mem_singleton] at hz;subst hz;exact⟨hs.get (i:=0) rfl,hs.fresh (i:=0) rfl⟩
end
end Go.Proofs.YtldmfjcgjdchcaaGreatDoor
namespace Go.RL
open Go.Conc
def isIf:TypeDesc->Bool
 | .interface _=> true
 | _=> false
def ifT(P:Program)(t:TypeId):Bool:=match P.underlying t with|some D=> isIf D|none=> false
def p9(P:Program)(t:TypeId):Bool:=match P.underlying t with|some D=> !isIf D|none=> false
theorem cY {P:Program}{t:TypeId}(h:ifT P t=true):∃ms,P.underlying t=some (.interface ms):=by
 unfold ifT at h;split at h
 ·rename_i D hD
  cases D <;> first|exact⟨_,hD⟩|cases h
 ·cases h
theorem aU {P:Program}{t:TypeId}(h:p9 P t=true):∃D,P.underlying t=some D/\isIf D=false:=by
 unfold p9 at h;split at h
 ·rename_i D hD
  exact⟨D,hD,by simpa using h⟩
 ·cases h
section
variable {P:Program}{E:Env P}{M:Md P}{n:Nat}{H₀:View}{R:Rg}{L L':Bl}{K:Rg->Bl->Prop}{o:Oper}{d:Nat}{v:Value}
theorem pA.aFO {t u:TypeId}{x:Operand}(lA:o.op=.binOp .eql t x (.const .nilIface) u)(hx:JA R x=some .nilIface)(hi:ifT P t=true):pA P n H₀ R L o (.bool true):=fun H tmps _ hr=> by
 obtain⟨ms,ht⟩:=cY hi;unfold execOp;rw[lA];simp only[hr.ev hx];show HA P (((eqGuard .eql t x (.const .nilIface) .nilIface .nilIface).bind fun _=> binOp .eql t .nilIface .nilIface).bind _) H _;refine aA _ _ (aA _ _ ?_);have hg:eqGuard .eql t x (.const .nilIface) .nilIface .nilIface=Sem.pure ():=by
  unfold eqGuard;cases x <;> rfl
 rw[hg];show HA P ((Op.equalIn (9999+1) t .nilIface .nilIface).bind fun c=> Sem.pure (Value.bool c)) H _;refine aA _ _ ?_;unfold Op.equalIn;refine aA (underlying t) _ (gA ht ?_);exact⟨rfl,rfl⟩
theorem pA.aFP {t u:TypeId}{x:Operand}(lA:o.op=.binOp .neq t x (.const .nilIface) u)(hx:JA R x=some .nilIface)(hi:ifT P t=true):pA P n H₀ R L o (.bool false):=fun H tmps _ hr=> by
 obtain⟨ms,ht⟩:=cY hi;unfold execOp;rw[lA];simp only[hr.ev hx];show HA P (((eqGuard .neq t x (.const .nilIface) .nilIface .nilIface).bind fun _=> binOp .neq t .nilIface .nilIface).bind _) H _;refine aA _ _ (aA _ _ ?_);have hg:eqGuard .neq t x (.const .nilIface) .nilIface .nilIface=Sem.pure ():=by
  unfold eqGuard;cases x <;> rfl
 rw[hg];show HA P ((Op.equalIn (9999+1) t .nilIface .nilIface).bind fun c=> Sem.pure (Value.bool (!c))) H _;refine aA _ _ ?_;unfold Op.equalIn;refine aA (underlying t) _ (gA ht ?_);exact⟨rfl,rfl⟩
theorem pA.iface {t:TypeId}{x:Operand}(lA:o.op=.makeInterface t x)(hx:JA R x=some v)(hi:p9 P t=true):pA P n H₀ R L o (.iface t v):=fun H tmps _ hr=> by
 obtain⟨D,ht,hD⟩:=aU hi;unfold execOp;rw[lA];simp only[hr.ev hx];refine aA (Instr.makeInterface t v) _ ?_;unfold Instr.makeInterface;refine aA (underlying t) _ (gA ht ?_);cases D <;> first|exact⟨rfl,rfl⟩|cases hD
theorem pA.dP {t a:TypeId}{x:Operand}(lA:o.op=.typeAssert x t a true)(hx:JA R x=some (.iface a v))(hi:p9 P a=true):pA P n H₀ R L o (.tuple ⟨[v,.bool true]⟩):=fun H tmps _ hr=> by
 obtain⟨D,ht,hD⟩:=aU hi;unfold execOp;rw[lA];simp only[hr.ev hx];refine aA (Instr.typeAssert _ t a true) _ ?_;unfold Instr.typeAssert;refine aA (underlying a) _ (gA ht ?_);cases D <;> first
   | (show HA P (if a=a then Sem.pure (Value.tuple #[v,.bool true]) else _) H _
      rw[if_pos rfl];exact⟨rfl,rfl⟩)
   | (exfalso;cases hD;done)
theorem pA.dT {t a b:TypeId}{x:Operand}{r:FA}(lA:o.op=.typeAssert x t a true)(hx:JA R x=some (.iface b v))(aB:Nat.beq b a=false)(hi:p9 P a=true)(XD:E.ty a=some r):pA P n H₀ R L o (.tuple ⟨[r.zero,.bool false]⟩):=fun H tmps _ hr=> by
 obtain⟨D,ht,hD⟩:=aU hi;unfold execOp;rw[lA];simp only[hr.ev hx];refine aA (Instr.typeAssert _ t a true) _ ?_;unfold Instr.typeAssert;refine aA (underlying a) _ (gA ht ?_);have h1:¬b=a:=fun e=> by rw[e,Nat.beq_refl] at aB;cases aB
 cases D <;> first
   | (show HA P (if b=a then Sem.pure (Value.tuple #[v,.bool true]) else(zeroValue a).bind fun z=> Sem.pure (Value.tuple #[z,.bool false])) H _
      rw[if_neg h1];refine aA (zeroValue a) _ (oC (E.ok _ _ XD).zero ?_);exact⟨rfl,rfl⟩)
   | (exfalso;cases hD;done)
def aBw(P:Program)(t:TypeId)(name:String)(f:FuncId):Bool:=
 match P.info? t with
 | none=> false
 | some i=> match i.methods.find? (·.name==name) with
  | none=> false
  | some m=> (match m.path.toList with | []=> true|_=> false)&&(match m.func with|some (g,false)=> g==f|_=> false)&&(match P.underlying t with|some (.pointer _)=> false|some _=> true|none=> false)
theorem aBx {P:Program}{t:TypeId}{name:String}{f:FuncId}(h:aBw P t name f=true):∃(i:TypeInfo) (m:Method) (D:TypeDesc),P.info? t=some i/\i.methods.find? (·.name==name)=some m/\m.path=#[]/\m.func=some (f,false)/\P.underlying t=some D/\(match D with | .pointer _=> false|_=> true)=true:=by
 unfold aBw at h;split at h
 ·cases h
 ·rename_i i hi
  split at h
  ·cases h
  ·rename_i m hm
   simp only[Bool.and_eq_true] at h;obtain⟨⟨h1,h2⟩,h3⟩:=h;split at h1
   ·rename_i hp
    split at h2
    ·rename_i g hg
     split at h3
     ·cases h3
     ·rename_i D gB hD
      refine⟨i,m,D,hi,hm,Array.ext' hp,by rw[hg,beq_iff_eq.1 h2],hD,?_⟩;cases D <;> first|rfl|exact(gB _ rfl).elim
     ·cases h3
    ·cases h2
   ·cases h1
theorem Q4 {α:Type}{a:α}{H:View}{Q:α->View->Prop}(h:Q a H):HA P (Sem.pure a) H Q:=h
theorem WY {t:TypeId}{name:String}{f:FuncId}{args:Array Value}{H:View}{Q:Next->View->Prop}(hm:aBw P t name f=true)(hg:AA P f=true)(h:Q (.enter f (#[v]++args)) H):HA P (callMethod (.iface t v) name args) H Q:=by
 obtain⟨i,m,D,h2,h3,h4,h5,h6,h7⟩:=aBx hm;obtain⟨k,h1⟩:∃k,P.types.size+Made.depth=k+1:=⟨P.types.size+99,rfl⟩
 show HA P ((method (P.types.size+Made.depth) t v name).bind fun fr=> callFunc fr.1 (#[fr.2]++args)) H Q;rw[h1];refine aA _ _ ?_;unfold method;refine aA (typeInfo t) _ (nC h2 ?_);simp only[h3];rw[h4,h5];have hf:follow (#[]:Array FieldStep).toList t (.val v)=Sem.pure (t,Place.val v):=by
  show follow [] t (.val v)=_;unfold follow;rfl
 refine aA (follow (#[]:Array FieldStep).toList t (.val v)) _ ?_;rw[hf];refine Q4 ?_;show HA P ((receiverAt t (.val v) false _).bind fun r=> Sem.pure (f,r)) H _;refine aA (receiverAt t (.val v) false _) _ ?_;unfold receiverAt;refine aA (underlying t) _ (gA h6 ?_);cases D <;> first
  | exact tE hg h
  | (exfalso;cases h7;done)
theorem pA.dC {o:Oper}{u:Value}{cl:Go.Call}{x:Operand}{t:TypeId}{name:String}{f:FuncId}(lA:o.op=.call cl)(iB:cl.callee=.invoke x name)(sI:cl.args=#[])(hx:JA R x=some (.iface t v))(hm:aBw P t name f=true)(hg:AA P f=true)
  (hc:∀H,jA H₀ L H->fA M f #[v] H fun z H'=> H.le H'/\z=u):∀H tmps,jA H₀ L H->YA n R tmps->tD M o tmps H fun z H'=> z=u/\H.le H':=fun H tmps hs hr=> by
 have e1:=hr.ev hx;have hex:execOp (OB tmps) o=callMethod (.iface t v) name #[]:=by
  have h1:execOp (OB tmps) o=(resolve (OB tmps) cl o.type).bind fun d=> invoke d.target d.args:=by unfold execOp;rw[lA];rfl
  rw[h1];unfold resolve;rw[iB];simp only[e1,sI,Array.map_empty,Array.append_empty];show invoke (.fn (.method name) #[]) #[.iface t v]=_;unfold invoke;rfl
 unfold tD;rw[hex];have fin:∀z H',(H.le H'/\z=u)->z=u/\H.le H':=fun z H' ⟨h1,h2⟩=> ⟨h2,h1⟩
 exact WY hm hg (fA.mono (hc H hs) fin)
end
end Go.RL
namespace Go.Proofs.YtldmfjcgjdchcaaGreatDoor
open Go.RL Go.Proofs.Tryz
set_option maxRecDepth 10000
set_option maxHeartbeats 8000000
def wB(s:By):Nat:=s.foldl (fun n x=> 10*n+(x.toNat-48)) 0
theorem XE(s:By)(x:UInt8):wB (s++[x])=10*wB s+(x.toNat-48):=by simp[wB]
theorem XG {s:By}(h:s.all OC=true):∀i,i<=s.length->wB (s.take i)<10 ^ i
 | 0,_=> by simp[wB]
 | i+1,hi=> by
  have ih:=XG h i oM;rw[List.take_succ_eq_append_getElem oM,XE,Nat.pow_succ];have h1:OC s[i]=true:=List.all_eq_true.1 h _ (List.getElem_mem _);have h2:=of_decide_eq_true h1;omega
def PA(s:By):Bool:=
 decide (1<=(zB 45 s).length/\(zB 45 s).length<=9)&&(zB 45 s).all OC&&((zB 45 s)[0]?.getD 0 !=48||(zB 45 s).length==1 && !XA s [45])
def numOf(s:By):Int:=if XA s [45] then -((wB (zB 45 s):Nat):Int) else(wB (zB 45 s):Nat)
theorem aAm:∀d:Nat,d<10->iA .sub .u8 ((48+d:Nat):Int) 48=some (.int .u8 ((d:Nat):Int)):=by
 intro d h;have:d=0\/d=1\/d=2\/d=3\/d=4\/d=5\/d=6\/d=7\/d=8\/d=9:=by omega
 rcases this with rfl|rfl|rfl|rfl|rfl|rfl|rfl|rfl|rfl|rfl <;> rfl
theorem gV {s:By}{q:Nat}{x:UInt8}(h:s[q]? =some x)(jj:List Value):zE false 1 (UA s++jj) (0+((q:Nat):Int).toNat*1)=some (.int .u8 (x.toNat:Nat)):=by
 show(UA s++jj)[0+((q:Nat):Int).toNat*1]? =_;rw[Int.toNat_natCast,Nat.zero_add,Nat.mul_one,List.getElem?_append_left (by rw[WG];exact(List.getElem?_eq_some_iff.1 h).1)];unfold UA;rw[List.getElem?_map,h];rfl
theorem CB {P:List By}{H:View}{b:Nat}{f:Bool}{jj:List Value}{e:TypeId}{fz:Nat×Nat}(h:H b=some (f,.cells ⟨zA P++jj⟩ e fz)):ZB H (some ⟨b,0,none⟩) P.length (fun i=> P[i]?.getD []):=by
 refine .inr ⟨b,0,f,_,e,fz,rfl,h,fun j hj=> ?_⟩;show(zA P++jj)[0+((j:Nat):Int).toNat*1]? =_;rw[Int.toNat_natCast,Nat.zero_add,Nat.mul_one,List.getElem?_append_left (by rw[VB];exact hj)];unfold zA;show _=some (bA (P[j]?.getD []));rw[List.getElem?_map,List.getElem?_eq_getElem hj];rfl
section
variable(M:Md prog)(H:View)
theorem KL(F:Option Addr)(n fc:Nat)(x:Nat->By)(hF:ZB H F n x)(hn:n<=1000001)(s:By):
  fA M 243 #[.slice F n fc,bA s] H (fun v H'=> H.le H'/\v=.int .i64 (sB (kA (fun i=> s==x i) n))):=by
 obtain⟨p,hp⟩:∃p:Nat->Bool,p=fun i=> s==x i:=⟨_,rfl⟩
 rw[<-hp];refine .en func243 ntmps243 fun St c cs hK=> ?_;refine uH ?_;refine Tc.db (Tc.qA (σ:= { j:Nat//j<=n/\kA p j=none }) (fun j=> ([(0,.slice F n fc),(1,bA s),(7,.nt n),(8,.nt j.1)],[])) (fun j=> n-j.1) ?_ ⟨0,Nat.zero_le _,rfl⟩);rintro⟨j,hj,gB⟩ ih;dsimp only;by_cases c1:j=n
 ·subst c1;rw[gB] at hK;refine ND ?_;refine .rt hK func243 results243 [_] ?_;exact okB
 ·have c2:j<n:=by omega
  rcases hF with h0|⟨ab,ao,f,gs,gt,gz,rfl,hb,hl⟩
  ·omega
  have f1:=hl j c2;have e1:RL.LB .eql s (x j)=some (.bool (p j)):=by rw[hp];rfl
  cases CG:p j with
  | true=>
   rw[CG] at e1;have e:kA p n=some j:=mB (j:=j+1) (by simp[kA,gB,CG]) _ oM;rw[e] at hK;refine U29 ?_;refine .rt hK func243 results243 [_] ?_;exact okB
  | false=>
   rw[CG] at e1;refine U30 ?_;exact Tc.db (ih ⟨j+1,oM,by simp[kA,gB,CG]⟩ Ob)
theorem SB(F:Option Addr)(n fc:Nat)(x:Nat->By)(hF:ZB H F n x)(hn:n<=1000001)(s:By)(t:Bool)(ht:(kA (fun i=> s==x i) n).isSome=t):
  fA M 178 #[.slice F n fc,bA s] H (Ib H (.bool t)):=by
 subst ht;have hi:=fun(H':View) (h':H.le H')=> KL M H' F n fc x (hF.le h') hn s;cases hf:kA (fun i=> s==x i) n with
 | none=>
  rw[hf] at hi;refine .en func178 ntmps178 fun St c cs hK=> ?_;refine U8 ?_;refine .cl (fun H hs=> hi H hs.base) ?_;refine U3 ?_;refine .rt hK func178 results178 [_] ?_;exact okB
 | some j=>
  rw[hf] at hi;have g1:iA .geq .i64 (sB (some j)) 0=some (.bool true):=CH (by show(0:Int)<=(j:Nat);omega);refine .en func178 ntmps178 fun St c cs hK=> ?_;refine U8 ?_;refine .cl (fun H hs=> hi H hs.base) ?_;refine U3 ?_;refine .rt hK func178 results178 [_] ?_;exact okB
theorem wC:fA M 105 #[.bool true] H (Ib H (.tuple ⟨[]⟩)):=by
 refine .en func105 ntmps105 fun St c cs hK=> ?_;refine U7 ?_;refine .ov hK func105 results105 [] ?_;exact okB
theorem aCn(s:By)(h1:(zB 45 s).all OC=true)(h2:1<=(zB 45 s).length/\(zB 45 s).length<=9):fA M 295 #[bA s] H (Ib H (.tuple ⟨[.iz (numOf s),.nilIface]⟩)):=by
 obtain⟨d,hd⟩:∃d,d=zB 45 s:=⟨_,rfl⟩
 obtain⟨sg,WZ⟩:∃sg,sg=XA s [45]:=⟨_,rfl⟩
 have hn:numOf s=if sg then -((wB d:Nat):Int) else(wB d:Nat):=by rw[WZ,hd];rfl
 rw[hn];rw[<-hd] at h1 h2;have hd9:wB d<10 ^ 9:=by
   have:=XG h1 d.length (Nat.le_refl _);rw[List.take_length] at this;exact Nat.lt_of_lt_of_le this (Nat.pow_le_pow_right dE h2.2)
 have ht:∀i,i<=d.length->wB (d.take i)<1000000000:=fun i hi=> Nat.lt_of_lt_of_le (XG h1 i hi) (Nat.pow_le_pow_right (n:=10) dE (Nat.le_trans hi h2.2));have hsl:s.length<=10/\1<=s.length:=by
   cases sg with
   | true => obtain⟨q,rfl⟩:=WE WZ.symm;have:d=q:=by rw[hd];unfold zB;rw[<-WZ];rfl
             subst this;simp only[List.length_cons];omega
   | false => have:d=s:=by rw[hd];unfold zB;rw[<-WZ];rfl
              subst this;omega
 have e0:s[0]? =some (s[0]?.getD 0):=by
   rw[List.getElem?_eq_getElem oM];rfl
 obtain⟨x0,hx0⟩:∃x,x=s[0]?.getD 0:=⟨_,rfl⟩
 rw[<-hx0] at e0;have b0:iA .eql .u8 ((x0.toNat:Nat):Int) 45=some (.bool sg):=by
   cases sg with
   | true=> obtain⟨q,rfl⟩:=WE WZ.symm;cases e0;rfl
   | false=>
     have:d=s:=by rw[hd];unfold zB;rw[<-WZ];rfl
     have h3:OC x0=true:=List.all_eq_true.1 h1 _ (by rw[this];exact List.mem_of_getElem? e0);have h4:=of_decide_eq_true h3;exact IC oM
 have p0:sg=false->iA .eql .u8 ((x0.toNat:Nat):Int) 43=some (.bool false):=fun hf=> by
   subst hf;have:d=s:=by rw[hd];unfold zB;rw[<-WZ];rfl
   have h3:OC x0=true:=List.all_eq_true.1 h1 _ (by rw[this];exact List.mem_of_getElem? e0);have h4:=of_decide_eq_true h3;exact IC oM
 cases sg with
 | false=>
   have jC:d=s:=by rw[hd];unfold zB;rw[<-WZ];rfl
   have p1:=p0 rfl;subst jC;refine .en func295 ntmps295 fun St c cs hK=> ?_;refine fL ?_;refine To.LA rfl dE rfl ?_;refine To.LA rfl dE rfl ?_;refine U41 ?_;refine .e (Or.X6 (E:=en) rfl rfl rfl rfl rfl rfl rfl rfl rfl dE (fun sb cap jj fz=> ?_));refine U4 ?_;refine Tc.db (Tc.qA (σ:= { x:Nat//x<=d.length }) (fun x=> ([(5,bA d),(6,.iz (wB (d.take x.1):Nat)),(47,.sl sb d.length cap),(48,.nt d.length),(49,.nt x.1)],[(sb,true,.cells ⟨UA d++jj⟩ 5 fz)])) (fun x=> d.length-x.1) ?_ ⟨0,Nat.zero_le _⟩);rintro⟨q,hq⟩ ih;dsimp only;by_cases c1:q=d.length
   · clear ih;subst c1;rw[List.take_length];refine o6 ?_;refine .rt hK func295 results295 [_,_] ?_;exact okB
   · have c2:q<d.length:=by omega
     have hx:=List.getElem?_eq_getElem c2;have h3:OC d[q]=true:=List.all_eq_true.1 h1 _ (List.getElem_mem _);have h4:=of_decide_eq_true h3;have vG:=ih ⟨q+1,oM⟩ Ob;clear ih;simp only at vG;rw[List.take_succ_eq_append_getElem c2,XE] at vG;have KB:=ht q oM;generalize wB (d.take q)=z at vG KB ⊢;obtain⟨y,hy⟩:∃y,y=d[q].toNat-48:=⟨_,rfl⟩
     have hy2:d[q].toNat=48+y:=by omega
     rw[<-hy] at vG;have f1:=gV hx jj;rw[hy2] at f1;have u1:=aAm y oM;have g1:iA .gtr .u8 ((y:Nat):Int) 9=some (.bool false):=sG oM;have w1:IntKind.i64.wrap ((y:Nat):Int)=((y:Nat):Int):=wrap64 oM oM;have m1:iA .mul .i64 ((z:Nat):Int) 10=some (.int .i64 ((10*z:Nat):Int)):=by rw[HD oM oM];congr 2;omega
     have a1:iA .add .i64 ((10*z:Nat):Int) ((y:Nat):Int)=some (.int .i64 ((10*z+y:Nat):Int)):=by rw[pB oM oM];congr 2
     refine U42 ?_;exact Tc.db (vG)
 | true=>
   obtain⟨d',hs'⟩:=WE WZ.symm;have jC:d=d':=by rw[hd];unfold zB;rw[<-WZ,hs'];rfl
   subst jC;subst hs';have hl:(45::d:By).length=d.length+1:=List.length_cons;cases e0
   have t1:((45::d:By).drop (1:Int).toNat).take ((((45::d:By).length:Nat):Int).toNat-(1:Int).toNat)=d:=by
     show d.take ((((45::d:By).length:Nat):Int).toNat-1)=d;exact List.take_of_length_le (by rw[Int.toNat_natCast,hl];omega)
   refine .en func295 ntmps295 fun St c cs hK=> ?_;refine fL ?_;refine To.LA rfl dE rfl ?_;refine To.LA rfl dE rfl ?_;refine s6 ?_;refine .x (pA.uL (E:=en) rfl rfl rfl rfl rfl oM (by exact rfl)) ?_;refine ND ?_;refine .x (pA.TQ (E:=en) rfl rfl rfl rfl rfl rfl oM oM oM t1) ?_;refine fL ?_;refine .e (Or.X6 (E:=en) rfl rfl rfl rfl rfl rfl rfl rfl rfl dE (fun sb cap jj fz=> ?_));refine U4 ?_;refine Tc.db (Tc.qA (σ:= { x:Nat//x<=d.length }) (fun x=> ([(5,bA (45::d)),(6,.iz (wB (d.take x.1):Nat)),(47,.sl sb d.length cap),(48,.nt d.length),(49,.nt x.1)],[(sb,true,.cells ⟨UA d++jj⟩ 5 fz)])) (fun x=> d.length-x.1) ?_ ⟨0,Nat.zero_le _⟩);rintro⟨q,hq⟩ ih;dsimp only;by_cases c1:q=d.length
   · clear ih;subst c1;rw[List.take_length];refine ND ?_;refine .x (pA.uL (E:=en) rfl rfl rfl rfl rfl oM (by exact rfl)) ?_;refine U5 ?_;refine .x .ng ?_;refine U8 ?_;refine .rt hK func295 results295 [_,_] ?_;exact okB
   · have c2:q<d.length:=by omega
     have hx:=List.getElem?_eq_getElem c2;have h3:OC d[q]=true:=List.all_eq_true.1 h1 _ (List.getElem_mem _);have h4:=of_decide_eq_true h3;have vG:=ih ⟨q+1,oM⟩ Ob;clear ih;simp only at vG;rw[List.take_succ_eq_append_getElem c2,XE] at vG;have KB:=ht q oM;generalize wB (d.take q)=z at vG KB ⊢;obtain⟨y,hy⟩:∃y,y=d[q].toNat-48:=⟨_,rfl⟩
     have hy2:d[q].toNat=48+y:=by omega
     rw[<-hy] at vG;have f1:=gV hx jj;rw[hy2] at f1;have u1:=aAm y oM;have g1:iA .gtr .u8 ((y:Nat):Int) 9=some (.bool false):=sG oM;have w1:IntKind.i64.wrap ((y:Nat):Int)=((y:Nat):Int):=wrap64 oM oM;have m1:iA .mul .i64 ((z:Nat):Int) 10=some (.int .i64 ((10*z:Nat):Int)):=by rw[HD oM oM];congr 2;omega
     have a1:iA .add .i64 ((10*z:Nat):Int) ((y:Nat):Int)=some (.int .i64 ((10*z+y:Nat):Int)):=by rw[pB oM oM];congr 2
     refine U42 ?_;exact Tc.db (vG)
theorem aAz(s:By)(h1:(zB 45 s).all OC=true)(h2:1<=(zB 45 s).length/\(zB 45 s).length<=9):fA M 245 #[bA s] H (Ib H (.tuple ⟨[.iz (numOf s),.nilIface]⟩)):=by
 refine .en func245 ntmps245 fun St c cs hK=> ?_;refine U8 ?_;refine .cl (fun H hs=> aCn M H s h1 h2) ?_;refine iD ?_;refine .x (pA.aFP rfl rfl kR) ?_;refine U9 ?_;refine .rt hK func245 results245 [_,_] ?_;exact okB
end
def IF(n:Nat):By:=if n<10 then [UInt8.ofNat (48+n)] else [UInt8.ofNat (48+n/10),UInt8.ofNat (48+n%10)]
def vH(n:Int):By:=IF n.toNat
def aF(a b:Int):By:=if a=b then vH a else vH a++58::vH b
theorem DQ:∀n,n<100->PA (IF n)=true/\numOf (IF n)=(n:Nat)/\(58 ∉ IF n)/\(59 ∉ IF n)/\(10 ∉ IF n)/\(IF n).length<=2/\IF n≠ []:=by decide +kernel
def qB(s:By):Bool:=
 match mA 58 s with
 | [p]=> PA p
 | p::_=> PA p&&PA (s.drop (p.length+1))&&numOf p !=numOf (s.drop (p.length+1))
 | []=> false
def vE(s:By):Int:=numOf ((mA 58 s).headD [])
def EE(s:By):Int:=if 58∈s then numOf (s.drop (((mA 58 s).headD []).length+1)) else vE s
theorem iN {s:By}(h:(58:UInt8) ∉ s):qB s=PA s/\vE s=numOf s/\EE s=numOf s:=by
 unfold qB EE vE;rw[tC 58 s h,if_neg h];exact⟨rfl,rfl,rfl⟩
theorem iL {p q:By}(h:(58:UInt8) ∉ p):qB (p++58::q)=(PA p&&PA q&&numOf p !=numOf q)/\vE (p++58::q)=numOf p/\EE (p++58::q)=numOf q:=by
 have e:(p++58::q).drop (p.length+1)=q:=by
  rw[List.drop_append,List.drop_of_length_le oM,List.nil_append,Nat.add_sub_cancel_left,List.drop_succ_cons,List.drop_zero]
 have hm:(58:UInt8)∈p++58::q:=by simp
 have hc:=xD 58 q p h;unfold EE vE;rw[hc,if_pos hm];refine⟨?_,rfl,by show numOf ((p++58::q).drop (p.length+1))=_;rw[e]⟩;unfold qB;rw[hc];cases hq:mA 58 q with
 | nil=> exact(kF 58 q hq).elim
 | cons a l=>
  show(PA p&&PA ((p++58::q).drop (p.length+1))&&numOf p !=numOf ((p++58::q).drop (p.length+1)))=_;rw[e]
section
variable(M:Md prog)(H:View)
theorem kG(s:By)(hm:s.length<=1000000)(h:PA s=true):fA M 179 #[bA s] H (Ib H (.int .i64 (numOf s))):=by
 unfold PA at h;simp only[Bool.and_eq_true,Bool.or_eq_true] at h;obtain⟨⟨h1,h2⟩,h3⟩:=h;have h1:=of_decide_eq_true h1;have dQ:=fun H=> bO M H s 45 hm;have uG:=fun H=> aAz M H s h2 h1;obtain⟨sg,WZ⟩:∃sg,sg=XA s [45]:=⟨_,rfl⟩
 generalize zB 45 s=d at h1 h2 h3 dQ uG;rw[<-WZ] at h3 dQ;have e0:d[0]? =some (d[0]?.getD 0):=by
  rw[List.getElem?_eq_getElem oM];rfl
 generalize d[0]?.getD 0=x0 at e0 h3;have e17:RL.LB .eql (qJ d) []=some (.bool true):=by
  show some (Value.bool (qJ d== []))=_;rw[JK,h2]
 have htr:=fun H=> lX M H d oM;cases hx:x0 !=48 with
 | true=>
  have n1:iA .neq .u8 ((x0.toNat:Nat):Int) 48=some (.bool true):=BI (fun e=> by
   have:x0=48:=UInt8.toNat_inj.1 (by show x0.toNat=48;omega);rw[this] at hx;cases hx)
  refine .en func179 ntmps179 fun St c cs hK=> ?_;refine U7 ?_;refine .cl (fun H hs=> dQ H) ?_;refine iD ?_;refine .cl (fun H hs=> uA M H (d.length:Nat) 1 9 true (decide_eq_true oM)) ?_;refine U2 ?_;refine .cl (fun H hs=> htr H) ?_;refine ND ?_;refine To.LA rfl dE rfl ?_;refine To.LA rfl dE rfl ?_;refine U3 ?_;refine .cl (fun H hs=> wC M H) ?_;refine U4 ?_;refine .cl (fun H hs=> uG H) ?_;refine ND ?_;refine .rt hK func179 results179 [_] ?_;exact okB
 | false=>
  rw[hx] at h3;have h4:x0=48:=by simpa using hx
  subst h4;have h5:d.length=1/\sg=false:=by simpa using h3
  obtain⟨h5,rfl⟩:=h5;have n2:iA .eql .i64 ((d.length:Nat):Int) 1=some (.bool true):=wE oM;refine .en func179 ntmps179 fun St c cs hK=> ?_;refine U7 ?_;refine .cl (fun H hs=> dQ H) ?_;refine iD ?_;refine .cl (fun H hs=> uA M H (d.length:Nat) 1 9 true (decide_eq_true oM)) ?_;refine U2 ?_;refine .cl (fun H hs=> htr H) ?_;refine LI ?_;refine .cl (fun H hs=> wC M H) ?_;refine U4 ?_;refine .cl (fun H hs=> uG H) ?_;refine ND ?_;refine .rt hK func179 results179 [_] ?_;exact okB
theorem EP(s:By)(hm:s.length<=1000000)(h:qB s=true):fA M 181 #[bA s] H (Ib H (SC (vE s) (EE s))):=by
 rcases ZH 58 s with h0|⟨p,q,rfl,h0⟩
 ·obtain⟨b1,b2,b3⟩:=iN h0;rw[b1] at h;rw[b2,b3];refine .en func181 ntmps181 fun St c cs hK=> ?_;refine U2 ?_;refine .al fun b2=> ?_;refine U4 ?_;refine .cl (fun H hs=> F5 M H s 58 h0) ?_;refine ND ?_;refine .cl (fun H hs=> kG M H s hm h) ?_;refine .cl (fun H hs=> vS M H (numOf s)) ?_;refine .al fun b6=> ?_;refine MF ?_;refine .rt hK func181 results181 [_] ?_;exact okB
 ·obtain⟨b1,b2,b3⟩:=iL (q:=q) h0;rw[b1] at h;rw[b2,b3];simp only[Bool.and_eq_true] at h;obtain⟨⟨h1,h2⟩,h3⟩:=h;have h4:numOf p≠numOf q:=by simpa using h3
  have hl:(p++58::q).length=p.length+1+q.length:=by simp;omega
  have n1:iA .neq .i64 (numOf p) (numOf q)=some (.bool true):=BI h4;have c1:=fun H=> kG M H p oM h1;have c2:=fun H=> kG M H q oM h2;generalize numOf p=x at n1 c1;generalize numOf q=z at n1 c2;refine .en func181 ntmps181 fun St c cs hK=> ?_;refine U2 ?_;refine .al fun b2=> ?_;refine U4 ?_;refine .cl (fun H hs=> SS M H p q 58 h0 oM) ?_;refine ND ?_;refine .cl (fun H hs=> c1 H) ?_;refine .cl (fun H hs=> vS M H x) ?_;refine .al fun b6=> ?_;refine ND ?_;refine .cl (fun H hs=> c2 H) ?_;refine U9 ?_;refine .cl (fun H hs=> wC M H) ?_;refine U6 ?_;refine .rt hK func181 results181 [_] ?_;exact okB
def dd:By:= [48,48,48,49,48,50,48,51,48,52,48,53,48,54,48,55,48,56,48,57,49,48,49,49,49,50,49,51,49,52,49,53,49,54,49,55,49,56,49,57,50,48,50,49,50,50,50,51,50,52,50,53,50,54,50,55,50,56,50,57,51,48,51,49,51,50,51,51,51,52,51,53,51,54,51,55,51,56,51,57,52,48,52,49,52,50,52,51,52,52,52,53,52,54,52,55,52,56,52,57,53,48,53,49,53,50,53,51,53,52,53,53,53,54,53,55,53,56,53,57,54,48,54,49,54,50,54,51,54,52,54,53,54,54,54,55,54,56,54,57,55,48,55,49,55,50,55,51,55,52,55,53,55,54,55,55,55,56,55,57,56,48,56,49,56,50,56,51,56,52,56,53,56,54,56,55,56,56,56,57,57,48,57,49,57,50,57,51,57,52,57,53,57,54,57,55,57,56,57,57]
theorem aFh:∀n,n<100->10<=n->(dd.drop (n*2)).take 2=IF n:=by decide +kernel
theorem u9:∀n,n<10-> [RI n]=IF n:=by decide
theorem R9(n:Nat)(h:n<100)(h2:10<=n):fA M 286 #[.nt n] H (Ib H (bA (IF n))):=by
 have hl:((dd.length:Nat):Int)=200:=rfl;have e:(dd.drop (((n:Nat):Int)*2).toNat).take (((((n:Nat):Int)*2)+2).toNat-(((n:Nat):Int)*2).toNat)=IF n:=by
  rw[<-aFh n h h2,show(((n:Nat):Int)*2).toNat=n*2 by omega,show((((n:Nat):Int)*2)+2).toNat-n*2=2 by omega]
 refine .en func286 ntmps286 fun St c cs hK=> ?_;refine AJ ?_;refine .i ?_ (z:=HD oM oM);refine U ?_;refine .i ?_ (z:=HD oM oM);refine U ?_;refine .x (pA.TQ (E:=en) (l:=dd) rfl rfl rfl rfl rfl rfl oM oM oM e) ?_;refine U2 ?_;refine .rt hK func286 results286 [_] ?_;exact okB
theorem S9(n:Nat)(h:n<100):fA M 286 #[.nt n] H (Ib H (bA (IF n))):=by
 by_cases h2:10<=n
 ·exact R9 M H n h h2
 ·have:=H0 M H n oM;rw[u9 n oM] at this;exact this
theorem V0(n:Nat)(h:n<100):fA M 240 #[.nt n,.iz 10] H (Ib H (bA (IF n))):=by
 refine .en func240 ntmps240 fun St c cs hK=> ?_;refine U25 ?_;refine .cl (fun H hs=> S9 M H n h) ?_;refine U2 ?_;refine .rt hK func240 results240 [_] ?_;exact okB
theorem aAI(n:Nat)(h:n<100):fA M 173 #[.nt n] H (Ib H (bA (IF n))):=by
 refine .en func173 ntmps173 fun St c cs hK=> ?_;refine U7 ?_;refine .cl (fun H hs=> V0 M H n h) ?_;refine U2 ?_;refine .rt hK func173 results173 [_] ?_;exact okB
theorem OL(z:Int)(h:0<=z/\z<100):fA M 93 #[.iz z] H (Ib H (bA (vH z))):=by
 obtain⟨n,rfl⟩:=Int.eq_ofNat_of_zero_le h.1;refine .en func93 ntmps93 fun St c cs hK=> ?_;refine U7 ?_;refine .cl (fun H hs=> aAI M H n oM) ?_;refine U2 ?_;refine .rt hK func93 results93 [_] ?_;exact okB
theorem PE {z:Int}(h:0<=z/\z<100):(vH z).length<=2:=(DQ z.toNat oM).2.2.2.2.2.1
theorem FP(a b:Int)(ha:0<=a/\a<100)(hb:0<=b/\b<100):fA M 94 #[SC a b] H (Ib H (bA (aF a b))):=by
 have l1:=PE ha;have l2:=PE hb;by_cases e:a=b
 ·subst e;have hT:aF a a=vH a:=if_pos rfl;rw[hT];refine .en func94 ntmps94 fun St c cs hK=> ?_;refine U2 ?_;refine .bo fun b1=> ?_;refine LI ?_;refine .cl (fun H hs=> OL M H a ha) ?_;refine U2 ?_;refine .rt hK func94 results94 [_] ?_;exact okB
 ·have hT:aF a b=vH a++[58]++vH b:=by
   unfold aF;rw[if_neg e,List.append_assoc];rfl
  rw[hT];have c1:=fun H=> OL M H a ha;have c2:=fun H=> OL M H b hb;generalize vH a=p at l1 c1;generalize vH b=q at l2 c2;have s1:RL.LB .add p [58]=some (bA (p++[58])):=UB (by simp only[List.length_singleton];omega);have s2:RL.LB .add (p++[58]) q=some (bA (p++[58]++q)):=UB (by simp only[List.length_append,List.length_singleton];omega);refine .en func94 ntmps94 fun St c cs hK=> ?_;refine U2 ?_;refine .bo fun b1=> ?_;refine MF ?_;refine Tc.dr [] [] mixed rfl ?_;refine V2 0 ?_;refine .z 2 rfl (pA.tk fun H hs=> c1 H) ?_;refine V3 3 ?_;refine .z 6 rfl (pA.tk fun H hs=> c2 H) ?_;refine V2 7 ?_;refine .dn ?_;refine .rt hK func94 results94 [_] ?_;exact okB
end
end Go.Proofs.YtldmfjcgjdchcaaGreatDoor
namespace Go.RL
open Go.Conc
section
variable {P:Program}{E:Env P}{M:Md P}{n:Nat}{H₀:View}{R:Rg}{L L':Bl}{K:Rg->Bl->Prop}{o:Oper}{d:Nat}{v:Value}
theorem pA.E4 {cl:Go.Call}{x:Operand}{t:TypeId}{a:Addr}{m c:Nat}(lA:o.op=.call cl)(iB:cl.callee=.builtin .unsafeSliceData)(uG:cl.argTypes=#[t])(sI:cl.args=#[x])(hx:JA R x=some (.slice (some a) m c))(hc:Nat.beq c 0=false):
  pA P n H₀ R L o (.pointer (some a)):=fun H tmps _ hr=> by
 unfold execOp;rw[lA];simp only[resolve,iB,uG,sI];have hm:Array.map (OB tmps) #[x]=#[.slice (some a) m c]:=by simp[hr.ev hx]
 rw[hm];refine aA (Builtin.unsafeSliceData_ #[t] o.type #[.slice (some a) m c]) _ ?_;have h0:c≠0:=Nat.ne_of_beq_eq_false hc;show HA P (if c≠0 then Sem.pure (Value.pointer (some a)) else _) H _;rw[if_pos h0];exact⟨rfl,rfl⟩
theorem bL {H:View}{f:Bool}{e:TypeId}{fz:Nat×Nat}{l:List Value}(blk:Nat)(hb:H blk=some (f,.cells ⟨l⟩ e fz)):∀(s a:By) (off:Nat) {Q:ByteArray->View->Prop},(∀i x,s[i]? =some x->l[off+i]? =some (.int .u8 (x.toNat:Nat)))->Q ⟨⟨a++s⟩⟩ H->HA P (loadBytes ⟨blk,off,none⟩ ⟨⟨a⟩⟩ s.length) H Q
 | [],a,off,Q,_,h=> by
  rw[List.append_nil] at h;exact h
 | x ::s,a,off,Q,hl,h=> by
  have h0:=hl 0 x rfl;have ih:=bL blk hb s (a++[x]) (off+1) (Q:=Q) (fun i y hy=> by
   have:=hl (i+1) y hy;rw[show off+1+i=off+(i+1) by omega];exact this) (by rw[List.append_assoc];exact h)
  refine⟨rfl,rfl,f,⟨l⟩,e,fz,.int .u8 (x.toNat:Nat),hb,?_,?_⟩
  ·simpa using h0
  ·have e1:(ByteArray.mk ⟨a⟩).push ((x.toNat:Nat):Int).toNat.toUInt8=ByteArray.mk ⟨a++[x]⟩:=by
    rw[Int.toNat_natCast,Nat.toUInt8,UInt8.ofNat_toNat,HP]
   show HA P (loadBytes (Addr.add ⟨blk,off,none⟩ 1) ((ByteArray.mk ⟨a⟩).push ((x.toNat:Nat):Int).toNat.toUInt8) s.length) H Q;rw[e1];exact ih
theorem Or.M4(j:Nat){cl:Go.Call}{x y:Operand}{t u e eb blk:Nat}{s:List UInt8}{jj:List Value}(lA:o.op=.call cl)(iB:cl.callee=.builtin .unsafeString)(uG:cl.argTypes=#[t,u])(sI:cl.args=#[x,y])
  (hx:JA R x=some (.pointer (some ⟨blk,0,none⟩))) (hy:JA R y=some (.int .i64 (s.length:Nat))) (ht:P.underlying t=some (.pointer e)) (FJ:s≠ []) (BN:s.length<=1000000000)
  (hL:L[j]? =some (blk,true,.cells ⟨UA s++jj⟩ eb (0,0))) (IV:liesAt P P.depth eb ((UA s++jj).length/P.cellsOf eb) 0 e s.length=true) (hd:o.dst=some d) (hn:d<n)
  (hk:K ((d,bA s)::R) (L.set j (blk,true,.cells ⟨UA s++jj⟩ eb (0,s.length)))):Or M n H₀ R L o K:=
 .val hd hn fun H tmps aC hr=> by
  unfold execOp;rw[lA];simp only[resolve,iB,uG,sI];have VX:Array.map (OB tmps) #[x,y]=#[.pointer (some ⟨blk,0,none⟩),.int .i64 (s.length:Nat)]:=by simp[hr.ev hx,hr.ev hy]
  rw[VX];have hb:=aC.get hL;have uI:0<s.length:=List.length_pos_iff.2 FJ;have h1:¬((s.length:Nat):Int)<0:=by omega
  have h2:¬((s.length:Nat):Int)>IntKind.i64.max:=by
   have:IntKind.i64.max=9223372036854775807:=by decide
   omega
  have h3:¬((s.length:Nat):Int)=0:=by omega
  refine aA (Builtin.unsafeString_ #[t,u] o.type #[.pointer (some ⟨blk,0,none⟩),.int .i64 (s.length:Nat)]) _ ?_;have hz1:∀z:Int,(((s.length:Nat):Int)=z)->¬z<0/\¬z>IntKind.i64.max/\¬z=0/\z.toNat=s.length:=fun z hz=> by subst hz;exact⟨h1,h2,h3,Int.toNat_natCast _⟩
  generalize TV:((s.length:Nat):Int)=z;obtain⟨z1,z2,z3,z4⟩:=hz1 z TV
  conv=> arg 2;whnf
  rw[show(IntKind.i64,z).snd.decLt 0=isFalse z1 from Subsingleton.elim _ _]
  conv=> arg 2;whnf
  rw[show IntKind.i64.max.decLt (IntKind.i64,z).snd=isFalse z2 from Subsingleton.elim _ _]
  conv=> arg 2;whnf
  rw[show(IntKind.i64,z).snd.instDecidableEq 0=isFalse z3 from Subsingleton.elim _ _];refine aA (elemOf t) _ (aA (underlying t) _ (gA ht ?_));refine aA (variablesAt ⟨blk,0,none⟩ e z.toNat) _ ?_;rw[z4];refine⟨true,_,_,_,hb,?_⟩;show HA P (if liesAt P P.depth eb ((UA s++jj).length/P.cellsOf eb) 0 e s.length=true then _ else _) H _;rw[if_pos IV];refine aA (loadBytes ⟨blk,0,none⟩ .empty s.length) _ ?_;refine bL blk hb s [] 0 (fun i x hx=> ?_) ?_
  ·rw[Nat.zero_add,List.getElem?_append_left (by rw[WG];exact(List.getElem?_eq_some_iff.1 hx).1)];unfold UA;rw[List.getElem?_map,hx];rfl
  ·refine⟨oM,_,_,_,hb,?_⟩;refine⟨_,rfl,_,aC.set hL _,?_⟩;have e1:(if((0:Nat),(0:Nat)).1==((0:Nat),(0:Nat)).2 then(0,0+s.length) else(min ((0:Nat),(0:Nat)).1 0,max ((0:Nat),(0:Nat)).2 (0+s.length)))=(0,s.length):=by simp
   show K ((d,bA s)::R) (L.set j (blk,true,.cells ⟨UA s++jj⟩ eb (if((0:Nat),(0:Nat)).1==((0:Nat),(0:Nat)).2 then(0,0+s.length) else(min ((0:Nat),(0:Nat)).1 0,max ((0:Nat),(0:Nat)).2 (0+s.length)))));rw[e1];exact hk
end
end Go.RL
namespace Go.Proofs.YtldmfjcgjdchcaaGreatDoor
open Go.RL Go.Proofs.Tryz
set_option maxRecDepth 10000
theorem C4(fits:TypeId->Bool)(hf:fits 5=true)(k count n:Nat)(h:n<=count):rowAt prog fits (k+1) 5 count 0 n=true:=by
 have hc:prog.cellsOf 5=1:=by kernel_rfl
 unfold rowAt;simp only[hc];simp[h,hf]
theorem iY(count n:Nat)(h:n<=count):liesAt prog prog.depth 5 (count/prog.cellsOf 5) 0 5 n=true:=by
 have hc:prog.cellsOf 5=1:=by kernel_rfl
 obtain⟨k,hk⟩:∃k,prog.depth=k+1:=⟨prog.depth-1,by
  have:1<=prog.depth:=Nat.le_of_ble_eq_true kR;omega⟩
 have hf:sameLayout prog prog.depth 5 5=true:=by kernel_rfl
 have h1:=C4 (fun t=> sameLayout prog prog.depth t 5) hf k count n h;rw[hc,Nat.div_one];show liesAt prog prog.depth 5 count 0 5 n=true;rw[hk] at h1 ⊢;show(rowAt prog (fun t=> sameLayout prog prog.depth t 5) prog.depth 5 count 0 n||_)=true;rw[hk,h1];rfl
theorem F9:prog.underlying 275=some (.pointer 5):=by kernel_rfl
end Go.Proofs.YtldmfjcgjdchcaaGreatDoor
namespace Go.RL
section
variable {P:Program}{E:Env P}{M:Md P}{n:Nat}{H₀:View}{R:Rg}{L:Bl}{K:Rg->Bl->Prop}{o:Oper}{d:Nat}
theorem j9(X B Y:Bl):((X++Y)++B).Perm (X++(B++Y)):=by
 rw[List.append_assoc];exact(List.Perm.refl X).append List.perm_append_comm
theorem Or.BP(k:Nat)(T:Bl->Bl){Y:Bl}(hT:∀B,(T B).Perm (Y++B)){cl:Go.Call}{x y:Operand}{t xt e:TypeId}{sz m:Nat}{yv:Value}{new:List Value}{g:Gl e sz}{r re rx:FA}{ex:TypeId}(lA:o.op=.call cl)(iB:cl.callee=.builtin .append)(uG:cl.argTypes=#[t,xt])(sI:cl.args=#[x,y])
  (hx:JA R x=some g.val) (hy:JA R y=some yv) (ht:E.ty t=some r) (jC:r.ds=.slice e) (BD:E.ty e=some re) (yE:re.size=sz) (SV:Nat.beq re.zero.cells.toList.length sz=true) (RV:E.ty xt=some rx) (hex:rx.ds=.slice ex) (LX:Nat.ble re.bytes 1000=true)
  (hL:L.drop k=T g.bl) (eH:∀H,jA H₀ L H->RA H sz yv m new) (hs:new.all single=true) (hm:g.n+m<=1000000000) (hd:o.dst=some d) (hn:d<n)
  (hk:∀g':Gl e sz,g'.n=g.n+m->g'.l=g.l++new->K ((d,g'.val)::R) (L.take k++T g'.bl)):Or M n H₀ R L o K:=
 .val hd hn fun H tmps aC hr=> by
  have hLe:L=L.take k++T g.bl:=by rw[<-hL,List.take_append_drop]
  unfold execOp;rw[lA];simp only[resolve,iB,uG,sI];have VX:Array.map (OB tmps) #[x,y]=#[g.val,yv]:=by simp[hr.ev hx,hr.ev hy]
  rw[VX];have hp:∀B,((L.take k++Y)++B).Perm (L.take k++T B):=fun B=> by rw[List.append_assoc];exact(List.Perm.refl _).append (hT B).symm
  have ZO:=aC;rw[hLe] at ZO;have pM:jA H₀ ((L.take k++Y)++g.bl) H:=ZO.perm (hp g.bl);refine aA (Builtin.append_ #[t,xt] o.type #[g.val,yv]) _ ?_;refine CL ht jC BD yE (Nat.eq_of_beq_eq_true SV) ⟨rx,ex,RV,hex⟩ (Nat.le_of_ble_eq_true LX) hm (fun z hz=> pM.at_ z (by simp[hz])) (eH H aC) hs fun g' H' h1 h2 h3 h4 h5=> ?_;exact⟨_,rfl,_,(pM.grown h3 h4 h5).perm (hp g'.bl).symm,hk g' h1 h2⟩
theorem aC7(Y:Bl):∀B:Bl,(B++Y).Perm (Y++B):=fun _=> List.perm_append_comm
end
end Go.RL
namespace Go.RL
open Go.Conc
section
variable {P:Program}{E:Env P}{M:Md P}{n:Nat}{H₀:View}{R:Rg}{L L':Bl}{K:Rg->Bl->Prop}{o:Oper}{d:Nat}{v:Value}
theorem uU {t xt e:TypeId}{rt:TypeId}{r re:FA}{sz m:Nat}{y:Value}{new:List Value}{g:Gl e sz}{H:View}{Q:Value->View->Prop}(ht:E.ty t=some r)(jC:r.ds=.slice e)(BD:E.ty e=some re)(yE:re.size=sz)(SV:re.zero.cells.toList.length=sz)
  (RV:∃rx,E.ty xt=some rx/\rx.ds=.str) (LX:re.bytes<=1000) (hn:g.n+m<=1000000000) (hb:∀x∈g.bl,H x.1=some x.2) (hyl:∀Q:Nat->View->Prop,Q m H->HA P (Builtin.lenOf y) H Q) (hyf:∀Q:Array Value->View->Prop,Q ⟨new⟩ H->HA P (Builtin.firstCells sz m y) H Q) (hyn:new.length=m*sz) (hs:new.all single=true)
  (hq:∀(g':Gl e sz) (H':View),g'.n=g.n+m->g'.l=g.l++new->(∀b,g'.blk=some b->((g.blk=some b/\g'.cap=g.cap)\/H b=none))->(∀c,(∀b,g'.blk=some b->b≠c)->H' c=H c)->(∀x∈g'.bl,H' x.1=some x.2)->Q g'.val H'):
  HA P (Builtin.append_ #[t,xt] rt #[g.val,y]) H Q:=by
 obtain⟨rx,y8,QV⟩:=RV;have hold:=g.src hb;obtain⟨a,ET⟩:∃a,g.val=.slice a g.n g.cap:=⟨_,rfl⟩
 show HA P ((underlying t).bind fun _=> _) H Q;refine aA (underlying t) _ (gA (UC ((E.ok _ _ ht).ds.trans jC)) ?_);rw[ET];show HA P ((sizeOf e).bind fun _=> _) H Q;refine aA (sizeOf e) _ (ZA (E.ok _ _ BD).size ?_);refine aA (underlying xt) _ (gA (DF ((E.ok _ _ y8).ds.trans QV)) ?_);refine aA (Builtin.lenOf y) _ (hyl _ ?_);simp only[yE];by_cases BC:g.n+m<=g.cap
 ·rw[if_pos BC];show HA P ((Builtin.firstCells sz m y).bind fun _=> _) H Q;refine aA _ _ (hyf _ ?_);cases tI:g.blk with
  | none=>
   have h1:=g.h0 tI;have e1:a=none:=by
    unfold Gl.val at ET;rw[tI] at ET
    injection ET with e1
    exact e1.symm
   subst e1;have hm:m=0:=by omega
   have WX:new= []:=List.eq_nil_of_length_eq_zero (by rw[hyn,hm];simp);have:=hq g H oM (by rw[WX];simp) (fun b hb=> .inl ⟨hb,rfl⟩) (fun c _=> rfl) hb;rw[ET] at this;show Q (.slice none (g.n+m) g.cap) H;rw[hm];exact this
  | some b=>
   have e1:a=some ⟨b,0,none⟩:=by
    unfold Gl.val at ET;rw[tI] at ET;cases ET
    rfl
   subst e1;have hHb:H b=some (true,.cells ⟨g.l++g.jB⟩ e (0,0)):=by
    have:=hb (b,true,.cells ⟨g.l++g.jB⟩ e (0,0)) (by unfold Gl.bl;rw[tI];simp);exact this
   show HA P ((storeCells (Addr.add ⟨b,0,none⟩ (g.n*sz)) new).bind fun _=> Sem.pure (.slice (some ⟨b,0,none⟩) (g.n+m) g.cap)) H Q;refine aA _ _ ?_;rw[QF _ _ rfl];have hlen:new.length=m*sz:=hyn;have rR:m*sz<=g.jB.length:=by rw[g.hj];exact Nat.mul_le_mul_right _ oM
   refine rD b _ new 0 (g.l++g.jB) hHb (by simp only[List.length_append,g.hl];omega) hs fun H' jS=> ?_;have aC:wH (g.l++g.jB) (0+g.n*sz+0) new=(g.l++new)++g.jB.drop new.length:=by
    unfold wH;simp only[Nat.zero_add,Nat.add_zero,<-g.hl,List.take_left',List.drop_append];simp
   let g':Gl e sz:=⟨some b,g.n+m,g.cap,g.l++new,g.jB.drop new.length,by simp[g.hl,hlen,Nat.add_mul],BC,by rw[List.length_drop,g.hj,hlen,<-Nat.sub_mul];congr 1;omega,fun h=> by cases h⟩
   have key:∀x∈g'.bl,H' x.1=some x.2:=by
    intro x hx;simp only[g',Gl.bl,List.mem_singleton] at hx;subst hx;show H' b=some (true,.cells ⟨(g.l++new)++g.jB.drop new.length⟩ e (0,0));rw[jS];split
    ·rename_i iG
     subst iG;simpa using hHb
    ·rw[View.IB,aC]
   exact hq g' H' rfl rfl (fun b' qO=> .inl ⟨by cases qO;exact tI,rfl⟩) (fun c hc=> by
    rw[jS];split
    ·rfl
    ·rw[View.MA];intro e;exact hc b rfl e.symm) key
 ·rw[if_neg BC];have UI:=(E.ok _ _ BD).bytes;cases hi:P.info? e with
  | none=> rw[hi] at UI;cases UI
  | some i=>
   rw[hi] at UI;simp only[Option.map_some,Option.some.injEq] at UI;have SX:i.bytes<=1000:=by omega
   have mM:IntKind.i64.max=9223372036854775807:=by decide
   show HA P ((typeInfo e).bind fun _=> _) H Q;refine aA (typeInfo e) _ (nC hi ?_);rw[if_neg (by rw[mM];omega)];show HA P ((typeInfo e).bind fun _=> _) H Q;refine aA (typeInfo e) _ (nC hi ?_);rw[if_neg]
   ·show HA P ((choose _).bind fun newCap=> _) H Q;refine aA (choose _) _ ?_;intro tt;rw[if_neg (by simp[Question.forced])];generalize hnc:(Question.appendCap (g.n+m) g.cap e).cut tt=newCap;have AU:g.n+m<=newCap:=by rw[<-hnc];simp only[Question.cut];omega
    show HA P ((typeInfo e).bind fun _=> _) H Q;refine aA (typeInfo e) _ (nC hi ?_);show HA P ((askRoom (newCap*i.bytes)).bind fun _=> _) H Q;refine aA _ _ ?_;have m8:∀Q':Unit->View->Prop,Q' () H->HA P (askRoom (newCap*i.bytes)) H Q':=by
     intro Q' h;unfold askRoom;split
     ·exact⟨rfl,h⟩
     ·exact h
    refine m8 _ ?_;show HA P ((Builtin.firstCells sz g.n (.slice a g.n g.cap)).bind fun _=> _) H Q;rw[<-ET];refine aA _ _ (cE hold ?_);show HA P ((Builtin.firstCells sz m y).bind fun _=> _) H Q;refine aA _ _ (hyf _ ?_);show HA P ((zeroValue e).bind fun _=> _) H Q;refine aA (zeroValue e) _ (oC (E.ok _ _ BD).zero ?_);rw[eJ];intro blk RX;have TV:re.zero.cells.size=sz:=by rw[<-Array.length_toList];exact SV
    let g':Gl e sz:=⟨some blk,g.n+m,newCap,g.l++new,PC re.zero.cells.toList ((newCap-(g.n+m))*re.zero.cells.size),by simp[g.hl,hyn,Nat.add_mul],AU,by rw[LO,TV],fun h=> by cases h⟩
    exact hq g' _ rfl rfl (fun b' qO=> .inr (by cases qO;exact RX)) (fun c hc=> by
     rw[View.MA];intro e;exact hc blk rfl e.symm) (fun x hx=> by
     simp only[g',Gl.bl,List.mem_singleton] at hx;subst hx;rw[View.IB];simp)
   ·have h3 : Builtin.nextslicecap (g.n+m) g.cap<=4*1000000000:=by
     unfold Builtin.nextslicecap;split
     ·omega
     ·split
      ·omega
      ·have gb:∀(rounds c:Nat),c<=2*(g.n+m)+1000->Builtin.growBy (g.n+m) rounds c<=2*(g.n+m)+1000:=by
        intro rounds;induction rounds with
        | zero=> exact fun c hc=> hc
        | succ rounds ih=>
         intro c hc;unfold Builtin.growBy;split
         ·exact hc
         ·exact ih _ oM
       have:=gb 4 g.cap oM;omega
    have h4:Builtin.nextslicecap (g.n+m) g.cap*i.bytes<=4*1000000000*1000:=Nat.mul_le_mul h3 SX;omega
theorem MW {t xt e:TypeId}{rt:TypeId}{r re:FA}{sz m:Nat}{y:Value}{new:List Value}{g:Gl e sz}{H:View}{Q:Value->View->Prop}(ht:E.ty t=some r)(jC:r.ds=.slice e)(BD:E.ty e=some re)(yE:re.size=sz)(SV:re.zero.cells.toList.length=sz)
  (RV:∃rx,E.ty xt=some rx/\rx.ds=.str) (LX:re.bytes<=1000) (hn:g.n+m<=1000000000) (hb:∀x∈g.bl,H x.1=some x.2) (hyl:∀Q:Nat->View->Prop,Q m H->HA P (Builtin.lenOf y) H Q) (hyf:∀Q:Array Value->View->Prop,Q ⟨new⟩ H->HA P (Builtin.firstCells sz m y) H Q) (hyn:new.length=m*sz) (hs:new.all single=true)
  (hq:∀(g':Gl e sz) (H':View),g'.n=g.n+m->g'.l=g.l++new->(∀b,g'.blk=some b->(g.blk=some b\/H b=none))->(∀c,(∀b,g'.blk=some b->b≠c)->H' c=H c)->(∀x∈g'.bl,H' x.1=some x.2)->Q g'.val H'):
  HA P (Builtin.append_ #[t,xt] rt #[g.val,y]) H Q:=
 uU ht jC BD yE SV RV LX hn hb hyl hyf hyn hs fun g' H' h1 h2 h3 h4 h5=> hq g' H' h1 h2 (fun b hb=> (h3 b hb).imp And.left id) h4 h5
theorem Or.aAX(k:Nat)(T:Bl->Bl){Y:Bl}(hT:∀B,(T B).Perm (Y++B)){cl:Go.Call}{x y:Operand}{t xt e:TypeId}{s:List UInt8}{g:Gl e 1}{r re rx:FA}(lA:o.op=.call cl)(iB:cl.callee=.builtin .append)(uG:cl.argTypes=#[t,xt])(sI:cl.args=#[x,y])
  (hx:JA R x=some g.val) (hy:JA R y=some (bA s)) (ht:E.ty t=some r) (jC:r.ds=.slice e) (BD:E.ty e=some re) (yE:re.size=1) (SV:Nat.beq re.zero.cells.toList.length 1=true) (RV:E.ty xt=some rx) (hex:rx.ds=.str) (LX:Nat.ble re.bytes 1000=true)
  (hL:L.drop k=T g.bl) (hm:g.n+s.length<=1000000000) (hd:o.dst=some d) (hn:d<n)
  (hk:∀g':Gl e 1,g'.n=g.n+s.length->g'.l=g.l++UA s->K ((d,g'.val)::R) (L.take k++T g'.bl)):Or M n H₀ R L o K:=
 .val hd hn fun H tmps aC hr=> by
  have hLe:L=L.take k++T g.bl:=by rw[<-hL,List.take_append_drop]
  unfold execOp;rw[lA];simp only[resolve,iB,uG,sI];have VX:Array.map (OB tmps) #[x,y]=#[g.val,bA s]:=by simp[hr.ev hx,hr.ev hy]
  rw[VX];have hp:∀B,((L.take k++Y)++B).Perm (L.take k++T B):=fun B=> by rw[List.append_assoc];exact(List.Perm.refl _).append (hT B).symm
  have ZO:=aC;rw[hLe] at ZO;have pM:jA H₀ ((L.take k++Y)++g.bl) H:=ZO.perm (hp g.bl);refine aA (Builtin.append_ #[t,xt] o.type #[g.val,bA s]) _ ?_;refine MW (new:=UA s) (m:=s.length) ht jC BD yE (Nat.eq_of_beq_eq_true SV) ⟨rx,RV,hex⟩ (Nat.le_of_ble_eq_true LX) hm (fun z hz=> pM.at_ z (by simp[hz])) (fun Q hq=> hq) (fun Q hq=> ?_) (by rw[WG,Nat.mul_one]) (wR s) fun g' H' h1 h2 h3 h4 h5=> ?_
  ·have e:((ByteArray.mk ⟨s⟩).extract 0 s.length).data.map (fun b=> Value.int .u8 (b.toNat:Int))=⟨UA s⟩:=by
    rw[VR];simp[UA]
   show Q (((ByteArray.mk ⟨s⟩).extract 0 s.length).data.map (fun b=> Value.int .u8 (b.toNat:Int))) H;rw[e];exact hq
  ·exact⟨_,rfl,_,(pM.grown h3 h4 h5).perm (hp g'.bl).symm,hk g' h1 h2⟩
end
end Go.RL
namespace Go.Proofs.YtldmfjcgjdchcaaGreatDoor
open Go.RL Go.Proofs.Tryz
set_option maxRecDepth 10000
set_option maxHeartbeats 8000000
theorem aGI:Xt prog 238 Extern.AbiNoEscape.same:=⟨Tryz.f238,func238,by kernel_rfl,by kernel_rfl,by kernel_rfl,by kernel_rfl⟩
theorem sW:prog.underlying 174=some (.pointer 176):=by kernel_rfl
theorem aAo:prog.underlying 305=some .unsafePointer:=by kernel_rfl
theorem aDc:liesAt prog prog.depth 176 (2/prog.cellsOf 176) 0 176 1=true:=by kernel_rfl
section
variable(M:Md prog)(H:View)
def LK(b:Nat)(u:Bool)(g:Gl 5 1):Bl:=(b,true,.cells ⟨[.pointer (if u then some ⟨b,0,none⟩ else none),g.val]⟩ 176 (0,0))::g.bl
theorem jO(H₁:View)(b:Nat)(u:Bool)(g:Gl 5 1)(fF:jA H₁ (LK b u g) H):
  fA M 171 #[.pt b] H (dO H₁ (fun _:Unit=> .tuple ⟨[]⟩) (fun _=> LK b true g) (fun _=> True)):=by
 cases u with
 | false=>
  refine fA.enter (vs:= [.pt b]) func171 rfl ntmps171 Nb (fF) fun St c cs hK=> ?_;refine U6 ?_;refine .x (pA.E9 true rfl rfl rfl sW rfl) ?_;refine U5 ?_;refine .x (pA.aHB (E:=en) 0 rfl rfl rfl sW aAo rfl rfl rfl) ?_;refine .x (pA.entry rfl rfl rfl rfl aGI (fun H Q hq=> hq)) ?_;refine .x (pA.aCR (E:=en) 0 rfl rfl rfl aAo sW rfl aDc) ?_;refine U4 ?_;refine .ov hK func171 results171 [] ?_;exact fun H' hs=> ⟨(),H₁,rfl,View.le_refl _,hs,trivial⟩
 | true=>
  refine fA.enter (vs:= [.pt b]) func171 rfl ntmps171 Nb (fF) fun St c cs hK=> ?_;refine U6 ?_;refine .x (pA.E9 false rfl rfl rfl sW rfl) ?_;refine U9 ?_;refine .x (pA.aBL (E:=en) rfl rfl rfl sW rfl rfl) ?_;refine U3 ?_;refine .ov hK func171 results171 [] ?_;exact fun H' hs=> ⟨(),H₁,rfl,View.le_refl _,hs,trivial⟩
def I6(s:By)(g g':Gl 5 1):Prop:=g'.n=g.n+s.length/\g'.l=g.l++UA s
theorem NF(H₁:View)(b:Nat)(u:Bool)(g:Gl 5 1)(s:By)(hm:g.n+s.length<=1000000)(fF:jA H₁ (LK b u g) H):
  fA M 91 #[.pt b,bA s] H (dO H₁ (fun _:Gl 5 1=> .tuple ⟨[.nt s.length,.nilIface]⟩) (fun g'=> LK b true g') (I6 s g)):=by
 refine fA.enter (vs:= [.pt b,bA s]) func91 rfl ntmps91 Nb (fF) fun St c cs hK=> ?_;refine U8 ?_;refine .e (Or.SD 0 (σ:=Unit) (fun _=> .tuple ⟨[]⟩) (fun _=> LK b true g) (fun _=> True) rfl rfl rfl rfl rfl dE (fun H₁ H₂ aY YO=> .h (jO M H₂ H₁ b u g YO)) (fun _ _=> ?_));refine U9 ?_;refine .e (Or.aAX (E:=en) (g:=g) 1 (fun B=> B) (Y:= []) (fun B=> List.Perm.refl _) rfl rfl rfl rfl rfl rfl rfl rfl rfl rfl rfl rfl rfl rfl rfl oM rfl dE (fun g2 dI LG=> ?_));refine ND ?_;refine .rt hK func91 results91 [_,_] ?_;exact fun H' hs=> ⟨g2,H₁,rfl,View.le_refl _,hs,dI,LG⟩
theorem WU(H₁:View)(b:Nat)(u:Bool)(g:Gl 5 1)(s:By)(aB:s≠ [])(XC:g.n=s.length)(JE:g.l=UA s)(hm:g.n<=1000000)(fF:jA H₁ (LK b u g) H):
  fA M 95 #[.pt b] H (dO H₁ (fun _:Unit=> bA s) (fun _=> []) (fun _=> True)):=by
 have uI:0<s.length:=List.length_pos_iff.2 aB;obtain⟨gb,gn,gc,gl,gj,h1,h2,h3,h4⟩:=g;simp only at XC JE hm;subst XC JE;cases gb with
 | none=> have:=h4 rfl;omega
 | some gb=>
  have hc0:Nat.beq gc 0=false:=by
   cases gc with
   | zero=> omega
   | succ _=> rfl
  have IV:liesAt prog prog.depth 5 ((UA s++gj).length/prog.cellsOf 5) 0 5 s.length=true:=iY _ _ (by rw[List.length_append,WG];omega);have BN:jA H₁ [Bb b [.pointer (if u then some ⟨b,0,none⟩ else none),.sl gb s.length gc] 176,Bb gb (UA s++gj) 5] H:=fF;refine fA.enter (vs:= [.pt b]) func95 rfl ntmps95 Nb (BN) fun St c cs hK=> ?_;refine U5 ?_;refine Tc.dr [10] [1] mixed rfl ?_;refine .nw 0 ?_;refine .nw 1 ?_;refine .nw 2 ?_;refine .nw 3 ?_;refine .q 4 rfl (pA.E4 rfl rfl rfl rfl rfl hc0) ?_;refine .nw 5 ?_;refine .nw 6 ?_;refine .nw 7 ?_;refine .nw 8 ?_;refine .nn 9 ?_;refine .ea 10 rfl (Or.M4 1 rfl rfl rfl rfl rfl rfl F9 aB oM rfl IV rfl dE ⟨S2.mk sL (.inl kR),?_⟩);refine .nw 11 ?_;refine .dn ?_;refine .rt hK func95 results95 [_] ?_;exact fun H' hs=> ⟨(),H₁,rfl,View.le_refl _,hs.sub (List.nil_sublist _),trivial⟩
end
end Go.Proofs.YtldmfjcgjdchcaaGreatDoor
namespace Go.RL
open Go.Conc
theorem OP:∀(n t:Nat) (acc:Array Value),(Extern.BytealgMakeNoZero.digits n t acc).size=acc.size+n
 | 0,_,_=> rfl
 | n+1,t,acc=> by
  unfold Extern.BytealgMakeNoZero.digits;rw[OP n,Array.size_push];omega
section
variable {P:Program}{E:Env P}{M:Md P}{n:Nat}{H₀:View}{R:Rg}{L:Bl}{K:Rg->Bl->Prop}{o:Oper}{d:Nat}
theorem Or.aDr {cl:Go.Call}{x:Operand}{g:FuncId}{k:Nat}{t e p:TypeId}{r:FA}(lA:o.op=.call cl)(iB:cl.callee=.value x)(hx:JA R x=some (.func (.func g) #[] #[]))(has:lD R cl.args.toList=some [.int .i64 (k:Nat)])
  (he:Xt P g (Extern.BytealgMakeNoZero.makeNoZero #[p] #[t])) (ht:E.ty t=some r) (jC:r.ds=.slice e) (hk0:k<=1000000000) (hd:o.dst=some d) (hn:d<n)
  (hk:∀blk cap (jj:List Value),jj.length=cap->K ((d,.slice (some ⟨blk,0,none⟩) k cap)::R) ((blk,true,.cells ⟨jj⟩ e (0,0))::L)):Or M n H₀ R L o K:=
 .val hd hn fun H tmps hs hr=> by
  have e1:=hr.ev hx;have cH:cl.args.map (OB tmps)= [Value.int .i64 (k:Nat)].toArray:=by
   apply Array.ext'
   simpa using hr.evs has
  have hex:execOp (OB tmps) o=(resolve (OB tmps) cl o.type).bind fun d=> invoke d.target d.args:=by unfold execOp;rw[lA];rfl
  rw[hex];have:((resolve (OB tmps) cl o.type).bind fun d=> invoke d.target d.args)=(Deferred.ofValue (.func (.func g) #[] #[]) [Value.int .i64 (k:Nat)].toArray).bind fun d=> invoke d.target d.args:=by
   unfold resolve;rw[iB];simp only[e1,cH]
  rw[this];simp only[Deferred.ofValue];show HA P (callFunc g (#[]++[Value.int .i64 (k:Nat)].toArray ++ #[])) H _;have e3:(#[]:Array Value)++[Value.int .i64 (k:Nat)].toArray ++ #[]=#[.int .i64 (k:Nat)]:=by simp
  rw[e3];refine IS he ?_;unfold Extern.BytealgMakeNoZero.makeNoZero;refine aA (underlying t) _ (gA (UC ((E.ok _ _ ht).ds.trans jC)) ?_);have gB:(decide (((k:Nat):Int)<0)||decide (((k:Nat):Int)>2 ^ 48))=false:=by
   rw[decide_eq_false oM,decide_eq_false oM];rfl
  show HA P (if(decide (((k:Nat):Int)<0)||decide (((k:Nat):Int)>2 ^ 48))=true then _ else _) H _;rw[if_neg (by rw[gB];exact Bool.false_ne_true)];refine aA (choose _) _ ?_;intro tt;rw[if_neg (by simp[Question.forced])];generalize (Question.appendCap ((k:Nat):Int).toNat 0 e).cut tt=cap;refine aA (askRoom _) _ ?_;have fin:HA P (do
    let bytes <-choose (.extern "internal/bytealg.MakeNoZero.bytes" 0)
    let a <-newRow e (Extern.BytealgMakeNoZero.digits cap bytes #[])
    Sem.pure (Value.slice (some a) ((k:Nat):Int).toNat cap)) H fun nx H'=> (fun u H'=> (∃v,Next.value u=.value v/\∃L',jA H₀ L' H'/\K ((d,v)::R) L')) nx H':=by
   refine aA (choose _) _ ?_;intro t2;obtain⟨bytes,hb⟩:∃bz,bz=(if(Question.extern "internal/bytealg.MakeNoZero.bytes" 0).forced then 0 else(Question.extern "internal/bytealg.MakeNoZero.bytes" 0).cut t2):=⟨_,rfl⟩
   rw[<-hb];refine aA (newRow e _) _ ?_;intro blk tI;have hl:=OP cap bytes #[];obtain⟨jj,hj⟩:∃jj:List Value,Extern.BytealgMakeNoZero.digits cap bytes #[]=⟨jj⟩:=⟨_,rfl⟩
   rw[hj] at hl;have TX:jj.length=cap:=by
    have:(⟨jj⟩:Array Value).size=jj.length:=rfl;rw[this] at hl;simpa using hl
   rw[Int.toNat_natCast,hj];exact⟨_,rfl,_,hs.cons _ tI,hk blk cap jj TX⟩
  unfold askRoom;split
  ·exact⟨rfl,fin⟩
  ·exact fin
theorem pA.cap {t:TypeId}{x:Operand}{a:Option Addr}{p q:Nat}{cl:Go.Call}{e:TypeId}{r:FA}(lA:o.op=.call cl)(iB:cl.callee=.builtin .cap)(uG:cl.argTypes=#[t])(sI:cl.args=#[x])
  (hx:JA R x=some (.slice a p q)) (ht:E.ty t=some r) (jC:r.ds=.slice e):pA P n H₀ R L o (.int .i64 (q:Int)):=fun H tmps _ hr=> by
 unfold execOp;rw[lA];simp only[resolve,iB,uG,sI];have hm:Array.map (OB tmps) #[x]=#[.slice a p q]:=by simp[hr.ev hx]
 rw[hm];refine aA (Builtin.cap_ #[t] o.type #[.slice a p q]) _ (aA (underlying t) _ (gA (UC ((E.ok _ _ ht).ds.trans jC)) ?_));exact⟨rfl,rfl⟩
end
end Go.RL
namespace Go.Proofs.YtldmfjcgjdchcaaGreatDoor
open Go.RL Go.Proofs.Tryz
set_option maxRecDepth 10000
set_option maxHeartbeats 8000000
def eD(y:UInt8):List By->By
 | []=> []
 | p::l=> p++l.flatMap fun q=> y::q
def gD(l:List By):Nat:=(l.map List.length).sum
theorem AS {l:List By}{i:Nat}{p:By}(h:l[i]? =some p):gD (l.take (i+1))=gD (l.take i)+p.length:=by
 obtain⟨hi,rfl⟩:=List.getElem?_eq_some_iff.1 h;unfold gD;rw[List.take_succ_eq_append_getElem hi,List.map_append,List.sum_append];simp
theorem L0(l:List By)(i:Nat):gD (l.take i)<=gD l:=by
 have h:gD l=gD (l.take i)+gD (l.drop i):=by
  unfold gD;rw[<-List.sum_append,<-List.map_append,List.take_append_drop]
 omega
theorem XP(y:UInt8):∀l:List By,(l.flatMap fun q=> y::q).length=l.length+gD l
 | []=> rfl
 | p::l=> by
  have ih:=XP y l;rw[List.flatMap_cons,List.length_append,ih];unfold gD;simp only[List.length_cons,List.map_cons,List.sum_cons];omega
theorem nS(y:UInt8)(p:By)(l:List By):(eD y (p::l)).length=l.length+gD (p::l):=by
 show(p++l.flatMap fun q=> y::q).length=_;rw[List.length_append,XP];unfold gD;simp only[List.map_cons,List.sum_cons];omega
theorem W1(y:UInt8){l:List By}{i:Nat}{q:By}(h:l[i]? =some q):((l.take (i+1)).flatMap fun q=> y::q)=((l.take i).flatMap fun q=> y::q)++[y]++q:=by
 obtain⟨hi,rfl⟩:=List.getElem?_eq_some_iff.1 h;rw[List.take_succ_eq_append_getElem hi,List.flatMap_append,List.append_assoc];simp
theorem aGL:Xt prog 285 (Extern.BytealgMakeNoZero.makeNoZero #[3] #[60]):=⟨Tryz.f285,func285,by kernel_rfl,by kernel_rfl,by kernel_rfl,by kernel_rfl⟩
section
variable(M:Md prog)(H:View)
theorem aCS(H₁:View)(b m:Nat)(hm:m<=1000000)(fF:jA H₁ (LK b true (Gl.nil 5 1)) H):
  fA M 239 #[.pt b,.nt m] H (dO H₁ (fun _:Gl 5 1=> .tuple ⟨[]⟩) (fun g'=> LK b true g') (fun g'=> g'.n=0/\g'.l= [])):=by
 have BN:jA H₁ [Bb b [.pt b,.slice none 0 0] 176] H:=fF;have m1:iA .mul .i64 2 0=some (.int .i64 0):=rfl;have a1:iA .add .i64 0 ((m:Nat):Int)=some (.int .i64 ((m:Nat):Int)):=by rw[pB oM oM];congr 2;omega
 refine fA.enter (vs:= [.pt b,.nt m]) func239 rfl ntmps239 Nb (BN) fun St c cs hK=> ?_;refine U ?_;refine Tc.dr [] [] mixed rfl ?_;refine V4 0 ?_;refine .q 4 rfl (pA.cap (E:=en) rfl rfl rfl rfl rfl rfl rfl) ?_;refine V3 5 ?_;refine V5 9 ?_;refine .ea 8 rfl (Or.aDr (E:=en) rfl rfl rfl rfl aGL rfl rfl oM rfl dE (fun nb cap jj hj=> ⟨S2.mk sL (.inr sL),?_⟩));refine .q 14 rfl (pA.slice (E:=en) (off':=0) rfl rfl rfl rfl rfl rfl rfl rfl oM oM oM (by split <;> rfl)) ?_;refine .nn 15 ?_;refine .dn ?_;refine U7 ?_;refine .e (Or.aCF (E:=en) 0 (m:=0) (new:= []) rfl rfl rfl rfl rfl rfl rfl rfl rfl rfl rfl (fun H hs=> (Gl.nil 5 1).src (by simp[Gl.bl,Gl.nil])) rfl (Nat.le_refl _) oM rfl dE (KM _ _) ?_);refine U8 ?_;refine .ov hK func239 results239 [] ?_;refine fun H' hs=> ⟨⟨some nb,0,cap,[],jj,rfl,Nat.zero_le _,by rw[hj];omega,fun h=> by cases h⟩,H₁,rfl,View.le_refl _,?_,rfl,rfl⟩
 exact hs.perm (List.Perm.swap _ _ _)
theorem aCo(H₁:View)(b m:Nat)(h0:1<=m)(hm:m<=1000000)(fF:jA H₁ (LK b false (Gl.nil 5 1)) H):
  fA M 172 #[.pt b,.nt m] H (dO H₁ (fun _:Gl 5 1=> .tuple ⟨[]⟩) (fun g'=> LK b true g') (fun g'=> g'.n=0/\g'.l= [])):=by
 refine fA.enter (vs:= [.pt b,.nt m]) func172 rfl ntmps172 Nb (fF) fun St c cs hK=> ?_;refine U3 ?_;refine .e (Or.mN 0 (σ:=Unit) (fun _=> .tuple ⟨[]⟩) (fun _=> LK b true (Gl.nil 5 1)) (fun _=> True) rfl rfl rfl rfl (fun H₁ H₂ aY YO=> .h (jO M H₂ H₁ b false (Gl.nil 5 1) YO)) (fun _ _=> ⟨_,by exact⟨by decide,rfl⟩,?_⟩));refine iD ?_;refine Tc.perm (L₁:= [Bb b [.pt b,.slice none 0 0] 176]) (List.Perm.refl _) ?_;refine Tc.dr [] [] mixed rfl ?_;refine V4 0 ?_;refine .q 4 rfl (pA.cap (E:=en) rfl rfl rfl rfl rfl rfl rfl) ?_;refine V8 5 ?_;refine .dn ?_;refine U4 ?_;refine .e (Or.mN 0 (σ:=Gl 5 1) (fun _=> .tuple ⟨[]⟩) (fun g'=> LK b true g') (fun g'=> g'.n=0/\g'.l= []) rfl rfl rfl rfl (fun H₁ H₂ aY YO=> .h (aCS M H₂ H₁ b m hm YO)) (fun g' hg'=> ⟨_,by exact⟨by decide,rfl⟩,?_⟩));refine U ?_;refine .ov hK func172 results172 [] ?_;exact fun H' hs=> ⟨g',H₁,rfl,View.le_refl _,hs,hg'⟩
theorem G4 {H:View}{b o n:Nat}{x:Nat->By}(h:ZB H (some ⟨b,o,none⟩) (n+1) x):ZB H (some ⟨b,o+1,none⟩) n (fun j=> x (j+1)):=by
 rcases h with h0|⟨b',o',f,gs,gt,gz,h1,h2,h3⟩
 ·omega
 ·cases h1
  refine .inr ⟨b,o+1,f,gs,gt,gz,rfl,h2,fun j hj=> ?_⟩;have:=h3 (j+1) oM;rw[<-this]
  congr 1
  simp only[Int.toNat_natCast];omega
theorem aCq(y:UInt8)(p:By)(l:List By)(aB:l≠ [])(b o fc:Nat)(hF:ZB H (some ⟨b,o,none⟩) (l.length+1) (fun i=> (p::l)[i]?.getD []))(OX:l.length+1<=fc)(hl:l.length<=1000)(hT:gD (p::l)<=900000):
  fA M 92 #[.slice (some ⟨b,o,none⟩) (l.length+1) fc,bA [y]] H (Ib H (bA (eD y (p::l)))):=by
 have hk:1<=l.length:=List.length_pos_iff.2 aB;obtain⟨k,hkl⟩:∃k,k=l.length:=⟨_,rfl⟩
 have hy1:([y]:By).length=1:=rfl;rw[<-hkl] at hF OX hl hk ⊢;have sN:iA .sub .i64 ((k+1:Nat):Int) 1=some (.int .i64 ((k:Nat):Int)):=by rw[pH oM oM];congr 2;omega
 have hq2:(2:Int)<=9223372036854775807/((k:Nat):Int):=by
  rw[Int.le_ediv_iff_mul_le oM];omega
 have q1:iA .quo .i64 9223372036854775807 ((k:Nat):Int)=some (.int .i64 (9223372036854775807/((k:Nat):Int))):=ON oM oM oM;have g1:iA .geq .i64 (([y].length:Nat):Int) (9223372036854775807/((k:Nat):Int))=some (.bool false):=mJ (by rw[hy1];omega);have m1:iA .mul .i64 (([y].length:Nat):Int) ((k:Nat):Int)=some (.int .i64 ((k:Nat):Int)):=by
  show iA .mul .i64 1 ((k:Nat):Int)=_;rw[HD oM oM]
  congr 2
  omega
 have a0:iA .add .i64 0 ((k:Nat):Int)=some (.int .i64 ((k:Nat):Int)):=by rw[pB oM oM];congr 2;omega
 generalize 9223372036854775807/((k:Nat):Int)=z at q1 g1;have hS:=fun i=> L0 (p::l) i;have uG:∀i,i<k+1->(p::l)[i]? =some ((p::l)[i]?.getD []):=fun i hi=> by
  rw[List.getElem?_eq_getElem (by rw[List.length_cons];omega)];rfl
 have hlk:(p::l).length=k+1:=by rw[List.length_cons,hkl]
 refine .en func92 ntmps92 fun St c cs hK=> ?_;(iterate 69 refine U ?_);refine Tc.db (Tc.qA (σ:= { x:Nat//x<=k+1 }) (fun x=> ([(0,.slice (some ⟨b,o,none⟩) (k+1) fc),(1,bA [y]),(5,.iz ((k+gD ((p::l).take x.1):Nat):Int)),(39,.slice (some ⟨b,o,none⟩) (k+1) fc),(40,.iz (k+1:Nat)),(41,.nt x.1)],[])) (fun x=> k+1-x.1) ?_ ⟨0,Nat.zero_le _⟩);rintro⟨q,hq⟩ ih;dsimp only;have hSq:=hS q;by_cases d1:q=k+1
 ·clear ih;subst d1;rw[List.take_of_length_le oM];have rR:=nS y p l;rw[<-hkl] at rR;obtain⟨m,hm⟩:∃m,m=k+gD (p::l):=⟨_,rfl⟩
  rw[<-hm] at rR ⊢;have hF0:=hF;have hp:=uG 0 oM;rcases hF with h0|⟨b',o',fl,gs,gt,gz,h1,h2,h3⟩
  ·omega
  cases h1
  have f1:zE false 1 gs (o+(0:Int).toNat*1)=some (bA p):=h3 0 oM;have hF1:=G4 hF0;refine U9 ?_;refine .al fun nb=> ?_;refine U4 ?_;refine .e (Or.SD 0 (σ:=Gl 5 1) (fun _=> .tuple ⟨[]⟩) (fun g'=> LK nb true g') (fun g'=> g'.n=0/\g'.l= []) rfl rfl rfl rfl rfl dE (fun H₁ H₂ aY YO=> .h (aCo M H₂ H₁ nb m oM oM YO)) (fun g hg=> ?_));refine U6 ?_;refine .e (Or.SD 0 (σ:=Gl 5 1) (fun _=> .tuple ⟨[.nt p.length,.nilIface]⟩) (fun g'=> LK nb true g') (I6 p g) rfl rfl rfl rfl rfl dE (fun H₁ H₂ aY YO=> .h (NF M H₂ H₁ nb true g p (by have:=hS 1;rw[show(p::l).take 1= [p] from rfl,show gD [p]=p.length from by simp[gD]] at this;omega) YO)) (fun g0 hg0=> ?_));refine U5 ?_;refine .x (pA.slice (E:=en) (off':=o+1) rfl rfl rfl rfl rfl rfl rfl rfl oM oM oM (by rw[if_neg oM];rfl)) ?_;refine U4 ?_;have kS:=fun i=> XP y (l.take i);have hb:∀i,i<=k->(p++(l.take i).flatMap fun q=> y::q).length<=901000:=fun i hi=> by
   have h5:=hS (i+1);have h6:gD ((p::l).take (i+1))=p.length+gD (l.take i):=by simp[gD]
   have h7:=kS i;rw[List.length_append,h7,List.length_take];omega
  refine Tc.db (Tc.qA (σ:= { x:Nat×Gl 5 1//x.1<=k/\x.2.n=(p++(l.take x.1).flatMap fun q=> y::q).length/\x.2.l=UA (p++(l.take x.1).flatMap fun q=> y::q) }) (fun x=> ([(1,bA [y]),(8,.pt nb),(63,.slice (some ⟨b,o+1,none⟩) k (fc-1)),(64,.nt k),(65,.nt x.1.1)],LK nb true x.1.2)) (fun x=> k-x.1.1) ?_ ⟨(0,g0),Nat.zero_le _,by have:=hg0.1;rw[hg.1] at this;simpa using this,by have:=hg0.2;rw[hg.2] at this;simpa using this⟩);rintro⟨⟨q,g2⟩,hq,XC,JE⟩ ih;simp only at hq XC JE;dsimp only;have jP:=hb q hq;by_cases d1:q=k
  ·clear ih;subst d1;rw[List.take_of_length_le oM] at XC JE jP;have aHb:(p++l.flatMap fun q=> y::q)≠ []:=by
    cases l with
    | nil=> exact(aB rfl).elim
    | cons a l=> intro h;have:=congrArg List.length h;simp at this
   refine U9 ?_;refine .e (Or.SD 0 (σ:=Unit) (fun _=> bA (p++l.flatMap fun q=> y::q)) (fun _=> []) (fun _=> True) rfl rfl rfl rfl rfl dE (fun H₁ H₂ aY YO=> .h (WU M H₂ H₁ nb true g2 _ aHb XC JE oM YO)) (fun _ _=> ?_));refine U2 ?_;refine .rt hK func92 results92 [_] ?_;exact okB
  ·have d2:q<k:=by omega
   have hx:=uG (q+1) oM;have f2:zE false 1 gs (o+1+((q:Nat):Int).toNat*1)=some (bA ((p::l)[q+1]?.getD [])):=by
    rcases hF1 with h0|⟨b',o',fl',gs',gt',gz',e1,e2,e3⟩
    ·omega
    cases e1
    rw[h2] at e2;cases e2
    exact e3 q d2
   have O7:=W1 y (l:=l) (i:=q) (q:=(p::l)[q+1]?.getD []) (by rw[<-hx];rfl);have AV:=hb (q+1) oM;rw[O7] at AV;generalize (p::l)[q+1]?.getD []=x at hx f2 O7 AV;have hb2:g2.n+1+x.length<=901000:=by
    rw[XC];simp only[List.length_append,List.length_singleton] at AV ⊢;omega
   have vG:=fun(g4:Gl 5 1) (h4:g4.n=g2.n+1+x.length) (h5:g4.l=g2.l++UA [y]++UA x)=> ih ⟨(q+1,g4),by simp only;omega,by simp only;rw[O7,h4,XC];simp only[List.length_append,List.length_singleton];omega,by simp only;rw[O7,h5,JE];simp only[NI,List.append_assoc]⟩ Ob;clear ih;refine fL ?_;refine .e (Or.SD 0 (σ:=Gl 5 1) (fun _=> .tuple ⟨[.iz ([y].length:Nat),.nilIface]⟩) (fun g'=> LK nb true g') (I6 [y] g2) rfl rfl rfl rfl rfl dE (fun H₁ H₂ aY YO=> .h (NF M H₂ H₁ nb true g2 [y] (by rw[hy1];omega) YO)) (fun g3 Q7=> ?_));refine U3 ?_;refine .e (Or.SD 0 (σ:=Gl 5 1) (fun _=> .tuple ⟨[.nt x.length,.nilIface]⟩) (fun g'=> LK nb true g') (I6 x g3) rfl rfl rfl rfl rfl dE (fun H₁ H₂ aY YO=> .h (NF M H₂ H₁ nb true g3 x (by have:=Q7.1;rw[hy1] at this;omega) YO)) (fun g4 hg4=> ?_));refine U6 ?_;exact Tc.db (vG g4 (by rw[hg4.1,Q7.1,hy1]) (by rw[hg4.2,Q7.2]))
 ·have d2:q<k+1:=by omega
  have hx:=uG q d2;have hS1:=hS (q+1);have wG:=AS hx;have vG:=ih ⟨q+1,oM⟩ Ob;clear ih;simp only at vG;rw[wG] at vG hS1;rcases hF with h0|⟨b',o',fl,gs,gt,gz,h1,h2,h3⟩
  ·omega
  cases h1
  have f1:zE false 1 gs (o+((q:Nat):Int).toNat*1)=some (bA ((p::l)[q]?.getD [])):=h3 q d2;generalize (p::l)[q]?.getD []=x at hx hS1 wG vG f1;generalize gD ((p::l).take q)=s at vG hSq wG hS1 ⊢;have a1:iA .add .i64 ((k+s:Nat):Int) ((x.length:Nat):Int)=some (.int .i64 ((k+(s+x.length):Nat):Int)):=by rw[pB oM oM];congr 2;omega
  refine U38 ?_;exact Tc.db (vG)
end
section
variable(M:Md prog)(H:View)
end
section
variable(M:Md prog)(H:View)
theorem JJ(A B:Option Addr)(n m ac bc:Nat)(x y:Nat->By)(hA:ZB H A n x)(hB:ZB H B m y)(hn:n<=100000000)(hm:m<=100000000)(t:Bool)(ht:(decide (n=m)&&SG (fun i=> decide (x i=y i)) n)=t):
  fA M 59 #[.slice A n ac,.slice B m bc] H (Ib H (.bool t)):=by
 rw[<-ht];clear ht;refine .en func59 ntmps59 fun St c cs hK=> ?_;by_cases c0:n=m
 ·subst c0;rw[decide_eq_true rfl,Bool.true_and] at hK;refine fN ?_;refine Tc.db (Tc.qA (σ:= { j:Nat//j<=n/\∀i,i<j->x i=y i }) (fun j=> ([(0,.slice A n ac),(1,.slice B n bc),(5,.nt j.1)],[])) (fun j=> n-j.1) ?_ ⟨0,Nat.zero_le _,fun i hi=> by omega⟩);rintro⟨j,hj,QA⟩ ih;dsimp only;by_cases c1:j=n
  ·have e:SG (fun i=> decide (x i=y i)) n=true:=(kD n).2 (fun i hi=> decide_eq_true (QA i oM));subst c1;rw[e] at hK;refine MF ?_;refine .rt hK func59 results59 [_] ?_;exact okB
  ·have c2:j<n:=by omega
   obtain h0|⟨ab,ao,fa,gs,gt,gz,rfl,AR,W4⟩:=hA
   ·omega
   obtain h0|⟨bb,bo,fb,ks,kt,kz,rfl,BJ,vJ⟩:=hB
   ·omega
   have f1:=W4 j c2;have f2:=vJ j c2;by_cases c3:x j=y j
   ·have f3:RL.LB .neq (x j) (y j)=some (.bool false):=by simp[RL.LB,c3]
    refine JG ?_;refine Tc.dr [] [] mixed rfl ?_;refine V9 0 ?_;refine .dn ?_;refine U8 ?_;exact Tc.db (ih ⟨j+1,oM,fun i hi=> by by_cases e:i=j;exact e▸c3;exact QA i oM⟩ Ob)
   ·have f3:RL.LB .neq (x j) (y j)=some (.bool true):=by simp[RL.LB,c3]
    have e:SG (fun i=> decide (x i=y i)) n=false:=TG c2 (decide_eq_false c3);rw[e] at hK;refine JG ?_;refine Tc.dr [] [] mixed rfl ?_;refine V9 0 ?_;refine .dn ?_;refine U5 ?_;refine .rt hK func59 results59 [_] ?_;exact okB
 ·rw[decide_eq_false c0,Bool.false_and] at hK;refine fL ?_;refine .rt hK func59 results59 [_] ?_;exact okB
theorem QL(A B:Option Addr)(n m ac bc:Nat)(x y:Nat->Int)(hA:PB H A n x)(hB:PB H B m y)(hn:n<=1000000)(hm:m<=1000000)(t:Bool)(ht:(decide (n=m)&&SG (fun i=> decide (x i=y i)) n)=t):
  fA M 147 #[.slice A n ac,.slice B m bc] H (Ib H (.bool t)):=by
 rw[<-ht];clear ht;refine .en func147 ntmps147 fun St c cs hK=> ?_;by_cases c0:n=m
 ·subst c0;rw[decide_eq_true rfl,Bool.true_and] at hK;refine fN ?_;refine Tc.db (Tc.qA (σ:= { j:Nat//j<=n/\∀i,i<j->x i=y i }) (fun j=> ([(0,.slice A n ac),(1,.slice B n bc),(5,.nt j.1)],[])) (fun j=> n-j.1) ?_ ⟨0,Nat.zero_le _,fun i hi=> by omega⟩);rintro⟨j,hj,QA⟩ ih;dsimp only;by_cases c1:j=n
  ·have e:SG (fun i=> decide (x i=y i)) n=true:=(kD n).2 (fun i hi=> decide_eq_true (QA i oM));subst c1;rw[e] at hK;refine MF ?_;refine .rt hK func147 results147 [_] ?_;exact okB
  ·have c2:j<n:=by omega
   obtain h0|⟨ab,ao,fa,gs,gt,gz,rfl,AR,W4⟩:=hA
   ·omega
   obtain h0|⟨bb,bo,fb,ks,kt,kz,rfl,BJ,vJ⟩:=hB
   ·omega
   have f1:=W4 j c2;have f2:=vJ j c2;by_cases c3:x j=y j
   ·skip
    refine JG ?_;refine Tc.dr [] [] mixed rfl ?_;refine V9 0 ?_;refine .dn ?_;refine U8 ?_;exact Tc.db (ih ⟨j+1,oM,fun i hi=> by by_cases e:i=j;exact e▸c3;exact QA i oM⟩ Ob)
   ·skip
    have e:SG (fun i=> decide (x i=y i)) n=false:=TG c2 (decide_eq_false c3);rw[e] at hK;refine JG ?_;refine Tc.dr [] [] mixed rfl ?_;refine V9 0 ?_;refine .dn ?_;refine U5 ?_;refine .rt hK func147 results147 [_] ?_;exact okB
 ·rw[decide_eq_false c0,Bool.false_and] at hK;refine fL ?_;refine .rt hK func147 results147 [_] ?_;exact okB
theorem LP(A B:Option Addr)(n m ac bc:Nat)(x y:Nat->Int)(hA:PB H A n x)(hB:PB H B m y)(hn:n<=1000000)(hm:m<=1000000)(t:Bool)(ht:(decide (n=m)&&SG (fun i=> decide (x i=y i)) n)=t):
  fA M 60 #[.slice A n ac,.slice B m bc] H (Ib H (.bool t)):=by
 refine .en func60 ntmps60 fun St c cs hK=> ?_;refine U8 ?_;refine .cl (fun H hs=> QL M H A B n m ac bc x y (hA.le hs.base) (hB.le hs.base) hn hm t ht) ?_;refine U2 ?_;refine .rt hK func60 results60 [_] ?_;exact okB
end
end Go.Proofs.YtldmfjcgjdchcaaGreatDoor
