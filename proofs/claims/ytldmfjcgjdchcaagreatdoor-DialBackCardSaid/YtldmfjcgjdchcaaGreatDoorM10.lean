/-
 Texts of the proofs over baudot/dial.
-/
import Derived.Test.YtldmfjcgjdchcaaGreatDoorM09
namespace Go.Proofs.YtldmfjcgjdchcaaGreatDoor
open Go.RL Go.Proofs.Tryz
set_option maxRecDepth 10000
set_option maxHeartbeats 8000000
def DO(P:List (List UInt8))(b:Nat):Value:=.slice (some ⟨b,0,none⟩) P.length P.length
def TK(P:List (List UInt8))(b:Nat):Bl:= [(b,true,.cells ⟨VA P⟩ 9 (0,0))]
def dG(P:List (List UInt8))(m i:Nat):List Value:=VA (P.take i)++List.replicate (m-i) (gA [])
theorem lY {P:List (List UInt8)}{m i:Nat}(hP:P.length=m)(hi:i<=m):(dG P m i).length=m:=by
 unfold dG;rw[List.length_append,PC,List.length_take,List.length_replicate];omega
theorem wT {P:List (List UInt8)}{m i:Nat}{p:List UInt8}(hP:P.length=m)(hp:P[i]? =some p):uG (dG P m i) (0+((i:Nat):Int).toNat*1) [gA p]=dG P m (i+1):=by
 obtain⟨hi,rfl⟩:=List.getElem?_eq_some_iff.1 hp;have h1:(VA (P.take i)).length=i:=by rw[PC,List.length_take];omega
 rw[Int.toNat_natCast,Nat.zero_add,Nat.mul_one];unfold uG dG;rw[List.take_left' h1,List.drop_append,List.drop_of_length_le (by rw[h1];exact Nat.le_add_right _ _),h1,List.nil_append,List.drop_replicate,List.take_succ_eq_append_getElem hi,zD];have e:m-i-(i+[gA P[i]].length-i)=m-(i+1):=by simp only[List.length_singleton];omega
 rw[e];rfl
theorem AV {P:List (List UInt8)}{m:Nat}(hP:P.length=m):dG P m m=VA P:=by
 unfold dG;rw[List.take_of_length_le oM,Nat.sub_self];simp
section
variable(M:Md prog)(H:View)
theorem G5(s:List UInt8)(y:UInt8)(z:Int)(hz:M1 s y=z):bA M 293 #[gA s,gA [y]] H (fun v H'=> H.le H'/\v=.int .i64 z):=by
 refine .en func293 ntmps293 fun St c cs hK=> ?_;refine U8 ?_;refine .cl (fun H hs=> lN M H s y z hz) ?_;refine U2 ?_;refine .rt hK func293 results293 [_] ?_;exact okB
theorem eZ(s:List UInt8)(y:UInt8)(hm:s.length<=1000000):
  bA M 242 #[gA s,gA [y],.int .i64 0,.int .i64 (-1)] H (fun v H'=> H.le H'/\∃b,v=DO (JA y s) b/\True/\∀z∈TK (JA y s) b,H' z.1=some z.2/\H z.1=none):=by
 have iB:=cH y s;have hle:s.count y<=s.length:=List.count_le_length;obtain⟨P,hP⟩:∃P,P=JA y s:=⟨_,rfl⟩
 obtain⟨m,hmc⟩:∃m,m=s.count y:=⟨_,rfl⟩
 have hPl:P.length=m+1:=by rw[hP,hmc];exact iB
 have hc2:=fun H=> bA.is (.int .i64 (m:Nat)) (by rewrite [<-hmc];rfl) (C5 M H s y);have a1:mA .add .i64 ((m:Nat):Int) 1=some (.int .i64 ((m+1:Nat):Int)):=lB oM oM;have aCN:(if(((s.length:Nat):Int)+1)<((m+1:Nat):Int) then(((s.length:Nat):Int)+1) else((m+1:Nat):Int))=((m+1:Nat):Int):=if_neg oM;have s1:mA .sub .i64 ((m+1:Nat):Int) 1=some (.int .i64 ((m:Nat):Int)):=by rw[HO oM oM];congr 2;omega
 rw[<-hP];refine .en func242 ntmps242 fun St c cs hK=> ?_;refine G9 ?_;refine .cl (fun H hs=> hc2 H) ?_;refine U9 ?_;refine .x (pA.min rfl rfl rfl rfl rfl rfl (by assumption)) ?_;refine U5 ?_;refine .e (Or.makeSlice (E:=en) (len:=m+1) (cap:=m+1) rfl rfl rfl rfl rfl rfl (Nat.le_refl _) oM rfl rfl dE (fun b=> ?_));have hz:iC [gA []] ((m+1)*1)=dG P (m+1) 0:=by
  rw[vI,Nat.mul_one];unfold dG;rfl
 refine To.perm (L₁:= [(b,true,.cells ⟨dG P (m+1) 0⟩ 9 (0,0))]) (by rw[<-hz];exact List.Perm.refl _) ?_;refine vF ?_;refine Tc.db (Tc.sA (σ:= { x:Nat×List UInt8//x.1<=m/\JA y x.2=P.drop x.1/\x.2.length<=1000000 }) (fun x=> ([(0,gA x.1.2),(1,gA [y]),(2,.int .i64 0),(3,.int .i64 (m:Nat)),(9,.slice (some ⟨b,0,none⟩) (m+1) (m+1)),(10,.int .i64 (x.1.1:Nat))],[(b,true,.cells ⟨dG P (m+1) x.1.1⟩ 9 (0,0))])) (fun x=> m-x.1.1) ?_ ⟨(0,s),Nat.zero_le _,hP.symm,hm⟩);rintro⟨⟨i,r⟩,g1,g2,g3⟩ ih;simp only at g1 g2 g3;show Tc M St _ _ _ _ [(0,gA r),(1,gA [y]),(2,.int .i64 0),(3,.int .i64 (m:Nat)),(9,.slice (some ⟨b,0,none⟩) (m+1) (m+1)),(10,.int .i64 (i:Nat))] [(b,true,.cells ⟨dG P (m+1) i⟩ 9 (0,0))] _ _;have hlen:=lY hPl (i:=i) oM;have EJ:Nat.ble (0+((i:Nat):Int).toNat*1+1) (dG P (m+1) i).length=true:=by
  rw[hlen];exact Nat.ble_eq_true_of_le oM
 by_cases c1:i=m
 ·clear ih;subst c1;have wK:P[i]? =some r:=by
   have h1:(P.drop i).length=1:=by rw[List.length_drop];omega
   rw[<-g2,cH] at h1;have h2:y ∉ r:=fun h=> by have:=List.count_pos_iff.2 h;omega
   rw[sF y r h2] at g2;have h3:(P.drop i)[0]? =some r:=by rw[<-g2];rfl
   rwa [List.getElem?_drop] at h3
  have LB:=wT hPl wK;rw[AV hPl] at LB;have a2:mA .add .i64 ((i:Nat):Int) 1=some (.int .i64 ((i+1:Nat):Int)):=lB oM oM;refine P4 ?_;refine .x (pA.sliceTo (E:=en) (k:=i+1) rfl rfl rfl rfl rfl rfl oM oM) ?_;refine U2 ?_;refine .rt hK func242 results242 [_] ?_;refine fun H' hs=> ⟨hs.base,b,?_,trivial,fun z hz=> ?_⟩
  ·show _=DO P b;unfold DO;rw[hPl];rfl
  ·simp only[TK,List.mem_singleton] at hz;subst hz;exact⟨hs.get (i:=0) rfl,hs.fresh (i:=0) rfl⟩
 ·have c2:i<m:=by omega
  rcases GU y r with h0|⟨p,q,rfl,h0⟩
  ·exfalso
   rw[sF y r h0] at g2;have h1:=congrArg List.length g2;rw[List.length_drop,List.length_singleton] at h1;omega
  rw[FF y q p h0] at g2;have hp:P[i]? =some p:=by
   have h3:(P.drop i)[0]? =some p:=by rw[<-g2];rfl
   rwa [List.getElem?_drop] at h3
  have hq:JA y q=P.drop (i+1):=by
   have h3:(P.drop i).drop 1=JA y q:=by rw[<-g2];rfl
   rw[<-h3,List.drop_drop]
  have hx:=gN (q:=q) h0;have hl:(p++y::q).length=p.length+1+q.length:=by simp;omega
  have h1:([y]:List UInt8).length=1:=rfl;have t1:((p++y::q).drop ((0:Nat):Int).toNat).take ((((p.length:Nat):Int)+0).toNat-((0:Nat):Int).toNat)=p:=by simp
  have t2:((p++y::q).drop (((p.length:Nat):Int)+(([y].length:Nat):Int)).toNat).take ((((p++y::q).length:Nat):Int).toNat-(((p.length:Nat):Int)+(([y].length:Nat):Int)).toNat)=q:=by
   have e:(((p.length:Nat):Int)+(([y].length:Nat):Int)).toNat=p.length+1:=by simp only[h1];omega
   rw[e,hl,List.drop_append,List.drop_of_length_le oM,List.nil_append,Nat.add_sub_cancel_left,List.drop_succ_cons,List.drop_zero];exact List.take_of_length_le oM
  have LB:=wT hPl hp;have a2:mA .add .i64 ((i:Nat):Int) 1=some (.int .i64 ((i+1:Nat):Int)):=lB oM oM;have UJ:=ih ⟨(i+1,q),by simp only;omega,hq,by simp only;omega⟩ (by simp only;omega);clear ih;have hg:0<=0:=Nat.le_refl _;obtain⟨r,hr⟩:∃r,r=p++y::q:=⟨_,rfl⟩
  rw[<-hr] at hl hx t1 t2 g3;show Tc M St _ _ _ _ [(0,gA (p++y::q)),(1,gA [y]),(2,.int .i64 0),(3,.int .i64 (m:Nat)),(9,.slice (some ⟨b,0,none⟩) (m+1) (m+1)),(10,.int .i64 (i:Nat))] [(b,true,.cells ⟨dG P (m+1) i⟩ 9 (0,0))] _ _;rw[<-hr];clear hg hr;refine vF ?_;refine .cl (fun H hs=> G5 M H r y _ hx) ?_;refine SR ?_;refine .x (pA.zO (E:=en) rfl rfl rfl rfl rfl rfl oM oM oM t1) ?_;refine DD ?_;refine .x (pA.zO (E:=en) rfl rfl rfl rfl rfl rfl oM oM oM t2) ?_;refine U8 ?_;exact Tc.db (UJ)
theorem WM(s:List UInt8)(y:UInt8)(hm:s.length<=1000000):
  bA M 177 #[gA s,gA [y]] H (fun v H'=> H.le H'/\∃b,v=DO (JA y s) b/\True/\∀z∈TK (JA y s) b,H' z.1=some z.2/\H z.1=none):=by
 refine .en func177 ntmps177 fun St c cs hK=> ?_;refine U8 ?_;refine .e (Or.PB (DO (JA y s)) (TK (JA y s)) (fun _=> True) rfl rfl rfl rfl rfl dE (fun _=> by simp[TK]) (fun H hs=> .h (eZ M H s y hm)) (fun b _=> ?_));refine U2 ?_;refine .rt hK func177 results177 [_] ?_;refine fun H' hs=> ⟨hs.base,b,rfl,trivial,fun z hz=> ?_⟩
 simp only[TK,List.mem_singleton] at hz;subst hz;exact⟨hs.get (i:=0) rfl,hs.fresh (i:=0) rfl⟩
end
end Go.Proofs.YtldmfjcgjdchcaaGreatDoor
namespace Go.RL
open Go.Conc
def isIf:TypeDesc->Bool
 | .interface _=> true
 | _=> false
def ifT(P:Program)(t:TypeId):Bool:=match P.underlying t with|some D=> isIf D|none=> false
def I2(P:Program)(t:TypeId):Bool:=match P.underlying t with|some D=> !isIf D|none=> false
theorem F1 {P:Program}{t:TypeId}(h:ifT P t=true):∃ms,P.underlying t=some (.interface ms):=by
 unfold ifT at h;split at h
 ·rename_i D hD
  cases D <;> first|exact⟨_,hD⟩|cases h
 ·cases h
theorem vR {P:Program}{t:TypeId}(h:I2 P t=true):∃D,P.underlying t=some D/\isIf D=false:=by
 unfold I2 at h;split at h
 ·rename_i D hD
  exact⟨D,hD,by simpa using h⟩
 ·cases h
section
variable {P:Program}{E:Env P}{M:Md P}{n:Nat}{H₀:View}{R:Rg}{L L':Bl}{K:Rg->Bl->Prop}{o:Oper}{d:Nat}{v:Value}
theorem pA.aC3 {t u:TypeId}{x:Operand}(kA:o.op=.binOp .eql t x (.const .nilIface) u)(hx:HA R x=some .nilIface)(hi:ifT P t=true):pA P n H₀ R L o (.bool true):=fun H tmps _ hr=> by
 obtain⟨ms,ht⟩:=F1 hi;unfold execOp;rw[kA];simp only[hr.ev hx];show EA P (((eqGuard .eql t x (.const .nilIface) .nilIface .nilIface).bind fun _=> binOp .eql t .nilIface .nilIface).bind _) H _;refine aA _ _ (aA _ _ ?_);have hg:eqGuard .eql t x (.const .nilIface) .nilIface .nilIface=Sem.pure ():=by
  unfold eqGuard;cases x <;> rfl
 rw[hg];show EA P ((Op.equalIn (9999+1) t .nilIface .nilIface).bind fun c=> Sem.pure (Value.bool c)) H _;refine aA _ _ ?_;unfold Op.equalIn;refine aA (underlying t) _ (fA ht ?_);exact⟨rfl,rfl⟩
theorem pA.aC4 {t u:TypeId}{x:Operand}(kA:o.op=.binOp .neq t x (.const .nilIface) u)(hx:HA R x=some .nilIface)(hi:ifT P t=true):pA P n H₀ R L o (.bool false):=fun H tmps _ hr=> by
 obtain⟨ms,ht⟩:=F1 hi;unfold execOp;rw[kA];simp only[hr.ev hx];show EA P (((eqGuard .neq t x (.const .nilIface) .nilIface .nilIface).bind fun _=> binOp .neq t .nilIface .nilIface).bind _) H _;refine aA _ _ (aA _ _ ?_);have hg:eqGuard .neq t x (.const .nilIface) .nilIface .nilIface=Sem.pure ():=by
  unfold eqGuard;cases x <;> rfl
 rw[hg];show EA P ((Op.equalIn (9999+1) t .nilIface .nilIface).bind fun c=> Sem.pure (Value.bool (!c))) H _;refine aA _ _ ?_;unfold Op.equalIn;refine aA (underlying t) _ (fA ht ?_);exact⟨rfl,rfl⟩
theorem pA.iface {t:TypeId}{x:Operand}(kA:o.op=.makeInterface t x)(hx:HA R x=some v)(hi:I2 P t=true):pA P n H₀ R L o (.iface t v):=fun H tmps _ hr=> by
 obtain⟨D,ht,hD⟩:=vR hi;unfold execOp;rw[kA];simp only[hr.ev hx];refine aA (Instr.makeInterface t v) _ ?_;unfold Instr.makeInterface;refine aA (underlying t) _ (fA ht ?_);cases D <;> first|exact⟨rfl,rfl⟩|cases hD
theorem pA.FQ {t a:TypeId}{x:Operand}(kA:o.op=.typeAssert x t a true)(hx:HA R x=some (.iface a v))(hi:I2 P a=true):pA P n H₀ R L o (.tuple ⟨[v,.bool true]⟩):=fun H tmps _ hr=> by
 obtain⟨D,ht,hD⟩:=vR hi;unfold execOp;rw[kA];simp only[hr.ev hx];refine aA (Instr.typeAssert _ t a true) _ ?_;unfold Instr.typeAssert;refine aA (underlying a) _ (fA ht ?_);cases D <;> first
   | (show EA P (if a=a then Sem.pure (Value.tuple #[v,.bool true]) else _) H _
      rw[if_pos rfl];exact⟨rfl,rfl⟩)
   | (exfalso;cases hD;done)
theorem pA.DQ {t a b:TypeId}{x:Operand}{r:AA}(kA:o.op=.typeAssert x t a true)(hx:HA R x=some (.iface b v))(nB:Nat.beq b a=false)(hi:I2 P a=true)(rE:E.ty a=some r):pA P n H₀ R L o (.tuple ⟨[r.zero,.bool false]⟩):=fun H tmps _ hr=> by
 obtain⟨D,ht,hD⟩:=vR hi;unfold execOp;rw[kA];simp only[hr.ev hx];refine aA (Instr.typeAssert _ t a true) _ ?_;unfold Instr.typeAssert;refine aA (underlying a) _ (fA ht ?_);have h1:¬b=a:=fun e=> by rw[e,Nat.beq_refl] at nB;cases nB
 cases D <;> first
   | (show EA P (if b=a then Sem.pure (Value.tuple #[v,.bool true]) else(zeroValue a).bind fun z=> Sem.pure (Value.tuple #[z,.bool false])) H _
      rw[if_neg h1];refine aA (zeroValue a) _ (NB (E.ok _ _ rE).zero ?_);exact⟨rfl,rfl⟩)
   | (exfalso;cases hD;done)
def C7(P:Program)(t:TypeId)(name:String)(f:FuncId):Bool:=
 match P.info? t with
 | none=> false
 | some i=> match i.methods.find? (·.name==name) with
  | none=> false
  | some m=> (match m.path.toList with | []=> true|_=> false)&&(match m.func with|some (g,false)=> g==f|_=> false)&&(match P.underlying t with|some (.pointer _)=> false|some _=> true|none=> false)
theorem D7 {P:Program}{t:TypeId}{name:String}{f:FuncId}(h:C7 P t name f=true):∃(i:TypeInfo) (m:Method) (D:TypeDesc),P.info? t=some i/\i.methods.find? (·.name==name)=some m/\m.path=#[]/\m.func=some (f,false)/\P.underlying t=some D/\(match D with | .pointer _=> false|_=> true)=true:=by
 unfold C7 at h;split at h
 ·cases h
 ·rename_i i hi
  split at h
  ·cases h
  ·rename_i m hm
   simp only[Bool.and_eq_true] at h;obtain⟨⟨h1,h2⟩,h3⟩:=h;split at h1
   ·rename_i hp
    split at h2
    ·rename_i g hg
     split at h3
     ·cases h3
     ·rename_i D dC hD
      refine⟨i,m,D,hi,hm,Array.ext' hp,by rw[hg,beq_iff_eq.1 h2],hD,?_⟩;cases D <;> first|rfl|exact(dC _ rfl).elim
     ·cases h3
    ·cases h2
   ·cases h1
theorem DY {α:Type}{a:α}{H:View}{Q:α->View->Prop}(h:Q a H):EA P (Sem.pure a) H Q:=h
theorem cW {t:TypeId}{name:String}{f:FuncId}{args:Array Value}{H:View}{Q:Next->View->Prop}(hm:C7 P t name f=true)(hg:CA P f=true)(h:Q (.enter f (#[v]++args)) H):EA P (callMethod (.iface t v) name args) H Q:=by
 obtain⟨i,m,D,h2,h3,h4,h5,h6,h7⟩:=D7 hm;obtain⟨k,h1⟩:∃k,P.types.size+Made.depth=k+1:=⟨P.types.size+99,rfl⟩
 show EA P ((method (P.types.size+Made.depth) t v name).bind fun fr=> callFunc fr.1 (#[fr.2]++args)) H Q;rw[h1];refine aA _ _ ?_;unfold method;refine aA (typeInfo t) _ (MB h2 ?_);simp only[h3];rw[h4,h5];have hf:follow (#[]:Array FieldStep).toList t (.val v)=Sem.pure (t,Place.val v):=by
  show follow [] t (.val v)=_;unfold follow;rfl
 refine aA (follow (#[]:Array FieldStep).toList t (.val v)) _ ?_;rw[hf];refine DY ?_;show EA P ((receiverAt t (.val v) false _).bind fun r=> Sem.pure (f,r)) H _;refine aA (receiverAt t (.val v) false _) _ ?_;unfold receiverAt;refine aA (underlying t) _ (fA h6 ?_);cases D <;> first
  | exact kH hg h
  | (exfalso;cases h7;done)
theorem pA.IC {o:Oper}{u:Value}{cl:Go.Call}{x:Operand}{t:TypeId}{name:String}{f:FuncId}(kA:o.op=.call cl)(iB:cl.callee=.invoke x name)(VG:cl.args=#[])(hx:HA R x=some (.iface t v))(hm:C7 P t name f=true)(hg:CA P f=true)
  (hc:∀H,iA H₀ L H->bA M f #[v] H fun z H'=> H.le H'/\z=u):∀H tmps,iA H₀ L H->RA n R tmps->YC M o tmps H fun z H'=> z=u/\H.le H':=fun H tmps hs hr=> by
 have e1:=hr.ev hx;have hex:execOp (CB tmps) o=callMethod (.iface t v) name #[]:=by
  have h1:execOp (CB tmps) o=(resolve (CB tmps) cl o.type).bind fun d=> invoke d.target d.args:=by unfold execOp;rw[kA];rfl
  rw[h1];unfold resolve;rw[iB];simp only[e1,VG,Array.map_empty,Array.append_empty];show invoke (.fn (.method name) #[]) #[.iface t v]=_;unfold invoke;rfl
 unfold YC;rw[hex];have fin:∀z H',(H.le H'/\z=u)->z=u/\H.le H':=fun z H' ⟨h1,h2⟩=> ⟨h2,h1⟩
 exact cW hm hg (bA.mono (hc H hs) fin)
end
end Go.RL
namespace Go.Proofs.YtldmfjcgjdchcaaGreatDoor
open Go.RL Go.Proofs.Tryz
set_option maxRecDepth 10000
set_option maxHeartbeats 8000000
def PE(s:List UInt8):Nat:=s.foldl (fun n x=> 10*n+(x.toNat-48)) 0
theorem CJ(s:List UInt8)(x:UInt8):PE (s++[x])=10*PE s+(x.toNat-48):=by simp[PE]
theorem DN {s:List UInt8}(h:s.all CD=true):∀i,i<=s.length->PE (s.take i)<10 ^ i
 | 0,_=> by simp[PE]
 | i+1,hi=> by
  have ih:=DN h i oM;rw[List.take_succ_eq_append_getElem oM,CJ,Nat.pow_succ];have h1:CD s[i]=true:=List.all_eq_true.1 h _ (List.getElem_mem _);have h2:=of_decide_eq_true h1;omega
def cG(s:List UInt8):Bool:=
 decide (1<=(HB 45 s).length/\(HB 45 s).length<=9)&&(HB 45 s).all CD&&((HB 45 s)[0]?.getD 0 !=48||(HB 45 s).length==1 && !NA s [45])
def numOf(s:List UInt8):Int:=if NA s [45] then -((PE (HB 45 s):Nat):Int) else(PE (HB 45 s):Nat)
theorem B4:∀d:Nat,d<10->mA .sub .u8 ((48+d:Nat):Int) 48=some (.int .u8 ((d:Nat):Int)):=by
 intro d h;have:d=0\/d=1\/d=2\/d=3\/d=4\/d=5\/d=6\/d=7\/d=8\/d=9:=by omega
 rcases this with rfl|rfl|rfl|rfl|rfl|rfl|rfl|rfl|rfl|rfl <;> rfl
theorem tS {s:List UInt8}{q:Nat}{x:UInt8}(h:s[q]? =some x)(jj:List Value):tE false 1 (bB s++jj) (0+((q:Nat):Int).toNat*1)=some (.int .u8 (x.toNat:Nat)):=by
 show(bB s++jj)[0+((q:Nat):Int).toNat*1]? =_;rw[Int.toNat_natCast,Nat.zero_add,Nat.mul_one,List.getElem?_append_left (by rw[PG];exact(List.getElem?_eq_some_iff.1 h).1)];unfold bB;rw[List.getElem?_map,h];rfl
theorem VE {P:List (List UInt8)}{H:View}{b:Nat}{f:Bool}{jj:List Value}{e:TypeId}{fz:Nat×Nat}(h:H b=some (f,.cells ⟨VA P++jj⟩ e fz)):oC H (some ⟨b,0,none⟩) P.length (fun i=> P[i]?.getD []):=by
 refine .inr ⟨b,0,f,_,e,fz,rfl,h,fun j hj=> ?_⟩;show(VA P++jj)[0+((j:Nat):Int).toNat*1]? =_;rw[Int.toNat_natCast,Nat.zero_add,Nat.mul_one,List.getElem?_append_left (by rw[PC];exact hj)];unfold VA;show _=some (gA (P[j]?.getD []));rw[List.getElem?_map,List.getElem?_eq_getElem hj];rfl
section
variable(M:Md prog)(H:View)
theorem fS(F:Option Addr)(n fc:Nat)(x:Nat->List UInt8)(hF:oC H F n x)(hn:n<=1000001)(s:List UInt8):
  bA M 243 #[.slice F n fc,gA s] H (fun v H'=> H.le H'/\v=.int .i64 (fB (jA (fun i=> s==x i) n))):=by
 obtain⟨p,hp⟩:∃p:Nat->Bool,p=fun i=> s==x i:=⟨_,rfl⟩
 rw[<-hp];refine .en func243 ntmps243 fun St c cs hK=> ?_;refine PF ?_;refine Tc.db (Tc.sA (σ:= { j:Nat//j<=n/\jA p j=none }) (fun j=> ([(0,.slice F n fc),(1,gA s),(7,.int .i64 (n:Nat)),(8,.int .i64 (j.1:Nat))],[])) (fun j=> n-j.1) ?_ ⟨0,Nat.zero_le _,rfl⟩);rintro⟨j,hj,dC⟩ ih;show Tc M St _ _ _ _ [(0,.slice F n fc),(1,gA s),(7,.int .i64 (n:Nat)),(8,.int .i64 (j:Nat))] [] _ _;by_cases c1:j=n
 ·subst c1;rw[dC] at hK;refine qE ?_;refine .rt hK func243 results243 [_] ?_;exact okB
 ·have c2:j<n:=by omega
  rcases hF with h0|⟨ab,ao,f,gs,gt,gz,rfl,hb,hl⟩
  ·omega
  have f1:=hl j c2;have e1:RL.HC .eql s (x j)=some (.bool (p j)):=by rw[hp];rfl
  cases lF:p j with
  | true=>
   rw[lF] at e1;have e:jA p n=some j:=TA (j:=j+1) (by simp[jA,dC,lF]) _ oM;rw[e] at hK;refine U29 ?_;refine .rt hK func243 results243 [_] ?_;exact okB
  | false=>
   rw[lF] at e1;refine G9 ?_;exact Tc.db (ih ⟨j+1,oM,by simp[jA,dC,lF]⟩ (by simp only;omega))
theorem EH(F:Option Addr)(n fc:Nat)(x:Nat->List UInt8)(hF:oC H F n x)(hn:n<=1000001)(s:List UInt8)(t:Bool)(ht:(jA (fun i=> s==x i) n).isSome=t):
  bA M 178 #[.slice F n fc,gA s] H (fun v H'=> H.le H'/\v=.bool t):=by
 subst ht;have hi:=fun(H':View) (h':H.le H')=> fS M H' F n fc x (hF.le h') hn s;cases hf:jA (fun i=> s==x i) n with
 | none=>
  rw[hf] at hi;refine .en func178 ntmps178 fun St c cs hK=> ?_;refine U8 ?_;refine .cl (fun H hs=> hi H hs.base) ?_;refine U3 ?_;refine .rt hK func178 results178 [_] ?_;exact okB
 | some j=>
  rw[hf] at hi;have g1:mA .geq .i64 (fB (some j)) 0=some (.bool true):=jJ (by show(0:Int)<=(j:Nat);omega);refine .en func178 ntmps178 fun St c cs hK=> ?_;refine U8 ?_;refine .cl (fun H hs=> hi H hs.base) ?_;refine U3 ?_;refine .rt hK func178 results178 [_] ?_;exact okB
theorem aF:bA M 105 #[.bool true] H (fun v H'=> H.le H'/\v=.tuple ⟨[]⟩):=by
 refine .en func105 ntmps105 fun St c cs hK=> ?_;refine U7 ?_;refine .ov hK func105 results105 [] ?_;exact okB
theorem s9(s:List UInt8)(h1:(HB 45 s).all CD=true)(h2:1<=(HB 45 s).length/\(HB 45 s).length<=9):bA M 295 #[gA s] H (fun v H'=> H.le H'/\v=.tuple ⟨[.int .i64 (numOf s),.nilIface]⟩):=by
 obtain⟨d,hd⟩:∃d,d=HB 45 s:=⟨_,rfl⟩
 obtain⟨sg,JY⟩:∃sg,sg=NA s [45]:=⟨_,rfl⟩
 have hn:numOf s=if sg then -((PE d:Nat):Int) else(PE d:Nat):=by rw[JY,hd];rfl
 rw[hn];rw[<-hd] at h1 h2;have hd9:PE d<10 ^ 9:=by
   have:=DN h1 d.length (Nat.le_refl _);rw[List.take_length] at this;exact Nat.lt_of_lt_of_le this (Nat.pow_le_pow_right dE h2.2)
 have ht:∀i,i<=d.length->PE (d.take i)<1000000000:=fun i hi=> Nat.lt_of_lt_of_le (DN h1 i hi) (Nat.pow_le_pow_right (n:=10) dE (Nat.le_trans hi h2.2));have hsl:s.length<=10/\1<=s.length:=by
   cases sg with
   | true => obtain⟨q,rfl⟩:=OG JY.symm;have:d=q:=by rw[hd];unfold HB;rw[<-JY];rfl
             subst this;simp only[List.length_cons];omega
   | false => have:d=s:=by rw[hd];unfold HB;rw[<-JY];rfl
              subst this;omega
 have e0:s[0]? =some (s[0]?.getD 0):=by
   rw[List.getElem?_eq_getElem oM];rfl
 obtain⟨x0,hx0⟩:∃x,x=s[0]?.getD 0:=⟨_,rfl⟩
 rw[<-hx0] at e0;have b0:mA .eql .u8 ((x0.toNat:Nat):Int) 45=some (.bool sg):=by
   cases sg with
   | true=> obtain⟨q,rfl⟩:=OG JY.symm;cases e0;rfl
   | false=>
     have:d=s:=by rw[hd];unfold HB;rw[<-JY];rfl
     have h3:CD x0=true:=List.all_eq_true.1 h1 _ (by rw[this];exact List.mem_of_getElem? e0);have h4:=of_decide_eq_true h3;exact oK oM
 have p0:sg=false->mA .eql .u8 ((x0.toNat:Nat):Int) 43=some (.bool false):=fun hf=> by
   subst hf;have:d=s:=by rw[hd];unfold HB;rw[<-JY];rfl
   have h3:CD x0=true:=List.all_eq_true.1 h1 _ (by rw[this];exact List.mem_of_getElem? e0);have h4:=of_decide_eq_true h3;exact oK oM
 cases sg with
 | false=>
   have JB:d=s:=by rw[hd];unfold HB;rw[<-JY];rfl
   have p1:=p0 rfl;subst JB;refine .en func295 ntmps295 fun St c cs hK=> ?_;refine SR ?_;refine To.BB rfl dE rfl ?_;refine To.BB rfl dE rfl ?_;refine U41 ?_;refine .e (Or.HZ (E:=en) rfl rfl rfl rfl rfl rfl rfl rfl rfl dE (fun sb cap jj fz=> ?_));refine U4 ?_;refine Tc.db (Tc.sA (σ:= { x:Nat//x<=d.length }) (fun x=> ([(5,gA d),(6,.int .i64 (PE (d.take x.1):Nat)),(47,.slice (some ⟨sb,0,none⟩) d.length cap),(48,.int .i64 (d.length:Nat)),(49,.int .i64 (x.1:Nat))],[(sb,true,.cells ⟨bB d++jj⟩ 5 fz)])) (fun x=> d.length-x.1) ?_ ⟨0,Nat.zero_le _⟩);rintro⟨q,hq⟩ ih;show Tc M St _ _ _ _ [(5,gA d),(6,.int .i64 (PE (d.take q):Nat)),(47,.slice (some ⟨sb,0,none⟩) d.length cap),(48,.int .i64 (d.length:Nat)),(49,.int .i64 (q:Nat))] [(sb,true,.cells ⟨bB d++jj⟩ 5 fz)] _ _;by_cases c1:q=d.length
   · clear ih;subst c1;rw[List.take_length];refine P4 ?_;refine .rt hK func295 results295 [_,_] ?_;exact okB
   · have c2:q<d.length:=by omega
     have hx:=List.getElem?_eq_getElem c2;have h3:CD d[q]=true:=List.all_eq_true.1 h1 _ (List.getElem_mem _);have h4:=of_decide_eq_true h3;have UJ:=ih ⟨q+1,oM⟩ (by simp only;omega);clear ih;simp only at UJ;rw[List.take_succ_eq_append_getElem c2,CJ] at UJ;have xB:=ht q oM;generalize PE (d.take q)=z at UJ xB ⊢;obtain⟨y,hy⟩:∃y,y=d[q].toNat-48:=⟨_,rfl⟩
     have hy2:d[q].toNat=48+y:=by omega
     rw[<-hy] at UJ;have f1:=tS hx jj;rw[hy2] at f1;have u1:=B4 y oM;have g1:mA .gtr .u8 ((y:Nat):Int) 9=some (.bool false):=EG oM;have w1:IntKind.i64.wrap ((y:Nat):Int)=((y:Nat):Int):=wrap64 oM oM;have m1:mA .mul .i64 ((z:Nat):Int) 10=some (.int .i64 ((10*z:Nat):Int)):=by rw[kE oM oM];congr 2;omega
     have a1:mA .add .i64 ((10*z:Nat):Int) ((y:Nat):Int)=some (.int .i64 ((10*z+y:Nat):Int)):=by rw[lB oM oM];congr 2
     refine U42 ?_;exact Tc.db (UJ)
 | true=>
   obtain⟨d',hs'⟩:=OG JY.symm;have JB:d=d':=by rw[hd];unfold HB;rw[<-JY,hs'];rfl
   subst JB;subst hs';have hl:(45::d:List UInt8).length=d.length+1:=List.length_cons;cases e0
   have t1:((45::d:List UInt8).drop (1:Int).toNat).take ((((45::d:List UInt8).length:Nat):Int).toNat-(1:Int).toNat)=d:=by
     show d.take ((((45::d:List UInt8).length:Nat):Int).toNat-1)=d;exact List.take_of_length_le (by rw[Int.toNat_natCast,hl];omega)
   refine .en func295 ntmps295 fun St c cs hK=> ?_;refine SR ?_;refine To.BB rfl dE rfl ?_;refine To.BB rfl dE rfl ?_;refine F9 ?_;refine .x (pA.TN (E:=en) rfl rfl rfl rfl rfl oM (by exact rfl)) ?_;refine qE ?_;refine .x (pA.zO (E:=en) rfl rfl rfl rfl rfl rfl oM oM oM t1) ?_;refine SR ?_;refine .e (Or.HZ (E:=en) rfl rfl rfl rfl rfl rfl rfl rfl rfl dE (fun sb cap jj fz=> ?_));refine U4 ?_;refine Tc.db (Tc.sA (σ:= { x:Nat//x<=d.length }) (fun x=> ([(5,gA (45::d)),(6,.int .i64 (PE (d.take x.1):Nat)),(47,.slice (some ⟨sb,0,none⟩) d.length cap),(48,.int .i64 (d.length:Nat)),(49,.int .i64 (x.1:Nat))],[(sb,true,.cells ⟨bB d++jj⟩ 5 fz)])) (fun x=> d.length-x.1) ?_ ⟨0,Nat.zero_le _⟩);rintro⟨q,hq⟩ ih;show Tc M St _ _ _ _ [(5,gA (45::d)),(6,.int .i64 (PE (d.take q):Nat)),(47,.slice (some ⟨sb,0,none⟩) d.length cap),(48,.int .i64 (d.length:Nat)),(49,.int .i64 (q:Nat))] [(sb,true,.cells ⟨bB d++jj⟩ 5 fz)] _ _;by_cases c1:q=d.length
   · clear ih;subst c1;rw[List.take_length];refine qE ?_;refine .x (pA.TN (E:=en) rfl rfl rfl rfl rfl oM (by exact rfl)) ?_;refine U5 ?_;refine .x .ng ?_;refine U8 ?_;refine .rt hK func295 results295 [_,_] ?_;exact okB
   · have c2:q<d.length:=by omega
     have hx:=List.getElem?_eq_getElem c2;have h3:CD d[q]=true:=List.all_eq_true.1 h1 _ (List.getElem_mem _);have h4:=of_decide_eq_true h3;have UJ:=ih ⟨q+1,oM⟩ (by simp only;omega);clear ih;simp only at UJ;rw[List.take_succ_eq_append_getElem c2,CJ] at UJ;have xB:=ht q oM;generalize PE (d.take q)=z at UJ xB ⊢;obtain⟨y,hy⟩:∃y,y=d[q].toNat-48:=⟨_,rfl⟩
     have hy2:d[q].toNat=48+y:=by omega
     rw[<-hy] at UJ;have f1:=tS hx jj;rw[hy2] at f1;have u1:=B4 y oM;have g1:mA .gtr .u8 ((y:Nat):Int) 9=some (.bool false):=EG oM;have w1:IntKind.i64.wrap ((y:Nat):Int)=((y:Nat):Int):=wrap64 oM oM;have m1:mA .mul .i64 ((z:Nat):Int) 10=some (.int .i64 ((10*z:Nat):Int)):=by rw[kE oM oM];congr 2;omega
     have a1:mA .add .i64 ((10*z:Nat):Int) ((y:Nat):Int)=some (.int .i64 ((10*z+y:Nat):Int)):=by rw[lB oM oM];congr 2
     refine U42 ?_;exact Tc.db (UJ)
theorem B5(s:List UInt8)(h1:(HB 45 s).all CD=true)(h2:1<=(HB 45 s).length/\(HB 45 s).length<=9):bA M 245 #[gA s] H (fun v H'=> H.le H'/\v=.tuple ⟨[.int .i64 (numOf s),.nilIface]⟩):=by
 refine .en func245 ntmps245 fun St c cs hK=> ?_;refine U8 ?_;refine .cl (fun H hs=> s9 M H s h1 h2) ?_;refine DD ?_;refine .x (pA.aC4 rfl rfl kR) ?_;refine U9 ?_;refine .rt hK func245 results245 [_,_] ?_;exact okB
end
def bJ(n:Nat):List UInt8:=if n<10 then [UInt8.ofNat (48+n)] else [UInt8.ofNat (48+n/10),UInt8.ofNat (48+n%10)]
def aH(n:Int):List UInt8:=bJ n.toNat
def yF(a b:Int):List UInt8:=if a=b then aH a else aH a++58::aH b
theorem vT:∀n,n<100->cG (bJ n)=true/\numOf (bJ n)=(n:Nat)/\(58 ∉ bJ n)/\(59 ∉ bJ n)/\(10 ∉ bJ n)/\(bJ n).length<=2/\bJ n≠ []:=by decide +kernel
def KH(s:List UInt8):Bool:=
 match JA 58 s with
 | [p]=> cG p
 | p::_=> cG p&&cG (s.drop (p.length+1))&&numOf p !=numOf (s.drop (p.length+1))
 | []=> false
def JH(s:List UInt8):Int:=numOf ((JA 58 s).headD [])
def eJ(s:List UInt8):Int:=if 58∈s then numOf (s.drop (((JA 58 s).headD []).length+1)) else JH s
theorem CP {s:List UInt8}(h:(58:UInt8) ∉ s):KH s=cG s/\JH s=numOf s/\eJ s=numOf s:=by
 unfold KH eJ JH;rw[sF 58 s h,if_neg h];exact⟨rfl,rfl,rfl⟩
theorem tN {p q:List UInt8}(h:(58:UInt8) ∉ p):KH (p++58::q)=(cG p&&cG q&&numOf p !=numOf q)/\JH (p++58::q)=numOf p/\eJ (p++58::q)=numOf q:=by
 have e:(p++58::q).drop (p.length+1)=q:=by
  rw[List.drop_append,List.drop_of_length_le oM,List.nil_append,Nat.add_sub_cancel_left,List.drop_succ_cons,List.drop_zero]
 have hm:(58:UInt8)∈p++58::q:=by simp
 have hc:=FF 58 q p h;unfold eJ JH;rw[hc,if_pos hm];refine⟨?_,rfl,by show numOf ((p++58::q).drop (p.length+1))=_;rw[e]⟩;unfold KH;rw[hc];cases hq:JA 58 q with
 | nil=> exact(dQ 58 q hq).elim
 | cons a l=>
  show(cG p&&cG ((p++58::q).drop (p.length+1))&&numOf p !=numOf ((p++58::q).drop (p.length+1)))=_;rw[e]
section
variable(M:Md prog)(H:View)
theorem eI(s:List UInt8)(hm:s.length<=1000000)(h:cG s=true):bA M 179 #[gA s] H (fun v H'=> H.le H'/\v=.int .i64 (numOf s)):=by
 unfold cG at h;simp only[Bool.and_eq_true,Bool.or_eq_true] at h;obtain⟨⟨h1,h2⟩,h3⟩:=h;have h1:=of_decide_eq_true h1;have R6:=fun H=> bS M H s 45 hm;have NF:=fun H=> B5 M H s h2 h1;obtain⟨sg,JY⟩:∃sg,sg=NA s [45]:=⟨_,rfl⟩
 generalize HB 45 s=d at h1 h2 h3 R6 NF;rw[<-JY] at h3 R6;have e0:d[0]? =some (d[0]?.getD 0):=by
  rw[List.getElem?_eq_getElem oM];rfl
 generalize d[0]?.getD 0=x0 at e0 h3;have e17:RL.HC .eql (AM d) []=some (.bool true):=by
  show some (Value.bool (AM d== []))=_;rw[mQ,h2]
 have XX:=fun H=> fZ M H d oM;cases hx:x0 !=48 with
 | true=>
  have n1:mA .neq .u8 ((x0.toNat:Nat):Int) 48=some (.bool true):=sM (fun e=> by
   have:x0=48:=UInt8.toNat_inj.1 (by show x0.toNat=48;omega);rw[this] at hx;cases hx)
  refine .en func179 ntmps179 fun St c cs hK=> ?_;refine U7 ?_;refine .cl (fun H hs=> R6 H) ?_;refine DD ?_;refine .cl (fun H hs=> uA M H (d.length:Nat) 1 9 true (decide_eq_true oM)) ?_;refine U2 ?_;refine .cl (fun H hs=> XX H) ?_;refine qE ?_;refine To.BB rfl dE rfl ?_;refine To.BB rfl dE rfl ?_;refine U3 ?_;refine .cl (fun H hs=> aF M H) ?_;refine U4 ?_;refine .cl (fun H hs=> NF H) ?_;refine qE ?_;refine .rt hK func179 results179 [_] ?_;exact okB
 | false=>
  rw[hx] at h3;have h4:x0=48:=by simpa using hx
  subst h4;have h5:d.length=1/\sg=false:=by simpa using h3
  obtain⟨h5,rfl⟩:=h5;have n2:mA .eql .i64 ((d.length:Nat):Int) 1=some (.bool true):=pK oM;refine .en func179 ntmps179 fun St c cs hK=> ?_;refine U7 ?_;refine .cl (fun H hs=> R6 H) ?_;refine DD ?_;refine .cl (fun H hs=> uA M H (d.length:Nat) 1 9 true (decide_eq_true oM)) ?_;refine U2 ?_;refine .cl (fun H hs=> XX H) ?_;refine aP ?_;refine .cl (fun H hs=> aF M H) ?_;refine U4 ?_;refine .cl (fun H hs=> NF H) ?_;refine qE ?_;refine .rt hK func179 results179 [_] ?_;exact okB
theorem rS(s:List UInt8)(hm:s.length<=1000000)(h:KH s=true):bA M 181 #[gA s] H (fun v H'=> H.le H'/\v=dJ (JH s) (eJ s)):=by
 rcases GU 58 s with h0|⟨p,q,rfl,h0⟩
 ·obtain⟨b1,b2,b3⟩:=CP h0;rw[b1] at h;rw[b2,b3];refine .en func181 ntmps181 fun St c cs hK=> ?_;refine U2 ?_;refine .al fun b2=> ?_;refine U4 ?_;refine .cl (fun H hs=> w9 M H s 58 h0) ?_;refine qE ?_;refine .cl (fun H hs=> eI M H s hm h) ?_;refine .cl (fun H hs=> aX M H (numOf s)) ?_;refine .al fun b6=> ?_;refine vF ?_;refine .rt hK func181 results181 [_] ?_;exact okB
 ·obtain⟨b1,b2,b3⟩:=tN (q:=q) h0;rw[b1] at h;rw[b2,b3];simp only[Bool.and_eq_true] at h;obtain⟨⟨h1,h2⟩,h3⟩:=h;have h4:numOf p≠numOf q:=by simpa using h3
  have hl:(p++58::q).length=p.length+1+q.length:=by simp;omega
  have n1:mA .neq .i64 (numOf p) (numOf q)=some (.bool true):=sM h4;have c1:=fun H=> eI M H p oM h1;have c2:=fun H=> eI M H q oM h2;generalize numOf p=x at n1 c1;generalize numOf q=z at n1 c2;refine .en func181 ntmps181 fun St c cs hK=> ?_;refine U2 ?_;refine .al fun b2=> ?_;refine U4 ?_;refine .cl (fun H hs=> v9 M H p q 58 h0 oM) ?_;refine qE ?_;refine .cl (fun H hs=> c1 H) ?_;refine .cl (fun H hs=> aX M H x) ?_;refine .al fun b6=> ?_;refine qE ?_;refine .cl (fun H hs=> c2 H) ?_;refine U9 ?_;refine .cl (fun H hs=> aF M H) ?_;refine U6 ?_;refine .rt hK func181 results181 [_] ?_;exact okB
def dd:List UInt8:= [48,48,48,49,48,50,48,51,48,52,48,53,48,54,48,55,48,56,48,57,49,48,49,49,49,50,49,51,49,52,49,53,49,54,49,55,49,56,49,57,50,48,50,49,50,50,50,51,50,52,50,53,50,54,50,55,50,56,50,57,51,48,51,49,51,50,51,51,51,52,51,53,51,54,51,55,51,56,51,57,52,48,52,49,52,50,52,51,52,52,52,53,52,54,52,55,52,56,52,57,53,48,53,49,53,50,53,51,53,52,53,53,53,54,53,55,53,56,53,57,54,48,54,49,54,50,54,51,54,52,54,53,54,54,54,55,54,56,54,57,55,48,55,49,55,50,55,51,55,52,55,53,55,54,55,55,55,56,55,57,56,48,56,49,56,50,56,51,56,52,56,53,56,54,56,55,56,56,56,57,57,48,57,49,57,50,57,51,57,52,57,53,57,54,57,55,57,56,57,57]
theorem aCw:∀n,n<100->10<=n->(dd.drop (n*2)).take 2=bJ n:=by decide +kernel
theorem L2:∀n,n<10-> [SG n]=bJ n:=by decide
theorem L3(n:Nat)(h:n<100)(h2:10<=n):bA M 286 #[.int .i64 (n:Nat)] H (fun v H'=> H.le H'/\v=gA (bJ n)):=by
 have hl:((dd.length:Nat):Int)=200:=rfl;have e:(dd.drop (((n:Nat):Int)*2).toNat).take (((((n:Nat):Int)*2)+2).toNat-(((n:Nat):Int)*2).toNat)=bJ n:=by
  rw[<-aCw n h h2,show(((n:Nat):Int)*2).toNat=n*2 by omega,show((((n:Nat):Int)*2)+2).toNat-n*2=2 by omega]
 refine .en func286 ntmps286 fun St c cs hK=> ?_;refine XM ?_;refine .i ?_ (z:=kE oM oM);refine U ?_;refine .i ?_ (z:=kE oM oM);refine U ?_;refine .x (pA.zO (E:=en) (l:=dd) rfl rfl rfl rfl rfl rfl oM oM oM e) ?_;refine U2 ?_;refine .rt hK func286 results286 [_] ?_;exact okB
theorem M3(n:Nat)(h:n<100):bA M 286 #[.int .i64 (n:Nat)] H (fun v H'=> H.le H'/\v=gA (bJ n)):=by
 by_cases h2:10<=n
 ·exact L3 M H n h h2
 ·have:=gX M H n oM;rw[L2 n oM] at this;exact this
theorem rX(n:Nat)(h:n<100):bA M 240 #[.int .i64 (n:Nat),.int .i64 10] H (fun v H'=> H.le H'/\v=gA (bJ n)):=by
 refine .en func240 ntmps240 fun St c cs hK=> ?_;refine U25 ?_;refine .cl (fun H hs=> M3 M H n h) ?_;refine U2 ?_;refine .rt hK func240 results240 [_] ?_;exact okB
theorem K5(n:Nat)(h:n<100):bA M 173 #[.int .i64 (n:Nat)] H (fun v H'=> H.le H'/\v=gA (bJ n)):=by
 refine .en func173 ntmps173 fun St c cs hK=> ?_;refine U7 ?_;refine .cl (fun H hs=> rX M H n h) ?_;refine U2 ?_;refine .rt hK func173 results173 [_] ?_;exact okB
theorem ZJ(z:Int)(h:0<=z/\z<100):bA M 93 #[.int .i64 z] H (fun v H'=> H.le H'/\v=gA (aH z)):=by
 obtain⟨n,rfl⟩:=Int.eq_ofNat_of_zero_le h.1;refine .en func93 ntmps93 fun St c cs hK=> ?_;refine U7 ?_;refine .cl (fun H hs=> K5 M H n oM) ?_;refine U2 ?_;refine .rt hK func93 results93 [_] ?_;exact okB
theorem SE {z:Int}(h:0<=z/\z<100):(aH z).length<=2:=(vT z.toNat oM).2.2.2.2.2.1
theorem uN(a b:Int)(ha:0<=a/\a<100)(hb:0<=b/\b<100):bA M 94 #[dJ a b] H (fun v H'=> H.le H'/\v=gA (yF a b)):=by
 have l1:=SE ha;have l2:=SE hb;by_cases e:a=b
 ·subst e;have hT:yF a a=aH a:=if_pos rfl;rw[hT];refine .en func94 ntmps94 fun St c cs hK=> ?_;refine U2 ?_;refine .bo fun b1=> ?_;refine aP ?_;refine .cl (fun H hs=> ZJ M H a ha) ?_;refine U2 ?_;refine .rt hK func94 results94 [_] ?_;exact okB
 ·have hT:yF a b=aH a++[58]++aH b:=by
   unfold yF;rw[if_neg e,List.append_assoc];rfl
  rw[hT];have c1:=fun H=> ZJ M H a ha;have c2:=fun H=> ZJ M H b hb;generalize aH a=p at l1 c1;generalize aH b=q at l2 c2;have s1:RL.HC .add p [58]=some (gA (p++[58])):=UE (by simp only[List.length_singleton];omega);have s2:RL.HC .add (p++[58]) q=some (gA (p++[58]++q)):=UE (by simp only[List.length_append,List.length_singleton];omega);refine .en func94 ntmps94 fun St c cs hK=> ?_;refine U2 ?_;refine .bo fun b1=> ?_;refine vF ?_;refine Tc.dr [] [] mixed rfl ?_;refine V2 0 ?_;refine .z 2 rfl (pA.tk fun H hs=> c1 H) ?_;refine V3 3 ?_;refine .z 6 rfl (pA.tk fun H hs=> c2 H) ?_;refine V2 7 ?_;refine .dn ?_;refine .rt hK func94 results94 [_] ?_;exact okB
end
end Go.Proofs.YtldmfjcgjdchcaaGreatDoor
namespace Go.RL
open Go.Conc
section
variable {P:Program}{E:Env P}{M:Md P}{n:Nat}{H₀:View}{R:Rg}{L L':Bl}{K:Rg->Bl->Prop}{o:Oper}{d:Nat}{v:Value}
theorem pA.rY {cl:Go.Call}{x:Operand}{t:TypeId}{a:Addr}{m c:Nat}(kA:o.op=.call cl)(iB:cl.callee=.builtin .unsafeSliceData)(NF:cl.argTypes=#[t])(VG:cl.args=#[x])(hx:HA R x=some (.slice (some a) m c))(hc:Nat.beq c 0=false):
  pA P n H₀ R L o (.pointer (some a)):=fun H tmps _ hr=> by
 unfold execOp;rw[kA];simp only[resolve,iB,NF,VG];have hm:Array.map (CB tmps) #[x]=#[.slice (some a) m c]:=by simp[hr.ev hx]
 rw[hm];refine aA (Builtin.unsafeSliceData_ #[t] o.type #[.slice (some a) m c]) _ ?_;have h0:c≠0:=Nat.ne_of_beq_eq_false hc;show EA P (if c≠0 then Sem.pure (Value.pointer (some a)) else _) H _;rw[if_pos h0];exact⟨rfl,rfl⟩
theorem uJ {H:View}{f:Bool}{e:TypeId}{fz:Nat×Nat}{l:List Value}(blk:Nat)(hb:H blk=some (f,.cells ⟨l⟩ e fz)):∀(s a:List UInt8) (off:Nat) {Q:ByteArray->View->Prop},(∀i x,s[i]? =some x->l[off+i]? =some (.int .u8 (x.toNat:Nat)))->Q ⟨⟨a++s⟩⟩ H->EA P (loadBytes ⟨blk,off,none⟩ ⟨⟨a⟩⟩ s.length) H Q
 | [],a,off,Q,_,h=> by
  rw[List.append_nil] at h;exact h
 | x ::s,a,off,Q,hl,h=> by
  have h0:=hl 0 x rfl;have ih:=uJ blk hb s (a++[x]) (off+1) (Q:=Q) (fun i y hy=> by
   have:=hl (i+1) y hy;rw[show off+1+i=off+(i+1) by omega];exact this) (by rw[List.append_assoc];exact h)
  refine⟨rfl,rfl,f,⟨l⟩,e,fz,.int .u8 (x.toNat:Nat),hb,?_,?_⟩
  ·simpa using h0
  ·have e1:(ByteArray.mk ⟨a⟩).push ((x.toNat:Nat):Int).toNat.toUInt8=ByteArray.mk ⟨a++[x]⟩:=by
    rw[Int.toNat_natCast,Nat.toUInt8,UInt8.ofNat_toNat,vU]
   show EA P (loadBytes (Addr.add ⟨blk,off,none⟩ 1) ((ByteArray.mk ⟨a⟩).push ((x.toNat:Nat):Int).toNat.toUInt8) s.length) H Q;rw[e1];exact ih
theorem Or.yY(j:Nat){cl:Go.Call}{x y:Operand}{t u e eb blk:Nat}{s:List UInt8}{jj:List Value}(kA:o.op=.call cl)(iB:cl.callee=.builtin .unsafeString)(NF:cl.argTypes=#[t,u])(VG:cl.args=#[x,y])
  (hx:HA R x=some (.pointer (some ⟨blk,0,none⟩))) (hy:HA R y=some (.int .i64 (s.length:Nat))) (ht:P.underlying t=some (.pointer e)) (AH:s≠ []) (UP:s.length<=1000000000)
  (hL:L[j]? =some (blk,true,.cells ⟨bB s++jj⟩ eb (0,0))) (YS:liesAt P P.depth eb ((bB s++jj).length/P.cellsOf eb) 0 e s.length=true) (hd:o.dst=some d) (hn:d<n)
  (hk:K ((d,gA s)::R) (L.set j (blk,true,.cells ⟨bB s++jj⟩ eb (0,s.length)))):Or M n H₀ R L o K:=
 .val hd hn fun H tmps LB hr=> by
  unfold execOp;rw[kA];simp only[resolve,iB,NF,VG];have UX:Array.map (CB tmps) #[x,y]=#[.pointer (some ⟨blk,0,none⟩),.int .i64 (s.length:Nat)]:=by simp[hr.ev hx,hr.ev hy]
  rw[UX];have hb:=LB.get hL;have eV:0<s.length:=List.length_pos_iff.2 AH;have h1:¬((s.length:Nat):Int)<0:=by omega
  have h2:¬((s.length:Nat):Int)>IntKind.i64.max:=by
   have:IntKind.i64.max=9223372036854775807:=by decide
   omega
  have h3:¬((s.length:Nat):Int)=0:=by omega
  refine aA (Builtin.unsafeString_ #[t,u] o.type #[.pointer (some ⟨blk,0,none⟩),.int .i64 (s.length:Nat)]) _ ?_;have hz1:∀z:Int,(((s.length:Nat):Int)=z)->¬z<0/\¬z>IntKind.i64.max/\¬z=0/\z.toNat=s.length:=fun z hz=> by subst hz;exact⟨h1,h2,h3,Int.toNat_natCast _⟩
  generalize Y8:((s.length:Nat):Int)=z;obtain⟨z1,z2,z3,z4⟩:=hz1 z Y8
  conv=> arg 2;whnf
  rw[show(IntKind.i64,z).snd.decLt 0=isFalse z1 from Subsingleton.elim _ _]
  conv=> arg 2;whnf
  rw[show IntKind.i64.max.decLt (IntKind.i64,z).snd=isFalse z2 from Subsingleton.elim _ _]
  conv=> arg 2;whnf
  rw[show(IntKind.i64,z).snd.instDecidableEq 0=isFalse z3 from Subsingleton.elim _ _];refine aA (elemOf t) _ (aA (underlying t) _ (fA ht ?_));refine aA (variablesAt ⟨blk,0,none⟩ e z.toNat) _ ?_;rw[z4];refine⟨true,_,_,_,hb,?_⟩;show EA P (if liesAt P P.depth eb ((bB s++jj).length/P.cellsOf eb) 0 e s.length=true then _ else _) H _;rw[if_pos YS];refine aA (loadBytes ⟨blk,0,none⟩ .empty s.length) _ ?_;refine uJ blk hb s [] 0 (fun i x hx=> ?_) ?_
  ·rw[Nat.zero_add,List.getElem?_append_left (by rw[PG];exact(List.getElem?_eq_some_iff.1 hx).1)];unfold bB;rw[List.getElem?_map,hx];rfl
  ·refine⟨oM,_,_,_,hb,?_⟩;refine⟨_,rfl,_,LB.set hL _,?_⟩;have e1:(if((0:Nat),(0:Nat)).1==((0:Nat),(0:Nat)).2 then(0,0+s.length) else(min ((0:Nat),(0:Nat)).1 0,max ((0:Nat),(0:Nat)).2 (0+s.length)))=(0,s.length):=by simp
   show K ((d,gA s)::R) (L.set j (blk,true,.cells ⟨bB s++jj⟩ eb (if((0:Nat),(0:Nat)).1==((0:Nat),(0:Nat)).2 then(0,0+s.length) else(min ((0:Nat),(0:Nat)).1 0,max ((0:Nat),(0:Nat)).2 (0+s.length)))));rw[e1];exact hk
end
end Go.RL
namespace Go.Proofs.YtldmfjcgjdchcaaGreatDoor
open Go.RL Go.Proofs.Tryz
set_option maxRecDepth 10000
theorem pY(fits:TypeId->Bool)(hf:fits 5=true)(k count n:Nat)(h:n<=count):rowAt prog fits (k+1) 5 count 0 n=true:=by
 have hc:prog.cellsOf 5=1:=by kernel_rfl
 unfold rowAt;simp only[hc];simp[h,hf]
theorem rV(count n:Nat)(h:n<=count):liesAt prog prog.depth 5 (count/prog.cellsOf 5) 0 5 n=true:=by
 have hc:prog.cellsOf 5=1:=by kernel_rfl
 obtain⟨k,hk⟩:∃k,prog.depth=k+1:=⟨prog.depth-1,by
  have:1<=prog.depth:=Nat.le_of_ble_eq_true kR;omega⟩
 have hf:sameLayout prog prog.depth 5 5=true:=by kernel_rfl
 have h1:=pY (fun t=> sameLayout prog prog.depth t 5) hf k count n h;rw[hc,Nat.div_one];show liesAt prog prog.depth 5 count 0 5 n=true;rw[hk] at h1 ⊢;show(rowAt prog (fun t=> sameLayout prog prog.depth t 5) prog.depth 5 count 0 n||_)=true;rw[hk,h1];rfl
theorem Y2:prog.underlying 275=some (.pointer 5):=by kernel_rfl
end Go.Proofs.YtldmfjcgjdchcaaGreatDoor
namespace Go.RL
section
variable {P:Program}{E:Env P}{M:Md P}{n:Nat}{H₀:View}{R:Rg}{L:Bl}{K:Rg->Bl->Prop}{o:Oper}{d:Nat}
theorem Or.qN(k:Nat)(T:Bl->Bl){Y:Bl}(hT:∀B,(T B).Perm (Y++B)){cl:Go.Call}{x y:Operand}{t xt e:TypeId}{sz m:Nat}{yv:Value}{new:List Value}{g:Gl e sz}{r re rx:AA}{ex:TypeId}(kA:o.op=.call cl)(iB:cl.callee=.builtin .append)(NF:cl.argTypes=#[t,xt])(VG:cl.args=#[x,y])
  (hx:HA R x=some g.val) (hy:HA R y=some yv) (ht:E.ty t=some r) (JB:r.ds=.slice e) (eD:E.ty e=some re) (LD:re.size=sz) (kV:Nat.beq re.zero.cells.toList.length sz=true) (jV:E.ty xt=some rx) (hex:rx.ds=.slice ex) (QX:Nat.ble re.bytes 1000=true)
  (hL:L.drop k=T g.bl) (BL:∀H,iA H₀ L H->ZA H sz yv m new) (hs:new.all single=true) (hm:g.n+m<=1000000000) (hd:o.dst=some d) (hn:d<n)
  (hk:∀g':Gl e sz,g'.n=g.n+m->g'.l=g.l++new->K ((d,g'.val)::R) (L.take k++T g'.bl)):Or M n H₀ R L o K:=
 .val hd hn fun H tmps LB hr=> by
  have G8:L=L.take k++T g.bl:=by rw[<-hL,List.take_append_drop]
  unfold execOp;rw[kA];simp only[resolve,iB,NF,VG];have UX:Array.map (CB tmps) #[x,y]=#[g.val,yv]:=by simp[hr.ev hx,hr.ev hy]
  rw[UX];have hp:∀B,((L.take k++Y)++B).Perm (L.take k++T B):=fun B=> by rw[List.append_assoc];exact(List.Perm.refl _).append (hT B).symm
  have gR:=LB;rw[G8] at gR;have jP:iA H₀ ((L.take k++Y)++g.bl) H:=gR.perm (hp g.bl);refine aA (Builtin.append_ #[t,xt] o.type #[g.val,yv]) _ ?_;refine QO ht JB eD LD (Nat.eq_of_beq_eq_true kV) ⟨rx,ex,jV,hex⟩ (Nat.le_of_ble_eq_true QX) hm (fun z hz=> jP.at_ z (by simp[hz])) (BL H LB) hs fun g' H' h1 h2 h3 h4 h5=> ?_;exact⟨_,rfl,_,(jP.grown h3 h4 h5).perm (hp g'.bl).symm,hk g' h1 h2⟩
theorem aAx(Y:Bl):∀B:Bl,(B++Y).Perm (Y++B):=fun _=> List.perm_append_comm
end
end Go.RL
namespace Go.RL
open Go.Conc
section
variable {P:Program}{E:Env P}{M:Md P}{n:Nat}{H₀:View}{R:Rg}{L L':Bl}{K:Rg->Bl->Prop}{o:Oper}{d:Nat}{v:Value}
theorem NR {t xt e:TypeId}{rt:TypeId}{r re:AA}{sz m:Nat}{y:Value}{new:List Value}{g:Gl e sz}{H:View}{Q:Value->View->Prop}(ht:E.ty t=some r)(JB:r.ds=.slice e)(eD:E.ty e=some re)(LD:re.size=sz)(kV:re.zero.cells.toList.length=sz)
  (jV:∃rx,E.ty xt=some rx/\rx.ds=.str) (QX:re.bytes<=1000) (hn:g.n+m<=1000000000) (hb:∀x∈g.bl,H x.1=some x.2) (hyl:∀Q:Nat->View->Prop,Q m H->EA P (Builtin.lenOf y) H Q) (hyf:∀Q:Array Value->View->Prop,Q ⟨new⟩ H->EA P (Builtin.firstCells sz m y) H Q) (hyn:new.length=m*sz) (hs:new.all single=true)
  (hq:∀(g':Gl e sz) (H':View),g'.n=g.n+m->g'.l=g.l++new->(∀b,g'.blk=some b->((g.blk=some b/\g'.cap=g.cap)\/H b=none))->(∀c,(∀b,g'.blk=some b->b≠c)->H' c=H c)->(∀x∈g'.bl,H' x.1=some x.2)->Q g'.val H'):
  EA P (Builtin.append_ #[t,xt] rt #[g.val,y]) H Q:=by
 obtain⟨rx,C1,eT⟩:=jV;have hold:=g.src hb;obtain⟨a,dR⟩:∃a,g.val=.slice a g.n g.cap:=⟨_,rfl⟩
 show EA P ((underlying t).bind fun _=> _) H Q;refine aA (underlying t) _ (fA (wC ((E.ok _ _ ht).ds.trans JB)) ?_);rw[dR];show EA P ((sizeOf e).bind fun _=> _) H Q;refine aA (sizeOf e) _ (LA (E.ok _ _ eD).size ?_);refine aA (underlying xt) _ (fA (YE ((E.ok _ _ C1).ds.trans eT)) ?_);refine aA (Builtin.lenOf y) _ (hyl _ ?_);simp only[LD];by_cases aC:g.n+m<=g.cap
 ·rw[if_pos aC];show EA P ((Builtin.firstCells sz m y).bind fun _=> _) H Q;refine aA _ _ (hyf _ ?_);cases FG:g.blk with
  | none=>
   have h1:=g.h0 FG;have e1:a=none:=by
    unfold Gl.val at dR;rw[FG] at dR
    injection dR with e1
    exact e1.symm
   subst e1;have hm:m=0:=by omega
   have aV:new= []:=List.eq_nil_of_length_eq_zero (by rw[hyn,hm];simp);have:=hq g H oM (by rw[aV];simp) (fun b hb=> .inl ⟨hb,rfl⟩) (fun c _=> rfl) hb;rw[dR] at this;show Q (.slice none (g.n+m) g.cap) H;rw[hm];exact this
  | some b=>
   have e1:a=some ⟨b,0,none⟩:=by
    unfold Gl.val at dR;rw[FG] at dR;cases dR
    rfl
   subst e1;have hHb:H b=some (true,.cells ⟨g.l++g.kB⟩ e (0,0)):=by
    have:=hb (b,true,.cells ⟨g.l++g.kB⟩ e (0,0)) (by unfold Gl.bl;rw[FG];simp);exact this
   show EA P ((storeCells (Addr.add ⟨b,0,none⟩ (g.n*sz)) new).bind fun _=> Sem.pure (.slice (some ⟨b,0,none⟩) (g.n+m) g.cap)) H Q;refine aA _ _ ?_;rw[FE _ _ rfl];have hlen:new.length=m*sz:=hyn;have QW:m*sz<=g.kB.length:=by rw[g.hj];exact Nat.mul_le_mul_right _ oM
   refine DC b _ new 0 (g.l++g.kB) hHb (by simp only[List.length_append,g.hl];omega) hs fun H' RP=> ?_;have LB:uG (g.l++g.kB) (0+g.n*sz+0) new=(g.l++new)++g.kB.drop new.length:=by
    unfold uG;simp only[Nat.zero_add,Nat.add_zero,<-g.hl,List.take_left',List.drop_append];simp
   let g':Gl e sz:=⟨some b,g.n+m,g.cap,g.l++new,g.kB.drop new.length,by simp[g.hl,hlen,Nat.add_mul],aC,by rw[List.length_drop,g.hj,hlen,<-Nat.sub_mul];congr 1;omega,fun h=> by cases h⟩
   have key:∀x∈g'.bl,H' x.1=some x.2:=by
    intro x hx;simp only[g',Gl.bl,List.mem_singleton] at hx;subst hx;show H' b=some (true,.cells ⟨(g.l++new)++g.kB.drop new.length⟩ e (0,0));rw[RP];split
    ·rename_i XH
     subst XH;simpa using hHb
    ·rw[View.jB,LB]
   exact hq g' H' rfl rfl (fun b' jM=> .inl ⟨by cases jM;exact FG,rfl⟩) (fun c hc=> by
    rw[RP];split
    ·rfl
    ·rw[View.GA];intro e;exact hc b rfl e.symm) key
 ·rw[if_neg aC];have WG:=(E.ok _ _ eD).bytes;cases hi:P.info? e with
  | none=> rw[hi] at WG;cases WG
  | some i=>
   rw[hi] at WG;simp only[Option.map_some,Option.some.injEq] at WG;have XU:i.bytes<=1000:=by omega
   have yK:IntKind.i64.max=9223372036854775807:=by decide
   show EA P ((typeInfo e).bind fun _=> _) H Q;refine aA (typeInfo e) _ (MB hi ?_);rw[if_neg (by rw[yK];omega)];show EA P ((typeInfo e).bind fun _=> _) H Q;refine aA (typeInfo e) _ (MB hi ?_);rw[if_neg]
   ·show EA P ((choose _).bind fun newCap=> _) H Q;refine aA (choose _) _ ?_;intro tt;rw[if_neg (by simp[Question.forced])];generalize hnc:(Question.appendCap (g.n+m) g.cap e).cut tt=newCap;have SS:g.n+m<=newCap:=by rw[<-hnc];simp only[Question.cut];omega
    show EA P ((typeInfo e).bind fun _=> _) H Q;refine aA (typeInfo e) _ (MB hi ?_);show EA P ((askRoom (newCap*i.bytes)).bind fun _=> _) H Q;refine aA _ _ ?_;have S0:∀Q':Unit->View->Prop,Q' () H->EA P (askRoom (newCap*i.bytes)) H Q':=by
     intro Q' h;unfold askRoom;split
     ·exact⟨rfl,h⟩
     ·exact h
    refine S0 _ ?_;show EA P ((Builtin.firstCells sz g.n (.slice a g.n g.cap)).bind fun _=> _) H Q;rw[<-dR];refine aA _ _ (nD hold ?_);show EA P ((Builtin.firstCells sz m y).bind fun _=> _) H Q;refine aA _ _ (hyf _ ?_);show EA P ((zeroValue e).bind fun _=> _) H Q;refine aA (zeroValue e) _ (NB (E.ok _ _ eD).zero ?_);rw[lH];intro blk WU;have Y8:re.zero.cells.size=sz:=by rw[<-Array.length_toList];exact kV
    let g':Gl e sz:=⟨some blk,g.n+m,newCap,g.l++new,iC re.zero.cells.toList ((newCap-(g.n+m))*re.zero.cells.size),by simp[g.hl,hyn,Nat.add_mul],SS,by rw[GM,Y8],fun h=> by cases h⟩
    exact hq g' _ rfl rfl (fun b' jM=> .inr (by cases jM;exact WU)) (fun c hc=> by
     rw[View.GA];intro e;exact hc blk rfl e.symm) (fun x hx=> by
     simp only[g',Gl.bl,List.mem_singleton] at hx;subst hx;rw[View.jB];simp)
   ·have h3 : Builtin.nextslicecap (g.n+m) g.cap<=4*1000000000:=by
     unfold Builtin.nextslicecap;split
     ·omega
     ·split
      ·omega
      ·have gb:∀(rounds c:Nat),c<=2*(g.n+m)+1000->Builtin.growBy (g.n+m) rounds c<=2*(g.n+m)+1000:=by
        intro rounds;induction rounds with
        | zero=> exact fun c hc=> hc
        | succ rounds ih=>
         intro c hc;unfold Builtin.growBy;split
         ·exact hc
         ·exact ih _ oM
       have:=gb 4 g.cap oM;omega
    have h4:Builtin.nextslicecap (g.n+m) g.cap*i.bytes<=4*1000000000*1000:=Nat.mul_le_mul h3 XU;omega
theorem aU {t xt e:TypeId}{rt:TypeId}{r re:AA}{sz m:Nat}{y:Value}{new:List Value}{g:Gl e sz}{H:View}{Q:Value->View->Prop}(ht:E.ty t=some r)(JB:r.ds=.slice e)(eD:E.ty e=some re)(LD:re.size=sz)(kV:re.zero.cells.toList.length=sz)
  (jV:∃rx,E.ty xt=some rx/\rx.ds=.str) (QX:re.bytes<=1000) (hn:g.n+m<=1000000000) (hb:∀x∈g.bl,H x.1=some x.2) (hyl:∀Q:Nat->View->Prop,Q m H->EA P (Builtin.lenOf y) H Q) (hyf:∀Q:Array Value->View->Prop,Q ⟨new⟩ H->EA P (Builtin.firstCells sz m y) H Q) (hyn:new.length=m*sz) (hs:new.all single=true)
  (hq:∀(g':Gl e sz) (H':View),g'.n=g.n+m->g'.l=g.l++new->(∀b,g'.blk=some b->(g.blk=some b\/H b=none))->(∀c,(∀b,g'.blk=some b->b≠c)->H' c=H c)->(∀x∈g'.bl,H' x.1=some x.2)->Q g'.val H'):
  EA P (Builtin.append_ #[t,xt] rt #[g.val,y]) H Q:=
 NR ht JB eD LD kV jV QX hn hb hyl hyf hyn hs fun g' H' h1 h2 h3 h4 h5=> hq g' H' h1 h2 (fun b hb=> (h3 b hb).imp And.left id) h4 h5
theorem Or.l6(k:Nat)(T:Bl->Bl){Y:Bl}(hT:∀B,(T B).Perm (Y++B)){cl:Go.Call}{x y:Operand}{t xt e:TypeId}{s:List UInt8}{g:Gl e 1}{r re rx:AA}(kA:o.op=.call cl)(iB:cl.callee=.builtin .append)(NF:cl.argTypes=#[t,xt])(VG:cl.args=#[x,y])
  (hx:HA R x=some g.val) (hy:HA R y=some (gA s)) (ht:E.ty t=some r) (JB:r.ds=.slice e) (eD:E.ty e=some re) (LD:re.size=1) (kV:Nat.beq re.zero.cells.toList.length 1=true) (jV:E.ty xt=some rx) (hex:rx.ds=.str) (QX:Nat.ble re.bytes 1000=true)
  (hL:L.drop k=T g.bl) (hm:g.n+s.length<=1000000000) (hd:o.dst=some d) (hn:d<n)
  (hk:∀g':Gl e 1,g'.n=g.n+s.length->g'.l=g.l++bB s->K ((d,g'.val)::R) (L.take k++T g'.bl)):Or M n H₀ R L o K:=
 .val hd hn fun H tmps LB hr=> by
  have G8:L=L.take k++T g.bl:=by rw[<-hL,List.take_append_drop]
  unfold execOp;rw[kA];simp only[resolve,iB,NF,VG];have UX:Array.map (CB tmps) #[x,y]=#[g.val,gA s]:=by simp[hr.ev hx,hr.ev hy]
  rw[UX];have hp:∀B,((L.take k++Y)++B).Perm (L.take k++T B):=fun B=> by rw[List.append_assoc];exact(List.Perm.refl _).append (hT B).symm
  have gR:=LB;rw[G8] at gR;have jP:iA H₀ ((L.take k++Y)++g.bl) H:=gR.perm (hp g.bl);refine aA (Builtin.append_ #[t,xt] o.type #[g.val,gA s]) _ ?_;refine aU (new:=bB s) (m:=s.length) ht JB eD LD (Nat.eq_of_beq_eq_true kV) ⟨rx,jV,hex⟩ (Nat.le_of_ble_eq_true QX) hm (fun z hz=> jP.at_ z (by simp[hz])) (fun Q hq=> hq) (fun Q hq=> ?_) (by rw[PG,Nat.mul_one]) (bP s) fun g' H' h1 h2 h3 h4 h5=> ?_
  ·have e:((ByteArray.mk ⟨s⟩).extract 0 s.length).data.map (fun b=> Value.int .u8 (b.toNat:Int))=⟨bB s⟩:=by
    rw[EP];simp[bB]
   show Q (((ByteArray.mk ⟨s⟩).extract 0 s.length).data.map (fun b=> Value.int .u8 (b.toNat:Int))) H;rw[e];exact hq
  ·exact⟨_,rfl,_,(jP.grown h3 h4 h5).perm (hp g'.bl).symm,hk g' h1 h2⟩
end
end Go.RL
namespace Go.Proofs.YtldmfjcgjdchcaaGreatDoor
open Go.RL Go.Proofs.Tryz
set_option maxRecDepth 10000
set_option maxHeartbeats 8000000
theorem aDY:Xt prog 238 Extern.AbiNoEscape.same:=⟨Tryz.f238,func238,by kernel_rfl,by kernel_rfl,by kernel_rfl,by kernel_rfl⟩
theorem yT:prog.underlying 174=some (.pointer 176):=by kernel_rfl
theorem D4:prog.underlying 305=some .unsafePointer:=by kernel_rfl
theorem aAC:liesAt prog prog.depth 176 (2/prog.cellsOf 176) 0 176 1=true:=by kernel_rfl
section
variable(M:Md prog)(H:View)
def WI(b:Nat)(u:Bool)(g:Gl 5 1):Bl:=(b,true,.cells ⟨[.pointer (if u then some ⟨b,0,none⟩ else none),g.val]⟩ 176 (0,0))::g.bl
theorem dM(H₁:View)(b:Nat)(u:Bool)(g:Gl 5 1)(ZD:iA H₁ (WI b u g) H):
  bA M 171 #[.pointer (some ⟨b,0,none⟩)] H (aM H₁ (fun _:Unit=> .tuple ⟨[]⟩) (fun _=> WI b true g) (fun _=> True)):=by
 cases u with
 | false=>
  refine bA.enter (vs:= [.pointer (some ⟨b,0,none⟩)]) func171 rfl ntmps171 (Nat.le_of_ble_eq_true rfl) (ZD) fun St c cs hK=> ?_;refine U6 ?_;refine .x (pA.X2 true rfl rfl rfl yT rfl) ?_;refine U5 ?_;refine .x (pA.aEQ (E:=en) 0 rfl rfl rfl yT D4 rfl rfl rfl) ?_;refine .x (pA.entry rfl rfl rfl rfl aDY (fun H Q hq=> hq)) ?_;refine .x (pA.aAh (E:=en) 0 rfl rfl rfl D4 yT rfl aAC) ?_;refine U4 ?_;refine .ov hK func171 results171 [] ?_;exact fun H' hs=> ⟨(),H₁,rfl,View.le_refl _,hs,trivial⟩
 | true=>
  refine bA.enter (vs:= [.pointer (some ⟨b,0,none⟩)]) func171 rfl ntmps171 (Nat.le_of_ble_eq_true rfl) (ZD) fun St c cs hK=> ?_;refine U6 ?_;refine .x (pA.X2 false rfl rfl rfl yT rfl) ?_;refine U9 ?_;refine .x (pA.K7 (E:=en) rfl rfl rfl yT rfl rfl) ?_;refine U3 ?_;refine .ov hK func171 results171 [] ?_;exact fun H' hs=> ⟨(),H₁,rfl,View.le_refl _,hs,trivial⟩
def pZ(s:List UInt8)(g g':Gl 5 1):Prop:=g'.n=g.n+s.length/\g'.l=g.l++bB s
theorem EE(H₁:View)(b:Nat)(u:Bool)(g:Gl 5 1)(s:List UInt8)(hm:g.n+s.length<=1000000)(ZD:iA H₁ (WI b u g) H):
  bA M 91 #[.pointer (some ⟨b,0,none⟩),gA s] H (aM H₁ (fun _:Gl 5 1=> .tuple ⟨[.int .i64 (s.length:Nat),.nilIface]⟩) (fun g'=> WI b true g') (pZ s g)):=by
 refine bA.enter (vs:= [.pointer (some ⟨b,0,none⟩),gA s]) func91 rfl ntmps91 (Nat.le_of_ble_eq_true rfl) (ZD) fun St c cs hK=> ?_;refine U8 ?_;refine .e (Or.gD 0 (σ:=Unit) (fun _=> .tuple ⟨[]⟩) (fun _=> WI b true g) (fun _=> True) rfl rfl rfl rfl rfl dE (fun H₁ H₂ gV TM=> .h (dM M H₂ H₁ b u g TM)) (fun _ _=> ?_));refine U9 ?_;refine .e (Or.l6 (E:=en) (g:=g) 1 (fun B=> B) (Y:= []) (fun B=> List.Perm.refl _) rfl rfl rfl rfl rfl rfl rfl rfl rfl rfl rfl rfl rfl rfl rfl oM rfl dE (fun g2 gP lM=> ?_));refine qE ?_;refine .rt hK func91 results91 [_,_] ?_;exact fun H' hs=> ⟨g2,H₁,rfl,View.le_refl _,hs,gP,lM⟩
theorem jS(H₁:View)(b:Nat)(u:Bool)(g:Gl 5 1)(s:List UInt8)(nB:s≠ [])(MG:g.n=s.length)(dL:g.l=bB s)(hm:g.n<=1000000)(ZD:iA H₁ (WI b u g) H):
  bA M 95 #[.pointer (some ⟨b,0,none⟩)] H (aM H₁ (fun _:Unit=> gA s) (fun _=> []) (fun _=> True)):=by
 have eV:0<s.length:=List.length_pos_iff.2 nB;obtain⟨gb,gn,gc,gl,gj,h1,h2,h3,h4⟩:=g;simp only at MG dL hm;subst MG dL;cases gb with
 | none=> have:=h4 rfl;omega
 | some gb=>
  have hc0:Nat.beq gc 0=false:=by
   cases gc with
   | zero=> omega
   | succ _=> rfl
  have YS:liesAt prog prog.depth 5 ((bB s++gj).length/prog.cellsOf 5) 0 5 s.length=true:=rV _ _ (by rw[List.length_append,PG];omega);have UP:iA H₁ [(b,true,.cells ⟨[.pointer (if u then some ⟨b,0,none⟩ else none),.slice (some ⟨gb,0,none⟩) s.length gc]⟩ 176 (0,0)),(gb,true,.cells ⟨bB s++gj⟩ 5 (0,0))] H:=ZD;refine bA.enter (vs:= [.pointer (some ⟨b,0,none⟩)]) func95 rfl ntmps95 (Nat.le_of_ble_eq_true rfl) (UP) fun St c cs hK=> ?_;refine U5 ?_;refine Tc.dr [10] [1] mixed rfl ?_;refine .nw 0 ?_;refine .nw 1 ?_;refine .nw 2 ?_;refine .nw 3 ?_;refine .q 4 rfl (pA.rY rfl rfl rfl rfl rfl hc0) ?_;refine .nw 5 ?_;refine .nw 6 ?_;refine .nw 7 ?_;refine .nw 8 ?_;refine .nn 9 ?_;refine .ea 10 rfl (Or.yY 1 rfl rfl rfl rfl rfl rfl Y2 nB oM rfl YS rfl dE ⟨S2.mk sL (.inl kR),?_⟩);refine .nw 11 ?_;refine .dn ?_;refine .rt hK func95 results95 [_] ?_;exact fun H' hs=> ⟨(),H₁,rfl,View.le_refl _,hs.sub (List.nil_sublist _),trivial⟩
end
end Go.Proofs.YtldmfjcgjdchcaaGreatDoor
namespace Go.RL
open Go.Conc
theorem CN:∀(n t:Nat) (acc:Array Value),(Extern.BytealgMakeNoZero.digits n t acc).size=acc.size+n
 | 0,_,_=> rfl
 | n+1,t,acc=> by
  unfold Extern.BytealgMakeNoZero.digits;rw[CN n,Array.size_push];omega
section
variable {P:Program}{E:Env P}{M:Md P}{n:Nat}{H₀:View}{R:Rg}{L:Bl}{K:Rg->Bl->Prop}{o:Oper}{d:Nat}
theorem Or.aAJ {cl:Go.Call}{x:Operand}{g:FuncId}{k:Nat}{t e p:TypeId}{r:AA}(kA:o.op=.call cl)(iB:cl.callee=.value x)(hx:HA R x=some (.func (.func g) #[] #[]))(has:VC R cl.args.toList=some [.int .i64 (k:Nat)])
  (he:Xt P g (Extern.BytealgMakeNoZero.makeNoZero #[p] #[t])) (ht:E.ty t=some r) (JB:r.ds=.slice e) (X4:k<=1000000000) (hd:o.dst=some d) (hn:d<n)
  (hk:∀blk cap (jj:List Value),jj.length=cap->K ((d,.slice (some ⟨blk,0,none⟩) k cap)::R) ((blk,true,.cells ⟨jj⟩ e (0,0))::L)):Or M n H₀ R L o K:=
 .val hd hn fun H tmps hs hr=> by
  have e1:=hr.ev hx;have XG:cl.args.map (CB tmps)= [Value.int .i64 (k:Nat)].toArray:=by
   apply Array.ext'
   simpa using hr.evs has
  have hex:execOp (CB tmps) o=(resolve (CB tmps) cl o.type).bind fun d=> invoke d.target d.args:=by unfold execOp;rw[kA];rfl
  rw[hex];have:((resolve (CB tmps) cl o.type).bind fun d=> invoke d.target d.args)=(Deferred.ofValue (.func (.func g) #[] #[]) [Value.int .i64 (k:Nat)].toArray).bind fun d=> invoke d.target d.args:=by
   unfold resolve;rw[iB];simp only[e1,XG]
  rw[this];simp only[Deferred.ofValue];show EA P (callFunc g (#[]++[Value.int .i64 (k:Nat)].toArray ++ #[])) H _;have e3:(#[]:Array Value)++[Value.int .i64 (k:Nat)].toArray ++ #[]=#[.int .i64 (k:Nat)]:=by simp
  rw[e3];refine qQ he ?_;unfold Extern.BytealgMakeNoZero.makeNoZero;refine aA (underlying t) _ (fA (wC ((E.ok _ _ ht).ds.trans JB)) ?_);have dC:(decide (((k:Nat):Int)<0)||decide (((k:Nat):Int)>2 ^ 48))=false:=by
   rw[decide_eq_false oM,decide_eq_false oM];rfl
  show EA P (if(decide (((k:Nat):Int)<0)||decide (((k:Nat):Int)>2 ^ 48))=true then _ else _) H _;rw[if_neg (by rw[dC];exact Bool.false_ne_true)];refine aA (choose _) _ ?_;intro tt;rw[if_neg (by simp[Question.forced])];generalize (Question.appendCap ((k:Nat):Int).toNat 0 e).cut tt=cap;refine aA (askRoom _) _ ?_;have fin:EA P (do
    let bytes <-choose (.extern "internal/bytealg.MakeNoZero.bytes" 0)
    let a <-newRow e (Extern.BytealgMakeNoZero.digits cap bytes #[])
    Sem.pure (Value.slice (some a) ((k:Nat):Int).toNat cap)) H fun nx H'=> (fun u H'=> (∃v,Next.value u=.value v/\∃L',iA H₀ L' H'/\K ((d,v)::R) L')) nx H':=by
   refine aA (choose _) _ ?_;intro t2;obtain⟨bytes,hb⟩:∃bz,bz=(if(Question.extern "internal/bytealg.MakeNoZero.bytes" 0).forced then 0 else(Question.extern "internal/bytealg.MakeNoZero.bytes" 0).cut t2):=⟨_,rfl⟩
   rw[<-hb];refine aA (newRow e _) _ ?_;intro blk FG;have hl:=CN cap bytes #[];obtain⟨jj,hj⟩:∃jj:List Value,Extern.BytealgMakeNoZero.digits cap bytes #[]=⟨jj⟩:=⟨_,rfl⟩
   rw[hj] at hl;have YU:jj.length=cap:=by
    have:(⟨jj⟩:Array Value).size=jj.length:=rfl;rw[this] at hl;simpa using hl
   rw[Int.toNat_natCast,hj];exact⟨_,rfl,_,hs.cons _ FG,hk blk cap jj YU⟩
  unfold askRoom;split
  ·exact⟨rfl,fin⟩
  ·exact fin
theorem pA.cap {t:TypeId}{x:Operand}{a:Option Addr}{p q:Nat}{cl:Go.Call}{e:TypeId}{r:AA}(kA:o.op=.call cl)(iB:cl.callee=.builtin .cap)(NF:cl.argTypes=#[t])(VG:cl.args=#[x])
  (hx:HA R x=some (.slice a p q)) (ht:E.ty t=some r) (JB:r.ds=.slice e):pA P n H₀ R L o (.int .i64 (q:Int)):=fun H tmps _ hr=> by
 unfold execOp;rw[kA];simp only[resolve,iB,NF,VG];have hm:Array.map (CB tmps) #[x]=#[.slice a p q]:=by simp[hr.ev hx]
 rw[hm];refine aA (Builtin.cap_ #[t] o.type #[.slice a p q]) _ (aA (underlying t) _ (fA (wC ((E.ok _ _ ht).ds.trans JB)) ?_));exact⟨rfl,rfl⟩
end
end Go.RL
namespace Go.Proofs.YtldmfjcgjdchcaaGreatDoor
open Go.RL Go.Proofs.Tryz
set_option maxRecDepth 10000
set_option maxHeartbeats 8000000
def kC(y:UInt8):List (List UInt8)->List UInt8
 | []=> []
 | p::l=> p++l.flatMap fun q=> y::q
def dD(l:List (List UInt8)):Nat:=(l.map List.length).sum
theorem uY {l:List (List UInt8)}{i:Nat}{p:List UInt8}(h:l[i]? =some p):dD (l.take (i+1))=dD (l.take i)+p.length:=by
 obtain⟨hi,rfl⟩:=List.getElem?_eq_some_iff.1 h;unfold dD;rw[List.take_succ_eq_append_getElem hi,List.map_append,List.sum_append];simp
theorem T7(l:List (List UInt8))(i:Nat):dD (l.take i)<=dD l:=by
 have h:dD l=dD (l.take i)+dD (l.drop i):=by
  unfold dD;rw[<-List.sum_append,<-List.map_append,List.take_append_drop]
 omega
theorem JN(y:UInt8):∀l:List (List UInt8),(l.flatMap fun q=> y::q).length=l.length+dD l
 | []=> rfl
 | p::l=> by
  have ih:=JN y l;rw[List.flatMap_cons,List.length_append,ih];unfold dD;simp only[List.length_cons,List.map_cons,List.sum_cons];omega
theorem XP(y:UInt8)(p:List UInt8)(l:List (List UInt8)):(kC y (p::l)).length=l.length+dD (p::l):=by
 show(p++l.flatMap fun q=> y::q).length=_;rw[List.length_append,JN];unfold dD;simp only[List.map_cons,List.sum_cons];omega
theorem NX(y:UInt8){l:List (List UInt8)}{i:Nat}{q:List UInt8}(h:l[i]? =some q):((l.take (i+1)).flatMap fun q=> y::q)=((l.take i).flatMap fun q=> y::q)++[y]++q:=by
 obtain⟨hi,rfl⟩:=List.getElem?_eq_some_iff.1 h;rw[List.take_succ_eq_append_getElem hi,List.flatMap_append,List.append_assoc];simp
theorem aD1:Xt prog 285 (Extern.BytealgMakeNoZero.makeNoZero #[3] #[60]):=⟨Tryz.f285,func285,by kernel_rfl,by kernel_rfl,by kernel_rfl,by kernel_rfl⟩
section
variable(M:Md prog)(H:View)
theorem aAi(H₁:View)(b m:Nat)(hm:m<=1000000)(ZD:iA H₁ (WI b true (Gl.nil 5 1)) H):
  bA M 239 #[.pointer (some ⟨b,0,none⟩),.int .i64 (m:Nat)] H (aM H₁ (fun _:Gl 5 1=> .tuple ⟨[]⟩) (fun g'=> WI b true g') (fun g'=> g'.n=0/\g'.l= [])):=by
 have UP:iA H₁ [(b,true,.cells ⟨[.pointer (some ⟨b,0,none⟩),.slice none 0 0]⟩ 176 (0,0))] H:=ZD;have m1:mA .mul .i64 2 0=some (.int .i64 0):=rfl;have a1:mA .add .i64 0 ((m:Nat):Int)=some (.int .i64 ((m:Nat):Int)):=by rw[lB oM oM];congr 2;omega
 refine bA.enter (vs:= [.pointer (some ⟨b,0,none⟩),.int .i64 (m:Nat)]) func239 rfl ntmps239 (Nat.le_of_ble_eq_true rfl) (UP) fun St c cs hK=> ?_;refine U ?_;refine Tc.dr [] [] mixed rfl ?_;refine V4 0 ?_;refine .q 4 rfl (pA.cap (E:=en) rfl rfl rfl rfl rfl rfl rfl) ?_;refine V3 5 ?_;refine V5 9 ?_;refine .ea 8 rfl (Or.aAJ (E:=en) rfl rfl rfl rfl aD1 rfl rfl oM rfl dE (fun nb cap jj hj=> ⟨S2.mk sL (.inr sL),?_⟩));refine .q 14 rfl (pA.slice (E:=en) (off':=0) rfl rfl rfl rfl rfl rfl rfl rfl oM oM oM (by split <;> rfl)) ?_;refine .nn 15 ?_;refine .dn ?_;refine U7 ?_;refine .e (Or.T9 (E:=en) 0 (m:=0) (new:= []) rfl rfl rfl rfl rfl rfl rfl rfl rfl rfl rfl (fun H hs=> (Gl.nil 5 1).src (by simp[Gl.bl,Gl.nil])) rfl (Nat.le_refl _) oM rfl dE (VK _ _) ?_);refine U8 ?_;refine .ov hK func239 results239 [] ?_;refine fun H' hs=> ⟨⟨some nb,0,cap,[],jj,rfl,Nat.zero_le _,by rw[hj];omega,fun h=> by cases h⟩,H₁,rfl,View.le_refl _,?_,rfl,rfl⟩
 exact hs.perm (List.Perm.swap _ _ _)
theorem x9(H₁:View)(b m:Nat)(h0:1<=m)(hm:m<=1000000)(ZD:iA H₁ (WI b false (Gl.nil 5 1)) H):
  bA M 172 #[.pointer (some ⟨b,0,none⟩),.int .i64 (m:Nat)] H (aM H₁ (fun _:Gl 5 1=> .tuple ⟨[]⟩) (fun g'=> WI b true g') (fun g'=> g'.n=0/\g'.l= [])):=by
 refine bA.enter (vs:= [.pointer (some ⟨b,0,none⟩),.int .i64 (m:Nat)]) func172 rfl ntmps172 (Nat.le_of_ble_eq_true rfl) (ZD) fun St c cs hK=> ?_;refine U3 ?_;refine .e (Or.qL 0 (σ:=Unit) (fun _=> .tuple ⟨[]⟩) (fun _=> WI b true (Gl.nil 5 1)) (fun _=> True) rfl rfl rfl rfl (fun H₁ H₂ gV TM=> .h (dM M H₂ H₁ b false (Gl.nil 5 1) TM)) (fun _ _=> ⟨_,by exact⟨by decide,rfl⟩,?_⟩));refine DD ?_;refine Tc.perm (L₁:= [(b,true,.cells ⟨[.pointer (some ⟨b,0,none⟩),.slice none 0 0]⟩ 176 (0,0))]) (List.Perm.refl _) ?_;refine Tc.dr [] [] mixed rfl ?_;refine V4 0 ?_;refine .q 4 rfl (pA.cap (E:=en) rfl rfl rfl rfl rfl rfl rfl) ?_;refine V8 5 ?_;refine .dn ?_;refine U4 ?_;refine .e (Or.qL 0 (σ:=Gl 5 1) (fun _=> .tuple ⟨[]⟩) (fun g'=> WI b true g') (fun g'=> g'.n=0/\g'.l= []) rfl rfl rfl rfl (fun H₁ H₂ gV TM=> .h (aAi M H₂ H₁ b m hm TM)) (fun g' W4=> ⟨_,by exact⟨by decide,rfl⟩,?_⟩));refine U ?_;refine .ov hK func172 results172 [] ?_;exact fun H' hs=> ⟨g',H₁,rfl,View.le_refl _,hs,W4⟩
theorem tY {H:View}{b o n:Nat}{x:Nat->List UInt8}(h:oC H (some ⟨b,o,none⟩) (n+1) x):oC H (some ⟨b,o+1,none⟩) n (fun j=> x (j+1)):=by
 rcases h with h0|⟨b',o',f,gs,gt,gz,h1,h2,h3⟩
 ·omega
 ·cases h1
  refine .inr ⟨b,o+1,f,gs,gt,gz,rfl,h2,fun j hj=> ?_⟩;have:=h3 (j+1) oM;rw[<-this]
  congr 1
  simp only[Int.toNat_natCast];omega
theorem A9(y:UInt8)(p:List UInt8)(l:List (List UInt8))(nB:l≠ [])(b o fc:Nat)(hF:oC H (some ⟨b,o,none⟩) (l.length+1) (fun i=> (p::l)[i]?.getD []))(F0:l.length+1<=fc)(hl:l.length<=1000)(hT:dD (p::l)<=900000):
  bA M 92 #[.slice (some ⟨b,o,none⟩) (l.length+1) fc,gA [y]] H (fun v H'=> H.le H'/\v=gA (kC y (p::l))):=by
 have hk:1<=l.length:=List.length_pos_iff.2 nB;obtain⟨k,hkl⟩:∃k,k=l.length:=⟨_,rfl⟩
 have hy1:([y]:List UInt8).length=1:=rfl;rw[<-hkl] at hF F0 hl hk ⊢;have sN:mA .sub .i64 ((k+1:Nat):Int) 1=some (.int .i64 ((k:Nat):Int)):=by rw[HO oM oM];congr 2;omega
 have hq2:(2:Int)<=9223372036854775807/((k:Nat):Int):=by
  rw[Int.le_ediv_iff_mul_le oM];omega
 have q1:mA .quo .i64 9223372036854775807 ((k:Nat):Int)=some (.int .i64 (9223372036854775807/((k:Nat):Int))):=tO oM oM oM;have g1:mA .geq .i64 (([y].length:Nat):Int) (9223372036854775807/((k:Nat):Int))=some (.bool false):=SH (by rw[hy1];omega);have m1:mA .mul .i64 (([y].length:Nat):Int) ((k:Nat):Int)=some (.int .i64 ((k:Nat):Int)):=by
  show mA .mul .i64 1 ((k:Nat):Int)=_;rw[kE oM oM]
  congr 2
  omega
 have a0:mA .add .i64 0 ((k:Nat):Int)=some (.int .i64 ((k:Nat):Int)):=by rw[lB oM oM];congr 2;omega
 generalize 9223372036854775807/((k:Nat):Int)=z at q1 g1;have hS:=fun i=> T7 (p::l) i;have NF:∀i,i<k+1->(p::l)[i]? =some ((p::l)[i]?.getD []):=fun i hi=> by
  rw[List.getElem?_eq_getElem (by rw[List.length_cons];omega)];rfl
 have hlk:(p::l).length=k+1:=by rw[List.length_cons,hkl]
 refine .en func92 ntmps92 fun St c cs hK=> ?_;(iterate 69 refine U ?_);refine Tc.db (Tc.sA (σ:= { x:Nat//x<=k+1 }) (fun x=> ([(0,.slice (some ⟨b,o,none⟩) (k+1) fc),(1,gA [y]),(5,.int .i64 ((k+dD ((p::l).take x.1):Nat):Int)),(39,.slice (some ⟨b,o,none⟩) (k+1) fc),(40,.int .i64 (k+1:Nat)),(41,.int .i64 (x.1:Nat))],[])) (fun x=> k+1-x.1) ?_ ⟨0,Nat.zero_le _⟩);rintro⟨q,hq⟩ ih;show Tc M St _ _ _ _ [(0,.slice (some ⟨b,o,none⟩) (k+1) fc),(1,gA [y]),(5,.int .i64 ((k+dD ((p::l).take q):Nat):Int)),(39,.slice (some ⟨b,o,none⟩) (k+1) fc),(40,.int .i64 (k+1:Nat)),(41,.int .i64 (q:Nat))] [] _ _;have hSq:=hS q;by_cases d1:q=k+1
 ·clear ih;subst d1;rw[List.take_of_length_le oM];have QW:=XP y p l;rw[<-hkl] at QW;obtain⟨m,hm⟩:∃m,m=k+dD (p::l):=⟨_,rfl⟩
  rw[<-hm] at QW ⊢;have hF0:=hF;have hp:=NF 0 oM;rcases hF with h0|⟨b',o',fl,gs,gt,gz,h1,h2,h3⟩
  ·omega
  cases h1
  have f1:tE false 1 gs (o+(0:Int).toNat*1)=some (gA p):=h3 0 oM;have hF1:=tY hF0;refine U9 ?_;refine .al fun nb=> ?_;refine U4 ?_;refine .e (Or.gD 0 (σ:=Gl 5 1) (fun _=> .tuple ⟨[]⟩) (fun g'=> WI nb true g') (fun g'=> g'.n=0/\g'.l= []) rfl rfl rfl rfl rfl dE (fun H₁ H₂ gV TM=> .h (x9 M H₂ H₁ nb m oM oM TM)) (fun g hg=> ?_));refine U6 ?_;refine .e (Or.gD 0 (σ:=Gl 5 1) (fun _=> .tuple ⟨[.int .i64 (p.length:Nat),.nilIface]⟩) (fun g'=> WI nb true g') (pZ p g) rfl rfl rfl rfl rfl dE (fun H₁ H₂ gV TM=> .h (EE M H₂ H₁ nb true g p (by have:=hS 1;rw[show(p::l).take 1= [p] from rfl,show dD [p]=p.length from by simp[dD]] at this;omega) TM)) (fun g0 L8=> ?_));refine U5 ?_;refine .x (pA.slice (E:=en) (off':=o+1) rfl rfl rfl rfl rfl rfl rfl rfl oM oM oM (by rw[if_neg oM];rfl)) ?_;refine U4 ?_;have TU:=fun i=> JN y (l.take i);have hb:∀i,i<=k->(p++(l.take i).flatMap fun q=> y::q).length<=901000:=fun i hi=> by
   have h5:=hS (i+1);have h6:dD ((p::l).take (i+1))=p.length+dD (l.take i):=by simp[dD]
   have h7:=TU i;rw[List.length_append,h7,List.length_take];omega
  refine Tc.db (Tc.sA (σ:= { x:Nat×Gl 5 1//x.1<=k/\x.2.n=(p++(l.take x.1).flatMap fun q=> y::q).length/\x.2.l=bB (p++(l.take x.1).flatMap fun q=> y::q) }) (fun x=> ([(1,gA [y]),(8,.pointer (some ⟨nb,0,none⟩)),(63,.slice (some ⟨b,o+1,none⟩) k (fc-1)),(64,.int .i64 (k:Nat)),(65,.int .i64 (x.1.1:Nat))],WI nb true x.1.2)) (fun x=> k-x.1.1) ?_ ⟨(0,g0),Nat.zero_le _,by have:=L8.1;rw[hg.1] at this;simpa using this,by have:=L8.2;rw[hg.2] at this;simpa using this⟩);rintro⟨⟨q,g2⟩,hq,MG,dL⟩ ih;simp only at hq MG dL;show Tc M St _ _ _ _ [(1,gA [y]),(8,.pointer (some ⟨nb,0,none⟩)),(63,.slice (some ⟨b,o+1,none⟩) k (fc-1)),(64,.int .i64 (k:Nat)),(65,.int .i64 (q:Nat))] (WI nb true g2) _ _;have hbq:=hb q hq;by_cases d1:q=k
  ·clear ih;subst d1;rw[List.take_of_length_le oM] at MG dL hbq;have aEp:(p++l.flatMap fun q=> y::q)≠ []:=by
    cases l with
    | nil=> exact(nB rfl).elim
    | cons a l=> intro h;have:=congrArg List.length h;simp at this
   refine U9 ?_;refine .e (Or.gD 0 (σ:=Unit) (fun _=> gA (p++l.flatMap fun q=> y::q)) (fun _=> []) (fun _=> True) rfl rfl rfl rfl rfl dE (fun H₁ H₂ gV TM=> .h (jS M H₂ H₁ nb true g2 _ aEp MG dL oM TM)) (fun _ _=> ?_));refine U2 ?_;refine .rt hK func92 results92 [_] ?_;exact okB
  ·have d2:q<k:=by omega
   have hx:=NF (q+1) oM;have f2:tE false 1 gs (o+1+((q:Nat):Int).toNat*1)=some (gA ((p::l)[q+1]?.getD [])):=by
    rcases hF1 with h0|⟨b',o',fl',gs',gt',gz',e1,e2,e3⟩
    ·omega
    cases e1
    rw[h2] at e2;cases e2
    exact e3 q d2
   have T4:=NX y (l:=l) (i:=q) (q:=(p::l)[q+1]?.getD []) (by rw[<-hx];rfl);have ZZ:=hb (q+1) oM;rw[T4] at ZZ;generalize (p::l)[q+1]?.getD []=x at hx f2 T4 ZZ;have hb2:g2.n+1+x.length<=901000:=by
    rw[MG];simp only[List.length_append,List.length_singleton] at ZZ ⊢;omega
   have UJ:=fun(g4:Gl 5 1) (h4:g4.n=g2.n+1+x.length) (h5:g4.l=g2.l++bB [y]++bB x)=> ih ⟨(q+1,g4),by simp only;omega,by simp only;rw[T4,h4,MG];simp only[List.length_append,List.length_singleton];omega,by simp only;rw[T4,h5,dL];simp only[yJ,List.append_assoc]⟩ (by simp only;omega);clear ih;refine SR ?_;refine .e (Or.gD 0 (σ:=Gl 5 1) (fun _=> .tuple ⟨[.int .i64 ([y].length:Nat),.nilIface]⟩) (fun g'=> WI nb true g') (pZ [y] g2) rfl rfl rfl rfl rfl dE (fun H₁ H₂ gV TM=> .h (EE M H₂ H₁ nb true g2 [y] (by rw[hy1];omega) TM)) (fun g3 hg3=> ?_));refine U3 ?_;refine .e (Or.gD 0 (σ:=Gl 5 1) (fun _=> .tuple ⟨[.int .i64 (x.length:Nat),.nilIface]⟩) (fun g'=> WI nb true g') (pZ x g3) rfl rfl rfl rfl rfl dE (fun H₁ H₂ gV TM=> .h (EE M H₂ H₁ nb true g3 x (by have:=hg3.1;rw[hy1] at this;omega) TM)) (fun g4 hg4=> ?_));refine U6 ?_;exact Tc.db (UJ g4 (by rw[hg4.1,hg3.1,hy1]) (by rw[hg4.2,hg3.2]))
 ·have d2:q<k+1:=by omega
  have hx:=NF q d2;have hS1:=hS (q+1);have W8:=uY hx;have UJ:=ih ⟨q+1,oM⟩ (by simp only;omega);clear ih;simp only at UJ;rw[W8] at UJ hS1;rcases hF with h0|⟨b',o',fl,gs,gt,gz,h1,h2,h3⟩
  ·omega
  cases h1
  have f1:tE false 1 gs (o+((q:Nat):Int).toNat*1)=some (gA ((p::l)[q]?.getD [])):=h3 q d2;generalize (p::l)[q]?.getD []=x at hx hS1 W8 UJ f1;generalize dD ((p::l).take q)=s at UJ hSq W8 hS1 ⊢;have a1:mA .add .i64 ((k+s:Nat):Int) ((x.length:Nat):Int)=some (.int .i64 ((k+(s+x.length):Nat):Int)):=by rw[lB oM oM];congr 2;omega
  refine U38 ?_;exact Tc.db (UJ)
end
section
variable(M:Md prog)(H:View)
end
section
variable(M:Md prog)(H:View)
theorem FH(A B:Option Addr)(n m ac bc:Nat)(x y:Nat->List UInt8)(hA:oC H A n x)(hB:oC H B m y)(hn:n<=100000000)(hm:m<=100000000)(t:Bool)(ht:(decide (n=m)&&wF (fun i=> decide (x i=y i)) n)=t):
  bA M 59 #[.slice A n ac,.slice B m bc] H (fun v H'=> H.le H'/\v=.bool t):=by
 rw[<-ht];clear ht;refine .en func59 ntmps59 fun St c cs hK=> ?_;by_cases c0:n=m
 ·subst c0;rw[decide_eq_true rfl,Bool.true_and] at hK;refine zP ?_;refine Tc.db (Tc.sA (σ:= { j:Nat//j<=n/\∀i,i<j->x i=y i }) (fun j=> ([(0,.slice A n ac),(1,.slice B n bc),(5,.int .i64 (j.1:Nat))],[])) (fun j=> n-j.1) ?_ ⟨0,Nat.zero_le _,fun i hi=> by omega⟩);rintro⟨j,hj,OA⟩ ih;show Tc M St _ _ _ _ [(0,.slice A n ac),(1,.slice B n bc),(5,.int .i64 (j:Nat))] [] _ _;by_cases c1:j=n
  ·have e:wF (fun i=> decide (x i=y i)) n=true:=(vC n).2 (fun i hi=> decide_eq_true (OA i oM));subst c1;rw[e] at hK;refine vF ?_;refine .rt hK func59 results59 [_] ?_;exact okB
  ·have c2:j<n:=by omega
   obtain h0|⟨ab,ao,fa,gs,gt,gz,rfl,KS,R4⟩:=hA
   ·omega
   obtain h0|⟨bb,bo,fb,ks,kt,kz,rfl,zH,EJ⟩:=hB
   ·omega
   have f1:=R4 j c2;have f2:=EJ j c2;by_cases c3:x j=y j
   ·have f3:RL.HC .neq (x j) (y j)=some (.bool false):=by simp[RL.HC,c3]
    refine LG ?_;refine Tc.dr [] [] mixed rfl ?_;refine V9 0 ?_;refine .dn ?_;refine U8 ?_;exact Tc.db (ih ⟨j+1,oM,fun i hi=> by by_cases e:i=j;exact e▸c3;exact OA i oM⟩ (by simp only;omega))
   ·have f3:RL.HC .neq (x j) (y j)=some (.bool true):=by simp[RL.HC,c3]
    have e:wF (fun i=> decide (x i=y i)) n=false:=xF c2 (decide_eq_false c3);rw[e] at hK;refine LG ?_;refine Tc.dr [] [] mixed rfl ?_;refine V9 0 ?_;refine .dn ?_;refine U5 ?_;refine .rt hK func59 results59 [_] ?_;exact okB
 ·rw[decide_eq_false c0,Bool.false_and] at hK;refine SR ?_;refine .rt hK func59 results59 [_] ?_;exact okB
theorem cK(A B:Option Addr)(n m ac bc:Nat)(x y:Nat->Int)(hA:pB H A n x)(hB:pB H B m y)(hn:n<=1000000)(hm:m<=1000000)(t:Bool)(ht:(decide (n=m)&&wF (fun i=> decide (x i=y i)) n)=t):
  bA M 147 #[.slice A n ac,.slice B m bc] H (fun v H'=> H.le H'/\v=.bool t):=by
 rw[<-ht];clear ht;refine .en func147 ntmps147 fun St c cs hK=> ?_;by_cases c0:n=m
 ·subst c0;rw[decide_eq_true rfl,Bool.true_and] at hK;refine zP ?_;refine Tc.db (Tc.sA (σ:= { j:Nat//j<=n/\∀i,i<j->x i=y i }) (fun j=> ([(0,.slice A n ac),(1,.slice B n bc),(5,.int .i64 (j.1:Nat))],[])) (fun j=> n-j.1) ?_ ⟨0,Nat.zero_le _,fun i hi=> by omega⟩);rintro⟨j,hj,OA⟩ ih;show Tc M St _ _ _ _ [(0,.slice A n ac),(1,.slice B n bc),(5,.int .i64 (j:Nat))] [] _ _;by_cases c1:j=n
  ·have e:wF (fun i=> decide (x i=y i)) n=true:=(vC n).2 (fun i hi=> decide_eq_true (OA i oM));subst c1;rw[e] at hK;refine vF ?_;refine .rt hK func147 results147 [_] ?_;exact okB
  ·have c2:j<n:=by omega
   obtain h0|⟨ab,ao,fa,gs,gt,gz,rfl,KS,R4⟩:=hA
   ·omega
   obtain h0|⟨bb,bo,fb,ks,kt,kz,rfl,zH,EJ⟩:=hB
   ·omega
   have f1:=R4 j c2;have f2:=EJ j c2;by_cases c3:x j=y j
   ·skip
    refine LG ?_;refine Tc.dr [] [] mixed rfl ?_;refine V9 0 ?_;refine .dn ?_;refine U8 ?_;exact Tc.db (ih ⟨j+1,oM,fun i hi=> by by_cases e:i=j;exact e▸c3;exact OA i oM⟩ (by simp only;omega))
   ·skip
    have e:wF (fun i=> decide (x i=y i)) n=false:=xF c2 (decide_eq_false c3);rw[e] at hK;refine LG ?_;refine Tc.dr [] [] mixed rfl ?_;refine V9 0 ?_;refine .dn ?_;refine U5 ?_;refine .rt hK func147 results147 [_] ?_;exact okB
 ·rw[decide_eq_false c0,Bool.false_and] at hK;refine SR ?_;refine .rt hK func147 results147 [_] ?_;exact okB
theorem yN(A B:Option Addr)(n m ac bc:Nat)(x y:Nat->Int)(hA:pB H A n x)(hB:pB H B m y)(hn:n<=1000000)(hm:m<=1000000)(t:Bool)(ht:(decide (n=m)&&wF (fun i=> decide (x i=y i)) n)=t):
  bA M 60 #[.slice A n ac,.slice B m bc] H (fun v H'=> H.le H'/\v=.bool t):=by
 refine .en func60 ntmps60 fun St c cs hK=> ?_;refine U8 ?_;refine .cl (fun H hs=> cK M H A B n m ac bc x y (hA.le hs.base) (hB.le hs.base) hn hm t ht) ?_;refine U2 ?_;refine .rt hK func60 results60 [_] ?_;exact okB
end
end Go.Proofs.YtldmfjcgjdchcaaGreatDoor
