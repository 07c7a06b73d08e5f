/-
  Texts of the proofs over baudot/dial: TA5 TA6 TA7 TA8 TA9 TB1 TB2 TD1 TD2 TD3 TD4 TD5 TD6 TE1 TE3 TE4 TE5 TE6 TG1 TE7 TE8 TE9 TI1 TG2 TF3 TF4 TF6 TH1 TL1 TL2 TG6.
-/
import Derived.Test.YtldmfjcgjdchcaaGreatDoorQ09
namespace Go.Proofs.YtldmfjcgjdchcaaGreatDoor.Sg
open Go.RL Go.Proofs.Tryz
set_option maxHeartbeats 8000000
set_option maxRecDepth 10000
section
variable(M:Md prog)(H:View)
theorem all_c(a b:Int)(fv:Value)(J:Int→View→Prop)(D:View→Prop)(ha: -1000000000≤a)(hb:b≤1000000000)(h0:J a H)
   (hy:∀i H',a≤i→i≤b→J i H'→FnT M fv [.int .i64 i] H' fun v H''=> (v=.bool true∧J (i+1) H'')∨(v=.bool false∧D H'')):
   CallT M 154 #[bandV a b,fv] H (fun _ H'=> ∃H₁,H₁.le H'∧((∃i,b<i∧a≤i∧(i=a∨i=b+1)∧J i H₁)∨D H₁)):=by
 refine .en func154 ntmps154 fun St c cs hK=> ?_;refine U2 ?_;refine .bo fun b1=> ?_;refine U8 ?_;refine Tc.db (Tc.loopB (σ:= { s:Int×View//a≤s.1∧(s.1=a∨s.1≤b+1)∧J s.1 s.2 })
   (fun s=> (s.1.2,[(4,.int .i64 s.1.1),(1,fv),(2,.pointer (some ⟨b1,0,none⟩))],[(b1,true,.cells ⟨[.int .i64 a,.int .i64 b]⟩ 257 (0,0))])) (fun s=> (b+1-s.1.1).toNat) ?_ ⟨(a,H),by simp,by simp,h0⟩)
 rintro⟨⟨i,H₁⟩,g1,g2,g3⟩ ih;simp only at g1 g2 g3;show Tc M St _ _ H₁ _ [(4,.int .i64 i),(1,fv),(2,.pointer (some ⟨b1,0,none⟩))] [(b1,true,.cells ⟨[.int .i64 a,.int .i64 b]⟩ 257 (0,0))] _ _;by_cases c1:i≤b
 · refine U16 ?_;refine To.callF rfl rfl rfl rfl rfl rfl (by decide) (hy i H₁ g1 c1 g3) (fun v H₂ hv=> ?_);rcases hv with ⟨rfl,hv⟩|⟨rfl,hv⟩
   · refine U10 ?_;exact Tc.db (ih ⟨(i+1,H₂),by simp only;omega,by simp only;omega,hv⟩ (by simp only;omega))
   · refine U3 ?_;refine .rt hK func154 results154 [] ?_;exact fun H' hs=> ⟨H₂,hs.base,.inr hv⟩
 · refine U10 ?_;refine .ov hK func154 results154 [] ?_;exact fun H' hs=> ⟨H₁,hs.base,.inl ⟨i,by omega,g1,by omega,g3⟩⟩
end
def intsL(l:List Int):List Value:=l.map fun x=> .int .i64 x
def timesV(l:List Int):Value:=.agg ⟨intsL l⟩
def afterTo(l:List Int)(k:Nat):List Int:=l.zipIdx.map fun x=> if x.2<k then x.1-l.headD 0 else x.1
theorem intsL_len(l:List Int):(intsL l).length=l.length:=by simp[intsL]
theorem afterTo_len(l:List Int)(k:Nat):(afterTo l k).length=l.length:=by simp[afterTo]
theorem afterTo_get {l:List Int}{k i:Nat}{x:Int}(h:l[i]? =some x):(afterTo l k)[i]? =some (if i<k then x-l.headD 0 else x):=by
 simp[afterTo,h]
theorem intsL_get {l:List Int}{i:Nat}{x:Int}(h:l[i]? =some x):(intsL l)[i]? =some (.int .i64 x):=by simp[intsL,h]
theorem stL_one(l:List Value)(i:Nat)(v:Value)(h:i<l.length):stL l i [v]=l.set i v:=by
 unfold stL;rw[List.set_eq_take_append_cons_drop,if_pos h];simp
theorem six {l:List Int}(h:l.length=6):∃a b c d e f,l= [a,b,c,d,e,f]:=by
 match l,h with
 | [a,b,c,d,e,f],_=> exact⟨a,b,c,d,e,f,rfl⟩
theorem afterTo_step {l:List Int}{k:Nat}{x:Int}(h:l[k]? =some x):stL (intsL (afterTo l k)) k [.int .i64 (x-l.headD 0)]=intsL (afterTo l (k+1)):=by
 have hk:k<l.length:=(List.getElem?_eq_some_iff.1 h).1;rw[stL_one _ _ _ (by rw[intsL_len,afterTo_len];exact hk)];apply List.ext_getElem?
 intro i;by_cases e:k=i
 · subst e;rw[List.getElem?_set_self (by rw[intsL_len,afterTo_len];exact hk),intsL_get (afterTo_get h),if_pos (by omega)]
 · rw[List.getElem?_set_ne e];cases hx:l[i]? with
   | none=>
     have h1:l.length≤i:=List.getElem?_eq_none_iff.1 hx;rw[List.getElem?_eq_none (by rw[intsL_len,afterTo_len];exact h1),List.getElem?_eq_none (by rw[intsL_len,afterTo_len];exact h1)]
   | some y=>
     rw[intsL_get (afterTo_get hx),intsL_get (afterTo_get hx)];by_cases e2:i<k
     · rw[if_pos e2,if_pos (by omega)]
     · rw[if_neg e2,if_neg (by omega)]
section
variable(M:Md prog)(H:View)
theorem after_c(l:List Int)(many:Nat)(h6:l.length=6)(hm:many≤6)(hb:∀x∈l, -1000000000≤x∧x≤1000000000):CallT M 76 #[timesV l,.int .i64 many] H (fun v H'=> H.le H'∧v=timesV (afterTo l many)):=by
 refine .en func76 ntmps76 fun St c cs hK=> ?_;obtain⟨x0,l',rfl⟩:∃x l',l=x::l':=by
   cases l with
   | nil=> cases h6
   | cons x l'=> exact⟨x,l',rfl⟩
 have z0:afterTo (x0::l') 0=x0::l':=by
   unfold afterTo;simp
 have hx0:=hb x0 (by simp);refine U2 ?_;refine .bo fun b2=> ?_;refine .al fun b4=> ?_;refine U14 ?_;refine Tc.db (Tc.loopInv (σ:= { s:Nat×List Int//s.1≤many∧s.2=afterTo (x0::l') s.1 })
   (fun s=> ([(10,.int .i64 (s.1.1:Nat)),(9,.int .i64 many),(5,.int .i64 x0),(2,.pointer (some ⟨b2,0,none⟩)),(4,.pointer (some ⟨b4,0,none⟩))],
     [(b4,true,.cells ⟨[.int .i64 0,.int .i64 0,.int .i64 0,.int .i64 0,.int .i64 0,.int .i64 0]⟩ 139 (0,0)),(b2,true,.cells ⟨intsL s.1.2⟩ 139 (0,0))])) (fun s=> many-s.1.1) ?_ ⟨(0,x0::l'),by simp,z0.symm⟩)
 rintro⟨⟨k,cur⟩,g1,g2⟩ ih;simp only at g1 g2;have hcl:(intsL cur).length=6:=by rw[intsL_len,g2,afterTo_len];exact h6
 show Tc M St _ _ _ _ [(10,.int .i64 (k:Nat)),(9,.int .i64 many),(5,.int .i64 x0),(2,.pointer (some ⟨b2,0,none⟩)),(4,.pointer (some ⟨b4,0,none⟩))]
     [(b4,true,.cells ⟨[.int .i64 0,.int .i64 0,.int .i64 0,.int .i64 0,.int .i64 0,.int .i64 0]⟩ 139 (0,0)),(b2,true,.cells ⟨intsL cur⟩ 139 (0,0))] _ _
 by_cases c1:k=many
 · subst c1;obtain⟨y0,y1,y2,y3,y4,y5,hy⟩:=six (show cur.length=6 by rw[←intsL_len];exact hcl);subst hy;refine U12 ?_;refine .rt hK func76 results76 [_] ?_;exact fun H' hs=> ⟨hs.base,by rw[←g2];rfl⟩
 · have c2:k<many:=by omega
   obtain⟨x,hx⟩:∃x,(x0::l')[k]? =some x:=⟨_,List.getElem?_eq_getElem (by rw[h6];omega)⟩
   have hxb:=hb x (List.mem_of_getElem? hx);have hcx:cur[k]? =some x:=by rw[g2,afterTo_get hx,if_neg (by omega)]
   have f1:ldL false 1 (intsL cur) (0+(k:Int).toNat*1)=some (.int .i64 x):=by
     show(intsL cur)[0+(k:Int).toNat*1]? =_;rw[show 0+(k:Int).toNat*1=k by simp];exact intsL_get hcx
   have f2:stL (intsL cur) (0+(k:Int).toNat*1) [.int .i64 (x-x0)]=intsL (afterTo (x0::l') (k+1)):=by
     rw[show 0+(k:Int).toNat*1=k by simp,g2];exact afterTo_step hx
   have f3:Nat.ble (0+(k:Int).toNat*1+1) (intsL cur).length=true:=Nat.ble_eq_true_of_le (by rw[hcl];simp;omega);refine U28 ?_;exact Tc.db (ih ⟨(k+1,afterTo (x0::l') (k+1)),by simp only;omega,rfl⟩ (by simp only;omega))
end
def stillF(place number send lean:Int):Int:=2*place*send+if number%2=0 then -lean else lean
def seenAt(ps:List Nat)(mv:List Int)(send lean:Int)(i:Nat):Int:=stillF ((ps[i]?.getD 0:Nat):Int) i send lean+mv[i]?.getD 0
def seenTo(ps:List Nat)(mv:List Int)(send lean:Int)(k:Nat):List Int:=(List.range 6).map fun i=> if i<k then seenAt ps mv send lean i else 0
theorem seenTo_len(ps:List Nat)(mv:List Int)(send lean:Int)(k:Nat):(seenTo ps mv send lean k).length=6:=by simp[seenTo]
theorem seenTo_step {ps:List Nat}{mv:List Int}{send lean:Int}{k:Nat}(hk:k<6):stL (intsL (seenTo ps mv send lean k)) k [.int .i64 (seenAt ps mv send lean k)]=intsL (seenTo ps mv send lean (k+1)):=by
 rw[stL_one _ _ _ (by rw[intsL_len,seenTo_len];exact hk)];apply List.ext_getElem?
 intro i;by_cases e:k=i
 · subst e;rw[List.getElem?_set_self (by rw[intsL_len,seenTo_len];exact hk)];simp[intsL,seenTo,hk]
 · rw[List.getElem?_set_ne e];by_cases hi:i<6
   · simp only[intsL,seenTo,List.getElem?_map,List.getElem?_range hi,Option.map_some];by_cases e2:i<k
     · rw[if_pos e2,if_pos (by omega)]
     · rw[if_neg e2,if_neg (by omega)]
   · rw[List.getElem?_eq_none (by rw[intsL_len,seenTo_len];omega),List.getElem?_eq_none (by rw[intsL_len,seenTo_len];omega)]
section
variable(M:Md prog)(H:View)
theorem still_c(place number send lean:Int)(h1:0≤place)(h2:place≤6)(h3:0≤number)(h4:0≤send)(h5:send≤1000)(h6: -1000≤lean)(h7:lean≤1000):
   CallT M 162 #[.agg ⟨[.int .i64 place,.int .i64 number]⟩,.int .i64 send,.int .i64 lean] H (fun v H'=> H.le H'∧v=.int .i64 (stillF place number send lean)):=by
 refine .en func162 ntmps162 fun St c cs hK=> ?_;have h8:0≤2*place*send:=Int.mul_nonneg (by omega) h4;have h9:2*place*send≤12*1000:=Int.mul_le_mul (by omega) h5 h4 (by omega);refine U2 ?_;refine .bo fun b1=> ?_;refine U2 ?_;by_cases h:number%2=0
 · refine U5 ?_;refine .i ?_ (z:=rem_in (by omega) (by omega));refine U5 ?_;refine .x .ng ?_;refine U6 ?_;refine .i ?_ (z:=mul_in (by omega) (by omega));refine U ?_;refine .i ?_ (z:=mul_in (by omega) (by omega));refine U4 ?_;refine .rt hK func162 results162 [_] ?_;exact fun H' hs=> ⟨hs.base,by simp[packV,stillF,h] <;> omega⟩
 · refine U5 ?_;refine .i ?_ (z:=rem_in (by omega) (by omega));refine U8 ?_;refine .i ?_ (z:=mul_in (by omega) (by omega));refine U ?_;refine .i ?_ (z:=mul_in (by omega) (by omega));refine U4 ?_;refine .rt hK func162 results162 [_] ?_;exact fun H' hs=> ⟨hs.base,by simp[packV,stillF,h] <;> omega⟩
theorem still_in {place number send lean:Int}(h1:0≤place)(h2:place≤6)(h4:0≤send)(h5:send≤1000)(h6: -1000≤lean)(h7:lean≤1000): -1000≤stillF place number send lean∧stillF place number send lean≤13000:=by
 have h8:0≤2*place*send:=Int.mul_nonneg (by omega) h4;have h9:2*place*send≤12*1000:=Int.mul_le_mul (by omega) h5 h4 (by omega);unfold stillF;split <;> omega
theorem seen_c(code send read lean:Int)(ps:List Nat)(mv:List Int)(eb eo ec vb vo vc:Nat)(f1 f2:Bool)(es vs:List Value)(et vt:TypeId)(ez vz:Nat×Nat)
   (hE:H eb=some (f1,.cells ⟨es⟩ et ez)) (hE2:∀i:Nat,i<ps.length→ldL true 2 es (eo+i*2)=some (.agg ⟨[.int .i64 ((ps[i]?.getD 0:Nat):Int),.int .i64 (i:Nat)]⟩))
   (hV:H vb=some (f2,.cells ⟨vs⟩ vt vz)) (hV2:∀i:Nat,i<ps.length→ldL false 1 vs (vo+i*1)=some (.int .i64 (mv[i]?.getD 0)))
   (hp:ps.length≤6) (hp6:∀i:Nat,i<ps.length→ps[i]?.getD 0≤6) (hmv:∀i:Nat, -1000≤mv[i]?.getD 0∧mv[i]?.getD 0≤1000) (h4:0≤send) (h5:send≤1000) (h6: -1000≤lean) (h7:lean≤1000) (ml:Nat) (hml:ps.length≤ml):
   CallT M 75 #[.agg ⟨[.int .i64 code,.slice (some ⟨eb,eo,none⟩) ps.length ec]⟩,.agg ⟨[.int .i64 send,.int .i64 read,.int .i64 lean,.slice (some ⟨vb,vo,none⟩) ml vc]⟩] H (fun v H'=> H.le H'∧v=timesV (seenTo ps mv send lean ps.length)):=by
 refine .en func75 ntmps75 fun St c cs hK=> ?_;refine U2 ?_;refine .bo fun b2=> ?_;refine .bo fun b3=> ?_;refine .al fun b4=> ?_;refine U3 ?_;refine .al fun b5=> ?_;refine U10 ?_;refine Tc.db (Tc.loopInv (σ:= { s:Nat×List Int//s.1≤ps.length∧s.2=seenTo ps mv send lean s.1 })
   (fun s=> ([(11,.int .i64 (s.1.1:Nat)),(10,.int .i64 ps.length),(9,.slice (some ⟨eb,eo,none⟩) ps.length ec),(2,.pointer (some ⟨b2,0,none⟩)),(3,.pointer (some ⟨b3,0,none⟩)),(4,.pointer (some ⟨b4,0,none⟩)),(5,.pointer (some ⟨b5,0,none⟩))],
     [(b5,true,.cells ⟨intsL s.1.2⟩ 139 (0,0)),(b4,true,.cells ⟨[.int .i64 0,.int .i64 0,.int .i64 0,.int .i64 0,.int .i64 0,.int .i64 0]⟩ 139 (0,0)),
      (b3,true,.cells ⟨[.int .i64 send,.int .i64 read,.int .i64 lean,.slice (some ⟨vb,vo,none⟩) ml vc]⟩ 74 (0,0)),(b2,true,.cells ⟨[.int .i64 code,.slice (some ⟨eb,eo,none⟩) ps.length ec]⟩ 135 (0,0))])) (fun s=> ps.length-s.1.1) ?_ ⟨(0,[0,0,0,0,0,0]),by simp,rfl⟩)
 rintro⟨⟨k,cur⟩,g1,g2⟩ ih;simp only at g1 g2;have hcl:(intsL cur).length=6:=by rw[intsL_len,g2,seenTo_len]
 show Tc M St _ _ _ _ [(11,.int .i64 (k:Nat)),(10,.int .i64 ps.length),(9,.slice (some ⟨eb,eo,none⟩) ps.length ec),(2,.pointer (some ⟨b2,0,none⟩)),(3,.pointer (some ⟨b3,0,none⟩)),(4,.pointer (some ⟨b4,0,none⟩)),(5,.pointer (some ⟨b5,0,none⟩))]
     [(b5,true,.cells ⟨intsL cur⟩ 139 (0,0)),(b4,true,.cells ⟨[.int .i64 0,.int .i64 0,.int .i64 0,.int .i64 0,.int .i64 0,.int .i64 0]⟩ 139 (0,0)),
      (b3,true,.cells ⟨[.int .i64 send,.int .i64 read,.int .i64 lean,.slice (some ⟨vb,vo,none⟩) ml vc]⟩ 74 (0,0)),(b2,true,.cells ⟨[.int .i64 code,.slice (some ⟨eb,eo,none⟩) ps.length ec]⟩ 135 (0,0))] _ _
 by_cases c1:k=ps.length
 · obtain⟨y0,y1,y2,y3,y4,y5,hy⟩:=six (show cur.length=6 by rw[←intsL_len];exact hcl);subst hy;refine U12 ?_;refine .rt hK func75 results75 [_] ?_;exact fun H' hs=> ⟨hs.base,by rw[←c1,←g2];rfl⟩
 · have c2:k<ps.length:=by omega
   have k1:(k:Int).toNat=k:=by simp
   have f0:=hE2 k c2;have f1:ldL true 2 es (eo+(k:Int).toNat*2)=some (.agg ⟨[.int .i64 ((ps[k]?.getD 0:Nat):Int),.int .i64 (k:Nat)]⟩):=by rw[k1];exact f0
   have f4:ldL false 1 vs (vo+(k:Int).toNat*1)=some (.int .i64 (mv[k]?.getD 0)):=by rw[k1];exact hV2 k c2
   have f2:stL (intsL cur) (0+(k:Int).toNat*1) [.int .i64 (stillF ((ps[k]?.getD 0:Nat):Int) (k:Nat) send lean+mv[k]?.getD 0)]=intsL (seenTo ps mv send lean (k+1)):=by
     rw[show 0+(k:Int).toNat*1=k by simp,g2];exact seenTo_step (by omega)
   have f3:Nat.ble (0+(k:Int).toNat*1+1) (intsL cur).length=true:=Nat.ble_eq_true_of_le (by rw[hcl];simp;omega);have b6:=hp6 k c2;have b7:=hmv k;have b8:=still_in (place:=((ps[k]?.getD 0:Nat):Int)) (number:=(k:Nat)) (by omega) (by omega) h4 h5 h6 h7;refine U14 ?_;refine .al fun b7=> ?_;refine U3 ?_;refine Tc.dr [14] [1] mixed rfl ?_;refine .nn 0 ?_;refine .nn 1 ?_;refine .nn 2 ?_;refine .nn 3 ?_;refine .nn 4 ?_;refine .nn 5 ?_;refine .z 6 rfl (OpV.takeCall rfl rfl rfl rfl (fun H hs=> .h (still_c M H (ps[k]?.getD 0:Nat) k send lean (by omega) (by omega) (by omega) h4 h5 h6 h7))) ?_;refine .nn 7 ?_;refine .nn 8 ?_;refine .nn 9 ?_;refine .nn 10 ?_;refine .nn 11 ?_;refine .nn 12 ?_;refine .nn 13 ?_;refine .e 14 1 ?_;refine .dn ?_;refine U5 ?_;exact Tc.db (ih ⟨(k+1,seenTo ps mv send lean (k+1)),by simp only;omega,rfl⟩ (by simp only;omega))
end
def edgeV(p i:Nat):Value:=.agg ⟨[.int .i64 (p:Nat),.int .i64 (i:Nat)]⟩
structure Stg where
 code:Nat
 ps:List Nat
 send:Int
 read:Int
 lean:Int
 first:Int
 mf:Int
 mt:Int
structure Stg.Ok(s:Stg):Prop where
 code:s.code<32
 ps0:0<s.ps.length
 ps6:s.ps.length≤6
 places:∀i:Nat,i<s.ps.length→s.ps[i]?.getD 0≤6
 send:0≤s.send∧s.send≤1000
 read:0≤s.read∧s.read≤1000
 lean: -1000≤s.lean∧s.lean≤1000
 first: -1000≤s.first∧s.first≤1000
 mf: -1000≤s.mf∧s.mf≤1000
 mt:s.mt≤1000
section
variable(M:Md prog)(H:View)
end
structure Lk where
 s0:Int
 s1:Int
 r0:Int
 r1:Int
 l0:Int
 l1:Int
 m0:Int
 m1:Int
def Lk.val(k:Lk):Value:=.agg ⟨[.int .i64 k.s0,.int .i64 k.s1,.int .i64 k.r0,.int .i64 k.r1,.int .i64 k.l0,.int .i64 k.l1,.int .i64 k.m0,.int .i64 k.m1]⟩
def paceOk(a b:Int):Bool:=decide (1≤a∧a≤b∧b≤40∧b-a<3)
def leanOk(a b:Int):Bool:=decide (-9≤a∧a≤b∧b≤9∧b-a<3)
def moveOk(a b:Int):Bool:=decide (-12≤a∧a≤b∧b≤12∧b-a<25)
def Lk.sends(k:Lk):Bool:=paceOk k.s0 k.s1
def Lk.reads(k:Lk):Bool:=paceOk k.r0 k.r1
def Lk.leans(k:Lk):Bool:=leanOk k.l0 k.l1
def Lk.moves(k:Lk):Bool:=moveOk k.m0 k.m1
section
variable(M:Md prog)(H:View)
theorem isPaces_c(a b:Int):CallT M 367 #[bandV a b] H (fun v H'=> H.le H'∧v=.bool (decide (1≤a∧a≤b∧b≤40∧b-a<3))):=by
 refine .en func367 ntmps367 fun St c cs hK=> ?_;refine U2 ?_;refine .bo fun b1=> ?_;refine U5 ?_;refine .c rfl rfl rfl rfl (fun H hs=> .h (bandOf_c M H a b)) ?_;refine .c rfl rfl rfl rfl (fun H hs=> .h (within_c M H a b 1 40 3 (by omega) (by omega))) ?_;refine U2 ?_;refine .rt hK func367 results367 [_] ?_;exact okB
theorem sends_c(k:Lk):CallT M 363 #[k.val] H (fun v H'=> H.le H'∧v=.bool k.sends):=by
 refine .en func363 ntmps363 fun St c cs hK=> ?_;refine U2 ?_;refine .bo fun b1=> ?_;refine U7 ?_;refine .c rfl rfl rfl rfl (fun H hs=> .h (isPaces_c M H k.s0 k.s1)) ?_;refine U2 ?_;refine .rt hK func363 results363 [_] ?_;exact okB
theorem reads_c(k:Lk):CallT M 364 #[k.val] H (fun v H'=> H.le H'∧v=.bool k.reads):=by
 refine .en func364 ntmps364 fun St c cs hK=> ?_;refine U2 ?_;refine .bo fun b1=> ?_;refine U7 ?_;refine .c rfl rfl rfl rfl (fun H hs=> .h (isPaces_c M H k.r0 k.r1)) ?_;refine U2 ?_;refine .rt hK func364 results364 [_] ?_;exact okB
theorem leans_c(k:Lk):CallT M 354 #[k.val] H (fun v H'=> H.le H'∧v=.bool k.leans):=by
 refine .en func354 ntmps354 fun St c cs hK=> ?_;refine U2 ?_;refine .bo fun b1=> ?_;refine U8 ?_;refine .c rfl rfl rfl rfl (fun H hs=> .h (bandOf_c M H k.l0 k.l1)) ?_;refine .c rfl rfl rfl rfl (fun H hs=> .h (within_c M H k.l0 k.l1 (-9) 9 3 (by omega) (by omega))) ?_;refine U2 ?_;refine .rt hK func354 results354 [_] ?_;exact okB
theorem moves_c(k:Lk):CallT M 365 #[k.val] H (fun v H'=> H.le H'∧v=.bool k.moves):=by
 refine .en func365 ntmps365 fun St c cs hK=> ?_;refine U2 ?_;refine .bo fun b1=> ?_;refine U8 ?_;refine .c rfl rfl rfl rfl (fun H hs=> .h (bandOf_c M H k.m0 k.m1)) ?_;refine .c rfl rfl rfl rfl (fun H hs=> .h (within_c M H k.m0 k.m1 (-12) 12 25 (by omega) (by omega))) ?_;refine U2 ?_;refine .rt hK func365 results365 [_] ?_;exact okB
def allTo(p:Nat→Bool):Nat→Bool
 | 0=> true
 | k+1=> allTo p k&&p k
theorem allTo_false {p:Nat→Bool}{k:Nat}(h:allTo p k=false):∀m,k≤m→allTo p m=false:=by
 intro m hm;induction m with
 | zero=>
   have:k=0:=by omega
   subst this;exact h
 | succ m ih=>
   by_cases e:k=m+1
   · subst e;exact h
   · rw[allTo,ih (by omega)];rfl
theorem check_c(kv:List Value)(gb off m cc:Nat)(f:Bool)(gs:List Value)(gt:TypeId)(gz:Nat×Nat)(fv:Nat→Value)(p:Nat→Bool)(hm:m≤1000)(hk8:kv.length=8)(hG:H gb=some (f,.cells ⟨gs⟩ gt gz))(hG2:∀i:Nat,i<m→ldL false 1 gs (off+i*1)=some (fv i))
   (hp:∀i:Nat,i<m→∀H',H.le H'→FnT M (fv i) [.agg ⟨kv⟩] H' fun v H''=> H'.le H''∧v=.bool (p i)):
   CallT M 158 #[.agg ⟨kv⟩,.slice (some ⟨gb,off,none⟩) m cc] H (fun v H'=> H.le H'∧v=.int .i64 (if allTo p m then 0 else 1)):=by
 obtain⟨a0,a1,a2,a3,a4,a5,a6,a7,rfl⟩:∃a0 a1 a2 a3 a4 a5 a6 a7,kv= [a0,a1,a2,a3,a4,a5,a6,a7]:=by
   match kv,hk8 with
   | [a0,a1,a2,a3,a4,a5,a6,a7],_=> exact⟨a0,a1,a2,a3,a4,a5,a6,a7,rfl⟩
 refine .en func158 ntmps158 fun St c cs hK=> ?_;refine U2 ?_;refine .bo fun b2=> ?_;refine U10 ?_;refine Tc.db (Tc.loopInv (σ:= { k:Nat//k≤m∧allTo p k=true })
   (fun s=> ([(9,.int .i64 (s.1:Nat)),(8,.int .i64 m),(7,.slice (some ⟨gb,off,none⟩) m cc),(2,.pointer (some ⟨b2,0,none⟩))],[(b2,true,.cells ⟨[a0,a1,a2,a3,a4,a5,a6,a7]⟩ 132 (0,0))])) (fun s=> m-s.1) ?_ ⟨0,by simp,rfl⟩)
 rintro⟨k,g1,g2⟩ ih;show Tc M St _ _ _ _ [(9,.int .i64 (k:Nat)),(8,.int .i64 m),(7,.slice (some ⟨gb,off,none⟩) m cc),(2,.pointer (some ⟨b2,0,none⟩))] [(b2,true,.cells ⟨[a0,a1,a2,a3,a4,a5,a6,a7]⟩ 132 (0,0))] _ _;by_cases c1:k=m
 · subst c1;refine U11 ?_;refine .rt hK func158 results158 [_] ?_;exact fun H' hs=> ⟨hs.base,by rw[g2];rfl⟩
 · have c2:k<m:=by omega
   have f1:ldL false 1 gs (off+(k:Int).toNat*1)=some (fv k):=by rw[show(k:Int).toNat=k by simp];exact hG2 k c2
   cases hpk:p k with
   | true=>
     refine U19 ?_;refine .c rfl rfl rfl rfl (fun H hs=> hpk▸hp k c2 H hs.base) ?_;refine U9 ?_;exact Tc.db (ih ⟨k+1,by omega,by rw[allTo,g2,hpk];rfl⟩ (by simp only;omega))
   | false=>
     have h2:=allTo_false (p:=p) (k:=k+1) (by rw[allTo,hpk];simp) m (by omega);refine U19 ?_;refine .c rfl rfl rfl rfl (fun H hs=> hpk▸hp k c2 H hs.base) ?_;refine U7 ?_;refine .rt hK func158 results158 [_] ?_;exact fun H' hs=> ⟨hs.base,by rw[h2];rfl⟩
end
def chkF(i:Nat):Value:=.func (.func ([363,364,354,365][i]?.getD 0)) #[] #[]
def Glob(H:View):Prop:=∃f gt gz,H 2=some (f,.cells ⟨[chkF 0,chkF 1,chkF 2,chkF 3]⟩ gt gz)
def Lk.chk(k:Lk)(i:Nat):Bool:= [k.sends,k.reads,k.leans,k.moves][i]?.getD true
def Lk.ok(k:Lk):Bool:=allTo k.chk 4
section
variable(M:Md prog)(H:View)
theorem chk_c(k:Lk)(i:Nat)(hi:i<4)(H':View):FnT M (chkF i) [k.val] H' fun v H''=> H'.le H''∧v=.bool (k.chk i):=by
 match i,hi with
 | 0,_=> exact FnT.h (sends_c M H' k)
 | 1,_=> exact FnT.h (reads_c M H' k)
 | 2,_=> exact FnT.h (leans_c M H' k)
 | 3,_=> exact FnT.h (moves_c M H' k)
theorem checkLink_c(k:Lk)(hG:Glob H):CallT M 71 #[k.val] H (fun v H'=> H.le H'∧v=.int .i64 (if k.ok then 0 else 1)):=by
 obtain⟨f,gt,gz,hG⟩:=hG;refine .en func71 ntmps71 fun St c cs hK=> ?_;refine U2 ?_;refine .bo fun b1=> ?_;refine U3 ?_;refine Tc.dr [] [] mixed rfl ?_;refine .nn 0 ?_;refine .nn 1 ?_;refine .q 2 rfl (OpV.sliceA (E:=en) (off':=0) rfl rfl rfl rfl rfl rfl rfl rfl (by decide) (by decide) (by decide) (by rw[if_neg (by decide)];rfl)) ?_;refine .z 3 rfl (OpV.takeCall rfl rfl rfl rfl (fun H hs=> .h (check_c M H _ 2 0 4 4 f _ gt gz chkF k.chk (by omega) rfl (hs.base _ _ hG) (fun i hi=> by match i,hi with|0,_=> rfl|1,_=> rfl|2,_=> rfl|3,_=> rfl) (fun i hi H' _=> chk_c M k i hi H')))) ?_;refine .nn 4 ?_;refine .dn ?_;refine .rt hK func71 results71 [_] ?_;exact okB
end
theorem gl_nodup {e:TypeId}{sz:Nat}(g:Gl e sz):(g.bl.map (·.1)).Nodup:=by
 unfold Gl.bl;split <;> simp
def letterV(code:Nat)(g:Gl 270 2):Value:=.agg ⟨[.int .i64 code,g.val]⟩
def lk0:Lk:=⟨0,0,0,0,0,0,0,0⟩
theorem glob_le {H H':View}(h:Glob H)(k:H.le H'):Glob H':=by
 obtain⟨f,gt,gz,h⟩:=h;exact⟨f,gt,gz,k _ _ h⟩
section
variable(M:Md prog)(H:View)
theorem checkLink_bad(k:Lk)(hG:Glob H)(h:k.ok=false):CallT M 71 #[k.val] H (fun v H'=> H.le H'∧v=.int .i64 1):=
 CallT.mono (checkLink_c M H k hG) fun v H' ⟨h1,h2⟩=> ⟨h1,by rw[h2,h];rfl⟩
theorem checkLink_good(k:Lk)(hG:Glob H)(h:k.ok=true):CallT M 71 #[k.val] H (fun v H'=> H.le H'∧v=.int .i64 0):=
 CallT.mono (checkLink_c M H k hG) fun v H' ⟨h1,h2⟩=> ⟨h1,by rw[h2,h];rfl⟩
theorem isCode_no(x:Int)(h:¬(0≤x∧x≤31)):CallT M 151 #[.int .i64 x] H (fun v H'=> H.le H'∧v=.bool false):=
 CallT.mono (isCode_c M H x) fun v H' ⟨h1,h2⟩=> ⟨h1,by rw[h2,decide_eq_false h]⟩
theorem isCode_yes(x:Int)(h:0≤x∧x≤31):CallT M 151 #[.int .i64 x] H (fun v H'=> H.le H'∧v=.bool true):=
 CallT.mono (isCode_c M H x) fun v H' ⟨h1,h2⟩=> ⟨h1,by rw[h2,decide_eq_true h]⟩
theorem open_no(k:Lk)(code:Int)(hG:Glob H)(h:¬(k.ok=true∧0≤code∧code≤31)):CallT M 63 #[k.val,.int .i64 code] H (fun v H'=> H.le H'∧v=.tuple ⟨[lk0.val,.agg ⟨[.int .i64 0,.slice none 0 0]⟩,.int .i64 1]⟩):=by
 refine .en func63 ntmps63 fun St c cs hK=> ?_;refine U2 ?_;refine .bo fun b2=> ?_;refine .al fun b4=> ?_;refine .al fun b5=> ?_;refine U4 ?_;cases hk:k.ok with
 | false=>
   refine U2 ?_;refine .c rfl rfl rfl rfl (fun H hs=> .h (checkLink_bad M H k (glob_le hG hs.base) hk)) ?_;refine U17 ?_;refine .rt hK func63 results63 [_,_,_] ?_;exact okB
 | true=>
   refine U2 ?_;refine .c rfl rfl rfl rfl (fun H hs=> .h (checkLink_good M H k (glob_le hG hs.base) hk)) ?_;refine U13 ?_;refine .c rfl rfl rfl rfl (fun H hs=> .h (isCode_no M H code (fun hh=> h ⟨hk,hh⟩))) ?_;refine U11 ?_;refine .rt hK func63 results63 [_,_,_] ?_;exact okB
theorem open_yes(k:Lk)(code:Nat)(hG:Glob H)(hk:k.ok=true)(hc:code<32):CallT M 63 #[k.val,.int .i64 code] H (fun v H'=> H.le H'∧∃g:Gl 270 2,v=.tuple ⟨[k.val,letterV code g,.int .i64 0]⟩∧(g.n=(placesTo code 7).length∧g.l=edgeCells (placesTo code 7))∧∀y∈g.bl,H' y.1=some y.2∧H y.1=none):=by
 refine .en func63 ntmps63 fun St c cs hK=> ?_;refine U2 ?_;refine .bo fun b2=> ?_;refine .al fun b4=> ?_;refine .al fun b5=> ?_;refine U6 ?_;refine .c rfl rfl rfl rfl (fun H hs=> .h (checkLink_good M H k (glob_le hG hs.base) hk)) ?_;refine U13 ?_;refine .c rfl rfl rfl rfl (fun H hs=> .h (isCode_yes M H code (by omega))) ?_;refine U5 ?_;refine Tc.dr [4,5] [0,1] mixed rfl ?_;refine .nn 0 ?_;refine .nn 1 ?_;refine .nw 2 ?_;refine Ta.each [3] (by kernel_rfl) rfl ⟨TaOp.mk rfl rfl rfl (Or.callNew (letterV code) Gl.bl (fun g=> g.n=(placesTo code 7).length∧g.l=edgeCells (placesTo code 7)) rfl rfl rfl rfl rfl (by decide) gl_nodup (fun H hs=> .h (CallT.mono (letterOf_c M H code hc) (by rintro v H' ⟨h1,g,h2,h3,h4,h5⟩;exact⟨h1,g,h2,⟨h3,h4⟩,h5⟩))) (fun g hg=> ⟨S2.mk (by apply List.Sublist.cons;apply List.Sublist.cons;exact List.sublist_append_left _ _) (.inr (by exact List.sublist_append_left _ _)),?_⟩)),trivial⟩;refine .e 4 1 ?_;refine .e 5 0 ?_;refine .nw 6 ?_;refine .dn ?_;refine .rt hK func63 results63 [_,_,_] ?_;exact fun H' hs=> ⟨hs.base,g,rfl,hg,fun y hy=> ⟨hs.at_ y (List.mem_cons_of_mem _ (List.mem_cons_of_mem _ (List.mem_cons_of_mem _ hy))),hs.out y (List.mem_cons_of_mem _ (List.mem_cons_of_mem _ (List.mem_cons_of_mem _ hy)))⟩⟩
end
set_option maxHeartbeats 4000000
def upTo(a b:Int):List Int:=(List.range (b+1-a).toNat).map fun i=> a+(i:Nat)
theorem upTo_nil {a b:Int}(h:b<a):upTo a b= []:=by
 unfold upTo;rw[show(b+1-a).toNat=0 by omega];rfl
theorem upTo_cons {a b:Int}(h:a≤b):upTo a b=a::upTo (a+1) b:=by
 unfold upTo;rw[show(b+1-a).toNat=(b+1-(a+1)).toNat+1 by omega,List.range_succ_eq_map];simp only[List.map_cons,List.map_map,List.cons.injEq];refine⟨by simp,List.map_congr_left fun i _=> ?_⟩;simp only[Function.comp,Nat.succ_eq_add_one];omega
theorem mem_upTo {a b x:Int}:x∈upTo a b↔a≤x∧x≤b:=by
 unfold upTo;simp only[List.mem_map,List.mem_range];constructor
 · rintro⟨i,h,rfl⟩;omega
 · rintro⟨h1,h2⟩;exact⟨(x-a).toNat,by omega,by omega⟩
structure CapS(k:Lk)(code m eb ec b2 b5 b3:Nat)(H:View):Prop where
 l:H b2=some (true,.cells ⟨[.int .i64 k.s0,.int .i64 k.s1,.int .i64 k.r0,.int .i64 k.r1,.int .i64 k.l0,.int .i64 k.l1,.int .i64 k.m0,.int .i64 k.m1]⟩ 132 (0,0))
 mv:H b5=some (true,.cells ⟨[.int .i64 k.m0,.int .i64 k.m1]⟩ 257 (0,0))
 x:H b3=some (true,.cells ⟨[.int .i64 code,.slice (some ⟨eb,0,none⟩) m ec]⟩ 135 (0,0))
section
variable(M:Md prog)(H:View)
theorem all_it(a b:Int)(ha: -1000000000≤a)(hb:b≤1000000000):IterT M (.func (.func 154) #[bandV a b] #[]) (upTo a b) (fun i (_:Unit)=> [.int .i64 i]) (fun _ _=> []) (fun _ _=> []) (fun _=> True) [] H:=fun l J D _ h0 hy H₀ hs₀=>
 FnT.of (first:= [bandV a b]) (captured:= []) ca154 rfl (CallT.mono (all_c M H₀ a b (.func (.yield l) #[] #[]) (fun i Hv=> ∃H₂,H₂.le Hv∧J (upTo i b) H₂) D ha hb ⟨H,hs₀.base,h0⟩ (fun i H' h1 h2 ⟨H₂,h3,h4⟩=> by
   rw[upTo_cons h2] at h4;refine FnT.mono (hy i (upTo (i+1) b) () H₂ H' (mem_upTo.2 ⟨h1,h2⟩) h4 ⟨by simp,by simp,by simp,h3⟩) ?_;rintro v H3 (⟨rfl,H4,h5,h6⟩|⟨rfl,h5⟩)
   · exact .inl ⟨rfl,H4,h5.base,h6⟩
   · exact .inr ⟨rfl,h5⟩)) (by
   rintro v H' ⟨H₁,h1,⟨i,h2,_,_,H₂,h3,h4⟩|h2⟩
   · rw[upTo_nil h2] at h4;exact⟨H₂,View.le_trans h3 h1,.inl h4⟩
   · exact⟨H₁,h1,.inr h2⟩))
end
structure NSt where
 j:Nat
 Hj:View
 Hm:View
 es:Array MapEntry
 cl:Nat
 q:Nat
 z:List Value
section
variable(M:Md prog)(H:View)
end
structure MSt where
 k:Nat
 Hm:View
 es:Array MapEntry
 cl:Nat
 row:List Value
section
variable(M:Md prog)(H:View)
end
def Edg(H:View)(ps:List Nat)(eb:Nat):Prop:=
 ∃f es et ez,H eb=some (f,.cells ⟨es⟩ et ez)∧∀i:Nat,i<ps.length→ldL true 2 es (0+i*2)=some (edgeV (ps[i]?.getD 0) i)
theorem Edg.le {H H':View}{ps:List Nat}{eb:Nat}(h:Edg H ps eb)(k:H.le H'):Edg H' ps eb:=by
 obtain⟨f,es,et,ez,h1,h2⟩:=h;exact⟨f,es,et,ez,k _ _ h1,h2⟩
theorem places_in:∀c:Nat,c<32→0<(placesTo c 7).length∧(placesTo c 7).length≤6∧∀i:Nat,i<(placesTo c 7).length→(placesTo c 7)[i]?.getD 0≤6:=by decide +kernel
theorem Lk.ok_in {k:Lk}(h:k.ok=true):(1≤k.s0∧k.s0≤k.s1∧k.s1≤40)∧(1≤k.r0∧k.r0≤k.r1∧k.r1≤40)∧(-9≤k.l0∧k.l0≤k.l1∧k.l1≤9)∧(-12≤k.m0∧k.m0≤k.m1∧k.m1≤12):=by
 simp[Lk.ok,allTo,Lk.chk,Lk.sends,Lk.reads,Lk.leans,Lk.moves,paceOk,leanOk,moveOk] at h
 omega
structure Lk.Fine(k:Lk):Prop where
 s:0≤k.s0∧k.s1≤1000
 r:0≤k.r0∧k.r1≤1000
 l: -1000≤k.l0∧k.l1≤1000
 m: -1000≤k.m0∧k.m1≤1000
 o:k.s0≤1000000∧k.r0≤1000000∧k.l0≤1000000∧k.m0≤1000∧ -1000000≤k.s1∧ -1000000≤k.r1∧ -1000000≤k.l1∧ -1000000≤k.m1
theorem Lk.fine {k:Lk}(h:k.ok=true):k.Fine:=by
 obtain⟨h1,h2,h3,h4⟩:=Lk.ok_in h;exact⟨by omega,by omega,by omega,by omega,by omega⟩
theorem Lk.Fine.bounds {k:Lk}(h:k.Fine):∀z,z∈ [k.s0,k.r0,k.l0,k.m0,k.s1,k.r1,k.l1,k.m1]→ -1000000≤z∧z≤1000000:=by
 obtain⟨g1,g2,g3,g4,g5⟩:=h;simp only[List.mem_cons,List.not_mem_nil,or_false,forall_eq_or_imp,forall_eq];omega
section
variable(M:Md prog)(H:View)
end
section
variable(M:Md prog)(H:View)
end
def letN(code:Nat)(x:Nat×Nat×List Value):Value:=.agg ⟨[.int .i64 code,.slice (some ⟨x.1,0,none⟩) (placesTo code 7).length x.2.1]⟩
def letB(code:Nat)(x:Nat×Nat×List Value):Bl:= [(x.1,true,.cells ⟨edgeCells (placesTo code 7)++x.2.2⟩ 270 (0,0))]
theorem letB_nodup(code:Nat)(x:Nat×Nat×List Value):((letB code x).map (·.1)).Nodup:=by simp[letB]
def edgeCellsF(s:Nat)(ps:List Nat):List Value:=((ps.zipIdx s).map fun x=> [Value.int .i64 (x.1:Nat),Value.int .i64 (x.2:Nat)]).flatten
theorem edgeCellsF_get:∀(ps:List Nat) (s i:Nat),i<ps.length→((edgeCellsF s ps).drop (i*2)).take 2= [.int .i64 (ps[i]?.getD 0:Nat),.int .i64 (s+i:Nat)]
 | [],_,_,h=> by simp at h
 | p ::ps,s,i,h=> by
   have e:edgeCellsF s (p::ps)= [.int .i64 (p:Nat),.int .i64 (s:Nat)]++edgeCellsF (s+1) ps:=by simp[edgeCellsF]
   rw[e];cases i with
   | zero=> simp
   | succ i=>
     rw[show(i+1)*2=i*2+2 by omega,List.drop_append];simp only[List.length_cons,List.length_nil];rw[show i*2+2-(0+1+1)=i*2 by omega,List.drop_eq_nil_of_le (by simp),List.nil_append,edgeCellsF_get ps (s+1) i (by simpa using h)];simp
     omega
theorem edgeCells_len(ps:List Nat):(edgeCells ps).length=ps.length*2:=by
 have:∀(ps:List Nat) (s:Nat),(edgeCellsF s ps).length=ps.length*2:=by
   intro ps;induction ps with
   | nil=> intro s;rfl
   | cons p ps ih=>
     intro s;have e:edgeCellsF s (p::ps)= [.int .i64 (p:Nat),.int .i64 (s:Nat)]++edgeCellsF (s+1) ps:=by simp[edgeCellsF]
     rw[e,List.length_append,ih];simp
     omega
 exact this ps 0
theorem edg_of {H:View}{code:Nat}{x:Nat×Nat×List Value}(h:∀y∈letB code x,H y.1=some y.2):Edg H (placesTo code 7) x.1:=by
 refine⟨_,_,_,_,h (x.1,true,.cells ⟨edgeCells (placesTo code 7)++x.2.2⟩ 270 (0,0)) (by simp[letB]),fun i hi=> ?_⟩;have hl:=edgeCells_len (placesTo code 7);have hle:Nat.ble (0+i*2+2) (edgeCells (placesTo code 7)++x.2.2).length=true:=Nat.ble_eq_true_of_le (by rw[List.length_append];omega);unfold ldL;simp only[hle];have h1:=edgeCellsF_get (placesTo code 7) 0 i hi
 congr 3
 rw[Nat.zero_add,List.drop_append_of_le_length (by omega),List.take_append_of_le_length (by rw[List.length_drop];omega)];have h2:edgeCellsF 0 (placesTo code 7)=edgeCells (placesTo code 7):=rfl;rw[←h2,h1,Nat.zero_add]
section
variable(M:Md prog)(H:View)
theorem gl_some {e:TypeId}{sz:Nat}(g:Gl e sz)(h:0<g.n):∃b,g.blk=some b:=by
 cases hb:g.blk with
 | some b=> exact⟨b,rfl⟩
 | none=>
   have h1:=g.h0 hb;have h2:=g.hc;omega
end
section
variable(M:Md prog)(H:View)
end
section
variable(M:Md prog)(H:View)
end
section
variable(M:Md prog)(H:View)
end
section
variable(M:Md prog)(H:View)
end
theorem open_m(M:Md prog)(H:View)(k:Lk)(code:Nat)(hG:Glob H)(hk:k.ok=true)(hc:code<32):CallT M 63 #[k.val,.int .i64 code] H (fun v H'=> H.le H'∧∃x:Nat×Nat×List Value,v=.tuple ⟨[k.val,letN code x,.int .i64 0]⟩∧(placesTo code 7).length≤x.2.1∧∀y∈letB code x,H' y.1=some y.2∧H y.1=none):=
 CallT.mono (open_yes M H k code hG hk hc) (by
   rintro v H' ⟨h2,g,rfl,⟨h3,h4⟩,h5⟩;obtain⟨b,hb⟩:=gl_some g (by rw[h3];exact(places_in code hc).1);refine⟨h2,(b,g.cap,g.junk),?_,by rw[←h3];exact g.hc,fun y hy=> h5 y ?_⟩
   · unfold letterV letN Gl.val;rw[hb,h3];rfl
   · unfold Gl.bl;rw[hb,h4];exact hy)
theorem eg135:prog.eqGuardType prog.depth 139=false:=by kernel_rfl
theorem ints_flat(l:List Int)(h:l.length=6):flat en 2 139 (intsL l):=by
 refine⟨_,rfl,by rw[intsL_len,h];rfl,fun i hi=> ⟨l[i]?.getD 0,?_⟩⟩;have h3:i<l.length:=by rw[h];exact hi
 unfold chunk;show((intsL l).drop (i*1)).take 1=_;rw[Nat.mul_one];unfold intsL;have h4:i<(l.map fun x=> Value.int .i64 x).length:=by rw[List.length_map];exact h3
 rw[List.drop_eq_getElem_cons h4,List.getElem_map,List.getElem?_eq_getElem h3];rfl
def gMove(ps:List Nat)(send lean n:Int)(af:List Int)(i:Nat):Int:=stillF (ps[0]?.getD 0:Nat) 0 send lean+n+af[i+1]?.getD 0-stillF (ps[i+1]?.getD 0:Nat) (i+1:Nat) send lean
def gMoves(ps:List Nat)(send lean n:Int)(af:List Int)(d:Nat):List Int:=n::(List.range d).map (gMove ps send lean n af)
def Lk.inMove(k:Lk)(x:Int):Bool:=decide (k.m0≤x∧x≤k.m1)
def Lk.gives₂(k:Lk)(ps:List Nat)(send lean n:Int)(af:List Int):Bool:=
 ((List.range (ps.length-1)).all fun i=> k.inMove (gMove ps send lean n af i))&&(afterTo (seenTo ps (gMoves ps send lean n af (ps.length-1)) send lean ps.length) ps.length==af)
def Lk.gives₁(k:Lk)(ps:List Nat)(send lean:Int)(af:List Int)(l:List Int):Bool:=l.any fun n=> k.gives₂ ps send lean n af
def Lk.gives(k:Lk)(ps:List Nat)(send:Int)(af:List Int):Bool:=(upTo k.l0 k.l1).any fun lean=> k.gives₁ ps send lean af (upTo k.m0 k.m1)
theorem intsL_ld {l:List Int}{i:Nat}(h:i<l.length):ldL false 1 (intsL l) (0+i*1)=some (.int .i64 (l[i]?.getD 0)):=by
 show(intsL l)[0+i*1]? =_;rw[Nat.zero_add,Nat.mul_one];unfold intsL;rw[List.getElem?_map,List.getElem?_eq_getElem h];rfl
theorem gMoves_succ(ps:List Nat)(send lean n:Int)(af:List Int)(d:Nat):gMoves ps send lean n af (d+1)=gMoves ps send lean n af d++[gMove ps send lean n af d]:=by
 unfold gMoves;rw[List.range_succ,List.map_append];rfl
theorem gMoves_len(ps:List Nat)(send lean n:Int)(af:List Int)(d:Nat):(gMoves ps send lean n af d).length=d+1:=by simp[gMoves]
theorem gMoves_in {k:Lk}{ps:List Nat}{send lean n:Int}{af:List Int}{d:Nat}(hm: -1000≤k.m0∧k.m1≤1000)(hn:k.m0≤n∧n≤k.m1)(h:∀i,i<d→k.inMove (gMove ps send lean n af i)=true)(i:Nat): -1000≤(gMoves ps send lean n af d)[i]?.getD 0∧(gMoves ps send lean n af d)[i]?.getD 0≤1000:=by
 by_cases e:i<(gMoves ps send lean n af d).length
 · rw[List.getElem?_eq_getElem e];have hmem:=List.getElem_mem e;simp only[Option.getD_some];generalize (gMoves ps send lean n af d)[i]=z at hmem;unfold gMoves at hmem;rcases List.mem_cons.1 hmem with rfl|hmem
   · omega
   · obtain⟨j,hj,rfl⟩:=List.mem_map.1 hmem;have:=h j (List.mem_range.1 hj);unfold Lk.inMove at this;rw[decide_eq_true_iff] at this;omega
 · rw[List.getElem?_eq_none (by omega)];simp
theorem intsL_inj:∀ {l m:List Int},intsL l=intsL m→l=m
 | [],[],_=> rfl
 | [],_::_,h=> by cases h
 | _::_,[],h=> by cases h
 | a::l,b::m,h=> by
   have h1:Value.int .i64 a::intsL l=Value.int .i64 b::intsL m:=h
   injection h1 with h2 h3
   injection h2 with _ h4
   rw[h4,intsL_inj h3]
section
variable(M:Md prog)(H:View)
def gL(code eb ec:Nat)(k:Lk)(send:Int)(af:List Int)(found:Bool)(b4 b5 b6 b7 b8 b9:Nat):Bl:=
 [(b9,true,.cells ⟨[.int .i64 k.m0,.int .i64 k.m1]⟩ 257 (0,0)),(b8,true,.cells ⟨[.bool found]⟩ 4 (0,0)),(b7,true,.cells ⟨intsL af⟩ 139 (0,0)),(b6,true,.cells ⟨[.int .i64 send]⟩ 3 (0,0)),(b5,true,.cells ⟨[.int .i64 code,.slice (some ⟨eb,0,none⟩) (placesTo code 7).length ec]⟩ 135 (0,0)),
   (b4,true,.cells ⟨k.val.cells.toList⟩ 132 (0,0))]
theorem gives_c(k:Lk)(hk:k.Fine)(code eb ec:Nat)(send:Int)(af:List Int)(hc:code<32)(hE:Edg H (placesTo code 7) eb)(hec:(placesTo code 7).length≤ec)(h2:2≤(placesTo code 7).length)(h6:af.length=6)(hb:∀x∈af, -100000≤x∧x≤100000)(hs0:0≤send∧send≤1000):
   CallT M 155 #[k.val,.agg ⟨[.int .i64 code,.slice (some ⟨eb,0,none⟩) (placesTo code 7).length ec]⟩,.int .i64 send,timesV af] H (fun v H'=> H.le H'∧v=.bool (k.gives (placesTo code 7) send af)):=by
 obtain⟨hp0,hp6,hpl⟩:=places_in code hc;have hbd:=hk.bounds;simp only[List.mem_cons,List.not_mem_nil,or_false,forall_eq_or_imp,forall_eq] at hbd;obtain⟨k1,k2,k3,k4,k5,k6,k7,k8⟩:=hbd;have hkl:=hk.l;have hkm:=hk.m;refine .en func155 ntmps155 fun St c cs hK=> ?_;refine U2 ?_;refine .bo fun b4=> ?_;refine .bo fun b5=> ?_;refine .bo fun b6=> ?_;refine .bo fun b7=> ?_;refine .al fun b8=> ?_;refine U7 ?_;refine .c rfl rfl rfl rfl (fun H hs=> .h (bandOf_c M H k.m0 k.m1)) ?_;refine .al fun b9=> ?_;refine U9 ?_;refine .c rfl rfl rfl rfl (fun H hs=> .h (bandOf_c M H k.l0 k.l1)) ?_;refine U3 ?_;have itL:=fun H (_:(fun _:View=> True) H)=> all_it M H k.l0 k.l1 (by omega) (by omega);have itM:=fun H (_:(fun _:View=> True) H)=> all_it M H k.m0 k.m1 (by omega) (by omega);refine Tc.db (R':= [(27,.func (.func 154) #[bandV k.l0 k.l1] #[]),(5,.pointer (some ⟨b5,0,none⟩)),(6,.pointer (some ⟨b6,0,none⟩)),(7,.pointer (some ⟨b7,0,none⟩)),(8,.pointer (some ⟨b8,0,none⟩)),(9,.pointer (some ⟨b9,0,none⟩))]) (L':=gL code eb ec k send af false b4 b5 b6 b7 b8 b9) ?_;refine Tc.rangeL (A:= []) (xs:=upTo k.l0 k.l1) (ts:= [28]) (fun rest H₁ L₁=> L₁=gL code eb ec k send af false b4 b5 b6 b7 b8 b9∧H.le H₁∧(rest.any fun lean=> k.gives₁ (placesTo code 7) send lean af (upTo k.m0 k.m1))=k.gives (placesTo code 7) send af)
   (fun j H₁ L₁=> j=.ret∧H.le H₁∧k.gives (placesTo code 7) send af=true∧L₁=gL code eb ec k send af true b4 b5 b6 b7 b8 b9) rfl rfl rfl rfl itL (fun _ _ _ h=> h) (fun _ _ _ _=> trivial) rfl (fun _ _=> rfl) ⟨rfl,View.le_refl _,rfl⟩ ?_ ?_ ?_
 · rintro r lean rest e l tmps asg bdy H₁ _ hl ⟨rfl,hle1,hany⟩ Q1 St1 cc1 cs1 hK1 q1 q1';have hl':=mem_upTo.1 hl;unfold gL;refine U ?_;refine .al fun b10=> ?_;refine U2 ?_;refine Tc.beginRound (i:=1) rfl rfl rfl ?_;refine U ?_;refine Tc.scope ?_;refine U ?_;refine Tc.label ?_;refine U6 ?_;refine Tc.rangeLIn (A:= []) (i:=1) (xs:=upTo k.m0 k.m1) (ts:= [31]) (fun rest2 H₂ L₂=> L₂=(b10,true,.cells ⟨[.int .i64 lean]⟩ 3 (0,0))::(l,true,.loop { Loop.fresh 155 tmps [28].toArray asg bdy r with state:=.busy })::(r,true,.deferred (some []))::gL code eb ec k send af false b4 b5 b6 b7 b8 b9∧H.le H₂∧k.gives₁ (placesTo code 7) send lean af rest2=k.gives₁ (placesTo code 7) send lean af (upTo k.m0 k.m1))
     (fun j H₂ L₂=> j=.ret∧H.le H₂∧k.gives (placesTo code 7) send af=true∧L₂=(b10,true,.cells ⟨[.int .i64 lean]⟩ 3 (0,0))::(l,true,.loop { Loop.fresh 155 tmps [28].toArray asg bdy r with state:=.busy })::(r,true,.deferred (some []))::gL code eb ec k send af true b4 b5 b6 b7 b8 b9)
     rfl rfl rfl rfl rfl itM (fun _ _ _ h=> h) (fun _ _ _ _=> trivial) rfl (fun _ _=> rfl) ⟨rfl,hle1,rfl⟩ ?_ ?_ ?_
   · rintro n rest2 e2 l2 tmps2 asg2 bdy2 H₂ _ hn ⟨rfl,hle2,hany2⟩ Q2 St2 cc2 cs2 hK2 q2 q2';have hn':=mem_upTo.1 hn;unfold gL;refine U3 ?_;refine Tc.beginRound (i:=0) rfl rfl rfl ?_;refine U3 ?_;refine .x (.ld 7) ?_;refine U2 ?_;refine .e (.bs (zz:=fun bs=> ?_));refine U ?_;refine .al fun b12=> ?_;refine U2 ?_;refine Tc.lift (L₂:= [_,_]) rfl (fun Hx hx=> ?_);have x10:=hx.get (i:=1) rfl;have x9:=hx.get (i:=4) rfl;have x8:=hx.get (i:=5) rfl;have x7:=hx.get (i:=6) rfl;have x6:=hx.get (i:=7) rfl;have x5:=hx.get (i:=8) rfl;obtain⟨fe,es,et,ez,hE1,hE2⟩:=hE.le (View.le_trans hle2 hx.base);have f0:ldL true 2 es (0+(0:Int).toNat*2)=some (edgeV ((placesTo code 7)[0]?.getD 0) 0):=hE2 0 hp0;have b0:=hpl 0 hp0;have st0:=still_in (place:=((placesTo code 7)[0]?.getD 0:Nat)) (number:=((0:Nat):Int)) (send:=send) (lean:=lean) (by omega) (by omega) hs0.1 hs0.2 (by omega) (by omega);have st0':=still_in (place:=((placesTo code 7)[0]?.getD 0:Nat)) (number:=0) (send:=send) (lean:=lean) (by omega) (by omega) hs0.1 hs0.2 (by omega) (by omega);have f7:ldL true 6 (intsL af) 0=some (.agg ⟨intsL af⟩):=by
       unfold ldL;have e1:Nat.ble (0+6) (intsL af).length=true:=by rw[intsL_len,h6];rfl
       simp only[e1];rw[List.drop_zero,List.take_of_length_le (by rw[intsL_len,h6];exact Nat.le_refl _)]
     refine U ?_;refine Tc.dr [] [] mixed rfl ?_;refine .nn 0 ?_;refine .nn 1 ?_;refine .nn 2 ?_;refine .nn 3 ?_;refine .nn 4 ?_;refine .nn 5 ?_;refine .z 6 rfl (OpV.takeCall rfl rfl rfl rfl (fun H hs=> .h (still_c M H ((placesTo code 7)[0]?.getD 0:Nat) ((0:Nat):Int) send lean (by omega) (by omega) (by omega) hs0.1 hs0.2 (by omega) (by omega)))) ?_;refine .nn 7 ?_;refine .nn 8 ?_;refine .nn 9 ?_;refine .dn ?_;refine U5 ?_;refine .x (OpV.slice (E:=en) (l:=1) (h:=((placesTo code 7).length:Nat)) (off':=0+1*2) rfl rfl rfl rfl rfl rfl rfl rfl (by omega) (by omega) (by omega) (by rw[if_neg (by omega)];rfl)) ?_;refine U4 ?_;refine Tc.dropB (Tc.loopInv (σ:= { s:Nat×Gl 3 1//s.1≤(placesTo code 7).length-1∧s.2.l=intsL (gMoves (placesTo code 7) send lean n af s.1)∧∀i,i<s.1→k.inMove (gMove (placesTo code 7) send lean n af i)=true })
       (fun s=> ([(50,.int .i64 (s.1.1:Nat)),(49,.int .i64 (((placesTo code 7).length-1:Nat):Int)),(48,.slice (some ⟨eb,0+1*2,none⟩) ((placesTo code 7).length-1) (ec-1)),(13,.int .i64 (stillF ((placesTo code 7)[0]?.getD 0:Nat) 0 send lean+n)),(12,.pointer (some ⟨b12,0,none⟩)),(10,.pointer (some ⟨b10,0,none⟩)),(5,.pointer (some ⟨b5,0,none⟩)),(6,.pointer (some ⟨b6,0,none⟩)),(7,.pointer (some ⟨b7,0,none⟩)),(8,.pointer (some ⟨b8,0,none⟩)),(9,.pointer (some ⟨b9,0,none⟩))],(b12,true,.cells ⟨[.int .i64 send,.int .i64 0,.int .i64 lean,s.1.2.val]⟩ 74 (0,0))::s.1.2.bl)) (fun s=> (placesTo code 7).length-1-s.1.1) ?_
       ⟨(0,⟨some bs,1,1,[.int .i64 n],[],rfl,Nat.le_refl _,rfl,nofun⟩),by simp,rfl,nofun⟩) ⟨rfl,rfl,rfl,rfl,rfl,rfl,rfl,rfl,rfl,rfl,rfl,trivial⟩ (List.Sublist.refl _)
     rintro⟨⟨j,g⟩,g1,g2,g3⟩ ih;simp only at g1 g2 g3;show Tc _ _ _ _ _ _ [(50,.int .i64 (j:Nat)),(49,.int .i64 (((placesTo code 7).length-1:Nat):Int)),(48,.slice (some ⟨eb,0+1*2,none⟩) ((placesTo code 7).length-1) (ec-1)),(13,.int .i64 (stillF ((placesTo code 7)[0]?.getD 0:Nat) 0 send lean+n)),(12,.pointer (some ⟨b12,0,none⟩)),(10,.pointer (some ⟨b10,0,none⟩)),(5,.pointer (some ⟨b5,0,none⟩)),(6,.pointer (some ⟨b6,0,none⟩)),(7,.pointer (some ⟨b7,0,none⟩)),(8,.pointer (some ⟨b8,0,none⟩)),(9,.pointer (some ⟨b9,0,none⟩))] ((b12,true,.cells ⟨[.int .i64 send,.int .i64 0,.int .i64 lean,g.val]⟩ 74 (0,0))::g.bl) _ _;by_cases c1:j=(placesTo code 7).length-1
     · have hgn:g.n=(placesTo code 7).length:=by
         have h1:=g.hl;rw[g2,intsL_len,gMoves_len] at h1;omega
       obtain⟨_|vb,gn,gc,gll,gj,e1,e2,e3,e4⟩:=g
       · have:=e4 rfl;simp only at hgn;omega
       simp only at hgn g2;subst hgn;subst g2;have hmv:=gMoves_in (ps:=placesTo code 7) (send:=send) (lean:=lean) (n:=n) (af:=af) hkm hn' g3;rw[c1] at hmv g3;have hV2:∀i:Nat,i<(placesTo code 7).length→ldL false 1 (intsL (gMoves (placesTo code 7) send lean n af ((placesTo code 7).length-1))++gj) (0+i*1)=some (.int .i64 ((gMoves (placesTo code 7) send lean n af ((placesTo code 7).length-1))[i]?.getD 0)):=fun i hi=> by
         have hi':i<(gMoves (placesTo code 7) send lean n af ((placesTo code 7).length-1)).length:=by rw[gMoves_len];omega
         have:=intsL_ld hi';unfold ldL at this ⊢;simp only at this ⊢;rw[List.getElem?_append_left (by rw[intsL_len];omega)];exact this
       have hsl:=afterTo_len (seenTo (placesTo code 7) (gMoves (placesTo code 7) send lean n af ((placesTo code 7).length-1)) send lean (placesTo code 7).length) (placesTo code 7).length;rw[seenTo_len] at hsl;have hsb:∀z∈seenTo (placesTo code 7) (gMoves (placesTo code 7) send lean n af ((placesTo code 7).length-1)) send lean (placesTo code 7).length, -1000000000≤z∧z≤1000000000:=by
         intro z hz;unfold seenTo at hz;obtain⟨i,hi,rfl⟩:=List.mem_map.1 hz;split
         · rename_i hi2
           unfold seenAt;have h1:=hmv i;have h2:=hpl i hi2;have h3:=still_in (place:=((placesTo code 7)[i]?.getD 0:Nat)) (number:=(i:Nat)) (send:=send) (lean:=lean) (by omega) (by omega) hs0.1 hs0.2 (by omega) (by omega);omega
         · omega
       subst c1;have hall:((List.range ((placesTo code 7).length-1)).all fun i=> k.inMove (gMove (placesTo code 7) send lean n af i))=true:=by
         rw[List.all_eq_true];intro i hi;exact g3 i (List.mem_range.1 hi)
       by_cases hq:afterTo (seenTo (placesTo code 7) (gMoves (placesTo code 7) send lean n af ((placesTo code 7).length-1)) send lean (placesTo code 7).length) (placesTo code 7).length=af
       · have hg2:k.gives₂ (placesTo code 7) send lean n af=true:=by
           unfold Lk.gives₂;rw[hall,hq];simp
         have htot:k.gives (placesTo code 7) send af=true:=by
           rw[←hany,List.any_cons,←hany2];unfold Lk.gives₁;rw[List.any_cons,hg2];rfl
         refine U8 ?_;refine Tc.dr [] [] mixed rfl ?_;refine .nn 0 ?_;refine .nn 1 ?_;refine .z 2 rfl (OpV.takeCall rfl rfl rfl rfl (fun H hs=> .h (seen_c M H (code:Int) send 0 lean (placesTo code 7) (gMoves (placesTo code 7) send lean n af ((placesTo code 7).length-1)) eb 0 ec vb 0 gc fe true es _ et 3 ez (0,0) (hs.base _ _ hE1) hE2 (hs.get (i:=1) rfl) hV2 hp6 hpl hmv hs0.1 hs0.2 (by omega) (by omega) _ (Nat.le_refl _)))) ?_;refine .nn 3 ?_;refine .nn 4 ?_;refine .nn 5 ?_;refine .z 6 rfl (OpV.takeCall rfl rfl rfl rfl (fun H hs=> .h (after_c M H _ (placesTo code 7).length (seenTo_len ..) hp6 hsb))) ?_;refine .nn 7 ?_;refine .q 8 rfl (OpV.eqA (E:=en) true 2 rfl rfl rfl rfl rfl eg135 (by decide) (ints_flat _ hsl) (ints_flat af h6) ⟨fun _=> by rw[hq],fun _=> rfl⟩) ?_;refine .dn ?_;refine Tc.expand hx ?_;refine U3 ?_;refine .e (.st 7 (zz:=?_));refine U ?_;refine Tc.leaveRound hK2 (i:=2) rfl (.inr (.inl ⟨_,rfl,rfl⟩)) (fun H' hs'=> q2' H' _ _ _ (hs'.less (by apply List.Sublist.cons;apply List.Sublist.cons;exact List.Sublist.refl _)) ⟨rfl,hle2,htot,rfl⟩)
       · have hg2:k.gives₂ (placesTo code 7) send lean n af=false:=by
           unfold Lk.gives₂;rw[hall];simp[hq]
         have hany3:k.gives₁ (placesTo code 7) send lean af rest2=k.gives₁ (placesTo code 7) send lean af (upTo k.m0 k.m1):=by
           rw[←hany2];unfold Lk.gives₁;rw[List.any_cons,hg2];rfl
         refine U8 ?_;refine Tc.dr [] [] mixed rfl ?_;refine .nn 0 ?_;refine .nn 1 ?_;refine .z 2 rfl (OpV.takeCall rfl rfl rfl rfl (fun H hs=> .h (seen_c M H (code:Int) send 0 lean (placesTo code 7) (gMoves (placesTo code 7) send lean n af ((placesTo code 7).length-1)) eb 0 ec vb 0 gc fe true es _ et 3 ez (0,0) (hs.base _ _ hE1) hE2 (hs.get (i:=1) rfl) hV2 hp6 hpl hmv hs0.1 hs0.2 (by omega) (by omega) _ (Nat.le_refl _)))) ?_;refine .nn 3 ?_;refine .nn 4 ?_;refine .nn 5 ?_;refine .z 6 rfl (OpV.takeCall rfl rfl rfl rfl (fun H hs=> .h (after_c M H _ (placesTo code 7).length (seenTo_len ..) hp6 hsb))) ?_;refine .nn 7 ?_;refine .q 8 rfl (OpV.eqA (E:=en) false 2 rfl rfl rfl rfl rfl eg135 (by decide) (ints_flat _ hsl) (ints_flat af h6) ⟨(fun h=> nomatch h),fun h=> (hq (intsL_inj h)).elim⟩) ?_;refine .dn ?_;refine Tc.expand hx ?_;refine U3 ?_;refine Tc.leaveRound hK2 (i:=2) rfl (.inl ⟨rfl,rfl⟩) (fun H' hs'=> q2 H' _ _ (hs'.less (by apply List.Sublist.cons;apply List.Sublist.cons;exact List.Sublist.refl _)) ⟨rfl,hle2,hany3⟩)
     · have c2:j<(placesTo code 7).length-1:=by omega
       have hgn:g.n=j+1:=by
         have h1:=g.hl;rw[g2,intsL_len,gMoves_len] at h1;omega
       have f1:ldL true 2 es ((0+1*2)+(j:Int).toNat*2)=some (edgeV ((placesTo code 7)[j+1]?.getD 0) (j+1)):=by
         rw[show(0+1*2)+(j:Int).toNat*2=0+(j+1)*2 by simp;omega];exact hE2 (j+1) (by omega)
       have f2:ldL false 1 (intsL af) (0+((j:Int)+1).toNat*1)=some (.int .i64 (af[j+1]?.getD 0)):=by
         rw[show((j:Int)+1).toNat=j+1 by omega];exact intsL_ld (by omega)
       have hb1:=hpl (j+1) (by omega);have st1:=still_in (place:=((placesTo code 7)[j+1]?.getD 0:Nat)) (number:=((j+1:Nat):Int)) (send:=send) (lean:=lean) (by omega) (by omega) hs0.1 hs0.2 (by omega) (by omega);have hbf: -100000≤af[j+1]?.getD 0∧af[j+1]?.getD 0≤100000:=by
         have hlt:j+1<af.length:=by omega
         rw[List.getElem?_eq_getElem hlt];exact hb _ (List.getElem_mem hlt)
       cases hin:k.inMove (gMove (placesTo code 7) send lean n af j) with
       | true=>
         refine U14 ?_;refine .al fun b15=> ?_;refine U4 ?_;refine Tc.dr [] [] mixed rfl ?_;refine .nn 0 ?_;refine .nn 1 ?_;refine .nn 2 ?_;refine .nn 3 ?_;refine .nn 4 ?_;refine .nn 5 ?_;refine .nn 6 ?_;refine .nn 7 ?_;refine .nn 8 ?_;refine .z 9 rfl (OpV.takeCall rfl rfl rfl rfl (fun H hs=> .h (still_c M H ((placesTo code 7)[j+1]?.getD 0:Nat) ((j+1:Nat):Int) send lean (by omega) (by omega) (by omega) hs0.1 hs0.2 (by omega) (by omega)))) ?_;refine .nn 10 ?_;refine .nn 11 ?_;refine .dn ?_;refine U5 ?_;refine .c rfl rfl rfl rfl (fun H hs=> .h (CallT.mono (has_c M H k.m0 k.m1 (gMove (placesTo code 7) send lean n af j)) (Q':=fun v H'=> H.le H'∧v=.bool true) (by rintro v H' ⟨h1,h2⟩;unfold Lk.inMove at hin;rw[hin] at h2;exact⟨h1,h2⟩))) ?_;refine U8 ?_;refine .e (.bs (zz:=fun bs2=> ?_));refine .e (Or.append (E:=en) 3 rfl rfl rfl rfl rfl rfl rfl rfl rfl rfl rfl rfl rfl rfl rfl (fun H hs=> SrcAt.of (hs.get (i:=0) rfl) (Nat.le_of_ble_eq_true rfl)) rfl (by omega) rfl (by decide) (fun g' hn2 hl2=> ?_));refine U8 ?_;exact Tc.db (ih ⟨(j+1,g'),by simp only;omega,by simp only;rw[hl2,g2,gMoves_succ];unfold intsL;rw[List.map_append];rfl,by simp only;intro i hi;rcases Nat.lt_succ_iff_lt_or_eq.1 hi with h|rfl;exact g3 i h;exact hin⟩ (by simp only;omega))
       | false=>
         have hg2:k.gives₂ (placesTo code 7) send lean n af=false:=by
           unfold Lk.gives₂;rw[Bool.and_eq_false_iff];refine .inl ?_;rw[List.all_eq_false];exact⟨j,List.mem_range.2 c2,by rw[hin];simp⟩
         have hany3:k.gives₁ (placesTo code 7) send lean af rest2=k.gives₁ (placesTo code 7) send lean af (upTo k.m0 k.m1):=by
           rw[←hany2];unfold Lk.gives₁;rw[List.any_cons,hg2];rfl
         refine U14 ?_;refine .al fun b15=> ?_;refine U4 ?_;refine Tc.dr [] [] mixed rfl ?_;refine .nn 0 ?_;refine .nn 1 ?_;refine .nn 2 ?_;refine .nn 3 ?_;refine .nn 4 ?_;refine .nn 5 ?_;refine .nn 6 ?_;refine .nn 7 ?_;refine .nn 8 ?_;refine .z 9 rfl (OpV.takeCall rfl rfl rfl rfl (fun H hs=> .h (still_c M H ((placesTo code 7)[j+1]?.getD 0:Nat) ((j+1:Nat):Int) send lean (by omega) (by omega) (by omega) hs0.1 hs0.2 (by omega) (by omega)))) ?_;refine .nn 10 ?_;refine .nn 11 ?_;refine .dn ?_;refine U5 ?_;refine .c rfl rfl rfl rfl (fun H hs=> .h (CallT.mono (has_c M H k.m0 k.m1 (gMove (placesTo code 7) send lean n af j)) (Q':=fun v H'=> H.le H'∧v=.bool false) (by rintro v H' ⟨h1,h2⟩;unfold Lk.inMove at hin;rw[hin] at h2;exact⟨h1,h2⟩))) ?_;refine U2 ?_;refine Tc.dropB (R':= [(69,.bool true)]) (L':= []) ?_ ⟨rfl,trivial⟩ (List.nil_sublist _);refine Tc.expand hx ?_;refine U2 ?_;refine Tc.leaveRound hK2 (i:=0) rfl (.inl ⟨rfl,rfl⟩) (fun H' hs'=> q2 H' _ _ (hs'.less (by exact List.Sublist.refl _)) ⟨rfl,hle2,hany3⟩)
   · rintro H₂ _ ⟨rfl,hle2,hany2⟩;have hno:k.gives₁ (placesTo code 7) send lean af (upTo k.m0 k.m1)=false:=hany2.symm;have hany3:(rest.any fun lean=> k.gives₁ (placesTo code 7) send lean af (upTo k.m0 k.m1))=k.gives (placesTo code 7) send af:=by
       rw[←hany,List.any_cons,hno];rfl
     refine U ?_;refine Tc.inScope ?_;refine U ?_;refine Tc.leaveRound hK1 (i:=1) rfl (.inl ⟨rfl,rfl⟩) (fun H' hs'=> q1 H' _ _ (hs'.less (by apply List.Sublist.cons;exact List.Sublist.refl _)) ⟨rfl,hle2,hany3⟩)
   · rintro j H₂ _ ⟨rfl,hle2,htot,rfl⟩;refine Tc.leaveRound hK1 (i:=1) rfl (.inr (.inl ⟨_,rfl,rfl⟩)) (fun H' hs'=> q1' H' _ _ _ (hs'.less (by apply List.Sublist.cons;exact List.Sublist.refl _)) ⟨rfl,hle2,htot,rfl⟩)
 · rintro r H₁ _ ⟨rfl,hle1,hany⟩;have hno:k.gives (placesTo code 7) send af=false:=hany.symm;unfold gL;refine U5 ?_;refine Tc.retD (E:=en) (i:=0) hK func155 results155 (vs:= [_]) rfl (by refine⟨⟨2,_,_,_,_,_,_,_,rfl,rfl,rfl,rfl⟩,?_⟩;exact trivial) ?_;exact fun H' hs=> ⟨View.le_trans hle1 hs.base,by rw[hno];rfl⟩
 · rintro r j H₁ _ ⟨rfl,hle1,htot,rfl⟩;unfold gL;refine Tc.retD (E:=en) (i:=0) hK func155 results155 (vs:= [_]) rfl (by refine⟨⟨2,_,_,_,_,_,_,_,rfl,rfl,rfl,rfl⟩,?_⟩;exact trivial) ?_;exact fun H' hs=> ⟨View.le_trans hle1 hs.base,by rw[htot];rfl⟩
end
def Nums(H:View)(A:Option Addr)(l:List Int):Prop:=
 l= []∨∃ab ao f gs gt gz,A=some ⟨ab,ao,none⟩∧H ab=some (f,.cells ⟨gs⟩ gt gz)∧∀j:Nat,j<l.length→ldL false 1 gs (ao+(j:Int).toNat*1)=some (.int .i64 (l[j]?.getD 0))
theorem Nums.le {H H':View}{A:Option Addr}{l:List Int}(h:Nums H A l)(k:H.le H'):Nums H' A l:=by
 rcases h with h|⟨ab,ao,f,gs,gt,gz,h1,h2,h3⟩
 · exact .inl h
 · exact .inr ⟨ab,ao,f,gs,gt,gz,h1,k _ _ h2,h3⟩
theorem Nums.of {H:View}{g:Gl 3 1}{l:List Int}(hl:g.l=intsL l)(h:∀y∈g.bl,H y.1=some y.2):g.n=l.length∧Nums H (g.blk.map fun b=> ⟨b,0,none⟩) l:=by
 have hn:g.n=l.length:=by
   have:=g.hl;rw[hl,intsL_len] at this;omega
 refine⟨hn,?_⟩;obtain⟨_|b,n,cap,gl,gj,h1,h2,h3,h4⟩:=g
 · have:=h4 rfl;simp only at hn h2;refine .inl (List.eq_nil_of_length_eq_zero (by omega))
 · refine .inr ⟨b,0,true,gl++gj,3,(0,0),rfl,h (b,true,.cells ⟨gl++gj⟩ 3 (0,0)) (by simp[Gl.bl]),fun j hj=> ?_⟩;simp only at hl;subst hl;show(intsL l++gj)[0+(j:Int).toNat*1]? =_;rw[Nat.zero_add,Nat.mul_one,Int.toNat_natCast,List.getElem?_append_left (by rw[intsL_len];exact hj)];unfold intsL;rw[List.getElem?_map,List.getElem?_eq_getElem hj];rfl
def keepI(p:Nat→Bool)(k:Nat):List Int:=((List.range k).filter p).map fun i:Nat=> (i:Int)
section
variable(M:Md prog)(H:View)
theorem Inside_c(a b low high:Int):CallT M 168 #[bandV a b,.int .i64 low,.int .i64 high] H (fun v H'=> H.le H'∧v=.bool (decide (a≤b∧low≤a∧b≤high))):=by
 refine .en func168 ntmps168 fun St c cs hK=> ?_;by_cases c1:a≤b
 all_goals by_cases c2:low≤a
 all_goals by_cases c3:b≤high
 all_goals (
   refine U2 ?_;refine .bo fun b3=> ?_;refine U8 ?_;refine .i ?_ (z:=by first|exact leq_t (by omega)|exact leq_f (by omega));refine U ?_;first|(refine .sk ?_)|(refine .x .fa ?_)
   first|(refine .sk ?_)|((refine .x (.ld 0) ?_))
   first|(refine .sk ?_)|(refine .m ?_)
   first|(refine .sk ?_)|(refine .x (.it (zz:=(by first|exact geq_t (by omega)|exact geq_f (by omega)))) ?_)
   refine U2 ?_;first|(refine .sk ?_)|(refine .x .fa ?_)
   first|(refine .sk ?_)|((refine .x (.ld 0) ?_))
   first|(refine .sk ?_)|(refine .m ?_)
   first|(refine .sk ?_)|(refine .x (.it (zz:=(by first|exact leq_t (by omega)|exact leq_f (by omega)))) ?_)
   refine U3 ?_;refine .rt hK func168 results168 [_] ?_;exact fun H' hs=> ⟨hs.base,by simp[c1,c2,c3];rfl⟩)
theorem refPaces_c(a b:Int):CallT M 149 #[bandV a b] H (fun v H'=> H.le H'∧v=.bool (paceOk a b)):=by
 refine .en func149 ntmps149 fun St c cs hK=> ?_;by_cases c1:a≤b∧1≤a∧b≤40
 · by_cases c2:b-a<3
   · have e:paceOk a b=true:=decide_eq_true (by omega);refine U2 ?_;refine .bo fun b1=> ?_;refine U5 ?_;refine .c rfl rfl rfl rfl (fun H hs=> .h (CallT.is (.bool true) (by rewrite [decide_eq_true c1];rfl) (Inside_c M H a b 1 40))) ?_;refine U10 ?_;refine .rt hK func149 results149 [_] ?_;exact fun H' hs=> ⟨hs.base,by rw[e];rfl⟩
   · have e:paceOk a b=false:=decide_eq_false (by omega);refine U2 ?_;refine .bo fun b1=> ?_;refine U5 ?_;refine .c rfl rfl rfl rfl (fun H hs=> .h (CallT.is (.bool true) (by rewrite [decide_eq_true c1];rfl) (Inside_c M H a b 1 40))) ?_;refine U10 ?_;refine .rt hK func149 results149 [_] ?_;exact fun H' hs=> ⟨hs.base,by rw[e];rfl⟩
 · have e:paceOk a b=false:=decide_eq_false (by omega);refine U2 ?_;refine .bo fun b1=> ?_;refine U5 ?_;refine .c rfl rfl rfl rfl (fun H hs=> .h (CallT.is (.bool false) (by rewrite [decide_eq_false c1];rfl) (Inside_c M H a b 1 40))) ?_;refine U10 ?_;refine .rt hK func149 results149 [_] ?_;exact fun H' hs=> ⟨hs.base,by rw[e];rfl⟩
theorem refLine_c(a b x y:Int):CallT M 150 #[.agg ⟨[.int .i64 a,.int .i64 b,.int .i64 x,.int .i64 y]⟩] H (fun v H'=> H.le H'∧v=.int .i64 (if leanOk a b&&moveOk x y then 0 else 1)):=by
 refine .en func150 ntmps150 fun St c cs hK=> ?_;by_cases c1:a≤b∧ -9≤a∧b≤9
 · by_cases c2:b-a≥3
   · have e:(leanOk a b&&moveOk x y)=false:=by unfold leanOk;rw[decide_eq_false (by omega)];rfl
     refine U2 ?_;refine .bo fun b1=> ?_;refine U7 ?_;refine .c rfl rfl rfl rfl (fun H hs=> .h (CallT.is (.bool true) (by rewrite [decide_eq_true c1];rfl) (Inside_c M H a b (-9) 9))) ?_;refine U23 ?_;refine .rt hK func150 results150 [_] ?_;exact fun H' hs=> ⟨hs.base,by rw[e];rfl⟩
   · by_cases c3:x≤y∧ -12≤x∧y≤12
     · have e:(leanOk a b&&moveOk x y)=true:=by unfold leanOk moveOk;rw[decide_eq_true (by omega),decide_eq_true (by omega)];rfl
       refine U2 ?_;refine .bo fun b1=> ?_;refine U7 ?_;refine .c rfl rfl rfl rfl (fun H hs=> .h (CallT.is (.bool true) (by rewrite [decide_eq_true c1];rfl) (Inside_c M H a b (-9) 9))) ?_;refine U14 ?_;refine .c rfl rfl rfl rfl (fun H hs=> .h (CallT.is (.bool true) (by rewrite [decide_eq_true c3];rfl) (Inside_c M H x y (-12) 12))) ?_;refine U9 ?_;refine .rt hK func150 results150 [_] ?_;exact fun H' hs=> ⟨hs.base,by rw[e];rfl⟩
     · have e:(leanOk a b&&moveOk x y)=false:=by unfold moveOk;rw[decide_eq_false (p:= -12≤x∧x≤y∧y≤12∧y-x<25) (by omega)];simp
       refine U2 ?_;refine .bo fun b1=> ?_;refine U7 ?_;refine .c rfl rfl rfl rfl (fun H hs=> .h (CallT.is (.bool true) (by rewrite [decide_eq_true c1];rfl) (Inside_c M H a b (-9) 9))) ?_;refine U14 ?_;refine .c rfl rfl rfl rfl (fun H hs=> .h (CallT.is (.bool false) (by rewrite [decide_eq_false c3];rfl) (Inside_c M H x y (-12) 12))) ?_;refine U8 ?_;refine .rt hK func150 results150 [_] ?_;exact fun H' hs=> ⟨hs.base,by rw[e];rfl⟩
 · have e:(leanOk a b&&moveOk x y)=false:=by unfold leanOk;rw[decide_eq_false (by omega)];rfl
   refine U2 ?_;refine .bo fun b1=> ?_;refine U7 ?_;refine .c rfl rfl rfl rfl (fun H hs=> .h (CallT.is (.bool false) (by rewrite [decide_eq_false c1];rfl) (Inside_c M H a b (-9) 9))) ?_;refine U23 ?_;refine .rt hK func150 results150 [_] ?_;exact fun H' hs=> ⟨hs.base,by rw[e];rfl⟩
theorem Lk.ok_eq(k:Lk):k.ok=(k.sends&&k.reads&&(k.leans&&k.moves)):=by
 simp[Lk.ok,allTo,Lk.chk,Bool.and_assoc]
theorem refLink_c(k:Lk):CallT M 62 #[k.val] H (fun v H'=> H.le H'∧v=.int .i64 (if k.ok then 0 else 1)):=by
 refine .en func62 ntmps62 fun St c cs hK=> ?_;cases h1:k.sends with
 | false=>
   have e:k.ok=false:=by rw[Lk.ok_eq,h1];rfl
   refine U2 ?_;refine .bo fun b1=> ?_;refine U7 ?_;refine .c rfl rfl rfl rfl (fun H hs=> .h (CallT.mono (refPaces_c M H k.s0 k.s1) (Q':=fun v H'=> H.le H'∧v=.bool false) (by rintro v H' ⟨h2,h3⟩;exact⟨h2,h3.trans (congrArg Value.bool h1)⟩))) ?_;refine U13 ?_;refine .rt hK func62 results62 [_] ?_;exact fun H' hs=> ⟨hs.base,by rw[e];rfl⟩
 | true=>
   cases h2:k.reads with
   | false=>
     have e:k.ok=false:=by rw[Lk.ok_eq,h1,h2];rfl
     refine U2 ?_;refine .bo fun b1=> ?_;refine U7 ?_;refine .c rfl rfl rfl rfl (fun H hs=> .h (CallT.mono (refPaces_c M H k.s0 k.s1) (Q':=fun v H'=> H.le H'∧v=.bool true) (by rintro v H' ⟨h2,h3⟩;exact⟨h2,h3.trans (congrArg Value.bool h1)⟩))) ?_;refine U4 ?_;refine .c rfl rfl rfl rfl (fun H hs=> .h (CallT.mono (refPaces_c M H k.r0 k.r1) (Q':=fun v H'=> H.le H'∧v=.bool false) (by rintro v H' ⟨h4,h3⟩;exact⟨h4,h3.trans (congrArg Value.bool h2)⟩))) ?_;refine U8 ?_;refine .rt hK func62 results62 [_] ?_;exact fun H' hs=> ⟨hs.base,by rw[e];rfl⟩
   | true=>
     have e:k.ok=(leanOk k.l0 k.l1&&moveOk k.m0 k.m1):=by rw[Lk.ok_eq,h1,h2];rfl
     refine U2 ?_;refine .bo fun b1=> ?_;refine U7 ?_;refine .c rfl rfl rfl rfl (fun H hs=> .h (CallT.mono (refPaces_c M H k.s0 k.s1) (Q':=fun v H'=> H.le H'∧v=.bool true) (by rintro v H' ⟨h2,h3⟩;exact⟨h2,h3.trans (congrArg Value.bool h1)⟩))) ?_;refine U4 ?_;refine .c rfl rfl rfl rfl (fun H hs=> .h (CallT.mono (refPaces_c M H k.r0 k.r1) (Q':=fun v H'=> H.le H'∧v=.bool true) (by rintro v H' ⟨h4,h3⟩;exact⟨h4,h3.trans (congrArg Value.bool h2)⟩))) ?_;refine U9 ?_;refine .c rfl rfl rfl rfl (fun H hs=> .h (refLine_c M H k.l0 k.l1 k.m0 k.m1)) ?_;refine U2 ?_;refine .rt hK func62 results62 [_] ?_;exact fun H' hs=> ⟨hs.base,by rw[e];rfl⟩
theorem Fit_c(k:Lk):CallT M 17 #[k.val] H (fun v H'=> H.le H'∧v=.bool k.ok):=by
 refine .en func17 ntmps17 fun St c cs hK=> ?_;cases h:k.ok with
 | true=>
   refine U2 ?_;refine .bo fun b1=> ?_;refine U5 ?_;refine .c rfl rfl rfl rfl (fun H hs=> .h (CallT.is (.int .i64 0) (by rewrite [h];rfl) (refLink_c M H k))) ?_;refine U3 ?_;refine .rt hK func17 results17 [_] ?_;exact fun H' hs=> ⟨hs.base,by rw[h];rfl⟩
 | false=>
   refine U2 ?_;refine .bo fun b1=> ?_;refine U5 ?_;refine .c rfl rfl rfl rfl (fun H hs=> .h (CallT.is (.int .i64 1) (by rewrite [h];rfl) (refLink_c M H k))) ?_;refine U3 ?_;refine .rt hK func17 results17 [_] ?_;exact fun H' hs=> ⟨hs.base,by rw[h];rfl⟩
end
def pad6(l:List Int):List Int:=l++List.replicate (6-l.length) 0
theorem pad6_len {l:List Int}(h:l.length≤6):(pad6 l).length=6:=by simp[pad6];omega
def tuneTo(p:Int→Bool):List Int→Option (Int×Int)→Option (Int×Int)
 | [],o=> o
 | n::l,o=> tuneTo p l (if p n then some (match o with|some (a,_)=> (a,n)|none=> (n,n)) else o)
def Lk.tune(k:Lk)(ps:List Nat)(t:List Int):Option (Int×Int):=tuneTo (fun n=> k.gives ps n (afterTo t ps.length)) (upTo k.s0 k.s1) none
def bandO(o:Option (Int×Int)):Value:=match o with|some (a,b)=> bandV a b|none=> bandV 0 0
def bandCells(o:Option (Int×Int)):List Value:=match o with|some (a,b)=> [.int .i64 a,.int .i64 b] | none=> [.int .i64 0,.int .i64 0]
section
variable(M:Md prog)(H:View)
def tL(code eb ec:Nat)(k:Lk)(t:List Int)(o:Option (Int×Int))(b3 b4 b5 b6 b7 b8 n:Nat):Bl:=
 [(b8,true,.cells ⟨intsL (afterTo t n)⟩ 139 (0,0)),(b7,true,.cells ⟨[.bool o.isSome]⟩ 4 (0,0)),(b6,true,.cells ⟨bandCells o⟩ 37 (0,0)),(b5,true,.cells ⟨intsL t⟩ 139 (0,0)),
   (b4,true,.cells ⟨[.int .i64 code,.slice (some ⟨eb,0,none⟩) n ec]⟩ 135 (0,0)),(b3,true,.cells ⟨k.val.cells.toList⟩ 132 (0,0))]
theorem tune_c(k:Lk)(hk:k.Fine)(code eb ec:Nat)(t:List Int)(hc:code<32)(hE:Edg H (placesTo code 7) eb)(hec:(placesTo code 7).length≤ec)(h2:2≤(placesTo code 7).length)(h6:t.length=6)(hb:∀x∈t, -10000≤x∧x≤10000):
   CallT M 65 #[k.val,.agg ⟨[.int .i64 code,.slice (some ⟨eb,0,none⟩) (placesTo code 7).length ec]⟩,timesV t] H (fun v H'=> H.le H'∧v=.tuple ⟨[bandO (k.tune (placesTo code 7) t),.bool (k.tune (placesTo code 7) t).isSome]⟩):=by
 obtain⟨hp0,hp6,hpl⟩:=places_in code hc;have hbd:=hk.bounds;simp only[List.mem_cons,List.not_mem_nil,or_false,forall_eq_or_imp,forall_eq] at hbd;obtain⟨k1,k2,k3,k4,k5,k6,k7,k8⟩:=hbd;have hks:=hk.s;have hal:(afterTo t (placesTo code 7).length).length=6:=by rw[afterTo_len,h6]
 have hab:∀x∈afterTo t (placesTo code 7).length, -100000≤x∧x≤100000:=by
   intro x hx;unfold afterTo at hx;obtain⟨y,hy,rfl⟩:=List.mem_map.1 hx;have h3:=hb y.1 (by
     have:=List.mem_zipIdx_iff_getElem?.1 hy;exact List.mem_of_getElem? this)
   have h4: -10000≤t.headD 0∧t.headD 0≤10000:=by
     cases t with
     | nil=> cases h6
     | cons a l=> exact hb a List.mem_cons_self
   split <;> omega
 have fT:ldL true 6 (intsL t) 0=some (.agg ⟨intsL t⟩):=by
   unfold ldL;have e1:Nat.ble (0+6) (intsL t).length=true:=by rw[intsL_len,h6];rfl
   simp only[e1];rw[List.drop_zero,List.take_of_length_le (by rw[intsL_len,h6];exact Nat.le_refl _)]
 have fA:ldL true 6 (intsL (afterTo t (placesTo code 7).length)) 0=some (.agg ⟨intsL (afterTo t (placesTo code 7).length)⟩):=by
   unfold ldL;have e1:Nat.ble (0+6) (intsL (afterTo t (placesTo code 7).length)).length=true:=by rw[intsL_len,hal];rfl
   simp only[e1];rw[List.drop_zero,List.take_of_length_le (by rw[intsL_len,hal];exact Nat.le_refl _)]
 have lA:Nat.beq (intsL (afterTo t (placesTo code 7).length)).length 6=true:=by rw[intsL_len,hal];rfl
 have lB:(intsL (afterTo t (placesTo code 7).length)).all single=true:=by
   rw[List.all_eq_true];intro y hy;obtain⟨z,_,rfl⟩:=List.mem_map.1 hy;rfl
 have lC:stL [Value.int .i64 0,.int .i64 0,.int .i64 0,.int .i64 0,.int .i64 0,.int .i64 0] 0 (intsL (afterTo t (placesTo code 7).length))=intsL (afterTo t (placesTo code 7).length):=by
   unfold stL;rw[List.take_zero,List.nil_append,List.drop_eq_nil_of_le (by rw[intsL_len,hal];simp),List.append_nil]
 refine .en func65 ntmps65 fun St c cs hK=> ?_;refine U2 ?_;refine .bo fun b3=> ?_;refine .bo fun b4=> ?_;refine .bo fun b5=> ?_;refine .al fun b6=> ?_;refine .al fun b7=> ?_;refine U7 ?_;refine .c rfl rfl rfl rfl (fun H hs=> .h (after_c M H t (placesTo code 7).length h6 hp6 (fun x hx=> by have:=hb x hx;omega))) ?_;refine .al fun b8=> ?_;refine .e (Or.storeT (E:=en) 0 rfl rfl rfl rfl rfl lA rfl (by exact rfl) lB rfl lC ?_);refine U7 ?_;refine .c rfl rfl rfl rfl (fun H hs=> .h (bandOf_c M H k.s0 k.s1)) ?_;refine U3 ?_;have itS:=fun H (_:(fun _:View=> True) H)=> all_it M H k.s0 k.s1 (by omega) (by omega);refine Tc.db (R':= [(19,.func (.func 154) #[bandV k.s0 k.s1] #[]),(3,.pointer (some ⟨b3,0,none⟩)),(4,.pointer (some ⟨b4,0,none⟩)),(6,.pointer (some ⟨b6,0,none⟩)),(7,.pointer (some ⟨b7,0,none⟩)),(8,.pointer (some ⟨b8,0,none⟩))]) (L':=tL code eb ec k t none b3 b4 b5 b6 b7 b8 (placesTo code 7).length) ?_;refine Tc.rangeL (A:= []) (xs:=upTo k.s0 k.s1) (ts:= [20]) (fun rest H₁ L₁=> ∃o,L₁=tL code eb ec k t o b3 b4 b5 b6 b7 b8 (placesTo code 7).length∧H.le H₁∧tuneTo (fun n=> k.gives (placesTo code 7) n (afterTo t (placesTo code 7).length)) rest o=k.tune (placesTo code 7) t)
   (fun _ _ _=> False) rfl rfl rfl rfl itS (fun _ _ _ h=> h) (fun _ _ _ _=> trivial) rfl (fun _ _=> rfl) ⟨none,rfl,View.le_refl _,rfl⟩ ?_ ?_ ?_
 · rintro r n rest e l tmps asg bdy H₁ _ hn ⟨o,rfl,hle1,hto⟩ Q1 St1 cc1 cs1 hK1 q1 q1';have hn':=mem_upTo.1 hn;unfold tL;refine U3 ?_;refine Tc.beginRound (i:=0) rfl rfl rfl ?_;refine U3 ?_;cases hg:k.gives (placesTo code 7) n (afterTo t (placesTo code 7).length) with
   | false=>
     have hto2:tuneTo (fun n=> k.gives (placesTo code 7) n (afterTo t (placesTo code 7).length)) rest o=k.tune (placesTo code 7) t:=by
       rw[←hto];unfold tuneTo;simp only[hg];cases rest <;> rfl
     refine U ?_;refine .x (.ld 7) ?_;refine U3 ?_;refine .c rfl rfl rfl rfl (fun H hs=> .h (CallT.is (.bool false) (by rewrite [hg];rfl) (gives_c M H k hk code eb ec n (afterTo t (placesTo code 7).length) hc ((hE.le hle1).le hs.base) hec h2 hal hab (by omega)))) ?_;refine U4 ?_;refine Tc.leaveRound hK1 (i:=0) rfl (.inl ⟨rfl,rfl⟩) (fun H' hs'=> q1 H' _ _ (hs'.less (by exact List.Sublist.refl _)) ⟨o,rfl,hle1,hto2⟩)
   | true=>
     refine U ?_;refine .x (.ld 7) ?_;refine U3 ?_;refine .c rfl rfl rfl rfl (fun H hs=> .h (CallT.is (.bool true) (by rewrite [hg];rfl) (gives_c M H k hk code eb ec n (afterTo t (placesTo code 7).length) hc ((hE.le hle1).le hs.base) hec h2 hal hab (by omega)))) ?_;refine U2 ?_;cases o with
     | none=>
       have hto2:tuneTo (fun n=> k.gives (placesTo code 7) n (afterTo t (placesTo code 7).length)) rest (some (n,n))=k.tune (placesTo code 7) t:=by
         rw[←hto];show _=tuneTo _ rest _;simp only[hg];rfl
       refine U21 ?_;refine Tc.leaveRound hK1 (i:=0) rfl (.inl ⟨rfl,rfl⟩) (fun H' hs'=> q1 H' _ _ (hs'.less (by exact List.Sublist.refl _)) ⟨some (n,n),rfl,hle1,hto2⟩)
     | some ab=>
       obtain⟨a,b⟩:=ab;have hto2:tuneTo (fun n=> k.gives (placesTo code 7) n (afterTo t (placesTo code 7).length)) rest (some (a,n))=k.tune (placesTo code 7) t:=by
         rw[←hto];show _=tuneTo _ rest _;simp only[hg];rfl
       refine U17 ?_;refine Tc.leaveRound hK1 (i:=0) rfl (.inl ⟨rfl,rfl⟩) (fun H' hs'=> q1 H' _ _ (hs'.less (by exact List.Sublist.refl _)) ⟨some (a,n),rfl,hle1,hto2⟩)
 · rintro r H₁ _ ⟨o,rfl,hle1,hto⟩;have hto2:o=k.tune (placesTo code 7) t:=hto;unfold tL;refine U2 ?_;cases o with
   | none=>
     refine Tc.dr [2,3] [3] mixed rfl ?_;refine .nn 0 ?_;refine .nw 1 ?_;refine .e 2 3 ?_;refine .e 3 2 ?_;refine .dn ?_;refine Tc.retD (E:=en) (i:=0) hK func65 results65 (vs:= [_,_]) rfl (by refine⟨⟨3,_,_,_,_,_,_,_,rfl,rfl,rfl,rfl⟩,?_⟩;refine⟨⟨2,_,_,_,_,_,_,_,rfl,rfl,rfl,rfl⟩,?_⟩;exact trivial) ?_;exact fun H' hs=> ⟨View.le_trans hle1 hs.base,by rw[←hto2];rfl⟩
   | some ab=>
     obtain⟨a,b⟩:=ab;refine Tc.dr [2,3] [3] mixed rfl ?_;refine .nn 0 ?_;refine .nw 1 ?_;refine .e 2 3 ?_;refine .e 3 2 ?_;refine .dn ?_;refine Tc.retD (E:=en) (i:=0) hK func65 results65 (vs:= [_,_]) rfl (by refine⟨⟨3,_,_,_,_,_,_,_,rfl,rfl,rfl,rfl⟩,?_⟩;refine⟨⟨2,_,_,_,_,_,_,_,rfl,rfl,rfl,rfl⟩,?_⟩;exact trivial) ?_;exact fun H' hs=> ⟨View.le_trans hle1 hs.base,by rw[←hto2];rfl⟩
 · rintro r j H₁ _ h;exact h.elim
end
structure Told(l:List Int):Prop where
 len:l.length≤6
 pos:l≠ []
 max:∀x∈l, -999≤x∧x≤999
structure TimesAt(H:View)(A:Option Addr)(l:List Int):Prop where
 ex:∃ab ao f gs gt gz,A=some ⟨ab,ao,none⟩∧H ab=some (f,.cells ⟨gs⟩ gt gz)∧ao+l.length*1≤gs.length∧(gs.drop ao).take (l.length*1)=intsL l
theorem TimesAt.le {H H':View}{A:Option Addr}{l:List Int}(h:TimesAt H A l)(k:H.le H'):TimesAt H' A l:=by
 obtain⟨ab,ao,f,gs,gt,gz,h1,h2,h3,h4⟩:=h.ex;exact⟨ab,ao,f,gs,gt,gz,h1,k _ _ h2,h3,h4⟩
theorem times_ld {gs:List Value}{ao:Nat}{l:List Int}(h:(gs.drop ao).take (l.length*1)=intsL l){j:Nat}(hj:j<l.length):ldL false 1 gs (ao+(j:Int).toNat*1)=some (.int .i64 (l[j]?.getD 0)):=by
 show gs[ao+(j:Int).toNat*1]? =_;rw[Nat.mul_one,Int.toNat_natCast];have h1:((gs.drop ao).take (l.length*1))[j]? =(intsL l)[j]? :=by rw[h]
 rw[List.getElem?_take_of_lt (by omega),List.getElem?_drop] at h1;rw[h1];unfold intsL;rw[List.getElem?_map,List.getElem?_eq_getElem hj];rfl
section
variable(M:Md prog)(H:View)
theorem told_c(l:List Int)(hl:Told l)(A:Option Addr)(cap:Nat)(hT:TimesAt H A l):CallT M 64 #[.slice A l.length cap] H (fun v H'=> H.le H'∧v=.tuple ⟨[timesV (pad6 l),.int .i64 0]⟩):=by
 obtain⟨ab,ao,f,gs,gt,gz,rfl,hA1,hA2,hA3⟩:=hT.ex;obtain⟨hl6,hne,hmax⟩:=hl;have hn0:intsL l≠ []:=by
   cases l with
   | nil=> exact(hne rfl).elim
   | cons a l=> intro e;cases e
 have hsg:(intsL l).all single=true:=by
   rw[List.all_eq_true];intro y hy;obtain⟨z,_,rfl⟩:=List.mem_map.1 hy;rfl
 have hst:stL [Value.int .i64 0,.int .i64 0,.int .i64 0,.int .i64 0,.int .i64 0,.int .i64 0] 0 (intsL l)=intsL (pad6 l):=by
   unfold stL pad6;rw[List.take_zero,List.nil_append,Nat.zero_add,intsL_len];have e1:intsL (l++List.replicate (6-l.length) 0)=intsL l++intsL (List.replicate (6-l.length) 0):=by unfold intsL;rw[List.map_append]
   rw[e1]
   congr 1
   have:l.length=0∨l.length=1∨l.length=2∨l.length=3∨l.length=4∨l.length=5∨l.length=6:=by omega
   rcases this with h|h|h|h|h|h|h <;> rw[h] <;> rfl
 have hp6:=pad6_len hl6;have fP:ldL true 6 (intsL (pad6 l)) 0=some (.agg ⟨intsL (pad6 l)⟩):=by
   unfold ldL;have e1:Nat.ble (0+6) (intsL (pad6 l)).length=true:=by rw[intsL_len,hp6];rfl
   simp only[e1];rw[List.drop_zero,List.take_of_length_le (by rw[intsL_len,hp6];exact Nat.le_refl _)]
 have lA:Nat.beq (intsL (pad6 l)).length 6=true:=by rw[intsL_len,hp6];rfl
 have lB:(intsL (pad6 l)).all single=true:=by
   rw[List.all_eq_true];intro y hy;obtain⟨z,_,rfl⟩:=List.mem_map.1 hy;rfl
 have lC:stL [Value.int .i64 0,.int .i64 0,.int .i64 0,.int .i64 0,.int .i64 0,.int .i64 0] 0 (intsL (pad6 l))=intsL (pad6 l):=by
   unfold stL;rw[List.take_zero,List.nil_append,List.drop_eq_nil_of_le (by rw[intsL_len,hp6];simp),List.append_nil]
 refine .en func64 ntmps64 fun St c cs hK=> ?_;refine U2 ?_;refine .al fun b2=> ?_;refine U4 ?_;refine .al fun b4=> ?_;refine U9 ?_;refine Tc.db (Tc.loopInv (σ:= { j:Nat//j≤l.length }) (fun j=> ([(0,.slice (some ⟨ab,ao,none⟩) l.length cap),(2,.pointer (some ⟨b2,0,none⟩)),(4,.pointer (some ⟨b4,0,none⟩)),(7,.slice (some ⟨ab,ao,none⟩) l.length cap),(8,.int .i64 (l.length:Nat)),(9,.int .i64 (j.1:Nat))],
   [(b4,true,.cells ⟨[.int .i64 0,.int .i64 0,.int .i64 0,.int .i64 0,.int .i64 0,.int .i64 0]⟩ 139 (0,0)),(b2,true,.cells ⟨[.int .i64 0,.int .i64 0,.int .i64 0,.int .i64 0,.int .i64 0,.int .i64 0]⟩ 139 (0,0))])) (fun j=> l.length-j.1) ?_ ⟨0,by omega⟩)
 rintro⟨j,hj⟩ ih;show Tc M St _ _ _ _ [(0,.slice (some ⟨ab,ao,none⟩) l.length cap),(2,.pointer (some ⟨b2,0,none⟩)),(4,.pointer (some ⟨b4,0,none⟩)),(7,.slice (some ⟨ab,ao,none⟩) l.length cap),(8,.int .i64 (l.length:Nat)),(9,.int .i64 (j:Nat))]
   [(b4,true,.cells ⟨[.int .i64 0,.int .i64 0,.int .i64 0,.int .i64 0,.int .i64 0,.int .i64 0]⟩ 139 (0,0)),(b2,true,.cells ⟨[.int .i64 0,.int .i64 0,.int .i64 0,.int .i64 0,.int .i64 0,.int .i64 0]⟩ 139 (0,0))] _ _
 by_cases c1:j=l.length
 · refine U9 ?_;refine .x (OpV.sliceA (E:=en) (off':=0) rfl rfl rfl rfl rfl rfl rfl rfl (by decide) (by decide) (by decide) (by rw[if_neg (by decide)];rfl)) ?_;refine U ?_;refine .e (Or.copy (E:=en) (m:=l.length) 0 rfl rfl rfl rfl rfl rfl rfl rfl rfl rfl rfl (fun H hs=> hA3▸SrcAt.of (hs.base _ _ hA1) hA2) hsg hl6 (by decide) hn0 rfl (by decide) hst ?_);refine U4 ?_;refine .e (Or.storeT (E:=en) 1 rfl rfl rfl rfl rfl lA rfl (by exact rfl) lB rfl lC ?_);refine U2 ?_;refine Tc.retN (E:=en) hK func64 results64 (vs:= [.agg ⟨intsL (pad6 l)⟩,_]) (by refine⟨⟨1,_,_,_,_,_,_,_,rfl,rfl,rfl,fP⟩,⟨rfl,trivial⟩⟩) ?_;exact okB
 · have c2:j<l.length:=by omega
   have f1:=times_ld hA3 c2;have hm:=hmax (l[j]?.getD 0) (by rw[List.getElem?_eq_getElem c2];exact List.getElem_mem c2);refine U31 ?_;exact Tc.db (ih ⟨j+1,by omega⟩ (by simp only;omega))
end
theorem pad6_in {l:List Int}(h:Told l):∀x∈pad6 l, -10000≤x∧x≤10000:=by
 intro x hx;unfold pad6 at hx;rcases List.mem_append.1 hx with h1|h1
 · have:=h.max x h1;omega
 · have:=(List.mem_replicate.1 h1).2;omega
theorem pad6_ld {l:List Int}(h:l.length≤6):ldL true 6 (intsL (pad6 l)) 0=some (.agg ⟨intsL (pad6 l)⟩):=by
 have hp6:=pad6_len h;unfold ldL;have e1:Nat.ble (0+6) (intsL (pad6 l)).length=true:=by rw[intsL_len,hp6];rfl
 simp only[e1];rw[List.drop_zero,List.take_of_length_le (by rw[intsL_len,hp6];exact Nat.le_refl _)]
def TuneQ(o:Option (Int×Int))(H:View)(v:Value)(H':View):Prop:=H.le H'∧v=(match o with|some (a,b)=> .tuple ⟨[bandV a b,.int .i64 0]⟩|none=> .tuple ⟨[bandV 0 0,.int .i64 10]⟩)
section
variable(M:Md prog)(H:View)
theorem Tune_c(k:Lk)(code:Nat)(hG:Glob H)(hk:k.ok=true)(hc:code<32)(l:List Int)(hl:Told l)(h2:2≤l.length)(hlen:l.length=(placesTo code 7).length)(A:Option Addr)(cap:Nat)(hT:TimesAt H A l):
   CallT M 18 #[k.val,.int .i64 code,.slice A l.length cap] H (TuneQ (k.tune (placesTo code 7) (pad6 l)) H):=by
 refine .en func18 ntmps18 fun St c cs hK=> ?_;have hp6:=pad6_len hl.len;have fP:=pad6_ld hl.len;have lA:Nat.beq (intsL (pad6 l)).length 6=true:=by rw[intsL_len,hp6];rfl
 have lB:(intsL (pad6 l)).all single=true:=by
   rw[List.all_eq_true];intro y hy;obtain⟨z,_,rfl⟩:=List.mem_map.1 hy;rfl
 have lC:stL [Value.int .i64 0,.int .i64 0,.int .i64 0,.int .i64 0,.int .i64 0,.int .i64 0] 0 (intsL (pad6 l))=intsL (pad6 l):=by
   unfold stL;rw[List.take_zero,List.nil_append,List.drop_eq_nil_of_le (by rw[intsL_len,hp6];simp),List.append_nil]
 refine U2 ?_;refine .bo fun b3=> ?_;refine .al fun b6=> ?_;refine U6 ?_;refine .e (Or.callNew (fun x=> .tuple ⟨[k.val,letN code x,.int .i64 0]⟩) (letB code) (fun x=> (placesTo code 7).length≤x.2.1) rfl rfl rfl rfl rfl (by decide) (letB_nodup code) (fun H hs=> .h (open_m M H k code (glob_le hG hs.base) hk hc)) (fun x hx=> ?_));refine U4 ?_;refine .al fun b8=> ?_;refine .al fun b9=> ?_;refine U27 ?_;refine .c rfl rfl rfl rfl (fun H hs=> .h (told_c M H l hl A cap (hT.le hs.base))) ?_;refine U3 ?_;refine .al fun b11=> ?_;refine .e (Or.storeT (E:=en) 0 rfl rfl rfl rfl rfl lA rfl (by exact rfl) lB rfl lC ?_);refine U11 ?_;cases ht:k.tune (placesTo code 7) (pad6 l) with
 | none=>
   refine U4 ?_;refine .c rfl rfl rfl rfl (fun H hs=> .h (CallT.is (.tuple ⟨[bandV 0 0,.bool false]⟩) (by rewrite [ht];rfl) (tune_c M H k (Lk.fine hk) code x.1 x.2.1 (pad6 l) hc (edg_of fun y hy=> hs.at_ y (by simp[hy])) hx (by omega) (pad6_len hl.len) (pad6_in hl)))) ?_;refine U3 ?_;refine .al fun b12=> ?_;refine U16 ?_;refine .rt hK func18 results18 [_,_] ?_;exact fun H2 hs=> ⟨hs.base,by rw[ht];rfl⟩
 | some ab=>
   obtain⟨a,b⟩:=ab;refine U4 ?_;refine .c rfl rfl rfl rfl (fun H hs=> .h (CallT.is (.tuple ⟨[bandV a b,.bool true]⟩) (by rewrite [ht];rfl) (tune_c M H k (Lk.fine hk) code x.1 x.2.1 (pad6 l) hc (edg_of fun y hy=> hs.at_ y (by simp[hy])) hx (by omega) (pad6_len hl.len) (pad6_in hl)))) ?_;refine U3 ?_;refine .al fun b12=> ?_;refine U17 ?_;refine .rt hK func18 results18 [_,_] ?_;exact fun H2 hs=> ⟨hs.base,by rw[ht];rfl⟩
end
section
variable(M:Md prog)(H:View)
theorem Tune_tally(k:Lk)(code:Nat)(hG:Glob H)(hk:k.ok=true)(hc:code<32)(A:Option Addr)(n cap:Nat)(hn:n≠(placesTo code 7).length):
   CallT M 18 #[k.val,.int .i64 code,.slice A n cap] H (fun v H'=> H.le H'∧v=.tuple ⟨[bandV 0 0,.int .i64 2]⟩):=by
 refine .en func18 ntmps18 fun St c cs hK=> ?_;refine U2 ?_;refine .bo fun b3=> ?_;refine .al fun b6=> ?_;refine U6 ?_;refine .e (Or.callNew (fun x=> .tuple ⟨[k.val,letN code x,.int .i64 0]⟩) (letB code) (fun x=> (placesTo code 7).length≤x.2.1) rfl rfl rfl rfl rfl (by decide) (letB_nodup code) (fun H hs=> .h (open_m M H k code (glob_le hG hs.base) hk hc)) (fun x hx=> ?_));refine U4 ?_;refine .al fun b8=> ?_;refine .al fun b9=> ?_;refine U29 ?_;refine .rt hK func18 results18 [_,_] ?_;exact fun H2 hs=> ⟨hs.base,rfl⟩
end
section
variable(M:Md prog)(H:View)
end
end Go.Proofs.YtldmfjcgjdchcaaGreatDoor.Sg
namespace Go.Proofs.YtldmfjcgjdchcaaGreatDoor.Sg
open Go.RL Go.Proofs.Tryz Go.Conc
set_option maxRecDepth 10000
set_option maxHeartbeats 4000000
section
end
section
end
end Go.Proofs.YtldmfjcgjdchcaaGreatDoor.Sg
namespace Go.Proofs.YtldmfjcgjdchcaaGreatDoor.Sg
open Go.RL Go.Proofs.Tryz
set_option maxRecDepth 10000
set_option maxHeartbeats 4000000
section
variable(M:Md prog)(H:View)
end
section
variable(M:Md prog)(H:View)
end
section
variable(M:Md prog)(H:View)
end
end Go.Proofs.YtldmfjcgjdchcaaGreatDoor.Sg
