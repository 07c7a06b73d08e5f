/-
 Texts of the proofs over baudot/dial.
-/
import Derived.Test.YtldmfjcgjdchcaaGreatDoorL09
import Derived.Deep.Slices
namespace Go.Proofs.YtldmfjcgjdchcaaGreatDoor
open Go.RL Go.Proofs.Tryz Go.ChangeShapes Go.WideShapes Go.ChangeAt Go.RowKit
set_option maxRecDepth 100000
theorem L3:prog.cellsOf 3=1:=by kernel_rfl
theorem aBq:prog.cellsOf 9=1:=by kernel_rfl
theorem o9:prog.cellsOf 43=1:=by kernel_rfl
theorem p9:prog.cellsOf 31=1:=by kernel_rfl
theorem q9:prog.cellsOf 45=4:=by kernel_rfl
theorem r9:prog.cellsOf 66=1:=by kernel_rfl
theorem fY:prog.cellsOf 37=2:=by kernel_rfl
theorem gY:prog.cellsOf 39=4:=by kernel_rfl
theorem hY:prog.cellsOf 68=3:=by kernel_rfl
section
variable {H:Type}{enc:TypeId×Value->H}{P:Program}{W:World}{base:Nat}{sp:Nat->Bool}{held:Bool}
theorem BK:∀ {ts:List TypeId} {vs:List Value} {ds:List (DataW H)} {p:List MemPlace},DataW.TrodAll enc P W base sp held ts vs ds p->∀(j:Nat) t v,ts[j]? =some t->vs[j]? =some v->∃d q,DataW.Trod enc P W base sp held t v d q
 | [],_,_,_,_,_,_,_,h,_=> by simp at h
 | t ::ts,v::vs,d::ds,p,⟨a,b,h1,h2,_⟩,j,t',v',ht,hv=> by
  cases j with
  | zero=>
   simp only[List.getElem?_cons_zero,Option.some.injEq] at ht hv;subst ht hv;exact⟨_,_,h1⟩
  | succ j=>
   simp only[List.getElem?_cons_succ] at ht hv;exact BK h2 j t' v' ht hv
 | _::_,[],_,_,h,_,_,_,_,_=> by cases h
 | _::_,_::_,[],_,h,_,_,_,_,_=> by cases h
end
theorem M9 {gs:List Value}{o:Nat}{a b c d:Value}(h0:gs[o]? =some a)(h1:gs[o+1]? =some b)(h2:gs[o+2]? =some c)(h3:gs[o+3]? =some d):gD true 4 gs o=some (.agg ⟨[a,b,c,d]⟩):=by
 have HB:=(List.getElem?_eq_some_iff.1 h3).1;have e:(gs.drop o).take 4= [a,b,c,d]:=by
  apply List.ext_getElem?
  intro i;rcases i with _|_|_|_|i
  ·simpa using h0
  ·simpa using h1
  ·simpa using h2
  ·simpa using h3
  ·simp
   omega
 unfold gD;rw[show Nat.ble (o+4) gs.length=true from Nat.ble_eq_true_of_le oM];simp only[e]
theorem E7 {gs:List Value}{o:Nat}{a b c:Value}(h0:gs[o]? =some a)(h1:gs[o+1]? =some b)(h2:gs[o+2]? =some c):gD true 3 gs o=some (.agg ⟨[a,b,c]⟩):=by
 have HB:=(List.getElem?_eq_some_iff.1 h2).1;have e:(gs.drop o).take 3= [a,b,c]:=by
  apply List.ext_getElem?
  intro i;rcases i with _|_|_|i
  ·simpa using h0
  ·simpa using h1
  ·simpa using h2
  ·simp
   omega
 unfold gD;rw[show Nat.ble (o+3) gs.length=true from Nat.ble_eq_true_of_le oM];simp only[e]
theorem iO(ab ao j:Nat):(⟨ab,ao,none⟩:Addr).add j=⟨ab,ao+j,none⟩:=by
 unfold Addr.add;split
 ·rename_i h;subst h;rfl
 ·rfl
theorem aDE(s:ByteArray):Value.string s=mA s.data.toList:=by
 obtain⟨⟨l⟩⟩:=s;rfl
section
variable {H:Type}{enc:TypeId×Value->H}{W:World}
theorem pT {n:Nat}{cs:List Value}{y:DataW H×List MemPlace}(h:DataW.trod enc prog W 0 (fun _=> true) true n 3 cs=some y):∃z,cs= [.int .i64 z]:=by
 obtain⟨z,h,_⟩:=DataW.trod_int (by kernel_rfl:prog.underlying 3=some (.int .i64)) h;exact⟨z,h⟩
theorem I7 {n:Nat}{cs:List Value}{y:DataW H×List MemPlace}(h:DataW.trod enc prog W 0 (fun _=> true) true n 9 cs=some y):∃z:List UInt8,cs= [mA z]:=by
 obtain⟨z,h,_⟩:=DataW.trod_string (by kernel_rfl:prog.underlying 9=some .string) h;exact⟨z.data.toList,by rw[h,aDE]⟩
theorem T0 {n:Nat}{cs:List Value}{y:DataW H×List MemPlace}(h:DataW.trod enc prog W 0 (fun _=> true) true n 66 cs=some y):
  ∃(F:Option Addr) (m fc:Nat) (x:Nat->Int),cs= [.slice F m fc]/\m<=fc/\rB (FC W) F m x:=by
 rcases open_ints (by kernel_rfl:prog.underlying 66=some (.slice 110)) VY eY h with ⟨h1,_⟩|⟨a',len,cap,zs,h1,_,h3,h4,h5,_,h7,h8⟩
 ·exact⟨none,0,0,fun _=> 0,h1,Nat.le_refl _,.inl rfl⟩
 ·simp only[if_true] at h5;refine⟨some a',len,cap,fun j=> zs.getD j 0,h1,h3,?_⟩;cases len with
  | zero=> exact .inl rfl
  | succ m=>
   obtain⟨ab,ao,spt⟩:=a';have h0:=h7 0 oM;have O1:spt=none:=by simpa [Addr.add] using World.cell?_spot h0
   subst O1;obtain⟨cs',gt,gz,e1,_⟩:=tF h0;have e1':W.heap[ab]? =some (.cells cs' gt gz):=by simpa [Addr.add] using e1
   refine .inr ⟨ab,ao,false,cs'.toList,gt,gz,rfl,by simp only[FC,e1',Option.map_some],fun j hj=> ?_⟩;have h9:=h7 j oM;rw[iO] at h9;obtain⟨cs2,gt',gz',e2,e3⟩:=tF h9;rw[e1'] at e2;cases e2
   show cs'.toList[ao+(j:Int).toNat*1]? =_;rw[Int.toNat_natCast,Nat.mul_one,Array.getElem?_toList,e3]
theorem tR {n:Nat}{cs:List Value}{y:DataW H×List MemPlace}(h:DataW.trod enc prog W 0 (fun _=> true) true n 37 cs=some y):∃a b,cs= [.int .i64 a,.int .i64 b]:=by
 obtain⟨y0,y1,m,_,hl,t0,t1⟩:=trod_struct2 Tryz.underlying37 h;rw[fY] at hl;obtain⟨c0,c1,rfl⟩:∃a b,cs= [a,b]:=by
  match cs,hl with
  | [a,b],_=> exact⟨a,b,rfl⟩
 simp only[L3,List.drop_zero,List.drop_succ_cons,List.take_succ_cons,List.take_zero] at t0 t1;obtain⟨a,ha⟩:=pT t0;obtain⟨b,hb⟩:=pT t1;simp only[List.cons.injEq,and_true] at ha hb;exact⟨a,b,by rw[ha,hb]⟩
theorem MX {n:Nat}{cs:List Value}{y:DataW H×List MemPlace}(h:DataW.trod enc prog W 0 (fun _=> true) true n 39 cs=some y):∃x:Int×Int×Int×Int,cs= [.int .i64 x.1,.int .i64 x.2.1,.int .i64 x.2.2.1,.int .i64 x.2.2.2]:=by
 obtain⟨y0,y1,m,_,hl,t0,t1⟩:=trod_struct2 Tryz.underlying39 h;rw[gY] at hl;obtain⟨c0,c1,c2,c3,rfl⟩:∃a b c d,cs= [a,b,c,d]:=by
  match cs,hl with
  | [a,b,c,d],_=> exact⟨a,b,c,d,rfl⟩
 simp only[fY,List.drop_zero,List.drop_succ_cons,List.take_succ_cons,List.take_zero] at t0 t1;obtain⟨a,b,h1⟩:=tR t0;obtain⟨c,d,h2⟩:=tR t1;simp only[List.cons.injEq,and_true] at h1 h2;exact⟨(a,b,c,d),by rw[h1.1,h1.2,h2.1,h2.2]⟩
abbrev LnX:=List UInt8×List UInt8×Option Addr×Nat×Nat×(Nat->Int)
theorem aAH {n:Nat}{cs:List Value}{y:DataW H×List MemPlace}(h:DataW.trod enc prog W 0 (fun _=> true) true n 68 cs=some y):
  ∃x:LnX,cs= [mA x.1,mA x.2.1,.slice x.2.2.1 x.2.2.2.1 x.2.2.2.2.1]/\x.2.2.2.1<=x.2.2.2.2.1/\rB (FC W) x.2.2.1 x.2.2.2.1 x.2.2.2.2.2:=by
 obtain⟨xs,m,_,_,hl,B8,hf⟩:=DataW.trod_struct Tryz.underlying68 h;rw[hY] at hl;obtain⟨c0,c1,c2,rfl⟩:∃a b c,cs= [a,b,c]:=by
  match cs,hl with
  | [a,b,c],_=> exact⟨a,b,c,rfl⟩
 obtain⟨x0,x1,x2,rfl⟩:∃a b c,xs= [a,b,c]:=by
  match xs,B8 with
  | [a,b,c],_=> exact⟨a,b,c,rfl⟩
 have f0:=hf 0 { name:= "Name",type:=9,offset:=0,embedded:=false,tag:= "",pkgPath:= "",byteOffset:=0 } rfl;have f1:=hf 1 { name:= "Number",type:=9,offset:=1,embedded:=false,tag:= "",pkgPath:= "",byteOffset:=16 } rfl;have f2:=hf 2 { name:= "Free",type:=66,offset:=2,embedded:=false,tag:= "",pkgPath:= "",byteOffset:=32 } rfl;simp only[aBq,r9,List.drop_zero,List.drop_succ_cons,List.take_succ_cons,List.take_zero,List.getElem?_cons_zero,List.getElem?_cons_succ] at f0 f1 f2;obtain⟨s0,e0⟩:=I7 f0;obtain⟨s1,e1⟩:=I7 f1;obtain⟨F,k,fc,x,e2,h1,h2⟩:=T0 f2;simp only[List.cons.injEq,and_true] at e0 e1 e2;exact⟨(s0,s1,F,k,fc,x),by rw[e0,e1,e2],h1,h2⟩
theorem UZ {base:Nat}{v:Value}(hv:Value.okWide prog W .any base 45 v)(h:∃d q,DataW.Trod enc prog W 0 (fun _=> true) true 45 v d q):
  ∃(k:Bk) (A:Option Addr) (lc:Nat) (B:Option Addr) (tc:Nat),v=k.val A lc B tc/\LF (FC W) k A lc B tc:=by
 have A8:∃cs,v=.agg cs:=by
  unfold Value.okWide at hv;rw[Tryz.underlying45] at hv;obtain⟨cs,h,_⟩:=hv;exact⟨cs,h⟩
 obtain⟨⟨cs⟩,rfl⟩:=A8;obtain⟨d,q,n,h⟩:=h;obtain⟨xs,m,_,_,hl,B8,hf⟩:=DataW.trod_struct Tryz.underlying45 h;have nS:(Value.agg ⟨cs⟩).cells.toList=cs:=rfl;rw[nS] at hl hf;rw[q9] at hl;obtain⟨c0,c1,c2,c3,rfl⟩:∃a b c d,cs= [a,b,c,d]:=by
  match cs,hl with
  | [a,b,c,d],_=> exact⟨a,b,c,d,rfl⟩
 obtain⟨x0,x1,x2,x3,rfl⟩:∃a b c d,xs= [a,b,c,d]:=by
  match xs,B8 with
  | [a,b,c,d],_=> exact⟨a,b,c,d,rfl⟩
 have f0:=hf 0 { name:= "Gap",type:=3,offset:=0,embedded:=false,tag:= "",pkgPath:= "",byteOffset:=0 } rfl;have f1:=hf 1 { name:= "Give",type:=3,offset:=1,embedded:=false,tag:= "",pkgPath:= "",byteOffset:=8 } rfl;have f2:=hf 2 { name:= "Lines",type:=43,offset:=2,embedded:=false,tag:= "",pkgPath:= "",byteOffset:=16 } rfl;have f3:=hf 3 { name:= "Trains",type:=31,offset:=3,embedded:=false,tag:= "",pkgPath:= "",byteOffset:=40 } rfl;simp only[L3,o9,p9,List.drop_zero,List.drop_succ_cons,List.take_succ_cons,List.take_zero,List.getElem?_cons_zero,List.getElem?_cons_succ] at f0 f1 f2 f3;obtain⟨CB,e0⟩:=pT f0;obtain⟨TB,e1⟩:=pT f1;simp only[List.cons.injEq,and_true] at e0 e1;subst e0 e1
 -- the lines
 obtain ⟨A,nl,lc,fl,el,K1,hA⟩:∃(A:Option Addr) (nl lc:Nat) (f:Nat->LnX),c2=.slice A nl lc/\nl<=lc/\
   (nl=0\/∃b o fz gs gt gz,A=some ⟨b,o,none⟩/\FC W b=some (fz,.cells ⟨gs⟩ gt gz)/\∀i:Nat,i<nl->gD true 3 gs (o+(i:Int).toNat*3)=some (gN (f i).1 (f i).2.1 (f i).2.2.1 (f i).2.2.2.1 (f i).2.2.2.2.1)/\(f i).2.2.2.1<=(f i).2.2.2.2.1/\rB (FC W) (f i).2.2.1 (f i).2.2.2.1 (f i).2.2.2.2.2):=by
  rcases Go.Deep.open_slice Tryz.underlying43 f2 with ⟨h1,_⟩|⟨a,len,cap,mm,nn,D,Pl,h1,_,h3,_,h5,_,h7⟩
  ·simp only[List.cons.injEq,and_true] at h1;exact⟨none,0,0,fun _=> ([],[],none,0,0,fun _=> 0),h1,Nat.le_refl _,.inl rfl⟩
  ·simp only[List.cons.injEq,and_true] at h1;simp only[if_true] at h5;have hex:∀i,i<len->∃x:LnX,W.cells? 0 (a.add (i*3)) 3=some [mA x.1,mA x.2.1,.slice x.2.2.1 x.2.2.2.1 x.2.2.2.2.1]/\x.2.2.2.1<=x.2.2.2.2.1/\rB (FC W) x.2.2.1 x.2.2.2.1 x.2.2.2.2.2:=fun i hi=> by
    obtain⟨cs',g1,g2⟩:=h7 i oM;rw[hY] at g1;obtain⟨x,hx,VQ⟩:=aAH g2;exact⟨x,by rw[g1,hx],VQ⟩
   obtain⟨f,hfx⟩:=Go.Deep.choose_lt hex;refine⟨some a,len,cap,f,h1,h3,?_⟩;cases len with
   | zero=> exact .inl rfl
   | succ k=>
    obtain⟨ab,ao,spt⟩:=a;have vH:∀i,i<k+1->∀j,j<3->W.cell? (((⟨ab,ao,spt⟩:Addr).add (i*3)).add j)=([mA (f i).1,mA (f i).2.1,.slice (f i).2.2.1 (f i).2.2.2.1 (f i).2.2.2.2.1]:List Value)[j]? :=fun i hi j hj=> (World.cells?_some (hfx i hi).1).2.2 j hj;have h00:=vH 0 oM 0 dE;have O1:spt=none:=by simpa [Addr.add] using World.cell?_spot h00
    subst O1;obtain⟨gs,gt,gz,g1,_⟩:=tF h00;have g1':W.heap[ab]? =some (.cells gs gt gz):=by simpa [Addr.add] using g1
    refine .inr ⟨ab,ao,false,gs.toList,gt,gz,rfl,by simp only[FC,g1',Option.map_some],fun i hi=> ⟨?_,(hfx i hi).2⟩⟩;have LJ:∀j,j<3->gs.toList[ao+i*3+j]? =([mA (f i).1,mA (f i).2.1,.slice (f i).2.2.1 (f i).2.2.2.1 (f i).2.2.2.2.1]:List Value)[j]? :=fun j hj=> by
     have h8:=vH i hi j hj;rw[iO,iO] at h8;have M5:∃z,([mA (f i).1,mA (f i).2.1,.slice (f i).2.2.1 (f i).2.2.2.1 (f i).2.2.2.2.1]:List Value)[j]? =some z:=⟨_,List.getElem?_eq_getElem (by simpa using hj)⟩
     obtain⟨z,hz⟩:=M5;rw[hz] at h8 ⊢;obtain⟨gs',gt',gz',g2,g3⟩:=tF h8;rw[g1'] at g2;cases g2
     rw[Array.getElem?_toList];exact g3
    rw[Int.toNat_natCast];exact E7 (LJ 0 dE) (LJ 1 dE) (LJ 2 dE)
 -- the trains
 obtain ⟨B,nt,tc,ft,et,v8,hB⟩:∃(B:Option Addr) (nt tc:Nat) (f:Nat->Int×Int×Int×Int),c3=.slice B nt tc/\nt<=tc/\
   (nt=0\/∃b o fz gs gt gz,B=some ⟨b,o,none⟩/\FC W b=some (fz,.cells ⟨gs⟩ gt gz)/\∀i:Nat,i<nt->gD true 4 gs (o+(i:Int).toNat*4)=some (UC (f i).1 (f i).2.1 (f i).2.2.1 (f i).2.2.2)):=by
  rcases Go.Deep.open_slice Tryz.underlying31 f3 with ⟨h1,_⟩|⟨a,len,cap,mm,nn,D,Pl,h1,_,h3,_,h5,_,h7⟩
  ·simp only[List.cons.injEq,and_true] at h1;exact⟨none,0,0,fun _=> (0,0,0,0),h1,Nat.le_refl _,.inl rfl⟩
  ·simp only[List.cons.injEq,and_true] at h1;simp only[if_true] at h5;have hex:∀i,i<len->∃x:Int×Int×Int×Int,W.cells? 0 (a.add (i*4)) 4=some [.int .i64 x.1,.int .i64 x.2.1,.int .i64 x.2.2.1,.int .i64 x.2.2.2]:=fun i hi=> by
    obtain⟨cs',g1,g2⟩:=h7 i oM;rw[gY] at g1;obtain⟨x,hx⟩:=MX g2;exact⟨x,by rw[g1,hx]⟩
   obtain⟨f,hfx⟩:=Go.Deep.choose_lt hex;refine⟨some a,len,cap,f,h1,h3,?_⟩;cases len with
   | zero=> exact .inl rfl
   | succ k=>
    obtain⟨ab,ao,spt⟩:=a;have vH:∀i,i<k+1->∀j,j<4->W.cell? (((⟨ab,ao,spt⟩:Addr).add (i*4)).add j)=([Value.int .i64 (f i).1,.int .i64 (f i).2.1,.int .i64 (f i).2.2.1,.int .i64 (f i).2.2.2]:List Value)[j]? :=fun i hi j hj=> (World.cells?_some (hfx i hi)).2.2 j hj;have h00:=vH 0 oM 0 dE;have O1:spt=none:=by simpa [Addr.add] using World.cell?_spot h00
    subst O1;obtain⟨gs,gt,gz,g1,_⟩:=tF h00;have g1':W.heap[ab]? =some (.cells gs gt gz):=by simpa [Addr.add] using g1
    refine .inr ⟨ab,ao,false,gs.toList,gt,gz,rfl,by simp only[FC,g1',Option.map_some],fun i hi=> ?_⟩;have LJ:∀j,j<4->gs.toList[ao+i*4+j]? =([Value.int .i64 (f i).1,.int .i64 (f i).2.1,.int .i64 (f i).2.2.1,.int .i64 (f i).2.2.2]:List Value)[j]? :=fun j hj=> by
     have h8:=vH i hi j hj;rw[iO,iO] at h8;have M5:∃z,([Value.int .i64 (f i).1,.int .i64 (f i).2.1,.int .i64 (f i).2.2.1,.int .i64 (f i).2.2.2]:List Value)[j]? =some z:=⟨_,List.getElem?_eq_getElem (by simpa using hj)⟩
     obtain⟨z,hz⟩:=M5;rw[hz] at h8 ⊢;obtain⟨gs',gt',gz',g2,g3⟩:=tF h8;rw[g1'] at g2;cases g2
     rw[Array.getElem?_toList];exact g3
    rw[Int.toNat_natCast];exact M9 (LJ 0 dE) (LJ 1 dE) (LJ 2 dE) (LJ 3 dE)
 subst el et;refine⟨⟨CB,TB,nl,fun i=> (fl i).1,fun i=> (fl i).2.1,fun i=> (fl i).2.2.2.1,fun i=> (fl i).2.2.2.2.2,nt,fun i=> (ft i).1,fun i=> (ft i).2.1,fun i=> (ft i).2.2.1,fun i=> (ft i).2.2.2⟩,A,lc,B,tc,rfl,⟨K1,?_⟩,⟨v8,hB⟩⟩;exact hA.imp id fun⟨b,o,fz,gs,gt,gz,h1,h2,h3⟩=> ⟨b,o,fz,gs,gt,gz,h1,h2,fun i hi=> ⟨_,_,(h3 i hi).1,(h3 i hi).2⟩⟩
end
section
variable {H:Type}{enc:TypeId×Value->H}{W:World}
end
end Go.Proofs.YtldmfjcgjdchcaaGreatDoor
namespace Go.Proofs.YtldmfjcgjdchcaaGreatDoor.Sg
open Go.RL Go.Proofs.Tryz
set_option maxHeartbeats 8000000
set_option maxRecDepth 10000
def FD(a b:Int):Value:=.agg ⟨[.int .i64 a,.int .i64 b]⟩
section
variable(M:Md prog)(H:View)
theorem OP(a b low high many:Int)(h1: -1000000000<=low)(h2:high<=1000000000):
  bA M 366 #[FD a b,.int .i64 low,.int .i64 high,.int .i64 many] H (fun v H'=> H.le H'/\v=.bool (decide (low<=a/\a<=b/\b<=high/\b-a<many))):=by
 refine .en func366 ntmps366 fun St c cs hK=> ?_;by_cases c1:low<=a
 all_goals by_cases c2:a<=b
 all_goals by_cases c3:b<=high
 all_goals by_cases c4:b-a<many
 all_goals
  refine U2 ?_;refine .bo fun b1=> ?_;refine U7 ?_;refine .i ?_ (z:=by first|exact KD oM|exact JD oM);refine U ?_;first|(refine .sk ?_)|(refine .x .fa ?_)
  first|(refine .sk ?_)|((refine .x (.ld 0) ?_))
  first|(refine .sk ?_)|(refine .x .fa ?_)
  first|(refine .sk ?_)|((refine .x (.ld 0) ?_))
  first|(refine .sk ?_)|(refine .x (.it (zz:=(by first|exact KD oM|exact JD oM))) ?_)
  refine U2 ?_;first|(refine .sk ?_)|(refine .x .fa ?_)
  first|(refine .sk ?_)|((refine .x (.ld 0) ?_))
  first|(refine .sk ?_)|(refine .m ?_)
  first|(refine .sk ?_)|(refine .x (.it (zz:=(by first|exact KD oM|exact JD oM))) ?_)
  refine U2 ?_;first|(refine .sk ?_)|(refine .x .fa ?_)
  first|(refine .sk ?_)|((refine .x (.ld 0) ?_))
  first|(refine .sk ?_)|(refine .x .fa ?_)
  first|(refine .sk ?_)|((refine .x (.ld 0) ?_))
  first|(refine .sk ?_)|(refine .x (.it (zz:=nT oM oM)) ?_)
  first|(refine .sk ?_)|(refine .m ?_)
  first|(refine .sk ?_)|(refine .x (.it (zz:=(by first|exact iN oM|exact OI oM))) ?_)
  refine U3 ?_;refine .rt hK func366 results366 [_] ?_;exact fun H' hs=> ⟨hs.base,by simp[cC,c1,c2,c3,c4] <;> omega⟩
theorem aEm(a b x:Int):bA M 160 #[FD a b,.int .i64 x] H (fun v H'=> H.le H'/\v=.bool (decide (a<=x/\x<=b))):=by
 refine .en func160 ntmps160 fun St c cs hK=> ?_;by_cases c1:a<=x
 all_goals by_cases c2:x<=b
 all_goals
  refine U2 ?_;refine .bo fun b1=> ?_;refine U7 ?_;refine .i ?_ (z:=by first|exact KD oM|exact JD oM);refine U ?_;first|(refine .sk ?_)|(refine .m ?_)
  first|(refine .sk ?_)|(refine .x .fa ?_)
  first|(refine .sk ?_)|((refine .x (.ld 0) ?_))
  first|(refine .sk ?_)|(refine .x (.it (zz:=(by first|exact KD oM|exact JD oM))) ?_)
  refine U3 ?_;refine .rt hK func160 results160 [_] ?_;exact fun H' hs=> ⟨hs.base,by simp[cC,c1,c2] <;> omega⟩
theorem ED(a b:Int):bA M 153 #[FD a b] H (fun v H'=> H.le H'/\v=FD a b):=by
 refine .en func153 ntmps153 fun St c cs hK=> ?_;refine U2 ?_;refine .bo fun b1=> ?_;refine .al fun b2=> ?_;refine lD ?_;refine .rt hK func153 results153 [_] ?_;exact okB
theorem UO(x:Int):bA M 151 #[.int .i64 x] H (fun v H'=> H.le H'/\v=.bool (decide (0<=x/\x<=31))):=by
 refine .en func151 ntmps151 fun St c cs hK=> ?_;by_cases c1:0<=x
 all_goals by_cases c2:x<=31
 all_goals
  refine U7 ?_;refine .i ?_ (z:=by first|exact WJ oM|exact cI oM);refine U ?_;first|(refine .sk ?_)|(refine .m ?_)
  first|(refine .sk ?_)|(refine .x (.it (zz:=(by first|exact KD oM|exact JD oM))) ?_)
  refine U3 ?_;refine .rt hK func151 results151 [_] ?_;exact fun H' hs=> ⟨hs.base,by simp[cC,c1,c2] <;> omega⟩
def oC(pace after:Int):Nat->Int->Int
 | 0,n=> n
 | f+1,n=> if(2*n+1)*pace<after then oC pace after f (n+1) else n
def bB(pace after:Int):Int:=oC pace after 7 0
theorem gP(pace after:Int)(h1:0<=pace)(h2:pace<=1000000):bA M 78 #[.int .i64 pace,.int .i64 after] H (fun v H'=> H.le H'/\v=.int .i64 (bB pace after)):=by
 refine .en func78 ntmps78 fun St c cs hK=> ?_;refine lD ?_;refine Tc.aEf (R':= [(5,.int .i64 0),(0,.int .i64 pace),(1,.int .i64 after)]) ⟨rfl,rfl,rfl,trivial⟩ ?_;refine Tc.tA (σ:= { s:Int×Nat//0<=s.1/\s.1+s.2=7/\oC pace after s.2 s.1=bB pace after })
  (fun s=> ([(5,.int .i64 s.1.1),(0,.int .i64 pace),(1,.int .i64 after)],[])) (fun s=> s.1.2) ?_ ⟨(0,7),by simp,by simp,rfl⟩
 rintro⟨⟨s,f⟩,g1,g2,g3⟩ ih;simp only at g1 g2 g3;have m1:0<=(2*s+1)*pace:=Int.mul_nonneg oM h1;have m2:(2*s+1)*pace<=15*1000000:=Int.mul_le_mul oM h2 h1 oM;show Tc M St _ _ _ _ [(5,.int .i64 s),(0,.int .i64 pace),(1,.int .i64 after)] [] _ _
 match f,g2,g3,ih with
 | 0,g2,g3,_=>
  refine ZX ?_;refine .rt hK func78 results78 [_] ?_;exact fun H' hs=> ⟨hs.base,by simp only[cC];rw[<-g3];rfl⟩
 | f + 1,g2,g3,ih=>
  simp only[oC] at g3;by_cases c:(2*s+1)*pace<after
  ·rw[if_pos c] at g3;refine U7 ?_;refine .i ?_ (z:=iD oM oM);refine U2 ?_;refine .i ?_ (z:=iD oM oM);refine CG ?_;exact Tc.db (ih ⟨(s+1,f),by simp only;omega,by simp only;omega,g3⟩ (by simp))
  ·rw[if_neg c] at g3;refine U7 ?_;refine .i ?_ (z:=iD oM oM);refine U2 ?_;refine .i ?_ (z:=iD oM oM);refine PE ?_;refine .rt hK func78 results78 [_] ?_;exact fun H' hs=> ⟨hs.base,by simp only[cC];rw[<-g3]⟩
end
def GD(code place:Nat):Nat:=if place=0 then 0 else if place=6 then 1 else code/2 ^ (place-1)%2
def yD(v first:Nat):Nat:=v ^^^ (128-2 ^ first)
def OE(v:Nat):Option Nat:=if v%2=0/\v/64%2=1 then some (v/2%32) else none
theorem eL:∀c:Nat,c<32->∀p:Nat,p<7->p≠0->p≠6->kI .and .i64 (Int.fdiv (c:Int) (2 ^ (min ((p:Int)-1).toNat 64))) 1=(GD c p:Nat):=by decide +kernel
theorem GV:∀v:Nat,v<128->∀f:Nat,f<8->kI .xor .u8 (v:Int) (kI .andNot .u8 127 (IntKind.u8.wrap (IntKind.u8.wrap (1*2 ^ (min (f:Int).toNat 8))-1)))=(yD v f:Nat):=by decide +kernel
theorem yQ:∀v:Nat,v<128->kI .and .u8 (v:Int) 1=((v%2:Nat):Int):=by decide +kernel
theorem gW:∀v:Nat,v<128->kI .and .u8 (v:Int) 31=((v%32:Nat):Int):=by decide +kernel
theorem zV:∀v:Nat,v<128->∀k:Nat,k<7->Int.fdiv (v:Int) (2 ^ (min (k:Int).toNat 8))=((v/2 ^ k:Nat):Int):=by decide +kernel
section
variable(M:Md prog)(H:View)
theorem KQ(code place:Nat)(h1:code<32)(h2:place<7):bA M 229 #[.int .i64 code,.int .i64 place] H (fun v H'=> H.le H'/\v=.int .i64 (GD code place:Nat)):=by
 refine .en func229 ntmps229 fun St c cs hK=> ?_;by_cases c1:place=0
 ·subst c1;refine MR ?_;refine .rt hK func229 results229 [_] ?_;exact okB
 ·by_cases c2:place=6
  ·subst c2;refine U26 ?_;refine .rt hK func229 results229 [_] ?_;exact okB
  ·have hb:=eL code h1 place h2 c1 c2;refine U29 ?_;refine .x .sf ?_;refine U3 ?_;refine .rt hK func229 results229 [_] ?_;exact fun H' hs=> ⟨hs.base,by simp only[cC];rw[<-hb];rfl⟩
theorem HV(v first:Nat)(h1:v<128)(h2:first<8):bA M 77 #[.int .u8 v,.int .i64 first] H (fun r H'=> H.le H'/\r=.int .u8 (yD v first:Nat)):=by
 refine .en func77 ntmps77 fun St c cs hK=> ?_;have hb:=GV v h1 first h2;refine U8 ?_;refine .x .sf ?_;refine U5 ?_;refine .rt hK func77 results77 [_] ?_;exact fun H' hs=> ⟨hs.base,by simp only[cC];rw[<-hb];rfl⟩
theorem X6(v:Nat)(h1:v<128):bA M 79 #[.int .u8 v] H (fun r H'=> H.le H'/\r=(match OE v with|some n=> .tuple ⟨[.int .i64 (n:Nat),.bool true]⟩|none=> .tuple ⟨[.int .i64 0,.bool false]⟩)):=by
 refine .en func79 ntmps79 fun St c cs hK=> ?_;have e1:pA .and .u8 (v:Int) 1=some (.int .u8 ((v%2:Nat):Int)):=by simp only[pA,yQ v h1]
 have e2:DC .shr .u8 (v:Int) 6=some (.int .u8 ((v/64:Nat):Int)):=by simp only[DC];exact congrArg (fun z=> some (Value.int .u8 z)) (zV v h1 6 oM)
 have e3:pA .and .u8 ((v/64:Nat):Int) 1=some (.int .u8 ((v/64%2:Nat):Int)):=by simp only[pA,yQ (v/64) oM]
 have e4:DC .shr .u8 (v:Int) 1=some (.int .u8 ((v/2:Nat):Int)):=by simp only[DC];exact congrArg (fun z=> some (Value.int .u8 z)) (zV v h1 1 oM)
 have e5:pA .and .u8 ((v/2:Nat):Int) 31=some (.int .u8 ((v/2%32:Nat):Int)):=by simp only[pA,gW (v/2) oM]
 have e6:IntKind.i64.wrap ((v/2%32:Nat):Int)=((v/2%32:Nat):Int):=wrap64 oM oM;by_cases c1:v%2=0
 ·by_cases c2:v/64%2=1
  ·refine CG ?_;refine .x .sf ?_;refine U9 ?_;refine .x .sf ?_;refine U5 ?_;refine .rt hK func79 results79 [_,_] ?_;exact fun H' hs=> ⟨hs.base,by simp[cC,OE,c1,c2]⟩
  ·refine CG ?_;refine .x .sf ?_;refine lD ?_;refine .rt hK func79 results79 [_,_] ?_;exact fun H' hs=> ⟨hs.base,by simp[cC,OE,c2]⟩
 ·refine U24 ?_;refine .rt hK func79 results79 [_,_] ?_;exact fun H' hs=> ⟨hs.base,by simp[cC,OE,c1]⟩
end
def pJ(code place:Nat):Nat:=if place=0 then 1 else GD code (place-1)
def iA(code:Nat):Nat->List Nat
 | 0=> []
 | p+1=> if GD code p=pJ code p then iA code p else iA code p++[p]
def sC(ps:List Nat):List Value:=(ps.zipIdx.map fun x=> [Value.int .i64 (x.1:Nat),Value.int .i64 (x.2:Nat)]).flatten
theorem xO(ps:List Nat)(p:Nat):sC (ps++[p])=sC ps++[.int .i64 (p:Nat),.int .i64 (ps.length:Nat)]:=by
 unfold sC;rw[List.zipIdx_append];simp
theorem yL(code p:Nat):(iA code p).length<=p:=by
 induction p with
 | zero=> simp[iA]
 | succ p ih=>
  unfold iA;split
  ·omega
  ·simp;omega
section
variable(M:Md prog)(H:View)
theorem bP(code:Nat)(h1:code<32):bA M 152 #[.int .i64 code] H (fun v H'=> H.le H'/\∃g:Gl 270 2,v=.agg ⟨[.int .i64 code,g.val]⟩/\g.n=(iA code 7).length/\g.l=sC (iA code 7)/\∀x∈g.bl,H' x.1=some x.2/\H x.1=none):=by
 refine .en func152 ntmps152 fun St c cs hK=> ?_;refine U2 ?_;refine .al fun b2=> ?_;refine U5 ?_;refine .al fun b3=> ?_;refine NF ?_;refine Tc.db (Tc.tA (σ:= { s:Nat×Gl 270 2//s.1<=7/\s.2.n=(iA code s.1).length/\s.2.l=sC (iA code s.1) })
  (fun s=> ([(9,.int .i64 (s.1.1:Nat)),(4,.int .i64 (pJ code s.1.1:Nat)),(0,.int .i64 code),(2,.pointer (some ⟨b2,0,none⟩)),(3,.pointer (some ⟨b3,0,none⟩))],
   (b3,true,.cells ⟨[.int .i64 code,s.1.2.val]⟩ 135 (0,0))::(b2,true,.cells ⟨[.int .i64 0,.slice none 0 0]⟩ 135 (0,0))::s.1.2.bl)) (fun s=> 7-s.1.1) ?_ ⟨(0,Gl.nil 270 2),by simp,rfl,rfl⟩)
 rintro⟨⟨p,g⟩,g1,g2,g3⟩ ih;simp only at g1 g2 g3;have hlen:=yL code p;show Tc M St _ _ _ _ [(9,.int .i64 (p:Nat)),(4,.int .i64 (pJ code p:Nat)),(0,.int .i64 code),(2,.pointer (some ⟨b2,0,none⟩)),(3,.pointer (some ⟨b3,0,none⟩))]
   ((b3,true,.cells ⟨[.int .i64 code,g.val]⟩ 135 (0,0))::(b2,true,.cells ⟨[.int .i64 0,.slice none 0 0]⟩ 135 (0,0))::g.bl) _ _
 by_cases c7:p=7
 ·subst c7;refine NF ?_;refine .rt hK func152 results152 [_] ?_;refine fun H' hs=> ⟨hs.base,g,rfl,g2,g3,fun x hx=> ⟨hs.at_ x ?_,hs.out x ?_⟩⟩
  ·exact List.mem_cons_of_mem _ (List.mem_cons_of_mem _ hx)
  ·exact List.mem_cons_of_mem _ (List.mem_cons_of_mem _ hx)
 ·have c8:p<7:=by omega
  refine QT ?_;refine .cl (fun H hs=> KQ M H code p h1 c8) ?_;refine U4 ?_;by_cases he:GD code p=pJ code p
  ·refine vQ ?_;exact Tc.db (ih ⟨(p+1,g),by simp only;omega,by simp only[iA,he,if_true];exact g2,by simp only[iA,he,if_true];exact g3⟩ (by simp only;omega))
  ·refine QE ?_;refine .e (.bs (zz:=fun bs=> ?_));refine .e (Or.append (E:=en) 3 rfl rfl rfl rfl rfl rfl rfl rfl rfl rfl rfl rfl rfl rfl rfl (fun H hs=> OA.of (hs.get (i:=0) rfl) (Nat.le_of_ble_eq_true rfl)) rfl oM rfl dE (fun g' hn hl=> ?_));refine NF ?_;exact Tc.db (ih ⟨(p+1,g'),by simp only;omega,by simp only[iA,he,if_false];rw[hn,g2];simp,by simp only[iA,he,if_false];rw[hl,g3,xO];rw[g2];rfl⟩ (by simp only;omega))
end
def LG(code:Nat):Nat->Nat
 | 0=> 0
 | p+1=> LG code p+GD code p*2 ^ p
def EB(code:Nat):Nat:=LG code 7
theorem AX:∀c:Nat,c<32->∀p:Nat,p<7->kI .or .u8 (LG c p:Nat) (IntKind.u8.wrap (IntKind.u8.wrap (GD c p:Nat)*2 ^ (min (p:Int).toNat 8)))=(LG c (p+1):Nat):=by decide +kernel
section
variable(M:Md prog)(H:View)
theorem aAw(code:Nat)(sv:Value)(h1:code<32):bA M 232 #[.agg ⟨[.int .i64 code,sv]⟩] H (fun v H'=> H.le H'/\v=.int .u8 (EB code:Nat)):=by
 refine .en func232 ntmps232 fun St c cs hK=> ?_;refine U2 ?_;refine .bo fun b1=> ?_;refine NF ?_;refine Tc.db (Tc.tA (σ:= { p:Nat//p<=7 })
  (fun s=> ([(5,.int .i64 (s.1:Nat)),(3,.int .u8 (LG code s.1:Nat)),(1,.pointer (some ⟨b1,0,none⟩))],[(b1,true,.cells ⟨[.int .i64 code,sv]⟩ 135 (0,0))])) (fun s=> 7-s.1) ?_ ⟨0,by simp⟩)
 rintro⟨p,g1⟩ ih;show Tc M St _ _ _ _ [(5,.int .i64 (p:Nat)),(3,.int .u8 (LG code p:Nat)),(1,.pointer (some ⟨b1,0,none⟩))] [(b1,true,.cells ⟨[.int .i64 code,sv]⟩ 135 (0,0))] _ _;by_cases c7:p=7
 ·subst c7;refine NF ?_;refine .rt hK func232 results232 [_] ?_;exact okB
 ·have c8:p<7:=by omega
  have e1:pA .or .u8 (LG code p:Nat) (IntKind.u8.wrap (IntKind.u8.wrap (GD code p:Nat)*2 ^ (min (p:Int).toNat IntKind.u8.bits)))=some (.int .u8 (LG code (p+1):Nat)):=congrArg (fun z=> some (Value.int .u8 z)) (AX code h1 p c8);refine YP ?_;refine .cl (fun H hs=> KQ M H code p h1 c8) ?_;refine U2 ?_;refine .x .sf ?_;refine U8 ?_;exact Tc.db (ih ⟨p+1,oM⟩ (by simp only;omega))
end
def ID(p:Nat->Bool)(k:Nat):List Value:=((List.range k).filter p).map fun i=> .int .i64 (i:Nat)
theorem eN(p:Nat->Bool)(k:Nat):ID p (k+1)=if p k then ID p k++[.int .i64 (k:Nat)] else ID p k:=by
 unfold ID;rw[List.range_succ,List.filter_append];cases h:p k <;> simp[h]
theorem eX(p:Nat->Bool)(k:Nat):(ID p k).length<=k:=by
 unfold ID;rw[List.length_map];exact Nat.le_trans (List.length_filter_le _ _) (by simp)
def aBc(M:Md prog)(H:View)(fv:Value)(many:Nat)(p:Nat->Bool):Prop:=
 ∀i:Nat,i<many->∀H',H.le H'->uB M fv [.int .i64 (i:Nat)] H' fun v H''=> H'.le H''/\v=.bool (p i)
section
variable(M:Md prog)(H:View)
theorem aB7(many:Nat)(fv:Value)(p:Nat->Bool)(hm:many<=100000)(hp:aBc M H fv many p):bA M 72 #[.int .i64 many,fv] H (fun v H'=> H.le H'/\∃g:Gl 3 1,v=g.val/\g.l=ID p many/\∀x∈g.bl,H' x.1=some x.2/\H x.1=none):=by
 refine .en func72 ntmps72 fun St c cs hK=> ?_;refine XP ?_;refine Tc.db (Tc.tA (σ:= { s:Nat×Gl 3 1//s.1<=many/\s.2.l=ID p s.1 })
  (fun s=> ([(8,.int .i64 (s.1.1:Nat)),(7,.int .i64 many),(1,fv),(5,s.1.2.val)],s.1.2.bl)) (fun s=> many-s.1.1) ?_ ⟨(0,Gl.nil 3 1),by simp,rfl⟩)
 rintro⟨⟨k,g⟩,g1,g2⟩ ih;simp only at g1 g2;have hlen:g.n<=k:=by
  have h1:=eX p k;rw[<-g2,g.hl] at h1;omega
 show Tc M St _ _ _ _ [(8,.int .i64 (k:Nat)),(7,.int .i64 many),(1,fv),(5,g.val)] g.bl _ _;by_cases c1:k=many
 ·subst c1;refine NF ?_;refine .rt hK func72 results72 [_] ?_;exact fun H' hs=> ⟨hs.base,g,rfl,g2,fun x hx=> ⟨hs.at_ x hx,hs.out x hx⟩⟩
 ·have c2:k<many:=by omega
  refine QT ?_;refine .c rfl rfl rfl rfl (fun H hs=> hp k c2 H hs.base) ?_;refine U ?_;cases hpk:p k with
  | false=>
   refine U7 ?_;exact Tc.db (ih ⟨(k+1,g),by simp only;omega,by simp only[eN,hpk];exact g2⟩ (by simp only;omega))
  | true=>
   refine U4 ?_;refine .e (.bs (zz:=fun bs=> ?_));refine .e (Or.append (E:=en) 1 rfl rfl rfl rfl rfl rfl rfl rfl rfl rfl rfl rfl rfl rfl rfl (fun H hs=> OA.of (hs.get (i:=0) rfl) (Nat.le_of_ble_eq_true rfl)) rfl oM rfl dE (fun g' hn hl=> ?_));refine U7 ?_;exact Tc.db (ih ⟨(k+1,g'),by simp only;omega,by simp only[eN,hpk,if_true];rw[hl,g2];rfl⟩ (by simp only;omega))
theorem X2(a b:Int)(fv:Value)(J:Int->View->Prop)(D:View->Prop)(ha: -1000000000<=a)(hb:b<=1000000000)(h0:J a H)
  (hy:∀i H',a<=i->i<=b->J i H'->uB M fv [.int .i64 i] H' fun v H''=> (v=.bool true/\J (i+1) H'')\/(v=.bool false/\D H'')):
  bA M 154 #[FD a b,fv] H (fun _ H'=> ∃H₁,H₁.le H'/\((∃i,b<i/\a<=i/\(i=a\/i=b+1)/\J i H₁)\/D H₁)):=by
 refine .en func154 ntmps154 fun St c cs hK=> ?_;refine U2 ?_;refine .bo fun b1=> ?_;refine U8 ?_;refine Tc.db (Tc.NI (σ:= { s:Int×View//a<=s.1/\(s.1=a\/s.1<=b+1)/\J s.1 s.2 })
  (fun s=> (s.1.2,[(4,.int .i64 s.1.1),(1,fv),(2,.pointer (some ⟨b1,0,none⟩))],[(b1,true,.cells ⟨[.int .i64 a,.int .i64 b]⟩ 257 (0,0))])) (fun s=> (b+1-s.1.1).toNat) ?_ ⟨(a,H),by simp,by simp,h0⟩)
 rintro⟨⟨i,H₁⟩,g1,g2,g3⟩ ih;simp only at g1 g2 g3;show Tc M St _ _ H₁ _ [(4,.int .i64 i),(1,fv),(2,.pointer (some ⟨b1,0,none⟩))] [(b1,true,.cells ⟨[.int .i64 a,.int .i64 b]⟩ 257 (0,0))] _ _;by_cases c1:i<=b
 ·refine vQ ?_;refine To.vB rfl rfl rfl rfl rfl rfl dE (hy i H₁ g1 c1 g3) (fun v H₂ hv=> ?_);rcases hv with ⟨rfl,hv⟩|⟨rfl,hv⟩
  ·refine lD ?_;exact Tc.db (ih ⟨(i+1,H₂),by simp only;omega,by simp only;omega,hv⟩ (by simp only;omega))
  ·refine U3 ?_;refine .rt hK func154 results154 [] ?_;exact fun H' hs=> ⟨H₂,hs.base,.inr hv⟩
 ·refine lD ?_;refine .ov hK func154 results154 [] ?_;exact fun H' hs=> ⟨H₁,hs.base,.inl ⟨i,oM,g1,oM,g3⟩⟩
end
def sA(l:List Int):List Value:=l.map fun x=> .int .i64 x
def oT(l:List Int):Value:=.agg ⟨sA l⟩
def ZC(l:List Int)(k:Nat):List Int:=l.zipIdx.map fun x=> if x.2<k then x.1-l.headD 0 else x.1
theorem HA(l:List Int):(sA l).length=l.length:=by simp[sA]
theorem pF(l:List Int)(k:Nat):(ZC l k).length=l.length:=by simp[ZC]
theorem nF {l:List Int}{k i:Nat}{x:Int}(h:l[i]? =some x):(ZC l k)[i]? =some (if i<k then x-l.headD 0 else x):=by
 simp[ZC,h]
theorem nH {l:List Int}{i:Nat}{x:Int}(h:l[i]? =some x):(sA l)[i]? =some (.int .i64 x):=by simp[sA,h]
theorem DJ(l:List Value)(i:Nat)(v:Value)(h:i<l.length):HF l i [v]=l.set i v:=by
 unfold HF;rw[List.set_eq_take_append_cons_drop,if_pos h];simp
theorem six {l:List Int}(h:l.length=6):∃a b c d e f,l= [a,b,c,d,e,f]:=by
 match l,h with
 | [a,b,c,d,e,f],_=> exact⟨a,b,c,d,e,f,rfl⟩
theorem NR {l:List Int}{k:Nat}{x:Int}(h:l[k]? =some x):HF (sA (ZC l k)) k [.int .i64 (x-l.headD 0)]=sA (ZC l (k+1)):=by
 have hk:k<l.length:=(List.getElem?_eq_some_iff.1 h).1;rw[DJ _ _ _ (by rw[HA,pF];exact hk)];apply List.ext_getElem?
 intro i;by_cases e:k=i
 ·subst e;rw[List.getElem?_set_self (by rw[HA,pF];exact hk),nH (nF h),if_pos oM]
 ·rw[List.getElem?_set_ne e];cases hx:l[i]? with
  | none=>
   have h1:l.length<=i:=List.getElem?_eq_none_iff.1 hx;rw[List.getElem?_eq_none (by rw[HA,pF];exact h1),List.getElem?_eq_none (by rw[HA,pF];exact h1)]
  | some y=>
   rw[nH (nF hx),nH (nF hx)];by_cases e2:i<k
   ·rw[if_pos e2,if_pos oM]
   ·rw[if_neg e2,if_neg oM]
section
variable(M:Md prog)(H:View)
theorem y9(a:Option Addr)(m c:Nat)(l:List Value)(hm:m<=100000)(hs:OA H 1 (.slice a m c) m l)(h1:l.all single=true):bA M 234 #[.slice a m c] H (fun v H'=> H.le H'/\∃g:Gl 3 1,v=g.val/\g.l=l/\∀x∈g.bl,H' x.1=some x.2/\H x.1=none):=by
 refine .en func234 ntmps234 fun St c cs hK=> ?_;cases a with
 | none=>
  refine U8 ?_;refine .x (qA.VJ (E:=en) rfl rfl rfl rfl rfl) ?_;refine U6 ?_;refine .rt hK func234 results234 [_] ?_;refine fun H' hs'=> ⟨hs'.base,Gl.nil 3 1,rfl,?_,by simp[Gl.nil,Gl.bl]⟩
  obtain⟨_,h2,h3|⟨b,off,_,_,_,_,_,h3,_⟩⟩:=hs
  ·obtain⟨_,_,_,rfl⟩:=h3;rfl
  ·cases h3
 | some a=>
  refine U8 ?_;refine .x (qA.VJ (E:=en) rfl rfl rfl rfl rfl) ?_;refine U5 ?_;refine .e (.bs (zz:=fun bs=> ?_));refine U ?_;refine .e (Or.append (E:=en) (g:=Gl.emp 3 1 bs) 0 rfl rfl rfl rfl rfl rfl rfl rfl rfl rfl rfl rfl rfl rfl rfl (fun H' hs'=> hs.mono hs'.base) h1 (by show 0+m<=_;omega) rfl dE (fun g' hn hl=> ?_));refine U2 ?_;refine .rt hK func234 results234 [_] ?_;exact fun H' hs'=> ⟨hs'.base,g',rfl,by rw[hl];rfl,fun x hx=> ⟨hs'.at_ x hx,hs'.out x hx⟩⟩
theorem S8(l:List Int)(many:Nat)(h6:l.length=6)(hm:many<=6)(hb:∀x∈l, -1000000000<=x/\x<=1000000000):bA M 76 #[oT l,.int .i64 many] H (fun v H'=> H.le H'/\v=oT (ZC l many)):=by
 refine .en func76 ntmps76 fun St c cs hK=> ?_;obtain⟨x0,l',rfl⟩:∃x l',l=x::l':=by
  cases l with
  | nil=> cases h6
  | cons x l'=> exact⟨x,l',rfl⟩
 have z0:ZC (x0::l') 0=x0::l':=by
  unfold ZC;simp
 have hx0:=hb x0 (by simp);refine U2 ?_;refine .bo fun b2=> ?_;refine .al fun b4=> ?_;refine QE ?_;refine Tc.db (Tc.tA (σ:= { s:Nat×List Int//s.1<=many/\s.2=ZC (x0::l') s.1 })
  (fun s=> ([(10,.int .i64 (s.1.1:Nat)),(9,.int .i64 many),(5,.int .i64 x0),(2,.pointer (some ⟨b2,0,none⟩)),(4,.pointer (some ⟨b4,0,none⟩))],
   [(b4,true,.cells ⟨[.int .i64 0,.int .i64 0,.int .i64 0,.int .i64 0,.int .i64 0,.int .i64 0]⟩ 139 (0,0)),(b2,true,.cells ⟨sA s.1.2⟩ 139 (0,0))])) (fun s=> many-s.1.1) ?_ ⟨(0,x0::l'),by simp,z0.symm⟩)
 rintro⟨⟨k,cur⟩,g1,g2⟩ ih;simp only at g1 g2;have nB:(sA cur).length=6:=by rw[HA,g2,pF];exact h6
 show Tc M St _ _ _ _ [(10,.int .i64 (k:Nat)),(9,.int .i64 many),(5,.int .i64 x0),(2,.pointer (some ⟨b2,0,none⟩)),(4,.pointer (some ⟨b4,0,none⟩))]
   [(b4,true,.cells ⟨[.int .i64 0,.int .i64 0,.int .i64 0,.int .i64 0,.int .i64 0,.int .i64 0]⟩ 139 (0,0)),(b2,true,.cells ⟨sA cur⟩ 139 (0,0))] _ _
 by_cases c1:k=many
 ·subst c1;obtain⟨y0,y1,y2,y3,y4,y5,hy⟩:=six (show cur.length=6 by rw[<-HA];exact nB);subst hy;refine NF ?_;refine .rt hK func76 results76 [_] ?_;exact fun H' hs=> ⟨hs.base,by rw[<-g2];rfl⟩
 ·have c2:k<many:=by omega
  obtain⟨x,hx⟩:∃x,(x0::l')[k]? =some x:=⟨_,List.getElem?_eq_getElem (by rw[h6];omega)⟩
  have hxb:=hb x (List.mem_of_getElem? hx);have hcx:cur[k]? =some x:=by rw[g2,nF hx,if_neg oM]
  have f1:gD false 1 (sA cur) (0+(k:Int).toNat*1)=some (.int .i64 x):=by
   show(sA cur)[0+(k:Int).toNat*1]? =_;rw[show 0+(k:Int).toNat*1=k by simp];exact nH hcx
  have f2:HF (sA cur) (0+(k:Int).toNat*1) [.int .i64 (x-x0)]=sA (ZC (x0::l') (k+1)):=by
   rw[show 0+(k:Int).toNat*1=k by simp,g2];exact NR hx
  have f3:Nat.ble (0+(k:Int).toNat*1+1) (sA cur).length=true:=Nat.ble_eq_true_of_le (by rw[nB];simp;omega);refine U28 ?_;exact Tc.db (ih ⟨(k+1,ZC (x0::l') (k+1)),by simp only;omega,rfl⟩ (by simp only;omega))
end
def ZG(place number send lean:Int):Int:=2*place*send+if number%2=0 then -lean else lean
def seenAt(ps:List Nat)(mv:List Int)(send lean:Int)(i:Nat):Int:=ZG ((ps[i]?.getD 0:Nat):Int) i send lean+mv[i]?.getD 0
def TC(ps:List Nat)(mv:List Int)(send lean:Int)(k:Nat):List Int:=(List.range 6).map fun i=> if i<k then seenAt ps mv send lean i else 0
theorem bF(ps:List Nat)(mv:List Int)(send lean:Int)(k:Nat):(TC ps mv send lean k).length=6:=by simp[TC]
theorem vV {ps:List Nat}{mv:List Int}{send lean:Int}{k:Nat}(hk:k<6):HF (sA (TC ps mv send lean k)) k [.int .i64 (seenAt ps mv send lean k)]=sA (TC ps mv send lean (k+1)):=by
 rw[DJ _ _ _ (by rw[HA,bF];exact hk)];apply List.ext_getElem?
 intro i;by_cases e:k=i
 ·subst e;rw[List.getElem?_set_self (by rw[HA,bF];exact hk)];simp[sA,TC,hk]
 ·rw[List.getElem?_set_ne e];by_cases hi:i<6
  ·simp only[sA,TC,List.getElem?_map,List.getElem?_range hi,Option.map_some];by_cases e2:i<k
   ·rw[if_pos e2,if_pos oM]
   ·rw[if_neg e2,if_neg oM]
  ·rw[List.getElem?_eq_none (by rw[HA,bF];omega),List.getElem?_eq_none (by rw[HA,bF];omega)]
section
variable(M:Md prog)(H:View)
theorem mT(place number send lean:Int)(h1:0<=place)(h2:place<=6)(h3:0<=number)(h4:0<=send)(h5:send<=1000)(h6: -1000<=lean)(h7:lean<=1000):
  bA M 162 #[.agg ⟨[.int .i64 place,.int .i64 number]⟩,.int .i64 send,.int .i64 lean] H (fun v H'=> H.le H'/\v=.int .i64 (ZG place number send lean)):=by
 refine .en func162 ntmps162 fun St c cs hK=> ?_;have h8:0<=2*place*send:=Int.mul_nonneg oM h4;have h9:2*place*send<=12*1000:=Int.mul_le_mul oM h5 h4 oM;refine U2 ?_;refine .bo fun b1=> ?_;refine U2 ?_;by_cases h:number%2=0
 ·refine U5 ?_;refine .i ?_ (z:=rem_in oM oM);refine U5 ?_;refine .x .ng ?_;refine U6 ?_;refine .i ?_ (z:=iD oM oM);refine U ?_;refine .i ?_ (z:=iD oM oM);refine U4 ?_;refine .rt hK func162 results162 [_] ?_;exact fun H' hs=> ⟨hs.base,by simp[cC,ZG,h] <;> omega⟩
 ·refine U5 ?_;refine .i ?_ (z:=rem_in oM oM);refine U8 ?_;refine .i ?_ (z:=iD oM oM);refine U ?_;refine .i ?_ (z:=iD oM oM);refine U4 ?_;refine .rt hK func162 results162 [_] ?_;exact fun H' hs=> ⟨hs.base,by simp[cC,ZG,h] <;> omega⟩
theorem ML {place number send lean:Int}(h1:0<=place)(h2:place<=6)(h4:0<=send)(h5:send<=1000)(h6: -1000<=lean)(h7:lean<=1000): -1000<=ZG place number send lean/\ZG place number send lean<=13000:=by
 have h8:0<=2*place*send:=Int.mul_nonneg oM h4;have h9:2*place*send<=12*1000:=Int.mul_le_mul oM h5 h4 oM;unfold ZG;split <;> omega
theorem aDy(code send read lean:Int)(ps:List Nat)(mv:List Int)(eb eo ec vb vo vc:Nat)(f1 f2:Bool)(es vs:List Value)(et vt:TypeId)(ez vz:Nat×Nat)
  (hE:H eb=some (f1,.cells ⟨es⟩ et ez)) (P4:∀i:Nat,i<ps.length->gD true 2 es (eo+i*2)=some (.agg ⟨[.int .i64 ((ps[i]?.getD 0:Nat):Int),.int .i64 (i:Nat)]⟩))
  (hV:H vb=some (f2,.cells ⟨vs⟩ vt vz)) (hV2:∀i:Nat,i<ps.length->gD false 1 vs (vo+i*1)=some (.int .i64 (mv[i]?.getD 0)))
  (hp:ps.length<=6) (hp6:∀i:Nat,i<ps.length->ps[i]?.getD 0<=6) (hmv:∀i:Nat, -1000<=mv[i]?.getD 0/\mv[i]?.getD 0<=1000) (h4:0<=send) (h5:send<=1000) (h6: -1000<=lean) (h7:lean<=1000) (ml:Nat) (GK:ps.length<=ml):
  bA M 75 #[.agg ⟨[.int .i64 code,.slice (some ⟨eb,eo,none⟩) ps.length ec]⟩,.agg ⟨[.int .i64 send,.int .i64 read,.int .i64 lean,.slice (some ⟨vb,vo,none⟩) ml vc]⟩] H (fun v H'=> H.le H'/\v=oT (TC ps mv send lean ps.length)):=by
 refine .en func75 ntmps75 fun St c cs hK=> ?_;refine U2 ?_;refine .bo fun b2=> ?_;refine .bo fun b3=> ?_;refine .al fun b4=> ?_;refine U3 ?_;refine .al fun b5=> ?_;refine lD ?_;refine Tc.db (Tc.tA (σ:= { s:Nat×List Int//s.1<=ps.length/\s.2=TC ps mv send lean s.1 })
  (fun s=> ([(11,.int .i64 (s.1.1:Nat)),(10,.int .i64 ps.length),(9,.slice (some ⟨eb,eo,none⟩) ps.length ec),(2,.pointer (some ⟨b2,0,none⟩)),(3,.pointer (some ⟨b3,0,none⟩)),(4,.pointer (some ⟨b4,0,none⟩)),(5,.pointer (some ⟨b5,0,none⟩))],
   [(b5,true,.cells ⟨sA s.1.2⟩ 139 (0,0)),(b4,true,.cells ⟨[.int .i64 0,.int .i64 0,.int .i64 0,.int .i64 0,.int .i64 0,.int .i64 0]⟩ 139 (0,0)),
    (b3,true,.cells ⟨[.int .i64 send,.int .i64 read,.int .i64 lean,.slice (some ⟨vb,vo,none⟩) ml vc]⟩ 74 (0,0)),(b2,true,.cells ⟨[.int .i64 code,.slice (some ⟨eb,eo,none⟩) ps.length ec]⟩ 135 (0,0))])) (fun s=> ps.length-s.1.1) ?_ ⟨(0,[0,0,0,0,0,0]),by simp,rfl⟩)
 rintro⟨⟨k,cur⟩,g1,g2⟩ ih;simp only at g1 g2;have nB:(sA cur).length=6:=by rw[HA,g2,bF]
 show Tc M St _ _ _ _ [(11,.int .i64 (k:Nat)),(10,.int .i64 ps.length),(9,.slice (some ⟨eb,eo,none⟩) ps.length ec),(2,.pointer (some ⟨b2,0,none⟩)),(3,.pointer (some ⟨b3,0,none⟩)),(4,.pointer (some ⟨b4,0,none⟩)),(5,.pointer (some ⟨b5,0,none⟩))]
   [(b5,true,.cells ⟨sA cur⟩ 139 (0,0)),(b4,true,.cells ⟨[.int .i64 0,.int .i64 0,.int .i64 0,.int .i64 0,.int .i64 0,.int .i64 0]⟩ 139 (0,0)),
    (b3,true,.cells ⟨[.int .i64 send,.int .i64 read,.int .i64 lean,.slice (some ⟨vb,vo,none⟩) ml vc]⟩ 74 (0,0)),(b2,true,.cells ⟨[.int .i64 code,.slice (some ⟨eb,eo,none⟩) ps.length ec]⟩ 135 (0,0))] _ _
 by_cases c1:k=ps.length
 ·obtain⟨y0,y1,y2,y3,y4,y5,hy⟩:=six (show cur.length=6 by rw[<-HA];exact nB);subst hy;refine NF ?_;refine .rt hK func75 results75 [_] ?_;exact fun H' hs=> ⟨hs.base,by rw[<-c1,<-g2];rfl⟩
 ·have c2:k<ps.length:=by omega
  have k1:(k:Int).toNat=k:=by simp
  have f0:=P4 k c2;have f1:gD true 2 es (eo+(k:Int).toNat*2)=some (.agg ⟨[.int .i64 ((ps[k]?.getD 0:Nat):Int),.int .i64 (k:Nat)]⟩):=by rw[k1];exact f0
  have f4:gD false 1 vs (vo+(k:Int).toNat*1)=some (.int .i64 (mv[k]?.getD 0)):=by rw[k1];exact hV2 k c2
  have f2:HF (sA cur) (0+(k:Int).toNat*1) [.int .i64 (ZG ((ps[k]?.getD 0:Nat):Int) (k:Nat) send lean+mv[k]?.getD 0)]=sA (TC ps mv send lean (k+1)):=by
   rw[show 0+(k:Int).toNat*1=k by simp,g2];exact vV oM
  have f3:Nat.ble (0+(k:Int).toNat*1+1) (sA cur).length=true:=Nat.ble_eq_true_of_le (by rw[nB];simp;omega);have b6:=hp6 k c2;have b7:=hmv k;have b8:=ML (place:=((ps[k]?.getD 0:Nat):Int)) (number:=(k:Nat)) oM oM h4 h5 h6 h7;refine QE ?_;refine .al fun b7=> ?_;refine U3 ?_;refine Tc.dr [14] [1] mixed rfl ?_;refine V6 0 ?_;refine .z 6 rfl (qA.tk fun H hs=> mT M H (ps[k]?.getD 0:Nat) k send lean oM oM oM h4 h5 h6 h7) ?_;refine V7 7 ?_;refine .e 14 1 ?_;refine .dn ?_;refine U5 ?_;exact Tc.db (ih ⟨(k+1,TC ps mv send lean (k+1)),by simp only;omega,rfl⟩ (by simp only;omega))
end
def HG(p i:Nat):Value:=.agg ⟨[.int .i64 (p:Nat),.int .i64 (i:Nat)]⟩
theorem jH(p i:Nat):flat en 2 270 [.int .i64 (p:Nat),.int .i64 (i:Nat)]:=by
 refine⟨rfl,?_⟩;intro f hf;simp only[List.mem_cons,List.not_mem_nil,or_false] at hf;rcases hf with rfl|rfl
 ·exact⟨⟨_,rfl⟩,_,rfl,rfl,Nat.le_of_ble_eq_true rfl⟩
 ·exact⟨⟨_,rfl⟩,_,rfl,rfl,Nat.le_of_ble_eq_true rfl⟩
theorem yO(p i:Nat):JE en 2 270 (HG p i):=⟨_,_,rfl,rfl,jH p i⟩
theorem wZ {p i q j:Nat}:HG p i=HG q j<->p=q/\i=j:=by
 simp only[HG,Value.agg.injEq,Array.mk.injEq,List.cons.injEq,Value.int.injEq,true_and,and_true];omega
theorem aAY:prog.eqGuardType prog.depth 270=false:=by kernel_rfl
def KF(read mt after:Int):Nat->Int->List (Int×Int)
 | 0,_=> []
 | f+1,n=> if n<=mt then(bB read (after+n),n)::(if bB read (after+n)=7 then [] else KF read mt after f ((2*bB read (after+n)+1)*read+1-after)) else []
def yB(l:List (Int×Int)):List Value:=(l.map fun x=> [Value.int .i64 x.1,Value.int .i64 x.2]).flatten
theorem kN(pace after:Int):∀(f:Nat) (n:Int),n<=oC pace after f n/\oC pace after f n<=n+f/\(oC pace after f n<n+f->after<=(2*oC pace after f n+1)*pace)
 | 0,n=> ⟨by simp[oC],by simp[oC],fun h=> by simp[oC] at h⟩
 | f + 1,n=> by
  unfold oC;split
  ·obtain⟨h1,h2,h3⟩:=kN pace after f (n+1);exact⟨oM,oM,fun h=> h3 oM⟩
  ·rename_i h
   exact⟨oM,oM,fun _=> by omega⟩
theorem nC(pace after:Int):0<=bB pace after/\bB pace after<=7/\(bB pace after≠7->after<=(2*bB pace after+1)*pace):=by
 obtain⟨h1,h2,h3⟩:=kN pace after 7 0;exact⟨h1,by unfold bB;omega,fun h=> h3 (by have:=h2;simp only[bB] at h;omega)⟩
structure TA where
 code:Nat
 ps:List Nat
 send:Int
 read:Int
 lean:Int
 first:Int
 mf:Int
 mt:Int
def TA.after(s:TA)(p i:Nat):Int:=ZG p i s.send s.lean-ZG ((s.ps[0]?.getD 0:Nat):Int) 0 s.send s.lean-s.first
def TA.opts(s:TA)(p i:Nat):List (Int×Int):=if i=0 then [(0,s.first)] else KF s.read s.mt (s.after p i) (s.mt+1-s.mf).toNat s.mf
structure TA.Ok(s:TA):Prop where
 code:s.code<32
 ps0:0<s.ps.length
 ps6:s.ps.length<=6
 places:∀i:Nat,i<s.ps.length->s.ps[i]?.getD 0<=6
 send:0<=s.send/\s.send<=1000
 read:0<=s.read/\s.read<=1000
 lean: -1000<=s.lean/\s.lean<=1000
 first: -1000<=s.first/\s.first<=1000
 mf: -1000<=s.mf/\s.mf<=1000
 mt:s.mt<=1000
def TA.val(s:TA)(eb ec mb:Nat):Value:=.agg ⟨[.int .i64 s.code,.slice (some ⟨eb,0,none⟩) s.ps.length ec,.int .i64 s.send,.int .i64 s.read,.int .i64 s.lean,.int .i64 s.first,.int .i64 s.mf,.int .i64 s.mt,.map (some mb)]⟩
def nJ(H:View)(s:TA)(eb:Nat):Prop:=
 ∃f es et ez,H eb=some (f,.cells ⟨es⟩ et ez)/\∀i:Nat,i<s.ps.length->gD true 2 es (0+i*2)=some (HG (s.ps[i]?.getD 0) i)
def MK(H:View)(s:TA)(es:List MapEntry):Prop:=∀e∈es,∃p i:Nat,e.key=HG p i/\OA H 2 e.val (s.opts p i).length (yB (s.opts p i))
theorem MK.keys {H:View}{s:TA}{es:List MapEntry}(h:MK H s es):∀e∈es,JE en 2 270 e.key:=fun e he=> by
 obtain⟨p,i,hk,_⟩:=h e he;rw[hk];exact yO p i
theorem rF {P:Program}{M:Md P}{St:View->Goroutine->Prop}{n:Nat}{b:FB}{H₀:View}{cs:List Frame}{R:Rg}{L:Bl}{ds:List Deferred}{k:List Item}{id:Nat}{x:Code}(F:Rg->Bl->Prop)(hF:∀R L,F R L->Tc M St n b H₀ cs R L ds k)
 (h:(∀R L,F R L->Tc M St n b H₀ cs R L ds k)->Tc M St n b H₀ cs R L ds (.code x:: .inBlock id::k)):Tc M St n b H₀ cs R L ds (.code (.block id x)::k):=.block (h hF)
theorem PH(l:List (Int×Int)):(yB l).length=l.length*2:=by
 induction l with
 | nil=> rfl
 | cons x l ih=> simp only[yB,List.map_cons,List.flatten_cons,List.length_append,List.length_cons,List.length_nil] at ih ⊢;omega
theorem bK(x:Int×Int)(l:List (Int×Int)):yB (x::l)= [.int .i64 x.1,.int .i64 x.2]++yB l:=by simp[yB]
theorem O4 {e:TypeId}{sz:Nat}(g:Gl e sz):g.bl= []\/∃b x,g.bl= [(b,x)]:=by
 unfold Gl.bl;cases g.blk with
 | none=> exact .inl rfl
 | some b=> exact .inr ⟨b,_,rfl⟩
theorem sU {H H':View}{mb:Nat}{L:Bl}{i j b:Nat}{x y:Bool×Obj}(hs:gA (H.JC mb) L H')(hi:L[i]? =some (b,x))(hj:L[j]? =some (mb,y))(qS:i≠j):H b=none/\b≠mb:=by
 have xB:b≠mb:=by
  rintro rfl;exact qS (OH hs.nodup hi hj)
 have h1:=hs.out _ (List.mem_of_getElem? hi);rw[PA xB] at h1;exact⟨h1,xB⟩
theorem MK.mono {H H':View}{s:TA}{l:List MapEntry}(h:MK H s l)(k:H.le H'):MK H' s l:=fun e he=> by
 obtain⟨p,i,h1,h2⟩:=h e he;exact⟨p,i,h1,h2.mono k⟩
def VP(s:TA)(p i mb:Nat)(Hm H:View)(v:Value)(H':View):Prop:=
 (∀b x,b≠mb->H b=some x->H' b=some x)/\∃Hm' es' cl',Hm'.le H'/\(∀b x,Hm' b=some x->Hm b=some x\/H b=none)/\Hm.le Hm'/\Hm' mb=none/\
  OA Hm' 2 v (s.opts p i).length (yB (s.opts p i))/\H' mb=some (true,.map es' cl')/\MK Hm' s es'.toList
theorem VP.put {s:TA}{p i mb b:Nat}{x:Bool×Obj}{Hm H H':View}{v:Value}{es':Array MapEntry}{cl':Nat}(h1:∀b x,b≠mb->H b=some x->H' b=some x)(hle:Hm.le H)(AT:Hm mb=none)(hb:H b=none)(xB:b≠mb)(hx:H' b=some x)
  (h2:OA (Hm.put b x) 2 v (s.opts p i).length (yB (s.opts p i))) (h3:H' mb=some (true,.map es' cl')) (h4:MK (Hm.put b x) s es'.toList):VP s p i mb Hm H v H':=by
 have hn:Hm b=none:=by
  cases h:Hm b with
  | none=> rfl
  | some y=> rw[hle _ _ h] at hb;cases hb
 refine⟨h1,Hm.put b x,es',cl',fun c y hc=> ?_,fun c y hc=> ?_,View.ES x hn,by rw[View.vA _ _ (Ne.symm xB)];exact AT,h2,h3,h4⟩
 ·by_cases e:c=b
  ·subst e;rw[View.LA] at hc;cases hc
   exact hx
  ·rw[View.vA _ _ e] at hc;exact h1 c y (fun e=> by rw[e,AT] at hc;cases hc) (hle _ _ hc)
 ·by_cases e:c=b
  ·subst e;exact .inr hb
  ·rw[View.vA _ _ e] at hc;exact .inl hc
theorem VP.same {s:TA}{p i mb:Nat}{Hm H H':View}{v:Value}{es':Array MapEntry}{cl':Nat}(h1:∀b x,b≠mb->H b=some x->H' b=some x)(hle:Hm.le H)(AT:Hm mb=none)
  (h2:OA Hm 2 v (s.opts p i).length (yB (s.opts p i))) (h3:H' mb=some (true,.map es' cl')) (h4:MK Hm s es'.toList):VP s p i mb Hm H v H':=
 ⟨h1,Hm,es',cl',fun c y hc=> h1 c y (fun e=> by rw[e,AT] at hc;cases hc) (hle _ _ hc),fun _ _ h=> .inl h,View.le_refl _,AT,h2,h3,h4⟩
section
variable(M:Md prog)(H:View)
theorem XZ(s:TA)(ZB:s.Ok)(eb ec mb:Nat)(es:Array MapEntry)(cl p i:Nat)(hE:nJ H s eb)(hM:H mb=some (true,.map es cl))(Hm:View)(hm:MK Hm s es.toList)(hle:Hm.le H)(AT:Hm mb=none)(hi:i<s.ps.length)(hp:p=s.ps[i]?.getD 0):
  bA M 283 #[s.val eb ec mb,HG p i] H (VP s p i mb Hm H):=by
 obtain⟨f,ec',et,ez,O9,P4⟩:=hE;have xB:eb≠mb:=by rintro rfl;rw[O9] at hM;cases hM
 have hE0:(H.JC mb) eb=some (f,.cells ⟨ec'⟩ et ez):=by rw[PA xB];exact O9
 have hq:=P4 0 ZB.ps0;have yY:∀(H':View),(H.JC mb).le H'->∀b x,b≠mb->H b=some x->H' b=some x:=fun H' hle b x hb hx=> hle b x (by rw[PA hb];exact hx);refine bA.enter (vs:= [s.val eb ec mb,HG p i]) func283 rfl ntmps283 (Nat.le_of_ble_eq_true rfl) (gA.pull hM) fun St c cs hK=> ?_;refine U2 ?_;refine .bo fun b2=> ?_;refine .bo fun b3=> ?_;refine U4 ?_;have KN:decide (i=0)=true<-> [Value.int .i64 (p:Nat),.int .i64 (i:Nat)]= [.int .i64 ((s.ps[0]?.getD 0:Nat):Int),.int .i64 ((0:Nat):Int)]:=by
  simp only[decide_eq_true_eq,List.cons.injEq,Value.int.injEq,true_and,and_true];constructor
  ·rintro rfl;rw[hp];simp
  ·rintro⟨_,h⟩;omega
 by_cases OW:i=0
 ·subst OW;refine Tc.dr [] [] mixed rfl ?_;refine V6 0 ?_;refine .q 6 rfl (qA.eqA (E:=en) true 2 rfl rfl rfl rfl rfl aAY dE (jH p 0) (jH (s.ps[0]?.getD 0) 0) KN) ?_;refine .dn ?_;refine U6 ?_;refine .e (.bs (zz:=fun bs=> ?_));refine U2 ?_;refine .rt hK func283 results283 [_] ?_;intro H' hs;obtain⟨f1,f2⟩:=sU hs (i:=0) (j:=3) rfl rfl dE;have hn:Hm bs=none:=by
   cases h:Hm bs with
   | none=> rfl
   | some y=> rw[hle _ _ h] at f1;cases f1
  exact VP.put (yY H' hs.base) hle AT f1 f2 (hs.get (i:=0) rfl) ⟨⟨_,_,rfl⟩,rfl,.inr ⟨bs,0,1,true,_,_,_,rfl,View.LA ..,Nat.le_of_ble_eq_true rfl,rfl⟩⟩ (hs.get (i:=3) rfl) (hm.mono (View.ES _ hn))
 ·rw[decide_eq_false OW] at KN;refine Tc.dr [] [] mixed rfl ?_;refine V6 0 ?_;refine .q 6 rfl (qA.eqA (E:=en) false 2 rfl rfl rfl rfl rfl aAY dE (jH p i) (jH (s.ps[0]?.getD 0) 0) KN) ?_;refine .dn ?_;refine U7 ?_;refine .e (Or.lookup (E:=en) 2 rfl rfl rfl (fun H' hs=> ⟨true,hs.get (i:=2) rfl⟩) rfl rfl rfl dE (yO p i) hm.keys rfl dE (fun r hr=> ?_));cases r with
  | some x=>
   obtain⟨j,v⟩:=x;obtain⟨e,h1,h2,rfl⟩:=hr;obtain⟨q,k,h3,h4⟩:=hm e (List.mem_of_getElem? h1);rw[h2] at h3;obtain⟨rfl,rfl⟩:=wZ.1 h3;refine OK ?_;refine .rt hK func283 results283 [_] ?_;exact fun H' hs=> VP.same (yY H' hs.base) hle AT h4 (hs.get (i:=2) rfl) hm
  | none=>
   have p1:=ZB.places i hi;rw[<-hp] at p1;have p0:=ZB.places 0 ZB.ps0;obtain⟨s1,s2⟩:=ZB.send;obtain⟨l1,l2⟩:=ZB.lean;obtain⟨q1,q2⟩:=ZB.first;have b1:=ML (place:=(p:Nat)) (number:=(i:Nat)) oM oM s1 s2 l1 l2;have b0:=ML (place:=((s.ps[0]?.getD 0:Nat):Int)) (number:=0) oM oM s1 s2 l1 l2;refine QE ?_;refine Tc.dr [] [] mixed rfl ?_;refine V5 0 ?_;refine .z 5 rfl (qA.tk fun H hs=> mT M H p i s.send s.lean oM oM oM s1 s2 l1 l2) ?_;refine V9 6 ?_;refine .z 15 rfl (qA.tk fun H hs=> mT M H (s.ps[0]?.getD 0:Nat) 0 s.send s.lean oM oM oM s1 s2 l1 l2) ?_;refine V5 16 ?_;refine .dn ?_;refine U8 ?_;have w1: -16000<=s.after p i/\s.after p i<=16000:=by unfold TA.after;omega
   have aEC:s.opts p i=KF s.read s.mt (s.after p i) (s.mt+1-s.mf).toNat s.mf:=by unfold TA.opts;rw[if_neg OW]
   have mf1:=ZB.mf;have mt1:=ZB.mt;obtain⟨r1,r2⟩:=ZB.read;refine rF (fun R' L'=> ∃g:Gl 376 2,g.l=yB (s.opts p i)/\R'= [(5,g.val),(2,.pointer (some ⟨b2,0,none⟩)),(3,.pointer (some ⟨b3,0,none⟩))]/\
    L'=(b3,true,.cells ⟨(HG p i).cells.toList⟩ 270 (0,0))::(b2,true,.cells ⟨(s.val eb ec mb).cells.toList⟩ 331 (0,0))::(mb,true,.map es cl)::g.bl) ?_ (fun fin=> ?_)
   ·rintro _ _ ⟨g,hg,rfl,rfl⟩;refine U6 ?_;refine .e (Or.mapUpdate (E:=en) 2 2 rfl rfl rfl rfl rfl rfl rfl dE (yO p i) hm.keys rfl (fun r uE=> ?_));refine U6 ?_;refine .rt hK func283 results283 [_] ?_;intro H' hs;have hlen:g.n=(s.opts p i).length:=by
     have h3:=g.hl;rw[hg,PH] at h3;omega
    have jG:∀Hv:View,(∀y∈g.bl,Hv y.1=some y.2)->OA Hv 2 g.val (s.opts p i).length (yB (s.opts p i)):=fun Hv hv=> by
     have h1:=g.src (H:=Hv) hv;rw[hlen,hg] at h1;exact h1
    cases r with
    | some x=>
     obtain⟨j,w⟩:=x;obtain⟨e,h1,h2,_⟩:=uE;exact absurd h2 (hr e (List.mem_of_getElem? h1))
    | none=>
     have lE:∀Hv:View,Hm.le Hv->OA Hv 2 g.val (s.opts p i).length (yB (s.opts p i))->MK Hv s (es.push ⟨HG p i,g.val,cl⟩).toList:=fun Hv hv hsv e he=> by
      simp only[Array.toList_push,List.mem_append,List.mem_singleton] at he;rcases he with he|rfl
      ·exact hm.mono hv e he
      ·exact⟨p,i,rfl,hsv⟩
     rcases O4 g with h0|⟨gb,gx,h0⟩
     ·have h5:=jG Hm (by rw[h0];simp);exact VP.same (yY H' hs.base) hle AT h5 (hs.get (i:=2) rfl) (lE Hm (View.le_refl _) h5)
     ·rw[h0] at hs;obtain⟨f1,f2⟩:=sU hs (i:=3) (j:=2) rfl rfl dE;have hn:Hm gb=none:=by
       cases h:Hm gb with
       | none=> rfl
       | some y=> rw[hle _ _ h] at f1;cases f1
      have h5:=jG (Hm.put gb gx) (by rw[h0];simp[View.LA]);exact VP.put (yY H' hs.base) hle AT f1 f2 (hs.get (i:=3) rfl) h5 (hs.get (i:=2) rfl) (lE _ (View.ES _ hn) h5)
   ·refine Tc.db (Tc.tA (σ:= { x:Int×Nat×Gl 376 2 // -1000<=x.1/\x.1<=40000/\(s.mt+1-x.1).toNat<=x.2.1/\x.2.2.n+x.2.1<=5000/\x.2.2.l++yB (KF s.read s.mt (s.after p i) x.2.1 x.1)=yB (s.opts p i) })
     (fun x=> ([(8,.int .i64 x.1.1),(7,.int .i64 (s.after p i)),(5,x.1.2.2.val),(2,.pointer (some ⟨b2,0,none⟩)),(3,.pointer (some ⟨b3,0,none⟩))],
      (b3,true,.cells ⟨(HG p i).cells.toList⟩ 270 (0,0))::(b2,true,.cells ⟨(s.val eb ec mb).cells.toList⟩ 331 (0,0))::(mb,true,.map es cl)::x.1.2.2.bl)) (fun x=> x.1.2.1) ?_
     ⟨(s.mf,(s.mt+1-s.mf).toNat,Gl.nil 376 2),mf1.1,by show s.mf<=_;omega,Nat.le_refl _,by show 0+(s.mt+1-s.mf).toNat<=_;omega,by rw[aEC];rfl⟩)
    rintro⟨⟨n,f,g⟩,g1,g2,g3,g4,g5⟩ ih;simp only at g1 g2 g3 g4 g5;show Tc M St _ _ _ _ [(8,.int .i64 n),(7,.int .i64 (s.after p i)),(5,g.val),(2,.pointer (some ⟨b2,0,none⟩)),(3,.pointer (some ⟨b3,0,none⟩))]
      ((b3,true,.cells ⟨(HG p i).cells.toList⟩ 270 (0,0))::(b2,true,.cells ⟨(s.val eb ec mb).cells.toList⟩ 331 (0,0))::(mb,true,.map es cl)::g.bl) _ _
    by_cases c1:n<=s.mt
    ·obtain⟨f,rfl⟩:∃f',f=f'+1:=⟨f-1,oM⟩
     obtain⟨m1,m2,m3⟩:=nC s.read (s.after p i+n);have hc:=gP M H s.read (s.after p i+n) oM oM;unfold KF at g5;rw[if_pos c1,bK,<-List.append_assoc] at g5;generalize hmm:bB s.read (s.after p i+n)=m at m1 m2 m3 g5;have x1:0<=(2*m+1)*s.read:=Int.mul_nonneg oM oM;have x2:(2*m+1)*s.read<=15*1000:=Int.mul_le_mul oM r2 oM oM;refine YP ?_;refine .cl (fun H hs=> hmm▸gP M H s.read (s.after p i+n) oM oM) ?_;refine U2 ?_;refine .al fun b9=> ?_;refine U6 ?_;refine .e (.bs (zz:=fun bs=> ?_));refine .e (Or.append (E:=en) 5 rfl rfl rfl rfl rfl rfl rfl rfl rfl rfl rfl rfl rfl rfl rfl (fun H hs=> OA.of (hs.get (i:=0) rfl) (Nat.le_of_ble_eq_true rfl)) rfl oM rfl dE (fun g' hn hl=> ?_));refine U2 ?_;have J1:g'.l=g.l++[.int .i64 m,.int .i64 n]:=hl;refine U2 ?_;by_cases c7:m=7
     ·subst c7;rw[if_pos rfl] at g5;have XD:g'.l=yB (s.opts p i):=by
       rw[J1,<-g5];simp[yB]
      refine U7 ?_;have hf:=fin _ _ ⟨g',XD,rfl,rfl⟩;exact Tc.db hf
     ·rw[if_neg c7] at g5;refine lD ?_;refine .i ?_ (z:=iD oM oM);refine U3 ?_;refine .i ?_ (z:=iD oM oM);refine U6 ?_;have x3:=m3 c7;exact Tc.db (ih ⟨((2*m+1)*s.read+1-s.after p i,f,g'),by simp only;omega,by simp only;omega,by simp only;omega,by simp only;omega,by simp only;rw[J1];exact g5⟩ (by simp))
    ·have c2:KF s.read s.mt (s.after p i) f n= []:=by
      cases f with
      | zero=> rfl
      | succ f=> unfold KF;rw[if_neg c1]
     rw[c2] at g5;refine PE ?_;exact Tc.db (fin _ _ ⟨g,by simpa [yB] using g5,rfl,rfl⟩)
end
structure Lk where
 s0:Int
 s1:Int
 r0:Int
 r1:Int
 l0:Int
 l1:Int
 m0:Int
 m1:Int
def Lk.val(k:Lk):Value:=.agg ⟨[.int .i64 k.s0,.int .i64 k.s1,.int .i64 k.r0,.int .i64 k.r1,.int .i64 k.l0,.int .i64 k.l1,.int .i64 k.m0,.int .i64 k.m1]⟩
def xK(a b:Int):Bool:=decide (1<=a/\a<=b/\b<=40/\b-a<3)
def nG(a b:Int):Bool:=decide (-9<=a/\a<=b/\b<=9/\b-a<3)
def UG(a b:Int):Bool:=decide (-12<=a/\a<=b/\b<=12/\b-a<25)
def Lk.sends(k:Lk):Bool:=xK k.s0 k.s1
def Lk.reads(k:Lk):Bool:=xK k.r0 k.r1
def Lk.HY(k:Lk):Bool:=nG k.l0 k.l1
def Lk.mN(k:Lk):Bool:=UG k.m0 k.m1
section
variable(M:Md prog)(H:View)
theorem WQ(a b:Int):bA M 367 #[FD a b] H (fun v H'=> H.le H'/\v=.bool (decide (1<=a/\a<=b/\b<=40/\b-a<3))):=by
 refine .en func367 ntmps367 fun St c cs hK=> ?_;refine U2 ?_;refine .bo fun b1=> ?_;refine U5 ?_;refine .cl (fun H hs=> ED M H a b) ?_;refine .cl (fun H hs=> OP M H a b 1 40 3 oM oM) ?_;refine U2 ?_;refine .rt hK func367 results367 [_] ?_;exact okB
theorem aAx(k:Lk):bA M 363 #[k.val] H (fun v H'=> H.le H'/\v=.bool k.sends):=by
 refine .en func363 ntmps363 fun St c cs hK=> ?_;refine U2 ?_;refine .bo fun b1=> ?_;refine U7 ?_;refine .cl (fun H hs=> WQ M H k.s0 k.s1) ?_;refine U2 ?_;refine .rt hK func363 results363 [_] ?_;exact okB
theorem aAv(k:Lk):bA M 364 #[k.val] H (fun v H'=> H.le H'/\v=.bool k.reads):=by
 refine .en func364 ntmps364 fun St c cs hK=> ?_;refine U2 ?_;refine .bo fun b1=> ?_;refine U7 ?_;refine .cl (fun H hs=> WQ M H k.r0 k.r1) ?_;refine U2 ?_;refine .rt hK func364 results364 [_] ?_;exact okB
theorem aAd(k:Lk):bA M 354 #[k.val] H (fun v H'=> H.le H'/\v=.bool k.HY):=by
 refine .en func354 ntmps354 fun St c cs hK=> ?_;refine U2 ?_;refine .bo fun b1=> ?_;refine U8 ?_;refine .cl (fun H hs=> ED M H k.l0 k.l1) ?_;refine .cl (fun H hs=> OP M H k.l0 k.l1 (-9) 9 3 oM oM) ?_;refine U2 ?_;refine .rt hK func354 results354 [_] ?_;exact okB
theorem aAk(k:Lk):bA M 365 #[k.val] H (fun v H'=> H.le H'/\v=.bool k.mN):=by
 refine .en func365 ntmps365 fun St c cs hK=> ?_;refine U2 ?_;refine .bo fun b1=> ?_;refine U8 ?_;refine .cl (fun H hs=> ED M H k.m0 k.m1) ?_;refine .cl (fun H hs=> OP M H k.m0 k.m1 (-12) 12 25 oM oM) ?_;refine U2 ?_;refine .rt hK func365 results365 [_] ?_;exact okB
def wI(p:Nat->Bool):Nat->Bool
 | 0=> true
 | k+1=> wI p k&&p k
theorem XT {p:Nat->Bool}{k:Nat}(h:wI p k=false):∀m,k<=m->wI p m=false:=by
 intro m hm;induction m with
 | zero=>
  have:k=0:=by omega
  subst this;exact h
 | succ m ih=>
  by_cases e:k=m+1
  ·subst e;exact h
  ·rw[wI,ih oM];rfl
theorem v9(kv:List Value)(gb off m cc:Nat)(f:Bool)(gs:List Value)(gt:TypeId)(gz:Nat×Nat)(fv:Nat->Value)(p:Nat->Bool)(hm:m<=1000)(hk8:kv.length=8)(hG:H gb=some (f,.cells ⟨gs⟩ gt gz))(hG2:∀i:Nat,i<m->gD false 1 gs (off+i*1)=some (fv i))
  (hp:∀i:Nat,i<m->∀H',H.le H'->uB M (fv i) [.agg ⟨kv⟩] H' fun v H''=> H'.le H''/\v=.bool (p i)):
  bA M 158 #[.agg ⟨kv⟩,.slice (some ⟨gb,off,none⟩) m cc] H (fun v H'=> H.le H'/\v=.int .i64 (if wI p m then 0 else 1)):=by
 obtain⟨a0,a1,a2,a3,a4,a5,a6,a7,rfl⟩:∃a0 a1 a2 a3 a4 a5 a6 a7,kv= [a0,a1,a2,a3,a4,a5,a6,a7]:=by
  match kv,hk8 with
  | [a0,a1,a2,a3,a4,a5,a6,a7],_=> exact⟨a0,a1,a2,a3,a4,a5,a6,a7,rfl⟩
 refine .en func158 ntmps158 fun St c cs hK=> ?_;refine U2 ?_;refine .bo fun b2=> ?_;refine lD ?_;refine Tc.db (Tc.tA (σ:= { k:Nat//k<=m/\wI p k=true })
  (fun s=> ([(9,.int .i64 (s.1:Nat)),(8,.int .i64 m),(7,.slice (some ⟨gb,off,none⟩) m cc),(2,.pointer (some ⟨b2,0,none⟩))],[(b2,true,.cells ⟨[a0,a1,a2,a3,a4,a5,a6,a7]⟩ 132 (0,0))])) (fun s=> m-s.1) ?_ ⟨0,by simp,rfl⟩)
 rintro⟨k,g1,g2⟩ ih;show Tc M St _ _ _ _ [(9,.int .i64 (k:Nat)),(8,.int .i64 m),(7,.slice (some ⟨gb,off,none⟩) m cc),(2,.pointer (some ⟨b2,0,none⟩))] [(b2,true,.cells ⟨[a0,a1,a2,a3,a4,a5,a6,a7]⟩ 132 (0,0))] _ _;by_cases c1:k=m
 ·subst c1;refine PE ?_;refine .rt hK func158 results158 [_] ?_;exact fun H' hs=> ⟨hs.base,by rw[g2];rfl⟩
 ·have c2:k<m:=by omega
  have f1:gD false 1 gs (off+(k:Int).toNat*1)=some (fv k):=by rw[show(k:Int).toNat=k by simp];exact hG2 k c2
  cases hpk:p k with
  | true=>
   refine YP ?_;refine .c rfl rfl rfl rfl (fun H hs=> hpk▸hp k c2 H hs.base) ?_;refine U9 ?_;exact Tc.db (ih ⟨k+1,oM,by rw[wI,g2,hpk];rfl⟩ (by simp only;omega))
  | false=>
   have h2:=XT (p:=p) (k:=k+1) (by rw[wI,hpk];simp) m oM;refine YP ?_;refine .c rfl rfl rfl rfl (fun H hs=> hpk▸hp k c2 H hs.base) ?_;refine U7 ?_;refine .rt hK func158 results158 [_] ?_;exact fun H' hs=> ⟨hs.base,by rw[h2];rfl⟩
end
def IE(i:Nat):Value:=.func (.func ([363,364,354,365][i]?.getD 0)) #[] #[]
def aE(H:View):Prop:=∃f gt gz,H 2=some (f,.cells ⟨[IE 0,IE 1,IE 2,IE 3]⟩ gt gz)
def Lk.O3(k:Lk)(i:Nat):Bool:= [k.sends,k.reads,k.HY,k.mN][i]?.getD true
def Lk.ok(k:Lk):Bool:=wI k.O3 4
section
variable(M:Md prog)(H:View)
theorem iY(k:Lk)(i:Nat)(hi:i<4)(H':View):uB M (IE i) [k.val] H' fun v H''=> H'.le H''/\v=.bool (k.O3 i):=by
 match i,hi with
 | 0,_=> exact uB.h (aAx M H' k)
 | 1,_=> exact uB.h (aAv M H' k)
 | 2,_=> exact uB.h (aAd M H' k)
 | 3,_=> exact uB.h (aAk M H' k)
theorem eU(k:Lk)(hG:aE H):bA M 71 #[k.val] H (fun v H'=> H.le H'/\v=.int .i64 (if k.ok then 0 else 1)):=by
 obtain⟨f,gt,gz,hG⟩:=hG;refine .en func71 ntmps71 fun St c cs hK=> ?_;refine U2 ?_;refine .bo fun b1=> ?_;refine U3 ?_;refine Tc.dr [] [] mixed rfl ?_;refine V2 0 ?_;refine .q 2 rfl (qA.DX (E:=en) (off':=0) rfl rfl rfl rfl rfl rfl rfl rfl dE dE dE (by rw[if_neg dE];rfl)) ?_;refine .z 3 rfl (qA.tk fun H hs=> v9 M H _ 2 0 4 4 f _ gt gz IE k.O3 oM rfl (hs.base _ _ hG) (fun i hi=> by match i,hi with|0,_=> rfl|1,_=> rfl|2,_=> rfl|3,_=> rfl) (fun i hi H' _=> iY M k i hi H')) ?_;refine .nn 4 ?_;refine .dn ?_;refine .rt hK func71 results71 [_] ?_;exact okB
end
theorem OC {e:TypeId}{sz:Nat}(g:Gl e sz):(g.bl.map (·.1)).Nodup:=by
 unfold Gl.bl;split <;> simp
def HS(code:Nat)(g:Gl 270 2):Value:=.agg ⟨[.int .i64 code,g.val]⟩
theorem IA {H H':View}(h:aE H)(k:H.le H'):aE H':=by
 obtain⟨f,gt,gz,h⟩:=h;exact⟨f,gt,gz,k _ _ h⟩
section
variable(M:Md prog)(H:View)
theorem xI(k:Lk)(hG:aE H)(h:k.ok=true):bA M 71 #[k.val] H (fun v H'=> H.le H'/\v=.int .i64 0):=
 bA.mono (eU M H k hG) fun v H' ⟨h1,h2⟩=> ⟨h1,by rw[h2,h];rfl⟩
theorem dX(x:Int)(h:0<=x/\x<=31):bA M 151 #[.int .i64 x] H (fun v H'=> H.le H'/\v=.bool true):=
 bA.mono (UO M H x) fun v H' ⟨h1,h2⟩=> ⟨h1,by rw[h2,decide_eq_true h]⟩
theorem vC(k:Lk)(code:Nat)(hG:aE H)(hk:k.ok=true)(hc:code<32):bA M 63 #[k.val,.int .i64 code] H (fun v H'=> H.le H'/\∃g:Gl 270 2,v=.tuple ⟨[k.val,HS code g,.int .i64 0]⟩/\(g.n=(iA code 7).length/\g.l=sC (iA code 7))/\∀y∈g.bl,H' y.1=some y.2/\H y.1=none):=by
 refine .en func63 ntmps63 fun St c cs hK=> ?_;refine U2 ?_;refine .bo fun b2=> ?_;refine .al fun b4=> ?_;refine .al fun b5=> ?_;refine U6 ?_;refine .cl (fun H hs=> xI M H k (IA hG hs.base) hk) ?_;refine CG ?_;refine .cl (fun H hs=> dX M H code oM) ?_;refine U5 ?_;refine Tc.dr [4,5] [0,1] mixed rfl ?_;refine V2 0 ?_;refine .nw 2 ?_;refine .ea 3 rfl (Or.ZA (HS code) Gl.bl (fun g=> g.n=(iA code 7).length/\g.l=sC (iA code 7)) rfl rfl rfl rfl rfl dE OC (fun H hs=> .h (bA.mono (bP M H code hc) (by rintro v H' ⟨h1,g,h2,h3,h4,h5⟩;exact⟨h1,g,h2,⟨h3,h4⟩,h5⟩))) (fun g hg=> ⟨S2.mk sL (.inr sL),?_⟩));refine .e 4 1 ?_;refine .e 5 0 ?_;refine .nw 6 ?_;refine .dn ?_;refine .rt hK func63 results63 [_,_,_] ?_;exact fun H' hs=> ⟨hs.base,g,rfl,hg,fun y hy=> ⟨hs.at_ y (List.mem_cons_of_mem _ (List.mem_cons_of_mem _ (List.mem_cons_of_mem _ hy))),hs.out y (List.mem_cons_of_mem _ (List.mem_cons_of_mem _ (List.mem_cons_of_mem _ hy)))⟩⟩
end
set_option maxHeartbeats 4000000
def PJ(a b:Int):List Int:=(List.range (b+1-a).toNat).map fun i=> a+(i:Nat)
theorem R7 {a b:Int}(h:b<a):PJ a b= []:=by
 unfold PJ;rw[show(b+1-a).toNat=0 by omega];rfl
theorem V0 {a b:Int}(h:a<=b):PJ a b=a::PJ (a+1) b:=by
 unfold PJ;rw[show(b+1-a).toNat=(b+1-(a+1)).toNat+1 by omega,List.range_succ_eq_map];simp only[List.map_cons,List.map_map,List.cons.injEq];refine⟨by simp,List.map_congr_left fun i _=> ?_⟩;simp only[Function.comp,Nat.succ_eq_add_one];omega
theorem qH {a b x:Int}:x∈PJ a b<->a<=x/\x<=b:=by
 unfold PJ;simp only[List.mem_map,List.mem_range];constructor
 ·rintro⟨i,h,rfl⟩;omega
 ·rintro⟨h1,h2⟩;exact⟨(x-a).toNat,oM,oM⟩
def Lk.C8(k:Lk)(code:Nat)(s r n f:Int):TA:=⟨code,iA code 7,s,r,n,f,k.m0,k.m1⟩
def Lk.KL(k:Lk)(code:Nat)(s r n:Int)(l:List Int):List TA:=l.map fun f=> k.C8 code s r n f
def Lk.SF(k:Lk)(code:Nat)(s r:Int)(l:List Int):List TA:=l.flatMap fun n=> k.KL code s r n (PJ k.m0 k.m1)
def Lk.RF(k:Lk)(code:Nat)(s:Int)(l:List Int):List TA:=l.flatMap fun r=> k.SF code s r (PJ k.l0 k.l1)
def Lk.UH(k:Lk)(code:Nat)(l:List Int):List TA:=l.flatMap fun s=> k.RF code s (PJ k.r0 k.r1)
def Lk.jT(k:Lk)(code:Nat):List TA:=k.UH code (PJ k.s0 k.s1)
theorem Lk.kT(k:Lk)(code:Nat)(s r:Int)(l:List Int)(X:List TA):k.RF code s (r::l)++X=k.SF code s r (PJ k.l0 k.l1)++(k.RF code s l++X):=by simp[Lk.RF]
theorem Lk.lT(k:Lk)(code:Nat)(s r n:Int)(l:List Int)(X:List TA):k.SF code s r (n::l)++X=k.KL code s r n (PJ k.m0 k.m1)++(k.SF code s r l++X):=by simp[Lk.SF]
theorem Lk.SI {k:Lk}{code:Nat}{x:TA}:x∈k.jT code<->∃s r n f,(k.s0<=s/\s<=k.s1)/\(k.r0<=r/\r<=k.r1)/\(k.l0<=n/\n<=k.l1)/\(k.m0<=f/\f<=k.m1)/\x=k.C8 code s r n f:=by
 simp only[Lk.jT,Lk.UH,Lk.RF,Lk.SF,Lk.KL,List.mem_flatMap,List.mem_map,qH];constructor
 ·rintro⟨s,hs,r,hr,n,hn,f,hf,rfl⟩;exact⟨s,r,n,f,hs,hr,hn,hf,rfl⟩
 ·rintro⟨s,r,n,f,hs,hr,hn,hf,rfl⟩;exact⟨s,hs,r,hr,n,hn,f,hf,rfl⟩
structure XF(k:Lk)(code m eb ec b2 b5 b3:Nat)(H:View):Prop where
 l:H b2=some (true,.cells ⟨[.int .i64 k.s0,.int .i64 k.s1,.int .i64 k.r0,.int .i64 k.r1,.int .i64 k.l0,.int .i64 k.l1,.int .i64 k.m0,.int .i64 k.m1]⟩ 132 (0,0))
 mv:H b5=some (true,.cells ⟨[.int .i64 k.m0,.int .i64 k.m1]⟩ 257 (0,0))
 x:H b3=some (true,.cells ⟨[.int .i64 code,.slice (some ⟨eb,0,none⟩) m ec]⟩ 135 (0,0))
theorem XF.le {k:Lk}{code m eb ec b2 b5 b3:Nat}(H H':View)(h:H.le H')(c:XF k code m eb ec b2 b5 b3 H):XF k code m eb ec b2 b5 b3 H':=⟨h _ _ c.l,h _ _ c.mv,h _ _ c.x⟩
def aDz(b2 b5 b3:Nat):Value:=.func (.func 282) #[] #[.pointer (some ⟨b2,0,none⟩),.pointer (some ⟨b5,0,none⟩),.pointer (some ⟨b3,0,none⟩)]
section
variable(M:Md prog)(H:View)
theorem iK(a b:Int)(ha: -1000000000<=a)(hb:b<=1000000000):QJ M (.func (.func 154) #[FD a b] #[]) (PJ a b) (fun i (_:Unit)=> [.int .i64 i]) (fun _ _=> []) (fun _ _=> []) (fun _=> True) [] H:=fun l J D _ h0 hy H₀ ME=>
 uB.of (first:= [FD a b]) (captured:= []) aDZ rfl (bA.mono (X2 M H₀ a b (.func (.yield l) #[] #[]) (fun i Hv=> ∃H₂,H₂.le Hv/\J (PJ i b) H₂) D ha hb ⟨H,ME.base,h0⟩ (fun i H' h1 h2 ⟨H₂,h3,h4⟩=> by
  rw[V0 h2] at h4;refine uB.mono (hy i (PJ (i+1) b) () H₂ H' (qH.2 ⟨h1,h2⟩) h4 ⟨by simp,by simp,by simp,h3⟩) ?_;rintro v H3 (⟨rfl,H4,h5,h6⟩|⟨rfl,h5⟩)
  ·exact .inl ⟨rfl,H4,h5.base,h6⟩
  ·exact .inr ⟨rfl,h5⟩)) (by
  rintro v H' ⟨H₁,h1,⟨i,h2,_,_,H₂,h3,h4⟩|h2⟩
  ·rw[R7 h2] at h4;exact⟨H₂,View.le_trans h3 h1,.inl h4⟩
  ·exact⟨H₁,h1,.inr h2⟩))
theorem CX(k:Lk)(code m eb ec:Nat):bA M 230 #[k.val,.agg ⟨[.int .i64 code,.slice (some ⟨eb,0,none⟩) m ec]⟩] H (fun v H'=> H.le H'/\∃b2 b5 b3,v=aDz b2 b5 b3/\XF k code m eb ec b2 b5 b3 H'):=by
 refine .en func230 ntmps230 fun St c cs hK=> ?_;refine U2 ?_;refine .bo fun b2=> ?_;refine .bo fun b3=> ?_;refine U8 ?_;refine .cl (fun H hs=> ED M H k.m0 k.m1) ?_;refine .al fun b5=> ?_;refine U7 ?_;refine .rt hK func230 results230 [_] ?_;exact fun H' hs=> ⟨hs.base,b2,b5,b3,rfl,hs.get (i:=2) rfl,hs.get (i:=0) rfl,hs.get (i:=1) rfl⟩
theorem xV(k:Lk)(code eb ec b2 b5 b3:Nat)(hk:∀z,z∈ [k.s0,k.r0,k.l0,k.m0,k.s1,k.r1,k.l1,k.m1]-> -1000000<=z/\z<=1000000)(hC:XF k code (iA code 7).length eb ec b2 b5 b3 H):
  QJ M (aDz b2 b5 b3) (k.jT code) (fun s mb=> [s.val eb ec mb]) (fun _ mb=> [(mb,true,.map #[] 0)]) (fun _ _=> []) (XF k code (iA code 7).length eb ec b2 b5 b3) [] H:=fun l J D wB h0 hy H₀ ME=> by
 refine uB.of (first:= []) (captured:= [_,_,_]) aEc rfl ?_;simp only[List.mem_cons,List.not_mem_nil,or_false,forall_eq_or_imp,forall_eq] at hk;obtain⟨k1,k2,k3,k4,k5,k6,k7,k8⟩:=hk;obtain⟨c1,c2,c3⟩:=hC;refine bA.enter (vs:= [.func (.yield l) #[] #[],.pointer (some ⟨b2,0,none⟩),.pointer (some ⟨b5,0,none⟩),.pointer (some ⟨b3,0,none⟩)]) func282 rfl ntmps282 (Nat.le_of_ble_eq_true rfl) (ME) fun St c cs hK=> ?_;refine U2 ?_;refine .bo fun b4=> ?_;refine U6 ?_;refine .cl (fun H hs=> ED M H k.s0 k.s1) ?_;refine U3 ?_;have itS:=fun H (_:(fun _:View=> True) H)=> iK M H k.s0 k.s1 oM oM;have itR:=fun H (_:(fun _:View=> True) H)=> iK M H k.r0 k.r1 oM oM;have itL:=fun H (_:(fun _:View=> True) H)=> iK M H k.l0 k.l1 oM oM;have itM:=fun H (_:(fun _:View=> True) H)=> iK M H k.m0 k.m1 oM oM;refine Tc.XS (A:= []) (ts:= [14]) (fun rest H₁=> J (k.UH code rest) H₁) (fun j H₁=> j=.ret/\D H₁) rfl rfl rfl rfl itS (fun _ _ _ h=> h) (fun _ _ _=> trivial) rfl (fun _ _=> rfl) h0 ?_ ?_ ?_
 ·rintro r s rest1 e l1 tmps1 asg1 bdy1 H₁ _ GH ⟨rfl,j1⟩ Q1 St1 cc1 cs1 ZM q1 q1';obtain⟨c1,c2,c3⟩:=wB _ _ j1;refine U ?_;refine .al fun b6=> ?_;refine U2 ?_;refine Tc.beginRound (i:=1) rfl rfl rfl ?_;refine U6 ?_;refine .cl (fun H hs=> ED M H k.r0 k.r1) ?_;refine U3 ?_;refine Tc.BM (A:= []) (ts:= [20]) (i:=1) (fun rest H₁=> J (k.RF code s rest++k.UH code rest1) H₁) (fun j H₁=> j=.ret/\D H₁) rfl rfl rfl rfl rfl itR (fun _ _ _ h=> h) (fun _ _ _=> trivial) rfl (fun _ _=> rfl) j1 ?_ ?_ ?_
  ·rintro r' rest2 e l2 tmps2 asg2 bdy2 H₁ _ OO ⟨rfl,j2⟩ Q2 St2 cc2 cs2 hK2 q2 q2';obtain⟨c1,c2,c3⟩:=wB _ _ j2;refine U ?_;refine .al fun b7=> ?_;refine U2 ?_;refine Tc.beginRound (i:=1) rfl rfl rfl ?_;refine U7 ?_;refine .cl (fun H hs=> ED M H k.l0 k.l1) ?_;refine U3 ?_;refine Tc.BM (A:= []) (ts:= [27]) (i:=1) (fun rest H₁=> J (k.SF code s r' rest++(k.RF code s rest2++k.UH code rest1)) H₁) (fun j H₁=> j=.ret/\D H₁) rfl rfl rfl rfl rfl itL (fun _ _ _ h=> h) (fun _ _ _=> trivial) rfl (fun _ _=> rfl) (k.kT ..▸j2) ?_ ?_ ?_
   ·rintro n' rest3 e l3 tmps3 asg3 bdy3 H₁ _ M1 ⟨rfl,j3⟩ Q3 St3 cc3 cs3 hK3 q3 q3';obtain⟨c1,c2,c3⟩:=wB _ _ j3;refine U ?_;refine .al fun b8=> ?_;refine U2 ?_;refine Tc.beginRound (i:=1) rfl rfl rfl ?_;refine U7 ?_;refine Tc.BM (A:= []) (ts:= [30]) (i:=1) (fun rest H₁=> J (k.KL code s r' n' rest++(k.SF code s r' rest3++(k.RF code s rest2++k.UH code rest1))) H₁) (fun j H₁=> j=.ret/\D H₁) rfl rfl rfl rfl rfl itM (fun _ _ _ h=> h) (fun _ _ _=> trivial) rfl (fun _ _=> rfl) (k.lT ..▸j3) ?_ ?_ ?_
    ·rintro f' rest4 e l4 tmps4 asg4 bdy4 H₁ _ aX ⟨rfl,j4⟩ Q4 St4 cc4 cs4 hK4 q4 q4';obtain⟨c1,c2,c3⟩:=wB _ _ j4;refine U3 ?_;refine Tc.beginRound (i:=0) rfl rfl rfl ?_;refine U3 ?_;refine .x (.ld 8) ?_;refine U6 ?_;refine .e (Or.makeMap rfl rfl dE (fun mb=> ?_));refine U ?_;refine To.OY 0 rfl (fun AT=> ?_);have hy':=hy (k.C8 code s r' n' f') (k.KL code s r' n' rest4++(k.SF code s r' rest3++(k.RF code s rest2++k.UH code rest1))) mb H₁ _ (Lk.SI.2 ⟨s,r',n',f',qH.1 GH,qH.1 OO,qH.1 M1,qH.1 aX,rfl⟩) j4 ((gA.nil H₁).cons _ AT);refine To.vB rfl rfl rfl rfl rfl rfl dE (hy') (fun v H3 hv=> ?_);rcases hv with ⟨rfl,H4,h5,h6⟩|⟨rfl,h5⟩
     ·refine To.lower h5.base ?_;refine U5 ?_;refine Tc.GA hK4 (i:=0) rfl (.inl ⟨rfl,rfl⟩) (fun H' hs=> q4 H' _ _ hs ⟨rfl,h6⟩)
     ·refine U3 ?_;refine Tc.GA hK4 (i:=0) rfl (.inr (.inl ⟨_,rfl,rfl⟩)) (fun H' hs=> q4' H' _ _ _ hs ⟨rfl,rfl,h5⟩)
    ·rintro H₁ j4;refine U2 ?_;refine Tc.GA hK3 (i:=1) rfl (.inl ⟨rfl,rfl⟩) (fun H' hs=> q3 H' _ _ (hs.less sL) ⟨rfl,j4⟩)
    ·rintro j H₁ ⟨rfl,h5⟩;refine Tc.GA hK3 (i:=1) rfl (.inr (.inl ⟨_,rfl,rfl⟩)) (fun H' hs=> q3' H' _ _ _ (hs.less sL) ⟨rfl,rfl,h5⟩)
   ·rintro H₁ j3;refine U2 ?_;refine Tc.GA hK2 (i:=1) rfl (.inl ⟨rfl,rfl⟩) (fun H' hs=> q2 H' _ _ (hs.less sL) ⟨rfl,j3⟩)
   ·rintro j H₁ ⟨rfl,h5⟩;refine Tc.GA hK2 (i:=1) rfl (.inr (.inl ⟨_,rfl,rfl⟩)) (fun H' hs=> q2' H' _ _ _ (hs.less sL) ⟨rfl,rfl,h5⟩)
  ·rintro H₁ j2;refine U2 ?_;refine Tc.GA ZM (i:=1) rfl (.inl ⟨rfl,rfl⟩) (fun H' hs=> q1 H' _ _ (hs.less sL) ⟨rfl,j2⟩)
  ·rintro j H₁ ⟨rfl,h5⟩;refine Tc.GA ZM (i:=1) rfl (.inr (.inl ⟨_,rfl,rfl⟩)) (fun H' hs=> q1' H' _ _ _ (hs.less sL) ⟨rfl,rfl,h5⟩)
 ·rintro r H₁ j1;refine U ?_;refine Tc.aEV (E:=en) (i:=0) hK func282 results282 (vs:= []) rfl trivial ?_;exact fun H' hs=> ⟨H₁,hs.base,.inl j1⟩
 ·rintro r j H₁ ⟨rfl,h5⟩;refine Tc.aT (E:=en) (i:=0) hK func282 results282 (vs:= []) rfl trivial ?_;exact fun H' hs=> ⟨H₁,hs.base,.inr h5⟩
end
end Go.Proofs.YtldmfjcgjdchcaaGreatDoor.Sg
