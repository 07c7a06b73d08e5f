/-
 Texts of the proofs over baudot/dial.
-/
import Derived.Test.YtldmfjcgjdchcaaGreatDoorM12
namespace Go.Proofs.YtldmfjcgjdchcaaGreatDoor
open Go.RL Go.Proofs.Tryz
set_option maxRecDepth 10000
set_option maxHeartbeats 8000000
def o9:List UInt8:= [117,110,115,117,114,101]
def l9:List UInt8:= [97,108,119,97,121,115]
def m9:List UInt8:= [110,101,118,101,114]
def NK:List UInt8:= [100,105,97,108]
def OK:List UInt8:= [108,105,110,101]
def fH:List UInt8:= [116,114,97,105,110]
def EB(z:Int):List UInt8:=if z=0 then o9 else if z=1 then l9 else m9
def N4(H:View):Prop:=∃f gt gz,H 0=some (f,.cells ⟨[gA o9,gA l9,gA m9]⟩ gt gz)
theorem N4.le {H H':View}(h:N4 H)(hl:H.le H'):N4 H':=h.imp fun _ ⟨gt,gz,e⟩=> ⟨gt,gz,hl _ _ e⟩
def QF(l:List (List UInt8)):List UInt8:=kC 59 l++[10]
def ID(k:Bk)(i n:Nat):List (List UInt8):=(List.range n).map fun j=> EB (k.free i j)
def ND(k:Bk)(i:Nat):List (List UInt8):= [OK,k.name i,k.num i,kC 44 (ID k i (k.nf i))]
def rC(k:Bk)(j:Nat):List (List UInt8):= [fH,yF (k.pf j) (k.pt j),yF (k.qf j) (k.qt j)]
def YD(k:Bk):List (List UInt8):= [NK,aH k.cD,aH k.rB]
def TB(k:Bk)(i j:Nat):List UInt8:=QF (YD k)++((List.range i).flatMap fun i=> QF (ND k i))++(List.range j).flatMap fun j=> QF (rC k j)
def cF(k:Bk):List UInt8:=TB k k.nl k.nt
def gZ(z:Int):Prop:=0<=z/\z<100
structure E9(k:Bk):Prop where
 cD:gZ k.cD
 rB:gZ k.rB
 nl:k.nl<=6
 nt:k.nt<=6
 name:∀i,i<k.nl->(k.name i).length<=100
 num:∀i,i<k.nl->(k.num i).length<=100
 nf:∀i,i<k.nl->1<=k.nf i/\k.nf i<=4
 free:∀i,i<k.nl->∀j,j<k.nf i->0<=k.free i j/\k.free i j<=2
 tr:∀j,j<k.nt->gZ (k.pf j)/\gZ (k.pt j)/\gZ (k.qf j)/\gZ (k.qt j)
theorem CU(z:Int):(EB z).length<=6:=by
 unfold EB;split
 ·decide
 ·split <;> decide
theorem yI {a b:Int}(ha:gZ a)(hb:gZ b):(yF a b).length<=5:=by
 have h1:=SE ha;have h2:=SE hb;unfold yF;split
 ·omega
 ·simp only[List.length_append,List.length_cons];omega
theorem PT {l:List (List UInt8)}{m:Nat}(h:∀p∈l,p.length<=m):dD l<=l.length*m:=by
 unfold dD;induction l with
 | nil=> simp
 | cons a l ih=>
  have h1:=h a List.mem_cons_self;have h2:=ih fun p hp=> h p (List.mem_cons_of_mem _ hp);simp only[List.map_cons,List.sum_cons,List.length_cons];rw[Nat.add_mul];omega
theorem DG(k:Bk)(i n:Nat):(ID k i n).length=n:=by simp[ID]
theorem yL(k:Bk)(i n:Nat):dD (ID k i n)<=n*6:=by
 have:=PT (l:=ID k i n) (m:=6) (fun p hp=> by
  obtain⟨j,_,rfl⟩:=List.mem_map.1 hp;exact CU _)
 rwa [DG] at this
theorem EF(y:UInt8)(l:List (List UInt8)):(kC y l).length<=l.length+dD l:=by
 cases l with
 | nil=> simp[kC]
 | cons p l=> rw[XP];simp only[List.length_cons];omega
theorem PU(k:Bk)(i n:Nat):ID k i (n+1)=ID k i n++[EB (k.free i n)]:=by
 unfold ID;rw[List.range_succ,List.map_append];rfl
section
variable(M:Md prog)(H:View)
theorem uP(y:UInt8)(l:List (List UInt8))(nB:l≠ [])(F:Option Addr)(n fc:Nat)(hF:oC H F n (fun i=> l[i]?.getD []))(hn:n=l.length)(F0:n<=fc)(hl:l.length<=1000)(hT:dD l<=900000):
  bA M 92 #[.slice F n fc,gA [y]] H (fun v H'=> H.le H'/\v=gA (kC y l)):=by
 subst hn;cases l with
 | nil=> exact(nB rfl).elim
 | cons p l=>
  rcases hF with h0|⟨b,o,f,gs,gt,gz,h1,h2,h3⟩
  ·cases h0
  ·subst h1;cases l with
   | nil=>
    have f1:tE false 1 gs (o+(0:Int).toNat*1)=some (gA p):=h3 0 (Nat.one_pos);have e1:kC y [p]=p:=List.append_nil p;rw[e1];show bA M 92 #[.slice (some ⟨b,o,none⟩) 1 fc,gA [y]] H _;refine .en func92 ntmps92 fun St c cs hK=> ?_;refine G9 ?_;refine .rt hK func92 results92 [_] ?_;exact okB
   | cons q l=> exact A9 M H y p (q::l) (by simp) b o fc (.inr ⟨b,o,f,gs,gt,gz,rfl,h2,h3⟩) F0 (by simp only[List.length_cons] at hl ⊢;omega) hT
theorem C3(H₁:View)(b:Nat)(u:Bool)(g:Gl 5 1)(l:List (List UInt8))(nB:l≠ [])(F:Option Addr)(n fc:Nat)(hF:oC H₁ F n (fun i=> l[i]?.getD []))(hn:n=l.length)(F0:n<=fc)(hl:l.length<=1000)(hT:dD l<=800000)(hm:g.n+(QF l).length<=1000000)(ZD:iA H₁ (WI b u g) H):
  bA M 90 #[.slice F n fc,.pointer (some ⟨b,0,none⟩)] H (aM H₁ (fun _:Gl 5 1=> .tuple ⟨[]⟩) (fun g'=> WI b true g') (pZ (QF l) g)):=by
 have hj:=EF 59 l;have s1:RL.HC .add (kC 59 l) [10]=some (gA (QF l)):=UE (by simp only[List.length_singleton];omega);refine bA.enter (vs:= [.slice F n fc,.pointer (some ⟨b,0,none⟩)]) func90 rfl ntmps90 (Nat.le_of_ble_eq_true rfl) (ZD) fun St c cs hK=> ?_;refine U2 ?_;refine .cl (fun H hs=> uP M H 59 l nB F n fc (hF.le hs.base) hn F0 hl oM) ?_;refine U ?_;refine .e (Or.gD 0 (σ:=Gl 5 1) (fun _=> .tuple ⟨[.int .i64 ((QF l).length:Nat),.nilIface]⟩) (fun g'=> WI b true g') (pZ (QF l) g) rfl rfl rfl rfl rfl dE (fun H₁ H₂ gV TM=> .h (EE M H₂ H₁ b u g (QF l) hm TM)) (fun g2 dP=> ?_));refine U ?_;refine .ov hK func90 results90 [] ?_;exact fun H' hs=> ⟨g2,H₁,rfl,View.le_refl _,hs,dP⟩
end
end Go.Proofs.YtldmfjcgjdchcaaGreatDoor
namespace Go.Proofs.YtldmfjcgjdchcaaGreatDoor
open Go.RL Go.Proofs.Tryz Go.ChangeShapes Go.WideShapes Go.ChangeAt Go.RowKit
set_option maxRecDepth 10000
theorem GW:prog.globalNamed "baudot/dial.claims"=some 0:=by kernel_rfl
theorem W7:(prog.globals[0]?).map (·.type)=some 184:=by kernel_rfl
theorem pQ:prog.underlying 184=some (.array 3 9):=by kernel_rfl
theorem wS:prog.cellsOf 184=3:=by kernel_rfl
theorem S9 {LL:List (String×DataW Unit)}(hn:("baudot/dial.claims",(Rows.laid_baudot_dial_claims:DataW Unit))∈LL.filter fun x=> x.2.handleName?.isNone){W:World}(h:laidMetH prog LL W):N4 (jD W):=by
 obtain⟨⟨ps,hl,_⟩,_⟩:=laidMetH_iff.1 h;obtain⟨g,t,cs,fuel,p,hg,ht,hv,hd⟩:=cI hl hn;obtain rfl:=Option.some.inj (GW.symm.trans hg);obtain rfl:=Option.some.inj (W7.symm.trans ht);obtain⟨gt,gz,hh⟩:=PO GW hv;have hlen:cs.toList.length=3:=by
  cases fuel with
  | zero=> simp[DataW.trod] at hd
  | succ n=>
   unfold DataW.trod at hd;rw[pQ] at hd;simp[wS] at hd
   simpa using hd.1
 obtain⟨c0,c1,c2,MW⟩:∃c0 c1 c2,cs.toList= [c0,c1,c2]:=by
  match e:cs.toList,hlen with
  | [c0,c1,c2],_=> exact⟨c0,c1,c2,rfl⟩
 rw[MW] at hd;obtain⟨y0,y1,y2,n,hx,r0,r1,r2⟩:=trod_array3 pQ AZ hd;obtain⟨s0,g0,g0',_⟩:=DataW.trod_string aW r0;obtain⟨s1,g1,g1',_⟩:=DataW.trod_string aW r1;obtain⟨s2,g2,g2',_⟩:=DataW.trod_string aW r2;subst g0' g1' g2';have VJ:=congrArg Prod.fst hx;have eT:(DataW.agg [.lit (.string s0.data.toList),.lit (.string s1.data.toList),.lit (.string s2.data.toList)]:DataW Unit)=DataW.agg [.lit (.string o9),.lit (.string l9),.lit (.string m9)]:=VJ.symm;simp only[DataW.agg.injEq,List.cons.injEq,and_true,DataW.lit.injEq,Lit.string.injEq] at eT;obtain⟨e0,e1,e2⟩:=eT;simp only[List.cons.injEq,and_true] at g0 g1 g2;refine⟨false,gt,gz,?_⟩;have ec:cs=⟨[gA o9,gA l9,gA m9]⟩:=by
  apply Array.ext'
  rw[MW,g0,g1,g2];obtain⟨⟨l0⟩⟩:=s0;obtain⟨⟨l1⟩⟩:=s1;obtain⟨⟨l2⟩⟩:=s2;simp only at e0 e1 e2;rw[e0,e1,e2]
 rw[<-ec];simp only[jD,hh,Option.map_some]
end Go.Proofs.YtldmfjcgjdchcaaGreatDoor
namespace Go.Proofs.YtldmfjcgjdchcaaGreatDoor
open Go.RL Go.Proofs.Tryz
set_option maxRecDepth 10000
set_option maxHeartbeats 8000000
theorem rN(a b:Int):flat en 2 37 [.int .i64 a,.int .i64 b]:=by
 refine⟨rfl,?_⟩;intro f hf;simp only[List.mem_cons,List.not_mem_nil,or_false] at hf;rcases hf with rfl|rfl
 ·exact⟨⟨_,rfl⟩,_,rfl,rfl,Nat.le_of_ble_eq_true rfl⟩
 ·exact⟨⟨_,rfl⟩,_,rfl,rfl,Nat.le_of_ble_eq_true rfl⟩
theorem zM(a b c d:Int):flat en 3 39 [.int .i64 a,.int .i64 b,.int .i64 c,.int .i64 d]:=by
 refine⟨rfl,?_⟩;intro f hf;simp only[List.mem_cons,List.not_mem_nil,or_false] at hf;rcases hf with rfl|rfl
 ·exact⟨rN a b,_,rfl,rfl,Nat.le_of_ble_eq_true rfl⟩
 ·exact⟨rN c d,_,rfl,rfl,Nat.le_of_ble_eq_true rfl⟩
section
variable(M:Md prog)(H:View)
theorem zQ(k:Bk)(B B':Option Addr)(tc tc':Nat)(hB:uC H k B tc)(hB':uC H k B' tc')(hn:k.nt<=1000):
  bA M 110 #[.slice B k.nt tc,.slice B' k.nt tc'] H (fun v H'=> H.le H'/\v=.bool true):=by
 refine .en func110 ntmps110 fun St c cs hK=> ?_;refine zP ?_;refine Tc.db (Tc.sA (σ:= { j:Nat//j<=k.nt }) (fun j=> ([(0,.slice B k.nt tc),(1,.slice B' k.nt tc'),(5,.int .i64 (j.1:Nat))],[])) (fun j=> k.nt-j.1) ?_ ⟨0,Nat.zero_le _⟩);rintro⟨j,hj⟩ ih;show Tc M St _ _ _ _ [(0,.slice B k.nt tc),(1,.slice B' k.nt tc'),(5,.int .i64 (j:Nat))] [] _ _;by_cases c1:j=k.nt
 ·subst c1;clear ih;refine vF ?_;refine .rt hK func110 results110 [_] ?_;exact okB
 ·have c2:j<k.nt:=by omega
  obtain⟨_,h0|⟨ab,ao,f,gs,gt,gz,rfl,hb,hl⟩⟩:=hB
  ·omega
  obtain⟨_,h0|⟨ab',ao',f',gs',gt',gz',rfl,jM,YU⟩⟩:=hB'
  ·omega
  have f1:=hl j c2;have f2:=YU j c2;refine LG ?_;refine Tc.dr [] [] mixed rfl ?_;refine V8 0 ?_;refine .q 8 rfl (pA.neA (E:=en) true 3 rfl rfl rfl rfl rfl aCC dE (zM (k.pf j) (k.pt j) (k.qf j) (k.qt j)) (zM (k.pf j) (k.pt j) (k.qf j) (k.qt j)) (by simp)) ?_;refine .dn ?_;refine U8 ?_;exact Tc.db (ih ⟨j+1,oM⟩ (by simp only;omega))
theorem qU(a s:List UInt8)(F F':Option Addr)(n c' c'':Nat)(x:Nat->Int)(hF:pB H F n x)(hF':pB H F' n x)(hn:n<=1000):
  bA M 109 #[nJ a s F n c',nJ a s F' n c''] H (fun v H'=> H.le H'/\v=.bool true):=by
 have e1:RL.HC .eql a a=some (.bool true):=by simp[RL.HC]
 have e2:RL.HC .eql s s=some (.bool true):=by simp[RL.HC]
 have h1:=fun(H':View) (h:H.le H')=> cK M H' F F' n n c' c'' x x (hF.le h) (hF'.le h) oM oM true (by rw[decide_eq_true rfl,Bool.true_and];exact(vC _).2 fun i _=> decide_eq_true rfl);refine .en func109 ntmps109 fun St c cs hK=> ?_;refine U2 ?_;refine .bo fun b2=> ?_;refine .bo fun b3=> ?_;refine zP ?_;refine .cl (fun H hs=> h1 H hs.base) ?_;refine U3 ?_;refine .rt hK func109 results109 [_] ?_;exact okB
theorem dZ(k:Bk)(A A':Option Addr)(lc lc':Nat)(B B':Option Addr)(tc tc':Nat)(hk:fE H k A lc B tc)(hk':fE H k A' lc' B' tc')(hn:k.small):
  bA M 36 #[k.val A lc B tc,k.val A' lc' B' tc'] H (fun v H'=> H.le H'/\v=.bool true):=by
 have RN:=hn.nl;have LB:=fun(H':View) (h:H.le H')=> zQ M H' k B B' tc tc' (hk.le h).JC (hk'.le h).JC hn.nt;refine .en func36 ntmps36 fun St c cs hK=> ?_;refine U2 ?_;refine .bo fun b2=> ?_;refine .bo fun b3=> ?_;refine U35 ?_;refine Tc.db (Tc.sA (σ:= { j:Nat//j<=k.nl }) (fun j=> ([(2,.pointer (some ⟨b2,0,none⟩)),(3,.pointer (some ⟨b3,0,none⟩)),(5,.int .i64 (j.1:Nat))],[(b3,true,.cells ⟨(k.val A' lc' B' tc').cells.toList⟩ 45 (0,0)),(b2,true,.cells ⟨(k.val A lc B tc).cells.toList⟩ 45 (0,0))])) (fun j=> k.nl-j.1) ?_ ⟨0,Nat.zero_le _⟩);rintro⟨j,hj⟩ ih;show Tc M St _ _ _ _ [(2,.pointer (some ⟨b2,0,none⟩)),(3,.pointer (some ⟨b3,0,none⟩)),(5,.int .i64 (j:Nat))] [(b3,true,.cells ⟨(k.val A' lc' B' tc').cells.toList⟩ 45 (0,0)),(b2,true,.cells ⟨(k.val A lc B tc).cells.toList⟩ 45 (0,0))] _ _;by_cases c1:j=k.nl
 ·subst c1;clear ih;refine TJ ?_;refine .cl (fun H hs=> LB H hs.base) ?_;refine U2 ?_;refine .rt hK func36 results36 [_] ?_;exact okB
 ·have c2:j<k.nl:=by omega
  obtain⟨_,h0|⟨ab,ao,f,gs,gt,gz,rfl,hb,hl⟩⟩:=hk.rows
  ·omega
  obtain⟨_,h0|⟨ab',ao',f',gs',gt',gz',rfl,jM,YU⟩⟩:=hk'.rows
  ·omega
  obtain⟨F,fc,f1,_,hF⟩:=hl j c2;obtain⟨F',fc',f2,_,hF'⟩:=YU j c2;have hsl:=fun(H':View) (h:H.le H')=> qU M H' (k.name j) (k.num j) F F' (k.nf j) fc fc' (k.free j) (hF.le h) (hF'.le h) (hn.num j c2).2;refine vF ?_;refine Tc.dr [] [] mixed rfl ?_;refine uX 0 ?_;refine .z 10 rfl (pA.tk fun H hs=> hsl H hs.base) ?_;refine .nn 11 ?_;refine .dn ?_;refine U8 ?_;exact Tc.db (ih ⟨j+1,oM⟩ (by simp only;omega))
end
set_option maxHeartbeats 16000000
theorem aB2 {P:List (List UInt8)}{H:View}{b n:Nat}{f:Bool}{jj:List Value}{e:TypeId}{fz:Nat×Nat}(hn:n=P.length)(h:H b=some (f,.cells ⟨VA P++jj⟩ e fz)):oC H (some ⟨b,0,none⟩) n (fun i=> P[i]?.getD []):=by
 subst hn;exact VE h
theorem RI(l:List (List UInt8)):(QF l).length<=l.length+dD l+1:=by
 unfold QF;rw[List.length_append,List.length_singleton];have:=EF 59 l;omega
theorem zL {k:Bk}(hp:E9 k):dD (YD k)<=8:=by
 have h1:=SE hp.cD;have h2:=SE hp.rB;simp only[dD,YD,NK,List.map_cons,List.map_nil,List.sum_cons,List.sum_nil,List.length_cons,List.length_nil];omega
theorem EL {k:Bk}(hp:E9 k){i:Nat}(hi:i<k.nl):dD (ND k i)<=240:=by
 have h1:=hp.name i hi;have h2:=hp.num i hi;have h3:=hp.nf i hi;have h4:=EF 44 (ID k i (k.nf i));have h5:=yL k i (k.nf i);rw[DG] at h4;simp only[dD,ND,OK,List.map_cons,List.map_nil,List.sum_cons,List.sum_nil,List.length_cons,List.length_nil] at h4 h5 ⊢;omega
theorem OJ {k:Bk}(hp:E9 k){j:Nat}(hj:j<k.nt):dD (rC k j)<=15:=by
 obtain⟨h1,h2,h3,h4⟩:=hp.tr j hj;have h5:=yI h1 h2;have h6:=yI h3 h4;simp only[dD,rC,fH,List.map_cons,List.map_nil,List.sum_cons,List.sum_nil,List.length_cons,List.length_nil];omega
theorem qJ {k:Bk}(i:Nat):TB k (i+1) 0=TB k i 0++QF (ND k i):=by
 unfold TB;rw[List.range_succ,List.flatMap_append];simp
theorem iI {k:Bk}(i j:Nat):TB k i (j+1)=TB k i j++QF (rC k j):=by
 unfold TB;rw[List.range_succ,List.flatMap_append];simp
theorem gI {k:Bk}(hp:E9 k):∀i,i<=k.nl->(TB k i 0).length<=20+i*260
 | 0,_=> by
  have h1:=RI (YD k);have h2:=zL hp;have h3:(YD k).length=3:=rfl;show(QF (YD k)++[]++[]).length<=_;simp only[List.append_nil];omega
 | i+1,hi=> by
  have ih:=gI hp i oM;have h1:=RI (ND k i);have h2:=EL hp (i:=i) oM;have h3:(ND k i).length=4:=rfl;rw[qJ,List.length_append];omega
theorem dH {k:Bk}(hp:E9 k):∀j,j<=k.nt->(TB k k.nl j).length<=2000+j*30
 | 0,_=> by
  have h1:=gI hp k.nl (Nat.le_refl _);have h2:=hp.nl;omega
 | j+1,hj=> by
  have ih:=dH hp j oM;have h1:=RI (rC k j);have h2:=OJ hp (j:=j) oM;have h3:(rC k j).length=3:=rfl;rw[iI,List.length_append];omega
theorem EZ {z:Int}(h:0<=z/\z<=2):tE false 1 [gA o9,gA l9,gA m9] (0+z.toNat*1)=some (gA (EB z)):=by
 have:z=0\/z=1\/z=2:=by omega
 rcases this with rfl|rfl|rfl <;> rfl
section
variable(M:Md prog)(H:View)
theorem O5(hG:gF H)(hC:N4 H)(k:Bk)(A:Option Addr)(lc:Nat)(B:Option Addr)(tc:Nat)(hk:fE H k A lc B tc)(hn:k.small)(ha:k.QA=0)(hp:E9 k):
  bA M 32 #[k.val A lc B tc] H (fun v H'=> H.le H'/\v=.tuple ⟨[gA (cF k),.int .i64 0]⟩):=by
 obtain⟨f0,gt0,gz0,hC0⟩:=hC;refine .en func32 ntmps32 fun St c cs hK=> ?_;refine U2 ?_;refine .bo fun b1=> ?_;refine U7 ?_;refine .cl (fun H hs=> BC M H k A lc B tc (hk.le hs.base) hn (FA hG hs.base) ha) ?_;refine U3 ?_;refine .al fun b4=> ?_;refine PF ?_;refine .al fun b6=> ?_;refine U7 ?_;refine Tc.perm (L₁:= [(b4,true,.cells ⟨[.int .i64 k.cD,.int .i64 k.rB,.slice A k.nl lc,.slice B k.nt tc]⟩ 166 (0,0)),(b1,true,.cells ⟨[.int .i64 k.cD,.int .i64 k.rB,.slice A k.nl lc,.slice B k.nt tc]⟩ 45 (0,0))]++WI b6 false (Gl.nil 5 1)) (List.perm_append_comm (l₁:= [_,_]) (l₂:= [_])) ?_;have hS0:=zL hp;have hR0:=RI (YD k);have hL0:(YD k).length=3:=rfl;refine Tc.drT [8] [] [] 2 mixed rfl ?_;refine .oo 0 ?_;refine .oo 1 ?_;refine .oo 2 ?_;refine Ta.SV 3 kR rfl rfl dE rfl rfl (pA.tk fun H hs=> ZJ M H k.cD hp.cD) ?_;refine .oo 4 ?_;refine .oo 5 ?_;refine Ta.SV 6 kR rfl rfl dE rfl rfl (pA.tk fun H hs=> ZJ M H k.rB hp.rB) ?_;refine .ea 7 rfl (.bs (zz:=fun bs=> ⟨S3.mk sL (.inr sL),?_⟩));refine .ea 8 rfl (Or.gD 3 (σ:=Gl 5 1) (fun _=> .tuple ⟨[]⟩) (fun g'=> WI b6 true g') (pZ (QF (YD k)) (Gl.nil 5 1)) rfl rfl rfl rfl rfl dE (fun H₁ H₂ gV TM=> yB.of (first:= []) (captured:= [_]) O9 rfl (C3 M H₂ H₁ b6 false (Gl.nil 5 1) (YD k) (by simp[YD]) (some ⟨bs,0,none⟩) 3 3 (VE (P:=YD k) (jj:= []) (gV.get (i:=0) rfl)) rfl (Nat.le_refl _) oM oM (by show 0+_<=_;omega) TM)) (fun g0 L8=> ⟨S3.mk sL (.inl kR),?_⟩));refine .dn ?_;refine U9 ?_;refine Tc.db (Tc.sA (σ:= { x:Nat×Gl 5 1//x.1<=k.nl/\x.2.n=(TB k x.1 0).length/\x.2.l=bB (TB k x.1 0) }) (fun x=> ([(1,.pointer (some ⟨b1,0,none⟩)),(6,.pointer (some ⟨b6,0,none⟩)),(7,.func (.func 90) #[] #[.pointer (some ⟨b6,0,none⟩)]),(34,.slice A k.nl lc),(35,.int .i64 (k.nl:Nat)),(36,.int .i64 (x.1.1:Nat))],[(b1,true,.cells ⟨[.int .i64 k.cD,.int .i64 k.rB,.slice A k.nl lc,.slice B k.nt tc]⟩ 45 (0,0))]++WI b6 true x.1.2)) (fun x=> k.nl-x.1.1) ?_ ⟨(0,g0),Nat.zero_le _,by rw[L8.1];simp[TB,Gl.nil],by rw[L8.2];simp[TB,Gl.nil]⟩);rintro⟨⟨i,g⟩,hi,MG,dL⟩ ih;simp only at hi MG dL;show Tc M St _ _ _ _ [(1,.pointer (some ⟨b1,0,none⟩)),(6,.pointer (some ⟨b6,0,none⟩)),(7,.func (.func 90) #[] #[.pointer (some ⟨b6,0,none⟩)]),(34,.slice A k.nl lc),(35,.int .i64 (k.nl:Nat)),(36,.int .i64 (i:Nat))] ([(b1,true,.cells ⟨[.int .i64 k.cD,.int .i64 k.rB,.slice A k.nl lc,.slice B k.nt tc]⟩ 45 (0,0))]++WI b6 true g) _ _;have hpl:=gI hp i hi;have RN:=hp.nl;have zK:=hp.nt;by_cases c1:i=k.nl
 ·clear ih;subst c1;refine aP ?_;refine Tc.db (Tc.sA (σ:= { x:Nat×Gl 5 1//x.1<=k.nt/\x.2.n=(TB k k.nl x.1).length/\x.2.l=bB (TB k k.nl x.1) }) (fun x=> ([(6,.pointer (some ⟨b6,0,none⟩)),(7,.func (.func 90) #[] #[.pointer (some ⟨b6,0,none⟩)]),(65,.slice B k.nt tc),(66,.int .i64 (k.nt:Nat)),(67,.int .i64 (x.1.1:Nat))],WI b6 true x.1.2)) (fun x=> k.nt-x.1.1) ?_ ⟨(0,g),Nat.zero_le _,MG,dL⟩);rintro⟨⟨j,g⟩,hj,MG,dL⟩ ih;simp only at hj MG dL;show Tc M St _ _ _ _ [(6,.pointer (some ⟨b6,0,none⟩)),(7,.func (.func 90) #[] #[.pointer (some ⟨b6,0,none⟩)]),(65,.slice B k.nt tc),(66,.int .i64 (k.nt:Nat)),(67,.int .i64 (j:Nat))] (WI b6 true g) _ _;have hpl:=dH hp j hj;by_cases d1:j=k.nt
  ·clear ih;subst d1;have nB:TB k k.nl k.nt≠ []:=by
    intro h;have:=congrArg List.length h;simp[TB,QF] at this
   refine U9 ?_;refine .e (Or.gD 0 (σ:=Unit) (fun _=> gA (cF k)) (fun _=> []) (fun _=> True) rfl rfl rfl rfl rfl dE (fun H₁ H₂ gV TM=> .h (jS M H₂ H₁ b6 true g _ nB MG dL oM TM)) (fun _ _=> ?_));refine U3 ?_;refine .rt hK func32 results32 [_,_] ?_;exact okB
  ·have d2:j<k.nt:=by omega
   obtain⟨_,h0|⟨ab,ao,f,gs,gt,gz,rfl,hb,hl⟩⟩:=hk.JC
   ·omega
   have f1:=hl j d2;obtain⟨t1,t2,t3,t4⟩:=hp.tr j d2;have hS1:=OJ hp d2;have hR1:=RI (rC k j);have hL1:(rC k j).length=3:=rfl;have hpt:=iI (k:=k) k.nl j;have UJ:=fun(g2:Gl 5 1) (h:pZ (QF (rC k j)) g g2)=> ih ⟨(j+1,g2),by simp only;omega,by simp only;rw[h.1,MG,hpt,List.length_append],by simp only;rw[h.2,dL,hpt,yJ]⟩ (by simp only;omega);clear ih;refine Tc.perm (L₁:= []++WI b6 true g) (List.Perm.refl _) ?_;refine LG ?_;refine .al fun b14=> ?_;refine U2 ?_;refine Tc.perm (L₁:= [(b14,true,.cells ⟨[.int .i64 (k.pf j),.int .i64 (k.pt j),.int .i64 (k.qf j),.int .i64 (k.qt j)]⟩ 39 (0,0))]++WI b6 true g) (List.Perm.refl _) ?_;refine Tc.drT [8] [] [] 1 mixed rfl ?_;refine .oo 0 ?_;refine .oo 1 ?_;refine .oo 2 ?_;refine Ta.SV 3 kR rfl rfl dE rfl rfl (pA.tk fun H hs=> uN M H (k.pf j) (k.pt j) t1 t2) ?_;refine .oo 4 ?_;refine .oo 5 ?_;refine Ta.SV 6 kR rfl rfl dE rfl rfl (pA.tk fun H hs=> uN M H (k.qf j) (k.qt j) t3 t4) ?_;refine .ea 7 rfl (.bs (zz:=fun bs=> ⟨S3.mk sL (.inr sL),?_⟩));refine .ea 8 rfl (Or.gD 2 (σ:=Gl 5 1) (fun _=> .tuple ⟨[]⟩) (fun g'=> WI b6 true g') (pZ (QF (rC k j)) g) rfl rfl rfl rfl rfl dE (fun H₁ H₂ gV TM=> yB.of (first:= []) (captured:= [_]) O9 rfl (C3 M H₂ H₁ b6 true g (rC k j) (by simp[rC]) (some ⟨bs,0,none⟩) 3 3 (VE (P:=rC k j) (jj:= []) (gV.get (i:=0) rfl)) rfl (Nat.le_refl _) oM oM oM TM)) (fun g2 dP=> ⟨S3.mk sL (.inl kR),?_⟩));refine .dn ?_;refine U5 ?_;exact Tc.db (UJ g2 dP)
 ·have c2:i<k.nl:=by omega
  obtain⟨_,h0|⟨ab,ao,f,gs,gt,gz,rfl,hb,hl⟩⟩:=hk.rows
  ·omega
  obtain⟨F,fc,f1,F0,hF⟩:=hl i c2;obtain⟨K8,hf4⟩:=hp.nf i c2;have G0:=hp.free i c2;have hS1:=EL hp c2;have hR1:=RI (ND k i);have hL1:(ND k i).length=4:=rfl;have hpt:=qJ (k:=k) i;have UJ:=fun(g2:Gl 5 1) (h:pZ (QF (ND k i)) g g2)=> ih ⟨(i+1,g2),by simp only;omega,by simp only;rw[h.1,MG,hpt,List.length_append],by simp only;rw[h.2,dL,hpt,yJ]⟩ (by simp only;omega);clear ih;refine Tc.lift (L₂:= [(b1,true,.cells ⟨[.int .i64 k.cD,.int .i64 k.rB,.slice (some ⟨ab,ao,none⟩) k.nl lc,.slice B k.nt tc]⟩ 45 (0,0))]) (L₁:=WI b6 true g) rfl (fun Hx hx=> ?_);have jM:=hx.base _ _ hb;have hC':=hx.base _ _ hC0;have hF':=hF.le hx.base;refine LG ?_;refine .al fun b9=> ?_;refine XM ?_;refine Tc.db (Tc.sA (σ:= { x:Nat×Gl 9 1//x.1<=k.nf i/\x.2.n=x.1/\x.2.l=VA (ID k i x.1) }) (fun x=> ([(1,.pointer (some ⟨b1,0,none⟩)),(6,.pointer (some ⟨b6,0,none⟩)),(7,.func (.func 90) #[] #[.pointer (some ⟨b6,0,none⟩)]),(34,.slice (some ⟨ab,ao,none⟩) k.nl lc),(35,.int .i64 (k.nl:Nat)),(36,.int .i64 (i:Nat)),(9,.pointer (some ⟨b9,0,none⟩)),(10,x.1.2.val),(41,.slice F (k.nf i) fc),(42,.int .i64 (k.nf i:Nat)),(43,.int .i64 (x.1.1:Nat))],[(b9,true,.cells ⟨[gA (k.name i),gA (k.num i),.slice F (k.nf i) fc]⟩ 68 (0,0)),(b1,true,.cells ⟨[.int .i64 k.cD,.int .i64 k.rB,.slice (some ⟨ab,ao,none⟩) k.nl lc,.slice B k.nt tc]⟩ 45 (0,0))]++x.1.2.bl)) (fun x=> k.nf i-x.1.1) ?_ ⟨(0,Gl.nil 9 1),Nat.zero_le _,rfl,rfl⟩);rintro⟨⟨j,g2⟩,hj,gP,lM⟩ ih;simp only at hj gP lM;show Tc M St _ _ _ _ [(1,.pointer (some ⟨b1,0,none⟩)),(6,.pointer (some ⟨b6,0,none⟩)),(7,.func (.func 90) #[] #[.pointer (some ⟨b6,0,none⟩)]),(34,.slice (some ⟨ab,ao,none⟩) k.nl lc),(35,.int .i64 (k.nl:Nat)),(36,.int .i64 (i:Nat)),(9,.pointer (some ⟨b9,0,none⟩)),(10,g2.val),(41,.slice F (k.nf i) fc),(42,.int .i64 (k.nf i:Nat)),(43,.int .i64 (j:Nat))] ([(b9,true,.cells ⟨[gA (k.name i),gA (k.num i),.slice F (k.nf i) fc]⟩ 68 (0,0)),(b1,true,.cells ⟨[.int .i64 k.cD,.int .i64 k.rB,.slice (some ⟨ab,ao,none⟩) k.nl lc,.slice B k.nt tc]⟩ 45 (0,0))]++g2.bl) _ _;by_cases d1:j=k.nf i
  ·clear ih;subst d1;obtain⟨x,hv,o0⟩:=aCE g2 oM;rw[gP] at hv;rw[lM] at o0;rw[hv,o0];refine Tc.expand hx ?_;have T4:=yL k i (k.nf i);have TU:=DG k i (k.nf i);have hfe:ID k i (k.nf i)≠ []:=fun e=> by rw[e] at TU;simp at TU;omega
   have hxc:k.nf i<=x.2.1:=by
    have h1:=g2.hc;rw[gP] at h1;have h2:g2.val=.slice (g2.blk.map fun b=> ⟨b,0,none⟩) g2.n g2.cap:=rfl;rw[hv] at h2;unfold exV at h2
    injection h2 with _ _ h3
    omega
   refine U7 ?_;refine Tc.perm (L₁:= [(b9,true,.cells ⟨[gA (k.name i),gA (k.num i),.slice F (k.nf i) fc]⟩ 68 (0,0)),(b1,true,.cells ⟨[.int .i64 k.cD,.int .i64 k.rB,.slice (some ⟨ab,ao,none⟩) k.nl lc,.slice B k.nt tc]⟩ 45 (0,0)),(x.1,true,.cells ⟨VA (ID k i (k.nf i))++x.2.2⟩ 9 (0,0))]++WI b6 true g) (List.Perm.refl _) ?_;refine Tc.drT [8] [] [] 3 mixed rfl ?_;refine .oo 0 ?_;refine .oo 1 ?_;refine .oo 2 ?_;refine .oo 3 ?_;refine .oo 4 ?_;refine .oo 5 ?_;refine Ta.SV 6 kR rfl rfl dE rfl rfl (pA.tk fun H hs=> uP M H 44 (ID k i (k.nf i)) hfe (some ⟨x.1,0,none⟩) (k.nf i) x.2.1 (aB2 TU.symm (hs.get (i:=2) rfl)) TU.symm hxc oM oM) ?_;refine .ea 7 rfl (.bs (zz:=fun bs=> ⟨S3.mk sL (.inr sL),?_⟩));refine .ea 8 rfl (Or.gD 4 (σ:=Gl 5 1) (fun _=> .tuple ⟨[]⟩) (fun g'=> WI b6 true g') (pZ (QF (ND k i)) g) rfl rfl rfl rfl rfl dE (fun H₁ H₂ gV TM=> yB.of (first:= []) (captured:= [_]) O9 rfl (C3 M H₂ H₁ b6 true g (ND k i) (by simp[ND]) (some ⟨bs,0,none⟩) 4 4 (VE (P:=ND k i) (jj:= []) (gV.get (i:=0) rfl)) rfl (Nat.le_refl _) oM oM oM TM)) (fun g3 hg3=> ⟨S3.mk sL (.inl kR),?_⟩));refine .dn ?_;refine U5 ?_;exact Tc.db (UJ g3 hg3)
  ·have d2:j<k.nf i:=by omega
   obtain⟨z1,z2⟩:=G0 j d2;have f3:=EZ ⟨z1,z2⟩;rcases hF' with h0|⟨fb,fo,ff,fgs,fgt,fgz,rfl,hfb,TU⟩
   ·omega
   have f2:=TU j d2;refine TR ?_;refine .e (.bs (zz:=fun bs=> ?_));refine .e (Or.append (E:=en) 3 rfl rfl rfl rfl rfl rfl rfl rfl rfl rfl rfl rfl rfl rfl rfl (fun H hs=> ZA.of (hs.get (i:=0) rfl) (Nat.le_of_ble_eq_true rfl)) rfl oM rfl dE (fun g3 SW fP=> ?_));refine U7 ?_;exact Tc.db (ih ⟨(j+1,g3),by simp only;omega,by simp only;rw[SW,gP],by simp only;rw[fP,lM,PU,zD];rfl⟩ (by simp only;omega))
end
def RD(ws:List Int):List Value:=ws.map fun z=> .int .i64 z
theorem xS(ws:List Int):(RD ws).length=ws.length:=by simp[RD]
theorem FZ {z:Int}(h:0<=z/\z<=2):fB (jA (fun i=> EB z==([o9,l9,m9][i]?.getD [])) 3)=z:=by
 have:z=0\/z=1\/z=2:=by omega
 rcases this with rfl|rfl|rfl <;> decide
theorem AX {z:Int}(h:0<=z/\z<=2):EB z≠ [110,105,108]/\EB z≠ []:=by
 have:z=0\/z=1\/z=2:=by omega
 rcases this with rfl|rfl|rfl <;> decide
theorem DJ {P:List (List UInt8)}(h:∀p∈P,p≠ []):(jA (fun i=> ([]:List UInt8)==P[i]?.getD []) P.length).isSome=false:=by
 rw[(KB _).2 (fun i hi=> by
  have h1:=h _ (List.getElem_mem hi);rw[List.getElem?_eq_getElem hi];simp only[Option.getD_some,beq_eq_false_iff_ne,ne_eq];exact fun e=> h1 e.symm)]
 rfl
section
variable(M:Md prog)(H:View)
theorem YZ(hC:N4 H)(s:List UInt8)(hm:s.length<=1000000)(ws:List Int)(hP:JA 44 s=ws.map EB)(hw:∀z∈ws,0<=z/\z<=2):
  bA M 180 #[gA s] H (fun v H'=> H.le H'/\∃g:Gl 110 1,v=g.val/\(g.n=ws.length/\g.l=RD ws)/\∀x∈g.bl,H' x.1=some x.2/\H x.1=none):=by
 obtain⟨f0,gt0,gz0,hC0⟩:=hC;have XH:(s== [110,105,108])=false:=by
  simp only[beq_eq_false_iff_ne,ne_eq];intro e;subst e;cases ws with
  | nil=> cases hP
  | cons z l=>
   have h1:([110,105,108]:List UInt8)=EB z:=by
    have:=congrArg List.head? hP;simpa [JA] using this
   exact(AX (hw z List.mem_cons_self)).1 h1.symm
 have e0:RL.HC .eql s [110,105,108]=some (.bool false):=by
  show some (Value.bool (s== [110,105,108]))=_;rw[XH]
 have hPl:(JA 44 s).length=ws.length:=by rw[hP,List.length_map]
 have hlen:ws.length<=1000001:=by
  have h1:=cH 44 s;have h2:s.count 44<=s.length:=List.count_le_length;omega
 have XO:=fun H=> WM M H s 44 hm;generalize JA 44 s=P at hP hPl XO;subst hP;refine .en func180 ntmps180 fun St c cs hK=> ?_;refine TR ?_;refine .e (Or.PB (DO (ws.map EB)) (TK (ws.map EB)) (fun _=> True) rfl rfl rfl rfl rfl dE (fun _=> by simp[TK]) (fun H hs=> .h (XO H)) (fun b _=> ?_));refine U4 ?_;refine Tc.db (Tc.sA (σ:= { x:Nat×Gl 110 1//x.1<=ws.length/\x.2.n=x.1/\x.2.l=RD (ws.take x.1) }) (fun x=> ([(3,x.1.2.val),(10,DO (ws.map EB) b),(11,.int .i64 ((ws.map EB).length:Nat)),(12,.int .i64 (x.1.1:Nat))],[(b,true,.cells ⟨VA (ws.map EB)⟩ 9 (0,0))]++x.1.2.bl)) (fun x=> ws.length-x.1.1) ?_ ⟨(0,Gl.nil 110 1),Nat.zero_le _,rfl,rfl⟩);rintro⟨⟨i,g⟩,hi,MG,dL⟩ ih;simp only at hi MG dL;show Tc M St _ _ _ _ [(3,g.val),(10,DO (ws.map EB) b),(11,.int .i64 ((ws.map EB).length:Nat)),(12,.int .i64 (i:Nat))] ([(b,true,.cells ⟨VA (ws.map EB)⟩ 9 (0,0))]++g.bl) _ _;by_cases c1:i=ws.length
 ·clear ih;subst c1;rw[List.take_length] at dL;refine PF ?_;refine .rt hK func180 results180 [_] ?_;exact fun H' hs=> ⟨hs.base,g,rfl,⟨MG,dL⟩,fun x hx=> ⟨hs.at_ x (List.mem_append_right _ hx),hs.out x (List.mem_append_right _ hx)⟩⟩
 ·have c2:i<ws.length:=by omega
  have hz:=hw _ (List.getElem_mem c2);have f1:tE false 1 (VA (ws.map EB)) (0+((i:Nat):Int).toNat*1)=some (gA (EB ws[i])):=by
   show(VA (ws.map EB))[0+((i:Nat):Int).toNat*1]? =_;unfold VA;rw[Int.toNat_natCast,Nat.zero_add,Nat.mul_one,List.getElem?_map,List.getElem?_map,List.getElem?_eq_getElem c2];rfl
  have PW:=FZ hz;have aAm:=fun(H':View) (h':H.le H')=> fS M H' (some ⟨0,0,none⟩) 3 3 (fun i=> [o9,l9,m9][i]?.getD []) (VE (P:= [o9,l9,m9]) (jj:= []) (h' _ _ hC0)) dE (EB ws[i]);rw[PW] at aAm;have g1:mA .geq .i64 ws[i] 0=some (.bool true):=jJ hz.1;have W8:RD (ws.take (i+1))=RD (ws.take i)++[.int .i64 ws[i]]:=by unfold RD;rw[List.take_succ_eq_append_getElem c2,List.map_append];rfl
  obtain⟨z,Y8⟩:∃z,z=ws[i]:=⟨_,rfl⟩
  rw[<-Y8] at hz f1 aAm g1 W8;clear Y8;refine TJ ?_;refine .x (pA.J3 (E:=en) (l:=0) (h:=3) rfl rfl rfl rfl rfl rfl rfl rfl oM oM oM rfl) ?_;refine U ?_;refine .cl (fun H hs=> aAm H hs.base) ?_;refine U6 ?_;refine .cl (fun H hs=> aF M H) ?_;refine U4 ?_;refine .e (.bs (zz:=fun bs=> ?_));refine .e (Or.append (E:=en) 2 rfl rfl rfl rfl rfl rfl rfl rfl rfl rfl rfl rfl rfl rfl rfl (fun H hs=> ZA.of (hs.get (i:=0) rfl) (Nat.le_of_ble_eq_true rfl)) rfl oM rfl dE (fun g3 SW fP=> ?_));refine U7 ?_;exact Tc.db (ih ⟨(i+1,g3),by simp only;omega,by simp only;omega,by simp only;rw[fP,dL,W8];rfl⟩ (by simp only;omega))
def aCx(a b:Int):Value:=.iface 202 (.agg ⟨[.int .i64 a,.int .i64 b]⟩)
def Z8(a b:List UInt8)(g:Gl 110 1):Value:=.iface 204 (.agg ⟨[gA a,gA b,g.val]⟩)
def aB5(a b x y:Int):Value:=.iface 206 (.agg ⟨[.int .i64 a,.int .i64 b,.int .i64 x,.int .i64 y]⟩)
theorem sV(s p q:List UInt8)(hm:s.length<=1000000)(hP:JA 59 s= [NK,p,q])(hl:p.length<=1000000/\q.length<=1000000)(hp:cG p=true)(hq:cG q=true)(hp0:p≠ [])(Q8:q≠ []):
  bA M 103 #[gA s] H (fun v H'=> H.le H'/\v=aCx (numOf p) (numOf q)):=by
 have XO:=fun H=> WM M H s 59 hm;rw[hP] at XO;have dC:=DJ (P:= [NK,p,q]) (by intro x hx;simp only[List.mem_cons,List.not_mem_nil,or_false] at hx;rcases hx with rfl|rfl|rfl <;> first|assumption|decide);have c1:=fun H=> eI M H p hl.1 hp;have c2:=fun H=> eI M H q hl.2 hq;generalize numOf p=x at c1;generalize numOf q=z at c2;refine .en func103 ntmps103 fun St c cs hK=> ?_;refine U7 ?_;refine .e (Or.PB (DO [NK,p,q]) (TK [NK,p,q]) (fun _=> True) rfl rfl rfl rfl rfl dE (fun _=> by simp[TK]) (fun H hs=> .h (XO H)) (fun b _=> ?_));refine U5 ?_;refine .cl (fun H hs=> EH M H (some ⟨b,0,none⟩) 3 3 (fun i=> [NK,p,q][i]?.getD []) (VE (P:= [NK,p,q]) (jj:= []) (hs.get (i:=0) rfl)) dE [] false dC) ?_;refine U ?_;refine .cl (fun H hs=> aF M H) ?_;refine U4 ?_;refine Tc.db (R':= [(3,.slice (some ⟨b,0,none⟩) 3 3)]) (L':= [(b,true,.cells ⟨[gA NK,gA p,gA q]⟩ 9 (0,0))]) ?_;refine vF ?_;refine Tc.dr [] [] mixed rfl ?_;refine V3 0 ?_;refine .z 3 rfl (pA.tk fun H hs=> c1 H) ?_;refine V3 4 ?_;refine .z 7 rfl (pA.tk fun H hs=> c2 H) ?_;refine .nn 8 ?_;refine .q 9 rfl (pA.iface rfl rfl kR) ?_;refine .nn 10 ?_;refine .dn ?_;refine .rt hK func103 results103 [_] ?_;exact okB
theorem jT(s p q:List UInt8)(hm:s.length<=1000000)(hP:JA 59 s= [fH,p,q])(hl:p.length<=1000000/\q.length<=1000000)(hp:KH p=true)(hq:KH q=true)(hp0:p≠ [])(Q8:q≠ []):
  bA M 103 #[gA s] H (fun v H'=> H.le H'/\v=aB5 (JH p) (eJ p) (JH q) (eJ q)):=by
 have XO:=fun H=> WM M H s 59 hm;rw[hP] at XO;have dC:=DJ (P:= [fH,p,q]) (by intro x hx;simp only[List.mem_cons,List.not_mem_nil,or_false] at hx;rcases hx with rfl|rfl|rfl <;> first|assumption|decide);have c1:=fun H=> rS M H p hl.1 hp;have c2:=fun H=> rS M H q hl.2 hq;generalize JH p=x1 at c1;generalize eJ p=x2 at c1;generalize JH q=z1 at c2;generalize eJ q=z2 at c2;refine .en func103 ntmps103 fun St c cs hK=> ?_;refine U7 ?_;refine .e (Or.PB (DO [fH,p,q]) (TK [fH,p,q]) (fun _=> True) rfl rfl rfl rfl rfl dE (fun _=> by simp[TK]) (fun H hs=> .h (XO H)) (fun b _=> ?_));refine U5 ?_;refine .cl (fun H hs=> EH M H (some ⟨b,0,none⟩) 3 3 (fun i=> [fH,p,q][i]?.getD []) (VE (P:= [fH,p,q]) (jj:= []) (hs.get (i:=0) rfl)) dE [] false dC) ?_;refine U ?_;refine .cl (fun H hs=> aF M H) ?_;refine U4 ?_;refine Tc.db (R':= [(3,.slice (some ⟨b,0,none⟩) 3 3)]) (L':= [(b,true,.cells ⟨[gA fH,gA p,gA q]⟩ 9 (0,0))]) ?_;refine U40 ?_;refine .cl (fun H hs=> aF M H) ?_;refine U2 ?_;refine Tc.dr [] [] mixed rfl ?_;refine V3 0 ?_;refine .z 3 rfl (pA.tk fun H hs=> c1 H) ?_;refine V3 4 ?_;refine .z 7 rfl (pA.tk fun H hs=> c2 H) ?_;refine V2 8 ?_;refine .q 10 rfl (pA.iface rfl rfl kR) ?_;refine .nn 11 ?_;refine .dn ?_;refine .rt hK func103 results103 [_] ?_;exact okB
theorem tV(hC:N4 H)(s p q w:List UInt8)(hm:s.length<=1000000)(hP:JA 59 s= [OK,p,q,w])(hl:w.length<=1000000)(ws:List Int)(hW:JA 44 w=ws.map EB)(hw:∀z∈ws,0<=z/\z<=2)(hp0:p≠ [])(Q8:q≠ [])(hw0:w≠ []):
  bA M 103 #[gA s] H (fun v H'=> H.le H'/\∃g:Gl 110 1,v=Z8 p q g/\(g.n=ws.length/\g.l=RD ws)/\∀x∈g.bl,H' x.1=some x.2/\H x.1=none):=by
 have XO:=fun H=> WM M H s 59 hm;rw[hP] at XO;have dC:=DJ (P:= [OK,p,q,w]) (by intro x hx;simp only[List.mem_cons,List.not_mem_nil,or_false] at hx;rcases hx with rfl|rfl|rfl|rfl <;> first|assumption|decide);refine .en func103 ntmps103 fun St c cs hK=> ?_;refine U7 ?_;refine .e (Or.PB (DO [OK,p,q,w]) (TK [OK,p,q,w]) (fun _=> True) rfl rfl rfl rfl rfl dE (fun _=> by simp[TK]) (fun H hs=> .h (XO H)) (fun b _=> ?_));refine U5 ?_;refine .cl (fun H hs=> EH M H (some ⟨b,0,none⟩) 4 4 (fun i=> [OK,p,q,w][i]?.getD []) (VE (P:= [OK,p,q,w]) (jj:= []) (hs.get (i:=0) rfl)) dE [] false dC) ?_;refine U ?_;refine .cl (fun H hs=> aF M H) ?_;refine U4 ?_;refine Tc.db (R':= [(3,.slice (some ⟨b,0,none⟩) 4 4)]) (L':= [(b,true,.cells ⟨[gA OK,gA p,gA q,gA w]⟩ 9 (0,0))]) ?_;refine U28 ?_;refine Tc.dr [] [] mixed rfl ?_;refine V9 0 ?_;refine .ea 9 rfl (Or.PB Gl.val Gl.bl (fun g:Gl 110 1=> g.n=ws.length/\g.l=RD ws) rfl rfl rfl rfl rfl dE Gl.LH (fun H hs=> .h (YZ M H (hC.le hs.base) w hl ws hW hw)) (fun g hg=> ⟨S2.mk sL (.inr sL),?_⟩));refine V2 10 ?_;refine .q 12 rfl (pA.iface rfl rfl kR) ?_;refine .nn 13 ?_;refine .dn ?_;refine .rt hK func103 results103 [_] ?_;exact fun H' hs=> ⟨hs.base,g,rfl,hg,fun x hx=> ⟨hs.at_ x (List.mem_append_right _ hx),hs.out x (List.mem_append_right _ hx)⟩⟩
end
def UB(s:List UInt8):List (List UInt8):=
 (((JA 10 s).dropLast).map fun p=> p++[10])++(if((JA 10 s).getLast?.getD [])= [] then [] else [(JA 10 s).getLast?.getD []])
theorem uV:UB []= []:=rfl
theorem aQ {s:List UInt8}(h:(10:UInt8) ∉ s)(nB:s≠ []):UB s= [s]:=by
 unfold UB;rw[sF 10 s h];show []++(if s= [] then [] else [s])=_;rw[if_neg nB];rfl
theorem IJ {p q:List UInt8}(h:(10:UInt8) ∉ p):UB (p++10::q)=(p++[10])::UB q:=by
 unfold UB;rw[FF 10 q p h];cases hq:JA 10 q with
 | nil=> exact(dQ 10 q hq).elim
 | cons a l=> rfl
def pR(b1:Nat):Value:=.func (.func 175) #[] #[.pointer (some ⟨b1,0,none⟩)]
section
variable(M:Md prog)(H:View)
theorem N5(s:List UInt8):bA M 102 #[gA s] H (fun v H'=> H.le H'/\∃b,v=pR b/\True/\∀z∈ [(b,true,Obj.cells ⟨[gA s]⟩ 9 (0,0))],H' z.1=some z.2/\H z.1=none):=by
 refine .en func102 ntmps102 fun St c cs hK=> ?_;refine U2 ?_;refine .bo fun b1=> ?_;refine U7 ?_;refine .rt hK func102 results102 [_] ?_;refine fun H' hs=> ⟨hs.base,b1,rfl,trivial,fun z hz=> ?_⟩
 simp only[List.mem_singleton] at hz;subst hz;exact⟨hs.get (i:=0) rfl,hs.fresh (i:=0) rfl⟩
theorem V1(s:List UInt8)(hm:s.length<=1000000)(b1:Nat):
  tP M (pR b1) (UB s) (fun x (_:Unit)=> [gA x]) (fun _ _=> []) (fun _ _=> []) (fun _=> True) [(b1,true,.cells ⟨[gA s]⟩ 9 (0,0))] H:=fun l J D _ h0 hy H₀ ZD=> by
 refine yB.of (first:= []) (captured:= [_]) aCl rfl ?_;refine bA.enter (vs:= [.func (.yield l) #[] #[],.pointer (some ⟨b1,0,none⟩)]) func175 rfl ntmps175 (Nat.le_of_ble_eq_true rfl) (ZD) fun St c cs hK=> ?_;refine U ?_;refine Tc.db (Tc.oJ (σ:= { x:List UInt8×View//J (UB x.1) x.2/\x.1.length<=1000000/\∃dn,dn++UB x.1=UB s }) (fun x=> (x.1.2,[(0,.func (.yield l) #[] #[]),(1,.pointer (some ⟨b1,0,none⟩))],[(b1,true,.cells ⟨[gA x.1.1]⟩ 9 (0,0))])) (fun x=> x.1.1.length) ?_ ⟨(s,H),h0,hm,[],rfl⟩);rintro⟨⟨r,H₁⟩,j1,hr,dn,hdn⟩ ih;simp only at j1 hr hdn;show Tc M St _ _ H₁ _ [(0,.func (.yield l) #[] #[]),(1,.pointer (some ⟨b1,0,none⟩))] [(b1,true,.cells ⟨[gA r]⟩ 9 (0,0))] _ _;by_cases c1:r= []
 ·clear ih;subst c1;refine U9 ?_;refine .ov hK func175 results175 [] ?_;exact fun H' hs=> ⟨H₁,hs.base,.inl j1⟩
 ·have c2:1<=r.length:=List.length_pos_iff.2 c1;rcases GU 10 r with h0|⟨p,q,rfl,h0⟩
  ·have hx:=O1 h0;rw[aQ h0 c1] at j1 hdn;have JD:r∈UB s:=by rw[<-hdn];simp
   refine SR ?_;refine .cl (fun H hs=> YJ M H r 10 _ hx) ?_;refine TJ ?_;refine To.uB rfl rfl rfl rfl rfl rfl dE (hy r [] () H₁ H₁ JD j1 (iA.nil _)) (fun v H₂ hv=> ?_);rcases hv with ⟨rfl,H₃,h3,j3⟩|⟨rfl,hD⟩
   ·have UJ:=ih ⟨([],H₃),j3,by simp,dn++[r],by rw[uV,List.append_nil];exact hdn⟩ (by simp only[List.length_nil];omega);refine To.lower h3.base ?_;refine U5 ?_;exact Tc.db (UJ)
   ·refine U3 ?_;refine .rt hK func175 results175 [] ?_;exact fun H' hs=> ⟨H₂,hs.base,.inr hD⟩
  ·have hx:=gN (q:=q) h0;rw[IJ h0] at j1 hdn;have JD:p++[10]∈UB s:=by rw[<-hdn];simp
   have hl:(p++10::q).length=p.length+1+q.length:=by simp;omega
   have t1:((p++10::q).drop ((0:Nat):Int).toNat).take ((((p.length:Nat):Int)+1).toNat-((0:Nat):Int).toNat)=p++[10]:=by
    have e:(((p.length:Nat):Int)+1).toNat=p.length+1:=by omega
    rw[e,show p++10::q=(p++[10])++q by simp];show((p++[10])++q).take (p.length+1-0)=_;rw[List.take_left' (by simp)]
   have t2:((p++10::q).drop (((p.length:Nat):Int)+1).toNat).take ((((p++10::q).length:Nat):Int).toNat-(((p.length:Nat):Int)+1).toNat)=q:=by
    have e:(((p.length:Nat):Int)+1).toNat=p.length+1:=by omega
    rw[e,hl,List.drop_append,List.drop_of_length_le oM,List.nil_append,Nat.add_sub_cancel_left,List.drop_succ_cons,List.drop_zero];exact List.take_of_length_le oM
   have UJ:=fun(H₃:View) (j3:J (UB q) H₃)=> ih ⟨(q,H₃),j3,by simp only;omega,dn++[p++[10]],by rw[<-hdn];simp⟩ (by simp only;omega);clear ih;simp only at UJ;obtain⟨r,p7⟩:∃r,r=p++10::q:=⟨_,rfl⟩
   rw[<-p7] at hl hx t1 t2 hr c2 ⊢;refine SR ?_;refine .cl (fun H hs=> YJ M H r 10 _ hx) ?_;refine U8 ?_;refine Tc.dr [9] [0] mixed rfl ?_;refine V3 0 ?_;refine .q 3 rfl (pA.kD (E:=en) rfl rfl rfl rfl rfl rfl oM oM oM) ?_;refine V3 4 ?_;refine .q 7 rfl (pA.kD (E:=en) rfl rfl rfl rfl rfl rfl oM oM oM) ?_;refine .nn 8 ?_;refine .e 9 0 ?_;refine .dn ?_;rw[t1,t2];refine U4 ?_;refine To.uB rfl rfl rfl rfl rfl rfl dE (hy (p++[10]) (UB q) () H₁ H₁ JD j1 (iA.nil _)) (fun v H₂ hv=> ?_);rcases hv with ⟨rfl,H₃,h3,j3⟩|⟨rfl,hD⟩
   ·refine To.lower h3.base ?_;refine U5 ?_;exact Tc.db (UJ H₃ j3)
   ·refine U3 ?_;refine .rt hK func175 results175 [] ?_;exact fun H' hs=> ⟨H₂,hs.base,.inr hD⟩
end
end Go.Proofs.YtldmfjcgjdchcaaGreatDoor
namespace Go.Proofs.YtldmfjcgjdchcaaGreatDoor
open Go.RL Go.Proofs.Tryz
set_option maxRecDepth 10000
theorem KJ(y:UInt8):∀(l:List (List UInt8)) (p:List UInt8),(∀q∈p::l,y ∉ q)->JA y (kC y (p::l))=p::l
 | [],p,h=> by
  show JA y (p++[])=_;rw[List.append_nil];exact sF y p (h p List.mem_cons_self)
 | q::l,p,h=> by
  have ih:=KJ y l q fun r hr=> h r (List.mem_cons_of_mem _ hr);have e:kC y (p::q::l)=p++y::kC y (q::l):=by simp[kC]
  rw[e,FF y _ p (h p List.mem_cons_self),ih]
theorem oV(y:UInt8)(s:List UInt8):lastB y (s++[y])=true:=by simp[lastB]
theorem HP(y:UInt8)(s:List UInt8):AG y (s++[y])=s:=by
 unfold AG;rw[if_pos (oV y s),List.dropLast_concat]
theorem A6 {y:UInt8}{s:List UInt8}(h:y ∉ s):AG y s=s:=by
 unfold AG;rw[if_neg];intro e;have e:s.getLast? =some y:=by simpa [lastB] using e
 exact h (List.mem_of_getLast? e)
def feed(S:List (List UInt8)):List UInt8:=S.flatMap fun s=> s++[10]
theorem EI(s:List UInt8)(S:List (List UInt8)):feed (s::S)=s++10::feed S:=by simp[feed]
theorem kQ:∀(S:List (List UInt8)),(∀s∈S,(10:UInt8) ∉ s)->(UB (feed S)).map (AG 10)=S
 | [],_=> rfl
 | s::S,h=> by
  have ih:=kQ S fun r hr=> h r (List.mem_cons_of_mem _ hr);rw[EI,IJ (h s List.mem_cons_self),List.map_cons,ih,HP]
theorem UT:∀(S:List (List UInt8)),(∀s∈S,(10:UInt8) ∉ s/\s≠ [])->(UB (feed S).dropLast).map (AG 10)=S
 | [],_=> rfl
 | [s],h=> by
  obtain⟨h1,h2⟩:=h s List.mem_cons_self;have e:(feed [s]).dropLast=s:=by
   rw[EI];show(s++[10]).dropLast=s;exact List.dropLast_concat
  rw[e,aQ h1 h2,List.map_cons,List.map_nil,A6 h1]
 | s ::r::S,h=> by
  have ih:=UT (r::S) fun q hq=> h q (List.mem_cons_of_mem _ hq);have nB:feed (r::S)≠ []:=by rw[EI];simp
  have e:(feed (s::r::S)).dropLast=s++10::(feed (r::S)).dropLast:=by
   rw[EI,List.dropLast_append_of_ne_nil (by simp)];cases hf:feed (r::S) with
   | nil=> exact(nB hf).elim
   | cons a l=> rfl
  rw[e,IJ (h s List.mem_cons_self).1,List.map_cons,ih,HP]
def HT(k:Bk):List (List (List UInt8)):=YD k::(((List.range k.nl).map (ND k))++(List.range k.nt).map (rC k))
def sH(k:Bk):List (List UInt8):=(HT k).map (kC 59)
theorem uM(k:Bk):cF k=feed (sH k):=by
 unfold cF TB feed sH HT;simp only[List.map_cons,List.map_append,List.map_map,List.flatMap_cons,List.flatMap_append,List.flatMap_map,List.append_assoc,QF,Function.comp_def]
theorem qY(k:Bk):(sH k).length=1+k.nl+k.nt:=by simp[sH,HT];omega
theorem M7(k:Bk):(sH k)[0]? =some (kC 59 (YD k)):=rfl
theorem LV(k:Bk){i:Nat}(h:i<k.nl):(sH k)[1+i]? =some (kC 59 (ND k i)):=by
 unfold sH HT;rw[List.getElem?_map,Nat.add_comm 1 i,List.getElem?_cons_succ,List.getElem?_append_left (by simpa using h),List.getElem?_map,List.getElem?_range h];rfl
theorem KT(k:Bk){j:Nat}(h:j<k.nt):(sH k)[1+k.nl+j]? =some (kC 59 (rC k j)):=by
 unfold sH HT;rw[List.getElem?_map,show 1+k.nl+j=(k.nl+j)+1 by omega,List.getElem?_cons_succ,List.getElem?_append_right (by simp)];simp only[List.length_map,List.length_range,Nat.add_sub_cancel_left,List.getElem?_map,List.getElem?_range h];rfl
def VD(s:List UInt8):Prop:=s≠ []/\(59:UInt8) ∉ s/\(10:UInt8) ∉ s
structure p8(k:Bk):Prop where
 fQ:E9 k
 name:∀i,i<k.nl->VD (k.name i)
 num:∀i,i<k.nl->VD (k.num i)
 tr:∀j,j<k.nt->1<=k.pf j/\k.pf j<=k.pt j
theorem NI {z:Int}(h:gZ z):cG (aH z)=true/\numOf (aH z)=z/\(58:UInt8) ∉ aH z/\VD (aH z):=by
 obtain⟨h1,h2,h3,h4,h5,_,h7⟩:=vT z.toNat (by have:=h.1;have:=h.2;omega);refine⟨h1,?_,h3,h7,h4,h5⟩;show numOf (bJ z.toNat)=z;rw[h2];exact Int.toNat_of_nonneg h.1
theorem fK {a b:Int}(ha:gZ a)(hb:gZ b):KH (yF a b)=true/\JH (yF a b)=a/\eJ (yF a b)=b/\VD (yF a b):=by
 obtain⟨a1,a2,a3,a4,a5,a6⟩:=NI ha;obtain⟨b1,b2,b3,b4,b5,b6⟩:=NI hb;unfold yF;split
 ·rename_i e
  subst e;obtain⟨c1,c2,c3⟩:=CP a3;exact⟨c1.trans a1,c2.trans a2,c3.trans a2,a4,a5,a6⟩
 ·rename_i e
  obtain⟨c1,c2,c3⟩:=tN (q:=aH b) a3;refine⟨?_,c2.trans a2,c3.trans b2,by simp,?_,?_⟩
  ·rw[c1,a1,b1,a2,b2];simpa using e
  ·simp only[List.mem_append,List.mem_cons,not_or];exact⟨a5,by decide,b5⟩
  ·simp only[List.mem_append,List.mem_cons,not_or];exact⟨a6,by decide,b6⟩
theorem zX(z:Int):(44:UInt8) ∉ EB z/\VD (EB z):=by
 unfold EB;split
 ·exact⟨by decide,by unfold VD;decide⟩
 ·split <;> exact⟨by decide,by unfold VD;decide⟩
theorem FL {x y:UInt8}{l:List (List UInt8)}(h:x∈kC y l):x=y\/∃p∈l,x∈p:=by
 cases l with
 | nil=> cases h
 | cons p l=>
  rcases List.mem_append.1 h with h|h
  ·exact .inr ⟨p,List.mem_cons_self,h⟩
  ·obtain⟨q,h1,h2⟩:=List.mem_flatMap.1 h;rcases List.mem_cons.1 h2 with h2|h2
   ·exact .inl h2
   ·exact .inr ⟨q,List.mem_cons_of_mem _ h1,h2⟩
theorem E8 {k:Bk}{i n:Nat}(hn:1<=n):JA 44 (kC 44 (ID k i n))=ID k i n/\VD (kC 44 (ID k i n)):=by
 have OA:∀p∈ID k i n,(44:UInt8) ∉ p/\VD p:=fun p hp=> by
  obtain⟨j,_,rfl⟩:=List.mem_map.1 hp;exact zX _
 have hl:=DG k i n;cases hf:ID k i n with
 | nil=> rw[hf] at hl;simp at hl;omega
 | cons p l=>
  rw[hf] at OA;refine⟨KJ 44 l p fun q hq=> (OA q hq).1,?_,?_,?_⟩
  ·intro e;have h1:p= []:=(List.append_eq_nil_iff.1 e).1;exact(OA p List.mem_cons_self).2.1 h1
  ·intro hx;rcases FL hx with h|⟨q,h1,h2⟩
   ·exact absurd h dE
   ·exact(OA q h1).2.2.1 h2
  ·intro hx;rcases FL hx with h|⟨q,h1,h2⟩
   ·exact absurd h dE
   ·exact(OA q h1).2.2.2 h2
theorem JI {p:List UInt8}{l:List (List UInt8)}(h:∀q∈p::l,VD q):JA 59 (kC 59 (p::l))=p::l/\(10:UInt8) ∉ kC 59 (p::l)/\kC 59 (p::l)≠ []:=by
 refine⟨KJ 59 l p fun q hq=> (h q hq).2.1,?_,?_⟩
 ·intro hx;rcases FL hx with h1|⟨q,h1,h2⟩
  ·exact absurd h1 dE
  ·exact(h q h1).2.2 h2
 ·intro e;exact(h p List.mem_cons_self).1 (List.append_eq_nil_iff.1 e).1
theorem PS {k:Bk}(hp:p8 k):∀q∈YD k,VD q:=by
 intro q hq;simp only[YD,List.mem_cons,List.not_mem_nil,or_false] at hq;rcases hq with rfl|rfl|rfl
 ·exact⟨by decide,by decide,by decide⟩
 ·exact(NI hp.fQ.cD).2.2.2
 ·exact(NI hp.fQ.rB).2.2.2
theorem iT {k:Bk}(hp:p8 k){i:Nat}(hi:i<k.nl):∀q∈ND k i,VD q:=by
 intro q hq;simp only[ND,List.mem_cons,List.not_mem_nil,or_false] at hq;rcases hq with rfl|rfl|rfl|rfl
 ·exact⟨by decide,by decide,by decide⟩
 ·exact hp.name i hi
 ·exact hp.num i hi
 ·exact(E8 (hp.fQ.nf i hi).1).2
theorem lQ {k:Bk}(hp:p8 k){j:Nat}(hj:j<k.nt):∀q∈rC k j,VD q:=by
 obtain⟨h1,h2,h3,h4⟩:=hp.fQ.tr j hj;intro q hq;simp only[rC,List.mem_cons,List.not_mem_nil,or_false] at hq;rcases hq with rfl|rfl|rfl
 ·exact⟨by decide,by decide,by decide⟩
 ·exact(fK h1 h2).2.2.2
 ·exact(fK h3 h4).2.2.2
theorem IT {k:Bk}(hp:p8 k):∀s∈sH k,(10:UInt8) ∉ s/\s≠ []:=by
 intro s hs;obtain⟨l,hl,rfl⟩:=List.mem_map.1 hs;rcases List.mem_cons.1 hl with rfl|hl
 ·exact(JI (PS hp)).2
 ·rcases List.mem_append.1 hl with hl|hl
  ·obtain⟨i,hi,rfl⟩:=List.mem_map.1 hl;exact(JI (iT hp (List.mem_range.1 hi))).2
  ·obtain⟨j,hj,rfl⟩:=List.mem_map.1 hl;exact(JI (lQ hp (List.mem_range.1 hj))).2
def oN(k:Bk)(s:List UInt8):Prop:=(UB s).map (AG 10)=sH k
theorem TT {k:Bk}(hp:p8 k):oN k (cF k):=by
 unfold oN;rw[uM];exact kQ _ fun s hs=> (IT hp s hs).1
theorem RV {k:Bk}(hp:p8 k):oN k (cF k).dropLast:=by
 unfold oN;rw[uM];exact UT _ (IT hp)
end Go.Proofs.YtldmfjcgjdchcaaGreatDoor
namespace Go.RL
open Go.Conc
def OY {P:Program}(M:Md P)(g:FuncId)(args:Array Value)(H:View)(Q:View->Prop):Prop:=
 ∀(St:View->Goroutine->Prop) (b:FB) (tmps:Array Value) (ds:List Deferred) (todo:List Item) (cs:List Frame),(∀H',Q H'->T M St H' (G (b.back tmps ds todo) cs))->T M St H (G (Frame.enter P g args .deferred) (b.back tmps ds todo::cs))
def clo(g:FuncId)(args captured:Array Value):Deferred:= { target:=.fn (.func g) captured,args }
section
variable {P:Program}{E:Env P}{M:Md P}{St:View->Goroutine->Prop}{n:Nat}{b:FB}{H₀:View}{cs:List Frame}{R:Rg}{L L₁:Bl}{ds:List Deferred}{k:List Item}
theorem T.CX {H:View}{tmps:Array Value}{todo:List Item}{g:FuncId}{args captured:Array Value}(hg:CA P g=true)
  (h:T M St H (G (Frame.enter P g (args++captured) .deferred) (b.back tmps ds todo::cs))):T M St H (G (b.back tmps (clo g args captured::ds) todo) cs):=by
 refine .step ⟨rfl,fun w hs _=> ?_⟩;obtain⟨v,H',w',es,h1,h2,h3⟩:=SC (callFunc g (args++captured)) #[] hs (kH (Q:=fun nx H'=> nx=.enter g (args++captured)/\H'=H) hg ⟨rfl,rfl⟩);obtain⟨rfl,rfl⟩:=h3;rw[Array.empty_append] at h1;refine⟨_,w',seen P b.fn es,H',?_,h2.sub fun e he=> mem_seen he,h⟩;have e:stepG P M.main (G (b.back tmps (clo g args captured::ds) todo) cs) w=unwind P M.main (b.back tmps (clo g args captured::ds) todo) cs Option.none w:=by
  simp[G,stepG,FB.back]
 rw[e];unfold unwind;simp only[FB.back,clo];have hi:invoke (.fn (.func g) captured) args=callFunc g (args++captured):=by
  unfold invoke;rfl
 unfold callDeferred;rw[if_neg (by simp),hi];simp only[h1];rfl
theorem T.T1 {fn:Func}{H:View}{b₀:FB}{tmps tmps₀:Array Value}{ds₀:List Deferred}{todo todo₀:List Item}(hf:P.funcs[b.fn]? =some fn)(hk:b.kind=.deferred)
  (h:EA P (results fn tmps) H fun _ H'=> T M St H' (G (b₀.back tmps₀ ds₀ todo₀) cs)):T M St H (G (b.back tmps [] todo) (b₀.back tmps₀ ds₀ todo₀::cs)):=by
 refine .step ⟨rfl,fun w hs _=> ?_⟩;obtain⟨v,H',w',es,h1,h2,h3⟩:=SC _ #[] hs h;rw[Array.empty_append] at h1;refine⟨_,w',seen P b.fn es,H',?_,h2.sub fun e he=> mem_seen he,h3⟩;have:stepG P M.main (G (b.back tmps [] todo) (b₀.back tmps₀ ds₀ todo₀::cs)) w=unwind P M.main (b.back tmps [] todo) (b₀.back tmps₀ ds₀ todo₀::cs) Option.none w:=by
  simp[G,stepG,FB.back]
 rw[this];unfold unwind;simp only[FB.back,hf,h1,doReturn,hk,GStep.after,G,Array.append_empty]
theorem To.GV {dl:List (Option Tmp)}{l:List Oper}{o:Oper}{d:Nat}{cl:Go.Call}{g:FuncId}{b₀:FB}{tmps₀:Array Value}{ds₀:List Deferred}{todo₀:List Item}(kA:o.op=.call cl)(iB:cl.callee=.builtin .recover)(hw:KA dl R o=some true)(hd:o.dst=some d)(hn:d<n)
  (h:To M St n ⟨g,.deferred,none⟩ H₀ (b₀.back tmps₀ ds₀ todo₀::cs) dl ((d,.nilIface)::R) L ds l k):To M St n ⟨g,.deferred,none⟩ H₀ (b₀.back tmps₀ ds₀ todo₀::cs) dl R L ds (o::l) k:=fun arr ix ha hx=> by
 cases ix with
 | nil=> simp at hx
 | cons i r=>
  simp only[List.map_cons,List.cons.injEq] at hx;intro H tmps hs hr;have hwd:=wB ha hr hw;have hf:=FB.finish_at (⟨g,.deferred,none⟩:FB) tmps ds arr i r k .nilIface;rw[hx.1] at hf;simp only[Option.bind_some,hd] at hf;refine .step ⟨rfl,fun w X8 _=> ⟨_,w,#[],H,?_,.refl X8,h arr r ha hx.2 H _ hs (hr.put hn .nilIface)⟩⟩;have hex:execOp (CB tmps) o=Sem.pure .recover:=by
   unfold execOp;rw[kA];unfold resolve;simp only[iB];rfl
  have T6:((⟨g,.deferred,none⟩:FB).at tmps ds (.inRegion arr (i::r)::k)).eval=CB tmps:=FB.eval_at _ _ _ _;have h1:stepG P M.main (G ((⟨g,.deferred,none⟩:FB).at tmps ds (.inRegion arr (i::r)::k)) (b₀.back tmps₀ ds₀ todo₀::cs)) w=stepG.apply P true ((⟨g,.deferred,none⟩:FB).at tmps ds (.inRegion arr (i::r)::k)) (b₀.back tmps₀ ds₀ todo₀::cs) none (execOp ((⟨g,.deferred,none⟩:FB).at tmps ds (.inRegion arr (i::r)::k)).eval o) w:=by
   simp[G,stepG,stepG.exec,stepG.oper,Frame.oper?,FB.at,hx.1,hwd,kA]
  rw[h1,T6,hex];unfold stepG.apply;rw[if_pos rfl];have hr0:(Sem.pure Next.recover:Sem Next).runT P w #[]=(.ok .recover w,#[]):=rfl;simp only[hr0];show GStep.after (seen P g #[]) (GStep.go (G (((⟨g,.deferred,none⟩:FB).at tmps ds (.inRegion arr (i::r)::k)).finish .nilIface) (b₀.back tmps₀ ds₀ todo₀::cs)) w)=_;rw[hf];rfl
def Tb {P:Program}(M:Md P)(St:View->Goroutine->Prop)(n:Nat)(b:FB)(H₀:View)(cs:List Frame)(R:Rg)(L:Bl)(ds:List Deferred):Prop:=
 ∀H tmps todo,iA H₀ L H->RA n R tmps->T M St H (G (b.back tmps ds todo) cs)
theorem Tc.aB4(hr:b.rd=none)(h:Tb M St n b H₀ cs R L ds):Tc M St n b H₀ cs R L ds (.code .ret::k):=fun H tmps hs p7=> .aD hr (h H tmps _ hs p7)
theorem Tb.mark {i r:Nat}(hi:L[i]? =some (r,true,.deferred (some [])))(h:Tb M St n b H₀ cs R (L.set i (r,true,.deferred none)) ds):Tb M St n b H₀ cs R L (YG r::ds):=fun _ tmps todo hs hr=> .collect (by
 have hd:=hs.get hi;refine⟨true,_,hd,by simp,rfl,?_⟩;refine⟨⟨_,hd,by simp⟩,rfl,?_⟩;exact h _ tmps todo (hs.set hi (true,.deferred none)) hr)
theorem Tb.call {g:FuncId}{args captured:Array Value}(hg:CA P g=true)(hc:∀H,iA H₀ L H->OY M g (args++captured) H fun H'=> H.le H')(h:Tb M St n b H₀ cs R L ds):Tb M St n b H₀ cs R L (clo g args captured::ds):=
 fun H tmps todo hs hr=> .CX hg (hc H hs St b tmps ds todo cs fun H' hle=> h H' tmps todo (hs.mono hle) hr)
theorem Tb.leave {fn:Func}{c:Frame}{Q:Value->View->Prop}{f:FuncId}{rv:List ResultVar}{vs:List Value}(hK:∀v H',Q v H'->T M St H' (G (c.finish v) cs))(hf:P.funcs[f]? =some fn)(TP:fn.results=rv.toArray)
  (ho:mH E R L rv vs) (h:∀H',iA H₀ L H'->Q (aE vs) H'):Tb M St n ⟨f,.normal,none⟩ H₀ (c::cs) R L []:=fun _ _ _ hs hr=>
 .leave hf rfl (SA _ hK (bE hs hr TP ho (h _ hs)))
theorem To.defer {dl:List (Option Tmp)}{l:List Oper}{o:Oper}{cl:Go.Call}{x:Operand}{g:FuncId}{az first captured:List Value}(kA:o.op=.defer cl)(iB:cl.callee=.value x)(hx:HA R x=some (.func (.func g) first.toArray captured.toArray))(has:VC R cl.args.toList=some az)(cT:b.rd=none)
  (hw:KA dl R o=some true) (hd:o.dst=none) (h:To M St n b H₀ cs dl R L (clo g (first++az).toArray captured.toArray::ds) l k):To M St n b H₀ cs dl R L ds (o::l) k:=fun arr ix ha VJ=> by
 cases ix with
 | nil=> simp at VJ
 | cons i r=>
  simp only[List.map_cons,List.cons.injEq] at VJ;intro H tmps hs hr;have e1:=hr.ev hx;have XG:cl.args.map (CB tmps)=az.toArray:=by
   apply Array.ext'
   simpa using hr.evs has
  refine .op VJ.1 (wB ha hr hw) (.inl cT) ?_;have hex:execOp (CB tmps) o=(resolve (CB tmps) cl o.type).bind fun d=> Sem.pure (.defer d):=by unfold execOp;rw[kA];rfl
  rw[hex];have fV:resolve (CB tmps) cl o.type=Deferred.ofValue (.func (.func g) first.toArray captured.toArray) az.toArray:=by
   unfold resolve;rw[iB];simp only[e1,XG]
  rw[fV];simp only[Deferred.ofValue];show T M St H (G (b.at (OB tmps o.dst undef) ({ target:=.fn (.func g) captured.toArray,args:=first.toArray++az.toArray }::ds) (.inRegion arr r::k)) cs);rw[hd,show first.toArray++az.toArray=(first++az).toArray by simp];exact h arr r ha VJ.2 H _ hs hr
theorem OY.enter {f:FuncId}{fn:Func}{body:Code}{vs:List Value}{H:View}{Q:View->Prop}(hf:P.funcs[f]? =some fn)(hb:fn.body=some body)(hn:fn.ntmps=n)(hv:vs.length<=n)(hs:iA H₀ L H)
  (h:∀St b₀ tmps₀ ds₀ todo₀ cs,(∀H',Q H'->T M St H' (G ((b₀:FB).back tmps₀ ds₀ todo₀) cs))->Tc M St n ⟨f,.deferred,none⟩ H₀ (b₀.back tmps₀ ds₀ todo₀::cs) (JM vs) L [] [.code body]):OY M f vs.toArray H Q:=fun St b₀ tmps₀ ds₀ todo₀ cs hk=> by
 have:=h St b₀ tmps₀ ds₀ todo₀ cs hk H (vs.toArray++Array.replicate (n-vs.length) undef) hs ⟨by simp;omega,fun d v hd=> ?_⟩
 ·have e:Frame.enter P f vs.toArray .deferred=(⟨f,.deferred,none⟩:FB).at (vs.toArray++Array.replicate (n-vs.length) undef) [] [.code body]:=by
   simp[Frame.enter,FB.at,hf,hb,hn]
  rw[e];exact this
 ·obtain⟨_,h2⟩:=wI vs 0 d v hd;simp only[Nat.sub_zero] at h2;have xB:=(List.getElem?_eq_some_iff.1 h2).1;rw[Array.getElem?_append_left (by simpa using xB)];simpa using h2
theorem Tc.I7(E:Env P){fn:Func}{Q:View->Prop}{f:FuncId}{b₀:FB}{tmps₀:Array Value}{ds₀:List Deferred}{todo₀:List Item}(hK:∀H',Q H'->T M St H' (G (b₀.back tmps₀ ds₀ todo₀) cs))(hf:P.funcs[f]? =some fn)(TP:fn.results=([]:List ResultVar).toArray)
  (h:∀H',iA H₀ L H'->Q H'):Tc M St n ⟨f,.deferred,none⟩ H₀ (b₀.back tmps₀ ds₀ todo₀::cs) R L [] []:=fun H _ hs hr=>
 .over rfl (.T1 hf rfl (bE (E:=E) (rs:= []) (vs:= []) hs hr TP trivial (hK H (h H hs))))
end
end Go.RL
namespace Go.RL
section
variable {P:Program}{M:Md P}{St:View->Goroutine->Prop}{n:Nat}{b:FB}{H₀:View}{cs:List Frame}{R:Rg}{L:Bl}{ds:List Deferred}{todo:List Item}
theorem Tc.K9(A B:Bl)(p:(A++B).Perm L)(h:∀H₁:View,H₀.le H₁->(∀x∈B,H₁ x.1=some x.2)->Tc M St n b H₁ cs R A ds todo):Tc M St n b H₀ cs R L ds todo:=fun H tmps hs hr=> by
 obtain⟨H₂,h1,h2⟩:=(hs.perm p).PD;exact h H₂ h2.base h2.at_ H tmps h1 hr
end
end Go.RL
namespace Go.Proofs.YtldmfjcgjdchcaaGreatDoor
open Go.RL Go.Proofs.Tryz
set_option maxRecDepth 10000
set_option maxHeartbeats 32000000
def KV(k:Bk)(Fs:Nat->Option Addr×Nat)(q:Nat):List Value:= [gA (k.name q),gA (k.num q),.slice (Fs q).1 (k.nf q) (Fs q).2]
def aDE(k:Bk)(q:Nat):List Value:= [.int .i64 (k.pf q),.int .i64 (k.pt q),.int .i64 (k.qf q),.int .i64 (k.qt q)]
structure PSt(k:Bk)(H:View)(d i j:Nat)(gl:Gl 68 3)(gt:Gl 39 4)(Fs:Nat->Option Addr×Nat)(gp gv la:Int):Prop where
 hi:i<=k.nl
 hj:j<=k.nt
 hd:(d=0/\i=0/\j=0)\/(d=1+i+j/\gp=k.cD/\gv=k.rB)
 WO:j=0\/i=k.nl
 la:0<=la/\la<=2/\(j=0->la<=1)/\(d=0->la=0)
 ln:gl.n=i
 ll:gl.l=MA i (KV k Fs)
 fr:∀q,q<i->k.nf q<=(Fs q).2/\pB H (Fs q).1 (k.nf q) (k.free q)
 tn:gt.n=j
 tl:gt.l=MA j (aDE k)
theorem PSt.book {k:Bk}{H H':View}{d:Nat}{gl:Gl 68 3}{gt:Gl 39 4}{Fs:Nat->Option Addr×Nat}{gp gv la:Int}(h:PSt k H d k.nl k.nt gl gt Fs gp gv la)(hl:H.le H')(h1:∀x∈gl.bl,H' x.1=some x.2)(h2:∀x∈gt.bl,H' x.1=some x.2):
  fE H' k (gl.blk.map fun b=> ⟨b,0,none⟩) gl.cap (gt.blk.map fun b=> ⟨b,0,none⟩) gt.cap:=by
 refine⟨⟨by rw[<-h.ln];exact gl.hc,?_⟩,⟨by rw[<-h.tn];exact gt.hc,?_⟩⟩
 ·cases hb:gl.blk with
  | none=> left;have:=gl.h0 hb;have:=gl.hc;have:=h.ln;omega
  | some b=>
   right
   unfold Gl.bl at h1;rw[hb] at h1;refine⟨b,0,true,gl.l++gl.kB,68,(0,0),rfl,h1 (b,true,.cells ⟨gl.l++gl.kB⟩ 68 (0,0)) (by simp),fun i hi=> ⟨(Fs i).1,(Fs i).2,?_,(h.fr i hi).1,(h.fr i hi).2.le hl⟩⟩;rw[h.ll,Int.toNat_natCast,Nat.zero_add];exact IN (f:=KV k Fs) (fun _=> rfl) hi _
 ·cases hb:gt.blk with
  | none=> left;have:=gt.h0 hb;have:=gt.hc;have:=h.tn;omega
  | some b=>
   right
   unfold Gl.bl at h2;rw[hb] at h2;refine⟨b,0,true,gt.l++gt.kB,39,(0,0),rfl,h2 (b,true,.cells ⟨gt.l++gt.kB⟩ 39 (0,0)) (by simp),fun i hi=> ?_⟩;rw[h.tl,Int.toNat_natCast,Nat.zero_add];exact IN (f:=aDE k) (fun _=> rfl) hi _
theorem P6 {H:View}{g:Gl 110 1}{n:Nat}{x:Nat->Int}(h1:g.n=n)(h2:g.l=RD ((List.range n).map x))(hb:∀y∈g.bl,H y.1=some y.2):n<=g.cap/\pB H (g.blk.map fun b=> ⟨b,0,none⟩) n x:=by
 refine⟨by rw[<-h1];exact g.hc,?_⟩;cases hg:g.blk with
 | none=> left;have:=g.h0 hg;have:=g.hc;omega
 | some b=>
  right
  unfold Gl.bl at hb;rw[hg] at hb;refine⟨b,0,true,g.l++g.kB,110,(0,0),rfl,hb (b,true,.cells ⟨g.l++g.kB⟩ 110 (0,0)) (by simp),fun j hj=> ?_⟩;show(g.l++g.kB)[0+((j:Nat):Int).toNat*1]? =_;rw[Int.toNat_natCast,Nat.zero_add,Nat.mul_one,h2,List.getElem?_append_left (by rw[xS,List.length_map,List.length_range];exact hj)];unfold RD;rw[List.getElem?_map,List.getElem?_map,List.getElem?_range hj];rfl
theorem qZ:CA prog 356=true:=by kernel_rfl
theorem rZ:CA prog 357=true:=by kernel_rfl
theorem sZ:CA prog 358=true:=by kernel_rfl
theorem U1(p x:List UInt8)(h:AG 10 x=p):x.length<=p.length+1:=by
 subst h;unfold AG;split
 ·rw[List.length_dropLast];omega
 ·omega
section
variable(M:Md prog)(H:View)
theorem lO(a b:Int):bA M 356 #[.agg ⟨[.int .i64 a,.int .i64 b]⟩] H (fun v H'=> H.le H'/\v=.int .i64 0):=by
 refine .en func356 ntmps356 fun St c cs hK=> ?_;refine U2 ?_;refine .bo fun b1=> ?_;refine U6 ?_;refine .rt hK func356 results356 [_] ?_;exact okB
theorem mO(a b:List UInt8)(g:Gl 110 1):bA M 357 #[.agg ⟨[gA a,gA b,g.val]⟩] H (fun v H'=> H.le H'/\v=.int .i64 1):=by
 refine .en func357 ntmps357 fun St c cs hK=> ?_;refine U2 ?_;refine .bo fun b1=> ?_;refine U6 ?_;refine .rt hK func357 results357 [_] ?_;exact okB
theorem nO(a b x y:Int):bA M 358 #[.agg ⟨[.int .i64 a,.int .i64 b,.int .i64 x,.int .i64 y]⟩] H (fun v H'=> H.le H'/\v=.int .i64 2):=by
 refine .en func358 ntmps358 fun St c cs hK=> ?_;refine U2 ?_;refine .bo fun b1=> ?_;refine U6 ?_;refine .rt hK func358 results358 [_] ?_;exact okB
theorem zV(vs:List Value)(hv:vs.length=4):OY M 101 vs.toArray H (fun H'=> H.le H'):=by
 refine OY.enter (n:=15) func101 rfl ntmps101 oM (iA.nil _) fun St b₀ tmps₀ ds₀ todo₀ cs hK=> ?_;refine U2 ?_;refine To.GV rfl rfl rfl rfl dE ?_;refine U4 ?_;refine .x (pA.aC3 rfl rfl kR) ?_;refine U6 ?_;exact Tc.I7 en hK func101 results101 fun H' hs=> hs.base
theorem mW(hG:gF H)(hC:N4 H)(k:Bk)(hp:p8 k)(hn:k.small)(ha:k.QA=0)(s:List UInt8)(hT:oN k s)(hm:s.length<=10000):
  bA M 34 #[gA s] H (fun v H'=> H.le H'/\∃A lc B tc,v=.tuple ⟨[k.val A lc B tc,.int .i64 0,.int .i64 0]⟩/\fE H' k A lc B tc):=by
 have hlen:(UB s).length=1+k.nl+k.nt:=by rw[<-qY k,<-hT,List.length_map]
 have RN:=hp.fQ.nl;have zK:=hp.fQ.nt;refine .en func34 ntmps34 fun St c cs hK=> ?_;refine U2 ?_;refine .al fun b2=> ?_;refine .al fun b3=> ?_;refine .al fun b4=> ?_;refine PF ?_;refine .al fun b5=> ?_;refine .al fun b6=> ?_;refine U6 ?_;refine To.defer (first:= []) (captured:= [_,_,_,_]) rfl rfl rfl rfl rfl rfl rfl ?_;refine U5 ?_;refine .e (Or.PB (fun b=> pR b) (fun b=> [(b,true,.cells ⟨[gA s]⟩ 9 (0,0))]) (fun _=> True) rfl rfl rfl rfl rfl dE (fun _=> by simp) (fun H hs=> .h (N5 M H s)) (fun lb _=> ?_));refine U2 ?_;refine Tc.aCy (R':= [(2,.pointer (some ⟨b2,0,none⟩)),(3,.pointer (some ⟨b3,0,none⟩)),(4,.pointer (some ⟨b4,0,none⟩)),(5,.pointer (some ⟨b5,0,none⟩)),(6,.pointer (some ⟨b6,0,none⟩)),(19,pR lb)]) ⟨rfl,rfl,rfl,rfl,rfl,rfl,trivial⟩ ?_;refine Tc.perm (L₁:= [(lb,true,.cells ⟨[gA s]⟩ 9 (0,0))]++([(b2,true,.cells ⟨[.int .i64 0,.int .i64 0,(Gl.nil 68 3).val,(Gl.nil 39 4).val]⟩ 45 (0,0)),(b3,true,.cells ⟨[.int .i64 0]⟩ 3 (0,0)),(b4,true,.cells ⟨[.int .i64 0]⟩ 25 (0,0)),(b5,true,.cells ⟨[.int .i64 (0:Nat)]⟩ 3 (0,0)),(b6,true,.cells ⟨[.int .i64 0]⟩ 3 (0,0))]++((Gl.nil 68 3).bl++(Gl.nil 39 4).bl))) (by
  have e:∀a b2 b3 b4 b5 b6:Nat×Bool×Obj,[a,b2,b3,b4,b5,b6].Perm [b6,b5,b4,b3,b2,a]:=fun a b2 b3 b4 b5 b6=> (List.reverse_perm [b6,b5,b4,b3,b2,a])
  exact e _ _ _ _ _ _) ?_
 refine Tc.MJ (A:= [(lb,true,.cells ⟨[gA s]⟩ 9 (0,0))]) (ts:= [20]) (xs:=UB s) (fun rest H₁ L₁=> ∃(d i j:Nat) (gl:Gl 68 3) (gt:Gl 39 4) (Fs:Nat->Option Addr×Nat) (gp gv la:Int),rest=(UB s).drop d/\H.le H₁/\PSt k H₁ d i j gl gt Fs gp gv la/\L₁= [(b2,true,.cells ⟨[.int .i64 gp,.int .i64 gv,gl.val,gt.val]⟩ 45 (0,0)),(b3,true,.cells ⟨[.int .i64 0]⟩ 3 (0,0)),(b4,true,.cells ⟨[.int .i64 0]⟩ 25 (0,0)),(b5,true,.cells ⟨[.int .i64 (d:Nat)]⟩ 3 (0,0)),(b6,true,.cells ⟨[.int .i64 la]⟩ 3 (0,0))]++(gl.bl++gt.bl)) (fun _ _ _=> False) rfl rfl rfl rfl (Cap:=fun _=> True) (fun H' _=> V1 M H' s oM lb) (fun _ _ _ _=> trivial) (fun _ _ _ _=> trivial) rfl (fun _ _=> rfl)
   ⟨0,0,0,Gl.nil 68 3,Gl.nil 39 4,fun _=> (none,0),0,0,0,rfl,View.le_refl _,⟨Nat.zero_le _,Nat.zero_le _,.inl ⟨rfl,rfl,rfl⟩,.inl rfl,oM,rfl,rfl,fun q hq=> by omega,rfl,rfl⟩,rfl⟩ ?_ ?_ (fun _ _ _ _ h=> h.elim)
 ·rintro r x rest _ lp tmps asg bdy H₄ _ hx ⟨d,i,j,gl,gt,Fs,gp,gv,la,q1,q2,q3,rfl⟩ Q St1 cc1 cs1 bN q q';have hxd:(UB s)[d]? =some x:=by
   have h3:((UB s).drop d)[0]? =some x:=by rw[<-q1];rfl
   rwa [List.getElem?_drop] at h3
  have q1':rest=(UB s).drop (d+1):=by
   have h3:((UB s).drop d).drop 1=rest:=by rw[<-q1];rfl
   rw[<-h3,List.drop_drop]
  have SM:(sH k)[d]? =some (AG 10 x):=by rw[<-hT,List.getElem?_map,hxd];rfl
  have hd1:d<1+k.nl+k.nt:=by rw[<-hlen];exact(List.getElem?_eq_some_iff.1 hxd).1
  have hi:=q3.hi;have hj:=q3.hj;have uK:=q3.hd;have WO:=q3.WO;obtain⟨l1,l2,l3,l4⟩:=q3.la;have D1:=U1 (AG 10 x) x rfl;have a1:mA .add .i64 ((d:Nat):Int) 1=some (.int .i64 ((d+1:Nat):Int)):=lB oM oM;have m5:=fun H=> BQ M H x 10;refine U3 ?_;refine Tc.beginRound (i:=0) rfl rfl rfl ?_;refine U8 ?_;by_cases c0:d=0
  ·obtain⟨rfl,rfl⟩:i=0/\j=0:=by omega
   have l5:=l4 c0;subst c0;subst l5;have LW:AG 10 x=kC 59 (YD k):=by
    rw[M7] at SM;exact(Option.some.inj SM).symm
   have hS:=zL hp.fQ;have hj9:=EF 59 (YD k);have hL0:(YD k).length=3:=rfl;rw[LW] at D1;have XX:=fun H=> m5 H oM;rw[LW] at XX;obtain⟨n1,n2,_,n3,_⟩:=NI hp.fQ.cD;obtain⟨m1,m2,_,m3,_⟩:=NI hp.fQ.rB;have nl1:=SE hp.fQ.cD;have nl2:=SE hp.fQ.rB;have II:=fun H=> sV M H (kC 59 (YD k)) (aH k.cD) (aH k.rB) oM (JI (PS hp)).1 ⟨oM,oM⟩ n1 m1 n3 m3;rw[n2,m2] at II;refine U2 ?_;refine .cl (fun H hs=> XX H) ?_;refine .cl (fun H hs=> II H) ?_;refine U3 ?_;refine Tc.dr [] [] mixed rfl ?_;refine .nn 0 ?_;refine .z 1 rfl (pA.IC rfl rfl rfl rfl kR qZ (fun H hs=> lO M H k.cD k.rB)) ?_;refine V6 2 ?_;refine .z 8 rfl (pA.IC rfl rfl rfl rfl kR qZ (fun H hs=> lO M H k.cD k.rB)) ?_;refine V3 9 ?_;refine .z 12 rfl (pA.tk fun H hs=> aF M H) ?_;refine .dn ?_;refine U3 ?_;refine .e (Or.ofT (pA.IC rfl rfl rfl rfl kR qZ (fun H hs=> lO M H k.cD k.rB)) rfl dE ?_);refine U9 ?_;refine .x (pA.FQ rfl rfl kR) ?_;refine U6 ?_;refine .al fun b9=> ?_;refine U2 ?_;refine Tc.dr [5,7] [3] mixed rfl ?_;refine V2 0 ?_;refine .nw 2 ?_;refine .nw 3 ?_;refine .nn 4 ?_;refine .e 5 3 ?_;refine .nw 6 ?_;refine .e 7 3 ?_;refine .dn ?_;refine U2 ?_;refine Tc.WA bN (i:=1) rfl (.inl ⟨rfl,rfl⟩) (fun H' hs=> q H' H₄ _ (hs.less sL) ⟨0+1,0,0,gl,gt,Fs,k.cD,k.rB,0,q1',q2,{ q3 with hd:=.inr ⟨rfl,rfl,rfl⟩,la:=by omega },rfl⟩)
  ·obtain⟨hd2,rfl,rfl⟩:d=1+i+j/\gp=k.cD/\gv=k.rB:=by
    rcases uK with h|h
    ·exact(c0 h.1).elim
    ·exact h
   by_cases c1:d<1+k.nl
   ·obtain⟨c2,rfl⟩:i<k.nl/\j=0:=by omega
    have LW:AG 10 x=kC 59 (ND k i):=by
     rw[hd2,Nat.add_zero,LV k c2] at SM;exact(Option.some.inj SM).symm
    have hS:=EL hp.fQ c2;have hj9:=EF 59 (ND k i);have hL0:(ND k i).length=4:=rfl;have l5:=l3 rfl;rw[LW] at D1;have XX:=fun H=> m5 H oM;rw[LW] at XX;have K8:=(hp.fQ.nf i c2).1;obtain⟨fj1,fj2,_⟩:=E8 (k:=k) (i:=i) K8;have TU:=yL k i (k.nf i);have aEc:=EF 44 (ID k i (k.nf i));rw[DG] at aEc;have hf4:=(hp.fQ.nf i c2).2;have XG:ID k i (k.nf i)=((List.range (k.nf i)).map (k.free i)).map EB:=by rw[List.map_map];rfl
    have II:=fun H (hC:N4 H)=> tV M H hC (kC 59 (ND k i)) (k.name i) (k.num i) (kC 44 (ID k i (k.nf i))) oM (JI (iT hp c2)).1 oM ((List.range (k.nf i)).map (k.free i)) (fj1.trans XG) (fun z hz=> by
     obtain⟨q,hq,rfl⟩:=List.mem_map.1 hz;exact hp.fQ.free i c2 q (List.mem_range.1 hq)) (hp.name i c2).1 (hp.num i c2).1 fj2
    refine U2 ?_;refine .cl (fun H hs=> XX H) ?_;refine .e (Or.PB (Z8 (k.name i) (k.num i)) Gl.bl (fun g:Gl 110 1=> g.n=((List.range (k.nf i)).map (k.free i)).length/\g.l=RD ((List.range (k.nf i)).map (k.free i))) rfl rfl rfl rfl rfl dE Gl.LH (fun H hs=> .h (II H (hC.le (View.le_trans q2 hs.base)))) (fun g hg=> ?_));refine U2 ?_;refine Tc.K9 _ g.bl (List.Perm.refl _) (fun H₅ TX hb5=> ?_);have MG:g.n=k.nf i:=by rw[hg.1,List.length_map,List.length_range]
    have hfg:=P6 MG hg.2 (fun y hy=> hb5 y hy);have hgv:g.val=.slice (g.blk.map fun b=> ⟨b,0,none⟩) (k.nf i) g.cap:=by unfold Gl.val;rw[MG]
    obtain⟨Fs',hFs⟩:∃F:Nat->Option Addr×Nat,F=fun q=> if q=i then(g.blk.map fun b=> ⟨b,0,none⟩,g.cap) else Fs q:=⟨_,rfl⟩
    have hFi:Fs' i=(g.blk.map fun b=> ⟨b,0,none⟩,g.cap):=by rw[hFs];exact if_pos rfl
    have hFq:∀q,q<i->Fs' q=Fs q:=fun q hq=> by rw[hFs];exact if_neg oM
    have hcq:∀q,q<i->KV k Fs q=KV k Fs' q:=fun q hq=> by unfold KV;rw[hFq q hq]
    have hci:KV k Fs' i= [gA (k.name i),gA (k.num i),g.val]:=by unfold KV;rw[hFi,hgv]
    refine U ?_;refine Tc.dr [] [] mixed rfl ?_;refine .nn 0 ?_;refine .z 1 rfl (pA.IC rfl rfl rfl rfl kR rZ (fun H hs=> mO M H (k.name i) (k.num i) g)) ?_;refine V6 2 ?_;refine .z 8 rfl (pA.IC rfl rfl rfl rfl kR rZ (fun H hs=> mO M H (k.name i) (k.num i) g)) ?_;refine V3 9 ?_;refine .z 12 rfl (pA.tk fun H hs=> aF M H) ?_;refine .dn ?_;refine U3 ?_;refine .e (Or.ofT (pA.IC rfl rfl rfl rfl kR rZ (fun H hs=> mO M H (k.name i) (k.num i) g)) rfl dE ?_);refine U9 ?_;refine .x (pA.DQ (E:=en) rfl rfl rfl kR rfl) ?_;refine U6 ?_;refine .x (pA.FQ rfl rfl kR) ?_;refine U6 ?_;refine .al fun b10=> ?_;refine U7 ?_;refine .e (.bs (zz:=fun bs=> ?_));refine .e (Or.qN (E:=en) (g:=gl) 9 (fun B=> B++gt.bl) (aAx _) rfl rfl rfl rfl rfl rfl rfl rfl rfl rfl rfl rfl rfl rfl rfl (fun H hs=> ZA.of (hs.get (i:=0) rfl) (Nat.le_of_ble_eq_true rfl)) rfl (by have:=q3.ln;omega) rfl dE (fun g2 gP lM=> ?_));refine U5 ?_;refine Tc.WA bN (i:=2) rfl (.inl ⟨rfl,rfl⟩) (fun H' hs=> q H' H₅ _ (hs.less sL) ⟨d+1,i+1,0,g2,gt,Fs',k.cD,k.rB,1,q1',View.le_trans q2 TX,?_,rfl⟩);refine { q3 with hi:=by omega,hd:=.inr ⟨oM,rfl,rfl⟩,WO:=.inl rfl,la:=by omega,ln:=by rw[gP,q3.ln],ll:=?_,fr:=fun q hq=> ?_ }
    ·rw[lM,q3.ll,GC,RH i hcq,hci];rfl
    ·by_cases e:q=i
     ·subst e;rw[hFi];exact hfg
     ·rw[hFq q oM];obtain⟨w1,w2⟩:=q3.fr q oM;exact⟨w1,w2.le TX⟩
   ·obtain⟨rfl,c2⟩:i=k.nl/\j<k.nt:=by omega
    have LW:AG 10 x=kC 59 (rC k j):=by
     rw[hd2,KT k c2] at SM;exact(Option.some.inj SM).symm
    have hS:=OJ hp.fQ c2;have hj9:=EF 59 (rC k j);have hL0:(rC k j).length=3:=rfl;rw[LW] at D1;have XX:=fun H=> m5 H oM;rw[LW] at XX;obtain⟨t1,t2,t3,t4⟩:=hp.fQ.tr j c2;obtain⟨n1,n2,n3,n4,_⟩:=fK t1 t2;obtain⟨m1,m2,m3,m4,_⟩:=fK t3 t4;have nl1:=yI t1 t2;have nl2:=yI t3 t4;have II:=fun H=> jT M H (kC 59 (rC k j)) (yF (k.pf j) (k.pt j)) (yF (k.qf j) (k.qt j)) oM (JI (lQ hp c2)).1 ⟨oM,oM⟩ n1 m1 n4 m4;rw[n2,n3,m2,m3] at II;refine U2 ?_;refine .cl (fun H hs=> XX H) ?_;refine .cl (fun H hs=> II H) ?_;refine U3 ?_;refine Tc.dr [] [] mixed rfl ?_;refine .nn 0 ?_;refine .z 1 rfl (pA.IC rfl rfl rfl rfl kR sZ (fun H hs=> nO M H (k.pf j) (k.pt j) (k.qf j) (k.qt j))) ?_;refine V6 2 ?_;refine .z 8 rfl (pA.IC rfl rfl rfl rfl kR sZ (fun H hs=> nO M H (k.pf j) (k.pt j) (k.qf j) (k.qt j))) ?_;refine V3 9 ?_;refine .z 12 rfl (pA.tk fun H hs=> aF M H) ?_;refine .dn ?_;refine U3 ?_;refine .e (Or.ofT (pA.IC rfl rfl rfl rfl kR sZ (fun H hs=> nO M H (k.pf j) (k.pt j) (k.qf j) (k.qt j))) rfl dE ?_);refine U9 ?_;refine .x (pA.DQ (E:=en) rfl rfl rfl kR rfl) ?_;refine U6 ?_;refine .x (pA.DQ (E:=en) rfl rfl rfl kR rfl) ?_;refine U6 ?_;refine .x (pA.FQ rfl rfl kR) ?_;refine U6 ?_;refine .al fun b11=> ?_;refine U7 ?_;refine .e (.bs (zz:=fun bs=> ?_));refine .e (Or.qN (E:=en) (g:=gt) 9 (fun B=> gl.bl++B) (fun _=> List.Perm.refl _) rfl rfl rfl rfl rfl rfl rfl rfl rfl rfl rfl rfl rfl rfl rfl (fun H hs=> ZA.of (hs.get (i:=0) rfl) (Nat.le_of_ble_eq_true rfl)) rfl (by have:=q3.tn;omega) rfl dE (fun g2 gP lM=> ?_));refine U5 ?_;refine Tc.WA bN (i:=2) rfl (.inl ⟨rfl,rfl⟩) (fun H' hs=> q H' H₄ _ (hs.less sL) ⟨d+1,k.nl,j+1,gl,g2,Fs,k.cD,k.rB,2,q1',q2,{ q3 with hj:=by omega,hd:=.inr ⟨oM,rfl,rfl⟩,WO:=.inr rfl,la:=by omega,tn:=by rw[gP,q3.tn],tl:=by rw[lM,q3.tl,GC];rfl },rfl⟩)
 ·rintro r H₄ _ ⟨d,i,j,gl,gt,Fs,gp,gv,la,q1,q2,q3,rfl⟩;have hd:(UB s).length<=d:=by
   have h1:=congrArg List.length q1;rw[List.length_drop] at h1;simp only[List.length_nil] at h1;omega
  have hi:=q3.hi;have hj:=q3.hj;have uK:=q3.hd;have e1:i=k.nl:=by omega
  have e2:j=k.nt:=by omega
  subst e1;subst e2;obtain⟨rfl,rfl⟩:gp=k.cD/\gv=k.rB:=by
   rcases uK with h|h
   ·omega
   ·exact h.2
  have hv1:gl.val=.slice (gl.blk.map fun b=> ⟨b,0,none⟩) k.nl gl.cap:=by unfold Gl.val;rw[q3.ln]
  have hv2:gt.val=.slice (gt.blk.map fun b=> ⟨b,0,none⟩) k.nt gt.cap:=by unfold Gl.val;rw[q3.tn]
  have hcb:=fun(H':View) (h':H₄.le H') (h1:∀x∈gl.bl,H' x.1=some x.2) (h2:∀x∈gt.bl,H' x.1=some x.2)=> RF M H' k _ _ _ _ (q3.book h' h1 h2) hn (FA hG (View.le_trans q2 h'));rw[ha] at hcb;rw[hv1,hv2];refine U5 ?_;refine .cl (fun H hs=> aF M H) ?_;refine U5 ?_;refine .cl (fun H hs=> hcb H hs.base (fun x hx=> hs.at_ x (by simp[hx])) (fun x hx=> hs.at_ x (by simp[hx]))) ?_;refine aP ?_;refine Tc.aB4 rfl ?_;refine Tb.mark (i:=0) rfl ?_;refine Tb.call aCg (fun H hs=> zV M H [_,_,_,_] rfl) ?_;refine Tb.leave (E:=en) hK func34 results34 (vs:= [_,_,_]) (by refine⟨⟨1,_,_,_,_,_,_,_,rfl,rfl,rfl,rfl⟩,?_⟩;refine⟨⟨2,_,_,_,_,_,_,_,rfl,rfl,rfl,rfl⟩,?_⟩;refine⟨⟨3,_,_,_,_,_,_,_,rfl,rfl,rfl,rfl⟩,?_⟩;exact trivial) ?_;exact fun H' hs=> ⟨View.le_trans q2 hs.base,_,_,_,_,rfl,q3.book hs.base (fun x hx=> hs.at_ x (by simp[hx])) (fun x hx=> hs.at_ x (by simp[hx]))⟩
end
set_option maxHeartbeats 16000000
theorem xT {s:List UInt8}(h:xH s=true):VD s/\s.length<=9:=by
 unfold xH at h;rw[Bool.and_eq_true] at h;have h1:=of_decide_eq_true h.1;have h2:=(vC _).1 h.2;have h3:∀x∈s,48<=x.toNat/\x.toNat≠59:=fun x hx=> by
  obtain⟨i,hi⟩:=List.mem_iff_getElem?.1 hx;have h4:=h2 i (List.getElem?_eq_some_iff.1 hi).1;unfold nG at h4;rw[hi] at h4;simp only[Bool.or_eq_true,Bool.and_eq_true] at h4;rcases h4 with h4|⟨_,h4⟩
  ·have:=of_decide_eq_true h4;omega
  ·have:=of_decide_eq_true h4;omega
 refine⟨⟨fun e=> by rw[e] at h1;simp at h1,fun hx=> (h3 _ hx).2 rfl,fun hx=> ?_⟩,h1.2⟩;have:=(h3 _ hx).1;exact absurd this dE
theorem eQ {s:List UInt8}(h:isNum s=true):VD s/\s.length<=3:=by
 unfold isNum at h;rw[Bool.and_eq_true] at h;have h1:=of_decide_eq_true h.1;have h3:∀x∈s,48<=x.toNat/\x.toNat<58:=fun x hx=> of_decide_eq_true (List.all_eq_true.1 h.2 x hx);refine⟨⟨fun e=> by rw[e] at h1;simp at h1,fun hx=> ?_,fun hx=> ?_⟩,h1.2⟩
 ·have:=(h3 _ hx).2;exact absurd this dE
 ·have:=(h3 _ hx).1;exact absurd this dE
theorem aAP {k:Bk}(ha:k.QA=0):p8 k:=by
 obtain⟨⟨h1,h2,h3,h4⟩,h5,h6,h7⟩:=Bk.valid ha;refine⟨⟨⟨oM,oM⟩,⟨oM,oM⟩,h5,h6,fun i hi=> ?_,fun i hi=> ?_,fun i hi=> ?_,fun i hi=> ?_,fun j hj=> ?_⟩,fun i hi=> ?_,fun i hi=> ?_,fun j hj=> ?_⟩
 ·have:=(xT (Bk.ZF ha hi).1).2;omega
 ·have:=(eQ (Bk.ZF ha hi).2.2.1).2;omega
 ·exact(Bk.ZF ha hi).2.2.2.2.1
 ·exact(Bk.ZF ha hi).2.2.2.2.2
 ·obtain⟨g1,g2,g3⟩:=Bk.nE h7 hj;exact⟨⟨oM,oM⟩,⟨oM,oM⟩,⟨oM,oM⟩,⟨oM,oM⟩⟩
 ·exact(xT (Bk.ZF ha hi).1).1
 ·exact(eQ (Bk.ZF ha hi).2.2.1).1
 ·obtain⟨g1,g2,g3⟩:=Bk.nE h7 hj;omega
section
variable(M:Md prog)(H:View)
theorem aZ(hG:gF H)(k:Bk)(A:Option Addr)(lc:Nat)(B:Option Addr)(tc:Nat)(hk:fE H k A lc B tc)(hn:k.small)(ha:k.QA≠0):
  bA M 32 #[k.val A lc B tc] H (fun v H'=> H.le H'/\v=.tuple ⟨[gA [],.int .i64 k.QA]⟩):=by
 have ho:=fun(H':View) (h:H.le H')=> bH M H' k A lc B tc true (hk.le h) hn (FA hG h) ha;generalize k.QA=a at ha ho;refine .en func32 ntmps32 fun St c cs hK=> ?_;refine U2 ?_;refine .bo fun b1=> ?_;refine U7 ?_;refine .cl (fun H hs=> ho H hs.base) ?_;refine U3 ?_;refine .al fun b4=> ?_;refine XM ?_;refine .rt hK func32 results32 [_,_] ?_;exact okB
end
section
variable(H:View)
theorem u9 {St:View->Goroutine->Prop}{cs:List Frame}(hG:gF H)(hC:N4 H)(k:Bk)(A:Option Addr)(lc:Nat)(B:Option Addr)(tc:Nat)(hk:fE H k A lc B tc)
  (hR:∀(H₀:View) (R:Rg) (L:Bl) (kk:List Item),lk R 2=some (.bool true)->H.le H₀->Tc (Mp prog) St 73 ⟨8,.normal,none⟩ H₀ cs R L [] (.code .ret::kk)):
  Tc (Mp prog) St 73 ⟨8,.normal,none⟩ H cs (JM [k.val A lc B tc]) [] [] [.code (oL Tryz.f8)]:=by
 have ZU:=fun(H':View) (h:H.le H')=> y7 H' (FA hG h);have hgr:=fun(H':View) (h:H.le H')=> F5 (Mp prog) H' k A lc B tc (hk.le h).rows;cases hg:k.TH with
 | true=>
  rw[hg] at hgr;refine U2 ?_;refine .bo fun b1=> ?_;refine U6 ?_;refine .cl (fun H hs=> hgr H hs.base) ?_;refine U4 ?_;refine .cl (fun H hs=> ZU H hs.base) ?_;refine U2 ?_;exact hR _ _ _ _ rfl (View.le_refl _)
 | false=>
  rw[hg] at hgr;have iV:=Bk.pP hg;have hug:=Bk.mX hg;have hnm:∀i,i<k.nl->(k.name i).length<=1000000:=fun i hi=> by have:=hug.2.2 i hi;omega
  have o7:=fun(H':View) (h:H.le H')=> uO (Mp prog) H' k A lc B tc (hk.le h) iV hnm;by_cases ha:k.QA=0
  ·rw[ha] at o7;have hp:=aAP ha;have hpr:=fun(H':View) (h:H.le H')=> O5 (Mp prog) H' (FA hG h) (hC.le h) k A lc B tc (hk.le h) iV ha hp.fQ;have htf:=TT hp;have KY:=RV hp;have hle:=dH hp.fQ k.nt (Nat.le_refl _);have zK:=hp.fQ.nt;have eV:1<=(cF k).length:=by unfold cF TB QF;simp;omega
   have hlen:(cF k).length<=10000:=by show(TB k k.nl k.nt).length<=_;omega
   have m7:=fun(H':View) (h:H.le H')=> mW (Mp prog) H' (FA hG h) (hC.le h) k hp iV ha (cF k) htf hlen;have hpc:=fun(H':View) (h:H.le H')=> mW (Mp prog) H' (FA hG h) (hC.le h) k hp iV ha (cF k).dropLast KY (by rw[List.length_dropLast];omega);generalize cF k=t at hpr eV m7 hpc hlen;have t1:(t.drop ((0:Nat):Int).toNat).take ((((t.length:Nat):Int)-1).toNat-((0:Nat):Int).toNat)=t.dropLast:=by
    rw[show(((t.length:Nat):Int)-1).toNat=t.length-1 by omega,List.dropLast_eq_take];rfl
   refine U2 ?_;refine .bo fun b1=> ?_;refine U6 ?_;refine .cl (fun H hs=> hgr H hs.base) ?_;refine U6 ?_;refine .cl (fun H hs=> hpr H hs.base) ?_;refine PF ?_;refine .cl (fun H hs=> o7 H hs.base) ?_;refine U25 ?_;refine To.uB rfl rfl rfl rfl rfl rfl dE (yB.h (m7 H (View.le_refl _))) (fun v H₁ hv=> ?_);obtain⟨h01,A1,lc1,B1,tc1,rfl,IY⟩:=hv;refine U4 ?_;refine .al fun b5=> ?_;refine aP ?_;refine .cl (fun H hs=> dZ (Mp prog) H k A1 A lc1 lc B1 B tc1 tc (IY.le hs.base) (hk.le (View.le_trans h01 hs.base)) iV) ?_;refine qE ?_;refine .x (pA.zO (E:=en) rfl rfl rfl rfl rfl rfl oM oM oM t1) ?_;refine To.uB rfl rfl rfl rfl rfl rfl dE (yB.h (hpc H₁ h01)) (fun v H₂ hv=> ?_);obtain⟨TO,A2,lc2,B2,tc2,rfl,VS⟩:=hv;refine hU ?_;refine .cl (fun H hs=> dZ (Mp prog) H k A2 A lc2 lc B2 B tc2 tc (VS.le hs.base) (hk.le (View.le_trans h01 (View.le_trans TO hs.base))) iV) ?_;refine U2 ?_;refine .cl (fun H hs=> ZU H (View.le_trans h01 (View.le_trans TO hs.base))) ?_;refine U3 ?_;exact hR _ _ _ _ rfl (View.le_trans h01 TO)
  ·have hpr:=fun(H':View) (h:H.le H')=> aZ (Mp prog) H' (FA hG h) k A lc B tc (hk.le h) iV ha;have e1:mA .eql .i64 k.QA 0=some (.bool false):=oK ha;have e2:mA .neq .i64 k.QA 0=some (.bool true):=sM ha;generalize k.QA=a at o7 hpr e1 e2;refine U2 ?_;refine .bo fun b1=> ?_;refine U6 ?_;refine .cl (fun H hs=> hgr H hs.base) ?_;refine U6 ?_;refine .cl (fun H hs=> hpr H hs.base) ?_;refine PF ?_;refine .cl (fun H hs=> o7 H hs.base) ?_;refine TJ ?_;refine .cl (fun H hs=> ZU H hs.base) ?_;refine U3 ?_;exact hR _ _ _ _ rfl (View.le_refl _)
end
end Go.Proofs.YtldmfjcgjdchcaaGreatDoor
