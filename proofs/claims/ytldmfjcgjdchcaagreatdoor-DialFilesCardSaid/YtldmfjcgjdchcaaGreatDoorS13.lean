/-
 Texts of the proofs over baudot/dial.
-/
import Derived.Test.YtldmfjcgjdchcaaGreatDoorS12
namespace Go.Proofs.YtldmfjcgjdchcaaGreatDoor
open Go.RL Go.Proofs.Tryz
set_option maxRecDepth 10000
set_option maxHeartbeats 8000000
def YM:By:= [117,110,115,117,114,101]
def WM:By:= [97,108,119,97,121,115]
def XM:By:= [110,101,118,101,114]
def bB:By:= [100,105,97,108]
def OA:By:= [108,105,110,101]
def IA:By:= [116,114,97,105,110]
def EB(z:Int):By:=if z=0 then YM else if z=1 then WM else XM
def mR(H:View):Prop:=∃f gt gz,H 0=some (f,.cells ⟨[bA YM,bA WM,bA XM]⟩ gt gz)
theorem mR.le {H H':View}(h:mR H)(hl:H.le H'):mR H':=h.imp fun _ ⟨gt,gz,e⟩=> ⟨gt,gz,hl _ _ e⟩
def BF(l:List By):By:=eD 59 l++[10]
def IE(k:Bk)(i n:Nat):List By:=(List.range n).map fun j=> EB (k.free i j)
def jG(k:Bk)(i:Nat):List By:= [OA,k.name i,k.num i,eD 44 (IE k i (k.nf i))]
def aE(k:Bk)(j:Nat):List By:= [IA,aF (k.pf j) (k.pt j),aF (k.qf j) (k.qt j)]
def bH(k:Bk):List By:= [bB,vH k.aD,vH k.yB]
def BB(k:Bk)(i j:Nat):By:=BF (bH k)++((List.range i).flatMap fun i=> BF (jG k i))++(List.range j).flatMap fun j=> BF (aE k j)
def sY(k:Bk):By:=BB k k.nl k.nt
def m6(z:Int):Prop:=0<=z/\z<100
structure Prt(k:Bk):Prop where
 aD:m6 k.aD
 yB:m6 k.yB
 nl:k.nl<=6
 nt:k.nt<=6
 name:∀i,i<k.nl->(k.name i).length<=100
 num:∀i,i<k.nl->(k.num i).length<=100
 nf:∀i,i<k.nl->1<=k.nf i/\k.nf i<=4
 free:∀i,i<k.nl->∀j,j<k.nf i->0<=k.free i j/\k.free i j<=2
 tr:∀j,j<k.nt->m6 (k.pf j)/\m6 (k.pt j)/\m6 (k.qf j)/\m6 (k.qt j)
theorem wX(z:Int):(EB z).length<=6:=by
 unfold EB;split
 ·decide
 ·split <;> decide
theorem UR {a b:Int}(ha:m6 a)(hb:m6 b):(aF a b).length<=5:=by
 have h1:=PE ha;have h2:=PE hb;unfold aF;split
 ·omega
 ·simp only[List.length_append,List.length_cons];omega
theorem GW {l:List By}{m:Nat}(h:∀p∈l,p.length<=m):gD l<=l.length*m:=by
 unfold gD;induction l with
 | nil=> simp
 | cons a l ih=>
  have h1:=h a List.mem_cons_self;have h2:=ih fun p hp=> h p (List.mem_cons_of_mem _ hp);simp only[List.map_cons,List.sum_cons,List.length_cons];rw[Nat.add_mul];omega
theorem AK(k:Bk)(i n:Nat):(IE k i n).length=n:=by simp[IE]
theorem wN(k:Bk)(i n:Nat):gD (IE k i n)<=n*6:=by
 have:=GW (l:=IE k i n) (m:=6) (fun p hp=> by
  obtain⟨j,_,rfl⟩:=List.mem_map.1 hp;exact wX _)
 rwa [AK] at this
theorem YJ(y:UInt8)(l:List By):(eD y l).length<=l.length+gD l:=by
 cases l with
 | nil=> simp[eD]
 | cons p l=> rw[nS];simp only[List.length_cons];omega
theorem YP(k:Bk)(i n:Nat):IE k i (n+1)=IE k i n++[EB (k.free i n)]:=by
 unfold IE;rw[List.range_succ,List.map_append];rfl
section
variable(M:Md prog)(H:View)
theorem MR(y:UInt8)(l:List By)(aB:l≠ [])(F:Option Addr)(n fc:Nat)(hF:ZB H F n (fun i=> l[i]?.getD []))(hn:n=l.length)(OX:n<=fc)(hl:l.length<=1000)(hT:gD l<=900000):
  fA M 92 #[.slice F n fc,bA [y]] H (Ib H (bA (eD y l))):=by
 subst hn;cases l with
 | nil=> exact(aB rfl).elim
 | cons p l=>
  rcases hF with h0|⟨b,o,f,gs,gt,gz,h1,h2,h3⟩
  ·cases h0
  ·subst h1;cases l with
   | nil=>
    have f1:zE false 1 gs (o+(0:Int).toNat*1)=some (bA p):=h3 0 (Nat.one_pos);have e1:eD y [p]=p:=List.append_nil p;rw[e1];show fA M 92 #[.slice (some ⟨b,o,none⟩) 1 fc,bA [y]] H _;refine .en func92 ntmps92 fun St c cs hK=> ?_;refine U30 ?_;refine .rt hK func92 results92 [_] ?_;exact okB
   | cons q l=> exact aCq M H y p (q::l) (by simp) b o fc (.inr ⟨b,o,f,gs,gt,gz,rfl,h2,h3⟩) OX (by simp only[List.length_cons] at hl ⊢;omega) hT
theorem K9(H₁:View)(b:Nat)(u:Bool)(g:Gl 5 1)(l:List By)(aB:l≠ [])(F:Option Addr)(n fc:Nat)(hF:ZB H₁ F n (fun i=> l[i]?.getD []))(hn:n=l.length)(OX:n<=fc)(hl:l.length<=1000)(hT:gD l<=800000)(hm:g.n+(BF l).length<=1000000)(fF:jA H₁ (LK b u g) H):
  fA M 90 #[.slice F n fc,.pt b] H (dO H₁ (fun _:Gl 5 1=> .tuple ⟨[]⟩) (fun g'=> LK b true g') (I6 (BF l) g)):=by
 have hj:=YJ 59 l;have s1:RL.LB .add (eD 59 l) [10]=some (bA (BF l)):=UB (by simp only[List.length_singleton];omega);refine fA.enter (vs:= [.slice F n fc,.pt b]) func90 rfl ntmps90 Nb (fF) fun St c cs hK=> ?_;refine U2 ?_;refine .cl (fun H hs=> MR M H 59 l aB F n fc (hF.le hs.base) hn OX hl oM) ?_;refine U ?_;refine .e (Or.SD 0 (σ:=Gl 5 1) (fun _=> .tuple ⟨[.iz ((BF l).length:Nat),.nilIface]⟩) (fun g'=> LK b true g') (I6 (BF l) g) rfl rfl rfl rfl rfl dE (fun H₁ H₂ aY YO=> .h (NF M H₂ H₁ b u g (BF l) hm YO)) (fun g2 fQ=> ?_));refine U ?_;refine .ov hK func90 results90 [] ?_;exact fun H' hs=> ⟨g2,H₁,rfl,View.le_refl _,hs,fQ⟩
end
end Go.Proofs.YtldmfjcgjdchcaaGreatDoor
namespace Go.Proofs.YtldmfjcgjdchcaaGreatDoor
open Go.RL Go.Proofs.Tryz Go.ChangeShapes Go.WideShapes Go.ChangeAt Go.RowKit
set_option maxRecDepth 10000
theorem HZ:prog.globalNamed "baudot/dial.claims"=some 0:=by kernel_rfl
theorem aBU:(prog.globals[0]?).map (·.type)=some 184:=by kernel_rfl
theorem DS:prog.underlying 184=some (.array 3 9):=by kernel_rfl
theorem lV:prog.cellsOf 184=3:=by kernel_rfl
theorem aCE {LL:List (String×DataW Unit)}(hn:("baudot/dial.claims",(Rows.laid_baudot_dial_claims:DataW Unit))∈LL.filter fun x=> x.2.handleName?.isNone){W:World}(h:laidMetH prog LL W):mR (UD W):=by
 obtain⟨⟨ps,hl,_⟩,_⟩:=laidMetH_iff.1 h;obtain⟨g,t,cs,fuel,p,hg,ht,hv,hd⟩:=ZJ hl hn;obtain rfl:=Option.some.inj (HZ.symm.trans hg);obtain rfl:=Option.some.inj (aBU.symm.trans ht);obtain⟨gt,gz,hh⟩:=iR HZ hv;have hlen:cs.toList.length=3:=by
  cases fuel with
  | zero=> simp[DataW.trod] at hd
  | succ n=>
   unfold DataW.trod at hd;rw[DS] at hd;simp[lV] at hd
   simpa using hd.1
 obtain⟨c0,c1,c2,OZ⟩:∃c0 c1 c2,cs.toList= [c0,c1,c2]:=by
  match e:cs.toList,hlen with
  | [c0,c1,c2],_=> exact⟨c0,c1,c2,rfl⟩
 rw[OZ] at hd;obtain⟨y0,y1,y2,n,hx,r0,r1,r2⟩:=trod_array3 DS Q6 hd;obtain⟨s0,g0,g0',_⟩:=DataW.trod_string UY r0;obtain⟨s1,g1,g1',_⟩:=DataW.trod_string UY r1;obtain⟨s2,g2,g2',_⟩:=DataW.trod_string UY r2;subst g0' g1' g2';have nJ:=congrArg Prod.fst hx;have QV:(DataW.agg [.lit (.string s0.data.toList),.lit (.string s1.data.toList),.lit (.string s2.data.toList)]:DataW Unit)=DataW.agg [.lit (.string YM),.lit (.string WM),.lit (.string XM)]:=nJ.symm;simp only[DataW.agg.injEq,List.cons.injEq,and_true,DataW.lit.injEq,Lit.string.injEq] at QV;obtain⟨e0,e1,e2⟩:=QV;simp only[List.cons.injEq,and_true] at g0 g1 g2;refine⟨false,gt,gz,?_⟩;have ec:cs=⟨[bA YM,bA WM,bA XM]⟩:=by
  apply Array.ext'
  rw[OZ,g0,g1,g2];obtain⟨⟨l0⟩⟩:=s0;obtain⟨⟨l1⟩⟩:=s1;obtain⟨⟨l2⟩⟩:=s2;simp only at e0 e1 e2;rw[e0,e1,e2]
 rw[<-ec];simp only[UD,hh,Option.map_some]
end Go.Proofs.YtldmfjcgjdchcaaGreatDoor
namespace Go.Proofs.YtldmfjcgjdchcaaGreatDoor
open Go.RL Go.Proofs.Tryz
set_option maxRecDepth 10000
set_option maxHeartbeats 16000000
theorem aAd {P:List By}{H:View}{b n:Nat}{f:Bool}{jj:List Value}{e:TypeId}{fz:Nat×Nat}(hn:n=P.length)(h:H b=some (f,.cells ⟨zA P++jj⟩ e fz)):ZB H (some ⟨b,0,none⟩) n (fun i=> P[i]?.getD []):=by
 subst hn;exact CB h
theorem EG(l:List By):(BF l).length<=l.length+gD l+1:=by
 unfold BF;rw[List.length_append,List.length_singleton];have:=YJ 59 l;omega
theorem xN {k:Bk}(hp:Prt k):gD (bH k)<=8:=by
 have h1:=PE hp.aD;have h2:=PE hp.yB;simp only[gD,bH,bB,List.map_cons,List.map_nil,List.sum_cons,List.sum_nil,List.length_cons,List.length_nil];omega
theorem GN {k:Bk}(hp:Prt k){i:Nat}(hi:i<k.nl):gD (jG k i)<=240:=by
 have h1:=hp.name i hi;have h2:=hp.num i hi;have h3:=hp.nf i hi;have h4:=YJ 44 (IE k i (k.nf i));have h5:=wN k i (k.nf i);rw[AK] at h4;simp only[gD,jG,OA,List.map_cons,List.map_nil,List.sum_cons,List.sum_nil,List.length_cons,List.length_nil] at h4 h5 ⊢;omega
theorem BL {k:Bk}(hp:Prt k){j:Nat}(hj:j<k.nt):gD (aE k j)<=15:=by
 obtain⟨h1,h2,h3,h4⟩:=hp.tr j hj;have h5:=UR h1 h2;have h6:=UR h3 h4;simp only[gD,aE,IA,List.map_cons,List.map_nil,List.sum_cons,List.sum_nil,List.length_cons,List.length_nil];omega
theorem iI {k:Bk}(i:Nat):BB k (i+1) 0=BB k i 0++BF (jG k i):=by
 unfold BB;rw[List.range_succ,List.flatMap_append];simp
theorem jH {k:Bk}(i j:Nat):BB k i (j+1)=BB k i j++BF (aE k j):=by
 unfold BB;rw[List.range_succ,List.flatMap_append];simp
theorem LH {k:Bk}(hp:Prt k):∀i,i<=k.nl->(BB k i 0).length<=20+i*260
 | 0,_=> by
  have h1:=EG (bH k);have h2:=xN hp;have h3:(bH k).length=3:=rfl;show(BF (bH k)++[]++[]).length<=_;simp only[List.append_nil];omega
 | i+1,hi=> by
  have ih:=LH hp i oM;have h1:=EG (jG k i);have h2:=GN hp (i:=i) oM;have h3:(jG k i).length=4:=rfl;rw[iI,List.length_append];omega
theorem YI {k:Bk}(hp:Prt k):∀j,j<=k.nt->(BB k k.nl j).length<=2000+j*30
 | 0,_=> by
  have h1:=LH hp k.nl (Nat.le_refl _);have h2:=hp.nl;omega
 | j+1,hj=> by
  have ih:=YI hp j oM;have h1:=EG (aE k j);have h2:=BL hp (j:=j) oM;have h3:(aE k j).length=3:=rfl;rw[jH,List.length_append];omega
theorem mV {z:Int}(h:0<=z/\z<=2):zE false 1 [bA YM,bA WM,bA XM] (0+z.toNat*1)=some (bA (EB z)):=by
 have:z=0\/z=1\/z=2:=by omega
 rcases this with rfl|rfl|rfl <;> rfl
section
variable(M:Md prog)(H:View)
theorem aAN(hG:mG H)(hC:mR H)(k:Bk)(A:Option Addr)(lc:Nat)(B:Option Addr)(tc:Nat)(hk:QD H k A lc B tc)(hn:k.small)(ha:k.WA=0)(hp:Prt k):
  fA M 32 #[k.val A lc B tc] H (Ib H (.tuple ⟨[bA (sY k),.iz 0]⟩)):=by
 obtain⟨f0,gt0,gz0,hC0⟩:=hC;refine .en func32 ntmps32 fun St c cs hK=> ?_;refine U2 ?_;refine .bo fun b1=> ?_;refine U7 ?_;refine .cl (fun H hs=> oD M H k A lc B tc (hk.le hs.base) hn (NA hG hs.base) ha) ?_;refine U3 ?_;refine .al fun b4=> ?_;refine uH ?_;refine .al fun b6=> ?_;refine U7 ?_;refine Tc.perm (L₁:= [Bb b4 [.iz k.aD,.iz k.yB,.slice A k.nl lc,.slice B k.nt tc] 166,Bb b1 [.iz k.aD,.iz k.yB,.slice A k.nl lc,.slice B k.nt tc] 45]++LK b6 false (Gl.nil 5 1)) (List.perm_append_comm (l₁:= [_,_]) (l₂:= [_])) ?_;have hS0:=xN hp;have hR0:=EG (bH k);have hL0:(bH k).length=3:=rfl;refine Tc.drT [8] [] [] 2 mixed rfl ?_;refine .oo 0 ?_;refine .oo 1 ?_;refine .oo 2 ?_;refine Ta.MY 3 kR rfl rfl dE rfl rfl (pA.tk fun H hs=> OL M H k.aD hp.aD) ?_;refine .oo 4 ?_;refine .oo 5 ?_;refine Ta.MY 6 kR rfl rfl dE rfl rfl (pA.tk fun H hs=> OL M H k.yB hp.yB) ?_;refine .ea 7 rfl (.bs (zz:=fun bs=> ⟨S3.mk sL (.inr sL),?_⟩));refine .ea 8 rfl (Or.SD 3 (σ:=Gl 5 1) (fun _=> .tuple ⟨[]⟩) (fun g'=> LK b6 true g') (I6 (BF (bH k)) (Gl.nil 5 1)) rfl rfl rfl rfl rfl dE (fun H₁ H₂ aY YO=> WB.of (first:= []) (captured:= [_]) aCB rfl (K9 M H₂ H₁ b6 false (Gl.nil 5 1) (bH k) (by simp[bH]) (some ⟨bs,0,none⟩) 3 3 (CB (P:=bH k) (jj:= []) (aY.get (i:=0) rfl)) rfl (Nat.le_refl _) oM oM (by show 0+_<=_;omega) YO)) (fun g0 hg0=> ⟨S3.mk sL (.inl kR),?_⟩));refine .dn ?_;refine U9 ?_;refine Tc.db (Tc.qA (σ:= { x:Nat×Gl 5 1//x.1<=k.nl/\x.2.n=(BB k x.1 0).length/\x.2.l=UA (BB k x.1 0) }) (fun x=> ([(1,.pt b1),(6,.pt b6),(7,.func (.func 90) #[] #[.pt b6]),(34,.slice A k.nl lc),(35,.nt k.nl),(36,.nt x.1.1)],[Bb b1 [.iz k.aD,.iz k.yB,.slice A k.nl lc,.slice B k.nt tc] 45]++LK b6 true x.1.2)) (fun x=> k.nl-x.1.1) ?_ ⟨(0,g0),Nat.zero_le _,by rw[hg0.1];simp[BB,Gl.nil],by rw[hg0.2];simp[BB,Gl.nil]⟩);rintro⟨⟨i,g⟩,hi,XC,JE⟩ ih;simp only at hi XC JE;dsimp only;have TZ:=LH hp i hi;have oP:=hp.nl;have oL:=hp.nt;by_cases c1:i=k.nl
 ·clear ih;subst c1;refine LI ?_;refine Tc.db (Tc.qA (σ:= { x:Nat×Gl 5 1//x.1<=k.nt/\x.2.n=(BB k k.nl x.1).length/\x.2.l=UA (BB k k.nl x.1) }) (fun x=> ([(6,.pt b6),(7,.func (.func 90) #[] #[.pt b6]),(65,.slice B k.nt tc),(66,.nt k.nt),(67,.nt x.1.1)],LK b6 true x.1.2)) (fun x=> k.nt-x.1.1) ?_ ⟨(0,g),Nat.zero_le _,XC,JE⟩);rintro⟨⟨j,g⟩,hj,XC,JE⟩ ih;simp only at hj XC JE;dsimp only;have TZ:=YI hp j hj;by_cases d1:j=k.nt
  ·clear ih;subst d1;have aB:BB k k.nl k.nt≠ []:=by
    intro h;have:=congrArg List.length h;simp[BB,BF] at this
   refine U9 ?_;refine .e (Or.SD 0 (σ:=Unit) (fun _=> bA (sY k)) (fun _=> []) (fun _=> True) rfl rfl rfl rfl rfl dE (fun H₁ H₂ aY YO=> .h (WU M H₂ H₁ b6 true g _ aB XC JE oM YO)) (fun _ _=> ?_));refine U3 ?_;refine .rt hK func32 results32 [_,_] ?_;exact okB
  ·have d2:j<k.nt:=by omega
   obtain⟨_,h0|⟨ab,ao,f,gs,gt,gz,rfl,hb,hl⟩⟩:=hk.xC
   ·omega
   have f1:=hl j d2;obtain⟨t1,t2,t3,t4⟩:=hp.tr j d2;have hS1:=BL hp d2;have hR1:=EG (aE k j);have hL1:(aE k j).length=3:=rfl;have hpt:=jH (k:=k) k.nl j;have vG:=fun(g2:Gl 5 1) (h:I6 (BF (aE k j)) g g2)=> ih ⟨(j+1,g2),by simp only;omega,by simp only;rw[h.1,XC,hpt,List.length_append],by simp only;rw[h.2,JE,hpt,NI]⟩ Ob;clear ih;refine Tc.perm (L₁:= []++LK b6 true g) (List.Perm.refl _) ?_;refine JG ?_;refine .al fun b14=> ?_;refine U2 ?_;refine Tc.perm (L₁:= [Bb b14 [.iz (k.pf j),.iz (k.pt j),.iz (k.qf j),.iz (k.qt j)] 39]++LK b6 true g) (List.Perm.refl _) ?_;refine Tc.drT [8] [] [] 1 mixed rfl ?_;refine .oo 0 ?_;refine .oo 1 ?_;refine .oo 2 ?_;refine Ta.MY 3 kR rfl rfl dE rfl rfl (pA.tk fun H hs=> FP M H (k.pf j) (k.pt j) t1 t2) ?_;refine .oo 4 ?_;refine .oo 5 ?_;refine Ta.MY 6 kR rfl rfl dE rfl rfl (pA.tk fun H hs=> FP M H (k.qf j) (k.qt j) t3 t4) ?_;refine .ea 7 rfl (.bs (zz:=fun bs=> ⟨S3.mk sL (.inr sL),?_⟩));refine .ea 8 rfl (Or.SD 2 (σ:=Gl 5 1) (fun _=> .tuple ⟨[]⟩) (fun g'=> LK b6 true g') (I6 (BF (aE k j)) g) rfl rfl rfl rfl rfl dE (fun H₁ H₂ aY YO=> WB.of (first:= []) (captured:= [_]) aCB rfl (K9 M H₂ H₁ b6 true g (aE k j) (by simp[aE]) (some ⟨bs,0,none⟩) 3 3 (CB (P:=aE k j) (jj:= []) (aY.get (i:=0) rfl)) rfl (Nat.le_refl _) oM oM oM YO)) (fun g2 fQ=> ⟨S3.mk sL (.inl kR),?_⟩));refine .dn ?_;refine U5 ?_;exact Tc.db (vG g2 fQ)
 ·have c2:i<k.nl:=by omega
  obtain⟨_,h0|⟨ab,ao,f,gs,gt,gz,rfl,hb,hl⟩⟩:=hk.rows
  ·omega
  obtain⟨F,fc,f1,OX,hF⟩:=hl i c2;obtain⟨hf1,hf4⟩:=hp.nf i c2;have lP:=hp.free i c2;have hS1:=GN hp c2;have hR1:=EG (jG k i);have hL1:(jG k i).length=4:=rfl;have hpt:=iI (k:=k) i;have vG:=fun(g2:Gl 5 1) (h:I6 (BF (jG k i)) g g2)=> ih ⟨(i+1,g2),by simp only;omega,by simp only;rw[h.1,XC,hpt,List.length_append],by simp only;rw[h.2,JE,hpt,NI]⟩ Ob;clear ih;refine Tc.lift (L₂:= [Bb b1 [.iz k.aD,.iz k.yB,.slice (some ⟨ab,ao,none⟩) k.nl lc,.slice B k.nt tc] 45]) (L₁:=LK b6 true g) rfl (fun Hx hx=> ?_);have qO:=hx.base _ _ hb;have hC':=hx.base _ _ hC0;have hF':=hF.le hx.base;refine JG ?_;refine .al fun b9=> ?_;refine AJ ?_;refine Tc.db (Tc.qA (σ:= { x:Nat×Gl 9 1//x.1<=k.nf i/\x.2.n=x.1/\x.2.l=zA (IE k i x.1) }) (fun x=> ([(1,.pt b1),(6,.pt b6),(7,.func (.func 90) #[] #[.pt b6]),(34,.slice (some ⟨ab,ao,none⟩) k.nl lc),(35,.nt k.nl),(36,.nt i),(9,.pt b9),(10,x.1.2.val),(41,.slice F (k.nf i) fc),(42,.iz (k.nf i:Nat)),(43,.nt x.1.1)],[Bb b9 [bA (k.name i),bA (k.num i),.slice F (k.nf i) fc] 68,Bb b1 [.iz k.aD,.iz k.yB,.slice (some ⟨ab,ao,none⟩) k.nl lc,.slice B k.nt tc] 45]++x.1.2.bl)) (fun x=> k.nf i-x.1.1) ?_ ⟨(0,Gl.nil 9 1),Nat.zero_le _,rfl,rfl⟩);rintro⟨⟨j,g2⟩,hj,dI,LG⟩ ih;simp only at hj dI LG;dsimp only;by_cases d1:j=k.nf i
  ·clear ih;subst d1;obtain⟨x,hv,BV⟩:=E7 g2 oM;rw[dI] at hv;rw[LG] at BV;rw[hv,BV];refine Tc.expand hx ?_;have O7:=wN k i (k.nf i);have kS:=AK k i (k.nf i);have hfe:IE k i (k.nf i)≠ []:=fun e=> by rw[e] at kS;simp at kS;omega
   have hxc:k.nf i<=x.2.1:=by
    have h1:=g2.hc;rw[dI] at h1;have h2:g2.val=.slice (g2.blk.map fun b=> ⟨b,0,none⟩) g2.n g2.cap:=rfl;rw[hv] at h2;unfold exV at h2
    injection h2 with _ _ h3
    omega
   refine U7 ?_;refine Tc.perm (L₁:= [Bb b9 [bA (k.name i),bA (k.num i),.slice F (k.nf i) fc] 68,Bb b1 [.iz k.aD,.iz k.yB,.slice (some ⟨ab,ao,none⟩) k.nl lc,.slice B k.nt tc] 45,Bb x.1 (zA (IE k i (k.nf i))++x.2.2) 9]++LK b6 true g) (List.Perm.refl _) ?_;refine Tc.drT [8] [] [] 3 mixed rfl ?_;refine .oo 0 ?_;refine .oo 1 ?_;refine .oo 2 ?_;refine .oo 3 ?_;refine .oo 4 ?_;refine .oo 5 ?_;refine Ta.MY 6 kR rfl rfl dE rfl rfl (pA.tk fun H hs=> MR M H 44 (IE k i (k.nf i)) hfe (some ⟨x.1,0,none⟩) (k.nf i) x.2.1 (aAd kS.symm (hs.get (i:=2) rfl)) kS.symm hxc oM oM) ?_;refine .ea 7 rfl (.bs (zz:=fun bs=> ⟨S3.mk sL (.inr sL),?_⟩));refine .ea 8 rfl (Or.SD 4 (σ:=Gl 5 1) (fun _=> .tuple ⟨[]⟩) (fun g'=> LK b6 true g') (I6 (BF (jG k i)) g) rfl rfl rfl rfl rfl dE (fun H₁ H₂ aY YO=> WB.of (first:= []) (captured:= [_]) aCB rfl (K9 M H₂ H₁ b6 true g (jG k i) (by simp[jG]) (some ⟨bs,0,none⟩) 4 4 (CB (P:=jG k i) (jj:= []) (aY.get (i:=0) rfl)) rfl (Nat.le_refl _) oM oM oM YO)) (fun g3 Q7=> ⟨S3.mk sL (.inl kR),?_⟩));refine .dn ?_;refine U5 ?_;exact Tc.db (vG g3 Q7)
  ·have d2:j<k.nf i:=by omega
   obtain⟨z1,z2⟩:=lP j d2;have f3:=mV ⟨z1,z2⟩;rcases hF' with h0|⟨fb,fo,ff,fgs,fgt,fgz,rfl,hfb,kS⟩
   ·omega
   have f2:=kS j d2;refine eO ?_;refine .e (.bs (zz:=fun bs=> ?_));refine .e (Or.append (E:=en) 3 rfl rfl rfl rfl rfl rfl rfl rfl rfl rfl rfl rfl rfl rfl rfl (fun H hs=> RA.of (hs.get (i:=0) rfl) Nb) rfl oM rfl dE (fun g3 AN EJ=> ?_));refine U7 ?_;exact Tc.db (ih ⟨(j+1,g3),by simp only;omega,by simp only;rw[AN,dI],by simp only;rw[EJ,LG,YP,eC];rfl⟩ Ob)
end
def QB(ws:List Int):List Value:=ws.map fun z=> .int .i64 z
theorem oV(ws:List Int):(QB ws).length=ws.length:=by simp[QB]
theorem nV {z:Int}(h:0<=z/\z<=2):sB (kA (fun i=> EB z==([YM,WM,XM][i]?.getD [])) 3)=z:=by
 have:z=0\/z=1\/z=2:=by omega
 rcases this with rfl|rfl|rfl <;> decide
theorem F1 {z:Int}(h:0<=z/\z<=2):EB z≠ [110,105,108]/\EB z≠ []:=by
 have:z=0\/z=1\/z=2:=by omega
 rcases this with rfl|rfl|rfl <;> decide
theorem uC {P:List By}(h:∀p∈P,p≠ []):(kA (fun i=> ([]:By)==P[i]?.getD []) P.length).isSome=false:=by
 rw[(RB _).2 (fun i hi=> by
  have h1:=h _ (List.getElem_mem hi);rw[List.getElem?_eq_getElem hi];simp only[Option.getD_some,beq_eq_false_iff_ne,ne_eq];exact fun e=> h1 e.symm)]
 rfl
section
variable(M:Md prog)(H:View)
theorem D7(hC:mR H)(s:By)(hm:s.length<=1000000)(ws:List Int)(hP:mA 44 s=ws.map EB)(hw:∀z∈ws,0<=z/\z<=2):
  fA M 180 #[bA s] H (fun v H'=> H.le H'/\∃g:Gl 110 1,v=g.val/\(g.n=ws.length/\g.l=QB ws)/\∀x∈g.bl,H' x.1=some x.2/\H x.1=none):=by
 obtain⟨f0,gt0,gz0,hC0⟩:=hC;have iG:(s== [110,105,108])=false:=by
  simp only[beq_eq_false_iff_ne,ne_eq];intro e;subst e;cases ws with
  | nil=> cases hP
  | cons z l=>
   have h1:([110,105,108]:By)=EB z:=by
    have:=congrArg List.head? hP;simpa [mA] using this
   exact(F1 (hw z List.mem_cons_self)).1 h1.symm
 have e0:RL.LB .eql s [110,105,108]=some (.bool false):=by
  show some (Value.bool (s== [110,105,108]))=_;rw[iG]
 have D2:(mA 44 s).length=ws.length:=by rw[hP,List.length_map]
 have hlen:ws.length<=1000001:=by
  have h1:=kB 44 s;have h2:s.count 44<=s.length:=List.count_le_length;omega
 have EF:=fun H=> uD M H s 44 hm;generalize mA 44 s=P at hP D2 EF;subst hP;refine .en func180 ntmps180 fun St c cs hK=> ?_;refine eO ?_;refine .e (Or.xA (FG (ws.map EB)) (PD (ws.map EB)) (fun _=> True) rfl rfl rfl rfl rfl dE (fun _=> by simp[PD]) (fun H hs=> .h (EF H)) (fun b _=> ?_));refine U4 ?_;refine Tc.db (Tc.qA (σ:= { x:Nat×Gl 110 1//x.1<=ws.length/\x.2.n=x.1/\x.2.l=QB (ws.take x.1) }) (fun x=> ([(3,x.1.2.val),(10,FG (ws.map EB) b),(11,.iz ((ws.map EB).length:Nat)),(12,.nt x.1.1)],[Bb b (zA (ws.map EB)) 9]++x.1.2.bl)) (fun x=> ws.length-x.1.1) ?_ ⟨(0,Gl.nil 110 1),Nat.zero_le _,rfl,rfl⟩);rintro⟨⟨i,g⟩,hi,XC,JE⟩ ih;simp only at hi XC JE;dsimp only;by_cases c1:i=ws.length
 ·clear ih;subst c1;rw[List.take_length] at JE;refine uH ?_;refine .rt hK func180 results180 [_] ?_;exact fun H' hs=> ⟨hs.base,g,rfl,⟨XC,JE⟩,fun x hx=> ⟨hs.at_ x (List.mem_append_right _ hx),hs.out x (List.mem_append_right _ hx)⟩⟩
 ·have c2:i<ws.length:=by omega
  have hz:=hw _ (List.getElem_mem c2);have f1:zE false 1 (zA (ws.map EB)) (0+((i:Nat):Int).toNat*1)=some (bA (EB ws[i])):=by
   show(zA (ws.map EB))[0+((i:Nat):Int).toNat*1]? =_;unfold zA;rw[Int.toNat_natCast,Nat.zero_add,Nat.mul_one,List.getElem?_map,List.getElem?_map,List.getElem?_eq_getElem c2];rfl
  have ZW:=nV hz;have cI:=fun(H':View) (h':H.le H')=> KL M H' (some ⟨0,0,none⟩) 3 3 (fun i=> [YM,WM,XM][i]?.getD []) (CB (P:= [YM,WM,XM]) (jj:= []) (h' _ _ hC0)) dE (EB ws[i]);rw[ZW] at cI;have g1:iA .geq .i64 ws[i] 0=some (.bool true):=CH hz.1;have wG:QB (ws.take (i+1))=QB (ws.take i)++[.iz ws[i]]:=by unfold QB;rw[List.take_succ_eq_append_getElem c2,List.map_append];rfl
  obtain⟨z,TV⟩:∃z,z=ws[i]:=⟨_,rfl⟩
  rw[<-TV] at hz f1 cI g1 wG;clear TV;refine II ?_;refine .x (pA.kU (E:=en) (l:=0) (h:=3) rfl rfl rfl rfl rfl rfl rfl rfl oM oM oM rfl) ?_;refine U ?_;refine .cl (fun H hs=> cI H hs.base) ?_;refine U6 ?_;refine .cl (fun H hs=> wC M H) ?_;refine U4 ?_;refine .e (.bs (zz:=fun bs=> ?_));refine .e (Or.append (E:=en) 2 rfl rfl rfl rfl rfl rfl rfl rfl rfl rfl rfl rfl rfl rfl rfl (fun H hs=> RA.of (hs.get (i:=0) rfl) Nb) rfl oM rfl dE (fun g3 AN EJ=> ?_));refine U7 ?_;exact Tc.db (ih ⟨(i+1,g3),by simp only;omega,by simp only;omega,by simp only;rw[EJ,JE,wG];rfl⟩ Ob)
def a7(a b:Int):Value:=.iface 202 (.agg ⟨[.iz a,.iz b]⟩)
def j0(a b:By)(g:Gl 110 1):Value:=.iface 204 (.agg ⟨[bA a,bA b,g.val]⟩)
def NY(a b x y:Int):Value:=.iface 206 (.agg ⟨[.iz a,.iz b,.iz x,.iz y]⟩)
theorem jY(s p q:By)(hm:s.length<=1000000)(hP:mA 59 s= [bB,p,q])(hl:p.length<=1000000/\q.length<=1000000)(hp:PA p=true)(hq:PA q=true)(hp0:p≠ [])(hq0:q≠ []):
  fA M 103 #[bA s] H (Ib H (a7 (numOf p) (numOf q))):=by
 have EF:=fun H=> uD M H s 59 hm;rw[hP] at EF;have gB:=uC (P:= [bB,p,q]) (by intro x hx;simp only[List.mem_cons,List.not_mem_nil,or_false] at hx;rcases hx with rfl|rfl|rfl <;> first|assumption|decide);have c1:=fun H=> kG M H p hl.1 hp;have c2:=fun H=> kG M H q hl.2 hq;generalize numOf p=x at c1;generalize numOf q=z at c2;refine .en func103 ntmps103 fun St c cs hK=> ?_;refine U7 ?_;refine .e (Or.xA (FG [bB,p,q]) (PD [bB,p,q]) (fun _=> True) rfl rfl rfl rfl rfl dE (fun _=> by simp[PD]) (fun H hs=> .h (EF H)) (fun b _=> ?_));refine U5 ?_;refine .cl (fun H hs=> SB M H (some ⟨b,0,none⟩) 3 3 (fun i=> [bB,p,q][i]?.getD []) (CB (P:= [bB,p,q]) (jj:= []) (hs.get (i:=0) rfl)) dE [] false gB) ?_;refine U ?_;refine .cl (fun H hs=> wC M H) ?_;refine U4 ?_;refine Tc.db (R':= [(3,.sl b 3 3)]) (L':= [Bb b [bA bB,bA p,bA q] 9]) ?_;refine MF ?_;refine Tc.dr [] [] mixed rfl ?_;refine V3 0 ?_;refine .z 3 rfl (pA.tk fun H hs=> c1 H) ?_;refine V3 4 ?_;refine .z 7 rfl (pA.tk fun H hs=> c2 H) ?_;refine .nn 8 ?_;refine .q 9 rfl (pA.iface rfl rfl kR) ?_;refine .nn 10 ?_;refine .dn ?_;refine .rt hK func103 results103 [_] ?_;exact okB
theorem cW(s p q:By)(hm:s.length<=1000000)(hP:mA 59 s= [IA,p,q])(hl:p.length<=1000000/\q.length<=1000000)(hp:qB p=true)(hq:qB q=true)(hp0:p≠ [])(hq0:q≠ []):
  fA M 103 #[bA s] H (Ib H (NY (vE p) (EE p) (vE q) (EE q))):=by
 have EF:=fun H=> uD M H s 59 hm;rw[hP] at EF;have gB:=uC (P:= [IA,p,q]) (by intro x hx;simp only[List.mem_cons,List.not_mem_nil,or_false] at hx;rcases hx with rfl|rfl|rfl <;> first|assumption|decide);have c1:=fun H=> EP M H p hl.1 hp;have c2:=fun H=> EP M H q hl.2 hq;generalize vE p=x1 at c1;generalize EE p=x2 at c1;generalize vE q=z1 at c2;generalize EE q=z2 at c2;refine .en func103 ntmps103 fun St c cs hK=> ?_;refine U7 ?_;refine .e (Or.xA (FG [IA,p,q]) (PD [IA,p,q]) (fun _=> True) rfl rfl rfl rfl rfl dE (fun _=> by simp[PD]) (fun H hs=> .h (EF H)) (fun b _=> ?_));refine U5 ?_;refine .cl (fun H hs=> SB M H (some ⟨b,0,none⟩) 3 3 (fun i=> [IA,p,q][i]?.getD []) (CB (P:= [IA,p,q]) (jj:= []) (hs.get (i:=0) rfl)) dE [] false gB) ?_;refine U ?_;refine .cl (fun H hs=> wC M H) ?_;refine U4 ?_;refine Tc.db (R':= [(3,.sl b 3 3)]) (L':= [Bb b [bA IA,bA p,bA q] 9]) ?_;refine U40 ?_;refine .cl (fun H hs=> wC M H) ?_;refine U2 ?_;refine Tc.dr [] [] mixed rfl ?_;refine V3 0 ?_;refine .z 3 rfl (pA.tk fun H hs=> c1 H) ?_;refine V3 4 ?_;refine .z 7 rfl (pA.tk fun H hs=> c2 H) ?_;refine V2 8 ?_;refine .q 10 rfl (pA.iface rfl rfl kR) ?_;refine .nn 11 ?_;refine .dn ?_;refine .rt hK func103 results103 [_] ?_;exact okB
end
def vC(s:By):List By:=
 (((mA 10 s).dropLast).map fun p=> p++[10])++(if((mA 10 s).getLast?.getD [])= [] then [] else [(mA 10 s).getLast?.getD []])
theorem wL:vC []= []:=rfl
theorem qS {s:By}(h:(10:UInt8) ∉ s)(aB:s≠ []):vC s= [s]:=by
 unfold vC;rw[tC 10 s h];show []++(if s= [] then [] else [s])=_;rw[if_neg aB];rfl
theorem xQ {p q:By}(h:(10:UInt8) ∉ p):vC (p++10::q)=(p++[10])::vC q:=by
 unfold vC;rw[xD 10 q p h];cases hq:mA 10 q with
 | nil=> exact(kF 10 q hq).elim
 | cons a l=> rfl
def UT(b1:Nat):Value:=.func (.func 175) #[] #[.pt b1]
section
variable(M:Md prog)(H:View)
theorem aAL(s:By):fA M 102 #[bA s] H (fun v H'=> H.le H'/\∃b,v=UT b/\True/\∀z∈ [(b,true,Obj.cells ⟨[bA s]⟩ 9 (0,0))],H' z.1=some z.2/\H z.1=none):=by
 refine .en func102 ntmps102 fun St c cs hK=> ?_;refine U2 ?_;refine .bo fun b1=> ?_;refine U7 ?_;refine .rt hK func102 results102 [_] ?_;refine fun H' hs=> ⟨hs.base,b1,rfl,trivial,fun z hz=> ?_⟩
 simp only[List.mem_singleton] at hz;subst hz;exact⟨hs.get (i:=0) rfl,hs.fresh (i:=0) rfl⟩
end
end Go.Proofs.YtldmfjcgjdchcaaGreatDoor
namespace Go.Proofs.YtldmfjcgjdchcaaGreatDoor
open Go.RL Go.Proofs.Tryz
set_option maxRecDepth 10000
theorem gY(y:UInt8)(s:By):lastB y (s++[y])=true:=by simp[lastB]
theorem ZR(y:UInt8)(s:By):WH y (s++[y])=s:=by
 unfold WH;rw[if_pos (gY y s),List.dropLast_concat]
theorem vZ {y:UInt8}{s:By}(h:y ∉ s):WH y s=s:=by
 unfold WH;rw[if_neg];intro e;have e:s.getLast? =some y:=by simpa [lastB] using e
 exact h (List.mem_of_getLast? e)
def fU(s:By):Prop:=s≠ []/\(59:UInt8) ∉ s/\(10:UInt8) ∉ s
structure Prs(k:Bk):Prop where
 prt:Prt k
 name:∀i,i<k.nl->fU (k.name i)
 num:∀i,i<k.nl->fU (k.num i)
 tr:∀j,j<k.nt->1<=k.pf j/\k.pf j<=k.pt j
end Go.Proofs.YtldmfjcgjdchcaaGreatDoor
namespace Go.RL
open Go.Conc
def I5 {P:Program}(M:Md P)(g:FuncId)(args:Array Value)(H:View)(Q:View->Prop):Prop:=
 ∀(St:View->Goroutine->Prop) (b:FB) (tmps:Array Value) (ds:List Deferred) (todo:List Item) (cs:List Frame),(∀H',Q H'->T M St H' (G (b.back tmps ds todo) cs))->T M St H (G (Frame.enter P g args .deferred) (b.back tmps ds todo::cs))
def clo(g:FuncId)(args captured:Array Value):Deferred:= { target:=.fn (.func g) captured,args }
section
variable {P:Program}{E:Env P}{M:Md P}{St:View->Goroutine->Prop}{n:Nat}{b:FB}{H₀:View}{cs:List Frame}{R:Rg}{L L₁:Bl}{ds:List Deferred}{k:List Item}
theorem T.I1 {H:View}{tmps:Array Value}{todo:List Item}{g:FuncId}{args captured:Array Value}(hg:AA P g=true)
  (h:T M St H (G (Frame.enter P g (args++captured) .deferred) (b.back tmps ds todo::cs))):T M St H (G (b.back tmps (clo g args captured::ds) todo) cs):=by
 refine .step ⟨rfl,fun w hs _=> ?_⟩;obtain⟨v,H',w',es,h1,h2,h3⟩:=lC (callFunc g (args++captured)) #[] hs (tE (Q:=fun nx H'=> nx=.enter g (args++captured)/\H'=H) hg ⟨rfl,rfl⟩);obtain⟨rfl,rfl⟩:=h3;rw[Array.empty_append] at h1;refine⟨_,w',seen P b.fn es,H',?_,h2.sub fun e he=> mem_seen he,h⟩;have e:stepG P M.main (G (b.back tmps (clo g args captured::ds) todo) cs) w=unwind P M.main (b.back tmps (clo g args captured::ds) todo) cs Option.none w:=by
  simp[G,stepG,FB.back]
 rw[e];unfold unwind;simp only[FB.back,clo];have hi:invoke (.fn (.func g) captured) args=callFunc g (args++captured):=by
  unfold invoke;rfl
 unfold callDeferred;rw[if_neg (by simp),hi];simp only[h1];rfl
theorem T.N8 {fn:Func}{H:View}{b₀:FB}{tmps tmps₀:Array Value}{ds₀:List Deferred}{todo todo₀:List Item}(hf:P.funcs[b.fn]? =some fn)(hk:b.kind=.deferred)
  (h:HA P (results fn tmps) H fun _ H'=> T M St H' (G (b₀.back tmps₀ ds₀ todo₀) cs)):T M St H (G (b.back tmps [] todo) (b₀.back tmps₀ ds₀ todo₀::cs)):=by
 refine .step ⟨rfl,fun w hs _=> ?_⟩;obtain⟨v,H',w',es,h1,h2,h3⟩:=lC _ #[] hs h;rw[Array.empty_append] at h1;refine⟨_,w',seen P b.fn es,H',?_,h2.sub fun e he=> mem_seen he,h3⟩;have:stepG P M.main (G (b.back tmps [] todo) (b₀.back tmps₀ ds₀ todo₀::cs)) w=unwind P M.main (b.back tmps [] todo) (b₀.back tmps₀ ds₀ todo₀::cs) Option.none w:=by
  simp[G,stepG,FB.back]
 rw[this];unfold unwind;simp only[FB.back,hf,h1,doReturn,hk,GStep.after,G,Array.append_empty]
theorem To.xY {dl:List (Option Tmp)}{l:List Oper}{o:Oper}{d:Nat}{cl:Go.Call}{g:FuncId}{b₀:FB}{tmps₀:Array Value}{ds₀:List Deferred}{todo₀:List Item}(lA:o.op=.call cl)(iB:cl.callee=.builtin .recover)(hw:TA dl R o=some true)(hd:o.dst=some d)(hn:d<n)
  (h:To M St n ⟨g,.deferred,none⟩ H₀ (b₀.back tmps₀ ds₀ todo₀::cs) dl ((d,.nilIface)::R) L ds l k):To M St n ⟨g,.deferred,none⟩ H₀ (b₀.back tmps₀ ds₀ todo₀::cs) dl R L ds (o::l) k:=fun arr ix ha hx=> by
 cases ix with
 | nil=> simp at hx
 | cons i r=>
  simp only[List.map_cons,List.cons.injEq] at hx;intro H tmps hs hr;have N2:=rB ha hr hw;have hf:=FB.finish_at (⟨g,.deferred,none⟩:FB) tmps ds arr i r k .nilIface;rw[hx.1] at hf;simp only[Option.bind_some,hd] at hf;refine .step ⟨rfl,fun w aX _=> ⟨_,w,#[],H,?_,.refl aX,h arr r ha hx.2 H _ hs (hr.put hn .nilIface)⟩⟩;have hex:execOp (OB tmps) o=Sem.pure .recover:=by
   unfold execOp;rw[lA];unfold resolve;simp only[iB];rfl
  have NX:((⟨g,.deferred,none⟩:FB).at tmps ds (.inRegion arr (i::r)::k)).eval=OB tmps:=FB.eval_at _ _ _ _;have h1:stepG P M.main (G ((⟨g,.deferred,none⟩:FB).at tmps ds (.inRegion arr (i::r)::k)) (b₀.back tmps₀ ds₀ todo₀::cs)) w=stepG.apply P true ((⟨g,.deferred,none⟩:FB).at tmps ds (.inRegion arr (i::r)::k)) (b₀.back tmps₀ ds₀ todo₀::cs) Option.none (execOp ((⟨g,.deferred,none⟩:FB).at tmps ds (.inRegion arr (i::r)::k)).eval o) w:=by
   simp[G,stepG,stepG.exec,stepG.oper,Frame.oper?,FB.at,hx.1,N2,lA]
  rw[h1,NX,hex];unfold stepG.apply;rw[if_pos rfl];have l8:(Sem.pure Next.recover:Sem Next).runT P w #[]=(.ok .recover w,#[]):=rfl;simp only[l8];show GStep.after (seen P g #[]) (GStep.go (G (((⟨g,.deferred,none⟩:FB).at tmps ds (.inRegion arr (i::r)::k)).finish .nilIface) (b₀.back tmps₀ ds₀ todo₀::cs)) w)=_;rw[hf];rfl
def Tb {P:Program}(M:Md P)(St:View->Goroutine->Prop)(n:Nat)(b:FB)(H₀:View)(cs:List Frame)(R:Rg)(L:Bl)(ds:List Deferred):Prop:=
 ∀H tmps todo,jA H₀ L H->YA n R tmps->T M St H (G (b.back tmps ds todo) cs)
theorem Tc.aAi(hr:b.rd=none)(h:Tb M St n b H₀ cs R L ds):Tc M St n b H₀ cs R L ds (.code .ret::k):=fun H tmps hs L2=> .LD hr (h H tmps _ hs L2)
theorem Tb.mark {i r:Nat}(hi:L[i]? =some (r,true,.deferred (some [])))(h:Tb M St n b H₀ cs R (L.set i (r,true,.deferred none)) ds):Tb M St n b H₀ cs R L (GD r::ds):=fun _ tmps todo hs hr=> .collect (by
 have hd:=hs.get hi;refine⟨true,_,hd,by simp,rfl,?_⟩;refine⟨⟨_,hd,by simp⟩,rfl,?_⟩;exact h _ tmps todo (hs.set hi (true,.deferred none)) hr)
theorem Tb.call {g:FuncId}{args captured:Array Value}(hg:AA P g=true)(hc:∀H,jA H₀ L H->I5 M g (args++captured) H fun H'=> H.le H')(h:Tb M St n b H₀ cs R L ds):Tb M St n b H₀ cs R L (clo g args captured::ds):=
 fun H tmps todo hs hr=> .I1 hg (hc H hs St b tmps ds todo cs fun H' hle=> h H' tmps todo (hs.mono hle) hr)
theorem Tb.leave {fn:Func}{c:Frame}{Q:Value->View->Prop}{f:FuncId}{rv:List ResultVar}{vs:List Value}(hK:∀v H',Q v H'->T M St H' (G (c.finish v) cs))(hf:P.funcs[f]? =some fn)(XO:fn.results=rv.toArray)
  (ho:fJ E R L rv vs) (h:∀H',jA H₀ L H'->Q (gF vs) H'):Tb M St n ⟨f,.normal,none⟩ H₀ (c::cs) R L []:=fun _ _ _ hs hr=>
 .leave hf rfl (VA _ hK (eE hs hr XO ho (h _ hs)))
theorem To.defer {dl:List (Option Tmp)}{l:List Oper}{o:Oper}{cl:Go.Call}{x:Operand}{g:FuncId}{az first captured:List Value}(lA:o.op=.defer cl)(iB:cl.callee=.value x)(hx:JA R x=some (.func (.func g) first.toArray captured.toArray))(has:lD R cl.args.toList=some az)(WO:b.rd=none)
  (hw:TA dl R o=some true) (hd:o.dst=none) (h:To M St n b H₀ cs dl R L (clo g (first++az).toArray captured.toArray::ds) l k):To M St n b H₀ cs dl R L ds (o::l) k:=fun arr ix ha nJ=> by
 cases ix with
 | nil=> simp at nJ
 | cons i r=>
  simp only[List.map_cons,List.cons.injEq] at nJ;intro H tmps hs hr;have e1:=hr.ev hx;have cH:cl.args.map (OB tmps)=az.toArray:=by
   apply Array.ext'
   simpa using hr.evs has
  refine .op nJ.1 (rB ha hr hw) (.inl WO) ?_;have hex:execOp (OB tmps) o=(resolve (OB tmps) cl o.type).bind fun d=> Sem.pure (.defer d):=by unfold execOp;rw[lA];rfl
  rw[hex];have KT:resolve (OB tmps) cl o.type=Deferred.ofValue (.func (.func g) first.toArray captured.toArray) az.toArray:=by
   unfold resolve;rw[iB];simp only[e1,cH]
  rw[KT];simp only[Deferred.ofValue];show T M St H (G (b.at (HB tmps o.dst undef) ({ target:=.fn (.func g) captured.toArray,args:=first.toArray++az.toArray }::ds) (.inRegion arr r::k)) cs);rw[hd,show first.toArray++az.toArray=(first++az).toArray by simp];exact h arr r ha nJ.2 H _ hs hr
theorem I5.enter {f:FuncId}{fn:Func}{body:Code}{vs:List Value}{H:View}{Q:View->Prop}(hf:P.funcs[f]? =some fn)(hb:fn.body=some body)(hn:fn.ntmps=n)(hv:vs.length<=n)(hs:jA H₀ L H)
  (h:∀St b₀ tmps₀ ds₀ todo₀ cs,(∀H',Q H'->T M St H' (G ((b₀:FB).back tmps₀ ds₀ todo₀) cs))->Tc M St n ⟨f,.deferred,none⟩ H₀ (b₀.back tmps₀ ds₀ todo₀::cs) (gL vs) L [] [.code body]):I5 M f vs.toArray H Q:=fun St b₀ tmps₀ ds₀ todo₀ cs hk=> by
 have:=h St b₀ tmps₀ ds₀ todo₀ cs hk H (vs.toArray++Array.replicate (n-vs.length) undef) hs ⟨by simp;omega,fun d v hd=> ?_⟩
 ·have e:Frame.enter P f vs.toArray .deferred=(⟨f,.deferred,none⟩:FB).at (vs.toArray++Array.replicate (n-vs.length) undef) [] [.code body]:=by
   simp[Frame.enter,FB.at,hf,hb,hn]
  rw[e];exact this
 ·obtain⟨_,h2⟩:=zG vs 0 d v hd;simp only[Nat.sub_zero] at h2;have KB:=(List.getElem?_eq_some_iff.1 h2).1;rw[Array.getElem?_append_left (by simpa using KB)];simpa using h2
theorem Tc.aBG(E:Env P){fn:Func}{Q:View->Prop}{f:FuncId}{b₀:FB}{tmps₀:Array Value}{ds₀:List Deferred}{todo₀:List Item}(hK:∀H',Q H'->T M St H' (G (b₀.back tmps₀ ds₀ todo₀) cs))(hf:P.funcs[f]? =some fn)(XO:fn.results=([]:List ResultVar).toArray)
  (h:∀H',jA H₀ L H'->Q H'):Tc M St n ⟨f,.deferred,none⟩ H₀ (b₀.back tmps₀ ds₀ todo₀::cs) R L [] []:=fun H _ hs hr=>
 .over rfl (.N8 hf rfl (eE (E:=E) (rs:= []) (vs:= []) hs hr XO trivial (hK H (h H hs))))
end
end Go.RL
namespace Go.RL
section
variable {P:Program}{M:Md P}{St:View->Goroutine->Prop}{n:Nat}{b:FB}{H₀:View}{cs:List Frame}{R:Rg}{L:Bl}{ds:List Deferred}{todo:List Item}
theorem Tc.bT(A B:Bl)(p:(A++B).Perm L)(h:∀H₁:View,H₀.le H₁->(∀x∈B,H₁ x.1=some x.2)->Tc M St n b H₁ cs R A ds todo):Tc M St n b H₀ cs R L ds todo:=fun H tmps hs hr=> by
 obtain⟨H₂,h1,h2⟩:=(hs.perm p).AD;exact h H₂ h2.base h2.at_ H tmps h1 hr
end
end Go.RL
namespace Go.Proofs.YtldmfjcgjdchcaaGreatDoor
open Go.RL Go.Proofs.Tryz
set_option maxRecDepth 10000
set_option maxHeartbeats 32000000
def B4(k:Bk)(Fs:Nat->Option Addr×Nat)(q:Nat):List Value:= [bA (k.name q),bA (k.num q),.slice (Fs q).1 (k.nf q) (Fs q).2]
def K4(k:Bk)(q:Nat):List Value:= [.iz (k.pf q),.iz (k.pt q),.iz (k.qf q),.iz (k.qt q)]
structure PSt(k:Bk)(H:View)(d i j:Nat)(gl:Gl 68 3)(gt:Gl 39 4)(Fs:Nat->Option Addr×Nat)(gp gv la:Int):Prop where
 hi:i<=k.nl
 hj:j<=k.nt
 hd:(d=0/\i=0/\j=0)\/(d=1+i+j/\gp=k.aD/\gv=k.yB)
 CU:j=0\/i=k.nl
 la:0<=la/\la<=2/\(j=0->la<=1)/\(d=0->la=0)
 ln:gl.n=i
 ll:gl.l=KA i (B4 k Fs)
 fr:∀q,q<i->k.nf q<=(Fs q).2/\PB H (Fs q).1 (k.nf q) (k.free q)
 tn:gt.n=j
 tl:gt.l=KA j (K4 k)
theorem PSt.book {k:Bk}{H H':View}{d:Nat}{gl:Gl 68 3}{gt:Gl 39 4}{Fs:Nat->Option Addr×Nat}{gp gv la:Int}(h:PSt k H d k.nl k.nt gl gt Fs gp gv la)(hl:H.le H')(h1:∀x∈gl.bl,H' x.1=some x.2)(h2:∀x∈gt.bl,H' x.1=some x.2):
  QD H' k (gl.blk.map fun b=> ⟨b,0,none⟩) gl.cap (gt.blk.map fun b=> ⟨b,0,none⟩) gt.cap:=by
 refine⟨⟨by rw[<-h.ln];exact gl.hc,?_⟩,⟨by rw[<-h.tn];exact gt.hc,?_⟩⟩
 ·cases hb:gl.blk with
  | none=> left;have:=gl.h0 hb;have:=gl.hc;have:=h.ln;omega
  | some b=>
   right
   unfold Gl.bl at h1;rw[hb] at h1;refine⟨b,0,true,gl.l++gl.jB,68,(0,0),rfl,h1 (b,true,.cells ⟨gl.l++gl.jB⟩ 68 (0,0)) (by simp),fun i hi=> ⟨(Fs i).1,(Fs i).2,?_,(h.fr i hi).1,(h.fr i hi).2.le hl⟩⟩;rw[h.ll,Int.toNat_natCast,Nat.zero_add];exact VP (f:=B4 k Fs) (fun _=> rfl) hi _
 ·cases hb:gt.blk with
  | none=> left;have:=gt.h0 hb;have:=gt.hc;have:=h.tn;omega
  | some b=>
   right
   unfold Gl.bl at h2;rw[hb] at h2;refine⟨b,0,true,gt.l++gt.jB,39,(0,0),rfl,h2 (b,true,.cells ⟨gt.l++gt.jB⟩ 39 (0,0)) (by simp),fun i hi=> ?_⟩;rw[h.tl,Int.toNat_natCast,Nat.zero_add];exact VP (f:=K4 k) (fun _=> rfl) hi _
theorem aBi {H:View}{g:Gl 110 1}{n:Nat}{x:Nat->Int}(h1:g.n=n)(h2:g.l=QB ((List.range n).map x))(hb:∀y∈g.bl,H y.1=some y.2):n<=g.cap/\PB H (g.blk.map fun b=> ⟨b,0,none⟩) n x:=by
 refine⟨by rw[<-h1];exact g.hc,?_⟩;cases hg:g.blk with
 | none=> left;have:=g.h0 hg;have:=g.hc;omega
 | some b=>
  right
  unfold Gl.bl at hb;rw[hg] at hb;refine⟨b,0,true,g.l++g.jB,110,(0,0),rfl,hb (b,true,.cells ⟨g.l++g.jB⟩ 110 (0,0)) (by simp),fun j hj=> ?_⟩;show(g.l++g.jB)[0+((j:Nat):Int).toNat*1]? =_;rw[Int.toNat_natCast,Nat.zero_add,Nat.mul_one,h2,List.getElem?_append_left (by rw[oV,List.length_map,List.length_range];exact hj)];unfold QB;rw[List.getElem?_map,List.getElem?_map,List.getElem?_range hj];rfl
theorem oZ:AA prog 356=true:=by kernel_rfl
theorem WR:AA prog 357=true:=by kernel_rfl
theorem pZ:AA prog 358=true:=by kernel_rfl
theorem W8(p x:By)(h:WH 10 x=p):x.length<=p.length+1:=by
 subst h;unfold WH;split
 ·rw[List.length_dropLast];omega
 ·omega
section
variable(M:Md prog)(H:View)
theorem xM(a b:Int):fA M 356 #[.agg ⟨[.iz a,.iz b]⟩] H (Ib H (.int .i64 0)):=by
 refine .en func356 ntmps356 fun St c cs hK=> ?_;refine U2 ?_;refine .bo fun b1=> ?_;refine U6 ?_;refine .rt hK func356 results356 [_] ?_;exact okB
theorem HI(a b:By)(g:Gl 110 1):fA M 357 #[.agg ⟨[bA a,bA b,g.val]⟩] H (Ib H (.int .i64 1)):=by
 refine .en func357 ntmps357 fun St c cs hK=> ?_;refine U2 ?_;refine .bo fun b1=> ?_;refine U6 ?_;refine .rt hK func357 results357 [_] ?_;exact okB
theorem yM(a b x y:Int):fA M 358 #[.agg ⟨[.iz a,.iz b,.iz x,.iz y]⟩] H (Ib H (.int .i64 2)):=by
 refine .en func358 ntmps358 fun St c cs hK=> ?_;refine U2 ?_;refine .bo fun b1=> ?_;refine U6 ?_;refine .rt hK func358 results358 [_] ?_;exact okB
theorem HQ(vs:List Value)(hv:vs.length=4):I5 M 101 vs.toArray H (fun H'=> H.le H'):=by
 refine I5.enter (n:=15) func101 rfl ntmps101 oM (jA.nil _) fun St b₀ tmps₀ ds₀ todo₀ cs hK=> ?_;refine U2 ?_;refine To.xY rfl rfl rfl rfl dE ?_;refine U4 ?_;refine .x (pA.aFO rfl rfl kR) ?_;refine U6 ?_;exact Tc.aBG en hK func101 results101 fun H' hs=> hs.base
end
end Go.Proofs.YtldmfjcgjdchcaaGreatDoor
namespace Go.RL
open Go.Conc
def raised(v:Value):List PanicEntry:= [{ v,recovered:=false }]
def FB.DI(b:FB)(tmps:Array Value)(ds:List Deferred)(todo:List Item)(es:List PanicEntry):Frame:=
 { fn:=b.fn,tmps,todo,defers:=ds,mode:=.panicking es,kind:=b.kind,roundOf:=b.rd }
def aAM {P:Program}(M:Md P)(fr:Frame)(H:View)(v:Value)(X:View->Prop):Prop:=
 ∀(St:View->Goroutine->Prop) (c:Frame) (cs:List Frame),(∀H',X H'->T M St H' (G (c.raise (raised v)) cs))->T M St H (G fr (c::cs))
def fD {P:Program}(M:Md P)(f:FuncId)(args:Array Value)(H:View)(v:Value)(X:View->Prop):Prop:=aAM M (Frame.enter P f args .normal) H v X
def VE {P:Program}(M:Md P)(fv:Value)(az:List Value)(H:View)(v:Value)(X:View->Prop):Prop:=
 HA P ((Deferred.ofValue fv az.toArray).bind fun d=> invoke d.target d.args) H fun nx H'=>
  match nx with
  | .enter f args=> fD M f args H' v X
  | .round l f tmps assign body=> aAM M (Frame.round l f tmps assign body .normal) H' v X
  | _=> False
section
variable {P:Program}{E:Env P}{M:Md P}{St:View->Goroutine->Prop}{n:Nat}{b:FB}{H₀:View}{cs:List Frame}{R:Rg}{L:Bl}{ds:List Deferred}{k:List Item}{v:Value}{X:View->Prop}
theorem VE.of {g:FuncId}{az first captured:List Value}{as':Array Value}{H:View}(hg:AA P g=true)(QA:(first++az++captured).toArray=as')(h:fD M g as' H v X):VE M (.func (.func g) first.toArray captured.toArray) az H v X:=by
 unfold VE;simp only[Deferred.ofValue];show HA P (callFunc g (first.toArray++az.toArray++captured.toArray)) H _;have e3:first.toArray++az.toArray++captured.toArray=as':=by rw[<-QA];simp
 rw[e3];exact tE hg h
theorem T.HS {fn:Func}{c:Frame}{H:View}{tmps:Array Value}{todo:List Item}{es:List PanicEntry}(hf:P.funcs[b.fn]? =some fn)(h:T M St H (G (c.raise es) cs)):T M St H (G (b.DI tmps [] todo es) (c::cs)):=by
 refine .ID rfl (fun w=> ?_) h;have e:stepG P M.main (G (b.DI tmps [] todo es) (c::cs)) w=unwind P M.main (b.DI tmps [] todo es) (c::cs) Option.none w:=by
  simp[G,stepG,FB.DI]
 rw[e];unfold unwind;have hc:(b.DI tmps [] todo es).catches P=false:=by
  unfold Frame.catches;simp only[FB.DI,hf]
 exact(if_neg (fun h1=> Bool.false_ne_true (hc.symm.trans h1))).trans rfl
theorem T.qZ {ops:Array Oper}{i:Nat}{rest:List Nat}{o:Oper}{tmps:Array Value}{H:View}(ho:ops[i]? =some o)(hw:Region.wanted o (yielded ops tmps)=true)(hd:BA o.op=false)
  (h:HA P (execOp (OB tmps) o) H fun nx H'=> match nx with | .enter f args=> fD M f args H' v X | .round l f t a bd=> aAM M (Frame.round l f t a bd .normal) H' v X|_=> False)
  (hE:∀H',X H'->T M St H' (G (b.DI tmps ds (.inRegion ops (i::rest)::k) (raised v)) cs)):T M St H (G (b.at tmps ds (.inRegion ops (i::rest)::k)) cs):=by
 refine .op ho hw (.inr fun c e=> by rw[e] at hd;cases hd) (VA _ (fun nx H' hn=> ?_) h);cases nx <;> first
  | exact hn.elim
  | exact hn St _ cs hE
theorem To.aBJ {dl:List (Option Tmp)}{l:List Oper}{o:Oper}{x:Operand}{t:TypeId}{u:Value}{fn:Func}{c:Frame}(hw:TA dl R o=some true)(lA:o.op=.panic x)(hx:JA R x=some (.iface t u))(hf:P.funcs[b.fn]? =some fn)
  (hP:∀H',H₀.le H'->T M St H' (G (c.raise (raised (.iface t u))) cs)):To M St n b H₀ (c::cs) dl R L [] (o::l) k:=fun arr ix ha nJ=> by
 cases ix with
 | nil=> simp at nJ
 | cons i r=>
  simp only[List.map_cons,List.cons.injEq] at nJ;intro H tmps hs hr;have e1:=hr.ev hx;have N2:=rB ha hr hw;refine .ID rfl (fun w=> ?_) (.HS (b:=b) (tmps:=tmps) (todo:=.inRegion arr (i::r)::k) hf (hP H hs.base));have NX:(b.at tmps [] (.inRegion arr (i::r)::k)).eval=OB tmps:=FB.eval_at _ _ _ _;have h1:stepG P M.main (G (b.at tmps [] (.inRegion arr (i::r)::k)) (c::cs)) w=stepG.apply P true (b.at tmps [] (.inRegion arr (i::r)::k)) (c::cs) Option.none (execOp (b.at tmps [] (.inRegion arr (i::r)::k)).eval o) w:=by
   cases WO:b.rd <;> simp[G,stepG,stepG.exec,stepG.oper,Frame.oper?,FB.at,nJ.1,N2,lA,WO]
  rw[h1,NX];have hex:execOp (OB tmps) o=(goPanic (.iface t u):Sem Value).bind fun z=> Sem.pure (.value z):=by
   unfold execOp;rw[lA];simp only[e1];rfl
  rw[hex];unfold stepG.apply;rw[if_pos rfl];have l8:(((goPanic (.iface t u):Sem Value).bind fun z=> Sem.pure (Next.value z)):Sem Next).runT P w #[]=(.halt (.panic (.iface t u)) w,#[]):=rfl;simp only[l8,ite_self];rfl
theorem fD.enter {f:FuncId}{fn:Func}{body:Code}{vs:List Value}{H:View}(hf:P.funcs[f]? =some fn)(hb:fn.body=some body)(hn:fn.ntmps=n)(hv:vs.length<=n)
  (h:∀St c cs,(∀H',X H'->T M St H' (G ((c:Frame).raise (raised v)) cs))->Tc M St n ⟨f,.normal,none⟩ H (c::cs) (gL vs) [] [] [.code body]):fD M f vs.toArray H v X:=fun St c cs hk=> by
 have:=h St c cs hk H (vs.toArray++Array.replicate (n-vs.length) undef) (.nil H) ⟨by simp;omega,fun d v hd=> ?_⟩
 ·have e:Frame.enter P f vs.toArray .normal=(⟨f,.normal,none⟩:FB).at (vs.toArray++Array.replicate (n-vs.length) undef) [] [.code body]:=by
   simp[Frame.enter,FB.at,hf,hb,hn]
  rw[e];exact this
 ·obtain⟨_,h2⟩:=zG vs 0 d v hd;simp only[Nat.sub_zero] at h2;have KB:=(List.getElem?_eq_some_iff.1 h2).1;rw[Array.getElem?_append_left (by simpa using KB)];simpa using h2
def G5 {P:Program}(M:Md P)(g:FuncId)(args:Array Value)(H:View)(v:Value)(Q:View->Prop):Prop:=
 ∀(St:View->Goroutine->Prop) (b:FB) (tmps:Array Value) (ds:List Deferred) (todo:List Item) (cs:List Frame),(∀H',Q H'->T M St H' (G (b.back tmps ds todo) cs))->T M St H (G (Frame.enter P g args .deferred) (b.DI tmps ds todo (raised v)::cs))
def PG {P:Program}(M:Md P)(St:View->Goroutine->Prop)(n:Nat)(b:FB)(H₀:View)(cs:List Frame)(R:Rg)(L:Bl)(ds:List Deferred)(v:Value):Prop:=
 ∀H tmps todo,jA H₀ L H->YA n R tmps->T M St H (G (b.DI tmps ds todo (raised v)) cs)
def again(v:Value):List PanicEntry:= [{ v,recovered:=true }]
theorem PG.mark {i r:Nat}(hi:L[i]? =some (r,true,.deferred (some [])))(h:PG M St n b H₀ cs R (L.set i (r,true,.deferred none)) ds v):PG M St n b H₀ cs R L (GD r::ds) v:=fun H tmps todo hs hr=> by
 have hd:=hs.get hi;have hv:HA P (Instr.takeDeferred r) H fun calls H'=> calls= []/\jA H₀ (L.set i (r,true,.deferred none)) H':=by
  refine⟨true,_,hd,by simp,rfl,?_⟩;refine⟨⟨_,hd,by simp⟩,rfl,?_⟩;exact⟨rfl,hs.set hi (true,.deferred none)⟩
 refine .step ⟨rfl,fun w aX _=> ?_⟩;obtain⟨calls,H',w',es,h1,h2,rfl,h3⟩:=lC _ #[] aX hv;rw[Array.empty_append] at h1;refine⟨_,w',seen P b.fn es,H',?_,h2.sub fun e he=> mem_seen he,h H' tmps todo h3 hr⟩;have e:stepG P M.main (G (b.DI tmps (GD r::ds) todo (raised v)) cs) w=unwind P M.main (b.DI tmps (GD r::ds) todo (raised v)) cs Option.none w:=by
  simp[G,stepG,FB.DI]
 rw[e];unfold unwind;simp only[FB.DI,GD,h1,GStep.after,G,Array.append_empty,List.nil_append]
theorem PG.call {g:FuncId}{args captured:Array Value}{L':Bl}(hg:AA P g=true)(hc:∀H,jA H₀ L H->G5 M g (args++captured) H v fun H'=> jA H₀ L' H')(h:Tb M St n b H₀ cs R L' ds):PG M St n b H₀ cs R L (clo g args captured::ds) v:=fun H tmps todo hs hr=> by
 have hq:=hc H hs St b tmps ds todo cs fun H' h'=> h H' tmps todo h' hr;refine .step ⟨rfl,fun w aX _=> ?_⟩;obtain⟨nx,H',w',es,h1,h2,h3⟩:=lC (callFunc g (args++captured)) #[] aX (tE (Q:=fun nx H'=> nx=.enter g (args++captured)/\H'=H) hg ⟨rfl,rfl⟩);obtain⟨rfl,rfl⟩:=h3;rw[Array.empty_append] at h1;refine⟨_,w',seen P b.fn es,H',?_,h2.sub fun e he=> mem_seen he,hq⟩;have e:stepG P M.main (G (b.DI tmps (clo g args captured::ds) todo (raised v)) cs) w=unwind P M.main (b.DI tmps (clo g args captured::ds) todo (raised v)) cs Option.none w:=by
  simp[G,stepG,FB.DI]
 rw[e];unfold unwind;simp only[FB.DI,clo];have hi:invoke (.fn (.func g) captured) args=callFunc g (args++captured):=by
  unfold invoke;rfl
 unfold callDeferred;rw[if_neg (by simp),hi];simp only[h1];rfl
theorem To.yY {dl:List (Option Tmp)}{l:List Oper}{o:Oper}{d:Nat}{cl:Go.Call}{g:FuncId}{b₀:FB}{tmps₀:Array Value}{ds₀:List Deferred}{todo₀:List Item}(lA:o.op=.call cl)(iB:cl.callee=.builtin .recover)(hw:TA dl R o=some true)(hd:o.dst=some d)(hn:d<n)
  (h:To M St n ⟨g,.deferred,none⟩ H₀ (b₀.DI tmps₀ ds₀ todo₀ (again v)::cs) dl ((d,v)::R) L ds l k):To M St n ⟨g,.deferred,none⟩ H₀ (b₀.DI tmps₀ ds₀ todo₀ (raised v)::cs) dl R L ds (o::l) k:=fun arr ix ha hx=> by
 cases ix with
 | nil=> simp at hx
 | cons i r=>
  simp only[List.map_cons,List.cons.injEq] at hx;intro H tmps hs hr;have N2:=rB ha hr hw;have hf:=FB.finish_at (⟨g,.deferred,none⟩:FB) tmps ds arr i r k v;rw[hx.1] at hf;simp only[Option.bind_some,hd] at hf;refine .step ⟨rfl,fun w aX _=> ⟨_,w,#[],H,?_,.refl aX,h arr r ha hx.2 H _ hs (hr.put hn v)⟩⟩;have hex:execOp (OB tmps) o=Sem.pure .recover:=by
   unfold execOp;rw[lA];unfold resolve;simp only[iB];rfl
  have NX:((⟨g,.deferred,none⟩:FB).at tmps ds (.inRegion arr (i::r)::k)).eval=OB tmps:=FB.eval_at _ _ _ _;have h1:stepG P M.main (G ((⟨g,.deferred,none⟩:FB).at tmps ds (.inRegion arr (i::r)::k)) (b₀.DI tmps₀ ds₀ todo₀ (raised v)::cs)) w=stepG.apply P true ((⟨g,.deferred,none⟩:FB).at tmps ds (.inRegion arr (i::r)::k)) (b₀.DI tmps₀ ds₀ todo₀ (raised v)::cs) Option.none (execOp ((⟨g,.deferred,none⟩:FB).at tmps ds (.inRegion arr (i::r)::k)).eval o) w:=by
   simp[G,stepG,stepG.exec,stepG.oper,Frame.oper?,FB.at,hx.1,N2,lA]
  rw[h1,NX,hex];unfold stepG.apply;rw[if_pos rfl];have l8:(Sem.pure Next.recover:Sem Next).runT P w #[]=(.ok .recover w,#[]):=rfl;simp only[l8];show GStep.after (seen P g #[]) (GStep.go (G (((⟨g,.deferred,none⟩:FB).at tmps ds (.inRegion arr (i::r)::k)).finish v) (b₀.DI tmps₀ ds₀ todo₀ (again v)::cs)) w)=_;rw[hf];rfl
theorem G5.enter {f:FuncId}{fn:Func}{body:Code}{vs:List Value}{H:View}{Q:View->Prop}(hf:P.funcs[f]? =some fn)(hb:fn.body=some body)(hn:fn.ntmps=n)(hv:vs.length<=n)(hs:jA H₀ L H)
  (h:∀St b₀ tmps₀ ds₀ todo₀ cs,(∀H',Q H'->T M St H' (G ((b₀:FB).back tmps₀ ds₀ todo₀) cs))->Tc M St n ⟨f,.deferred,none⟩ H₀ (b₀.DI tmps₀ ds₀ todo₀ (raised v)::cs) (gL vs) L [] [.code body]):G5 M f vs.toArray H v Q:=fun St b₀ tmps₀ ds₀ todo₀ cs hk=> by
 have:=h St b₀ tmps₀ ds₀ todo₀ cs hk H (vs.toArray++Array.replicate (n-vs.length) undef) hs ⟨by simp;omega,fun d v hd=> ?_⟩
 ·have e:Frame.enter P f vs.toArray .deferred=(⟨f,.deferred,none⟩:FB).at (vs.toArray++Array.replicate (n-vs.length) undef) [] [.code body]:=by
   simp[Frame.enter,FB.at,hf,hb,hn]
  rw[e];exact this
 ·obtain⟨_,h2⟩:=zG vs 0 d v hd;simp only[Nat.sub_zero] at h2;have KB:=(List.getElem?_eq_some_iff.1 h2).1;rw[Array.getElem?_append_left (by simpa using KB)];simpa using h2
theorem Tc.aBH(E:Env P){fn:Func}{Q:View->Prop}{f:FuncId}{b₀:FB}{tmps₀:Array Value}{ds₀:List Deferred}{todo₀:List Item}(hK:∀H',Q H'->T M St H' (G (b₀.back tmps₀ ds₀ todo₀) cs))(hf:P.funcs[f]? =some fn)(XO:fn.results=([]:List ResultVar).toArray)
  (h:∀H',jA H₀ L H'->Q H'):Tc M St n ⟨f,.deferred,none⟩ H₀ (b₀.DI tmps₀ ds₀ todo₀ (again v)::cs) R L [] []:=fun H tmps hs hr=>
 .over rfl (by
  have hv:HA P (results fn tmps) H fun _ H'=> T M St H' (G (b₀.back tmps₀ ds₀ todo₀) cs):=eE (E:=E) (rs:= []) (vs:= []) hs hr XO trivial (hK H (h H hs));refine .step ⟨rfl,fun w aX _=> ?_⟩;obtain⟨u,H',w',es,h1,h2,h3⟩:=lC _ #[] aX hv;rw[Array.empty_append] at h1;refine⟨_,w',seen P f es,H',?_,h2.sub fun e he=> mem_seen he,h3⟩;have:stepG P M.main (G ((⟨f,.deferred,none⟩:FB).back tmps [] []) (b₀.DI tmps₀ ds₀ todo₀ (again v)::cs)) w=unwind P M.main ((⟨f,.deferred,none⟩:FB).back tmps [] []) (b₀.DI tmps₀ ds₀ todo₀ (again v)::cs) Option.none w:=by
   simp[G,stepG,FB.back]
  rw[this];unfold unwind;simp only[FB.back,hf,h1,doReturn,GStep.after,G,Array.append_empty,FB.DI,again];rfl)
end
def aGu {P:Program}(M:Md P)(v:Value)(Z:View->Prop)(nx:Next)(H:View):Prop:=
 match nx with
 | .enter f args=> fD M f args H v Z
 | .round l f t a bd=> aAM M (Frame.round l f t a bd .normal) H v Z
 | _=> False
section
variable {P:Program}{M:Md P}{md:Region.Mode}{ops:Array Oper}{S:Array Bool->View->Prop}{Fin:Array Value->View->Prop}{v:Value}{Z:View->Prop}
def UU(M:Md P)(ops:Array Oper)(v:Value)(Z:View->Prop)(o:Oper)(tmps:Array Value)(H:View)(K:Array Value->View->Prop):Prop:=
 KI M ops o tmps H K\/(BA o.op=false/\Region.wanted o (yielded ops tmps)=true/\HA P (execOp (OB tmps) o) H fun nx H'=> aGu M v Z nx H')
def HL(M:Md P)(md:Region.Mode)(ops:Array Oper)(S:Array Bool->View->Prop)(v:Value)(Z:View->Prop)(Fin:Array Value->View->Prop):Nat->Array Bool->Array Value->View->Prop
 | 0,listed,tmps,H=> ∀H₂,H.le H₂->S listed H₂->Region.ready md ops listed= []/\Fin tmps H₂
 | fuel+1,listed,tmps,H=> ∀H₂,H.le H₂->S listed H₂-> 
  (Region.ready md ops listed= []->Fin tmps H₂)/\
  ∀i∈Region.ready md ops listed,∀o,ops[i]? =some o->UU M ops v Z o tmps H₂ fun tmps' H'=> S (listed.setIfInBounds i true) H'/\HL M md ops S v Z Fin fuel (listed.setIfInBounds i true) tmps' H'
theorem HL.mono {fuel:Nat}{listed:Array Bool}{tmps:Array Value}{H H':View}(h:HL M md ops S v Z Fin fuel listed tmps H)(k:H.le H'):HL M md ops S v Z Fin fuel listed tmps H':=by
 cases fuel with
 | zero=> exact fun H₂ h2 hS=> h H₂ (View.le_trans k h2) hS
 | succ fuel=> exact fun H₂ h2 hS=> h H₂ (View.le_trans k h2) hS
theorem KI.put {o:Oper}{tmps:Array Value}{H:View}{K:Array Value->View->Prop}(h:KI M ops o tmps H K):KI M ops o tmps H fun t H'=> (∃u,t=HB tmps o.dst u)/\K t H':=by
 obtain⟨hd,h⟩:=h;refine⟨hd,?_⟩;split
 ·rename_i hw
  rw[if_pos hw] at h;unfold pF at *;refine VA _ (fun nx H' hn=> ?_) h;cases nx <;> first
   | exact hn.elim
   | exact⟨⟨_,rfl⟩,hn⟩
   | exact fA.mono hn fun u H'' hk=> ⟨⟨_,rfl⟩,hk⟩
   | exact VM.mono hn fun u H'' hk=> ⟨⟨_,rfl⟩,hk⟩
 ·rename_i hw
  rw[if_neg hw] at h;exact⟨⟨_,rfl⟩,h⟩
theorem UU.back {oi oj:Oper}{u:Value}{tmps:Array Value}{H:View}{K:Array Value->View->Prop}(pO:oi.apart ops oj=true)(hsj:∀cs b,oj.op≠ .select cs b)(h:UU M ops v Z oj (HB tmps oi.dst u) H K):
  UU M ops v Z oj tmps H fun t H'=> (∃u,t=HB tmps oj.dst u)/\K (HB t oi.dst u) H':=by
 obtain⟨h1,h2,_⟩:=Oper.apart_spec pO;rcases h with h|⟨hd,hw,h⟩
 ·exact .inl (h.back pO hsj)
 ·rw[qK oj tmps oi.dst u h1] at hw;rw[uN oj hsj tmps oi.dst u h1] at h;exact .inr ⟨hd,hw,h⟩
theorem UU.mono {o:Oper}{tmps:Array Value}{H:View}{K K':Array Value->View->Prop}(h:UU M ops v Z o tmps H K)(hk:∀t H',K t H'->K' t H'):UU M ops v Z o tmps H K':=
 h.imp (fun h=> h.mono hk) id
theorem HL.sound {St:View->Goroutine->Prop}{b:FB}{ds:List Deferred}{k:List Item}{cs:List Frame}{W:Array Value->Prop}(hW:∀(i:Nat) (o:Oper) (tmps:Array Value) (u:Value),ops[i]? =some o->W tmps->W (HB tmps o.dst u))
  (hZ:∀H tmps todo,Z H->W tmps->T M St H (G (b.DI tmps ds todo (raised v)) cs)):∀(fuel t:Nat) (listed:Array Bool) (tmps:Array Value) (H:View),S listed H->W tmps-> 
  HL M md ops S v Z (fun tmps H=> T M St H (G (b.at tmps ds k) cs)) fuel listed tmps H->T M St H (G (b.at tmps ds (.inRegion ops (Region.linearise.go md ops fuel t listed [])::k)) cs):=by
 intro fuel;induction fuel with
 | zero=>
  intro t listed tmps H hS _ h;simp only[Region.linearise.go];exact .mH (h H (View.le_refl H) hS).2
 | succ fuel ih=>
  intro t listed tmps H hS hw h;have h:=h H (View.le_refl H) hS;have e:Region.linearise.go md ops (fuel+1) t listed []=match (Region.ready md ops listed)[t%(Region.ready md ops listed).length]? with
    | some i=> i::Region.linearise.go md ops fuel (t/(Region.ready md ops listed).length) (listed.setIfInBounds i true) []
    | none=> []:=by
   rw[Region.linearise.go];show(match (Region.ready md ops listed)[t%(Region.ready md ops listed).length]? with
    | some i=> Region.linearise.go md ops fuel (t/(Region.ready md ops listed).length) (listed.setIfInBounds i true) [i]
    | none=> List.reverse [])=_
   split
   ·rename_i i _
    rw[linearise_go_acc];rfl
   ·rfl
  rw[e];split
  ·rename_i i hi
   have VD:=List.mem_of_getElem? hi;obtain⟨_,o,ho,_⟩:=mem_ready.1 VD;rcases h.2 i VD o ho with h1|⟨hd,vO,h1⟩
   ·refine KI.sound ho (h1.put.mono ?_);rintro t' H' ⟨⟨u,rfl⟩,hk⟩;exact ih _ _ _ _ hk.1 (hW i o tmps u ho hw) hk.2
   ·refine .qZ (v:=v) (X:=Z) ho vO hd h1 fun H' hz=> hZ H' tmps _ hz hw
  ·rename_i hi
   have iG:Region.ready md ops listed= []:=by
    cases hr:Region.ready md ops listed with
    | nil=> rfl
    | cons a l=>
     rw[hr] at hi;have:t%(a::l).length<(a::l).length:=Nat.mod_lt _ (by simp);rw[List.getElem?_eq_getElem this] at hi;cases hi
   exact .mH (h.1 iG)
theorem HL.first {i:Nat}{oi:Oper}{u:Value}(hi:ops[i]? =some oi)(ME:∀(j:Nat) (o:Oper) cs b,ops[j]? =some o->o.op≠ .select cs b)(K7:BA oi.op=false)(DH:∀listed H,S (listed.setIfInBounds i true) H<->S listed H):
  ∀ (fuel:Nat) (listed:Array Bool) (tmps:Array Value) (H:View),
   (∀j oj,ops[j]? =some oj->j≠i->listed.getD j true=false->(∀e∈oj.after,Region.binds md e=true->e.on≠i)->oi.apart ops oj=true)-> 
   fC md ops listed=true->i∈Region.ready md ops listed->OF M md ops S i oi u tmps-> 
   HL M md ops S v Z Fin fuel (listed.setIfInBounds i true) (HB tmps oi.dst u) H->HL M md ops S v Z Fin (fuel+1) listed tmps H:=by
 have own:∀(fuel:Nat) (listed:Array Bool) (tmps:Array Value) (H:View),fC md ops listed=true->i∈Region.ready md ops listed->OF M md ops S i oi u tmps->S listed H->HL M md ops S v Z Fin fuel (listed.setIfInBounds i true) (HB tmps oi.dst u) H-> 
   UU M ops v Z oi tmps H fun t H'=> S (listed.setIfInBounds i true) H'/\HL M md ops S v Z Fin fuel (listed.setIfInBounds i true) t H':=by
  intro fuel listed tmps H iB WO hy hS h;refine .inl ⟨K7,?_⟩;rcases hy with ⟨hw,hv⟩|⟨hw,rfl⟩
  ·rw[if_pos hw];refine(hv listed iB (mem_ready.1 WO).1 H hS).run ?_;rintro u H' ⟨rfl,hle,zR⟩;exact⟨(DH listed H').2 zR,h.mono hle⟩
  ·rw[if_neg (by simp[hw])];exact⟨(DH listed H).2 hS,h⟩
 intro fuel;induction fuel with
 | zero=>
  intro listed tmps H _ iB hr hy h H₂ h2 hS;refine⟨fun e=> (by rw[e] at hr;cases hr),fun j hj o ho=> ?_⟩;by_cases DJ:j=i
  ·subst DJ;rw[hi] at ho;cases ho
   exact own 0 listed tmps H₂ iB hr hy hS (h.mono h2)
  ·have:=ready_mono hj DJ;rw[(h H₂ h2 ((DH listed H₂).2 hS)).1] at this;cases this
 | succ fuel ih=>
  intro listed tmps H UK iB hr hy h H₂ h2 hS;refine⟨fun e=> (by rw[e] at hr;cases hr),fun j hj oj lS=> ?_⟩;by_cases DJ:j=i
  ·subst DJ;rw[hi] at lS;cases lS
   exact own (fuel+1) listed tmps H₂ iB hr hy hS (h.mono h2)
  ·have h1:=(h H₂ h2 ((DH listed H₂).2 hS)).2 j (ready_mono hj DJ) oj lS;have J7:=YH iB hj;obtain⟨GV,oj',MV,QA⟩:=mem_ready.1 hj;rw[lS] at MV;cases MV
   have a8:∀e∈oj.after,Region.binds md e=true->e.on≠i:=fun e he hb heq=> by
    have h1:=QA e he hb;have h0:=(mem_ready.1 hr).1;rw[heq] at h1;rcases Nat.lt_or_ge i listed.size with h'|h'
    ·simp[h'] at h0 h1;rw[h0] at h1;cases h1
    ·simp[Array.getElem?_eq_none h'] at h1
   have pO:=UK j oj lS DJ GV a8;have eQ:∀k ok,ops[k]? =some ok->k≠i->(listed.setIfInBounds j true).getD k true=false-> 
     (∀e∈ok.after,Region.binds md e=true->e.on≠i)->oi.apart ops ok=true:=fun k ok hk hki FU gB=> by
    refine UK k ok hk hki ?_ gB;by_cases hjk:j=k
    ·subst hjk;exact GV
    ·rw[getD_set_ne true hjk] at FU;exact FU
   refine(h1.back pO (fun cs b=> ME j oj cs b lS)).mono ?_;rintro t H' ⟨⟨u,rfl⟩,zR,h3⟩;rw[Array.setIfInBounds_comm _ _ (Ne.symm DJ)] at zR;refine⟨(DH _ H').1 zR,ih (listed.setIfInBounds j true) _ H' eQ J7 (ready_mono hr (Ne.symm DJ)) (hy.put (fun cs b=> ME i oi cs b hi) (Oper.apart_spec pO).2.2) ?_⟩;rw[Array.setIfInBounds_comm _ _ DJ];exact h3
end
section
variable {P:Program}{M:Md P}{St:View->Goroutine->Prop}{n:Nat}{b:FB}{H₀:View}{cs:List Frame}{R:Rg}{L Ls L₁:Bl}{ds:List Deferred}{k:List Item}{md:Region.Mode}{ops:Array Oper}{v:Value}{fuel:Nat}{listed:Array Bool}{B:List Nat}
def Tp(M:Md P)(St:View->Goroutine->Prop)(n:Nat)(b:FB)(H₀:View)(cs:List Frame)(B:List Nat)(Ls L:Bl)(md:Region.Mode)(ops:Array Oper)(v:Value)(fuel:Nat)(listed:Array Bool)(R:Rg)(L₁:Bl)(ds:List Deferred)(k:List Item):Prop:=
 ∀H tmps,jA H₀ L₁ H->YA n R tmps->S2 H₀ B Ls L listed H->HL M md ops (S2 H₀ B Ls L) v (jA H₀ Ls) (fun tmps H=> T M St H (G (b.at tmps ds k) cs)) fuel listed tmps H
def qQ(ops:Array Oper)(R:Rg):Rg:=R.filter fun p=> ops.toList.all fun o=> o.dst !=some p.1
theorem XV(ops:Array Oper):∀ {R:Rg} {d:Nat} {v:Value},lk (qQ ops R) d=some v->(ops.toList.all fun o=> o.dst !=some d)=true/\lk R d=some v:=by
 intro R;induction R with
 | nil=> intro d v h;simp[qQ,lk] at h
 | cons p R ih=>
  intro d v h;obtain⟨a,x⟩:=p;unfold qQ at h ih;rw[List.filter_cons] at h;split at h
  ·rename_i hp
   rw[tM] at h ⊢;split
   ·rename_i e
    subst e;rw[if_pos rfl] at h;exact⟨hp,h⟩
   ·rename_i e
    rw[if_neg e] at h;exact ih h
  ·rename_i hp
   obtain⟨h1,h2⟩:=ih h;refine⟨h1,?_⟩;rw[tM,if_neg]
   ·exact h2
   ·rintro rfl;exact hp h1
theorem P2 {tmps:Array Value}{i:Nat}{o:Oper}{u:Value}(ho:ops[i]? =some o)(h:YA n (qQ ops R) tmps):YA n (qQ ops R) (HB tmps o.dst u):=by
 cases hd:o.dst with
 | none=> exact h
 | some d=>
  refine⟨by simpa [HB] using h.1,fun e x hx=> ?_⟩;have h1:=(XV ops hx).1;rw[List.all_eq_true] at h1;have h2:=h1 o (by
   rw[<-Array.getElem?_toList] at ho;exact List.mem_of_getElem? ho)
  have aB:d≠e:=by
   rintro rfl;simp[hd] at h2
  simp only[HB,Array.getElem?_setIfInBounds_ne aB];exact h.2 e x hx
theorem Tc.drP {id:Nat}(B E:List Nat)(hm:P.follows .mixedOrders=true)(hf:ops.size=fuel)(hp:PG M St n b H₀ cs (qQ ops R) (aI L E) ds v)(h:Tp M St n b H₀ cs B (aI L E) L .any ops v fuel (Array.replicate fuel false) R L ds k):
  Tc M St n b H₀ cs R L ds (.code (.region id ops true)::k):=fun H tmps hs hr=> by
 subst hf;refine .ZD fun t=> ?_;simp only[Region.schedule,hm,Bool.true_or,if_true];have hS:=S2.mk (H₀:=H₀) (B:=B) (listed:=Array.replicate ops.size false) (YE E L) (.inr (List.Sublist.refl L)) H hs;have hrk:YA n (qQ ops R) tmps:=⟨hr.1,fun d v hv=> hr.2 d v (XV ops hv).2⟩
 exact(h H tmps hs hr hS).sound (fun i o tmps u ho hw=> P2 ho hw) (fun H' tmps todo hz hw=> hp H' tmps todo hz hw) _ t _ _ _ hS hrk
theorem PG.GL {fn:Func}{c:Frame}(hf:P.funcs[b.fn]? =some fn)(h:∀H',jA H₀ L H'->T M St H' (G (c.raise (raised v)) cs)):PG M St n b H₀ (c::cs) R L [] v:=fun H _ _ hs _=> .HS hf (h H hs)
theorem Tp.tk(i:Nat){o:Oper}{d:Nat}{u:Value}(hc:cD md ops B listed i=true)(hi:ops[i]? =some o)(hd:o.dst=some d)(hn:d<n)(mF:BA o.op=false)(hw:TA (ops.toList.map (fun o:Oper=> o.dst)) R o=some true)
  (hv:∀H tmps,jA H₀ L H->YA n R tmps->tD M o tmps H fun w H'=> w=u/\H.le H')
  (h:Tp M St n b H₀ cs B Ls L md ops v fuel (listed.setIfInBounds i true) ((d,u)::R) L₁ ds k):Tp M St n b H₀ cs B Ls L md ops v (fuel+1) listed R L₁ ds k:=fun H tmps hs XD hS=> by
 simp only[cD,Bool.and_eq_true,Bool.not_eq_true'] at hc;obtain⟨⟨⟨⟨⟨ME,hr⟩,hf⟩,iB⟩,DH⟩,hB⟩:=hc;refine HL.first (u:=u) hi (Region.noSelect_spec ME) mF (S2.same DH) fuel listed tmps H (fun j oj hj aB FU gB=> Region.free_spec hi hf j oj hj aB FU gB) iB (by simpa using hr) (.inl ⟨rB (fun j=> ?_) XD hw,fun l iB hu H hSH=> ?_⟩) ?_
 ·simp only[List.getElem?_map,Array.getElem?_toList];cases ops[j]? <;> rfl
 ·have:=hv H tmps (hSH.aAc iB hu hB) XD;unfold tD at this ⊢;have fin:∀w H',(w=u/\H.le H')->w=u/\H.le H'/\S2 H₀ B Ls L _ H':=fun w H' ⟨h1,h2⟩=> ⟨h1,h2,hSH.1.mono h2,fun hh=> (hSH.2 hh).mono h2⟩
  refine VA _ (fun nx H' hn=> ?_) this;cases nx <;> first
   | exact hn.elim
   | exact fin _ _ hn
   | exact fA.mono hn fin
   | exact VM.mono hn fin
 ·rw[hd];exact h H _ hs (XD.put hn u) ((S2.same DH _ H).2 hS)
theorem Tp.ps(i:Nat){o:Oper}{d:Nat}(hc:cD md ops [] listed i=true)(DH:B.contains i=false)(hi:ops[i]? =some o)(hd:o.dst=some d)(hn:d<n)(mF:BA o.op=false)(hw:TA (ops.toList.map (fun o:Oper=> o.dst)) R o=some false)
  (h:Tp M St n b H₀ cs B Ls L md ops v fuel (listed.setIfInBounds i true) ((d,undef)::R) L₁ ds k):Tp M St n b H₀ cs B Ls L md ops v (fuel+1) listed R L₁ ds k:=fun H tmps hs XD hS=> by
 simp only[cD,Bool.and_eq_true,Bool.not_eq_true'] at hc;obtain⟨⟨⟨⟨⟨ME,hr⟩,hf⟩,iB⟩,_⟩,_⟩:=hc;refine HL.first hi (Region.noSelect_spec ME) mF (S2.same DH) fuel listed tmps H (fun j oj hj aB FU gB=> Region.free_spec hi hf j oj hj aB FU gB) iB (by simpa using hr) (.inr ⟨rB (fun j=> ?_) XD hw,rfl⟩) ?_
 ·simp only[List.getElem?_map,Array.getElem?_toList];cases ops[j]? <;> rfl
 ·rw[hd];exact h H _ hs (XD.put hn undef) ((S2.same DH _ H).2 hS)
theorem Tp.DI(i:Nat){o:Oper}{cl:Go.Call}{x:Operand}{fv:Value}{az:List Value}(hr:Region.ready md ops listed= [i])(hi:ops[i]? =some o)(lA:o.op=.call cl)(iB:cl.callee=.value x)(hx:JA R x=some fv)(has:lD R cl.args.toList=some az)(hw:TA (ops.toList.map (fun o:Oper=> o.dst)) R o=some true)
  (hc:∀H,jA H₀ L₁ H->jA H₀ Ls H->VE M fv az H v fun H'=> H.le H'):Tp M St n b H₀ cs B Ls L md ops v (fuel+1) listed R L₁ ds k:=fun H tmps hs XD _ H₂ h2 hS=> by
 refine⟨fun e=> (by rw[e] at hr;cases hr),fun j hj o' pP=> ?_⟩;rw[hr] at hj;obtain rfl:j=i:=by simpa using hj
 rw[hi] at pP;cases pP
 refine .inr ⟨by rw[lA];rfl,rB (fun j=> ?_) XD hw,?_⟩
 ·simp only[List.getElem?_map,Array.getElem?_toList];cases ops[j]? <;> rfl
 have hs:=hs.mono h2;have e1:=XD.ev hx;have cH:cl.args.map (OB tmps)=az.toArray:=by
  apply Array.ext'
  simpa using XD.evs has
 have hex:execOp (OB tmps) o=(resolve (OB tmps) cl o.type).bind fun d=> invoke d.target d.args:=by unfold execOp;rw[lA];rfl
 rw[hex];have:((resolve (OB tmps) cl o.type).bind fun d=> invoke d.target d.args)=(Deferred.ofValue fv az.toArray).bind fun d=> invoke d.target d.args:=by
  unfold resolve;rw[iB];simp only[e1,cH]
 rw[this];have:=hc H₂ hs hS.1;unfold VE at this;refine VA _ (fun nx H' hn=> ?_) this;have fin:∀H'',H₂.le H''->jA H₀ Ls H'':=fun H'' hle=> hS.1.mono hle;cases nx <;> first
  | exact hn.elim
  | exact fun St c cs hk=> hn St c cs fun H'' hx=> hk H'' (fin H'' hx)
theorem To.rG {dl:List (Option Tmp)}{l:List Oper}{o:Oper}{cl:Go.Call}{x:Operand}{fv:Value}{az:List Value}(hw:TA dl R o=some true)(lA:o.op=.call cl)(iB:cl.callee=.value x)(hx:JA R x=some fv)(has:lD R cl.args.toList=some az)
  (hc:∀H,jA H₀ L H->VE M fv az H v fun H'=> H.le H') (hP:PG M St n b H₀ cs R L ds v):To M St n b H₀ cs dl R L ds (o::l) k:=fun arr ix ha nJ=> by
 cases ix with
 | nil=> simp at nJ
 | cons i r=>
  simp only[List.map_cons,List.cons.injEq] at nJ;intro H tmps hs hr;have e1:=hr.ev hx;have cH:cl.args.map (OB tmps)=az.toArray:=by
   apply Array.ext'
   simpa using hr.evs has
  refine .qZ (v:=v) (X:=fun H'=> H.le H') nJ.1 (rB ha hr hw) (by rw[lA];rfl) ?_ (fun H' hle=> hP H' tmps _ (hs.mono hle) hr);have hex:execOp (OB tmps) o=(resolve (OB tmps) cl o.type).bind fun d=> invoke d.target d.args:=by unfold execOp;rw[lA];rfl
  rw[hex];have:((resolve (OB tmps) cl o.type).bind fun d=> invoke d.target d.args)=(Deferred.ofValue fv az.toArray).bind fun d=> invoke d.target d.args:=by
   unfold resolve;rw[iB];simp only[e1,cH]
  rw[this];exact hc H hs
end
end Go.RL
