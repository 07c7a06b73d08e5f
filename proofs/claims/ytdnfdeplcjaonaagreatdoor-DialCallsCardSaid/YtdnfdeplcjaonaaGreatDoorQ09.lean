/-
  Texts of the proofs over baudot/dial: P1 Grow Abs P2 P3 SliceF ZN ZO P4 P5 P6 P7 P8.
-/
import Derived.Test.YtdnfdeplcjaonaaGreatDoorQ08
namespace Go.Proofs.YtdnfdeplcjaonaaGreatDoor
open Go.RL Go.Proofs.Tryz
set_option maxRecDepth 10000
set_option maxHeartbeats 8000000
def Bk.pause1(k:Bk)(t i:Nat):List Int:=if(k.partX t i).1≤(k.partX t i).2 then [(k.partX t i).1] else []
def Bk.pausesTo(k:Bk)(t:Nat):Nat→List Int
 | 0=> []
 | i+1=> k.pausesTo t i++k.pause1 t i
theorem pausesTo_le(k:Bk)(t:Nat):∀i,(k.pausesTo t i).length≤i
 | 0=> Nat.le_refl _
 | i+1=> by
   have:=pausesTo_le k t i;unfold Bk.pausesTo Bk.pause1;rw[List.length_append];split <;> simp <;> omega
theorem part_kind {k:Bk}(ha:k.alarm=0){t:Nat}(ht:t<k.nt){i:Nat}(hi:i<3):((k.partX t i).1≤(k.partX t i).2↔k.kind (k.qf t)≤i∧i≤k.kind (k.qt t))∧((k.partX t i).1≤(k.partX t i).2→k.kind (k.partX t i).1=i∧0≤(k.partX t i).1∧(k.partX t i).1≤99):=by
 obtain⟨hgg,_,_,hok⟩:=Bk.valid ha;obtain⟨_,_,hq⟩:=k.train_in hok ht;have c1:=kind_cases k (k.qf t);have c2:=kind_cases k (k.qt t);have c3:=kind_cases k (k.partX t i).1;have m1:=iMax_is (k.qf t) (k.kindB i).1;have m2:=iMin_is (k.qt t) (k.kindB i).2;have e1:(k.partX t i).1=iMax (k.qf t) (k.kindB i).1:=rfl;have e2:(k.partX t i).2=iMin (k.qt t) (k.kindB i).2:=rfl;rw[←e1] at m1;rw[←e2] at m2;clear e1 e2;generalize (k.partX t i).1=u at *;generalize (k.partX t i).2=v at *;rcases(by omega:i=0∨i=1∨i=2) with rfl|rfl|rfl
 · have e3:k.kindB 0=(0,k.gap-1):=rfl;rw[e3] at m1 m2;simp only at m1 m2;constructor
   · constructor <;> intro h <;> omega
   · intro h;omega
 · have e3:k.kindB 1=(k.gap,k.give-1):=rfl;rw[e3] at m1 m2;simp only at m1 m2;constructor
   · constructor <;> intro h <;> omega
   · intro h;omega
 · have e3:k.kindB 2=(k.give,99):=rfl;rw[e3] at m1 m2;simp only at m1 m2;constructor
   · constructor <;> intro h <;> omega
   · intro h;omega
theorem pauses_kinds {k:Bk}(ha:k.alarm=0){t:Nat}(ht:t<k.nt):(k.pausesTo t 3).length=k.kind (k.qt t)+1-k.kind (k.qf t)∧∀j,j<(k.pausesTo t 3).length→k.kind (exAt (k.pausesTo t 3) j)=k.kind (k.qf t)+j∧0≤exAt (k.pausesTo t 3) j∧exAt (k.pausesTo t 3) j≤99:=by
 obtain⟨_,_,_,hok⟩:=Bk.valid ha;obtain⟨_,_,hq⟩:=k.train_in hok ht;have c1:=kind_cases k (k.qf t);have c2:=kind_cases k (k.qt t);obtain⟨a0,b0⟩:=part_kind ha ht (i:=0) (by omega);obtain⟨a1,b1⟩:=part_kind ha ht (i:=1) (by omega);obtain⟨a2,b2⟩:=part_kind ha ht (i:=2) (by omega);have e:k.pausesTo t 3=(k.pause1 t 0++k.pause1 t 1)++k.pause1 t 2:=rfl;have y:∀i,(k.partX t i).1≤(k.partX t i).2→k.pause1 t i= [(k.partX t i).1]:=fun i h=> if_pos h;have n:∀i,¬(k.partX t i).1≤(k.partX t i).2→k.pause1 t i= []:=fun i h=> if_neg h;generalize k.kind (k.qf t)=lo at *;generalize k.kind (k.qt t)=hi at *;rcases(by omega:(lo=0∧hi=0)∨(lo=0∧hi=1)∨(lo=0∧hi=2)∨(lo=1∧hi=1)∨(lo=1∧hi=2)∨(lo=2∧hi=2)) with ⟨rfl,rfl⟩|⟨rfl,rfl⟩|⟨rfl,rfl⟩|⟨rfl,rfl⟩|⟨rfl,rfl⟩|⟨rfl,rfl⟩
 · rw[e,y 0 (by omega),n 1 (by omega),n 2 (by omega)];refine⟨rfl,fun j hj=> ?_⟩;have:=b0 (by omega);rcases(by simp at hj;omega:j=0) with rfl;exact⟨by rw[show exAt ([(k.partX t 0).1]++[]++[]) 0=(k.partX t 0).1 from rfl];omega,this.2⟩
 · rw[e,y 0 (by omega),y 1 (by omega),n 2 (by omega)];refine⟨rfl,fun j hj=> ?_⟩;have:=b0 (by omega);have:=b1 (by omega);rcases(by simp at hj;omega:j=0∨j=1) with rfl|rfl
   · exact b0 (by omega)
   · exact b1 (by omega)
 · rw[e,y 0 (by omega),y 1 (by omega),y 2 (by omega)];refine⟨rfl,fun j hj=> ?_⟩;rcases(by simp at hj;omega:j=0∨j=1∨j=2) with rfl|rfl|rfl
   · exact b0 (by omega)
   · exact b1 (by omega)
   · exact b2 (by omega)
 · rw[e,n 0 (by omega),y 1 (by omega),n 2 (by omega)];refine⟨rfl,fun j hj=> ?_⟩;rcases(by simp at hj;omega:j=0) with rfl;exact b1 (by omega)
 · rw[e,n 0 (by omega),y 1 (by omega),y 2 (by omega)];refine⟨rfl,fun j hj=> ?_⟩;rcases(by simp at hj;omega:j=0∨j=1) with rfl|rfl
   · exact b1 (by omega)
   · exact b2 (by omega)
 · rw[e,n 0 (by omega),n 1 (by omega),y 2 (by omega)];refine⟨rfl,fun j hj=> ?_⟩;rcases(by simp at hj;omega:j=0) with rfl;exact b2 (by omega)
section
variable(M:Md prog)(H:View)
theorem LineOf_c(k:Bk)(A:Option Addr)(lc:Nat)(B:Option Addr)(tc:Nat)(hA:RowsAt H k A lc)(hn:k.nl≤1000)(s:List UInt8):
   CallT M 87 #[k.val A lc B tc,strV s] H (fun v H'=> H.le H'∧v=.int .i64 (firstI (k.line s))):=by
 refine .en func87 ntmps87 fun St c cs hK=> ?_;refine U2 ?_;refine .bo fun b2=> ?_;refine U8 ?_;refine Tc.db (Tc.loopInv (σ:= { j:Nat//j≤k.nl∧firstTo (fun i=> begins s (k.num i)) j=none }) (fun j=> ([(1,strV s),(2,.pointer (some ⟨b2,0,none⟩)),(5,.int .i64 (j.1:Nat))],[(b2,true,.cells ⟨(k.val A lc B tc).cells.toList⟩ 25 (0,0))])) (fun j=> k.nl-j.1) ?_ ⟨0,Nat.zero_le _,rfl⟩);rintro⟨j,hj,hno⟩ ih;show Tc M St _ _ _ _ [(1,strV s),(2,.pointer (some ⟨b2,0,none⟩)),(5,.int .i64 (j:Nat))] [(b2,true,.cells ⟨(k.val A lc B tc).cells.toList⟩ 25 (0,0))] _ _;by_cases c1:j=k.nl
 · subst c1;have e:k.line s=none:=hno;rw[e] at hK;refine U15 ?_;refine .rt hK func87 results87 [_] ?_;exact okB
 · have c2:j<k.nl:=by omega
   obtain⟨_,h0|⟨ab,ao,f,gs,gt,gz,rfl,hb,hl⟩⟩:=hA
   · omega
   obtain⟨F,fc,f1,_,_⟩:=hl j c2;have f2:ldL false 1 gs (ao+((j:Nat):Int).toNat*3+1)=some (strV (k.num j)):=ldL_cell f1 (by decide);cases hpp:begins s (k.num j) with
   | true=>
     have e:k.line s=some j:=firstTo_stays (p:=fun i=> begins s (k.num i)) (j:=j+1) (by rw[firstTo,hno];simp[hpp]) _ (by omega);rw[e] at hK;refine U22 ?_;refine .c rfl rfl rfl rfl (fun H hs=> .h (Begins_c M H s (k.num j) true hpp)) ?_;refine U7 ?_;refine .rt hK func87 results87 [_] ?_;exact okB
   | false=>
     refine U22 ?_;refine .c rfl rfl rfl rfl (fun H hs=> .h (Begins_c M H s (k.num j) false hpp)) ?_;refine U9 ?_;exact Tc.db (ih ⟨j+1,by omega,by simp[firstTo,hno,hpp]⟩ (by simp only;omega))
theorem HearR_c(k:Bk)(A:Option Addr)(lc:Nat)(B:Option Addr)(tc:Nat)(e:Ear)(p:Nat)(q:Int)(hh:e.heard.length≤1000)(hp:e.pend≤1000)(hp2:p≤1000):
   CallT M 86 #[k.val A lc B tc,e.val,.int .i64 (p:Nat),.int .i64 q] H (fun v H'=> H.le H'∧v=(e.hear p (k.kind q)).val):=by
 obtain⟨s,m,df⟩:=e;simp only at hh hp;show CallT M 86 #[k.val A lc B tc,earV s m df,.int .i64 (p:Nat),.int .i64 q] H _;cases df with
 | true=>
   refine .en func86 ntmps86 fun St c cs hK=> ?_;refine U2 ?_;refine .bo fun b4=> ?_;refine .bo fun b5=> ?_;refine .al fun b8=> ?_;refine U13 ?_;refine .rt hK func86 results86 [_] ?_;exact okB
 | false =>
   obtain⟨x,hx⟩:∃x,m+p=x:=⟨_,rfl⟩
   have hmp:((m:Nat):Int)+((p:Nat):Int)=((x:Nat):Int):=by omega
   refine .en func86 ntmps86 fun St c cs hK=> ?_;refine U2 ?_;refine .bo fun b4=> ?_;refine .bo fun b5=> ?_;refine .al fun b8=> ?_;refine U15 ?_;rw[hmp];refine U4 ?_;rcases kind_cases k q with ⟨c1,c2⟩|⟨c1,c3,c2⟩|⟨c1,c3,c2⟩
   · rw[c2] at hK;have e1:(⟨s,m,false⟩:Ear).hear p 0=⟨s,x,false⟩:=by unfold Ear.hear;simp[hx]
     rw[e1] at hK;refine U15 ?_;refine .rt hK func86 results86 [_] ?_;exact okB
   all_goals
     rw[c2] at hK;by_cases d1:10<x
     · rw[show(⟨s,m,false⟩:Ear).hear p _=⟨s,0,true⟩ by unfold Ear.hear;simp[hx,d1]] at hK;refine U22 ?_;refine .rt hK func86 results86 [_] ?_;exact okB
     · have hr:intBin .rem .i64 (x:Nat) 10=some (.int .i64 ((x%10:Nat):Int)):=by rw[rem_in (by omega) (by omega)];congr 2
       have hu:(UInt8.ofNat (48+x%10)).toNat=48+x%10:=by rw[UInt8.toNat_ofNat'];omega
       have hw:IntKind.u8.wrap (48+((x%10:Nat):Int))=(((UInt8.ofNat (48+x%10)).toNat:Nat):Int):=by
         rw[hu];rcases(by omega:x%10=0∨x%10=1∨x%10=2∨x%10=3∨x%10=4∨x%10=5∨x%10=6∨x%10=7∨x%10=8∨x%10=9) with h|h|h|h|h|h|h|h|h|h <;> rw[h] <;> rfl
       have e1:intBin .add .i64 48 ((x%10:Nat):Int)=some (.int .i64 (48+((x%10:Nat):Int))):=add_in (by omega) (by omega);have e3:RL.strB .add s [UInt8.ofNat (48+x%10)]=some (strV (s++[UInt8.ofNat (48+x%10)])):=strB_add (by simp only[List.length_singleton];omega);rw[show(⟨s,m,false⟩:Ear).hear p _=⟨s++[UInt8.ofNat (48+x%10)],0,_⟩ by unfold Ear.hear;simp only[hx,d1,Bool.false_eq_true,if_false];rfl] at hK;refine U24 ?_;refine .e (.bs (zz:=fun bs=> ?_));refine .x (OpV.convB (E:=en) (m:=1) (s:= [UInt8.ofNat (48+x%10)]) rfl rfl (fun H hs=> SrcAt.of (hs.get (i:=0) rfl) (Nat.le_of_ble_eq_true rfl)) rfl rfl rfl rfl rfl rfl) ?_;refine U4 ?_;refine .i ?_ (z:=by first|exact geq_t (by omega)|exact geq_f (by omega));refine U3 ?_;refine .rt hK func86 results86 [_] ?_;exact okB
theorem Pauses_c(k:Bk)(A:Option Addr)(lc:Nat)(B:Option Addr)(tc:Nat)(ha:k.alarm=0)(t:Nat)(ht:t<k.nt):
   CallT M 159 #[k.val A lc B tc,trainV (k.pf t) (k.pt t) (k.qf t) (k.qt t)] H (fun v H'=> H.le H'∧∃G c',v=.slice G (k.pausesTo t 3).length c'∧FreeAt H' G (k.pausesTo t 3).length (exAt (k.pausesTo t 3))):=by
 obtain⟨hgg,_,hnt,hok⟩:=Bk.valid ha;obtain⟨_,_,hq⟩:=k.train_in hok ht;refine .en func159 ntmps159 fun St c cs hK=> ?_;refine U2 ?_;refine .bo fun b2=> ?_;refine .bo fun b3=> ?_;refine U17 ?_;refine .e (.bs (zz:=fun b5=> ?_));refine U12 ?_;refine Tc.db (Tc.loopInv (σ:= { x:Nat×Gl 3 1//x.1≤3∧x.2.n=(k.pausesTo t x.1).length∧x.2.l=intsL (k.pausesTo t x.1) }) (fun x=> ([(3,.pointer (some ⟨b3,0,none⟩)),(5,.slice (some ⟨b5,0,none⟩) 3 3),(6,x.1.2.val),(7,.int .i64 (x.1.1:Nat))],[(b5,true,.cells ⟨[.int .i64 0,.int .i64 (k.gap-1),.int .i64 k.gap,.int .i64 (k.give-1),.int .i64 k.give,.int .i64 99]⟩ 45 (0,0)),(b3,true,.cells ⟨[.int .i64 (k.pf t),.int .i64 (k.pt t),.int .i64 (k.qf t),.int .i64 (k.qt t)]⟩ 47 (0,0))]++x.1.2.bl)) (fun x=> 3-x.1.1) ?_ ⟨(0,Gl.nil 3 1),Nat.zero_le _,rfl,rfl⟩);rintro⟨⟨i,g⟩,hi,hgn,hgl⟩ ih;simp only at hi hgn hgl;show Tc M St _ _ _ _ [(3,.pointer (some ⟨b3,0,none⟩)),(5,.slice (some ⟨b5,0,none⟩) 3 3),(6,g.val),(7,.int .i64 (i:Nat))] ([(b5,true,.cells ⟨[.int .i64 0,.int .i64 (k.gap-1),.int .i64 k.gap,.int .i64 (k.give-1),.int .i64 k.give,.int .i64 99]⟩ 45 (0,0)),(b3,true,.cells ⟨[.int .i64 (k.pf t),.int .i64 (k.pt t),.int .i64 (k.qf t),.int .i64 (k.qt t)]⟩ 47 (0,0))]++g.bl) _ _;have hple:=pausesTo_le k t i;by_cases c1:i=3
 · clear ih;subst c1;refine U15 ?_;refine .rt hK func159 results159 [_] ?_;exact fun H' hs=> ⟨hs.base,g.blk.map fun b=> ⟨b,0,none⟩,g.cap,by rw[←hgn];rfl,cl_at g (fun x hx=> hs.at_ x (by simp[hx])) (hgl.trans (clL_ints _)) hgn⟩
 · have c2:i<3:=by omega
   have f3:ldL true 2 [.int .i64 0,.int .i64 (k.gap-1),.int .i64 k.gap,.int .i64 (k.give-1),.int .i64 k.give,.int .i64 99] (0+((i:Nat):Int).toNat*2)=some (bandV (k.kindB i).1 (k.kindB i).2):=by
     rcases(by omega:i=0∨i=1∨i=2) with rfl|rfl|rfl <;> rfl
   have hbth:=fun(H':View)=> BothR_c M H' (k.qf t) (k.qt t) (k.kindB i).1 (k.kindB i).2 (k.partX t i).1 (k.partX t i).2 rfl rfl;by_cases d3:(k.partX t i).1≤(k.partX t i).2
   · have e4:k.pausesTo t (i+1)=k.pausesTo t i++[(k.partX t i).1]:=by rw[Bk.pausesTo,Bk.pause1,if_pos d3]
     refine U13 ?_;refine Tc.dr [8] [] mixed rfl ?_;refine .nn 0 ?_;refine .nn 1 ?_;refine .nn 2 ?_;refine .nn 3 ?_;refine .nn 4 ?_;refine .nn 5 ?_;refine .z 6 rfl (OpV.takeCall rfl rfl rfl rfl (fun H hs=> .h (hbth H))) ?_;refine Ta.each [7] (by kernel_rfl) rfl ⟨TaOp.mk rfl rfl rfl (.al (zz:=fun b8=> ⟨S2.mk (by apply List.Sublist.cons;exact List.Sublist.refl _) (.inr (by apply List.Sublist.cons;exact List.Sublist.refl _)),?_⟩)),trivial⟩;refine .e 8 0 ?_;refine .dn ?_;refine U13 ?_;refine .e (.bs (zz:=fun bs=> ?_));refine .e (Or.append (E:=en) 4 rfl rfl rfl rfl rfl rfl rfl rfl rfl rfl rfl rfl rfl rfl rfl (fun H hs=> SrcAt.of (hs.get (i:=0) rfl) (Nat.le_of_ble_eq_true rfl)) rfl (by omega) rfl (by decide) (fun g2 hn2 hl2=> ?_));refine U8 ?_;exact Tc.db (ih ⟨(i+1,g2),by simp only;omega,by simp only;rw[e4,List.length_append,hn2,hgn];rfl,by simp only;rw[e4,hl2,hgl];unfold intsL;rw[List.map_append];rfl⟩ (by simp only;omega))
   · have e4:k.pausesTo t (i+1)=k.pausesTo t i:=by rw[Bk.pausesTo,Bk.pause1,if_neg d3,List.append_nil]
     refine U13 ?_;refine Tc.dr [8] [] mixed rfl ?_;refine .nn 0 ?_;refine .nn 1 ?_;refine .nn 2 ?_;refine .nn 3 ?_;refine .nn 4 ?_;refine .nn 5 ?_;refine .z 6 rfl (OpV.takeCall rfl rfl rfl rfl (fun H hs=> .h (hbth H))) ?_;refine Ta.each [7] (by kernel_rfl) rfl ⟨TaOp.mk rfl rfl rfl (.al (zz:=fun b8=> ⟨S2.mk (by apply List.Sublist.cons;exact List.Sublist.refl _) (.inr (by apply List.Sublist.cons;exact List.Sublist.refl _)),?_⟩)),trivial⟩;refine .e 8 0 ?_;refine .dn ?_;refine U16 ?_;exact Tc.db (ih ⟨(i+1,g),by simp only;omega,by simp only;rw[e4];exact hgn,by simp only;rw[e4];exact hgl⟩ (by simp only;omega))
end
end Go.Proofs.YtdnfdeplcjaonaaGreatDoor
namespace Go.RL
section
variable {P:Program}{M:Md P}{n:Nat}{H₀:View}{R:Rg}{L:Bl}{o:Oper}{K:Rg→Bl→Prop}{d:Nat}
def GrowQ {e:TypeId}{sz:Nat}(H₁:View)(p:Gl e sz→Prop)(v:Value)(H':View):Prop:=
 ∃(g':Gl e sz) (H₂:View),v=g'.val∧H₁.le H₂∧SymSt H₂ g'.bl H'∧p g'
theorem Or.callGrow(k:Nat){e:TypeId}{sz:Nat}{g:Gl e sz}(p:Gl e sz→Prop){cl:Go.Call}{x:Operand}{fv:Value}{az:List Value}(hop:o.op=.call cl)(hcl:cl.callee=.value x)(hx:evR R x=some fv)(has:evRs R cl.args.toList=some az)(hL:L.drop k=g.bl)(hd:o.dst=some d)(hn:d<n)
   (hc:∀H₁ H,SymSt H₀ (L.take k) H₁→SymSt H₁ g.bl H→FnT M fv az H (GrowQ H₁ p))
   (hk:∀g':Gl e sz,p g'→K ((d,g'.val)::R) (L.take k++g'.bl)):Or M n H₀ R L o K:=
 .callV hop hcl hx has (Q:=fun _ v H'=> ∃g':Gl e sz,v=g'.val∧p g'∧SymSt H₀ (L.take k++g'.bl) H') (fun H hs=> by
   have hLe:L=L.take k++g.bl:=by rw[←hL,List.take_append_drop]
   have hs':SymSt H₀ (g.bl++L.take k) H:=hs.perm (by rw[hL.symm,←List.take_append_drop k L];simp only[List.take_append_drop];exact List.perm_append_comm.trans (by rw[List.take_append_drop]));obtain⟨H₁,h1,h2⟩:=hs'.unappend;refine(hc H₁ H h2 h1).mono ?_;rintro v H' ⟨g',H₂,rfl,h3,h4,h5⟩;exact⟨g',rfl,h5,((h2.mono h3).append h4).perm List.perm_append_comm⟩) (by
   rintro H v H' hs ⟨g',rfl,h1,h2⟩;exact⟨_,(d,g'.val)::R,h2,by rw[hd];exact⟨hn,rfl⟩,hk g' h1⟩)
end
section
variable {P:Program}{M:Md P}{St:View→Goroutine→Prop}{n:Nat}{b:FB}{H₀:View}{cs:List Frame}{R:Rg}{L:Bl}{ds:List Deferred}{todo:List Item}
theorem Tc.absorb(A B:Bl)(p:(A++B).Perm L)(h:∀H₁:View,H₀.le H₁→(∀x∈B,H₁ x.1=some x.2)→Tc M St n b H₁ cs R A ds todo):Tc M St n b H₀ cs R L ds todo:=fun H tmps hs hr=> by
 obtain⟨H₂,h1,h2⟩:=(hs.perm p).unappend;exact h H₂ h2.base h2.at_ H tmps h1 hr
end
end Go.RL
namespace Go.Proofs.YtdnfdeplcjaonaaGreatDoor
open Go.RL Go.Proofs.Tryz
set_option maxRecDepth 10000
set_option maxHeartbeats 8000000
def addE(l:List Ear)(e:Ear):List Ear:=if e∈l then l else l++[e]
theorem addE_le(l:List Ear)(e:Ear):(addE l e).length≤l.length+1:=by unfold addE;split <;> simp
theorem mem_addE {l:List Ear}{e x:Ear}:x∈addE l e↔x∈l∨x=e:=by
 unfold addE;split
 · rename_i h
   constructor
   · exact .inl
   · rintro(h'|rfl)
     · exact h'
     · exact h
 · rw[List.mem_append,List.mem_singleton]
theorem mem_adds {x:Ear}:∀(W l:List Ear),x∈W.foldl addE l↔x∈l∨x∈W
 | [],l=> by simp
 | e::W,l=> by
   rw[List.foldl_cons,mem_adds W,mem_addE,List.mem_cons,or_assoc]
theorem adds_le:∀(W l:List Ear),(W.foldl addE l).length≤l.length+W.length
 | [],_=> Nat.le_refl _
 | e::W,l=> by
   have h1:=adds_le W (addE l e);have h2:=addE_le l e;rw[List.foldl_cons,List.length_cons];omega
def Bk.hears(k:Bk)(i:Nat)(e:Ear):List Ear:=(k.can i).map fun x=> e.hear x.1 x.2
def Bk.refEars(k:Bk):Nat→List Ear
 | 0=> [⟨[],0,false⟩]
 | i+1=> ((k.refEars i).flatMap (k.hears i)).foldl addE []
theorem Bk.mem_refEars(k:Bk):∀n e,e∈k.refEars n↔k.earsS n e
 | 0,e=> by simp[Bk.refEars,Bk.earsS]
 | n + 1,e=> by
   unfold Bk.refEars Bk.hears Bk.earsS;rw[mem_adds];simp only[List.not_mem_nil,false_or,List.mem_flatMap,List.mem_map];constructor
   · rintro⟨e0,h0,x,hx,rfl⟩;exact⟨e0,(k.mem_refEars n e0).1 h0,x,hx,rfl⟩
   · rintro⟨e0,h0,x,hx,rfl⟩;exact⟨e0,(k.mem_refEars n e0).2 h0,x,hx,rfl⟩
theorem hears_len {k:Bk}(hok:k.trainsOk){i:Nat}(hi:i<k.nt):∀l:List Ear,(l.flatMap (k.hears i)).length≤l.length*12
 | []=> Nat.le_refl _
 | e::t=> by
   have h1:=hears_len hok hi t;have h2:=can_len hok hi;rw[List.flatMap_cons,List.length_append,List.length_cons];unfold Bk.hears at h1 ⊢;rw[List.length_map];omega
theorem refEars_len {k:Bk}(hok:k.trainsOk):∀n,n≤k.nt→(k.refEars n).length≤12 ^ n
 | 0,_=> Nat.le_refl _
 | n+1,hn=> by
   have h1:=refEars_len hok n (by omega);have h2:=hears_len hok (i:=n) (by omega) (k.refEars n);have h3:=adds_le ((k.refEars n).flatMap (k.hears n)) [];unfold Bk.refEars;rw[Nat.pow_succ];simp only[List.length_nil] at h3;omega
def earsV(l:List Ear):List Value:=l.flatMap fun e=> [strV e.heard,.int .i64 (e.pend:Nat),.bool e.deaf]
theorem earsV_app(l m:List Ear):earsV (l++m)=earsV l++earsV m:=by unfold earsV;rw[List.flatMap_append]
theorem earsV_len:∀l,(earsV l).length=l.length*3
 | []=> rfl
 | x::t=> by
   have:=earsV_len t;show([strV x.heard,.int .i64 (x.pend:Nat),.bool x.deaf]++earsV t).length=_;simp only[List.length_append,List.length_cons,List.length_nil,this];omega
theorem earsV_drop:∀(l:List Ear) (j:Nat) x (rest:List Value),l[j]? =some x→((earsV l++rest).drop (j*3)).take 3= [strV x.heard,.int .i64 (x.pend:Nat),.bool x.deaf]
 | [],_,_,_,h=> by cases h
 | y::t,0,x,rest,h=> by
   cases h
   show(([strV y.heard,.int .i64 (y.pend:Nat),.bool y.deaf]++earsV t)++rest).take 3=_;rw[List.append_assoc];rfl
 | y::t,j+1,x,rest,h=> by
   have:=earsV_drop t j x rest h;show((([strV y.heard,.int .i64 (y.pend:Nat),.bool y.deaf]++earsV t)++rest).drop ((j+1)*3)).take 3=_;rw[List.append_assoc,show(j+1)*3=3+j*3 by omega,←List.drop_drop];exact this
theorem earsV_ld {l:List Ear}{j:Nat}{x:Ear}(rest:List Value)(h:l[j]? =some x):ldL true 3 (earsV l++rest) (0+((j:Nat):Int).toNat*3)=some x.val:=by
 have hj:=(List.getElem?_eq_some_iff.1 h).1;rw[Nat.zero_add,Int.toNat_natCast];unfold ldL;have hlen:j*3+3≤(earsV l++rest).length:=by rw[List.length_append,earsV_len];omega
 rw[show Nat.ble (j*3+3) (earsV l++rest).length=true from Nat.ble_eq_true_of_le hlen];simp only[earsV_drop l j x rest h];rfl
def EarsAt(H:View)(A:Option Addr)(l:List Ear):Prop:=
 l= []∨∃b o f gs gt gz,A=some ⟨b,o,none⟩∧H b=some (f,.cells ⟨gs⟩ gt gz)∧∀(j:Nat) x,l[j]? =some x→ldL true 3 gs (o+((j:Nat):Int).toNat*3)=some x.val
theorem EarsAt.le {H H':View}{A:Option Addr}{l:List Ear}(h:EarsAt H A l)(k:H.le H'):EarsAt H' A l:=
 h.imp id fun⟨b,o,f,gs,gt,gz,h1,h2,h3⟩=> ⟨b,o,f,gs,gt,gz,h1,k _ _ h2,h3⟩
theorem ears_of(g:Gl 122 3){H:View}(h:∀x∈g.bl,H x.1=some x.2){l:List Ear}(hl:g.l=earsV l):EarsAt H (g.blk.map fun b=> ⟨b,0,none⟩) l:=by
 have hgl:=g.hl;rw[hl,earsV_len] at hgl;cases hbb:g.blk with
 | none=>
   have:=g.h0 hbb;have:=g.hc;exact .inl (List.eq_nil_of_length_eq_zero (by omega))
 | some b=>
   have hbl:g.bl= [(b,true,.cells ⟨g.l++g.junk⟩ 122 (0,0))]:=by unfold Gl.bl;rw[hbb]
   refine .inr ⟨b,0,true,_,122,(0,0),rfl,h (b,true,.cells ⟨g.l++g.junk⟩ 122 (0,0)) (by rw[hbl];simp),fun j x hx=> ?_⟩;rw[hl];exact earsV_ld _ hx
theorem ear_flat2(s:List UInt8)(m:Int)(d:Bool):flat en 2 122 [strV s,.int .i64 m,.bool d]:=by
 refine⟨rfl,?_⟩;intro f hf;simp only[List.mem_cons,List.not_mem_nil,or_false] at hf;rcases hf with rfl|rfl|rfl
 · exact⟨⟨_,rfl⟩,_,rfl,rfl,Nat.le_of_ble_eq_true rfl⟩
 · exact⟨⟨_,rfl⟩,_,rfl,rfl,Nat.le_of_ble_eq_true rfl⟩
 · exact⟨⟨_,rfl⟩,_,rfl,rfl,Nat.le_of_ble_eq_true rfl⟩
theorem eg122:prog.eqGuardType prog.depth 122=false:=by kernel_rfl
theorem ear_eq {e x:Ear}(b:Bool)(h:b=true↔e=x):b=true↔ [strV e.heard,.int .i64 (e.pend:Nat),Value.bool e.deaf]= [strV x.heard,.int .i64 (x.pend:Nat),.bool x.deaf]:=by
 rw[h];constructor
 · rintro rfl;rfl
 · intro h2;exact ear_inj (by unfold Ear.val earV;rw[h2])
section
variable(M:Md prog)(H:View)
theorem addE_c(g:Gl 122 3)(l:List Ear)(hg:g.l=earsV l)(hgn:g.n=l.length)(hl:l.length≤100000000)(e:Ear)(H₁ Hc:View)(hsy:SymSt H₁ g.bl Hc):
   CallT M 160 #[g.val,e.val] Hc (GrowQ H₁ fun g':Gl 122 3=> g'.l=earsV (addE l e)∧g'.n=(addE l e).length):=by
 refine CallT.enter (vs:= [g.val,e.val]) func160 rfl ntmps160 (Nat.le_of_ble_eq_true rfl) (hsy) fun St c cs hK=> ?_;refine U2 ?_;refine .bo fun b3=> ?_;refine U8 ?_;refine Tc.db (Tc.loopInv (σ:= { j:Nat//j≤l.length∧∀i,i<j→l[i]? ≠some e }) (fun j=> ([(0,g.val),(3,.pointer (some ⟨b3,0,none⟩)),(5,.int .i64 (j.1:Nat))],[(b3,true,.cells ⟨[strV e.heard,.int .i64 (e.pend:Nat),.bool e.deaf]⟩ 122 (0,0))]++g.bl)) (fun j=> l.length-j.1) ?_ ⟨0,Nat.zero_le _,fun i hi=> by omega⟩);rintro⟨j,hj,hno⟩ ih;show Tc M St _ _ _ _ [(0,g.val),(3,.pointer (some ⟨b3,0,none⟩)),(5,.int .i64 (j:Nat))] ([(b3,true,.cells ⟨[strV e.heard,.int .i64 (e.pend:Nat),.bool e.deaf]⟩ 122 (0,0))]++g.bl) _ _;by_cases c1:j=l.length
 · clear ih;have hnot:e ∉ l:=fun h=> by
     obtain⟨i,hi,h1⟩:=List.getElem_of_mem h;exact hno i (by omega) (by rw[List.getElem?_eq_getElem hi,h1])
   have ha:addE l e=l++[e]:=if_neg hnot;rw[ha] at hK;rw[←hgn] at c1;subst c1;refine U14 ?_;refine .e (.bs (zz:=fun bs=> ?_));refine .e (Or.append (E:=en) 2 rfl rfl rfl rfl rfl rfl rfl rfl rfl rfl rfl rfl rfl rfl rfl (fun H hs=> SrcAt.of (hs.get (i:=0) rfl) (Nat.le_of_ble_eq_true rfl)) rfl (by omega) rfl (by decide) (fun g' hn2 hl2=> ?_));refine U2 ?_;refine .rt hK func160 results160 [_] ?_;exact fun H' hs=> ⟨g',H₁,rfl,View.le_refl _,hs.less (by apply List.Sublist.cons;apply List.Sublist.cons;exact List.Sublist.refl _),by rw[hl2,hg,earsV_app];rfl,by rw[hn2,hgn,List.length_append];rfl⟩
 · have c2:j<l.length:=by omega
   cases hbb:g.blk with
   | none=>
     have:=g.h0 hbb;have:=g.hc;omega
   | some gb=>
     have hgv:g.val=.slice (some ⟨gb,0,none⟩) l.length g.cap:=by unfold Gl.val;rw[hbb,hgn];rfl
     have hgb:g.bl= [(gb,true,.cells ⟨earsV l++g.junk⟩ 122 (0,0))]:=by unfold Gl.bl;rw[hbb,hg]
     obtain⟨x,hx⟩:∃x,l[j]? =some x:=⟨_,List.getElem?_eq_getElem c2⟩
     have f1:=earsV_ld g.junk hx;rw[hgv,hgb];by_cases c3:x=e
     · subst c3;have ha:addE l x=l:=if_pos (List.mem_of_getElem? hx);rw[ha] at hK;refine U13 ?_;refine Tc.dr [] [] mixed rfl ?_;refine .nn 0 ?_;refine .nn 1 ?_;refine .nn 2 ?_;refine .nn 3 ?_;refine .nn 4 ?_;refine .q 5 rfl (OpV.eqA (E:=en) true 2 rfl rfl rfl rfl rfl eg122 (by decide) (ear_flat2 x.heard (x.pend:Nat) x.deaf) (ear_flat2 x.heard (x.pend:Nat) x.deaf) (by simp)) ?_;refine .dn ?_;refine U6 ?_;rw[←hgv,←hgb];refine .rt hK func160 results160 [_] ?_;exact fun H' hs=> ⟨g,H₁,rfl,View.le_refl _,hs.less (by apply List.Sublist.cons;exact List.Sublist.refl _),hg,hgn⟩
     · have hq:=ear_eq (e:=x) (x:=e) false ⟨fun h=> (nomatch h),fun h=> (c3 h).elim⟩;refine U13 ?_;refine Tc.dr [] [] mixed rfl ?_;refine .nn 0 ?_;refine .nn 1 ?_;refine .nn 2 ?_;refine .nn 3 ?_;refine .nn 4 ?_;refine .q 5 rfl (OpV.eqA (E:=en) false 2 rfl rfl rfl rfl rfl eg122 (by decide) (ear_flat2 x.heard (x.pend:Nat) x.deaf) (ear_flat2 e.heard (e.pend:Nat) e.deaf) hq) ?_;refine .dn ?_;refine U8 ?_;rw[←hgv,←hgb];exact Tc.db (ih ⟨j+1,by omega,fun i hi h=> by
         by_cases q:i=j
         · subst q;rw[hx] at h;cases h;exact c3 rfl
         · exact hno i (by omega) h⟩ (by simp only;omega))
theorem EarsOf_c(k:Bk)(A:Option Addr)(lc:Nat)(B:Option Addr)(tc:Nat)(hT:TrainsAt H k B tc)(ha:k.alarm=0)(n:Nat)(hn:n≤k.nt):
   CallT M 93 #[k.val A lc B tc,.int .i64 (n:Nat)] H (fun v H'=> H.le H'∧∃G c',v=.slice G (k.refEars n).length c'∧EarsAt H' G (k.refEars n)):=by
 obtain⟨hgg,_,hnt,hok⟩:=Bk.valid ha;obtain⟨htc,hTT⟩:=id hT;refine .en func93 ntmps93 fun St c cs hK=> ?_;refine U2 ?_;refine .bo fun b2=> ?_;refine U5 ?_;refine .e (.bs (zz:=fun b14=> ?_));refine U8 ?_;refine Tc.absorb [(b2,true,.cells ⟨(k.val A lc B tc).cells.toList⟩ 25 (0,0))] [(b14,true,.cells ⟨[strV [],.int .i64 ((0:Nat):Int),.bool false]⟩ 122 (0,0))] (List.Perm.swap _ _ _) (fun H₁ hle1 hb1=> ?_);have hE0:EarsAt H₁ (some ⟨b14,0,none⟩) (k.refEars 0):=.inr ⟨b14,0,true,_,122,(0,0),rfl,hb1 (b14,true,.cells ⟨[strV [],.int .i64 ((0:Nat):Int),.bool false]⟩ 122 (0,0)) (List.mem_singleton.2 rfl),fun j x hx=> by
   rcases j with _|j
   · cases hx;rfl
   · cases hx⟩
 refine Tc.db (Tc.loopB (σ:= { s:Nat×View×Option Addr×Nat//s.1≤n∧H.le s.2.1∧EarsAt s.2.1 s.2.2.1 (k.refEars s.1) }) (fun s=> (s.1.2.1,[(1,.int .i64 (n:Nat)),(2,.pointer (some ⟨b2,0,none⟩)),(5,.slice s.1.2.2.1 (k.refEars s.1.1).length s.1.2.2.2),(6,.int .i64 (s.1.1:Nat))],[(b2,true,.cells ⟨(k.val A lc B tc).cells.toList⟩ 25 (0,0))])) (fun s=> n-s.1.1) ?_ ⟨(0,H₁,some ⟨b14,0,none⟩,1),Nat.zero_le _,hle1,hE0⟩);rintro⟨⟨i,H₂,G,gc⟩,hi,hle2,hE⟩ ih;simp only at hi hle2 hE;show Tc M St _ _ H₂ _ [(1,.int .i64 (n:Nat)),(2,.pointer (some ⟨b2,0,none⟩)),(5,.slice G (k.refEars i).length gc),(6,.int .i64 (i:Nat))] [(b2,true,.cells ⟨(k.val A lc B tc).cells.toList⟩ 25 (0,0))] _ _;by_cases c1:i=n
 · clear ih;subst c1;refine U14 ?_;refine .rt hK func93 results93 [_] ?_;exact fun H' hs=> ⟨View.le_trans hle2 hs.base,G,gc,rfl,hE.le hs.base⟩
 · have c2 :i<n:=by omega
   have hin:i<k.nt:=by omega
   obtain h0|⟨tb,to,tf,ts,tt,tz,rfl,htb,htl⟩:=hTT
   · omega
   have f1:=htl i hin;have htb2:=hle2 _ _ htb;have hpx:=k.train_in hok hin;obtain⟨hpl,hpk⟩:=pauses_kinds ha hin;obtain⟨a,hpa⟩:∃a:Nat,k.pf i=(a:Nat):=⟨(k.pf i).toNat,by omega⟩
   obtain⟨b,hpb⟩:∃b:Nat,k.pt i=(b:Nat):=⟨(k.pt i).toNat,by omega⟩
   have hcan:k.can i=canL a b (k.kind (k.qf i)) (k.kind (k.qt i)):=by unfold Bk.can;rw[hpa,hpb,Int.toNat_natCast,Int.toNat_natCast]
   obtain⟨W,hW⟩:∃W,(k.refEars i).flatMap (k.hears i)=W:=⟨_,rfl⟩
   have hWl:W.length≤12 ^ 7:=by
     have h1:=hears_len hok hin (k.refEars i);have h2:=refEars_len hok i (by omega);rw[hW] at h1;have h3:12 ^ i≤12 ^ 6:=Nat.pow_le_pow_right (by decide) (by omega);omega
   have hlB:(k.refEars i).length≤12 ^ 6:=Nat.le_trans (refEars_len hok i (by omega)) (Nat.pow_le_pow_right (by decide) (by omega));have hk2:=k.kind_le (k.qt i);have hnext:k.refEars (i+1)=W.foldl addE []:=by rw[Bk.refEars,hW]
   have hbd:∀x∈k.refEars i,x.heard.length≤1000∧x.pend≤1000:=fun x hx=> by
     have:=Bk.ears_bd hok (by omega) ((k.mem_refEars i x).1 hx);omega
   refine U18 ?_;refine .al fun b7=> ?_;refine U2 ?_;rw[hpa,hpb];refine U4 ?_;refine To.callF rfl rfl rfl rfl rfl rfl (by decide) (FnT.h (by have h:=Pauses_c M H₂ k A lc (some ⟨tb,to,none⟩) tc ha i hin;rw[hpa,hpb] at h;exact h)) (fun v H₃ hv=> ?_);obtain⟨hle3,P,pc,rfl,hP⟩:=hv;have hE3:=hE.le hle3;obtain⟨len,hlen⟩:∃len,(k.pausesTo i 3).length=len:=⟨_,rfl⟩
   rw[hlen] at hP hpl hpk ⊢;generalize exAt (k.pausesTo i 3)=pq at hP hpk;generalize hlo:k.kind (k.qf i)=lo at hpl hpk hcan;generalize hhi:k.kind (k.qt i)=hi at hpl hcan hk2;refine U12 ?_;refine Tc.db (Tc.loopInv (σ:= { s:Nat×Gl 122 3×List Ear//s.1≤(k.refEars i).length∧(s.2.1.l=earsV (s.2.2.foldl addE [])∧s.2.1.n=(s.2.2.foldl addE []).length)∧s.2.2++((k.refEars i).drop s.1).flatMap (k.hears i)=W }) (fun s=> ([(1,.int .i64 (n:Nat)),(2,.pointer (some ⟨b2,0,none⟩)),(5,.slice G (k.refEars i).length gc),(6,.int .i64 (i:Nat)),(7,.pointer (some ⟨b7,0,none⟩)),(8,.slice P len pc),(9,s.1.2.1.val),(10,.int .i64 (s.1.1:Nat))],[(b7,true,.cells ⟨[.int .i64 (a:Nat),.int .i64 (b:Nat),.int .i64 (k.qf i),.int .i64 (k.qt i)]⟩ 47 (0,0)),(b2,true,.cells ⟨(k.val A lc (some ⟨tb,to,none⟩) tc).cells.toList⟩ 25 (0,0))]++s.1.2.1.bl)) (fun s=> (k.refEars i).length-s.1.1) ?_ ⟨(0,Gl.nil 122 3,[]),Nat.zero_le _,⟨rfl,rfl⟩,by simp only[List.nil_append,List.drop_zero];exact hW⟩);rintro⟨⟨j,g,dn⟩,hj,⟨hgl,hgn⟩,hdn⟩ ih2;simp only at hj hgl hgn hdn;show Tc M St _ _ H₃ _ [(1,.int .i64 (n:Nat)),(2,.pointer (some ⟨b2,0,none⟩)),(5,.slice G (k.refEars i).length gc),(6,.int .i64 (i:Nat)),(7,.pointer (some ⟨b7,0,none⟩)),(8,.slice P len pc),(9,g.val),(10,.int .i64 (j:Nat))] ([(b7,true,.cells ⟨[.int .i64 (a:Nat),.int .i64 (b:Nat),.int .i64 (k.qf i),.int .i64 (k.qt i)]⟩ 47 (0,0)),(b2,true,.cells ⟨(k.val A lc (some ⟨tb,to,none⟩) tc).cells.toList⟩ 25 (0,0))]++g.bl) _ _;by_cases d1:j=(k.refEars i).length
   · clear ih2;rw[d1,List.drop_length,List.flatMap_nil,List.append_nil] at hdn;subst hdn;rw[←hnext] at hgl hgn;have hgv:g.val=.slice (g.blk.map fun b=> ⟨b,0,none⟩) (k.refEars (i+1)).length g.cap:=by unfold Gl.val;rw[hgn]
     rw[hgv];refine U20 ?_;refine Tc.absorb [(b7,true,.cells ⟨[.int .i64 (a:Nat),.int .i64 (b:Nat),.int .i64 (k.qf i),.int .i64 (k.qt i)]⟩ 47 (0,0)),(b2,true,.cells ⟨(k.val A lc (some ⟨tb,to,none⟩) tc).cells.toList⟩ 25 (0,0))] g.bl (List.Perm.refl _) (fun H₄ hle4 hb4=> ?_);exact Tc.db (ih ⟨(i+1,H₄,g.blk.map fun b=> ⟨b,0,none⟩,g.cap),by simp only;omega,View.le_trans hle2 (View.le_trans hle3 hle4),ears_of g hb4 hgl⟩ (by simp only;omega))
   · have d2:j<(k.refEars i).length:=by omega
     obtain⟨x,hx⟩:∃x,(k.refEars i)[j]? =some x:=⟨_,List.getElem?_eq_getElem d2⟩
     have hxb:=hbd x (List.mem_of_getElem? hx);have hdrop:(k.refEars i).drop j=x::(k.refEars i).drop (j+1):=by
       rw[List.drop_eq_getElem_cons d2];rw[List.getElem?_eq_getElem d2] at hx;cases hx
       rfl
     obtain hz|⟨eb,eo,ef,es,et,ez,rfl,heb,hel⟩:=hE3
     · rw[hz] at d2;cases d2
     have f2:=hel j x hx;rw[hdrop,List.flatMap_cons] at hdn;have hhr:k.hears i x=(canL a b lo hi).map fun y=> x.hear y.1 y.2:=by unfold Bk.hears;rw[hcan]
     rw[hhr] at hdn;obtain⟨T,hT⟩:∃T,((k.refEars i).drop (j+1)).flatMap (k.hears i)=T:=⟨_,rfl⟩
     rw[hT] at hdn;have hih2:=fun(g':Gl 122 3) (dn':List Ear) (h1:g'.l=earsV (dn'.foldl addE [])∧g'.n=(dn'.foldl addE []).length) (h2:dn'++T=W)=> ih2 ⟨(j+1,g',dn'),by simp only;omega,h1,by simp only;rw[hT];exact h2⟩ (by simp only;omega);clear ih2 ih;refine U20 ?_;refine Tc.db (Tc.loopInv (σ:= { s:Nat×Gl 122 3×List Ear//a≤s.1∧(s.2.1.l=earsV (s.2.2.foldl addE [])∧s.2.1.n=(s.2.2.foldl addE []).length)∧s.2.2++((canL s.1 b lo hi).map (fun y=> x.hear y.1 y.2)++T)=W }) (fun s=> ([(1,.int .i64 (n:Nat)),(2,.pointer (some ⟨b2,0,none⟩)),(5,.slice (some ⟨eb,eo,none⟩) (k.refEars i).length gc),(6,.int .i64 (i:Nat)),(7,.pointer (some ⟨b7,0,none⟩)),(8,.slice P len pc),(9,s.1.2.1.val),(10,.int .i64 (j:Nat)),(11,.int .i64 (s.1.1:Nat))],[(b7,true,.cells ⟨[.int .i64 (a:Nat),.int .i64 (b:Nat),.int .i64 (k.qf i),.int .i64 (k.qt i)]⟩ 47 (0,0)),(b2,true,.cells ⟨(k.val A lc (some ⟨tb,to,none⟩) tc).cells.toList⟩ 25 (0,0))]++s.1.2.1.bl)) (fun s=> b+1-s.1.1) ?_ ⟨(a,g,dn),Nat.le_refl _,⟨hgl,hgn⟩,hdn⟩);clear hgl hgn hdn;rintro⟨⟨m,g1,dn1⟩,hm,⟨hgl1,hgn1⟩,hdn1⟩ ih3;simp only at hm hgl1 hgn1 hdn1;show Tc M St _ _ H₃ _ [(1,.int .i64 (n:Nat)),(2,.pointer (some ⟨b2,0,none⟩)),(5,.slice (some ⟨eb,eo,none⟩) (k.refEars i).length gc),(6,.int .i64 (i:Nat)),(7,.pointer (some ⟨b7,0,none⟩)),(8,.slice P len pc),(9,g1.val),(10,.int .i64 (j:Nat)),(11,.int .i64 (m:Nat))] ([(b7,true,.cells ⟨[.int .i64 (a:Nat),.int .i64 (b:Nat),.int .i64 (k.qf i),.int .i64 (k.qt i)]⟩ 47 (0,0)),(b2,true,.cells ⟨(k.val A lc (some ⟨tb,to,none⟩) tc).cells.toList⟩ 25 (0,0))]++g1.bl) _ _;by_cases d3:m≤b
     · rw[canL_cons d3] at hdn1;have hih3:=fun(g':Gl 122 3) (dn':List Ear) (h1:g'.l=earsV (dn'.foldl addE [])∧g'.n=(dn'.foldl addE []).length) (h2:dn'++((canL (m+1) b lo hi).map (fun y=> x.hear y.1 y.2)++T)=W)=> ih3 ⟨(m+1,g',dn'),by simp only;omega,h1,h2⟩ (by simp only;omega);clear ih3 hih2;refine U18 ?_;refine Tc.db (Tc.loopInv (σ:= { s:Nat×Gl 122 3×List Ear//s.1≤len∧(s.2.1.l=earsV (s.2.2.foldl addE [])∧s.2.1.n=(s.2.2.foldl addE []).length)∧s.2.2++((canFrom m b lo hi (lo+s.1)).map (fun y=> x.hear y.1 y.2)++T)=W }) (fun s=> ([(1,.int .i64 (n:Nat)),(2,.pointer (some ⟨b2,0,none⟩)),(5,.slice (some ⟨eb,eo,none⟩) (k.refEars i).length gc),(6,.int .i64 (i:Nat)),(7,.pointer (some ⟨b7,0,none⟩)),(8,.slice P len pc),(9,s.1.2.1.val),(10,.int .i64 (j:Nat)),(11,.int .i64 (m:Nat)),(12,.int .i64 (s.1.1:Nat))],[(b7,true,.cells ⟨[.int .i64 (a:Nat),.int .i64 (b:Nat),.int .i64 (k.qf i),.int .i64 (k.qt i)]⟩ 47 (0,0)),(b2,true,.cells ⟨(k.val A lc (some ⟨tb,to,none⟩) tc).cells.toList⟩ 25 (0,0))]++s.1.2.1.bl)) (fun s=> len-s.1.1) ?_ ⟨(0,g1,dn1),Nat.zero_le _,⟨hgl1,hgn1⟩,hdn1⟩);clear hgl1 hgn1 hdn1;rintro⟨⟨d,g2,dn2⟩,hd,⟨hgl2,hgn2⟩,hdn2⟩ ih4;simp only at hd hgl2 hgn2 hdn2;show Tc M St _ _ H₃ _ [(1,.int .i64 (n:Nat)),(2,.pointer (some ⟨b2,0,none⟩)),(5,.slice (some ⟨eb,eo,none⟩) (k.refEars i).length gc),(6,.int .i64 (i:Nat)),(7,.pointer (some ⟨b7,0,none⟩)),(8,.slice P len pc),(9,g2.val),(10,.int .i64 (j:Nat)),(11,.int .i64 (m:Nat)),(12,.int .i64 (d:Nat))] ([(b7,true,.cells ⟨[.int .i64 (a:Nat),.int .i64 (b:Nat),.int .i64 (k.qf i),.int .i64 (k.qt i)]⟩ 47 (0,0)),(b2,true,.cells ⟨(k.val A lc (some ⟨tb,to,none⟩) tc).cells.toList⟩ 25 (0,0))]++g2.bl) _ _;by_cases d4:d=len
       · clear ih4;rw[canFrom_nil (by omega)] at hdn2;subst d4;refine U16 ?_;exact Tc.db (hih3 g2 dn2 ⟨hgl2,hgn2⟩ hdn2)
       · have d5:d<len:=by omega
         rw[canFrom_cons (by omega),List.map_cons,List.cons_append] at hdn2;obtain hz|⟨pb,po,pf,ps,pt,pz,rfl,hpb',hpl'⟩:=hP
         · omega
         have f5:=hpl' d d5;have hkd:=hpk d d5;have hdl:(dn2.foldl addE []).length≤100000000:=by
           have h1:=adds_le dn2 [];have h2:=congrArg List.length hdn2;rw[List.length_append,List.length_cons] at h2;simp only[List.length_nil] at h1;omega
         have hhear:=fun(H':View)=> HearR_c M H' k A lc (some ⟨tb,to,none⟩) tc x m (pq d) hxb.1 hxb.2 (by omega);rw[hkd.1] at hhear;obtain⟨y,hy⟩:∃y,x.hear m (lo+d)=y:=⟨_,rfl⟩
         rw[hy] at hhear;have hdn3:dn2++y::((canFrom m b lo hi (lo+d+1)).map (fun y=> x.hear y.1 y.2)++T)=W:=by rw[←hy];exact hdn2
         refine U12 ?_;refine Tc.drT [12] [] [] 2 mixed rfl ?_;refine .oo 0 ?_;refine .oo 1 ?_;refine .oo 2 ?_;refine .oo 3 ?_;refine .oo 4 ?_;refine .oo 5 ?_;refine .oo 6 ?_;refine .oo 7 ?_;refine .oo 8 ?_;refine .oo 9 ?_;refine .oo 10 ?_;refine Ta.tkC 11 (by kernel_rfl) rfl rfl (by decide) rfl rfl (OpV.takeCall rfl rfl rfl rfl (fun H hs=> .h (hhear H))) ?_;refine Ta.each [12] (by kernel_rfl) rfl ⟨TaOp.mk rfl rfl rfl (Or.callGrow (g:=g2) 2 (fun g':Gl 122 3=> g'.l=earsV (addE (dn2.foldl addE []) y)∧g'.n=(addE (dn2.foldl addE []) y).length) rfl rfl rfl rfl rfl rfl (by decide) (fun H₁ H' _ h2=> .h (addE_c M g2 (dn2.foldl addE []) hgl2 hgn2 hdl y H₁ H' h2)) (fun g3 hg3=> ⟨S3.mk (by exact List.sublist_append_left _ _) (.inl (by kernel_rfl)),?_⟩)),trivial⟩;refine .ow 13 ?_;refine .dn ?_;refine U6 ?_;exact Tc.db (ih4 ⟨(d+1,g3,dn2++[y]),by simp only;omega,by simp only;rw[List.foldl_append];exact hg3,by simp only;rw[List.append_assoc];exact hdn3⟩ (by simp only;omega))
     · clear ih3;rw[canL_nil (by omega),List.map_nil,List.nil_append] at hdn1;refine U17 ?_;exact Tc.db (hih2 g1 dn1 ⟨hgl1,hgn1⟩ hdn1)
end
def allTo:Nat→List Int
 | 0=> []
 | j+1=> allRes j
theorem allTo_succ:∀j,allTo (j+1)=allTo j++[((j:Nat):Int)-1]
 | 0=> rfl
 | j+1=> by
   show allRes j++[((j:Nat):Int)]=allRes j++[((j+1:Nat):Int)-1];rw[show((j+1:Nat):Int)-1=((j:Nat):Int) by omega]
def Bk.refRes(k:Bk)(j:Nat):List Int:=(allTo j).filter fun z=> decide (z∈k.resL)
theorem refRes_len(k:Bk):(k.refRes (k.nl+1)).length=k.resL.length:=by
 rw[←resTo_len,res_filter];rfl
theorem mem_refRes {k:Bk}{z:Int}:z∈k.refRes (k.nl+1)↔z∈k.resL:=by
 unfold Bk.refRes;rw[List.mem_filter,decide_eq_true_iff];constructor
 · exact fun h=> h.2
 · intro h;refine⟨?_,h⟩;show z∈allRes k.nl;rw[mem_allRes];exact resL_in k h
theorem refRes_le(k:Bk)(j:Nat):(k.refRes j).length≤j:=by
 have h:∀j,(allTo j).length=j:=by
   intro j;induction j with
   | zero=> rfl
   | succ j ih=> rw[allTo_succ,List.length_append,ih];rfl
 have:=List.length_filter_le (fun z=> decide (z∈k.resL)) (allTo j);unfold Bk.refRes;rw[h] at this;exact this
def Bk.anyTo(k:Bk)(z:Int)(i:Nat):Bool:=((k.refEars k.nt).take i).any fun e=> decide (firstI (k.line e.heard)=z)
theorem anyTo_succ {k:Bk}{z:Int}{i:Nat}{e:Ear}(h:(k.refEars k.nt)[i]? =some e):k.anyTo z (i+1)=(k.anyTo z i||decide (firstI (k.line e.heard)=z)):=by
 unfold Bk.anyTo;have hi:=(List.getElem?_eq_some_iff.1 h).1;rw[List.take_add_one,h,List.any_append];simp
theorem anyTo_all {k:Bk}{z:Int}:k.anyTo z (k.refEars k.nt).length=decide (z∈k.resL):=by
 unfold Bk.anyTo;rw[List.take_length,Bool.eq_iff_iff,List.any_eq_true,decide_eq_true_iff,Bk.mem_resL];constructor
 · rintro⟨e,he,h⟩;exact⟨e,(k.mem_refEars _ e).1 he,(of_decide_eq_true h).symm⟩
 · rintro⟨e,he,h⟩;exact⟨e,(k.mem_refEars _ e).2 he,decide_eq_true h.symm⟩
section
variable(M:Md prog)(H:View)
theorem Results_c(k:Bk)(A:Option Addr)(lc:Nat)(B:Option Addr)(tc:Nat)(hk:BkAt H k A lc B tc)(ha:k.alarm=0):
   CallT M 96 #[k.val A lc B tc] H (fun v H'=> H.le H'∧∃G c',v=.slice G (k.refRes (k.nl+1)).length c'∧FreeAt H' G (k.refRes (k.nl+1)).length (exAt (k.refRes (k.nl+1)))):=by
 obtain⟨hgg,hnl,hnt,hok⟩:=Bk.valid ha;refine .en func96 ntmps96 fun St c cs hK=> ?_;refine U2 ?_;refine .bo fun b1=> ?_;refine U8 ?_;refine To.callF rfl rfl rfl rfl rfl rfl (by decide) (FnT.h (EarsOf_c M H k A lc B tc hk.trains ha k.nt (Nat.le_refl _))) (fun v H₂ hv=> ?_);obtain⟨hle,E,ec,rfl,hE⟩:=hv;have hel:(k.refEars k.nt).length≤12 ^ 6:=Nat.le_trans (refEars_len hok k.nt (Nat.le_refl _)) (Nat.pow_le_pow_right (by decide) hnt);have hlo:=fun(H':View) (h:H₂.le H') s=> LineOf_c M H' k A lc B tc (hk.rows.le (View.le_trans hle h)) (by omega) s;refine U12 ?_;refine Tc.db (Tc.loopInv (σ:= { x:Nat×Gl 3 1//x.1≤k.nl+1∧x.2.n=(k.refRes x.1).length∧x.2.l=intsL (k.refRes x.1) }) (fun x=> ([(1,.pointer (some ⟨b1,0,none⟩)),(3,.slice E (k.refEars k.nt).length ec),(4,x.1.2.val),(5,.int .i64 ((x.1.1:Nat)-1))],[(b1,true,.cells ⟨(k.val A lc B tc).cells.toList⟩ 25 (0,0))]++x.1.2.bl)) (fun x=> k.nl+1-x.1.1) ?_ ⟨(0,Gl.nil 3 1),Nat.zero_le _,rfl,rfl⟩);rintro⟨⟨j,g⟩,hj,hgn,hgl⟩ ih;simp only at hj hgn hgl;show Tc M St _ _ _ _ [(1,.pointer (some ⟨b1,0,none⟩)),(3,.slice E (k.refEars k.nt).length ec),(4,g.val),(5,.int .i64 ((j:Nat)-1))] ([(b1,true,.cells ⟨(k.val A lc B tc).cells.toList⟩ 25 (0,0))]++g.bl) _ _;have hrl:=refRes_le k j;by_cases c1:j=k.nl+1
 · clear ih;subst c1;refine U16 ?_;refine .rt hK func96 results96 [_] ?_;exact fun H' hs=> ⟨View.le_trans hle hs.base,g.blk.map fun b=> ⟨b,0,none⟩,g.cap,by rw[←hgn];rfl,cl_at g (fun x hx=> hs.at_ x (by simp[hx])) (hgl.trans (clL_ints _)) hgn⟩
 · have c2:j<k.nl+1:=by omega
   obtain⟨z,hz⟩:∃z:Int,((j:Nat):Int)-1=z:=⟨_,rfl⟩
   have hz2: -1≤z∧z<(k.nl:Nat):=by omega
   have hz3:z+1=((j+1:Nat):Int)-1:=by omega
   have hres:k.refRes (j+1)=k.refRes j++(if decide (z∈k.resL)=true then [z] else []):=by
     unfold Bk.refRes;rw[allTo_succ,List.filter_append,hz]
     congr 1
     by_cases q:z∈k.resL
     · simp[q]
     · simp[q]
   rw[hz];have hih:=fun(g':Gl 3 1) (h1:g'.n=(k.refRes (j+1)).length) (h2:g'.l=intsL (k.refRes (j+1)))=> ih ⟨(j+1,g'),by simp only;omega,h1,h2⟩ (by simp only;omega);simp only[←hz3] at hih;clear ih;refine U23 ?_;refine Tc.db (Tc.loopInv (σ:= { i:Nat//i≤(k.refEars k.nt).length }) (fun i=> ([(1,.pointer (some ⟨b1,0,none⟩)),(3,.slice E (k.refEars k.nt).length ec),(4,g.val),(5,.int .i64 z),(6,.bool (k.anyTo z i.1)),(7,.int .i64 (i.1:Nat))],[(b1,true,.cells ⟨(k.val A lc B tc).cells.toList⟩ 25 (0,0))]++g.bl)) (fun i=> (k.refEars k.nt).length-i.1) ?_ ⟨0,Nat.zero_le _⟩);rintro⟨i,hi⟩ ih2;show Tc M St _ _ _ _ [(1,.pointer (some ⟨b1,0,none⟩)),(3,.slice E (k.refEars k.nt).length ec),(4,g.val),(5,.int .i64 z),(6,.bool (k.anyTo z i)),(7,.int .i64 (i:Nat))] ([(b1,true,.cells ⟨(k.val A lc B tc).cells.toList⟩ 25 (0,0))]++g.bl) _ _;by_cases d1:i=(k.refEars k.nt).length
   · clear ih2;subst d1;rw[anyTo_all];by_cases d2:z∈k.resL
     · rw[decide_eq_true d2,if_pos rfl] at hres;rw[decide_eq_true d2];refine U18 ?_;refine .e (.bs (zz:=fun bs=> ?_));refine .e (Or.append (E:=en) 2 rfl rfl rfl rfl rfl rfl rfl rfl rfl rfl rfl rfl rfl rfl rfl (fun H hs=> SrcAt.of (hs.get (i:=0) rfl) (Nat.le_of_ble_eq_true rfl)) rfl (by omega) rfl (by decide) (fun g2 hn2 hl2=> ?_));refine U8 ?_;exact Tc.db (hih g2 (by rw[hres,List.length_append,hn2,hgn];rfl) (by rw[hres,hl2,hgl];unfold intsL;rw[List.map_append];rfl))
     · rw[decide_eq_false d2,if_neg (by simp),List.append_nil] at hres;rw[decide_eq_false d2];refine U22 ?_;exact Tc.db (hih g (by rw[hres];exact hgn) (by rw[hres];exact hgl))
   · have d2:i<(k.refEars k.nt).length:=by omega
     obtain⟨x,hx⟩:∃x,(k.refEars k.nt)[i]? =some x:=⟨_,List.getElem?_eq_getElem d2⟩
     have hnx:=anyTo_succ (z:=z) hx;have hih2:=ih2 ⟨i+1,by omega⟩ (by simp only;omega);simp only[hnx] at hih2;obtain hz|⟨eb,eo,ef,es,et,ez,rfl,heb,hel2⟩:=hE
     · rw[hz] at d2;cases d2
     have f2:ldL false 1 es (eo+((i:Nat):Int).toNat*3+0)=some (strV x.heard):=ldL_cell (d:=0) (hel2 i x hx) (by decide);have hfi: -1≤firstI (k.line x.heard)∧firstI (k.line x.heard)<1000000:=by
       cases h:k.line x.heard with
       | none=> exact⟨Int.le_refl _,by decide⟩
       | some y=>
         have h2:=(Bk.line_at h).1;have h3:firstI (some y)=((y:Nat):Int):=rfl;omega
     have hlx:=fun(H':View) (h:H₂.le H')=> hlo H' h x.heard;generalize firstI (k.line x.heard)=y at hih2 hfi hlx;generalize k.anyTo z i=bb at hih2 ⊢;cases bb with
     | true=>
       rw[Bool.true_or] at hih2;refine U12 ?_;refine Tc.dr [] [] mixed rfl ?_;refine .nn 0 ?_;refine .nn 1 ?_;refine .nw 2 ?_;refine .nw 3 ?_;refine .nw 4 ?_;refine .nw 5 ?_;refine .nw 6 ?_;refine .nw 7 ?_;refine .nw 8 ?_;refine .nw 9 ?_;refine .nw 10 ?_;refine .nn 11 ?_;refine .nn 12 ?_;refine .dn ?_;refine U6 ?_;exact Tc.db (hih2)
     | false=>
       rw[Bool.false_or] at hih2;by_cases d3:y=z
       · rw[decide_eq_true d3] at hih2;refine U12 ?_;refine Tc.drT [] [] [] 1 mixed rfl ?_;refine .oo 0 ?_;refine .oo 1 ?_;refine .oo 2 ?_;refine .oo 3 ?_;refine .oo 4 ?_;refine .oo 5 ?_;refine .oo 6 ?_;refine .oo 7 ?_;refine Ta.tkC 8 (by kernel_rfl) rfl rfl (by decide) rfl rfl (OpV.takeCall rfl rfl rfl rfl (fun H hs=> .h (hlx H hs.base))) ?_;refine .oo 9 ?_;refine .oo 10 ?_;refine .oo 11 ?_;refine .oo 12 ?_;refine .dn ?_;refine U6 ?_;exact Tc.db (hih2)
       · rw[decide_eq_false d3] at hih2;refine U12 ?_;refine Tc.drT [] [] [] 1 mixed rfl ?_;refine .oo 0 ?_;refine .oo 1 ?_;refine .oo 2 ?_;refine .oo 3 ?_;refine .oo 4 ?_;refine .oo 5 ?_;refine .oo 6 ?_;refine .oo 7 ?_;refine Ta.tkC 8 (by kernel_rfl) rfl rfl (by decide) rfl rfl (OpV.takeCall rfl rfl rfl rfl (fun H hs=> .h (hlx H hs.base))) ?_;refine .oo 9 ?_;refine .oo 10 ?_;refine .oo 11 ?_;refine .oo 12 ?_;refine .dn ?_;refine U6 ?_;exact Tc.db (hih2)
theorem SayR_c(n:Nat)(w:Int)(hw:(if n=1 then 1 else 0:Int)=w):CallT M 161 #[.int .i64 1,.int .i64 (n:Nat)] H (fun v H'=> H.le H'∧v=.int .i64 w):=by
 rw[←hw];by_cases c1:n=1
 · rw[if_pos c1];refine .en func161 ntmps161 fun St c cs hK=> ?_;refine U27 ?_;refine .rt hK func161 results161 [_] ?_;exact okB
 · rw[if_neg c1];refine .en func161 ntmps161 fun St c cs hK=> ?_;refine U29 ?_;refine .rt hK func161 results161 [_] ?_;exact okB
theorem claimR_c(k:Bk)(ha:k.alarm=0)(G:Option Addr)(c':Nat)(hF:FreeAt H G (k.refRes (k.nl+1)).length (exAt (k.refRes (k.nl+1))))(z:Int):
   CallT M 97 #[.slice G (k.refRes (k.nl+1)).length c',.int .i64 z] H (fun v H'=> H.le H'∧v=.int .i64 (k.claimOf z)):=by
 obtain⟨_,hnl,_,_⟩:=Bk.valid ha;have hl:=refRes_le k (k.nl+1);have hhas:=fun(H':View) (h:H.le H') (t:Bool) (ht:t=true↔z∈k.refRes (k.nl+1))=> HasNum_c M H' G (k.refRes (k.nl+1)).length c' _ (hF.le h) (by omega) z t (hasTo_mem _ rfl z t ht);have hsay:=fun(H':View)=> SayR_c M H' (k.refRes (k.nl+1)).length _ rfl;rw[refRes_len] at hsay hhas hl ⊢;by_cases c1:z∈k.resL
 · have h1:=fun(H':View) (h:H.le H')=> hhas H' h true ⟨fun _=> mem_refRes.2 c1,fun _=> rfl⟩;have e:k.claimOf z=if k.resL.length=1 then 1 else 0:=by unfold Bk.claimOf;rw[if_pos c1]
   rw[e];refine .en func97 ntmps97 fun St c cs hK=> ?_;refine U9 ?_;refine .c rfl rfl rfl rfl (fun H hs=> .h (h1 H hs.base)) ?_;refine U8 ?_;refine .c rfl rfl rfl rfl (fun H hs=> .h (hsay H)) ?_;refine U2 ?_;refine .rt hK func97 results97 [_] ?_;exact okB
 · have h1:=fun(H':View) (h:H.le H')=> hhas H' h false ⟨fun h=> (nomatch h),fun h=> (c1 (mem_refRes.1 h)).elim⟩;have e:k.claimOf z=2:=by unfold Bk.claimOf;rw[if_neg c1]
   rw[e];refine .en func97 ntmps97 fun St c cs hK=> ?_;refine U9 ?_;refine .c rfl rfl rfl rfl (fun H hs=> .h (h1 H hs.base)) ?_;refine U7 ?_;refine .rt hK func97 results97 [_] ?_;exact okB
end
end Go.Proofs.YtdnfdeplcjaonaaGreatDoor
namespace Go.RL
section
variable {P:Program}{n:Nat}{H₀:View}{R:Rg}{L:Bl}{o:Oper}{E:Env P}
theorem OpV.sliceF {t e:TypeId}{x:Operand}{lo hi:Option Operand}{l h:Int}{len cap:Nat}{F:Option Addr}{r re:TyRow}(hop:o.op=.slice t x lo hi none)(hx:evR R x=some (.slice F len cap))(ht:E.ty t=some r)(hds:r.ds=.slice e)
   (hre:E.ty e=some re) (hlo:bound R lo 0=some l) (hhi:bound R hi len=some h) (h0:0≤l) (h1:l≤h) (h2:h≤cap):
   OpV P n H₀ R L o (.slice (if cap=l.toNat then F else F.map (·.add (l.toNat*re.size))) (h.toNat-l.toNat) (cap-l.toNat)):=
 (fun H tmps _ hr=> by
   unfold execOp;rw[hop];simp only[hr.ev hx];refine vwp_bind (Instr.sliceAt t _ _ _ _) _ ?_;refine vwp_bind (underlying t) _ (vwp_underlying (ds_slice ((E.ok _ _ ht).ds.trans hds)) ?_);refine vwp_bind (underlying t) _ (vwp_underlying (ds_slice ((E.ok _ _ ht).ds.trans hds)) ?_);show vwp P ((Instr.sliceBounds true len cap (lo.map (evT tmps)) (hi.map (evT tmps)) none).bind fun b=> _) H _;refine vwp_bind _ _ (vwp_sliceBounds hr hlo hhi h0 h1 h2 ?_);refine vwp_bind (sizeOf e) _ (vwp_sizeOf (E.ok _ _ hre).size ?_);exact⟨rfl,rfl⟩)
theorem src_part {H:View}{G:Option Addr}{n c:Nat}{L:List Value}(h:SrcAt H 1 (.slice G n c) n L)(hc:n≤c){l m:Int}(h0:0≤l)(h1:l≤m)(h2:m≤(n:Nat)):
   SrcAt H 1 (.slice (if c=l.toNat then G else G.map (·.add (l.toNat*1))) (m.toNat-l.toNat) (c-l.toNat)) (m.toNat-l.toNat) ((L.drop l.toNat).take (m.toNat-l.toNat)):=by
 obtain⟨_,hl,h3⟩:=h;refine⟨⟨_,_,rfl⟩,by rw[List.length_take,List.length_drop];omega,?_⟩;rcases h3 with ⟨_,_,h4,h5⟩|⟨b,off,c',f,cs,e,fz,h4,h5,h6,h7⟩
 · exact .inl ⟨_,_,rfl,by rw[h5];simp⟩
 · simp only[Value.slice.injEq,true_and] at h4;obtain⟨rfl,rfl⟩:=h4;by_cases q:c=l.toNat
   · exact .inl ⟨_,_,rfl,List.length_eq_zero_iff.1 (by rw[List.length_take,List.length_drop];omega)⟩
   · rw[if_neg q];refine .inr ⟨b,off+l.toNat*1,c-l.toNat,f,cs,e,fz,?_,h5,?_,?_⟩
     · rw[Option.map_some,add_off ⟨b,off,none⟩ _ rfl]
     · rw[List.length_take,List.length_drop];omega
     · have hlen:((L.drop l.toNat).take (m.toNat-l.toNat)).length=m.toNat-l.toNat:=by rw[List.length_take,List.length_drop];omega
       rw[hlen];have h8:(cs.drop off).take L.length=L:=h7;rw[←h8,List.drop_take,List.take_take,List.drop_drop,Nat.mul_one,Nat.min_eq_left (by rw[hl];omega)]
end
end Go.RL
namespace Go.Proofs.YtdnfdeplcjaonaaGreatDoor
open Go.RL Go.Proofs.Tryz
set_option maxRecDepth 10000
set_option maxHeartbeats 1000000
section
variable {k:Bk}{t:Nat}{x:Quad}
end
set_option maxHeartbeats 16000000
section
variable(M:Md prog)(H:View)
theorem HeardG_l(k:Bk)(A:Option Addr)(lc:Nat)(B:Option Addr)(tc:Nat)(hk:BkAt H k A lc B tc)(hn:k.small)(hG:Glob H)(ha:k.alarm=0):
   CallT M 23 #[k.val A lc B tc] H (fun v H'=> H.le H'∧∃(G:Option Addr) (n c:Nat),n=k.heardL.length∧v=.tuple ⟨[.slice G n c,.int .i64 0]⟩∧StrsAt H' G n (fun j=> k.heardL[j]?.getD [])):=
 CallT.mono (HeardG_c M H k A lc B tc hk hn hG ha) (by
   rintro v H' ⟨h1,g,rfl,⟨h2,h3⟩,h4⟩;have h5:=g.src (H:=H') (fun x hx=> (h4 x hx).1);rw[h3] at h5;exact⟨h1,g.blk.map (fun b=> ⟨b,0,none⟩),g.n,g.cap,h2,rfl,strs_src h5 h2⟩)
theorem Reaches_l(k:Bk)(A:Option Addr)(lc:Nat)(B:Option Addr)(tc:Nat)(hk:BkAt H k A lc B tc)(hn:k.small)(hG:Glob H)(ha:k.alarm=0):
   CallT M 26 #[k.val A lc B tc] H (fun v H'=> H.le H'∧∃(G:Option Addr) (c:Nat),v=.tuple ⟨[.slice G k.nl c,.int .i64 (k.claimOf (-1)),.int .i64 0]⟩∧FreeAt H' G k.nl (fun i=> k.claimOf (i:Nat))):=
 CallT.mono (Reaches_c M H k A lc B tc hk hn hG ha) (by
   rintro v H' ⟨h1,g,rfl,⟨h2,h3⟩,h4⟩;have hF:=cl_free g (fun x hx=> (h4 x hx).1) h3;rw[h2] at hF;refine⟨h1,g.blk.map (fun b=> ⟨b,0,none⟩),g.cap,?_,hF⟩;unfold reachV Gl.val;rw[h2])
end
theorem heard_len {k:Bk}(ha:k.alarm=0):k.heardL.length≤12 ^ 6:=by
 have h1:=nodup_le (l:=k.heardL) (m:=(k.earsL k.nt).map (·.heard)) (by unfold Bk.heardL;exact(ascOf_asc _).imp fun h e=> by subst e;have h2:=less_asym h;rw[h] at h2;cases h2) (fun x hx=> by unfold Bk.heardL at hx;exact(mem_ascOf _).1 hx);have h2:=ears_count ha;rw[List.length_map] at h1;omega
theorem ins_asc {out:List (List UInt8)}{x:List UInt8}{a:Nat}(hA:AscS out)(h1:∀j y,j<a→out[j]? =some y→Op.bytesLess y x=true)(h2:∀y,out[a]? =some y→Op.bytesLess x y=true):AscS ((out.take a++[x])++out.drop a):=by
 have hlo:∀y∈out.take a,Op.bytesLess y x=true:=fun y hy=> by
   obtain⟨j,hj,rfl⟩:=List.getElem_of_mem hy;rw[List.length_take] at hj;rw[List.getElem_take];exact h1 j _ (by omega) (List.getElem?_eq_getElem (by omega))
 have hhi:∀y∈out.drop a,Op.bytesLess x y=true:=fun y hy=> by
   obtain⟨j,hj,rfl⟩:=List.getElem_of_mem hy;rw[List.length_drop] at hj;rw[List.getElem_drop];have h3:=h2 out[a] (List.getElem?_eq_getElem (by omega));rcases Nat.eq_zero_or_pos j with rfl|h4
   · exact h3
   · exact less_trans h3 (List.pairwise_iff_getElem.1 hA a (a+j) (by omega) (by omega) (by omega))
 refine List.pairwise_append.2 ⟨List.pairwise_append.2 ⟨hA.take,List.pairwise_singleton _ _,fun y hy z hz=> ?_⟩,hA.drop,fun y hy z hz=> ?_⟩
 · rw[List.mem_singleton.1 hz];exact hlo y hy
 · rcases List.mem_append.1 hy with h|h
   · exact less_trans (hlo y h) (hhi z hz)
   · rw[List.mem_singleton.1 h];exact hhi z hz
theorem mem_ins {out:List (List UInt8)}{x z:List UInt8}{a:Nat}:z∈(out.take a++[x])++out.drop a↔z∈out∨z=x:=by
 have h:z∈out↔z∈out.take a∨z∈out.drop a:=by rw[←List.mem_append,List.take_append_drop]
 rw[h];simp only[List.mem_append,List.mem_singleton];constructor
 · rintro((h|h)|h)
   · exact .inl (.inl h)
   · exact .inr h
   · exact .inl (.inr h)
 · rintro((h|h)|h)
   · exact .inl (.inl h)
   · exact .inr h
   · exact .inl (.inr h)
theorem strsV_part {out:List (List UInt8)}{l m:Nat}:((strsV out).drop l).take m=strsV ((out.drop l).take m):=by
 unfold strsV;rw[List.map_take,List.map_drop]
section
variable(M:Md prog)(H:View)
theorem HeardR_alarm(k:Bk)(A:Option Addr)(lc:Nat)(B:Option Addr)(tc:Nat)(hk:BkAt H k A lc B tc)(hn:k.small)(hnm:∀i,i<k.nl→(k.name i).length≤1000000)(ha:k.alarm≠0):
   CallT M 24 #[k.val A lc B tc] H (fun v H'=> H.le H'∧v=.tuple ⟨[.slice none 0 0,.int .i64 k.alarm]⟩):=by
 have hchk:=fun(H':View) (h:H.le H')=> refCheckBook_c M H' k A lc B tc (hk.le h) hn hnm;generalize k.alarm=al at ha hchk ⊢;refine .en func24 ntmps24 fun St c cs hK=> ?_;refine U2 ?_;refine .bo fun b1=> ?_;refine U7 ?_;refine .c rfl rfl rfl rfl (fun H hs=> .h (hchk H hs.base)) ?_;refine U14 ?_;refine .rt hK func24 results24 [_,_] ?_;exact okB
theorem HeardR_c(k:Bk)(A:Option Addr)(lc:Nat)(B:Option Addr)(tc:Nat)(hk:BkAt H k A lc B tc)(hn:k.small)(hnm:∀i,i<k.nl→(k.name i).length≤1000000)(ha:k.alarm=0):
   CallT M 24 #[k.val A lc B tc] H (fun v H'=> H.le H'∧∃(G:Option Addr) (c:Nat),v=.tuple ⟨[.slice G k.heardL.length c,.int .i64 0]⟩∧StrsAt H' G k.heardL.length (fun j=> k.heardL[j]?.getD [])):=by
 obtain⟨hgg,hnl,hnt,hok⟩:=Bk.valid ha;have hchk:=fun(H':View) (h:H.le H')=> isV (refCheckBook_c M H' k A lc B tc (hk.le h) hn hnm) (w':=.int .i64 0) (by rw[ha]);have hel:(k.refEars k.nt).length≤12 ^ 6:=Nat.le_trans (refEars_len hok k.nt (Nat.le_refl _)) (Nat.pow_le_pow_right (by decide) hnt);refine .en func24 ntmps24 fun St c cs hK=> ?_;refine U2 ?_;refine .bo fun b1=> ?_;refine U7 ?_;refine .c rfl rfl rfl rfl (fun H hs=> .h (hchk H hs.base)) ?_;refine U15 ?_;refine To.callF rfl rfl rfl rfl rfl rfl (by decide) (FnT.h (EarsOf_c M H k A lc B tc hk.trains ha k.nt (Nat.le_refl _))) (fun v H₁ hv=> ?_);obtain⟨hle1,E,ec,rfl,hE⟩:=hv;refine U12 ?_;refine Tc.db (Tc.loopB (σ:= { s:Nat×View×Option Addr×Nat×List (List UInt8)//s.1≤(k.refEars k.nt).length∧H₁.le s.2.1∧(SrcAt s.2.1 1 (.slice s.2.2.1 s.2.2.2.2.length s.2.2.2.1) s.2.2.2.2.length (strsV s.2.2.2.2)∧s.2.2.2.2.length≤s.2.2.2.1∧s.2.2.2.2.length≤s.1)∧AscS s.2.2.2.2∧∀z,z∈s.2.2.2.2↔∃j e,j<s.1∧(k.refEars k.nt)[j]? =some e∧z=e.heard }) (fun s=> (s.1.2.1,[(5,.slice E (k.refEars k.nt).length ec),(6,.slice s.1.2.2.1 s.1.2.2.2.2.length s.1.2.2.2.1),(7,.int .i64 (s.1.1:Nat))],[])) (fun s=> (k.refEars k.nt).length-s.1.1) ?_ ⟨(0,H₁,none,0,[]),Nat.zero_le _,View.le_refl _,⟨⟨⟨_,_,rfl⟩,rfl,.inl ⟨_,_,rfl,rfl⟩⟩,Nat.le_refl _,Nat.le_refl _⟩,List.Pairwise.nil,fun z=> ⟨fun h=> (nomatch h),fun⟨j,_,h,_⟩=> absurd h (Nat.not_lt_zero j)⟩⟩);rintro⟨⟨i,H₂,G,gc,out⟩,hi,hle2,⟨hsrc,hgc,hol⟩,hasc,hmem⟩ ih;simp only at hi hle2 hsrc hgc hol hasc hmem;show Tc M St _ _ H₂ _ [(5,.slice E (k.refEars k.nt).length ec),(6,.slice G out.length gc),(7,.int .i64 (i:Nat))] [] _ _;by_cases c1:i=(k.refEars k.nt).length
 · clear ih;subst c1;have hout:out=k.heardL:=by
     unfold Bk.heardL;refine ascS_uniq hasc (ascOf_asc _) fun z=> ?_;rw[hmem,mem_ascOf,List.mem_map];constructor
     · rintro⟨j,e,_,h2,rfl⟩;exact⟨e,(k.mem_earsL _ e).2 ((k.mem_refEars _ e).1 (List.mem_of_getElem? h2)),rfl⟩
     · rintro⟨e,he,rfl⟩;obtain⟨j,hj,h3⟩:=List.getElem_of_mem ((k.mem_refEars _ e).2 ((k.mem_earsL _ e).1 he));exact⟨j,e,hj,by rw[List.getElem?_eq_getElem hj,h3],rfl⟩
   subst hout;refine U16 ?_;refine .rt hK func24 results24 [_,_] ?_;exact fun H' hs=> ⟨View.le_trans hle1 (View.le_trans hle2 hs.base),G,gc,rfl,(strs_src hsrc rfl).le hs.base⟩
 · have c2 : i < (k.refEars k.nt).length:=by omega
   obtain⟨e,he⟩:∃e,(k.refEars k.nt)[i]? =some e:=⟨_,List.getElem?_eq_getElem c2⟩
   have hE2:=hE.le hle2;obtain hz|⟨eb,eo,ef,es,et,ez,rfl,heb,hel2⟩:=hE2
   · rw[hz] at c2;cases c2
   have f2:ldL false 1 es (eo+((i:Nat):Int).toNat*3+0)=some (strV e.heard):=ldL_cell (d:=0) (hel2 i e he) (by decide);have hmem2:∀out':List (List UInt8),(∀z,z∈out'↔z∈out∨z=e.heard)→∀z,z∈out'↔∃j e,j<i+1∧(k.refEars k.nt)[j]? =some e∧z=e.heard:=fun out' h z=> by
     rw[h,hmem];constructor
     · rintro(⟨j,y,h1,h2,h3⟩|rfl)
       · exact⟨j,y,by omega,h2,h3⟩
       · exact⟨i,e,by omega,he,rfl⟩
     · rintro⟨j,y,h1,h2,h3⟩;by_cases q:j=i
       · subst q;rw[he] at h2;cases h2
         exact .inr h3
       · exact .inl ⟨j,y,by omega,h2,h3⟩
   generalize e.heard=x at f2 hmem2;have hst:=strs_src hsrc rfl;have hih:=fun(H₃:View) (G':Option Addr) (gc':Nat) (out':List (List UInt8)) (h1:H₂.le H₃) (h2:SrcAt H₃ 1 (.slice G' out'.length gc') out'.length (strsV out')∧out'.length≤gc'∧out'.length≤i+1) (h3:AscS out') (h4:∀z,z∈out'↔z∈out∨z=x)=> ih ⟨(i+1,H₃,G',gc',out'),by simp only;omega,View.le_trans hle2 h1,h2,h3,hmem2 out' h4⟩ (by simp only;omega);clear ih;have hlt:∀a,a<out.length→StrsAt H₂ G out.length (fun j=> out[j]?.getD [])→∃b o f gs gt gz y,G=some ⟨b,o,none⟩∧H₂ b=some (f,.cells ⟨gs⟩ gt gz)∧out[a]? =some y∧ldL false 1 gs (o+((a:Nat):Int).toNat*1)=some (strV y):=by
     rintro a ha (h|⟨b,o,f,gs,gt,gz,h1,h2,h3⟩)
     · omega
     · have h4:=h3 a ha;simp only[List.getElem?_eq_getElem ha,Option.getD_some] at h4;exact⟨b,o,f,gs,gt,gz,out[a],h1,h2,List.getElem?_eq_getElem ha,h4⟩
   refine U17 ?_;refine blockVia (fun R' L'=> ∃a,a≤out.length∧(∀j y,j<a→out[j]? =some y→Op.bytesLess y x=true)∧(∀y,out[a]? =some y→Op.bytesLess y x=false)∧AllIn [(5,.slice (some ⟨eb,eo,none⟩) (k.refEars k.nt).length ec),(6,.slice G out.length gc),(7,.int .i64 (i:Nat)),(8,.int .i64 (a:Nat))] R') ?_ (fun fin=> ?_)
   · rintro R' L' ⟨a,ha1,ha2,ha3,hR'⟩;refine Tc.dropB (L':= []) ?_ hR' (List.nil_sublist _);by_cases d1:a<out.length∧out[a]? =some x
     · obtain⟨b,o,f,gs,gt,gz,y,rfl,hb,hy,f1⟩:=hlt a d1.1 hst;rw[d1.2] at hy;cases hy
       have f3:RL.strB .neq x x=some (.bool false):=by simp[RL.strB]
       have hx:∀z,z∈out↔z∈out∨z=x:=fun z=> ⟨.inl,fun h=> h.elim id fun h2=> h2▸List.mem_of_getElem? d1.2⟩
       have ha4:=d1.1;refine U ?_;refine Tc.dr [] [] mixed rfl ?_;refine .nn 0 ?_;refine .nn 1 ?_;refine .nn 2 ?_;refine .nn 3 ?_;refine .nn 4 ?_;refine .nn 5 ?_;refine .nn 6 ?_;refine .nn 7 ?_;refine .nn 8 ?_;refine .nn 9 ?_;refine .nn 10 ?_;refine .nn 11 ?_;refine .nn 12 ?_;refine .nn 13 ?_;refine .nn 14 ?_;refine .nn 15 ?_;refine .dn ?_;refine U8 ?_;exact Tc.db (hih H₂ (some ⟨b,o,none⟩) gc out (View.le_refl _) ⟨hsrc,hgc,by omega⟩ hasc hx)
     · have hasc2:AscS ((out.take a++[x])++out.drop a):=ins_asc hasc ha2 fun y hy=> by
         have hya:=(List.getElem?_eq_some_iff.1 hy).1;cases q:Op.bytesLess x y with
         | true=> rfl
         | false=> exact(d1 ⟨hya,by rw[hy,less_tri (ha3 y hy) q]⟩).elim
       have key:∀(g:Gl 9 1) (H₃:View),H₂.le H₃→(∀y∈g.bl,H₃ y.1=some y.2)→g.n=((out.take a++[x])++out.drop a).length→g.l=strsV ((out.take a++[x])++out.drop a)→SrcAt H₃ 1 (.slice (g.blk.map fun b=> ⟨b,0,none⟩) ((out.take a++[x])++out.drop a).length g.cap) ((out.take a++[x])++out.drop a).length (strsV ((out.take a++[x])++out.drop a))∧((out.take a++[x])++out.drop a).length≤g.cap∧((out.take a++[x])++out.drop a).length≤i+1:=fun g H₃ _ h2 h3 h4=> by
         have h5:=g.src (H:=H₃) h2;have h6:=g.hc;unfold Gl.val at h5;rw[h3,h4] at h5;refine⟨h5,by omega,?_⟩;simp only[List.length_append,List.length_take,List.length_drop,List.length_singleton];omega
       have hih2:=hih;clear hih;refine Tc.via (fun R' L'=> ∃g:Gl 9 1,(g.n=((out.take a++[x])++out.drop a).length∧g.l=strsV ((out.take a++[x])++out.drop a))∧AllIn [(5,.slice (some ⟨eb,eo,none⟩) (k.refEars k.nt).length ec),(6,g.val),(7,.int .i64 (i:Nat))] R'∧List.Sublist g.bl L') ?_ (fun fin=> ?_)
       · rintro R' L' ⟨g,⟨hg1,hg2⟩,hR',hL'⟩;refine Tc.dropB ?_ hR' hL';have hgv:g.val=.slice (g.blk.map fun b=> ⟨b,0,none⟩) ((out.take a++[x])++out.drop a).length g.cap:=by unfold Gl.val;rw[hg1]
         rw[hgv];refine Tc.absorb [] g.bl (List.Perm.refl _) (fun H₃ hle3 hb3=> ?_);refine U6 ?_;exact Tc.db (hih2 H₃ (g.blk.map fun b=> ⟨b,0,none⟩) g.cap ((out.take a++[x])++out.drop a) hle3 (key g H₃ hle3 hb3 hg1 hg2) hasc2 (fun z=> mem_ins))
       · clear key hih2;have hs1:SrcAt H₂ 1 (.slice (if gc=(0:Int).toNat then G else G.map (·.add ((0:Int).toNat*1))) (((a:Nat):Int).toNat-(0:Int).toNat) (gc-(0:Int).toNat)) (((a:Nat):Int).toNat-(0:Int).toNat) (strsV (out.take a)):=by
           have h:=src_part hsrc hgc (l:=0) (m:=(a:Nat)) (by omega) (by omega) (by omega);rw[strsV_part] at h;exact h
         have hs2:SrcAt H₂ 1 (.slice (if gc=((a:Nat):Int).toNat then G else G.map (·.add (((a:Nat):Int).toNat*1))) (((out.length:Nat):Int).toNat-((a:Nat):Int).toNat) (gc-((a:Nat):Int).toNat)) (((out.length:Nat):Int).toNat-((a:Nat):Int).toNat) (strsV (out.drop a)):=by
           have h:=src_part hsrc hgc (l:=(a:Nat)) (m:=(out.length:Nat)) (by omega) (by omega) (by omega);rw[strsV_part] at h;have e:(out.drop ((a:Nat):Int).toNat).take (((out.length:Nat):Int).toNat-((a:Nat):Int).toNat)=out.drop a:=by
             rw[Int.toNat_natCast,Int.toNat_natCast];exact List.take_of_length_le (by rw[List.length_drop];exact Nat.le_refl _)
           rw[e] at h;exact h
         have h12:a=out.length∨∃b o f gs gt gz y,G=some ⟨b,o,none⟩∧a<out.length∧H₂ b=some (f,.cells ⟨gs⟩ gt gz)∧ldL false 1 gs (o+((a:Nat):Int).toNat*1)=some (strV y)∧RL.strB .neq y x=some (.bool true):=by
           by_cases q:a=out.length
           · exact .inl q
           · obtain⟨b,o,f,gs,gt,gz,y,h1,hb,hy,f1⟩:=hlt a (by omega) hst;refine .inr ⟨b,o,f,gs,gt,gz,y,h1,by omega,hb,f1,?_⟩;have:y≠x:=fun h=> d1 ⟨by omega,h▸hy⟩;simp[RL.strB,this]
         clear hst hlt hasc hmem hasc2 ha2 ha3 d1;rcases h12 with h12|⟨b,o,f,gs,gt,gz,y,rfl,h12,hb,f1,f3⟩
         all_goals
           refine U ?_;refine Tc.dr [] [] mixed rfl ?_;refine .nn 0 ?_;refine .nn 1 ?_;refine .nn 2 ?_;refine .q 3 rfl (.it (zz:=(by first|exact eql_t (by omega)|exact eql_f (by omega)))) ?_;refine .nn 4 ?_;first|(refine Ta.ps 5 (by kernel_rfl) rfl rfl rfl (by decide) rfl rfl ?_)|(refine .q 5 rfl .mv ?_)
           first|(refine Ta.ps 6 (by kernel_rfl) rfl rfl rfl (by decide) rfl rfl ?_)|(refine .q 6 rfl .mv ?_)
           first|(refine Ta.ps 7 (by kernel_rfl) rfl rfl rfl (by decide) rfl rfl ?_)|((refine .q 7 rfl .ia ?_))
           first|(refine Ta.ps 8 (by kernel_rfl) rfl rfl rfl (by decide) rfl rfl ?_)|((refine .q 8 rfl .l0 ?_))
           first|(refine Ta.ps 9 (by kernel_rfl) rfl rfl rfl (by decide) rfl rfl ?_)|(refine .q 9 rfl .mv ?_)
           first|(refine Ta.ps 10 (by kernel_rfl) rfl rfl rfl (by decide) rfl rfl ?_)|(refine .q 10 rfl .mv ?_)
           first|(refine Ta.ps 11 (by kernel_rfl) rfl rfl rfl (by decide) rfl rfl ?_)|((refine .q 11 rfl .ia ?_))
           first|(refine Ta.ps 12 (by kernel_rfl) rfl rfl rfl (by decide) rfl rfl ?_)|(refine .q 12 rfl .fa ?_)
           first|(refine Ta.ps 13 (by kernel_rfl) rfl rfl rfl (by decide) rfl rfl ?_)|((refine .q 13 rfl .l0 ?_))
           first|(refine Ta.ps 14 (by kernel_rfl) rfl rfl rfl (by decide) rfl rfl ?_)|(refine .q 14 rfl (OpV.strB rfl rfl rfl (by assumption)) ?_)
           refine .nn 15 ?_;refine .dn ?_;refine U ?_;refine Tc.drT [4,11,15] [] [] 0 mixed rfl ?_;refine .oo 1 ?_;refine .oo 2 ?_;refine Ta.tkC 3 (by kernel_rfl) rfl rfl (by decide) rfl rfl (OpV.take (OpV.sliceF (E:=en) rfl rfl rfl rfl rfl rfl rfl (by omega) (by omega) (by omega))) ?_;refine .ow 5 ?_;refine .ow 6 ?_;refine .ow 7 ?_;refine .ow 8 ?_;refine .ow 9 ?_;refine .ow 12 ?_;refine .ow 13 ?_;refine Ta.tkwC 14 (by kernel_rfl) rfl rfl rfl (by decide) rfl rfl (OpV.take (OpV.sliceF (E:=en) rfl rfl rfl rfl rfl rfl rfl (by omega) (by omega) (by omega))) ?_;refine Ta.each [0,10] (by kernel_rfl) rfl ⟨TaOp.mk rfl rfl rfl (.bs (zz:=fun bs0=> ⟨S3.mk (by exact List.nil_sublist _) (.inr (by exact List.nil_sublist _)),?_⟩)),TaOp.mk rfl rfl rfl (.bs (zz:=fun bs1=> ⟨S3.mk (by exact List.nil_sublist _) (.inr (by exact List.nil_sublist _)),?_⟩)),trivial⟩
           · refine Ta.each [4,10] (by kernel_rfl) rfl ⟨TaOp.mk rfl rfl rfl (Or.append (E:=en) (g:=Gl.emp 9 1 bs0) (m:=((a:Nat):Int).toNat-(0:Int).toNat) (new:=strsV (out.take a)) 0 rfl rfl rfl rfl rfl rfl rfl rfl rfl rfl rfl rfl rfl rfl rfl (fun H hs=> hs1.mono hs.base) (strsV_single _) (by show 0+_≤_;omega) rfl (by decide) (fun g1 hn1 hl1=> ⟨S3.mk (by exact List.nil_sublist _) (.inl (by kernel_rfl)),?_⟩)),TaOp.mk rfl rfl rfl (.bs (zz:=fun bs1=> ⟨S3.mk (by exact List.nil_sublist _) (.inr (by exact List.nil_sublist _)),?_⟩)),trivial⟩
             · refine Ta.each [10] (by kernel_rfl) rfl ⟨TaOp.mk rfl rfl rfl (.bs (zz:=fun bs1=> ⟨S3.mk (by exact List.nil_sublist _) (.inl (by kernel_rfl)),?_⟩)),trivial⟩;refine Ta.each [11] (by kernel_rfl) rfl ⟨TaOp.mk rfl rfl rfl (Or.append (E:=en) (g:=g1) (m:=1) (new:= [strV x]) 1 rfl rfl rfl rfl rfl rfl rfl rfl rfl rfl rfl rfl rfl rfl rfl (fun H hs=> SrcAt.of (hs.at_ (bs1,true,.cells ⟨[strV x]⟩ 9 (0,0)) (by exact List.mem_cons_self ..)) (Nat.le_of_ble_eq_true rfl)) rfl (by rw[hn1];show 0+_+1≤_;omega) rfl (by decide) (fun g2 hn2 hl2=> ⟨S3.mk (by exact List.nil_sublist _) (.inl (by kernel_rfl)),?_⟩)),trivial⟩;refine Ta.each [15] (by kernel_rfl) rfl ⟨TaOp.mk rfl rfl rfl (Or.append (E:=en) (g:=g2) (m:=((out.length:Nat):Int).toNat-((a:Nat):Int).toNat) (new:=strsV (out.drop a)) 1 rfl rfl rfl rfl rfl rfl rfl rfl rfl rfl rfl rfl rfl rfl rfl (fun H hs=> hs2.mono hs.base) (strsV_single _) (by rw[hn2,hn1];show 0+_+1+_≤_;omega) rfl (by decide) (fun g3 hn3 hl3=> ⟨S3.mk (by exact List.nil_sublist _) (.inl (by kernel_rfl)),?_⟩)),trivial⟩;refine .ow 16 ?_;refine .dn ?_;exact fin _ _ ⟨g3,⟨by rw[hn3,hn2,hn1];simp only[List.length_append,List.length_take,List.length_drop,List.length_singleton];show 0+_+1+_=_;omega,by rw[hl3,hl2,hl1,strsV_app,strsV_app];rfl⟩,⟨rfl,rfl,rfl,trivial⟩,(by apply List.Sublist.cons;exact List.Sublist.refl _)⟩
             · refine Ta.each [4] (by kernel_rfl) rfl ⟨TaOp.mk rfl rfl rfl (Or.append (E:=en) (g:=Gl.emp 9 1 bs0) (m:=((a:Nat):Int).toNat-(0:Int).toNat) (new:=strsV (out.take a)) 1 rfl rfl rfl rfl rfl rfl rfl rfl rfl rfl rfl rfl rfl rfl rfl (fun H hs=> hs1.mono hs.base) (strsV_single _) (by show 0+_≤_;omega) rfl (by decide) (fun g1 hn1 hl1=> ⟨S3.mk (by exact List.nil_sublist _) (.inl (by kernel_rfl)),?_⟩)),trivial⟩;refine Ta.each [11] (by kernel_rfl) rfl ⟨TaOp.mk rfl rfl rfl (Or.append (E:=en) (g:=g1) (m:=1) (new:= [strV x]) 1 rfl rfl rfl rfl rfl rfl rfl rfl rfl rfl rfl rfl rfl rfl rfl (fun H hs=> SrcAt.of (hs.at_ (bs1,true,.cells ⟨[strV x]⟩ 9 (0,0)) (by exact List.mem_cons_self ..)) (Nat.le_of_ble_eq_true rfl)) rfl (by rw[hn1];show 0+_+1≤_;omega) rfl (by decide) (fun g2 hn2 hl2=> ⟨S3.mk (by exact List.nil_sublist _) (.inl (by kernel_rfl)),?_⟩)),trivial⟩;refine Ta.each [15] (by kernel_rfl) rfl ⟨TaOp.mk rfl rfl rfl (Or.append (E:=en) (g:=g2) (m:=((out.length:Nat):Int).toNat-((a:Nat):Int).toNat) (new:=strsV (out.drop a)) 1 rfl rfl rfl rfl rfl rfl rfl rfl rfl rfl rfl rfl rfl rfl rfl (fun H hs=> hs2.mono hs.base) (strsV_single _) (by rw[hn2,hn1];show 0+_+1+_≤_;omega) rfl (by decide) (fun g3 hn3 hl3=> ⟨S3.mk (by exact List.nil_sublist _) (.inl (by kernel_rfl)),?_⟩)),trivial⟩;refine .ow 16 ?_;refine .dn ?_;exact fin _ _ ⟨g3,⟨by rw[hn3,hn2,hn1];simp only[List.length_append,List.length_take,List.length_drop,List.length_singleton];show 0+_+1+_=_;omega,by rw[hl3,hl2,hl1,strsV_app,strsV_app];rfl⟩,⟨rfl,rfl,rfl,trivial⟩,(by apply List.Sublist.cons;exact List.Sublist.refl _)⟩
           · refine Ta.each [0] (by kernel_rfl) rfl ⟨TaOp.mk rfl rfl rfl (.bs (zz:=fun bs0=> ⟨S3.mk (by exact List.nil_sublist _) (.inr (by exact List.nil_sublist _)),?_⟩)),trivial⟩;refine Ta.each [4] (by kernel_rfl) rfl ⟨TaOp.mk rfl rfl rfl (Or.appendAmid (E:=en) (g:=Gl.emp 9 1 bs0) (m:=((a:Nat):Int).toNat-(0:Int).toNat) (new:=strsV (out.take a)) 0 (fun Bb=> Bb++[(bs1,true,.cells ⟨[strV x]⟩ 9 (0,0))]) (in_one _) rfl rfl rfl rfl rfl rfl rfl rfl rfl rfl rfl rfl rfl rfl rfl (fun H hs=> hs1.mono hs.base) (strsV_single _) (by show 0+_≤_;omega) rfl (by decide) (fun g1 hn1 hl1=> ⟨S3.mk (by exact List.nil_sublist _) (.inl (by kernel_rfl)),?_⟩)),trivial⟩;refine Ta.each [11] (by kernel_rfl) rfl ⟨TaOp.mk rfl rfl rfl (Or.appendAmid (E:=en) (g:=g1) (m:=1) (new:= [strV x]) 0 (fun Bb=> Bb++[(bs1,true,.cells ⟨[strV x]⟩ 9 (0,0))]) (in_one _) rfl rfl rfl rfl rfl rfl rfl rfl rfl rfl rfl rfl rfl rfl rfl (fun H hs=> SrcAt.of (hs.at_ (bs1,true,.cells ⟨[strV x]⟩ 9 (0,0)) (by show _∈g1.bl++[(bs1,true,Obj.cells ⟨[strV x]⟩ 9 (0,0))];exact List.mem_append_right _ (List.mem_singleton.2 rfl))) (Nat.le_of_ble_eq_true rfl)) rfl (by rw[hn1];show 0+_+1≤_;omega) rfl (by decide) (fun g2 hn2 hl2=> ⟨S3.mk (by exact List.nil_sublist _) (.inl (by kernel_rfl)),?_⟩)),trivial⟩;refine Ta.each [15] (by kernel_rfl) rfl ⟨TaOp.mk rfl rfl rfl (Or.appendAmid (E:=en) (g:=g2) (m:=((out.length:Nat):Int).toNat-((a:Nat):Int).toNat) (new:=strsV (out.drop a)) 0 (fun Bb=> Bb++[(bs1,true,.cells ⟨[strV x]⟩ 9 (0,0))]) (in_one _) rfl rfl rfl rfl rfl rfl rfl rfl rfl rfl rfl rfl rfl rfl rfl (fun H hs=> hs2.mono hs.base) (strsV_single _) (by rw[hn2,hn1];show 0+_+1+_≤_;omega) rfl (by decide) (fun g3 hn3 hl3=> ⟨S3.mk (by exact List.nil_sublist _) (.inl (by kernel_rfl)),?_⟩)),trivial⟩;refine .ow 16 ?_;refine .dn ?_;exact fin _ _ ⟨g3,⟨by rw[hn3,hn2,hn1];simp only[List.length_append,List.length_take,List.length_drop,List.length_singleton];show 0+_+1+_=_;omega,by rw[hl3,hl2,hl1,strsV_app,strsV_app];rfl⟩,⟨rfl,rfl,rfl,trivial⟩,(by exact List.sublist_append_left _ _)⟩
   · refine Tc.db (Tc.loopInv (σ:= { a:Nat//a≤out.length∧∀j y,j<a→out[j]? =some y→Op.bytesLess y x=true }) (fun a=> ([(5,.slice (some ⟨eb,eo,none⟩) (k.refEars k.nt).length ec),(6,.slice G out.length gc),(7,.int .i64 (i:Nat)),(8,.int .i64 (a.1:Nat))],[])) (fun a=> out.length-a.1) ?_ ⟨0,Nat.zero_le _,fun j y hj=> absurd hj (Nat.not_lt_zero j)⟩);rintro⟨a,ha1,ha2⟩ ih2;show Tc M St _ _ H₂ _ [(5,.slice (some ⟨eb,eo,none⟩) (k.refEars k.nt).length ec),(6,.slice G out.length gc),(7,.int .i64 (i:Nat)),(8,.int .i64 (a:Nat))] [] _ _;by_cases d1:a=out.length
     · subst d1;refine U2 ?_;refine Tc.dr [] [] mixed rfl ?_;refine .nn 0 ?_;refine .nn 1 ?_;refine .nn 2 ?_;refine .nn 3 ?_;refine .nn 4 ?_;refine .nw 5 ?_;refine .nw 6 ?_;refine .nw 7 ?_;refine .nw 8 ?_;refine .nw 9 ?_;refine .nw 10 ?_;refine .nw 11 ?_;refine .nw 12 ?_;refine .nw 13 ?_;refine .nw 14 ?_;refine .nn 15 ?_;refine .dn ?_;refine U2 ?_;exact fin _ _ ⟨out.length,Nat.le_refl _,ha2,fun y hy=> (by rw[List.getElem?_eq_none (Nat.le_refl _)] at hy;cases hy),⟨rfl,rfl,rfl,rfl,trivial⟩⟩
     · have d2:a<out.length:=by omega
       obtain⟨b,o,f,gs,gt,gz,y,rfl,hb,hy,f1⟩:=hlt a d2 hst;cases q:Op.bytesLess y x with
       | true=>
         have f3:RL.strB .lss y x=some (.bool true):=by show some (Value.bool (Op.bytesLess y x))=_;rw[q]
         refine U2 ?_;refine Tc.dr [] [] mixed rfl ?_;refine .nn 0 ?_;refine .nn 1 ?_;refine .nn 2 ?_;refine .nn 3 ?_;refine .nn 4 ?_;refine .nn 5 ?_;refine .nn 6 ?_;refine .nn 7 ?_;refine .nn 8 ?_;refine .nn 9 ?_;refine .nn 10 ?_;refine .nn 11 ?_;refine .nn 12 ?_;refine .nn 13 ?_;refine .nn 14 ?_;refine .nn 15 ?_;refine .dn ?_;refine U9 ?_;exact Tc.db (ih2 ⟨a+1,by omega,fun j z hj hz=> by
           by_cases e:j=a
           · subst e;rw[hy] at hz;cases hz
             exact q
           · exact ha2 j z (by omega) hz⟩ (by simp only;omega))
       | false=>
         have f3:RL.strB .lss y x=some (.bool false):=by show some (Value.bool (Op.bytesLess y x))=_;rw[q]
         refine U2 ?_;refine Tc.dr [] [] mixed rfl ?_;refine .nn 0 ?_;refine .nn 1 ?_;refine .nn 2 ?_;refine .nn 3 ?_;refine .nn 4 ?_;refine .nn 5 ?_;refine .nn 6 ?_;refine .nn 7 ?_;refine .nn 8 ?_;refine .nn 9 ?_;refine .nn 10 ?_;refine .nn 11 ?_;refine .nn 12 ?_;refine .nn 13 ?_;refine .nn 14 ?_;refine .nn 15 ?_;refine .dn ?_;refine U2 ?_;exact fin _ _ ⟨a,ha1,ha2,fun z hz=> (by rw[hy] at hz;cases hz;exact q),⟨rfl,rfl,rfl,rfl,trivial⟩⟩
end
def notOf(f:Int):Int:=if f=0 then 0 else if f=1 then 2 else 1
def allC(x:Nat→Int):Nat→Int
 | 0=> 1
 | n+1=> andOf (allC x n) (x n)
theorem allC_never {x:Nat→Int}{n j:Nat}(hj:j<n)(h:x j=2):allC x n=2:=by
 induction n with
 | zero=> omega
 | succ n ih=>
   unfold allC andOf;by_cases e:j=n
   · subst e;rw[if_pos (.inr h)]
   · rw[if_pos (.inl (ih (by omega)))]
theorem allC_congr {x y:Nat→Int}:∀n,(∀i,i<n→x i=y i)→allC x n=allC y n
 | 0,_=> rfl
 | n+1,h=> by unfold allC;rw[allC_congr n fun i hi=> h i (by omega),h n (by omega)]
theorem andOf_one(z:Int):andOf 1 z=z:=by unfold andOf;split <;> simp_all
def needC(k:Bk)(line:Nat):Nat→Int
 | 0=> k.claimOf (line:Nat)
 | i+1=> notOf (k.free line i)
theorem need_all {k:Bk}{line:Nat}:∀i,allC (needC k line) (i+1)=k.needTo line i
 | 0=> andOf_one _
 | i+1=> by
   have ih:=need_all (k:=k) (line:=line) i;show andOf (allC (needC k line) (i+1)) (notOf (k.free line i))=_;rw[ih];rfl
theorem taken_all {k:Bk}{line i:Nat}:allC (fun j=> if j=i+1 then k.free line i else needC k line j) (i+2)=k.takenAt line i:=by
 show andOf (allC (fun j=> if j=i+1 then k.free line i else needC k line j) (i+1)) (if i+1=i+1 then k.free line i else needC k line (i+1))=_;rw[allC_congr (y:=needC k line) _ fun j hj=> if_neg (by omega),need_all,if_pos rfl];rfl
section
variable(M:Md prog)(H:View)
theorem ReachesR_alarm(k:Bk)(A:Option Addr)(lc:Nat)(B:Option Addr)(tc:Nat)(hk:BkAt H k A lc B tc)(hn:k.small)(hnm:∀i,i<k.nl→(k.name i).length≤1000000)(ha:k.alarm≠0):
   CallT M 27 #[k.val A lc B tc] H (fun v H'=> H.le H'∧v=noneV k.alarm):=by
 have hchk:=fun(H':View) (h:H.le H')=> refCheckBook_c M H' k A lc B tc (hk.le h) hn hnm;generalize k.alarm=al at ha hchk ⊢;refine .en func27 ntmps27 fun St c cs hK=> ?_;refine U2 ?_;refine .bo fun b1=> ?_;refine U8 ?_;refine .c rfl rfl rfl rfl (fun H hs=> .h (hchk H hs.base)) ?_;refine U15 ?_;refine .rt hK func27 results27 [_,_,_] ?_;exact okB
theorem ReachesR_c(k:Bk)(A:Option Addr)(lc:Nat)(B:Option Addr)(tc:Nat)(hk:BkAt H k A lc B tc)(hn:k.small)(hnm:∀i,i<k.nl→(k.name i).length≤1000000)(ha:k.alarm=0):
   CallT M 27 #[k.val A lc B tc] H (fun v H'=> H.le H'∧∃(G:Option Addr) (c:Nat),v=.tuple ⟨[.slice G k.nl c,.int .i64 (k.claimOf (-1)),.int .i64 0]⟩∧FreeAt H' G k.nl (fun i=> k.claimOf (i:Nat))):=by
 obtain⟨hgg,hnl,hnt,hok⟩:=Bk.valid ha;have hchk:=fun(H':View) (h:H.le H')=> isV (refCheckBook_c M H' k A lc B tc (hk.le h) hn hnm) (w':=.int .i64 0) (by rw[ha]);refine .en func27 ntmps27 fun St c cs hK=> ?_;refine U2 ?_;refine .bo fun b1=> ?_;refine U8 ?_;refine .c rfl rfl rfl rfl (fun H hs=> .h (hchk H hs.base)) ?_;refine U12 ?_;refine To.callF rfl rfl rfl rfl rfl rfl (by decide) (FnT.h (Results_c M H k A lc B tc hk ha)) (fun v H₂ hv=> ?_);obtain⟨hle,G,gc,rfl,hG⟩:=hv;have hcl:=fun(H':View) (h:H₂.le H') z=> claimR_c M H' k ha G gc (hG.le h) z;generalize (k.refRes (k.nl+1)).length=rn at hcl ⊢;refine U12 ?_;refine Tc.db (Tc.loopInv (σ:= { x:Nat×Gl 38 1//x.1≤k.nl∧x.2.n=x.1∧x.2.l=clL (fun i=> k.claimOf (i:Nat)) x.1 }) (fun x=> ([(1,.pointer (some ⟨b1,0,none⟩)),(6,.slice G rn gc),(7,x.1.2.val),(8,.int .i64 (x.1.1:Nat))],[(b1,true,.cells ⟨(k.val A lc B tc).cells.toList⟩ 25 (0,0))]++x.1.2.bl)) (fun x=> k.nl-x.1.1) ?_ ⟨(0,Gl.nil 38 1),Nat.zero_le _,rfl,rfl⟩);rintro⟨⟨j,g⟩,hj,hgn,hgl⟩ ih;simp only at hj hgn hgl;show Tc M St _ _ H₂ _ [(1,.pointer (some ⟨b1,0,none⟩)),(6,.slice G rn gc),(7,g.val),(8,.int .i64 (j:Nat))] ([(b1,true,.cells ⟨(k.val A lc B tc).cells.toList⟩ 25 (0,0))]++g.bl) _ _;by_cases c1:j=k.nl
 · clear ih;subst c1;refine U15 ?_;refine .c rfl rfl rfl rfl (fun H hs=> .h (hcl H hs.base (-1))) ?_;refine U4 ?_;refine .rt hK func27 results27 [_,_,_] ?_;exact fun H' hs=> ⟨View.le_trans hle hs.base,g.blk.map fun b=> ⟨b,0,none⟩,g.cap,by rw[←hgn];rfl,cl_at g (fun x hx=> hs.at_ x (by simp[hx])) hgl hgn⟩
 · have c2:j<k.nl:=by omega
   refine U17 ?_;refine .c rfl rfl rfl rfl (fun H hs=> .h (hcl H hs.base (j:Nat))) ?_;refine .e (.bs (zz:=fun bs=> ?_));refine .e (Or.append (E:=en) 2 rfl rfl rfl rfl rfl rfl rfl rfl rfl rfl rfl rfl rfl rfl rfl (fun H hs=> SrcAt.of (hs.get (i:=0) rfl) (Nat.le_of_ble_eq_true rfl)) rfl (by omega) rfl (by decide) (fun g2 hn2 hl2=> ?_));refine U8 ?_;exact Tc.db (ih ⟨(j+1,g2),by simp only;omega,by simp only;omega,by simp only;rw[hl2,hgl,clL_succ];rfl⟩ (by simp only;omega))
theorem allR_c(F:Option Addr)(n fc:Nat)(x:Nat→Int)(hF:FreeAt H F n x)(hn:n≤1000)(hx:∀i,i<n→0≤x i∧x i≤2)(w:Int)(hw:allC x n=w):
   CallT M 99 #[.slice F n fc] H (fun v H'=> H.le H'∧v=.int .i64 w):=by
 refine .en func99 ntmps99 fun St c cs hK=> ?_;refine U14 ?_;refine Tc.db (Tc.loopInv (σ:= { j:Nat//j≤n∧∀i,i<j→x i≠2 }) (fun j=> ([(0,.slice F n fc),(3,.int .i64 (allC x j.1)),(4,.int .i64 (j.1:Nat))],[])) (fun j=> n-j.1) ?_ ⟨0,Nat.zero_le _,fun i hi=> by omega⟩);rintro⟨j,hj,hno⟩ ih;show Tc M St _ _ _ _ [(0,.slice F n fc),(3,.int .i64 (allC x j)),(4,.int .i64 (j:Nat))] [] _ _;by_cases c1:j=n
 · subst c1;subst hw;clear ih;refine U15 ?_;refine .rt hK func99 results99 [_] ?_;exact okB
 · have c2 :j<n:=by omega
   obtain h0|⟨ab,ao,f,gs,gt,gz,rfl,hb,hl⟩:=hF
   · omega
   have f1:=hl j c2;have hxj:=hx j c2;by_cases c3:x j=2
   · rw[allC_never c2 c3] at hw;subst hw;rw[c3] at f1;refine U26 ?_;refine .rt hK func99 results99 [_] ?_;exact okB
   · have hne:allC x j≠2:=by
       clear ih f1;have:∀m,m≤j→allC x m≠2:=by
         intro m hm;induction m with
         | zero=> exact(by decide:(1:Int)≠2)
         | succ m ihm=>
           have h1:=ihm (by omega);have h2:=hno m (by omega);unfold allC andOf;rw[if_neg (by omega)];split
           · exact h2
           · decide
       exact this j (Nat.le_refl _)
     have hin:allC x j=0∨allC x j=1:=by
       clear ih f1;have:∀m,m≤j→allC x m=0∨allC x m=1:=by
         intro m hm;induction m with
         | zero=> exact .inr rfl
         | succ m ihm=>
           have h1:=ihm (by omega);have h2:=hno m (by omega);have h3:=hx m (by omega);unfold allC andOf;rw[if_neg (by omega)];split
           · omega
           · exact .inl rfl
       exact this j (Nat.le_refl _)
     have hih:=ih ⟨j+1,by omega,fun i hi=> by
       by_cases e:i=j
       · subst e;exact c3
       · exact hno i (by omega)⟩ (by simp only;omega)
     by_cases c4:x j=0
     · have e:allC x (j+1)=0:=by
         show andOf (allC x j) (x j)=0;unfold andOf;rw[if_neg (by omega),c4];split <;> rfl
       simp only[e] at hih;rw[c4] at f1;refine U41 ?_;exact Tc.db (hih)
     · have e:allC x (j+1)=allC x j:=by
         have:x j=1:=by omega
         show andOf (allC x j) (x j)=allC x j;unfold andOf;rw[if_neg (by omega),this];rcases hin with h|h
         · rw[if_neg (by omega),h]
         · rw[if_pos h,h]
       simp only[e] at hih;refine U39 ?_;exact Tc.db (hih)
theorem notR_c(f:Int)(hf:0≤f∧f≤2):CallT M 100 #[.int .i64 f] H (fun v H'=> H.le H'∧v=.int .i64 (notOf f)):=by
 rcases(by omega:f=0∨f=1∨f=2) with rfl|rfl|rfl
 · refine .en func100 ntmps100 fun St c cs hK=> ?_;refine U28 ?_;refine .rt hK func100 results100 [_] ?_;exact okB
 · refine .en func100 ntmps100 fun St c cs hK=> ?_;refine U20 ?_;refine .rt hK func100 results100 [_] ?_;exact okB
 · refine .en func100 ntmps100 fun St c cs hK=> ?_;refine U26 ?_;refine .rt hK func100 results100 [_] ?_;exact okB
end
theorem clL_congr {f g:Nat→Int}{n:Nat}(h:∀i,i<n→f i=g i):clL f n=clL g n:=by
 unfold clL;exact List.map_congr_left fun i hi=> by rw[h i (List.mem_range.1 hi)]
section
variable(M:Md prog)(H:View)
theorem TakenR_alarm(k:Bk)(A:Option Addr)(lc:Nat)(B:Option Addr)(tc:Nat)(hk:BkAt H k A lc B tc)(hn:k.small)(hnm:∀i,i<k.nl→(k.name i).length≤1000000)(ha:k.alarm≠0)(line:Int):
   CallT M 30 #[k.val A lc B tc,.int .i64 line] H (fun v H'=> H.le H'∧v=noneV k.alarm):=by
 have hchk:=fun(H':View) (h:H.le H')=> refCheckBook_c M H' k A lc B tc (hk.le h) hn hnm;generalize k.alarm=al at ha hchk ⊢;refine .en func30 ntmps30 fun St c cs hK=> ?_;refine U2 ?_;refine .bo fun b2=> ?_;refine U8 ?_;refine .c rfl rfl rfl rfl (fun H hs=> .h (hchk H hs.base)) ?_;refine U15 ?_;refine .rt hK func30 results30 [_,_,_] ?_;exact okB
theorem TakenR_absent(k:Bk)(A:Option Addr)(lc:Nat)(B:Option Addr)(tc:Nat)(hk:BkAt H k A lc B tc)(hn:k.small)(hnm:∀i,i<k.nl→(k.name i).length≤1000000)(ha:k.alarm=0)(line:Int)(hl:¬(0≤line∧line≤(k.nl:Int)-1)):
   CallT M 30 #[k.val A lc B tc,.int .i64 line] H (fun v H'=> H.le H'∧v=noneV 6):=by
 have hnl:=hn.nl;have hchk:=fun(H':View) (h:H.le H')=> isV (refCheckBook_c M H' k A lc B tc (hk.le h) hn hnm) (w':=.int .i64 0) (by rw[ha]);refine .en func30 ntmps30 fun St c cs hK=> ?_;refine U2 ?_;refine .bo fun b2=> ?_;refine U8 ?_;refine .c rfl rfl rfl rfl (fun H hs=> .h (hchk H hs.base)) ?_;refine U17 ?_;refine .c rfl rfl rfl rfl (fun H hs=> .h (In_c M H line 0 ((k.nl:Int)-1) false (decide_eq_false hl))) ?_;refine U9 ?_;refine .rt hK func30 results30 [_,_,_] ?_;exact okB
theorem TakenR_c(k:Bk)(A:Option Addr)(lc:Nat)(B:Option Addr)(tc:Nat)(hk:BkAt H k A lc B tc)(hn:k.small)(hnm:∀i,i<k.nl→(k.name i).length≤1000000)(ha:k.alarm=0)(line:Nat)(hl:line<k.nl):
   CallT M 30 #[k.val A lc B tc,.int .i64 (line:Nat)] H (fun v H'=> H.le H'∧∃(G:Option Addr) (c:Nat),v=.tuple ⟨[.slice G (k.nf line) c,.int .i64 (k.needTo line (k.nf line)),.int .i64 0]⟩∧FreeAt H' G (k.nf line) (k.takenAt line)):=by
 obtain⟨hgg,hnl,hnt,hok⟩:=Bk.valid ha;obtain⟨_,_,_,_,hnf,hfr⟩:=Bk.line_ok ha hl;have hchk:=fun(H':View) (h:H.le H')=> isV (refCheckBook_c M H' k A lc B tc (hk.le h) hn hnm) (w':=.int .i64 0) (by rw[ha]);obtain⟨_,h0|⟨ab,ao,fa,gs,gt,gz,rfl,hab,hrow⟩⟩:=hk.rows
 · omega
 obtain⟨F,fc,f1,hfc,hF⟩:=hrow line hl;have f3:ldL false 1 gs (ao+((line:Nat):Int).toNat*3+2)=some (.slice F (k.nf line) fc):=ldL_cell f1 (by decide);have hcin:=k.claimOf_in (line:Nat);have hnc:∀j,j<k.nf line+1→0≤needC k line j∧needC k line j≤2:=fun j hj=> by
   rcases j with _|j
   · exact hcin
   · have:=hfr j (by omega);show 0≤notOf (k.free line j)∧notOf (k.free line j)≤2;unfold notOf;split
     · omega
     · split <;> omega
 refine .en func30 ntmps30 fun St c cs hK=> ?_;refine U2 ?_;refine .bo fun b2=> ?_;refine U8 ?_;refine .c rfl rfl rfl rfl (fun H hs=> .h (hchk H hs.base)) ?_;refine U17 ?_;refine .c rfl rfl rfl rfl (fun H hs=> .h (In_c M H (line:Nat) 0 ((k.nl:Int)-1) true (decide_eq_true (by omega)))) ?_;refine U7 ?_;refine To.callF rfl rfl rfl rfl rfl rfl (by decide) (FnT.h (Results_c M H k (some ⟨ab,ao,none⟩) lc B tc hk ha)) (fun v H₂ hv=> ?_);obtain⟨hle,G,gc,rfl,hG⟩:=hv;have hcl:=fun(H':View) (h:H₂.le H') z=> claimR_c M H' k ha G gc (hG.le h) z;generalize (k.refRes (k.nl+1)).length=rn at hcl ⊢;refine U ?_;refine .c rfl rfl rfl rfl (fun H hs=> .h (hcl H hs.base (line:Nat))) ?_;refine .e (.bs (zz:=fun b28=> ?_));refine U12 ?_;refine Tc.absorb [(b28,true,.cells ⟨[.int .i64 (k.claimOf (line:Nat))]⟩ 38 (0,0))] [(b2,true,.cells ⟨(k.val (some ⟨ab,ao,none⟩) lc B tc).cells.toList⟩ 25 (0,0))] (List.Perm.refl _) (fun H₃ hle3 hb3=> ?_);have hb2:H₃ b2=some (true,.cells ⟨(k.val (some ⟨ab,ao,none⟩) lc B tc).cells.toList⟩ 25 (0,0)):=hb3 (b2,true,.cells ⟨(k.val (some ⟨ab,ao,none⟩) lc B tc).cells.toList⟩ 25 (0,0)) (List.mem_singleton.2 rfl);have hH3:=View.le_trans hle hle3;have hab3:=hH3 _ _ hab;have hF3:=hF.le hH3;refine Tc.db (Tc.loopInv (σ:= { x:Nat×Gl 38 1×Gl 38 1//x.1≤k.nf line∧(x.2.1.n=x.1+1∧x.2.1.l=clL (needC k line) (x.1+1))∧(x.2.2.n=x.1∧x.2.2.l=clL (k.takenAt line) x.1) }) (fun x=> ([(1,.int .i64 (line:Nat)),(2,.pointer (some ⟨b2,0,none⟩)),(8,x.1.2.1.val),(9,x.1.2.2.val),(10,.int .i64 (x.1.1:Nat))],x.1.2.1.bl++x.1.2.2.bl)) (fun x=> k.nf line-x.1.1) ?_ ⟨(0,⟨some b28,1,1,[.int .i64 (k.claimOf (line:Nat))],[],rfl,Nat.le_refl _,rfl,fun h=> (nomatch h)⟩,Gl.nil 38 1),Nat.zero_le _,⟨rfl,rfl⟩,⟨rfl,rfl⟩⟩);rintro⟨⟨i,gn,go⟩,hi,⟨hnn,hnl2⟩,⟨hon,hol⟩⟩ ih;simp only at hi hnn hnl2 hon hol;show Tc M St _ _ H₃ _ [(1,.int .i64 (line:Nat)),(2,.pointer (some ⟨b2,0,none⟩)),(8,gn.val),(9,go.val),(10,.int .i64 (i:Nat))] (gn.bl++go.bl) _ _;have hgnv:gn.val=.slice (gn.blk.map fun b=> ⟨b,0,none⟩) (i+1) gn.cap:=by unfold Gl.val;rw[hnn]
 have hgnf:∀H':View,(∀y∈gn.bl,H' y.1=some y.2)→FreeAt H' (gn.blk.map fun b=> ⟨b,0,none⟩) (i+1) (needC k line):=fun H' h=> cl_at gn h hnl2 hnn;by_cases c1:i=k.nf line
 · clear ih;subst c1;have hall:=fun(H':View) (h:∀y∈gn.bl,H' y.1=some y.2)=> allR_c M H' (gn.blk.map fun b=> ⟨b,0,none⟩) (k.nf line+1) gn.cap (needC k line) (hgnf H' h) (by omega) hnc _ (need_all (k.nf line));rw[←hgnv] at hall;refine U19 ?_;refine .c rfl rfl rfl rfl (fun H hs=> .h (hall H (fun y hy=> hs.at_ y (by simp[hy])))) ?_;refine U4 ?_;refine .rt hK func30 results30 [_,_,_] ?_;exact fun H' hs=> ⟨View.le_trans hH3 hs.base,go.blk.map fun b=> ⟨b,0,none⟩,go.cap,by rw[←hon];rfl,cl_at go (fun x hx=> hs.at_ x (by simp[hx])) hol hon⟩
 · have c2:i<k.nf line:=by omega
   obtain hz|⟨fb,fo,ff,fs,ft,fz,rfl,hfb,hfl⟩:=hF3
   · omega
   have f4:=hfl i c2;have hfi:=hfr i c2;have hns:∀H':View,(∀y∈gn.bl,H' y.1=some y.2)→SrcAt H' 1 gn.val (i+1) (clL (needC k line) (i+1)):=fun H' h=> by
     have h2:=gn.src h;rw[hnn,hnl2] at h2;exact h2
   refine U33 ?_;refine .e (.bs (zz:=fun bs0=> ?_));refine U ?_;refine .e (Or.appendAmid (E:=en) (g:=Gl.emp 38 1 bs0) (m:=i+1) (new:=clL (needC k line) (i+1)) (yv:=gn.val) 0 (fun Bb=> Bb++(gn.bl++go.bl)) (in_one _) rfl rfl rfl rfl rfl rfl rfl rfl rfl rfl rfl rfl rfl rfl rfl (fun H hs=> hns H (fun y hy=> hs.at_ y (by simp[hy]))) (clL_single _ _) (by show 0+(i+1)≤_;omega) rfl (by decide) (fun g1 hn1 hl1=> ?_));refine U ?_;refine .e (.bs (zz:=fun bs1=> ?_));refine .e (Or.appendAmid (E:=en) (g:=g1) (m:=1) (new:= [.int .i64 (k.free line i)]) (yv:=.slice (some ⟨bs1,0,none⟩) 1 1) 1 (fun Bb=> Bb++(gn.bl++go.bl)) (in_one _) rfl rfl rfl rfl rfl rfl rfl rfl rfl rfl rfl rfl rfl rfl rfl (fun H hs=> SrcAt.of (hs.get (i:=0) rfl) (Nat.le_of_ble_eq_true rfl)) rfl (by rw[hn1];show 0+(i+1)+1≤_;omega) rfl (by decide) (fun g2 hn2 hl2=> ?_));have hg2n:g2.n=i+2:=by rw[hn2,hn1];show 0+(i+1)+1=_;omega
   have hg2l:g2.l=clL (fun j=> if j=i+1 then k.free line i else needC k line j) (i+2):=by
     have e:clL (fun j=> if j=i+1 then k.free line i else needC k line j) (i+1+1)=clL (needC k line) (i+1)++[.int .i64 (k.free line i)]:=by
       rw[clL_succ]
       congr 1
       · exact clL_congr fun j hj=> if_neg (by omega)
       · show [Value.int .i64 (if i+1=i+1 then k.free line i else needC k line (i+1))]=_;rw[if_pos rfl]
     rw[hl2,hl1];exact e.symm
   have hg2v:g2.val=.slice (g2.blk.map fun b=> ⟨b,0,none⟩) (i+2) g2.cap:=by unfold Gl.val;rw[hg2n]
   have hall:=fun(H':View) (h:∀y∈g2.bl,H' y.1=some y.2)=> allR_c M H' (g2.blk.map fun b=> ⟨b,0,none⟩) (i+2) g2.cap (fun j=> if j=i+1 then k.free line i else needC k line j) (cl_at g2 h hg2l hg2n) (by omega) (fun j hj=> by
     by_cases e:j=i+1
     · rw[if_pos e];exact hfi
     · rw[if_neg e];exact hnc j (by omega)) _ taken_all
   rw[←hg2v] at hall;refine .c rfl rfl rfl rfl (fun H hs=> .h (hall H (fun y hy=> hs.at_ y (by simp[hy])))) ?_;refine .e (.bs (zz:=fun bs2=> ?_));refine .e (Or.appendAmid (E:=en) (g:=go) (m:=1) (new:= [.int .i64 (k.takenAt line i)]) (yv:=.slice (some ⟨bs2,0,none⟩) 1 1) 2 (fun Bb=> g2.bl++(gn.bl++Bb)) (in_last _ _) rfl rfl rfl rfl rfl rfl rfl rfl rfl rfl rfl rfl rfl rfl rfl (fun H hs=> SrcAt.of (hs.get (i:=0) rfl) (Nat.le_of_ble_eq_true rfl)) rfl (by omega) rfl (by decide) (fun go2 hn3 hl3=> ?_));refine U2 ?_;refine Tc.dropB (R':= [(1,.int .i64 (line:Nat)),(2,.pointer (some ⟨b2,0,none⟩)),(8,gn.val),(9,go2.val),(10,.int .i64 (i:Nat)),(11,.int .i64 (k.free line i))]) (L':=gn.bl++go2.bl) ?_ ⟨rfl,rfl,rfl,rfl,rfl,rfl,trivial⟩ (((List.sublist_append_right _ _).cons _).cons _);have hnot:=fun(H':View)=> notR_c M H' (k.free line i) hfi;refine U3 ?_;refine .c rfl rfl rfl rfl (fun H hs=> .h (hnot H)) ?_;refine .e (.bs (zz:=fun bs3=> ?_));refine .e (Or.appendAmid (E:=en) (g:=gn) (m:=1) (new:= [.int .i64 (notOf (k.free line i))]) (yv:=.slice (some ⟨bs3,0,none⟩) 1 1) 1 (fun Bb=> Bb++go2.bl) (in_one _) rfl rfl rfl rfl rfl rfl rfl rfl rfl rfl rfl rfl rfl rfl rfl (fun H hs=> SrcAt.of (hs.get (i:=0) rfl) (Nat.le_of_ble_eq_true rfl)) rfl (by omega) rfl (by decide) (fun gn2 hn4 hl4=> ?_));refine U8 ?_;exact Tc.db (ih ⟨(i+1,gn2,go2),by simp only;omega,⟨by simp only;omega,by simp only;rw[hl4,hnl2];exact(clL_succ (needC k line) (i+1)).symm⟩,⟨by simp only;omega,by simp only;rw[hl3,hol,clL_succ]⟩⟩ (by simp only;omega))
end
theorem follow_ex(k:Bk)(np nq:Nat)(p q:Nat→Int):∃s z a,k.followV np nq p q=follow3 s z a:=by
 unfold Bk.followV;split
 · exact⟨_,_,_,rfl⟩
 · split
   · exact⟨_,_,_,rfl⟩
   · split <;> exact⟨_,_,_,rfl⟩
section
variable(M:Md prog)(H:View)
theorem FollowR_c(k:Bk)(A:Option Addr)(lc:Nat)(B:Option Addr)(tc:Nat)(hk:BkAt H k A lc B tc)(hn:k.small)(hnm:∀i,i<k.nl→(k.name i).length≤1000000)(P Q0:Option Addr)(np nq pc qc:Nat)(p q:Nat→Int)(hP:FreeAt H P np p)(hQ:FreeAt H Q0 nq q):
   CallT M 20 #[k.val A lc B tc,.slice P np pc,.slice Q0 nq qc] H (fun v H'=> H.le H'∧v=k.followV np nq p q):=by
 by_cases ha:k.alarm=0
 · have hchk :=fun(H':View) (h:H.le H')=> isV (refCheckBook_c M H' k A lc B tc (hk.le h) hn hnm) (w':=.int .i64 0) (by rw[ha]);by_cases c1:np=k.nt
   · by_cases c2:nq=k.nt
     · obtain⟨_,hnl,hnt,hok⟩:=Bk.valid ha;have ev:k.followV np nq p q=if(firstTo (fun i=> !k.inAt p q i) k.nt).isSome then follow3 [] 0 1 else follow3 (k.earTo p q k.nt).heard (firstI (k.line (k.earTo p q k.nt).heard)) 0:=by
         unfold Bk.followV;rw[if_neg (by simp[ha]),if_neg (by simp[c1,c2])]
       rw[ev];clear ev;subst c1;subst c2;refine .en func20 ntmps20 fun St c cs hK=> ?_;refine U2 ?_;refine .bo fun b3=> ?_;refine U8 ?_;refine .c rfl rfl rfl rfl (fun H hs=> .h (hchk H hs.base)) ?_;refine U32 ?_;refine .al fun b10=> ?_;refine U8 ?_;refine Tc.db (Tc.loopInv (σ:= { j:Nat//j≤k.nt∧firstTo (fun i=> !k.inAt p q i) j=none }) (fun j=> ([(1,.slice P k.nt pc),(2,.slice Q0 k.nt qc),(3,.pointer (some ⟨b3,0,none⟩)),(10,.pointer (some ⟨b10,0,none⟩)),(11,.int .i64 (j.1:Nat))],[(b10,true,.cells ⟨[strV (k.earTo p q j.1).heard,.int .i64 ((k.earTo p q j.1).pend:Nat),.bool (k.earTo p q j.1).deaf]⟩ 122 (0,0)),(b3,true,.cells ⟨(k.val A lc B tc).cells.toList⟩ 25 (0,0))])) (fun j=> k.nt-j.1) ?_ ⟨0,Nat.zero_le _,rfl⟩);rintro⟨j,hj,hno⟩ ih;show Tc M St _ _ _ _ [(1,.slice P k.nt pc),(2,.slice Q0 k.nt qc),(3,.pointer (some ⟨b3,0,none⟩)),(10,.pointer (some ⟨b10,0,none⟩)),(11,.int .i64 (j:Nat))] [(b10,true,.cells ⟨[strV (k.earTo p q j).heard,.int .i64 ((k.earTo p q j).pend:Nat),.bool (k.earTo p q j).deaf]⟩ 122 (0,0)),(b3,true,.cells ⟨(k.val A lc B tc).cells.toList⟩ 25 (0,0))] _ _;have hbd:=Bk.earTo_bd hok (p:=p) (q:=q) hj (fun i hi=> by have:=(firstTo_none _).1 hno i hi;simpa using this);by_cases d1:j=k.nt
       · subst d1;rw[hno] at hK;clear ih;have hlo:=fun(H':View) (h:H.le H')=> LineOf_c M H' k A lc B tc (hk.rows.le h) (by omega) (k.earTo p q k.nt).heard;have hK':∀v H',H.le H'∧v=follow3 (k.earTo p q k.nt).heard (firstI (k.line (k.earTo p q k.nt).heard)) 0→RL.T M St H' (Conc.G (c.finish v) cs):=hK;clear hK;generalize firstI (k.line (k.earTo p q k.nt).heard)=z at hlo hK';generalize k.earTo p q k.nt=e at hlo hK' hbd ⊢;have hK:=hK';refine U12 ?_;refine Tc.dr [] [] mixed rfl ?_;refine .nn 0 ?_;refine .nn 1 ?_;refine .nn 2 ?_;refine .nn 3 ?_;refine .nn 4 ?_;refine .z 5 rfl (OpV.takeCall rfl rfl rfl rfl (fun H hs=> .h (hlo H hs.base))) ?_;refine .nn 6 ?_;refine .nn 7 ?_;refine .nn 8 ?_;refine .dn ?_;refine .rt hK func20 results20 [_,_,_] ?_;exact okB
       · have d2:j<k.nt:=by omega
         obtain h0|⟨pb,po,pf,ps,pt,pz,rfl,hpb,hpl⟩:=hP
         · omega
         obtain h0|⟨qb,qo,qf,qs,qt,qz,rfl,hqb,hql⟩:=hQ
         · omega
         obtain⟨htc,h0|⟨tb,to,tf,ts,tt,tz,rfl,htb,htl⟩⟩:=hk.trains
         · omega
         have f1:=htl j d2;have f2:=hpl j d2;have f3:=hql j d2;have hti:=k.train_in hok d2;have hin:k.inAt p q j=(decide (k.pf j≤p j∧p j≤k.pt j)&&decide (k.qf j≤q j∧q j≤k.qt j)):=rfl;have hsome:k.inAt p q j=false→(firstTo (fun i=> !k.inAt p q i) k.nt).isSome=true:=fun h=> by
           rw[firstTo_stays (p:=fun i=> !k.inAt p q i) (j:=j+1) (x:=j) (by rw[firstTo,hno];simp[h]) _ (by omega)];rfl
         by_cases d3:k.pf j≤p j∧p j≤k.pt j
         · by_cases d4:k.qf j≤q j∧q j≤k.qt j
           · have hin2:k.inAt p q j=true:=by rw[hin,decide_eq_true d3,decide_eq_true d4];rfl
             have hih:=ih ⟨j+1,by omega,by rw[firstTo,hno];simp[hin2]⟩ (by simp only;omega);have hear:k.earTo p q (j+1)=(k.earTo p q j).hear (p j).toNat (k.kind (q j)):=rfl;simp only[hear] at hih;obtain⟨pn,hpn⟩:∃pn:Nat,p j=(pn:Nat):=⟨(p j).toNat,by omega⟩
             have hi1:=fun(H':View)=> In_c M H' (p j) (k.pf j) (k.pt j) true (decide_eq_true d3);have hi2:=fun(H':View)=> In_c M H' (q j) (k.qf j) (k.qt j) true (decide_eq_true d4);rw[hpn] at f2 hi1 hih d3;rw[Int.toNat_natCast] at hih;have hhr:=fun(H':View)=> HearR_c M H' k A lc (some ⟨tb,to,none⟩) tc (k.earTo p q j) pn (q j) (by omega) (by omega) (by omega);generalize k.earTo p q j=e at hih hhr hbd ⊢;clear ih;refine U20 ?_;refine .al fun b12=> ?_;refine U4 ?_;refine Tc.dr [] [] mixed rfl ?_;refine .nn 0 ?_;refine .nn 1 ?_;refine .nn 2 ?_;refine .nn 3 ?_;refine .nn 4 ?_;refine .nn 5 ?_;refine .nn 6 ?_;refine .nn 7 ?_;refine .nn 8 ?_;refine .nn 9 ?_;refine .z 10 rfl (OpV.takeCall rfl rfl rfl rfl (fun H hs=> .h (hi1 H))) ?_;refine .nn 11 ?_;refine .nn 12 ?_;refine .nn 13 ?_;refine .nn 14 ?_;refine .nn 15 ?_;refine .nn 16 ?_;refine .nn 17 ?_;refine .nn 18 ?_;refine .nn 19 ?_;refine .nn 20 ?_;refine .nn 21 ?_;refine .nn 22 ?_;refine .z 23 rfl (OpV.takeCall rfl rfl rfl rfl (fun H hs=> .h (hi2 H))) ?_;refine .nn 24 ?_;refine .nn 25 ?_;refine .dn ?_;refine U2 ?_;refine Tc.dr [11] [1] mixed rfl ?_;refine .nn 0 ?_;refine .nn 1 ?_;refine .nn 2 ?_;refine .nn 3 ?_;refine .nn 4 ?_;refine .nn 5 ?_;refine .nn 6 ?_;refine .nn 7 ?_;refine .nn 8 ?_;refine .nn 9 ?_;refine .z 10 rfl (OpV.takeCall rfl rfl rfl rfl (fun H hs=> .h (hhr H))) ?_;refine .e 11 1 ?_;refine .dn ?_;refine U6 ?_;exact Tc.db (hih)
           · have hs2:=hsome (by rw[hin,decide_eq_false d4];simp);rw[hs2] at hK;have hK':∀v H',H.le H'∧v=follow3 [] 0 1→RL.T M St H' (Conc.G (c.finish v) cs):=hK;clear hK ih;have hK:=hK';have hi1:=fun(H':View)=> In_c M H' (p j) (k.pf j) (k.pt j) true (decide_eq_true d3);have hi2:=fun(H':View)=> In_c M H' (q j) (k.qf j) (k.qt j) false (decide_eq_false d4);refine U20 ?_;refine .al fun b12=> ?_;refine U4 ?_;refine Tc.dr [] [] mixed rfl ?_;refine .nn 0 ?_;refine .nn 1 ?_;refine .nn 2 ?_;refine .nn 3 ?_;refine .nn 4 ?_;refine .nn 5 ?_;refine .nn 6 ?_;refine .nn 7 ?_;refine .nn 8 ?_;refine .nn 9 ?_;refine .z 10 rfl (OpV.takeCall rfl rfl rfl rfl (fun H hs=> .h (hi1 H))) ?_;refine .nn 11 ?_;refine .nn 12 ?_;refine .nn 13 ?_;refine .nn 14 ?_;refine .nn 15 ?_;refine .nn 16 ?_;refine .nn 17 ?_;refine .nn 18 ?_;refine .nn 19 ?_;refine .nn 20 ?_;refine .nn 21 ?_;refine .nn 22 ?_;refine .z 23 rfl (OpV.takeCall rfl rfl rfl rfl (fun H hs=> .h (hi2 H))) ?_;refine .nn 24 ?_;refine .nn 25 ?_;refine .dn ?_;refine U7 ?_;refine .rt hK func20 results20 [_,_,_] ?_;exact okB
         · have hs2:=hsome (by rw[hin,decide_eq_false d3];rfl);rw[hs2] at hK;have hK':∀v H',H.le H'∧v=follow3 [] 0 1→RL.T M St H' (Conc.G (c.finish v) cs):=hK;clear hK ih;have hK:=hK';have hi1:=fun(H':View)=> In_c M H' (p j) (k.pf j) (k.pt j) false (decide_eq_false d3);refine U20 ?_;refine .al fun b12=> ?_;refine U4 ?_;refine Tc.dr [] [] mixed rfl ?_;refine .nn 0 ?_;refine .nn 1 ?_;refine .nn 2 ?_;refine .nn 3 ?_;refine .nn 4 ?_;refine .nn 5 ?_;refine .nn 6 ?_;refine .nn 7 ?_;refine .nn 8 ?_;refine .nn 9 ?_;refine .z 10 rfl (OpV.takeCall rfl rfl rfl rfl (fun H hs=> .h (hi1 H))) ?_;refine .nn 11 ?_;refine .nn 12 ?_;refine .nw 13 ?_;refine .nw 14 ?_;refine .nw 15 ?_;refine .nw 16 ?_;refine .nw 17 ?_;refine .nw 18 ?_;refine .nw 19 ?_;refine .nw 20 ?_;refine .nw 21 ?_;refine .nw 22 ?_;refine .nw 23 ?_;refine .nw 24 ?_;refine .nn 25 ?_;refine .dn ?_;refine U7 ?_;refine .rt hK func20 results20 [_,_,_] ?_;exact okB
     · have ev:k.followV np nq p q=follow3 [] 0 2:=by
         unfold Bk.followV;rw[if_neg (by simp[ha]),if_pos (.inr c2)]
       rw[ev];refine .en func20 ntmps20 fun St c cs hK=> ?_;refine U2 ?_;refine .bo fun b3=> ?_;refine U8 ?_;refine .c rfl rfl rfl rfl (fun H hs=> .h (hchk H hs.base)) ?_;refine U34 ?_;refine .rt hK func20 results20 [_,_,_] ?_;exact okB
   · have ev:k.followV np nq p q=follow3 [] 0 2:=by
       unfold Bk.followV;rw[if_neg (by simp[ha]),if_pos (.inl c1)]
     rw[ev];refine .en func20 ntmps20 fun St c cs hK=> ?_;refine U2 ?_;refine .bo fun b3=> ?_;refine U8 ?_;refine .c rfl rfl rfl rfl (fun H hs=> .h (hchk H hs.base)) ?_;refine U34 ?_;refine .rt hK func20 results20 [_,_,_] ?_;exact okB
 · have ev:k.followV np nq p q=follow3 [] 0 k.alarm:=by
     unfold Bk.followV;rw[if_pos ha]
   rw[ev];have hchk:=fun(H':View) (h:H.le H')=> refCheckBook_c M H' k A lc B tc (hk.le h) hn hnm;generalize k.alarm=al at ha hchk ⊢;refine .en func20 ntmps20 fun St c cs hK=> ?_;refine U2 ?_;refine .bo fun b3=> ?_;refine U8 ?_;refine .c rfl rfl rfl rfl (fun H hs=> .h (hchk H hs.base)) ?_;refine U15 ?_;refine .rt hK func20 results20 [_,_,_] ?_;exact okB
end
section
variable(H:View)(hG:Glob H)(k:Bk)(A:Option Addr)(lc:Nat)(B:Option Addr)(tc:Nat)(hk:BkAt H k A lc B tc)(hn:k.small)(hnm:∀i,i<k.nl→(k.name i).length≤1000000)
include hG hk hn hnm
theorem heard_both:∃(n:Nat) (x:Nat→List UInt8) (a:Int),n≤100000000∧(∀H',H.le H'→CallT (Mp prog) 23 #[k.val A lc B tc] H' (fun v H''=> H'.le H''∧∃(G:Option Addr) (c:Nat),v=.tuple ⟨[.slice G n c,.int .i64 a]⟩∧StrsAt H'' G n x))∧∀H',H.le H'→CallT (Mp prog) 24 #[k.val A lc B tc] H' (fun v H''=> H'.le H''∧∃(G:Option Addr) (c:Nat),v=.tuple ⟨[.slice G n c,.int .i64 a]⟩∧StrsAt H'' G n x):=by
 by_cases ha:k.alarm=0
 · have hl:=heard_len ha;refine⟨k.heardL.length,fun j=> k.heardL[j]?.getD [],0,by omega,fun H' h=> CallT.mono (HeardG_l (Mp prog) H' k A lc B tc (hk.le h) hn (glob_le hG h) ha) ?_,fun H' h=> HeardR_c (Mp prog) H' k A lc B tc (hk.le h) hn hnm ha⟩;rintro v H'' ⟨h1,G,n,c,rfl,h2,h3⟩;exact⟨h1,G,c,h2,h3⟩
 · refine⟨0,fun _=> [],k.alarm,by omega,fun H' h=> CallT.mono (Heard_alarm (Mp prog) H' k A lc B tc (hk.le h) hn (glob_le hG h) ha) ?_,fun H' h=> CallT.mono (HeardR_alarm (Mp prog) H' k A lc B tc (hk.le h) hn hnm ha) ?_⟩;all_goals
     rintro v H'' ⟨h1,rfl⟩;exact⟨h1,none,0,rfl,.inl rfl⟩
theorem reaches_both:∃(n:Nat) (x:Nat→Int) (c a:Int),n≤1000000∧(∀H',H.le H'→CallT (Mp prog) 26 #[k.val A lc B tc] H' (fun v H''=> H'.le H''∧∃(G:Option Addr) (gc:Nat),v=.tuple ⟨[.slice G n gc,.int .i64 c,.int .i64 a]⟩∧FreeAt H'' G n x))∧∀H',H.le H'→CallT (Mp prog) 27 #[k.val A lc B tc] H' (fun v H''=> H'.le H''∧∃(G:Option Addr) (gc:Nat),v=.tuple ⟨[.slice G n gc,.int .i64 c,.int .i64 a]⟩∧FreeAt H'' G n x):=by
 by_cases ha:k.alarm=0
 · obtain⟨_,hnl,_,_⟩:=Bk.valid ha;exact⟨k.nl,fun i=> k.claimOf (i:Nat),k.claimOf (-1),0,by omega,fun H' h=> Reaches_l (Mp prog) H' k A lc B tc (hk.le h) hn (glob_le hG h) ha,fun H' h=> ReachesR_c (Mp prog) H' k A lc B tc (hk.le h) hn hnm ha⟩
 · refine⟨0,fun _=> 0,0,k.alarm,by omega,fun H' h=> CallT.mono (Reaches_no (Mp prog) H' k A lc B tc (hk.le h) hn (glob_le hG h) ha) ?_,fun H' h=> CallT.mono (ReachesR_alarm (Mp prog) H' k A lc B tc (hk.le h) hn hnm ha) ?_⟩;all_goals
     rintro v H'' ⟨h1,rfl⟩;exact⟨h1,none,0,rfl,.inl rfl⟩
theorem taken_both(line:Int):∃(n:Nat) (x:Nat→Int) (c a:Int),n≤1000000∧(∀H',H.le H'→CallT (Mp prog) 29 #[k.val A lc B tc,.int .i64 line] H' (fun v H''=> H'.le H''∧∃(G:Option Addr) (gc:Nat),v=.tuple ⟨[.slice G n gc,.int .i64 c,.int .i64 a]⟩∧FreeAt H'' G n x))∧∀H',H.le H'→CallT (Mp prog) 30 #[k.val A lc B tc,.int .i64 line] H' (fun v H''=> H'.le H''∧∃(G:Option Addr) (gc:Nat),v=.tuple ⟨[.slice G n gc,.int .i64 c,.int .i64 a]⟩∧FreeAt H'' G n x):=by
 by_cases ha:k.alarm=0
 · by_cases hl:0≤line∧line≤(k.nl:Int)-1
   · obtain⟨w,rfl⟩:∃w:Nat,line=(w:Nat):=⟨line.toNat,by omega⟩
     have hw:w<k.nl:=by omega
     obtain⟨_,_,_,_,hnf,_⟩:=Bk.line_ok ha hw;refine⟨k.nf w,k.takenAt w,k.needTo w (k.nf w),0,by omega,fun H' h=> CallT.mono (Taken_c (Mp prog) H' k A lc B tc (hk.le h) hn (glob_le hG h) ha w hw) ?_,fun H' h=> TakenR_c (Mp prog) H' k A lc B tc (hk.le h) hn hnm ha w hw⟩;rintro v H'' ⟨h1,g,rfl,⟨h2,h3⟩,h4⟩;exact⟨h1,g.blk.map fun b=> ⟨b,0,none⟩,g.cap,by rw[←h2];rfl,cl_at g (fun x hx=> (h4 x hx).1) h3 h2⟩
   · refine⟨0,fun _=> 0,0,6,by omega,fun H' h=> CallT.mono (Taken_absent (Mp prog) H' k A lc B tc (hk.le h) hn (glob_le hG h) ha line hl) ?_,fun H' h=> CallT.mono (TakenR_absent (Mp prog) H' k A lc B tc (hk.le h) hn hnm ha line hl) ?_⟩;all_goals
       rintro v H'' ⟨h1,rfl⟩;exact⟨h1,none,0,rfl,.inl rfl⟩
 · refine⟨0,fun _=> 0,0,k.alarm,by omega,fun H' h=> CallT.mono (Taken_alarm (Mp prog) H' k A lc B tc (hk.le h) hn (glob_le hG h) ha line) ?_,fun H' h=> CallT.mono (TakenR_alarm (Mp prog) H' k A lc B tc (hk.le h) hn hnm ha line) ?_⟩;all_goals
     rintro v H'' ⟨h1,rfl⟩;exact⟨h1,none,0,rfl,.inl rfl⟩
end
section
variable(H:View)
theorem Calls_w {St:View→Goroutine→Prop}{cs:List Frame}(hG:Glob H)(k:Bk)(A:Option Addr)(lc:Nat)(B:Option Addr)(tc:Nat)(hk:BkAt H k A lc B tc)(P Q0:Option Addr)(np nq pc qc:Nat)(p q:Nat→Int)(hP:FreeAt H P np p)(hQ:FreeAt H Q0 nq q)(line:Int)
   (hR:∀(H₀:View) (R:Rg) (L:Bl) (kk:List Item),lk R 8=some (.bool true)→H.le H₀→Tc (Mp prog) St 145 ⟨3,.normal,none⟩ H₀ cs R L [] (.code .ret::kk)):
   Tc (Mp prog) St 145 ⟨3,.normal,none⟩ H cs (argR [k.val A lc B tc,.slice P np pc,.slice Q0 nq qc,.int .i64 line]) [] [] [.code (bodyOf Tryz.f3)]:=by
 have hlives:=fun(H':View) (h:H.le H')=> lives_c H' (glob_le hG h);have hgc:=fun(H':View) (h:H.le H')=> Great_c (Mp prog) H' k A lc B tc (hk.le h).rows;cases hgr:k.great with
 | true=>
   rw[hgr] at hgc;refine U2 ?_;refine .bo fun b4=> ?_;refine U6 ?_;refine .c rfl rfl rfl rfl (fun H hs=> .h (hgc H hs.base)) ?_;refine U14 ?_;refine .c rfl rfl rfl rfl (fun H hs=> .h (hlives H hs.base)) ?_;refine U2 ?_;exact hR _ _ _ _ rfl (View.le_refl _)
 | false=>
   rw[hgr] at hgc;by_cases c1:20<np
   · refine U2 ?_;refine .bo fun b4=> ?_;refine U6 ?_;refine .c rfl rfl rfl rfl (fun H hs=> .h (hgc H hs.base)) ?_;refine U14 ?_;refine .c rfl rfl rfl rfl (fun H hs=> .h (hlives H hs.base)) ?_;refine U2 ?_;exact hR _ _ _ _ rfl (View.le_refl _)
   by_cases c2:20<nq
   · refine U2 ?_;refine .bo fun b4=> ?_;refine U6 ?_;refine .c rfl rfl rfl rfl (fun H hs=> .h (hgc H hs.base)) ?_;refine U14 ?_;refine .c rfl rfl rfl rfl (fun H hs=> .h (hlives H hs.base)) ?_;refine U2 ?_;exact hR _ _ _ _ rfl (View.le_refl _)
   have hsm:k.small:=Bk.ungreat_small hgr;have hnm:∀i,i<k.nl→(k.name i).length≤1000000:=fun i hi=> by have:=(Bk.ungreat hgr).2.2 i hi;omega
   obtain⟨s,z,a0,hfe⟩:=follow_ex k np nq p q;have hf1:=fun(H':View) (h:H.le H')=> isV (Follow_c (Mp prog) H' k A lc B tc (hk.le h) hsm (glob_le hG h) P Q0 np nq pc qc p q (hP.le h) (hQ.le h)) hfe;have hf2:=fun(H':View) (h:H.le H')=> isV (FollowR_c (Mp prog) H' k A lc B tc (hk.le h) hsm hnm P Q0 np nq pc qc p q (hP.le h) (hQ.le h)) hfe;have hc1:=fun(H':View) (h:H.le H')=> CheckBook_c (Mp prog) H' k A lc B tc (hk.le h) hsm (glob_le hG h);have hc2:=fun(H':View) (h:H.le H')=> refCheckBook_c (Mp prog) H' k A lc B tc (hk.le h) hsm hnm;have e1:RL.strB .neq s s=some (.bool false):=by simp[RL.strB]
   obtain⟨n1,x1,a1,hn1,hh1,hh2⟩:=heard_both H hG k A lc B tc hk hsm hnm;obtain⟨n2,x2,d2,a2,hn2,hr1,hr2⟩:=reaches_both H hG k A lc B tc hk hsm hnm;obtain⟨n3,x3,d3,a3,hn3,ht1,ht2⟩:=taken_both H hG k A lc B tc hk hsm hnm line;generalize k.alarm=al at hc1 hc2;refine U2 ?_;refine .bo fun b4=> ?_;refine U6 ?_;refine .c rfl rfl rfl rfl (fun H hs=> .h (hgc H hs.base)) ?_;refine U18 ?_;refine .c rfl rfl rfl rfl (fun H hs=> .h (hf1 H hs.base)) ?_;refine U13 ?_;refine .c rfl rfl rfl rfl (fun H hs=> .h (hf2 H hs.base)) ?_;refine U10 ?_;refine Tc.dr [] [] mixed rfl ?_;refine .nn 0 ?_;refine .nn 1 ?_;refine .nn 2 ?_;refine .nn 3 ?_;refine .nn 4 ?_;refine .nn 5 ?_;refine .nn 6 ?_;refine .nn 7 ?_;refine .nn 8 ?_;refine .nn 9 ?_;refine .nn 10 ?_;refine .nn 11 ?_;refine .nn 12 ?_;refine .nn 13 ?_;refine .nn 14 ?_;refine .z 15 rfl (OpV.takeCall rfl rfl rfl rfl (fun H hs=> .h (hc1 H hs.base))) ?_;refine .nn 16 ?_;refine .z 17 rfl (OpV.takeCall rfl rfl rfl rfl (fun H hs=> .h (hc2 H hs.base))) ?_;refine .nn 18 ?_;refine .nn 19 ?_;refine .dn ?_;refine U5 ?_;refine To.callF rfl rfl rfl rfl rfl rfl (by decide) (FnT.h (hh1 H (View.le_refl _))) (fun v H₂ hv=> ?_);obtain⟨hle2,G2,g2,rfl,hS2⟩:=hv;refine U9 ?_;refine To.callF rfl rfl rfl rfl rfl rfl (by decide) (FnT.h (hh2 H₂ hle2)) (fun v H₃ hv=> ?_);obtain⟨hle3,G3,g3,rfl,hS3⟩:=hv;have hH3:=View.le_trans hle2 hle3;refine U8 ?_;have hsw:=fun(H':View) (h:H₃.le H')=> SameWords_c (Mp prog) H' G2 G3 n1 n1 g2 g3 x1 x1 (hS2.le (View.le_trans hle3 h)) (hS3.le h) hn1 hn1 true (by rw[decide_eq_true rfl,Bool.true_and];exact(allB_iff _).2 fun i _=> decide_eq_true rfl);refine U3 ?_;refine .c rfl rfl rfl rfl (fun H hs=> .h (hsw H hs.base)) ?_;refine U12 ?_;refine To.callF rfl rfl rfl rfl rfl rfl (by decide) (FnT.h (hr1 H₃ hH3)) (fun v H₄ hv=> ?_);obtain⟨hle4,G4,g4,rfl,hF4⟩:=hv;have hH4:=View.le_trans hH3 hle4;refine U11 ?_;refine To.callF rfl rfl rfl rfl rfl rfl (by decide) (FnT.h (hr2 H₄ hH4)) (fun v H₅ hv=> ?_);obtain⟨hle5,G5,g5,rfl,hF5⟩:=hv;have hH5:=View.le_trans hH4 hle5;refine U10 ?_;have hsc:=fun(H':View) (h:H₅.le H')=> SameClaims_c (Mp prog) H' G4 G5 n2 n2 g4 g5 x2 x2 (hF4.le (View.le_trans hle5 h)) (hF5.le h) hn2 hn2 true (by rw[decide_eq_true rfl,Bool.true_and];exact(allB_iff _).2 fun i _=> decide_eq_true rfl);refine U3 ?_;refine .c rfl rfl rfl rfl (fun H hs=> .h (hsc H hs.base)) ?_;refine U18 ?_;refine To.callF rfl rfl rfl rfl rfl rfl (by decide) (FnT.h (ht1 H₅ hH5)) (fun v H₆ hv=> ?_);obtain⟨hle6,G6,g6,rfl,hF6⟩:=hv;have hH6:=View.le_trans hH5 hle6;refine U12 ?_;refine To.callF rfl rfl rfl rfl rfl rfl (by decide) (FnT.h (ht2 H₆ hH6)) (fun v H₇ hv=> ?_);obtain⟨hle7,G7,g7,rfl,hF7⟩:=hv;have hH7:=View.le_trans hH6 hle7;refine U9 ?_;have hst:=fun(H':View) (h:H₇.le H')=> SameClaims_c (Mp prog) H' G6 G7 n3 n3 g6 g7 x3 x3 (hF6.le (View.le_trans hle7 h)) (hF7.le h) hn3 hn3 true (by rw[decide_eq_true rfl,Bool.true_and];exact(allB_iff _).2 fun i _=> decide_eq_true rfl);refine U3 ?_;refine .c rfl rfl rfl rfl (fun H hs=> .h (hst H hs.base)) ?_;refine U11 ?_;refine .c rfl rfl rfl rfl (fun H hs=> .h (hlives H (View.le_trans hH7 hs.base))) ?_;refine U3 ?_;exact hR _ _ _ _ rfl hH7
end
end Go.Proofs.YtdnfdeplcjaonaaGreatDoor
