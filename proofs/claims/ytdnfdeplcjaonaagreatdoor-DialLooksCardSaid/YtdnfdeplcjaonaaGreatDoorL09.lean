/-
  Texts of the proofs over baudot/dial: P1 Grow Abs P2 P3 ZN PA PB PC ZO PD.
-/
import Derived.Test.YtdnfdeplcjaonaaGreatDoorL08
namespace Go.Proofs.YtdnfdeplcjaonaaGreatDoor
open Go.RL Go.Proofs.Tryz
set_option maxRecDepth 10000
set_option maxHeartbeats 8000000
def Bk.pause1(k:Bk)(t i:Nat):List Int:=if(k.partX t i).1≤(k.partX t i).2 then [(k.partX t i).1] else []
def Bk.pausesTo(k:Bk)(t:Nat):Nat→List Int
 | 0=> []
 | i+1=> k.pausesTo t i++k.pause1 t i
theorem pausesTo_le(k:Bk)(t:Nat):∀i,(k.pausesTo t i).length≤i
 | 0=> Nat.le_refl _
 | i+1=> by
   have:=pausesTo_le k t i;unfold Bk.pausesTo Bk.pause1;rw[List.length_append];split <;> simp <;> omega
theorem part_kind {k:Bk}(ha:k.alarm=0){t:Nat}(ht:t<k.nt){i:Nat}(hi:i<3):((k.partX t i).1≤(k.partX t i).2↔k.kind (k.qf t)≤i∧i≤k.kind (k.qt t))∧((k.partX t i).1≤(k.partX t i).2→k.kind (k.partX t i).1=i∧0≤(k.partX t i).1∧(k.partX t i).1≤99):=by
 obtain⟨hgg,_,_,hok⟩:=Bk.valid ha;obtain⟨_,_,hq⟩:=k.train_in hok ht;have c1:=kind_cases k (k.qf t);have c2:=kind_cases k (k.qt t);have c3:=kind_cases k (k.partX t i).1;have m1:=iMax_is (k.qf t) (k.kindB i).1;have m2:=iMin_is (k.qt t) (k.kindB i).2;have e1:(k.partX t i).1=iMax (k.qf t) (k.kindB i).1:=rfl;have e2:(k.partX t i).2=iMin (k.qt t) (k.kindB i).2:=rfl;rw[←e1] at m1;rw[←e2] at m2;clear e1 e2;generalize (k.partX t i).1=u at *;generalize (k.partX t i).2=v at *;rcases(by omega:i=0∨i=1∨i=2) with rfl|rfl|rfl
 · have e3:k.kindB 0=(0,k.gap-1):=rfl;rw[e3] at m1 m2;simp only at m1 m2;constructor
   · constructor <;> intro h <;> omega
   · intro h;omega
 · have e3:k.kindB 1=(k.gap,k.give-1):=rfl;rw[e3] at m1 m2;simp only at m1 m2;constructor
   · constructor <;> intro h <;> omega
   · intro h;omega
 · have e3:k.kindB 2=(k.give,99):=rfl;rw[e3] at m1 m2;simp only at m1 m2;constructor
   · constructor <;> intro h <;> omega
   · intro h;omega
theorem pauses_kinds {k:Bk}(ha:k.alarm=0){t:Nat}(ht:t<k.nt):(k.pausesTo t 3).length=k.kind (k.qt t)+1-k.kind (k.qf t)∧∀j,j<(k.pausesTo t 3).length→k.kind (exAt (k.pausesTo t 3) j)=k.kind (k.qf t)+j∧0≤exAt (k.pausesTo t 3) j∧exAt (k.pausesTo t 3) j≤99:=by
 obtain⟨_,_,_,hok⟩:=Bk.valid ha;obtain⟨_,_,hq⟩:=k.train_in hok ht;have c1:=kind_cases k (k.qf t);have c2:=kind_cases k (k.qt t);obtain⟨a0,b0⟩:=part_kind ha ht (i:=0) (by omega);obtain⟨a1,b1⟩:=part_kind ha ht (i:=1) (by omega);obtain⟨a2,b2⟩:=part_kind ha ht (i:=2) (by omega);have e:k.pausesTo t 3=(k.pause1 t 0++k.pause1 t 1)++k.pause1 t 2:=rfl;have y:∀i,(k.partX t i).1≤(k.partX t i).2→k.pause1 t i= [(k.partX t i).1]:=fun i h=> if_pos h;have n:∀i,¬(k.partX t i).1≤(k.partX t i).2→k.pause1 t i= []:=fun i h=> if_neg h;generalize k.kind (k.qf t)=lo at *;generalize k.kind (k.qt t)=hi at *;rcases(by omega:(lo=0∧hi=0)∨(lo=0∧hi=1)∨(lo=0∧hi=2)∨(lo=1∧hi=1)∨(lo=1∧hi=2)∨(lo=2∧hi=2)) with ⟨rfl,rfl⟩|⟨rfl,rfl⟩|⟨rfl,rfl⟩|⟨rfl,rfl⟩|⟨rfl,rfl⟩|⟨rfl,rfl⟩
 · rw[e,y 0 (by omega),n 1 (by omega),n 2 (by omega)];refine⟨rfl,fun j hj=> ?_⟩;have:=b0 (by omega);rcases(by simp at hj;omega:j=0) with rfl;exact⟨by rw[show exAt ([(k.partX t 0).1]++[]++[]) 0=(k.partX t 0).1 from rfl];omega,this.2⟩
 · rw[e,y 0 (by omega),y 1 (by omega),n 2 (by omega)];refine⟨rfl,fun j hj=> ?_⟩;have:=b0 (by omega);have:=b1 (by omega);rcases(by simp at hj;omega:j=0∨j=1) with rfl|rfl
   · exact b0 (by omega)
   · exact b1 (by omega)
 · rw[e,y 0 (by omega),y 1 (by omega),y 2 (by omega)];refine⟨rfl,fun j hj=> ?_⟩;rcases(by simp at hj;omega:j=0∨j=1∨j=2) with rfl|rfl|rfl
   · exact b0 (by omega)
   · exact b1 (by omega)
   · exact b2 (by omega)
 · rw[e,n 0 (by omega),y 1 (by omega),n 2 (by omega)];refine⟨rfl,fun j hj=> ?_⟩;rcases(by simp at hj;omega:j=0) with rfl;exact b1 (by omega)
 · rw[e,n 0 (by omega),y 1 (by omega),y 2 (by omega)];refine⟨rfl,fun j hj=> ?_⟩;rcases(by simp at hj;omega:j=0∨j=1) with rfl|rfl
   · exact b1 (by omega)
   · exact b2 (by omega)
 · rw[e,n 0 (by omega),n 1 (by omega),y 2 (by omega)];refine⟨rfl,fun j hj=> ?_⟩;rcases(by simp at hj;omega:j=0) with rfl;exact b2 (by omega)
section
variable(M:Md prog)(H:View)
theorem LineOf_c(k:Bk)(A:Option Addr)(lc:Nat)(B:Option Addr)(tc:Nat)(hA:RowsAt H k A lc)(hn:k.nl≤1000)(s:List UInt8):
   CallT M 87 #[k.val A lc B tc,strV s] H (fun v H'=> H.le H'∧v=.int .i64 (firstI (k.line s))):=by
 refine .en func87 ntmps87 fun St c cs hK=> ?_;refine U2 ?_;refine .bo fun b2=> ?_;refine U8 ?_;refine Tc.db (Tc.loopInv (σ:= { j:Nat//j≤k.nl∧firstTo (fun i=> begins s (k.num i)) j=none }) (fun j=> ([(1,strV s),(2,.pointer (some ⟨b2,0,none⟩)),(5,.int .i64 (j.1:Nat))],[(b2,true,.cells ⟨(k.val A lc B tc).cells.toList⟩ 25 (0,0))])) (fun j=> k.nl-j.1) ?_ ⟨0,Nat.zero_le _,rfl⟩);rintro⟨j,hj,hno⟩ ih;show Tc M St _ _ _ _ [(1,strV s),(2,.pointer (some ⟨b2,0,none⟩)),(5,.int .i64 (j:Nat))] [(b2,true,.cells ⟨(k.val A lc B tc).cells.toList⟩ 25 (0,0))] _ _;by_cases c1:j=k.nl
 · subst c1;have e:k.line s=none:=hno;rw[e] at hK;refine U15 ?_;refine .rt hK func87 results87 [_] ?_;exact okB
 · have c2:j<k.nl:=by omega
   obtain⟨_,h0|⟨ab,ao,f,gs,gt,gz,rfl,hb,hl⟩⟩:=hA
   · omega
   obtain⟨F,fc,f1,_,_⟩:=hl j c2;have f2:ldL false 1 gs (ao+((j:Nat):Int).toNat*3+1)=some (strV (k.num j)):=ldL_cell f1 (by decide);cases hpp:begins s (k.num j) with
   | true=>
     have e:k.line s=some j:=firstTo_stays (p:=fun i=> begins s (k.num i)) (j:=j+1) (by rw[firstTo,hno];simp[hpp]) _ (by omega);rw[e] at hK;refine U22 ?_;refine .c rfl rfl rfl rfl (fun H hs=> .h (Begins_c M H s (k.num j) true hpp)) ?_;refine U7 ?_;refine .rt hK func87 results87 [_] ?_;exact okB
   | false=>
     refine U22 ?_;refine .c rfl rfl rfl rfl (fun H hs=> .h (Begins_c M H s (k.num j) false hpp)) ?_;refine U9 ?_;exact Tc.db (ih ⟨j+1,by omega,by simp[firstTo,hno,hpp]⟩ (by simp only;omega))
theorem HearR_c(k:Bk)(A:Option Addr)(lc:Nat)(B:Option Addr)(tc:Nat)(e:Ear)(p:Nat)(q:Int)(hh:e.heard.length≤1000)(hp:e.pend≤1000)(hp2:p≤1000):
   CallT M 86 #[k.val A lc B tc,e.val,.int .i64 (p:Nat),.int .i64 q] H (fun v H'=> H.le H'∧v=(e.hear p (k.kind q)).val):=by
 obtain⟨s,m,df⟩:=e;simp only at hh hp;show CallT M 86 #[k.val A lc B tc,earV s m df,.int .i64 (p:Nat),.int .i64 q] H _;cases df with
 | true=>
   refine .en func86 ntmps86 fun St c cs hK=> ?_;refine U2 ?_;refine .bo fun b4=> ?_;refine .bo fun b5=> ?_;refine .al fun b8=> ?_;refine U13 ?_;refine .rt hK func86 results86 [_] ?_;exact okB
 | false =>
   obtain⟨x,hx⟩:∃x,m+p=x:=⟨_,rfl⟩
   have hmp:((m:Nat):Int)+((p:Nat):Int)=((x:Nat):Int):=by omega
   refine .en func86 ntmps86 fun St c cs hK=> ?_;refine U2 ?_;refine .bo fun b4=> ?_;refine .bo fun b5=> ?_;refine .al fun b8=> ?_;refine U15 ?_;rw[hmp];refine U4 ?_;rcases kind_cases k q with ⟨c1,c2⟩|⟨c1,c3,c2⟩|⟨c1,c3,c2⟩
   · rw[c2] at hK;have e1:(⟨s,m,false⟩:Ear).hear p 0=⟨s,x,false⟩:=by unfold Ear.hear;simp[hx]
     rw[e1] at hK;refine U15 ?_;refine .rt hK func86 results86 [_] ?_;exact okB
   all_goals
     rw[c2] at hK;by_cases d1:10<x
     · rw[show(⟨s,m,false⟩:Ear).hear p _=⟨s,0,true⟩ by unfold Ear.hear;simp[hx,d1]] at hK;refine U22 ?_;refine .rt hK func86 results86 [_] ?_;exact okB
     · have hr:intBin .rem .i64 (x:Nat) 10=some (.int .i64 ((x%10:Nat):Int)):=by rw[rem_in (by omega) (by omega)];congr 2
       have hu:(UInt8.ofNat (48+x%10)).toNat=48+x%10:=by rw[UInt8.toNat_ofNat'];omega
       have hw:IntKind.u8.wrap (48+((x%10:Nat):Int))=(((UInt8.ofNat (48+x%10)).toNat:Nat):Int):=by
         rw[hu];rcases(by omega:x%10=0∨x%10=1∨x%10=2∨x%10=3∨x%10=4∨x%10=5∨x%10=6∨x%10=7∨x%10=8∨x%10=9) with h|h|h|h|h|h|h|h|h|h <;> rw[h] <;> rfl
       have e1:intBin .add .i64 48 ((x%10:Nat):Int)=some (.int .i64 (48+((x%10:Nat):Int))):=add_in (by omega) (by omega);have e3:RL.strB .add s [UInt8.ofNat (48+x%10)]=some (strV (s++[UInt8.ofNat (48+x%10)])):=strB_add (by simp only[List.length_singleton];omega);rw[show(⟨s,m,false⟩:Ear).hear p _=⟨s++[UInt8.ofNat (48+x%10)],0,_⟩ by unfold Ear.hear;simp only[hx,d1,Bool.false_eq_true,if_false];rfl] at hK;refine U24 ?_;refine .e (.bs (zz:=fun bs=> ?_));refine .x (OpV.convB (E:=en) (m:=1) (s:= [UInt8.ofNat (48+x%10)]) rfl rfl (fun H hs=> SrcAt.of (hs.get (i:=0) rfl) (Nat.le_of_ble_eq_true rfl)) rfl rfl rfl rfl rfl rfl) ?_;refine U4 ?_;refine .i ?_ (z:=by first|exact geq_t (by omega)|exact geq_f (by omega));refine U3 ?_;refine .rt hK func86 results86 [_] ?_;exact okB
theorem Pauses_c(k:Bk)(A:Option Addr)(lc:Nat)(B:Option Addr)(tc:Nat)(ha:k.alarm=0)(t:Nat)(ht:t<k.nt):
   CallT M 159 #[k.val A lc B tc,trainV (k.pf t) (k.pt t) (k.qf t) (k.qt t)] H (fun v H'=> H.le H'∧∃G c',v=.slice G (k.pausesTo t 3).length c'∧FreeAt H' G (k.pausesTo t 3).length (exAt (k.pausesTo t 3))):=by
 obtain⟨hgg,_,hnt,hok⟩:=Bk.valid ha;obtain⟨_,_,hq⟩:=k.train_in hok ht;refine .en func159 ntmps159 fun St c cs hK=> ?_;refine U2 ?_;refine .bo fun b2=> ?_;refine .bo fun b3=> ?_;refine U17 ?_;refine .e (.bs (zz:=fun b5=> ?_));refine U12 ?_;refine Tc.db (Tc.loopInv (σ:= { x:Nat×Gl 3 1//x.1≤3∧x.2.n=(k.pausesTo t x.1).length∧x.2.l=intsL (k.pausesTo t x.1) }) (fun x=> ([(3,.pointer (some ⟨b3,0,none⟩)),(5,.slice (some ⟨b5,0,none⟩) 3 3),(6,x.1.2.val),(7,.int .i64 (x.1.1:Nat))],[(b5,true,.cells ⟨[.int .i64 0,.int .i64 (k.gap-1),.int .i64 k.gap,.int .i64 (k.give-1),.int .i64 k.give,.int .i64 99]⟩ 45 (0,0)),(b3,true,.cells ⟨[.int .i64 (k.pf t),.int .i64 (k.pt t),.int .i64 (k.qf t),.int .i64 (k.qt t)]⟩ 47 (0,0))]++x.1.2.bl)) (fun x=> 3-x.1.1) ?_ ⟨(0,Gl.nil 3 1),Nat.zero_le _,rfl,rfl⟩);rintro⟨⟨i,g⟩,hi,hgn,hgl⟩ ih;simp only at hi hgn hgl;show Tc M St _ _ _ _ [(3,.pointer (some ⟨b3,0,none⟩)),(5,.slice (some ⟨b5,0,none⟩) 3 3),(6,g.val),(7,.int .i64 (i:Nat))] ([(b5,true,.cells ⟨[.int .i64 0,.int .i64 (k.gap-1),.int .i64 k.gap,.int .i64 (k.give-1),.int .i64 k.give,.int .i64 99]⟩ 45 (0,0)),(b3,true,.cells ⟨[.int .i64 (k.pf t),.int .i64 (k.pt t),.int .i64 (k.qf t),.int .i64 (k.qt t)]⟩ 47 (0,0))]++g.bl) _ _;have hple:=pausesTo_le k t i;by_cases c1:i=3
 · clear ih;subst c1;refine U15 ?_;refine .rt hK func159 results159 [_] ?_;exact fun H' hs=> ⟨hs.base,g.blk.map fun b=> ⟨b,0,none⟩,g.cap,by rw[←hgn];rfl,cl_at g (fun x hx=> hs.at_ x (by simp[hx])) (hgl.trans (clL_ints _)) hgn⟩
 · have c2:i<3:=by omega
   have f3:ldL true 2 [.int .i64 0,.int .i64 (k.gap-1),.int .i64 k.gap,.int .i64 (k.give-1),.int .i64 k.give,.int .i64 99] (0+((i:Nat):Int).toNat*2)=some (bandV (k.kindB i).1 (k.kindB i).2):=by
     rcases(by omega:i=0∨i=1∨i=2) with rfl|rfl|rfl <;> rfl
   have hbth:=fun(H':View)=> BothR_c M H' (k.qf t) (k.qt t) (k.kindB i).1 (k.kindB i).2 (k.partX t i).1 (k.partX t i).2 rfl rfl;by_cases d3:(k.partX t i).1≤(k.partX t i).2
   · have e4:k.pausesTo t (i+1)=k.pausesTo t i++[(k.partX t i).1]:=by rw[Bk.pausesTo,Bk.pause1,if_pos d3]
     refine U13 ?_;refine Tc.dr [8] [] mixed rfl ?_;refine .nn 0 ?_;refine .nn 1 ?_;refine .nn 2 ?_;refine .nn 3 ?_;refine .nn 4 ?_;refine .nn 5 ?_;refine .z 6 rfl (OpV.takeCall rfl rfl rfl rfl (fun H hs=> .h (hbth H))) ?_;refine Ta.each [7] (by kernel_rfl) rfl ⟨TaOp.mk rfl rfl rfl (.al (zz:=fun b8=> ⟨S2.mk (by apply List.Sublist.cons;exact List.Sublist.refl _) (.inr (by apply List.Sublist.cons;exact List.Sublist.refl _)),?_⟩)),trivial⟩;refine .e 8 0 ?_;refine .dn ?_;refine U13 ?_;refine .e (.bs (zz:=fun bs=> ?_));refine .e (Or.append (E:=en) 4 rfl rfl rfl rfl rfl rfl rfl rfl rfl rfl rfl rfl rfl rfl rfl (fun H hs=> SrcAt.of (hs.get (i:=0) rfl) (Nat.le_of_ble_eq_true rfl)) rfl (by omega) rfl (by decide) (fun g2 hn2 hl2=> ?_));refine U8 ?_;exact Tc.db (ih ⟨(i+1,g2),by simp only;omega,by simp only;rw[e4,List.length_append,hn2,hgn];rfl,by simp only;rw[e4,hl2,hgl];unfold intsL;rw[List.map_append];rfl⟩ (by simp only;omega))
   · have e4:k.pausesTo t (i+1)=k.pausesTo t i:=by rw[Bk.pausesTo,Bk.pause1,if_neg d3,List.append_nil]
     refine U13 ?_;refine Tc.dr [8] [] mixed rfl ?_;refine .nn 0 ?_;refine .nn 1 ?_;refine .nn 2 ?_;refine .nn 3 ?_;refine .nn 4 ?_;refine .nn 5 ?_;refine .z 6 rfl (OpV.takeCall rfl rfl rfl rfl (fun H hs=> .h (hbth H))) ?_;refine Ta.each [7] (by kernel_rfl) rfl ⟨TaOp.mk rfl rfl rfl (.al (zz:=fun b8=> ⟨S2.mk (by apply List.Sublist.cons;exact List.Sublist.refl _) (.inr (by apply List.Sublist.cons;exact List.Sublist.refl _)),?_⟩)),trivial⟩;refine .e 8 0 ?_;refine .dn ?_;refine U16 ?_;exact Tc.db (ih ⟨(i+1,g),by simp only;omega,by simp only;rw[e4];exact hgn,by simp only;rw[e4];exact hgl⟩ (by simp only;omega))
end
end Go.Proofs.YtdnfdeplcjaonaaGreatDoor
namespace Go.RL
section
variable {P:Program}{M:Md P}{n:Nat}{H₀:View}{R:Rg}{L:Bl}{o:Oper}{K:Rg→Bl→Prop}{d:Nat}
def GrowQ {e:TypeId}{sz:Nat}(H₁:View)(p:Gl e sz→Prop)(v:Value)(H':View):Prop:=
 ∃(g':Gl e sz) (H₂:View),v=g'.val∧H₁.le H₂∧SymSt H₂ g'.bl H'∧p g'
theorem Or.callGrow(k:Nat){e:TypeId}{sz:Nat}{g:Gl e sz}(p:Gl e sz→Prop){cl:Go.Call}{x:Operand}{fv:Value}{az:List Value}(hop:o.op=.call cl)(hcl:cl.callee=.value x)(hx:evR R x=some fv)(has:evRs R cl.args.toList=some az)(hL:L.drop k=g.bl)(hd:o.dst=some d)(hn:d<n)
   (hc:∀H₁ H,SymSt H₀ (L.take k) H₁→SymSt H₁ g.bl H→FnT M fv az H (GrowQ H₁ p))
   (hk:∀g':Gl e sz,p g'→K ((d,g'.val)::R) (L.take k++g'.bl)):Or M n H₀ R L o K:=
 .callV hop hcl hx has (Q:=fun _ v H'=> ∃g':Gl e sz,v=g'.val∧p g'∧SymSt H₀ (L.take k++g'.bl) H') (fun H hs=> by
   have hLe:L=L.take k++g.bl:=by rw[←hL,List.take_append_drop]
   have hs':SymSt H₀ (g.bl++L.take k) H:=hs.perm (by rw[hL.symm,←List.take_append_drop k L];simp only[List.take_append_drop];exact List.perm_append_comm.trans (by rw[List.take_append_drop]));obtain⟨H₁,h1,h2⟩:=hs'.unappend;refine(hc H₁ H h2 h1).mono ?_;rintro v H' ⟨g',H₂,rfl,h3,h4,h5⟩;exact⟨g',rfl,h5,((h2.mono h3).append h4).perm List.perm_append_comm⟩) (by
   rintro H v H' hs ⟨g',rfl,h1,h2⟩;exact⟨_,(d,g'.val)::R,h2,by rw[hd];exact⟨hn,rfl⟩,hk g' h1⟩)
end
section
variable {P:Program}{M:Md P}{St:View→Goroutine→Prop}{n:Nat}{b:FB}{H₀:View}{cs:List Frame}{R:Rg}{L:Bl}{ds:List Deferred}{todo:List Item}
theorem Tc.absorb(A B:Bl)(p:(A++B).Perm L)(h:∀H₁:View,H₀.le H₁→(∀x∈B,H₁ x.1=some x.2)→Tc M St n b H₁ cs R A ds todo):Tc M St n b H₀ cs R L ds todo:=fun H tmps hs hr=> by
 obtain⟨H₂,h1,h2⟩:=(hs.perm p).unappend;exact h H₂ h2.base h2.at_ H tmps h1 hr
end
end Go.RL
namespace Go.Proofs.YtdnfdeplcjaonaaGreatDoor
open Go.RL Go.Proofs.Tryz
set_option maxRecDepth 10000
set_option maxHeartbeats 8000000
def addE(l:List Ear)(e:Ear):List Ear:=if e∈l then l else l++[e]
theorem addE_le(l:List Ear)(e:Ear):(addE l e).length≤l.length+1:=by unfold addE;split <;> simp
theorem mem_addE {l:List Ear}{e x:Ear}:x∈addE l e↔x∈l∨x=e:=by
 unfold addE;split
 · rename_i h
   constructor
   · exact .inl
   · rintro(h'|rfl)
     · exact h'
     · exact h
 · rw[List.mem_append,List.mem_singleton]
theorem mem_adds {x:Ear}:∀(W l:List Ear),x∈W.foldl addE l↔x∈l∨x∈W
 | [],l=> by simp
 | e::W,l=> by
   rw[List.foldl_cons,mem_adds W,mem_addE,List.mem_cons,or_assoc]
theorem adds_le:∀(W l:List Ear),(W.foldl addE l).length≤l.length+W.length
 | [],_=> Nat.le_refl _
 | e::W,l=> by
   have h1:=adds_le W (addE l e);have h2:=addE_le l e;rw[List.foldl_cons,List.length_cons];omega
def Bk.hears(k:Bk)(i:Nat)(e:Ear):List Ear:=(k.can i).map fun x=> e.hear x.1 x.2
def Bk.refEars(k:Bk):Nat→List Ear
 | 0=> [⟨[],0,false⟩]
 | i+1=> ((k.refEars i).flatMap (k.hears i)).foldl addE []
theorem Bk.mem_refEars(k:Bk):∀n e,e∈k.refEars n↔k.earsS n e
 | 0,e=> by simp[Bk.refEars,Bk.earsS]
 | n + 1,e=> by
   unfold Bk.refEars Bk.hears Bk.earsS;rw[mem_adds];simp only[List.not_mem_nil,false_or,List.mem_flatMap,List.mem_map];constructor
   · rintro⟨e0,h0,x,hx,rfl⟩;exact⟨e0,(k.mem_refEars n e0).1 h0,x,hx,rfl⟩
   · rintro⟨e0,h0,x,hx,rfl⟩;exact⟨e0,(k.mem_refEars n e0).2 h0,x,hx,rfl⟩
theorem hears_len {k:Bk}(hok:k.trainsOk){i:Nat}(hi:i<k.nt):∀l:List Ear,(l.flatMap (k.hears i)).length≤l.length*12
 | []=> Nat.le_refl _
 | e::t=> by
   have h1:=hears_len hok hi t;have h2:=can_len hok hi;rw[List.flatMap_cons,List.length_append,List.length_cons];unfold Bk.hears at h1 ⊢;rw[List.length_map];omega
theorem refEars_len {k:Bk}(hok:k.trainsOk):∀n,n≤k.nt→(k.refEars n).length≤12 ^ n
 | 0,_=> Nat.le_refl _
 | n+1,hn=> by
   have h1:=refEars_len hok n (by omega);have h2:=hears_len hok (i:=n) (by omega) (k.refEars n);have h3:=adds_le ((k.refEars n).flatMap (k.hears n)) [];unfold Bk.refEars;rw[Nat.pow_succ];simp only[List.length_nil] at h3;omega
def earsV(l:List Ear):List Value:=l.flatMap fun e=> [strV e.heard,.int .i64 (e.pend:Nat),.bool e.deaf]
theorem earsV_app(l m:List Ear):earsV (l++m)=earsV l++earsV m:=by unfold earsV;rw[List.flatMap_append]
theorem earsV_len:∀l,(earsV l).length=l.length*3
 | []=> rfl
 | x::t=> by
   have:=earsV_len t;show([strV x.heard,.int .i64 (x.pend:Nat),.bool x.deaf]++earsV t).length=_;simp only[List.length_append,List.length_cons,List.length_nil,this];omega
theorem earsV_drop:∀(l:List Ear) (j:Nat) x (rest:List Value),l[j]? =some x→((earsV l++rest).drop (j*3)).take 3= [strV x.heard,.int .i64 (x.pend:Nat),.bool x.deaf]
 | [],_,_,_,h=> by cases h
 | y::t,0,x,rest,h=> by
   cases h
   show(([strV y.heard,.int .i64 (y.pend:Nat),.bool y.deaf]++earsV t)++rest).take 3=_;rw[List.append_assoc];rfl
 | y::t,j+1,x,rest,h=> by
   have:=earsV_drop t j x rest h;show((([strV y.heard,.int .i64 (y.pend:Nat),.bool y.deaf]++earsV t)++rest).drop ((j+1)*3)).take 3=_;rw[List.append_assoc,show(j+1)*3=3+j*3 by omega,←List.drop_drop];exact this
theorem earsV_ld {l:List Ear}{j:Nat}{x:Ear}(rest:List Value)(h:l[j]? =some x):ldL true 3 (earsV l++rest) (0+((j:Nat):Int).toNat*3)=some x.val:=by
 have hj:=(List.getElem?_eq_some_iff.1 h).1;rw[Nat.zero_add,Int.toNat_natCast];unfold ldL;have hlen:j*3+3≤(earsV l++rest).length:=by rw[List.length_append,earsV_len];omega
 rw[show Nat.ble (j*3+3) (earsV l++rest).length=true from Nat.ble_eq_true_of_le hlen];simp only[earsV_drop l j x rest h];rfl
def EarsAt(H:View)(A:Option Addr)(l:List Ear):Prop:=
 l= []∨∃b o f gs gt gz,A=some ⟨b,o,none⟩∧H b=some (f,.cells ⟨gs⟩ gt gz)∧∀(j:Nat) x,l[j]? =some x→ldL true 3 gs (o+((j:Nat):Int).toNat*3)=some x.val
theorem EarsAt.le {H H':View}{A:Option Addr}{l:List Ear}(h:EarsAt H A l)(k:H.le H'):EarsAt H' A l:=
 h.imp id fun⟨b,o,f,gs,gt,gz,h1,h2,h3⟩=> ⟨b,o,f,gs,gt,gz,h1,k _ _ h2,h3⟩
theorem ears_of(g:Gl 122 3){H:View}(h:∀x∈g.bl,H x.1=some x.2){l:List Ear}(hl:g.l=earsV l):EarsAt H (g.blk.map fun b=> ⟨b,0,none⟩) l:=by
 have hgl:=g.hl;rw[hl,earsV_len] at hgl;cases hbb:g.blk with
 | none=>
   have:=g.h0 hbb;have:=g.hc;exact .inl (List.eq_nil_of_length_eq_zero (by omega))
 | some b=>
   have hbl:g.bl= [(b,true,.cells ⟨g.l++g.junk⟩ 122 (0,0))]:=by unfold Gl.bl;rw[hbb]
   refine .inr ⟨b,0,true,_,122,(0,0),rfl,h (b,true,.cells ⟨g.l++g.junk⟩ 122 (0,0)) (by rw[hbl];simp),fun j x hx=> ?_⟩;rw[hl];exact earsV_ld _ hx
theorem ear_flat2(s:List UInt8)(m:Int)(d:Bool):flat en 2 122 [strV s,.int .i64 m,.bool d]:=by
 refine⟨rfl,?_⟩;intro f hf;simp only[List.mem_cons,List.not_mem_nil,or_false] at hf;rcases hf with rfl|rfl|rfl
 · exact⟨⟨_,rfl⟩,_,rfl,rfl,Nat.le_of_ble_eq_true rfl⟩
 · exact⟨⟨_,rfl⟩,_,rfl,rfl,Nat.le_of_ble_eq_true rfl⟩
 · exact⟨⟨_,rfl⟩,_,rfl,rfl,Nat.le_of_ble_eq_true rfl⟩
theorem eg122:prog.eqGuardType prog.depth 122=false:=by kernel_rfl
theorem ear_eq {e x:Ear}(b:Bool)(h:b=true↔e=x):b=true↔ [strV e.heard,.int .i64 (e.pend:Nat),Value.bool e.deaf]= [strV x.heard,.int .i64 (x.pend:Nat),.bool x.deaf]:=by
 rw[h];constructor
 · rintro rfl;rfl
 · intro h2;exact ear_inj (by unfold Ear.val earV;rw[h2])
section
variable(M:Md prog)(H:View)
theorem addE_c(g:Gl 122 3)(l:List Ear)(hg:g.l=earsV l)(hgn:g.n=l.length)(hl:l.length≤100000000)(e:Ear)(H₁ Hc:View)(hsy:SymSt H₁ g.bl Hc):
   CallT M 160 #[g.val,e.val] Hc (GrowQ H₁ fun g':Gl 122 3=> g'.l=earsV (addE l e)∧g'.n=(addE l e).length):=by
 refine CallT.enter (vs:= [g.val,e.val]) func160 rfl ntmps160 (Nat.le_of_ble_eq_true rfl) (hsy) fun St c cs hK=> ?_;refine U2 ?_;refine .bo fun b3=> ?_;refine U8 ?_;refine Tc.db (Tc.loopInv (σ:= { j:Nat//j≤l.length∧∀i,i<j→l[i]? ≠some e }) (fun j=> ([(0,g.val),(3,.pointer (some ⟨b3,0,none⟩)),(5,.int .i64 (j.1:Nat))],[(b3,true,.cells ⟨[strV e.heard,.int .i64 (e.pend:Nat),.bool e.deaf]⟩ 122 (0,0))]++g.bl)) (fun j=> l.length-j.1) ?_ ⟨0,Nat.zero_le _,fun i hi=> by omega⟩);rintro⟨j,hj,hno⟩ ih;show Tc M St _ _ _ _ [(0,g.val),(3,.pointer (some ⟨b3,0,none⟩)),(5,.int .i64 (j:Nat))] ([(b3,true,.cells ⟨[strV e.heard,.int .i64 (e.pend:Nat),.bool e.deaf]⟩ 122 (0,0))]++g.bl) _ _;by_cases c1:j=l.length
 · clear ih;have hnot:e ∉ l:=fun h=> by
     obtain⟨i,hi,h1⟩:=List.getElem_of_mem h;exact hno i (by omega) (by rw[List.getElem?_eq_getElem hi,h1])
   have ha:addE l e=l++[e]:=if_neg hnot;rw[ha] at hK;rw[←hgn] at c1;subst c1;refine U14 ?_;refine .e (.bs (zz:=fun bs=> ?_));refine .e (Or.append (E:=en) 2 rfl rfl rfl rfl rfl rfl rfl rfl rfl rfl rfl rfl rfl rfl rfl (fun H hs=> SrcAt.of (hs.get (i:=0) rfl) (Nat.le_of_ble_eq_true rfl)) rfl (by omega) rfl (by decide) (fun g' hn2 hl2=> ?_));refine U2 ?_;refine .rt hK func160 results160 [_] ?_;exact fun H' hs=> ⟨g',H₁,rfl,View.le_refl _,hs.less (by apply List.Sublist.cons;apply List.Sublist.cons;exact List.Sublist.refl _),by rw[hl2,hg,earsV_app];rfl,by rw[hn2,hgn,List.length_append];rfl⟩
 · have c2:j<l.length:=by omega
   cases hbb:g.blk with
   | none=>
     have:=g.h0 hbb;have:=g.hc;omega
   | some gb=>
     have hgv:g.val=.slice (some ⟨gb,0,none⟩) l.length g.cap:=by unfold Gl.val;rw[hbb,hgn];rfl
     have hgb:g.bl= [(gb,true,.cells ⟨earsV l++g.junk⟩ 122 (0,0))]:=by unfold Gl.bl;rw[hbb,hg]
     obtain⟨x,hx⟩:∃x,l[j]? =some x:=⟨_,List.getElem?_eq_getElem c2⟩
     have f1:=earsV_ld g.junk hx;rw[hgv,hgb];by_cases c3:x=e
     · subst c3;have ha:addE l x=l:=if_pos (List.mem_of_getElem? hx);rw[ha] at hK;refine U13 ?_;refine Tc.dr [] [] mixed rfl ?_;refine .nn 0 ?_;refine .nn 1 ?_;refine .nn 2 ?_;refine .nn 3 ?_;refine .nn 4 ?_;refine .q 5 rfl (OpV.eqA (E:=en) true 2 rfl rfl rfl rfl rfl eg122 (by decide) (ear_flat2 x.heard (x.pend:Nat) x.deaf) (ear_flat2 x.heard (x.pend:Nat) x.deaf) (by simp)) ?_;refine .dn ?_;refine U6 ?_;rw[←hgv,←hgb];refine .rt hK func160 results160 [_] ?_;exact fun H' hs=> ⟨g,H₁,rfl,View.le_refl _,hs.less (by apply List.Sublist.cons;exact List.Sublist.refl _),hg,hgn⟩
     · have hq:=ear_eq (e:=x) (x:=e) false ⟨fun h=> (nomatch h),fun h=> (c3 h).elim⟩;refine U13 ?_;refine Tc.dr [] [] mixed rfl ?_;refine .nn 0 ?_;refine .nn 1 ?_;refine .nn 2 ?_;refine .nn 3 ?_;refine .nn 4 ?_;refine .q 5 rfl (OpV.eqA (E:=en) false 2 rfl rfl rfl rfl rfl eg122 (by decide) (ear_flat2 x.heard (x.pend:Nat) x.deaf) (ear_flat2 e.heard (e.pend:Nat) e.deaf) hq) ?_;refine .dn ?_;refine U8 ?_;rw[←hgv,←hgb];exact Tc.db (ih ⟨j+1,by omega,fun i hi h=> by
         by_cases q:i=j
         · subst q;rw[hx] at h;cases h;exact c3 rfl
         · exact hno i (by omega) h⟩ (by simp only;omega))
theorem EarsOf_c(k:Bk)(A:Option Addr)(lc:Nat)(B:Option Addr)(tc:Nat)(hT:TrainsAt H k B tc)(ha:k.alarm=0)(n:Nat)(hn:n≤k.nt):
   CallT M 93 #[k.val A lc B tc,.int .i64 (n:Nat)] H (fun v H'=> H.le H'∧∃G c',v=.slice G (k.refEars n).length c'∧EarsAt H' G (k.refEars n)):=by
 obtain⟨hgg,_,hnt,hok⟩:=Bk.valid ha;obtain⟨htc,hTT⟩:=id hT;refine .en func93 ntmps93 fun St c cs hK=> ?_;refine U2 ?_;refine .bo fun b2=> ?_;refine U5 ?_;refine .e (.bs (zz:=fun b14=> ?_));refine U8 ?_;refine Tc.absorb [(b2,true,.cells ⟨(k.val A lc B tc).cells.toList⟩ 25 (0,0))] [(b14,true,.cells ⟨[strV [],.int .i64 ((0:Nat):Int),.bool false]⟩ 122 (0,0))] (List.Perm.swap _ _ _) (fun H₁ hle1 hb1=> ?_);have hE0:EarsAt H₁ (some ⟨b14,0,none⟩) (k.refEars 0):=.inr ⟨b14,0,true,_,122,(0,0),rfl,hb1 (b14,true,.cells ⟨[strV [],.int .i64 ((0:Nat):Int),.bool false]⟩ 122 (0,0)) (List.mem_singleton.2 rfl),fun j x hx=> by
   rcases j with _|j
   · cases hx;rfl
   · cases hx⟩
 refine Tc.db (Tc.loopB (σ:= { s:Nat×View×Option Addr×Nat//s.1≤n∧H.le s.2.1∧EarsAt s.2.1 s.2.2.1 (k.refEars s.1) }) (fun s=> (s.1.2.1,[(1,.int .i64 (n:Nat)),(2,.pointer (some ⟨b2,0,none⟩)),(5,.slice s.1.2.2.1 (k.refEars s.1.1).length s.1.2.2.2),(6,.int .i64 (s.1.1:Nat))],[(b2,true,.cells ⟨(k.val A lc B tc).cells.toList⟩ 25 (0,0))])) (fun s=> n-s.1.1) ?_ ⟨(0,H₁,some ⟨b14,0,none⟩,1),Nat.zero_le _,hle1,hE0⟩);rintro⟨⟨i,H₂,G,gc⟩,hi,hle2,hE⟩ ih;simp only at hi hle2 hE;show Tc M St _ _ H₂ _ [(1,.int .i64 (n:Nat)),(2,.pointer (some ⟨b2,0,none⟩)),(5,.slice G (k.refEars i).length gc),(6,.int .i64 (i:Nat))] [(b2,true,.cells ⟨(k.val A lc B tc).cells.toList⟩ 25 (0,0))] _ _;by_cases c1:i=n
 · clear ih;subst c1;refine U14 ?_;refine .rt hK func93 results93 [_] ?_;exact fun H' hs=> ⟨View.le_trans hle2 hs.base,G,gc,rfl,hE.le hs.base⟩
 · have c2 :i<n:=by omega
   have hin:i<k.nt:=by omega
   obtain h0|⟨tb,to,tf,ts,tt,tz,rfl,htb,htl⟩:=hTT
   · omega
   have f1:=htl i hin;have htb2:=hle2 _ _ htb;have hpx:=k.train_in hok hin;obtain⟨hpl,hpk⟩:=pauses_kinds ha hin;obtain⟨a,hpa⟩:∃a:Nat,k.pf i=(a:Nat):=⟨(k.pf i).toNat,by omega⟩
   obtain⟨b,hpb⟩:∃b:Nat,k.pt i=(b:Nat):=⟨(k.pt i).toNat,by omega⟩
   have hcan:k.can i=canL a b (k.kind (k.qf i)) (k.kind (k.qt i)):=by unfold Bk.can;rw[hpa,hpb,Int.toNat_natCast,Int.toNat_natCast]
   obtain⟨W,hW⟩:∃W,(k.refEars i).flatMap (k.hears i)=W:=⟨_,rfl⟩
   have hWl:W.length≤12 ^ 7:=by
     have h1:=hears_len hok hin (k.refEars i);have h2:=refEars_len hok i (by omega);rw[hW] at h1;have h3:12 ^ i≤12 ^ 6:=Nat.pow_le_pow_right (by decide) (by omega);omega
   have hlB:(k.refEars i).length≤12 ^ 6:=Nat.le_trans (refEars_len hok i (by omega)) (Nat.pow_le_pow_right (by decide) (by omega));have hk2:=k.kind_le (k.qt i);have hnext:k.refEars (i+1)=W.foldl addE []:=by rw[Bk.refEars,hW]
   have hbd:∀x∈k.refEars i,x.heard.length≤1000∧x.pend≤1000:=fun x hx=> by
     have:=Bk.ears_bd hok (by omega) ((k.mem_refEars i x).1 hx);omega
   refine U18 ?_;refine .al fun b7=> ?_;refine U2 ?_;rw[hpa,hpb];refine U4 ?_;refine To.callF rfl rfl rfl rfl rfl rfl (by decide) (FnT.h (by have h:=Pauses_c M H₂ k A lc (some ⟨tb,to,none⟩) tc ha i hin;rw[hpa,hpb] at h;exact h)) (fun v H₃ hv=> ?_);obtain⟨hle3,P,pc,rfl,hP⟩:=hv;have hE3:=hE.le hle3;obtain⟨len,hlen⟩:∃len,(k.pausesTo i 3).length=len:=⟨_,rfl⟩
   rw[hlen] at hP hpl hpk ⊢;generalize exAt (k.pausesTo i 3)=pq at hP hpk;generalize hlo:k.kind (k.qf i)=lo at hpl hpk hcan;generalize hhi:k.kind (k.qt i)=hi at hpl hcan hk2;refine U12 ?_;refine Tc.db (Tc.loopInv (σ:= { s:Nat×Gl 122 3×List Ear//s.1≤(k.refEars i).length∧(s.2.1.l=earsV (s.2.2.foldl addE [])∧s.2.1.n=(s.2.2.foldl addE []).length)∧s.2.2++((k.refEars i).drop s.1).flatMap (k.hears i)=W }) (fun s=> ([(1,.int .i64 (n:Nat)),(2,.pointer (some ⟨b2,0,none⟩)),(5,.slice G (k.refEars i).length gc),(6,.int .i64 (i:Nat)),(7,.pointer (some ⟨b7,0,none⟩)),(8,.slice P len pc),(9,s.1.2.1.val),(10,.int .i64 (s.1.1:Nat))],[(b7,true,.cells ⟨[.int .i64 (a:Nat),.int .i64 (b:Nat),.int .i64 (k.qf i),.int .i64 (k.qt i)]⟩ 47 (0,0)),(b2,true,.cells ⟨(k.val A lc (some ⟨tb,to,none⟩) tc).cells.toList⟩ 25 (0,0))]++s.1.2.1.bl)) (fun s=> (k.refEars i).length-s.1.1) ?_ ⟨(0,Gl.nil 122 3,[]),Nat.zero_le _,⟨rfl,rfl⟩,by simp only[List.nil_append,List.drop_zero];exact hW⟩);rintro⟨⟨j,g,dn⟩,hj,⟨hgl,hgn⟩,hdn⟩ ih2;simp only at hj hgl hgn hdn;show Tc M St _ _ H₃ _ [(1,.int .i64 (n:Nat)),(2,.pointer (some ⟨b2,0,none⟩)),(5,.slice G (k.refEars i).length gc),(6,.int .i64 (i:Nat)),(7,.pointer (some ⟨b7,0,none⟩)),(8,.slice P len pc),(9,g.val),(10,.int .i64 (j:Nat))] ([(b7,true,.cells ⟨[.int .i64 (a:Nat),.int .i64 (b:Nat),.int .i64 (k.qf i),.int .i64 (k.qt i)]⟩ 47 (0,0)),(b2,true,.cells ⟨(k.val A lc (some ⟨tb,to,none⟩) tc).cells.toList⟩ 25 (0,0))]++g.bl) _ _;by_cases d1:j=(k.refEars i).length
   · clear ih2;rw[d1,List.drop_length,List.flatMap_nil,List.append_nil] at hdn;subst hdn;rw[←hnext] at hgl hgn;have hgv:g.val=.slice (g.blk.map fun b=> ⟨b,0,none⟩) (k.refEars (i+1)).length g.cap:=by unfold Gl.val;rw[hgn]
     rw[hgv];refine U20 ?_;refine Tc.absorb [(b7,true,.cells ⟨[.int .i64 (a:Nat),.int .i64 (b:Nat),.int .i64 (k.qf i),.int .i64 (k.qt i)]⟩ 47 (0,0)),(b2,true,.cells ⟨(k.val A lc (some ⟨tb,to,none⟩) tc).cells.toList⟩ 25 (0,0))] g.bl (List.Perm.refl _) (fun H₄ hle4 hb4=> ?_);exact Tc.db (ih ⟨(i+1,H₄,g.blk.map fun b=> ⟨b,0,none⟩,g.cap),by simp only;omega,View.le_trans hle2 (View.le_trans hle3 hle4),ears_of g hb4 hgl⟩ (by simp only;omega))
   · have d2:j<(k.refEars i).length:=by omega
     obtain⟨x,hx⟩:∃x,(k.refEars i)[j]? =some x:=⟨_,List.getElem?_eq_getElem d2⟩
     have hxb:=hbd x (List.mem_of_getElem? hx);have hdrop:(k.refEars i).drop j=x::(k.refEars i).drop (j+1):=by
       rw[List.drop_eq_getElem_cons d2];rw[List.getElem?_eq_getElem d2] at hx;cases hx
       rfl
     obtain hz|⟨eb,eo,ef,es,et,ez,rfl,heb,hel⟩:=hE3
     · rw[hz] at d2;cases d2
     have f2:=hel j x hx;rw[hdrop,List.flatMap_cons] at hdn;have hhr:k.hears i x=(canL a b lo hi).map fun y=> x.hear y.1 y.2:=by unfold Bk.hears;rw[hcan]
     rw[hhr] at hdn;obtain⟨T,hT⟩:∃T,((k.refEars i).drop (j+1)).flatMap (k.hears i)=T:=⟨_,rfl⟩
     rw[hT] at hdn;have hih2:=fun(g':Gl 122 3) (dn':List Ear) (h1:g'.l=earsV (dn'.foldl addE [])∧g'.n=(dn'.foldl addE []).length) (h2:dn'++T=W)=> ih2 ⟨(j+1,g',dn'),by simp only;omega,h1,by simp only;rw[hT];exact h2⟩ (by simp only;omega);clear ih2 ih;refine U20 ?_;refine Tc.db (Tc.loopInv (σ:= { s:Nat×Gl 122 3×List Ear//a≤s.1∧(s.2.1.l=earsV (s.2.2.foldl addE [])∧s.2.1.n=(s.2.2.foldl addE []).length)∧s.2.2++((canL s.1 b lo hi).map (fun y=> x.hear y.1 y.2)++T)=W }) (fun s=> ([(1,.int .i64 (n:Nat)),(2,.pointer (some ⟨b2,0,none⟩)),(5,.slice (some ⟨eb,eo,none⟩) (k.refEars i).length gc),(6,.int .i64 (i:Nat)),(7,.pointer (some ⟨b7,0,none⟩)),(8,.slice P len pc),(9,s.1.2.1.val),(10,.int .i64 (j:Nat)),(11,.int .i64 (s.1.1:Nat))],[(b7,true,.cells ⟨[.int .i64 (a:Nat),.int .i64 (b:Nat),.int .i64 (k.qf i),.int .i64 (k.qt i)]⟩ 47 (0,0)),(b2,true,.cells ⟨(k.val A lc (some ⟨tb,to,none⟩) tc).cells.toList⟩ 25 (0,0))]++s.1.2.1.bl)) (fun s=> b+1-s.1.1) ?_ ⟨(a,g,dn),Nat.le_refl _,⟨hgl,hgn⟩,hdn⟩);clear hgl hgn hdn;rintro⟨⟨m,g1,dn1⟩,hm,⟨hgl1,hgn1⟩,hdn1⟩ ih3;simp only at hm hgl1 hgn1 hdn1;show Tc M St _ _ H₃ _ [(1,.int .i64 (n:Nat)),(2,.pointer (some ⟨b2,0,none⟩)),(5,.slice (some ⟨eb,eo,none⟩) (k.refEars i).length gc),(6,.int .i64 (i:Nat)),(7,.pointer (some ⟨b7,0,none⟩)),(8,.slice P len pc),(9,g1.val),(10,.int .i64 (j:Nat)),(11,.int .i64 (m:Nat))] ([(b7,true,.cells ⟨[.int .i64 (a:Nat),.int .i64 (b:Nat),.int .i64 (k.qf i),.int .i64 (k.qt i)]⟩ 47 (0,0)),(b2,true,.cells ⟨(k.val A lc (some ⟨tb,to,none⟩) tc).cells.toList⟩ 25 (0,0))]++g1.bl) _ _;by_cases d3:m≤b
     · rw[canL_cons d3] at hdn1;have hih3:=fun(g':Gl 122 3) (dn':List Ear) (h1:g'.l=earsV (dn'.foldl addE [])∧g'.n=(dn'.foldl addE []).length) (h2:dn'++((canL (m+1) b lo hi).map (fun y=> x.hear y.1 y.2)++T)=W)=> ih3 ⟨(m+1,g',dn'),by simp only;omega,h1,h2⟩ (by simp only;omega);clear ih3 hih2;refine U18 ?_;refine Tc.db (Tc.loopInv (σ:= { s:Nat×Gl 122 3×List Ear//s.1≤len∧(s.2.1.l=earsV (s.2.2.foldl addE [])∧s.2.1.n=(s.2.2.foldl addE []).length)∧s.2.2++((canFrom m b lo hi (lo+s.1)).map (fun y=> x.hear y.1 y.2)++T)=W }) (fun s=> ([(1,.int .i64 (n:Nat)),(2,.pointer (some ⟨b2,0,none⟩)),(5,.slice (some ⟨eb,eo,none⟩) (k.refEars i).length gc),(6,.int .i64 (i:Nat)),(7,.pointer (some ⟨b7,0,none⟩)),(8,.slice P len pc),(9,s.1.2.1.val),(10,.int .i64 (j:Nat)),(11,.int .i64 (m:Nat)),(12,.int .i64 (s.1.1:Nat))],[(b7,true,.cells ⟨[.int .i64 (a:Nat),.int .i64 (b:Nat),.int .i64 (k.qf i),.int .i64 (k.qt i)]⟩ 47 (0,0)),(b2,true,.cells ⟨(k.val A lc (some ⟨tb,to,none⟩) tc).cells.toList⟩ 25 (0,0))]++s.1.2.1.bl)) (fun s=> len-s.1.1) ?_ ⟨(0,g1,dn1),Nat.zero_le _,⟨hgl1,hgn1⟩,hdn1⟩);clear hgl1 hgn1 hdn1;rintro⟨⟨d,g2,dn2⟩,hd,⟨hgl2,hgn2⟩,hdn2⟩ ih4;simp only at hd hgl2 hgn2 hdn2;show Tc M St _ _ H₃ _ [(1,.int .i64 (n:Nat)),(2,.pointer (some ⟨b2,0,none⟩)),(5,.slice (some ⟨eb,eo,none⟩) (k.refEars i).length gc),(6,.int .i64 (i:Nat)),(7,.pointer (some ⟨b7,0,none⟩)),(8,.slice P len pc),(9,g2.val),(10,.int .i64 (j:Nat)),(11,.int .i64 (m:Nat)),(12,.int .i64 (d:Nat))] ([(b7,true,.cells ⟨[.int .i64 (a:Nat),.int .i64 (b:Nat),.int .i64 (k.qf i),.int .i64 (k.qt i)]⟩ 47 (0,0)),(b2,true,.cells ⟨(k.val A lc (some ⟨tb,to,none⟩) tc).cells.toList⟩ 25 (0,0))]++g2.bl) _ _;by_cases d4:d=len
       · clear ih4;rw[canFrom_nil (by omega)] at hdn2;subst d4;refine U16 ?_;exact Tc.db (hih3 g2 dn2 ⟨hgl2,hgn2⟩ hdn2)
       · have d5:d<len:=by omega
         rw[canFrom_cons (by omega),List.map_cons,List.cons_append] at hdn2;obtain hz|⟨pb,po,pf,ps,pt,pz,rfl,hpb',hpl'⟩:=hP
         · omega
         have f5:=hpl' d d5;have hkd:=hpk d d5;have hdl:(dn2.foldl addE []).length≤100000000:=by
           have h1:=adds_le dn2 [];have h2:=congrArg List.length hdn2;rw[List.length_append,List.length_cons] at h2;simp only[List.length_nil] at h1;omega
         have hhear:=fun(H':View)=> HearR_c M H' k A lc (some ⟨tb,to,none⟩) tc x m (pq d) hxb.1 hxb.2 (by omega);rw[hkd.1] at hhear;obtain⟨y,hy⟩:∃y,x.hear m (lo+d)=y:=⟨_,rfl⟩
         rw[hy] at hhear;have hdn3:dn2++y::((canFrom m b lo hi (lo+d+1)).map (fun y=> x.hear y.1 y.2)++T)=W:=by rw[←hy];exact hdn2
         refine U12 ?_;refine Tc.drT [12] [] [] 2 mixed rfl ?_;refine .oo 0 ?_;refine .oo 1 ?_;refine .oo 2 ?_;refine .oo 3 ?_;refine .oo 4 ?_;refine .oo 5 ?_;refine .oo 6 ?_;refine .oo 7 ?_;refine .oo 8 ?_;refine .oo 9 ?_;refine .oo 10 ?_;refine Ta.tkC 11 (by kernel_rfl) rfl rfl (by decide) rfl rfl (OpV.takeCall rfl rfl rfl rfl (fun H hs=> .h (hhear H))) ?_;refine Ta.each [12] (by kernel_rfl) rfl ⟨TaOp.mk rfl rfl rfl (Or.callGrow (g:=g2) 2 (fun g':Gl 122 3=> g'.l=earsV (addE (dn2.foldl addE []) y)∧g'.n=(addE (dn2.foldl addE []) y).length) rfl rfl rfl rfl rfl rfl (by decide) (fun H₁ H' _ h2=> .h (addE_c M g2 (dn2.foldl addE []) hgl2 hgn2 hdl y H₁ H' h2)) (fun g3 hg3=> ⟨S3.mk (by exact List.sublist_append_left _ _) (.inl (by kernel_rfl)),?_⟩)),trivial⟩;refine .ow 13 ?_;refine .dn ?_;refine U6 ?_;exact Tc.db (ih4 ⟨(d+1,g3,dn2++[y]),by simp only;omega,by simp only;rw[List.foldl_append];exact hg3,by simp only;rw[List.append_assoc];exact hdn3⟩ (by simp only;omega))
     · clear ih3;rw[canL_nil (by omega),List.map_nil,List.nil_append] at hdn1;refine U17 ?_;exact Tc.db (hih2 g1 dn1 ⟨hgl1,hgn1⟩ hdn1)
end
def allTo:Nat→List Int
 | 0=> []
 | j+1=> allRes j
theorem allTo_succ:∀j,allTo (j+1)=allTo j++[((j:Nat):Int)-1]
 | 0=> rfl
 | j+1=> by
   show allRes j++[((j:Nat):Int)]=allRes j++[((j+1:Nat):Int)-1];rw[show((j+1:Nat):Int)-1=((j:Nat):Int) by omega]
def Bk.refRes(k:Bk)(j:Nat):List Int:=(allTo j).filter fun z=> decide (z∈k.resL)
theorem refRes_len(k:Bk):(k.refRes (k.nl+1)).length=k.resL.length:=by
 rw[←resTo_len,res_filter];rfl
theorem refRes_le(k:Bk)(j:Nat):(k.refRes j).length≤j:=by
 have h:∀j,(allTo j).length=j:=by
   intro j;induction j with
   | zero=> rfl
   | succ j ih=> rw[allTo_succ,List.length_append,ih];rfl
 have:=List.length_filter_le (fun z=> decide (z∈k.resL)) (allTo j);unfold Bk.refRes;rw[h] at this;exact this
def Bk.anyTo(k:Bk)(z:Int)(i:Nat):Bool:=((k.refEars k.nt).take i).any fun e=> decide (firstI (k.line e.heard)=z)
theorem anyTo_succ {k:Bk}{z:Int}{i:Nat}{e:Ear}(h:(k.refEars k.nt)[i]? =some e):k.anyTo z (i+1)=(k.anyTo z i||decide (firstI (k.line e.heard)=z)):=by
 unfold Bk.anyTo;have hi:=(List.getElem?_eq_some_iff.1 h).1;rw[List.take_add_one,h,List.any_append];simp
theorem anyTo_all {k:Bk}{z:Int}:k.anyTo z (k.refEars k.nt).length=decide (z∈k.resL):=by
 unfold Bk.anyTo;rw[List.take_length,Bool.eq_iff_iff,List.any_eq_true,decide_eq_true_iff,Bk.mem_resL];constructor
 · rintro⟨e,he,h⟩;exact⟨e,(k.mem_refEars _ e).1 he,(of_decide_eq_true h).symm⟩
 · rintro⟨e,he,h⟩;exact⟨e,(k.mem_refEars _ e).2 he,decide_eq_true h.symm⟩
section
variable(M:Md prog)(H:View)
theorem Results_c(k:Bk)(A:Option Addr)(lc:Nat)(B:Option Addr)(tc:Nat)(hk:BkAt H k A lc B tc)(ha:k.alarm=0):
   CallT M 96 #[k.val A lc B tc] H (fun v H'=> H.le H'∧∃G c',v=.slice G (k.refRes (k.nl+1)).length c'∧FreeAt H' G (k.refRes (k.nl+1)).length (exAt (k.refRes (k.nl+1)))):=by
 obtain⟨hgg,hnl,hnt,hok⟩:=Bk.valid ha;refine .en func96 ntmps96 fun St c cs hK=> ?_;refine U2 ?_;refine .bo fun b1=> ?_;refine U8 ?_;refine To.callF rfl rfl rfl rfl rfl rfl (by decide) (FnT.h (EarsOf_c M H k A lc B tc hk.trains ha k.nt (Nat.le_refl _))) (fun v H₂ hv=> ?_);obtain⟨hle,E,ec,rfl,hE⟩:=hv;have hel:(k.refEars k.nt).length≤12 ^ 6:=Nat.le_trans (refEars_len hok k.nt (Nat.le_refl _)) (Nat.pow_le_pow_right (by decide) hnt);have hlo:=fun(H':View) (h:H₂.le H') s=> LineOf_c M H' k A lc B tc (hk.rows.le (View.le_trans hle h)) (by omega) s;refine U12 ?_;refine Tc.db (Tc.loopInv (σ:= { x:Nat×Gl 3 1//x.1≤k.nl+1∧x.2.n=(k.refRes x.1).length∧x.2.l=intsL (k.refRes x.1) }) (fun x=> ([(1,.pointer (some ⟨b1,0,none⟩)),(3,.slice E (k.refEars k.nt).length ec),(4,x.1.2.val),(5,.int .i64 ((x.1.1:Nat)-1))],[(b1,true,.cells ⟨(k.val A lc B tc).cells.toList⟩ 25 (0,0))]++x.1.2.bl)) (fun x=> k.nl+1-x.1.1) ?_ ⟨(0,Gl.nil 3 1),Nat.zero_le _,rfl,rfl⟩);rintro⟨⟨j,g⟩,hj,hgn,hgl⟩ ih;simp only at hj hgn hgl;show Tc M St _ _ _ _ [(1,.pointer (some ⟨b1,0,none⟩)),(3,.slice E (k.refEars k.nt).length ec),(4,g.val),(5,.int .i64 ((j:Nat)-1))] ([(b1,true,.cells ⟨(k.val A lc B tc).cells.toList⟩ 25 (0,0))]++g.bl) _ _;have hrl:=refRes_le k j;by_cases c1:j=k.nl+1
 · clear ih;subst c1;refine U16 ?_;refine .rt hK func96 results96 [_] ?_;exact fun H' hs=> ⟨View.le_trans hle hs.base,g.blk.map fun b=> ⟨b,0,none⟩,g.cap,by rw[←hgn];rfl,cl_at g (fun x hx=> hs.at_ x (by simp[hx])) (hgl.trans (clL_ints _)) hgn⟩
 · have c2:j<k.nl+1:=by omega
   obtain⟨z,hz⟩:∃z:Int,((j:Nat):Int)-1=z:=⟨_,rfl⟩
   have hz2: -1≤z∧z<(k.nl:Nat):=by omega
   have hz3:z+1=((j+1:Nat):Int)-1:=by omega
   have hres:k.refRes (j+1)=k.refRes j++(if decide (z∈k.resL)=true then [z] else []):=by
     unfold Bk.refRes;rw[allTo_succ,List.filter_append,hz]
     congr 1
     by_cases q:z∈k.resL
     · simp[q]
     · simp[q]
   rw[hz];have hih:=fun(g':Gl 3 1) (h1:g'.n=(k.refRes (j+1)).length) (h2:g'.l=intsL (k.refRes (j+1)))=> ih ⟨(j+1,g'),by simp only;omega,h1,h2⟩ (by simp only;omega);simp only[←hz3] at hih;clear ih;refine U23 ?_;refine Tc.db (Tc.loopInv (σ:= { i:Nat//i≤(k.refEars k.nt).length }) (fun i=> ([(1,.pointer (some ⟨b1,0,none⟩)),(3,.slice E (k.refEars k.nt).length ec),(4,g.val),(5,.int .i64 z),(6,.bool (k.anyTo z i.1)),(7,.int .i64 (i.1:Nat))],[(b1,true,.cells ⟨(k.val A lc B tc).cells.toList⟩ 25 (0,0))]++g.bl)) (fun i=> (k.refEars k.nt).length-i.1) ?_ ⟨0,Nat.zero_le _⟩);rintro⟨i,hi⟩ ih2;show Tc M St _ _ _ _ [(1,.pointer (some ⟨b1,0,none⟩)),(3,.slice E (k.refEars k.nt).length ec),(4,g.val),(5,.int .i64 z),(6,.bool (k.anyTo z i)),(7,.int .i64 (i:Nat))] ([(b1,true,.cells ⟨(k.val A lc B tc).cells.toList⟩ 25 (0,0))]++g.bl) _ _;by_cases d1:i=(k.refEars k.nt).length
   · clear ih2;subst d1;rw[anyTo_all];by_cases d2:z∈k.resL
     · rw[decide_eq_true d2,if_pos rfl] at hres;rw[decide_eq_true d2];refine U18 ?_;refine .e (.bs (zz:=fun bs=> ?_));refine .e (Or.append (E:=en) 2 rfl rfl rfl rfl rfl rfl rfl rfl rfl rfl rfl rfl rfl rfl rfl (fun H hs=> SrcAt.of (hs.get (i:=0) rfl) (Nat.le_of_ble_eq_true rfl)) rfl (by omega) rfl (by decide) (fun g2 hn2 hl2=> ?_));refine U8 ?_;exact Tc.db (hih g2 (by rw[hres,List.length_append,hn2,hgn];rfl) (by rw[hres,hl2,hgl];unfold intsL;rw[List.map_append];rfl))
     · rw[decide_eq_false d2,if_neg (by simp),List.append_nil] at hres;rw[decide_eq_false d2];refine U22 ?_;exact Tc.db (hih g (by rw[hres];exact hgn) (by rw[hres];exact hgl))
   · have d2:i<(k.refEars k.nt).length:=by omega
     obtain⟨x,hx⟩:∃x,(k.refEars k.nt)[i]? =some x:=⟨_,List.getElem?_eq_getElem d2⟩
     have hnx:=anyTo_succ (z:=z) hx;have hih2:=ih2 ⟨i+1,by omega⟩ (by simp only;omega);simp only[hnx] at hih2;obtain hz|⟨eb,eo,ef,es,et,ez,rfl,heb,hel2⟩:=hE
     · rw[hz] at d2;cases d2
     have f2:ldL false 1 es (eo+((i:Nat):Int).toNat*3+0)=some (strV x.heard):=ldL_cell (d:=0) (hel2 i x hx) (by decide);have hfi: -1≤firstI (k.line x.heard)∧firstI (k.line x.heard)<1000000:=by
       cases h:k.line x.heard with
       | none=> exact⟨Int.le_refl _,by decide⟩
       | some y=>
         have h2:=(Bk.line_at h).1;have h3:firstI (some y)=((y:Nat):Int):=rfl;omega
     have hlx:=fun(H':View) (h:H₂.le H')=> hlo H' h x.heard;generalize firstI (k.line x.heard)=y at hih2 hfi hlx;generalize k.anyTo z i=bb at hih2 ⊢;cases bb with
     | true=>
       rw[Bool.true_or] at hih2;refine U12 ?_;refine Tc.dr [] [] mixed rfl ?_;refine .nn 0 ?_;refine .nn 1 ?_;refine .nw 2 ?_;refine .nw 3 ?_;refine .nw 4 ?_;refine .nw 5 ?_;refine .nw 6 ?_;refine .nw 7 ?_;refine .nw 8 ?_;refine .nw 9 ?_;refine .nw 10 ?_;refine .nn 11 ?_;refine .nn 12 ?_;refine .dn ?_;refine U6 ?_;exact Tc.db (hih2)
     | false=>
       rw[Bool.false_or] at hih2;by_cases d3:y=z
       · rw[decide_eq_true d3] at hih2;refine U12 ?_;refine Tc.drT [] [] [] 1 mixed rfl ?_;refine .oo 0 ?_;refine .oo 1 ?_;refine .oo 2 ?_;refine .oo 3 ?_;refine .oo 4 ?_;refine .oo 5 ?_;refine .oo 6 ?_;refine .oo 7 ?_;refine Ta.tkC 8 (by kernel_rfl) rfl rfl (by decide) rfl rfl (OpV.takeCall rfl rfl rfl rfl (fun H hs=> .h (hlx H hs.base))) ?_;refine .oo 9 ?_;refine .oo 10 ?_;refine .oo 11 ?_;refine .oo 12 ?_;refine .dn ?_;refine U6 ?_;exact Tc.db (hih2)
       · rw[decide_eq_false d3] at hih2;refine U12 ?_;refine Tc.drT [] [] [] 1 mixed rfl ?_;refine .oo 0 ?_;refine .oo 1 ?_;refine .oo 2 ?_;refine .oo 3 ?_;refine .oo 4 ?_;refine .oo 5 ?_;refine .oo 6 ?_;refine .oo 7 ?_;refine Ta.tkC 8 (by kernel_rfl) rfl rfl (by decide) rfl rfl (OpV.takeCall rfl rfl rfl rfl (fun H hs=> .h (hlx H hs.base))) ?_;refine .oo 9 ?_;refine .oo 10 ?_;refine .oo 11 ?_;refine .oo 12 ?_;refine .dn ?_;refine U6 ?_;exact Tc.db (hih2)
end
set_option maxHeartbeats 1000000
theorem fate_line {k:Bk}{e:Ear}{over:Bool}{i:Nat}(h:k.line e.heard=some i):k.fate e over=(i:Nat):=by unfold Bk.fate;rw[h]
theorem fate_none {k:Bk}{e:Ear}{over:Bool}(h:k.line e.heard=none)(h2:((e.deaf||over)||(firstTo (fun i=> begins (k.num i) e.heard) k.nl).isNone)=true):k.fate e over= -1:=by
 unfold Bk.fate;rw[h];exact if_pos h2
section
variable {k:Bk}{t:Nat}{x:Quad}
end
set_option maxHeartbeats 8000000
theorem fate_in {k:Bk}{e:Ear}{over:Bool}: -2≤k.fate e over∧k.fate e over≤(k.nl:Nat):=by
 unfold Bk.fate;cases h:k.line e.heard with
 | some i=>
   have:=(Bk.line_at h).1;simp only;omega
 | none=> simp only;split <;> omega
section
variable(M:Md prog)(H:View)
theorem FateR_c(k:Bk)(A:Option Addr)(lc:Nat)(B:Option Addr)(tc:Nat)(hA:RowsAt H k A lc)(hn:k.nl≤1000)(e:Ear)(over:Bool):
   CallT M 102 #[k.val A lc B tc,e.val,.bool over] H (fun v H'=> H.le H'∧v=.int .i64 (k.fate e over)):=by
 obtain⟨s,m,df⟩:=e;show CallT M 102 #[k.val A lc B tc,earV s m df,.bool over] H _;have hlo:=fun(H':View) (h:H.le H')=> LineOf_c M H' k A lc B tc (hA.le h) hn s;cases hl:k.line s with
 | some i=>
   have hi:=(Bk.line_at hl).1;rw[fate_line (e:=⟨s,m,df⟩) hl];rw[hl] at hlo;have e1:firstI (some i)=((i:Nat):Int):=rfl;rw[e1] at hlo;refine .en func102 ntmps102 fun St c cs hK=> ?_;refine U2 ?_;refine .bo fun b3=> ?_;refine .bo fun b4=> ?_;refine U8 ?_;refine .c rfl rfl rfl rfl (fun H hs=> .h (hlo H hs.base)) ?_;refine U13 ?_;refine .rt hK func102 results102 [_] ?_;exact okB
 | none=>
   rw[hl] at hlo;have e1:firstI none= -1:=rfl;rw[e1] at hlo;by_cases q:(df||over)=true
   · rw[fate_none (e:=⟨s,m,df⟩) hl (by show((df||over)||_)=true;rw[q];rfl)];refine .en func102 ntmps102 fun St c cs hK=> ?_;cases df with
     | true=>
       refine U2 ?_;refine .bo fun b3=> ?_;refine .bo fun b4=> ?_;refine U8 ?_;refine .c rfl rfl rfl rfl (fun H hs=> .h (hlo H hs.base)) ?_;refine U23 ?_;refine .rt hK func102 results102 [_] ?_;exact okB
     | false=>
       rw[Bool.false_or] at q;subst q;refine U2 ?_;refine .bo fun b3=> ?_;refine .bo fun b4=> ?_;refine U8 ?_;refine .c rfl rfl rfl rfl (fun H hs=> .h (hlo H hs.base)) ?_;refine U23 ?_;refine .rt hK func102 results102 [_] ?_;exact okB
   · obtain⟨rfl,rfl⟩:df=false∧over=false:=by cases df <;> cases over <;> simp_all
     refine .en func102 ntmps102 fun St c cs hK=> ?_;refine U2 ?_;refine .bo fun b3=> ?_;refine .bo fun b4=> ?_;refine U8 ?_;refine .c rfl rfl rfl rfl (fun H hs=> .h (hlo H hs.base)) ?_;refine U26 ?_;refine Tc.db (Tc.loopInv (σ:= { j:Nat//j≤k.nl∧firstTo (fun i=> begins (k.num i) s) j=none }) (fun j=> ([(3,.pointer (some ⟨b3,0,none⟩)),(4,.pointer (some ⟨b4,0,none⟩)),(8,.int .i64 (j.1:Nat))],[(b4,true,.cells ⟨[strV s,.int .i64 (m:Nat),.bool false]⟩ 122 (0,0)),(b3,true,.cells ⟨(k.val A lc B tc).cells.toList⟩ 25 (0,0))])) (fun j=> k.nl-j.1) ?_ ⟨0,Nat.zero_le _,rfl⟩);rintro⟨j,hj,hno⟩ ih;show Tc M St _ _ _ _ [(3,.pointer (some ⟨b3,0,none⟩)),(4,.pointer (some ⟨b4,0,none⟩)),(8,.int .i64 (j:Nat))] [(b4,true,.cells ⟨[strV s,.int .i64 (m:Nat),.bool false]⟩ 122 (0,0)),(b3,true,.cells ⟨(k.val A lc B tc).cells.toList⟩ 25 (0,0))] _ _;by_cases c1:j=k.nl
     · subst c1;rw[fate_none (e:=⟨s,m,false⟩) hl (by show((false||false)||(firstTo (fun i=> begins (k.num i) s) k.nl).isNone)=true;rw[hno];rfl)] at hK;clear ih;refine U15 ?_;refine .rt hK func102 results102 [_] ?_;exact okB
     · have c2:j<k.nl:=by omega
       obtain⟨_,h0|⟨ab,ao,f,gs,gt,gz,rfl,hb,hrow⟩⟩:=hA
       · omega
       obtain⟨F,fc,f1,_,_⟩:=hrow j c2;have f2:ldL false 1 gs (ao+((j:Nat):Int).toNat*3+1)=some (strV (k.num j)):=ldL_cell f1 (by decide);cases hpp:begins (k.num j) s with
       | true=>
         have hsome:firstTo (fun i=> begins (k.num i) s) k.nl=some j:=firstTo_stays (p:=fun i=> begins (k.num i) s) (j:=j+1) (by rw[firstTo,hno];simp[hpp]) _ (by omega);have hfa:k.fate ⟨s,m,false⟩ false= -2:=by
           unfold Bk.fate;rw[hl];simp only;rw[hsome];rfl
         rw[hfa] at hK;refine U14 ?_;refine Tc.dr [] [] mixed rfl ?_;refine .nn 0 ?_;refine .nn 1 ?_;refine .nn 2 ?_;refine .nn 3 ?_;refine .nn 4 ?_;refine .nn 5 ?_;refine .nn 6 ?_;refine .nn 7 ?_;refine .z 8 rfl (OpV.takeCall rfl rfl rfl rfl (fun H hs=> .h (Begins_c M H (k.num j) s true hpp))) ?_;refine .dn ?_;refine U5 ?_;refine .rt hK func102 results102 [_] ?_;exact okB
       | false=>
         refine U14 ?_;refine Tc.dr [] [] mixed rfl ?_;refine .nn 0 ?_;refine .nn 1 ?_;refine .nn 2 ?_;refine .nn 3 ?_;refine .nn 4 ?_;refine .nn 5 ?_;refine .nn 6 ?_;refine .nn 7 ?_;refine .z 8 rfl (OpV.takeCall rfl rfl rfl rfl (fun H hs=> .h (Begins_c M H (k.num j) s false hpp))) ?_;refine .dn ?_;refine U8 ?_;exact Tc.db (ih ⟨j+1,by omega,by simp[firstTo,hno,hpp]⟩ (by simp only;omega))
theorem SettledR_c(k:Bk)(A:Option Addr)(lc:Nat)(B:Option Addr)(tc:Nat)(hk:BkAt H k A lc B tc)(hn:k.small)(hnm:∀i,i<k.nl→(k.name i).length≤1000000)(ha:k.alarm=0):
   CallT M 32 #[k.val A lc B tc] H (fun v H'=> H.le H'∧v=settledV k.settled):=by
 obtain⟨hgg,hnl,hnt,hok⟩:=Bk.valid ha;have hchk:=fun(H':View) (h:H.le H')=> isV (refCheckBook_c M H' k A lc B tc (hk.le h) hn hnm) (w':=.int .i64 0) (by rw[ha]);refine .en func32 ntmps32 fun St c cs hK=> ?_;refine U2 ?_;refine .bo fun b1=> ?_;refine U9 ?_;refine .c rfl rfl rfl rfl (fun H hs=> .h (hchk H hs.base)) ?_;refine U15 ?_;refine Tc.db (Tc.loopB (σ:= { s:Nat×View//s.1≤k.nt+1∧H.le s.2∧k.settledTo s.1=none }) (fun s=> (s.1.2,[(1,.pointer (some ⟨b1,0,none⟩)),(7,.int .i64 (s.1.1:Nat))],[(b1,true,.cells ⟨(k.val A lc B tc).cells.toList⟩ 25 (0,0))])) (fun s=> k.nt+1-s.1.1) ?_ ⟨(0,H),Nat.zero_le _,View.le_refl _,rfl⟩);rintro⟨⟨n,H₂⟩,hn1,hle2,hno⟩ ih;simp only at hn1 hle2 hno;show Tc M St _ _ H₂ _ [(1,.pointer (some ⟨b1,0,none⟩)),(7,.int .i64 (n:Nat))] [(b1,true,.cells ⟨(k.val A lc B tc).cells.toList⟩ 25 (0,0))] _ _;by_cases c1:n=k.nt+1
 · clear ih;subst c1;have e:k.settled=none:=hno;rw[e] at hK;refine U18 ?_;refine .rt hK func32 results32 [_,_,_,_] ?_;exact fun H' hs=> ⟨View.le_trans hle2 hs.base,rfl⟩
 · have c2 : n<k.nt+1:=by omega
   have hel:(k.refEars n).length≤12 ^ 6:=Nat.le_trans (refEars_len hok n (by omega)) (Nat.pow_le_pow_right (by decide) (by omega));refine U17 ?_;refine To.callF rfl rfl rfl rfl rfl rfl (by decide) (FnT.h (EarsOf_c M H₂ k A lc B tc (hk.trains.le hle2) ha n (by omega))) (fun v H₃ hv=> ?_);obtain⟨hle3,E,ec,rfl,hE⟩:=hv;have hH3:=View.le_trans hle2 hle3;obtain⟨e0,hs0⟩:=k.ears_some hok n (by omega);have hm0:=(k.mem_refEars n e0).2 hs0;have hpos:0<(k.refEars n).length:=List.length_pos_of_mem hm0;obtain⟨x0,hx0⟩:∃x,(k.refEars n)[0]? =some x:=⟨_,List.getElem?_eq_getElem hpos⟩
   have hsx:∀ {i:Nat} {x:Ear},(k.refEars n)[i]? =some x→k.earsS n x:=fun h=> (k.mem_refEars n _).1 (List.mem_of_getElem? h);obtain hz|⟨eb,eo,ef,es,et,ez,rfl,heb,hel2⟩:=hE
   · rw[hz] at hpos;cases hpos
   have f0:ldL true 3 es (eo+(0:Int).toNat*3)=some x0.val:=hel2 0 x0 hx0;have hfate:=fun(H':View) (h:H₃.le H') e (t:Bool) (ht:decide (n=k.nt)=t)=> isV (FateR_c M H' k A lc B tc (hk.rows.le (View.le_trans hH3 h)) (by omega) e t) (w':=.int .i64 (k.fate e (decide (n=k.nt)))) (by rw[ht]);obtain⟨ov,hov⟩:∃ov,decide (n=k.nt)=ov:=⟨_,rfl⟩
   have hfx:=fun(H':View) (h:H₃.le H') e=> hfate H' h e ov hov;have hgt:intBin .eql .i64 ((n:Nat):Int) ((k.nt:Nat):Int)=some (.bool ov):=by
     by_cases q:n=k.nt
     · rw[←hov,decide_eq_true q];exact eql_t (by omega)
     · rw[←hov,decide_eq_false q];exact eql_f (by omega)
   have hF0:=fate_in (k:=k) (e:=x0) (over:=decide (n=k.nt));obtain⟨F0,hF⟩:∃F0,k.fate x0 (decide (n=k.nt))=F0:=⟨_,rfl⟩
   rw[hF] at hF0;have hf0:=fun(H':View) (h:H₃.le H')=> hfx H' h x0;simp only[hF] at hf0;refine U3 ?_;refine Tc.dr [] [] mixed rfl ?_;refine .nn 0 ?_;refine .nn 1 ?_;refine .nn 2 ?_;refine .nn 3 ?_;refine .nn 4 ?_;refine .nn 5 ?_;refine .nn 6 ?_;refine .nn 7 ?_;refine .nn 8 ?_;refine .z 9 rfl (OpV.takeCall rfl rfl rfl rfl (fun H hs=> .h (hf0 H hs.base))) ?_;refine .nn 10 ?_;refine .dn ?_;refine U6 ?_;refine Tc.db (Tc.loopInv (σ:= { s:Nat×Int//(1≤s.1∧s.1≤(k.refEars n).length)∧((s.2=F0∧∀j x,j<s.1→(k.refEars n)[j]? =some x→k.fate x (decide (n=k.nt))=F0)∨(s.2= -2∧∃x,k.earsS n x∧k.fate x (decide (n=k.nt))≠F0)) }) (fun s=> ([(1,.pointer (some ⟨b1,0,none⟩)),(7,.int .i64 (n:Nat)),(8,.slice (some ⟨eb,eo,none⟩) (k.refEars n).length ec),(9,.int .i64 s.1.2),(10,.int .i64 (s.1.1:Nat))],[(b1,true,.cells ⟨(k.val A lc B tc).cells.toList⟩ 25 (0,0))])) (fun s=> (k.refEars n).length-s.1.1) ?_ ⟨(1,F0),⟨Nat.le_refl _,hpos⟩,.inl ⟨rfl,fun j x hj hx=> by
     have:j=0:=by omega
     subst this;rw[hx0] at hx;cases hx
     exact hF⟩⟩)
   rintro⟨⟨i,f⟩,⟨hi1,hi2⟩,hcase⟩ ih2;simp only at hi1 hi2 hcase;show Tc M St _ _ H₃ _ [(1,.pointer (some ⟨b1,0,none⟩)),(7,.int .i64 (n:Nat)),(8,.slice (some ⟨eb,eo,none⟩) (k.refEars n).length ec),(9,.int .i64 f),(10,.int .i64 (i:Nat))] [(b1,true,.cells ⟨(k.val A lc B tc).cells.toList⟩ 25 (0,0))] _ _;have hfin: -2≤f∧f≤(k.nl:Nat):=by omega
   by_cases d1:i=(k.refEars n).length
   · clear ih2;subst d1;by_cases d2:f= -2
     · have hnone:k.settledTo (n+1)=none:=by
         have:k.fateAt n=none:=by
           rcases hcase with ⟨h1,h2⟩|⟨h1,x,h2,h3⟩
           · exact Bk.fateAt_none1 (hsx hx0) (by rw[hF,←h1,d2])
           · exact Bk.fateAt_none2 h2 (hsx hx0) (by rw[hF];exact h3)
         rw[Bk.settledTo,hno,this];rfl
       subst d2;refine U23 ?_;exact Tc.db (ih ⟨(n+1,H₃),by simp only;omega,hH3,hnone⟩ (by simp only;omega))
     · rcases hcase with ⟨rfl,h2⟩|⟨h1,_⟩
       · have hat:k.fateAt n=some f:=Bk.fateAt_some d2 hs0 fun e he=> by
           obtain⟨j,hj,h3⟩:=List.getElem_of_mem ((k.mem_refEars n e).2 he);exact h2 j e hj (by rw[List.getElem?_eq_getElem hj,h3])
         have hset:k.settled=some (n,f):=Bk.settledTo_stays (j:=n+1) (by rw[Bk.settledTo,hno,hat];rfl) _ (by omega);rw[hset] at hK;clear ih;refine U25 ?_;refine .rt hK func32 results32 [_,_,_,_] ?_;exact fun H' hs=> ⟨View.le_trans hH3 hs.base,rfl⟩
       · exact(d2 h1).elim
   · have d2 :i<(k.refEars n).length:=by omega
     obtain⟨x,hx⟩:∃x,(k.refEars n)[i]? =some x:=⟨_,List.getElem?_eq_getElem d2⟩
     have f2:=hel2 i x hx;have hfi:=fate_in (k:=k) (e:=x) (over:=decide (n=k.nt));have hf2:=fun(H':View) (h:H₃.le H')=> hfx H' h x;obtain⟨fx,hfx2⟩:∃fx,k.fate x (decide (n=k.nt))=fx:=⟨_,rfl⟩
     rw[hfx2] at hfi;simp only[hfx2] at hf2;by_cases d3:fx=f
     · have hnx:(f=F0∧∀j x,j<i+1→(k.refEars n)[j]? =some x→k.fate x (decide (n=k.nt))=F0)∨(f= -2∧∃x,k.earsS n x∧k.fate x (decide (n=k.nt))≠F0):=by
         rcases hcase with ⟨h1,h2⟩|h
         · refine .inl ⟨h1,fun j y hj hy=> ?_⟩;by_cases q:j=i
           · subst q;rw[hx] at hy;cases hy
             omega
           · exact h2 j y (by omega) hy
         · exact .inr h
       refine U13 ?_;refine Tc.dr [] [] mixed rfl ?_;refine .nn 0 ?_;refine .nn 1 ?_;refine .nn 2 ?_;refine .nn 3 ?_;refine .nn 4 ?_;refine .nn 5 ?_;refine .nn 6 ?_;refine .nn 7 ?_;refine .nn 8 ?_;refine .nn 9 ?_;refine .z 10 rfl (OpV.takeCall rfl rfl rfl rfl (fun H hs=> .h (hf2 H hs.base))) ?_;refine .nn 11 ?_;refine .nn 12 ?_;refine .dn ?_;refine U8 ?_;exact Tc.db (ih2 ⟨(i+1,f),by simp only;omega,hnx⟩ (by simp only;omega))
     · have hnx:∃x,k.earsS n x∧k.fate x (decide (n=k.nt))≠F0:=by
         rcases hcase with ⟨h1,_⟩|⟨_,h⟩
         · exact⟨x,hsx hx,by omega⟩
         · exact h
       refine U13 ?_;refine Tc.dr [] [] mixed rfl ?_;refine .nn 0 ?_;refine .nn 1 ?_;refine .nn 2 ?_;refine .nn 3 ?_;refine .nn 4 ?_;refine .nn 5 ?_;refine .nn 6 ?_;refine .nn 7 ?_;refine .nn 8 ?_;refine .nn 9 ?_;refine .z 10 rfl (OpV.takeCall rfl rfl rfl rfl (fun H hs=> .h (hf2 H hs.base))) ?_;refine .nn 11 ?_;refine .nn 12 ?_;refine .dn ?_;refine U10 ?_;exact Tc.db (ih2 ⟨(i+1, -2),by simp only;omega,.inr ⟨rfl,hnx⟩⟩ (by simp only;omega))
end
theorem with_book {H:View}{k:Bk}{A:Option Addr}{lc:Nat}{B:Option Addr}{tc:Nat}{F:Nat→Option Addr}{fc:Nat→Nat}(h:BookAt H k A lc B tc F fc){H':View}(hle:H.le H')(t:Nat)(x y z w:Int)(g:Gl 47 4)(hg:∀x∈g.bl,H' x.1=some x.2)(hn:g.n=k.nt)(hl:g.l=flatR k.nt (trainL (k.with t x y z w))):
   BookAt H' (k.with t x y z w) A lc (g.blk.map fun b=> ⟨b,0,none⟩) g.cap F fc:=by
 have h1:=g.src (H:=H') hg;have h2:=g.hc;have h3:=h.le hle;unfold Gl.val at h1;rw[hn,hl] at h1;exact⟨h3.hlc,by show k.nt≤_;omega,h3.rows,h1,h3.hfc,h3.free⟩
theorem with_res {k:Bk}{t n:Nat}{q q':Int}(h:k.kind q=k.kind q'):(k.with t (n:Nat) (n:Nat) q q).resL=(k.with t (n:Nat) (n:Nat) q' q').resL:=by
 have e:=earsL_cong (k:=k.with t (n:Nat) (n:Nat) q q) (d:=k.with t (n:Nat) (n:Nat) q' q') (fun i=> by rw[with_can,with_can,h]);have e2:(k.with t (n:Nat) (n:Nat) q q).line=(k.with t (n:Nat) (n:Nat) q' q').line:=rfl;have e3:(k.with t (n:Nat) (n:Nat) q q).nt=(k.with t (n:Nat) (n:Nat) q' q').nt:=rfl;unfold Bk.resL;rw[e,e2,e3]
theorem with_alarm {k:Bk}(ha:k.alarm=0){t:Nat}{x y z w:Int}(h:trainOk x y z w=true):(k.with t x y z w).alarm=0:=by
 obtain⟨h1,h2,h3⟩:=Bk.alarm0 ha;obtain⟨_,_,hnt,hok⟩:=Bk.valid ha;have e1:(k.with t x y z w).pausesA=0:=h1;have e2:(k.with t x y z w).linesA=0:=h2;have e3:(k.with t x y z w).trainsA=0:=by
   unfold Bk.trainsA;have hn:¬6<(k.with t x y z w).nt:=by show ¬6<k.nt;omega
   rw[if_neg hn];have:firstTo (k.with t x y z w).trainBad (k.with t x y z w).nt=none:=(firstTo_none _).2 fun i hi=> by
     unfold Bk.trainBad;have hi':i<k.nt:=hi;have:trainOk ((k.with t x y z w).pf i) ((k.with t x y z w).pt i) ((k.with t x y z w).qf i) ((k.with t x y z w).qt i)=true:=by
       unfold Bk.with
       simp only;split
       · exact h
       · exact hok i hi'
     rw[this];rfl
   rw[this];rfl
 unfold Bk.alarm;rw[if_pos e1,if_pos e2,e3]
section
variable(M:Md prog)(H:View)
theorem withR_n(k:Bk)(A:Option Addr)(lc:Nat)(B:Option Addr)(tc:Nat)(F:Nat→Option Addr)(fc:Nat→Nat)(hB:BookAt H k A lc B tc F fc)(hnt:k.nt≤1000)(t:Nat)(ht:t<k.nt)(x y z w:Int):
   CallT M 113 #[k.val A lc B tc,.int .i64 (t:Nat),trainV x y z w] H (fun v H'=> H.le H'∧∃g:Gl 47 4,v=(k.with t x y z w).val A lc (g.blk.map fun b=> ⟨b,0,none⟩) g.cap∧(g.n=k.nt∧g.l=flatR k.nt (trainL (k.with t x y z w)))∧∀x∈g.bl,H' x.1=some x.2∧H x.1=none):=by
 refine .en func113 ntmps113 fun St c cs hK=> ?_;refine U2 ?_;refine .bo fun b3=> ?_;refine .bo fun b5=> ?_;refine .al fun b6=> ?_;refine U4 ?_;refine .al fun b7=> ?_;refine U4 ?_;refine .e (.bs (zz:=fun bs=> ?_));refine U2 ?_;refine .e (Or.appendAmid (E:=en) (g:=Gl.emp 47 4 bs) (m:=k.nt) (new:=flatR k.nt (trainL k)) (yv:=.slice B k.nt tc) 0 (fun Bb=> Bb++[(b7,true,.cells ⟨(k.val A lc B tc).cells.toList⟩ 25 (0,0)),(b6,true,.cells ⟨[.int .i64 0,.int .i64 0,.slice none 0 0,.slice none 0 0]⟩ 25 (0,0)),(b5,true,.cells ⟨[.int .i64 x,.int .i64 y,.int .i64 z,.int .i64 w]⟩ 47 (0,0)),(b3,true,.cells ⟨(k.val A lc B tc).cells.toList⟩ 25 (0,0))]) (in_one _) rfl rfl rfl rfl rfl rfl rfl rfl rfl rfl rfl rfl rfl rfl rfl (fun H hs=> hB.trains.mono hs.base) (flatR_single (trainL_single k) _) (by show 0+k.nt≤_;omega) rfl (by decide) (fun g hn2 hl2=> ?_));have hn3:g.n=k.nt:=by rw[hn2];show 0+k.nt=_;omega
 have hl3:g.l=flatR k.nt (trainL k):=hl2;clear hn2 hl2;obtain⟨gb,gn,gc,gl,gj,hgl,hgc,hgj,hg0⟩:=g;simp only at hn3 hl3;subst hn3 hl3;cases gb with
 | none=>
   have:=hg0 rfl;omega
 | some tb=>
   have f3:Nat.ble (0+((t:Nat):Int).toNat*4+4) (flatR k.nt (trainL k)++gj).length=true:=by
     refine Nat.ble_eq_true_of_le ?_;rw[List.length_append,flatR_len (f:=trainL k) (sz:=4) (fun _=> rfl),Int.toNat_natCast];omega
   have hst:stL (flatR k.nt (trainL k)++gj) (0+((t:Nat):Int).toNat*4) [.int .i64 x,.int .i64 y,.int .i64 z,.int .i64 w]=flatR k.nt (trainL (k.with t x y z w))++gj:=by
     rw[Nat.zero_add,Int.toNat_natCast];have h1:=flatR_row (f:=trainL k) (g:=trainL (k.with t x y z w)) (sz:=4) (fun _=> rfl) (fun _=> rfl) ht gj (fun i _ hi=> by simp[trainL,Bk.with,hi]);rw[←h1];simp[trainL,Bk.with]
   refine U4 ?_;refine Tc.db (R':= [(1,.int .i64 (t:Nat)),(5,.pointer (some ⟨b5,0,none⟩)),(6,.pointer (some ⟨b6,0,none⟩)),(7,.pointer (some ⟨b7,0,none⟩))]) (L':= [(tb,true,.cells ⟨flatR k.nt (trainL k)++gj⟩ 47 (0,0)),(b7,true,.cells ⟨[.int .i64 k.gap,.int .i64 k.give,.slice A k.nl lc,.slice (some ⟨tb,0,none⟩) k.nt gc]⟩ 25 (0,0)),(b6,true,.cells ⟨[.int .i64 0,.int .i64 0,.slice none 0 0,.slice none 0 0]⟩ 25 (0,0)),(b5,true,.cells ⟨[.int .i64 x,.int .i64 y,.int .i64 z,.int .i64 w]⟩ 47 (0,0))]) ?_;refine U13 ?_;refine .rt hK func113 results113 [_] ?_;refine fun H' hs=> ⟨hs.base,⟨some tb,k.nt,gc,flatR k.nt (trainL (k.with t x y z w)),gj,flatR_len (f:=trainL (k.with t x y z w)) (fun _=> rfl) _,hgc,hgj,fun h=> (nomatch h)⟩,rfl,⟨rfl,rfl⟩,fun yy hy=> ?_⟩
   have h2:H' tb=some (true,.cells ⟨flatR k.nt (trainL (k.with t x y z w))++gj⟩ 47 (0,0)):=hs.get (i:=0) rfl;have h3:H tb=none:=hs.fresh (i:=0) (blk:=tb) (x:=(true,.cells ⟨flatR k.nt (trainL (k.with t x y z w))++gj⟩ 47 (0,0))) rfl;rw[List.mem_singleton.1 hy];exact⟨h2,h3⟩
theorem LeftOfR_c(k:Bk)(A:Option Addr)(lc:Nat)(B:Option Addr)(tc:Nat)(F:Nat→Option Addr)(fc:Nat→Nat)(hB:BookAt H k A lc B tc F fc)(ha:k.alarm=0)(t:Nat)(ht:t<k.nt):
   CallT M 108 #[k.val A lc B tc,.int .i64 (t:Nat)] H (fun v H'=> H.le H'∧v=.int .i64 (k.left t:Nat)):=by
 obtain⟨hgg,hnl,hnt,hok⟩:=Bk.valid ha;obtain⟨htc,h0|⟨tb,to,tf,ts,tt,tz,rfl,htb,htl⟩⟩:=hB.trainsAt
 · omega
 have f1:=htl t ht;have hpx:=k.train_in hok ht;obtain⟨hpl,hpk⟩:=pauses_kinds ha ht;obtain⟨a,hpa⟩:∃a:Nat,k.pf t=(a:Nat):=⟨(k.pf t).toNat,by omega⟩
 obtain⟨b,hpb⟩:∃b:Nat,k.pt t=(b:Nat):=⟨(k.pt t).toNat,by omega⟩
 have hcan:k.can t=canL a b (k.kind (k.qf t)) (k.kind (k.qt t)):=by unfold Bk.can;rw[hpa,hpb,Int.toNat_natCast,Int.toNat_natCast]
 have hk2:=k.kind_le (k.qt t);refine .en func108 ntmps108 fun St c cs hK=> ?_;refine U2 ?_;refine .bo fun b2=> ?_;refine U9 ?_;refine .al fun b5=> ?_;refine U2 ?_;rw[hpa,hpb];refine U4 ?_;refine To.callF rfl rfl rfl rfl rfl rfl (by decide) (FnT.h (by have h:=Pauses_c M H k A lc (some ⟨tb,to,none⟩) tc ha t ht;rw[hpa,hpb] at h;exact h)) (fun v H₂ hv=> ?_);obtain⟨hle2,P,pc,rfl,hP⟩:=hv;have hB2:=hB.le hle2;have hleft:(k.can t).foldl (fun m x=> max m (k.leftOf t x)) 0=k.left t:=rfl;obtain⟨len,hlen⟩:∃len,(k.pausesTo t 3).length=len:=⟨_,rfl⟩
 rw[hlen] at hP hpl hpk ⊢;generalize exAt (k.pausesTo t 3)=pq at hP hpk;rw[hcan] at hleft;have hlo2:=Nat.le_refl (k.kind (k.qf t));generalize hlo:k.kind (k.qf t)=lo at hpl hpk hleft;generalize hhi:k.kind (k.qt t)=hi at hpl hleft hk2;have hlf:∀n q,1≤n→n≤12→0≤q→q≤99→k.kind q≤2→(k.with t (n:Nat) (n:Nat) q q).resL.length=k.leftOf t (n,k.kind q)∧(k.with t (n:Nat) (n:Nat) q q).alarm=0:=fun n q h1 h2 h3 h4 h5=> by
   refine⟨?_,with_alarm ha (by unfold trainOk;simp only[Bool.and_eq_true,decide_eq_true_eq];omega)⟩;unfold Bk.leftOf;rw[with_res (q':=k.pauseOf (k.kind q))];have c1:=kind_cases k q;have c2:=kind_cases k (k.pauseOf (k.kind q));rcases c1 with ⟨_,e⟩|⟨_,_,e⟩|⟨_,_,e⟩
   · rw[e] at c2 ⊢;have e2:k.pauseOf 0=0:=rfl;rw[e2] at c2 ⊢;omega
   · rw[e] at c2 ⊢;have e2:k.pauseOf 1=k.gap:=rfl;rw[e2] at c2 ⊢;omega
   · rw[e] at c2 ⊢;have e2:k.pauseOf 2=k.give:=rfl;rw[e2] at c2 ⊢;omega
 refine U15 ?_;refine Tc.db (Tc.loopB (σ:= { s:Nat×View×Nat//a≤s.1∧H₂.le s.2.1∧(canL s.1 b lo hi).foldl (fun m x=> max m (k.leftOf t x)) s.2.2=k.left t∧s.2.2≤7 }) (fun s=> (s.1.2.1,[(1,.int .i64 (t:Nat)),(2,.pointer (some ⟨b2,0,none⟩)),(5,.pointer (some ⟨b5,0,none⟩)),(6,.slice P len pc),(7,.int .i64 (s.1.2.2:Nat)),(8,.int .i64 (s.1.1:Nat))],[(b5,true,.cells ⟨[.int .i64 (a:Nat),.int .i64 (b:Nat),.int .i64 (k.qf t),.int .i64 (k.qt t)]⟩ 47 (0,0)),(b2,true,.cells ⟨(k.val A lc (some ⟨tb,to,none⟩) tc).cells.toList⟩ 25 (0,0))])) (fun s=> b+1-s.1.1) ?_ ⟨(a,H₂,0),Nat.le_refl _,View.le_refl _,hleft,Nat.zero_le _⟩);rintro⟨⟨n,H₃,m⟩,hn,hle3,hm,hm7⟩ ih;simp only at hn hle3 hm hm7;show Tc M St _ _ H₃ _ [(1,.int .i64 (t:Nat)),(2,.pointer (some ⟨b2,0,none⟩)),(5,.pointer (some ⟨b5,0,none⟩)),(6,.slice P len pc),(7,.int .i64 (m:Nat)),(8,.int .i64 (n:Nat))] [(b5,true,.cells ⟨[.int .i64 (a:Nat),.int .i64 (b:Nat),.int .i64 (k.qf t),.int .i64 (k.qt t)]⟩ 47 (0,0)),(b2,true,.cells ⟨(k.val A lc (some ⟨tb,to,none⟩) tc).cells.toList⟩ 25 (0,0))] _ _;by_cases c1:n≤b
 · rw[canL_cons c1] at hm;refine U18 ?_;refine Tc.db (Tc.loopB (σ:= { s:Nat×View×Nat//s.1≤len∧H₂.le s.2.1∧(canFrom n b lo hi (lo+s.1)).foldl (fun m x=> max m (k.leftOf t x)) s.2.2=k.left t∧s.2.2≤7 }) (fun s=> (s.1.2.1,[(1,.int .i64 (t:Nat)),(2,.pointer (some ⟨b2,0,none⟩)),(5,.pointer (some ⟨b5,0,none⟩)),(6,.slice P len pc),(7,.int .i64 (s.1.2.2:Nat)),(8,.int .i64 (n:Nat)),(9,.int .i64 (s.1.1:Nat))],[(b5,true,.cells ⟨[.int .i64 (a:Nat),.int .i64 (b:Nat),.int .i64 (k.qf t),.int .i64 (k.qt t)]⟩ 47 (0,0)),(b2,true,.cells ⟨(k.val A lc (some ⟨tb,to,none⟩) tc).cells.toList⟩ 25 (0,0))])) (fun s=> len-s.1.1) ?_ ⟨(0,H₃,m),Nat.zero_le _,hle3,hm,hm7⟩);rintro⟨⟨d,H₄,m2⟩,hd,hle4,hm2,hm27⟩ ih2;simp only at hd hle4 hm2 hm27;show Tc M St _ _ H₄ _ [(1,.int .i64 (t:Nat)),(2,.pointer (some ⟨b2,0,none⟩)),(5,.pointer (some ⟨b5,0,none⟩)),(6,.slice P len pc),(7,.int .i64 (m2:Nat)),(8,.int .i64 (n:Nat)),(9,.int .i64 (d:Nat))] [(b5,true,.cells ⟨[.int .i64 (a:Nat),.int .i64 (b:Nat),.int .i64 (k.qf t),.int .i64 (k.qt t)]⟩ 47 (0,0)),(b2,true,.cells ⟨(k.val A lc (some ⟨tb,to,none⟩) tc).cells.toList⟩ 25 (0,0))] _ _;by_cases d1:d=len
   · clear ih2;rw[canFrom_nil (by omega)] at hm2;subst d1;refine U16 ?_;exact Tc.db (ih ⟨(n+1,H₄,m2),by simp only;omega,hle4,hm2,hm27⟩ (by simp only;omega))
   · have d2:d<len:=by omega
     rw[canFrom_cons (by omega),List.foldl_cons] at hm2;have hP4:=hP.le hle4;obtain hz|⟨pb,po,pf,ps,pt,pz,rfl,hpb',hpl'⟩:=hP4
     · omega
     have f5:=hpl' d d2;obtain⟨hkd,hq0,hq9⟩:=hpk d d2;generalize pq d=q at f5 hkd hq0 hq9;obtain⟨hres,hal⟩:=hlf n q (by omega) (by omega) hq0 hq9 (by omega);rw[hkd] at hres;obtain⟨kk,hkk⟩:∃kk,k.with t (n:Nat) (n:Nat) q q=kk:=⟨_,rfl⟩
     have hwb:∀(H':View) (g:Gl 47 4),H₄.le H'→(g.n=k.nt∧g.l=flatR k.nt (trainL kk))→(∀x∈g.bl,H' x.1=some x.2)→BkAt H' kk A lc (g.blk.map fun b=> ⟨b,0,none⟩) g.cap:=fun H' g h1 h2 h3=> by
       rw[←hkk] at h2 ⊢;exact(with_book (hB2.le hle4) h1 t (n:Nat) (n:Nat) q q g h3 h2.1 h2.2).bk
     have hwn:=fun(H':View) (h:H₄.le H')=> withR_n M H' k A lc (some ⟨tb,to,none⟩) tc F fc (hB2.le (View.le_trans hle4 h)) (by omega) t ht (n:Nat) (n:Nat) q q;rw[hkk] at hres hal;simp only[hkk] at hwn;have hrl:kk.resL.length≤7:=by
       have h1:=nodup_le (l:=kk.resL) (m:=allRes kk.nl) (distinct_nodup _) fun z hz=> (mem_allRes _).2 (resL_in kk hz);have h2:∀j,(allRes j).length=j+1:=fun j=> by
         induction j with
         | zero=> rfl
         | succ j ih=> unfold allRes;rw[List.length_append,ih];rfl
       rw[h2] at h1;have h3:kk.nl=k.nl:=by rw[←hkk];rfl
       omega
     have hvv:∀B' tc',kk.val A lc B' tc'=.agg ⟨[.int .i64 kk.gap,.int .i64 kk.give,.slice A kk.nl lc,.slice B' kk.nt tc']⟩:=fun _ _=> rfl;refine U13 ?_;refine Tc.via (fun R' L'=> ∃(g:Gl 47 4) (b10:Nat),(g.n=k.nt∧g.l=flatR k.nt (trainL kk))∧AllIn [(1,.int .i64 (t:Nat)),(2,.pointer (some ⟨b2,0,none⟩)),(5,.pointer (some ⟨b5,0,none⟩)),(6,.slice (some ⟨pb,po,none⟩) len pc),(7,.int .i64 (m2:Nat)),(8,.int .i64 (n:Nat)),(9,.int .i64 (d:Nat)),(10,.pointer (some ⟨b10,0,none⟩))] R'∧List.Sublist ((b10,true,.cells ⟨[.int .i64 kk.gap,.int .i64 kk.give,.slice A kk.nl lc,.slice (g.blk.map fun b=> ⟨b,0,none⟩) kk.nt g.cap]⟩ 25 (0,0))::([(b5,true,.cells ⟨[.int .i64 (a:Nat),.int .i64 (b:Nat),.int .i64 (k.qf t),.int .i64 (k.qt t)]⟩ 47 (0,0)),(b2,true,.cells ⟨(k.val A lc (some ⟨tb,to,none⟩) tc).cells.toList⟩ 25 (0,0))]++g.bl)) L') ?_ (fun fin=> ?_)
     · rintro R' L' ⟨g,b10,hg,hR',hL'⟩;refine Tc.dropB ?_ hR' hL';have hkr:(kk.refRes (kk.nl+1)).length=kk.resL.length:=refRes_len kk;have hbk2:=fun(H':View) (h1:H₄.le H') (h3:∀x∈g.bl,H' x.1=some x.2)=> Results_c M H' kk A lc (g.blk.map fun b=> ⟨b,0,none⟩) g.cap (hwb H' g h1 hg h3) hal;refine U3 ?_;refine .e (Or.callNew (fun s:Option Addr×Nat=> .slice s.1 (kk.refRes (kk.nl+1)).length s.2) (fun _=> []) (fun _=> True) rfl rfl rfl rfl rfl (by decide) (fun _=> by simp) (fun H hs=> .h (CallT.mono (hbk2 H hs.base (fun x hx=> hs.at_ x (by simp[hx]))) (by rintro v H' ⟨h1,G,c2,rfl,_⟩;exact⟨h1,(G,c2),rfl,trivial,by simp⟩))) (fun s _=> ?_));rw[hkr,hres];rw[hres] at hrl;have hmax:(if((k.leftOf t (n,lo+d):Nat):Int)>(m2:Int) then((k.leftOf t (n,lo+d):Nat):Int) else(m2:Int))=((max m2 (k.leftOf t (n,lo+d)):Nat):Int):=by split <;> omega
       refine U ?_;refine .x (OpV.max rfl rfl rfl rfl rfl rfl (by assumption)) ?_;refine U8 ?_;exact Tc.db (ih2 ⟨(d+1,H₄,max m2 (k.leftOf t (n,lo+d))),by simp only;omega,hle4,hm2,Nat.max_le.2 ⟨hm27,hrl⟩⟩ (by simp only;omega))
     · refine Tc.dr [17] [] mixed rfl ?_;refine .nn 0 ?_;refine .nn 1 ?_;refine .nn 2 ?_;refine .nn 3 ?_;refine .nn 4 ?_;refine .nn 5 ?_;refine .nn 6 ?_;refine .nn 7 ?_;refine .nn 8 ?_;refine .nn 9 ?_;refine .nn 10 ?_;refine .nn 11 ?_;refine .nn 12 ?_;refine .nn 13 ?_;refine .nn 14 ?_;refine Ta.each [15,16] (by kernel_rfl) rfl ⟨TaOp.mk rfl rfl rfl (Or.callNew (fun g:Gl 47 4=> kk.val A lc (g.blk.map fun b=> ⟨b,0,none⟩) g.cap) Gl.bl (fun g:Gl 47 4=> g.n=k.nt∧g.l=flatR k.nt (trainL kk)) rfl rfl rfl rfl rfl (by decide) gl_nodup (fun H hs=> .h (hwn H hs.base)) (fun g hg=> ⟨S2.mk (by exact List.sublist_append_left _ _) (.inr (by exact List.sublist_append_left _ _)),?_⟩)),TaOp.mk rfl rfl rfl (.al (zz:=fun b10=> ⟨S2.mk (by apply List.Sublist.cons;exact List.Sublist.refl _) (.inr (by apply List.Sublist.cons;exact List.Sublist.refl _)),?_⟩)),trivial⟩
       · refine Ta.each [16] (by kernel_rfl) rfl ⟨TaOp.mk rfl rfl rfl (.al (zz:=fun b10=> ⟨S2.mk (by apply List.Sublist.cons;exact List.sublist_append_left _ _) (.inr (by apply List.Sublist.cons;exact List.sublist_append_left _ _)),?_⟩)),trivial⟩;refine .e 17 0 ?_;refine .dn ?_;exact fin _ _ ⟨g,b10,hg,⟨rfl,rfl,rfl,rfl,rfl,rfl,rfl,rfl,trivial⟩,(by exact List.Sublist.refl _)⟩
       · refine Ta.each [15] (by kernel_rfl) rfl ⟨TaOp.mk rfl rfl rfl (Or.callNew (fun g:Gl 47 4=> kk.val A lc (g.blk.map fun b=> ⟨b,0,none⟩) g.cap) Gl.bl (fun g:Gl 47 4=> g.n=k.nt∧g.l=flatR k.nt (trainL kk)) rfl rfl rfl rfl rfl (by decide) gl_nodup (fun H hs=> .h (hwn H hs.base)) (fun g hg=> ⟨S2.mk (by apply List.Sublist.cons;exact List.sublist_append_left _ _) (.inr (by apply List.Sublist.cons;exact List.sublist_append_left _ _)),?_⟩)),trivial⟩;refine .e 17 0 ?_;refine .dn ?_;exact fin _ _ ⟨g,b10,hg,⟨rfl,rfl,rfl,rfl,rfl,rfl,rfl,rfl,trivial⟩,(by exact List.Sublist.refl _)⟩
 · rw[canL_nil (by omega)] at hm;have hm':m=k.left t:=hm;subst hm';refine U16 ?_;refine .rt hK func108 results108 [_] ?_;exact fun H' hs=> ⟨View.le_trans hle2 (View.le_trans hle3 hs.base),rfl⟩
theorem LookR_c(k:Bk)(A:Option Addr)(lc:Nat)(B:Option Addr)(tc:Nat)(F:Nat→Option Addr)(fc:Nat→Nat)(hB:BookAt H k A lc B tc F fc)(hn:k.small)(hnm:∀i,i<k.nl→(k.name i).length≤1000000)(ha:k.alarm=0):
   CallT M 34 #[k.val A lc B tc] H (fun v H'=> H.le H'∧v=lookV k.look):=by
 have hk:=hB.bk;obtain⟨hgg,hnl,hnt,hok⟩:=Bk.valid ha;have hchk:=fun(H':View) (h:H.le H')=> isV (refCheckBook_c M H' k A lc B tc (hk.le h) hn hnm) (w':=.int .i64 0) (by rw[ha]);have hres:=fun(H':View) (h:H.le H')=> Results_c M H' k A lc B tc (hk.le h) ha;have hlf:=fun(H':View) (h:H.le H') t (ht:t<k.nt)=> LeftOfR_c M H' k A lc B tc F fc (hB.le h) ha t ht;have hrl:=refRes_le k (k.nl+1);rw[refRes_len] at hres hrl;refine .en func34 ntmps34 fun St c cs hK=> ?_;refine U2 ?_;refine .bo fun b1=> ?_;refine U8 ?_;refine .c rfl rfl rfl rfl (fun H hs=> .h (hchk H hs.base)) ?_;refine U12 ?_;refine .e (Or.callNew (fun s:Option Addr×Nat=> .slice s.1 k.resL.length s.2) (fun _=> []) (fun _=> True) rfl rfl rfl rfl rfl (by decide) (fun _=> by simp) (fun H hs=> .h (CallT.mono (hres H hs.base) (by rintro v H' ⟨h1,G,c2,rfl,_⟩;exact⟨h1,(G,c2),rfl,trivial,by simp⟩))) (fun s _=> ?_));refine U10 ?_;refine Tc.db (Tc.loopInv (σ:= { j:Nat//j≤k.nt }) (fun j=> ([(1,.pointer (some ⟨b1,0,none⟩)),(6,.int .i64 (k.lookTo j.1).1),(7,.int .i64 (k.lookTo j.1).2),(8,.int .i64 (j.1:Nat))],[(b1,true,.cells ⟨(k.val A lc B tc).cells.toList⟩ 25 (0,0))])) (fun j=> k.nt-j.1) ?_ ⟨0,Nat.zero_le _⟩);rintro⟨j,hj⟩ ih;show Tc M St _ _ _ _ [(1,.pointer (some ⟨b1,0,none⟩)),(6,.int .i64 (k.lookTo j).1),(7,.int .i64 (k.lookTo j).2),(8,.int .i64 (j:Nat))] [(b1,true,.cells ⟨(k.val A lc B tc).cells.toList⟩ 25 (0,0))] _ _;by_cases c1:j=k.nt
 · subst c1;clear ih;refine U19 ?_;refine .rt hK func34 results34 [_,_,_] ?_;exact okB
 · have c2:j<k.nt:=by omega
   have hin:=look_in ha j (by omega);have hb:0≤(k.lookTo j).2∧(k.lookTo j).2≤7:=by
     rcases hin with ⟨_,h,_⟩|⟨z,hz,_,h,h2,_⟩ <;> omega
   have hl:=left_in ha c2;have hnx:k.lookTo (j+1)=if((k.left j:Nat):Int)<(k.lookTo j).2 then(((j:Nat):Int),((k.left j:Nat):Int)) else k.lookTo j:=by rw[Bk.lookTo]
   have hih:=ih ⟨j+1,by omega⟩ (by simp only;omega);clear ih;simp only[hnx] at hih;clear hnx;generalize k.lookTo j=p at hih hb ⊢;by_cases c3:((k.left j:Nat):Int)<p.2
   · rw[if_pos c3] at hih;refine U17 ?_;refine .c rfl rfl rfl rfl (fun H hs=> .h (hlf H hs.base j c2)) ?_;refine U21 ?_;exact Tc.db (hih)
   · rw[if_neg c3] at hih;refine U17 ?_;refine .c rfl rfl rfl rfl (fun H hs=> .h (hlf H hs.base j c2)) ?_;refine U16 ?_;exact Tc.db (hih)
end
theorem eg47:prog.eqGuardType prog.depth 47=false:=by kernel_rfl
theorem band_flat(a b:Int):flat en 2 45 [.int .i64 a,.int .i64 b]:=by
 refine⟨rfl,?_⟩;intro f hf;simp only[List.mem_cons,List.not_mem_nil,or_false] at hf;rcases hf with rfl|rfl
 · exact⟨⟨_,rfl⟩,_,rfl,rfl,Nat.le_of_ble_eq_true rfl⟩
 · exact⟨⟨_,rfl⟩,_,rfl,rfl,Nat.le_of_ble_eq_true rfl⟩
theorem train_flat(a b c d:Int):flat en 3 47 [.int .i64 a,.int .i64 b,.int .i64 c,.int .i64 d]:=by
 refine⟨rfl,?_⟩;intro f hf;simp only[List.mem_cons,List.not_mem_nil,or_false] at hf;rcases hf with rfl|rfl
 · exact⟨band_flat a b,_,rfl,rfl,Nat.le_of_ble_eq_true rfl⟩
 · exact⟨band_flat c d,_,rfl,rfl,Nat.le_of_ble_eq_true rfl⟩
theorem now_split {k:Bk}(hok:k.trainsOk){t:Nat}(ht:t<k.nt){a b c d:Int}:k.nowOk t a b c d=decide (imax (k.pf t) a≤imin (k.pt t) b∧imax (k.qf t) c≤imin (k.qt t) d):=by
 have h1:=k.train_in hok ht;unfold Bk.nowOk;unfold trainOk;have m1:k.pf t≤imax (k.pf t) a∧a≤imax (k.pf t) a∧(imax (k.pf t) a=k.pf t∨imax (k.pf t) a=a):=by unfold imax;split <;> omega
 have m2:imin (k.pt t) b≤k.pt t∧imin (k.pt t) b≤b∧(imin (k.pt t) b=k.pt t∨imin (k.pt t) b=b):=by unfold imin;split <;> omega
 have m3:k.qf t≤imax (k.qf t) c∧c≤imax (k.qf t) c∧(imax (k.qf t) c=k.qf t∨imax (k.qf t) c=c):=by unfold imax;split <;> omega
 have m4:imin (k.qt t) d≤k.qt t∧imin (k.qt t) d≤d∧(imin (k.qt t) d=k.qt t∨imin (k.qt t) d=d):=by unfold imin;split <;> omega
 rw[Bool.eq_iff_iff];simp only[Bool.and_eq_true,decide_eq_true_eq];constructor
 · intro h;omega
 · intro h;omega
section
variable(M:Md prog)(H:View)
theorem SameTrains_c(k:Bk)(B B':Option Addr)(tc tc':Nat)(hB:TrainsAt H k B tc)(hB':TrainsAt H k B' tc')(hn:k.nt≤1000):
   CallT M 71 #[.slice B k.nt tc,.slice B' k.nt tc'] H (fun v H'=> H.le H'∧v=.bool true):=by
 refine .en func71 ntmps71 fun St c cs hK=> ?_;refine U21 ?_;refine Tc.db (Tc.loopInv (σ:= { j:Nat//j≤k.nt }) (fun j=> ([(0,.slice B k.nt tc),(1,.slice B' k.nt tc'),(5,.int .i64 (j.1:Nat))],[])) (fun j=> k.nt-j.1) ?_ ⟨0,Nat.zero_le _⟩);rintro⟨j,hj⟩ ih;show Tc M St _ _ _ _ [(0,.slice B k.nt tc),(1,.slice B' k.nt tc'),(5,.int .i64 (j:Nat))] [] _ _;by_cases c1:j=k.nt
 · subst c1;clear ih;refine U14 ?_;refine .rt hK func71 results71 [_] ?_;exact okB
 · have c2:j<k.nt:=by omega
   obtain⟨_,h0|⟨ab,ao,f,gs,gt,gz,rfl,hb,hl⟩⟩:=hB
   · omega
   obtain⟨_,h0|⟨ab',ao',f',gs',gt',gz',rfl,hb',hl'⟩⟩:=hB'
   · omega
   have f1:=hl j c2;have f2:=hl' j c2;refine U13 ?_;refine Tc.dr [] [] mixed rfl ?_;refine .nn 0 ?_;refine .nn 1 ?_;refine .nn 2 ?_;refine .nn 3 ?_;refine .nn 4 ?_;refine .nn 5 ?_;refine .nn 6 ?_;refine .nn 7 ?_;refine .q 8 rfl (OpV.neA (E:=en) true 3 rfl rfl rfl rfl rfl eg47 (by decide) (train_flat (k.pf j) (k.pt j) (k.qf j) (k.qt j)) (train_flat (k.pf j) (k.pt j) (k.qf j) (k.qt j)) (by simp)) ?_;refine .dn ?_;refine U8 ?_;exact Tc.db (ih ⟨j+1,by omega⟩ (by simp only;omega))
theorem SameLine_c(a s:List UInt8)(F F':Option Addr)(n c' c'':Nat)(x:Nat→Int)(hF:FreeAt H F n x)(hF':FreeAt H F' n x)(hn:n≤1000):
   CallT M 114 #[lineV a s F n c',lineV a s F' n c''] H (fun v H'=> H.le H'∧v=.bool true):=by
 have e1:RL.strB .eql a a=some (.bool true):=by simp[RL.strB]
 have e2:RL.strB .eql s s=some (.bool true):=by simp[RL.strB]
 have h1:=fun(H':View) (h:H.le H')=> SameClaims_c M H' F F' n n c' c'' x x (hF.le h) (hF'.le h) (by omega) (by omega) true (by rw[decide_eq_true rfl,Bool.true_and];exact(allB_iff _).2 fun i _=> decide_eq_true rfl);refine .en func114 ntmps114 fun St c cs hK=> ?_;refine U2 ?_;refine .bo fun b2=> ?_;refine .bo fun b3=> ?_;refine U21 ?_;refine .c rfl rfl rfl rfl (fun H hs=> .h (h1 H hs.base)) ?_;refine U3 ?_;refine .rt hK func114 results114 [_] ?_;exact okB
theorem Same_c(k:Bk)(A A':Option Addr)(lc lc':Nat)(B B':Option Addr)(tc tc':Nat)(hk:BkAt H k A lc B tc)(hk':BkAt H k A' lc' B' tc')(hn:k.small):
   CallT M 37 #[k.val A lc B tc,k.val A' lc' B' tc'] H (fun v H'=> H.le H'∧v=.bool true):=by
 have hnl:=hn.nl;have hst:=fun(H':View) (h:H.le H')=> SameTrains_c M H' k B B' tc tc' (hk.le h).trains (hk'.le h).trains hn.nt;refine .en func37 ntmps37 fun St c cs hK=> ?_;refine U2 ?_;refine .bo fun b2=> ?_;refine .bo fun b3=> ?_;refine U35 ?_;refine Tc.db (Tc.loopInv (σ:= { j:Nat//j≤k.nl }) (fun j=> ([(2,.pointer (some ⟨b2,0,none⟩)),(3,.pointer (some ⟨b3,0,none⟩)),(5,.int .i64 (j.1:Nat))],[(b3,true,.cells ⟨(k.val A' lc' B' tc').cells.toList⟩ 25 (0,0)),(b2,true,.cells ⟨(k.val A lc B tc).cells.toList⟩ 25 (0,0))])) (fun j=> k.nl-j.1) ?_ ⟨0,Nat.zero_le _⟩);rintro⟨j,hj⟩ ih;show Tc M St _ _ _ _ [(2,.pointer (some ⟨b2,0,none⟩)),(3,.pointer (some ⟨b3,0,none⟩)),(5,.int .i64 (j:Nat))] [(b3,true,.cells ⟨(k.val A' lc' B' tc').cells.toList⟩ 25 (0,0)),(b2,true,.cells ⟨(k.val A lc B tc).cells.toList⟩ 25 (0,0))] _ _;by_cases c1:j=k.nl
 · subst c1;clear ih;refine U17 ?_;refine .c rfl rfl rfl rfl (fun H hs=> .h (hst H hs.base)) ?_;refine U2 ?_;refine .rt hK func37 results37 [_] ?_;exact okB
 · have c2:j<k.nl:=by omega
   obtain⟨_,h0|⟨ab,ao,f,gs,gt,gz,rfl,hb,hl⟩⟩:=hk.rows
   · omega
   obtain⟨_,h0|⟨ab',ao',f',gs',gt',gz',rfl,hb',hl'⟩⟩:=hk'.rows
   · omega
   obtain⟨F,fc,f1,_,hF⟩:=hl j c2;obtain⟨F',fc',f2,_,hF'⟩:=hl' j c2;have hsl:=fun(H':View) (h:H.le H')=> SameLine_c M H' (k.name j) (k.num j) F F' (k.nf j) fc fc' (k.free j) (hF.le h) (hF'.le h) (hn.num j c2).2;refine U14 ?_;refine Tc.dr [] [] mixed rfl ?_;refine .nn 0 ?_;refine .nn 1 ?_;refine .nn 2 ?_;refine .nn 3 ?_;refine .nn 4 ?_;refine .nn 5 ?_;refine .nn 6 ?_;refine .nn 7 ?_;refine .nn 8 ?_;refine .nn 9 ?_;refine .z 10 rfl (OpV.takeCall rfl rfl rfl rfl (fun H hs=> .h (hsl H hs.base))) ?_;refine .nn 11 ?_;refine .dn ?_;refine U8 ?_;exact Tc.db (ih ⟨j+1,by omega⟩ (by simp only;omega))
theorem ldL_part {sz off d z:Nat}{gs c:List Value}(h:ldL true sz gs off=some (.agg ⟨c⟩))(hd:d+z≤sz):ldL true z gs (off+d)=some (.agg ⟨(c.drop d).take z⟩):=by
 have h1:=(ldL_le h).1;rw[ldL_of h1] at h;simp only[Option.some.injEq,Value.agg.injEq,Array.mk.injEq] at h;rw[ldL_of (by omega),←h,List.drop_take,List.take_take,List.drop_drop,Nat.min_eq_left (by omega)]
theorem KnowR_alarm(k:Bk)(A:Option Addr)(lc:Nat)(B:Option Addr)(tc:Nat)(hk:BkAt H k A lc B tc)(hn:k.small)(hnm:∀i,i<k.nl→(k.name i).length≤1000000)(ha:k.alarm≠0)(t:Int)(a b c' d:Int):
   CallT M 36 #[k.val A lc B tc,.int .i64 t,trainV a b c' d] H (fun v H'=> H.le H'∧v=noBook k.alarm):=by
 have hchk:=fun(H':View) (h:H.le H')=> refCheckBook_c M H' k A lc B tc (hk.le h) hn hnm;generalize k.alarm=al at ha hchk ⊢;refine .en func36 ntmps36 fun St c cs hK=> ?_;refine U2 ?_;refine .bo fun b3=> ?_;refine .bo fun b5=> ?_;refine .al fun b6=> ?_;refine U6 ?_;refine .c rfl rfl rfl rfl (fun H hs=> .h (hchk H hs.base)) ?_;refine U15 ?_;refine .rt hK func36 results36 [_,_] ?_;exact okB
section
variable(k:Bk)(A:Option Addr)(lc:Nat)(B:Option Addr)(tc:Nat)(hk:BkAt H k A lc B tc)(hn:k.small)(hnm:∀i,i<k.nl→(k.name i).length≤1000000)(ha:k.alarm=0)
include hk hn hnm ha
theorem KnowR_absent(t:Int)(ht:¬(0≤t∧t≤(k.nt:Int)-1))(a b c' d:Int):
   CallT M 36 #[k.val A lc B tc,.int .i64 t,trainV a b c' d] H (fun v H'=> H.le H'∧v=noBook 6):=by
 have hnt:=hn.nt;have hchk:=fun(H':View) (h:H.le H')=> isV (refCheckBook_c M H' k A lc B tc (hk.le h) hn hnm) (w':=.int .i64 0) (by rw[ha]);refine .en func36 ntmps36 fun St c cs hK=> ?_;refine U2 ?_;refine .bo fun b3=> ?_;refine .bo fun b5=> ?_;refine .al fun b6=> ?_;refine U6 ?_;refine .c rfl rfl rfl rfl (fun H hs=> .h (hchk H hs.base)) ?_;refine U17 ?_;refine .c rfl rfl rfl rfl (fun H hs=> .h (In_c M H t 0 ((k.nt:Int)-1) false (decide_eq_false ht))) ?_;refine U9 ?_;refine .rt hK func36 results36 [_,_] ?_;exact okB
theorem KnowR_limit(t:Nat)(ht:t<k.nt)(a b c' d:Int)(hx:trainOk a b c' d=false):
   CallT M 36 #[k.val A lc B tc,.int .i64 (t:Nat),trainV a b c' d] H (fun v H'=> H.le H'∧v=noBook 1):=by
 have hnt:=hn.nt;have hchk:=fun(H':View) (h:H.le H')=> isV (refCheckBook_c M H' k A lc B tc (hk.le h) hn hnm) (w':=.int .i64 0) (by rw[ha]);refine .en func36 ntmps36 fun St c cs hK=> ?_;refine U2 ?_;refine .bo fun b3=> ?_;refine .bo fun b5=> ?_;refine .al fun b6=> ?_;refine U6 ?_;refine .c rfl rfl rfl rfl (fun H hs=> .h (hchk H hs.base)) ?_;refine U17 ?_;refine .c rfl rfl rfl rfl (fun H hs=> .h (In_c M H (t:Nat) 0 ((k.nt:Int)-1) true (decide_eq_true (by omega)))) ?_;refine U8 ?_;refine .c rfl rfl rfl rfl (fun H hs=> .h (checkTrain_c M H a b c' d 1 (by rw[hx];rfl))) ?_;refine U15 ?_;refine .rt hK func36 results36 [_,_] ?_;exact okB
end
theorem KnowR_c(k:Bk)(A:Option Addr)(lc:Nat)(B:Option Addr)(tc:Nat)(F:Nat→Option Addr)(fc:Nat→Nat)(hB:BookAt H k A lc B tc F fc)(hn:k.small)(hnm:∀i,i<k.nl→(k.name i).length≤1000000)(ha:k.alarm=0)(t:Nat)(ht:t<k.nt)(a b c' d:Int)(hx:trainOk a b c' d=true):
   CallT M 36 #[k.val A lc B tc,.int .i64 (t:Nat),trainV a b c' d] H (fun v H'=> H.le H'∧(k.nowOk t a b c' d=false→v=noBook 10)∧(k.nowOk t a b c' d=true→∃B' tc',v=bookV ((k.now t a b c' d).val A lc B' tc') 0∧BookAt H' (k.now t a b c' d) A lc B' tc' F fc)):=by
 have hk:=hB.bk;have hnt:=hn.nt;obtain⟨_,_,hnt6,hok⟩:=Bk.valid ha;have hchk:=fun(H':View) (h:H.le H')=> isV (refCheckBook_c M H' k A lc B tc (hk.le h) hn hnm) (w':=.int .i64 0) (by rw[ha]);have hsp:=now_split hok ht (a:=a) (b:=b) (c:=c') (d:=d);have hw:=fun(H':View) (h:H.le H') x y z w=> withR_n M H' k A lc B tc F fc (hB.le h) (by omega) t ht x y z w;have hwb:=fun(H':View) (h:H.le H') x y z w g h1 h2 h3=> with_book hB h t x y z w g (H':=H') h1 h2 h3;obtain⟨_,h0|⟨tb,to,ft,gs,gt,gz,rfl,htb,hl⟩⟩:=hk.trains
 · omega
 have f1:ldL true 2 gs (to+((t:Nat):Int).toNat*4+0)=some (bandV (k.pf t) (k.pt t)):=ldL_part (d:=0) (z:=2) (hl t ht) (by decide);have f2:ldL true 2 gs (to+((t:Nat):Int).toNat*4+2)=some (bandV (k.qf t) (k.qt t)):=ldL_part (d:=2) (z:=2) (hl t ht) (by decide);have hb1:=fun(H':View)=> BothR_c M H' (k.pf t) (k.pt t) a b (imax (k.pf t) a) (imin (k.pt t) b) rfl rfl;have hb2:=fun(H':View)=> BothR_c M H' (k.qf t) (k.qt t) c' d (imax (k.qf t) c') (imin (k.qt t) d) rfl rfl;have hnow:k.now t a b c' d=k.with t (imax (k.pf t) a) (imin (k.pt t) b) (imax (k.qf t) c') (imin (k.qt t) d):=rfl
 rw[hnow,hsp];clear hnow hsp;generalize imax (k.pf t) a=x1 at hb1 ⊢;generalize imin (k.pt t) b=x2 at hb1 ⊢;generalize imax (k.qf t) c'=x3 at hb2 ⊢;generalize imin (k.qt t) d=x4 at hb2 ⊢;refine .en func36 ntmps36 fun St c cs hK=> ?_;refine U2 ?_;refine .bo fun b3=> ?_;refine .bo fun b5=> ?_;refine .al fun b6=> ?_;refine U6 ?_;refine .c rfl rfl rfl rfl (fun H hs=> .h (hchk H hs.base)) ?_;refine U17 ?_;refine .c rfl rfl rfl rfl (fun H hs=> .h (In_c M H (t:Nat) 0 ((k.nt:Int)-1) true (decide_eq_true (by omega)))) ?_;refine U8 ?_;refine .c rfl rfl rfl rfl (fun H hs=> .h (checkTrain_c M H a b c' d 0 (by rw[hx];rfl))) ?_;refine U10 ?_;refine Tc.dr [20] [] mixed rfl ?_;refine .nn 0 ?_;refine .nn 1 ?_;refine .nn 2 ?_;refine .nn 3 ?_;refine .nn 4 ?_;refine .nn 5 ?_;refine .nn 6 ?_;refine .nn 7 ?_;refine .z 8 rfl (OpV.takeCall rfl rfl rfl rfl (fun H hs=> .h (hb1 H))) ?_;refine .nn 9 ?_;refine .nn 10 ?_;refine .nn 11 ?_;refine .nn 12 ?_;refine .nn 13 ?_;refine .nn 14 ?_;refine .nn 15 ?_;refine .nn 16 ?_;refine .z 17 rfl (OpV.takeCall rfl rfl rfl rfl (fun H hs=> .h (hb2 H))) ?_;refine .nn 18 ?_;refine Ta.each [19] (by kernel_rfl) rfl ⟨TaOp.mk rfl rfl rfl (.al (zz:=fun b10=> ⟨S2.mk (by apply List.Sublist.cons;exact List.Sublist.refl _) (.inr (by apply List.Sublist.cons;exact List.Sublist.refl _)),?_⟩)),trivial⟩;refine .e 20 0 ?_;refine .dn ?_;refine U2 ?_;by_cases d1:x1≤x2
 · by_cases d2:x3≤x4
   · refine U25 ?_;refine .e (Or.callNew (fun g:Gl 47 4=> (k.with t x1 x2 x3 x4).val A lc (g.blk.map fun b=> ⟨b,0,none⟩) g.cap) Gl.bl (fun g:Gl 47 4=> g.n=k.nt∧g.l=flatR k.nt (trainL (k.with t x1 x2 x3 x4))) rfl rfl rfl rfl rfl (by decide) gl_nodup (fun H hs=> .h (hw H hs.base x1 x2 x3 x4)) (fun g hg=> ?_));refine U3 ?_;refine .rt hK func36 results36 [_,_] ?_;exact fun H' hs=> ⟨hs.base,fun h=> (by rw[decide_eq_true ⟨d1,d2⟩] at h;cases h),fun _=> ⟨_,_,rfl,hwb H' hs.base x1 x2 x3 x4 g (fun x hx=> hs.at_ x (by simp[hx])) hg.1 hg.2⟩⟩
   · refine U25 ?_;refine .rt hK func36 results36 [_,_] ?_;exact fun H' hs=> ⟨hs.base,fun _=> rfl,fun h=> (d2 (of_decide_eq_true h).2).elim⟩
 · refine U25 ?_;refine .rt hK func36 results36 [_,_] ?_;exact fun H' hs=> ⟨hs.base,fun _=> rfl,fun h=> (d1 (of_decide_eq_true h).1).elim⟩
end
set_option maxHeartbeats 16000000
section
variable(M:Md prog)(H:View)
end
theorem settledV_ex(s:Option (Nat×Int)):∃(n f:Int) (b:Bool),settledV s=.tuple ⟨[.int .i64 n,.int .i64 f,.bool b,.int .i64 0]⟩:=by
 cases s with
 | none=> exact⟨0,0,false,rfl⟩
 | some x=> exact⟨x.1,x.2,true,rfl⟩
section
variable(M:Md prog)(H:View)(k:Bk)(A:Option Addr)(lc:Nat)(B:Option Addr)(tc:Nat)(hk:BkAt H k A lc B tc)(hn:k.small)
include hk hn
theorem Settled_alarm(hG:Glob H)(ha:k.alarm≠0):CallT M 31 #[k.val A lc B tc] H (fun v H'=> H.le H'∧v=.tuple ⟨[.int .i64 0,.int .i64 0,.bool false,.int .i64 k.alarm]⟩):=by
 have hop:=fun(H':View) (h:H.le H')=> open_alarm M H' k A lc B tc true (hk.le h) hn (glob_le hG h) ha;generalize k.alarm=al at ha hop ⊢;refine .en func31 ntmps31 fun St c cs hK=> ?_;refine U2 ?_;refine .bo fun b1=> ?_;refine U5 ?_;refine Tc.scope ?_;refine U3 ?_;refine .c rfl rfl rfl rfl (fun H hs=> .h (hop H hs.base)) ?_;refine U3 ?_;refine .al fun b6=> ?_;refine U18 ?_;refine .rt hK func31 results31 [_,_,_,_] ?_;exact okB
theorem Look_alarm(hG:Glob H)(ha:k.alarm≠0):CallT M 33 #[k.val A lc B tc] H (fun v H'=> H.le H'∧v=.tuple ⟨[.int .i64 0,.int .i64 0,.int .i64 k.alarm]⟩):=by
 have hop:=fun(H':View) (h:H.le H')=> open_alarm M H' k A lc B tc true (hk.le h) hn (glob_le hG h) ha;generalize k.alarm=al at ha hop ⊢;refine .en func33 ntmps33 fun St c cs hK=> ?_;refine U2 ?_;refine .bo fun b1=> ?_;refine U7 ?_;refine .c rfl rfl rfl rfl (fun H hs=> .h (hop H hs.base)) ?_;refine U3 ?_;refine .al fun b5=> ?_;refine U17 ?_;refine .rt hK func33 results33 [_,_,_] ?_;exact okB
theorem SettledR_alarm(hnm:∀i,i<k.nl→(k.name i).length≤1000000)(ha:k.alarm≠0):CallT M 32 #[k.val A lc B tc] H (fun v H'=> H.le H'∧v=.tuple ⟨[.int .i64 0,.int .i64 0,.bool false,.int .i64 k.alarm]⟩):=by
 have hchk:=fun(H':View) (h:H.le H')=> refCheckBook_c M H' k A lc B tc (hk.le h) hn hnm;generalize k.alarm=al at ha hchk ⊢;refine .en func32 ntmps32 fun St c cs hK=> ?_;refine U2 ?_;refine .bo fun b1=> ?_;refine U9 ?_;refine .c rfl rfl rfl rfl (fun H hs=> .h (hchk H hs.base)) ?_;refine U16 ?_;refine .rt hK func32 results32 [_,_,_,_] ?_;exact okB
theorem LookR_alarm(hnm:∀i,i<k.nl→(k.name i).length≤1000000)(ha:k.alarm≠0):CallT M 34 #[k.val A lc B tc] H (fun v H'=> H.le H'∧v=.tuple ⟨[.int .i64 0,.int .i64 0,.int .i64 k.alarm]⟩):=by
 have hchk:=fun(H':View) (h:H.le H')=> refCheckBook_c M H' k A lc B tc (hk.le h) hn hnm;generalize k.alarm=al at ha hchk ⊢;refine .en func34 ntmps34 fun St c cs hK=> ?_;refine U2 ?_;refine .bo fun b1=> ?_;refine U8 ?_;refine .c rfl rfl rfl rfl (fun H hs=> .h (hchk H hs.base)) ?_;refine U15 ?_;refine .rt hK func34 results34 [_,_,_] ?_;exact okB
end
theorem bk0_at(H:View):BkAt H bk0 none 0 none 0:=⟨⟨Nat.le_refl _,.inl rfl⟩,Nat.le_refl _,.inl rfl⟩
theorem bk0_small:bk0.small:=⟨Nat.zero_le _,Nat.zero_le _,fun i hi=> absurd hi (Nat.not_lt_zero i)⟩
section
variable(H:View)(hG:Glob H)(k:Bk)(A:Option Addr)(lc:Nat)(B:Option Addr)(tc:Nat)(F:Nat→Option Addr)(fc:Nat→Nat)(hB:BookAt H k A lc B tc F fc)(hn:k.small)(hnm:∀i,i<k.nl→(k.name i).length≤1000000)
include hG hB hn hnm
theorem settled_both:∃(n f:Int) (b:Bool) (a:Int),(∀H',H.le H'→CallT (Mp prog) 31 #[k.val A lc B tc] H' (fun v H''=> H'.le H''∧v=.tuple ⟨[.int .i64 n,.int .i64 f,.bool b,.int .i64 a]⟩))∧∀H',H.le H'→CallT (Mp prog) 32 #[k.val A lc B tc] H' (fun v H''=> H'.le H''∧v=.tuple ⟨[.int .i64 n,.int .i64 f,.bool b,.int .i64 a]⟩):=by
 have hk:=hB.bk;by_cases ha:k.alarm=0
 · obtain⟨n,f,b,e⟩:=settledV_ex k.settled;exact⟨n,f,b,0,fun H' h=> isV (Settled_c (Mp prog) H' k A lc B tc (hk.le h) hn (glob_le hG h) ha) e,fun H' h=> isV (SettledR_c (Mp prog) H' k A lc B tc (hk.le h) hn hnm ha) e⟩
 · exact⟨0,0,false,k.alarm,fun H' h=> Settled_alarm (Mp prog) H' k A lc B tc (hk.le h) hn (glob_le hG h) ha,fun H' h=> SettledR_alarm (Mp prog) H' k A lc B tc (hk.le h) hn hnm ha⟩
theorem look_both:∃(n f a:Int),(∀H',H.le H'→CallT (Mp prog) 33 #[k.val A lc B tc] H' (fun v H''=> H'.le H''∧v=.tuple ⟨[.int .i64 n,.int .i64 f,.int .i64 a]⟩))∧∀H',H.le H'→CallT (Mp prog) 34 #[k.val A lc B tc] H' (fun v H''=> H'.le H''∧v=.tuple ⟨[.int .i64 n,.int .i64 f,.int .i64 a]⟩):=by
 have hk:=hB.bk;by_cases ha:k.alarm=0
 · exact⟨k.look.1,k.look.2,0,fun H' h=> Look_c H' k A lc B tc F fc (hB.le h) hn (glob_le hG h) ha,fun H' h=> LookR_c (Mp prog) H' k A lc B tc F fc (hB.le h) hn hnm ha⟩
 · exact⟨0,0,k.alarm,fun H' h=> Look_alarm (Mp prog) H' k A lc B tc (hk.le h) hn (glob_le hG h) ha,fun H' h=> LookR_alarm (Mp prog) H' k A lc B tc (hk.le h) hn hnm ha⟩
theorem know_both(t:Int)(a b c' d:Int):∃(o:Bk) (al:Int),o.small∧(∀H',H.le H'→CallT (Mp prog) 35 #[k.val A lc B tc,.int .i64 t,trainV a b c' d] H' (fun v H''=> H'.le H''∧∃A' lc' B' tc',v=bookV (o.val A' lc' B' tc') al∧BkAt H'' o A' lc' B' tc'))∧
   ∀H',H.le H'→CallT (Mp prog) 36 #[k.val A lc B tc,.int .i64 t,trainV a b c' d] H' (fun v H''=> H'.le H''∧∃A' lc' B' tc',v=bookV (o.val A' lc' B' tc') al∧BkAt H'' o A' lc' B' tc'):=by
 have hk:=hB.bk;have no:∀ {f:FuncId} {H':View} {az:Array Value} {al:Int},CallT (Mp prog) f az H' (fun v H''=> H'.le H''∧v=noBook al)→CallT (Mp prog) f az H' (fun v H''=> H'.le H''∧∃A' lc' B' tc',v=bookV (bk0.val A' lc' B' tc') al∧BkAt H'' bk0 A' lc' B' tc'):=fun h=> CallT.mono h (by
   rintro v H'' ⟨h1,rfl⟩;exact⟨h1,none,0,none,0,rfl,bk0_at _⟩)
 by_cases ha:k.alarm=0
 · by_cases ht:0≤t∧t≤(k.nt:Int)-1
   · obtain⟨w,rfl⟩:∃w:Nat,t=(w:Nat):=⟨t.toNat,by omega⟩
     have hw:w<k.nt:=by omega
     cases hx:trainOk a b c' d with
     | false=> exact⟨bk0,1,bk0_small,fun H' h=> no (Know_limit (Mp prog) H' k A lc B tc (hk.le h) hn (glob_le hG h) ha w hw a b c' d hx),fun H' h=> no (KnowR_limit (Mp prog) H' k A lc B tc (hk.le h) hn hnm ha w hw a b c' d hx)⟩
     | true=>
       have hr:=fun(H':View) (h:H.le H')=> KnowR_c (Mp prog) H' k A lc B tc F fc (hB.le h) hn hnm ha w hw a b c' d hx;cases hy:k.nowOk w a b c' d with
       | false=>
         rw[hy] at hr;exact⟨bk0,10,bk0_small,fun H' h=> no (Know_conflict (Mp prog) H' k A lc B tc (hk.le h) hn (glob_le hG h) ha w hw a b c' d hx hy),fun H' h=> no (CallT.mono (hr H' h) fun v H'' h2=> ⟨h2.1,h2.2.1 rfl⟩)⟩
       | true=>
         rw[hy] at hr;refine⟨k.now w a b c' d,0,⟨hn.nl,hn.nt,hn.num⟩,fun H' h=> CallT.mono (Know_c (Mp prog) H' k A lc B tc F fc (hB.le h) hn (glob_le hG h) ha w hw a b c' d hx hy) ?_,fun H' h=> CallT.mono (hr H' h) ?_⟩
         · rintro v H'' ⟨h1,A',lc',B',tc',F',fc',h2,h3⟩;exact⟨h1,A',lc',B',tc',h2,h3.bk⟩
         · rintro v H'' ⟨h1,_,h2⟩;obtain⟨B',tc',h3,h4⟩:=h2 rfl;exact⟨h1,A,lc,B',tc',h3,h4.bk⟩
   · exact⟨bk0,6,bk0_small,fun H' h=> no (Know_absent (Mp prog) H' k A lc B tc (hk.le h) hn (glob_le hG h) ha t ht a b c' d),fun H' h=> no (KnowR_absent (Mp prog) H' k A lc B tc (hk.le h) hn hnm ha t ht a b c' d)⟩
 · exact⟨bk0,k.alarm,bk0_small,fun H' h=> no (Know_alarm (Mp prog) H' k A lc B tc (hk.le h) hn (glob_le hG h) ha t a b c' d),fun H' h=> no (KnowR_alarm (Mp prog) H' k A lc B tc (hk.le h) hn hnm ha t a b c' d)⟩
end
section
variable(H:View)
theorem Looks_w {St:View→Goroutine→Prop}{cs:List Frame}(hG:Glob H)(k:Bk)(A:Option Addr)(lc:Nat)(B:Option Addr)(tc:Nat)(F:Nat→Option Addr)(fc:Nat→Nat)(hB:BookAt H k A lc B tc F fc)(t:Int)(a b c' d:Int)
   (hR:∀(H₀:View) (R:Rg) (L:Bl) (kk:List Item),lk R 6=some (.bool true)→H.le H₀→Tc (Mp prog) St 102 ⟨4,.normal,none⟩ H₀ cs R L [] (.code .ret::kk)):
   Tc (Mp prog) St 102 ⟨4,.normal,none⟩ H cs (argR [k.val A lc B tc,.int .i64 t,trainV a b c' d]) [] [] [.code (bodyOf Tryz.f4)]:=by
 have hk:=hB.bk;have hlives:=fun(H':View) (h:H.le H')=> lives_c H' (glob_le hG h);have hgc:=fun(H':View) (h:H.le H')=> Great_c (Mp prog) H' k A lc B tc (hk.le h).rows;cases hgr:k.great with
 | true=>
   rw[hgr] at hgc;refine U2 ?_;refine .bo fun b3=> ?_;refine .bo fun b5=> ?_;refine U6 ?_;refine .c rfl rfl rfl rfl (fun H hs=> .h (hgc H hs.base)) ?_;refine U4 ?_;refine .c rfl rfl rfl rfl (fun H hs=> .h (hlives H hs.base)) ?_;refine U2 ?_;exact hR _ _ _ _ rfl (View.le_refl _)
 | false=>
   rw[hgr] at hgc;have hsm:k.small:=Bk.ungreat_small hgr;have hnm:∀i,i<k.nl→(k.name i).length≤1000000:=fun i hi=> by have:=(Bk.ungreat hgr).2.2 i hi;omega
   obtain⟨n1,f1,b1,a1,hs1,hr1⟩:=settled_both H hG k A lc B tc F fc hB hsm hnm;obtain⟨n2,f2,a2,hs2,hr2⟩:=look_both H hG k A lc B tc F fc hB hsm hnm;obtain⟨o,al,hosm,hs3,hr3⟩:=know_both H hG k A lc B tc F fc hB hsm hnm t a b c' d;cases b1
   all_goals
     refine U2 ?_;refine .bo fun b3=> ?_;refine .bo fun b5=> ?_;refine U6 ?_;refine .c rfl rfl rfl rfl (fun H hs=> .h (hgc H hs.base)) ?_;refine U6 ?_;refine .c rfl rfl rfl rfl (fun H hs=> .h (hs1 H hs.base)) ?_;refine U13 ?_;refine .c rfl rfl rfl rfl (fun H hs=> .h (hr1 H hs.base)) ?_;refine U37 ?_;refine .c rfl rfl rfl rfl (fun H hs=> .h (hs2 H hs.base)) ?_;refine U11 ?_;refine .c rfl rfl rfl rfl (fun H hs=> .h (hr2 H hs.base)) ?_;refine U32 ?_;refine To.callF rfl rfl rfl rfl rfl rfl (by decide) (FnT.h (hs3 H (View.le_refl _))) (fun v H₂ hv=> ?_);obtain⟨hle2,A2,lc2,B2,tc2,rfl,hO2⟩:=hv;refine U3 ?_;refine .al fun b15=> ?_;refine U8 ?_;refine To.callF rfl rfl rfl rfl rfl rfl (by decide) (FnT.h (hr3 H₂ hle2)) (fun v H₃ hv=> ?_);obtain⟨hle3,A3,lc3,B3,tc3,rfl,hO3⟩:=hv;have hle:=View.le_trans hle2 hle3;have hsame:=fun(H':View) (h:H₃.le H')=> Same_c (Mp prog) H' o A2 A3 lc2 lc3 B2 B3 tc2 tc3 (hO2.le (View.le_trans hle3 h)) (hO3.le h) hosm;refine U3 ?_;refine .al fun b16=> ?_;refine U7 ?_;refine .c rfl rfl rfl rfl (fun H hs=> .h (hsame H hs.base)) ?_;refine U6 ?_;refine .c rfl rfl rfl rfl (fun H hs=> .h (hlives H (View.le_trans hle hs.base))) ?_;refine U3 ?_;exact hR _ _ _ _ rfl hle
end
end Go.Proofs.YtdnfdeplcjaonaaGreatDoor
