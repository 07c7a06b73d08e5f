/-
 Texts of the proofs over baudot/dial.
-/
import Derived.Test.YtgkmnalhddmclaaGreatDoorT11
namespace Go.Proofs.YtgkmnalhddmclaaGreatDoor
open Go.RL Go.Proofs.Tryz
set_option maxRecDepth 10000
set_option maxHeartbeats 4000000
theorem wX(t:EK)(w:List UInt8)(i:Nat):iC t w (if decide (i=0)=true then 0 else 1)=iC t w i:=by
 unfold iC;cases MG w with
 | none=> rfl
 | some r=>
  have e:r.fits (if decide (i=0)=true then 0 else 1)=r.fits i:=by
   by_cases h:i=0
   ·subst h;rfl
   ·rw[if_neg (by simpa using h)];cases r with
    | mW=> exact(beq_eq_false_iff_ne.2 h).symm
    | oS=> exact(bne_iff_ne.2 h).symm
  simp only[e]
theorem fL.lines {H:View}{t:EK}{A:Option Addr}{lc:Nat}(h:fL H t A lc)(hc:t.ls.length<=lc):zB H t.ch A lc:=by
 refine⟨hc,?_⟩;obtain⟨_,hl,⟨a,c,e,e2⟩|⟨b,off,c,f,cs,et,fz,e,hb,hle,ht⟩⟩:=h
 ·have:t.ls.length=0:=by
   have h1:=AQ t.ls;rw[e2] at h1;simp at h1
   omega
  exact .inl this
 ·injection e with e1 _ _
  refine .inr ⟨b,off,f,cs,et,fz,e1,hb,fun i hi=> ?_⟩;have hi:i<t.ls.length:=hi;have h1:=KU t.ls [] i hi;rw[List.append_nil] at h1;have hll:=AQ t.ls;unfold SB at h1 ⊢;simp only at h1 ⊢;rw[show Nat.ble (i*4+4) (lK t.ls).length=true from Nat.ble_eq_true_of_le oM] at h1;rw[show Nat.ble (off+i*4+4) cs.length=true from Nat.ble_eq_true_of_le oM];refine Eq.trans ?_ h1;simp only[Option.some.injEq,Value.agg.injEq,Array.mk.injEq];rw[<-ht,List.drop_take,List.drop_drop,List.take_take,Nat.min_eq_left oM]
section
variable(M:Md prog)(H:View)
theorem RS(s:List UInt8)(hm:s.length<=2000):
  cA M 10 #[jA s] H (fun v H'=> H.le H'/\∃A lc,v=.tuple ⟨[(xD s).1.lE A lc,.int .i64 ((xD s).2.1:Nat),.int .i64 (xD s).2.2]⟩/\zB H' (xD s).1 A lc):=by
 have aAd:=fun H=> gT M H s oM;have hwl:wl (xE s)<=s.length+1:=ON s;have hwx:∀x∈xE s,x.length<=2000:=fun x hx=> by
  have h1:∀l:List (List UInt8),∀p∈l,p.length+1<=wl l:=fun l=> by
   induction l with
   | nil=> intro p hp;cases hp
   | cons a l ih=>
    intro p hp;rw[nH];rcases List.mem_cons.1 hp with rfl|hp
    ·omega
    ·have:=ih p hp;omega
  have:=h1 _ _ hx;omega
 unfold xD;obtain⟨PF,D8⟩:∃PF,PF=LC (xE s) 0 TH:=⟨_,rfl⟩
 rw[<-D8];generalize xE s=rows at aAd hwl D8 hwx;have O2:=iR rows;have h00:fL H TH none 0:=(Gl.nil 38 4).src (fun x hx=> nomatch hx);by_cases c0:rows= []
 ·subst c0;have hP2:PF=.inl TH:=D8;subst hP2;refine .en func10 ntmps10 fun St c cs hK=> ?_;refine U2 ?_;refine .al fun b2=> ?_;refine WL ?_;refine .e (Or.uA Gl.val Gl.bl (fun g:Gl 9 1=> g.n=([]:List (List UInt8)).length/\g.l=eB []) rfl rfl rfl rfl rfl dE Gl.FR (fun H hs=> .h (aAd H)) (fun g hg=> ?_));refine U2 ?_;have hgv:g.val=.slice (g.blk.map fun b=> ⟨b,0,none⟩) 0 g.cap:=by unfold Gl.val;rw[hg.1];rfl
  rw[hgv];refine WL ?_;refine .rt hK func10 results10 [_,_,_] ?_;exact fun H' hs=> ⟨hs.base,none,0,rfl,oJ H'⟩
 ·have hlen:1<=rows.length:=List.length_pos_iff.2 c0;refine .en func10 ntmps10 fun St c cs hK=> ?_;refine U2 ?_;refine .al fun b2=> ?_;refine WL ?_;refine .e (Or.uA Gl.val Gl.bl (fun g:Gl 9 1=> g.n=rows.length/\g.l=eB rows) rfl rfl rfl rfl rfl dE Gl.FR (fun H hs=> .h (aAd H)) (fun g hg=> ?_));refine U2 ?_;obtain⟨uD,ZE⟩:=hg;obtain⟨lb,hlb⟩:∃b,g.blk=some b:=by
   cases h:g.blk with
   | some b=> exact⟨b,rfl⟩
   | none=> have:=g.h0 h;have:=g.hc;omega
  have hgc:=g.hc;rw[uD] at hgc;have hgv:g.val=.slice (some ⟨lb,0,none⟩) rows.length g.cap:=by unfold Gl.val;rw[hlb,uD];rfl
  have hZ:g.bl= [(lb,true,.cells ⟨eB rows++g.CC⟩ 9 (0,0))]:=by unfold Gl.bl;rw[hlb,ZE]
  rw[hgv,hZ];generalize g.cap=cap at hgc;generalize g.CC=J;refine eF ?_;refine .al fun b6=> ?_;refine U7 ?_;refine Tc.db (Tc.aP (σ:= { x:EK×Nat×View×Option Addr×Nat//x.2.1<=rows.length/\LC (rows.drop x.2.1) x.2.1 x.1=PF/\x.1.ls.length<=x.2.1/\x.1.ls.length<=x.2.2.2.2/\H.le x.2.2.1/\fL x.2.2.1 x.1 x.2.2.2.1 x.2.2.2.2 }) (fun x=> (x.1.2.2.1,[(2,.pointer (some ⟨b2,0,none⟩)),(5,.slice (some ⟨lb,0,none⟩) rows.length cap),(6,.pointer (some ⟨b6,0,none⟩)),(7,.int .i64 (x.1.2.1:Nat))],[(b6,true,.cells ⟨(x.1.1.ch.lE x.1.2.2.2.1 x.1.2.2.2.2).cells.toList⟩ 26 (0,0)),(b2,true,.cells ⟨[.int .i64 0,.int .i64 0,.slice none 0 0,.int .i64 0,.int .i64 0,.int .i64 0,.int .i64 0]⟩ 26 (0,0)),(lb,true,.cells ⟨eB rows++J⟩ 9 (0,0))])) (fun x=> rows.length-x.1.2.1) ?_ ⟨(TH,0,H,none,0),Nat.zero_le _,D8.symm,Nat.le_refl _,Nat.le_refl _,View.le_refl _,h00⟩);rintro⟨⟨t,i,H₁,A,lc⟩,hi,vU,htl,R8,hle,hB⟩ ih;simp only at hi vU htl R8 hle hB;show Tc M St _ _ H₁ _ [(2,.pointer (some ⟨b2,0,none⟩)),(5,.slice (some ⟨lb,0,none⟩) rows.length cap),(6,.pointer (some ⟨b6,0,none⟩)),(7,.int .i64 (i:Nat))] [(b6,true,.cells ⟨(t.ch.lE A lc).cells.toList⟩ 26 (0,0)),(b2,true,.cells ⟨[.int .i64 0,.int .i64 0,.slice none 0 0,.int .i64 0,.int .i64 0,.int .i64 0,.int .i64 0]⟩ 26 (0,0)),(lb,true,.cells ⟨eB rows++J⟩ 9 (0,0))] _ _;by_cases c1:i=rows.length
  ·clear ih;subst c1;rw[List.drop_length] at vU;have vU:PF=.inl t:=vU.symm;have L5:=fun(H':View) (h:H₁.le H')=> DJ M H' t.ch A lc ((hB.lines R8).le h);subst vU;simp only[if_neg c0] at hK;by_cases ha:t.ch.nB=0
   ·simp only[if_pos ha] at hK;rw[ha] at L5;refine zH ?_;refine .cl (fun H hs=> L5 H hs.base) ?_;refine bJ ?_;refine .rt hK func10 results10 [_,_,_] ?_;exact fun H' hs=> ⟨View.le_trans hle hs.base,A,lc,rfl,(hB.lines R8).le hs.base⟩
   ·simp only[if_neg ha] at hK;have e2:gA .neq .i64 t.ch.nB 0=some (.bool true):=SC ha;generalize t.ch.nB=a at L5 e2 hK;refine zH ?_;refine .cl (fun H hs=> L5 H hs.base) ?_;refine bJ ?_;refine .rt hK func10 results10 [_,_,_] ?_;exact fun H' hs=> ⟨View.le_trans hle hs.base,none,0,rfl,oJ H'⟩
  ·have c2:i<rows.length:=by omega
   have f1:=ldP J (List.getElem?_eq_getElem c2);rw[List.drop_eq_getElem_cons c2] at vU;have hwm:=hwx _ (List.getElem_mem c2);have mX:=w6 M H₁ t A lc hB R8 oM rows[i] oM (decide (i=0));rw[wX] at mX;generalize rows[i]=w at f1 vU hwm mX;have he:gA .eql .i64 ((i:Nat):Int) 0=some (.bool (decide (i=0))):=by
    by_cases h:i=0
    ·rw[decide_eq_true h];exact vC oM
    ·rw[decide_eq_false h];exact CB oM
   refine aJ ?_;refine Tc.db (R':= [(2,.pointer (some ⟨b2,0,none⟩)),(5,.slice (some ⟨lb,0,none⟩) rows.length cap),(6,.pointer (some ⟨b6,0,none⟩)),(7,.int .i64 (i:Nat))]) (L':= [(b6,true,.cells ⟨(t.ch.lE A lc).cells.toList⟩ 26 (0,0)),(b2,true,.cells ⟨[.int .i64 0,.int .i64 0,.slice none 0 0,.int .i64 0,.int .i64 0,.int .i64 0,.int .i64 0]⟩ 26 (0,0)),(lb,true,.cells ⟨eB rows++J⟩ 9 (0,0))]) ?_;refine Tc.aEN (fun H' R' L'=> ∃A3 lc3 b8,H₁.le H'/\fL H' (iC t w i).1 A3 lc3/\(iC t w i).1.ls.length<=lc3/\WB [(2,.pointer (some ⟨b2,0,none⟩)),(5,.slice (some ⟨lb,0,none⟩) rows.length cap),(6,.pointer (some ⟨b6,0,none⟩)),(7,.int .i64 (i:Nat)),(8,.pointer (some ⟨b8,0,none⟩)),(9,.bool (iC t w i).2)] R'/\List.Sublist [(b8,true,.cells ⟨((iC t w i).1.ch.lE A3 lc3).cells.toList⟩ 26 (0,0)),(b6,true,.cells ⟨(t.ch.lE A lc).cells.toList⟩ 26 (0,0)),(b2,true,.cells ⟨[.int .i64 0,.int .i64 0,.slice none 0 0,.int .i64 0,.int .i64 0,.int .i64 0,.int .i64 0]⟩ 26 (0,0)),(lb,true,.cells ⟨eB rows++J⟩ 9 (0,0))] L') ?_ (fun fin=> ?_)
   rotate_left
   ·refine Tc.dr [12] [] mixed rfl ?_;refine .q 0 rfl (oA.load (E:=en) 0 rfl rfl rfl rfl rfl) ?_;refine V3 1 ?_;refine .q 4 rfl (oA.load (E:=en) 2 rfl rfl rfl rfl f1) ?_;refine .nn 5 ?_;refine .q 6 rfl (.it (zz:=he)) ?_;refine Ta.F9 7 11 kR rfl rfl rfl rfl rfl rfl rfl dE (UC.h (mX)) (by intro _ _ hh;exact hh.1) sL (.inr sL) (fun v Hk hv=> ?_) (yG.mk rfl rfl rfl (.al (zz:=fun b8=> ⟨S2.mk sL (.inr sL),?_⟩)))
    ·obtain⟨lek,A3,lc3,rfl,hO,S9⟩:=hv;refine V2 8 ?_;refine .nw 10 ?_;refine .ea 11 rfl (.al (zz:=fun b8=> ⟨S2.mkL lek sL (.inr sL),?_⟩));refine .ea 12 rfl (Or.storeT (E:=en) 0 rfl rfl rfl rfl rfl rfl rfl rfl rfl rfl rfl ⟨S2.mkL lek sL (.inl kR),?_⟩);refine .nw 13 ?_;refine .dn ?_;exact fin _ _ _ ⟨A3,lc3,b8,lek,hO,S9,⟨rfl,rfl,rfl,rfl,rfl,rfl,trivial⟩,sL⟩
    ·refine Ta.aB9 7 kR rfl rfl rfl rfl rfl rfl rfl dE (UC.h (mX)) (by intro _ _ hh;exact hh.1) sL (.inr sL) (fun v Hk hv=> ?_);obtain⟨lek,A3,lc3,rfl,hO,S9⟩:=hv;refine V2 8 ?_;refine .nw 10 ?_;refine .ea 12 rfl (Or.storeT (E:=en) 0 rfl rfl rfl rfl rfl rfl rfl rfl rfl rfl rfl ⟨S2.mkL lek sL (.inl kR),?_⟩);refine .nw 13 ?_;refine .dn ?_;exact fin _ _ _ ⟨A3,lc3,b8,lek,hO,S9,⟨rfl,rfl,rfl,rfl,rfl,rfl,trivial⟩,sL⟩
   rintro H3 R' L' ⟨A3,lc3,b8,le3,hO,S9,hR,hL⟩;refine Tc.PC ?_ hR hL;clear hR hL;cases hr:MG w with
   | none=>
    rw[BJ _ _ _ hr] at vU;subst vU;have hl:iC t w i=(t,false):=by unfold iC;rw[hr]
    rw[hl];refine bJ ?_;refine .rt hK func10 results10 [_,_,_] ?_;exact fun H' hs=> ⟨View.le_trans hle (View.le_trans le3 hs.base),none,0,rfl,oJ H'⟩
   | some r=>
    cases hf:r.fits i with
    | false=>
     rw[kF _ _ _ hr hf] at vU;subst vU;have hl:iC t w i=(t,false):=by unfold iC;rw[hr];simp only[hf];rfl
     rw[hl];refine bJ ?_;refine .rt hK func10 results10 [_,_,_] ?_;exact fun H' hs=> ⟨View.le_trans hle (View.le_trans le3 hs.base),none,0,rfl,oJ H'⟩
    | true=>
     rw[gH _ _ _ hr hf] at vU;have hl:iC t w i=(t.put r,true):=by unfold iC;rw[hr];simp only[hf];rfl
     rw[hl] at hO S9 ⊢;have rO:=t.vW r;have bE:=ih ⟨(t.put r,i+1,H3,A3,lc3),by simp only;omega,vU,by simp only;omega,S9,View.le_trans hle le3,hO⟩ (by simp only;omega);simp only at bE;clear ih;generalize t.put r=t3 at bE hO S9;refine pH ?_;exact Tc.db (bE)
end
end Go.Proofs.YtgkmnalhddmclaaGreatDoor
namespace Go.RL
section
variable {P:Program}{M:Md P}{St:View->Goroutine->Prop}{n:Nat}{b:FB}{H₀:View}{cs:List Frame}{R:Rg}{L:Bl}{ds:List Deferred}{k:List Item}{ops:Array Oper}
end
end Go.RL
namespace Go.Proofs.YtgkmnalhddmclaaGreatDoor
open Go.RL Go.Proofs.Tryz
set_option maxRecDepth 10000
set_option maxHeartbeats 16000000
theorem zJ {n:Nat}(h:n<10):JB n= [UInt8.ofNat (48+n)]:=if_pos h
theorem yS {n:Nat}(h:10<=n)(h2:n<100):JB n=JB (n/10)++[UInt8.ofNat (48+n%10)]:=by
 rw[zJ (show n/10<10 by omega)];exact if_neg (show ¬n<10 by omega)
theorem NR {l:List UInt8}{i:Nat}(h:i<l.length):(l.drop i).reverse=(l.drop (i+1)).reverse++[l[i]]:=by
 rw[List.drop_eq_getElem_cons h,List.reverse_cons]
theorem DO {l:List UInt8}{J:List Value}{i:Nat}(h:i<l.length):SB false 1 (CA l++J) (0+((i:Nat):Int).toNat*1)=some (.int .u8 (l[i].toNat:Nat)):=by
 have e:(0+((i:Nat):Int).toNat*1)=i:=by omega
 rw[e];show(CA l++J)[i]? =_;rw[List.getElem?_append_left (by rw[rF];exact h)];unfold CA;rw[List.getElem?_map,List.getElem?_eq_getElem h];rfl
section
variable(M:Md prog)(H:View)
theorem IT(n:Nat)(h:n<100):cA M 76 #[.int .i64 (n:Nat)] H (fun v H'=> H.le H'/\v=jA (JB n)):=by
 refine .en func76 ntmps76 fun St c cs hK=> ?_;refine WL ?_;refine Tc.db (R':= [(0,.int .i64 (n:Nat)),(3,.bool false),(4,.slice none 0 0)]) (L':= []) ?_;refine zM (fun R' L'=> ∃g:Gl 5 1,g.n=(JB n).length/\g.l=CA (JB n).reverse/\WB [(3,.bool false),(4,g.val)] R'/\List.Sublist g.bl L') ?_ (fun fin=> ?_)
 rotate_left
 ·refine Tc.db (Tc.vA (σ:= { x:Nat×Gl 5 1×List UInt8//x.1<100/\JB n=JB x.1++x.2.2.reverse/\x.2.1.l=CA x.2.2/\x.2.1.n=x.2.2.length/\x.2.2.length<=1/\(10<=x.1->x.2.2= []) }) (fun x=> ([(0,.int .i64 (x.1.1:Nat)),(3,.bool false),(4,x.1.2.1.val)],x.1.2.1.bl)) (fun x=> x.1.1) ?_ ⟨(n,Gl.nil 5 1,[]),h,by simp,rfl,rfl,by simp,fun _=> rfl⟩);rintro⟨⟨m,g,acc⟩,hm,he,ZE,uD,C2,ha⟩ ih;simp only at hm he ZE uD C2 ha;show Tc M St _ _ _ _ [(0,.int .i64 (m:Nat)),(3,.bool false),(4,g.val)] g.bl _ _;have r1:gA .rem .i64 ((m:Nat):Int) 10=some (.int .i64 ((m%10:Nat):Int)):=by rw[rem_in oM oM];congr 2 <;> omega
  have a1:gA .add .i64 48 ((m%10:Nat):Int)=some (.int .i64 ((48+m%10:Nat):Int)):=by rw[tC oM oM];congr 2 <;> omega
  have w1:IntKind.u8.wrap ((48+m%10:Nat):Int)=(((UInt8.ofNat (48+m%10)).toNat:Nat):Int):=by
   rw[qV _ oM,UInt8.toNat_ofNat'];omega
  have q1:gA .quo .i64 ((m:Nat):Int) 10=some (.int .i64 ((m/10:Nat):Int)):=by rw[aAF oM oM oM];congr 2 <;> omega
  by_cases c1:m<10
  ·clear ih;rw[zJ c1] at he;rw[show m%10=m by omega] at r1 a1 w1;rw[show m/10=0 by omega] at q1;generalize UInt8.ofNat (48+m)=y at w1 he;refine wR ?_;refine .e (.bs (zz:=fun bs=> ?_));refine .e (Or.append (E:=en) 1 rfl rfl rfl rfl rfl rfl rfl rfl rfl rfl rfl rfl rfl rfl rfl (fun H hs=> NA.of (hs.get (i:=0) rfl) (Nat.le_of_ble_eq_true rfl)) rfl oM rfl dE (fun g2 CK RJ=> ?_));refine WL ?_;exact fin _ _ ⟨g2,by rw[CK,uD,he];simp,by rw[RJ,ZE,he,List.reverse_append,List.reverse_reverse,WG];rfl,⟨rfl,rfl,trivial⟩,sL⟩
  ·have c2:10<=m:=by omega
   obtain rfl:=ha c2;rw[yS c2 hm] at he;have bE:=fun g2 h1 h2=> ih ⟨(m/10,g2,[UInt8.ofNat (48+m%10)]),by simp only;omega,by simp only;rw[he];simp,h2,h1,by simp,by simp only;omega⟩ (by simp only;omega);simp only at bE;clear ih;generalize UInt8.ofNat (48+m%10)=y at w1 he bE;refine wR ?_;refine .e (.bs (zz:=fun bs=> ?_));refine .e (Or.append (E:=en) 1 rfl rfl rfl rfl rfl rfl rfl rfl rfl rfl rfl rfl rfl rfl rfl (fun H hs=> NA.of (hs.get (i:=0) rfl) (Nat.le_of_ble_eq_true rfl)) rfl oM rfl dE (fun g2 CK RJ=> ?_));refine bJ ?_;exact Tc.db (bE g2 (by rw[CK,uD];rfl) (by rw[RJ,ZE];rfl))
 rintro R' L' ⟨g,hn,hl,hR,hL⟩;refine Tc.PC ?_ hR hL;clear hR hL;have hlen:=(eI n h).2.2.2.2.2.1;have gB:=(eI n h).2.2.2.2.2.2;have wU:1<=(JB n).length:=List.length_pos_iff.2 gB;obtain⟨x,hv,jX⟩:=RV g oM;rw[hn] at hv;rw[hl] at jX;rw[hv,jX];obtain⟨q,hq⟩:∃q,q=(JB n).reverse:=⟨_,rfl⟩
 have O2:(JB n).length=q.length:=by rw[hq,List.length_reverse]
 have pX:JB n=q.reverse:=by rw[hq,List.reverse_reverse]
 rw[<-hq,O2];rw[O2] at hlen wU;show Tc M St _ _ _ _ [(3,.bool false),(4,.slice (some ⟨x.1,0,none⟩) q.length x.2.1)] [(x.1,true,.cells ⟨CA q++x.2.2⟩ 5 (0,0))] _ _;show Tc M St _ _ _ _ [(3,.bool false),(4,.slice (some ⟨x.1,0,none⟩) q.length x.2.1)] [(x.1,true,.cells ⟨CA q++x.2.2⟩ 5 (0,0))] _ _;have e0:gA .sub .i64 ((q.length:Nat):Int) 1=some (.int .i64 (((q.length:Nat):Int)-1)):=GF oM oM;refine X1 ?_;refine Tc.PC (Tc.vA (σ:= { i:Nat//i<=q.length }) (fun i=> ([(4,.slice (some ⟨x.1,0,none⟩) q.length x.2.1),(6,jA (q.drop i.1).reverse),(7,.int .i64 ((i.1:Nat)-1))],[(x.1,true,.cells ⟨CA q++x.2.2⟩ 5 (0,0))])) (fun i=> i.1) ?_ ⟨q.length,Nat.le_refl _⟩) (by simp only[List.drop_length];exact⟨rfl,rfl,rfl,trivial⟩) sL;rintro⟨i,hi⟩ ih;show Tc M St _ _ _ _ [(4,.slice (some ⟨x.1,0,none⟩) q.length x.2.1),(6,jA (q.drop i).reverse),(7,.int .i64 ((i:Nat)-1))] [(x.1,true,.cells ⟨CA q++x.2.2⟩ 5 (0,0))] _ _;by_cases c1:i=0
 ·clear ih;subst c1;rw[List.drop_zero];refine aJ ?_;refine .rt hK func76 results76 [_] ?_;exact fun H' hs=> ⟨hs.base,by rw[pX];rfl⟩
 ·obtain⟨j,rfl⟩:∃j,i=j+1:=⟨i-1,oM⟩
  have e1:(((j+1:Nat):Int)-1)=(j:Nat):=by omega
  have hj:j<q.length:=by omega
  have bE:=ih ⟨j,oM⟩ (by simp only;omega);simp only[NR hj] at bE;clear ih;have f1:=DO (J:=x.2.2) hj;have nR:((q.drop (j+1)).reverse).length<=10:=by rw[List.length_reverse,List.length_drop];omega
  generalize (q.drop (j+1)).reverse=w at bE nR ⊢;generalize q[j]=y at bE f1;have s1:RL.cC .add w [y]=some (jA (w++[y])):=ZB (by simp only[List.length_singleton];omega);rw[e1];refine bJ ?_;refine .e (.bs (zz:=fun bs=> ?_));refine .x (oA.JV (E:=en) (m:=1) (s:= [y]) rfl rfl (fun H hs=> NA.of (hs.get (i:=0) rfl) (Nat.le_of_ble_eq_true rfl)) rfl rfl rfl rfl rfl rfl) ?_;refine U9 ?_;exact Tc.db (bE)
theorem HT(z:Int)(h:Two z):cA M 76 #[.int .i64 z] H (fun v H'=> H.le H'/\v=jA (aAz z)):=by
 obtain⟨n,rfl⟩:=Int.eq_ofNat_of_zero_le h.1;exact IT M H n (by have:=h.2;omega)
end
set_option maxHeartbeats 2000000
section
variable(M:Md prog)(H:View)
theorem q7(m:Nat):gA .rem .i64 (-(m:Int)) 10=some (.int .i64 (-((m%10:Nat):Int))):=by
 show some (Value.int .i64 (Int.tmod (-(m:Int)) 10))=_;rw[Int.neg_tmod]
 congr 2
theorem e7(m:Nat)(h:m<100):gA .quo .i64 (-(m:Int)) 10=some (.int .i64 (-((m/10:Nat):Int))):=by
 show some (Value.int .i64 (IntKind.i64.wrap (Int.tdiv (-(m:Int)) 10)))=_;have e:Int.tdiv (-(m:Int)) 10= -((m/10:Nat):Int):=by rw[Int.neg_tdiv];rfl
 rw[e,wrap64 oM oM]
theorem FT(n:Nat)(h1:1<=n)(h:n<100):cA M 76 #[.int .i64 (-(n:Int))] H (fun v H'=> H.le H'/\v=jA (45::JB n)):=by
 refine .en func76 ntmps76 fun St c cs hK=> ?_;refine WL ?_;refine Tc.db (R':= [(0,.int .i64 (-(n:Int))),(3,.bool true),(4,.slice none 0 0)]) (L':= []) ?_;refine zM (fun R' L'=> ∃g:Gl 5 1,g.n=(JB n).length/\g.l=CA (JB n).reverse/\WB [(3,.bool true),(4,g.val)] R'/\List.Sublist g.bl L') ?_ (fun fin=> ?_)
 rotate_left
 ·refine Tc.db (Tc.vA (σ:= { x:Nat×Gl 5 1×List UInt8//(1<=x.1/\x.1<100)/\JB n=JB x.1++x.2.2.reverse/\x.2.1.l=CA x.2.2/\x.2.1.n=x.2.2.length/\x.2.2.length<=1/\(10<=x.1->x.2.2= []) }) (fun x=> ([(0,.int .i64 (-(x.1.1:Int))),(3,.bool true),(4,x.1.2.1.val)],x.1.2.1.bl)) (fun x=> x.1.1) ?_ ⟨(n,Gl.nil 5 1,[]),⟨h1,h⟩,by simp,rfl,rfl,by simp,fun _=> rfl⟩);rintro⟨⟨m,g,acc⟩,⟨E2,hm⟩,he,ZE,uD,C2,ha⟩ ih;simp only at E2 hm he ZE uD C2 ha;show Tc M St _ _ _ _ [(0,.int .i64 (-(m:Int))),(3,.bool true),(4,g.val)] g.bl _ _;have r1:=q7 m;have a1:gA .add .i64 48 ((m%10:Nat):Int)=some (.int .i64 ((48+m%10:Nat):Int)):=by rw[tC oM oM];congr 2 <;> omega
  have w1:IntKind.u8.wrap ((48+m%10:Nat):Int)=(((UInt8.ofNat (48+m%10)).toNat:Nat):Int):=by
   rw[qV _ oM,UInt8.toNat_ofNat'];omega
  have q1:=e7 m hm;by_cases c1:m<10
  ·clear ih;rw[zJ c1] at he;rw[show m%10=m by omega] at r1 a1 w1;rw[show m/10=0 by omega] at q1;generalize UInt8.ofNat (48+m)=y at w1 he;refine bJ ?_;refine .x (oA.neg (z:=((m:Nat):Int)) rfl rfl oM oM oM) ?_;refine U8 ?_;refine .e (.bs (zz:=fun bs=> ?_));refine .e (Or.append (E:=en) 1 rfl rfl rfl rfl rfl rfl rfl rfl rfl rfl rfl rfl rfl rfl rfl (fun H hs=> NA.of (hs.get (i:=0) rfl) (Nat.le_of_ble_eq_true rfl)) rfl oM rfl dE (fun g2 CK RJ=> ?_));refine WL ?_;exact fin _ _ ⟨g2,by rw[CK,uD,he];simp,by rw[RJ,ZE,he,List.reverse_append,List.reverse_reverse,WG];rfl,⟨rfl,rfl,trivial⟩,sL⟩
  ·have c2:10<=m:=by omega
   obtain rfl:=ha c2;rw[yS c2 hm] at he;have bE:=fun g2 h1 h2=> ih ⟨(m/10,g2,[UInt8.ofNat (48+m%10)]),by simp only;omega,by simp only;rw[he];simp,h2,h1,by simp,by simp only;omega⟩ (by simp only;omega);simp only at bE;clear ih;generalize UInt8.ofNat (48+m%10)=y at w1 he bE;by_cases c0:m%10=0
   ·rw[c0] at r1 a1 w1;refine wR ?_;refine .e (.bs (zz:=fun bs=> ?_));refine .e (Or.append (E:=en) 1 rfl rfl rfl rfl rfl rfl rfl rfl rfl rfl rfl rfl rfl rfl rfl (fun H hs=> NA.of (hs.get (i:=0) rfl) (Nat.le_of_ble_eq_true rfl)) rfl oM rfl dE (fun g2 CK RJ=> ?_));refine bJ ?_;exact Tc.db (bE g2 (by rw[CK,uD];rfl) (by rw[RJ,ZE];rfl))
   ·refine bJ ?_;refine .x (oA.neg (z:=((m%10:Nat):Int)) rfl rfl oM oM oM) ?_;refine U8 ?_;refine .e (.bs (zz:=fun bs=> ?_));refine .e (Or.append (E:=en) 1 rfl rfl rfl rfl rfl rfl rfl rfl rfl rfl rfl rfl rfl rfl rfl (fun H hs=> NA.of (hs.get (i:=0) rfl) (Nat.le_of_ble_eq_true rfl)) rfl oM rfl dE (fun g2 CK RJ=> ?_));refine bJ ?_;exact Tc.db (bE g2 (by rw[CK,uD];rfl) (by rw[RJ,ZE];rfl))
 rintro R' L' ⟨g,hn,hl,hR,hL⟩;refine Tc.PC ?_ hR hL;clear hR hL;have mB:=(eI n h).2.2.2.2.2.1;refine U8 ?_;refine .e (.bs (zz:=fun bs=> ?_));refine .e (Or.append (E:=en) 1 rfl rfl rfl rfl rfl rfl rfl rfl rfl rfl rfl rfl rfl rfl rfl (fun H hs=> NA.of (hs.get (i:=0) rfl) (Nat.le_of_ble_eq_true rfl)) rfl oM rfl dE (fun g3 Y5 dW=> ?_));refine U2 ?_;obtain⟨x,hv,jX⟩:=RV g3 oM;rw[Y5,hn] at hv;rw[dW,hl] at jX;obtain⟨q,hq⟩:∃q,q=(JB n).reverse++[45]:=⟨_,rfl⟩
 have O2:(JB n).length+1=q.length:=by rw[hq,List.length_append,List.length_reverse];rfl
 have pX:45::JB n=q.reverse:=by rw[hq,List.reverse_append,List.reverse_reverse];rfl
 have hbq:CA (JB n).reverse++[.int .u8 45]=CA q:=by rw[hq,WG];rfl
 have hlen:q.length<=10:=by have:=(eI n h).2.2.2.2.2.1;omega
 have wU:1<=q.length:=by omega
 rw[O2] at hv;refine Tc.PC (R':= [(4,.slice (some ⟨x.1,0,none⟩) q.length x.2.1)]) (L':= [(x.1,true,.cells ⟨CA q++x.2.2⟩ 5 (0,0))]) ?_ (by rw[hv];exact⟨rfl,trivial⟩) (by rw[jX,<-hbq];exact List.sublist_append_right _ _);have e0:gA .sub .i64 ((q.length:Nat):Int) 1=some (.int .i64 (((q.length:Nat):Int)-1)):=GF oM oM;refine aJ ?_;refine Tc.PC (Tc.vA (σ:= { i:Nat//i<=q.length }) (fun i=> ([(4,.slice (some ⟨x.1,0,none⟩) q.length x.2.1),(6,jA (q.drop i.1).reverse),(7,.int .i64 ((i.1:Nat)-1))],[(x.1,true,.cells ⟨CA q++x.2.2⟩ 5 (0,0))])) (fun i=> i.1) ?_ ⟨q.length,Nat.le_refl _⟩) (by simp only[List.drop_length];exact⟨rfl,rfl,rfl,trivial⟩) sL;rintro⟨i,hi⟩ ih;show Tc M St _ _ _ _ [(4,.slice (some ⟨x.1,0,none⟩) q.length x.2.1),(6,jA (q.drop i).reverse),(7,.int .i64 ((i:Nat)-1))] [(x.1,true,.cells ⟨CA q++x.2.2⟩ 5 (0,0))] _ _;by_cases c1:i=0
 ·clear ih;subst c1;rw[List.drop_zero];refine aJ ?_;refine .rt hK func76 results76 [_] ?_;exact fun H' hs=> ⟨hs.base,by rw[pX];rfl⟩
 ·obtain⟨j,rfl⟩:∃j,i=j+1:=⟨i-1,oM⟩
  have e1:(((j+1:Nat):Int)-1)=(j:Nat):=by omega
  have hj:j<q.length:=by omega
  have bE:=ih ⟨j,oM⟩ (by simp only;omega);simp only[NR hj] at bE;clear ih;have f1:=DO (J:=x.2.2) hj;have nR:((q.drop (j+1)).reverse).length<=10:=by rw[List.length_reverse,List.length_drop];omega
  generalize (q.drop (j+1)).reverse=w at bE nR ⊢;generalize q[j]=y at bE f1;have s1:RL.cC .add w [y]=some (jA (w++[y])):=ZB (by simp only[List.length_singleton];omega);rw[e1];refine bJ ?_;refine .e (.bs (zz:=fun bs=> ?_));refine .x (oA.JV (E:=en) (m:=1) (s:= [y]) rfl rfl (fun H hs=> NA.of (hs.get (i:=0) rfl) (Nat.le_of_ble_eq_true rfl)) rfl rfl rfl rfl rfl rfl) ?_;refine U9 ?_;exact Tc.db (bE)
theorem QH(z:Int)(h:VL z):cA M 76 #[.int .i64 z] H (fun v H'=> H.le H'/\v=jA (zE z)):=by
 by_cases c:0<=z
 ·rw[kN c];exact HT M H z ⟨c,by have:=h.2;omega⟩
 ·obtain⟨n,rfl⟩:∃n:Nat,z= -(n:Int):=⟨z.natAbs,oM⟩
  have h12:=h.1;rw[jN oM];exact FT M H n oM oM
theorem UD(a b:Int)(ha:VL a)(hb:VL b):cA M 37 #[rB a b] H (fun v H'=> H.le H'/\v=jA (dB a b)):=by
 have l1:=FG ha;have l2:=FG hb;by_cases e:a=b
 ·subst e;have hT:dB a a=zE a:=if_pos rfl;rw[hT];refine .en func37 ntmps37 fun St c cs hK=> ?_;refine U2 ?_;refine .bo fun b1=> ?_;refine bJ ?_;refine .cl (fun H hs=> QH M H a ha) ?_;refine U2 ?_;refine .rt hK func37 results37 [_] ?_;exact okB
 ·have hT:dB a b=zE a++[58]++zE b:=by
   unfold dB;rw[if_neg e,List.append_assoc];rfl
  rw[hT];have c1:=fun H=> QH M H a ha;have c2:=fun H=> QH M H b hb;generalize zE a=p at l1 c1;generalize zE b=q at l2 c2;have s1:RL.cC .add p [58]=some (jA (p++[58])):=ZB (by simp only[List.length_singleton];omega);have s2:RL.cC .add (p++[58]) q=some (jA (p++[58]++q)):=ZB (by simp only[List.length_append,List.length_singleton];omega);refine .en func37 ntmps37 fun St c cs hK=> ?_;refine U2 ?_;refine .bo fun b1=> ?_;refine zH ?_;refine Tc.dr [] [] mixed rfl ?_;refine V2 0 ?_;refine .z 2 rfl (oA.tk fun H hs=> c1 H) ?_;refine V3 3 ?_;refine .z 6 rfl (oA.tk fun H hs=> c2 H) ?_;refine V2 7 ?_;refine .dn ?_;refine .rt hK func37 results37 [_] ?_;exact okB
theorem LQ(ch:Ch)(A:Option Addr)(lc:Nat)(hA:zB H ch A lc)(ha:ch.nB≠0):
  cA M 8 #[ch.lE A lc] H (fun v H'=> H.le H'/\v=.tuple ⟨[jA [],.int .i64 ch.nB]⟩):=by
 have ho:=fun(H':View) (h:H.le H')=> DJ M H' ch A lc (hA.le h);have e2:gA .neq .i64 ch.nB 0=some (.bool true):=SC ha;generalize ch.nB=a at ho e2;refine .en func8 ntmps8 fun St c cs hK=> ?_;refine U2 ?_;refine .bo fun b1=> ?_;refine U7 ?_;refine .cl (fun H hs=> ho H hs.base) ?_;refine zH ?_;refine .rt hK func8 results8 [_,_] ?_;exact okB
theorem mS {sz off d z:Nat}{gs c:List Value}(h:SB true sz gs off=some (.agg ⟨c⟩))(hd:d+z<=sz):SB true z gs (off+d)=some (.agg ⟨(c.drop d).take z⟩):=by
 unfold SB at h ⊢;simp only at h ⊢;cases hb:Nat.ble (off+sz) gs.length with
 | false=> rw[hb] at h;cases h
 | true=>
  rw[hb] at h;have h1:=Nat.le_of_ble_eq_true hb;rw[show Nat.ble (off+d+z) gs.length=true from Nat.ble_eq_true_of_le oM];simp only[Option.some.injEq,Value.agg.injEq,Array.mk.injEq] at h;rw[<-h,List.drop_take,List.take_take,List.drop_drop,Nat.min_eq_left oM]
theorem SS(ch:Ch)(A:Option Addr)(lc:Nat)(hA:zB H ch A lc)(ha:ch.nB=0)(hp:NW ch):
  cA M 8 #[ch.lE A lc] H (fun v H'=> H.le H'/\v=.tuple ⟨[jA (UU ch),.int .i64 0]⟩):=by
 have ho:=fun(H':View) (h:H.le H')=> DJ M H' ch A lc (hA.le h);rw[ha] at ho;have b1:=OB hp.s.1 hp.s.2;have b2:=OB hp.a.1 hp.a.2;have b3:=OB hp.r.1 hp.r.2;have hwl:=fun(H':View) (b:Nat) (h:H' b=some (true,.cells ⟨[jA (dB ch.s0 ch.s1),jA (dB ch.a0 ch.a1),jA (dB ch.r0 ch.r1)]⟩ 9 (0,0)))=> iL M H' SE (some ⟨b,0,none⟩) 3 [dB ch.s0 ch.s1,dB ch.a0 ch.a1,dB ch.r0 ch.r1] (vK (P:= [dB ch.s0 ch.s1,dB ch.a0 ch.a1,dB ch.r0 ch.r1]) (jj:= []) h) (by simp) dE (by simp only[GH,List.map_cons,List.map_nil,List.sum_cons,List.sum_nil,List.length_cons,List.length_nil];omega);refine .en func8 ntmps8 fun St c cs hK=> ?_;refine U2 ?_;refine .bo fun p1=> ?_;refine U7 ?_;refine .cl (fun H hs=> ho H hs.base) ?_;refine zI ?_;refine Tc.dr [] [] mixed rfl ?_;refine V2 0 ?_;refine .z 2 rfl (oA.tk fun H hs=> UD M H ch.s0 ch.s1 hp.s.1 hp.s.2) ?_;refine V2 3 ?_;refine .z 5 rfl (oA.tk fun H hs=> UD M H ch.a0 ch.a1 hp.a.1 hp.a.2) ?_;refine V2 6 ?_;refine .z 8 rfl (oA.tk fun H hs=> UD M H ch.r0 ch.r1 hp.r.1 hp.r.2) ?_;refine .ea 9 rfl (.bs (zz:=fun bs=> ⟨S2.mk sL (.inr sL),?_⟩));refine .ea 10 rfl (Or.ofT (oA.tk fun H hs=> hwl H bs (hs.get (i:=0) rfl)) rfl dE ⟨S2.mk sL (.inr sL),?_⟩);refine .nn 11 ?_;refine .dn ?_;refine U6 ?_;have e0:HB ch 0=LG (LO ch):=by simp[HB]
 refine Tc.PC (Tc.vA (σ:= { i:Nat//i<=ch.n }) (fun i=> ([(1,.pointer (some ⟨p1,0,none⟩)),(5,jA (HB ch i.1)),(6,.int .i64 (i.1:Nat))],[(p1,true,.cells ⟨[.int .i64 ch.s0,.int .i64 ch.s1,.slice A ch.n lc,.int .i64 ch.a0,.int .i64 ch.a1,.int .i64 ch.r0,.int .i64 ch.r1]⟩ 26 (0,0))])) (fun i=> ch.n-i.1) ?_ ⟨0,Nat.zero_le _⟩) (by simp only[e0];exact⟨rfl,rfl,rfl,trivial⟩) sL;clear e0;rintro⟨i,hi⟩ ih;show Tc M St _ _ _ _ [(1,.pointer (some ⟨p1,0,none⟩)),(5,jA (HB ch i)),(6,.int .i64 (i:Nat))] [(p1,true,.cells ⟨[.int .i64 ch.s0,.int .i64 ch.s1,.slice A ch.n lc,.int .i64 ch.a0,.int .i64 ch.a1,.int .i64 ch.r0,.int .i64 ch.r1]⟩ 26 (0,0))] _ _;have rO:=iH hp i hi;have N8:=hp.n;by_cases c1:i=ch.n
 ·clear ih;subst c1;refine xT ?_;refine .rt hK func8 results8 [_,_] ?_;exact okB
 ·have c2:i<ch.n:=by omega
  obtain⟨_,h0|⟨ab,ao,f,gs,gt,gz,rfl,hb,hl⟩⟩:=hA
  ·omega
  have f0:SB true 4 gs (ao+(i:Int).toNat*4)=some (fF (ch.x i) (ch.y i) (ch.z i) (ch.u i)):=by rw[Int.toNat_natCast];exact hl i c2
  have f1:SB true 2 gs (ao+((i:Nat):Int).toNat*4+0)=some (rB (ch.x i) (ch.y i)):=mS (d:=0) (z:=2) f0 dE;have f2:SB true 2 gs (ao+((i:Nat):Int).toNat*4+2)=some (rB (ch.z i) (ch.u i)):=mS (d:=2) (z:=2) f0 dE;obtain⟨⟨t1,t2⟩,t3,t4⟩:=hp.l i c2;have hS1:=cN hp c2;have b4:=OB t1 t2;have b5:=OB t3 t4;have s1:RL.cC .add (HB ch i) (LG [BE,dB (ch.x i) (ch.y i),dB (ch.z i) (ch.u i)])=some (jA (HB ch (i+1))):=by rw[qG];exact ZB (by show _+(LG (JU ch i)).length<=_;omega)
  have hwl:=fun(H':View) (b:Nat) (h:H' b=some (true,.cells ⟨[jA (dB (ch.x i) (ch.y i)),jA (dB (ch.z i) (ch.u i))]⟩ 9 (0,0)))=> iL M H' BE (some ⟨b,0,none⟩) 2 [dB (ch.x i) (ch.y i),dB (ch.z i) (ch.u i)] (vK (P:= [dB (ch.x i) (ch.y i),dB (ch.z i) (ch.u i)]) (jj:= []) h) (by simp) dE (by simp only[GH,List.map_cons,List.map_nil,List.sum_cons,List.sum_nil,List.length_cons,List.length_nil];omega);have bE:=ih ⟨i+1,oM⟩ (by simp only;omega);clear ih;simp only at bE;refine aJ ?_;refine Tc.dr [] [] mixed rfl ?_;refine V7 0 ?_;refine .z 7 rfl (oA.tk fun H hs=> UD M H (ch.x i) (ch.y i) t1 t2) ?_;refine V6 8 ?_;refine .z 14 rfl (oA.tk fun H hs=> UD M H (ch.z i) (ch.u i) t3 t4) ?_;refine .ea 15 rfl (.bs (zz:=fun bs=> ⟨S2.mk sL (.inr sL),?_⟩));refine .ea 16 rfl (Or.ofT (oA.tk fun H hs=> hwl H bs (hs.get (i:=0) rfl)) rfl dE ⟨S2.mk sL (.inr sL),?_⟩);refine V2 17 ?_;refine .dn ?_;refine U6 ?_;exact Tc.db (bE)
end
set_option maxHeartbeats 4000000
theorem KG:∀v:Nat,v<128->∀n:Nat,n<32->(OD v=some n<->v=64+2*n):=by decide +kernel
theorem vN {v n:Nat}(h:OD v=some n):n<32:=by
 unfold OD at h;split at h
 ·cases h
  omega
 ·cases h
theorem kL:∀ {l:List MapEntry},(l.map (·.born)).Nodup->∀a∈l,∀b∈l,a.born=b.born->a=b
 | [],_,a,ha,_,_,_=> by cases ha
 | x ::l,h,a,ha,b,hb,e=> by
  rw[List.map_cons,List.nodup_cons] at h;rcases List.mem_cons.1 ha with h1|h1
  ·rcases List.mem_cons.1 hb with h2|h2
   ·rw[h1,h2]
   ·subst h1;exact(h.1 (e▸List.mem_map_of_mem h2)).elim
  ·rcases List.mem_cons.1 hb with h2|h2
   ·subst h2;exact(h.1 (e▸List.mem_map_of_mem h1)).elim
   ·exact kL h.2 a h1 b h2 e
def xQ(v:Value):Nat:=match v with
 | .int _ i=> i.toNat
 | _=> 0
def cK(e:MapEntry):Option Value:=(OD (xQ e.key)).map fun n=> .int .i64 (n:Nat)
def MT(e:MapEntry):Bool:=(OD (xQ e.key)).isNone
def Lk.YC(k:Lk)(c n:Nat):Bool:=k.LF c (64+2*n)
def Lk.bad(k:Lk)(c:Nat):Bool:=(List.range 128).any fun v=> k.LF c v&&(OD v).isNone
theorem UT {k:Lk}{c:Nat}{es:Array MapEntry}{cl:Nat}(h:eC es cl (vF (k.LF c))):(es.toList.filterMap cK).Perm (fB (k.YC c) 32):=by
 have nZ:∀e∈es.toList,∃u:Nat,u<128/\e.key=.int .u8 (u:Nat)/\k.LF c u=true:=fun e he=> by
  obtain⟨_,u,h1,h2,h3⟩:=(h.mem e.key e.val).2 ⟨e,he,rfl,rfl⟩;exact⟨u,h1,h2,h3⟩
 have nd1:(es.toList.filterMap cK).Nodup:=by
  have hk:=h.keys;rw[List.nodup_iff_pairwise_ne,List.pairwise_map] at hk;rw[List.nodup_iff_pairwise_ne];rw[List.pairwise_filterMap];refine List.Pairwise.imp_of_mem ?_ hk;intro a b ha hb hY x hx y hy e;subst e;obtain⟨u,u1,u2,_⟩:=nZ a ha;obtain⟨w,w1,w2,_⟩:=nZ b hb;unfold cK xQ at hx hy;rw[u2] at hx;rw[w2] at hy;simp only[Int.toNat_natCast] at hx hy;cases hu:OD u with
  | none=> rw[hu] at hx;cases hx
  | some n=>
   cases hw:OD w with
   | none=> rw[hw] at hy;cases hy
   | some m=>
    rw[hu] at hx;rw[hw] at hy;simp only[Option.map_some,Option.some.injEq] at hx hy;rw[<-hx] at hy;simp only[Value.int.injEq,true_and,Int.natCast_inj] at hy;subst hy;have hm:=vN hu;have e1:=(KG u u1 m hm).1 hu;have e2:=(KG w w1 m hm).1 hw;exact hY (by rw[u2,w2,e1,e2])
 have nd2:(fB (k.YC c) 32).Nodup:=by
  unfold fB;rw[List.nodup_iff_pairwise_ne,List.pairwise_map];refine List.Pairwise.imp ?_ (List.Pairwise.filter _ (List.nodup_iff_pairwise_ne.1 List.nodup_range));intro a b hY e;simp only[Value.int.injEq,true_and,Int.natCast_inj] at e;exact hY e
 refine(List.perm_ext_iff_of_nodup nd1 nd2).2 fun v=> ?_;unfold fB;simp only[List.mem_filterMap,List.mem_map,List.mem_filter,List.mem_range];constructor
 ·rintro⟨e,he,h1⟩;obtain⟨u,u1,u2,u3⟩:=nZ e he;unfold cK xQ at h1;rw[u2] at h1;simp only[Int.toNat_natCast] at h1;cases hu:OD u with
  | none=> rw[hu] at h1;cases h1
  | some n=>
   rw[hu] at h1;simp only[Option.map_some,Option.some.injEq] at h1;have hn:=vN hu;have e1:=(KG u u1 n hn).1 hu;exact⟨n,⟨hn,by unfold Lk.YC;rw[<-e1];exact u3⟩,h1⟩
 ·rintro⟨n,⟨h1,h2⟩,rfl⟩;obtain⟨e,he,h3,_⟩:=(h.mem (.int .u8 ((64+2*n:Nat):Int)) (.bool true)).1 ⟨rfl,64+2*n,oM,rfl,h2⟩;refine⟨e,he,?_⟩;unfold cK xQ;rw[h3];simp only[Int.toNat_natCast];rw[(KG (64+2*n) oM n h1).2 rfl];rfl
theorem L4 {k:Lk}{c:Nat}{es:Array MapEntry}{cl:Nat}(h:eC es cl (vF (k.LF c))):es.toList.any MT=k.bad c:=by
 unfold Lk.bad;rw[Bool.eq_iff_iff,List.any_eq_true,List.any_eq_true];constructor
 ·rintro⟨e,he,h1⟩;obtain⟨_,u,u1,u2,u3⟩:=(h.mem e.key e.val).2 ⟨e,he,rfl,rfl⟩;refine⟨u,List.mem_range.2 u1,?_⟩;unfold MT xQ at h1;rw[u2] at h1;rw[u3];exact h1
 ·rintro⟨u,hu,h1⟩;rw[Bool.and_eq_true] at h1;obtain⟨e,he,h3,_⟩:=(h.mem (.int .u8 (u:Nat)) (.bool true)).1 ⟨rfl,u,List.mem_range.1 hu,rfl,h1.1⟩;refine⟨e,he,?_⟩;unfold MT xQ;rw[h3];exact h1.2
def Lk.refused(k:Lk)(c:Nat):Int:=if k.bad c then(if(fB (k.YC c) 32).length=0 then 1 else 0) else 2
def p9(l:List Value)(r:Int)(H:View)(v:Value)(H':View):Prop:=H.le H'/\∃g:Gl 3 1,v=.tuple ⟨[g.val,.int .i64 r,.int .i64 0]⟩/\g.l=l/\∀y∈g.bl,H' y.1=some y.2/\H y.1=none
section
variable(M:Md prog)(H:View)
theorem OW(k:Lk)(code:Nat)(hG:FC H)(hk:k.ok=true)(hc:code<32)(h1:(fB (k.YC code) 32).length<=1):cA M 19 #[k.val,.int .i64 code] H (p9 (fB (k.YC code) 32) (k.refused code) H):=by
 refine .en func19 ntmps19 fun St c cs hK=> ?_;refine U2 ?_;refine .bo fun b2=> ?_;refine U8 ?_;refine .e (Or.uA (fun x=> .tuple ⟨[k.val,FH code x,.int .i64 0]⟩) (oG code) (fun _=> True) rfl rfl rfl rfl rfl dE (qC code) (fun H hs=> .h (RU M H k code (HA hG hs.base) hk hc)) (fun x hx=> ?_));refine U4 ?_;refine .al fun b7=> ?_;refine .al fun b8=> ?_;refine wR ?_;refine .e (Or.uA (fun y:Nat×Array MapEntry×Nat=> .map (some y.1)) (fun y=> [(y.1,true,.map y.2.1 y.2.2)]) (fun y=> eC y.2.1 y.2.2 (vF (k.LF code))) rfl rfl rfl rfl rfl dE (fun _=> by simp) (fun H hs=> .h (cA.mono (DV M H k (Lk.NL hk) code x.1 x.2.1 hc (ED fun y hy=> hs.at_ y (by simp[hy]))) (by rintro v H' ⟨h1,m,es,cl,h2,h3,h4,h5⟩;exact⟨h1,(m,es,cl),h2,h5,by simp[h3,h4]⟩))) (fun y hm=> ?_));obtain⟨m,es,cl⟩:=y;simp only at hm;have aCA:=UT hm;have gZ:=L4 hm;refine .e (Or.range (E:=en) (es:=es) (cl:=cl) rfl rfl (fun H hs=> ⟨true,hs.at_ (m,true,.map es cl) (by simp)⟩) rfl rfl rfl dE (fun it=> ?_));refine U ?_;refine Tc.lift (L₂:= [(it,true,.mapIter (some m) cl #[] cl)]) rfl (fun Hm m6=> ?_);have KF:Hm m=some (true,.map es cl):=m6.at_ (m,true,.map es cl) (by simp);have cS:∀b x,Hm b=none->H b=some x->False:=fun b x h2 h3=> by rw[m6.base _ _ h3] at h2;cases h2
 refine U ?_;refine Tc.db (Tc.vA (σ:= { s:Array Nat×Gl 3 1×Bool//(s.2.1.l++(bF es s.1).filterMap cK).Perm (fB (k.YC code) 32)/\(s.2.2||(bF es s.1).any MT)=k.bad code })
  (fun s=> ([(26,.pointer (some ⟨it,0,none⟩)),(4,s.1.2.1.val),(9,.bool s.1.2.2)],[(it,true,.mapIter (some m) cl s.1.1 cl)]++s.1.2.1.bl)) (fun s=> (bF es s.1.1).length) ?_ ⟨(#[],Gl.nil 3 1,false),by rw[xK];exact aCA,by rw[xK,gZ];rfl⟩)
 rintro⟨⟨seen,g,bd⟩,g1,g2⟩ ih;simp only at g1 g2;have ZE:=g1.length_eq;rw[List.length_append] at ZE;have uD:=g.hl;rw[Nat.mul_one] at uD;show Tc M St _ _ _ _ [(26,.pointer (some ⟨it,0,none⟩)),(4,g.val),(9,.bool bd)] ([(it,true,.mapIter (some m) cl seen cl)]++g.bl) _ _;refine U2 ?_;refine .e (Or.next (es:=es) 0 rfl rfl rfl (fun H hs=> ⟨true,hs.base _ _ KF⟩) hm.lt rfl dE (fun e he Z5=> ?_) (fun zA=> ?_))
 ·have hp:=pT hm.GR he Z5;obtain⟨_,u,u1,u2,u3⟩:=(hm.mem e.key e.val).2 ⟨e,he,rfl,rfl⟩;have rH:es.find? (fun x=> x.born==e.born)=some e:=by
   rw[<-Array.find?_toList];cases hf:es.toList.find? (fun x=> x.born==e.born) with
   | none=> have:=List.find?_eq_none.1 hf e he;simp at this
   | some e'=>
    have h3:=List.mem_of_find?_eq_some hf;have h4:=List.find?_some hf;simp only[beq_iff_eq] at h4;rw[kL hm.GR e' h3 e he h4]
  refine U8 ?_;refine .e (Or.entry (es:=es) (e:=e) (st:=e.born) rfl rfl (fun H hs=> ⟨true,hs.get (i:=0) rfl⟩) (fun H hs=> ⟨true,hs.base _ _ KF⟩) (by simp) rH rfl dE ?_);rw[u2];refine U4 ?_;have hc1:=hp.filterMap cK;have K5:=hp.any_eq (f:=MT);have hbE:MT e=(OD u).isNone:=by unfold MT xQ;rw[u2];rfl
  have hcE:cK e=(OD u).map fun n=> .int .i64 (n:Nat):=by unfold cK xQ;rw[u2];rfl
  cases hu:OD u with
  | none=>
   rw[hu] at hbE hcE;refine U2 ?_;refine .cl (fun H hs=> cA.is (.tuple ⟨[.int .i64 0,.bool false]⟩) (by rewrite [hu];rfl) (O0 M H u u1)) ?_;refine WL ?_;exact Tc.db (ih ⟨(seen.push e.born,g,true),by simp only;rw[List.filterMap_cons_none hcE] at hc1;exact(List.Perm.append_left _ hc1.symm).trans g1,by simp only;rw[<-g2,K5,List.any_cons,hbE];simp⟩ (by simp only;rw[hp.length_eq];simp))
  | some n=>
   rw[hu] at hbE hcE;have hn:=vN hu;have iW:g.n+1<=1:=by
    rw[<-uD];have h5:=hc1.length_eq;rw[List.filterMap_cons_some hcE,List.length_cons] at h5;omega
   refine U2 ?_;refine .cl (fun H hs=> cA.is (.tuple ⟨[.int .i64 (n:Nat),.bool true]⟩) (by rewrite [hu];rfl) (O0 M H u u1)) ?_;refine zH ?_;refine .e (.bs (zz:=fun bs=> ?_));refine .e (Or.append (E:=en) 2 rfl rfl rfl rfl rfl rfl rfl rfl rfl rfl rfl rfl rfl rfl rfl (fun H hs=> NA.of (hs.get (i:=0) rfl) (Nat.le_of_ble_eq_true rfl)) rfl oM rfl dE (fun g' tQ hl=> ?_));refine U3 ?_;exact Tc.db (ih ⟨(seen.push e.born,g',bd),by simp only;rw[hl,List.append_assoc];rw[List.filterMap_cons_some hcE] at hc1;exact(List.Perm.append_left _ hc1.symm).trans g1,by simp only;rw[<-g2,K5,List.any_cons,hbE];simp⟩ (by simp only;rw[hp.length_eq];simp))
 ·have S8:=oT zA;rw[S8] at g1 g2;simp only[List.filterMap_nil,List.append_nil,List.any_nil,Bool.or_false] at g1 g2;have FD:g.n<=1:=by have:=g1.length_eq;omega
  have kZ:g.l=fB (k.YC code) 32:=by
   have h3:=g1.length_eq
   match hx:g.l,hy:fB (k.YC code) 32 with
   | [],[]=> rfl
   | [a],[b]=> rw[hx,hy] at g1;exact List.perm_singleton.1 g1.symm▸rfl
   | [],_::_=> rw[hx,hy] at h3;simp at h3
   | _::_,[]=> rw[hx,hy] at h3;simp at h3
   | _::_::_,_=> rw[hx] at uD;simp at uD;omega
   | _,_::_::_=> rw[hy] at h1;simp at h1
  subst g2;refine U8 ?_;refine .cl (fun H hs=> xY M H _ g.n g.cap FD) ?_;refine U4 ?_;cases QN:k.bad code with
  | false=>
   have hr:k.refused code=2:=by unfold Lk.refused;rw[QN];rfl
   refine aJ ?_;refine .rt hK func19 results19 [_,_,_] ?_;exact fun H' hs=> ⟨View.le_trans m6.base hs.base,g,by rw[hr];rfl,kZ,fun y hy=> ⟨hs.at_ y (by simp[hy]),by cases h:H y.1 with|none=> rfl|some x=> exact(cS _ x (hs.out y (by simp[hy])) h).elim⟩⟩
  | true=>
   refine U7 ?_;by_cases h0:g.n=0
   ·have hr:k.refused code=1:=by unfold Lk.refused;rw[QN,<-kZ,uD,h0];rfl
    refine aJ ?_;refine .rt hK func19 results19 [_,_,_] ?_;exact fun H' hs=> ⟨View.le_trans m6.base hs.base,Gl.nil 3 1,by rw[hr];rfl,by rw[<-kZ];exact(List.eq_nil_of_length_eq_zero oM).symm,by simp[Gl.nil,Gl.bl]⟩
   ·have hr:k.refused code=0:=by unfold Lk.refused;rw[QN,<-kZ,uD,if_pos rfl,if_neg h0]
    refine bJ ?_;refine .rt hK func19 results19 [_,_,_] ?_;exact fun H' hs=> ⟨View.le_trans m6.base hs.base,g,by rw[hr];rfl,kZ,fun y hy=> ⟨hs.at_ y (by simp[hy]),by cases h:H y.1 with|none=> rfl|some x=> exact(cS _ x (hs.out y (by simp[hy])) h).elim⟩⟩
end
theorem HU(M:Md prog)(H:View)(code:Nat)(h1:code<32):cA M 48 #[.int .i64 code] H (fun v H'=> H.le H'/\∃x,v=FH code x/\(bA code 7).length<=x.2.1/\∀y∈oG code x,H' y.1=some y.2/\H y.1=none):=
 cA.mono (vJ M H code h1) (by
  rintro v H' ⟨h2,g,rfl,h3,h4,h5⟩;obtain⟨b,hb⟩:=bM g (by rw[h3];exact(ND code h1).1);refine⟨h2,(b,g.cap,g.CC),?_,by rw[<-h3];exact g.hc,fun y hy=> h5 y ?_⟩
  ·unfold FH Gl.val;rw[hb,h3];rfl
  ·unfold Gl.bl;rw[hb,h4];exact hy)
theorem aAC(M:Md prog)(H:View)(k:Lk)(code:Nat)(hG:FC H)(hk:k.ok=true)(hc:code<32):cA M 52 #[k.val,.int .i64 code] H (fun v H'=> H.le H'/\∃x:Nat×Nat×List Value,v=.tuple ⟨[k.val,FH code x,.int .i64 0]⟩/\(bA code 7).length<=x.2.1/\∀y∈oG code x,H' y.1=some y.2/\H y.1=none):=
 cA.mono (zS M H k code hG hk hc) (by
  rintro v H' ⟨h2,g,rfl,⟨h3,h4⟩,h5⟩;obtain⟨b,hb⟩:=bM g (by rw[h3];exact(ND code hc).1);refine⟨h2,(b,g.cap,g.CC),?_,by rw[<-h3];exact g.hc,fun y hy=> h5 y ?_⟩
  ·unfold jM FH Gl.val;rw[hb,h3];rfl
  ·unfold Gl.bl;rw[hb,h4];exact hy)
theorem s8:prog.eqGuardType prog.depth 127=false:=by kernel_rfl
theorem FI(l:List Int)(h:l.length=6):flat en 2 127 (mA l):=by
 refine⟨_,rfl,by rw[sA,h];rfl,fun i hi=> ⟨l[i]?.getD 0,?_⟩⟩;have h3:i<l.length:=by rw[h];exact hi
 unfold chunk;show((mA l).drop (i*1)).take 1=_;rw[Nat.mul_one];unfold mA;have h4:i<(l.map fun x=> Value.int .i64 x).length:=by rw[List.length_map];exact h3
 rw[List.drop_eq_getElem_cons h4,List.getElem_map,List.getElem?_eq_getElem h3];rfl
def fK(ps:List Nat)(send lean n:Int)(af:List Int)(i:Nat):Int:=kE (ps[0]?.getD 0:Nat) 0 send lean+n+af[i+1]?.getD 0-kE (ps[i+1]?.getD 0:Nat) (i+1:Nat) send lean
def wC(ps:List Nat)(send lean n:Int)(af:List Int)(d:Nat):List Int:=n::(List.range d).map (fK ps send lean n af)
def Lk.XH(k:Lk)(x:Int):Bool:=decide (k.m0<=x/\x<=k.m1)
def Lk.yF(k:Lk)(ps:List Nat)(send lean n:Int)(af:List Int):Bool:=
 ((List.range (ps.length-1)).all fun i=> k.XH (fK ps send lean n af i))&&(SA (GD ps (wC ps send lean n af (ps.length-1)) send lean ps.length) ps.length==af)
def Lk.xC(k:Lk)(ps:List Nat)(send lean:Int)(af:List Int)(l:List Int):Bool:=l.any fun n=> k.yF ps send lean n af
def Lk.CG(k:Lk)(ps:List Nat)(send:Int)(af:List Int):Bool:=(tE k.l0 k.l1).any fun lean=> k.xC ps send lean af (tE k.m0 k.m1)
theorem jS {l:List Int}{i:Nat}(h:i<l.length):SB false 1 (mA l) (0+i*1)=some (.int .i64 (l[i]?.getD 0)):=by
 show(mA l)[0+i*1]? =_;rw[Nat.zero_add,Nat.mul_one];unfold mA;rw[List.getElem?_map,List.getElem?_eq_getElem h];rfl
theorem UR(ps:List Nat)(send lean n:Int)(af:List Int)(d:Nat):wC ps send lean n af (d+1)=wC ps send lean n af d++[fK ps send lean n af d]:=by
 unfold wC;rw[List.range_succ,List.map_append];rfl
theorem rJ(ps:List Nat)(send lean n:Int)(af:List Int)(d:Nat):(wC ps send lean n af d).length=d+1:=by simp[wC]
theorem iX {k:Lk}{ps:List Nat}{send lean n:Int}{af:List Int}{d:Nat}(hm: -1000<=k.m0/\k.m1<=1000)(hn:k.m0<=n/\n<=k.m1)(h:∀i,i<d->k.XH (fK ps send lean n af i)=true)(i:Nat): -1000<=(wC ps send lean n af d)[i]?.getD 0/\(wC ps send lean n af d)[i]?.getD 0<=1000:=by
 by_cases e:i<(wC ps send lean n af d).length
 ·rw[List.getElem?_eq_getElem e];have QC:=List.getElem_mem e;simp only[Option.getD_some];generalize (wC ps send lean n af d)[i]=z at QC;unfold wC at QC;rcases List.mem_cons.1 QC with rfl|QC
  ·omega
  ·obtain⟨j,hj,rfl⟩:=List.mem_map.1 QC;have:=h j (List.mem_range.1 hj);unfold Lk.XH at this;rw[decide_eq_true_iff] at this;omega
 ·rw[List.getElem?_eq_none oM];simp
theorem TO:∀ {l m:List Int},mA l=mA m->l=m
 | [],[],_=> rfl
 | [],_::_,h=> by cases h
 | _::_,[],h=> by cases h
 | a::l,b::m,h=> by
  have h1:Value.int .i64 a::mA l=Value.int .i64 b::mA m:=h
  injection h1 with h2 h3
  injection h2 with _ h4
  rw[h4,TO h3]
section
variable(M:Md prog)(H:View)
def gL(code eb ec:Nat)(k:Lk)(send:Int)(af:List Int)(found:Bool)(b4 b5 b6 b7 b8 b9:Nat):Bl:=
 [(b9,true,.cells ⟨[.int .i64 k.m0,.int .i64 k.m1]⟩ 162 (0,0)),(b8,true,.cells ⟨[.bool found]⟩ 4 (0,0)),(b7,true,.cells ⟨mA af⟩ 127 (0,0)),(b6,true,.cells ⟨[.int .i64 send]⟩ 3 (0,0)),(b5,true,.cells ⟨[.int .i64 code,.slice (some ⟨eb,0,none⟩) (bA code 7).length ec]⟩ 105 (0,0)),
   (b4,true,.cells ⟨k.val.cells.toList⟩ 112 (0,0))]
theorem QV(k:Lk)(hk:k.MH)(code eb ec:Nat)(send:Int)(af:List Int)(hc:code<32)(hE:D3 H (bA code 7) eb)(hec:(bA code 7).length<=ec)(h2:2<=(bA code 7).length)(h6:af.length=6)(hb:∀x∈af, -100000<=x/\x<=100000)(PO:0<=send/\send<=1000):
  cA M 100 #[k.val,.agg ⟨[.int .i64 code,.slice (some ⟨eb,0,none⟩) (bA code 7).length ec]⟩,.int .i64 send,XK af] H (fun v H'=> H.le H'/\v=.bool (k.CG (bA code 7) send af)):=by
 obtain⟨hp0,VM,rO⟩:=ND code hc;have QN:=hk.bounds;simp only[List.mem_cons,List.not_mem_nil,or_false,forall_eq_or_imp,forall_eq] at QN;obtain⟨k1,k2,k3,k4,k5,k6,k7,k8⟩:=QN;have hkl:=hk.l;have hkm:=hk.m;refine .en func100 ntmps100 fun St c cs hK=> ?_;refine U2 ?_;refine .bo fun b4=> ?_;refine .bo fun b5=> ?_;refine .bo fun b6=> ?_;refine .bo fun b7=> ?_;refine .al fun b8=> ?_;refine U7 ?_;refine .cl (fun H hs=> yD M H k.m0 k.m1) ?_;refine .al fun b9=> ?_;refine U9 ?_;refine .cl (fun H hs=> yD M H k.l0 k.l1) ?_;refine U3 ?_;have itL:=fun H (_:(fun _:View=> True) H)=> kJ M H k.l0 k.l1 oM oM;have itM:=fun H (_:(fun _:View=> True) H)=> kJ M H k.m0 k.m1 oM oM;refine Tc.db (R':= [(27,.func (.func 99) #[rB k.l0 k.l1] #[]),(5,.pointer (some ⟨b5,0,none⟩)),(6,.pointer (some ⟨b6,0,none⟩)),(7,.pointer (some ⟨b7,0,none⟩)),(8,.pointer (some ⟨b8,0,none⟩)),(9,.pointer (some ⟨b9,0,none⟩))]) (L':=gL code eb ec k send af false b4 b5 b6 b7 b8 b9) ?_;refine Tc.tN (A:= []) (xs:=tE k.l0 k.l1) (ts:= [28]) (fun rest H₁ L₁=> L₁=gL code eb ec k send af false b4 b5 b6 b7 b8 b9/\H.le H₁/\(rest.any fun lean=> k.xC (bA code 7) send lean af (tE k.m0 k.m1))=k.CG (bA code 7) send af)
  (fun j H₁ L₁=> j=.ret/\H.le H₁/\k.CG (bA code 7) send af=true/\L₁=gL code eb ec k send af true b4 b5 b6 b7 b8 b9) rfl rfl rfl rfl itL (fun _ _ _ h=> h) (fun _ _ _ _=> trivial) rfl (fun _ _=> rfl) ⟨rfl,View.le_refl _,rfl⟩ ?_ ?_ ?_
 ·rintro r lean rest e l tmps asg bdy H₁ _ hl ⟨rfl,FD,J5⟩ Q1 St1 cc1 cs1 mR q1 q1';have hl':=fE.1 hl;unfold gL;refine U ?_;refine .al fun b10=> ?_;refine U2 ?_;refine Tc.beginRound (i:=1) rfl rfl rfl ?_;refine U ?_;refine Tc.scope ?_;refine U ?_;refine Tc.label ?_;refine U6 ?_;refine Tc.uN (A:= []) (i:=1) (xs:=tE k.m0 k.m1) (ts:= [31]) (fun rest2 H₂ L₂=> L₂=(b10,true,.cells ⟨[.int .i64 lean]⟩ 3 (0,0))::(l,true,.loop { Loop.fresh 100 tmps [28].toArray asg bdy r with state:=.busy })::(r,true,.deferred (some []))::gL code eb ec k send af false b4 b5 b6 b7 b8 b9/\H.le H₂/\k.xC (bA code 7) send lean af rest2=k.xC (bA code 7) send lean af (tE k.m0 k.m1))
   (fun j H₂ L₂=> j=.ret/\H.le H₂/\k.CG (bA code 7) send af=true/\L₂=(b10,true,.cells ⟨[.int .i64 lean]⟩ 3 (0,0))::(l,true,.loop { Loop.fresh 100 tmps [28].toArray asg bdy r with state:=.busy })::(r,true,.deferred (some []))::gL code eb ec k send af true b4 b5 b6 b7 b8 b9)
   rfl rfl rfl rfl rfl itM (fun _ _ _ h=> h) (fun _ _ _ _=> trivial) rfl (fun _ _=> rfl) ⟨rfl,FD,rfl⟩ ?_ ?_ ?_
  ·rintro n rest2 e2 l2 tmps2 asg2 bdy2 H₂ _ hn ⟨rfl,jF,XR⟩ Q2 St2 cc2 cs2 G5 q2 q2';have tQ:=fE.1 hn;unfold gL;refine U3 ?_;refine Tc.beginRound (i:=0) rfl rfl rfl ?_;refine U3 ?_;refine .x (.ld 7) ?_;refine U2 ?_;refine .e (.bs (zz:=fun bs=> ?_));refine U ?_;refine .al fun b12=> ?_;refine U2 ?_;refine Tc.lift (L₂:= [_,_]) rfl (fun Hx hx=> ?_);have x10:=hx.get (i:=1) rfl;have x9:=hx.get (i:=4) rfl;have x8:=hx.get (i:=5) rfl;have x7:=hx.get (i:=6) rfl;have x6:=hx.get (i:=7) rfl;have x5:=hx.get (i:=8) rfl;obtain⟨fe,es,et,ez,eU,WR⟩:=hE.le (View.le_trans jF hx.base);have f0:SB true 2 es (0+(0:Int).toNat*2)=some (ZD ((bA code 7)[0]?.getD 0) 0):=WR 0 hp0;have b0:=rO 0 hp0;have st0:=FF (place:=((bA code 7)[0]?.getD 0:Nat)) (number:=((0:Nat):Int)) (send:=send) (lean:=lean) oM oM PO.1 PO.2 oM oM;have st0':=FF (place:=((bA code 7)[0]?.getD 0:Nat)) (number:=0) (send:=send) (lean:=lean) oM oM PO.1 PO.2 oM oM;have f7:SB true 6 (mA af) 0=some (.agg ⟨mA af⟩):=by
    unfold SB;have e1:Nat.ble (0+6) (mA af).length=true:=by rw[sA,h6];rfl
    simp only[e1];rw[List.drop_zero,List.take_of_length_le (by rw[sA,h6];exact Nat.le_refl _)]
   refine U ?_;refine Tc.dr [] [] mixed rfl ?_;refine V6 0 ?_;refine .z 6 rfl (oA.tk fun H hs=> NI M H ((bA code 7)[0]?.getD 0:Nat) ((0:Nat):Int) send lean oM oM oM PO.1 PO.2 oM oM) ?_;refine V3 7 ?_;refine .dn ?_;refine U5 ?_;refine .x (oA.slice (E:=en) (l:=1) (h:=((bA code 7).length:Nat)) (off':=0+1*2) rfl rfl rfl rfl rfl rfl rfl rfl oM oM oM (by rw[if_neg oM];rfl)) ?_;refine U4 ?_;refine Tc.PC (Tc.vA (σ:= { s:Nat×Gl 3 1//s.1<=(bA code 7).length-1/\s.2.l=mA (wC (bA code 7) send lean n af s.1)/\∀i,i<s.1->k.XH (fK (bA code 7) send lean n af i)=true })
    (fun s=> ([(50,.int .i64 (s.1.1:Nat)),(49,.int .i64 (((bA code 7).length-1:Nat):Int)),(48,.slice (some ⟨eb,0+1*2,none⟩) ((bA code 7).length-1) (ec-1)),(13,.int .i64 (kE ((bA code 7)[0]?.getD 0:Nat) 0 send lean+n)),(12,.pointer (some ⟨b12,0,none⟩)),(10,.pointer (some ⟨b10,0,none⟩)),(5,.pointer (some ⟨b5,0,none⟩)),(6,.pointer (some ⟨b6,0,none⟩)),(7,.pointer (some ⟨b7,0,none⟩)),(8,.pointer (some ⟨b8,0,none⟩)),(9,.pointer (some ⟨b9,0,none⟩))],(b12,true,.cells ⟨[.int .i64 send,.int .i64 0,.int .i64 lean,s.1.2.val]⟩ 53 (0,0))::s.1.2.bl)) (fun s=> (bA code 7).length-1-s.1.1) ?_
    ⟨(0,⟨some bs,1,1,[.int .i64 n],[],rfl,Nat.le_refl _,rfl,nofun⟩),by simp,rfl,nofun⟩) ⟨rfl,rfl,rfl,rfl,rfl,rfl,rfl,rfl,rfl,rfl,rfl,trivial⟩ (List.Sublist.refl _)
   rintro⟨⟨j,g⟩,g1,g2,g3⟩ ih;simp only at g1 g2 g3;show Tc _ _ _ _ _ _ [(50,.int .i64 (j:Nat)),(49,.int .i64 (((bA code 7).length-1:Nat):Int)),(48,.slice (some ⟨eb,0+1*2,none⟩) ((bA code 7).length-1) (ec-1)),(13,.int .i64 (kE ((bA code 7)[0]?.getD 0:Nat) 0 send lean+n)),(12,.pointer (some ⟨b12,0,none⟩)),(10,.pointer (some ⟨b10,0,none⟩)),(5,.pointer (some ⟨b5,0,none⟩)),(6,.pointer (some ⟨b6,0,none⟩)),(7,.pointer (some ⟨b7,0,none⟩)),(8,.pointer (some ⟨b8,0,none⟩)),(9,.pointer (some ⟨b9,0,none⟩))] ((b12,true,.cells ⟨[.int .i64 send,.int .i64 0,.int .i64 lean,g.val]⟩ 53 (0,0))::g.bl) _ _;by_cases c1:j=(bA code 7).length-1
   ·have uD:g.n=(bA code 7).length:=by
     have h1:=g.hl;rw[g2,sA,rJ] at h1;omega
    obtain⟨_|vb,gn,gc,gll,gj,e1,e2,e3,e4⟩:=g
    ·have:=e4 rfl;simp only at uD;omega
    simp only at uD g2;subst uD;subst g2;have J2:=iX (ps:=bA code 7) (send:=send) (lean:=lean) (n:=n) (af:=af) hkm tQ g3;rw[c1] at J2 g3;have hV2:∀i:Nat,i<(bA code 7).length->SB false 1 (mA (wC (bA code 7) send lean n af ((bA code 7).length-1))++gj) (0+i*1)=some (.int .i64 ((wC (bA code 7) send lean n af ((bA code 7).length-1))[i]?.getD 0)):=fun i hi=> by
     have NO:i<(wC (bA code 7) send lean n af ((bA code 7).length-1)).length:=by rw[rJ];omega
     have:=jS NO;unfold SB at this ⊢;simp only at this ⊢;rw[List.getElem?_append_left (by rw[sA];omega)];exact this
    have hsl:=eD (GD (bA code 7) (wC (bA code 7) send lean n af ((bA code 7).length-1)) send lean (bA code 7).length) (bA code 7).length;rw[lD] at hsl;have hsb:∀z∈GD (bA code 7) (wC (bA code 7) send lean n af ((bA code 7).length-1)) send lean (bA code 7).length, -1000000000<=z/\z<=1000000000:=by
     intro z hz;unfold GD at hz;obtain⟨i,hi,rfl⟩:=List.mem_map.1 hz;split
     ·rename_i hi2
      unfold seenAt;have h1:=J2 i;have h2:=rO i hi2;have h3:=FF (place:=((bA code 7)[i]?.getD 0:Nat)) (number:=(i:Nat)) (send:=send) (lean:=lean) oM oM PO.1 PO.2 oM oM;omega
     ·omega
    subst c1;have zA:((List.range ((bA code 7).length-1)).all fun i=> k.XH (fK (bA code 7) send lean n af i))=true:=by
     rw[List.all_eq_true];intro i hi;exact g3 i (List.mem_range.1 hi)
    by_cases hq:SA (GD (bA code 7) (wC (bA code 7) send lean n af ((bA code 7).length-1)) send lean (bA code 7).length) (bA code 7).length=af
    ·have kX:k.yF (bA code 7) send lean n af=true:=by
      unfold Lk.yF;rw[zA,hq];simp
     have AZ:k.CG (bA code 7) send af=true:=by
      rw[<-J5,List.any_cons,<-XR];unfold Lk.xC;rw[List.any_cons,kX];rfl
     refine U8 ?_;refine Tc.dr [] [] mixed rfl ?_;refine V2 0 ?_;refine .z 2 rfl (oA.tk fun H hs=> Q0 M H (code:Int) send 0 lean (bA code 7) (wC (bA code 7) send lean n af ((bA code 7).length-1)) eb 0 ec vb 0 gc fe true es _ et 3 ez (0,0) (hs.base _ _ eU) WR (hs.get (i:=1) rfl) hV2 VM rO J2 PO.1 PO.2 oM oM _ (Nat.le_refl _)) ?_;refine V3 3 ?_;refine .z 6 rfl (oA.tk fun H hs=> MP M H _ (bA code 7).length (lD ..) VM hsb) ?_;refine .nn 7 ?_;refine .q 8 rfl (oA.eqA (E:=en) true 2 rfl rfl rfl rfl rfl s8 dE (FI _ hsl) (FI af h6) ⟨fun _=> by rw[hq],fun _=> rfl⟩) ?_;refine .dn ?_;refine Tc.expand hx ?_;refine U3 ?_;refine .e (.st 7 (zz:=?_));refine U ?_;refine Tc.FA G5 (i:=2) rfl (.inr (.inl ⟨_,rfl,rfl⟩)) (fun H' hs'=> q2' H' _ _ _ (hs'.less sL) ⟨rfl,jF,AZ,rfl⟩)
    ·have kX:k.yF (bA code 7) send lean n af=false:=by
      unfold Lk.yF;rw[zA];simp[hq]
     have YR:k.xC (bA code 7) send lean af rest2=k.xC (bA code 7) send lean af (tE k.m0 k.m1):=by
      rw[<-XR];unfold Lk.xC;rw[List.any_cons,kX];rfl
     refine U8 ?_;refine Tc.dr [] [] mixed rfl ?_;refine V2 0 ?_;refine .z 2 rfl (oA.tk fun H hs=> Q0 M H (code:Int) send 0 lean (bA code 7) (wC (bA code 7) send lean n af ((bA code 7).length-1)) eb 0 ec vb 0 gc fe true es _ et 3 ez (0,0) (hs.base _ _ eU) WR (hs.get (i:=1) rfl) hV2 VM rO J2 PO.1 PO.2 oM oM _ (Nat.le_refl _)) ?_;refine V3 3 ?_;refine .z 6 rfl (oA.tk fun H hs=> MP M H _ (bA code 7).length (lD ..) VM hsb) ?_;refine .nn 7 ?_;refine .q 8 rfl (oA.eqA (E:=en) false 2 rfl rfl rfl rfl rfl s8 dE (FI _ hsl) (FI af h6) ⟨(fun h=> nomatch h),fun h=> (hq (TO h)).elim⟩) ?_;refine .dn ?_;refine Tc.expand hx ?_;refine U3 ?_;refine Tc.FA G5 (i:=2) rfl (.inl ⟨rfl,rfl⟩) (fun H' hs'=> q2 H' _ _ (hs'.less sL) ⟨rfl,jF,YR⟩)
   ·have c2:j<(bA code 7).length-1:=by omega
    have uD:g.n=j+1:=by
     have h1:=g.hl;rw[g2,sA,rJ] at h1;omega
    have f1:SB true 2 es ((0+1*2)+(j:Int).toNat*2)=some (ZD ((bA code 7)[j+1]?.getD 0) (j+1)):=by
     rw[show(0+1*2)+(j:Int).toNat*2=0+(j+1)*2 by simp;omega];exact WR (j+1) oM
    have f2:SB false 1 (mA af) (0+((j:Int)+1).toNat*1)=some (.int .i64 (af[j+1]?.getD 0)):=by
     rw[show((j:Int)+1).toNat=j+1 by omega];exact jS oM
    have K5:=rO (j+1) oM;have st1:=FF (place:=((bA code 7)[j+1]?.getD 0:Nat)) (number:=((j+1:Nat):Int)) (send:=send) (lean:=lean) oM oM PO.1 PO.2 oM oM;have hbf: -100000<=af[j+1]?.getD 0/\af[j+1]?.getD 0<=100000:=by
     have mB:j+1<af.length:=by omega
     rw[List.getElem?_eq_getElem mB];exact hb _ (List.getElem_mem mB)
    cases sQ:k.XH (fK (bA code 7) send lean n af j) with
    | true=>
     refine zH ?_;refine .al fun b15=> ?_;refine U4 ?_;refine Tc.dr [] [] mixed rfl ?_;refine V9 0 ?_;refine .z 9 rfl (oA.tk fun H hs=> NI M H ((bA code 7)[j+1]?.getD 0:Nat) ((j+1:Nat):Int) send lean oM oM oM PO.1 PO.2 oM oM) ?_;refine V2 10 ?_;refine .dn ?_;refine U5 ?_;refine .cl (fun H hs=> cA.mono (G8 M H k.m0 k.m1 (fK (bA code 7) send lean n af j)) (Q':=fun v H'=> H.le H'/\v=.bool true) (by rintro v H' ⟨h1,h2⟩;unfold Lk.XH at sQ;rw[sQ] at h2;exact⟨h1,h2⟩)) ?_;refine U8 ?_;refine .e (.bs (zz:=fun bs2=> ?_));refine .e (Or.append (E:=en) 3 rfl rfl rfl rfl rfl rfl rfl rfl rfl rfl rfl rfl rfl rfl rfl (fun H hs=> NA.of (hs.get (i:=0) rfl) (Nat.le_of_ble_eq_true rfl)) rfl oM rfl dE (fun g' CK RJ=> ?_));refine U8 ?_;exact Tc.db (ih ⟨(j+1,g'),by simp only;omega,by simp only;rw[RJ,g2,UR];unfold mA;rw[List.map_append];rfl,by simp only;intro i hi;rcases Nat.lt_succ_iff_lt_or_eq.1 hi with h|rfl;exact g3 i h;exact sQ⟩ (by simp only;omega))
    | false=>
     have kX:k.yF (bA code 7) send lean n af=false:=by
      unfold Lk.yF;rw[Bool.and_eq_false_iff];refine .inl ?_;rw[List.all_eq_false];exact⟨j,List.mem_range.2 c2,by rw[sQ];simp⟩
     have YR:k.xC (bA code 7) send lean af rest2=k.xC (bA code 7) send lean af (tE k.m0 k.m1):=by
      rw[<-XR];unfold Lk.xC;rw[List.any_cons,kX];rfl
     refine zH ?_;refine .al fun b15=> ?_;refine U4 ?_;refine Tc.dr [] [] mixed rfl ?_;refine V9 0 ?_;refine .z 9 rfl (oA.tk fun H hs=> NI M H ((bA code 7)[j+1]?.getD 0:Nat) ((j+1:Nat):Int) send lean oM oM oM PO.1 PO.2 oM oM) ?_;refine V2 10 ?_;refine .dn ?_;refine U5 ?_;refine .cl (fun H hs=> cA.mono (G8 M H k.m0 k.m1 (fK (bA code 7) send lean n af j)) (Q':=fun v H'=> H.le H'/\v=.bool false) (by rintro v H' ⟨h1,h2⟩;unfold Lk.XH at sQ;rw[sQ] at h2;exact⟨h1,h2⟩)) ?_;refine U2 ?_;refine Tc.PC (R':= [(69,.bool true)]) (L':= []) ?_ ⟨rfl,trivial⟩ (List.nil_sublist _);refine Tc.expand hx ?_;refine U2 ?_;refine Tc.FA G5 (i:=0) rfl (.inl ⟨rfl,rfl⟩) (fun H' hs'=> q2 H' _ _ (hs'.less sL) ⟨rfl,jF,YR⟩)
  ·rintro H₂ _ ⟨rfl,jF,XR⟩;have wG:k.xC (bA code 7) send lean af (tE k.m0 k.m1)=false:=XR.symm;have YR:(rest.any fun lean=> k.xC (bA code 7) send lean af (tE k.m0 k.m1))=k.CG (bA code 7) send af:=by
    rw[<-J5,List.any_cons,wG];rfl
   refine U ?_;refine Tc.inScope ?_;refine U ?_;refine Tc.FA mR (i:=1) rfl (.inl ⟨rfl,rfl⟩) (fun H' hs'=> q1 H' _ _ (hs'.less sL) ⟨rfl,jF,YR⟩)
  ·rintro j H₂ _ ⟨rfl,jF,AZ,rfl⟩;refine Tc.FA mR (i:=1) rfl (.inr (.inl ⟨_,rfl,rfl⟩)) (fun H' hs'=> q1' H' _ _ _ (hs'.less sL) ⟨rfl,jF,AZ,rfl⟩)
 ·rintro r H₁ _ ⟨rfl,FD,J5⟩;have wG:k.CG (bA code 7) send af=false:=J5.symm;unfold gL;refine U5 ?_;refine Tc.TS (E:=en) (i:=0) hK func100 results100 (vs:= [_]) rfl (by refine⟨⟨2,_,_,_,_,_,_,_,rfl,rfl,rfl,rfl⟩,?_⟩;exact trivial) ?_;exact fun H' hs=> ⟨View.le_trans FD hs.base,by rw[wG];rfl⟩
 ·rintro r j H₁ _ ⟨rfl,FD,AZ,rfl⟩;unfold gL;refine Tc.TS (E:=en) (i:=0) hK func100 results100 (vs:= [_]) rfl (by refine⟨⟨2,_,_,_,_,_,_,_,rfl,rfl,rfl,rfl⟩,?_⟩;exact trivial) ?_;exact fun H' hs=> ⟨View.le_trans FD hs.base,by rw[AZ];rfl⟩
end
def cD(l:List Int):List Int:=l++List.replicate (6-l.length) 0
theorem PE {l:List Int}(h:l.length<=6):(cD l).length=6:=by simp[cD];omega
def mH(p:Int->Bool):List Int->Option (Int×Int)->Option (Int×Int)
 | [],o=> o
 | n::l,o=> mH p l (if p n then some (match o with|some (a,_)=> (a,n)|none=> (n,n)) else o)
def Lk.TL(k:Lk)(ps:List Nat)(t:List Int):Option (Int×Int):=mH (fun n=> k.CG ps n (SA t ps.length)) (tE k.s0 k.s1) none
def aBS(o:Option (Int×Int)):Value:=match o with|some (a,b)=> rB a b|none=> rB 0 0
def SW(o:Option (Int×Int)):List Value:=match o with|some (a,b)=> [.int .i64 a,.int .i64 b] | none=> [.int .i64 0,.int .i64 0]
section
variable(M:Md prog)(H:View)
def tL(code eb ec:Nat)(k:Lk)(t:List Int)(o:Option (Int×Int))(b3 b4 b5 b6 b7 b8 n:Nat):Bl:=
 [(b8,true,.cells ⟨mA (SA t n)⟩ 127 (0,0)),(b7,true,.cells ⟨[.bool o.isSome]⟩ 4 (0,0)),(b6,true,.cells ⟨SW o⟩ 23 (0,0)),(b5,true,.cells ⟨mA t⟩ 127 (0,0)),
   (b4,true,.cells ⟨[.int .i64 code,.slice (some ⟨eb,0,none⟩) n ec]⟩ 105 (0,0)),(b3,true,.cells ⟨k.val.cells.toList⟩ 112 (0,0))]
theorem UQ(k:Lk)(hk:k.MH)(code eb ec:Nat)(t:List Int)(hc:code<32)(hE:D3 H (bA code 7) eb)(hec:(bA code 7).length<=ec)(h2:2<=(bA code 7).length)(h6:t.length=6)(hb:∀x∈t, -10000<=x/\x<=10000):
  cA M 65 #[k.val,.agg ⟨[.int .i64 code,.slice (some ⟨eb,0,none⟩) (bA code 7).length ec]⟩,XK t] H (fun v H'=> H.le H'/\v=.tuple ⟨[aBS (k.TL (bA code 7) t),.bool (k.TL (bA code 7) t).isSome]⟩):=by
 obtain⟨hp0,VM,rO⟩:=ND code hc;have QN:=hk.bounds;simp only[List.mem_cons,List.not_mem_nil,or_false,forall_eq_or_imp,forall_eq] at QN;obtain⟨k1,k2,k3,k4,k5,k6,k7,k8⟩:=QN;have hks:=hk.s;have C2:(SA t (bA code 7).length).length=6:=by rw[eD,h6]
 have hY:∀x∈SA t (bA code 7).length, -100000<=x/\x<=100000:=by
  intro x hx;unfold SA at hx;obtain⟨y,hy,rfl⟩:=List.mem_map.1 hx;have h3:=hb y.1 (by
   have:=List.mem_zipIdx_iff_getElem?.1 hy;exact List.mem_of_getElem? this)
  have h4: -10000<=t.headD 0/\t.headD 0<=10000:=by
   cases t with
   | nil=> cases h6
   | cons a l=> exact hb a List.mem_cons_self
  split <;> omega
 have fT:SB true 6 (mA t) 0=some (.agg ⟨mA t⟩):=by
  unfold SB;have e1:Nat.ble (0+6) (mA t).length=true:=by rw[sA,h6];rfl
  simp only[e1];rw[List.drop_zero,List.take_of_length_le (by rw[sA,h6];exact Nat.le_refl _)]
 have fA:SB true 6 (mA (SA t (bA code 7).length)) 0=some (.agg ⟨mA (SA t (bA code 7).length)⟩):=by
  unfold SB;have e1:Nat.ble (0+6) (mA (SA t (bA code 7).length)).length=true:=by rw[sA,C2];rfl
  simp only[e1];rw[List.drop_zero,List.take_of_length_le (by rw[sA,C2];exact Nat.le_refl _)]
 have lA:Nat.beq (mA (SA t (bA code 7).length)).length 6=true:=by rw[sA,C2];rfl
 have lB:(mA (SA t (bA code 7).length)).all single=true:=by
  rw[List.all_eq_true];intro y hy;obtain⟨z,_,rfl⟩:=List.mem_map.1 hy;rfl
 have lC:IE [Value.int .i64 0,.int .i64 0,.int .i64 0,.int .i64 0,.int .i64 0,.int .i64 0] 0 (mA (SA t (bA code 7).length))=mA (SA t (bA code 7).length):=by
  unfold IE;rw[List.take_zero,List.nil_append,List.drop_eq_nil_of_le (by rw[sA,C2];simp),List.append_nil]
 refine .en func65 ntmps65 fun St c cs hK=> ?_;refine U2 ?_;refine .bo fun b3=> ?_;refine .bo fun b4=> ?_;refine .bo fun b5=> ?_;refine .al fun b6=> ?_;refine .al fun b7=> ?_;refine U7 ?_;refine .cl (fun H hs=> MP M H t (bA code 7).length h6 VM (fun x hx=> by have:=hb x hx;omega)) ?_;refine .al fun b8=> ?_;refine .e (Or.storeT (E:=en) 0 rfl rfl rfl rfl rfl lA rfl (by exact rfl) lB rfl lC ?_);refine U7 ?_;refine .cl (fun H hs=> yD M H k.s0 k.s1) ?_;refine U3 ?_;have itS:=fun H (_:(fun _:View=> True) H)=> kJ M H k.s0 k.s1 oM oM;refine Tc.db (R':= [(19,.func (.func 99) #[rB k.s0 k.s1] #[]),(3,.pointer (some ⟨b3,0,none⟩)),(4,.pointer (some ⟨b4,0,none⟩)),(6,.pointer (some ⟨b6,0,none⟩)),(7,.pointer (some ⟨b7,0,none⟩)),(8,.pointer (some ⟨b8,0,none⟩))]) (L':=tL code eb ec k t none b3 b4 b5 b6 b7 b8 (bA code 7).length) ?_;refine Tc.tN (A:= []) (xs:=tE k.s0 k.s1) (ts:= [20]) (fun rest H₁ L₁=> ∃o,L₁=tL code eb ec k t o b3 b4 b5 b6 b7 b8 (bA code 7).length/\H.le H₁/\mH (fun n=> k.CG (bA code 7) n (SA t (bA code 7).length)) rest o=k.TL (bA code 7) t)
  (fun _ _ _=> False) rfl rfl rfl rfl itS (fun _ _ _ h=> h) (fun _ _ _ _=> trivial) rfl (fun _ _=> rfl) ⟨none,rfl,View.le_refl _,rfl⟩ ?_ ?_ ?_
 ·rintro r n rest e l tmps asg bdy H₁ _ hn ⟨o,rfl,FD,hto⟩ Q1 St1 cc1 cs1 mR q1 q1';have tQ:=fE.1 hn;unfold tL;refine U3 ?_;refine Tc.beginRound (i:=0) rfl rfl rfl ?_;refine U3 ?_;cases hg:k.CG (bA code 7) n (SA t (bA code 7).length) with
  | false=>
   have iS:mH (fun n=> k.CG (bA code 7) n (SA t (bA code 7).length)) rest o=k.TL (bA code 7) t:=by
    rw[<-hto];unfold mH;simp only[hg];cases rest <;> rfl
   refine U ?_;refine .x (.ld 7) ?_;refine U3 ?_;refine .cl (fun H hs=> cA.is (.bool false) (by rewrite [hg];rfl) (QV M H k hk code eb ec n (SA t (bA code 7).length) hc ((hE.le FD).le hs.base) hec h2 C2 hY oM)) ?_;refine U4 ?_;refine Tc.FA mR (i:=0) rfl (.inl ⟨rfl,rfl⟩) (fun H' hs'=> q1 H' _ _ (hs'.less sL) ⟨o,rfl,FD,iS⟩)
  | true=>
   refine U ?_;refine .x (.ld 7) ?_;refine U3 ?_;refine .cl (fun H hs=> cA.is (.bool true) (by rewrite [hg];rfl) (QV M H k hk code eb ec n (SA t (bA code 7).length) hc ((hE.le FD).le hs.base) hec h2 C2 hY oM)) ?_;refine U2 ?_;cases o with
   | none=>
    have iS:mH (fun n=> k.CG (bA code 7) n (SA t (bA code 7).length)) rest (some (n,n))=k.TL (bA code 7) t:=by
     rw[<-hto];show _=mH _ rest _;simp only[hg];rfl
    refine wR ?_;refine Tc.FA mR (i:=0) rfl (.inl ⟨rfl,rfl⟩) (fun H' hs'=> q1 H' _ _ (hs'.less sL) ⟨some (n,n),rfl,FD,iS⟩)
   | some ab=>
    obtain⟨a,b⟩:=ab;have iS:mH (fun n=> k.CG (bA code 7) n (SA t (bA code 7).length)) rest (some (a,n))=k.TL (bA code 7) t:=by
     rw[<-hto];show _=mH _ rest _;simp only[hg];rfl
    refine xT ?_;refine Tc.FA mR (i:=0) rfl (.inl ⟨rfl,rfl⟩) (fun H' hs'=> q1 H' _ _ (hs'.less sL) ⟨some (a,n),rfl,FD,iS⟩)
 ·rintro r H₁ _ ⟨o,rfl,FD,hto⟩;have iS:o=k.TL (bA code 7) t:=hto;unfold tL;refine U2 ?_;cases o with
  | none=>
   refine Tc.dr [2,3] [3] mixed rfl ?_;refine .nn 0 ?_;refine .nw 1 ?_;refine .e 2 3 ?_;refine .e 3 2 ?_;refine .dn ?_;refine Tc.TS (E:=en) (i:=0) hK func65 results65 (vs:= [_,_]) rfl (by refine⟨⟨3,_,_,_,_,_,_,_,rfl,rfl,rfl,rfl⟩,?_⟩;refine⟨⟨2,_,_,_,_,_,_,_,rfl,rfl,rfl,rfl⟩,?_⟩;exact trivial) ?_;exact fun H' hs=> ⟨View.le_trans FD hs.base,by rw[<-iS];rfl⟩
  | some ab=>
   obtain⟨a,b⟩:=ab;refine Tc.dr [2,3] [3] mixed rfl ?_;refine .nn 0 ?_;refine .nw 1 ?_;refine .e 2 3 ?_;refine .e 3 2 ?_;refine .dn ?_;refine Tc.TS (E:=en) (i:=0) hK func65 results65 (vs:= [_,_]) rfl (by refine⟨⟨3,_,_,_,_,_,_,_,rfl,rfl,rfl,rfl⟩,?_⟩;refine⟨⟨2,_,_,_,_,_,_,_,rfl,rfl,rfl,rfl⟩,?_⟩;exact trivial) ?_;exact fun H' hs=> ⟨View.le_trans FD hs.base,by rw[<-iS];rfl⟩
 ·rintro r j H₁ _ h;exact h.elim
end
structure Told(l:List Int):Prop where
 len:l.length<=6
 pos:l≠ []
 max:∀x∈l, -999<=x/\x<=999
structure TG(H:View)(A:Option Addr)(l:List Int):Prop where
 ex:∃ab ao f gs gt gz,A=some ⟨ab,ao,none⟩/\H ab=some (f,.cells ⟨gs⟩ gt gz)/\ao+l.length*1<=gs.length/\(gs.drop ao).take (l.length*1)=mA l
theorem TG.le {H H':View}{A:Option Addr}{l:List Int}(h:TG H A l)(k:H.le H'):TG H' A l:=by
 obtain⟨ab,ao,f,gs,gt,gz,h1,h2,h3,h4⟩:=h.ex;exact⟨ab,ao,f,gs,gt,gz,h1,k _ _ h2,h3,h4⟩
theorem C1 {gs:List Value}{ao:Nat}{l:List Int}(h:(gs.drop ao).take (l.length*1)=mA l){j:Nat}(hj:j<l.length):SB false 1 gs (ao+(j:Int).toNat*1)=some (.int .i64 (l[j]?.getD 0)):=by
 show gs[ao+(j:Int).toNat*1]? =_;rw[Nat.mul_one,Int.toNat_natCast];have h1:((gs.drop ao).take (l.length*1))[j]? =(mA l)[j]? :=by rw[h]
 rw[List.getElem?_take_of_lt oM,List.getElem?_drop] at h1;rw[h1];unfold mA;rw[List.getElem?_map,List.getElem?_eq_getElem hj];rfl
section
variable(M:Md prog)(H:View)
theorem E1(l:List Int)(hl:Told l)(A:Option Addr)(cap:Nat)(hT:TG H A l):cA M 63 #[.slice A l.length cap] H (fun v H'=> H.le H'/\v=.tuple ⟨[XK (cD l),.int .i64 0]⟩):=by
 obtain⟨ab,ao,f,gs,gt,gz,rfl,hA1,F5,hA3⟩:=hT.ex;obtain⟨hl6,gB,pZ⟩:=hl;have qU:mA l≠ []:=by
  cases l with
  | nil=> exact(gB rfl).elim
  | cons a l=> intro e;cases e
 have oR:(mA l).all single=true:=by
  rw[List.all_eq_true];intro y hy;obtain⟨z,_,rfl⟩:=List.mem_map.1 hy;rfl
 have kB:IE [Value.int .i64 0,.int .i64 0,.int .i64 0,.int .i64 0,.int .i64 0,.int .i64 0] 0 (mA l)=mA (cD l):=by
  unfold IE cD;rw[List.take_zero,List.nil_append,Nat.zero_add,sA];have e1:mA (l++List.replicate (6-l.length) 0)=mA l++mA (List.replicate (6-l.length) 0):=by unfold mA;rw[List.map_append]
  rw[e1]
  congr 1
  have:l.length=0\/l.length=1\/l.length=2\/l.length=3\/l.length=4\/l.length=5\/l.length=6:=by omega
  rcases this with h|h|h|h|h|h|h <;> rw[h] <;> rfl
 have VM:=PE hl6;have fP:SB true 6 (mA (cD l)) 0=some (.agg ⟨mA (cD l)⟩):=by
  unfold SB;have e1:Nat.ble (0+6) (mA (cD l)).length=true:=by rw[sA,VM];rfl
  simp only[e1];rw[List.drop_zero,List.take_of_length_le (by rw[sA,VM];exact Nat.le_refl _)]
 have lA:Nat.beq (mA (cD l)).length 6=true:=by rw[sA,VM];rfl
 have lB:(mA (cD l)).all single=true:=by
  rw[List.all_eq_true];intro y hy;obtain⟨z,_,rfl⟩:=List.mem_map.1 hy;rfl
 have lC:IE [Value.int .i64 0,.int .i64 0,.int .i64 0,.int .i64 0,.int .i64 0,.int .i64 0] 0 (mA (cD l))=mA (cD l):=by
  unfold IE;rw[List.take_zero,List.nil_append,List.drop_eq_nil_of_le (by rw[sA,VM];simp),List.append_nil]
 refine .en func63 ntmps63 fun St c cs hK=> ?_;refine U2 ?_;refine .al fun b2=> ?_;refine U4 ?_;refine .al fun b4=> ?_;refine U9 ?_;refine Tc.db (Tc.vA (σ:= { j:Nat//j<=l.length }) (fun j=> ([(0,.slice (some ⟨ab,ao,none⟩) l.length cap),(2,.pointer (some ⟨b2,0,none⟩)),(4,.pointer (some ⟨b4,0,none⟩)),(7,.slice (some ⟨ab,ao,none⟩) l.length cap),(8,.int .i64 (l.length:Nat)),(9,.int .i64 (j.1:Nat))],
  [(b4,true,.cells ⟨[.int .i64 0,.int .i64 0,.int .i64 0,.int .i64 0,.int .i64 0,.int .i64 0]⟩ 127 (0,0)),(b2,true,.cells ⟨[.int .i64 0,.int .i64 0,.int .i64 0,.int .i64 0,.int .i64 0,.int .i64 0]⟩ 127 (0,0))])) (fun j=> l.length-j.1) ?_ ⟨0,oM⟩)
 rintro⟨j,hj⟩ ih;show Tc M St _ _ _ _ [(0,.slice (some ⟨ab,ao,none⟩) l.length cap),(2,.pointer (some ⟨b2,0,none⟩)),(4,.pointer (some ⟨b4,0,none⟩)),(7,.slice (some ⟨ab,ao,none⟩) l.length cap),(8,.int .i64 (l.length:Nat)),(9,.int .i64 (j:Nat))]
  [(b4,true,.cells ⟨[.int .i64 0,.int .i64 0,.int .i64 0,.int .i64 0,.int .i64 0,.int .i64 0]⟩ 127 (0,0)),(b2,true,.cells ⟨[.int .i64 0,.int .i64 0,.int .i64 0,.int .i64 0,.int .i64 0,.int .i64 0]⟩ 127 (0,0))] _ _
 by_cases c1:j=l.length
 ·refine U9 ?_;refine .x (oA.JJ (E:=en) (off':=0) rfl rfl rfl rfl rfl rfl rfl rfl dE dE dE (by rw[if_neg dE];rfl)) ?_;refine U ?_;refine .e (Or.copy (E:=en) (m:=l.length) 0 rfl rfl rfl rfl rfl rfl rfl rfl rfl rfl rfl (fun H hs=> hA3▸NA.of (hs.base _ _ hA1) F5) oR hl6 dE qU rfl dE kB ?_);refine U4 ?_;refine .e (Or.storeT (E:=en) 1 rfl rfl rfl rfl rfl lA rfl (by exact rfl) lB rfl lC ?_);refine U2 ?_;refine Tc.aAG (E:=en) hK func63 results63 (vs:= [.agg ⟨mA (cD l)⟩,_]) (by refine⟨⟨1,_,_,_,_,_,_,_,rfl,rfl,rfl,fP⟩,⟨rfl,trivial⟩⟩) ?_;exact okB
 ·have c2:j<l.length:=by omega
  have f1:=C1 hA3 c2;have hm:=pZ (l[j]?.getD 0) (by rw[List.getElem?_eq_getElem c2];exact List.getElem_mem c2);refine U31 ?_;exact Tc.db (ih ⟨j+1,oM⟩ (by simp only;omega))
theorem I3(b cap:Nat)(hb:H b=some (true,.cells ⟨[.int .i64 2,.int .i64 4,.int .i64 6]⟩ 3 (0,0))):cA M 96 #[.slice (some ⟨b,0,none⟩) 3 cap,.int .i64 2] H (fun v H'=> H.le H'/\v=.int .i64 0):=by
 refine .en func96 ntmps96 fun St c cs hK=> ?_;refine zI ?_;refine .done (.block (.loop (.sr ?_)));refine U27 ?_;refine .rt hK func96 results96 [_] ?_;exact okB
theorem AT(b cap:Nat)(hb:H b=some (true,.cells ⟨[.int .i64 2,.int .i64 4,.int .i64 6]⟩ 3 (0,0))):cA M 62 #[.slice (some ⟨b,0,none⟩) 3 cap,.int .i64 2] H (fun v H'=> H.le H'/\v=.bool true):=by
 refine .en func62 ntmps62 fun St c cs hK=> ?_;refine U8 ?_;refine .cl (fun H hs=> I3 M H b cap (hs.base _ _ hb)) ?_;refine U3 ?_;refine .rt hK func62 results62 [_] ?_;exact okB
end
end Go.Proofs.YtgkmnalhddmclaaGreatDoor
