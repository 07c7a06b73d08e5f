/-
 Texts of the proofs over baudot/dial.
-/
import Derived.Test.YtldmfjcgjdchcaaGreatDoorL13
namespace Go.Proofs.YtldmfjcgjdchcaaGreatDoor
open Go.RL Go.Proofs.Tryz
set_option maxRecDepth 10000
set_option maxHeartbeats 32000000
theorem FP {H:View}{b:Nat}{f:Bool}{gt:TypeId}{gz:Nat×Nat}(m:List (List UInt8))(h:H b=some (f,.cells ⟨GB m⟩ gt gz)):BF H (some ⟨b,0,none⟩) m.length (fun j=> m[j]?.getD []):=
 .inr ⟨b,0,f,_,gt,gz,rfl,h,fun j hj=> by
  show(GB m)[_]? =_;rw[Nat.zero_add,Int.toNat_natCast,Nat.mul_one];unfold GB;rw[List.getElem?_map];simp only[List.getElem?_eq_getElem hj];rfl⟩
theorem EK(l:List (List UInt8)){n:Nat}(hn:n=l.length):(decide (n=l.length)&&bG (fun i=> decide ((fun j=> l[j]?.getD []) i=(fun j=> l[j]?.getD []) i)) n)=true:=by
 rw[decide_eq_true hn,(DD n).2 (fun i _=> decide_eq_true rfl)];rfl
theorem AE {H:View}{b:Nat}{f:Bool}{gt:TypeId}{gz:Nat×Nat}(m:List Int)(h:H b=some (f,.cells ⟨sA m⟩ gt gz)):rB H (some ⟨b,0,none⟩) m.length (jC m):=
 .inr ⟨b,0,f,_,gt,gz,rfl,h,fun j hj=> by
  show(sA m)[_]? =_;rw[Nat.zero_add,Int.toNat_natCast,Nat.mul_one];unfold sA jC;rw[List.getElem?_map];simp only[List.getElem?_eq_getElem hj];rfl⟩
theorem fU {e:TypeId}(g:Gl e 1){H:View}(h:∀x∈g.bl,H x.1=some x.2){f:Nat->Int}{n:Nat}(hl:g.l=GN f n)(hn:g.n=n):rB H (g.blk.map fun b=> ⟨b,0,none⟩) n f:=by
 cases hb:g.blk with
 | none=>
  have:=g.h0 hb;have:=g.hc;exact .inl oM
 | some b=>
  have YJ:g.bl= [(b,true,.cells ⟨g.l++g.qB⟩ e (0,0))]:=by unfold Gl.bl;rw[hb]
  refine .inr ⟨b,0,true,_,e,(0,0),rfl,h (b,true,.cells ⟨g.l++g.qB⟩ e (0,0)) (by rw[YJ];simp),fun j hj=> ?_⟩;show(g.l++g.qB)[_]? =_;rw[Nat.zero_add,Int.toNat_natCast,Nat.mul_one,List.getElem?_append_left (by rw[hl,w9];exact hj),hl];unfold GN;rw[List.getElem?_map,List.getElem?_range hj];rfl
theorem P3(m:List Int):sA m=GN (jC m) m.length:=by
 apply List.ext_getElem?
 intro i;unfold sA GN jC;rw[List.getElem?_map,List.getElem?_map];by_cases h:i<m.length
 ·rw[List.getElem?_range h,List.getElem?_eq_getElem h];simp[h]
 ·rw[List.getElem?_eq_none oM,List.getElem?_eq_none (by simp;omega)];rfl
theorem three {p:Nat->Prop}(h0:p 0)(h1:p 1)(h2:p 2):∀i,i<3->p i:=fun i hi=> by
 rcases(by omega:i=0\/i=1\/i=2) with rfl|rfl|rfl
 ·exact h0
 ·exact h1
 ·exact h2
theorem two {p:Nat->Prop}(h0:p 0)(h1:p 1):∀i,i<2->p i:=fun i hi=> by
 rcases(by omega:i=0\/i=1) with rfl|rfl
 ·exact h0
 ·exact h1
theorem B7 {H:View}{a:Option Addr}{n c:Nat}{l:List (List UInt8)}(h:OA H 1 (.slice a n c) n (GB l))(hn:n=l.length):BF H a n (fun j=> l[j]?.getD []):=by
 obtain⟨_,_,⟨_,_,h1,h2⟩|⟨b,off,c',f,cs,e,fz,h1,h2,h3,h4⟩⟩:=h
 ·have:l= []:=by simpa [GB] using h2
  exact .inl (by rw[hn,this];rfl)
 ·simp only[Value.slice.injEq] at h1;refine .inr ⟨b,off,f,cs,e,fz,h1.1,h2,fun j hj=> ?_⟩;show cs[_]? =_;have I1:j<l.length:=by omega
  have h5:=congrArg (fun x=> x[j]?) h4;simp only[List.getElem?_take,List.getElem?_drop] at h5;rw[if_pos (by rw[iF];exact I1)] at h5;rw[Int.toNat_natCast,Nat.mul_one,h5];unfold GB;rw[List.getElem?_map];simp only[List.getElem?_eq_getElem I1];rfl
theorem To.aCq {P:Program}{M:Md P}{St:View->Goroutine->Prop}{n:Nat}{b:FB}{H₀:View}{cs:List Frame}{R:Rg}{L L₁:Bl}{ds:List Deferred}{k:List Item}{dl:List (Option Tmp)}{l:List Oper}(p:L₁.Perm L)(h:To M St n b H₀ cs dl R L₁ ds l k):To M St n b H₀ cs dl R L ds l k:=To.perm p h
theorem aAg(H:View)(hG:aE H):bA (Mp prog) 15 #[] H (fun v H'=> H.le H'/\v=.bool true):=by
 have sD:iE.small:=AO rfl dE rfl rfl;have sE:qF.small:=AO rfl dE rfl rfl;have sO:QR.small:=AO rfl dE rfl rfl;refine .en func15 ntmps15 fun St c cs hK=> ?_;refine U6 ?_;refine To.vB rfl rfl rfl rfl rfl rfl dE (uB.h (bZ _ H)) (fun v H1 hv=> ?_);obtain⟨tl1,dA,dlc,dB,dtc,dF,dfc,rfl,hD1⟩:=hv;refine To.vB rfl rfl rfl rfl rfl rfl dE (uB.h (W5 _ H1)) (fun v H2 hv=> ?_);obtain⟨le2,eA,elc,eB,etc,eF,efc,rfl,P4⟩:=hv;have tl2:=View.le_trans tl1 le2;have hD2:=hD1.le le2;have hG2:=IA hG tl2;refine .al fun b1=> ?_;refine .al fun b2=> ?_;refine U4 ?_;refine Tc.db (R':= [(1,.pointer (some ⟨b1,0,none⟩)),(2,.pointer (some ⟨b2,0,none⟩))]) (L':= [(b2,true,.cells ⟨(qF.val eA elc eB etc).cells.toList⟩ 45 (0,0)),(b1,true,.cells ⟨(iE.val dA dlc dB dtc).cells.toList⟩ 45 (0,0))]) ?_;refine U2 ?_;refine To.vB rfl rfl rfl rfl rfl rfl dE (uB.h (NT _ H2 iE dA dlc dB dtc hD2.bk sD hG2 dG)) (fun v H3 hv=> ?_);obtain⟨le3,g3,rfl,⟨ng3,lg3⟩,mg3⟩:=hv;rw[yZ] at ng3 lg3;refine U6 ?_;have tl3:=View.le_trans tl2 le3;have hD3:=hD2.le le3;have hE3:=P4.le le3;have hG3:=IA hG tl3;refine U ?_;refine Tc.db (R':= [(1,.pointer (some ⟨b1,0,none⟩)),(2,.pointer (some ⟨b2,0,none⟩)),(3,g3.val),(4,.int .i64 0)]) (L':= [(b2,true,.cells ⟨(qF.val eA elc eB etc).cells.toList⟩ 45 (0,0)),(b1,true,.cells ⟨(iE.val dA dlc dB dtc).cells.toList⟩ 45 (0,0))]) ?_;refine U2 ?_;refine To.vB rfl rfl rfl rfl rfl rfl dE (uB.h (rQ _ H3 iE dA dlc dB dtc hD3.bk sD hG3 dG)) (fun v H4 hv=> ?_);obtain⟨le4,g5,rfl,⟨ng5,lg5⟩,mg5⟩:=hv;rw[bS.2];refine U8 ?_;have tl4:=View.le_trans tl3 le4;have hD4:=hD3.le le4;have hE4:=hE3.le le4;have hG4:=IA hG tl4;refine U ?_;refine Tc.db (R':= [(1,.pointer (some ⟨b1,0,none⟩)),(2,.pointer (some ⟨b2,0,none⟩)),(3,g3.val),(4,.int .i64 0),(5,g5.val),(6,.int .i64 2),(7,.int .i64 0)]) (L':= [(b2,true,.cells ⟨(qF.val eA elc eB etc).cells.toList⟩ 45 (0,0)),(b1,true,.cells ⟨(iE.val dA dlc dB dtc).cells.toList⟩ 45 (0,0))]) ?_;refine U2 ?_;refine To.vB rfl rfl rfl rfl rfl rfl dE (uB.h (NT _ H4 qF eA elc eB etc hE4.bk sE hG4 PR)) (fun v H5 hv=> ?_);obtain⟨le5,g8,rfl,⟨ng8,lg8⟩,mg8⟩:=hv;rw[zZ] at ng8 lg8;refine U6 ?_;have tl5:=View.le_trans tl4 le5;have hD5:=hD4.le le5;have hE5:=hE4.le le5;have hG5:=IA hG tl5;refine U ?_;refine Tc.db (R':= [(1,.pointer (some ⟨b1,0,none⟩)),(2,.pointer (some ⟨b2,0,none⟩)),(3,g3.val),(4,.int .i64 0),(5,g5.val),(6,.int .i64 2),(7,.int .i64 0),(8,g8.val),(9,.int .i64 0)]) (L':= [(b2,true,.cells ⟨(qF.val eA elc eB etc).cells.toList⟩ 45 (0,0)),(b1,true,.cells ⟨(iE.val dA dlc dB dtc).cells.toList⟩ 45 (0,0))]) ?_;refine U2 ?_;refine To.vB rfl rfl rfl rfl rfl rfl dE (uB.h (rQ _ H5 qF eA elc eB etc hE5.bk sE hG5 PR)) (fun v H6 hv=> ?_);obtain⟨le6,g10,rfl,⟨ng10,lg10⟩,mg10⟩:=hv;rw[cS.2];refine U8 ?_;have tl6:=View.le_trans tl5 le6;have hD6:=hD5.le le6;have hE6:=hE5.le le6;have hG6:=IA hG tl6;refine U ?_;refine Tc.db (R':= [(1,.pointer (some ⟨b1,0,none⟩)),(2,.pointer (some ⟨b2,0,none⟩)),(3,g3.val),(4,.int .i64 0),(5,g5.val),(6,.int .i64 2),(7,.int .i64 0),(8,g8.val),(9,.int .i64 0),(10,g10.val),(11,.int .i64 0),(12,.int .i64 0)]) (L':= [(b2,true,.cells ⟨(qF.val eA elc eB etc).cells.toList⟩ 45 (0,0)),(b1,true,.cells ⟨(iE.val dA dlc dB dtc).cells.toList⟩ 45 (0,0))]) ?_;have fl6:=fun(H':View) (p1 p2:Nat) (h':H6.le H') (k1:H' p1=some (true,.cells ⟨sA [1,1,2]⟩ 3 (0,0))) (k2:H' p2=some (true,.cells ⟨sA [3,9,9]⟩ 3 (0,0)))=> XV (cO (Mp prog) H' qF eA elc eB etc (hE6.bk.le h') sE (IA hG6 h') (some ⟨p1,0,none⟩) (some ⟨p2,0,none⟩) 3 3 3 3 (jC [1,1,2]) (jC [3,9,9]) (AE [1,1,2] k1) (AE [3,9,9] k2)) EW;refine U2 ?_;refine .e (.bs (zz:=fun p1=> ?_));refine .e (.bs (zz:=fun p2=> ?_));refine .cl (fun H hs=> fl6 H p1 p2 hs.base (hs.get (i:=1) rfl) (hs.get (i:=0) rfl)) ?_;refine U9 ?_;refine Tc.db (R':= [(1,.pointer (some ⟨b1,0,none⟩)),(2,.pointer (some ⟨b2,0,none⟩)),(3,g3.val),(4,.int .i64 0),(5,g5.val),(6,.int .i64 2),(7,.int .i64 0),(8,g8.val),(9,.int .i64 0),(10,g10.val),(11,.int .i64 0),(12,.int .i64 0),(13,mA [50,50]),(14,.int .i64 2),(15,.int .i64 0)]) (L':= [(b2,true,.cells ⟨(qF.val eA elc eB etc).cells.toList⟩ 45 (0,0)),(b1,true,.cells ⟨(iE.val dA dlc dB dtc).cells.toList⟩ 45 (0,0))]) ?_;have fl7:=fun(H':View) (p1 p2:Nat) (h':H6.le H') (k1:H' p1=some (true,.cells ⟨sA [1,1,2]⟩ 3 (0,0))) (k2:H' p2=some (true,.cells ⟨sA [5,9,9]⟩ 3 (0,0)))=> XV (cO (Mp prog) H' qF eA elc eB etc (hE6.bk.le h') sE (IA hG6 h') (some ⟨p1,0,none⟩) (some ⟨p2,0,none⟩) 3 3 3 3 (jC [1,1,2]) (jC [5,9,9]) (AE [1,1,2] k1) (AE [5,9,9] k2)) FW;refine U2 ?_;refine .e (.bs (zz:=fun p1=> ?_));refine .e (.bs (zz:=fun p2=> ?_));refine .cl (fun H hs=> fl7 H p1 p2 hs.base (hs.get (i:=1) rfl) (hs.get (i:=0) rfl)) ?_;refine U9 ?_;refine Tc.db (R':= [(1,.pointer (some ⟨b1,0,none⟩)),(2,.pointer (some ⟨b2,0,none⟩)),(3,g3.val),(4,.int .i64 0),(5,g5.val),(6,.int .i64 2),(7,.int .i64 0),(8,g8.val),(9,.int .i64 0),(10,g10.val),(11,.int .i64 0),(12,.int .i64 0),(13,mA [50,50]),(14,.int .i64 2),(15,.int .i64 0),(16,mA [49,49,50]),(17,.int .i64 (-1)),(18,.int .i64 0)]) (L':= [(b2,true,.cells ⟨(qF.val eA elc eB etc).cells.toList⟩ 45 (0,0)),(b1,true,.cells ⟨(iE.val dA dlc dB dtc).cells.toList⟩ 45 (0,0))]) ?_;refine U2 ?_;refine .cl (fun H hs=> XV (aBf H iE dA dlc dB dtc dF dfc (hD6.le hs.base) sD (IA hG6 hs.base) dG) (congrArg aA3 I9)) ?_;refine U9 ?_;refine Tc.db (R':= [(1,.pointer (some ⟨b1,0,none⟩)),(2,.pointer (some ⟨b2,0,none⟩)),(3,g3.val),(4,.int .i64 0),(5,g5.val),(6,.int .i64 2),(7,.int .i64 0),(8,g8.val),(9,.int .i64 0),(10,g10.val),(11,.int .i64 0),(12,.int .i64 0),(13,mA [50,50]),(14,.int .i64 2),(15,.int .i64 0),(16,mA [49,49,50]),(17,.int .i64 (-1)),(18,.int .i64 0),(19,.int .i64 1),(20,.int .i64 1),(21,.int .i64 0)]) (L':= [(b2,true,.cells ⟨(qF.val eA elc eB etc).cells.toList⟩ 45 (0,0)),(b1,true,.cells ⟨(iE.val dA dlc dB dtc).cells.toList⟩ 45 (0,0))]) ?_;refine U2 ?_;refine .cl (fun H hs=> XV (sQ _ H iE dA dlc dB dtc (hD6.bk.le hs.base) sD (IA hG6 hs.base) dG) (congrArg xP J9)) ?_;refine PE ?_;refine Tc.db (R':= [(1,.pointer (some ⟨b1,0,none⟩)),(2,.pointer (some ⟨b2,0,none⟩)),(3,g3.val),(4,.int .i64 0),(5,g5.val),(6,.int .i64 2),(7,.int .i64 0),(8,g8.val),(9,.int .i64 0),(10,g10.val),(11,.int .i64 0),(12,.int .i64 0),(13,mA [50,50]),(14,.int .i64 2),(15,.int .i64 0),(16,mA [49,49,50]),(17,.int .i64 (-1)),(18,.int .i64 0),(19,.int .i64 1),(20,.int .i64 1),(21,.int .i64 0),(22,.int .i64 0),(23,.int .i64 0),(24,.bool false),(25,.int .i64 0)]) (L':= [(b2,true,.cells ⟨(qF.val eA elc eB etc).cells.toList⟩ 45 (0,0)),(b1,true,.cells ⟨(iE.val dA dlc dB dtc).cells.toList⟩ 45 (0,0))]) ?_;refine Tc.aGK (fun H' R' L'=> ∃oA olc oB otc oF ofc b26,H6.le H'/\dC H' QR oA olc oB otc oF ofc/\PB [(1,.pointer (some ⟨b1,0,none⟩)),(2,.pointer (some ⟨b2,0,none⟩)),(3,g3.val),(4,.int .i64 0),(5,g5.val),(6,.int .i64 2),(7,.int .i64 0),(8,g8.val),(9,.int .i64 0),(10,g10.val),(11,.int .i64 0),(12,.int .i64 0),(13,mA [50,50]),(14,.int .i64 2),(15,.int .i64 0),(16,mA [49,49,50]),(17,.int .i64 (-1)),(18,.int .i64 0),(19,.int .i64 1),(20,.int .i64 1),(21,.int .i64 0),(22,.int .i64 0),(23,.int .i64 0),(24,.bool false),(25,.int .i64 0),(26,.pointer (some ⟨b26,0,none⟩)),(27,.int .i64 0)] R'/\List.Sublist [(b26,true,.cells ⟨(QR.val oA olc oB otc).cells.toList⟩ 45 (0,0)),(b2,true,.cells ⟨(qF.val eA elc eB etc).cells.toList⟩ 45 (0,0)),(b1,true,.cells ⟨(iE.val dA dlc dB dtc).cells.toList⟩ 45 (0,0))] L') ?_ (fun fin=> ?_)
 rotate_left
 ·refine Tc.dr [7] [] mixed rfl ?_;refine .q 0 rfl (qA.load (E:=en) 1 rfl rfl rfl rfl rfl) ?_;refine .z 1 rfl (qA.tk fun H hs=> aO _ H 2 6) ?_;refine Ta.aBo 2 6 kR rfl rfl rfl rfl rfl rfl rfl dE (uB.h (F2 _ H6 iE dA dlc dB dtc dF dfc hD6 sD hG6 dG 1 dE 2 2 6 6 QN.1 QN.2)) (by intro _ _ hh;exact hh.1) sL (.inr sL) (fun v Hk hv=> ?_) (GC.mk rfl rfl rfl (.al (zz:=fun b26=> ⟨S2.mk sL (.inr sL),?_⟩)))
  ·obtain⟨lek,oA,olc,oB,otc,oF,ofc,rfl,hO⟩:=hv;refine V2 3 ?_;refine .nw 5 ?_;refine .ea 6 rfl (.al (zz:=fun b26=> ⟨S2.mkL lek sL (.inr sL),?_⟩));refine .ea 7 rfl (Or.storeT (E:=en) 0 rfl rfl rfl rfl rfl rfl rfl rfl rfl rfl rfl ⟨S2.mkL lek sL (.inl kR),?_⟩);refine .nw 8 ?_;refine .dn ?_;exact fin _ _ _ ⟨oA,olc,oB,otc,oF,ofc,b26,lek,hO,⟨rfl,rfl,rfl,rfl,rfl,rfl,rfl,rfl,rfl,rfl,rfl,rfl,rfl,rfl,rfl,rfl,rfl,rfl,rfl,rfl,rfl,rfl,rfl,rfl,rfl,rfl,rfl,trivial⟩,sL⟩
  ·refine Ta.C3 2 kR rfl rfl rfl rfl rfl rfl rfl dE (uB.h (F2 _ H6 iE dA dlc dB dtc dF dfc hD6 sD hG6 dG 1 dE 2 2 6 6 QN.1 QN.2)) (by intro _ _ hh;exact hh.1) sL (.inr sL) (fun v Hk hv=> ?_);obtain⟨lek,oA,olc,oB,otc,oF,ofc,rfl,hO⟩:=hv;refine V2 3 ?_;refine .nw 5 ?_;refine .ea 7 rfl (Or.storeT (E:=en) 0 rfl rfl rfl rfl rfl rfl rfl rfl rfl rfl rfl ⟨S2.mkL lek sL (.inl kR),?_⟩);refine .nw 8 ?_;refine .dn ?_;exact fin _ _ _ ⟨oA,olc,oB,otc,oF,ofc,b26,lek,hO,⟨rfl,rfl,rfl,rfl,rfl,rfl,rfl,rfl,rfl,rfl,rfl,rfl,rfl,rfl,rfl,rfl,rfl,rfl,rfl,rfl,rfl,rfl,rfl,rfl,rfl,rfl,rfl,trivial⟩,sL⟩
 rintro H7 R' L' ⟨oA,olc,oB,otc,oF,ofc,b26,le7,hO7,hR,hL⟩;have tl7:=View.le_trans tl6 le7;have hD7:=hD6.le le7;have hE7:=hE6.le le7;have hG7:=IA hG tl7;refine Tc.rC (R':= [(1,.pointer (some ⟨b1,0,none⟩)),(2,.pointer (some ⟨b2,0,none⟩)),(3,g3.val),(4,.int .i64 0),(5,g5.val),(6,.int .i64 2),(7,.int .i64 0),(8,g8.val),(9,.int .i64 0),(10,g10.val),(11,.int .i64 0),(12,.int .i64 0),(13,mA [50,50]),(14,.int .i64 2),(15,.int .i64 0),(16,mA [49,49,50]),(17,.int .i64 (-1)),(18,.int .i64 0),(19,.int .i64 1),(20,.int .i64 1),(21,.int .i64 0),(22,.int .i64 0),(23,.int .i64 0),(24,.bool false),(25,.int .i64 0),(26,.pointer (some ⟨b26,0,none⟩)),(27,.int .i64 0)]) (L':= [(b26,true,.cells ⟨(QR.val oA olc oB otc).cells.toList⟩ 45 (0,0)),(b2,true,.cells ⟨(qF.val eA elc eB etc).cells.toList⟩ 45 (0,0)),(b1,true,.cells ⟨(iE.val dA dlc dB dtc).cells.toList⟩ 45 (0,0))]) ?_ hR hL;refine U3 ?_;refine .cl (fun H hs=> XV (sQ _ H QR oA olc oB otc (hO7.bk.le hs.base) sO (IA hG7 hs.base) aBm) (congrArg xP K9)) ?_;refine PE ?_;refine Tc.db (R':= [(1,.pointer (some ⟨b1,0,none⟩)),(2,.pointer (some ⟨b2,0,none⟩)),(3,g3.val),(4,.int .i64 0),(5,g5.val),(6,.int .i64 2),(7,.int .i64 0),(8,g8.val),(9,.int .i64 0),(10,g10.val),(11,.int .i64 0),(12,.int .i64 0),(13,mA [50,50]),(14,.int .i64 2),(15,.int .i64 0),(16,mA [49,49,50]),(17,.int .i64 (-1)),(18,.int .i64 0),(19,.int .i64 1),(20,.int .i64 1),(21,.int .i64 0),(22,.int .i64 0),(23,.int .i64 0),(24,.bool false),(25,.int .i64 0),(26,.pointer (some ⟨b26,0,none⟩)),(27,.int .i64 0),(28,.int .i64 2),(29,.int .i64 0),(30,.bool true),(31,.int .i64 0)]) (L':= [(b26,true,.cells ⟨(QR.val oA olc oB otc).cells.toList⟩ 45 (0,0)),(b2,true,.cells ⟨(qF.val eA elc eB etc).cells.toList⟩ 45 (0,0)),(b1,true,.cells ⟨(iE.val dA dlc dB dtc).cells.toList⟩ 45 (0,0))]) ?_;have e2:iE.FF 1 (iE.nf 1)=2:=BO.2;refine U2 ?_;refine To.vB rfl rfl rfl rfl rfl rfl dE (uB.h (Q8 _ H7 iE dA dlc dB dtc hD7.bk sD hG7 dG 1 dE)) (fun v H8 hv=> ?_);obtain⟨le8,g32,rfl,⟨ng32,lg32⟩,mg32⟩:=hv;rw[e2];refine U8 ?_;have tl8:=View.le_trans tl7 le8;have hD8:=hD7.le le8;have hE8:=hE7.le le8;have hO8:=hO7.le le8;have hG8:=IA hG tl8;refine U ?_;refine Tc.db (R':= [(1,.pointer (some ⟨b1,0,none⟩)),(2,.pointer (some ⟨b2,0,none⟩)),(3,g3.val),(4,.int .i64 0),(5,g5.val),(6,.int .i64 2),(7,.int .i64 0),(8,g8.val),(9,.int .i64 0),(10,g10.val),(11,.int .i64 0),(12,.int .i64 0),(13,mA [50,50]),(14,.int .i64 2),(15,.int .i64 0),(16,mA [49,49,50]),(17,.int .i64 (-1)),(18,.int .i64 0),(19,.int .i64 1),(20,.int .i64 1),(21,.int .i64 0),(22,.int .i64 0),(23,.int .i64 0),(24,.bool false),(25,.int .i64 0),(26,.pointer (some ⟨b26,0,none⟩)),(27,.int .i64 0),(28,.int .i64 2),(29,.int .i64 0),(30,.bool true),(31,.int .i64 0),(32,g32.val),(33,.int .i64 2),(34,.int .i64 0)]) (L':= [(b26,true,.cells ⟨(QR.val oA olc oB otc).cells.toList⟩ 45 (0,0)),(b2,true,.cells ⟨(qF.val eA elc eB etc).cells.toList⟩ 45 (0,0)),(b1,true,.cells ⟨(iE.val dA dlc dB dtc).cells.toList⟩ 45 (0,0))]) ?_;refine U2 ?_;refine To.vB rfl rfl rfl rfl rfl rfl dE (uB.h (L8 _ H8 iE dA dlc dB dtc hD8.bk sD hG8 dG 0 dE)) (fun v H9 hv=> ?_);obtain⟨le9,g35,sm,rfl,⟨st1,st2⟩,⟨ng35,lg35⟩,mg35⟩:=hv;have e35:jB sm sm.length= [1,2]:=by rw[st1.len,S5 rfl st1 st2];exact I4
 rw[e35] at ng35 lg35;refine U6 ?_;have tl9:=View.le_trans tl8 le9;have hD9:=hD8.le le9;have hE9:=hE8.le le9;have hO9:=hO8.le le9;have hG9:=IA hG tl9;refine U ?_;refine Tc.db (R':= [(1,.pointer (some ⟨b1,0,none⟩)),(2,.pointer (some ⟨b2,0,none⟩)),(3,g3.val),(4,.int .i64 0),(5,g5.val),(6,.int .i64 2),(7,.int .i64 0),(8,g8.val),(9,.int .i64 0),(10,g10.val),(11,.int .i64 0),(12,.int .i64 0),(13,mA [50,50]),(14,.int .i64 2),(15,.int .i64 0),(16,mA [49,49,50]),(17,.int .i64 (-1)),(18,.int .i64 0),(19,.int .i64 1),(20,.int .i64 1),(21,.int .i64 0),(22,.int .i64 0),(23,.int .i64 0),(24,.bool false),(25,.int .i64 0),(26,.pointer (some ⟨b26,0,none⟩)),(27,.int .i64 0),(28,.int .i64 2),(29,.int .i64 0),(30,.bool true),(31,.int .i64 0),(32,g32.val),(33,.int .i64 2),(34,.int .i64 0),(35,g35.val),(36,.int .i64 0)]) (L':= [(b26,true,.cells ⟨(QR.val oA olc oB otc).cells.toList⟩ 45 (0,0)),(b2,true,.cells ⟨(qF.val eA elc eB etc).cells.toList⟩ 45 (0,0)),(b1,true,.cells ⟨(iE.val dA dlc dB dtc).cells.toList⟩ 45 (0,0))]) ?_;refine U2 ?_;refine .cl (fun H hs=> XV (P2 _ H iE dA dlc dB dtc (hD9.bk.le hs.base) sD (IA hG9 hs.base) [51] dE) F4) ?_;refine U7 ?_;refine Tc.db (R':= [(1,.pointer (some ⟨b1,0,none⟩)),(2,.pointer (some ⟨b2,0,none⟩)),(3,g3.val),(4,.int .i64 0),(5,g5.val),(6,.int .i64 2),(7,.int .i64 0),(8,g8.val),(9,.int .i64 0),(10,g10.val),(11,.int .i64 0),(12,.int .i64 0),(13,mA [50,50]),(14,.int .i64 2),(15,.int .i64 0),(16,mA [49,49,50]),(17,.int .i64 (-1)),(18,.int .i64 0),(19,.int .i64 1),(20,.int .i64 1),(21,.int .i64 0),(22,.int .i64 0),(23,.int .i64 0),(24,.bool false),(25,.int .i64 0),(26,.pointer (some ⟨b26,0,none⟩)),(27,.int .i64 0),(28,.int .i64 2),(29,.int .i64 0),(30,.bool true),(31,.int .i64 0),(32,g32.val),(33,.int .i64 2),(34,.int .i64 0),(35,g35.val),(36,.int .i64 0),(37,.bool false),(38,.int .i64 0)]) (L':= [(b26,true,.cells ⟨(QR.val oA olc oB otc).cells.toList⟩ 45 (0,0)),(b2,true,.cells ⟨(qF.val eA elc eB etc).cells.toList⟩ 45 (0,0)),(b1,true,.cells ⟨(iE.val dA dlc dB dtc).cells.toList⟩ 45 (0,0))]) ?_;refine U2 ?_;refine .cl (fun H hs=> XV (P2 _ H iE dA dlc dB dtc (hD9.bk.le hs.base) sD (IA hG9 hs.base) [53] dE) G4) ?_;refine U7 ?_;refine Tc.db (R':= [(1,.pointer (some ⟨b1,0,none⟩)),(2,.pointer (some ⟨b2,0,none⟩)),(3,g3.val),(4,.int .i64 0),(5,g5.val),(6,.int .i64 2),(7,.int .i64 0),(8,g8.val),(9,.int .i64 0),(10,g10.val),(11,.int .i64 0),(12,.int .i64 0),(13,mA [50,50]),(14,.int .i64 2),(15,.int .i64 0),(16,mA [49,49,50]),(17,.int .i64 (-1)),(18,.int .i64 0),(19,.int .i64 1),(20,.int .i64 1),(21,.int .i64 0),(22,.int .i64 0),(23,.int .i64 0),(24,.bool false),(25,.int .i64 0),(26,.pointer (some ⟨b26,0,none⟩)),(27,.int .i64 0),(28,.int .i64 2),(29,.int .i64 0),(30,.bool true),(31,.int .i64 0),(32,g32.val),(33,.int .i64 2),(34,.int .i64 0),(35,g35.val),(36,.int .i64 0),(37,.bool false),(38,.int .i64 0),(39,.bool true),(40,.int .i64 0)]) (L':= [(b26,true,.cells ⟨(QR.val oA olc oB otc).cells.toList⟩ 45 (0,0)),(b2,true,.cells ⟨(qF.val eA elc eB etc).cells.toList⟩ 45 (0,0)),(b1,true,.cells ⟨(iE.val dA dlc dB dtc).cells.toList⟩ 45 (0,0))]) ?_;refine U2 ?_;refine .cl (fun H hs=> XV (P8 _ H iE dA dlc dB dtc (hD9.bk.le hs.base) sD (IA hG9 hs.base) 1 true) J4) ?_;refine U9 ?_;refine Tc.db (R':= [(1,.pointer (some ⟨b1,0,none⟩)),(2,.pointer (some ⟨b2,0,none⟩)),(3,g3.val),(4,.int .i64 0),(5,g5.val),(6,.int .i64 2),(7,.int .i64 0),(8,g8.val),(9,.int .i64 0),(10,g10.val),(11,.int .i64 0),(12,.int .i64 0),(13,mA [50,50]),(14,.int .i64 2),(15,.int .i64 0),(16,mA [49,49,50]),(17,.int .i64 (-1)),(18,.int .i64 0),(19,.int .i64 1),(20,.int .i64 1),(21,.int .i64 0),(22,.int .i64 0),(23,.int .i64 0),(24,.bool false),(25,.int .i64 0),(26,.pointer (some ⟨b26,0,none⟩)),(27,.int .i64 0),(28,.int .i64 2),(29,.int .i64 0),(30,.bool true),(31,.int .i64 0),(32,g32.val),(33,.int .i64 2),(34,.int .i64 0),(35,g35.val),(36,.int .i64 0),(37,.bool false),(38,.int .i64 0),(39,.bool true),(40,.int .i64 0),(41,mA [48]),(42,.bool true),(43,.int .i64 0)]) (L':= [(b26,true,.cells ⟨(QR.val oA olc oB otc).cells.toList⟩ 45 (0,0)),(b2,true,.cells ⟨(qF.val eA elc eB etc).cells.toList⟩ 45 (0,0)),(b1,true,.cells ⟨(iE.val dA dlc dB dtc).cells.toList⟩ 45 (0,0))]) ?_;refine U ?_;refine .cl (fun H hs=> XV (O2 _ H [49,50,48] dE) AZ) ?_;refine U7 ?_;refine Tc.db (R':= [(1,.pointer (some ⟨b1,0,none⟩)),(2,.pointer (some ⟨b2,0,none⟩)),(3,g3.val),(4,.int .i64 0),(5,g5.val),(6,.int .i64 2),(7,.int .i64 0),(8,g8.val),(9,.int .i64 0),(10,g10.val),(11,.int .i64 0),(12,.int .i64 0),(13,mA [50,50]),(14,.int .i64 2),(15,.int .i64 0),(16,mA [49,49,50]),(17,.int .i64 (-1)),(18,.int .i64 0),(19,.int .i64 1),(20,.int .i64 1),(21,.int .i64 0),(22,.int .i64 0),(23,.int .i64 0),(24,.bool false),(25,.int .i64 0),(26,.pointer (some ⟨b26,0,none⟩)),(27,.int .i64 0),(28,.int .i64 2),(29,.int .i64 0),(30,.bool true),(31,.int .i64 0),(32,g32.val),(33,.int .i64 2),(34,.int .i64 0),(35,g35.val),(36,.int .i64 0),(37,.bool false),(38,.int .i64 0),(39,.bool true),(40,.int .i64 0),(41,mA [48]),(42,.bool true),(43,.int .i64 0),(44,.int .i64 13),(45,.int .i64 0)]) (L':= [(b26,true,.cells ⟨(QR.val oA olc oB otc).cells.toList⟩ 45 (0,0)),(b2,true,.cells ⟨(qF.val eA elc eB etc).cells.toList⟩ 45 (0,0)),(b1,true,.cells ⟨(iE.val dA dlc dB dtc).cells.toList⟩ 45 (0,0))]) ?_;refine U ?_;refine .e (.bs (zz:=fun bw=> ?_));refine To.aCq (L₁:= [(b26,true,.cells ⟨(QR.val oA olc oB otc).cells.toList⟩ 45 (0,0)),(b2,true,.cells ⟨(qF.val eA elc eB etc).cells.toList⟩ 45 (0,0)),(b1,true,.cells ⟨(iE.val dA dlc dB dtc).cells.toList⟩ 45 (0,0))]++[(bw,true,.cells ⟨sA [5,3,1]⟩ 3 (0,0))]) (by exact List.perm_append_comm) ?_;refine To.lift (L₂:= [(b26,true,.cells ⟨(QR.val oA olc oB otc).cells.toList⟩ 45 (0,0)),(b2,true,.cells ⟨(qF.val eA elc eB etc).cells.toList⟩ 45 (0,0)),(b1,true,.cells ⟨(iE.val dA dlc dB dtc).cells.toList⟩ 45 (0,0))]) (L₁:= [(bw,true,.cells ⟨sA [5,3,1]⟩ 3 (0,0))]) rfl (fun H10 hw=> ?_);have le10:=hw.base;have tl10:=View.le_trans tl9 le10;have aFR:=hD9.le le10;have aFT:=hE9.le le10;have aFV:=hO9.le le10;have aGR:=IA hG tl10;obtain⟨xc1,xc2,xc3,xc4,xc5⟩:=E4;have al5:(aI (jC [5,3,1]) 3 2 2).al=0:=by unfold RG.al;rw[xc4];rfl
 refine To.vB rfl rfl rfl rfl rfl rfl dE (uB.h (YV _ H10 (some ⟨bw,0,none⟩) 3 3 (jC [5,3,1]) (AE [5,3,1] (hw.get (i:=0) rfl)) 2 2 dE xc2 dE dE)) (fun v H11 hv=> ?_);obtain⟨le11,ca,cn,cc,rfl,cn1,cs1⟩:=hv;rw[xc5] at cn1 cs1;rw[xc3,al5];refine U8 ?_;have tl11:=View.le_trans tl10 le11;have aGP:=aFR.le le11;have aGQ:=aFT.le le11;have aGT:=aFV.le le11;have aGS:=IA hG tl11;refine U2 ?_;refine Tc.rC (R':= [(1,.pointer (some ⟨b1,0,none⟩)),(2,.pointer (some ⟨b2,0,none⟩)),(3,g3.val),(4,.int .i64 0),(5,g5.val),(6,.int .i64 2),(7,.int .i64 0),(8,g8.val),(9,.int .i64 0),(10,g10.val),(11,.int .i64 0),(12,.int .i64 0),(13,mA [50,50]),(14,.int .i64 2),(15,.int .i64 0),(16,mA [49,49,50]),(17,.int .i64 (-1)),(18,.int .i64 0),(19,.int .i64 1),(20,.int .i64 1),(21,.int .i64 0),(22,.int .i64 0),(23,.int .i64 0),(24,.bool false),(25,.int .i64 0),(26,.pointer (some ⟨b26,0,none⟩)),(27,.int .i64 0),(28,.int .i64 2),(29,.int .i64 0),(30,.bool true),(31,.int .i64 0),(32,g32.val),(33,.int .i64 2),(34,.int .i64 0),(35,g35.val),(36,.int .i64 0),(37,.bool false),(38,.int .i64 0),(39,.bool true),(40,.int .i64 0),(41,mA [48]),(42,.bool true),(43,.int .i64 0),(44,.int .i64 13),(45,.int .i64 0),(46,.slice ca cn cc),(47,.int .i64 18),(48,.int .i64 0)]) (L':= [(b26,true,.cells ⟨(QR.val oA olc oB otc).cells.toList⟩ 45 (0,0)),(b2,true,.cells ⟨(qF.val eA elc eB etc).cells.toList⟩ 45 (0,0)),(b1,true,.cells ⟨(iE.val dA dlc dB dtc).cells.toList⟩ 45 (0,0))]) ?_ ⟨rfl,rfl,rfl,rfl,rfl,rfl,rfl,rfl,rfl,rfl,rfl,rfl,rfl,rfl,rfl,rfl,rfl,rfl,rfl,rfl,rfl,rfl,rfl,rfl,rfl,rfl,rfl,rfl,rfl,rfl,rfl,rfl,rfl,rfl,rfl,rfl,rfl,rfl,rfl,rfl,rfl,rfl,rfl,rfl,rfl,rfl,rfl,rfl,trivial⟩ sL;(iterate 72 refine U ?_);refine Tc.db (R':= [(1,.pointer (some ⟨b1,0,none⟩)),(2,.pointer (some ⟨b2,0,none⟩)),(3,g3.val),(4,.int .i64 0),(5,g5.val),(6,.int .i64 2),(7,.int .i64 0),(8,g8.val),(9,.int .i64 0),(10,g10.val),(11,.int .i64 0),(12,.int .i64 0),(13,mA [50,50]),(14,.int .i64 2),(15,.int .i64 0),(16,mA [49,49,50]),(17,.int .i64 (-1)),(18,.int .i64 0),(19,.int .i64 1),(20,.int .i64 1),(21,.int .i64 0),(22,.int .i64 0),(23,.int .i64 0),(24,.bool false),(25,.int .i64 0),(26,.pointer (some ⟨b26,0,none⟩)),(27,.int .i64 0),(28,.int .i64 2),(29,.int .i64 0),(30,.bool true),(31,.int .i64 0),(32,g32.val),(33,.int .i64 2),(34,.int .i64 0),(35,g35.val),(36,.int .i64 0),(37,.bool false),(38,.int .i64 0),(39,.bool true),(40,.int .i64 0),(41,mA [48]),(42,.bool true),(43,.int .i64 0),(44,.int .i64 13),(45,.int .i64 0),(46,.slice ca cn cc),(47,.int .i64 18),(48,.int .i64 0)]) (L':= [(b26,true,.cells ⟨(QR.val oA olc oB otc).cells.toList⟩ 45 (0,0)),(b2,true,.cells ⟨(qF.val eA elc eB etc).cells.toList⟩ 45 (0,0)),(b1,true,.cells ⟨(iE.val dA dlc dB dtc).cells.toList⟩ 45 (0,0))]) ?_;have up:∀ {A B C:View},A.le B->B.le C->A.le C:=View.le_trans;have w3:=fun(H':View) (h':H11.le H') (bs:Nat) (k1:H' bs=some (true,.cells ⟨GB [[49,50],[49,51]]⟩ 9 (0,0)))=> uI (Mp prog) H' (g3.blk.map fun b=> ⟨b,0,none⟩) (some ⟨bs,0,none⟩) g3.n ([[49,50],[49,51]]:List (List UInt8)).length g3.cap ([[49,50],[49,51]]:List (List UInt8)).length _ _ (EJ (g0:=g3) g3 (fun x hx=> h' _ _ ((up (up (up (up (up (up (up le4 le5) le6) le7) le8) le9) le10) le11) _ _ (mg3 x hx).1)) lg3 rfl rfl) (FP [[49,50],[49,51]] k1) (by rw[ng3];decide) dE true (EK [[49,50],[49,51]] ng3);have w8:=fun(H':View) (h':H11.le H') (bs:Nat) (k1:H' bs=some (true,.cells ⟨GB [[49,49,50],[50,50]]⟩ 9 (0,0)))=> uI (Mp prog) H' (g8.blk.map fun b=> ⟨b,0,none⟩) (some ⟨bs,0,none⟩) g8.n ([[49,49,50],[50,50]]:List (List UInt8)).length g8.cap ([[49,49,50],[50,50]]:List (List UInt8)).length _ _ (EJ (g0:=g8) g8 (fun x hx=> h' _ _ ((up (up (up (up (up le6 le7) le8) le9) le10) le11) _ _ (mg8 x hx).1)) lg8 rfl rfl) (FP [[49,49,50],[50,50]] k1) (by rw[ng8];decide) dE true (EK [[49,49,50],[50,50]] ng8);have c5:=fun(H':View) (h':H11.le H') (bs:Nat) (k1:H' bs=some (true,.cells ⟨sA [0,0,2]⟩ 110 (0,0)))=> qO (Mp prog) H' (g5.blk.map fun b=> ⟨b,0,none⟩) (some ⟨bs,0,none⟩) g5.n ([0,0,2]:List Int).length g5.cap ([0,0,2]:List Int).length (fun i=> iE.IC (i:Nat)) _ (by rw[ng5];exact fU g5 (fun x hx=> h' _ _ ((up (up (up (up (up (up le5 le6) le7) le8) le9) le10) le11) _ _ (mg5 x hx).1)) lg5 ng5) (AE [0,0,2] k1) (by rw[ng5];decide) dE true (by rw[ng5];rw[decide_eq_true (by rfl)];show(true&&bG _ 3)=true;rw[(DD _).2 (three (decide_eq_true bS.1.1) (decide_eq_true bS.1.2.1) (decide_eq_true bS.1.2.2))];rfl);have c10:=fun(H':View) (h':H11.le H') (bs:Nat) (k1:H' bs=some (true,.cells ⟨sA [2,2,0]⟩ 110 (0,0)))=> qO (Mp prog) H' (g10.blk.map fun b=> ⟨b,0,none⟩) (some ⟨bs,0,none⟩) g10.n ([2,2,0]:List Int).length g10.cap ([2,2,0]:List Int).length (fun i=> qF.IC (i:Nat)) _ (by rw[ng10];exact fU g10 (fun x hx=> h' _ _ ((up (up (up (up le7 le8) le9) le10) le11) _ _ (mg10 x hx).1)) lg10 ng10) (AE [2,2,0] k1) (by rw[ng10];decide) dE true (by rw[ng10];rw[decide_eq_true (by rfl)];show(true&&bG _ 3)=true;rw[(DD _).2 (three (decide_eq_true cS.1.1) (decide_eq_true cS.1.2.1) (decide_eq_true cS.1.2.2))];rfl);refine U2 ?_;refine .e (.bs (zz:=fun x1=> ?_));refine .cl (fun H hs=> w3 H hs.base x1 (hs.get (i:=0) rfl)) ?_;refine U3 ?_;refine .e (.bs (zz:=fun x2=> ?_));refine .cl (fun H hs=> c5 H hs.base x2 (hs.get (i:=0) rfl)) ?_;refine U8 ?_;refine .e (.bs (zz:=fun x3=> ?_));refine .cl (fun H hs=> w8 H hs.base x3 (hs.get (i:=0) rfl)) ?_;refine U4 ?_;refine .e (.bs (zz:=fun x4=> ?_));refine .cl (fun H hs=> c10 H hs.base x4 (hs.get (i:=0) rfl)) ?_;refine U37 ?_;refine Tc.db (R':= [(1,.pointer (some ⟨b1,0,none⟩)),(2,.pointer (some ⟨b2,0,none⟩)),(3,g3.val),(4,.int .i64 0),(5,g5.val),(6,.int .i64 2),(7,.int .i64 0),(8,g8.val),(9,.int .i64 0),(10,g10.val),(11,.int .i64 0),(12,.int .i64 0),(13,mA [50,50]),(14,.int .i64 2),(15,.int .i64 0),(16,mA [49,49,50]),(17,.int .i64 (-1)),(18,.int .i64 0),(19,.int .i64 1),(20,.int .i64 1),(21,.int .i64 0),(22,.int .i64 0),(23,.int .i64 0),(24,.bool false),(25,.int .i64 0),(26,.pointer (some ⟨b26,0,none⟩)),(27,.int .i64 0),(28,.int .i64 2),(29,.int .i64 0),(30,.bool true),(31,.int .i64 0),(32,g32.val),(33,.int .i64 2),(34,.int .i64 0),(35,g35.val),(36,.int .i64 0),(37,.bool false),(38,.int .i64 0),(39,.bool true),(40,.int .i64 0),(41,mA [48]),(42,.bool true),(43,.int .i64 0),(44,.int .i64 13),(45,.int .i64 0),(46,.slice ca cn cc),(47,.int .i64 18),(48,.int .i64 0)]) (L':= [(b26,true,.cells ⟨(QR.val oA olc oB otc).cells.toList⟩ 45 (0,0)),(b2,true,.cells ⟨(qF.val eA elc eB etc).cells.toList⟩ 45 (0,0)),(b1,true,.cells ⟨(iE.val dA dlc dB dtc).cells.toList⟩ 45 (0,0))]) ?_;have c32:=fun(H':View) (h':H11.le H') (bs:Nat) (k1:H' bs=some (true,.cells ⟨sA [2,0]⟩ 110 (0,0)))=> qO (Mp prog) H' (g32.blk.map fun b=> ⟨b,0,none⟩) (some ⟨bs,0,none⟩) g32.n ([2,0]:List Int).length g32.cap ([2,0]:List Int).length (iE.TF 1) _ (by rw[ng32];exact fU g32 (fun x hx=> h' _ _ ((up (up le9 le10) le11) _ _ (mg32 x hx).1)) lg32 ng32) (AE [2,0] k1) (by rw[ng32];decide) dE true (by rw[ng32];rw[decide_eq_true (by rfl)];show(true&&bG _ 2)=true;rw[(DD _).2 (two (decide_eq_true BO.1.1) (decide_eq_true BO.1.2))];rfl);have n35:=fun(H':View) (h':H11.le H') (bs:Nat) (k1:H' bs=some (true,.cells ⟨sA [1,2]⟩ 3 (0,0)))=> PT (Mp prog) H' (g35.blk.map fun b=> ⟨b,0,none⟩) (some ⟨bs,0,none⟩) 2 g35.cap 2 (jC [1,2]) (jC [1,2]) (fU g35 (fun x hx=> h' _ _ ((up le10 le11) _ _ (mg35 x hx).1)) (lg35.trans (P3 _)) ng35) (AE [1,2] k1) dE (fun _ _=> rfl);have w46:=fun(H':View) (h':H11.le H') (bs:Nat) (k1:H' bs=some (true,.cells ⟨GB [[49],[50,49],[50,50]]⟩ 9 (0,0)))=> uI (Mp prog) H' ca (some ⟨bs,0,none⟩) cn ([[49],[50,49],[50,50]]:List (List UInt8)).length cc ([[49],[50,49],[50,50]]:List (List UInt8)).length _ _ (B7 (cs1.mono (View.le_trans (View.le_refl H11) h')) cn1) (FP [[49],[50,49],[50,50]] k1) (by rw[cn1];decide) dE true (EK [[49],[50,49],[50,50]] cn1);rw[show g35.val=.slice (g35.blk.map fun b=> ⟨b,0,none⟩) 2 g35.cap by unfold Gl.val;rw[ng35];rfl];refine NF ?_;refine .e (.bs (zz:=fun y1=> ?_));refine .cl (fun H hs=> c32 H hs.base y1 (hs.get (i:=0) rfl)) ?_;refine U7 ?_;refine .e (.bs (zz:=fun y2=> ?_));refine .cl (fun H hs=> n35 H hs.base y2 (hs.get (i:=0) rfl)) ?_;refine QT ?_;refine .e (.bs (zz:=fun y3=> ?_));refine .cl (fun H hs=> w46 H hs.base y3 (hs.get (i:=0) rfl)) ?_;refine U7 ?_;refine .rt hK func15 results15 [_] ?_;exact fun H' hs=> ⟨View.le_trans tl11 hs.base,rfl⟩
set_option maxHeartbeats 8000000
theorem EO {p:Nat->Bool}:∀n {i:Nat},jA p n=some i->i<n
 | 0,_,h=> by cases h
 | n + 1,i,h=> by
  rw[jA] at h;cases e:jA p n with
  | some j=>
   rw[e] at h;have:=EO n e;cases h
   omega
  | none=>
   rw[e] at h;by_cases hp:p n=true
   ·rw[if_pos hp] at h;cases h
    omega
   ·rw[if_neg hp] at h;cases h
def quadV(x:Int×Int×Int×Int):List Value:= [.int .i64 x.1,.int .i64 x.2.1,.int .i64 x.2.2.1,.int .i64 x.2.2.2]
def quadsV(l:List (Int×Int×Int×Int)):List Value:=l.flatMap quadV
theorem tX(l m:List (Int×Int×Int×Int)):quadsV (l++m)=quadsV l++quadsV m:=by unfold quadsV;rw[List.flatMap_append]
abbrev Quad:=Int×Int×Int×Int
def QuadsAt(H:View)(A:Option Addr)(l:List Quad):Prop:=
 l= []\/∃b o f gs gt gz,A=some ⟨b,o,none⟩/\H b=some (f,.cells ⟨gs⟩ gt gz)/\∀(j:Nat) x,l[j]? =some x->gD true 4 gs (o+(j:Int).toNat*4)=some (UC x.1 x.2.1 x.2.2.1 x.2.2.2)
theorem zM:∀l,(quadsV l).length=l.length*4
 | []=> rfl
 | x::t=> by
  have:=zM t;show(quadV x++quadsV t).length=_;rw[List.length_append,this,List.length_cons];show 4+_=_;omega
theorem qP:∀(l:List Quad) (j:Nat) x (rest:List Value),l[j]? =some x->((quadsV l++rest).drop (j*4)).take 4=quadV x
 | [],_,_,_,h=> by cases h
 | y::t,0,x,rest,h=> by
  cases h
  show((quadV y++quadsV t)++rest).take 4=_;rw[List.append_assoc];rfl
 | y::t,j+1,x,rest,h=> by
  have:=qP t j x rest h;show(((quadV y++quadsV t)++rest).drop ((j+1)*4)).take 4=_;rw[List.append_assoc,show(j+1)*4=4+j*4 by omega,<-List.drop_drop];exact this
theorem T6(g:Gl 39 4){H:View}(h:∀x∈g.bl,H x.1=some x.2){l:List Quad}(hl:g.l=quadsV l):QuadsAt H (g.blk.map fun b=> ⟨b,0,none⟩) l:=by
 have TN:=g.hl;rw[hl,zM] at TN;cases EH:g.blk with
 | none=>
  have:=g.h0 EH;have:=g.hc;exact .inl (List.eq_nil_of_length_eq_zero oM)
 | some b=>
  have YJ:g.bl= [(b,true,.cells ⟨g.l++g.qB⟩ 39 (0,0))]:=by unfold Gl.bl;rw[EH]
  refine .inr ⟨b,0,true,_,39,(0,0),rfl,h (b,true,.cells ⟨g.l++g.qB⟩ 39 (0,0)) (by rw[YJ];simp),fun j x hx=> ?_⟩;have I1:=(List.getElem?_eq_some_iff.1 hx).1;rw[Nat.zero_add,Int.toNat_natCast];unfold gD;have hlen:j*4+4<=(g.l++g.qB).length:=by rw[List.length_append,hl,zM];omega
  rw[show Nat.ble (j*4+4) (g.l++g.qB).length=true from Nat.ble_eq_true_of_le hlen,hl];simp only[qP l j x g.qB hx];rfl
theorem gL {p:Nat->Bool}:∀n {i:Nat},jA p n=some i->p i=true
 | 0,_,h=> by cases h
 | n + 1,i,h=> by
  rw[jA] at h;cases e:jA p n with
  | some j=>
   rw[e] at h;have:=gL n e;cases h
   exact this
  | none=>
   rw[e] at h;by_cases hp:p n=true
   ·rw[if_pos hp] at h;cases h
    exact hp
   ·rw[if_neg hp] at h;cases h
theorem iS {p:Nat->Bool}{n w:Nat}(hw:w<n)(h:p w=true)(h2:∀i,i<n->p i=true->i=w):jA p n=some w:=by
 cases e:jA p n with
 | none=> have:=(kB n).1 e w hw;rw[h] at this;cases this
 | some j=> rw[h2 j (EO n e) (gL n e)]
theorem xH {s p:List UInt8}:pB s p=true<->p <+:s:=by
 unfold pB;rw[Bool.and_eq_true,decide_eq_true_eq,beq_iff_eq,List.prefix_iff_eq_take];constructor
 ·exact fun h=> h.2.symm
 ·intro h;refine⟨?_,h.symm⟩;have:=congrArg List.length h;rw[List.length_take] at this;omega
theorem Y3 {n:Nat}(_:1<=n/\n<=10):(tE n).toNat=48+n%10:=by
 unfold tE;rw[UInt8.toNat_ofNat'];have:n%10<10:=Nat.mod_lt _ dE;omega
theorem aBv {x:UInt8}(h:BD x=true):tE (pn x)=x:=by
 have h1:=of_decide_eq_true h;apply UInt8.toNat_inj.1
 rw[Y3 (oP h)];unfold pn;split <;> omega
theorem Bk.apart {k:Bk}(ha:k.WA=0){i j:Nat}(hi:i<k.nl)(hj:j<k.nl)(h:k.num i <+:k.num j):i=j:=by
 have hc:∀a b,a<k.nl->b<a->¬k.num a <+:k.num b/\¬k.num b <+:k.num a:=by
  intro a b hak hba;obtain⟨_,_,_,h4,_⟩:=Bk.IS ha hak;unfold Bk.clash at h4;have h5:jA (fun i=> WB (k.num i) (k.num a)) a=none:=by
   cases e:jA (fun i=> WB (k.num i) (k.num a)) a with
   | none=> rfl
   | some x=> exact absurd h4 (by show ¬(jA (fun i=> WB (k.num i) (k.num a)) a).isSome=false;rw[e];exact fun h=> nomatch h)
  have h6:=(kB a).1 h5 b hba;unfold WB at h6;rw[Bool.or_eq_false_iff] at h6;refine⟨fun h=> ?_,fun h=> ?_⟩
  ·rw[xH.2 h] at h6;cases h6.1
  ·rw[xH.2 h] at h6;cases h6.2
 rcases Nat.lt_trichotomy i j with h1|h1|h1
 ·exact((hc j i hj h1).2 h).elim
 ·exact h1
 ·exact((hc i j hi h1).1 h).elim
theorem Bk.line_is {k:Bk}(ha:k.WA=0){w:Nat}(hw:w<k.nl){s:List UInt8}(h:k.num w <+:s):k.line s=some w:=by
 unfold Bk.line;refine iS hw (xH.2 h) fun i hi h2=> ?_;rcases List.prefix_or_prefix_of_prefix h (xH.1 h2) with h3|h3
 ·exact(Bk.apart ha hw hi h3).symm
 ·exact Bk.apart ha hi hw h3
theorem MY {s:List UInt8}(h:s.all BD=true)(i:Nat):1<=HC s i/\HC s i<=10:=by
 unfold HC;cases e:s[i]? with
 | none=> decide
 | some x=> exact oP (List.all_eq_true.1 h x (List.mem_of_getElem? e))
def dialP(k:Bk)(n:Nat)(pu:Nat->Nat)(P:Int):Bk:= { k with nt:=n,pf:=fun i=> (pu i:Nat),pt:=fun i=> (pu i:Nat),qf:=fun _=> P,qt:=fun _=> P }
theorem UM {k:Bk}(ha:k.WA=0){n:Nat}(hn:n<=6){pu:Nat->Nat}(FZ:∀i,i<n->1<=pu i/\pu i<=10){P:Int}(hP:0<=P/\P<=99):(dialP k n pu P).WA=0:=by
 obtain⟨h1,h2,_⟩:=Bk.fW ha;have e1:(dialP k n pu P).xD=0:=h1;have e2:(dialP k n pu P).LD=0:=h2;have e3:(dialP k n pu P).xC=0:=by
  unfold Bk.xC;have rM:¬6<(dialP k n pu P).nt:=by show ¬6<n;omega
  rw[if_neg rM];have:jA (dialP k n pu P).QB (dialP k n pu P).nt=none:=(kB _).2 fun i hi=> by
   unfold Bk.QB;have hp:=FZ i hi;have:YA ((dialP k n pu P).pf i) ((dialP k n pu P).pt i) ((dialP k n pu P).qf i) ((dialP k n pu P).qt i)=true:=by
    show YA (pu i:Nat) (pu i:Nat) P P=true;unfold YA;simp only[Bool.and_eq_true,decide_eq_true_eq];omega
   rw[this];rfl
  rw[this];rfl
 unfold Bk.WA;rw[if_pos e1,if_pos e2,e3]
theorem kU {k:Bk}{n:Nat}{pu:Nat->Nat}(FZ:∀i,i<n->1<=pu i/\pu i<=10){P:Int}(hP:k.CB<=P/\P<k.TB):∀j,j<=n->(dialP k n pu P).mD (fun i=> (pu i:Nat)) (fun _=> P) j=⟨(List.range j).map fun i=> tE (pu i),0,false⟩
 | 0,_=> rfl
 | j + 1,hj=> by
  have ih:=kU FZ hP j oM;have hkd:(dialP k n pu P).kind P=1:=by
   show(if P<k.CB then 0 else if P<k.TB then 1 else 2)=1;rw[if_neg oM,if_pos hP.2]
  have hp:=FZ j oM;unfold Bk.mD;rw[ih,hkd,Int.toNat_natCast];unfold YF.hear;rw[if_neg (fun h=> nomatch h),if_neg dE,if_neg (by simp only;omega)];simp only[Nat.zero_add];rw[List.range_succ,List.map_append];rfl
theorem XR {k:Bk}(ha:k.WA=0){n:Nat}(hn:n<=6){pu:Nat->Nat}(FZ:∀i,i<n->1<=pu i/\pu i<=10){P:Int}(hP:k.CB<=P/\P<k.TB)(hP2:0<=P/\P<=99):
  (dialP k n pu P).eD n n (fun i=> (pu i:Nat)) (fun _=> P)=dD ((List.range n).map fun i=> tE (pu i)) (iB (k.line ((List.range n).map fun i=> tE (pu i)))) 0:=by
 unfold Bk.eD;rw[if_neg (by rw[UM ha hn FZ hP2];decide),if_neg (by show ¬(n≠n\/n≠n);simp)];have FK:(jA (fun i=> !(dialP k n pu P).JH (fun i=> (pu i:Nat)) (fun _=> P) i) (dialP k n pu P).nt)=none:=(kB _).2 fun i hi=> by
  have:(dialP k n pu P).JH (fun i=> (pu i:Nat)) (fun _=> P) i=true:=by
   show(decide (((pu i:Nat):Int)<=(pu i:Nat)/\((pu i:Nat):Int)<=(pu i:Nat))&&decide (P<=P/\P<=P))=true;rw[decide_eq_true ⟨Int.le_refl _,Int.le_refl _⟩,decide_eq_true ⟨Int.le_refl _,Int.le_refl _⟩];rfl
  simp[this]
 rw[FK,if_neg dE];have e:(dialP k n pu P).nt=n:=rfl;rw[e,kU FZ hP n (Nat.le_refl _)];rfl
def quadP(pu:Nat->Nat)(P:Int)(i:Nat):Int×Int×Int×Int:=((pu i:Nat),(pu i:Nat),P,P)
def quadsP(pu:Nat->Nat)(P:Int)(n:Nat):List Value:=quadsV ((List.range n).map (quadP pu P))
theorem lV(pu:Nat->Nat)(P:Int)(n:Nat):quadsP pu P (n+1)=quadsP pu P n++quadV ((pu n:Nat),(pu n:Nat),P,P):=by
 unfold quadsP;rw[List.range_succ,List.map_append,tX];rfl
theorem aL(k:Bk){n:Nat}{pu:Nat->Nat}{P:Int}{H:View}(g:Gl 39 4)(h:∀x∈g.bl,H x.1=some x.2)(hn:g.n=n)(hl:g.l=quadsP pu P n):tC H (dialP k n pu P) (g.blk.map fun b=> ⟨b,0,none⟩) g.cap:=by
 have hQ:=T6 g h (l:=(List.range n).map (quadP pu P)) hl;refine⟨by have:=g.hc;show n<=_;omega,?_⟩;rcases hQ with h0|⟨b,o,f,gs,gt,gz,h1,h2,h3⟩
 ·exact .inl (by show n=0;have:=congrArg List.length h0;simpa using this)
 ·refine .inr ⟨b,o,f,gs,gt,gz,h1,h2,fun i hi=> ?_⟩;have QQ:i<n:=hi;exact h3 i (quadP pu P i) (by rw[List.getElem?_map,List.getElem?_range QQ];rfl)
end Go.Proofs.YtldmfjcgjdchcaaGreatDoor
namespace Go.Proofs.YtldmfjcgjdchcaaGreatDoor.Sg
open Go.RL Go.Proofs.Tryz
set_option maxHeartbeats 8000000
set_option maxRecDepth 10000
structure Lk.Past(k:Lk)(c:Nat)(a r n:Int)(mv:List Int):Prop where
 send:k.s0<=a/\a<=k.s1
 read:k.r0<=r/\r<=k.r1
 lean:k.l0<=n/\n<=k.l1
 len:mv.length=(iA c 7).length
 mN:∀m∈mv,k.m0<=m/\m<=k.m1
def SC(c:Nat)(a r n:Int)(mv:List Int):Nat:=(⟨c,iA c 7,a,r,n,mv.headD 0,0,0⟩:TA).view mv
theorem TA.fJ {s s':TA}(h1:s.ps=s'.ps)(h2:s.send=s'.send)(h3:s.read=s'.read)(h4:s.lean=s'.lean)(h5:s.first=s'.first):∀(l:List Int) (i v:Nat),s.WC i v l=s'.WC i v l
 | [],_,_=> rfl
 | m::l,i,v=> by
  have:s.vM i m=s'.vM i m:=by unfold TA.vM TA.after;rw[h1,h2,h3,h4,h5]
  show s.WC _ _ l=s'.WC _ _ l;rw[this];exact TA.fJ h1 h2 h3 h4 h5 l _ _
theorem TA.RI {s:TA}:∀(l:List Int) (i:Nat),0<i->(s.ZE i l<->∀m∈l,s.mf<=m/\m<=s.mt)
 | [],_,_=> by simp[TA.ZE]
 | m::l,i,h=> by
  simp only[TA.ZE,TA.RI l (i+1) oM,List.mem_cons,forall_eq_or_imp];unfold TA.may;rw[if_neg oM]
theorem Lk.wP {k:Lk}(hk:1<=k.r0){c v:Nat}(hc:c<32):k.AG c v=true<->∃a r n mv,k.Past c a r n mv/\SC c a r n mv=v:=by
 have h0:=(pE c hc).1;unfold Lk.AG;rw[List.any_eq_true];constructor
 ·rintro⟨s,hs,hv⟩;obtain⟨a,r,n,f,h1,h2,h3,h4,rfl⟩:=Lk.SI.1 hs;have hr:0<(k.C8 c a r n f).read:=by show 0<r;omega
  obtain⟨mv,h5,h6,h7⟩:=(TA.CM hr).1 hv;cases mv with
  | nil=> change 0=(iA c 7).length at h5;omega
  | cons m l=>
   obtain⟨h8,h9⟩:=h6;have hm:m=f:=h8;subst hm;rw[TA.RI l 1 oM] at h9;refine⟨a,r,n,m::l,⟨h1,h2,h3,h5,fun x hx=> ?_⟩,?_⟩
   ·rcases List.mem_cons.1 hx with rfl|hx
    ·exact h4
    ·exact h9 x hx
   ·rw[<-h7];exact TA.fJ (s:=⟨c,iA c 7,a,r,n,m,0,0⟩) (s':=k.C8 c a r n m) rfl rfl rfl rfl rfl (m::l) 0 127
 ·rintro⟨a,r,n,mv,hp,rfl⟩;cases mv with
  | nil=> have:=hp.len;change 0=(iA c 7).length at this;omega
  | cons m l=>
   refine⟨k.C8 c a r n m,Lk.SI.2 ⟨a,r,n,m,hp.send,hp.read,hp.lean,hp.mN m List.mem_cons_self,rfl⟩,?_⟩;have hr:0<(k.C8 c a r n m).read:=by have h2:=hp.read;show 0<r;omega
   refine(TA.CM hr).2 ⟨m::l,hp.len,⟨rfl,(TA.RI l 1 oM).2 fun x hx=> hp.mN x (List.mem_cons_of_mem _ hx)⟩,?_⟩;exact TA.fJ (s:=k.C8 c a r n m) (s':=⟨c,iA c 7,a,r,n,m,0,0⟩) rfl rfl rfl rfl rfl (m::l) 0 127
theorem Lk.I0 {k:Lk}(hk:1<=k.r0)(h1:k.s0<=k.s1)(h2:k.r0<=k.r1)(h3:k.l0<=k.l1)(h4:k.m0<=k.m1){c:Nat}(hc:c<32):∃v,k.AG c v=true:=
 ⟨_,(Lk.wP hk hc).2 ⟨k.s0,k.r0,k.l0,List.replicate (iA c 7).length k.m0,⟨⟨Int.le_refl _,h1⟩,⟨Int.le_refl _,h2⟩,⟨Int.le_refl _,h3⟩,by simp,fun m hm=> by rw[(List.mem_replicate.1 hm).2];exact⟨Int.le_refl _,h4⟩⟩,rfl⟩⟩
set_option maxHeartbeats 4000000
def JR(M:Md prog)(H:View)(fv:Value)(l:List Int):Prop:=
 ∀j:Nat,j<l.length->∀H',H.le H'->uB M fv [.int .i64 (l[j]?.getD 0)] H' fun v H''=> H'.le H''/\v=.bool false
theorem Lk.LY {k:Lk}(hk:k.ok=true)(c:Nat)(l:List Int):k.Past c (k.qN l) (k.pN l) (k.oN l) (k.GF l (iA c 7).length):=by
 obtain⟨hks,A5,W9,hkm⟩:=Lk.kP hk;refine⟨WN oM,WN oM,WN oM,Lk.pX ..,fun m hm=> ?_⟩;obtain⟨i,_,rfl⟩:=List.mem_map.1 hm;exact WN oM
theorem Lk.Past.at_ {k:Lk}{c:Nat}{a r n:Int}{mv:List Int}(h:k.Past c a r n mv){j:Nat}(hj:j<mv.length):k.m0<=mv[j]?.getD 0/\mv[j]?.getD 0<=k.m1:=by
 rw[List.getElem?_eq_getElem hj];exact h.mN _ (List.getElem_mem hj)
def xG(c:Nat)(a r n:Int)(mv:List Int)(i:Nat):Nat:=(⟨c,iA c 7,a,r,n,mv.headD 0,0,0⟩:TA).WC 0 127 (mv.take i)
theorem vR(c:Nat)(a r n:Int)(mv:List Int)(i:Nat):xG c a r n mv i<128:=TA.zF _ _ _ _ dE
theorem KV {c:Nat}{a r n:Int}{mv:List Int}{i:Nat}(hr:0<=r)(hi:i<mv.length):
  xG c a r n mv (i+1)=yD (xG c a r n mv i) (bB r (seenAt (iA c 7) mv a n i-seenAt (iA c 7) mv a n 0)).toNat:=by
 unfold xG;rw[List.take_succ_eq_append_getElem hi,TA.lF,List.length_take,Nat.min_eq_left oM,Nat.zero_add]
 congr 2
 have hg:mv[i]?.getD 0=mv[i]:=by rw[List.getElem?_eq_getElem hi];rfl
 unfold TA.vM TA.after seenAt;have h0:mv[0]?.getD 0=mv.headD 0:=by cases mv <;> rfl
 by_cases e:i=0
 ·subst e;rw[if_pos rfl,Int.sub_self];have h1:=nC r 0;have h2:¬(0<bB r 0):=fun h=> by
   have:=NH (pace:=r) (after:=0) (Int.le_refl 0) h;omega
  omega
 ·rw[if_neg e]
  congr 1
  rw[hg,h0];simp only[Int.natCast_zero];omega
theorem PX {c:Nat}{a r n:Int}{mv:List Int}:xG c a r n mv mv.length=SC c a r n mv:=by
 unfold xG SC TA.view;rw[List.take_length]
def aA8(o:Option Nat):Value:=match o with
 | some m=> .tuple ⟨[.int .i64 (m:Nat),.bool true,.int .i64 0]⟩
 | none=> .tuple ⟨[.int .i64 0,.bool false,.int .i64 0]⟩
section
variable(M:Md prog)(H:View)
theorem ER(A:Option Addr)(l:List Int)(n ca:Nat)(fv:Value)(hn:n=l.length)(h6:n<=1000)(hA:dO H A l)(hf:JR M H fv l):bA M 187 #[.slice A n ca,fv] H (fun v H'=> H.le H'/\v=.int .i64 (-1)):=by
 refine .en func187 ntmps187 fun St c cs hK=> ?_;refine NF ?_;refine Tc.db (Tc.tA (σ:= { j:Nat//j<=n }) (fun j=> ([(0,.slice A n ca),(1,fv),(7,.int .i64 (n:Nat)),(8,.int .i64 (j.1:Nat))],[])) (fun j=> n-j.1) ?_ ⟨0,oM⟩);rintro⟨j,hj⟩ ih;show Tc M St _ _ _ _ [(0,.slice A n ca),(1,fv),(7,.int .i64 (n:Nat)),(8,.int .i64 (j:Nat))] [] _ _;by_cases c1:j=n
 ·subst c1;refine PE ?_;refine .rt hK func187 results187 [_] ?_;exact okB
 ·have c2:j<n:=by omega
  rcases hA with hA|⟨a1,a2,a3,a4,a5,a6,rfl,a7,a8⟩
  ·rw[hA] at hn;simp at hn;omega
  have f1:=a8 j oM;refine wQ ?_;refine .c rfl rfl rfl rfl (fun H hs=> hf j oM H hs.base) ?_;refine U8 ?_;exact Tc.db (ih ⟨j+1,oM⟩ (by simp only;omega))
theorem CN(A:Option Addr)(l:List Int)(n ca:Nat)(fv:Value)(hn:n=l.length)(h6:n<=1000)(hA:dO H A l)(hf:JR M H fv l):bA M 112 #[.slice A n ca,fv] H (fun v H'=> H.le H'/\v=.bool false):=by
 refine .en func112 ntmps112 fun St c cs hK=> ?_;refine U8 ?_;refine .cl (fun H hs=> ER M H A l n ca fv hn h6 (hA.le hs.base) (fun j hj H' hle=> hf j hj H' (View.le_trans hs.base hle))) ?_;refine U3 ?_;refine .rt hK func112 results112 [_] ?_;exact okB
theorem SN(a b x:Int)(h:a<=x/\x<=b):bA M 160 #[FD a b,.int .i64 x] H (fun v H'=> H.le H'/\v=.bool true):=
 bA.mono (aEm M H a b x) (by rintro v H' ⟨h1,h2⟩;rw[decide_eq_true h] at h2;exact⟨h1,h2⟩)
theorem TS(a b:Int)(b11:Nat)(l:List Int)(hb:H b11=some (true,.cells ⟨[.int .i64 a,.int .i64 b]⟩ 257 (0,0)))(hl:∀j:Nat,j<l.length->a<=l[j]?.getD 0/\l[j]?.getD 0<=b):JR M H (.func (.func 161) #[] #[.pointer (some ⟨b11,0,none⟩)]) l:=fun j hj H' hle=> by
 refine uB.of (first:= []) (captured:= [_]) aD0 rfl ?_;have h11:=hle _ _ hb;refine .en func161 ntmps161 fun St c cs hK=> ?_;refine U8 ?_;refine .cl (fun H hs=> SN M H a b _ (hl j hj)) ?_;refine U3 ?_;refine .rt hK func161 results161 [_] ?_;exact fun H2 hs=> ⟨hs.base,rfl⟩
variable(k:Lk)(hG:aE H)(hk:k.ok=true)(code:Nat)(hc:code<32)(a r n:Int)(mv:List Int)(hP:k.Past code a r n mv)(A:Option Addr)(m ca:Nat)(hm:m=(iA code 7).length)(hA:dO H A mv)
include hG hk hc hP hm hA
theorem ZZ:bA M 74 #[k.val,.int .i64 code,.agg ⟨[.int .i64 a,.int .i64 r,.int .i64 n,.slice A m ca]⟩] H (fun v H'=> H.le H'/\∃x:Nat×Nat×List Value,v=.tuple ⟨[MN code x,.int .i64 0]⟩/\True/\∀y∈uL code x,H' y.1=some y.2/\H y.1=none):=by
 have hp6:=(pE code hc).2.1;have GK:=hP.len;refine .en func74 ntmps74 fun St c cs hK=> ?_;refine U2 ?_;refine .bo fun b3=> ?_;refine .bo fun b5=> ?_;refine .al fun b6=> ?_;refine U6 ?_;refine .e (Or.ZA (fun x=> .tuple ⟨[k.val,MN code x,.int .i64 0]⟩) (uL code) (fun _=> True) rfl rfl rfl rfl rfl dE (XE code) (fun H hs=> .h (aCm M H k code (IA hG hs.base) hk hc)) (fun x hx=> ?_));refine U4 ?_;refine .al fun b8=> ?_;refine .al fun b9=> ?_;refine QT ?_;refine .cl (fun H hs=> ED M H k.m0 k.m1) ?_;refine .al fun b11=> ?_;refine U6 ?_;refine Tc.dr [] [] mixed rfl ?_;refine V3 0 ?_;refine .z 3 rfl (qA.tk fun H hs=> ED M H k.s0 k.s1) ?_;refine V2 4 ?_;refine .z 6 rfl (qA.tk fun H hs=> SN M H k.s0 k.s1 a hP.send) ?_;refine V2 7 ?_;refine .dn ?_;refine U2 ?_;refine Tc.dr [] [] mixed rfl ?_;refine V3 0 ?_;refine .z 3 rfl (qA.tk fun H hs=> ED M H k.r0 k.r1) ?_;refine V2 4 ?_;refine .z 6 rfl (qA.tk fun H hs=> SN M H k.r0 k.r1 r hP.read) ?_;refine V2 7 ?_;refine .dn ?_;refine U ?_;refine Tc.dr [] [] mixed rfl ?_;refine V4 0 ?_;refine .z 4 rfl (qA.tk fun H hs=> ED M H k.l0 k.l1) ?_;refine V2 5 ?_;refine .z 7 rfl (qA.tk fun H hs=> SN M H k.l0 k.l1 n hP.lean) ?_;refine V2 8 ?_;refine .dn ?_;refine QT ?_;refine .cl (fun H hs=> CN M H A mv m ca _ oM oM (hA.le hs.base) (TS M H k.m0 k.m1 b11 mv (hs.get (i:=0) rfl) (fun j hj=> hP.at_ hj))) ?_;refine PE ?_;refine .rt hK func74 results74 [_,_] ?_;exact fun H' hs=> ⟨hs.base,x,rfl,trivial,fun y hy=> ⟨hs.at_ y (by simp[hy]),hs.out y (by simp[hy])⟩⟩
omit hG in
theorem H0(x:Nat×Nat×List Value)(hx:∀y∈uL code x,H y.1=some y.2):bA M 75 #[MN code x,.agg ⟨[.int .i64 a,.int .i64 r,.int .i64 n,.slice A m ca]⟩] H (fun v H'=> H.le H'/\v=oT (TC (iA code 7) mv a n (iA code 7).length)):=by
 obtain⟨hks,A5,W9,hkm⟩:=Lk.kP hk;obtain⟨hp0,hp6,F5⟩:=pE code hc;have GK:=hP.len;have h1:=hP.send;have h2:=hP.lean;obtain⟨f,es,et,ez,O9,P4⟩:=nK hx;rcases hA with hA|⟨a1,a2,a3,a4,a5,a6,rfl,a7,a8⟩
 ·rw[hA] at GK;simp at GK;omega
 exact aDy M H (code:Int) a r n (iA code 7) mv x.1 0 x.2.1 a1 a2 ca f a3 es a4 et a5 ez a6 O9 P4 a7 (fun i hi=> by have:=a8 i oM;rwa [Int.toNat_natCast] at this) hp6 F5
  (fun i=> by
   by_cases hi:i<mv.length
   ·have:=hP.at_ hi;omega
   ·rw[List.getElem?_eq_none oM];decide) oM oM oM oM m oM
theorem dZ:bA M 25 #[k.val,.int .i64 code,.agg ⟨[.int .i64 a,.int .i64 r,.int .i64 n,.slice A m ca]⟩] H (fun v H'=> H.le H'/\v=aA8 (OE (SC code a r n mv))):=by
 obtain⟨hks,A5,W9,hkm⟩:=Lk.kP hk;obtain⟨hp0,hp6,F5⟩:=pE code hc;have GK:=hP.len;have hr:=hP.read;have h1:=hP.send;have h2:=hP.lean;have hsb:∀i:Nat,i<(iA code 7).length-> -100000<=seenAt (iA code 7) mv a n i/\seenAt (iA code 7) mv a n i<=100000:=fun i hi=> by
  have h3:=hP.at_ (j:=i) oM;have h4:=F5 i hi;have h5:=ML (place:=(((iA code 7)[i]?.getD 0:Nat):Int)) (number:=(i:Nat)) (send:=a) (lean:=n) oM oM oM oM oM oM;unfold seenAt;omega
 have hsl:=bF (iA code 7) mv a n (iA code 7).length;have N1:∀z∈TC (iA code 7) mv a n (iA code 7).length, -1000000000<=z/\z<=1000000000:=fun z hz=> by
  unfold TC at hz;obtain⟨i,hi,rfl⟩:=List.mem_map.1 hz;split
  ·rename_i HB
   have:=hsb i HB;omega
  ·decide
 have aBN:∀i:Nat,i<(iA code 7).length->gD false 1 (sA (ZC (TC (iA code 7) mv a n (iA code 7).length) (iA code 7).length)) (0+(i:Int).toNat*1)=some (.int .i64 (seenAt (iA code 7) mv a n i-seenAt (iA code 7) mv a n 0)):=fun i hi=> by
  show(sA _)[0+(i:Int).toNat*1]? =_;rw[Nat.zero_add,Nat.mul_one,Int.toNat_natCast];have h3:(TC (iA code 7) mv a n (iA code 7).length)[i]? =some (seenAt (iA code 7) mv a n i):=by
   unfold TC;rw[List.getElem?_map,List.getElem?_range oM];simp[hi]
  have h4:(TC (iA code 7) mv a n (iA code 7).length).headD 0=seenAt (iA code 7) mv a n 0:=by
   unfold TC;simp[List.range_succ_eq_map,hp0]
  rw[nH (nF h3),if_pos hi,h4]
 refine .en func25 ntmps25 fun St c cs hK=> ?_;refine U2 ?_;refine .bo fun b3=> ?_;refine .bo fun b5=> ?_;refine U9 ?_;refine .e (Or.ZA (fun x=> .tuple ⟨[MN code x,.int .i64 0]⟩) (uL code) (fun _=> True) rfl rfl rfl rfl rfl dE (XE code) (fun H hs=> .h (ZZ M H k (IA hG hs.base) hk code hc a r n mv hP A m ca hm (hA.le hs.base))) (fun x hx=> ?_));refine U3 ?_;refine .al fun b9=> ?_;refine vQ ?_;refine Tc.dr [8] [] mixed rfl ?_;refine V2 0 ?_;refine .z 2 rfl (qA.tk fun H hs=> H0 M H k hk code hc a r n mv hP A m ca hm (hA.le hs.base) x (fun y hy=> hs.at_ y (by simp[hy]))) ?_;refine V3 3 ?_;refine .z 6 rfl (qA.tk fun H hs=> S8 M H _ (iA code 7).length hsl hp6 N1) ?_;refine .ea 7 rfl (.al (zz:=fun b11=> ⟨S2.mk sL (.inr sL),?_⟩));refine .e 8 0 ?_;refine .dn ?_;refine U9 ?_;refine Tc.db (Tc.tA (σ:= { i:Nat//i<=(iA code 7).length }) (fun i=> ([(5,.pointer (some ⟨b5,0,none⟩)),(10,.int .u8 (xG code a r n mv i.1:Nat)),(11,.pointer (some ⟨b11,0,none⟩)),(32,.int .i64 ((iA code 7).length:Nat)),(33,.int .i64 (i.1:Nat))],
  [(b11,true,.cells ⟨sA (ZC (TC (iA code 7) mv a n (iA code 7).length) (iA code 7).length)⟩ 139 (0,0)),(b5,true,.cells ⟨[.int .i64 a,.int .i64 r,.int .i64 n,.slice A m ca]⟩ 74 (0,0))])) (fun i=> (iA code 7).length-i.1) ?_ ⟨0,Nat.zero_le _⟩)
 rintro⟨i,hi⟩ ih;show Tc M St _ _ _ _ [(5,.pointer (some ⟨b5,0,none⟩)),(10,.int .u8 (xG code a r n mv i:Nat)),(11,.pointer (some ⟨b11,0,none⟩)),(32,.int .i64 ((iA code 7).length:Nat)),(33,.int .i64 (i:Nat))]
  [(b11,true,.cells ⟨sA (ZC (TC (iA code 7) mv a n (iA code 7).length) (iA code 7).length)⟩ 139 (0,0)),(b5,true,.cells ⟨[.int .i64 a,.int .i64 r,.int .i64 n,.slice A m ca]⟩ 74 (0,0))] _ _
 by_cases c1:i=(iA code 7).length
 ·have hv:xG code a r n mv i=SC code a r n mv:=by rw[c1,<-GK];exact PX
  have HB:=vR code a r n mv i;rw[hv] at HB;rw[hv];cases bN:OE (SC code a r n mv) with
  | none=>
   refine lD ?_;refine .cl (fun H hs=> bA.is (.tuple ⟨[.int .i64 0,.bool false]⟩) (by rewrite [bN];rfl) (X6 M H (SC code a r n mv) HB)) ?_;refine QE ?_;refine .rt hK func25 results25 [_,_,_] ?_;exact fun H' hs=> ⟨hs.base,by rw[bN];rfl⟩
  | some w=>
   refine lD ?_;refine .cl (fun H hs=> bA.is (.tuple ⟨[.int .i64 (w:Nat),.bool true]⟩) (by rewrite [bN];rfl) (X6 M H (SC code a r n mv) HB)) ?_;refine QE ?_;refine .rt hK func25 results25 [_,_,_] ?_;exact fun H' hs=> ⟨hs.base,by rw[bN];rfl⟩
 ·have c2:i<(iA code 7).length:=by omega
  have f1:=aBN i c2;have hmi:=nC r (seenAt (iA code 7) mv a n i-seenAt (iA code 7) mv a n 0);have IB:=KV (c:=code) (a:=a) (r:=r) (n:=n) (mv:=mv) (i:=i) oM oM;obtain⟨w,hw⟩:∃w:Nat,bB r (seenAt (iA code 7) mv a n i-seenAt (iA code 7) mv a n 0)=(w:Int):=⟨_,(Int.toNat_of_nonneg hmi.1).symm⟩
  rw[hw,Int.toNat_natCast] at IB;have hw8:w<8:=by omega
  refine QE ?_;refine Tc.dr [] [] mixed rfl ?_;refine V6 0 ?_;refine .z 6 rfl (qA.tk fun H hs=> bA.is (.int .i64 (w:Nat)) (by rewrite [hw];rfl) (gP M H r (seenAt (iA code 7) mv a n i-seenAt (iA code 7) mv a n 0) oM oM)) ?_;refine .z 7 rfl (qA.tk fun H hs=> bA.mono (HV M H (xG code a r n mv i) w (vR ..) hw8) (Q':=fun v H'=> H.le H'/\v=.int .u8 (xG code a r n mv (i+1):Nat)) (by rintro v H' ⟨h1,h2⟩;rw[IB];exact⟨h1,h2⟩)) ?_;refine .nn 8 ?_;refine .dn ?_;refine U5 ?_;exact Tc.db (ih ⟨i+1,oM⟩ (by simp only;omega))
end
set_option maxHeartbeats 8000000
theorem wX:∀c:Nat,c<32->OE (EB c)=some c:=by decide +kernel
section
variable(M:Md prog)(H:View)
end
theorem Lk.nZ {k:Lk}(hk:k.ok=true){c:Nat}(hc:c<32):k.pO c=1<->k.YC c=none:=by
 obtain⟨hks,A5,W9,hkm⟩:=Lk.kP hk;rw[Lk.QP A5.1];obtain⟨v,hv⟩:=Lk.I0 (k:=k) A5.1 hks.2.1 A5.2.1 W9.2.1 hkm.2.1 hc;have HB:∀w,k.AG c w=true->w<128:=fun w hw=> by
  obtain⟨a,r,n,mv,_,rfl⟩:=(Lk.wP A5.1 hc).1 hw;exact TA.zF _ _ _ _ dE
 unfold Lk.pO;constructor
 ·intro h w hw;split at h
  ·rename_i hr
   split at h
   ·rename_i h1
    unfold Lk.seen at h1;obtain⟨z,hz⟩:=List.length_eq_one_iff.1 h1;have m1:w∈(List.range 128).filter (k.AG c):=List.mem_filter.2 ⟨List.mem_range.2 (HB w hw),hw⟩;have m2:EB c∈(List.range 128).filter (k.AG c):=List.mem_filter.2 ⟨List.mem_range.2 (HB _ hr),hr⟩;rw[hz,List.mem_singleton] at m1 m2;rw[m1,m2]
   ·cases h
  ·cases h
 ·intro h;have hr:k.AG c (EB c)=true:=by rw[<-h v hv];exact hv
  rw[if_pos hr,if_pos];unfold Lk.seen;have e:(List.range 128).filter (k.AG c)= [EB c]:=by
   have nd:((List.range 128).filter (k.AG c)).Nodup:=List.Pairwise.filter _ List.nodup_range;have SA:∀x∈(List.range 128).filter (k.AG c),x=EB c:=fun x hx=> h x (List.mem_filter.1 hx).2;have hm:EB c∈(List.range 128).filter (k.AG c):=List.mem_filter.2 ⟨List.mem_range.2 (HB _ hr),hr⟩
   match hL:(List.range 128).filter (k.AG c),nd,SA,hm with
   | [],_,_,hm=> cases hm
   | [x],_,SA,_=> rw[SA x (by simp)]
   | x::y::l,nd,SA,_=>
    have h1:=SA x (by simp);have h2:=SA y (by simp);rw[List.nodup_cons] at nd;exact absurd (by rw[h1,<-h2];simp) nd.1
  rw[e];rfl
theorem qR:∀c:Nat,c<32->EB c=64+2*c:=by decide +kernel
theorem A0 {v c:Nat}(hv:v<128)(h:OE v=some c):v=EB c:=by
 have hc:=qV h;rw[qR c hc];exact(nR v hv c hc).1 h
theorem gV(c:Nat)(a r n:Int)(mv:List Int):SC c a r n mv<128:=TA.zF _ _ _ _ dE
set_option maxHeartbeats 4000000
section
variable(M:Md prog)(H:View)
end
set_option maxHeartbeats 8000000
section
variable(M:Md prog)(H:View)
end
section
variable(M:Md prog)(H:View)
end
section
variable(M:Md prog)(H:View)
end
section
variable(M:Md prog)(H:View)
end
section
variable(M:Md prog)(H:View)
end
set_option maxHeartbeats 16000000
section
variable(M:Md prog)(H:View)
end
set_option maxHeartbeats 8000000
section
variable(M:Md prog)(H:View)
end
def bl(x:Nat):Nat:=if x=0 then 0 else Nat.log2 x+1
section
variable(M:Md prog)(H:View)
end
section
variable(M:Md prog)(H:View)
end
section
variable(M:Md prog)(H:View)
end
set_option maxHeartbeats 16000000
section
variable(M:Md prog)
end
set_option maxHeartbeats 8000000
section
variable(M:Md prog)(H:View)
end
set_option maxHeartbeats 4000000
section
variable(M:Md prog)(H:View)
end
structure aDS(k:Lk)(c:Nat)(rd:Option Nat):Prop where
 always:k.pO c=1->rd=some c/\eI (k.FG c) 32= [(c:Int)]/\k.refused c=2
 never:k.pO c=2->rd≠some c
 refused:k.refused c=1->rd=none
 taken:k.refused c=2->rd≠none
 found:∀n,rd=some n->(n:Int)∈eI (k.FG c) 32
 sure:k.nE c=true<->k.pO c=1
theorem Lk.dY {k:Lk}{c:Nat}:k.bad c=true<->∃v,v<128/\k.AG c v=true/\OE v=none:=by
 unfold Lk.bad;rw[List.any_eq_true];constructor
 ·rintro⟨v,h1,h2⟩;rw[Bool.and_eq_true,Option.isNone_iff_eq_none] at h2;exact⟨v,List.mem_range.1 h1,h2.1,h2.2⟩
 ·rintro⟨v,h1,h2,h3⟩;exact⟨v,List.mem_range.2 h1,by rw[Bool.and_eq_true,Option.isNone_iff_eq_none];exact⟨h2,h3⟩⟩
theorem oR {k:Lk}{c v n:Nat}(hv:v<128)(hs:k.AG c v=true)(h:OE v=some n):n<32/\k.FG c n=true:=by
 have hn:=qV h;have:=(nR v hv n hn).1 h;exact⟨hn,by unfold Lk.FG;rw[<-this];exact hs⟩
theorem MU {p:Nat->Bool}{n:Nat}:(ID p n).length=0<->∀i,i<n->p i=false:=by
 unfold ID;rw[List.length_map,List.length_eq_zero_iff,List.filter_eq_nil_iff];constructor
 ·intro h i hi;have:=h i (List.mem_range.2 hi);cases hp:p i with
  | false=> rfl
  | true=> exact absurd hp this
 ·intro h i hi;rw[h i (List.mem_range.1 hi)];decide
theorem Lk.rV {k:Lk}{c:Nat}(h:k.refused c=1):∀n,n<32->k.FG c n=false:=by
 unfold Lk.refused at h;split at h
 ·split at h
  ·rename_i h2
   exact MU.1 h2
  ·cases h
 ·cases h
theorem Lk.sN {k:Lk}{c:Nat}:k.refused c=2<->k.bad c=false:=by
 unfold Lk.refused;constructor
 ·intro h;split at h
  ·split at h <;> cases h
  ·rename_i h2
   cases hb:k.bad c with
   | false=> rfl
   | true=> exact absurd hb h2
 ·intro h;rw[h];rfl
theorem IZ {p:Nat->Bool}{n c:Nat}(hc:c<n)(hp:p c=true)(h:∀i,i<n->p i=true->i=c):eI p n= [(c:Int)]:=by
 have h1:((List.range n).filter p).Nodup:=List.Pairwise.filter _ List.nodup_range;have h2:((List.range n).filter p).Perm [c]:=by
  refine(List.perm_ext_iff_of_nodup h1 (by simp)).2 fun i=> ?_;rw[List.mem_filter,List.mem_range,List.mem_singleton];constructor
  ·exact fun⟨h3,h4⟩=> h i h3 h4
  ·rintro rfl;exact⟨hc,hp⟩
 unfold eI;rw[List.perm_singleton.1 h2];rfl
theorem Lk.aFr {k:Lk}(hk:k.ok=true){c:Nat}(hc:c<32){a r n:Int}{mv:List Int}(hP:k.Past c a r n mv):aDS k c (OE (SC c a r n mv)):=by
 obtain⟨hks,A5,W9,hkm⟩:=Lk.kP hk;have hv:=gV c a r n mv;have hs:k.AG c (SC c a r n mv)=true:=(Lk.wP A5.1 hc).2 ⟨a,r,n,mv,hP,rfl⟩;have h1:=Lk.nZ hk hc;have LJ:k.pO c=1->∀w,k.AG c w=true->w=EB c:=fun h=> (Lk.QP A5.1).1 (h1.1 h);have hrr:=wX c hc;have hrv:=qR c hc;refine⟨fun h=> ?_,fun h=> ?_,fun h=> ?_,fun h e=> ?_,fun m hm=> ?_,?_⟩
 ·have ho:=LJ h;have e:=ho _ hs;refine⟨by rw[e];exact hrr,?_,?_⟩
  ·refine IZ hc ?_ fun i hi hp=> ?_
   ·unfold Lk.FG;rw[<-hrv,<-e];exact hs
   ·unfold Lk.FG at hp;have:=ho _ hp;omega
  ·rw[Lk.sN];cases hb:k.bad c with
   | false=> rfl
   | true=>
    obtain⟨w,_,h3,h4⟩:=Lk.dY.1 hb;rw[ho w h3,hrr] at h4;cases h4
 ·intro e;have h3:=A0 hv e;unfold Lk.pO at h;rw[<-h3,hs,if_pos rfl] at h;split at h <;> cases h
 ·cases hr:OE (SC c a r n mv) with
  | none=> rfl
  | some m=>
   obtain⟨h3,h4⟩:=oR hv hs hr;rw[Lk.rV h m h3] at h4;cases h4
 ·have h3:=Lk.sN.1 h;rw[Lk.dY.2 ⟨_,hv,hs,e⟩] at h3;cases h3
 ·obtain⟨h3,h4⟩:=oR hv hs hm;exact XQ.2 ⟨h3,h4⟩
 ·rw[h1];unfold Lk.nE;rw[Option.isNone_iff_eq_none]
end Go.Proofs.YtldmfjcgjdchcaaGreatDoor.Sg
namespace Go.Proofs.YtldmfjcgjdchcaaGreatDoor
open Go.RL Go.Proofs.Tryz
set_option maxRecDepth 10000
set_option maxHeartbeats 8000000
section
variable(M:Md prog)
theorem P6(H:View)(X:Option Addr)(l:List Int)(n xc:Nat)(hn:n=l.length)(hc:n<=xc)(hX:Sg.tI H X l)(i:Nat)(hi:i<=1000):∃(X':Option Addr) (xc':Nat),Sg.tI H X' (l.drop i)/\
  ∀H',H.le H'->bA M 27 #[.slice X n xc,.int .i64 (i:Nat)] H' (fun v H''=> H'.le H''/\v=.slice X' (l.drop i).length xc'):=by
 by_cases c1:n<=i
 ·have e:l.drop i= []:=List.drop_eq_nil_of_le oM;refine⟨none,0,⟨by rw[e];simp,.inl e⟩,fun H' hl=> ?_⟩;rw[e];refine .en func27 ntmps27 fun St c cs hK=> ?_;refine OK ?_;refine .rt hK func27 results27 [_] ?_;exact fun H2 hs=> ⟨hs.base,rfl⟩
 ·obtain⟨hr,h0|⟨ab,ao,f,gs,gt,gz,rfl,hb,K1⟩⟩:=hX
  ·rw[h0] at hn;simp only[List.length_nil] at hn;omega
  refine⟨some ⟨ab,ao+i*1,none⟩,xc-i,⟨fun x hx=> hr x (List.mem_of_mem_drop hx),.inr ⟨ab,ao+i*1,f,gs,gt,gz,rfl,hb,fun j hj=> ?_⟩⟩,fun H' hl=> ?_⟩
  ·rw[List.length_drop] at hj;have:=K1 (i+j) oM;rw[Int.toNat_natCast] at this ⊢;rw[List.getElem?_drop,<-this]
   congr 1
   omega
  ·have e:(l.drop i).length=((n:Nat):Int).toNat-((i:Nat):Int).toNat:=by rw[List.length_drop,Int.toNat_natCast,Int.toNat_natCast];omega
   have e2:xc-i=xc-((i:Nat):Int).toNat:=by rw[Int.toNat_natCast]
   rw[e,e2];refine .en func27 ntmps27 fun St c cs hK=> ?_;refine QT ?_;refine .x (qA.slice (E:=en) (off':=ao+i*1) rfl rfl rfl rfl rfl rfl rfl rfl oM oM oM (by rw[if_neg oM];rw[Int.toNat_natCast])) ?_;refine U2 ?_;refine .rt hK func27 results27 [_] ?_;exact fun H2 hs=> ⟨hs.base,rfl⟩
end
def rdv(q:Sg.Lk)(l:List Int)(c:Nat):Option Nat:=Sg.OE (Sg.SC c (q.qN l) (q.pN l) (q.oN l) (q.GF l (Sg.iA c 7).length))
theorem tP {q:Sg.Lk}(hq:q.ok=true)(l:List Int){c:Nat}(hc:c<32)(h:q.nE c=true):rdv q l c=some c:=by
 have hT:=Sg.Lk.aFr hq hc (Sg.Lk.LY hq c l);exact(hT.always (hT.sure.1 h)).1
section
variable(M:Md prog)(H:View)
theorem HJ(x lo hi:Int)(t:Bool)(ht:decide (lo<=x/\x<=hi)=t):bA M 24 #[.int .i64 x,.int .i64 lo,.int .i64 hi] H (fun v H'=> H.le H'/\v=.bool t):=by
 rw[<-ht];refine .en func24 ntmps24 fun St c cs hK=> ?_;by_cases c1:lo<=x
 all_goals by_cases c2:x<=hi
 all_goals
  refine U8 ?_;refine .i ?_ (z:=by first|exact WJ oM|exact cI oM);refine U ?_;first|(refine .sk ?_)|(refine .m ?_)
  first|(refine .sk ?_)|(refine .m ?_)
  first|(refine .sk ?_)|(refine .x (.it (zz:=(by first|exact KD oM|exact JD oM))) ?_)
  refine U3 ?_;refine .rt hK func24 results24 [_] ?_;exact fun H' hs=> ⟨hs.base,by simp[cC,c1,c2]⟩
theorem YB(a b lo hi:Int)(t:Bool)(ht:decide (lo<=a/\a<=b/\b<=hi)=t):bA M 168 #[FD a b,.int .i64 lo,.int .i64 hi] H (fun v H'=> H.le H'/\v=.bool t):=by
 rw[<-ht];refine .en func168 ntmps168 fun St c cs hK=> ?_;by_cases c1:lo<=a
 all_goals by_cases c2:a<=b
 all_goals by_cases c3:b<=hi
 all_goals
  refine U2 ?_;refine .bo fun b1=> ?_;refine U8 ?_;refine .i ?_ (z:=by first|exact KD oM|exact JD oM);refine U ?_;first|(refine .sk ?_)|(refine .x .fa ?_)
  first|(refine .sk ?_)|((refine .x (.ld 0) ?_))
  first|(refine .sk ?_)|(refine .m ?_)
  first|(refine .sk ?_)|(refine .x (.it (zz:=(by first|exact WJ oM|exact cI oM))) ?_)
  refine U2 ?_;first|(refine .sk ?_)|(refine .x .fa ?_)
  first|(refine .sk ?_)|((refine .x (.ld 0) ?_))
  first|(refine .sk ?_)|(refine .m ?_)
  first|(refine .sk ?_)|(refine .x (.it (zz:=(by first|exact KD oM|exact JD oM))) ?_)
  refine U3 ?_;refine .rt hK func168 results168 [_] ?_;exact fun H' hs=> ⟨hs.base,by simp[cC,c1,c2,c3]⟩
theorem pQ(x:Int)(t:Bool)(ht:ND x=t):bA M 167 #[.int .i64 x] H (fun v H'=> H.le H'/\v=.bool t):=by
 rw[<-ht];unfold ND;refine .en func167 ntmps167 fun St c cs hK=> ?_;by_cases c1:0<=x
 all_goals by_cases c2:x<=2
 all_goals try omega
 all_goals
  refine U7 ?_;refine .i ?_ (z:=by first|exact WJ oM|exact cI oM);refine U ?_;first|(refine .sk ?_)|(refine .m ?_)
  first|(refine .sk ?_)|(refine .x (.it (zz:=(by first|exact KD oM|exact JD oM))) ?_)
  refine U3 ?_;refine .rt hK func167 results167 [_] ?_;exact fun H' hs=> ⟨hs.base,by simp[cC,c1,c2]⟩
theorem FL(x:UInt8)(t:Bool)(ht:low x=t):bA M 235 #[.int .u8 (x.toNat:Nat)] H (fun v H'=> H.le H'/\v=.bool t):=by
 rw[<-ht];unfold low;refine .en func235 ntmps235 fun St c cs hK=> ?_;by_cases c1:97<=x.toNat
 all_goals by_cases c2:x.toNat<=122
 all_goals try omega
 all_goals
  refine U7 ?_;refine .i ?_ (z:=by first|exact WJ oM|exact cI oM);refine U ?_;first|(refine .sk ?_)|(refine .m ?_)
  first|(refine .sk ?_)|(refine .x (.it (zz:=(by first|exact KD oM|exact JD oM))) ?_)
  refine U3 ?_;refine .rt hK func235 results235 [_] ?_;exact fun H' hs=> ⟨hs.base,by simp[cC,c1,c2]⟩
theorem mU(x:UInt8)(t:Bool)(ht:BD x=t):bA M 236 #[.int .u8 (x.toNat:Nat)] H (fun v H'=> H.le H'/\v=.bool t):=by
 have e:BD x=decide (48<=x.toNat/\x.toNat<=57):=by unfold BD;exact decide_eq_decide.2 oM
 rw[<-ht,e];refine .en func236 ntmps236 fun St c cs hK=> ?_;by_cases c1:48<=x.toNat
 all_goals by_cases c2:x.toNat<=57
 all_goals try omega
 all_goals
  refine U7 ?_;refine .i ?_ (z:=by first|exact WJ oM|exact cI oM);refine U ?_;first|(refine .sk ?_)|(refine .m ?_)
  first|(refine .sk ?_)|(refine .x (.it (zz:=(by first|exact KD oM|exact JD oM))) ?_)
  refine U3 ?_;refine .rt hK func236 results236 [_] ?_;exact fun H' hs=> ⟨hs.base,by simp[cC,c1,c2]⟩
theorem qI(s p:List UInt8)(t:Bool)(ht:pB s p=t):bA M 237 #[mA s,mA p] H (fun v H'=> H.le H'/\v=.bool t):=by
 rw[<-ht];refine .en func237 ntmps237 fun St c cs hK=> ?_;by_cases c1:p.length<=s.length
 ·have e:pB s p=(s.take p.length==p):=by unfold pB;simp[c1]
  rw[e] at hK;refine XP ?_;refine .x (qA.XG (E:=en) rfl rfl rfl rfl rfl rfl oM oM oM) ?_;refine U5 ?_;refine .rt hK func237 results237 [_] ?_;exact fun H' hs=> ⟨hs.base,by simp[cC]⟩
 ·have e:pB s p=false:=by unfold pB;simp[c1]
  rw[e] at hK;refine wQ ?_;refine .rt hK func237 results237 [_] ?_;exact okB
theorem Y8 {s:List UInt8}{j:Nat}{x:UInt8}(h:s[j]? =some x)(hx:BD x=false):s.all BD=false:=by
 rw[List.all_eq_false];exact⟨x,List.mem_of_getElem? h,by rw[hx];decide⟩
theorem BG(s:List UInt8)(hl:s.length<=1000000)(t:Bool)(ht:isNum s=t):bA M 165 #[mA s] H (fun v H'=> H.le H'/\v=.bool t):=by
 rw[<-ht];clear ht;refine .en func165 ntmps165 fun St c cs hK=> ?_;refine lD ?_;refine Tc.db (Tc.tA (σ:= { j:Nat//j<=s.length/\∀i x,i<j->s[i]? =some x->BD x=true }) (fun j=> ([(0,mA s),(3,.int .i64 (j.1:Nat))],[])) (fun j=> s.length-j.1) ?_ ⟨0,Nat.zero_le _,fun i x hi=> by omega⟩);rintro⟨j,hj,SA⟩ ih;show Tc M St _ _ _ _ [(0,mA s),(3,.int .i64 (j:Nat))] [] _ _;by_cases c1:j=s.length
 ·have e:s.all BD=true:=List.all_eq_true.2 fun x hx=> by
   obtain⟨i,hi,rfl⟩:=List.mem_iff_getElem.1 hx;exact SA i _ oM (List.getElem?_eq_getElem hi)
  have e2:isNum s=decide (1<=((s.length:Nat):Int)/\((s.length:Nat):Int)<=3):=by
   unfold isNum;rw[e,Bool.and_true];exact decide_eq_decide.2 oM
  rw[e2] at hK;subst c1;refine QE ?_;refine .cl (fun H hs=> HJ M H (s.length:Nat) 1 3 _ rfl) ?_;refine U2 ?_;refine .rt hK func165 results165 [_] ?_;exact okB
 ·have c2:j<s.length:=by omega
  obtain⟨x,hx⟩:∃x,s[j]? =some x:=⟨_,List.getElem?_eq_getElem c2⟩
  have f1:s[((j:Nat):Int).toNat]? =some x:=by rw[Int.toNat_natCast];exact hx
  cases hd:BD x with
  | true=>
   have:=of_decide_eq_true hd;refine U33 ?_;exact Tc.db (ih ⟨j+1,oM,fun i y hi hy=> by
    by_cases e:i=j
    ·subst e;rw[hx] at hy;cases hy;exact hd
    ·exact SA i y oM hy⟩ (by simp only;omega))
  | false=>
   have e:isNum s=false:=by unfold isNum;rw[Y8 hx hd];simp
   have zE:=of_decide_eq_false hd;rw[e] at hK;by_cases c3:x.toNat<48
   ·refine U30 ?_;refine .rt hK func165 results165 [_] ?_;exact okB
   ·have c4:57<x.toNat:=by omega
    refine U30 ?_;refine .rt hK func165 results165 [_] ?_;exact okB
theorem UF(s:List UInt8)(hl:s.length<=1000000)(t:Bool)(ht:MJ s=t):bA M 164 #[mA s] H (fun v H'=> H.le H'/\v=.bool t):=by
 rw[<-ht];clear ht;refine .en func164 ntmps164 fun St c cs hK=> ?_;refine lD ?_;refine Tc.db (Tc.tA (σ:= { j:Nat//j<=s.length/\∀i,i<j->rH s i=true }) (fun j=> ([(0,mA s),(3,.int .i64 (j.1:Nat))],[])) (fun j=> s.length-j.1) ?_ ⟨0,Nat.zero_le _,fun i hi=> by omega⟩);rintro⟨j,hj,SA⟩ ih;show Tc M St _ _ _ _ [(0,mA s),(3,.int .i64 (j:Nat))] [] _ _;by_cases c1:j=s.length
 ·have e:bG (rH s) s.length=true:=(DD _).2 (by rw[<-c1];exact SA);have e2:MJ s=decide (1<=((s.length:Nat):Int)/\((s.length:Nat):Int)<=9):=by
   unfold MJ;rw[e,Bool.and_true];exact decide_eq_decide.2 oM
  rw[e2] at hK;subst c1;refine QE ?_;refine .cl (fun H hs=> HJ M H (s.length:Nat) 1 9 _ rfl) ?_;refine U2 ?_;refine .rt hK func164 results164 [_] ?_;exact okB
 ·have c2:j<s.length:=by omega
  obtain⟨x,hx⟩:∃x,s[j]? =some x:=⟨_,List.getElem?_eq_getElem c2⟩
  have f1:s[((j:Nat):Int).toNat]? =some x:=by rw[Int.toNat_natCast];exact hx
  cases o8:low x with
  | true=>
   have hn:rH s j=true:=by unfold rH;rw[hx];simp[o8]
   refine OK ?_;refine .cl (fun H hs=> FL M H x true o8) ?_;refine U5 ?_;refine To.LB rfl dE rfl ?_;refine To.LB rfl dE rfl ?_;refine To.LB rfl dE rfl ?_;refine To.LB rfl dE rfl ?_;refine To.LB rfl dE rfl ?_;refine PE ?_;exact Tc.db (ih ⟨j+1,oM,fun i hi=> by by_cases e:i=j;exact e▸hn;exact SA i oM⟩ (by simp only;omega))
  | false=>
   by_cases c3:j=0
   ·subst c3;have e:MJ s=false:=by unfold MJ;rw[cG c2 (by unfold rH;rw[hx];simp[o8])];simp
    rw[e] at hK;refine OK ?_;refine .cl (fun H hs=> FL M H x false o8) ?_;refine QT ?_;refine .rt hK func164 results164 [_] ?_;exact okB
   ·have c4:(j:Int)≠0:=by omega
    cases hd:BD x with
    | true=>
     have hn:rH s j=true:=by unfold rH;rw[hx];simp[hd];omega
     refine OK ?_;refine .cl (fun H hs=> FL M H x false o8) ?_;refine U8 ?_;refine .cl (fun H hs=> mU M H x true hd) ?_;refine NF ?_;exact Tc.db (ih ⟨j+1,oM,fun i hi=> by by_cases e:i=j;exact e▸hn;exact SA i oM⟩ (by simp only;omega))
    | false=>
     have e:MJ s=false:=by unfold MJ;rw[cG c2 (by unfold rH;rw[hx];simp[o8,hd])];simp
     rw[e] at hK;refine OK ?_;refine .cl (fun H hs=> FL M H x false o8) ?_;refine U8 ?_;refine .cl (fun H hs=> mU M H x false hd) ?_;refine U9 ?_;refine .rt hK func164 results164 [_] ?_;exact okB
theorem cZ(A:Option Addr)(n ac:Nat)(x:Nat->List UInt8)(hA:BF H A n x)(hn:n<=100000000)(s:List UInt8):bA M 156 #[.slice A n ac,mA s] H (fun v H'=> H.le H'/\v=.int .i64 (iB (jA (fun j=> x j==s) n))):=by
 refine .en func156 ntmps156 fun St c cs hK=> ?_;refine lD ?_;refine Tc.db (Tc.tA (σ:= { j:Nat//j<=n/\jA (fun j=> x j==s) j=none }) (fun j=> ([(0,.slice A n ac),(1,mA s),(5,.int .i64 (j.1:Nat))],[])) (fun j=> n-j.1) ?_ ⟨0,Nat.zero_le _,rfl⟩);rintro⟨j,hj,PC⟩ ih;show Tc M St _ _ _ _ [(0,.slice A n ac),(1,mA s),(5,.int .i64 (j:Nat))] [] _ _;by_cases c1:j=n
 ·subst c1;rw[PC] at hK;refine QE ?_;refine .rt hK func156 results156 [_] ?_;exact okB
 ·have c2:j<n:=by omega
  obtain h0|⟨ab,ao,f,gs,gt,gz,rfl,hb,hl⟩:=hA
  ·omega
  have f1:=hl j c2;cases IG:x j==s with
  | true=>
   have f3:RL.fF .eql (x j) s=some (.bool true):=by rw[<-IG];rfl
   have e:jA (fun j=> x j==s) n=some j:=fB (j:=j+1) (by simp[jA,PC,IG]) _ oM;rw[e] at hK;refine U27 ?_;refine .rt hK func156 results156 [_] ?_;exact okB
  | false=>
   have f3:RL.fF .eql (x j) s=some (.bool false):=by rw[<-IG];rfl
   refine U29 ?_;exact Tc.db (ih ⟨j+1,oM,by simp[jA,PC,IG]⟩ (by simp only;omega))
theorem lK(k:Bk)(A:Option Addr)(lc:Nat)(hA:BC H k A lc)(hn:k.nl<=1000)(s:List UInt8)(t:Bool)(ht:k.clash s=t):
  bA M 166 #[.slice A k.nl lc,mA s] H (fun v H'=> H.le H'/\v=.bool t):=by
 rw[<-ht];clear ht;refine .en func166 ntmps166 fun St c cs hK=> ?_;refine lD ?_;refine Tc.db (Tc.tA (σ:= { j:Nat//j<=k.nl/\jA (fun i=> WB (k.num i) s) j=none }) (fun j=> ([(0,.slice A k.nl lc),(1,mA s),(5,.int .i64 (j.1:Nat))],[])) (fun j=> k.nl-j.1) ?_ ⟨0,Nat.zero_le _,rfl⟩);rintro⟨j,hj,PC⟩ ih;show Tc M St _ _ _ _ [(0,.slice A k.nl lc),(1,mA s),(5,.int .i64 (j:Nat))] [] _ _;by_cases c1:j=k.nl
 ·have e:k.clash s=false:=by unfold Bk.clash;rw[<-c1,PC];rfl
  subst c1;rw[e] at hK;refine QE ?_;refine .rt hK func166 results166 [_] ?_;exact okB
 ·have c2:j<k.nl:=by omega
  obtain⟨_,h0|⟨ab,ao,f,gs,gt,gz,rfl,hb,hl⟩⟩:=hA
  ·omega
  obtain⟨F,fc,f1,_,_⟩:=hl j c2;have f2:gD false 1 gs (ao+((j:Nat):Int).toNat*3+1)=some (mA (k.num j)):=mG f1 dE;cases IG:WB (k.num j) s with
  | true=>
   have e:k.clash s=true:=by
    unfold Bk.clash;rw[fB (j:=j+1) (x:=j) (by simp[jA,PC,IG]) _ oM];rfl
   rw[e] at hK;cases hb1:pB s (k.num j) with
   | true=>
    refine MR ?_;refine .cl (fun H hs=> qI M H s (k.num j) true hb1) ?_;refine XP ?_;refine .rt hK func166 results166 [_] ?_;exact okB
   | false=>
    have hb2:pB (k.num j) s=true:=by unfold WB at IG;rw[hb1,Bool.or_false] at IG;exact IG
    refine MR ?_;refine .cl (fun H hs=> qI M H s (k.num j) false hb1) ?_;refine U7 ?_;refine .cl (fun H hs=> qI M H (k.num j) s true hb2) ?_;refine U7 ?_;refine .rt hK func166 results166 [_] ?_;exact okB
  | false=>
   have aEn:pB s (k.num j)=false/\pB (k.num j) s=false:=by unfold WB at IG;rw[Bool.or_eq_false_iff] at IG;exact⟨IG.2,IG.1⟩
   refine MR ?_;refine .cl (fun H hs=> qI M H s (k.num j) false aEn.1) ?_;refine U7 ?_;refine .cl (fun H hs=> qI M H (k.num j) s false aEn.2) ?_;refine lD ?_;exact Tc.db (ih ⟨j+1,oM,by simp[jA,PC,IG]⟩ (by simp only;omega))
theorem WK(a b p q:Int)(z:Int)(hz:(if YA a b p q then 0 else 1:Int)=z):bA M 84 #[UC a b p q] H (fun v H'=> H.le H'/\v=.int .i64 z):=by
 rw[<-hz];clear hz;by_cases c1:1<=a/\a<=b/\b<=12
 ·by_cases c2:b-a<4
  ·by_cases c3:0<=p/\p<=q/\q<=99
   ·have e:YA a b p q=true:=by unfold YA;simp[c1,c2,c3]
    rw[e];refine .en func84 ntmps84 fun St c cs hK=> ?_;refine U2 ?_;refine .bo fun b1=> ?_;refine U7 ?_;refine .cl (fun H hs=> YB M H a b 1 12 true (decide_eq_true c1)) ?_;refine QE ?_;refine .cl (fun H hs=> YB M H p q 0 99 true (decide_eq_true c3)) ?_;refine U9 ?_;refine .rt hK func84 results84 [_] ?_;exact okB
   ·have e:YA a b p q=false:=by unfold YA;simp[c3]
    rw[e];refine .en func84 ntmps84 fun St c cs hK=> ?_;refine U2 ?_;refine .bo fun b1=> ?_;refine U7 ?_;refine .cl (fun H hs=> YB M H a b 1 12 true (decide_eq_true c1)) ?_;refine QE ?_;refine .cl (fun H hs=> YB M H p q 0 99 false (decide_eq_false c3)) ?_;refine U8 ?_;refine .rt hK func84 results84 [_] ?_;exact okB
  ·have e:YA a b p q=false:=by unfold YA;simp[c2]
   rw[e];refine .en func84 ntmps84 fun St c cs hK=> ?_;refine U2 ?_;refine .bo fun b1=> ?_;refine U7 ?_;refine .cl (fun H hs=> YB M H a b 1 12 true (decide_eq_true c1)) ?_;refine R8 ?_;refine .rt hK func84 results84 [_] ?_;exact okB
 ·have e:YA a b p q=false:=by unfold YA;simp[c1]
  rw[e];refine .en func84 ntmps84 fun St c cs hK=> ?_;refine U2 ?_;refine .bo fun b1=> ?_;refine U7 ?_;refine .cl (fun H hs=> YB M H a b 1 12 false (decide_eq_false c1)) ?_;refine R8 ?_;refine .rt hK func84 results84 [_] ?_;exact okB
end
end Go.Proofs.YtldmfjcgjdchcaaGreatDoor
