/-
 Texts of the proofs over baudot/dial.
-/
import Derived.Test.YtgkmnalhddmclaaGreatDoorB11
namespace Go.Proofs.YtgkmnalhddmclaaGreatDoor
open Go.RL Go.Proofs.Tryz
set_option maxRecDepth 10000
set_option maxHeartbeats 4000000
theorem RS {g:Gl 3 1}{l:List Nat}(h:g.l=EB l):g.n=l.length:=by
 have:=g.hl;rw[h] at this;unfold EB at this;rw[List.length_map] at this;omega
theorem kG.on {H:View}{ch:Ch}{lb lo lc:Nat}{A0:Option Addr}(h:kG H ch lb lo lc A0){g:Gl 3 1}{l:List Nat}(hg:g.l=EB l)(hb:∀y∈g.bl,H y.1=some y.2):kG H (ch.on l) lb lo lc (g.blk.map fun b=> ⟨b,0,none⟩):=by
 refine⟨h.ln,h.lc,fun hm=> ?_⟩;have hn:=RS hg;have WV:0<l.length:=hm;obtain⟨_|b,n,cap,gl,gj,h1,h2,h3,h4⟩:=g
 ·have:=h4 rfl;simp only at hn h2;omega
 ·refine⟨b,0,true,gl++gj,3,(0,0),rfl,hb (b,true,.cells ⟨gl++gj⟩ 3 (0,0)) (by simp[Gl.bl]),fun j hj=> ?_⟩;simp only at hg;subst hg;have ZQ:j<l.length:=hj;show(EB l++gj)[0+j*1]? =_;rw[Nat.zero_add,Nat.mul_one,List.getElem?_append_left (by unfold EB;rw[List.length_map];exact ZQ)];unfold EB;rw[List.getElem?_map,List.getElem?_eq_getElem ZQ];show _=some (Value.int .i64 ((l[j]?.getD 0:Nat):Int));rw[List.getElem?_eq_getElem ZQ];rfl
theorem aDs(a b:Nat×Bool×Obj)(x y:Bl):([b]++y).Sublist ([a,b]++x++y):=.cons _ (.cons_cons _ (List.sublist_append_right x y))
theorem oW {n:Nat}(h0:0<n)(h4:n<=4):qC .shl .i64 1 ((n-1:Nat):Int)=some (.int .i64 ((2 ^ (n-1):Nat):Int))/\2 ^ (n-1)<=8:=by
 rcases(by omega:n=1\/n=2\/n=3\/n=4) with rfl|rfl|rfl|rfl <;> exact⟨rfl,by decide⟩
theorem AQ(mask k:Nat):(zB mask k).length<=k:=by
 have:=List.length_filter_le (nN mask) (List.range k);rw[List.length_range] at this;exact this
theorem PM(c:Ch):∀(k:Nat) (b:List Nat),c.aC k=some b->b.length<=c.n
 | 0,b,h=> by cases h
 | k + 1,b,h=> by
  unfold Ch.aC Ch.oE at h;split at h
  ·exact PM c k b h
  ·split at h
   ·exact PM c k b h
   ·cases h
    have:=AQ k (c.n-1);omega
theorem N0(H:View)(ch:Ch)(lb lo lc:Nat)(A0:Option Addr)(hA:kG H ch lb lo lc A0)(hg:ch.Good)(hG:nC H):
  dA (Mp prog) 27 #[ch.ZI lb lo lc] H (T6 ch.L6 H):=by
 refine .en func27 ntmps27 fun St c cs hK=> ?_;have Y2:=hg.ok.n0;have C6:=hg.ok.n4;obtain⟨gJ,hp8⟩:=oW Y2 C6;refine U2 ?_;refine .bo fun b1=> ?_;refine U4 ?_;refine Tc.scope ?_;refine U4 ?_;refine .cl (fun H hs=> HG _ H ch lb lo lc A0 (hA.le hs.base) hg (zA hG hs.base)) ?_;refine PW ?_;rw[show(ch.n:Int)-1=((ch.n-1:Nat):Int) by omega];refine U ?_;refine Tc.label ?_;refine U4 ?_;refine .x .sf ?_;refine U3 ?_;refine Tc.db (Tc.IA (σ:= { s:Nat×Gl 3 1//s.1<=2 ^ (ch.n-1)/\s.2.l=EB ((ch.aC s.1).getD []) })
  (fun s=> ([(1,.pointer (some ⟨b1,0,none⟩)),(2,s.1.2.val),(3,.bool (ch.aC s.1.1).isSome),(6,.int .i64 ((ch.n-1:Nat):Int)),(22,.int .i64 ((2 ^ (ch.n-1):Nat):Int)),(23,.int .i64 (s.1.1:Nat))],[(b1,true,.cells ⟨(ch.ZI lb lo lc).cells.toList⟩ 26 (0,0))]++s.1.2.bl)) (fun s=> 2 ^ (ch.n-1)-s.1.1) ?_ ⟨(0,Gl.nil 3 1),Nat.zero_le _,rfl⟩)
 rintro⟨⟨mask,g⟩,g1,g2⟩ ih;simp only at g1 g2;show Tc (Mp prog) St _ _ _ _ [(1,.pointer (some ⟨b1,0,none⟩)),(2,g.val),(3,.bool (ch.aC mask).isSome),(6,.int .i64 ((ch.n-1:Nat):Int)),(22,.int .i64 ((2 ^ (ch.n-1):Nat):Int)),(23,.int .i64 (mask:Nat))] ([(b1,true,.cells ⟨(ch.ZI lb lo lc).cells.toList⟩ 26 (0,0))]++g.bl) _ _;by_cases c1:mask=2 ^ (ch.n-1)
 ·subst c1;refine AV ?_;refine .rt hK func27 results27 [_,_,_] ?_;exact fun H' hs=> ⟨hs.base,g,rfl,g2,fun y hy=> ⟨hs.at_ y (by simp[hy]),hs.out y (by simp[hy])⟩⟩
 ·have c2 : mask<2 ^ (ch.n-1):=by omega
  have EK:=RS g2;refine xK ?_;refine .al fun b7=> ?_;refine U6 ?_;refine .e (Or.EA Gl.val Gl.bl (fun g':Gl 3 1=> g'.l=WA (nN mask) (ch.n-1)) rfl rfl rfl rfl rfl dE tB (fun H hs=> .h (yP _ H (ch.n-1) _ (nN mask) oM (ZT _ H mask (ch.n-1) b7 oM oM (hs.get (i:=0) rfl)))) (fun g' pS=> ?_));refine U2 ?_;rw[cW] at pS;have M7:=RS pS;have hbl:=AQ mask (ch.n-1);have RU:=hg.on mask;refine U2 ?_;refine Tc.aAj (fun R' L'=> LJ (zB mask (ch.n-1)) (ch.aC mask)=false/\cC [(1,.pointer (some ⟨b1,0,none⟩)),(2,g.val),(3,.bool (ch.aC mask).isSome),(6,.int .i64 ((ch.n-1:Nat):Int)),(8,g'.val),(22,.int .i64 ((2 ^ (ch.n-1):Nat):Int)),(23,.int .i64 (mask:Nat))] R'/\L'= [(b7,true,.cells ⟨[.int .i64 (mask:Nat)]⟩ 3 (0,0)),(b1,true,.cells ⟨(ch.ZI lb lo lc).cells.toList⟩ 26 (0,0))]++g.bl++g'.bl) ?_ (fun fin=> ?_)
  ·rintro R' L' ⟨hsk,hR,rfl⟩;refine Tc.TE ?_ hR (List.Sublist.refl _);cases hw:(ch.on (zB mask (ch.n-1))).first with
   | some s=>
    have bB:ch.aC (mask+1)=ch.aC mask:=by
     show ch.oE _ mask=_;unfold Ch.oE;rw[hsk,hw];rfl
    refine U5 ?_;refine .cl (fun H hs=> show dA (Mp prog) 67 #[.agg ⟨[.int .i64 ch.s0,.int .i64 ch.s1,.slice (some ⟨lb,lo,none⟩) ch.n lc,.int .i64 ch.a0,.int .i64 ch.a1,.int .i64 ch.r0,.int .i64 ch.r1,.slice (g'.blk.map fun b=> ⟨b,0,none⟩) g'.n g'.cap]⟩] H _ from by rw[M7];exact dA.is (.tuple ⟨[.int .i64 ((ch.on (zB mask (ch.n-1))).sec:Nat),.int .i64 (((ch.on (zB mask (ch.n-1))).bad (ch.on (zB mask (ch.n-1))).sec).getD 0),.bool true]⟩) (by rewrite [hw];rfl) (gH H (ch.on (zB mask (ch.n-1))) lb lo lc g'.cap _ ((hA.le hs.base).on pS (fun y hy=> hs.at_ y (by simp[hy]))) RU (zA hG hs.base))) ?_;refine U20 ?_;have wC:=ih ⟨(mask+1,g),by simp only;omega,by simp only[bB];exact g2⟩ (by simp only;omega);simp only[bB] at wC;exact Tc.db wC
   | none=>
    have bB:ch.aC (mask+1)=some (zB mask (ch.n-1)):=by
     show ch.oE _ mask=_;unfold Ch.oE;rw[hsk,hw];rfl
    refine U5 ?_;refine .cl (fun H hs=> show dA (Mp prog) 67 #[.agg ⟨[.int .i64 ch.s0,.int .i64 ch.s1,.slice (some ⟨lb,lo,none⟩) ch.n lc,.int .i64 ch.a0,.int .i64 ch.a1,.int .i64 ch.r0,.int .i64 ch.r1,.slice (g'.blk.map fun b=> ⟨b,0,none⟩) g'.n g'.cap]⟩] H _ from by rw[M7];exact dA.is (.tuple ⟨[.int .i64 ((ch.on (zB mask (ch.n-1))).sec:Nat),.int .i64 (((ch.on (zB mask (ch.n-1))).bad (ch.on (zB mask (ch.n-1))).sec).getD 0),.bool false]⟩) (by rewrite [hw];rfl) (gH H (ch.on (zB mask (ch.n-1))) lb lo lc g'.cap _ ((hA.le hs.base).on pS (fun y hy=> hs.at_ y (by simp[hy]))) RU (zA hG hs.base))) ?_;refine U24 ?_;have wC:=ih ⟨(mask+1,g'),by simp only;omega,by simp only[bB];exact pS⟩ (by simp only;omega);simp only[bB] at wC;exact Tc.TE wC ⟨rfl,rfl,rfl,rfl,rfl,rfl,trivial⟩ (aDs _ _ _ _)
  ·have gY:LJ (zB mask (ch.n-1)) (ch.aC mask)=true->ch.aC (mask+1)=ch.aC mask:=fun h=> by
    show ch.oE _ mask=_;unfold Ch.oE;rw[h];rfl
   cases hb:ch.aC mask with
   | none=>
    rw[hb] at fin;refine U9 ?_;refine To.SA rfl dE rfl ?_;refine To.SA rfl dE rfl ?_;refine To.SA rfl dE rfl ?_;refine To.SA rfl dE rfl ?_;refine To.SA rfl dE rfl ?_;refine To.SA rfl dE rfl ?_;refine To.SA rfl dE rfl ?_;refine To.SA rfl dE rfl ?_;refine To.SA rfl dE rfl ?_;refine To.SA rfl dE rfl ?_;refine To.SA rfl dE rfl ?_;refine U5 ?_;exact fin _ _ ⟨rfl,⟨rfl,rfl,rfl,rfl,rfl,rfl,rfl,trivial⟩,rfl⟩
   | some b=>
    rw[hb] at fin gY g2 EK;have hbn:=PM ch mask b hb;simp only[Option.getD_some] at g2 EK;rw[nE] at g2;rw[nE] at pS;have aA4:∀H',eA H ([(b7,true,.cells ⟨[.int .i64 (mask:Nat)]⟩ 3 (0,0)),(b1,true,.cells ⟨(ch.ZI lb lo lc).cells.toList⟩ 26 (0,0))]++g.bl++g'.bl) H'->dA (Mp prog) 69 #[g'.val,g.val] H' (fun v H''=> H'.le H''/\v=.int .i64 (cmpL (tH (zB mask (ch.n-1))) (tH b))):=fun H' hs=>
     tV _ H' _ _ _ _ g'.n g.n g'.cap g.cap (by rw[M7];simp[tH]) (by rw[EK];simp[tH]) oM oM (UC.of pS (fun y hy=> hs.at_ y (by simp[hy]))).2 (UC.of g2 (fun y hy=> hs.at_ y (by simp[hy]))).2
    by_cases d1:b.length<(zB mask (ch.n-1)).length
    ·have bB:=gY (by unfold LJ;simp[d1]);refine AV ?_;refine To.SA rfl dE rfl ?_;refine To.SA rfl dE rfl ?_;refine To.SA rfl dE rfl ?_;refine To.SA rfl dE rfl ?_;refine fH ?_;have wC:=ih ⟨(mask+1,g),by simp only;omega,by simp only[bB];rw[nE];exact g2⟩ (by simp only;omega);simp only[bB] at wC;exact Tc.db wC
    ·by_cases d2:(zB mask (ch.n-1)).length=b.length
     ·by_cases d3:0<cmpL (tH (zB mask (ch.n-1))) (tH b)
      ·have bB:=gY (by unfold LJ;simp[d2,d3]);refine PW ?_;refine .cl (fun H hs=> aA4 H hs) ?_;refine fF ?_;have wC:=ih ⟨(mask+1,g),by simp only;omega,by simp only[bB];rw[nE];exact g2⟩ (by simp only;omega);simp only[bB] at wC;exact Tc.db wC
      ·have hns:LJ (zB mask (ch.n-1)) (some b)=false:=by unfold LJ;simp[d2,d3]
       refine PW ?_;refine .cl (fun H hs=> aA4 H hs) ?_;refine U7 ?_;exact fin _ _ ⟨hns,⟨rfl,rfl,rfl,rfl,rfl,rfl,rfl,trivial⟩,rfl⟩
     ·have hns:LJ (zB mask (ch.n-1)) (some b)=false:=by unfold LJ;simp[d1,d2]
      refine U25 ?_;exact fin _ _ ⟨hns,⟨rfl,rfl,rfl,rfl,rfl,rfl,rfl,trivial⟩,rfl⟩
def HK:List Value:= [.int .i64 0,.int .i64 0,.int .i64 (-2),.int .i64 2,.int .i64 0,.int .i64 0,.int .i64 (-2),.int .i64 2,.int .i64 0,.int .i64 0,.int .i64 (-2),.int .i64 2]
theorem EX {H:View}{b:Nat}(h:H b=some (true,.cells ⟨HK⟩ 38 (0,0))):kG H DX b 0 3 none:=by
 refine⟨⟨true,HK,38,(0,0),h,fun i hi=> ?_⟩,Nat.le_refl _,fun hm=> absurd hm (Nat.lt_irrefl 0)⟩;have RN:i<3:=hi;rcases(by omega:i=0\/i=1\/i=2) with rfl|rfl|rfl <;> rfl
theorem IQ:DX.Good:=by
 have z:(-1000000:Int)<=0/\(0:Int)<=1000000:=by decide
 have a:(-1000000:Int)<= -2/\(-2:Int)<=1000000:=by decide
 have b:(-1000000:Int)<=2/\(2:Int)<=1000000:=by decide
 have l:(⟨0,0,0,0,0,0, -2,2⟩:Lk).pH=true:=by decide +kernel
 exact⟨⟨by decide,by decide,fun _ _=> z,fun _ _=> z,fun _ _=> a,fun _ _=> b,fun i hi=> absurd hi (Nat.not_lt_zero i),fun i hi=> absurd hi (Nat.not_lt_zero _)⟩,by decide,by decide,by decide,fun _ _=> l⟩
section
variable(M:Md prog)(H:View)
theorem GN:dA M 13 #[] H (fun v H'=> H.le H'/\v=FX.val):=by
 refine .en func13 ntmps13 fun St c cs hK=> ?_;refine U2 ?_;refine .al fun b0=> ?_;refine U3 ?_;refine .cl (fun H hs=> EN M H 20 20) ?_;refine .cl (fun H hs=> EN M H 19 21) ?_;refine .cl (fun H hs=> EN M H (-3) 3) ?_;refine U4 ?_;refine .rt hK func13 results13 [_] ?_;exact okB
theorem wV:dA M 14 #[] H (fun v H'=> H.le H'/\v=dJ.val):=by
 refine .en func14 ntmps14 fun St c cs hK=> ?_;refine U2 ?_;refine .al fun b0=> ?_;refine U3 ?_;refine .cl (fun H hs=> GN M H) ?_;refine .al fun b1=> ?_;refine U4 ?_;refine .cl (fun H hs=> EN M H 0 1) ?_;refine U9 ?_;refine .rt hK func14 results14 [_] ?_;exact okB
theorem FN:dA M 26 #[] H (fun v H'=> H.le H'/\∃b:Nat,v=DX.ZI b 0 3/\True/\∀y∈ [(b,true,Obj.cells ⟨HK⟩ 38 (0,0))],H' y.1=some y.2/\H y.1=none):=by
 refine .en func26 ntmps26 fun St c cs hK=> ?_;refine U2 ?_;refine .al fun b0=> ?_;refine U3 ?_;refine .cl (fun H hs=> EN M H (-2) 2) ?_;refine U ?_;refine .al fun b1=> ?_;refine U3 ?_;refine Tc.dr [8] [1] mixed rfl ?_;refine .z 0 rfl (mA.tk fun H hs=> EN M H 20 20) ?_;refine .z 1 rfl (mA.tk fun H hs=> EN M H 20 20) ?_;refine .z 2 rfl (mA.tk fun H hs=> EN M H 19 21) ?_;refine V3 3 ?_;refine .ea 6 rfl (.bs (zz:=fun bl=> ⟨S2.mk sL (.inr sL),?_⟩));refine .nn 7 ?_;refine .e 8 2 ?_;refine .dn ?_;refine .rt hK func26 results26 [_] ?_;exact fun H' hs=> ⟨hs.base,bl,rfl,trivial,fun y hy=> by
  simp only[List.mem_singleton] at hy;subst hy;exact⟨hs.get (i:=0) rfl,hs.fresh (i:=0) (x:=(true,.cells ⟨HK⟩ 38 (0,0))) rfl⟩⟩
end
theorem BD(M:Md prog)(H:View)(A B:Option Addr)(l:List Int)(n m ca cb:Nat)(hn:n=l.length)(hm:m=l.length)(h6:l.length<=1000)(hA:UC H A l)(hB:UC H B l):dA M 29 #[.slice A n ca,.slice B m cb] H (fun v H'=> H.le H'/\v=.bool true):=by
 subst hn;subst hm;exact mI M H A B l _ ca cb rfl h6 hA hB
theorem jN(M:Md prog)(H:View)(s r e:Int)(A B:Option Addr)(l:List Int)(n m ca cb:Nat)(hn:n=l.length)(hm:m=l.length)(h6:l.length<=1000)(hA:UC H A l)(hB:UC H B l):
  dA M 28 #[.agg ⟨[.int .i64 s,.int .i64 r,.int .i64 e,.slice A n ca]⟩,.agg ⟨[.int .i64 s,.int .i64 r,.int .i64 e,.slice B m cb]⟩] H (fun v H'=> H.le H'/\v=.bool true):=by
 subst hn;subst hm;exact KL M H s r e A B l _ ca cb rfl h6 hA hB
theorem UC.lit {H:View}{b:Nat}{l:List Int}(h:H b=some (true,.cells ⟨kA l⟩ 3 (0,0))):UC H (some ⟨b,0,none⟩) l:=
 .inr ⟨b,0,true,kA l,3,(0,0),rfl,h,fun j hj=> by
  show(kA l)[0+(j:Int).toNat*1]? =_;rw[Nat.zero_add,Nat.mul_one,Int.toNat_natCast];unfold kA;rw[List.getElem?_map,List.getElem?_eq_getElem hj];rfl⟩
section
variable(M:Md prog)(H:View)
end
set_option maxHeartbeats 8000000
theorem t243:Told [0,243]:=⟨by decide,by decide,by decide⟩
theorem pV {H:View}{b:Nat}(h:H b=some (true,.cells ⟨[.int .i64 0,.int .i64 243]⟩ 3 (0,0))):lG H (some ⟨b,0,none⟩) [0,243]:=⟨b,0,true,_,3,(0,0),rfl,h,by decide,rfl⟩
theorem vL {p:Nat->Bool}{k:Nat}{l:List Nat}(h:(List.range k).filter p=l):WA p k=kA (tH l):=by
 rw[<-nE,<-h];rfl
theorem A7:DX.sec=0:=by unfold Ch.sec;simp[ZO.1]
theorem aCN:prog.eqGuardType prog.depth 23=false:=by kernel_rfl
theorem KN(a b:Int):flat en 2 23 [.int .i64 a,.int .i64 b]:=by
 refine⟨rfl,?_⟩;intro f hf;simp only[List.mem_cons,List.not_mem_nil,or_false] at hf;rcases hf with rfl|rfl
 ·exact⟨⟨_,rfl⟩,_,rfl,rfl,Nat.le_of_ble_eq_true rfl⟩
 ·exact⟨⟨_,rfl⟩,_,rfl,rfl,Nat.le_of_ble_eq_true rfl⟩
theorem VR(H:View)(hG:nC H):dA (Mp prog) 6 #[] H (fun v H'=> H.le H'/\v=.bool true):=by
 refine .en func6 ntmps6 fun St c cs hK=> ?_;refine U6 ?_;refine .cl (fun H hs=> GN _ H) ?_;refine .cl (fun H hs=> wV _ H) ?_;refine .al fun b1=> ?_;refine .al fun b2=> ?_;refine U6 ?_;refine .al fun b3=> ?_;refine U4 ?_;refine .cl (fun H hs=> EN _ H 19 21) ?_;refine U3 ?_;refine Tc.lift (L₂:= []) rfl (fun Hx hx=> ?_);have GZ:=zA hG hx.base;have hle:=hx.base;have x1:Hx b1=some (true,.cells ⟨FX.val.cells.toList⟩ 40 (0,0)):=hx.get (i:=2) rfl;have x2:Hx b2=some (true,.cells ⟨dJ.val.cells.toList⟩ 40 (0,0)):=hx.get (i:=1) rfl;have x3:Hx b3=some (true,.cells ⟨exM.val.cells.toList⟩ 40 (0,0)):=hx.get (i:=0) rfl;refine Tc.TE (R':= [(1,.pointer (some ⟨b1,0,none⟩)),(2,.pointer (some ⟨b2,0,none⟩)),(3,.pointer (some ⟨b3,0,none⟩))]) (L':= []) ?_ ⟨rfl,rfl,rfl,trivial⟩ (List.Sublist.refl _);refine U2 ?_;refine .e (Or.EA (fun g:Gl 3 1=> .tuple ⟨[g.val,.int .i64 0]⟩) Gl.bl (fun g:Gl 3 1=> g.l=EB (bA 16 7)) rfl rfl rfl rfl rfl dE tB (fun H hs=> .h (WZ _ H 16 dE)) (fun g1 J2=> ?_));refine U9 ?_;refine .e (Or.EA (fun g:Gl 3 1=> .tuple ⟨[g.val,.int .i64 0]⟩) Gl.bl (fun g:Gl 3 1=> g.l=WA dJ.FG 32) rfl rfl rfl rfl rfl dE tB (fun H hs=> .h (W6 _ H dJ (zA GZ hs.base) YO)) (fun g2 TV=> ?_));refine U9 ?_;refine .cl (fun H hs=> dA.is (.tuple ⟨[.int .i64 0,.int .i64 0]⟩) (by rewrite [IX];rfl) (J0 _ H dJ 0 (zA GZ hs.base) YO dE)) ?_;refine U9 ?_;refine .e (Or.EA (fun g:Gl 3 1=> .tuple ⟨[g.val,.int .i64 0,.int .i64 0]⟩) Gl.bl (fun g:Gl 3 1=> g.l=WA (dJ.yC 0) 32) rfl rfl rfl rfl rfl dE tB (fun H hs=> .h (dA.mono (zV _ H dJ 0 (zA GZ hs.base) YO dE (by rw[vL aM];decide)) (by rintro v H' ⟨h1,g,h2,h3,h4⟩;rw[PS] at h2;exact⟨h1,g,h2,h3,h4⟩))) (fun g3 hg3=> ?_));refine fF ?_;refine .e (Or.EA (fun g:Gl 3 1=> .tuple ⟨[zM 20 19 1 g,.bool true,.int .i64 0]⟩) Gl.bl (fun g:Gl 3 1=> g.l=kA [-3,3]) rfl rfl rfl rfl rfl dE tB (fun H hs=> .h (dA.mono (Q0 _ H dJ 0 (zA GZ hs.base) YO dE) (by rintro v H' ⟨h1,h2⟩;rw[LX] at h2;obtain⟨g,h3,h4,h5⟩:=h2;exact⟨h1,g,h3,h4,h5⟩))) (fun g4 hg4=> ?_));refine U4 ?_;refine .al fun b13=> ?_;refine U7 ?_;refine .cl (fun H hs=> dA.is (.tuple ⟨[.int .i64 3,.int .i64 0]⟩) (by rewrite [PV];rfl) (ZW _ H FX (zA GZ hs.base) OS)) ?_;refine U9 ?_;refine .e (Or.EA (fun g:Gl 3 1=> .tuple ⟨[g.val,.int .i64 0]⟩) Gl.bl (fun g:Gl 3 1=> g.l=WA FX.TG 41) rfl rfl rfl rfl rfl dE tB (fun H hs=> .h (I0 _ H FX (zA GZ hs.base) OS)) (fun g5 hg5=> ?_));refine U9 ?_;refine .e (.bs (zz:=fun bt1=> ?_));refine .e (Or.EA (fun g:Gl 3 1=> .tuple ⟨[g.val,.int .i64 0]⟩) Gl.bl (fun g:Gl 3 1=> g.l=WA (FX.xE [0,243]) 32) rfl rfl rfl rfl rfl dE tB (fun H hs=> .h (cX _ H FX (zA GZ hs.base) OS [0,243] t243 rfl (some ⟨bt1,0,none⟩) 2 (pV (hs.get (i:=0) rfl)))) (fun g6 hg6=> ?_));refine U9 ?_;refine .e (.bs (zz:=fun bt2=> ?_));refine .cl (fun H hs=> dA.is (.tuple ⟨[WB 20 20,.int .i64 0]⟩) (by rewrite [T1];rfl) (Y6 _ H exM 0 (zA GZ hs.base) w7 dE [0,243] t243 dE (by rw[OV];rfl) (some ⟨bt2,0,none⟩) 2 (pV (hs.get (i:=0) rfl)))) ?_;refine U3 ?_;refine .al fun b22=> ?_;refine U5 ?_;refine .e (Or.EA (fun b:Nat=> DX.ZI b 0 3) (fun b=> [(b,true,Obj.cells ⟨HK⟩ 38 (0,0))]) (fun _=> True) rfl rfl rfl rfl rfl dE (fun _=> by simp) (fun H hs=> .h (FN _ H)) (fun lb1 _=> ?_));refine .cl (fun H hs=> dA.is (.tuple ⟨[.int .i64 0,.int .i64 0,.bool true,.int .i64 0]⟩) (by rewrite [A7,ZO.1,ZO.2];rfl) (Z6 H DX lb1 0 3 0 none (EX (hs.at_ (lb1,true,.cells ⟨HK⟩ 38 (0,0)) (by simp))) IQ (zA GZ hs.base))) ?_;refine xK ?_;refine .e (Or.EA (fun b:Nat=> DX.ZI b 0 3) (fun b=> [(b,true,Obj.cells ⟨HK⟩ 38 (0,0))]) (fun _=> True) rfl rfl rfl rfl rfl dE (fun _=> by simp) (fun H hs=> .h (FN _ H)) (fun lb2 _=> ?_));refine .e (Or.EA (fun g:Gl 3 1=> .tuple ⟨[g.val,.bool true,.int .i64 0]⟩) Gl.bl (fun g:Gl 3 1=> g.l=EB [1]) rfl rfl rfl rfl rfl dE tB (fun H hs=> .h (dA.mono (N0 H DX lb2 0 3 none (EX (hs.at_ (lb2,true,.cells ⟨HK⟩ 38 (0,0)) (by simp))) IQ (zA GZ hs.base)) (by rintro v H' ⟨h1,g,h2,h3,h4⟩;rw[JX] at h2 h3;exact⟨h1,g,h2,h3,h4⟩))) (fun g7 hg7=> ?_));refine U8 ?_;refine Tc.lift (L₂:= []) rfl (fun Hy hy=> ?_);have y22:Hy b22=some (true,.cells ⟨[.int .i64 20,.int .i64 20]⟩ 23 (0,0)):=hy.get (i:=0) rfl;have y13:Hy b13=some (true,.cells ⟨[.int .i64 20,.int .i64 19,.int .i64 1,g4.val]⟩ 53 (0,0)):=hy.get (i:=3) rfl;obtain⟨n1,N1⟩:=UC.of (H:=Hy) (l:= [0,5]) (J2.trans (by rw[GX];rfl)) (fun y CN=> hy.at_ y (by simp[CN]));obtain⟨n2,N2⟩:=UC.of (H:=Hy) (TV.trans (oY _ _)) (fun y CN=> hy.at_ y (by simp[CN]));obtain⟨n3,N3⟩:=UC.of (H:=Hy) (l:= [0]) (hg3.trans (vL aM)) (fun y CN=> hy.at_ y (by simp[CN]));obtain⟨n4,N4⟩:=UC.of (H:=Hy) (l:= [-3,3]) hg4 (fun y CN=> hy.at_ y (by simp[CN]));obtain⟨n5,N5⟩:=UC.of (H:=Hy) (l:= [19,20,21]) (hg5.trans (vL HX)) (fun y CN=> hy.at_ y (by simp[CN]));obtain⟨n6,N6⟩:=UC.of (H:=Hy) (l:= [0]) (hg6.trans (vL S1)) (fun y CN=> hy.at_ y (by simp[CN]));obtain⟨n7,N7⟩:=UC.of (H:=Hy) (l:= [1]) hg7 (fun y CN=> hy.at_ y (by simp[CN]));have IE:=View.le_trans hle hy.base;clear hy x1 x2 x3;have l2:(ZN dJ.FG 32).length=16:=by unfold ZN;rw[List.length_map];exact BU.1
 have e2:(ZN dJ.FG 32)[0]?.getD 0=16:=by unfold ZN;rw[List.getElem?_map,BU.2];rfl
 rw[l2] at n2;obtain⟨gb2,gn2,gc2,gl2,gj2,q1,q2,q3,q4⟩:=g2;simp only at n2 N2;subst n2;rcases N2 with N2|⟨ab,ao,f2,gs2,gt2,gz2,hA,hB,hC⟩
 ·rw[N2] at l2;cases l2
 have hC0:=hC 0 oM;rw[e2] at hC0;cases gb2 with
 | none=> cases hA
 | some vb=>
 simp only[Option.map_some,Option.some.injEq,Addr.mk.injEq,and_true] at hA;obtain⟨rfl,rfl⟩:=hA;refine Tc.TE (R':= [(4,g1.val),(5,.int .i64 0),(6,.slice (some ⟨vb,0,none⟩) 16 gc2),(7,.int .i64 0),(8,.int .i64 0),(9,.int .i64 0),(10,g3.val),(11,.int .i64 0),(12,.int .i64 0),(13,.pointer (some ⟨b13,0,none⟩)),(14,.bool true),(15,.int .i64 0),(16,.int .i64 3),(17,.int .i64 0),(18,g5.val),(19,.int .i64 0),(20,g6.val),(21,.int .i64 0),
  (22,.pointer (some ⟨b22,0,none⟩)),(23,.int .i64 0),(24,.int .i64 0),(25,.int .i64 0),(26,.bool true),(27,.int .i64 0),(28,g7.val),(29,.bool true),(30,.int .i64 0)]) (L':= []) ?_ ⟨rfl,rfl,rfl,rfl,rfl,rfl,rfl,rfl,rfl,rfl,rfl,rfl,rfl,rfl,rfl,rfl,rfl,rfl,rfl,rfl,rfl,rfl,rfl,rfl,rfl,rfl,rfl,trivial⟩ (List.Sublist.refl _)
 refine U50 ?_;refine Tc.TE (R':= [(4,g1.val),(6,.slice (some ⟨vb,0,none⟩) 16 gc2),(8,.int .i64 0),(10,g3.val),(11,.int .i64 0),(13,.pointer (some ⟨b13,0,none⟩)),(14,.bool true),(16,.int .i64 3),(18,g5.val),(20,g6.val),
  (22,.pointer (some ⟨b22,0,none⟩)),(24,.int .i64 0),(25,.int .i64 0),(26,.bool true),(28,g7.val),(29,.bool true)]) (L':= []) ?_ ⟨rfl,rfl,rfl,rfl,rfl,rfl,rfl,rfl,rfl,rfl,rfl,rfl,rfl,rfl,rfl,rfl,trivial⟩ (List.Sublist.refl _)
 refine Tc.dr [] [] mixed rfl ?_;refine V12 0 ?_;refine .ea 12 rfl (.bs (zz:=fun bp=> ⟨S2.mk sL (.inr sL),?_⟩));refine .nn 13 ?_;refine .ea 14 rfl (Or.EA (σ:=Unit) (fun _=> .bool true) (fun _=> []) (fun _=> True) rfl rfl rfl rfl rfl dE (fun _=> by simp) (fun H hs=> .h (dA.mono (jN _ H 20 19 1 _ (some ⟨bp,0,none⟩) [-3,3] g4.n 2 g4.cap 2 n4 rfl dE (N4.le hs.base) (UC.lit (hs.get (i:=0) rfl))) (by rintro v H' ⟨h1,h2⟩;exact⟨h1,(),h2,trivial,by simp⟩))) (fun _ _=> ⟨S2.mk sL (.inr sL),?_⟩));refine V8 15 ?_;refine .z 23 rfl (mA.tk fun H hs=> EN _ H 20 20) ?_;refine .q 24 rfl (mA.neA (E:=en) true 2 rfl rfl rfl rfl rfl aCN dE (KN 20 20) (KN 20 20) ⟨fun _=> rfl,fun _=> rfl⟩) ?_;refine V17 25 ?_;refine .dn ?_;refine U3 ?_;refine Tc.TE (R':= [(4,g1.val),(6,.slice (some ⟨vb,0,none⟩) 16 gc2),(10,g3.val),(18,g5.val),(20,g6.val),(28,g7.val)]) (L':= []) ?_ ⟨rfl,rfl,rfl,rfl,rfl,rfl,trivial⟩ (List.nil_sublist _);refine U2 ?_;refine .e (.bs (zz:=fun c1=> ?_));refine .cl (fun H hs=> BD _ H _ (some ⟨c1,0,none⟩) [0,5] g1.n 2 g1.cap 2 n1 rfl dE (N1.le hs.base) (UC.lit (hs.get (i:=0) rfl))) ?_;refine yK ?_;refine .e (.bs (zz:=fun c2=> ?_));refine .cl (fun H hs=> BD _ H _ (some ⟨c2,0,none⟩) [0] g3.n 1 g3.cap 1 n3 rfl dE (N3.le hs.base) (UC.lit (hs.get (i:=0) rfl))) ?_;refine U3 ?_;refine .e (.bs (zz:=fun c3=> ?_));refine .cl (fun H hs=> BD _ H _ (some ⟨c3,0,none⟩) [19,20,21] g5.n 3 g5.cap 3 n5 rfl dE (N5.le hs.base) (UC.lit (hs.get (i:=0) rfl))) ?_;refine U3 ?_;refine .e (.bs (zz:=fun c4=> ?_));refine .cl (fun H hs=> BD _ H _ (some ⟨c4,0,none⟩) [0] g6.n 1 g6.cap 1 n6 rfl dE (N6.le hs.base) (UC.lit (hs.get (i:=0) rfl))) ?_;refine U3 ?_;refine .e (.bs (zz:=fun c5=> ?_));refine .cl (fun H hs=> BD _ H _ (some ⟨c5,0,none⟩) [1] g7.n 1 g7.cap 1 n7 rfl dE (N7.le hs.base) (UC.lit (hs.get (i:=0) rfl))) ?_;refine U3 ?_;refine .rt hK func6 results6 [_] ?_;exact fun H' hs=> ⟨View.le_trans IE hs.base,rfl⟩
set_option maxHeartbeats 4000000
theorem AX:prog.eqGuardType prog.depth 23=false:=by kernel_rfl
theorem aAY:prog.eqGuardType prog.depth 38=false:=by kernel_rfl
theorem IC(a b:Int):flat en 2 23 [.int .i64 a,.int .i64 b]:=by
 refine⟨rfl,?_⟩;intro f hf;simp only[List.mem_cons,List.not_mem_nil,or_false] at hf;rcases hf with rfl|rfl
 ·exact⟨⟨_,rfl⟩,_,rfl,rfl,Nat.le_of_ble_eq_true rfl⟩
 ·exact⟨⟨_,rfl⟩,_,rfl,rfl,Nat.le_of_ble_eq_true rfl⟩
theorem nM(a b c d:Int):flat en 3 38 [.int .i64 a,.int .i64 b,.int .i64 c,.int .i64 d]:=by
 refine⟨rfl,?_⟩;intro f hf;simp only[List.mem_cons,List.not_mem_nil,or_false] at hf;rcases hf with rfl|rfl
 ·exact⟨IC a b,_,rfl,rfl,Nat.le_of_ble_eq_true rfl⟩
 ·exact⟨IC c d,_,rfl,rfl,Nat.le_of_ble_eq_true rfl⟩
theorem nK {a b:Int}(h:oB a b=true):WJ a/\WJ b:=by
 have:=of_decide_eq_true h;exact⟨⟨oM,oM⟩,⟨oM,oM⟩⟩
theorem F4 {c:Ch}(h:c.dB=0):JL c:=by
 have h1:c.JA=0/\c.vH=true:=by
  unfold Ch.dB at h;split at h
  ·rename_i hp;exact⟨h,hp⟩
  ·exact absurd h dE
 obtain⟨hn,hl⟩:=Ch.vY h1.1;have hp:=h1.2;unfold Ch.vH at hp;simp only[Bool.and_eq_true] at hp;obtain⟨p1,p2,p3⟩:=hp;exact⟨hn,nK p1,nK p2,nK p3,fun i hi=> by
  obtain⟨g1,g2⟩:=hl i hi;exact⟨⟨⟨oM,oM⟩,⟨oM,oM⟩⟩,⟨⟨oM,oM⟩,⟨oM,oM⟩⟩⟩⟩
section
variable(M:Md prog)(H:View)
theorem rU(k:Ch)(A A':Option Addr)(lc lc':Nat)(hk:CB H k A lc)(hk':CB H k A' lc')(hn:k.n<=3000):
  dA M 11 #[k.fG A lc,k.fG A' lc'] H (fun v H'=> H.le H'/\v=.bool true):=by
 refine .en func11 ntmps11 fun St c cs hK=> ?_;refine U2 ?_;refine .bo fun b2=> ?_;refine .bo fun b3=> ?_;refine U9 ?_;refine .x (mA.neA (E:=en) true 2 rfl rfl rfl rfl rfl AX dE (IC k.s0 k.s1) (IC k.s0 k.s1) ⟨fun _=> rfl,fun _=> rfl⟩) ?_;refine U5 ?_;refine .x (mA.neA (E:=en) true 2 rfl rfl rfl rfl rfl AX dE (IC k.a0 k.a1) (IC k.a0 k.a1) ⟨fun _=> rfl,fun _=> rfl⟩) ?_;refine U6 ?_;refine .x (mA.neA (E:=en) true 2 rfl rfl rfl rfl rfl AX dE (IC k.r0 k.r1) (IC k.r0 k.r1) ⟨fun _=> rfl,fun _=> rfl⟩) ?_;refine wS ?_;refine Tc.db (Tc.IA (σ:= { i:Nat//i<=k.n }) (fun i=> ([(2,.pointer (some ⟨b2,0,none⟩)),(3,.pointer (some ⟨b3,0,none⟩)),(5,.int .i64 (i.1:Nat))],[(b3,true,.cells ⟨(k.fG A' lc').cells.toList⟩ 26 (0,0)),(b2,true,.cells ⟨(k.fG A lc).cells.toList⟩ 26 (0,0))])) (fun i=> k.n-i.1) ?_ ⟨0,Nat.zero_le _⟩);rintro⟨i,hi⟩ ih;show Tc M St _ _ _ _ [(2,.pointer (some ⟨b2,0,none⟩)),(3,.pointer (some ⟨b3,0,none⟩)),(5,.int .i64 (i:Nat))] [(b3,true,.cells ⟨(k.fG A' lc').cells.toList⟩ 26 (0,0)),(b2,true,.cells ⟨(k.fG A lc).cells.toList⟩ 26 (0,0))] _ _;by_cases c1:i=k.n
 ·clear ih;subst c1;refine AV ?_;refine .rt hK func11 results11 [_] ?_;exact okB
 ·have c2:i<k.n:=by omega
  obtain⟨_,h0|⟨ab,ao,f,gs,gt,gz,rfl,hb,hl⟩⟩:=hk
  ·omega
  obtain⟨_,h0|⟨ab',ao',f',gs',gt',gz',rfl,dP,O7⟩⟩:=hk'
  ·omega
  have f1:YB true 4 gs (ao+(i:Int).toNat*4)=some (CE (k.x i) (k.y i) (k.z i) (k.u i)):=by rw[Int.toNat_natCast];exact hl i c2
  have f2:YB true 4 gs' (ao'+(i:Int).toNat*4)=some (CE (k.x i) (k.y i) (k.z i) (k.u i)):=by rw[Int.toNat_natCast];exact O7 i c2
  refine yI ?_;refine Tc.dr [] [] mixed rfl ?_;refine V10 0 ?_;refine .q 10 rfl (mA.neA (E:=en) true 3 rfl rfl rfl rfl rfl aAY dE (nM (k.x i) (k.y i) (k.z i) (k.u i)) (nM (k.x i) (k.y i) (k.z i) (k.u i)) (by simp)) ?_;refine .dn ?_;refine U8 ?_;exact Tc.db (ih ⟨i+1,oM⟩ (by simp only;omega))
theorem YW(ch:Ch)(A:Option Addr)(lc:Nat)(t:Bool)(ht:t=decide (20<ch.n)):dA M 5 #[ch.fG A lc] H (fun v H'=> H.le H'/\v=.bool t):=by
 refine .en func5 ntmps5 fun St c cs hK=> ?_;by_cases h:20<ch.n
 ·rw[decide_eq_true h] at ht;subst ht;refine U2 ?_;refine .bo fun b1=> ?_;refine fH ?_;refine .rt hK func5 results5 [_] ?_;exact okB
 ·rw[decide_eq_false h] at ht;subst ht;refine U2 ?_;refine .bo fun b1=> ?_;refine fH ?_;refine .rt hK func5 results5 [_] ?_;exact okB
end
section
variable(H:View)
end
theorem sC {a b:Int}(ha:WJ a)(hb:WJ b):kD (XA a b)=true/\HC (XA a b)=a/\ZC (XA a b)=b/\MP (XA a b):=by
 obtain⟨a1,a2,a3,a4,a5,_,a7⟩:=sM ha;obtain⟨b1,b2,b3,b4,b5,_,b7⟩:=sM hb;unfold XA;split
 ·rename_i e
  subst e;obtain⟨c1,c2,c3⟩:=YJ a3;exact⟨c1.trans a1,c2.trans a2,c3.trans a2,a7,a4,a5⟩
 ·rename_i e
  obtain⟨c1,c2,c3⟩:=CI (q:=gF b) a3;refine⟨?_,c2.trans a2,c3.trans b2,by simp,?_,?_⟩
  ·rw[c1,a1,b1,a2,b2];simpa using e
  ·simp only[List.mem_append,List.mem_cons,not_or];exact⟨a4,by decide,b4⟩
  ·simp only[List.mem_append,List.mem_cons,not_or];exact⟨a5,by decide,b5⟩
theorem iW:MP IJ:=⟨by decide,by decide,by decide⟩
theorem dW:MP lI:=⟨by decide,by decide,by decide⟩
def IK(x:Int×Int×Int×Int):List (List UInt8):= [lI,XA x.1 x.2.1,XA x.2.2.1 x.2.2.2]
def L0(x:Int×Int×Int×Int):Prop:=(WJ x.1/\WJ x.2.1)/\(WJ x.2.2.1/\WJ x.2.2.2)
theorem lR {x:Int×Int×Int×Int}(h:L0 x):FA 59 (bD 59 (IK x))=IK x/\(10:UInt8) ∉ bD 59 (IK x)/\bD 59 (IK x)≠ []:=
 dV (l:= [XA x.1 x.2.1,XA x.2.2.1 x.2.2.2]) fun q hq=> by
  simp only[List.mem_cons,List.not_mem_nil,or_false] at hq;rcases hq with rfl|rfl|rfl
  ·exact dW
  ·exact(sC h.1.1 h.1.2).2.2.2
  ·exact(sC h.2.1 h.2.2).2.2.2
theorem yY {x:Int×Int×Int×Int}(h:L0 x):KM (bD 59 (IK x))=some (.tY x.1 x.2.1 x.2.2.1 x.2.2.2):=by
 obtain⟨p1,p2,p3,_⟩:=sC h.1.1 h.1.2;obtain⟨q1,q2,q3,_⟩:=sC h.2.1 h.2.2;unfold KM;rw[(lR h).1];show NZ [lI,XA x.1 x.2.1,XA x.2.2.1 x.2.2.2]=_;generalize XA x.1 x.2.1=v at p1 p2 p3;generalize XA x.2.2.1 x.2.2.2=w at q1 q2 q3;have e:NZ [lI,v,w]=some (.tY (HC v) (ZC v) (HC w) (ZC w)):=if_pos ⟨rfl,by rw[p1,q1];rfl⟩;rw[e,p2,p3,q2,q3]
theorem PK:∀(L:List (Int×Int×Int×Int)) (d:Nat) (t:rQ),(∀x∈L,L0 x)->YC (L.map fun x=> bD 59 (IK x)) (d+1) t=.inl { t with ls:=t.ls++L }
 | [],_,t,_=> by
  show Sum.inl t=_;rw[List.append_nil]
 | x::L,d,t,h=> by
  have hx:=h x List.mem_cons_self;rw[List.map_cons,AG _ _ _ (yY hx) rfl,PK L (d+1) _ fun y hy=> h y (List.mem_cons_of_mem _ hy)];show Sum.inl { t with ls:=(t.ls++[x])++L }=_;rw[List.append_assoc];rfl
def Ch.FE(c:Ch):List (Int×Int×Int×Int):=(List.range c.n).map fun i=> (c.x i,c.y i,c.z i,c.u i)
def Ch.EZ(c:Ch):rQ:=⟨c.s0,c.s1,c.a0,c.a1,c.r0,c.r1,c.FE⟩
def sI(c:Ch):List (List UInt8):=bD 59 (JG c)::c.FE.map fun x=> bD 59 (IK x)
theorem jK(c:Ch):c.FE.length=c.n:=by simp[Ch.FE]
theorem KR(c:Ch){i:Nat}(h:i<c.n):c.FE[i]?.getD (0,0,0,0)=(c.x i,c.y i,c.z i,c.u i):=by
 unfold Ch.FE;rw[List.getElem?_map,List.getElem?_range h];rfl
theorem pO {c:Ch}(hp:JL c):∀x∈c.FE,L0 x:=fun x hx=> by
 obtain⟨i,hi,rfl⟩:=List.mem_map.1 hx;exact hp.l i (List.mem_range.1 hi)
theorem WQ {c:Ch}(hp:JL c):FA 59 (bD 59 (JG c))=JG c/\(10:UInt8) ∉ bD 59 (JG c)/\bD 59 (JG c)≠ []:=
 dV (l:= [XA c.s0 c.s1,XA c.a0 c.a1,XA c.r0 c.r1]) fun q hq=> by
  simp only[List.mem_cons,List.not_mem_nil,or_false] at hq;rcases hq with rfl|rfl|rfl|rfl
  ·exact iW
  ·exact(sC hp.s.1 hp.s.2).2.2.2
  ·exact(sC hp.a.1 hp.a.2).2.2.2
  ·exact(sC hp.r.1 hp.r.2).2.2.2
theorem QX {c:Ch}(hp:JL c):KM (bD 59 (JG c))=some (.EY c.s0 c.s1 c.a0 c.a1 c.r0 c.r1):=by
 obtain⟨p1,p2,p3,_⟩:=sC hp.s.1 hp.s.2;obtain⟨q1,q2,q3,_⟩:=sC hp.a.1 hp.a.2;obtain⟨r1,r2,r3,_⟩:=sC hp.r.1 hp.r.2;unfold KM;rw[(WQ hp).1];unfold JG;generalize XA c.s0 c.s1=v at p1 p2 p3;generalize XA c.a0 c.a1=w at q1 q2 q3;generalize XA c.r0 c.r1=x at r1 r2 r3;have e:NZ [IJ,v,w,x]=some (.EY (HC v) (ZC v) (HC w) (ZC w) (HC x) (ZC x)):=if_pos ⟨rfl,by rw[p1,q1,r1];rfl⟩;rw[e,p2,p3,q2,q3,r2,r3]
theorem SR {c:Ch}(hp:JL c):∀s∈sI c,(10:UInt8) ∉ s/\s≠ []:=fun s hs=> by
 rcases List.mem_cons.1 hs with rfl|hs
 ·exact(WQ hp).2
 ·obtain⟨x,hx,rfl⟩:=List.mem_map.1 hs;exact(lR (pO hp x hx)).2
theorem QK(c:Ch):wE c=feed (sI c):=by
 unfold wE OB feed sI Ch.FE;simp only[List.map_map,List.flatMap_cons,List.flatMap_map,kI,Function.comp_def,IK,tT]
theorem BV {c:Ch}:c.EZ.ch.dB=c.dB:=by
 have hn:c.EZ.ch.n=c.n:=jK c;have hl:∀i,i<c.n->c.EZ.ch.aE i=c.aE i:=fun i hi=> by
  have h:=KR c hi;unfold Ch.aE;show(oD (c.FE[i]?.getD (0,0,0,0)).1 (c.FE[i]?.getD (0,0,0,0)).2.1&&JD (c.FE[i]?.getD (0,0,0,0)).2.2.1 (c.FE[i]?.getD (0,0,0,0)).2.2.2)=_;rw[h]
 have ha:xC c.EZ.ch.aE c.n=xC c.aE c.n:=by
  rw[Bool.eq_iff_iff,PE,PE];exact forall_congr' fun i=> forall_congr' fun hi=> by rw[hl i hi]
 unfold Ch.dB Ch.JA;rw[hn,ha];rfl
theorem ET {c:Ch}(hp:JL c)(ha:c.dB=0){s:List UInt8}(h:bG s=sI c):HF s=(c.EZ.ch,0,0):=by
 have e:YC (sI c) 0 aL=.inl c.EZ:=by
  unfold sI;rw[AG _ _ _ (QX hp) rfl,PK _ 0 _ (pO hp)];rfl
 unfold HF;rw[h,e];simp only[BV,ha,if_true];rw[if_neg (by unfold sI;simp)]
theorem G1(c:Ch)(A:Option Addr)(lc:Nat):c.EZ.ch.fG A lc=c.fG A lc:=by
 unfold Ch.fG;rw[show c.EZ.ch.n=c.n from jK c];rfl
theorem IV {c:Ch}{H:View}{A:Option Addr}{lc:Nat}(h:CB H c.EZ.ch A lc):CB H c A lc:=by
 have hn:c.EZ.ch.n=c.n:=jK c;obtain⟨h1,h2⟩:=h;rw[hn] at h1 h2;refine⟨h1,h2.imp id fun⟨lb,lo,f,gs,gt,gz,e1,e2,e3⟩=> ⟨lb,lo,f,gs,gt,gz,e1,e2,fun i hi=> ?_⟩⟩;have h:=KR c hi;have h4:=e3 i hi;rw[h4];show some (CE (c.FE[i]?.getD (0,0,0,0)).1 (c.FE[i]?.getD (0,0,0,0)).2.1 (c.FE[i]?.getD (0,0,0,0)).2.2.1 (c.FE[i]?.getD (0,0,0,0)).2.2.2)=_;rw[h]
section
variable(H:View)
theorem vK(M:Md prog)(hG:nC H)(c:Ch)(hp:JL c)(ha:c.dB=0)(s:List UInt8)(hm:s.length<=2000)(h:bG s=sI c):
  dA M 9 #[nA s] H (fun v H'=> H.le H'/\∃A lc,v=.tuple ⟨[c.fG A lc,.int .i64 0,.int .i64 0]⟩/\CB H' c A lc):=
 dA.mono (xV M H hG s hm) fun v H' hv=> by
  obtain⟨h1,A,lc,h2,h3⟩:=hv;rw[ET hp ha h] at h2 h3;exact⟨h1,A,lc,by rw[h2,G1];rfl,IV h3⟩
theorem RZ {St:View->Goroutine->Prop}{cs:List Frame}(hG:nC H)(hP:Pow H)(ch:Ch)(A:Option Addr)(lc:Nat)(hA:CB H ch A lc)
  (hR:∀(H₀:View) (R:Rg) (L:Bl) (kk:List Item),lk R 2=some (.bool true)->H.le H₀->Tc (Mp prog) St 76 ⟨4,.normal,none⟩ H₀ cs R L [] (.code .ret::kk)):
  Tc (Mp prog) St 76 ⟨4,.normal,none⟩ H cs (BI [ch.fG A lc]) [] [] [.code (nG Tryz.f4)]:=by
 have bT:=fun(H':View) (h:H.le H')=> VR H' (zA hG h);have hgr:=fun(H':View)=> YW (Mp prog) H' ch A lc _ rfl;by_cases hg:20<ch.n
 ·rw[decide_eq_true hg] at hgr;refine U2 ?_;refine .bo fun b1=> ?_;refine U6 ?_;refine .cl (fun H hs=> hgr H) ?_;refine U4 ?_;refine .cl (fun H hs=> bT H hs.base) ?_;refine U2 ?_;exact hR _ _ _ _ rfl (View.le_refl _)
 ·rw[decide_eq_false hg] at hgr;have Z2:=fun(H':View) (h:H.le H')=> MT (Mp prog) H' ch A lc (hA.le h);by_cases ha:ch.dB=0
  ·rw[ha] at Z2;have hp:=F4 ha;have hpr:=fun(H':View) (h:H.le H')=> bX (Mp prog) H' (zA hG h) (hP.le h) ch A lc (hA.le h) ha hp;have htf:bG (wE ch)=sI ch:=by
    unfold bG;rw[QK];exact wO _ fun s hs=> (SR hp s hs).1
   have htc:bG (wE ch).dropLast=sI ch:=by
    unfold bG;rw[QK];exact YR _ (SR hp)
   have hle:=CG hp ch.n (Nat.le_refl _);have C6:=hp.n;have YV:1<=(wE ch).length:=by unfold wE OB kI;simp;omega
   have hlen:(wE ch).length<=2000:=by show(OB ch ch.n).length<=_;omega
   have SW:=fun(H':View) (h:H.le H')=> vK H' (Mp prog) (zA hG h) ch hp ha (wE ch) hlen htf;have hpc:=fun(H':View) (h:H.le H')=> vK H' (Mp prog) (zA hG h) ch hp ha (wE ch).dropLast (by rw[List.length_dropLast];omega) htc;clear htf htc hle;generalize wE ch=t at hpr YV SW hpc hlen;have t1:(t.drop ((0:Nat):Int).toNat).take ((((t.length:Nat):Int)-1).toNat-((0:Nat):Int).toNat)=t.dropLast:=by
    rw[show(((t.length:Nat):Int)-1).toNat=t.length-1 by omega,List.dropLast_eq_take];rfl
   refine U2 ?_;refine .bo fun b1=> ?_;refine U6 ?_;refine .cl (fun H hs=> hgr H) ?_;refine U6 ?_;refine .cl (fun H hs=> hpr H hs.base) ?_;refine fH ?_;refine .cl (fun H hs=> Z2 H hs.base) ?_;refine U20 ?_;refine To.OF rfl rfl rfl rfl rfl rfl dE (TC.h (SW H (View.le_refl _))) (fun v H₁ hv=> ?_);obtain⟨h01,A1,lc1,rfl,aT⟩:=hv;refine U4 ?_;refine .al fun b5=> ?_;refine uQ ?_;refine .cl (fun H hs=> rU (Mp prog) H ch A1 A lc1 lc (aT.le hs.base) (hA.le (View.le_trans h01 hs.base)) oM) ?_;refine fF ?_;refine .x (mA.OM (E:=en) rfl rfl rfl rfl rfl rfl oM oM oM t1) ?_;refine To.OF rfl rfl rfl rfl rfl rfl dE (TC.h (hpc H₁ h01)) (fun v H₂ hv=> ?_);obtain⟨h12,A2,lc2,rfl,yN⟩:=hv;refine wS ?_;refine .cl (fun H hs=> rU (Mp prog) H ch A2 A lc2 lc (yN.le hs.base) (hA.le (View.le_trans h01 (View.le_trans h12 hs.base))) oM) ?_;refine U2 ?_;refine .cl (fun H hs=> bT H (View.le_trans h01 (View.le_trans h12 hs.base))) ?_;refine U3 ?_;exact hR _ _ _ _ rfl (View.le_trans h01 h12)
  ·have hpr:=fun(H':View) (h:H.le H')=> yV (Mp prog) H' (zA hG h) ch A lc (hA.le h) ha;have e1:iA .eql .i64 ch.dB 0=some (.bool false):=XB ha;have e2:iA .neq .i64 ch.dB 0=some (.bool true):=NC ha;generalize ch.dB=a at Z2 hpr e1 e2;refine U2 ?_;refine .bo fun b1=> ?_;refine U6 ?_;refine .cl (fun H hs=> hgr H) ?_;refine U6 ?_;refine .cl (fun H hs=> hpr H hs.base) ?_;refine fH ?_;refine .cl (fun H hs=> Z2 H hs.base) ?_;refine xK ?_;refine .cl (fun H hs=> bT H hs.base) ?_;refine U3 ?_;exact hR _ _ _ _ rfl (View.le_refl _)
end
end Go.Proofs.YtgkmnalhddmclaaGreatDoor
