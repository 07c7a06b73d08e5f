/-
 Texts of the proofs over baudot/dial.
-/
import Derived.Test.YtgkmnalhddmclaaGreatDoorT12
namespace Go.Proofs.YtgkmnalhddmclaaGreatDoor
open Go.RL Go.Proofs.Tryz
set_option maxRecDepth 10000
set_option maxHeartbeats 4000000
theorem kM {l:List Int}(h:Told l):∀x∈cD l, -10000<=x/\x<=10000:=by
 intro x hx;unfold cD at hx;rcases List.mem_append.1 hx with h1|h1
 ·have:=h.max x h1;omega
 ·have:=(List.mem_replicate.1 h1).2;omega
theorem rW {l:List Int}(h:l.length<=6):SB true 6 (mA (cD l)) 0=some (.agg ⟨mA (cD l)⟩):=by
 have VM:=PE h;unfold SB;have e1:Nat.ble (0+6) (mA (cD l)).length=true:=by rw[sA,VM];rfl
 simp only[e1];rw[List.drop_zero,List.take_of_length_le (by rw[sA,VM];exact Nat.le_refl _)]
def Lk.aF(k:Lk)(l:List Int)(c:Nat):Bool:=decide ((bA c 7).length=l.length)&&(k.TL (bA c 7) (cD l)).isSome
def aBP(o:Option (Int×Int))(H:View)(v:Value)(H':View):Prop:=H.le H'/\v=(match o with|some (a,b)=> .tuple ⟨[rB a b,.int .i64 0]⟩|none=> .tuple ⟨[rB 0 0,.int .i64 10]⟩)
section
variable(M:Md prog)(H:View)
theorem CP(m:Nat)(h:m=2)(b cap:Nat)(hb:H b=some (true,.cells ⟨[.int .i64 2,.int .i64 4,.int .i64 6]⟩ 3 (0,0))):cA M 62 #[.slice (some ⟨b,0,none⟩) 3 cap,.int .i64 (m:Nat)] H (fun v H'=> H.le H'/\v=.bool true):=by
 subst h;exact AT M H b cap hb
theorem QX(k:Lk)(hk:k.MH)(l:List Int)(hl:Told l)(h2:2<=l.length)(A:Option Addr)(cap b3 b2 b7:Nat)(hb3:H b3=some (true,.cells ⟨[.slice A l.length cap]⟩ 43 (0,0)))(hb2:H b2=some (true,.cells ⟨k.val.cells.toList⟩ 40 (0,0)))
  (hb7:H b7=some (true,.cells ⟨mA (cD l)⟩ 127 (0,0))):WN M H (.func (.func 64) #[] #[.pointer (some ⟨b3,0,none⟩),.pointer (some ⟨b2,0,none⟩),.pointer (some ⟨b7,0,none⟩)]) 32 (k.aF l):=fun i hi H' hle=> by
 refine UC.of (first:= []) (captured:= [_,_,_]) aDL rfl ?_;have h3:=hle _ _ hb3;have B8:=hle _ _ hb2;have h7:=hle _ _ hb7;have fP:=rW hl.len;refine .en func64 ntmps64 fun St c cs hK=> ?_;refine U7 ?_;refine .e (Or.uA (FH i) (oG i) (fun x=> (bA i 7).length<=x.2.1) rfl rfl rfl rfl rfl dE (qC i) (fun H hs=> .h (HU M H i hi)) (fun x hx=> ?_));refine .al fun b6=> ?_;refine U4 ?_;by_cases hlen:(bA i 7).length=l.length
 ·refine eF ?_;cases ht:k.TL (bA i 7) (cD l) with
  | none=>
   have hso:k.aF l i=false:=by unfold Lk.aF;rw[ht];simp
   refine U5 ?_;refine .cl (fun H hs=> cA.is (.tuple ⟨[rB 0 0,.bool false]⟩) (by rewrite [ht];rfl) (UQ M H k hk i x.1 x.2.1 (cD l) hi (ED fun y hy=> hs.at_ y (by simp[hy])) hx oM (PE hl.len) (kM hl))) ?_;refine U3 ?_;refine .al fun b8=> ?_;refine U8 ?_;refine .rt hK func64 results64 [_] ?_;exact fun H2 hs=> ⟨hs.base,by rw[hso];rfl⟩
  | some ab=>
   obtain⟨a,b⟩:=ab;have hso:k.aF l i=true:=by unfold Lk.aF;rw[ht,decide_eq_true hlen];rfl
   refine U5 ?_;refine .cl (fun H hs=> cA.is (.tuple ⟨[rB a b,.bool true]⟩) (by rewrite [ht];rfl) (UQ M H k hk i x.1 x.2.1 (cD l) hi (ED fun y hy=> hs.at_ y (by simp[hy])) hx oM (PE hl.len) (kM hl))) ?_;refine U3 ?_;refine .al fun b8=> ?_;refine U8 ?_;refine .rt hK func64 results64 [_] ?_;exact fun H2 hs=> ⟨hs.base,by rw[hso];rfl⟩
 ·have hso:k.aF l i=false:=by unfold Lk.aF;rw[decide_eq_false hlen];rfl
  refine aJ ?_;refine .rt hK func64 results64 [_] ?_;exact fun H2 hs=> ⟨hs.base,by rw[hso];rfl⟩
theorem wY(k:Lk)(hG:FC H)(hk:k.ok=true)(l:List Int)(hl:Told l)(h2:l.length=2)(A:Option Addr)(cap:Nat)(hT:TG H A l):cA M 23 #[k.val,.slice A l.length cap] H (AV (fB (k.aF l) 32) H):=by
 refine .en func23 ntmps23 fun St c cs hK=> ?_;have VM:=PE hl.len;have lA:Nat.beq (mA (cD l)).length 6=true:=by rw[sA,VM];rfl
 have lB:(mA (cD l)).all single=true:=by
  rw[List.all_eq_true];intro y hy;obtain⟨z,_,rfl⟩:=List.mem_map.1 hy;rfl
 have lC:IE [Value.int .i64 0,.int .i64 0,.int .i64 0,.int .i64 0,.int .i64 0,.int .i64 0] 0 (mA (cD l))=mA (cD l):=by
  unfold IE;rw[List.take_zero,List.nil_append,List.drop_eq_nil_of_le (by rw[sA,VM];simp),List.append_nil]
 refine U2 ?_;refine .bo fun b2=> ?_;refine .bo fun b3=> ?_;refine U7 ?_;refine .cl (fun H hs=> gD M H k (HA hG hs.base) hk) ?_;refine JL ?_;refine .e (.bs (zz:=fun b4=> ?_));refine U2 ?_;refine .cl (fun H hs=> CP M H l.length h2 b4 3 (hs.get (i:=0) rfl)) ?_;refine U7 ?_;refine .cl (fun H hs=> E1 M H l hl A cap (hT.le hs.base)) ?_;refine U3 ?_;refine .al fun b7=> ?_;refine .e (Or.storeT (E:=en) 0 rfl rfl rfl rfl rfl lA rfl (by exact rfl) lB rfl lC ?_);refine aJ ?_;refine .e (Or.uA Gl.val Gl.bl (fun g:Gl 3 1=> g.l=fB (k.aF l) 32) rfl rfl rfl rfl rfl dE EB (fun H hs=> .h (wQ M H 32 _ (k.aF l) dE (QX M H k (Lk.NL hk) l hl oM A cap b3 b2 b7 (hs.get (i:=2) rfl) (hs.get (i:=3) rfl) (hs.get (i:=0) rfl)))) (fun g hg=> ?_));refine U3 ?_;refine .rt hK func23 results23 [_,_] ?_;exact fun H' hs=> ⟨hs.base,g,rfl,hg,fun y hy=> ⟨hs.at_ y (by simp[hy]),hs.out y (by simp[hy])⟩⟩
theorem v9(k:Lk)(code:Nat)(hG:FC H)(hk:k.ok=true)(hc:code<32)(l:List Int)(hl:Told l)(h2:2<=l.length)(hlen:l.length=(bA code 7).length)(A:Option Addr)(cap:Nat)(hT:TG H A l):
  cA M 24 #[k.val,.int .i64 code,.slice A l.length cap] H (aBP (k.TL (bA code 7) (cD l)) H):=by
 refine .en func24 ntmps24 fun St c cs hK=> ?_;have VM:=PE hl.len;have fP:=rW hl.len;have lA:Nat.beq (mA (cD l)).length 6=true:=by rw[sA,VM];rfl
 have lB:(mA (cD l)).all single=true:=by
  rw[List.all_eq_true];intro y hy;obtain⟨z,_,rfl⟩:=List.mem_map.1 hy;rfl
 have lC:IE [Value.int .i64 0,.int .i64 0,.int .i64 0,.int .i64 0,.int .i64 0,.int .i64 0] 0 (mA (cD l))=mA (cD l):=by
  unfold IE;rw[List.take_zero,List.nil_append,List.drop_eq_nil_of_le (by rw[sA,VM];simp),List.append_nil]
 refine U2 ?_;refine .bo fun b3=> ?_;refine .al fun b6=> ?_;refine U6 ?_;refine .e (Or.uA (fun x=> .tuple ⟨[k.val,FH code x,.int .i64 0]⟩) (oG code) (fun x=> (bA code 7).length<=x.2.1) rfl rfl rfl rfl rfl dE (qC code) (fun H hs=> .h (aAC M H k code (HA hG hs.base) hk hc)) (fun x hx=> ?_));refine U4 ?_;refine .al fun b8=> ?_;refine .al fun b9=> ?_;refine U27 ?_;refine .cl (fun H hs=> E1 M H l hl A cap (hT.le hs.base)) ?_;refine U3 ?_;refine .al fun b11=> ?_;refine .e (Or.storeT (E:=en) 0 rfl rfl rfl rfl rfl lA rfl (by exact rfl) lB rfl lC ?_);refine eF ?_;cases ht:k.TL (bA code 7) (cD l) with
 | none=>
  refine U4 ?_;refine .cl (fun H hs=> cA.is (.tuple ⟨[rB 0 0,.bool false]⟩) (by rewrite [ht];rfl) (UQ M H k (Lk.NL hk) code x.1 x.2.1 (cD l) hc (ED fun y hy=> hs.at_ y (by simp[hy])) hx oM (PE hl.len) (kM hl))) ?_;refine U3 ?_;refine .al fun b12=> ?_;refine bJ ?_;refine .rt hK func24 results24 [_,_] ?_;exact fun H2 hs=> ⟨hs.base,by rw[ht];rfl⟩
 | some ab=>
  obtain⟨a,b⟩:=ab;refine U4 ?_;refine .cl (fun H hs=> cA.is (.tuple ⟨[rB a b,.bool true]⟩) (by rewrite [ht];rfl) (UQ M H k (Lk.NL hk) code x.1 x.2.1 (cD l) hc (ED fun y hy=> hs.at_ y (by simp[hy])) hx oM (PE hl.len) (kM hl))) ?_;refine U3 ?_;refine .al fun b12=> ?_;refine xT ?_;refine .rt hK func24 results24 [_,_] ?_;exact fun H2 hs=> ⟨hs.base,by rw[ht];rfl⟩
end
def FM(a b:Int):Int:=if a<b then -1 else if b<a then 1 else 0
def cmpL:List Int->List Int->Int
 | [],[]=> 0
 | [],_::_=> -1
 | _::_,[]=> 1
 | a::l,b::m=> if FM a b=0 then cmpL l m else FM a b
theorem WW {l m:List Int}{j:Nat}(h1:j<l.length)(h2:j<m.length):cmpL (l.drop j) (m.drop j)=if FM (l[j]?.getD 0) (m[j]?.getD 0)=0 then cmpL (l.drop (j+1)) (m.drop (j+1)) else FM (l[j]?.getD 0) (m[j]?.getD 0):=by
 rw[List.drop_eq_getElem_cons h1,List.drop_eq_getElem_cons h2,List.getElem?_eq_getElem h1,List.getElem?_eq_getElem h2];rfl
section
variable(M:Md prog)(H:View)
theorem lW(x:Int):cA M 160 #[.int .i64 x] H (fun v H'=> H.le H'/\v=.bool false):=by
 refine .en func160 ntmps160 fun St c cs hK=> ?_;refine eF ?_;refine .rt hK func160 results160 [_] ?_;exact okB
theorem o8(a b:Int):cA M 109 #[.int .i64 a,.int .i64 b] H (fun v H'=> H.le H'/\v=.int .i64 (FM a b)):=by
 refine .en func109 ntmps109 fun St c cs hK=> ?_;refine U7 ?_;refine .cl (fun H hs=> lW M H a) ?_;refine U5 ?_;refine .cl (fun H hs=> lW M H b) ?_;refine pH ?_;by_cases c1:a<b
 ·have e:FM a b= -1:=if_pos c1;refine zI ?_;refine .rt hK func109 results109 [_] ?_;exact fun H' hs=> ⟨hs.base,by rw[e];rfl⟩
 ·by_cases c2:b<a
  ·have e:FM a b=1:=by unfold FM;rw[if_neg c1,if_pos c2]
   refine BV ?_;refine .rt hK func109 results109 [_] ?_;exact fun H' hs=> ⟨hs.base,by rw[e];rfl⟩
  ·have e:FM a b=0:=by unfold FM;rw[if_neg c1,if_neg c2]
   refine X1 ?_;refine .rt hK func109 results109 [_] ?_;exact fun H' hs=> ⟨hs.base,by rw[e];rfl⟩
theorem GW(A B:Option Addr)(l m:List Int)(n k ca cb:Nat)(hn:n=l.length)(hk:k=m.length)(h6:n<=1000)(hk6:k<=1000)(hA:oD H A l)(hB:oD H B m):cA M 69 #[.slice A n ca,.slice B k cb] H (fun v H'=> H.le H'/\v=.int .i64 (cmpL l m)):=by
 refine .en func69 ntmps69 fun St c cs hK=> ?_;refine JL ?_;refine Tc.db (Tc.vA (σ:= { j:Nat//j<=n/\j<=k/\cmpL (l.drop j) (m.drop j)=cmpL l m }) (fun j=> ([(0,.slice A n ca),(1,.slice B k cb),(4,.int .i64 0),(9,.slice A n ca),(10,.int .i64 (n:Nat)),(11,.int .i64 (j.1:Nat))],[])) (fun j=> n-j.1) ?_ ⟨0,oM,oM,rfl⟩);rintro⟨j,hj,hjk,hcm⟩ ih;show Tc M St _ _ _ _ [(0,.slice A n ca),(1,.slice B k cb),(4,.int .i64 0),(9,.slice A n ca),(10,.int .i64 (n:Nat)),(11,.int .i64 (j:Nat))] [] _ _;by_cases c1:j=n
 ·subst c1;rw[List.drop_eq_nil_of_le oM] at hcm;by_cases c2:j<k
  ·have e:cmpL l m= -1:=by
    rw[<-hcm,List.drop_eq_getElem_cons oM];rfl
   refine wR ?_;refine .rt hK func69 results69 [_] ?_;exact fun H' hs=> ⟨hs.base,by rw[e];rfl⟩
  ·have e:cmpL l m=0:=by
    rw[<-hcm,List.drop_eq_nil_of_le oM];rfl
   refine w9 ?_;refine .rt hK func69 results69 [_] ?_;exact fun H' hs=> ⟨hs.base,by rw[e];rfl⟩
 ·have c2:j<n:=by omega
  rcases hA with hA|⟨a1,a2,a3,a4,a5,a6,rfl,a7,a8⟩
  ·rw[hA] at hn;simp at hn;omega
  have f1:=a8 j oM;by_cases c3:j=k
  ·have e:cmpL l m=1:=by
    have em:m.drop j= []:=List.drop_eq_nil_of_le oM;rw[<-hcm,em,List.drop_eq_getElem_cons oM];rfl
   refine U30 ?_;refine .rt hK func69 results69 [_] ?_;exact fun H' hs=> ⟨hs.base,by rw[e];rfl⟩
  ·have c4:j<k:=by omega
   rcases hB with hB|⟨b1,b2,b3,b4,b5,b6,rfl,b7,b8⟩
   ·rw[hB] at hk;simp at hk;omega
   have f2:=b8 j oM;have kB:=WW (l:=l) (m:=m) (j:=j) oM oM;rw[hcm] at kB;by_cases c5:FM (l[j]?.getD 0) (m[j]?.getD 0)=0
   ·rw[if_pos c5] at kB;refine U39 ?_;refine .cl (fun H hs=> cA.is (.int .i64 0) (by rewrite [c5];rfl) (o8 M H (l[j]?.getD 0) (m[j]?.getD 0))) ?_;refine zH ?_;exact Tc.db (ih ⟨j+1,oM,oM,kB.symm⟩ (by simp only;omega))
   ·rw[if_neg c5] at kB;refine U39 ?_;refine .cl (fun H hs=> o8 M H (l[j]?.getD 0) (m[j]?.getD 0)) ?_;refine aJ ?_;refine .rt hK func69 results69 [_] ?_;exact fun H' hs=> ⟨hs.base,by rw[kB];rfl⟩
end
theorem y9(H:View)(ch:Ch)(lb lo lc ac:Nat)(A:Option Addr)(hA:SG H ch lb lo lc A)(hg:ch.Good)(hG:FC H):
  cA (Mp prog) 25 #[ch.KJ lb lo lc,.slice A ch.m ac] H (fun v H'=> H.le H'/\v=.tuple ⟨[.int .i64 (ch.sec:Nat),.int .i64 ((ch.bad ch.sec).getD 0),.bool ch.first.isSome,.int .i64 0]⟩):=by
 refine .en func25 ntmps25 fun St c cs hK=> ?_;refine U2 ?_;refine .bo fun b2=> ?_;refine U9 ?_;refine .cl (fun H hs=> lN _ H ch lb lo lc ac A (hA.le hs.base) hg (HA hG hs.base)) ?_;refine U3 ?_;refine .al fun b8=> ?_;refine zH ?_;refine .cl (fun H hs=> SH H ch lb lo lc ac A (hA.le hs.base) hg (HA hG hs.base)) ?_;refine pH ?_;refine .rt hK func25 results25 [_,_,_,_] ?_;exact okB
def bO(mask i:Nat):Bool:=mask/2 ^ i%2==1
def RB(mask k:Nat):List Nat:=(List.range k).filter (bO mask)
def Ch.on(c:Ch)(l:List Nat):Ch:= { c with m:=l.length,at_:=fun i=> l[i]?.getD 0 }
def gI(l:List Nat):List Int:=l.map fun i:Nat=> (i:Int)
def sK(l:List Nat)(best:Option (List Nat)):Bool:=match best with
 | none=> false
 | some b=> decide (b.length<l.length)||(decide (l.length=b.length)&&decide (0<cmpL (gI l) (gI b)))
def Ch.TE(c:Ch)(best:Option (List Nat))(mask:Nat):Option (List Nat):=
 if sK (RB mask (c.n-1)) best then best else if(c.on (RB mask (c.n-1))).first.isSome then best else some (RB mask (c.n-1))
def Ch.sC(c:Ch):Nat->Option (List Nat)
 | 0=> none
 | k+1=> c.TE (c.sC k) k
def Ch.X8(c:Ch):Option (List Nat):=c.sC (2 ^ (c.n-1))
theorem HY {mask k i:Nat}(h:i<(RB mask k).length):(RB mask k)[i]?.getD 0<k:=by
 rw[List.getElem?_eq_getElem h];have:=List.getElem_mem h;unfold RB at this;exact List.mem_range.1 (List.mem_filter.1 this).1
theorem TW {mask k i:Nat}(h:i+1<(RB mask k).length):(RB mask k)[i]?.getD 0<(RB mask k)[i+1]?.getD 0:=by
 rw[List.getElem?_eq_getElem h,List.getElem?_eq_getElem (show i<(RB mask k).length by omega)];have hp:(RB mask k).Pairwise (· < ·):=List.Pairwise.filter _ List.pairwise_lt_range;exact List.pairwise_iff_getElem.1 hp i (i+1) oM h oM
theorem Ch.Good.on {c:Ch}(h:c.Good)(mask:Nat):(c.on (RB mask (c.n-1))).Good:=by
 refine⟨⟨h.ok.n0,h.ok.n4,h.ok.x,h.ok.y,h.ok.z,h.ok.u,fun i hi=> ?_,fun i hi=> TW hi⟩,h.s,h.a,h.r,h.ln⟩;have:=HY (mask:=mask) (k:=c.n-1) hi;have h0:=h.ok.n0;show(RB mask (c.n-1))[i]?.getD 0+1<c.n;omega
theorem vX(mask k:Nat):fB (bO mask) k=TB (RB mask k):=rfl
theorem RE(l:List Nat):TB l=mA (gI l):=by
 unfold TB mA gI;rw[List.map_map];rfl
theorem F6:∀mask:Nat,mask<8->∀i:Nat,i<3->((mask:Int)).fdiv (2 ^ (min (i:Int).toNat IntKind.i64.bits))=((mask/2 ^ i:Nat):Int)/\XD .and .i64 ((mask/2 ^ i:Nat):Int) 1=((mask/2 ^ i%2:Nat):Int):=by decide +kernel
def r9(o:Option (List Nat))(H:View)(v:Value)(H':View):Prop:=H.le H'/\∃g:Gl 3 1,v=.tuple ⟨[g.val,.bool o.isSome,.int .i64 0]⟩/\g.l=TB (o.getD [])/\∀y∈g.bl,H' y.1=some y.2/\H y.1=none
theorem iV(M:Md prog)(H:View)(mask k b7:Nat)(hm:mask<8)(hk:k<=3)(hb:H b7=some (true,.cells ⟨[.int .i64 (mask:Nat)]⟩ 3 (0,0))):WN M H (.func (.func 68) #[] #[.pointer (some ⟨b7,0,none⟩)]) k (bO mask):=fun i hi H' hle=> by
 refine UC.of (first:= []) (captured:= [_]) aDM rfl ?_;have h7:=hle _ _ hb;obtain⟨e1,e2⟩:=F6 mask hm i oM;have g1:NC .shr .i64 (mask:Int) (i:Int)=some (.int .i64 ((mask/2 ^ i:Nat):Int)):=congrArg (fun x=> some (Value.int .i64 x)) e1;have g2:gA .and .i64 ((mask/2 ^ i:Nat):Int) 1=some (.int .i64 ((mask/2 ^ i%2:Nat):Int)):=congrArg (fun x=> some (Value.int .i64 x)) e2;refine .en func68 ntmps68 fun St c cs hK=> ?_;refine U ?_;by_cases h:mask/2 ^ i%2=1
 ·have hb:bO mask i=true:=by unfold bO;rw[h];rfl
  refine U7 ?_;refine .x .sf ?_;refine U4 ?_;refine .rt hK func68 results68 [_] ?_;exact fun H2 hs=> ⟨hs.base,by rw[hb];rfl⟩
 ·have hb:bO mask i=false:=by unfold bO;exact beq_false_of_ne h
  refine U7 ?_;refine .x .sf ?_;refine U4 ?_;refine .rt hK func68 results68 [_] ?_;exact fun H2 hs=> ⟨hs.base,by rw[hb];rfl⟩
end Go.Proofs.YtgkmnalhddmclaaGreatDoor
namespace Go.Proofs.YtgkmnalhddmclaaGreatDoor
open Go.RL Go.Proofs.Tryz
set_option maxRecDepth 10000
theorem xL(pace after:Int):∀(f:Nat) (n j:Int),n<=j->j<XB pace after f n->(2*j+1)*pace<after
 | 0,n,j,h1,h2=> by simp[XB] at h2;omega
 | f + 1,n,j,h1,h2=> by
  unfold XB at h2;split at h2
  ·rename_i mB
   by_cases e:j=n
   ·subst e;exact mB
   ·exact xL pace after f (n+1) j oM h2
  ·omega
theorem yJ {pace after j:Int}(h0:0<=j)(h:j<iB pace after):(2*j+1)*pace<after:=xL pace after 7 0 j h0 h
theorem sS {pace after:Int}(hp:0<pace){m:Int}(h0:0<=m)(h7:m<7):m<iB pace after<->(2*m+1)*pace<after:=by
 constructor
 ·exact yJ h0
 ·intro h;obtain⟨h1,h2,h3⟩:=IC pace after;by_cases e:m<iB pace after
  ·exact e
  ·have h4:=h3 oM;have h5:(2*iB pace after+1)*pace<=(2*m+1)*pace:=Int.mul_le_mul_of_nonneg_right oM oM;omega
theorem DQ {pace a b:Int}(hp:0<pace)(h:a<=b):iB pace a<=iB pace b:=by
 obtain⟨h1,h2,_⟩:=IC pace a;obtain⟨g1,g2,_⟩:=IC pace b;by_cases e:iB pace a<=iB pace b
 ·exact e
 ·have h4:=yJ (pace:=pace) (after:=a) g1 oM;have:=(sS (after:=b) hp g1 oM).2 oM;omega
theorem iP {read mt after:Int}(hr:0<read):∀(f:Nat) (n m:Int),n<=m->m<=mt->(mt+1-n).toNat<=f->∃o∈gF read mt after f n,o.1=iB read (after+m)/\n<=o.2/\o.2<=m
 | 0,n,m,h1,h2,h3=> by omega
 | f + 1,n,m,h1,h2,h3=> by
  unfold gF;rw[if_pos oM];by_cases e:iB read (after+m)=iB read (after+n)
  ·exact⟨_,List.mem_cons_self,e.symm,Int.le_refl _,h1⟩
  ·have h4:=DQ (pace:=read) hr (show after+n<=after+m by omega);have h5:=IC read (after+n);have h6:=IC read (after+m);rw[if_neg oM];have h7:=h5.2.2 oM;have h8:=yJ (pace:=read) (after:=after+m) h5.1 oM;obtain⟨o,ho,h9,A8,h11⟩:=iP (after:=after) hr f ((2*iB read (after+n)+1)*read+1-after) m oM h2 oM;exact⟨o,List.mem_cons_of_mem _ ho,h9,oM,h11⟩
theorem BS {read mt after:Int}:∀(f:Nat) (n:Int) (o:Int×Int),o∈gF read mt after f n->n<=o.2/\o.2<=mt/\o.1=iB read (after+o.2)
 | 0,n,o,h=> by cases h
 | f + 1,n,o,h=> by
  unfold gF at h;split at h
  ·rename_i hn
   rcases List.mem_cons.1 h with rfl|h
   ·exact⟨Int.le_refl _,hn,rfl⟩
   ·split at h
    ·cases h
    ·rename_i h7
     have h5:=IC read (after+n);obtain⟨h1,h2,h3⟩:=BS f _ o h;have:=h5.2.2 h7;exact⟨oM,h2,h3⟩
  ·cases h
def bB.CQ(s:bB)(i:Nat)(m:Int):Int:=if i=0 then 0 else iB s.read (s.after (s.ps[i]?.getD 0) i+m)
def bB.may(s:bB)(i:Nat)(m:Int):Prop:=if i=0 then m=s.first else s.mf<=m/\m<=s.mt
theorem bB.CS {s:bB}(hr:0<s.read){i:Nat}{m:Int}(h:s.may i m):∃o∈s.opts (s.ps[i]?.getD 0) i,o.1=s.CQ i m/\o.2<=m:=by
 unfold bB.may at h;unfold bB.opts bB.CQ;split at h
 ·rename_i hi
  subst hi;rw[if_pos rfl,if_pos rfl];exact⟨_,List.mem_cons_self,rfl,oM⟩
 ·rename_i hi
  rw[if_neg hi,if_neg hi];obtain⟨o,h1,h2,h3,h4⟩:=iP (read:=s.read) (mt:=s.mt) (after:=s.after (s.ps[i]?.getD 0) i) hr (s.mt+1-s.mf).toNat s.mf m h.1 h.2 (Nat.le_refl _);exact⟨o,h1,h2,h4⟩
theorem bB.qW {s:bB}{i:Nat}{o:Int×Int}(h:o∈s.opts (s.ps[i]?.getD 0) i):s.may i o.2/\o.1=s.CQ i o.2:=by
 unfold bB.opts at h;unfold bB.may bB.CQ;split at h
 ·rename_i hi
  simp only[List.mem_singleton] at h;subst h;subst hi;exact⟨by simp,by simp⟩
 ·rename_i hi
  obtain⟨h1,h2,h3⟩:=BS _ _ _ h;rw[if_neg hi,if_neg hi];exact⟨⟨h1,h2⟩,h3⟩
def bB.UE(s:bB)(i v:Nat):List Int->Nat
 | []=> v
 | m::l=> s.UE (i+1) (vB v (s.CQ i m).toNat) l
def bB.pG(s:bB)(i:Nat):List Int->Prop
 | []=> True
 | m::l=> s.may i m/\s.pG (i+1) l
def bB.view(s:bB)(mv:List Int):Nat:=s.UE 0 127 mv
theorem bB.aN {s:bB}(hr:0<s.read):∀(l:List Int) (i v:Nat) (pre:List Int),s.pG i l->∃x∈s.leaves l.length i v pre,x.1=s.UE i v l
 | [],i,v,pre,_=> ⟨(v,pre),by simp[bB.leaves],rfl⟩
 | m ::l,i,v,pre,h=> by
  obtain⟨o,h1,h2,_⟩:=bB.CS hr h.1;obtain⟨x,h3,h4⟩:=bB.aN hr l (i+1) (vB v o.1.toNat) (pre++[o.2]) h.2;refine⟨x,?_,?_⟩
  ·simp only[List.length_cons,bB.leaves];exact List.mem_flatMap.2 ⟨o,h1,h3⟩
  ·rw[h4,h2];rfl
theorem bB.XO {s:bB}:∀(d i v:Nat) (pre:List Int) (x:Nat×List Int),x∈s.leaves d i v pre->∃l:List Int,l.length=d/\x.2=pre++l/\s.pG i l/\x.1=s.UE i v l
 | 0,i,v,pre,x,h=> by
  simp only[bB.leaves,List.mem_singleton] at h;subst h;exact⟨[],rfl,by simp,trivial,rfl⟩
 | d+1,i,v,pre,x,h=> by
  unfold bB.leaves at h;obtain⟨o,h1,h2⟩:=List.mem_flatMap.1 h;obtain⟨h3,h4⟩:=bB.qW h1;obtain⟨l,h5,h6,h7,h8⟩:=bB.XO d (i+1) _ _ x h2;refine⟨o.2::l,by simp[h5],by rw[h6];simp,⟨h3,h7⟩,?_⟩;rw[h8,h4];rfl
theorem bB.F4 {s:bB}(hr:0<s.read){v:Nat}:(∃x∈s.all,x.1=v)<->∃mv:List Int,mv.length=s.ps.length/\s.pG 0 mv/\s.view mv=v:=by
 constructor
 ·rintro⟨x,hx,rfl⟩;obtain⟨l,h1,h2,h3,h4⟩:=bB.XO _ _ _ _ _ hx;exact⟨l,h1,h3,h4.symm⟩
 ·rintro⟨mv,h1,h2,rfl⟩;obtain⟨x,h3,h4⟩:=bB.aN hr mv 0 127 [] h2;exact⟨x,by unfold bB.all;rw[<-h1];exact h3,h4⟩
theorem o0 {os:List (Int×Int)}{R:Nat->Bool}{w:Nat}:KH os R 128 0 w=true<->∃u,u<128/\R u=true/\∃o∈os,toV u o=w:=by
 unfold KH;simp only[List.take_zero,List.any_nil,Bool.false_and,Bool.or_false,List.any_eq_true,List.mem_range,Bool.and_eq_true,beq_iff_eq];constructor
 ·rintro⟨u,h1,⟨o,h2,h3⟩,h4⟩;exact⟨u,h1,h4,o,h2,h3⟩
 ·rintro⟨u,h1,h4,o,h2,h3⟩;exact⟨u,h1,⟨o,h2,h3⟩,h4⟩
theorem bB.uG(s:bB):∀(l:List Int) (i v:Nat) (m:Int),s.UE i v (l++[m])=vB (s.UE i v l) (s.CQ (i+l.length) m).toNat
 | [],i,v,m=> rfl
 | a::l,i,v,m=> by
  show s.UE (i+1) _ (l++[m])=_;rw[bB.uG s l];simp only[List.length_cons];rw[show i+1+l.length=i+(l.length+1) by omega];rfl
theorem bB.cI(s:bB):∀(l:List Int) (i:Nat) (m:Int),s.pG i (l++[m])<->s.pG i l/\s.may (i+l.length) m
 | [],i,m=> by simp[bB.pG]
 | a::l,i,m=> by
  simp only[List.cons_append,bB.pG,List.length_cons];rw[bB.cI s l,show i+1+l.length=i+(l.length+1) by omega,and_assoc]
theorem bB.G6 {s:bB}(i:Nat)(m:Int):0<=s.CQ i m/\s.CQ i m<=7:=by
 unfold bB.CQ;split
 ·omega
 ·have:=IC s.read (s.after (s.ps[i]?.getD 0) i+m);omega
theorem bB.FL(s:bB):∀(l:List Int) (i v:Nat),v<128->s.UE i v l<128
 | [],_,_,h=> h
 | m::l,i,v,h=> by
  have:=bB.G6 (s:=s) i m;exact bB.FL s l (i+1) _ (OI v h _ oM)
theorem bB.mI {s:bB}(hr:0<s.read):∀(k:Nat) (w:Nat),s.pA k w=true<->∃mv:List Int,mv.length=k/\s.pG 0 mv/\s.view mv=w
 | 0,w=> by
  constructor
  ·intro h;simp only[bB.pA,beq_iff_eq] at h;exact⟨[],rfl,trivial,h.symm⟩
  ·rintro⟨mv,h1,_,h3⟩;cases List.eq_nil_of_length_eq_zero h1
   simp only[bB.pA,beq_iff_eq];exact h3.symm
 | k + 1,w=> by
  unfold bB.pA;rw[o0];constructor
  ·rintro⟨u,h1,h2,o,h3,h4⟩;obtain⟨mv,h5,h6,h7⟩:=(bB.mI hr k u).1 h2;obtain⟨h8,h9⟩:=bB.qW h3;refine⟨mv++[o.2],by simp[h5],(bB.cI s mv 0 o.2).2 ⟨h6,by rw[Nat.zero_add,h5];exact h8⟩,?_⟩;unfold bB.view at h7 ⊢;rw[bB.uG,h7,Nat.zero_add,h5,<-h9];exact h4
  ·rintro⟨mv,h1,h2,h3⟩;obtain⟨mv',m,rfl⟩:∃mv' m,mv=mv'++[m]:=by
    refine⟨mv.dropLast,mv.getLast (by intro e;rw[e] at h1;cases h1),?_⟩;exact(List.dropLast_concat_getLast _).symm
   simp only[List.length_append,List.length_cons,List.length_nil,Nat.zero_add,Nat.add_right_cancel_iff] at h1;obtain⟨h4,h5⟩:=(bB.cI s mv' 0 m).1 h2;rw[Nat.zero_add,h1] at h5;obtain⟨o,h6,h7,_⟩:=bB.CS hr h5;refine⟨s.view mv',bB.FL s mv' 0 127 dE,(bB.mI hr k _).2 ⟨mv',h1,h4,rfl⟩,o,h6,?_⟩;unfold bB.view at h3;rw[bB.uG,Nat.zero_add,h1,<-h7] at h3;exact h3
theorem bB.KX {s:bB}(hr:0<s.read){w:Nat}:s.reach w=true<->∃mv:List Int,mv.length=s.ps.length/\s.pG 0 mv/\s.view mv=w:=bB.mI hr _ _
theorem bB.oP {s:bB}(hr:0<s.read){w:Nat}:s.reach w=true<->∃x∈s.all,x.1=w:=(bB.KX hr).trans (bB.F4 hr).symm
set_option maxRecDepth 100000
def XY:Lk:=⟨20,20,19,21,0,0, -3,3⟩
def PJ:Lk:=⟨20,20,19,21,0,1, -3,3⟩
def exM:Lk:=⟨19,21,19,21,0,0, -3,3⟩
def VY:Ch:=⟨20,20,20,20,19,21,3,fun _=> 0,fun _=> 0,fun _=> -2,fun _=> 2,0,fun _=> 0⟩
theorem aU:XY.ok=true:=by decide +kernel
theorem YP:PJ.ok=true:=by decide +kernel
theorem M9:exM.ok=true:=by decide +kernel
theorem YY:bA 16 7= [0,5]:=by decide +kernel
theorem cX:bA 0 7= [0,6]:=by decide +kernel
def Lk.views(k:Lk)(c:Nat):List Nat:=((k.vO c).flatMap fun s=> s.all).map fun x=> x.1
theorem Lk.GJ {k:Lk}(hk:1<=k.r0){c v:Nat}:k.LF c v=true<->v∈k.views c:=by
 have hr:∀s∈k.vO c,0<s.read:=fun s hs=> by
  obtain⟨a,r,n,f,h1,h2,h3,h4,rfl⟩:=Lk.fN.1 hs;show 0<r;omega
 unfold Lk.LF Lk.views;rw[List.any_eq_true,List.mem_map];constructor
 ·rintro⟨s,hs,hv⟩;obtain⟨x,hx,e⟩:=(bB.oP (hr s hs)).1 hv;exact⟨x,List.mem_flatMap.2 ⟨s,hs,hx⟩,e⟩
 ·rintro⟨x,hx,e⟩;obtain⟨s,hs,hx⟩:=List.mem_flatMap.1 hx;exact⟨s,hs,(bB.oP (hr s hs)).2 ⟨x,hx,e⟩⟩
theorem MM:((PJ.views 0).any (fun v=> v==64)&&(PJ.views 0).any (fun v=> decide (v<128)&&(OD v).isNone)&&(PJ.views 0).all (fun v=> v==64||(OD v).isNone))=true:=by decide +kernel
theorem cZ:PJ.LF 0 64=true:=by
 have h:=MM;simp only[Bool.and_eq_true,List.any_eq_true] at h;obtain⟨⟨⟨v,hv,e⟩,_⟩,_⟩:=h;rw[beq_iff_eq] at e;subst e;exact(Lk.GJ dE).2 hv
theorem y8:∃v,v<128/\PJ.LF 0 v=true/\(OD v).isNone=true:=by
 have h:=MM;simp only[Bool.and_eq_true,List.any_eq_true,decide_eq_true_eq] at h;obtain⟨⟨_,v,hv,e1,e2⟩,_⟩:=h;exact⟨v,e1,(Lk.GJ dE).2 hv,e2⟩
theorem aCj {v:Nat}(hv:PJ.LF 0 v=true):v=64\/(OD v).isNone=true:=by
 have h:=MM;simp only[Bool.and_eq_true,List.all_eq_true,Bool.or_eq_true,beq_iff_eq] at h;exact h.2 v ((Lk.GJ dE).1 hv)
theorem aZ:PJ.bK 0=0:=by
 have hr:QB 0=64:=by decide +kernel
 obtain⟨w,h1,h2,h3⟩:=y8;have gB:¬PJ.seen 0=1:=by
  intro e;unfold Lk.seen at e;obtain⟨a,ha⟩:=List.length_eq_one_iff.1 e;have m1:64∈(List.range 128).filter (PJ.LF 0):=List.mem_filter.2 ⟨List.mem_range.2 dE,cZ⟩;have m2:w∈(List.range 128).filter (PJ.LF 0):=List.mem_filter.2 ⟨List.mem_range.2 h1,h2⟩;rw[ha,List.mem_singleton] at m1 m2;rw[m2,<-m1] at h3;exact absurd h3 dE
 unfold Lk.bK;rw[hr,cZ,if_pos rfl,if_neg gB]
theorem LM:(List.range 32).filter (PJ.YC 0)= [0]:=by
 have h:∀n,n<32->PJ.YC 0 n=decide (n=0):=by
  intro n hn;unfold Lk.YC;by_cases e:n=0
  ·subst e;exact cZ
  ·rw[decide_eq_false e];cases hs:PJ.LF 0 (64+2*n) with
   | false=> rfl
   | true=>
    rcases aCj hs with h1|h1
    ·omega
    ·rw[(KG (64+2*n) oM n hn).2 rfl] at h1;cases h1
 rw[List.filter_congr fun n hn=> h n (List.mem_range.1 hn)];decide
theorem bU:PJ.refused 0=0:=by
 obtain⟨w,h1,h2,h3⟩:=y8;have hb:PJ.bad 0=true:=by
  unfold Lk.bad;rw[List.any_eq_true];exact⟨w,List.mem_range.2 h1,by rw[h2,h3];rfl⟩
 have hk:(fB (PJ.YC 0) 32).length=1:=by
  unfold fB;rw[LM];rfl
 unfold Lk.refused;rw[hb,hk];rfl
theorem dZ:PJ.bD 0=some (20,19,1,[-3,3]):=by decide +kernel
theorem NV:((List.range 32).filter PJ.lH).length=16/\((List.range 32).filter PJ.lH)[0]? =some 16:=by decide +kernel
theorem u5:exM.TL (bA 0 7) (cD [0,243])=some (20,20):=by decide +kernel
theorem s5:(List.range 32).filter (XY.aF [0,243])= [0]:=by decide +kernel
theorem dX:XY.QK=3:=by decide +kernel
theorem ZY:(List.range 41).filter XY.AH= [19,20,21]:=by decide +kernel
theorem ZP:VY.first=some 0/\VY.bad 0=some 0:=by decide +kernel
theorem bZ:VY.X8=some [1]:=by decide +kernel
set_option maxRecDepth 10000
set_option maxHeartbeats 4000000
section
variable(M:Md prog)(H:View)
theorem eL(A B:Option Addr)(l:List Int)(n ca cb:Nat)(hn:n=l.length)(h6:n<=1000)(hA:oD H A l)(hB:oD H B l):cA M 70 #[.slice A n ca,.slice B n cb] H (fun v H'=> H.le H'/\v=.bool false):=by
 refine .en func70 ntmps70 fun St c cs hK=> ?_;refine zI ?_;refine Tc.db (Tc.vA (σ:= { j:Nat//j<=n }) (fun j=> ([(0,.slice A n ca),(1,.slice B n cb),(4,.bool false),(5,.int .i64 (j.1:Nat))],[])) (fun j=> n-j.1) ?_ ⟨0,oM⟩);rintro⟨j,hj⟩ ih;show Tc M St _ _ _ _ [(0,.slice A n ca),(1,.slice B n cb),(4,.bool false),(5,.int .i64 (j:Nat))] [] _ _;by_cases c1:j=n
 ·subst c1;refine B4 ?_;refine .rt hK func70 results70 [_] ?_;exact okB
 ·have c2:j<n:=by omega
  rcases hA with hA|⟨a1,a2,a3,a4,a5,a6,rfl,a7,a8⟩
  ·rw[hA] at hn;simp at hn;omega
  rcases hB with hB|⟨b1,b2,b3,b4,b5,b6,rfl,b7,b8⟩
  ·rw[hB] at hn;simp at hn;omega
  have f1:=a8 j oM;have f2:=b8 j oM;refine BV ?_;refine Tc.dr [] [] mixed rfl ?_;refine V9 0 ?_;refine .dn ?_;refine U8 ?_;exact Tc.db (ih ⟨j+1,oM⟩ (by simp only;omega))
theorem ZI(A B:Option Addr)(l:List Int)(n ca cb:Nat)(hn:n=l.length)(h6:n<=1000)(hA:oD H A l)(hB:oD H B l):cA M 29 #[.slice A n ca,.slice B n cb] H (fun v H'=> H.le H'/\v=.bool true):=by
 refine .en func29 ntmps29 fun St c cs hK=> ?_;refine U8 ?_;refine .cl (fun H hs=> eL M H A B l n ca cb hn h6 (hA.le hs.base) (hB.le hs.base)) ?_;refine U4 ?_;refine .cl (fun H hs=> eL M H B A l n cb ca hn h6 (hB.le hs.base) (hA.le hs.base)) ?_;refine U4 ?_;refine .rt hK func29 results29 [_] ?_;exact okB
theorem wM(s r e:Int)(A B:Option Addr)(l:List Int)(n ca cb:Nat)(hn:n=l.length)(h6:n<=1000)(hA:oD H A l)(hB:oD H B l):
  cA M 28 #[.agg ⟨[.int .i64 s,.int .i64 r,.int .i64 e,.slice A n ca]⟩,.agg ⟨[.int .i64 s,.int .i64 r,.int .i64 e,.slice B n cb]⟩] H (fun v H'=> H.le H'/\v=.bool true):=by
 refine .en func28 ntmps28 fun St c cs hK=> ?_;refine U2 ?_;refine .bo fun b2=> ?_;refine .bo fun b3=> ?_;refine U28 ?_;refine .cl (fun H hs=> ZI M H A B l n ca cb hn h6 (hA.le hs.base) (hB.le hs.base)) ?_;refine U3 ?_;refine .rt hK func28 results28 [_] ?_;exact okB
end
theorem dU {g:Gl 3 1}{l:List Nat}(h:g.l=TB l):g.n=l.length:=by
 have:=g.hl;rw[h] at this;unfold TB at this;rw[List.length_map] at this;omega
theorem SG.on {H:View}{ch:Ch}{lb lo lc:Nat}{A0:Option Addr}(h:SG H ch lb lo lc A0){g:Gl 3 1}{l:List Nat}(hg:g.l=TB l)(hb:∀y∈g.bl,H y.1=some y.2):SG H (ch.on l) lb lo lc (g.blk.map fun b=> ⟨b,0,none⟩):=by
 refine⟨h.ln,h.lc,fun hm=> ?_⟩;have hn:=dU hg;have pU:0<l.length:=hm;obtain⟨_|b,n,cap,gl,gj,h1,h2,h3,h4⟩:=g
 ·have:=h4 rfl;simp only at hn h2;omega
 ·refine⟨b,0,true,gl++gj,3,(0,0),rfl,hb (b,true,.cells ⟨gl++gj⟩ 3 (0,0)) (by simp[Gl.bl]),fun j hj=> ?_⟩;simp only at hg;subst hg;have OO:j<l.length:=hj;show(TB l++gj)[0+j*1]? =_;rw[Nat.zero_add,Nat.mul_one,List.getElem?_append_left (by unfold TB;rw[List.length_map];exact OO)];unfold TB;rw[List.getElem?_map,List.getElem?_eq_getElem OO];show _=some (Value.int .i64 ((l[j]?.getD 0:Nat):Int));rw[List.getElem?_eq_getElem OO];rfl
theorem aEK(a b:Nat×Bool×Obj)(x y:Bl):([b]++y).Sublist ([a,b]++x++y):=.cons _ (.cons_cons _ (List.sublist_append_right x y))
theorem GX {n:Nat}(h0:0<n)(h4:n<=4):NC .shl .i64 1 ((n-1:Nat):Int)=some (.int .i64 ((2 ^ (n-1):Nat):Int))/\2 ^ (n-1)<=8:=by
 rcases(by omega:n=1\/n=2\/n=3\/n=4) with rfl|rfl|rfl|rfl <;> exact⟨rfl,by decide⟩
theorem ER(mask k:Nat):(RB mask k).length<=k:=by
 have:=List.length_filter_le (bO mask) (List.range k);rw[List.length_range] at this;exact this
theorem DN(c:Ch):∀(k:Nat) (b:List Nat),c.sC k=some b->b.length<=c.n
 | 0,b,h=> by cases h
 | k + 1,b,h=> by
  unfold Ch.sC Ch.TE at h;split at h
  ·exact DN c k b h
  ·split at h
   ·exact DN c k b h
   ·cases h
    have:=ER k (c.n-1);omega
theorem s4(H:View)(ch:Ch)(lb lo lc:Nat)(A0:Option Addr)(hA:SG H ch lb lo lc A0)(hg:ch.Good)(hG:FC H):
  cA (Mp prog) 27 #[ch.KJ lb lo lc] H (r9 ch.X8 H):=by
 refine .en func27 ntmps27 fun St c cs hK=> ?_;have qU:=hg.ok.n0;have N8:=hg.ok.n4;obtain⟨SJ,hp8⟩:=GX qU N8;refine U2 ?_;refine .bo fun b1=> ?_;refine U4 ?_;refine Tc.scope ?_;refine U4 ?_;refine .cl (fun H hs=> oH _ H ch lb lo lc A0 (hA.le hs.base) hg (HA hG hs.base)) ?_;refine xT ?_;rw[show(ch.n:Int)-1=((ch.n-1:Nat):Int) by omega];refine U ?_;refine Tc.label ?_;refine U4 ?_;refine .x .sf ?_;refine U3 ?_;refine Tc.db (Tc.vA (σ:= { s:Nat×Gl 3 1//s.1<=2 ^ (ch.n-1)/\s.2.l=TB ((ch.sC s.1).getD []) })
  (fun s=> ([(1,.pointer (some ⟨b1,0,none⟩)),(2,s.1.2.val),(3,.bool (ch.sC s.1.1).isSome),(6,.int .i64 ((ch.n-1:Nat):Int)),(22,.int .i64 ((2 ^ (ch.n-1):Nat):Int)),(23,.int .i64 (s.1.1:Nat))],[(b1,true,.cells ⟨(ch.KJ lb lo lc).cells.toList⟩ 26 (0,0))]++s.1.2.bl)) (fun s=> 2 ^ (ch.n-1)-s.1.1) ?_ ⟨(0,Gl.nil 3 1),Nat.zero_le _,rfl⟩)
 rintro⟨⟨mask,g⟩,g1,g2⟩ ih;simp only at g1 g2;show Tc (Mp prog) St _ _ _ _ [(1,.pointer (some ⟨b1,0,none⟩)),(2,g.val),(3,.bool (ch.sC mask).isSome),(6,.int .i64 ((ch.n-1:Nat):Int)),(22,.int .i64 ((2 ^ (ch.n-1):Nat):Int)),(23,.int .i64 (mask:Nat))] ([(b1,true,.cells ⟨(ch.KJ lb lo lc).cells.toList⟩ 26 (0,0))]++g.bl) _ _;by_cases c1:mask=2 ^ (ch.n-1)
 ·subst c1;refine WL ?_;refine .rt hK func27 results27 [_,_,_] ?_;exact fun H' hs=> ⟨hs.base,g,rfl,g2,fun y hy=> ⟨hs.at_ y (by simp[hy]),hs.out y (by simp[hy])⟩⟩
 ·have c2 : mask<2 ^ (ch.n-1):=by omega
  have uD:=dU g2;refine JL ?_;refine .al fun b7=> ?_;refine U6 ?_;refine .e (Or.uA Gl.val Gl.bl (fun g':Gl 3 1=> g'.l=fB (bO mask) (ch.n-1)) rfl rfl rfl rfl rfl dE EB (fun H hs=> .h (wQ _ H (ch.n-1) _ (bO mask) oM (iV _ H mask (ch.n-1) b7 oM oM (hs.get (i:=0) rfl)))) (fun g' yT=> ?_));refine U2 ?_;rw[vX] at yT;have aAc:=dU yT;have hZ:=ER mask (ch.n-1);have bW:=hg.on mask;refine U2 ?_;refine Tc.aBC (fun R' L'=> sK (RB mask (ch.n-1)) (ch.sC mask)=false/\WB [(1,.pointer (some ⟨b1,0,none⟩)),(2,g.val),(3,.bool (ch.sC mask).isSome),(6,.int .i64 ((ch.n-1:Nat):Int)),(8,g'.val),(22,.int .i64 ((2 ^ (ch.n-1):Nat):Int)),(23,.int .i64 (mask:Nat))] R'/\L'= [(b7,true,.cells ⟨[.int .i64 (mask:Nat)]⟩ 3 (0,0)),(b1,true,.cells ⟨(ch.KJ lb lo lc).cells.toList⟩ 26 (0,0))]++g.bl++g'.bl) ?_ (fun fin=> ?_)
  ·rintro R' L' ⟨hsk,hR,rfl⟩;refine Tc.PC ?_ hR (List.Sublist.refl _);cases hw:(ch.on (RB mask (ch.n-1))).first with
   | some s=>
    have kB:ch.sC (mask+1)=ch.sC mask:=by
     show ch.TE _ mask=_;unfold Ch.TE;rw[hsk,hw];rfl
    refine U5 ?_;refine .cl (fun H hs=> show cA (Mp prog) 67 #[.agg ⟨[.int .i64 ch.s0,.int .i64 ch.s1,.slice (some ⟨lb,lo,none⟩) ch.n lc,.int .i64 ch.a0,.int .i64 ch.a1,.int .i64 ch.r0,.int .i64 ch.r1,.slice (g'.blk.map fun b=> ⟨b,0,none⟩) g'.n g'.cap]⟩] H _ from by rw[aAc];exact cA.is (.tuple ⟨[.int .i64 ((ch.on (RB mask (ch.n-1))).sec:Nat),.int .i64 (((ch.on (RB mask (ch.n-1))).bad (ch.on (RB mask (ch.n-1))).sec).getD 0),.bool true]⟩) (by rewrite [hw];rfl) (SH H (ch.on (RB mask (ch.n-1))) lb lo lc g'.cap _ ((hA.le hs.base).on yT (fun y hy=> hs.at_ y (by simp[hy]))) bW (HA hG hs.base))) ?_;refine X1 ?_;have XC:=ih ⟨(mask+1,g),by simp only;omega,by simp only[kB];exact g2⟩ (by simp only;omega);simp only[kB] at XC;exact Tc.db XC
   | none=>
    have kB:ch.sC (mask+1)=some (RB mask (ch.n-1)):=by
     show ch.TE _ mask=_;unfold Ch.TE;rw[hsk,hw];rfl
    refine U5 ?_;refine .cl (fun H hs=> show cA (Mp prog) 67 #[.agg ⟨[.int .i64 ch.s0,.int .i64 ch.s1,.slice (some ⟨lb,lo,none⟩) ch.n lc,.int .i64 ch.a0,.int .i64 ch.a1,.int .i64 ch.r0,.int .i64 ch.r1,.slice (g'.blk.map fun b=> ⟨b,0,none⟩) g'.n g'.cap]⟩] H _ from by rw[aAc];exact cA.is (.tuple ⟨[.int .i64 ((ch.on (RB mask (ch.n-1))).sec:Nat),.int .i64 (((ch.on (RB mask (ch.n-1))).bad (ch.on (RB mask (ch.n-1))).sec).getD 0),.bool false]⟩) (by rewrite [hw];rfl) (SH H (ch.on (RB mask (ch.n-1))) lb lo lc g'.cap _ ((hA.le hs.base).on yT (fun y hy=> hs.at_ y (by simp[hy]))) bW (HA hG hs.base))) ?_;refine xR ?_;have XC:=ih ⟨(mask+1,g'),by simp only;omega,by simp only[kB];exact yT⟩ (by simp only;omega);simp only[kB] at XC;exact Tc.PC XC ⟨rfl,rfl,rfl,rfl,rfl,rfl,trivial⟩ (aEK _ _ _ _)
  ·have xZ:sK (RB mask (ch.n-1)) (ch.sC mask)=true->ch.sC (mask+1)=ch.sC mask:=fun h=> by
    show ch.TE _ mask=_;unfold Ch.TE;rw[h];rfl
   cases hb:ch.sC mask with
   | none=>
    rw[hb] at fin;refine U9 ?_;refine To.LA rfl dE rfl ?_;refine To.LA rfl dE rfl ?_;refine To.LA rfl dE rfl ?_;refine To.LA rfl dE rfl ?_;refine To.LA rfl dE rfl ?_;refine To.LA rfl dE rfl ?_;refine To.LA rfl dE rfl ?_;refine To.LA rfl dE rfl ?_;refine To.LA rfl dE rfl ?_;refine To.LA rfl dE rfl ?_;refine To.LA rfl dE rfl ?_;refine U5 ?_;exact fin _ _ ⟨rfl,⟨rfl,rfl,rfl,rfl,rfl,rfl,rfl,trivial⟩,rfl⟩
   | some b=>
    rw[hb] at fin xZ g2 uD;have hbn:=DN ch mask b hb;simp only[Option.getD_some] at g2 uD;rw[RE] at g2;rw[RE] at yT;have aCn:∀H',eA H ([(b7,true,.cells ⟨[.int .i64 (mask:Nat)]⟩ 3 (0,0)),(b1,true,.cells ⟨(ch.KJ lb lo lc).cells.toList⟩ 26 (0,0))]++g.bl++g'.bl) H'->cA (Mp prog) 69 #[g'.val,g.val] H' (fun v H''=> H'.le H''/\v=.int .i64 (cmpL (gI (RB mask (ch.n-1))) (gI b))):=fun H' hs=>
     GW _ H' _ _ _ _ g'.n g.n g'.cap g.cap (by rw[aAc];simp[gI]) (by rw[uD];simp[gI]) oM oM (oD.of yT (fun y hy=> hs.at_ y (by simp[hy]))).2 (oD.of g2 (fun y hy=> hs.at_ y (by simp[hy]))).2
    by_cases d1:b.length<(RB mask (ch.n-1)).length
    ·have kB:=xZ (by unfold sK;simp[d1]);refine WL ?_;refine To.LA rfl dE rfl ?_;refine To.LA rfl dE rfl ?_;refine To.LA rfl dE rfl ?_;refine To.LA rfl dE rfl ?_;refine zI ?_;have XC:=ih ⟨(mask+1,g),by simp only;omega,by simp only[kB];rw[RE];exact g2⟩ (by simp only;omega);simp only[kB] at XC;exact Tc.db XC
    ·by_cases d2:(RB mask (ch.n-1)).length=b.length
     ·by_cases d3:0<cmpL (gI (RB mask (ch.n-1))) (gI b)
      ·have kB:=xZ (by unfold sK;simp[d2,d3]);refine xT ?_;refine .cl (fun H hs=> aCn H hs) ?_;refine eF ?_;have XC:=ih ⟨(mask+1,g),by simp only;omega,by simp only[kB];rw[RE];exact g2⟩ (by simp only;omega);simp only[kB] at XC;exact Tc.db XC
      ·have hns:sK (RB mask (ch.n-1)) (some b)=false:=by unfold sK;simp[d2,d3]
       refine xT ?_;refine .cl (fun H hs=> aCn H hs) ?_;refine U7 ?_;exact fin _ _ ⟨hns,⟨rfl,rfl,rfl,rfl,rfl,rfl,rfl,trivial⟩,rfl⟩
     ·have hns:sK (RB mask (ch.n-1)) (some b)=false:=by unfold sK;simp[d1,d2]
      refine B4 ?_;exact fin _ _ ⟨hns,⟨rfl,rfl,rfl,rfl,rfl,rfl,rfl,trivial⟩,rfl⟩
def rL:List Value:= [.int .i64 0,.int .i64 0,.int .i64 (-2),.int .i64 2,.int .i64 0,.int .i64 0,.int .i64 (-2),.int .i64 2,.int .i64 0,.int .i64 0,.int .i64 (-2),.int .i64 2]
theorem WY {H:View}{b:Nat}(h:H b=some (true,.cells ⟨rL⟩ 38 (0,0))):SG H VY b 0 3 none:=by
 refine⟨⟨true,rL,38,(0,0),h,fun i hi=> ?_⟩,Nat.le_refl _,fun hm=> absurd hm (Nat.lt_irrefl 0)⟩;have NO:i<3:=hi;rcases(by omega:i=0\/i=1\/i=2) with rfl|rfl|rfl <;> rfl
theorem OR:VY.Good:=by
 have z:(-1000000:Int)<=0/\(0:Int)<=1000000:=by decide
 have a:(-1000000:Int)<= -2/\(-2:Int)<=1000000:=by decide
 have b:(-1000000:Int)<=2/\(2:Int)<=1000000:=by decide
 have l:(⟨0,0,0,0,0,0, -2,2⟩:Lk).bI=true:=by decide +kernel
 exact⟨⟨by decide,by decide,fun _ _=> z,fun _ _=> z,fun _ _=> a,fun _ _=> b,fun i hi=> absurd hi (Nat.not_lt_zero i),fun i hi=> absurd hi (Nat.not_lt_zero _)⟩,by decide,by decide,by decide,fun _ _=> l⟩
section
variable(M:Md prog)(H:View)
theorem yO:cA M 13 #[] H (fun v H'=> H.le H'/\v=XY.val):=by
 refine .en func13 ntmps13 fun St c cs hK=> ?_;refine U2 ?_;refine .al fun b0=> ?_;refine U3 ?_;refine .cl (fun H hs=> wO M H 20 20) ?_;refine .cl (fun H hs=> wO M H 19 21) ?_;refine .cl (fun H hs=> wO M H (-3) 3) ?_;refine U4 ?_;refine .rt hK func13 results13 [_] ?_;exact okB
theorem KW:cA M 14 #[] H (fun v H'=> H.le H'/\v=PJ.val):=by
 refine .en func14 ntmps14 fun St c cs hK=> ?_;refine U2 ?_;refine .al fun b0=> ?_;refine U3 ?_;refine .cl (fun H hs=> yO M H) ?_;refine .al fun b1=> ?_;refine U4 ?_;refine .cl (fun H hs=> wO M H 0 1) ?_;refine U9 ?_;refine .rt hK func14 results14 [_] ?_;exact okB
theorem xO:cA M 26 #[] H (fun v H'=> H.le H'/\∃b:Nat,v=VY.KJ b 0 3/\True/\∀y∈ [(b,true,Obj.cells ⟨rL⟩ 38 (0,0))],H' y.1=some y.2/\H y.1=none):=by
 refine .en func26 ntmps26 fun St c cs hK=> ?_;refine U2 ?_;refine .al fun b0=> ?_;refine U3 ?_;refine .cl (fun H hs=> wO M H (-2) 2) ?_;refine U ?_;refine .al fun b1=> ?_;refine U3 ?_;refine Tc.dr [8] [1] mixed rfl ?_;refine .z 0 rfl (oA.tk fun H hs=> wO M H 20 20) ?_;refine .z 1 rfl (oA.tk fun H hs=> wO M H 20 20) ?_;refine .z 2 rfl (oA.tk fun H hs=> wO M H 19 21) ?_;refine V3 3 ?_;refine .ea 6 rfl (.bs (zz:=fun bl=> ⟨S2.mk sL (.inr sL),?_⟩));refine .nn 7 ?_;refine .e 8 2 ?_;refine .dn ?_;refine .rt hK func26 results26 [_] ?_;exact fun H' hs=> ⟨hs.base,bl,rfl,trivial,fun y hy=> by
  simp only[List.mem_singleton] at hy;subst hy;exact⟨hs.get (i:=0) rfl,hs.fresh (i:=0) (x:=(true,.cells ⟨rL⟩ 38 (0,0))) rfl⟩⟩
end
theorem TD(M:Md prog)(H:View)(A B:Option Addr)(l:List Int)(n m ca cb:Nat)(hn:n=l.length)(hm:m=l.length)(h6:l.length<=1000)(hA:oD H A l)(hB:oD H B l):cA M 29 #[.slice A n ca,.slice B m cb] H (fun v H'=> H.le H'/\v=.bool true):=by
 subst hn;subst hm;exact ZI M H A B l _ ca cb rfl h6 hA hB
theorem YN(M:Md prog)(H:View)(s r e:Int)(A B:Option Addr)(l:List Int)(n m ca cb:Nat)(hn:n=l.length)(hm:m=l.length)(h6:l.length<=1000)(hA:oD H A l)(hB:oD H B l):
  cA M 28 #[.agg ⟨[.int .i64 s,.int .i64 r,.int .i64 e,.slice A n ca]⟩,.agg ⟨[.int .i64 s,.int .i64 r,.int .i64 e,.slice B m cb]⟩] H (fun v H'=> H.le H'/\v=.bool true):=by
 subst hn;subst hm;exact wM M H s r e A B l _ ca cb rfl h6 hA hB
theorem oD.lit {H:View}{b:Nat}{l:List Int}(h:H b=some (true,.cells ⟨mA l⟩ 3 (0,0))):oD H (some ⟨b,0,none⟩) l:=
 .inr ⟨b,0,true,mA l,3,(0,0),rfl,h,fun j hj=> by
  show(mA l)[0+(j:Int).toNat*1]? =_;rw[Nat.zero_add,Nat.mul_one,Int.toNat_natCast];unfold mA;rw[List.getElem?_map,List.getElem?_eq_getElem hj];rfl⟩
section
variable(M:Md prog)(H:View)
end
set_option maxHeartbeats 8000000
theorem t243:Told [0,243]:=⟨by decide,by decide,by decide⟩
theorem CW {H:View}{b:Nat}(h:H b=some (true,.cells ⟨[.int .i64 0,.int .i64 243]⟩ 3 (0,0))):TG H (some ⟨b,0,none⟩) [0,243]:=⟨b,0,true,_,3,(0,0),rfl,h,by decide,rfl⟩
theorem gM {p:Nat->Bool}{k:Nat}{l:List Nat}(h:(List.range k).filter p=l):fB p k=mA (gI l):=by
 rw[<-RE,<-h];rfl
theorem N9:VY.sec=0:=by unfold Ch.sec;simp[ZP.1]
theorem aD4:prog.eqGuardType prog.depth 23=false:=by kernel_rfl
theorem CO(a b:Int):flat en 2 23 [.int .i64 a,.int .i64 b]:=by
 refine⟨rfl,?_⟩;intro f hf;simp only[List.mem_cons,List.not_mem_nil,or_false] at hf;rcases hf with rfl|rfl
 ·exact⟨⟨_,rfl⟩,_,rfl,rfl,Nat.le_of_ble_eq_true rfl⟩
 ·exact⟨⟨_,rfl⟩,_,rfl,rfl,Nat.le_of_ble_eq_true rfl⟩
theorem aT(H:View)(hG:FC H):cA (Mp prog) 6 #[] H (fun v H'=> H.le H'/\v=.bool true):=by
 refine .en func6 ntmps6 fun St c cs hK=> ?_;refine U6 ?_;refine .cl (fun H hs=> yO _ H) ?_;refine .cl (fun H hs=> KW _ H) ?_;refine .al fun b1=> ?_;refine .al fun b2=> ?_;refine U6 ?_;refine .al fun b3=> ?_;refine U4 ?_;refine .cl (fun H hs=> wO _ H 19 21) ?_;refine U3 ?_;refine Tc.lift (L₂:= []) rfl (fun Hx hx=> ?_);have B2:=HA hG hx.base;have hle:=hx.base;have x1:Hx b1=some (true,.cells ⟨XY.val.cells.toList⟩ 40 (0,0)):=hx.get (i:=2) rfl;have x2:Hx b2=some (true,.cells ⟨PJ.val.cells.toList⟩ 40 (0,0)):=hx.get (i:=1) rfl;have x3:Hx b3=some (true,.cells ⟨exM.val.cells.toList⟩ 40 (0,0)):=hx.get (i:=0) rfl;refine Tc.PC (R':= [(1,.pointer (some ⟨b1,0,none⟩)),(2,.pointer (some ⟨b2,0,none⟩)),(3,.pointer (some ⟨b3,0,none⟩))]) (L':= []) ?_ ⟨rfl,rfl,rfl,trivial⟩ (List.Sublist.refl _);refine U2 ?_;refine .e (Or.uA (fun g:Gl 3 1=> .tuple ⟨[g.val,.int .i64 0]⟩) Gl.bl (fun g:Gl 3 1=> g.l=TB (bA 16 7)) rfl rfl rfl rfl rfl dE EB (fun H hs=> .h (E3 _ H 16 dE)) (fun g1 O5=> ?_));refine U9 ?_;refine .e (Or.uA (fun g:Gl 3 1=> .tuple ⟨[g.val,.int .i64 0]⟩) Gl.bl (fun g:Gl 3 1=> g.l=fB PJ.lH 32) rfl rfl rfl rfl rfl dE EB (fun H hs=> .h (s9 _ H PJ (HA B2 hs.base) YP)) (fun g2 kX=> ?_));refine U9 ?_;refine .cl (fun H hs=> cA.is (.tuple ⟨[.int .i64 0,.int .i64 0]⟩) (by rewrite [aZ];rfl) (X3 _ H PJ 0 (HA B2 hs.base) YP dE)) ?_;refine U9 ?_;refine .e (Or.uA (fun g:Gl 3 1=> .tuple ⟨[g.val,.int .i64 0,.int .i64 0]⟩) Gl.bl (fun g:Gl 3 1=> g.l=fB (PJ.YC 0) 32) rfl rfl rfl rfl rfl dE EB (fun H hs=> .h (cA.mono (OW _ H PJ 0 (HA B2 hs.base) YP dE (by rw[gM LM];decide)) (by rintro v H' ⟨h1,g,h2,h3,h4⟩;rw[bU] at h2;exact⟨h1,g,h2,h3,h4⟩))) (fun g3 hg3=> ?_));refine eF ?_;refine .e (Or.uA (fun g:Gl 3 1=> .tuple ⟨[pN 20 19 1 g,.bool true,.int .i64 0]⟩) Gl.bl (fun g:Gl 3 1=> g.l=mA [-3,3]) rfl rfl rfl rfl rfl dE EB (fun H hs=> .h (cA.mono (D4 _ H PJ 0 (HA B2 hs.base) YP dE) (by rintro v H' ⟨h1,h2⟩;rw[dZ] at h2;obtain⟨g,h3,h4,h5⟩:=h2;exact⟨h1,g,h3,h4,h5⟩))) (fun g4 hg4=> ?_));refine U4 ?_;refine .al fun b13=> ?_;refine U7 ?_;refine .cl (fun H hs=> cA.is (.tuple ⟨[.int .i64 3,.int .i64 0]⟩) (by rewrite [dX];rfl) (rY _ H XY (HA B2 hs.base) aU)) ?_;refine U9 ?_;refine .e (Or.uA (fun g:Gl 3 1=> .tuple ⟨[g.val,.int .i64 0]⟩) Gl.bl (fun g:Gl 3 1=> g.l=fB XY.AH 41) rfl rfl rfl rfl rfl dE EB (fun H hs=> .h (W3 _ H XY (HA B2 hs.base) aU)) (fun g5 hg5=> ?_));refine U9 ?_;refine .e (.bs (zz:=fun bt1=> ?_));refine .e (Or.uA (fun g:Gl 3 1=> .tuple ⟨[g.val,.int .i64 0]⟩) Gl.bl (fun g:Gl 3 1=> g.l=fB (XY.aF [0,243]) 32) rfl rfl rfl rfl rfl dE EB (fun H hs=> .h (wY _ H XY (HA B2 hs.base) aU [0,243] t243 rfl (some ⟨bt1,0,none⟩) 2 (CW (hs.get (i:=0) rfl)))) (fun g6 hg6=> ?_));refine U9 ?_;refine .e (.bs (zz:=fun bt2=> ?_));refine .cl (fun H hs=> cA.is (.tuple ⟨[rB 20 20,.int .i64 0]⟩) (by rewrite [u5];rfl) (v9 _ H exM 0 (HA B2 hs.base) M9 dE [0,243] t243 dE (by rw[cX];rfl) (some ⟨bt2,0,none⟩) 2 (CW (hs.get (i:=0) rfl)))) ?_;refine U3 ?_;refine .al fun b22=> ?_;refine U5 ?_;refine .e (Or.uA (fun b:Nat=> VY.KJ b 0 3) (fun b=> [(b,true,Obj.cells ⟨rL⟩ 38 (0,0))]) (fun _=> True) rfl rfl rfl rfl rfl dE (fun _=> by simp) (fun H hs=> .h (xO _ H)) (fun lb1 _=> ?_));refine .cl (fun H hs=> cA.is (.tuple ⟨[.int .i64 0,.int .i64 0,.bool true,.int .i64 0]⟩) (by rewrite [N9,ZP.1,ZP.2];rfl) (y9 H VY lb1 0 3 0 none (WY (hs.at_ (lb1,true,.cells ⟨rL⟩ 38 (0,0)) (by simp))) OR (HA B2 hs.base))) ?_;refine JL ?_;refine .e (Or.uA (fun b:Nat=> VY.KJ b 0 3) (fun b=> [(b,true,Obj.cells ⟨rL⟩ 38 (0,0))]) (fun _=> True) rfl rfl rfl rfl rfl dE (fun _=> by simp) (fun H hs=> .h (xO _ H)) (fun lb2 _=> ?_));refine .e (Or.uA (fun g:Gl 3 1=> .tuple ⟨[g.val,.bool true,.int .i64 0]⟩) Gl.bl (fun g:Gl 3 1=> g.l=TB [1]) rfl rfl rfl rfl rfl dE EB (fun H hs=> .h (cA.mono (s4 H VY lb2 0 3 none (WY (hs.at_ (lb2,true,.cells ⟨rL⟩ 38 (0,0)) (by simp))) OR (HA B2 hs.base)) (by rintro v H' ⟨h1,g,h2,h3,h4⟩;rw[bZ] at h2 h3;exact⟨h1,g,h2,h3,h4⟩))) (fun g7 hg7=> ?_));refine U8 ?_;refine Tc.lift (L₂:= []) rfl (fun Hy hy=> ?_);have y22:Hy b22=some (true,.cells ⟨[.int .i64 20,.int .i64 20]⟩ 23 (0,0)):=hy.get (i:=0) rfl;have y13:Hy b13=some (true,.cells ⟨[.int .i64 20,.int .i64 19,.int .i64 1,g4.val]⟩ 53 (0,0)):=hy.get (i:=3) rfl;obtain⟨n1,N1⟩:=oD.of (H:=Hy) (l:= [0,5]) (O5.trans (by rw[YY];rfl)) (fun y uO=> hy.at_ y (by simp[uO]));obtain⟨n2,N2⟩:=oD.of (H:=Hy) (kX.trans (FZ _ _)) (fun y uO=> hy.at_ y (by simp[uO]));obtain⟨n3,N3⟩:=oD.of (H:=Hy) (l:= [0]) (hg3.trans (gM LM)) (fun y uO=> hy.at_ y (by simp[uO]));obtain⟨n4,N4⟩:=oD.of (H:=Hy) (l:= [-3,3]) hg4 (fun y uO=> hy.at_ y (by simp[uO]));obtain⟨n5,N5⟩:=oD.of (H:=Hy) (l:= [19,20,21]) (hg5.trans (gM ZY)) (fun y uO=> hy.at_ y (by simp[uO]));obtain⟨n6,N6⟩:=oD.of (H:=Hy) (l:= [0]) (hg6.trans (gM s5)) (fun y uO=> hy.at_ y (by simp[uO]));obtain⟨n7,N7⟩:=oD.of (H:=Hy) (l:= [1]) hg7 (fun y uO=> hy.at_ y (by simp[uO]));have jF:=View.le_trans hle hy.base;clear hy x1 x2 x3;have l2:(VO PJ.lH 32).length=16:=by unfold VO;rw[List.length_map];exact NV.1
 have e2:(VO PJ.lH 32)[0]?.getD 0=16:=by unfold VO;rw[List.getElem?_map,NV.2];rfl
 rw[l2] at n2;obtain⟨gb2,gn2,gc2,gl2,gj2,q1,q2,q3,q4⟩:=g2;simp only at n2 N2;subst n2;rcases N2 with N2|⟨ab,ao,f2,gs2,gt2,gz2,hA,hB,hC⟩
 ·rw[N2] at l2;cases l2
 have hC0:=hC 0 oM;rw[e2] at hC0;cases gb2 with
 | none=> cases hA
 | some vb=>
 simp only[Option.map_some,Option.some.injEq,Addr.mk.injEq,and_true] at hA;obtain⟨rfl,rfl⟩:=hA;refine Tc.PC (R':= [(4,g1.val),(5,.int .i64 0),(6,.slice (some ⟨vb,0,none⟩) 16 gc2),(7,.int .i64 0),(8,.int .i64 0),(9,.int .i64 0),(10,g3.val),(11,.int .i64 0),(12,.int .i64 0),(13,.pointer (some ⟨b13,0,none⟩)),(14,.bool true),(15,.int .i64 0),(16,.int .i64 3),(17,.int .i64 0),(18,g5.val),(19,.int .i64 0),(20,g6.val),(21,.int .i64 0),
  (22,.pointer (some ⟨b22,0,none⟩)),(23,.int .i64 0),(24,.int .i64 0),(25,.int .i64 0),(26,.bool true),(27,.int .i64 0),(28,g7.val),(29,.bool true),(30,.int .i64 0)]) (L':= []) ?_ ⟨rfl,rfl,rfl,rfl,rfl,rfl,rfl,rfl,rfl,rfl,rfl,rfl,rfl,rfl,rfl,rfl,rfl,rfl,rfl,rfl,rfl,rfl,rfl,rfl,rfl,rfl,rfl,trivial⟩ (List.Sublist.refl _)
 refine U50 ?_;refine Tc.PC (R':= [(4,g1.val),(6,.slice (some ⟨vb,0,none⟩) 16 gc2),(8,.int .i64 0),(10,g3.val),(11,.int .i64 0),(13,.pointer (some ⟨b13,0,none⟩)),(14,.bool true),(16,.int .i64 3),(18,g5.val),(20,g6.val),
  (22,.pointer (some ⟨b22,0,none⟩)),(24,.int .i64 0),(25,.int .i64 0),(26,.bool true),(28,g7.val),(29,.bool true)]) (L':= []) ?_ ⟨rfl,rfl,rfl,rfl,rfl,rfl,rfl,rfl,rfl,rfl,rfl,rfl,rfl,rfl,rfl,rfl,trivial⟩ (List.Sublist.refl _)
 refine Tc.dr [] [] mixed rfl ?_;refine V12 0 ?_;refine .ea 12 rfl (.bs (zz:=fun bp=> ⟨S2.mk sL (.inr sL),?_⟩));refine .nn 13 ?_;refine .ea 14 rfl (Or.uA (σ:=Unit) (fun _=> .bool true) (fun _=> []) (fun _=> True) rfl rfl rfl rfl rfl dE (fun _=> by simp) (fun H hs=> .h (cA.mono (YN _ H 20 19 1 _ (some ⟨bp,0,none⟩) [-3,3] g4.n 2 g4.cap 2 n4 rfl dE (N4.le hs.base) (oD.lit (hs.get (i:=0) rfl))) (by rintro v H' ⟨h1,h2⟩;exact⟨h1,(),h2,trivial,by simp⟩))) (fun _ _=> ⟨S2.mk sL (.inr sL),?_⟩));refine V8 15 ?_;refine .z 23 rfl (oA.tk fun H hs=> wO _ H 20 20) ?_;refine .q 24 rfl (oA.neA (E:=en) true 2 rfl rfl rfl rfl rfl aD4 dE (CO 20 20) (CO 20 20) ⟨fun _=> rfl,fun _=> rfl⟩) ?_;refine V17 25 ?_;refine .dn ?_;refine U3 ?_;refine Tc.PC (R':= [(4,g1.val),(6,.slice (some ⟨vb,0,none⟩) 16 gc2),(10,g3.val),(18,g5.val),(20,g6.val),(28,g7.val)]) (L':= []) ?_ ⟨rfl,rfl,rfl,rfl,rfl,rfl,trivial⟩ (List.nil_sublist _);refine U2 ?_;refine .e (.bs (zz:=fun c1=> ?_));refine .cl (fun H hs=> TD _ H _ (some ⟨c1,0,none⟩) [0,5] g1.n 2 g1.cap 2 n1 rfl dE (N1.le hs.base) (oD.lit (hs.get (i:=0) rfl))) ?_;refine aJ ?_;refine .e (.bs (zz:=fun c2=> ?_));refine .cl (fun H hs=> TD _ H _ (some ⟨c2,0,none⟩) [0] g3.n 1 g3.cap 1 n3 rfl dE (N3.le hs.base) (oD.lit (hs.get (i:=0) rfl))) ?_;refine U3 ?_;refine .e (.bs (zz:=fun c3=> ?_));refine .cl (fun H hs=> TD _ H _ (some ⟨c3,0,none⟩) [19,20,21] g5.n 3 g5.cap 3 n5 rfl dE (N5.le hs.base) (oD.lit (hs.get (i:=0) rfl))) ?_;refine U3 ?_;refine .e (.bs (zz:=fun c4=> ?_));refine .cl (fun H hs=> TD _ H _ (some ⟨c4,0,none⟩) [0] g6.n 1 g6.cap 1 n6 rfl dE (N6.le hs.base) (oD.lit (hs.get (i:=0) rfl))) ?_;refine U3 ?_;refine .e (.bs (zz:=fun c5=> ?_));refine .cl (fun H hs=> TD _ H _ (some ⟨c5,0,none⟩) [1] g7.n 1 g7.cap 1 n7 rfl dE (N7.le hs.base) (oD.lit (hs.get (i:=0) rfl))) ?_;refine U3 ?_;refine .rt hK func6 results6 [_] ?_;exact fun H' hs=> ⟨View.le_trans jF hs.base,rfl⟩
set_option maxHeartbeats 4000000
theorem SY:prog.eqGuardType prog.depth 23=false:=by kernel_rfl
theorem aCi:prog.eqGuardType prog.depth 38=false:=by kernel_rfl
theorem fD(a b:Int):flat en 2 23 [.int .i64 a,.int .i64 b]:=by
 refine⟨rfl,?_⟩;intro f hf;simp only[List.mem_cons,List.not_mem_nil,or_false] at hf;rcases hf with rfl|rfl
 ·exact⟨⟨_,rfl⟩,_,rfl,rfl,Nat.le_of_ble_eq_true rfl⟩
 ·exact⟨⟨_,rfl⟩,_,rfl,rfl,Nat.le_of_ble_eq_true rfl⟩
theorem dN(a b c d:Int):flat en 3 38 [.int .i64 a,.int .i64 b,.int .i64 c,.int .i64 d]:=by
 refine⟨rfl,?_⟩;intro f hf;simp only[List.mem_cons,List.not_mem_nil,or_false] at hf;rcases hf with rfl|rfl
 ·exact⟨fD a b,_,rfl,rfl,Nat.le_of_ble_eq_true rfl⟩
 ·exact⟨fD c d,_,rfl,rfl,Nat.le_of_ble_eq_true rfl⟩
theorem VK {a b:Int}(h:tB a b=true):VL a/\VL b:=by
 have:=of_decide_eq_true h;exact⟨⟨oM,oM⟩,⟨oM,oM⟩⟩
theorem Y6 {c:Ch}(h:c.nB=0):NW c:=by
 have h1:c.TA=0/\c.jI=true:=by
  unfold Ch.nB at h;split at h
  ·rename_i hp;exact⟨h,hp⟩
  ·exact absurd h dE
 obtain⟨hn,hl⟩:=Ch.LZ h1.1;have hp:=h1.2;unfold Ch.jI at hp;simp only[Bool.and_eq_true] at hp;obtain⟨p1,p2,p3⟩:=hp;exact⟨hn,VK p1,VK p2,VK p3,fun i hi=> by
  obtain⟨g1,g2⟩:=hl i hi;exact⟨⟨⟨oM,oM⟩,⟨oM,oM⟩⟩,⟨⟨oM,oM⟩,⟨oM,oM⟩⟩⟩⟩
section
variable(M:Md prog)(H:View)
theorem Y3(k:Ch)(A A':Option Addr)(lc lc':Nat)(hk:zB H k A lc)(hk':zB H k A' lc')(hn:k.n<=3000):
  cA M 11 #[k.lE A lc,k.lE A' lc'] H (fun v H'=> H.le H'/\v=.bool true):=by
 refine .en func11 ntmps11 fun St c cs hK=> ?_;refine U2 ?_;refine .bo fun b2=> ?_;refine .bo fun b3=> ?_;refine U9 ?_;refine .x (oA.neA (E:=en) true 2 rfl rfl rfl rfl rfl SY dE (fD k.s0 k.s1) (fD k.s0 k.s1) ⟨fun _=> rfl,fun _=> rfl⟩) ?_;refine U5 ?_;refine .x (oA.neA (E:=en) true 2 rfl rfl rfl rfl rfl SY dE (fD k.a0 k.a1) (fD k.a0 k.a1) ⟨fun _=> rfl,fun _=> rfl⟩) ?_;refine U6 ?_;refine .x (oA.neA (E:=en) true 2 rfl rfl rfl rfl rfl SY dE (fD k.r0 k.r1) (fD k.r0 k.r1) ⟨fun _=> rfl,fun _=> rfl⟩) ?_;refine BV ?_;refine Tc.db (Tc.vA (σ:= { i:Nat//i<=k.n }) (fun i=> ([(2,.pointer (some ⟨b2,0,none⟩)),(3,.pointer (some ⟨b3,0,none⟩)),(5,.int .i64 (i.1:Nat))],[(b3,true,.cells ⟨(k.lE A' lc').cells.toList⟩ 26 (0,0)),(b2,true,.cells ⟨(k.lE A lc).cells.toList⟩ 26 (0,0))])) (fun i=> k.n-i.1) ?_ ⟨0,Nat.zero_le _⟩);rintro⟨i,hi⟩ ih;show Tc M St _ _ _ _ [(2,.pointer (some ⟨b2,0,none⟩)),(3,.pointer (some ⟨b3,0,none⟩)),(5,.int .i64 (i:Nat))] [(b3,true,.cells ⟨(k.lE A' lc').cells.toList⟩ 26 (0,0)),(b2,true,.cells ⟨(k.lE A lc).cells.toList⟩ 26 (0,0))] _ _;by_cases c1:i=k.n
 ·clear ih;subst c1;refine WL ?_;refine .rt hK func11 results11 [_] ?_;exact okB
 ·have c2:i<k.n:=by omega
  obtain⟨_,h0|⟨ab,ao,f,gs,gt,gz,rfl,hb,hl⟩⟩:=hk
  ·omega
  obtain⟨_,h0|⟨ab',ao',f',gs',gt',gz',rfl,dQ,hl'⟩⟩:=hk'
  ·omega
  have f1:SB true 4 gs (ao+(i:Int).toNat*4)=some (fF (k.x i) (k.y i) (k.z i) (k.u i)):=by rw[Int.toNat_natCast];exact hl i c2
  have f2:SB true 4 gs' (ao'+(i:Int).toNat*4)=some (fF (k.x i) (k.y i) (k.z i) (k.u i)):=by rw[Int.toNat_natCast];exact hl' i c2
  refine zH ?_;refine Tc.dr [] [] mixed rfl ?_;refine V10 0 ?_;refine .q 10 rfl (oA.neA (E:=en) true 3 rfl rfl rfl rfl rfl aCi dE (dN (k.x i) (k.y i) (k.z i) (k.u i)) (dN (k.x i) (k.y i) (k.z i) (k.u i)) (by simp)) ?_;refine .dn ?_;refine U8 ?_;exact Tc.db (ih ⟨i+1,oM⟩ (by simp only;omega))
theorem qY(ch:Ch)(A:Option Addr)(lc:Nat)(t:Bool)(ht:t=decide (20<ch.n)):cA M 5 #[ch.lE A lc] H (fun v H'=> H.le H'/\v=.bool t):=by
 refine .en func5 ntmps5 fun St c cs hK=> ?_;by_cases h:20<ch.n
 ·rw[decide_eq_true h] at ht;subst ht;refine U2 ?_;refine .bo fun b1=> ?_;refine zI ?_;refine .rt hK func5 results5 [_] ?_;exact okB
 ·rw[decide_eq_false h] at ht;subst ht;refine U2 ?_;refine .bo fun b1=> ?_;refine zI ?_;refine .rt hK func5 results5 [_] ?_;exact okB
theorem X6(hG:FC H)(hP:Pow H)(ch:Ch)(A:Option Addr)(lc:Nat)(hA:zB H ch A lc):
  ∃(t:List UInt8) (a:Int),∀H',H.le H'->cA M 7 #[ch.lE A lc] H' (fun v H''=> H'.le H''/\v=.tuple ⟨[jA t,.int .i64 a]⟩)/\cA M 8 #[ch.lE A lc] H' (fun v H''=> H'.le H''/\v=.tuple ⟨[jA t,.int .i64 a]⟩):=by
 by_cases ha:ch.nB=0
 ·have hp:=Y6 ha;exact⟨_,_,fun H' h=> ⟨vY M H' (HA hG h) (hP.le h) ch A lc (hA.le h) ha hp,SS M H' ch A lc (hA.le h) ha hp⟩⟩
 ·exact⟨_,_,fun H' h=> ⟨MW M H' (HA hG h) ch A lc (hA.le h) ha,LQ M H' ch A lc (hA.le h) ha⟩⟩
theorem I0(s:List UInt8)(hm:s.length<=2000):(xD s).1.n<=3000:=by
 have hw:wl (xE s)<=s.length+1:=ON s;have hl:=iR (xE s);unfold xD;cases vU:LC (xE s) 0 TH with
 | inr n=> exact Nat.zero_le _
 | inl t=>
  have h1:=AL _ _ _ _ vU;have h2:t.ch.n=t.ls.length:=rfl;have h3:TH.ls.length=0:=rfl;simp only;split
  ·exact Nat.zero_le _
  ·split
   ·show t.ch.n<=3000;omega
   ·exact Nat.zero_le _
end
section
variable(H:View)
theorem A4 {St:View->Goroutine->Prop}{cs:List Frame}(hG:FC H)(hP:Pow H)(ch:Ch)(A:Option Addr)(lc:Nat)(hA:zB H ch A lc)(s:List UInt8)
  (hR:∀(H₀:View) (R:Rg) (L:Bl) (kk:List Item),lk R 4=some (.bool true)->H.le H₀->Tc (Mp prog) St 67 ⟨3,.normal,none⟩ H₀ cs R L [] (.code .ret::kk)):
  Tc (Mp prog) St 67 ⟨3,.normal,none⟩ H cs (lJ [ch.lE A lc,jA s]) [] [] [.code (VG Tryz.f3)]:=by
 have oU:=fun(H':View) (h:H.le H')=> aT H' (HA hG h);have hgr:=fun(H':View)=> qY (Mp prog) H' ch A lc _ rfl;by_cases hg:20<ch.n
 ·rw[decide_eq_true hg] at hgr;refine U2 ?_;refine .bo fun b2=> ?_;refine U6 ?_;refine .cl (fun H hs=> hgr H) ?_;refine U9 ?_;refine .cl (fun H hs=> oU H hs.base) ?_;refine U2 ?_;exact hR _ _ _ _ rfl (View.le_refl _)
 ·rw[decide_eq_false hg] at hgr;by_cases hm:2000<s.length
  ·refine U2 ?_;refine .bo fun b2=> ?_;refine U6 ?_;refine .cl (fun H hs=> hgr H) ?_;refine U9 ?_;refine .cl (fun H hs=> oU H hs.base) ?_;refine U2 ?_;exact hR _ _ _ _ rfl (View.le_refl _)
  ·have I2:s.length<=2000:=by omega
   obtain⟨t,a,hpr⟩:=X6 (Mp prog) H hG hP ch A lc hA;have oX:=fun(H':View) (h:H.le H')=> LW (Mp prog) H' (HA hG h) s I2;have hqa:=fun(H':View)=> RS (Mp prog) H' s I2;have m6:=I0 s I2;generalize xD s=pb at oX hqa m6;obtain⟨kp,np,ap⟩:=pb;simp only at oX hqa m6;have e1:RL.cC .neq t t=some (.bool false):=by simp[RL.cC]
   refine U2 ?_;refine .bo fun b2=> ?_;refine U6 ?_;refine .cl (fun H hs=> hgr H) ?_;refine eF ?_;refine .c rfl rfl rfl rfl (fun H hs=> .h (hpr H hs.base).1) ?_;refine U9 ?_;refine .c rfl rfl rfl rfl (fun H hs=> .h (hpr H hs.base).2) ?_;refine U23 ?_;refine To.sF rfl rfl rfl rfl rfl rfl dE (UC.h (oX H (View.le_refl _))) (fun v H₁ hv=> ?_);obtain⟨h01,A1,lc1,rfl,nU⟩:=hv;refine U4 ?_;refine .al fun b9=> ?_;refine U7 ?_;refine To.sF rfl rfl rfl rfl rfl rfl dE (UC.h (hqa H₁)) (fun v H₂ hv=> ?_);obtain⟨h12,A2,lc2,rfl,nO⟩:=hv;refine U4 ?_;refine .al fun b11=> ?_;refine U8 ?_;refine .cl (fun H hs=> Y3 (Mp prog) H kp A1 A2 lc1 lc2 (nU.le (View.le_trans h12 hs.base)) (nO.le hs.base) m6) ?_;refine eF ?_;refine .cl (fun H hs=> oU H (View.le_trans h01 (View.le_trans h12 hs.base))) ?_;refine U3 ?_;exact hR _ _ _ _ rfl (View.le_trans h01 h12)
end
end Go.Proofs.YtgkmnalhddmclaaGreatDoor
