/-
 Texts of the proofs over baudot/dial.
-/
import Derived.Test.YtcagolloalgfiaaGreatDoorW05
namespace Go.Proofs.YtcagolloalgfiaaGreatDoor.Sg
open Go.RL Go.Proofs.Tryz
set_option maxRecDepth 10000
set_option maxHeartbeats 4000000
theorem keepI_len(p:Nat->Bool)(k:Nat):(keepI p k).length<=k:=by
 unfold keepI;rw[List.length_map];have:=List.length_filter_le p (List.range k);rw[List.length_range] at this;exact this
theorem keepI_mem {p:Nat->Bool}{k n:Nat}:(n:Int)∈keepI p k<->n<k/\p n=true:=by
 unfold keepI;rw[List.mem_map];constructor
 ·rintro⟨m,hm,e⟩;have e':m=n:=by exact_mod_cast e
  subst e';obtain⟨h1,h2⟩:=List.mem_filter.1 hm;exact⟨List.mem_range.1 h1,h2⟩
 ·rintro⟨h1,h2⟩;exact⟨n,List.mem_filter.2 ⟨List.mem_range.2 h1,h2⟩,rfl⟩
set_option maxHeartbeats 8000000
structure Lk.Past(k:Lk)(c:Nat)(a r n:Int)(mv:List Int):Prop where
 send:k.s0<=a/\a<=k.s1
 read:k.r0<=r/\r<=k.r1
 lean:k.l0<=n/\n<=k.l1
 len:mv.length=(placesTo c 7).length
 moves:∀m∈mv,k.m0<=m/\m<=k.m1
def pastView(c:Nat)(a r n:Int)(mv:List Int):Nat:=(⟨c,placesTo c 7,a,r,n,mv.headD 0,0,0⟩:Stg).view mv
theorem Stg.viewFrom_eq {s s':Stg}(h1:s.ps=s'.ps)(h2:s.send=s'.send)(h3:s.read=s'.read)(h4:s.lean=s'.lean)(h5:s.first=s'.first):∀(l:List Int) (i v:Nat),s.viewFrom i v l=s'.viewFrom i v l
 | [],_,_=> rfl
 | m::l,i,v=> by
  have:s.miss i m=s'.miss i m:=by unfold Stg.miss Stg.after;rw[h1,h2,h3,h4,h5]
  show s.viewFrom _ _ l=s'.viewFrom _ _ l;rw[this];exact Stg.viewFrom_eq h1 h2 h3 h4 h5 l _ _
theorem Stg.mayAll_tail {s:Stg}:∀(l:List Int) (i:Nat),0<i->(s.mayAll i l<->∀m∈l,s.mf<=m/\m<=s.mt)
 | [],_,_=> by simp[Stg.mayAll]
 | m::l,i,h=> by
  simp only[Stg.mayAll,Stg.mayAll_tail l (i+1) oM,List.mem_cons,forall_eq_or_imp];unfold Stg.may;rw[if_neg oM]
theorem Lk.sees_iff {k:Lk}(hk:1<=k.r0){c v:Nat}(hc:c<32):k.sees c v=true<->∃a r n mv,k.Past c a r n mv/\pastView c a r n mv=v:=by
 have h0:=(places_in c hc).1;unfold Lk.sees;rw[List.any_eq_true];constructor
 ·rintro⟨s,hs,hv⟩;obtain⟨a,r,n,f,h1,h2,h3,h4,rfl⟩:=Lk.mem_stgs.1 hs;have hr:0<(k.stg c a r n f).read:=by show 0<r;omega
  obtain⟨mv,h5,h6,h7⟩:=(Stg.reach_iff hr).1 hv;cases mv with
  | nil=> change 0=(placesTo c 7).length at h5;omega
  | cons m l=>
   obtain⟨h8,h9⟩:=h6;have hm:m=f:=h8;subst hm;rw[Stg.mayAll_tail l 1 oM] at h9;refine⟨a,r,n,m::l,⟨h1,h2,h3,h5,fun x hx=> ?_⟩,?_⟩
   ·rcases List.mem_cons.1 hx with rfl|hx
    ·exact h4
    ·exact h9 x hx
   ·rw[<-h7];exact Stg.viewFrom_eq (s:=⟨c,placesTo c 7,a,r,n,m,0,0⟩) (s':=k.stg c a r n m) rfl rfl rfl rfl rfl (m::l) 0 127
 ·rintro⟨a,r,n,mv,hp,rfl⟩;cases mv with
  | nil=> have:=hp.len;change 0=(placesTo c 7).length at this;omega
  | cons m l=>
   refine⟨k.stg c a r n m,Lk.mem_stgs.2 ⟨a,r,n,m,hp.send,hp.read,hp.lean,hp.moves m List.mem_cons_self,rfl⟩,?_⟩;have hr:0<(k.stg c a r n m).read:=by have h2:=hp.read;show 0<r;omega
   refine(Stg.reach_iff hr).2 ⟨m::l,hp.len,⟨rfl,(Stg.mayAll_tail l 1 oM).2 fun x hx=> hp.moves x (List.mem_cons_of_mem _ hx)⟩,?_⟩;exact Stg.viewFrom_eq (s:=k.stg c a r n m) (s':=⟨c,placesTo c 7,a,r,n,m,0,0⟩) rfl rfl rfl rfl rfl (m::l) 0 127
theorem Lk.sees_some {k:Lk}(hk:1<=k.r0)(h1:k.s0<=k.s1)(h2:k.r0<=k.r1)(h3:k.l0<=k.l1)(h4:k.m0<=k.m1){c:Nat}(hc:c<32):∃v,k.sees c v=true:=
 ⟨_,(Lk.sees_iff hk hc).2 ⟨k.s0,k.r0,k.l0,List.replicate (placesTo c 7).length k.m0,⟨⟨Int.le_refl _,h1⟩,⟨Int.le_refl _,h2⟩,⟨Int.le_refl _,h3⟩,by simp,fun m hm=> by rw[(List.mem_replicate.1 hm).2];exact⟨Int.le_refl _,h4⟩⟩,rfl⟩⟩
set_option maxHeartbeats 4000000
def Refuses(M:Md prog)(H:View)(fv:Value)(l:List Int):Prop:=
 ∀j:Nat,j<l.length->∀H',H.le H'->FnT M fv [.int .i64 (l[j]?.getD 0)] H' fun v H''=> H'.le H''/\v=.bool false
theorem Lk.past_of {k:Lk}(hk:k.ok=true)(c:Nat)(l:List Int):k.Past c (k.pSend l) (k.pRead l) (k.pLean l) (k.pMoves l (placesTo c 7).length):=by
 obtain⟨hks,hkr,hkl,hkm⟩:=Lk.ok_in hk;refine⟨pick_in oM,pick_in oM,pick_in oM,Lk.pMoves_len ..,fun m hm=> ?_⟩;obtain⟨i,_,rfl⟩:=List.mem_map.1 hm;exact pick_in oM
theorem Lk.Past.at_ {k:Lk}{c:Nat}{a r n:Int}{mv:List Int}(h:k.Past c a r n mv){j:Nat}(hj:j<mv.length):k.m0<=mv[j]?.getD 0/\mv[j]?.getD 0<=k.m1:=by
 rw[List.getElem?_eq_getElem hj];exact h.moves _ (List.getElem_mem hj)
def viewTo(c:Nat)(a r n:Int)(mv:List Int)(i:Nat):Nat:=(⟨c,placesTo c 7,a,r,n,mv.headD 0,0,0⟩:Stg).viewFrom 0 127 (mv.take i)
theorem viewTo_lt(c:Nat)(a r n:Int)(mv:List Int)(i:Nat):viewTo c a r n mv i<128:=Stg.viewFrom_lt _ _ _ _ dE
theorem viewTo_step {c:Nat}{a r n:Int}{mv:List Int}{i:Nat}(hr:0<=r)(hi:i<mv.length):
  viewTo c a r n mv (i+1)=turnedN (viewTo c a r n mv i) (missedF r (seenAt (placesTo c 7) mv a n i-seenAt (placesTo c 7) mv a n 0)).toNat:=by
 unfold viewTo;rw[List.take_succ_eq_append_getElem hi,Stg.viewFrom_snoc,List.length_take,Nat.min_eq_left oM,Nat.zero_add]
 congr 2
 have hg:mv[i]?.getD 0=mv[i]:=by rw[List.getElem?_eq_getElem hi];rfl
 unfold Stg.miss Stg.after seenAt;have h0:mv[0]?.getD 0=mv.headD 0:=by cases mv <;> rfl
 by_cases e:i=0
 ·subst e;rw[if_pos rfl,Int.sub_self];have h1:=missedF_in r 0;have h2:¬(0<missedF r 0):=fun h=> by
   have:=missedF_to (pace:=r) (after:=0) (Int.le_refl 0) h;omega
  omega
 ·rw[if_neg e]
  congr 1
  rw[hg,h0];simp only[Int.natCast_zero];omega
theorem viewTo_all {c:Nat}{a r n:Int}{mv:List Int}:viewTo c a r n mv mv.length=pastView c a r n mv:=by
 unfold viewTo pastView Stg.view;rw[List.take_length]
def readV(o:Option Nat):Value:=match o with
 | some m=> .tuple ⟨[.int .i64 (m:Nat),.bool true,.int .i64 0]⟩
 | none=> .tuple ⟨[.int .i64 0,.bool false,.int .i64 0]⟩
section
variable(M:Md prog)(H:View)
theorem IndexFunc_no(A:Option Addr)(l:List Int)(n ca:Nat)(fv:Value)(hn:n=l.length)(h6:n<=1000)(hA:Nums H A l)(hf:Refuses M H fv l):CallT M 153 #[.slice A n ca,fv] H (fun v H'=> H.le H'/\v=.int .i64 (-1)):=by
 refine .en func153 ntmps153 fun St c cs hK=> ?_;refine U12 ?_;refine Tc.db (Tc.loopInv (σ:= { j:Nat//j<=n }) (fun j=> ([(0,.slice A n ca),(1,fv),(7,.int .i64 (n:Nat)),(8,.int .i64 (j.1:Nat))],[])) (fun j=> n-j.1) ?_ ⟨0,oM⟩);rintro⟨j,hj⟩ ih;show Tc M St _ _ _ _ [(0,.slice A n ca),(1,fv),(7,.int .i64 (n:Nat)),(8,.int .i64 (j:Nat))] [] _ _;by_cases c1:j=n
 ·subst c1;refine U11 ?_;refine .rt hK func153 results153 [_] ?_;exact okB
 ·have c2:j<n:=by omega
  rcases hA with hA|⟨a1,a2,a3,a4,a5,a6,rfl,a7,a8⟩
  ·rw[hA] at hn;simp at hn;omega
  have f1:=a8 j oM;refine U21 ?_;refine .c rfl rfl rfl rfl (fun H hs=> hf j oM H hs.base) ?_;refine U8 ?_;exact Tc.db (ih ⟨j+1,oM⟩ (by simp only;omega))
theorem ContainsFunc_no(A:Option Addr)(l:List Int)(n ca:Nat)(fv:Value)(hn:n=l.length)(h6:n<=1000)(hA:Nums H A l)(hf:Refuses M H fv l):CallT M 114 #[.slice A n ca,fv] H (fun v H'=> H.le H'/\v=.bool false):=by
 refine .en func114 ntmps114 fun St c cs hK=> ?_;refine U8 ?_;refine .cl (fun H hs=> IndexFunc_no M H A l n ca fv hn h6 (hA.le hs.base) (fun j hj H' hle=> hf j hj H' (View.le_trans hs.base hle))) ?_;refine U3 ?_;refine .rt hK func114 results114 [_] ?_;exact okB
theorem has_yes(a b x:Int)(h:a<=x/\x<=b):CallT M 143 #[bandV a b,.int .i64 x] H (fun v H'=> H.le H'/\v=.bool true):=
 CallT.mono (has_c M H a b x) (by rintro v H' ⟨h1,h2⟩;rw[decide_eq_true h] at h2;exact⟨h1,h2⟩)
theorem past_refuses(a b:Int)(b11:Nat)(l:List Int)(hb:H b11=some (true,.cells ⟨[.int .i64 a,.int .i64 b]⟩ 240 (0,0)))(hl:∀j:Nat,j<l.length->a<=l[j]?.getD 0/\l[j]?.getD 0<=b):Refuses M H (.func (.func 144) #[] #[.pointer (some ⟨b11,0,none⟩)]) l:=fun j hj H' hle=> by
 refine FnT.of (first:= []) (captured:= [_]) ca144 rfl ?_;have h11:=hle _ _ hb;refine .en func144 ntmps144 fun St c cs hK=> ?_;refine U8 ?_;refine .cl (fun H hs=> has_yes M H a b _ (hl j hj)) ?_;refine U3 ?_;refine .rt hK func144 results144 [_] ?_;exact fun H2 hs=> ⟨hs.base,rfl⟩
variable(k:Lk)(hG:Glob H)(hk:k.ok=true)(code:Nat)(hc:code<32)(a r n:Int)(mv:List Int)(hP:k.Past code a r n mv)(A:Option Addr)(m ca:Nat)(hm:m=(placesTo code 7).length)(hA:Nums H A mv)
include hG hk hc hP hm hA
theorem past_good:CallT M 93 #[k.val,.int .i64 code,.agg ⟨[.int .i64 a,.int .i64 r,.int .i64 n,.slice A m ca]⟩] H (fun v H'=> H.le H'/\∃x:Nat×Nat×List Value,v=.tuple ⟨[letN code x,.int .i64 0]⟩/\True/\∀y∈letB code x,H' y.1=some y.2/\H y.1=none):=by
 have hp6:=(places_in code hc).2.1;have hml:=hP.len;refine .en func93 ntmps93 fun St c cs hK=> ?_;refine U2 ?_;refine .bo fun b3=> ?_;refine .bo fun b5=> ?_;refine .al fun b6=> ?_;refine U6 ?_;refine .e (Or.callNew (fun x=> .tuple ⟨[k.val,letN code x,.int .i64 0]⟩) (letB code) (fun _=> True) rfl rfl rfl rfl rfl dE (letB_nodup code) (fun H hs=> .h (open_n M H k code (glob_le hG hs.base) hk hc)) (fun x hx=> ?_));refine U4 ?_;refine .al fun b8=> ?_;refine .al fun b9=> ?_;refine U18 ?_;refine .cl (fun H hs=> bandOf_c M H k.m0 k.m1) ?_;refine .al fun b11=> ?_;refine U6 ?_;refine Tc.dr [] [] mixed rfl ?_;refine V3 0 ?_;refine .z 3 rfl (OpV.tk fun H hs=> bandOf_c M H k.s0 k.s1) ?_;refine V2 4 ?_;refine .z 6 rfl (OpV.tk fun H hs=> has_yes M H k.s0 k.s1 a hP.send) ?_;refine V2 7 ?_;refine .dn ?_;refine U2 ?_;refine Tc.dr [] [] mixed rfl ?_;refine V3 0 ?_;refine .z 3 rfl (OpV.tk fun H hs=> bandOf_c M H k.r0 k.r1) ?_;refine V2 4 ?_;refine .z 6 rfl (OpV.tk fun H hs=> has_yes M H k.r0 k.r1 r hP.read) ?_;refine V2 7 ?_;refine .dn ?_;refine U ?_;refine Tc.dr [] [] mixed rfl ?_;refine V4 0 ?_;refine .z 4 rfl (OpV.tk fun H hs=> bandOf_c M H k.l0 k.l1) ?_;refine V2 5 ?_;refine .z 7 rfl (OpV.tk fun H hs=> has_yes M H k.l0 k.l1 n hP.lean) ?_;refine V2 8 ?_;refine .dn ?_;refine U18 ?_;refine .cl (fun H hs=> ContainsFunc_no M H A mv m ca _ oM oM (hA.le hs.base) (past_refuses M H k.m0 k.m1 b11 mv (hs.get (i:=0) rfl) (fun j hj=> hP.at_ hj))) ?_;refine U11 ?_;refine .rt hK func93 results93 [_,_] ?_;exact fun H' hs=> ⟨hs.base,x,rfl,trivial,fun y hy=> ⟨hs.at_ y (by simp[hy]),hs.out y (by simp[hy])⟩⟩
omit hG in
theorem seen_good(x:Nat×Nat×List Value)(hx:∀y∈letB code x,H y.1=some y.2):CallT M 94 #[letN code x,.agg ⟨[.int .i64 a,.int .i64 r,.int .i64 n,.slice A m ca]⟩] H (fun v H'=> H.le H'/\v=timesV (seenTo (placesTo code 7) mv a n (placesTo code 7).length)):=by
 obtain⟨hks,hkr,hkl,hkm⟩:=Lk.ok_in hk;obtain⟨hp0,hp6,hpl⟩:=places_in code hc;have hml:=hP.len;have h1:=hP.send;have h2:=hP.lean;obtain⟨f,es,et,ez,hE1,hE2⟩:=edg_of hx;rcases hA with hA|⟨a1,a2,a3,a4,a5,a6,rfl,a7,a8⟩
 ·rw[hA] at hml;simp at hml;omega
 exact seen_c M H (code:Int) a r n (placesTo code 7) mv x.1 0 x.2.1 a1 a2 ca f a3 es a4 et a5 ez a6 hE1 hE2 a7 (fun i hi=> by have:=a8 i oM;rwa [Int.toNat_natCast] at this) hp6 hpl
  (fun i=> by
   by_cases hi:i<mv.length
   ·have:=hP.at_ hi;omega
   ·rw[List.getElem?_eq_none oM];decide) oM oM oM oM m oM
theorem Read_good:CallT M 53 #[k.val,.int .i64 code,.agg ⟨[.int .i64 a,.int .i64 r,.int .i64 n,.slice A m ca]⟩] H (fun v H'=> H.le H'/\v=readV (readN (pastView code a r n mv))):=by
 obtain⟨hks,hkr,hkl,hkm⟩:=Lk.ok_in hk;obtain⟨hp0,hp6,hpl⟩:=places_in code hc;have hml:=hP.len;have hr:=hP.read;have h1:=hP.send;have h2:=hP.lean;have hsb:∀i:Nat,i<(placesTo code 7).length-> -100000<=seenAt (placesTo code 7) mv a n i/\seenAt (placesTo code 7) mv a n i<=100000:=fun i hi=> by
  have h3:=hP.at_ (j:=i) oM;have h4:=hpl i hi;have h5:=still_in (place:=(((placesTo code 7)[i]?.getD 0:Nat):Int)) (number:=(i:Nat)) (send:=a) (lean:=n) oM oM oM oM oM oM;unfold seenAt;omega
 have hsl:=seenTo_len (placesTo code 7) mv a n (placesTo code 7).length;have hsm:∀z∈seenTo (placesTo code 7) mv a n (placesTo code 7).length, -1000000000<=z/\z<=1000000000:=fun z hz=> by
  unfold seenTo at hz;obtain⟨i,hi,rfl⟩:=List.mem_map.1 hz;split
  ·rename_i hlt
   have:=hsb i hlt;omega
  ·decide
 have hget:∀i:Nat,i<(placesTo code 7).length->ldL false 1 (intsL (afterTo (seenTo (placesTo code 7) mv a n (placesTo code 7).length) (placesTo code 7).length)) (0+(i:Int).toNat*1)=some (.int .i64 (seenAt (placesTo code 7) mv a n i-seenAt (placesTo code 7) mv a n 0)):=fun i hi=> by
  show(intsL _)[0+(i:Int).toNat*1]? =_;rw[Nat.zero_add,Nat.mul_one,Int.toNat_natCast];have h3:(seenTo (placesTo code 7) mv a n (placesTo code 7).length)[i]? =some (seenAt (placesTo code 7) mv a n i):=by
   unfold seenTo;rw[List.getElem?_map,List.getElem?_range oM];simp[hi]
  have h4:(seenTo (placesTo code 7) mv a n (placesTo code 7).length).headD 0=seenAt (placesTo code 7) mv a n 0:=by
   unfold seenTo;simp[List.range_succ_eq_map,hp0]
  rw[intsL_get (afterTo_get h3),if_pos hi,h4]
 refine .en func53 ntmps53 fun St c cs hK=> ?_;refine U2 ?_;refine .bo fun b3=> ?_;refine .bo fun b5=> ?_;refine U9 ?_;refine .e (Or.callNew (fun x=> .tuple ⟨[letN code x,.int .i64 0]⟩) (letB code) (fun _=> True) rfl rfl rfl rfl rfl dE (letB_nodup code) (fun H hs=> .h (past_good M H k (glob_le hG hs.base) hk code hc a r n mv hP A m ca hm (hA.le hs.base))) (fun x hx=> ?_));refine U3 ?_;refine .al fun b9=> ?_;refine U16 ?_;refine Tc.dr [8] [] mixed rfl ?_;refine V2 0 ?_;refine .z 2 rfl (OpV.tk fun H hs=> seen_good M H k hk code hc a r n mv hP A m ca hm (hA.le hs.base) x (fun y hy=> hs.at_ y (by simp[hy]))) ?_;refine V3 3 ?_;refine .z 6 rfl (OpV.tk fun H hs=> after_c M H _ (placesTo code 7).length hsl hp6 hsm) ?_;refine .ea 7 rfl (.al (zz:=fun b11=> ⟨S2.mk sL (.inr sL),?_⟩));refine .e 8 0 ?_;refine .dn ?_;refine U9 ?_;refine Tc.db (Tc.loopInv (σ:= { i:Nat//i<=(placesTo code 7).length }) (fun i=> ([(5,.pointer (some ⟨b5,0,none⟩)),(10,.int .u8 (viewTo code a r n mv i.1:Nat)),(11,.pointer (some ⟨b11,0,none⟩)),(32,.int .i64 ((placesTo code 7).length:Nat)),(33,.int .i64 (i.1:Nat))],
  [(b11,true,.cells ⟨intsL (afterTo (seenTo (placesTo code 7) mv a n (placesTo code 7).length) (placesTo code 7).length)⟩ 185 (0,0)),(b5,true,.cells ⟨[.int .i64 a,.int .i64 r,.int .i64 n,.slice A m ca]⟩ 121 (0,0))])) (fun i=> (placesTo code 7).length-i.1) ?_ ⟨0,Nat.zero_le _⟩)
 rintro⟨i,hi⟩ ih;show Tc M St _ _ _ _ [(5,.pointer (some ⟨b5,0,none⟩)),(10,.int .u8 (viewTo code a r n mv i:Nat)),(11,.pointer (some ⟨b11,0,none⟩)),(32,.int .i64 ((placesTo code 7).length:Nat)),(33,.int .i64 (i:Nat))]
  [(b11,true,.cells ⟨intsL (afterTo (seenTo (placesTo code 7) mv a n (placesTo code 7).length) (placesTo code 7).length)⟩ 185 (0,0)),(b5,true,.cells ⟨[.int .i64 a,.int .i64 r,.int .i64 n,.slice A m ca]⟩ 121 (0,0))] _ _
 by_cases c1:i=(placesTo code 7).length
 ·have hv:viewTo code a r n mv i=pastView code a r n mv:=by rw[c1,<-hml];exact viewTo_all
  have hlt:=viewTo_lt code a r n mv i;rw[hv] at hlt;rw[hv];cases hrd:readN (pastView code a r n mv) with
  | none=>
   refine U10 ?_;refine .cl (fun H hs=> CallT.is (.tuple ⟨[.int .i64 0,.bool false]⟩) (by rewrite [hrd];rfl) (read_c M H (pastView code a r n mv) hlt)) ?_;refine U14 ?_;refine .rt hK func53 results53 [_,_,_] ?_;exact fun H' hs=> ⟨hs.base,by rw[hrd];rfl⟩
  | some w=>
   refine U10 ?_;refine .cl (fun H hs=> CallT.is (.tuple ⟨[.int .i64 (w:Nat),.bool true]⟩) (by rewrite [hrd];rfl) (read_c M H (pastView code a r n mv) hlt)) ?_;refine U14 ?_;refine .rt hK func53 results53 [_,_,_] ?_;exact fun H' hs=> ⟨hs.base,by rw[hrd];rfl⟩
 ·have c2:i<(placesTo code 7).length:=by omega
  have f1:=hget i c2;have hmi:=missedF_in r (seenAt (placesTo code 7) mv a n i-seenAt (placesTo code 7) mv a n 0);have hst:=viewTo_step (c:=code) (a:=a) (r:=r) (n:=n) (mv:=mv) (i:=i) oM oM;obtain⟨w,hw⟩:∃w:Nat,missedF r (seenAt (placesTo code 7) mv a n i-seenAt (placesTo code 7) mv a n 0)=(w:Int):=⟨_,(Int.toNat_of_nonneg hmi.1).symm⟩
  rw[hw,Int.toNat_natCast] at hst;have hw8:w<8:=by omega
  refine U14 ?_;refine Tc.dr [] [] mixed rfl ?_;refine V6 0 ?_;refine .z 6 rfl (OpV.tk fun H hs=> CallT.is (.int .i64 (w:Nat)) (by rewrite [hw];rfl) (missed_c M H r (seenAt (placesTo code 7) mv a n i-seenAt (placesTo code 7) mv a n 0) oM oM)) ?_;refine .z 7 rfl (OpV.tk fun H hs=> CallT.mono (turned_c M H (viewTo code a r n mv i) w (viewTo_lt ..) hw8) (Q':=fun v H'=> H.le H'/\v=.int .u8 (viewTo code a r n mv (i+1):Nat)) (by rintro v H' ⟨h1,h2⟩;rw[hst];exact⟨h1,h2⟩)) ?_;refine .nn 8 ?_;refine .dn ?_;refine U5 ?_;exact Tc.db (ih ⟨i+1,oM⟩ (by simp only;omega))
end
set_option maxHeartbeats 8000000
theorem read_right:∀c:Nat,c<32->readN (rightN c)=some c:=by decide +kernel
theorem Lk.claim_one {k:Lk}(hk:k.ok=true){c:Nat}(hc:c<32):k.claim c=1<->k.wrong c=none:=by
 obtain⟨hks,hkr,hkl,hkm⟩:=Lk.ok_in hk;rw[Lk.wrong_sees hkr.1];obtain⟨v,hv⟩:=Lk.sees_some (k:=k) hkr.1 hks.2.1 hkr.2.1 hkl.2.1 hkm.2.1 hc;have hlt:∀w,k.sees c w=true->w<128:=fun w hw=> by
  obtain⟨a,r,n,mv,_,rfl⟩:=(Lk.sees_iff hkr.1 hc).1 hw;exact Stg.viewFrom_lt _ _ _ _ dE
 unfold Lk.claim;constructor
 ·intro h w hw;split at h
  ·rename_i hr
   split at h
   ·rename_i h1
    unfold Lk.seen at h1;obtain⟨z,hz⟩:=List.length_eq_one_iff.1 h1;have m1:w∈(List.range 128).filter (k.sees c):=List.mem_filter.2 ⟨List.mem_range.2 (hlt w hw),hw⟩;have m2:rightN c∈(List.range 128).filter (k.sees c):=List.mem_filter.2 ⟨List.mem_range.2 (hlt _ hr),hr⟩;rw[hz,List.mem_singleton] at m1 m2;rw[m1,m2]
   ·cases h
  ·cases h
 ·intro h;have hr:k.sees c (rightN c)=true:=by rw[<-h v hv];exact hv
  rw[if_pos hr,if_pos];unfold Lk.seen;have e:(List.range 128).filter (k.sees c)= [rightN c]:=by
   have nd:((List.range 128).filter (k.sees c)).Nodup:=List.Pairwise.filter _ List.nodup_range;have hall:∀x∈(List.range 128).filter (k.sees c),x=rightN c:=fun x hx=> h x (List.mem_filter.1 hx).2;have hm:rightN c∈(List.range 128).filter (k.sees c):=List.mem_filter.2 ⟨List.mem_range.2 (hlt _ hr),hr⟩
   match hL:(List.range 128).filter (k.sees c),nd,hall,hm with
   | [],_,_,hm=> cases hm
   | [x],_,hall,_=> rw[hall x (by simp)]
   | x::y::l,nd,hall,_=>
    have h1:=hall x (by simp);have h2:=hall y (by simp);rw[List.nodup_cons] at nd;exact absurd (by rw[h1,<-h2];simp) nd.1
  rw[e];rfl
theorem right_val:∀c:Nat,c<32->rightN c=64+2*c:=by decide +kernel
theorem read_only {v c:Nat}(hv:v<128)(h:readN v=some c):v=rightN c:=by
 have hc:=readN_lt h;rw[right_val c hc];exact(readN_iff v hv c hc).1 h
theorem pastView_lt(c:Nat)(a r n:Int)(mv:List Int):pastView c a r n mv<128:=Stg.viewFrom_lt _ _ _ _ dE
end Go.Proofs.YtcagolloalgfiaaGreatDoor.Sg
section

end
namespace Go.Proofs.YtcagolloalgfiaaGreatDoor.Sg
open Go.RL Go.Proofs.Tryz
set_option maxRecDepth 10000
set_option maxHeartbeats 4000000
structure Tells(k:Lk)(c:Nat)(rd:Option Nat):Prop where
 always:k.claim c=1->rd=some c/\keepI (k.canRead c) 32= [(c:Int)]/\k.refused c=2
 never:k.claim c=2->rd≠some c
 refused:k.refused c=1->rd=none
 taken:k.refused c=2->rd≠none
 found:∀n,rd=some n->(n:Int)∈keepI (k.canRead c) 32
 sure:k.sureOf c=true<->k.claim c=1
theorem Lk.bad_iff {k:Lk}{c:Nat}:k.bad c=true<->∃v,v<128/\k.sees c v=true/\readN v=none:=by
 unfold Lk.bad;rw[List.any_eq_true];constructor
 ·rintro⟨v,h1,h2⟩;rw[Bool.and_eq_true,Option.isNone_iff_eq_none] at h2;exact⟨v,List.mem_range.1 h1,h2.1,h2.2⟩
 ·rintro⟨v,h1,h2,h3⟩;exact⟨v,List.mem_range.2 h1,by rw[Bool.and_eq_true,Option.isNone_iff_eq_none];exact⟨h2,h3⟩⟩
theorem readN_see {k:Lk}{c v n:Nat}(hv:v<128)(hs:k.sees c v=true)(h:readN v=some n):n<32/\k.canRead c n=true:=by
 have hn:=readN_lt h;have:=(readN_iff v hv n hn).1 h;exact⟨hn,by unfold Lk.canRead;rw[<-this];exact hs⟩
theorem keepI_empty {p:Nat->Bool}{n:Nat}:(keepTo p n).length=0<->∀i,i<n->p i=false:=by
 unfold keepTo;rw[List.length_map,List.length_eq_zero_iff,List.filter_eq_nil_iff];constructor
 ·intro h i hi;have:=h i (List.mem_range.2 hi);cases hp:p i with
  | false=> rfl
  | true=> exact absurd hp this
 ·intro h i hi;rw[h i (List.mem_range.1 hi)];decide
theorem Lk.refused_one {k:Lk}{c:Nat}(h:k.refused c=1):∀n,n<32->k.canRead c n=false:=by
 unfold Lk.refused at h;split at h
 ·split at h
  ·rename_i h2
   exact keepI_empty.1 h2
  ·cases h
 ·cases h
theorem Lk.refused_two {k:Lk}{c:Nat}:k.refused c=2<->k.bad c=false:=by
 unfold Lk.refused;constructor
 ·intro h;split at h
  ·split at h <;> cases h
  ·rename_i h2
   cases hb:k.bad c with
   | false=> rfl
   | true=> exact absurd hb h2
 ·intro h;rw[h];rfl
theorem keepI_one {p:Nat->Bool}{n c:Nat}(hc:c<n)(hp:p c=true)(h:∀i,i<n->p i=true->i=c):keepI p n= [(c:Int)]:=by
 have h1:((List.range n).filter p).Nodup:=List.Pairwise.filter _ List.nodup_range;have h2:((List.range n).filter p).Perm [c]:=by
  refine(List.perm_ext_iff_of_nodup h1 (by simp)).2 fun i=> ?_;rw[List.mem_filter,List.mem_range,List.mem_singleton];constructor
  ·exact fun⟨h3,h4⟩=> h i h3 h4
  ·rintro rfl;exact⟨hc,hp⟩
 unfold keepI;rw[List.perm_singleton.1 h2];rfl
theorem Lk.tells {k:Lk}(hk:k.ok=true){c:Nat}(hc:c<32){a r n:Int}{mv:List Int}(hP:k.Past c a r n mv):Tells k c (readN (pastView c a r n mv)):=by
 obtain⟨hks,hkr,hkl,hkm⟩:=Lk.ok_in hk;have hv:=pastView_lt c a r n mv;have hs:k.sees c (pastView c a r n mv)=true:=(Lk.sees_iff hkr.1 hc).2 ⟨a,r,n,mv,hP,rfl⟩;have h1:=Lk.claim_one hk hc;have hone:k.claim c=1->∀w,k.sees c w=true->w=rightN c:=fun h=> (Lk.wrong_sees hkr.1).1 (h1.1 h);have hrr:=read_right c hc;have hrv:=right_val c hc;refine⟨fun h=> ?_,fun h=> ?_,fun h=> ?_,fun h e=> ?_,fun m hm=> ?_,?_⟩
 ·have ho:=hone h;have e:=ho _ hs;refine⟨by rw[e];exact hrr,?_,?_⟩
  ·refine keepI_one hc ?_ fun i hi hp=> ?_
   ·unfold Lk.canRead;rw[<-hrv,<-e];exact hs
   ·unfold Lk.canRead at hp;have:=ho _ hp;omega
  ·rw[Lk.refused_two];cases hb:k.bad c with
   | false=> rfl
   | true=>
    obtain⟨w,_,h3,h4⟩:=Lk.bad_iff.1 hb;rw[ho w h3,hrr] at h4;cases h4
 ·intro e;have h3:=read_only hv e;unfold Lk.claim at h;rw[<-h3,hs,if_pos rfl] at h;split at h <;> cases h
 ·cases hr:readN (pastView c a r n mv) with
  | none=> rfl
  | some m=>
   obtain⟨h3,h4⟩:=readN_see hv hs hr;rw[Lk.refused_one h m h3] at h4;cases h4
 ·have h3:=Lk.refused_two.1 h;rw[Lk.bad_iff.2 ⟨_,hv,hs,e⟩] at h3;cases h3
 ·obtain⟨h3,h4⟩:=readN_see hv hs hm;exact keepI_mem.2 ⟨h3,h4⟩
 ·rw[h1];unfold Lk.sureOf;rw[Option.isNone_iff_eq_none]
end Go.Proofs.YtcagolloalgfiaaGreatDoor.Sg
namespace Go.Proofs.YtcagolloalgfiaaGreatDoor
open Go.RL Go.Proofs.Tryz
set_option maxRecDepth 10000
set_option maxHeartbeats 8000000
def rdv(q:Sg.Lk)(l:List Int)(c:Nat):Option Nat:=Sg.readN (Sg.pastView c (q.pSend l) (q.pRead l) (q.pLean l) (q.pMoves l (Sg.placesTo c 7).length))
theorem rdv_sure {q:Sg.Lk}(hq:q.ok=true)(l:List Int){c:Nat}(hc:c<32)(h:q.sureOf c=true):rdv q l c=some c:=by
 have hT:=Sg.Lk.tells hq hc (Sg.Lk.past_of hq c l);exact(hT.always (hT.sure.1 h)).1
section
variable(M:Md prog)(H:View)
theorem In_c(x lo hi:Int)(t:Bool)(ht:decide (lo<=x/\x<=hi)=t):CallT M 13 #[.int .i64 x,.int .i64 lo,.int .i64 hi] H (fun v H'=> H.le H'/\v=.bool t):=by
 rw[<-ht];refine .en func13 ntmps13 fun St c cs hK=> ?_;by_cases c1:lo<=x
 all_goals by_cases c2:x<=hi
 all_goals
  refine U8 ?_;refine .i ?_ (z:=by first|exact geq_t oM|exact geq_f oM);refine U ?_;first|(refine .sk ?_)|(refine .m ?_)
  first|(refine .sk ?_)|(refine .m ?_)
  first|(refine .sk ?_)|(refine .x (.it (zz:=(by first|exact leq_t oM|exact leq_f oM))) ?_)
  refine U3 ?_;refine .rt hK func13 results13 [_] ?_;exact fun H' hs=> ⟨hs.base,by simp[packV,c1,c2]⟩
theorem Inside_c(a b lo hi:Int)(t:Bool)(ht:decide (lo<=a/\a<=b/\b<=hi)=t):CallT M 62 #[bandV a b,.int .i64 lo,.int .i64 hi] H (fun v H'=> H.le H'/\v=.bool t):=by
 rw[<-ht];refine .en func62 ntmps62 fun St c cs hK=> ?_;by_cases c1:lo<=a
 all_goals by_cases c2:a<=b
 all_goals by_cases c3:b<=hi
 all_goals
  refine U2 ?_;refine .bo fun b1=> ?_;refine U8 ?_;refine .i ?_ (z:=by first|exact leq_t oM|exact leq_f oM);refine U ?_;first|(refine .sk ?_)|(refine .x .fa ?_)
  first|(refine .sk ?_)|((refine .x (.ld 0) ?_))
  first|(refine .sk ?_)|(refine .m ?_)
  first|(refine .sk ?_)|(refine .x (.it (zz:=(by first|exact geq_t oM|exact geq_f oM))) ?_)
  refine U2 ?_;first|(refine .sk ?_)|(refine .x .fa ?_)
  first|(refine .sk ?_)|((refine .x (.ld 0) ?_))
  first|(refine .sk ?_)|(refine .m ?_)
  first|(refine .sk ?_)|(refine .x (.it (zz:=(by first|exact leq_t oM|exact leq_f oM))) ?_)
  refine U3 ?_;refine .rt hK func62 results62 [_] ?_;exact fun H' hs=> ⟨hs.base,by simp[packV,c1,c2,c3]⟩
theorem IsClaim_c(x:Int)(t:Bool)(ht:claimOk x=t):CallT M 105 #[.int .i64 x] H (fun v H'=> H.le H'/\v=.bool t):=by
 rw[<-ht];unfold claimOk;refine .en func105 ntmps105 fun St c cs hK=> ?_;by_cases c1:0<=x
 all_goals by_cases c2:x<=2
 all_goals try omega
 all_goals
  refine U7 ?_;refine .i ?_ (z:=by first|exact geq_t oM|exact geq_f oM);refine U ?_;first|(refine .sk ?_)|(refine .m ?_)
  first|(refine .sk ?_)|(refine .x (.it (zz:=(by first|exact leq_t oM|exact leq_f oM))) ?_)
  refine U3 ?_;refine .rt hK func105 results105 [_] ?_;exact fun H' hs=> ⟨hs.base,by simp[packV,c1,c2]⟩
theorem smallR_c(x:UInt8)(t:Bool)(ht:low x=t):CallT M 124 #[.int .u8 (x.toNat:Nat)] H (fun v H'=> H.le H'/\v=.bool t):=by
 rw[<-ht];unfold low;refine .en func124 ntmps124 fun St c cs hK=> ?_;by_cases c1:97<=x.toNat
 all_goals by_cases c2:x.toNat<=122
 all_goals try omega
 all_goals
  refine U7 ?_;refine .i ?_ (z:=by first|exact geq_t oM|exact geq_f oM);refine U ?_;first|(refine .sk ?_)|(refine .m ?_)
  first|(refine .sk ?_)|(refine .x (.it (zz:=(by first|exact leq_t oM|exact leq_f oM))) ?_)
  refine U3 ?_;refine .rt hK func124 results124 [_] ?_;exact fun H' hs=> ⟨hs.base,by simp[packV,c1,c2]⟩
theorem digitR_c(x:UInt8)(t:Bool)(ht:dig x=t):CallT M 125 #[.int .u8 (x.toNat:Nat)] H (fun v H'=> H.le H'/\v=.bool t):=by
 have e:dig x=decide (48<=x.toNat/\x.toNat<=57):=by unfold dig;exact decide_eq_decide.2 oM
 rw[<-ht,e];refine .en func125 ntmps125 fun St c cs hK=> ?_;by_cases c1:48<=x.toNat
 all_goals by_cases c2:x.toNat<=57
 all_goals try omega
 all_goals
  refine U7 ?_;refine .i ?_ (z:=by first|exact geq_t oM|exact geq_f oM);refine U ?_;first|(refine .sk ?_)|(refine .m ?_)
  first|(refine .sk ?_)|(refine .x (.it (zz:=(by first|exact leq_t oM|exact leq_f oM))) ?_)
  refine U3 ?_;refine .rt hK func125 results125 [_] ?_;exact fun H' hs=> ⟨hs.base,by simp[packV,c1,c2]⟩
theorem Begins_c(s p:List UInt8)(t:Bool)(ht:begins s p=t):CallT M 147 #[strV s,strV p] H (fun v H'=> H.le H'/\v=.bool t):=by
 rw[<-ht];refine .en func147 ntmps147 fun St c cs hK=> ?_;by_cases c1:p.length<=s.length
 ·have e:begins s p=(s.take p.length==p):=by unfold begins;simp[c1]
  rw[e] at hK;refine U15 ?_;refine .x (OpV.sliceS (E:=en) rfl rfl rfl rfl rfl rfl oM oM oM) ?_;refine U5 ?_;refine .rt hK func147 results147 [_] ?_;exact fun H' hs=> ⟨hs.base,by simp[packV]⟩
 ·have e:begins s p=false:=by unfold begins;simp[c1]
  rw[e] at hK;refine U21 ?_;refine .rt hK func147 results147 [_] ?_;exact okB
theorem all_not {s:List UInt8}{j:Nat}{x:UInt8}(h:s[j]? =some x)(hx:dig x=false):s.all dig=false:=by
 rw[List.all_eq_false];exact⟨x,List.mem_of_getElem? h,by rw[hx];decide⟩
theorem IsNumberR_c(s:List UInt8)(hl:s.length<=1000000)(t:Bool)(ht:isNum s=t):CallT M 103 #[strV s] H (fun v H'=> H.le H'/\v=.bool t):=by
 rw[<-ht];clear ht;refine .en func103 ntmps103 fun St c cs hK=> ?_;refine U10 ?_;refine Tc.db (Tc.loopInv (σ:= { j:Nat//j<=s.length/\∀i x,i<j->s[i]? =some x->dig x=true }) (fun j=> ([(0,strV s),(3,.int .i64 (j.1:Nat))],[])) (fun j=> s.length-j.1) ?_ ⟨0,Nat.zero_le _,fun i x hi=> by omega⟩);rintro⟨j,hj,hall⟩ ih;show Tc M St _ _ _ _ [(0,strV s),(3,.int .i64 (j:Nat))] [] _ _;by_cases c1:j=s.length
 ·have e:s.all dig=true:=List.all_eq_true.2 fun x hx=> by
   obtain⟨i,hi,rfl⟩:=List.mem_iff_getElem.1 hx;exact hall i _ oM (List.getElem?_eq_getElem hi)
  have e2:isNum s=decide (1<=((s.length:Nat):Int)/\((s.length:Nat):Int)<=3):=by
   unfold isNum;rw[e,Bool.and_true];exact decide_eq_decide.2 oM
  rw[e2] at hK;subst c1;refine U14 ?_;refine .cl (fun H hs=> In_c M H (s.length:Nat) 1 3 _ rfl) ?_;refine U2 ?_;refine .rt hK func103 results103 [_] ?_;exact okB
 ·have c2:j<s.length:=by omega
  obtain⟨x,hx⟩:∃x,s[j]? =some x:=⟨_,List.getElem?_eq_getElem c2⟩
  have f1:s[((j:Nat):Int).toNat]? =some x:=by rw[Int.toNat_natCast];exact hx
  cases hd:dig x with
  | true=>
   have:=of_decide_eq_true hd;refine U33 ?_;exact Tc.db (ih ⟨j+1,oM,fun i y hi hy=> by
    by_cases e:i=j
    ·subst e;rw[hx] at hy;cases hy;exact hd
    ·exact hall i y oM hy⟩ (by simp only;omega))
  | false=>
   have e:isNum s=false:=by unfold isNum;rw[all_not hx hd];simp
   have hnd:=of_decide_eq_false hd;rw[e] at hK;by_cases c3:x.toNat<48
   ·refine U30 ?_;refine .rt hK func103 results103 [_] ?_;exact okB
   ·have c4:57<x.toNat:=by omega
    refine U30 ?_;refine .rt hK func103 results103 [_] ?_;exact okB
theorem IsNameR_c(s:List UInt8)(hl:s.length<=1000000)(t:Bool)(ht:isNm s=t):CallT M 71 #[strV s] H (fun v H'=> H.le H'/\v=.bool t):=by
 rw[<-ht];clear ht;refine .en func71 ntmps71 fun St c cs hK=> ?_;refine U10 ?_;refine Tc.db (Tc.loopInv (σ:= { j:Nat//j<=s.length/\∀i,i<j->nmAt s i=true }) (fun j=> ([(0,strV s),(3,.int .i64 (j.1:Nat))],[])) (fun j=> s.length-j.1) ?_ ⟨0,Nat.zero_le _,fun i hi=> by omega⟩);rintro⟨j,hj,hall⟩ ih;show Tc M St _ _ _ _ [(0,strV s),(3,.int .i64 (j:Nat))] [] _ _;by_cases c1:j=s.length
 ·have e:allB (nmAt s) s.length=true:=(allB_iff _).2 (by rw[<-c1];exact hall);have e2:isNm s=decide (1<=((s.length:Nat):Int)/\((s.length:Nat):Int)<=9):=by
   unfold isNm;rw[e,Bool.and_true];exact decide_eq_decide.2 oM
  rw[e2] at hK;subst c1;refine U14 ?_;refine .cl (fun H hs=> In_c M H (s.length:Nat) 1 9 _ rfl) ?_;refine U2 ?_;refine .rt hK func71 results71 [_] ?_;exact okB
 ·have c2:j<s.length:=by omega
  obtain⟨x,hx⟩:∃x,s[j]? =some x:=⟨_,List.getElem?_eq_getElem c2⟩
  have f1:s[((j:Nat):Int).toNat]? =some x:=by rw[Int.toNat_natCast];exact hx
  cases hlw:low x with
  | true=>
   have hn:nmAt s j=true:=by unfold nmAt;rw[hx];simp[hlw]
   refine U17 ?_;refine .cl (fun H hs=> smallR_c M H x true hlw) ?_;refine U5 ?_;refine To.skippedU rfl dE rfl ?_;refine To.skippedU rfl dE rfl ?_;refine To.skippedU rfl dE rfl ?_;refine To.skippedU rfl dE rfl ?_;refine To.skippedU rfl dE rfl ?_;refine U11 ?_;exact Tc.db (ih ⟨j+1,oM,fun i hi=> by by_cases e:i=j;exact e▸hn;exact hall i oM⟩ (by simp only;omega))
  | false=>
   by_cases c3:j=0
   ·subst c3;have e:isNm s=false:=by unfold isNm;rw[allB_not c2 (by unfold nmAt;rw[hx];simp[hlw])];simp
    rw[e] at hK;refine U17 ?_;refine .cl (fun H hs=> smallR_c M H x false hlw) ?_;refine U18 ?_;refine .rt hK func71 results71 [_] ?_;exact okB
   ·have c4:(j:Int)≠0:=by omega
    cases hd:dig x with
    | true=>
     have hn:nmAt s j=true:=by unfold nmAt;rw[hx];simp[hd];omega
     refine U17 ?_;refine .cl (fun H hs=> smallR_c M H x false hlw) ?_;refine U8 ?_;refine .cl (fun H hs=> digitR_c M H x true hd) ?_;refine U12 ?_;exact Tc.db (ih ⟨j+1,oM,fun i hi=> by by_cases e:i=j;exact e▸hn;exact hall i oM⟩ (by simp only;omega))
    | false=>
     have e:isNm s=false:=by unfold isNm;rw[allB_not c2 (by unfold nmAt;rw[hx];simp[hlw,hd])];simp
     rw[e] at hK;refine U17 ?_;refine .cl (fun H hs=> smallR_c M H x false hlw) ?_;refine U8 ?_;refine .cl (fun H hs=> digitR_c M H x false hd) ?_;refine U9 ?_;refine .rt hK func71 results71 [_] ?_;exact okB
theorem IndexOf_c(A:Option Addr)(n ac:Nat)(x:Nat->List UInt8)(hA:StrsAt H A n x)(hn:n<=100000000)(s:List UInt8):CallT M 102 #[.slice A n ac,strV s] H (fun v H'=> H.le H'/\v=.int .i64 (firstI (firstTo (fun j=> x j==s) n))):=by
 refine .en func102 ntmps102 fun St c cs hK=> ?_;refine U10 ?_;refine Tc.db (Tc.loopInv (σ:= { j:Nat//j<=n/\firstTo (fun j=> x j==s) j=none }) (fun j=> ([(0,.slice A n ac),(1,strV s),(5,.int .i64 (j.1:Nat))],[])) (fun j=> n-j.1) ?_ ⟨0,Nat.zero_le _,rfl⟩);rintro⟨j,hj,hno⟩ ih;show Tc M St _ _ _ _ [(0,.slice A n ac),(1,strV s),(5,.int .i64 (j:Nat))] [] _ _;by_cases c1:j=n
 ·subst c1;rw[hno] at hK;refine U14 ?_;refine .rt hK func102 results102 [_] ?_;exact okB
 ·have c2:j<n:=by omega
  obtain h0|⟨ab,ao,f,gs,gt,gz,rfl,hb,hl⟩:=hA
  ·omega
  have f1:=hl j c2;cases hpp:x j==s with
  | true=>
   have f3:RL.strB .eql (x j) s=some (.bool true):=by rw[<-hpp];rfl
   have e:firstTo (fun j=> x j==s) n=some j:=firstTo_stays (j:=j+1) (by simp[firstTo,hno,hpp]) _ oM;rw[e] at hK;refine U27 ?_;refine .rt hK func102 results102 [_] ?_;exact okB
  | false=>
   have f3:RL.strB .eql (x j) s=some (.bool false):=by rw[<-hpp];rfl
   refine U29 ?_;exact Tc.db (ih ⟨j+1,oM,by simp[firstTo,hno,hpp]⟩ (by simp only;omega))
theorem clashesR_c(k:Bk)(A:Option Addr)(lc:Nat)(hA:RowsAt H k A lc)(hn:k.nl<=1000)(s:List UInt8)(t:Bool)(ht:k.clash s=t):
  CallT M 104 #[.slice A k.nl lc,strV s] H (fun v H'=> H.le H'/\v=.bool t):=by
 rw[<-ht];clear ht;refine .en func104 ntmps104 fun St c cs hK=> ?_;refine U10 ?_;refine Tc.db (Tc.loopInv (σ:= { j:Nat//j<=k.nl/\firstTo (fun i=> clash1 (k.num i) s) j=none }) (fun j=> ([(0,.slice A k.nl lc),(1,strV s),(5,.int .i64 (j.1:Nat))],[])) (fun j=> k.nl-j.1) ?_ ⟨0,Nat.zero_le _,rfl⟩);rintro⟨j,hj,hno⟩ ih;show Tc M St _ _ _ _ [(0,.slice A k.nl lc),(1,strV s),(5,.int .i64 (j:Nat))] [] _ _;by_cases c1:j=k.nl
 ·have e:k.clash s=false:=by unfold Bk.clash;rw[<-c1,hno];rfl
  subst c1;rw[e] at hK;refine U14 ?_;refine .rt hK func104 results104 [_] ?_;exact okB
 ·have c2:j<k.nl:=by omega
  obtain⟨_,h0|⟨ab,ao,f,gs,gt,gz,rfl,hb,hl⟩⟩:=hA
  ·omega
  obtain⟨F,fc,f1,_,_⟩:=hl j c2;have f2:ldL false 1 gs (ao+((j:Nat):Int).toNat*3+1)=some (strV (k.num j)):=ldL_cell f1 dE;cases hpp:clash1 (k.num j) s with
  | true=>
   have e:k.clash s=true:=by
    unfold Bk.clash;rw[firstTo_stays (j:=j+1) (x:=j) (by simp[firstTo,hno,hpp]) _ oM];rfl
   rw[e] at hK;cases hb1:begins s (k.num j) with
   | true=>
    refine U20 ?_;refine .cl (fun H hs=> Begins_c M H s (k.num j) true hb1) ?_;refine U15 ?_;refine .rt hK func104 results104 [_] ?_;exact okB
   | false=>
    have hb2:begins (k.num j) s=true:=by unfold clash1 at hpp;rw[hb1,Bool.or_false] at hpp;exact hpp
    refine U20 ?_;refine .cl (fun H hs=> Begins_c M H s (k.num j) false hb1) ?_;refine U7 ?_;refine .cl (fun H hs=> Begins_c M H (k.num j) s true hb2) ?_;refine U7 ?_;refine .rt hK func104 results104 [_] ?_;exact okB
  | false=>
   have hb12:begins s (k.num j)=false/\begins (k.num j) s=false:=by unfold clash1 at hpp;rw[Bool.or_eq_false_iff] at hpp;exact⟨hpp.2,hpp.1⟩
   refine U20 ?_;refine .cl (fun H hs=> Begins_c M H s (k.num j) false hb12.1) ?_;refine U7 ?_;refine .cl (fun H hs=> Begins_c M H (k.num j) s false hb12.2) ?_;refine U10 ?_;exact Tc.db (ih ⟨j+1,oM,by simp[firstTo,hno,hpp]⟩ (by simp only;omega))
theorem checkTrain_c(a b p q:Int)(z:Int)(hz:(if trainOk a b p q then 0 else 1:Int)=z):CallT M 58 #[trainV a b p q] H (fun v H'=> H.le H'/\v=.int .i64 z):=by
 rw[<-hz];clear hz;by_cases c1:1<=a/\a<=b/\b<=12
 ·by_cases c2:b-a<4
  ·by_cases c3:0<=p/\p<=q/\q<=99
   ·have e:trainOk a b p q=true:=by unfold trainOk;simp[c1,c2,c3]
    rw[e];refine .en func58 ntmps58 fun St c cs hK=> ?_;refine U2 ?_;refine .bo fun b1=> ?_;refine U7 ?_;refine .cl (fun H hs=> Inside_c M H a b 1 12 true (decide_eq_true c1)) ?_;refine U14 ?_;refine .cl (fun H hs=> Inside_c M H p q 0 99 true (decide_eq_true c3)) ?_;refine U9 ?_;refine .rt hK func58 results58 [_] ?_;exact okB
   ·have e:trainOk a b p q=false:=by unfold trainOk;simp[c3]
    rw[e];refine .en func58 ntmps58 fun St c cs hK=> ?_;refine U2 ?_;refine .bo fun b1=> ?_;refine U7 ?_;refine .cl (fun H hs=> Inside_c M H a b 1 12 true (decide_eq_true c1)) ?_;refine U14 ?_;refine .cl (fun H hs=> Inside_c M H p q 0 99 false (decide_eq_false c3)) ?_;refine U8 ?_;refine .rt hK func58 results58 [_] ?_;exact okB
  ·have e:trainOk a b p q=false:=by unfold trainOk;simp[c2]
   rw[e];refine .en func58 ntmps58 fun St c cs hK=> ?_;refine U2 ?_;refine .bo fun b1=> ?_;refine U7 ?_;refine .cl (fun H hs=> Inside_c M H a b 1 12 true (decide_eq_true c1)) ?_;refine U23 ?_;refine .rt hK func58 results58 [_] ?_;exact okB
 ·have e:trainOk a b p q=false:=by unfold trainOk;simp[c1]
  rw[e];refine .en func58 ntmps58 fun St c cs hK=> ?_;refine U2 ?_;refine .bo fun b1=> ?_;refine U7 ?_;refine .cl (fun H hs=> Inside_c M H a b 1 12 false (decide_eq_false c1)) ?_;refine U23 ?_;refine .rt hK func58 results58 [_] ?_;exact okB
end
def Bk.namesTo(k:Bk)(j:Nat):List (List UInt8):=(List.range j).map k.name
theorem namesTo_snoc(k:Bk)(j:Nat):k.namesTo (j+1)=k.namesTo j++[k.name j]:=by unfold Bk.namesTo;rw[List.range_succ,List.map_append];rfl
theorem namesTo_len(k:Bk)(j:Nat):(k.namesTo j).length=j:=by unfold Bk.namesTo;simp
theorem firstTo_cong {p q:Nat->Bool}:∀n,(∀i,i<n->p i=q i)->firstTo p n=firstTo q n
 | 0,_=> rfl
 | n+1,h=> by rw[firstTo,firstTo,firstTo_cong n (fun i hi=> h i oM),h n oM]
theorem names_first(k:Bk)(j n:Nat)(hn:n=j)(s:List UInt8):firstTo (fun i=> (k.namesTo j)[i]?.getD []==s) n=firstTo (fun i=> k.name i==s) j:=by
 subst hn;refine firstTo_cong _ fun i hi=> ?_;unfold Bk.namesTo;rw[List.getElem?_map,List.getElem?_eq_getElem (by simpa using hi)];simp
section
variable(M:Md prog)(H:View)
theorem checkLines_c (k:Bk)(A:Option Addr)(lc:Nat)(hA:RowsAt H k A lc)(hn:k.nl<=1000)(hs0:∀i,i<k.nl->(k.name i).length<=1000000/\(k.num i).length<=1000000/\k.nf i<=1000):
  CallT M 57 #[.slice A k.nl lc] H (fun v H'=> H.le H'/\v=.int .i64 k.linesA):=by
 by_cases c1:6<k.nl
 ·have e:k.linesA=2:=if_pos c1;rw[e];refine .en func57 ntmps57 fun St c cs hK=> ?_;refine U16 ?_;refine .rt hK func57 results57 [_] ?_;exact okB
 ·have e : k.linesA =firstA k.lineA k.nl:=if_neg c1;rw[e];clear e;refine .en func57 ntmps57 fun St c cs hK=> ?_;refine U23 ?_;refine Tc.db (Tc.loopInv (σ:= { x:Nat×Gl 9 1//x.1<=k.nl/\firstA k.lineA x.1=0/\x.2.l=strsV (k.namesTo x.1) }) (fun x=> ([(0,.slice A k.nl lc),(3,x.1.2.val),(4,.int .i64 (x.1.1:Nat))],x.1.2.bl)) (fun x=> k.nl-x.1.1) ?_ ⟨(0,Gl.nil 9 1),Nat.zero_le _,rfl,rfl⟩);rintro⟨⟨j,g⟩,hj,hno,hgl⟩ ih;simp only at hj hno hgl;show Tc M St _ _ _ _ [(0,.slice A k.nl lc),(3,g.val),(4,.int .i64 (j:Nat))] g.bl _ _;have hgn:g.n=j:=by
   have:=g.hl;rw[hgl,strsV_len,namesTo_len] at this;omega
  by_cases c2:j=k.nl
  ·subst c2;rw[hno] at hK;refine U14 ?_;refine .rt hK func57 results57 [_] ?_;exact okB
  ·have c3 : j < k.nl:=by omega
   have hA':=hA;obtain⟨hlc,h0|⟨ab,ao,f,gs,gt,gz,rfl,hb,hl⟩⟩:=hA
   ·omega
   obtain⟨F,fc,f1,_,hF⟩:=hl j c3;obtain⟨s0,s1,s2⟩:=hs0 j c3;have f20:ldL false 1 gs (ao+((j:Nat):Int).toNat*3+0)=some (strV (k.name j)):=ldL_cell f1 dE;have f21:ldL false 1 gs (ao+((j:Nat):Int).toNat*3+1)=some (strV (k.num j)):=ldL_cell f1 dE;have f22:ldL false 1 gs (ao+((j:Nat):Int).toNat*3+2)=some (.slice F (k.nf j) fc):=ldL_cell f1 dE;have hA2:RowsAt H (k.pre j) (some ⟨ab,ao,none⟩) lc:=hA'.pre hj;have hix:=fun(H':View) (hg:∀x∈g.bl,H' x.1=some x.2)=> IndexOf_c M H' (g.blk.map fun b=> ⟨b,0,none⟩) g.n g.cap (fun i=> (k.namesTo j)[i]?.getD []) (strs_of g hg hgl rfl rfl) oM (k.name j);rw[names_first k j g.n hgn] at hix;cases q0:isNm (k.name j) with
   | false=>
    have eA:k.lineA j=4:=by unfold Bk.lineA;simp only[q0];simp
    rw[firstA_at hno eA dE c3] at hK;refine U20 ?_;refine .cl (fun H hs=> IsNameR_c M H (k.name j) s0 _ q0) ?_;refine U7 ?_;refine .rt hK func57 results57 [_] ?_;exact okB
   | true=>
    cases q1:k.again j with
    | true=>
     obtain⟨i0,hi0⟩:∃i,firstTo (fun i=> k.name i==k.name j) j=some i:=Option.isSome_iff_exists.1 q1;rw[hi0] at hix;have hix:=fun(H':View) (hg:∀x∈g.bl,H' x.1=some x.2)=> isV (w':=.int .i64 (i0:Nat)) (hix H' hg) rfl;have eA:k.lineA j=5:=by unfold Bk.lineA;simp only[q0,q1];simp
     rw[firstA_at hno eA dE c3] at hK;refine U20 ?_;refine .cl (fun H hs=> IsNameR_c M H (k.name j) s0 _ q0) ?_;refine U13 ?_;refine .cl (fun H hs=> hix H (fun x hx=> hs.at_ x hx)) ?_;refine U7 ?_;refine .rt hK func57 results57 [_] ?_;exact okB
    | false =>
     have hi0:firstTo (fun i=> k.name i==k.name j) j=none:=Option.isNone_iff_eq_none.1 (by have:=q1;unfold Bk.again at this;rw[<-Option.not_isSome,this];rfl);rw[hi0] at hix;have hix:=fun(H':View) (hg:∀x∈g.bl,H' x.1=some x.2)=> isV (w':=.int .i64 (-1)) (hix H' hg) rfl;cases q2:isNum (k.num j) with
     | false=>
      have eA:k.lineA j=3:=by unfold Bk.lineA;simp only[q0,q1,q2];simp
      rw[firstA_at hno eA dE c3] at hK;refine U20 ?_;refine .cl (fun H hs=> IsNameR_c M H (k.name j) s0 _ q0) ?_;refine U13 ?_;refine .cl (fun H hs=> hix H (fun x hx=> hs.at_ x hx)) ?_;refine U12 ?_;refine .e (.bs (zz:=fun bs=> ?_));refine .e (Or.append (E:=en) (g:=g) (m:=1) (new:= [strV (k.name j)]) (yv:=.slice (some ⟨bs,0,none⟩) 1 1) 1 rfl rfl rfl rfl rfl rfl rfl rfl rfl rfl rfl rfl rfl rfl rfl (fun H hs=> SrcAt.of (hs.get (i:=0) rfl) (Nat.le_of_ble_eq_true rfl)) rfl oM rfl dE (fun g2 hn2 hl2=> ?_));refine U10 ?_;refine .cl (fun H hs=> IsNumberR_c M H (k.num j) s1 _ q2) ?_;refine U7 ?_;refine .rt hK func57 results57 [_] ?_;exact okB
     | true=>
      cases q3:(k.pre j).clash (k.num j) with
      | true=>
       have eA:k.lineA j=10:=by unfold Bk.lineA;simp only[q0,q1,q2,q3];simp
       rw[firstA_at hno eA dE c3] at hK;refine U20 ?_;refine .cl (fun H hs=> IsNameR_c M H (k.name j) s0 _ q0) ?_;refine U13 ?_;refine .cl (fun H hs=> hix H (fun x hx=> hs.at_ x hx)) ?_;refine U12 ?_;refine .e (.bs (zz:=fun bs=> ?_));refine .e (Or.append (E:=en) (g:=g) (m:=1) (new:= [strV (k.name j)]) (yv:=.slice (some ⟨bs,0,none⟩) 1 1) 1 rfl rfl rfl rfl rfl rfl rfl rfl rfl rfl rfl rfl rfl rfl rfl (fun H hs=> SrcAt.of (hs.get (i:=0) rfl) (Nat.le_of_ble_eq_true rfl)) rfl oM rfl dE (fun g2 hn2 hl2=> ?_));refine U10 ?_;refine .cl (fun H hs=> IsNumberR_c M H (k.num j) s1 _ q2) ?_;refine U6 ?_;refine Tc.dr [] [] mixed rfl ?_;refine V2 0 ?_;refine .q 2 rfl (OpV.sliceTo (E:=en) (k:=j) rfl rfl rfl rfl rfl rfl oM oM) ?_;refine V5 3 ?_;refine .z 8 rfl (OpV.tk fun H hs=> clashesR_c M H (k.pre j) (some ⟨ab,ao,none⟩) lc (hA2.le hs.base) (by show j<=1000;omega) (k.num j) _ q3) ?_;refine .dn ?_;refine U5 ?_;refine .rt hK func57 results57 [_] ?_;exact okB
      | false =>
       cases q4:decide (1<=((k.nf j:Nat):Int)/\((k.nf j:Nat):Int)<=4) with
       | false=>
        have eA:k.lineA j=2:=by unfold Bk.lineA;simp only[q0,q1,q2,q3,q4];simp
        rw[firstA_at hno eA dE c3] at hK;refine U20 ?_;refine .cl (fun H hs=> IsNameR_c M H (k.name j) s0 _ q0) ?_;refine U13 ?_;refine .cl (fun H hs=> hix H (fun x hx=> hs.at_ x hx)) ?_;refine U12 ?_;refine .e (.bs (zz:=fun bs=> ?_));refine .e (Or.append (E:=en) (g:=g) (m:=1) (new:= [strV (k.name j)]) (yv:=.slice (some ⟨bs,0,none⟩) 1 1) 1 rfl rfl rfl rfl rfl rfl rfl rfl rfl rfl rfl rfl rfl rfl rfl (fun H hs=> SrcAt.of (hs.get (i:=0) rfl) (Nat.le_of_ble_eq_true rfl)) rfl oM rfl dE (fun g2 hn2 hl2=> ?_));refine U10 ?_;refine .cl (fun H hs=> IsNumberR_c M H (k.num j) s1 _ q2) ?_;refine U6 ?_;refine Tc.dr [] [] mixed rfl ?_;refine V2 0 ?_;refine .q 2 rfl (OpV.sliceTo (E:=en) (k:=j) rfl rfl rfl rfl rfl rfl oM oM) ?_;refine V5 3 ?_;refine .z 8 rfl (OpV.tk fun H hs=> clashesR_c M H (k.pre j) (some ⟨ab,ao,none⟩) lc (hA2.le hs.base) (by show j<=1000;omega) (k.num j) _ q3) ?_;refine .dn ?_;refine U11 ?_;refine .cl (fun H hs=> In_c M H ((k.nf j:Nat):Int) 1 4 _ q4) ?_;refine U7 ?_;refine .rt hK func57 results57 [_] ?_;exact okB
       | true=>
        refine U20 ?_;refine .cl (fun H hs=> IsNameR_c M H (k.name j) s0 _ q0) ?_;refine U13 ?_;refine .cl (fun H hs=> hix H (fun x hx=> hs.at_ x hx)) ?_;refine U12 ?_;refine .e (.bs (zz:=fun bs=> ?_));refine .e (Or.append (E:=en) (g:=g) (m:=1) (new:= [strV (k.name j)]) (yv:=.slice (some ⟨bs,0,none⟩) 1 1) 1 rfl rfl rfl rfl rfl rfl rfl rfl rfl rfl rfl rfl rfl rfl rfl (fun H hs=> SrcAt.of (hs.get (i:=0) rfl) (Nat.le_of_ble_eq_true rfl)) rfl oM rfl dE (fun g2 hn2 hl2=> ?_));refine U10 ?_;refine .cl (fun H hs=> IsNumberR_c M H (k.num j) s1 _ q2) ?_;refine U6 ?_;refine Tc.dr [] [] mixed rfl ?_;refine V2 0 ?_;refine .q 2 rfl (OpV.sliceTo (E:=en) (k:=j) rfl rfl rfl rfl rfl rfl oM oM) ?_;refine V5 3 ?_;refine .z 8 rfl (OpV.tk fun H hs=> clashesR_c M H (k.pre j) (some ⟨ab,ao,none⟩) lc (hA2.le hs.base) (by show j<=1000;omega) (k.num j) _ q3) ?_;refine .dn ?_;refine U11 ?_;refine .cl (fun H hs=> In_c M H ((k.nf j:Nat):Int) 1 4 _ q4) ?_;refine U9 ?_;refine Tc.db (Tc.loopInv (σ:= { i:Nat//i<=k.nf j/\firstTo (fun i=> !claimOk (k.free j i)) i=none }) (fun i=> ([(0,.slice (some ⟨ab,ao,none⟩) k.nl lc),(3,g2.val),(4,.int .i64 (j:Nat)),(5,.int .i64 (i.1:Nat))],g2.bl)) (fun i=> k.nf j-i.1) ?_ ⟨0,Nat.zero_le _,rfl⟩);rintro⟨i,hi,hin⟩ ih2;show Tc M St _ _ _ _ [(0,.slice (some ⟨ab,ao,none⟩) k.nl lc),(3,g2.val),(4,.int .i64 (j:Nat)),(5,.int .i64 (i:Nat))] g2.bl _ _;by_cases d1:i=k.nf j
        ·have eA:k.lineA j=0:=by
          have q5:k.freeBad j=false:=by unfold Bk.freeBad;rw[<-d1,hin];rfl
          unfold Bk.lineA;simp only[q0,q1,q2,q3,q4,q5];simp
         clear ih2 hin;subst d1;refine U20 ?_;exact Tc.db (ih ⟨(j+1,g2),by simp only;omega,by simp only;rw[firstA,if_pos hno];exact eA,by simp only;rw[namesTo_snoc,strsV_app,hl2,hgl];rfl⟩ (by simp only;omega))
        ·have d2:i<k.nf j:=by omega
         obtain h0|⟨fb,fo,ff,fgs,fgt,fgz,rfl,hfb,hfl⟩:=hF
         ·omega
         have f3:=hfl i d2;cases q5:claimOk (k.free j i) with
         | true=>
          refine U26 ?_;refine .cl (fun H hs=> IsClaim_c M H (k.free j i) _ q5) ?_;refine U10 ?_;exact Tc.db (ih2 ⟨i+1,oM,by simp[firstTo,hin,q5]⟩ (by simp only;omega))
         | false=>
          have q6:k.freeBad j=true:=by
           unfold Bk.freeBad;rw[firstTo_stays (j:=i+1) (x:=i) (by simp[firstTo,hin,q5]) _ oM];rfl
          have eA:k.lineA j=1:=by unfold Bk.lineA;simp only[q0,q1,q2,q3,q4,q6];simp
          rw[firstA_at hno eA dE c3] at hK;refine U26 ?_;refine .cl (fun H hs=> IsClaim_c M H (k.free j i) _ q5) ?_;refine U7 ?_;refine .rt hK func57 results57 [_] ?_;exact okB
end
def Bk.wide(k:Bk)(i:Nat):Bool:=decide (100<(k.name i).length)||decide (100<(k.num i).length)||decide (20<k.nf i)
def Bk.great(k:Bk):Bool:=decide (20<k.nl)||decide (20<k.nt)||(firstTo k.wide k.nl).isSome
def Bk.fit(k:Bk):Bool:=!k.great&&decide (k.alarm=0)
theorem Bk.ungreat {k:Bk}(h:k.great=false):k.nl<=20/\k.nt<=20/\∀i,i<k.nl->(k.name i).length<=100/\(k.num i).length<=100/\k.nf i<=20:=by
 unfold Bk.great at h;rw[Bool.or_eq_false_iff,Bool.or_eq_false_iff] at h;have h1:=of_decide_eq_false h.1.1;have h2:=of_decide_eq_false h.1.2;refine⟨oM,oM,fun i hi=> ?_⟩;have h3:k.wide i=false:=(firstTo_none _).1 (by rw[<-Option.not_isSome_iff_eq_none,h.2];decide) i hi;unfold Bk.wide at h3;rw[Bool.or_eq_false_iff,Bool.or_eq_false_iff] at h3;have h4:=of_decide_eq_false h3.1.1;have h5:=of_decide_eq_false h3.1.2;have h6:=of_decide_eq_false h3.2;omega
theorem Bk.ungreat_small {k:Bk}(h:k.great=false):k.small:=by
 obtain⟨h1,h2,h3⟩:=Bk.ungreat h;exact⟨oM,oM,fun i hi=> by have:=h3 i hi;omega⟩
section
variable(M:Md prog)(H:View)
theorem refCheckBook_c(k:Bk)(A:Option Addr)(lc:Nat)(B:Option Addr)(tc:Nat)(hk:BkAt H k A lc B tc)(hn:k.small)(hnm:∀i,i<k.nl->(k.name i).length<=1000000):
  CallT M 22 #[k.val A lc B tc] H (fun v H'=> H.le H'/\v=.int .i64 k.alarm):=by
 have hlines:=fun(H':View) (h':H.le H')=> checkLines_c M H' k A lc (hk.le h').rows hn.nl (fun i hi=> ⟨hnm i hi,hn.num i hi⟩);have hng:=hn.nt;by_cases c1:1<=k.gap/\k.gap<=99
 ·by_cases c2:k.gap+1<=k.give/\k.give<=99
  ·have e:k.alarm=if k.linesA=0 then k.trainsA else k.linesA:=by unfold Bk.alarm;rw[if_pos (by unfold Bk.pausesA;rw[if_pos ⟨c1,c2⟩])]
   rw[e];clear e;by_cases c3:k.linesA=0
   ·rw[if_pos c3];rw[c3] at hlines;by_cases c4:6<k.nt
    ·have e:k.trainsA=2:=by unfold Bk.trainsA;rw[if_pos c4]
     rw[e];refine .en func22 ntmps22 fun St c cs hK=> ?_;refine U2 ?_;refine .bo fun b1=> ?_;refine U7 ?_;refine .cl (fun H hs=> In_c M H k.gap 1 99 true (decide_eq_true c1)) ?_;refine U7 ?_;refine .cl (fun H hs=> In_c M H k.give (k.gap+1) 99 true (decide_eq_true c2)) ?_;refine U10 ?_;refine .cl (fun H hs=> hlines H hs.base) ?_;refine U22 ?_;refine .rt hK func22 results22 [_] ?_;exact okB
    ·have e:k.trainsA=if(firstTo k.trainBad k.nt).isSome then 1 else 0:=by unfold Bk.trainsA;rw[if_neg c4]
     rw[e];clear e;refine .en func22 ntmps22 fun St c cs hK=> ?_;refine U2 ?_;refine .bo fun b1=> ?_;refine U7 ?_;refine .cl (fun H hs=> In_c M H k.gap 1 99 true (decide_eq_true c1)) ?_;refine U7 ?_;refine .cl (fun H hs=> In_c M H k.give (k.gap+1) 99 true (decide_eq_true c2)) ?_;refine U10 ?_;refine .cl (fun H hs=> hlines H hs.base) ?_;refine U25 ?_;refine Tc.db (Tc.loopInv (σ:= { i:Nat//i<=k.nt/\firstTo k.trainBad i=none }) (fun i=> ([(1,.pointer (some ⟨b1,0,none⟩)),(4,.int .i64 (i.1:Nat))],[(b1,true,.cells ⟨(k.val A lc B tc).cells.toList⟩ 36 (0,0))])) (fun i=> k.nt-i.1) ?_ ⟨0,Nat.zero_le _,rfl⟩);rintro⟨i,hi,hno⟩ ih;show Tc M St _ _ _ _ [(1,.pointer (some ⟨b1,0,none⟩)),(4,.int .i64 (i:Nat))] [(b1,true,.cells ⟨(k.val A lc B tc).cells.toList⟩ 36 (0,0))] _ _;by_cases c5:i=k.nt
     ·clear ih;subst c5;rw[hno] at hK;refine U15 ?_;refine .rt hK func22 results22 [_] ?_;exact okB
     ·have c6:i<k.nt:=by omega
      obtain⟨_,htc,h0|⟨tb,to,f,gs,gt,gz,rfl,hb,hl⟩⟩:=hk
      ·omega
      have f1:=hl i c6;cases q:trainOk (k.pf i) (k.pt i) (k.qf i) (k.qt i) with
      | true=>
       refine U20 ?_;refine .cl (fun H hs=> checkTrain_c M H (k.pf i) (k.pt i) (k.qf i) (k.qt i) 0 (by rw[q];rfl)) ?_;refine U15 ?_;exact Tc.db (ih ⟨i+1,oM,by simp[firstTo,hno,Bk.trainBad,q]⟩ (by simp only;omega))
      | false=>
       rw[firstTo_stays (j:=i+1) (x:=i) (by simp[firstTo,hno,Bk.trainBad,q]) _ oM] at hK;refine U20 ?_;refine .cl (fun H hs=> checkTrain_c M H (k.pf i) (k.pt i) (k.qf i) (k.qt i) 1 (by rw[q];rfl)) ?_;refine U13 ?_;refine .rt hK func22 results22 [_] ?_;exact okB
   ·rw[if_neg c3];refine .en func22 ntmps22 fun St c cs hK=> ?_;refine U2 ?_;refine .bo fun b1=> ?_;refine U7 ?_;refine .cl (fun H hs=> In_c M H k.gap 1 99 true (decide_eq_true c1)) ?_;refine U7 ?_;refine .cl (fun H hs=> In_c M H k.give (k.gap+1) 99 true (decide_eq_true c2)) ?_;refine U10 ?_;refine .cl (fun H hs=> hlines H hs.base) ?_;refine U13 ?_;refine .rt hK func22 results22 [_] ?_;exact okB
  ·have e:k.alarm=1:=by unfold Bk.alarm Bk.pausesA;simp[c2]
   rw[e];refine .en func22 ntmps22 fun St c cs hK=> ?_;refine U2 ?_;refine .bo fun b1=> ?_;refine U7 ?_;refine .cl (fun H hs=> In_c M H k.gap 1 99 true (decide_eq_true c1)) ?_;refine U7 ?_;refine .cl (fun H hs=> In_c M H k.give (k.gap+1) 99 false (decide_eq_false c2)) ?_;refine U8 ?_;refine .rt hK func22 results22 [_] ?_;exact okB
 ·have e:k.alarm=1:=by unfold Bk.alarm Bk.pausesA;simp[c1]
  rw[e];refine .en func22 ntmps22 fun St c cs hK=> ?_;refine U2 ?_;refine .bo fun b1=> ?_;refine U7 ?_;refine .cl (fun H hs=> In_c M H k.gap 1 99 false (decide_eq_false c1)) ?_;refine U16 ?_;refine .rt hK func22 results22 [_] ?_;exact okB
theorem wide_c(a num:List UInt8)(F:Option Addr)(n fc:Nat)(t:Bool)(ht:(decide (100<a.length)||decide (100<num.length)||decide (20<n))=t):
  CallT M 63 #[lineV a num F n fc] H (fun v H'=> H.le H'/\v=.bool t):=by
 rw[<-ht];refine .en func63 ntmps63 fun St c cs hK=> ?_;by_cases c1:100<a.length
 all_goals by_cases c2:100<num.length
 all_goals by_cases c3:20<n
 all_goals
  refine U2 ?_;refine .bo fun b1=> ?_;refine U7 ?_;refine .i ?_ (z:=by first|exact gtr_t oM|exact gtr_f oM);refine U ?_;first|(refine .sk ?_)|(refine .x .fa ?_)
  first|(refine .sk ?_)|((refine .x (.ld 0) ?_))
  first|(refine .sk ?_)|(refine .x (OpV.lenS (E:=en) rfl rfl rfl rfl rfl rfl rfl) ?_)
  first|(refine .sk ?_)|(refine .x (.it (zz:=(by first|exact gtr_t oM|exact gtr_f oM))) ?_)
  refine U2 ?_;first|(refine .sk ?_)|(refine .x .fa ?_)
  first|(refine .sk ?_)|((refine .x (.ld 0) ?_))
  first|(refine .sk ?_)|(refine .x .ln ?_)
  first|(refine .sk ?_)|(refine .x (.it (zz:=(by first|exact gtr_t oM|exact gtr_f oM))) ?_)
  refine U3 ?_;refine .rt hK func63 results63 [_] ?_;exact fun H' hs=> ⟨hs.base,by simp[packV,c1,c2,c3]⟩
theorem Great_c(k:Bk)(A:Option Addr)(lc:Nat)(B:Option Addr)(tc:Nat)(hA:RowsAt H k A lc):
  CallT M 27 #[k.val A lc B tc] H (fun v H'=> H.le H'/\v=.bool k.great):=by
 by_cases c1:20<k.nl
 ·have e:k.great=true:=by unfold Bk.great;simp[c1]
  rw[e];refine .en func27 ntmps27 fun St c cs hK=> ?_;refine U2 ?_;refine .bo fun b1=> ?_;refine U21 ?_;refine .rt hK func27 results27 [_] ?_;exact okB
 ·by_cases c2:20<k.nt
  ·have e:k.great=true:=by unfold Bk.great;simp[c2]
   rw[e];refine .en func27 ntmps27 fun St c cs hK=> ?_;refine U2 ?_;refine .bo fun b1=> ?_;refine U21 ?_;refine .rt hK func27 results27 [_] ?_;exact okB
  ·have e:k.great=(firstTo k.wide k.nl).isSome:=by unfold Bk.great;simp[c1,c2]
   rw[e];clear e;refine .en func27 ntmps27 fun St c cs hK=> ?_;refine U2 ?_;refine .bo fun b1=> ?_;refine U24 ?_;refine Tc.db (Tc.loopInv (σ:= { i:Nat//i<=k.nl/\firstTo k.wide i=none }) (fun i=> ([(1,.pointer (some ⟨b1,0,none⟩)),(3,.int .i64 (i.1:Nat))],[(b1,true,.cells ⟨(k.val A lc B tc).cells.toList⟩ 36 (0,0))])) (fun i=> k.nl-i.1) ?_ ⟨0,Nat.zero_le _,rfl⟩);rintro⟨i,hi,hno⟩ ih;show Tc M St _ _ _ _ [(1,.pointer (some ⟨b1,0,none⟩)),(3,.int .i64 (i:Nat))] [(b1,true,.cells ⟨(k.val A lc B tc).cells.toList⟩ 36 (0,0))] _ _;by_cases c5:i=k.nl
   ·clear ih;subst c5;rw[hno] at hK;refine U15 ?_;refine .rt hK func27 results27 [_] ?_;exact okB
   ·have c6:i<k.nl:=by omega
    obtain⟨hlc,h0|⟨ab,ao,f,gs,gt,gz,rfl,hb,hl⟩⟩:=hA
    ·omega
    obtain⟨F,fc,f1,_,_⟩:=hl i c6;cases q:k.wide i with
    | true=>
     rw[firstTo_stays (j:=i+1) (x:=i) (by simp[firstTo,hno,q]) _ oM] at hK;refine U20 ?_;refine .cl (fun H hs=> wide_c M H (k.name i) (k.num i) F (k.nf i) fc true q) ?_;refine U6 ?_;refine .rt hK func27 results27 [_] ?_;exact okB
    | false=>
     refine U20 ?_;refine .cl (fun H hs=> wide_c M H (k.name i) (k.num i) F (k.nf i) fc false q) ?_;refine U9 ?_;exact Tc.db (ih ⟨i+1,oM,by simp[firstTo,hno,q]⟩ (by simp only;omega))
theorem Fit_c(k:Bk)(A:Option Addr)(lc:Nat)(B:Option Addr)(tc:Nat)(hk:BkAt H k A lc B tc)(t:Bool)(ht:k.fit=t):
  CallT M 6 #[k.val A lc B tc] H (fun v H'=> H.le H'/\v=.bool t):=by
 rw[<-ht];clear ht;cases q:k.great with
 | true=>
  have e:k.fit=false:=by unfold Bk.fit;rw[q];rfl
  rw[e];refine .en func6 ntmps6 fun St c cs hK=> ?_;refine U2 ?_;refine .bo fun b1=> ?_;refine U5 ?_;refine .cl (fun H hs=> isB (Great_c M H k A lc B tc (hk.le hs.base).rows) q) ?_;refine U8 ?_;refine .rt hK func6 results6 [_] ?_;exact okB
 | false=>
  by_cases c1:k.alarm=0
  ·have e:k.fit=true:=by unfold Bk.fit;rw[q];simp[c1]
   rw[e];refine .en func6 ntmps6 fun St c cs hK=> ?_;refine U2 ?_;refine .bo fun b1=> ?_;refine U5 ?_;refine .cl (fun H hs=> isB (Great_c M H k A lc B tc (hk.le hs.base).rows) q) ?_;refine U3 ?_;refine .cl (fun H hs=> isV (refCheckBook_c M H k A lc B tc (hk.le hs.base) (Bk.ungreat_small q) (fun i hi=> by have:=(Bk.ungreat q).2.2 i hi;omega)) (w':=.int .i64 0) (by rw[c1])) ?_;refine U4 ?_;refine .rt hK func6 results6 [_] ?_;exact okB
  ·have e:k.fit=false:=by unfold Bk.fit;rw[q];simp[c1]
   rw[e];refine .en func6 ntmps6 fun St c cs hK=> ?_;refine U2 ?_;refine .bo fun b1=> ?_;refine U5 ?_;refine .cl (fun H hs=> isB (Great_c M H k A lc B tc (hk.le hs.base).rows) q) ?_;refine U3 ?_;refine .cl (fun H hs=> refCheckBook_c M H k A lc B tc (hk.le hs.base) (Bk.ungreat_small q) (fun i hi=> by have:=(Bk.ungreat q).2.2 i hi;omega)) ?_;refine U4 ?_;refine .rt hK func6 results6 [_] ?_;exact okB
end
end Go.Proofs.YtcagolloalgfiaaGreatDoor
section

end
section

end
section

end
section

end
section

end
section

end
namespace Go.Proofs.YtcagolloalgfiaaGreatDoor
open Go.RL Go.Proofs.Tryz
set_option maxRecDepth 10000
set_option maxHeartbeats 8000000
abbrev Ex:=Nat×Nat×List Value
def exV(n:Nat)(x:Ex):Value:=.slice (some ⟨x.1,0,none⟩) n x.2.1
def exB(e:TypeId)(l:List Value)(x:Ex):Bl:= [(x.1,true,.cells ⟨l++x.2.2⟩ e (0,0))]
theorem gl_ex {e:TypeId}{sz:Nat}(g:Gl e sz)(h:0<g.n):∃x:Ex,g.val=exV g.n x/\g.bl=exB e g.l x:=by
 obtain⟨gb,gn,gc,gl,gj,h1,h2,h3,h4⟩:=g;cases gb with
 | none=> have:=h4 rfl;simp only at h;omega
 | some b=> exact⟨(b,gc,gj),rfl,rfl⟩
theorem codes_at {s:List UInt8}{i:Nat}{x:UInt8}(h:s[i]? =some x)(jj:List Value):ldL false 1 (codesL s++jj) (0+((i:Nat):Int).toNat*1)=some (.int .i64 (pn x:Nat)):=by
 show(codesL s++jj)[0+((i:Nat):Int).toNat*1]? =_;rw[Int.toNat_natCast,Nat.zero_add,Nat.mul_one,List.getElem?_append_left (by simp only[codesL,List.length_map];exact(List.getElem?_eq_some_iff.1 h).1)];simp only[codesL,List.getElem?_map,h];rfl
theorem codes_src {s:List UInt8}{H:View}{b n:Nat}{f:Bool}{jj:List Value}{e:TypeId}{fz:Nat×Nat}(h:H b=some (f,.cells ⟨codesL s++jj⟩ e fz)):SrcAt H 1 (.slice (some ⟨b,0,none⟩) s.length n) s.length (codesL s):=by
 have h1:(codesL s).length=s.length:=by simp[codesL]
 refine⟨⟨_,_,rfl⟩,oM,.inr ⟨b,0,n,f,_,e,fz,rfl,h,by rw[List.length_append];omega,?_⟩⟩;simp
theorem codes_free {s:List UInt8}{H:View}{b:Nat}{f:Bool}{jj:List Value}{e:TypeId}{fz:Nat×Nat}(h:H b=some (f,.cells ⟨codesL s++jj⟩ e fz)):FreeAt H (some ⟨b,0,none⟩) s.length (fun i=> (pnAt s i:Nat)):=by
 refine .inr ⟨b,0,f,_,e,fz,rfl,h,fun j hj=> ?_⟩;have:=codes_at (List.getElem?_eq_getElem hj) jj;rw[this];show _=some (Value.int .i64 ((pn (s[j]?.getD 48):Nat):Int));rw[List.getElem?_eq_getElem hj];rfl
section
variable(M:Md prog)(H:View)
theorem Encode_x(hG:Sig H)(s:List UInt8)(hs1:s.all dig=true)(hs2:s.length<=12)(hs3:s≠ []):
  CallT M 28 #[strV s,.int .i64 1] H (fun v H'=> H.le H'/\∃x:Ex,v=.tuple ⟨[exV s.length x,.int .i64 0]⟩/\True/\∀y∈exB 3 (codesL s) x,H' y.1=some y.2/\H y.1=none):=
 (Encode_c M H hG s hs1 hs2).mono fun v H' ⟨h1,g,h2,⟨h3,h4⟩,h5⟩=> by
  obtain⟨x,h6,h7⟩:=gl_ex g (by rw[h3];exact List.length_pos_iff.2 hs3);exact⟨h1,x,by rw[h2,h6,h3],trivial,by rw[h7,h4] at h5;exact h5⟩
end
set_option maxHeartbeats 16000000
def saysP(pu:Nat->Nat)(n:Nat):List UInt8:=(List.range n).map fun i=> digB (pu i)
theorem saysP_len(pu:Nat->Nat)(n:Nat):(saysP pu n).length=n:=by simp[saysP]
theorem rdv_tells {q:Sg.Lk}(hq:q.ok=true)(l:List Int){c:Nat}(hc:c<32):∃(m:Nat) (o:Bool),Sg.readV (rdv q l c)=.tuple ⟨[.int .i64 (m:Nat),.bool o,.int .i64 0]⟩/\(rdv q l c).getD 0=m/\(q.sureOf c=true->o=true/\m=c)/\m<=31:=by
 cases e:rdv q l c with
 | none=> exact⟨0,false,rfl,rfl,fun h=> (by rw[rdv_sure hq l hc h] at e;cases e),oM⟩
 | some m=>
  refine⟨m,true,rfl,rfl,fun h=> ?_,?_⟩
  ·rw[rdv_sure hq l hc h] at e;cases e
   exact⟨rfl,rfl⟩
  ·unfold rdv Sg.readN at e;split at e
   ·cases e
    omega
   ·cases e
section
variable {M:Md prog}{n:Nat}{H₀:View}{R:Rg}{L:Bl}{o:Oper}{K:Rg->Bl->Prop}{d:Nat}
end
set_option maxHeartbeats 8000000
section
variable(M:Md prog)
theorem later_c(H:View)(X:Option Addr)(l:List Int)(n xc:Nat)(hn:n=l.length)(hc:n<=xc)(hX:Sg.Picks H X l)(i:Nat)(hi:i<=1000):∃(X':Option Addr) (xc':Nat),Sg.Picks H X' (l.drop i)/\
  ∀H',H.le H'->CallT M 55 #[.slice X n xc,.int .i64 (i:Nat)] H' (fun v H''=> H'.le H''/\v=.slice X' (l.drop i).length xc'):=by
 by_cases c1:n<=i
 ·have e:l.drop i= []:=List.drop_eq_nil_of_le oM;refine⟨none,0,⟨by rw[e];simp,.inl e⟩,fun H' hl=> ?_⟩;rw[e];refine .en func55 ntmps55 fun St c cs hK=> ?_;refine U17 ?_;refine .rt hK func55 results55 [_] ?_;exact fun H2 hs=> ⟨hs.base,rfl⟩
 ·obtain⟨hr,h0|⟨ab,ao,f,gs,gt,gz,rfl,hb,hlc⟩⟩:=hX
  ·rw[h0] at hn;simp only[List.length_nil] at hn;omega
  refine⟨some ⟨ab,ao+i*1,none⟩,xc-i,⟨fun x hx=> hr x (List.mem_of_mem_drop hx),.inr ⟨ab,ao+i*1,f,gs,gt,gz,rfl,hb,fun j hj=> ?_⟩⟩,fun H' hl=> ?_⟩
  ·rw[List.length_drop] at hj;have:=hlc (i+j) oM;rw[Int.toNat_natCast] at this ⊢;rw[List.getElem?_drop,<-this]
   congr 1
   omega
  ·have e:(l.drop i).length=((n:Nat):Int).toNat-((i:Nat):Int).toNat:=by rw[List.length_drop,Int.toNat_natCast,Int.toNat_natCast];omega
   have e2:xc-i=xc-((i:Nat):Int).toNat:=by rw[Int.toNat_natCast]
   rw[e,e2];refine .en func55 ntmps55 fun St c cs hK=> ?_;refine U18 ?_;refine .x (OpV.slice (E:=en) (off':=ao+i*1) rfl rfl rfl rfl rfl rfl rfl rfl oM oM oM (by rw[if_neg oM];rw[Int.toNat_natCast])) ?_;refine U2 ?_;refine .rt hK func55 results55 [_] ?_;exact fun H2 hs=> ⟨hs.base,rfl⟩
def bndV(a b:Int):Value:=.agg ⟨[.int .i64 a,.int .i64 b]⟩
theorem one7_c(H:View)(n:Int):CallT M 20 #[.int .i64 n] H (fun v H'=> H.le H'/\v=bndV n n):=by
 refine .en func20 ntmps20 fun St c cs hK=> ?_;refine U2 ?_;refine .al fun b2=> ?_;refine U8 ?_;refine .rt hK func20 results20 [_] ?_;exact okB
theorem to7_c(H:View)(a b:Int):CallT M 21 #[.int .i64 a,.int .i64 b] H (fun v H'=> H.le H'/\v=bndV a b):=by
 refine .en func21 ntmps21 fun St c cs hK=> ?_;refine U2 ?_;refine .al fun b2=> ?_;refine U8 ?_;refine .rt hK func21 results21 [_] ?_;exact okB
theorem Lesser_same(H:View)(A B:Option Addr)(n ac bc:Nat)(x:Nat->Int)(hA:FreeAt H A n x)(hB:FreeAt H B n x)(hn:n<=1000):
  CallT M 70 #[.slice A n ac,.slice B n bc] H (fun v H'=> H.le H'/\v=.bool false):=by
 refine .en func70 ntmps70 fun St c cs hK=> ?_;refine U10 ?_;refine Tc.db (Tc.loopInv (σ:= { i:Nat//i<=n }) (fun i=> ([(0,.slice A n ac),(1,.slice B n bc),(5,.int .i64 (i.1:Nat))],[])) (fun i=> n-i.1) ?_ ⟨0,Nat.zero_le _⟩);rintro⟨i,g1⟩ ih;show Tc M St _ _ H _ [(0,.slice A n ac),(1,.slice B n bc),(5,.int .i64 (i:Nat))] [] _ _;by_cases c0:i=n
 ·subst c0;refine U25 ?_;refine .rt hK func70 results70 [_] ?_;exact okB
 ·have c1:i<n:=by omega
  rcases hA with h0|⟨ab,ao,af,ags,agt,agz,rfl,a2,a3⟩
  ·omega
  rcases hB with h0|⟨bb,bo,bf,bgs,bgt,bgz,rfl,b2,b3⟩
  ·omega
  have f1:=a3 i c1;have f2:=b3 i c1;refine U19 ?_;refine Tc.dr [] [] mixed rfl ?_;refine V9 0 ?_;refine .dn ?_;refine U8 ?_;exact Tc.db (ih ⟨i+1,oM⟩ (by simp only;omega))
theorem Same_same(H:View)(A B:Option Addr)(n ac bc:Nat)(x:Nat->Int)(hA:FreeAt H A n x)(hB:FreeAt H B n x)(hn:n<=1000):
  CallT M 31 #[.slice A n ac,.slice B n bc] H (fun v H'=> H.le H'/\v=.bool true):=by
 have h1:=fun(H':View) (h':H.le H')=> Lesser_same M H' A B n ac bc x (hA.le h') (hB.le h') hn;have h2:=fun(H':View) (h':H.le H')=> Lesser_same M H' B A n bc ac x (hB.le h') (hA.le h') hn;refine .en func31 ntmps31 fun St c cs hK=> ?_;refine U8 ?_;refine .cl (fun H hs=> h1 H hs.base) ?_;refine U4 ?_;refine .cl (fun H hs=> h2 H hs.base) ?_;refine U4 ?_;refine .rt hK func31 results31 [_] ?_;exact okB
theorem typed_c(H:View)(hG:Sig H):CallT M 7 #[] H (fun v H'=> H.le H'/\v=.bool true):=by
 have hen:=Encode_x M H hG [49,50,48] dE dE dE;have hpu:pulsesV [49,50,48]=.tuple ⟨[.int .i64 13,.int .i64 0]⟩:=by unfold pulsesV;rw[if_neg dE];rfl
 refine .en func7 ntmps7 fun St c cs hK=> ?_;refine U6 ?_;refine To.callF rfl rfl rfl rfl rfl rfl dE (FnT.h hen) (fun v H₁ hv=> ?_);obtain⟨hle,⟨cb,cc,cj⟩,rfl,_,hx⟩:=hv;have hcb:H₁ cb=some (true,.cells ⟨codesL [49,50,48]++cj⟩ 3 (0,0)):=(hx (cb,true,.cells ⟨codesL [49,50,48]++cj⟩ 3 (0,0)) (by simp[exB])).1;have hF:=codes_free hcb;have hde:=fun(H':View) (h':H₁.le H')=> Decode_c M H' (hG.le (View.le_trans hle h')) [49,50,48] dE dE dE (some ⟨cb,0,none⟩) cc (codes_src (h' _ _ hcb)) (hF.le h');have hpl:=fun(H':View)=> isV (Pulses_c M H' [49,50,48] dE) hpu;have hB:∀(H':View) (bs:Nat) (f:Bool),H' bs=some (f,.cells ⟨[.int .i64 1,.int .i64 2,.int .i64 10]⟩ 3 (0,0))->FreeAt H' (some ⟨bs,0,none⟩) 3 (fun i=> (pnAt [49,50,48] i:Nat)):=fun H' bs f h=> .inr ⟨bs,0,f,_,_,_,rfl,h,fun j hj=> by
  match j,hj with
  | 0,_=> rfl
  | 1,_=> rfl
  | 2,_=> rfl⟩
 refine U9 ?_;refine .cl (fun H hs=> hde H hs.base) ?_;refine U8 ?_;refine .cl (fun H hs=> hpl H) ?_;refine U20 ?_;refine .e (.bs (zz:=fun bs=> ?_));refine .cl (fun H hs=> Same_same M H (some ⟨cb,0,none⟩) (some ⟨bs,0,none⟩) 3 cc 3 _ (hF.le hs.base) (hB H bs true (hs.get (i:=0) rfl)) dE) ?_;refine U11 ?_;refine .rt hK func7 results7 [_] ?_;exact fun H' hs=> ⟨View.le_trans hle hs.base,rfl⟩
end
end Go.Proofs.YtcagolloalgfiaaGreatDoor
namespace Go.Proofs.YtcagolloalgfiaaGreatDoor
open Go.RL Go.Proofs.Tryz
set_option maxRecDepth 10000
theorem firstA_zero {f:Nat->Int}:∀n,firstA f n=0->∀i,i<n->f i=0
 | 0,_,i,hi=> by omega
 | n + 1,h,i,hi=> by
  rw[firstA] at h;split at h
  ·rename_i h0
   by_cases e:i=n
   ·subst e;exact h
   ·exact firstA_zero n h0 i oM
  ·rename_i h0
   exact(h0 h).elim
theorem Bk.line_ok {k:Bk}(h:k.alarm=0){i:Nat}(hi:i<k.nl):isNm (k.name i)=true/\k.again i=false/\isNum (k.num i)=true/\(k.pre i).clash (k.num i)=false/\(1<=k.nf i/\k.nf i<=4)/\∀j,j<k.nf i->0<=k.free i j/\k.free i j<=2:=by
 obtain⟨_,h2,_⟩:=Bk.alarm0 h;unfold Bk.linesA at h2;split at h2
 ·cases h2
 ·have h3 :=firstA_zero _ h2 i hi;unfold Bk.lineA at h3;split at h3
  ·cases h3
  ·rename_i q0
   split at h3
   ·cases h3
   ·rename_i q1
    split at h3
    ·cases h3
    ·rename_i q2
     split at h3
     ·cases h3
     ·rename_i q3
      split at h3
      ·cases h3
      ·rename_i q4
       split at h3
       ·cases h3
       ·rename_i q5
        have q4':=of_decide_eq_true (Bool.not_eq_false _▸q4:decide _=true);refine⟨by simpa using q0,by simpa using q1,by simpa using q2,by simpa using q3,oM,fun j hj=> ?_⟩;unfold Bk.freeBad at q5;have h4:firstTo (fun j=> !claimOk (k.free i j)) (k.nf i)=none:=by
         cases hz:firstTo (fun j=> !claimOk (k.free i j)) (k.nf i) with
         | none=> rfl
         | some y=> rw[hz] at q5;exact(q5 rfl).elim
        have h5:=(firstTo_none _).1 h4 j hj;unfold claimOk at h5;simpa using h5
theorem Bk.isNum_of {k:Bk}(ha:k.alarm=0){i:Nat}(hi:i<k.nl):(k.num i).all dig=true/\1<=(k.num i).length/\(k.num i).length<=3:=by
 obtain⟨_,_,h,_⟩:=Bk.line_ok ha hi;unfold isNum at h;simp only[Bool.and_eq_true,decide_eq_true_eq] at h;exact⟨h.2,h.1.1,h.1.2⟩
theorem firstTo_in {p:Nat->Bool}:∀n {i:Nat},firstTo p n=some i->i<n
 | 0,_,h=> by cases h
 | n + 1,i,h=> by
  rw[firstTo] at h;cases e:firstTo p n with
  | some j=>
   rw[e] at h;have:=firstTo_in n e;cases h
   omega
  | none=>
   rw[e] at h;by_cases hp:p n=true
   ·rw[if_pos hp] at h;cases h
    omega
   ·rw[if_neg hp] at h;cases h
theorem firstTo_true {p:Nat->Bool}:∀n {i:Nat},firstTo p n=some i->p i=true
 | 0,_,h=> by cases h
 | n + 1,i,h=> by
  rw[firstTo] at h;cases e:firstTo p n with
  | some j=>
   rw[e] at h;have:=firstTo_true n e;cases h
   exact this
  | none=>
   rw[e] at h;by_cases hp:p n=true
   ·rw[if_pos hp] at h;cases h
    exact hp
   ·rw[if_neg hp] at h;cases h
theorem firstTo_only {p:Nat->Bool}{n w:Nat}(hw:w<n)(h:p w=true)(h2:∀i,i<n->p i=true->i=w):firstTo p n=some w:=by
 cases e:firstTo p n with
 | none=> have:=(firstTo_none n).1 e w hw;rw[h] at this;cases this
 | some j=> rw[h2 j (firstTo_in n e) (firstTo_true n e)]
theorem begins_iff {s p:List UInt8}:begins s p=true<->p <+:s:=by
 unfold begins;rw[Bool.and_eq_true,decide_eq_true_eq,beq_iff_eq,List.prefix_iff_eq_take];constructor
 ·exact fun h=> h.2.symm
 ·intro h;refine⟨?_,h.symm⟩;have:=congrArg List.length h;rw[List.length_take] at this;omega
theorem digB_nat {n:Nat}(_:1<=n/\n<=10):(digB n).toNat=48+n%10:=by
 unfold digB;rw[UInt8.toNat_ofNat'];have:n%10<10:=Nat.mod_lt _ dE;omega
theorem dig_pn {x:UInt8}(h:dig x=true):digB (pn x)=x:=by
 have h1:=of_decide_eq_true h;apply UInt8.toNat_inj.1
 rw[digB_nat (pn_in h)];unfold pn;split <;> omega
theorem Bk.apart {k:Bk}(ha:k.alarm=0){i j:Nat}(hi:i<k.nl)(hj:j<k.nl)(h:k.num i <+:k.num j):i=j:=by
 have hc:∀a b,a<k.nl->b<a->¬k.num a <+:k.num b/\¬k.num b <+:k.num a:=by
  intro a b hak hba;obtain⟨_,_,_,h4,_⟩:=Bk.line_ok ha hak;unfold Bk.clash at h4;have h5:firstTo (fun i=> clash1 (k.num i) (k.num a)) a=none:=by
   cases e:firstTo (fun i=> clash1 (k.num i) (k.num a)) a with
   | none=> rfl
   | some x=> exact absurd h4 (by show ¬(firstTo (fun i=> clash1 (k.num i) (k.num a)) a).isSome=false;rw[e];exact fun h=> nomatch h)
  have h6:=(firstTo_none a).1 h5 b hba;unfold clash1 at h6;rw[Bool.or_eq_false_iff] at h6;refine⟨fun h=> ?_,fun h=> ?_⟩
  ·rw[begins_iff.2 h] at h6;cases h6.1
  ·rw[begins_iff.2 h] at h6;cases h6.2
 rcases Nat.lt_trichotomy i j with h1|h1|h1
 ·exact((hc j i hj h1).2 h).elim
 ·exact h1
 ·exact((hc i j hi h1).1 h).elim
theorem Bk.line_is {k:Bk}(ha:k.alarm=0){w:Nat}(hw:w<k.nl){s:List UInt8}(h:k.num w <+:s):k.line s=some w:=by
 unfold Bk.line;refine firstTo_only hw (begins_iff.2 h) fun i hi h2=> ?_;rcases List.prefix_or_prefix_of_prefix h (begins_iff.1 h2) with h3|h3
 ·exact(Bk.apart ha hw hi h3).symm
 ·exact Bk.apart ha hi hw h3
theorem pnAt_in {s:List UInt8}(h:s.all dig=true)(i:Nat):1<=pnAt s i/\pnAt s i<=10:=by
 unfold pnAt;cases e:s[i]? with
 | none=> decide
 | some x=> exact pn_in (List.all_eq_true.1 h x (List.mem_of_getElem? e))
theorem clL_succ(f:Nat->Int)(n:Nat):clL f (n+1)=clL f n++[.int .i64 (f n)]:=by
 unfold clL;rw[List.range_succ,List.map_append];rfl
theorem clL_len(f:Nat->Int)(n:Nat):(clL f n).length=n:=by simp[clL]
theorem cl_at {e:TypeId}(g:Gl e 1){H:View}(h:∀x∈g.bl,H x.1=some x.2){f:Nat->Int}{n:Nat}(hl:g.l=clL f n)(hn:g.n=n):FreeAt H (g.blk.map fun b=> ⟨b,0,none⟩) n f:=by
 cases hb:g.blk with
 | none=>
  have:=g.h0 hb;have:=g.hc;exact .inl oM
 | some b=>
  have hbl:g.bl= [(b,true,.cells ⟨g.l++g.junk⟩ e (0,0))]:=by unfold Gl.bl;rw[hb]
  refine .inr ⟨b,0,true,_,e,(0,0),rfl,h (b,true,.cells ⟨g.l++g.junk⟩ e (0,0)) (by rw[hbl];simp),fun j hj=> ?_⟩;show(g.l++g.junk)[_]? =_;rw[Nat.zero_add,Int.toNat_natCast,Nat.mul_one,List.getElem?_append_left (by rw[hl,clL_len];exact hj),hl];unfold clL;rw[List.getElem?_map,List.getElem?_range hj];rfl
theorem saysP_is {s:List UInt8}(hs:s.all dig=true){pu:Nat->Nat}(h:∀i,i<s.length->pu i=pnAt s i):saysP pu s.length=s:=by
 unfold saysP;apply List.ext_getElem
 ·simp
 ·intro i h1 h2;simp only[List.getElem_map,List.getElem_range];rw[h i h2];unfold pnAt;rw[List.getElem?_eq_getElem h2];exact dig_pn (List.all_eq_true.1 hs _ (List.getElem_mem _))
theorem keepI_eq(p:Nat->Bool)(k:Nat):Sg.keepTo p k=Sg.intsL (Sg.keepI p k):=by
 unfold Sg.keepTo Sg.keepI Sg.intsL;rw[List.map_map];rfl
def dialB(k:Bk)(n:Nat)(pu:Nat->Nat)(P Q:Int):Bk:= { k with nt:=n,pf:=fun i=> (pu i:Nat),pt:=fun i=> (pu i:Nat),qf:=fun _=> P,qt:=fun _=> Q }
theorem dialB_alarm {k:Bk}(ha:k.alarm=0){n:Nat}(hn:n<=6){pu:Nat->Nat}(hpu:∀i,i<n->1<=pu i/\pu i<=10){P Q:Int}(hP:0<=P/\P<=Q/\Q<=99):(dialB k n pu P Q).alarm=0:=by
 obtain⟨h1,h2,_⟩:=Bk.alarm0 ha;have e1:(dialB k n pu P Q).pausesA=0:=h1;have e2:(dialB k n pu P Q).linesA=0:=h2;have e3:(dialB k n pu P Q).trainsA=0:=by
  unfold Bk.trainsA;have hn':¬6<(dialB k n pu P Q).nt:=by show ¬6<n;omega
  rw[if_neg hn'];have:firstTo (dialB k n pu P Q).trainBad (dialB k n pu P Q).nt=none:=(firstTo_none _).2 fun i hi=> by
   unfold Bk.trainBad;have hp:=hpu i hi;have:trainOk ((dialB k n pu P Q).pf i) ((dialB k n pu P Q).pt i) ((dialB k n pu P Q).qf i) ((dialB k n pu P Q).qt i)=true:=by
    show trainOk (pu i:Nat) (pu i:Nat) P Q=true;unfold trainOk;simp only[Bool.and_eq_true,decide_eq_true_eq];omega
   rw[this];rfl
  rw[this];rfl
 unfold Bk.alarm;rw[if_pos e1,if_pos e2,e3]
def quadB(pu:Nat->Nat)(P Q:Int)(i:Nat):Quad:=((pu i:Nat),(pu i:Nat),P,Q)
def quadsB(pu:Nat->Nat)(P Q:Int)(n:Nat):List Value:=quadsV ((List.range n).map (quadB pu P Q))
theorem quadsB_succ(pu:Nat->Nat)(P Q:Int)(n:Nat):quadsB pu P Q (n+1)=quadsB pu P Q n++[.int .i64 (pu n:Nat),.int .i64 (pu n:Nat),.int .i64 P,.int .i64 Q]:=by
 unfold quadsB quadsV;rw[List.range_succ,List.map_append,List.flatMap_append];simp[quadV,quadB]
theorem dialB_trains(k:Bk){n:Nat}{pu:Nat->Nat}{P Q:Int}{H:View}(g:Gl 73 4)(h:∀x∈g.bl,H x.1=some x.2)(hn:g.n=n)(hl:g.l=quadsB pu P Q n):TrainsAt H (dialB k n pu P Q) (g.blk.map fun b=> ⟨b,0,none⟩) g.cap:=by
 have hQ:=quads_of g h (l:=(List.range n).map (quadB pu P Q)) hl;refine⟨by have:=g.hc;show n<=_;omega,?_⟩;rcases hQ with h0|⟨b,o,f,gs,gt,gz,h1,h2,h3⟩
 ·exact .inl (by show n=0;have:=congrArg List.length h0;simpa using this)
 ·refine .inr ⟨b,o,f,gs,gt,gz,h1,h2,fun i hi=> ?_⟩;have hi':i<n:=hi;exact h3 i (quadB pu P Q i) (by rw[List.getElem?_map,List.getElem?_range hi'];rfl)
theorem dialB_can {k:Bk}{n:Nat}{pu:Nat->Nat}{P Q:Int}(hP:k.gap<=P/\P<k.give)(hQ:k.gap<=Q/\Q<k.give)(i:Nat):(dialB k n pu P Q).can i= [(pu i,1)]:=by
 have hk:∀R,k.gap<=R/\R<k.give->(dialB k n pu P Q).kind R=1:=fun R h=> by
  show(if R<k.gap then 0 else if R<k.give then 1 else 2)=1;rw[if_neg oM,if_pos h.2]
 unfold Bk.can;show canL ((pu i:Nat):Int).toNat ((pu i:Nat):Int).toNat ((dialB k n pu P Q).kind P) ((dialB k n pu P Q).kind Q)=_;rw[hk P hP,hk Q hQ,Int.toNat_natCast];rw[canL_cons (Nat.le_refl _),canFrom_cons (Nat.le_refl _)];unfold canFrom;rw[upN_nil oM,canL_nil oM];rfl
theorem dialB_ears {k:Bk}{n:Nat}{pu:Nat->Nat}(hpu:∀i,i<n->1<=pu i/\pu i<=10){P Q:Int}(hP:k.gap<=P/\P<k.give)(hQ:k.gap<=Q/\Q<k.give):∀j,j<=n->(dialB k n pu P Q).earsL j= [⟨saysP pu j,0,false⟩]
 | 0,_=> rfl
 | j+1,hj=> by
  have ih:=dialB_ears hpu hP hQ j oM;have hp:=hpu j oM;unfold Bk.earsL;rw[ih,dialB_can hP hQ];simp only[List.flatMap_cons,List.flatMap_nil,List.map_cons,List.map_nil,List.append_nil];unfold Ear.hear;rw[if_neg (fun h=> nomatch h),if_neg dE,if_neg (by simp only;omega)];simp only[Nat.zero_add];unfold saysP;rw[List.range_succ,List.map_append];rfl
theorem dialB_settled {k:Bk}(ha:k.alarm=0){w:Nat}(hw:w<k.nl){P Q:Int}(hP:k.gap<=P/\P<k.give)(hQ:k.gap<=Q/\Q<k.give):
  (dialB k (k.num w).length (pnAt (k.num w)) P Q).settled=some ((k.num w).length,(w:Int)):=by
 obtain⟨hs1,hl1,hl3⟩:=Bk.isNum_of ha hw;have hpu:∀i,i<(k.num w).length->1<=pnAt (k.num w) i/\pnAt (k.num w) i<=10:=fun i _=> pnAt_in hs1 i;have hears:=dialB_ears (k:=k) hpu hP hQ;have hsay:saysP (pnAt (k.num w)) (k.num w).length=k.num w:=saysP_is hs1 fun i _=> rfl;have hpre:∀j,j<=(k.num w).length->saysP (pnAt (k.num w)) j=(k.num w).take j:=fun j hj=> by
  have h1:(saysP (pnAt (k.num w)) (k.num w).length).take j=saysP (pnAt (k.num w)) j:=by
   unfold saysP;rw[<-List.map_take,List.take_range,Nat.min_eq_left hj]
  rw[<-h1,hsay]
 have hfate:∀j,j<=(k.num w).length->(dialB k (k.num w).length (pnAt (k.num w)) P Q).fateAt j=if j=(k.num w).length then some (w:Int) else none:=fun j hj=> by
  unfold Bk.fateAt;rw[hears j hj];simp only[List.map_cons,List.map_nil];have hd:∀x:Int,distinct [x]= [x]:=fun x=> by simp[distinct]
  rw[hd];by_cases e:j=(k.num w).length
  ·rw[if_pos e];have hf:(dialB k (k.num w).length (pnAt (k.num w)) P Q).fate ⟨saysP (pnAt (k.num w)) j,0,false⟩ (decide (j=(dialB k (k.num w).length (pnAt (k.num w)) P Q).nt))=(w:Int):=by
    unfold Bk.fate;have:(dialB k (k.num w).length (pnAt (k.num w)) P Q).line (saysP (pnAt (k.num w)) j)=some w:=by
     rw[e,hsay];exact Bk.line_is (k:=k) ha hw (List.prefix_refl _)
    simp only[this]
   rw[hf];simp only;rw[if_neg oM]
  ·rw[if_neg e];have hf:(dialB k (k.num w).length (pnAt (k.num w)) P Q).fate ⟨saysP (pnAt (k.num w)) j,0,false⟩ (decide (j=(dialB k (k.num w).length (pnAt (k.num w)) P Q).nt))= -2:=by
    unfold Bk.fate;have h1:(dialB k (k.num w).length (pnAt (k.num w)) P Q).line (saysP (pnAt (k.num w)) j)=none:=by
     cases hq:(dialB k (k.num w).length (pnAt (k.num w)) P Q).line (saysP (pnAt (k.num w)) j) with
     | none=> rfl
     | some i=>
      have hi:=firstTo_in _ hq;have hb:=begins_iff.1 (firstTo_true _ hq);have hb2:k.num i <+:k.num w:=hb.trans (by rw[hpre j hj];exact List.take_prefix _ _);have:=Bk.apart ha hi hw hb2;subst this;have h3:(k.num i).length<=_:=hb.length_le;rw[saysP_len] at h3;omega
    have h2:firstTo (fun i=> begins ((dialB k (k.num w).length (pnAt (k.num w)) P Q).num i) (saysP (pnAt (k.num w)) j)) (dialB k (k.num w).length (pnAt (k.num w)) P Q).nl≠none:=fun h=> by
     have:begins (k.num w) (saysP (pnAt (k.num w)) j)=false:=(firstTo_none _).1 h w hw;rw[show begins (k.num w) (saysP (pnAt (k.num w)) j)=true from begins_iff.2 (by rw[hpre j hj];exact List.take_prefix _ _)] at this;cases this
    have h3:decide (j=(dialB k (k.num w).length (pnAt (k.num w)) P Q).nt)=false:=decide_eq_false e;simp only[h1,h3];rw[Bool.or_false,Bool.false_or,if_neg (by rw[Option.isNone_iff_eq_none];exact h2)]
   rw[hf];rfl
 have hto:∀j,j<=(k.num w).length->(dialB k (k.num w).length (pnAt (k.num w)) P Q).settledTo j=none:=by
  intro j;induction j with
  | zero=> intro _;rfl
  | succ j ih=>
   intro hj;unfold Bk.settledTo;rw[ih oM,hfate j oM,if_neg oM];rfl
 unfold Bk.settled;show(dialB k (k.num w).length (pnAt (k.num w)) P Q).settledTo ((k.num w).length+1)=_;unfold Bk.settledTo;rw[hto _ (Nat.le_refl _),hfate _ (Nat.le_refl _),if_pos rfl];rfl
end Go.Proofs.YtcagolloalgfiaaGreatDoor
