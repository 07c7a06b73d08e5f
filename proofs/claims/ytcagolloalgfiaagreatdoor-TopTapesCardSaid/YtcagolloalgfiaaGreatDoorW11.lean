/-
 Texts of the proofs over baudot/dial.
-/
import Derived.Test.YtcagolloalgfiaaGreatDoorW10
namespace Go.Proofs.YtcagolloalgfiaaGreatDoor
open Go.RL Go.Proofs.Tryz
theorem cntP_one {x y:Nat->Int}{p:Int×Int}:∀n,(∀j,j<n->∀k,k<j->¬(x k=x j/\y k=y j))->cntP x y p n<=1
 | 0,_=> Nat.zero_le _
 | n + 1,h=> by
  unfold cntP;by_cases e:x n=p.1/\y n=p.2
  ·rw[if_pos e];have:¬0<cntP x y p n:=fun h0=> by
    obtain⟨k,h1,h2,h3⟩:=cntP_pos n h0;exact h n oM k h1 ⟨by rw[h2,e.1],by rw[h3,e.2]⟩
   omega
  ·rw[if_neg e];have:=cntP_one (p:=p) n fun j hj=> h j oM;omega
theorem copN_eq {b:Sb}(ho:b.Ok){u:Nat->Nat}(hu:∀i,i<b.ns->u i<=b.np i){p:Int×Int}:∀i,i<=b.ns->copN b u p i=cntS b u p i
 | 0,_=> rfl
 | i+1,h=> by
  have h1:=copN_eq ho hu (p:=p) i oM;have h2:=cntP_one (x:=b.pm i) (y:=b.pg i) (p:=p) (u i) fun j hj k hk=> ho.once i oM j (by have:=hu i oM;omega) k hk;unfold copN cntS;rw[h1];split <;> omega
theorem cntS_truly(b:Sb)(v u:Nat->Nat)(p:Int×Int):∀n,cntS (b.truly v) u p n=cntS b u p n
 | 0=> rfl
 | n+1=> by
  unfold cntS;rw[cntS_truly b v u p n];rfl
theorem right_truly {b:Sb}(ho:b.Ok){u:Nat->Nat}(hu:∀i,i<b.ns->u i<=b.np i){i:Nat}(hi:i<b.nr):
  (b.truly u).right u (b.tkd u i) (b.ra i) (b.rb i) (b.trm u i)=true:=by
 obtain⟨k0,k5,_,_,_,r3,r4,r5⟩:=ho.recs i hi;have hcs:∀p,cntS (b.truly u) u p (b.truly u).ns=cntS b u p b.ns:=fun p=> cntS_truly b u u p b.ns;by_cases h1:b.kd i=0\/b.kd i=1
 ·obtain⟨x0,x1,_⟩:=r3 oM;have hun:=hu (b.ra i).toNat oM;by_cases h2:u (b.ra i).toNat=b.np (b.ra i).toNat
  ·have t1:b.tkd u i=0:=by unfold Sb.tkd;rw[if_pos h1,if_pos h2]
   rw[t1];unfold Sb.right;rw[if_pos rfl];exact decide_eq_true (by show(u _:Int)=(b.np _:Nat);omega)
  ·have t1:b.tkd u i=1:=by unfold Sb.tkd;rw[if_pos h1,if_neg h2]
   rw[t1];unfold Sb.right;rw[if_neg dE,if_pos rfl];exact decide_eq_true (by show u _<b.np _;omega)
 ·have t1:b.tkd u i=b.kd i:=by unfold Sb.tkd;rw[if_neg h1]
  rw[t1];unfold Sb.right;rw[if_neg oM,if_neg oM];by_cases h2:b.kd i=2
  ·rw[if_pos h2];unfold Sb.trm;rw[if_pos h2];exact decide_eq_true (by split <;> omega)
  ·rw[if_neg h2];by_cases h3:b.kd i=3
   ·rw[if_pos h3];unfold Sb.trm;rw[if_neg h2,if_pos h3];exact decide_eq_true (by split <;> omega)
   ·rw[if_neg h3];by_cases h4:b.kd i=4
    ·rw[if_pos h4];unfold Sb.trm;rw[if_neg h2,if_neg h3,if_pos h4,hcs,copN_eq ho hu _ (Nat.le_refl _)];exact decide_eq_true rfl
    ·rw[if_neg h4];unfold Sb.trm;rw[if_neg h2,if_neg h3,if_neg h4,if_pos oM];simp only[hcs];exact decide_eq_true rfl
def Sb.cameT(b:Sb)(l:List Int)(i:Nat):Nat:=if i<b.ns then b.came l i else 0
theorem cameT_le(b:Sb)(l:List Int)(i:Nat)(_:i<b.ns):b.cameT l i<=b.np i:=by
 unfold Sb.cameT;split
 ·unfold Sb.came;have:=Nat.mod_lt (l[i]?.getD 0).toNat (show 0<b.np i+1 by omega);omega
 ·omega
theorem came_in {b:Sb}(ho:b.Ok)(l:List Int):b.cameT l∈(b.truly (b.cameT l)).histories:=by
 have hu:=cameT_le b l;unfold Sb.histories;refine((b.truly (b.cameT l)).mem_his _ _ _ (Nat.le_refl _)).2 ⟨?_,fun k hk=> ?_,fun k _ hk=> hu k hk⟩
 ·unfold Sb.agrees;rw[Option.isNone_iff_eq_none,firstTo_none];intro i hi;show(!((b.truly (b.cameT l)).right (b.cameT l) (b.tkd (b.cameT l) i) (b.ra i) (b.rb i) (b.trm (b.cameT l) i)))=false;rw[right_truly ho hu hi];rfl
 ·rcases hk with h|h
  ·omega
  ·show b.cameT l k=0;exact if_neg (by
    have:b.ns<=k:=h;omega)
theorem his_in {b:Sb}:∀x∈b.histories,∀i,i<b.ns->x i<=b.np i:=fun x hx i hi=> ((b.mem_his _ _ _ (Nat.le_refl _)).1 hx).2.2 i oM hi
theorem cntGe_lt(x:Nat->Int)(least:Int):∀n i,i<n->x i<least->cntGe x least n<n
 | 0,i,h,_=> by omega
 | n + 1,i,h,h2=> by
  unfold cntGe;by_cases e:i=n
  ·subst e;rw[if_neg oM];have:=cntGe_le x least i;omega
  ·have:=cntGe_lt x least n i oM h2;split <;> omega
theorem mis_of {b:Sb}{l:List (Nat->Nat)}{u:Nat->Nat}(hu:u∈l){p:Int×Int}(h0:cntS b u p b.ns=0):b.mis l p=true:=by
 obtain⟨i,hi,e⟩:=List.getElem_of_mem hu;refine decide_eq_true (cntGe_lt _ _ _ i hi ?_);rw[List.getElem?_eq_getElem hi,e,Option.getD_some,h0];decide
theorem loN_pos {l:List (Int×Int)}{p:Int×Int}{m:Nat}(hp:p∈l)(hm:p.1=(m:Int)):loN l m≠0:=by
 have:0<loN l m:=by
  unfold loN;rw[List.countP_pos_iff];exact⟨p,hp,by simp[hm]⟩
 omega
set_option maxRecDepth 10000
set_option maxHeartbeats 16000000
theorem fin_out {H H':View}{g:Gl 3 1}(h:∀x∈g.bl,H' x.1=some x.2/\H x.1=none):∀x∈g.bl,H' x.1=some x.2:=fun x hx=> (h x hx).1
section
variable(M:Md prog)(H:View)
theorem TopTapes_w {St:View->Goroutine->Prop}{cs:List Frame}(hR:∀(H₀:View) (R:Rg) (L:Bl) (kk:List Item),lk R 16=some (.bool true)->H.le H₀->Tc M St 349 ⟨3,.normal,none⟩ H₀ cs R L [] (.code .ret::kk))(hG:Glob H)(hS:Sig H)(hC:Sg.Glob H)(hN:Knd H)(b:Sb)(a:Sa)(hb:SbAt H b a)(q:Sg.Lk)(k:Bk)(A:Option Addr)(lc:Nat)(B:Option Addr)(tc:Nat)(hk:BkAt H k A lc B tc)(w p0 p:Int)(hw:0<=w/\w<65536)(hp0:0<=p0/\p0<256)(hp:0<=p/\p<256)
  (X:Option Addr) (xl:List Int) (m xc:Nat) (hm:m=xl.length) (hX:Sg.Picks H X xl) (Y:Option Addr) (l:List Int) (n yc:Nat) (hn:n=l.length) (hc:n<=yc) (hY:Sg.Picks H Y l):
  Tc M St 349 ⟨3,.normal,none⟩ H cs (argR [b.val a,q.val,k.val A lc B tc,.slice X m xc,.slice Y n yc,.int .u16 w,.int .u8 p0,.int .u8 p]) [] [] [.code (bodyOf Tryz.f3)]:=by
 have htp:=fun(H':View) (h:H.le H')=> typed_c M H' (hS.le h);have hfitc:=fun(H':View) (h:H.le H') (t:Bool) (ht:k.fit=t)=> Fit_c M H' k A lc B tc (hk.le h) t ht;have hokc:=fun(H':View) (z:Int) (hz:(if q.ok then 0 else 1)=z)=> isV (Sg.refLink_c M H' q) (w':=.int .i64 z) (by rw[hz]);have w2:IntKind.i64.wrap w=w:=wrap64 oM oM;have hrm:intBin .rem .i64 w 1000=some (.int .i64 (w%1000)):=rem_in oM oM;have hnow:0<=w%1000/\w%1000<=999:=by omega
 refine U2 ?_;refine .bo fun b8=> ?_;refine .bo fun b9=> ?_;refine .bo fun b10=> ?_;refine U6 ?_;refine To.callF rfl rfl rfl rfl rfl rfl dE (FnT.h (Fit6_c M H b a hb)) (fun v H₁ hv=> ?_);obtain⟨h1,t,rfl,m1⟩:=hv;cases t with
 | false=>
  refine U21 ?_;refine .cl (fun H hs=> htp H (View.le_trans h1 hs.base)) ?_;refine U2 ?_;exact hR _ _ _ _ rfl h1
 | true=>
 obtain⟨hsm,hOk⟩:=m1 rfl;cases hq:q.ok with
 | false=>
  refine U3 ?_;refine .cl (fun H hs=> hokc H 1 (by rw[hq];rfl)) ?_;refine U17 ?_;refine .cl (fun H hs=> htp H (View.le_trans h1 hs.base)) ?_;refine U2 ?_;exact hR _ _ _ _ rfl h1
 | true=>
 cases hfit:k.fit with
 | false=>
  refine U3 ?_;refine .cl (fun H hs=> hokc H 0 (by rw[hq];rfl)) ?_;refine U4 ?_;refine .cl (fun H hs=> hfitc H (View.le_trans h1 hs.base) false hfit) ?_;refine U12 ?_;refine .cl (fun H hs=> htp H (View.le_trans h1 hs.base)) ?_;refine U2 ?_;exact hR _ _ _ _ rfl h1
 | true=>
 by_cases hnl:k.nl=0
 ·refine U3 ?_;refine .cl (fun H hs=> hokc H 0 (by rw[hq];rfl)) ?_;refine U4 ?_;refine .cl (fun H hs=> hfitc H (View.le_trans h1 hs.base) true hfit) ?_;refine U12 ?_;refine .cl (fun H hs=> htp H (View.le_trans h1 hs.base)) ?_;refine U2 ?_;exact hR _ _ _ _ rfl h1
 have hu:=cameT_le b xl;have hin:=came_in hOk xl;refine U3 ?_;refine .cl (fun H hs=> hokc H 0 (by rw[hq];rfl)) ?_;refine U4 ?_;refine .cl (fun H hs=> hfitc H (View.le_trans h1 hs.base) true hfit) ?_;refine U15 ?_;refine To.callF rfl rfl rfl rfl rfl rfl dE (FnT.h (Came_c M H₁ b a (hb.le h1) hOk.few X xl m xc hm (hX.le h1))) (fun v H₂ hv=> ?_);obtain⟨hle2,g,rfl,⟨l1,l2⟩,l3⟩:=hv;have h2:=View.le_trans h1 hle2;have hFu:=free_of g (fin_out l3) l2 (x:=fun i=> (b.cameT xl i:Int)) (fun j hj=> by
  rw[l1];unfold cameOfL;rw[List.getElem?_map,List.getElem?_range hj];unfold Sb.cameT;rw[if_pos hj];rfl)
 obtain⟨gA,hgA⟩:∃gA:Option Addr,(g.blk.map fun b=> (⟨b,0,none⟩:Addr))=gA:=⟨_,rfl⟩
 have hgv:g.val=.slice gA b.ns g.cap:=by rw[<-hgA,<-l2];rfl
 rw[hgA] at hFu;rw[hgv];generalize b.cameT xl=u at hu hin hFu;refine U6 ?_;refine To.callF rfl rfl rfl rfl rfl rfl dE (FnT.h (Truly_c M H₂ b a (hb.le h2) hOk gA g.cap u hFu hu)) (fun v H₃ hv=> ?_);obtain⟨hle3,a',rfl,hb3⟩:=hv;have h3:=View.le_trans h2 hle3;have hsm3:(b.truly u).small:=⟨hsm.nm,hsm.ns,hsm.nr,hsm.name,hsm.np⟩
 have hF3:FreeAt H₃ gA (b.truly u).ns (fun i=> (u i:Int)):=hFu.le hle3;have hu3:∀i,i<(b.truly u).ns->u i<=(b.truly u).np i:=hu;have hns:b.ns=(b.truly u).ns:=rfl;refine .al fun b18=> ?_;refine U2 ?_;rw[hns];generalize b.truly u=o at hin hb3 hsm3 hF3 hu3;refine U4 ?_;refine To.callF rfl rfl rfl rfl rfl rfl dE (FnT.h (CheckBook6_c M H₃ o a' hb3 hsm3)) (fun v H₄ hv=> ?_);obtain⟨hle4,z,rfl,m4⟩:=hv;have h4:=View.le_trans h3 hle4;by_cases hz:z=0
 ·subst hz;have ho:=m4 rfl;have hne:o.histories≠ []:=fun h=> by rw[h] at hin;cases hin
  have hb4:=hb3.le hle4;refine U7 ?_;refine To.callF rfl rfl rfl rfl rfl rfl dE (FnT.h (Missing_c M H₄ o a' hb4 (hN.le h4) ho hne his_in)) (fun v H₅ hv=> ?_);obtain⟨hle5,gm,rfl,⟨q1,q2⟩,q3⟩:=hv;have h5:=View.le_trans h4 hle5;have hM5:=grps_of gm (fun x hx=> (q3 x hx).1) q1;obtain⟨Fm,hFm⟩:∃Fm:Option Addr,(gm.blk.map fun b=> (⟨b,0,none⟩:Addr))=Fm:=⟨_,rfl⟩
  have hgm:gm.val=.slice Fm (o.missL o.histories).length gm.cap:=by rw[<-hFm,<-q2];rfl
  rw[hFm] at hM5;rw[hgm];have hml:(o.missL o.histories).length<=20:=Nat.le_trans (List.length_filter_le _ _) (grps_len ho);refine U12 ?_;refine To.callF rfl rfl rfl rfl rfl rfl dE (FnT.h (Pack_c M H₅ o a' (hb4.le hle5) (hN.le h5) ho hne his_in (w%1000) hnow)) (fun v H₆ hv=> ?_);obtain⟨hle6,fnd,pv,rfl,hpq⟩:=hv;have h6:=View.le_trans h5 hle6;rcases hpq with ⟨rfl,rfl⟩|⟨rfl,Q,qc,pl,rfl,hQ,hpl⟩
  ·refine U38 ?_;refine .cl (fun H hs=> htp H (View.le_trans h6 hs.base)) ?_;refine U3 ?_;exact hR _ _ _ _ rfl h6
  ·have hend:=TopA_w M H hR hG hS hC k A lc B tc hk hfit hnl q hq p0 p hp0 hp Y l n yc hn hc hY H₆ h6 b9 b10 b18 o a' (hb4.le (View.le_trans hle5 hle6)) ho u hu3 gA g.cap (hF3.le (View.le_trans hle4 (View.le_trans hle5 hle6))) (o.missL o.histories) Fm gm.cap (hM5.le hle6) hml Q qc pl hQ (fun i hi=> ⟨(hpl i hi).1,(hpl i hi).2.1⟩) (fun x hx h0=> List.mem_filter.2 ⟨hx,mis_of hin (copN_zero o.ns |>.1 h0)⟩) (fun x hx i hi=> by
    have hxr:=mem_grps (List.mem_filter.1 hx).1;obtain⟨r1,_,r3⟩:=hpl i oM;have:=loN_pos hx hi;by_cases e:pl i= -1
    ·exact(this (r3.1 e)).elim
    ·omega)
   refine U46 ?_;exact Tc.db hend
 ·refine U5 ?_;refine .cl (fun H hs=> htp H (View.le_trans h4 hs.base)) ?_;refine U2 ?_;exact hR _ _ _ _ rfl h4
end
end Go.Proofs.YtcagolloalgfiaaGreatDoor
