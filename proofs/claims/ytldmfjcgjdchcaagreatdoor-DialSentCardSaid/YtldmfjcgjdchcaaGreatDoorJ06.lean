/-
 Texts of the proofs over baudot/dial.
-/
import Derived.Test.YtldmfjcgjdchcaaGreatDoorJ05
namespace Go.Proofs.YtldmfjcgjdchcaaGreatDoor
open Go.RL Go.Proofs.Tryz
set_option maxRecDepth 10000
set_option maxHeartbeats 16000000
theorem P6(A:Bl)(x y z:Nat×Bool×Obj)(B:Bl):(A++(x::y::z::B)).Perm (x::y::z::(A++B)):=by
 refine List.perm_middle.trans (.cons _ ?_);refine List.perm_middle.trans (.cons _ ?_);exact List.perm_middle
theorem aBn(u v:Nat×Bool×Obj)(A:Bl)(x y z:Nat×Bool×Obj)(B:Bl):((x::y::z::A)++(u::v::B)).Perm (([u,v]++A)++([x,y,z]++B)):=by
 simp only[List.cons_append,List.nil_append];have h1:(A++(x::y::z::B)).Perm (x::y::z::(A++B)):=P6 A x y z B;have h2:(x::y::z::(A++u::v::B)).Perm (u::v::x::y::z::(A++B)):=by
  have h3:(A++u::v::B).Perm (u::v::(A++B)):=List.perm_middle.trans (.cons _ List.perm_middle);have h4:(x::y::z::(A++u::v::B)).Perm (x::y::z::u::v::(A++B)):=.cons _ (.cons _ (.cons _ h3));refine h4.trans ?_;have h5:([x,y,z]++u::v::(A++B)).Perm (u::([x,y,z]++v::(A++B))):=List.perm_middle;have h6:([x,y,z]++v::(A++B)).Perm (v::([x,y,z]++(A++B))):=List.perm_middle;exact h5.trans (.cons _ h6)
 exact h2.trans (.cons _ (.cons _ h1.symm))
theorem aFB {a:Int}{t:Nat}(h:0<=a/\a<=99)(ht:t<=30):0<=a*(t:Nat)/\a*(t:Nat)<=2970:=by
 have h1:(0:Int)<=(t:Nat):=Int.natCast_nonneg t;have h2:((t:Nat):Int)<=30:=by omega
 refine⟨Int.mul_nonneg h.1 h1,?_⟩;have h3:=Int.mul_le_mul h.2 h2 h1 (by omega:(0:Int)<=99);omega
theorem Gl.back {e:TypeId}{g g':Gl e 1}(new:List Value)(h1:g'.blk=g.blk)(h2:g'.n=g.n+new.length)(h3:g'.cap=g.cap)(h4:g'.l=g.l++new):∃g5:Gl e 1,g5.blk=g.blk/\g5.n=g.n/\g5.cap=g.cap/\g5.l=g.l/\g5.bl=g'.bl:=by
 have hl:=g.hl;have dX:=g'.hl;have wS:=g'.hj;have hc':=g'.hc;refine⟨⟨g.blk,g.n,g.cap,g.l,new++g'.HB,g.hl,g.hc,?_,g.h0⟩,rfl,rfl,rfl,rfl,?_⟩
 ·rw[List.length_append,wS,h2,h3];omega
 ·unfold Gl.bl;simp only;rw[h1,h4];cases g.blk with
  | none=> rfl
  | some b=> simp
theorem ZJ(g:Gl 9 1){H:View}(h:∀x∈g.bl,H x.1=some x.2){l:List (List UInt8)}(hl:g.l=PB l){g0:Gl 9 1}(hn:g.n=g0.n)(hb:g.blk=g0.blk):HE H (g0.blk.map fun b=> ⟨b,0,none⟩) g0.n (fun j=> l[j]?.getD []):=by
 have FY:=g.hl;rw[hl,xF] at FY;cases CI:g0.blk with
 | none=>
  have:=g.h0 (hb.trans CI);have:=g.hc;exact .inl oM
 | some b=>
  have QJ:g.bl= [(b,true,.cells ⟨g.l++g.HB⟩ 9 (0,0))]:=by unfold Gl.bl;rw[hb,CI]
  refine .inr ⟨b,0,true,_,9,(0,0),rfl,h (b,true,.cells ⟨g.l++g.HB⟩ 9 (0,0)) (by rw[QJ];simp),fun j hj=> ?_⟩;show(g.l++g.HB)[_]? =_;have D8:j<l.length:=by omega
  rw[Nat.zero_add,Int.toNat_natCast,Nat.mul_one,List.getElem?_append_left (by rw[hl,xF];exact D8),hl];unfold PB;rw[List.getElem?_map];simp only[List.getElem?_eq_getElem D8];rfl
structure eH where
 done:Bool
 total:Int
 RE:List (List UInt8)
def eH.al(s:eH):Int:=if s.done then 0 else 9
def HN(l:List (List UInt8))(s:List UInt8):Bool:=(pA (fun j=> WC (l[j]?.getD []) s) l.length).isSome
def zF(can:List (List UInt8))(w:Nat->Int):Nat->List (List UInt8)->Int->eH->eH
 | 0,l,sum,st=> if st.done=true/\sum≥st.total then st else⟨true,sum,l⟩
 | d+1,l,sum,st=> if st.done=true/\sum≥st.total then st else can.foldl (fun st s=> if HN l s then st else zF can w d (l++[s]) (sum+w l.length*(KB s:Nat)) st) st
def ptr(b:Nat):Value:=.pointer (some ⟨b,0,none⟩)
def yW(b8 b7 b3 b6 b9 b11:Nat):Value:=.func (.func 142) #[] #[ptr b8,ptr b7,ptr b3,ptr b6,ptr b9,ptr b11]
def V0(st:eH)(num:Value)(b8 b7 b6:Nat):Bl:= [(b8,true,.cells ⟨[.int .i64 st.al]⟩ 25 (0,0)),(b7,true,.cells ⟨[.int .i64 st.total]⟩ 3 (0,0)),(b6,true,.cells ⟨num.cells.toList⟩ 107 (0,0))]
def QM(a:Option Addr)(n c:Nat):Value:=.slice a n c
def gY(H:View)(a:Option Addr)(n c:Nat)(l:List Value):Prop:=UA H 1 (QM a n c) n l/\n<=c
structure BT(can:List (List UInt8))(w:Nat->Int)(nw:Nat)(b8 b7 b3 b6 b9 b11:Nat)(cA wA:Option Addr)(cc wc:Nat)(H:View):Prop where
 f:∃f,H b11=some (f,.cells ⟨[yW b8 b7 b3 b6 b9 b11]⟩ 249 (0,0))
 c:∃f,H b9=some (f,.cells ⟨[.slice cA can.length cc]⟩ 107 (0,0))
 g:∃f,H b3=some (f,.cells ⟨[.slice wA nw wc]⟩ 24 (0,0))
 cs:HE H cA can.length (fun i=> can[i]?.getD [])
 ws:GB H wA nw w
theorem BT.le {can:List (List UInt8)}{w:Nat->Int}{nw b8 b7 b3 b6 b9 b11:Nat}{cA wA:Option Addr}{cc wc:Nat}{H H':View}(h:BT can w nw b8 b7 b3 b6 b9 b11 cA wA cc wc H)(k:H.le H'):BT can w nw b8 b7 b3 b6 b9 b11 cA wA cc wc H':=
 ⟨h.f.imp fun _ e=> k _ _ e,h.c.imp fun _ e=> k _ _ e,h.g.imp fun _ e=> k _ _ e,h.cs.le k,h.ws.le k⟩
def ChQ(H₁:View)(g:Gl 9 1)(st:eH)(b8 b7 b6:Nat)(v:Value)(H3:View):Prop:=
 v=.tuple ⟨[]⟩/\∃(H₂:View) (g':Gl 9 1) (a:Option Addr) (n c:Nat),H₁.le H₂/\kA H₂ (V0 st (QM a n c) b8 b7 b6++g'.bl) H3/\(g'.blk=g.blk/\g'.n=g.n/\g'.cap=g.cap/\g'.l=g.l)/\(n=st.RE.length/\gY H₂ a n c (PB st.RE))
theorem nU {α β:Type}(f:β->α->β)(l:List α)(i:Nat)(b:β){x:α}(h:l[i]? =some x):(l.drop i).foldl f b=(l.drop (i+1)).foldl f (f b x):=by
 obtain⟨hi,rfl⟩:=List.getElem?_eq_some_iff.1 h;rw[List.drop_eq_getElem_cons hi,List.foldl_cons]
theorem Gl.Y7 {e:TypeId}{sz:Nat}{g g':Gl e sz}(h:g'.blk=g.blk/\g'.n=g.n/\g'.cap=g.cap/\g'.l=g.l):g'.val=g.val:=by
 unfold Gl.val;rw[h.1,h.2.1,h.2.2.1]
def jD(can:List (List UInt8))(w:Nat->Int)(d:Nat)(l:List (List UInt8))(sum:Int)(st:eH)(s:List UInt8):eH:=if HN l s then st else zF can w d (l++[s]) (sum+w l.length*(KB s:Nat)) st
section
variable(M:Md prog)
theorem aAq(can:List (List UInt8))(w:Nat->Int)(nw:Nat)(b8 b7 b3 b6 b9 b11:Nat)(cA wA:Option Addr)(cc wc:Nat)(hnw:nw<=20)(aGX:can.length<=100000)(hcn:∀s∈can,s.all TE=true/\s.length<=3)(hw:∀i,i<nw->0<=w i/\w i<=99):
  ∀ (d:Nat) (g:Gl 9 1) (l:List (List UInt8)) (sum:Int) (st:eH) (a:Option Addr) (n c':Nat) (H₁ Hc:View),g.l=PB l->l.length+d=nw->(0<=sum/\sum<=3000*(l.length:Nat))->BT can w nw b8 b7 b3 b6 b9 b11 cA wA cc wc H₁->n=st.RE.length->gY H₁ a n c' (PB st.RE)->kA H₁ (V0 st (QM a n c') b8 b7 b6++g.bl) Hc-> 
   aA M 142 #[g.val,.int .i64 sum,ptr b8,ptr b7,ptr b3,ptr b6,ptr b9,ptr b11] Hc (ChQ H₁ g (zF can w d l sum st) b8 b7 b6):=by
 intro d;induction d with
 | zero=>
  intro g l sum st a n c' H₁ Hc hg hld aGq ZB hn UH AS;have iK:g.n=l.length:=by have:=g.hl;rw[hg,xF] at this;omega
  have aP:=ZB;obtain⟨⟨ff,hf⟩,⟨fc,hc⟩,⟨fg,hgw⟩,vT,hws⟩:=ZB;obtain⟨dn,total,RE⟩:=st;by_cases c1:dn=true/\sum≥total
  ·obtain⟨rfl,c2⟩:=c1;have e:zF can w 0 l sum ⟨true,total,RE⟩=⟨true,total,RE⟩:=if_pos ⟨rfl,c2⟩;rw[e];refine aA.enter (vs:= [g.val,.int .i64 sum,ptr b8,ptr b7,ptr b3,ptr b6,ptr b9,ptr b11]) func142 rfl ntmps142 (Nat.le_of_ble_eq_true rfl) (AS) fun St c cs hK=> ?_;unfold V0 ptr;refine SE ?_;refine .rt hK func142 results142 [] ?_;exact fun H' hs=> ⟨rfl,H₁,g,a,n,c',View.le_refl _,hs,⟨rfl,rfl,rfl,rfl⟩,hn,UH⟩
  ·have e:zF can w 0 l sum ⟨dn,total,RE⟩=⟨true,sum,l⟩:=if_neg c1;rw[e];clear e;cases dn with
   | false=>
    refine aA.enter (vs:= [g.val,.int .i64 sum,ptr b8,ptr b7,ptr b3,ptr b6,ptr b9,ptr b11]) func142 rfl ntmps142 (Nat.le_of_ble_eq_true rfl) (AS) fun St c cs hK=> ?_;unfold V0 ptr;refine U26 ?_;refine .e (Or.SB Gl.val Gl.bl (fun g2:Gl 9 1=> g2.l=PB l/\g2.n=g.n) rfl rfl rfl rfl rfl dE Gl.GO (fun H hs=> .h (eU M H (g.blk.map fun b=> ⟨b,0,none⟩) g.n g.cap (PB l) oM (by rw[<-hg];exact g.src (fun x hx=> hs.at_ x (List.mem_append_right _ hx))) (aM l))) (fun g2 YN=> ?_));refine U5 ?_;refine .rt hK func142 results142 [] ?_;intro H' hs;obtain⟨H₂,h1,h2⟩:=kA.VD (B:= [(b8,true,.cells ⟨[.int .i64 0]⟩ 25 (0,0)),(b7,true,.cells ⟨[.int .i64 sum]⟩ 3 (0,0)),(b6,true,.cells ⟨[g2.val]⟩ 107 (0,0))]++g.bl) (L:=g2.bl) hs;refine⟨rfl,H₂,g,g2.blk.map (fun b=> ⟨b,0,none⟩),g2.n,g2.cap,h2.base,h1,⟨rfl,rfl,rfl,rfl⟩,by rw[YN.2];exact iK,?_⟩;have h3:=g2.src (H:=H₂) (fun x hx=> h2.at_ x hx);rw[YN.1] at h3;exact⟨h3,g2.hc⟩
   | true=>
    have c2:rA .geq .i64 sum (eH.mk true total RE).total=some (.bool false):=VG (Int.lt_of_not_ge fun h=> c1 ⟨rfl,h⟩);refine aA.enter (vs:= [g.val,.int .i64 sum,ptr b8,ptr b7,ptr b3,ptr b6,ptr b9,ptr b11]) func142 rfl ntmps142 (Nat.le_of_ble_eq_true rfl) (AS) fun St c cs hK=> ?_;unfold V0 ptr;refine U26 ?_;refine .e (Or.SB Gl.val Gl.bl (fun g2:Gl 9 1=> g2.l=PB l/\g2.n=g.n) rfl rfl rfl rfl rfl dE Gl.GO (fun H hs=> .h (eU M H (g.blk.map fun b=> ⟨b,0,none⟩) g.n g.cap (PB l) oM (by rw[<-hg];exact g.src (fun x hx=> hs.at_ x (List.mem_append_right _ hx))) (aM l))) (fun g2 YN=> ?_));refine U5 ?_;refine .rt hK func142 results142 [] ?_;intro H' hs;obtain⟨H₂,h1,h2⟩:=kA.VD (B:= [(b8,true,.cells ⟨[.int .i64 0]⟩ 25 (0,0)),(b7,true,.cells ⟨[.int .i64 sum]⟩ 3 (0,0)),(b6,true,.cells ⟨[g2.val]⟩ 107 (0,0))]++g.bl) (L:=g2.bl) hs;refine⟨rfl,H₂,g,g2.blk.map (fun b=> ⟨b,0,none⟩),g2.n,g2.cap,h2.base,h1,⟨rfl,rfl,rfl,rfl⟩,by rw[YN.2];exact iK,?_⟩;have h3:=g2.src (H:=H₂) (fun x hx=> h2.at_ x hx);rw[YN.1] at h3;exact⟨h3,g2.hc⟩
 | succ d ihd=>
  intro g l sum st a n c' H₁ Hc hg hld aGq ZB hn UH AS;have iK:g.n=l.length:=by have:=g.hl;rw[hg,xF] at this;omega
  have aP:=ZB;obtain⟨⟨ff,hf⟩,⟨fc,hc⟩,⟨fg,hgw⟩,vT,hws⟩:=ZB;obtain⟨dn,total,RE⟩:=st;by_cases c1:dn=true/\sum≥total
  ·obtain⟨rfl,c2⟩:=c1;have e:zF can w (d+1) l sum ⟨true,total,RE⟩=⟨true,total,RE⟩:=if_pos ⟨rfl,c2⟩;rw[e];refine aA.enter (vs:= [g.val,.int .i64 sum,ptr b8,ptr b7,ptr b3,ptr b6,ptr b9,ptr b11]) func142 rfl ntmps142 (Nat.le_of_ble_eq_true rfl) (AS) fun St c cs hK=> ?_;unfold V0 ptr;refine SE ?_;refine .rt hK func142 results142 [] ?_;exact fun H' hs=> ⟨rfl,H₁,g,a,n,c',View.le_refl _,hs,⟨rfl,rfl,rfl,rfl⟩,hn,UH⟩
  ·have e:zF can w (d+1) l sum ⟨dn,total,RE⟩=can.foldl (jD can w d l sum) ⟨dn,total,RE⟩:=if_neg c1;rw[e];clear e;cases dn with
   | false =>
    refine aA.enter (vs:= [g.val,.int .i64 sum,ptr b8,ptr b7,ptr b3,ptr b6,ptr b9,ptr b11]) func142 rfl ntmps142 (Nat.le_of_ble_eq_true rfl) (AS) fun St c cs hK=> ?_;unfold V0 ptr;refine U31 ?_;refine Tc.db (Tc.rI (σ:= { y:View×Nat×eH×Gl 9 1×(Option Addr×Nat×Nat)//H₁.le y.1/\y.2.1<=can.length/\(can.drop y.2.1).foldl (jD can w d l sum) y.2.2.1=can.foldl (jD can w d l sum) (⟨false,total,RE⟩:eH)/\(y.2.2.2.1.blk=g.blk/\y.2.2.2.1.n=g.n/\y.2.2.2.1.cap=g.cap/\y.2.2.2.1.l=g.l)/\(y.2.2.2.2.2.1=y.2.2.1.RE.length/\gY y.1 y.2.2.2.2.1 y.2.2.2.2.2.1 y.2.2.2.2.2.2 (PB y.2.2.1.RE)) })
     (fun y=> (y.1.1,[(0,g.val),(1,.int .i64 sum),(2,.pointer (some ⟨b8,0,none⟩)),(3,.pointer (some ⟨b7,0,none⟩)),(4,.pointer (some ⟨b3,0,none⟩)),(5,.pointer (some ⟨b6,0,none⟩)),(6,.pointer (some ⟨b9,0,none⟩)),(7,.pointer (some ⟨b11,0,none⟩)),(27,.slice cA can.length cc),(28,.int .i64 (can.length:Nat)),(29,.int .i64 (y.1.2.1:Nat))],[(b8,true,.cells ⟨[.int .i64 y.1.2.2.1.al]⟩ 25 (0,0)),(b7,true,.cells ⟨[.int .i64 y.1.2.2.1.total]⟩ 3 (0,0)),(b6,true,.cells ⟨[QM y.1.2.2.2.2.1 y.1.2.2.2.2.2.1 y.1.2.2.2.2.2.2]⟩ 107 (0,0))]++y.1.2.2.2.1.bl)) (fun y=> can.length-y.1.2.1) ?_ ⟨(H₁,0,(⟨false,total,RE⟩:eH),g,(a,n,c')),View.le_refl _,Nat.zero_le _,rfl,⟨rfl,rfl,rfl,rfl⟩,hn,UH⟩)
    rintro⟨⟨H₂,i,st,g2,a2,n2,c2'⟩,p1,p2,p3,p4,p5,p6⟩ ih;simp only at p1 p2 p3 p4 p5 p6;show Tc M St _ _ H₂ _ [(0,g.val),(1,.int .i64 sum),(2,.pointer (some ⟨b8,0,none⟩)),(3,.pointer (some ⟨b7,0,none⟩)),(4,.pointer (some ⟨b3,0,none⟩)),(5,.pointer (some ⟨b6,0,none⟩)),(6,.pointer (some ⟨b9,0,none⟩)),(7,.pointer (some ⟨b11,0,none⟩)),(27,.slice cA can.length cc),(28,.int .i64 (can.length:Nat)),(29,.int .i64 (i:Nat))] ([(b8,true,.cells ⟨[.int .i64 st.al]⟩ 25 (0,0)),(b7,true,.cells ⟨[.int .i64 st.total]⟩ 3 (0,0)),(b6,true,.cells ⟨[QM a2 n2 c2']⟩ 107 (0,0))]++g2.bl) _ _;by_cases d1:i=can.length
    ·have e:can.foldl (jD can w d l sum) (⟨false,total,RE⟩:eH)=st:=by rw[<-p3,d1,List.drop_length];rfl
     rw[e] at hK;subst d1;refine U7 ?_;refine .ov hK func142 results142 [] ?_;exact fun H' hs=> ⟨rfl,H₂,g2,a2,n2,c2',p1,hs,p4,p5,p6⟩
    ·have d2:i<can.length:=by omega
     obtain⟨s,AF⟩:∃s,can[i]? =some s:=⟨_,List.getElem?_eq_getElem d2⟩
     have fJ:=hcn s (List.mem_of_getElem? AF);have htk:=aK s fJ.1;obtain h0|⟨cb,co,fcb,cgs,cgt,cgz,rfl,A8,yB⟩:=vT
     ·omega
     have f1:=yB i d2;simp only[AF,Option.getD_some] at f1;have aF1:=p1 _ _ A8;rw[nU _ _ _ _ AF] at p3;have hgv:=Gl.Y7 p4;have LU:=fun(H':View) (bx:Nat) (fx:Bool) (YN:∀x∈g2.bl,H' x.1=some x.2) (hbx:H' bx=some (fx,.cells ⟨[vA s]⟩ 9 (0,0)))=> iN M H' (g.blk.map fun b=> ⟨b,0,none⟩) g.n g.cap (fun j=> l[j]?.getD []) (ZJ g2 YN (p4.2.2.2.trans hg) (p4.2.1) p4.1) oM (.func (.func 145) #[] #[.pointer (some ⟨bx,0,none⟩)]) (fun j=> WC (l[j]?.getD []) s) (fun j _ H'' h''=> CB.of (first:= []) (captured:= [_]) aA5 rfl (o6 M H'' s bx fx (h'' _ _ hbx) (l[j]?.getD [])));have mQ:(pA (fun j=> WC (l[j]?.getD []) s) g.n).isSome=HN l s:=by unfold HN;rw[iK]
     cases hq:HN l s with
     | true=>
      have e3:jD can w d l sum st s=st:=by unfold jD;rw[if_pos hq]
      rw[e3] at p3;rw[hq] at mQ;refine ZF ?_;refine .al fun bx=> ?_;refine U7 ?_;refine .cl (fun H hs=> eG (LU H bx true (fun x hx=> hs.at_ x (List.mem_cons_of_mem _ (List.mem_append_right _ hx))) (hs.get (i:=0) rfl)) mQ) ?_;refine U7 ?_;exact Tc.db (ih ⟨(H₂,i+1,st,g2,(a2,n2,c2')),p1,by simp only;omega,p3,p4,p5,p6⟩ (by simp only;omega))
     | false=>
      have e3:jD can w d l sum st s=zF can w d (l++[s]) (sum+w l.length*(KB s:Nat)) st:=by unfold jD;rw[if_neg (by rw[hq];decide)]
      rw[e3] at p3;rw[hq] at mQ;have LY:=hw l.length oM;have aEB:0<=w l.length*(KB s:Nat)/\w l.length*(KB s:Nat)<=2970:=aFB LY oM;have wU:=aP.le p1;obtain⟨⟨ff2,hf2⟩,⟨fc2,hc2⟩,⟨fg2,aF7⟩,_,aCe⟩:=wU;obtain h0|⟨wb,wo,fwb,wgs,wgt,wgz,rfl,hwb,aCd⟩:=aCe
      ·omega
      have f2:=aCd l.length oM;rw[<-iK] at f2;have f3:rA .mul .i64 (w g.n) (KB s:Nat)=some (.int .i64 (w l.length*(KB s:Nat))):=by rw[iK];exact RB oM oM
      have f4:rA .add .i64 sum (w l.length*(KB s:Nat))=some (.int .i64 (sum+w l.length*(KB s:Nat))):=LB oM oM;refine ZF ?_;refine .al fun bx=> ?_;refine U7 ?_;refine .cl (fun H hs=> eG (LU H bx true (fun x hx=> hs.at_ x (List.mem_cons_of_mem _ (List.mem_append_right _ hx))) (hs.get (i:=0) rfl)) mQ) ?_;refine U3 ?_;refine Tc.drT [4] [15] [] 4 mixed rfl ?_;refine .ow 0 ?_;refine .oo 1 ?_;refine .oo 2 ?_;refine .ow 5 ?_;refine .ow 6 ?_;refine .ow 7 ?_;refine .ow 8 ?_;refine .ow 9 ?_;refine .ow 10 ?_;refine .ow 11 ?_;refine .ea 3 rfl (.bs (zz:=fun bs=> ⟨S3.mk sL (.inr sL),?_⟩));refine .ea 4 rfl (Or.jY (E:=en) (g:=g2) (m:=1) (new:= [vA s]) (yv:=.slice (some ⟨bs,0,none⟩) 1 1) 5 rfl rfl rfl rfl (by rw[hgv];rfl) rfl rfl rfl rfl rfl rfl rfl rfl rfl rfl (fun H hs=> UA.of (hs.get (i:=0) rfl) (Nat.le_of_ble_eq_true rfl)) rfl oM rfl dE (fun g3 NZ FU hb3 hc3=> ⟨S3.mk sL (.inl kR),?_⟩) (fun g3 NZ FU=> ⟨S3.mk sL (.inl kR),?_⟩))
      ·refine Ta.K7 12 kR rfl rfl rfl dE rfl rfl (xA.tk fun H hs=> dM M H s fJ.1 oM) ?_;refine .ow 13 ?_;refine .ow 14 ?_;refine Ta.lift (L₂:= [(bs,true,.cells ⟨[vA s]⟩ 9 (0,0)),(bx,true,.cells ⟨[vA s]⟩ 9 (0,0))]) (L₁:= [(b8,true,.cells ⟨[.int .i64 st.al]⟩ 25 (0,0)),(b7,true,.cells ⟨[.int .i64 st.total]⟩ 3 (0,0)),(b6,true,.cells ⟨[QM a2 n2 c2']⟩ 107 (0,0))]++g3.bl) rfl (fun Hx hx=> ?_);refine Ta.sB 15 kR rfl kR rfl rfl rfl rfl rfl rfl dE (CB.of (first:= []) (captured:= [_,_,_,_,_,_]) bU rfl (ihd g3 (l++[s]) _ st a2 n2 c2' H₂ Hx (by rw[FU,p4.2.2.2,hg,wF];rfl) (by rw[List.length_append];show l.length+1+d=nw;omega) (by rw[List.length_append];show _/\_<=3000*((l.length+1:Nat):Int);omega) (aP.le p1) p5 p6 hx)) (fun v H₃ hv=> ?_);obtain⟨_,H₄,g4,a4,n4,c4,r1,r2,r3,r4,r5⟩:=hv;refine Ta.expand r2 ?_;unfold V0;refine .dn ?_;refine U5 ?_;obtain⟨g5,s1,s2,s3,s4,s5⟩:=Gl.back (g:=g2) (g':=g4) [vA s] (r3.1.trans hb3) (by rw[r3.2.1,NZ];rfl) (by rw[r3.2.2.1,hc3]) (by rw[r3.2.2.2,FU]);rw[<-s5];exact Tc.db (ih ⟨(H₄,i+1,_,g5,(a4,n4,c4)),View.le_trans p1 r1,by simp only;omega,p3,⟨s1.trans p4.1,s2.trans p4.2.1,s3.trans p4.2.2.1,s4.trans p4.2.2.2⟩,r4,r5⟩ (by simp only;omega))
      ·refine Ta.IN (L₁:=([(bs,true,.cells ⟨[vA s]⟩ 9 (0,0)),(bx,true,.cells ⟨[vA s]⟩ 9 (0,0))]++g2.bl)++([(b8,true,.cells ⟨[.int .i64 st.al]⟩ 25 (0,0)),(b7,true,.cells ⟨[.int .i64 st.total]⟩ 3 (0,0)),(b6,true,.cells ⟨[QM a2 n2 c2']⟩ 107 (0,0))]++g3.bl)) ?_ ?_
       ·simp only[List.cons_append,List.nil_append];refine .cons _ (.cons _ ?_);exact P6 g2.bl _ _ _ g3.bl
       ·refine Ta.K7 12 kR rfl rfl rfl dE rfl rfl (xA.tk fun H hs=> dM M H s fJ.1 oM) ?_;refine .ow 13 ?_;refine .ow 14 ?_;refine Ta.lift (L₂:= [(bs,true,.cells ⟨[vA s]⟩ 9 (0,0)),(bx,true,.cells ⟨[vA s]⟩ 9 (0,0))]++g2.bl) (L₁:= [(b8,true,.cells ⟨[.int .i64 st.al]⟩ 25 (0,0)),(b7,true,.cells ⟨[.int .i64 st.total]⟩ 3 (0,0)),(b6,true,.cells ⟨[QM a2 n2 c2']⟩ 107 (0,0))]++g3.bl) rfl (fun Hx hx=> ?_);refine Ta.sB 15 kR rfl kR rfl rfl rfl rfl rfl rfl dE (CB.of (first:= []) (captured:= [_,_,_,_,_,_]) bU rfl (ihd g3 (l++[s]) _ st a2 n2 c2' H₂ Hx (by rw[FU,p4.2.2.2,hg,wF];rfl) (by rw[List.length_append];show l.length+1+d=nw;omega) (by rw[List.length_append];show _/\_<=3000*((l.length+1:Nat):Int);omega) (aP.le p1) p5 p6 hx)) (fun v H₃ hv=> ?_);obtain⟨_,H₄,g4,a4,n4,c4,r1,r2,r3,r4,r5⟩:=hv;refine Ta.expand r2 ?_;unfold V0;refine .dn ?_;refine U5 ?_;have pE:=ih ⟨(H₄,i+1,_,g2,(a4,n4,c4)),View.le_trans p1 r1,by simp only;omega,p3,p4,r4,r5⟩ (by simp only;omega);refine Tc.IN (aBn _ _ g2.bl _ _ _ g4.bl) ?_;exact Tc.db pE
   | true=>
    have c2:rA .geq .i64 sum (eH.mk true total RE).total=some (.bool false):=VG (Int.lt_of_not_ge fun h=> c1 ⟨rfl,h⟩);refine aA.enter (vs:= [g.val,.int .i64 sum,ptr b8,ptr b7,ptr b3,ptr b6,ptr b9,ptr b11]) func142 rfl ntmps142 (Nat.le_of_ble_eq_true rfl) (AS) fun St c cs hK=> ?_;unfold V0 ptr;refine U31 ?_;refine Tc.db (Tc.rI (σ:= { y:View×Nat×eH×Gl 9 1×(Option Addr×Nat×Nat)//H₁.le y.1/\y.2.1<=can.length/\(can.drop y.2.1).foldl (jD can w d l sum) y.2.2.1=can.foldl (jD can w d l sum) (⟨true,total,RE⟩:eH)/\(y.2.2.2.1.blk=g.blk/\y.2.2.2.1.n=g.n/\y.2.2.2.1.cap=g.cap/\y.2.2.2.1.l=g.l)/\(y.2.2.2.2.2.1=y.2.2.1.RE.length/\gY y.1 y.2.2.2.2.1 y.2.2.2.2.2.1 y.2.2.2.2.2.2 (PB y.2.2.1.RE)) })
     (fun y=> (y.1.1,[(0,g.val),(1,.int .i64 sum),(2,.pointer (some ⟨b8,0,none⟩)),(3,.pointer (some ⟨b7,0,none⟩)),(4,.pointer (some ⟨b3,0,none⟩)),(5,.pointer (some ⟨b6,0,none⟩)),(6,.pointer (some ⟨b9,0,none⟩)),(7,.pointer (some ⟨b11,0,none⟩)),(27,.slice cA can.length cc),(28,.int .i64 (can.length:Nat)),(29,.int .i64 (y.1.2.1:Nat))],[(b8,true,.cells ⟨[.int .i64 y.1.2.2.1.al]⟩ 25 (0,0)),(b7,true,.cells ⟨[.int .i64 y.1.2.2.1.total]⟩ 3 (0,0)),(b6,true,.cells ⟨[QM y.1.2.2.2.2.1 y.1.2.2.2.2.2.1 y.1.2.2.2.2.2.2]⟩ 107 (0,0))]++y.1.2.2.2.1.bl)) (fun y=> can.length-y.1.2.1) ?_ ⟨(H₁,0,(⟨true,total,RE⟩:eH),g,(a,n,c')),View.le_refl _,Nat.zero_le _,rfl,⟨rfl,rfl,rfl,rfl⟩,hn,UH⟩)
    rintro⟨⟨H₂,i,st,g2,a2,n2,c2'⟩,p1,p2,p3,p4,p5,p6⟩ ih;simp only at p1 p2 p3 p4 p5 p6;show Tc M St _ _ H₂ _ [(0,g.val),(1,.int .i64 sum),(2,.pointer (some ⟨b8,0,none⟩)),(3,.pointer (some ⟨b7,0,none⟩)),(4,.pointer (some ⟨b3,0,none⟩)),(5,.pointer (some ⟨b6,0,none⟩)),(6,.pointer (some ⟨b9,0,none⟩)),(7,.pointer (some ⟨b11,0,none⟩)),(27,.slice cA can.length cc),(28,.int .i64 (can.length:Nat)),(29,.int .i64 (i:Nat))] ([(b8,true,.cells ⟨[.int .i64 st.al]⟩ 25 (0,0)),(b7,true,.cells ⟨[.int .i64 st.total]⟩ 3 (0,0)),(b6,true,.cells ⟨[QM a2 n2 c2']⟩ 107 (0,0))]++g2.bl) _ _;by_cases d1:i=can.length
    ·have e:can.foldl (jD can w d l sum) (⟨true,total,RE⟩:eH)=st:=by rw[<-p3,d1,List.drop_length];rfl
     rw[e] at hK;subst d1;refine U7 ?_;refine .ov hK func142 results142 [] ?_;exact fun H' hs=> ⟨rfl,H₂,g2,a2,n2,c2',p1,hs,p4,p5,p6⟩
    ·have d2:i<can.length:=by omega
     obtain⟨s,AF⟩:∃s,can[i]? =some s:=⟨_,List.getElem?_eq_getElem d2⟩
     have fJ:=hcn s (List.mem_of_getElem? AF);have htk:=aK s fJ.1;obtain h0|⟨cb,co,fcb,cgs,cgt,cgz,rfl,A8,yB⟩:=vT
     ·omega
     have f1:=yB i d2;simp only[AF,Option.getD_some] at f1;have aF1:=p1 _ _ A8;rw[nU _ _ _ _ AF] at p3;have hgv:=Gl.Y7 p4;have LU:=fun(H':View) (bx:Nat) (fx:Bool) (YN:∀x∈g2.bl,H' x.1=some x.2) (hbx:H' bx=some (fx,.cells ⟨[vA s]⟩ 9 (0,0)))=> iN M H' (g.blk.map fun b=> ⟨b,0,none⟩) g.n g.cap (fun j=> l[j]?.getD []) (ZJ g2 YN (p4.2.2.2.trans hg) (p4.2.1) p4.1) oM (.func (.func 145) #[] #[.pointer (some ⟨bx,0,none⟩)]) (fun j=> WC (l[j]?.getD []) s) (fun j _ H'' h''=> CB.of (first:= []) (captured:= [_]) aA5 rfl (o6 M H'' s bx fx (h'' _ _ hbx) (l[j]?.getD [])));have mQ:(pA (fun j=> WC (l[j]?.getD []) s) g.n).isSome=HN l s:=by unfold HN;rw[iK]
     cases hq:HN l s with
     | true=>
      have e3:jD can w d l sum st s=st:=by unfold jD;rw[if_pos hq]
      rw[e3] at p3;rw[hq] at mQ;refine ZF ?_;refine .al fun bx=> ?_;refine U7 ?_;refine .cl (fun H hs=> eG (LU H bx true (fun x hx=> hs.at_ x (List.mem_cons_of_mem _ (List.mem_append_right _ hx))) (hs.get (i:=0) rfl)) mQ) ?_;refine U7 ?_;exact Tc.db (ih ⟨(H₂,i+1,st,g2,(a2,n2,c2')),p1,by simp only;omega,p3,p4,p5,p6⟩ (by simp only;omega))
     | false=>
      have e3:jD can w d l sum st s=zF can w d (l++[s]) (sum+w l.length*(KB s:Nat)) st:=by unfold jD;rw[if_neg (by rw[hq];decide)]
      rw[e3] at p3;rw[hq] at mQ;have LY:=hw l.length oM;have aEB:0<=w l.length*(KB s:Nat)/\w l.length*(KB s:Nat)<=2970:=aFB LY oM;have wU:=aP.le p1;obtain⟨⟨ff2,hf2⟩,⟨fc2,hc2⟩,⟨fg2,aF7⟩,_,aCe⟩:=wU;obtain h0|⟨wb,wo,fwb,wgs,wgt,wgz,rfl,hwb,aCd⟩:=aCe
      ·omega
      have f2:=aCd l.length oM;rw[<-iK] at f2;have f3:rA .mul .i64 (w g.n) (KB s:Nat)=some (.int .i64 (w l.length*(KB s:Nat))):=by rw[iK];exact RB oM oM
      have f4:rA .add .i64 sum (w l.length*(KB s:Nat))=some (.int .i64 (sum+w l.length*(KB s:Nat))):=LB oM oM;refine ZF ?_;refine .al fun bx=> ?_;refine U7 ?_;refine .cl (fun H hs=> eG (LU H bx true (fun x hx=> hs.at_ x (List.mem_cons_of_mem _ (List.mem_append_right _ hx))) (hs.get (i:=0) rfl)) mQ) ?_;refine U3 ?_;refine Tc.drT [4] [15] [] 4 mixed rfl ?_;refine .ow 0 ?_;refine .oo 1 ?_;refine .oo 2 ?_;refine .ow 5 ?_;refine .ow 6 ?_;refine .ow 7 ?_;refine .ow 8 ?_;refine .ow 9 ?_;refine .ow 10 ?_;refine .ow 11 ?_;refine .ea 3 rfl (.bs (zz:=fun bs=> ⟨S3.mk sL (.inr sL),?_⟩));refine .ea 4 rfl (Or.jY (E:=en) (g:=g2) (m:=1) (new:= [vA s]) (yv:=.slice (some ⟨bs,0,none⟩) 1 1) 5 rfl rfl rfl rfl (by rw[hgv];rfl) rfl rfl rfl rfl rfl rfl rfl rfl rfl rfl (fun H hs=> UA.of (hs.get (i:=0) rfl) (Nat.le_of_ble_eq_true rfl)) rfl oM rfl dE (fun g3 NZ FU hb3 hc3=> ⟨S3.mk sL (.inl kR),?_⟩) (fun g3 NZ FU=> ⟨S3.mk sL (.inl kR),?_⟩))
      ·refine Ta.K7 12 kR rfl rfl rfl dE rfl rfl (xA.tk fun H hs=> dM M H s fJ.1 oM) ?_;refine .ow 13 ?_;refine .ow 14 ?_;refine Ta.lift (L₂:= [(bs,true,.cells ⟨[vA s]⟩ 9 (0,0)),(bx,true,.cells ⟨[vA s]⟩ 9 (0,0))]) (L₁:= [(b8,true,.cells ⟨[.int .i64 st.al]⟩ 25 (0,0)),(b7,true,.cells ⟨[.int .i64 st.total]⟩ 3 (0,0)),(b6,true,.cells ⟨[QM a2 n2 c2']⟩ 107 (0,0))]++g3.bl) rfl (fun Hx hx=> ?_);refine Ta.sB 15 kR rfl kR rfl rfl rfl rfl rfl rfl dE (CB.of (first:= []) (captured:= [_,_,_,_,_,_]) bU rfl (ihd g3 (l++[s]) _ st a2 n2 c2' H₂ Hx (by rw[FU,p4.2.2.2,hg,wF];rfl) (by rw[List.length_append];show l.length+1+d=nw;omega) (by rw[List.length_append];show _/\_<=3000*((l.length+1:Nat):Int);omega) (aP.le p1) p5 p6 hx)) (fun v H₃ hv=> ?_);obtain⟨_,H₄,g4,a4,n4,c4,r1,r2,r3,r4,r5⟩:=hv;refine Ta.expand r2 ?_;unfold V0;refine .dn ?_;refine U5 ?_;obtain⟨g5,s1,s2,s3,s4,s5⟩:=Gl.back (g:=g2) (g':=g4) [vA s] (r3.1.trans hb3) (by rw[r3.2.1,NZ];rfl) (by rw[r3.2.2.1,hc3]) (by rw[r3.2.2.2,FU]);rw[<-s5];exact Tc.db (ih ⟨(H₄,i+1,_,g5,(a4,n4,c4)),View.le_trans p1 r1,by simp only;omega,p3,⟨s1.trans p4.1,s2.trans p4.2.1,s3.trans p4.2.2.1,s4.trans p4.2.2.2⟩,r4,r5⟩ (by simp only;omega))
      ·refine Ta.IN (L₁:=([(bs,true,.cells ⟨[vA s]⟩ 9 (0,0)),(bx,true,.cells ⟨[vA s]⟩ 9 (0,0))]++g2.bl)++([(b8,true,.cells ⟨[.int .i64 st.al]⟩ 25 (0,0)),(b7,true,.cells ⟨[.int .i64 st.total]⟩ 3 (0,0)),(b6,true,.cells ⟨[QM a2 n2 c2']⟩ 107 (0,0))]++g3.bl)) ?_ ?_
       ·simp only[List.cons_append,List.nil_append];refine .cons _ (.cons _ ?_);exact P6 g2.bl _ _ _ g3.bl
       ·refine Ta.K7 12 kR rfl rfl rfl dE rfl rfl (xA.tk fun H hs=> dM M H s fJ.1 oM) ?_;refine .ow 13 ?_;refine .ow 14 ?_;refine Ta.lift (L₂:= [(bs,true,.cells ⟨[vA s]⟩ 9 (0,0)),(bx,true,.cells ⟨[vA s]⟩ 9 (0,0))]++g2.bl) (L₁:= [(b8,true,.cells ⟨[.int .i64 st.al]⟩ 25 (0,0)),(b7,true,.cells ⟨[.int .i64 st.total]⟩ 3 (0,0)),(b6,true,.cells ⟨[QM a2 n2 c2']⟩ 107 (0,0))]++g3.bl) rfl (fun Hx hx=> ?_);refine Ta.sB 15 kR rfl kR rfl rfl rfl rfl rfl rfl dE (CB.of (first:= []) (captured:= [_,_,_,_,_,_]) bU rfl (ihd g3 (l++[s]) _ st a2 n2 c2' H₂ Hx (by rw[FU,p4.2.2.2,hg,wF];rfl) (by rw[List.length_append];show l.length+1+d=nw;omega) (by rw[List.length_append];show _/\_<=3000*((l.length+1:Nat):Int);omega) (aP.le p1) p5 p6 hx)) (fun v H₃ hv=> ?_);obtain⟨_,H₄,g4,a4,n4,c4,r1,r2,r3,r4,r5⟩:=hv;refine Ta.expand r2 ?_;unfold V0;refine .dn ?_;refine U5 ?_;have pE:=ih ⟨(H₄,i+1,_,g2,(a4,n4,c4)),View.le_trans p1 r1,by simp only;omega,p3,p4,r4,r5⟩ (by simp only;omega);refine Tc.IN (aBn _ _ g2.bl _ _ _ g4.bl) ?_;exact Tc.db pE
end
end Go.Proofs.YtldmfjcgjdchcaaGreatDoor
namespace Go.Proofs.YtldmfjcgjdchcaaGreatDoor
open Go.RL Go.Proofs.Tryz
set_option maxRecDepth 10000
theorem nR(a b:UInt8)(x y:List UInt8):Op.bytesLess (a::x) (b::y)=(decide (a<b)||(a==b&&Op.bytesLess x y)):=rfl
theorem UU(s:List UInt8):Op.bytesLess s []=false:=by cases s <;> rfl
theorem aFw {a b:UInt8}:a<b<->a.toNat<b.toNat:=UInt8.lt_iff_toNat_lt
theorem rF:∀ {a b c:List UInt8},Op.bytesLess a b=true->Op.bytesLess b c=true->Op.bytesLess a c=true
 | _,[],_,h,_=> by rw[UU] at h;cases h
 | _,_::_,[],_,h=> by rw[UU] at h;cases h
 | [],_::_,_::_,_,_=> rfl
 | p ::a,q::b,r::c,h,k=> by
  rw[nR] at h k ⊢;simp only[Bool.or_eq_true,Bool.and_eq_true,decide_eq_true_eq,beq_iff_eq] at h k ⊢;rcases h with h|⟨rfl,h⟩
  ·rcases k with k|⟨rfl,_⟩
   ·exact .inl (UInt8.lt_trans h k)
   ·exact .inl h
  ·rcases k with k|⟨rfl,k⟩
   ·exact .inl k
   ·exact .inr ⟨rfl,rF h k⟩
theorem KH:∀ {a b:List UInt8},Op.bytesLess a b=false->Op.bytesLess b a=false->a=b
 | [],[],_,_=> rfl
 | [],_::_,h,_=> by cases h
 | _::_,[],_,h=> by cases h
 | p ::a,q::b,h,k=> by
  rw[nR] at h k;simp only[Bool.or_eq_false_iff,decide_eq_false_iff_not,Bool.and_eq_false_iff,beq_eq_false_iff_ne] at h k;have e:p=q:=by
   have h1:=h.1;have k1:=k.1;rw[aFw] at h1 k1;exact UInt8.toNat_inj.1 oM
  subst e;have h2:=h.2.resolve_left (fun h=> h rfl);have k2:=k.2.resolve_left (fun h=> h rfl);rw[KH h2 k2]
theorem NM {a b:List UInt8}(h:Op.bytesLess a b=true):Op.bytesLess b a=false:=by
 cases k:Op.bytesLess b a with
 | false=> rfl
 | true=>
  have:=rF h k;rw[JH] at this;cases this
def DG(S:List (List UInt8))(s:List UInt8):Nat:=S.countP fun t=> Op.bytesLess t s
theorem WY {a b:List UInt8}(h:Op.bytesLess a b=true):∀S:List (List UInt8),DG S a<=DG S b
 | []=> Nat.le_refl _
 | t ::S=> by
  have:=WY h S;unfold DG at this ⊢;rw[List.countP_cons,List.countP_cons];by_cases k:Op.bytesLess t a=true
  ·rw[if_pos k,if_pos (rF k h)];omega
  ·rw[if_neg k];split <;> omega
theorem SL {a b:List UInt8}(h:Op.bytesLess a b=true):∀S:List (List UInt8),a∈S->DG S a<DG S b
 | t ::S,hm=> by
  have hle:=WY h S;rcases List.mem_cons.1 hm with rfl|hm
  ·unfold DG at hle ⊢;rw[List.countP_cons,List.countP_cons,if_neg (by rw[JH];decide),if_pos h];omega
  ·have:=SL h S hm;unfold DG at this ⊢;rw[List.countP_cons,List.countP_cons];by_cases k:Op.bytesLess t a=true
   ·rw[if_pos k,if_pos (rF k h)];omega
   ·rw[if_neg k];split <;> omega
def mL(S:List (List UInt8))(z:Int):List UInt8:=(S.find? fun s=> decide ((DG S s:Int)=z)).getD []
theorem UI {S:List (List UInt8)}{s:List UInt8}(h:s∈S):mL S (DG S s:Nat)=s:=by
 unfold mL;cases hf:S.find? (fun t=> decide ((DG S t:Int)=(DG S s:Nat))) with
 | none=>
  have:=List.find?_eq_none.1 hf s h;simp at this
 | some t=>
  have h1:=List.mem_of_find?_eq_some hf;have h2:=List.find?_some hf;simp only[decide_eq_true_eq,Int.natCast_inj] at h2;show t=s;cases k:Op.bytesLess t s with
  | true=> have:=SL k S h1;omega
  | false=>
   cases k2:Op.bytesLess s t with
   | true=> have:=SL k2 S h;omega
   | false=> exact KH k k2
def NF(S:List (List UInt8)):List Int:=S.map fun s=> ((DG S s:Nat):Int)
theorem RQ(S:List (List UInt8)):(NF S).map (mL S)=S:=by
 unfold NF;rw[List.map_map];have:∀s∈S,(mL S∘fun s=> ((DG S s:Nat):Int)) s=s:=fun s hs=> UI hs;rw[List.map_congr_left this,List.map_id']
theorem AH(S:List (List UInt8)):SN (mL S) (NF S):=by
 intro x hx y hy;obtain⟨s,hs,rfl⟩:=List.mem_map.1 hx;obtain⟨t,ht,rfl⟩:=List.mem_map.1 hy;rw[UI hs,UI ht];cases k:Op.bytesLess s t with
 | true=> exact(decide_eq_true (by have:=SL k S hs;omega)).symm
 | false=>
  refine(decide_eq_false ?_).symm;intro NB;cases k2:Op.bytesLess t s with
  | true=> have:=SL k2 S ht;omega
  | false=>
   have:=KH k k2;subst this;omega
def yT(a b:List UInt8):Bool:=!Op.bytesLess b a
def UZ(x:List UInt8):List (List UInt8)->List (List UInt8)
 | []=> [x]
 | y::t=> if yT x y then x::y::t else y::UZ x t
def WL:List (List UInt8)->List (List UInt8)
 | []=> []
 | x::t=> UZ x (WL t)
theorem KM(x:List UInt8):∀l,(UZ x l).Perm (x::l)
 | []=> .refl _
 | y::t=> by
  unfold UZ;split
  ·exact .refl _
  ·exact(List.Perm.cons y (KM x t)).trans (.swap ..)
theorem eI:∀l,(WL l).Perm l
 | []=> .refl _
 | x::t=> (KM x _).trans (.cons x (eI t))
theorem XZ {a b c:List UInt8}(h:yT a b=true)(k:yT b c=true):yT a c=true:=by
 unfold yT at *;simp only[Bool.not_eq_true'] at *;cases e:Op.bytesLess c a with
 | false=> rfl
 | true=>
  cases e2:Op.bytesLess b c with
  | true=> rw[rF e2 e] at h;cases h
  | false=>
   have:=KH e2 k;subst this;rw[e] at h;cases h
theorem WZ {a b:List UInt8}(h:yT a b=false):yT b a=true:=by
 unfold yT at *;simp only[Bool.not_eq_true',Bool.not_eq_false'] at *;exact NM h
theorem BN(x:List UInt8):∀l:List (List UInt8),l.Pairwise (fun a b=> yT a b=true)->(UZ x l).Pairwise (fun a b=> yT a b=true)
 | [],_=> List.pairwise_singleton _ _
 | y ::t,h=> by
  obtain⟨h1,h2⟩:=List.pairwise_cons.1 h;unfold UZ;split
  ·rename_i hx
   refine List.pairwise_cons.2 ⟨fun z hz=> ?_,h⟩;rcases List.mem_cons.1 hz with rfl|hz
   ·exact hx
   ·exact XZ hx (h1 z hz)
  ·rename_i hx
   refine List.pairwise_cons.2 ⟨fun z hz=> ?_,BN x t h2⟩;rcases List.mem_cons.1 ((KM x t).mem_iff.1 hz) with rfl|hz
   ·exact WZ (by simpa using hx)
   ·exact h1 z hz
theorem XL:∀l:List (List UInt8),(WL l).Pairwise (fun a b=> yT a b=true)
 | []=> List.Pairwise.nil
 | x::t=> BN x _ (XL t)
theorem KN {l m:List (List UInt8)}(h:l.Perm m)(hl:l.Pairwise (fun a b=> yT a b=true))(hm:m.Pairwise (fun a b=> yT a b=true)):l=m:=
 List.Perm.eq_of_pairwise (le:=fun a b=> yT a b=true) (fun a b _ _ h1 h2=> by
  unfold yT at h1 h2;simp only[Bool.not_eq_true'] at h1 h2;exact KH h2 h1) hl hm h
theorem cS {S:List (List UInt8)}{m:List Int}{n:Nat}(hn:n=S.length)(ht:iA 0 n (NF S) m)(hs:TC 0 n m):m.map (mL S)=WL S:=by
 have hpm:m.Perm (NF S):=List.perm_iff_count.2 ht.cnt;have hp:(m.map (mL S)).Perm S:=by
  have:=hpm.map (mL S)
  rwa [RQ] at this
 refine KN (hp.trans (eI S).symm) ?_ (XL S);rw[List.pairwise_map,List.pairwise_iff_getElem];intro i j hi hj aO;have HM:m.length=n:=by rw[ht.len,hn];simp[NF]
 have h1:=hs i j (Nat.zero_le _) aO oM;unfold nA at h1;rw[List.getElem?_eq_getElem hi,List.getElem?_eq_getElem hj] at h1;simp only[Option.getD_some] at h1;have h2:=(AH S).zD ht m[j] (List.getElem_mem hj) m[i] (List.getElem_mem hi);unfold yT;rw[h2,decide_eq_false oM];rfl
theorem LN(S:List (List UInt8)):tA (mL S) (NF S)=S.map vA:=by
 have:=congrArg (List.map vA) (RQ S);rw[List.map_map] at this;exact this
theorem xR(dec:Int->List UInt8)(m:List Int):tA dec m=(m.map dec).map vA:=by
 rw[List.map_map];rfl
theorem pD {P:Program}{M:Md P}{St:View->Goroutine->Prop}{n:Nat}{b:FB}{H₀:View}{cs:List Frame}{R:Rg}{L:Bl}{ds:List Deferred}{k:List Item}{id:Nat}{x:Code}(F:Rg->Bl->Prop)(hF:∀R L,F R L->Tc M St n b H₀ cs R L ds k)
 (h:(∀R L,F R L->Tc M St n b H₀ cs R L ds k)->Tc M St n b H₀ cs R L ds (.code x:: .inBlock id::k)):Tc M St n b H₀ cs R L ds (.code (.block id x)::k):=.block (h hF)
def XB(a b:Nat)(u:List Int):Prop:=a=0\/∀i,a<=i->i<b->nA u (a-1)<=nA u i
theorem y7 {a i p q:Nat}{w:List Int}(hp:i<=p/\p<w.length)(hq:i<=q/\q<w.length)(h:TC a i w):TC a i (MA w p q):=fun x y h1 h2 h3=> by
 rw[xB hp.2 hq.2,xB hp.2 hq.2,if_neg oM,if_neg oM,if_neg oM,if_neg oM];exact h x y h1 h2 h3
theorem w7 {a i:Nat}{u:List Int}(h:TC a i u)(hi:a<i)(hle:¬nA u i<nA u (i-1)):TC a (i+1) u:=fun p q h1 h2 h3=> by
 by_cases e:q=i
 ·subst e;by_cases e2:p=q-1
  ·rw[e2];omega
  ·have:=h p (q-1) h1 oM oM;omega
 ·exact h p q h1 h2 oM
theorem KD {l:List Int}{i:Nat}(h:i<l.length):l[i]? =some (nA l i):=by
 unfold nA;rw[List.getElem?_eq_getElem h];rfl
theorem iA.get {a b:Nat}{l m:List Int}(h:iA a b l m){i:Nat}(hi:i<a\/b<=i):m[i]? =l[i]? :=by
 by_cases c:i<l.length
 ·rw[KD c,KD (by rw[h.len];exact c),h.out i hi]
 ·have hl:=h.len;rw[List.getElem?_eq_none oM,List.getElem?_eq_none oM]
theorem parts_eq(l:List Int){a b:Nat}(pI:a<=b):l=l.take a++((l.drop a).take (b-a)++l.drop b):=by
 have h1:l.drop b=(l.drop a).drop (b-a):=by rw[List.drop_drop];congr 1;omega
 rw[h1,List.take_append_drop,List.take_append_drop]
theorem iA.FE {a b:Nat}{l m:List Int}(h:iA a b l m)(pI:a<=b)(x:Int):((m.drop a).take (b-a)).count x=((l.drop a).take (b-a)).count x:=by
 have e1:m.take a=l.take a:=by
  apply List.ext_getElem?
  intro i;by_cases c:i<a
  ·rw[List.getElem?_take_of_lt c,List.getElem?_take_of_lt c];exact h.get (.inl c)
  ·rw[List.getElem?_eq_none (by rw[List.length_take];omega),List.getElem?_eq_none (by rw[List.length_take];omega)]
 have e2:m.drop b=l.drop b:=by
  apply List.ext_getElem?
  intro i;rw[List.getElem?_drop,List.getElem?_drop];exact h.get (.inr oM)
 have h1:=h.cnt x;have h2:=congrArg (List.count x) (parts_eq m pI);have h3:=congrArg (List.count x) (parts_eq l pI);simp only[List.count_append] at h2 h3;rw[e1,e2] at h2;omega
theorem iA.all {a b:Nat}{l m:List Int}(h:iA a b l m)(hb:b<=l.length){P:Int->Prop}(hP:∀p,a<=p->p<b->P (nA l p)):∀p,a<=p->p<b->P (nA m p):=fun p h1 h2=> by
 have g1:nA m p∈(m.drop a).take (b-a):=by
  rw[List.mem_iff_getElem?];refine⟨p-a,?_⟩;rw[List.getElem?_take_of_lt oM,List.getElem?_drop,show a+(p-a)=p by omega];exact KD (by rw[h.len];omega)
 have g2:nA m p∈(l.drop a).take (b-a):=by
  rw[<-List.count_pos_iff,<-h.FE oM];exact List.count_pos_iff.2 g1
 obtain⟨i,hi⟩:=List.mem_iff_getElem?.1 g2;have NB:i<b-a:=by
  have:=(List.getElem?_eq_some_iff.1 hi).1;rw[List.length_take] at this;omega
 rw[List.getElem?_take_of_lt NB,List.getElem?_drop,KD oM] at hi;have:=Option.some.inj hi;rw[<-this];exact hP (a+i) oM oM
theorem XB.bF {a b:Nat}{u w:List Int}(h:XB a b u)(k:iA a b u w)(hb:b<=u.length):XB a b w:=by
 rcases h with h|h
 ·exact .inl h
 ·by_cases h0:a=0
  ·exact .inl h0
  ·refine .inr fun i h1 h2=> ?_;rw[k.out (a-1) (.inl oM)];exact k.all hb (P:=fun x=> nA u (a-1)<=x) h i h1 h2
def fH(f lo hi:Nat)(l:List Int):Prop:=∀k c,lo<=k->(c=2*k+1\/c=2*k+2)->c<hi->nA l (f+c)<=nA l (f+k)
def pC(f lo hi r:Nat)(l:List Int):Prop:=
 (∀k c,lo<=k->k≠r->(c=2*k+1\/c=2*k+2)->c<hi->nA l (f+c)<=nA l (f+k))/\
 (∀k c,lo<=k->(r=2*k+1\/r=2*k+2)->(c=2*r+1\/c=2*r+2)->c<hi->nA l (f+c)<=nA l (f+k))
theorem fH.top {f hi:Nat}{l:List Int}(h:fH f 0 hi l):∀k,k<hi->nA l (f+k)<=nA l f:=by
 intro k;induction k using Nat.strongRecOn with
 | ind k ih=>
  intro hk;by_cases h0:k=0
  ·subst h0;exact Int.le_refl _
  ·have h1:=h ((k-1)/2) k (Nat.zero_le _) oM hk;have h2:=ih ((k-1)/2) oM oM;omega
theorem pC.fin {f lo hi r:Nat}{l:List Int}(h:pC f lo hi r l)(hr:∀c,(c=2*r+1\/c=2*r+2)->c<hi->nA l (f+c)<=nA l (f+r)):fH f lo hi l:=fun k c h1 h2 h3=> by
 by_cases e:k=r
 ·subst e;exact hr c h2 h3
 ·exact h.1 k c h1 e h2 h3
theorem pC.step {f lo hi r c:Nat}{l:List Int}(h:pC f lo hi r l)(hl:f+hi<=l.length)(hlr:lo<=r)(hc:c=2*r+1\/c=2*r+2)(KZ:c<hi)(NB:nA l (f+r)<nA l (f+c))
  (PF:∀d,(d=2*r+1\/d=2*r+2)->d<hi->nA l (f+d)<=nA l (f+c)):pC f lo hi c (MA l (f+r) (f+c)):=by
 have hs:=fun q=> xB (l:=l) (p:=f+r) (q:=f+c) oM oM q;refine⟨fun k d h1 h2 h3 h4=> ?_,fun k d h1 h2 h3 h4=> ?_⟩
 ·rw[hs,hs,if_neg (show ¬f+k=f+c by omega)];by_cases e:k=r
  ·subst e;rw[if_pos rfl];by_cases e2:d=c
   ·subst e2;rw[if_pos rfl];omega
   ·rw[if_neg oM,if_neg oM];exact PF d h3 h4
  ·rw[if_neg (show ¬f+k=f+r by omega)];by_cases e2:d=c
   ·omega
   ·rw[if_neg oM];by_cases e3:d=r
    ·subst e3;rw[if_pos rfl];exact h.2 k c h1 h3 hc KZ
    ·rw[if_neg oM];exact h.1 k d h1 e h3 h4
 ·have e:k=r:=by omega
  subst e;rw[hs,hs,if_neg oM,if_neg oM,if_neg oM,if_pos rfl];exact h.1 c d oM oM h3 h4
structure pG(a b i j:Nat)(u:List Int):Prop where
 ai:a+1<=i
 ij:i<=j+1
 jb:j<b
 aj:a<=j
 lo:∀k,a<k->k<i->nA u k<nA u a
 hi:∀k,j<k->k<b->nA u a<=nA u k
theorem pG.start {a b:Nat}{u:List Int}(h:a<b):pG a b (a+1) (b-1) u:=⟨Nat.le_refl _,oM,oM,oM,fun k h1 h2=> by omega,fun k h1 h2=> by omega⟩
theorem pG.up {a b i j:Nat}{u:List Int}(h:pG a b i j u)(aO:i<=j)(NB:nA u i<nA u a):pG a b (i+1) j u:=
 ⟨by have:=h.ai;omega,oM,h.jb,h.aj,fun k h1 h2=> by
  by_cases e:k=i
  ·rw[e];exact NB
  ·exact h.lo k h1 oM,h.hi⟩
theorem pG.down {a b i j:Nat}{u:List Int}(h:pG a b i j u)(aO:i<=j)(YV:¬nA u j<nA u a):pG a b i (j-1) u:=
 ⟨h.ai,oM,by have:=h.jb;omega,by have:=h.ai;omega,h.lo,fun k h1 h2=> by
  by_cases e:k=j
  ·rw[e];omega
  ·exact h.hi k oM h2⟩
theorem pG.swap {a b i j:Nat}{u:List Int}(h:pG a b i j u)(hl:b<=u.length)(aO:i<=j)(h1:¬nA u i<nA u a)(h2:nA u j<nA u a):i<j/\pG a b (i+1) (j-1) (MA u i j):=by
 have ha:=h.ai;have hb:=h.jb;have uB:i≠j:=by
  rintro rfl;omega
 have hs:=fun q=> xB (l:=u) (p:=i) (q:=j) oM oM q;have h0:nA (MA u i j) a=nA u a:=by rw[hs,if_neg oM,if_neg oM]
 refine⟨oM,⟨oM,oM,oM,oM,fun k h3 h4=> ?_,fun k h3 h4=> ?_⟩⟩
 ·rw[h0,hs,if_neg oM];by_cases e:k=i
  ·rw[if_pos e];exact h2
  ·rw[if_neg e];exact h.lo k h3 oM
 ·rw[h0,hs];by_cases e:k=j
  ·rw[if_pos e];omega
  ·rw[if_neg e,if_neg oM];exact h.hi k oM h4
structure Part(a b j:Nat)(u:List Int):Prop where
 aj:a<=j
 jb:j<b
 lo:∀k,a<=k->k<j->nA u k<nA u j
 hi:∀k,j<k->k<b->nA u j<=nA u k
theorem pG.fin {a b i j:Nat}{u:List Int}(h:pG a b i j u)(hl:b<=u.length)(aO:j<i):Part a b j (MA u j a):=by
 have ha:=h.ai;have hb:=h.jb;have hj:=h.aj;have hi:=h.ij;have hs:=fun q=> xB (l:=u) (p:=j) (q:=a) oM oM q;have h0:nA (MA u j a) j=nA u a:=by
  rw[hs];by_cases e:j=a
  ·rw[if_pos e,e]
  ·rw[if_neg e,if_pos rfl]
 refine⟨hj,hb,fun k h3 h4=> ?_,fun k h3 h4=> ?_⟩
 ·rw[h0,hs];by_cases e:k=a
  ·rw[if_pos e];exact h.lo j oM oM
  ·rw[if_neg e,if_neg oM];exact h.lo k oM oM
 ·rw[h0,hs,if_neg oM,if_neg oM];exact h.hi k h3 h4
theorem Part.sorted {a b j:Nat}{u m w:List Int}(h:Part a b j u)(hl:b<=u.length)(h1:iA a j u m)(s1:TC a j m)(h2:iA (j+1) b m w)(s2:TC (j+1) b w):iA a b u w/\TC a b w:=by
 have hj:=h.aj;have hb:=h.jb;have HM:=h1.len;refine⟨(h1.wide (Nat.le_refl _) oM).trans (h2.wide oM (Nat.le_refl _)),fun p q g1 g2 g3=> ?_⟩;have ej:nA w j=nA u j:=by rw[h2.out j (.inl oM),h1.out j (.inr (Nat.le_refl _))]
 have lo:∀k,a<=k->k<j->nA w k<=nA u j:=fun k c1 c2=> by
  rw[h2.out k (.inl oM)];exact h1.all oM (P:=fun x=> x<=nA u j) (fun k c3 c4=> Int.le_of_lt (h.lo k c3 c4)) k c1 c2
 have hi:∀k,j<k->k<b->nA u j<=nA w k:=fun k c1 c2=>
  h2.all oM (P:=fun x=> nA u j<=x) (fun k c3 c4=> by rw[h1.out k (.inr oM)];exact h.hi k oM c4) k oM c2
 by_cases c1:q<j
 ·rw[h2.out p (.inl oM),h2.out q (.inl oM)];exact s1 p q g1 g2 c1
 ·by_cases c2:q=j
  ·rw[c2,ej];exact lo p g1 oM
  ·by_cases c3:p<j
   ·exact Int.le_trans (lo p g1 c3) (hi q oM g3)
   ·by_cases c4:p=j
    ·rw[c4,ej];exact hi q oM g3
    ·exact s2 p q oM g2 g3
theorem Part.aT {a b j:Nat}{u m w:List Int}(h:Part a b j u)(hl:b<=u.length)(h1:iA (j+1) b u m)(s1:TC (j+1) b m)(h2:iA a j m w)(s2:TC a j w):iA a b u w/\TC a b w:=by
 have hj:=h.aj;have hb:=h.jb;have HM:=h1.len;refine⟨(h1.wide oM (Nat.le_refl _)).trans (h2.wide (Nat.le_refl _) oM),fun p q g1 g2 g3=> ?_⟩;have ej:nA w j=nA u j:=by rw[h2.out j (.inr (Nat.le_refl _)),h1.out j (.inl oM)]
 have lo:∀k,a<=k->k<j->nA w k<=nA u j:=fun k c1 c2=>
  h2.all oM (P:=fun x=> x<=nA u j) (fun k c3 c4=> by rw[h1.out k (.inl oM)];exact Int.le_of_lt (h.lo k c3 c4)) k c1 c2
 have hi:∀k,j<k->k<b->nA u j<=nA w k:=fun k c1 c2=> by
  rw[h2.out k (.inr oM)];exact h1.all oM (P:=fun x=> nA u j<=x) (fun k c3 c4=> h.hi k oM c4) k oM c2
 by_cases c1:q<j
 ·exact s2 p q g1 g2 c1
 ·by_cases c2:q=j
  ·rw[c2,ej];exact lo p g1 oM
  ·by_cases c3:p<j
   ·exact Int.le_trans (lo p g1 c3) (hi q oM g3)
   ·by_cases c4:p=j
    ·rw[c4,ej];exact hi q oM g3
    ·rw[h2.out p (.inr oM),h2.out q (.inr oM)];exact s1 p q oM g2 g3
set_option maxHeartbeats 8000000
section
variable(M:Md prog)(H:View)
theorem KX(dec:Int->List UInt8)(sb:Nat)(l:List Int)(jj:List Value)(n cap a b:Nat)(hn:n=l.length)(hb:b<=n)(fD:n<=100000000)(ha:a<b)(hS:H sb=some (true,.cells ⟨(tA dec l)++jj⟩ 9 (0,0))):
  aA M 260 #[.slice (some ⟨sb,0,none⟩) n cap,.int .i64 (a:Nat),.int .i64 (b:Nat)] H (pB dec H sb jj (fun v m=> v=.tuple ⟨[]⟩/\iA a b l m)):=by
 refine aA.enter (vs:= [.slice (some ⟨sb,0,none⟩) n cap,.int .i64 (a:Nat),.int .i64 (b:Nat)]) func260 rfl ntmps260 (Nat.le_of_ble_eq_true rfl) (kA.pull hS) fun St c cs hK=> ?_;have JZ:((b:Nat):Int)-1=((b-1:Nat):Int):=by omega
 refine YD ?_;rw[JZ];refine U ?_;refine Tc.db (Tc.sA (σ:= { s:Nat×Nat×List Int//a<=s.1/\s.1<=b/\a<=s.2.1/\s.2.1<b/\iA a b l s.2.2 }) (fun s=> ([(0,.slice (some ⟨sb,0,none⟩) n cap),(6,.int .i64 (s.1.1:Nat)),(7,.int .i64 (s.1.2.1:Nat))],[(sb,true,.cells ⟨(tA dec s.1.2.2)++jj⟩ 9 (0,0))])) (fun s=> s.1.2.1) ?_
  ⟨(a,b-1,l),by simp,by simp only;omega,by simp only;omega,by simp only;omega,iA.refl ..⟩)
 rintro⟨⟨i,j,u⟩,g1,g2,g3,g4,g5⟩ ih;simp only at g1 g2 g3 g4 g5;show Tc M St _ _ _ _ [(0,.slice (some ⟨sb,0,none⟩) n cap),(6,.int .i64 (i:Nat)),(7,.int .i64 (j:Nat))] [(sb,true,.cells ⟨(tA dec u)++jj⟩ 9 (0,0))] _ _;have yI:=g5.len;by_cases c1:i<j
 ·have e1:((j:Nat):Int)-1=((j-1:Nat):Int):=by omega
  have k1:=yA (dec:=dec) (m:=u) (j:=jj) (k:=(i:Nat)) (p:=i) rfl oM;have k2:=yA (dec:=dec) (m:=u) (j:=jj) (k:=(j:Nat)) (p:=j) rfl oM;have s1:=JA (dec:=dec) (m:=u) (j:=jj) (k:=(i:Nat)) (x:=nA u j) (p:=i) rfl oM;have s2:=JA (dec:=dec) (m:=u.set i (nA u j)) (j:=jj) (k:=(j:Nat)) (x:=nA u i) (p:=j) rfl (by rw[List.length_set];omega);have l1:=IA (dec:=dec) (m:=u) (j:=jj) (k:=(i:Nat)) (p:=i) rfl oM;have l2:=IA (dec:=dec) (m:=u.set i (nA u j)) (j:=jj) (k:=(j:Nat)) (p:=j) rfl (by rw[List.length_set];omega);refine YD ?_;refine Tc.dr [13,15] [0] mixed rfl ?_;refine V2 0 ?_;refine .nw 2 ?_;refine .nw 3 ?_;refine V4 4 ?_;refine .nw 8 ?_;refine .nw 9 ?_;refine .nw 10 ?_;refine V2 11 ?_;refine .e 13 0 ?_;refine .nw 14 ?_;refine .e 15 0 ?_;refine .dn ?_;refine YD ?_;rw[e1];refine U ?_;exact Tc.db (ih ⟨(i+1,j-1,MA u i j),by simp only;omega,by simp only;omega,by simp only;omega,by simp only;omega,g5.trans (iA.swap oM oM oM oM)⟩ (by simp only;omega))
 ·refine U9 ?_;refine .ov hK func260 results260 [] ?_;exact fun H' hs=> pB.of (dec:=dec) hs (i:=0) rfl ⟨rfl,g5⟩
end
section
variable(M:Md prog)(H:View)
theorem JN(dec:Int->List UInt8)(sb:Nat)(l:List Int)(jj:List Value)(n cap lo hi f:Nat)(hn:n=l.length)(hE:SN dec l)(hf:f+hi<=n)(fD:n<=100000000)(GM:lo<=hi)(hH:pC f lo hi lo l)(hS:H sb=some (true,.cells ⟨(tA dec l)++jj⟩ 9 (0,0))):
  aA M 301 #[.slice (some ⟨sb,0,none⟩) n cap,.int .i64 (lo:Nat),.int .i64 (hi:Nat),.int .i64 (f:Nat)] H (pB dec H sb jj (fun v m=> v=.tuple ⟨[]⟩/\iA f (f+hi) l m/\fH f lo hi m)):=by
 refine aA.enter (vs:= [.slice (some ⟨sb,0,none⟩) n cap,.int .i64 (lo:Nat),.int .i64 (hi:Nat),.int .i64 (f:Nat)]) func301 rfl ntmps301 (Nat.le_of_ble_eq_true rfl) (kA.pull hS) fun St c cs hK=> ?_;refine U6 ?_;refine Tc.db (Tc.sA (σ:= { s:Nat×List Int//lo<=s.1/\s.1<=hi/\iA f (f+hi) l s.2/\pC f lo hi s.1 s.2 }) (fun s=> ([(0,.slice (some ⟨sb,0,none⟩) n cap),(2,.int .i64 (hi:Nat)),(3,.int .i64 (f:Nat)),(8,.int .i64 (s.1.1:Nat))],[(sb,true,.cells ⟨(tA dec s.1.2)++jj⟩ 9 (0,0))])) (fun s=> hi-s.1.1) ?_
  ⟨(lo,l),Nat.le_refl _,GM,iA.refl ..,hH⟩)
 rintro⟨⟨r,u⟩,g1,g2,g3,g4⟩ ih;simp only at g1 g2 g3 g4;have yI:=g3.len;have PJ:=hE.zD g3;have e1:2*((r:Nat):Int)+1=((2*r+1:Nat):Int):=by omega
 have e2:((2*r+1:Nat):Int)+1=((2*r+2:Nat):Int):=by omega
 show Tc M St _ _ _ _ [(0,.slice (some ⟨sb,0,none⟩) n cap),(2,.int .i64 (hi:Nat)),(3,.int .i64 (f:Nat)),(8,.int .i64 (r:Nat))] [(sb,true,.cells ⟨(tA dec u)++jj⟩ 9 (0,0))] _ _;refine U4 ?_;refine .i ?_ (z:=RB oM oM);refine U3 ?_;rw[e1];by_cases c0:2*r+1<hi
 ·by_cases d1:2*r+2<hi
  ·have k1:=yA (dec:=dec) (m:=u) (j:=jj) (k:=(f:Nat)+((2*r+1:Nat):Int)) (p:=f+(2*r+1)) oM oM;have k2:=yA (dec:=dec) (m:=u) (j:=jj) (k:=(f:Nat)+((2*r+1:Nat):Int)+1) (p:=f+(2*r+2)) oM oM;by_cases d2:nA u (f+(2*r+1))<nA u (f+(2*r+2))
   ·have PF:∀d,(d=2*r+1\/d=2*r+2)->d<hi->nA u (f+d)<=nA u (f+(2*r+2)):=by rintro d (rfl|rfl) _ <;> omega
    refine YD ?_;refine Tc.dr [] [] mixed rfl ?_;refine V18 0 ?_;refine .z 18 rfl (xA.tk fun H hs=> nC M H PJ (zA oM) (zA oM) true (decide_eq_true d2)) ?_;refine .nn 19 ?_;refine .dn ?_;refine U6 ?_;rw[e2];refine U2 ?_;have XW:2*r+2<hi:=by omega
    have k3:=yA (dec:=dec) (m:=u) (j:=jj) (k:=(f:Nat)+(r:Nat)) (p:=f+r) oM oM;have k4:=yA (dec:=dec) (m:=u) (j:=jj) (k:=(f:Nat)+((2*r+2:Nat):Int)) (p:=f+(2*r+2)) oM oM;by_cases d3:nA u (f+r)<nA u (f+(2*r+2))
    ·have s1:=JA (dec:=dec) (m:=u) (j:=jj) (k:=(f:Nat)+(r:Nat)) (x:=nA u (f+(2*r+2))) (p:=f+r) oM oM;have s2:=JA (dec:=dec) (m:=u.set (f+r) (nA u (f+(2*r+2)))) (j:=jj) (k:=(f:Nat)+((2*r+2:Nat):Int)) (x:=nA u (f+r)) (p:=f+(2*r+2)) oM (by rw[List.length_set];omega);have l1:=IA (dec:=dec) (m:=u) (j:=jj) (k:=(f:Nat)+(r:Nat)) (p:=f+r) oM oM;have l2:=IA (dec:=dec) (m:=u.set (f+r) (nA u (f+(2*r+2)))) (j:=jj) (k:=(f:Nat)+((2*r+2:Nat):Int)) (p:=f+(2*r+2)) oM (by rw[List.length_set];omega);refine Tc.dr [] [] mixed rfl ?_;refine vI 0 ?_;refine .z 12 rfl (xA.tk fun H hs=> nC M H PJ (zA oM) (zA oM) true (decide_eq_true d3)) ?_;refine .nn 13 ?_;refine .dn ?_;refine U3 ?_;refine Tc.dr [21,23] [0] mixed rfl ?_;refine V4 0 ?_;refine .nw 4 ?_;refine .nw 5 ?_;refine .nw 6 ?_;refine .nw 7 ?_;refine V6 8 ?_;refine .nw 14 ?_;refine .nw 15 ?_;refine .nw 16 ?_;refine .nw 17 ?_;refine .nw 18 ?_;refine V2 19 ?_;refine .e 21 0 ?_;refine .nw 22 ?_;refine .e 23 0 ?_;refine .dn ?_;refine U5 ?_;exact Tc.db (ih ⟨(2*r+2,MA u (f+r) (f+(2*r+2))),by simp only;omega,by simp only;omega,g3.trans (iA.swap oM oM oM oM),g4.step oM g1 oM XW d3 PF⟩ (by simp only;omega))
    ·refine Tc.dr [] [] mixed rfl ?_;refine vI 0 ?_;refine .z 12 rfl (xA.tk fun H hs=> nC M H PJ (zA oM) (zA oM) false (decide_eq_false d3)) ?_;refine .nn 13 ?_;refine .dn ?_;refine U ?_;refine .rt hK func301 results301 [] ?_;exact fun H' hs=> pB.of (dec:=dec) hs (i:=0) rfl ⟨rfl,g3,g4.fin (fun d h1 h2=> by have:=PF d h1 h2;omega)⟩
   ·have PF:∀d,(d=2*r+1\/d=2*r+2)->d<hi->nA u (f+d)<=nA u (f+(2*r+1)):=by rintro d (rfl|rfl) _ <;> omega
    refine YD ?_;refine Tc.dr [] [] mixed rfl ?_;refine V18 0 ?_;refine .z 18 rfl (xA.tk fun H hs=> nC M H PJ (zA oM) (zA oM) false (decide_eq_false d2)) ?_;refine .nn 19 ?_;refine .dn ?_;refine U4 ?_;have XW:2*r+1<hi:=by omega
    have k3:=yA (dec:=dec) (m:=u) (j:=jj) (k:=(f:Nat)+(r:Nat)) (p:=f+r) oM oM;have k4:=yA (dec:=dec) (m:=u) (j:=jj) (k:=(f:Nat)+((2*r+1:Nat):Int)) (p:=f+(2*r+1)) oM oM;by_cases d3:nA u (f+r)<nA u (f+(2*r+1))
    ·have s1:=JA (dec:=dec) (m:=u) (j:=jj) (k:=(f:Nat)+(r:Nat)) (x:=nA u (f+(2*r+1))) (p:=f+r) oM oM;have s2:=JA (dec:=dec) (m:=u.set (f+r) (nA u (f+(2*r+1)))) (j:=jj) (k:=(f:Nat)+((2*r+1:Nat):Int)) (x:=nA u (f+r)) (p:=f+(2*r+1)) oM (by rw[List.length_set];omega);have l1:=IA (dec:=dec) (m:=u) (j:=jj) (k:=(f:Nat)+(r:Nat)) (p:=f+r) oM oM;have l2:=IA (dec:=dec) (m:=u.set (f+r) (nA u (f+(2*r+1)))) (j:=jj) (k:=(f:Nat)+((2*r+1:Nat):Int)) (p:=f+(2*r+1)) oM (by rw[List.length_set];omega);refine Tc.dr [] [] mixed rfl ?_;refine vI 0 ?_;refine .z 12 rfl (xA.tk fun H hs=> nC M H PJ (zA oM) (zA oM) true (decide_eq_true d3)) ?_;refine .nn 13 ?_;refine .dn ?_;refine U3 ?_;refine Tc.dr [21,23] [0] mixed rfl ?_;refine V4 0 ?_;refine .nw 4 ?_;refine .nw 5 ?_;refine .nw 6 ?_;refine .nw 7 ?_;refine V6 8 ?_;refine .nw 14 ?_;refine .nw 15 ?_;refine .nw 16 ?_;refine .nw 17 ?_;refine .nw 18 ?_;refine V2 19 ?_;refine .e 21 0 ?_;refine .nw 22 ?_;refine .e 23 0 ?_;refine .dn ?_;refine U5 ?_;exact Tc.db (ih ⟨(2*r+1,MA u (f+r) (f+(2*r+1))),by simp only;omega,by simp only;omega,g3.trans (iA.swap oM oM oM oM),g4.step oM g1 oM XW d3 PF⟩ (by simp only;omega))
    ·refine Tc.dr [] [] mixed rfl ?_;refine vI 0 ?_;refine .z 12 rfl (xA.tk fun H hs=> nC M H PJ (zA oM) (zA oM) false (decide_eq_false d3)) ?_;refine .nn 13 ?_;refine .dn ?_;refine U ?_;refine .rt hK func301 results301 [] ?_;exact fun H' hs=> pB.of (dec:=dec) hs (i:=0) rfl ⟨rfl,g3,g4.fin (fun d h1 h2=> by have:=PF d h1 h2;omega)⟩
  ·have PF:∀d,(d=2*r+1\/d=2*r+2)->d<hi->nA u (f+d)<=nA u (f+(2*r+1)):=by rintro d (rfl|rfl) _ <;> omega
   refine YD ?_;refine Tc.dr [] [] mixed rfl ?_;refine V5 0 ?_;refine .nw 5 ?_;refine .nw 6 ?_;refine .nw 7 ?_;refine .nw 8 ?_;refine .nw 9 ?_;refine .nw 10 ?_;refine .nw 11 ?_;refine .nw 12 ?_;refine .nw 13 ?_;refine .nw 14 ?_;refine .nw 15 ?_;refine .nw 16 ?_;refine .nw 17 ?_;refine .nw 18 ?_;refine .nn 19 ?_;refine .dn ?_;refine U4 ?_;have XW:2*r+1<hi:=by omega
   have k3:=yA (dec:=dec) (m:=u) (j:=jj) (k:=(f:Nat)+(r:Nat)) (p:=f+r) oM oM;have k4:=yA (dec:=dec) (m:=u) (j:=jj) (k:=(f:Nat)+((2*r+1:Nat):Int)) (p:=f+(2*r+1)) oM oM;by_cases d3:nA u (f+r)<nA u (f+(2*r+1))
   ·have s1:=JA (dec:=dec) (m:=u) (j:=jj) (k:=(f:Nat)+(r:Nat)) (x:=nA u (f+(2*r+1))) (p:=f+r) oM oM;have s2:=JA (dec:=dec) (m:=u.set (f+r) (nA u (f+(2*r+1)))) (j:=jj) (k:=(f:Nat)+((2*r+1:Nat):Int)) (x:=nA u (f+r)) (p:=f+(2*r+1)) oM (by rw[List.length_set];omega);have l1:=IA (dec:=dec) (m:=u) (j:=jj) (k:=(f:Nat)+(r:Nat)) (p:=f+r) oM oM;have l2:=IA (dec:=dec) (m:=u.set (f+r) (nA u (f+(2*r+1)))) (j:=jj) (k:=(f:Nat)+((2*r+1:Nat):Int)) (p:=f+(2*r+1)) oM (by rw[List.length_set];omega);refine Tc.dr [] [] mixed rfl ?_;refine vI 0 ?_;refine .z 12 rfl (xA.tk fun H hs=> nC M H PJ (zA oM) (zA oM) true (decide_eq_true d3)) ?_;refine .nn 13 ?_;refine .dn ?_;refine U3 ?_;refine Tc.dr [21,23] [0] mixed rfl ?_;refine V4 0 ?_;refine .nw 4 ?_;refine .nw 5 ?_;refine .nw 6 ?_;refine .nw 7 ?_;refine V6 8 ?_;refine .nw 14 ?_;refine .nw 15 ?_;refine .nw 16 ?_;refine .nw 17 ?_;refine .nw 18 ?_;refine V2 19 ?_;refine .e 21 0 ?_;refine .nw 22 ?_;refine .e 23 0 ?_;refine .dn ?_;refine U5 ?_;exact Tc.db (ih ⟨(2*r+1,MA u (f+r) (f+(2*r+1))),by simp only;omega,by simp only;omega,g3.trans (iA.swap oM oM oM oM),g4.step oM g1 oM XW d3 PF⟩ (by simp only;omega))
   ·refine Tc.dr [] [] mixed rfl ?_;refine vI 0 ?_;refine .z 12 rfl (xA.tk fun H hs=> nC M H PJ (zA oM) (zA oM) false (decide_eq_false d3)) ?_;refine .nn 13 ?_;refine .dn ?_;refine U ?_;refine .rt hK func301 results301 [] ?_;exact fun H' hs=> pB.of (dec:=dec) hs (i:=0) rfl ⟨rfl,g3,g4.fin (fun d h1 h2=> by have:=PF d h1 h2;omega)⟩
 ·refine U9 ?_;refine .ov hK func301 results301 [] ?_;exact fun H' hs=> pB.of (dec:=dec) hs (i:=0) rfl ⟨rfl,g3,g4.fin (fun d h1 h2=> by omega)⟩
end
theorem EM {f hi s:Nat}{u:List Int}(hs:1<=s)(h:fH f s hi u):pC f (s-1) hi (s-1) u:=
 ⟨fun k c h1 h2 h3 h4=> h k c oM h3 h4,fun k c h1 h2 h3 h4=> by omega⟩
structure PH(f hi s:Nat)(u:List Int):Prop where
 heap:fH f 0 s u
 srt:TC (f+s) (f+hi) u
 low:∀p q,p<s->s<=q->q<hi->nA u (f+p)<=nA u (f+q)
theorem bP {f hi s:Nat}{u:List Int}(hs:1<=s)(gM:s<=hi)(hl:f+hi<=u.length)(h:PH f hi s u):pC f 0 (s-1) 0 (MA u f (f+(s-1))):=by
 have hw:=fun q=> xB (l:=u) (p:=f) (q:=f+(s-1)) oM oM q;refine⟨fun k c h1 h2 h3 h4=> ?_,fun k c h1 h2 h3 h4=> by omega⟩;rw[hw,hw,if_neg oM,if_neg oM,if_neg oM,if_neg oM];exact h.heap k c h1 h3 oM
theorem FM {f hi s:Nat}{u m:List Int}(hs:1<=s)(gM:s<=hi)(hl:f+hi<=u.length)(h:PH f hi s u)(ht:iA f (f+(s-1)) (MA u f (f+(s-1))) m)(hm:fH f 0 (s-1) m):PH f hi (s-1) m:=by
 have hw:=fun q=> xB (l:=u) (p:=f) (q:=f+(s-1)) oM oM q;have aCc:=h.heap.top;have vK:nA m (f+(s-1))=nA u f:=by
  rw[ht.out _ (.inr (Nat.le_refl _)),hw,if_pos rfl]
 have wL:∀q,s<=q->nA m (f+q)=nA u (f+q):=fun q hq=> by
  rw[ht.out _ (.inr oM),hw,if_neg oM,if_neg oM]
 have TA:∀X:Int,(∀p,p<s->nA u (f+p)<=X)->∀p,p<s-1->nA m (f+p)<=X:=fun X hX p hp=>
  ht.all (by rw[yF];omega) (P:=fun x=> x<=X) (fun p h1 h2=> by
   rw[hw,if_neg oM];by_cases e:p=f
   ·rw[if_pos e];exact hX (s-1) oM
   ·rw[if_neg e];have:=hX (p-f) oM
    rwa [show f+(p-f)=p by omega] at this) (f+p) oM oM
 refine⟨hm,fun p q h1 h2 h3=> ?_,fun p q h1 h2 h3=> ?_⟩
 ·by_cases e:p=f+(s-1)
  ·rw[e,vK];have h4:=wL (q-f) oM;rw[show f+(q-f)=q by omega] at h4;rw[h4];have:=h.low 0 (q-f) oM oM oM
   rwa [show f+(q-f)=q by omega,Nat.add_zero] at this
  ·have h4:=wL (q-f) oM;have h5:=wL (p-f) oM;rw[show f+(q-f)=q by omega] at h4;rw[show f+(p-f)=p by omega] at h5;rw[h4,h5];exact h.srt p q oM h2 h3
 ·by_cases e:q=s-1
  ·subst e;rw[vK];exact TA _ (fun p hp=> aCc p hp) p h1
  ·rw[wL q oM];exact TA _ (fun p hp=> h.low p q hp oM h3) p h1
section
variable(M:Md prog)(H:View)
theorem zU(dec:Int->List UInt8)(sb:Nat)(l:List Int)(jj:List Value)(n cap a b:Nat)(hn:n=l.length)(hE:SN dec l)(hb:b<=n)(fD:n<=100000000)(pI:a<b)(hS:H sb=some (true,.cells ⟨(tA dec l)++jj⟩ 9 (0,0))):
  aA M 257 #[.slice (some ⟨sb,0,none⟩) n cap,.int .i64 (a:Nat),.int .i64 (b:Nat)] H (pB dec H sb jj (fun v m=> v=.tuple ⟨[]⟩/\iA a b l m/\TC a b m)):=by
 obtain⟨hi,lQ⟩:∃hi,hi=b-a:=⟨_,rfl⟩
 have e0:((b:Nat):Int)-((a:Nat):Int)=((hi:Nat):Int):=by omega
 have eb:b=a+hi:=by omega
 obtain⟨s0,AF⟩:∃s0,s0=(hi-1)/2+1:=⟨_,rfl⟩
 have hq:rA .quo .i64 (((hi:Nat):Int)-1) 2=some (.int .i64 (((s0:Nat):Int)-1)):=by
  rw[pH oM oM oM]
  congr 2
  omega
 refine aA.enter (vs:= [.slice (some ⟨sb,0,none⟩) n cap,.int .i64 (a:Nat),.int .i64 (b:Nat)]) func257 rfl ntmps257 (Nat.le_of_ble_eq_true rfl) (kA.pull hS) fun St c cs hK=> ?_;refine lN ?_;rw[e0];refine U9 ?_;refine Tc.db (Tc.sA (σ:= { s:Nat×List Int//s.1<=hi/\iA a b l s.2/\fH a s.1 hi s.2 }) (fun s=> ([(0,.slice (some ⟨sb,0,none⟩) n cap),(6,.int .i64 (a:Nat)),(7,.int .i64 0),(8,.int .i64 (hi:Nat)),(9,.int .i64 ((s.1.1:Nat)-1))],[(sb,true,.cells ⟨(tA dec s.1.2)++jj⟩ 9 (0,0))])) (fun s=> s.1.1) ?_
  ⟨(s0,l),by simp only;omega,iA.refl ..,fun k c h1 h2 h3=> by simp only at h1;omega⟩)
 rintro⟨⟨s,u⟩,g1,g2,g3⟩ ih;simp only at g1 g2 g3;show Tc M St _ _ _ _ [(0,.slice (some ⟨sb,0,none⟩) n cap),(6,.int .i64 (a:Nat)),(7,.int .i64 0),(8,.int .i64 (hi:Nat)),(9,.int .i64 ((s:Nat)-1))] [(sb,true,.cells ⟨(tA dec u)++jj⟩ 9 (0,0))] _ _;have yI:=g2.len;have PJ:=hE.zD g2;by_cases c1:1<=s
 ·have e1:((s:Nat):Int)-1=((s-1:Nat):Int):=by omega
  rw[e1];refine kN ?_;refine .e (Or.YE (dec:=dec) (l:=u) 0 (fun v m=> v=.tuple ⟨[]⟩/\iA a (a+hi) u m/\fH a (s-1) hi m) rfl rfl rfl rfl rfl dE rfl (fun H hs=> .h (JN M H dec sb u jj n cap (s-1) hi a oM PJ oM fD oM (EM c1 g3) (hs.get (i:=0) rfl))) (fun v m ⟨hv,ht,hh⟩=> ?_));refine U7 ?_;exact Tc.db (ih ⟨(s-1,m),by simp only;omega,g2.trans (ht.wide (Nat.le_refl _) oM),hh⟩ (by simp only;omega))
 ·have es:s=0:=by omega
  subst es;refine kN ?_;refine Tc.db (Tc.sA (σ:= { s:Nat×List Int//s.1<=hi/\iA a b l s.2/\PH a hi s.1 s.2 }) (fun s=> ([(0,.slice (some ⟨sb,0,none⟩) n cap),(6,.int .i64 (a:Nat)),(7,.int .i64 0),(10,.int .i64 ((s.1.1:Nat)-1))],[(sb,true,.cells ⟨(tA dec s.1.2)++jj⟩ 9 (0,0))])) (fun s=> s.1.1) ?_
   ⟨(hi,u),Nat.le_refl _,g2,⟨g3,fun p q h1 h2 h3=> by omega,fun p q h1 h2 h3=> by omega⟩⟩)
  rintro⟨⟨s,w⟩,f1,f2,f3⟩ ih2;simp only at f1 f2 f3;show Tc M St _ _ _ _ [(0,.slice (some ⟨sb,0,none⟩) n cap),(6,.int .i64 (a:Nat)),(7,.int .i64 0),(10,.int .i64 ((s:Nat)-1))] [(sb,true,.cells ⟨(tA dec w)++jj⟩ 9 (0,0))] _ _;have LY:=f2.len;have TW:=hE.zD f2;by_cases c2:1<=s
  ·have e1:((s:Nat):Int)-1=((s-1:Nat):Int):=by omega
   rw[e1];have k1:=yA (dec:=dec) (m:=w) (j:=jj) (k:=(a:Nat)) (p:=a) rfl oM;have k2:=yA (dec:=dec) (m:=w) (j:=jj) (k:=(a:Nat)+((s-1:Nat):Int)) (p:=a+(s-1)) oM oM;have s1:=JA (dec:=dec) (m:=w) (j:=jj) (k:=(a:Nat)) (x:=nA w (a+(s-1))) (p:=a) rfl oM;have s2:=JA (dec:=dec) (m:=w.set a (nA w (a+(s-1)))) (j:=jj) (k:=(a:Nat)+((s-1:Nat):Int)) (x:=nA w a) (p:=a+(s-1)) oM (by rw[List.length_set];omega);have l1:=IA (dec:=dec) (m:=w) (j:=jj) (k:=(a:Nat)) (p:=a) rfl oM;have l2:=IA (dec:=dec) (m:=w.set a (nA w (a+(s-1)))) (j:=jj) (k:=(a:Nat)+((s-1:Nat):Int)) (p:=a+(s-1)) oM (by rw[List.length_set];omega);have R1:=iA.swap (a:=a) (b:=b) (l:=w) (p:=a) (q:=a+(s-1)) oM oM oM oM;refine YD ?_;refine Tc.dr [17,19] [0] mixed rfl ?_;refine V2 0 ?_;refine .nw 2 ?_;refine .nw 3 ?_;refine .nw 4 ?_;refine .nw 5 ?_;refine V6 6 ?_;refine .nw 12 ?_;refine .nw 13 ?_;refine .nw 14 ?_;refine V2 15 ?_;refine .e 17 0 ?_;refine .nw 18 ?_;refine .e 19 0 ?_;refine .dn ?_;refine U5 ?_;refine .e (Or.YE (dec:=dec) (l:=MA w a (a+(s-1))) 0 (fun v m=> v=.tuple ⟨[]⟩/\iA a (a+(s-1)) (MA w a (a+(s-1))) m/\fH a 0 (s-1) m) rfl rfl rfl rfl rfl dE rfl (fun H hs=> .h (JN M H dec sb (MA w a (a+(s-1))) jj n cap 0 (s-1) a (by rw[yF];omega) (TW.zD R1) oM fD oM (bP c2 f1 oM f3) (hs.get (i:=0) rfl))) (fun v m ⟨hv,ht,hh⟩=> ?_));refine U7 ?_;exact Tc.db (ih2 ⟨(s-1,m),by simp only;omega,f2.trans (R1.trans (ht.wide (Nat.le_refl _) oM)),FM c2 f1 oM f3 ht hh⟩ (by simp only;omega))
  ·have es:s=0:=by omega
   subst es;refine U8 ?_;refine .ov hK func257 results257 [] ?_;exact fun H' hs=> pB.of (dec:=dec) hs (i:=0) rfl ⟨rfl,f2,eb▸f3.srt⟩
end
theorem Or.bH {M:Md prog}{n:Nat}{H₀:View}{R:Rg}{L:Bl}{o:Oper}{K:Rg->Bl->Prop}{cl:Go.Call}{x:Operand}{fv:Value}{az:List Value}{d:Nat}{σ:Type}(i:Nat){sb:Nat}{l:List Int}{j:List Value}(val:σ->Value)(mm:σ->List Int)(p:σ->Prop)
  (qA:o.op=.call cl) (yB:cl.callee=.value x) (hx:RA R x=some fv) (has:FD R cl.args.toList=some az) (hd:o.dst=some d) (hn:d<n) (hi:L[i]? =some (sb,true,.cells ⟨jA l++j⟩ 3 (0,0)))
  (hc:∀H,kA H₀ L H->CB M fv az H (wD H sb j fun v m=> ∃s,v=val s/\m=mm s/\p s)) (hk:∀s,p s->K ((d,val s)::R) (L.set i (sb,true,.cells ⟨jA (mm s)++j⟩ 3 (0,0)))):Or M n H₀ R L o K:=
 Or.bT i (fun v m=> ∃s,v=val s/\m=mm s/\p s) qA yB hx has hd hn hi hc fun v m h=> by
  obtain⟨s,rfl,rfl,h3⟩:=h;exact hk s h3
def lT(s:Nat×Nat×Int):Value:=.tuple ⟨[.int .i64 (s.1:Nat),.int .i64 (s.2.1:Nat)]⟩
def kT(p q:Nat)(z:Int)(s:Nat×Nat×Int):Prop:=(s.1=p/\s.2.1=q\/s.1=q/\s.2.1=p)/\z<=s.2.2/\s.2.2<=z+1
section
variable(M:Md prog)(H:View)
theorem SM(dec:Int->List UInt8)(sb cb:Nat)(f:Bool)(l:List Int)(jj:List Value)(n cap p q:Nat)(z:Int)(hn:n=l.length)(hE:SN dec l)(hp:p<n)(hq:q<n)(hz:0<=z/\z<=1000)(uB:sb≠cb)(hS:H sb=some (f,.cells ⟨(tA dec l)++jj⟩ 9 (0,0)))(hC:H cb=some (true,.cells ⟨[.int .i64 z]⟩ 3 (0,0))):
  aA M 326 #[.slice (some ⟨sb,0,none⟩) n cap,.int .i64 (p:Nat),.int .i64 (q:Nat),.pointer (some ⟨cb,0,none⟩)] H (wD H cb [] (fun v m=> ∃s,v=lT s/\m= [s.2.2]/\kT p q z s)):=by
 have sQ:(H.aB cb) sb=some (f,.cells ⟨(tA dec l)++jj⟩ 9 (0,0)):=by rw[HA uB];exact hS
 have k1:=yA (dec:=dec) (m:=l) (j:=jj) (k:=(p:Nat)) (p:=p) rfl oM;have k2:=yA (dec:=dec) (m:=l) (j:=jj) (k:=(q:Nat)) (p:=q) rfl oM;refine aA.enter (vs:= [.slice (some ⟨sb,0,none⟩) n cap,.int .i64 (p:Nat),.int .i64 (q:Nat),.pointer (some ⟨cb,0,none⟩)]) func326 rfl ntmps326 (Nat.le_of_ble_eq_true rfl) (kA.pull hC) fun St c cs hK=> ?_;by_cases c1:nA l q<nA l p
 ·refine U7 ?_;refine Tc.dr [] [] mixed rfl ?_;refine V8 0 ?_;refine .z 8 rfl (xA.tk fun H hs=> nC M H hE (zA oM) (zA oM) true (decide_eq_true c1)) ?_;refine .dn ?_;refine BI ?_;refine .rt hK func326 results326 [_,_] ?_;exact fun H' hs=> wD.of (m:= [z+1]) hs (i:=0) rfl ⟨(q,p,z+1),rfl,rfl,.inr ⟨rfl,rfl⟩,by simp only;omega,by simp only;omega⟩
 ·refine U7 ?_;refine Tc.dr [] [] mixed rfl ?_;refine V8 0 ?_;refine .z 8 rfl (xA.tk fun H hs=> nC M H hE (zA oM) (zA oM) false (decide_eq_false c1)) ?_;refine .dn ?_;refine U9 ?_;refine .rt hK func326 results326 [_,_] ?_;exact fun H' hs=> wD.of (m:= [z]) hs (i:=0) rfl ⟨(p,q,z),rfl,rfl,.inl ⟨rfl,rfl⟩,by simp only;omega,by simp only;omega⟩
theorem pR(dec:Int->List UInt8)(sb cb:Nat)(f:Bool)(l:List Int)(jj:List Value)(n cap p q r:Nat)(z:Int)(hn:n=l.length)(hE:SN dec l)(hp:p<n)(hq:q<n)(hr:r<n)(hz:0<=z/\z<=900)(uB:sb≠cb)(hS:H sb=some (f,.cells ⟨(tA dec l)++jj⟩ 9 (0,0)))(hC:H cb=some (true,.cells ⟨[.int .i64 z]⟩ 3 (0,0))):
  aA M 305 #[.slice (some ⟨sb,0,none⟩) n cap,.int .i64 (p:Nat),.int .i64 (q:Nat),.int .i64 (r:Nat),.pointer (some ⟨cb,0,none⟩)] H (wD H cb [] (fun v m=> ∃s:Nat×Int,v=.int .i64 (s.1:Nat)/\m= [s.2]/\((s.1=p\/s.1=q\/s.1=r)/\z<=s.2/\s.2<=z+3))):=by
 have sQ:(H.aB cb) sb=some (f,.cells ⟨(tA dec l)++jj⟩ 9 (0,0)):=by rw[HA uB];exact hS
 refine aA.enter (vs:= [.slice (some ⟨sb,0,none⟩) n cap,.int .i64 (p:Nat),.int .i64 (q:Nat),.int .i64 (r:Nat),.pointer (some ⟨cb,0,none⟩)]) func305 rfl ntmps305 (Nat.le_of_ble_eq_true rfl) (kA.pull hC) fun St c cs hK=> ?_;refine UC ?_;refine .e (Or.bH (l:= [z]) (j:= []) 0 lT (fun s=> [s.2.2]) (kT p q z) rfl rfl rfl rfl rfl dE rfl (fun H hs=> .h (SM M H dec sb cb f l jj n cap p q z hn hE hp hq oM uB (hs.base _ _ sQ) (hs.get (i:=0) rfl))) (fun⟨x1,y1,z1⟩ ⟨o1,o2,o3⟩=> ?_));refine U6 ?_;simp only at o1 o2 o3;refine U6 ?_;refine .e (Or.bH (l:= [z1]) (j:= []) 0 lT (fun s=> [s.2.2]) (kT y1 r z1) rfl rfl rfl rfl rfl dE rfl (fun H hs=> .h (SM M H dec sb cb f l jj n cap y1 r z1 hn hE oM hr oM uB (hs.base _ _ sQ) (hs.get (i:=0) rfl))) (fun⟨x2,y2,z2⟩ ⟨p1,p2,p3⟩=> ?_));refine U6 ?_;simp only at p1 p2 p3;refine U6 ?_;refine .e (Or.bH (l:= [z2]) (j:= []) 0 lT (fun s=> [s.2.2]) (kT x1 x2 z2) rfl rfl rfl rfl rfl dE rfl (fun H hs=> .h (SM M H dec sb cb f l jj n cap x1 x2 z2 hn hE oM oM oM uB (hs.base _ _ sQ) (hs.get (i:=0) rfl))) (fun⟨x3,y3,z3⟩ ⟨q1,q2,q3⟩=> ?_));refine U6 ?_;simp only at q1 q2 q3;refine U5 ?_;refine .rt hK func305 results305 [_] ?_;exact fun H' hs=> wD.of (m:= [z3]) hs (i:=0) rfl ⟨(y3,z3),rfl,rfl,by simp only;omega,by simp only;omega,by simp only;omega⟩
def Q6(s:Nat×Nat):Value:=.tuple ⟨[.int .i64 (s.1:Nat),.int .i64 (s.2:Nat)]⟩
theorem XH(dec:Int->List UInt8)(sb cb:Nat)(f:Bool)(l:List Int)(jj:List Value)(n cap p:Nat)(z:Int)(hn:n=l.length)(hE:SN dec l)(fD:n<=100000000)(hp:1<=p/\p+1<n)(hz:0<=z/\z<=900)(uB:sb≠cb)(hS:H sb=some (f,.cells ⟨(tA dec l)++jj⟩ 9 (0,0)))(hC:H cb=some (true,.cells ⟨[.int .i64 z]⟩ 3 (0,0))):
  aA M 304 #[.slice (some ⟨sb,0,none⟩) n cap,.int .i64 (p:Nat),.pointer (some ⟨cb,0,none⟩)] H (wD H cb [] (fun v m=> ∃s:Nat×Int,v=.int .i64 (s.1:Nat)/\m= [s.2]/\((s.1=p-1\/s.1=p\/s.1=p+1)/\z<=s.2/\s.2<=z+3))):=by
 have sQ:(H.aB cb) sb=some (f,.cells ⟨(tA dec l)++jj⟩ 9 (0,0)):=by rw[HA uB];exact hS
 have e1:rA .sub .i64 (p:Nat) 1=some (.int .i64 ((p-1:Nat):Int)):=by rw[ZP oM oM];congr 2;omega
 have e2:rA .add .i64 (p:Nat) 1=some (.int .i64 ((p+1:Nat):Int)):=by rw[LB oM oM];rfl
 refine aA.enter (vs:= [.slice (some ⟨sb,0,none⟩) n cap,.int .i64 (p:Nat),.pointer (some ⟨cb,0,none⟩)]) func304 rfl ntmps304 (Nat.le_of_ble_eq_true rfl) (kA.pull hC) fun St c cs hK=> ?_;refine ZF ?_;refine .e (Or.bH (l:= [z]) (j:= []) 0 (fun s:Nat×Int=> .int .i64 (s.1:Nat)) (fun s=> [s.2]) (fun s=> (s.1=p-1\/s.1=p\/s.1=p+1)/\z<=s.2/\s.2<=z+3) rfl rfl rfl rfl rfl dE rfl (fun H hs=> .h (pR M H dec sb cb f l jj n cap (p-1) p (p+1) z hn hE oM oM oM oM uB (hs.base _ _ sQ) (hs.get (i:=0) rfl))) (fun⟨x1,z1⟩ ⟨o1,o2,o3⟩=> ?_));refine U2 ?_;simp only at o1 o2 o3;refine .rt hK func304 results304 [_] ?_;exact fun H' hs=> wD.of (m:= [z1]) hs (i:=0) rfl ⟨(x1,z1),rfl,rfl,o1,o2,o3⟩
theorem KO(dec:Int->List UInt8)(sb:Nat)(f:Bool)(l:List Int)(jj:List Value)(n cap a b:Nat)(hn:n=l.length)(hE:SN dec l)(fD:n<=100000000)(hb:b<=n)(h8:a+8<=b)(hS:H sb=some (f,.cells ⟨(tA dec l)++jj⟩ 9 (0,0))):
  aA M 259 #[.slice (some ⟨sb,0,none⟩) n cap,.int .i64 (a:Nat),.int .i64 (b:Nat)] H (fun v H'=> H.le H'/\∃s:Nat×Nat,v=Q6 s/\(a<=s.1/\s.1<b/\s.2<=2)/\∀y∈([]:Bl),H' y.1=some y.2/\H y.1=none):=by
 obtain⟨m,hm⟩:∃m,m=b-a:=⟨_,rfl⟩
 obtain⟨w,hw⟩:∃w,w=m/4:=⟨_,rfl⟩
 have e0:((b:Nat):Int)-((a:Nat):Int)=((m:Nat):Int):=by omega
 have hq:rA .quo .i64 ((m:Nat):Int) 4=some (.int .i64 ((w:Nat):Int)):=by
  rw[pH oM oM oM]
  congr 2
  omega
 have e1:((a:Nat):Int)+((w:Nat):Int)*1=((a+w:Nat):Int):=by omega
 have e2:((a:Nat):Int)+((w:Nat):Int)*2=((a+w*2:Nat):Int):=by omega
 have e3:((a:Nat):Int)+((w:Nat):Int)*3=((a+w*3:Nat):Int):=by omega
 refine .en func259 ntmps259 fun St c cs hK=> ?_;refine SE ?_;rw[e0];refine U2 ?_;refine .al fun b9=> ?_;refine U6 ?_;refine .i ?_ (z:=RB oM oM);refine U3 ?_;rw[e1];refine U5 ?_;refine .i ?_ (z:=RB oM oM);refine U3 ?_;rw[e2];refine U5 ?_;refine .i ?_ (z:=RB oM oM);refine U3 ?_;rw[e3];refine U7 ?_;refine Tc.lift (L₂:= [(b9,true,.cells ⟨[.int .i64 0]⟩ 3 (0,0))]) (L₁:= []) rfl (fun Hx hx=> ?_);have hle:=hx.base;have hSx:=hx.base _ _ hS;have uB:∀(z:Int) H',kA Hx [(b9,true,.cells ⟨[.int .i64 z]⟩ 3 (0,0))] H'->sb≠b9:=fun z H' hs e=> by
  have:=hs.out (b9,true,.cells ⟨[.int .i64 z]⟩ 3 (0,0)) (by simp);rw[<-e,hSx] at this;cases this
 clear hx;refine U ?_;refine Tc.via (fun R' L'=> ∃(p q r:Nat) (z:Int),((a<=p/\p<b)/\(a<=q/\q<b)/\(a<=r/\r<b)/\(0<=z/\z<=9))/\OB [(0,.slice (some ⟨sb,0,none⟩) n cap),(9,.pointer (some ⟨b9,0,none⟩)),(10,.int .i64 (p:Nat)),(11,.int .i64 (q:Nat)),(12,.int .i64 (r:Nat))] R'/\List.Sublist [(b9,true,.cells ⟨[.int .i64 z]⟩ 3 (0,0))] L') ?_ (fun fin=> ?_)
 rotate_left
 ·by_cases c50:50<=m
  ·refine UC ?_;refine .e (Or.bH (l:= [0]) (j:= []) 0 (fun s:Nat×Int=> .int .i64 (s.1:Nat)) (fun s=> [s.2]) (fun s=> (s.1=a+w-1\/s.1=a+w\/s.1=a+w+1)/\0<=s.2/\s.2<=0+3) rfl rfl rfl rfl rfl dE rfl (fun H hs=> .h (XH M H dec sb b9 f l jj n cap (a+w) 0 hn hE fD oM oM (uB _ H hs) (hs.base _ _ hSx) (hs.get (i:=0) rfl))) (fun⟨x1,zx1⟩ ⟨ox1,ux1,vx1⟩=> ?_));refine U2 ?_;simp only at ox1 ux1 vx1;refine U4 ?_;refine .e (Or.bH (l:= [zx1]) (j:= []) 0 (fun s:Nat×Int=> .int .i64 (s.1:Nat)) (fun s=> [s.2]) (fun s=> (s.1=a+w*2-1\/s.1=a+w*2\/s.1=a+w*2+1)/\zx1<=s.2/\s.2<=zx1+3) rfl rfl rfl rfl rfl dE rfl (fun H hs=> .h (XH M H dec sb b9 f l jj n cap (a+w*2) zx1 hn hE fD oM oM (uB _ H hs) (hs.base _ _ hSx) (hs.get (i:=0) rfl))) (fun⟨x2,zx2⟩ ⟨ox2,ux2,vx2⟩=> ?_));refine U2 ?_;simp only at ox2 ux2 vx2;refine U3 ?_;refine .e (Or.bH (l:= [zx2]) (j:= []) 0 (fun s:Nat×Int=> .int .i64 (s.1:Nat)) (fun s=> [s.2]) (fun s=> (s.1=a+w*3-1\/s.1=a+w*3\/s.1=a+w*3+1)/\zx2<=s.2/\s.2<=zx2+3) rfl rfl rfl rfl rfl dE rfl (fun H hs=> .h (XH M H dec sb b9 f l jj n cap (a+w*3) zx2 hn hE fD oM oM (uB _ H hs) (hs.base _ _ hSx) (hs.get (i:=0) rfl))) (fun⟨x3,zx3⟩ ⟨ox3,ux3,vx3⟩=> ?_));refine U2 ?_;simp only at ox3 ux3 vx3;exact fin _ _ ⟨x1,x2,x3,zx3,⟨oM,oM,oM,oM⟩,⟨rfl,rfl,rfl,rfl,rfl,trivial⟩,sL⟩
  ·refine U7 ?_;exact fin _ _ ⟨a+w,a+w*2,a+w*3,0,⟨oM,oM,oM,oM⟩,⟨rfl,rfl,rfl,rfl,rfl,trivial⟩,sL⟩
 rintro R' L' ⟨p,q,r,z,⟨hp,hq2,hr,hz⟩,yG,hLL⟩;refine Tc.gC (R':= [(0,.slice (some ⟨sb,0,none⟩) n cap),(9,.pointer (some ⟨b9,0,none⟩)),(10,.int .i64 (p:Nat)),(11,.int .i64 (q:Nat)),(12,.int .i64 (r:Nat))]) (L':= [(b9,true,.cells ⟨[.int .i64 z]⟩ 3 (0,0))]) ?_ yG hLL;clear yG hLL;refine U5 ?_;refine .e (Or.bH (l:= [z]) (j:= []) 0 (fun s:Nat×Int=> .int .i64 (s.1:Nat)) (fun s=> [s.2]) (fun s=> (s.1=p\/s.1=q\/s.1=r)/\z<=s.2/\s.2<=z+3) rfl rfl rfl rfl rfl dE rfl (fun H hs=> .h (pR M H dec sb b9 f l jj n cap p q r z hn hE oM oM oM oM (uB _ H hs) (hs.base _ _ hSx) (hs.get (i:=0) rfl))) (fun⟨x1,z1⟩ ⟨o1,o2,o3⟩=> ?_));refine U2 ?_;simp only at o1 o2 o3;clear uB;refine U6 ?_;by_cases c1:z1=0
 ·refine YD ?_;refine .rt hK func259 results259 [_,_] ?_;exact fun H' hs=> ⟨View.le_trans hle hs.base,(x1,1),rfl,⟨by simp only;omega,by simp only;omega,by simp⟩,by simp⟩
 ·by_cases c2:z1=12
  ·refine BI ?_;refine .rt hK func259 results259 [_,_] ?_;exact fun H' hs=> ⟨View.le_trans hle hs.base,(x1,2),rfl,⟨by simp only;omega,by simp only;omega,by simp⟩,by simp⟩
  ·refine BI ?_;refine .rt hK func259 results259 [_,_] ?_;exact fun H' hs=> ⟨View.le_trans hle hs.base,(x1,0),rfl,⟨by simp only;omega,by simp only;omega,by simp⟩,by simp⟩
end
end Go.Proofs.YtldmfjcgjdchcaaGreatDoor
