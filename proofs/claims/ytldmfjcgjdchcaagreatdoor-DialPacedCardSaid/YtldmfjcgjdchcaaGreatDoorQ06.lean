/-
  Texts of the proofs over baudot/dial: C8 S8 K1 K2 K3 K4 K5.
-/
import Derived.Test.YtldmfjcgjdchcaaGreatDoorQ05
namespace Go.Proofs.YtldmfjcgjdchcaaGreatDoor
open Go.RL Go.Proofs.Tryz
set_option maxRecDepth 10000
set_option maxHeartbeats 16000000
theorem perm3(A:Bl)(x y z:Nat×Bool×Obj)(B:Bl):(A++(x::y::z::B)).Perm (x::y::z::(A++B)):=by
 refine List.perm_middle.trans (.cons _ ?_);refine List.perm_middle.trans (.cons _ ?_);exact List.perm_middle
theorem perm4(u v:Nat×Bool×Obj)(A:Bl)(x y z:Nat×Bool×Obj)(B:Bl):((x::y::z::A)++(u::v::B)).Perm (([u,v]++A)++([x,y,z]++B)):=by
 simp only[List.cons_append,List.nil_append];have h1:(A++(x::y::z::B)).Perm (x::y::z::(A++B)):=perm3 A x y z B;have h2:(x::y::z::(A++u::v::B)).Perm (u::v::x::y::z::(A++B)):=by
   have h3:(A++u::v::B).Perm (u::v::(A++B)):=List.perm_middle.trans (.cons _ List.perm_middle);have h4:(x::y::z::(A++u::v::B)).Perm (x::y::z::u::v::(A++B)):=.cons _ (.cons _ (.cons _ h3));refine h4.trans ?_;have h5:([x,y,z]++u::v::(A++B)).Perm (u::([x,y,z]++v::(A++B))):=List.perm_middle;have h6:([x,y,z]++v::(A++B)).Perm (v::([x,y,z]++(A++B))):=List.perm_middle;exact h5.trans (.cons _ h6)
 exact h2.trans (.cons _ (.cons _ h1.symm))
theorem wmul {a:Int}{t:Nat}(h:0≤a∧a≤99)(ht:t≤30):0≤a*(t:Nat)∧a*(t:Nat)≤2970:=by
 have h1:(0:Int)≤(t:Nat):=Int.natCast_nonneg t;have h2:((t:Nat):Int)≤30:=by omega
 refine⟨Int.mul_nonneg h.1 h1,?_⟩;have h3:=Int.mul_le_mul h.2 h2 h1 (by omega:(0:Int)≤99);omega
theorem Gl.back {e:TypeId}{g g':Gl e 1}(new:List Value)(h1:g'.blk=g.blk)(h2:g'.n=g.n+new.length)(h3:g'.cap=g.cap)(h4:g'.l=g.l++new):∃g5:Gl e 1,g5.blk=g.blk∧g5.n=g.n∧g5.cap=g.cap∧g5.l=g.l∧g5.bl=g'.bl:=by
 have hl:=g.hl;have hl':=g'.hl;have hj':=g'.hj;have hc':=g'.hc;refine⟨⟨g.blk,g.n,g.cap,g.l,new++g'.junk,g.hl,g.hc,?_,g.h0⟩,rfl,rfl,rfl,rfl,?_⟩
 · rw[List.length_append,hj',h2,h3];omega
 · unfold Gl.bl;simp only;rw[h1,h4];cases g.blk with
   | none=> rfl
   | some b=> simp
theorem strs_of(g:Gl 9 1){H:View}(h:∀x∈g.bl,H x.1=some x.2){l:List (List UInt8)}(hl:g.l=strsV l){g0:Gl 9 1}(hn:g.n=g0.n)(hb:g.blk=g0.blk):StrsAt H (g0.blk.map fun b=> ⟨b,0,none⟩) g0.n (fun j=> l[j]?.getD []):=by
 have hgl:=g.hl;rw[hl,strsV_len] at hgl;cases hbb:g0.blk with
 | none=>
   have:=g.h0 (hb.trans hbb);have:=g.hc;exact .inl (by omega)
 | some b=>
   have hbl:g.bl= [(b,true,.cells ⟨g.l++g.junk⟩ 9 (0,0))]:=by unfold Gl.bl;rw[hb,hbb]
   refine .inr ⟨b,0,true,_,9,(0,0),rfl,h (b,true,.cells ⟨g.l++g.junk⟩ 9 (0,0)) (by rw[hbl];simp),fun j hj=> ?_⟩;show(g.l++g.junk)[_]? =_;have hjl:j<l.length:=by omega
   rw[Nat.zero_add,Int.toNat_natCast,Nat.mul_one,List.getElem?_append_left (by rw[hl,strsV_len];exact hjl),hl];unfold strsV;rw[List.getElem?_map];simp only[List.getElem?_eq_getElem hjl];rfl
structure ChSt where
 done:Bool
 total:Int
 best:List (List UInt8)
def ChSt.al(s:ChSt):Int:=if s.done then 0 else 9
def nearL(l:List (List UInt8))(s:List UInt8):Bool:=(firstTo (fun j=> clash1 (l[j]?.getD []) s) l.length).isSome
def cheapGo(can:List (List UInt8))(w:Nat→Int):Nat→List (List UInt8)→Int→ChSt→ChSt
 | 0,l,sum,st=> if st.done=true∧sum≥st.total then st else⟨true,sum,l⟩
 | d+1,l,sum,st=> if st.done=true∧sum≥st.total then st else can.foldl (fun st s=> if nearL l s then st else cheapGo can w d (l++[s]) (sum+w l.length*(takenN s:Nat)) st) st
def ptr(b:Nat):Value:=.pointer (some ⟨b,0,none⟩)
def cheapF(b8 b7 b3 b6 b9 b11:Nat):Value:=.func (.func 142) #[] #[ptr b8,ptr b7,ptr b3,ptr b6,ptr b9,ptr b11]
def stB(st:ChSt)(num:Value)(b8 b7 b6:Nat):Bl:= [(b8,true,.cells ⟨[.int .i64 st.al]⟩ 25 (0,0)),(b7,true,.cells ⟨[.int .i64 st.total]⟩ 3 (0,0)),(b6,true,.cells ⟨num.cells.toList⟩ 107 (0,0))]
def numV(a:Option Addr)(n c:Nat):Value:=.slice a n c
def NumAt(H:View)(a:Option Addr)(n c:Nat)(l:List Value):Prop:=SrcAt H 1 (numV a n c) n l∧n≤c
structure ChCap(can:List (List UInt8))(w:Nat→Int)(nw:Nat)(b8 b7 b3 b6 b9 b11:Nat)(cA wA:Option Addr)(cc wc:Nat)(H:View):Prop where
 f:∃f,H b11=some (f,.cells ⟨[cheapF b8 b7 b3 b6 b9 b11]⟩ 249 (0,0))
 c:∃f,H b9=some (f,.cells ⟨[.slice cA can.length cc]⟩ 107 (0,0))
 g:∃f,H b3=some (f,.cells ⟨[.slice wA nw wc]⟩ 24 (0,0))
 cs:StrsAt H cA can.length (fun i=> can[i]?.getD [])
 ws:FreeAt H wA nw w
theorem ChCap.le {can:List (List UInt8)}{w:Nat→Int}{nw b8 b7 b3 b6 b9 b11:Nat}{cA wA:Option Addr}{cc wc:Nat}{H H':View}(h:ChCap can w nw b8 b7 b3 b6 b9 b11 cA wA cc wc H)(k:H.le H'):ChCap can w nw b8 b7 b3 b6 b9 b11 cA wA cc wc H':=
 ⟨h.f.imp fun _ e=> k _ _ e,h.c.imp fun _ e=> k _ _ e,h.g.imp fun _ e=> k _ _ e,h.cs.le k,h.ws.le k⟩
def ChQ(H₁:View)(g:Gl 9 1)(st:ChSt)(b8 b7 b6:Nat)(v:Value)(H3:View):Prop:=
 v=.tuple ⟨[]⟩∧∃(H₂:View) (g':Gl 9 1) (a:Option Addr) (n c:Nat),H₁.le H₂∧SymSt H₂ (stB st (numV a n c) b8 b7 b6++g'.bl) H3∧(g'.blk=g.blk∧g'.n=g.n∧g'.cap=g.cap∧g'.l=g.l)∧(n=st.best.length∧NumAt H₂ a n c (strsV st.best))
theorem foldl_at {α β:Type}(f:β→α→β)(l:List α)(i:Nat)(b:β){x:α}(h:l[i]? =some x):(l.drop i).foldl f b=(l.drop (i+1)).foldl f (f b x):=by
 obtain⟨hi,rfl⟩:=List.getElem?_eq_some_iff.1 h;rw[List.drop_eq_getElem_cons hi,List.foldl_cons]
theorem Gl.val_of {e:TypeId}{sz:Nat}{g g':Gl e sz}(h:g'.blk=g.blk∧g'.n=g.n∧g'.cap=g.cap∧g'.l=g.l):g'.val=g.val:=by
 unfold Gl.val;rw[h.1,h.2.1,h.2.2.1]
def canStep(can:List (List UInt8))(w:Nat→Int)(d:Nat)(l:List (List UInt8))(sum:Int)(st:ChSt)(s:List UInt8):ChSt:=if nearL l s then st else cheapGo can w d (l++[s]) (sum+w l.length*(takenN s:Nat)) st
section
variable(M:Md prog)
theorem more2_c(can:List (List UInt8))(w:Nat→Int)(nw:Nat)(b8 b7 b3 b6 b9 b11:Nat)(cA wA:Option Addr)(cc wc:Nat)(hnw:nw≤20)(hcan:can.length≤100000)(hcn:∀s∈can,s.all dig=true∧s.length≤3)(hw:∀i,i<nw→0≤w i∧w i≤99):
   ∀ (d:Nat) (g:Gl 9 1) (l:List (List UInt8)) (sum:Int) (st:ChSt) (a:Option Addr) (n c':Nat) (H₁ Hc:View),g.l=strsV l→l.length+d=nw→(0≤sum∧sum≤3000*(l.length:Nat))→ChCap can w nw b8 b7 b3 b6 b9 b11 cA wA cc wc H₁→n=st.best.length→NumAt H₁ a n c' (strsV st.best)→SymSt H₁ (stB st (numV a n c') b8 b7 b6++g.bl) Hc→
     CallT M 142 #[g.val,.int .i64 sum,ptr b8,ptr b7,ptr b3,ptr b6,ptr b9,ptr b11] Hc (ChQ H₁ g (cheapGo can w d l sum st) b8 b7 b6):=by
 intro d;induction d with
 | zero=>
   intro g l sum st a n c' H₁ Hc hg hld hsum hcap hn hsrc hsy;have hgn:g.n=l.length:=by have:=g.hl;rw[hg,strsV_len] at this;omega
   have hcap0:=hcap;obtain⟨⟨ff,hf⟩,⟨fc,hc⟩,⟨fg,hgw⟩,hcs,hws⟩:=hcap;obtain⟨dn,total,best⟩:=st;by_cases c1:dn=true∧sum≥total
   · obtain⟨rfl,c2⟩:=c1;have e:cheapGo can w 0 l sum ⟨true,total,best⟩=⟨true,total,best⟩:=if_pos ⟨rfl,c2⟩;rw[e];refine CallT.enter (vs:= [g.val,.int .i64 sum,ptr b8,ptr b7,ptr b3,ptr b6,ptr b9,ptr b11]) func142 rfl ntmps142 (Nat.le_of_ble_eq_true rfl) (hsy) fun St c cs hK=> ?_;unfold stB ptr;refine U12 ?_;refine .rt hK func142 results142 [] ?_;exact fun H' hs=> ⟨rfl,H₁,g,a,n,c',View.le_refl _,hs,⟨rfl,rfl,rfl,rfl⟩,hn,hsrc⟩
   · have e:cheapGo can w 0 l sum ⟨dn,total,best⟩=⟨true,sum,l⟩:=if_neg c1;rw[e];clear e;cases dn with
     | false=>
       refine CallT.enter (vs:= [g.val,.int .i64 sum,ptr b8,ptr b7,ptr b3,ptr b6,ptr b9,ptr b11]) func142 rfl ntmps142 (Nat.le_of_ble_eq_true rfl) (hsy) fun St c cs hK=> ?_;unfold stB ptr;refine U26 ?_;refine .e (Or.callNew Gl.val Gl.bl (fun g2:Gl 9 1=> g2.l=strsV l∧g2.n=g.n) rfl rfl rfl rfl rfl (by decide) Gl.bl_nodup (fun H hs=> .h (cloneS_c M H (g.blk.map fun b=> ⟨b,0,none⟩) g.n g.cap (strsV l) (by omega) (by rw[←hg];exact g.src (fun x hx=> hs.at_ x (List.mem_append_right _ hx))) (strsV_single l))) (fun g2 hg2=> ?_));refine U5 ?_;refine .rt hK func142 results142 [] ?_;intro H' hs;obtain⟨H₂,h1,h2⟩:=SymSt.unappend (B:= [(b8,true,.cells ⟨[.int .i64 0]⟩ 25 (0,0)),(b7,true,.cells ⟨[.int .i64 sum]⟩ 3 (0,0)),(b6,true,.cells ⟨[g2.val]⟩ 107 (0,0))]++g.bl) (L:=g2.bl) hs;refine⟨rfl,H₂,g,g2.blk.map (fun b=> ⟨b,0,none⟩),g2.n,g2.cap,h2.base,h1,⟨rfl,rfl,rfl,rfl⟩,by rw[hg2.2];exact hgn,?_⟩;have h3:=g2.src (H:=H₂) (fun x hx=> h2.at_ x hx);rw[hg2.1] at h3;exact⟨h3,g2.hc⟩
     | true=>
       have c2:intBin .geq .i64 sum (ChSt.mk true total best).total=some (.bool false):=geq_f (Int.lt_of_not_ge fun h=> c1 ⟨rfl,h⟩);refine CallT.enter (vs:= [g.val,.int .i64 sum,ptr b8,ptr b7,ptr b3,ptr b6,ptr b9,ptr b11]) func142 rfl ntmps142 (Nat.le_of_ble_eq_true rfl) (hsy) fun St c cs hK=> ?_;unfold stB ptr;refine U26 ?_;refine .e (Or.callNew Gl.val Gl.bl (fun g2:Gl 9 1=> g2.l=strsV l∧g2.n=g.n) rfl rfl rfl rfl rfl (by decide) Gl.bl_nodup (fun H hs=> .h (cloneS_c M H (g.blk.map fun b=> ⟨b,0,none⟩) g.n g.cap (strsV l) (by omega) (by rw[←hg];exact g.src (fun x hx=> hs.at_ x (List.mem_append_right _ hx))) (strsV_single l))) (fun g2 hg2=> ?_));refine U5 ?_;refine .rt hK func142 results142 [] ?_;intro H' hs;obtain⟨H₂,h1,h2⟩:=SymSt.unappend (B:= [(b8,true,.cells ⟨[.int .i64 0]⟩ 25 (0,0)),(b7,true,.cells ⟨[.int .i64 sum]⟩ 3 (0,0)),(b6,true,.cells ⟨[g2.val]⟩ 107 (0,0))]++g.bl) (L:=g2.bl) hs;refine⟨rfl,H₂,g,g2.blk.map (fun b=> ⟨b,0,none⟩),g2.n,g2.cap,h2.base,h1,⟨rfl,rfl,rfl,rfl⟩,by rw[hg2.2];exact hgn,?_⟩;have h3:=g2.src (H:=H₂) (fun x hx=> h2.at_ x hx);rw[hg2.1] at h3;exact⟨h3,g2.hc⟩
 | succ d ihd=>
   intro g l sum st a n c' H₁ Hc hg hld hsum hcap hn hsrc hsy;have hgn:g.n=l.length:=by have:=g.hl;rw[hg,strsV_len] at this;omega
   have hcap0:=hcap;obtain⟨⟨ff,hf⟩,⟨fc,hc⟩,⟨fg,hgw⟩,hcs,hws⟩:=hcap;obtain⟨dn,total,best⟩:=st;by_cases c1:dn=true∧sum≥total
   · obtain⟨rfl,c2⟩:=c1;have e:cheapGo can w (d+1) l sum ⟨true,total,best⟩=⟨true,total,best⟩:=if_pos ⟨rfl,c2⟩;rw[e];refine CallT.enter (vs:= [g.val,.int .i64 sum,ptr b8,ptr b7,ptr b3,ptr b6,ptr b9,ptr b11]) func142 rfl ntmps142 (Nat.le_of_ble_eq_true rfl) (hsy) fun St c cs hK=> ?_;unfold stB ptr;refine U12 ?_;refine .rt hK func142 results142 [] ?_;exact fun H' hs=> ⟨rfl,H₁,g,a,n,c',View.le_refl _,hs,⟨rfl,rfl,rfl,rfl⟩,hn,hsrc⟩
   · have e:cheapGo can w (d+1) l sum ⟨dn,total,best⟩=can.foldl (canStep can w d l sum) ⟨dn,total,best⟩:=if_neg c1;rw[e];clear e;cases dn with
     | false =>
       refine CallT.enter (vs:= [g.val,.int .i64 sum,ptr b8,ptr b7,ptr b3,ptr b6,ptr b9,ptr b11]) func142 rfl ntmps142 (Nat.le_of_ble_eq_true rfl) (hsy) fun St c cs hK=> ?_;unfold stB ptr;refine U31 ?_;refine Tc.db (Tc.loopB (σ:= { y:View×Nat×ChSt×Gl 9 1×(Option Addr×Nat×Nat)//H₁.le y.1∧y.2.1≤can.length∧(can.drop y.2.1).foldl (canStep can w d l sum) y.2.2.1=can.foldl (canStep can w d l sum) (⟨false,total,best⟩:ChSt)∧(y.2.2.2.1.blk=g.blk∧y.2.2.2.1.n=g.n∧y.2.2.2.1.cap=g.cap∧y.2.2.2.1.l=g.l)∧(y.2.2.2.2.2.1=y.2.2.1.best.length∧NumAt y.1 y.2.2.2.2.1 y.2.2.2.2.2.1 y.2.2.2.2.2.2 (strsV y.2.2.1.best)) })
         (fun y=> (y.1.1,[(0,g.val),(1,.int .i64 sum),(2,.pointer (some ⟨b8,0,none⟩)),(3,.pointer (some ⟨b7,0,none⟩)),(4,.pointer (some ⟨b3,0,none⟩)),(5,.pointer (some ⟨b6,0,none⟩)),(6,.pointer (some ⟨b9,0,none⟩)),(7,.pointer (some ⟨b11,0,none⟩)),(27,.slice cA can.length cc),(28,.int .i64 (can.length:Nat)),(29,.int .i64 (y.1.2.1:Nat))],[(b8,true,.cells ⟨[.int .i64 y.1.2.2.1.al]⟩ 25 (0,0)),(b7,true,.cells ⟨[.int .i64 y.1.2.2.1.total]⟩ 3 (0,0)),(b6,true,.cells ⟨[numV y.1.2.2.2.2.1 y.1.2.2.2.2.2.1 y.1.2.2.2.2.2.2]⟩ 107 (0,0))]++y.1.2.2.2.1.bl)) (fun y=> can.length-y.1.2.1) ?_ ⟨(H₁,0,(⟨false,total,best⟩:ChSt),g,(a,n,c')),View.le_refl _,Nat.zero_le _,rfl,⟨rfl,rfl,rfl,rfl⟩,hn,hsrc⟩)
       rintro⟨⟨H₂,i,st,g2,a2,n2,c2'⟩,p1,p2,p3,p4,p5,p6⟩ ih;simp only at p1 p2 p3 p4 p5 p6;show Tc M St _ _ H₂ _ [(0,g.val),(1,.int .i64 sum),(2,.pointer (some ⟨b8,0,none⟩)),(3,.pointer (some ⟨b7,0,none⟩)),(4,.pointer (some ⟨b3,0,none⟩)),(5,.pointer (some ⟨b6,0,none⟩)),(6,.pointer (some ⟨b9,0,none⟩)),(7,.pointer (some ⟨b11,0,none⟩)),(27,.slice cA can.length cc),(28,.int .i64 (can.length:Nat)),(29,.int .i64 (i:Nat))] ([(b8,true,.cells ⟨[.int .i64 st.al]⟩ 25 (0,0)),(b7,true,.cells ⟨[.int .i64 st.total]⟩ 3 (0,0)),(b6,true,.cells ⟨[numV a2 n2 c2']⟩ 107 (0,0))]++g2.bl) _ _;by_cases d1:i=can.length
       · have e:can.foldl (canStep can w d l sum) (⟨false,total,best⟩:ChSt)=st:=by rw[←p3,d1,List.drop_length];rfl
         rw[e] at hK;subst d1;refine U7 ?_;refine .ov hK func142 results142 [] ?_;exact fun H' hs=> ⟨rfl,H₂,g2,a2,n2,c2',p1,hs,p4,p5,p6⟩
       · have d2:i<can.length:=by omega
         obtain⟨s,hs0⟩:∃s,can[i]? =some s:=⟨_,List.getElem?_eq_getElem d2⟩
         have hsm:=hcn s (List.mem_of_getElem? hs0);have htk:=takenN_le s hsm.1;obtain h0|⟨cb,co,fcb,cgs,cgt,cgz,rfl,hcb,hcl⟩:=hcs
         · omega
         have f1:=hcl i d2;simp only[hs0,Option.getD_some] at f1;have hcb2:=p1 _ _ hcb;rw[foldl_at _ _ _ _ hs0] at p3;have hgv:=Gl.val_of p4;have hnear:=fun(H':View) (bx:Nat) (fx:Bool) (hg2:∀x∈g2.bl,H' x.1=some x.2) (hbx:H' bx=some (fx,.cells ⟨[strV s]⟩ 9 (0,0)))=> ContainsS_c M H' (g.blk.map fun b=> ⟨b,0,none⟩) g.n g.cap (fun j=> l[j]?.getD []) (strs_of g2 hg2 (p4.2.2.2.trans hg) (p4.2.1) p4.1) (by omega) (.func (.func 145) #[] #[.pointer (some ⟨bx,0,none⟩)]) (fun j=> clash1 (l[j]?.getD []) s) (fun j _ H'' h''=> FnT.of (first:= []) (captured:= [_]) ca145 rfl (near_c M H'' s bx fx (h'' _ _ hbx) (l[j]?.getD [])));have hnl:(firstTo (fun j=> clash1 (l[j]?.getD []) s) g.n).isSome=nearL l s:=by unfold nearL;rw[hgn]
         cases hq:nearL l s with
         | true=>
           have e3:canStep can w d l sum st s=st:=by unfold canStep;rw[if_pos hq]
           rw[e3] at p3;rw[hq] at hnl;refine U13 ?_;refine .al fun bx=> ?_;refine U7 ?_;refine .c rfl rfl rfl rfl (fun H hs=> .h (isB (hnear H bx true (fun x hx=> hs.at_ x (List.mem_cons_of_mem _ (List.mem_append_right _ hx))) (hs.get (i:=0) rfl)) hnl)) ?_;refine U7 ?_;exact Tc.db (ih ⟨(H₂,i+1,st,g2,(a2,n2,c2')),p1,by simp only;omega,p3,p4,p5,p6⟩ (by simp only;omega))
         | false=>
           have e3:canStep can w d l sum st s=cheapGo can w d (l++[s]) (sum+w l.length*(takenN s:Nat)) st:=by unfold canStep;rw[if_neg (by rw[hq];decide)]
           rw[e3] at p3;rw[hq] at hnl;have hwl:=hw l.length (by omega);have hmul0:0≤w l.length*(takenN s:Nat)∧w l.length*(takenN s:Nat)≤2970:=wmul hwl (by omega);have hcap2:=hcap0.le p1;obtain⟨⟨ff2,hf2⟩,⟨fc2,hc2⟩,⟨fg2,hgw2⟩,_,hws2⟩:=hcap2;obtain h0|⟨wb,wo,fwb,wgs,wgt,wgz,rfl,hwb,hwl2⟩:=hws2
           · omega
           have f2:=hwl2 l.length (by omega);rw[←hgn] at f2;have f3:intBin .mul .i64 (w g.n) (takenN s:Nat)=some (.int .i64 (w l.length*(takenN s:Nat))):=by rw[hgn];exact mul_in (by omega) (by omega)
           have f4:intBin .add .i64 sum (w l.length*(takenN s:Nat))=some (.int .i64 (sum+w l.length*(takenN s:Nat))):=add_in (by omega) (by omega);refine U13 ?_;refine .al fun bx=> ?_;refine U7 ?_;refine .c rfl rfl rfl rfl (fun H hs=> .h (isB (hnear H bx true (fun x hx=> hs.at_ x (List.mem_cons_of_mem _ (List.mem_append_right _ hx))) (hs.get (i:=0) rfl)) hnl)) ?_;refine U3 ?_;refine Tc.drT [4] [15] [] 4 mixed rfl ?_;refine .ow 0 ?_;refine .oo 1 ?_;refine .oo 2 ?_;refine .ow 5 ?_;refine .ow 6 ?_;refine .ow 7 ?_;refine .ow 8 ?_;refine .ow 9 ?_;refine .ow 10 ?_;refine .ow 11 ?_;refine Ta.each [3] (by kernel_rfl) rfl ⟨TaOp.mk rfl rfl rfl (.bs (zz:=fun bs=> ⟨S3.mk (by apply List.Sublist.cons;exact List.sublist_append_left _ _) (.inr (by apply List.Sublist.cons;exact List.Sublist.refl _)),?_⟩)),trivial⟩;refine Ta.each [4] (by kernel_rfl) rfl ⟨TaOp.mk rfl rfl rfl (Or.appendK (E:=en) (g:=g2) (m:=1) (new:= [strV s]) (yv:=.slice (some ⟨bs,0,none⟩) 1 1) 5 rfl rfl rfl rfl (by rw[hgv];rfl) rfl rfl rfl rfl rfl rfl rfl rfl rfl rfl (fun H hs=> SrcAt.of (hs.get (i:=0) rfl) (Nat.le_of_ble_eq_true rfl)) rfl (by omega) rfl (by decide) (fun g3 hn3 hl3 hb3 hc3=> ⟨S3.mk (by apply List.Sublist.cons;exact List.sublist_append_left _ _) (.inl (by kernel_rfl)),?_⟩) (fun g3 hn3 hl3=> ⟨S3.mk (by apply List.Sublist.cons;exact List.sublist_append_left _ _) (.inl (by kernel_rfl)),?_⟩)),trivial⟩
           · refine Ta.tkwC 12 (by kernel_rfl) rfl rfl rfl (by decide) rfl rfl (OpV.takeCall rfl rfl rfl rfl (fun H hs=> .h (taken_c M H s hsm.1 (by omega)))) ?_;refine .ow 13 ?_;refine .ow 14 ?_;refine Ta.lift (L₂:= [(bs,true,.cells ⟨[strV s]⟩ 9 (0,0)),(bx,true,.cells ⟨[strV s]⟩ 9 (0,0))]) (L₁:= [(b8,true,.cells ⟨[.int .i64 st.al]⟩ 25 (0,0)),(b7,true,.cells ⟨[.int .i64 st.total]⟩ 3 (0,0)),(b6,true,.cells ⟨[numV a2 n2 c2']⟩ 107 (0,0))]++g3.bl) rfl (fun Hx hx=> ?_);refine Ta.callF 15 (by kernel_rfl) rfl (by kernel_rfl) rfl rfl rfl rfl rfl rfl (by decide) (FnT.of (first:= []) (captured:= [_,_,_,_,_,_]) ca142 rfl (ihd g3 (l++[s]) _ st a2 n2 c2' H₂ Hx (by rw[hl3,p4.2.2.2,hg,strsV_app];rfl) (by rw[List.length_append];show l.length+1+d=nw;omega) (by rw[List.length_append];show _∧_≤3000*((l.length+1:Nat):Int);omega) (hcap0.le p1) p5 p6 hx)) (fun v H₃ hv=> ?_);obtain⟨_,H₄,g4,a4,n4,c4,r1,r2,r3,r4,r5⟩:=hv;refine Ta.expand r2 ?_;unfold stB;refine .dn ?_;refine U5 ?_;obtain⟨g5,s1,s2,s3,s4,s5⟩:=Gl.back (g:=g2) (g':=g4) [strV s] (r3.1.trans hb3) (by rw[r3.2.1,hn3];rfl) (by rw[r3.2.2.1,hc3]) (by rw[r3.2.2.2,hl3]);rw[←s5];exact Tc.db (ih ⟨(H₄,i+1,_,g5,(a4,n4,c4)),View.le_trans p1 r1,by simp only;omega,p3,⟨s1.trans p4.1,s2.trans p4.2.1,s3.trans p4.2.2.1,s4.trans p4.2.2.2⟩,r4,r5⟩ (by simp only;omega))
           · refine Ta.permL (L₁:=([(bs,true,.cells ⟨[strV s]⟩ 9 (0,0)),(bx,true,.cells ⟨[strV s]⟩ 9 (0,0))]++g2.bl)++([(b8,true,.cells ⟨[.int .i64 st.al]⟩ 25 (0,0)),(b7,true,.cells ⟨[.int .i64 st.total]⟩ 3 (0,0)),(b6,true,.cells ⟨[numV a2 n2 c2']⟩ 107 (0,0))]++g3.bl)) ?_ ?_
             · simp only[List.cons_append,List.nil_append];refine .cons _ (.cons _ ?_);exact perm3 g2.bl _ _ _ g3.bl
             · refine Ta.tkwC 12 (by kernel_rfl) rfl rfl rfl (by decide) rfl rfl (OpV.takeCall rfl rfl rfl rfl (fun H hs=> .h (taken_c M H s hsm.1 (by omega)))) ?_;refine .ow 13 ?_;refine .ow 14 ?_;refine Ta.lift (L₂:= [(bs,true,.cells ⟨[strV s]⟩ 9 (0,0)),(bx,true,.cells ⟨[strV s]⟩ 9 (0,0))]++g2.bl) (L₁:= [(b8,true,.cells ⟨[.int .i64 st.al]⟩ 25 (0,0)),(b7,true,.cells ⟨[.int .i64 st.total]⟩ 3 (0,0)),(b6,true,.cells ⟨[numV a2 n2 c2']⟩ 107 (0,0))]++g3.bl) rfl (fun Hx hx=> ?_);refine Ta.callF 15 (by kernel_rfl) rfl (by kernel_rfl) rfl rfl rfl rfl rfl rfl (by decide) (FnT.of (first:= []) (captured:= [_,_,_,_,_,_]) ca142 rfl (ihd g3 (l++[s]) _ st a2 n2 c2' H₂ Hx (by rw[hl3,p4.2.2.2,hg,strsV_app];rfl) (by rw[List.length_append];show l.length+1+d=nw;omega) (by rw[List.length_append];show _∧_≤3000*((l.length+1:Nat):Int);omega) (hcap0.le p1) p5 p6 hx)) (fun v H₃ hv=> ?_);obtain⟨_,H₄,g4,a4,n4,c4,r1,r2,r3,r4,r5⟩:=hv;refine Ta.expand r2 ?_;unfold stB;refine .dn ?_;refine U5 ?_;have hfin:=ih ⟨(H₄,i+1,_,g2,(a4,n4,c4)),View.le_trans p1 r1,by simp only;omega,p3,p4,r4,r5⟩ (by simp only;omega);refine Tc.permL (perm4 _ _ g2.bl _ _ _ g4.bl) ?_;exact Tc.db hfin
     | true=>
       have c2:intBin .geq .i64 sum (ChSt.mk true total best).total=some (.bool false):=geq_f (Int.lt_of_not_ge fun h=> c1 ⟨rfl,h⟩);refine CallT.enter (vs:= [g.val,.int .i64 sum,ptr b8,ptr b7,ptr b3,ptr b6,ptr b9,ptr b11]) func142 rfl ntmps142 (Nat.le_of_ble_eq_true rfl) (hsy) fun St c cs hK=> ?_;unfold stB ptr;refine U31 ?_;refine Tc.db (Tc.loopB (σ:= { y:View×Nat×ChSt×Gl 9 1×(Option Addr×Nat×Nat)//H₁.le y.1∧y.2.1≤can.length∧(can.drop y.2.1).foldl (canStep can w d l sum) y.2.2.1=can.foldl (canStep can w d l sum) (⟨true,total,best⟩:ChSt)∧(y.2.2.2.1.blk=g.blk∧y.2.2.2.1.n=g.n∧y.2.2.2.1.cap=g.cap∧y.2.2.2.1.l=g.l)∧(y.2.2.2.2.2.1=y.2.2.1.best.length∧NumAt y.1 y.2.2.2.2.1 y.2.2.2.2.2.1 y.2.2.2.2.2.2 (strsV y.2.2.1.best)) })
         (fun y=> (y.1.1,[(0,g.val),(1,.int .i64 sum),(2,.pointer (some ⟨b8,0,none⟩)),(3,.pointer (some ⟨b7,0,none⟩)),(4,.pointer (some ⟨b3,0,none⟩)),(5,.pointer (some ⟨b6,0,none⟩)),(6,.pointer (some ⟨b9,0,none⟩)),(7,.pointer (some ⟨b11,0,none⟩)),(27,.slice cA can.length cc),(28,.int .i64 (can.length:Nat)),(29,.int .i64 (y.1.2.1:Nat))],[(b8,true,.cells ⟨[.int .i64 y.1.2.2.1.al]⟩ 25 (0,0)),(b7,true,.cells ⟨[.int .i64 y.1.2.2.1.total]⟩ 3 (0,0)),(b6,true,.cells ⟨[numV y.1.2.2.2.2.1 y.1.2.2.2.2.2.1 y.1.2.2.2.2.2.2]⟩ 107 (0,0))]++y.1.2.2.2.1.bl)) (fun y=> can.length-y.1.2.1) ?_ ⟨(H₁,0,(⟨true,total,best⟩:ChSt),g,(a,n,c')),View.le_refl _,Nat.zero_le _,rfl,⟨rfl,rfl,rfl,rfl⟩,hn,hsrc⟩)
       rintro⟨⟨H₂,i,st,g2,a2,n2,c2'⟩,p1,p2,p3,p4,p5,p6⟩ ih;simp only at p1 p2 p3 p4 p5 p6;show Tc M St _ _ H₂ _ [(0,g.val),(1,.int .i64 sum),(2,.pointer (some ⟨b8,0,none⟩)),(3,.pointer (some ⟨b7,0,none⟩)),(4,.pointer (some ⟨b3,0,none⟩)),(5,.pointer (some ⟨b6,0,none⟩)),(6,.pointer (some ⟨b9,0,none⟩)),(7,.pointer (some ⟨b11,0,none⟩)),(27,.slice cA can.length cc),(28,.int .i64 (can.length:Nat)),(29,.int .i64 (i:Nat))] ([(b8,true,.cells ⟨[.int .i64 st.al]⟩ 25 (0,0)),(b7,true,.cells ⟨[.int .i64 st.total]⟩ 3 (0,0)),(b6,true,.cells ⟨[numV a2 n2 c2']⟩ 107 (0,0))]++g2.bl) _ _;by_cases d1:i=can.length
       · have e:can.foldl (canStep can w d l sum) (⟨true,total,best⟩:ChSt)=st:=by rw[←p3,d1,List.drop_length];rfl
         rw[e] at hK;subst d1;refine U7 ?_;refine .ov hK func142 results142 [] ?_;exact fun H' hs=> ⟨rfl,H₂,g2,a2,n2,c2',p1,hs,p4,p5,p6⟩
       · have d2:i<can.length:=by omega
         obtain⟨s,hs0⟩:∃s,can[i]? =some s:=⟨_,List.getElem?_eq_getElem d2⟩
         have hsm:=hcn s (List.mem_of_getElem? hs0);have htk:=takenN_le s hsm.1;obtain h0|⟨cb,co,fcb,cgs,cgt,cgz,rfl,hcb,hcl⟩:=hcs
         · omega
         have f1:=hcl i d2;simp only[hs0,Option.getD_some] at f1;have hcb2:=p1 _ _ hcb;rw[foldl_at _ _ _ _ hs0] at p3;have hgv:=Gl.val_of p4;have hnear:=fun(H':View) (bx:Nat) (fx:Bool) (hg2:∀x∈g2.bl,H' x.1=some x.2) (hbx:H' bx=some (fx,.cells ⟨[strV s]⟩ 9 (0,0)))=> ContainsS_c M H' (g.blk.map fun b=> ⟨b,0,none⟩) g.n g.cap (fun j=> l[j]?.getD []) (strs_of g2 hg2 (p4.2.2.2.trans hg) (p4.2.1) p4.1) (by omega) (.func (.func 145) #[] #[.pointer (some ⟨bx,0,none⟩)]) (fun j=> clash1 (l[j]?.getD []) s) (fun j _ H'' h''=> FnT.of (first:= []) (captured:= [_]) ca145 rfl (near_c M H'' s bx fx (h'' _ _ hbx) (l[j]?.getD [])));have hnl:(firstTo (fun j=> clash1 (l[j]?.getD []) s) g.n).isSome=nearL l s:=by unfold nearL;rw[hgn]
         cases hq:nearL l s with
         | true=>
           have e3:canStep can w d l sum st s=st:=by unfold canStep;rw[if_pos hq]
           rw[e3] at p3;rw[hq] at hnl;refine U13 ?_;refine .al fun bx=> ?_;refine U7 ?_;refine .c rfl rfl rfl rfl (fun H hs=> .h (isB (hnear H bx true (fun x hx=> hs.at_ x (List.mem_cons_of_mem _ (List.mem_append_right _ hx))) (hs.get (i:=0) rfl)) hnl)) ?_;refine U7 ?_;exact Tc.db (ih ⟨(H₂,i+1,st,g2,(a2,n2,c2')),p1,by simp only;omega,p3,p4,p5,p6⟩ (by simp only;omega))
         | false=>
           have e3:canStep can w d l sum st s=cheapGo can w d (l++[s]) (sum+w l.length*(takenN s:Nat)) st:=by unfold canStep;rw[if_neg (by rw[hq];decide)]
           rw[e3] at p3;rw[hq] at hnl;have hwl:=hw l.length (by omega);have hmul0:0≤w l.length*(takenN s:Nat)∧w l.length*(takenN s:Nat)≤2970:=wmul hwl (by omega);have hcap2:=hcap0.le p1;obtain⟨⟨ff2,hf2⟩,⟨fc2,hc2⟩,⟨fg2,hgw2⟩,_,hws2⟩:=hcap2;obtain h0|⟨wb,wo,fwb,wgs,wgt,wgz,rfl,hwb,hwl2⟩:=hws2
           · omega
           have f2:=hwl2 l.length (by omega);rw[←hgn] at f2;have f3:intBin .mul .i64 (w g.n) (takenN s:Nat)=some (.int .i64 (w l.length*(takenN s:Nat))):=by rw[hgn];exact mul_in (by omega) (by omega)
           have f4:intBin .add .i64 sum (w l.length*(takenN s:Nat))=some (.int .i64 (sum+w l.length*(takenN s:Nat))):=add_in (by omega) (by omega);refine U13 ?_;refine .al fun bx=> ?_;refine U7 ?_;refine .c rfl rfl rfl rfl (fun H hs=> .h (isB (hnear H bx true (fun x hx=> hs.at_ x (List.mem_cons_of_mem _ (List.mem_append_right _ hx))) (hs.get (i:=0) rfl)) hnl)) ?_;refine U3 ?_;refine Tc.drT [4] [15] [] 4 mixed rfl ?_;refine .ow 0 ?_;refine .oo 1 ?_;refine .oo 2 ?_;refine .ow 5 ?_;refine .ow 6 ?_;refine .ow 7 ?_;refine .ow 8 ?_;refine .ow 9 ?_;refine .ow 10 ?_;refine .ow 11 ?_;refine Ta.each [3] (by kernel_rfl) rfl ⟨TaOp.mk rfl rfl rfl (.bs (zz:=fun bs=> ⟨S3.mk (by apply List.Sublist.cons;exact List.sublist_append_left _ _) (.inr (by apply List.Sublist.cons;exact List.Sublist.refl _)),?_⟩)),trivial⟩;refine Ta.each [4] (by kernel_rfl) rfl ⟨TaOp.mk rfl rfl rfl (Or.appendK (E:=en) (g:=g2) (m:=1) (new:= [strV s]) (yv:=.slice (some ⟨bs,0,none⟩) 1 1) 5 rfl rfl rfl rfl (by rw[hgv];rfl) rfl rfl rfl rfl rfl rfl rfl rfl rfl rfl (fun H hs=> SrcAt.of (hs.get (i:=0) rfl) (Nat.le_of_ble_eq_true rfl)) rfl (by omega) rfl (by decide) (fun g3 hn3 hl3 hb3 hc3=> ⟨S3.mk (by apply List.Sublist.cons;exact List.sublist_append_left _ _) (.inl (by kernel_rfl)),?_⟩) (fun g3 hn3 hl3=> ⟨S3.mk (by apply List.Sublist.cons;exact List.sublist_append_left _ _) (.inl (by kernel_rfl)),?_⟩)),trivial⟩
           · refine Ta.tkwC 12 (by kernel_rfl) rfl rfl rfl (by decide) rfl rfl (OpV.takeCall rfl rfl rfl rfl (fun H hs=> .h (taken_c M H s hsm.1 (by omega)))) ?_;refine .ow 13 ?_;refine .ow 14 ?_;refine Ta.lift (L₂:= [(bs,true,.cells ⟨[strV s]⟩ 9 (0,0)),(bx,true,.cells ⟨[strV s]⟩ 9 (0,0))]) (L₁:= [(b8,true,.cells ⟨[.int .i64 st.al]⟩ 25 (0,0)),(b7,true,.cells ⟨[.int .i64 st.total]⟩ 3 (0,0)),(b6,true,.cells ⟨[numV a2 n2 c2']⟩ 107 (0,0))]++g3.bl) rfl (fun Hx hx=> ?_);refine Ta.callF 15 (by kernel_rfl) rfl (by kernel_rfl) rfl rfl rfl rfl rfl rfl (by decide) (FnT.of (first:= []) (captured:= [_,_,_,_,_,_]) ca142 rfl (ihd g3 (l++[s]) _ st a2 n2 c2' H₂ Hx (by rw[hl3,p4.2.2.2,hg,strsV_app];rfl) (by rw[List.length_append];show l.length+1+d=nw;omega) (by rw[List.length_append];show _∧_≤3000*((l.length+1:Nat):Int);omega) (hcap0.le p1) p5 p6 hx)) (fun v H₃ hv=> ?_);obtain⟨_,H₄,g4,a4,n4,c4,r1,r2,r3,r4,r5⟩:=hv;refine Ta.expand r2 ?_;unfold stB;refine .dn ?_;refine U5 ?_;obtain⟨g5,s1,s2,s3,s4,s5⟩:=Gl.back (g:=g2) (g':=g4) [strV s] (r3.1.trans hb3) (by rw[r3.2.1,hn3];rfl) (by rw[r3.2.2.1,hc3]) (by rw[r3.2.2.2,hl3]);rw[←s5];exact Tc.db (ih ⟨(H₄,i+1,_,g5,(a4,n4,c4)),View.le_trans p1 r1,by simp only;omega,p3,⟨s1.trans p4.1,s2.trans p4.2.1,s3.trans p4.2.2.1,s4.trans p4.2.2.2⟩,r4,r5⟩ (by simp only;omega))
           · refine Ta.permL (L₁:=([(bs,true,.cells ⟨[strV s]⟩ 9 (0,0)),(bx,true,.cells ⟨[strV s]⟩ 9 (0,0))]++g2.bl)++([(b8,true,.cells ⟨[.int .i64 st.al]⟩ 25 (0,0)),(b7,true,.cells ⟨[.int .i64 st.total]⟩ 3 (0,0)),(b6,true,.cells ⟨[numV a2 n2 c2']⟩ 107 (0,0))]++g3.bl)) ?_ ?_
             · simp only[List.cons_append,List.nil_append];refine .cons _ (.cons _ ?_);exact perm3 g2.bl _ _ _ g3.bl
             · refine Ta.tkwC 12 (by kernel_rfl) rfl rfl rfl (by decide) rfl rfl (OpV.takeCall rfl rfl rfl rfl (fun H hs=> .h (taken_c M H s hsm.1 (by omega)))) ?_;refine .ow 13 ?_;refine .ow 14 ?_;refine Ta.lift (L₂:= [(bs,true,.cells ⟨[strV s]⟩ 9 (0,0)),(bx,true,.cells ⟨[strV s]⟩ 9 (0,0))]++g2.bl) (L₁:= [(b8,true,.cells ⟨[.int .i64 st.al]⟩ 25 (0,0)),(b7,true,.cells ⟨[.int .i64 st.total]⟩ 3 (0,0)),(b6,true,.cells ⟨[numV a2 n2 c2']⟩ 107 (0,0))]++g3.bl) rfl (fun Hx hx=> ?_);refine Ta.callF 15 (by kernel_rfl) rfl (by kernel_rfl) rfl rfl rfl rfl rfl rfl (by decide) (FnT.of (first:= []) (captured:= [_,_,_,_,_,_]) ca142 rfl (ihd g3 (l++[s]) _ st a2 n2 c2' H₂ Hx (by rw[hl3,p4.2.2.2,hg,strsV_app];rfl) (by rw[List.length_append];show l.length+1+d=nw;omega) (by rw[List.length_append];show _∧_≤3000*((l.length+1:Nat):Int);omega) (hcap0.le p1) p5 p6 hx)) (fun v H₃ hv=> ?_);obtain⟨_,H₄,g4,a4,n4,c4,r1,r2,r3,r4,r5⟩:=hv;refine Ta.expand r2 ?_;unfold stB;refine .dn ?_;refine U5 ?_;have hfin:=ih ⟨(H₄,i+1,_,g2,(a4,n4,c4)),View.le_trans p1 r1,by simp only;omega,p3,p4,r4,r5⟩ (by simp only;omega);refine Tc.permL (perm4 _ _ g2.bl _ _ _ g4.bl) ?_;exact Tc.db hfin
end
end Go.Proofs.YtldmfjcgjdchcaaGreatDoor
namespace Go.Proofs.YtldmfjcgjdchcaaGreatDoor
open Go.RL Go.Proofs.Tryz
set_option maxRecDepth 10000
theorem less_cons(a b:UInt8)(x y:List UInt8):Op.bytesLess (a::x) (b::y)=(decide (a<b)||(a==b&&Op.bytesLess x y)):=rfl
theorem less_nil(s:List UInt8):Op.bytesLess s []=false:=by cases s <;> rfl
theorem u8_lt {a b:UInt8}:a<b↔a.toNat<b.toNat:=UInt8.lt_iff_toNat_lt
theorem less_trans:∀ {a b c:List UInt8},Op.bytesLess a b=true→Op.bytesLess b c=true→Op.bytesLess a c=true
 | _,[],_,h,_=> by rw[less_nil] at h;cases h
 | _,_::_,[],_,h=> by rw[less_nil] at h;cases h
 | [],_::_,_::_,_,_=> rfl
 | p ::a,q::b,r::c,h,k=> by
   rw[less_cons] at h k ⊢;simp only[Bool.or_eq_true,Bool.and_eq_true,decide_eq_true_eq,beq_iff_eq] at h k ⊢;rcases h with h|⟨rfl,h⟩
   · rcases k with k|⟨rfl,_⟩
     · exact .inl (UInt8.lt_trans h k)
     · exact .inl h
   · rcases k with k|⟨rfl,k⟩
     · exact .inl k
     · exact .inr ⟨rfl,less_trans h k⟩
theorem less_tri:∀ {a b:List UInt8},Op.bytesLess a b=false→Op.bytesLess b a=false→a=b
 | [],[],_,_=> rfl
 | [],_::_,h,_=> by cases h
 | _::_,[],_,h=> by cases h
 | p ::a,q::b,h,k=> by
   rw[less_cons] at h k;simp only[Bool.or_eq_false_iff,decide_eq_false_iff_not,Bool.and_eq_false_iff,beq_eq_false_iff_ne] at h k;have e:p=q:=by
     have h1:=h.1;have k1:=k.1;rw[u8_lt] at h1 k1;exact UInt8.toNat_inj.1 (by omega)
   subst e;have h2:=h.2.resolve_left (fun h=> h rfl);have k2:=k.2.resolve_left (fun h=> h rfl);rw[less_tri h2 k2]
theorem less_asym {a b:List UInt8}(h:Op.bytesLess a b=true):Op.bytesLess b a=false:=by
 cases k:Op.bytesLess b a with
 | false=> rfl
 | true=>
   have:=less_trans h k;rw[less_irr] at this;cases this
def rankS(S:List (List UInt8))(s:List UInt8):Nat:=S.countP fun t=> Op.bytesLess t s
theorem rank_le {a b:List UInt8}(h:Op.bytesLess a b=true):∀S:List (List UInt8),rankS S a≤rankS S b
 | []=> Nat.le_refl _
 | t ::S=> by
   have:=rank_le h S;unfold rankS at this ⊢;rw[List.countP_cons,List.countP_cons];by_cases k:Op.bytesLess t a=true
   · rw[if_pos k,if_pos (less_trans k h)];omega
   · rw[if_neg k];split <;> omega
theorem rank_lt {a b:List UInt8}(h:Op.bytesLess a b=true):∀S:List (List UInt8),a∈S→rankS S a<rankS S b
 | t ::S,hm=> by
   have hle:=rank_le h S;rcases List.mem_cons.1 hm with rfl|hm
   · unfold rankS at hle ⊢;rw[List.countP_cons,List.countP_cons,if_neg (by rw[less_irr];decide),if_pos h];omega
   · have:=rank_lt h S hm;unfold rankS at this ⊢;rw[List.countP_cons,List.countP_cons];by_cases k:Op.bytesLess t a=true
     · rw[if_pos k,if_pos (less_trans k h)];omega
     · rw[if_neg k];split <;> omega
def decS(S:List (List UInt8))(z:Int):List UInt8:=(S.find? fun s=> decide ((rankS S s:Int)=z)).getD []
theorem dec_rank {S:List (List UInt8)}{s:List UInt8}(h:s∈S):decS S (rankS S s:Nat)=s:=by
 unfold decS;cases hf:S.find? (fun t=> decide ((rankS S t:Int)=(rankS S s:Nat))) with
 | none=>
   have:=List.find?_eq_none.1 hf s h;simp at this
 | some t=>
   have h1:=List.mem_of_find?_eq_some hf;have h2:=List.find?_some hf;simp only[decide_eq_true_eq,Int.natCast_inj] at h2;show t=s;cases k:Op.bytesLess t s with
   | true=> have:=rank_lt k S h1;omega
   | false=>
     cases k2:Op.bytesLess s t with
     | true=> have:=rank_lt k2 S h;omega
     | false=> exact less_tri k k2
def codesS(S:List (List UInt8)):List Int:=S.map fun s=> ((rankS S s:Nat):Int)
theorem codes_dec(S:List (List UInt8)):(codesS S).map (decS S)=S:=by
 unfold codesS;rw[List.map_map];have:∀s∈S,(decS S∘fun s=> ((rankS S s:Nat):Int)) s=s:=fun s hs=> dec_rank hs;rw[List.map_congr_left this,List.map_id']
theorem codes_enc(S:List (List UInt8)):Enc (decS S) (codesS S):=by
 intro x hx y hy;obtain⟨s,hs,rfl⟩:=List.mem_map.1 hx;obtain⟨t,ht,rfl⟩:=List.mem_map.1 hy;rw[dec_rank hs,dec_rank ht];cases k:Op.bytesLess s t with
 | true=> exact(decide_eq_true (by have:=rank_lt k S hs;omega)).symm
 | false=>
   refine(decide_eq_false ?_).symm;intro hlt;cases k2:Op.bytesLess t s with
   | true=> have:=rank_lt k2 S ht;omega
   | false=>
     have:=less_tri k k2;subst this;omega
def leS(a b:List UInt8):Bool:=!Op.bytesLess b a
def insS(x:List UInt8):List (List UInt8)→List (List UInt8)
 | []=> [x]
 | y::t=> if leS x y then x::y::t else y::insS x t
def sortS:List (List UInt8)→List (List UInt8)
 | []=> []
 | x::t=> insS x (sortS t)
theorem insS_perm(x:List UInt8):∀l,(insS x l).Perm (x::l)
 | []=> .refl _
 | y::t=> by
   unfold insS;split
   · exact .refl _
   · exact(List.Perm.cons y (insS_perm x t)).trans (.swap ..)
theorem sortS_perm:∀l,(sortS l).Perm l
 | []=> .refl _
 | x::t=> (insS_perm x _).trans (.cons x (sortS_perm t))
theorem leS_trans {a b c:List UInt8}(h:leS a b=true)(k:leS b c=true):leS a c=true:=by
 unfold leS at *;simp only[Bool.not_eq_true'] at *;cases e:Op.bytesLess c a with
 | false=> rfl
 | true=>
   cases e2:Op.bytesLess b c with
   | true=> rw[less_trans e2 e] at h;cases h
   | false=>
     have:=less_tri e2 k;subst this;rw[e] at h;cases h
theorem leS_total {a b:List UInt8}(h:leS a b=false):leS b a=true:=by
 unfold leS at *;simp only[Bool.not_eq_true',Bool.not_eq_false'] at *;exact less_asym h
theorem insS_sorted(x:List UInt8):∀l:List (List UInt8),l.Pairwise (fun a b=> leS a b=true)→(insS x l).Pairwise (fun a b=> leS a b=true)
 | [],_=> List.pairwise_singleton _ _
 | y ::t,h=> by
   obtain⟨h1,h2⟩:=List.pairwise_cons.1 h;unfold insS;split
   · rename_i hx
     refine List.pairwise_cons.2 ⟨fun z hz=> ?_,h⟩;rcases List.mem_cons.1 hz with rfl|hz
     · exact hx
     · exact leS_trans hx (h1 z hz)
   · rename_i hx
     refine List.pairwise_cons.2 ⟨fun z hz=> ?_,insS_sorted x t h2⟩;rcases List.mem_cons.1 ((insS_perm x t).mem_iff.1 hz) with rfl|hz
     · exact leS_total (by simpa using hx)
     · exact h1 z hz
theorem sortS_sorted:∀l:List (List UInt8),(sortS l).Pairwise (fun a b=> leS a b=true)
 | []=> List.Pairwise.nil
 | x::t=> insS_sorted x _ (sortS_sorted t)
theorem sorted_uniq {l m:List (List UInt8)}(h:l.Perm m)(hl:l.Pairwise (fun a b=> leS a b=true))(hm:m.Pairwise (fun a b=> leS a b=true)):l=m:=
 List.Perm.eq_of_pairwise (le:=fun a b=> leS a b=true) (fun a b _ _ h1 h2=> by
   unfold leS at h1 h2;simp only[Bool.not_eq_true'] at h1 h2;exact less_tri h2 h1) hl hm h
theorem codes_sorted {S:List (List UInt8)}{m:List Int}{n:Nat}(hn:n=S.length)(ht:Turned 0 n (codesS S) m)(hs:Srt 0 n m):m.map (decS S)=sortS S:=by
 have hpm:m.Perm (codesS S):=List.perm_iff_count.2 ht.cnt;have hp:(m.map (decS S)).Perm S:=by
   have:=hpm.map (decS S)
   rwa [codes_dec] at this
 refine sorted_uniq (hp.trans (sortS_perm S).symm) ?_ (sortS_sorted S);rw[List.pairwise_map,List.pairwise_iff_getElem];intro i j hi hj hij;have hml:m.length=n:=by rw[ht.len,hn];simp[codesS]
 have h1:=hs i j (Nat.zero_le _) hij (by omega);unfold at0 at h1;rw[List.getElem?_eq_getElem hi,List.getElem?_eq_getElem hj] at h1;simp only[Option.getD_some] at h1;have h2:=(codes_enc S).turned ht m[j] (List.getElem_mem hj) m[i] (List.getElem_mem hi);unfold leS;rw[h2,decide_eq_false (by omega)];rfl
theorem strsL_codes(S:List (List UInt8)):strsL (decS S) (codesS S)=S.map strV:=by
 have:=congrArg (List.map strV) (codes_dec S);rw[List.map_map] at this;exact this
theorem strsL_map(dec:Int→List UInt8)(m:List Int):strsL dec m=(m.map dec).map strV:=by
 rw[List.map_map];rfl
theorem blockVia {P:Program}{M:Md P}{St:View→Goroutine→Prop}{n:Nat}{b:FB}{H₀:View}{cs:List Frame}{R:Rg}{L:Bl}{ds:List Deferred}{k:List Item}{id:Nat}{x:Code}(F:Rg→Bl→Prop)(hF:∀R L,F R L→Tc M St n b H₀ cs R L ds k)
   (h:(∀R L,F R L→Tc M St n b H₀ cs R L ds k)→Tc M St n b H₀ cs R L ds (.code x:: .inBlock id::k)):Tc M St n b H₀ cs R L ds (.code (.block id x)::k):=.block (h hF)
def Ahead(a b:Nat)(u:List Int):Prop:=a=0∨∀i,a≤i→i<b→at0 u (a-1)≤at0 u i
theorem srt_swap {a i p q:Nat}{w:List Int}(hp:i≤p∧p<w.length)(hq:i≤q∧q<w.length)(h:Srt a i w):Srt a i (swapL w p q):=fun x y h1 h2 h3=> by
 rw[swapL_at hp.2 hq.2,swapL_at hp.2 hq.2,if_neg (by omega),if_neg (by omega),if_neg (by omega),if_neg (by omega)];exact h x y h1 h2 h3
theorem srt_snoc {a i:Nat}{u:List Int}(h:Srt a i u)(hi:a<i)(hle:¬at0 u i<at0 u (i-1)):Srt a (i+1) u:=fun p q h1 h2 h3=> by
 by_cases e:q=i
 · subst e;by_cases e2:p=q-1
   · rw[e2];omega
   · have:=h p (q-1) h1 (by omega) (by omega);omega
 · exact h p q h1 h2 (by omega)
theorem at0_some {l:List Int}{i:Nat}(h:i<l.length):l[i]? =some (at0 l i):=by
 unfold at0;rw[List.getElem?_eq_getElem h];rfl
theorem Turned.get {a b:Nat}{l m:List Int}(h:Turned a b l m){i:Nat}(hi:i<a∨b≤i):m[i]? =l[i]? :=by
 by_cases c:i<l.length
 · rw[at0_some c,at0_some (by rw[h.len];exact c),h.out i hi]
 · have hl:=h.len;rw[List.getElem?_eq_none (by omega),List.getElem?_eq_none (by omega)]
theorem parts_eq(l:List Int){a b:Nat}(hab:a≤b):l=l.take a++((l.drop a).take (b-a)++l.drop b):=by
 have h1:l.drop b=(l.drop a).drop (b-a):=by rw[List.drop_drop];congr 1;omega
 rw[h1,List.take_append_drop,List.take_append_drop]
theorem Turned.mid {a b:Nat}{l m:List Int}(h:Turned a b l m)(hab:a≤b)(x:Int):((m.drop a).take (b-a)).count x=((l.drop a).take (b-a)).count x:=by
 have e1:m.take a=l.take a:=by
   apply List.ext_getElem?
   intro i;by_cases c:i<a
   · rw[List.getElem?_take_of_lt c,List.getElem?_take_of_lt c];exact h.get (.inl c)
   · rw[List.getElem?_eq_none (by rw[List.length_take];omega),List.getElem?_eq_none (by rw[List.length_take];omega)]
 have e2:m.drop b=l.drop b:=by
   apply List.ext_getElem?
   intro i;rw[List.getElem?_drop,List.getElem?_drop];exact h.get (.inr (by omega))
 have h1:=h.cnt x;have h2:=congrArg (List.count x) (parts_eq m hab);have h3:=congrArg (List.count x) (parts_eq l hab);simp only[List.count_append] at h2 h3;rw[e1,e2] at h2;omega
theorem Turned.all {a b:Nat}{l m:List Int}(h:Turned a b l m)(hb:b≤l.length){P:Int→Prop}(hP:∀p,a≤p→p<b→P (at0 l p)):∀p,a≤p→p<b→P (at0 m p):=fun p h1 h2=> by
 have g1:at0 m p∈(m.drop a).take (b-a):=by
   rw[List.mem_iff_getElem?];refine⟨p-a,?_⟩;rw[List.getElem?_take_of_lt (by omega),List.getElem?_drop,show a+(p-a)=p by omega];exact at0_some (by rw[h.len];omega)
 have g2:at0 m p∈(l.drop a).take (b-a):=by
   rw[←List.count_pos_iff,←h.mid (by omega)];exact List.count_pos_iff.2 g1
 obtain⟨i,hi⟩:=List.mem_iff_getElem?.1 g2;have hlt:i<b-a:=by
   have:=(List.getElem?_eq_some_iff.1 hi).1;rw[List.length_take] at this;omega
 rw[List.getElem?_take_of_lt hlt,List.getElem?_drop,at0_some (by omega)] at hi;have:=Option.some.inj hi;rw[←this];exact hP (a+i) (by omega) (by omega)
theorem Ahead.turn {a b:Nat}{u w:List Int}(h:Ahead a b u)(k:Turned a b u w)(hb:b≤u.length):Ahead a b w:=by
 rcases h with h|h
 · exact .inl h
 · by_cases h0:a=0
   · exact .inl h0
   · refine .inr fun i h1 h2=> ?_;rw[k.out (a-1) (.inl (by omega))];exact k.all hb (P:=fun x=> at0 u (a-1)≤x) h i h1 h2
def Heap(f lo hi:Nat)(l:List Int):Prop:=∀k c,lo≤k→(c=2*k+1∨c=2*k+2)→c<hi→at0 l (f+c)≤at0 l (f+k)
def HeapBut(f lo hi r:Nat)(l:List Int):Prop:=
 (∀k c,lo≤k→k≠r→(c=2*k+1∨c=2*k+2)→c<hi→at0 l (f+c)≤at0 l (f+k))∧
 (∀k c,lo≤k→(r=2*k+1∨r=2*k+2)→(c=2*r+1∨c=2*r+2)→c<hi→at0 l (f+c)≤at0 l (f+k))
theorem Heap.top {f hi:Nat}{l:List Int}(h:Heap f 0 hi l):∀k,k<hi→at0 l (f+k)≤at0 l f:=by
 intro k;induction k using Nat.strongRecOn with
 | ind k ih=>
   intro hk;by_cases h0:k=0
   · subst h0;exact Int.le_refl _
   · have h1:=h ((k-1)/2) k (Nat.zero_le _) (by omega) hk;have h2:=ih ((k-1)/2) (by omega) (by omega);omega
theorem HeapBut.fin {f lo hi r:Nat}{l:List Int}(h:HeapBut f lo hi r l)(hr:∀c,(c=2*r+1∨c=2*r+2)→c<hi→at0 l (f+c)≤at0 l (f+r)):Heap f lo hi l:=fun k c h1 h2 h3=> by
 by_cases e:k=r
 · subst e;exact hr c h2 h3
 · exact h.1 k c h1 e h2 h3
theorem HeapBut.step {f lo hi r c:Nat}{l:List Int}(h:HeapBut f lo hi r l)(hl:f+hi≤l.length)(hlr:lo≤r)(hc:c=2*r+1∨c=2*r+2)(hch:c<hi)(hlt:at0 l (f+r)<at0 l (f+c))
   (hmax:∀d,(d=2*r+1∨d=2*r+2)→d<hi→at0 l (f+d)≤at0 l (f+c)):HeapBut f lo hi c (swapL l (f+r) (f+c)):=by
 have hs:=fun q=> swapL_at (l:=l) (p:=f+r) (q:=f+c) (by omega) (by omega) q;refine⟨fun k d h1 h2 h3 h4=> ?_,fun k d h1 h2 h3 h4=> ?_⟩
 · rw[hs,hs,if_neg (show ¬f+k=f+c by omega)];by_cases e:k=r
   · subst e;rw[if_pos rfl];by_cases e2:d=c
     · subst e2;rw[if_pos rfl];omega
     · rw[if_neg (by omega),if_neg (by omega)];exact hmax d h3 h4
   · rw[if_neg (show ¬f+k=f+r by omega)];by_cases e2:d=c
     · omega
     · rw[if_neg (by omega)];by_cases e3:d=r
       · subst e3;rw[if_pos rfl];exact h.2 k c h1 h3 hc hch
       · rw[if_neg (by omega)];exact h.1 k d h1 e h3 h4
 · have e:k=r:=by omega
   subst e;rw[hs,hs,if_neg (by omega),if_neg (by omega),if_neg (by omega),if_pos rfl];exact h.1 c d (by omega) (by omega) h3 h4
structure Pti(a b i j:Nat)(u:List Int):Prop where
 ai:a+1≤i
 ij:i≤j+1
 jb:j<b
 aj:a≤j
 lo:∀k,a<k→k<i→at0 u k<at0 u a
 hi:∀k,j<k→k<b→at0 u a≤at0 u k
theorem Pti.start {a b:Nat}{u:List Int}(h:a<b):Pti a b (a+1) (b-1) u:=⟨Nat.le_refl _,by omega,by omega,by omega,fun k h1 h2=> by omega,fun k h1 h2=> by omega⟩
theorem Pti.up {a b i j:Nat}{u:List Int}(h:Pti a b i j u)(hij:i≤j)(hlt:at0 u i<at0 u a):Pti a b (i+1) j u:=
 ⟨by have:=h.ai;omega,by omega,h.jb,h.aj,fun k h1 h2=> by
   by_cases e:k=i
   · rw[e];exact hlt
   · exact h.lo k h1 (by omega),h.hi⟩
theorem Pti.down {a b i j:Nat}{u:List Int}(h:Pti a b i j u)(hij:i≤j)(hge:¬at0 u j<at0 u a):Pti a b i (j-1) u:=
 ⟨h.ai,by omega,by have:=h.jb;omega,by have:=h.ai;omega,h.lo,fun k h1 h2=> by
   by_cases e:k=j
   · rw[e];omega
   · exact h.hi k (by omega) h2⟩
theorem Pti.swap {a b i j:Nat}{u:List Int}(h:Pti a b i j u)(hl:b≤u.length)(hij:i≤j)(h1:¬at0 u i<at0 u a)(h2:at0 u j<at0 u a):i<j∧Pti a b (i+1) (j-1) (swapL u i j):=by
 have ha:=h.ai;have hb:=h.jb;have hne:i≠j:=by
   rintro rfl;omega
 have hs:=fun q=> swapL_at (l:=u) (p:=i) (q:=j) (by omega) (by omega) q;have h0:at0 (swapL u i j) a=at0 u a:=by rw[hs,if_neg (by omega),if_neg (by omega)]
 refine⟨by omega,⟨by omega,by omega,by omega,by omega,fun k h3 h4=> ?_,fun k h3 h4=> ?_⟩⟩
 · rw[h0,hs,if_neg (by omega)];by_cases e:k=i
   · rw[if_pos e];exact h2
   · rw[if_neg e];exact h.lo k h3 (by omega)
 · rw[h0,hs];by_cases e:k=j
   · rw[if_pos e];omega
   · rw[if_neg e,if_neg (by omega)];exact h.hi k (by omega) h4
structure Part(a b j:Nat)(u:List Int):Prop where
 aj:a≤j
 jb:j<b
 lo:∀k,a≤k→k<j→at0 u k<at0 u j
 hi:∀k,j<k→k<b→at0 u j≤at0 u k
theorem Pti.fin {a b i j:Nat}{u:List Int}(h:Pti a b i j u)(hl:b≤u.length)(hij:j<i):Part a b j (swapL u j a):=by
 have ha:=h.ai;have hb:=h.jb;have hj:=h.aj;have hi:=h.ij;have hs:=fun q=> swapL_at (l:=u) (p:=j) (q:=a) (by omega) (by omega) q;have h0:at0 (swapL u j a) j=at0 u a:=by
   rw[hs];by_cases e:j=a
   · rw[if_pos e,e]
   · rw[if_neg e,if_pos rfl]
 refine⟨hj,hb,fun k h3 h4=> ?_,fun k h3 h4=> ?_⟩
 · rw[h0,hs];by_cases e:k=a
   · rw[if_pos e];exact h.lo j (by omega) (by omega)
   · rw[if_neg e,if_neg (by omega)];exact h.lo k (by omega) (by omega)
 · rw[h0,hs,if_neg (by omega),if_neg (by omega)];exact h.hi k h3 h4
theorem Part.sorted {a b j:Nat}{u m w:List Int}(h:Part a b j u)(hl:b≤u.length)(h1:Turned a j u m)(s1:Srt a j m)(h2:Turned (j+1) b m w)(s2:Srt (j+1) b w):Turned a b u w∧Srt a b w:=by
 have hj:=h.aj;have hb:=h.jb;have hml:=h1.len;refine⟨(h1.wide (Nat.le_refl _) (by omega)).trans (h2.wide (by omega) (Nat.le_refl _)),fun p q g1 g2 g3=> ?_⟩;have ej:at0 w j=at0 u j:=by rw[h2.out j (.inl (by omega)),h1.out j (.inr (Nat.le_refl _))]
 have lo:∀k,a≤k→k<j→at0 w k≤at0 u j:=fun k c1 c2=> by
   rw[h2.out k (.inl (by omega))];exact h1.all (by omega) (P:=fun x=> x≤at0 u j) (fun k c3 c4=> Int.le_of_lt (h.lo k c3 c4)) k c1 c2
 have hi:∀k,j<k→k<b→at0 u j≤at0 w k:=fun k c1 c2=>
   h2.all (by omega) (P:=fun x=> at0 u j≤x) (fun k c3 c4=> by rw[h1.out k (.inr (by omega))];exact h.hi k (by omega) c4) k (by omega) c2
 by_cases c1:q<j
 · rw[h2.out p (.inl (by omega)),h2.out q (.inl (by omega))];exact s1 p q g1 g2 c1
 · by_cases c2:q=j
   · rw[c2,ej];exact lo p g1 (by omega)
   · by_cases c3:p<j
     · exact Int.le_trans (lo p g1 c3) (hi q (by omega) g3)
     · by_cases c4:p=j
       · rw[c4,ej];exact hi q (by omega) g3
       · exact s2 p q (by omega) g2 g3
theorem Part.sorted2 {a b j:Nat}{u m w:List Int}(h:Part a b j u)(hl:b≤u.length)(h1:Turned (j+1) b u m)(s1:Srt (j+1) b m)(h2:Turned a j m w)(s2:Srt a j w):Turned a b u w∧Srt a b w:=by
 have hj:=h.aj;have hb:=h.jb;have hml:=h1.len;refine⟨(h1.wide (by omega) (Nat.le_refl _)).trans (h2.wide (Nat.le_refl _) (by omega)),fun p q g1 g2 g3=> ?_⟩;have ej:at0 w j=at0 u j:=by rw[h2.out j (.inr (Nat.le_refl _)),h1.out j (.inl (by omega))]
 have lo:∀k,a≤k→k<j→at0 w k≤at0 u j:=fun k c1 c2=>
   h2.all (by omega) (P:=fun x=> x≤at0 u j) (fun k c3 c4=> by rw[h1.out k (.inl (by omega))];exact Int.le_of_lt (h.lo k c3 c4)) k c1 c2
 have hi:∀k,j<k→k<b→at0 u j≤at0 w k:=fun k c1 c2=> by
   rw[h2.out k (.inr (by omega))];exact h1.all (by omega) (P:=fun x=> at0 u j≤x) (fun k c3 c4=> h.hi k (by omega) c4) k (by omega) c2
 by_cases c1:q<j
 · exact s2 p q g1 g2 c1
 · by_cases c2:q=j
   · rw[c2,ej];exact lo p g1 (by omega)
   · by_cases c3:p<j
     · exact Int.le_trans (lo p g1 c3) (hi q (by omega) g3)
     · by_cases c4:p=j
       · rw[c4,ej];exact hi q (by omega) g3
       · rw[h2.out p (.inr (by omega)),h2.out q (.inr (by omega))];exact s1 p q (by omega) g2 g3
set_option maxHeartbeats 8000000
section
variable(M:Md prog)(H:View)
theorem reverseS_c(dec:Int→List UInt8)(sb:Nat)(l:List Int)(jj:List Value)(n cap a b:Nat)(hn:n=l.length)(hb:b≤n)(h1000:n≤100000000)(ha:a<b)(hS:H sb=some (true,.cells ⟨(strsL dec l)++jj⟩ 9 (0,0))):
   CallT M 260 #[.slice (some ⟨sb,0,none⟩) n cap,.int .i64 (a:Nat),.int .i64 (b:Nat)] H (SortSQ dec H sb jj (fun v m=> v=.tuple ⟨[]⟩∧Turned a b l m)):=by
 refine CallT.enter (vs:= [.slice (some ⟨sb,0,none⟩) n cap,.int .i64 (a:Nat),.int .i64 (b:Nat)]) func260 rfl ntmps260 (Nat.le_of_ble_eq_true rfl) (SymSt.pull hS) fun St c cs hK=> ?_;have hb1:((b:Nat):Int)-1=((b-1:Nat):Int):=by omega
 refine U11 ?_;rw[hb1];refine U ?_;refine Tc.db (Tc.loopInv (σ:= { s:Nat×Nat×List Int//a≤s.1∧s.1≤b∧a≤s.2.1∧s.2.1<b∧Turned a b l s.2.2 }) (fun s=> ([(0,.slice (some ⟨sb,0,none⟩) n cap),(6,.int .i64 (s.1.1:Nat)),(7,.int .i64 (s.1.2.1:Nat))],[(sb,true,.cells ⟨(strsL dec s.1.2.2)++jj⟩ 9 (0,0))])) (fun s=> s.1.2.1) ?_
   ⟨(a,b-1,l),by simp,by simp only;omega,by simp only;omega,by simp only;omega,Turned.refl ..⟩)
 rintro⟨⟨i,j,u⟩,g1,g2,g3,g4,g5⟩ ih;simp only at g1 g2 g3 g4 g5;show Tc M St _ _ _ _ [(0,.slice (some ⟨sb,0,none⟩) n cap),(6,.int .i64 (i:Nat)),(7,.int .i64 (j:Nat))] [(sb,true,.cells ⟨(strsL dec u)++jj⟩ 9 (0,0))] _ _;have hul:=g5.len;by_cases c1:i<j
 · have e1:((j:Nat):Int)-1=((j-1:Nat):Int):=by omega
   have k1:=cellsS_ld (dec:=dec) (m:=u) (j:=jj) (k:=(i:Nat)) (p:=i) rfl (by omega);have k2:=cellsS_ld (dec:=dec) (m:=u) (j:=jj) (k:=(j:Nat)) (p:=j) rfl (by omega);have s1:=cellsS_st (dec:=dec) (m:=u) (j:=jj) (k:=(i:Nat)) (x:=at0 u j) (p:=i) rfl (by omega);have s2:=cellsS_st (dec:=dec) (m:=u.set i (at0 u j)) (j:=jj) (k:=(j:Nat)) (x:=at0 u i) (p:=j) rfl (by rw[List.length_set];omega);have l1:=cellsS_le (dec:=dec) (m:=u) (j:=jj) (k:=(i:Nat)) (p:=i) rfl (by omega);have l2:=cellsS_le (dec:=dec) (m:=u.set i (at0 u j)) (j:=jj) (k:=(j:Nat)) (p:=j) rfl (by rw[List.length_set];omega);refine U11 ?_;refine Tc.dr [13,15] [0] mixed rfl ?_;refine .nn 0 ?_;refine .nn 1 ?_;refine .nw 2 ?_;refine .nw 3 ?_;refine .nn 4 ?_;refine .nn 5 ?_;refine .nn 6 ?_;refine .nn 7 ?_;refine .nw 8 ?_;refine .nw 9 ?_;refine .nw 10 ?_;refine .nn 11 ?_;refine .nn 12 ?_;refine .e 13 0 ?_;refine .nw 14 ?_;refine .e 15 0 ?_;refine .dn ?_;refine U11 ?_;rw[e1];refine U ?_;exact Tc.db (ih ⟨(i+1,j-1,swapL u i j),by simp only;omega,by simp only;omega,by simp only;omega,by simp only;omega,g5.trans (Turned.swap (by omega) (by omega) (by omega) (by omega))⟩ (by simp only;omega))
 · refine U9 ?_;refine .ov hK func260 results260 [] ?_;exact fun H' hs=> SortSQ.of (dec:=dec) hs (i:=0) rfl ⟨rfl,g5⟩
end
section
variable(M:Md prog)(H:View)
theorem siftDownS_c(dec:Int→List UInt8)(sb:Nat)(l:List Int)(jj:List Value)(n cap lo hi f:Nat)(hn:n=l.length)(hE:Enc dec l)(hf:f+hi≤n)(h1000:n≤100000000)(hlo:lo≤hi)(hH:HeapBut f lo hi lo l)(hS:H sb=some (true,.cells ⟨(strsL dec l)++jj⟩ 9 (0,0))):
   CallT M 301 #[.slice (some ⟨sb,0,none⟩) n cap,.int .i64 (lo:Nat),.int .i64 (hi:Nat),.int .i64 (f:Nat)] H (SortSQ dec H sb jj (fun v m=> v=.tuple ⟨[]⟩∧Turned f (f+hi) l m∧Heap f lo hi m)):=by
 refine CallT.enter (vs:= [.slice (some ⟨sb,0,none⟩) n cap,.int .i64 (lo:Nat),.int .i64 (hi:Nat),.int .i64 (f:Nat)]) func301 rfl ntmps301 (Nat.le_of_ble_eq_true rfl) (SymSt.pull hS) fun St c cs hK=> ?_;refine U6 ?_;refine Tc.db (Tc.loopInv (σ:= { s:Nat×List Int//lo≤s.1∧s.1≤hi∧Turned f (f+hi) l s.2∧HeapBut f lo hi s.1 s.2 }) (fun s=> ([(0,.slice (some ⟨sb,0,none⟩) n cap),(2,.int .i64 (hi:Nat)),(3,.int .i64 (f:Nat)),(8,.int .i64 (s.1.1:Nat))],[(sb,true,.cells ⟨(strsL dec s.1.2)++jj⟩ 9 (0,0))])) (fun s=> hi-s.1.1) ?_
   ⟨(lo,l),Nat.le_refl _,hlo,Turned.refl ..,hH⟩)
 rintro⟨⟨r,u⟩,g1,g2,g3,g4⟩ ih;simp only at g1 g2 g3 g4;have hul:=g3.len;have hEu:=hE.turned g3;have e1:2*((r:Nat):Int)+1=((2*r+1:Nat):Int):=by omega
 have e2:((2*r+1:Nat):Int)+1=((2*r+2:Nat):Int):=by omega
 show Tc M St _ _ _ _ [(0,.slice (some ⟨sb,0,none⟩) n cap),(2,.int .i64 (hi:Nat)),(3,.int .i64 (f:Nat)),(8,.int .i64 (r:Nat))] [(sb,true,.cells ⟨(strsL dec u)++jj⟩ 9 (0,0))] _ _;refine U4 ?_;refine .i ?_ (z:=mul_in (by omega) (by omega));refine U3 ?_;rw[e1];by_cases c0:2*r+1<hi
 · by_cases d1:2*r+2<hi
   · have k1:=cellsS_ld (dec:=dec) (m:=u) (j:=jj) (k:=(f:Nat)+((2*r+1:Nat):Int)) (p:=f+(2*r+1)) (by omega) (by omega);have k2:=cellsS_ld (dec:=dec) (m:=u) (j:=jj) (k:=(f:Nat)+((2*r+1:Nat):Int)+1) (p:=f+(2*r+2)) (by omega) (by omega);by_cases d2:at0 u (f+(2*r+1))<at0 u (f+(2*r+2))
     · have hmax:∀d,(d=2*r+1∨d=2*r+2)→d<hi→at0 u (f+d)≤at0 u (f+(2*r+2)):=by rintro d (rfl|rfl) _ <;> omega
       refine U11 ?_;refine Tc.dr [] [] mixed rfl ?_;refine .nn 0 ?_;refine .nn 1 ?_;refine .nn 2 ?_;refine .nn 3 ?_;refine .nn 4 ?_;refine .nn 5 ?_;refine .nn 6 ?_;refine .nn 7 ?_;refine .nn 8 ?_;refine .nn 9 ?_;refine .nn 10 ?_;refine .nn 11 ?_;refine .nn 12 ?_;refine .nn 13 ?_;refine .nn 14 ?_;refine .nn 15 ?_;refine .nn 16 ?_;refine .nn 17 ?_;refine .z 18 rfl (OpV.takeCall rfl rfl rfl rfl (fun H hs=> .h (lessS M H hEu (at0_mem (by omega)) (at0_mem (by omega)) true (decide_eq_true d2)))) ?_;refine .nn 19 ?_;refine .dn ?_;refine U6 ?_;rw[e2];refine U2 ?_;have hcv:2*r+2<hi:=by omega
       have k3:=cellsS_ld (dec:=dec) (m:=u) (j:=jj) (k:=(f:Nat)+(r:Nat)) (p:=f+r) (by omega) (by omega);have k4:=cellsS_ld (dec:=dec) (m:=u) (j:=jj) (k:=(f:Nat)+((2*r+2:Nat):Int)) (p:=f+(2*r+2)) (by omega) (by omega);by_cases d3:at0 u (f+r)<at0 u (f+(2*r+2))
       · have s1:=cellsS_st (dec:=dec) (m:=u) (j:=jj) (k:=(f:Nat)+(r:Nat)) (x:=at0 u (f+(2*r+2))) (p:=f+r) (by omega) (by omega);have s2:=cellsS_st (dec:=dec) (m:=u.set (f+r) (at0 u (f+(2*r+2)))) (j:=jj) (k:=(f:Nat)+((2*r+2:Nat):Int)) (x:=at0 u (f+r)) (p:=f+(2*r+2)) (by omega) (by rw[List.length_set];omega);have l1:=cellsS_le (dec:=dec) (m:=u) (j:=jj) (k:=(f:Nat)+(r:Nat)) (p:=f+r) (by omega) (by omega);have l2:=cellsS_le (dec:=dec) (m:=u.set (f+r) (at0 u (f+(2*r+2)))) (j:=jj) (k:=(f:Nat)+((2*r+2:Nat):Int)) (p:=f+(2*r+2)) (by omega) (by rw[List.length_set];omega);refine Tc.dr [] [] mixed rfl ?_;refine .nn 0 ?_;refine .nn 1 ?_;refine .nn 2 ?_;refine .nn 3 ?_;refine .nn 4 ?_;refine .nn 5 ?_;refine .nn 6 ?_;refine .nn 7 ?_;refine .nn 8 ?_;refine .nn 9 ?_;refine .nn 10 ?_;refine .nn 11 ?_;refine .z 12 rfl (OpV.takeCall rfl rfl rfl rfl (fun H hs=> .h (lessS M H hEu (at0_mem (by omega)) (at0_mem (by omega)) true (decide_eq_true d3)))) ?_;refine .nn 13 ?_;refine .dn ?_;refine U3 ?_;refine Tc.dr [21,23] [0] mixed rfl ?_;refine .nn 0 ?_;refine .nn 1 ?_;refine .nn 2 ?_;refine .nn 3 ?_;refine .nw 4 ?_;refine .nw 5 ?_;refine .nw 6 ?_;refine .nw 7 ?_;refine .nn 8 ?_;refine .nn 9 ?_;refine .nn 10 ?_;refine .nn 11 ?_;refine .nn 12 ?_;refine .nn 13 ?_;refine .nw 14 ?_;refine .nw 15 ?_;refine .nw 16 ?_;refine .nw 17 ?_;refine .nw 18 ?_;refine .nn 19 ?_;refine .nn 20 ?_;refine .e 21 0 ?_;refine .nw 22 ?_;refine .e 23 0 ?_;refine .dn ?_;refine U5 ?_;exact Tc.db (ih ⟨(2*r+2,swapL u (f+r) (f+(2*r+2))),by simp only;omega,by simp only;omega,g3.trans (Turned.swap (by omega) (by omega) (by omega) (by omega)),g4.step (by omega) g1 (by omega) hcv d3 hmax⟩ (by simp only;omega))
       · refine Tc.dr [] [] mixed rfl ?_;refine .nn 0 ?_;refine .nn 1 ?_;refine .nn 2 ?_;refine .nn 3 ?_;refine .nn 4 ?_;refine .nn 5 ?_;refine .nn 6 ?_;refine .nn 7 ?_;refine .nn 8 ?_;refine .nn 9 ?_;refine .nn 10 ?_;refine .nn 11 ?_;refine .z 12 rfl (OpV.takeCall rfl rfl rfl rfl (fun H hs=> .h (lessS M H hEu (at0_mem (by omega)) (at0_mem (by omega)) false (decide_eq_false d3)))) ?_;refine .nn 13 ?_;refine .dn ?_;refine U ?_;refine .rt hK func301 results301 [] ?_;exact fun H' hs=> SortSQ.of (dec:=dec) hs (i:=0) rfl ⟨rfl,g3,g4.fin (fun d h1 h2=> by have:=hmax d h1 h2;omega)⟩
     · have hmax:∀d,(d=2*r+1∨d=2*r+2)→d<hi→at0 u (f+d)≤at0 u (f+(2*r+1)):=by rintro d (rfl|rfl) _ <;> omega
       refine U11 ?_;refine Tc.dr [] [] mixed rfl ?_;refine .nn 0 ?_;refine .nn 1 ?_;refine .nn 2 ?_;refine .nn 3 ?_;refine .nn 4 ?_;refine .nn 5 ?_;refine .nn 6 ?_;refine .nn 7 ?_;refine .nn 8 ?_;refine .nn 9 ?_;refine .nn 10 ?_;refine .nn 11 ?_;refine .nn 12 ?_;refine .nn 13 ?_;refine .nn 14 ?_;refine .nn 15 ?_;refine .nn 16 ?_;refine .nn 17 ?_;refine .z 18 rfl (OpV.takeCall rfl rfl rfl rfl (fun H hs=> .h (lessS M H hEu (at0_mem (by omega)) (at0_mem (by omega)) false (decide_eq_false d2)))) ?_;refine .nn 19 ?_;refine .dn ?_;refine U4 ?_;have hcv:2*r+1<hi:=by omega
       have k3:=cellsS_ld (dec:=dec) (m:=u) (j:=jj) (k:=(f:Nat)+(r:Nat)) (p:=f+r) (by omega) (by omega);have k4:=cellsS_ld (dec:=dec) (m:=u) (j:=jj) (k:=(f:Nat)+((2*r+1:Nat):Int)) (p:=f+(2*r+1)) (by omega) (by omega);by_cases d3:at0 u (f+r)<at0 u (f+(2*r+1))
       · have s1:=cellsS_st (dec:=dec) (m:=u) (j:=jj) (k:=(f:Nat)+(r:Nat)) (x:=at0 u (f+(2*r+1))) (p:=f+r) (by omega) (by omega);have s2:=cellsS_st (dec:=dec) (m:=u.set (f+r) (at0 u (f+(2*r+1)))) (j:=jj) (k:=(f:Nat)+((2*r+1:Nat):Int)) (x:=at0 u (f+r)) (p:=f+(2*r+1)) (by omega) (by rw[List.length_set];omega);have l1:=cellsS_le (dec:=dec) (m:=u) (j:=jj) (k:=(f:Nat)+(r:Nat)) (p:=f+r) (by omega) (by omega);have l2:=cellsS_le (dec:=dec) (m:=u.set (f+r) (at0 u (f+(2*r+1)))) (j:=jj) (k:=(f:Nat)+((2*r+1:Nat):Int)) (p:=f+(2*r+1)) (by omega) (by rw[List.length_set];omega);refine Tc.dr [] [] mixed rfl ?_;refine .nn 0 ?_;refine .nn 1 ?_;refine .nn 2 ?_;refine .nn 3 ?_;refine .nn 4 ?_;refine .nn 5 ?_;refine .nn 6 ?_;refine .nn 7 ?_;refine .nn 8 ?_;refine .nn 9 ?_;refine .nn 10 ?_;refine .nn 11 ?_;refine .z 12 rfl (OpV.takeCall rfl rfl rfl rfl (fun H hs=> .h (lessS M H hEu (at0_mem (by omega)) (at0_mem (by omega)) true (decide_eq_true d3)))) ?_;refine .nn 13 ?_;refine .dn ?_;refine U3 ?_;refine Tc.dr [21,23] [0] mixed rfl ?_;refine .nn 0 ?_;refine .nn 1 ?_;refine .nn 2 ?_;refine .nn 3 ?_;refine .nw 4 ?_;refine .nw 5 ?_;refine .nw 6 ?_;refine .nw 7 ?_;refine .nn 8 ?_;refine .nn 9 ?_;refine .nn 10 ?_;refine .nn 11 ?_;refine .nn 12 ?_;refine .nn 13 ?_;refine .nw 14 ?_;refine .nw 15 ?_;refine .nw 16 ?_;refine .nw 17 ?_;refine .nw 18 ?_;refine .nn 19 ?_;refine .nn 20 ?_;refine .e 21 0 ?_;refine .nw 22 ?_;refine .e 23 0 ?_;refine .dn ?_;refine U5 ?_;exact Tc.db (ih ⟨(2*r+1,swapL u (f+r) (f+(2*r+1))),by simp only;omega,by simp only;omega,g3.trans (Turned.swap (by omega) (by omega) (by omega) (by omega)),g4.step (by omega) g1 (by omega) hcv d3 hmax⟩ (by simp only;omega))
       · refine Tc.dr [] [] mixed rfl ?_;refine .nn 0 ?_;refine .nn 1 ?_;refine .nn 2 ?_;refine .nn 3 ?_;refine .nn 4 ?_;refine .nn 5 ?_;refine .nn 6 ?_;refine .nn 7 ?_;refine .nn 8 ?_;refine .nn 9 ?_;refine .nn 10 ?_;refine .nn 11 ?_;refine .z 12 rfl (OpV.takeCall rfl rfl rfl rfl (fun H hs=> .h (lessS M H hEu (at0_mem (by omega)) (at0_mem (by omega)) false (decide_eq_false d3)))) ?_;refine .nn 13 ?_;refine .dn ?_;refine U ?_;refine .rt hK func301 results301 [] ?_;exact fun H' hs=> SortSQ.of (dec:=dec) hs (i:=0) rfl ⟨rfl,g3,g4.fin (fun d h1 h2=> by have:=hmax d h1 h2;omega)⟩
   · have hmax:∀d,(d=2*r+1∨d=2*r+2)→d<hi→at0 u (f+d)≤at0 u (f+(2*r+1)):=by rintro d (rfl|rfl) _ <;> omega
     refine U11 ?_;refine Tc.dr [] [] mixed rfl ?_;refine .nn 0 ?_;refine .nn 1 ?_;refine .nn 2 ?_;refine .nn 3 ?_;refine .nn 4 ?_;refine .nw 5 ?_;refine .nw 6 ?_;refine .nw 7 ?_;refine .nw 8 ?_;refine .nw 9 ?_;refine .nw 10 ?_;refine .nw 11 ?_;refine .nw 12 ?_;refine .nw 13 ?_;refine .nw 14 ?_;refine .nw 15 ?_;refine .nw 16 ?_;refine .nw 17 ?_;refine .nw 18 ?_;refine .nn 19 ?_;refine .dn ?_;refine U4 ?_;have hcv:2*r+1<hi:=by omega
     have k3:=cellsS_ld (dec:=dec) (m:=u) (j:=jj) (k:=(f:Nat)+(r:Nat)) (p:=f+r) (by omega) (by omega);have k4:=cellsS_ld (dec:=dec) (m:=u) (j:=jj) (k:=(f:Nat)+((2*r+1:Nat):Int)) (p:=f+(2*r+1)) (by omega) (by omega);by_cases d3:at0 u (f+r)<at0 u (f+(2*r+1))
     · have s1:=cellsS_st (dec:=dec) (m:=u) (j:=jj) (k:=(f:Nat)+(r:Nat)) (x:=at0 u (f+(2*r+1))) (p:=f+r) (by omega) (by omega);have s2:=cellsS_st (dec:=dec) (m:=u.set (f+r) (at0 u (f+(2*r+1)))) (j:=jj) (k:=(f:Nat)+((2*r+1:Nat):Int)) (x:=at0 u (f+r)) (p:=f+(2*r+1)) (by omega) (by rw[List.length_set];omega);have l1:=cellsS_le (dec:=dec) (m:=u) (j:=jj) (k:=(f:Nat)+(r:Nat)) (p:=f+r) (by omega) (by omega);have l2:=cellsS_le (dec:=dec) (m:=u.set (f+r) (at0 u (f+(2*r+1)))) (j:=jj) (k:=(f:Nat)+((2*r+1:Nat):Int)) (p:=f+(2*r+1)) (by omega) (by rw[List.length_set];omega);refine Tc.dr [] [] mixed rfl ?_;refine .nn 0 ?_;refine .nn 1 ?_;refine .nn 2 ?_;refine .nn 3 ?_;refine .nn 4 ?_;refine .nn 5 ?_;refine .nn 6 ?_;refine .nn 7 ?_;refine .nn 8 ?_;refine .nn 9 ?_;refine .nn 10 ?_;refine .nn 11 ?_;refine .z 12 rfl (OpV.takeCall rfl rfl rfl rfl (fun H hs=> .h (lessS M H hEu (at0_mem (by omega)) (at0_mem (by omega)) true (decide_eq_true d3)))) ?_;refine .nn 13 ?_;refine .dn ?_;refine U3 ?_;refine Tc.dr [21,23] [0] mixed rfl ?_;refine .nn 0 ?_;refine .nn 1 ?_;refine .nn 2 ?_;refine .nn 3 ?_;refine .nw 4 ?_;refine .nw 5 ?_;refine .nw 6 ?_;refine .nw 7 ?_;refine .nn 8 ?_;refine .nn 9 ?_;refine .nn 10 ?_;refine .nn 11 ?_;refine .nn 12 ?_;refine .nn 13 ?_;refine .nw 14 ?_;refine .nw 15 ?_;refine .nw 16 ?_;refine .nw 17 ?_;refine .nw 18 ?_;refine .nn 19 ?_;refine .nn 20 ?_;refine .e 21 0 ?_;refine .nw 22 ?_;refine .e 23 0 ?_;refine .dn ?_;refine U5 ?_;exact Tc.db (ih ⟨(2*r+1,swapL u (f+r) (f+(2*r+1))),by simp only;omega,by simp only;omega,g3.trans (Turned.swap (by omega) (by omega) (by omega) (by omega)),g4.step (by omega) g1 (by omega) hcv d3 hmax⟩ (by simp only;omega))
     · refine Tc.dr [] [] mixed rfl ?_;refine .nn 0 ?_;refine .nn 1 ?_;refine .nn 2 ?_;refine .nn 3 ?_;refine .nn 4 ?_;refine .nn 5 ?_;refine .nn 6 ?_;refine .nn 7 ?_;refine .nn 8 ?_;refine .nn 9 ?_;refine .nn 10 ?_;refine .nn 11 ?_;refine .z 12 rfl (OpV.takeCall rfl rfl rfl rfl (fun H hs=> .h (lessS M H hEu (at0_mem (by omega)) (at0_mem (by omega)) false (decide_eq_false d3)))) ?_;refine .nn 13 ?_;refine .dn ?_;refine U ?_;refine .rt hK func301 results301 [] ?_;exact fun H' hs=> SortSQ.of (dec:=dec) hs (i:=0) rfl ⟨rfl,g3,g4.fin (fun d h1 h2=> by have:=hmax d h1 h2;omega)⟩
 · refine U9 ?_;refine .ov hK func301 results301 [] ?_;exact fun H' hs=> SortSQ.of (dec:=dec) hs (i:=0) rfl ⟨rfl,g3,g4.fin (fun d h1 h2=> by omega)⟩
end
theorem heap_less {f hi s:Nat}{u:List Int}(hs:1≤s)(h:Heap f s hi u):HeapBut f (s-1) hi (s-1) u:=
 ⟨fun k c h1 h2 h3 h4=> h k c (by omega) h3 h4,fun k c h1 h2 h3 h4=> by omega⟩
structure HeapTo(f hi s:Nat)(u:List Int):Prop where
 heap:Heap f 0 s u
 srt:Srt (f+s) (f+hi) u
 low:∀p q,p<s→s≤q→q<hi→at0 u (f+p)≤at0 u (f+q)
theorem heap_but {f hi s:Nat}{u:List Int}(hs:1≤s)(hsh:s≤hi)(hl:f+hi≤u.length)(h:HeapTo f hi s u):HeapBut f 0 (s-1) 0 (swapL u f (f+(s-1))):=by
 have hw:=fun q=> swapL_at (l:=u) (p:=f) (q:=f+(s-1)) (by omega) (by omega) q;refine⟨fun k c h1 h2 h3 h4=> ?_,fun k c h1 h2 h3 h4=> by omega⟩;rw[hw,hw,if_neg (by omega),if_neg (by omega),if_neg (by omega),if_neg (by omega)];exact h.heap k c h1 h3 (by omega)
theorem heap_next {f hi s:Nat}{u m:List Int}(hs:1≤s)(hsh:s≤hi)(hl:f+hi≤u.length)(h:HeapTo f hi s u)(ht:Turned f (f+(s-1)) (swapL u f (f+(s-1))) m)(hm:Heap f 0 (s-1) m):HeapTo f hi (s-1) m:=by
 have hw:=fun q=> swapL_at (l:=u) (p:=f) (q:=f+(s-1)) (by omega) (by omega) q;have htop:=h.heap.top;have hlast:at0 m (f+(s-1))=at0 u f:=by
   rw[ht.out _ (.inr (Nat.le_refl _)),hw,if_pos rfl]
 have hback:∀q,s≤q→at0 m (f+q)=at0 u (f+q):=fun q hq=> by
   rw[ht.out _ (.inr (by omega)),hw,if_neg (by omega),if_neg (by omega)]
 have hall:∀X:Int,(∀p,p<s→at0 u (f+p)≤X)→∀p,p<s-1→at0 m (f+p)≤X:=fun X hX p hp=>
   ht.all (by rw[swapL_len];omega) (P:=fun x=> x≤X) (fun p h1 h2=> by
     rw[hw,if_neg (by omega)];by_cases e:p=f
     · rw[if_pos e];exact hX (s-1) (by omega)
     · rw[if_neg e];have:=hX (p-f) (by omega)
       rwa [show f+(p-f)=p by omega] at this) (f+p) (by omega) (by omega)
 refine⟨hm,fun p q h1 h2 h3=> ?_,fun p q h1 h2 h3=> ?_⟩
 · by_cases e:p=f+(s-1)
   · rw[e,hlast];have h4:=hback (q-f) (by omega);rw[show f+(q-f)=q by omega] at h4;rw[h4];have:=h.low 0 (q-f) (by omega) (by omega) (by omega)
     rwa [show f+(q-f)=q by omega,Nat.add_zero] at this
   · have h4:=hback (q-f) (by omega);have h5:=hback (p-f) (by omega);rw[show f+(q-f)=q by omega] at h4;rw[show f+(p-f)=p by omega] at h5;rw[h4,h5];exact h.srt p q (by omega) h2 h3
 · by_cases e:q=s-1
   · subst e;rw[hlast];exact hall _ (fun p hp=> htop p hp) p h1
   · rw[hback q (by omega)];exact hall _ (fun p hp=> h.low p q hp (by omega) h3) p h1
section
variable(M:Md prog)(H:View)
theorem heapSortS_c(dec:Int→List UInt8)(sb:Nat)(l:List Int)(jj:List Value)(n cap a b:Nat)(hn:n=l.length)(hE:Enc dec l)(hb:b≤n)(h1000:n≤100000000)(hab:a<b)(hS:H sb=some (true,.cells ⟨(strsL dec l)++jj⟩ 9 (0,0))):
   CallT M 257 #[.slice (some ⟨sb,0,none⟩) n cap,.int .i64 (a:Nat),.int .i64 (b:Nat)] H (SortSQ dec H sb jj (fun v m=> v=.tuple ⟨[]⟩∧Turned a b l m∧Srt a b m)):=by
 obtain⟨hi,hhi⟩:∃hi,hi=b-a:=⟨_,rfl⟩
 have e0:((b:Nat):Int)-((a:Nat):Int)=((hi:Nat):Int):=by omega
 have eb:b=a+hi:=by omega
 obtain⟨s0,hs0⟩:∃s0,s0=(hi-1)/2+1:=⟨_,rfl⟩
 have hq:intBin .quo .i64 (((hi:Nat):Int)-1) 2=some (.int .i64 (((s0:Nat):Int)-1)):=by
   rw[quo_in (by omega) (by omega) (by omega)]
   congr 2
   omega
 refine CallT.enter (vs:= [.slice (some ⟨sb,0,none⟩) n cap,.int .i64 (a:Nat),.int .i64 (b:Nat)]) func257 rfl ntmps257 (Nat.le_of_ble_eq_true rfl) (SymSt.pull hS) fun St c cs hK=> ?_;refine U16 ?_;rw[e0];refine U9 ?_;refine Tc.db (Tc.loopInv (σ:= { s:Nat×List Int//s.1≤hi∧Turned a b l s.2∧Heap a s.1 hi s.2 }) (fun s=> ([(0,.slice (some ⟨sb,0,none⟩) n cap),(6,.int .i64 (a:Nat)),(7,.int .i64 0),(8,.int .i64 (hi:Nat)),(9,.int .i64 ((s.1.1:Nat)-1))],[(sb,true,.cells ⟨(strsL dec s.1.2)++jj⟩ 9 (0,0))])) (fun s=> s.1.1) ?_
   ⟨(s0,l),by simp only;omega,Turned.refl ..,fun k c h1 h2 h3=> by simp only at h1;omega⟩)
 rintro⟨⟨s,u⟩,g1,g2,g3⟩ ih;simp only at g1 g2 g3;show Tc M St _ _ _ _ [(0,.slice (some ⟨sb,0,none⟩) n cap),(6,.int .i64 (a:Nat)),(7,.int .i64 0),(8,.int .i64 (hi:Nat)),(9,.int .i64 ((s:Nat)-1))] [(sb,true,.cells ⟨(strsL dec u)++jj⟩ 9 (0,0))] _ _;have hul:=g2.len;have hEu:=hE.turned g2;by_cases c1:1≤s
 · have e1:((s:Nat):Int)-1=((s-1:Nat):Int):=by omega
   rw[e1];refine U15 ?_;refine .e (Or.sortsS (dec:=dec) (l:=u) 0 (fun v m=> v=.tuple ⟨[]⟩∧Turned a (a+hi) u m∧Heap a (s-1) hi m) rfl rfl rfl rfl rfl (by decide) rfl (fun H hs=> .h (siftDownS_c M H dec sb u jj n cap (s-1) hi a (by omega) hEu (by omega) h1000 (by omega) (heap_less c1 g3) (hs.get (i:=0) rfl))) (fun v m ⟨hv,ht,hh⟩=> ?_));refine U7 ?_;exact Tc.db (ih ⟨(s-1,m),by simp only;omega,g2.trans (ht.wide (Nat.le_refl _) (by omega)),hh⟩ (by simp only;omega))
 · have es:s=0:=by omega
   subst es;refine U15 ?_;refine Tc.db (Tc.loopInv (σ:= { s:Nat×List Int//s.1≤hi∧Turned a b l s.2∧HeapTo a hi s.1 s.2 }) (fun s=> ([(0,.slice (some ⟨sb,0,none⟩) n cap),(6,.int .i64 (a:Nat)),(7,.int .i64 0),(10,.int .i64 ((s.1.1:Nat)-1))],[(sb,true,.cells ⟨(strsL dec s.1.2)++jj⟩ 9 (0,0))])) (fun s=> s.1.1) ?_
     ⟨(hi,u),Nat.le_refl _,g2,⟨g3,fun p q h1 h2 h3=> by omega,fun p q h1 h2 h3=> by omega⟩⟩)
   rintro⟨⟨s,w⟩,f1,f2,f3⟩ ih2;simp only at f1 f2 f3;show Tc M St _ _ _ _ [(0,.slice (some ⟨sb,0,none⟩) n cap),(6,.int .i64 (a:Nat)),(7,.int .i64 0),(10,.int .i64 ((s:Nat)-1))] [(sb,true,.cells ⟨(strsL dec w)++jj⟩ 9 (0,0))] _ _;have hwl:=f2.len;have hEw:=hE.turned f2;by_cases c2:1≤s
   · have e1:((s:Nat):Int)-1=((s-1:Nat):Int):=by omega
     rw[e1];have k1:=cellsS_ld (dec:=dec) (m:=w) (j:=jj) (k:=(a:Nat)) (p:=a) rfl (by omega);have k2:=cellsS_ld (dec:=dec) (m:=w) (j:=jj) (k:=(a:Nat)+((s-1:Nat):Int)) (p:=a+(s-1)) (by omega) (by omega);have s1:=cellsS_st (dec:=dec) (m:=w) (j:=jj) (k:=(a:Nat)) (x:=at0 w (a+(s-1))) (p:=a) rfl (by omega);have s2:=cellsS_st (dec:=dec) (m:=w.set a (at0 w (a+(s-1)))) (j:=jj) (k:=(a:Nat)+((s-1:Nat):Int)) (x:=at0 w a) (p:=a+(s-1)) (by omega) (by rw[List.length_set];omega);have l1:=cellsS_le (dec:=dec) (m:=w) (j:=jj) (k:=(a:Nat)) (p:=a) rfl (by omega);have l2:=cellsS_le (dec:=dec) (m:=w.set a (at0 w (a+(s-1)))) (j:=jj) (k:=(a:Nat)+((s-1:Nat):Int)) (p:=a+(s-1)) (by omega) (by rw[List.length_set];omega);have hsw:=Turned.swap (a:=a) (b:=b) (l:=w) (p:=a) (q:=a+(s-1)) (by omega) (by omega) (by omega) (by omega);refine U11 ?_;refine Tc.dr [17,19] [0] mixed rfl ?_;refine .nn 0 ?_;refine .nn 1 ?_;refine .nw 2 ?_;refine .nw 3 ?_;refine .nw 4 ?_;refine .nw 5 ?_;refine .nn 6 ?_;refine .nn 7 ?_;refine .nn 8 ?_;refine .nn 9 ?_;refine .nn 10 ?_;refine .nn 11 ?_;refine .nw 12 ?_;refine .nw 13 ?_;refine .nw 14 ?_;refine .nn 15 ?_;refine .nn 16 ?_;refine .e 17 0 ?_;refine .nw 18 ?_;refine .e 19 0 ?_;refine .dn ?_;refine U5 ?_;refine .e (Or.sortsS (dec:=dec) (l:=swapL w a (a+(s-1))) 0 (fun v m=> v=.tuple ⟨[]⟩∧Turned a (a+(s-1)) (swapL w a (a+(s-1))) m∧Heap a 0 (s-1) m) rfl rfl rfl rfl rfl (by decide) rfl (fun H hs=> .h (siftDownS_c M H dec sb (swapL w a (a+(s-1))) jj n cap 0 (s-1) a (by rw[swapL_len];omega) (hEw.turned hsw) (by omega) h1000 (by omega) (heap_but c2 f1 (by omega) f3) (hs.get (i:=0) rfl))) (fun v m ⟨hv,ht,hh⟩=> ?_));refine U7 ?_;exact Tc.db (ih2 ⟨(s-1,m),by simp only;omega,f2.trans (hsw.trans (ht.wide (Nat.le_refl _) (by omega))),heap_next c2 f1 (by omega) f3 ht hh⟩ (by simp only;omega))
   · have es:s=0:=by omega
     subst es;refine U8 ?_;refine .ov hK func257 results257 [] ?_;exact fun H' hs=> SortSQ.of (dec:=dec) hs (i:=0) rfl ⟨rfl,f2,eb▸f3.srt⟩
end
theorem Or.sortsIF {M:Md prog}{n:Nat}{H₀:View}{R:Rg}{L:Bl}{o:Oper}{K:Rg→Bl→Prop}{cl:Go.Call}{x:Operand}{fv:Value}{az:List Value}{d:Nat}{σ:Type}(i:Nat){sb:Nat}{l:List Int}{j:List Value}(val:σ→Value)(mm:σ→List Int)(p:σ→Prop)
   (hop:o.op=.call cl) (hcl:cl.callee=.value x) (hx:evR R x=some fv) (has:evRs R cl.args.toList=some az) (hd:o.dst=some d) (hn:d<n) (hi:L[i]? =some (sb,true,.cells ⟨intsL l++j⟩ 3 (0,0)))
   (hc:∀H,SymSt H₀ L H→FnT M fv az H (SortIQ H sb j fun v m=> ∃s,v=val s∧m=mm s∧p s)) (hk:∀s,p s→K ((d,val s)::R) (L.set i (sb,true,.cells ⟨intsL (mm s)++j⟩ 3 (0,0)))):Or M n H₀ R L o K:=
 Or.sortsI i (fun v m=> ∃s,v=val s∧m=mm s∧p s) hop hcl hx has hd hn hi hc fun v m h=> by
   obtain⟨s,rfl,rfl,h3⟩:=h;exact hk s h3
def twoV(s:Nat×Nat×Int):Value:=.tuple ⟨[.int .i64 (s.1:Nat),.int .i64 (s.2.1:Nat)]⟩
def twoP(p q:Nat)(z:Int)(s:Nat×Nat×Int):Prop:=(s.1=p∧s.2.1=q∨s.1=q∧s.2.1=p)∧z≤s.2.2∧s.2.2≤z+1
section
variable(M:Md prog)(H:View)
theorem order2S_c(dec:Int→List UInt8)(sb cb:Nat)(f:Bool)(l:List Int)(jj:List Value)(n cap p q:Nat)(z:Int)(hn:n=l.length)(hE:Enc dec l)(hp:p<n)(hq:q<n)(hz:0≤z∧z≤1000)(hne:sb≠cb)(hS:H sb=some (f,.cells ⟨(strsL dec l)++jj⟩ 9 (0,0)))(hC:H cb=some (true,.cells ⟨[.int .i64 z]⟩ 3 (0,0))):
   CallT M 326 #[.slice (some ⟨sb,0,none⟩) n cap,.int .i64 (p:Nat),.int .i64 (q:Nat),.pointer (some ⟨cb,0,none⟩)] H (SortIQ H cb [] (fun v m=> ∃s,v=twoV s∧m= [s.2.2]∧twoP p q z s)):=by
 have hS':(H.without cb) sb=some (f,.cells ⟨(strsL dec l)++jj⟩ 9 (0,0)):=by rw[without_other hne];exact hS
 have k1:=cellsS_ld (dec:=dec) (m:=l) (j:=jj) (k:=(p:Nat)) (p:=p) rfl (by omega);have k2:=cellsS_ld (dec:=dec) (m:=l) (j:=jj) (k:=(q:Nat)) (p:=q) rfl (by omega);refine CallT.enter (vs:= [.slice (some ⟨sb,0,none⟩) n cap,.int .i64 (p:Nat),.int .i64 (q:Nat),.pointer (some ⟨cb,0,none⟩)]) func326 rfl ntmps326 (Nat.le_of_ble_eq_true rfl) (SymSt.pull hC) fun St c cs hK=> ?_;by_cases c1:at0 l q<at0 l p
 · refine U7 ?_;refine Tc.dr [] [] mixed rfl ?_;refine .nn 0 ?_;refine .nn 1 ?_;refine .nn 2 ?_;refine .nn 3 ?_;refine .nn 4 ?_;refine .nn 5 ?_;refine .nn 6 ?_;refine .nn 7 ?_;refine .z 8 rfl (OpV.takeCall rfl rfl rfl rfl (fun H hs=> .h (lessS M H hE (at0_mem (by omega)) (at0_mem (by omega)) true (decide_eq_true c1)))) ?_;refine .dn ?_;refine U17 ?_;refine .rt hK func326 results326 [_,_] ?_;exact fun H' hs=> SortIQ.of (m:= [z+1]) hs (i:=0) rfl ⟨(q,p,z+1),rfl,rfl,.inr ⟨rfl,rfl⟩,by simp only;omega,by simp only;omega⟩
 · refine U7 ?_;refine Tc.dr [] [] mixed rfl ?_;refine .nn 0 ?_;refine .nn 1 ?_;refine .nn 2 ?_;refine .nn 3 ?_;refine .nn 4 ?_;refine .nn 5 ?_;refine .nn 6 ?_;refine .nn 7 ?_;refine .z 8 rfl (OpV.takeCall rfl rfl rfl rfl (fun H hs=> .h (lessS M H hE (at0_mem (by omega)) (at0_mem (by omega)) false (decide_eq_false c1)))) ?_;refine .dn ?_;refine U9 ?_;refine .rt hK func326 results326 [_,_] ?_;exact fun H' hs=> SortIQ.of (m:= [z]) hs (i:=0) rfl ⟨(p,q,z),rfl,rfl,.inl ⟨rfl,rfl⟩,by simp only;omega,by simp only;omega⟩
theorem medianS_c(dec:Int→List UInt8)(sb cb:Nat)(f:Bool)(l:List Int)(jj:List Value)(n cap p q r:Nat)(z:Int)(hn:n=l.length)(hE:Enc dec l)(hp:p<n)(hq:q<n)(hr:r<n)(hz:0≤z∧z≤900)(hne:sb≠cb)(hS:H sb=some (f,.cells ⟨(strsL dec l)++jj⟩ 9 (0,0)))(hC:H cb=some (true,.cells ⟨[.int .i64 z]⟩ 3 (0,0))):
   CallT M 305 #[.slice (some ⟨sb,0,none⟩) n cap,.int .i64 (p:Nat),.int .i64 (q:Nat),.int .i64 (r:Nat),.pointer (some ⟨cb,0,none⟩)] H (SortIQ H cb [] (fun v m=> ∃s:Nat×Int,v=.int .i64 (s.1:Nat)∧m= [s.2]∧((s.1=p∨s.1=q∨s.1=r)∧z≤s.2∧s.2≤z+3))):=by
 have hS':(H.without cb) sb=some (f,.cells ⟨(strsL dec l)++jj⟩ 9 (0,0)):=by rw[without_other hne];exact hS
 refine CallT.enter (vs:= [.slice (some ⟨sb,0,none⟩) n cap,.int .i64 (p:Nat),.int .i64 (q:Nat),.int .i64 (r:Nat),.pointer (some ⟨cb,0,none⟩)]) func305 rfl ntmps305 (Nat.le_of_ble_eq_true rfl) (SymSt.pull hC) fun St c cs hK=> ?_;refine U10 ?_;refine .e (Or.sortsIF (l:= [z]) (j:= []) 0 twoV (fun s=> [s.2.2]) (twoP p q z) rfl rfl rfl rfl rfl (by decide) rfl (fun H hs=> .h (order2S_c M H dec sb cb f l jj n cap p q z hn hE hp hq (by omega) hne (hs.base _ _ hS') (hs.get (i:=0) rfl))) (fun⟨x1,y1,z1⟩ ⟨o1,o2,o3⟩=> ?_));refine U6 ?_;simp only at o1 o2 o3;refine U6 ?_;refine .e (Or.sortsIF (l:= [z1]) (j:= []) 0 twoV (fun s=> [s.2.2]) (twoP y1 r z1) rfl rfl rfl rfl rfl (by decide) rfl (fun H hs=> .h (order2S_c M H dec sb cb f l jj n cap y1 r z1 hn hE (by omega) hr (by omega) hne (hs.base _ _ hS') (hs.get (i:=0) rfl))) (fun⟨x2,y2,z2⟩ ⟨p1,p2,p3⟩=> ?_));refine U6 ?_;simp only at p1 p2 p3;refine U6 ?_;refine .e (Or.sortsIF (l:= [z2]) (j:= []) 0 twoV (fun s=> [s.2.2]) (twoP x1 x2 z2) rfl rfl rfl rfl rfl (by decide) rfl (fun H hs=> .h (order2S_c M H dec sb cb f l jj n cap x1 x2 z2 hn hE (by omega) (by omega) (by omega) hne (hs.base _ _ hS') (hs.get (i:=0) rfl))) (fun⟨x3,y3,z3⟩ ⟨q1,q2,q3⟩=> ?_));refine U6 ?_;simp only at q1 q2 q3;refine U5 ?_;refine .rt hK func305 results305 [_] ?_;exact fun H' hs=> SortIQ.of (m:= [z3]) hs (i:=0) rfl ⟨(y3,z3),rfl,rfl,by simp only;omega,by simp only;omega,by simp only;omega⟩
def pivV(s:Nat×Nat):Value:=.tuple ⟨[.int .i64 (s.1:Nat),.int .i64 (s.2:Nat)]⟩
theorem medianAdjS_c(dec:Int→List UInt8)(sb cb:Nat)(f:Bool)(l:List Int)(jj:List Value)(n cap p:Nat)(z:Int)(hn:n=l.length)(hE:Enc dec l)(h1000:n≤100000000)(hp:1≤p∧p+1<n)(hz:0≤z∧z≤900)(hne:sb≠cb)(hS:H sb=some (f,.cells ⟨(strsL dec l)++jj⟩ 9 (0,0)))(hC:H cb=some (true,.cells ⟨[.int .i64 z]⟩ 3 (0,0))):
   CallT M 304 #[.slice (some ⟨sb,0,none⟩) n cap,.int .i64 (p:Nat),.pointer (some ⟨cb,0,none⟩)] H (SortIQ H cb [] (fun v m=> ∃s:Nat×Int,v=.int .i64 (s.1:Nat)∧m= [s.2]∧((s.1=p-1∨s.1=p∨s.1=p+1)∧z≤s.2∧s.2≤z+3))):=by
 have hS':(H.without cb) sb=some (f,.cells ⟨(strsL dec l)++jj⟩ 9 (0,0)):=by rw[without_other hne];exact hS
 have e1:intBin .sub .i64 (p:Nat) 1=some (.int .i64 ((p-1:Nat):Int)):=by rw[sub_in (by omega) (by omega)];congr 2;omega
 have e2:intBin .add .i64 (p:Nat) 1=some (.int .i64 ((p+1:Nat):Int)):=by rw[add_in (by omega) (by omega)];rfl
 refine CallT.enter (vs:= [.slice (some ⟨sb,0,none⟩) n cap,.int .i64 (p:Nat),.pointer (some ⟨cb,0,none⟩)]) func304 rfl ntmps304 (Nat.le_of_ble_eq_true rfl) (SymSt.pull hC) fun St c cs hK=> ?_;refine U13 ?_;refine .e (Or.sortsIF (l:= [z]) (j:= []) 0 (fun s:Nat×Int=> .int .i64 (s.1:Nat)) (fun s=> [s.2]) (fun s=> (s.1=p-1∨s.1=p∨s.1=p+1)∧z≤s.2∧s.2≤z+3) rfl rfl rfl rfl rfl (by decide) rfl (fun H hs=> .h (medianS_c M H dec sb cb f l jj n cap (p-1) p (p+1) z hn hE (by omega) (by omega) (by omega) (by omega) hne (hs.base _ _ hS') (hs.get (i:=0) rfl))) (fun⟨x1,z1⟩ ⟨o1,o2,o3⟩=> ?_));refine U2 ?_;simp only at o1 o2 o3;refine .rt hK func304 results304 [_] ?_;exact fun H' hs=> SortIQ.of (m:= [z1]) hs (i:=0) rfl ⟨(x1,z1),rfl,rfl,o1,o2,o3⟩
theorem choosePivotS_c(dec:Int→List UInt8)(sb:Nat)(f:Bool)(l:List Int)(jj:List Value)(n cap a b:Nat)(hn:n=l.length)(hE:Enc dec l)(h1000:n≤100000000)(hb:b≤n)(h8:a+8≤b)(hS:H sb=some (f,.cells ⟨(strsL dec l)++jj⟩ 9 (0,0))):
   CallT M 259 #[.slice (some ⟨sb,0,none⟩) n cap,.int .i64 (a:Nat),.int .i64 (b:Nat)] H (fun v H'=> H.le H'∧∃s:Nat×Nat,v=pivV s∧(a≤s.1∧s.1<b∧s.2≤2)∧∀y∈([]:Bl),H' y.1=some y.2∧H y.1=none):=by
 obtain⟨m,hm⟩:∃m,m=b-a:=⟨_,rfl⟩
 obtain⟨w,hw⟩:∃w,w=m/4:=⟨_,rfl⟩
 have e0:((b:Nat):Int)-((a:Nat):Int)=((m:Nat):Int):=by omega
 have hq:intBin .quo .i64 ((m:Nat):Int) 4=some (.int .i64 ((w:Nat):Int)):=by
   rw[quo_in (by omega) (by omega) (by omega)]
   congr 2
   omega
 have e1:((a:Nat):Int)+((w:Nat):Int)*1=((a+w:Nat):Int):=by omega
 have e2:((a:Nat):Int)+((w:Nat):Int)*2=((a+w*2:Nat):Int):=by omega
 have e3:((a:Nat):Int)+((w:Nat):Int)*3=((a+w*3:Nat):Int):=by omega
 refine .en func259 ntmps259 fun St c cs hK=> ?_;refine U12 ?_;rw[e0];refine U2 ?_;refine .al fun b9=> ?_;refine U6 ?_;refine .i ?_ (z:=mul_in (by omega) (by omega));refine U3 ?_;rw[e1];refine U5 ?_;refine .i ?_ (z:=mul_in (by omega) (by omega));refine U3 ?_;rw[e2];refine U5 ?_;refine .i ?_ (z:=mul_in (by omega) (by omega));refine U3 ?_;rw[e3];refine U7 ?_;refine Tc.lift (L₂:= [(b9,true,.cells ⟨[.int .i64 0]⟩ 3 (0,0))]) (L₁:= []) rfl (fun Hx hx=> ?_);have hle:=hx.base;have hSx:=hx.base _ _ hS;have hne:∀(z:Int) H',SymSt Hx [(b9,true,.cells ⟨[.int .i64 z]⟩ 3 (0,0))] H'→sb≠b9:=fun z H' hs e=> by
   have:=hs.out (b9,true,.cells ⟨[.int .i64 z]⟩ 3 (0,0)) (by simp);rw[←e,hSx] at this;cases this
 clear hx;refine U ?_;refine Tc.via (fun R' L'=> ∃(p q r:Nat) (z:Int),((a≤p∧p<b)∧(a≤q∧q<b)∧(a≤r∧r<b)∧(0≤z∧z≤9))∧AllIn [(0,.slice (some ⟨sb,0,none⟩) n cap),(9,.pointer (some ⟨b9,0,none⟩)),(10,.int .i64 (p:Nat)),(11,.int .i64 (q:Nat)),(12,.int .i64 (r:Nat))] R'∧List.Sublist [(b9,true,.cells ⟨[.int .i64 z]⟩ 3 (0,0))] L') ?_ (fun fin=> ?_)
 rotate_left
 · by_cases c50:50≤m
   · refine U10 ?_;refine .e (Or.sortsIF (l:= [0]) (j:= []) 0 (fun s:Nat×Int=> .int .i64 (s.1:Nat)) (fun s=> [s.2]) (fun s=> (s.1=a+w-1∨s.1=a+w∨s.1=a+w+1)∧0≤s.2∧s.2≤0+3) rfl rfl rfl rfl rfl (by decide) rfl (fun H hs=> .h (medianAdjS_c M H dec sb b9 f l jj n cap (a+w) 0 hn hE h1000 (by omega) (by omega) (hne _ H hs) (hs.base _ _ hSx) (hs.get (i:=0) rfl))) (fun⟨x1,zx1⟩ ⟨ox1,ux1,vx1⟩=> ?_));refine U2 ?_;simp only at ox1 ux1 vx1;refine U4 ?_;refine .e (Or.sortsIF (l:= [zx1]) (j:= []) 0 (fun s:Nat×Int=> .int .i64 (s.1:Nat)) (fun s=> [s.2]) (fun s=> (s.1=a+w*2-1∨s.1=a+w*2∨s.1=a+w*2+1)∧zx1≤s.2∧s.2≤zx1+3) rfl rfl rfl rfl rfl (by decide) rfl (fun H hs=> .h (medianAdjS_c M H dec sb b9 f l jj n cap (a+w*2) zx1 hn hE h1000 (by omega) (by omega) (hne _ H hs) (hs.base _ _ hSx) (hs.get (i:=0) rfl))) (fun⟨x2,zx2⟩ ⟨ox2,ux2,vx2⟩=> ?_));refine U2 ?_;simp only at ox2 ux2 vx2;refine U3 ?_;refine .e (Or.sortsIF (l:= [zx2]) (j:= []) 0 (fun s:Nat×Int=> .int .i64 (s.1:Nat)) (fun s=> [s.2]) (fun s=> (s.1=a+w*3-1∨s.1=a+w*3∨s.1=a+w*3+1)∧zx2≤s.2∧s.2≤zx2+3) rfl rfl rfl rfl rfl (by decide) rfl (fun H hs=> .h (medianAdjS_c M H dec sb b9 f l jj n cap (a+w*3) zx2 hn hE h1000 (by omega) (by omega) (hne _ H hs) (hs.base _ _ hSx) (hs.get (i:=0) rfl))) (fun⟨x3,zx3⟩ ⟨ox3,ux3,vx3⟩=> ?_));refine U2 ?_;simp only at ox3 ux3 vx3;exact fin _ _ ⟨x1,x2,x3,zx3,⟨by omega,by omega,by omega,by omega⟩,⟨rfl,rfl,rfl,rfl,rfl,trivial⟩,(by exact List.Sublist.refl _)⟩
   · refine U7 ?_;exact fin _ _ ⟨a+w,a+w*2,a+w*3,0,⟨by omega,by omega,by omega,by omega⟩,⟨rfl,rfl,rfl,rfl,rfl,trivial⟩,(by exact List.Sublist.refl _)⟩
 rintro R' L' ⟨p,q,r,z,⟨hp,hq2,hr,hz⟩,hRR,hLL⟩;refine Tc.dropB (R':= [(0,.slice (some ⟨sb,0,none⟩) n cap),(9,.pointer (some ⟨b9,0,none⟩)),(10,.int .i64 (p:Nat)),(11,.int .i64 (q:Nat)),(12,.int .i64 (r:Nat))]) (L':= [(b9,true,.cells ⟨[.int .i64 z]⟩ 3 (0,0))]) ?_ hRR hLL;clear hRR hLL;refine U5 ?_;refine .e (Or.sortsIF (l:= [z]) (j:= []) 0 (fun s:Nat×Int=> .int .i64 (s.1:Nat)) (fun s=> [s.2]) (fun s=> (s.1=p∨s.1=q∨s.1=r)∧z≤s.2∧s.2≤z+3) rfl rfl rfl rfl rfl (by decide) rfl (fun H hs=> .h (medianS_c M H dec sb b9 f l jj n cap p q r z hn hE (by omega) (by omega) (by omega) (by omega) (hne _ H hs) (hs.base _ _ hSx) (hs.get (i:=0) rfl))) (fun⟨x1,z1⟩ ⟨o1,o2,o3⟩=> ?_));refine U2 ?_;simp only at o1 o2 o3;clear hne;refine U6 ?_;by_cases c1:z1=0
 · refine U11 ?_;refine .rt hK func259 results259 [_,_] ?_;exact fun H' hs=> ⟨View.le_trans hle hs.base,(x1,1),rfl,⟨by simp only;omega,by simp only;omega,by simp⟩,by simp⟩
 · by_cases c2:z1=12
   · refine U17 ?_;refine .rt hK func259 results259 [_,_] ?_;exact fun H' hs=> ⟨View.le_trans hle hs.base,(x1,2),rfl,⟨by simp only;omega,by simp only;omega,by simp⟩,by simp⟩
   · refine U17 ?_;refine .rt hK func259 results259 [_,_] ?_;exact fun H' hs=> ⟨View.le_trans hle hs.base,(x1,0),rfl,⟨by simp only;omega,by simp only;omega,by simp⟩,by simp⟩
end
end Go.Proofs.YtldmfjcgjdchcaaGreatDoor
