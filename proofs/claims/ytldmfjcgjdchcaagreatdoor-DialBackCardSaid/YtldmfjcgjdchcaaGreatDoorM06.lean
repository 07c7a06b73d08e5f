/-
 Texts of the proofs over baudot/dial.
-/
import Derived.Test.YtldmfjcgjdchcaaGreatDoorM05
namespace Go.Proofs.YtldmfjcgjdchcaaGreatDoor
open Go.RL Go.Proofs.Tryz
set_option maxRecDepth 10000
set_option maxHeartbeats 16000000
def VA(l:List (List UInt8)):List Value:=l.map gA
theorem PC(l:List (List UInt8)):(VA l).length=l.length:=by simp[VA]
theorem zD(l m:List (List UInt8)):VA (l++m)=VA l++VA m:=by simp[VA]
theorem XK(l:List (List UInt8)):(VA l).all single=true:=by
 rw[List.all_eq_true];intro x hx;obtain⟨s,_,rfl⟩:=List.mem_map.1 hx;rfl
def AP(many:Nat)(dg:List UInt8)(s: { p:Nat×Nat//p.1≠p.2 }):Bl:= [(s.1.1,true,.cells ⟨[.int .i64 (many:Nat)]⟩ 3 (0,0)),(s.1.2,true,.cells ⟨[gA dg]⟩ 9 (0,0))]
theorem lS(many:Nat)(dg:List UInt8)(s: { p:Nat×Nat//p.1≠p.2 }):((AP many dg s).map (·.1)).Nodup:=by
 obtain⟨⟨a,b⟩,h⟩:=s;simp only[AP,List.map_cons,List.map_nil,List.nodup_cons,List.mem_singleton,List.not_mem_nil,not_false_eq_true,List.nodup_nil,and_true];exact h
section
variable(M:Md prog)(H:View)
theorem aCe(many:Nat)(dg:List UInt8):bA M 139 #[.int .i64 (many:Nat),gA dg] H (fun v H'=> H.le H'/\∃s: { p:Nat×Nat//p.1≠p.2 },v=mS s.1.1 s.1.2/\True/\∀y∈AP many dg s,H' y.1=some y.2/\H y.1=none):=by
 refine .en func139 ntmps139 fun St c cs hK=> ?_;refine U2 ?_;refine .bo fun b2=> ?_;refine .bo fun b3=> ?_;refine U7 ?_;refine .rt hK func139 results139 [_] ?_;intro H' hs;have uE:=hs.nodup;have nB:b2≠b3:=by
  simp only[List.map_cons,List.map_nil,List.nodup_cons,List.mem_singleton] at uE;exact fun e=> uE.1 e.symm
 refine⟨hs.base,⟨(b2,b3),nB⟩,rfl,trivial,fun y hy=> ?_⟩;have hy':y=(b2,true,.cells ⟨[.int .i64 (many:Nat)]⟩ 3 (0,0))\/y=(b3,true,.cells ⟨[gA dg]⟩ 9 (0,0)):=by simpa [AP] using hy
 rcases hy' with rfl|rfl
 ·exact⟨hs.get (i:=1) rfl,hs.out _ (List.mem_cons_of_mem _ (List.mem_cons_self ..))⟩
 ·exact⟨hs.get (i:=0) rfl,hs.out _ (List.mem_cons_self ..)⟩
def aDL(H₁:View)(g:Gl 9 1)(l xs:List (List UInt8))(v:Value)(H3:View):Prop:=
 ∃(g':Gl 9 1) (H₂:View),v=g'.val/\H₁.le H₂/\iA H₂ g'.bl H3/\g'.l=VA (l++xs)/\g'.n=g.n+xs.length
theorem XR(g:Gl 9 1)(l:List (List UInt8))(hg:g.l=VA l)(MG:g.n<=100000)(many:Nat)(dg:List UInt8)(hm:many<=1000)(RU:dg.all CD=true)(SP:dg.length<=1000)(R4:(mL dg many).length<=100000)(a1 a2:Nat)(H₁ Hc:View)(aC:fL many dg a1 a2 H₁)(iR:iA H₁ g.bl Hc):
  bA M 141 #[g.val,mS a1 a2] Hc (aDL H₁ g l (mL dg many)):=by
 have HI:=fun(H':View) (_:fL many dg a1 a2 H')=> kZ M H' many dg hm RU SP a1 a2;refine bA.enter (vs:= [g.val,mS a1 a2]) func141 rfl ntmps141 (Nat.le_of_ble_eq_true rfl) (iR) fun St c cs hK=> ?_;refine U2 ?_;refine .bo fun b2=> ?_;refine U8 ?_;refine Tc.db (R':= [(2,.pointer (some ⟨b2,0,none⟩)),(6,mS a1 a2)]) (L':= [(b2,true,.cells ⟨[g.val]⟩ 107 (0,0))]++g.bl) ?_;refine Tc.MJ (A:= []) (ts:= [7]) (xs:=mL dg many) (fun rest H₄ L₄=> ∃(g':Gl 9 1) (dn:List (List UInt8)),L₄= [(b2,true,.cells ⟨[g'.val]⟩ 107 (0,0))]++g'.bl/\g'.l=VA (l++dn)/\g'.n=g.n+dn.length/\dn++rest=mL dg many/\fL many dg a1 a2 H₄/\H₁.le H₄) (fun _ _ _=> False) rfl rfl rfl rfl HI (fun _ _=> fL.le _ _) (fun _ _ _ ⟨_,_,_,_,_,_,h,_⟩=> h) rfl (fun _ _=> rfl)
   ⟨g,[],rfl,by rw[List.append_nil];exact hg,rfl,rfl,aC,View.le_refl _⟩ ?_ ?_ (fun _ _ _ _ h=> h.elim)
 ·rintro r x rest _ lp tmps asg bdy H₄ _ hx ⟨g',dn,rfl,q1,q2,q3,q4,q5⟩ Q St1 cc1 cs1 bN q q';have aE3:dn.length<=100000:=by
   have:=congrArg List.length q3;rw[List.length_append] at this;omega
  refine U3 ?_;refine Tc.beginRound (i:=0) rfl rfl rfl ?_;refine U4 ?_;refine .e (.bs (zz:=fun bs=> ?_));refine .e (Or.append (E:=en) 4 rfl rfl rfl rfl rfl rfl rfl rfl rfl rfl rfl rfl rfl rfl rfl (fun H hs=> ZA.of (hs.get (i:=0) rfl) (Nat.le_of_ble_eq_true rfl)) rfl oM rfl dE (fun g2 gP lM=> ?_));refine U3 ?_;refine Tc.WA bN (i:=1) rfl (.inl ⟨rfl,rfl⟩) (fun H' hs=> q H' H₄ _ (hs.less sL) ⟨g2,dn++[x],rfl,by rw[lM,q1,<-List.append_assoc,zD (l++dn) [x]];rfl,by rw[gP,q2,List.length_append];rfl,by rw[List.append_assoc];exact q3,q4,q5⟩)
 ·rintro r H₄ _ ⟨g',dn,rfl,q1,q2,q3,q4,q5⟩;rw[List.append_nil] at q3;subst q3;refine U6 ?_;refine Tc.oY (E:=en) (i:=0) hK func141 results141 (vs:= [_]) rfl ⟨rfl,trivial⟩ ?_;exact fun H' hs=> ⟨g',H₄,rfl,q5,hs.less sL,q1,q2⟩
theorem yS(a:Option Addr)(m ca:Nat)(l:List Value)(hm:m<=100000)(AH:ZA H 1 (.slice a m ca) m l)(h1:l.all single=true):bA M 143 #[.slice a m ca] H (fun v H'=> H.le H'/\∃g:Gl 9 1,v=g.val/\(g.l=l/\g.n=m)/\∀x∈g.bl,H' x.1=some x.2/\H x.1=none):=by
 refine .en func143 ntmps143 fun St c cs hK=> ?_;cases a with
 | none=>
  refine U8 ?_;refine .x (pA.eM (E:=en) rfl rfl rfl rfl rfl) ?_;refine U6 ?_;refine .rt hK func143 results143 [_] ?_;obtain⟨_,h2,h3|⟨b,off,_,_,_,_,_,h3,_⟩⟩:=AH
  ·obtain⟨_,_,_,rfl⟩:=h3;have:m=0:=by simp at h2;omega
   subst this;exact fun H' hs'=> ⟨hs'.base,Gl.nil 9 1,rfl,⟨rfl,rfl⟩,by simp[Gl.nil,Gl.bl]⟩
  ·cases h3
 | some a=>
  refine U8 ?_;refine .x (pA.eM (E:=en) rfl rfl rfl rfl rfl) ?_;refine U5 ?_;refine .e (.bs (zz:=fun bs=> ?_));refine U ?_;refine .e (Or.append (E:=en) (g:=Gl.emp 9 1 bs) 0 rfl rfl rfl rfl rfl rfl rfl rfl rfl rfl rfl rfl rfl rfl rfl (fun H' hs'=> AH.mono hs'.base) h1 (by show 0+m<=_;omega) rfl dE (fun g' hn hl=> ?_));refine U2 ?_;refine .rt hK func143 results143 [_] ?_;exact fun H' hs'=> ⟨hs'.base,g',rfl,⟨by rw[hl];rfl,by rw[hn];show 0+m=m;omega⟩,fun x hx=> ⟨hs'.at_ x hx,hs'.out x hx⟩⟩
end
end Go.Proofs.YtldmfjcgjdchcaaGreatDoor
namespace Go.RL
open Go.Conc
section
variable {P:Program}{M:Md P}{St:View->Goroutine->Prop}{n:Nat}{b:FB}{H₀:View}{cs:List Frame}{R:Rg}{L L₁:Bl}{ds:List Deferred}{k:List Item}{md:Region.Mode}{ops:Array Oper}{S:Array Bool->View->Prop}{fuel:Nat}{listed:Array Bool}
theorem Ta.tM(p:L₁.Perm L)(h:Ta M St n b H₀ cs S md ops fuel listed R L₁ ds k):Ta M St n b H₀ cs S md ops fuel listed R L ds k:=fun H tmps hs=> h H tmps (hs.perm p)
end
end Go.RL
namespace Go.Proofs.YtldmfjcgjdchcaaGreatDoor
open Go.RL Go.Proofs.Tryz
set_option maxRecDepth 10000
set_option maxHeartbeats 16000000
theorem T2(A:Bl)(x y z:Nat×Bool×Obj)(B:Bl):(A++(x::y::z::B)).Perm (x::y::z::(A++B)):=by
 refine List.perm_middle.trans (.cons _ ?_);refine List.perm_middle.trans (.cons _ ?_);exact List.perm_middle
theorem k9(u v:Nat×Bool×Obj)(A:Bl)(x y z:Nat×Bool×Obj)(B:Bl):((x::y::z::A)++(u::v::B)).Perm (([u,v]++A)++([x,y,z]++B)):=by
 simp only[List.cons_append,List.nil_append];have h1:(A++(x::y::z::B)).Perm (x::y::z::(A++B)):=T2 A x y z B;have h2:(x::y::z::(A++u::v::B)).Perm (u::v::x::y::z::(A++B)):=by
  have h3:(A++u::v::B).Perm (u::v::(A++B)):=List.perm_middle.trans (.cons _ List.perm_middle);have h4:(x::y::z::(A++u::v::B)).Perm (x::y::z::u::v::(A++B)):=.cons _ (.cons _ (.cons _ h3));refine h4.trans ?_;have h5:([x,y,z]++u::v::(A++B)).Perm (u::([x,y,z]++v::(A++B))):=List.perm_middle;have h6:([x,y,z]++v::(A++B)).Perm (v::([x,y,z]++(A++B))):=List.perm_middle;exact h5.trans (.cons _ h6)
 exact h2.trans (.cons _ (.cons _ h1.symm))
theorem aDJ {a:Int}{t:Nat}(h:0<=a/\a<=99)(ht:t<=30):0<=a*(t:Nat)/\a*(t:Nat)<=2970:=by
 have h1:(0:Int)<=(t:Nat):=Int.natCast_nonneg t;have h2:((t:Nat):Int)<=30:=by omega
 refine⟨Int.mul_nonneg h.1 h1,?_⟩;have h3:=Int.mul_le_mul h.2 h2 h1 (by omega:(0:Int)<=99);omega
theorem Gl.back {e:TypeId}{g g':Gl e 1}(new:List Value)(h1:g'.blk=g.blk)(h2:g'.n=g.n+new.length)(h3:g'.cap=g.cap)(h4:g'.l=g.l++new):∃g5:Gl e 1,g5.blk=g.blk/\g5.n=g.n/\g5.cap=g.cap/\g5.l=g.l/\g5.bl=g'.bl:=by
 have hl:=g.hl;have YU:=g'.hl;have US:=g'.hj;have hc':=g'.hc;refine⟨⟨g.blk,g.n,g.cap,g.l,new++g'.kB,g.hl,g.hc,?_,g.h0⟩,rfl,rfl,rfl,rfl,?_⟩
 ·rw[List.length_append,US,h2,h3];omega
 ·unfold Gl.bl;simp only;rw[h1,h4];cases g.blk with
  | none=> rfl
  | some b=> simp
theorem SI(g:Gl 9 1){H:View}(h:∀x∈g.bl,H x.1=some x.2){l:List (List UInt8)}(hl:g.l=VA l){g0:Gl 9 1}(hn:g.n=g0.n)(hb:g.blk=g0.blk):oC H (g0.blk.map fun b=> ⟨b,0,none⟩) g0.n (fun j=> l[j]?.getD []):=by
 have dL:=g.hl;rw[hl,PC] at dL;cases zH:g0.blk with
 | none=>
  have:=g.h0 (hb.trans zH);have:=g.hc;exact .inl oM
 | some b=>
  have EJ:g.bl= [(b,true,.cells ⟨g.l++g.kB⟩ 9 (0,0))]:=by unfold Gl.bl;rw[hb,zH]
  refine .inr ⟨b,0,true,_,9,(0,0),rfl,h (b,true,.cells ⟨g.l++g.kB⟩ 9 (0,0)) (by rw[EJ];simp),fun j hj=> ?_⟩;show(g.l++g.kB)[_]? =_;have QW:j<l.length:=by omega
  rw[Nat.zero_add,Int.toNat_natCast,Nat.mul_one,List.getElem?_append_left (by rw[hl,PC];exact QW),hl];unfold VA;rw[List.getElem?_map];simp only[List.getElem?_eq_getElem QW];rfl
structure kG where
 done:Bool
 total:Int
 cE:List (List UInt8)
def kG.al(s:kG):Int:=if s.done then 0 else 9
def rM(l:List (List UInt8))(s:List UInt8):Bool:=(jA (fun j=> pC (l[j]?.getD []) s) l.length).isSome
def HE(can:List (List UInt8))(w:Nat->Int):Nat->List (List UInt8)->Int->kG->kG
 | 0,l,sum,st=> if st.done=true/\sum≥st.total then st else⟨true,sum,l⟩
 | d+1,l,sum,st=> if st.done=true/\sum≥st.total then st else can.foldl (fun st s=> if rM l s then st else HE can w d (l++[s]) (sum+w l.length*(sB s:Nat)) st) st
def ptr(b:Nat):Value:=.pointer (some ⟨b,0,none⟩)
def yU(b8 b7 b3 b6 b9 b11:Nat):Value:=.func (.func 142) #[] #[ptr b8,ptr b7,ptr b3,ptr b6,ptr b9,ptr b11]
def sY(st:kG)(num:Value)(b8 b7 b6:Nat):Bl:= [(b8,true,.cells ⟨[.int .i64 st.al]⟩ 25 (0,0)),(b7,true,.cells ⟨[.int .i64 st.total]⟩ 3 (0,0)),(b6,true,.cells ⟨num.cells.toList⟩ 107 (0,0))]
def HL(a:Option Addr)(n c:Nat):Value:=.slice a n c
def lW(H:View)(a:Option Addr)(n c:Nat)(l:List Value):Prop:=ZA H 1 (HL a n c) n l/\n<=c
structure YR(can:List (List UInt8))(w:Nat->Int)(nw:Nat)(b8 b7 b3 b6 b9 b11:Nat)(cA wA:Option Addr)(cc wc:Nat)(H:View):Prop where
 f:∃f,H b11=some (f,.cells ⟨[yU b8 b7 b3 b6 b9 b11]⟩ 249 (0,0))
 c:∃f,H b9=some (f,.cells ⟨[.slice cA can.length cc]⟩ 107 (0,0))
 g:∃f,H b3=some (f,.cells ⟨[.slice wA nw wc]⟩ 24 (0,0))
 cs:oC H cA can.length (fun i=> can[i]?.getD [])
 ws:pB H wA nw w
theorem YR.le {can:List (List UInt8)}{w:Nat->Int}{nw b8 b7 b3 b6 b9 b11:Nat}{cA wA:Option Addr}{cc wc:Nat}{H H':View}(h:YR can w nw b8 b7 b3 b6 b9 b11 cA wA cc wc H)(k:H.le H'):YR can w nw b8 b7 b3 b6 b9 b11 cA wA cc wc H':=
 ⟨h.f.imp fun _ e=> k _ _ e,h.c.imp fun _ e=> k _ _ e,h.g.imp fun _ e=> k _ _ e,h.cs.le k,h.ws.le k⟩
def ChQ(H₁:View)(g:Gl 9 1)(st:kG)(b8 b7 b6:Nat)(v:Value)(H3:View):Prop:=
 v=.tuple ⟨[]⟩/\∃(H₂:View) (g':Gl 9 1) (a:Option Addr) (n c:Nat),H₁.le H₂/\iA H₂ (sY st (HL a n c) b8 b7 b6++g'.bl) H3/\(g'.blk=g.blk/\g'.n=g.n/\g'.cap=g.cap/\g'.l=g.l)/\(n=st.cE.length/\lW H₂ a n c (VA st.cE))
theorem HS {α β:Type}(f:β->α->β)(l:List α)(i:Nat)(b:β){x:α}(h:l[i]? =some x):(l.drop i).foldl f b=(l.drop (i+1)).foldl f (f b x):=by
 obtain⟨hi,rfl⟩:=List.getElem?_eq_some_iff.1 h;rw[List.drop_eq_getElem_cons hi,List.foldl_cons]
theorem Gl.I4 {e:TypeId}{sz:Nat}{g g':Gl e sz}(h:g'.blk=g.blk/\g'.n=g.n/\g'.cap=g.cap/\g'.l=g.l):g'.val=g.val:=by
 unfold Gl.val;rw[h.1,h.2.1,h.2.2.1]
def FC(can:List (List UInt8))(w:Nat->Int)(d:Nat)(l:List (List UInt8))(sum:Int)(st:kG)(s:List UInt8):kG:=if rM l s then st else HE can w d (l++[s]) (sum+w l.length*(sB s:Nat)) st
section
variable(M:Md prog)
theorem B7(can:List (List UInt8))(w:Nat->Int)(nw:Nat)(b8 b7 b3 b6 b9 b11:Nat)(cA wA:Option Addr)(cc wc:Nat)(hnw:nw<=20)(aE2:can.length<=100000)(hcn:∀s∈can,s.all CD=true/\s.length<=3)(hw:∀i,i<nw->0<=w i/\w i<=99):
  ∀ (d:Nat) (g:Gl 9 1) (l:List (List UInt8)) (sum:Int) (st:kG) (a:Option Addr) (n c':Nat) (H₁ Hc:View),g.l=VA l->l.length+d=nw->(0<=sum/\sum<=3000*(l.length:Nat))->YR can w nw b8 b7 b3 b6 b9 b11 cA wA cc wc H₁->n=st.cE.length->lW H₁ a n c' (VA st.cE)->iA H₁ (sY st (HL a n c') b8 b7 b6++g.bl) Hc-> 
   bA M 142 #[g.val,.int .i64 sum,ptr b8,ptr b7,ptr b3,ptr b6,ptr b9,ptr b11] Hc (ChQ H₁ g (HE can w d l sum st) b8 b7 b6):=by
 intro d;induction d with
 | zero=>
  intro g l sum st a n c' H₁ Hc hg hld aEw aC hn BL iR;have MG:g.n=l.length:=by have:=g.hl;rw[hg,PC] at this;omega
  have NN:=aC;obtain⟨⟨ff,hf⟩,⟨fc,hc⟩,⟨fg,hgw⟩,MW,hws⟩:=aC;obtain⟨dn,total,cE⟩:=st;by_cases c1:dn=true/\sum≥total
  ·obtain⟨rfl,c2⟩:=c1;have e:HE can w 0 l sum ⟨true,total,cE⟩=⟨true,total,cE⟩:=if_pos ⟨rfl,c2⟩;rw[e];refine bA.enter (vs:= [g.val,.int .i64 sum,ptr b8,ptr b7,ptr b3,ptr b6,ptr b9,ptr b11]) func142 rfl ntmps142 (Nat.le_of_ble_eq_true rfl) (iR) fun St c cs hK=> ?_;unfold sY ptr;refine PF ?_;refine .rt hK func142 results142 [] ?_;exact fun H' hs=> ⟨rfl,H₁,g,a,n,c',View.le_refl _,hs,⟨rfl,rfl,rfl,rfl⟩,hn,BL⟩
  ·have e:HE can w 0 l sum ⟨dn,total,cE⟩=⟨true,sum,l⟩:=if_neg c1;rw[e];clear e;cases dn with
   | false=>
    refine bA.enter (vs:= [g.val,.int .i64 sum,ptr b8,ptr b7,ptr b3,ptr b6,ptr b9,ptr b11]) func142 rfl ntmps142 (Nat.le_of_ble_eq_true rfl) (iR) fun St c cs hK=> ?_;unfold sY ptr;refine U26 ?_;refine .e (Or.PB Gl.val Gl.bl (fun g2:Gl 9 1=> g2.l=VA l/\g2.n=g.n) rfl rfl rfl rfl rfl dE Gl.LH (fun H hs=> .h (yS M H (g.blk.map fun b=> ⟨b,0,none⟩) g.n g.cap (VA l) oM (by rw[<-hg];exact g.src (fun x hx=> hs.at_ x (List.mem_append_right _ hx))) (XK l))) (fun g2 dP=> ?_));refine U5 ?_;refine .rt hK func142 results142 [] ?_;intro H' hs;obtain⟨H₂,h1,h2⟩:=iA.PD (B:= [(b8,true,.cells ⟨[.int .i64 0]⟩ 25 (0,0)),(b7,true,.cells ⟨[.int .i64 sum]⟩ 3 (0,0)),(b6,true,.cells ⟨[g2.val]⟩ 107 (0,0))]++g.bl) (L:=g2.bl) hs;refine⟨rfl,H₂,g,g2.blk.map (fun b=> ⟨b,0,none⟩),g2.n,g2.cap,h2.base,h1,⟨rfl,rfl,rfl,rfl⟩,by rw[dP.2];exact MG,?_⟩;have h3:=g2.src (H:=H₂) (fun x hx=> h2.at_ x hx);rw[dP.1] at h3;exact⟨h3,g2.hc⟩
   | true=>
    have c2:mA .geq .i64 sum (kG.mk true total cE).total=some (.bool false):=SH (Int.lt_of_not_ge fun h=> c1 ⟨rfl,h⟩);refine bA.enter (vs:= [g.val,.int .i64 sum,ptr b8,ptr b7,ptr b3,ptr b6,ptr b9,ptr b11]) func142 rfl ntmps142 (Nat.le_of_ble_eq_true rfl) (iR) fun St c cs hK=> ?_;unfold sY ptr;refine U26 ?_;refine .e (Or.PB Gl.val Gl.bl (fun g2:Gl 9 1=> g2.l=VA l/\g2.n=g.n) rfl rfl rfl rfl rfl dE Gl.LH (fun H hs=> .h (yS M H (g.blk.map fun b=> ⟨b,0,none⟩) g.n g.cap (VA l) oM (by rw[<-hg];exact g.src (fun x hx=> hs.at_ x (List.mem_append_right _ hx))) (XK l))) (fun g2 dP=> ?_));refine U5 ?_;refine .rt hK func142 results142 [] ?_;intro H' hs;obtain⟨H₂,h1,h2⟩:=iA.PD (B:= [(b8,true,.cells ⟨[.int .i64 0]⟩ 25 (0,0)),(b7,true,.cells ⟨[.int .i64 sum]⟩ 3 (0,0)),(b6,true,.cells ⟨[g2.val]⟩ 107 (0,0))]++g.bl) (L:=g2.bl) hs;refine⟨rfl,H₂,g,g2.blk.map (fun b=> ⟨b,0,none⟩),g2.n,g2.cap,h2.base,h1,⟨rfl,rfl,rfl,rfl⟩,by rw[dP.2];exact MG,?_⟩;have h3:=g2.src (H:=H₂) (fun x hx=> h2.at_ x hx);rw[dP.1] at h3;exact⟨h3,g2.hc⟩
 | succ d ihd=>
  intro g l sum st a n c' H₁ Hc hg hld aEw aC hn BL iR;have MG:g.n=l.length:=by have:=g.hl;rw[hg,PC] at this;omega
  have NN:=aC;obtain⟨⟨ff,hf⟩,⟨fc,hc⟩,⟨fg,hgw⟩,MW,hws⟩:=aC;obtain⟨dn,total,cE⟩:=st;by_cases c1:dn=true/\sum≥total
  ·obtain⟨rfl,c2⟩:=c1;have e:HE can w (d+1) l sum ⟨true,total,cE⟩=⟨true,total,cE⟩:=if_pos ⟨rfl,c2⟩;rw[e];refine bA.enter (vs:= [g.val,.int .i64 sum,ptr b8,ptr b7,ptr b3,ptr b6,ptr b9,ptr b11]) func142 rfl ntmps142 (Nat.le_of_ble_eq_true rfl) (iR) fun St c cs hK=> ?_;unfold sY ptr;refine PF ?_;refine .rt hK func142 results142 [] ?_;exact fun H' hs=> ⟨rfl,H₁,g,a,n,c',View.le_refl _,hs,⟨rfl,rfl,rfl,rfl⟩,hn,BL⟩
  ·have e:HE can w (d+1) l sum ⟨dn,total,cE⟩=can.foldl (FC can w d l sum) ⟨dn,total,cE⟩:=if_neg c1;rw[e];clear e;cases dn with
   | false =>
    refine bA.enter (vs:= [g.val,.int .i64 sum,ptr b8,ptr b7,ptr b3,ptr b6,ptr b9,ptr b11]) func142 rfl ntmps142 (Nat.le_of_ble_eq_true rfl) (iR) fun St c cs hK=> ?_;unfold sY ptr;refine U31 ?_;refine Tc.db (Tc.oJ (σ:= { y:View×Nat×kG×Gl 9 1×(Option Addr×Nat×Nat)//H₁.le y.1/\y.2.1<=can.length/\(can.drop y.2.1).foldl (FC can w d l sum) y.2.2.1=can.foldl (FC can w d l sum) (⟨false,total,cE⟩:kG)/\(y.2.2.2.1.blk=g.blk/\y.2.2.2.1.n=g.n/\y.2.2.2.1.cap=g.cap/\y.2.2.2.1.l=g.l)/\(y.2.2.2.2.2.1=y.2.2.1.cE.length/\lW y.1 y.2.2.2.2.1 y.2.2.2.2.2.1 y.2.2.2.2.2.2 (VA y.2.2.1.cE)) })
     (fun y=> (y.1.1,[(0,g.val),(1,.int .i64 sum),(2,.pointer (some ⟨b8,0,none⟩)),(3,.pointer (some ⟨b7,0,none⟩)),(4,.pointer (some ⟨b3,0,none⟩)),(5,.pointer (some ⟨b6,0,none⟩)),(6,.pointer (some ⟨b9,0,none⟩)),(7,.pointer (some ⟨b11,0,none⟩)),(27,.slice cA can.length cc),(28,.int .i64 (can.length:Nat)),(29,.int .i64 (y.1.2.1:Nat))],[(b8,true,.cells ⟨[.int .i64 y.1.2.2.1.al]⟩ 25 (0,0)),(b7,true,.cells ⟨[.int .i64 y.1.2.2.1.total]⟩ 3 (0,0)),(b6,true,.cells ⟨[HL y.1.2.2.2.2.1 y.1.2.2.2.2.2.1 y.1.2.2.2.2.2.2]⟩ 107 (0,0))]++y.1.2.2.2.1.bl)) (fun y=> can.length-y.1.2.1) ?_ ⟨(H₁,0,(⟨false,total,cE⟩:kG),g,(a,n,c')),View.le_refl _,Nat.zero_le _,rfl,⟨rfl,rfl,rfl,rfl⟩,hn,BL⟩)
    rintro⟨⟨H₂,i,st,g2,a2,n2,c2'⟩,p1,p2,p3,p4,p5,p6⟩ ih;simp only at p1 p2 p3 p4 p5 p6;show Tc M St _ _ H₂ _ [(0,g.val),(1,.int .i64 sum),(2,.pointer (some ⟨b8,0,none⟩)),(3,.pointer (some ⟨b7,0,none⟩)),(4,.pointer (some ⟨b3,0,none⟩)),(5,.pointer (some ⟨b6,0,none⟩)),(6,.pointer (some ⟨b9,0,none⟩)),(7,.pointer (some ⟨b11,0,none⟩)),(27,.slice cA can.length cc),(28,.int .i64 (can.length:Nat)),(29,.int .i64 (i:Nat))] ([(b8,true,.cells ⟨[.int .i64 st.al]⟩ 25 (0,0)),(b7,true,.cells ⟨[.int .i64 st.total]⟩ 3 (0,0)),(b6,true,.cells ⟨[HL a2 n2 c2']⟩ 107 (0,0))]++g2.bl) _ _;by_cases d1:i=can.length
    ·have e:can.foldl (FC can w d l sum) (⟨false,total,cE⟩:kG)=st:=by rw[<-p3,d1,List.drop_length];rfl
     rw[e] at hK;subst d1;refine U7 ?_;refine .ov hK func142 results142 [] ?_;exact fun H' hs=> ⟨rfl,H₂,g2,a2,n2,c2',p1,hs,p4,p5,p6⟩
    ·have d2:i<can.length:=by omega
     obtain⟨s,AH⟩:∃s,can[i]? =some s:=⟨_,List.getElem?_eq_getElem d2⟩
     have iV:=hcn s (List.mem_of_getElem? AH);have htk:=UI s iV.1;obtain h0|⟨cb,co,fcb,cgs,cgt,cgz,rfl,hcb,iB⟩:=MW
     ·omega
     have f1:=iB i d2;simp only[AH,Option.getD_some] at f1;have aEa:=p1 _ _ hcb;rw[HS _ _ _ _ AH] at p3;have hgv:=Gl.I4 p4;have aT:=fun(H':View) (bx:Nat) (fx:Bool) (dP:∀x∈g2.bl,H' x.1=some x.2) (o0:H' bx=some (fx,.cells ⟨[gA s]⟩ 9 (0,0)))=> XL M H' (g.blk.map fun b=> ⟨b,0,none⟩) g.n g.cap (fun j=> l[j]?.getD []) (SI g2 dP (p4.2.2.2.trans hg) (p4.2.1) p4.1) oM (.func (.func 145) #[] #[.pointer (some ⟨bx,0,none⟩)]) (fun j=> pC (l[j]?.getD []) s) (fun j _ H'' h''=> yB.of (first:= []) (captured:= [_]) y8 rfl (E2 M H'' s bx fx (h'' _ _ o0) (l[j]?.getD [])));have RN:(jA (fun j=> pC (l[j]?.getD []) s) g.n).isSome=rM l s:=by unfold rM;rw[MG]
     cases hq:rM l s with
     | true=>
      have e3:FC can w d l sum st s=st:=by unfold FC;rw[if_pos hq]
      rw[e3] at p3;rw[hq] at RN;refine LG ?_;refine .al fun bx=> ?_;refine U7 ?_;refine .cl (fun H hs=> OF (aT H bx true (fun x hx=> hs.at_ x (List.mem_cons_of_mem _ (List.mem_append_right _ hx))) (hs.get (i:=0) rfl)) RN) ?_;refine U7 ?_;exact Tc.db (ih ⟨(H₂,i+1,st,g2,(a2,n2,c2')),p1,by simp only;omega,p3,p4,p5,p6⟩ (by simp only;omega))
     | false=>
      have e3:FC can w d l sum st s=HE can w d (l++[s]) (sum+w l.length*(sB s:Nat)) st:=by unfold FC;rw[if_neg (by rw[hq];decide)]
      rw[e3] at p3;rw[hq] at RN;have Z0:=hw l.length oM;have aCO:0<=w l.length*(sB s:Nat)/\w l.length*(sB s:Nat)<=2970:=aDJ Z0 oM;have NS:=NN.le p1;obtain⟨⟨ff2,hf2⟩,⟨fc2,hc2⟩,⟨fg2,aEh⟩,_,aAv⟩:=NS;obtain h0|⟨wb,wo,fwb,wgs,wgt,wgz,rfl,hwb,aAu⟩:=aAv
      ·omega
      have f2:=aAu l.length oM;rw[<-MG] at f2;have f3:mA .mul .i64 (w g.n) (sB s:Nat)=some (.int .i64 (w l.length*(sB s:Nat))):=by rw[MG];exact kE oM oM
      have f4:mA .add .i64 sum (w l.length*(sB s:Nat))=some (.int .i64 (sum+w l.length*(sB s:Nat))):=lB oM oM;refine LG ?_;refine .al fun bx=> ?_;refine U7 ?_;refine .cl (fun H hs=> OF (aT H bx true (fun x hx=> hs.at_ x (List.mem_cons_of_mem _ (List.mem_append_right _ hx))) (hs.get (i:=0) rfl)) RN) ?_;refine U3 ?_;refine Tc.drT [4] [15] [] 4 mixed rfl ?_;refine .ow 0 ?_;refine .oo 1 ?_;refine .oo 2 ?_;refine .ow 5 ?_;refine .ow 6 ?_;refine .ow 7 ?_;refine .ow 8 ?_;refine .ow 9 ?_;refine .ow 10 ?_;refine .ow 11 ?_;refine .ea 3 rfl (.bs (zz:=fun bs=> ⟨S3.mk sL (.inr sL),?_⟩));refine .ea 4 rfl (Or.pW (E:=en) (g:=g2) (m:=1) (new:= [gA s]) (yv:=.slice (some ⟨bs,0,none⟩) 1 1) 5 rfl rfl rfl rfl (by rw[hgv];rfl) rfl rfl rfl rfl rfl rfl rfl rfl rfl rfl (fun H hs=> ZA.of (hs.get (i:=0) rfl) (Nat.le_of_ble_eq_true rfl)) rfl oM rfl dE (fun g3 SW fP hb3 hc3=> ⟨S3.mk sL (.inl kR),?_⟩) (fun g3 SW fP=> ⟨S3.mk sL (.inl kR),?_⟩))
      ·refine Ta.Z3 12 kR rfl rfl rfl dE rfl rfl (pA.tk fun H hs=> aL M H s iV.1 oM) ?_;refine .ow 13 ?_;refine .ow 14 ?_;refine Ta.lift (L₂:= [(bs,true,.cells ⟨[gA s]⟩ 9 (0,0)),(bx,true,.cells ⟨[gA s]⟩ 9 (0,0))]) (L₁:= [(b8,true,.cells ⟨[.int .i64 st.al]⟩ 25 (0,0)),(b7,true,.cells ⟨[.int .i64 st.total]⟩ 3 (0,0)),(b6,true,.cells ⟨[HL a2 n2 c2']⟩ 107 (0,0))]++g3.bl) rfl (fun Hx hx=> ?_);refine Ta.uB 15 kR rfl kR rfl rfl rfl rfl rfl rfl dE (yB.of (first:= []) (captured:= [_,_,_,_,_,_]) uS rfl (ihd g3 (l++[s]) _ st a2 n2 c2' H₂ Hx (by rw[fP,p4.2.2.2,hg,zD];rfl) (by rw[List.length_append];show l.length+1+d=nw;omega) (by rw[List.length_append];show _/\_<=3000*((l.length+1:Nat):Int);omega) (NN.le p1) p5 p6 hx)) (fun v H₃ hv=> ?_);obtain⟨_,H₄,g4,a4,n4,c4,r1,r2,r3,r4,r5⟩:=hv;refine Ta.expand r2 ?_;unfold sY;refine .dn ?_;refine U5 ?_;obtain⟨g5,s1,s2,s3,s4,s5⟩:=Gl.back (g:=g2) (g':=g4) [gA s] (r3.1.trans hb3) (by rw[r3.2.1,SW];rfl) (by rw[r3.2.2.1,hc3]) (by rw[r3.2.2.2,fP]);rw[<-s5];exact Tc.db (ih ⟨(H₄,i+1,_,g5,(a4,n4,c4)),View.le_trans p1 r1,by simp only;omega,p3,⟨s1.trans p4.1,s2.trans p4.2.1,s3.trans p4.2.2.1,s4.trans p4.2.2.2⟩,r4,r5⟩ (by simp only;omega))
      ·refine Ta.tM (L₁:=([(bs,true,.cells ⟨[gA s]⟩ 9 (0,0)),(bx,true,.cells ⟨[gA s]⟩ 9 (0,0))]++g2.bl)++([(b8,true,.cells ⟨[.int .i64 st.al]⟩ 25 (0,0)),(b7,true,.cells ⟨[.int .i64 st.total]⟩ 3 (0,0)),(b6,true,.cells ⟨[HL a2 n2 c2']⟩ 107 (0,0))]++g3.bl)) ?_ ?_
       ·simp only[List.cons_append,List.nil_append];refine .cons _ (.cons _ ?_);exact T2 g2.bl _ _ _ g3.bl
       ·refine Ta.Z3 12 kR rfl rfl rfl dE rfl rfl (pA.tk fun H hs=> aL M H s iV.1 oM) ?_;refine .ow 13 ?_;refine .ow 14 ?_;refine Ta.lift (L₂:= [(bs,true,.cells ⟨[gA s]⟩ 9 (0,0)),(bx,true,.cells ⟨[gA s]⟩ 9 (0,0))]++g2.bl) (L₁:= [(b8,true,.cells ⟨[.int .i64 st.al]⟩ 25 (0,0)),(b7,true,.cells ⟨[.int .i64 st.total]⟩ 3 (0,0)),(b6,true,.cells ⟨[HL a2 n2 c2']⟩ 107 (0,0))]++g3.bl) rfl (fun Hx hx=> ?_);refine Ta.uB 15 kR rfl kR rfl rfl rfl rfl rfl rfl dE (yB.of (first:= []) (captured:= [_,_,_,_,_,_]) uS rfl (ihd g3 (l++[s]) _ st a2 n2 c2' H₂ Hx (by rw[fP,p4.2.2.2,hg,zD];rfl) (by rw[List.length_append];show l.length+1+d=nw;omega) (by rw[List.length_append];show _/\_<=3000*((l.length+1:Nat):Int);omega) (NN.le p1) p5 p6 hx)) (fun v H₃ hv=> ?_);obtain⟨_,H₄,g4,a4,n4,c4,r1,r2,r3,r4,r5⟩:=hv;refine Ta.expand r2 ?_;unfold sY;refine .dn ?_;refine U5 ?_;have UD:=ih ⟨(H₄,i+1,_,g2,(a4,n4,c4)),View.le_trans p1 r1,by simp only;omega,p3,p4,r4,r5⟩ (by simp only;omega);refine Tc.tM (k9 _ _ g2.bl _ _ _ g4.bl) ?_;exact Tc.db UD
   | true=>
    have c2:mA .geq .i64 sum (kG.mk true total cE).total=some (.bool false):=SH (Int.lt_of_not_ge fun h=> c1 ⟨rfl,h⟩);refine bA.enter (vs:= [g.val,.int .i64 sum,ptr b8,ptr b7,ptr b3,ptr b6,ptr b9,ptr b11]) func142 rfl ntmps142 (Nat.le_of_ble_eq_true rfl) (iR) fun St c cs hK=> ?_;unfold sY ptr;refine U31 ?_;refine Tc.db (Tc.oJ (σ:= { y:View×Nat×kG×Gl 9 1×(Option Addr×Nat×Nat)//H₁.le y.1/\y.2.1<=can.length/\(can.drop y.2.1).foldl (FC can w d l sum) y.2.2.1=can.foldl (FC can w d l sum) (⟨true,total,cE⟩:kG)/\(y.2.2.2.1.blk=g.blk/\y.2.2.2.1.n=g.n/\y.2.2.2.1.cap=g.cap/\y.2.2.2.1.l=g.l)/\(y.2.2.2.2.2.1=y.2.2.1.cE.length/\lW y.1 y.2.2.2.2.1 y.2.2.2.2.2.1 y.2.2.2.2.2.2 (VA y.2.2.1.cE)) })
     (fun y=> (y.1.1,[(0,g.val),(1,.int .i64 sum),(2,.pointer (some ⟨b8,0,none⟩)),(3,.pointer (some ⟨b7,0,none⟩)),(4,.pointer (some ⟨b3,0,none⟩)),(5,.pointer (some ⟨b6,0,none⟩)),(6,.pointer (some ⟨b9,0,none⟩)),(7,.pointer (some ⟨b11,0,none⟩)),(27,.slice cA can.length cc),(28,.int .i64 (can.length:Nat)),(29,.int .i64 (y.1.2.1:Nat))],[(b8,true,.cells ⟨[.int .i64 y.1.2.2.1.al]⟩ 25 (0,0)),(b7,true,.cells ⟨[.int .i64 y.1.2.2.1.total]⟩ 3 (0,0)),(b6,true,.cells ⟨[HL y.1.2.2.2.2.1 y.1.2.2.2.2.2.1 y.1.2.2.2.2.2.2]⟩ 107 (0,0))]++y.1.2.2.2.1.bl)) (fun y=> can.length-y.1.2.1) ?_ ⟨(H₁,0,(⟨true,total,cE⟩:kG),g,(a,n,c')),View.le_refl _,Nat.zero_le _,rfl,⟨rfl,rfl,rfl,rfl⟩,hn,BL⟩)
    rintro⟨⟨H₂,i,st,g2,a2,n2,c2'⟩,p1,p2,p3,p4,p5,p6⟩ ih;simp only at p1 p2 p3 p4 p5 p6;show Tc M St _ _ H₂ _ [(0,g.val),(1,.int .i64 sum),(2,.pointer (some ⟨b8,0,none⟩)),(3,.pointer (some ⟨b7,0,none⟩)),(4,.pointer (some ⟨b3,0,none⟩)),(5,.pointer (some ⟨b6,0,none⟩)),(6,.pointer (some ⟨b9,0,none⟩)),(7,.pointer (some ⟨b11,0,none⟩)),(27,.slice cA can.length cc),(28,.int .i64 (can.length:Nat)),(29,.int .i64 (i:Nat))] ([(b8,true,.cells ⟨[.int .i64 st.al]⟩ 25 (0,0)),(b7,true,.cells ⟨[.int .i64 st.total]⟩ 3 (0,0)),(b6,true,.cells ⟨[HL a2 n2 c2']⟩ 107 (0,0))]++g2.bl) _ _;by_cases d1:i=can.length
    ·have e:can.foldl (FC can w d l sum) (⟨true,total,cE⟩:kG)=st:=by rw[<-p3,d1,List.drop_length];rfl
     rw[e] at hK;subst d1;refine U7 ?_;refine .ov hK func142 results142 [] ?_;exact fun H' hs=> ⟨rfl,H₂,g2,a2,n2,c2',p1,hs,p4,p5,p6⟩
    ·have d2:i<can.length:=by omega
     obtain⟨s,AH⟩:∃s,can[i]? =some s:=⟨_,List.getElem?_eq_getElem d2⟩
     have iV:=hcn s (List.mem_of_getElem? AH);have htk:=UI s iV.1;obtain h0|⟨cb,co,fcb,cgs,cgt,cgz,rfl,hcb,iB⟩:=MW
     ·omega
     have f1:=iB i d2;simp only[AH,Option.getD_some] at f1;have aEa:=p1 _ _ hcb;rw[HS _ _ _ _ AH] at p3;have hgv:=Gl.I4 p4;have aT:=fun(H':View) (bx:Nat) (fx:Bool) (dP:∀x∈g2.bl,H' x.1=some x.2) (o0:H' bx=some (fx,.cells ⟨[gA s]⟩ 9 (0,0)))=> XL M H' (g.blk.map fun b=> ⟨b,0,none⟩) g.n g.cap (fun j=> l[j]?.getD []) (SI g2 dP (p4.2.2.2.trans hg) (p4.2.1) p4.1) oM (.func (.func 145) #[] #[.pointer (some ⟨bx,0,none⟩)]) (fun j=> pC (l[j]?.getD []) s) (fun j _ H'' h''=> yB.of (first:= []) (captured:= [_]) y8 rfl (E2 M H'' s bx fx (h'' _ _ o0) (l[j]?.getD [])));have RN:(jA (fun j=> pC (l[j]?.getD []) s) g.n).isSome=rM l s:=by unfold rM;rw[MG]
     cases hq:rM l s with
     | true=>
      have e3:FC can w d l sum st s=st:=by unfold FC;rw[if_pos hq]
      rw[e3] at p3;rw[hq] at RN;refine LG ?_;refine .al fun bx=> ?_;refine U7 ?_;refine .cl (fun H hs=> OF (aT H bx true (fun x hx=> hs.at_ x (List.mem_cons_of_mem _ (List.mem_append_right _ hx))) (hs.get (i:=0) rfl)) RN) ?_;refine U7 ?_;exact Tc.db (ih ⟨(H₂,i+1,st,g2,(a2,n2,c2')),p1,by simp only;omega,p3,p4,p5,p6⟩ (by simp only;omega))
     | false=>
      have e3:FC can w d l sum st s=HE can w d (l++[s]) (sum+w l.length*(sB s:Nat)) st:=by unfold FC;rw[if_neg (by rw[hq];decide)]
      rw[e3] at p3;rw[hq] at RN;have Z0:=hw l.length oM;have aCO:0<=w l.length*(sB s:Nat)/\w l.length*(sB s:Nat)<=2970:=aDJ Z0 oM;have NS:=NN.le p1;obtain⟨⟨ff2,hf2⟩,⟨fc2,hc2⟩,⟨fg2,aEh⟩,_,aAv⟩:=NS;obtain h0|⟨wb,wo,fwb,wgs,wgt,wgz,rfl,hwb,aAu⟩:=aAv
      ·omega
      have f2:=aAu l.length oM;rw[<-MG] at f2;have f3:mA .mul .i64 (w g.n) (sB s:Nat)=some (.int .i64 (w l.length*(sB s:Nat))):=by rw[MG];exact kE oM oM
      have f4:mA .add .i64 sum (w l.length*(sB s:Nat))=some (.int .i64 (sum+w l.length*(sB s:Nat))):=lB oM oM;refine LG ?_;refine .al fun bx=> ?_;refine U7 ?_;refine .cl (fun H hs=> OF (aT H bx true (fun x hx=> hs.at_ x (List.mem_cons_of_mem _ (List.mem_append_right _ hx))) (hs.get (i:=0) rfl)) RN) ?_;refine U3 ?_;refine Tc.drT [4] [15] [] 4 mixed rfl ?_;refine .ow 0 ?_;refine .oo 1 ?_;refine .oo 2 ?_;refine .ow 5 ?_;refine .ow 6 ?_;refine .ow 7 ?_;refine .ow 8 ?_;refine .ow 9 ?_;refine .ow 10 ?_;refine .ow 11 ?_;refine .ea 3 rfl (.bs (zz:=fun bs=> ⟨S3.mk sL (.inr sL),?_⟩));refine .ea 4 rfl (Or.pW (E:=en) (g:=g2) (m:=1) (new:= [gA s]) (yv:=.slice (some ⟨bs,0,none⟩) 1 1) 5 rfl rfl rfl rfl (by rw[hgv];rfl) rfl rfl rfl rfl rfl rfl rfl rfl rfl rfl (fun H hs=> ZA.of (hs.get (i:=0) rfl) (Nat.le_of_ble_eq_true rfl)) rfl oM rfl dE (fun g3 SW fP hb3 hc3=> ⟨S3.mk sL (.inl kR),?_⟩) (fun g3 SW fP=> ⟨S3.mk sL (.inl kR),?_⟩))
      ·refine Ta.Z3 12 kR rfl rfl rfl dE rfl rfl (pA.tk fun H hs=> aL M H s iV.1 oM) ?_;refine .ow 13 ?_;refine .ow 14 ?_;refine Ta.lift (L₂:= [(bs,true,.cells ⟨[gA s]⟩ 9 (0,0)),(bx,true,.cells ⟨[gA s]⟩ 9 (0,0))]) (L₁:= [(b8,true,.cells ⟨[.int .i64 st.al]⟩ 25 (0,0)),(b7,true,.cells ⟨[.int .i64 st.total]⟩ 3 (0,0)),(b6,true,.cells ⟨[HL a2 n2 c2']⟩ 107 (0,0))]++g3.bl) rfl (fun Hx hx=> ?_);refine Ta.uB 15 kR rfl kR rfl rfl rfl rfl rfl rfl dE (yB.of (first:= []) (captured:= [_,_,_,_,_,_]) uS rfl (ihd g3 (l++[s]) _ st a2 n2 c2' H₂ Hx (by rw[fP,p4.2.2.2,hg,zD];rfl) (by rw[List.length_append];show l.length+1+d=nw;omega) (by rw[List.length_append];show _/\_<=3000*((l.length+1:Nat):Int);omega) (NN.le p1) p5 p6 hx)) (fun v H₃ hv=> ?_);obtain⟨_,H₄,g4,a4,n4,c4,r1,r2,r3,r4,r5⟩:=hv;refine Ta.expand r2 ?_;unfold sY;refine .dn ?_;refine U5 ?_;obtain⟨g5,s1,s2,s3,s4,s5⟩:=Gl.back (g:=g2) (g':=g4) [gA s] (r3.1.trans hb3) (by rw[r3.2.1,SW];rfl) (by rw[r3.2.2.1,hc3]) (by rw[r3.2.2.2,fP]);rw[<-s5];exact Tc.db (ih ⟨(H₄,i+1,_,g5,(a4,n4,c4)),View.le_trans p1 r1,by simp only;omega,p3,⟨s1.trans p4.1,s2.trans p4.2.1,s3.trans p4.2.2.1,s4.trans p4.2.2.2⟩,r4,r5⟩ (by simp only;omega))
      ·refine Ta.tM (L₁:=([(bs,true,.cells ⟨[gA s]⟩ 9 (0,0)),(bx,true,.cells ⟨[gA s]⟩ 9 (0,0))]++g2.bl)++([(b8,true,.cells ⟨[.int .i64 st.al]⟩ 25 (0,0)),(b7,true,.cells ⟨[.int .i64 st.total]⟩ 3 (0,0)),(b6,true,.cells ⟨[HL a2 n2 c2']⟩ 107 (0,0))]++g3.bl)) ?_ ?_
       ·simp only[List.cons_append,List.nil_append];refine .cons _ (.cons _ ?_);exact T2 g2.bl _ _ _ g3.bl
       ·refine Ta.Z3 12 kR rfl rfl rfl dE rfl rfl (pA.tk fun H hs=> aL M H s iV.1 oM) ?_;refine .ow 13 ?_;refine .ow 14 ?_;refine Ta.lift (L₂:= [(bs,true,.cells ⟨[gA s]⟩ 9 (0,0)),(bx,true,.cells ⟨[gA s]⟩ 9 (0,0))]++g2.bl) (L₁:= [(b8,true,.cells ⟨[.int .i64 st.al]⟩ 25 (0,0)),(b7,true,.cells ⟨[.int .i64 st.total]⟩ 3 (0,0)),(b6,true,.cells ⟨[HL a2 n2 c2']⟩ 107 (0,0))]++g3.bl) rfl (fun Hx hx=> ?_);refine Ta.uB 15 kR rfl kR rfl rfl rfl rfl rfl rfl dE (yB.of (first:= []) (captured:= [_,_,_,_,_,_]) uS rfl (ihd g3 (l++[s]) _ st a2 n2 c2' H₂ Hx (by rw[fP,p4.2.2.2,hg,zD];rfl) (by rw[List.length_append];show l.length+1+d=nw;omega) (by rw[List.length_append];show _/\_<=3000*((l.length+1:Nat):Int);omega) (NN.le p1) p5 p6 hx)) (fun v H₃ hv=> ?_);obtain⟨_,H₄,g4,a4,n4,c4,r1,r2,r3,r4,r5⟩:=hv;refine Ta.expand r2 ?_;unfold sY;refine .dn ?_;refine U5 ?_;have UD:=ih ⟨(H₄,i+1,_,g2,(a4,n4,c4)),View.le_trans p1 r1,by simp only;omega,p3,p4,r4,r5⟩ (by simp only;omega);refine Tc.tM (k9 _ _ g2.bl _ _ _ g4.bl) ?_;exact Tc.db UD
end
end Go.Proofs.YtldmfjcgjdchcaaGreatDoor
namespace Go.Proofs.YtldmfjcgjdchcaaGreatDoor
open Go.RL Go.Proofs.Tryz
set_option maxRecDepth 10000
theorem ZP(a b:UInt8)(x y:List UInt8):Op.bytesLess (a::x) (b::y)=(decide (a<b)||(a==b&&Op.bytesLess x y)):=rfl
theorem gT(s:List UInt8):Op.bytesLess s []=false:=by cases s <;> rfl
theorem aDF {a b:UInt8}:a<b<->a.toNat<b.toNat:=UInt8.lt_iff_toNat_lt
theorem zE:∀ {a b c:List UInt8},Op.bytesLess a b=true->Op.bytesLess b c=true->Op.bytesLess a c=true
 | _,[],_,h,_=> by rw[gT] at h;cases h
 | _,_::_,[],_,h=> by rw[gT] at h;cases h
 | [],_::_,_::_,_,_=> rfl
 | p ::a,q::b,r::c,h,k=> by
  rw[ZP] at h k ⊢;simp only[Bool.or_eq_true,Bool.and_eq_true,decide_eq_true_eq,beq_iff_eq] at h k ⊢;rcases h with h|⟨rfl,h⟩
  ·rcases k with k|⟨rfl,_⟩
   ·exact .inl (UInt8.lt_trans h k)
   ·exact .inl h
  ·rcases k with k|⟨rfl,k⟩
   ·exact .inl k
   ·exact .inr ⟨rfl,zE h k⟩
theorem KG:∀ {a b:List UInt8},Op.bytesLess a b=false->Op.bytesLess b a=false->a=b
 | [],[],_,_=> rfl
 | [],_::_,h,_=> by cases h
 | _::_,[],_,h=> by cases h
 | p ::a,q::b,h,k=> by
  rw[ZP] at h k;simp only[Bool.or_eq_false_iff,decide_eq_false_iff_not,Bool.and_eq_false_iff,beq_eq_false_iff_ne] at h k;have e:p=q:=by
   have h1:=h.1;have k1:=k.1;rw[aDF] at h1 k1;exact UInt8.toNat_inj.1 oM
  subst e;have h2:=h.2.resolve_left (fun h=> h rfl);have k2:=k.2.resolve_left (fun h=> h rfl);rw[KG h2 k2]
theorem YP {a b:List UInt8}(h:Op.bytesLess a b=true):Op.bytesLess b a=false:=by
 cases k:Op.bytesLess b a with
 | false=> rfl
 | true=>
  have:=zE h k;rw[JG] at this;cases this
def HF(S:List (List UInt8))(s:List UInt8):Nat:=S.countP fun t=> Op.bytesLess t s
theorem cX {a b:List UInt8}(h:Op.bytesLess a b=true):∀S:List (List UInt8),HF S a<=HF S b
 | []=> Nat.le_refl _
 | t ::S=> by
  have:=cX h S;unfold HF at this ⊢;rw[List.countP_cons,List.countP_cons];by_cases k:Op.bytesLess t a=true
  ·rw[if_pos k,if_pos (zE k h)];omega
  ·rw[if_neg k];split <;> omega
theorem MK {a b:List UInt8}(h:Op.bytesLess a b=true):∀S:List (List UInt8),a∈S->HF S a<HF S b
 | t ::S,hm=> by
  have hle:=cX h S;rcases List.mem_cons.1 hm with rfl|hm
  ·unfold HF at hle ⊢;rw[List.countP_cons,List.countP_cons,if_neg (by rw[JG];decide),if_pos h];omega
  ·have:=MK h S hm;unfold HF at this ⊢;rw[List.countP_cons,List.countP_cons];by_cases k:Op.bytesLess t a=true
   ·rw[if_pos k,if_pos (zE k h)];omega
   ·rw[if_neg k];split <;> omega
def lK(S:List (List UInt8))(z:Int):List UInt8:=(S.find? fun s=> decide ((HF S s:Int)=z)).getD []
theorem OH {S:List (List UInt8)}{s:List UInt8}(h:s∈S):lK S (HF S s:Nat)=s:=by
 unfold lK;cases hf:S.find? (fun t=> decide ((HF S t:Int)=(HF S s:Nat))) with
 | none=>
  have:=List.find?_eq_none.1 hf s h;simp at this
 | some t=>
  have h1:=List.mem_of_find?_eq_some hf;have h2:=List.find?_some hf;simp only[decide_eq_true_eq,Int.natCast_inj] at h2;show t=s;cases k:Op.bytesLess t s with
  | true=> have:=MK k S h1;omega
  | false=>
   cases k2:Op.bytesLess s t with
   | true=> have:=MK k2 S h;omega
   | false=> exact KG k k2
def XE(S:List (List UInt8)):List Int:=S.map fun s=> ((HF S s:Nat):Int)
theorem JP(S:List (List UInt8)):(XE S).map (lK S)=S:=by
 unfold XE;rw[List.map_map];have:∀s∈S,(lK S∘fun s=> ((HF S s:Nat):Int)) s=s:=fun s hs=> OH hs;rw[List.map_congr_left this,List.map_id']
theorem BG(S:List (List UInt8)):HM (lK S) (XE S):=by
 intro x hx y hy;obtain⟨s,hs,rfl⟩:=List.mem_map.1 hx;obtain⟨t,ht,rfl⟩:=List.mem_map.1 hy;rw[OH hs,OH ht];cases k:Op.bytesLess s t with
 | true=> exact(decide_eq_true (by have:=MK k S hs;omega)).symm
 | false=>
  refine(decide_eq_false ?_).symm;intro xB;cases k2:Op.bytesLess t s with
  | true=> have:=MK k2 S ht;omega
  | false=>
   have:=KG k k2;subst this;omega
def WR(a b:List UInt8):Bool:=!Op.bytesLess b a
def YX(x:List UInt8):List (List UInt8)->List (List UInt8)
 | []=> [x]
 | y::t=> if WR x y then x::y::t else y::YX x t
def RK:List (List UInt8)->List (List UInt8)
 | []=> []
 | x::t=> YX x (RK t)
theorem CL(x:List UInt8):∀l,(YX x l).Perm (x::l)
 | []=> .refl _
 | y::t=> by
  unfold YX;split
  ·exact .refl _
  ·exact(List.Perm.cons y (CL x t)).trans (.swap ..)
theorem iH:∀l,(RK l).Perm l
 | []=> .refl _
 | x::t=> (CL x _).trans (.cons x (iH t))
theorem aY {a b c:List UInt8}(h:WR a b=true)(k:WR b c=true):WR a c=true:=by
 unfold WR at *;simp only[Bool.not_eq_true'] at *;cases e:Op.bytesLess c a with
 | false=> rfl
 | true=>
  cases e2:Op.bytesLess b c with
  | true=> rw[zE e2 e] at h;cases h
  | false=>
   have:=KG e2 k;subst this;rw[e] at h;cases h
theorem ZX {a b:List UInt8}(h:WR a b=false):WR b a=true:=by
 unfold WR at *;simp only[Bool.not_eq_true',Bool.not_eq_false'] at *;exact YP h
theorem pM(x:List UInt8):∀l:List (List UInt8),l.Pairwise (fun a b=> WR a b=true)->(YX x l).Pairwise (fun a b=> WR a b=true)
 | [],_=> List.pairwise_singleton _ _
 | y ::t,h=> by
  obtain⟨h1,h2⟩:=List.pairwise_cons.1 h;unfold YX;split
  ·rename_i hx
   refine List.pairwise_cons.2 ⟨fun z hz=> ?_,h⟩;rcases List.mem_cons.1 hz with rfl|hz
   ·exact hx
   ·exact aY hx (h1 z hz)
  ·rename_i hx
   refine List.pairwise_cons.2 ⟨fun z hz=> ?_,pM x t h2⟩;rcases List.mem_cons.1 ((CL x t).mem_iff.1 hz) with rfl|hz
   ·exact ZX (by simpa using hx)
   ·exact h1 z hz
theorem SK:∀l:List (List UInt8),(RK l).Pairwise (fun a b=> WR a b=true)
 | []=> List.Pairwise.nil
 | x::t=> pM x _ (SK t)
theorem wM {l m:List (List UInt8)}(h:l.Perm m)(hl:l.Pairwise (fun a b=> WR a b=true))(hm:m.Pairwise (fun a b=> WR a b=true)):l=m:=
 List.Perm.eq_of_pairwise (le:=fun a b=> WR a b=true) (fun a b _ _ h1 h2=> by
  unfold WR at h1 h2;simp only[Bool.not_eq_true'] at h1 h2;exact KG h2 h1) hl hm h
theorem MQ {S:List (List UInt8)}{m:List Int}{n:Nat}(hn:n=S.length)(ht:lA 0 n (XE S) m)(hs:pE 0 n m):m.map (lK S)=RK S:=by
 have hpm:m.Perm (XE S):=List.perm_iff_count.2 ht.cnt;have hp:(m.map (lK S)).Perm S:=by
  have:=hpm.map (lK S)
  rwa [JP] at this
 refine wM (hp.trans (iH S).symm) ?_ (SK S);rw[List.pairwise_map,List.pairwise_iff_getElem];intro i j hi hj WO;have QN:m.length=n:=by rw[ht.len,hn];simp[XE]
 have h1:=hs i j (Nat.zero_le _) WO oM;unfold tA at h1;rw[List.getElem?_eq_getElem hi,List.getElem?_eq_getElem hj] at h1;simp only[Option.getD_some] at h1;have h2:=(BG S).WC ht m[j] (List.getElem_mem hj) m[i] (List.getElem_mem hi);unfold WR;rw[h2,decide_eq_false oM];rfl
theorem xM(S:List (List UInt8)):nA (lK S) (XE S)=S.map gA:=by
 have:=congrArg (List.map gA) (JP S);rw[List.map_map] at this;exact this
theorem jQ(dec:Int->List UInt8)(m:List Int):nA dec m=(m.map dec).map gA:=by
 rw[List.map_map];rfl
theorem yG {P:Program}{M:Md P}{St:View->Goroutine->Prop}{n:Nat}{b:FB}{H₀:View}{cs:List Frame}{R:Rg}{L:Bl}{ds:List Deferred}{k:List Item}{id:Nat}{x:Code}(F:Rg->Bl->Prop)(hF:∀R L,F R L->Tc M St n b H₀ cs R L ds k)
 (h:(∀R L,F R L->Tc M St n b H₀ cs R L ds k)->Tc M St n b H₀ cs R L ds (.code x:: .inBlock id::k)):Tc M St n b H₀ cs R L ds (.code (.block id x)::k):=.block (h hF)
def eE(a b:Nat)(u:List Int):Prop:=a=0\/∀i,a<=i->i<b->tA u (a-1)<=tA u i
theorem P3 {a i p q:Nat}{w:List Int}(hp:i<=p/\p<w.length)(hq:i<=q/\q<w.length)(h:pE a i w):pE a i (gB w p q):=fun x y h1 h2 h3=> by
 rw[mC hp.2 hq.2,mC hp.2 hq.2,if_neg oM,if_neg oM,if_neg oM,if_neg oM];exact h x y h1 h2 h3
theorem O3 {a i:Nat}{u:List Int}(h:pE a i u)(hi:a<i)(hle:¬tA u i<tA u (i-1)):pE a (i+1) u:=fun p q h1 h2 h3=> by
 by_cases e:q=i
 ·subst e;by_cases e2:p=q-1
  ·rw[e2];omega
  ·have:=h p (q-1) h1 oM oM;omega
 ·exact h p q h1 h2 oM
theorem eK {l:List Int}{i:Nat}(h:i<l.length):l[i]? =some (tA l i):=by
 unfold tA;rw[List.getElem?_eq_getElem h];rfl
theorem lA.get {a b:Nat}{l m:List Int}(h:lA a b l m){i:Nat}(hi:i<a\/b<=i):m[i]? =l[i]? :=by
 by_cases c:i<l.length
 ·rw[eK c,eK (by rw[h.len];exact c),h.out i hi]
 ·have hl:=h.len;rw[List.getElem?_eq_none oM,List.getElem?_eq_none oM]
theorem parts_eq(l:List Int){a b:Nat}(KS:a<=b):l=l.take a++((l.drop a).take (b-a)++l.drop b):=by
 have h1:l.drop b=(l.drop a).drop (b-a):=by rw[List.drop_drop];congr 1;omega
 rw[h1,List.take_append_drop,List.take_append_drop]
theorem lA.LI {a b:Nat}{l m:List Int}(h:lA a b l m)(KS:a<=b)(x:Int):((m.drop a).take (b-a)).count x=((l.drop a).take (b-a)).count x:=by
 have e1:m.take a=l.take a:=by
  apply List.ext_getElem?
  intro i;by_cases c:i<a
  ·rw[List.getElem?_take_of_lt c,List.getElem?_take_of_lt c];exact h.get (.inl c)
  ·rw[List.getElem?_eq_none (by rw[List.length_take];omega),List.getElem?_eq_none (by rw[List.length_take];omega)]
 have e2:m.drop b=l.drop b:=by
  apply List.ext_getElem?
  intro i;rw[List.getElem?_drop,List.getElem?_drop];exact h.get (.inr oM)
 have h1:=h.cnt x;have h2:=congrArg (List.count x) (parts_eq m KS);have h3:=congrArg (List.count x) (parts_eq l KS);simp only[List.count_append] at h2 h3;rw[e1,e2] at h2;omega
theorem lA.all {a b:Nat}{l m:List Int}(h:lA a b l m)(hb:b<=l.length){P:Int->Prop}(hP:∀p,a<=p->p<b->P (tA l p)):∀p,a<=p->p<b->P (tA m p):=fun p h1 h2=> by
 have g1:tA m p∈(m.drop a).take (b-a):=by
  rw[List.mem_iff_getElem?];refine⟨p-a,?_⟩;rw[List.getElem?_take_of_lt oM,List.getElem?_drop,show a+(p-a)=p by omega];exact eK (by rw[h.len];omega)
 have g2:tA m p∈(l.drop a).take (b-a):=by
  rw[<-List.count_pos_iff,<-h.LI oM];exact List.count_pos_iff.2 g1
 obtain⟨i,hi⟩:=List.mem_iff_getElem?.1 g2;have xB:i<b-a:=by
  have:=(List.getElem?_eq_some_iff.1 hi).1;rw[List.length_take] at this;omega
 rw[List.getElem?_take_of_lt xB,List.getElem?_drop,eK oM] at hi;have:=Option.some.inj hi;rw[<-this];exact hP (a+i) oM oM
theorem eE.jH {a b:Nat}{u w:List Int}(h:eE a b u)(k:lA a b u w)(hb:b<=u.length):eE a b w:=by
 rcases h with h|h
 ·exact .inl h
 ·by_cases h0:a=0
  ·exact .inl h0
  ·refine .inr fun i h1 h2=> ?_;rw[k.out (a-1) (.inl oM)];exact k.all hb (P:=fun x=> tA u (a-1)<=x) h i h1 h2
def YO(f lo hi:Nat)(l:List Int):Prop:=∀k c,lo<=k->(c=2*k+1\/c=2*k+2)->c<hi->tA l (f+c)<=tA l (f+k)
def iF(f lo hi r:Nat)(l:List Int):Prop:=
 (∀k c,lo<=k->k≠r->(c=2*k+1\/c=2*k+2)->c<hi->tA l (f+c)<=tA l (f+k))/\
 (∀k c,lo<=k->(r=2*k+1\/r=2*k+2)->(c=2*r+1\/c=2*r+2)->c<hi->tA l (f+c)<=tA l (f+k))
theorem YO.top {f hi:Nat}{l:List Int}(h:YO f 0 hi l):∀k,k<hi->tA l (f+k)<=tA l f:=by
 intro k;induction k using Nat.strongRecOn with
 | ind k ih=>
  intro hk;by_cases h0:k=0
  ·subst h0;exact Int.le_refl _
  ·have h1:=h ((k-1)/2) k (Nat.zero_le _) oM hk;have h2:=ih ((k-1)/2) oM oM;omega
theorem iF.fin {f lo hi r:Nat}{l:List Int}(h:iF f lo hi r l)(hr:∀c,(c=2*r+1\/c=2*r+2)->c<hi->tA l (f+c)<=tA l (f+r)):YO f lo hi l:=fun k c h1 h2 h3=> by
 by_cases e:k=r
 ·subst e;exact hr c h2 h3
 ·exact h.1 k c h1 e h2 h3
theorem iF.step {f lo hi r c:Nat}{l:List Int}(h:iF f lo hi r l)(hl:f+hi<=l.length)(hlr:lo<=r)(hc:c=2*r+1\/c=2*r+2)(LW:c<hi)(xB:tA l (f+r)<tA l (f+c))
  (yK:∀d,(d=2*r+1\/d=2*r+2)->d<hi->tA l (f+d)<=tA l (f+c)):iF f lo hi c (gB l (f+r) (f+c)):=by
 have hs:=fun q=> mC (l:=l) (p:=f+r) (q:=f+c) oM oM q;refine⟨fun k d h1 h2 h3 h4=> ?_,fun k d h1 h2 h3 h4=> ?_⟩
 ·rw[hs,hs,if_neg (show ¬f+k=f+c by omega)];by_cases e:k=r
  ·subst e;rw[if_pos rfl];by_cases e2:d=c
   ·subst e2;rw[if_pos rfl];omega
   ·rw[if_neg oM,if_neg oM];exact yK d h3 h4
  ·rw[if_neg (show ¬f+k=f+r by omega)];by_cases e2:d=c
   ·omega
   ·rw[if_neg oM];by_cases e3:d=r
    ·subst e3;rw[if_pos rfl];exact h.2 k c h1 h3 hc LW
    ·rw[if_neg oM];exact h.1 k d h1 e h3 h4
 ·have e:k=r:=by omega
  subst e;rw[hs,hs,if_neg oM,if_neg oM,if_neg oM,if_pos rfl];exact h.1 c d oM oM h3 h4
structure mN(a b i j:Nat)(u:List Int):Prop where
 ai:a+1<=i
 ij:i<=j+1
 jb:j<b
 aj:a<=j
 lo:∀k,a<k->k<i->tA u k<tA u a
 hi:∀k,j<k->k<b->tA u a<=tA u k
theorem mN.start {a b:Nat}{u:List Int}(h:a<b):mN a b (a+1) (b-1) u:=⟨Nat.le_refl _,oM,oM,oM,fun k h1 h2=> by omega,fun k h1 h2=> by omega⟩
theorem mN.up {a b i j:Nat}{u:List Int}(h:mN a b i j u)(WO:i<=j)(xB:tA u i<tA u a):mN a b (i+1) j u:=
 ⟨by have:=h.ai;omega,oM,h.jb,h.aj,fun k h1 h2=> by
  by_cases e:k=i
  ·rw[e];exact xB
  ·exact h.lo k h1 oM,h.hi⟩
theorem mN.down {a b i j:Nat}{u:List Int}(h:mN a b i j u)(WO:i<=j)(SS:¬tA u j<tA u a):mN a b i (j-1) u:=
 ⟨h.ai,oM,by have:=h.jb;omega,by have:=h.ai;omega,h.lo,fun k h1 h2=> by
  by_cases e:k=j
  ·rw[e];omega
  ·exact h.hi k oM h2⟩
theorem mN.swap {a b i j:Nat}{u:List Int}(h:mN a b i j u)(hl:b<=u.length)(WO:i<=j)(h1:¬tA u i<tA u a)(h2:tA u j<tA u a):i<j/\mN a b (i+1) (j-1) (gB u i j):=by
 have ha:=h.ai;have hb:=h.jb;have nB:i≠j:=by
  rintro rfl;omega
 have hs:=fun q=> mC (l:=u) (p:=i) (q:=j) oM oM q;have h0:tA (gB u i j) a=tA u a:=by rw[hs,if_neg oM,if_neg oM]
 refine⟨oM,⟨oM,oM,oM,oM,fun k h3 h4=> ?_,fun k h3 h4=> ?_⟩⟩
 ·rw[h0,hs,if_neg oM];by_cases e:k=i
  ·rw[if_pos e];exact h2
  ·rw[if_neg e];exact h.lo k h3 oM
 ·rw[h0,hs];by_cases e:k=j
  ·rw[if_pos e];omega
  ·rw[if_neg e,if_neg oM];exact h.hi k oM h4
structure Part(a b j:Nat)(u:List Int):Prop where
 aj:a<=j
 jb:j<b
 lo:∀k,a<=k->k<j->tA u k<tA u j
 hi:∀k,j<k->k<b->tA u j<=tA u k
theorem mN.fin {a b i j:Nat}{u:List Int}(h:mN a b i j u)(hl:b<=u.length)(WO:j<i):Part a b j (gB u j a):=by
 have ha:=h.ai;have hb:=h.jb;have hj:=h.aj;have hi:=h.ij;have hs:=fun q=> mC (l:=u) (p:=j) (q:=a) oM oM q;have h0:tA (gB u j a) j=tA u a:=by
  rw[hs];by_cases e:j=a
  ·rw[if_pos e,e]
  ·rw[if_neg e,if_pos rfl]
 refine⟨hj,hb,fun k h3 h4=> ?_,fun k h3 h4=> ?_⟩
 ·rw[h0,hs];by_cases e:k=a
  ·rw[if_pos e];exact h.lo j oM oM
  ·rw[if_neg e,if_neg oM];exact h.lo k oM oM
 ·rw[h0,hs,if_neg oM,if_neg oM];exact h.hi k h3 h4
theorem Part.sorted {a b j:Nat}{u m w:List Int}(h:Part a b j u)(hl:b<=u.length)(h1:lA a j u m)(s1:pE a j m)(h2:lA (j+1) b m w)(s2:pE (j+1) b w):lA a b u w/\pE a b w:=by
 have hj:=h.aj;have hb:=h.jb;have QN:=h1.len;refine⟨(h1.wide (Nat.le_refl _) oM).trans (h2.wide oM (Nat.le_refl _)),fun p q g1 g2 g3=> ?_⟩;have ej:tA w j=tA u j:=by rw[h2.out j (.inl oM),h1.out j (.inr (Nat.le_refl _))]
 have lo:∀k,a<=k->k<j->tA w k<=tA u j:=fun k c1 c2=> by
  rw[h2.out k (.inl oM)];exact h1.all oM (P:=fun x=> x<=tA u j) (fun k c3 c4=> Int.le_of_lt (h.lo k c3 c4)) k c1 c2
 have hi:∀k,j<k->k<b->tA u j<=tA w k:=fun k c1 c2=>
  h2.all oM (P:=fun x=> tA u j<=x) (fun k c3 c4=> by rw[h1.out k (.inr oM)];exact h.hi k oM c4) k oM c2
 by_cases c1:q<j
 ·rw[h2.out p (.inl oM),h2.out q (.inl oM)];exact s1 p q g1 g2 c1
 ·by_cases c2:q=j
  ·rw[c2,ej];exact lo p g1 oM
  ·by_cases c3:p<j
   ·exact Int.le_trans (lo p g1 c3) (hi q oM g3)
   ·by_cases c4:p=j
    ·rw[c4,ej];exact hi q oM g3
    ·exact s2 p q oM g2 g3
theorem Part.Q7 {a b j:Nat}{u m w:List Int}(h:Part a b j u)(hl:b<=u.length)(h1:lA (j+1) b u m)(s1:pE (j+1) b m)(h2:lA a j m w)(s2:pE a j w):lA a b u w/\pE a b w:=by
 have hj:=h.aj;have hb:=h.jb;have QN:=h1.len;refine⟨(h1.wide oM (Nat.le_refl _)).trans (h2.wide (Nat.le_refl _) oM),fun p q g1 g2 g3=> ?_⟩;have ej:tA w j=tA u j:=by rw[h2.out j (.inr (Nat.le_refl _)),h1.out j (.inl oM)]
 have lo:∀k,a<=k->k<j->tA w k<=tA u j:=fun k c1 c2=>
  h2.all oM (P:=fun x=> x<=tA u j) (fun k c3 c4=> by rw[h1.out k (.inl oM)];exact Int.le_of_lt (h.lo k c3 c4)) k c1 c2
 have hi:∀k,j<k->k<b->tA u j<=tA w k:=fun k c1 c2=> by
  rw[h2.out k (.inr oM)];exact h1.all oM (P:=fun x=> tA u j<=x) (fun k c3 c4=> h.hi k oM c4) k oM c2
 by_cases c1:q<j
 ·exact s2 p q g1 g2 c1
 ·by_cases c2:q=j
  ·rw[c2,ej];exact lo p g1 oM
  ·by_cases c3:p<j
   ·exact Int.le_trans (lo p g1 c3) (hi q oM g3)
   ·by_cases c4:p=j
    ·rw[c4,ej];exact hi q oM g3
    ·rw[h2.out p (.inr oM),h2.out q (.inr oM)];exact s1 p q oM g2 g3
set_option maxHeartbeats 8000000
section
variable(M:Md prog)(H:View)
theorem JV(dec:Int->List UInt8)(sb:Nat)(l:List Int)(jj:List Value)(n cap a b:Nat)(hn:n=l.length)(hb:b<=n)(RE:n<=100000000)(ha:a<b)(hS:H sb=some (true,.cells ⟨(nA dec l)++jj⟩ 9 (0,0))):
  bA M 260 #[.slice (some ⟨sb,0,none⟩) n cap,.int .i64 (a:Nat),.int .i64 (b:Nat)] H (YA dec H sb jj (fun v m=> v=.tuple ⟨[]⟩/\lA a b l m)):=by
 refine bA.enter (vs:= [.slice (some ⟨sb,0,none⟩) n cap,.int .i64 (a:Nat),.int .i64 (b:Nat)]) func260 rfl ntmps260 (Nat.le_of_ble_eq_true rfl) (iA.pull hS) fun St c cs hK=> ?_;have ZZ:((b:Nat):Int)-1=((b-1:Nat):Int):=by omega
 refine qE ?_;rw[ZZ];refine U ?_;refine Tc.db (Tc.sA (σ:= { s:Nat×Nat×List Int//a<=s.1/\s.1<=b/\a<=s.2.1/\s.2.1<b/\lA a b l s.2.2 }) (fun s=> ([(0,.slice (some ⟨sb,0,none⟩) n cap),(6,.int .i64 (s.1.1:Nat)),(7,.int .i64 (s.1.2.1:Nat))],[(sb,true,.cells ⟨(nA dec s.1.2.2)++jj⟩ 9 (0,0))])) (fun s=> s.1.2.1) ?_
  ⟨(a,b-1,l),by simp,by simp only;omega,by simp only;omega,by simp only;omega,lA.refl ..⟩)
 rintro⟨⟨i,j,u⟩,g1,g2,g3,g4,g5⟩ ih;simp only at g1 g2 g3 g4 g5;show Tc M St _ _ _ _ [(0,.slice (some ⟨sb,0,none⟩) n cap),(6,.int .i64 (i:Nat)),(7,.int .i64 (j:Nat))] [(sb,true,.cells ⟨(nA dec u)++jj⟩ 9 (0,0))] _ _;have nM:=g5.len;by_cases c1:i<j
 ·have e1:((j:Nat):Int)-1=((j-1:Nat):Int):=by omega
  have k1:=qA (dec:=dec) (m:=u) (j:=jj) (k:=(i:Nat)) (p:=i) rfl oM;have k2:=qA (dec:=dec) (m:=u) (j:=jj) (k:=(j:Nat)) (p:=j) rfl oM;have s1:=yA (dec:=dec) (m:=u) (j:=jj) (k:=(i:Nat)) (x:=tA u j) (p:=i) rfl oM;have s2:=yA (dec:=dec) (m:=u.set i (tA u j)) (j:=jj) (k:=(j:Nat)) (x:=tA u i) (p:=j) rfl (by rw[List.length_set];omega);have l1:=xA (dec:=dec) (m:=u) (j:=jj) (k:=(i:Nat)) (p:=i) rfl oM;have l2:=xA (dec:=dec) (m:=u.set i (tA u j)) (j:=jj) (k:=(j:Nat)) (p:=j) rfl (by rw[List.length_set];omega);refine qE ?_;refine Tc.dr [13,15] [0] mixed rfl ?_;refine V2 0 ?_;refine .nw 2 ?_;refine .nw 3 ?_;refine V4 4 ?_;refine .nw 8 ?_;refine .nw 9 ?_;refine .nw 10 ?_;refine V2 11 ?_;refine .e 13 0 ?_;refine .nw 14 ?_;refine .e 15 0 ?_;refine .dn ?_;refine qE ?_;rw[e1];refine U ?_;exact Tc.db (ih ⟨(i+1,j-1,gB u i j),by simp only;omega,by simp only;omega,by simp only;omega,by simp only;omega,g5.trans (lA.swap oM oM oM oM)⟩ (by simp only;omega))
 ·refine U9 ?_;refine .ov hK func260 results260 [] ?_;exact fun H' hs=> YA.of (dec:=dec) hs (i:=0) rfl ⟨rfl,g5⟩
end
section
variable(M:Md prog)(H:View)
theorem vM(dec:Int->List UInt8)(sb:Nat)(l:List Int)(jj:List Value)(n cap lo hi f:Nat)(hn:n=l.length)(hE:HM dec l)(hf:f+hi<=n)(RE:n<=100000000)(AL:lo<=hi)(hH:iF f lo hi lo l)(hS:H sb=some (true,.cells ⟨(nA dec l)++jj⟩ 9 (0,0))):
  bA M 301 #[.slice (some ⟨sb,0,none⟩) n cap,.int .i64 (lo:Nat),.int .i64 (hi:Nat),.int .i64 (f:Nat)] H (YA dec H sb jj (fun v m=> v=.tuple ⟨[]⟩/\lA f (f+hi) l m/\YO f lo hi m)):=by
 refine bA.enter (vs:= [.slice (some ⟨sb,0,none⟩) n cap,.int .i64 (lo:Nat),.int .i64 (hi:Nat),.int .i64 (f:Nat)]) func301 rfl ntmps301 (Nat.le_of_ble_eq_true rfl) (iA.pull hS) fun St c cs hK=> ?_;refine U6 ?_;refine Tc.db (Tc.sA (σ:= { s:Nat×List Int//lo<=s.1/\s.1<=hi/\lA f (f+hi) l s.2/\iF f lo hi s.1 s.2 }) (fun s=> ([(0,.slice (some ⟨sb,0,none⟩) n cap),(2,.int .i64 (hi:Nat)),(3,.int .i64 (f:Nat)),(8,.int .i64 (s.1.1:Nat))],[(sb,true,.cells ⟨(nA dec s.1.2)++jj⟩ 9 (0,0))])) (fun s=> hi-s.1.1) ?_
  ⟨(lo,l),Nat.le_refl _,AL,lA.refl ..,hH⟩)
 rintro⟨⟨r,u⟩,g1,g2,g3,g4⟩ ih;simp only at g1 g2 g3 g4;have nM:=g3.len;have FI:=hE.WC g3;have e1:2*((r:Nat):Int)+1=((2*r+1:Nat):Int):=by omega
 have e2:((2*r+1:Nat):Int)+1=((2*r+2:Nat):Int):=by omega
 show Tc M St _ _ _ _ [(0,.slice (some ⟨sb,0,none⟩) n cap),(2,.int .i64 (hi:Nat)),(3,.int .i64 (f:Nat)),(8,.int .i64 (r:Nat))] [(sb,true,.cells ⟨(nA dec u)++jj⟩ 9 (0,0))] _ _;refine U4 ?_;refine .i ?_ (z:=kE oM oM);refine U3 ?_;rw[e1];by_cases c0:2*r+1<hi
 ·by_cases d1:2*r+2<hi
  ·have k1:=qA (dec:=dec) (m:=u) (j:=jj) (k:=(f:Nat)+((2*r+1:Nat):Int)) (p:=f+(2*r+1)) oM oM;have k2:=qA (dec:=dec) (m:=u) (j:=jj) (k:=(f:Nat)+((2*r+1:Nat):Int)+1) (p:=f+(2*r+2)) oM oM;by_cases d2:tA u (f+(2*r+1))<tA u (f+(2*r+2))
   ·have yK:∀d,(d=2*r+1\/d=2*r+2)->d<hi->tA u (f+d)<=tA u (f+(2*r+2)):=by rintro d (rfl|rfl) _ <;> omega
    refine qE ?_;refine Tc.dr [] [] mixed rfl ?_;refine V18 0 ?_;refine .z 18 rfl (pA.tk fun H hs=> VB M H FI (rA oM) (rA oM) true (decide_eq_true d2)) ?_;refine .nn 19 ?_;refine .dn ?_;refine U6 ?_;rw[e2];refine U2 ?_;have hcv:2*r+2<hi:=by omega
    have k3:=qA (dec:=dec) (m:=u) (j:=jj) (k:=(f:Nat)+(r:Nat)) (p:=f+r) oM oM;have k4:=qA (dec:=dec) (m:=u) (j:=jj) (k:=(f:Nat)+((2*r+2:Nat):Int)) (p:=f+(2*r+2)) oM oM;by_cases d3:tA u (f+r)<tA u (f+(2*r+2))
    ·have s1:=yA (dec:=dec) (m:=u) (j:=jj) (k:=(f:Nat)+(r:Nat)) (x:=tA u (f+(2*r+2))) (p:=f+r) oM oM;have s2:=yA (dec:=dec) (m:=u.set (f+r) (tA u (f+(2*r+2)))) (j:=jj) (k:=(f:Nat)+((2*r+2:Nat):Int)) (x:=tA u (f+r)) (p:=f+(2*r+2)) oM (by rw[List.length_set];omega);have l1:=xA (dec:=dec) (m:=u) (j:=jj) (k:=(f:Nat)+(r:Nat)) (p:=f+r) oM oM;have l2:=xA (dec:=dec) (m:=u.set (f+r) (tA u (f+(2*r+2)))) (j:=jj) (k:=(f:Nat)+((2*r+2:Nat):Int)) (p:=f+(2*r+2)) oM (by rw[List.length_set];omega);refine Tc.dr [] [] mixed rfl ?_;refine SO 0 ?_;refine .z 12 rfl (pA.tk fun H hs=> VB M H FI (rA oM) (rA oM) true (decide_eq_true d3)) ?_;refine .nn 13 ?_;refine .dn ?_;refine U3 ?_;refine Tc.dr [21,23] [0] mixed rfl ?_;refine V4 0 ?_;refine .nw 4 ?_;refine .nw 5 ?_;refine .nw 6 ?_;refine .nw 7 ?_;refine V6 8 ?_;refine .nw 14 ?_;refine .nw 15 ?_;refine .nw 16 ?_;refine .nw 17 ?_;refine .nw 18 ?_;refine V2 19 ?_;refine .e 21 0 ?_;refine .nw 22 ?_;refine .e 23 0 ?_;refine .dn ?_;refine U5 ?_;exact Tc.db (ih ⟨(2*r+2,gB u (f+r) (f+(2*r+2))),by simp only;omega,by simp only;omega,g3.trans (lA.swap oM oM oM oM),g4.step oM g1 oM hcv d3 yK⟩ (by simp only;omega))
    ·refine Tc.dr [] [] mixed rfl ?_;refine SO 0 ?_;refine .z 12 rfl (pA.tk fun H hs=> VB M H FI (rA oM) (rA oM) false (decide_eq_false d3)) ?_;refine .nn 13 ?_;refine .dn ?_;refine U ?_;refine .rt hK func301 results301 [] ?_;exact fun H' hs=> YA.of (dec:=dec) hs (i:=0) rfl ⟨rfl,g3,g4.fin (fun d h1 h2=> by have:=yK d h1 h2;omega)⟩
   ·have yK:∀d,(d=2*r+1\/d=2*r+2)->d<hi->tA u (f+d)<=tA u (f+(2*r+1)):=by rintro d (rfl|rfl) _ <;> omega
    refine qE ?_;refine Tc.dr [] [] mixed rfl ?_;refine V18 0 ?_;refine .z 18 rfl (pA.tk fun H hs=> VB M H FI (rA oM) (rA oM) false (decide_eq_false d2)) ?_;refine .nn 19 ?_;refine .dn ?_;refine U4 ?_;have hcv:2*r+1<hi:=by omega
    have k3:=qA (dec:=dec) (m:=u) (j:=jj) (k:=(f:Nat)+(r:Nat)) (p:=f+r) oM oM;have k4:=qA (dec:=dec) (m:=u) (j:=jj) (k:=(f:Nat)+((2*r+1:Nat):Int)) (p:=f+(2*r+1)) oM oM;by_cases d3:tA u (f+r)<tA u (f+(2*r+1))
    ·have s1:=yA (dec:=dec) (m:=u) (j:=jj) (k:=(f:Nat)+(r:Nat)) (x:=tA u (f+(2*r+1))) (p:=f+r) oM oM;have s2:=yA (dec:=dec) (m:=u.set (f+r) (tA u (f+(2*r+1)))) (j:=jj) (k:=(f:Nat)+((2*r+1:Nat):Int)) (x:=tA u (f+r)) (p:=f+(2*r+1)) oM (by rw[List.length_set];omega);have l1:=xA (dec:=dec) (m:=u) (j:=jj) (k:=(f:Nat)+(r:Nat)) (p:=f+r) oM oM;have l2:=xA (dec:=dec) (m:=u.set (f+r) (tA u (f+(2*r+1)))) (j:=jj) (k:=(f:Nat)+((2*r+1:Nat):Int)) (p:=f+(2*r+1)) oM (by rw[List.length_set];omega);refine Tc.dr [] [] mixed rfl ?_;refine SO 0 ?_;refine .z 12 rfl (pA.tk fun H hs=> VB M H FI (rA oM) (rA oM) true (decide_eq_true d3)) ?_;refine .nn 13 ?_;refine .dn ?_;refine U3 ?_;refine Tc.dr [21,23] [0] mixed rfl ?_;refine V4 0 ?_;refine .nw 4 ?_;refine .nw 5 ?_;refine .nw 6 ?_;refine .nw 7 ?_;refine V6 8 ?_;refine .nw 14 ?_;refine .nw 15 ?_;refine .nw 16 ?_;refine .nw 17 ?_;refine .nw 18 ?_;refine V2 19 ?_;refine .e 21 0 ?_;refine .nw 22 ?_;refine .e 23 0 ?_;refine .dn ?_;refine U5 ?_;exact Tc.db (ih ⟨(2*r+1,gB u (f+r) (f+(2*r+1))),by simp only;omega,by simp only;omega,g3.trans (lA.swap oM oM oM oM),g4.step oM g1 oM hcv d3 yK⟩ (by simp only;omega))
    ·refine Tc.dr [] [] mixed rfl ?_;refine SO 0 ?_;refine .z 12 rfl (pA.tk fun H hs=> VB M H FI (rA oM) (rA oM) false (decide_eq_false d3)) ?_;refine .nn 13 ?_;refine .dn ?_;refine U ?_;refine .rt hK func301 results301 [] ?_;exact fun H' hs=> YA.of (dec:=dec) hs (i:=0) rfl ⟨rfl,g3,g4.fin (fun d h1 h2=> by have:=yK d h1 h2;omega)⟩
  ·have yK:∀d,(d=2*r+1\/d=2*r+2)->d<hi->tA u (f+d)<=tA u (f+(2*r+1)):=by rintro d (rfl|rfl) _ <;> omega
   refine qE ?_;refine Tc.dr [] [] mixed rfl ?_;refine V5 0 ?_;refine .nw 5 ?_;refine .nw 6 ?_;refine .nw 7 ?_;refine .nw 8 ?_;refine .nw 9 ?_;refine .nw 10 ?_;refine .nw 11 ?_;refine .nw 12 ?_;refine .nw 13 ?_;refine .nw 14 ?_;refine .nw 15 ?_;refine .nw 16 ?_;refine .nw 17 ?_;refine .nw 18 ?_;refine .nn 19 ?_;refine .dn ?_;refine U4 ?_;have hcv:2*r+1<hi:=by omega
   have k3:=qA (dec:=dec) (m:=u) (j:=jj) (k:=(f:Nat)+(r:Nat)) (p:=f+r) oM oM;have k4:=qA (dec:=dec) (m:=u) (j:=jj) (k:=(f:Nat)+((2*r+1:Nat):Int)) (p:=f+(2*r+1)) oM oM;by_cases d3:tA u (f+r)<tA u (f+(2*r+1))
   ·have s1:=yA (dec:=dec) (m:=u) (j:=jj) (k:=(f:Nat)+(r:Nat)) (x:=tA u (f+(2*r+1))) (p:=f+r) oM oM;have s2:=yA (dec:=dec) (m:=u.set (f+r) (tA u (f+(2*r+1)))) (j:=jj) (k:=(f:Nat)+((2*r+1:Nat):Int)) (x:=tA u (f+r)) (p:=f+(2*r+1)) oM (by rw[List.length_set];omega);have l1:=xA (dec:=dec) (m:=u) (j:=jj) (k:=(f:Nat)+(r:Nat)) (p:=f+r) oM oM;have l2:=xA (dec:=dec) (m:=u.set (f+r) (tA u (f+(2*r+1)))) (j:=jj) (k:=(f:Nat)+((2*r+1:Nat):Int)) (p:=f+(2*r+1)) oM (by rw[List.length_set];omega);refine Tc.dr [] [] mixed rfl ?_;refine SO 0 ?_;refine .z 12 rfl (pA.tk fun H hs=> VB M H FI (rA oM) (rA oM) true (decide_eq_true d3)) ?_;refine .nn 13 ?_;refine .dn ?_;refine U3 ?_;refine Tc.dr [21,23] [0] mixed rfl ?_;refine V4 0 ?_;refine .nw 4 ?_;refine .nw 5 ?_;refine .nw 6 ?_;refine .nw 7 ?_;refine V6 8 ?_;refine .nw 14 ?_;refine .nw 15 ?_;refine .nw 16 ?_;refine .nw 17 ?_;refine .nw 18 ?_;refine V2 19 ?_;refine .e 21 0 ?_;refine .nw 22 ?_;refine .e 23 0 ?_;refine .dn ?_;refine U5 ?_;exact Tc.db (ih ⟨(2*r+1,gB u (f+r) (f+(2*r+1))),by simp only;omega,by simp only;omega,g3.trans (lA.swap oM oM oM oM),g4.step oM g1 oM hcv d3 yK⟩ (by simp only;omega))
   ·refine Tc.dr [] [] mixed rfl ?_;refine SO 0 ?_;refine .z 12 rfl (pA.tk fun H hs=> VB M H FI (rA oM) (rA oM) false (decide_eq_false d3)) ?_;refine .nn 13 ?_;refine .dn ?_;refine U ?_;refine .rt hK func301 results301 [] ?_;exact fun H' hs=> YA.of (dec:=dec) hs (i:=0) rfl ⟨rfl,g3,g4.fin (fun d h1 h2=> by have:=yK d h1 h2;omega)⟩
 ·refine U9 ?_;refine .ov hK func301 results301 [] ?_;exact fun H' hs=> YA.of (dec:=dec) hs (i:=0) rfl ⟨rfl,g3,g4.fin (fun d h1 h2=> by omega)⟩
end
theorem RX {f hi s:Nat}{u:List Int}(hs:1<=s)(h:YO f s hi u):iF f (s-1) hi (s-1) u:=
 ⟨fun k c h1 h2 h3 h4=> h k c oM h3 h4,fun k c h1 h2 h3 h4=> by omega⟩
structure wQ(f hi s:Nat)(u:List Int):Prop where
 heap:YO f 0 s u
 srt:pE (f+s) (f+hi) u
 low:∀p q,p<s->s<=q->q<hi->tA u (f+p)<=tA u (f+q)
theorem B0 {f hi s:Nat}{u:List Int}(hs:1<=s)(mM:s<=hi)(hl:f+hi<=u.length)(h:wQ f hi s u):iF f 0 (s-1) 0 (gB u f (f+(s-1))):=by
 have hw:=fun q=> mC (l:=u) (p:=f) (q:=f+(s-1)) oM oM q;refine⟨fun k c h1 h2 h3 h4=> ?_,fun k c h1 h2 h3 h4=> by omega⟩;rw[hw,hw,if_neg oM,if_neg oM,if_neg oM,if_neg oM];exact h.heap k c h1 h3 oM
theorem SX {f hi s:Nat}{u m:List Int}(hs:1<=s)(mM:s<=hi)(hl:f+hi<=u.length)(h:wQ f hi s u)(ht:lA f (f+(s-1)) (gB u f (f+(s-1))) m)(hm:YO f 0 (s-1) m):wQ f hi (s-1) m:=by
 have hw:=fun q=> mC (l:=u) (p:=f) (q:=f+(s-1)) oM oM q;have aEy:=h.heap.top;have wK:tA m (f+(s-1))=tA u f:=by
  rw[ht.out _ (.inr (Nat.le_refl _)),hw,if_pos rfl]
 have KW:∀q,s<=q->tA m (f+q)=tA u (f+q):=fun q hq=> by
  rw[ht.out _ (.inr oM),hw,if_neg oM,if_neg oM]
 have OA:∀X:Int,(∀p,p<s->tA u (f+p)<=X)->∀p,p<s-1->tA m (f+p)<=X:=fun X hX p hp=>
  ht.all (by rw[SL];omega) (P:=fun x=> x<=X) (fun p h1 h2=> by
   rw[hw,if_neg oM];by_cases e:p=f
   ·rw[if_pos e];exact hX (s-1) oM
   ·rw[if_neg e];have:=hX (p-f) oM
    rwa [show f+(p-f)=p by omega] at this) (f+p) oM oM
 refine⟨hm,fun p q h1 h2 h3=> ?_,fun p q h1 h2 h3=> ?_⟩
 ·by_cases e:p=f+(s-1)
  ·rw[e,wK];have h4:=KW (q-f) oM;rw[show f+(q-f)=q by omega] at h4;rw[h4];have:=h.low 0 (q-f) oM oM oM
   rwa [show f+(q-f)=q by omega,Nat.add_zero] at this
  ·have h4:=KW (q-f) oM;have h5:=KW (p-f) oM;rw[show f+(q-f)=q by omega] at h4;rw[show f+(p-f)=p by omega] at h5;rw[h4,h5];exact h.srt p q oM h2 h3
 ·by_cases e:q=s-1
  ·subst e;rw[wK];exact OA _ (fun p hp=> aEy p hp) p h1
  ·rw[KW q oM];exact OA _ (fun p hp=> h.low p q hp oM h3) p h1
section
variable(M:Md prog)(H:View)
theorem QS(dec:Int->List UInt8)(sb:Nat)(l:List Int)(jj:List Value)(n cap a b:Nat)(hn:n=l.length)(hE:HM dec l)(hb:b<=n)(RE:n<=100000000)(KS:a<b)(hS:H sb=some (true,.cells ⟨(nA dec l)++jj⟩ 9 (0,0))):
  bA M 257 #[.slice (some ⟨sb,0,none⟩) n cap,.int .i64 (a:Nat),.int .i64 (b:Nat)] H (YA dec H sb jj (fun v m=> v=.tuple ⟨[]⟩/\lA a b l m/\pE a b m)):=by
 obtain⟨hi,ON⟩:∃hi,hi=b-a:=⟨_,rfl⟩
 have e0:((b:Nat):Int)-((a:Nat):Int)=((hi:Nat):Int):=by omega
 have eb:b=a+hi:=by omega
 obtain⟨s0,AH⟩:∃s0,s0=(hi-1)/2+1:=⟨_,rfl⟩
 have hq:mA .quo .i64 (((hi:Nat):Int)-1) 2=some (.int .i64 (((s0:Nat):Int)-1)):=by
  rw[tO oM oM oM]
  congr 2
  omega
 refine bA.enter (vs:= [.slice (some ⟨sb,0,none⟩) n cap,.int .i64 (a:Nat),.int .i64 (b:Nat)]) func257 rfl ntmps257 (Nat.le_of_ble_eq_true rfl) (iA.pull hS) fun St c cs hK=> ?_;refine aP ?_;rw[e0];refine U9 ?_;refine Tc.db (Tc.sA (σ:= { s:Nat×List Int//s.1<=hi/\lA a b l s.2/\YO a s.1 hi s.2 }) (fun s=> ([(0,.slice (some ⟨sb,0,none⟩) n cap),(6,.int .i64 (a:Nat)),(7,.int .i64 0),(8,.int .i64 (hi:Nat)),(9,.int .i64 ((s.1.1:Nat)-1))],[(sb,true,.cells ⟨(nA dec s.1.2)++jj⟩ 9 (0,0))])) (fun s=> s.1.1) ?_
  ⟨(s0,l),by simp only;omega,lA.refl ..,fun k c h1 h2 h3=> by simp only at h1;omega⟩)
 rintro⟨⟨s,u⟩,g1,g2,g3⟩ ih;simp only at g1 g2 g3;show Tc M St _ _ _ _ [(0,.slice (some ⟨sb,0,none⟩) n cap),(6,.int .i64 (a:Nat)),(7,.int .i64 0),(8,.int .i64 (hi:Nat)),(9,.int .i64 ((s:Nat)-1))] [(sb,true,.cells ⟨(nA dec u)++jj⟩ 9 (0,0))] _ _;have nM:=g2.len;have FI:=hE.WC g2;by_cases c1:1<=s
 ·have e1:((s:Nat):Int)-1=((s-1:Nat):Int):=by omega
  rw[e1];refine XM ?_;refine .e (Or.lE (dec:=dec) (l:=u) 0 (fun v m=> v=.tuple ⟨[]⟩/\lA a (a+hi) u m/\YO a (s-1) hi m) rfl rfl rfl rfl rfl dE rfl (fun H hs=> .h (vM M H dec sb u jj n cap (s-1) hi a oM FI oM RE oM (RX c1 g3) (hs.get (i:=0) rfl))) (fun v m ⟨hv,ht,hh⟩=> ?_));refine U7 ?_;exact Tc.db (ih ⟨(s-1,m),by simp only;omega,g2.trans (ht.wide (Nat.le_refl _) oM),hh⟩ (by simp only;omega))
 ·have es:s=0:=by omega
  subst es;refine XM ?_;refine Tc.db (Tc.sA (σ:= { s:Nat×List Int//s.1<=hi/\lA a b l s.2/\wQ a hi s.1 s.2 }) (fun s=> ([(0,.slice (some ⟨sb,0,none⟩) n cap),(6,.int .i64 (a:Nat)),(7,.int .i64 0),(10,.int .i64 ((s.1.1:Nat)-1))],[(sb,true,.cells ⟨(nA dec s.1.2)++jj⟩ 9 (0,0))])) (fun s=> s.1.1) ?_
   ⟨(hi,u),Nat.le_refl _,g2,⟨g3,fun p q h1 h2 h3=> by omega,fun p q h1 h2 h3=> by omega⟩⟩)
  rintro⟨⟨s,w⟩,f1,f2,f3⟩ ih2;simp only at f1 f2 f3;show Tc M St _ _ _ _ [(0,.slice (some ⟨sb,0,none⟩) n cap),(6,.int .i64 (a:Nat)),(7,.int .i64 0),(10,.int .i64 ((s:Nat)-1))] [(sb,true,.cells ⟨(nA dec w)++jj⟩ 9 (0,0))] _ _;have Z0:=f2.len;have QU:=hE.WC f2;by_cases c2:1<=s
  ·have e1:((s:Nat):Int)-1=((s-1:Nat):Int):=by omega
   rw[e1];have k1:=qA (dec:=dec) (m:=w) (j:=jj) (k:=(a:Nat)) (p:=a) rfl oM;have k2:=qA (dec:=dec) (m:=w) (j:=jj) (k:=(a:Nat)+((s-1:Nat):Int)) (p:=a+(s-1)) oM oM;have s1:=yA (dec:=dec) (m:=w) (j:=jj) (k:=(a:Nat)) (x:=tA w (a+(s-1))) (p:=a) rfl oM;have s2:=yA (dec:=dec) (m:=w.set a (tA w (a+(s-1)))) (j:=jj) (k:=(a:Nat)+((s-1:Nat):Int)) (x:=tA w a) (p:=a+(s-1)) oM (by rw[List.length_set];omega);have l1:=xA (dec:=dec) (m:=w) (j:=jj) (k:=(a:Nat)) (p:=a) rfl oM;have l2:=xA (dec:=dec) (m:=w.set a (tA w (a+(s-1)))) (j:=jj) (k:=(a:Nat)+((s-1:Nat):Int)) (p:=a+(s-1)) oM (by rw[List.length_set];omega);have X8:=lA.swap (a:=a) (b:=b) (l:=w) (p:=a) (q:=a+(s-1)) oM oM oM oM;refine qE ?_;refine Tc.dr [17,19] [0] mixed rfl ?_;refine V2 0 ?_;refine .nw 2 ?_;refine .nw 3 ?_;refine .nw 4 ?_;refine .nw 5 ?_;refine V6 6 ?_;refine .nw 12 ?_;refine .nw 13 ?_;refine .nw 14 ?_;refine V2 15 ?_;refine .e 17 0 ?_;refine .nw 18 ?_;refine .e 19 0 ?_;refine .dn ?_;refine U5 ?_;refine .e (Or.lE (dec:=dec) (l:=gB w a (a+(s-1))) 0 (fun v m=> v=.tuple ⟨[]⟩/\lA a (a+(s-1)) (gB w a (a+(s-1))) m/\YO a 0 (s-1) m) rfl rfl rfl rfl rfl dE rfl (fun H hs=> .h (vM M H dec sb (gB w a (a+(s-1))) jj n cap 0 (s-1) a (by rw[SL];omega) (QU.WC X8) oM RE oM (B0 c2 f1 oM f3) (hs.get (i:=0) rfl))) (fun v m ⟨hv,ht,hh⟩=> ?_));refine U7 ?_;exact Tc.db (ih2 ⟨(s-1,m),by simp only;omega,f2.trans (X8.trans (ht.wide (Nat.le_refl _) oM)),SX c2 f1 oM f3 ht hh⟩ (by simp only;omega))
  ·have es:s=0:=by omega
   subst es;refine U8 ?_;refine .ov hK func257 results257 [] ?_;exact fun H' hs=> YA.of (dec:=dec) hs (i:=0) rfl ⟨rfl,f2,eb▸f3.srt⟩
end
end Go.Proofs.YtldmfjcgjdchcaaGreatDoor
