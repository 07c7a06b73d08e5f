/-
 Texts of the proofs over baudot/dial.
-/
import Derived.Test.YtldmfjcgjdchcaaGreatDoorS05
namespace Go.Proofs.YtldmfjcgjdchcaaGreatDoor
open Go.RL Go.Proofs.Tryz
set_option maxRecDepth 10000
set_option maxHeartbeats 16000000
def zA(l:List By):List Value:=l.map bA
theorem VB(l:List By):(zA l).length=l.length:=by simp[zA]
theorem eC(l m:List By):zA (l++m)=zA l++zA m:=by simp[zA]
theorem NM(l:List By):(zA l).all single=true:=by
 rw[List.all_eq_true];intro x hx;obtain⟨s,_,rfl⟩:=List.mem_map.1 hx;rfl
def RR(many:Nat)(dg:By)(s: { p:Nat×Nat//p.1≠p.2 }):Bl:= [Bb s.1.1 [.nt many] 3,Bb s.1.2 [bA dg] 9]
theorem YU(many:Nat)(dg:By)(s: { p:Nat×Nat//p.1≠p.2 }):((RR many dg s).map (·.1)).Nodup:=by
 obtain⟨⟨a,b⟩,h⟩:=s;simp only[RR,List.map_cons,List.map_nil,List.nodup_cons,List.mem_singleton,List.not_mem_nil,not_false_eq_true,List.nodup_nil,and_true];exact h
section
variable(M:Md prog)(H:View)
theorem aEW(many:Nat)(dg:By):fA M 139 #[.nt many,bA dg] H (fun v H'=> H.le H'/\∃s: { p:Nat×Nat//p.1≠p.2 },v=ZU s.1.1 s.1.2/\True/\∀y∈RR many dg s,H' y.1=some y.2/\H y.1=none):=by
 refine .en func139 ntmps139 fun St c cs hK=> ?_;refine U2 ?_;refine .bo fun b2=> ?_;refine .bo fun b3=> ?_;refine U7 ?_;refine .rt hK func139 results139 [_] ?_;intro H' hs;have mF:=hs.nodup;have aB:b2≠b3:=by
  simp only[List.map_cons,List.map_nil,List.nodup_cons,List.mem_singleton] at mF;exact fun e=> mF.1 e.symm
 refine⟨hs.base,⟨(b2,b3),aB⟩,rfl,trivial,fun y hy=> ?_⟩;have hy':y=(b2,true,.cells ⟨[.nt many]⟩ 3 (0,0))\/y=(b3,true,.cells ⟨[bA dg]⟩ 9 (0,0)):=by simpa [RR] using hy
 rcases hy' with rfl|rfl
 ·exact⟨hs.get (i:=1) rfl,hs.out _ (List.mem_cons_of_mem _ (List.mem_cons_self ..))⟩
 ·exact⟨hs.get (i:=0) rfl,hs.out _ (List.mem_cons_self ..)⟩
def aGv(H₁:View)(g:Gl 9 1)(l xs:List By)(v:Value)(H3:View):Prop:=
 ∃(g':Gl 9 1) (H₂:View),v=g'.val/\H₁.le H₂/\jA H₂ g'.bl H3/\g'.l=zA (l++xs)/\g'.n=g.n+xs.length
theorem IU(g:Gl 9 1)(l:List By)(hg:g.l=zA l)(XC:g.n<=100000)(many:Nat)(dg:By)(hm:many<=1000)(MX:dg.all OC=true)(kP:dg.length<=1000)(W4:(gN dg many).length<=100000)(a1 a2:Nat)(H₁ Hc:View)(BC:aN many dg a1 a2 H₁)(NT:jA H₁ g.bl Hc):
  fA M 141 #[g.val,ZU a1 a2] Hc (aGv H₁ g l (gN dg many)):=by
 have CJ:=fun(H':View) (_:aN many dg a1 a2 H')=> B6 M H' many dg hm MX kP a1 a2;refine fA.enter (vs:= [g.val,ZU a1 a2]) func141 rfl ntmps141 Nb (NT) fun St c cs hK=> ?_;refine U2 ?_;refine .bo fun b2=> ?_;refine U8 ?_;refine Tc.db (R':= [(2,.pt b2),(6,ZU a1 a2)]) (L':= [Bb b2 [g.val] 107]++g.bl) ?_;refine Tc.PN (A:= []) (ts:= [7]) (xs:=gN dg many) (fun rest H₄ L₄=> ∃(g':Gl 9 1) (dn:List By),L₄= [Bb b2 [g'.val] 107]++g'.bl/\g'.l=zA (l++dn)/\g'.n=g.n+dn.length/\dn++rest=gN dg many/\aN many dg a1 a2 H₄/\H₁.le H₄) (fun _ _ _=> False) rfl rfl rfl rfl CJ (fun _ _=> aN.le _ _) (fun _ _ _ ⟨_,_,_,_,_,_,h,_⟩=> h) rfl (fun _ _=> rfl)
   ⟨g,[],rfl,by rw[List.append_nil];exact hg,rfl,rfl,BC,View.le_refl _⟩ ?_ ?_ (fun _ _ _ _ h=> h.elim)
 ·rintro r x rest _ lp tmps asg bdy H₄ _ hx ⟨g',dn,rfl,q1,q2,q3,q4,q5⟩ Q St1 cc1 cs1 iP q q';have aHO:dn.length<=100000:=by
   have:=congrArg List.length q3;rw[List.length_append] at this;omega
  refine U3 ?_;refine Tc.beginRound (i:=0) rfl rfl rfl ?_;refine U4 ?_;refine .e (.bs (zz:=fun bs=> ?_));refine .e (Or.append (E:=en) 4 rfl rfl rfl rfl rfl rfl rfl rfl rfl rfl rfl rfl rfl rfl rfl (fun H hs=> RA.of (hs.get (i:=0) rfl) Nb) rfl oM rfl dE (fun g2 dI LG=> ?_));refine U3 ?_;refine Tc.tB iP (i:=1) rfl (.inl ⟨rfl,rfl⟩) (fun H' hs=> q H' H₄ _ (hs.less sL) ⟨g2,dn++[x],rfl,by rw[LG,q1,<-List.append_assoc,eC (l++dn) [x]];rfl,by rw[dI,q2,List.length_append];rfl,by rw[List.append_assoc];exact q3,q4,q5⟩)
 ·rintro r H₄ _ ⟨g',dn,rfl,q1,q2,q3,q4,q5⟩;rw[List.append_nil] at q3;subst q3;refine U6 ?_;refine Tc.A4 (E:=en) (i:=0) hK func141 results141 (vs:= [_]) rfl ⟨rfl,trivial⟩ ?_;exact fun H' hs=> ⟨g',H₄,rfl,q5,hs.less sL,q1,q2⟩
theorem qV(a:Option Addr)(m ca:Nat)(l:List Value)(hm:m<=100000)(FJ:RA H 1 (.slice a m ca) m l)(h1:l.all single=true):fA M 143 #[.slice a m ca] H (fun v H'=> H.le H'/\∃g:Gl 9 1,v=g.val/\(g.l=l/\g.n=m)/\∀x∈g.bl,H' x.1=some x.2/\H x.1=none):=by
 refine .en func143 ntmps143 fun St c cs hK=> ?_;cases a with
 | none=>
  refine U8 ?_;refine .x (pA.kO (E:=en) rfl rfl rfl rfl rfl) ?_;refine U6 ?_;refine .rt hK func143 results143 [_] ?_;obtain⟨_,h2,h3|⟨b,off,_,_,_,_,_,h3,_⟩⟩:=FJ
  ·obtain⟨_,_,_,rfl⟩:=h3;have:m=0:=by simp at h2;omega
   subst this;exact fun H' hs'=> ⟨hs'.base,Gl.nil 9 1,rfl,⟨rfl,rfl⟩,by simp[Gl.nil,Gl.bl]⟩
  ·cases h3
 | some a=>
  refine U8 ?_;refine .x (pA.kO (E:=en) rfl rfl rfl rfl rfl) ?_;refine U5 ?_;refine .e (.bs (zz:=fun bs=> ?_));refine U ?_;refine .e (Or.append (E:=en) (g:=Gl.emp 9 1 bs) 0 rfl rfl rfl rfl rfl rfl rfl rfl rfl rfl rfl rfl rfl rfl rfl (fun H' hs'=> FJ.mono hs'.base) h1 (by show 0+m<=_;omega) rfl dE (fun g' hn hl=> ?_));refine U2 ?_;refine .rt hK func143 results143 [_] ?_;exact fun H' hs'=> ⟨hs'.base,g',rfl,⟨by rw[hl];rfl,by rw[hn];show 0+m=m;omega⟩,fun x hx=> ⟨hs'.at_ x hx,hs'.out x hx⟩⟩
end
end Go.Proofs.YtldmfjcgjdchcaaGreatDoor
namespace Go.RL
open Go.Conc
section
variable {P:Program}{M:Md P}{St:View->Goroutine->Prop}{n:Nat}{b:FB}{H₀:View}{cs:List Frame}{R:Rg}{L L₁:Bl}{ds:List Deferred}{k:List Item}{md:Region.Mode}{ops:Array Oper}{S:Array Bool->View->Prop}{fuel:Nat}{listed:Array Bool}
theorem Ta.BO(p:L₁.Perm L)(h:Ta M St n b H₀ cs S md ops fuel listed R L₁ ds k):Ta M St n b H₀ cs S md ops fuel listed R L ds k:=fun H tmps hs=> h H tmps (hs.perm p)
end
end Go.RL
namespace Go.Proofs.YtldmfjcgjdchcaaGreatDoor
open Go.RL Go.Proofs.Tryz
set_option maxRecDepth 10000
set_option maxHeartbeats 16000000
theorem C9(A:Bl)(x y z:Nat×Bool×Obj)(B:Bl):(A++(x::y::z::B)).Perm (x::y::z::(A++B)):=by
 refine List.perm_middle.trans (.cons _ ?_);refine List.perm_middle.trans (.cons _ ?_);exact List.perm_middle
theorem aCk(u v:Nat×Bool×Obj)(A:Bl)(x y z:Nat×Bool×Obj)(B:Bl):((x::y::z::A)++(u::v::B)).Perm (([u,v]++A)++([x,y,z]++B)):=by
 simp only[List.cons_append,List.nil_append];have h1:(A++(x::y::z::B)).Perm (x::y::z::(A++B)):=C9 A x y z B;have h2:(x::y::z::(A++u::v::B)).Perm (u::v::x::y::z::(A++B)):=by
  have h3:(A++u::v::B).Perm (u::v::(A++B)):=List.perm_middle.trans (.cons _ List.perm_middle);have h4:(x::y::z::(A++u::v::B)).Perm (x::y::z::u::v::(A++B)):=.cons _ (.cons _ (.cons _ h3));refine h4.trans ?_;have h5:([x,y,z]++u::v::(A++B)).Perm (u::([x,y,z]++v::(A++B))):=List.perm_middle;have h6:([x,y,z]++v::(A++B)).Perm (v::([x,y,z]++(A++B))):=List.perm_middle;exact h5.trans (.cons _ h6)
 exact h2.trans (.cons _ (.cons _ h1.symm))
theorem aGs {a:Int}{t:Nat}(h:0<=a/\a<=99)(ht:t<=30):0<=a*(t:Nat)/\a*(t:Nat)<=2970:=by
 have h1:(0:Int)<=(t:Nat):=Int.natCast_nonneg t;have h2:((t:Nat):Int)<=30:=by omega
 refine⟨Int.mul_nonneg h.1 h1,?_⟩;have h3:=Int.mul_le_mul h.2 h2 h1 (by omega:(0:Int)<=99);omega
theorem Gl.back {e:TypeId}{g g':Gl e 1}(new:List Value)(h1:g'.blk=g.blk)(h2:g'.n=g.n+new.length)(h3:g'.cap=g.cap)(h4:g'.l=g.l++new):∃g5:Gl e 1,g5.blk=g.blk/\g5.n=g.n/\g5.cap=g.cap/\g5.l=g.l/\g5.bl=g'.bl:=by
 have hl:=g.hl;have TX:=g'.hl;have FV:=g'.hj;have hc':=g'.hc;refine⟨⟨g.blk,g.n,g.cap,g.l,new++g'.jB,g.hl,g.hc,?_,g.h0⟩,rfl,rfl,rfl,rfl,?_⟩
 ·rw[List.length_append,FV,h2,h3];omega
 ·unfold Gl.bl;simp only;rw[h1,h4];cases g.blk with
  | none=> rfl
  | some b=> simp
theorem HK(g:Gl 9 1){H:View}(h:∀x∈g.bl,H x.1=some x.2){l:List By}(hl:g.l=zA l){g0:Gl 9 1}(hn:g.n=g0.n)(hb:g.blk=g0.blk):ZB H (g0.blk.map fun b=> ⟨b,0,none⟩) g0.n (fun j=> l[j]?.getD []):=by
 have JE:=g.hl;rw[hl,VB] at JE;cases BJ:g0.blk with
 | none=>
  have:=g.h0 (hb.trans BJ);have:=g.hc;exact .inl oM
 | some b=>
  have vJ:g.bl= [Bb b (g.l++g.jB) 9]:=by unfold Gl.bl;rw[hb,BJ]
  refine .inr ⟨b,0,true,_,9,(0,0),rfl,h (b,true,.cells ⟨g.l++g.jB⟩ 9 (0,0)) (by rw[vJ];simp),fun j hj=> ?_⟩;show(g.l++g.jB)[_]? =_;have rR:j<l.length:=by omega
  rw[Nat.zero_add,Int.toNat_natCast,Nat.mul_one,List.getElem?_append_left (by rw[hl,VB];exact rR),hl];unfold zA;rw[List.getElem?_map];simp only[List.getElem?_eq_getElem rR];rfl
structure UH where
 done:Bool
 total:Int
 lF:List By
def UH.al(s:UH):Int:=if s.done then 0 else 9
def zO(l:List By)(s:By):Bool:=(kA (fun j=> ZC (l[j]?.getD []) s) l.length).isSome
def RF(can:List By)(w:Nat->Int):Nat->List By->Int->UH->UH
 | 0,l,sum,st=> if st.done=true/\sum≥st.total then st else⟨true,sum,l⟩
 | d+1,l,sum,st=> if st.done=true/\sum≥st.total then st else can.foldl (fun st s=> if zO l s then st else RF can w d (l++[s]) (sum+w l.length*(XB s:Nat)) st) st
def ptr(b:Nat):Value:=.pointer (some ⟨b,0,none⟩)
def sX(b8 b7 b3 b6 b9 b11:Nat):Value:=.func (.func 142) #[] #[ptr b8,ptr b7,ptr b3,ptr b6,ptr b9,ptr b11]
def F4(st:UH)(num:Value)(b8 b7 b6:Nat):Bl:= [Bb b8 [.iz st.al] 25,Bb b7 [.iz st.total] 3,Bb b6 num.cells.toList 107]
def JN(a:Option Addr)(n c:Nat):Value:=.slice a n c
def eZ(H:View)(a:Option Addr)(n c:Nat)(l:List Value):Prop:=RA H 1 (JN a n c) n l/\n<=c
structure MU(can:List By)(w:Nat->Int)(nw:Nat)(b8 b7 b3 b6 b9 b11:Nat)(cA wA:Option Addr)(cc wc:Nat)(H:View):Prop where
 f:∃f,H b11=some (f,.cells ⟨[sX b8 b7 b3 b6 b9 b11]⟩ 249 (0,0))
 c:∃f,H b9=some (f,.cells ⟨[.slice cA can.length cc]⟩ 107 (0,0))
 g:∃f,H b3=some (f,.cells ⟨[.slice wA nw wc]⟩ 24 (0,0))
 cs:ZB H cA can.length (fun i=> can[i]?.getD [])
 ws:PB H wA nw w
theorem MU.le {can:List By}{w:Nat->Int}{nw b8 b7 b3 b6 b9 b11:Nat}{cA wA:Option Addr}{cc wc:Nat}{H H':View}(h:MU can w nw b8 b7 b3 b6 b9 b11 cA wA cc wc H)(k:H.le H'):MU can w nw b8 b7 b3 b6 b9 b11 cA wA cc wc H':=
 ⟨h.f.imp fun _ e=> k _ _ e,h.c.imp fun _ e=> k _ _ e,h.g.imp fun _ e=> k _ _ e,h.cs.le k,h.ws.le k⟩
def ChQ(H₁:View)(g:Gl 9 1)(st:UH)(b8 b7 b6:Nat)(v:Value)(H3:View):Prop:=
 v=.tuple ⟨[]⟩/\∃(H₂:View) (g':Gl 9 1) (a:Option Addr) (n c:Nat),H₁.le H₂/\jA H₂ (F4 st (JN a n c) b8 b7 b6++g'.bl) H3/\(g'.blk=g.blk/\g'.n=g.n/\g'.cap=g.cap/\g'.l=g.l)/\(n=st.lF.length/\eZ H₂ a n c (zA st.lF))
theorem wV {α β:Type}(f:β->α->β)(l:List α)(i:Nat)(b:β){x:α}(h:l[i]? =some x):(l.drop i).foldl f b=(l.drop (i+1)).foldl f (f b x):=by
 obtain⟨hi,rfl⟩:=List.getElem?_eq_some_iff.1 h;rw[List.drop_eq_getElem_cons hi,List.foldl_cons]
theorem Gl.aAr {e:TypeId}{sz:Nat}{g g':Gl e sz}(h:g'.blk=g.blk/\g'.n=g.n/\g'.cap=g.cap/\g'.l=g.l):g'.val=g.val:=by
 unfold Gl.val;rw[h.1,h.2.1,h.2.2.1]
def wD(can:List By)(w:Nat->Int)(d:Nat)(l:List By)(sum:Int)(st:UH)(s:By):UH:=if zO l s then st else RF can w d (l++[s]) (sum+w l.length*(XB s:Nat)) st
section
variable(M:Md prog)
theorem aBv(can:List By)(w:Nat->Int)(nw:Nat)(b8 b7 b3 b6 b9 b11:Nat)(cA wA:Option Addr)(cc wc:Nat)(hnw:nw<=20)(aHN:can.length<=100000)(hcn:∀s∈can,s.all OC=true/\s.length<=3)(hw:∀i,i<nw->0<=w i/\w i<=99):
  ∀ (d:Nat) (g:Gl 9 1) (l:List By) (sum:Int) (st:UH) (a:Option Addr) (n c':Nat) (H₁ Hc:View),g.l=zA l->l.length+d=nw->(0<=sum/\sum<=3000*(l.length:Nat))->MU can w nw b8 b7 b3 b6 b9 b11 cA wA cc wc H₁->n=st.lF.length->eZ H₁ a n c' (zA st.lF)->jA H₁ (F4 st (JN a n c') b8 b7 b6++g.bl) Hc-> 
   fA M 142 #[g.val,.iz sum,ptr b8,ptr b7,ptr b3,ptr b6,ptr b9,ptr b11] Hc (ChQ H₁ g (RF can w d l sum st) b8 b7 b6):=by
 intro d;induction d with
 | zero=>
  intro g l sum st a n c' H₁ Hc hg hld x8 BC hn eH NT;have XC:g.n=l.length:=by have:=g.hl;rw[hg,VB] at this;omega
  have bQ:=BC;obtain⟨⟨ff,hf⟩,⟨fc,hc⟩,⟨fg,hgw⟩,OZ,hws⟩:=BC;obtain⟨dn,total,lF⟩:=st;by_cases c1:dn=true/\sum≥total
  ·obtain⟨rfl,c2⟩:=c1;have e:RF can w 0 l sum ⟨true,total,lF⟩=⟨true,total,lF⟩:=if_pos ⟨rfl,c2⟩;rw[e];refine fA.enter (vs:= [g.val,.iz sum,ptr b8,ptr b7,ptr b3,ptr b6,ptr b9,ptr b11]) func142 rfl ntmps142 Nb (NT) fun St c cs hK=> ?_;unfold F4 ptr;refine uH ?_;refine .rt hK func142 results142 [] ?_;exact fun H' hs=> ⟨rfl,H₁,g,a,n,c',View.le_refl _,hs,⟨rfl,rfl,rfl,rfl⟩,hn,eH⟩
  ·have e:RF can w 0 l sum ⟨dn,total,lF⟩=⟨true,sum,l⟩:=if_neg c1;rw[e];clear e;cases dn with
   | false=>
    refine fA.enter (vs:= [g.val,.iz sum,ptr b8,ptr b7,ptr b3,ptr b6,ptr b9,ptr b11]) func142 rfl ntmps142 Nb (NT) fun St c cs hK=> ?_;unfold F4 ptr;refine U26 ?_;refine .e (Or.xA Gl.val Gl.bl (fun g2:Gl 9 1=> g2.l=zA l/\g2.n=g.n) rfl rfl rfl rfl rfl dE Gl.bG (fun H hs=> .h (qV M H (g.blk.map fun b=> ⟨b,0,none⟩) g.n g.cap (zA l) oM (by rw[<-hg];exact g.src (fun x hx=> hs.at_ x (List.mem_append_right _ hx))) (NM l))) (fun g2 fQ=> ?_));refine U5 ?_;refine .rt hK func142 results142 [] ?_;intro H' hs;obtain⟨H₂,h1,h2⟩:=jA.AD (B:= [Bb b8 [.iz 0] 25,Bb b7 [.iz sum] 3,Bb b6 [g2.val] 107]++g.bl) (L:=g2.bl) hs;refine⟨rfl,H₂,g,g2.blk.map (fun b=> ⟨b,0,none⟩),g2.n,g2.cap,h2.base,h1,⟨rfl,rfl,rfl,rfl⟩,by rw[fQ.2];exact XC,?_⟩;have h3:=g2.src (H:=H₂) (fun x hx=> h2.at_ x hx);rw[fQ.1] at h3;exact⟨h3,g2.hc⟩
   | true=>
    have c2:iA .geq .i64 sum (UH.mk true total lF).total=some (.bool false):=mJ (Int.lt_of_not_ge fun h=> c1 ⟨rfl,h⟩);refine fA.enter (vs:= [g.val,.iz sum,ptr b8,ptr b7,ptr b3,ptr b6,ptr b9,ptr b11]) func142 rfl ntmps142 Nb (NT) fun St c cs hK=> ?_;unfold F4 ptr;refine U26 ?_;refine .e (Or.xA Gl.val Gl.bl (fun g2:Gl 9 1=> g2.l=zA l/\g2.n=g.n) rfl rfl rfl rfl rfl dE Gl.bG (fun H hs=> .h (qV M H (g.blk.map fun b=> ⟨b,0,none⟩) g.n g.cap (zA l) oM (by rw[<-hg];exact g.src (fun x hx=> hs.at_ x (List.mem_append_right _ hx))) (NM l))) (fun g2 fQ=> ?_));refine U5 ?_;refine .rt hK func142 results142 [] ?_;intro H' hs;obtain⟨H₂,h1,h2⟩:=jA.AD (B:= [Bb b8 [.iz 0] 25,Bb b7 [.iz sum] 3,Bb b6 [g2.val] 107]++g.bl) (L:=g2.bl) hs;refine⟨rfl,H₂,g,g2.blk.map (fun b=> ⟨b,0,none⟩),g2.n,g2.cap,h2.base,h1,⟨rfl,rfl,rfl,rfl⟩,by rw[fQ.2];exact XC,?_⟩;have h3:=g2.src (H:=H₂) (fun x hx=> h2.at_ x hx);rw[fQ.1] at h3;exact⟨h3,g2.hc⟩
 | succ d ihd=>
  intro g l sum st a n c' H₁ Hc hg hld x8 BC hn eH NT;have XC:g.n=l.length:=by have:=g.hl;rw[hg,VB] at this;omega
  have bQ:=BC;obtain⟨⟨ff,hf⟩,⟨fc,hc⟩,⟨fg,hgw⟩,OZ,hws⟩:=BC;obtain⟨dn,total,lF⟩:=st;by_cases c1:dn=true/\sum≥total
  ·obtain⟨rfl,c2⟩:=c1;have e:RF can w (d+1) l sum ⟨true,total,lF⟩=⟨true,total,lF⟩:=if_pos ⟨rfl,c2⟩;rw[e];refine fA.enter (vs:= [g.val,.iz sum,ptr b8,ptr b7,ptr b3,ptr b6,ptr b9,ptr b11]) func142 rfl ntmps142 Nb (NT) fun St c cs hK=> ?_;unfold F4 ptr;refine uH ?_;refine .rt hK func142 results142 [] ?_;exact fun H' hs=> ⟨rfl,H₁,g,a,n,c',View.le_refl _,hs,⟨rfl,rfl,rfl,rfl⟩,hn,eH⟩
  ·have e:RF can w (d+1) l sum ⟨dn,total,lF⟩=can.foldl (wD can w d l sum) ⟨dn,total,lF⟩:=if_neg c1;rw[e];clear e;cases dn with
   | false =>
    refine fA.enter (vs:= [g.val,.iz sum,ptr b8,ptr b7,ptr b3,ptr b6,ptr b9,ptr b11]) func142 rfl ntmps142 Nb (NT) fun St c cs hK=> ?_;unfold F4 ptr;refine U31 ?_;refine Tc.db (Tc.aK (σ:= { y:View×Nat×UH×Gl 9 1×(Option Addr×Nat×Nat)//H₁.le y.1/\y.2.1<=can.length/\(can.drop y.2.1).foldl (wD can w d l sum) y.2.2.1=can.foldl (wD can w d l sum) (⟨false,total,lF⟩:UH)/\(y.2.2.2.1.blk=g.blk/\y.2.2.2.1.n=g.n/\y.2.2.2.1.cap=g.cap/\y.2.2.2.1.l=g.l)/\(y.2.2.2.2.2.1=y.2.2.1.lF.length/\eZ y.1 y.2.2.2.2.1 y.2.2.2.2.2.1 y.2.2.2.2.2.2 (zA y.2.2.1.lF)) })
     (fun y=> (y.1.1,[(0,g.val),(1,.iz sum),(2,.pt b8),(3,.pt b7),(4,.pt b3),(5,.pt b6),(6,.pt b9),(7,.pt b11),(27,.slice cA can.length cc),(28,.nt can.length),(29,.nt y.1.2.1)],[Bb b8 [.iz y.1.2.2.1.al] 25,Bb b7 [.iz y.1.2.2.1.total] 3,Bb b6 [JN y.1.2.2.2.2.1 y.1.2.2.2.2.2.1 y.1.2.2.2.2.2.2] 107]++y.1.2.2.2.1.bl)) (fun y=> can.length-y.1.2.1) ?_ ⟨(H₁,0,(⟨false,total,lF⟩:UH),g,(a,n,c')),View.le_refl _,Nat.zero_le _,rfl,⟨rfl,rfl,rfl,rfl⟩,hn,eH⟩)
    rintro⟨⟨H₂,i,st,g2,a2,n2,c2'⟩,p1,p2,p3,p4,p5,p6⟩ ih;simp only at p1 p2 p3 p4 p5 p6;dsimp only;by_cases d1:i=can.length
    ·have e:can.foldl (wD can w d l sum) (⟨false,total,lF⟩:UH)=st:=by rw[<-p3,d1,List.drop_length];rfl
     rw[e] at hK;subst d1;refine U7 ?_;refine .ov hK func142 results142 [] ?_;exact fun H' hs=> ⟨rfl,H₂,g2,a2,n2,c2',p1,hs,p4,p5,p6⟩
    ·have d2:i<can.length:=by omega
     obtain⟨s,FJ⟩:∃s,can[i]? =some s:=⟨_,List.getElem?_eq_getElem d2⟩
     have rP:=hcn s (List.mem_of_getElem? FJ);have htk:=IK s rP.1;obtain h0|⟨cb,co,fcb,cgs,cgt,cgz,rfl,NZ,iB⟩:=OZ
     ·omega
     have f1:=iB i d2;simp only[FJ,Option.getD_some] at f1;have aGV:=p1 _ _ NZ;rw[wV _ _ _ _ FJ] at p3;have YW:=Gl.aAr p4;have LV:=fun(H':View) (bx:Nat) (fx:Bool) (fQ:∀x∈g2.bl,H' x.1=some x.2) (BV:H' bx=some (fx,.cells ⟨[bA s]⟩ 9 (0,0)))=> aO M H' (g.blk.map fun b=> ⟨b,0,none⟩) g.n g.cap (fun j=> l[j]?.getD []) (HK g2 fQ (p4.2.2.2.trans hg) (p4.2.1) p4.1) oM (.func (.func 145) #[] #[.pt bx]) (fun j=> ZC (l[j]?.getD []) s) (fun j _ H'' h''=> WB.of (first:= []) (captured:= [_]) aB9 rfl (m9 M H'' s bx fx (h'' _ _ BV) (l[j]?.getD [])));have oP:(kA (fun j=> ZC (l[j]?.getD []) s) g.n).isSome=zO l s:=by unfold zO;rw[XC]
     cases hq:zO l s with
     | true=>
      have e3:wD can w d l sum st s=st:=by unfold wD;rw[if_pos hq]
      rw[e3] at p3;rw[hq] at oP;refine JG ?_;refine .al fun bx=> ?_;refine U7 ?_;refine .cl (fun H hs=> tH (LV H bx true (fun x hx=> hs.at_ x (List.mem_cons_of_mem _ (List.mem_append_right _ hx))) (hs.get (i:=0) rfl)) oP) ?_;refine U7 ?_;exact Tc.db (ih ⟨(H₂,i+1,st,g2,(a2,n2,c2')),p1,by simp only;omega,p3,p4,p5,p6⟩ Ob)
     | false=>
      have e3:wD can w d l sum st s=RF can w d (l++[s]) (sum+w l.length*(XB s:Nat)) st:=by unfold wD;rw[if_neg (by rw[hq];decide)]
      rw[e3] at p3;rw[hq] at oP;have GU:=hw l.length oM;have aFz:0<=w l.length*(XB s:Nat)/\w l.length*(XB s:Nat)<=2970:=aGs GU oM;have CV:=bQ.le p1;obtain⟨⟨ff2,hf2⟩,⟨fc2,hc2⟩,⟨fg2,aG2⟩,_,aC4⟩:=CV;obtain h0|⟨wb,wo,fwb,wgs,wgt,wgz,rfl,hwb,aBp⟩:=aC4
      ·omega
      have f2:=aBp l.length oM;rw[<-XC] at f2;have f3:iA .mul .i64 (w g.n) (XB s:Nat)=some (.int .i64 (w l.length*(XB s:Nat))):=by rw[XC];exact HD oM oM
      have f4:iA .add .i64 sum (w l.length*(XB s:Nat))=some (.int .i64 (sum+w l.length*(XB s:Nat))):=pB oM oM;refine JG ?_;refine .al fun bx=> ?_;refine U7 ?_;refine .cl (fun H hs=> tH (LV H bx true (fun x hx=> hs.at_ x (List.mem_cons_of_mem _ (List.mem_append_right _ hx))) (hs.get (i:=0) rfl)) oP) ?_;refine U3 ?_;refine Tc.drT [4] [15] [] 4 mixed rfl ?_;refine .ow 0 ?_;refine .oo 1 ?_;refine .oo 2 ?_;refine .ow 5 ?_;refine .ow 6 ?_;refine .ow 7 ?_;refine .ow 8 ?_;refine .ow 9 ?_;refine .ow 10 ?_;refine .ow 11 ?_;refine .ea 3 rfl (.bs (zz:=fun bs=> ⟨S3.mk sL (.inr sL),?_⟩));refine .ea 4 rfl (Or.lZ (E:=en) (g:=g2) (m:=1) (new:= [bA s]) (yv:=.slice (some ⟨bs,0,none⟩) 1 1) 5 rfl rfl rfl rfl (by rw[YW];rfl) rfl rfl rfl rfl rfl rfl rfl rfl rfl rfl (fun H hs=> RA.of (hs.get (i:=0) rfl) Nb) rfl oM rfl dE (fun g3 AN EJ hb3 hc3=> ⟨S3.mk sL (.inl kR),?_⟩) (fun g3 AN EJ=> ⟨S3.mk sL (.inl kR),?_⟩))
      ·refine Ta.aAh 12 kR rfl rfl rfl dE rfl rfl (pA.tk fun H hs=> SM M H s rP.1 oM) ?_;refine .ow 13 ?_;refine .ow 14 ?_;refine Ta.lift (L₂:= [Bb bs [bA s] 9,Bb bx [bA s] 9]) (L₁:= [Bb b8 [.iz st.al] 25,Bb b7 [.iz st.total] 3,Bb b6 [JN a2 n2 c2'] 107]++g3.bl) rfl (fun Hx hx=> ?_);refine Ta.YB 15 kR rfl kR rfl rfl rfl rfl rfl rfl dE (WB.of (first:= []) (captured:= [_,_,_,_,_,_]) iV rfl (ihd g3 (l++[s]) _ st a2 n2 c2' H₂ Hx (by rw[EJ,p4.2.2.2,hg,eC];rfl) (by rw[List.length_append];show l.length+1+d=nw;omega) (by rw[List.length_append];show _/\_<=3000*((l.length+1:Nat):Int);omega) (bQ.le p1) p5 p6 hx)) (fun v H₃ hv=> ?_);obtain⟨_,H₄,g4,a4,n4,c4,r1,r2,r3,r4,r5⟩:=hv;refine Ta.expand r2 ?_;unfold F4;refine .dn ?_;refine U5 ?_;obtain⟨g5,s1,s2,s3,s4,s5⟩:=Gl.back (g:=g2) (g':=g4) [bA s] (r3.1.trans hb3) (by rw[r3.2.1,AN];rfl) (by rw[r3.2.2.1,hc3]) (by rw[r3.2.2.2,EJ]);rw[<-s5];exact Tc.db (ih ⟨(H₄,i+1,_,g5,(a4,n4,c4)),View.le_trans p1 r1,by simp only;omega,p3,⟨s1.trans p4.1,s2.trans p4.2.1,s3.trans p4.2.2.1,s4.trans p4.2.2.2⟩,r4,r5⟩ Ob)
      ·refine Ta.BO (L₁:=([Bb bs [bA s] 9,Bb bx [bA s] 9]++g2.bl)++([Bb b8 [.iz st.al] 25,Bb b7 [.iz st.total] 3,Bb b6 [JN a2 n2 c2'] 107]++g3.bl)) ?_ ?_
       ·simp only[List.cons_append,List.nil_append];refine .cons _ (.cons _ ?_);exact C9 g2.bl _ _ _ g3.bl
       ·refine Ta.aAh 12 kR rfl rfl rfl dE rfl rfl (pA.tk fun H hs=> SM M H s rP.1 oM) ?_;refine .ow 13 ?_;refine .ow 14 ?_;refine Ta.lift (L₂:= [Bb bs [bA s] 9,Bb bx [bA s] 9]++g2.bl) (L₁:= [Bb b8 [.iz st.al] 25,Bb b7 [.iz st.total] 3,Bb b6 [JN a2 n2 c2'] 107]++g3.bl) rfl (fun Hx hx=> ?_);refine Ta.YB 15 kR rfl kR rfl rfl rfl rfl rfl rfl dE (WB.of (first:= []) (captured:= [_,_,_,_,_,_]) iV rfl (ihd g3 (l++[s]) _ st a2 n2 c2' H₂ Hx (by rw[EJ,p4.2.2.2,hg,eC];rfl) (by rw[List.length_append];show l.length+1+d=nw;omega) (by rw[List.length_append];show _/\_<=3000*((l.length+1:Nat):Int);omega) (bQ.le p1) p5 p6 hx)) (fun v H₃ hv=> ?_);obtain⟨_,H₄,g4,a4,n4,c4,r1,r2,r3,r4,r5⟩:=hv;refine Ta.expand r2 ?_;unfold F4;refine .dn ?_;refine U5 ?_;have OD:=ih ⟨(H₄,i+1,_,g2,(a4,n4,c4)),View.le_trans p1 r1,by simp only;omega,p3,p4,r4,r5⟩ Ob;refine Tc.BO (aCk _ _ g2.bl _ _ _ g4.bl) ?_;exact Tc.db OD
   | true=>
    have c2:iA .geq .i64 sum (UH.mk true total lF).total=some (.bool false):=mJ (Int.lt_of_not_ge fun h=> c1 ⟨rfl,h⟩);refine fA.enter (vs:= [g.val,.iz sum,ptr b8,ptr b7,ptr b3,ptr b6,ptr b9,ptr b11]) func142 rfl ntmps142 Nb (NT) fun St c cs hK=> ?_;unfold F4 ptr;refine U31 ?_;refine Tc.db (Tc.aK (σ:= { y:View×Nat×UH×Gl 9 1×(Option Addr×Nat×Nat)//H₁.le y.1/\y.2.1<=can.length/\(can.drop y.2.1).foldl (wD can w d l sum) y.2.2.1=can.foldl (wD can w d l sum) (⟨true,total,lF⟩:UH)/\(y.2.2.2.1.blk=g.blk/\y.2.2.2.1.n=g.n/\y.2.2.2.1.cap=g.cap/\y.2.2.2.1.l=g.l)/\(y.2.2.2.2.2.1=y.2.2.1.lF.length/\eZ y.1 y.2.2.2.2.1 y.2.2.2.2.2.1 y.2.2.2.2.2.2 (zA y.2.2.1.lF)) })
     (fun y=> (y.1.1,[(0,g.val),(1,.iz sum),(2,.pt b8),(3,.pt b7),(4,.pt b3),(5,.pt b6),(6,.pt b9),(7,.pt b11),(27,.slice cA can.length cc),(28,.nt can.length),(29,.nt y.1.2.1)],[Bb b8 [.iz y.1.2.2.1.al] 25,Bb b7 [.iz y.1.2.2.1.total] 3,Bb b6 [JN y.1.2.2.2.2.1 y.1.2.2.2.2.2.1 y.1.2.2.2.2.2.2] 107]++y.1.2.2.2.1.bl)) (fun y=> can.length-y.1.2.1) ?_ ⟨(H₁,0,(⟨true,total,lF⟩:UH),g,(a,n,c')),View.le_refl _,Nat.zero_le _,rfl,⟨rfl,rfl,rfl,rfl⟩,hn,eH⟩)
    rintro⟨⟨H₂,i,st,g2,a2,n2,c2'⟩,p1,p2,p3,p4,p5,p6⟩ ih;simp only at p1 p2 p3 p4 p5 p6;dsimp only;by_cases d1:i=can.length
    ·have e:can.foldl (wD can w d l sum) (⟨true,total,lF⟩:UH)=st:=by rw[<-p3,d1,List.drop_length];rfl
     rw[e] at hK;subst d1;refine U7 ?_;refine .ov hK func142 results142 [] ?_;exact fun H' hs=> ⟨rfl,H₂,g2,a2,n2,c2',p1,hs,p4,p5,p6⟩
    ·have d2:i<can.length:=by omega
     obtain⟨s,FJ⟩:∃s,can[i]? =some s:=⟨_,List.getElem?_eq_getElem d2⟩
     have rP:=hcn s (List.mem_of_getElem? FJ);have htk:=IK s rP.1;obtain h0|⟨cb,co,fcb,cgs,cgt,cgz,rfl,NZ,iB⟩:=OZ
     ·omega
     have f1:=iB i d2;simp only[FJ,Option.getD_some] at f1;have aGV:=p1 _ _ NZ;rw[wV _ _ _ _ FJ] at p3;have YW:=Gl.aAr p4;have LV:=fun(H':View) (bx:Nat) (fx:Bool) (fQ:∀x∈g2.bl,H' x.1=some x.2) (BV:H' bx=some (fx,.cells ⟨[bA s]⟩ 9 (0,0)))=> aO M H' (g.blk.map fun b=> ⟨b,0,none⟩) g.n g.cap (fun j=> l[j]?.getD []) (HK g2 fQ (p4.2.2.2.trans hg) (p4.2.1) p4.1) oM (.func (.func 145) #[] #[.pt bx]) (fun j=> ZC (l[j]?.getD []) s) (fun j _ H'' h''=> WB.of (first:= []) (captured:= [_]) aB9 rfl (m9 M H'' s bx fx (h'' _ _ BV) (l[j]?.getD [])));have oP:(kA (fun j=> ZC (l[j]?.getD []) s) g.n).isSome=zO l s:=by unfold zO;rw[XC]
     cases hq:zO l s with
     | true=>
      have e3:wD can w d l sum st s=st:=by unfold wD;rw[if_pos hq]
      rw[e3] at p3;rw[hq] at oP;refine JG ?_;refine .al fun bx=> ?_;refine U7 ?_;refine .cl (fun H hs=> tH (LV H bx true (fun x hx=> hs.at_ x (List.mem_cons_of_mem _ (List.mem_append_right _ hx))) (hs.get (i:=0) rfl)) oP) ?_;refine U7 ?_;exact Tc.db (ih ⟨(H₂,i+1,st,g2,(a2,n2,c2')),p1,by simp only;omega,p3,p4,p5,p6⟩ Ob)
     | false=>
      have e3:wD can w d l sum st s=RF can w d (l++[s]) (sum+w l.length*(XB s:Nat)) st:=by unfold wD;rw[if_neg (by rw[hq];decide)]
      rw[e3] at p3;rw[hq] at oP;have GU:=hw l.length oM;have aFz:0<=w l.length*(XB s:Nat)/\w l.length*(XB s:Nat)<=2970:=aGs GU oM;have CV:=bQ.le p1;obtain⟨⟨ff2,hf2⟩,⟨fc2,hc2⟩,⟨fg2,aG2⟩,_,aC4⟩:=CV;obtain h0|⟨wb,wo,fwb,wgs,wgt,wgz,rfl,hwb,aBp⟩:=aC4
      ·omega
      have f2:=aBp l.length oM;rw[<-XC] at f2;have f3:iA .mul .i64 (w g.n) (XB s:Nat)=some (.int .i64 (w l.length*(XB s:Nat))):=by rw[XC];exact HD oM oM
      have f4:iA .add .i64 sum (w l.length*(XB s:Nat))=some (.int .i64 (sum+w l.length*(XB s:Nat))):=pB oM oM;refine JG ?_;refine .al fun bx=> ?_;refine U7 ?_;refine .cl (fun H hs=> tH (LV H bx true (fun x hx=> hs.at_ x (List.mem_cons_of_mem _ (List.mem_append_right _ hx))) (hs.get (i:=0) rfl)) oP) ?_;refine U3 ?_;refine Tc.drT [4] [15] [] 4 mixed rfl ?_;refine .ow 0 ?_;refine .oo 1 ?_;refine .oo 2 ?_;refine .ow 5 ?_;refine .ow 6 ?_;refine .ow 7 ?_;refine .ow 8 ?_;refine .ow 9 ?_;refine .ow 10 ?_;refine .ow 11 ?_;refine .ea 3 rfl (.bs (zz:=fun bs=> ⟨S3.mk sL (.inr sL),?_⟩));refine .ea 4 rfl (Or.lZ (E:=en) (g:=g2) (m:=1) (new:= [bA s]) (yv:=.slice (some ⟨bs,0,none⟩) 1 1) 5 rfl rfl rfl rfl (by rw[YW];rfl) rfl rfl rfl rfl rfl rfl rfl rfl rfl rfl (fun H hs=> RA.of (hs.get (i:=0) rfl) Nb) rfl oM rfl dE (fun g3 AN EJ hb3 hc3=> ⟨S3.mk sL (.inl kR),?_⟩) (fun g3 AN EJ=> ⟨S3.mk sL (.inl kR),?_⟩))
      ·refine Ta.aAh 12 kR rfl rfl rfl dE rfl rfl (pA.tk fun H hs=> SM M H s rP.1 oM) ?_;refine .ow 13 ?_;refine .ow 14 ?_;refine Ta.lift (L₂:= [Bb bs [bA s] 9,Bb bx [bA s] 9]) (L₁:= [Bb b8 [.iz st.al] 25,Bb b7 [.iz st.total] 3,Bb b6 [JN a2 n2 c2'] 107]++g3.bl) rfl (fun Hx hx=> ?_);refine Ta.YB 15 kR rfl kR rfl rfl rfl rfl rfl rfl dE (WB.of (first:= []) (captured:= [_,_,_,_,_,_]) iV rfl (ihd g3 (l++[s]) _ st a2 n2 c2' H₂ Hx (by rw[EJ,p4.2.2.2,hg,eC];rfl) (by rw[List.length_append];show l.length+1+d=nw;omega) (by rw[List.length_append];show _/\_<=3000*((l.length+1:Nat):Int);omega) (bQ.le p1) p5 p6 hx)) (fun v H₃ hv=> ?_);obtain⟨_,H₄,g4,a4,n4,c4,r1,r2,r3,r4,r5⟩:=hv;refine Ta.expand r2 ?_;unfold F4;refine .dn ?_;refine U5 ?_;obtain⟨g5,s1,s2,s3,s4,s5⟩:=Gl.back (g:=g2) (g':=g4) [bA s] (r3.1.trans hb3) (by rw[r3.2.1,AN];rfl) (by rw[r3.2.2.1,hc3]) (by rw[r3.2.2.2,EJ]);rw[<-s5];exact Tc.db (ih ⟨(H₄,i+1,_,g5,(a4,n4,c4)),View.le_trans p1 r1,by simp only;omega,p3,⟨s1.trans p4.1,s2.trans p4.2.1,s3.trans p4.2.2.1,s4.trans p4.2.2.2⟩,r4,r5⟩ Ob)
      ·refine Ta.BO (L₁:=([Bb bs [bA s] 9,Bb bx [bA s] 9]++g2.bl)++([Bb b8 [.iz st.al] 25,Bb b7 [.iz st.total] 3,Bb b6 [JN a2 n2 c2'] 107]++g3.bl)) ?_ ?_
       ·simp only[List.cons_append,List.nil_append];refine .cons _ (.cons _ ?_);exact C9 g2.bl _ _ _ g3.bl
       ·refine Ta.aAh 12 kR rfl rfl rfl dE rfl rfl (pA.tk fun H hs=> SM M H s rP.1 oM) ?_;refine .ow 13 ?_;refine .ow 14 ?_;refine Ta.lift (L₂:= [Bb bs [bA s] 9,Bb bx [bA s] 9]++g2.bl) (L₁:= [Bb b8 [.iz st.al] 25,Bb b7 [.iz st.total] 3,Bb b6 [JN a2 n2 c2'] 107]++g3.bl) rfl (fun Hx hx=> ?_);refine Ta.YB 15 kR rfl kR rfl rfl rfl rfl rfl rfl dE (WB.of (first:= []) (captured:= [_,_,_,_,_,_]) iV rfl (ihd g3 (l++[s]) _ st a2 n2 c2' H₂ Hx (by rw[EJ,p4.2.2.2,hg,eC];rfl) (by rw[List.length_append];show l.length+1+d=nw;omega) (by rw[List.length_append];show _/\_<=3000*((l.length+1:Nat):Int);omega) (bQ.le p1) p5 p6 hx)) (fun v H₃ hv=> ?_);obtain⟨_,H₄,g4,a4,n4,c4,r1,r2,r3,r4,r5⟩:=hv;refine Ta.expand r2 ?_;unfold F4;refine .dn ?_;refine U5 ?_;have OD:=ih ⟨(H₄,i+1,_,g2,(a4,n4,c4)),View.le_trans p1 r1,by simp only;omega,p3,p4,r4,r5⟩ Ob;refine Tc.BO (aCk _ _ g2.bl _ _ _ g4.bl) ?_;exact Tc.db OD
end
end Go.Proofs.YtldmfjcgjdchcaaGreatDoor
namespace Go.Proofs.YtldmfjcgjdchcaaGreatDoor
open Go.RL Go.Proofs.Tryz
set_option maxRecDepth 10000
theorem pS(a b:UInt8)(x y:By):Op.bytesLess (a::x) (b::y)=(decide (a<b)||(a==b&&Op.bytesLess x y)):=rfl
theorem ZV(s:By):Op.bytesLess s []=false:=by cases s <;> rfl
theorem aGo {a b:UInt8}:a<b<->a.toNat<b.toNat:=UInt8.lt_iff_toNat_lt
theorem GF:∀ {a b c:By},Op.bytesLess a b=true->Op.bytesLess b c=true->Op.bytesLess a c=true
 | _,[],_,h,_=> by rw[ZV] at h;cases h
 | _,_::_,[],_,h=> by rw[ZV] at h;cases h
 | [],_::_,_::_,_,_=> rfl
 | p ::a,q::b,r::c,h,k=> by
  rw[pS] at h k ⊢;simp only[Bool.or_eq_true,Bool.and_eq_true,decide_eq_true_eq,beq_iff_eq] at h k ⊢;rcases h with h|⟨rfl,h⟩
  ·rcases k with k|⟨rfl,_⟩
   ·exact .inl (UInt8.lt_trans h k)
   ·exact .inl h
  ·rcases k with k|⟨rfl,k⟩
   ·exact .inl k
   ·exact .inr ⟨rfl,GF h k⟩
theorem zI:∀ {a b:By},Op.bytesLess a b=false->Op.bytesLess b a=false->a=b
 | [],[],_,_=> rfl
 | [],_::_,h,_=> by cases h
 | _::_,[],_,h=> by cases h
 | p ::a,q::b,h,k=> by
  rw[pS] at h k;simp only[Bool.or_eq_false_iff,decide_eq_false_iff_not,Bool.and_eq_false_iff,beq_eq_false_iff_ne] at h k;have e:p=q:=by
   have h1:=h.1;have k1:=k.1;rw[aGo] at h1 k1;exact UInt8.toNat_inj.1 oM
  subst e;have h2:=h.2.resolve_left (fun h=> h rfl);have k2:=k.2.resolve_left (fun h=> h rfl);rw[zI h2 k2]
theorem oS {a b:By}(h:Op.bytesLess a b=true):Op.bytesLess b a=false:=by
 cases k:Op.bytesLess b a with
 | false=> rfl
 | true=>
  have:=GF h k;rw[yI] at this;cases this
def kH(S:List By)(s:By):Nat:=S.countP fun t=> Op.bytesLess t s
theorem B0 {a b:By}(h:Op.bytesLess a b=true):∀S:List By,kH S a<=kH S b
 | []=> Nat.le_refl _
 | t ::S=> by
  have:=B0 h S;unfold kH at this ⊢;rw[List.countP_cons,List.countP_cons];by_cases k:Op.bytesLess t a=true
  ·rw[if_pos k,if_pos (GF k h)];omega
  ·rw[if_neg k];split <;> omega
theorem EM {a b:By}(h:Op.bytesLess a b=true):∀S:List By,a∈S->kH S a<kH S b
 | t ::S,hm=> by
  have hle:=B0 h S;rcases List.mem_cons.1 hm with rfl|hm
  ·unfold kH at hle ⊢;rw[List.countP_cons,List.countP_cons,if_neg (by rw[yI];decide),if_pos h];omega
  ·have:=EM h S hm;unfold kH at this ⊢;rw[List.countP_cons,List.countP_cons];by_cases k:Op.bytesLess t a=true
   ·rw[if_pos k,if_pos (GF k h)];omega
   ·rw[if_neg k];split <;> omega
def bM(S:List By)(z:Int):By:=(S.find? fun s=> decide ((kH S s:Int)=z)).getD []
theorem OJ {S:List By}{s:By}(h:s∈S):bM S (kH S s:Nat)=s:=by
 unfold bM;cases hf:S.find? (fun t=> decide ((kH S t:Int)=(kH S s:Nat))) with
 | none=>
  have:=List.find?_eq_none.1 hf s h;simp at this
 | some t=>
  have h1:=List.mem_of_find?_eq_some hf;have h2:=List.find?_some hf;simp only[decide_eq_true_eq,Int.natCast_inj] at h2;show t=s;cases k:Op.bytesLess t s with
  | true=> have:=EM k S h1;omega
  | false=>
   cases k2:Op.bytesLess s t with
   | true=> have:=EM k2 S h;omega
   | false=> exact zI k k2
def nG(S:List By):List Int:=S.map fun s=> ((kH S s:Nat):Int)
theorem cS(S:List By):(nG S).map (bM S)=S:=by
 unfold nG;rw[List.map_map];have:∀s∈S,(bM S∘fun s=> ((kH S s:Nat):Int)) s=s:=fun s hs=> OJ hs;rw[List.map_congr_left this,List.map_id']
theorem qI(S:List By):MO (bM S) (nG S):=by
 intro x hx y hy;obtain⟨s,hs,rfl⟩:=List.mem_map.1 hx;obtain⟨t,ht,rfl⟩:=List.mem_map.1 hy;rw[OJ hs,OJ ht];cases k:Op.bytesLess s t with
 | true=> exact(decide_eq_true (by have:=EM k S hs;omega)).symm
 | false=>
  refine(decide_eq_false ?_).symm;intro KB;cases k2:Op.bytesLess t s with
  | true=> have:=EM k2 S ht;omega
  | false=>
   have:=zI k k2;subst this;omega
def HU(a b:By):Bool:=!Op.bytesLess b a
def O2(x:By):List By->List By
 | []=> [x]
 | y::t=> if HU x y then x::y::t else y::O2 x t
def HM:List By->List By
 | []=> []
 | x::t=> O2 x (HM t)
theorem CN(x:By):∀l,(O2 x l).Perm (x::l)
 | []=> .refl _
 | y::t=> by
  unfold O2;split
  ·exact .refl _
  ·exact(List.Perm.cons y (CN x t)).trans (.swap ..)
theorem cJ:∀l,(HM l).Perm l
 | []=> .refl _
 | x::t=> (CN x _).trans (.cons x (cJ t))
theorem R2 {a b c:By}(h:HU a b=true)(k:HU b c=true):HU a c=true:=by
 unfold HU at *;simp only[Bool.not_eq_true'] at *;cases e:Op.bytesLess c a with
 | false=> rfl
 | true=>
  cases e2:Op.bytesLess b c with
  | true=> rw[GF e2 e] at h;cases h
  | false=>
   have:=zI e2 k;subst this;rw[e] at h;cases h
theorem Q2 {a b:By}(h:HU a b=false):HU b a=true:=by
 unfold HU at *;simp only[Bool.not_eq_true',Bool.not_eq_false'] at *;exact oS h
theorem wO(x:By):∀l:List By,l.Pairwise (fun a b=> HU a b=true)->(O2 x l).Pairwise (fun a b=> HU a b=true)
 | [],_=> List.pairwise_singleton _ _
 | y ::t,h=> by
  obtain⟨h1,h2⟩:=List.pairwise_cons.1 h;unfold O2;split
  ·rename_i hx
   refine List.pairwise_cons.2 ⟨fun z hz=> ?_,h⟩;rcases List.mem_cons.1 hz with rfl|hz
   ·exact hx
   ·exact R2 hx (h1 z hz)
  ·rename_i hx
   refine List.pairwise_cons.2 ⟨fun z hz=> ?_,wO x t h2⟩;rcases List.mem_cons.1 ((CN x t).mem_iff.1 hz) with rfl|hz
   ·exact Q2 (by simpa using hx)
   ·exact h1 z hz
theorem IM:∀l:List By,(HM l).Pairwise (fun a b=> HU a b=true)
 | []=> List.Pairwise.nil
 | x::t=> wO x _ (IM t)
theorem DO {l m:List By}(h:l.Perm m)(hl:l.Pairwise (fun a b=> HU a b=true))(hm:m.Pairwise (fun a b=> HU a b=true)):l=m:=
 List.Perm.eq_of_pairwise (le:=fun a b=> HU a b=true) (fun a b _ _ h1 h2=> by
  unfold HU at h1 h2;simp only[Bool.not_eq_true'] at h1 h2;exact zI h2 h1) hl hm h
theorem lT {S:List By}{m:List Int}{n:Nat}(hn:n=S.length)(ht:nA 0 n (nG S) m)(hs:AF 0 n m):m.map (bM S)=HM S:=by
 have hpm:m.Perm (nG S):=List.perm_iff_count.2 ht.cnt;have hp:(m.map (bM S)).Perm S:=by
  have:=hpm.map (bM S)
  rwa [cS] at this
 refine DO (hp.trans (cJ S).symm) ?_ (IM S);rw[List.pairwise_map,List.pairwise_iff_getElem];intro i j hi hj CU;have jQ:m.length=n:=by rw[ht.len,hn];simp[nG]
 have h1:=hs i j (Nat.zero_le _) CU oM;unfold vA at h1;rw[List.getElem?_eq_getElem hi,List.getElem?_eq_getElem hj] at h1;simp only[Option.getD_some] at h1;have h2:=(qI S).JD ht m[j] (List.getElem_mem hj) m[i] (List.getElem_mem hi);unfold HU;rw[h2,decide_eq_false oM];rfl
theorem EO(S:List By):rA (bM S) (nG S)=S.map bA:=by
 have:=congrArg (List.map bA) (cS S);rw[List.map_map] at this;exact this
theorem zS(dec:Int->By)(m:List Int):rA dec m=(m.map dec).map bA:=by
 rw[List.map_map];rfl
theorem VG {P:Program}{M:Md P}{St:View->Goroutine->Prop}{n:Nat}{b:FB}{H₀:View}{cs:List Frame}{R:Rg}{L:Bl}{ds:List Deferred}{k:List Item}{id:Nat}{x:Code}(F:Rg->Bl->Prop)(hF:∀R L,F R L->Tc M St n b H₀ cs R L ds k)
 (h:(∀R L,F R L->Tc M St n b H₀ cs R L ds k)->Tc M St n b H₀ cs R L ds (.code x:: .inBlock id::k)):Tc M St n b H₀ cs R L ds (.code (.block id x)::k):=.block (h hF)
def nF(a b:Nat)(u:List Int):Prop:=a=0\/∀i,a<=i->i<b->vA u (a-1)<=vA u i
theorem X9 {a i p q:Nat}{w:List Int}(hp:i<=p/\p<w.length)(hq:i<=q/\q<w.length)(h:AF a i w):AF a i (GB w p q):=fun x y h1 h2 h3=> by
 rw[WC hp.2 hq.2,WC hp.2 hq.2,if_neg oM,if_neg oM,if_neg oM,if_neg oM];exact h x y h1 h2 h3
theorem W9 {a i:Nat}{u:List Int}(h:AF a i u)(hi:a<i)(hle:¬vA u i<vA u (i-1)):AF a (i+1) u:=fun p q h1 h2 h3=> by
 by_cases e:q=i
 ·subst e;by_cases e2:p=q-1
  ·rw[e2];omega
  ·have:=h p (q-1) h1 oM oM;omega
 ·exact h p q h1 h2 oM
theorem TL {l:List Int}{i:Nat}(h:i<l.length):l[i]? =some (vA l i):=by
 unfold vA;rw[List.getElem?_eq_getElem h];rfl
theorem nA.get {a b:Nat}{l m:List Int}(h:nA a b l m){i:Nat}(hi:i<a\/b<=i):m[i]? =l[i]? :=by
 by_cases c:i<l.length
 ·rw[TL c,TL (by rw[h.len];exact c),h.out i hi]
 ·have hl:=h.len;rw[List.getElem?_eq_none oM,List.getElem?_eq_none oM]
theorem parts_eq(l:List Int){a b:Nat}(AR:a<=b):l=l.take a++((l.drop a).take (b-a)++l.drop b):=by
 have h1:l.drop b=(l.drop a).drop (b-a):=by rw[List.drop_drop];congr 1;omega
 rw[h1,List.take_append_drop,List.take_append_drop]
theorem nA.EK {a b:Nat}{l m:List Int}(h:nA a b l m)(AR:a<=b)(x:Int):((m.drop a).take (b-a)).count x=((l.drop a).take (b-a)).count x:=by
 have e1:m.take a=l.take a:=by
  apply List.ext_getElem?
  intro i;by_cases c:i<a
  ·rw[List.getElem?_take_of_lt c,List.getElem?_take_of_lt c];exact h.get (.inl c)
  ·rw[List.getElem?_eq_none (by rw[List.length_take];omega),List.getElem?_eq_none (by rw[List.length_take];omega)]
 have e2:m.drop b=l.drop b:=by
  apply List.ext_getElem?
  intro i;rw[List.getElem?_drop,List.getElem?_drop];exact h.get (.inr oM)
 have h1:=h.cnt x;have h2:=congrArg (List.count x) (parts_eq m AR);have h3:=congrArg (List.count x) (parts_eq l AR);simp only[List.count_append] at h2 h3;rw[e1,e2] at h2;omega
theorem nA.all {a b:Nat}{l m:List Int}(h:nA a b l m)(hb:b<=l.length){P:Int->Prop}(hP:∀p,a<=p->p<b->P (vA l p)):∀p,a<=p->p<b->P (vA m p):=fun p h1 h2=> by
 have g1:vA m p∈(m.drop a).take (b-a):=by
  rw[List.mem_iff_getElem?];refine⟨p-a,?_⟩;rw[List.getElem?_take_of_lt oM,List.getElem?_drop,show a+(p-a)=p by omega];exact TL (by rw[h.len];omega)
 have g2:vA m p∈(l.drop a).take (b-a):=by
  rw[<-List.count_pos_iff,<-h.EK oM];exact List.count_pos_iff.2 g1
 obtain⟨i,hi⟩:=List.mem_iff_getElem?.1 g2;have KB:i<b-a:=by
  have:=(List.getElem?_eq_some_iff.1 hi).1;rw[List.length_take] at this;omega
 rw[List.getElem?_take_of_lt KB,List.getElem?_drop,TL oM] at hi;have:=Option.some.inj hi;rw[<-this];exact hP (a+i) oM oM
theorem nF.dJ {a b:Nat}{u w:List Int}(h:nF a b u)(k:nA a b u w)(hb:b<=u.length):nF a b w:=by
 rcases h with h|h
 ·exact .inl h
 ·by_cases h0:a=0
  ·exact .inl h0
  ·refine .inr fun i h1 h2=> ?_;rw[k.out (a-1) (.inl oM)];exact k.all hb (P:=fun x=> vA u (a-1)<=x) h i h1 h2
def tR(f lo hi:Nat)(l:List Int):Prop:=∀k c,lo<=k->(c=2*k+1\/c=2*k+2)->c<hi->vA l (f+c)<=vA l (f+k)
def yG(f lo hi r:Nat)(l:List Int):Prop:=
 (∀k c,lo<=k->k≠r->(c=2*k+1\/c=2*k+2)->c<hi->vA l (f+c)<=vA l (f+k))/\
 (∀k c,lo<=k->(r=2*k+1\/r=2*k+2)->(c=2*r+1\/c=2*r+2)->c<hi->vA l (f+c)<=vA l (f+k))
theorem tR.top {f hi:Nat}{l:List Int}(h:tR f 0 hi l):∀k,k<hi->vA l (f+k)<=vA l f:=by
 intro k;induction k using Nat.strongRecOn with
 | ind k ih=>
  intro hk;by_cases h0:k=0
  ·subst h0;exact Int.le_refl _
  ·have h1:=h ((k-1)/2) k (Nat.zero_le _) oM hk;have h2:=ih ((k-1)/2) oM oM;omega
theorem yG.fin {f lo hi r:Nat}{l:List Int}(h:yG f lo hi r l)(hr:∀c,(c=2*r+1\/c=2*r+2)->c<hi->vA l (f+c)<=vA l (f+r)):tR f lo hi l:=fun k c h1 h2 h3=> by
 by_cases e:k=r
 ·subst e;exact hr c h2 h3
 ·exact h.1 k c h1 e h2 h3
theorem yG.step {f lo hi r c:Nat}{l:List Int}(h:yG f lo hi r l)(hl:f+hi<=l.length)(hlr:lo<=r)(hc:c=2*r+1\/c=2*r+2)(hch:c<hi)(KB:vA l (f+r)<vA l (f+c))
  (mM:∀d,(d=2*r+1\/d=2*r+2)->d<hi->vA l (f+d)<=vA l (f+c)):yG f lo hi c (GB l (f+r) (f+c)):=by
 have hs:=fun q=> WC (l:=l) (p:=f+r) (q:=f+c) oM oM q;refine⟨fun k d h1 h2 h3 h4=> ?_,fun k d h1 h2 h3 h4=> ?_⟩
 ·rw[hs,hs,if_neg (show ¬f+k=f+c by omega)];by_cases e:k=r
  ·subst e;rw[if_pos rfl];by_cases e2:d=c
   ·subst e2;rw[if_pos rfl];omega
   ·rw[if_neg oM,if_neg oM];exact mM d h3 h4
  ·rw[if_neg (show ¬f+k=f+r by omega)];by_cases e2:d=c
   ·omega
   ·rw[if_neg oM];by_cases e3:d=r
    ·subst e3;rw[if_pos rfl];exact h.2 k c h1 h3 hc hch
    ·rw[if_neg oM];exact h.1 k d h1 e h3 h4
 ·have e:k=r:=by omega
  subst e;rw[hs,hs,if_neg oM,if_neg oM,if_neg oM,if_pos rfl];exact h.1 c d oM oM h3 h4
structure yP(a b i j:Nat)(u:List Int):Prop where
 ai:a+1<=i
 ij:i<=j+1
 jb:j<b
 aj:a<=j
 lo:∀k,a<k->k<i->vA u k<vA u a
 hi:∀k,j<k->k<b->vA u a<=vA u k
theorem yP.start {a b:Nat}{u:List Int}(h:a<b):yP a b (a+1) (b-1) u:=⟨Nat.le_refl _,oM,oM,oM,fun k h1 h2=> by omega,fun k h1 h2=> by omega⟩
theorem yP.up {a b i j:Nat}{u:List Int}(h:yP a b i j u)(CU:i<=j)(KB:vA u i<vA u a):yP a b (i+1) j u:=
 ⟨by have:=h.ai;omega,oM,h.jb,h.aj,fun k h1 h2=> by
  by_cases e:k=i
  ·rw[e];exact KB
  ·exact h.lo k h1 oM,h.hi⟩
theorem yP.down {a b i j:Nat}{u:List Int}(h:yP a b i j u)(CU:i<=j)(AU:¬vA u j<vA u a):yP a b i (j-1) u:=
 ⟨h.ai,oM,by have:=h.jb;omega,by have:=h.ai;omega,h.lo,fun k h1 h2=> by
  by_cases e:k=j
  ·rw[e];omega
  ·exact h.hi k oM h2⟩
theorem yP.swap {a b i j:Nat}{u:List Int}(h:yP a b i j u)(hl:b<=u.length)(CU:i<=j)(h1:¬vA u i<vA u a)(h2:vA u j<vA u a):i<j/\yP a b (i+1) (j-1) (GB u i j):=by
 have ha:=h.ai;have hb:=h.jb;have aB:i≠j:=by
  rintro rfl;omega
 have hs:=fun q=> WC (l:=u) (p:=i) (q:=j) oM oM q;have h0:vA (GB u i j) a=vA u a:=by rw[hs,if_neg oM,if_neg oM]
 refine⟨oM,⟨oM,oM,oM,oM,fun k h3 h4=> ?_,fun k h3 h4=> ?_⟩⟩
 ·rw[h0,hs,if_neg oM];by_cases e:k=i
  ·rw[if_pos e];exact h2
  ·rw[if_neg e];exact h.lo k h3 oM
 ·rw[h0,hs];by_cases e:k=j
  ·rw[if_pos e];omega
  ·rw[if_neg e,if_neg oM];exact h.hi k oM h4
structure Part(a b j:Nat)(u:List Int):Prop where
 aj:a<=j
 jb:j<b
 lo:∀k,a<=k->k<j->vA u k<vA u j
 hi:∀k,j<k->k<b->vA u j<=vA u k
theorem yP.fin {a b i j:Nat}{u:List Int}(h:yP a b i j u)(hl:b<=u.length)(CU:j<i):Part a b j (GB u j a):=by
 have ha:=h.ai;have hb:=h.jb;have hj:=h.aj;have hi:=h.ij;have hs:=fun q=> WC (l:=u) (p:=j) (q:=a) oM oM q;have h0:vA (GB u j a) j=vA u a:=by
  rw[hs];by_cases e:j=a
  ·rw[if_pos e,e]
  ·rw[if_neg e,if_pos rfl]
 refine⟨hj,hb,fun k h3 h4=> ?_,fun k h3 h4=> ?_⟩
 ·rw[h0,hs];by_cases e:k=a
  ·rw[if_pos e];exact h.lo j oM oM
  ·rw[if_neg e,if_neg oM];exact h.lo k oM oM
 ·rw[h0,hs,if_neg oM,if_neg oM];exact h.hi k h3 h4
theorem Part.sorted {a b j:Nat}{u m w:List Int}(h:Part a b j u)(hl:b<=u.length)(h1:nA a j u m)(s1:AF a j m)(h2:nA (j+1) b m w)(s2:AF (j+1) b w):nA a b u w/\AF a b w:=by
 have hj:=h.aj;have hb:=h.jb;have jQ:=h1.len;refine⟨(h1.wide (Nat.le_refl _) oM).trans (h2.wide oM (Nat.le_refl _)),fun p q g1 g2 g3=> ?_⟩;have ej:vA w j=vA u j:=by rw[h2.out j (.inl oM),h1.out j (.inr (Nat.le_refl _))]
 have lo:∀k,a<=k->k<j->vA w k<=vA u j:=fun k c1 c2=> by
  rw[h2.out k (.inl oM)];exact h1.all oM (P:=fun x=> x<=vA u j) (fun k c3 c4=> Int.le_of_lt (h.lo k c3 c4)) k c1 c2
 have hi:∀k,j<k->k<b->vA u j<=vA w k:=fun k c1 c2=>
  h2.all oM (P:=fun x=> vA u j<=x) (fun k c3 c4=> by rw[h1.out k (.inr oM)];exact h.hi k oM c4) k oM c2
 by_cases c1:q<j
 ·rw[h2.out p (.inl oM),h2.out q (.inl oM)];exact s1 p q g1 g2 c1
 ·by_cases c2:q=j
  ·rw[c2,ej];exact lo p g1 oM
  ·by_cases c3:p<j
   ·exact Int.le_trans (lo p g1 c3) (hi q oM g3)
   ·by_cases c4:p=j
    ·rw[c4,ej];exact hi q oM g3
    ·exact s2 p q oM g2 g3
theorem Part.aBQ {a b j:Nat}{u m w:List Int}(h:Part a b j u)(hl:b<=u.length)(h1:nA (j+1) b u m)(s1:AF (j+1) b m)(h2:nA a j m w)(s2:AF a j w):nA a b u w/\AF a b w:=by
 have hj:=h.aj;have hb:=h.jb;have jQ:=h1.len;refine⟨(h1.wide oM (Nat.le_refl _)).trans (h2.wide (Nat.le_refl _) oM),fun p q g1 g2 g3=> ?_⟩;have ej:vA w j=vA u j:=by rw[h2.out j (.inr (Nat.le_refl _)),h1.out j (.inl oM)]
 have lo:∀k,a<=k->k<j->vA w k<=vA u j:=fun k c1 c2=>
  h2.all oM (P:=fun x=> x<=vA u j) (fun k c3 c4=> by rw[h1.out k (.inl oM)];exact Int.le_of_lt (h.lo k c3 c4)) k c1 c2
 have hi:∀k,j<k->k<b->vA u j<=vA w k:=fun k c1 c2=> by
  rw[h2.out k (.inr oM)];exact h1.all oM (P:=fun x=> vA u j<=x) (fun k c3 c4=> h.hi k oM c4) k oM c2
 by_cases c1:q<j
 ·exact s2 p q g1 g2 c1
 ·by_cases c2:q=j
  ·rw[c2,ej];exact lo p g1 oM
  ·by_cases c3:p<j
   ·exact Int.le_trans (lo p g1 c3) (hi q oM g3)
   ·by_cases c4:p=j
    ·rw[c4,ej];exact hi q oM g3
    ·rw[h2.out p (.inr oM),h2.out q (.inr oM)];exact s1 p q oM g2 g3
set_option maxHeartbeats 8000000
section
variable(M:Md prog)(H:View)
theorem FY(dec:Int->By)(sb:Nat)(l:List Int)(jj:List Value)(n cap a b:Nat)(hn:n=l.length)(hb:b<=n)(gG:n<=100000000)(ha:a<b)(hS:H sb=some (true,.cells ⟨(rA dec l)++jj⟩ 9 (0,0))):
  fA M 260 #[.sl sb n cap,.nt a,.nt b] H (xB dec H sb jj (fun v m=> v=.tuple ⟨[]⟩/\nA a b l m)):=by
 refine fA.enter (vs:= [.sl sb n cap,.nt a,.nt b]) func260 rfl ntmps260 Nb (jA.pull hS) fun St c cs hK=> ?_;have AV:((b:Nat):Int)-1=((b-1:Nat):Int):=by omega
 refine ND ?_;rw[AV];refine U ?_;refine Tc.db (Tc.qA (σ:= { s:Nat×Nat×List Int//a<=s.1/\s.1<=b/\a<=s.2.1/\s.2.1<b/\nA a b l s.2.2 }) (fun s=> ([(0,.sl sb n cap),(6,.nt s.1.1),(7,.nt s.1.2.1)],[Bb sb ((rA dec s.1.2.2)++jj) 9])) (fun s=> s.1.2.1) ?_
  ⟨(a,b-1,l),by simp,by simp only;omega,by simp only;omega,by simp only;omega,nA.refl ..⟩)
 rintro⟨⟨i,j,u⟩,g1,g2,g3,g4,g5⟩ ih;simp only at g1 g2 g3 g4 g5;dsimp only;have uO:=g5.len;by_cases c1:i<j
 ·have e1:((j:Nat):Int)-1=((j-1:Nat):Int):=by omega
  have k1:=sA (dec:=dec) (m:=u) (j:=jj) (k:=(i:Nat)) (p:=i) rfl oM;have k2:=sA (dec:=dec) (m:=u) (j:=jj) (k:=(j:Nat)) (p:=j) rfl oM;have s1:=EA (dec:=dec) (m:=u) (j:=jj) (k:=(i:Nat)) (x:=vA u j) (p:=i) rfl oM;have s2:=EA (dec:=dec) (m:=u.set i (vA u j)) (j:=jj) (k:=(j:Nat)) (x:=vA u i) (p:=j) rfl (by rw[List.length_set];omega);have l1:=CA (dec:=dec) (m:=u) (j:=jj) (k:=(i:Nat)) (p:=i) rfl oM;have l2:=CA (dec:=dec) (m:=u.set i (vA u j)) (j:=jj) (k:=(j:Nat)) (p:=j) rfl (by rw[List.length_set];omega);refine ND ?_;refine Tc.dr [13,15] [0] mixed rfl ?_;refine V2 0 ?_;refine .nw 2 ?_;refine .nw 3 ?_;refine V4 4 ?_;refine .nw 8 ?_;refine .nw 9 ?_;refine .nw 10 ?_;refine V2 11 ?_;refine .e 13 0 ?_;refine .nw 14 ?_;refine .e 15 0 ?_;refine .dn ?_;refine ND ?_;rw[e1];refine U ?_;exact Tc.db (ih ⟨(i+1,j-1,GB u i j),by simp only;omega,by simp only;omega,by simp only;omega,by simp only;omega,g5.trans (nA.swap oM oM oM oM)⟩ Ob)
 ·refine U9 ?_;refine .ov hK func260 results260 [] ?_;exact fun H' hs=> xB.of (dec:=dec) hs (i:=0) rfl ⟨rfl,g5⟩
end
section
variable(M:Md prog)(H:View)
theorem CO(dec:Int->By)(sb:Nat)(l:List Int)(jj:List Value)(n cap lo hi f:Nat)(hn:n=l.length)(hE:MO dec l)(hf:f+hi<=n)(gG:n<=100000000)(zN:lo<=hi)(hH:yG f lo hi lo l)(hS:H sb=some (true,.cells ⟨(rA dec l)++jj⟩ 9 (0,0))):
  fA M 301 #[.sl sb n cap,.nt lo,.nt hi,.nt f] H (xB dec H sb jj (fun v m=> v=.tuple ⟨[]⟩/\nA f (f+hi) l m/\tR f lo hi m)):=by
 refine fA.enter (vs:= [.sl sb n cap,.nt lo,.nt hi,.nt f]) func301 rfl ntmps301 Nb (jA.pull hS) fun St c cs hK=> ?_;refine U6 ?_;refine Tc.db (Tc.qA (σ:= { s:Nat×List Int//lo<=s.1/\s.1<=hi/\nA f (f+hi) l s.2/\yG f lo hi s.1 s.2 }) (fun s=> ([(0,.sl sb n cap),(2,.nt hi),(3,.nt f),(8,.nt s.1.1)],[Bb sb ((rA dec s.1.2)++jj) 9])) (fun s=> hi-s.1.1) ?_
  ⟨(lo,l),Nat.le_refl _,zN,nA.refl ..,hH⟩)
 rintro⟨⟨r,u⟩,g1,g2,g3,g4⟩ ih;simp only at g1 g2 g3 g4;have uO:=g3.len;have BK:=hE.JD g3;have e1:2*((r:Nat):Int)+1=((2*r+1:Nat):Int):=by omega
 have e2:((2*r+1:Nat):Int)+1=((2*r+2:Nat):Int):=by omega
 show Tc M St _ _ _ _ [(0,.sl sb n cap),(2,.nt hi),(3,.nt f),(8,.nt r)] [Bb sb ((rA dec u)++jj) 9] _ _;refine U4 ?_;refine .i ?_ (z:=HD oM oM);refine U3 ?_;rw[e1];by_cases c0:2*r+1<hi
 ·by_cases d1:2*r+2<hi
  ·have k1:=sA (dec:=dec) (m:=u) (j:=jj) (k:=(f:Nat)+((2*r+1:Nat):Int)) (p:=f+(2*r+1)) oM oM;have k2:=sA (dec:=dec) (m:=u) (j:=jj) (k:=(f:Nat)+((2*r+1:Nat):Int)+1) (p:=f+(2*r+2)) oM oM;by_cases d2:vA u (f+(2*r+1))<vA u (f+(2*r+2))
   ·have mM:∀d,(d=2*r+1\/d=2*r+2)->d<hi->vA u (f+d)<=vA u (f+(2*r+2)):=by rintro d (rfl|rfl) _ <;> omega
    refine ND ?_;refine Tc.dr [] [] mixed rfl ?_;refine V18 0 ?_;refine .z 18 rfl (pA.tk fun H hs=> CC M H BK (tA oM) (tA oM) true (decide_eq_true d2)) ?_;refine .nn 19 ?_;refine .dn ?_;refine U6 ?_;rw[e2];refine U2 ?_;have hcv:2*r+2<hi:=by omega
    have k3:=sA (dec:=dec) (m:=u) (j:=jj) (k:=(f:Nat)+(r:Nat)) (p:=f+r) oM oM;have k4:=sA (dec:=dec) (m:=u) (j:=jj) (k:=(f:Nat)+((2*r+2:Nat):Int)) (p:=f+(2*r+2)) oM oM;by_cases d3:vA u (f+r)<vA u (f+(2*r+2))
    ·have s1:=EA (dec:=dec) (m:=u) (j:=jj) (k:=(f:Nat)+(r:Nat)) (x:=vA u (f+(2*r+2))) (p:=f+r) oM oM;have s2:=EA (dec:=dec) (m:=u.set (f+r) (vA u (f+(2*r+2)))) (j:=jj) (k:=(f:Nat)+((2*r+2:Nat):Int)) (x:=vA u (f+r)) (p:=f+(2*r+2)) oM (by rw[List.length_set];omega);have l1:=CA (dec:=dec) (m:=u) (j:=jj) (k:=(f:Nat)+(r:Nat)) (p:=f+r) oM oM;have l2:=CA (dec:=dec) (m:=u.set (f+r) (vA u (f+(2*r+2)))) (j:=jj) (k:=(f:Nat)+((2*r+2:Nat):Int)) (p:=f+(2*r+2)) oM (by rw[List.length_set];omega);refine Tc.dr [] [] mixed rfl ?_;refine nR 0 ?_;refine .z 12 rfl (pA.tk fun H hs=> CC M H BK (tA oM) (tA oM) true (decide_eq_true d3)) ?_;refine .nn 13 ?_;refine .dn ?_;refine U3 ?_;refine Tc.dr [21,23] [0] mixed rfl ?_;refine V4 0 ?_;refine .nw 4 ?_;refine .nw 5 ?_;refine .nw 6 ?_;refine .nw 7 ?_;refine V6 8 ?_;refine .nw 14 ?_;refine .nw 15 ?_;refine .nw 16 ?_;refine .nw 17 ?_;refine .nw 18 ?_;refine V2 19 ?_;refine .e 21 0 ?_;refine .nw 22 ?_;refine .e 23 0 ?_;refine .dn ?_;refine U5 ?_;exact Tc.db (ih ⟨(2*r+2,GB u (f+r) (f+(2*r+2))),by simp only;omega,by simp only;omega,g3.trans (nA.swap oM oM oM oM),g4.step oM g1 oM hcv d3 mM⟩ Ob)
    ·refine Tc.dr [] [] mixed rfl ?_;refine nR 0 ?_;refine .z 12 rfl (pA.tk fun H hs=> CC M H BK (tA oM) (tA oM) false (decide_eq_false d3)) ?_;refine .nn 13 ?_;refine .dn ?_;refine U ?_;refine .rt hK func301 results301 [] ?_;exact fun H' hs=> xB.of (dec:=dec) hs (i:=0) rfl ⟨rfl,g3,g4.fin (fun d h1 h2=> by have:=mM d h1 h2;omega)⟩
   ·have mM:∀d,(d=2*r+1\/d=2*r+2)->d<hi->vA u (f+d)<=vA u (f+(2*r+1)):=by rintro d (rfl|rfl) _ <;> omega
    refine ND ?_;refine Tc.dr [] [] mixed rfl ?_;refine V18 0 ?_;refine .z 18 rfl (pA.tk fun H hs=> CC M H BK (tA oM) (tA oM) false (decide_eq_false d2)) ?_;refine .nn 19 ?_;refine .dn ?_;refine U4 ?_;have hcv:2*r+1<hi:=by omega
    have k3:=sA (dec:=dec) (m:=u) (j:=jj) (k:=(f:Nat)+(r:Nat)) (p:=f+r) oM oM;have k4:=sA (dec:=dec) (m:=u) (j:=jj) (k:=(f:Nat)+((2*r+1:Nat):Int)) (p:=f+(2*r+1)) oM oM;by_cases d3:vA u (f+r)<vA u (f+(2*r+1))
    ·have s1:=EA (dec:=dec) (m:=u) (j:=jj) (k:=(f:Nat)+(r:Nat)) (x:=vA u (f+(2*r+1))) (p:=f+r) oM oM;have s2:=EA (dec:=dec) (m:=u.set (f+r) (vA u (f+(2*r+1)))) (j:=jj) (k:=(f:Nat)+((2*r+1:Nat):Int)) (x:=vA u (f+r)) (p:=f+(2*r+1)) oM (by rw[List.length_set];omega);have l1:=CA (dec:=dec) (m:=u) (j:=jj) (k:=(f:Nat)+(r:Nat)) (p:=f+r) oM oM;have l2:=CA (dec:=dec) (m:=u.set (f+r) (vA u (f+(2*r+1)))) (j:=jj) (k:=(f:Nat)+((2*r+1:Nat):Int)) (p:=f+(2*r+1)) oM (by rw[List.length_set];omega);refine Tc.dr [] [] mixed rfl ?_;refine nR 0 ?_;refine .z 12 rfl (pA.tk fun H hs=> CC M H BK (tA oM) (tA oM) true (decide_eq_true d3)) ?_;refine .nn 13 ?_;refine .dn ?_;refine U3 ?_;refine Tc.dr [21,23] [0] mixed rfl ?_;refine V4 0 ?_;refine .nw 4 ?_;refine .nw 5 ?_;refine .nw 6 ?_;refine .nw 7 ?_;refine V6 8 ?_;refine .nw 14 ?_;refine .nw 15 ?_;refine .nw 16 ?_;refine .nw 17 ?_;refine .nw 18 ?_;refine V2 19 ?_;refine .e 21 0 ?_;refine .nw 22 ?_;refine .e 23 0 ?_;refine .dn ?_;refine U5 ?_;exact Tc.db (ih ⟨(2*r+1,GB u (f+r) (f+(2*r+1))),by simp only;omega,by simp only;omega,g3.trans (nA.swap oM oM oM oM),g4.step oM g1 oM hcv d3 mM⟩ Ob)
    ·refine Tc.dr [] [] mixed rfl ?_;refine nR 0 ?_;refine .z 12 rfl (pA.tk fun H hs=> CC M H BK (tA oM) (tA oM) false (decide_eq_false d3)) ?_;refine .nn 13 ?_;refine .dn ?_;refine U ?_;refine .rt hK func301 results301 [] ?_;exact fun H' hs=> xB.of (dec:=dec) hs (i:=0) rfl ⟨rfl,g3,g4.fin (fun d h1 h2=> by have:=mM d h1 h2;omega)⟩
  ·have mM:∀d,(d=2*r+1\/d=2*r+2)->d<hi->vA u (f+d)<=vA u (f+(2*r+1)):=by rintro d (rfl|rfl) _ <;> omega
   refine ND ?_;refine Tc.dr [] [] mixed rfl ?_;refine V5 0 ?_;refine .nw 5 ?_;refine .nw 6 ?_;refine .nw 7 ?_;refine .nw 8 ?_;refine .nw 9 ?_;refine .nw 10 ?_;refine .nw 11 ?_;refine .nw 12 ?_;refine .nw 13 ?_;refine .nw 14 ?_;refine .nw 15 ?_;refine .nw 16 ?_;refine .nw 17 ?_;refine .nw 18 ?_;refine .nn 19 ?_;refine .dn ?_;refine U4 ?_;have hcv:2*r+1<hi:=by omega
   have k3:=sA (dec:=dec) (m:=u) (j:=jj) (k:=(f:Nat)+(r:Nat)) (p:=f+r) oM oM;have k4:=sA (dec:=dec) (m:=u) (j:=jj) (k:=(f:Nat)+((2*r+1:Nat):Int)) (p:=f+(2*r+1)) oM oM;by_cases d3:vA u (f+r)<vA u (f+(2*r+1))
   ·have s1:=EA (dec:=dec) (m:=u) (j:=jj) (k:=(f:Nat)+(r:Nat)) (x:=vA u (f+(2*r+1))) (p:=f+r) oM oM;have s2:=EA (dec:=dec) (m:=u.set (f+r) (vA u (f+(2*r+1)))) (j:=jj) (k:=(f:Nat)+((2*r+1:Nat):Int)) (x:=vA u (f+r)) (p:=f+(2*r+1)) oM (by rw[List.length_set];omega);have l1:=CA (dec:=dec) (m:=u) (j:=jj) (k:=(f:Nat)+(r:Nat)) (p:=f+r) oM oM;have l2:=CA (dec:=dec) (m:=u.set (f+r) (vA u (f+(2*r+1)))) (j:=jj) (k:=(f:Nat)+((2*r+1:Nat):Int)) (p:=f+(2*r+1)) oM (by rw[List.length_set];omega);refine Tc.dr [] [] mixed rfl ?_;refine nR 0 ?_;refine .z 12 rfl (pA.tk fun H hs=> CC M H BK (tA oM) (tA oM) true (decide_eq_true d3)) ?_;refine .nn 13 ?_;refine .dn ?_;refine U3 ?_;refine Tc.dr [21,23] [0] mixed rfl ?_;refine V4 0 ?_;refine .nw 4 ?_;refine .nw 5 ?_;refine .nw 6 ?_;refine .nw 7 ?_;refine V6 8 ?_;refine .nw 14 ?_;refine .nw 15 ?_;refine .nw 16 ?_;refine .nw 17 ?_;refine .nw 18 ?_;refine V2 19 ?_;refine .e 21 0 ?_;refine .nw 22 ?_;refine .e 23 0 ?_;refine .dn ?_;refine U5 ?_;exact Tc.db (ih ⟨(2*r+1,GB u (f+r) (f+(2*r+1))),by simp only;omega,by simp only;omega,g3.trans (nA.swap oM oM oM oM),g4.step oM g1 oM hcv d3 mM⟩ Ob)
   ·refine Tc.dr [] [] mixed rfl ?_;refine nR 0 ?_;refine .z 12 rfl (pA.tk fun H hs=> CC M H BK (tA oM) (tA oM) false (decide_eq_false d3)) ?_;refine .nn 13 ?_;refine .dn ?_;refine U ?_;refine .rt hK func301 results301 [] ?_;exact fun H' hs=> xB.of (dec:=dec) hs (i:=0) rfl ⟨rfl,g3,g4.fin (fun d h1 h2=> by have:=mM d h1 h2;omega)⟩
 ·refine U9 ?_;refine .ov hK func301 results301 [] ?_;exact fun H' hs=> xB.of (dec:=dec) hs (i:=0) rfl ⟨rfl,g3,g4.fin (fun d h1 h2=> by omega)⟩
end
theorem F2 {f hi s:Nat}{u:List Int}(hs:1<=s)(h:tR f s hi u):yG f (s-1) hi (s-1) u:=
 ⟨fun k c h1 h2 h3 h4=> h k c oM h3 h4,fun k c h1 h2 h3 h4=> by omega⟩
structure TS(f hi s:Nat)(u:List Int):Prop where
 heap:tR f 0 s u
 srt:AF (f+s) (f+hi) u
 low:∀p q,p<s->s<=q->q<hi->vA u (f+p)<=vA u (f+q)
theorem M7 {f hi s:Nat}{u:List Int}(hs:1<=s)(tO:s<=hi)(hl:f+hi<=u.length)(h:TS f hi s u):yG f 0 (s-1) 0 (GB u f (f+(s-1))):=by
 have hw:=fun q=> WC (l:=u) (p:=f) (q:=f+(s-1)) oM oM q;refine⟨fun k c h1 h2 h3 h4=> ?_,fun k c h1 h2 h3 h4=> by omega⟩;rw[hw,hw,if_neg oM,if_neg oM,if_neg oM,if_neg oM];exact h.heap k c h1 h3 oM
theorem I2 {f hi s:Nat}{u m:List Int}(hs:1<=s)(tO:s<=hi)(hl:f+hi<=u.length)(h:TS f hi s u)(ht:nA f (f+(s-1)) (GB u f (f+(s-1))) m)(hm:tR f 0 (s-1) m):TS f hi (s-1) m:=by
 have hw:=fun q=> WC (l:=u) (p:=f) (q:=f+(s-1)) oM oM q;have aHj:=h.heap.top;have kM:vA m (f+(s-1))=vA u f:=by
  rw[ht.out _ (.inr (Nat.le_refl _)),hw,if_pos rfl]
 have MZ:∀q,s<=q->vA m (f+q)=vA u (f+q):=fun q hq=> by
  rw[ht.out _ (.inr oM),hw,if_neg oM,if_neg oM]
 have QA:∀X:Int,(∀p,p<s->vA u (f+p)<=X)->∀p,p<s-1->vA m (f+p)<=X:=fun X hX p hp=>
  ht.all (by rw[VN];omega) (P:=fun x=> x<=X) (fun p h1 h2=> by
   rw[hw,if_neg oM];by_cases e:p=f
   ·rw[if_pos e];exact hX (s-1) oM
   ·rw[if_neg e];have:=hX (p-f) oM
    rwa [show f+(p-f)=p by omega] at this) (f+p) oM oM
 refine⟨hm,fun p q h1 h2 h3=> ?_,fun p q h1 h2 h3=> ?_⟩
 ·by_cases e:p=f+(s-1)
  ·rw[e,kM];have h4:=MZ (q-f) oM;rw[show f+(q-f)=q by omega] at h4;rw[h4];have:=h.low 0 (q-f) oM oM oM
   rwa [show f+(q-f)=q by omega,Nat.add_zero] at this
  ·have h4:=MZ (q-f) oM;have h5:=MZ (p-f) oM;rw[show f+(q-f)=q by omega] at h4;rw[show f+(p-f)=p by omega] at h5;rw[h4,h5];exact h.srt p q oM h2 h3
 ·by_cases e:q=s-1
  ·subst e;rw[kM];exact QA _ (fun p hp=> aHj p hp) p h1
  ·rw[MZ q oM];exact QA _ (fun p hp=> h.low p q hp oM h3) p h1
section
variable(M:Md prog)(H:View)
theorem DV(dec:Int->By)(sb:Nat)(l:List Int)(jj:List Value)(n cap a b:Nat)(hn:n=l.length)(hE:MO dec l)(hb:b<=n)(gG:n<=100000000)(AR:a<b)(hS:H sb=some (true,.cells ⟨(rA dec l)++jj⟩ 9 (0,0))):
  fA M 257 #[.sl sb n cap,.nt a,.nt b] H (xB dec H sb jj (fun v m=> v=.tuple ⟨[]⟩/\nA a b l m/\AF a b m)):=by
 obtain⟨hi,gQ⟩:∃hi,hi=b-a:=⟨_,rfl⟩
 have e0:((b:Nat):Int)-((a:Nat):Int)=((hi:Nat):Int):=by omega
 have eb:b=a+hi:=by omega
 obtain⟨s0,FJ⟩:∃s0,s0=(hi-1)/2+1:=⟨_,rfl⟩
 have hq:iA .quo .i64 (((hi:Nat):Int)-1) 2=some (.int .i64 (((s0:Nat):Int)-1)):=by
  rw[ON oM oM oM]
  congr 2
  omega
 refine fA.enter (vs:= [.sl sb n cap,.nt a,.nt b]) func257 rfl ntmps257 Nb (jA.pull hS) fun St c cs hK=> ?_;refine LI ?_;rw[e0];refine U9 ?_;refine Tc.db (Tc.qA (σ:= { s:Nat×List Int//s.1<=hi/\nA a b l s.2/\tR a s.1 hi s.2 }) (fun s=> ([(0,.sl sb n cap),(6,.nt a),(7,.iz 0),(8,.nt hi),(9,.iz ((s.1.1:Nat)-1))],[Bb sb ((rA dec s.1.2)++jj) 9])) (fun s=> s.1.1) ?_
  ⟨(s0,l),by simp only;omega,nA.refl ..,fun k c h1 h2 h3=> by simp only at h1;omega⟩)
 rintro⟨⟨s,u⟩,g1,g2,g3⟩ ih;simp only at g1 g2 g3;dsimp only;have uO:=g2.len;have BK:=hE.JD g2;by_cases c1:1<=s
 ·have e1:((s:Nat):Int)-1=((s-1:Nat):Int):=by omega
  rw[e1];refine AJ ?_;refine .e (Or.vF (dec:=dec) (l:=u) 0 (fun v m=> v=.tuple ⟨[]⟩/\nA a (a+hi) u m/\tR a (s-1) hi m) rfl rfl rfl rfl rfl dE rfl (fun H hs=> .h (CO M H dec sb u jj n cap (s-1) hi a oM BK oM gG oM (F2 c1 g3) (hs.get (i:=0) rfl))) (fun v m ⟨hv,ht,hh⟩=> ?_));refine U7 ?_;exact Tc.db (ih ⟨(s-1,m),by simp only;omega,g2.trans (ht.wide (Nat.le_refl _) oM),hh⟩ Ob)
 ·have es:s=0:=by omega
  subst es;refine AJ ?_;refine Tc.db (Tc.qA (σ:= { s:Nat×List Int//s.1<=hi/\nA a b l s.2/\TS a hi s.1 s.2 }) (fun s=> ([(0,.sl sb n cap),(6,.nt a),(7,.iz 0),(10,.iz ((s.1.1:Nat)-1))],[Bb sb ((rA dec s.1.2)++jj) 9])) (fun s=> s.1.1) ?_
   ⟨(hi,u),Nat.le_refl _,g2,⟨g3,fun p q h1 h2 h3=> by omega,fun p q h1 h2 h3=> by omega⟩⟩)
  rintro⟨⟨s,w⟩,f1,f2,f3⟩ ih2;simp only at f1 f2 f3;show Tc M St _ _ _ _ [(0,.sl sb n cap),(6,.nt a),(7,.iz 0),(10,.iz ((s:Nat)-1))] [Bb sb ((rA dec w)++jj) 9] _ _;have GU:=f2.len;have KX:=hE.JD f2;by_cases c2:1<=s
  ·have e1:((s:Nat):Int)-1=((s-1:Nat):Int):=by omega
   rw[e1];have k1:=sA (dec:=dec) (m:=w) (j:=jj) (k:=(a:Nat)) (p:=a) rfl oM;have k2:=sA (dec:=dec) (m:=w) (j:=jj) (k:=(a:Nat)+((s-1:Nat):Int)) (p:=a+(s-1)) oM oM;have s1:=EA (dec:=dec) (m:=w) (j:=jj) (k:=(a:Nat)) (x:=vA w (a+(s-1))) (p:=a) rfl oM;have s2:=EA (dec:=dec) (m:=w.set a (vA w (a+(s-1)))) (j:=jj) (k:=(a:Nat)+((s-1:Nat):Int)) (x:=vA w a) (p:=a+(s-1)) oM (by rw[List.length_set];omega);have l1:=CA (dec:=dec) (m:=w) (j:=jj) (k:=(a:Nat)) (p:=a) rfl oM;have l2:=CA (dec:=dec) (m:=w.set a (vA w (a+(s-1)))) (j:=jj) (k:=(a:Nat)+((s-1:Nat):Int)) (p:=a+(s-1)) oM (by rw[List.length_set];omega);have aX:=nA.swap (a:=a) (b:=b) (l:=w) (p:=a) (q:=a+(s-1)) oM oM oM oM;refine ND ?_;refine Tc.dr [17,19] [0] mixed rfl ?_;refine V2 0 ?_;refine .nw 2 ?_;refine .nw 3 ?_;refine .nw 4 ?_;refine .nw 5 ?_;refine V6 6 ?_;refine .nw 12 ?_;refine .nw 13 ?_;refine .nw 14 ?_;refine V2 15 ?_;refine .e 17 0 ?_;refine .nw 18 ?_;refine .e 19 0 ?_;refine .dn ?_;refine U5 ?_;refine .e (Or.vF (dec:=dec) (l:=GB w a (a+(s-1))) 0 (fun v m=> v=.tuple ⟨[]⟩/\nA a (a+(s-1)) (GB w a (a+(s-1))) m/\tR a 0 (s-1) m) rfl rfl rfl rfl rfl dE rfl (fun H hs=> .h (CO M H dec sb (GB w a (a+(s-1))) jj n cap 0 (s-1) a (by rw[VN];omega) (KX.JD aX) oM gG oM (M7 c2 f1 oM f3) (hs.get (i:=0) rfl))) (fun v m ⟨hv,ht,hh⟩=> ?_));refine U7 ?_;exact Tc.db (ih2 ⟨(s-1,m),by simp only;omega,f2.trans (aX.trans (ht.wide (Nat.le_refl _) oM)),I2 c2 f1 oM f3 ht hh⟩ Ob)
  ·have es:s=0:=by omega
   subst es;refine U8 ?_;refine .ov hK func257 results257 [] ?_;exact fun H' hs=> xB.of (dec:=dec) hs (i:=0) rfl ⟨rfl,f2,eb▸f3.srt⟩
end
end Go.Proofs.YtldmfjcgjdchcaaGreatDoor
