/-
  Texts of the proofs over baudot/dial: C7 Draw5 C8 Z1 Z2 Z3 Z8 Z9 X2 ZA Draw6 ZB ZC Y1 Y2 Y3 Y4 Y5 Y6.
-/
import Derived.Test.YtdnfdeplcjaonaaGreatDoorH06
namespace Go.Proofs.YtdnfdeplcjaonaaGreatDoor
open Go.RL
set_option maxRecDepth 10000
set_option maxHeartbeats 16000000
def strsV(l:List (List UInt8)):List Value:=l.map strV
theorem strsV_len(l:List (List UInt8)):(strsV l).length=l.length:=by simp[strsV]
theorem strsV_app(l m:List (List UInt8)):strsV (l++m)=strsV l++strsV m:=by simp[strsV]
theorem strsV_single(l:List (List UInt8)):(strsV l).all single=true:=by
 rw[List.all_eq_true];intro x hx;obtain⟨s,_,rfl⟩:=List.mem_map.1 hx;rfl
def allB2(many:Nat)(dg:List UInt8)(s: { p:Nat×Nat//p.1≠p.2 }):Bl:= [(s.1.1,true,.cells ⟨[.int .i64 (many:Nat)]⟩ 3 (0,0)),(s.1.2,true,.cells ⟨[strV dg]⟩ 9 (0,0))]
theorem allB2_nodup(many:Nat)(dg:List UInt8)(s: { p:Nat×Nat//p.1≠p.2 }):((allB2 many dg s).map (·.1)).Nodup:=by
 obtain⟨⟨a,b⟩,h⟩:=s;simp only[allB2,List.map_cons,List.map_nil,List.nodup_cons,List.mem_singleton,List.not_mem_nil,not_false_eq_true,List.nodup_nil,and_true];exact h
section
variable(M:Md Tryz.prog)(H:View)
theorem all_n(many:Nat)(dg:List UInt8):CallT M 116 #[.int .i64 (many:Nat),strV dg] H (fun v H'=> H.le H'∧∃s: { p:Nat×Nat//p.1≠p.2 },v=allF s.1.1 s.1.2∧True∧∀y∈allB2 many dg s,H' y.1=some y.2∧H y.1=none):=by
 refine .en Tryz.func116 Tryz.ntmps116 fun St c cs hK=> ?_;refine .sr ?_;refine .e (.bx (zz:=fun b2=> ?_));refine .e (.bx (zz:=fun b3=> ?_));refine .g ?_;refine .done (.sr ?_);refine .x .mf ?_;refine .g ?_;refine .done ?_;refine .rt hK Tryz.func116 Tryz.results116 [_] ?_;intro H' hs;have hnd:=hs.nodup;have hne:b2≠b3:=by
   simp only[List.map_cons,List.map_nil,List.nodup_cons,List.mem_singleton] at hnd;exact fun e=> hnd.1 e.symm
 refine⟨hs.base,⟨(b2,b3),hne⟩,rfl,trivial,fun y hy=> ?_⟩;have hy':y=(b2,true,.cells ⟨[.int .i64 (many:Nat)]⟩ 3 (0,0))∨y=(b3,true,.cells ⟨[strV dg]⟩ 9 (0,0)):=by simpa [allB2] using hy
 rcases hy' with rfl|rfl
 · exact⟨hs.get (i:=1) rfl,hs.out _ (List.mem_cons_of_mem _ (List.mem_cons_self ..))⟩
 · exact⟨hs.get (i:=0) rfl,hs.out _ (List.mem_cons_self ..)⟩
def SeqQ(H₁:View)(g:Gl 9 1)(l xs:List (List UInt8))(v:Value)(H3:View):Prop:=
 ∃(g':Gl 9 1) (H₂:View),v=g'.val∧H₁.le H₂∧SymSt H₂ g'.bl H3∧g'.l=strsV (l++xs)∧g'.n=g.n+xs.length
theorem AppendSeq_c(g:Gl 9 1)(l:List (List UInt8))(hg:g.l=strsV l)(hgn:g.n≤100000)(many:Nat)(dg:List UInt8)(hm:many≤1000)(hdg:dg.all dig=true)(hdl:dg.length≤1000)(hal:(allL dg many).length≤100000)(a1 a2:Nat)(H₁ Hc:View)(hcap:CapA many dg a1 a2 H₁)(hsy:SymSt H₁ g.bl Hc):
   CallT M 122 #[g.val,allF a1 a2] Hc (SeqQ H₁ g l (allL dg many)):=by
 have hit:=fun(H':View) (_:CapA many dg a1 a2 H')=> all_it M H' many dg hm hdg hdl a1 a2;refine CallT.enter (vs:= [g.val,allF a1 a2]) Tryz.func122 rfl Tryz.ntmps122 (Nat.le_of_ble_eq_true rfl) (hsy) fun St c cs hK=> ?_;refine .sr ?_;refine .e (.bx (zz:=fun b2=> ?_));refine .g ?_;refine .done (.seq (.sr ?_));refine .m ?_;refine .done (.block ?_);refine Tc.db (R':= [(2,.pointer (some ⟨b2,0,none⟩)),(6,allF a1 a2)]) (L':= [(b2,true,.cells ⟨[g.val]⟩ 33 (0,0))]++g.bl) ?_;refine Tc.rangeL (A:= []) (ts:= [7]) (xs:=allL dg many) (fun rest H₄ L₄=> ∃(g':Gl 9 1) (dn:List (List UInt8)),L₄= [(b2,true,.cells ⟨[g'.val]⟩ 33 (0,0))]++g'.bl∧g'.l=strsV (l++dn)∧g'.n=g.n+dn.length∧dn++rest=allL dg many∧CapA many dg a1 a2 H₄∧H₁.le H₄) (fun _ _ _=> False) rfl rfl rfl rfl hit (fun _ _=> CapA.le _ _) (fun _ _ _ ⟨_,_,_,_,_,_,h,_⟩=> h) rfl (fun _ _=> rfl)
     ⟨g,[],rfl,by rw[List.append_nil];exact hg,rfl,rfl,hcap,View.le_refl _⟩ ?_ ?_ (fun _ _ _ _ h=> h.elim)
 · rintro r x rest _ lp tmps asg bdy H₄ _ hx ⟨g',dn,rfl,q1,q2,q3,q4,q5⟩ Q St1 cc1 cs1 hK1 q q';have hdl2:dn.length≤100000:=by
     have:=congrArg List.length q3;rw[List.length_append] at this;omega
   refine .r ?_;refine .g ?_;refine .done ?_;refine Tc.beginRound (i:=0) rfl rfl rfl ?_;refine .block (.r ?_);refine .x (.ld 2) ?_;refine .m ?_;refine .e (.bs (zz:=fun bs=> ?_));refine .e (Or.append (E:=en) 4 rfl rfl rfl rfl rfl rfl rfl rfl rfl rfl rfl rfl rfl rfl rfl (fun H hs=> SrcAt.of (hs.get (i:=0) rfl) (Nat.le_of_ble_eq_true rfl)) rfl (by omega) rfl (by decide) (fun g2 hn2 hl2=> ?_));refine .e (.st 3 (zz:=?_));refine .done (.inBlock ?_);refine Tc.leaveRound hK1 (i:=1) rfl (.inl ⟨rfl,rfl⟩) (fun H' hs=> q H' H₄ _ (hs.less (by apply List.Sublist.cons;exact List.Sublist.refl _)) ⟨g2,dn++[x],rfl,by rw[hl2,q1,←List.append_assoc,strsV_app (l++dn) [x]];rfl,by rw[hn2,q2,List.length_append];rfl,by rw[List.append_assoc];exact q3,q4,q5⟩)
 · rintro r H₄ _ ⟨g',dn,rfl,q1,q2,q3,q4,q5⟩;rw[List.append_nil] at q3;subst q3;refine .inBlock (.sr ?_);refine .x (.ld 1) ?_;refine .g ?_;refine .done ?_;refine Tc.retD (E:=en) (i:=0) hK Tryz.func122 Tryz.results122 (vs:= [_]) rfl ⟨rfl,trivial⟩ ?_;exact fun H' hs=> ⟨g',H₄,rfl,q5,hs.less (by apply List.Sublist.cons;apply List.Sublist.cons;exact List.Sublist.refl _),q1,q2⟩
theorem cloneS_c(a:Option Addr)(m ca:Nat)(l:List Value)(hm:m≤100000)(hs0:SrcAt H 1 (.slice a m ca) m l)(h1:l.all single=true):CallT M 124 #[.slice a m ca] H (fun v H'=> H.le H'∧∃g:Gl 9 1,v=g.val∧(g.l=l∧g.n=m)∧∀x∈g.bl,H' x.1=some x.2∧H x.1=none):=by
 refine .en Tryz.func124 Tryz.ntmps124 fun St c cs hK=> ?_;cases a with
 | none=>
   refine .sr ?_;refine .g ?_;refine .done (.seq (.sr ?_));refine .m ?_;refine .x (OpV.eqNil (E:=en) rfl rfl rfl rfl rfl) ?_;refine .done (.tt rfl (.sr ?_));refine .g ?_;refine .done ?_;refine .rt hK Tryz.func124 Tryz.results124 [_] ?_;obtain⟨_,h2,h3|⟨b,off,_,_,_,_,_,h3,_⟩⟩:=hs0
   · obtain⟨_,_,_,rfl⟩:=h3;have:m=0:=by simp at h2;omega
     subst this;exact fun H' hs'=> ⟨hs'.base,Gl.nil 9 1,rfl,⟨rfl,rfl⟩,by simp[Gl.nil,Gl.bl]⟩
   · cases h3
 | some a=>
   refine .sr ?_;refine .g ?_;refine .done (.seq (.sr ?_));refine .m ?_;refine .x (OpV.eqNil (E:=en) rfl rfl rfl rfl rfl) ?_;refine .done (.ff rfl (.skip (.sr ?_)));refine .e (.bs (zz:=fun bs=> ?_));refine .m ?_;refine .e (Or.append (E:=en) (g:=Gl.emp 9 1 bs) 0 rfl rfl rfl rfl rfl rfl rfl rfl rfl rfl rfl rfl rfl rfl rfl (fun H' hs'=> hs0.mono hs'.base) h1 (by show 0+m≤_;omega) rfl (by decide) (fun g' hn hl=> ?_));refine .g ?_;refine .done ?_;refine .rt hK Tryz.func124 Tryz.results124 [_] ?_;exact fun H' hs'=> ⟨hs'.base,g',rfl,⟨by rw[hl];rfl,by rw[hn];show 0+m=m;omega⟩,fun x hx=> ⟨hs'.at_ x hx,hs'.out x hx⟩⟩
end
end Go.Proofs.YtdnfdeplcjaonaaGreatDoor
namespace Go.RL
open Go.Conc
section
variable {P:Program}{M:Md P}{St:View→Goroutine→Prop}{n:Nat}{b:FB}{H₀:View}{cs:List Frame}{R:Rg}{L L₁:Bl}{ds:List Deferred}{k:List Item}{md:Region.Mode}{ops:Array Oper}{S:Array Bool→View→Prop}{fuel:Nat}{listed:Array Bool}
theorem Ta.permL(p:L₁.Perm L)(h:Ta M St n b H₀ cs S md ops fuel listed R L₁ ds k):Ta M St n b H₀ cs S md ops fuel listed R L ds k:=fun H tmps hs=> h H tmps (hs.perm p)
end
end Go.RL
namespace Go.Proofs.YtdnfdeplcjaonaaGreatDoor
open Go.RL
set_option maxRecDepth 10000
set_option maxHeartbeats 16000000
theorem perm3(A:Bl)(x y z:Nat×Bool×Obj)(B:Bl):(A++(x::y::z::B)).Perm (x::y::z::(A++B)):=by
 refine List.perm_middle.trans (.cons _ ?_);refine List.perm_middle.trans (.cons _ ?_);exact List.perm_middle
theorem perm4(u v:Nat×Bool×Obj)(A:Bl)(x y z:Nat×Bool×Obj)(B:Bl):((x::y::z::A)++(u::v::B)).Perm (([u,v]++A)++([x,y,z]++B)):=by
 simp only[List.cons_append,List.nil_append];have h1:(A++(x::y::z::B)).Perm (x::y::z::(A++B)):=perm3 A x y z B;have h2:(x::y::z::(A++u::v::B)).Perm (u::v::x::y::z::(A++B)):=by
   have h3:(A++u::v::B).Perm (u::v::(A++B)):=List.perm_middle.trans (.cons _ List.perm_middle);have h4:(x::y::z::(A++u::v::B)).Perm (x::y::z::u::v::(A++B)):=.cons _ (.cons _ (.cons _ h3));refine h4.trans ?_;have h5:([x,y,z]++u::v::(A++B)).Perm (u::([x,y,z]++v::(A++B))):=List.perm_middle;have h6:([x,y,z]++v::(A++B)).Perm (v::([x,y,z]++(A++B))):=List.perm_middle;exact h5.trans (.cons _ h6)
 exact h2.trans (.cons _ (.cons _ h1.symm))
theorem wmul {a:Int}{t:Nat}(h:0≤a∧a≤99)(ht:t≤30):0≤a*(t:Nat)∧a*(t:Nat)≤2970:=by
 have h1:(0:Int)≤(t:Nat):=Int.natCast_nonneg t;have h2:((t:Nat):Int)≤30:=by omega
 refine⟨Int.mul_nonneg h.1 h1,?_⟩;have h3:=Int.mul_le_mul h.2 h2 h1 (by omega:(0:Int)≤99);omega
theorem Gl.back {e:TypeId}{g g':Gl e 1}(new:List Value)(h1:g'.blk=g.blk)(h2:g'.n=g.n+new.length)(h3:g'.cap=g.cap)(h4:g'.l=g.l++new):∃g5:Gl e 1,g5.blk=g.blk∧g5.n=g.n∧g5.cap=g.cap∧g5.l=g.l∧g5.bl=g'.bl:=by
 have hl:=g.hl;have hl':=g'.hl;have hj':=g'.hj;have hc':=g'.hc;refine⟨⟨g.blk,g.n,g.cap,g.l,new++g'.junk,g.hl,g.hc,?_,g.h0⟩,rfl,rfl,rfl,rfl,?_⟩
 · rw[List.length_append,hj',h2,h3];omega
 · unfold Gl.bl;simp only;rw[h1,h4];cases g.blk with
   | none=> rfl
   | some b=> simp
theorem strs_of(g:Gl 9 1){H:View}(h:∀x∈g.bl,H x.1=some x.2){l:List (List UInt8)}(hl:g.l=strsV l){g0:Gl 9 1}(hn:g.n=g0.n)(hb:g.blk=g0.blk):StrsAt H (g0.blk.map fun b=> ⟨b,0,none⟩) g0.n (fun j=> l[j]?.getD []):=by
 have hgl:=g.hl;rw[hl,strsV_len] at hgl;cases hbb:g0.blk with
 | none=>
   have:=g.h0 (hb.trans hbb);have:=g.hc;exact .inl (by omega)
 | some b=>
   have hbl:g.bl= [(b,true,.cells ⟨g.l++g.junk⟩ 9 (0,0))]:=by unfold Gl.bl;rw[hb,hbb]
   refine .inr ⟨b,0,true,_,9,(0,0),rfl,h (b,true,.cells ⟨g.l++g.junk⟩ 9 (0,0)) (by rw[hbl];simp),fun j hj=> ?_⟩;show(g.l++g.junk)[_]? =_;have hjl:j<l.length:=by omega
   rw[Nat.zero_add,Int.toNat_natCast,Nat.mul_one,List.getElem?_append_left (by rw[hl,strsV_len];exact hjl),hl];unfold strsV;rw[List.getElem?_map];simp only[List.getElem?_eq_getElem hjl];rfl
structure ChSt where
 done:Bool
 total:Int
 best:List (List UInt8)
def ChSt.al(s:ChSt):Int:=if s.done then 0 else 9
def nearL(l:List (List UInt8))(s:List UInt8):Bool:=(firstTo (fun j=> clash1 (l[j]?.getD []) s) l.length).isSome
def cheapGo(can:List (List UInt8))(w:Nat→Int):Nat→List (List UInt8)→Int→ChSt→ChSt
 | 0,l,sum,st=> if st.done=true∧sum≥st.total then st else⟨true,sum,l⟩
 | d+1,l,sum,st=> if st.done=true∧sum≥st.total then st else can.foldl (fun st s=> if nearL l s then st else cheapGo can w d (l++[s]) (sum+w l.length*(takenN s:Nat)) st) st
def ptr(b:Nat):Value:=.pointer (some ⟨b,0,none⟩)
def cheapF(b8 b7 b3 b6 b9 b11:Nat):Value:=.func (.func 123) #[] #[ptr b8,ptr b7,ptr b3,ptr b6,ptr b9,ptr b11]
def stB(st:ChSt)(num:Value)(b8 b7 b6:Nat):Bl:= [(b8,true,.cells ⟨[.int .i64 st.al]⟩ 29 (0,0)),(b7,true,.cells ⟨[.int .i64 st.total]⟩ 3 (0,0)),(b6,true,.cells ⟨num.cells.toList⟩ 33 (0,0))]
def numV(a:Option Addr)(n c:Nat):Value:=.slice a n c
structure ChCap(can:List (List UInt8))(w:Nat→Int)(nw:Nat)(b8 b7 b3 b6 b9 b11:Nat)(cA wA:Option Addr)(cc wc:Nat)(H:View):Prop where
 f:∃f,H b11=some (f,.cells ⟨[cheapF b8 b7 b3 b6 b9 b11]⟩ 171 (0,0))
 c:∃f,H b9=some (f,.cells ⟨[.slice cA can.length cc]⟩ 33 (0,0))
 g:∃f,H b3=some (f,.cells ⟨[.slice wA nw wc]⟩ 26 (0,0))
 cs:StrsAt H cA can.length (fun i=> can[i]?.getD [])
 ws:FreeAt H wA nw w
theorem ChCap.le {can:List (List UInt8)}{w:Nat→Int}{nw b8 b7 b3 b6 b9 b11:Nat}{cA wA:Option Addr}{cc wc:Nat}{H H':View}(h:ChCap can w nw b8 b7 b3 b6 b9 b11 cA wA cc wc H)(k:H.le H'):ChCap can w nw b8 b7 b3 b6 b9 b11 cA wA cc wc H':=
 ⟨h.f.imp fun _ e=> k _ _ e,h.c.imp fun _ e=> k _ _ e,h.g.imp fun _ e=> k _ _ e,h.cs.le k,h.ws.le k⟩
def ChQ(H₁:View)(g:Gl 9 1)(st:ChSt)(b8 b7 b6:Nat)(v:Value)(H3:View):Prop:=
 v=.tuple ⟨[]⟩∧∃(H₂:View) (g':Gl 9 1) (a:Option Addr) (n c:Nat),H₁.le H₂∧SymSt H₂ (stB st (numV a n c) b8 b7 b6++g'.bl) H3∧(g'.blk=g.blk∧g'.n=g.n∧g'.cap=g.cap∧g'.l=g.l)∧(n=st.best.length∧SrcAt H₂ 1 (numV a n c) n (strsV st.best))
theorem foldl_at {α β:Type}(f:β→α→β)(l:List α)(i:Nat)(b:β){x:α}(h:l[i]? =some x):(l.drop i).foldl f b=(l.drop (i+1)).foldl f (f b x):=by
 obtain⟨hi,rfl⟩:=List.getElem?_eq_some_iff.1 h;rw[List.drop_eq_getElem_cons hi,List.foldl_cons]
theorem Gl.val_of {e:TypeId}{sz:Nat}{g g':Gl e sz}(h:g'.blk=g.blk∧g'.n=g.n∧g'.cap=g.cap∧g'.l=g.l):g'.val=g.val:=by
 unfold Gl.val;rw[h.1,h.2.1,h.2.2.1]
def canStep(can:List (List UInt8))(w:Nat→Int)(d:Nat)(l:List (List UInt8))(sum:Int)(st:ChSt)(s:List UInt8):ChSt:=if nearL l s then st else cheapGo can w d (l++[s]) (sum+w l.length*(takenN s:Nat)) st
section
variable(M:Md Tryz.prog)
theorem more2_c(can:List (List UInt8))(w:Nat→Int)(nw:Nat)(b8 b7 b3 b6 b9 b11:Nat)(cA wA:Option Addr)(cc wc:Nat)(hnw:nw≤20)(hcan:can.length≤100000)(hcn:∀s∈can,s.all dig=true∧s.length≤3)(hw:∀i,i<nw→0≤w i∧w i≤99):
   ∀ (d:Nat) (g:Gl 9 1) (l:List (List UInt8)) (sum:Int) (st:ChSt) (a:Option Addr) (n c':Nat) (H₁ Hc:View),g.l=strsV l→l.length+d=nw→(0≤sum∧sum≤3000*(l.length:Nat))→ChCap can w nw b8 b7 b3 b6 b9 b11 cA wA cc wc H₁→n=st.best.length→SrcAt H₁ 1 (numV a n c') n (strsV st.best)→SymSt H₁ (stB st (numV a n c') b8 b7 b6++g.bl) Hc→
     CallT M 123 #[g.val,.int .i64 sum,ptr b8,ptr b7,ptr b3,ptr b6,ptr b9,ptr b11] Hc (ChQ H₁ g (cheapGo can w d l sum st) b8 b7 b6):=by
 intro d;induction d with
 | zero=>
   intro g l sum st a n c' H₁ Hc hg hld hsum hcap hn hsrc hsy;have hgn:g.n=l.length:=by have:=g.hl;rw[hg,strsV_len] at this;omega
   have hcap0:=hcap;obtain⟨⟨ff,hf⟩,⟨fc,hc⟩,⟨fg,hgw⟩,hcs,hws⟩:=hcap;obtain⟨dn,total,best⟩:=st;by_cases c1:dn=true∧sum≥total
   · obtain⟨rfl,c2⟩:=c1;have e:cheapGo can w 0 l sum ⟨true,total,best⟩=⟨true,total,best⟩:=if_pos ⟨rfl,c2⟩;rw[e];refine CallT.enter (vs:= [g.val,.int .i64 sum,ptr b8,ptr b7,ptr b3,ptr b6,ptr b9,ptr b11]) Tryz.func123 rfl Tryz.ntmps123 (Nat.le_of_ble_eq_true rfl) (hsy) fun St c cs hK=> ?_;unfold stB ptr;refine .seq (.sr ?_);refine .x (.ld 0) ?_;refine .i ?_ (z:=by exact rfl);refine .m ?_;refine .m ?_;refine .x (.ld 1) ?_;refine .j ?_;refine .x .pk ?_;refine .done (.tt rfl ?_);refine Tc.retN (E:=en) hK Tryz.func123 Tryz.results123 (vs:= []) (by exact trivial) ?_;exact fun H' hs=> ⟨rfl,H₁,g,a,n,c',View.le_refl _,hs,⟨rfl,rfl,rfl,rfl⟩,hn,hsrc⟩
   · have e:cheapGo can w 0 l sum ⟨dn,total,best⟩=⟨true,sum,l⟩:=if_neg c1;rw[e];clear e;cases dn with
     | false=>
       refine CallT.enter (vs:= [g.val,.int .i64 sum,ptr b8,ptr b7,ptr b3,ptr b6,ptr b9,ptr b11]) Tryz.func123 rfl Tryz.ntmps123 (Nat.le_of_ble_eq_true rfl) (hsy) fun St c cs hK=> ?_;unfold stB ptr;refine .seq (.sr ?_);refine .x (.ld 0) ?_;refine .i ?_ (z:=by exact rfl);refine .m ?_;refine .sk ?_;refine .sk ?_;refine .sk ?_;refine .x .pk ?_;refine .done (.ff rfl (.skip (.seq (.sr ?_))));refine .m ?_;refine .x .ln ?_;refine .x .l0 ?_;refine .x .ln ?_;refine .j ?_;refine .done (.tt rfl (.sr ?_));refine .m ?_;refine .e (Or.callNew Gl.val Gl.bl (fun g2:Gl 9 1=> g2.l=strsV l∧g2.n=g.n) rfl rfl rfl rfl rfl (by decide) Gl.bl_nodup (fun H hs=> .f ca124 rfl (cloneS_c M H (g.blk.map fun b=> ⟨b,0,none⟩) g.n g.cap (strsV l) (by omega) (by rw[←hg];exact g.src (fun x hx=> hs.at_ x (List.mem_append_right _ hx))) (strsV_single l))) (fun g2 hg2=> ?_));refine .m ?_;refine .e (.st 2 (zz:=?_));refine .e (.st 1 (zz:=?_));refine .e (.st 0 (zz:=?_));refine .done ?_;refine Tc.retN (E:=en) hK Tryz.func123 Tryz.results123 (vs:= []) (by exact trivial) ?_;intro H' hs;obtain⟨H₂,h1,h2⟩:=SymSt.unappend (B:= [(b8,true,.cells ⟨[.int .i64 0]⟩ 29 (0,0)),(b7,true,.cells ⟨[.int .i64 sum]⟩ 3 (0,0)),(b6,true,.cells ⟨[g2.val]⟩ 33 (0,0))]++g.bl) (L:=g2.bl) hs;refine⟨rfl,H₂,g,g2.blk.map (fun b=> ⟨b,0,none⟩),g2.n,g2.cap,h2.base,h1,⟨rfl,rfl,rfl,rfl⟩,by rw[hg2.2];exact hgn,?_⟩;have h3:=g2.src (H:=H₂) (fun x hx=> h2.at_ x hx);rw[hg2.1] at h3;exact h3
     | true=>
       have c2:intBin .geq .i64 sum (ChSt.mk true total best).total=some (.bool false):=geq_f (Int.lt_of_not_ge fun h=> c1 ⟨rfl,h⟩);refine CallT.enter (vs:= [g.val,.int .i64 sum,ptr b8,ptr b7,ptr b3,ptr b6,ptr b9,ptr b11]) Tryz.func123 rfl Tryz.ntmps123 (Nat.le_of_ble_eq_true rfl) (hsy) fun St c cs hK=> ?_;unfold stB ptr;refine .seq (.sr ?_);refine .x (.ld 0) ?_;refine .i ?_ (z:=by exact rfl);refine .m ?_;refine .m ?_;refine .x (.ld 1) ?_;refine .i ?_ (z:=by assumption);refine .x .pk ?_;refine .done (.ff rfl (.skip (.seq (.sr ?_))));refine .m ?_;refine .x .ln ?_;refine .x .l0 ?_;refine .x .ln ?_;refine .j ?_;refine .done (.tt rfl (.sr ?_));refine .m ?_;refine .e (Or.callNew Gl.val Gl.bl (fun g2:Gl 9 1=> g2.l=strsV l∧g2.n=g.n) rfl rfl rfl rfl rfl (by decide) Gl.bl_nodup (fun H hs=> .f ca124 rfl (cloneS_c M H (g.blk.map fun b=> ⟨b,0,none⟩) g.n g.cap (strsV l) (by omega) (by rw[←hg];exact g.src (fun x hx=> hs.at_ x (List.mem_append_right _ hx))) (strsV_single l))) (fun g2 hg2=> ?_));refine .m ?_;refine .e (.st 2 (zz:=?_));refine .e (.st 1 (zz:=?_));refine .e (.st 0 (zz:=?_));refine .done ?_;refine Tc.retN (E:=en) hK Tryz.func123 Tryz.results123 (vs:= []) (by exact trivial) ?_;intro H' hs;obtain⟨H₂,h1,h2⟩:=SymSt.unappend (B:= [(b8,true,.cells ⟨[.int .i64 0]⟩ 29 (0,0)),(b7,true,.cells ⟨[.int .i64 sum]⟩ 3 (0,0)),(b6,true,.cells ⟨[g2.val]⟩ 33 (0,0))]++g.bl) (L:=g2.bl) hs;refine⟨rfl,H₂,g,g2.blk.map (fun b=> ⟨b,0,none⟩),g2.n,g2.cap,h2.base,h1,⟨rfl,rfl,rfl,rfl⟩,by rw[hg2.2];exact hgn,?_⟩;have h3:=g2.src (H:=H₂) (fun x hx=> h2.at_ x hx);rw[hg2.1] at h3;exact h3
 | succ d ihd=>
   intro g l sum st a n c' H₁ Hc hg hld hsum hcap hn hsrc hsy;have hgn:g.n=l.length:=by have:=g.hl;rw[hg,strsV_len] at this;omega
   have hcap0:=hcap;obtain⟨⟨ff,hf⟩,⟨fc,hc⟩,⟨fg,hgw⟩,hcs,hws⟩:=hcap;obtain⟨dn,total,best⟩:=st;by_cases c1:dn=true∧sum≥total
   · obtain⟨rfl,c2⟩:=c1;have e:cheapGo can w (d+1) l sum ⟨true,total,best⟩=⟨true,total,best⟩:=if_pos ⟨rfl,c2⟩;rw[e];refine CallT.enter (vs:= [g.val,.int .i64 sum,ptr b8,ptr b7,ptr b3,ptr b6,ptr b9,ptr b11]) Tryz.func123 rfl Tryz.ntmps123 (Nat.le_of_ble_eq_true rfl) (hsy) fun St c cs hK=> ?_;unfold stB ptr;refine .seq (.sr ?_);refine .x (.ld 0) ?_;refine .i ?_ (z:=by exact rfl);refine .m ?_;refine .m ?_;refine .x (.ld 1) ?_;refine .j ?_;refine .x .pk ?_;refine .done (.tt rfl ?_);refine Tc.retN (E:=en) hK Tryz.func123 Tryz.results123 (vs:= []) (by exact trivial) ?_;exact fun H' hs=> ⟨rfl,H₁,g,a,n,c',View.le_refl _,hs,⟨rfl,rfl,rfl,rfl⟩,hn,hsrc⟩
   · have e:cheapGo can w (d+1) l sum ⟨dn,total,best⟩=can.foldl (canStep can w d l sum) ⟨dn,total,best⟩:=if_neg c1;rw[e];clear e;cases dn with
     | false =>
       refine CallT.enter (vs:= [g.val,.int .i64 sum,ptr b8,ptr b7,ptr b3,ptr b6,ptr b9,ptr b11]) Tryz.func123 rfl Tryz.ntmps123 (Nat.le_of_ble_eq_true rfl) (hsy) fun St c cs hK=> ?_;unfold stB ptr;refine .seq (.sr ?_);refine .x (.ld 0) ?_;refine .i ?_ (z:=by exact rfl);refine .m ?_;refine .sk ?_;refine .sk ?_;refine .sk ?_;refine .x .pk ?_;refine .done (.ff rfl (.skip (.seq (.sr ?_))));refine .m ?_;refine .x .ln ?_;refine .x .l0 ?_;refine .x .ln ?_;refine .j ?_;refine .done (.ff rfl (.skip (.sr ?_)));refine .x .l0 ?_;refine .x .ln ?_;refine .m ?_;refine .done (.block ?_);refine Tc.db (Tc.loopB (σ:= { y:View×Nat×ChSt×Gl 9 1×(Option Addr×Nat×Nat)//H₁.le y.1∧y.2.1≤can.length∧(can.drop y.2.1).foldl (canStep can w d l sum) y.2.2.1=can.foldl (canStep can w d l sum) (⟨false,total,best⟩:ChSt)∧(y.2.2.2.1.blk=g.blk∧y.2.2.2.1.n=g.n∧y.2.2.2.1.cap=g.cap∧y.2.2.2.1.l=g.l)∧(y.2.2.2.2.2.1=y.2.2.1.best.length∧SrcAt y.1 1 (numV y.2.2.2.2.1 y.2.2.2.2.2.1 y.2.2.2.2.2.2) y.2.2.2.2.2.1 (strsV y.2.2.1.best)) })
         (fun y=> (y.1.1,[(0,g.val),(1,.int .i64 sum),(2,.pointer (some ⟨b8,0,none⟩)),(3,.pointer (some ⟨b7,0,none⟩)),(4,.pointer (some ⟨b3,0,none⟩)),(5,.pointer (some ⟨b6,0,none⟩)),(6,.pointer (some ⟨b9,0,none⟩)),(7,.pointer (some ⟨b11,0,none⟩)),(27,.slice cA can.length cc),(28,.int .i64 (can.length:Nat)),(29,.int .i64 (y.1.2.1:Nat))],[(b8,true,.cells ⟨[.int .i64 y.1.2.2.1.al]⟩ 29 (0,0)),(b7,true,.cells ⟨[.int .i64 y.1.2.2.1.total]⟩ 3 (0,0)),(b6,true,.cells ⟨[numV y.1.2.2.2.2.1 y.1.2.2.2.2.2.1 y.1.2.2.2.2.2.2]⟩ 33 (0,0))]++y.1.2.2.2.1.bl)) (fun y=> can.length-y.1.2.1) ?_ ⟨(H₁,0,(⟨false,total,best⟩:ChSt),g,(a,n,c')),View.le_refl _,Nat.zero_le _,rfl,⟨rfl,rfl,rfl,rfl⟩,hn,hsrc⟩)
       rintro⟨⟨H₂,i,st,g2,a2,n2,c2'⟩,p1,p2,p3,p4,p5,p6⟩ ih;simp only at p1 p2 p3 p4 p5 p6;show Tc M St _ _ H₂ _ [(0,g.val),(1,.int .i64 sum),(2,.pointer (some ⟨b8,0,none⟩)),(3,.pointer (some ⟨b7,0,none⟩)),(4,.pointer (some ⟨b3,0,none⟩)),(5,.pointer (some ⟨b6,0,none⟩)),(6,.pointer (some ⟨b9,0,none⟩)),(7,.pointer (some ⟨b11,0,none⟩)),(27,.slice cA can.length cc),(28,.int .i64 (can.length:Nat)),(29,.int .i64 (i:Nat))] ([(b8,true,.cells ⟨[.int .i64 st.al]⟩ 29 (0,0)),(b7,true,.cells ⟨[.int .i64 st.total]⟩ 3 (0,0)),(b6,true,.cells ⟨[numV a2 n2 c2']⟩ 33 (0,0))]++g2.bl) _ _;by_cases d1:i=can.length
       · have e:can.foldl (canStep can w d l sum) (⟨false,total,best⟩:ChSt)=st:=by rw[←p3,d1,List.drop_length];rfl
         rw[e] at hK;subst d1;refine .sr ?_;refine .j ?_;refine .done (.seq (.ff rfl (.exit rfl ?_)));refine Tc.overN (E:=en) hK Tryz.func123 Tryz.results123 (vs:= []) (by exact trivial) ?_;exact fun H' hs=> ⟨rfl,H₂,g2,a2,n2,c2',p1,hs,p4,p5,p6⟩
       · have d2:i<can.length:=by omega
         obtain⟨s,hs0⟩:∃s,can[i]? =some s:=⟨_,List.getElem?_eq_getElem d2⟩
         have hsm:=hcn s (List.mem_of_getElem? hs0);have htk:=takenN_le s hsm.1;obtain h0|⟨cb,co,fcb,cgs,cgt,cgz,rfl,hcb,hcl⟩:=hcs
         · omega
         have f1:=hcl i d2;simp only[hs0,Option.getD_some] at f1;have hcb2:=p1 _ _ hcb;rw[foldl_at _ _ _ _ hs0] at p3;have hgv:=Gl.val_of p4;have hnear:=fun(H':View) (bx:Nat) (fx:Bool) (hg2:∀x∈g2.bl,H' x.1=some x.2) (hbx:H' bx=some (fx,.cells ⟨[strV s]⟩ 9 (0,0)))=> ContainsS_c M H' (g.blk.map fun b=> ⟨b,0,none⟩) g.n g.cap (fun j=> l[j]?.getD []) (strs_of g2 hg2 (p4.2.2.2.trans hg) (p4.2.1) p4.1) (by omega) (.func (.func 126) #[] #[.pointer (some ⟨bx,0,none⟩)]) (fun j=> clash1 (l[j]?.getD []) s) (fun j _ H'' h''=> FnT.of (first:= []) (captured:= [_]) ca126 rfl (near_c M H'' s bx fx (h'' _ _ hbx) (l[j]?.getD [])));have hnl:(firstTo (fun j=> clash1 (l[j]?.getD []) s) g.n).isSome=nearL l s:=by unfold nearL;rw[hgn]
         cases hq:nearL l s with
         | true=>
           have e3:canStep can w d l sum st s=st:=by unfold canStep;rw[if_pos hq]
           rw[e3] at p3;rw[hq] at hnl;refine .sr ?_;refine .j ?_;refine .done (.seq (.tt rfl (.skip (.seq (.block (.sr ?_))))));refine .x .ia ?_;refine .x .l0 ?_;refine .e (.al (zz:=fun bx=> ?_));refine .e (.st 0 (zz:=?_));refine .done (.seq (.sr ?_));refine .m ?_;refine .x .mf ?_;refine .c rfl rfl rfl rfl (fun H hs=> .f ca125 rfl (isB (hnear H bx true (fun x hx=> hs.at_ x (List.mem_cons_of_mem _ (List.mem_append_right _ hx))) (hs.get (i:=0) rfl)) hnl)) ?_;refine .done (.tt rfl (.exit rfl (.r ?_)));refine .j ?_;refine .m ?_;refine .done ?_;exact Tc.db (ih ⟨(H₂,i+1,st,g2,(a2,n2,c2')),p1,by simp only;omega,p3,p4,p5,p6⟩ (by simp only;omega))
         | false=>
           have e3:canStep can w d l sum st s=cheapGo can w d (l++[s]) (sum+w l.length*(takenN s:Nat)) st:=by unfold canStep;rw[if_neg (by rw[hq];decide)]
           rw[e3] at p3;rw[hq] at hnl;have hwl:=hw l.length (by omega);have hmul0:0≤w l.length*(takenN s:Nat)∧w l.length*(takenN s:Nat)≤2970:=wmul hwl (by omega);have hcap2:=hcap0.le p1;obtain⟨⟨ff2,hf2⟩,⟨fc2,hc2⟩,⟨fg2,hgw2⟩,_,hws2⟩:=hcap2;obtain h0|⟨wb,wo,fwb,wgs,wgt,wgz,rfl,hwb,hwl2⟩:=hws2
           · omega
           have f2:=hwl2 l.length (by omega);rw[←hgn] at f2;have f3:intBin .mul .i64 (w g.n) (takenN s:Nat)=some (.int .i64 (w l.length*(takenN s:Nat))):=by rw[hgn];exact mul_in (by omega) (by omega)
           have f4:intBin .add .i64 sum (w l.length*(takenN s:Nat))=some (.int .i64 (sum+w l.length*(takenN s:Nat))):=add_in (by omega) (by omega);refine .sr ?_;refine .j ?_;refine .done (.seq (.tt rfl (.skip (.seq (.block (.sr ?_))))));refine .x .ia ?_;refine .x .l0 ?_;refine .e (.al (zz:=fun bx=> ?_));refine .e (.st 0 (zz:=?_));refine .done (.seq (.sr ?_));refine .m ?_;refine .x .mf ?_;refine .c rfl rfl rfl rfl (fun H hs=> .f ca125 rfl (isB (hnear H bx true (fun x hx=> hs.at_ x (List.mem_cons_of_mem _ (List.mem_append_right _ hx))) (hs.get (i:=0) rfl)) hnl)) ?_;refine .done (.ff rfl (.skip ?_));refine Tc.drT [4] [15] [] 4 mixed rfl ?_;refine Ta.tkwC 0 (by kernel_rfl) rfl rfl rfl (by decide) rfl rfl (OpV.take .l0) ?_;refine Ta.tkC 1 (by kernel_rfl) rfl rfl (by decide) rfl rfl (OpV.take .mv) ?_;refine Ta.tkC 2 (by kernel_rfl) rfl rfl (by decide) rfl rfl (OpV.take (.ld 0)) ?_;refine Ta.tkwC 5 (by kernel_rfl) rfl rfl rfl (by decide) rfl rfl (OpV.take .mv) ?_;refine Ta.tkwC 6 (by kernel_rfl) rfl rfl rfl (by decide) rfl rfl (OpV.take .l0) ?_;refine Ta.tkwC 7 (by kernel_rfl) rfl rfl rfl (by decide) rfl rfl (OpV.take .mv) ?_;refine Ta.tkwC 8 (by kernel_rfl) rfl rfl rfl (by decide) rfl rfl (OpV.take .ln) ?_;refine Ta.tkwC 9 (by kernel_rfl) rfl rfl rfl (by decide) rfl rfl (OpV.take .ia) ?_;refine Ta.tkwC 10 (by kernel_rfl) rfl rfl rfl (by decide) rfl rfl (OpV.take .l0) ?_;refine Ta.tkwC 11 (by kernel_rfl) rfl rfl rfl (by decide) rfl rfl (OpV.take (.ld 0)) ?_;refine Ta.each [3] (by kernel_rfl) rfl ⟨TaOp.mk rfl rfl rfl (.bs (zz:=fun bs=> ⟨S3.mk (by apply List.Sublist.cons;exact List.sublist_append_left _ _) (.inr (by apply List.Sublist.cons;exact List.Sublist.refl _)),?_⟩)),trivial⟩;refine Ta.each [4] (by kernel_rfl) rfl ⟨TaOp.mk rfl rfl rfl (Or.appendK (E:=en) (g:=g2) (m:=1) (new:= [strV s]) (yv:=.slice (some ⟨bs,0,none⟩) 1 1) 5 rfl rfl rfl rfl (by rw[hgv];rfl) rfl rfl rfl rfl rfl rfl rfl rfl rfl rfl (fun H hs=> SrcAt.of (hs.get (i:=0) rfl) (Nat.le_of_ble_eq_true rfl)) rfl (by omega) rfl (by decide) (fun g3 hn3 hl3 hb3 hc3=> ⟨S3.mk (by apply List.Sublist.cons;exact List.sublist_append_left _ _) (.inl (by kernel_rfl)),?_⟩) (fun g3 hn3 hl3=> ⟨S3.mk (by apply List.Sublist.cons;exact List.sublist_append_left _ _) (.inl (by kernel_rfl)),?_⟩)),trivial⟩
           · refine Ta.tkwC 12 (by kernel_rfl) rfl rfl rfl (by decide) rfl rfl (OpV.takeCall rfl rfl rfl rfl (fun H hs=> .f ca128 rfl (taken_c M H s hsm.1 (by omega)))) ?_;refine Ta.tkwC 13 (by kernel_rfl) rfl rfl rfl (by decide) rfl rfl (OpV.take (.it (zz:=(by assumption)))) ?_;refine Ta.tkwC 14 (by kernel_rfl) rfl rfl rfl (by decide) rfl rfl (OpV.take (.it (zz:=(by assumption)))) ?_;refine Ta.lift (L₂:= [(bs,true,.cells ⟨[strV s]⟩ 9 (0,0)),(bx,true,.cells ⟨[strV s]⟩ 9 (0,0))]) (L₁:= [(b8,true,.cells ⟨[.int .i64 st.al]⟩ 29 (0,0)),(b7,true,.cells ⟨[.int .i64 st.total]⟩ 3 (0,0)),(b6,true,.cells ⟨[numV a2 n2 c2']⟩ 33 (0,0))]++g3.bl) rfl (fun Hx hx=> ?_);refine Ta.callF 15 (by kernel_rfl) rfl (by kernel_rfl) rfl rfl rfl rfl rfl rfl (by decide) (FnT.of (first:= []) (captured:= [_,_,_,_,_,_]) ca123 rfl (ihd g3 (l++[s]) _ st a2 n2 c2' H₂ Hx (by rw[hl3,p4.2.2.2,hg,strsV_app];rfl) (by rw[List.length_append];show l.length+1+d=nw;omega) (by rw[List.length_append];show _∧_≤3000*((l.length+1:Nat):Int);omega) (hcap0.le p1) p5 p6 hx)) (fun v H₃ hv=> ?_);obtain⟨_,H₄,g4,a4,n4,c4,r1,r2,r3,r4,r5⟩:=hv;refine Ta.expand r2 ?_;unfold stB;refine Ta.done (by kernel_rfl) ?_;refine .inBlock (.r ?_);refine .j ?_;refine .m ?_;refine .done ?_;obtain⟨g5,s1,s2,s3,s4,s5⟩:=Gl.back (g:=g2) (g':=g4) [strV s] (r3.1.trans hb3) (by rw[r3.2.1,hn3];rfl) (by rw[r3.2.2.1,hc3]) (by rw[r3.2.2.2,hl3]);rw[←s5];exact Tc.db (ih ⟨(H₄,i+1,_,g5,(a4,n4,c4)),View.le_trans p1 r1,by simp only;omega,p3,⟨s1.trans p4.1,s2.trans p4.2.1,s3.trans p4.2.2.1,s4.trans p4.2.2.2⟩,r4,r5⟩ (by simp only;omega))
           · refine Ta.permL (L₁:=([(bs,true,.cells ⟨[strV s]⟩ 9 (0,0)),(bx,true,.cells ⟨[strV s]⟩ 9 (0,0))]++g2.bl)++([(b8,true,.cells ⟨[.int .i64 st.al]⟩ 29 (0,0)),(b7,true,.cells ⟨[.int .i64 st.total]⟩ 3 (0,0)),(b6,true,.cells ⟨[numV a2 n2 c2']⟩ 33 (0,0))]++g3.bl)) ?_ ?_
             · simp only[List.cons_append,List.nil_append];refine .cons _ (.cons _ ?_);exact perm3 g2.bl _ _ _ g3.bl
             · refine Ta.tkwC 12 (by kernel_rfl) rfl rfl rfl (by decide) rfl rfl (OpV.takeCall rfl rfl rfl rfl (fun H hs=> .f ca128 rfl (taken_c M H s hsm.1 (by omega)))) ?_;refine Ta.tkwC 13 (by kernel_rfl) rfl rfl rfl (by decide) rfl rfl (OpV.take (.it (zz:=(by assumption)))) ?_;refine Ta.tkwC 14 (by kernel_rfl) rfl rfl rfl (by decide) rfl rfl (OpV.take (.it (zz:=(by assumption)))) ?_;refine Ta.lift (L₂:= [(bs,true,.cells ⟨[strV s]⟩ 9 (0,0)),(bx,true,.cells ⟨[strV s]⟩ 9 (0,0))]++g2.bl) (L₁:= [(b8,true,.cells ⟨[.int .i64 st.al]⟩ 29 (0,0)),(b7,true,.cells ⟨[.int .i64 st.total]⟩ 3 (0,0)),(b6,true,.cells ⟨[numV a2 n2 c2']⟩ 33 (0,0))]++g3.bl) rfl (fun Hx hx=> ?_);refine Ta.callF 15 (by kernel_rfl) rfl (by kernel_rfl) rfl rfl rfl rfl rfl rfl (by decide) (FnT.of (first:= []) (captured:= [_,_,_,_,_,_]) ca123 rfl (ihd g3 (l++[s]) _ st a2 n2 c2' H₂ Hx (by rw[hl3,p4.2.2.2,hg,strsV_app];rfl) (by rw[List.length_append];show l.length+1+d=nw;omega) (by rw[List.length_append];show _∧_≤3000*((l.length+1:Nat):Int);omega) (hcap0.le p1) p5 p6 hx)) (fun v H₃ hv=> ?_);obtain⟨_,H₄,g4,a4,n4,c4,r1,r2,r3,r4,r5⟩:=hv;refine Ta.expand r2 ?_;unfold stB;refine Ta.done (by kernel_rfl) ?_;refine .inBlock (.r ?_);refine .j ?_;refine .m ?_;refine .done ?_;have hfin:=ih ⟨(H₄,i+1,_,g2,(a4,n4,c4)),View.le_trans p1 r1,by simp only;omega,p3,p4,r4,r5⟩ (by simp only;omega);refine Tc.permL (perm4 _ _ g2.bl _ _ _ g4.bl) ?_;exact Tc.db hfin
     | true=>
       have c2:intBin .geq .i64 sum (ChSt.mk true total best).total=some (.bool false):=geq_f (Int.lt_of_not_ge fun h=> c1 ⟨rfl,h⟩);refine CallT.enter (vs:= [g.val,.int .i64 sum,ptr b8,ptr b7,ptr b3,ptr b6,ptr b9,ptr b11]) Tryz.func123 rfl Tryz.ntmps123 (Nat.le_of_ble_eq_true rfl) (hsy) fun St c cs hK=> ?_;unfold stB ptr;refine .seq (.sr ?_);refine .x (.ld 0) ?_;refine .i ?_ (z:=by exact rfl);refine .m ?_;refine .m ?_;refine .x (.ld 1) ?_;refine .i ?_ (z:=by assumption);refine .x .pk ?_;refine .done (.ff rfl (.skip (.seq (.sr ?_))));refine .m ?_;refine .x .ln ?_;refine .x .l0 ?_;refine .x .ln ?_;refine .j ?_;refine .done (.ff rfl (.skip (.sr ?_)));refine .x .l0 ?_;refine .x .ln ?_;refine .m ?_;refine .done (.block ?_);refine Tc.db (Tc.loopB (σ:= { y:View×Nat×ChSt×Gl 9 1×(Option Addr×Nat×Nat)//H₁.le y.1∧y.2.1≤can.length∧(can.drop y.2.1).foldl (canStep can w d l sum) y.2.2.1=can.foldl (canStep can w d l sum) (⟨true,total,best⟩:ChSt)∧(y.2.2.2.1.blk=g.blk∧y.2.2.2.1.n=g.n∧y.2.2.2.1.cap=g.cap∧y.2.2.2.1.l=g.l)∧(y.2.2.2.2.2.1=y.2.2.1.best.length∧SrcAt y.1 1 (numV y.2.2.2.2.1 y.2.2.2.2.2.1 y.2.2.2.2.2.2) y.2.2.2.2.2.1 (strsV y.2.2.1.best)) })
         (fun y=> (y.1.1,[(0,g.val),(1,.int .i64 sum),(2,.pointer (some ⟨b8,0,none⟩)),(3,.pointer (some ⟨b7,0,none⟩)),(4,.pointer (some ⟨b3,0,none⟩)),(5,.pointer (some ⟨b6,0,none⟩)),(6,.pointer (some ⟨b9,0,none⟩)),(7,.pointer (some ⟨b11,0,none⟩)),(27,.slice cA can.length cc),(28,.int .i64 (can.length:Nat)),(29,.int .i64 (y.1.2.1:Nat))],[(b8,true,.cells ⟨[.int .i64 y.1.2.2.1.al]⟩ 29 (0,0)),(b7,true,.cells ⟨[.int .i64 y.1.2.2.1.total]⟩ 3 (0,0)),(b6,true,.cells ⟨[numV y.1.2.2.2.2.1 y.1.2.2.2.2.2.1 y.1.2.2.2.2.2.2]⟩ 33 (0,0))]++y.1.2.2.2.1.bl)) (fun y=> can.length-y.1.2.1) ?_ ⟨(H₁,0,(⟨true,total,best⟩:ChSt),g,(a,n,c')),View.le_refl _,Nat.zero_le _,rfl,⟨rfl,rfl,rfl,rfl⟩,hn,hsrc⟩)
       rintro⟨⟨H₂,i,st,g2,a2,n2,c2'⟩,p1,p2,p3,p4,p5,p6⟩ ih;simp only at p1 p2 p3 p4 p5 p6;show Tc M St _ _ H₂ _ [(0,g.val),(1,.int .i64 sum),(2,.pointer (some ⟨b8,0,none⟩)),(3,.pointer (some ⟨b7,0,none⟩)),(4,.pointer (some ⟨b3,0,none⟩)),(5,.pointer (some ⟨b6,0,none⟩)),(6,.pointer (some ⟨b9,0,none⟩)),(7,.pointer (some ⟨b11,0,none⟩)),(27,.slice cA can.length cc),(28,.int .i64 (can.length:Nat)),(29,.int .i64 (i:Nat))] ([(b8,true,.cells ⟨[.int .i64 st.al]⟩ 29 (0,0)),(b7,true,.cells ⟨[.int .i64 st.total]⟩ 3 (0,0)),(b6,true,.cells ⟨[numV a2 n2 c2']⟩ 33 (0,0))]++g2.bl) _ _;by_cases d1:i=can.length
       · have e:can.foldl (canStep can w d l sum) (⟨true,total,best⟩:ChSt)=st:=by rw[←p3,d1,List.drop_length];rfl
         rw[e] at hK;subst d1;refine .sr ?_;refine .j ?_;refine .done (.seq (.ff rfl (.exit rfl ?_)));refine Tc.overN (E:=en) hK Tryz.func123 Tryz.results123 (vs:= []) (by exact trivial) ?_;exact fun H' hs=> ⟨rfl,H₂,g2,a2,n2,c2',p1,hs,p4,p5,p6⟩
       · have d2:i<can.length:=by omega
         obtain⟨s,hs0⟩:∃s,can[i]? =some s:=⟨_,List.getElem?_eq_getElem d2⟩
         have hsm:=hcn s (List.mem_of_getElem? hs0);have htk:=takenN_le s hsm.1;obtain h0|⟨cb,co,fcb,cgs,cgt,cgz,rfl,hcb,hcl⟩:=hcs
         · omega
         have f1:=hcl i d2;simp only[hs0,Option.getD_some] at f1;have hcb2:=p1 _ _ hcb;rw[foldl_at _ _ _ _ hs0] at p3;have hgv:=Gl.val_of p4;have hnear:=fun(H':View) (bx:Nat) (fx:Bool) (hg2:∀x∈g2.bl,H' x.1=some x.2) (hbx:H' bx=some (fx,.cells ⟨[strV s]⟩ 9 (0,0)))=> ContainsS_c M H' (g.blk.map fun b=> ⟨b,0,none⟩) g.n g.cap (fun j=> l[j]?.getD []) (strs_of g2 hg2 (p4.2.2.2.trans hg) (p4.2.1) p4.1) (by omega) (.func (.func 126) #[] #[.pointer (some ⟨bx,0,none⟩)]) (fun j=> clash1 (l[j]?.getD []) s) (fun j _ H'' h''=> FnT.of (first:= []) (captured:= [_]) ca126 rfl (near_c M H'' s bx fx (h'' _ _ hbx) (l[j]?.getD [])));have hnl:(firstTo (fun j=> clash1 (l[j]?.getD []) s) g.n).isSome=nearL l s:=by unfold nearL;rw[hgn]
         cases hq:nearL l s with
         | true=>
           have e3:canStep can w d l sum st s=st:=by unfold canStep;rw[if_pos hq]
           rw[e3] at p3;rw[hq] at hnl;refine .sr ?_;refine .j ?_;refine .done (.seq (.tt rfl (.skip (.seq (.block (.sr ?_))))));refine .x .ia ?_;refine .x .l0 ?_;refine .e (.al (zz:=fun bx=> ?_));refine .e (.st 0 (zz:=?_));refine .done (.seq (.sr ?_));refine .m ?_;refine .x .mf ?_;refine .c rfl rfl rfl rfl (fun H hs=> .f ca125 rfl (isB (hnear H bx true (fun x hx=> hs.at_ x (List.mem_cons_of_mem _ (List.mem_append_right _ hx))) (hs.get (i:=0) rfl)) hnl)) ?_;refine .done (.tt rfl (.exit rfl (.r ?_)));refine .j ?_;refine .m ?_;refine .done ?_;exact Tc.db (ih ⟨(H₂,i+1,st,g2,(a2,n2,c2')),p1,by simp only;omega,p3,p4,p5,p6⟩ (by simp only;omega))
         | false=>
           have e3:canStep can w d l sum st s=cheapGo can w d (l++[s]) (sum+w l.length*(takenN s:Nat)) st:=by unfold canStep;rw[if_neg (by rw[hq];decide)]
           rw[e3] at p3;rw[hq] at hnl;have hwl:=hw l.length (by omega);have hmul0:0≤w l.length*(takenN s:Nat)∧w l.length*(takenN s:Nat)≤2970:=wmul hwl (by omega);have hcap2:=hcap0.le p1;obtain⟨⟨ff2,hf2⟩,⟨fc2,hc2⟩,⟨fg2,hgw2⟩,_,hws2⟩:=hcap2;obtain h0|⟨wb,wo,fwb,wgs,wgt,wgz,rfl,hwb,hwl2⟩:=hws2
           · omega
           have f2:=hwl2 l.length (by omega);rw[←hgn] at f2;have f3:intBin .mul .i64 (w g.n) (takenN s:Nat)=some (.int .i64 (w l.length*(takenN s:Nat))):=by rw[hgn];exact mul_in (by omega) (by omega)
           have f4:intBin .add .i64 sum (w l.length*(takenN s:Nat))=some (.int .i64 (sum+w l.length*(takenN s:Nat))):=add_in (by omega) (by omega);refine .sr ?_;refine .j ?_;refine .done (.seq (.tt rfl (.skip (.seq (.block (.sr ?_))))));refine .x .ia ?_;refine .x .l0 ?_;refine .e (.al (zz:=fun bx=> ?_));refine .e (.st 0 (zz:=?_));refine .done (.seq (.sr ?_));refine .m ?_;refine .x .mf ?_;refine .c rfl rfl rfl rfl (fun H hs=> .f ca125 rfl (isB (hnear H bx true (fun x hx=> hs.at_ x (List.mem_cons_of_mem _ (List.mem_append_right _ hx))) (hs.get (i:=0) rfl)) hnl)) ?_;refine .done (.ff rfl (.skip ?_));refine Tc.drT [4] [15] [] 4 mixed rfl ?_;refine Ta.tkwC 0 (by kernel_rfl) rfl rfl rfl (by decide) rfl rfl (OpV.take .l0) ?_;refine Ta.tkC 1 (by kernel_rfl) rfl rfl (by decide) rfl rfl (OpV.take .mv) ?_;refine Ta.tkC 2 (by kernel_rfl) rfl rfl (by decide) rfl rfl (OpV.take (.ld 0)) ?_;refine Ta.tkwC 5 (by kernel_rfl) rfl rfl rfl (by decide) rfl rfl (OpV.take .mv) ?_;refine Ta.tkwC 6 (by kernel_rfl) rfl rfl rfl (by decide) rfl rfl (OpV.take .l0) ?_;refine Ta.tkwC 7 (by kernel_rfl) rfl rfl rfl (by decide) rfl rfl (OpV.take .mv) ?_;refine Ta.tkwC 8 (by kernel_rfl) rfl rfl rfl (by decide) rfl rfl (OpV.take .ln) ?_;refine Ta.tkwC 9 (by kernel_rfl) rfl rfl rfl (by decide) rfl rfl (OpV.take .ia) ?_;refine Ta.tkwC 10 (by kernel_rfl) rfl rfl rfl (by decide) rfl rfl (OpV.take .l0) ?_;refine Ta.tkwC 11 (by kernel_rfl) rfl rfl rfl (by decide) rfl rfl (OpV.take (.ld 0)) ?_;refine Ta.each [3] (by kernel_rfl) rfl ⟨TaOp.mk rfl rfl rfl (.bs (zz:=fun bs=> ⟨S3.mk (by apply List.Sublist.cons;exact List.sublist_append_left _ _) (.inr (by apply List.Sublist.cons;exact List.Sublist.refl _)),?_⟩)),trivial⟩;refine Ta.each [4] (by kernel_rfl) rfl ⟨TaOp.mk rfl rfl rfl (Or.appendK (E:=en) (g:=g2) (m:=1) (new:= [strV s]) (yv:=.slice (some ⟨bs,0,none⟩) 1 1) 5 rfl rfl rfl rfl (by rw[hgv];rfl) rfl rfl rfl rfl rfl rfl rfl rfl rfl rfl (fun H hs=> SrcAt.of (hs.get (i:=0) rfl) (Nat.le_of_ble_eq_true rfl)) rfl (by omega) rfl (by decide) (fun g3 hn3 hl3 hb3 hc3=> ⟨S3.mk (by apply List.Sublist.cons;exact List.sublist_append_left _ _) (.inl (by kernel_rfl)),?_⟩) (fun g3 hn3 hl3=> ⟨S3.mk (by apply List.Sublist.cons;exact List.sublist_append_left _ _) (.inl (by kernel_rfl)),?_⟩)),trivial⟩
           · refine Ta.tkwC 12 (by kernel_rfl) rfl rfl rfl (by decide) rfl rfl (OpV.takeCall rfl rfl rfl rfl (fun H hs=> .f ca128 rfl (taken_c M H s hsm.1 (by omega)))) ?_;refine Ta.tkwC 13 (by kernel_rfl) rfl rfl rfl (by decide) rfl rfl (OpV.take (.it (zz:=(by assumption)))) ?_;refine Ta.tkwC 14 (by kernel_rfl) rfl rfl rfl (by decide) rfl rfl (OpV.take (.it (zz:=(by assumption)))) ?_;refine Ta.lift (L₂:= [(bs,true,.cells ⟨[strV s]⟩ 9 (0,0)),(bx,true,.cells ⟨[strV s]⟩ 9 (0,0))]) (L₁:= [(b8,true,.cells ⟨[.int .i64 st.al]⟩ 29 (0,0)),(b7,true,.cells ⟨[.int .i64 st.total]⟩ 3 (0,0)),(b6,true,.cells ⟨[numV a2 n2 c2']⟩ 33 (0,0))]++g3.bl) rfl (fun Hx hx=> ?_);refine Ta.callF 15 (by kernel_rfl) rfl (by kernel_rfl) rfl rfl rfl rfl rfl rfl (by decide) (FnT.of (first:= []) (captured:= [_,_,_,_,_,_]) ca123 rfl (ihd g3 (l++[s]) _ st a2 n2 c2' H₂ Hx (by rw[hl3,p4.2.2.2,hg,strsV_app];rfl) (by rw[List.length_append];show l.length+1+d=nw;omega) (by rw[List.length_append];show _∧_≤3000*((l.length+1:Nat):Int);omega) (hcap0.le p1) p5 p6 hx)) (fun v H₃ hv=> ?_);obtain⟨_,H₄,g4,a4,n4,c4,r1,r2,r3,r4,r5⟩:=hv;refine Ta.expand r2 ?_;unfold stB;refine Ta.done (by kernel_rfl) ?_;refine .inBlock (.r ?_);refine .j ?_;refine .m ?_;refine .done ?_;obtain⟨g5,s1,s2,s3,s4,s5⟩:=Gl.back (g:=g2) (g':=g4) [strV s] (r3.1.trans hb3) (by rw[r3.2.1,hn3];rfl) (by rw[r3.2.2.1,hc3]) (by rw[r3.2.2.2,hl3]);rw[←s5];exact Tc.db (ih ⟨(H₄,i+1,_,g5,(a4,n4,c4)),View.le_trans p1 r1,by simp only;omega,p3,⟨s1.trans p4.1,s2.trans p4.2.1,s3.trans p4.2.2.1,s4.trans p4.2.2.2⟩,r4,r5⟩ (by simp only;omega))
           · refine Ta.permL (L₁:=([(bs,true,.cells ⟨[strV s]⟩ 9 (0,0)),(bx,true,.cells ⟨[strV s]⟩ 9 (0,0))]++g2.bl)++([(b8,true,.cells ⟨[.int .i64 st.al]⟩ 29 (0,0)),(b7,true,.cells ⟨[.int .i64 st.total]⟩ 3 (0,0)),(b6,true,.cells ⟨[numV a2 n2 c2']⟩ 33 (0,0))]++g3.bl)) ?_ ?_
             · simp only[List.cons_append,List.nil_append];refine .cons _ (.cons _ ?_);exact perm3 g2.bl _ _ _ g3.bl
             · refine Ta.tkwC 12 (by kernel_rfl) rfl rfl rfl (by decide) rfl rfl (OpV.takeCall rfl rfl rfl rfl (fun H hs=> .f ca128 rfl (taken_c M H s hsm.1 (by omega)))) ?_;refine Ta.tkwC 13 (by kernel_rfl) rfl rfl rfl (by decide) rfl rfl (OpV.take (.it (zz:=(by assumption)))) ?_;refine Ta.tkwC 14 (by kernel_rfl) rfl rfl rfl (by decide) rfl rfl (OpV.take (.it (zz:=(by assumption)))) ?_;refine Ta.lift (L₂:= [(bs,true,.cells ⟨[strV s]⟩ 9 (0,0)),(bx,true,.cells ⟨[strV s]⟩ 9 (0,0))]++g2.bl) (L₁:= [(b8,true,.cells ⟨[.int .i64 st.al]⟩ 29 (0,0)),(b7,true,.cells ⟨[.int .i64 st.total]⟩ 3 (0,0)),(b6,true,.cells ⟨[numV a2 n2 c2']⟩ 33 (0,0))]++g3.bl) rfl (fun Hx hx=> ?_);refine Ta.callF 15 (by kernel_rfl) rfl (by kernel_rfl) rfl rfl rfl rfl rfl rfl (by decide) (FnT.of (first:= []) (captured:= [_,_,_,_,_,_]) ca123 rfl (ihd g3 (l++[s]) _ st a2 n2 c2' H₂ Hx (by rw[hl3,p4.2.2.2,hg,strsV_app];rfl) (by rw[List.length_append];show l.length+1+d=nw;omega) (by rw[List.length_append];show _∧_≤3000*((l.length+1:Nat):Int);omega) (hcap0.le p1) p5 p6 hx)) (fun v H₃ hv=> ?_);obtain⟨_,H₄,g4,a4,n4,c4,r1,r2,r3,r4,r5⟩:=hv;refine Ta.expand r2 ?_;unfold stB;refine Ta.done (by kernel_rfl) ?_;refine .inBlock (.r ?_);refine .j ?_;refine .m ?_;refine .done ?_;have hfin:=ih ⟨(H₄,i+1,_,g2,(a4,n4,c4)),View.le_trans p1 r1,by simp only;omega,p3,p4,r4,r5⟩ (by simp only;omega);refine Tc.permL (perm4 _ _ g2.bl _ _ _ g4.bl) ?_;exact Tc.db hfin
end
set_option maxHeartbeats 8000000
section
variable(M:Md Tryz.prog)(H:View)
theorem In_c(x lo hi:Int)(t:Bool)(ht:decide (lo≤x∧x≤hi)=t):CallT M 44 #[.int .i64 x,.int .i64 lo,.int .i64 hi] H (fun v H'=> H.le H'∧v=.bool t):=by
 rw[←ht];refine .en Tryz.func44 Tryz.ntmps44 fun St c cs hK=> ?_;by_cases c1:lo≤x
 all_goals by_cases c2:x≤hi
 all_goals
   refine .sr ?_;refine .g ?_;refine .done (.sr ?_);refine .m ?_;refine .m ?_;refine .i ?_ (z:=by first|exact geq_t (by omega)|exact geq_f (by omega));refine .m ?_;first|(refine .sk ?_)|(refine .m ?_)
   first|(refine .sk ?_)|(refine .m ?_)
   first|(refine .sk ?_)|(refine .x (.it (zz:=(by first|exact leq_t (by omega)|exact leq_f (by omega)))) ?_)
   refine .x .pk ?_;refine .g ?_;refine .done ?_;refine .rt hK Tryz.func44 Tryz.results44 [_] ?_;exact fun H' hs=> ⟨hs.base,by simp[packV,c1,c2]⟩
theorem Inside_c(a b lo hi:Int)(t:Bool)(ht:decide (lo≤a∧a≤b∧b≤hi)=t):CallT M 155 #[bandV a b,.int .i64 lo,.int .i64 hi] H (fun v H'=> H.le H'∧v=.bool t):=by
 rw[←ht];refine .en Tryz.func155 Tryz.ntmps155 fun St c cs hK=> ?_;by_cases c1:lo≤a
 all_goals by_cases c2:a≤b
 all_goals by_cases c3:b≤hi
 all_goals
   refine .sr ?_;refine .e (.bx (zz:=fun b1=> ?_));refine .g ?_;refine .done (.sr ?_);refine .x .fa ?_;refine .x (.ld 0) ?_;refine .x .fa ?_;refine .x (.ld 0) ?_;refine .i ?_ (z:=by first|exact leq_t (by omega)|exact leq_f (by omega));refine .m ?_;first|(refine .sk ?_)|(refine .x .fa ?_)
   first|(refine .sk ?_)|((refine .x (.ld 0) ?_))
   first|(refine .sk ?_)|(refine .m ?_)
   first|(refine .sk ?_)|(refine .x (.it (zz:=(by first|exact geq_t (by omega)|exact geq_f (by omega)))) ?_)
   refine .x .pk ?_;refine .m ?_;first|(refine .sk ?_)|(refine .x .fa ?_)
   first|(refine .sk ?_)|((refine .x (.ld 0) ?_))
   first|(refine .sk ?_)|(refine .m ?_)
   first|(refine .sk ?_)|(refine .x (.it (zz:=(by first|exact leq_t (by omega)|exact leq_f (by omega)))) ?_)
   refine .x .pk ?_;refine .g ?_;refine .done ?_;refine .rt hK Tryz.func155 Tryz.results155 [_] ?_;exact fun H' hs=> ⟨hs.base,by simp[packV,c1,c2,c3]⟩
theorem IsClaim_c(x:Int)(t:Bool)(ht:claimOk x=t):CallT M 154 #[.int .i64 x] H (fun v H'=> H.le H'∧v=.bool t):=by
 rw[←ht];unfold claimOk;refine .en Tryz.func154 Tryz.ntmps154 fun St c cs hK=> ?_;by_cases c1:0≤x
 all_goals by_cases c2:x≤2
 all_goals try omega
 all_goals
   refine .sr ?_;refine .g ?_;refine .done (.sr ?_);refine .m ?_;refine .i ?_ (z:=by first|exact geq_t (by omega)|exact geq_f (by omega));refine .m ?_;first|(refine .sk ?_)|(refine .m ?_)
   first|(refine .sk ?_)|(refine .x (.it (zz:=(by first|exact leq_t (by omega)|exact leq_f (by omega)))) ?_)
   refine .x .pk ?_;refine .g ?_;refine .done ?_;refine .rt hK Tryz.func154 Tryz.results154 [_] ?_;exact fun H' hs=> ⟨hs.base,by simp[packV,c1,c2]⟩
theorem smallR_c(x:UInt8)(t:Bool)(ht:low x=t):CallT M 195 #[.int .u8 (x.toNat:Nat)] H (fun v H'=> H.le H'∧v=.bool t):=by
 rw[←ht];unfold low;refine .en Tryz.func195 Tryz.ntmps195 fun St c cs hK=> ?_;by_cases c1:97≤x.toNat
 all_goals by_cases c2:x.toNat≤122
 all_goals try omega
 all_goals
   refine .sr ?_;refine .g ?_;refine .done (.sr ?_);refine .m ?_;refine .i ?_ (z:=by first|exact geq_t (by omega)|exact geq_f (by omega));refine .m ?_;first|(refine .sk ?_)|(refine .m ?_)
   first|(refine .sk ?_)|(refine .x (.it (zz:=(by first|exact leq_t (by omega)|exact leq_f (by omega)))) ?_)
   refine .x .pk ?_;refine .g ?_;refine .done ?_;refine .rt hK Tryz.func195 Tryz.results195 [_] ?_;exact fun H' hs=> ⟨hs.base,by simp[packV,c1,c2]⟩
theorem digitR_c(x:UInt8)(t:Bool)(ht:dig x=t):CallT M 196 #[.int .u8 (x.toNat:Nat)] H (fun v H'=> H.le H'∧v=.bool t):=by
 have e:dig x=decide (48≤x.toNat∧x.toNat≤57):=by unfold dig;exact decide_eq_decide.2 (by omega)
 rw[←ht,e];refine .en Tryz.func196 Tryz.ntmps196 fun St c cs hK=> ?_;by_cases c1:48≤x.toNat
 all_goals by_cases c2:x.toNat≤57
 all_goals try omega
 all_goals
   refine .sr ?_;refine .g ?_;refine .done (.sr ?_);refine .m ?_;refine .i ?_ (z:=by first|exact geq_t (by omega)|exact geq_f (by omega));refine .m ?_;first|(refine .sk ?_)|(refine .m ?_)
   first|(refine .sk ?_)|(refine .x (.it (zz:=(by first|exact leq_t (by omega)|exact leq_f (by omega)))) ?_)
   refine .x .pk ?_;refine .g ?_;refine .done ?_;refine .rt hK Tryz.func196 Tryz.results196 [_] ?_;exact fun H' hs=> ⟨hs.base,by simp[packV,c1,c2]⟩
theorem Begins_c(s p:List UInt8)(t:Bool)(ht:begins s p=t):CallT M 152 #[strV s,strV p] H (fun v H'=> H.le H'∧v=.bool t):=by
 rw[←ht];refine .en Tryz.func152 Tryz.ntmps152 fun St c cs hK=> ?_;by_cases c1:p.length≤s.length
 · have e:begins s p=(s.take p.length==p):=by unfold begins;simp[c1]
   rw[e] at hK;refine .sr ?_;refine .g ?_;refine .done (.sr ?_);refine .m ?_;refine .x (OpV.lenS (E:=en) rfl rfl rfl rfl rfl rfl rfl) ?_;refine .m ?_;refine .x (OpV.lenS (E:=en) rfl rfl rfl rfl rfl rfl rfl) ?_;refine .j ?_;refine .m ?_;refine .m ?_;refine .m ?_;refine .x (OpV.lenS (E:=en) rfl rfl rfl rfl rfl rfl rfl) ?_;refine .x (OpV.sliceS (E:=en) rfl rfl rfl rfl rfl rfl (by omega) (by omega) (by omega)) ?_;refine .m ?_;refine .x (OpV.strB rfl rfl rfl (by exact rfl)) ?_;refine .x .pk ?_;refine .g ?_;refine .done ?_;refine .rt hK Tryz.func152 Tryz.results152 [_] ?_;exact fun H' hs=> ⟨hs.base,by simp[packV]⟩
 · have e:begins s p=false:=by unfold begins;simp[c1]
   rw[e] at hK;refine .sr ?_;refine .g ?_;refine .done (.sr ?_);refine .m ?_;refine .x (OpV.lenS (E:=en) rfl rfl rfl rfl rfl rfl rfl) ?_;refine .m ?_;refine .x (OpV.lenS (E:=en) rfl rfl rfl rfl rfl rfl rfl) ?_;refine .j ?_;refine .m ?_;refine .sk ?_;refine .sk ?_;refine .sk ?_;refine .sk ?_;refine .sk ?_;refine .sk ?_;refine .x .pk ?_;refine .g ?_;refine .done ?_;refine .rt hK Tryz.func152 Tryz.results152 [_] ?_;exact okB
theorem all_not {s:List UInt8}{j:Nat}{x:UInt8}(h:s[j]? =some x)(hx:dig x=false):s.all dig=false:=by
 rw[List.all_eq_false];exact⟨x,List.mem_of_getElem? h,by rw[hx];decide⟩
theorem IsNumberR_c(s:List UInt8)(hl:s.length≤1000000)(t:Bool)(ht:isNum s=t):CallT M 135 #[strV s] H (fun v H'=> H.le H'∧v=.bool t):=by
 rw[←ht];clear ht;refine .en Tryz.func135 Tryz.ntmps135 fun St c cs hK=> ?_;refine .sr ?_;refine .g ?_;refine .done (.seq (.sr ?_));refine .g ?_;refine .done (.block ?_);refine Tc.db (Tc.loopInv (σ:= { j:Nat//j≤s.length∧∀i x,i<j→s[i]? =some x→dig x=true }) (fun j=> ([(0,strV s),(3,.int .i64 (j.1:Nat))],[])) (fun j=> s.length-j.1) ?_ ⟨0,Nat.zero_le _,fun i x hi=> by omega⟩);rintro⟨j,hj,hall⟩ ih;show Tc M St _ _ _ _ [(0,strV s),(3,.int .i64 (j:Nat))] [] _ _;by_cases c1:j=s.length
 · have e:s.all dig=true:=List.all_eq_true.2 fun x hx=> by
     obtain⟨i,hi,rfl⟩:=List.mem_iff_getElem.1 hx;exact hall i _ (by omega) (List.getElem?_eq_getElem hi)
   have e2:isNum s=decide (1≤((s.length:Nat):Int)∧((s.length:Nat):Int)≤3):=by
     unfold isNum;rw[e,Bool.and_true];exact decide_eq_decide.2 (by omega)
   rw[e2] at hK;subst c1;refine .seq (.sr ?_);refine .m ?_;refine .m ?_;refine .x (OpV.lenS (E:=en) rfl rfl rfl rfl rfl rfl rfl) ?_;refine .j ?_;refine .done (.ff rfl (.exit rfl (.sr ?_)));refine .m ?_;refine .x (OpV.lenS (E:=en) rfl rfl rfl rfl rfl rfl rfl) ?_;refine .c rfl rfl rfl rfl (fun H hs=> .f ca44 rfl (In_c M H (s.length:Nat) 1 3 _ rfl)) ?_;refine .g ?_;refine .done ?_;refine .rt hK Tryz.func135 Tryz.results135 [_] ?_;exact okB
 · have c2:j<s.length:=by omega
   obtain⟨x,hx⟩:∃x,s[j]? =some x:=⟨_,List.getElem?_eq_getElem c2⟩
   have f1:s[((j:Nat):Int).toNat]? =some x:=by rw[Int.toNat_natCast];exact hx
   cases hd:dig x with
   | true=>
     have:=of_decide_eq_true hd;refine .seq (.sr ?_);refine .m ?_;refine .m ?_;refine .x (OpV.lenS (E:=en) rfl rfl rfl rfl rfl rfl rfl) ?_;refine .j ?_;refine .done (.tt rfl (.skip (.seq (.block (.sr ?_)))));refine .m ?_;refine .m ?_;refine .x (OpV.indexS (E:=en) rfl rfl rfl rfl rfl (by omega) (by assumption)) ?_;refine .j ?_;refine .m ?_;refine .m ?_;refine .m ?_;refine .x (OpV.indexS (E:=en) rfl rfl rfl rfl rfl (by omega) (by assumption)) ?_;refine .j ?_;refine .x .pk ?_;refine .done (.ff rfl (.skip (.inBlock (.r ?_))));refine .m ?_;refine .j ?_;refine .g ?_;refine .done ?_;exact Tc.db (ih ⟨j+1,by omega,fun i y hi hy=> by
       by_cases e:i=j
       · subst e;rw[hx] at hy;cases hy;exact hd
       · exact hall i y (by omega) hy⟩ (by simp only;omega))
   | false=>
     have e:isNum s=false:=by unfold isNum;rw[all_not hx hd];simp
     have hnd:=of_decide_eq_false hd;rw[e] at hK;by_cases c3:x.toNat<48
     · refine .seq (.sr ?_);refine .m ?_;refine .m ?_;refine .x (OpV.lenS (E:=en) rfl rfl rfl rfl rfl rfl rfl) ?_;refine .j ?_;refine .done (.tt rfl (.skip (.seq (.block (.sr ?_)))));refine .m ?_;refine .m ?_;refine .x (OpV.indexS (E:=en) rfl rfl rfl rfl rfl (by omega) (by assumption)) ?_;refine .j ?_;refine .m ?_;refine .sk ?_;refine .sk ?_;refine .sk ?_;refine .sk ?_;refine .x .pk ?_;refine .done (.tt rfl (.sr ?_));refine .g ?_;refine .done ?_;refine .rt hK Tryz.func135 Tryz.results135 [_] ?_;exact okB
     · have c4:57<x.toNat:=by omega
       refine .seq (.sr ?_);refine .m ?_;refine .m ?_;refine .x (OpV.lenS (E:=en) rfl rfl rfl rfl rfl rfl rfl) ?_;refine .j ?_;refine .done (.tt rfl (.skip (.seq (.block (.sr ?_)))));refine .m ?_;refine .m ?_;refine .x (OpV.indexS (E:=en) rfl rfl rfl rfl rfl (by omega) (by assumption)) ?_;refine .j ?_;refine .m ?_;refine .m ?_;refine .m ?_;refine .x (OpV.indexS (E:=en) rfl rfl rfl rfl rfl (by omega) (by assumption)) ?_;refine .j ?_;refine .x .pk ?_;refine .done (.tt rfl (.sr ?_));refine .g ?_;refine .done ?_;refine .rt hK Tryz.func135 Tryz.results135 [_] ?_;exact okB
theorem IsNameR_c(s:List UInt8)(hl:s.length≤1000000)(t:Bool)(ht:isNm s=t):CallT M 153 #[strV s] H (fun v H'=> H.le H'∧v=.bool t):=by
 rw[←ht];clear ht;refine .en Tryz.func153 Tryz.ntmps153 fun St c cs hK=> ?_;refine .sr ?_;refine .g ?_;refine .done (.seq (.sr ?_));refine .g ?_;refine .done (.block ?_);refine Tc.db (Tc.loopInv (σ:= { j:Nat//j≤s.length∧∀i,i<j→nmAt s i=true }) (fun j=> ([(0,strV s),(3,.int .i64 (j.1:Nat))],[])) (fun j=> s.length-j.1) ?_ ⟨0,Nat.zero_le _,fun i hi=> by omega⟩);rintro⟨j,hj,hall⟩ ih;show Tc M St _ _ _ _ [(0,strV s),(3,.int .i64 (j:Nat))] [] _ _;by_cases c1:j=s.length
 · have e:allB (nmAt s) s.length=true:=(allB_iff _).2 (by rw[←c1];exact hall);have e2:isNm s=decide (1≤((s.length:Nat):Int)∧((s.length:Nat):Int)≤9):=by
     unfold isNm;rw[e,Bool.and_true];exact decide_eq_decide.2 (by omega)
   rw[e2] at hK;subst c1;refine .seq (.sr ?_);refine .m ?_;refine .m ?_;refine .x (OpV.lenS (E:=en) rfl rfl rfl rfl rfl rfl rfl) ?_;refine .j ?_;refine .done (.ff rfl (.exit rfl (.sr ?_)));refine .m ?_;refine .x (OpV.lenS (E:=en) rfl rfl rfl rfl rfl rfl rfl) ?_;refine .c rfl rfl rfl rfl (fun H hs=> .f ca44 rfl (In_c M H (s.length:Nat) 1 9 _ rfl)) ?_;refine .g ?_;refine .done ?_;refine .rt hK Tryz.func153 Tryz.results153 [_] ?_;exact okB
 · have c2:j<s.length:=by omega
   obtain⟨x,hx⟩:∃x,s[j]? =some x:=⟨_,List.getElem?_eq_getElem c2⟩
   have f1:s[((j:Nat):Int).toNat]? =some x:=by rw[Int.toNat_natCast];exact hx
   cases hlw:low x with
   | true=>
     have hn:nmAt s j=true:=by unfold nmAt;rw[hx];simp[hlw]
     refine .seq (.sr ?_);refine .m ?_;refine .m ?_;refine .x (OpV.lenS (E:=en) rfl rfl rfl rfl rfl rfl rfl) ?_;refine .j ?_;refine .done (.tt rfl (.skip (.seq (.block (.sr ?_)))));refine .m ?_;refine .m ?_;refine .x (OpV.indexS (E:=en) rfl rfl rfl rfl rfl (by omega) (by assumption)) ?_;refine .c rfl rfl rfl rfl (fun H hs=> .f ca195 rfl (smallR_c M H x true hlw)) ?_;refine .x .nt ?_;refine .m ?_;refine .sk ?_;refine .sk ?_;refine .sk ?_;refine To.skippedU rfl (by decide) rfl ?_;refine To.skippedU rfl (by decide) rfl ?_;refine To.skippedU rfl (by decide) rfl ?_;refine To.skippedU rfl (by decide) rfl ?_;refine To.skippedU rfl (by decide) rfl ?_;refine .sk ?_;refine .x .pk ?_;refine .done (.ff rfl (.skip (.inBlock (.r ?_))));refine .m ?_;refine .j ?_;refine .g ?_;refine .done ?_;exact Tc.db (ih ⟨j+1,by omega,fun i hi=> by by_cases e:i=j;exact e▸hn;exact hall i (by omega)⟩ (by simp only;omega))
   | false=>
     by_cases c3:j=0
     · subst c3;have e:isNm s=false:=by unfold isNm;rw[allB_not c2 (by unfold nmAt;rw[hx];simp[hlw])];simp
       rw[e] at hK;refine .seq (.sr ?_);refine .m ?_;refine .m ?_;refine .x (OpV.lenS (E:=en) rfl rfl rfl rfl rfl rfl rfl) ?_;refine .j ?_;refine .done (.tt rfl (.skip (.seq (.block (.sr ?_)))));refine .m ?_;refine .m ?_;refine .x (OpV.indexS (E:=en) rfl rfl rfl rfl rfl (by omega) (by assumption)) ?_;refine .c rfl rfl rfl rfl (fun H hs=> .f ca195 rfl (smallR_c M H x false hlw)) ?_;refine .x .nt ?_;refine .m ?_;refine .m ?_;refine .j ?_;refine .m ?_;refine .sk ?_;refine .sk ?_;refine .sk ?_;refine .sk ?_;refine .sk ?_;refine .x .pk ?_;refine .x .pk ?_;refine .done (.tt rfl (.sr ?_));refine .g ?_;refine .done ?_;refine .rt hK Tryz.func153 Tryz.results153 [_] ?_;exact okB
     · have c4:(j:Int)≠0:=by omega
       cases hd:dig x with
       | true=>
         have hn:nmAt s j=true:=by unfold nmAt;rw[hx];simp[hd];omega
         refine .seq (.sr ?_);refine .m ?_;refine .m ?_;refine .x (OpV.lenS (E:=en) rfl rfl rfl rfl rfl rfl rfl) ?_;refine .j ?_;refine .done (.tt rfl (.skip (.seq (.block (.sr ?_)))));refine .m ?_;refine .m ?_;refine .x (OpV.indexS (E:=en) rfl rfl rfl rfl rfl (by omega) (by assumption)) ?_;refine .c rfl rfl rfl rfl (fun H hs=> .f ca195 rfl (smallR_c M H x false hlw)) ?_;refine .x .nt ?_;refine .m ?_;refine .m ?_;refine .j ?_;refine .m ?_;refine .m ?_;refine .m ?_;refine .x (OpV.indexS (E:=en) rfl rfl rfl rfl rfl (by omega) (by assumption)) ?_;refine .c rfl rfl rfl rfl (fun H hs=> .f ca196 rfl (digitR_c M H x true hd)) ?_;refine .x .nt ?_;refine .x .pk ?_;refine .x .pk ?_;refine .done (.ff rfl (.skip (.inBlock (.r ?_))));refine .m ?_;refine .j ?_;refine .g ?_;refine .done ?_;exact Tc.db (ih ⟨j+1,by omega,fun i hi=> by by_cases e:i=j;exact e▸hn;exact hall i (by omega)⟩ (by simp only;omega))
       | false=>
         have e:isNm s=false:=by unfold isNm;rw[allB_not c2 (by unfold nmAt;rw[hx];simp[hlw,hd])];simp
         rw[e] at hK;refine .seq (.sr ?_);refine .m ?_;refine .m ?_;refine .x (OpV.lenS (E:=en) rfl rfl rfl rfl rfl rfl rfl) ?_;refine .j ?_;refine .done (.tt rfl (.skip (.seq (.block (.sr ?_)))));refine .m ?_;refine .m ?_;refine .x (OpV.indexS (E:=en) rfl rfl rfl rfl rfl (by omega) (by assumption)) ?_;refine .c rfl rfl rfl rfl (fun H hs=> .f ca195 rfl (smallR_c M H x false hlw)) ?_;refine .x .nt ?_;refine .m ?_;refine .m ?_;refine .j ?_;refine .m ?_;refine .m ?_;refine .m ?_;refine .x (OpV.indexS (E:=en) rfl rfl rfl rfl rfl (by omega) (by assumption)) ?_;refine .c rfl rfl rfl rfl (fun H hs=> .f ca196 rfl (digitR_c M H x false hd)) ?_;refine .x .nt ?_;refine .x .pk ?_;refine .x .pk ?_;refine .done (.tt rfl (.sr ?_));refine .g ?_;refine .done ?_;refine .rt hK Tryz.func153 Tryz.results153 [_] ?_;exact okB
theorem IndexOf_c(A:Option Addr)(n ac:Nat)(x:Nat→List UInt8)(hA:StrsAt H A n x)(hn:n≤100000000)(s:List UInt8):CallT M 42 #[.slice A n ac,strV s] H (fun v H'=> H.le H'∧v=.int .i64 (firstI (firstTo (fun j=> x j==s) n))):=by
 refine .en Tryz.func42 Tryz.ntmps42 fun St c cs hK=> ?_;refine .sr ?_;refine .g ?_;refine .done (.seq (.sr ?_));refine .g ?_;refine .done (.block ?_);refine Tc.db (Tc.loopInv (σ:= { j:Nat//j≤n∧firstTo (fun j=> x j==s) j=none }) (fun j=> ([(0,.slice A n ac),(1,strV s),(5,.int .i64 (j.1:Nat))],[])) (fun j=> n-j.1) ?_ ⟨0,Nat.zero_le _,rfl⟩);rintro⟨j,hj,hno⟩ ih;show Tc M St _ _ _ _ [(0,.slice A n ac),(1,strV s),(5,.int .i64 (j:Nat))] [] _ _;by_cases c1:j=n
 · subst c1;rw[hno] at hK;refine .seq (.sr ?_);refine .m ?_;refine .m ?_;refine .x .ln ?_;refine .j ?_;refine .done (.ff rfl (.exit rfl (.sr ?_)));refine .g ?_;refine .done ?_;refine .rt hK Tryz.func42 Tryz.results42 [_] ?_;exact okB
 · have c2:j<n:=by omega
   obtain h0|⟨ab,ao,f,gs,gt,gz,rfl,hb,hl⟩:=hA
   · omega
   have f1:=hl j c2;cases hpp:x j==s with
   | true=>
     have f3:RL.strB .eql (x j) s=some (.bool true):=by rw[←hpp];rfl
     have e:firstTo (fun j=> x j==s) n=some j:=firstTo_stays (j:=j+1) (by simp[firstTo,hno,hpp]) _ (by omega);rw[e] at hK;refine .seq (.sr ?_);refine .m ?_;refine .m ?_;refine .x .ln ?_;refine .j ?_;refine .done (.tt rfl (.skip (.seq (.block (.sr ?_)))));refine .m ?_;refine .m ?_;refine .x .ia ?_;refine .x .l0 ?_;refine .m ?_;refine .x (OpV.strB rfl rfl rfl (by assumption)) ?_;refine .done (.tt rfl (.sr ?_));refine .m ?_;refine .g ?_;refine .done ?_;refine .rt hK Tryz.func42 Tryz.results42 [_] ?_;exact okB
   | false=>
     have f3:RL.strB .eql (x j) s=some (.bool false):=by rw[←hpp];rfl
     refine .seq (.sr ?_);refine .m ?_;refine .m ?_;refine .x .ln ?_;refine .j ?_;refine .done (.tt rfl (.skip (.seq (.block (.sr ?_)))));refine .m ?_;refine .m ?_;refine .x .ia ?_;refine .x .l0 ?_;refine .m ?_;refine .x (OpV.strB rfl rfl rfl (by assumption)) ?_;refine .done (.ff rfl (.skip (.inBlock (.r ?_))));refine .m ?_;refine .j ?_;refine .g ?_;refine .done ?_;exact Tc.db (ih ⟨j+1,by omega,by simp[firstTo,hno,hpp]⟩ (by simp only;omega))
theorem clashesR_c(k:Bk)(A:Option Addr)(lc:Nat)(hA:RowsAt H k A lc)(hn:k.nl≤1000)(s:List UInt8)(t:Bool)(ht:k.clash s=t):
   CallT M 136 #[.slice A k.nl lc,strV s] H (fun v H'=> H.le H'∧v=.bool t):=by
 rw[←ht];clear ht;refine .en Tryz.func136 Tryz.ntmps136 fun St c cs hK=> ?_;refine .sr ?_;refine .g ?_;refine .done (.seq (.sr ?_));refine .g ?_;refine .done (.block ?_);refine Tc.db (Tc.loopInv (σ:= { j:Nat//j≤k.nl∧firstTo (fun i=> clash1 (k.num i) s) j=none }) (fun j=> ([(0,.slice A k.nl lc),(1,strV s),(5,.int .i64 (j.1:Nat))],[])) (fun j=> k.nl-j.1) ?_ ⟨0,Nat.zero_le _,rfl⟩);rintro⟨j,hj,hno⟩ ih;show Tc M St _ _ _ _ [(0,.slice A k.nl lc),(1,strV s),(5,.int .i64 (j:Nat))] [] _ _;by_cases c1:j=k.nl
 · have e:k.clash s=false:=by unfold Bk.clash;rw[←c1,hno];rfl
   subst c1;rw[e] at hK;refine .seq (.sr ?_);refine .m ?_;refine .m ?_;refine .x .ln ?_;refine .j ?_;refine .done (.ff rfl (.exit rfl (.sr ?_)));refine .g ?_;refine .done ?_;refine .rt hK Tryz.func136 Tryz.results136 [_] ?_;exact okB
 · have c2:j<k.nl:=by omega
   obtain⟨_,h0|⟨ab,ao,f,gs,gt,gz,rfl,hb,hl⟩⟩:=hA
   · omega
   obtain⟨F,fc,f1,_,_⟩:=hl j c2;have f2:ldL false 1 gs (ao+((j:Nat):Int).toNat*3+1)=some (strV (k.num j)):=ldL_cell f1 (by decide);cases hpp:clash1 (k.num j) s with
   | true=>
     have e:k.clash s=true:=by
       unfold Bk.clash;rw[firstTo_stays (j:=j+1) (x:=j) (by simp[firstTo,hno,hpp]) _ (by omega)];rfl
     rw[e] at hK;cases hb1:begins s (k.num j) with
     | true=>
       refine .seq (.sr ?_);refine .m ?_;refine .m ?_;refine .x .ln ?_;refine .j ?_;refine .done (.tt rfl (.skip (.seq (.block (.sr ?_)))));refine .m ?_;refine .m ?_;refine .m ?_;refine .x .ia ?_;refine .x .fa ?_;refine .x .l0 ?_;refine .c rfl rfl rfl rfl (fun H hs=> .f ca152 rfl (Begins_c M H s (k.num j) true hb1)) ?_;refine .m ?_;refine .sk ?_;refine .sk ?_;refine .sk ?_;refine .sk ?_;refine .sk ?_;refine .sk ?_;refine .sk ?_;refine .x .pk ?_;refine .done (.tt rfl (.sr ?_));refine .g ?_;refine .done ?_;refine .rt hK Tryz.func136 Tryz.results136 [_] ?_;exact okB
     | false=>
       have hb2:begins (k.num j) s=true:=by unfold clash1 at hpp;rw[hb1,Bool.or_false] at hpp;exact hpp
       refine .seq (.sr ?_);refine .m ?_;refine .m ?_;refine .x .ln ?_;refine .j ?_;refine .done (.tt rfl (.skip (.seq (.block (.sr ?_)))));refine .m ?_;refine .m ?_;refine .m ?_;refine .x .ia ?_;refine .x .fa ?_;refine .x .l0 ?_;refine .c rfl rfl rfl rfl (fun H hs=> .f ca152 rfl (Begins_c M H s (k.num j) false hb1)) ?_;refine .m ?_;refine .m ?_;refine .m ?_;refine .x .ia ?_;refine .x .fa ?_;refine .x .l0 ?_;refine .m ?_;refine .c rfl rfl rfl rfl (fun H hs=> .f ca152 rfl (Begins_c M H (k.num j) s true hb2)) ?_;refine .x .pk ?_;refine .done (.tt rfl (.sr ?_));refine .g ?_;refine .done ?_;refine .rt hK Tryz.func136 Tryz.results136 [_] ?_;exact okB
   | false=>
     have hb12:begins s (k.num j)=false∧begins (k.num j) s=false:=by unfold clash1 at hpp;rw[Bool.or_eq_false_iff] at hpp;exact⟨hpp.2,hpp.1⟩
     refine .seq (.sr ?_);refine .m ?_;refine .m ?_;refine .x .ln ?_;refine .j ?_;refine .done (.tt rfl (.skip (.seq (.block (.sr ?_)))));refine .m ?_;refine .m ?_;refine .m ?_;refine .x .ia ?_;refine .x .fa ?_;refine .x .l0 ?_;refine .c rfl rfl rfl rfl (fun H hs=> .f ca152 rfl (Begins_c M H s (k.num j) false hb12.1)) ?_;refine .m ?_;refine .m ?_;refine .m ?_;refine .x .ia ?_;refine .x .fa ?_;refine .x .l0 ?_;refine .m ?_;refine .c rfl rfl rfl rfl (fun H hs=> .f ca152 rfl (Begins_c M H (k.num j) s false hb12.2)) ?_;refine .x .pk ?_;refine .done (.ff rfl (.skip (.inBlock (.r ?_))));refine .m ?_;refine .j ?_;refine .g ?_;refine .done ?_;exact Tc.db (ih ⟨j+1,by omega,by simp[firstTo,hno,hpp]⟩ (by simp only;omega))
theorem checkTrain_c(a b p q:Int)(z:Int)(hz:(if trainOk a b p q then 0 else 1:Int)=z):CallT M 89 #[trainV a b p q] H (fun v H'=> H.le H'∧v=.int .i64 z):=by
 rw[←hz];clear hz;by_cases c1:1≤a∧a≤b∧b≤12
 · by_cases c2:b-a<4
   · by_cases c3:0≤p∧p≤q∧q≤99
     · have e:trainOk a b p q=true:=by unfold trainOk;simp[c1,c2,c3]
       rw[e];refine .en Tryz.func89 Tryz.ntmps89 fun St c cs hK=> ?_;refine .sr ?_;refine .e (.bx (zz:=fun b1=> ?_));refine .g ?_;refine .done (.seq (.sr ?_));refine .x .fa ?_;refine .x (.ld 0) ?_;refine .c rfl rfl rfl rfl (fun H hs=> .f ca155 rfl (Inside_c M H a b 1 12 true (decide_eq_true c1))) ?_;refine .x .nt ?_;refine .m ?_;refine .x .fa ?_;refine .x .fa ?_;refine .x (.ld 0) ?_;refine .x .fa ?_;refine .x .fa ?_;refine .x (.ld 0) ?_;refine .j ?_;refine .j ?_;refine .x .pk ?_;refine .m ?_;refine .x .fa ?_;refine .x (.ld 0) ?_;refine .c rfl rfl rfl rfl (fun H hs=> .f ca155 rfl (Inside_c M H p q 0 99 true (decide_eq_true c3))) ?_;refine .x .nt ?_;refine .x .pk ?_;refine .done (.ff rfl (.skip (.sr ?_)));refine .g ?_;refine .done ?_;refine .rt hK Tryz.func89 Tryz.results89 [_] ?_;exact okB
     · have e:trainOk a b p q=false:=by unfold trainOk;simp[c3]
       rw[e];refine .en Tryz.func89 Tryz.ntmps89 fun St c cs hK=> ?_;refine .sr ?_;refine .e (.bx (zz:=fun b1=> ?_));refine .g ?_;refine .done (.seq (.sr ?_));refine .x .fa ?_;refine .x (.ld 0) ?_;refine .c rfl rfl rfl rfl (fun H hs=> .f ca155 rfl (Inside_c M H a b 1 12 true (decide_eq_true c1))) ?_;refine .x .nt ?_;refine .m ?_;refine .x .fa ?_;refine .x .fa ?_;refine .x (.ld 0) ?_;refine .x .fa ?_;refine .x .fa ?_;refine .x (.ld 0) ?_;refine .j ?_;refine .j ?_;refine .x .pk ?_;refine .m ?_;refine .x .fa ?_;refine .x (.ld 0) ?_;refine .c rfl rfl rfl rfl (fun H hs=> .f ca155 rfl (Inside_c M H p q 0 99 false (decide_eq_false c3))) ?_;refine .x .nt ?_;refine .x .pk ?_;refine .done (.tt rfl (.sr ?_));refine .g ?_;refine .done ?_;refine .rt hK Tryz.func89 Tryz.results89 [_] ?_;exact okB
   · have e:trainOk a b p q=false:=by unfold trainOk;simp[c2]
     rw[e];refine .en Tryz.func89 Tryz.ntmps89 fun St c cs hK=> ?_;refine .sr ?_;refine .e (.bx (zz:=fun b1=> ?_));refine .g ?_;refine .done (.seq (.sr ?_));refine .x .fa ?_;refine .x (.ld 0) ?_;refine .c rfl rfl rfl rfl (fun H hs=> .f ca155 rfl (Inside_c M H a b 1 12 true (decide_eq_true c1))) ?_;refine .x .nt ?_;refine .m ?_;refine .x .fa ?_;refine .x .fa ?_;refine .x (.ld 0) ?_;refine .x .fa ?_;refine .x .fa ?_;refine .x (.ld 0) ?_;refine .j ?_;refine .j ?_;refine .x .pk ?_;refine .m ?_;refine .sk ?_;refine .sk ?_;refine .sk ?_;refine .sk ?_;refine .x .pk ?_;refine .done (.tt rfl (.sr ?_));refine .g ?_;refine .done ?_;refine .rt hK Tryz.func89 Tryz.results89 [_] ?_;exact okB
 · have e:trainOk a b p q=false:=by unfold trainOk;simp[c1]
   rw[e];refine .en Tryz.func89 Tryz.ntmps89 fun St c cs hK=> ?_;refine .sr ?_;refine .e (.bx (zz:=fun b1=> ?_));refine .g ?_;refine .done (.seq (.sr ?_));refine .x .fa ?_;refine .x (.ld 0) ?_;refine .c rfl rfl rfl rfl (fun H hs=> .f ca155 rfl (Inside_c M H a b 1 12 false (decide_eq_false c1))) ?_;refine .x .nt ?_;refine .m ?_;refine .sk ?_;refine .sk ?_;refine .sk ?_;refine .sk ?_;refine .sk ?_;refine .sk ?_;refine .sk ?_;refine .sk ?_;refine .x .pk ?_;refine .m ?_;refine .sk ?_;refine .sk ?_;refine .sk ?_;refine .sk ?_;refine .x .pk ?_;refine .done (.tt rfl (.sr ?_));refine .g ?_;refine .done ?_;refine .rt hK Tryz.func89 Tryz.results89 [_] ?_;exact okB
end
def Bk.namesTo(k:Bk)(j:Nat):List (List UInt8):=(List.range j).map k.name
theorem namesTo_snoc(k:Bk)(j:Nat):k.namesTo (j+1)=k.namesTo j++[k.name j]:=by unfold Bk.namesTo;rw[List.range_succ,List.map_append];rfl
theorem namesTo_len(k:Bk)(j:Nat):(k.namesTo j).length=j:=by unfold Bk.namesTo;simp
theorem firstTo_cong {p q:Nat→Bool}:∀n,(∀i,i<n→p i=q i)→firstTo p n=firstTo q n
 | 0,_=> rfl
 | n+1,h=> by rw[firstTo,firstTo,firstTo_cong n (fun i hi=> h i (by omega)),h n (by omega)]
theorem names_first(k:Bk)(j n:Nat)(hn:n=j)(s:List UInt8):firstTo (fun i=> (k.namesTo j)[i]?.getD []==s) n=firstTo (fun i=> k.name i==s) j:=by
 subst hn;refine firstTo_cong _ fun i hi=> ?_;unfold Bk.namesTo;rw[List.getElem?_map,List.getElem?_eq_getElem (by simpa using hi)];simp
section
variable(M:Md Tryz.prog)(H:View)
theorem checkLines_c(k:Bk)(A:Option Addr)(lc:Nat)(hA:RowsAt H k A lc)(hn:k.nl≤1000)(hs0:∀i,i<k.nl→(k.name i).length≤1000000∧(k.num i).length≤1000000∧k.nf i≤1000):
   CallT M 88 #[.slice A k.nl lc] H (fun v H'=> H.le H'∧v=.int .i64 k.linesA):=by
 by_cases c1:6<k.nl
 · have e:k.linesA=2:=if_pos c1;rw[e];refine .en Tryz.func88 Tryz.ntmps88 fun St c cs hK=> ?_;refine .sr ?_;refine .g ?_;refine .done (.seq (.sr ?_));refine .m ?_;refine .x .ln ?_;refine .j ?_;refine .done (.tt rfl (.sr ?_));refine .g ?_;refine .done ?_;refine .rt hK Tryz.func88 Tryz.results88 [_] ?_;exact okB
 · have e:k.linesA=firstA k.lineA k.nl:=if_neg c1;rw[e];clear e;refine .en Tryz.func88 Tryz.ntmps88 fun St c cs hK=> ?_;refine .sr ?_;refine .g ?_;refine .done (.seq (.sr ?_));refine .m ?_;refine .x .ln ?_;refine .j ?_;refine .done (.ff rfl (.skip (.sr ?_)));refine .g ?_;refine .done (.seq (.sr ?_));refine .g ?_;refine .done (.block ?_);refine Tc.db (Tc.loopInv (σ:= { x:Nat×Gl 9 1//x.1≤k.nl∧firstA k.lineA x.1=0∧x.2.l=strsV (k.namesTo x.1) }) (fun x=> ([(0,.slice A k.nl lc),(3,x.1.2.val),(4,.int .i64 (x.1.1:Nat))],x.1.2.bl)) (fun x=> k.nl-x.1.1) ?_ ⟨(0,Gl.nil 9 1),Nat.zero_le _,rfl,rfl⟩);rintro⟨⟨j,g⟩,hj,hno,hgl⟩ ih;simp only at hj hno hgl;show Tc M St _ _ _ _ [(0,.slice A k.nl lc),(3,g.val),(4,.int .i64 (j:Nat))] g.bl _ _;have hgn:g.n=j:=by
     have:=g.hl;rw[hgl,strsV_len,namesTo_len] at this;omega
   by_cases c2:j=k.nl
   · subst c2;rw[hno] at hK;refine .seq (.sr ?_);refine .m ?_;refine .m ?_;refine .x .ln ?_;refine .j ?_;refine .done (.ff rfl (.exit rfl (.sr ?_)));refine .g ?_;refine .done ?_;refine .rt hK Tryz.func88 Tryz.results88 [_] ?_;exact okB
   · have c3 : j < k.nl:=by omega
     have hA':=hA;obtain⟨hlc,h0|⟨ab,ao,f,gs,gt,gz,rfl,hb,hl⟩⟩:=hA
     · omega
     obtain⟨F,fc,f1,_,hF⟩:=hl j c3;obtain⟨s0,s1,s2⟩:=hs0 j c3;have f20:ldL false 1 gs (ao+((j:Nat):Int).toNat*3+0)=some (strV (k.name j)):=ldL_cell f1 (by decide);have f21:ldL false 1 gs (ao+((j:Nat):Int).toNat*3+1)=some (strV (k.num j)):=ldL_cell f1 (by decide);have f22:ldL false 1 gs (ao+((j:Nat):Int).toNat*3+2)=some (.slice F (k.nf j) fc):=ldL_cell f1 (by decide);have hA2:RowsAt H (k.pre j) (some ⟨ab,ao,none⟩) lc:=hA'.pre hj;have hix:=fun(H':View) (hg:∀x∈g.bl,H' x.1=some x.2)=> IndexOf_c M H' (g.blk.map fun b=> ⟨b,0,none⟩) g.n g.cap (fun i=> (k.namesTo j)[i]?.getD []) (strs_of g hg hgl rfl rfl) (by omega) (k.name j);rw[names_first k j g.n hgn] at hix;cases q0:isNm (k.name j) with
     | false=>
       have eA:k.lineA j=4:=by unfold Bk.lineA;simp only[q0];simp
       rw[firstA_at hno eA (by decide) c3] at hK;refine .seq (.sr ?_);refine .m ?_;refine .m ?_;refine .x .ln ?_;refine .j ?_;refine .done (.tt rfl (.skip (.seq (.block (.seq (.sr ?_))))));refine .m ?_;refine .m ?_;refine .x .ia ?_;refine .x .fa ?_;refine .x .l0 ?_;refine .c rfl rfl rfl rfl (fun H hs=> .f ca153 rfl (IsNameR_c M H (k.name j) s0 _ q0)) ?_;refine .x .nt ?_;refine .done (.tt rfl (.sr ?_));refine .g ?_;refine .done ?_;refine .rt hK Tryz.func88 Tryz.results88 [_] ?_;exact okB
     | true=>
       cases q1:k.again j with
       | true=>
         obtain⟨i0,hi0⟩:∃i,firstTo (fun i=> k.name i==k.name j) j=some i:=Option.isSome_iff_exists.1 q1;rw[hi0] at hix;have hix:=fun(H':View) (hg:∀x∈g.bl,H' x.1=some x.2)=> isV (w':=.int .i64 (i0:Nat)) (hix H' hg) rfl;have eA:k.lineA j=5:=by unfold Bk.lineA;simp only[q0,q1];simp
         rw[firstA_at hno eA (by decide) c3] at hK;refine .seq (.sr ?_);refine .m ?_;refine .m ?_;refine .x .ln ?_;refine .j ?_;refine .done (.tt rfl (.skip (.seq (.block (.seq (.sr ?_))))));refine .m ?_;refine .m ?_;refine .x .ia ?_;refine .x .fa ?_;refine .x .l0 ?_;refine .c rfl rfl rfl rfl (fun H hs=> .f ca153 rfl (IsNameR_c M H (k.name j) s0 _ q0)) ?_;refine .x .nt ?_;refine .done (.ff rfl (.skip (.seq (.sr ?_))));refine .m ?_;refine .m ?_;refine .m ?_;refine .x .ia ?_;refine .x .fa ?_;refine .x .l0 ?_;refine .c rfl rfl rfl rfl (fun H hs=> .f ca42 rfl (hix H (fun x hx=> hs.at_ x hx))) ?_;refine .j ?_;refine .done (.tt rfl (.sr ?_));refine .g ?_;refine .done ?_;refine .rt hK Tryz.func88 Tryz.results88 [_] ?_;exact okB
       | false =>
         have hi0:firstTo (fun i=> k.name i==k.name j) j=none:=Option.isNone_iff_eq_none.1 (by have:=q1;unfold Bk.again at this;rw[←Option.not_isSome,this];rfl);rw[hi0] at hix;have hix:=fun(H':View) (hg:∀x∈g.bl,H' x.1=some x.2)=> isV (w':=.int .i64 (-1)) (hix H' hg) rfl;cases q2:isNum (k.num j) with
         | false=>
           have eA:k.lineA j=3:=by unfold Bk.lineA;simp only[q0,q1,q2];simp
           rw[firstA_at hno eA (by decide) c3] at hK;refine .seq (.sr ?_);refine .m ?_;refine .m ?_;refine .x .ln ?_;refine .j ?_;refine .done (.tt rfl (.skip (.seq (.block (.seq (.sr ?_))))));refine .m ?_;refine .m ?_;refine .x .ia ?_;refine .x .fa ?_;refine .x .l0 ?_;refine .c rfl rfl rfl rfl (fun H hs=> .f ca153 rfl (IsNameR_c M H (k.name j) s0 _ q0)) ?_;refine .x .nt ?_;refine .done (.ff rfl (.skip (.seq (.sr ?_))));refine .m ?_;refine .m ?_;refine .m ?_;refine .x .ia ?_;refine .x .fa ?_;refine .x .l0 ?_;refine .c rfl rfl rfl rfl (fun H hs=> .f ca42 rfl (hix H (fun x hx=> hs.at_ x hx))) ?_;refine .j ?_;refine .done (.ff rfl (.skip (.sr ?_)));refine .m ?_;refine .m ?_;refine .m ?_;refine .x .ia ?_;refine .x .fa ?_;refine .x .l0 ?_;refine .e (.bs (zz:=fun bs=> ?_));refine .e (Or.append (E:=en) (g:=g) (m:=1) (new:= [strV (k.name j)]) (yv:=.slice (some ⟨bs,0,none⟩) 1 1) 1 rfl rfl rfl rfl rfl rfl rfl rfl rfl rfl rfl rfl rfl rfl rfl (fun H hs=> SrcAt.of (hs.get (i:=0) rfl) (Nat.le_of_ble_eq_true rfl)) rfl (by omega) rfl (by decide) (fun g2 hn2 hl2=> ?_));refine .g ?_;refine .done (.seq (.sr ?_));refine .m ?_;refine .m ?_;refine .x .ia ?_;refine .x .fa ?_;refine .x .l0 ?_;refine .c rfl rfl rfl rfl (fun H hs=> .f ca135 rfl (IsNumberR_c M H (k.num j) s1 _ q2)) ?_;refine .x .nt ?_;refine .done (.tt rfl (.sr ?_));refine .g ?_;refine .done ?_;refine .rt hK Tryz.func88 Tryz.results88 [_] ?_;exact okB
         | true=>
           cases q3:(k.pre j).clash (k.num j) with
           | true=>
             have eA:k.lineA j=10:=by unfold Bk.lineA;simp only[q0,q1,q2,q3];simp
             rw[firstA_at hno eA (by decide) c3] at hK;refine .seq (.sr ?_);refine .m ?_;refine .m ?_;refine .x .ln ?_;refine .j ?_;refine .done (.tt rfl (.skip (.seq (.block (.seq (.sr ?_))))));refine .m ?_;refine .m ?_;refine .x .ia ?_;refine .x .fa ?_;refine .x .l0 ?_;refine .c rfl rfl rfl rfl (fun H hs=> .f ca153 rfl (IsNameR_c M H (k.name j) s0 _ q0)) ?_;refine .x .nt ?_;refine .done (.ff rfl (.skip (.seq (.sr ?_))));refine .m ?_;refine .m ?_;refine .m ?_;refine .x .ia ?_;refine .x .fa ?_;refine .x .l0 ?_;refine .c rfl rfl rfl rfl (fun H hs=> .f ca42 rfl (hix H (fun x hx=> hs.at_ x hx))) ?_;refine .j ?_;refine .done (.ff rfl (.skip (.sr ?_)));refine .m ?_;refine .m ?_;refine .m ?_;refine .x .ia ?_;refine .x .fa ?_;refine .x .l0 ?_;refine .e (.bs (zz:=fun bs=> ?_));refine .e (Or.append (E:=en) (g:=g) (m:=1) (new:= [strV (k.name j)]) (yv:=.slice (some ⟨bs,0,none⟩) 1 1) 1 rfl rfl rfl rfl rfl rfl rfl rfl rfl rfl rfl rfl rfl rfl rfl (fun H hs=> SrcAt.of (hs.get (i:=0) rfl) (Nat.le_of_ble_eq_true rfl)) rfl (by omega) rfl (by decide) (fun g2 hn2 hl2=> ?_));refine .g ?_;refine .done (.seq (.sr ?_));refine .m ?_;refine .m ?_;refine .x .ia ?_;refine .x .fa ?_;refine .x .l0 ?_;refine .c rfl rfl rfl rfl (fun H hs=> .f ca135 rfl (IsNumberR_c M H (k.num j) s1 _ q2)) ?_;refine .x .nt ?_;refine .done (.ff rfl (.skip (.seq (.seq ?_))));refine Tc.dr [] [] mixed rfl ?_;refine .q 0 rfl .mv ?_;refine .q 1 rfl .mv ?_;refine .q 2 rfl (OpV.sliceTo (E:=en) (k:=j) rfl rfl rfl rfl rfl rfl (by omega) (by omega)) ?_;refine .q 3 rfl .mv ?_;refine .q 4 rfl .mv ?_;refine .q 5 rfl .ia ?_;refine .q 6 rfl .fa ?_;refine .q 7 rfl .l0 ?_;refine .z 8 rfl (OpV.takeCall rfl rfl rfl rfl (fun H hs=> .f ca136 rfl (clashesR_c M H (k.pre j) (some ⟨ab,ao,none⟩) lc (hA2.le hs.base) (by show j≤1000;omega) (k.num j) _ q3))) ?_;refine Ta.done (by kernel_rfl) ?_;refine .tt rfl (.sr ?_);refine .g ?_;refine .done ?_;refine .rt hK Tryz.func88 Tryz.results88 [_] ?_;exact okB
           | false =>
             cases q4:decide (1≤((k.nf j:Nat):Int)∧((k.nf j:Nat):Int)≤4) with
             | false=>
               have eA:k.lineA j=2:=by unfold Bk.lineA;simp only[q0,q1,q2,q3,q4];simp
               rw[firstA_at hno eA (by decide) c3] at hK;refine .seq (.sr ?_);refine .m ?_;refine .m ?_;refine .x .ln ?_;refine .j ?_;refine .done (.tt rfl (.skip (.seq (.block (.seq (.sr ?_))))));refine .m ?_;refine .m ?_;refine .x .ia ?_;refine .x .fa ?_;refine .x .l0 ?_;refine .c rfl rfl rfl rfl (fun H hs=> .f ca153 rfl (IsNameR_c M H (k.name j) s0 _ q0)) ?_;refine .x .nt ?_;refine .done (.ff rfl (.skip (.seq (.sr ?_))));refine .m ?_;refine .m ?_;refine .m ?_;refine .x .ia ?_;refine .x .fa ?_;refine .x .l0 ?_;refine .c rfl rfl rfl rfl (fun H hs=> .f ca42 rfl (hix H (fun x hx=> hs.at_ x hx))) ?_;refine .j ?_;refine .done (.ff rfl (.skip (.sr ?_)));refine .m ?_;refine .m ?_;refine .m ?_;refine .x .ia ?_;refine .x .fa ?_;refine .x .l0 ?_;refine .e (.bs (zz:=fun bs=> ?_));refine .e (Or.append (E:=en) (g:=g) (m:=1) (new:= [strV (k.name j)]) (yv:=.slice (some ⟨bs,0,none⟩) 1 1) 1 rfl rfl rfl rfl rfl rfl rfl rfl rfl rfl rfl rfl rfl rfl rfl (fun H hs=> SrcAt.of (hs.get (i:=0) rfl) (Nat.le_of_ble_eq_true rfl)) rfl (by omega) rfl (by decide) (fun g2 hn2 hl2=> ?_));refine .g ?_;refine .done (.seq (.sr ?_));refine .m ?_;refine .m ?_;refine .x .ia ?_;refine .x .fa ?_;refine .x .l0 ?_;refine .c rfl rfl rfl rfl (fun H hs=> .f ca135 rfl (IsNumberR_c M H (k.num j) s1 _ q2)) ?_;refine .x .nt ?_;refine .done (.ff rfl (.skip (.seq (.seq ?_))));refine Tc.dr [] [] mixed rfl ?_;refine .q 0 rfl .mv ?_;refine .q 1 rfl .mv ?_;refine .q 2 rfl (OpV.sliceTo (E:=en) (k:=j) rfl rfl rfl rfl rfl rfl (by omega) (by omega)) ?_;refine .q 3 rfl .mv ?_;refine .q 4 rfl .mv ?_;refine .q 5 rfl .ia ?_;refine .q 6 rfl .fa ?_;refine .q 7 rfl .l0 ?_;refine .z 8 rfl (OpV.takeCall rfl rfl rfl rfl (fun H hs=> .f ca136 rfl (clashesR_c M H (k.pre j) (some ⟨ab,ao,none⟩) lc (hA2.le hs.base) (by show j≤1000;omega) (k.num j) _ q3))) ?_;refine Ta.done (by kernel_rfl) ?_;refine .ff rfl (.skip (.seq (.sr ?_)));refine .m ?_;refine .m ?_;refine .x .ia ?_;refine .x .fa ?_;refine .x .l0 ?_;refine .x .ln ?_;refine .c rfl rfl rfl rfl (fun H hs=> .f ca44 rfl (In_c M H ((k.nf j:Nat):Int) 1 4 _ q4)) ?_;refine .x .nt ?_;refine .done (.tt rfl (.sr ?_));refine .g ?_;refine .done ?_;refine .rt hK Tryz.func88 Tryz.results88 [_] ?_;exact okB
             | true=>
               refine .seq (.sr ?_);refine .m ?_;refine .m ?_;refine .x .ln ?_;refine .j ?_;refine .done (.tt rfl (.skip (.seq (.block (.seq (.sr ?_))))));refine .m ?_;refine .m ?_;refine .x .ia ?_;refine .x .fa ?_;refine .x .l0 ?_;refine .c rfl rfl rfl rfl (fun H hs=> .f ca153 rfl (IsNameR_c M H (k.name j) s0 _ q0)) ?_;refine .x .nt ?_;refine .done (.ff rfl (.skip (.seq (.sr ?_))));refine .m ?_;refine .m ?_;refine .m ?_;refine .x .ia ?_;refine .x .fa ?_;refine .x .l0 ?_;refine .c rfl rfl rfl rfl (fun H hs=> .f ca42 rfl (hix H (fun x hx=> hs.at_ x hx))) ?_;refine .j ?_;refine .done (.ff rfl (.skip (.sr ?_)));refine .m ?_;refine .m ?_;refine .m ?_;refine .x .ia ?_;refine .x .fa ?_;refine .x .l0 ?_;refine .e (.bs (zz:=fun bs=> ?_));refine .e (Or.append (E:=en) (g:=g) (m:=1) (new:= [strV (k.name j)]) (yv:=.slice (some ⟨bs,0,none⟩) 1 1) 1 rfl rfl rfl rfl rfl rfl rfl rfl rfl rfl rfl rfl rfl rfl rfl (fun H hs=> SrcAt.of (hs.get (i:=0) rfl) (Nat.le_of_ble_eq_true rfl)) rfl (by omega) rfl (by decide) (fun g2 hn2 hl2=> ?_));refine .g ?_;refine .done (.seq (.sr ?_));refine .m ?_;refine .m ?_;refine .x .ia ?_;refine .x .fa ?_;refine .x .l0 ?_;refine .c rfl rfl rfl rfl (fun H hs=> .f ca135 rfl (IsNumberR_c M H (k.num j) s1 _ q2)) ?_;refine .x .nt ?_;refine .done (.ff rfl (.skip (.seq (.seq ?_))));refine Tc.dr [] [] mixed rfl ?_;refine .q 0 rfl .mv ?_;refine .q 1 rfl .mv ?_;refine .q 2 rfl (OpV.sliceTo (E:=en) (k:=j) rfl rfl rfl rfl rfl rfl (by omega) (by omega)) ?_;refine .q 3 rfl .mv ?_;refine .q 4 rfl .mv ?_;refine .q 5 rfl .ia ?_;refine .q 6 rfl .fa ?_;refine .q 7 rfl .l0 ?_;refine .z 8 rfl (OpV.takeCall rfl rfl rfl rfl (fun H hs=> .f ca136 rfl (clashesR_c M H (k.pre j) (some ⟨ab,ao,none⟩) lc (hA2.le hs.base) (by show j≤1000;omega) (k.num j) _ q3))) ?_;refine Ta.done (by kernel_rfl) ?_;refine .ff rfl (.skip (.seq (.sr ?_)));refine .m ?_;refine .m ?_;refine .x .ia ?_;refine .x .fa ?_;refine .x .l0 ?_;refine .x .ln ?_;refine .c rfl rfl rfl rfl (fun H hs=> .f ca44 rfl (In_c M H ((k.nf j:Nat):Int) 1 4 _ q4)) ?_;refine .x .nt ?_;refine .done (.ff rfl (.skip (.sr ?_)));refine .g ?_;refine .done (.block ?_);refine Tc.db (Tc.loopInv (σ:= { i:Nat//i≤k.nf j∧firstTo (fun i=> !claimOk (k.free j i)) i=none }) (fun i=> ([(0,.slice (some ⟨ab,ao,none⟩) k.nl lc),(3,g2.val),(4,.int .i64 (j:Nat)),(5,.int .i64 (i.1:Nat))],g2.bl)) (fun i=> k.nf j-i.1) ?_ ⟨0,Nat.zero_le _,rfl⟩);rintro⟨i,hi,hin⟩ ih2;show Tc M St _ _ _ _ [(0,.slice (some ⟨ab,ao,none⟩) k.nl lc),(3,g2.val),(4,.int .i64 (j:Nat)),(5,.int .i64 (i:Nat))] g2.bl _ _;by_cases d1:i=k.nf j
               · have eA:k.lineA j=0:=by
                   have q5:k.freeBad j=false:=by unfold Bk.freeBad;rw[←d1,hin];rfl
                   unfold Bk.lineA;simp only[q0,q1,q2,q3,q4,q5];simp
                 clear ih2 hin;subst d1;refine .seq (.sr ?_);refine .m ?_;refine .m ?_;refine .m ?_;refine .x .ia ?_;refine .x .fa ?_;refine .x .l0 ?_;refine .x .ln ?_;refine .j ?_;refine .done (.ff rfl (.exit rfl (.inBlock (.r ?_))));refine .m ?_;refine .j ?_;refine .g ?_;refine .done ?_;exact Tc.db (ih ⟨(j+1,g2),by simp only;omega,by simp only;rw[firstA,if_pos hno];exact eA,by simp only;rw[namesTo_snoc,strsV_app,hl2,hgl];rfl⟩ (by simp only;omega))
               · have d2:i<k.nf j:=by omega
                 obtain h0|⟨fb,fo,ff,fgs,fgt,fgz,rfl,hfb,hfl⟩:=hF
                 · omega
                 have f3:=hfl i d2;cases q5:claimOk (k.free j i) with
                 | true=>
                   refine .seq (.sr ?_);refine .m ?_;refine .m ?_;refine .m ?_;refine .x .ia ?_;refine .x .fa ?_;refine .x .l0 ?_;refine .x .ln ?_;refine .j ?_;refine .done (.tt rfl (.skip (.seq (.block (.sr ?_)))));refine .m ?_;refine .m ?_;refine .x .ia ?_;refine .x .fa ?_;refine .x .l0 ?_;refine .m ?_;refine .x .ia ?_;refine .x .l0 ?_;refine .c rfl rfl rfl rfl (fun H hs=> .f ca154 rfl (IsClaim_c M H (k.free j i) _ q5)) ?_;refine .x .nt ?_;refine .done (.ff rfl (.skip (.inBlock (.r ?_))));refine .m ?_;refine .j ?_;refine .g ?_;refine .done ?_;exact Tc.db (ih2 ⟨i+1,by omega,by simp[firstTo,hin,q5]⟩ (by simp only;omega))
                 | false=>
                   have q6:k.freeBad j=true:=by
                     unfold Bk.freeBad;rw[firstTo_stays (j:=i+1) (x:=i) (by simp[firstTo,hin,q5]) _ (by omega)];rfl
                   have eA:k.lineA j=1:=by unfold Bk.lineA;simp only[q0,q1,q2,q3,q4,q6];simp
                   rw[firstA_at hno eA (by decide) c3] at hK;refine .seq (.sr ?_);refine .m ?_;refine .m ?_;refine .m ?_;refine .x .ia ?_;refine .x .fa ?_;refine .x .l0 ?_;refine .x .ln ?_;refine .j ?_;refine .done (.tt rfl (.skip (.seq (.block (.sr ?_)))));refine .m ?_;refine .m ?_;refine .x .ia ?_;refine .x .fa ?_;refine .x .l0 ?_;refine .m ?_;refine .x .ia ?_;refine .x .l0 ?_;refine .c rfl rfl rfl rfl (fun H hs=> .f ca154 rfl (IsClaim_c M H (k.free j i) _ q5)) ?_;refine .x .nt ?_;refine .done (.tt rfl (.sr ?_));refine .g ?_;refine .done ?_;refine .rt hK Tryz.func88 Tryz.results88 [_] ?_;exact okB
end
def Bk.wide(k:Bk)(i:Nat):Bool:=decide (100<(k.name i).length)||decide (100<(k.num i).length)||decide (20<k.nf i)
def Bk.great(k:Bk):Bool:=decide (20<k.nl)||decide (20<k.nt)||(firstTo k.wide k.nl).isSome
def Bk.fit(k:Bk):Bool:=!k.great&&decide (k.alarm=0)
theorem Bk.ungreat {k:Bk}(h:k.great=false):k.nl≤20∧k.nt≤20∧∀i,i<k.nl→(k.name i).length≤100∧(k.num i).length≤100∧k.nf i≤20:=by
 unfold Bk.great at h;rw[Bool.or_eq_false_iff,Bool.or_eq_false_iff] at h;have h1:=of_decide_eq_false h.1.1;have h2:=of_decide_eq_false h.1.2;refine⟨by omega,by omega,fun i hi=> ?_⟩;have h3:k.wide i=false:=(firstTo_none _).1 (by rw[←Option.not_isSome_iff_eq_none,h.2];decide) i hi;unfold Bk.wide at h3;rw[Bool.or_eq_false_iff,Bool.or_eq_false_iff] at h3;have h4:=of_decide_eq_false h3.1.1;have h5:=of_decide_eq_false h3.1.2;have h6:=of_decide_eq_false h3.2;omega
theorem Bk.ungreat_small {k:Bk}(h:k.great=false):k.small:=by
 obtain⟨h1,h2,h3⟩:=Bk.ungreat h;exact⟨by omega,by omega,fun i hi=> by have:=h3 i hi;omega⟩
section
variable(M:Md Tryz.prog)(H:View)
theorem refCheckBook_c(k:Bk)(A:Option Addr)(lc:Nat)(B:Option Addr)(tc:Nat)(hk:BkAt H k A lc B tc)(hn:k.small)(hnm:∀i,i<k.nl→(k.name i).length≤1000000):
   CallT M 22 #[k.val A lc B tc] H (fun v H'=> H.le H'∧v=.int .i64 k.alarm):=by
 have hlines:=fun(H':View) (h':H.le H')=> checkLines_c M H' k A lc (hk.le h').rows hn.nl (fun i hi=> ⟨hnm i hi,hn.num i hi⟩);have hng:=hn.nt;by_cases c1:1≤k.gap∧k.gap≤99
 · by_cases c2:k.gap+1≤k.give∧k.give≤99
   · have e:k.alarm=if k.linesA=0 then k.trainsA else k.linesA:=by unfold Bk.alarm;rw[if_pos (by unfold Bk.pausesA;rw[if_pos ⟨c1,c2⟩])]
     rw[e];clear e;by_cases c3:k.linesA=0
     · rw[if_pos c3];rw[c3] at hlines;by_cases c4:6<k.nt
       · have e:k.trainsA=2:=by unfold Bk.trainsA;rw[if_pos c4]
         rw[e];refine .en Tryz.func22 Tryz.ntmps22 fun St c cs hK=> ?_;refine .sr ?_;refine .e (.bx (zz:=fun b1=> ?_));refine .g ?_;refine .done (.seq (.sr ?_));refine .x .fa ?_;refine .x (.ld 0) ?_;refine .c rfl rfl rfl rfl (fun H hs=> .f ca44 rfl (In_c M H k.gap 1 99 true (decide_eq_true c1))) ?_;refine .x .nt ?_;refine .m ?_;refine .x .fa ?_;refine .x (.ld 0) ?_;refine .x .fa ?_;refine .x (.ld 0) ?_;refine .j ?_;refine .c rfl rfl rfl rfl (fun H hs=> .f ca44 rfl (In_c M H k.give (k.gap+1) 99 true (decide_eq_true c2))) ?_;refine .x .nt ?_;refine .x .pk ?_;refine .done (.ff rfl (.skip (.seq (.sr ?_))));refine .x .fa ?_;refine .x (.ld 0) ?_;refine .c rfl rfl rfl rfl (fun H hs=> .f ca88 rfl (hlines H hs.base)) ?_;refine .g ?_;refine .done (.sr ?_);refine .m ?_;refine .j ?_;refine .done (.ff rfl (.skip (.seq (.sr ?_))));refine .x .fa ?_;refine .x (.ld 0) ?_;refine .x .ln ?_;refine .j ?_;refine .done (.tt rfl (.sr ?_));refine .g ?_;refine .done ?_;refine .rt hK Tryz.func22 Tryz.results22 [_] ?_;exact okB
       · have e:k.trainsA=if(firstTo k.trainBad k.nt).isSome then 1 else 0:=by unfold Bk.trainsA;rw[if_neg c4]
         rw[e];clear e;refine .en Tryz.func22 Tryz.ntmps22 fun St c cs hK=> ?_;refine .sr ?_;refine .e (.bx (zz:=fun b1=> ?_));refine .g ?_;refine .done (.seq (.sr ?_));refine .x .fa ?_;refine .x (.ld 0) ?_;refine .c rfl rfl rfl rfl (fun H hs=> .f ca44 rfl (In_c M H k.gap 1 99 true (decide_eq_true c1))) ?_;refine .x .nt ?_;refine .m ?_;refine .x .fa ?_;refine .x (.ld 0) ?_;refine .x .fa ?_;refine .x (.ld 0) ?_;refine .j ?_;refine .c rfl rfl rfl rfl (fun H hs=> .f ca44 rfl (In_c M H k.give (k.gap+1) 99 true (decide_eq_true c2))) ?_;refine .x .nt ?_;refine .x .pk ?_;refine .done (.ff rfl (.skip (.seq (.sr ?_))));refine .x .fa ?_;refine .x (.ld 0) ?_;refine .c rfl rfl rfl rfl (fun H hs=> .f ca88 rfl (hlines H hs.base)) ?_;refine .g ?_;refine .done (.sr ?_);refine .m ?_;refine .j ?_;refine .done (.ff rfl (.skip (.seq (.sr ?_))));refine .x .fa ?_;refine .x (.ld 0) ?_;refine .x .ln ?_;refine .j ?_;refine .done (.ff rfl (.skip (.seq (.sr ?_))));refine .g ?_;refine .done (.block ?_);refine Tc.db (Tc.loopInv (σ:= { i:Nat//i≤k.nt∧firstTo k.trainBad i=none }) (fun i=> ([(1,.pointer (some ⟨b1,0,none⟩)),(4,.int .i64 (i.1:Nat))],[(b1,true,.cells ⟨(k.val A lc B tc).cells.toList⟩ 25 (0,0))])) (fun i=> k.nt-i.1) ?_ ⟨0,Nat.zero_le _,rfl⟩);rintro⟨i,hi,hno⟩ ih;show Tc M St _ _ _ _ [(1,.pointer (some ⟨b1,0,none⟩)),(4,.int .i64 (i:Nat))] [(b1,true,.cells ⟨(k.val A lc B tc).cells.toList⟩ 25 (0,0))] _ _;by_cases c5:i=k.nt
         · clear ih;subst c5;rw[hno] at hK;refine .seq (.sr ?_);refine .m ?_;refine .x .fa ?_;refine .x (.ld 0) ?_;refine .x .ln ?_;refine .j ?_;refine .done (.ff rfl (.exit rfl (.sr ?_)));refine .g ?_;refine .done ?_;refine .rt hK Tryz.func22 Tryz.results22 [_] ?_;exact okB
         · have c6:i<k.nt:=by omega
           obtain⟨_,htc,h0|⟨tb,to,f,gs,gt,gz,rfl,hb,hl⟩⟩:=hk
           · omega
           have f1:=hl i c6;cases q:trainOk (k.pf i) (k.pt i) (k.qf i) (k.qt i) with
           | true=>
             refine .seq (.sr ?_);refine .m ?_;refine .x .fa ?_;refine .x (.ld 0) ?_;refine .x .ln ?_;refine .j ?_;refine .done (.tt rfl (.skip (.seq (.block (.sr ?_)))));refine .x .fa ?_;refine .x (.ld 0) ?_;refine .m ?_;refine .x .ia ?_;refine .x .l0 ?_;refine .c rfl rfl rfl rfl (fun H hs=> .f ca89 rfl (checkTrain_c M H (k.pf i) (k.pt i) (k.qf i) (k.qt i) 0 (by rw[q];rfl))) ?_;refine .g ?_;refine .done (.sr ?_);refine .m ?_;refine .j ?_;refine .done (.ff rfl (.skip (.inBlock (.r ?_))));refine .m ?_;refine .j ?_;refine .g ?_;refine .done ?_;exact Tc.db (ih ⟨i+1,by omega,by simp[firstTo,hno,Bk.trainBad,q]⟩ (by simp only;omega))
           | false=>
             rw[firstTo_stays (j:=i+1) (x:=i) (by simp[firstTo,hno,Bk.trainBad,q]) _ (by omega)] at hK;refine .seq (.sr ?_);refine .m ?_;refine .x .fa ?_;refine .x (.ld 0) ?_;refine .x .ln ?_;refine .j ?_;refine .done (.tt rfl (.skip (.seq (.block (.sr ?_)))));refine .x .fa ?_;refine .x (.ld 0) ?_;refine .m ?_;refine .x .ia ?_;refine .x .l0 ?_;refine .c rfl rfl rfl rfl (fun H hs=> .f ca89 rfl (checkTrain_c M H (k.pf i) (k.pt i) (k.qf i) (k.qt i) 1 (by rw[q];rfl))) ?_;refine .g ?_;refine .done (.sr ?_);refine .m ?_;refine .j ?_;refine .done (.tt rfl (.sr ?_));refine .m ?_;refine .g ?_;refine .done ?_;refine .rt hK Tryz.func22 Tryz.results22 [_] ?_;exact okB
     · rw[if_neg c3];refine .en Tryz.func22 Tryz.ntmps22 fun St c cs hK=> ?_;refine .sr ?_;refine .e (.bx (zz:=fun b1=> ?_));refine .g ?_;refine .done (.seq (.sr ?_));refine .x .fa ?_;refine .x (.ld 0) ?_;refine .c rfl rfl rfl rfl (fun H hs=> .f ca44 rfl (In_c M H k.gap 1 99 true (decide_eq_true c1))) ?_;refine .x .nt ?_;refine .m ?_;refine .x .fa ?_;refine .x (.ld 0) ?_;refine .x .fa ?_;refine .x (.ld 0) ?_;refine .j ?_;refine .c rfl rfl rfl rfl (fun H hs=> .f ca44 rfl (In_c M H k.give (k.gap+1) 99 true (decide_eq_true c2))) ?_;refine .x .nt ?_;refine .x .pk ?_;refine .done (.ff rfl (.skip (.seq (.sr ?_))));refine .x .fa ?_;refine .x (.ld 0) ?_;refine .c rfl rfl rfl rfl (fun H hs=> .f ca88 rfl (hlines H hs.base)) ?_;refine .g ?_;refine .done (.sr ?_);refine .m ?_;refine .j ?_;refine .done (.tt rfl (.sr ?_));refine .m ?_;refine .g ?_;refine .done ?_;refine .rt hK Tryz.func22 Tryz.results22 [_] ?_;exact okB
   · have e:k.alarm=1:=by unfold Bk.alarm Bk.pausesA;simp[c2]
     rw[e];refine .en Tryz.func22 Tryz.ntmps22 fun St c cs hK=> ?_;refine .sr ?_;refine .e (.bx (zz:=fun b1=> ?_));refine .g ?_;refine .done (.seq (.sr ?_));refine .x .fa ?_;refine .x (.ld 0) ?_;refine .c rfl rfl rfl rfl (fun H hs=> .f ca44 rfl (In_c M H k.gap 1 99 true (decide_eq_true c1))) ?_;refine .x .nt ?_;refine .m ?_;refine .x .fa ?_;refine .x (.ld 0) ?_;refine .x .fa ?_;refine .x (.ld 0) ?_;refine .j ?_;refine .c rfl rfl rfl rfl (fun H hs=> .f ca44 rfl (In_c M H k.give (k.gap+1) 99 false (decide_eq_false c2))) ?_;refine .x .nt ?_;refine .x .pk ?_;refine .done (.tt rfl (.sr ?_));refine .g ?_;refine .done ?_;refine .rt hK Tryz.func22 Tryz.results22 [_] ?_;exact okB
 · have e:k.alarm=1:=by unfold Bk.alarm Bk.pausesA;simp[c1]
   rw[e];refine .en Tryz.func22 Tryz.ntmps22 fun St c cs hK=> ?_;refine .sr ?_;refine .e (.bx (zz:=fun b1=> ?_));refine .g ?_;refine .done (.seq (.sr ?_));refine .x .fa ?_;refine .x (.ld 0) ?_;refine .c rfl rfl rfl rfl (fun H hs=> .f ca44 rfl (In_c M H k.gap 1 99 false (decide_eq_false c1))) ?_;refine .x .nt ?_;refine .m ?_;refine .sk ?_;refine .sk ?_;refine .sk ?_;refine .sk ?_;refine .sk ?_;refine .sk ?_;refine .sk ?_;refine .x .pk ?_;refine .done (.tt rfl (.sr ?_));refine .g ?_;refine .done ?_;refine .rt hK Tryz.func22 Tryz.results22 [_] ?_;exact okB
theorem wide_c(a num:List UInt8)(F:Option Addr)(n fc:Nat)(t:Bool)(ht:(decide (100<a.length)||decide (100<num.length)||decide (20<n))=t):
   CallT M 60 #[lineV a num F n fc] H (fun v H'=> H.le H'∧v=.bool t):=by
 rw[←ht];refine .en Tryz.func60 Tryz.ntmps60 fun St c cs hK=> ?_;by_cases c1:100<a.length
 all_goals by_cases c2:100<num.length
 all_goals by_cases c3:20<n
 all_goals
   refine .sr ?_;refine .e (.bx (zz:=fun b1=> ?_));refine .g ?_;refine .done (.sr ?_);refine .x .fa ?_;refine .x (.ld 0) ?_;refine .x (OpV.lenS (E:=en) rfl rfl rfl rfl rfl rfl rfl) ?_;refine .i ?_ (z:=by first|exact gtr_t (by omega)|exact gtr_f (by omega));refine .m ?_;first|(refine .sk ?_)|(refine .x .fa ?_)
   first|(refine .sk ?_)|((refine .x (.ld 0) ?_))
   first|(refine .sk ?_)|(refine .x (OpV.lenS (E:=en) rfl rfl rfl rfl rfl rfl rfl) ?_)
   first|(refine .sk ?_)|(refine .x (.it (zz:=(by first|exact gtr_t (by omega)|exact gtr_f (by omega)))) ?_)
   refine .x .pk ?_;refine .m ?_;first|(refine .sk ?_)|(refine .x .fa ?_)
   first|(refine .sk ?_)|((refine .x (.ld 0) ?_))
   first|(refine .sk ?_)|(refine .x .ln ?_)
   first|(refine .sk ?_)|(refine .x (.it (zz:=(by first|exact gtr_t (by omega)|exact gtr_f (by omega)))) ?_)
   refine .x .pk ?_;refine .g ?_;refine .done ?_;refine .rt hK Tryz.func60 Tryz.results60 [_] ?_;exact fun H' hs=> ⟨hs.base,by simp[packV,c1,c2,c3]⟩
theorem Great_c(k:Bk)(A:Option Addr)(lc:Nat)(B:Option Addr)(tc:Nat)(hA:RowsAt H k A lc):
   CallT M 17 #[k.val A lc B tc] H (fun v H'=> H.le H'∧v=.bool k.great):=by
 by_cases c1:20<k.nl
 · have e:k.great=true:=by unfold Bk.great;simp[c1]
   rw[e];refine .en Tryz.func17 Tryz.ntmps17 fun St c cs hK=> ?_;refine .sr ?_;refine .e (.bx (zz:=fun b1=> ?_));refine .g ?_;refine .done (.seq (.sr ?_));refine .x .fa ?_;refine .x (.ld 0) ?_;refine .x .ln ?_;refine .j ?_;refine .m ?_;refine .sk ?_;refine .sk ?_;refine .sk ?_;refine .sk ?_;refine .x .pk ?_;refine .done (.tt rfl (.sr ?_));refine .g ?_;refine .done ?_;refine .rt hK Tryz.func17 Tryz.results17 [_] ?_;exact okB
 · by_cases c2:20<k.nt
   · have e:k.great=true:=by unfold Bk.great;simp[c2]
     rw[e];refine .en Tryz.func17 Tryz.ntmps17 fun St c cs hK=> ?_;refine .sr ?_;refine .e (.bx (zz:=fun b1=> ?_));refine .g ?_;refine .done (.seq (.sr ?_));refine .x .fa ?_;refine .x (.ld 0) ?_;refine .x .ln ?_;refine .j ?_;refine .m ?_;refine .x .fa ?_;refine .x (.ld 0) ?_;refine .x .ln ?_;refine .j ?_;refine .x .pk ?_;refine .done (.tt rfl (.sr ?_));refine .g ?_;refine .done ?_;refine .rt hK Tryz.func17 Tryz.results17 [_] ?_;exact okB
   · have e:k.great=(firstTo k.wide k.nl).isSome:=by unfold Bk.great;simp[c1,c2]
     rw[e];clear e;refine .en Tryz.func17 Tryz.ntmps17 fun St c cs hK=> ?_;refine .sr ?_;refine .e (.bx (zz:=fun b1=> ?_));refine .g ?_;refine .done (.seq (.sr ?_));refine .x .fa ?_;refine .x (.ld 0) ?_;refine .x .ln ?_;refine .j ?_;refine .m ?_;refine .x .fa ?_;refine .x (.ld 0) ?_;refine .x .ln ?_;refine .j ?_;refine .x .pk ?_;refine .done (.ff rfl (.skip (.seq (.sr ?_))));refine .g ?_;refine .done (.block ?_);refine Tc.db (Tc.loopInv (σ:= { i:Nat//i≤k.nl∧firstTo k.wide i=none }) (fun i=> ([(1,.pointer (some ⟨b1,0,none⟩)),(3,.int .i64 (i.1:Nat))],[(b1,true,.cells ⟨(k.val A lc B tc).cells.toList⟩ 25 (0,0))])) (fun i=> k.nl-i.1) ?_ ⟨0,Nat.zero_le _,rfl⟩);rintro⟨i,hi,hno⟩ ih;show Tc M St _ _ _ _ [(1,.pointer (some ⟨b1,0,none⟩)),(3,.int .i64 (i:Nat))] [(b1,true,.cells ⟨(k.val A lc B tc).cells.toList⟩ 25 (0,0))] _ _;by_cases c5:i=k.nl
     · clear ih;subst c5;rw[hno] at hK;refine .seq (.sr ?_);refine .m ?_;refine .x .fa ?_;refine .x (.ld 0) ?_;refine .x .ln ?_;refine .j ?_;refine .done (.ff rfl (.exit rfl (.sr ?_)));refine .g ?_;refine .done ?_;refine .rt hK Tryz.func17 Tryz.results17 [_] ?_;exact okB
     · have c6:i<k.nl:=by omega
       obtain⟨hlc,h0|⟨ab,ao,f,gs,gt,gz,rfl,hb,hl⟩⟩:=hA
       · omega
       obtain⟨F,fc,f1,_,_⟩:=hl i c6;cases q:k.wide i with
       | true=>
         rw[firstTo_stays (j:=i+1) (x:=i) (by simp[firstTo,hno,q]) _ (by omega)] at hK;refine .seq (.sr ?_);refine .m ?_;refine .x .fa ?_;refine .x (.ld 0) ?_;refine .x .ln ?_;refine .j ?_;refine .done (.tt rfl (.skip (.seq (.block (.sr ?_)))));refine .x .fa ?_;refine .x (.ld 0) ?_;refine .m ?_;refine .x .ia ?_;refine .x .l0 ?_;refine .c rfl rfl rfl rfl (fun H hs=> .f ca60 rfl (wide_c M H (k.name i) (k.num i) F (k.nf i) fc true q)) ?_;refine .done (.tt rfl (.sr ?_));refine .g ?_;refine .done ?_;refine .rt hK Tryz.func17 Tryz.results17 [_] ?_;exact okB
       | false=>
         refine .seq (.sr ?_);refine .m ?_;refine .x .fa ?_;refine .x (.ld 0) ?_;refine .x .ln ?_;refine .j ?_;refine .done (.tt rfl (.skip (.seq (.block (.sr ?_)))));refine .x .fa ?_;refine .x (.ld 0) ?_;refine .m ?_;refine .x .ia ?_;refine .x .l0 ?_;refine .c rfl rfl rfl rfl (fun H hs=> .f ca60 rfl (wide_c M H (k.name i) (k.num i) F (k.nf i) fc false q)) ?_;refine .done (.ff rfl (.skip (.inBlock (.r ?_))));refine .m ?_;refine .j ?_;refine .g ?_;refine .done ?_;exact Tc.db (ih ⟨i+1,by omega,by simp[firstTo,hno,q]⟩ (by simp only;omega))
theorem Fit_c(k:Bk)(A:Option Addr)(lc:Nat)(B:Option Addr)(tc:Nat)(hk:BkAt H k A lc B tc)(t:Bool)(ht:k.fit=t):
   CallT M 38 #[k.val A lc B tc] H (fun v H'=> H.le H'∧v=.bool t):=by
 rw[←ht];clear ht;cases q:k.great with
 | true=>
   have e:k.fit=false:=by unfold Bk.fit;rw[q];rfl
   rw[e];refine .en Tryz.func38 Tryz.ntmps38 fun St c cs hK=> ?_;refine .sr ?_;refine .e (.bx (zz:=fun b1=> ?_));refine .g ?_;refine .done (.sr ?_);refine .x (.ld 0) ?_;refine .c rfl rfl rfl rfl (fun H hs=> .f ca17 rfl (isB (Great_c M H k A lc B tc (hk.le hs.base).rows) q)) ?_;refine .x .nt ?_;refine .m ?_;refine .sk ?_;refine .sk ?_;refine .sk ?_;refine .x .pk ?_;refine .g ?_;refine .done ?_;refine .rt hK Tryz.func38 Tryz.results38 [_] ?_;exact okB
 | false=>
   by_cases c1:k.alarm=0
   · have e:k.fit=true:=by unfold Bk.fit;rw[q];simp[c1]
     rw[e];refine .en Tryz.func38 Tryz.ntmps38 fun St c cs hK=> ?_;refine .sr ?_;refine .e (.bx (zz:=fun b1=> ?_));refine .g ?_;refine .done (.sr ?_);refine .x (.ld 0) ?_;refine .c rfl rfl rfl rfl (fun H hs=> .f ca17 rfl (isB (Great_c M H k A lc B tc (hk.le hs.base).rows) q)) ?_;refine .x .nt ?_;refine .m ?_;refine .x (.ld 0) ?_;refine .c rfl rfl rfl rfl (fun H hs=> .f ca22 rfl (isV (refCheckBook_c M H k A lc B tc (hk.le hs.base) (Bk.ungreat_small q) (fun i hi=> by have:=(Bk.ungreat q).2.2 i hi;omega)) (w':=.int .i64 0) (by rw[c1]))) ?_;refine .j ?_;refine .x .pk ?_;refine .g ?_;refine .done ?_;refine .rt hK Tryz.func38 Tryz.results38 [_] ?_;exact okB
   · have e:k.fit=false:=by unfold Bk.fit;rw[q];simp[c1]
     rw[e];refine .en Tryz.func38 Tryz.ntmps38 fun St c cs hK=> ?_;refine .sr ?_;refine .e (.bx (zz:=fun b1=> ?_));refine .g ?_;refine .done (.sr ?_);refine .x (.ld 0) ?_;refine .c rfl rfl rfl rfl (fun H hs=> .f ca17 rfl (isB (Great_c M H k A lc B tc (hk.le hs.base).rows) q)) ?_;refine .x .nt ?_;refine .m ?_;refine .x (.ld 0) ?_;refine .c rfl rfl rfl rfl (fun H hs=> .f ca22 rfl (refCheckBook_c M H k A lc B tc (hk.le hs.base) (Bk.ungreat_small q) (fun i hi=> by have:=(Bk.ungreat q).2.2 i hi;omega))) ?_;refine .j ?_;refine .x .pk ?_;refine .g ?_;refine .done ?_;refine .rt hK Tryz.func38 Tryz.results38 [_] ?_;exact okB
end
theorem cl_free(g:Gl 38 1){H:View}(h:∀x∈g.bl,H x.1=some x.2){f:Nat→Int}{n:Nat}(hl:g.l=clL f n):FreeAt H (g.blk.map fun b=> ⟨b,0,none⟩) g.n f:=by
 have hgl:=g.hl;rw[hl,clL_len] at hgl;cases hbb:g.blk with
 | none=>
   have:=g.h0 hbb;have:=g.hc;exact .inl (by omega)
 | some b=>
   have hbl:g.bl= [(b,true,.cells ⟨g.l++g.junk⟩ 38 (0,0))]:=by unfold Gl.bl;rw[hbb]
   refine .inr ⟨b,0,true,_,38,(0,0),rfl,h (b,true,.cells ⟨g.l++g.junk⟩ 38 (0,0)) (by rw[hbl];simp),fun j hj=> ?_⟩;show(g.l++g.junk)[_]? =_;have hjl:j<n:=by omega
   rw[Nat.zero_add,Int.toNat_natCast,Nat.mul_one,List.getElem?_append_left (by rw[hl,clL_len];exact hjl),hl];unfold clL;rw[List.getElem?_map,List.getElem?_range hjl];rfl
section
variable(M:Md Tryz.prog)(H:View)
end
end Go.Proofs.YtdnfdeplcjaonaaGreatDoor
namespace Go.Proofs.YtdnfdeplcjaonaaGreatDoor
open Go.RL
set_option maxRecDepth 10000
theorem firstTo_in {p:Nat→Bool}:∀n {i:Nat},firstTo p n=some i→i<n
 | 0,_,h=> by cases h
 | n + 1,i,h=> by
   rw[firstTo] at h;cases e:firstTo p n with
   | some j=>
     rw[e] at h;have:=firstTo_in n e;cases h
     omega
   | none=>
     rw[e] at h;by_cases hp:p n=true
     · rw[if_pos hp] at h;cases h
       omega
     · rw[if_neg hp] at h;cases h
set_option maxHeartbeats 16000000
section
variable(M:Md Tryz.prog)(H:View)
theorem Lesser_eq(A B:Option Addr)(n ac bc:Nat)(x y:Nat→Int)(hA:FreeAt H A n x)(hB:FreeAt H B n y)(hn:n≤1000000)(he:∀i,i<n→x i=y i):
   CallT M 134 #[.slice A n ac,.slice B n bc] H (fun v H'=> H.le H'∧v=.bool false):=by
 refine .en Tryz.func134 Tryz.ntmps134 fun St c cs hK=> ?_;refine .sr ?_;refine .g ?_;refine .done (.seq (.sr ?_));refine .g ?_;refine .done (.block ?_);refine Tc.db (Tc.loopInv (σ:= { j:Nat//j≤n }) (fun j=> ([(0,.slice A n ac),(1,.slice B n bc),(5,.int .i64 (j.1:Nat))],[])) (fun j=> n-j.1) ?_ ⟨0,Nat.zero_le _⟩);rintro⟨j,hj⟩ ih;show Tc M St _ _ _ _ [(0,.slice A n ac),(1,.slice B n bc),(5,.int .i64 (j:Nat))] [] _ _;by_cases c1:j=n
 · subst c1;refine .seq (.sr ?_);refine .m ?_;refine .m ?_;refine .x .ln ?_;refine .j ?_;refine .m ?_;refine .sk ?_;refine .sk ?_;refine .sk ?_;refine .sk ?_;refine .x .pk ?_;refine .done (.ff rfl (.exit rfl (.sr ?_)));refine .m ?_;refine .x .ln ?_;refine .m ?_;refine .x .ln ?_;refine .j ?_;refine .g ?_;refine .done ?_;refine .rt hK Tryz.func134 Tryz.results134 [_] ?_;exact okB
 · have c2:j<n:=by omega
   obtain h0|⟨ab,ao,fa,gs,gt,gz,rfl,hab,hal⟩:=hA
   · omega
   obtain h0|⟨bb,bo,fb,ks,kt,kz,rfl,hbb,hbl⟩:=hB
   · omega
   have f1:=hal j c2;have f2:=hbl j c2;have f3:=he j c2;refine .seq (.sr ?_);refine .m ?_;refine .m ?_;refine .x .ln ?_;refine .j ?_;refine .m ?_;refine .m ?_;refine .m ?_;refine .x .ln ?_;refine .j ?_;refine .x .pk ?_;refine .done (.tt rfl (.skip (.seq (.block (.seq ?_)))));refine Tc.dr [] [] mixed rfl ?_;refine .q 0 rfl .mv ?_;refine .q 1 rfl .mv ?_;refine .q 2 rfl .ia ?_;refine .q 3 rfl .l0 ?_;refine .q 4 rfl .mv ?_;refine .q 5 rfl .mv ?_;refine .q 6 rfl .ia ?_;refine .q 7 rfl .l0 ?_;refine .q 8 rfl (.it (zz:=neq_f (by omega))) ?_;refine Ta.done (by kernel_rfl) ?_;refine .ff rfl (.skip (.inBlock (.r ?_)));refine .m ?_;refine .j ?_;refine .g ?_;refine .done ?_;exact Tc.db (ih ⟨j+1,by omega⟩ (by simp only;omega))
theorem SameNums_eq(A B:Option Addr)(n ac bc:Nat)(x y:Nat→Int)(hA:FreeAt H A n x)(hB:FreeAt H B n y)(hn:n≤1000000)(he:∀i,i<n→x i=y i):
   CallT M 62 #[.slice A n ac,.slice B n bc] H (fun v H'=> H.le H'∧v=.bool true):=by
 refine .en Tryz.func62 Tryz.ntmps62 fun St c cs hK=> ?_;refine .sr ?_;refine .g ?_;refine .done (.sr ?_);refine .m ?_;refine .m ?_;refine .c rfl rfl rfl rfl (fun H hs=> .f ca134 rfl (Lesser_eq M H A B n ac bc x y (hA.le hs.base) (hB.le hs.base) hn he)) ?_;refine .x .nt ?_;refine .m ?_;refine .m ?_;refine .m ?_;refine .c rfl rfl rfl rfl (fun H hs=> .f ca134 rfl (Lesser_eq M H B A n bc ac y x (hB.le hs.base) (hA.le hs.base) hn (fun i hi=> (he i hi).symm))) ?_;refine .x .nt ?_;refine .x .pk ?_;refine .g ?_;refine .done ?_;refine .rt hK Tryz.func62 Tryz.results62 [_] ?_;exact okB
theorem to_c(a b:Int):CallT M 74 #[.int .i64 a,.int .i64 b] H (fun v H'=> H.le H'∧v=bandV a b):=by
 refine .en Tryz.func74 Tryz.ntmps74 fun St c cs hK=> ?_;refine .sr ?_;refine .e (.al (zz:=fun b4=> ?_));refine .done (.sr ?_);refine .m ?_;refine .m ?_;refine .x .bu ?_;refine .e (.st 0 (zz:=?_));refine .done ?_;refine Tc.retN (E:=en) hK Tryz.func74 Tryz.results74 (vs:= [_]) (by refine⟨⟨0,_,_,_,_,_,_,_,rfl,rfl,rfl,rfl⟩,?_⟩;exact trivial) ?_;exact okB
theorem train_c(p q:Int):CallT M 79 #[.int .i64 p,.int .i64 q] H (fun v H'=> H.le H'∧v=trainV p p q q):=by
 refine .en Tryz.func79 Tryz.ntmps79 fun St c cs hK=> ?_;refine .sr ?_;refine .e (.al (zz:=fun b4=> ?_));refine .done (.sr ?_);refine .m ?_;refine .m ?_;refine .c rfl rfl rfl rfl (fun H hs=> .f ca74 rfl (to_c M H p p)) ?_;refine .m ?_;refine .m ?_;refine .c rfl rfl rfl rfl (fun H hs=> .f ca74 rfl (to_c M H q q)) ?_;refine .x .bu ?_;refine .e (.st 0 (zz:=?_));refine .done ?_;refine Tc.retN (E:=en) hK Tryz.func79 Tryz.results79 (vs:= [_]) (by refine⟨⟨0,_,_,_,_,_,_,_,rfl,rfl,rfl,rfl⟩,?_⟩;exact trivial) ?_;exact okB
end
def exName(i:Nat):List UInt8:= [[97,110,110],[98,111,98],[101,118,101]][i]?.getD []
def exNum(i:Nat):List UInt8:= [[49,50],[49,51],[50]][i]?.getD []
def exNf(i:Nat):Nat:= [1,2,1][i]?.getD 0
def exFree(i j:Nat):Int:=([[1],[2,1],[0]][i]?.getD [])[j]?.getD 0
def exAt(l:List Int)(i:Nat):Int:=l[i]?.getD 0
def bkD:Bk:=⟨5,20,3,exName,exNum,exNf,exFree,2,exAt [1,2],exAt [1,3],exAt [8,6],exAt [8,6]⟩
def bkE:Bk:=⟨5,20,3,exName,exNum,exNf,exFree,3,exAt [1,1,2],exAt [1,1,2],exAt [3,9,9],exAt [6,9,9]⟩
def bkO:Bk:=bkD.now 1 2 2 6 6
def exF(b0 b1 b2:Nat)(i:Nat):Option Addr:=match i with
 | 0=> some ⟨b0,0,none⟩
 | 1=> some ⟨b1,0,none⟩
 | _=> some ⟨b2,0,none⟩
structure LinesAt(H:View)(bl b0 b1 b2:Nat):Prop where
 h:∃f gt gz,H bl=some (f,.cells ⟨[strV [97,110,110],strV [49,50],.slice (some ⟨b0,0,none⟩) 1 1,strV [98,111,98],strV [49,51],.slice (some ⟨b1,0,none⟩) 2 2,strV [101,118,101],strV [50],.slice (some ⟨b2,0,none⟩) 1 1]⟩ gt gz)
 h0:∃f gt gz,H b0=some (f,.cells ⟨[.int .i64 1]⟩ gt gz)
 h1:∃f gt gz,H b1=some (f,.cells ⟨[.int .i64 2,.int .i64 1]⟩ gt gz)
 h2:∃f gt gz,H b2=some (f,.cells ⟨[.int .i64 0]⟩ gt gz)
theorem LinesAt.le {H H':View}{bl b0 b1 b2:Nat}(h:LinesAt H bl b0 b1 b2)(k:H.le H'):LinesAt H' bl b0 b1 b2:=
 ⟨h.h.imp fun _ ⟨gt,gz,e⟩=> ⟨gt,gz,k _ _ e⟩,h.h0.imp fun _ ⟨gt,gz,e⟩=> ⟨gt,gz,k _ _ e⟩,h.h1.imp fun _ ⟨gt,gz,e⟩=> ⟨gt,gz,k _ _ e⟩,h.h2.imp fun _ ⟨gt,gz,e⟩=> ⟨gt,gz,k _ _ e⟩⟩
theorem src_of_cells {H:View}{sz m c b:Nat}{f:Bool}{cs:List Value}{e:TypeId}{fz:Nat×Nat}(hb:H b=some (f,.cells ⟨cs⟩ e fz))(h:cs.length=m*sz):SrcAt H sz (.slice (some ⟨b,0,none⟩) m c) m cs:=
 ⟨⟨_,_,rfl⟩,h,.inr ⟨b,0,c,f,cs,e,fz,rfl,hb,by simp,by simp⟩⟩
theorem ex_book {H:View}{k:Bk}{bl b0 b1 b2 bt:Nat}(hl:LinesAt H bl b0 b1 b2)(hn:k.nl=3)(hname:k.name=exName)(hnum:k.num=exNum)(hnf:k.nf=exNf)(hfr:k.free=exFree){f:Bool}{gt:TypeId}{gz:Nat×Nat}(ht:H bt=some (f,.cells ⟨flatR k.nt (trainL k)⟩ gt gz)):
   BookAt H k (some ⟨bl,0,none⟩) 3 (some ⟨bt,0,none⟩) k.nt (exF b0 b1 b2) exNf:=by
 obtain⟨⟨f1,t1,z1,g1⟩,⟨f2,t2,z2,g2⟩,⟨f3,t3,z3,g3⟩,⟨f4,t4,z4,g4⟩⟩:=hl;refine⟨by omega,Nat.le_refl _,?_,src_of_cells ht (flatR_len (f:=trainL k) (sz:=4) (fun _=> rfl) k.nt),fun i hi=> by rw[hnf];exact Nat.le_refl _,fun i hi=> ?_⟩
 · rw[hn];have e:flatR 3 (rowL k (exF b0 b1 b2) exNf)= [strV [97,110,110],strV [49,50],.slice (some ⟨b0,0,none⟩) 1 1,strV [98,111,98],strV [49,51],.slice (some ⟨b1,0,none⟩) 2 2,strV [101,118,101],strV [50],.slice (some ⟨b2,0,none⟩) 1 1]:=by
     unfold rowL;rw[hname,hnum,hnf];rfl
   rw[e];exact src_of_cells g1 rfl
 · rw[hn] at hi;rw[hnf,hfr];rcases(by omega:i=0∨i=1∨i=2) with rfl|rfl|rfl
   · exact src_of_cells g2 rfl
   · exact src_of_cells g3 rfl
   · exact src_of_cells g4 rfl
section
variable(M:Md Tryz.prog)(H:View)
theorem lines_ex:CallT M 149 #[] H (fun v H'=> H.le H'∧∃bl b0 b1 b2,v=.slice (some ⟨bl,0,none⟩) 3 3∧LinesAt H' bl b0 b1 b2):=by
 refine .en Tryz.func149 Tryz.ntmps149 fun St c cs hK=> ?_;refine .sr ?_;refine .g ?_;refine .done (.sr ?_);refine .e (.bs (zz:=fun b0=> ?_));refine .x .bu ?_;refine .e (.bs (zz:=fun b1=> ?_));refine .x .bu ?_;refine .e (.bs (zz:=fun b2=> ?_));refine .x .bu ?_;refine .e (.bs (zz:=fun bl=> ?_));refine .g ?_;refine .done ?_;refine .rt hK Tryz.func149 Tryz.results149 [_] ?_;exact fun H' hs=> ⟨hs.base,bl,b0,b1,b2,rfl,⟨_,_,_,hs.get (i:=0) rfl⟩,⟨_,_,_,hs.get (i:=3) rfl⟩,⟨_,_,_,hs.get (i:=2) rfl⟩,⟨_,_,_,hs.get (i:=1) rfl⟩⟩
theorem Example_c:CallT M 77 #[] H (fun v H'=> H.le H'∧∃A lc B tc F fc,v=bkD.val A lc B tc∧BookAt H' bkD A lc B tc F fc):=by
 refine .en Tryz.func77 Tryz.ntmps77 fun St c cs hK=> ?_;refine .sr ?_;refine .e (.al (zz:=fun b0=> ?_));refine .done (.sr ?_);refine To.callF rfl rfl rfl rfl rfl rfl (by decide) (FnT.f ca149 rfl (lines_ex M H)) (fun v H₁ hv=> ?_);obtain⟨hle,bl,c0,c1,c2,rfl,hl⟩:=hv;refine .c rfl rfl rfl rfl (fun H hs=> .f ca79 rfl (train_c M H 1 8)) ?_;refine .c rfl rfl rfl rfl (fun H hs=> .f ca74 rfl (to_c M H 2 3)) ?_;refine .c rfl rfl rfl rfl (fun H hs=> .f ca74 rfl (to_c M H 6 6)) ?_;refine .x .bu ?_;refine .e (.bs (zz:=fun bt=> ?_));refine .x .bu ?_;refine .e (.st 1 (zz:=?_));refine .done ?_;refine Tc.retN (E:=en) hK Tryz.func77 Tryz.results77 (vs:= [_]) (by refine⟨⟨1,_,_,_,_,_,_,_,rfl,rfl,rfl,rfl⟩,?_⟩;exact trivial) ?_;exact fun H' hs=> ⟨View.le_trans hle hs.base,_,_,some ⟨bt,0,none⟩,_,_,_,rfl,ex_book (hl.le hs.base) rfl rfl rfl rfl rfl (hs.get (i:=0) rfl)⟩
theorem joined_c:CallT M 78 #[] H (fun v H'=> H.le H'∧∃A lc B tc F fc,v=bkE.val A lc B tc∧BookAt H' bkE A lc B tc F fc):=by
 refine .en Tryz.func78 Tryz.ntmps78 fun St c cs hK=> ?_;refine .sr ?_;refine .e (.al (zz:=fun b0=> ?_));refine .done (.sr ?_);refine To.callF rfl rfl rfl rfl rfl rfl (by decide) (FnT.f ca149 rfl (lines_ex M H)) (fun v H₁ hv=> ?_);obtain⟨hle,bl,c0,c1,c2,rfl,hl⟩:=hv;refine .c rfl rfl rfl rfl (fun H hs=> .f ca74 rfl (to_c M H 1 1)) ?_;refine .c rfl rfl rfl rfl (fun H hs=> .f ca74 rfl (to_c M H 3 6)) ?_;refine .x .bu ?_;refine .c rfl rfl rfl rfl (fun H hs=> .f ca79 rfl (train_c M H 1 9)) ?_;refine .c rfl rfl rfl rfl (fun H hs=> .f ca79 rfl (train_c M H 2 9)) ?_;refine .e (.bs (zz:=fun bt=> ?_));refine .x .bu ?_;refine .e (.st 1 (zz:=?_));refine .done ?_;refine Tc.retN (E:=en) hK Tryz.func78 Tryz.results78 (vs:= [_]) (by refine⟨⟨1,_,_,_,_,_,_,_,rfl,rfl,rfl,rfl⟩,?_⟩;exact trivial) ?_;exact fun H' hs=> ⟨View.le_trans hle hs.base,_,_,some ⟨bt,0,none⟩,_,_,_,rfl,ex_book (hl.le hs.base) rfl rfl rfl rfl rfl (hs.get (i:=0) rfl)⟩
end
theorem bkD_al:bkD.alarm=0:=by decide +kernel
theorem bkE_al:bkE.alarm=0:=by decide +kernel
theorem bkO_al:bkO.alarm=0:=by decide +kernel
theorem ex_small {k:Bk}(hn:k.nl=3)(ht:k.nt≤1000)(hnum:k.num=exNum)(hnf:k.nf=exNf):k.small:=⟨by omega,ht,fun i hi=> by
 rw[hn] at hi;rw[hnum,hnf];rcases(by omega:i=0∨i=1∨i=2) with rfl|rfl|rfl <;> decide⟩
set_option maxHeartbeats 8000000
section
variable(M:Md Tryz.prog)(H:View)
end
end Go.Proofs.YtdnfdeplcjaonaaGreatDoor
namespace Go.RL
open Go.Conc
section
variable {P:Program}{M:Md P}{St:View→Goroutine→Prop}{n:Nat}{b:FB}{H₀:View}{cs:List Frame}{R:Rg}{L:Bl}{ds:List Deferred}{k:List Item}{md:Region.Mode}{ops:Array Oper}
theorem Ta.callL2(i j:Nat){B:List Nat}{Hs:View}{Ls Lb:Bl}{o:Oper}{d:Nat}{fuel:Nat}{listed:Array Bool}{cl:Go.Call}{x:Operand}{fv:Value}{az:List Value}(hr:Region.ready md ops listed= [i,j])(hi:ops[i]? =some o)
   (hw:wantB (ops.toList.map (fun o:Oper=> o.dst)) R o=some true) (hop:o.op=.call cl) (hcl:cl.callee=.value x) (hx:evR R x=some fv) (has:evRs R cl.args.toList=some az) (hd:o.dst=some d) (hn:d<n)
   {Q:Value→View→Prop} (hc:FnT M fv az H₀ Q) (hle:∀v H₁,Q v H₁→Hs.le H₁) (h1:Ls.Sublist L) (h2:(B.all fun j=> !((listed.setIfInBounds i true).getD j true))=false∨Lb.Sublist L)
   (hk:∀v H₁,Q v H₁→Ta M St n b H₁ cs (S2 Hs B Ls Lb) md ops fuel (listed.setIfInBounds i true) ((d,v)::R) L ds k)
   (hj:TaOp M St n b H₀ cs (S2 Hs B Ls Lb) md ops fuel listed R L ds k j):
   Ta M St n b H₀ cs (S2 Hs B Ls Lb) md ops (fuel+1) listed R L ds k:=fun H tmps hs hr' _ H₂ h2' _=> by
 have hs:=hs.mono h2';refine⟨fun e=> (by rw[hr] at e;cases e),fun j' hj' o' ho'=> ?_⟩;rw[hr] at hj';have hcase:j'=i∨j'=j:=by simpa using hj'
 rcases hcase with rfl|rfl
 · rw[hi] at ho';cases ho'
   refine⟨(by rw[hop];rfl),?_⟩;have hw':Region.wanted o (yielded ops tmps)=true:=wantB_ok (fun j=> by
     simp only[List.getElem?_map,Array.getElem?_toList];cases ops[j]? <;> rfl) hr' hw
   rw[if_pos hw'];obtain⟨F,rfl,hdj,hF⟩:=hs.split;have e1:=hr'.ev hx;have hmap:cl.args.map (evT tmps)=az.toArray:=by
     apply Array.ext'
     simpa using hr'.evs has
   have hex:execOp (evT tmps) o=(Deferred.ofValue fv az.toArray).bind fun d=> invoke d.target d.args:=by
     have h1:execOp (evT tmps) o=(resolve (evT tmps) cl o.type).bind fun d=> invoke d.target d.args:=by unfold execOp;rw[hop];rfl
     rw[h1];unfold resolve;rw[hcl];simp only[e1,hmap]
   unfold OpRun;rw[hex];have fin:∀v H'',Beside F Q v H''→S2 Hs B Ls Lb (listed.setIfInBounds j' true) H''∧AnyT M md ops (S2 Hs B Ls Lb) (fun tmps H=> T M St H (G (b.at tmps ds k) cs)) fuel (listed.setIfInBounds j' true) (putT tmps o.dst v) H'':=by
     rintro v H'' ⟨H₁,rfl,hd',hq⟩;have hsy:SymSt H₁ L (H₁.plus F):=.joined hs.nodup hF hd';have hS:S2 Hs B Ls Lb (listed.setIfInBounds j' true) (H₁.plus F):=S2.mkL (hle v H₁ hq) h1 h2 _ hsy;refine⟨hS,?_⟩;rw[hd];exact hk v H₁ hq _ _ hsy (hr'.put hn v) hS
   refine vwp_mono _ (fun nx H' hn'=> ?_) (hc.frame hdj);cases nx <;> first
     | exact hn'.elim
     | exact CallT.mono hn' fin
     | exact GoT.mono hn' fin
 · obtain⟨o2,ho2,hd2,hw2,h'⟩:=hj;rw[ho'] at ho2;cases ho2
   refine⟨hd2,?_⟩;have hw':Region.wanted o' (yielded ops tmps)=true:=wantB_ok (fun j=> by
     simp only[List.getElem?_map,Array.getElem?_toList];cases ops[j]? <;> rfl) hr' hw2
   rw[if_pos hw'];refine(h' H₂ tmps hs hr').mono ?_;rintro t H' ⟨R',L',h1,h2,h3,h4⟩;exact⟨h3 H' h2,h4 H' t h2 h1 (h3 H' h2)⟩
theorem Tc.viaB {x:Item}(F:View→Rg→Bl→Prop)(hF:∀H R L,F H R L→Tc M St n b H cs R L ds k)(h:(∀H R L,F H R L→Tc M St n b H cs R L ds k)→Tc M St n b H₀ cs R L ds (x::k)):Tc M St n b H₀ cs R L ds (x::k):=h hF
end
end Go.RL
namespace Go.Proofs.YtdnfdeplcjaonaaGreatDoor
open Go.RL
set_option maxRecDepth 10000
set_option maxHeartbeats 16000000
abbrev Quad:=Int×Int×Int×Int
def Bk.nowQ(k:Bk)(t:Nat)(x:Quad):Bk:=k.now t x.1 x.2.1 x.2.2.1 x.2.2.2
theorem now_valid {k:Bk}(ha:k.alarm=0){t:Nat}{x:Quad}(h:k.nowOk t x.1 x.2.1 x.2.2.1 x.2.2.2=true):(k.nowQ t x).alarm=0:=by
 obtain⟨h1,h2,h3⟩:=Bk.alarm0 ha;obtain⟨_,_,hnt,hok⟩:=Bk.valid ha;have e1:(k.nowQ t x).pausesA=0:=h1;have e2:(k.nowQ t x).linesA=0:=h2;have e3:(k.nowQ t x).trainsA=0:=by
   unfold Bk.trainsA;have hn:¬6<(k.nowQ t x).nt:=by show ¬6<k.nt;omega
   rw[if_neg hn];have:firstTo (k.nowQ t x).trainBad (k.nowQ t x).nt=none:=(firstTo_none _).2 fun i hi=> by
     unfold Bk.trainBad;have hi':i<k.nt:=hi;have:trainOk ((k.nowQ t x).pf i) ((k.nowQ t x).pt i) ((k.nowQ t x).qf i) ((k.nowQ t x).qt i)=true:=by
       unfold Bk.nowQ Bk.now Bk.with
       simp only;split
       · exact h
       · exact hok i hi'
     rw[this];rfl
   rw[this];rfl
 unfold Bk.alarm;rw[if_pos e1,if_pos e2,e3]
section
variable(M:Md Tryz.prog)(H:View)
end
end Go.Proofs.YtdnfdeplcjaonaaGreatDoor
namespace Go.Proofs.YtdnfdeplcjaonaaGreatDoor
open Go.RL Go.Conc
set_option maxRecDepth 10000
theorem e163:Ent Tryz.prog 163 (Extern.Race.marked .releaseMerge):=⟨Tryz.f163,Tryz.func163,by kernel_rfl,by kernel_rfl,by kernel_rfl,by kernel_rfl⟩
theorem e164:Ent Tryz.prog 164 disE:=⟨Tryz.f164,Tryz.func164,by kernel_rfl,by kernel_rfl,by kernel_rfl,by kernel_rfl⟩
theorem e165:Ent Tryz.prog 165 enE:=⟨Tryz.f165,Tryz.func165,by kernel_rfl,by kernel_rfl,by kernel_rfl,by kernel_rfl⟩
theorem e166:Ent Tryz.prog 166 (fun _=> pure (.bool false)):=⟨Tryz.f166,Tryz.func166,by kernel_rfl,by kernel_rfl,by kernel_rfl,by kernel_rfl⟩
theorem e171:Ent Tryz.prog 171 (Extern.Race.marked .read):=⟨Tryz.f171,Tryz.func171,by kernel_rfl,by kernel_rfl,by kernel_rfl,by kernel_rfl⟩
theorem e175:Ent Tryz.prog 175 Extern.Sync.semrelease:=⟨Tryz.f175,Tryz.func175,by kernel_rfl,by kernel_rfl,by kernel_rfl,by kernel_rfl⟩
theorem e176:Ent Tryz.prog 176 (Extern.Race.marked .acquire):=⟨Tryz.f176,Tryz.func176,by kernel_rfl,by kernel_rfl,by kernel_rfl,by kernel_rfl⟩
theorem e179:Ent Tryz.prog 179 (Extern.Race.marked .write):=⟨Tryz.f179,Tryz.func179,by kernel_rfl,by kernel_rfl,by kernel_rfl,by kernel_rfl⟩
theorem e180:Ent Tryz.prog 180 Extern.Sync.semacquire:=⟨Tryz.f180,Tryz.func180,by kernel_rfl,by kernel_rfl,by kernel_rfl,by kernel_rfl⟩
theorem e210:Ent Tryz.prog 210 (Extern.Atomic.update (Op.intArith .add) .u64 true):=⟨Tryz.f210,Tryz.func210,by kernel_rfl,by kernel_rfl,by kernel_rfl,by kernel_rfl⟩
theorem e211:Ent Tryz.prog 211 (Extern.Atomic.loadT (.int .u64)):=⟨Tryz.f211,Tryz.func211,by kernel_rfl,by kernel_rfl,by kernel_rfl,by kernel_rfl⟩
theorem e212:Ent Tryz.prog 212 Extern.Atomic.storeT:=⟨Tryz.f212,Tryz.func212,by kernel_rfl,by kernel_rfl,by kernel_rfl,by kernel_rfl⟩
theorem e213:Ent Tryz.prog 213 (Extern.Atomic.casT (.int .u64)):=⟨Tryz.f213,Tryz.func213,by kernel_rfl,by kernel_rfl,by kernel_rfl,by kernel_rfl⟩
theorem fo_156_1:fldOff Tryz.prog 156 1=some 0:=by kernel_rfl
theorem fo_156_2:fldOff Tryz.prog 156 2=some 1:=by kernel_rfl
theorem fo_153_2:fldOff Tryz.prog 153 2=some 0:=by kernel_rfl
theorem un_201:Tryz.prog.underlying 201=some (.pointer 156):=by kernel_rfl
theorem un_203:Tryz.prog.underlying 203=some .unsafePointer:=by kernel_rfl
theorem un_208:Tryz.prog.underlying 208=some (.pointer 154):=by kernel_rfl
theorem un_3:Tryz.prog.underlying 3=some (.int .i64):=by kernel_rfl
theorem un_21:Tryz.prog.underlying 21=some (.int .i32):=by kernel_rfl
theorem un_154:Tryz.prog.underlying 154=some (.int .u32):=by kernel_rfl
theorem un_151:Tryz.prog.underlying 151=some (.int .u64):=by kernel_rfl
theorem sz_156:(Tryz.prog.info? 156).map (·.size)=some (1+1):=by kernel_rfl
theorem sz_154:(Tryz.prog.info? 154).map (·.size)=some (0+1):=by kernel_rfl
end Go.Proofs.YtdnfdeplcjaonaaGreatDoor
namespace Go.Proofs.YtdnfdeplcjaonaaGreatDoor
open Go.RL Go.Conc Go.ConcN Go.RL.Au
open Go.ConcR (stA smA)
open Go.ConcM (OsLater)
set_option maxRecDepth 10000
section
variable {main:Bool}{sh:Shp}{J:Goroutine→Prop}{K:Value→(Goroutine→Prop)→Prop}{blk off:Nat}
def KC(main:Bool)(K:Value→(Goroutine→Prop)→Prop):Prop:=∀v J',K v J'→∃sh',Cl Tryz.prog main sh' J'
theorem add64 {d:Int}(hc:Cl Tryz.prog main sh J)(hk:KC main K)(h:AtC J 210 [.pointer (some ⟨blk,off,none⟩),.int .u64 d] K):AtC J 170 [.pointer (some ⟨blk,off,none⟩),.int .u64 d] K:=by
 refine InC.at (by exact hc) ca170 (InC.enter (vs:= [.pointer (some ⟨blk,off,none⟩),.int .u64 d]) Tryz.func170 rfl Tryz.ntmps170 (Nat.le_of_ble_eq_true rfl) fun c cs hK=> ?_);refine .sq (.rg rfl rfl ?_);refine .g ?_;refine .dn (.sq (.rg rfl rfl ?_));refine .m ?_;refine .x .nk ?_;refine .x (.fa (zz:=fo_153_2)) ?_;refine .m ?_;refine So.callD rfl rfl rfl nofun rfl (.mk' rfl) rfl (h) ?_;intro v J' hv;obtain⟨sh',hc⟩:=hk v J' hv;refine .g ?_;refine .dn ?_;refine Sc.retCode (by exact hc) rfl (Sb.leave (by exact hc) Tryz.func170 rfl (by exact .inr ⟨_,Tryz.results170,rfl⟩) ?_);exact hK v J' hv
theorem load64(hc:Cl Tryz.prog main sh J)(hk:KC main K)(h:AtC J 211 [.pointer (some ⟨blk,off,none⟩)] K):AtC J 172 [.pointer (some ⟨blk,off,none⟩)] K:=by
 refine InC.at (by exact hc) ca172 (InC.enter (vs:= [.pointer (some ⟨blk,off,none⟩)]) Tryz.func172 rfl Tryz.ntmps172 (Nat.le_of_ble_eq_true rfl) fun c cs hK=> ?_);refine .sq (.rg rfl rfl ?_);refine .g ?_;refine .dn (.sq (.rg rfl rfl ?_));refine .m ?_;refine .x .nk ?_;refine .x (.fa (zz:=fo_153_2)) ?_;refine So.callD rfl rfl rfl nofun rfl (.mk' rfl) rfl (h) ?_;intro v J' hv;obtain⟨sh',hc⟩:=hk v J' hv;refine .g ?_;refine .dn ?_;refine Sc.retCode (by exact hc) rfl (Sb.leave (by exact hc) Tryz.func172 rfl (by exact .inr ⟨_,Tryz.results172,rfl⟩) ?_);exact hK v J' hv
theorem store64 {d:Int}(hc:Cl Tryz.prog main sh J)(hk:KC main K)(hu:∀v J',K v J'→v=.tuple #[])(h:AtC J 212 [.pointer (some ⟨blk,off,none⟩),.int .u64 d] K):AtC J 173 [.pointer (some ⟨blk,off,none⟩),.int .u64 d] K:=by
 refine InC.at (by exact hc) ca173 (InC.enter (vs:= [.pointer (some ⟨blk,off,none⟩),.int .u64 d]) Tryz.func173 rfl Tryz.ntmps173 (Nat.le_of_ble_eq_true rfl) fun c cs hK=> ?_);refine .rg rfl rfl ?_;refine .m ?_;refine .x .nk ?_;refine .x (.fa (zz:=fo_153_2)) ?_;refine .m ?_;refine So.callD rfl rfl rfl nofun rfl (.mk' rfl) rfl (h) ?_;intro v J' hv;obtain⟨sh',hc⟩:=hk v J' hv;refine .dn ?_;refine Sc.over (by exact hc) rfl (Sb.leave (by exact hc) Tryz.func173 rfl (by exact .inl ⟨Tryz.results173,rfl⟩) ?_);exact hu v J' hv▸hK v J' hv
theorem cas64 {d e:Int}(hc:Cl Tryz.prog main sh J)(hk:KC main K)(h:AtC J 213 [.pointer (some ⟨blk,off,none⟩),.int .u64 d,.int .u64 e] K):AtC J 178 [.pointer (some ⟨blk,off,none⟩),.int .u64 d,.int .u64 e] K:=by
 refine InC.at (by exact hc) ca178 (InC.enter (vs:= [.pointer (some ⟨blk,off,none⟩),.int .u64 d,.int .u64 e]) Tryz.func178 rfl Tryz.ntmps178 (Nat.le_of_ble_eq_true rfl) fun c cs hK=> ?_);refine .sq (.rg rfl rfl ?_);refine .g ?_;refine .dn (.sq (.rg rfl rfl ?_));refine .m ?_;refine .x .nk ?_;refine .x (.fa (zz:=fo_153_2)) ?_;refine .m ?_;refine .m ?_;refine So.callD rfl rfl rfl nofun rfl (.mk' rfl) rfl (h) ?_;intro v J' hv;obtain⟨sh',hc⟩:=hk v J' hv;refine .g ?_;refine .dn ?_;refine Sc.retCode (by exact hc) rfl (Sb.leave (by exact hc) Tryz.func178 rfl (by exact .inr ⟨_,Tryz.results178,rfl⟩) ?_);exact hK v J' hv
end
set_option maxHeartbeats 1000000
theorem g64_hi:∀a:Nat,a<8→∀b:Nat,b<2→bitI .and .u64 ((a*4294967296+b:Nat):Int) 2147483648=0:=by decide +kernel
theorem g64_lo:∀a:Nat,a<8→∀b:Nat,b<2→bitI .and .u64 ((a*4294967296+b:Nat):Int) 2147483647=(b:Int):=by decide +kernel
theorem g64_sh:∀a:Nat,a<8→∀b:Nat,b<2→((a*4294967296+b:Nat):Int).fdiv (2 ^ (min (32:Int).toNat IntKind.u64.bits))=(a:Int):=by decide +kernel
theorem w64_m1:IntKind.u64.wrap (-1)=18446744073709551615:=by decide +kernel
theorem sh64_m1:shiftV .shl .u64 18446744073709551615 32=some (.int .u64 18446744069414584320):=by
 show some (Value.int .u64 (IntKind.u64.wrap (18446744073709551615*2 ^ (min (32:Int).toNat IntKind.u64.bits))))=_;rw[show IntKind.u64.wrap (18446744073709551615*2 ^ (min (32:Int).toNat IntKind.u64.bits))=18446744069414584320 by decide +kernel]
theorem w64_1:IntKind.u64.wrap 1=1:=by decide +kernel
theorem sh64_1:shiftV .shl .u64 1 32=some (.int .u64 4294967296):=by
 show some (Value.int .u64 (IntKind.u64.wrap (1*2 ^ (min (32:Int).toNat IntKind.u64.bits))))=_;rw[show IntKind.u64.wrap (1*2 ^ (min (32:Int).toNat IntKind.u64.bits))=4294967296 by decide +kernel]
theorem w32_m1:IntKind.i32.wrap (-1)= -1:=by decide +kernel
theorem w32_s:∀a:Nat,a<8→IntKind.i32.wrap (a:Int)=(a:Int):=by decide +kernel
theorem wu32_s:∀a:Nat,a<8→IntKind.u32.wrap (a:Int)=(a:Int):=by decide +kernel
section
variable {X:Fk}{κ:Nat}{H:View}{cc:Frame}{cs:List Frame}
theorem shp_wg(X:Fk):∃e c,X.shp X.Wg=some (e,c)∧0<c:=⟨X.tW,2,by simp[Fk.shp],by decide⟩
theorem shp_wg1(X:Fk):∃e c,X.shp X.Wg=some (e,c)∧0+1<c:=⟨X.tW,2,by simp[Fk.shp],by decide⟩
theorem kw {K:Value→Th→Prop}{k:Nat}:KC false (fun v J'=> ∃k' t',k'<k∧K v t'∧J'=Jw Tryz.prog X κ k' t' H):=fun _ _ ⟨_,_,_,_,h⟩=> ⟨_,h▸Jw.cl0⟩
noncomputable def X103:Code:=cR (cR (cR (cR (bodyOf Tryz.f103))))
abbrev b103:FB:=⟨103,.normal,none⟩
attribute [local irreducible] IntKind.wrap bitI Int.fdiv in
theorem dn_two {a b:Nat}(ha:a<8)(hb:b<2)(hq:¬(a=0∧b=1))(hK:Jq Tryz.prog 0 (G (cc.finish (.tuple #[])) cs)){R:Rg}
   (hR:AllIn [(0,.pointer (some ⟨X.Wg,0,none⟩)),(1,.int .i64 (-1)),(4,.bool false),(6,.int .u64 ((a*4294967296+b:Nat):Int))] R):
   Sc (Jq Tryz.prog 1) 117 b103 (cc::cs) R [dcall 165 #[]] [.code X103]:=by
 refine Sc.drop hR ?_;have hsh:=shp_wg X;have f3:=w32_m1;have g1:intBin .and .u64 ((a*4294967296+b:Nat):Int) 2147483648=some (.int .u64 0):=by rw[←g64_hi a (by omega) b (by omega)];rfl
 have g2:intBin .and .u64 ((a*4294967296+b:Nat):Int) 2147483647=some (.int .u64 (b:Int)):=by rw[←g64_lo a (by omega) b (by omega)];rfl
 have g3:shiftV .shr .u64 ((a*4294967296+b:Nat):Int) 32=some (.int .u64 (a:Int)):=by rw[←g64_sh a (by omega) b (by omega)];rfl
 have g4:=w32_s a (by omega);have g5:=wu32_s b (by omega);rcases Nat.eq_zero_or_pos a with hpos|hpos;all_goals rcases Nat.eq_zero_or_pos b with hposb|hposb
 all_goals first
   | (exfalso;omega)
   | (
     refine .sq (.sq (.rg rfl rfl ?_));refine .m ?_;refine .i ?_ (z:=by assumption);refine .i ?_ (z:=neq_f (by omega));refine .m ?_;refine .sk ?_;refine .sk ?_;refine .x .pk ?_;refine .dn (.ff rfl (.sp (.sq ?_)));refine Sc.drop (R':= [(0,.pointer (some ⟨X.Wg,0,none⟩)),(1,.int .i64 (-1)),(4,.bool false),(6,.int .u64 ((a*4294967296+b:Nat):Int))]) ⟨rfl,rfl,rfl,rfl,trivial⟩ ?_;refine .rg rfl rfl ?_;refine .m ?_;refine .x (OpP.shift rfl rfl rfl (by omega) (by assumption)) ?_;refine .x (OpP.conv rfl rfl un_151 un_21 (by assumption)) ?_;refine .g ?_;refine .dn (.sq ?_);refine Sc.drop (R':= [(0,.pointer (some ⟨X.Wg,0,none⟩)),(1,.int .i64 (-1)),(6,.int .u64 ((a*4294967296+b:Nat):Int)),(7,.int .i32 (a:Int))]) ⟨rfl,rfl,rfl,rfl,trivial⟩ ?_;refine .rg rfl rfl ?_;refine .m ?_;refine .i ?_ (z:=by assumption);refine .x (OpP.conv rfl rfl un_151 un_154 (by assumption)) ?_;refine .g ?_;refine .dn (.sq (.sq ?_));refine Sc.drop (R':= [(0,.pointer (some ⟨X.Wg,0,none⟩)),(1,.int .i64 (-1)),(7,.int .i32 (a:Int)),(8,.int .u32 (b:Int))]) ⟨rfl,rfl,rfl,rfl,trivial⟩ ?_;refine .rg rfl rfl ?_;refine .m ?_;refine .m ?_;refine .i ?_ (z:=gtr_f (by omega));refine .x .pk ?_;refine .m ?_;refine .sk ?_;refine .sk ?_;refine .sk ?_;refine .sk ?_;refine .x .pk ?_;refine .dn (.ff rfl (.sp (.sq (.sq ?_))));refine Sc.drop (R':= [(0,.pointer (some ⟨X.Wg,0,none⟩)),(1,.int .i64 (-1)),(7,.int .i32 (a:Int)),(8,.int .u32 (b:Int))]) ⟨rfl,rfl,rfl,rfl,trivial⟩ ?_;refine .rg rfl rfl ?_;refine .m ?_;refine .i ?_ (z:=lss_f (by omega));refine .dn (.ff rfl (.sp (.sq (.sq ?_))));refine Sc.drop (R':= [(0,.pointer (some ⟨X.Wg,0,none⟩)),(1,.int .i64 (-1)),(7,.int .i32 (a:Int)),(8,.int .u32 (b:Int))]) ⟨rfl,rfl,rfl,rfl,trivial⟩ ?_;refine .rg rfl rfl ?_;refine .m ?_;refine .i ?_ (z:=by first|exact neq_t (by omega)|exact neq_f (by omega));refine .m ?_;first|(refine .sk ?_)|(refine .m ?_)
     first|(refine .sk ?_)|(refine .x (.it (zz:=gtr_f (by omega))) ?_)
     refine .x .pk ?_;refine .m ?_;refine .sk ?_;refine .sk ?_;refine .sk ?_;refine .sk ?_;refine .x .pk ?_;refine .dn (.ff rfl (.sp (.sq (.sq ?_))));refine Sc.drop (R':= [(0,.pointer (some ⟨X.Wg,0,none⟩)),(1,.int .i64 (-1)),(7,.int .i32 (a:Int)),(8,.int .u32 (b:Int))]) ⟨rfl,rfl,rfl,rfl,trivial⟩ ?_;refine .rg rfl rfl ?_;refine .m ?_;refine .i ?_ (z:=by first|exact gtr_t (by omega)|exact gtr_f (by omega));refine .m ?_;first|(refine .sk ?_)|(refine .m ?_)
     first|(refine .sk ?_)|(refine .x (.it (zz:=eql_t (by omega))) ?_)
     refine .x .pk ?_;refine .dn (.tt rfl ?_);refine Sc.retCode Jq.cl rfl (Jq.en e165 rfl (Sb.leave Jq.cl Tryz.func103 rfl (.inl ⟨Tryz.results103,rfl⟩) hK)))
noncomputable def Y103:Code:=cR (cR (cR (cR (cR (cR (cR X103))))))
attribute [local irreducible] IntKind.wrap bitI Int.fdiv in
theorem dn_last {a b k:Nat}(a0:a=0)(b1:b=1)(hK:Jq Tryz.prog 0 (G (cc.finish (.tuple #[])) cs)){R:Rg}
   (hR:AllIn [(0,.pointer (some ⟨X.Wg,0,none⟩)),(4,.bool false),(6,.int .u64 ((a*4294967296+b:Nat):Int)),(8,.int .u32 (b:Int))] R):Sc (Jw Tryz.prog X κ k .d2 H) 117 b103 (cc::cs) R [dcall 165 #[]] [.code Y103]:=by
 refine Sc.drop hR ?_;have hsh:=shp_wg X;have g6:intBin .sub .u32 (b:Int) 1=some (.int .u32 0):=by
   rw[b1];exact congrArg (fun x=> some (Value.int .u32 x)) (show IntKind.u32.wrap (((1:Nat):Int)-1)=0 by decide +kernel)
 have g7:intBin .neq .u64 1 ((a*4294967296+b:Nat):Int)=some (.bool false):=neq_f (by omega);refine .sq (.sq (.rg rfl rfl ?_));refine .m ?_;refine .x .nk ?_;refine .x (.fa (zz:=fo_156_1)) ?_;refine So.callD rfl rfl rfl nofun rfl (.mk' rfl) rfl (load64 Jw.cl0 kw (Jw.d2 e211)) ?_;rintro v J' ⟨k5,t,hk5,⟨rfl,rfl⟩,rfl⟩;refine .m ?_;refine .i ?_ (z:=by assumption);refine .dn (.ff rfl (.sp (.sq ?_)));refine Sc.drop (R':= [(0,.pointer (some ⟨X.Wg,0,none⟩)),(4,.bool false),(6,.int .u64 ((a*4294967296+b:Nat):Int)),(8,.int .u32 (b:Int))]) ⟨rfl,rfl,rfl,rfl,trivial⟩ ?_;refine .rg rfl rfl ?_;refine .m ?_;refine .x .nk ?_;refine .x (.fa (zz:=fo_156_1)) ?_;refine So.callD rfl rfl rfl nofun rfl (.mk' rfl) rfl (store64 Jw.cl0 kw (fun v J' ⟨_,_,_,h,_⟩=> h.1) (Jw.d3 e212)) ?_;rintro v J' ⟨k6,t,hk6,⟨rfl,rfl⟩,rfl⟩;refine .dn (.sq (.sq ?_));refine Sc.drop (R':= [(0,.pointer (some ⟨X.Wg,0,none⟩)),(4,.bool false),(6,.int .u64 ((a*4294967296+b:Nat):Int)),(8,.int .u32 (b:Int))]) ⟨rfl,rfl,rfl,rfl,trivial⟩ ?_;refine .rg rfl rfl ?_;refine .m ?_;refine .dn (.ff rfl (.sp (.bl ?_)));refine Sc.loop (by exact Jw.cl0) ?_;refine .sq (.sq (.rg rfl rfl ?_));refine .m ?_;refine .i ?_ (z:=neq_t (by omega));refine .dn (.tt rfl (.sp (.sq (.bl ?_))));refine Sc.drop (R':= [(0,.pointer (some ⟨X.Wg,0,none⟩)),(4,.bool false),(6,.int .u64 ((a*4294967296+b:Nat):Int)),(8,.int .u32 (b:Int))]) ⟨rfl,rfl,rfl,rfl,trivial⟩ ?_;refine .rg rfl rfl ?_;refine .m ?_;refine .x .nk ?_;refine .x (.fa (zz:=fo_156_2)) ?_;refine So.callD rfl rfl rfl nofun rfl (.mk' rfl) rfl (Jw.d4 (vs:= [.pointer (some ⟨X.Wg,1,none⟩),.bool false,.int .i64 0]) e175 rfl) ?_;rintro v J' ⟨k7,t,hk7,⟨rfl,rfl⟩,rfl⟩;refine So.mono ?_ (fun g=> Jq.jw);refine .dn (.ib ?_);refine Sc.drop (R':= [(0,.pointer (some ⟨X.Wg,0,none⟩)),(4,.bool false),(6,.int .u64 ((a*4294967296+b:Nat):Int)),(8,.int .u32 (b:Int))]) ⟨rfl,rfl,rfl,rfl,trivial⟩ ?_;refine .rg rfl rfl ?_;refine .m ?_;refine .i ?_ (z:=by assumption);refine .g ?_;refine .dn ?_;refine Sc.inLoop (by exact Jq.cl) ?_;refine Sc.drop (R':= [(8,.int .u32 0)]) ⟨rfl,trivial⟩ ?_;refine .sq (.sq (.rg rfl rfl ?_));refine .m ?_;refine .i ?_ (z:=neq_f (by omega));refine .dn (.ff rfl (.xt rfl ?_));refine Sc.over Jq.cl rfl (Jq.en e165 rfl (Sb.leave Jq.cl Tryz.func103 rfl (.inl ⟨Tryz.results103,rfl⟩) hK))
attribute [local irreducible] IntKind.wrap bitI Int.fdiv in
theorem dn_one {a b k:Nat}(a0:a=0)(b1:b=1)(hK:Jq Tryz.prog 0 (G (cc.finish (.tuple #[])) cs)){R:Rg}
   (hR:AllIn [(0,.pointer (some ⟨X.Wg,0,none⟩)),(1,.int .i64 (-1)),(4,.bool false),(6,.int .u64 ((a*4294967296+b:Nat):Int))] R):Sc (Jw Tryz.prog X κ k .d2 H) 117 b103 (cc::cs) R [dcall 165 #[]] [.code X103]:=by
 refine Sc.drop hR ?_;have hsh:=shp_wg X;have f3:=w32_m1;have g1:intBin .and .u64 ((a*4294967296+b:Nat):Int) 2147483648=some (.int .u64 0):=by rw[←g64_hi a (by omega) b (by omega)];rfl
 have g2:intBin .and .u64 ((a*4294967296+b:Nat):Int) 2147483647=some (.int .u64 (b:Int)):=by rw[←g64_lo a (by omega) b (by omega)];rfl
 have g3:shiftV .shr .u64 ((a*4294967296+b:Nat):Int) 32=some (.int .u64 (a:Int)):=by rw[←g64_sh a (by omega) b (by omega)];rfl
 have g4:=w32_s a (by omega);have g5:=wu32_s b (by omega);refine .sq (.sq (.rg rfl rfl ?_));refine .m ?_;refine .i ?_ (z:=by assumption);refine .i ?_ (z:=neq_f (by omega));refine .m ?_;refine .sk ?_;refine .sk ?_;refine .x .pk ?_;refine .dn (.ff rfl (.sp (.sq ?_)));refine Sc.drop (R':= [(0,.pointer (some ⟨X.Wg,0,none⟩)),(1,.int .i64 (-1)),(4,.bool false),(6,.int .u64 ((a*4294967296+b:Nat):Int))]) ⟨rfl,rfl,rfl,rfl,trivial⟩ ?_;refine .rg rfl rfl ?_;refine .m ?_;refine .x (OpP.shift rfl rfl rfl (by omega) (by assumption)) ?_;refine .x (OpP.conv rfl rfl un_151 un_21 (by assumption)) ?_;refine .g ?_;refine .dn (.sq ?_);refine Sc.drop (R':= [(0,.pointer (some ⟨X.Wg,0,none⟩)),(1,.int .i64 (-1)),(4,.bool false),(6,.int .u64 ((a*4294967296+b:Nat):Int)),(7,.int .i32 (a:Int))]) ⟨rfl,rfl,rfl,rfl,rfl,trivial⟩ ?_;refine .rg rfl rfl ?_;refine .m ?_;refine .i ?_ (z:=by assumption);refine .x (OpP.conv rfl rfl un_151 un_154 (by assumption)) ?_;refine .g ?_;refine .dn (.sq (.sq ?_));refine Sc.drop (R':= [(0,.pointer (some ⟨X.Wg,0,none⟩)),(1,.int .i64 (-1)),(4,.bool false),(6,.int .u64 ((a*4294967296+b:Nat):Int)),(7,.int .i32 (a:Int)),(8,.int .u32 (b:Int))]) ⟨rfl,rfl,rfl,rfl,rfl,rfl,trivial⟩ ?_;refine .rg rfl rfl ?_;refine .m ?_;refine .m ?_;refine .i ?_ (z:=gtr_f (by omega));refine .x .pk ?_;refine .m ?_;refine .sk ?_;refine .sk ?_;refine .sk ?_;refine .sk ?_;refine .x .pk ?_;refine .dn (.ff rfl (.sp (.sq (.sq ?_))));refine Sc.drop (R':= [(0,.pointer (some ⟨X.Wg,0,none⟩)),(1,.int .i64 (-1)),(4,.bool false),(6,.int .u64 ((a*4294967296+b:Nat):Int)),(7,.int .i32 (a:Int)),(8,.int .u32 (b:Int))]) ⟨rfl,rfl,rfl,rfl,rfl,rfl,trivial⟩ ?_;refine .rg rfl rfl ?_;refine .m ?_;refine .i ?_ (z:=lss_f (by omega));refine .dn (.ff rfl (.sp (.sq (.sq ?_))));refine Sc.drop (R':= [(0,.pointer (some ⟨X.Wg,0,none⟩)),(1,.int .i64 (-1)),(4,.bool false),(6,.int .u64 ((a*4294967296+b:Nat):Int)),(7,.int .i32 (a:Int)),(8,.int .u32 (b:Int))]) ⟨rfl,rfl,rfl,rfl,rfl,rfl,trivial⟩ ?_;refine .rg rfl rfl ?_;refine .m ?_;refine .i ?_ (z:=neq_t (by omega));refine .m ?_;refine .m ?_;refine .i ?_ (z:=gtr_f (by omega));refine .x .pk ?_;refine .m ?_;refine .sk ?_;refine .sk ?_;refine .sk ?_;refine .sk ?_;refine .x .pk ?_;refine .dn (.ff rfl (.sp (.sq (.sq ?_))));refine Sc.drop (R':= [(0,.pointer (some ⟨X.Wg,0,none⟩)),(1,.int .i64 (-1)),(4,.bool false),(6,.int .u64 ((a*4294967296+b:Nat):Int)),(7,.int .i32 (a:Int)),(8,.int .u32 (b:Int))]) ⟨rfl,rfl,rfl,rfl,rfl,rfl,trivial⟩ ?_;refine .rg rfl rfl ?_;refine .m ?_;refine .i ?_ (z:=gtr_f (by omega));refine .m ?_;refine .m ?_;refine .i ?_ (z:=eql_f (by omega));refine .x .pk ?_;refine .dn (.ff rfl (.sp ?_));exact dn_last a0 b1 hK ⟨rfl,rfl,rfl,rfl,trivial⟩
attribute [local irreducible] IntKind.wrap bitI Int.fdiv in
theorem donew_c {k:Nat}:AtC (Jw Tryz.prog X κ k .wr H) 103 [.pointer (some ⟨X.Wg,0,none⟩),.int .i64 (-1)] fun v J'=> v=.tuple #[]∧J'=Jq Tryz.prog 0:=by
 refine InC.at (by exact Jw.clX rfl) ca103 (InC.enter (vs:= [.pointer (some ⟨X.Wg,0,none⟩),.int .i64 (-1)]) Tryz.func103 rfl Tryz.ntmps103 (Nat.le_of_ble_eq_true rfl) fun c cs hK=> ?_);have hsh:=shp_wg X;have f1:=w64_m1;have f2:=sh64_m1;have f3:=w32_m1;refine .sq (.tt rfl (.sq (.sq (.rg rfl rfl ?_))));refine .m ?_;refine .i ?_ (z:=lss_t (by omega));refine .dn (.tt rfl (.rg rfl rfl ?_));refine .m ?_;refine .x (OpP.raw rfl rfl un_201 un_203 sz_156 (by assumption)) ?_;refine So.callD rfl rfl rfl nofun rfl (.mk' rfl) rfl (Jw.wr e163) ?_;rintro v J' ⟨rfl,k1,hk1,rfl⟩;refine .dn (.sq (.rg rfl rfl ?_));refine So.callD rfl rfl rfl nofun rfl (.mk' rfl) rfl (Jw.wk e164) ?_;rintro v J' ⟨k2,t,hk2,⟨rfl,rfl⟩,rfl⟩;refine .dn (.rg rfl rfl ?_);refine So.defer Jw.cl0 (f:=165) (vs:= []) rfl nofun rfl rfl ⟨_,rfl⟩ rfl ?_;refine .dn (.sq ?_);refine Sc.drop (R':= [(0,.pointer (some ⟨X.Wg,0,none⟩)),(1,.int .i64 (-1))]) ⟨rfl,rfl,trivial⟩ ?_;refine .rg rfl rfl ?_;refine .g ?_;refine .dn (.sq (.sq (.rg rfl rfl ?_)));refine So.callD rfl rfl rfl nofun rfl (.mk' rfl) rfl (Jw.wi e166) ?_;rintro v J' ⟨k3,t,hk3,⟨rfl,rfl⟩,rfl⟩;refine .dn (.ff rfl (.sp (.sq ?_)));refine Sc.drop (R':= [(0,.pointer (some ⟨X.Wg,0,none⟩)),(1,.int .i64 (-1)),(4,.bool false)]) ⟨rfl,rfl,rfl,trivial⟩ ?_;refine .rg rfl rfl ?_;refine .m ?_;refine .x .nk ?_;refine .x (.fa (zz:=fo_156_1)) ?_;refine .m ?_;refine .x (OpP.conv rfl rfl un_3 un_151 (by assumption)) ?_;refine .x (OpP.shift rfl rfl rfl (by omega) (by assumption)) ?_;refine So.callD rfl rfl rfl nofun rfl (.mk' rfl) rfl (add64 Jw.cl0 kw (Jw.d1 e210)) ?_;rintro v J' ⟨k4,t,hk4,⟨a,b,ha,hb,rfl,rfl⟩,rfl⟩;by_cases hq:a=0∧b=1
 · rw[if_pos hq];refine .g ?_;refine .dn ?_;exact dn_one hq.1 hq.2 (hK _ _ ⟨rfl,rfl⟩) ⟨rfl,rfl,rfl,rfl,trivial⟩
 · rw[if_neg hq];refine So.mono ?_ (fun g=> Jq.jw);refine .g ?_;refine .dn ?_;exact dn_two (by omega) (by omega) hq (hK _ _ ⟨rfl,rfl⟩) ⟨rfl,rfl,rfl,rfl,trivial⟩
theorem done_d {k n:Nat}{b:FB}{R:Rg}{ds:List Deferred}(hb:b.rd=none)
   (h:Sb (Jq Tryz.prog 0) n b cs R ds):Sb (Jw Tryz.prog X κ k .wr H) n b cs R (dcall 105 #[.pointer (some ⟨X.Wg,0,none⟩)]::ds):=by
 refine Sb.enterD (vs:= [.pointer (some ⟨X.Wg,0,none⟩)]) Jw.cl0 hb Tryz.func105 (by kernel_rfl) rfl Tryz.ntmps105 (Nat.le_of_ble_eq_true rfl) fun c hm hc=> ?_;refine .rg rfl rfl ?_;refine .m ?_;refine So.callD rfl rfl rfl nofun rfl (.mk' rfl) rfl (donew_c) ?_;rintro v J' ⟨rfl,rfl⟩;refine .dn ?_;refine Sc.over Jq.cl rfl (Sb.leaveD Jq.cl Tryz.func105 rfl Tryz.results105 (.inl hm) (hc _ h))
end
section
variable {X:Fk}{H:View}{Fin:Goroutine→Prop}{j:Nat}{cc:Frame}{cs:List Frame}
theorem km {K:Value→Mn→Prop}{k:Nat}:KC true (fun v J'=> ∃k' m',k'<k∧K v m'∧J'=Jm Tryz.prog X Fin k' m' j H):=fun _ _ ⟨_,_,_,_,h⟩=> ⟨_,h▸Jm.cl⟩
theorem w32_1:IntKind.i32.wrap 1=1:=by decide +kernel
attribute [local irreducible] IntKind.wrap bitI Int.fdiv in
theorem addone_c {k:Nat}:AtC (Jm Tryz.prog X Fin k .kd j H) 103 [.pointer (some ⟨X.Wg,0,none⟩),.int .i64 1] fun v J'=> v=.tuple #[]∧∃k',J'=Jm Tryz.prog X Fin k' .go j H:=by
 refine InC.at (by exact Jm.cl) ca103 (InC.enter (vs:= [.pointer (some ⟨X.Wg,0,none⟩),.int .i64 1]) Tryz.func103 rfl Tryz.ntmps103 (Nat.le_of_ble_eq_true rfl) fun c cs hK=> ?_);have hsh:=shp_wg1 X;have f1:=w64_1;have f2:=sh64_1;have f3:=w32_1;refine .sq (.tt rfl (.sq (.sq (.rg rfl rfl ?_))));refine .m ?_;refine .i ?_ (z:=lss_f (by omega));refine .dn (.ff rfl (.sp (.sq (.rg rfl rfl ?_))));refine So.callD rfl rfl rfl nofun rfl (.mk' rfl) rfl (Jm.kd e164) ?_;rintro v J' ⟨k2,t,hk2,⟨rfl,rfl⟩,rfl⟩;refine .dn (.rg rfl rfl ?_);refine So.defer Jm.cl (f:=165) (vs:= []) rfl nofun rfl rfl ⟨_,rfl⟩ rfl ?_;refine .dn (.sq (.rg rfl rfl ?_));refine .g ?_;refine .dn (.sq (.sq (.rg rfl rfl ?_)));refine So.callD rfl rfl rfl nofun rfl (.mk' rfl) rfl (Jm.ki e166) ?_;rintro v J' ⟨k3,t,hk3,⟨rfl,rfl⟩,rfl⟩;refine .dn (.ff rfl (.sp (.sq (.rg rfl rfl ?_))));refine .m ?_;refine .x .nk ?_;refine .x (.fa (zz:=fo_156_1)) ?_;refine .m ?_;refine .x (OpP.conv rfl rfl un_3 un_151 (by assumption)) ?_;refine .x (OpP.shift rfl rfl rfl (by omega) (by assumption)) ?_;refine So.callD rfl rfl rfl nofun rfl (.mk' rfl) rfl (add64 Jm.cl km (Jm.ka e210)) ?_;rintro v J' ⟨k4,t,hk4,⟨a,ha,rfl,rfl⟩,rfl⟩;have e0:(((a+1)*4294967296:Nat):Int)=(((a+1)*4294967296+0:Nat):Int):=(congrArg (fun x:Nat=> (x:Int)) (Nat.add_zero _)).symm;have g1:intBin .and .u64 (((a+1)*4294967296:Nat):Int) 2147483648=some (.int .u64 0):=by rw[e0,←g64_hi (a+1) (by omega) 0 (by omega)];rfl
 have g2:intBin .and .u64 (((a+1)*4294967296:Nat):Int) 2147483647=some (.int .u64 0):=by
   have:=g64_lo (a+1) (by omega) 0 (by omega);rw[e0];exact congrArg (fun x=> some (Value.int .u64 x)) this
 have g3:shiftV .shr .u64 (((a+1)*4294967296:Nat):Int) 32=some (.int .u64 ((a+1:Nat):Int)):=by rw[e0,←g64_sh (a+1) (by omega) 0 (by omega)];rfl
 have g4:=w32_s (a+1) (by omega);have g5:IntKind.u32.wrap 0=0:=wu32_s 0 (by omega);have gg:(0:Int)<((a+1:Nat):Int):=by omega
 refine .g ?_;refine .dn ?_;refine Sc.drop (R':= [(0,.pointer (some ⟨X.Wg,0,none⟩)),(1,.int .i64 1),(4,.bool false),(6,.int .u64 (((a+1)*4294967296:Nat):Int))]) ⟨rfl,rfl,rfl,rfl,trivial⟩ ?_;refine .sq (.sq (.rg rfl rfl ?_));refine .m ?_;refine .i ?_ (z:=by assumption);refine .i ?_ (z:=neq_f (by omega));refine .m ?_;refine .sk ?_;refine .sk ?_;refine .x .pk ?_;refine .dn (.ff rfl (.sp (.sq ?_)));refine Sc.drop (R':= [(0,.pointer (some ⟨X.Wg,0,none⟩)),(1,.int .i64 1),(4,.bool false),(6,.int .u64 (((a+1)*4294967296:Nat):Int))]) ⟨rfl,rfl,rfl,rfl,trivial⟩ ?_;refine .rg rfl rfl ?_;refine .m ?_;refine .x (OpP.shift rfl rfl rfl (by omega) (by assumption)) ?_;refine .x (OpP.conv rfl rfl un_151 un_21 (by assumption)) ?_;refine .g ?_;refine .dn ?_;refine Sc.drop (R':= [(0,.pointer (some ⟨X.Wg,0,none⟩)),(1,.int .i64 1),(4,.bool false),(6,.int .u64 (((a+1)*4294967296:Nat):Int)),(7,.int .i32 ((a+1:Nat):Int))]) ⟨rfl,rfl,rfl,rfl,rfl,trivial⟩ ?_;refine .sq (.rg rfl rfl ?_);refine .m ?_;refine .i ?_ (z:=by assumption);refine .x (OpP.conv rfl rfl un_151 un_154 (by assumption)) ?_;refine .g ?_;refine .dn ?_;refine Sc.drop (R':= [(0,.pointer (some ⟨X.Wg,0,none⟩)),(1,.int .i64 1),(4,.bool false),(7,.int .i32 ((a+1:Nat):Int)),(8,.int .u32 0)]) ⟨rfl,rfl,rfl,rfl,rfl,trivial⟩ ?_;refine .sq (.sq ?_);by_cases hz:a=0
 · rw[if_pos hz];have q1:intBin .eql .i32 ((a+1:Nat):Int) 1=some (.bool true):=eql_t (by omega);refine .rg rfl rfl ?_;refine .m ?_;refine .m ?_;refine .i ?_ (z:=gtr_t (by omega));refine .x .pk ?_;refine .m ?_;refine .m ?_;refine .m ?_;refine .x (OpP.conv rfl rfl un_3 un_21 (by assumption)) ?_;refine .i ?_ (z:=by assumption);refine .x .pk ?_;refine .dn (.tt rfl ?_);refine Sc.drop (R':= [(0,.pointer (some ⟨X.Wg,0,none⟩)),(1,.int .i64 1),(4,.bool false),(7,.int .i32 ((a+1:Nat):Int)),(8,.int .u32 0)]) ⟨rfl,rfl,rfl,rfl,rfl,trivial⟩ ?_;refine .rg rfl rfl ?_;refine .m ?_;refine .x .nk ?_;refine .x (.fa (zz:=fo_156_2)) ?_;refine .x (OpP.raw rfl rfl un_208 un_203 sz_154 (by assumption)) ?_;refine So.callD rfl rfl rfl nofun rfl (.mk' rfl) rfl (Jm.kr e171) ?_;rintro v J' ⟨rfl,k5,hk5,rfl⟩;refine .dn ?_;refine Sc.drop (R':= [(0,.pointer (some ⟨X.Wg,0,none⟩)),(1,.int .i64 1),(4,.bool false),(7,.int .i32 ((a+1:Nat):Int)),(8,.int .u32 0)]) ⟨rfl,rfl,rfl,rfl,rfl,trivial⟩ ?_;refine .sq (.sq (.rg rfl rfl ?_));refine .m ?_;refine .i ?_ (z:=lss_f (by omega));refine .dn (.ff rfl (.sp (.sq (.sq (.rg rfl rfl ?_)))));refine .m ?_;refine .i ?_ (z:=neq_f (by omega));refine .m ?_;refine .sk ?_;refine .sk ?_;refine .x .pk ?_;refine .m ?_;refine .sk ?_;refine .sk ?_;refine .sk ?_;refine .sk ?_;refine .x .pk ?_;refine .dn (.ff rfl (.sp (.sq (.sq ?_))));refine Sc.drop (R':= [(0,.pointer (some ⟨X.Wg,0,none⟩)),(1,.int .i64 1),(4,.bool false),(7,.int .i32 ((a+1:Nat):Int)),(8,.int .u32 0)]) ⟨rfl,rfl,rfl,rfl,rfl,trivial⟩ ?_;refine .rg rfl rfl ?_;refine .m ?_;refine .i ?_ (z:=gtr_t (by omega));refine .m ?_;refine .sk ?_;refine .sk ?_;refine .x .pk ?_;refine .dn (.tt rfl ?_);refine Sc.retCode Jm.cl rfl (Jm.ke e165 rfl (fun k' _=> Sb.leave Jm.cl Tryz.func103 rfl (.inl ⟨Tryz.results103,rfl⟩) (hK _ _ ⟨rfl,k',rfl⟩)))
 · rw[if_neg hz];have q1:intBin .eql .i32 ((a+1:Nat):Int) 1=some (.bool false):=eql_f (by omega);refine .rg rfl rfl ?_;refine .m ?_;refine .m ?_;refine .i ?_ (z:=gtr_t (by omega));refine .x .pk ?_;refine .m ?_;refine .m ?_;refine .m ?_;refine .x (OpP.conv rfl rfl un_3 un_21 (by assumption)) ?_;refine .i ?_ (z:=by assumption);refine .x .pk ?_;refine .dn (.ff rfl (.sp (.sq (.sq ?_))));refine Sc.drop (R':= [(0,.pointer (some ⟨X.Wg,0,none⟩)),(1,.int .i64 1),(4,.bool false),(7,.int .i32 ((a+1:Nat):Int)),(8,.int .u32 0)]) ⟨rfl,rfl,rfl,rfl,rfl,trivial⟩ ?_;refine .rg rfl rfl ?_;refine .m ?_;refine .i ?_ (z:=lss_f (by omega));refine .dn (.ff rfl (.sp (.sq (.sq (.rg rfl rfl ?_)))));refine .m ?_;refine .i ?_ (z:=neq_f (by omega));refine .m ?_;refine .sk ?_;refine .sk ?_;refine .x .pk ?_;refine .m ?_;refine .sk ?_;refine .sk ?_;refine .sk ?_;refine .sk ?_;refine .x .pk ?_;refine .dn (.ff rfl (.sp (.sq (.sq ?_))));refine Sc.drop (R':= [(0,.pointer (some ⟨X.Wg,0,none⟩)),(1,.int .i64 1),(4,.bool false),(7,.int .i32 ((a+1:Nat):Int)),(8,.int .u32 0)]) ⟨rfl,rfl,rfl,rfl,rfl,trivial⟩ ?_;refine .rg rfl rfl ?_;refine .m ?_;refine .i ?_ (z:=gtr_t (by omega));refine .m ?_;refine .sk ?_;refine .sk ?_;refine .x .pk ?_;refine .dn (.tt rfl ?_);refine Sc.retCode Jm.cl rfl (Jm.ke e165 rfl (fun k' _=> Sb.leave Jm.cl Tryz.func103 rfl (.inl ⟨Tryz.results103,rfl⟩) (hK _ _ ⟨rfl,k',rfl⟩)))
end
section
variable {X:Fk}{H:View}{Fin:Goroutine→Prop}{j:Nat}{cc:Frame}{cs:List Frame}
noncomputable def B165:Code:=cB (cB (cR (bodyOf Tryz.f107)))
abbrev b107:FB:=⟨107,.normal,none⟩
attribute [local irreducible] IntKind.wrap bitI Int.fdiv in
theorem wait_head(hc:Cl Tryz.prog true noSh Fin)(hK:Fin (G (cc.finish (.tuple #[])) cs))(k:Nat):∀R:Rg,AllIn [(0,.pointer (some ⟨X.Wg,0,none⟩))] R→Sc (Jm Tryz.prog X Fin k .w1 j H) 84 b107 (cc::cs) R [] [.code B165,.inLoop B165,.inBlock 0]:=by
 induction k using Nat.strongRecOn with
 | ind k IH=>
   intro R hR;refine Sc.drop hR ?_;have hsh:=shp_wg X;have hsh1:=shp_wg1 X;refine Sc.block (by first|exact Jm.cl|exact hc) ?_;refine Sc.seq (by first|exact Jm.cl|exact hc) ?_;refine .rg rfl rfl ?_;refine .m ?_;refine .x .nk ?_;refine .x (.fa (zz:=fo_156_1)) ?_;refine So.callD rfl rfl rfl nofun rfl (.mk' rfl) rfl (load64 Jm.cl km (Jm.w1 e211)) ?_;rintro v J' ⟨k1,t,hk1,⟨a,ha,rfl,rfl⟩,rfl⟩;have e0:((a*4294967296:Nat):Int)=((a*4294967296+0:Nat):Int):=(congrArg (fun x:Nat=> (x:Int)) (Nat.add_zero _)).symm;have g1:intBin .and .u64 ((a*4294967296:Nat):Int) 2147483648=some (.int .u64 0):=by rw[e0,←g64_hi a (by omega) 0 (by omega)];rfl
   have g2:intBin .and .u64 ((a*4294967296:Nat):Int) 2147483647=some (.int .u64 0):=by
     have:=g64_lo a (by omega) 0 (by omega);rw[e0];exact congrArg (fun x=> some (Value.int .u64 x)) this
   have g3:shiftV .shr .u64 ((a*4294967296:Nat):Int) 32=some (.int .u64 (a:Int)):=by rw[e0,←g64_sh a (by omega) 0 (by omega)];rfl
   have g4:=w32_s a (by omega);have g5:IntKind.u32.wrap 0=0:=wu32_s 0 (by omega);have g6:intBin .add .u64 ((a*4294967296:Nat):Int) 1=some (.int .u64 ((a*4294967296+1:Nat):Int)):=by
     have h:∀a:Nat,a<8→IntKind.u64.wrap (((a*4294967296:Nat):Int)+1)=((a*4294967296+1:Nat):Int):=by decide +kernel
     exact congrArg (fun x=> some (Value.int .u64 x)) (h a (by omega))
   refine .g ?_;refine .dn ?_;refine Sc.drop (R':= [(0,.pointer (some ⟨X.Wg,0,none⟩)),(2,.int .u64 ((a*4294967296:Nat):Int))]) ⟨rfl,rfl,trivial⟩ ?_;refine Sc.seq (by first|exact Jm.cl|exact hc) ?_;refine .rg rfl rfl ?_;refine .m ?_;refine .x (OpP.shift rfl rfl rfl (by omega) (by assumption)) ?_;refine .x (OpP.conv rfl rfl un_151 un_21 (by assumption)) ?_;refine .g ?_;refine .dn ?_;refine Sc.drop (R':= [(0,.pointer (some ⟨X.Wg,0,none⟩)),(2,.int .u64 ((a*4294967296:Nat):Int)),(3,.int .i32 (a:Int))]) ⟨rfl,rfl,rfl,trivial⟩ ?_;refine Sc.seq (by first|exact Jm.cl|exact hc) ?_;refine .rg rfl rfl ?_;refine .m ?_;refine .i ?_ (z:=by assumption);refine .x (OpP.conv rfl rfl un_151 un_154 (by assumption)) ?_;refine .g ?_;refine .dn ?_;refine Sc.drop (R':= [(0,.pointer (some ⟨X.Wg,0,none⟩)),(2,.int .u64 ((a*4294967296:Nat):Int)),(3,.int .i32 (a:Int)),(4,.int .u32 0)]) ⟨rfl,rfl,rfl,rfl,trivial⟩ ?_;refine Sc.seq (by first|exact Jm.cl|exact hc) ?_;refine Sc.seq (by first|exact Jm.cl|exact hc) ?_;by_cases hz:a=0
   · rw[if_pos hz];have q1:intBin .eql .i32 (a:Int) 0=some (.bool true):=eql_t (by omega);refine .rg rfl rfl ?_;refine .m ?_;refine .i ?_ (z:=by assumption);refine .dn ?_;refine Sc.cond (by first|exact Jm.cl|exact hc) (t:=true) rfl (fun _=> ?_) (fun h=> nomatch h);refine Sc.seq (by first|exact Jm.cl|exact hc) ?_;refine Sc.cond (by first|exact Jm.cl|exact hc) (t:=true) rfl (fun _=> ?_) (fun h=> nomatch h);refine Sc.seq (by first|exact Jm.cl|exact hc) ?_;refine .rg rfl rfl ?_;refine So.callD rfl rfl rfl nofun rfl (.mk' rfl) rfl (Jm.we e165) ?_;rintro v J' ⟨k2,t,hk2,⟨rfl,rfl⟩,rfl⟩;refine .dn (.rg rfl rfl ?_);refine .m ?_;refine .x (OpP.raw rfl rfl un_201 un_203 sz_156 (by assumption)) ?_;refine So.callD rfl rfl rfl nofun rfl (.mk' rfl) rfl (Jm.aq e176) ?_;rintro v J' ⟨rfl,rfl⟩;refine .dn (.sq (.sq (.rg rfl rfl ?_)));refine .m ?_;refine .i ?_ (z:=eql_t (by omega));refine .m ?_;refine .m ?_;refine .i ?_ (z:=by assumption);refine .i ?_ (z:=neq_f (by omega));refine .x .pk ?_;refine .m ?_;refine .sk ?_;refine .sk ?_;refine .x .pk ?_;refine .dn (.ff rfl (.sp ?_));refine Sc.retCode (by exact hc) rfl (Sb.leave (by exact hc) Tryz.func107 rfl (by exact .inl ⟨Tryz.results107,rfl⟩) ?_);exact hK
   · rw[if_neg hz];have q1:intBin .eql .i32 (a:Int) 0=some (.bool false):=eql_f (by omega);refine .rg rfl rfl ?_;refine .m ?_;refine .i ?_ (z:=by assumption);refine .dn ?_;refine Sc.cond (by first|exact Jm.cl|exact hc) (t:=false) rfl (fun h=> nomatch h) (fun _=> ?_);refine Sc.skip (by first|exact Jm.cl|exact hc) ?_;refine Sc.seq (by first|exact Jm.cl|exact hc) ?_;refine .rg rfl rfl ?_;refine .m ?_;refine .x .nk ?_;refine .x (.fa (zz:=fo_156_1)) ?_;refine .m ?_;refine .m ?_;refine .i ?_ (z:=by assumption);refine So.callD rfl rfl rfl nofun rfl (.mk' rfl) rfl (cas64 Jm.cl km (Jm.w2 e213)) ?_;rintro v J' ⟨k2,t,hk2,⟨rfl,rfl⟩|⟨rfl,rfl⟩,rfl⟩
     · refine .dn ?_;refine Sc.cond (by first|exact Jm.cl|exact hc) (t:=true) rfl (fun _=> ?_) (fun h=> nomatch h);refine Sc.seq (by first|exact Jm.cl|exact hc) ?_;refine Sc.seq (by first|exact Jm.cl|exact hc) ?_;refine Sc.drop (R':= [(0,.pointer (some ⟨X.Wg,0,none⟩)),(2,.int .u64 ((a*4294967296:Nat):Int)),(4,.int .u32 0)]) ⟨rfl,rfl,rfl,trivial⟩ ?_;refine .rg rfl rfl ?_;refine .m ?_;refine .m ?_;refine .i ?_ (z:=eql_t (by omega));refine .x .pk ?_;refine .dn ?_;refine Sc.cond (by first|exact Jm.cl|exact hc) (t:=true) rfl (fun _=> ?_) (fun h=> nomatch h);refine .rg rfl rfl ?_;refine .m ?_;refine .x .nk ?_;refine .x (.fa (zz:=fo_156_2)) ?_;refine .x (OpP.raw rfl rfl un_208 un_203 sz_154 (by assumption)) ?_;refine So.callD rfl rfl rfl nofun rfl (.mk' rfl) rfl (Jm.wm e179) ?_;rintro v J' ⟨rfl,k3,hk3,rfl⟩;refine .dn ?_;refine Sc.drop (R':= [(0,.pointer (some ⟨X.Wg,0,none⟩)),(2,.int .u64 ((a*4294967296:Nat):Int)),(4,.int .u32 0)]) ⟨rfl,rfl,rfl,trivial⟩ ?_;refine Sc.seq (by first|exact Jm.cl|exact hc) ?_;refine .rg rfl rfl ?_;refine .g ?_;refine .dn ?_;refine Sc.seq (by first|exact Jm.cl|exact hc) ?_;refine Sc.seq (by first|exact Jm.cl|exact hc) ?_;refine .rg rfl rfl ?_;refine .m ?_;refine .i ?_ (z:=by assumption);refine .i ?_ (z:=neq_f (by omega));refine .m ?_;refine .sk ?_;refine .x .pk ?_;refine .dn ?_;refine Sc.cond (by first|exact Jm.cl|exact hc) (t:=false) rfl (fun h=> nomatch h) (fun _=> ?_);refine Sc.skip (by first|exact Jm.cl|exact hc) ?_;refine Sc.seq (by first|exact Jm.cl|exact hc) ?_;refine .rg rfl rfl ?_;refine .m ?_;refine .x .nk ?_;refine .x (.fa (zz:=fo_156_2)) ?_;refine .m ?_;refine So.callD rfl rfl rfl nofun rfl (.mk' rfl) rfl (Jm.ws (vs:= [.pointer (some ⟨X.Wg,1,none⟩),.bool false]) e180 rfl) ?_;rintro v J' ⟨k4,t,hk4,⟨rfl,rfl⟩,rfl⟩;refine .dn ?_;refine Sc.drop (R':= [(0,.pointer (some ⟨X.Wg,0,none⟩))]) ⟨rfl,trivial⟩ ?_;refine Sc.seq (by first|exact Jm.cl|exact hc) ?_;refine .rg rfl rfl ?_;refine .m ?_;refine .x .nk ?_;refine .x (.fa (zz:=fo_156_1)) ?_;refine So.callD rfl rfl rfl nofun rfl (.mk' rfl) rfl (load64 Jm.cl km (Jm.w4 e211)) ?_;rintro v J' ⟨k5,t,hk5,⟨rfl,rfl⟩,rfl⟩;refine .i ?_ (z:=neq_f (by omega));refine .g ?_;refine .dn ?_;refine Sc.seq (by first|exact Jm.cl|exact hc) ?_;refine Sc.cond (by first|exact Jm.cl|exact hc) (t:=true) rfl (fun _=> ?_) (fun h=> nomatch h);refine Sc.seq (by first|exact Jm.cl|exact hc) ?_;refine .rg rfl rfl ?_;refine So.callD rfl rfl rfl nofun rfl (.mk' rfl) rfl (Jm.we e165) ?_;rintro v J' ⟨k6,t,hk6,⟨rfl,rfl⟩,rfl⟩;refine .dn (.rg rfl rfl ?_);refine .m ?_;refine .x (OpP.raw rfl rfl un_201 un_203 sz_156 (by assumption)) ?_;refine So.callD rfl rfl rfl nofun rfl (.mk' rfl) rfl (Jm.aq e176) ?_;rintro v J' ⟨rfl,rfl⟩;refine .dn (.sq (.sq (.rg rfl rfl ?_)));refine .m ?_;refine .dn (.ff rfl (.sp ?_));refine Sc.retCode (by exact hc) rfl (Sb.leave (by exact hc) Tryz.func107 rfl (by exact .inl ⟨Tryz.results107,rfl⟩) ?_);exact hK
     · refine .dn ?_;refine Sc.cond (by first|exact Jm.cl|exact hc) (t:=false) rfl (fun h=> nomatch h) (fun _=> ?_);refine Sc.skip (by first|exact Jm.cl|exact hc) ?_;refine Sc.inBlock (by first|exact Jm.cl|exact hc) ?_;refine Sc.inLoop (by exact Jm.cl) ?_;exact IH k2 (by omega) _ ⟨rfl,trivial⟩
theorem wait_c {k:Nat}(hc:Cl Tryz.prog true noSh Fin):AtC (Jm Tryz.prog X Fin k .wd j H) 107 [.pointer (some ⟨X.Wg,0,none⟩)] fun v J'=> v=.tuple #[]∧J'=Fin:=by
 refine InC.at (by exact Jm.cl) ca107 (InC.enter (vs:= [.pointer (some ⟨X.Wg,0,none⟩)]) Tryz.func107 rfl Tryz.ntmps107 (Nat.le_of_ble_eq_true rfl) fun c cs hK=> ?_);refine Sc.seq (by first|exact Jm.cl|exact hc) ?_;refine Sc.cond (by first|exact Jm.cl|exact hc) (t:=true) rfl (fun _=> ?_) (fun h=> nomatch h);refine .rg rfl rfl ?_;refine So.callD rfl rfl rfl nofun rfl (.mk' rfl) rfl (Jm.wd e164) ?_;rintro v J' ⟨k2,t,hk2,⟨rfl,rfl⟩,rfl⟩;refine .dn ?_;refine Sc.block (by first|exact Jm.cl|exact hc) ?_;refine Sc.loop (by exact Jm.cl) ?_;exact wait_head hc (hK _ _ ⟨rfl,rfl⟩) k2 _ ⟨rfl,trivial⟩
end
end Go.Proofs.YtdnfdeplcjaonaaGreatDoor
