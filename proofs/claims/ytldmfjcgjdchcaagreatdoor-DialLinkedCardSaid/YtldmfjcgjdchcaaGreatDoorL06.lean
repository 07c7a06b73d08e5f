/-
 Texts of the proofs over baudot/dial.
-/
import Derived.Test.YtldmfjcgjdchcaaGreatDoorL05
namespace Go.Proofs.YtldmfjcgjdchcaaGreatDoor
open Go.RL Go.Proofs.Tryz
set_option maxRecDepth 10000
set_option maxHeartbeats 16000000
def BF(H:View)(F:Option Addr)(n:Nat)(x:Nat->List UInt8):Prop:=
 n=0\/∃b o f gs gt gz,F=some ⟨b,o,none⟩/\H b=some (f,.cells ⟨gs⟩ gt gz)/\∀j:Nat,j<n->gD false 1 gs (o+(j:Int).toNat*1)=some (mA (x j))
theorem BF.le {H H':View}{F:Option Addr}{n:Nat}{x:Nat->List UInt8}(h:BF H F n x)(k:H.le H'):BF H' F n x:=
 h.imp id fun⟨b,o,f,gs,gt,gz,h1,h2,h3⟩=> ⟨b,o,f,gs,gt,gz,h1,k _ _ h2,h3⟩
def FE(x:Int):Bool:=decide (0<=x/\x<=99)
section
variable(M:Md prog)(H:View)
theorem A2(F:Option Addr)(n fc:Nat)(x:Nat->Int)(hF:rB H F n x)(hn:n<=1000000)(fv:Value)(p:Nat->Bool)(hp:∀j,j<n->∀H',H.le H'->uB M fv [.int .i64 (x j)] H' fun v H''=> H'.le H''/\v=.bool (p j)):
  bA M 187 #[.slice F n fc,fv] H (fun v H'=> H.le H'/\v=.int .i64 (iB (jA p n))):=by
 refine .en func187 ntmps187 fun St c cs hK=> ?_;refine NF ?_;refine Tc.db (Tc.tA (σ:= { j:Nat//j<=n/\jA p j=none }) (fun j=> ([(0,.slice F n fc),(1,fv),(7,.int .i64 (n:Nat)),(8,.int .i64 (j.1:Nat))],[])) (fun j=> n-j.1) ?_ ⟨0,Nat.zero_le _,rfl⟩);rintro⟨j,hj,PC⟩ ih;show Tc M St _ _ _ _ [(0,.slice F n fc),(1,fv),(7,.int .i64 (n:Nat)),(8,.int .i64 (j:Nat))] [] _ _;by_cases c1:j=n
 ·subst c1;rw[PC] at hK;refine PE ?_;refine .rt hK func187 results187 [_] ?_;exact okB
 ·have c2:j<n:=by omega
  obtain h0|⟨ab,ao,f,gs,gt,gz,rfl,hb,hl⟩:=hF
  ·omega
  have f1:=hl j c2;have TL:=hp j c2;cases IG:p j with
  | true=>
   rw[IG] at TL;have e:jA p n=some j:=fB (j:=j+1) (by simp[jA,PC,IG]) _ oM;rw[e] at hK;refine wQ ?_;refine .c rfl rfl rfl rfl (fun H hs=> TL H hs.base) ?_;refine U7 ?_;refine .rt hK func187 results187 [_] ?_;exact okB
  | false=>
   rw[IG] at TL;refine wQ ?_;refine .c rfl rfl rfl rfl (fun H hs=> TL H hs.base) ?_;refine U8 ?_;exact Tc.db (ih ⟨j+1,oM,by simp[jA,PC,IG]⟩ (by simp only;omega))
theorem PM(F:Option Addr)(n fc:Nat)(x:Nat->Int)(hF:rB H F n x)(hn:n<=1000000)(fv:Value)(p:Nat->Bool)(hp:∀j,j<n->∀H',H.le H'->uB M fv [.int .i64 (x j)] H' fun v H''=> H'.le H''/\v=.bool (p j)):
  bA M 112 #[.slice F n fc,fv] H (fun v H'=> H.le H'/\v=.bool (jA p n).isSome):=by
 have hi:=fun(H':View) (h':H.le H')=> A2 M H' F n fc x (hF.le h') hn fv p (fun j hj H'' h''=> hp j hj H'' (View.le_trans h' h''));cases hq:jA p n with
 | none=>
  rw[hq] at hi;have e:iB none= -1:=rfl;rw[e] at hi;refine .en func112 ntmps112 fun St c cs hK=> ?_;refine U8 ?_;refine .cl (fun H hs=> hi H hs.base) ?_;refine U3 ?_;refine .rt hK func112 results112 [_] ?_;exact okB
 | some j=>
  rw[hq] at hi;have e:iB (some j)=(j:Nat):=rfl;rw[e] at hi;refine .en func112 ntmps112 fun St c cs hK=> ?_;refine U8 ?_;refine .cl (fun H hs=> hi H hs.base) ?_;refine U3 ?_;refine .rt hK func112 results112 [_] ?_;exact okB
theorem C2(F:Option Addr)(n fc:Nat)(x:Nat->List UInt8)(hF:BF H F n x)(hn:n<=1000000)(fv:Value)(p:Nat->Bool)(hp:∀j,j<n->∀H',H.le H'->uB M fv [mA (x j)] H' fun v H''=> H'.le H''/\v=.bool (p j)):
  bA M 227 #[.slice F n fc,fv] H (fun v H'=> H.le H'/\v=.int .i64 (iB (jA p n))):=by
 refine .en func227 ntmps227 fun St c cs hK=> ?_;refine NF ?_;refine Tc.db (Tc.tA (σ:= { j:Nat//j<=n/\jA p j=none }) (fun j=> ([(0,.slice F n fc),(1,fv),(7,.int .i64 (n:Nat)),(8,.int .i64 (j.1:Nat))],[])) (fun j=> n-j.1) ?_ ⟨0,Nat.zero_le _,rfl⟩);rintro⟨j,hj,PC⟩ ih;show Tc M St _ _ _ _ [(0,.slice F n fc),(1,fv),(7,.int .i64 (n:Nat)),(8,.int .i64 (j:Nat))] [] _ _;by_cases c1:j=n
 ·subst c1;rw[PC] at hK;refine PE ?_;refine .rt hK func227 results227 [_] ?_;exact okB
 ·have c2:j<n:=by omega
  obtain h0|⟨ab,ao,f,gs,gt,gz,rfl,hb,hl⟩:=hF
  ·omega
  have f1:=hl j c2;have TL:=hp j c2;cases IG:p j with
  | true=>
   rw[IG] at TL;have e:jA p n=some j:=fB (j:=j+1) (by simp[jA,PC,IG]) _ oM;rw[e] at hK;refine wQ ?_;refine .c rfl rfl rfl rfl (fun H hs=> TL H hs.base) ?_;refine U7 ?_;refine .rt hK func227 results227 [_] ?_;exact okB
  | false=>
   rw[IG] at TL;refine wQ ?_;refine .c rfl rfl rfl rfl (fun H hs=> TL H hs.base) ?_;refine U8 ?_;exact Tc.db (ih ⟨j+1,oM,by simp[jA,PC,IG]⟩ (by simp only;omega))
theorem QM(F:Option Addr)(n fc:Nat)(x:Nat->List UInt8)(hF:BF H F n x)(hn:n<=1000000)(fv:Value)(p:Nat->Bool)(hp:∀j,j<n->∀H',H.le H'->uB M fv [mA (x j)] H' fun v H''=> H'.le H''/\v=.bool (p j)):
  bA M 144 #[.slice F n fc,fv] H (fun v H'=> H.le H'/\v=.bool (jA p n).isSome):=by
 have hi:=fun(H':View) (h':H.le H')=> C2 M H' F n fc x (hF.le h') hn fv p (fun j hj H'' h''=> hp j hj H'' (View.le_trans h' h''));cases hq:jA p n with
 | none=>
  rw[hq] at hi;have e:iB none= -1:=rfl;rw[e] at hi;refine .en func144 ntmps144 fun St c cs hK=> ?_;refine U8 ?_;refine .cl (fun H hs=> hi H hs.base) ?_;refine U3 ?_;refine .rt hK func144 results144 [_] ?_;exact okB
 | some j=>
  rw[hq] at hi;have e:iB (some j)=(j:Nat):=rfl;rw[e] at hi;refine .en func144 ntmps144 fun St c cs hK=> ?_;refine U8 ?_;refine .cl (fun H hs=> hi H hs.base) ?_;refine U3 ?_;refine .rt hK func144 results144 [_] ?_;exact okB
theorem PV(x:Int):bA M 140 #[.int .i64 x] H (fun v H'=> H.le H'/\v=.bool (!FE x)):=by
 cases h:FE x with
 | true=>
  refine .en func140 ntmps140 fun St c cs hK=> ?_;refine U7 ?_;refine .cl (fun H hs=> zA M H x 0 99 true h) ?_;refine U3 ?_;refine .rt hK func140 results140 [_] ?_;exact okB
 | false=>
  refine .en func140 ntmps140 fun St c cs hK=> ?_;refine U7 ?_;refine .cl (fun H hs=> zA M H x 0 99 false h) ?_;refine U3 ?_;refine .rt hK func140 results140 [_] ?_;exact okB
theorem A6(s:List UInt8)(b:Nat)(f:Bool)(hb:H b=some (f,.cells ⟨[mA s]⟩ 9 (0,0)))(o:List UInt8):
  bA M 145 #[mA o,.pointer (some ⟨b,0,none⟩)] H (fun v H'=> H.le H'/\v=.bool (WB o s)):=by
 cases h1:pB o s with
 | true=>
  have e:WB o s=true:=by unfold WB;rw[h1];rfl
  rw[e];refine .en func145 ntmps145 fun St c cs hK=> ?_;refine U8 ?_;refine .cl (fun H hs=> MD M H o s true h1) ?_;refine U7 ?_;refine .rt hK func145 results145 [_] ?_;exact okB
 | false=>
  have e:WB o s=pB s o:=by unfold WB;rw[h1];rfl
  rw[e];refine .en func145 ntmps145 fun St c cs hK=> ?_;refine U8 ?_;refine .cl (fun H hs=> MD M H o s false h1) ?_;refine U3 ?_;refine .cl (fun H hs=> mF M H s o) ?_;refine U3 ?_;refine .rt hK func145 results145 [_] ?_;exact okB
end
def GB(l:List (List UInt8)):List Value:=l.map mA
theorem iF(l:List (List UInt8)):(GB l).length=l.length:=by simp[GB]
theorem gF(l m:List (List UInt8)):GB (l++m)=GB l++GB m:=by simp[GB]
theorem NL(l:List (List UInt8)):(GB l).all single=true:=by
 rw[List.all_eq_true];intro x hx;obtain⟨s,_,rfl⟩:=List.mem_map.1 hx;rfl
def xQ(many:Nat)(dg:List UInt8)(s: { p:Nat×Nat//p.1≠p.2 }):Bl:= [(s.1.1,true,.cells ⟨[.int .i64 (many:Nat)]⟩ 3 (0,0)),(s.1.2,true,.cells ⟨[mA dg]⟩ 9 (0,0))]
theorem TT(many:Nat)(dg:List UInt8)(s: { p:Nat×Nat//p.1≠p.2 }):((xQ many dg s).map (·.1)).Nodup:=by
 obtain⟨⟨a,b⟩,h⟩:=s;simp only[xQ,List.map_cons,List.map_nil,List.nodup_cons,List.mem_singleton,List.not_mem_nil,not_false_eq_true,List.nodup_nil,and_true];exact h
section
variable(M:Md prog)(H:View)
theorem aDU(many:Nat)(dg:List UInt8):bA M 139 #[.int .i64 (many:Nat),mA dg] H (fun v H'=> H.le H'/\∃s: { p:Nat×Nat//p.1≠p.2 },v=UT s.1.1 s.1.2/\True/\∀y∈xQ many dg s,H' y.1=some y.2/\H y.1=none):=by
 refine .en func139 ntmps139 fun St c cs hK=> ?_;refine U2 ?_;refine .bo fun b2=> ?_;refine .bo fun b3=> ?_;refine U7 ?_;refine .rt hK func139 results139 [_] ?_;intro H' hs;have zE:=hs.nodup;have xB:b2≠b3:=by
  simp only[List.map_cons,List.map_nil,List.nodup_cons,List.mem_singleton] at zE;exact fun e=> zE.1 e.symm
 refine⟨hs.base,⟨(b2,b3),xB⟩,rfl,trivial,fun y hy=> ?_⟩;have hy':y=(b2,true,.cells ⟨[.int .i64 (many:Nat)]⟩ 3 (0,0))\/y=(b3,true,.cells ⟨[mA dg]⟩ 9 (0,0)):=by simpa [xQ] using hy
 rcases hy' with rfl|rfl
 ·exact⟨hs.get (i:=1) rfl,hs.out _ (List.mem_cons_of_mem _ (List.mem_cons_self ..))⟩
 ·exact⟨hs.get (i:=0) rfl,hs.out _ (List.mem_cons_self ..)⟩
def aFy(H₁:View)(g:Gl 9 1)(l xs:List (List UInt8))(v:Value)(H3:View):Prop:=
 ∃(g':Gl 9 1) (H₂:View),v=g'.val/\H₁.le H₂/\gA H₂ g'.bl H3/\g'.l=GB (l++xs)/\g'.n=g.n+xs.length
theorem FT(g:Gl 9 1)(l:List (List UInt8))(hg:g.l=GB l)(nL:g.n<=100000)(many:Nat)(dg:List UInt8)(hm:many<=1000)(KW:dg.all BD=true)(PQ:dg.length<=1000)(VV:(bM dg many).length<=100000)(a1 a2:Nat)(H₁ Hc:View)(wB:VL many dg a1 a2 H₁)(xS:gA H₁ g.bl Hc):
  bA M 141 #[g.val,UT a1 a2] Hc (aFy H₁ g l (bM dg many)):=by
 have dI:=fun(H':View) (_:VL many dg a1 a2 H')=> iK M H' many dg hm KW PQ a1 a2;refine bA.enter (vs:= [g.val,UT a1 a2]) func141 rfl ntmps141 (Nat.le_of_ble_eq_true rfl) (xS) fun St c cs hK=> ?_;refine U2 ?_;refine .bo fun b2=> ?_;refine U8 ?_;refine Tc.db (R':= [(2,.pointer (some ⟨b2,0,none⟩)),(6,UT a1 a2)]) (L':= [(b2,true,.cells ⟨[g.val]⟩ 107 (0,0))]++g.bl) ?_;refine Tc.zK (A:= []) (ts:= [7]) (xs:=bM dg many) (fun rest H₄ L₄=> ∃(g':Gl 9 1) (dn:List (List UInt8)),L₄= [(b2,true,.cells ⟨[g'.val]⟩ 107 (0,0))]++g'.bl/\g'.l=GB (l++dn)/\g'.n=g.n+dn.length/\dn++rest=bM dg many/\VL many dg a1 a2 H₄/\H₁.le H₄) (fun _ _ _=> False) rfl rfl rfl rfl dI (fun _ _=> VL.le _ _) (fun _ _ _ ⟨_,_,_,_,_,_,h,_⟩=> h) rfl (fun _ _=> rfl)
   ⟨g,[],rfl,by rw[List.append_nil];exact hg,rfl,rfl,wB,View.le_refl _⟩ ?_ ?_ (fun _ _ _ _ h=> h.elim)
 ·rintro r x rest _ lp tmps asg bdy H₄ _ hx ⟨g',dn,rfl,q1,q2,q3,q4,q5⟩ Q St1 cc1 cs1 ZM q q';have aGX:dn.length<=100000:=by
   have:=congrArg List.length q3;rw[List.length_append] at this;omega
  refine U3 ?_;refine Tc.beginRound (i:=0) rfl rfl rfl ?_;refine U4 ?_;refine .e (.bs (zz:=fun bs=> ?_));refine .e (Or.append (E:=en) 4 rfl rfl rfl rfl rfl rfl rfl rfl rfl rfl rfl rfl rfl rfl rfl (fun H hs=> OA.of (hs.get (i:=0) rfl) (Nat.le_of_ble_eq_true rfl)) rfl oM rfl dE (fun g2 TW TP=> ?_));refine U3 ?_;refine Tc.GA ZM (i:=1) rfl (.inl ⟨rfl,rfl⟩) (fun H' hs=> q H' H₄ _ (hs.less sL) ⟨g2,dn++[x],rfl,by rw[TP,q1,<-List.append_assoc,gF (l++dn) [x]];rfl,by rw[TW,q2,List.length_append];rfl,by rw[List.append_assoc];exact q3,q4,q5⟩)
 ·rintro r H₄ _ ⟨g',dn,rfl,q1,q2,q3,q4,q5⟩;rw[List.append_nil] at q3;subst q3;refine U6 ?_;refine Tc.aT (E:=en) (i:=0) hK func141 results141 (vs:= [_]) rfl ⟨rfl,trivial⟩ ?_;exact fun H' hs=> ⟨g',H₄,rfl,q5,hs.less sL,q1,q2⟩
theorem gU(a:Option Addr)(m ca:Nat)(l:List Value)(hm:m<=100000)(nI:OA H 1 (.slice a m ca) m l)(h1:l.all single=true):bA M 143 #[.slice a m ca] H (fun v H'=> H.le H'/\∃g:Gl 9 1,v=g.val/\(g.l=l/\g.n=m)/\∀x∈g.bl,H' x.1=some x.2/\H x.1=none):=by
 refine .en func143 ntmps143 fun St c cs hK=> ?_;cases a with
 | none=>
  refine U8 ?_;refine .x (qA.VJ (E:=en) rfl rfl rfl rfl rfl) ?_;refine U6 ?_;refine .rt hK func143 results143 [_] ?_;obtain⟨_,h2,h3|⟨b,off,_,_,_,_,_,h3,_⟩⟩:=nI
  ·obtain⟨_,_,_,rfl⟩:=h3;have:m=0:=by simp at h2;omega
   subst this;exact fun H' hs'=> ⟨hs'.base,Gl.nil 9 1,rfl,⟨rfl,rfl⟩,by simp[Gl.nil,Gl.bl]⟩
  ·cases h3
 | some a=>
  refine U8 ?_;refine .x (qA.VJ (E:=en) rfl rfl rfl rfl rfl) ?_;refine U5 ?_;refine .e (.bs (zz:=fun bs=> ?_));refine U ?_;refine .e (Or.append (E:=en) (g:=Gl.emp 9 1 bs) 0 rfl rfl rfl rfl rfl rfl rfl rfl rfl rfl rfl rfl rfl rfl rfl (fun H' hs'=> nI.mono hs'.base) h1 (by show 0+m<=_;omega) rfl dE (fun g' hn hl=> ?_));refine U2 ?_;refine .rt hK func143 results143 [_] ?_;exact fun H' hs'=> ⟨hs'.base,g',rfl,⟨by rw[hl];rfl,by rw[hn];show 0+m=m;omega⟩,fun x hx=> ⟨hs'.at_ x hx,hs'.out x hx⟩⟩
end
end Go.Proofs.YtldmfjcgjdchcaaGreatDoor
namespace Go.RL
open Go.Conc
section
variable {P:Program}{M:Md P}{St:View->Goroutine->Prop}{n:Nat}{b:FB}{H₀:View}{cs:List Frame}{R:Rg}{L L₁:Bl}{ds:List Deferred}{k:List Item}{md:Region.Mode}{ops:Array Oper}{S:Array Bool->View->Prop}{fuel:Nat}{listed:Array Bool}
theorem Ta.rN(p:L₁.Perm L)(h:Ta M St n b H₀ cs S md ops fuel listed R L₁ ds k):Ta M St n b H₀ cs S md ops fuel listed R L ds k:=fun H tmps hs=> h H tmps (hs.perm p)
end
end Go.RL
namespace Go.Proofs.YtldmfjcgjdchcaaGreatDoor
open Go.RL Go.Proofs.Tryz
set_option maxRecDepth 10000
set_option maxHeartbeats 16000000
theorem N6(A:Bl)(x y z:Nat×Bool×Obj)(B:Bl):(A++(x::y::z::B)).Perm (x::y::z::(A++B)):=by
 refine List.perm_middle.trans (.cons _ ?_);refine List.perm_middle.trans (.cons _ ?_);exact List.perm_middle
theorem aA7(u v:Nat×Bool×Obj)(A:Bl)(x y z:Nat×Bool×Obj)(B:Bl):((x::y::z::A)++(u::v::B)).Perm (([u,v]++A)++([x,y,z]++B)):=by
 simp only[List.cons_append,List.nil_append];have h1:(A++(x::y::z::B)).Perm (x::y::z::(A++B)):=N6 A x y z B;have h2:(x::y::z::(A++u::v::B)).Perm (u::v::x::y::z::(A++B)):=by
  have h3:(A++u::v::B).Perm (u::v::(A++B)):=List.perm_middle.trans (.cons _ List.perm_middle);have h4:(x::y::z::(A++u::v::B)).Perm (x::y::z::u::v::(A++B)):=.cons _ (.cons _ (.cons _ h3));refine h4.trans ?_;have h5:([x,y,z]++u::v::(A++B)).Perm (u::([x,y,z]++v::(A++B))):=List.perm_middle;have h6:([x,y,z]++v::(A++B)).Perm (v::([x,y,z]++(A++B))):=List.perm_middle;exact h5.trans (.cons _ h6)
 exact h2.trans (.cons _ (.cons _ h1.symm))
theorem aFw {a:Int}{t:Nat}(h:0<=a/\a<=99)(ht:t<=30):0<=a*(t:Nat)/\a*(t:Nat)<=2970:=by
 have h1:(0:Int)<=(t:Nat):=Int.natCast_nonneg t;have h2:((t:Nat):Int)<=30:=by omega
 refine⟨Int.mul_nonneg h.1 h1,?_⟩;have h3:=Int.mul_le_mul h.2 h2 h1 (by omega:(0:Int)<=99);omega
theorem Gl.back {e:TypeId}{g g':Gl e 1}(new:List Value)(h1:g'.blk=g.blk)(h2:g'.n=g.n+new.length)(h3:g'.cap=g.cap)(h4:g'.l=g.l++new):∃g5:Gl e 1,g5.blk=g.blk/\g5.n=g.n/\g5.cap=g.cap/\g5.l=g.l/\g5.bl=g'.bl:=by
 have hl:=g.hl;have J1:=g'.hl;have rS:=g'.hj;have hc':=g'.hc;refine⟨⟨g.blk,g.n,g.cap,g.l,new++g'.qB,g.hl,g.hc,?_,g.h0⟩,rfl,rfl,rfl,rfl,?_⟩
 ·rw[List.length_append,rS,h2,h3];omega
 ·unfold Gl.bl;simp only;rw[h1,h4];cases g.blk with
  | none=> rfl
  | some b=> simp
theorem EJ(g:Gl 9 1){H:View}(h:∀x∈g.bl,H x.1=some x.2){l:List (List UInt8)}(hl:g.l=GB l){g0:Gl 9 1}(hn:g.n=g0.n)(hb:g.blk=g0.blk):BF H (g0.blk.map fun b=> ⟨b,0,none⟩) g0.n (fun j=> l[j]?.getD []):=by
 have TN:=g.hl;rw[hl,iF] at TN;cases EH:g0.blk with
 | none=>
  have:=g.h0 (hb.trans EH);have:=g.hc;exact .inl oM
 | some b=>
  have YJ:g.bl= [(b,true,.cells ⟨g.l++g.qB⟩ 9 (0,0))]:=by unfold Gl.bl;rw[hb,EH]
  refine .inr ⟨b,0,true,_,9,(0,0),rfl,h (b,true,.cells ⟨g.l++g.qB⟩ 9 (0,0)) (by rw[YJ];simp),fun j hj=> ?_⟩;show(g.l++g.qB)[_]? =_;have I1:j<l.length:=by omega
  rw[Nat.zero_add,Int.toNat_natCast,Nat.mul_one,List.getElem?_append_left (by rw[hl,iF];exact I1),hl];unfold GB;rw[List.getElem?_map];simp only[List.getElem?_eq_getElem I1];rfl
structure RG where
 done:Bool
 total:Int
 rE:List (List UInt8)
def RG.al(s:RG):Int:=if s.done then 0 else 9
def nN(l:List (List UInt8))(s:List UInt8):Bool:=(jA (fun j=> WB (l[j]?.getD []) s) l.length).isSome
def jF(can:List (List UInt8))(w:Nat->Int):Nat->List (List UInt8)->Int->RG->RG
 | 0,l,sum,st=> if st.done=true/\sum≥st.total then st else⟨true,sum,l⟩
 | d+1,l,sum,st=> if st.done=true/\sum≥st.total then st else can.foldl (fun st s=> if nN l s then st else jF can w d (l++[s]) (sum+w l.length*(AB s:Nat)) st) st
def ptr(b:Nat):Value:=.pointer (some ⟨b,0,none⟩)
def qW(b8 b7 b3 b6 b9 b11:Nat):Value:=.func (.func 142) #[] #[ptr b8,ptr b7,ptr b3,ptr b6,ptr b9,ptr b11]
def M0(st:RG)(num:Value)(b8 b7 b6:Nat):Bl:= [(b8,true,.cells ⟨[.int .i64 st.al]⟩ 25 (0,0)),(b7,true,.cells ⟨[.int .i64 st.total]⟩ 3 (0,0)),(b6,true,.cells ⟨num.cells.toList⟩ 107 (0,0))]
def xM(a:Option Addr)(n c:Nat):Value:=.slice a n c
def YX(H:View)(a:Option Addr)(n c:Nat)(l:List Value):Prop:=OA H 1 (xM a n c) n l/\n<=c
structure HT(can:List (List UInt8))(w:Nat->Int)(nw:Nat)(b8 b7 b3 b6 b9 b11:Nat)(cA wA:Option Addr)(cc wc:Nat)(H:View):Prop where
 f:∃f,H b11=some (f,.cells ⟨[qW b8 b7 b3 b6 b9 b11]⟩ 249 (0,0))
 c:∃f,H b9=some (f,.cells ⟨[.slice cA can.length cc]⟩ 107 (0,0))
 g:∃f,H b3=some (f,.cells ⟨[.slice wA nw wc]⟩ 24 (0,0))
 cs:BF H cA can.length (fun i=> can[i]?.getD [])
 ws:rB H wA nw w
theorem HT.le {can:List (List UInt8)}{w:Nat->Int}{nw b8 b7 b3 b6 b9 b11:Nat}{cA wA:Option Addr}{cc wc:Nat}{H H':View}(h:HT can w nw b8 b7 b3 b6 b9 b11 cA wA cc wc H)(k:H.le H'):HT can w nw b8 b7 b3 b6 b9 b11 cA wA cc wc H':=
 ⟨h.f.imp fun _ e=> k _ _ e,h.c.imp fun _ e=> k _ _ e,h.g.imp fun _ e=> k _ _ e,h.cs.le k,h.ws.le k⟩
def ChQ(H₁:View)(g:Gl 9 1)(st:RG)(b8 b7 b6:Nat)(v:Value)(H3:View):Prop:=
 v=.tuple ⟨[]⟩/\∃(H₂:View) (g':Gl 9 1) (a:Option Addr) (n c:Nat),H₁.le H₂/\gA H₂ (M0 st (xM a n c) b8 b7 b6++g'.bl) H3/\(g'.blk=g.blk/\g'.n=g.n/\g'.cap=g.cap/\g'.l=g.l)/\(n=st.rE.length/\YX H₂ a n c (GB st.rE))
theorem rU {α β:Type}(f:β->α->β)(l:List α)(i:Nat)(b:β){x:α}(h:l[i]? =some x):(l.drop i).foldl f b=(l.drop (i+1)).foldl f (f b x):=by
 obtain⟨hi,rfl⟩:=List.getElem?_eq_some_iff.1 h;rw[List.drop_eq_getElem_cons hi,List.foldl_cons]
theorem Gl.S7 {e:TypeId}{sz:Nat}{g g':Gl e sz}(h:g'.blk=g.blk/\g'.n=g.n/\g'.cap=g.cap/\g'.l=g.l):g'.val=g.val:=by
 unfold Gl.val;rw[h.1,h.2.1,h.2.2.1]
def bD(can:List (List UInt8))(w:Nat->Int)(d:Nat)(l:List (List UInt8))(sum:Int)(st:RG)(s:List UInt8):RG:=if nN l s then st else jF can w d (l++[s]) (sum+w l.length*(AB s:Nat)) st
section
variable(M:Md prog)
theorem aAj(can:List (List UInt8))(w:Nat->Int)(nw:Nat)(b8 b7 b3 b6 b9 b11:Nat)(cA wA:Option Addr)(cc wc:Nat)(hnw:nw<=20)(aGW:can.length<=100000)(hcn:∀s∈can,s.all BD=true/\s.length<=3)(hw:∀i,i<nw->0<=w i/\w i<=99):
  ∀ (d:Nat) (g:Gl 9 1) (l:List (List UInt8)) (sum:Int) (st:RG) (a:Option Addr) (n c':Nat) (H₁ Hc:View),g.l=GB l->l.length+d=nw->(0<=sum/\sum<=3000*(l.length:Nat))->HT can w nw b8 b7 b3 b6 b9 b11 cA wA cc wc H₁->n=st.rE.length->YX H₁ a n c' (GB st.rE)->gA H₁ (M0 st (xM a n c') b8 b7 b6++g.bl) Hc-> 
   bA M 142 #[g.val,.int .i64 sum,ptr b8,ptr b7,ptr b3,ptr b6,ptr b9,ptr b11] Hc (ChQ H₁ g (jF can w d l sum st) b8 b7 b6):=by
 intro d;induction d with
 | zero=>
  intro g l sum st a n c' H₁ Hc hg hld aGo wB hn jG xS;have nL:g.n=l.length:=by have:=g.hl;rw[hg,iF] at this;omega
  have KO:=wB;obtain⟨⟨ff,hf⟩,⟨fc,hc⟩,⟨fg,hgw⟩,nS,hws⟩:=wB;obtain⟨dn,total,rE⟩:=st;by_cases c1:dn=true/\sum≥total
  ·obtain⟨rfl,c2⟩:=c1;have e:jF can w 0 l sum ⟨true,total,rE⟩=⟨true,total,rE⟩:=if_pos ⟨rfl,c2⟩;rw[e];refine bA.enter (vs:= [g.val,.int .i64 sum,ptr b8,ptr b7,ptr b3,ptr b6,ptr b9,ptr b11]) func142 rfl ntmps142 (Nat.le_of_ble_eq_true rfl) (xS) fun St c cs hK=> ?_;unfold M0 ptr;refine NF ?_;refine .rt hK func142 results142 [] ?_;exact fun H' hs=> ⟨rfl,H₁,g,a,n,c',View.le_refl _,hs,⟨rfl,rfl,rfl,rfl⟩,hn,jG⟩
  ·have e:jF can w 0 l sum ⟨dn,total,rE⟩=⟨true,sum,l⟩:=if_neg c1;rw[e];clear e;cases dn with
   | false=>
    refine bA.enter (vs:= [g.val,.int .i64 sum,ptr b8,ptr b7,ptr b3,ptr b6,ptr b9,ptr b11]) func142 rfl ntmps142 (Nat.le_of_ble_eq_true rfl) (xS) fun St c cs hK=> ?_;unfold M0 ptr;refine U26 ?_;refine .e (Or.ZA Gl.val Gl.bl (fun g2:Gl 9 1=> g2.l=GB l/\g2.n=g.n) rfl rfl rfl rfl rfl dE Gl.kO (fun H hs=> .h (gU M H (g.blk.map fun b=> ⟨b,0,none⟩) g.n g.cap (GB l) oM (by rw[<-hg];exact g.src (fun x hx=> hs.at_ x (List.mem_append_right _ hx))) (NL l))) (fun g2 nM=> ?_));refine U5 ?_;refine .rt hK func142 results142 [] ?_;intro H' hs;obtain⟨H₂,h1,h2⟩:=gA.oD (B:= [(b8,true,.cells ⟨[.int .i64 0]⟩ 25 (0,0)),(b7,true,.cells ⟨[.int .i64 sum]⟩ 3 (0,0)),(b6,true,.cells ⟨[g2.val]⟩ 107 (0,0))]++g.bl) (L:=g2.bl) hs;refine⟨rfl,H₂,g,g2.blk.map (fun b=> ⟨b,0,none⟩),g2.n,g2.cap,h2.base,h1,⟨rfl,rfl,rfl,rfl⟩,by rw[nM.2];exact nL,?_⟩;have h3:=g2.src (H:=H₂) (fun x hx=> h2.at_ x hx);rw[nM.1] at h3;exact⟨h3,g2.hc⟩
   | true=>
    have c2:pA .geq .i64 sum (RG.mk true total rE).total=some (.bool false):=cI (Int.lt_of_not_ge fun h=> c1 ⟨rfl,h⟩);refine bA.enter (vs:= [g.val,.int .i64 sum,ptr b8,ptr b7,ptr b3,ptr b6,ptr b9,ptr b11]) func142 rfl ntmps142 (Nat.le_of_ble_eq_true rfl) (xS) fun St c cs hK=> ?_;unfold M0 ptr;refine U26 ?_;refine .e (Or.ZA Gl.val Gl.bl (fun g2:Gl 9 1=> g2.l=GB l/\g2.n=g.n) rfl rfl rfl rfl rfl dE Gl.kO (fun H hs=> .h (gU M H (g.blk.map fun b=> ⟨b,0,none⟩) g.n g.cap (GB l) oM (by rw[<-hg];exact g.src (fun x hx=> hs.at_ x (List.mem_append_right _ hx))) (NL l))) (fun g2 nM=> ?_));refine U5 ?_;refine .rt hK func142 results142 [] ?_;intro H' hs;obtain⟨H₂,h1,h2⟩:=gA.oD (B:= [(b8,true,.cells ⟨[.int .i64 0]⟩ 25 (0,0)),(b7,true,.cells ⟨[.int .i64 sum]⟩ 3 (0,0)),(b6,true,.cells ⟨[g2.val]⟩ 107 (0,0))]++g.bl) (L:=g2.bl) hs;refine⟨rfl,H₂,g,g2.blk.map (fun b=> ⟨b,0,none⟩),g2.n,g2.cap,h2.base,h1,⟨rfl,rfl,rfl,rfl⟩,by rw[nM.2];exact nL,?_⟩;have h3:=g2.src (H:=H₂) (fun x hx=> h2.at_ x hx);rw[nM.1] at h3;exact⟨h3,g2.hc⟩
 | succ d ihd=>
  intro g l sum st a n c' H₁ Hc hg hld aGo wB hn jG xS;have nL:g.n=l.length:=by have:=g.hl;rw[hg,iF] at this;omega
  have KO:=wB;obtain⟨⟨ff,hf⟩,⟨fc,hc⟩,⟨fg,hgw⟩,nS,hws⟩:=wB;obtain⟨dn,total,rE⟩:=st;by_cases c1:dn=true/\sum≥total
  ·obtain⟨rfl,c2⟩:=c1;have e:jF can w (d+1) l sum ⟨true,total,rE⟩=⟨true,total,rE⟩:=if_pos ⟨rfl,c2⟩;rw[e];refine bA.enter (vs:= [g.val,.int .i64 sum,ptr b8,ptr b7,ptr b3,ptr b6,ptr b9,ptr b11]) func142 rfl ntmps142 (Nat.le_of_ble_eq_true rfl) (xS) fun St c cs hK=> ?_;unfold M0 ptr;refine NF ?_;refine .rt hK func142 results142 [] ?_;exact fun H' hs=> ⟨rfl,H₁,g,a,n,c',View.le_refl _,hs,⟨rfl,rfl,rfl,rfl⟩,hn,jG⟩
  ·have e:jF can w (d+1) l sum ⟨dn,total,rE⟩=can.foldl (bD can w d l sum) ⟨dn,total,rE⟩:=if_neg c1;rw[e];clear e;cases dn with
   | false =>
    refine bA.enter (vs:= [g.val,.int .i64 sum,ptr b8,ptr b7,ptr b3,ptr b6,ptr b9,ptr b11]) func142 rfl ntmps142 (Nat.le_of_ble_eq_true rfl) (xS) fun St c cs hK=> ?_;unfold M0 ptr;refine U31 ?_;refine Tc.db (Tc.NI (σ:= { y:View×Nat×RG×Gl 9 1×(Option Addr×Nat×Nat)//H₁.le y.1/\y.2.1<=can.length/\(can.drop y.2.1).foldl (bD can w d l sum) y.2.2.1=can.foldl (bD can w d l sum) (⟨false,total,rE⟩:RG)/\(y.2.2.2.1.blk=g.blk/\y.2.2.2.1.n=g.n/\y.2.2.2.1.cap=g.cap/\y.2.2.2.1.l=g.l)/\(y.2.2.2.2.2.1=y.2.2.1.rE.length/\YX y.1 y.2.2.2.2.1 y.2.2.2.2.2.1 y.2.2.2.2.2.2 (GB y.2.2.1.rE)) })
     (fun y=> (y.1.1,[(0,g.val),(1,.int .i64 sum),(2,.pointer (some ⟨b8,0,none⟩)),(3,.pointer (some ⟨b7,0,none⟩)),(4,.pointer (some ⟨b3,0,none⟩)),(5,.pointer (some ⟨b6,0,none⟩)),(6,.pointer (some ⟨b9,0,none⟩)),(7,.pointer (some ⟨b11,0,none⟩)),(27,.slice cA can.length cc),(28,.int .i64 (can.length:Nat)),(29,.int .i64 (y.1.2.1:Nat))],[(b8,true,.cells ⟨[.int .i64 y.1.2.2.1.al]⟩ 25 (0,0)),(b7,true,.cells ⟨[.int .i64 y.1.2.2.1.total]⟩ 3 (0,0)),(b6,true,.cells ⟨[xM y.1.2.2.2.2.1 y.1.2.2.2.2.2.1 y.1.2.2.2.2.2.2]⟩ 107 (0,0))]++y.1.2.2.2.1.bl)) (fun y=> can.length-y.1.2.1) ?_ ⟨(H₁,0,(⟨false,total,rE⟩:RG),g,(a,n,c')),View.le_refl _,Nat.zero_le _,rfl,⟨rfl,rfl,rfl,rfl⟩,hn,jG⟩)
    rintro⟨⟨H₂,i,st,g2,a2,n2,c2'⟩,p1,p2,p3,p4,p5,p6⟩ ih;simp only at p1 p2 p3 p4 p5 p6;show Tc M St _ _ H₂ _ [(0,g.val),(1,.int .i64 sum),(2,.pointer (some ⟨b8,0,none⟩)),(3,.pointer (some ⟨b7,0,none⟩)),(4,.pointer (some ⟨b3,0,none⟩)),(5,.pointer (some ⟨b6,0,none⟩)),(6,.pointer (some ⟨b9,0,none⟩)),(7,.pointer (some ⟨b11,0,none⟩)),(27,.slice cA can.length cc),(28,.int .i64 (can.length:Nat)),(29,.int .i64 (i:Nat))] ([(b8,true,.cells ⟨[.int .i64 st.al]⟩ 25 (0,0)),(b7,true,.cells ⟨[.int .i64 st.total]⟩ 3 (0,0)),(b6,true,.cells ⟨[xM a2 n2 c2']⟩ 107 (0,0))]++g2.bl) _ _;by_cases d1:i=can.length
    ·have e:can.foldl (bD can w d l sum) (⟨false,total,rE⟩:RG)=st:=by rw[<-p3,d1,List.drop_length];rfl
     rw[e] at hK;subst d1;refine U7 ?_;refine .ov hK func142 results142 [] ?_;exact fun H' hs=> ⟨rfl,H₂,g2,a2,n2,c2',p1,hs,p4,p5,p6⟩
    ·have d2:i<can.length:=by omega
     obtain⟨s,nI⟩:∃s,can[i]? =some s:=⟨_,List.getElem?_eq_getElem d2⟩
     have N1:=hcn s (List.mem_of_getElem? nI);have htk:=FJ s N1.1;obtain h0|⟨cb,co,fcb,cgs,cgt,cgz,rfl,hcb,nB⟩:=nS
     ·omega
     have f1:=nB i d2;simp only[nI,Option.getD_some] at f1;have aFY:=p1 _ _ hcb;rw[rU _ _ _ _ nI] at p3;have hgv:=Gl.S7 p4;have HU:=fun(H':View) (bx:Nat) (fx:Bool) (nM:∀x∈g2.bl,H' x.1=some x.2) (hbx:H' bx=some (fx,.cells ⟨[mA s]⟩ 9 (0,0)))=> QM M H' (g.blk.map fun b=> ⟨b,0,none⟩) g.n g.cap (fun j=> l[j]?.getD []) (EJ g2 nM (p4.2.2.2.trans hg) (p4.2.1) p4.1) oM (.func (.func 145) #[] #[.pointer (some ⟨bx,0,none⟩)]) (fun j=> WB (l[j]?.getD []) s) (fun j _ H'' h''=> uB.of (first:= []) (captured:= [_]) aAT rfl (A6 M H'' s bx fx (h'' _ _ hbx) (l[j]?.getD [])));have RQ:(jA (fun j=> WB (l[j]?.getD []) s) g.n).isSome=nN l s:=by unfold nN;rw[nL]
     cases hq:nN l s with
     | true=>
      have e3:bD can w d l sum st s=st:=by unfold bD;rw[if_pos hq]
      rw[e3] at p3;rw[hq] at RQ;refine CG ?_;refine .al fun bx=> ?_;refine U7 ?_;refine .cl (fun H hs=> JF (HU H bx true (fun x hx=> hs.at_ x (List.mem_cons_of_mem _ (List.mem_append_right _ hx))) (hs.get (i:=0) rfl)) RQ) ?_;refine U7 ?_;exact Tc.db (ih ⟨(H₂,i+1,st,g2,(a2,n2,c2')),p1,by simp only;omega,p3,p4,p5,p6⟩ (by simp only;omega))
     | false=>
      have e3:bD can w d l sum st s=jF can w d (l++[s]) (sum+w l.length*(AB s:Nat)) st:=by unfold bD;rw[if_neg (by rw[hq];decide)]
      rw[e3] at p3;rw[hq] at RQ;have P5:=hw l.length oM;have aEx:0<=w l.length*(AB s:Nat)/\w l.length*(AB s:Nat)<=2970:=aFw P5 oM;have yU:=KO.le p1;obtain⟨⟨ff2,hf2⟩,⟨fc2,hc2⟩,⟨fg2,aF6⟩,_,aB2⟩:=yU;obtain h0|⟨wb,wo,fwb,wgs,wgt,wgz,rfl,hwb,aB1⟩:=aB2
      ·omega
      have f2:=aB1 l.length oM;rw[<-nL] at f2;have f3:pA .mul .i64 (w g.n) (AB s:Nat)=some (.int .i64 (w l.length*(AB s:Nat))):=by rw[nL];exact iD oM oM
      have f4:pA .add .i64 sum (w l.length*(AB s:Nat))=some (.int .i64 (sum+w l.length*(AB s:Nat))):=eC oM oM;refine CG ?_;refine .al fun bx=> ?_;refine U7 ?_;refine .cl (fun H hs=> JF (HU H bx true (fun x hx=> hs.at_ x (List.mem_cons_of_mem _ (List.mem_append_right _ hx))) (hs.get (i:=0) rfl)) RQ) ?_;refine U3 ?_;refine Tc.drT [4] [15] [] 4 mixed rfl ?_;refine .ow 0 ?_;refine .oo 1 ?_;refine .oo 2 ?_;refine .ow 5 ?_;refine .ow 6 ?_;refine .ow 7 ?_;refine .ow 8 ?_;refine .ow 9 ?_;refine .ow 10 ?_;refine .ow 11 ?_;refine .ea 3 rfl (.bs (zz:=fun bs=> ⟨S3.mk sL (.inr sL),?_⟩));refine .ea 4 rfl (Or.bY (E:=en) (g:=g2) (m:=1) (new:= [mA s]) (yv:=.slice (some ⟨bs,0,none⟩) 1 1) 5 rfl rfl rfl rfl (by rw[hgv];rfl) rfl rfl rfl rfl rfl rfl rfl rfl rfl rfl (fun H hs=> OA.of (hs.get (i:=0) rfl) (Nat.le_of_ble_eq_true rfl)) rfl oM rfl dE (fun g3 C5 sS hb3 hc3=> ⟨S3.mk sL (.inl kR),?_⟩) (fun g3 C5 sS=> ⟨S3.mk sL (.inl kR),?_⟩))
      ·refine Ta.F7 12 kR rfl rfl rfl dE rfl rfl (qA.tk fun H hs=> QL M H s N1.1 oM) ?_;refine .ow 13 ?_;refine .ow 14 ?_;refine Ta.lift (L₂:= [(bs,true,.cells ⟨[mA s]⟩ 9 (0,0)),(bx,true,.cells ⟨[mA s]⟩ 9 (0,0))]) (L₁:= [(b8,true,.cells ⟨[.int .i64 st.al]⟩ 25 (0,0)),(b7,true,.cells ⟨[.int .i64 st.total]⟩ 3 (0,0)),(b6,true,.cells ⟨[xM a2 n2 c2']⟩ 107 (0,0))]++g3.bl) rfl (fun Hx hx=> ?_);refine Ta.vB 15 kR rfl kR rfl rfl rfl rfl rfl rfl dE (uB.of (first:= []) (captured:= [_,_,_,_,_,_]) cU rfl (ihd g3 (l++[s]) _ st a2 n2 c2' H₂ Hx (by rw[sS,p4.2.2.2,hg,gF];rfl) (by rw[List.length_append];show l.length+1+d=nw;omega) (by rw[List.length_append];show _/\_<=3000*((l.length+1:Nat):Int);omega) (KO.le p1) p5 p6 hx)) (fun v H₃ hv=> ?_);obtain⟨_,H₄,g4,a4,n4,c4,r1,r2,r3,r4,r5⟩:=hv;refine Ta.expand r2 ?_;unfold M0;refine .dn ?_;refine U5 ?_;obtain⟨g5,s1,s2,s3,s4,s5⟩:=Gl.back (g:=g2) (g':=g4) [mA s] (r3.1.trans hb3) (by rw[r3.2.1,C5];rfl) (by rw[r3.2.2.1,hc3]) (by rw[r3.2.2.2,sS]);rw[<-s5];exact Tc.db (ih ⟨(H₄,i+1,_,g5,(a4,n4,c4)),View.le_trans p1 r1,by simp only;omega,p3,⟨s1.trans p4.1,s2.trans p4.2.1,s3.trans p4.2.2.1,s4.trans p4.2.2.2⟩,r4,r5⟩ (by simp only;omega))
      ·refine Ta.rN (L₁:=([(bs,true,.cells ⟨[mA s]⟩ 9 (0,0)),(bx,true,.cells ⟨[mA s]⟩ 9 (0,0))]++g2.bl)++([(b8,true,.cells ⟨[.int .i64 st.al]⟩ 25 (0,0)),(b7,true,.cells ⟨[.int .i64 st.total]⟩ 3 (0,0)),(b6,true,.cells ⟨[xM a2 n2 c2']⟩ 107 (0,0))]++g3.bl)) ?_ ?_
       ·simp only[List.cons_append,List.nil_append];refine .cons _ (.cons _ ?_);exact N6 g2.bl _ _ _ g3.bl
       ·refine Ta.F7 12 kR rfl rfl rfl dE rfl rfl (qA.tk fun H hs=> QL M H s N1.1 oM) ?_;refine .ow 13 ?_;refine .ow 14 ?_;refine Ta.lift (L₂:= [(bs,true,.cells ⟨[mA s]⟩ 9 (0,0)),(bx,true,.cells ⟨[mA s]⟩ 9 (0,0))]++g2.bl) (L₁:= [(b8,true,.cells ⟨[.int .i64 st.al]⟩ 25 (0,0)),(b7,true,.cells ⟨[.int .i64 st.total]⟩ 3 (0,0)),(b6,true,.cells ⟨[xM a2 n2 c2']⟩ 107 (0,0))]++g3.bl) rfl (fun Hx hx=> ?_);refine Ta.vB 15 kR rfl kR rfl rfl rfl rfl rfl rfl dE (uB.of (first:= []) (captured:= [_,_,_,_,_,_]) cU rfl (ihd g3 (l++[s]) _ st a2 n2 c2' H₂ Hx (by rw[sS,p4.2.2.2,hg,gF];rfl) (by rw[List.length_append];show l.length+1+d=nw;omega) (by rw[List.length_append];show _/\_<=3000*((l.length+1:Nat):Int);omega) (KO.le p1) p5 p6 hx)) (fun v H₃ hv=> ?_);obtain⟨_,H₄,g4,a4,n4,c4,r1,r2,r3,r4,r5⟩:=hv;refine Ta.expand r2 ?_;unfold M0;refine .dn ?_;refine U5 ?_;have XD:=ih ⟨(H₄,i+1,_,g2,(a4,n4,c4)),View.le_trans p1 r1,by simp only;omega,p3,p4,r4,r5⟩ (by simp only;omega);refine Tc.rN (aA7 _ _ g2.bl _ _ _ g4.bl) ?_;exact Tc.db XD
   | true=>
    have c2:pA .geq .i64 sum (RG.mk true total rE).total=some (.bool false):=cI (Int.lt_of_not_ge fun h=> c1 ⟨rfl,h⟩);refine bA.enter (vs:= [g.val,.int .i64 sum,ptr b8,ptr b7,ptr b3,ptr b6,ptr b9,ptr b11]) func142 rfl ntmps142 (Nat.le_of_ble_eq_true rfl) (xS) fun St c cs hK=> ?_;unfold M0 ptr;refine U31 ?_;refine Tc.db (Tc.NI (σ:= { y:View×Nat×RG×Gl 9 1×(Option Addr×Nat×Nat)//H₁.le y.1/\y.2.1<=can.length/\(can.drop y.2.1).foldl (bD can w d l sum) y.2.2.1=can.foldl (bD can w d l sum) (⟨true,total,rE⟩:RG)/\(y.2.2.2.1.blk=g.blk/\y.2.2.2.1.n=g.n/\y.2.2.2.1.cap=g.cap/\y.2.2.2.1.l=g.l)/\(y.2.2.2.2.2.1=y.2.2.1.rE.length/\YX y.1 y.2.2.2.2.1 y.2.2.2.2.2.1 y.2.2.2.2.2.2 (GB y.2.2.1.rE)) })
     (fun y=> (y.1.1,[(0,g.val),(1,.int .i64 sum),(2,.pointer (some ⟨b8,0,none⟩)),(3,.pointer (some ⟨b7,0,none⟩)),(4,.pointer (some ⟨b3,0,none⟩)),(5,.pointer (some ⟨b6,0,none⟩)),(6,.pointer (some ⟨b9,0,none⟩)),(7,.pointer (some ⟨b11,0,none⟩)),(27,.slice cA can.length cc),(28,.int .i64 (can.length:Nat)),(29,.int .i64 (y.1.2.1:Nat))],[(b8,true,.cells ⟨[.int .i64 y.1.2.2.1.al]⟩ 25 (0,0)),(b7,true,.cells ⟨[.int .i64 y.1.2.2.1.total]⟩ 3 (0,0)),(b6,true,.cells ⟨[xM y.1.2.2.2.2.1 y.1.2.2.2.2.2.1 y.1.2.2.2.2.2.2]⟩ 107 (0,0))]++y.1.2.2.2.1.bl)) (fun y=> can.length-y.1.2.1) ?_ ⟨(H₁,0,(⟨true,total,rE⟩:RG),g,(a,n,c')),View.le_refl _,Nat.zero_le _,rfl,⟨rfl,rfl,rfl,rfl⟩,hn,jG⟩)
    rintro⟨⟨H₂,i,st,g2,a2,n2,c2'⟩,p1,p2,p3,p4,p5,p6⟩ ih;simp only at p1 p2 p3 p4 p5 p6;show Tc M St _ _ H₂ _ [(0,g.val),(1,.int .i64 sum),(2,.pointer (some ⟨b8,0,none⟩)),(3,.pointer (some ⟨b7,0,none⟩)),(4,.pointer (some ⟨b3,0,none⟩)),(5,.pointer (some ⟨b6,0,none⟩)),(6,.pointer (some ⟨b9,0,none⟩)),(7,.pointer (some ⟨b11,0,none⟩)),(27,.slice cA can.length cc),(28,.int .i64 (can.length:Nat)),(29,.int .i64 (i:Nat))] ([(b8,true,.cells ⟨[.int .i64 st.al]⟩ 25 (0,0)),(b7,true,.cells ⟨[.int .i64 st.total]⟩ 3 (0,0)),(b6,true,.cells ⟨[xM a2 n2 c2']⟩ 107 (0,0))]++g2.bl) _ _;by_cases d1:i=can.length
    ·have e:can.foldl (bD can w d l sum) (⟨true,total,rE⟩:RG)=st:=by rw[<-p3,d1,List.drop_length];rfl
     rw[e] at hK;subst d1;refine U7 ?_;refine .ov hK func142 results142 [] ?_;exact fun H' hs=> ⟨rfl,H₂,g2,a2,n2,c2',p1,hs,p4,p5,p6⟩
    ·have d2:i<can.length:=by omega
     obtain⟨s,nI⟩:∃s,can[i]? =some s:=⟨_,List.getElem?_eq_getElem d2⟩
     have N1:=hcn s (List.mem_of_getElem? nI);have htk:=FJ s N1.1;obtain h0|⟨cb,co,fcb,cgs,cgt,cgz,rfl,hcb,nB⟩:=nS
     ·omega
     have f1:=nB i d2;simp only[nI,Option.getD_some] at f1;have aFY:=p1 _ _ hcb;rw[rU _ _ _ _ nI] at p3;have hgv:=Gl.S7 p4;have HU:=fun(H':View) (bx:Nat) (fx:Bool) (nM:∀x∈g2.bl,H' x.1=some x.2) (hbx:H' bx=some (fx,.cells ⟨[mA s]⟩ 9 (0,0)))=> QM M H' (g.blk.map fun b=> ⟨b,0,none⟩) g.n g.cap (fun j=> l[j]?.getD []) (EJ g2 nM (p4.2.2.2.trans hg) (p4.2.1) p4.1) oM (.func (.func 145) #[] #[.pointer (some ⟨bx,0,none⟩)]) (fun j=> WB (l[j]?.getD []) s) (fun j _ H'' h''=> uB.of (first:= []) (captured:= [_]) aAT rfl (A6 M H'' s bx fx (h'' _ _ hbx) (l[j]?.getD [])));have RQ:(jA (fun j=> WB (l[j]?.getD []) s) g.n).isSome=nN l s:=by unfold nN;rw[nL]
     cases hq:nN l s with
     | true=>
      have e3:bD can w d l sum st s=st:=by unfold bD;rw[if_pos hq]
      rw[e3] at p3;rw[hq] at RQ;refine CG ?_;refine .al fun bx=> ?_;refine U7 ?_;refine .cl (fun H hs=> JF (HU H bx true (fun x hx=> hs.at_ x (List.mem_cons_of_mem _ (List.mem_append_right _ hx))) (hs.get (i:=0) rfl)) RQ) ?_;refine U7 ?_;exact Tc.db (ih ⟨(H₂,i+1,st,g2,(a2,n2,c2')),p1,by simp only;omega,p3,p4,p5,p6⟩ (by simp only;omega))
     | false=>
      have e3:bD can w d l sum st s=jF can w d (l++[s]) (sum+w l.length*(AB s:Nat)) st:=by unfold bD;rw[if_neg (by rw[hq];decide)]
      rw[e3] at p3;rw[hq] at RQ;have P5:=hw l.length oM;have aEx:0<=w l.length*(AB s:Nat)/\w l.length*(AB s:Nat)<=2970:=aFw P5 oM;have yU:=KO.le p1;obtain⟨⟨ff2,hf2⟩,⟨fc2,hc2⟩,⟨fg2,aF6⟩,_,aB2⟩:=yU;obtain h0|⟨wb,wo,fwb,wgs,wgt,wgz,rfl,hwb,aB1⟩:=aB2
      ·omega
      have f2:=aB1 l.length oM;rw[<-nL] at f2;have f3:pA .mul .i64 (w g.n) (AB s:Nat)=some (.int .i64 (w l.length*(AB s:Nat))):=by rw[nL];exact iD oM oM
      have f4:pA .add .i64 sum (w l.length*(AB s:Nat))=some (.int .i64 (sum+w l.length*(AB s:Nat))):=eC oM oM;refine CG ?_;refine .al fun bx=> ?_;refine U7 ?_;refine .cl (fun H hs=> JF (HU H bx true (fun x hx=> hs.at_ x (List.mem_cons_of_mem _ (List.mem_append_right _ hx))) (hs.get (i:=0) rfl)) RQ) ?_;refine U3 ?_;refine Tc.drT [4] [15] [] 4 mixed rfl ?_;refine .ow 0 ?_;refine .oo 1 ?_;refine .oo 2 ?_;refine .ow 5 ?_;refine .ow 6 ?_;refine .ow 7 ?_;refine .ow 8 ?_;refine .ow 9 ?_;refine .ow 10 ?_;refine .ow 11 ?_;refine .ea 3 rfl (.bs (zz:=fun bs=> ⟨S3.mk sL (.inr sL),?_⟩));refine .ea 4 rfl (Or.bY (E:=en) (g:=g2) (m:=1) (new:= [mA s]) (yv:=.slice (some ⟨bs,0,none⟩) 1 1) 5 rfl rfl rfl rfl (by rw[hgv];rfl) rfl rfl rfl rfl rfl rfl rfl rfl rfl rfl (fun H hs=> OA.of (hs.get (i:=0) rfl) (Nat.le_of_ble_eq_true rfl)) rfl oM rfl dE (fun g3 C5 sS hb3 hc3=> ⟨S3.mk sL (.inl kR),?_⟩) (fun g3 C5 sS=> ⟨S3.mk sL (.inl kR),?_⟩))
      ·refine Ta.F7 12 kR rfl rfl rfl dE rfl rfl (qA.tk fun H hs=> QL M H s N1.1 oM) ?_;refine .ow 13 ?_;refine .ow 14 ?_;refine Ta.lift (L₂:= [(bs,true,.cells ⟨[mA s]⟩ 9 (0,0)),(bx,true,.cells ⟨[mA s]⟩ 9 (0,0))]) (L₁:= [(b8,true,.cells ⟨[.int .i64 st.al]⟩ 25 (0,0)),(b7,true,.cells ⟨[.int .i64 st.total]⟩ 3 (0,0)),(b6,true,.cells ⟨[xM a2 n2 c2']⟩ 107 (0,0))]++g3.bl) rfl (fun Hx hx=> ?_);refine Ta.vB 15 kR rfl kR rfl rfl rfl rfl rfl rfl dE (uB.of (first:= []) (captured:= [_,_,_,_,_,_]) cU rfl (ihd g3 (l++[s]) _ st a2 n2 c2' H₂ Hx (by rw[sS,p4.2.2.2,hg,gF];rfl) (by rw[List.length_append];show l.length+1+d=nw;omega) (by rw[List.length_append];show _/\_<=3000*((l.length+1:Nat):Int);omega) (KO.le p1) p5 p6 hx)) (fun v H₃ hv=> ?_);obtain⟨_,H₄,g4,a4,n4,c4,r1,r2,r3,r4,r5⟩:=hv;refine Ta.expand r2 ?_;unfold M0;refine .dn ?_;refine U5 ?_;obtain⟨g5,s1,s2,s3,s4,s5⟩:=Gl.back (g:=g2) (g':=g4) [mA s] (r3.1.trans hb3) (by rw[r3.2.1,C5];rfl) (by rw[r3.2.2.1,hc3]) (by rw[r3.2.2.2,sS]);rw[<-s5];exact Tc.db (ih ⟨(H₄,i+1,_,g5,(a4,n4,c4)),View.le_trans p1 r1,by simp only;omega,p3,⟨s1.trans p4.1,s2.trans p4.2.1,s3.trans p4.2.2.1,s4.trans p4.2.2.2⟩,r4,r5⟩ (by simp only;omega))
      ·refine Ta.rN (L₁:=([(bs,true,.cells ⟨[mA s]⟩ 9 (0,0)),(bx,true,.cells ⟨[mA s]⟩ 9 (0,0))]++g2.bl)++([(b8,true,.cells ⟨[.int .i64 st.al]⟩ 25 (0,0)),(b7,true,.cells ⟨[.int .i64 st.total]⟩ 3 (0,0)),(b6,true,.cells ⟨[xM a2 n2 c2']⟩ 107 (0,0))]++g3.bl)) ?_ ?_
       ·simp only[List.cons_append,List.nil_append];refine .cons _ (.cons _ ?_);exact N6 g2.bl _ _ _ g3.bl
       ·refine Ta.F7 12 kR rfl rfl rfl dE rfl rfl (qA.tk fun H hs=> QL M H s N1.1 oM) ?_;refine .ow 13 ?_;refine .ow 14 ?_;refine Ta.lift (L₂:= [(bs,true,.cells ⟨[mA s]⟩ 9 (0,0)),(bx,true,.cells ⟨[mA s]⟩ 9 (0,0))]++g2.bl) (L₁:= [(b8,true,.cells ⟨[.int .i64 st.al]⟩ 25 (0,0)),(b7,true,.cells ⟨[.int .i64 st.total]⟩ 3 (0,0)),(b6,true,.cells ⟨[xM a2 n2 c2']⟩ 107 (0,0))]++g3.bl) rfl (fun Hx hx=> ?_);refine Ta.vB 15 kR rfl kR rfl rfl rfl rfl rfl rfl dE (uB.of (first:= []) (captured:= [_,_,_,_,_,_]) cU rfl (ihd g3 (l++[s]) _ st a2 n2 c2' H₂ Hx (by rw[sS,p4.2.2.2,hg,gF];rfl) (by rw[List.length_append];show l.length+1+d=nw;omega) (by rw[List.length_append];show _/\_<=3000*((l.length+1:Nat):Int);omega) (KO.le p1) p5 p6 hx)) (fun v H₃ hv=> ?_);obtain⟨_,H₄,g4,a4,n4,c4,r1,r2,r3,r4,r5⟩:=hv;refine Ta.expand r2 ?_;unfold M0;refine .dn ?_;refine U5 ?_;have XD:=ih ⟨(H₄,i+1,_,g2,(a4,n4,c4)),View.le_trans p1 r1,by simp only;omega,p3,p4,r4,r5⟩ (by simp only;omega);refine Tc.rN (aA7 _ _ g2.bl _ _ _ g4.bl) ?_;exact Tc.db XD
end
end Go.Proofs.YtldmfjcgjdchcaaGreatDoor
namespace Go.Proofs.YtldmfjcgjdchcaaGreatDoor
open Go.RL Go.Proofs.Tryz
set_option maxRecDepth 10000
theorem bR(a b:UInt8)(x y:List UInt8):Op.bytesLess (a::x) (b::y)=(decide (a<b)||(a==b&&Op.bytesLess x y)):=rfl
theorem NU(s:List UInt8):Op.bytesLess s []=false:=by cases s <;> rfl
theorem aFs {a b:UInt8}:a<b<->a.toNat<b.toNat:=UInt8.lt_iff_toNat_lt
theorem WE:∀ {a b c:List UInt8},Op.bytesLess a b=true->Op.bytesLess b c=true->Op.bytesLess a c=true
 | _,[],_,h,_=> by rw[NU] at h;cases h
 | _,_::_,[],_,h=> by rw[NU] at h;cases h
 | [],_::_,_::_,_,_=> rfl
 | p ::a,q::b,r::c,h,k=> by
  rw[bR] at h k ⊢;simp only[Bool.or_eq_true,Bool.and_eq_true,decide_eq_true_eq,beq_iff_eq] at h k ⊢;rcases h with h|⟨rfl,h⟩
  ·rcases k with k|⟨rfl,_⟩
   ·exact .inl (UInt8.lt_trans h k)
   ·exact .inl h
  ·rcases k with k|⟨rfl,k⟩
   ·exact .inl k
   ·exact .inr ⟨rfl,WE h k⟩
theorem pH:∀ {a b:List UInt8},Op.bytesLess a b=false->Op.bytesLess b a=false->a=b
 | [],[],_,_=> rfl
 | [],_::_,h,_=> by cases h
 | _::_,[],_,h=> by cases h
 | p ::a,q::b,h,k=> by
  rw[bR] at h k;simp only[Bool.or_eq_false_iff,decide_eq_false_iff_not,Bool.and_eq_false_iff,beq_eq_false_iff_ne] at h k;have e:p=q:=by
   have h1:=h.1;have k1:=k.1;rw[aFs] at h1 k1;exact UInt8.toNat_inj.1 oM
  subst e;have h2:=h.2.resolve_left (fun h=> h rfl);have k2:=k.2.resolve_left (fun h=> h rfl);rw[pH h2 k2]
theorem aR {a b:List UInt8}(h:Op.bytesLess a b=true):Op.bytesLess b a=false:=by
 cases k:Op.bytesLess b a with
 | false=> rfl
 | true=>
  have:=WE h k;rw[oH] at this;cases this
def qG(S:List (List UInt8))(s:List UInt8):Nat:=S.countP fun t=> Op.bytesLess t s
theorem PY {a b:List UInt8}(h:Op.bytesLess a b=true):∀S:List (List UInt8),qG S a<=qG S b
 | []=> Nat.le_refl _
 | t ::S=> by
  have:=PY h S;unfold qG at this ⊢;rw[List.countP_cons,List.countP_cons];by_cases k:Op.bytesLess t a=true
  ·rw[if_pos k,if_pos (WE k h)];omega
  ·rw[if_neg k];split <;> omega
theorem CL {a b:List UInt8}(h:Op.bytesLess a b=true):∀S:List (List UInt8),a∈S->qG S a<qG S b
 | t ::S,hm=> by
  have hle:=PY h S;rcases List.mem_cons.1 hm with rfl|hm
  ·unfold qG at hle ⊢;rw[List.countP_cons,List.countP_cons,if_neg (by rw[oH];decide),if_pos h];omega
  ·have:=CL h S hm;unfold qG at this ⊢;rw[List.countP_cons,List.countP_cons];by_cases k:Op.bytesLess t a=true
   ·rw[if_pos k,if_pos (WE k h)];omega
   ·rw[if_neg k];split <;> omega
def XK(S:List (List UInt8))(z:Int):List UInt8:=(S.find? fun s=> decide ((qG S s:Int)=z)).getD []
theorem zI {S:List (List UInt8)}{s:List UInt8}(h:s∈S):XK S (qG S s:Nat)=s:=by
 unfold XK;cases hf:S.find? (fun t=> decide ((qG S t:Int)=(qG S s:Nat))) with
 | none=>
  have:=List.find?_eq_none.1 hf s h;simp at this
 | some t=>
  have h1:=List.mem_of_find?_eq_some hf;have h2:=List.find?_some hf;simp only[decide_eq_true_eq,Int.natCast_inj] at h2;show t=s;cases k:Op.bytesLess t s with
  | true=> have:=CL k S h1;omega
  | false=>
   cases k2:Op.bytesLess s t with
   | true=> have:=CL k2 S h;omega
   | false=> exact pH k k2
def CF(S:List (List UInt8)):List Int:=S.map fun s=> ((qG S s:Nat):Int)
theorem FQ(S:List (List UInt8)):(CF S).map (XK S)=S:=by
 unfold CF;rw[List.map_map];have:∀s∈S,(XK S∘fun s=> ((qG S s:Nat):Int)) s=s:=fun s hs=> zI hs;rw[List.map_congr_left this,List.map_id']
theorem gH(S:List (List UInt8)):DN (XK S) (CF S):=by
 intro x hx y hy;obtain⟨s,hs,rfl⟩:=List.mem_map.1 hx;obtain⟨t,ht,rfl⟩:=List.mem_map.1 hy;rw[zI hs,zI ht];cases k:Op.bytesLess s t with
 | true=> exact(decide_eq_true (by have:=CL k S hs;omega)).symm
 | false=>
  refine(decide_eq_false ?_).symm;intro HB;cases k2:Op.bytesLess t s with
  | true=> have:=CL k2 S ht;omega
  | false=>
   have:=pH k k2;subst this;omega
def ET(a b:List UInt8):Bool:=!Op.bytesLess b a
def GZ(x:List UInt8):List (List UInt8)->List (List UInt8)
 | []=> [x]
 | y::t=> if ET x y then x::y::t else y::GZ x t
def GL:List (List UInt8)->List (List UInt8)
 | []=> []
 | x::t=> GZ x (GL t)
theorem tM(x:List UInt8):∀l,(GZ x l).Perm (x::l)
 | []=> .refl _
 | y::t=> by
  unfold GZ;split
  ·exact .refl _
  ·exact(List.Perm.cons y (tM x t)).trans (.swap ..)
theorem TH:∀l,(GL l).Perm l
 | []=> .refl _
 | x::t=> (tM x _).trans (.cons x (TH t))
theorem KZ {a b c:List UInt8}(h:ET a b=true)(k:ET b c=true):ET a c=true:=by
 unfold ET at *;simp only[Bool.not_eq_true'] at *;cases e:Op.bytesLess c a with
 | false=> rfl
 | true=>
  cases e2:Op.bytesLess b c with
  | true=> rw[WE e2 e] at h;cases h
  | false=>
   have:=pH e2 k;subst this;rw[e] at h;cases h
theorem JZ {a b:List UInt8}(h:ET a b=false):ET b a=true:=by
 unfold ET at *;simp only[Bool.not_eq_true',Bool.not_eq_false'] at *;exact aR h
theorem dN(x:List UInt8):∀l:List (List UInt8),l.Pairwise (fun a b=> ET a b=true)->(GZ x l).Pairwise (fun a b=> ET a b=true)
 | [],_=> List.pairwise_singleton _ _
 | y ::t,h=> by
  obtain⟨h1,h2⟩:=List.pairwise_cons.1 h;unfold GZ;split
  ·rename_i hx
   refine List.pairwise_cons.2 ⟨fun z hz=> ?_,h⟩;rcases List.mem_cons.1 hz with rfl|hz
   ·exact hx
   ·exact KZ hx (h1 z hz)
  ·rename_i hx
   refine List.pairwise_cons.2 ⟨fun z hz=> ?_,dN x t h2⟩;rcases List.mem_cons.1 ((tM x t).mem_iff.1 hz) with rfl|hz
   ·exact JZ (by simpa using hx)
   ·exact h1 z hz
theorem HL:∀l:List (List UInt8),(GL l).Pairwise (fun a b=> ET a b=true)
 | []=> List.Pairwise.nil
 | x::t=> dN x _ (HL t)
theorem uN {l m:List (List UInt8)}(h:l.Perm m)(hl:l.Pairwise (fun a b=> ET a b=true))(hm:m.Pairwise (fun a b=> ET a b=true)):l=m:=
 List.Perm.eq_of_pairwise (le:=fun a b=> ET a b=true) (fun a b _ _ h1 h2=> by
  unfold ET at h1 h2;simp only[Bool.not_eq_true'] at h1 h2;exact pH h2 h1) hl hm h
theorem VR {S:List (List UInt8)}{m:List Int}{n:Nat}(hn:n=S.length)(ht:kA 0 n (CF S) m)(hs:HE 0 n m):m.map (XK S)=GL S:=by
 have hpm:m.Perm (CF S):=List.perm_iff_count.2 ht.cnt;have hp:(m.map (XK S)).Perm S:=by
  have:=hpm.map (XK S)
  rwa [FQ] at this
 refine uN (hp.trans (TH S).symm) ?_ (HL S);rw[List.pairwise_map,List.pairwise_iff_getElem];intro i j hi hj qS;have GK:m.length=n:=by rw[ht.len,hn];simp[CF]
 have h1:=hs i j (Nat.zero_le _) qS oM;unfold xA at h1;rw[List.getElem?_eq_getElem hi,List.getElem?_eq_getElem hj] at h1;simp only[Option.getD_some] at h1;have h2:=(gH S).uD ht m[j] (List.getElem_mem hj) m[i] (List.getElem_mem hi);unfold ET;rw[h2,decide_eq_false oM];rfl
theorem vN(S:List (List UInt8)):nA (XK S) (CF S)=S.map mA:=by
 have:=congrArg (List.map mA) (FQ S);rw[List.map_map] at this;exact this
theorem rR(dec:Int->List UInt8)(m:List Int):nA dec m=(m.map dec).map mA:=by
 rw[List.map_map];rfl
theorem rF {P:Program}{M:Md P}{St:View->Goroutine->Prop}{n:Nat}{b:FB}{H₀:View}{cs:List Frame}{R:Rg}{L:Bl}{ds:List Deferred}{k:List Item}{id:Nat}{x:Code}(F:Rg->Bl->Prop)(hF:∀R L,F R L->Tc M St n b H₀ cs R L ds k)
 (h:(∀R L,F R L->Tc M St n b H₀ cs R L ds k)->Tc M St n b H₀ cs R L ds (.code x:: .inBlock id::k)):Tc M St n b H₀ cs R L ds (.code (.block id x)::k):=.block (h hF)
def vE(a b:Nat)(u:List Int):Prop:=a=0\/∀i,a<=i->i<b->xA u (a-1)<=xA u i
theorem v7 {a i p q:Nat}{w:List Int}(hp:i<=p/\p<w.length)(hq:i<=q/\q<w.length)(h:HE a i w):HE a i (mB w p q):=fun x y h1 h2 h3=> by
 rw[wC hp.2 hq.2,wC hp.2 hq.2,if_neg oM,if_neg oM,if_neg oM,if_neg oM];exact h x y h1 h2 h3
theorem u7 {a i:Nat}{u:List Int}(h:HE a i u)(hi:a<i)(hle:¬xA u i<xA u (i-1)):HE a (i+1) u:=fun p q h1 h2 h3=> by
 by_cases e:q=i
 ·subst e;by_cases e2:p=q-1
  ·rw[e2];omega
  ·have:=h p (q-1) h1 oM oM;omega
 ·exact h p q h1 h2 oM
theorem RK {l:List Int}{i:Nat}(h:i<l.length):l[i]? =some (xA l i):=by
 unfold xA;rw[List.getElem?_eq_getElem h];rfl
theorem kA.get {a b:Nat}{l m:List Int}(h:kA a b l m){i:Nat}(hi:i<a\/b<=i):m[i]? =l[i]? :=by
 by_cases c:i<l.length
 ·rw[RK c,RK (by rw[h.len];exact c),h.out i hi]
 ·have hl:=h.len;rw[List.getElem?_eq_none oM,List.getElem?_eq_none oM]
theorem parts_eq(l:List Int){a b:Nat}(OQ:a<=b):l=l.take a++((l.drop a).take (b-a)++l.drop b):=by
 have h1:l.drop b=(l.drop a).drop (b-a):=by rw[List.drop_drop];congr 1;omega
 rw[h1,List.take_append_drop,List.take_append_drop]
theorem kA.zJ {a b:Nat}{l m:List Int}(h:kA a b l m)(OQ:a<=b)(x:Int):((m.drop a).take (b-a)).count x=((l.drop a).take (b-a)).count x:=by
 have e1:m.take a=l.take a:=by
  apply List.ext_getElem?
  intro i;by_cases c:i<a
  ·rw[List.getElem?_take_of_lt c,List.getElem?_take_of_lt c];exact h.get (.inl c)
  ·rw[List.getElem?_eq_none (by rw[List.length_take];omega),List.getElem?_eq_none (by rw[List.length_take];omega)]
 have e2:m.drop b=l.drop b:=by
  apply List.ext_getElem?
  intro i;rw[List.getElem?_drop,List.getElem?_drop];exact h.get (.inr oM)
 have h1:=h.cnt x;have h2:=congrArg (List.count x) (parts_eq m OQ);have h3:=congrArg (List.count x) (parts_eq l OQ);simp only[List.count_append] at h2 h3;rw[e1,e2] at h2;omega
theorem kA.all {a b:Nat}{l m:List Int}(h:kA a b l m)(hb:b<=l.length){P:Int->Prop}(hP:∀p,a<=p->p<b->P (xA l p)):∀p,a<=p->p<b->P (xA m p):=fun p h1 h2=> by
 have g1:xA m p∈(m.drop a).take (b-a):=by
  rw[List.mem_iff_getElem?];refine⟨p-a,?_⟩;rw[List.getElem?_take_of_lt oM,List.getElem?_drop,show a+(p-a)=p by omega];exact RK (by rw[h.len];omega)
 have g2:xA m p∈(l.drop a).take (b-a):=by
  rw[<-List.count_pos_iff,<-h.zJ oM];exact List.count_pos_iff.2 g1
 obtain⟨i,hi⟩:=List.mem_iff_getElem?.1 g2;have HB:i<b-a:=by
  have:=(List.getElem?_eq_some_iff.1 hi).1;rw[List.length_take] at this;omega
 rw[List.getElem?_take_of_lt HB,List.getElem?_drop,RK oM] at hi;have:=Option.some.inj hi;rw[<-this];exact hP (a+i) oM oM
theorem vE.VH {a b:Nat}{u w:List Int}(h:vE a b u)(k:kA a b u w)(hb:b<=u.length):vE a b w:=by
 rcases h with h|h
 ·exact .inl h
 ·by_cases h0:a=0
  ·exact .inl h0
  ·refine .inr fun i h1 h2=> ?_;rw[k.out (a-1) (.inl oM)];exact k.all hb (P:=fun x=> xA u (a-1)<=x) h i h1 h2
def UP(f lo hi:Nat)(l:List Int):Prop:=∀k c,lo<=k->(c=2*k+1\/c=2*k+2)->c<hi->xA l (f+c)<=xA l (f+k)
def MF(f lo hi r:Nat)(l:List Int):Prop:=
 (∀k c,lo<=k->k≠r->(c=2*k+1\/c=2*k+2)->c<hi->xA l (f+c)<=xA l (f+k))/\
 (∀k c,lo<=k->(r=2*k+1\/r=2*k+2)->(c=2*r+1\/c=2*r+2)->c<hi->xA l (f+c)<=xA l (f+k))
theorem UP.top {f hi:Nat}{l:List Int}(h:UP f 0 hi l):∀k,k<hi->xA l (f+k)<=xA l f:=by
 intro k;induction k using Nat.strongRecOn with
 | ind k ih=>
  intro hk;by_cases h0:k=0
  ·subst h0;exact Int.le_refl _
  ·have h1:=h ((k-1)/2) k (Nat.zero_le _) oM hk;have h2:=ih ((k-1)/2) oM oM;omega
theorem MF.fin {f lo hi r:Nat}{l:List Int}(h:MF f lo hi r l)(hr:∀c,(c=2*r+1\/c=2*r+2)->c<hi->xA l (f+c)<=xA l (f+r)):UP f lo hi l:=fun k c h1 h2 h3=> by
 by_cases e:k=r
 ·subst e;exact hr c h2 h3
 ·exact h.1 k c h1 e h2 h3
theorem MF.step {f lo hi r c:Nat}{l:List Int}(h:MF f lo hi r l)(hl:f+hi<=l.length)(hlr:lo<=r)(hc:c=2*r+1\/c=2*r+2)(hch:c<hi)(HB:xA l (f+r)<xA l (f+c))
  (oL:∀d,(d=2*r+1\/d=2*r+2)->d<hi->xA l (f+d)<=xA l (f+c)):MF f lo hi c (mB l (f+r) (f+c)):=by
 have hs:=fun q=> wC (l:=l) (p:=f+r) (q:=f+c) oM oM q;refine⟨fun k d h1 h2 h3 h4=> ?_,fun k d h1 h2 h3 h4=> ?_⟩
 ·rw[hs,hs,if_neg (show ¬f+k=f+c by omega)];by_cases e:k=r
  ·subst e;rw[if_pos rfl];by_cases e2:d=c
   ·subst e2;rw[if_pos rfl];omega
   ·rw[if_neg oM,if_neg oM];exact oL d h3 h4
  ·rw[if_neg (show ¬f+k=f+r by omega)];by_cases e2:d=c
   ·omega
   ·rw[if_neg oM];by_cases e3:d=r
    ·subst e3;rw[if_pos rfl];exact h.2 k c h1 h3 hc hch
    ·rw[if_neg oM];exact h.1 k d h1 e h3 h4
 ·have e:k=r:=by omega
  subst e;rw[hs,hs,if_neg oM,if_neg oM,if_neg oM,if_pos rfl];exact h.1 c d oM oM h3 h4
structure eO(a b i j:Nat)(u:List Int):Prop where
 ai:a+1<=i
 ij:i<=j+1
 jb:j<b
 aj:a<=j
 lo:∀k,a<k->k<i->xA u k<xA u a
 hi:∀k,j<k->k<b->xA u a<=xA u k
theorem eO.start {a b:Nat}{u:List Int}(h:a<b):eO a b (a+1) (b-1) u:=⟨Nat.le_refl _,oM,oM,oM,fun k h1 h2=> by omega,fun k h1 h2=> by omega⟩
theorem eO.up {a b i j:Nat}{u:List Int}(h:eO a b i j u)(qS:i<=j)(HB:xA u i<xA u a):eO a b (i+1) j u:=
 ⟨by have:=h.ai;omega,oM,h.jb,h.aj,fun k h1 h2=> by
  by_cases e:k=i
  ·rw[e];exact HB
  ·exact h.lo k h1 oM,h.hi⟩
theorem eO.down {a b i j:Nat}{u:List Int}(h:eO a b i j u)(qS:i<=j)(pS:¬xA u j<xA u a):eO a b i (j-1) u:=
 ⟨h.ai,oM,by have:=h.jb;omega,by have:=h.ai;omega,h.lo,fun k h1 h2=> by
  by_cases e:k=j
  ·rw[e];omega
  ·exact h.hi k oM h2⟩
theorem eO.swap {a b i j:Nat}{u:List Int}(h:eO a b i j u)(hl:b<=u.length)(qS:i<=j)(h1:¬xA u i<xA u a)(h2:xA u j<xA u a):i<j/\eO a b (i+1) (j-1) (mB u i j):=by
 have ha:=h.ai;have hb:=h.jb;have xB:i≠j:=by
  rintro rfl;omega
 have hs:=fun q=> wC (l:=u) (p:=i) (q:=j) oM oM q;have h0:xA (mB u i j) a=xA u a:=by rw[hs,if_neg oM,if_neg oM]
 refine⟨oM,⟨oM,oM,oM,oM,fun k h3 h4=> ?_,fun k h3 h4=> ?_⟩⟩
 ·rw[h0,hs,if_neg oM];by_cases e:k=i
  ·rw[if_pos e];exact h2
  ·rw[if_neg e];exact h.lo k h3 oM
 ·rw[h0,hs];by_cases e:k=j
  ·rw[if_pos e];omega
  ·rw[if_neg e,if_neg oM];exact h.hi k oM h4
structure Part(a b j:Nat)(u:List Int):Prop where
 aj:a<=j
 jb:j<b
 lo:∀k,a<=k->k<j->xA u k<xA u j
 hi:∀k,j<k->k<b->xA u j<=xA u k
theorem eO.fin {a b i j:Nat}{u:List Int}(h:eO a b i j u)(hl:b<=u.length)(qS:j<i):Part a b j (mB u j a):=by
 have ha:=h.ai;have hb:=h.jb;have hj:=h.aj;have hi:=h.ij;have hs:=fun q=> wC (l:=u) (p:=j) (q:=a) oM oM q;have h0:xA (mB u j a) j=xA u a:=by
  rw[hs];by_cases e:j=a
  ·rw[if_pos e,e]
  ·rw[if_neg e,if_pos rfl]
 refine⟨hj,hb,fun k h3 h4=> ?_,fun k h3 h4=> ?_⟩
 ·rw[h0,hs];by_cases e:k=a
  ·rw[if_pos e];exact h.lo j oM oM
  ·rw[if_neg e,if_neg oM];exact h.lo k oM oM
 ·rw[h0,hs,if_neg oM,if_neg oM];exact h.hi k h3 h4
theorem Part.sorted {a b j:Nat}{u m w:List Int}(h:Part a b j u)(hl:b<=u.length)(h1:kA a j u m)(s1:HE a j m)(h2:kA (j+1) b m w)(s2:HE (j+1) b w):kA a b u w/\HE a b w:=by
 have hj:=h.aj;have hb:=h.jb;have GK:=h1.len;refine⟨(h1.wide (Nat.le_refl _) oM).trans (h2.wide oM (Nat.le_refl _)),fun p q g1 g2 g3=> ?_⟩;have ej:xA w j=xA u j:=by rw[h2.out j (.inl oM),h1.out j (.inr (Nat.le_refl _))]
 have lo:∀k,a<=k->k<j->xA w k<=xA u j:=fun k c1 c2=> by
  rw[h2.out k (.inl oM)];exact h1.all oM (P:=fun x=> x<=xA u j) (fun k c3 c4=> Int.le_of_lt (h.lo k c3 c4)) k c1 c2
 have hi:∀k,j<k->k<b->xA u j<=xA w k:=fun k c1 c2=>
  h2.all oM (P:=fun x=> xA u j<=x) (fun k c3 c4=> by rw[h1.out k (.inr oM)];exact h.hi k oM c4) k oM c2
 by_cases c1:q<j
 ·rw[h2.out p (.inl oM),h2.out q (.inl oM)];exact s1 p q g1 g2 c1
 ·by_cases c2:q=j
  ·rw[c2,ej];exact lo p g1 oM
  ·by_cases c3:p<j
   ·exact Int.le_trans (lo p g1 c3) (hi q oM g3)
   ·by_cases c4:p=j
    ·rw[c4,ej];exact hi q oM g3
    ·exact s2 p q oM g2 g3
theorem Part.aAC {a b j:Nat}{u m w:List Int}(h:Part a b j u)(hl:b<=u.length)(h1:kA (j+1) b u m)(s1:HE (j+1) b m)(h2:kA a j m w)(s2:HE a j w):kA a b u w/\HE a b w:=by
 have hj:=h.aj;have hb:=h.jb;have GK:=h1.len;refine⟨(h1.wide oM (Nat.le_refl _)).trans (h2.wide (Nat.le_refl _) oM),fun p q g1 g2 g3=> ?_⟩;have ej:xA w j=xA u j:=by rw[h2.out j (.inr (Nat.le_refl _)),h1.out j (.inl oM)]
 have lo:∀k,a<=k->k<j->xA w k<=xA u j:=fun k c1 c2=>
  h2.all oM (P:=fun x=> x<=xA u j) (fun k c3 c4=> by rw[h1.out k (.inl oM)];exact Int.le_of_lt (h.lo k c3 c4)) k c1 c2
 have hi:∀k,j<k->k<b->xA u j<=xA w k:=fun k c1 c2=> by
  rw[h2.out k (.inr oM)];exact h1.all oM (P:=fun x=> xA u j<=x) (fun k c3 c4=> h.hi k oM c4) k oM c2
 by_cases c1:q<j
 ·exact s2 p q g1 g2 c1
 ·by_cases c2:q=j
  ·rw[c2,ej];exact lo p g1 oM
  ·by_cases c3:p<j
   ·exact Int.le_trans (lo p g1 c3) (hi q oM g3)
   ·by_cases c4:p=j
    ·rw[c4,ej];exact hi q oM g3
    ·rw[h2.out p (.inr oM),h2.out q (.inr oM)];exact s1 p q oM g2 g3
set_option maxHeartbeats 8000000
section
variable(M:Md prog)(H:View)
theorem zX(dec:Int->List UInt8)(sb:Nat)(l:List Int)(jj:List Value)(n cap a b:Nat)(hn:n=l.length)(hb:b<=n)(wF:n<=100000000)(ha:a<b)(hS:H sb=some (true,.cells ⟨(nA dec l)++jj⟩ 9 (0,0))):
  bA M 260 #[.slice (some ⟨sb,0,none⟩) n cap,.int .i64 (a:Nat),.int .i64 (b:Nat)] H (gB dec H sb jj (fun v m=> v=.tuple ⟨[]⟩/\kA a b l m)):=by
 refine bA.enter (vs:= [.slice (some ⟨sb,0,none⟩) n cap,.int .i64 (a:Nat),.int .i64 (b:Nat)]) func260 rfl ntmps260 (Nat.le_of_ble_eq_true rfl) (gA.pull hS) fun St c cs hK=> ?_;have hb1:((b:Nat):Int)-1=((b-1:Nat):Int):=by omega
 refine PE ?_;rw[hb1];refine U ?_;refine Tc.db (Tc.tA (σ:= { s:Nat×Nat×List Int//a<=s.1/\s.1<=b/\a<=s.2.1/\s.2.1<b/\kA a b l s.2.2 }) (fun s=> ([(0,.slice (some ⟨sb,0,none⟩) n cap),(6,.int .i64 (s.1.1:Nat)),(7,.int .i64 (s.1.2.1:Nat))],[(sb,true,.cells ⟨(nA dec s.1.2.2)++jj⟩ 9 (0,0))])) (fun s=> s.1.2.1) ?_
  ⟨(a,b-1,l),by simp,by simp only;omega,by simp only;omega,by simp only;omega,kA.refl ..⟩)
 rintro⟨⟨i,j,u⟩,g1,g2,g3,g4,g5⟩ ih;simp only at g1 g2 g3 g4 g5;show Tc M St _ _ _ _ [(0,.slice (some ⟨sb,0,none⟩) n cap),(6,.int .i64 (i:Nat)),(7,.int .i64 (j:Nat))] [(sb,true,.cells ⟨(nA dec u)++jj⟩ 9 (0,0))] _ _;have cN:=g5.len;by_cases c1:i<j
 ·have e1:((j:Nat):Int)-1=((j-1:Nat):Int):=by omega
  have k1:=rA (dec:=dec) (m:=u) (j:=jj) (k:=(i:Nat)) (p:=i) rfl oM;have k2:=rA (dec:=dec) (m:=u) (j:=jj) (k:=(j:Nat)) (p:=j) rfl oM;have s1:=BA (dec:=dec) (m:=u) (j:=jj) (k:=(i:Nat)) (x:=xA u j) (p:=i) rfl oM;have s2:=BA (dec:=dec) (m:=u.set i (xA u j)) (j:=jj) (k:=(j:Nat)) (x:=xA u i) (p:=j) rfl (by rw[List.length_set];omega);have l1:=AA (dec:=dec) (m:=u) (j:=jj) (k:=(i:Nat)) (p:=i) rfl oM;have l2:=AA (dec:=dec) (m:=u.set i (xA u j)) (j:=jj) (k:=(j:Nat)) (p:=j) rfl (by rw[List.length_set];omega);refine PE ?_;refine Tc.dr [13,15] [0] mixed rfl ?_;refine V2 0 ?_;refine .nw 2 ?_;refine .nw 3 ?_;refine V4 4 ?_;refine .nw 8 ?_;refine .nw 9 ?_;refine .nw 10 ?_;refine V2 11 ?_;refine .e 13 0 ?_;refine .nw 14 ?_;refine .e 15 0 ?_;refine .dn ?_;refine PE ?_;rw[e1];refine U ?_;exact Tc.db (ih ⟨(i+1,j-1,mB u i j),by simp only;omega,by simp only;omega,by simp only;omega,by simp only;omega,g5.trans (kA.swap oM oM oM oM)⟩ (by simp only;omega))
 ·refine U9 ?_;refine .ov hK func260 results260 [] ?_;exact fun H' hs=> gB.of (dec:=dec) hs (i:=0) rfl ⟨rfl,g5⟩
end
section
variable(M:Md prog)(H:View)
theorem tN(dec:Int->List UInt8)(sb:Nat)(l:List Int)(jj:List Value)(n cap lo hi f:Nat)(hn:n=l.length)(hE:DN dec l)(hf:f+hi<=n)(wF:n<=100000000)(HN:lo<=hi)(hH:MF f lo hi lo l)(hS:H sb=some (true,.cells ⟨(nA dec l)++jj⟩ 9 (0,0))):
  bA M 301 #[.slice (some ⟨sb,0,none⟩) n cap,.int .i64 (lo:Nat),.int .i64 (hi:Nat),.int .i64 (f:Nat)] H (gB dec H sb jj (fun v m=> v=.tuple ⟨[]⟩/\kA f (f+hi) l m/\UP f lo hi m)):=by
 refine bA.enter (vs:= [.slice (some ⟨sb,0,none⟩) n cap,.int .i64 (lo:Nat),.int .i64 (hi:Nat),.int .i64 (f:Nat)]) func301 rfl ntmps301 (Nat.le_of_ble_eq_true rfl) (gA.pull hS) fun St c cs hK=> ?_;refine U6 ?_;refine Tc.db (Tc.tA (σ:= { s:Nat×List Int//lo<=s.1/\s.1<=hi/\kA f (f+hi) l s.2/\MF f lo hi s.1 s.2 }) (fun s=> ([(0,.slice (some ⟨sb,0,none⟩) n cap),(2,.int .i64 (hi:Nat)),(3,.int .i64 (f:Nat)),(8,.int .i64 (s.1.1:Nat))],[(sb,true,.cells ⟨(nA dec s.1.2)++jj⟩ 9 (0,0))])) (fun s=> hi-s.1.1) ?_
  ⟨(lo,l),Nat.le_refl _,HN,kA.refl ..,hH⟩)
 rintro⟨⟨r,u⟩,g1,g2,g3,g4⟩ ih;simp only at g1 g2 g3 g4;have cN:=g3.len;have vJ:=hE.uD g3;have e1:2*((r:Nat):Int)+1=((2*r+1:Nat):Int):=by omega
 have e2:((2*r+1:Nat):Int)+1=((2*r+2:Nat):Int):=by omega
 show Tc M St _ _ _ _ [(0,.slice (some ⟨sb,0,none⟩) n cap),(2,.int .i64 (hi:Nat)),(3,.int .i64 (f:Nat)),(8,.int .i64 (r:Nat))] [(sb,true,.cells ⟨(nA dec u)++jj⟩ 9 (0,0))] _ _;refine U4 ?_;refine .i ?_ (z:=iD oM oM);refine U3 ?_;rw[e1];by_cases c0:2*r+1<hi
 ·by_cases d1:2*r+2<hi
  ·have k1:=rA (dec:=dec) (m:=u) (j:=jj) (k:=(f:Nat)+((2*r+1:Nat):Int)) (p:=f+(2*r+1)) oM oM;have k2:=rA (dec:=dec) (m:=u) (j:=jj) (k:=(f:Nat)+((2*r+1:Nat):Int)+1) (p:=f+(2*r+2)) oM oM;by_cases d2:xA u (f+(2*r+1))<xA u (f+(2*r+2))
   ·have oL:∀d,(d=2*r+1\/d=2*r+2)->d<hi->xA u (f+d)<=xA u (f+(2*r+2)):=by rintro d (rfl|rfl) _ <;> omega
    refine PE ?_;refine Tc.dr [] [] mixed rfl ?_;refine V18 0 ?_;refine .z 18 rfl (qA.tk fun H hs=> aC M H vJ (uA oM) (uA oM) true (decide_eq_true d2)) ?_;refine .nn 19 ?_;refine .dn ?_;refine U6 ?_;rw[e2];refine U2 ?_;have hcv:2*r+2<hi:=by omega
    have k3:=rA (dec:=dec) (m:=u) (j:=jj) (k:=(f:Nat)+(r:Nat)) (p:=f+r) oM oM;have k4:=rA (dec:=dec) (m:=u) (j:=jj) (k:=(f:Nat)+((2*r+2:Nat):Int)) (p:=f+(2*r+2)) oM oM;by_cases d3:xA u (f+r)<xA u (f+(2*r+2))
    ·have s1:=BA (dec:=dec) (m:=u) (j:=jj) (k:=(f:Nat)+(r:Nat)) (x:=xA u (f+(2*r+2))) (p:=f+r) oM oM;have s2:=BA (dec:=dec) (m:=u.set (f+r) (xA u (f+(2*r+2)))) (j:=jj) (k:=(f:Nat)+((2*r+2:Nat):Int)) (x:=xA u (f+r)) (p:=f+(2*r+2)) oM (by rw[List.length_set];omega);have l1:=AA (dec:=dec) (m:=u) (j:=jj) (k:=(f:Nat)+(r:Nat)) (p:=f+r) oM oM;have l2:=AA (dec:=dec) (m:=u.set (f+r) (xA u (f+(2*r+2)))) (j:=jj) (k:=(f:Nat)+((2*r+2:Nat):Int)) (p:=f+(2*r+2)) oM (by rw[List.length_set];omega);refine Tc.dr [] [] mixed rfl ?_;refine gO 0 ?_;refine .z 12 rfl (qA.tk fun H hs=> aC M H vJ (uA oM) (uA oM) true (decide_eq_true d3)) ?_;refine .nn 13 ?_;refine .dn ?_;refine U3 ?_;refine Tc.dr [21,23] [0] mixed rfl ?_;refine V4 0 ?_;refine .nw 4 ?_;refine .nw 5 ?_;refine .nw 6 ?_;refine .nw 7 ?_;refine V6 8 ?_;refine .nw 14 ?_;refine .nw 15 ?_;refine .nw 16 ?_;refine .nw 17 ?_;refine .nw 18 ?_;refine V2 19 ?_;refine .e 21 0 ?_;refine .nw 22 ?_;refine .e 23 0 ?_;refine .dn ?_;refine U5 ?_;exact Tc.db (ih ⟨(2*r+2,mB u (f+r) (f+(2*r+2))),by simp only;omega,by simp only;omega,g3.trans (kA.swap oM oM oM oM),g4.step oM g1 oM hcv d3 oL⟩ (by simp only;omega))
    ·refine Tc.dr [] [] mixed rfl ?_;refine gO 0 ?_;refine .z 12 rfl (qA.tk fun H hs=> aC M H vJ (uA oM) (uA oM) false (decide_eq_false d3)) ?_;refine .nn 13 ?_;refine .dn ?_;refine U ?_;refine .rt hK func301 results301 [] ?_;exact fun H' hs=> gB.of (dec:=dec) hs (i:=0) rfl ⟨rfl,g3,g4.fin (fun d h1 h2=> by have:=oL d h1 h2;omega)⟩
   ·have oL:∀d,(d=2*r+1\/d=2*r+2)->d<hi->xA u (f+d)<=xA u (f+(2*r+1)):=by rintro d (rfl|rfl) _ <;> omega
    refine PE ?_;refine Tc.dr [] [] mixed rfl ?_;refine V18 0 ?_;refine .z 18 rfl (qA.tk fun H hs=> aC M H vJ (uA oM) (uA oM) false (decide_eq_false d2)) ?_;refine .nn 19 ?_;refine .dn ?_;refine U4 ?_;have hcv:2*r+1<hi:=by omega
    have k3:=rA (dec:=dec) (m:=u) (j:=jj) (k:=(f:Nat)+(r:Nat)) (p:=f+r) oM oM;have k4:=rA (dec:=dec) (m:=u) (j:=jj) (k:=(f:Nat)+((2*r+1:Nat):Int)) (p:=f+(2*r+1)) oM oM;by_cases d3:xA u (f+r)<xA u (f+(2*r+1))
    ·have s1:=BA (dec:=dec) (m:=u) (j:=jj) (k:=(f:Nat)+(r:Nat)) (x:=xA u (f+(2*r+1))) (p:=f+r) oM oM;have s2:=BA (dec:=dec) (m:=u.set (f+r) (xA u (f+(2*r+1)))) (j:=jj) (k:=(f:Nat)+((2*r+1:Nat):Int)) (x:=xA u (f+r)) (p:=f+(2*r+1)) oM (by rw[List.length_set];omega);have l1:=AA (dec:=dec) (m:=u) (j:=jj) (k:=(f:Nat)+(r:Nat)) (p:=f+r) oM oM;have l2:=AA (dec:=dec) (m:=u.set (f+r) (xA u (f+(2*r+1)))) (j:=jj) (k:=(f:Nat)+((2*r+1:Nat):Int)) (p:=f+(2*r+1)) oM (by rw[List.length_set];omega);refine Tc.dr [] [] mixed rfl ?_;refine gO 0 ?_;refine .z 12 rfl (qA.tk fun H hs=> aC M H vJ (uA oM) (uA oM) true (decide_eq_true d3)) ?_;refine .nn 13 ?_;refine .dn ?_;refine U3 ?_;refine Tc.dr [21,23] [0] mixed rfl ?_;refine V4 0 ?_;refine .nw 4 ?_;refine .nw 5 ?_;refine .nw 6 ?_;refine .nw 7 ?_;refine V6 8 ?_;refine .nw 14 ?_;refine .nw 15 ?_;refine .nw 16 ?_;refine .nw 17 ?_;refine .nw 18 ?_;refine V2 19 ?_;refine .e 21 0 ?_;refine .nw 22 ?_;refine .e 23 0 ?_;refine .dn ?_;refine U5 ?_;exact Tc.db (ih ⟨(2*r+1,mB u (f+r) (f+(2*r+1))),by simp only;omega,by simp only;omega,g3.trans (kA.swap oM oM oM oM),g4.step oM g1 oM hcv d3 oL⟩ (by simp only;omega))
    ·refine Tc.dr [] [] mixed rfl ?_;refine gO 0 ?_;refine .z 12 rfl (qA.tk fun H hs=> aC M H vJ (uA oM) (uA oM) false (decide_eq_false d3)) ?_;refine .nn 13 ?_;refine .dn ?_;refine U ?_;refine .rt hK func301 results301 [] ?_;exact fun H' hs=> gB.of (dec:=dec) hs (i:=0) rfl ⟨rfl,g3,g4.fin (fun d h1 h2=> by have:=oL d h1 h2;omega)⟩
  ·have oL:∀d,(d=2*r+1\/d=2*r+2)->d<hi->xA u (f+d)<=xA u (f+(2*r+1)):=by rintro d (rfl|rfl) _ <;> omega
   refine PE ?_;refine Tc.dr [] [] mixed rfl ?_;refine V5 0 ?_;refine .nw 5 ?_;refine .nw 6 ?_;refine .nw 7 ?_;refine .nw 8 ?_;refine .nw 9 ?_;refine .nw 10 ?_;refine .nw 11 ?_;refine .nw 12 ?_;refine .nw 13 ?_;refine .nw 14 ?_;refine .nw 15 ?_;refine .nw 16 ?_;refine .nw 17 ?_;refine .nw 18 ?_;refine .nn 19 ?_;refine .dn ?_;refine U4 ?_;have hcv:2*r+1<hi:=by omega
   have k3:=rA (dec:=dec) (m:=u) (j:=jj) (k:=(f:Nat)+(r:Nat)) (p:=f+r) oM oM;have k4:=rA (dec:=dec) (m:=u) (j:=jj) (k:=(f:Nat)+((2*r+1:Nat):Int)) (p:=f+(2*r+1)) oM oM;by_cases d3:xA u (f+r)<xA u (f+(2*r+1))
   ·have s1:=BA (dec:=dec) (m:=u) (j:=jj) (k:=(f:Nat)+(r:Nat)) (x:=xA u (f+(2*r+1))) (p:=f+r) oM oM;have s2:=BA (dec:=dec) (m:=u.set (f+r) (xA u (f+(2*r+1)))) (j:=jj) (k:=(f:Nat)+((2*r+1:Nat):Int)) (x:=xA u (f+r)) (p:=f+(2*r+1)) oM (by rw[List.length_set];omega);have l1:=AA (dec:=dec) (m:=u) (j:=jj) (k:=(f:Nat)+(r:Nat)) (p:=f+r) oM oM;have l2:=AA (dec:=dec) (m:=u.set (f+r) (xA u (f+(2*r+1)))) (j:=jj) (k:=(f:Nat)+((2*r+1:Nat):Int)) (p:=f+(2*r+1)) oM (by rw[List.length_set];omega);refine Tc.dr [] [] mixed rfl ?_;refine gO 0 ?_;refine .z 12 rfl (qA.tk fun H hs=> aC M H vJ (uA oM) (uA oM) true (decide_eq_true d3)) ?_;refine .nn 13 ?_;refine .dn ?_;refine U3 ?_;refine Tc.dr [21,23] [0] mixed rfl ?_;refine V4 0 ?_;refine .nw 4 ?_;refine .nw 5 ?_;refine .nw 6 ?_;refine .nw 7 ?_;refine V6 8 ?_;refine .nw 14 ?_;refine .nw 15 ?_;refine .nw 16 ?_;refine .nw 17 ?_;refine .nw 18 ?_;refine V2 19 ?_;refine .e 21 0 ?_;refine .nw 22 ?_;refine .e 23 0 ?_;refine .dn ?_;refine U5 ?_;exact Tc.db (ih ⟨(2*r+1,mB u (f+r) (f+(2*r+1))),by simp only;omega,by simp only;omega,g3.trans (kA.swap oM oM oM oM),g4.step oM g1 oM hcv d3 oL⟩ (by simp only;omega))
   ·refine Tc.dr [] [] mixed rfl ?_;refine gO 0 ?_;refine .z 12 rfl (qA.tk fun H hs=> aC M H vJ (uA oM) (uA oM) false (decide_eq_false d3)) ?_;refine .nn 13 ?_;refine .dn ?_;refine U ?_;refine .rt hK func301 results301 [] ?_;exact fun H' hs=> gB.of (dec:=dec) hs (i:=0) rfl ⟨rfl,g3,g4.fin (fun d h1 h2=> by have:=oL d h1 h2;omega)⟩
 ·refine U9 ?_;refine .ov hK func301 results301 [] ?_;exact fun H' hs=> gB.of (dec:=dec) hs (i:=0) rfl ⟨rfl,g3,g4.fin (fun d h1 h2=> by omega)⟩
end
theorem CZ {f hi s:Nat}{u:List Int}(hs:1<=s)(h:UP f s hi u):MF f (s-1) hi (s-1) u:=
 ⟨fun k c h1 h2 h3 h4=> h k c oM h3 h4,fun k c h1 h2 h3 h4=> by omega⟩
structure CR(f hi s:Nat)(u:List Int):Prop where
 heap:UP f 0 s u
 srt:HE (f+s) (f+hi) u
 low:∀p q,p<s->s<=q->q<hi->xA u (f+p)<=xA u (f+q)
theorem Y4 {f hi s:Nat}{u:List Int}(hs:1<=s)(HK:s<=hi)(hl:f+hi<=u.length)(h:CR f hi s u):MF f 0 (s-1) 0 (mB u f (f+(s-1))):=by
 have hw:=fun q=> wC (l:=u) (p:=f) (q:=f+(s-1)) oM oM q;refine⟨fun k c h1 h2 h3 h4=> ?_,fun k c h1 h2 h3 h4=> by omega⟩;rw[hw,hw,if_neg oM,if_neg oM,if_neg oM,if_neg oM];exact h.heap k c h1 h3 oM
theorem DZ {f hi s:Nat}{u m:List Int}(hs:1<=s)(HK:s<=hi)(hl:f+hi<=u.length)(h:CR f hi s u)(ht:kA f (f+(s-1)) (mB u f (f+(s-1))) m)(hm:UP f 0 (s-1) m):CR f hi (s-1) m:=by
 have hw:=fun q=> wC (l:=u) (p:=f) (q:=f+(s-1)) oM oM q;have aGq:=h.heap.top;have NO:xA m (f+(s-1))=xA u f:=by
  rw[ht.out _ (.inr (Nat.le_refl _)),hw,if_pos rfl]
 have xY:∀q,s<=q->xA m (f+q)=xA u (f+q):=fun q hq=> by
  rw[ht.out _ (.inr oM),hw,if_neg oM,if_neg oM]
 have SA:∀X:Int,(∀p,p<s->xA u (f+p)<=X)->∀p,p<s-1->xA m (f+p)<=X:=fun X hX p hp=>
  ht.all (by rw[JM];omega) (P:=fun x=> x<=X) (fun p h1 h2=> by
   rw[hw,if_neg oM];by_cases e:p=f
   ·rw[if_pos e];exact hX (s-1) oM
   ·rw[if_neg e];have:=hX (p-f) oM
    rwa [show f+(p-f)=p by omega] at this) (f+p) oM oM
 refine⟨hm,fun p q h1 h2 h3=> ?_,fun p q h1 h2 h3=> ?_⟩
 ·by_cases e:p=f+(s-1)
  ·rw[e,NO];have h4:=xY (q-f) oM;rw[show f+(q-f)=q by omega] at h4;rw[h4];have:=h.low 0 (q-f) oM oM oM
   rwa [show f+(q-f)=q by omega,Nat.add_zero] at this
  ·have h4:=xY (q-f) oM;have h5:=xY (p-f) oM;rw[show f+(q-f)=q by omega] at h4;rw[show f+(p-f)=p by omega] at h5;rw[h4,h5];exact h.srt p q oM h2 h3
 ·by_cases e:q=s-1
  ·subst e;rw[NO];exact SA _ (fun p hp=> aGq p hp) p h1
  ·rw[xY q oM];exact SA _ (fun p hp=> h.low p q hp oM h3) p h1
section
variable(M:Md prog)(H:View)
theorem BU(dec:Int->List UInt8)(sb:Nat)(l:List Int)(jj:List Value)(n cap a b:Nat)(hn:n=l.length)(hE:DN dec l)(hb:b<=n)(wF:n<=100000000)(OQ:a<b)(hS:H sb=some (true,.cells ⟨(nA dec l)++jj⟩ 9 (0,0))):
  bA M 257 #[.slice (some ⟨sb,0,none⟩) n cap,.int .i64 (a:Nat),.int .i64 (b:Nat)] H (gB dec H sb jj (fun v m=> v=.tuple ⟨[]⟩/\kA a b l m/\HE a b m)):=by
 obtain⟨hi,dQ⟩:∃hi,hi=b-a:=⟨_,rfl⟩
 have e0:((b:Nat):Int)-((a:Nat):Int)=((hi:Nat):Int):=by omega
 have eb:b=a+hi:=by omega
 obtain⟨s0,nI⟩:∃s0,s0=(hi-1)/2+1:=⟨_,rfl⟩
 have hq:pA .quo .i64 (((hi:Nat):Int)-1) 2=some (.int .i64 (((s0:Nat):Int)-1)):=by
  rw[VS oM oM oM]
  congr 2
  omega
 refine bA.enter (vs:= [.slice (some ⟨sb,0,none⟩) n cap,.int .i64 (a:Nat),.int .i64 (b:Nat)]) func257 rfl ntmps257 (Nat.le_of_ble_eq_true rfl) (gA.pull hS) fun St c cs hK=> ?_;refine vQ ?_;rw[e0];refine U9 ?_;refine Tc.db (Tc.tA (σ:= { s:Nat×List Int//s.1<=hi/\kA a b l s.2/\UP a s.1 hi s.2 }) (fun s=> ([(0,.slice (some ⟨sb,0,none⟩) n cap),(6,.int .i64 (a:Nat)),(7,.int .i64 0),(8,.int .i64 (hi:Nat)),(9,.int .i64 ((s.1.1:Nat)-1))],[(sb,true,.cells ⟨(nA dec s.1.2)++jj⟩ 9 (0,0))])) (fun s=> s.1.1) ?_
  ⟨(s0,l),by simp only;omega,kA.refl ..,fun k c h1 h2 h3=> by simp only at h1;omega⟩)
 rintro⟨⟨s,u⟩,g1,g2,g3⟩ ih;simp only at g1 g2 g3;show Tc M St _ _ _ _ [(0,.slice (some ⟨sb,0,none⟩) n cap),(6,.int .i64 (a:Nat)),(7,.int .i64 0),(8,.int .i64 (hi:Nat)),(9,.int .i64 ((s:Nat)-1))] [(sb,true,.cells ⟨(nA dec u)++jj⟩ 9 (0,0))] _ _;have cN:=g2.len;have vJ:=hE.uD g2;by_cases c1:1<=s
 ·have e1:((s:Nat):Int)-1=((s-1:Nat):Int):=by omega
  rw[e1];refine XP ?_;refine .e (Or.BE (dec:=dec) (l:=u) 0 (fun v m=> v=.tuple ⟨[]⟩/\kA a (a+hi) u m/\UP a (s-1) hi m) rfl rfl rfl rfl rfl dE rfl (fun H hs=> .h (tN M H dec sb u jj n cap (s-1) hi a oM vJ oM wF oM (CZ c1 g3) (hs.get (i:=0) rfl))) (fun v m ⟨hv,ht,hh⟩=> ?_));refine U7 ?_;exact Tc.db (ih ⟨(s-1,m),by simp only;omega,g2.trans (ht.wide (Nat.le_refl _) oM),hh⟩ (by simp only;omega))
 ·have es:s=0:=by omega
  subst es;refine XP ?_;refine Tc.db (Tc.tA (σ:= { s:Nat×List Int//s.1<=hi/\kA a b l s.2/\CR a hi s.1 s.2 }) (fun s=> ([(0,.slice (some ⟨sb,0,none⟩) n cap),(6,.int .i64 (a:Nat)),(7,.int .i64 0),(10,.int .i64 ((s.1.1:Nat)-1))],[(sb,true,.cells ⟨(nA dec s.1.2)++jj⟩ 9 (0,0))])) (fun s=> s.1.1) ?_
   ⟨(hi,u),Nat.le_refl _,g2,⟨g3,fun p q h1 h2 h3=> by omega,fun p q h1 h2 h3=> by omega⟩⟩)
  rintro⟨⟨s,w⟩,f1,f2,f3⟩ ih2;simp only at f1 f2 f3;show Tc M St _ _ _ _ [(0,.slice (some ⟨sb,0,none⟩) n cap),(6,.int .i64 (a:Nat)),(7,.int .i64 0),(10,.int .i64 ((s:Nat)-1))] [(sb,true,.cells ⟨(nA dec w)++jj⟩ 9 (0,0))] _ _;have P5:=f2.len;have IW:=hE.uD f2;by_cases c2:1<=s
  ·have e1:((s:Nat):Int)-1=((s-1:Nat):Int):=by omega
   rw[e1];have k1:=rA (dec:=dec) (m:=w) (j:=jj) (k:=(a:Nat)) (p:=a) rfl oM;have k2:=rA (dec:=dec) (m:=w) (j:=jj) (k:=(a:Nat)+((s-1:Nat):Int)) (p:=a+(s-1)) oM oM;have s1:=BA (dec:=dec) (m:=w) (j:=jj) (k:=(a:Nat)) (x:=xA w (a+(s-1))) (p:=a) rfl oM;have s2:=BA (dec:=dec) (m:=w.set a (xA w (a+(s-1)))) (j:=jj) (k:=(a:Nat)+((s-1:Nat):Int)) (x:=xA w a) (p:=a+(s-1)) oM (by rw[List.length_set];omega);have l1:=AA (dec:=dec) (m:=w) (j:=jj) (k:=(a:Nat)) (p:=a) rfl oM;have l2:=AA (dec:=dec) (m:=w.set a (xA w (a+(s-1)))) (j:=jj) (k:=(a:Nat)+((s-1:Nat):Int)) (p:=a+(s-1)) oM (by rw[List.length_set];omega);have hsw:=kA.swap (a:=a) (b:=b) (l:=w) (p:=a) (q:=a+(s-1)) oM oM oM oM;refine PE ?_;refine Tc.dr [17,19] [0] mixed rfl ?_;refine V2 0 ?_;refine .nw 2 ?_;refine .nw 3 ?_;refine .nw 4 ?_;refine .nw 5 ?_;refine V6 6 ?_;refine .nw 12 ?_;refine .nw 13 ?_;refine .nw 14 ?_;refine V2 15 ?_;refine .e 17 0 ?_;refine .nw 18 ?_;refine .e 19 0 ?_;refine .dn ?_;refine U5 ?_;refine .e (Or.BE (dec:=dec) (l:=mB w a (a+(s-1))) 0 (fun v m=> v=.tuple ⟨[]⟩/\kA a (a+(s-1)) (mB w a (a+(s-1))) m/\UP a 0 (s-1) m) rfl rfl rfl rfl rfl dE rfl (fun H hs=> .h (tN M H dec sb (mB w a (a+(s-1))) jj n cap 0 (s-1) a (by rw[JM];omega) (IW.uD hsw) oM wF oM (Y4 c2 f1 oM f3) (hs.get (i:=0) rfl))) (fun v m ⟨hv,ht,hh⟩=> ?_));refine U7 ?_;exact Tc.db (ih2 ⟨(s-1,m),by simp only;omega,f2.trans (hsw.trans (ht.wide (Nat.le_refl _) oM)),DZ c2 f1 oM f3 ht hh⟩ (by simp only;omega))
  ·have es:s=0:=by omega
   subst es;refine U8 ?_;refine .ov hK func257 results257 [] ?_;exact fun H' hs=> gB.of (dec:=dec) hs (i:=0) rfl ⟨rfl,f2,eb▸f3.srt⟩
end
end Go.Proofs.YtldmfjcgjdchcaaGreatDoor
