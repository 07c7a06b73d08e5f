/-
 Texts of the proofs over baudot/dial.
-/
import Derived.Test.YtcagolloalgfiaaGreatDoorW03
import Derived.Conc.Beside
import Derived.Listen
import Derived.Handed
import Derived.Test.YtcagolloalgfiaaGreatDoorTie
import Derived.Test.YtcagolloalgfiaaGreatDoorCards
import Derived.ProofKit
import Derived.LaidMore
import Derived.LaidHandle
import Derived.LaidSub
import Derived.Lay
import Derived.Laws.IdiomArrays
import Derived.JoinedOf
import Derived.SevenTiedAt
import Derived.Deep.Slices
namespace Go.RL
open Go.Conc
section
variable {P:Program}{E:Env P}{M:Md P}{n:Nat}{H₀:View}{R:Rg}{L L':Bl}{o:Oper}{K:Rg->Bl->Prop}{d:Nat}
theorem SymSt.sub {H:View}(h:SymSt H₀ L H)(p:L'.Sublist L):SymSt H₀ L' H:=
 ⟨h.nodup.sublist (p.map _),fun x hx=> h.out x (p.subset hx),fun x hx=> h.at_ x (p.subset hx),h.base⟩
def TurnQ {σ:Type}(H₁:View)(val:σ->Value)(bl:σ->Bl)(p:σ->Prop)(v:Value)(H':View):Prop:=
 ∃s H₂,v=val s/\H₁.le H₂/\SymSt H₂ (bl s) H'/\p s
theorem Or.callTurn0(k:Nat){σ:Type}(val:σ->Value)(bl:σ->Bl)(p:σ->Prop){cl:Go.Call}{x:Operand}{fv:Value}{az:List Value}(hop:o.op=.call cl)(hcl:cl.callee=.value x)(hx:evR R x=some fv)(has:evRs R cl.args.toList=some az)
  (hc:∀H₁ H,SymSt H₀ (L.take k) H₁->SymSt H₁ (L.drop k) H->FnT M fv az H (TurnQ H₁ val bl p))
  (hk:∀s,p s->∃R',(match o.dst with|some d=> d<n/\R'=(d,val s)::R|none=> R'=R)/\K R' (L.take k++bl s)):Or M n H₀ R L o K:=
 .callV hop hcl hx has (Q:=fun _ v H'=> ∃s,v=val s/\p s/\SymSt H₀ (L.take k++bl s) H') (fun H hs=> by
  have hs':SymSt H₀ (L.drop k++L.take k) H:=hs.perm (List.perm_append_comm.trans (by rw[List.take_append_drop]));obtain⟨H₁,h1,h2⟩:=hs'.unappend;refine(hc H₁ H h2 h1).mono ?_;rintro v H' ⟨s,H₂,rfl,h3,h4,h5⟩;exact⟨s,rfl,h5,((h2.mono h3).append h4).perm List.perm_append_comm⟩) (by
  rintro H v H' hs ⟨s,rfl,h1,h2⟩;obtain⟨R',h3,h4⟩:=hk s h1;exact⟨_,R',h2,h3,h4⟩)
theorem Or.callTurn(k:Nat){σ:Type}(val:σ->Value)(bl:σ->Bl)(p:σ->Prop){cl:Go.Call}{x:Operand}{fv:Value}{az:List Value}(hop:o.op=.call cl)(hcl:cl.callee=.value x)(hx:evR R x=some fv)(has:evRs R cl.args.toList=some az)(hd:o.dst=some d)(hn:d<n)
  (hc:∀H₁ H,SymSt H₀ (L.take k) H₁->SymSt H₁ (L.drop k) H->FnT M fv az H (TurnQ H₁ val bl p))
  (hk:∀s,p s->K ((d,val s)::R) (L.take k++bl s)):Or M n H₀ R L o K:=
 .callTurn0 k val bl p hop hcl hx has hc fun s hs=> ⟨_,by rw[hd];exact⟨hn,rfl⟩,hk s hs⟩
theorem Or.convSB {t u e:TypeId}{x:Operand}{s:List UInt8}{r re r':TyRow}(hop:o.op=.convert t u x)(hx:evR R x=some (strV s))(ht:E.ty t=some r)(hr:r.ds=.str)(ht':E.ty u=some r')(hr':r'.ds=.slice e)(hte:E.ty e=some re)(hre:re.ds=.int .u8)(hd:o.dst=some d)(hn:d<n)
  (hk:∀blk cap (jj:List Value) fz,K ((d,.slice (some ⟨blk,0,none⟩) s.length cap)::R) ((blk,true,.cells ⟨bytesV s++jj⟩ e fz)::L)):Or M n H₀ R L o K:=
 .val hd hn fun H tmps hs hr0=> by
  unfold execOp;rw[hop];simp only[hr0.ev hx];refine vwp_bind (convert t u (strV s)) _ ?_;unfold convert;refine vwp_bind (underlying t) _ (vwp_underlying (ds_str ((E.ok _ _ ht).ds.trans hr)) (vwp_bind (underlying u) _ (vwp_underlying (ds_slice ((E.ok _ _ ht').ds.trans hr')) ?_)));refine vwp_bind (underlying e) _ (vwp_underlying (ds_int ((E.ok _ _ hte).ds.trans hre)) ?_);show vwp P (Conv.stringToBytes e ⟨⟨s⟩⟩) H _;unfold Conv.stringToBytes;refine vwp_bind (choose _) _ ?_;intro tt;rw[if_neg (by simp[Question.forced])];generalize (Question.appendCap (ByteArray.mk ⟨s⟩).size 0 e).cut tt=cap;refine vwp_bind (newRow e _) _ ?_;have e1:(ByteArray.mk ⟨s⟩).data.map (fun b=> Value.int .u8 (b.toNat:Int))++Array.replicate (cap-(ByteArray.mk ⟨s⟩).size) (Value.int .u8 0)=⟨bytesV s++List.replicate (cap-s.length) (.int .u8 0)⟩:=by
   apply Array.ext'
   simp[bytesV]
   rfl
  rw[e1];intro blk hblk;refine vwp_bind (markStringish ⟨blk,0,none⟩) _ ?_;refine⟨true,_,_,_,View.put_same ..,?_⟩;refine⟨Nat.one_ne_zero,_,_,_,View.put_same ..,?_⟩;refine⟨_,rfl,_,?_,hk blk cap (List.replicate (cap-s.length) (.int .u8 0)) ?fz⟩;have e2:∀(H:View) (b:Nat) (x y:Bool×Obj),(H.put b x).put b y=H.put b y:=fun H b x y=> by
   funext c
   by_cases h:c=b
   ·subst h;rw[View.put_same,View.put_same]
   ·rw[View.put_other _ _ h,View.put_other _ _ h,View.put_other _ _ h]
  rw[e2];exact hs.cons _ hblk
theorem Or.copyAt(i:Nat){cl:Go.Call}{x y:Operand}{t xt e e':TypeId}{m q cap blk off:Nat}{yv:Value}{new c c':List Value}{r re:TyRow}(hop:o.op=.call cl)(hcl:cl.callee=.builtin .copy)(hat:cl.argTypes=#[t,xt])(har:cl.args=#[x,y])
  (hx:evR R x=some (.slice (some ⟨blk,off,none⟩) q cap)) (hy:evR R y=some yv) (ht:E.ty t=some r) (hds:r.ds=.slice e) (hre:E.ty e=some re) (hsz:re.size=1)
  (hi:L[i]? =some (blk,true,.cells ⟨c⟩ e' (0,0))) (hsrc:∀H,SymSt H₀ L H->SrcAt H 1 yv m new) (hs:new.all single=true) (hm:m<=q) (hl:off+q<=c.length) (hd:o.dst=some d) (hn:d<n) (hc:stL c off new=c')
  (hk:K ((d,.int .i64 (m:Nat))::R) (L.set i (blk,true,.cells ⟨c'⟩ e' (0,0)))):Or M n H₀ R L o K:=
 .val hd hn fun H tmps hst hr=> by
  have hsrc':=hsrc H hst;unfold execOp;rw[hop];simp only[resolve,hcl,hat,har];have hm':Array.map (evT tmps) #[x,y]=#[.slice (some ⟨blk,off,none⟩) q cap,yv]:=by simp[hr.ev hx,hr.ev hy]
  rw[hm'];refine vwp_bind (Builtin.copy_ #[t,xt] o.type #[.slice (some ⟨blk,off,none⟩) q cap,yv]) _ ?_;show vwp P ((underlying t).bind fun _=> _) H _;refine vwp_bind (underlying t) _ (vwp_underlying (ds_slice ((E.ok _ _ ht).ds.trans hds)) ?_);show vwp P ((Builtin.lenOf yv).bind fun _=> _) H _;refine vwp_bind (Builtin.lenOf yv) _ (hsrc'.lenOf ?_);show vwp P ((sizeOf e).bind fun _=> _) H _;refine vwp_bind (sizeOf e) _ (vwp_sizeOf (E.ok _ _ hre).size ?_);have hmin:Nat.min m q=m:=Nat.min_eq_left hm;rw[hmin,hsz];refine vwp_bind (Builtin.firstCells 1 m yv) _ (vwp_firstCells hsrc' ?_);show vwp P ((storeCells ⟨blk,off,none⟩ new).bind fun _=> Sem.pure (Value.int .i64 (m:Nat))) H _;refine vwp_bind _ _ ?_;have hlen:new.length=m:=by have:=hsrc'.2.1;omega
  refine vwp_storeCells blk off new 0 c (hst.get hi) (by simp only[Nat.add_zero];omega) hs fun H' hH'=> ?_;by_cases hne:new= []
  ·rw[if_pos hne] at hH';subst hH';have e1:c'=c:=by rw[<-hc,hne,stL_nil]
   rw[e1] at hk;have e2:L.set i (blk,true,.cells ⟨c⟩ e' (0,0))=L:=by
    apply List.ext_getElem?
    intro j;rw[List.getElem?_set];split
    ·rename_i h
     subst h;rw[hi];split
     ·rfl
     ·rename_i h2
      rw[List.getElem?_eq_none oM] at hi;cases hi
    ·rfl
   rw[e2] at hk;exact⟨_,rfl,_,hst,hk⟩
  ·rw[if_neg hne] at hH';rw[hH'];refine⟨_,rfl,_,hst.set hi _,?_⟩;rw[show stL c (off+0) new=c' from hc];exact hk
end
end Go.RL
namespace Go.Proofs.YtcagolloalgfiaaGreatDoor
open Go.RL Go.Proofs.Tryz
set_option maxRecDepth 10000
set_option maxHeartbeats 16000000
def pn(x:UInt8):Nat:=if x.toNat=48 then 10 else x.toNat-48
theorem pn_in {x:UInt8}(h:dig x=true):1<=pn x/\pn x<=10:=by
 have:=of_decide_eq_true h;unfold pn;split <;> omega
def pnAt(s:List UInt8)(i:Nat):Nat:=pn (s[i]?.getD 48)
theorem dec_dig(s:List UInt8)(p:Nat)(hp:p<s.length)(hd:s.all dig=true):∃x,s[p]? =some x/\dig x=true/\Utf8.decode ⟨⟨s⟩⟩ p=(x.toNat,1):=by
 have hx:=List.getElem?_eq_getElem hp;have h1:dig s[p]=true:=List.all_eq_true.1 hd _ (List.getElem_mem hp);refine⟨s[p],hx,h1,?_⟩;obtain⟨z,w,h2,_,y,h3,h4,_⟩:=dec_at s p hp;rw[hx] at h3;cases h3
 have:=of_decide_eq_true h1;obtain⟨rfl,rfl⟩:=h4 oM;exact h2
section
variable(M:Md prog)(H:View)
theorem pulses_c(x:UInt8)(hx:dig x=true):CallT M 123 #[.int .i32 (x.toNat:Nat)] H (fun v H'=> H.le H'/\v=.int .i64 (pn x:Nat)):=by
 have hd:=of_decide_eq_true hx;by_cases c1:x.toNat=48
 ·have e:pn x=10:=if_pos c1;rw[e,c1];refine .en func123 ntmps123 fun St c cs hK=> ?_;refine U15 ?_;refine .rt hK func123 results123 [_] ?_;exact okB
 ·have e:pn x=x.toNat-48:=if_neg c1;rw[e];have c2:¬((x.toNat:Nat):Int)=48:=by omega
  have w1:intBin .sub .i32 ((x.toNat:Nat):Int) 48=some (.int .i32 ((x.toNat-48:Nat):Int)):=by
   have:IntKind.i32.wrap (((x.toNat:Nat):Int)-48)=((x.toNat-48:Nat):Int):=by
    rw[show((x.toNat:Nat):Int)-48=((x.toNat-48:Nat):Int) by omega];exact IntWalk.i32_in _ ⟨oM,oM⟩
   show some (Value.int _ (IntKind.i32.wrap _))=_;rw[this]
  have w2:IntKind.i64.wrap ((x.toNat-48:Nat):Int)=((x.toNat-48:Nat):Int):=wrap64 oM oM;refine .en func123 ntmps123 fun St c cs hK=> ?_;refine U19 ?_;refine .rt hK func123 results123 [_] ?_;exact okB
end
end Go.Proofs.YtcagolloalgfiaaGreatDoor
section

end
section

end
namespace Go.Proofs.YtcagolloalgfiaaGreatDoor
open Go.RL Go.Proofs.Tryz
set_option maxRecDepth 10000
set_option maxHeartbeats 16000000
def takenN(s:List UInt8):Nat:=(s.map pn).sum
theorem takenN_le(s:List UInt8)(h:s.all dig=true):takenN s<=10*s.length:=by
 induction s with
 | nil=> exact Nat.le_refl _
 | cons x t ih=>
  rw[List.all_cons,Bool.and_eq_true] at h;have h1:=ih h.2;have h2:=pn_in h.1;unfold takenN at h1 ⊢;rw[List.map_cons,List.sum_cons,List.length_cons];omega
theorem takenN_at {s:List UInt8}{p:Nat}{x:UInt8}(h:s[p]? =some x):takenN (s.take (p+1))=takenN (s.take p)+pn x:=by
 obtain⟨hp,rfl⟩:=List.getElem?_eq_some_iff.1 h;unfold takenN;rw[List.take_succ_eq_append_getElem hp,List.map_append,List.sum_append];rfl
section
variable(M:Md prog)(H:View)
theorem taken_c(s:List UInt8)(hs1:s.all dig=true)(hs2:s.length<=1000):CallT M 69 #[strV s] H (fun v H'=> H.le H'/\v=.int .i64 (takenN s:Nat)):=by
 have hb:=takenN_le s hs1;refine .en func69 ntmps69 fun St c cs hK=> ?_;refine U12 ?_;refine .e (Or.rangeS (E:=en) (s:=⟨⟨s⟩⟩) rfl rfl rfl rfl rfl dE (fun it=> ?_));refine U2 ?_;refine Tc.db (Tc.loopInv (σ:= { p:Nat//p<=s.length }) (fun p=> ([(3,.int .i64 (takenN (s.take p.1):Nat)),(7,.pointer (some ⟨it,0,none⟩))],[(it,true,.stringIter ⟨⟨s⟩⟩ p.1)])) (fun p=> s.length-p.1) ?_ ⟨0,Nat.zero_le _⟩);rintro⟨p,hp⟩ ih;show Tc M St _ _ _ _ [(3,.int .i64 (takenN (s.take p):Nat)),(7,.pointer (some ⟨it,0,none⟩))] [(it,true,.stringIter ⟨⟨s⟩⟩ p)] _ _;have hps0:takenN (s.take p)<=10*p:=by
  have h1:(s.take p).all dig=true:=List.all_eq_true.2 fun x hx=> List.all_eq_true.1 hs1 x (List.mem_of_mem_take hx);have h2:=takenN_le (s.take p) h1;rw[List.length_take] at h2;omega
 by_cases c1:p=s.length
 ·subst c1;have hnp:¬s.length<(ByteArray.mk ⟨s⟩).size:=by show ¬s.length<s.length;omega
  rw[List.take_length];refine U2 ?_;refine .e (Or.nextS0 0 rfl rfl rfl hnp rfl dE ?_);refine U10 ?_;refine .rt hK func69 results69 [_] ?_;exact okB
 ·have c2:p<s.length:=by omega
  obtain⟨x,hx,hdx,hdec⟩:=dec_dig s p c2 hs1;have hpn:=pn_in hdx;have hps:p<(ByteArray.mk ⟨s⟩).size:=c2;have ha:intBin .add .i64 (takenN (s.take p):Nat) (pn x:Nat)=some (.int .i64 ((takenN (s.take (p+1)):Nat):Int)):=by
   rw[add_in oM oM,takenN_at hx];rfl
  refine U2 ?_;refine .e (Or.nextS 0 rfl rfl rfl hps hdec rfl dE ?_);refine U14 ?_;refine .cl (fun H hs=> pulses_c M H x hdx) ?_;refine U4 ?_;exact Tc.db (ih ⟨p+1,oM⟩ (by simp only;omega))
def pulsesV(s:List UInt8):Value:=if isNum s=false then .tuple ⟨[.int .i64 0,.int .i64 3]⟩ else .tuple ⟨[.int .i64 (takenN s:Nat),.int .i64 0]⟩
theorem Pulses_c(s:List UInt8)(hs2:s.length<=1000):CallT M 30 #[strV s] H (fun v H'=> H.le H'/\v=pulsesV s):=by
 cases h1:isNum s with
 | false=>
  have ev:pulsesV s=.tuple ⟨[.int .i64 0,.int .i64 3]⟩:=if_pos h1;rw[ev];refine .en func30 ntmps30 fun St c cs hK=> ?_;refine U9 ?_;refine .cl (fun H hs=> isB (isNumber_c M H s oM) h1) ?_;refine U8 ?_;refine .rt hK func30 results30 [_,_] ?_;exact okB
 | true=>
  have hdg:s.all dig=true:=by
   unfold isNum at h1;simp only[Bool.and_eq_true] at h1;exact h1.2
  have ev:pulsesV s=.tuple ⟨[.int .i64 (takenN s:Nat),.int .i64 0]⟩:=if_neg (by simp[h1]);rw[ev];refine .en func30 ntmps30 fun St c cs hK=> ?_;refine U9 ?_;refine .cl (fun H hs=> isB (isNumber_c M H s oM) h1) ?_;refine U7 ?_;refine .cl (fun H hs=> taken_c M H s hdg hs2) ?_;refine U3 ?_;refine .rt hK func30 results30 [_,_] ?_;exact okB
end
end Go.Proofs.YtcagolloalgfiaaGreatDoor
section

end
namespace Go.Proofs.YtcagolloalgfiaaGreatDoor
open Go.RL Go.Proofs.Tryz
set_option maxRecDepth 10000
set_option maxHeartbeats 16000000
def StrsAt(H:View)(F:Option Addr)(n:Nat)(x:Nat->List UInt8):Prop:=
 n=0\/∃b o f gs gt gz,F=some ⟨b,o,none⟩/\H b=some (f,.cells ⟨gs⟩ gt gz)/\∀j:Nat,j<n->ldL false 1 gs (o+(j:Int).toNat*1)=some (strV (x j))
section
variable(M:Md prog)(H:View)
theorem IndexI_c(F:Option Addr)(n fc:Nat)(x:Nat->Int)(hF:FreeAt H F n x)(hn:n<=1000000)(fv:Value)(p:Nat->Bool)(hp:∀j,j<n->∀H',H.le H'->FnT M fv [.int .i64 (x j)] H' fun v H''=> H'.le H''/\v=.bool (p j)):
  CallT M 153 #[.slice F n fc,fv] H (fun v H'=> H.le H'/\v=.int .i64 (firstI (firstTo p n))):=by
 refine .en func153 ntmps153 fun St c cs hK=> ?_;refine U12 ?_;refine Tc.db (Tc.loopInv (σ:= { j:Nat//j<=n/\firstTo p j=none }) (fun j=> ([(0,.slice F n fc),(1,fv),(7,.int .i64 (n:Nat)),(8,.int .i64 (j.1:Nat))],[])) (fun j=> n-j.1) ?_ ⟨0,Nat.zero_le _,rfl⟩);rintro⟨j,hj,hno⟩ ih;show Tc M St _ _ _ _ [(0,.slice F n fc),(1,fv),(7,.int .i64 (n:Nat)),(8,.int .i64 (j:Nat))] [] _ _;by_cases c1:j=n
 ·subst c1;rw[hno] at hK;refine U11 ?_;refine .rt hK func153 results153 [_] ?_;exact okB
 ·have c2:j<n:=by omega
  obtain h0|⟨ab,ao,f,gs,gt,gz,rfl,hb,hl⟩:=hF
  ·omega
  have f1:=hl j c2;have hpj:=hp j c2;cases hpp:p j with
  | true=>
   rw[hpp] at hpj;have e:firstTo p n=some j:=firstTo_stays (j:=j+1) (by simp[firstTo,hno,hpp]) _ oM;rw[e] at hK;refine U21 ?_;refine .c rfl rfl rfl rfl (fun H hs=> hpj H hs.base) ?_;refine U7 ?_;refine .rt hK func153 results153 [_] ?_;exact okB
  | false=>
   rw[hpp] at hpj;refine U21 ?_;refine .c rfl rfl rfl rfl (fun H hs=> hpj H hs.base) ?_;refine U8 ?_;exact Tc.db (ih ⟨j+1,oM,by simp[firstTo,hno,hpp]⟩ (by simp only;omega))
theorem ContainsI_c(F:Option Addr)(n fc:Nat)(x:Nat->Int)(hF:FreeAt H F n x)(hn:n<=1000000)(fv:Value)(p:Nat->Bool)(hp:∀j,j<n->∀H',H.le H'->FnT M fv [.int .i64 (x j)] H' fun v H''=> H'.le H''/\v=.bool (p j)):
  CallT M 114 #[.slice F n fc,fv] H (fun v H'=> H.le H'/\v=.bool (firstTo p n).isSome):=by
 have hi:=fun(H':View) (h':H.le H')=> IndexI_c M H' F n fc x (hF.le h') hn fv p (fun j hj H'' h''=> hp j hj H'' (View.le_trans h' h''));cases hq:firstTo p n with
 | none=>
  rw[hq] at hi;have e:firstI none= -1:=rfl;rw[e] at hi;refine .en func114 ntmps114 fun St c cs hK=> ?_;refine U8 ?_;refine .cl (fun H hs=> hi H hs.base) ?_;refine U3 ?_;refine .rt hK func114 results114 [_] ?_;exact okB
 | some j=>
  rw[hq] at hi;have e:firstI (some j)=(j:Nat):=rfl;rw[e] at hi;refine .en func114 ntmps114 fun St c cs hK=> ?_;refine U8 ?_;refine .cl (fun H hs=> hi H hs.base) ?_;refine U3 ?_;refine .rt hK func114 results114 [_] ?_;exact okB
end
def strsV(l:List (List UInt8)):List Value:=l.map strV
theorem strsV_len(l:List (List UInt8)):(strsV l).length=l.length:=by simp[strsV]
theorem strsV_app(l m:List (List UInt8)):strsV (l++m)=strsV l++strsV m:=by simp[strsV]
end Go.Proofs.YtcagolloalgfiaaGreatDoor
section

end
namespace Go.Proofs.YtcagolloalgfiaaGreatDoor
open Go.RL Go.Proofs.Tryz
set_option maxRecDepth 10000
set_option maxHeartbeats 16000000
theorem strs_of(g:Gl 9 1){H:View}(h:∀x∈g.bl,H x.1=some x.2){l:List (List UInt8)}(hl:g.l=strsV l){g0:Gl 9 1}(hn:g.n=g0.n)(hb:g.blk=g0.blk):StrsAt H (g0.blk.map fun b=> ⟨b,0,none⟩) g0.n (fun j=> l[j]?.getD []):=by
 have hgl:=g.hl;rw[hl,strsV_len] at hgl;cases hbb:g0.blk with
 | none=>
  have:=g.h0 (hb.trans hbb);have:=g.hc;exact .inl oM
 | some b=>
  have hbl:g.bl= [(b,true,.cells ⟨g.l++g.junk⟩ 9 (0,0))]:=by unfold Gl.bl;rw[hb,hbb]
  refine .inr ⟨b,0,true,_,9,(0,0),rfl,h (b,true,.cells ⟨g.l++g.junk⟩ 9 (0,0)) (by rw[hbl];simp),fun j hj=> ?_⟩;show(g.l++g.junk)[_]? =_;have hjl:j<l.length:=by omega
  rw[Nat.zero_add,Int.toNat_natCast,Nat.mul_one,List.getElem?_append_left (by rw[hl,strsV_len];exact hjl),hl];unfold strsV;rw[List.getElem?_map];simp only[List.getElem?_eq_getElem hjl];rfl
set_option maxHeartbeats 8000000
def sgLet:List UInt8:= [65,66,67,68,69,70,71,72,73,74,75,76,77,78,79,80,81,82,83,84,85,86,87,88,89,90]
def sgFig:List UInt8:= [49,50,51,52,53,54,55,56,57,48,46,44,58,63,39,40,41,47,43,45,61,33,36,38,37,35]
def Sig(H:View):Prop:=∃f gt gz,H 2=some (f,.cells ⟨[strV sgLet,strV sgFig]⟩ gt gz)
theorem Sig.le {H H':View}(h:Sig H)(hl:H.le H'):Sig H':=h.imp fun _ ⟨gt,gz,e⟩=> ⟨gt,gz,hl _ _ e⟩
theorem e185:Xt prog 185 Extern.BytealgIndexByte.indexByte:=⟨Tryz.f185,func185,by kernel_rfl,by kernel_rfl,by kernel_rfl,by kernel_rfl⟩
def dcode(d:Nat):Nat:=if d=0 then 10 else d
theorem ix_let:∀d,d<10->ixB sgLet (UInt8.ofNat (48+d))= -1:=by decide +kernel
theorem ix_fig:∀d,d<10->ixB sgFig (UInt8.ofNat (48+d))+1=((dcode d:Nat):Int):=by decide +kernel
theorem dcode_le:∀d,d<10->1<=dcode d/\dcode d<=10:=by decide
section
variable(M:Md prog)(H:View)
theorem IndexByte0_c(s:List UInt8)(x:Nat):CallT M 173 #[strV s,.int .u8 (x:Nat)] H (fun v H'=> H.le H'/\v=.int .i64 (ixB s (UInt8.ofNat x))):=by
 refine .en func173 ntmps173 fun St c cs hK=> ?_;refine U8 ?_;refine .x (OpV.entry rfl rfl rfl rfl e185 (fun H Q hq=> vwp_ixB hq)) ?_;refine U2 ?_;refine .rt hK func173 results173 [_] ?_;exact okB
theorem IndexByte_c(s:List UInt8)(x:Nat):CallT M 152 #[strV s,.int .u8 (x:Nat)] H (fun v H'=> H.le H'/\v=.int .i64 (ixB s (UInt8.ofNat x))):=by
 refine .en func152 ntmps152 fun St c cs hK=> ?_;refine U8 ?_;refine .cl (fun H hs=> IndexByte0_c M H s x) ?_;refine U2 ?_;refine .rt hK func152 results152 [_] ?_;exact okB
theorem IndexByte_is(s:List UInt8)(x:Nat)(z:Int)(h:ixB s (UInt8.ofNat x)=z):CallT M 152 #[strV s,.int .u8 (x:Nat)] H (fun v H'=> H.le H'/\v=.int .i64 z):=by
 subst h;exact IndexByte_c M H s x
theorem need_c(hG:Sig H)(d:Nat)(hd:d<10)(p:Nat)(f:Bool)(gv:Value)(gz:Nat×Nat)(hp:H p=some (f,.cells ⟨[.int .i64 1,gv]⟩ 141 gz)):
  CallT M 113 #[.pointer (some ⟨p,0,none⟩),.int .u8 ((48+d:Nat):Int)] H (fun v H'=> H.le H'/\v=.tuple ⟨[.int .i64 2,.int .i64 (dcode d:Nat),.int .i64 1]⟩):=by
 obtain⟨f4,gt4,gz4,hG4⟩:=hG;have x1:=ix_let d hd;have x2:=ix_fig d hd;have x3:=dcode_le d hd;generalize hz:ixB sgFig (UInt8.ofNat (48+d))=z at x2;refine .en func113 ntmps113 fun St c cs hK=> ?_;refine U31 ?_;refine .done (.block (.loop (.sr ?_)));refine U10 ?_;refine .x (OpV.index (E:=en) rfl rfl rfl rfl rfl rfl oM oM (by exact rfl)) ?_;refine U7 ?_;refine .cl (fun H hs=> IndexByte_is M H sgLet (48+d) (-1) x1) ?_;refine U14 ?_;refine Tc.inLoop ?_;refine U12 ?_;refine .x (OpV.index (E:=en) rfl rfl rfl rfl rfl rfl oM oM (by exact rfl)) ?_;refine U7 ?_;refine .cl (fun H hs=> IndexByte_is M H sgFig (48+d) z hz) ?_;refine U20 ?_;refine Tc.dr [] [] mixed rfl ?_;refine V9 0 ?_;refine .dn ?_;refine .rt hK func113 results113 [_,_,_] ?_;refine fun H' hs=> ⟨hs.base,?_⟩
 rw[<-x2];rfl
def puL(p:Nat)(g:Gl 3 1):Bl:=(p,true,.cells ⟨[.int .i64 1,g.val]⟩ 141 (0,0))::g.bl
def puP(d:Nat)(g g':Gl 3 1):Prop:=g'.n=g.n+1/\g'.l=g.l++[.int .i64 (dcode d:Nat)]
theorem punch_c(H₁:View)(hG:Sig H₁)(d:Nat)(hd:d<10)(p:Nat)(g:Gl 3 1)(hg:g.n<=1000)(hs₀:SymSt H₁ (puL p g) H):
  CallT M 65 #[.pointer (some ⟨p,0,none⟩),.int .u8 ((48+d:Nat):Int)] H (TurnQ H₁ (fun _=> .bool true) (fun g':Gl 3 1=> puL p g') (puP d g)):=by
 refine CallT.enter (vs:= [.pointer (some ⟨p,0,none⟩),.int .u8 ((48+d:Nat):Int)]) func65 rfl ntmps65 (Nat.le_of_ble_eq_true rfl) (hs₀) fun St c cs hK=> ?_;refine U8 ?_;refine .cl (fun H hs=> need_c M H (hG.le hs.base) d hd p true g.val (0,0) (hs.get (i:=0) rfl)) ?_;refine U43 ?_;refine .e (.bs (zz:=fun bs=> ?_));refine .e (Or.append (E:=en) 2 rfl rfl rfl rfl rfl rfl rfl rfl rfl rfl rfl rfl rfl rfl rfl (fun H hs=> SrcAt.of (hs.get (i:=0) rfl) (Nat.le_of_ble_eq_true rfl)) rfl oM rfl dE (fun g2 hn2 hl2=> ?_));refine U8 ?_;refine .rt hK func65 results65 [_] ?_;exact fun H' hs=> ⟨g2,H₁,rfl,View.le_refl _,hs.sub (List.sublist_cons_self _ _),hn2,hl2⟩
theorem betweenC_c(x lo hi:Int)(t:Bool)(ht:decide (lo<=x/\x<=hi)=t):CallT M 64 #[.int .i64 x,.int .i64 lo,.int .i64 hi] H (fun v H'=> H.le H'/\v=.bool t):=by
 subst ht;refine .en func64 ntmps64 fun St c cs hK=> ?_;by_cases c1:lo<=x
 all_goals by_cases c2:x<=hi
 all_goals
  refine U8 ?_;refine .i ?_ (z:=by first|exact leq_t oM|exact leq_f oM);refine U ?_;first|(refine .sk ?_)|(refine .m ?_)
  first|(refine .sk ?_)|(refine .m ?_)
  first|(refine .sk ?_)|(refine .x (.it (zz:=(by first|exact leq_t oM|exact leq_f oM))) ?_)
  refine U3 ?_;refine .rt hK func64 results64 [_] ?_;exact fun H' hs=> ⟨hs.base,by simp[packV,c1,c2]⟩
def codesL(s:List UInt8):List Value:=s.map fun x=> .int .i64 (pn x:Nat)
theorem codesL_snoc {s:List UInt8}{p:Nat}{x:UInt8}(h:s[p]? =some x):codesL (s.take (p+1))=codesL (s.take p)++[.int .i64 (pn x:Nat)]:=by
 obtain⟨hp,rfl⟩:=List.getElem?_eq_some_iff.1 h;unfold codesL;rw[List.take_succ_eq_append_getElem hp,List.map_append];rfl
theorem dig_d {x:UInt8}(h:dig x=true):∃d,d<10/\x.toNat=48+d/\dcode d=pn x:=by
 have h1:48<=x.toNat/\x.toNat<58:=of_decide_eq_true h;refine⟨x.toNat-48,oM,oM,?_⟩;unfold dcode pn;split <;> split <;> omega
theorem Encode_c(hG:Sig H)(s:List UInt8)(hs1:s.all dig=true)(hs2:s.length<=12):
  CallT M 28 #[strV s,.int .i64 1] H (fun v H'=> H.le H'/\∃g:Gl 3 1,v=.tuple ⟨[g.val,.int .i64 0]⟩/\(g.n=s.length/\g.l=codesL s)/\∀x∈g.bl,H' x.1=some x.2/\H x.1=none):=by
 refine .en func28 ntmps28 fun St c cs hK=> ?_;refine U9 ?_;refine .cl (fun H hs=> betweenC_c M H 1 0 2 true rfl) ?_;refine U8 ?_;refine .bo fun p=> ?_;refine U6 ?_;refine .e (Or.convSB (E:=en) rfl rfl rfl rfl rfl rfl rfl rfl rfl dE (fun sb cap jj fz=> ?_));refine U4 ?_;refine Tc.db (Tc.loopInv (σ:= { x:Nat×Gl 3 1//x.1<=s.length/\x.2.n=x.1/\x.2.l=codesL (s.take x.1) }) (fun x=> ([(6,.pointer (some ⟨p,0,none⟩)),(16,.slice (some ⟨sb,0,none⟩) s.length cap),(17,.int .i64 (s.length:Nat)),(18,.int .i64 (x.1.1:Nat))],(sb,true,.cells ⟨bytesV s++jj⟩ 5 fz)::puL p x.1.2)) (fun x=> s.length-x.1.1) ?_ ⟨(0,Gl.nil 3 1),Nat.zero_le _,rfl,rfl⟩);rintro⟨⟨q,g⟩,hq,hgn,hgl⟩ ih;simp only at hq hgn hgl;show Tc M St _ _ _ _ [(6,.pointer (some ⟨p,0,none⟩)),(16,.slice (some ⟨sb,0,none⟩) s.length cap),(17,.int .i64 (s.length:Nat)),(18,.int .i64 (q:Nat))] ((sb,true,.cells ⟨bytesV s++jj⟩ 5 fz)::puL p g) _ _;by_cases c1:q=s.length
 ·clear ih;subst c1;rw[List.take_length] at hgl;refine U28 ?_;refine .rt hK func28 results28 [_,_] ?_;exact fun H' hs=> ⟨hs.base,g,rfl,⟨hgn,hgl⟩,fun x hx=> ⟨hs.at_ x (by simp[puL,hx]),hs.out x (by simp[puL,hx])⟩⟩
 ·have c2:q<s.length:=by omega
  obtain⟨x,hx,hdx,hdec⟩:=dec_dig s q c2 hs1;obtain⟨d,hd,hxd,hpd⟩:=dig_d hdx;have f1:ldL false 1 (bytesV s++jj) (0+((q:Nat):Int).toNat*1)=some (.int .u8 ((48+d:Nat):Int)):=by
   show(bytesV s++jj)[0+((q:Nat):Int).toNat*1]? =_;rw[Int.toNat_natCast,Nat.zero_add,Nat.mul_one,List.getElem?_append_left (by rw[bytesV_len];exact c2)];unfold bytesV;rw[List.getElem?_map,hx,<-hxd];rfl
  refine U19 ?_;refine .e (Or.callTurn 1 (σ:=Gl 3 1) (fun _=> .bool true) (fun g'=> puL p g') (puP d g) rfl rfl rfl rfl rfl dE (fun H₁ H₂ hs3 hs4=> .h (punch_c M H₂ H₁ (hG.le hs3.base) d hd p g oM hs4)) (fun g2 hg2=> ?_));refine U9 ?_;exact Tc.db (ih ⟨(q+1,g2),by simp only;omega,by simp only;rw[hg2.1,hgn],by simp only;rw[hg2.2,hgl,codesL_snoc hx,hpd]⟩ (by simp only;omega))
end
end Go.Proofs.YtcagolloalgfiaaGreatDoor
namespace Go.RL
open Go.Conc
def Ms(P:Program):Md P:=⟨true,fun _=> True,fun _ _ _=> False,fun _ _ _ _ h _=> h.elim⟩
def AtRetS(P:Program)(Post:Value->World->Prop)(H:View)(g:Goroutine):Prop:=
 g.status=.running/\∀w,Sat H w->∃v es,stepG P true g w=.ended (.done v) w es/\Post v w
def Own0(t:Trace):Prop:=∀(i:Nat) op,t[i]? =some op->op.g=0
theorem Own0.app {t:Trace}{fn:FuncId}{pos:String}{es:Array Event}(h:Own0 t):Own0 (t++MemOp.ofEvents 0 fn pos es):=fun i op hop=> by
 rw[Array.getElem?_append] at hop;split at hop
 ·exact h i op hop
 ·have hm:=Array.mem_of_getElem? hop;unfold MemOp.ofEvents at hm;cases he:es.isEmpty with
  | true=>
   rw[he,if_pos rfl] at hm;exact(Array.not_mem_empty _ hm).elim
  | false=>
   rw[he,if_neg dE] at hm;obtain⟨e,_,rfl⟩:=Array.mem_map.1 hm;rfl
def EndS(Post:Value->World->Prop)(w:World)(last:Machine)(o:Outcome)(w':World)(t':Trace):Prop:=
 ∃v,o=.done v/\Post v w'/\w'.os=w.os/\w'.output=w.output/\Own0 t'/\∃g w₁ sl,last=crowd #[g] w₁ sl
section
variable {P:Program}
theorem one_pick {g:Goroutine}{w:World}{sl:Option (Nat×Nat)}(h:g.status=.running):∃(d:Nat) (sl':Option (Nat×Nat)),stepT P (crowd #[g] w sl)=runT P (crowd #[g] (w.at d) sl') 0:=by
 obtain⟨i,g1,d,sl',h1,_,h2⟩:=crowd_pick (P:=P) (gs:=#[g]) (w:=w) (sl:=sl) (by
  intro x hx tm;simp only[List.mem_toArray,List.mem_singleton] at hx;subst hx;rw[h];simp) ⟨0,g,rfl,h⟩
 have:i=0:=by
  have:=(Array.getElem?_eq_some_iff.1 h1).1;simpa using this
 subst this;exact⟨d,sl',h2⟩
theorem T.runsS {Post:Value->World->Prop}{H:View}{g:Goroutine}(h:T (Ms P) (AtRetS P Post) H g):
  ∀ (w:World) (sl:Option (Nat×Nat)) (t:Trace),Sat H w->Own0 t-> 
   ∃N last o w' t',runNT P (N+1) (crowd #[g] w sl) t=(.ended o w',t')/\runN P N (crowd #[g] w sl)=.next last/\Go.step P last=.ended o w'/\EndS Post w last o w' t':=by
 refine h (fun H g=> ∀(w:World) (sl:Option (Nat×Nat)) (t:Trace),Sat H w->Own0 t-> 
   ∃N last o w' t',runNT P (N+1) (crowd #[g] w sl) t=(.ended o w',t')/\runN P N (crowd #[g] w sl)=.next last/\Go.step P last=.ended o w'/\EndS Post w last o w' t') ?_ ?_ ?_
 ·rintro H g ⟨hr,hst⟩ w sl t hs ht;obtain⟨d,sl',hp⟩:=one_pick (P:=P) (w:=w) (sl:=sl) hr;obtain⟨v,es,h1,h2⟩:=hst (w.at d) hs;have h3:=runT_many_ended (P:=P) (gs:=#[g]) (w:=w.at d) (sl:=sl') (i:=0) rfl h1;have h4:stepT P (crowd #[g] w sl)=(.ended (.done v) (w.at d),MemOp.ofEvents 0 g.frame.fn g.frame.place es):=hp.trans h3;exact⟨0,crowd #[g] w sl,.done v,w.at d,t++MemOp.ofEvents 0 g.frame.fn g.frame.place es,by simp[runNT,h4],rfl,by simp[Go.step,h4],v,rfl,h2,rfl,rfl,ht.app,g,w,sl,rfl⟩
 ·rintro H g ⟨hr,hst⟩ w sl t hs ht;obtain⟨d,sl',hp⟩:=one_pick (P:=P) (w:=w) (sl:=sl) hr;obtain⟨g',w',es,H',h1,h2,h3⟩:=hst (w.at d) hs trivial;have h4:=runT_crowd_go (P:=P) (gs:=#[g]) (w:=w.at d) (sl:=sl') (i:=0) rfl h1;have e1:((#[g]:Array Goroutine).map (woken P (#[g]:Array Goroutine)[0] g' w')).setIfInBounds 0 g'=#[g']:=by simp
  rw[e1] at h4;have h5:stepT P (crowd #[g] w sl)=(.next (crowd #[g'] w' sl'),MemOp.ofEvents 0 g.frame.fn g.frame.place es):=hp.trans h4;obtain⟨N,last,o,w2,t2,k1,k2,k3,v,k4,k5,k6,k7,k8⟩:=h3 w' sl' _ h2.sat (ht.app (fn:=g.frame.fn) (pos:=g.frame.place) (es:=es));exact⟨N+1,last,o,w2,t2,by rw[runNT_succ_next h5];exact k1,by rw[runN_succ_next h5];exact k2,k3,v,k4,k5,k6.trans h2.os,k7.trans h2.out,k8⟩
 ·intro H g Po hf _;exact hf.elim
theorem Own0.noRace {t:Trace}(h:Own0 t)(said:Bool):¬Race said t:=by
 rintro⟨i,j,hij,⟨a,b,ha,hb,_⟩,hn,_⟩;have hg:∀k c,(t.act? k).bind (·.touch?)=some c->∃op,t[k]? =some op:=fun k c hc=> by
  unfold Trace.act? at hc;cases e:t[k]? with
  | none=> rw[e] at hc;simp at hc
  | some op=> exact⟨op,rfl⟩
 obtain⟨p,hp⟩:=hg i a ha;obtain⟨q,hq⟩:=hg j b hb;exact hn (.single (.inl ⟨hij,0,by simp[Trace.g?,hp,h i p hp],by simp[Trace.g?,hq,h j q hq]⟩))
theorem returnsInHanded_of_run {a:Assume}{C:Checked}{os:Os}{f:FuncId}{r:Reach}{Pre:World->Array Value->Prop}{Post:World->Array Value->Value->World->Prop}
  (own:ownKnob C.prog.godebug=none) (started:os.Started)
  (witness:∃(w:World) (tape:Tape) (i:Input),w.os=os/\(w.forCall tape i).Shaped C.prog/\i.vars= []/\Input.okWide C.prog (w.forCall tape i) r w.heap.size f i/\Pre (w.forCall tape i).memory i.args/\
   a.holds C.prog (lone (Frame.enter C.prog f i.args .normal) [] (w.forCall tape i)))
  (runs:∀(w:World) (tape:Tape) (i:Input),w.os=os->(w.forCall tape i).ShapedOpen C.prog->i.vars= []->Input.okWide C.prog (w.forCall tape i) r w.heap.size f i->Pre (w.forCall tape i).memory i.args-> 
   a.holds C.prog (lone (Frame.enter C.prog f i.args .normal) [] (w.forCall tape i))-> 
   ∃ N last o w' t',runNT C.prog (N+1) (crowd #[G (Frame.enter C.prog f i.args .normal) []] (w.forCall tape i) none) #[]=(.ended o w',t')/\runN C.prog N (crowd #[G (Frame.enter C.prog f i.args .normal) []] (w.forCall tape i) none)=.next last/\
    Go.step C.prog last=.ended o w'/\EndS (fun v w'=> Post (w.forCall tape i).blind i.args v w'.blind) (w.forCall tape i) last o w' t'):
  ReturnsInHanded a C os f r Pre Post:=fun enter=> by
 obtain⟨w0,t0,i0,a1,a2,a3,a4,a5,a6⟩:=witness;refine⟨enter,own,started,⟨w0,t0,i0,a1,a2,a3,a4,a5,a6,trivial⟩,fun w tape i h=> ?_⟩;obtain⟨N,last,o,w',t',h1,h2,h3,v,rfl,hp,_,_,h0,g,w1,sl,rfl⟩:=runs w tape i h.1 h.2.1 h.2.2.1 h.2.2.2.1 h.2.2.2.2.1 h.2.2.2.2.2.1;have h1':runNT C.prog (N+1) (Machine.entering C.prog w tape f i) #[]=(.ended (.done v) w',t'):=h1;have hn:runN C.prog (N+1) (Machine.entering C.prog w tape f i)=.ended (.done v) w':=by rw[<-runNT_fst _ _ _ #[],h1']
 refine⟨N+1,v,w',hn,by unfold Clean;rw[h1'];exact h0.noRace _,roomy_placeholder ..,hp,⟨N,_,h2,h3,by
  rw[h1'];refine⟨⟨rfl,rfl⟩,fun i g' hg hne _=> ?_,fun j x hj hj0=> ?_⟩
  ·unfold Trace.g? at hg;cases e:t'[i]? with
   | none=> rw[e] at hg;cases hg
   | some op=>
    rw[e] at hg;simp only[Option.map_some,Option.some.injEq] at hg;exact(hne (hg▸h0 i op e)).elim
  ·have:j<1:=(Array.getElem?_eq_some_iff.1 hj).1;omega⟩,fun _ _ _=> trivial⟩
theorem T.topS {n:Nat}{R:Rg}{M:Md P}{Post:Value->World->Prop}{H:View}{fn:Func}{b:FB}{tmps:Array Value}{todo:List Item}{v:Value}(hf:P.funcs[b.fn]? =some fn)(hi:P.inits.idxOf? b.fn=Option.none)(hk:b.kind=.normal)(hv:resP fn R v)(hr:RegOk n R tmps)
  (hp:∀w,Sat H w->Post v w):T M (AtRetS P Post) H (G (b.back tmps [] todo) []):=by
 refine .stop ⟨rfl,fun w hs=> ⟨v,#[],?_,hp w hs⟩⟩;have:stepG P true (G (b.back tmps [] todo) []) w=unwind P true (b.back tmps [] todo) [] Option.none w:=by simp[G,stepG,FB.back]
 rw[this];unfold unwind;simp only[FB.back,hf,hv.run (P:=P) hr w,doReturn,hk,hi,GStep.after,seen_none];simp
theorem Tc.retTopS {n:Nat}{R:Rg}{L:Bl}{H₀:View}{k:List Item}{Post:Value->World->Prop}{fn:Func}{f:FuncId}{v:Value}(hf:P.funcs[f]? =some fn)(hi:P.inits.idxOf? f=Option.none)(hv:resP fn R v)(hp:∀H w,SymSt H₀ L H->Sat H w->Post v w):
 Tc (Ms P) (AtRetS P Post) n ⟨f,.normal,Option.none⟩ H₀ [] R L [] (.code .ret::k):=fun H _ hs hr=> .retCode rfl (T.topS hf hi rfl hv hr fun w hw=> hp H w hs hw)
theorem T.enterTopS {n:Nat}{f:FuncId}{fn:Func}{body:Code}{vs:List Value}{H:View}{St:View->Goroutine->Prop}(hf:P.funcs[f]? =some fn)(hb:fn.body=some body)(hn:fn.ntmps=n)(hv:vs.length<=n)
  (h:Tc (Ms P) St n ⟨f,.normal,Option.none⟩ H [] (argR vs) [] [] [.code body]):T (Ms P) St H (G (Frame.enter P f vs.toArray .normal) []):=by
 have:=h H (vs.toArray++Array.replicate (n-vs.length) undef) (SymSt.nil H) ⟨by simp;omega,fun d v hd=> ?_⟩
 ·have e:Frame.enter P f vs.toArray .normal=(⟨f,.normal,Option.none⟩:FB).at (vs.toArray++Array.replicate (n-vs.length) undef) [] [.code body]:=by
   simp[Frame.enter,FB.at,hf,hb,hn]
  rw[e];exact this
 ·obtain⟨_,h2⟩:=argR_go vs 0 d v hd;simp only[Nat.sub_zero] at h2;have hlt:=(List.getElem?_eq_some_iff.1 h2).1;rw[Array.getElem?_append_left (by simpa using hlt)];simpa using h2
end
end Go.RL
namespace Go.Proofs.YtcagolloalgfiaaGreatDoor
open Go.RL Go.Proofs.Tryz Go.ChangeShapes Go.WideShapes Go.ChangeAt Go.RowKit
set_option maxRecDepth 100000
def fullV(W:World):View:=fun b=> (W.heap[b]?).map fun o=> (false,o)
theorem fullV_sat(W:World):Sat (fullV W) W:=fun b f o h=> by
 simp only[fullV,Option.map_eq_some_iff,Prod.mk.injEq] at h;obtain⟨o',h1,_,rfl⟩:=h;exact h1
theorem ownK:ownKnob prog.godebug=none:=by kernel_rfl
theorem laidOutK:laidOutB prog=true:=by kernel_rfl
theorem gChecks:prog.globalNamed "baudot/dial.checks"=some 1:=by kernel_rfl
theorem tChecks:(prog.globals[1]?).map (·.type)=some 246:=by kernel_rfl
theorem und125:prog.underlying 246=some (.array 3 245):=by kernel_rfl
theorem und124:prog.underlying 245=some (.func #[128] #[40] false):=by kernel_rfl
theorem und38:prog.underlying 197=some (.int .i64):=by kernel_rfl
theorem cells124:prog.cellsOf 245=1:=by kernel_rfl
theorem cells125:prog.cellsOf 246=3:=by kernel_rfl
theorem cells38:prog.cellsOf 197=1:=by kernel_rfl
theorem laidVars_at {P:Program}{w:World}:∀ {l:List (String×DataW Unit)} {ps:List MemPlace},DataW.LaidVars P w l ps->∀ {n:String} {d:DataW Unit},(n,d)∈l-> 
  ∃g t cs fuel p,P.globalNamed n=some g/\(P.globals[g]?).map (·.type)=some t/\w.var? P n=some cs/\DataW.trod (fun _=> ()) P w 0 (fun _=> true) false fuel t cs.toList=some (d,p)
 | [],_,_,_,_,h=> by cases h
 | (m,e)::r,ps,h,n,d,hm=> by
  obtain⟨g,t,cs,fuel,p,q,h1,h2,h3,h4,h5,_⟩:=h;rcases List.mem_cons.1 hm with e1|hm
  ·cases e1
   exact⟨g,t,cs,fuel,p,h1,h2,h3,h4⟩
  ·exact laidVars_at h5 hm
theorem var_heap {W:World}{n:String}{g:Nat}{cs:Array Value}(hg:prog.globalNamed n=some g)(hv:W.var? prog n=some cs):∃gt gz,W.heap[g]? =some (.cells cs gt gz):=by
 unfold World.var? at hv;rw[hg] at hv;simp only[Option.bind_some] at hv;split at hv
 ·rename_i cs' t' z e
  obtain rfl:=Option.some.inj hv;exact⟨_,_,e⟩
 ·cases hv
theorem glob_of {LL:List (String×DataW Unit)}(hc:("baudot/dial.checks",(Rows.laid_baudot_dial_checks:DataW Unit))∈LL){W:World}(h:laidMetH prog LL W):Glob (fullV W):=by
 constructor
 ·obtain⟨g,t,cs,fuel,p,hg,ht,hv,hd⟩:=h.funcs (n:= "baudot/dial.checks") hc;obtain rfl:=Option.some.inj (gChecks.symm.trans hg);obtain rfl:=Option.some.inj (tChecks.symm.trans ht);obtain⟨gt,gz,hh⟩:=var_heap gChecks hv;have hlen:cs.toList.length=3:=by
   cases fuel with
   | zero=> simp[DataW.trod] at hd
   | succ n=>
    unfold DataW.trod at hd;rw[und125] at hd;simp[cells125] at hd
    simpa using hd.1
  obtain⟨c0,c1,c2,hcs⟩:∃c0 c1 c2,cs.toList= [c0,c1,c2]:=by
   match e:cs.toList,hlen with
   | [c0,c1,c2],_=> exact⟨c0,c1,c2,rfl⟩
  rw[hcs] at hd;obtain⟨y0,y1,y2,n,hx,r0,r1,r2⟩:=trod_array3 und125 cells124 hd;have hx':=congrArg Prod.fst hx;have hx2:(DataW.agg [y0.1,y1.1,y2.1]:DataW (List UInt8))=DataW.agg [.held _,.held _,.held _]:=hx'.symm;simp only[DataW.agg.injEq,List.cons.injEq,and_true] at hx2;obtain⟨e0,e1,e2⟩:=hx2;obtain⟨d0,q0⟩:=y0;obtain⟨d1,q1⟩:=y1;obtain⟨d2,q2⟩:=y2;simp only at e0 e1 e2;subst e0 e1 e2;obtain rfl:=func_of_trod (f0:=219) und124 kR r0;obtain rfl:=func_of_trod (f0:=220) und124 kR r1;obtain rfl:=func_of_trod (f0:=221) und124 kR r2;refine⟨false,gt,gz,?_⟩;have ec:cs=⟨[chkF 0,chkF 1,chkF 2]⟩:=by
   apply Array.ext'
   rw[hcs];rfl
  rw[<-ec];simp only[fullV,hh,Option.map_some]
 ·trivial
theorem gSigns:prog.globalNamed "baudot/code.signs"=some 2:=by kernel_rfl
theorem tSigns:(prog.globals[2]?).map (·.type)=some 248:=by kernel_rfl
theorem undSigns:prog.underlying 248=some (.array 2 9):=by kernel_rfl
theorem undStr:prog.underlying 9=some .string:=by kernel_rfl
theorem cellsStr:prog.cellsOf 9=1:=by kernel_rfl
theorem cellsSigns:prog.cellsOf 248=2:=by kernel_rfl
theorem trod_two {P:Program}{w:World}{base:Nat}{spare:Nat->Bool}{held:Bool}{H:Type}{enc:TypeId×Value->H}{t e:TypeId}{fuel:Nat}{c0 c1:Value}{x:DataW H×List MemPlace}(ht:P.underlying t=some (.array 2 e))(hce:P.cellsOf e=1)
  (h:DataW.trod enc P w base spare held fuel t [c0,c1]=some x):
  ∃y0 y1 n,x=(.agg [y0.1,y1.1],y0.2++y1.2)/\DataW.trod enc P w base spare held n e [c0]=some y0/\DataW.trod enc P w base spare held n e [c1]=some y1:=by
 cases fuel with
 | zero=> simp[DataW.trod] at h
 | succ n=>
  unfold DataW.trod at h;rw[ht] at h;have r2:List.range 2= [0,1]:=rfl;simp[r2,hce] at h
  obtain⟨_,h⟩:=h;cases h0:DataW.trod enc P w base spare held n e [c0] with
  | none=> simp[h0] at h
  | some y0=>
   cases h1:DataW.trod enc P w base spare held n e [c1] with
   | none=> simp[h0,h1] at h
   | some y1=>
    simp[h0,h1] at h
    exact⟨y0,y1,n,h.symm,h0,h1⟩
theorem sig_of {LL:List (String×DataW Unit)}(hn:("baudot/code.signs",(Rows.laid_baudot_code_signs:DataW Unit))∈LL.filter fun x=> x.2.handleName?.isNone){W:World}(h:laidMetH prog LL W):Sig (fullV W):=by
 obtain⟨⟨ps,hl,_⟩,_⟩:=laidMetH_iff.1 h;obtain⟨g,t,cs,fuel,p,hg,ht,hv,hd⟩:=laidVars_at hl hn;obtain rfl:=Option.some.inj (gSigns.symm.trans hg);obtain rfl:=Option.some.inj (tSigns.symm.trans ht);obtain⟨gt,gz,hh⟩:=var_heap gSigns hv;have hlen:cs.toList.length=2:=by
  cases fuel with
  | zero=> simp[DataW.trod] at hd
  | succ n=>
   unfold DataW.trod at hd;rw[undSigns] at hd;simp[cellsSigns] at hd
   simpa using hd.1
 obtain⟨c0,c1,hcs⟩:∃c0 c1,cs.toList= [c0,c1]:=by
  match e:cs.toList,hlen with
  | [c0,c1],_=> exact⟨c0,c1,rfl⟩
 rw[hcs] at hd;obtain⟨y0,y1,n,hx,r0,r1⟩:=trod_two undSigns cellsStr hd;obtain⟨s0,g0,g0',_⟩:=DataW.trod_string undStr r0;obtain⟨s1,g1,g1',_⟩:=DataW.trod_string undStr r1;subst g0' g1';have hx':=congrArg Prod.fst hx;have hx2:(DataW.agg [.lit (.string s0.data.toList),.lit (.string s1.data.toList)]:DataW Unit)=DataW.agg [.lit (.string sgLet),.lit (.string sgFig)]:=hx'.symm;simp only[DataW.agg.injEq,List.cons.injEq,and_true,DataW.lit.injEq,Lit.string.injEq] at hx2;obtain⟨e0,e1⟩:=hx2;simp only[List.cons.injEq,and_true] at g0 g1;refine⟨false,gt,gz,?_⟩;have ec:cs=⟨[strV sgLet,strV sgFig]⟩:=by
  apply Array.ext'
  rw[hcs,g0,g1];obtain⟨⟨l0⟩⟩:=s0;obtain⟨⟨l1⟩⟩:=s1;simp only at e0 e1;rw[e0,e1]
 rw[<-ec];simp only[fullV,hh,Option.map_some]
section
variable {H:Type}{enc:TypeId×Value->H}{P:Program}{W W':World}
theorem trodAll_stays(hl:laidOutB P=true)(hb:∀x:MemPlace,x.block<W.heap.size->W.sameAt W' x):∀ {ts:List TypeId} {vs:List Value} {ds:List (DataW H)} {p:List MemPlace},ts.all (fun t=> P.readableRec t&&decide (t<P.types.size))=true-> 
  DataW.TrodAll enc P W 0 (fun _=> true) true ts vs ds p->(∀x∈p,x.block<W.heap.size)->DataW.TrodAll enc P W' 0 (fun b=> decide (b<W.heap.size)) true ts vs ds p
 | [],[],[],_,_,h,_=> h
 | t::ts,v::vs,d::ds,p,hr,h,hlt=> by
  simp only[List.all_cons,Bool.and_eq_true,decide_eq_true_eq] at hr;obtain⟨a,b,h1,h2,rfl⟩:=h;exact⟨a,b,WideElems.Trod_stays hl hr.1.1 hr.1.2 h1 (fun x hx=> hb x (hlt x (by simp[hx]))) (fun x hx=> by simpa using hlt x (by simp[hx])),trodAll_stays hl hb hr.2 h2 (fun x hx=> hlt x (by simp[hx])),rfl⟩
 | [],[],_::_,_,_,h,_=> h.elim
 | [],_::_,[],_,_,h,_=> h.elim
 | [],_::_,_::_,_,_,h,_=> h.elim
 | _::_,[],[],_,_,h,_=> h.elim
 | _::_,[],_::_,_,_,h,_=> h.elim
 | _::_,_::_,[],_,_,h,_=> h.elim
theorem trodAll_len {base:Nat}{sp:Nat->Bool}{held:Bool}:∀ {ts:List TypeId} {vs:List Value} {ds:List (DataW H)} {p:List MemPlace},DataW.TrodAll enc P W base sp held ts vs ds p->ds.length=ts.length
 | [],[],[],_,_=> rfl
 | _::_,_::_,_::_,_,h=> by
  obtain⟨_,_,_,h2,_⟩:=h;simp[trodAll_len h2]
 | [],[],_::_,_,h=> h.elim
 | [],_::_,[],_,h=> h.elim
 | [],_::_,_::_,_,h=> h.elim
 | _::_,[],[],_,h=> h.elim
 | _::_,[],_::_,_,h=> h.elim
 | _::_,_::_,[],_,h=> h.elim
theorem keptBut_of_kept(ho:W'.os=W.os)(hout:W'.output=W.output)(hb:∀b<W.heap.size,W'.heap[b]? =W.heap[b]?)(may:MemPlace->Prop):W.keptBut W' may:=by
 refine⟨ho,hout,fun i hi=> ?_⟩;rw[hb i hi];cases h:W.heap[i]? with
 | none=> exact rfl
 | some o=>
  cases o with
  | cells c t fr=> exact⟨rfl,rfl,rfl,fun _ _=> rfl⟩
  | map es k=> exact .inr ⟨rfl,rfl⟩
  | _=> exact rfl
theorem post_kept {f:Func}{s:ChangeSpec}{args:Array Value}{ds gs:List (DataW H)}{before:List MemPlace}{tb:TypeId}(hl:laidOutB P=true)(hr:f.params.toList.all (fun t=> P.readableRec t&&decide (t<P.types.size))=true)
  (hres:f.resultTypes=#[tb]) (htb:P.underlying tb=some .bool) (hs:s.vars= []) (hW:DataW.Whole enc P f.params.toList s.vars false W args.toList ds gs before) (hfn:s.fn H (ds++gs)= { results:= [.lit (.bool true)],args:=ds })
  (hout:W'.output=W.output) (hsz:W.heap.size<=W'.heap.size) (hb:∀b<W.heap.size,W'.heap[b]? =W.heap[b]?):s.post enc P f false true false false W args (.bool true) { W' with os:=W.os }:=by
 have hlt:=hW.lt;have hW0:=hW;obtain⟨p,q,hA,hV,rfl,hfz,hnd⟩:=hW;rw[hs] at hV;obtain⟨rfl,rfl⟩:=trodVars_none hV;have hbel:Below W.heap.size W { W' with os:=W.os,tape:=W.tape }:=⟨rfl,rfl,hout,hsz,hb⟩
 refine⟨ds,[],p++[],[],p,[],hW0,?_,?_,?_,keptBut_of_kept (W:=W) (W':= { W' with os:=W.os }) rfl hout hb _,fun h=> nomatch h⟩
 ·rw[hfn,hres];exact trodAll_mk1 (shut_bool htb _)
 ·rw[hfn];exact trodAll_stays (W':= { W' with os:=W.os }) hl (fun x hx=> hbel.same hx) hr hA (fun x hx=> hlt x (by simp[hx]))
 ·rw[hfn,hs];rfl
end
theorem keep_os {w w':World}(h:w'.os=w.os){Q:World->Prop}(hq:Q { w' with os:=w.os }):Q w':=by
 rw[<-h] at hq;exact hq
theorem lifted {LL:List (String×DataW Unit)}{f:FuncId}{fn:Func}{s:ChangeSpec}{n:Nat}{body:Code}{a:Assume}{os:Os}{H:Type}{enc:TypeId×Value->H}{conds:List PathCond}
  (hfn:prog.funcs[f]? =some fn) (hb:fn.body=some body) (hn:fn.ntmps=n) (hi:prog.inits.idxOf? f=none) (hpn:fn.params.size<=n)
  (hres:fn.resultTypes=#[4]) (hread:fn.params.toList.all (fun t=> prog.readableRec t&&decide (t<prog.types.size))=true)
  (hsv:s.vars= []) (hsf:∀ds:List (DataW H),ds.length=fn.params.size->s.fn H (ds++[])= { results:= [.lit (.bool true)],args:=ds })
  (started:os.Started)
  (witness:∃(w:World) (tape:Tape) (i:Input),w.os=os/\(w.forCall tape i).Shaped prog/\i.vars= []/\Input.okWide prog (w.forCall tape i) .any w.heap.size f i/\
   ((s.pre enc prog fn conds false (w.forCall tape i).memory i.args/\laidMetH prog LL (w.forCall tape i).memory)/\sizedMet enc prog fn (OpenSpec.ofChange s) false (w.forCall tape i).memory i.args)/\a.holds prog (lone (Frame.enter prog f i.args .normal) [] (w.forCall tape i)))
  (walk:∀(W:World) (base:Nat) (vs:List Value) (ds:List (DataW H)) (p:List MemPlace),vs.length=fn.params.size->(∀(j:Nat) t v,fn.params[j]? =some t->vs[j]? =some v->Value.okWide prog W .any base t v)-> 
   DataW.TrodAll enc prog W 0 (fun _=> true) true fn.params.toList vs ds p->(DataW.weightsEach prog fn.params.toList ds).all (· <=reachBytes)=true->laidMetH prog LL W-> 
   ∀(St:View->Goroutine->Prop),(∀(H₀:View) (R:Rg) (L:Bl) (kk:List Item),resP fn R (.bool true)->(fullV W).le H₀->Tc (Ms prog) St n ⟨f,.normal,none⟩ H₀ [] R L [] (.code .ret::kk))-> 
   Tc (Ms prog) St n ⟨f,.normal,none⟩ (fullV W) [] (argR vs) [] [] [.code body]):
  ReturnsInHanded a Tryz.checked os f .any (fun w args=> (s.pre enc prog fn conds false w args/\laidMetH prog LL w)/\sizedMet enc prog fn (OpenSpec.ofChange s) false w args)
   (s.post enc prog fn false true false false):=by
 refine returnsInHanded_of_run (C:=Tryz.checked) ownK started witness ?_;intro w tape i _ _ _ hok hpre _;obtain⟨_,_,_,fn',hfn',_,_,_,hsize,hval⟩:=hok;have e:fn'=fn:=Option.some.inj (hfn'.symm.trans hfn);subst e;obtain⟨⟨⟨ds,gs,before,hw,hc⟩,hl⟩,hz⟩:=hpre;generalize hWe:w.forCall tape i=W at *;have hw':DataW.Whole enc prog fn'.params.toList s.vars false W i.args.toList ds gs before:=hw.of_heap (by rfl);have hl':laidMetH prog LL W:=hl.of_heap (by rfl);have hwt:=hz.weights hw;have hw0:=hw';obtain⟨p,q,hA,hV,rfl,hfz,hnd⟩:=hw';rw[hsv] at hV;obtain⟨rfl,rfl⟩:=trodVars_none hV;have hlen:ds.length=fn'.params.size:=by
  simpa using trodAll_len hA
 have hwt':(DataW.weightsEach prog fn'.params.toList ds).all (· <=reachBytes)=true:=by
  have e:DataSpec.varTypes prog (OpenSpec.ofChange s).bare.plain= []:=by
   show List.filterMap _ s.vars= []
   rw[hsv];rfl
  have:=hwt;rw[e] at this;simpa using this
 have hT :=T.runsS (Post:=fun v w=> v=.bool true/\W.heap.size<=w.heap.size/\∀b<W.heap.size,w.heap[b]? =W.heap[b]?) (H:=fullV W) (T.enterTopS hfn hb hn (by simpa [hsize] using hpn)
  (walk W w.heap.size i.args.toList ds p (by simpa using hsize) (fun j t v h1 h2=> hval j t v h1 (by simpa using h2)) hA hwt' hl' _
   (fun H₀ R L kk hv hle=> Tc.retTopS hfn hi hv (fun H w hs hw=> by
    have hk:∀b<W.heap.size,w.heap[b]? =W.heap[b]? :=fun b hb=> by
     have h1:fullV W b=some (false,W.heap[b]):=by simp[fullV,hb]
     rw[hw b false _ (hs.base _ _ (hle _ _ h1))];simp[hb]
    refine⟨rfl,?_,hk⟩;rcases Nat.eq_zero_or_pos W.heap.size with hz|hz
    ·omega
    ·have h1:=hk (W.heap.size-1) oM;have h2:=h1.trans (Array.getElem?_eq_getElem (show W.heap.size-1<W.heap.size by omega));have:=(Array.getElem?_eq_some_iff.1 h2).1;omega)))) W none #[] (fullV_sat W) (fun i op h=> by simp at h)
 rw[Array.toArray_toList] at hT;obtain⟨N,last,o,w',t',h1,h2,h3,v,ho,⟨rfl,hp1,hp2⟩,hk1,hk2,hr⟩:=hT;exact⟨N,last,o,w',t',h1,h2,h3,.bool true,ho,ChangeSpec.post_blind (keep_os hk1 (post_kept laidOutK hread hres kR hsv hw0 (hsf ds hlen) hk2 hp1 hp2)),hk1,hk2,hr⟩
theorem cell_int {W:World}{base:Nat}{v:Value}(h:Cell.okWide prog W .any base 3 v):∃x,v=.int .i64 x:=by
 unfold Cell.okWide Cell.ok at h;rw[show prog.underlying 3=some (.int .i64) by kernel_rfl] at h;cases v with
 | int k n=>
  obtain⟨rfl,_⟩:=h;exact⟨n,rfl⟩
 | _=> exact h.elim
theorem open_u8 {W:World}{base:Nat}{v:Value}(h:Value.okWide prog W .any base 5 v):∃x,v=.int .u8 x/\0<=x/\x<256:=by
 unfold Value.okWide Cell.okWide Cell.ok at h;rw[show prog.underlying 5=some (.int .u8) by kernel_rfl] at h;cases v with
 | int k n=>
  obtain⟨rfl,h1,h2⟩:=h;have e1:IntKind.u8.min=0:=by kernel_rfl
  have e2:IntKind.u8.max=255:=by kernel_rfl
  exact⟨n,rfl,oM,oM⟩
 | _=> exact h.elim
theorem slice_val {W:World}{base:Nat}{t e:TypeId}{v:Value}(ht:prog.underlying t=some (.slice e))(hv:Value.okWide prog W .any base t v):∃a n c,v=.slice a n c:=by
 unfold Value.okWide Cell.okWide Cell.ok at hv;rw[ht] at hv;cases v with
 | slice a n c=> exact⟨a,n,c,rfl⟩
 | _=> exact hv.elim
theorem cells_of {W:World}{a:Addr}{v:Value}(h:W.cell? a=some v):∃c t z,W.heap[a.block]? =some (.cells c t z)/\c[a.off]? =some v:=by
 unfold World.cell? at h;split at h
 ·rename_i c t z e
  split at h
  ·cases h
  ·exact⟨c,t,z,e,h⟩
 ·cases h
theorem open_list {H:Type}{enc:TypeId×Value->H}{W:World}{base:Nat}{t e:TypeId}{k:IntKind}{v:Value}{d:DataW H}{ps:List MemPlace}(ht:prog.underlying t=some (.slice e))(he:prog.underlying e=some (.int k))(hc:prog.cellsOf e=1)
  (hv:Value.okWide prog W .any base t v) (h:DataW.Trod enc prog W 0 (fun _=> true) true t v d ps):
  ∃ (A:Option Addr) (l:List Int) (ca:Nat),v=.slice A l.length ca/\ca<=maxLen/\l.length<=ca/\(∀x∈l,k.min<=x/\x<=k.max)/\
   (l= []\/∃ab ao gs gt gz,A=some ⟨ab,ao,none⟩/\fullV W ab=some (false,.cells ⟨gs⟩ gt gz)/\∀j:Nat,j<l.length->ldL false 1 gs (ao+(j:Int).toNat*1)=some (.int k (l[j]?.getD 0))):=by
 obtain⟨a,n,c,rfl⟩:=slice_val ht hv;obtain⟨fuel,h⟩:=h;have hcs:(Value.slice a n c).cells.toList= [.slice a n c]:=rfl;rw[hcs] at h;rcases open_ints ht he hc h with ⟨h1,_⟩|⟨a',len,cap,zs,h1,_,h3,h4,h5,_,h7,h8⟩
 ·simp only[List.cons.injEq,Value.slice.injEq,and_true] at h1;obtain⟨rfl,rfl,rfl⟩:=h1;exact⟨none,[],0,rfl,Nat.zero_le _,Nat.le_refl _,by simp,.inl rfl⟩
 ·simp only[List.cons.injEq,Value.slice.injEq,and_true] at h1;obtain⟨rfl,rfl,rfl⟩:=h1;simp only[if_true] at h5;have hl:(zs.take n).length=n:=by rw[List.length_take,h5];omega
  refine⟨some a',zs.take n,c,by rw[hl],h4,oM,fun x hx=> ?_,?_⟩
  ·have:=h8 x (List.mem_of_mem_take hx);simpa [Lit.wf] using this
  ·cases n with
   | zero=> exact .inl (by simp)
   | succ m=>
    obtain⟨ab,ao,sp⟩:=a';have h0:=h7 0 oM;have hsp:sp=none:=by simpa [Addr.add] using World.cell?_spot h0
    subst hsp;obtain⟨cs,gt,gz,e1,_⟩:=cells_of h0;have e1':W.heap[ab]? =some (.cells cs gt gz):=by simpa [Addr.add] using e1
    refine .inr ⟨ab,ao,cs.toList,gt,gz,rfl,by simp only[fullV,e1',Option.map_some],fun j hj=> ?_⟩;have hj':j<zs.length:=by omega
    have h9:=h7 j hj';obtain⟨cs',gt',gz',e2,e3⟩:=cells_of h9;have eb:((⟨ab,ao,none⟩:Addr).add j).block=ab:=by unfold Addr.add;split <;> rfl
    have eo:((⟨ab,ao,none⟩:Addr).add j).off=ao+j:=by
     unfold Addr.add;split
     ·rename_i h;subst h;rfl
     ·rfl
    rw[eb,e1'] at e2;cases e2
    rw[eo] at e3;show cs.toList[ao+(j:Int).toNat*1]? =_;rw[Int.toNat_natCast,Nat.mul_one,Array.getElem?_toList,e3];have hjn:j<m+1:=by omega
    rw[List.getElem?_take_of_lt hjn,List.getD_eq_getElem?_getD]
theorem witness_plain {H:Type}{enc:TypeId×Value->H}{C:Checked}{os:Os}{f:FuncId}{fn:Func}{s:ChangeSpec}{conds:List PathCond}{apart:Bool}{X:World->Array Value->Prop}(w0:World)(args:Array Value)(fuel:Nat)(hos:w0.os=os)
  (hsh:(w0.forCall (fun _ _=> 0) ⟨#[],args,[]⟩).Shaped C.prog)
  (hok:Input.okWideB C.prog (w0.forCall (fun _ _=> 0) ⟨#[],args,[]⟩) f ⟨#[],args,[]⟩=true)
  (hpre:s.preB enc C.prog fn conds apart (w0.forCall (fun _ _=> 0) ⟨#[],args,[]⟩).memory args fuel=true)
  (hsz:s.sizedB enc C.prog fn apart (w0.forCall (fun _ _=> 0) ⟨#[],args,[]⟩).memory args fuel=true)
  (hx:X (w0.forCall (fun _ _=> 0) ⟨#[],args,[]⟩).memory args):
  ∃ (w:World) (tape:Tape) (i:Input),w.os=os/\(w.forCall tape i).Shaped C.prog/\i.vars= []/\Input.okWide C.prog (w.forCall tape i) .any w.heap.size f i/\
   ((s.pre enc C.prog fn conds apart (w.forCall tape i).memory i.args/\X (w.forCall tape i).memory i.args)/\sizedMet enc C.prog fn (OpenSpec.ofChange s) apart (w.forCall tape i).memory i.args)/\({}:Assume).holds C.prog (lone (Frame.enter C.prog f i.args .normal) [] (w.forCall tape i)):=
 ⟨w0,fun _ _=> 0,⟨#[],args,[]⟩,hos,hsh,(Input.okWide_of_okWideB (base:=0) hok).1,(Input.okWide_of_okWideB hok).2,⟨⟨ChangeSpec.pre_of_preB hpre,hx⟩,sizedMet_of_sizedB hsz⟩,by
  simp only[Assume.holds];simp⟩
theorem no_stand {ps:Array TypeId}(h:ps.toList.all (fun u=> !prog.wantsStandIn u)=true):∀(j:Nat) t,ps[j]? =some t->prog.wantsStandIn t=false:=fun j t ht=> by
 have hm:t∈ps.toList:=by simpa using Array.mem_of_getElem? ht
 simpa using List.all_eq_true.1 h t hm
theorem cells3:prog.cellsOf 3=1:=by kernel_rfl
theorem cells9:prog.cellsOf 9=1:=by kernel_rfl
theorem cells22:prog.cellsOf 33=1:=by kernel_rfl
theorem cells23:prog.cellsOf 34=1:=by kernel_rfl
theorem cells25:prog.cellsOf 36=4:=by kernel_rfl
theorem cells37:prog.cellsOf 67=1:=by kernel_rfl
theorem cells45:prog.cellsOf 28=2:=by kernel_rfl
theorem cells47:prog.cellsOf 73=4:=by kernel_rfl
theorem cells64:prog.cellsOf 69=3:=by kernel_rfl
section
variable {H:Type}{enc:TypeId×Value->H}{P:Program}{W:World}{base:Nat}{sp:Nat->Bool}{held:Bool}
theorem trodAll_at:∀ {ts:List TypeId} {vs:List Value} {ds:List (DataW H)} {p:List MemPlace},DataW.TrodAll enc P W base sp held ts vs ds p->∀(j:Nat) t v,ts[j]? =some t->vs[j]? =some v->∃d q,DataW.Trod enc P W base sp held t v d q
 | [],_,_,_,_,_,_,_,h,_=> by simp at h
 | t ::ts,v::vs,d::ds,p,⟨a,b,h1,h2,_⟩,j,t',v',ht,hv=> by
  cases j with
  | zero=>
   simp only[List.getElem?_cons_zero,Option.some.injEq] at ht hv;subst ht hv;exact⟨_,_,h1⟩
  | succ j=>
   simp only[List.getElem?_cons_succ] at ht hv;exact trodAll_at h2 j t' v' ht hv
 | _::_,[],_,_,h,_,_,_,_,_=> by cases h
 | _::_,_::_,[],_,h,_,_,_,_,_=> by cases h
end
theorem open_u16 {W:World}{base:Nat}{v:Value}(h:Value.okWide prog W .any base 38 v):∃x,v=.int .u16 x/\0<=x/\x<=65535:=by
 unfold Value.okWide Cell.okWide Cell.ok at h;rw[show prog.underlying 38=some (.int .u16) by kernel_rfl] at h;cases v with
 | int k n=>
  obtain⟨rfl,h1,h2⟩:=h;have e1:IntKind.u16.min=0:=by kernel_rfl
  have e2:IntKind.u16.max=65535:=by kernel_rfl
  exact⟨n,rfl,oM,oM⟩
 | _=> exact h.elim
theorem four_at {gs:List Value}{o:Nat}{a b c d:Value}(h0:gs[o]? =some a)(h1:gs[o+1]? =some b)(h2:gs[o+2]? =some c)(h3:gs[o+3]? =some d):ldL true 4 gs o=some (.agg ⟨[a,b,c,d]⟩):=by
 have hlt:=(List.getElem?_eq_some_iff.1 h3).1;have e:(gs.drop o).take 4= [a,b,c,d]:=by
  apply List.ext_getElem?
  intro i;rcases i with _|_|_|_|i
  ·simpa using h0
  ·simpa using h1
  ·simpa using h2
  ·simpa using h3
  ·simp
   omega
 unfold ldL;rw[show Nat.ble (o+4) gs.length=true from Nat.ble_eq_true_of_le oM];simp only[e]
theorem three_at {gs:List Value}{o:Nat}{a b c:Value}(h0:gs[o]? =some a)(h1:gs[o+1]? =some b)(h2:gs[o+2]? =some c):ldL true 3 gs o=some (.agg ⟨[a,b,c]⟩):=by
 have hlt:=(List.getElem?_eq_some_iff.1 h2).1;have e:(gs.drop o).take 3= [a,b,c]:=by
  apply List.ext_getElem?
  intro i;rcases i with _|_|_|i
  ·simpa using h0
  ·simpa using h1
  ·simpa using h2
  ·simp
   omega
 unfold ldL;rw[show Nat.ble (o+3) gs.length=true from Nat.ble_eq_true_of_le oM];simp only[e]
theorem add_at(ab ao j:Nat):(⟨ab,ao,none⟩:Addr).add j=⟨ab,ao+j,none⟩:=by
 unfold Addr.add;split
 ·rename_i h;subst h;rfl
 ·rfl
theorem str_of(s:ByteArray):Value.string s=strV s.data.toList:=by
 obtain⟨⟨l⟩⟩:=s;rfl
section
variable {H:Type}{enc:TypeId×Value->H}{W:World}
theorem trod_i {n:Nat}{cs:List Value}{y:DataW H×List MemPlace}(h:DataW.trod enc prog W 0 (fun _=> true) true n 3 cs=some y):∃z,cs= [.int .i64 z]:=by
 obtain⟨z,h,_⟩:=DataW.trod_int (by kernel_rfl:prog.underlying 3=some (.int .i64)) h;exact⟨z,h⟩
theorem trod_s {n:Nat}{cs:List Value}{y:DataW H×List MemPlace}(h:DataW.trod enc prog W 0 (fun _=> true) true n 9 cs=some y):∃z:List UInt8,cs= [strV z]:=by
 obtain⟨z,h,_⟩:=DataW.trod_string (by kernel_rfl:prog.underlying 9=some .string) h;exact⟨z.data.toList,by rw[h,str_of]⟩
theorem trod_free {n:Nat}{cs:List Value}{y:DataW H×List MemPlace}(h:DataW.trod enc prog W 0 (fun _=> true) true n 67 cs=some y):
  ∃(F:Option Addr) (m fc:Nat) (x:Nat->Int),cs= [.slice F m fc]/\m<=fc/\FreeAt (fullV W) F m x:=by
 rcases open_ints (by kernel_rfl:prog.underlying 67=some (.slice 197)) und38 cells38 h with ⟨h1,_⟩|⟨a',len,cap,zs,h1,_,h3,h4,h5,_,h7,h8⟩
 ·exact⟨none,0,0,fun _=> 0,h1,Nat.le_refl _,.inl rfl⟩
 ·simp only[if_true] at h5;refine⟨some a',len,cap,fun j=> zs.getD j 0,h1,h3,?_⟩;cases len with
  | zero=> exact .inl rfl
  | succ m=>
   obtain⟨ab,ao,spt⟩:=a';have h0:=h7 0 oM;have hsp:spt=none:=by simpa [Addr.add] using World.cell?_spot h0
   subst hsp;obtain⟨cs',gt,gz,e1,_⟩:=cells_of h0;have e1':W.heap[ab]? =some (.cells cs' gt gz):=by simpa [Addr.add] using e1
   refine .inr ⟨ab,ao,false,cs'.toList,gt,gz,rfl,by simp only[fullV,e1',Option.map_some],fun j hj=> ?_⟩;have h9:=h7 j oM;rw[add_at] at h9;obtain⟨cs2,gt',gz',e2,e3⟩:=cells_of h9;rw[e1'] at e2;cases e2
   show cs'.toList[ao+(j:Int).toNat*1]? =_;rw[Int.toNat_natCast,Nat.mul_one,Array.getElem?_toList,e3]
theorem trod_band {n:Nat}{cs:List Value}{y:DataW H×List MemPlace}(h:DataW.trod enc prog W 0 (fun _=> true) true n 28 cs=some y):∃a b,cs= [.int .i64 a,.int .i64 b]:=by
 obtain⟨y0,y1,m,_,hl,t0,t1⟩:=trod_struct2 Tryz.underlying28 h;rw[cells45] at hl;obtain⟨c0,c1,rfl⟩:∃a b,cs= [a,b]:=by
  match cs,hl with
  | [a,b],_=> exact⟨a,b,rfl⟩
 simp only[cells3,List.drop_zero,List.drop_succ_cons,List.take_succ_cons,List.take_zero] at t0 t1;obtain⟨a,ha⟩:=trod_i t0;obtain⟨b,hb⟩:=trod_i t1;simp only[List.cons.injEq,and_true] at ha hb;exact⟨a,b,by rw[ha,hb]⟩
theorem trod_train {n:Nat}{cs:List Value}{y:DataW H×List MemPlace}(h:DataW.trod enc prog W 0 (fun _=> true) true n 73 cs=some y):∃x:Int×Int×Int×Int,cs= [.int .i64 x.1,.int .i64 x.2.1,.int .i64 x.2.2.1,.int .i64 x.2.2.2]:=by
 obtain⟨y0,y1,m,_,hl,t0,t1⟩:=trod_struct2 Tryz.underlying73 h;rw[cells47] at hl;obtain⟨c0,c1,c2,c3,rfl⟩:∃a b c d,cs= [a,b,c,d]:=by
  match cs,hl with
  | [a,b,c,d],_=> exact⟨a,b,c,d,rfl⟩
 simp only[cells45,List.drop_zero,List.drop_succ_cons,List.take_succ_cons,List.take_zero] at t0 t1;obtain⟨a,b,h1⟩:=trod_band t0;obtain⟨c,d,h2⟩:=trod_band t1;simp only[List.cons.injEq,and_true] at h1 h2;exact⟨(a,b,c,d),by rw[h1.1,h1.2,h2.1,h2.2]⟩
abbrev LnX:=List UInt8×List UInt8×Option Addr×Nat×Nat×(Nat->Int)
theorem trod_ln {n:Nat}{cs:List Value}{y:DataW H×List MemPlace}(h:DataW.trod enc prog W 0 (fun _=> true) true n 69 cs=some y):
  ∃x:LnX,cs= [strV x.1,strV x.2.1,.slice x.2.2.1 x.2.2.2.1 x.2.2.2.2.1]/\x.2.2.2.1<=x.2.2.2.2.1/\FreeAt (fullV W) x.2.2.1 x.2.2.2.1 x.2.2.2.2.2:=by
 obtain⟨xs,m,_,_,hl,hxl,hf⟩:=DataW.trod_struct Tryz.underlying69 h;rw[cells64] at hl;obtain⟨c0,c1,c2,rfl⟩:∃a b c,cs= [a,b,c]:=by
  match cs,hl with
  | [a,b,c],_=> exact⟨a,b,c,rfl⟩
 obtain⟨x0,x1,x2,rfl⟩:∃a b c,xs= [a,b,c]:=by
  match xs,hxl with
  | [a,b,c],_=> exact⟨a,b,c,rfl⟩
 have f0:=hf 0 { name:= "Name",type:=9,offset:=0,embedded:=false,tag:= "",pkgPath:= "",byteOffset:=0 } rfl;have f1:=hf 1 { name:= "Number",type:=9,offset:=1,embedded:=false,tag:= "",pkgPath:= "",byteOffset:=16 } rfl;have f2:=hf 2 { name:= "Free",type:=67,offset:=2,embedded:=false,tag:= "",pkgPath:= "",byteOffset:=32 } rfl;simp only[cells9,cells37,List.drop_zero,List.drop_succ_cons,List.take_succ_cons,List.take_zero,List.getElem?_cons_zero,List.getElem?_cons_succ] at f0 f1 f2;obtain⟨s0,e0⟩:=trod_s f0;obtain⟨s1,e1⟩:=trod_s f1;obtain⟨F,k,fc,x,e2,h1,h2⟩:=trod_free f2;simp only[List.cons.injEq,and_true] at e0 e1 e2;exact⟨(s0,s1,F,k,fc,x),by rw[e0,e1,e2],h1,h2⟩
theorem open_book {base:Nat}{v:Value}(hv:Value.okWide prog W .any base 36 v)(h:∃d q,DataW.Trod enc prog W 0 (fun _=> true) true 36 v d q):
  ∃(k:Bk) (A:Option Addr) (lc:Nat) (B:Option Addr) (tc:Nat),v=k.val A lc B tc/\BkAt (fullV W) k A lc B tc:=by
 have hv':∃cs,v=.agg cs:=by
  unfold Value.okWide at hv;rw[Tryz.underlying36] at hv;obtain⟨cs,h,_⟩:=hv;exact⟨cs,h⟩
 obtain⟨⟨cs⟩,rfl⟩:=hv';obtain⟨d,q,n,h⟩:=h;obtain⟨xs,m,_,_,hl,hxl,hf⟩:=DataW.trod_struct Tryz.underlying36 h;have hcs:(Value.agg ⟨cs⟩).cells.toList=cs:=rfl;rw[hcs] at hl hf;rw[cells25] at hl;obtain⟨c0,c1,c2,c3,rfl⟩:∃a b c d,cs= [a,b,c,d]:=by
  match cs,hl with
  | [a,b,c,d],_=> exact⟨a,b,c,d,rfl⟩
 obtain⟨x0,x1,x2,x3,rfl⟩:∃a b c d,xs= [a,b,c,d]:=by
  match xs,hxl with
  | [a,b,c,d],_=> exact⟨a,b,c,d,rfl⟩
 have f0:=hf 0 { name:= "Gap",type:=3,offset:=0,embedded:=false,tag:= "",pkgPath:= "",byteOffset:=0 } rfl;have f1:=hf 1 { name:= "Give",type:=3,offset:=1,embedded:=false,tag:= "",pkgPath:= "",byteOffset:=8 } rfl;have f2:=hf 2 { name:= "Lines",type:=33,offset:=2,embedded:=false,tag:= "",pkgPath:= "",byteOffset:=16 } rfl;have f3:=hf 3 { name:= "Trains",type:=34,offset:=3,embedded:=false,tag:= "",pkgPath:= "",byteOffset:=40 } rfl;simp only[cells3,cells22,cells23,List.drop_zero,List.drop_succ_cons,List.take_succ_cons,List.take_zero,List.getElem?_cons_zero,List.getElem?_cons_succ] at f0 f1 f2 f3;obtain⟨gap,e0⟩:=trod_i f0;obtain⟨give,e1⟩:=trod_i f1;simp only[List.cons.injEq,and_true] at e0 e1;subst e0 e1
 -- the lines
 obtain ⟨A,nl,lc,fl,el,hlc,hA⟩:∃(A:Option Addr) (nl lc:Nat) (f:Nat->LnX),c2=.slice A nl lc/\nl<=lc/\
   (nl=0\/∃b o fz gs gt gz,A=some ⟨b,o,none⟩/\fullV W b=some (fz,.cells ⟨gs⟩ gt gz)/\∀i:Nat,i<nl->ldL true 3 gs (o+(i:Int).toNat*3)=some (lineV (f i).1 (f i).2.1 (f i).2.2.1 (f i).2.2.2.1 (f i).2.2.2.2.1)/\(f i).2.2.2.1<=(f i).2.2.2.2.1/\FreeAt (fullV W) (f i).2.2.1 (f i).2.2.2.1 (f i).2.2.2.2.2):=by
  rcases Go.Deep.open_slice Tryz.underlying33 f2 with ⟨h1,_⟩|⟨a,len,cap,mm,nn,D,Pl,h1,_,h3,_,h5,_,h7⟩
  ·simp only[List.cons.injEq,and_true] at h1;exact⟨none,0,0,fun _=> ([],[],none,0,0,fun _=> 0),h1,Nat.le_refl _,.inl rfl⟩
  ·simp only[List.cons.injEq,and_true] at h1;simp only[if_true] at h5;have hex:∀i,i<len->∃x:LnX,W.cells? 0 (a.add (i*3)) 3=some [strV x.1,strV x.2.1,.slice x.2.2.1 x.2.2.2.1 x.2.2.2.2.1]/\x.2.2.2.1<=x.2.2.2.2.1/\FreeAt (fullV W) x.2.2.1 x.2.2.2.1 x.2.2.2.2.2:=fun i hi=> by
    obtain⟨cs',g1,g2⟩:=h7 i oM;rw[cells64] at g1;obtain⟨x,hx,hx2⟩:=trod_ln g2;exact⟨x,by rw[g1,hx],hx2⟩
   obtain⟨f,hfx⟩:=Go.Deep.choose_lt hex;refine⟨some a,len,cap,f,h1,h3,?_⟩;cases len with
   | zero=> exact .inl rfl
   | succ k=>
    obtain⟨ab,ao,spt⟩:=a;have hat:∀i,i<k+1->∀j,j<3->W.cell? (((⟨ab,ao,spt⟩:Addr).add (i*3)).add j)=([strV (f i).1,strV (f i).2.1,.slice (f i).2.2.1 (f i).2.2.2.1 (f i).2.2.2.2.1]:List Value)[j]? :=fun i hi j hj=> (World.cells?_some (hfx i hi).1).2.2 j hj;have h00:=hat 0 oM 0 dE;have hsp:spt=none:=by simpa [Addr.add] using World.cell?_spot h00
    subst hsp;obtain⟨gs,gt,gz,g1,_⟩:=cells_of h00;have g1':W.heap[ab]? =some (.cells gs gt gz):=by simpa [Addr.add] using g1
    refine .inr ⟨ab,ao,false,gs.toList,gt,gz,rfl,by simp only[fullV,g1',Option.map_some],fun i hi=> ⟨?_,(hfx i hi).2⟩⟩;have hone:∀j,j<3->gs.toList[ao+i*3+j]? =([strV (f i).1,strV (f i).2.1,.slice (f i).2.2.1 (f i).2.2.2.1 (f i).2.2.2.2.1]:List Value)[j]? :=fun j hj=> by
     have h8:=hat i hi j hj;rw[add_at,add_at] at h8;have hsome:∃z,([strV (f i).1,strV (f i).2.1,.slice (f i).2.2.1 (f i).2.2.2.1 (f i).2.2.2.2.1]:List Value)[j]? =some z:=⟨_,List.getElem?_eq_getElem (by simpa using hj)⟩
     obtain⟨z,hz⟩:=hsome;rw[hz] at h8 ⊢;obtain⟨gs',gt',gz',g2,g3⟩:=cells_of h8;rw[g1'] at g2;cases g2
     rw[Array.getElem?_toList];exact g3
    rw[Int.toNat_natCast];exact three_at (hone 0 dE) (hone 1 dE) (hone 2 dE)
 -- the trains
 obtain ⟨B,nt,tc,ft,et,htc,hB⟩:∃(B:Option Addr) (nt tc:Nat) (f:Nat->Int×Int×Int×Int),c3=.slice B nt tc/\nt<=tc/\
   (nt=0\/∃b o fz gs gt gz,B=some ⟨b,o,none⟩/\fullV W b=some (fz,.cells ⟨gs⟩ gt gz)/\∀i:Nat,i<nt->ldL true 4 gs (o+(i:Int).toNat*4)=some (trainV (f i).1 (f i).2.1 (f i).2.2.1 (f i).2.2.2)):=by
  rcases Go.Deep.open_slice Tryz.underlying34 f3 with ⟨h1,_⟩|⟨a,len,cap,mm,nn,D,Pl,h1,_,h3,_,h5,_,h7⟩
  ·simp only[List.cons.injEq,and_true] at h1;exact⟨none,0,0,fun _=> (0,0,0,0),h1,Nat.le_refl _,.inl rfl⟩
  ·simp only[List.cons.injEq,and_true] at h1;simp only[if_true] at h5;have hex:∀i,i<len->∃x:Int×Int×Int×Int,W.cells? 0 (a.add (i*4)) 4=some [.int .i64 x.1,.int .i64 x.2.1,.int .i64 x.2.2.1,.int .i64 x.2.2.2]:=fun i hi=> by
    obtain⟨cs',g1,g2⟩:=h7 i oM;rw[cells47] at g1;obtain⟨x,hx⟩:=trod_train g2;exact⟨x,by rw[g1,hx]⟩
   obtain⟨f,hfx⟩:=Go.Deep.choose_lt hex;refine⟨some a,len,cap,f,h1,h3,?_⟩;cases len with
   | zero=> exact .inl rfl
   | succ k=>
    obtain⟨ab,ao,spt⟩:=a;have hat:∀i,i<k+1->∀j,j<4->W.cell? (((⟨ab,ao,spt⟩:Addr).add (i*4)).add j)=([Value.int .i64 (f i).1,.int .i64 (f i).2.1,.int .i64 (f i).2.2.1,.int .i64 (f i).2.2.2]:List Value)[j]? :=fun i hi j hj=> (World.cells?_some (hfx i hi)).2.2 j hj;have h00:=hat 0 oM 0 dE;have hsp:spt=none:=by simpa [Addr.add] using World.cell?_spot h00
    subst hsp;obtain⟨gs,gt,gz,g1,_⟩:=cells_of h00;have g1':W.heap[ab]? =some (.cells gs gt gz):=by simpa [Addr.add] using g1
    refine .inr ⟨ab,ao,false,gs.toList,gt,gz,rfl,by simp only[fullV,g1',Option.map_some],fun i hi=> ?_⟩;have hone:∀j,j<4->gs.toList[ao+i*4+j]? =([Value.int .i64 (f i).1,.int .i64 (f i).2.1,.int .i64 (f i).2.2.1,.int .i64 (f i).2.2.2]:List Value)[j]? :=fun j hj=> by
     have h8:=hat i hi j hj;rw[add_at,add_at] at h8;have hsome:∃z,([Value.int .i64 (f i).1,.int .i64 (f i).2.1,.int .i64 (f i).2.2.1,.int .i64 (f i).2.2.2]:List Value)[j]? =some z:=⟨_,List.getElem?_eq_getElem (by simpa using hj)⟩
     obtain⟨z,hz⟩:=hsome;rw[hz] at h8 ⊢;obtain⟨gs',gt',gz',g2,g3⟩:=cells_of h8;rw[g1'] at g2;cases g2
     rw[Array.getElem?_toList];exact g3
    rw[Int.toNat_natCast];exact four_at (hone 0 dE) (hone 1 dE) (hone 2 dE) (hone 3 dE)
 subst el et;refine⟨⟨gap,give,nl,fun i=> (fl i).1,fun i=> (fl i).2.1,fun i=> (fl i).2.2.2.1,fun i=> (fl i).2.2.2.2.2,nt,fun i=> (ft i).1,fun i=> (ft i).2.1,fun i=> (ft i).2.2.1,fun i=> (ft i).2.2.2⟩,A,lc,B,tc,rfl,⟨hlc,?_⟩,⟨htc,hB⟩⟩;exact hA.imp id fun⟨b,o,fz,gs,gt,gz,h1,h2,h3⟩=> ⟨b,o,fz,gs,gt,gz,h1,h2,fun i hi=> ⟨_,_,(h3 i hi).1,(h3 i hi).2⟩⟩
end
end Go.Proofs.YtcagolloalgfiaaGreatDoor
namespace Go.Proofs.YtcagolloalgfiaaGreatDoor.Sg
open Go.RL Go.Proofs.Tryz
set_option maxHeartbeats 8000000
set_option maxRecDepth 10000
def bandV(a b:Int):Value:=.agg ⟨[.int .i64 a,.int .i64 b]⟩
section
variable(M:Md prog)(H:View)
theorem within_c(a b low high many:Int)(h1: -1000000000<=low)(h2:high<=1000000000):
  CallT M 217 #[bandV a b,.int .i64 low,.int .i64 high,.int .i64 many] H (fun v H'=> H.le H'/\v=.bool (decide (low<=a/\a<=b/\b<=high/\b-a<many))):=by
 refine .en func217 ntmps217 fun St c cs hK=> ?_;by_cases c1:low<=a
 all_goals by_cases c2:a<=b
 all_goals by_cases c3:b<=high
 all_goals by_cases c4:b-a<many
 all_goals
  refine U2 ?_;refine .bo fun b1=> ?_;refine U7 ?_;refine .i ?_ (z:=by first|exact leq_t oM|exact leq_f oM);refine U ?_;first|(refine .sk ?_)|(refine .x .fa ?_)
  first|(refine .sk ?_)|((refine .x (.ld 0) ?_))
  first|(refine .sk ?_)|(refine .x .fa ?_)
  first|(refine .sk ?_)|((refine .x (.ld 0) ?_))
  first|(refine .sk ?_)|(refine .x (.it (zz:=(by first|exact leq_t oM|exact leq_f oM))) ?_)
  refine U2 ?_;first|(refine .sk ?_)|(refine .x .fa ?_)
  first|(refine .sk ?_)|((refine .x (.ld 0) ?_))
  first|(refine .sk ?_)|(refine .m ?_)
  first|(refine .sk ?_)|(refine .x (.it (zz:=(by first|exact leq_t oM|exact leq_f oM))) ?_)
  refine U2 ?_;first|(refine .sk ?_)|(refine .x .fa ?_)
  first|(refine .sk ?_)|((refine .x (.ld 0) ?_))
  first|(refine .sk ?_)|(refine .x .fa ?_)
  first|(refine .sk ?_)|((refine .x (.ld 0) ?_))
  first|(refine .sk ?_)|(refine .x (.it (zz:=sub_in oM oM)) ?_)
  first|(refine .sk ?_)|(refine .m ?_)
  first|(refine .sk ?_)|(refine .x (.it (zz:=(by first|exact lss_t oM|exact lss_f oM))) ?_)
  refine U3 ?_;refine .rt hK func217 results217 [_] ?_;exact fun H' hs=> ⟨hs.base,by simp[packV,c1,c2,c3,c4] <;> omega⟩
theorem has_c(a b x:Int):CallT M 143 #[bandV a b,.int .i64 x] H (fun v H'=> H.le H'/\v=.bool (decide (a<=x/\x<=b))):=by
 refine .en func143 ntmps143 fun St c cs hK=> ?_;by_cases c1:a<=x
 all_goals by_cases c2:x<=b
 all_goals
  refine U2 ?_;refine .bo fun b1=> ?_;refine U7 ?_;refine .i ?_ (z:=by first|exact leq_t oM|exact leq_f oM);refine U ?_;first|(refine .sk ?_)|(refine .m ?_)
  first|(refine .sk ?_)|(refine .x .fa ?_)
  first|(refine .sk ?_)|((refine .x (.ld 0) ?_))
  first|(refine .sk ?_)|(refine .x (.it (zz:=(by first|exact leq_t oM|exact leq_f oM))) ?_)
  refine U3 ?_;refine .rt hK func143 results143 [_] ?_;exact fun H' hs=> ⟨hs.base,by simp[packV,c1,c2] <;> omega⟩
theorem bandOf_c(a b:Int):CallT M 142 #[bandV a b] H (fun v H'=> H.le H'/\v=bandV a b):=by
 refine .en func142 ntmps142 fun St c cs hK=> ?_;refine U2 ?_;refine .bo fun b1=> ?_;refine .al fun b2=> ?_;refine U10 ?_;refine .rt hK func142 results142 [_] ?_;exact okB
theorem isCode_c(x:Int):CallT M 172 #[.int .i64 x] H (fun v H'=> H.le H'/\v=.bool (decide (0<=x/\x<=31))):=by
 refine .en func172 ntmps172 fun St c cs hK=> ?_;by_cases c1:0<=x
 all_goals by_cases c2:x<=31
 all_goals
  refine U7 ?_;refine .i ?_ (z:=by first|exact geq_t oM|exact geq_f oM);refine U ?_;first|(refine .sk ?_)|(refine .m ?_)
  first|(refine .sk ?_)|(refine .x (.it (zz:=(by first|exact leq_t oM|exact leq_f oM))) ?_)
  refine U3 ?_;refine .rt hK func172 results172 [_] ?_;exact fun H' hs=> ⟨hs.base,by simp[packV,c1,c2] <;> omega⟩
def missedGo(pace after:Int):Nat->Int->Int
 | 0,n=> n
 | f+1,n=> if(2*n+1)*pace<after then missedGo pace after f (n+1) else n
def missedF(pace after:Int):Int:=missedGo pace after 7 0
theorem missed_c(pace after:Int)(h1:0<=pace)(h2:pace<=1000000):CallT M 97 #[.int .i64 pace,.int .i64 after] H (fun v H'=> H.le H'/\v=.int .i64 (missedF pace after)):=by
 refine .en func97 ntmps97 fun St c cs hK=> ?_;refine U10 ?_;refine Tc.dropR (R':= [(5,.int .i64 0),(0,.int .i64 pace),(1,.int .i64 after)]) ⟨rfl,rfl,rfl,trivial⟩ ?_;refine Tc.loopInv (σ:= { s:Int×Nat//0<=s.1/\s.1+s.2=7/\missedGo pace after s.2 s.1=missedF pace after })
  (fun s=> ([(5,.int .i64 s.1.1),(0,.int .i64 pace),(1,.int .i64 after)],[])) (fun s=> s.1.2) ?_ ⟨(0,7),by simp,by simp,rfl⟩
 rintro⟨⟨s,f⟩,g1,g2,g3⟩ ih;simp only at g1 g2 g3;have m1:0<=(2*s+1)*pace:=Int.mul_nonneg oM h1;have m2:(2*s+1)*pace<=15*1000000:=Int.mul_le_mul oM h2 h1 oM;show Tc M St _ _ _ _ [(5,.int .i64 s),(0,.int .i64 pace),(1,.int .i64 after)] [] _ _
 match f,g2,g3,ih with
 | 0,g2,g3,_=>
  refine U22 ?_;refine .rt hK func97 results97 [_] ?_;exact fun H' hs=> ⟨hs.base,by simp only[packV];rw[<-g3];rfl⟩
 | f + 1,g2,g3,ih=>
  simp only[missedGo] at g3;by_cases c:(2*s+1)*pace<after
  ·rw[if_pos c] at g3;refine U7 ?_;refine .i ?_ (z:=mul_in oM oM);refine U2 ?_;refine .i ?_ (z:=mul_in oM oM);refine U13 ?_;exact Tc.db (ih ⟨(s+1,f),by simp only;omega,by simp only;omega,g3⟩ (by simp))
  ·rw[if_neg c] at g3;refine U7 ?_;refine .i ?_ (z:=mul_in oM oM);refine U2 ?_;refine .i ?_ (z:=mul_in oM oM);refine U11 ?_;refine .rt hK func97 results97 [_] ?_;exact fun H' hs=> ⟨hs.base,by simp only[packV];rw[<-g3]⟩
end
def elementN(code place:Nat):Nat:=if place=0 then 0 else if place=6 then 1 else code/2 ^ (place-1)%2
def turnedN(v first:Nat):Nat:=v ^^^ (128-2 ^ first)
def readN(v:Nat):Option Nat:=if v%2=0/\v/64%2=1 then some (v/2%32) else none
theorem element_bits:∀c:Nat,c<32->∀p:Nat,p<7->p≠0->p≠6->bitI .and .i64 (Int.fdiv (c:Int) (2 ^ (min ((p:Int)-1).toNat 64))) 1=(elementN c p:Nat):=by decide +kernel
theorem turned_bits:∀v:Nat,v<128->∀f:Nat,f<8->bitI .xor .u8 (v:Int) (bitI .andNot .u8 127 (IntKind.u8.wrap (IntKind.u8.wrap (1*2 ^ (min (f:Int).toNat 8))-1)))=(turnedN v f:Nat):=by decide +kernel
theorem and1_bits:∀v:Nat,v<128->bitI .and .u8 (v:Int) 1=((v%2:Nat):Int):=by decide +kernel
theorem and31_bits:∀v:Nat,v<128->bitI .and .u8 (v:Int) 31=((v%32:Nat):Int):=by decide +kernel
theorem shr_bits:∀v:Nat,v<128->∀k:Nat,k<7->Int.fdiv (v:Int) (2 ^ (min (k:Int).toNat 8))=((v/2 ^ k:Nat):Int):=by decide +kernel
section
variable(M:Md prog)(H:View)
theorem element_c(code place:Nat)(h1:code<32)(h2:place<7):CallT M 171 #[.int .i64 code,.int .i64 place] H (fun v H'=> H.le H'/\v=.int .i64 (elementN code place:Nat)):=by
 refine .en func171 ntmps171 fun St c cs hK=> ?_;by_cases c1:place=0
 ·subst c1;refine U20 ?_;refine .rt hK func171 results171 [_] ?_;exact okB
 ·by_cases c2:place=6
  ·subst c2;refine U26 ?_;refine .rt hK func171 results171 [_] ?_;exact okB
  ·have hb:=element_bits code h1 place h2 c1 c2;refine U29 ?_;refine .x .sf ?_;refine U3 ?_;refine .rt hK func171 results171 [_] ?_;exact fun H' hs=> ⟨hs.base,by simp only[packV];rw[<-hb];rfl⟩
theorem turned_c(v first:Nat)(h1:v<128)(h2:first<8):CallT M 96 #[.int .u8 v,.int .i64 first] H (fun r H'=> H.le H'/\r=.int .u8 (turnedN v first:Nat)):=by
 refine .en func96 ntmps96 fun St c cs hK=> ?_;have hb:=turned_bits v h1 first h2;refine U8 ?_;refine .x .sf ?_;refine U5 ?_;refine .rt hK func96 results96 [_] ?_;exact fun H' hs=> ⟨hs.base,by simp only[packV];rw[<-hb];rfl⟩
theorem read_c(v:Nat)(h1:v<128):CallT M 98 #[.int .u8 v] H (fun r H'=> H.le H'/\r=(match readN v with|some n=> .tuple ⟨[.int .i64 (n:Nat),.bool true]⟩|none=> .tuple ⟨[.int .i64 0,.bool false]⟩)):=by
 refine .en func98 ntmps98 fun St c cs hK=> ?_;have e1:intBin .and .u8 (v:Int) 1=some (.int .u8 ((v%2:Nat):Int)):=by simp only[intBin,and1_bits v h1]
 have e2:shiftV .shr .u8 (v:Int) 6=some (.int .u8 ((v/64:Nat):Int)):=by simp only[shiftV];exact congrArg (fun z=> some (Value.int .u8 z)) (shr_bits v h1 6 oM)
 have e3:intBin .and .u8 ((v/64:Nat):Int) 1=some (.int .u8 ((v/64%2:Nat):Int)):=by simp only[intBin,and1_bits (v/64) oM]
 have e4:shiftV .shr .u8 (v:Int) 1=some (.int .u8 ((v/2:Nat):Int)):=by simp only[shiftV];exact congrArg (fun z=> some (Value.int .u8 z)) (shr_bits v h1 1 oM)
 have e5:intBin .and .u8 ((v/2:Nat):Int) 31=some (.int .u8 ((v/2%32:Nat):Int)):=by simp only[intBin,and31_bits (v/2) oM]
 have e6:IntKind.i64.wrap ((v/2%32:Nat):Int)=((v/2%32:Nat):Int):=wrap64 oM oM;by_cases c1:v%2=0
 ·by_cases c2:v/64%2=1
  ·refine U13 ?_;refine .x .sf ?_;refine U9 ?_;refine .x .sf ?_;refine U5 ?_;refine .rt hK func98 results98 [_,_] ?_;exact fun H' hs=> ⟨hs.base,by simp[packV,readN,c1,c2]⟩
  ·refine U13 ?_;refine .x .sf ?_;refine U10 ?_;refine .rt hK func98 results98 [_,_] ?_;exact fun H' hs=> ⟨hs.base,by simp[packV,readN,c2]⟩
 ·refine U24 ?_;refine .rt hK func98 results98 [_,_] ?_;exact fun H' hs=> ⟨hs.base,by simp[packV,readN,c1]⟩
end
def beforeN(code place:Nat):Nat:=if place=0 then 1 else elementN code (place-1)
def placesTo(code:Nat):Nat->List Nat
 | 0=> []
 | p+1=> if elementN code p=beforeN code p then placesTo code p else placesTo code p++[p]
def edgeCells(ps:List Nat):List Value:=(ps.zipIdx.map fun x=> [Value.int .i64 (x.1:Nat),Value.int .i64 (x.2:Nat)]).flatten
theorem edgeCells_snoc(ps:List Nat)(p:Nat):edgeCells (ps++[p])=edgeCells ps++[.int .i64 (p:Nat),.int .i64 (ps.length:Nat)]:=by
 unfold edgeCells;rw[List.zipIdx_append];simp
theorem placesTo_len(code p:Nat):(placesTo code p).length<=p:=by
 induction p with
 | zero=> simp[placesTo]
 | succ p ih=>
  unfold placesTo;split
  ·omega
  ·simp;omega
section
variable(M:Md prog)(H:View)
theorem letterOf_c(code:Nat)(h1:code<32):CallT M 140 #[.int .i64 code] H (fun v H'=> H.le H'/\∃g:Gl 243 2,v=.agg ⟨[.int .i64 code,g.val]⟩/\g.n=(placesTo code 7).length/\g.l=edgeCells (placesTo code 7)/\∀x∈g.bl,H' x.1=some x.2/\H x.1=none):=by
 refine .en func140 ntmps140 fun St c cs hK=> ?_;refine U2 ?_;refine .al fun b2=> ?_;refine U5 ?_;refine .al fun b3=> ?_;refine U12 ?_;refine Tc.db (Tc.loopInv (σ:= { s:Nat×Gl 243 2//s.1<=7/\s.2.n=(placesTo code s.1).length/\s.2.l=edgeCells (placesTo code s.1) })
  (fun s=> ([(9,.int .i64 (s.1.1:Nat)),(4,.int .i64 (beforeN code s.1.1:Nat)),(0,.int .i64 code),(2,.pointer (some ⟨b2,0,none⟩)),(3,.pointer (some ⟨b3,0,none⟩))],
   (b3,true,.cells ⟨[.int .i64 code,s.1.2.val]⟩ 180 (0,0))::(b2,true,.cells ⟨[.int .i64 0,.slice none 0 0]⟩ 180 (0,0))::s.1.2.bl)) (fun s=> 7-s.1.1) ?_ ⟨(0,Gl.nil 243 2),by simp,rfl,rfl⟩)
 rintro⟨⟨p,g⟩,g1,g2,g3⟩ ih;simp only at g1 g2 g3;have hlen:=placesTo_len code p;show Tc M St _ _ _ _ [(9,.int .i64 (p:Nat)),(4,.int .i64 (beforeN code p:Nat)),(0,.int .i64 code),(2,.pointer (some ⟨b2,0,none⟩)),(3,.pointer (some ⟨b3,0,none⟩))]
   ((b3,true,.cells ⟨[.int .i64 code,g.val]⟩ 180 (0,0))::(b2,true,.cells ⟨[.int .i64 0,.slice none 0 0]⟩ 180 (0,0))::g.bl) _ _
 by_cases c7:p=7
 ·subst c7;refine U12 ?_;refine .rt hK func140 results140 [_] ?_;refine fun H' hs=> ⟨hs.base,g,rfl,g2,g3,fun x hx=> ⟨hs.at_ x ?_,hs.out x ?_⟩⟩
  ·exact List.mem_cons_of_mem _ (List.mem_cons_of_mem _ hx)
  ·exact List.mem_cons_of_mem _ (List.mem_cons_of_mem _ hx)
 ·have c8:p<7:=by omega
  refine U18 ?_;refine .cl (fun H hs=> element_c M H code p h1 c8) ?_;refine U4 ?_;by_cases he:elementN code p=beforeN code p
  ·refine U16 ?_;exact Tc.db (ih ⟨(p+1,g),by simp only;omega,by simp only[placesTo,he,if_true];exact g2,by simp only[placesTo,he,if_true];exact g3⟩ (by simp only;omega))
  ·refine U14 ?_;refine .e (.bs (zz:=fun bs=> ?_));refine .e (Or.append (E:=en) 3 rfl rfl rfl rfl rfl rfl rfl rfl rfl rfl rfl rfl rfl rfl rfl (fun H hs=> SrcAt.of (hs.get (i:=0) rfl) (Nat.le_of_ble_eq_true rfl)) rfl oM rfl dE (fun g' hn hl=> ?_));refine U12 ?_;exact Tc.db (ih ⟨(p+1,g'),by simp only;omega,by simp only[placesTo,he,if_false];rw[hn,g2];simp,by simp only[placesTo,he,if_false];rw[hl,g3,edgeCells_snoc];rw[g2];rfl⟩ (by simp only;omega))
end
def rightTo(code:Nat):Nat->Nat
 | 0=> 0
 | p+1=> rightTo code p+elementN code p*2 ^ p
def rightN(code:Nat):Nat:=rightTo code 7
theorem right_bits:∀c:Nat,c<32->∀p:Nat,p<7->bitI .or .u8 (rightTo c p:Nat) (IntKind.u8.wrap (IntKind.u8.wrap (elementN c p:Nat)*2 ^ (min (p:Int).toNat 8)))=(rightTo c (p+1):Nat):=by decide +kernel
section
variable(M:Md prog)(H:View)
theorem right_c(code:Nat)(sv:Value)(h1:code<32):CallT M 168 #[.agg ⟨[.int .i64 code,sv]⟩] H (fun v H'=> H.le H'/\v=.int .u8 (rightN code:Nat)):=by
 refine .en func168 ntmps168 fun St c cs hK=> ?_;refine U2 ?_;refine .bo fun b1=> ?_;refine U12 ?_;refine Tc.db (Tc.loopInv (σ:= { p:Nat//p<=7 })
  (fun s=> ([(5,.int .i64 (s.1:Nat)),(3,.int .u8 (rightTo code s.1:Nat)),(1,.pointer (some ⟨b1,0,none⟩))],[(b1,true,.cells ⟨[.int .i64 code,sv]⟩ 180 (0,0))])) (fun s=> 7-s.1) ?_ ⟨0,by simp⟩)
 rintro⟨p,g1⟩ ih;show Tc M St _ _ _ _ [(5,.int .i64 (p:Nat)),(3,.int .u8 (rightTo code p:Nat)),(1,.pointer (some ⟨b1,0,none⟩))] [(b1,true,.cells ⟨[.int .i64 code,sv]⟩ 180 (0,0))] _ _;by_cases c7:p=7
 ·subst c7;refine U12 ?_;refine .rt hK func168 results168 [_] ?_;exact okB
 ·have c8:p<7:=by omega
  have e1:intBin .or .u8 (rightTo code p:Nat) (IntKind.u8.wrap (IntKind.u8.wrap (elementN code p:Nat)*2 ^ (min (p:Int).toNat IntKind.u8.bits)))=some (.int .u8 (rightTo code (p+1):Nat)):=congrArg (fun z=> some (Value.int .u8 z)) (right_bits code h1 p c8);refine U19 ?_;refine .cl (fun H hs=> element_c M H code p h1 c8) ?_;refine U2 ?_;refine .x .sf ?_;refine U8 ?_;exact Tc.db (ih ⟨p+1,oM⟩ (by simp only;omega))
end
def keepTo(p:Nat->Bool)(k:Nat):List Value:=((List.range k).filter p).map fun i=> .int .i64 (i:Nat)
theorem keepTo_succ(p:Nat->Bool)(k:Nat):keepTo p (k+1)=if p k then keepTo p k++[.int .i64 (k:Nat)] else keepTo p k:=by
 unfold keepTo;rw[List.range_succ,List.filter_append];cases h:p k <;> simp[h]
theorem keepTo_len(p:Nat->Bool)(k:Nat):(keepTo p k).length<=k:=by
 unfold keepTo;rw[List.length_map];exact Nat.le_trans (List.length_filter_le _ _) (by simp)
def Asks(M:Md prog)(H:View)(fv:Value)(many:Nat)(p:Nat->Bool):Prop:=
 ∀i:Nat,i<many->∀H',H.le H'->FnT M fv [.int .i64 (i:Nat)] H' fun v H''=> H'.le H''/\v=.bool (p i)
section
variable(M:Md prog)(H:View)
theorem keep_c(many:Nat)(fv:Value)(p:Nat->Bool)(hm:many<=100000)(hp:Asks M H fv many p):CallT M 91 #[.int .i64 many,fv] H (fun v H'=> H.le H'/\∃g:Gl 3 1,v=g.val/\g.l=keepTo p many/\∀x∈g.bl,H' x.1=some x.2/\H x.1=none):=by
 refine .en func91 ntmps91 fun St c cs hK=> ?_;refine U15 ?_;refine Tc.db (Tc.loopInv (σ:= { s:Nat×Gl 3 1//s.1<=many/\s.2.l=keepTo p s.1 })
  (fun s=> ([(8,.int .i64 (s.1.1:Nat)),(7,.int .i64 many),(1,fv),(5,s.1.2.val)],s.1.2.bl)) (fun s=> many-s.1.1) ?_ ⟨(0,Gl.nil 3 1),by simp,rfl⟩)
 rintro⟨⟨k,g⟩,g1,g2⟩ ih;simp only at g1 g2;have hlen:g.n<=k:=by
  have h1:=keepTo_len p k;rw[<-g2,g.hl] at h1;omega
 show Tc M St _ _ _ _ [(8,.int .i64 (k:Nat)),(7,.int .i64 many),(1,fv),(5,g.val)] g.bl _ _;by_cases c1:k=many
 ·subst c1;refine U12 ?_;refine .rt hK func91 results91 [_] ?_;exact fun H' hs=> ⟨hs.base,g,rfl,g2,fun x hx=> ⟨hs.at_ x hx,hs.out x hx⟩⟩
 ·have c2:k<many:=by omega
  refine U18 ?_;refine .c rfl rfl rfl rfl (fun H hs=> hp k c2 H hs.base) ?_;refine U ?_;cases hpk:p k with
  | false=>
   refine U7 ?_;exact Tc.db (ih ⟨(k+1,g),by simp only;omega,by simp only[keepTo_succ,hpk];exact g2⟩ (by simp only;omega))
  | true=>
   refine U4 ?_;refine .e (.bs (zz:=fun bs=> ?_));refine .e (Or.append (E:=en) 1 rfl rfl rfl rfl rfl rfl rfl rfl rfl rfl rfl rfl rfl rfl rfl (fun H hs=> SrcAt.of (hs.get (i:=0) rfl) (Nat.le_of_ble_eq_true rfl)) rfl oM rfl dE (fun g' hn hl=> ?_));refine U7 ?_;exact Tc.db (ih ⟨(k+1,g'),by simp only;omega,by simp only[keepTo_succ,hpk,if_true];rw[hl,g2];rfl⟩ (by simp only;omega))
theorem all_c(a b:Int)(fv:Value)(J:Int->View->Prop)(D:View->Prop)(ha: -1000000000<=a)(hb:b<=1000000000)(h0:J a H)
  (hy:∀i H',a<=i->i<=b->J i H'->FnT M fv [.int .i64 i] H' fun v H''=> (v=.bool true/\J (i+1) H'')\/(v=.bool false/\D H'')):
  CallT M 182 #[bandV a b,fv] H (fun _ H'=> ∃H₁,H₁.le H'/\((∃i,b<i/\a<=i/\(i=a\/i=b+1)/\J i H₁)\/D H₁)):=by
 refine .en func182 ntmps182 fun St c cs hK=> ?_;refine U2 ?_;refine .bo fun b1=> ?_;refine U8 ?_;refine Tc.db (Tc.loopB (σ:= { s:Int×View//a<=s.1/\(s.1=a\/s.1<=b+1)/\J s.1 s.2 })
  (fun s=> (s.1.2,[(4,.int .i64 s.1.1),(1,fv),(2,.pointer (some ⟨b1,0,none⟩))],[(b1,true,.cells ⟨[.int .i64 a,.int .i64 b]⟩ 240 (0,0))])) (fun s=> (b+1-s.1.1).toNat) ?_ ⟨(a,H),by simp,by simp,h0⟩)
 rintro⟨⟨i,H₁⟩,g1,g2,g3⟩ ih;simp only at g1 g2 g3;show Tc M St _ _ H₁ _ [(4,.int .i64 i),(1,fv),(2,.pointer (some ⟨b1,0,none⟩))] [(b1,true,.cells ⟨[.int .i64 a,.int .i64 b]⟩ 240 (0,0))] _ _;by_cases c1:i<=b
 ·refine U16 ?_;refine To.callF rfl rfl rfl rfl rfl rfl dE (hy i H₁ g1 c1 g3) (fun v H₂ hv=> ?_);rcases hv with ⟨rfl,hv⟩|⟨rfl,hv⟩
  ·refine U10 ?_;exact Tc.db (ih ⟨(i+1,H₂),by simp only;omega,by simp only;omega,hv⟩ (by simp only;omega))
  ·refine U3 ?_;refine .rt hK func182 results182 [] ?_;exact fun H' hs=> ⟨H₂,hs.base,.inr hv⟩
 ·refine U10 ?_;refine .ov hK func182 results182 [] ?_;exact fun H' hs=> ⟨H₁,hs.base,.inl ⟨i,oM,g1,oM,g3⟩⟩
end
def intsL(l:List Int):List Value:=l.map fun x=> .int .i64 x
def timesV(l:List Int):Value:=.agg ⟨intsL l⟩
def afterTo(l:List Int)(k:Nat):List Int:=l.zipIdx.map fun x=> if x.2<k then x.1-l.headD 0 else x.1
theorem intsL_len(l:List Int):(intsL l).length=l.length:=by simp[intsL]
theorem afterTo_len(l:List Int)(k:Nat):(afterTo l k).length=l.length:=by simp[afterTo]
theorem afterTo_get {l:List Int}{k i:Nat}{x:Int}(h:l[i]? =some x):(afterTo l k)[i]? =some (if i<k then x-l.headD 0 else x):=by
 simp[afterTo,h]
theorem intsL_get {l:List Int}{i:Nat}{x:Int}(h:l[i]? =some x):(intsL l)[i]? =some (.int .i64 x):=by simp[intsL,h]
theorem stL_one(l:List Value)(i:Nat)(v:Value)(h:i<l.length):stL l i [v]=l.set i v:=by
 unfold stL;rw[List.set_eq_take_append_cons_drop,if_pos h];simp
theorem six {l:List Int}(h:l.length=6):∃a b c d e f,l= [a,b,c,d,e,f]:=by
 match l,h with
 | [a,b,c,d,e,f],_=> exact⟨a,b,c,d,e,f,rfl⟩
theorem afterTo_step {l:List Int}{k:Nat}{x:Int}(h:l[k]? =some x):stL (intsL (afterTo l k)) k [.int .i64 (x-l.headD 0)]=intsL (afterTo l (k+1)):=by
 have hk:k<l.length:=(List.getElem?_eq_some_iff.1 h).1;rw[stL_one _ _ _ (by rw[intsL_len,afterTo_len];exact hk)];apply List.ext_getElem?
 intro i;by_cases e:k=i
 ·subst e;rw[List.getElem?_set_self (by rw[intsL_len,afterTo_len];exact hk),intsL_get (afterTo_get h),if_pos oM]
 ·rw[List.getElem?_set_ne e];cases hx:l[i]? with
  | none=>
   have h1:l.length<=i:=List.getElem?_eq_none_iff.1 hx;rw[List.getElem?_eq_none (by rw[intsL_len,afterTo_len];exact h1),List.getElem?_eq_none (by rw[intsL_len,afterTo_len];exact h1)]
  | some y=>
   rw[intsL_get (afterTo_get hx),intsL_get (afterTo_get hx)];by_cases e2:i<k
   ·rw[if_pos e2,if_pos oM]
   ·rw[if_neg e2,if_neg oM]
section
variable(M:Md prog)(H:View)
theorem clone_c(a:Option Addr)(m c:Nat)(l:List Value)(hm:m<=100000)(hs:SrcAt H 1 (.slice a m c) m l)(h1:l.all single=true):CallT M 45 #[.slice a m c] H (fun v H'=> H.le H'/\∃g:Gl 3 1,v=g.val/\g.l=l/\∀x∈g.bl,H' x.1=some x.2/\H x.1=none):=by
 refine .en func45 ntmps45 fun St c cs hK=> ?_;cases a with
 | none=>
  refine U8 ?_;refine .x (OpV.eqNil (E:=en) rfl rfl rfl rfl rfl) ?_;refine U6 ?_;refine .rt hK func45 results45 [_] ?_;refine fun H' hs'=> ⟨hs'.base,Gl.nil 3 1,rfl,?_,by simp[Gl.nil,Gl.bl]⟩
  obtain⟨_,h2,h3|⟨b,off,_,_,_,_,_,h3,_⟩⟩:=hs
  ·obtain⟨_,_,_,rfl⟩:=h3;rfl
  ·cases h3
 | some a=>
  refine U8 ?_;refine .x (OpV.eqNil (E:=en) rfl rfl rfl rfl rfl) ?_;refine U5 ?_;refine .e (.bs (zz:=fun bs=> ?_));refine U ?_;refine .e (Or.append (E:=en) (g:=Gl.emp 3 1 bs) 0 rfl rfl rfl rfl rfl rfl rfl rfl rfl rfl rfl rfl rfl rfl rfl (fun H' hs'=> hs.mono hs'.base) h1 (by show 0+m<=_;omega) rfl dE (fun g' hn hl=> ?_));refine U2 ?_;refine .rt hK func45 results45 [_] ?_;exact fun H' hs'=> ⟨hs'.base,g',rfl,by rw[hl];rfl,fun x hx=> ⟨hs'.at_ x hx,hs'.out x hx⟩⟩
theorem after_c(l:List Int)(many:Nat)(h6:l.length=6)(hm:many<=6)(hb:∀x∈l, -1000000000<=x/\x<=1000000000):CallT M 95 #[timesV l,.int .i64 many] H (fun v H'=> H.le H'/\v=timesV (afterTo l many)):=by
 refine .en func95 ntmps95 fun St c cs hK=> ?_;obtain⟨x0,l',rfl⟩:∃x l',l=x::l':=by
  cases l with
  | nil=> cases h6
  | cons x l'=> exact⟨x,l',rfl⟩
 have z0:afterTo (x0::l') 0=x0::l':=by
  unfold afterTo;simp
 have hx0:=hb x0 (by simp);refine U2 ?_;refine .bo fun b2=> ?_;refine .al fun b4=> ?_;refine U14 ?_;refine Tc.db (Tc.loopInv (σ:= { s:Nat×List Int//s.1<=many/\s.2=afterTo (x0::l') s.1 })
  (fun s=> ([(10,.int .i64 (s.1.1:Nat)),(9,.int .i64 many),(5,.int .i64 x0),(2,.pointer (some ⟨b2,0,none⟩)),(4,.pointer (some ⟨b4,0,none⟩))],
   [(b4,true,.cells ⟨[.int .i64 0,.int .i64 0,.int .i64 0,.int .i64 0,.int .i64 0,.int .i64 0]⟩ 185 (0,0)),(b2,true,.cells ⟨intsL s.1.2⟩ 185 (0,0))])) (fun s=> many-s.1.1) ?_ ⟨(0,x0::l'),by simp,z0.symm⟩)
 rintro⟨⟨k,cur⟩,g1,g2⟩ ih;simp only at g1 g2;have hcl:(intsL cur).length=6:=by rw[intsL_len,g2,afterTo_len];exact h6
 show Tc M St _ _ _ _ [(10,.int .i64 (k:Nat)),(9,.int .i64 many),(5,.int .i64 x0),(2,.pointer (some ⟨b2,0,none⟩)),(4,.pointer (some ⟨b4,0,none⟩))]
   [(b4,true,.cells ⟨[.int .i64 0,.int .i64 0,.int .i64 0,.int .i64 0,.int .i64 0,.int .i64 0]⟩ 185 (0,0)),(b2,true,.cells ⟨intsL cur⟩ 185 (0,0))] _ _
 by_cases c1:k=many
 ·subst c1;obtain⟨y0,y1,y2,y3,y4,y5,hy⟩:=six (show cur.length=6 by rw[<-intsL_len];exact hcl);subst hy;refine U12 ?_;refine .rt hK func95 results95 [_] ?_;exact fun H' hs=> ⟨hs.base,by rw[<-g2];rfl⟩
 ·have c2:k<many:=by omega
  obtain⟨x,hx⟩:∃x,(x0::l')[k]? =some x:=⟨_,List.getElem?_eq_getElem (by rw[h6];omega)⟩
  have hxb:=hb x (List.mem_of_getElem? hx);have hcx:cur[k]? =some x:=by rw[g2,afterTo_get hx,if_neg oM]
  have f1:ldL false 1 (intsL cur) (0+(k:Int).toNat*1)=some (.int .i64 x):=by
   show(intsL cur)[0+(k:Int).toNat*1]? =_;rw[show 0+(k:Int).toNat*1=k by simp];exact intsL_get hcx
  have f2:stL (intsL cur) (0+(k:Int).toNat*1) [.int .i64 (x-x0)]=intsL (afterTo (x0::l') (k+1)):=by
   rw[show 0+(k:Int).toNat*1=k by simp,g2];exact afterTo_step hx
  have f3:Nat.ble (0+(k:Int).toNat*1+1) (intsL cur).length=true:=Nat.ble_eq_true_of_le (by rw[hcl];simp;omega);refine U28 ?_;exact Tc.db (ih ⟨(k+1,afterTo (x0::l') (k+1)),by simp only;omega,rfl⟩ (by simp only;omega))
end
def stillF(place number send lean:Int):Int:=2*place*send+if number%2=0 then -lean else lean
def seenAt(ps:List Nat)(mv:List Int)(send lean:Int)(i:Nat):Int:=stillF ((ps[i]?.getD 0:Nat):Int) i send lean+mv[i]?.getD 0
def seenTo(ps:List Nat)(mv:List Int)(send lean:Int)(k:Nat):List Int:=(List.range 6).map fun i=> if i<k then seenAt ps mv send lean i else 0
theorem seenTo_len(ps:List Nat)(mv:List Int)(send lean:Int)(k:Nat):(seenTo ps mv send lean k).length=6:=by simp[seenTo]
theorem seenTo_step {ps:List Nat}{mv:List Int}{send lean:Int}{k:Nat}(hk:k<6):stL (intsL (seenTo ps mv send lean k)) k [.int .i64 (seenAt ps mv send lean k)]=intsL (seenTo ps mv send lean (k+1)):=by
 rw[stL_one _ _ _ (by rw[intsL_len,seenTo_len];exact hk)];apply List.ext_getElem?
 intro i;by_cases e:k=i
 ·subst e;rw[List.getElem?_set_self (by rw[intsL_len,seenTo_len];exact hk)];simp[intsL,seenTo,hk]
 ·rw[List.getElem?_set_ne e];by_cases hi:i<6
  ·simp only[intsL,seenTo,List.getElem?_map,List.getElem?_range hi,Option.map_some];by_cases e2:i<k
   ·rw[if_pos e2,if_pos oM]
   ·rw[if_neg e2,if_neg oM]
  ·rw[List.getElem?_eq_none (by rw[intsL_len,seenTo_len];omega),List.getElem?_eq_none (by rw[intsL_len,seenTo_len];omega)]
section
variable(M:Md prog)(H:View)
theorem still_c(place number send lean:Int)(h1:0<=place)(h2:place<=6)(h3:0<=number)(h4:0<=send)(h5:send<=1000)(h6: -1000<=lean)(h7:lean<=1000):
  CallT M 145 #[.agg ⟨[.int .i64 place,.int .i64 number]⟩,.int .i64 send,.int .i64 lean] H (fun v H'=> H.le H'/\v=.int .i64 (stillF place number send lean)):=by
 refine .en func145 ntmps145 fun St c cs hK=> ?_;have h8:0<=2*place*send:=Int.mul_nonneg oM h4;have h9:2*place*send<=12*1000:=Int.mul_le_mul oM h5 h4 oM;refine U2 ?_;refine .bo fun b1=> ?_;refine U2 ?_;by_cases h:number%2=0
 ·refine U5 ?_;refine .i ?_ (z:=rem_in oM oM);refine U5 ?_;refine .x .ng ?_;refine U6 ?_;refine .i ?_ (z:=mul_in oM oM);refine U ?_;refine .i ?_ (z:=mul_in oM oM);refine U4 ?_;refine .rt hK func145 results145 [_] ?_;exact fun H' hs=> ⟨hs.base,by simp[packV,stillF,h] <;> omega⟩
 ·refine U5 ?_;refine .i ?_ (z:=rem_in oM oM);refine U8 ?_;refine .i ?_ (z:=mul_in oM oM);refine U ?_;refine .i ?_ (z:=mul_in oM oM);refine U4 ?_;refine .rt hK func145 results145 [_] ?_;exact fun H' hs=> ⟨hs.base,by simp[packV,stillF,h] <;> omega⟩
theorem still_in {place number send lean:Int}(h1:0<=place)(h2:place<=6)(h4:0<=send)(h5:send<=1000)(h6: -1000<=lean)(h7:lean<=1000): -1000<=stillF place number send lean/\stillF place number send lean<=13000:=by
 have h8:0<=2*place*send:=Int.mul_nonneg oM h4;have h9:2*place*send<=12*1000:=Int.mul_le_mul oM h5 h4 oM;unfold stillF;split <;> omega
theorem seen_c(code send read lean:Int)(ps:List Nat)(mv:List Int)(eb eo ec vb vo vc:Nat)(f1 f2:Bool)(es vs:List Value)(et vt:TypeId)(ez vz:Nat×Nat)
  (hE:H eb=some (f1,.cells ⟨es⟩ et ez)) (hE2:∀i:Nat,i<ps.length->ldL true 2 es (eo+i*2)=some (.agg ⟨[.int .i64 ((ps[i]?.getD 0:Nat):Int),.int .i64 (i:Nat)]⟩))
  (hV:H vb=some (f2,.cells ⟨vs⟩ vt vz)) (hV2:∀i:Nat,i<ps.length->ldL false 1 vs (vo+i*1)=some (.int .i64 (mv[i]?.getD 0)))
  (hp:ps.length<=6) (hp6:∀i:Nat,i<ps.length->ps[i]?.getD 0<=6) (hmv:∀i:Nat, -1000<=mv[i]?.getD 0/\mv[i]?.getD 0<=1000) (h4:0<=send) (h5:send<=1000) (h6: -1000<=lean) (h7:lean<=1000) (ml:Nat) (hml:ps.length<=ml):
  CallT M 94 #[.agg ⟨[.int .i64 code,.slice (some ⟨eb,eo,none⟩) ps.length ec]⟩,.agg ⟨[.int .i64 send,.int .i64 read,.int .i64 lean,.slice (some ⟨vb,vo,none⟩) ml vc]⟩] H (fun v H'=> H.le H'/\v=timesV (seenTo ps mv send lean ps.length)):=by
 refine .en func94 ntmps94 fun St c cs hK=> ?_;refine U2 ?_;refine .bo fun b2=> ?_;refine .bo fun b3=> ?_;refine .al fun b4=> ?_;refine U3 ?_;refine .al fun b5=> ?_;refine U10 ?_;refine Tc.db (Tc.loopInv (σ:= { s:Nat×List Int//s.1<=ps.length/\s.2=seenTo ps mv send lean s.1 })
  (fun s=> ([(11,.int .i64 (s.1.1:Nat)),(10,.int .i64 ps.length),(9,.slice (some ⟨eb,eo,none⟩) ps.length ec),(2,.pointer (some ⟨b2,0,none⟩)),(3,.pointer (some ⟨b3,0,none⟩)),(4,.pointer (some ⟨b4,0,none⟩)),(5,.pointer (some ⟨b5,0,none⟩))],
   [(b5,true,.cells ⟨intsL s.1.2⟩ 185 (0,0)),(b4,true,.cells ⟨[.int .i64 0,.int .i64 0,.int .i64 0,.int .i64 0,.int .i64 0,.int .i64 0]⟩ 185 (0,0)),
    (b3,true,.cells ⟨[.int .i64 send,.int .i64 read,.int .i64 lean,.slice (some ⟨vb,vo,none⟩) ml vc]⟩ 121 (0,0)),(b2,true,.cells ⟨[.int .i64 code,.slice (some ⟨eb,eo,none⟩) ps.length ec]⟩ 180 (0,0))])) (fun s=> ps.length-s.1.1) ?_ ⟨(0,[0,0,0,0,0,0]),by simp,rfl⟩)
 rintro⟨⟨k,cur⟩,g1,g2⟩ ih;simp only at g1 g2;have hcl:(intsL cur).length=6:=by rw[intsL_len,g2,seenTo_len]
 show Tc M St _ _ _ _ [(11,.int .i64 (k:Nat)),(10,.int .i64 ps.length),(9,.slice (some ⟨eb,eo,none⟩) ps.length ec),(2,.pointer (some ⟨b2,0,none⟩)),(3,.pointer (some ⟨b3,0,none⟩)),(4,.pointer (some ⟨b4,0,none⟩)),(5,.pointer (some ⟨b5,0,none⟩))]
   [(b5,true,.cells ⟨intsL cur⟩ 185 (0,0)),(b4,true,.cells ⟨[.int .i64 0,.int .i64 0,.int .i64 0,.int .i64 0,.int .i64 0,.int .i64 0]⟩ 185 (0,0)),
    (b3,true,.cells ⟨[.int .i64 send,.int .i64 read,.int .i64 lean,.slice (some ⟨vb,vo,none⟩) ml vc]⟩ 121 (0,0)),(b2,true,.cells ⟨[.int .i64 code,.slice (some ⟨eb,eo,none⟩) ps.length ec]⟩ 180 (0,0))] _ _
 by_cases c1:k=ps.length
 ·obtain⟨y0,y1,y2,y3,y4,y5,hy⟩:=six (show cur.length=6 by rw[<-intsL_len];exact hcl);subst hy;refine U12 ?_;refine .rt hK func94 results94 [_] ?_;exact fun H' hs=> ⟨hs.base,by rw[<-c1,<-g2];rfl⟩
 ·have c2:k<ps.length:=by omega
  have k1:(k:Int).toNat=k:=by simp
  have f0:=hE2 k c2;have f1:ldL true 2 es (eo+(k:Int).toNat*2)=some (.agg ⟨[.int .i64 ((ps[k]?.getD 0:Nat):Int),.int .i64 (k:Nat)]⟩):=by rw[k1];exact f0
  have f4:ldL false 1 vs (vo+(k:Int).toNat*1)=some (.int .i64 (mv[k]?.getD 0)):=by rw[k1];exact hV2 k c2
  have f2:stL (intsL cur) (0+(k:Int).toNat*1) [.int .i64 (stillF ((ps[k]?.getD 0:Nat):Int) (k:Nat) send lean+mv[k]?.getD 0)]=intsL (seenTo ps mv send lean (k+1)):=by
   rw[show 0+(k:Int).toNat*1=k by simp,g2];exact seenTo_step oM
  have f3:Nat.ble (0+(k:Int).toNat*1+1) (intsL cur).length=true:=Nat.ble_eq_true_of_le (by rw[hcl];simp;omega);have b6:=hp6 k c2;have b7:=hmv k;have b8:=still_in (place:=((ps[k]?.getD 0:Nat):Int)) (number:=(k:Nat)) oM oM h4 h5 h6 h7;refine U14 ?_;refine .al fun b7=> ?_;refine U3 ?_;refine Tc.dr [14] [1] mixed rfl ?_;refine V6 0 ?_;refine .z 6 rfl (OpV.tk fun H hs=> still_c M H (ps[k]?.getD 0:Nat) k send lean oM oM oM h4 h5 h6 h7) ?_;refine V7 7 ?_;refine .e 14 1 ?_;refine .dn ?_;refine U5 ?_;exact Tc.db (ih ⟨(k+1,seenTo ps mv send lean (k+1)),by simp only;omega,rfl⟩ (by simp only;omega))
end
def edgeV(p i:Nat):Value:=.agg ⟨[.int .i64 (p:Nat),.int .i64 (i:Nat)]⟩
theorem edge_flat(p i:Nat):flat en 2 243 [.int .i64 (p:Nat),.int .i64 (i:Nat)]:=by
 refine⟨rfl,?_⟩;intro f hf;simp only[List.mem_cons,List.not_mem_nil,or_false] at hf;rcases hf with rfl|rfl
 ·exact⟨⟨_,rfl⟩,_,rfl,rfl,Nat.le_of_ble_eq_true rfl⟩
 ·exact⟨⟨_,rfl⟩,_,rfl,rfl,Nat.le_of_ble_eq_true rfl⟩
theorem edge_key(p i:Nat):KeyFl en 2 243 (edgeV p i):=⟨_,_,rfl,rfl,edge_flat p i⟩
theorem edgeV_inj {p i q j:Nat}:edgeV p i=edgeV q j<->p=q/\i=j:=by
 simp only[edgeV,Value.agg.injEq,Array.mk.injEq,List.cons.injEq,Value.int.injEq,true_and,and_true];omega
theorem eg169:prog.eqGuardType prog.depth 243=false:=by kernel_rfl
def optGo(read mt after:Int):Nat->Int->List (Int×Int)
 | 0,_=> []
 | f+1,n=> if n<=mt then(missedF read (after+n),n)::(if missedF read (after+n)=7 then [] else optGo read mt after f ((2*missedF read (after+n)+1)*read+1-after)) else []
def optCells(l:List (Int×Int)):List Value:=(l.map fun x=> [Value.int .i64 x.1,Value.int .i64 x.2]).flatten
theorem missedGo_in(pace after:Int):∀(f:Nat) (n:Int),n<=missedGo pace after f n/\missedGo pace after f n<=n+f/\(missedGo pace after f n<n+f->after<=(2*missedGo pace after f n+1)*pace)
 | 0,n=> ⟨by simp[missedGo],by simp[missedGo],fun h=> by simp[missedGo] at h⟩
 | f + 1,n=> by
  unfold missedGo;split
  ·obtain⟨h1,h2,h3⟩:=missedGo_in pace after f (n+1);exact⟨oM,oM,fun h=> h3 oM⟩
  ·rename_i h
   exact⟨oM,oM,fun _=> by omega⟩
theorem missedF_in(pace after:Int):0<=missedF pace after/\missedF pace after<=7/\(missedF pace after≠7->after<=(2*missedF pace after+1)*pace):=by
 obtain⟨h1,h2,h3⟩:=missedGo_in pace after 7 0;exact⟨h1,by unfold missedF;omega,fun h=> h3 (by have:=h2;simp only[missedF] at h;omega)⟩
structure Stg where
 code:Nat
 ps:List Nat
 send:Int
 read:Int
 lean:Int
 first:Int
 mf:Int
 mt:Int
def Stg.after(s:Stg)(p i:Nat):Int:=stillF p i s.send s.lean-stillF ((s.ps[0]?.getD 0:Nat):Int) 0 s.send s.lean-s.first
def Stg.opts(s:Stg)(p i:Nat):List (Int×Int):=if i=0 then [(0,s.first)] else optGo s.read s.mt (s.after p i) (s.mt+1-s.mf).toNat s.mf
structure Stg.Ok(s:Stg):Prop where
 code:s.code<32
 ps0:0<s.ps.length
 ps6:s.ps.length<=6
 places:∀i:Nat,i<s.ps.length->s.ps[i]?.getD 0<=6
 send:0<=s.send/\s.send<=1000
 read:0<=s.read/\s.read<=1000
 lean: -1000<=s.lean/\s.lean<=1000
 first: -1000<=s.first/\s.first<=1000
 mf: -1000<=s.mf/\s.mf<=1000
 mt:s.mt<=1000
def Stg.val(s:Stg)(eb ec mb:Nat):Value:=.agg ⟨[.int .i64 s.code,.slice (some ⟨eb,0,none⟩) s.ps.length ec,.int .i64 s.send,.int .i64 s.read,.int .i64 s.lean,.int .i64 s.first,.int .i64 s.mf,.int .i64 s.mt,.map (some mb)]⟩
def EdgesAt(H:View)(s:Stg)(eb:Nat):Prop:=
 ∃f es et ez,H eb=some (f,.cells ⟨es⟩ et ez)/\∀i:Nat,i<s.ps.length->ldL true 2 es (0+i*2)=some (edgeV (s.ps[i]?.getD 0) i)
def Memo(H:View)(s:Stg)(es:List MapEntry):Prop:=∀e∈es,∃p i:Nat,e.key=edgeV p i/\SrcAt H 2 e.val (s.opts p i).length (optCells (s.opts p i))
theorem Memo.keys {H:View}{s:Stg}{es:List MapEntry}(h:Memo H s es):∀e∈es,KeyFl en 2 243 e.key:=fun e he=> by
 obtain⟨p,i,hk,_⟩:=h e he;rw[hk];exact edge_key p i
theorem blockVia {P:Program}{M:Md P}{St:View->Goroutine->Prop}{n:Nat}{b:FB}{H₀:View}{cs:List Frame}{R:Rg}{L:Bl}{ds:List Deferred}{k:List Item}{id:Nat}{x:Code}(F:Rg->Bl->Prop)(hF:∀R L,F R L->Tc M St n b H₀ cs R L ds k)
 (h:(∀R L,F R L->Tc M St n b H₀ cs R L ds k)->Tc M St n b H₀ cs R L ds (.code x:: .inBlock id::k)):Tc M St n b H₀ cs R L ds (.code (.block id x)::k):=.block (h hF)
theorem optCells_len(l:List (Int×Int)):(optCells l).length=l.length*2:=by
 induction l with
 | nil=> rfl
 | cons x l ih=> simp only[optCells,List.map_cons,List.flatten_cons,List.length_append,List.length_cons,List.length_nil] at ih ⊢;omega
theorem optCells_cons(x:Int×Int)(l:List (Int×Int)):optCells (x::l)= [.int .i64 x.1,.int .i64 x.2]++optCells l:=by simp[optCells]
theorem gl_cases {e:TypeId}{sz:Nat}(g:Gl e sz):g.bl= []\/∃b x,g.bl= [(b,x)]:=by
 unfold Gl.bl;cases g.blk with
 | none=> exact .inl rfl
 | some b=> exact .inr ⟨b,_,rfl⟩
theorem fresh_of {H H':View}{mb:Nat}{L:Bl}{i j b:Nat}{x y:Bool×Obj}(hs:SymSt (H.without mb) L H')(hi:L[i]? =some (b,x))(hj:L[j]? =some (mb,y))(hij:i≠j):H b=none/\b≠mb:=by
 have hne:b≠mb:=by
  rintro rfl;exact hij (nodup_unique hs.nodup hi hj)
 have h1:=hs.out _ (List.mem_of_getElem? hi);rw[without_other hne] at h1;exact⟨h1,hne⟩
theorem Memo.mono {H H':View}{s:Stg}{l:List MapEntry}(h:Memo H s l)(k:H.le H'):Memo H' s l:=fun e he=> by
 obtain⟨p,i,h1,h2⟩:=h e he;exact⟨p,i,h1,h2.mono k⟩
def OptQ(s:Stg)(p i mb:Nat)(Hm H:View)(v:Value)(H':View):Prop:=
 (∀b x,b≠mb->H b=some x->H' b=some x)/\∃Hm' es' cl',Hm'.le H'/\(∀b x,Hm' b=some x->Hm b=some x\/H b=none)/\Hm.le Hm'/\Hm' mb=none/\
  SrcAt Hm' 2 v (s.opts p i).length (optCells (s.opts p i))/\H' mb=some (true,.map es' cl')/\Memo Hm' s es'.toList
theorem OptQ.put {s:Stg}{p i mb b:Nat}{x:Bool×Obj}{Hm H H':View}{v:Value}{es':Array MapEntry}{cl':Nat}(h1:∀b x,b≠mb->H b=some x->H' b=some x)(hle:Hm.le H)(hmb:Hm mb=none)(hb:H b=none)(hne:b≠mb)(hx:H' b=some x)
  (h2:SrcAt (Hm.put b x) 2 v (s.opts p i).length (optCells (s.opts p i))) (h3:H' mb=some (true,.map es' cl')) (h4:Memo (Hm.put b x) s es'.toList):OptQ s p i mb Hm H v H':=by
 have hn:Hm b=none:=by
  cases h:Hm b with
  | none=> rfl
  | some y=> rw[hle _ _ h] at hb;cases hb
 refine⟨h1,Hm.put b x,es',cl',fun c y hc=> ?_,fun c y hc=> ?_,View.le_put x hn,by rw[View.put_other _ _ (Ne.symm hne)];exact hmb,h2,h3,h4⟩
 ·by_cases e:c=b
  ·subst e;rw[View.put_same] at hc;cases hc
   exact hx
  ·rw[View.put_other _ _ e] at hc;exact h1 c y (fun e=> by rw[e,hmb] at hc;cases hc) (hle _ _ hc)
 ·by_cases e:c=b
  ·subst e;exact .inr hb
  ·rw[View.put_other _ _ e] at hc;exact .inl hc
theorem OptQ.same {s:Stg}{p i mb:Nat}{Hm H H':View}{v:Value}{es':Array MapEntry}{cl':Nat}(h1:∀b x,b≠mb->H b=some x->H' b=some x)(hle:Hm.le H)(hmb:Hm mb=none)
  (h2:SrcAt Hm 2 v (s.opts p i).length (optCells (s.opts p i))) (h3:H' mb=some (true,.map es' cl')) (h4:Memo Hm s es'.toList):OptQ s p i mb Hm H v H':=
 ⟨h1,Hm,es',cl',fun c y hc=> h1 c y (fun e=> by rw[e,hmb] at hc;cases hc) (hle _ _ hc),fun _ _ h=> .inl h,View.le_refl _,hmb,h2,h3,h4⟩
section
variable(M:Md prog)(H:View)
theorem options_c(s:Stg)(hok:s.Ok)(eb ec mb:Nat)(es:Array MapEntry)(cl p i:Nat)(hE:EdgesAt H s eb)(hM:H mb=some (true,.map es cl))(Hm:View)(hm:Memo Hm s es.toList)(hle:Hm.le H)(hmb:Hm mb=none)(hi:i<s.ps.length)(hp:p=s.ps[i]?.getD 0):
  CallT M 184 #[s.val eb ec mb,edgeV p i] H (OptQ s p i mb Hm H):=by
 obtain⟨f,ec',et,ez,hE1,hE2⟩:=hE;have hne:eb≠mb:=by rintro rfl;rw[hE1] at hM;cases hM
 have hE0:(H.without mb) eb=some (f,.cells ⟨ec'⟩ et ez):=by rw[without_other hne];exact hE1
 have hq:=hE2 0 hok.ps0;have hbase:∀(H':View),(H.without mb).le H'->∀b x,b≠mb->H b=some x->H' b=some x:=fun H' hle b x hb hx=> hle b x (by rw[without_other hb];exact hx);refine CallT.enter (vs:= [s.val eb ec mb,edgeV p i]) func184 rfl ntmps184 (Nat.le_of_ble_eq_true rfl) (SymSt.pull hM) fun St c cs hK=> ?_;refine U2 ?_;refine .bo fun b2=> ?_;refine .bo fun b3=> ?_;refine U4 ?_;have hq2:decide (i=0)=true<-> [Value.int .i64 (p:Nat),.int .i64 (i:Nat)]= [.int .i64 ((s.ps[0]?.getD 0:Nat):Int),.int .i64 ((0:Nat):Int)]:=by
  simp only[decide_eq_true_eq,List.cons.injEq,Value.int.injEq,true_and,and_true];constructor
  ·rintro rfl;rw[hp];simp
  ·rintro⟨_,h⟩;omega
 by_cases hi0:i=0
 ·subst hi0;refine Tc.dr [] [] mixed rfl ?_;refine V6 0 ?_;refine .q 6 rfl (OpV.eqA (E:=en) true 2 rfl rfl rfl rfl rfl eg169 dE (edge_flat p 0) (edge_flat (s.ps[0]?.getD 0) 0) hq2) ?_;refine .dn ?_;refine U6 ?_;refine .e (.bs (zz:=fun bs=> ?_));refine U2 ?_;refine .rt hK func184 results184 [_] ?_;intro H' hs;obtain⟨f1,f2⟩:=fresh_of hs (i:=0) (j:=3) rfl rfl dE;have hn:Hm bs=none:=by
   cases h:Hm bs with
   | none=> rfl
   | some y=> rw[hle _ _ h] at f1;cases f1
  exact OptQ.put (hbase H' hs.base) hle hmb f1 f2 (hs.get (i:=0) rfl) ⟨⟨_,_,rfl⟩,rfl,.inr ⟨bs,0,1,true,_,_,_,rfl,View.put_same ..,Nat.le_of_ble_eq_true rfl,rfl⟩⟩ (hs.get (i:=3) rfl) (hm.mono (View.le_put _ hn))
 ·rw[decide_eq_false hi0] at hq2;refine Tc.dr [] [] mixed rfl ?_;refine V6 0 ?_;refine .q 6 rfl (OpV.eqA (E:=en) false 2 rfl rfl rfl rfl rfl eg169 dE (edge_flat p i) (edge_flat (s.ps[0]?.getD 0) 0) hq2) ?_;refine .dn ?_;refine U7 ?_;refine .e (Or.lookup (E:=en) 2 rfl rfl rfl (fun H' hs=> ⟨true,hs.get (i:=2) rfl⟩) rfl rfl rfl dE (edge_key p i) hm.keys rfl dE (fun r hr=> ?_));cases r with
  | some x=>
   obtain⟨j,v⟩:=x;obtain⟨e,h1,h2,rfl⟩:=hr;obtain⟨q,k,h3,h4⟩:=hm e (List.mem_of_getElem? h1);rw[h2] at h3;obtain⟨rfl,rfl⟩:=edgeV_inj.1 h3;refine U17 ?_;refine .rt hK func184 results184 [_] ?_;exact fun H' hs=> OptQ.same (hbase H' hs.base) hle hmb h4 (hs.get (i:=2) rfl) hm
  | none=>
   have p1:=hok.places i hi;rw[<-hp] at p1;have p0:=hok.places 0 hok.ps0;obtain⟨s1,s2⟩:=hok.send;obtain⟨l1,l2⟩:=hok.lean;obtain⟨q1,q2⟩:=hok.first;have b1:=still_in (place:=(p:Nat)) (number:=(i:Nat)) oM oM s1 s2 l1 l2;have b0:=still_in (place:=((s.ps[0]?.getD 0:Nat):Int)) (number:=0) oM oM s1 s2 l1 l2;refine U14 ?_;refine Tc.dr [] [] mixed rfl ?_;refine V5 0 ?_;refine .z 5 rfl (OpV.tk fun H hs=> still_c M H p i s.send s.lean oM oM oM s1 s2 l1 l2) ?_;refine V9 6 ?_;refine .z 15 rfl (OpV.tk fun H hs=> still_c M H (s.ps[0]?.getD 0:Nat) 0 s.send s.lean oM oM oM s1 s2 l1 l2) ?_;refine V5 16 ?_;refine .dn ?_;refine U8 ?_;have w1: -16000<=s.after p i/\s.after p i<=16000:=by unfold Stg.after;omega
   have hopts:s.opts p i=optGo s.read s.mt (s.after p i) (s.mt+1-s.mf).toNat s.mf:=by unfold Stg.opts;rw[if_neg hi0]
   have mf1:=hok.mf;have mt1:=hok.mt;obtain⟨r1,r2⟩:=hok.read;refine blockVia (fun R' L'=> ∃g:Gl 289 2,g.l=optCells (s.opts p i)/\R'= [(5,g.val),(2,.pointer (some ⟨b2,0,none⟩)),(3,.pointer (some ⟨b3,0,none⟩))]/\
    L'=(b3,true,.cells ⟨(edgeV p i).cells.toList⟩ 243 (0,0))::(b2,true,.cells ⟨(s.val eb ec mb).cells.toList⟩ 268 (0,0))::(mb,true,.map es cl)::g.bl) ?_ (fun fin=> ?_)
   ·rintro _ _ ⟨g,hg,rfl,rfl⟩;refine U6 ?_;refine .e (Or.mapUpdate (E:=en) 2 2 rfl rfl rfl rfl rfl rfl rfl dE (edge_key p i) hm.keys rfl (fun r hr'=> ?_));refine U6 ?_;refine .rt hK func184 results184 [_] ?_;intro H' hs;have hlen:g.n=(s.opts p i).length:=by
     have h3:=g.hl;rw[hg,optCells_len] at h3;omega
    have hsrc:∀Hv:View,(∀y∈g.bl,Hv y.1=some y.2)->SrcAt Hv 2 g.val (s.opts p i).length (optCells (s.opts p i)):=fun Hv hv=> by
     have h1:=g.src (H:=Hv) hv;rw[hlen,hg] at h1;exact h1
    cases r with
    | some x=>
     obtain⟨j,w⟩:=x;obtain⟨e,h1,h2,_⟩:=hr';exact absurd h2 (hr e (List.mem_of_getElem? h1))
    | none=>
     have hmem:∀Hv:View,Hm.le Hv->SrcAt Hv 2 g.val (s.opts p i).length (optCells (s.opts p i))->Memo Hv s (es.push ⟨edgeV p i,g.val,cl⟩).toList:=fun Hv hv hsv e he=> by
      simp only[Array.toList_push,List.mem_append,List.mem_singleton] at he;rcases he with he|rfl
      ·exact hm.mono hv e he
      ·exact⟨p,i,rfl,hsv⟩
     rcases gl_cases g with h0|⟨gb,gx,h0⟩
     ·have h5:=hsrc Hm (by rw[h0];simp);exact OptQ.same (hbase H' hs.base) hle hmb h5 (hs.get (i:=2) rfl) (hmem Hm (View.le_refl _) h5)
     ·rw[h0] at hs;obtain⟨f1,f2⟩:=fresh_of hs (i:=3) (j:=2) rfl rfl dE;have hn:Hm gb=none:=by
       cases h:Hm gb with
       | none=> rfl
       | some y=> rw[hle _ _ h] at f1;cases f1
      have h5:=hsrc (Hm.put gb gx) (by rw[h0];simp[View.put_same]);exact OptQ.put (hbase H' hs.base) hle hmb f1 f2 (hs.get (i:=3) rfl) h5 (hs.get (i:=2) rfl) (hmem _ (View.le_put _ hn) h5)
   ·refine Tc.db (Tc.loopInv (σ:= { x:Int×Nat×Gl 289 2 // -1000<=x.1/\x.1<=40000/\(s.mt+1-x.1).toNat<=x.2.1/\x.2.2.n+x.2.1<=5000/\x.2.2.l++optCells (optGo s.read s.mt (s.after p i) x.2.1 x.1)=optCells (s.opts p i) })
     (fun x=> ([(8,.int .i64 x.1.1),(7,.int .i64 (s.after p i)),(5,x.1.2.2.val),(2,.pointer (some ⟨b2,0,none⟩)),(3,.pointer (some ⟨b3,0,none⟩))],
      (b3,true,.cells ⟨(edgeV p i).cells.toList⟩ 243 (0,0))::(b2,true,.cells ⟨(s.val eb ec mb).cells.toList⟩ 268 (0,0))::(mb,true,.map es cl)::x.1.2.2.bl)) (fun x=> x.1.2.1) ?_
     ⟨(s.mf,(s.mt+1-s.mf).toNat,Gl.nil 289 2),mf1.1,by show s.mf<=_;omega,Nat.le_refl _,by show 0+(s.mt+1-s.mf).toNat<=_;omega,by rw[hopts];rfl⟩)
    rintro⟨⟨n,f,g⟩,g1,g2,g3,g4,g5⟩ ih;simp only at g1 g2 g3 g4 g5;show Tc M St _ _ _ _ [(8,.int .i64 n),(7,.int .i64 (s.after p i)),(5,g.val),(2,.pointer (some ⟨b2,0,none⟩)),(3,.pointer (some ⟨b3,0,none⟩))]
      ((b3,true,.cells ⟨(edgeV p i).cells.toList⟩ 243 (0,0))::(b2,true,.cells ⟨(s.val eb ec mb).cells.toList⟩ 268 (0,0))::(mb,true,.map es cl)::g.bl) _ _
    by_cases c1:n<=s.mt
    ·obtain⟨f,rfl⟩:∃f',f=f'+1:=⟨f-1,oM⟩
     obtain⟨m1,m2,m3⟩:=missedF_in s.read (s.after p i+n);have hc:=missed_c M H s.read (s.after p i+n) oM oM;unfold optGo at g5;rw[if_pos c1,optCells_cons,<-List.append_assoc] at g5;generalize hmm:missedF s.read (s.after p i+n)=m at m1 m2 m3 g5;have x1:0<=(2*m+1)*s.read:=Int.mul_nonneg oM oM;have x2:(2*m+1)*s.read<=15*1000:=Int.mul_le_mul oM r2 oM oM;refine U19 ?_;refine .cl (fun H hs=> hmm▸missed_c M H s.read (s.after p i+n) oM oM) ?_;refine U2 ?_;refine .al fun b9=> ?_;refine U6 ?_;refine .e (.bs (zz:=fun bs=> ?_));refine .e (Or.append (E:=en) 5 rfl rfl rfl rfl rfl rfl rfl rfl rfl rfl rfl rfl rfl rfl rfl (fun H hs=> SrcAt.of (hs.get (i:=0) rfl) (Nat.le_of_ble_eq_true rfl)) rfl oM rfl dE (fun g' hn hl=> ?_));refine U2 ?_;have hl':g'.l=g.l++[.int .i64 m,.int .i64 n]:=hl;refine U2 ?_;by_cases c7:m=7
     ·subst c7;rw[if_pos rfl] at g5;have hfin:g'.l=optCells (s.opts p i):=by
       rw[hl',<-g5];simp[optCells]
      refine U7 ?_;have hf:=fin _ _ ⟨g',hfin,rfl,rfl⟩;exact Tc.db hf
     ·rw[if_neg c7] at g5;refine U10 ?_;refine .i ?_ (z:=mul_in oM oM);refine U3 ?_;refine .i ?_ (z:=mul_in oM oM);refine U6 ?_;have x3:=m3 c7;exact Tc.db (ih ⟨((2*m+1)*s.read+1-s.after p i,f,g'),by simp only;omega,by simp only;omega,by simp only;omega,by simp only;omega,by simp only;rw[hl'];exact g5⟩ (by simp))
    ·have c2:optGo s.read s.mt (s.after p i) f n= []:=by
      cases f with
      | zero=> rfl
      | succ f=> unfold optGo;rw[if_neg c1]
     rw[c2] at g5;refine U11 ?_;exact Tc.db (fin _ _ ⟨g,by simpa [optCells] using g5,rfl,rfl⟩)
end
structure Lk where
 s0:Int
 s1:Int
 r0:Int
 r1:Int
 l0:Int
 l1:Int
 m0:Int
 m1:Int
def Lk.val(k:Lk):Value:=.agg ⟨[.int .i64 k.s0,.int .i64 k.s1,.int .i64 k.r0,.int .i64 k.r1,.int .i64 k.l0,.int .i64 k.l1,.int .i64 k.m0,.int .i64 k.m1]⟩
def paceOk(a b:Int):Bool:=decide (1<=a/\a<=b/\b<=40/\b-a<3)
def leanOk(a b:Int):Bool:=decide (-9<=a/\a<=b/\b<=9/\b-a<3)
def moveOk(a b:Int):Bool:=decide (-12<=a/\a<=b/\b<=12/\b-a<25)
def Lk.sends(k:Lk):Bool:=paceOk k.s0 k.s1
def Lk.reads(k:Lk):Bool:=paceOk k.r0 k.r1
def Lk.leans(k:Lk):Bool:=leanOk k.l0 k.l1
def Lk.moves(k:Lk):Bool:=moveOk k.m0 k.m1
section
variable(M:Md prog)(H:View)
theorem isPaces_c(a b:Int):CallT M 218 #[bandV a b] H (fun v H'=> H.le H'/\v=.bool (decide (1<=a/\a<=b/\b<=40/\b-a<3))):=by
 refine .en func218 ntmps218 fun St c cs hK=> ?_;refine U2 ?_;refine .bo fun b1=> ?_;refine U5 ?_;refine .cl (fun H hs=> bandOf_c M H a b) ?_;refine .cl (fun H hs=> within_c M H a b 1 40 3 oM oM) ?_;refine U2 ?_;refine .rt hK func218 results218 [_] ?_;exact okB
theorem sends_c(k:Lk):CallT M 214 #[k.val] H (fun v H'=> H.le H'/\v=.bool k.sends):=by
 refine .en func214 ntmps214 fun St c cs hK=> ?_;refine U2 ?_;refine .bo fun b1=> ?_;refine U7 ?_;refine .cl (fun H hs=> isPaces_c M H k.s0 k.s1) ?_;refine U2 ?_;refine .rt hK func214 results214 [_] ?_;exact okB
theorem reads_c(k:Lk):CallT M 215 #[k.val] H (fun v H'=> H.le H'/\v=.bool k.reads):=by
 refine .en func215 ntmps215 fun St c cs hK=> ?_;refine U2 ?_;refine .bo fun b1=> ?_;refine U7 ?_;refine .cl (fun H hs=> isPaces_c M H k.r0 k.r1) ?_;refine U2 ?_;refine .rt hK func215 results215 [_] ?_;exact okB
theorem leans_c(k:Lk):CallT M 210 #[k.val] H (fun v H'=> H.le H'/\v=.bool k.leans):=by
 refine .en func210 ntmps210 fun St c cs hK=> ?_;refine U2 ?_;refine .bo fun b1=> ?_;refine U8 ?_;refine .cl (fun H hs=> bandOf_c M H k.l0 k.l1) ?_;refine .cl (fun H hs=> within_c M H k.l0 k.l1 (-9) 9 3 oM oM) ?_;refine U2 ?_;refine .rt hK func210 results210 [_] ?_;exact okB
theorem moves_c(k:Lk):CallT M 216 #[k.val] H (fun v H'=> H.le H'/\v=.bool k.moves):=by
 refine .en func216 ntmps216 fun St c cs hK=> ?_;refine U2 ?_;refine .bo fun b1=> ?_;refine U8 ?_;refine .cl (fun H hs=> bandOf_c M H k.m0 k.m1) ?_;refine .cl (fun H hs=> within_c M H k.m0 k.m1 (-12) 12 25 oM oM) ?_;refine U2 ?_;refine .rt hK func216 results216 [_] ?_;exact okB
def allTo(p:Nat->Bool):Nat->Bool
 | 0=> true
 | k+1=> allTo p k&&p k
theorem allTo_false {p:Nat->Bool}{k:Nat}(h:allTo p k=false):∀m,k<=m->allTo p m=false:=by
 intro m hm;induction m with
 | zero=>
  have:k=0:=by omega
  subst this;exact h
 | succ m ih=>
  by_cases e:k=m+1
  ·subst e;exact h
  ·rw[allTo,ih oM];rfl
theorem check_c(kv:List Value)(gb off m cc:Nat)(f:Bool)(gs:List Value)(gt:TypeId)(gz:Nat×Nat)(fv:Nat->Value)(p:Nat->Bool)(hm:m<=1000)(hk8:kv.length=8)(hG:H gb=some (f,.cells ⟨gs⟩ gt gz))(hG2:∀i:Nat,i<m->ldL false 1 gs (off+i*1)=some (fv i))
  (hp:∀i:Nat,i<m->∀H',H.le H'->FnT M (fv i) [.agg ⟨kv⟩] H' fun v H''=> H'.le H''/\v=.bool (p i)):
  CallT M 138 #[.agg ⟨kv⟩,.slice (some ⟨gb,off,none⟩) m cc] H (fun v H'=> H.le H'/\v=.int .i64 (if allTo p m then 0 else 1)):=by
 obtain⟨a0,a1,a2,a3,a4,a5,a6,a7,rfl⟩:∃a0 a1 a2 a3 a4 a5 a6 a7,kv= [a0,a1,a2,a3,a4,a5,a6,a7]:=by
  match kv,hk8 with
  | [a0,a1,a2,a3,a4,a5,a6,a7],_=> exact⟨a0,a1,a2,a3,a4,a5,a6,a7,rfl⟩
 refine .en func138 ntmps138 fun St c cs hK=> ?_;refine U2 ?_;refine .bo fun b2=> ?_;refine U10 ?_;refine Tc.db (Tc.loopInv (σ:= { k:Nat//k<=m/\allTo p k=true })
  (fun s=> ([(9,.int .i64 (s.1:Nat)),(8,.int .i64 m),(7,.slice (some ⟨gb,off,none⟩) m cc),(2,.pointer (some ⟨b2,0,none⟩))],[(b2,true,.cells ⟨[a0,a1,a2,a3,a4,a5,a6,a7]⟩ 177 (0,0))])) (fun s=> m-s.1) ?_ ⟨0,by simp,rfl⟩)
 rintro⟨k,g1,g2⟩ ih;show Tc M St _ _ _ _ [(9,.int .i64 (k:Nat)),(8,.int .i64 m),(7,.slice (some ⟨gb,off,none⟩) m cc),(2,.pointer (some ⟨b2,0,none⟩))] [(b2,true,.cells ⟨[a0,a1,a2,a3,a4,a5,a6,a7]⟩ 177 (0,0))] _ _;by_cases c1:k=m
 ·subst c1;refine U11 ?_;refine .rt hK func138 results138 [_] ?_;exact fun H' hs=> ⟨hs.base,by rw[g2];rfl⟩
 ·have c2:k<m:=by omega
  have f1:ldL false 1 gs (off+(k:Int).toNat*1)=some (fv k):=by rw[show(k:Int).toNat=k by simp];exact hG2 k c2
  cases hpk:p k with
  | true=>
   refine U19 ?_;refine .c rfl rfl rfl rfl (fun H hs=> hpk▸hp k c2 H hs.base) ?_;refine U9 ?_;exact Tc.db (ih ⟨k+1,oM,by rw[allTo,g2,hpk];rfl⟩ (by simp only;omega))
  | false=>
   have h2:=allTo_false (p:=p) (k:=k+1) (by rw[allTo,hpk];simp) m oM;refine U19 ?_;refine .c rfl rfl rfl rfl (fun H hs=> hpk▸hp k c2 H hs.base) ?_;refine U7 ?_;refine .rt hK func138 results138 [_] ?_;exact fun H' hs=> ⟨hs.base,by rw[h2];rfl⟩
end
def chkF(i:Nat):Value:=.func (.func ([214,215,210,216][i]?.getD 0)) #[] #[]
def Glob(H:View):Prop:=∃f gt gz,H 0=some (f,.cells ⟨[chkF 0,chkF 1,chkF 2,chkF 3]⟩ gt gz)
def Lk.chk(k:Lk)(i:Nat):Bool:= [k.sends,k.reads,k.leans,k.moves][i]?.getD true
def Lk.ok(k:Lk):Bool:=allTo k.chk 4
section
variable(M:Md prog)(H:View)
theorem chk_c(k:Lk)(i:Nat)(hi:i<4)(H':View):FnT M (chkF i) [k.val] H' fun v H''=> H'.le H''/\v=.bool (k.chk i):=by
 match i,hi with
 | 0,_=> exact FnT.h (sends_c M H' k)
 | 1,_=> exact FnT.h (reads_c M H' k)
 | 2,_=> exact FnT.h (leans_c M H' k)
 | 3,_=> exact FnT.h (moves_c M H' k)
theorem checkLink_c(k:Lk)(hG:Glob H):CallT M 90 #[k.val] H (fun v H'=> H.le H'/\v=.int .i64 (if k.ok then 0 else 1)):=by
 obtain⟨f,gt,gz,hG⟩:=hG;refine .en func90 ntmps90 fun St c cs hK=> ?_;refine U2 ?_;refine .bo fun b1=> ?_;refine U3 ?_;refine Tc.dr [] [] mixed rfl ?_;refine V2 0 ?_;refine .q 2 rfl (OpV.sliceA (E:=en) (off':=0) rfl rfl rfl rfl rfl rfl rfl rfl dE dE dE (by rw[if_neg dE];rfl)) ?_;refine .z 3 rfl (OpV.tk fun H hs=> check_c M H _ 0 0 4 4 f _ gt gz chkF k.chk oM rfl (hs.base _ _ hG) (fun i hi=> by match i,hi with|0,_=> rfl|1,_=> rfl|2,_=> rfl|3,_=> rfl) (fun i hi H' _=> chk_c M k i hi H')) ?_;refine .nn 4 ?_;refine .dn ?_;refine .rt hK func90 results90 [_] ?_;exact okB
end
theorem gl_nodup {e:TypeId}{sz:Nat}(g:Gl e sz):(g.bl.map (·.1)).Nodup:=by
 unfold Gl.bl;split <;> simp
def letterV(code:Nat)(g:Gl 243 2):Value:=.agg ⟨[.int .i64 code,g.val]⟩
theorem glob_le {H H':View}(h:Glob H)(k:H.le H'):Glob H':=by
 obtain⟨f,gt,gz,h⟩:=h;exact⟨f,gt,gz,k _ _ h⟩
section
variable(M:Md prog)(H:View)
theorem checkLink_good(k:Lk)(hG:Glob H)(h:k.ok=true):CallT M 90 #[k.val] H (fun v H'=> H.le H'/\v=.int .i64 0):=
 CallT.mono (checkLink_c M H k hG) fun v H' ⟨h1,h2⟩=> ⟨h1,by rw[h2,h];rfl⟩
theorem isCode_yes(x:Int)(h:0<=x/\x<=31):CallT M 172 #[.int .i64 x] H (fun v H'=> H.le H'/\v=.bool true):=
 CallT.mono (isCode_c M H x) fun v H' ⟨h1,h2⟩=> ⟨h1,by rw[h2,decide_eq_true h]⟩
theorem open_yes(k:Lk)(code:Nat)(hG:Glob H)(hk:k.ok=true)(hc:code<32):CallT M 141 #[k.val,.int .i64 code] H (fun v H'=> H.le H'/\∃g:Gl 243 2,v=.tuple ⟨[k.val,letterV code g,.int .i64 0]⟩/\(g.n=(placesTo code 7).length/\g.l=edgeCells (placesTo code 7))/\∀y∈g.bl,H' y.1=some y.2/\H y.1=none):=by
 refine .en func141 ntmps141 fun St c cs hK=> ?_;refine U2 ?_;refine .bo fun b2=> ?_;refine .al fun b4=> ?_;refine .al fun b5=> ?_;refine U6 ?_;refine .cl (fun H hs=> checkLink_good M H k (glob_le hG hs.base) hk) ?_;refine U13 ?_;refine .cl (fun H hs=> isCode_yes M H code oM) ?_;refine U5 ?_;refine Tc.dr [4,5] [0,1] mixed rfl ?_;refine V2 0 ?_;refine .nw 2 ?_;refine .ea 3 rfl (Or.callNew (letterV code) Gl.bl (fun g=> g.n=(placesTo code 7).length/\g.l=edgeCells (placesTo code 7)) rfl rfl rfl rfl rfl dE gl_nodup (fun H hs=> .h (CallT.mono (letterOf_c M H code hc) (by rintro v H' ⟨h1,g,h2,h3,h4,h5⟩;exact⟨h1,g,h2,⟨h3,h4⟩,h5⟩))) (fun g hg=> ⟨S2.mk sL (.inr sL),?_⟩));refine .e 4 1 ?_;refine .e 5 0 ?_;refine .nw 6 ?_;refine .dn ?_;refine .rt hK func141 results141 [_,_,_] ?_;exact fun H' hs=> ⟨hs.base,g,rfl,hg,fun y hy=> ⟨hs.at_ y (List.mem_cons_of_mem _ (List.mem_cons_of_mem _ (List.mem_cons_of_mem _ hy))),hs.out y (List.mem_cons_of_mem _ (List.mem_cons_of_mem _ (List.mem_cons_of_mem _ hy)))⟩⟩
end
set_option maxHeartbeats 4000000
def upTo(a b:Int):List Int:=(List.range (b+1-a).toNat).map fun i=> a+(i:Nat)
theorem upTo_nil {a b:Int}(h:b<a):upTo a b= []:=by
 unfold upTo;rw[show(b+1-a).toNat=0 by omega];rfl
theorem upTo_cons {a b:Int}(h:a<=b):upTo a b=a::upTo (a+1) b:=by
 unfold upTo;rw[show(b+1-a).toNat=(b+1-(a+1)).toNat+1 by omega,List.range_succ_eq_map];simp only[List.map_cons,List.map_map,List.cons.injEq];refine⟨by simp,List.map_congr_left fun i _=> ?_⟩;simp only[Function.comp,Nat.succ_eq_add_one];omega
theorem mem_upTo {a b x:Int}:x∈upTo a b<->a<=x/\x<=b:=by
 unfold upTo;simp only[List.mem_map,List.mem_range];constructor
 ·rintro⟨i,h,rfl⟩;omega
 ·rintro⟨h1,h2⟩;exact⟨(x-a).toNat,oM,oM⟩
def Lk.stg(k:Lk)(code:Nat)(s r n f:Int):Stg:=⟨code,placesTo code 7,s,r,n,f,k.m0,k.m1⟩
def Lk.stgs₄(k:Lk)(code:Nat)(s r n:Int)(l:List Int):List Stg:=l.map fun f=> k.stg code s r n f
def Lk.stgs₃(k:Lk)(code:Nat)(s r:Int)(l:List Int):List Stg:=l.flatMap fun n=> k.stgs₄ code s r n (upTo k.m0 k.m1)
def Lk.stgs₂(k:Lk)(code:Nat)(s:Int)(l:List Int):List Stg:=l.flatMap fun r=> k.stgs₃ code s r (upTo k.l0 k.l1)
def Lk.stgs₁(k:Lk)(code:Nat)(l:List Int):List Stg:=l.flatMap fun s=> k.stgs₂ code s (upTo k.r0 k.r1)
def Lk.stgs(k:Lk)(code:Nat):List Stg:=k.stgs₁ code (upTo k.s0 k.s1)
theorem Lk.stgs₂_cons(k:Lk)(code:Nat)(s r:Int)(l:List Int)(X:List Stg):k.stgs₂ code s (r::l)++X=k.stgs₃ code s r (upTo k.l0 k.l1)++(k.stgs₂ code s l++X):=by simp[Lk.stgs₂]
theorem Lk.stgs₃_cons(k:Lk)(code:Nat)(s r n:Int)(l:List Int)(X:List Stg):k.stgs₃ code s r (n::l)++X=k.stgs₄ code s r n (upTo k.m0 k.m1)++(k.stgs₃ code s r l++X):=by simp[Lk.stgs₃]
theorem Lk.mem_stgs {k:Lk}{code:Nat}{x:Stg}:x∈k.stgs code<->∃s r n f,(k.s0<=s/\s<=k.s1)/\(k.r0<=r/\r<=k.r1)/\(k.l0<=n/\n<=k.l1)/\(k.m0<=f/\f<=k.m1)/\x=k.stg code s r n f:=by
 simp only[Lk.stgs,Lk.stgs₁,Lk.stgs₂,Lk.stgs₃,Lk.stgs₄,List.mem_flatMap,List.mem_map,mem_upTo];constructor
 ·rintro⟨s,hs,r,hr,n,hn,f,hf,rfl⟩;exact⟨s,r,n,f,hs,hr,hn,hf,rfl⟩
 ·rintro⟨s,r,n,f,hs,hr,hn,hf,rfl⟩;exact⟨s,hs,r,hr,n,hn,f,hf,rfl⟩
structure CapS(k:Lk)(code m eb ec b2 b5 b3:Nat)(H:View):Prop where
 l:H b2=some (true,.cells ⟨[.int .i64 k.s0,.int .i64 k.s1,.int .i64 k.r0,.int .i64 k.r1,.int .i64 k.l0,.int .i64 k.l1,.int .i64 k.m0,.int .i64 k.m1]⟩ 177 (0,0))
 mv:H b5=some (true,.cells ⟨[.int .i64 k.m0,.int .i64 k.m1]⟩ 240 (0,0))
 x:H b3=some (true,.cells ⟨[.int .i64 code,.slice (some ⟨eb,0,none⟩) m ec]⟩ 180 (0,0))
theorem CapS.le {k:Lk}{code m eb ec b2 b5 b3:Nat}(H H':View)(h:H.le H')(c:CapS k code m eb ec b2 b5 b3 H):CapS k code m eb ec b2 b5 b3 H':=⟨h _ _ c.l,h _ _ c.mv,h _ _ c.x⟩
def setF(b2 b5 b3:Nat):Value:=.func (.func 181) #[] #[.pointer (some ⟨b2,0,none⟩),.pointer (some ⟨b5,0,none⟩),.pointer (some ⟨b3,0,none⟩)]
section
variable(M:Md prog)(H:View)
theorem all_it(a b:Int)(ha: -1000000000<=a)(hb:b<=1000000000):IterT M (.func (.func 182) #[bandV a b] #[]) (upTo a b) (fun i (_:Unit)=> [.int .i64 i]) (fun _ _=> []) (fun _ _=> []) (fun _=> True) [] H:=fun l J D _ h0 hy H₀ hs₀=>
 FnT.of (first:= [bandV a b]) (captured:= []) ca182 rfl (CallT.mono (all_c M H₀ a b (.func (.yield l) #[] #[]) (fun i Hv=> ∃H₂,H₂.le Hv/\J (upTo i b) H₂) D ha hb ⟨H,hs₀.base,h0⟩ (fun i H' h1 h2 ⟨H₂,h3,h4⟩=> by
  rw[upTo_cons h2] at h4;refine FnT.mono (hy i (upTo (i+1) b) () H₂ H' (mem_upTo.2 ⟨h1,h2⟩) h4 ⟨by simp,by simp,by simp,h3⟩) ?_;rintro v H3 (⟨rfl,H4,h5,h6⟩|⟨rfl,h5⟩)
  ·exact .inl ⟨rfl,H4,h5.base,h6⟩
  ·exact .inr ⟨rfl,h5⟩)) (by
  rintro v H' ⟨H₁,h1,⟨i,h2,_,_,H₂,h3,h4⟩|h2⟩
  ·rw[upTo_nil h2] at h4;exact⟨H₂,View.le_trans h3 h1,.inl h4⟩
  ·exact⟨H₁,h1,.inr h2⟩))
theorem settings_c(k:Lk)(code m eb ec:Nat):CallT M 169 #[k.val,.agg ⟨[.int .i64 code,.slice (some ⟨eb,0,none⟩) m ec]⟩] H (fun v H'=> H.le H'/\∃b2 b5 b3,v=setF b2 b5 b3/\CapS k code m eb ec b2 b5 b3 H'):=by
 refine .en func169 ntmps169 fun St c cs hK=> ?_;refine U2 ?_;refine .bo fun b2=> ?_;refine .bo fun b3=> ?_;refine U8 ?_;refine .cl (fun H hs=> bandOf_c M H k.m0 k.m1) ?_;refine .al fun b5=> ?_;refine U7 ?_;refine .rt hK func169 results169 [_] ?_;exact fun H' hs=> ⟨hs.base,b2,b5,b3,rfl,hs.get (i:=2) rfl,hs.get (i:=0) rfl,hs.get (i:=1) rfl⟩
theorem settings_it(k:Lk)(code eb ec b2 b5 b3:Nat)(hk:∀z,z∈ [k.s0,k.r0,k.l0,k.m0,k.s1,k.r1,k.l1,k.m1]-> -1000000<=z/\z<=1000000)(hC:CapS k code (placesTo code 7).length eb ec b2 b5 b3 H):
  IterT M (setF b2 b5 b3) (k.stgs code) (fun s mb=> [s.val eb ec mb]) (fun _ mb=> [(mb,true,.map #[] 0)]) (fun _ _=> []) (CapS k code (placesTo code 7).length eb ec b2 b5 b3) [] H:=fun l J D hcap h0 hy H₀ hs₀=> by
 refine FnT.of (first:= []) (captured:= [_,_,_]) ca181 rfl ?_;simp only[List.mem_cons,List.not_mem_nil,or_false,forall_eq_or_imp,forall_eq] at hk;obtain⟨k1,k2,k3,k4,k5,k6,k7,k8⟩:=hk;obtain⟨c1,c2,c3⟩:=hC;refine CallT.enter (vs:= [.func (.yield l) #[] #[],.pointer (some ⟨b2,0,none⟩),.pointer (some ⟨b5,0,none⟩),.pointer (some ⟨b3,0,none⟩)]) func181 rfl ntmps181 (Nat.le_of_ble_eq_true rfl) (hs₀) fun St c cs hK=> ?_;refine U2 ?_;refine .bo fun b4=> ?_;refine U6 ?_;refine .cl (fun H hs=> bandOf_c M H k.s0 k.s1) ?_;refine U3 ?_;have itS:=fun H (_:(fun _:View=> True) H)=> all_it M H k.s0 k.s1 oM oM;have itR:=fun H (_:(fun _:View=> True) H)=> all_it M H k.r0 k.r1 oM oM;have itL:=fun H (_:(fun _:View=> True) H)=> all_it M H k.l0 k.l1 oM oM;have itM:=fun H (_:(fun _:View=> True) H)=> all_it M H k.m0 k.m1 oM oM;refine Tc.rangeLc (A:= []) (ts:= [14]) (fun rest H₁=> J (k.stgs₁ code rest) H₁) (fun j H₁=> j=.ret/\D H₁) rfl rfl rfl rfl itS (fun _ _ _ h=> h) (fun _ _ _=> trivial) rfl (fun _ _=> rfl) h0 ?_ ?_ ?_
 ·rintro r s rest1 e l1 tmps1 asg1 bdy1 H₁ _ hs1 ⟨rfl,j1⟩ Q1 St1 cc1 cs1 hK1 q1 q1';obtain⟨c1,c2,c3⟩:=hcap _ _ j1;refine U ?_;refine .al fun b6=> ?_;refine U2 ?_;refine Tc.beginRound (i:=1) rfl rfl rfl ?_;refine U6 ?_;refine .cl (fun H hs=> bandOf_c M H k.r0 k.r1) ?_;refine U3 ?_;refine Tc.rangeLcIn (A:= []) (ts:= [20]) (i:=1) (fun rest H₁=> J (k.stgs₂ code s rest++k.stgs₁ code rest1) H₁) (fun j H₁=> j=.ret/\D H₁) rfl rfl rfl rfl rfl itR (fun _ _ _ h=> h) (fun _ _ _=> trivial) rfl (fun _ _=> rfl) j1 ?_ ?_ ?_
  ·rintro r' rest2 e l2 tmps2 asg2 bdy2 H₁ _ hs2 ⟨rfl,j2⟩ Q2 St2 cc2 cs2 hK2 q2 q2';obtain⟨c1,c2,c3⟩:=hcap _ _ j2;refine U ?_;refine .al fun b7=> ?_;refine U2 ?_;refine Tc.beginRound (i:=1) rfl rfl rfl ?_;refine U7 ?_;refine .cl (fun H hs=> bandOf_c M H k.l0 k.l1) ?_;refine U3 ?_;refine Tc.rangeLcIn (A:= []) (ts:= [27]) (i:=1) (fun rest H₁=> J (k.stgs₃ code s r' rest++(k.stgs₂ code s rest2++k.stgs₁ code rest1)) H₁) (fun j H₁=> j=.ret/\D H₁) rfl rfl rfl rfl rfl itL (fun _ _ _ h=> h) (fun _ _ _=> trivial) rfl (fun _ _=> rfl) (k.stgs₂_cons ..▸j2) ?_ ?_ ?_
   ·rintro n' rest3 e l3 tmps3 asg3 bdy3 H₁ _ hs3 ⟨rfl,j3⟩ Q3 St3 cc3 cs3 hK3 q3 q3';obtain⟨c1,c2,c3⟩:=hcap _ _ j3;refine U ?_;refine .al fun b8=> ?_;refine U2 ?_;refine Tc.beginRound (i:=1) rfl rfl rfl ?_;refine U7 ?_;refine Tc.rangeLcIn (A:= []) (ts:= [30]) (i:=1) (fun rest H₁=> J (k.stgs₄ code s r' n' rest++(k.stgs₃ code s r' rest3++(k.stgs₂ code s rest2++k.stgs₁ code rest1))) H₁) (fun j H₁=> j=.ret/\D H₁) rfl rfl rfl rfl rfl itM (fun _ _ _ h=> h) (fun _ _ _=> trivial) rfl (fun _ _=> rfl) (k.stgs₃_cons ..▸j3) ?_ ?_ ?_
    ·rintro f' rest4 e l4 tmps4 asg4 bdy4 H₁ _ hs4 ⟨rfl,j4⟩ Q4 St4 cc4 cs4 hK4 q4 q4';obtain⟨c1,c2,c3⟩:=hcap _ _ j4;refine U3 ?_;refine Tc.beginRound (i:=0) rfl rfl rfl ?_;refine U3 ?_;refine .x (.ld 8) ?_;refine U6 ?_;refine .e (Or.makeMap rfl rfl dE (fun mb=> ?_));refine U ?_;refine To.pushF 0 rfl (fun hmb=> ?_);have hy':=hy (k.stg code s r' n' f') (k.stgs₄ code s r' n' rest4++(k.stgs₃ code s r' rest3++(k.stgs₂ code s rest2++k.stgs₁ code rest1))) mb H₁ _ (Lk.mem_stgs.2 ⟨s,r',n',f',mem_upTo.1 hs1,mem_upTo.1 hs2,mem_upTo.1 hs3,mem_upTo.1 hs4,rfl⟩) j4 ((SymSt.nil H₁).cons _ hmb);refine To.callF rfl rfl rfl rfl rfl rfl dE (hy') (fun v H3 hv=> ?_);rcases hv with ⟨rfl,H4,h5,h6⟩|⟨rfl,h5⟩
     ·refine To.lower h5.base ?_;refine U5 ?_;refine Tc.leaveRound hK4 (i:=0) rfl (.inl ⟨rfl,rfl⟩) (fun H' hs=> q4 H' _ _ hs ⟨rfl,h6⟩)
     ·refine U3 ?_;refine Tc.leaveRound hK4 (i:=0) rfl (.inr (.inl ⟨_,rfl,rfl⟩)) (fun H' hs=> q4' H' _ _ _ hs ⟨rfl,rfl,h5⟩)
    ·rintro H₁ j4;refine U2 ?_;refine Tc.leaveRound hK3 (i:=1) rfl (.inl ⟨rfl,rfl⟩) (fun H' hs=> q3 H' _ _ (hs.less sL) ⟨rfl,j4⟩)
    ·rintro j H₁ ⟨rfl,h5⟩;refine Tc.leaveRound hK3 (i:=1) rfl (.inr (.inl ⟨_,rfl,rfl⟩)) (fun H' hs=> q3' H' _ _ _ (hs.less sL) ⟨rfl,rfl,h5⟩)
   ·rintro H₁ j3;refine U2 ?_;refine Tc.leaveRound hK2 (i:=1) rfl (.inl ⟨rfl,rfl⟩) (fun H' hs=> q2 H' _ _ (hs.less sL) ⟨rfl,j3⟩)
   ·rintro j H₁ ⟨rfl,h5⟩;refine Tc.leaveRound hK2 (i:=1) rfl (.inr (.inl ⟨_,rfl,rfl⟩)) (fun H' hs=> q2' H' _ _ _ (hs.less sL) ⟨rfl,rfl,h5⟩)
  ·rintro H₁ j2;refine U2 ?_;refine Tc.leaveRound hK1 (i:=1) rfl (.inl ⟨rfl,rfl⟩) (fun H' hs=> q1 H' _ _ (hs.less sL) ⟨rfl,j2⟩)
  ·rintro j H₁ ⟨rfl,h5⟩;refine Tc.leaveRound hK1 (i:=1) rfl (.inr (.inl ⟨_,rfl,rfl⟩)) (fun H' hs=> q1' H' _ _ _ (hs.less sL) ⟨rfl,rfl,h5⟩)
 ·rintro r H₁ j1;refine U ?_;refine Tc.overD (E:=en) (i:=0) hK func181 results181 (vs:= []) rfl trivial ?_;exact fun H' hs=> ⟨H₁,hs.base,.inl j1⟩
 ·rintro r j H₁ ⟨rfl,h5⟩;refine Tc.retD (E:=en) (i:=0) hK func181 results181 (vs:= []) rfl trivial ?_;exact fun H' hs=> ⟨H₁,hs.base,.inr h5⟩
end
def Stg.leaves(s:Stg):Nat->Nat->Nat->List Int->List (Nat×List Int)
 | 0,_,v,mv=> [(v,mv)]
 | d+1,i,v,mv=> (s.opts (s.ps[i]?.getD 0) i).flatMap fun o=> s.leaves d (i+1) (turnedN v o.1.toNat) (mv++[o.2])
def Stg.all(s:Stg):List (Nat×List Int):=s.leaves s.ps.length 0 127 []
theorem optGo_in {read mt after:Int}:∀ {f:Nat} {n:Int} {o:Int×Int},o∈optGo read mt after f n->0<=o.1/\o.1<=7
 | 0,_,_,h=> by cases h
 | f + 1,n,o,h=> by
  unfold optGo at h;split at h
  ·rcases List.mem_cons.1 h with rfl|h
   ·have:=missedF_in read (after+n);exact⟨this.1,this.2.1⟩
   ·split at h
    ·cases h
    ·exact optGo_in h
  ·cases h
theorem Stg.opts_in {s:Stg}{p i:Nat}{o:Int×Int}(h:o∈s.opts p i):0<=o.1/\o.1<=7:=by
 unfold Stg.opts at h;split at h
 ·simp at h;subst h;exact⟨by simp,by simp⟩
 ·exact optGo_in h
theorem optGo_len {read mt after:Int}:∀(f:Nat) (n:Int),(optGo read mt after f n).length<=f
 | 0,_=> by simp[optGo]
 | f + 1,n=> by
  unfold optGo;split
  ·have:=optGo_len (read:=read) (mt:=mt) (after:=after) f ((2*missedF read (after+n)+1)*read+1-after);split <;> simp <;> omega
  ·simp
theorem Stg.opts_len {s:Stg}(hok:s.Ok)(p i:Nat):(s.opts p i).length<=3000:=by
 unfold Stg.opts;split
 ·simp
 ·have h1:=optGo_len (read:=s.read) (mt:=s.mt) (after:=s.after p i) (s.mt+1-s.mf).toNat s.mf;have h2:=hok.mf;have h3:=hok.mt;omega
theorem turned_lt:∀v:Nat,v<128->∀f:Nat,f<8->turnedN v f<128:=by decide +kernel
def padC(n:Nat)(mv:List Int):List Value:=intsL mv++List.replicate (7-n) (.int .i64 0)
theorem optCells_get {l:List (Int×Int)}{j:Nat}{o:Int×Int}(h:l[j]? =some o):((optCells l).drop (j*2)).take 2= [.int .i64 o.1,.int .i64 o.2]:=by
 induction l generalizing j with
 | nil=> simp at h
 | cons x l ih=>
  rw[optCells_cons];cases j with
  | zero=> simp at h;subst h;simp
  | succ j=>
   rw[show(j+1)*2=j*2+2 by omega,List.drop_append];simp only[List.length_cons,List.length_nil];rw[show j*2+2-(0+1+1)=j*2 by omega,List.drop_eq_nil_of_le (by simp)];exact ih (by simpa using h)
theorem optAt {H:View}{s:Stg}{p i j:Nat}{v:Value}{o:Int×Int}(h:SrcAt H 2 v (s.opts p i).length (optCells (s.opts p i)))(hj:(s.opts p i)[j]? =some o):
  ∃b off c f cs e fz,v=.slice (some ⟨b,off,none⟩) (s.opts p i).length c/\H b=some (f,.cells ⟨cs⟩ e fz)/\ldL true 2 cs (off+j*2)=some (.agg ⟨[.int .i64 o.1,.int .i64 o.2]⟩):=by
 have hlt:=(List.getElem?_eq_some_iff.1 hj).1;obtain⟨_,h2,⟨_,c,_,h3⟩|⟨b,off,c,f,cs,e,fz,h3,h4,h5,h6⟩⟩:=h
 ·have:=optCells_len (s.opts p i);rw[h3] at this;simp at this
  omega
 ·refine⟨b,off,c,f,cs,e,fz,h3,h4,?_⟩;have hl:=optCells_len (s.opts p i);have hle:off+j*2+2<=cs.length:=by rw[hl] at h5;omega
  have:Nat.ble (off+j*2+2) cs.length=true:=Nat.ble_eq_true_of_le hle;unfold ldL;simp only[this]
  congr 3
  have e1:=optCells_get hj;rw[<-h6,hl,List.drop_take,List.drop_drop] at e1;rw[<-e1,List.take_take]
  congr 1
  omega
theorem optStep {s:Stg}{p i mb:Nat}{Hj Hm H₁:View}{v:Value}{x:Bool×Obj}(hd:Dj Hj (Hm.put mb x))(h:OptQ s p i mb Hm (Hj.plus (Hm.put mb x)) v H₁):
  ∃Hm' es' cl',(Hj.plus (Hm'.put mb (true,.map es' cl'))).le H₁/\Dj Hj (Hm'.put mb (true,.map es' cl'))/\Hm.le Hm'/\Hm' mb=none/\SrcAt Hm' 2 v (s.opts p i).length (optCells (s.opts p i))/\Memo Hm' s es'.toList:=by
 obtain⟨h1,Hm',es',cl',h2,h3,h4,h5,h6,h7,h8⟩:=h;have hjm:Hj mb=none:=hd mb x (View.put_same ..);refine⟨Hm',es',cl',fun c y hc=> ?_,fun c y hc=> ?_,h4,h5,h6,h8⟩
 ·unfold View.plus at hc;split at hc
  ·rename_i z hz
   cases hc
   refine h1 c _ ?_ (plus_left hz);rintro rfl;rw[hjm] at hz;cases hz
  ·by_cases e:c=mb
   ·subst e;rw[View.put_same] at hc;cases hc
    exact h7
   ·rw[View.put_other _ _ e] at hc;exact h2 c y hc
 ·by_cases e:c=mb
  ·subst e;exact hjm
  ·rw[View.put_other _ _ e] at hc;rcases h3 c y hc with h9|h9
   ·exact hd c y (by rw[View.put_other _ _ e];exact h9)
   ·exact(plus_none h9).1
structure NSt where
 j:Nat
 Hj:View
 Hm:View
 es:Array MapEntry
 cl:Nat
 q:Nat
 z:List Value
section
variable(M:Md prog)(H:View)
def nxV(b2 b3 b4 b5:Nat):Value:=.func (.func 183) #[] #[.pointer (some ⟨b2,0,none⟩),.pointer (some ⟨b3,0,none⟩),.pointer (some ⟨b4,0,none⟩),.pointer (some ⟨b5,0,none⟩)]
def nextL(s:Stg)(l eb ec mb bm b2 b3 b4 b5 q:Nat)(c:List Value):Bl:=
 [(bm,true,.cells ⟨c⟩ 3 (0,0)),(b5,true,.cells ⟨[nxV b2 b3 b4 b5]⟩ 285 (0,0)),(b4,true,.cells ⟨[.slice (some ⟨bm,0,none⟩) q 7]⟩ 44 (0,0)),(b3,true,.cells ⟨[.func (.yield l) #[] #[]]⟩ 284 (0,0)),(b2,true,.cells ⟨(s.val eb ec mb).cells.toList⟩ 268 (0,0))]
theorem next_c(s:Stg)(hok:s.Ok)(l eb ec mb bm b2 b3 b4 b5:Nat)(J:List (Nat×List Int)->View->Prop)(D:View->Prop)(hcap:∀rest H',J rest H'->EdgesAt H' s eb)
  (hy:∀(x:Nat×List Int) rest (e:Nat) H' H'',x∈s.all->J (x::rest) H'->SymSt H' [(e,true,.cells ⟨padC s.ps.length x.2⟩ 3 (0,0))] H''->FnT M (.func (.yield l) #[] #[]) [.int .u8 x.1,.slice (some ⟨e,0,none⟩) s.ps.length 7] H'' fun v H3=> (v=.bool true/\∃H₂,SymSt H₂ [(e,true,.cells ⟨padC s.ps.length x.2⟩ 3 (0,0))] H3/\J rest H₂)\/(v=.bool false/\D H3)):
  ∀ (d i v:Nat) (mv:List Int) (rest:List (Nat×List Int)),i+d=s.ps.length->mv.length=i->v<128->(∀y∈s.leaves d i v mv,y∈s.all)->∀(Hj Hm:View) (es:Array MapEntry) (cl:Nat) (z:List Value) (H:View),
   SymSt (Hj.plus (Hm.put mb (true,.map es cl))) (nextL s l eb ec mb bm b2 b3 b4 b5 i z) H->Dj Hj (Hm.put mb (true,.map es cl))->Hm mb=none->Memo Hm s es.toList->z.length=7->z.take i=intsL mv->z.drop s.ps.length=List.replicate (7-s.ps.length) (.int .i64 0)->J (s.leaves d i v mv++rest) Hj-> 
   CallT M 183 #[.int .i64 i,.int .u8 v,.pointer (some ⟨b2,0,none⟩),.pointer (some ⟨b3,0,none⟩),.pointer (some ⟨b4,0,none⟩),.pointer (some ⟨b5,0,none⟩)] H fun r H''=>
    (r=.bool true/\∃Hj' Hm' es' cl' q' c',q'<=7/\Hm.le Hm'/\SymSt (Hj'.plus (Hm'.put mb (true,.map es' cl'))) (nextL s l eb ec mb bm b2 b3 b4 b5 q' c') H''/\Dj Hj' (Hm'.put mb (true,.map es' cl'))/\Hm' mb=none/\Memo Hm' s es'.toList/\c'.length=7/\c'.take i=intsL mv/\c'.drop s.ps.length=List.replicate (7-s.ps.length) (.int .i64 0)/\J rest Hj')\/ 
    (r=.bool false/\∃H₁,H₁.le H''/\D H₁):=by
 intro d;induction d with
 | zero=>
  intro i v mv rest hid hmv hv hsub Hj Hm es cl z H hs hdj hmb hm hc7 hci hcn hJ;have hin:i=s.ps.length:=by omega
  have h6:=hok.ps6;have hcp:z=padC s.ps.length mv:=by
   rw[<-List.take_append_drop s.ps.length z,hcn,<-hin,hci];rfl
  refine CallT.enter (vs:= [.int .i64 i,.int .u8 v,.pointer (some ⟨b2,0,none⟩),.pointer (some ⟨b3,0,none⟩),.pointer (some ⟨b4,0,none⟩),.pointer (some ⟨b5,0,none⟩)]) func183 rfl ntmps183 (Nat.le_of_ble_eq_true rfl) (hs) fun St c cs hK=> ?_;refine U20 ?_;refine To.pushF 0 rfl (fun hfr=> ?_);obtain⟨hf1,hf2⟩:=plus_none hfr;rw[<-plus_put];have hd2:Dj (Hj.put bm (true,.cells ⟨z⟩ 3 (0,0))) (Hm.put mb (true,.map es cl)):=hdj.put hf2;have hs2:SymSt Hj [(bm,true,.cells ⟨padC s.ps.length mv⟩ 3 (0,0))] (Hj.put bm (true,.cells ⟨z⟩ 3 (0,0))):=by
   rw[hcp];exact(SymSt.nil Hj).cons _ hf1
  have hy':=(hy (v,mv) rest bm Hj _ (hsub _ (by simp[Stg.leaves])) hJ hs2).frame hd2;rw[<-hin] at hy';refine To.callF rfl rfl rfl rfl rfl rfl dE (hy') (fun r H3 hv=> ?_);obtain⟨H4,rfl,hd4,⟨rfl,H2,hs4,hJ2⟩|⟨rfl,hD⟩⟩:=hv
  ·have hle:(H2.put bm (true,.cells ⟨z⟩ 3 (0,0))).le H4:=fun b x hb=> by
    by_cases e:b=bm
    ·subst e;rw[View.put_same] at hb;cases hb
     rw[hcp,<-hin];exact hs4.get (i:=0) rfl
    ·rw[View.put_other _ _ e] at hb;exact hs4.base b x hb
   have hbm:H2 bm=none:=hs4.fresh (i:=0) rfl;refine To.lower (plus_le hle hd4) ?_;rw[plus_put];refine To.pop (by rw[plus_right hbm];exact hf2) ?_;have hd5:Dj H2 (Hm.put mb (true,.map es cl)):=fun b x hb=> by
    cases h:H2 b with
    | none=> rfl
    | some y=>
     have h1:=hd4 b x hb;rw[hs4.base b y h] at h1;cases h1
   refine U2 ?_;refine .rt hK func183 results183 [_] ?_;exact fun H' hs'=> .inl ⟨rfl,H2,Hm,es,cl,i,z,oM,View.le_refl _,hs',hd5,hmb,hm,hc7,hci,hcn,hJ2⟩
  ·refine U2 ?_;refine .rt hK func183 results183 [_] ?_;exact fun H' hs'=> .inr ⟨rfl,H4,fun b x hb=> hs'.base b x (plus_left hb),hD⟩
 | succ d ih=>
  intro i v mv rest hid hmv hv hsub Hj Hm es cl z H hs hdj hmb hm hc7 hci hcn hJ;have hin:i<s.ps.length:=by omega
  have h6:=hok.ps6;obtain⟨ef,ees,eet,eez,hE1,hE2⟩:=hcap _ _ hJ;have hjm:Hj mb=none:=hdj mb _ (View.put_same ..);have hEb:(Hj.plus (Hm.put mb (true,.map es cl))) eb=some (ef,.cells ⟨ees⟩ eet eez):=plus_left hE1;have hMb:(Hj.plus (Hm.put mb (true,.map es cl))) mb=some (true,.map es cl):=by rw[plus_right hjm,View.put_same]
  have hle0:Hm.le (Hj.plus (Hm.put mb (true,.map es cl))):=fun b x hb=> by
   have hne:b≠mb:=by rintro rfl;rw[hmb] at hb;cases hb
   have h1:(Hm.put mb (true,.map es cl)) b=some x:=by rw[View.put_other _ _ hne];exact hb
   rw[plus_right (hdj b x h1)];exact h1
  have f1:ldL true 2 ees (0+(i:Int).toNat*2)=some (edgeV (s.ps[i]?.getD 0) i):=by rw[show(i:Int).toNat=i by simp];exact hE2 i hin
  refine CallT.enter (vs:= [.int .i64 i,.int .u8 v,.pointer (some ⟨b2,0,none⟩),.pointer (some ⟨b3,0,none⟩),.pointer (some ⟨b4,0,none⟩),.pointer (some ⟨b5,0,none⟩)]) func183 rfl ntmps183 (Nat.le_of_ble_eq_true rfl) (hs) fun St c cs hK=> ?_;refine U18 ?_;refine Tc.drC [] [7] [] mixed rfl ?_;refine .oo 0 ?_;refine .oo 1 ?_;refine .oo 2 ?_;refine .oo 3 ?_;refine .oo 4 ?_;refine .oo 5 ?_;refine .oo 6 ?_;refine Ta.tkP 9 kR rfl rfl rfl rfl dE rfl rfl (OpV.take .mv) ?_;refine Ta.callF 7 kR rfl kR rfl rfl rfl rfl rfl rfl dE (FnT.h (options_c M _ s hok eb ec mb es cl (s.ps[i]?.getD 0) i ⟨ef,ees,eet,eez,hEb,hE2⟩ hMb Hm hm hle0 hmb hin rfl)) (fun w H1 hw=> ?_);obtain⟨Hm1,es1,cl1,hle1,hd1,hlm1,hmb1,hsrc,hm1⟩:=optStep hdj hw;refine Ta.lower hle1 ?_;have hsrc1:=hsrc;obtain⟨⟨oa,oc,hw'⟩, -, -⟩:=hsrc;subst hw';refine .ea 8 rfl (Or.ofV .ln rfl dE ⟨S3.off kR,?_⟩);refine .dn ?_;refine U ?_;have hJ1:J (((s.opts (s.ps[i]?.getD 0) i).drop 0).flatMap (fun o=> s.leaves d (i+1) (turnedN v o.1.toNat) (mv++[o.2]))++rest) Hj:=hJ;refine Tc.db (Tc.loopB (σ:= { x:NSt//x.j<=(s.opts (s.ps[i]?.getD 0) i).length/\x.q<=7/\Dj x.Hj (x.Hm.put mb (true,.map x.es x.cl))/\Hm1.le x.Hm/\x.Hm mb=none/\Memo x.Hm s x.es.toList/\x.z.length=7/\x.z.take i=intsL mv/\x.z.drop s.ps.length=List.replicate (7-s.ps.length) (.int .i64 0)/\
    J (((s.opts (s.ps[i]?.getD 0) i).drop x.j).flatMap (fun o=> s.leaves d (i+1) (turnedN v o.1.toNat) (mv++[o.2]))++rest) x.Hj })
   (fun x=> (x.1.Hj.plus (x.1.Hm.put mb (true,.map x.1.es x.1.cl)),[(30,.int .i64 (x.1.j:Nat)),(29,.int .i64 ((s.opts (s.ps[i]?.getD 0) i).length:Nat)),(28,.slice oa (s.opts (s.ps[i]?.getD 0) i).length oc),(0,.int .i64 (i:Nat)),(1,.int .u8 (v:Nat)),(2,.pointer (some ⟨b2,0,none⟩)),(3,.pointer (some ⟨b3,0,none⟩)),(4,.pointer (some ⟨b4,0,none⟩)),(5,.pointer (some ⟨b5,0,none⟩))],
    nextL s l eb ec mb bm b2 b3 b4 b5 x.1.q x.1.z)) (fun x=> (s.opts (s.ps[i]?.getD 0) i).length-x.1.j) ?_ ⟨⟨0,Hj,Hm1,es1,cl1,i,z⟩,Nat.zero_le _,(by show i<=7;omega),hd1,View.le_refl _,hmb1,hm1,hc7,hci,hcn,hJ1⟩)
  rintro⟨⟨j,Hj,Hm',es,cl,q,z⟩,g1,g2,g3,g4,g5,g6,g7,g8,g9,g10⟩ lh;simp only at g1 g2 g3 g4 g5 g6 g7 g8 g9 g10;show Tc M St _ _ (Hj.plus (Hm'.put mb (true,.map es cl))) _ [(30,.int .i64 (j:Nat)),(29,.int .i64 ((s.opts (s.ps[i]?.getD 0) i).length:Nat)),(28,.slice oa (s.opts (s.ps[i]?.getD 0) i).length oc),(0,.int .i64 (i:Nat)),(1,.int .u8 (v:Nat)),(2,.pointer (some ⟨b2,0,none⟩)),(3,.pointer (some ⟨b3,0,none⟩)),(4,.pointer (some ⟨b4,0,none⟩)),(5,.pointer (some ⟨b5,0,none⟩))]
    (nextL s l eb ec mb bm b2 b3 b4 b5 q z) _ _
  have hol:=Stg.opts_len hok (s.ps[i]?.getD 0) i;by_cases cj:j=(s.opts (s.ps[i]?.getD 0) i).length
  ·have hJ2:J rest Hj:=by
    rw[cj,List.drop_length] at g10;exact g10
   refine U11 ?_;refine .rt hK func183 results183 [_] ?_;exact fun H' hs'=> .inl ⟨rfl,Hj,Hm',es,cl,q,z,g2,View.le_trans hlm1 g4,hs',g3,g5,g6,g7,g8,g9,hJ2⟩
  ·have cj2:j<(s.opts (s.ps[i]?.getD 0) i).length:=by omega
   obtain⟨⟨o1,o2⟩,hoj⟩:∃o,(s.opts (s.ps[i]?.getD 0) i)[j]? =some o:=⟨_,List.getElem?_eq_getElem cj2⟩
   have hoin:=Stg.opts_in (List.mem_of_getElem? hoj);simp only at hoin;obtain⟨on,rfl⟩:=Int.eq_ofNat_of_zero_le hoin.1;have hon:on<8:=by
    have h7:(on:Int)<=7:=hoin.2;omega
   obtain⟨ob,off,oc',of,ocs,oe,ofz,ho1,ho2,ho3⟩:=optAt (hsrc1.mono g4) hoj;cases ho1
   have hobm:ob≠mb:=by rintro rfl;rw[g5] at ho2;cases ho2
   have hob1:(Hm'.put mb (true,.map es cl)) ob=some (of,.cells ⟨ocs⟩ oe ofz):=by rw[View.put_other _ _ hobm];exact ho2
   have hob:(Hj.plus (Hm'.put mb (true,.map es cl))) ob=some (of,.cells ⟨ocs⟩ oe ofz):=by rw[plus_right (g3 _ _ hob1)];exact hob1
   have f2:ldL true 2 ocs (off+(j:Int).toNat*2)=some (.agg ⟨[.int .i64 (on:Nat),.int .i64 o2]⟩):=by rw[show(j:Int).toNat=j by simp];exact ho3
   have f3:stL z (i*1) [.int .i64 o2]=z.set i (.int .i64 o2):=by rw[Nat.mul_one];exact stL_one _ _ _ oM
   have hJ3:J (s.leaves d (i+1) (turnedN v on) (mv++[o2])++(((s.opts (s.ps[i]?.getD 0) i).drop (j+1)).flatMap (fun o=> s.leaves d (i+1) (turnedN v o.1.toNat) (mv++[o.2]))++rest)) Hj:=by
    rw[List.drop_eq_getElem_cons cj2,List.flatMap_cons,List.append_assoc] at g10;have e1:(s.opts (s.ps[i]?.getD 0) i)[j]=((on:Int),o2):=Option.some.inj ((List.getElem?_eq_getElem cj2).symm.trans hoj);rw[e1] at g10;exact g10
   have hz1:(z.set i (.int .i64 o2)).length=7:=by rw[List.length_set];exact g7
   have hz2:(z.set i (.int .i64 o2)).take (i+1)=intsL (mv++[o2]):=by
    rw[List.take_succ_eq_append_getElem oM,List.take_set_of_le (Nat.le_refl i),g8];simp[intsL]
   have hz3:(z.set i (.int .i64 o2)).drop s.ps.length=List.replicate (7-s.ps.length) (.int .i64 0):=by rw[List.drop_set_of_lt oM];exact g9
   refine U13 ?_;refine .al fun b10=> ?_;refine U3 ?_;refine Tc.drC [6,7] [] [1,3] mixed rfl ?_;refine .oo 0 ?_;refine .oo 1 ?_;refine Ta.tkC 2 kR rfl rfl dE rfl rfl (OpV.take (OpV.sliceTo (E:=en) rfl rfl rfl rfl rfl rfl oM oM)) ?_;refine .oo 3 ?_;refine .oo 4 ?_;refine .ea 5 rfl (.bs (zz:=fun bs=> ⟨S3.mk sL (.inr sL),?_⟩));refine .ea 6 rfl (Or.appendIn (E:=en) 2 rfl rfl rfl rfl rfl rfl rfl rfl rfl rfl rfl rfl rfl (fun H hs=> SrcAt.of (hs.get (i:=0) rfl) (Nat.le_of_ble_eq_true rfl)) rfl oM (by show i*1+1<=z.length;omega) (List.cons_ne_nil _ _) rfl dE f3 ⟨S3.mk sL (.inl kR),?_⟩);refine .ea 7 rfl (.st 4 (zz:=⟨S3.mk sL (.inl kR),?_⟩));refine .dn ?_;refine U ?_;refine Tc.drC [] [7] [] mixed rfl ?_;refine .oo 0 ?_;refine .oo 1 ?_;refine .oo 2 ?_;refine .oo 3 ?_;refine .oo 4 ?_;refine .oo 5 ?_;refine Ta.tkC 6 kR rfl rfl dE rfl rfl (OpV.tk fun H hs=> turned_c M H v on hv hon) ?_;refine Ta.lift (L₂:= [(bs,_,_),(b10,_,_)]) rfl (fun Hx hx=> ?_);refine Ta.callF 7 kR rfl kR rfl rfl rfl rfl rfl rfl dE (FnT.of (first:= []) (captured:= [_,_,_,_]) ca183 rfl (ih (i+1) (turnedN v on) (mv++[o2]) _ oM (by simp[hmv]) (turned_lt v hv on hon) (fun y hy=> hsub y (by
    unfold Stg.leaves;exact List.mem_flatMap.2 ⟨_,List.mem_of_getElem? hoj,hy⟩)) Hj Hm' es cl _ Hx hx g3 g5 g6 hz1 hz2 hz3 hJ3)) (fun r H3 hr=> ?_)
   rcases hr with ⟨rfl,Hj',Hm2,es',cl',q',z',g2',g4',hs',g3',g5',g6',g7',g8',g9',hJ4⟩|⟨rfl,H1,hle,hD⟩
   ·refine Ta.expand hs' ?_;refine .ea 8 rfl (Or.ofV .nt rfl dE ⟨S3.off kR,?_⟩);refine .dn ?_;refine U7 ?_;have hz4:z'.take i=intsL mv:=by
     have h:=congrArg (List.take i) g8';rw[List.take_take,Nat.min_eq_left oM] at h;rw[h];unfold intsL;rw[<-List.map_take,List.take_left' hmv]
    have lh':=lh ⟨⟨j+1,Hj',Hm2,es',cl',q',z'⟩,by show j+1<=_;omega,g2',g3',View.le_trans g4 g4',g5',g6',g7',hz4,g9',hJ4⟩ (by show _-(j+1)<_-j;omega);exact Tc.db lh'
   ·refine Ta.lower hle ?_;refine .ea 8 rfl (Or.ofV .nt rfl dE ⟨S3.off kR,?_⟩);refine .dn ?_;refine U5 ?_;refine .rt hK func183 results183 [_] ?_;exact fun H' hs'=> .inr ⟨rfl,H1,hs'.base,hD⟩
theorem views_it(s:Stg)(hok:s.Ok)(eb ec mb:Nat):IterT M (.func (.func 170) #[s.val eb ec mb] #[]) s.all (fun x vb=> [.int .u8 x.1,.slice (some ⟨vb,0,none⟩) s.ps.length 7]) (fun x vb=> [(vb,true,.cells ⟨padC s.ps.length x.2⟩ 3 (0,0))]) (fun x vb=> [(vb,true,.cells ⟨padC s.ps.length x.2⟩ 3 (0,0))])
  (fun H=> EdgesAt H s eb) [(mb,true,.map #[] 0)] H:=fun l J D hcap h0 hy H' hs'=> by
 refine FnT.of (first:= [_]) (captured:= []) ca170 rfl ?_;refine CallT.enter (vs:= [s.val eb ec mb,.func (.yield l) #[] #[]]) func170 rfl ntmps170 (Nat.le_of_ble_eq_true rfl) (hs') fun St c cs hK=> ?_;refine U2 ?_;refine .bo fun b2=> ?_;refine .bo fun b3=> ?_;refine U3 ?_;refine .e (Or.makeSlice (E:=en) (len:=0) (cap:=7) rfl rfl rfl rfl rfl rfl dE dE rfl rfl dE (fun bm=> ?_));refine .al fun b4=> ?_;refine U4 ?_;refine .al fun b5=> ?_;refine U8 ?_;refine To.lift (L₂:= []) rfl (fun Hx hx=> ?_);have hp:SymSt H (nextL s l eb ec mb bm b2 b3 b4 b5 0 (List.replicate 7 (.int .i64 0))++[(mb,true,.map #[] 0)]) Hx:=hx.perm (by
  unfold nextL;refine(List.Perm.trans ?_ (List.Perm.cons _ (List.Perm.swap _ _ _)));exact List.Perm.swap _ _ _)
 obtain⟨Hy,hy1,hy2⟩:=hp.unappend;have hmH:H mb=none:=hy2.fresh (i:=0) rfl;have hle:(H.plus (View.put (fun _=> none) mb (true,.map #[] 0))).le Hy:=fun b x hb=> by
  unfold View.plus at hb;split at hb
  ·rename_i y hyb
   cases hb
   exact hy2.base _ _ hyb
  ·by_cases e:b=mb
   ·subst e;rw[View.put_same] at hb;cases hb
    exact hy2.get (i:=0) rfl
   ·rw[View.put_other _ _ e] at hb;cases hb
 have hdj:Dj H (View.put (fun _=> none) mb (true,.map #[] 0)):=fun b x hb=> by
  by_cases e:b=mb
  ·subst e;exact hmH
  ·rw[View.put_other _ _ e] at hb;cases hb
 have hn:=next_c M s hok l eb ec mb bm b2 b3 b4 b5 J D hcap hy s.ps.length 0 127 [] [] oM rfl dE (fun y h=> h) H (fun _=> none) #[] 0 (List.replicate 7 (.int .i64 0)) Hx (hy1.lower hle) hdj rfl (fun e he=> by cases he) (by simp) rfl (by rw[List.drop_replicate]) (by rw[List.append_nil];exact h0);refine To.callF rfl rfl rfl rfl rfl rfl dE (FnT.of (first:= []) (captured:= [_,_,_,_]) ca183 rfl hn) (fun r H3 hr=> ?_);refine U ?_;refine .ov hK func170 results170 [] ?_;intro H4 hs4;rcases hr with ⟨rfl,Hj',Hm2,es',cl',q',z',g2',g4',hs5,g3',g5',g6',g7',g8',g9',hJ4⟩|⟨rfl,H1,hle1,hD⟩
 ·exact⟨Hj',fun b x hb=> hs4.base _ _ (hs5.base _ _ (plus_left hb)),.inl hJ4⟩
 ·exact⟨H1,View.le_trans hle1 hs4.base,.inr hD⟩
end
def toV(v:Nat)(o:Int×Int):Nat:=turnedN v o.1.toNat
def nxR(os:List (Int×Int))(R:Nat->Bool)(v j w:Nat):Bool:=((List.range v).any fun u=> (os.any fun o=> toV u o==w)&&R u)||(((os.take j).any fun o=> toV v o==w)&&R v)
def Stg.reachTo(s:Stg):Nat->Nat->Bool
 | 0,w=> w==127
 | k+1,w=> nxR (s.opts (s.ps[k]?.getD 0) k) (s.reachTo k) 128 0 w
def Stg.reach(s:Stg):Nat->Bool:=s.reachTo s.ps.length
def Edg(H:View)(ps:List Nat)(eb:Nat):Prop:=
 ∃f es et ez,H eb=some (f,.cells ⟨es⟩ et ez)/\∀i:Nat,i<ps.length->ldL true 2 es (0+i*2)=some (edgeV (ps[i]?.getD 0) i)
theorem Edg.le {H H':View}{ps:List Nat}{eb:Nat}(h:Edg H ps eb)(k:H.le H'):Edg H' ps eb:=by
 obtain⟨f,es,et,ez,h1,h2⟩:=h;exact⟨f,es,et,ez,k _ _ h1,h2⟩
theorem places_in:∀c:Nat,c<32->0<(placesTo c 7).length/\(placesTo c 7).length<=6/\∀i:Nat,i<(placesTo c 7).length->(placesTo c 7)[i]?.getD 0<=6:=by decide +kernel
theorem Lk.ok_in {k:Lk}(h:k.ok=true):(1<=k.s0/\k.s0<=k.s1/\k.s1<=40)/\(1<=k.r0/\k.r0<=k.r1/\k.r1<=40)/\(-9<=k.l0/\k.l0<=k.l1/\k.l1<=9)/\(-12<=k.m0/\k.m0<=k.m1/\k.m1<=12):=by
 simp[Lk.ok,allTo,Lk.chk,Lk.sends,Lk.reads,Lk.leans,Lk.moves,paceOk,leanOk,moveOk] at h
 omega
structure Lk.Fine(k:Lk):Prop where
 s:0<=k.s0/\k.s1<=1000
 r:0<=k.r0/\k.r1<=1000
 l: -1000<=k.l0/\k.l1<=1000
 m: -1000<=k.m0/\k.m1<=1000
 o:k.s0<=1000000/\k.r0<=1000000/\k.l0<=1000000/\k.m0<=1000/\ -1000000<=k.s1/\ -1000000<=k.r1/\ -1000000<=k.l1/\ -1000000<=k.m1
theorem Lk.fine {k:Lk}(h:k.ok=true):k.Fine:=by
 obtain⟨h1,h2,h3,h4⟩:=Lk.ok_in h;exact⟨oM,oM,oM,oM,oM⟩
theorem Lk.Fine.stg {k:Lk}(h:k.Fine){code:Nat}(hc:code<32){x:Stg}(hx:x∈k.stgs code):x.Ok/\x.ps=placesTo code 7:=by
 obtain⟨s,r,n,f,h1,h2,h3,h4,rfl⟩:=Lk.mem_stgs.1 hx;obtain⟨g1,g2,g3,g4,g5⟩:=h;obtain⟨p1,p2,p3⟩:=places_in code hc;exact⟨⟨hc,p1,p2,p3,⟨by show 0<=s;omega,by show s<=1000;omega⟩,⟨by show 0<=r;omega,by show r<=1000;omega⟩,⟨by show -1000<=n;omega,by show n<=1000;omega⟩,⟨by show -1000<=f;omega,by show f<=1000;omega⟩,⟨by show -1000<=k.m0;omega,by show k.m0<=1000;omega⟩,by show k.m1<=1000;omega⟩,rfl⟩
theorem Lk.Fine.bounds {k:Lk}(h:k.Fine):∀z,z∈ [k.s0,k.r0,k.l0,k.m0,k.s1,k.r1,k.l1,k.m1]-> -1000000<=z/\z<=1000000:=by
 obtain⟨g1,g2,g3,g4,g5⟩:=h;simp only[List.mem_cons,List.not_mem_nil,or_false,forall_eq_or_imp,forall_eq];omega
def Lk.sees(k:Lk)(code v:Nat):Bool:=(k.stgs code).any fun s=> s.reach v
end Go.Proofs.YtcagolloalgfiaaGreatDoor.Sg
