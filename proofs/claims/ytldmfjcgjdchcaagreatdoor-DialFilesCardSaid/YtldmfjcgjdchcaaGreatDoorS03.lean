/-
 Texts of the proofs over baudot/dial.
-/
import Derived.Test.YtldmfjcgjdchcaaGreatDoorS02
import Derived.Conc.DeferLaws
import Derived.Conc.Own2
import Derived.Laws.Strings
namespace Go.RL
open Go.Conc Go.ConcN Go.RL.Au
open Go.ConcR (stA smA rd wr mk)
open Go.ConcM (muA OsLater)
theorem lK {α:Type}(f:Nat->α)(i:Nat):upd f i (f i)=f:=by
 funext j
 by_cases e:j=i
 ·subst e;rw[upd_same]
 ·rw[upd_ne f (f i) e]
theorem kW {s s':Sh}{t t':Th}(hp:t.plain=true)(hm:(t',s')∈t.mv s):t'.did=t.did/\t'.mute=t.mute:=by
 cases t <;> simp only[Th.mv] at hm
 case pw=> cases hp
 case wr=> cases hp
 case quit=> cases hp
 case d1=>
  simp only[List.mem_singleton,Prod.mk.injEq] at hm;obtain⟨rfl,rfl⟩:=hm;split <;> exact⟨rfl,rfl⟩
 all_goals
  simp only[List.mem_singleton,Prod.mk.injEq] at hm;obtain⟨rfl,rfl⟩:=hm;exact⟨rfl,rfl⟩
theorem aDi {s s':Sh}{t t':Th}(hp:t.vY=false)(hm:(t',s')∈t.mv s):s'.q<=s.q:=by
 cases t <;> simp only[Th.mv] at hm
 case d4=> cases hp
 case quit=> cases hm
 all_goals
  simp only[List.mem_singleton,Prod.mk.injEq] at hm;obtain⟨rfl,rfl⟩:=hm;exact Nat.le_refl _
section
variable {X:Fk}{B:View}{base N:Nat}{os0:T4}{w w':World}{t:Trace}{ths:List Th}{m m':Mn}{s s':Sh}{H:Nat->View}{D:Nat->Bool}{fn:FuncId}{pos:String}{es:Array Event}
theorem WT.lts(h:WT X B base N os0 w t ths m s H D):X.Wg<w.heap.size:=(Array.getElem?_eq_some_iff.1 h.sh.wg).1
theorem WT.at(h:WT X B base N os0 w t ths m s H D)(d:Nat):WT X B base N os0 (w.at d) t ths m s H D:=
 ⟨⟨h.sh.wg⟩,h.cb,h.vi.at d,h.hx,h.ti,h.free,h.bK,h.WW,h.J1,h.os⟩
theorem WT.IW(h:WT X B base N os0 w t ths m s H D)(ne:X.Wg≠X.C){i:Nat}{u:Trace}(hi:Act base N i)(hN:i<N)(hu:X5 X.Wg X.Wg (H i) i t u):TI X.Wg X.Wg X.C base N w.heap.size H B (t++u):=by
 have:=h.ti.grow (hs':=w.heap.size) hi hN hu (fun b f o hb=> .inl ⟨o,hb⟩) (Nat.le_refl _) (fun b x hb=> (h.vi.sat i).lt hb) h.lts h.lts (fun j hj b o=> ⟨fun hb=> h.vi.dj i j (Ne.symm hj) b o hb,fun hb=> h.vi.dj j i hj b o hb⟩) (fun j=> ⟨h.vi.sh j,h.vi.sh j⟩) ⟨h.vi.bn.1,h.vi.bn.1⟩ ⟨Ne.symm ne,Ne.symm ne⟩
 rwa [lK] at this
theorem WT.walk(h:WT X B base N os0 w t ths m s H D)(ne:X.Wg≠X.C){i:Nat}{H':View}(hi:Act base N i)(hN:i<N)(ht:Trans (H i) w H' w' es)(hm:∀(κ:Nat) T,ths[κ]? =some T->base+κ=i->T.mute=false):
  WT X B base N os0 w' (t++MemOp.ofEvents i fn pos es) ths m s (upd H i H') D:=by
 have lWg:=h.lts;have hn:∀b,b<w.heap.size->H i b=none->H' b=none:=fun b hb h0=> by
  cases hx:H' b with
  | none=> rfl
  | some x=>
   rcases ht.ext b x.1 x.2 hx with ⟨o,ho⟩|⟨_,hle⟩
   ·rw[h0] at ho;cases ho
   ·omega
 have hC:∀j,H j X.C=none->upd H i H' j X.C=none:=fun j hj=> by
  by_cases e:j=i
  ·subst e;rw[upd_same];exact hn _ h.cb hj
  ·rw[upd_ne H H' e];exact hj
 have NX:∀e∈es,dN H' e:=ht.ev;obtain⟨lA,QJ⟩:=BZ (X:=X) (g:=i) (fn:=fn) (pos:=pos) (t:=t) NX;have hd:∀j,Deaf (t++MemOp.ofEvents i fn pos es) j=Deaf t j:=fun j=> Deaf_still t j _ QJ;refine⟨⟨?_⟩,Nat.lt_of_lt_of_le h.cb ht.size,h.vi.step ht lWg,fun g hg b=> ?_,?_,?_,fun κ T hκ hT=> ?_,by rw[hd];exact h.WW,fun κ T hκ hT=> by rw[hd];exact h.J1 κ T hκ hT,h.os.trans ⟨ht.os,ht.out⟩⟩
 ·rw[ht.TE _ lWg fun o ho=> by rw[h.vi.sh i] at ho;cases ho];exact h.sh.wg
 ·have e:g≠i:=by rintro rfl;exact hg hi
  rw[upd_ne H H' e];exact h.hx g hg b
 ·exact h.ti.grow hi hN lA (fun b f o hb=> ht.ext b f o hb) ht.size (fun b x hb=> ht.sat.lt hb) lWg lWg (fun j hj b o=> by
   have hv:=h.vi.step ht lWg;refine⟨fun hb=> ?_,fun hb=> ?_⟩
   ·have:=hv.dj i j (Ne.symm hj) b o (by rw[upd_same];exact hb)
    rwa [upd_ne H H' hj] at this
   ·have:=hv.dj j i hj b o (by rw[upd_ne H H' hj];exact hb)
    rwa [upd_same] at this) (fun j=> ⟨h.vi.sh j,h.vi.sh j⟩) ⟨h.vi.bn.1,h.vi.bn.1⟩ ⟨Ne.symm ne,Ne.symm ne⟩
 ·obtain⟨⟨o,h1,h2⟩,h3,h4⟩:=h.free;refine⟨⟨o,by rw[ht.TE _ h.cb fun o ho=> by rw[h3 i] at ho;cases ho];exact h1,h2⟩,fun g=> hC g (h3 g),h4.grow fun op KE x hx=> ?_⟩;rcases lA.touch op KE x hx with ⟨_,b,f,o',g1,g2,_⟩|⟨_,g1,_⟩
  ·rw[g1];intro e;cases e
   rw[hn _ h.cb (h3 i)] at g2;cases g2
  ·rcases g1 with g1|g1 <;> rw[g1] <;> exact fun e=> ne (Option.some.inj e)
 ·obtain⟨r,hr⟩:=h.bK κ T hκ hT;have e:i≠base+κ:=fun e=> by have:=hm κ T hκ e.symm;rw[this] at hT;cases hT
  exact⟨r,hr.appOther (g:=i) lA.own e⟩
theorem WT.J0(h:WT X B base N os0 w t ths m s H D)(ne:X.Wg≠X.C)(hb:1<=base){κ:Nat}{T T':Th}(hκ:ths[κ]? =some T)(hN:base+κ<N)(hp:T.plain=true)(hm:(T',s')∈T.mv s)(ht:KJ X w w' s')(hq:ED X T.deaf T'.deaf es):
  WT X B base N os0 w' (t++MemOp.ofEvents (base+κ) fn pos es) (ths.set κ T') m s' H D:=by
 have lWg:=h.lts;obtain⟨_,k3⟩:=kW hp hm;have KB:=(List.getElem?_eq_some_iff.1 hκ).1;have hTq:T≠ .quit:=by rintro rfl;cases hp
 have hdT:=h.J1 κ T hκ hTq;have UZ:ED X (Deaf t (base+κ)) T'.deaf es:=by rw[hdT];exact hq
 obtain⟨lA,u5⟩:=xW (X:=X) (H:=H (base+κ)) (fn:=fn) (pos:=pos) UZ;have get:∀(κ':Nat) T'',(ths.set κ T')[κ']? =some T''->(κ'=κ/\T''=T')\/(κ'≠κ/\ths[κ']? =some T''):=fun κ' T'' h'=> by
  by_cases e:κ=κ'
  ·subst e;rw[List.getElem?_set_self KB] at h';cases h'
   exact .inl ⟨rfl,rfl⟩
  ·rw[List.getElem?_set_ne e] at h';exact .inr ⟨Ne.symm e,h'⟩
 refine⟨ht.sh,by rw[ht.size];exact h.cb,h.vi.dJ ht,h.hx,?_,?_,fun κ' T'' VC hT=> ?_,?_,fun κ' T'' VC hT=> ?_,h.os.trans ht.os⟩
 ·rw[ht.size];exact h.IW ne (.inr ⟨oM,hN⟩) hN lA
 ·obtain⟨⟨o,h1,h2⟩,h3,h4⟩:=h.free;refine⟨⟨o,by rw[ht.rest _ (Ne.symm ne)];exact h1,h2⟩,h3,h4.grow fun op KE x hx e=> ?_⟩;have g1:=u5 op KE x hx;rw[e] at g1;exact ne (Option.some.inj g1).symm
 ·rcases get κ' T'' VC with ⟨rfl,rfl⟩|⟨e,WJ⟩
  ·obtain⟨r,hr⟩:=h.bK κ' T hκ (by rw[<-k3];exact hT);refine⟨r,hr.appOwn fn pos es fun j e he=> ?_⟩;rcases UZ.ev j e he with mP|⟨⟨a,wr,rfl,_⟩,hd⟩
   ·refine .inl ?_;obtain⟨loc,wr,sy⟩:=e;cases loc with
    | mark mm=> cases mm <;> simp[Event.mute] at mP <;> simp[MemAct.ofEvent,MemAct.touch?]
    | _=> simp[Event.mute] at mP
   ·exact .inr ⟨⟨a,wr,rfl⟩,hd⟩
  ·obtain⟨r,hr⟩:=h.bK κ' T'' WJ hT;exact⟨r,hr.appOther (g:=base+κ) lA.own oM⟩
 ·rw[Deaf_other t (g:=0) (g':=base+κ) oM _ lA.own];exact h.WW
 ·rcases get κ' T'' VC with ⟨rfl,rfl⟩|⟨e,WJ⟩
  ·rw[Deaf_own];exact UZ.net
  ·rw[Deaf_other t (g:=base+κ') (g':=base+κ) oM _ lA.own];exact h.J1 κ' T'' WJ hT
theorem WT.Z9(h:WT X B base N os0 w t ths m s H D)(ne:X.Wg≠X.C)(hb:1<=base)(hN:0<N)(ht:KJ X w w' s')(hq:ED X m.deaf m'.deaf es):
  WT X B base N os0 w' (t++MemOp.ofEvents 0 fn pos es) ths m' s' H D:=by
 have UZ:ED X (Deaf t 0) m'.deaf es:=by rw[h.WW];exact hq
 obtain⟨lA,u5⟩:=xW (X:=X) (H:=H 0) (fn:=fn) (pos:=pos) UZ;refine⟨ht.sh,by rw[ht.size];exact h.cb,h.vi.dJ ht,h.hx,?_,?_,fun κ' T'' VC hT=> ?_,?_,fun κ' T'' VC hT=> ?_,h.os.trans ht.os⟩
 ·rw[ht.size];exact h.IW ne (.inl rfl) hN lA
 ·obtain⟨⟨o,h1,h2⟩,h3,h4⟩:=h.free;refine⟨⟨o,by rw[ht.rest _ (Ne.symm ne)];exact h1,h2⟩,h3,h4.grow fun op KE x hx e=> ?_⟩;have g1:=u5 op KE x hx;rw[e] at g1;exact ne (Option.some.inj g1).symm
 ·obtain⟨r,hr⟩:=h.bK κ' T'' VC hT;exact⟨r,hr.appOther (g:=0) lA.own oM⟩
 ·rw[Deaf_own];exact UZ.net
 ·rw[Deaf_other t (g:=base+κ') (g':=0) oM _ lA.own];exact h.J1 κ' T'' VC hT
theorem WT.said(h:WT X B base N os0 w t ths m s H D)(ne:X.Wg≠X.C)(hb:1<=base)(hN:0<N){mm:Mark}(hmm:mm=.read (smA X.Wg)\/mm=.write (smA X.Wg))(hd:m'.deaf=m.deaf):
  WT X B base N os0 w (t++MemOp.ofEvents 0 fn pos #[Go.ConcR.mk mm]) ths m' s H D:=by
 have lA:=XT (X:=X) (H:=H 0) (g:=0) (fn:=fn) (pos:=pos) (m:=mm) (t:=t) (fun x hx=> by rcases hmm with rfl|rfl <;> simp[MemAct.touch?] at hx <;> subst hx <;> exact⟨rfl,rfl,rfl⟩) (fun a e=> by rcases hmm with rfl|rfl <;> cases e);have TO:∀j,Deaf (t++MemOp.ofEvents 0 fn pos #[Go.ConcR.mk mm]) j=Deaf t j:=fun j=> Deaf_still t j _ fun op KE=> by
  rw[ofEvents_eq] at KE;simp[Go.ConcR.ofEvent_mk] at KE
  subst KE;rcases hmm with rfl|rfl <;> simp
 refine⟨h.sh,h.cb,h.vi,h.hx,h.IW ne (.inl rfl) hN lA,?_,fun κ' T'' VC hT=> ?_,by rw[TO,hd];exact h.WW,fun κ' T'' VC hT=> by rw[TO];exact h.J1 κ' T'' VC hT,h.os⟩
 ·obtain⟨h1,h3,h4⟩:=h.free;refine⟨h1,h3,h4.grow fun op KE x hx e=> ?_⟩;rcases lA.touch op KE x hx with ⟨hk,_⟩|⟨_,g1,_⟩
  ·rw[ofEvents_eq] at KE;simp[Go.ConcR.ofEvent_mk] at KE
   subst KE;rcases hmm with rfl|rfl <;> simp[MemAct.touch?] at hx <;> subst hx <;> cases hk
  ·rcases g1 with g1|g1 <;> rw[e] at g1 <;> exact ne (Option.some.inj g1).symm
 ·obtain⟨r,hr⟩:=h.bK κ' T'' VC hT;exact⟨r,hr.appOther (g:=0) lA.own oM⟩
end
end Go.RL
namespace Go.RL
open Go.Conc Go.ConcN Go.RL.Au
open Go.ConcR (stA smA)
open Go.ConcM (muA msA OsLater)
def QK(o:Oper)(v:Value)(R:Rg):Rg:=
 match o.dst with
 | some d=> (d,v)::R
 | none=> R
def SK(n:Nat)(o:Oper):Bool:=
 match o.dst with
 | some d=> Nat.blt d n
 | none=> true
theorem YA.QK {n:Nat}{R:Rg}{tmps:Array Value}{o:Oper}(h:YA n R tmps)(hd:SK n o=true)(v:Value):YA n (QK o v R) (HB tmps o.dst v):=by
 unfold SK at hd;unfold RL.QK HB;cases ho:o.dst with
 | none=> exact h
 | some d=>
  rw[ho] at hd;have KB:d<n:=by simpa [Nat.blt_eq] using hd
  exact h.put KB v
section
variable {P:Program}{X:Fk}{κ k n:Nat}{t:Th}{D:Nat->Bool}{b:FB}{H₀:View}{cs:List Frame}{R:Rg}{L:Bl}{ds:List Deferred}{kk:List Item}{dl:List (Option Tmp)}{l:List Oper}{o:Oper}
def Fk.shp(X:Fk):Nat->Option (TypeId×Nat):=fun r=> if r=X.Wg then some (X.tW,2) else none
theorem Fk.O9 {w:World}(h:X.ok w):∀r x,X.shp r=some x->w.shape? r=some x:=by
 obtain⟨_,s,hs⟩:=h;intro r x hx;unfold Fk.shp at hx;split at hx
 ·rename_i e
  subst e;cases hx
  simp[World.shape?,hs.wg,Fk.SW]
 ·cases hx
def MD(P:Program)(sh:Nat->Option (TypeId×Nat))(n:Nat)(R:Rg)(o:Oper)(v:Value):Prop:=∀tmps,YA n R tmps->gU P sh (execOp (OB tmps) o) fun nx=> nx=.value v
variable {sh:Nat->Option (TypeId×Nat)}{v:Value}
theorem MD.move {x:Operand}(lA:o.op=.move x)(hx:JA R x=some v):MD P sh n R o v:=fun tmps hr=> by unfold execOp;rw[lA];show Next.value _=_;rw[hr.ev hx]
theorem MD.assign {x:Operand}(lA:o.op=.assign x)(hx:JA R x=some v):MD P sh n R o v:=fun tmps hr=> by unfold execOp;rw[lA];show Next.value _=_;rw[hr.ev hx]
theorem MD.pick {c x y:Operand}{u:Bool}(lA:o.op=.pick c x y)(hc:JA R c=some (.bool u))(hx:(match u with|true=> JA R x|false=> JA R y)=some v):MD P sh n R o v:=fun tmps hr=> by
 unfold execOp;rw[lA];simp only[hr.ev hc,asBool];cases u with
 | true=> show Next.value _=_;rw[<-hr.ev hx];rfl
 | false=> show Next.value _=_;rw[<-hr.ev hx];rfl
theorem MD.nilCheck {x:Operand}{a:Addr}(lA:o.op=.nilCheck x)(hx:JA R x=some (.pointer (some a))):MD P sh n R o (.pointer (some a)):=fun tmps hr=> by
 unfold execOp;rw[lA];simp only[hr.ev hx];rfl
theorem MD.not {u:TypeId}{x:Operand}{p:Bool}(lA:o.op=.unOp .not u x)(hx:JA R x=some (.bool p)):MD P sh n R o (.bool (!p)):=fun tmps hr=> by
 unfold execOp;rw[lA];simp only[hr.ev hx];rfl
theorem oJ {op:BinOp}{u:TypeId}{x y:Operand}{k k':IntKind}{p q:Int}{Q:Unit->Prop}(h:Q ()):gU P sh (eqGuard op u x y (.int k p) (.int k' q)) Q:=by
 unfold eqGuard;cases op <;> exact h
theorem MD.int {op:BinOp}{u u':TypeId}{x y:Operand}{ik:IntKind}{p q:Int}(lA:o.op=.binOp op u x y u')(hx:JA R x=some (.int ik p))(hy:JA R y=some (.int ik q))(hv:iA op ik p q=some v):MD P sh n R o v:=fun tmps hr=> by
 unfold execOp;rw[lA];simp only[hr.ev hx,hr.ev hy];show gU P sh (((eqGuard op u x y _ _).bind fun _=> binOp op u _ _).bind _) _;refine iC _ _ (iC _ _ (oJ ?_));unfold binOp;unfold iA at hv;cases op <;> simp only[reduceCtorEq,Option.some.injEq] at hv
 case quo=>
  split at hv
  ·cases hv
  ·rename_i hb
   cases hv
   simp only[ne_eq,not_true_eq_false,if_false,Op.intDiv,if_neg hb];exact rfl
 case rem=>
  split at hv
  ·cases hv
  ·rename_i hb
   cases hv
   simp only[ne_eq,not_true_eq_false,if_false,Op.intDiv,if_neg hb];exact rfl
 all_goals (subst hv;simp only[ne_eq,not_true_eq_false,if_false,Op.intArith,Op.intCmp,Op.intBits];exact rfl)
theorem MD.shift {op:BinOp}{u u':TypeId}{x y:Operand}{ik jk:IntKind}{p q:Int}(lA:o.op=.binOp op u x y u')(hx:JA R x=some (.int ik p))(hy:JA R y=some (.int jk q))(hq:0<=q)(hv:CE op ik p q=some v):MD P sh n R o v:=fun tmps hr=> by
 unfold execOp;rw[lA];simp only[hr.ev hx,hr.ev hy];show gU P sh (((eqGuard op u x y _ _).bind fun _=> binOp op u _ _).bind _) _;refine iC _ _ (iC _ _ (oJ ?_));unfold CE at hv;cases op <;> simp only[reduceCtorEq,Option.some.injEq] at hv <;> subst hv
 all_goals
  simp only[binOp,Op.shift,if_neg (show ¬q<0 by omega)];exact rfl
theorem MD.conv {u u':TypeId}{x:Operand}{ik jk:IntKind}{p z:Int}{de:TypeDesc}(lA:o.op=.convert u u' x)(hx:JA R x=some (.int ik p))(hu0:P.underlying u=some de)(hu:P.underlying u'=some (.int jk))(hz:jk.wrap p=z):MD P sh n R o (.int jk z):=fun tmps hr=> by
 subst hz;unfold execOp;rw[lA];simp only[hr.ev hx];show gU P sh (((underlying u).bind fun s=> (underlying u').bind fun e=> _).bind _) _;refine iC _ _ (iC _ _ (MC hu0 (iC _ _ (MC hu ?_))));cases de <;> exact rfl
def vN(P:Program)(s:TypeId)(fi:Nat):Option Nat:=
 match P.underlying s with
 | some (.struct fs)=>
  match fs[fi]? with
  | some fl=> match (P.info? fl.type).map (·.size) with
   | some (_+1)=> some fl.offset
   | _=> none
  | none=> none
 | _=> none
theorem MD.field {s:TypeId}{x:Operand}{fi o':Nat}{blk off:Nat}(lA:o.op=.fieldAddr s x fi)(hx:JA R x=some (.pointer (some ⟨blk,off,none⟩)))(hf:vN P s fi=some o'):MD P sh n R o (.pointer (some ⟨blk,off+o',none⟩)):=fun tmps hr=> by
 unfold execOp;rw[lA];simp only[hr.ev hx];unfold vN at hf;split at hf
 ·rename_i fs hu
  split at hf
  ·rename_i fl kS
   split at hf
   ·rename_i sz yE
    cases hf
    refine iC (Instr.fieldAt s _ fi) _ (iC (underlying s) _ (MC hu ?_));simp only[kS];show gU P sh ((fieldPlace ⟨blk,off,none⟩ fl).bind _) _;refine iC _ _ (iC (sizeOf fl.type) _ (zL yE ?_));rw[if_neg (by simp)];show Next.value (.pointer (some (Addr.add ⟨blk,off,none⟩ fl.offset)))=_;rw[QF _ _ rfl]
   ·cases hf
  ·cases hf
 ·cases hf
theorem MD.raw {u u' pt:TypeId}{x:Operand}{blk off sz:Nat}(lA:o.op=.convert u u' x)(hx:JA R x=some (.pointer (some ⟨blk,off,none⟩)))(hu0:P.underlying u=some (.pointer pt))(hu:P.underlying u'=some .unsafePointer)(yE:(P.info? pt).map (·.size)=some (sz+1))(hb:∃e c,sh blk=some (e,c)/\off<c):
  MD P sh n R o (.pointer (some ⟨blk,off,none⟩)):=fun tmps hr=> by
 obtain⟨e,c,hb,hc⟩:=hb;unfold execOp;rw[lA];simp only[hr.ev hx];show gU P sh (((underlying u).bind fun s=> (underlying u').bind fun e=> _).bind _) _;refine iC _ _ (iC _ _ (MC hu0 (iC _ _ (MC hu ?_))));show gU P sh ((underlying u).bind fun s=> (underlying u').bind fun e=> _) _;refine iC _ _ (MC hu0 (iC _ _ (MC hu ?_)));refine⟨(e,c),hb,?_⟩;refine⟨(e,c),hb,?_⟩;simp only[Sem.bind];refine iC (sizeOf pt) _ (zL yE ?_);have:¬(c<=off):=by omega
 simp[this]
 exact rfl
end
end Go.RL
namespace Go.RL
open Go.Conc Go.ConcN
abbrev Shp:=Nat->Option (TypeId×Nat)
def aGw(sh:Shp)(w:World):Prop:=∀r x,sh r=some x->w.shape? r=some x
structure Cl(P:Program)(main:Bool)(sh:Shp)(J:Goroutine->Prop):Prop where
 step:∀g g',g.status=.running->(∀w,aGw sh w->stepG P main g w=.go g' w #[])->J g'->J g
section
variable {P:Program}{main:Bool}{sh:Shp}(J:Goroutine->Prop)(n:Nat)(b:FB)(cs:List Frame)
def Sc(R:Rg)(ds:List Deferred)(todo:List Item):Prop:=∀tmps,YA n R tmps->J (G (b.at tmps ds todo) cs)
def So(dl:List (Option Tmp))(R:Rg)(ds:List Deferred)(l:List Oper)(k:List Item):Prop:=
 ∀(arr:Array Oper) (ix:List Nat),(∀j:Nat,(arr[j]?).bind (fun o:Oper=> o.dst)=(dl[j]?).join)->ix.map (arr[·]?)=l.map some->Sc J n b cs R ds (.inRegion arr ix::k)
def Sb(R:Rg)(ds:List Deferred):Prop:=∀tmps todo,YA n R tmps->J (G (b.back tmps ds todo) cs)
end
section
variable {P:Program}{main:Bool}{sh:Shp}{J:Goroutine->Prop}{n:Nat}{b:FB}{cs:List Frame}{R:Rg}{ds:List Deferred}{k:List Item}
theorem Cl.go(hc:Cl P main sh J){g g':Goroutine}(hs:g.status=.running)(h:∀w,stepG P main g w=.go g' w #[])(k:J g'):J g:=hc.step g g' hs (fun w _=> h w) k
theorem Sc.skip(hc:Cl P main sh J)(h:Sc J n b cs R ds k):Sc J n b cs R ds (.code .skip::k):=fun tmps hr=> hc.go rfl (fun _=> by simp[G,stepG,stepG.exec,FB.at]) (h tmps hr)
theorem Sc.inBlock(hc:Cl P main sh J){id:Nat}(h:Sc J n b cs R ds k):Sc J n b cs R ds (.inBlock id::k):=fun tmps hr=> hc.go rfl (fun _=> by simp[G,stepG,stepG.exec,FB.at]) (h tmps hr)
theorem Sc.seq(hc:Cl P main sh J){x y:Code}(h:Sc J n b cs R ds (.code x:: .code y::k)):Sc J n b cs R ds (.code (.seq x y)::k):=fun tmps hr=> hc.go rfl (fun _=> by simp[G,stepG,stepG.exec,FB.at]) (h tmps hr)
theorem Sc.block(hc:Cl P main sh J){id:Nat}{c:Code}(h:Sc J n b cs R ds (.code c:: .inBlock id::k)):Sc J n b cs R ds (.code (.block id c)::k):=fun tmps hr=> hc.go rfl (fun _=> by simp[G,stepG,stepG.exec,FB.at]) (h tmps hr)
theorem Sc.exit(hc:Cl P main sh J){id:Nat}{k':List Item}(he:exitTo id k=some k')(h:Sc J n b cs R ds k'):Sc J n b cs R ds (.code (.exit id)::k):=fun tmps hr=> hc.go rfl (fun _=> by simp[G,stepG,stepG.exec,FB.at,he]) (h tmps hr)
theorem Sc.loop(hc:Cl P main sh J){c:Code}(h:Sc J n b cs R ds (.code c:: .inLoop c::k)):Sc J n b cs R ds (.code (.loop c)::k):=fun tmps hr=> hc.go rfl (fun _=> by simp[G,stepG,stepG.exec,FB.at]) (h tmps hr)
theorem Sc.inLoop(hc:Cl P main sh J){c:Code}(h:Sc J n b cs R ds (.code c:: .inLoop c::k)):Sc J n b cs R ds (.inLoop c::k):=fun tmps hr=> hc.go rfl (fun _=> by simp[G,stepG,stepG.exec,FB.at]) (h tmps hr)
theorem Sc.cond(hc:Cl P main sh J){c:Operand}{x y:Code}{t:Bool}(hx:JA R c=some (.bool t))(h1:t=true->Sc J n b cs R ds (.code x::k))(h2:t=false->Sc J n b cs R ds (.code y::k)):Sc J n b cs R ds (.code (.cond c x y)::k):=fun tmps hr=> by
 have nJ:=hr.ev hx;refine hc.go (g':=G (b.at tmps ds (.code (if t then x else y)::k)) cs) rfl (fun _=> ?_) ?_
 ·have h':(b.at tmps ds (.code (.cond c x y)::k)).eval c=.bool t:=by rw[FB.eval_at];exact nJ
  simp only[FB.at] at h';simp[G,stepG,stepG.exec,FB.at,h']
 ·cases t with
  | true=> exact h1 rfl tmps hr
  | false=> exact h2 rfl tmps hr
theorem Sc.region(hc:Cl P main sh J){id:Nat}{ops:Array Oper}{dl:List (Option Tmp)}{l:List Oper}(hl:ops.toList=l)(kP:l.map (fun o:Oper=> o.dst)=dl)(h:So J n b cs dl R ds l k):Sc J n b cs R ds (.code (.region id ops false)::k):=fun tmps hr=> by
 subst hl kP;refine hc.go rfl (fun _=> by simp[G,stepG,stepG.exec,FB.at]) (h ops (List.range ops.size) (fun j=> ?_) ?_ tmps hr)
 ·simp only[List.getElem?_map,Array.getElem?_toList];cases ops[j]? <;> rfl
 ·apply List.ext_getElem?
  intro j;simp only[List.getElem?_map];by_cases hj:j<ops.size
  ·simp[hj]
  ·have h1:(List.range ops.size)[j]? =none:=by simp;omega
   have h2:ops.toList[j]? =none:=by simp;omega
   rw[h1,h2];rfl
theorem So.done(hc:Cl P main sh J){dl:List (Option Tmp)}(h:Sc J n b cs R ds k):So J n b cs dl R ds [] k:=fun arr ix _ hx=> by
 cases ix with
 | nil=> exact fun tmps hr=> hc.go rfl (fun _=> by simp[G,stepG,stepG.exec,FB.at]) (h tmps hr)
 | cons i r=> simp at hx
theorem So.vP(hc:Cl P main sh J){dl:List (Option Tmp)}{o:Oper}{l:List Oper}(hd:SK n o=true)(hw:TA dl R o=some false)(h:So J n b cs dl (QK o undef R) ds l k):So J n b cs dl R ds (o::l) k:=fun arr ix ha hx=> by
 cases ix with
 | nil=> simp at hx
 | cons i r=>
  simp only[List.map_cons,List.cons.injEq] at hx;intro tmps hr;refine hc.go rfl (fun w=> ?_) (h arr r ha hx.2 _ (hr.QK hd undef));have YZ:=rB ha hr hw;have hf:=FB.finish_at b tmps ds arr i r k undef;rw[hx.1] at hf;simp only[Option.bind_some] at hf;rw[<-hf];simp[G,stepG,stepG.exec,FB.at,hx.1,YZ]
theorem So.op(hc:Cl P main sh J){dl:List (Option Tmp)}{o:Oper}{l:List Oper}{v:Value}(hw:TA dl R o=some true)(hd:SK n o=true)(QJ:BA o.op=false)(hp:MD P sh n R o v)(h:So J n b cs dl (QK o v R) ds l k):So J n b cs dl R ds (o::l) k:=fun arr ix ha hx=> by
 cases ix with
 | nil=> simp at hx
 | cons i r=>
  simp only[List.map_cons,List.cons.injEq] at hx;intro tmps hr;refine hc.step _ (G (b.at (HB tmps o.dst v) ds (.inRegion arr r::k)) cs) rfl (fun w hs=> ?_) (h arr r ha hx.2 _ (hr.QK hd v));have hy:Yields P main b tmps ds cs o w v w #[]:=.look (.inr QJ) (hp tmps hr) hs;exact hy arr i r k hx.1 (rB ha hr hw)
theorem So.opD(hc:Cl P main sh J){dl:List (Option Tmp)}{o:Oper}{l:List Oper}{v:Value}{d:Nat}(bI:o.dst=some d)(hn:Nat.blt d n=true)(hw:TA dl R o=some true)(QJ:BA o.op=false)(hp:MD P sh n R o v)(h:So J n b cs dl ((d,v)::R) ds l k):So J n b cs dl R ds (o::l) k:=
 So.op hc hw (by unfold SK;rw[bI];exact hn) QJ hp (by unfold QK;rw[bI];exact h)
theorem So.P9(hc:Cl P main sh J){dl:List (Option Tmp)}{o:Oper}{l:List Oper}{d:Nat}(bI:o.dst=some d)(hn:Nat.blt d n=true)(hw:TA dl R o=some false)(h:So J n b cs dl ((d,undef)::R) ds l k):So J n b cs dl R ds (o::l) k:=
 So.vP hc (by unfold SK;rw[bI];exact hn) hw (by unfold QK;rw[bI];exact h)
def HJ(J:Goroutine->Prop)(f:FuncId)(vs:List Value)(K:Value->(Goroutine->Prop)->Prop):Prop:=
 ∀ (b:FB) (tmps:Array Value) (ds:List Deferred) (cs:List Frame) (o:Oper) (az:List Operand) (arr:Array Oper) (i:Nat) (r:List Nat) (k:List Item),b.rd=none->b.kind≠ .early->JI o f az->az.map (OB tmps)=vs->arr[i]? =some o->Region.wanted o (yielded arr tmps)=true-> 
  (∀v J',K v J'->J' (G (b.at (HB tmps o.dst v) ds (.inRegion arr r::k)) cs))->J (G (b.at tmps ds (.inRegion arr (i::r)::k)) cs)
def zU(P:Program)(J:Goroutine->Prop)(f:FuncId)(vs:List Value)(K:Value->(Goroutine->Prop)->Prop):Prop:=
 ∀c cs,(∀v J',K v J'->J' (G (c.finish v) cs))->J (G (Frame.enter P f vs.toArray .normal) (c::cs))
theorem zU.at(hc:Cl P main sh J){f:FuncId}{vs:List Value}{K:Value->(Goroutine->Prop)->Prop}(hg:AA P f=true)(h:zU P J f vs K):HJ J f vs K:=by
 intro b tmps ds cs o az arr i r k hb hk ho ha hi hw hK;obtain⟨ats,lA⟩:=ho;refine hc.go (g':=G (Frame.enter P f vs.toArray .normal) (b.at tmps ds (.inRegion arr (i::r)::k)::cs)) rfl (fun w=> ?_) (h _ _ fun v J' hv=> ?_)
 ·have hm:(az.toArray).map (OB tmps)=vs.toArray:=by rw[List.map_toArray,ha]
  have hex:execOp (OB tmps) o=callFunc f vs.toArray:=by
   unfold execOp;rw[lA];simp only[resolve,OB,Deferred.ofValue,hm];simp[invoke]
  have hcf:∃w',(callFunc f vs.toArray).runT P w #[]=(.ok (.enter f vs.toArray) w',#[])/\w'=w:=by
   unfold AA at hg;split at hg
   ·rename_i fn QX
    simp only[Bool.and_eq_true,Bool.not_eq_true',Option.isSome_iff_ne_none] at hg;obtain⟨h1,h2⟩:=hg;have hbn:fn.body.isNone=false:=by cases hx:fn.body <;> simp_all
    refine⟨w,?_,rfl⟩;show(match P.funcs[f]? with|none=> _|some fn=> _:Sem Next).runT P w #[]=_;rw[QX];simp only[h1,hbn,Bool.false_eq_true,if_false];rfl
   ·cases hg
  obtain⟨w',eI,rfl⟩:=hcf;have hg':stepG P main (G (b.at tmps ds (.inRegion arr (i::r)::k)) cs) w'=stepG.apply P true (b.at tmps ds (.inRegion arr (i::r)::k)) cs none (execOp (b.at tmps ds (.inRegion arr (i::r)::k)).eval o) w':=by
   simp[G,stepG,stepG.exec,stepG.oper,Frame.oper?,FB.at,hi,hw,hb]
  rw[FB.eval_at,hex] at hg';rw[hg'];have hs:seen P (b.at tmps ds (.inRegion arr (i::r)::k)).fn (if(b.at tmps ds (.inRegion arr (i::r)::k)).kind==.early then #[] else #[])=#[]:=by
   rw[ite_self];exact seen_none _ _
  have key:stepG.apply P true (b.at tmps ds (.inRegion arr (i::r)::k)) cs none (callFunc f vs.toArray) w'=GStep.after (seen P (b.at tmps ds (.inRegion arr (i::r)::k)).fn (if(b.at tmps ds (.inRegion arr (i::r)::k)).kind==.early then #[] else #[])) (.go (G (Frame.enter P f vs.toArray .normal) (b.at tmps ds (.inRegion arr (i::r)::k)::cs)) w'):=by
   unfold stepG.apply;rw[if_pos rfl,eI];rfl
  rw[key,hs];simp[GStep.after]
 ·have OD:(b.at tmps ds (.inRegion arr (i::r)::k)).finish v=b.at (HB tmps o.dst v) ds (.inRegion arr r::k):=by rw[FB.finish_at,hi];rfl
  rw[OD];exact hK v J' hv
theorem So.call {dl:List (Option Tmp)}{o:Oper}{l:List Oper}{f:FuncId}{az:List Operand}{vs:List Value}{K:Value->(Goroutine->Prop)->Prop}(hb:b.rd=none)(hkd:b.kind≠ .early)(hw:TA dl R o=some true)(hd:SK n o=true)(ho:JI o f az)(ha:lD R az=some vs)
  (hc:HJ J f vs K) (hk:∀v J',K v J'->So J' n b cs dl (QK o v R) ds l k):So J n b cs dl R ds (o::l) k:=fun arr ix lI hx=> by
 cases ix with
 | nil=> simp at hx
 | cons i r=>
  simp only[List.map_cons,List.cons.injEq] at hx;intro tmps hr;exact hc b tmps ds cs o az arr i r k hb hkd ho (hr.evs ha) hx.1 (rB lI hr hw) fun v J' hv=> hk v J' hv arr r lI hx.2 _ (hr.QK hd v)
theorem So.dD {dl:List (Option Tmp)}{o:Oper}{l:List Oper}{f:FuncId}{az:List Operand}{vs:List Value}{d:Nat}{K:Value->(Goroutine->Prop)->Prop}(bI:o.dst=some d)(hn:Nat.blt d n=true)(hb:b.rd=none)(hkd:b.kind≠ .early)(hw:TA dl R o=some true)(ho:JI o f az)(ha:lD R az=some vs)
  (hc:HJ J f vs K) (hk:∀v J',K v J'->So J' n b cs dl ((d,v)::R) ds l k):So J n b cs dl R ds (o::l) k:=
 So.call hb hkd hw (by unfold SK;rw[bI];exact hn) ho ha hc fun v J' hv=> by unfold QK;rw[bI];exact hk v J' hv
theorem JI.mk' {o:Oper}{f:FuncId}{az:List Operand}{ats:Array TypeId}(h:o.op=.call { callee:=.value (.func f),args:=az.toArray,argTypes:=ats }):JI o f az:=⟨ats,h⟩
theorem zU.enter {f:FuncId}{fn:Func}{body:Code}{vs:List Value}{K:Value->(Goroutine->Prop)->Prop}(hf:P.funcs[f]? =some fn)(hb:fn.body=some body)(hn:fn.ntmps=n)(hv:vs.length<=n)
  (h:∀c cs,(∀v J',K v J'->J' (G (c.finish v) cs))->Sc J n ⟨f,.normal,none⟩ (c::cs) (gL vs) [] [.code body]):zU P J f vs K:=fun c cs hk=> by
 have:=h c cs hk (vs.toArray++Array.replicate (n-vs.length) undef) ⟨by simp;omega,fun d v hd=> ?_⟩
 ·have e:Frame.enter P f vs.toArray .normal=(⟨f,.normal,none⟩:FB).at (vs.toArray++Array.replicate (n-vs.length) undef) [] [.code body]:=by
   simp[Frame.enter,FB.at,hf,hb,hn]
  rw[e];exact this
 ·obtain⟨_,h2⟩:=zG vs 0 d v hd;simp only[Nat.sub_zero] at h2;have KB:=(List.getElem?_eq_some_iff.1 h2).1;rw[Array.getElem?_append_left (by simpa using KB)];simpa using h2
theorem Sc.LD(hc:Cl P main sh J)(hr:b.rd=none)(h:Sb J n b cs R ds):Sc J n b cs R ds (.code .ret::k):=fun tmps XD=> hc.go (g':=G (b.back tmps ds (.code .ret::k)) cs) rfl (fun _=> by simp[G,stepG,stepG.exec,FB.at,FB.back,hr]) (h tmps (.code .ret::k) XD)
theorem Sc.over(hc:Cl P main sh J)(hr:b.rd=none)(h:Sb J n b cs R ds):Sc J n b cs R ds []:=fun tmps XD=> hc.go (g':=G (b.back tmps ds []) cs) rfl (fun _=> by simp[G,stepG,stepG.exec,FB.at,FB.back,hr]) (h tmps [] XD)
def DY(fn:Func)(R:Rg)(v:Value):Prop:=(fn.results=#[]/\v=.tuple #[])\/∃t,fn.results=#[.tmp t]/\lk R t=some v
theorem DY.run {fn:Func}{v:Value}(h:DY fn R v){tmps:Array Value}(hr:YA n R tmps)(w:World):(results fn tmps).runT P w #[]=(.ok v w,#[]):=by
 rcases h with ⟨h1,rfl⟩|⟨t,h1,h2⟩
 ·simp[results,h1]
 ·have:tmps[t]? =some v:=hr.2 _ _ h2;simp[results,h1,this]
theorem Sb.leave(hc:Cl P main sh J){fn:Func}{c:Frame}{v:Value}(hf:P.funcs[b.fn]? =some fn)(hk:b.kind=.normal)(hv:DY fn R v)(h:J (G (c.finish v) cs)):Sb J n b (c::cs) R []:=fun tmps todo hr=> by
 refine hc.go rfl (fun w=> ?_) h;have:stepG P main (G (b.back tmps [] todo) (c::cs)) w=unwind P main (b.back tmps [] todo) (c::cs) none w:=by simp[G,stepG,FB.back]
 rw[this];unfold unwind;simp only[FB.back,hf,hv.run (P:=P) hr w,doReturn,hk,GStep.after,G,Array.append_empty,seen_none]
theorem Sb.leaveD(hc:Cl P main sh J){fn:Func}{c:Frame}(hf:P.funcs[b.fn]? =some fn)(hk:b.kind=.deferred)(hv:fn.results=#[])(hm:c.mode=.returning\/c.mode=.panicking [goexitEntry])(h:J (G c cs)):Sb J n b (c::cs) R []:=fun tmps todo hr=> by
 refine hc.go rfl (fun w=> ?_) h;have:stepG P main (G (b.back tmps [] todo) (c::cs)) w=unwind P main (b.back tmps [] todo) (c::cs) none w:=by simp[G,stepG,FB.back]
 rw[this];unfold unwind;have hv':DY fn R (.tuple #[]):=.inl ⟨hv,rfl⟩;rcases hm with hm|hm <;> simp only[FB.back,hf,hv'.run (P:=P) hr w,doReturn,hk,hm,GStep.after,G,Array.append_empty,seen_none,goexitEntry]
end
end Go.RL
namespace Go.RL
open Go.Conc Go.ConcN Go.RL.Au
open Go.ConcR (stA smA)
open Go.ConcM (muA msA OsLater)
def Jw(P:Program)(X:Fk)(κ k:Nat)(t:Th)(H:View):Goroutine->Prop:=fun g=>
 (t=.quit->∃q,QuitsD P q 1 g)/\(t≠ .quit->t.mute=true->∃n,Qt P (WS P X κ k t H) n g)/\(t.mute=false->T (Mw P false X.ok) (WS P X κ k t) H g)
def Jm(P:Program)(X:Fk)(Fin:Goroutine->Prop)(k:Nat)(m:Mn)(j:Nat)(H:View):Goroutine->Prop:=T (Mw P true X.ok) (MS P X Fin k m j) H
section
variable {P:Program}{X:Fk}{κ k:Nat}{t:Th}{H:View}{Fin:Goroutine->Prop}{m:Mn}{j:Nat}
theorem Jw.RO:Cl P false O3 (Jw P X κ k t H):=⟨fun g g' hs h ⟨h1,h2,h3⟩=> by
 have hw:∀w,stepG P false g w=.go g' w #[]:=fun w=> h w fun r x e=> by cases e
 refine⟨fun e=> ?_,fun e hm=> ?_,fun hm=> .ID hs hw (h3 hm)⟩
 ·obtain⟨q,hq⟩:=h1 e;exact⟨q+1,.ctl hs hw hq⟩
 ·obtain⟨n,hn⟩:=h2 e hm;exact⟨n+1,hs,g',hw,hn⟩⟩
theorem Jw.uX(hm:t.mute=false):Cl P false X.shp (Jw P X κ k t H):=⟨fun g g' hs h ⟨_,_,h3⟩=>
 ⟨fun e=> (by subst e;cases hm),fun _ e=> (by rw[hm] at e;cases e),fun e=> .step ⟨hs,fun w hw ho=> ⟨g',w,#[],H,h w (Fk.O9 ho),.refl hw,h3 e⟩⟩⟩⟩
theorem Jm.cl:Cl P true X.shp (Jm P X Fin k m j H):=⟨fun _ g' hs h h3=> .step ⟨hs,fun w hw ho=> ⟨g',w,#[],H,h w (Fk.O9 ho),.refl hw,h3⟩⟩⟩
theorem Jw.stop {g:Goroutine}(hq:t≠ .quit)(h:WS P X κ k t H g):Jw P X κ k t H g:=⟨fun e=> (hq e).elim,fun _ _=> ⟨0,h⟩,fun _=> .stop h⟩
theorem Jw.at {f:FuncId}{e:Array Value->Sem Value}{vs:List Value}{K:Value->Th->Prop}(hp:t.plain=true)(he:mI P f e)
  (h:∀w s,ShAt X w s->t.ok s->s.fits-> 
   ∃t' s' v w' es,(t',s')∈t.mv s/\EC P e vs w v w' es/\KJ X w w' s'/\ED X t.deaf t'.deaf es/\K v t'):
  HJ (Jw P X κ k t H) f vs fun v J'=> ∃k' t',k'<k/\K v t'/\J'=Jw P X κ k' t' H:=by
 intro b tmps ds cs o az arr i r kk hb hk ho ha hi hw hK;refine Jw.stop (fun e=> (by subst e;cases hp)) ?_;cases k with
 | zero=> trivial
 | succ k=>
  refine⟨⟨rfl,rfl⟩,fun e=> (by subst e;cases hp),fun e=> (by subst e;cases hp),fun e=> (by subst e;cases hp),fun _ w s rL tO QC PX=> ?_⟩;obtain⟨t',s',v,w',es,h1,h2,h3,h4,h5⟩:=h w s tO QC PX;obtain⟨g1,g2,g3⟩:=hK v _ ⟨k,t',Nat.lt_succ_self _,h5,rfl⟩;exact⟨t',s',_,w',es,h1,h2.YN he ho hb hk ha arr i r kk hi hw,h3,h4,fun _=> he.aGr ho hi,rfl,g1,g2,g3⟩
theorem Jm.at {f:FuncId}{e:Array Value->Sem Value}{vs:List Value}{K:Value->Mn->Prop}(hp:m.plain=true)(he:mI P f e)
  (h:∀w s,ShAt X w s->m.ok s->s.fits->(m.mv s= []/\(e vs.toArray).run P w=.halt .blocked w)\/ 
   ∃m' s' v w' es,(m',s')∈m.mv s/\EC P e vs w v w' es/\KJ X w w' s'/\ED X m.deaf m'.deaf es/\K v m'):
  HJ (Jm P X Fin k m j H) f vs fun v J'=> ∃k' m',k'<k/\K v m'/\J'=Jm P X Fin k' m' j H:=by
 intro b tmps ds cs o az arr i r kk hb hk ho ha hi hw hK;refine .stop ?_;cases k with
 | zero=> trivial
 | succ k=>
  refine⟨⟨rfl,rfl⟩,fun e=> (by subst e;cases hp),fun e=> (by subst e;cases hp),fun e=> (by subst e;cases hp),fun e=> (by subst e;cases hp),fun e=> (by subst e;cases hp),fun _ w s rL tO QC PX=> ?_⟩;rcases h w s tO QC PX with ⟨h1,h2⟩|⟨m',s',v,w',es,h1,h2,h3,h4,h5⟩
  ·exact .inl ⟨h1,kX.entry he ho hb ha h2 arr i r kk hi hw⟩
  ·exact .inr ⟨m',s',_,w',es,h1,h2.YN he ho hb hk ha arr i r kk hi hw,h3,h4,hK v _ ⟨k,m',Nat.lt_succ_self _,h5,rfl⟩⟩
theorem Jw.wr {f:FuncId}(he:mI P f (Extern.Race.marked .releaseMerge)):
  HJ (Jw P X κ k .wr H) f [.pointer (some (stA X.Wg))] fun v J'=> v=.tuple #[]/\∃k',k'<k/\J'=Jw P X κ k' .wk H:=by
 intro b tmps ds cs o' az arr i r kk hb hk ho ha hi hw hK;refine Jw.stop (by simp) ?_;cases k with
 | zero=> trivial
 | succ k=>
  refine⟨⟨rfl,rfl⟩,nofun,fun _ w hs=> ⟨_,EC.YN (EC.VT rfl) he ho hb hk ha arr i r kk hi hw,?_⟩,nofun,nofun⟩;exact(hK _ _ ⟨rfl,k,Nat.lt_succ_self _,rfl⟩).2.1 (by simp) rfl
theorem Jm.kr {f:FuncId}(he:mI P f (Extern.Race.marked .read)):HJ (Jm P X Fin k .kr j H) f [.pointer (some (smA X.Wg))] fun v J'=> v=.tuple #[]/\∃k',k'<k/\J'=Jm P X Fin k' .ke j H:=by
 intro b tmps ds cs o' az arr i r kk hb hk ho ha hi hw hK;refine .stop ?_;cases k with
 | zero=> trivial
 | succ k=> exact⟨⟨rfl,rfl⟩,nofun,fun _ w hs=> ⟨_,EC.YN (EC.VT rfl) he ho hb hk ha arr i r kk hi hw,hK _ _ ⟨rfl,k,Nat.lt_succ_self _,rfl⟩⟩,nofun,nofun,nofun,nofun⟩
theorem Jm.wm {f:FuncId}(he:mI P f (Extern.Race.marked .write)):HJ (Jm P X Fin k .wm j H) f [.pointer (some (smA X.Wg))] fun v J'=> v=.tuple #[]/\∃k',k'<k/\J'=Jm P X Fin k' .ws j H:=by
 intro b tmps ds cs o' az arr i r kk hb hk ho ha hi hw hK;refine .stop ?_;cases k with
 | zero=> trivial
 | succ k=> exact⟨⟨rfl,rfl⟩,nofun,nofun,fun _ w hs=> ⟨_,EC.YN (EC.VT rfl) he ho hb hk ha arr i r kk hi hw,hK _ _ ⟨rfl,k,Nat.lt_succ_self _,rfl⟩⟩,nofun,nofun,nofun⟩
theorem Jm.aq {f:FuncId}(he:mI P f (Extern.Race.marked .acquire)):HJ (Jm P X Fin k .aq j H) f [.pointer (some (stA X.Wg))] fun v J'=> v=.tuple #[]/\J'=Fin:=by
 intro b tmps ds cs o' az arr i r kk hb hk ho ha hi hw hK;refine .stop ?_;cases k with
 | zero=> trivial
 | succ k=> exact⟨⟨rfl,rfl⟩,nofun,nofun,nofun,fun _ w hs=> ⟨_,EC.YN (EC.VT rfl) he ho hb hk ha arr i r kk hi hw,hK _ _ ⟨rfl,rfl⟩⟩,nofun,nofun⟩
end
theorem aBI {P:Program}{tmps:Array Value}{o:Oper}{u:TypeId}{x y:Operand}{C κ:Nat}{ik:IntKind}{z:Int}{w:World}{old:Value}(lA:o.op=.store u x y)(hx:OB tmps x=.pointer (some ⟨C,κ,none⟩))(hy:OB tmps y=.int ik z)(hu:(P.info? u).map (·.size)=some 1)
  (hc:w.cell? ⟨C,κ,none⟩=some old) (hf:w.frozen? ⟨C,κ,none⟩=false):(execOp (OB tmps) o).runT P w #[]=(.ok .skip (w.setCell ⟨C,κ,none⟩ (.int ik z)),#[⟨.cell ⟨C,κ,none⟩,true,false⟩]):=by
 unfold execOp;rw[lA];simp only[hx,hy];obtain⟨n,rfl,hn⟩:=xS (P:=P) (sh:=O3) (sizeOf u) (Q:=fun n=> n=1) (zL hu rfl);show((((sizeOf u).bind fun n=> if(Value.int ik z).cells.size≠n then(stuck "storeVar: the value has not the size of the variable":Sem PUnit).bind fun _=> storeCells ⟨C,κ,none⟩ (Value.int ik z).cells.toList else storeCells ⟨C,κ,none⟩ (Value.int ik z).cells.toList)).bind fun _=> Sem.pure Next.skip).runT P w #[]=_;rw[Sem.runT_bind',Sem.runT_bind',hn w #[] (fun r x e=> by cases e)];have e1:¬(Value.int ik z).cells.size≠1:=fun h=> h rfl;dsimp only
 rw[if_neg e1];have e2:storeCells ⟨C,κ,none⟩ (Value.int ik z).cells.toList=Sem.store .plain ⟨C,κ,none⟩ (.int ik z) (.pure ()):=rfl;rw[e2];simp only[Sem.runT,hc,hf];rfl
theorem x9 {P:Program}{main:Bool}{b:FB}{tmps:Array Value}{ds:List Deferred}{cs:List Frame}{o:Oper}{w:World}{u:TypeId}{x y:Operand}{C κ:Nat}{ik:IntKind}{z:Int}{old:Value}(lA:o.op=.store u x y)(hd:o.dst=none)(hx:OB tmps x=.pointer (some ⟨C,κ,none⟩))(hy:OB tmps y=.int ik z)(hu:(P.info? u).map (·.size)=some 1)
  (hc:w.cell? ⟨C,κ,none⟩=some old) (hf:w.frozen? ⟨C,κ,none⟩=false) {arr:Array Oper} {i:Nat} {r:List Nat} {k:List Item} (hi:arr[i]? =some o) (hw:Region.wanted o (yielded arr tmps)=true):
  ∃es,stepG P main (G (b.at tmps ds (.inRegion arr (i::r)::k)) cs) w=.go (G (b.at tmps ds (.inRegion arr r::k)) cs) (w.setCell ⟨C,κ,none⟩ (.int ik z)) es/\∀e∈es,e=⟨.cell ⟨C,κ,none⟩,true,false⟩:=by
 have hg:stepG P main (G (b.at tmps ds (.inRegion arr (i::r)::k)) cs) w=stepG.apply P true (b.at tmps ds (.inRegion arr (i::r)::k)) cs none (execOp (b.at tmps ds (.inRegion arr (i::r)::k)).eval o) w:=by
  cases WO:b.rd <;> simp[G,stepG,stepG.exec,stepG.oper,Frame.oper?,FB.at,hi,hw,lA,WO]
 rw[FB.eval_at] at hg;rw[hg];have OD:(b.at tmps ds (.inRegion arr (i::r)::k)).finish undef=b.at tmps ds (.inRegion arr r::k):=by rw[FB.finish_at,hi];simp[HB,hd]
 refine⟨seen P (b.at tmps ds (.inRegion arr (i::r)::k)).fn (if(b.at tmps ds (.inRegion arr (i::r)::k)).kind==.early then #[] else #[⟨.cell ⟨C,κ,none⟩,true,false⟩]),?_,fun e he=> ?_⟩
 ·have key:stepG.apply P true (b.at tmps ds (.inRegion arr (i::r)::k)) cs none (execOp (OB tmps) o) w=GStep.after (seen P (b.at tmps ds (.inRegion arr (i::r)::k)).fn (if(b.at tmps ds (.inRegion arr (i::r)::k)).kind==.early then #[] else #[⟨.cell ⟨C,κ,none⟩,true,false⟩])) (.go (G ((b.at tmps ds (.inRegion arr (i::r)::k)).finish undef) cs) (w.setCell ⟨C,κ,none⟩ (.int ik z))):=by
   unfold stepG.apply;rw[if_pos rfl,aBI lA hx hy hu hc hf];rfl
  rw[key,OD];simp[GStep.after]
 ·have:=mem_seen he;split at this
  ·simp at this
  ·simpa using this
theorem UW {a:Int}:IntKind.u64.wrap a=a%18446744073709551616:=by
 simp[IntKind.wrap,IntKind.signed,IntKind.bits]
section
variable {P:Program}{X:Fk}{κ k:Nat}{H:View}{Fin:Goroutine->Prop}{j:Nat}{f:FuncId}
abbrev aBa:Array Value->Sem Value:=fun _=> do mark .disable;pure Extern.Race.none_
abbrev enE:Array Value->Sem Value:=fun _=> do mark .enable;pure Extern.Race.none_
theorem Jw.wk(he:mI P f aBa):HJ (Jw P X κ k .wk H) f [] fun v J'=> ∃k' t',k'<k/\(v=.tuple #[]/\t'=Th.wi)/\J'=Jw P X κ k' t' H:=
 Jw.at (K:=fun v t'=> v=.tuple #[]/\t'=.wi) rfl he fun w s hs _ _=> ⟨.wi,s,_,w,_,by simp[Th.mv],EC.n0 rfl,.same hs,NN 0,rfl,rfl⟩
theorem Jw.wi(he:mI P f (fun _=> pure (.bool false))):HJ (Jw P X κ k .wi H) f [] fun v J'=> ∃k' t',k'<k/\(v=.bool false/\t'=Th.d1)/\J'=Jw P X κ k' t' H:=
 Jw.at (K:=fun v t'=> v=.bool false/\t'=.d1) rfl he fun w s hs _ _=> ⟨.d1,s,_,w,_,by simp[Th.mv],EC.idle rfl,.same hs,MQ 1,rfl,rfl⟩
theorem Jw.d1(he:mI P f (Extern.Atomic.update (Op.intArith .add) .u64 true)):
  HJ (Jw P X κ k .d1 H) f [.pointer (some (stA X.Wg)),.int .u64 18446744069414584320] fun v J'=> ∃k' t',k'<k/\(∃a b:Nat,a<6/\b<=1/\v=.int .u64 ((a*4294967296+b:Nat):Int)/\t'=(if a=0/\b=1 then Th.d2 else .quit))/\J'=Jw P X κ k' t' H:=
 Jw.at (K:=fun v t'=> ∃a b:Nat,a<6/\b<=1/\v=.int .u64 ((a*4294967296+b:Nat):Int)/\t'=(if a=0/\b=1 then Th.d2 else .quit)) rfl he fun w s hs QC hf=> by
  have hc:0<s.c:=QC;obtain⟨f3,f4,f5⟩:=hf;refine⟨if s.c-1=0/\s.w=1 then Th.d2 else .quit,{ s with c:=s.c-1 },.int .u64 (((s.c-1)*4294967296+s.w:Nat):Int),_,_,?_,EC.add hs.wgC hs.wgZ (r:=(((s.c-1)*4294967296+s.w:Nat):Int)) ?_,.wgS hs _ _,?_,s.c-1,s.w,oM,f4,rfl,rfl⟩
  ·have e:(s.c-1=0/\s.w=1)<->(s.c=1/\s.w=1):=by omega
   simp only[Th.mv,e,List.mem_singleton]
  ·rw[UW];omega
  ·have:∀t:Th,t.deaf=1->ED X Th.d1.deaf t.deaf #[⟨.cell (stA X.Wg),false,true⟩,⟨.cell (stA X.Wg),true,true⟩]:=fun t ht=> by rw[ht];exact NQ rfl
   apply this
   split <;> rfl
theorem Jw.d2(he:mI P f (Extern.Atomic.loadT (.int .u64))):HJ (Jw P X κ k .d2 H) f [.pointer (some (stA X.Wg))] fun v J'=> ∃k' t',k'<k/\(v=.int .u64 1/\t'=Th.d3)/\J'=Jw P X κ k' t' H:=
 Jw.at (K:=fun v t'=> v=.int .u64 1/\t'=.d3) rfl he fun w s hs QC _=> by
  obtain⟨h1,h2⟩:s.c=0/\s.w=1:=QC;refine⟨.d3,s,_,w,_,by simp[Th.mv],EC.load hs.wgC,.same hs,CM rfl false,?_,rfl⟩;simp[h1,h2]
theorem Jw.d3(he:mI P f Extern.Atomic.storeT):HJ (Jw P X κ k .d3 H) f [.pointer (some (stA X.Wg)),.int .u64 0] fun v J'=> ∃k' t',k'<k/\(v=.tuple #[]/\t'=Th.d4)/\J'=Jw P X κ k' t' H:=
 Jw.at (K:=fun v t'=> v=.tuple #[]/\t'=.d4) rfl he fun w s hs QC _=> by
  obtain⟨h1,h2⟩:s.c=0/\s.w=1:=QC;have ht:=KJ.wgS hs 0 0;rw[show({ s with c:=0,w:=0 }:Sh)= { s with w:=0 } by cases s;simp at h1;simp[h1]] at ht;exact⟨.d4,{ s with w:=0 },_,_,_,by simp[Th.mv],EC.aEJ (v:=0) hs.wgC hs.wgZ,ht,CM rfl true,rfl,rfl⟩
theorem Jw.d4 {vs:List Value}(he:mI P f Extern.Sync.semrelease)(hx:vs[0]? =some (.pointer (some (smA X.Wg)))):HJ (Jw P X κ k .d4 H) f vs fun v J'=> ∃k' t',k'<k/\(v=.tuple #[]/\t'=Th.quit)/\J'=Jw P X κ k' t' H:=
 Jw.at (K:=fun v t'=> v=.tuple #[]/\t'=.quit) rfl he fun w s hs QC _=> by
  have hq:s.q=0:=QC;exact⟨.quit,{ s with q:=s.q+1 },_,_,_,by simp[Th.mv],EC.aHz hx hs.smC oM hs.smZ,.smS hs _,yS rfl,rfl,rfl⟩
theorem Jm.kd(he:mI P f aBa):HJ (Jm P X Fin k .kd j H) f [] fun v J'=> ∃k' m',k'<k/\(v=.tuple #[]/\m'=Mn.ki)/\J'=Jm P X Fin k' m' j H:=
 Jm.at (K:=fun v m'=> v=.tuple #[]/\m'=.ki) rfl he fun w s hs _ _=> .inr ⟨.ki,s,_,w,_,by simp[Mn.mv],EC.n0 rfl,.same hs,NN 0,rfl,rfl⟩
theorem Jm.ki(he:mI P f (fun _=> pure (.bool false))):HJ (Jm P X Fin k .ki j H) f [] fun v J'=> ∃k' m',k'<k/\(v=.bool false/\m'=Mn.ka)/\J'=Jm P X Fin k' m' j H:=
 Jm.at (K:=fun v m'=> v=.bool false/\m'=.ka) rfl he fun w s hs _ _=> .inr ⟨.ka,s,_,w,_,by simp[Mn.mv],EC.idle rfl,.same hs,MQ 1,rfl,rfl⟩
theorem Jm.ka(he:mI P f (Extern.Atomic.update (Op.intArith .add) .u64 true)):
  HJ (Jm P X Fin k .ka j H) f [.pointer (some (stA X.Wg)),.int .u64 4294967296] fun v J'=> ∃k' m',k'<k/\(∃a:Nat,a<=6/\v=.int .u64 (((a+1)*4294967296:Nat):Int)/\m'=(if a=0 then Mn.kr else .ke))/\J'=Jm P X Fin k' m' j H:=
 Jm.at (K:=fun v m'=> ∃a:Nat,a<=6/\v=.int .u64 (((a+1)*4294967296:Nat):Int)/\m'=(if a=0 then Mn.kr else .ke)) rfl he fun w s hs QC hf=> by
  have hw:s.w=0:=QC;obtain⟨f3,f4,f5⟩:=hf;refine .inr ⟨if s.c=0 then Mn.kr else .ke,{ s with c:=s.c+1 },.int .u64 (((s.c+1)*4294967296:Nat):Int),_,_,by simp[Mn.mv],EC.add hs.wgC hs.wgZ (r:=(((s.c+1)*4294967296:Nat):Int)) ?_,?_,?_,s.c,f3,rfl,rfl⟩
  ·rw[UW];omega
  ·have ht:=KJ.wgS hs (s.c+1) 0;rw[show({ s with c:=s.c+1,w:=0 }:Sh)= { s with c:=s.c+1 } by cases s;simp at hw;simp[hw],Nat.add_zero] at ht;exact ht
  ·have:∀m:Mn,m.deaf=1->ED X Mn.ka.deaf m.deaf #[⟨.cell (stA X.Wg),false,true⟩,⟨.cell (stA X.Wg),true,true⟩]:=fun t ht=> by rw[ht];exact NQ rfl
   apply this
   split <;> rfl
theorem Jm.wd(he:mI P f aBa):HJ (Jm P X Fin k .wd j H) f [] fun v J'=> ∃k' m',k'<k/\(v=.tuple #[]/\m'=Mn.w1)/\J'=Jm P X Fin k' m' j H:=
 Jm.at (K:=fun v m'=> v=.tuple #[]/\m'=.w1) rfl he fun w s hs _ _=> .inr ⟨.w1,s,_,w,_,by simp[Mn.mv],EC.n0 rfl,.same hs,NN 0,rfl,rfl⟩
theorem Jm.we(he:mI P f enE):HJ (Jm P X Fin k .we j H) f [] fun v J'=> ∃k' m',k'<k/\(v=.tuple #[]/\m'=Mn.aq)/\J'=Jm P X Fin k' m' j H:=
 Jm.at (K:=fun v m'=> v=.tuple #[]/\m'=.aq) rfl he fun w s hs _ _=> .inr ⟨.aq,s,_,w,_,by simp[Mn.mv],EC.n0 rfl,.same hs,wW 0,rfl,rfl⟩
theorem Jm.w1(he:mI P f (Extern.Atomic.loadT (.int .u64))):HJ (Jm P X Fin k .w1 j H) f [.pointer (some (stA X.Wg))] fun v J'=> ∃k' m',k'<k/\(∃a:Nat,a<=6/\v=.int .u64 ((a*4294967296:Nat):Int)/\m'=(if a=0 then Mn.we else .w2 a))/\J'=Jm P X Fin k' m' j H:=
 Jm.at (K:=fun v m'=> ∃a:Nat,a<=6/\v=.int .u64 ((a*4294967296:Nat):Int)/\m'=(if a=0 then Mn.we else .w2 a)) rfl he fun w s hs QC hf=> by
  have hw:s.w=0:=QC;refine .inr ⟨if s.c=0 then Mn.we else .w2 s.c,s,_,w,_,by simp[Mn.mv],EC.load hs.wgC,.same hs,?_,s.c,hf.1,by simp[hw],rfl⟩;have:∀m:Mn,m.deaf=1->ED X Mn.w1.deaf m.deaf #[⟨.cell (stA X.Wg),false,true⟩]:=fun t ht=> by rw[ht];exact CM rfl false
  apply this
  split <;> rfl
theorem Jm.w2 {o:Nat}(he:mI P f (Extern.Atomic.casT (.int .u64))):HJ (Jm P X Fin k (.w2 o) j H) f [.pointer (some (stA X.Wg)),.int .u64 ((o*4294967296:Nat):Int),.int .u64 ((o*4294967296+1:Nat):Int)] fun v J'=> ∃k' m',k'<k/\((v=.bool true/\m'=Mn.wm)\/(v=.bool false/\m'=Mn.w1))/\J'=Jm P X Fin k' m' j H:=
 Jm.at (K:=fun v m'=> (v=.bool true/\m'=.wm)\/(v=.bool false/\m'=.w1)) rfl he fun w s hs QC _=> by
  obtain⟨hw,_,_⟩:s.w=0/\0<o/\o<=6:=QC;by_cases e:s.c=o
  ·have ht:=KJ.wgS hs o 1;rw[show({ s with c:=o,w:=1 }:Sh)= { s with w:=1 } by cases s;simp at e;simp[e]] at ht;exact .inr ⟨.wm,{ s with w:=1 },_,_,_,by simp[Mn.mv,e],EC.cas hs.wgC hs.wgZ (by simp[hw,e]),ht,NQ rfl,.inl ⟨rfl,rfl⟩⟩
  ·exact .inr ⟨.w1,s,_,w,_,by simp[Mn.mv,e],EC.aGC hs.wgC hs.wgZ oM,.same hs,CM rfl false,.inr ⟨rfl,rfl⟩⟩
theorem Jm.ws {vs:List Value}(he:mI P f Extern.Sync.semacquire)(hx:vs[0]? =some (.pointer (some (smA X.Wg)))):HJ (Jm P X Fin k .ws j H) f vs fun v J'=> ∃k' m',k'<k/\(v=.tuple #[]/\m'=Mn.w4)/\J'=Jm P X Fin k' m' j H:=
 Jm.at (K:=fun v m'=> v=.tuple #[]/\m'=.w4) rfl he fun w s hs _ _=> by
  by_cases e:s.q=0
  ·exact .inl ⟨by simp[Mn.mv,e],DW hx (by rw[hs.smC,e];rfl)⟩
  ·exact .inr ⟨.w4,{ s with q:=s.q-1 },_,_,_,by simp[Mn.mv,e],EC.aHy hx hs.smC e hs.smZ,.smS hs _,yS rfl,rfl,rfl⟩
theorem Jm.w4(he:mI P f (Extern.Atomic.loadT (.int .u64))):HJ (Jm P X Fin k .w4 j H) f [.pointer (some (stA X.Wg))] fun v J'=> ∃k' m',k'<k/\(v=.int .u64 0/\m'=Mn.we)/\J'=Jm P X Fin k' m' j H:=
 Jm.at (K:=fun v m'=> v=.int .u64 0/\m'=.we) rfl he fun w s hs QC _=> by
  obtain⟨h1,h2⟩:s.c=0/\s.w=0:=QC;refine .inr ⟨.we,s,_,w,_,by simp[Mn.mv],EC.load hs.wgC,.same hs,CM rfl false,?_,rfl⟩;simp[h1,h2]
end
section
variable {P:Program}{X:Fk}{κ k:Nat}{H:View}{Fin:Goroutine->Prop}{j:Nat}{f:FuncId}
section
variable {main:Bool}{sh:Shp}{J:Goroutine->Prop}{n:Nat}{b:FB}{cs:List Frame}{R:Rg}{ds:List Deferred}{kk:List Item}{dl:List (Option Tmp)}{l:List Oper}{o:Oper}
theorem FB.K8(h:b.rd=none){tmps:Array Value}(todo:List Item):b.back tmps ds todo= { (kf b).at ⟨tmps,ds⟩ todo with mode:=.returning }:=by
 simp[FB.back,Frame.at,kf,h]
structure aAG(o:Oper)(f:FuncId)(az:List Operand):Prop where
 ex:∃ats,o.op=.defer { callee:=.value (.func f),args:=az.toArray,argTypes:=ats }
theorem So.defer(hc:Cl P main sh J){az:List Operand}{vs:List Value}(hb:b.rd=none)(hk:b.kind≠ .early)(hw:TA dl R o=some true)(hd:SK n o=true)(ho:aAG o f az)(ha:lD R az=some vs)
  (h:So J n b cs dl (QK o undef R) (dcall f vs.toArray::ds) l kk):So J n b cs dl R ds (o::l) kk:=fun arr ix lI hx=> by
 cases ix with
 | nil=> simp at hx
 | cons i r=>
  simp only[List.map_cons,List.cons.injEq] at hx;intro tmps hr;obtain⟨ats,lA⟩:=ho;refine hc.go (g':=G (b.at (HB tmps o.dst undef) (dcall f vs.toArray::ds) (.inRegion arr r::kk)) cs) rfl (fun w=> ?_) (h arr r lI hx.2 _ (hr.QK hd undef));have hm:(az.toArray).map (Go.Act.eval ⟨tmps,ds⟩)=vs.toArray:=by
   rw[List.map_toArray,<-hr.evs ha]
   congr 1
  rw[FB.kit hb,stepG_defer (a:=⟨tmps,ds⟩) hx.1 (rB lI hr hw) (by simpa [kf] using hk) lA,hm,QT hb]
theorem Sb.aCN(hc:Cl P main sh J){fn:Func}{body:Code}{m:Nat}{vs:List Value}(hb:b.rd=none)(hf:P.funcs[f]? =some fn)(KV:(fn.name== "runtime.NumGoroutine")=false)(X4:fn.body=some body)(hn:fn.ntmps=m)(hv:vs.length<=m)
  (h:∀c,c.mode=.returning->(∀J',Sb J' n b cs R ds->J' (G c cs))->Sc J m ⟨f,.deferred,none⟩ (c::cs) (gL vs) [] [.code body]):Sb J n b cs R (dcall f vs.toArray::ds):=fun tmps todo hr=> by
 have:=h (b.back tmps ds todo) rfl (fun J' hJ=> hJ tmps todo hr) (vs.toArray++Array.replicate (m-vs.length) undef) ⟨by simp;omega,fun d v hd=> ?_⟩
 ·refine hc.go rfl (fun w=> ?_) this;rw[FB.K8 hb,stepG_unwind_enter (f:=f) (args:=vs.toArray) (ds:=ds) rfl hf KV X4,FB.K8 hb];have e:(baseD f).at { tmps:=vs.toArray++Array.replicate (fn.ntmps-vs.toArray.size) undef,defers:= [] } [.code body]=(⟨f,.deferred,none⟩:FB).at (vs.toArray++Array.replicate (m-vs.length) undef) [] [.code body]:=by
   simp[FB.at,Frame.at,baseD,hn]
  rw[e]
 ·obtain⟨_,h2⟩:=zG vs 0 d v hd;simp only[Nat.sub_zero] at h2;have KB:=(List.getElem?_eq_some_iff.1 h2).1;rw[Array.getElem?_append_left (by simpa using KB)];simpa using h2
theorem Jm.ke(he:mI P f enE)(hb:b.rd=none)(h:∀k',k'<k->Sb (Jm P X Fin k' .go j H) n b cs R ds):Sb (Jm P X Fin k .ke j H) n b cs R (dcall f #[]::ds):=fun tmps todo hr=> by
 refine .stop ?_;cases k with
 | zero=> trivial
 | succ k=>
  refine⟨⟨rfl,rfl⟩,nofun,nofun,nofun,nofun,nofun,fun _ w s rL hs _ _=> .inr ⟨.go,s,_,w,#[Go.ConcR.mk .enable],by simp[Mn.mv],?_,.same hs,wW 0,h k (Nat.lt_succ_self _) tmps todo hr⟩⟩;obtain⟨fn,h1,h2,h3,h4,h5⟩:=he;rw[FB.K8 hb,stepG_unwind_entry (f:=f) (args:=#[]) (ds:=ds) (v:=.tuple #[]) (w':=w) (evs:=#[Go.ConcR.mk .enable]) rfl h1 h2 h3 h4 h5 (by simp[Extern.Race.none_]) (by simp[Go.ConcR.mk]) (by
   intro x hx;simp at hx
   subst hx;exact⟨rfl,fun g e=> by cases e⟩),FB.K8 hb]
def Jq(P:Program)(d:Nat):Goroutine->Prop:=fun g=> ∃q,QuitsD P q d g
theorem Jq.cl {d:Nat}:Cl P false O3 (Jq P d):=⟨fun g g' hs h ⟨q,hq⟩=> ⟨q+1,.ctl hs (fun w=> h w fun r x e=> by cases e) hq⟩⟩
theorem Jq.jw {g:Goroutine}(h:Jq P 1 g):Jw P X κ k .quit H g:=⟨fun _=> h,fun e=> (e rfl).elim,nofun⟩
theorem Jq.en(he:mI P f enE)(hb:b.rd=none)(h:Sb (Jq P 0) n b cs R ds):Sb (Jq P 1) n b cs R (dcall f #[]::ds):=fun tmps todo hr=> by
 obtain⟨q,hq⟩:=h tmps todo hr;obtain⟨fn,h1,h2,h3,h4,h5⟩:=he;rw[FB.K8 hb] at hq ⊢;exact⟨q+1,.unwind_mark .enable rfl (fun g e=> by cases e) rfl h1 h2 h3 h4 h5 hq⟩
def F6(P:Program):Frame:= { (default:Frame) with fn:=P.funcs.size,defers:= [],mode:=.panicking [goexitEntry] }
theorem Jq.bot:Jq P 0 (G (F6 P) []):=⟨1,.ctl (g':= { G (F6 P) [] with status:=.finished }) rfl (fun w=> by
 simp[G,stepG,unwind,F6,goexitEntry,Frame.catches]
 rfl) ⟨rfl,rfl⟩⟩
theorem Cl.born(hc:Cl P main sh J){fn:Func}{body:Code}{m:Nat}{vs:List Value}{args caps:Array Value}(hf:P.funcs[f]? =some fn)(KV:(fn.name== "runtime.NumGoroutine")=false)(X4:fn.body=some body)(hn:fn.ntmps=m)(hv:vs.length<=m)(hvs:args++caps=vs.toArray)
  (h:Sc J m ⟨f,.deferred,none⟩ [F6 P] (gL vs) [] [.code body]):J (Go.Conc.born P { target:=.fn (.func f) caps,args:=args }):=by
 have:=h (vs.toArray++Array.replicate (m-vs.length) undef) ⟨by simp;omega,fun d v hd=> ?_⟩
 ·refine hc.go rfl (fun w=> ?_) this;have e:(⟨f,.deferred,none⟩:FB).at (vs.toArray++Array.replicate (m-vs.length) undef) [] [.code body]=Frame.enter P f vs.toArray .deferred:=by
   simp[Frame.enter,FB.at,hf,X4,hn]
  rw[e];have h1:¬fn.name= "runtime.NumGoroutine":=by simpa using KV
  simp[Go.Conc.born,G,stepG,unwind,callDeferred,invoke,callFunc,hf,h1,X4,hvs,GStep.after,seen_none,F6]
 ·obtain⟨_,h2⟩:=zG vs 0 d v hd;simp only[Nat.sub_zero] at h2;have KB:=(List.getElem?_eq_some_iff.1 h2).1;rw[Array.getElem?_append_left (by simpa using KB)];simpa using h2
theorem Jm.go {fn first caps:Array Value}{cl:Go.Call}{x:Operand}(hb:b.rd=none)(hk:b.kind≠ .early)(hw:TA dl R o=some true)(hd:SK n o=true)(lA:o.op=.go cl)(iB:cl.callee=.value x)(hx:JA R x=some (.func (.func f) first caps))(QX:fn=first ++ #[])(has:cl.args=#[])
  (h1:∀k',k'<k->So (Jm P X Fin k' (if j+1<X.n then .kd else .wd) (j+1) (ro H)) n b cs dl (QK o undef R) ds l kk)
  (h2:∀k',k'<k->Jw P X j k' .pw (ro H) (Go.Conc.born P { target:=.fn (.func f) caps,args:=fn })):So (Jm P X Fin k .go j H) n b cs dl R ds (o::l) kk:=fun arr ix lI sP=> by
 cases ix with
 | nil=> simp at sP
 | cons i r=>
  simp only[List.map_cons,List.cons.injEq] at sP;intro tmps hr;refine .stop ?_;cases k with
  | zero=> trivial
  | succ k=>
   refine⟨⟨rfl,rfl⟩,fun _ w hs=> ⟨G (b.at (HB tmps o.dst undef) ds (.inRegion arr r::kk)) cs,Go.Conc.born P { target:=.fn (.func f) caps,args:=fn },?_,h1 k (Nat.lt_succ_self _) arr r lI sP.2 _ (hr.QK hd undef),(h2 k (Nat.lt_succ_self _)).2.2 rfl⟩,nofun,nofun,nofun,nofun,nofun⟩;have e1:=hr.ev hx;have e2:Go.Act.eval ⟨tmps,ds⟩ x=.func (.func f) first caps:=e1;have eI:(execOp (Go.Act.eval ⟨tmps,ds⟩) o).run P w=.ok (.spawn { target:=.fn (.func f) caps,args:=fn }) w:=by
    unfold execOp;subst QX;simp[lA,resolve,iB,e2,has,Deferred.ofValue]
   have NX:(execOp (Go.Act.eval ⟨tmps,ds⟩) o).events P w #[]=#[]:=by
    unfold execOp;simp[lA,resolve,iB,e2,has,Deferred.ofValue]
   rw[FB.kit hb,stepG_spawn (a:=⟨tmps,ds⟩) sP.1 (rB lI hr hw) (by simpa [kf] using hk) eI rfl,QT hb];unfold listed;rw[NX,seen_none]
end
theorem So.own {n:Nat}{b:FB}{cs:List Frame}{R:Rg}{ds:List Deferred}{kk:List Item}{dl:List (Option Tmp)}{l:List Oper}{o:Oper}{u:TypeId}{x y:Operand}{ik:IntKind}{z:Int}(hw:TA dl R o=some true)(hd:o.dst=none)(lA:o.op=.store u x y)
  (hx:JA R x=some (.pointer (some ⟨X.C,κ,none⟩))) (hy:JA R y=some (.int ik z)) (hu:(P.info? u).map (·.size)=some 1)
  (hG:∀D o,D κ=false->X.GI D o->∃c e,o=.cells c e (0,0)/\κ<c.size/\X.GI (bV D κ) (.cells (c.setIfInBounds κ (.int ik z)) e (0,0)))
  (h:∀k',k'<k->So (Jw P X κ k' .wr H) n b cs dl R ds l kk):So (Jw P X κ k .pw H) n b cs dl R ds (o::l) kk:=fun arr ix ha sP=> by
 cases ix with
 | nil=> simp at sP
 | cons i r=>
  simp only[List.map_cons,List.cons.injEq] at sP;intro tmps hr;refine Jw.stop (by simp) ?_;cases k with
  | zero=> trivial
  | succ k=>
   refine⟨⟨rfl,rfl⟩,fun _ D o' hD hG' w hs hC=> ?_,nofun,nofun,nofun⟩;obtain⟨c,e,rfl,KB,hG2⟩:=hG D o' hD hG';have aHV:=(Array.getElem?_eq_some_iff.1 hC).1;obtain⟨es,h1,h2⟩:=x9 (main:=false) (b:=b) (ds:=ds) (cs:=cs) (w:=w) (k:=kk) (r:=r) (old:=c[κ]) lA hd (hr.ev hx) (hr.ev hy) hu (by simp[World.cell?,hC,KB]) (by simp[World.frozen?,hC]) sP.1 (rB ha hr hw);refine⟨_,_,_,es,h1,⟨⟨rfl,rfl⟩,by simp[World.setCell],fun b hb=> by simp[World.setCell,Array.getElem?_modify,Ne.symm hb],?_,h2⟩,hG2,?_⟩
   ·simp[World.setCell,Array.getElem?_modify,hC]
   ·exact(h k (Nat.lt_succ_self _) arr r ha sP.2 tmps hr).2.2 rfl
theorem Sc.drop {J:Goroutine->Prop}{n:Nat}{b:FB}{cs:List Frame}{R R':Rg}{ds:List Deferred}{kk:List Item}(hR:pC R' R)(h:Sc J n b cs R' ds kk):Sc J n b cs R ds kk:=fun tmps hr=> h tmps ⟨hr.1,fun d v hv=> hr.2 d v (hR.sub d v hv)⟩
def cL:Code->Code
 | .seq x _=> x
 | c=> c
def cR:Code->Code
 | .seq _ y=> y
 | c=> c
def cB:Code->Code
 | .block _ c=> c
 | .loop c=> c
 | c=> c
def kN(fn:Func):Code:=fn.body.getD .skip
section
variable {main:Bool}{M:Md P}{St:View->Goroutine->Prop}{J J':Goroutine->Prop}{n:Nat}{b:FB}{H₀:View}{L:Bl}{cs:List Frame}{R:Rg}{ds:List Deferred}{kk:List Item}{dl:List (Option Tmp)}{l:List Oper}
theorem Tc.aFR(h:∀H,jA H₀ L H->Sc (T M St H) n b cs R ds kk):Tc M St n b H₀ cs R L ds kk:=fun H tmps hs hr=> h H hs tmps hr
theorem To.aHp(h:∀H,jA H₀ L H->So (T M St H) n b cs dl R ds l kk):To M St n b H₀ cs dl R L ds l kk:=fun arr ix ha hx H tmps hs hr=> h H hs arr ix ha hx tmps hr
theorem So.aHq(hs:jA H₀ L H)(h:To M St n b H₀ cs dl R L ds l kk):So (T M St H) n b cs dl R ds l kk:=fun arr ix ha hx tmps hr=> h arr ix ha hx H tmps hs hr
theorem Sc.aFS(hs:jA H₀ L H)(h:Tc M St n b H₀ cs R L ds kk):Sc (T M St H) n b cs R ds kk:=fun tmps hr=> h H tmps hs hr
theorem So.mono(h:So J n b cs dl R ds l kk)(hj:∀g,J g->J' g):So J' n b cs dl R ds l kk:=fun arr ix ha hx tmps hr=> hj _ (h arr ix ha hx tmps hr)
theorem Jw.R3 {t:Th}(hm:t.mute=false){g:Goroutine}(h:T (Mw P false X.ok) (WS P X κ k t) H g):Jw P X κ k t H g:=⟨fun e=> (by subst e;cases hm),fun _ e=> (by rw[hm] at e;cases e),fun _=> h⟩
theorem Jw.toT {t:Th}(hm:t.mute=false){g:Goroutine}(h:Jw P X κ k t H g):T (Mw P false X.ok) (WS P X κ k t) H g:=h.2.2 hm
end
end
end Go.RL
namespace Go.RL
open Go.Conc
section
variable {P:Program}{M:Md P}{n:Nat}{H₀:View}{R:Rg}{L:Bl}{K:Rg->Bl->Prop}{o:Oper}{d:Nat}
theorem jA.more {H H':View}{B:Bl}(h:jA H₀ L H)(hle:H.le H')(hn:(B.map (·.1)).Nodup)(hb:∀y∈B,H' y.1=some y.2/\H y.1=none):jA H₀ (L++B) H':=by
 have hs:=h.mono hle;refine⟨?_,fun x hx=> ?_,fun x hx=> ?_,hs.base⟩
 ·rw[List.map_append,List.nodup_append];refine⟨hs.nodup,hn,fun a ha c hc e=> ?_⟩;obtain⟨x,hx,rfl⟩:=List.mem_map.1 ha;obtain⟨y,hy,rfl⟩:=List.mem_map.1 hc;have h1:=h.at_ x hx;rw[e,(hb y hy).2] at h1;cases h1
 ·rcases List.mem_append.1 hx with hx|hx
  ·exact hs.out x hx
  ·cases h0:H₀ x.1 with
   | none=> rfl
   | some z=>
    have h1:=h.base _ _ h0;rw[(hb x hx).2] at h1;cases h1
 ·rcases List.mem_append.1 hx with hx|hx
  ·exact hs.at_ x hx
  ·exact(hb x hx).1
theorem Or.xA {σ:Type}{cl:Go.Call}{x:Operand}{fv:Value}{az:List Value}(val:σ->Value)(bl:σ->Bl)(p:σ->Prop)(lA:o.op=.call cl)(iB:cl.callee=.value x)(hx:JA R x=some fv)(has:lD R cl.args.toList=some az)(hd:o.dst=some d)(hn:d<n)
  (mF:∀s,((bl s).map (·.1)).Nodup) (hc:∀H,jA H₀ L H->WB M fv az H fun v H'=> H.le H'/\∃s,v=val s/\p s/\∀y∈bl s,H' y.1=some y.2/\H y.1=none)
  (hk:∀s,p s->K ((d,val s)::R) (L++bl s)):Or M n H₀ R L o K:=
 .IP lA iB hx has (Q:=fun H v H'=> H.le H'/\∃s,v=val s/\p s/\∀y∈bl s,H' y.1=some y.2/\H y.1=none) hc fun H v H' hs ⟨hle,s,hv,hp,hb⟩=> by
  subst hv;exact⟨L++bl s,(d,val s)::R,hs.more hle (mF s) hb,by rw[hd];exact⟨hn,rfl⟩,hk s hp⟩
end
section
variable {P:Program}{M:Md P}{St:View->Goroutine->Prop}{n:Nat}{b:FB}{H₀ H₁:View}{cs:List Frame}{R:Rg}{L:Bl}{ds:List Deferred}{k:List Item}{dl:List (Option Tmp)}{l:List Oper}
theorem jA.lower {H:View}(h:jA H₁ L H)(k:H₀.le H₁):jA H₀ L H:=
 ⟨h.nodup,fun x hx=> (by
  cases h0:H₀ x.1 with
  | none=> rfl
  | some y=> have:=h.out x hx;rw[k _ _ h0] at this;cases this),h.at_,View.le_trans k h.base⟩
theorem Tc.lower {todo:List Item}(hle:H₀.le H₁)(h:Tc M St n b H₀ cs R L ds todo):Tc M St n b H₁ cs R L ds todo:=fun H tmps hs hr=> h H tmps (hs.lower hle) hr
theorem To.lower(hle:H₀.le H₁)(h:To M St n b H₀ cs dl R L ds l k):To M St n b H₁ cs dl R L ds l k:=fun arr ix ha hx=> .lower hle (h arr ix ha hx)
theorem jA.fresh {H:View}(h:jA H₀ L H){i blk:Nat}{x:Bool×Obj}(hi:L[i]? =some (blk,x)):H₀ blk=none:=h.out _ (List.mem_of_getElem? hi)
theorem jA.perm {H:View}(h:jA H₀ L H){L':Bl}(p:L'.Perm L):jA H₀ L' H:=
 ⟨(p.map (·.1)).nodup_iff.2 h.nodup,fun x hx=> h.out x (p.mem_iff.1 hx),fun x hx=> h.at_ x (p.mem_iff.1 hx),h.base⟩
theorem jA.append {H H':View}{B:Bl}(h:jA H₀ L H)(g:jA H B H'):jA H₀ (B++L) H':=by
 refine⟨?_,fun x hx=> ?_,fun x hx=> ?_,View.le_trans h.base g.base⟩
 ·rw[List.map_append,List.nodup_append];refine⟨g.nodup,h.nodup,fun a ha c hc e=> ?_⟩;obtain⟨x,hx,rfl⟩:=List.mem_map.1 ha;obtain⟨y,hy,rfl⟩:=List.mem_map.1 hc;have h1:=h.at_ y hy;rw[<-e,g.out x hx] at h1;cases h1
 ·rcases List.mem_append.1 hx with hx|hx
  ·cases h0:H₀ x.1 with
   | none=> rfl
   | some z=>
    have h1:=h.base _ _ h0;rw[g.out x hx] at h1;cases h1
  ·exact h.out x hx
 ·rcases List.mem_append.1 hx with hx|hx
  ·exact g.at_ x hx
  ·exact g.base _ _ (h.at_ x hx)
theorem jA.AD {H':View}{B:Bl}(h:jA H₀ (B++L) H'):∃H,jA H B H'/\jA H₀ L H:=by
 have mF:=h.nodup;rw[List.map_append,List.nodup_append] at mF;obtain⟨n1,n2,n3⟩:=mF;refine⟨fun c=> if c∈B.map (·.1) then none else H' c,⟨n1,fun x hx=> ?_,fun x hx=> h.at_ x (List.mem_append_left _ hx),fun c x hc=> ?_⟩,⟨n2,fun x hx=> h.out x (List.mem_append_right _ hx),fun x hx=> ?_,fun c x hc=> ?_⟩⟩
 ·have:x.1∈B.map (·.1):=List.mem_map_of_mem hx;exact if_pos this
 ·split at hc
  ·cases hc
  ·exact hc
 ·have:x.1 ∉ B.map (·.1):=fun hm=> n3 _ hm _ (List.mem_map_of_mem hx) rfl;exact(if_neg this).trans (h.at_ x (List.mem_append_right _ hx))
 ·have:c ∉ B.map (·.1):=fun hm=> by
   obtain⟨y,hy,e⟩:=List.mem_map.1 hm;have:=h.out y (List.mem_append_left _ hy);rw[e,hc] at this;cases this
  exact(if_neg this).trans (h.base c x hc)
end
def TU {P:Program}(M:Md P){α ε:Type}(fv:Value)(xs:List α)(arg:α->ε->List Value)(B B':α->ε->Bl)(Cap:View->Prop)(A:Bl)(H:View):Prop:=
 ∀ (l:Nat) (J:List α->View->Prop) (D:View->Prop),(∀rest H',J rest H'->Cap H')->J xs H-> 
  (∀x rest e H' H'',x∈xs->J (x::rest) H'->jA H' (B x e) H''->WB M (.func (.yield l) #[] #[]) (arg x e) H'' fun v H3=> (v=.bool true/\∃H₂,jA H₂ (B' x e) H3/\J rest H₂)\/(v=.bool false/\D H3))-> 
  ∀H',jA H A H'->WB M fv [.func (.yield l) #[] #[]] H' fun _ H3=> ∃H₁,H₁.le H3/\(J [] H₁\/D H₁)
def Loop.EN(lp:Loop)(j:Code):Loop:= { lp with state:=.done,pending:=some j }
section
variable {P:Program}{M:Md P}{St:View->Goroutine->Prop}{n:Nat}{b:FB}{H₀:View}{cs:List Frame}{R:Rg}{L:Bl}{ds:List Deferred}{k:List Item}
variable {L₀ A:Bl}{α ε:Type}{fv:Value}{xs:List α}{arg:α->ε->List Value}{B B':α->ε->Bl}{Cap:View->Prop}
def gZ(M:Md P)(n:Nat)(b:FB)(R:Rg)(arg:α->ε->List Value)(B B':α->ε->Bl)(ts:List Nat)(assign body:Code)(I:List α->View->Bl->Prop)(Dn:Code->View->Bl->Prop)(xs:List α)(df:Nat)(T:Bl->Bl):Prop:=
 ∀ x rest e l tmps asg bdy H₁ L₁,x∈xs->I (x::rest) H₁ L₁->∀(Q:Value->View->Prop) (St:View->Goroutine->Prop) (c:Frame) (cs:List Frame),(∀v H',Q v H'->Go.RL.T M St H' (G (c.finish v) cs))-> 
  (∀H' H₂ L₂,jA H₂ (B' x e++(l,true,.loop (Loop.fresh b.fn tmps ts.toArray asg bdy df))::T L₂) H'->I rest H₂ L₂->Q (.bool true) H')-> 
  (∀H' H₂ L₂ j,jA H₂ ((l,true,.loop (Loop.EN (Loop.fresh b.fn tmps ts.toArray asg bdy df) j))::T L₂) H'->Dn j H₂ L₂->Q (.bool false) H')-> 
  Tc M St n ⟨b.fn,.normal,some l⟩ H₁ (c::cs) (m4 R ts (arg x e)) (B x e++(l,true,.loop (Loop.fresh b.fn tmps ts.toArray asg bdy df))::T L₁) [] [.code assign,.beginRound,.code body]
theorem Tc.PN {f:Operand}{assign body:Code}{ts:List Nat}{pa:Array Tmp}(I:List α->View->Bl->Prop)(Dn:Code->View->Bl->Prop)(m5:pa=ts.toArray)(WO:b.rd=none)(hf:JA R f=some fv)(hA:L=A++L₀)(CJ:∀H,Cap H->TU M fv xs arg B B' Cap A H)
  (hC:∀H H',H.le H'->Cap H->Cap H') (hI:∀rest H₁ L₁,I rest H₁ L₁->Cap H₁) (PV:(ts.all fun t=> Nat.blt t n)=true) (hlen:∀x e,ts.length=(arg x e).length) (h0:I xs H₀ L₀)
  (round:∀r,gZ M n b R arg B B' ts assign body I Dn xs r fun L₁=> (r,true,.deferred (some []))::L₁)
  (hk:∀r H₁ L₁,I [] H₁ L₁->Tc M St n b H₁ cs R ((r,true,.deferred (some []))::L₁) (GD r::ds) k)
  (hkj:∀r j H₁ L₁,Dn j H₁ L₁->Tc M St n b H₁ cs R ((r,true,.deferred (some []))::L₁) (GD r::ds) (.code j::k)):
  Tc M St n b H₀ cs R L ds (.code (.rangeFunc f pa assign body)::k):=by
 subst m5;refine Tc.rangeFunc WO hf (fun l r j H₁ L₁=> (j=none/\I [] H₁ L₁)\/∃j',j=some j'/\Dn j' H₁ L₁) (fun l r tmps H hr hs=> ?_) (fun l r j H₁ L₁ hz=> ?_)
 ·rw[hA] at hs;obtain⟨H',hsA,hs⟩:=(hs.perm (L':=A++(l,true,.loop (Loop.fresh b.fn tmps ts.toArray assign body r))::(r,true,.deferred (some []))::L₀) (by
   refine(List.perm_middle.trans ?_);exact .cons _ List.perm_middle)).AD
  have BC:Cap H':=hC _ _ hs.base (hI _ _ _ h0);have hJ:∀rest Hv,(∃H₁ L₁,jA H₁ ((l,true,.loop (Loop.fresh b.fn tmps ts.toArray assign body r))::(r,true,.deferred (some []))::L₁) Hv/\I rest H₁ L₁)->Cap Hv:=by
   rintro rest Hv ⟨H₁,L₁,h1,h2⟩;exact hC _ _ h1.base (hI _ _ _ h2)
  refine WB.mono (CJ H' BC l (fun rest Hv=> ∃H₁ L₁,jA H₁ ((l,true,.loop (Loop.fresh b.fn tmps ts.toArray assign body r))::(r,true,.deferred (some []))::L₁) Hv/\I rest H₁ L₁)
   (fun Hv=> ∃H₁ L₁ j,jA H₁ ((l,true,.loop (Loop.EN (Loop.fresh b.fn tmps ts.toArray assign body r) j))::(r,true,.deferred (some []))::L₁) Hv/\Dn j H₁ L₁) hJ ⟨H₀,L₀,hs,h0⟩ ?_ H hsA) ?_
  ·rintro x rest e H' H'' aC3 ⟨H₁,L₁,h1,h2⟩ h3;refine WB.round (i:=(B x e).length) (lp:=Loop.fresh b.fn tmps ts.toArray assign body r) (l:=l) (h1.append h3) (by simp) rfl PV (hlen x e) hr fun St c cs hK=> ?_;exact round r x rest e l tmps assign body H₁ L₁ aC3 h2 _ St c cs hK (fun H' H₂ L₂ g1 g2=> by
    obtain⟨Hm,g3,g4⟩:=g1.AD;exact .inl ⟨rfl,Hm,g3,H₂,L₂,g4,g2⟩) (fun H' H₂ L₂ j g1 g2=> .inr ⟨rfl,H₂,L₂,j,g1,g2⟩)
  ·rintro v H' ⟨Hv,hle,⟨H₁,L₁,g1,g2⟩|⟨H₁,L₁,j,g1,g2⟩⟩
   ·exact⟨H₁,L₁,Loop.fresh b.fn tmps ts.toArray assign body r,g1.mono hle,(fun h=> nomatch h),.inl ⟨rfl,g2⟩⟩
   ·exact⟨H₁,L₁,Loop.EN (Loop.fresh b.fn tmps ts.toArray assign body r) j,g1.mono hle,(fun h=> nomatch h),.inr ⟨j,rfl,g2⟩⟩
 ·rcases hz with ⟨rfl,hz⟩|⟨j',rfl,hz⟩
  ·exact hk r H₁ L₁ hz
  ·exact hkj r j' H₁ L₁ hz
theorem Tc.A0 {f:Operand}{assign body:Code}{ts:List Nat}{pa:Array Tmp}(I:List α->View->Prop)(Dn:Code->View->Prop)(m5:pa=ts.toArray)(WO:b.rd=none)(hf:JA R f=some fv)(hA:L=A++L₀)(CJ:∀H,Cap H->TU M fv xs arg B B' Cap A H)
  (hC:∀H H',H.le H'->Cap H->Cap H') (hI:∀rest H₁,I rest H₁->Cap H₁) (PV:(ts.all fun t=> Nat.blt t n)=true) (hlen:∀x e,ts.length=(arg x e).length) (h0:I xs H₀)
  (round:∀r,gZ M n b R arg B B' ts assign body (fun rest H₁ L₁=> L₁=L₀/\I rest H₁) (fun j H₁ L₁=> L₁=L₀/\Dn j H₁) xs r fun L₁=> (r,true,.deferred (some []))::L₁)
  (hk:∀r H₁,I [] H₁->Tc M St n b H₁ cs R ((r,true,.deferred (some []))::L₀) (GD r::ds) k)
  (hkj:∀r j H₁,Dn j H₁->Tc M St n b H₁ cs R ((r,true,.deferred (some []))::L₀) (GD r::ds) (.code j::k)):
  Tc M St n b H₀ cs R L ds (.code (.rangeFunc f pa assign body)::k):=
 .PN (fun rest H₁ L₁=> L₁=L₀/\I rest H₁) (fun j H₁ L₁=> L₁=L₀/\Dn j H₁) m5 WO hf hA CJ hC (fun rest H₁ _ h=> hI rest H₁ h.2) PV hlen ⟨rfl,h0⟩ round (fun r H₁ L₁ h=> by obtain⟨rfl,h⟩:=h;exact hk r H₁ h) (fun r j H₁ L₁ h=> by obtain⟨rfl,h⟩:=h;exact hkj r j H₁ h)
end
section
variable {P:Program}{M:Md P}{St:View->Goroutine->Prop}{n:Nat}{b:FB}{H₀ H₁:View}{cs:List Frame}{R:Rg}{L L':Bl}{ds:List Deferred}{k:List Item}{S:Array Bool->View->Prop}{md:Region.Mode}{ops:Array Oper}
def S3(H₀:View)(B C:List Nat)(Ls L:Bl):Array Bool->View->Prop:=fun listed H=> (C.all fun j=> !(listed.getD j true))=true->S2 H₀ B Ls L listed H
def EL(md:Region.Mode)(ops:Array Oper)(i:Nat):Nat->Nat->Bool
 | 0,_=> false
 | f+1,j=> match ops[j]? with
  | some o=> o.after.any fun e=> Region.binds md e&&(e.on==i||EL md ops i f e.on)
  | none=> false
theorem XN {i:Nat}{listed:Array Bool}(hc:fC md ops listed=true)(hu:listed.getD i true=false):∀(f j:Nat),EL md ops i f j=true->listed.getD j true=false
 | 0,_,h=> by cases h
 | f + 1,j,h=> by
  unfold EL at h;cases hl:listed.getD j true with
  | false=> rfl
  | true=>
   split at h
   ·rename_i o ho
    rw[Array.any_eq_true'] at h;obtain⟨e,he,hb⟩:=h;simp only[Bool.and_eq_true,Bool.or_eq_true,beq_iff_eq] at hb;have h1:=OI hc ho hl he hb.1;have h2:listed.getD e.on true=false:=by
     rcases hb.2 with h3|h3
     ·rw[h3];exact hu
     ·exact XN hc hu f e.on h3
    rcases Nat.lt_or_ge e.on listed.size with h'|h'
    ·simp[h'] at h1 h2
     rw[h2] at h1;cases h1
    ·simp[Array.getElem?_eq_none h'] at h2
   ·cases h
theorem S3.same {B C:List Nat}{Ls:Bl}{i:Nat}(hi:B.contains i=false)(hC:C.contains i=false):∀listed H,S3 H₀ B C Ls L (listed.setIfInBounds i true) H<->S3 H₀ B C Ls L listed H:=fun listed H=> by
 have:(C.all fun j=> !((listed.setIfInBounds i true).getD j true))=C.all fun j=> !(listed.getD j true):=by
  rw[Bool.eq_iff_iff,List.all_eq_true,List.all_eq_true];refine forall_congr' fun j=> forall_congr' fun hj=> ?_;have aB:i≠j:=by
   rintro rfl;have:C.contains i=true:=by simpa using hj
   rw[hC] at this;cases this
  rw[getD_set_ne true aB]
 unfold S3;rw[this,S2.same hi]
def QH(md:Region.Mode)(ops:Array Oper)(B C:List Nat)(listed:Array Bool)(i:Nat):Bool:=
 cD md ops [] listed i && !(B.contains i)&&(B.all fun j=> EL md ops i ops.size j) && !(C.contains i)&&C.all fun j=> EL md ops i ops.size j
theorem S2.aBS {B:List Nat}{Ls:Bl}{i:Nat}{listed:Array Bool}{H:View}(h:S2 H₀ B Ls L listed H)(hc:fC md ops listed=true)(hu:listed.getD i true=false)(hB:(B.all fun j=> EL md ops i ops.size j)=true):jA H₀ L H:=by
 refine h.2 ?_;rw[List.all_eq_true] at hB ⊢;intro j hj;rw[XN hc hu _ j (hB j hj)];rfl
theorem S3.use {B C:List Nat}{Ls:Bl}{i:Nat}{listed:Array Bool}{H:View}(h:S3 H₀ B C Ls L listed H)(hc:fC md ops listed=true)(hu:listed.getD i true=false)(hC:(C.all fun j=> EL md ops i ops.size j)=true):S2 H₀ B Ls L listed H:=by
 refine h ?_;rw[List.all_eq_true] at hC ⊢;intro j hj;rw[XN hc hu _ j (hC j hj)];rfl
theorem S3.keep {B C:List Nat}{Ls:Bl}{listed:Array Bool}{H H':View}(h:S3 H₀ B C Ls L listed H)(k:H.le H'):S3 H₀ B C Ls L listed H':=fun hh=> ⟨(h hh).1.mono k,fun h2=> ((h hh).2 h2).mono k⟩
theorem Ta.MY(i:Nat){B C:List Nat}{Ls L₁:Bl}{o:Oper}{d:Nat}{v:Value}{fuel:Nat}{listed:Array Bool}(hc:QH md ops B C listed i=true)(hi:ops[i]? =some o)(hd:o.dst=some d)(hn:d<n)(mF:BA o.op=false)(hw:TA (ops.toList.map (fun o:Oper=> o.dst)) R o=some true)
  (hv:∀H tmps,jA H₀ L H->YA n R tmps->tD M o tmps H fun u H'=> u=v/\H.le H')
  (h:Ta M St n b H₀ cs (S3 H₀ B C Ls L) md ops fuel (listed.setIfInBounds i true) ((d,v)::R) L₁ ds k):Ta M St n b H₀ cs (S3 H₀ B C Ls L) md ops (fuel+1) listed R L₁ ds k:=by
 simp only[QH,cD,Bool.and_eq_true,Bool.not_eq_true'] at hc;obtain⟨⟨⟨⟨⟨⟨⟨⟨⟨ME,hr⟩,hf⟩,iB⟩,_⟩,_⟩,DH⟩,hB⟩,hCi⟩,hC⟩:=hc;exact .take i hi ME hr hf hd hn mF iB (S3.same DH hCi) hw (fun _ hc hu H tmps hS hr=> by
  have:=hv H tmps ((hS.use hc hu hC).aBS hc hu hB) hr;unfold tD at this ⊢;have fin:∀u H',(u=v/\H.le H')->u=v/\H.le H'/\S3 H₀ B C Ls L _ H':=fun u H' ⟨h1,h2⟩=> ⟨h1,h2,hS.keep h2⟩
  refine VA _ (fun nx H' hn=> ?_) this;cases nx <;> first
   | exact hn.elim
   | exact fin _ _ hn
   | exact fA.mono hn fin
   | exact VM.mono hn fin) h
theorem Ta.aAh(i:Nat){B C:List Nat}{Ls L₁:Bl}{o:Oper}{d:Nat}{v:Value}{fuel:Nat}{listed:Array Bool}(hc:QH md ops [] C listed i=true)(DH:B.contains i=false)(hi:ops[i]? =some o)(hd:o.dst=some d)(hn:d<n)(mF:BA o.op=false)(hw:TA (ops.toList.map (fun o:Oper=> o.dst)) R o=some true)
  (hv:∀H tmps,jA H₀ Ls H->YA n R tmps->tD M o tmps H fun u H'=> u=v/\H.le H')
  (h:Ta M St n b H₀ cs (S3 H₀ B C Ls L) md ops fuel (listed.setIfInBounds i true) ((d,v)::R) L₁ ds k):Ta M St n b H₀ cs (S3 H₀ B C Ls L) md ops (fuel+1) listed R L₁ ds k:=by
 simp only[QH,cD,Bool.and_eq_true,Bool.not_eq_true'] at hc;obtain⟨⟨⟨⟨⟨⟨⟨⟨⟨ME,hr⟩,hf⟩,iB⟩,_⟩,_⟩,_⟩,_⟩,hCi⟩,hC⟩:=hc;exact .take i hi ME hr hf hd hn mF iB (S3.same DH hCi) hw (fun _ hc hu H tmps hS hr=> by
  have:=hv H tmps (hS.use hc hu hC).1 hr;unfold tD at this ⊢;have fin:∀u H',(u=v/\H.le H')->u=v/\H.le H'/\S3 H₀ B C Ls L _ H':=fun u H' ⟨h1,h2⟩=> ⟨h1,h2,hS.keep h2⟩
  refine VA _ (fun nx H' hn=> ?_) this;cases nx <;> first
   | exact hn.elim
   | exact fin _ _ hn
   | exact fA.mono hn fin
   | exact VM.mono hn fin) h
theorem Ta.psC(i:Nat){B C:List Nat}{Ls L₁:Bl}{o:Oper}{d:Nat}{fuel:Nat}{listed:Array Bool}(hc:QH md ops [] C listed i=true)(DH:B.contains i=false)(hi:ops[i]? =some o)(hd:o.dst=some d)(hn:d<n)(mF:BA o.op=false)(hw:TA (ops.toList.map (fun o:Oper=> o.dst)) R o=some false)
  (h:Ta M St n b H₀ cs (S3 H₀ B C Ls L) md ops fuel (listed.setIfInBounds i true) ((d,undef)::R) L₁ ds k):Ta M St n b H₀ cs (S3 H₀ B C Ls L) md ops (fuel+1) listed R L₁ ds k:=by
 simp only[QH,cD,Bool.and_eq_true,Bool.not_eq_true'] at hc;obtain⟨⟨⟨⟨⟨⟨⟨⟨⟨ME,hr⟩,hf⟩,iB⟩,_⟩,_⟩,_⟩,_⟩,hCi⟩,hC⟩:=hc;exact .pass i hi ME hr hf hd hn mF iB (S3.same DH hCi) hw h
theorem S3.mk {B C:List Nat}{Ls L₁:Bl}{listed:Array Bool}(h1:Ls.Sublist L₁)(h2:(B.all fun j=> !(listed.getD j true))=false\/L.Sublist L₁):∀H,jA H₀ L₁ H->S3 H₀ B C Ls L listed H:=fun H hs _=> S2.mk h1 h2 H hs
theorem S3.off {B C:List Nat}{Ls L₁:Bl}{listed:Array Bool}{H₁:View}(h:(C.all fun j=> !(listed.getD j true))=false):∀H,jA H₁ L₁ H->S3 H₀ B C Ls L listed H:=fun H _ hh=> by rw[h] at hh;cases hh
theorem Tc.drC {id:Nat}{fuel:Nat}(B C E:List Nat)(hm:P.follows .mixedOrders=true)(hf:ops.size=fuel)(h:Ta M St n b H₀ cs (S3 H₀ B C (aI L E) L) .any ops fuel (Array.replicate fuel false) R L ds k):
  Tc M St n b H₀ cs R L ds (.code (.region id ops true)::k):=fun H tmps hs hr=> by
 subst hf;refine .ZD fun t=> ?_;simp only[Region.schedule,hm,Bool.true_or,if_true];have hS:=S3.mk (H₀:=H₀) (B:=B) (C:=C) (listed:=Array.replicate ops.size false) (YE E L) (.inr (List.Sublist.refl L)) H hs;exact(h H tmps hs hr hS).sound _ t _ _ _ hS
theorem Ta.YB(i:Nat){B C:List Nat}{Hs:View}{Ls Lb:Bl}{o:Oper}{d:Nat}{fuel:Nat}{listed:Array Bool}{cl:Go.Call}{x:Operand}{fv:Value}{az:List Value}(hr:Region.ready md ops listed= [i])(hi:ops[i]? =some o)(hC:(C.all fun j=> !((listed.setIfInBounds i true).getD j true))=false)
  (hw:TA (ops.toList.map (fun o:Oper=> o.dst)) R o=some true) (lA:o.op=.call cl) (iB:cl.callee=.value x) (hx:JA R x=some fv) (has:lD R cl.args.toList=some az) (hd:o.dst=some d) (hn:d<n)
  {Q:Value->View->Prop} (hc:WB M fv az H₀ Q) (hk:∀v H₁,Q v H₁->Ta M St n b H₁ cs (S3 Hs B C Ls Lb) md ops fuel (listed.setIfInBounds i true) ((d,v)::R) L ds k):
  Ta M St n b H₀ cs (S3 Hs B C Ls Lb) md ops (fuel+1) listed R L ds k:=fun H tmps hs XD _ H₂ h2 _=> by
 have hs:=hs.mono h2;refine⟨fun e=> (by rw[hr] at e;cases e),fun j hj o' pP=> ?_⟩;rw[hr] at hj;have:j=i:=by simpa using hj
 subst this;rw[hi] at pP;cases pP
 refine⟨(by rw[lA];rfl),?_⟩;have YZ:Region.wanted o (yielded ops tmps)=true:=rB (fun j=> by
  simp only[List.getElem?_map,Array.getElem?_toList];cases ops[j]? <;> rfl) XD hw
 rw[if_pos YZ];obtain⟨F,rfl,Y4,hF⟩:=hs.split;have e1:=XD.ev hx;have cH:cl.args.map (OB tmps)=az.toArray:=by
  apply Array.ext'
  simpa using XD.evs has
 have hex:execOp (OB tmps) o=(Deferred.ofValue fv az.toArray).bind fun d=> invoke d.target d.args:=by
  have h1:execOp (OB tmps) o=(resolve (OB tmps) cl o.type).bind fun d=> invoke d.target d.args:=by unfold execOp;rw[lA];rfl
  rw[h1];unfold resolve;rw[iB];simp only[e1,cH]
 unfold pF;rw[hex];have fin:∀v H'',TH F Q v H''->S3 Hs B C Ls Lb (listed.setIfInBounds j true) H''/\GJ M md ops (S3 Hs B C Ls Lb) (fun tmps H=> T M St H (G (b.at tmps ds k) cs)) fuel (listed.setIfInBounds j true) (HB tmps o.dst v) H'':=by
  rintro v H'' ⟨H₁,rfl,nL,hq⟩;have hS:S3 Hs B C Ls Lb (listed.setIfInBounds j true) (H₁.plus F):=fun hh=> by rw[hC] at hh;cases hh
  refine⟨hS,?_⟩;rw[hd];exact hk v H₁ hq _ _ (.DN hs.nodup hF nL) (XD.put hn v) hS
 refine VA _ (fun nx H' nP=> ?_) (hc.frame Y4);cases nx <;> first
  | exact nP.elim
  | exact fA.mono nP fin
  | exact VM.mono nP fin
theorem Ta.lower {fuel:Nat}{listed:Array Bool}(hle:H₀.le H₁)(h:Ta M St n b H₀ cs S md ops fuel listed R L ds k):Ta M St n b H₁ cs S md ops fuel listed R L ds k:=fun H tmps hs=> h H tmps (hs.lower hle)
end
section
variable {P:Program}{E:Env P}{M:Md P}{n:Nat}{H₀:View}{R:Rg}{L L':Bl}{K:Rg->Bl->Prop}{o:Oper}{d:Nat}{v:Value}
theorem pA.vL {t kt et:TypeId}{x:Operand}{m cl₀:Nat}{es:Array MapEntry}{cl:Go.Call}{r:FA}(lA:o.op=.call cl)(iB:cl.callee=.builtin .len)(uG:cl.argTypes=#[t])(sI:cl.args=#[x])
  (hx:JA R x=some (.map (some m))) (hb:∀H,jA H₀ L H->∃f,H m=some (f,.map es cl₀)) (ht:E.ty t=some r) (jC:r.ds=.map kt et):pA P n H₀ R L o (.int .i64 (es.size:Nat)):=fun H tmps hs hr=> by
 unfold execOp;rw[lA];simp only[resolve,iB,uG,sI];have hm:Array.map (OB tmps) #[x]=#[.map (some m)]:=by simp[hr.ev hx]
 rw[hm];obtain⟨f,E2⟩:=hb H hs;refine aA (Builtin.len_ #[t] o.type #[.map (some m)]) _ (aA (underlying t) _ (gA (qT ((E.ok _ _ ht).ds.trans jC)) ?_));refine⟨f,.map es cl₀,E2,by simp,rfl,?_⟩;exact⟨rfl,rfl⟩
theorem pA.lookup(dp:Nat){t kt et:TypeId}{x y:Operand}{ok:Bool}{m:Nat}{k:Value}{es:Array MapEntry}{cl:Nat}{r re:FA}(lA:o.op=.lookup t x y ok)(hx:JA R x=some (.map (some m)))(hy:JA R y=some k)
  (hb:∀H,jA H₀ L H->∃f,H m=some (f,.map es cl)) (ht:E.ty t=some r) (jC:r.ds=.map kt et) (BD:E.ty et=some re) (PZ:dp<=10000) (hk:zH E dp kt k) (wJ:∀e∈es.toList,zH E dp kt e.key)
  (hq:∀r,eL es.toList k r->C7 re.zero r ok=v):pA P n H₀ R L o v:=fun H tmps hs hr=> by
 unfold execOp;rw[lA];simp only[hr.ev hx,hr.ev hy];obtain⟨f,E2⟩:=hb H hs;obtain⟨rk,l,htk,rfl,hf⟩:=hk;obtain⟨_,dd,_,TO⟩:=lJ hf;refine aA (Instr.lookup t _ _ ok) _ ?_;refine aA (underlying t) _ (gA (qT ((E.ok _ _ ht).ds.trans jC)) ?_);refine⟨f,.map es cl,E2,by simp,rfl,?_⟩;show HA P ((Instr.checkKey es.isEmpty 10000 kt (rJ rk.agg l)).bind fun _=> _) H _;refine aA _ _ (HG dp 10000 PZ htk hf ?_);refine aA (Instr.findKey kt _ es.toList) _ (KO PZ ⟨rk,l,htk,rfl,hf⟩ TO wJ fun r XD=> ?_);have fin:=hq r XD;subst fin;cases r with
 | none=>
  refine aA (zeroValue et) _ (oC (E.ok _ _ BD).zero ?_);cases ok <;> exact⟨rfl,rfl⟩
 | some p=>
  obtain⟨i,v⟩:=p;cases ok <;> exact⟨rfl,rfl⟩
theorem pA.sliceTo {t e:TypeId}{x:Operand}{hi:Option Operand}{len cap off k:Nat}{blk:Nat}{r re:FA}(lA:o.op=.slice t x none hi none)(hx:JA R x=some (.slice (some ⟨blk,off,none⟩) len cap))(ht:E.ty t=some r)(jC:r.ds=.slice e)
  (BD:E.ty e=some re) (gQ:bound R hi len=some (k:Int)) (h2:k<=cap) (h0:0<cap):pA P n H₀ R L o (.slice (some ⟨blk,off,none⟩) k cap):=by
 have:=pA.slice (E:=E) (P:=P) (n:=n) (H₀:=H₀) (L:=L) (off':=off) lA hx ht jC BD rfl rfl gQ oM oM oM (by rw[if_neg oM];simp);simpa using this
end
section
variable {P:Program}{M:Md P}{St:View->Goroutine->Prop}{n:Nat}{b:FB}{H₀ H₁:View}{cs:List Frame}{R:Rg}{L L₁ L₂:Bl}{ds:List Deferred}{k:List Item}{dl:List (Option Tmp)}{l:List Oper}{S:Array Bool->View->Prop}{md:Region.Mode}{ops:Array Oper}{fuel:Nat}{listed:Array Bool}
theorem Tc.lift {todo:List Item}(hL:L=L₂++L₁)(h:∀Hx,jA H₀ L₁ Hx->Tc M St n b Hx cs R L₂ ds todo):Tc M St n b H₀ cs R L ds todo:=fun H tmps hs hr=> by
 subst hL;obtain⟨Hx,h1,h2⟩:=hs.AD;exact h Hx h2 H tmps h1 hr
theorem To.lift(hL:L=L₂++L₁)(h:∀Hx,jA H₀ L₁ Hx->To M St n b Hx cs dl R L₂ ds l k):To M St n b H₀ cs dl R L ds l k:=fun arr ix ha hx=> .lift hL fun Hx hh=> h Hx hh arr ix ha hx
theorem Ta.lift(hL:L=L₂++L₁)(h:∀Hx,jA H₀ L₁ Hx->Ta M St n b Hx cs S md ops fuel listed R L₂ ds k):Ta M St n b H₀ cs S md ops fuel listed R L ds k:=fun H tmps hs hr=> by
 subst hL;obtain⟨Hx,h1,h2⟩:=hs.AD;exact h Hx h2 H tmps h1 hr
theorem Tc.expand {todo:List Item}(hs:jA H₀ L₁ H₁)(h:Tc M St n b H₀ cs R (L₂++L₁) ds todo):Tc M St n b H₁ cs R L₂ ds todo:=fun H tmps hs' hr=> h H tmps (hs.append hs') hr
theorem To.expand(hs:jA H₀ L₁ H₁)(h:To M St n b H₀ cs dl R (L₂++L₁) ds l k):To M St n b H₁ cs dl R L₂ ds l k:=fun arr ix ha hx=> .expand hs (h arr ix ha hx)
theorem Ta.expand(hs:jA H₀ L₁ H₁)(h:Ta M St n b H₀ cs S md ops fuel listed R (L₂++L₁) ds k):Ta M St n b H₁ cs S md ops fuel listed R L₂ ds k:=fun H tmps hs' hr=> h H tmps (hs.append hs') hr
theorem Tc.perm {todo:List Item}(p:L₁.Perm L)(h:Tc M St n b H₀ cs R L₁ ds todo):Tc M St n b H₀ cs R L ds todo:=fun H tmps hs hr=> h H tmps (hs.perm p) hr
theorem To.perm(p:L₁.Perm L)(h:To M St n b H₀ cs dl R L₁ ds l k):To M St n b H₀ cs dl R L ds l k:=fun arr ix ha hx=> .perm p (h arr ix ha hx)
theorem Tc.via {x:Item}(F:Rg->Bl->Prop)(hF:∀R L,F R L->Tc M St n b H₀ cs R L ds k)(h:(∀R L,F R L->Tc M St n b H₀ cs R L ds k)->Tc M St n b H₀ cs R L ds (x::k)):Tc M St n b H₀ cs R L ds (x::k):=h hF
end
section
variable {P:Program}{E:Env P}{M:Md P}{n:Nat}{H₀:View}{R:Rg}{L L':Bl}{K:Rg->Bl->Prop}{o:Oper}{d:Nat}{v:Value}
theorem pA.lQ {t:TypeId}{x y:Operand}{ik:IntKind}{j:Int}{s:ByteArray}{c:UInt8}(lA:o.op=.index t x y)(hx:JA R x=some (.string s))(hy:JA R y=some (.int ik j))(hu:P.underlying t=some .string)(h0:0<=j)(hb:s[j.toNat]? =some c):
  pA P n H₀ R L o (.int .u8 (c.toNat:Nat)):=fun H tmps _ hr=> by
 unfold execOp;rw[lA];simp only[hr.ev hx,hr.ev hy];refine aA _ _ ?_;show HA P ((underlying t).bind fun d=> _) H _;refine aA (underlying t) _ (gA hu ?_);have e:(if 0<=j then s[j.toNat]? else none)=some c:=by rw[if_pos h0];exact hb
 simp only[e];exact⟨rfl,rfl⟩
end
section
variable {P:Program}{M:Md P}{St:View->Goroutine->Prop}{n:Nat}{b:FB}{H₀:View}{cs:List Frame}{R:Rg}{L:Bl}{ds:List Deferred}{k:List Item}
def aDs(dl:List (Option Tmp))(R:Rg)(o:Oper):Bool:=
 match o.guard with
 | none=> false
 | some (j,_)=>
  match (dl[j]?).join with
  | none=> false
  | some d=>
   match lk R d with
   | some (.bool _)=> false
   | some _=> true
   | none=> false
theorem aBF {dl:List (Option Tmp)}{o:Oper}{arr:Array Oper}{tmps:Array Value}(ha:∀j:Nat,(arr[j]?).bind (fun o:Oper=> o.dst)=(dl[j]?).join)(hr:YA n R tmps)(h:aDs dl R o=true):Region.wanted o (yielded arr tmps)=false:=by
 unfold aDs at h;unfold Region.wanted;split at h
 ·cases h
 ·rename_i j w hg
  rw[hg];split at h
  ·cases h
  ·rename_i d hd
   cases hl:lk R d with
   | none=> rw[hl] at h;cases h
   | some v=>
    rw[hl] at h;simp only[yielded,ha j,hd,Option.bind_some,hr.2 d v hl];cases v <;> first|rfl|cases h
theorem To.LA {dl:List (Option Tmp)}{o:Oper}{l:List Oper}{d:Nat}(hd:o.dst=some d)(hn:d<n)(hw:aDs dl R o=true)(h:To M St n b H₀ cs dl ((d,undef)::R) L ds l k):To M St n b H₀ cs dl R L ds (o::l) k:=fun arr ix ha hx=> by
 cases ix with
 | nil=> simp at hx
 | cons i r=>
  simp only[List.map_cons,List.cons.injEq] at hx;intro H tmps hs hr;refine .xL hx.1 (aBF ha hr hw) ?_;rw[hd];exact h arr r ha hx.2 H _ hs (hr.put hn _)
theorem Tc.label {l:Nat}(h:Tc M St n b H₀ cs R L ds k):Tc M St n b H₀ cs R L ds (.code (.label l)::k):=fun H tmps hs hr=> .ID rfl (fun _=> by simp[G,stepG,stepG.exec,FB.at]) (h H tmps hs hr)
theorem Tc.scope {c:Code}(h:Tc M St n b H₀ cs R L ds (.code c:: .inScope c::k)):Tc M St n b H₀ cs R L ds (.code (.scope c)::k):=fun H tmps hs hr=> .ID rfl (fun _=> by simp[G,stepG,stepG.exec,FB.at]) (h H tmps hs hr)
end
end Go.RL
namespace Go.RL
open Go.Conc Go.Proofs Go.Proofs.YtldmfjcgjdchcaaGreatDoor
set_option maxRecDepth 10000
section
variable {M:Md Tryz.prog}{St:View->Goroutine->Prop}{n:Nat}{b:FB}{H₀:View}{cs:List Frame}{R:Rg}{L:Bl}{ds:List Deferred}{k:List Item}{dl:List (Option Tmp)}{l:List Oper}{o:Oper}{d:Nat}{v:Value}{K:Rg->Bl->Prop}{main:Bool}{sh:Shp}{J:Goroutine->Prop}
theorem pA.mv {x:Operand}(lA:o.op=.move x:=by exact rfl)(hx:JA R x=some v:=by exact rfl):pA Tryz.prog n H₀ R L o (v):=
 pA.move lA hx
theorem pA.sg {x:Operand}(lA:o.op=.assign x:=by exact rfl)(hx:JA R x=some v:=by exact rfl):pA Tryz.prog n H₀ R L o (v):=
 pA.assign lA hx
theorem pA.pk {c x y:Operand}{t:Bool}(lA:o.op=.pick c x y:=by exact rfl)(hc:JA R c=some (.bool t):=by exact rfl)(hx:(match t with|true=> JA R x|false=> JA R y)=some v:=by exact rfl):pA Tryz.prog n H₀ R L o (v):=
 pA.pick lA hc hx
theorem pA.et {x:Operand}{i:Nat}{vs:Array Value}(lA:o.op=.extract x i:=by exact rfl)(hx:JA R x=some (.tuple vs):=by exact rfl)(hv:vs[i]? =some v:=by exact rfl):pA Tryz.prog n H₀ R L o (v):=
 pA.extract lA hx hv
theorem pA.nk {x:Operand}{a:Addr}(lA:o.op=.nilCheck x:=by exact rfl)(hx:JA R x=some (.pointer (some a)):=by exact rfl):pA Tryz.prog n H₀ R L o (.pointer (some a)):=
 pA.nilCheck lA hx
theorem pA.fa {s:TypeId}{x:Operand}{fi o':Nat}{r:FA}{blk off:Nat}(lA:o.op=.fieldAddr s x fi:=by exact rfl)(hx:JA R x=some (.pointer (some ⟨blk,off,none⟩)):=by exact rfl)(ht:en.ty s=some r:=by exact rfl)(ho:r.T3[fi]? =some o':=by exact rfl):pA Tryz.prog n H₀ R L o (.pointer (some ⟨blk,off+o',none⟩)):=
 pA.fieldAddr (E:=en) lA hx ht ho
theorem pA.mf {fn:Fn}{fs cp:Array Operand}{vf vc:List Value}(lA:o.op=.makeFunc fn fs cp:=by exact rfl)(h1:lD R fs.toList=some vf:=by exact rfl)(h2:lD R cp.toList=some vc:=by exact rfl):pA Tryz.prog n H₀ R L o (.func fn vf.toArray vc.toArray):=
 pA.makeFunc lA h1 h2
theorem pA.bu {t:TypeId}{ps:Array (Nat×Operand)}{parts:List (Nat×Value)}{l:List Value}(lA:o.op=.build t ps:=by exact rfl)(EU:yR R ps.toList=some parts:=by exact rfl)(hv:iT en t parts=some l:=by exact rfl):pA Tryz.prog n H₀ R L o (.agg ⟨l⟩):=
 pA.build (E:=en) lA EU hv
theorem pA.cv {t u:TypeId}{x:Operand}{ik jk:IntKind}{p z:Int}{r r':FA}(lA:o.op=.convert t u x:=by exact rfl)(hx:JA R x=some (.int ik p):=by exact rfl)(ht:en.ty t=some r:=by exact rfl)(hr:r.ds=.int ik:=by exact rfl)(o5:en.ty u=some r':=by exact rfl)(XD:r'.ds=.int jk:=by exact rfl)(hz:jk.wrap p=z:=by first|assumption|exact rfl):pA Tryz.prog n H₀ R L o (.int jk z):=
 pA.xZ (E:=en) lA hx ht hr o5 XD hz
theorem pA.fd {t ft:TypeId}{x:Operand}{fi off sz:Nat}{r rf:FA}{c:List Value}{fs:List (TypeId×Nat×Nat)}(lA:o.op=.field t x fi:=by exact rfl)(hx:JA R x=some (.agg ⟨c⟩):=by exact rfl)(ht:en.ty t=some r:=by exact rfl)(jC:r.ds=.struct fs:=by exact rfl)(hf:fs[fi]? =some (ft,off,sz):=by exact rfl)(htf:en.ty ft=some rf:=by exact rfl)(hv:zE rf.agg rf.size c off=some v:=by exact rfl):pA Tryz.prog n H₀ R L o v:=
 pA.field (E:=en) lA hx ht jC hf htf hv
theorem pA.ld(i:Nat){t:TypeId}{x:Operand}{r:FA}{blk off:Nat}{f:Bool}{c:List Value}{e:TypeId}{fz:Nat×Nat}(lA:o.op=.load t x:=by exact rfl)(hx:JA R x=some (.pointer (some ⟨blk,off,none⟩)):=by exact rfl)(hi:L[i]? =some (blk,f,.cells ⟨c⟩ e fz):=by exact rfl)(ht:en.ty t=some r:=by exact rfl)(hv:zE r.agg r.size c off=some v:=by first|exact rfl|assumption):pA Tryz.prog n H₀ R L o (v):=
 pA.load (E:=en) i lA hx hi ht hv
theorem pA.l0 {t:TypeId}{x:Operand}{r:FA}{blk off:Nat}{f:Bool}{c:List Value}{e:TypeId}{fz:Nat×Nat}(lA:o.op=.load t x:=by exact rfl)(hx:JA R x=some (.pointer (some ⟨blk,off,none⟩)):=by exact rfl)(hi:H₀ blk=some (f,.cells ⟨c⟩ e fz):=by assumption)(ht:en.ty t=some r:=by first|exact rfl|assumption)(hv:zE r.agg r.size c off=some v:=by first|exact rfl|assumption):pA Tryz.prog n H₀ R L o (v):=
 pA.uM (E:=en) lA hx hi ht hv
theorem pA.ia {t:TypeId}{x y:Operand}{r re:FA}{et:TypeId}{blk off sz len cap:Nat}{ik:IntKind}{j:Int}(lA:o.op=.indexAddr t x y:=by exact rfl)(hx:JA R x=some (.slice (some ⟨blk,off,none⟩) len cap):=by exact rfl)(hy:JA R y=some (.int ik j):=by exact rfl)(ht:en.ty t=some r:=by exact rfl)(he:r.elem=some (none,et):=by exact rfl)(BD:en.ty et=some re:=by exact rfl)(yE:re.size=sz:=by exact rfl)(h0:0<=j:=by omega)(h1:j<len:=by omega):pA Tryz.prog n H₀ R L o (.pointer (some ⟨blk,off+j.toNat*sz,none⟩)):=
 pA.indexAddr (E:=en) lA hx hy ht he BD yE h0 h1
theorem pA.ib {t:TypeId}{x y:Operand}{r re:FA}{et:TypeId}{blk off sz len:Nat}{ik:IntKind}{j:Int}(lA:o.op=.indexAddr t x y:=by exact rfl)(hx:JA R x=some (.pointer (some ⟨blk,off,none⟩)):=by exact rfl)(hy:JA R y=some (.int ik j):=by exact rfl)(ht:en.ty t=some r:=by exact rfl)(he:r.elem=some (some len,et):=by exact rfl)(BD:en.ty et=some re:=by exact rfl)(yE:re.size=sz:=by exact rfl)(h0:0<=j:=by omega)(h1:j<len:=by omega):pA Tryz.prog n H₀ R L o (.pointer (some ⟨blk,off+j.toNat*sz,none⟩)):=
 pA.dY (E:=en) lA hx hy ht he BD yE h0 h1
theorem pA.ix {t:TypeId}{x y:Operand}{r re:FA}{et:TypeId}{len:Nat}{ik:IntKind}{j:Int}{c:List Value}(lA:o.op=.index t x y:=by exact rfl)(hx:JA R x=some (.agg ⟨c⟩):=by exact rfl)(hy:JA R y=some (.int ik j):=by exact rfl)(ht:en.ty t=some r:=by exact rfl)(he:r.elem=some (some len,et):=by exact rfl)(BD:en.ty et=some re:=by exact rfl)(h0:0<=j:=by omega)(h1:j<len:=by omega)(hv:zE re.agg re.size c (j.toNat*re.size)=some v:=by exact rfl):pA Tryz.prog n H₀ R L o (v):=
 pA.index (E:=en) lA hx hy ht he BD h0 h1 hv
theorem pA.it {op:BinOp}{t u:TypeId}{x y:Operand}{ik:IntKind}{p q:Int}(lA:o.op=.binOp op t x y u:=by exact rfl)(hx:JA R x=some (.int ik p):=by exact rfl)(hy:JA R y=some (.int ik q):=by exact rfl)(zz:iA op ik p q=some v):pA Tryz.prog n H₀ R L o (v):=
 pA.int lA hx hy zz
theorem pA.sf {op:BinOp}{t u:TypeId}{x y:Operand}{ik jk:IntKind}{p q:Int}(lA:o.op=.binOp op t x y u:=by exact rfl)(hx:JA R x=some (.int ik p):=by exact rfl)(hy:JA R y=some (.int jk q):=by exact rfl)(hq:0<=q:=by omega)(hv:CE op ik p q=some v:=by first|assumption|exact rfl):pA Tryz.prog n H₀ R L o (v):=
 pA.shift lA hx hy hq hv
theorem pA.nt {t:TypeId}{x:Operand}{p:Bool}(lA:o.op=.unOp .not t x:=by exact rfl)(hx:JA R x=some (.bool p):=by exact rfl):pA Tryz.prog n H₀ R L o (.bool (!p)):=
 pA.not lA hx
theorem pA.ng {t:TypeId}{x:Operand}{p z:Int}(lA:o.op=.unOp .neg t x:=by exact rfl)(hx:JA R x=some (.int .i64 p):=by exact rfl)(h1: -9223372036854775808<= -p:=by omega)(h2: -p<9223372036854775808:=by omega)(hz: -p=z:=by exact rfl):pA Tryz.prog n H₀ R L o (.int .i64 z):=
 pA.neg lA hx h1 h2 hz
theorem pA.ln {t:TypeId}{x:Operand}{a:Option Addr}{p q:Nat}{cl:Go.Call}{e:TypeId}{r:FA}(lA:o.op=.call cl:=by exact rfl)(iB:cl.callee=.builtin .len:=by exact rfl)(uG:cl.argTypes=#[t]:=by exact rfl)(sI:cl.args=#[x]:=by exact rfl)(hx:JA R x=some (.slice a p q):=by exact rfl)(ht:en.ty t=some r:=by exact rfl)(he:r.elem=some (none,e):=by exact rfl):pA Tryz.prog n H₀ R L o (.int .i64 (p:Int)):=
 pA.len (E:=en) lA iB uG sI hx ht he
theorem pA.eb {t u:TypeId}{x y:Operand}{r:FA}{p q:Bool}(lA:o.op=.binOp .eql t x y u:=by exact rfl)(hx:JA R x=some (.bool p):=by exact rfl)(hy:JA R y=some (.bool q):=by exact rfl)(ht:en.ty t=some r:=by exact rfl)(jC:r.ds=.bool:=by exact rfl):pA Tryz.prog n H₀ R L o (.bool (p==q)):=
 pA.eqB (E:=en) lA hx hy ht jC
theorem pA.nb {t u:TypeId}{x y:Operand}{r:FA}{p q:Bool}(lA:o.op=.binOp .neq t x y u:=by exact rfl)(hx:JA R x=some (.bool p):=by exact rfl)(hy:JA R y=some (.bool q):=by exact rfl)(ht:en.ty t=some r:=by exact rfl)(jC:r.ds=.bool:=by exact rfl):pA Tryz.prog n H₀ R L o (.bool (!(p==q))):=
 pA.neB (E:=en) lA hx hy ht jC
theorem MD.mv {x:Operand}(lA:o.op=.move x:=by exact rfl)(hx:JA R x=some v:=by exact rfl):MD Tryz.prog sh n R o v:=
 MD.move lA hx
theorem MD.sg {x:Operand}(lA:o.op=.assign x:=by exact rfl)(hx:JA R x=some v:=by exact rfl):MD Tryz.prog sh n R o v:=
 MD.assign lA hx
theorem MD.pk {c x y:Operand}{u:Bool}(lA:o.op=.pick c x y:=by exact rfl)(hc:JA R c=some (.bool u):=by exact rfl)(hx:(match u with|true=> JA R x|false=> JA R y)=some v:=by exact rfl):MD Tryz.prog sh n R o v:=
 MD.pick lA hc hx
theorem MD.nk {x:Operand}{a:Addr}(lA:o.op=.nilCheck x:=by exact rfl)(hx:JA R x=some (.pointer (some a)):=by exact rfl):MD Tryz.prog sh n R o (.pointer (some a)):=
 MD.nilCheck lA hx
theorem MD.nt {u:TypeId}{x:Operand}{p:Bool}(lA:o.op=.unOp .not u x:=by exact rfl)(hx:JA R x=some (.bool p):=by exact rfl):MD Tryz.prog sh n R o (.bool (!p)):=
 MD.not lA hx
theorem MD.it {op:BinOp}{u u':TypeId}{x y:Operand}{ik:IntKind}{p q:Int}(lA:o.op=.binOp op u x y u':=by exact rfl)(hx:JA R x=some (.int ik p):=by exact rfl)(hy:JA R y=some (.int ik q):=by exact rfl)(zz:iA op ik p q=some v):MD Tryz.prog sh n R o v:=
 MD.int lA hx hy zz
theorem MD.fa {s:TypeId}{x:Operand}{fi o':Nat}{blk off:Nat}(lA:o.op=.fieldAddr s x fi:=by exact rfl)(hx:JA R x=some (.pointer (some ⟨blk,off,none⟩)):=by exact rfl)(zz:vN Tryz.prog s fi=some o'):MD Tryz.prog sh n R o (.pointer (some ⟨blk,off+o',none⟩)):=
 MD.field lA hx zz
theorem Or.bx {e:TypeId}{x:Operand}(lA:o.op=.box e x:=by exact rfl)(hd:o.dst=some d:=by exact rfl)(hn:d<n:=by decide)(hx:JA R x=some v:=by exact rfl)(zz:∀blk,K ((d,.pt blk)::R) ((blk,true,.cells ⟨v.cells.toList⟩ e (0,0))::L)):Or M n H₀ R L o K:=
 Or.box lA hd hn hx zz
theorem Or.al {e:TypeId}{r:FA}(lA:o.op=.alloc e:=by exact rfl)(ht:en.ty e=some r:=by exact rfl)(hd:o.dst=some d:=by exact rfl)(hn:d<n:=by decide)(zz:∀blk,K ((d,.pt blk)::R) ((blk,true,.cells ⟨r.zero.cells.toList⟩ e (0,0))::L)):Or M n H₀ R L o K:=
 Or.alloc (E:=en) lA ht hd hn zz
theorem Or.bs {t e:TypeId}{len:Nat}{ps:Array (Nat×Operand)}{parts:List (Nat×Value)}{r re:FA}{l:List Value}(lA:o.op=.buildSlice t len ps:=by exact rfl)(EU:yR R ps.toList=some parts:=by exact rfl)(ht:en.ty t=some r:=by exact rfl)(jC:r.ds=.slice e:=by exact rfl)(BD:en.ty e=some re:=by exact rfl)(yE:Nat.ble (len*re.size) 16777216=true:=by exact rfl)(hv:lO (fun i=> some (i*re.size,re.size)) (PC re.zero.cells.toList (len*re.size)) parts=some l:=by exact rfl)(hd:o.dst=some d:=by exact rfl)(hn:d<n:=by decide)(zz:∀blk,K ((d,.sl blk len len)::R) ((blk,true,.cells ⟨l⟩ e (0,0))::L)):Or M n H₀ R L o K:=
 Or.buildSlice (E:=en) lA EU ht jC BD yE hv hd hn zz
theorem Or.st(i:Nat){t:TypeId}{x y:Operand}{r:FA}{blk off:Nat}{c c':List Value}{e:TypeId}(lA:o.op=.store t x y:=by exact rfl)(hx:JA R x=some (.pointer (some ⟨blk,off,none⟩)):=by exact rfl)(hy:JA R y=some v:=by exact rfl)(hi:L[i]? =some (blk,true,.cells ⟨c⟩ e (0,0)):=by exact rfl)(ht:en.ty t=some r:=by exact rfl)(hz:Nat.beq v.cells.toList.length r.size=true:=by exact rfl)(h0:Nat.beq r.size 0=false:=by exact rfl)(hl:Nat.ble (off+r.size) c.length=true:=by first|exact rfl|assumption)(hs:v.cells.toList.all single=true:=by exact rfl)(hd:o.dst=none:=by exact rfl)(hc:wH c off v.cells.toList=c':=by first|assumption|exact rfl)(zz:K R (L.set i (blk,true,.cells ⟨c'⟩ e (0,0)))):Or M n H₀ R L o K:=
 Or.storeT (E:=en) i lA hx hy hi ht hz h0 hl hs hd hc zz
theorem To.x(h:pA Tryz.prog n H₀ R L o v)(kk:To M St n b H₀ cs dl ((d,v)::R) L ds l k)(h1:TA dl R o=some true:=by exact rfl)(h2:BA o.op=false:=by exact rfl)(h3:o.dst=some d:=by exact rfl)(h4:d<n:=by decide):To M St n b H₀ cs dl R L ds (o::l) k:=To.op h1 h2 (Or.uS h h3 h4 kk)
theorem To.e(h:Or M n H₀ R L o fun R' L'=> To M St n b H₀ cs dl R' L' ds l k)(h1:TA dl R o=some true:=by exact rfl)(h2:BA o.op=false:=by exact rfl):To M St n b H₀ cs dl R L ds (o::l) k:=To.op h1 h2 h
theorem To.c {cl:Go.Call}{x:Operand}{fv:Value}{az:List Value}(lA:o.op=.call cl)(iB:cl.callee=.value x)(hx:JA R x=some fv)(has:lD R cl.args.toList=some az)(hc:∀H,jA H₀ L H->WB M fv az H fun u H'=> H.le H'/\u=v)(kk:To M St n b H₀ cs dl ((d,v)::R) L ds l k)(h1:TA dl R o=some true:=by exact rfl)(h2:BA o.op=false:=by exact rfl)(h3:o.dst=some d:=by exact rfl)(h4:d<n:=by decide):To M St n b H₀ cs dl R L ds (o::l) k:=To.op h1 h2 (Or.R3 (pA.PM lA iB hx has hc) h3 h4 kk)
theorem To.sk(kk:To M St n b H₀ cs dl ((d,undef)::R) L ds l k)(h3:o.dst=some d:=by exact rfl)(h4:d<n:=by decide)(h1:TA dl R o=some false:=by exact rfl):To M St n b H₀ cs dl R L ds (o::l) k:=To.vP h3 h4 h1 kk
theorem Tc.tt {c:Operand}{x y:Code}(hc:JA R c=some (.bool true))(h:Tc M St n b H₀ cs R L ds (.code x::k)):Tc M St n b H₀ cs R L ds (.code (.cond c x y)::k):=Tc.cond (t:=true) hc (fun _=> h) (fun h=> nomatch h)
theorem Tc.ff {c:Operand}{x y:Code}(hc:JA R c=some (.bool false))(h:Tc M St n b H₀ cs R L ds (.code y::k)):Tc M St n b H₀ cs R L ds (.code (.cond c x y)::k):=Tc.cond (t:=false) hc (fun h=> nomatch h) (fun _=> h)
theorem WB.f {g:FuncId}{az:List Value}{as':Array Value}{H:View}{Q:Value->View->Prop}(hg:AA Tryz.prog g=true)(QA:([]++az++[]).toArray=as')(h:fA M g as' H Q):WB M (.func (.func g) #[] #[]) az H Q:=WB.of (first:= []) (captured:= []) hg QA h
theorem So.x {dl:List (Option Tmp)}{l:List Oper}(hp:MD Tryz.prog sh n R o v)(h:So J n b cs dl ((d,v)::R) ds l k)(hc:Cl Tryz.prog main sh J:=by first|exact Jm.cl|exact Jw.uX rfl|exact Jw.RO|exact Jq.cl|exact hc)(bI:o.dst=some d:=by exact rfl)(hn:Nat.blt d n=true:=by exact rfl)(hw:TA dl R o=some true:=by exact rfl)(QJ:BA o.op=false:=by exact rfl):So J n b cs dl R ds (o::l) k:=So.opD hc bI hn hw QJ hp h
theorem So.sk {dl:List (Option Tmp)}{l:List Oper}(h:So J n b cs dl ((d,undef)::R) ds l k)(hc:Cl Tryz.prog main sh J:=by first|exact Jm.cl|exact Jw.uX rfl|exact Jw.RO|exact Jq.cl|exact hc)(bI:o.dst=some d:=by exact rfl)(hn:Nat.blt d n=true:=by exact rfl)(hw:TA dl R o=some false:=by exact rfl):So J n b cs dl R ds (o::l) k:=So.P9 hc bI hn hw h
theorem Sc.rg {id:Nat}{ops:Array Oper}{dl:List (Option Tmp)}{l:List Oper}(hl:ops.toList=l)(kP:l.map (fun o:Oper=> o.dst)=dl)(h:So J n b cs dl R ds l k)(hc:Cl Tryz.prog main sh J:=by first|exact Jm.cl|exact Jw.uX rfl|exact Jw.RO|exact Jq.cl|exact hc):Sc J n b cs R ds (.code (.region id ops false)::k):=Sc.region hc hl kP h
theorem So.dn {dl:List (Option Tmp)}(h:Sc J n b cs R ds k)(hc:Cl Tryz.prog main sh J:=by first|exact Jm.cl|exact Jw.uX rfl|exact Jw.RO|exact Jq.cl|exact hc):So J n b cs dl R ds [] k:=So.done hc h
theorem Sc.sq {x y:Code}(h:Sc J n b cs R ds (.code x:: .code y::k))(hc:Cl Tryz.prog main sh J:=by first|exact Jm.cl|exact Jw.uX rfl|exact Jw.RO|exact Jq.cl|exact hc):Sc J n b cs R ds (.code (.seq x y)::k):=Sc.seq hc h
theorem Sc.sp(h:Sc J n b cs R ds k)(hc:Cl Tryz.prog main sh J:=by first|exact Jm.cl|exact Jw.uX rfl|exact Jw.RO|exact Jq.cl|exact hc):Sc J n b cs R ds (.code .skip::k):=Sc.skip hc h
theorem Sc.bl {id:Nat}{c:Code}(h:Sc J n b cs R ds (.code c:: .inBlock id::k))(hc:Cl Tryz.prog main sh J:=by first|exact Jm.cl|exact Jw.uX rfl|exact Jw.RO|exact Jq.cl|exact hc):Sc J n b cs R ds (.code (.block id c)::k):=Sc.block hc h
theorem Sc.ib {id:Nat}(h:Sc J n b cs R ds k)(hc:Cl Tryz.prog main sh J:=by first|exact Jm.cl|exact Jw.uX rfl|exact Jw.RO|exact Jq.cl|exact hc):Sc J n b cs R ds (.inBlock id::k):=Sc.inBlock hc h
theorem Sc.xt {id:Nat}{k':List Item}(he:exitTo id k=some k')(h:Sc J n b cs R ds k')(hc:Cl Tryz.prog main sh J:=by first|exact Jm.cl|exact Jw.uX rfl|exact Jw.RO|exact Jq.cl|exact hc):Sc J n b cs R ds (.code (.exit id)::k):=Sc.exit hc he h
theorem Sc.tt {c:Operand}{x y:Code}(hx:JA R c=some (.bool true))(h:Sc J n b cs R ds (.code x::k))(hc:Cl Tryz.prog main sh J:=by first|exact Jm.cl|exact Jw.uX rfl|exact Jw.RO|exact Jq.cl|exact hc):Sc J n b cs R ds (.code (.cond c x y)::k):=Sc.cond hc (t:=true) hx (fun _=> h) (fun h=> nomatch h)
theorem Sc.ff {c:Operand}{x y:Code}(hx:JA R c=some (.bool false))(h:Sc J n b cs R ds (.code y::k))(hc:Cl Tryz.prog main sh J:=by first|exact Jm.cl|exact Jw.uX rfl|exact Jw.RO|exact Jq.cl|exact hc):Sc J n b cs R ds (.code (.cond c x y)::k):=Sc.cond hc (t:=false) hx (fun h=> nomatch h) (fun _=> h)
end
section
variable {M:Md Tryz.prog}{St:View->Goroutine->Prop}{n:Nat}{b:FB}{H₀:View}{cs:List Frame}{R:Rg}{L L₁:Bl}{ds:List Deferred}{k:List Item}{md:Region.Mode}{ops:Array Oper}{fuel:Nat}{listed:Array Bool}{B:List Nat}{Ls:Bl}{o:Oper}{d:Nat}{v:Value}
theorem Ta.q {H₁:View}(i:Nat)(hi:ops[i]? =some o)(hv:pA Tryz.prog n H₀ R L o v)(h:Ta M St n b H₁ cs (S2 H₀ B Ls L) md ops fuel (listed.setIfInBounds i true) ((d,v)::R) L₁ ds k)(hc:cD md ops B listed i=true:=by kernel_rfl)(hd:o.dst=some d:=by exact rfl)(hn:d<n:=by decide)(mF:BA o.op=false:=by exact rfl)(hw:TA (ops.toList.map (fun o:Oper=> o.dst)) R o=some true:=by exact rfl):
 Ta M St n b H₁ cs (S2 H₀ B Ls L) md ops (fuel+1) listed R L₁ ds k:=Ta.tk i hc hi hd hn mF hw (pA.take hv) h
end
end Go.RL
namespace Go.RL
open Go.Conc
abbrev bA(l:List UInt8):Value:=.string ⟨⟨l⟩⟩
theorem oX(l:By):(ByteArray.mk ⟨l⟩).toList=l:=ByteArray.toList_eq _
theorem pX(l:By):(ByteArray.mk ⟨l⟩).size=l.length:=rfl
theorem D1(l m:By):(ByteArray.mk ⟨l⟩++ByteArray.mk ⟨m⟩)=ByteArray.mk ⟨l++m⟩:=by
 apply ByteArray.ext
 apply Array.ext'
 simp
theorem VR(l:By)(a b:Nat):(ByteArray.mk ⟨l⟩).extract a b=ByteArray.mk ⟨(l.drop a).take (b-a)⟩:=by
 apply ByteArray.ext
 apply Array.ext'
 simp[List.take_drop]
section
variable {P:Program}{E:Env P}{M:Md P}{n:Nat}{H₀:View}{R:Rg}{L L':Bl}{K:Rg->Bl->Prop}{o:Oper}{d:Nat}{v:Value}
theorem pA.aFM {t:TypeId}{x:Operand}{l:By}{cl:Go.Call}{r:FA}(lA:o.op=.call cl)(iB:cl.callee=.builtin .len)(uG:cl.argTypes=#[t])(sI:cl.args=#[x])
  (hx:JA R x=some (bA l)) (ht:E.ty t=some r) (jC:r.ds=.str):pA P n H₀ R L o (.int .i64 (l.length:Nat)):=fun H tmps _ hr=> by
 unfold execOp;rw[lA];simp only[resolve,iB,uG,sI];have hm:Array.map (OB tmps) #[x]=#[bA l]:=by simp[hr.ev hx]
 rw[hm];refine aA (Builtin.len_ #[t] o.type #[bA l]) _ (aA (underlying t) _ (gA (DF ((E.ok _ _ ht).ds.trans jC)) ?_));exact⟨rfl,rfl⟩
def LB(op:BinOp)(l m:By):Option Value:=
 match op with
 | .add=> if l.length+m.length<=1000000000 then some (bA (l++m)) else none
 | .eql=> some (.bool (l==m))
 | .neq=> some (.bool (!(l==m)))
 | .lss=> some (.bool (Op.bytesLess l m))
 | .leq=> some (.bool (Op.bytesLess l m||l==m))
 | .gtr=> some (.bool (!(Op.bytesLess l m||l==m)))
 | .geq=> some (.bool (!(Op.bytesLess l m)))
 | _=> none
theorem wU {op:BinOp}{l m:By}{H:View}{Q:Value->View->Prop}(h:LB op l m=some v)(hq:Q v H):HA P (Op.stringOp op ⟨⟨l⟩⟩ ⟨⟨m⟩⟩) H Q:=by
 unfold Op.stringOp;simp only[oX,pX,D1];cases op <;> simp only[LB,Option.some.injEq,reduceCtorEq] at h <;> try (subst h;exact hq)
 split at h
 ·cases h
  have e:¬((l.length+m.length:Nat):Int)>IntKind.i64.max:=by
   have:IntKind.i64.max=9223372036854775807:=by decide
   omega
  rw[if_neg e];exact hq
 ·cases h
theorem pA.LB {op:BinOp}{t u:TypeId}{x y:Operand}{l m:By}(lA:o.op=.binOp op t x y u)(hx:JA R x=some (bA l))(hy:JA R y=some (bA m))(hz:RL.LB op l m=some v):pA P n H₀ R L o v:=fun H tmps _ hr=> by
 unfold execOp;rw[lA];simp only[hr.ev hx,hr.ev hy];refine aA _ _ ?_;have hg:HA P (eqGuard op t x y (bA l) (bA m)) H fun _ H'=> HA P (binOp op t (bA l) (bA m)) H' fun a H'=> HA P (Sem.pure (Next.value a)) H' fun nx H'=> nx=.value v/\H'=H:=by
  have h1:HA P (binOp op t (bA l) (bA m)) H fun a H'=> HA P (Sem.pure (Next.value a)) H' fun nx H'=> nx=.value v/\H'=H:=by
   have h2:=wU (P:=P) (H:=H) (Q:=fun a H'=> HA P (Sem.pure (Next.value a)) H' fun nx H'=> nx=.value v/\H'=H) hz ⟨rfl,rfl⟩;cases op <;> first|exact h2|(simp[RL.LB] at hz)
  cases op <;> exact h1
 exact aA _ _ hg
theorem pA.pD {t:TypeId}{x:Operand}{lo hi:Option Operand}{a b:Int}{l:By}{r:FA}(lA:o.op=.slice t x lo hi none)(hx:JA R x=some (bA l))(ht:E.ty t=some r)(jC:r.ds=.str)
  (zN:bound R lo 0=some a) (gQ:bound R hi l.length=some b) (h0:0<=a) (h1:a<=b) (h2:b<=l.length):pA P n H₀ R L o (bA ((l.drop a.toNat).take (b.toNat-a.toNat))):=fun H tmps _ hr=> by
 unfold execOp;rw[lA];simp only[hr.ev hx];refine aA (Instr.sliceAt t _ _ _ _) _ ?_;refine aA (underlying t) _ (gA (DF ((E.ok _ _ ht).ds.trans jC)) ?_);refine aA (underlying t) _ (gA (DF ((E.ok _ _ ht).ds.trans jC)) ?_);show HA P ((Instr.sliceBounds false l.length l.length (lo.map (OB tmps)) (hi.map (OB tmps)) none).bind fun z=> Sem.pure (Value.string ((ByteArray.mk ⟨l⟩).extract z.1 z.2.1))) H _;refine aA _ _ (pG hr zN gQ h0 h1 h2 ?_);show Next.value (.string ((ByteArray.mk ⟨l⟩).extract a.toNat b.toNat))=_/\_;rw[VR];exact⟨rfl,rfl⟩
theorem pA.aCe {t u:TypeId}{x:Operand}{ik:IntKind}{c:Nat}{r r':FA}(lA:o.op=.convert t u x)(hx:JA R x=some (.int ik (c:Nat)))(hc:c<128)(ht:E.ty t=some r)(hr:r.ds=.int ik)(o5:E.ty u=some r')(XD:r'.ds=.str):pA P n H₀ R L o (bA [UInt8.ofNat c]):=fun H tmps _ L2=> by
 unfold execOp;rw[lA];simp only[L2.ev hx];show HA P (((underlying t).bind fun s=> (underlying u).bind fun e=> _).bind _) H _;refine aA _ _ (aA _ _ (gA (mL ((E.ok _ _ ht).ds.trans hr)) (aA _ _ (gA (DF ((E.ok _ _ o5).ds.trans XD)) ?_))));show HA P (Conv.intToString (c:Nat)) H _;have e:Utf8.encode ((c:Nat):Int)=⟨⟨[UInt8.ofNat c]⟩⟩:=by
  unfold Utf8.encode;have hv:Utf8.valid ((c:Nat):Int)=true:=by
   unfold Utf8.valid;simp
   omega
  simp only[hv,if_true,Int.toNat_natCast];rw[if_pos hc]
 unfold Conv.intToString;rw[e];exact⟨rfl,rfl⟩
theorem Or.hU {t:TypeId}{x:Operand}{s:ByteArray}{r:FA}(lA:o.op=.range t x)(hx:JA R x=some (.string s))(ht:E.ty t=some r)(jC:r.ds=.str)
  (hd:o.dst=some d) (hn:d<n) (hk:∀blk,K ((d,.pt blk)::R) ((blk,true,.stringIter s 0)::L)):Or M n H₀ R L o K:=
 .newObj (val:=fun blk=> .pointer (some ⟨blk,0,none⟩)) hd hn (fun H tmps hs hr Q hQ=> by
  unfold execOp;rw[lA];simp only[hr.ev hx];refine aA (Instr.range t _) _ ?_;refine aA (underlying t) _ (gA (DF ((E.ok _ _ ht).ds.trans jC)) ?_);exact fun blk hb=> hQ blk hb) hk
theorem Or.CQ(i:Nat){x:Operand}{it p c w:Nat}{s:ByteArray}(lA:o.op=.next x true)(hx:JA R x=some (.pointer (some ⟨it,0,none⟩)))(hi:L[i]? =some (it,true,.stringIter s p))
  (hp:p<s.size) (MK:Utf8.decode s p=(c,w)) (hd:o.dst=some d) (hn:d<n)
  (hk:K ((d,.tuple #[.bool true,.nt p,.int .i32 (c:Nat)])::R) (L.set i (it,true,.stringIter s (p+w)))):Or M n H₀ R L o K:=
 .val hd hn fun H tmps hs hr=> by
  unfold execOp;rw[lA];simp only[hr.ev hx];have CJ:=hs.get hi;refine aA (Instr.next _ true _) _ ?_;refine⟨true,_,CJ,by simp,rfl,?_⟩;show HA P (if p<s.size then(setObj it (.stringIter s (p+(Utf8.decode s p).2))).bind fun _=> Sem.pure (Value.tuple #[.bool true,goInt (p:Nat),.int .i32 (((Utf8.decode s p).1:Nat):Int)]) else Sem.pure (Value.tuple #[.bool false])) H _;rw[if_pos hp,MK];refine⟨⟨_,CJ,by simp⟩,rfl,?_⟩;exact⟨_,rfl,_,hs.set hi _,hk⟩
theorem Or.ZT(i:Nat){x:Operand}{it p:Nat}{s:ByteArray}(lA:o.op=.next x true)(hx:JA R x=some (.pointer (some ⟨it,0,none⟩)))(hi:L[i]? =some (it,true,.stringIter s p))
  (hp:¬p<s.size) (hd:o.dst=some d) (hn:d<n) (hk:K ((d,.tuple #[.bool false])::R) L):Or M n H₀ R L o K:=
 .val hd hn fun H tmps hs hr=> by
  unfold execOp;rw[lA];simp only[hr.ev hx];have CJ:=hs.get hi;refine aA (Instr.next _ true _) _ ?_;refine⟨true,_,CJ,by simp,rfl,?_⟩;show HA P (if p<s.size then _ else _) H _;rw[if_neg hp];exact⟨_,rfl,_,hs,hk⟩
theorem UB {l m:By}(h:l.length+m.length<=1000000000):RL.LB .add l m=some (bA (l++m)):=if_pos h
theorem lN(l:By)(i:Nat):(ByteArray.mk ⟨l⟩)[i]? =l[i]? :=by
 by_cases h:i<l.length
 ·rw[List.getElem?_eq_getElem h];exact getElem?_pos (ByteArray.mk ⟨l⟩) i h
 ·rw[List.getElem?_eq_none oM];exact getElem?_neg (ByteArray.mk ⟨l⟩) i h
theorem pA.uL {t:TypeId}{x y:Operand}{ik:IntKind}{j:Int}{l:By}{c:UInt8}{r:FA}(lA:o.op=.index t x y)(hx:JA R x=some (bA l))(hy:JA R y=some (.int ik j))(ht:E.ty t=some r)(jC:r.ds=.str)(h0:0<=j)(hb:l[j.toNat]? =some c):
 pA P n H₀ R L o (.int .u8 (c.toNat:Nat)):=pA.lQ lA hx hy (DF ((E.ok _ _ ht).ds.trans jC)) h0 (by rw[lN];exact hb)
theorem pA.max {t u:TypeId}{x y:Operand}{k:IntKind}{p q z:Int}{cl:Go.Call}(lA:o.op=.call cl)(iB:cl.callee=.builtin .max)(uG:cl.argTypes=#[t,u])(sI:cl.args=#[x,y])(hx:JA R x=some (.int k p))(hy:JA R y=some (.int k q))(hz:(if q>p then q else p)=z):
  pA P n H₀ R L o (.int k z):=fun H tmps _ hr=> by
 unfold execOp;rw[lA];simp only[resolve,iB,uG,sI];have hm:Array.map (OB tmps) #[x,y]=#[.int k p,.int k q]:=by simp[hr.ev hx,hr.ev hy]
 rw[hm,<-hz];exact⟨rfl,rfl⟩
theorem pA.min {t u:TypeId}{x y:Operand}{k:IntKind}{p q z:Int}{cl:Go.Call}(lA:o.op=.call cl)(iB:cl.callee=.builtin .min)(uG:cl.argTypes=#[t,u])(sI:cl.args=#[x,y])(hx:JA R x=some (.int k p))(hy:JA R y=some (.int k q))(hz:(if q<p then q else p)=z):
  pA P n H₀ R L o (.int k z):=fun H tmps _ hr=> by
 unfold execOp;rw[lA];simp only[resolve,iB,uG,sI];have hm:Array.map (OB tmps) #[x,y]=#[.int k p,.int k q]:=by simp[hr.ev hx,hr.ev hy]
 rw[hm,<-hz];exact⟨rfl,rfl⟩
theorem Or.same {o':Oper}(h:∀ev,execOp ev o=execOp ev o')(hd:o.dst=o'.dst)(k:Or M n H₀ R L o' K):Or M n H₀ R L o K:=fun H tmps hs hr=> by
 have:=k H tmps hs hr;unfold pF at *;rw[h,hd];exact this
theorem Or.insert(i dp:Nat){t kt et:TypeId}{x y z:Operand}{m:Nat}{k v:Value}{es:Array MapEntry}{cl:Nat}{r:FA}(lA:o.op=.insert t x y z)(hx:JA R x=some (.map (some m)))(hy:JA R y=some k)(hz:JA R z=some v)
  (hi:L[i]? =some (m,true,.map es cl)) (ht:E.ty t=some r) (jC:r.ds=.map kt et) (PZ:dp<=10000) (hk:zH E dp kt k) (wJ:∀e∈es.toList,zH E dp kt e.key) (hd:o.dst=none)
  (hq:∀r,eL es.toList k r->K R (L.set i (m,true,nY es cl k v r))):Or M n H₀ R L o K:=
 Or.same (o':= { o with op:=.mapUpdate t x y z }) (fun ev=> by unfold execOp;rw[lA]) rfl (Or.mapUpdate i dp rfl hx hy hz hi ht jC PZ hk wJ hd hq)
end
end Go.RL
namespace Go.RL
open Go.Conc Go.Proofs Go.Proofs.YtldmfjcgjdchcaaGreatDoor
set_option maxRecDepth 10000
section
variable {M:Md Tryz.prog}{St:View->Goroutine->Prop}{n:Nat}{b:FB}{H₀:View}{cs:List Frame}{R:Rg}{L:Bl}{ds:List Deferred}{k:List Item}{dl:List (Option Tmp)}{l:List Oper}{o:Oper}{d:Nat}{v:Value}{main:Bool}{sh:Shp}{J:Goroutine->Prop}
theorem To.m {x:Operand}(kk:To M St n b H₀ cs dl ((d,v)::R) L ds l k)(lA:o.op=.move x:=by exact rfl)(hx:JA R x=some v:=by exact rfl)(h1:TA dl R o=some true:=by exact rfl)(h2:BA o.op=false:=by exact rfl)(h3:o.dst=some d:=by exact rfl)(h4:d<n:=by decide):To M St n b H₀ cs dl R L ds (o::l) k:=To.op h1 h2 (Or.uS (pA.move lA hx) h3 h4 kk)
theorem To.g {x:Operand}(kk:To M St n b H₀ cs dl ((d,v)::R) L ds l k)(lA:o.op=.assign x:=by exact rfl)(hx:JA R x=some v:=by exact rfl)(h1:TA dl R o=some true:=by exact rfl)(h2:BA o.op=false:=by exact rfl)(h3:o.dst=some d:=by exact rfl)(h4:d<n:=by decide):To M St n b H₀ cs dl R L ds (o::l) k:=To.op h1 h2 (Or.uS (pA.assign lA hx) h3 h4 kk)
theorem To.i {op:BinOp}{t u:TypeId}{x y:Operand}{ik:IntKind}{p q:Int}(kk:To M St n b H₀ cs dl ((d,v)::R) L ds l k)(lA:o.op=.binOp op t x y u:=by exact rfl)(hx:JA R x=some (.int ik p):=by exact rfl)(hy:JA R y=some (.int ik q):=by exact rfl)(h1:TA dl R o=some true:=by exact rfl)(h2:BA o.op=false:=by exact rfl)(h3:o.dst=some d:=by exact rfl)(h4:d<n:=by decide)(z:iA op ik p q=some v):To M St n b H₀ cs dl R L ds (o::l) k:=To.op h1 h2 (Or.uS (pA.int lA hx hy z) h3 h4 kk)
theorem To.j {op:BinOp}{t u:TypeId}{x y:Operand}{ik:IntKind}{p q:Int}(kk:To M St n b H₀ cs dl ((d,v)::R) L ds l k)(lA:o.op=.binOp op t x y u:=by exact rfl)(hx:JA R x=some (.int ik p):=by exact rfl)(hy:JA R y=some (.int ik q):=by exact rfl)(z:iA op ik p q=some v:=by first|exact pB (by omega) (by omega)|exact pH (by omega) (by omega)|exact xO (by omega)|exact GH (by omega)|exact gH (by omega)|exact BI (by omega)|exact wE (by omega)|exact IC (by omega)|exact CH (by omega)|exact mJ (by omega)|exact tG (by omega)|exact sG (by omega)|exact xI (by omega)|exact wI (by omega))(h1:TA dl R o=some true:=by exact rfl)(h2:BA o.op=false:=by exact rfl)(h3:o.dst=some d:=by exact rfl)(h4:d<n:=by decide):To M St n b H₀ cs dl R L ds (o::l) k:=To.op h1 h2 (Or.uS (pA.int lA hx hy z) h3 h4 kk)
theorem To.mm {o':Oper}{d':Nat}{v':Value}{x y:Operand}(kk:To M St n b H₀ cs dl ((d',v')::(d,v)::R) L ds l k)(lA:o.op=.move x:=by exact rfl)(hx:JA R x=some v:=by exact rfl)(h1:TA dl R o=some true:=by exact rfl)(h2:BA o.op=false:=by exact rfl)(h3:o.dst=some d:=by exact rfl)(h4:d<n:=by decide)(gop:o'.op=.move y:=by exact rfl)(gx:JA ((d,v)::R) y=some v':=by exact rfl)(g1:TA dl ((d,v)::R) o'=some true:=by exact rfl)(g2:BA o'.op=false:=by exact rfl)(g3:o'.dst=some d':=by exact rfl)(g4:d'<n:=by decide):To M St n b H₀ cs dl R L ds (o::o'::l) k:=To.m (To.m kk gop gx g1 g2 g3 g4) lA hx h1 h2 h3 h4
theorem Tc.r {id:Nat}{ops:Array Oper}(h:To M St n b H₀ cs dl R L ds l k)(hl:ops.toList=l:=by exact rfl)(kP:l.map (fun o:Oper=> o.dst)=dl:=by exact rfl):Tc M St n b H₀ cs R L ds (.code (.region id ops false)::k):=Tc.region hl kP h
theorem Tc.sr {id:Nat}{ops:Array Oper}{y:Code}(h:To M St n b H₀ cs dl R L ds l (.code y::k))(hl:ops.toList=l:=by exact rfl)(kP:l.map (fun o:Oper=> o.dst)=dl:=by exact rfl):Tc M St n b H₀ cs R L ds (.code (.seq (.region id ops false) y)::k):=Tc.seq (Tc.region hl kP h)
theorem Tc.db {L':Bl}{todo:List Item}{R':Rg}(h:Tc M St n b H₀ cs R' L' ds todo)(hR:pC R' R:=by repeat (first|exact trivial|refine⟨rfl,?_⟩))(hL:L'.Sublist L:=by repeat (first|exact List.Sublist.refl _|exact List.nil_sublist _|exact List.sublist_append_left _ _|apply List.Sublist.cons_cons|apply List.Sublist.cons)):Tc M St n b H₀ cs R L ds todo:=Tc.yC h hR hL
theorem Tc.rt {fn:Func}{c:Frame}{Q:Value->View->Prop}{f:FuncId}{rs:List ResultVar}(hK:∀v H',Q v H'->T M St H' (G (c.finish v) cs))(hf:Tryz.prog.funcs[f]? =some fn)(XO:fn.results=rs.toArray)(vs:List Value)(h:∀H',jA H₀ L H'->Q (gF vs) H')
 (ho:fJ en R L rs vs:=by repeat (first|exact trivial|refine⟨rfl,?_⟩|refine⟨⟨0,_,_,_,_,_,_,_,rfl,rfl,rfl,rfl⟩,?_⟩|refine⟨⟨1,_,_,_,_,_,_,_,rfl,rfl,rfl,rfl⟩,?_⟩|refine⟨⟨2,_,_,_,_,_,_,_,rfl,rfl,rfl,rfl⟩,?_⟩|refine⟨⟨3,_,_,_,_,_,_,_,rfl,rfl,rfl,rfl⟩,?_⟩|refine⟨⟨4,_,_,_,_,_,_,_,rfl,rfl,rfl,rfl⟩,?_⟩|refine⟨⟨5,_,_,_,_,_,_,_,rfl,rfl,rfl,rfl⟩,?_⟩|refine⟨⟨6,_,_,_,_,_,_,_,rfl,rfl,rfl,rfl⟩,?_⟩)):Tc M St n ⟨f,.normal,none⟩ H₀ (c::cs) R L [] (.code .ret::k):=Tc.aHt (E:=en) hK hf XO ho h
theorem Tc.ov {fn:Func}{c:Frame}{Q:Value->View->Prop}{f:FuncId}{rs:List ResultVar}(hK:∀v H',Q v H'->T M St H' (G (c.finish v) cs))(hf:Tryz.prog.funcs[f]? =some fn)(XO:fn.results=rs.toArray)(vs:List Value)(h:∀H',jA H₀ L H'->Q (gF vs) H')
 (ho:fJ en R L rs vs:=by repeat (first|exact trivial|refine⟨rfl,?_⟩|refine⟨⟨0,_,_,_,_,_,_,_,rfl,rfl,rfl,rfl⟩,?_⟩|refine⟨⟨1,_,_,_,_,_,_,_,rfl,rfl,rfl,rfl⟩,?_⟩|refine⟨⟨2,_,_,_,_,_,_,_,rfl,rfl,rfl,rfl⟩,?_⟩|refine⟨⟨3,_,_,_,_,_,_,_,rfl,rfl,rfl,rfl⟩,?_⟩|refine⟨⟨4,_,_,_,_,_,_,_,rfl,rfl,rfl,rfl⟩,?_⟩|refine⟨⟨5,_,_,_,_,_,_,_,rfl,rfl,rfl,rfl⟩,?_⟩|refine⟨⟨6,_,_,_,_,_,_,_,rfl,rfl,rfl,rfl⟩,?_⟩)):Tc M St n ⟨f,.normal,none⟩ H₀ (c::cs) R L [] []:=Tc.aFU (E:=en) hK hf XO ho h
theorem To.bo {e:TypeId}{x:Operand}(kk:∀blk,To M St n b H₀ cs dl ((d,.pt blk)::R) ((blk,true,.cells ⟨v.cells.toList⟩ e (0,0))::L) ds l k)(lA:o.op=.box e x:=by exact rfl)(hx:JA R x=some v:=by exact rfl)(h1:TA dl R o=some true:=by exact rfl)(h2:BA o.op=false:=by exact rfl)(h3:o.dst=some d:=by exact rfl)(h4:d<n:=by decide):To M St n b H₀ cs dl R L ds (o::l) k:=To.op h1 h2 (Or.box lA h3 h4 hx kk)
theorem To.al {e:TypeId}{r:FA}(kk:∀blk,To M St n b H₀ cs dl ((d,.pt blk)::R) ((blk,true,.cells ⟨r.zero.cells.toList⟩ e (0,0))::L) ds l k)(lA:o.op=.alloc e:=by exact rfl)(ht:en.ty e=some r:=by exact rfl)(h1:TA dl R o=some true:=by exact rfl)(h2:BA o.op=false:=by exact rfl)(h3:o.dst=some d:=by exact rfl)(h4:d<n:=by decide):To M St n b H₀ cs dl R L ds (o::l) k:=To.op h1 h2 (Or.alloc (E:=en) lA ht h3 h4 kk)
theorem Ta.z {H₁:View}(i:Nat){md:Region.Mode}{ops:Array Oper}{B:List Nat}{Ls L₁:Bl}{fuel:Nat}{listed:Array Bool}(hi:ops[i]? =some o)
 (hv:∀H tmps,jA H₀ L H->YA n R tmps->tD M o tmps H fun u H'=> u=v/\H.le H')
 (h:Ta M St n b H₁ cs (S2 H₀ B Ls L) md ops fuel (listed.setIfInBounds i true) ((d,v)::R) L₁ ds k) (hc:cD md ops B listed i=true:=by kernel_rfl) (hd:o.dst=some d:=by exact rfl) (hn:d<n:=by decide) (mF:BA o.op=false:=by exact rfl) (hw:TA (ops.toList.map (fun o:Oper=> o.dst)) R o=some true:=by exact rfl):
 Ta M St n b H₁ cs (S2 H₀ B Ls L) md ops (fuel+1) listed R L₁ ds k:=Ta.tk i hc hi hd hn mF hw hv h
theorem So.m {x:Operand}(h:So J n b cs dl ((d,v)::R) ds l k)(lA:o.op=.move x:=by exact rfl)(hx:JA R x=some v:=by exact rfl)(hc:Cl Tryz.prog main sh J:=by first|exact Jm.cl|exact Jw.uX rfl|exact Jw.RO|exact Jq.cl|exact hc)(bI:o.dst=some d:=by exact rfl)(hn:Nat.blt d n=true:=by exact rfl)(hw:TA dl R o=some true:=by exact rfl)(QJ:BA o.op=false:=by exact rfl):So J n b cs dl R ds (o::l) k:=So.opD hc bI hn hw QJ (sh:=sh) (MD.move lA hx) h
theorem So.g {x:Operand}(h:So J n b cs dl ((d,v)::R) ds l k)(lA:o.op=.assign x:=by exact rfl)(hx:JA R x=some v:=by exact rfl)(hc:Cl Tryz.prog main sh J:=by first|exact Jm.cl|exact Jw.uX rfl|exact Jw.RO|exact Jq.cl|exact hc)(bI:o.dst=some d:=by exact rfl)(hn:Nat.blt d n=true:=by exact rfl)(hw:TA dl R o=some true:=by exact rfl)(QJ:BA o.op=false:=by exact rfl):So J n b cs dl R ds (o::l) k:=So.opD hc bI hn hw QJ (sh:=sh) (MD.assign lA hx) h
theorem So.i {op:BinOp}{u u':TypeId}{x y:Operand}{ik:IntKind}{p q:Int}(h:So J n b cs dl ((d,v)::R) ds l k)(lA:o.op=.binOp op u x y u':=by exact rfl)(hx:JA R x=some (.int ik p):=by exact rfl)(hy:JA R y=some (.int ik q):=by exact rfl)(hc:Cl Tryz.prog main sh J:=by first|exact Jm.cl|exact Jw.uX rfl|exact Jw.RO|exact Jq.cl|exact hc)(bI:o.dst=some d:=by exact rfl)(hn:Nat.blt d n=true:=by exact rfl)(hw:TA dl R o=some true:=by exact rfl)(QJ:BA o.op=false:=by exact rfl)(z:iA op ik p q=some v):So J n b cs dl R ds (o::l) k:=So.opD hc bI hn hw QJ (sh:=sh) (MD.int lA hx hy z) h
end
theorem fA.en {M:Md Tryz.prog}{f:FuncId}{fn:Func}{body:Code}{n:Nat}{vs:List Value}{H:View}{Q:Value->View->Prop}(hf:Tryz.prog.funcs[f]? =some fn)(hn:fn.ntmps=n)
 (h:∀St c cs,(∀v H',Q v H'->T M St H' (G (c.finish v) cs))->Tc M St n ⟨f,.normal,none⟩ H (c::cs) (gL vs) [] [] [.code body]) (hb:fn.body=some body:=by exact rfl) (hv:vs.length<=n:=by exact Nat.le_of_ble_eq_true rfl):fA M f vs.toArray H Q:=fA.enter hf hb hn hv (jA.nil _) h
theorem okB {H:View}{L:Bl}{v:Value}:∀H':View,jA H L H'->H.le H'/\v=v:=fun _ hs=> ⟨hs.base,rfl⟩
theorem fA.is {P:Program}{M:Md P}{f:FuncId}{az:Array Value}{H:View}{w:Value}(w':Value)(e:w=w')(h:fA M f az H fun v H'=> H.le H'/\v=w):fA M f az H fun v H'=> H.le H'/\v=w':=e▸h
section
variable {n:Nat}{H₀:View}{R:Rg}{L:Bl}{o:Oper}{v:Value}
theorem pA.a(h:pA Tryz.prog n H₀ R L o v:=by first|exact .mv|exact .sg|exact .fa|exact .pk|exact .et|exact .ln|exact .nt|exact .nk|exact .bu|exact .mf|exact .cv|exact .eb|exact .nb|exact .ia|exact .ib|exact .fd|exact .ld 0|exact .ld 1|exact .ld 2|exact .ld 3|exact .ld 4|exact .ld 5|exact .ld 6|exact .l0|exact .it (zz:=by first|assumption|exact pH oM oM|exact pB oM oM|exact xO oM|exact GH oM|exact gH oM|exact BI oM|exact wE oM|exact IC oM|exact CH oM|exact mJ oM|exact tG oM|exact sG oM|exact xI oM|exact wI oM|exact rfl)|exact pA.aFM (E:=en) rfl rfl rfl rfl rfl rfl rfl|exact pA.LB rfl rfl rfl (by first|assumption|exact rfl)|exact pA.uL (E:=en) rfl rfl rfl rfl rfl oM (by assumption)):pA Tryz.prog n H₀ R L o v:=h
end
section
variable {M:Md Tryz.prog}{St:View->Goroutine->Prop}{n:Nat}{b:FB}{H₀ H₁:View}{cs:List Frame}{R:Rg}{L Ls L₁:Bl}{ds:List Deferred}{k:List Item}{md:Region.Mode}{ops:Array Oper}{fuel:Nat}{listed:Array Bool}{B C:List Nat}{o:Oper}{d:Nat}{v:Value}{S:Array Bool->View->Prop}
theorem Ta.nn(i:Nat)(h:Ta M St n b H₁ cs (S2 H₀ B Ls L) md ops fuel (listed.setIfInBounds i true) ((d,v)::R) L₁ ds k)(hi:ops[i]? =some o:=by exact rfl)
 (hc:cD md ops B listed i=true:=by kernel_rfl) (ho:pA Tryz.prog n H₀ R L o v:=by exact .a) (hw:TA (ops.toList.map (fun o:Oper=> o.dst)) R o=some true:=by exact rfl) (hd:o.dst=some d:=by exact rfl) (hn:d<n:=by decide) (mF:BA o.op=false:=by exact rfl):Ta M St n b H₁ cs (S2 H₀ B Ls L) md ops (fuel+1) listed R L₁ ds k:=Ta.tk i hc hi hd hn mF hw (pA.take ho) h
theorem Ta.nw(i:Nat)(h:Ta M St n b H₁ cs (S2 H₀ B Ls L) md ops fuel (listed.setIfInBounds i true) ((d,v)::R) L₁ ds k)(hi:ops[i]? =some o:=by exact rfl)
  (hc:cD md ops [] listed i=true:=by kernel_rfl) (hb:B.contains i=false:=by exact rfl) (hv:TA (ops.toList.map (fun o:Oper=> o.dst)) R o=some false/\v=undef\/TA (ops.toList.map (fun o:Oper=> o.dst)) R o=some true/\pA Tryz.prog n H₀ R Ls o v:=by first|exact .inl ⟨rfl,rfl⟩|exact .inr ⟨rfl,.a⟩) (hd:o.dst=some d:=by exact rfl) (hn:d<n:=by decide) (mF:BA o.op=false:=by exact rfl):Ta M St n b H₁ cs (S2 H₀ B Ls L) md ops (fuel+1) listed R L₁ ds k:=by
 rcases hv with ⟨hw,rfl⟩|⟨hw,ho⟩
 ·exact Ta.ps i hc hb hi hd hn mF hw h
 ·exact Ta.tkw i hc hb hi hd hn mF hw (pA.take ho) h
theorem Ta.oo(i:Nat)(h:Ta M St n b H₀ cs (S3 H₀ B C Ls L) md ops fuel (listed.setIfInBounds i true) ((d,v)::R) L₁ ds k)(hi:ops[i]? =some o:=by exact rfl)
 (hc:QH md ops B C listed i=true:=by kernel_rfl) (ho:pA Tryz.prog n H₀ R L o v:=by exact .a) (hw:TA (ops.toList.map (fun o:Oper=> o.dst)) R o=some true:=by exact rfl) (hd:o.dst=some d:=by exact rfl) (hn:d<n:=by decide) (mF:BA o.op=false:=by exact rfl):Ta M St n b H₀ cs (S3 H₀ B C Ls L) md ops (fuel+1) listed R L₁ ds k:=Ta.MY i hc hi hd hn mF hw (pA.take ho) h
theorem Ta.ow(i:Nat)(h:Ta M St n b H₀ cs (S3 H₀ B C Ls L) md ops fuel (listed.setIfInBounds i true) ((d,v)::R) L₁ ds k)(hi:ops[i]? =some o:=by exact rfl)
  (hc:QH md ops [] C listed i=true:=by kernel_rfl) (hb:B.contains i=false:=by exact rfl) (hv:TA (ops.toList.map (fun o:Oper=> o.dst)) R o=some false/\v=undef\/TA (ops.toList.map (fun o:Oper=> o.dst)) R o=some true/\pA Tryz.prog n H₀ R Ls o v:=by first|exact .inl ⟨rfl,rfl⟩|exact .inr ⟨rfl,.a⟩) (hd:o.dst=some d:=by exact rfl) (hn:d<n:=by decide) (mF:BA o.op=false:=by exact rfl):Ta M St n b H₀ cs (S3 H₀ B C Ls L) md ops (fuel+1) listed R L₁ ds k:=by
 rcases hv with ⟨hw,rfl⟩|⟨hw,ho⟩
 ·exact Ta.psC i hc hb hi hd hn mF hw h
 ·exact Ta.aAh i hc hb hi hd hn mF hw (pA.take ho) h
theorem Ta.ea(i:Nat)(ho:ops[i]? =some o)(h:Or M n H₀ R L o fun R' L'=> (∀H,jA H₀ L' H->S (listed.setIfInBounds i true) H)/\Ta M St n b H₀ cs S md ops fuel (listed.setIfInBounds i true) R' L' ds k)(hr:Region.ready md ops listed= [i]:=by kernel_rfl)(hd:BA o.op=false:=by exact rfl)(hw:TA (ops.toList.map (fun o:Oper=> o.dst)) R o=some true:=by exact rfl):Ta M St n b H₀ cs S md ops (fuel+1) listed R L ds k:=Ta.each [i] hr rfl ⟨uJ.mk ho hd hw h,trivial⟩
theorem Ta.dn(h:Tc M St n b H₀ cs R L ds k)(hr:Region.ready md ops listed= []:=by kernel_rfl):Ta M St n b H₀ cs S md ops fuel listed R L ds k:=Ta.done hr h
theorem Ta.e(i j:Nat){t:TypeId}{x y:Operand}{r:FA}{blk off:Nat}{c c':List Value}{e:TypeId}(h:Ta M St n b H₀ cs (S2 H₁ B Ls L) md ops fuel (listed.setIfInBounds i true) R (L₁.set j (blk,true,.cells ⟨c'⟩ e (0,0))) ds k)(hi:ops[i]? =some o:=by exact rfl)(lA:o.op=.store t x y:=by exact rfl)(hx:JA R x=some (.pointer (some ⟨blk,off,none⟩)):=by exact rfl)(hy:JA R y=some v:=by exact rfl)(hj:L₁[j]? =some (blk,true,.cells ⟨c⟩ e (0,0)):=by exact rfl)(ht:en.ty t=some r:=by exact rfl)(hz:Nat.beq v.cells.toList.length r.size=true:=by exact rfl)(h0:Nat.beq r.size 0=false:=by exact rfl)(hl:Nat.ble (off+r.size) c.length=true:=by first|exact rfl|assumption)(hs:v.cells.toList.all single=true:=by exact rfl)(hd:o.dst=none:=by exact rfl)(hc:wH c off v.cells.toList=c':=by first|assumption|exact rfl)
  (hr:Region.ready md ops listed= [i]:=by kernel_rfl) (mF:BA o.op=false:=by exact rfl) (hw:TA (ops.toList.map (fun o:Oper=> o.dst)) R o=some true:=by exact rfl) (hS:∀H,jA H₀ (L₁.set j (blk,true,.cells ⟨c'⟩ e (0,0))) H->S2 H₁ B Ls L (listed.setIfInBounds i true) H:=by exact S2.mk (by repeat (first|exact List.Sublist.refl _|exact List.nil_sublist _|exact List.sublist_append_left _ _|apply List.Sublist.cons_cons|apply List.Sublist.cons)) (.inl kR)):Ta M St n b H₀ cs (S2 H₁ B Ls L) md ops (fuel+1) listed R L₁ ds k:=
 Ta.each [i] hr rfl ⟨uJ.mk hi mF hw (Or.storeT (E:=en) j lA hx hy hj ht hz h0 hl hs hd hc ⟨hS,h⟩),trivial⟩
theorem WB.h {g:FuncId}{az:List Value}{as':Array Value}{H:View}{Q:Value->View->Prop}(h:fA M g as' H Q)(QA:([]++az++[]).toArray=as':=by exact rfl)(hg:AA Tryz.prog g=true:=by kernel_rfl):WB M (.func (.func g) #[] #[]) az H Q:=WB.of (first:= []) (captured:= []) hg QA h
theorem pA.tk {M:Md Tryz.prog}{n:Nat}{H₀:View}{R:Rg}{L:Bl}{o:Oper}{v:Value}{g:FuncId}{as':Array Value}{cl:Go.Call}{x:Operand}{az:List Value}(hc:∀H,jA H₀ L H->fA M g as' H fun u H'=> H.le H'/\u=v)(lA:o.op=.call cl:=by exact rfl)(iB:cl.callee=.value x:=by exact rfl)(hx:JA R x=some (.func (.func g) #[] #[]):=by exact rfl)(has:lD R cl.args.toList=some az:=by exact rfl)(QA:([]++az++[]).toArray=as':=by exact rfl)(hg:AA Tryz.prog g=true:=by kernel_rfl):∀H tmps,jA H₀ L H->YA n R tmps->tD M o tmps H fun u H'=> u=v/\H.le H':=
 pA.PM lA iB hx has fun H hs=> WB.h (hc H hs) QA hg
theorem To.cl {M:Md Tryz.prog}{St:View->Goroutine->Prop}{n:Nat}{b:FB}{H₀:View}{cs:List Frame}{R:Rg}{L:Bl}{ds:List Deferred}{k:List Item}{dl:List (Option Tmp)}{l:List Oper}{o:Oper}{d:Nat}{v:Value}{g:FuncId}{as':Array Value}{cl:Go.Call}{x:Operand}{az:List Value}(hc:∀H,jA H₀ L H->fA M g as' H fun u H'=> H.le H'/\u=v)(kk:To M St n b H₀ cs dl ((d,v)::R) L ds l k)(lA:o.op=.call cl:=by exact rfl)(iB:cl.callee=.value x:=by exact rfl)(hx:JA R x=some (.func (.func g) #[] #[]):=by exact rfl)(has:lD R cl.args.toList=some az:=by exact rfl)(QA:([]++az++[]).toArray=as':=by exact rfl)(hg:AA Tryz.prog g=true:=by kernel_rfl)(h1:TA dl R o=some true:=by exact rfl)(h2:BA o.op=false:=by exact rfl)(h3:o.dst=some d:=by exact rfl)(h4:d<n:=by decide):To M St n b H₀ cs dl R L ds (o::l) k:=
 To.op h1 h2 (Or.R3 (pA.PM lA iB hx has fun H hs=> WB.h (hc H hs) QA hg) h3 h4 kk)
end
def uK(_:Nat)(Q P:Prop):Prop:=Q->P
section
variable {M:Md Tryz.prog}{St:View->Goroutine->Prop}{n:Nat}{b:FB}{H₀ H₁:View}{cs:List Frame}{R:Rg}{L Ls L₁:Bl}{ds:List Deferred}{k:List Item}{md:Region.Mode}{ops:Array Oper}{fuel:Nat}{listed:Array Bool}{B C:List Nat}{o:Oper}{d:Nat}{v:Value}
theorem uK.a {i:Nat}(hi:ops[i]? =some o:=by exact rfl)(hc:cD md ops B listed i=true:=by kernel_rfl)(ho:pA Tryz.prog n H₀ R L o v:=by exact .a)(hw:TA (ops.toList.map (fun o:Oper=> o.dst)) R o=some true:=by exact rfl)(hd:o.dst=some d:=by exact rfl)(hn:d<n:=by decide)(mF:BA o.op=false:=by exact rfl):
 uK i (Ta M St n b H₁ cs (S2 H₀ B Ls L) md ops fuel (listed.setIfInBounds i true) ((d,v)::R) L₁ ds k) (Ta M St n b H₁ cs (S2 H₀ B Ls L) md ops (fuel+1) listed R L₁ ds k):=fun h=> Ta.nn i h hi hc ho hw hd hn mF
end
theorem uK.tr {i:Nat}{P Q R:Prop}(h:uK i R P)(g:uK (i+1) Q R):uK i Q P:=fun q=> h (g q)
theorem V2(i:Nat){P Q:Prop}(q:Q)(h:uK i Q P:=by(iterate 1 (apply uK.tr;exact .a));exact .a):P:=h q
theorem V3(i:Nat){P Q:Prop}(q:Q)(h:uK i Q P:=by(iterate 2 (apply uK.tr;exact .a));exact .a):P:=h q
theorem V4(i:Nat){P Q:Prop}(q:Q)(h:uK i Q P:=by(iterate 3 (apply uK.tr;exact .a));exact .a):P:=h q
theorem V5(i:Nat){P Q:Prop}(q:Q)(h:uK i Q P:=by(iterate 4 (apply uK.tr;exact .a));exact .a):P:=h q
theorem V6(i:Nat){P Q:Prop}(q:Q)(h:uK i Q P:=by(iterate 5 (apply uK.tr;exact .a));exact .a):P:=h q
theorem V7(i:Nat){P Q:Prop}(q:Q)(h:uK i Q P:=by(iterate 6 (apply uK.tr;exact .a));exact .a):P:=h q
theorem V8(i:Nat){P Q:Prop}(q:Q)(h:uK i Q P:=by(iterate 7 (apply uK.tr;exact .a));exact .a):P:=h q
theorem V9(i:Nat){P Q:Prop}(q:Q)(h:uK i Q P:=by(iterate 8 (apply uK.tr;exact .a));exact .a):P:=h q
theorem iZ(i:Nat){P Q:Prop}(q:Q)(h:uK i Q P:=by(iterate 9 (apply uK.tr;exact .a));exact .a):P:=h q
theorem V11(i:Nat){P Q:Prop}(q:Q)(h:uK i Q P:=by(iterate 10 (apply uK.tr;exact .a));exact .a):P:=h q
theorem nR(i:Nat){P Q:Prop}(q:Q)(h:uK i Q P:=by(iterate 11 (apply uK.tr;exact .a));exact .a):P:=h q
theorem V13(i:Nat){P Q:Prop}(q:Q)(h:uK i Q P:=by(iterate 12 (apply uK.tr;exact .a));exact .a):P:=h q
theorem V16(i:Nat){P Q:Prop}(q:Q)(h:uK i Q P:=by(iterate 15 (apply uK.tr;exact .a));exact .a):P:=h q
theorem V18(i:Nat){P Q:Prop}(q:Q)(h:uK i Q P:=by(iterate 17 (apply uK.tr;exact .a));exact .a):P:=h q
def Sp(Q P:Prop):Prop:=Q->P
section
variable {M:Md Tryz.prog}{St:View->Goroutine->Prop}{n:Nat}{b:FB}{H₀:View}{cs:List Frame}{R:Rg}{L:Bl}{ds:List Deferred}{k:List Item}{dl:List (Option Tmp)}{l:List Oper}{o:Oper}{d:Nat}{v:Value}
theorem Sp.a(hv:TA dl R o=some false/\v=undef\/TA dl R o=some true/\pA Tryz.prog n H₀ R L o v:=by first|exact .inl ⟨rfl,rfl⟩|exact .inr ⟨rfl,.a⟩)(h2:BA o.op=false:=by exact rfl)(h3:o.dst=some d:=by exact rfl)(h4:d<n:=by decide):Sp (To M St n b H₀ cs dl ((d,v)::R) L ds l k) (To M St n b H₀ cs dl R L ds (o::l) k):=fun kk=> by
 rcases hv with ⟨h1,rfl⟩|⟨h1,h⟩
 ·exact To.vP h3 h4 h1 kk
 ·exact To.op h1 h2 (Or.uS h h3 h4 kk)
theorem Sp.w(i:Nat){t:TypeId}{x y:Operand}{r:FA}{blk off:Nat}{c c':List Value}{e:TypeId}(lA:o.op=.store t x y:=by exact rfl)(hx:JA R x=some (.pointer (some ⟨blk,off,none⟩)):=by exact rfl)(hy:JA R y=some v:=by exact rfl)(hi:L[i]? =some (blk,true,.cells ⟨c⟩ e (0,0)):=by exact rfl)(ht:en.ty t=some r:=by exact rfl)(hz:Nat.beq v.cells.toList.length r.size=true:=by exact rfl)(h0:Nat.beq r.size 0=false:=by exact rfl)(hl:Nat.ble (off+r.size) c.length=true:=by first|exact rfl|assumption)(hs:v.cells.toList.all single=true:=by exact rfl)(hd:o.dst=none:=by exact rfl)(hc:wH c off v.cells.toList=c':=by first|assumption|exact rfl)(h1:TA dl R o=some true:=by exact rfl)(h2:BA o.op=false:=by exact rfl):Sp (To M St n b H₀ cs dl R (L.set i (blk,true,.cells ⟨c'⟩ e (0,0))) ds l k) (To M St n b H₀ cs dl R L ds (o::l) k):=fun kk=> To.op h1 h2 (Or.storeT (E:=en) i lA hx hy hi ht hz h0 hl hs hd hc kk)
theorem Sp.dn:Sp (Tc M St n b H₀ cs R L ds k) (To M St n b H₀ cs dl R L ds [] k):=To.done
theorem Sp.s {x y:Code}:Sp (Tc M St n b H₀ cs R L ds (.code x:: .code y::k)) (Tc M St n b H₀ cs R L ds (.code (.seq x y)::k)):=Tc.seq
theorem Sp.r {id:Nat}{ops:Array Oper}(hl:ops.toList=l:=by exact rfl)(kP:l.map (fun o:Oper=> o.dst)=dl:=by exact rfl):Sp (To M St n b H₀ cs dl R L ds l k) (Tc M St n b H₀ cs R L ds (.code (.region id ops false)::k)):=Tc.region hl kP
theorem Sp.t {c:Operand}{x y:Code}(hc:JA R c=some (.bool true):=by exact rfl):Sp (Tc M St n b H₀ cs R L ds (.code x::k)) (Tc M St n b H₀ cs R L ds (.code (.cond c x y)::k)):=Tc.tt hc
theorem Sp.f {c:Operand}{x y:Code}(hc:JA R c=some (.bool false):=by exact rfl):Sp (Tc M St n b H₀ cs R L ds (.code y::k)) (Tc M St n b H₀ cs R L ds (.code (.cond c x y)::k)):=Tc.ff hc
theorem Sp.sk:Sp (Tc M St n b H₀ cs R L ds k) (Tc M St n b H₀ cs R L ds (.code .skip::k)):=Tc.skip
theorem Sp.bk {id:Nat}{c:Code}:Sp (Tc M St n b H₀ cs R L ds (.code c:: .inBlock id::k)) (Tc M St n b H₀ cs R L ds (.code (.block id c)::k)):=Tc.block
theorem Sp.i {id:Nat}:Sp (Tc M St n b H₀ cs R L ds k) (Tc M St n b H₀ cs R L ds (.inBlock id::k)):=Tc.inBlock
theorem Sp.e {id:Nat}{k':List Item}(he:exitTo id k=some k':=by exact rfl):Sp (Tc M St n b H₀ cs R L ds k') (Tc M St n b H₀ cs R L ds (.code (.exit id)::k)):=Tc.exit he
end
theorem Sp.on {P Q:Prop}(h:Sp Q P:=by first|exact .a|exact .dn|exact .s|exact .r|exact .t|exact .f|exact .sk|exact .bk|exact .i|exact .e|exact .w 0|exact .w 1|exact .w 2|exact .w 3|exact .w 4|exact .w 5|exact .w 6):Sp Q P:=h
theorem Sp.tr {P Q R:Prop}(h:Sp R P)(g:Sp Q R):Sp Q P:=fun q=> h (g q)
theorem U {P Q:Prop}(q:Q)(h:Sp Q P:=by exact .on):P:=h q
theorem U2 {P Q:Prop}(q:Q)(h:Sp Q P:=by(iterate 1 (apply Sp.tr;exact .on));exact .on):P:=h q
theorem U3 {P Q:Prop}(q:Q)(h:Sp Q P:=by(iterate 2 (apply Sp.tr;exact .on));exact .on):P:=h q
theorem U4 {P Q:Prop}(q:Q)(h:Sp Q P:=by(iterate 3 (apply Sp.tr;exact .on));exact .on):P:=h q
theorem U5 {P Q:Prop}(q:Q)(h:Sp Q P:=by(iterate 4 (apply Sp.tr;exact .on));exact .on):P:=h q
theorem U6 {P Q:Prop}(q:Q)(h:Sp Q P:=by(iterate 5 (apply Sp.tr;exact .on));exact .on):P:=h q
theorem U7 {P Q:Prop}(q:Q)(h:Sp Q P:=by(iterate 6 (apply Sp.tr;exact .on));exact .on):P:=h q
theorem U8 {P Q:Prop}(q:Q)(h:Sp Q P:=by(iterate 7 (apply Sp.tr;exact .on));exact .on):P:=h q
theorem U9 {P Q:Prop}(q:Q)(h:Sp Q P:=by(iterate 8 (apply Sp.tr;exact .on));exact .on):P:=h q
theorem iD {P Q:Prop}(q:Q)(h:Sp Q P:=by(iterate 9 (apply Sp.tr;exact .on));exact .on):P:=h q
theorem ND {P Q:Prop}(q:Q)(h:Sp Q P:=by(iterate 10 (apply Sp.tr;exact .on));exact .on):P:=h q
theorem uH {P Q:Prop}(q:Q)(h:Sp Q P:=by(iterate 11 (apply Sp.tr;exact .on));exact .on):P:=h q
theorem JG {P Q:Prop}(q:Q)(h:Sp Q P:=by(iterate 12 (apply Sp.tr;exact .on));exact .on):P:=h q
theorem MF {P Q:Prop}(q:Q)(h:Sp Q P:=by(iterate 13 (apply Sp.tr;exact .on));exact .on):P:=h q
theorem AJ {P Q:Prop}(q:Q)(h:Sp Q P:=by(iterate 14 (apply Sp.tr;exact .on));exact .on):P:=h q
theorem LI {P Q:Prop}(q:Q)(h:Sp Q P:=by(iterate 15 (apply Sp.tr;exact .on));exact .on):P:=h q
theorem II {P Q:Prop}(q:Q)(h:Sp Q P:=by(iterate 16 (apply Sp.tr;exact .on));exact .on):P:=h q
theorem fL {P Q:Prop}(q:Q)(h:Sp Q P:=by(iterate 17 (apply Sp.tr;exact .on));exact .on):P:=h q
theorem XU {P Q:Prop}(q:Q)(h:Sp Q P:=by(iterate 18 (apply Sp.tr;exact .on));exact .on):P:=h q
theorem eO {P Q:Prop}(q:Q)(h:Sp Q P:=by(iterate 19 (apply Sp.tr;exact .on));exact .on):P:=h q
theorem fN {P Q:Prop}(q:Q)(h:Sp Q P:=by(iterate 20 (apply Sp.tr;exact .on));exact .on):P:=h q
theorem o6 {P Q:Prop}(q:Q)(h:Sp Q P:=by(iterate 21 (apply Sp.tr;exact .on));exact .on):P:=h q
theorem s6 {P Q:Prop}(q:Q)(h:Sp Q P:=by(iterate 22 (apply Sp.tr;exact .on));exact .on):P:=h q
theorem PO {P Q:Prop}(q:Q)(h:Sp Q P:=by(iterate 23 (apply Sp.tr;exact .on));exact .on):P:=h q
theorem U25 {P Q:Prop}(q:Q)(h:Sp Q P:=by(iterate 24 (apply Sp.tr;exact .on));exact .on):P:=h q
theorem U26 {P Q:Prop}(q:Q)(h:Sp Q P:=by(iterate 25 (apply Sp.tr;exact .on));exact .on):P:=h q
theorem U27 {P Q:Prop}(q:Q)(h:Sp Q P:=by(iterate 26 (apply Sp.tr;exact .on));exact .on):P:=h q
theorem U28 {P Q:Prop}(q:Q)(h:Sp Q P:=by(iterate 27 (apply Sp.tr;exact .on));exact .on):P:=h q
theorem U29 {P Q:Prop}(q:Q)(h:Sp Q P:=by(iterate 28 (apply Sp.tr;exact .on));exact .on):P:=h q
theorem U30 {P Q:Prop}(q:Q)(h:Sp Q P:=by(iterate 29 (apply Sp.tr;exact .on));exact .on):P:=h q
theorem U31 {P Q:Prop}(q:Q)(h:Sp Q P:=by(iterate 30 (apply Sp.tr;exact .on));exact .on):P:=h q
theorem U33 {P Q:Prop}(q:Q)(h:Sp Q P:=by(iterate 32 (apply Sp.tr;exact .on));exact .on):P:=h q
theorem U34 {P Q:Prop}(q:Q)(h:Sp Q P:=by(iterate 33 (apply Sp.tr;exact .on));exact .on):P:=h q
theorem U35 {P Q:Prop}(q:Q)(h:Sp Q P:=by(iterate 34 (apply Sp.tr;exact .on));exact .on):P:=h q
theorem U37 {P Q:Prop}(q:Q)(h:Sp Q P:=by(iterate 36 (apply Sp.tr;exact .on));exact .on):P:=h q
theorem U38 {P Q:Prop}(q:Q)(h:Sp Q P:=by(iterate 37 (apply Sp.tr;exact .on));exact .on):P:=h q
theorem U40 {P Q:Prop}(q:Q)(h:Sp Q P:=by(iterate 39 (apply Sp.tr;exact .on));exact .on):P:=h q
theorem U41 {P Q:Prop}(q:Q)(h:Sp Q P:=by(iterate 40 (apply Sp.tr;exact .on));exact .on):P:=h q
theorem U42 {P Q:Prop}(q:Q)(h:Sp Q P:=by(iterate 41 (apply Sp.tr;exact .on));exact .on):P:=h q
theorem U43 {P Q:Prop}(q:Q)(h:Sp Q P:=by(iterate 42 (apply Sp.tr;exact .on));exact .on):P:=h q
theorem U48 {P Q:Prop}(q:Q)(h:Sp Q P:=by(iterate 47 (apply Sp.tr;exact .on));exact .on):P:=h q
theorem U51 {P Q:Prop}(q:Q)(h:Sp Q P:=by(iterate 50 (apply Sp.tr;exact .on));exact .on):P:=h q
theorem U53 {P Q:Prop}(q:Q)(h:Sp Q P:=by(iterate 52 (apply Sp.tr;exact .on));exact .on):P:=h q
end Go.RL
namespace Go.Proofs.YtldmfjcgjdchcaaGreatDoor
open Go.RL Go.Proofs.Tryz
set_option maxRecDepth 10000
def SC(a b:Int):Value:=.agg ⟨[.iz a,.iz b]⟩
def bE(a b c d:Int):Value:=.agg ⟨[.iz a,.iz b,.iz c,.iz d]⟩
def XA(s p:By):Bool:=decide (p.length<=s.length)&&(s.take p.length==p)
def vB(a b c d:Int):Bool:=decide (1<=a/\a<=b/\b<=12)&&decide (b-a<4)&&decide (0<=c/\c<=d/\d<=99)
section
variable(M:Md prog)(H:View)
theorem jN(x lo hi:Int):fA M 42 #[.iz x,.iz lo,.iz hi] H (fun v H'=> H.le H'/\v=.bool (decide (lo<=x/\x<=hi))):=by
 refine .en func42 ntmps42 fun St c cs hK=> ?_;by_cases c1:lo<=x
 all_goals by_cases c2:x<=hi
 all_goals
  refine U8 ?_;refine .i ?_ (z:=by first|exact xI oM|exact wI oM);refine U ?_;first|(refine .sk ?_)|(refine .m ?_)
  first|(refine .sk ?_)|(refine .m ?_)
  first|(refine .sk ?_)|(refine .x (.it (zz:=(by first|exact xI oM|exact wI oM))) ?_)
  refine U3 ?_;refine .rt hK func42 results42 [_] ?_;exact fun H' hs=> ⟨hs.base,by simp[gF,c1,c2]⟩
theorem uA(x lo hi:Int)(t:Bool)(ht:decide (lo<=x/\x<=hi)=t):fA M 42 #[.iz x,.iz lo,.iz hi] H (Ib H (.bool t)):=
 fA.mono (jN M H x lo hi) (by rintro v H' ⟨h1,h2⟩;rw[ht] at h2;exact⟨h1,h2⟩)
theorem B8(a b lo hi:Int):fA M 217 #[SC a b,.iz lo,.iz hi] H (fun v H'=> H.le H'/\v=.bool (decide (lo<=a/\a<=b/\b<=hi))):=by
 refine .en func217 ntmps217 fun St c cs hK=> ?_;by_cases c1:lo<=a
 all_goals by_cases c2:a<=b
 all_goals by_cases c3:b<=hi
 all_goals
  refine U2 ?_;refine .bo fun b1=> ?_;refine U7 ?_;refine .i ?_ (z:=by first|exact xI oM|exact wI oM);refine U ?_;first|(refine .sk ?_)|(refine .x .fa ?_)
  first|(refine .sk ?_)|((refine .x (.ld 0) ?_))
  first|(refine .sk ?_)|(refine .x .fa ?_)
  first|(refine .sk ?_)|((refine .x (.ld 0) ?_))
  first|(refine .sk ?_)|(refine .x (.it (zz:=(by first|exact xI oM|exact wI oM))) ?_)
  refine U2 ?_;first|(refine .sk ?_)|(refine .x .fa ?_)
  first|(refine .sk ?_)|((refine .x (.ld 0) ?_))
  first|(refine .sk ?_)|(refine .m ?_)
  first|(refine .sk ?_)|(refine .x (.it (zz:=(by first|exact xI oM|exact wI oM))) ?_)
  refine U3 ?_;refine .rt hK func217 results217 [_] ?_;exact fun H' hs=> ⟨hs.base,by simp[gF,c1,c2,c3]⟩
theorem MG(a b lo hi:Int)(t:Bool)(ht:decide (lo<=a/\a<=b/\b<=hi)=t):fA M 217 #[SC a b,.iz lo,.iz hi] H (Ib H (.bool t)):=
 fA.mono (B8 M H a b lo hi) (by rintro v H' ⟨h1,h2⟩;rw[ht] at h2;exact⟨h1,h2⟩)
theorem vS(x:Int):fA M 43 #[.iz x] H (Ib H (SC x x)):=by
 refine .en func43 ntmps43 fun St c cs hK=> ?_;refine U2 ?_;refine .al fun b1=> ?_;refine U8 ?_;refine .rt hK func43 results43 [_] ?_;exact okB
theorem gT(a b x y p q:Int)(hp:(if a<x then x else a)=p)(hq:(if y<b then y else b)=q):fA M 131 #[SC a b,SC x y] H (Ib H (SC p q)):=by
 refine .en func131 ntmps131 fun St c cs hK=> ?_;refine U2 ?_;refine .bo fun b1=> ?_;refine .bo fun b2=> ?_;refine .al fun b3=> ?_;refine U7 ?_;refine .x (pA.max rfl rfl rfl rfl rfl rfl (by assumption)) ?_;refine U4 ?_;refine .x (pA.min rfl rfl rfl rfl rfl rfl (by assumption)) ?_;refine U3 ?_;refine .rt hK func131 results131 [_] ?_;exact okB
theorem FF(a b c' d:Int):fA M 130 #[bE a b c' d] H (Ib H (.bool (vB a b c' d))):=by
 by_cases c1:1<=a/\a<=b/\b<=12
 ·by_cases c2:b-a<4
  ·by_cases c3:0<=c'/\c'<=d/\d<=99
   ·have e:vB a b c' d=true:=by unfold vB;simp[c1,c2,c3]
    rw[e];refine .en func130 ntmps130 fun St c cs hK=> ?_;refine U2 ?_;refine .bo fun b1=> ?_;refine U6 ?_;refine .cl (fun H hs=> MG M H a b 1 12 true (decide_eq_true c1)) ?_;refine JG ?_;refine .cl (fun H hs=> MG M H c' d 0 99 true (decide_eq_true c3)) ?_;refine U3 ?_;refine .rt hK func130 results130 [_] ?_;exact okB
   ·have e:vB a b c' d=false:=by unfold vB;simp[c3]
    rw[e];refine .en func130 ntmps130 fun St c cs hK=> ?_;refine U2 ?_;refine .bo fun b1=> ?_;refine U6 ?_;refine .cl (fun H hs=> MG M H a b 1 12 true (decide_eq_true c1)) ?_;refine JG ?_;refine .cl (fun H hs=> MG M H c' d 0 99 false (decide_eq_false c3)) ?_;refine U3 ?_;refine .rt hK func130 results130 [_] ?_;exact okB
  ·have e:vB a b c' d=false:=by unfold vB;simp[c2]
   rw[e];refine .en func130 ntmps130 fun St c cs hK=> ?_;refine U2 ?_;refine .bo fun b1=> ?_;refine U6 ?_;refine .cl (fun H hs=> MG M H a b 1 12 true (decide_eq_true c1)) ?_;refine II ?_;refine .rt hK func130 results130 [_] ?_;exact okB
 ·have e:vB a b c' d=false:=by unfold vB;simp[c1]
  rw[e];refine .en func130 ntmps130 fun St c cs hK=> ?_;refine U2 ?_;refine .bo fun b1=> ?_;refine U6 ?_;refine .cl (fun H hs=> MG M H a b 1 12 false (decide_eq_false c1)) ?_;refine II ?_;refine .rt hK func130 results130 [_] ?_;exact okB
theorem JL(s p:By):fA M 228 #[bA s,bA p] H (Ib H (.bool (XA s p))):=by
 refine .en func228 ntmps228 fun St c cs hK=> ?_;by_cases c1:p.length<=s.length
 ·have e:XA s p=(s.take p.length==p):=by unfold XA;simp[c1]
  rw[e] at hK;refine AJ ?_;refine .x (pA.pD (E:=en) rfl rfl rfl rfl rfl rfl oM oM oM) ?_;refine U5 ?_;refine .rt hK func228 results228 [_] ?_;exact fun H' hs=> ⟨hs.base,by simp[gF]⟩
 ·have e:XA s p=false:=by unfold XA;simp[c1]
  rw[e] at hK;refine fN ?_;refine .rt hK func228 results228 [_] ?_;exact okB
theorem ZF(s p:By):fA M 146 #[bA s,bA p] H (Ib H (.bool (XA s p))):=by
 refine .en func146 ntmps146 fun St c cs hK=> ?_;refine U8 ?_;refine .cl (fun H hs=> JL M H s p) ?_;refine U2 ?_;refine .rt hK func146 results146 [_] ?_;exact okB
end
set_option maxHeartbeats 4000000
def kA(p:Nat->Bool):Nat->Option Nat
 | 0=> none
 | k+1=> (kA p k).or (if p k then some k else none)
theorem mB {p:Nat->Bool}{j x:Nat}(h:kA p j=some x):∀m,j<=m->kA p m=some x:=by
 intro m hm;induction m with
 | zero=>
  have:j=0:=by omega
  subst this;exact h
 | succ m ih=>
  by_cases e:j=m+1
  ·subst e;exact h
  ·rw[kA,ih oM];rfl
structure Bk where
 aD:Int
 yB:Int
 nl:Nat
 name:Nat->By
 num:Nat->By
 nf:Nat->Nat
 free:Nat->Nat->Int
 nt:Nat
 pf:Nat->Int
 pt:Nat->Int
 qf:Nat->Int
 qt:Nat->Int
def WK(a b:By)(F:Option Addr)(n c:Nat):Value:=.agg ⟨[bA a,bA b,.slice F n c]⟩
def Bk.val(k:Bk)(A:Option Addr)(lc:Nat)(B:Option Addr)(tc:Nat):Value:=.agg ⟨[.iz k.aD,.iz k.yB,.slice A k.nl lc,.slice B k.nt tc]⟩
def PB(H:View)(F:Option Addr)(n:Nat)(x:Nat->Int):Prop:=
 n=0\/∃b o f gs gt gz,F=some ⟨b,o,none⟩/\H b=some (f,.cells ⟨gs⟩ gt gz)/\∀j:Nat,j<n->zE false 1 gs (o+(j:Int).toNat*1)=some (.int .i64 (x j))
def YC(H:View)(k:Bk)(A:Option Addr)(lc:Nat):Prop:=
 k.nl<=lc/\(k.nl=0\/∃b o f gs gt gz,A=some ⟨b,o,none⟩/\H b=some (f,.cells ⟨gs⟩ gt gz)/\
  ∀i:Nat,i<k.nl->∃F fc,zE true 3 gs (o+(i:Int).toNat*3)=some (WK (k.name i) (k.num i) F (k.nf i) fc)/\k.nf i<=fc/\PB H F (k.nf i) (k.free i))
def jD(H:View)(k:Bk)(B:Option Addr)(tc:Nat):Prop:=
 k.nt<=tc/\(k.nt=0\/∃b o f gs gt gz,B=some ⟨b,o,none⟩/\H b=some (f,.cells ⟨gs⟩ gt gz)/\
  ∀i:Nat,i<k.nt->zE true 4 gs (o+(i:Int).toNat*4)=some (bE (k.pf i) (k.pt i) (k.qf i) (k.qt i)))
theorem PB.le {H H':View}{F:Option Addr}{n:Nat}{x:Nat->Int}(h:PB H F n x)(k:H.le H'):PB H' F n x:=
 h.imp id fun⟨b,o,f,gs,gt,gz,h1,h2,h3⟩=> ⟨b,o,f,gs,gt,gz,h1,k _ _ h2,h3⟩
theorem YC.le {H H':View}{k:Bk}{A:Option Addr}{lc:Nat}(h:YC H k A lc)(hl:H.le H'):YC H' k A lc:=
 ⟨h.1,h.2.imp id fun⟨b,o,f,gs,gt,gz,h1,h2,h3⟩=> ⟨b,o,f,gs,gt,gz,h1,hl _ _ h2,fun i hi=> by
  obtain⟨F,fc,h4,h5,h6⟩:=h3 i hi;exact⟨F,fc,h4,h5,h6.le hl⟩⟩⟩
theorem jD.le {H H':View}{k:Bk}{A:Option Addr}{lc:Nat}(h:jD H k A lc)(hl:H.le H'):jD H' k A lc:=
 ⟨h.1,h.2.imp id fun⟨b,o,f,gs,gt,gz,h1,h2,h3⟩=> ⟨b,o,f,gs,gt,gz,h1,hl _ _ h2,h3⟩⟩
def aAy(M:Md prog)(H:View)(fv:Value)(k:Bk)(p:Nat->Bool):Prop:=
 ∀i:Nat,i<k.nl->∀F fc H',H.le H'->WB M fv [WK (k.name i) (k.num i) F (k.nf i) fc] H' fun v H''=> H'.le H''/\v=.bool (p i)
def sB:Option Nat->Int
 | none=> -1
 | some i=> (i:Nat)
def Bk.line(k:Bk)(s:By):Option Nat:=kA (fun i=> XA s (k.num i)) k.nl
section
variable(M:Md prog)(H:View)
theorem FZ(k:Bk)(A:Option Addr)(lc:Nat)(hA:YC H k A lc)(hn:k.nl<=1000)(fv:Value)(p:Nat->Bool)(hp:aAy M H fv k p):
  fA M 169 #[.slice A k.nl lc,fv] H (Ib H (.int .i64 (sB (kA p k.nl)))):=by
 refine .en func169 ntmps169 fun St c cs hK=> ?_;refine uH ?_;refine Tc.db (Tc.qA (σ:= { j:Nat//j<=k.nl/\kA p j=none }) (fun j=> ([(1,fv),(7,.slice A k.nl lc),(8,.nt k.nl),(9,.nt j.1)],[])) (fun j=> k.nl-j.1) ?_ ⟨0,Nat.zero_le _,rfl⟩);rintro⟨j,hj,gB⟩ ih;dsimp only;by_cases c1:j=k.nl
 ·subst c1;rw[gB] at hK;refine ND ?_;refine .rt hK func169 results169 [_] ?_;exact okB
 ·have c2:j<k.nl:=by omega
  obtain⟨_,h0|⟨ab,ao,f,gs,gt,gz,rfl,hb,hl⟩⟩:=hA
  ·omega
  obtain⟨F,fc,f1,_,_⟩:=hl j c2;have qP:=hp j c2 F fc;cases CG:p j with
  | true=>
   rw[CG] at qP;have e:kA p k.nl=some j:=mB (j:=j+1) (by simp[kA,gB,CG]) _ oM;rw[e] at hK;refine MF ?_;refine .al fun b6=> ?_;refine U7 ?_;refine .c rfl rfl rfl rfl (fun H hs=> qP H hs.base) ?_;refine U7 ?_;refine .rt hK func169 results169 [_] ?_;exact okB
  | false=>
   rw[CG] at qP;refine MF ?_;refine .al fun b6=> ?_;refine U7 ?_;refine .c rfl rfl rfl rfl (fun H hs=> qP H hs.base) ?_;refine U8 ?_;exact Tc.db (ih ⟨j+1,oM,by simp[kA,gB,CG]⟩ Ob)
theorem aBr(s:By)(b3:Nat)(f:Bool)(hb:H b3=some (f,.cells ⟨[bA s]⟩ 9 (0,0)))(a num:By)(F:Option Addr)(n fc:Nat):
  fA M 170 #[WK a num F n fc,.pt b3] H (Ib H (.bool (XA s num))):=by
 refine .en func170 ntmps170 fun St c cs hK=> ?_;refine U2 ?_;refine .bo fun b2=> ?_;refine U7 ?_;refine .cl (fun H hs=> ZF M H s num) ?_;refine U2 ?_;refine .rt hK func170 results170 [_] ?_;exact okB
theorem wQ(k:Bk)(A:Option Addr)(lc:Nat)(B:Option Addr)(tc:Nat)(hA:YC H k A lc)(hn:k.nl<=1000)(s:By):
  fA M 88 #[k.val A lc B tc,bA s] H (Ib H (.int .i64 (sB (k.line s)))):=by
 refine .en func88 ntmps88 fun St c cs hK=> ?_;refine U2 ?_;refine .bo fun b2=> ?_;refine .bo fun b3=> ?_;refine U8 ?_;refine .cl (fun H hs=> FZ M H k A lc (hA.le hs.base) hn _ (fun i=> XA s (k.num i)) (fun i _ F fc H' hle=> WB.of (first:= []) (captured:= [_]) aE2 rfl (aBr M H' s b3 true (hle _ _ (hs.get (i:=0) rfl)) (k.name i) (k.num i) F (k.nf i) fc))) ?_;refine U2 ?_;refine .rt hK func88 results88 [_] ?_;exact okB
end
structure sH where
 heard:By
 pend:Nat
 deaf:Bool
 deriving DecidableEq
def p7(s:By)(m:Nat)(d:Bool):Value:=.agg ⟨[bA s,.nt m,.bool d]⟩
def sH.val(e:sH):Value:=p7 e.heard e.pend e.deaf
def RI(n:Nat):UInt8:=UInt8.ofNat (48+n%10)
def sH.hear(e:sH)(p:Nat)(kd:Nat):sH:=
 if e.deaf then e else if kd=0 then⟨e.heard,e.pend+p,false⟩ else if 10<e.pend+p then⟨e.heard,0,true⟩ else⟨e.heard++[RI (e.pend+p)],0,decide (kd=2)⟩
def Bk.kind(k:Bk)(pause:Int):Nat:=if pause<k.aD then 0 else if pause<k.yB then 1 else 2
theorem aCG:∀n:Nat,n<10->([48,49,50,51,52,53,54,55,56,57]:By)[n]? =some (RI n):=by decide
theorem aCH(n:Nat):(RI n).toNat<128:=by
 unfold RI;have:n%10<10:=Nat.mod_lt _ dE;rw[UInt8.toNat_ofNat'];omega
theorem yZ(n:Nat):RI (n%10)=RI n:=by unfold RI;rw[Nat.mod_mod]
section
variable(M:Md prog)(H:View)
theorem fY(k:Bk)(A:Option Addr)(lc:Nat)(B:Option Addr)(tc:Nat)(p:Int):fA M 87 #[k.val A lc B tc,.iz p] H (Ib H (.int .i64 (k.kind p:Nat))):=by
 by_cases c1:p<k.aD
 ·have e:k.kind p=0:=if_pos c1;rw[e];refine .en func87 ntmps87 fun St c cs hK=> ?_;refine U2 ?_;refine .bo fun b2=> ?_;refine fL ?_;refine .rt hK func87 results87 [_] ?_;exact okB
 ·by_cases c2:p<k.yB
  ·have e:k.kind p=1:=by unfold Bk.kind;rw[if_neg c1,if_pos c2]
   rw[e];refine .en func87 ntmps87 fun St c cs hK=> ?_;refine U2 ?_;refine .bo fun b2=> ?_;refine U28 ?_;refine .rt hK func87 results87 [_] ?_;exact okB
  ·have e:k.kind p=2:=by unfold Bk.kind;rw[if_neg c1,if_neg c2]
   rw[e];refine .en func87 ntmps87 fun St c cs hK=> ?_;refine U2 ?_;refine .bo fun b2=> ?_;refine U30 ?_;refine .rt hK func87 results87 [_] ?_;exact okB
theorem N7(e:sH)(p kd:Nat)(hh:e.heard.length<=1000)(hp:e.pend<=1000)(hp2:p<=1000)(hk:kd<=2):fA M 86 #[e.val,.nt p,.nt kd] H (Ib H ((e.hear p kd).val)):=by
 obtain⟨s,m,df⟩:=e;simp only at hh hp;show fA M 86 #[p7 s m df,.nt p,.nt kd] H _;cases df with
 | true=>
  refine .en func86 ntmps86 fun St c cs hK=> ?_;refine U2 ?_;refine .bo fun b3=> ?_;refine .al fun b6=> ?_;refine JG ?_;refine .rt hK func86 results86 [_] ?_;exact okB
 | false =>
  obtain⟨q,hq⟩:∃q,m+p=q:=⟨_,rfl⟩
  have hmp:((m:Nat):Int)+((p:Nat):Int)=((q:Nat):Int):=by omega
  by_cases k0:kd=0
  ·subst k0;have e1:(⟨s,m,false⟩:sH).hear p 0=⟨s,q,false⟩:=by unfold sH.hear;simp[hq]
   rw[e1];refine .en func86 ntmps86 fun St c cs hK=> ?_;refine U2 ?_;refine .bo fun b3=> ?_;refine .al fun b6=> ?_;refine MF ?_;refine .al fun b7=> ?_;refine iD ?_;rw[hmp];refine U33 ?_;refine .rt hK func86 results86 [_] ?_;exact okB
  ·by_cases c1:10<q
   ·have e1:(⟨s,m,false⟩:sH).hear p kd=⟨s,0,true⟩:=by unfold sH.hear;simp[hq,k0,c1]
    rw[e1];rcases(by omega:kd=1\/kd=2) with rfl|rfl
    ·refine .en func86 ntmps86 fun St c cs hK=> ?_;refine U2 ?_;refine .bo fun b3=> ?_;refine .al fun b6=> ?_;refine MF ?_;refine .al fun b7=> ?_;refine iD ?_;rw[hmp];refine U53 ?_;refine .rt hK func86 results86 [_] ?_;exact okB
    ·refine .en func86 ntmps86 fun St c cs hK=> ?_;refine U2 ?_;refine .bo fun b3=> ?_;refine .al fun b6=> ?_;refine MF ?_;refine .al fun b7=> ?_;refine iD ?_;rw[hmp];refine U51 ?_;refine .rt hK func86 results86 [_] ?_;exact okB
   ·have e1:(⟨s,m,false⟩:sH).hear p kd=⟨s++[RI q],0,decide (kd=2)⟩:=by unfold sH.hear;simp[hq,k0,c1]
    rw[e1];have a2:iA .rem .i64 (q:Nat) 10=some (.int .i64 ((q%10:Nat):Int)):=by rw[rem_in oM oM];rfl
    have a3:([48,49,50,51,52,53,54,55,56,57]:By)[((q%10:Nat):Int).toNat]? =some (RI q):=by
     rw[Int.toNat_natCast,aCG _ (Nat.mod_lt _ dE),yZ]
    have a4:=aCH q;have a5:(UInt8.ofNat (RI q).toNat)=RI q:=UInt8.ofNat_toNat;rcases(by omega:kd=1\/kd=2) with rfl|rfl
    ·refine .en func86 ntmps86 fun St c cs hK=> ?_;refine U2 ?_;refine .bo fun b3=> ?_;refine .al fun b6=> ?_;refine MF ?_;refine .al fun b7=> ?_;refine iD ?_;rw[hmp];refine U43 ?_;refine Tc.dr [8] [0] mixed rfl ?_;refine V5 0 ?_;refine .q 5 rfl (pA.aCe (E:=en) rfl rfl oM rfl rfl rfl rfl) ?_;refine .q 6 rfl (pA.LB rfl rfl rfl (by exact UB (by simp <;> omega))) ?_;refine .nn 7 ?_;refine .e 8 0 ?_;refine .dn ?_;refine U6 ?_;refine .rt hK func86 results86 [_] ?_;exact fun H' hs=> ⟨hs.base,by rw[a5];rfl⟩
    ·refine .en func86 ntmps86 fun St c cs hK=> ?_;refine U2 ?_;refine .bo fun b3=> ?_;refine .al fun b6=> ?_;refine MF ?_;refine .al fun b7=> ?_;refine iD ?_;rw[hmp];refine U41 ?_;refine Tc.dr [8] [0] mixed rfl ?_;refine V5 0 ?_;refine .q 5 rfl (pA.aCe (E:=en) rfl rfl oM rfl rfl rfl rfl) ?_;refine .q 6 rfl (pA.LB rfl rfl rfl (by exact UB (by simp <;> omega))) ?_;refine .nn 7 ?_;refine .e 8 0 ?_;refine .dn ?_;refine U6 ?_;refine .rt hK func86 results86 [_] ?_;exact fun H' hs=> ⟨hs.base,by rw[a5];rfl⟩
end
end Go.Proofs.YtldmfjcgjdchcaaGreatDoor
