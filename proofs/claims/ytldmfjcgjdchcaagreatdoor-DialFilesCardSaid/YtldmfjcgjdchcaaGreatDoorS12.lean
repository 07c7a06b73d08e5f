/-
 Texts of the proofs over baudot/dial.
-/
import Derived.Test.YtldmfjcgjdchcaaGreatDoorS11
namespace Go.RL
open Go.Conc
section
variable {P:Program}{M:Md P}{md:Region.Mode}{ops:Array Oper}{S:Array Bool->View->Prop}{Fin:Array Value->View->Prop}{z:Nat}
theorem S4 {i j:Nat}{listed:Array Bool}(h:waits md ops i j=true)(hi:i∈Region.ready md ops listed)(hj:j∈Region.ready md ops listed):False:=by
 unfold waits at h;obtain⟨_,o,ho,QA⟩:=mem_ready.1 hj;rw[ho] at h;simp only at h;rw[Array.any_eq_true'] at h;obtain⟨e,he,hb⟩:=h;simp only[Bool.and_eq_true,beq_iff_eq] at hb;have h1:=QA e he hb.1;have h0:=(mem_ready.1 hi).1;rw[hb.2] at h1;rcases Nat.lt_or_ge i listed.size with h'|h'
 ·simp[h'] at h0 h1;rw[h0] at h1;cases h1
 ·simp[Array.getElem?_eq_none h'] at h1
def ZM(M:Md P)(md:Region.Mode)(ops:Array Oper)(S:Array Bool->View->Prop)(z:Nat)(Fin:Array Value->View->Prop):Nat->Array Bool->Array Value->View->Prop
 | 0,listed,tmps,H=> ∀H₂,H.le H₂->S listed H₂->Region.ready md ops listed= [z]/\Fin tmps H₂
 | fuel+1,listed,tmps,H=> ∀H₂,H.le H₂->S listed H₂-> 
  (Region.ready md ops listed≠ [])/\
  ∀i∈Region.ready md ops listed,∀o,ops[i]? =some o->KI M ops o tmps H₂ fun tmps' H'=> S (listed.setIfInBounds i true) H'/\ZM M md ops S z Fin fuel (listed.setIfInBounds i true) tmps' H'
theorem ZM.mono {fuel:Nat}{listed:Array Bool}{tmps:Array Value}{H H':View}(h:ZM M md ops S z Fin fuel listed tmps H)(k:H.le H'):ZM M md ops S z Fin fuel listed tmps H':=by
 cases fuel with
 | zero=> exact fun H₂ h2 hS=> h H₂ (View.le_trans k h2) hS
 | succ fuel=> exact fun H₂ h2 hS=> h H₂ (View.le_trans k h2) hS
theorem JZ(fuel t:Nat)(listed:Array Bool):Region.linearise.go md ops (fuel+1) t listed []=match (Region.ready md ops listed)[t%(Region.ready md ops listed).length]? with
  | some i=> i::Region.linearise.go md ops fuel (t/(Region.ready md ops listed).length) (listed.setIfInBounds i true) []
  | none=> []:=by
 rw[Region.linearise.go];show(match (Region.ready md ops listed)[t%(Region.ready md ops listed).length]? with
  | some i=> Region.linearise.go md ops fuel (t/(Region.ready md ops listed).length) (listed.setIfInBounds i true) [i]
  | none=> List.reverse [])=_
 split
 ·rename_i i _
  rw[linearise_go_acc];rfl
 ·rfl
theorem ZM.sound {St:View->Goroutine->Prop}{b:FB}{ds:List Deferred}{k:List Item}{cs:List Frame}:∀(fuel t:Nat) (listed:Array Bool) (tmps:Array Value) (H:View),S listed H-> 
  ZM M md ops S z (fun tmps H=> T M St H (G (b.at tmps ds (.inRegion ops [z]::k)) cs)) fuel listed tmps H->T M St H (G (b.at tmps ds (.inRegion ops (Region.linearise.go md ops (fuel+1) t listed [])::k)) cs):=by
 intro fuel;induction fuel with
 | zero=>
  intro t listed tmps H hS h;obtain⟨h1,h2⟩:=h H (View.le_refl H) hS;rw[JZ,h1];simp only[List.length_singleton,Nat.mod_one,List.getElem?_cons_zero,Region.linearise.go,List.reverse_nil];exact h2
 | succ fuel ih=>
  intro t listed tmps H hS h;have h:=h H (View.le_refl H) hS;rw[JZ];split
  ·rename_i i hi
   have VD:=List.mem_of_getElem? hi;obtain⟨_,o,ho,_⟩:=mem_ready.1 VD;exact KI.sound ho ((h.2 i VD o ho).mono fun t' H' hk=> ih _ _ _ _ hk.1 hk.2)
  ·rename_i hi
   exfalso
   cases hr:Region.ready md ops listed with
   | nil=> exact h.1 hr
   | cons a l=>
    rw[hr] at hi;have:t%(a::l).length<(a::l).length:=Nat.mod_lt _ (by simp);rw[List.getElem?_eq_getElem this] at hi;cases hi
theorem ZM.first {i:Nat}{oi:Oper}{v:Value}(hi:ops[i]? =some oi)(ME:∀(j:Nat) (o:Oper) cs b,ops[j]? =some o->o.op≠ .select cs b)(K7:BA oi.op=false)(hz:waits md ops i z=true)(DH:∀listed H,S (listed.setIfInBounds i true) H<->S listed H):
  ∀ (fuel:Nat) (listed:Array Bool) (tmps:Array Value) (H:View),
   (∀j oj,ops[j]? =some oj->j≠i->listed.getD j true=false->(∀e∈oj.after,Region.binds md e=true->e.on≠i)->oi.apart ops oj=true)-> 
   fC md ops listed=true->i∈Region.ready md ops listed->OF M md ops S i oi v tmps-> 
   ZM M md ops S z Fin fuel (listed.setIfInBounds i true) (HB tmps oi.dst v) H->ZM M md ops S z Fin (fuel+1) listed tmps H:=by
 have own:∀(fuel:Nat) (listed:Array Bool) (tmps:Array Value) (H:View),fC md ops listed=true->i∈Region.ready md ops listed->OF M md ops S i oi v tmps->S listed H->ZM M md ops S z Fin fuel (listed.setIfInBounds i true) (HB tmps oi.dst v) H-> 
   KI M ops oi tmps H fun t H'=> S (listed.setIfInBounds i true) H'/\ZM M md ops S z Fin fuel (listed.setIfInBounds i true) t H':=by
  intro fuel listed tmps H iB WO hy hS h;refine⟨K7,?_⟩;rcases hy with ⟨hw,hv⟩|⟨hw,rfl⟩
  ·rw[if_pos hw];refine(hv listed iB (mem_ready.1 WO).1 H hS).run ?_;rintro u H' ⟨rfl,hle,zR⟩;exact⟨(DH listed H').2 zR,h.mono hle⟩
  ·rw[if_neg (by simp[hw])];exact⟨(DH listed H).2 hS,h⟩
 intro fuel;induction fuel with
 | zero=>
  intro listed tmps H _ iB hr hy h H₂ h2 hS;refine⟨fun e=> (by rw[e] at hr;cases hr),fun j hj o ho=> ?_⟩;by_cases DJ:j=i
  ·subst DJ;rw[hi] at ho;cases ho
   exact own 0 listed tmps H₂ iB hr hy hS (h.mono h2)
  ·have:=ready_mono hj DJ;rw[(h H₂ h2 ((DH listed H₂).2 hS)).1,List.mem_singleton] at this;subst this;exact(S4 hz hr hj).elim
 | succ fuel ih=>
  intro listed tmps H UK iB hr hy h H₂ h2 hS;refine⟨fun e=> (by rw[e] at hr;cases hr),fun j hj oj lS=> ?_⟩;by_cases DJ:j=i
  ·subst DJ;rw[hi] at lS;cases lS
   exact own (fuel+1) listed tmps H₂ iB hr hy hS (h.mono h2)
  ·have h1:=(h H₂ h2 ((DH listed H₂).2 hS)).2 j (ready_mono hj DJ) oj lS;have J7:=YH iB hj;obtain⟨GV,oj',MV,QA⟩:=mem_ready.1 hj;rw[lS] at MV;cases MV
   have a8:∀e∈oj.after,Region.binds md e=true->e.on≠i:=fun e he hb heq=> by
    have h1:=QA e he hb;have h0:=(mem_ready.1 hr).1;rw[heq] at h1;rcases Nat.lt_or_ge i listed.size with h'|h'
    ·simp[h'] at h0 h1;rw[h0] at h1;cases h1
    ·simp[Array.getElem?_eq_none h'] at h1
   have pO:=UK j oj lS DJ GV a8;have eQ:∀k ok,ops[k]? =some ok->k≠i->(listed.setIfInBounds j true).getD k true=false-> 
     (∀e∈ok.after,Region.binds md e=true->e.on≠i)->oi.apart ops ok=true:=fun k ok hk hki FU gB=> by
    refine UK k ok hk hki ?_ gB;by_cases hjk:j=k
    ·subst hjk;exact GV
    ·rw[getD_set_ne true hjk] at FU;exact FU
   refine(h1.back pO (fun cs b=> ME j oj cs b lS)).mono ?_;rintro t H' ⟨⟨u,rfl⟩,zR,h3⟩;rw[Array.setIfInBounds_comm _ _ (Ne.symm DJ)] at zR;refine⟨(DH _ H').1 zR,ih (listed.setIfInBounds j true) _ H' eQ J7 (ready_mono hr (Ne.symm DJ)) (hy.put (fun cs b=> ME i oi cs b hi) (Oper.apart_spec pO).2.2) ?_⟩;rw[Array.setIfInBounds_comm _ _ DJ];exact h3
end
section
variable {P:Program}{M:Md P}{St:View->Goroutine->Prop}{n:Nat}{b:FB}{H₀:View}{cs:List Frame}{R:Rg}{L L':Bl}{ds:List Deferred}{k:List Item}{S:Array Bool->View->Prop}{md:Region.Mode}{ops:Array Oper}{z:Nat}
def Tl(M:Md P)(St:View->Goroutine->Prop)(n:Nat)(b:FB)(H₀:View)(cs:List Frame)(S:Array Bool->View->Prop)(md:Region.Mode)(ops:Array Oper)(z:Nat)(fuel:Nat)(listed:Array Bool)(R:Rg)(L:Bl)(ds:List Deferred)(k:List Item):Prop:=
 ∀H tmps,jA H₀ L H->YA n R tmps->S listed H->ZM M md ops S z (fun tmps H=> T M St H (G (b.at tmps ds (.inRegion ops [z]::k)) cs)) fuel listed tmps H
theorem Tl.done {listed:Array Bool}{o:Oper}(hr:Region.ready md ops listed= [z])(ho:ops[z]? =some o)(h:To M St n b H₀ cs (ops.toList.map (fun o:Oper=> o.dst)) R L ds [o] k):Tl M St n b H₀ cs S md ops z 0 listed R L ds k:=fun H tmps hs XD _ H₂ h2 _=>
 ⟨hr,h ops [z] (fun j=> by
  simp only[List.getElem?_map,Array.getElem?_toList];cases ops[j]? <;> rfl) (by simp[ho]) H₂ tmps (hs.mono h2) XD⟩
theorem Tl.take(i:Nat){o:Oper}{d:Nat}{v:Value}{fuel:Nat}{listed:Array Bool}(hi:ops[i]? =some o)(ME:Region.noSelect ops=true)(hr:(Region.ready md ops listed).contains i=true)(hf:Region.free md ops listed i=true)
  (hd:o.dst=some d) (hn:d<n) (mF:BA o.op=false) (hz:waits md ops i z=true) (iB:fC md ops listed=true) (DH:∀listed H,S (listed.setIfInBounds i true) H<->S listed H) (hw:TA (ops.toList.map (fun o:Oper=> o.dst)) R o=some true)
  (hv:∀listed,fC md ops listed=true->listed.getD i true=false->∀H tmps,S listed H->YA n R tmps->tD M o tmps H fun u H'=> u=v/\H.le H'/\S listed H')
  (h:Tl M St n b H₀ cs S md ops z fuel (listed.setIfInBounds i true) ((d,v)::R) L ds k):Tl M St n b H₀ cs S md ops z (fuel+1) listed R L ds k:=fun H tmps hs XD hS=> by
 refine ZM.first hi (Region.noSelect_spec ME) mF hz DH fuel listed tmps H (fun j oj hj aB FU gB=> Region.free_spec hi hf j oj hj aB FU gB) iB (by simpa using hr) (.inl ⟨rB (fun j=> ?_) XD hw,fun l iB hu H hSH=> hv l iB hu H tmps hSH XD⟩) ?_
 ·simp only[List.getElem?_map,Array.getElem?_toList];cases ops[j]? <;> rfl
 ·rw[hd];exact h H _ hs (XD.put hn v) ((DH _ H).2 hS)
theorem Tl.tk(i:Nat){o:Oper}{d:Nat}{v:Value}{fuel:Nat}{listed:Array Bool}(hc:cD md ops [] listed i=true)(hz:waits md ops i z=true)(hi:ops[i]? =some o)(hd:o.dst=some d)(hn:d<n)(mF:BA o.op=false)(hw:TA (ops.toList.map (fun o:Oper=> o.dst)) R o=some true)
  (hv:∀H tmps,jA H₀ L H->YA n R tmps->tD M o tmps H fun u H'=> u=v/\H.le H')
  (h:Tl M St n b H₀ cs (fun _=> jA H₀ L) md ops z fuel (listed.setIfInBounds i true) ((d,v)::R) L ds k):Tl M St n b H₀ cs (fun _=> jA H₀ L) md ops z (fuel+1) listed R L ds k:=by
 simp only[cD,Bool.and_eq_true,Bool.not_eq_true'] at hc;obtain⟨⟨⟨⟨⟨ME,hr⟩,hf⟩,iB⟩,_⟩,_⟩:=hc;exact .take i hi ME hr hf hd hn mF hz iB (fun _ _=> Iff.rfl) hw (fun _ _ _ H tmps hS hr=> by
  have:=hv H tmps hS hr;unfold tD at this ⊢;have fin:∀u H',(u=v/\H.le H')->u=v/\H.le H'/\jA H₀ L H':=fun u H' ⟨h1,h2⟩=> ⟨h1,h2,hS.mono h2⟩
  refine VA _ (fun nx H' hn=> ?_) this;cases nx <;> first
   | exact hn.elim
   | exact fin _ _ hn
   | exact fA.mono hn fin
   | exact VM.mono hn fin) h
theorem Tc.dl(z:Nat){id:Nat}{fuel:Nat}(hm:P.follows .mixedOrders=true)(hf:ops.size=fuel+1)(h:Tl M St n b H₀ cs (fun _=> jA H₀ L) .any ops z fuel (Array.replicate (fuel+1) false) R L ds k):
  Tc M St n b H₀ cs R L ds (.code (.region id ops true)::k):=fun H tmps hs hr=> by
 refine .ZD fun t=> ?_;simp only[Region.schedule,hm,Bool.true_or,if_true];have h1:=(h H tmps hs hr hs).sound _ t _ _ _ hs;unfold Region.linearise;rw[hf];exact h1
end
end Go.RL
namespace Go.RL
open Go.Conc Go.ConcN Go.RL.Au
open Go.ConcR (stA smA mk)
open Go.ConcM (muA msA OsLater)
section
variable {P:Program}{X:Fk}{κ:Nat}
theorem MD.makeFunc {n:Nat}{sh:Shp}{R:Rg}{o:Oper}{f:Fn}{first caps:Array Operand}{vs ws:List Value}(lA:o.op=.makeFunc f first caps)(h1:lD R first.toList=some vs)(h2:lD R caps.toList=some ws):MD P sh n R o (.func f vs.toArray ws.toArray):=fun tmps hr=> by
 unfold execOp;rw[lA];show Next.value _=_;have e1:first.map (OB tmps)=vs.toArray:=by
  rw[<-hr.evs h1,List.map_toArray.symm]
 have e2:caps.map (OB tmps)=ws.toArray:=by
  rw[<-hr.evs h2,List.map_toArray.symm]
 rw[e1,e2]
theorem T.none {M:Md P}{St:View->Goroutine->Prop}{C:Nat}{H:View}{g:Goroutine}(QC:∀w,M.ok w->C<w.heap.size)(hph:∀H g Po,¬M.Ph H g Po)(h:T M St H g):H C=Option.none->T M (fun H' g'=> H' C=Option.none/\St H' g') H g:=
 h (fun H g=> H C=Option.none->T M (fun H' g'=> H' C=Option.none/\St H' g') H g) (fun _ _ hs hc=> .stop ⟨hc,hs⟩) (fun H g hs hc=> .step ⟨hs.1,fun w hw ho=> by
  obtain⟨g',w',es,H',h1,h2,h3⟩:=hs.2 w hw ho;refine⟨g',w',es,H',h1,h2,h3 ?_⟩;cases hx:H' C with
  | none=> rfl
  | some x=>
   obtain⟨f,o⟩:=x;rcases h2.ext _ _ _ hx with ⟨o',pP⟩|⟨_,hle⟩
   ·rw[hc] at pP;cases pP
   ·have:=QC w ho;omega⟩) (fun _ _ _ hp=> (hph _ _ _ hp).elim)
theorem T.aFQ {main:Bool}{St:View->Goroutine->Prop}{H:View}{g:Goroutine}(hc:H X.C=Option.none)(h:T (Mw P main X.ok) (fun H' g'=> H' X.C=Option.none->T (Mw P main X.ok) St H' g') H g):T (Mw P main X.ok) St H g:=
 (T.none (M:=Mw P main X.ok) (C:=X.C) (fun _ (h:X.ok _)=> h.1) (fun _ _ _ h=> h) h hc).bind fun _ _ ⟨h1,h2⟩=> h2 h1
theorem Sc.none {main:Bool}{St:View->Goroutine->Prop}{H:View}{n:Nat}{b:FB}{cs:List Frame}{R:Rg}{ds:List Deferred}{kk:List Item}(hc:H X.C=Option.none)
 (h:Sc (T (Mw P main X.ok) (fun H' g'=> H' X.C=Option.none->T (Mw P main X.ok) St H' g') H) n b cs R ds kk):Sc (T (Mw P main X.ok) St H) n b cs R ds kk:=fun tmps hr=> T.aFQ hc (h tmps hr)
theorem Sc.aAa {main:Bool}{St:View->Goroutine->Prop}{H:View}{n:Nat}{b:FB}{cs:List Frame}{R:Rg}{ds:List Deferred}{kk:List Item}
 (h:H X.C=Option.none->Sc (T (Mw P main X.ok) St H) n b cs R ds kk):Sc (T (Mw P main X.ok) (fun H' g'=> H' X.C=Option.none->T (Mw P main X.ok) St H' g') H) n b cs R ds kk:=fun tmps hr=> .stop fun hc=> h hc tmps hr
theorem Sc.mono {J J':Goroutine->Prop}{n:Nat}{b:FB}{cs:List Frame}{R:Rg}{ds:List Deferred}{kk:List Item}(h:Sc J n b cs R ds kk)(hj:∀g,J g->J' g):Sc J' n b cs R ds kk:=fun tmps hr=> hj _ (h tmps hr)
end
end Go.RL
namespace Go.Proofs.YtldmfjcgjdchcaaGreatDoor
open Go.RL Go.Proofs.Tryz Go.Conc Go.ConcN Go.RL.Au
open Go.ConcR (stA smA)
set_option maxRecDepth 10000
set_option maxHeartbeats 4000000
def OE(k:Bk)(D:Nat->Bool):List Value:=(List.range k.nt).map fun i=> .int .i64 (if D i then((k.left i:Nat):Int) else 0)
def GIl(k:Bk)(D:Nat->Bool)(o:Obj):Prop:=o=.cells ⟨OE k D⟩ 3 (0,0)
theorem T2(k:Bk)(D:Nat->Bool):(OE k D).length=k.nt:=by simp[OE]
theorem W2(k:Bk)(D:Nat->Bool)(κ:Nat):(OE k D).set κ (.int .i64 ((k.left κ:Nat):Int))=OE k (bV D κ):=by
 apply List.ext_getElem?
 intro i;unfold OE bV;rw[List.getElem?_set];by_cases e:κ=i
 ·subst e;rw[if_pos rfl];by_cases h:κ<k.nt
  ·rw[if_pos (by simpa using h),List.getElem?_map,List.getElem?_range h];simp
  ·rw[if_neg (by simpa using h),List.getElem?_eq_none (by simp;omega)]
 ·rw[if_neg e,List.getElem?_map,List.getElem?_map];by_cases h:i<k.nt
  ·rw[List.getElem?_range h];have h2:¬i=κ:=fun h=> e h.symm;simp[h2]
  ·rw[List.getElem?_eq_none (by simp;omega)];rfl
structure aGy(X:Fk)(k:Bk)(H:View)(κ b5 b8 b6:Nat)(A:Option Addr)(lc:Nat)(B:Option Addr)(tc:Nat)(F:Nat->Option Addr)(fc:Nat->Nat):Prop where
 bk:JB H k A lc B tc F fc
 nl:k.nl<=1000
 nf:∀i,i<k.nl->k.nf i<=1000
 ok:k.qD
 nt:k.nt<=6
 aD:0<=k.aD/\k.aD<=99
 yB:0<=k.yB/\k.yB<=99
 h5:∃f,H b5=some (f,.cells ⟨(k.val A lc B tc).cells.toList⟩ 166 (0,0))
 h8:∃f,H b8=some (f,.cells ⟨[.nt κ]⟩ 3 (0,0))
 h6:∃f,H b6=some (f,.cells ⟨[.sl X.C k.nt k.nt]⟩ 24 (0,0))
 kn:κ<k.nt
 GI:X.GI=GIl k
def aB2(X:Fk)(b5 b8 b6:Nat):List Value:= [.pt X.Wg,.pt b5,.pt b8,.pt b6]
section
variable {X:Fk}{bk:Bk}{H:View}{κ b5 b8 b6:Nat}{A:Option Addr}{lc:Nat}{B:Option Addr}{tc:Nat}{F:Nat->Option Addr}{fc:Nat->Nat}
theorem aAv(w:aGy X bk H κ b5 b8 b6 A lc B tc F fc)(k:Nat):
  Jw prog X κ k .pw H (Go.Conc.born prog { target:=.fn (.func 125) (aB2 X b5 b8 b6).toArray,args:=#[] }):=by
 obtain⟨hbk,oP,J2,QC,oL,R7,aFt,⟨f5,h5⟩,⟨f8,h8⟩,⟨f6,h6⟩,hκ,hGI⟩:=w;refine Cl.born (vs:=aB2 X b5 b8 b6) Jw.RO func125 kR rfl ntmps125 Nb (by simp) ?_;unfold aB2;refine .sq (.rg rfl rfl ?_);refine So.defer Jw.RO (f:=126) (vs:= [.pt X.Wg]) rfl nofun rfl rfl ⟨_,rfl⟩ rfl ?_;refine .dn ?_;refine Sc.mono ?_ (fun g hg=> Jw.R3 rfl hg);refine Sc.aFS (jA.nil H) ?_;refine Tc.dl 6 mixed rfl ?_;refine Tl.tk 0 kR kR rfl rfl dE rfl rfl (pA.take (pA.uM (E:=en) rfl rfl h6 rfl rfl)) ?_;refine Tl.tk 1 kR kR rfl rfl dE rfl rfl (pA.take (pA.uM (E:=en) rfl rfl h8 rfl rfl)) ?_;refine Tl.tk 2 kR kR rfl rfl dE rfl rfl (pA.take (pA.uM (E:=en) rfl rfl h5 rfl rfl)) ?_;refine Tl.tk 3 kR kR rfl rfl dE rfl rfl (pA.take (pA.uM (E:=en) rfl rfl h8 rfl rfl)) ?_;refine Tl.tk 4 kR kR rfl rfl dE rfl rfl (pA.PM rfl rfl rfl rfl (fun H hs=> .f aE0 rfl (aDb _ H bk A lc B tc F fc (hbk.le hs.base) oP J2 QC oL R7 aFt κ hκ))) ?_;refine Tl.tk 5 kR kR rfl rfl dE rfl rfl (pA.take .ia) ?_;refine Tl.done kR rfl ?_;refine To.aHp (fun H1 hs=> ?_);refine So.mono ?_ (fun g hg=> Jw.toT rfl hg);have eoff:0+((κ:Nat):Int).toNat*1=κ:=by rw[Int.toNat_natCast];omega
 refine So.own (z:=((bk.left κ:Nat):Int)) (ik:=.i64) rfl rfl rfl ?_ rfl kR ?_ ?_
 ·show some (Value.pointer (some ⟨X.C,0+((κ:Nat):Int).toNat*1,none⟩))=_;rw[eoff]
 ·intro D o _ hGo;rw[hGI] at hGo ⊢;have aGR:o=.cells ⟨OE bk D⟩ 3 (0,0):=hGo;subst aGR;refine⟨⟨OE bk D⟩,3,rfl,by simp only[List.size_toArray,T2];exact hκ,?_⟩;show Obj.cells _ 3 (0,0)=.cells ⟨OE bk (bV D κ)⟩ 3 (0,0);rw[<-W2];simp
 ·exact fun k' _=> So.done Jw.RO (Sc.over Jw.RO rfl (aCK rfl (Sb.leaveD Jq.cl func125 rfl results125 (.inr rfl) Jq.bot)))
end
set_option maxHeartbeats 16000000
theorem pE {H:View}{b:Nat}{f:Bool}{o:Obj}(h:H b=some (f,o)):ro H b=some (false,o):=by simp[ro,h]
theorem NH {H:View}{b:Nat}(h:H b=none):ro H b=none:=by simp[ro,h]
def O5(H H':View):Prop:=∀b f o,H b=some (f,o)->∃f',H' b=some (f',o)
theorem JY {H H':View}{sz m:Nat}{y:Value}{l:List Value}(h:RA H sz y m l)(k:O5 H H'):RA H' sz y m l:=by
 obtain⟨h1,h2,h3⟩:=h;refine⟨h1,h2,h3.imp id ?_⟩;rintro⟨b,off,c,f,cs,e,fz,h4,h5,h6,h7⟩;obtain⟨f',h5'⟩:=k _ _ _ h5;exact⟨b,off,c,f',cs,e,fz,h4,h5',h6,h7⟩
theorem JB.of {H H':View}{k:Bk}{A:Option Addr}{lc:Nat}{B:Option Addr}{tc:Nat}{F:Nat->Option Addr}{fc:Nat->Nat}(h:JB H k A lc B tc F fc)(hk:O5 H H'):JB H' k A lc B tc F fc:=
 ⟨h.Y7,h.u5,JY h.rows hk,JY h.xC hk,h.OX,fun i hi=> JY (h.free i hi) hk⟩
structure jX(X:Fk)(k:Bk)(H:View)(b5 b6:Nat)(A:Option Addr)(lc:Nat)(B:Option Addr)(tc:Nat)(F:Nat->Option Addr)(fc:Nat->Nat):Prop where
 bk:JB H k A lc B tc F fc
 sm:k.small
 al:k.WA=0
 n:X.n=k.nt
 h5:∃f,H b5=some (f,.cells ⟨(k.val A lc B tc).cells.toList⟩ 166 (0,0))
 h6:∃f,H b6=some (f,.cells ⟨[.sl X.C k.nt k.nt]⟩ 24 (0,0))
 C0:H X.C=none
 GI:X.GI=GIl k
theorem jX.of {X:Fk}{k:Bk}{H H':View}{b5 b6:Nat}{A:Option Addr}{lc:Nat}{B:Option Addr}{tc:Nat}{F:Nat->Option Addr}{fc:Nat->Nat}(h:jX X k H b5 b6 A lc B tc F fc)(hk:O5 H H')(h0:H' X.C=none):jX X k H' b5 b6 A lc B tc F fc:=
 ⟨h.bk.of hk,h.sm,h.al,h.n,let ⟨_,g⟩:=h.h5;hk _ _ _ g,let ⟨_,g⟩:=h.h6;hk _ _ _ g,h0,h.GI⟩
abbrev b33:FB:=⟨51,.normal,none⟩
noncomputable def L33:Code:=cR (cL (cR (cR (cR (cR (cR (kN Tryz.f51)))))))
noncomputable def B33:Code:=cB (cB L33)
noncomputable def T33:Code:=cR (cR (cR (cR (cR (cR (kN Tryz.f51))))))
section
variable {X:Fk}{k:Bk}{b1 b5 b6:Nat}{A:Option Addr}{lc:Nat}{B:Option Addr}{tc:Nat}{F:Nat->Option Addr}{fc:Nat->Nat}{Fin:Goroutine->Prop}{cs:List Frame}
def rgS(X:Fk)(k:Bk)(b1 b5 b6 j:Nat):Rg:= [(1,.pt b1),(5,.pt b5),(6,.pt b6),(7,.pt X.Wg),(24,.nt k.nt),(25,.nt j)]
theorem YQ(OD:∀(R:Rg),pC (rgS X k b1 b5 b6 k.nt) R->∀κ (H:View),Sc (Jm prog X Fin κ .wd k.nt H) 50 b33 cs R [] [.code T33]):∀(d j κ:Nat) (H:View),j+d=k.nt->jX X k H b5 b6 A lc B tc F fc->∀(R:Rg),pC (rgS X k b1 b5 b6 j) R-> 
  Sc (Jm prog X Fin κ (if j<X.n then .kd else .wd) j H) 50 b33 cs R [] [.code B33,.inLoop B33,.inBlock 0,.code T33]
 | 0,j,κ,H,hj,aC,R,hR=> by
  have e:j=k.nt:=by omega
  subst e;rw[if_neg (by rw[aC.n];omega)];refine Sc.drop hR ?_;unfold rgS;refine .sq (.rg rfl rfl ?_);refine .i ?_ (z:=GH oM);refine .dn ?_;refine Sc.seq Jm.cl (Sc.cond Jm.cl (t:=false) rfl (fun h=> nomatch h) (fun _=> ?_));refine .xt rfl ?_;exact OD _ ⟨rfl,rfl,rfl,rfl,rfl,rfl,trivial⟩ κ H
 | d + 1,j,κ,H,hj,aC,R,hR=> by
  rw[if_pos (by rw[aC.n];omega)];refine Sc.drop hR ?_;unfold rgS;obtain⟨hg,oP,oL,QC⟩:=Bk.valid aC.al;refine .sq (.rg rfl rfl ?_);refine .i ?_ (z:=xO oM);refine .dn ?_;refine Sc.seq Jm.cl (Sc.cond Jm.cl (t:=true) rfl (fun _=> ?_) (fun h=> nomatch h));refine .sp (.sq (.bl (.sq ?_)));refine Sc.none aC.C0 ?_;refine Sc.aFS (jA.nil H) ?_;refine .r ?_;refine .m ?_;refine .e (.al (zz:=fun b8=> ?_));refine .e (.st 0 (zz:=?_));refine .done ?_;refine Tc.aFR (fun H1 hs=> Sc.aAa (fun hC1=> ?_));have aHh:jX X k H1 b5 b6 A lc B tc F fc:=aC.of (fun b f o h=> ⟨f,hs.base _ _ h⟩) hC1;have h8:=hs.get (i:=0) rfl;show Sc (Jm prog X Fin κ .kd j H1) 50 b33 cs _ [] _;refine .sq (.rg rfl rfl ?_);refine So.dD rfl rfl rfl nofun rfl (.mk' rfl) rfl (w6) ?_;rintro v J' ⟨rfl,κ',rfl⟩;refine .dn (.rg rfl rfl ?_);refine So.opD Jm.cl rfl rfl rfl rfl (MD.makeFunc rfl rfl rfl) ?_;have pM:jX X k (ro H1) b5 b6 A lc B tc F fc:=aHh.of (fun b f o h=> ⟨false,pE h⟩) (NH hC1);refine Jm.go (f:=125) (fn:=#[]) (caps:=(aB2 X b5 b8 b6).toArray) rfl nofun rfl rfl rfl rfl rfl rfl rfl (fun k1 _=> ?_) (fun k1 _=> ?_)
  ·refine .dn (.ib (.rg rfl rfl ?_));refine .i ?_ (z:=pB oM oM);refine .m ?_;refine .dn ?_;refine Sc.inLoop (by exact Jm.cl) ?_;exact YQ OD d (j+1) k1 (ro H1) oM pM _ ⟨rfl,rfl,rfl,rfl,rfl,rfl,trivial⟩
  ·exact aAv ⟨pM.bk,aC.sm.nl,fun i hi=> (aC.sm.num i hi).2,QC,oL,oM,oM,pM.h5,⟨false,pE h8⟩,pM.h6,oM,aC.GI⟩ k1
end
theorem Ph.aFT {P:Program}{H:View}{g:Goroutine}{Po:View->Goroutine->Prop}(h:aB4 P H g Po):Ph P H g Po:=
 ⟨H,fun _=> none,Po,fun _ _ h=> (nomatch h),(by funext b;unfold View.plus;cases H b <;> rfl),h,fun H' g' _ hp=> by
  have e:H'.plus (fun _=> none)=H':=by funext b;unfold View.plus;cases H' b <;> rfl
  rwa [e]⟩
def View.beside(X:Fk)(H:View):View:=(H.uE X.C).uE X.Wg
theorem iO {X:Fk}{H:View}:View.beside X H X.Wg=none/\View.beside X H X.C=none:=by
 refine⟨?_,?_⟩ <;> unfold View.beside View.uE <;> simp
theorem AH {X:Fk}{H:View}{b:Nat}(h1:b≠X.C)(h3:b≠X.Wg):View.beside X H b=H b:=by
 unfold View.beside;rw[nB h3,nB h1]
theorem Ph.begin {P:Program}{H:View}{g:Goroutine}{Po:View->Goroutine->Prop}(X:Fk)(Fin:Goroutine->Prop)(o:Obj)(hn:X.n<=6)(ne:X.Wg≠X.C)
  (hC:H X.C=some (true,o)) (hWg:H X.Wg=some (true,X.SW ⟨0,0,0⟩)) (hGI:X.GI (fun _=> false) o)
  (hg:∀k,T (Mw P true X.ok) (MS P X Fin k (if 0<X.n then .kd else .wd) 0) (ro (View.beside X H)) g) (hPo:∀o' g',X.GI (fun i=> decide (i<X.n)) o'->Fin g'->Po ((View.beside X H).put X.C (true,o')) g'):Ph P H g Po:=by
 refine Ph.aFT ⟨X,Fin,View.beside X H,o,hn,ne,iO,?_,hGI,hg,hPo⟩
 funext b
 by_cases e1:b=X.Wg
 ·subst e1;rw[View.IB,hWg]
 ·rw[View.MA _ _ e1];by_cases e3:b=X.C
  ·subst e3;rw[View.IB,hC]
  ·rw[View.MA _ _ e3,AH e3 e1]
theorem So.all {J:Obj->Goroutine->Prop}{p:Obj->Prop}{n:Nat}{b:FB}{cs:List Frame}{dl:List (Option Tmp)}{R:Rg}{ds:List Deferred}{l:List Oper}{kk:List Item}(h:∀o,p o->So (J o) n b cs dl R ds l kk):So (fun g=> ∀o,p o->J o g) n b cs dl R ds l kk:=
 fun arr ix ha hx tmps hr o ho=> h o ho arr ix ha hx tmps hr
def Bk.HF(k:Bk):Nat->Int×Int
 | 0=> (-1,(k.iU.length:Nat))
 | j+1=> if((k.left j:Nat):Int)<(k.HF j).2 then((j:Nat),((k.left j:Nat):Int)) else k.HF j
def Bk.look(k:Bk):Int×Int:=k.HF k.nt
def aCi(p:Int×Int):Value:=.tuple ⟨[.iz p.1,.iz p.2,.iz 0]⟩
section
theorem aCs(H:View)(k:Bk)(A:Option Addr)(lc:Nat)(B:Option Addr)(tc:Nat)(F:Nat->Option Addr)(fc:Nat->Nat)(hB:JB H k A lc B tc F fc)(hn:k.small)(hG:mG H)(ha:k.WA=0):
  fA (Mp prog) 51 #[k.val A lc B tc] H (Ib H (aCi k.look)):=by
 obtain⟨hgg,oP,oL,QC⟩:=Bk.valid ha;have lA:=fun(H':View) (h':H.le H')=> oD (Mp prog) H' k A lc B tc (hB.bk.le h') hn (NA hG h') ha;refine .en func51 ntmps51 fun St c cs hK=> ?_;refine .sr ?_;refine .e (.bx (zz:=fun b1=> ?_));refine .g ?_;refine .g ?_;refine .g ?_;refine .done (.sr ?_);refine .x (.ld 0) ?_;refine .c rfl rfl rfl rfl (fun H hs=> .f aGB rfl (lA H hs.base)) ?_;refine .m ?_;refine .x .et ?_;refine .x .et ?_;refine .e (.al (zz:=fun b5=> ?_));refine .e (.st 0 (zz:=?_));refine .g ?_;refine .done (.seq (.sr ?_));refine .m ?_;refine .i ?_ (z:=gH oM);refine .done (.ff rfl (.skip (.sr ?_)));refine .x .fa ?_;refine .x (.ld 1) ?_;refine .x .ln ?_;refine .e (Or.makeSlice (E:=en) (len:=k.nt) (cap:=k.nt) rfl rfl rfl rfl rfl rfl (Nat.le_refl _) oM rfl rfl dE (fun bC=> ?_));refine .e (.al (zz:=fun b6=> ?_));refine .e (.st 0 (zz:=?_));refine .done (.sr ?_);refine .e (.al (zz:=fun b7=> ?_));refine .done (.seq (.sr ?_));refine .x (.ld 1) ?_;refine .x .ln ?_;refine .m ?_;refine .done ?_;refine Tc.aFR (fun Hx hs tmps hr=> ?_);obtain⟨X,hX⟩:∃X:Fk,X=⟨k.nt,b7,bC,233,GIl k⟩:=⟨_,rfl⟩
 have x1:=hs.get (i:=0) rfl;have x2:=hs.get (i:=1) rfl;have x3:=hs.get (i:=2) rfl;have x4:=hs.get (i:=3) rfl;have x5:=hs.get (i:=4) rfl;have mF: [b7,b6,bC,b5,b1].Nodup:=hs.nodup;simp only[List.nodup_cons,List.mem_cons,List.not_mem_nil,or_false,not_or,not_false_eq_true,List.nodup_nil,and_true] at mF;obtain⟨⟨n1,n2,n3,n4⟩,⟨n5,n6,n7⟩,⟨n8,n9⟩,n10⟩:=mF;have dH:∀y,y=bC\/y=b7->H y=none:=by
  rintro y (rfl|rfl)
  ·exact hs.out _ (List.mem_cons_of_mem _ (List.mem_cons_of_mem _ List.mem_cons_self))
  ·exact hs.out _ List.mem_cons_self
 have hle:H.le (View.beside X Hx):=fun b y hb=> by
  have e:∀z,z=bC\/z=b7->b≠z:=fun z hz e=> by subst e;rw[dH b hz] at hb;cases hb
  rw[AH (by subst hX;exact e _ (.inl rfl)) (by subst hX;exact e _ (.inr rfl))];exact hs.base _ _ hb
 have y5:View.beside X Hx b5=some (true,.cells ⟨(k.val A lc B tc).cells.toList⟩ 166 (0,0)):=by
  subst hX;rw[AH (by exact Ne.symm n8) (by exact Ne.symm n3)];exact x4
 have y6:View.beside X Hx b6=some (true,.cells ⟨[.sl bC k.nt k.nt]⟩ 24 (0,0)):=by
  subst hX;rw[AH n5 (by exact Ne.symm n1)];exact x2
 obtain⟨Fin,hF⟩:∃Fin:Goroutine->Prop,Fin=fun g=> ∀o',X.GI (fun i=> decide (i<X.n)) o'->T (Mp prog) St ((View.beside X Hx).put X.C (true,o')) g:=⟨_,rfl⟩
 have hcF:Cl prog true O3 Fin:=⟨fun g g' hs h hf=> by
  subst hF;exact fun o' ho=> .step ⟨hs,fun w hw QC=> ⟨g',w,#[],_,h w (fun _ _ e=> by cases e),.refl hw,hf o' ho⟩⟩⟩
 have hz:PC [Value.int .i64 0] (k.nt*1)=OE k (fun _=> false):=by
  rw[sK,Nat.mul_one];unfold OE;simp[List.map_const']
 refine T.phase (Po:=fun H' g'=> T (Mp prog) St H' g') (Ph.begin X Fin (.cells ⟨OE k (fun _=> false)⟩ 3 (0,0)) (by subst hX;exact oL) (by subst hX;exact n2) (by subst hX;rw[<-hz];exact x3) (by subst hX;exact x1) (by subst hX;exact rfl) (fun κ=> ?_) (fun o' g' ho hg=> by subst hF;exact hg o' ho)) (fun H' g' h=> h);have aC:jX X k (ro (View.beside X Hx)) b5 b6 A lc B tc F fc:=
  ⟨hB.of (fun b f o h=> ⟨false,pE (hle _ _ h)⟩),hn,ha,by subst hX;rfl,⟨false,pE y5⟩,by subst hX;exact⟨false,pE y6⟩,NH iO.2,by subst hX;rfl⟩
 have OD:∀(R:Rg),pC (rgS X k b1 b5 b6 k.nt) R->∀κ (H:View),Sc (Jm prog X Fin κ .wd k.nt H) 50 b33 (c::cs) R [] [.code T33]:=by
  intro R hR κ Hk;refine Sc.drop hR ?_;unfold rgS;refine .sq (.rg rfl rfl ?_);refine So.dD rfl rfl rfl nofun rfl (.mk' rfl) rfl (aER hcF) ?_;rintro v J' ⟨rfl,rfl⟩;subst hF;refine So.all (fun o' pP=> ?_);have hGI:X.GI=GIl k:=by subst hX;rfl
  rw[hGI] at pP;have ho2:o'=.cells ⟨OE k (fun i=> decide (i<X.n))⟩ 3 (0,0):=pP;subst ho2;have hX2:X.n=k.nt:=by subst hX;rfl
  have z5:(View.beside X Hx).put X.C (true,.cells ⟨OE k (fun i=> decide (i<X.n))⟩ 3 (0,0)) b5=some (true,.cells ⟨(k.val A lc B tc).cells.toList⟩ 166 (0,0)):=by
   rw[View.MA _ _ (by subst hX;exact Ne.symm n8)];exact y5
  have z6:(View.beside X Hx).put X.C (true,.cells ⟨OE k (fun i=> decide (i<X.n))⟩ 3 (0,0)) b6=some (true,.cells ⟨[.sl X.C k.nt k.nt]⟩ 24 (0,0)):=by
   rw[View.MA _ _ (by subst hX;exact n5)];subst hX;exact y6
  have zC:(View.beside X Hx).put X.C (true,.cells ⟨OE k (fun i=> decide (i<X.n))⟩ 3 (0,0)) X.C=some (true,.cells ⟨OE k (fun i=> decide (i<X.n))⟩ 3 (0,0)):=View.IB ..;have zle:H.le ((View.beside X Hx).put X.C (true,.cells ⟨OE k (fun i=> decide (i<X.n))⟩ 3 (0,0))):=fun b y hb=> by
   rw[View.MA _ _ (by rintro rfl;subst hX;rw[dH bC (.inl rfl)] at hb;cases hb)];exact hle _ _ hb
  generalize (View.beside X Hx).put X.C (true,.cells ⟨OE k (fun i=> decide (i<X.n))⟩ 3 (0,0))=H2 at z5 z6 zC zle;refine So.aHq (jA.nil H2) ?_;refine .done (.sr ?_);refine .x .l0 ?_;refine To.YB rfl rfl rfl rfl rfl rfl dE (WB.f aEZ rfl (GK _ H2 k A lc B tc (hB.bk.le zle).rows hn.nl (hB.bk.le zle).xC QC oL)) (fun v H₃ hv=> ?_);obtain⟨OK,m,es,cl,rfl,⟨fm,q3⟩,q4⟩:=hv;have yE:=Bk.OQ q4;have z6':=OK _ _ z6;have zC':=OK _ _ zC;refine .x (pA.vL (E:=en) (es:=es) rfl rfl rfl rfl rfl (fun H hs=> ⟨fm,hs.base _ _ q3⟩) rfl rfl) ?_;refine .g ?_;refine .g ?_;refine .done ?_;rw[yE];refine .seq (.sr ?_);refine .x .l0 ?_;refine .x .ln ?_;refine .m ?_;refine .done (.block ?_);refine Tc.db (Tc.qA (σ:= { j:Nat//j<=k.nt }) (fun j=> ([(2,.iz (k.HF j.1).1),(3,.iz (k.HF j.1).2),(35,.sl X.C k.nt k.nt),(36,.nt k.nt),(37,.nt j.1)],[])) (fun j=> k.nt-j.1) ?_ ⟨0,Nat.zero_le _⟩);rintro⟨j,hj⟩ ih;show Tc (Mp prog) St _ _ _ _ [(2,.iz (k.HF j).1),(3,.iz (k.HF j).2),(35,.sl X.C k.nt k.nt),(36,.nt k.nt),(37,.nt j)] [] _ _;by_cases c1:j=k.nt
  ·subst c1;refine .sr ?_;refine .i ?_ (z:=GH oM);refine .done (.seq (.ff rfl (.exit rfl (.sr ?_))));refine .m ?_;refine .m ?_;refine .g ?_;refine .g ?_;refine .g ?_;refine .done ?_;refine .rt hK func51 results51 [_,_,_] ?_;exact fun H' hs=> ⟨View.le_trans zle (View.le_trans OK hs.base),rfl⟩
  ·have c2:j<k.nt:=by omega
   have f1:zE false 1 (OE k (fun i=> decide (i<X.n))) (0+((j:Nat):Int).toNat*1)=some (.int .i64 ((k.left j:Nat):Int)):=by
    show _[_]? =_;rw[Nat.zero_add,Int.toNat_natCast,Nat.mul_one];unfold OE;rw[List.getElem?_map,List.getElem?_range c2];simp[hX2,c2]
   by_cases c3:((k.left j:Nat):Int)<(k.HF j).2
   ·have e:k.HF (j+1)=(((j:Nat):Int),((k.left j:Nat):Int)):=by rw[Bk.HF,if_pos c3]
    refine .sr ?_;refine .i ?_ (z:=xO oM);refine .done (.seq (.tt rfl (.skip (.seq (.block (.sr ?_))))));refine .m ?_;refine .x .ia ?_;refine .x .l0 ?_;refine .g ?_;refine .g ?_;refine .done (.sr ?_);refine .m ?_;refine .m ?_;refine .i ?_ (z:=xO oM);refine .done (.tt rfl (.r ?_));refine .m ?_;refine .m ?_;refine .g ?_;refine .g ?_;refine .done (.inBlock (.r ?_));refine .i ?_ (z:=pB oM oM);refine .m ?_;refine .done ?_;refine Tc.yC (ih ⟨j+1,c2⟩ Ob) ?_ sL;simp only[e];exact⟨rfl,rfl,rfl,rfl,rfl,trivial⟩
   ·have e:k.HF (j+1)=k.HF j:=by rw[Bk.HF,if_neg c3]
    refine .sr ?_;refine .i ?_ (z:=xO oM);refine .done (.seq (.tt rfl (.skip (.seq (.block (.sr ?_))))));refine .m ?_;refine .x .ia ?_;refine .x .l0 ?_;refine .g ?_;refine .g ?_;refine .done (.sr ?_);refine .m ?_;refine .m ?_;refine .i ?_ (z:=GH oM);refine .done (.ff rfl (.skip (.inBlock (.r ?_))));refine .i ?_ (z:=pB oM oM);refine .m ?_;refine .done ?_;refine Tc.yC (ih ⟨j+1,c2⟩ Ob) ?_ sL;simp only[e];exact⟨rfl,rfl,rfl,rfl,rfl,trivial⟩
 refine Sc.block Jm.cl (Sc.loop Jm.cl ?_) tmps hr;have hgo:=YQ OD k.nt 0 κ (ro (View.beside X Hx)) oM aC;subst hX;exact hgo _ (by unfold rgS;refine⟨rfl,?_⟩;refine⟨rfl,?_⟩;refine⟨rfl,?_⟩;refine⟨rfl,?_⟩;refine⟨rfl,?_⟩;refine⟨rfl,?_⟩;exact trivial)
end
end Go.Proofs.YtldmfjcgjdchcaaGreatDoor
namespace Go.Proofs.YtldmfjcgjdchcaaGreatDoor
open Go.RL Go.Proofs.Tryz
set_option maxRecDepth 100000
theorem R1:RE.RJ= [[49,50],[49,51]]:=by decide +kernel
theorem S1:aG.RJ= [[49,49,50],[50,50]]:=by decide +kernel
theorem sT:(RE.MB 0=0/\RE.MB 1=0/\RE.MB 2=2)/\RE.MB (-1)=2:=by decide +kernel
theorem tT:(aG.MB 0=2/\aG.MB 1=2/\aG.MB 2=0)/\aG.MB (-1)=0:=by decide +kernel
theorem aCO:(kA (fun i=> !aG.XJ (FC [1,1,2]) (FC [3,9,9]) i) 3).isSome=false/\aG.TD (FC [1,1,2]) (FC [3,9,9]) 3=⟨[50,50],0,false⟩/\aG.line [50,50]=some 2:=by decide +kernel
theorem aCP:(kA (fun i=> !aG.XJ (FC [1,1,2]) (FC [5,9,9]) i) 3).isSome=false/\aG.TD (FC [1,1,2]) (FC [5,9,9]) 3=⟨[49,49,50],0,false⟩/\aG.line [49,49,50]=none:=by decide +kernel
theorem aBd:RE.look=(1,1):=by decide +kernel
theorem aBe:RE.settled=none:=by decide +kernel
theorem fP:vB 2 2 6 6=true/\RE.r9 1 2 2 6 6=true:=by decide +kernel
theorem aBf:fT.settled=some (2,0):=by decide +kernel
theorem RP:(RE.GG 1 0=2/\RE.GG 1 1=0)/\RE.oG 1 2=2:=by decide +kernel
theorem x7:Z0 (RE.iQ 0)= [1,2]:=by decide +kernel
theorem v7:RE.pJ [51]=.tuple ⟨[.bool false,.iz 0]⟩:=by
 have h:isNum [51]=true/\RE.clash [51]=false/\RE.safe [51]=false:=by decide +kernel
 unfold Bk.pJ;rw[if_neg (by rw[UG];decide),if_neg (by rw[h.1];decide),if_neg (by rw[h.2.1];decide),h.2.2]
theorem w7:RE.pJ [53]=.tuple ⟨[.bool true,.iz 0]⟩:=by
 have h:isNum [53]=true/\RE.clash [53]=false/\RE.safe [53]=true:=by decide +kernel
 unfold Bk.pJ;rw[if_neg (by rw[UG];decide),if_neg (by rw[h.1];decide),if_neg (by rw[h.2.1];decide),h.2.2]
theorem y7:RE.iK 1 true=oH [48] true 0:=by
 have h:RE.spare 1 true=some [48]:=by decide +kernel
 unfold Bk.iK;rw[if_neg (by rw[UG];decide),if_neg dE];show(match RE.spare 1 true with|some x=> oH x true 0|none=> oH [] false 0)=_;rw[h]
theorem T1:AM [49,50,48]=.tuple ⟨[.iz 13,.iz 0]⟩:=by
 have h:isNum [49,50,48]=true/\XB [49,50,48]=13:=by decide +kernel
 unfold AM;rw[if_neg (by rw[h.1];decide),h.2];rfl
theorem u7:(cG 2 2).length<=12/\(kA (fun j=> !zF (FC [5,3,1] j)) 3).isSome=false/\(iJ (FC [5,3,1]) 3 2 2).total=18/\(iJ (FC [5,3,1]) 3 2 2).done=true/\(iJ (FC [5,3,1]) 3 2 2).lF= [[49],[50,49],[50,50]]:=by decide +kernel
theorem FX:aG.SE 3 3 (FC [1,1,2]) (FC [3,9,9])=jE [50,50] 2 0:=by
 obtain⟨h1,h2,h3⟩:=aCO;unfold Bk.SE;rw[if_neg (by rw[eT];decide),if_neg dE];show(if(kA (fun i=> !aG.XJ (FC [1,1,2]) (FC [3,9,9]) i) 3).isSome=true then _ else jE (aG.TD (FC [1,1,2]) (FC [3,9,9]) 3).heard (sB (aG.line (aG.TD (FC [1,1,2]) (FC [3,9,9]) 3).heard)) 0)=_;rw[h1,h2];simp only[Bool.false_eq_true,if_false];rw[h3];rfl
theorem GX:aG.SE 3 3 (FC [1,1,2]) (FC [5,9,9])=jE [49,49,50] (-1) 0:=by
 obtain⟨h1,h2,h3⟩:=aCP;unfold Bk.SE;rw[if_neg (by rw[eT];decide),if_neg dE];show(if(kA (fun i=> !aG.XJ (FC [1,1,2]) (FC [5,9,9]) i) 3).isSome=true then _ else jE (aG.TD (FC [1,1,2]) (FC [5,9,9]) 3).heard (sB (aG.line (aG.TD (FC [1,1,2]) (FC [5,9,9]) 3).heard)) 0)=_;rw[h1,h2];simp only[Bool.false_eq_true,if_false];rw[h3];rfl
set_option maxRecDepth 10000
set_option maxHeartbeats 16000000
theorem aA0 {k:Bk}(QC:k.qD){i:Nat}(hi:i<k.nt):(k.can i).length<=12:=by
 obtain⟨h1,h2,h3⟩:=k.yF QC hi;have e:∀a b lo hi:Nat,(XL a b lo hi).length=(b+1-a)*(hi+1-lo):=fun a b lo hi=> by
  unfold XL upN;rw[List.length_flatMap];simp only[List.length_map,List.length_range',List.map_const',List.sum_replicate_nat]
 unfold Bk.can;rw[e];have h4:=k.sM (k.qt i);have m1:(k.pt i).toNat+1-(k.pf i).toNat<=4:=by omega
 have m2:k.kind (k.qt i)+1-k.kind (k.qf i)<=3:=by omega
 exact Nat.mul_le_mul m1 m2
theorem CX {k:Bk}(ha:k.WA=0):(k.YG k.nt).length<=12 ^ 6:=by
 obtain⟨_,_,oL,QC⟩:=Bk.valid ha;have h:∀n,n<=k.nt->(k.YG n).length<=12 ^ n:=by
  intro n;induction n with
  | zero=> intro _;exact Nat.le_refl _
  | succ n ih=>
   intro hn;unfold Bk.YG;rw[List.length_flatMap];have h1:∀l:List sH,(l.map fun e=> ((k.can n).map fun x=> e.hear x.1 x.2).length).sum<=l.length*12:=by
    intro l;induction l with
    | nil=> exact Nat.le_refl _
    | cons e t iht=>
     have:=aA0 QC (i:=n) oM;simp only[List.map_cons,List.sum_cons,List.length_map,List.length_cons] at iht ⊢;omega
   have h2:=h1 (k.YG n);have h3:=ih oM;rw[Nat.pow_succ];omega
 exact Nat.le_trans (h k.nt (Nat.le_refl _)) (Nat.pow_le_pow_right dE oL)
section
variable(M:Md prog)(H:View)
theorem RU(k:Bk)(A:Option Addr)(lc:Nat)(B:Option Addr)(tc:Nat)(hk:QD H k A lc B tc)(hn:k.small)(hG:mG H)(ha:k.WA=0):
  fA M 49 #[k.val A lc B tc] H (fun v H'=> H.le H'/\∃g:Gl 9 1,v=aES g 0/\(g.n=k.RJ.length/\g.l=zA k.RJ)/\∀x∈g.bl,H' x.1=some x.2/\H x.1=none):=by
 obtain⟨_,oP,oL,QC⟩:=Bk.valid ha;have oR:=CX ha;have lA:=fun(H':View) (h':H.le H')=> oD M H' k A lc B tc (hk.le h') hn (NA hG h') ha;refine .en func49 ntmps49 fun St c cs hK=> ?_;refine U2 ?_;refine .bo fun b1=> ?_;refine U6 ?_;refine .cl (fun H hs=> lA H hs.base) ?_;refine U3 ?_;refine .al fun b4=> ?_;refine o6 ?_;refine To.YB rfl rfl rfl rfl rfl rfl dE (WB.h (BX M H k A lc B tc hk.xC QC oL k.nt (Nat.le_refl _))) (fun v H₂ hv=> ?_);obtain⟨hle,m,es,cl,rfl,⟨fm,q3⟩,q4⟩:=hv;have yE:=P1 q4;refine .e (Or.range (E:=en) (es:=es) (cl:=cl) rfl rfl (fun H hs=> ⟨fm,hs.base _ _ q3⟩) rfl rfl rfl dE (fun it=> ?_));refine U2 ?_;refine Tc.db (Tc.qA (σ:= { s:Array Nat×List By×Gl 9 1//s.2.2.l=zA s.2.1/\(KD es s.1).length+s.2.1.length=es.size/\∀x,x∈(k.YG k.nt).map (·.heard)<->(x∈s.2.1\/∃me∈KD es s.1,∃e:sH,me.key=e.val/\x=e.heard) })
  (fun s=> ([(1,.pt b1),(4,.pt b4),(6,s.1.2.2.val),(21,.pt it)],[(it,true,.mapIter (some m) cl s.1.1 cl),Bb b4 ((k.val A lc B tc).cells.toList) 166,Bb b1 ((k.val A lc B tc).cells.toList) 45]++s.1.2.2.bl)) (fun s=> (KD es s.1.1).length) ?_ ⟨(#[],[],Gl.nil 9 1),rfl,by rw[rE];simp,fun x=> by
   rw[rE,List.mem_map];constructor
   ·rintro⟨e,he,rfl⟩;obtain⟨me,h1,h2,_⟩:=(q4.mem e.val (.bool true)).1 ⟨e,(k.CD _ e).1 he,rfl,rfl⟩;exact .inr ⟨me,h1,e,h2,rfl⟩
   ·rintro(h|⟨me,h1,e,h2,rfl⟩)
    ·cases h
    ·obtain⟨y,h3,h4,_⟩:=iE q4 me h1;rw[BH (h2.symm.trans h4)];exact⟨y,(k.CD _ y).2 h3,rfl⟩⟩)
 rintro⟨⟨seen,dn,g⟩,p2,p3,p4⟩ ih;simp only at p2 p3 p4;dsimp only;have XC:g.n=dn.length:=by have:=g.hl;rw[p2,VB] at this;omega
 refine U2 ?_;refine .e (Or.next (es:=es) 0 rfl rfl rfl (fun H hs=> ⟨fm,hs.base _ _ q3⟩) q4.lt rfl dE (fun me he hse=> ?_) (fun QA=> ?_))
 ·have hp :=RH q4.VL he hse;obtain⟨e0,u1,u2,_⟩:=iE q4 me he;have SJ:=zK q4 he;have TZ:=hp.length_eq;rw[List.length_cons] at TZ;refine U8 ?_;refine .e (Or.entry (es:=es) (e:=me) (st:=me.born) rfl rfl (fun H hs=> ⟨true,hs.get (i:=0) rfl⟩) (fun H hs=> ⟨fm,hs.base _ _ q3⟩) (by simp) SJ rfl dE ?_);rw[u2];refine U ?_;refine .al fun b7=> ?_;refine U6 ?_;refine .e (.bs (zz:=fun bs=> ?_));refine .e (Or.append (E:=en) 5 rfl rfl rfl rfl rfl rfl rfl rfl rfl rfl rfl rfl rfl rfl rfl (fun H hs=> RA.of (hs.get (i:=0) rfl) Nb) rfl oM rfl dE (fun g' dI LG=> ?_));refine U3 ?_;exact Tc.db (ih ⟨(seen.push me.born,dn++[e0.heard],g'),by simp only;rw[LG,p2,eC];rfl,by simp only;rw[List.length_append,List.length_singleton];omega,fun x=> by
   rw[p4 x,List.mem_append,List.mem_singleton];constructor
   ·rintro(h|⟨me',h1,e',h2,h5⟩)
    ·exact .inl (.inl h)
    ·rcases List.mem_cons.1 (hp.mem_iff.1 h1) with rfl|h6
     ·rw[BH (h2.symm.trans u2)] at h5;exact .inl (.inr h5)
     ·exact .inr ⟨me',h6,e',h2,h5⟩
   ·rintro((h|h)|⟨me',h6,h7⟩)
    ·exact .inl h
    ·exact .inr ⟨me,hp.mem_iff.2 (List.mem_cons_self ..),e0,u2,h⟩
    ·exact .inr ⟨me',hp.mem_iff.2 (List.mem_cons_of_mem _ h6),h7⟩⟩ Ob)
 ·have iG:=lG QA;rw[iG] at p3 p4;simp only[List.not_mem_nil,false_and,exists_false,or_false] at p4;rw[List.length_nil,Nat.zero_add] at p3;have aCW:k.RJ=SL dn:=dV p4;refine U8 ?_;refine .e (Or.T9 (dec:=bM dn) (L1:= [(it,true,.mapIter (some m) cl seen cl),Bb b4 ((k.val A lc B tc).cells.toList) 166,Bb b1 ((k.val A lc B tc).cells.toList) 45]) g (nG dn) (p2.trans (EO _).symm) (qI _) oM rfl rfl rfl rfl rfl dE (fun H Q h=> .h h) (fun g' mm hv' nP qO TX ht hs'=> ?_));rw[<-hv'];rw[XC] at ht hs' nP;have OD:(AB mm dn.length).map (bM dn)=k.RJ:=by rw[aCW];exact G1 rfl ht hs'
  have hE':=(qI dn).JD ht;refine U4 ?_;refine .e (Or.aA8 (dec:=bM dn) (L1:= [(it,true,.mapIter (some m) cl seen cl),Bb b4 ((k.val A lc B tc).cells.toList) 166,Bb b1 ((k.val A lc B tc).cells.toList) 45]) g' mm TX hE' oM rfl rfl rfl rfl rfl dE (fun H Q h=> .h h) (fun g2 AN EJ=> ?_));rw[nP] at AN EJ;have hl4:g2.l=zA k.RJ:=by rw[EJ,zS,OD];rfl
  have hn4:g2.n=k.RJ.length:=by rw[AN,<-OD,List.length_map]
  refine U3 ?_;refine .rt hK func49 results49 [_,_] ?_;exact fun H' hs=> ⟨View.le_trans hle hs.base,g2,rfl,⟨hn4,hl4⟩,fun x hx=> ⟨hs.at_ x (by simp[hx]),none_le hle (hs.out x (by simp[hx]))⟩⟩
end
end Go.Proofs.YtldmfjcgjdchcaaGreatDoor
namespace Go.RL
open Go.Conc
section
variable {P:Program}{M:Md P}{St:View->Goroutine->Prop}{n:Nat}{b:FB}{H₀:View}{cs:List Frame}{R:Rg}{L:Bl}{ds:List Deferred}{k:List Item}{md:Region.Mode}{ops:Array Oper}
theorem Ta.qX(i j:Nat){B:List Nat}{Hs:View}{Ls Lb:Bl}{o:Oper}{d:Nat}{fuel:Nat}{listed:Array Bool}{cl:Go.Call}{x:Operand}{fv:Value}{az:List Value}(hr:Region.ready md ops listed= [i,j])(hi:ops[i]? =some o)
  (hw:TA (ops.toList.map (fun o:Oper=> o.dst)) R o=some true) (lA:o.op=.call cl) (iB:cl.callee=.value x) (hx:JA R x=some fv) (has:lD R cl.args.toList=some az) (hd:o.dst=some d) (hn:d<n)
  {Q:Value->View->Prop} (hc:WB M fv az H₀ Q) (hle:∀v H₁,Q v H₁->Hs.le H₁) (h1:Ls.Sublist L) (h2:(B.all fun j=> !((listed.setIfInBounds i true).getD j true))=false\/Lb.Sublist L)
  (hk:∀v H₁,Q v H₁->Ta M St n b H₁ cs (S2 Hs B Ls Lb) md ops fuel (listed.setIfInBounds i true) ((d,v)::R) L ds k)
  (hj:uJ M St n b H₀ cs (S2 Hs B Ls Lb) md ops fuel listed R L ds k j):
  Ta M St n b H₀ cs (S2 Hs B Ls Lb) md ops (fuel+1) listed R L ds k:=fun H tmps hs XD _ H₂ h2' _=> by
 have hs:=hs.mono h2';refine⟨fun e=> (by rw[hr] at e;cases e),fun j' FV o' pP=> ?_⟩;rw[hr] at FV;have cQ:j'=i\/j'=j:=by simpa using FV
 rcases cQ with rfl|rfl
 ·rw[hi] at pP;cases pP
  refine⟨(by rw[lA];rfl),?_⟩;have YZ:Region.wanted o (yielded ops tmps)=true:=rB (fun j=> by
   simp only[List.getElem?_map,Array.getElem?_toList];cases ops[j]? <;> rfl) XD hw
  rw[if_pos YZ];obtain⟨F,rfl,Y4,hF⟩:=hs.split;have e1:=XD.ev hx;have cH:cl.args.map (OB tmps)=az.toArray:=by
   apply Array.ext'
   simpa using XD.evs has
  have hex:execOp (OB tmps) o=(Deferred.ofValue fv az.toArray).bind fun d=> invoke d.target d.args:=by
   have h1:execOp (OB tmps) o=(resolve (OB tmps) cl o.type).bind fun d=> invoke d.target d.args:=by unfold execOp;rw[lA];rfl
   rw[h1];unfold resolve;rw[iB];simp only[e1,cH]
  unfold pF;rw[hex];have fin:∀v H'',TH F Q v H''->S2 Hs B Ls Lb (listed.setIfInBounds j' true) H''/\GJ M md ops (S2 Hs B Ls Lb) (fun tmps H=> T M St H (G (b.at tmps ds k) cs)) fuel (listed.setIfInBounds j' true) (HB tmps o.dst v) H'':=by
   rintro v H'' ⟨H₁,rfl,nL,hq⟩;have NT:jA H₁ L (H₁.plus F):=.DN hs.nodup hF nL;have hS:S2 Hs B Ls Lb (listed.setIfInBounds j' true) (H₁.plus F):=S2.bP (hle v H₁ hq) h1 h2 _ NT;refine⟨hS,?_⟩;rw[hd];exact hk v H₁ hq _ _ NT (XD.put hn v) hS
  refine VA _ (fun nx H' nP=> ?_) (hc.frame Y4);cases nx <;> first
   | exact nP.elim
   | exact fA.mono nP fin
   | exact VM.mono nP fin
 ·obtain⟨o2,ho2,hd2,hw2,h'⟩:=hj;rw[pP] at ho2;cases ho2
  refine⟨hd2,?_⟩;have YZ:Region.wanted o' (yielded ops tmps)=true:=rB (fun j=> by
   simp only[List.getElem?_map,Array.getElem?_toList];cases ops[j]? <;> rfl) XD hw2
  rw[if_pos YZ];refine(h' H₂ tmps hs XD).mono ?_;rintro t H' ⟨R',L',h1,h2,h3,h4⟩;exact⟨h3 H' h2,h4 H' t h2 h1 (h3 H' h2)⟩
theorem Tc.aEP {x:Item}(F:View->Rg->Bl->Prop)(hF:∀H R L,F H R L->Tc M St n b H cs R L ds k)(h:(∀H R L,F H R L->Tc M St n b H cs R L ds k)->Tc M St n b H₀ cs R L ds (x::k)):Tc M St n b H₀ cs R L ds (x::k):=h hF
end
end Go.RL
namespace Go.Proofs.YtldmfjcgjdchcaaGreatDoor
open Go.RL Go.Proofs.Tryz
set_option maxRecDepth 10000
set_option maxHeartbeats 32000000
theorem ZQ {H:View}{b:Nat}{f:Bool}{gt:TypeId}{gz:Nat×Nat}(m:List By)(h:H b=some (f,.cells ⟨zA m⟩ gt gz)):ZB H (some ⟨b,0,none⟩) m.length (fun j=> m[j]?.getD []):=
 .inr ⟨b,0,f,_,gt,gz,rfl,h,fun j hj=> by
  show(zA m)[_]? =_;rw[Nat.zero_add,Int.toNat_natCast,Nat.mul_one];unfold zA;rw[List.getElem?_map];simp only[List.getElem?_eq_getElem hj];rfl⟩
theorem FL(l:List By){n:Nat}(hn:n=l.length):(decide (n=l.length)&&SG (fun i=> decide ((fun j=> l[j]?.getD []) i=(fun j=> l[j]?.getD []) i)) n)=true:=by
 rw[decide_eq_true hn,(kD n).2 (fun i _=> decide_eq_true rfl)];rfl
theorem tF {H:View}{b:Nat}{f:Bool}{gt:TypeId}{gz:Nat×Nat}(m:List Int)(h:H b=some (f,.cells ⟨SA m⟩ gt gz)):PB H (some ⟨b,0,none⟩) m.length (FC m):=
 .inr ⟨b,0,f,_,gt,gz,rfl,h,fun j hj=> by
  show(SA m)[_]? =_;rw[Nat.zero_add,Int.toNat_natCast,Nat.mul_one];unfold SA FC;rw[List.getElem?_map];simp only[List.getElem?_eq_getElem hj];rfl⟩
theorem wZ {e:TypeId}(g:Gl e 1){H:View}(h:∀x∈g.bl,H x.1=some x.2){f:Nat->Int}{n:Nat}(hl:g.l=VW f n)(hn:g.n=n):PB H (g.blk.map fun b=> ⟨b,0,none⟩) n f:=by
 cases hb:g.blk with
 | none=>
  have:=g.h0 hb;have:=g.hc;exact .inl oM
 | some b=>
  have vJ:g.bl= [Bb b (g.l++g.jB) e]:=by unfold Gl.bl;rw[hb]
  refine .inr ⟨b,0,true,_,e,(0,0),rfl,h (b,true,.cells ⟨g.l++g.jB⟩ e (0,0)) (by rw[vJ];simp),fun j hj=> ?_⟩;show(g.l++g.jB)[_]? =_;rw[Nat.zero_add,Int.toNat_natCast,Nat.mul_one,List.getElem?_append_left (by rw[hl,aA5];exact hj),hl];unfold VW;rw[List.getElem?_map,List.getElem?_range hj];rfl
theorem S6(m:List Int):SA m=VW (FC m) m.length:=by
 apply List.ext_getElem?
 intro i;unfold SA VW FC;rw[List.getElem?_map,List.getElem?_map];by_cases h:i<m.length
 ·rw[List.getElem?_range h,List.getElem?_eq_getElem h];simp[h]
 ·rw[List.getElem?_eq_none oM,List.getElem?_eq_none (by simp;omega)];rfl
theorem three {p:Nat->Prop}(h0:p 0)(h1:p 1)(h2:p 2):∀i,i<3->p i:=fun i hi=> by
 rcases(by omega:i=0\/i=1\/i=2) with rfl|rfl|rfl
 ·exact h0
 ·exact h1
 ·exact h2
theorem two {p:Nat->Prop}(h0:p 0)(h1:p 1):∀i,i<2->p i:=fun i hi=> by
 rcases(by omega:i=0\/i=1) with rfl|rfl
 ·exact h0
 ·exact h1
theorem aAe {H:View}{a:Option Addr}{n c:Nat}{l:List By}(h:RA H 1 (.slice a n c) n (zA l))(hn:n=l.length):ZB H a n (fun j=> l[j]?.getD []):=by
 obtain⟨_,_,⟨_,_,h1,h2⟩|⟨b,off,c',f,cs,e,fz,h1,h2,h3,h4⟩⟩:=h
 ·have:l= []:=by simpa [zA] using h2
  exact .inl (by rw[hn,this];rfl)
 ·simp only[Value.slice.injEq] at h1;refine .inr ⟨b,off,f,cs,e,fz,h1.1,h2,fun j hj=> ?_⟩;show cs[_]? =_;have rR:j<l.length:=by omega
  have h5:=congrArg (fun x=> x[j]?) h4;simp only[List.getElem?_take,List.getElem?_drop] at h5;rw[if_pos (by rw[VB];exact rR)] at h5;rw[Int.toNat_natCast,Nat.mul_one,h5];unfold zA;rw[List.getElem?_map];simp only[List.getElem?_eq_getElem rR];rfl
theorem To.aDw {P:Program}{M:Md P}{St:View->Goroutine->Prop}{n:Nat}{b:FB}{H₀:View}{cs:List Frame}{R:Rg}{L L₁:Bl}{ds:List Deferred}{k:List Item}{dl:List (Option Tmp)}{l:List Oper}(p:L₁.Perm L)(h:To M St n b H₀ cs dl R L₁ ds l k):To M St n b H₀ cs dl R L ds l k:=To.perm p h
theorem aBt(H:View)(hG:mG H):fA (Mp prog) 15 #[] H (Ib H (.bool true)):=by
 have sD:RE.small:=QP rfl dE rfl rfl;have sE:aG.small:=QP rfl dE rfl rfl;have sO:fT.small:=QP rfl dE rfl rfl;refine .en func15 ntmps15 fun St c cs hK=> ?_;refine U6 ?_;refine To.YB rfl rfl rfl rfl rfl rfl dE (WB.h (T0 _ H)) (fun v H1 hv=> ?_);obtain⟨tl1,dA,dlc,dB,dtc,dF,dfc,rfl,hD1⟩:=hv;refine To.YB rfl rfl rfl rfl rfl rfl dE (WB.h (J8 _ H1)) (fun v H2 hv=> ?_);obtain⟨le2,eA,elc,eB,etc,eF,efc,rfl,hE2⟩:=hv;have tl2:=View.le_trans tl1 le2;have hD2:=hD1.le le2;have hG2:=NA hG tl2;refine .al fun b1=> ?_;refine .al fun b2=> ?_;refine U4 ?_;refine Tc.db (R':= [(1,.pt b1),(2,.pt b2)]) (L':= [Bb b2 ((aG.val eA elc eB etc).cells.toList) 45,Bb b1 ((RE.val dA dlc dB dtc).cells.toList) 45]) ?_;refine U2 ?_;refine To.YB rfl rfl rfl rfl rfl rfl dE (WB.h (RU _ H2 RE dA dlc dB dtc hD2.bk sD hG2 UG)) (fun v H3 hv=> ?_);obtain⟨le3,g3,rfl,⟨ng3,lg3⟩,mg3⟩:=hv;rw[R1] at ng3 lg3;refine U6 ?_;have tl3:=View.le_trans tl2 le3;have hD3:=hD2.le le3;have hE3:=hE2.le le3;have hG3:=NA hG tl3;refine U ?_;refine Tc.db (R':= [(1,.pt b1),(2,.pt b2),(3,g3.val),(4,.iz 0)]) (L':= [Bb b2 ((aG.val eA elc eB etc).cells.toList) 45,Bb b1 ((RE.val dA dlc dB dtc).cells.toList) 45]) ?_;refine U2 ?_;refine To.YB rfl rfl rfl rfl rfl rfl dE (WB.h (OR _ H3 RE dA dlc dB dtc hD3.bk sD hG3 UG)) (fun v H4 hv=> ?_);obtain⟨le4,g5,rfl,⟨ng5,lg5⟩,mg5⟩:=hv;rw[sT.2];refine U8 ?_;have tl4:=View.le_trans tl3 le4;have hD4:=hD3.le le4;have hE4:=hE3.le le4;have hG4:=NA hG tl4;refine U ?_;refine Tc.db (R':= [(1,.pt b1),(2,.pt b2),(3,g3.val),(4,.iz 0),(5,g5.val),(6,.iz 2),(7,.iz 0)]) (L':= [Bb b2 ((aG.val eA elc eB etc).cells.toList) 45,Bb b1 ((RE.val dA dlc dB dtc).cells.toList) 45]) ?_;refine U2 ?_;refine To.YB rfl rfl rfl rfl rfl rfl dE (WB.h (RU _ H4 aG eA elc eB etc hE4.bk sE hG4 eT)) (fun v H5 hv=> ?_);obtain⟨le5,g8,rfl,⟨ng8,lg8⟩,mg8⟩:=hv;rw[S1] at ng8 lg8;refine U6 ?_;have tl5:=View.le_trans tl4 le5;have hD5:=hD4.le le5;have hE5:=hE4.le le5;have hG5:=NA hG tl5;refine U ?_;refine Tc.db (R':= [(1,.pt b1),(2,.pt b2),(3,g3.val),(4,.iz 0),(5,g5.val),(6,.iz 2),(7,.iz 0),(8,g8.val),(9,.iz 0)]) (L':= [Bb b2 ((aG.val eA elc eB etc).cells.toList) 45,Bb b1 ((RE.val dA dlc dB dtc).cells.toList) 45]) ?_;refine U2 ?_;refine To.YB rfl rfl rfl rfl rfl rfl dE (WB.h (OR _ H5 aG eA elc eB etc hE5.bk sE hG5 eT)) (fun v H6 hv=> ?_);obtain⟨le6,g10,rfl,⟨ng10,lg10⟩,mg10⟩:=hv;rw[tT.2];refine U8 ?_;have tl6:=View.le_trans tl5 le6;have hD6:=hD5.le le6;have hE6:=hE5.le le6;have hG6:=NA hG tl6;refine U ?_;refine Tc.db (R':= [(1,.pt b1),(2,.pt b2),(3,g3.val),(4,.iz 0),(5,g5.val),(6,.iz 2),(7,.iz 0),(8,g8.val),(9,.iz 0),(10,g10.val),(11,.iz 0),(12,.iz 0)]) (L':= [Bb b2 ((aG.val eA elc eB etc).cells.toList) 45,Bb b1 ((RE.val dA dlc dB dtc).cells.toList) 45]) ?_;have fl6:=fun(H':View) (p1 p2:Nat) (h':H6.le H') (k1:H' p1=some (true,.cells ⟨SA [1,1,2]⟩ 3 (0,0))) (k2:H' p2=some (true,.cells ⟨SA [3,9,9]⟩ 3 (0,0)))=> E8 (PU (Mp prog) H' aG eA elc eB etc (hE6.bk.le h') sE (NA hG6 h') (some ⟨p1,0,none⟩) (some ⟨p2,0,none⟩) 3 3 3 3 (FC [1,1,2]) (FC [3,9,9]) (tF [1,1,2] k1) (tF [3,9,9] k2)) FX;refine U2 ?_;refine .e (.bs (zz:=fun p1=> ?_));refine .e (.bs (zz:=fun p2=> ?_));refine .cl (fun H hs=> fl6 H p1 p2 hs.base (hs.get (i:=1) rfl) (hs.get (i:=0) rfl)) ?_;refine U9 ?_;refine Tc.db (R':= [(1,.pt b1),(2,.pt b2),(3,g3.val),(4,.iz 0),(5,g5.val),(6,.iz 2),(7,.iz 0),(8,g8.val),(9,.iz 0),(10,g10.val),(11,.iz 0),(12,.iz 0),(13,bA [50,50]),(14,.iz 2),(15,.iz 0)]) (L':= [Bb b2 ((aG.val eA elc eB etc).cells.toList) 45,Bb b1 ((RE.val dA dlc dB dtc).cells.toList) 45]) ?_;have fl7:=fun(H':View) (p1 p2:Nat) (h':H6.le H') (k1:H' p1=some (true,.cells ⟨SA [1,1,2]⟩ 3 (0,0))) (k2:H' p2=some (true,.cells ⟨SA [5,9,9]⟩ 3 (0,0)))=> E8 (PU (Mp prog) H' aG eA elc eB etc (hE6.bk.le h') sE (NA hG6 h') (some ⟨p1,0,none⟩) (some ⟨p2,0,none⟩) 3 3 3 3 (FC [1,1,2]) (FC [5,9,9]) (tF [1,1,2] k1) (tF [5,9,9] k2)) GX;refine U2 ?_;refine .e (.bs (zz:=fun p1=> ?_));refine .e (.bs (zz:=fun p2=> ?_));refine .cl (fun H hs=> fl7 H p1 p2 hs.base (hs.get (i:=1) rfl) (hs.get (i:=0) rfl)) ?_;refine U9 ?_;refine Tc.db (R':= [(1,.pt b1),(2,.pt b2),(3,g3.val),(4,.iz 0),(5,g5.val),(6,.iz 2),(7,.iz 0),(8,g8.val),(9,.iz 0),(10,g10.val),(11,.iz 0),(12,.iz 0),(13,bA [50,50]),(14,.iz 2),(15,.iz 0),(16,bA [49,49,50]),(17,.iz (-1)),(18,.iz 0)]) (L':= [Bb b2 ((aG.val eA elc eB etc).cells.toList) 45,Bb b1 ((RE.val dA dlc dB dtc).cells.toList) 45]) ?_;refine U2 ?_;refine .cl (fun H hs=> E8 (aCs H RE dA dlc dB dtc dF dfc (hD6.le hs.base) sD (NA hG6 hs.base) UG) (congrArg aCi aBd)) ?_;refine U9 ?_;refine Tc.db (R':= [(1,.pt b1),(2,.pt b2),(3,g3.val),(4,.iz 0),(5,g5.val),(6,.iz 2),(7,.iz 0),(8,g8.val),(9,.iz 0),(10,g10.val),(11,.iz 0),(12,.iz 0),(13,bA [50,50]),(14,.iz 2),(15,.iz 0),(16,bA [49,49,50]),(17,.iz (-1)),(18,.iz 0),(19,.iz 1),(20,.iz 1),(21,.iz 0)]) (L':= [Bb b2 ((aG.val eA elc eB etc).cells.toList) 45,Bb b1 ((RE.val dA dlc dB dtc).cells.toList) 45]) ?_;refine U2 ?_;refine .cl (fun H hs=> E8 (PR _ H RE dA dlc dB dtc (hD6.bk.le hs.base) sD (NA hG6 hs.base) UG) (congrArg RQ aBe)) ?_;refine ND ?_;refine Tc.db (R':= [(1,.pt b1),(2,.pt b2),(3,g3.val),(4,.iz 0),(5,g5.val),(6,.iz 2),(7,.iz 0),(8,g8.val),(9,.iz 0),(10,g10.val),(11,.iz 0),(12,.iz 0),(13,bA [50,50]),(14,.iz 2),(15,.iz 0),(16,bA [49,49,50]),(17,.iz (-1)),(18,.iz 0),(19,.iz 1),(20,.iz 1),(21,.iz 0),(22,.iz 0),(23,.iz 0),(24,.bool false),(25,.iz 0)]) (L':= [Bb b2 ((aG.val eA elc eB etc).cells.toList) 45,Bb b1 ((RE.val dA dlc dB dtc).cells.toList) 45]) ?_;refine Tc.aEP (fun H' R' L'=> ∃oA olc oB otc oF ofc b26,H6.le H'/\JB H' fT oA olc oB otc oF ofc/\pC [(1,.pt b1),(2,.pt b2),(3,g3.val),(4,.iz 0),(5,g5.val),(6,.iz 2),(7,.iz 0),(8,g8.val),(9,.iz 0),(10,g10.val),(11,.iz 0),(12,.iz 0),(13,bA [50,50]),(14,.iz 2),(15,.iz 0),(16,bA [49,49,50]),(17,.iz (-1)),(18,.iz 0),(19,.iz 1),(20,.iz 1),(21,.iz 0),(22,.iz 0),(23,.iz 0),(24,.bool false),(25,.iz 0),(26,.pt b26),(27,.iz 0)] R'/\List.Sublist [Bb b26 ((fT.val oA olc oB otc).cells.toList) 45,Bb b2 ((aG.val eA elc eB etc).cells.toList) 45,Bb b1 ((RE.val dA dlc dB dtc).cells.toList) 45] L') ?_ (fun fin=> ?_)
 rotate_left
 ·refine Tc.dr [7] [] mixed rfl ?_;refine .q 0 rfl (pA.load (E:=en) 1 rfl rfl rfl rfl rfl) ?_;refine .z 1 rfl (pA.tk fun H hs=> wP _ H 2 6) ?_;refine Ta.qX 2 6 kR rfl rfl rfl rfl rfl rfl rfl dE (WB.h (P5 _ H6 RE dA dlc dB dtc dF dfc hD6 sD hG6 UG 1 dE 2 2 6 6 fP.1 fP.2)) (by intro _ _ hh;exact hh.1) sL (.inr sL) (fun v Hk hv=> ?_) (uJ.mk rfl rfl rfl (.al (zz:=fun b26=> ⟨S2.mk sL (.inr sL),?_⟩)))
  ·obtain⟨lek,oA,olc,oB,otc,oF,ofc,rfl,hO⟩:=hv;refine V2 3 ?_;refine .nw 5 ?_;refine .ea 6 rfl (.al (zz:=fun b26=> ⟨S2.bP lek sL (.inr sL),?_⟩));refine .ea 7 rfl (Or.storeT (E:=en) 0 rfl rfl rfl rfl rfl rfl rfl rfl rfl rfl rfl ⟨S2.bP lek sL (.inl kR),?_⟩);refine .nw 8 ?_;refine .dn ?_;exact fin _ _ _ ⟨oA,olc,oB,otc,oF,ofc,b26,lek,hO,⟨rfl,rfl,rfl,rfl,rfl,rfl,rfl,rfl,rfl,rfl,rfl,rfl,rfl,rfl,rfl,rfl,rfl,rfl,rfl,rfl,rfl,rfl,rfl,rfl,rfl,rfl,rfl,trivial⟩,sL⟩
  ·refine Ta.WL 2 kR rfl rfl rfl rfl rfl rfl rfl dE (WB.h (P5 _ H6 RE dA dlc dB dtc dF dfc hD6 sD hG6 UG 1 dE 2 2 6 6 fP.1 fP.2)) (by intro _ _ hh;exact hh.1) sL (.inr sL) (fun v Hk hv=> ?_);obtain⟨lek,oA,olc,oB,otc,oF,ofc,rfl,hO⟩:=hv;refine V2 3 ?_;refine .nw 5 ?_;refine .ea 7 rfl (Or.storeT (E:=en) 0 rfl rfl rfl rfl rfl rfl rfl rfl rfl rfl rfl ⟨S2.bP lek sL (.inl kR),?_⟩);refine .nw 8 ?_;refine .dn ?_;exact fin _ _ _ ⟨oA,olc,oB,otc,oF,ofc,b26,lek,hO,⟨rfl,rfl,rfl,rfl,rfl,rfl,rfl,rfl,rfl,rfl,rfl,rfl,rfl,rfl,rfl,rfl,rfl,rfl,rfl,rfl,rfl,rfl,rfl,rfl,rfl,rfl,rfl,trivial⟩,sL⟩
 rintro H7 R' L' ⟨oA,olc,oB,otc,oF,ofc,b26,le7,hO7,hR,hL⟩;have tl7:=View.le_trans tl6 le7;have hD7:=hD6.le le7;have hE7:=hE6.le le7;have hG7:=NA hG tl7;refine Tc.yC (R':= [(1,.pt b1),(2,.pt b2),(3,g3.val),(4,.iz 0),(5,g5.val),(6,.iz 2),(7,.iz 0),(8,g8.val),(9,.iz 0),(10,g10.val),(11,.iz 0),(12,.iz 0),(13,bA [50,50]),(14,.iz 2),(15,.iz 0),(16,bA [49,49,50]),(17,.iz (-1)),(18,.iz 0),(19,.iz 1),(20,.iz 1),(21,.iz 0),(22,.iz 0),(23,.iz 0),(24,.bool false),(25,.iz 0),(26,.pt b26),(27,.iz 0)]) (L':= [Bb b26 ((fT.val oA olc oB otc).cells.toList) 45,Bb b2 ((aG.val eA elc eB etc).cells.toList) 45,Bb b1 ((RE.val dA dlc dB dtc).cells.toList) 45]) ?_ hR hL;refine U3 ?_;refine .cl (fun H hs=> E8 (PR _ H fT oA olc oB otc (hO7.bk.le hs.base) sO (NA hG7 hs.base) aCz) (congrArg RQ aBf)) ?_;refine ND ?_;refine Tc.db (R':= [(1,.pt b1),(2,.pt b2),(3,g3.val),(4,.iz 0),(5,g5.val),(6,.iz 2),(7,.iz 0),(8,g8.val),(9,.iz 0),(10,g10.val),(11,.iz 0),(12,.iz 0),(13,bA [50,50]),(14,.iz 2),(15,.iz 0),(16,bA [49,49,50]),(17,.iz (-1)),(18,.iz 0),(19,.iz 1),(20,.iz 1),(21,.iz 0),(22,.iz 0),(23,.iz 0),(24,.bool false),(25,.iz 0),(26,.pt b26),(27,.iz 0),(28,.iz 2),(29,.iz 0),(30,.bool true),(31,.iz 0)]) (L':= [Bb b26 ((fT.val oA olc oB otc).cells.toList) 45,Bb b2 ((aG.val eA elc eB etc).cells.toList) 45,Bb b1 ((RE.val dA dlc dB dtc).cells.toList) 45]) ?_;have e2:RE.oG 1 (RE.nf 1)=2:=RP.2;refine U2 ?_;refine To.YB rfl rfl rfl rfl rfl rfl dE (WB.h (aAT _ H7 RE dA dlc dB dtc hD7.bk sD hG7 UG 1 dE)) (fun v H8 hv=> ?_);obtain⟨le8,g32,rfl,⟨ng32,lg32⟩,mg32⟩:=hv;rw[e2];refine U8 ?_;have tl8:=View.le_trans tl7 le8;have hD8:=hD7.le le8;have hE8:=hE7.le le8;have hO8:=hO7.le le8;have hG8:=NA hG tl8;refine U ?_;refine Tc.db (R':= [(1,.pt b1),(2,.pt b2),(3,g3.val),(4,.iz 0),(5,g5.val),(6,.iz 2),(7,.iz 0),(8,g8.val),(9,.iz 0),(10,g10.val),(11,.iz 0),(12,.iz 0),(13,bA [50,50]),(14,.iz 2),(15,.iz 0),(16,bA [49,49,50]),(17,.iz (-1)),(18,.iz 0),(19,.iz 1),(20,.iz 1),(21,.iz 0),(22,.iz 0),(23,.iz 0),(24,.bool false),(25,.iz 0),(26,.pt b26),(27,.iz 0),(28,.iz 2),(29,.iz 0),(30,.bool true),(31,.iz 0),(32,g32.val),(33,.iz 2),(34,.iz 0)]) (L':= [Bb b26 ((fT.val oA olc oB otc).cells.toList) 45,Bb b2 ((aG.val eA elc eB etc).cells.toList) 45,Bb b1 ((RE.val dA dlc dB dtc).cells.toList) 45]) ?_;refine U2 ?_;refine To.YB rfl rfl rfl rfl rfl rfl dE (WB.h (aAO _ H8 RE dA dlc dB dtc hD8.bk sD hG8 UG 0 dE)) (fun v H9 hv=> ?_);obtain⟨le9,g35,sm,rfl,⟨st1,st2⟩,⟨ng35,lg35⟩,mg35⟩:=hv;have e35:AB sm sm.length= [1,2]:=by rw[st1.len,C8 rfl st1 st2];exact x7
 rw[e35] at ng35 lg35;refine U6 ?_;have tl9:=View.le_trans tl8 le9;have hD9:=hD8.le le9;have hE9:=hE8.le le9;have hO9:=hO8.le le9;have hG9:=NA hG tl9;refine U ?_;refine Tc.db (R':= [(1,.pt b1),(2,.pt b2),(3,g3.val),(4,.iz 0),(5,g5.val),(6,.iz 2),(7,.iz 0),(8,g8.val),(9,.iz 0),(10,g10.val),(11,.iz 0),(12,.iz 0),(13,bA [50,50]),(14,.iz 2),(15,.iz 0),(16,bA [49,49,50]),(17,.iz (-1)),(18,.iz 0),(19,.iz 1),(20,.iz 1),(21,.iz 0),(22,.iz 0),(23,.iz 0),(24,.bool false),(25,.iz 0),(26,.pt b26),(27,.iz 0),(28,.iz 2),(29,.iz 0),(30,.bool true),(31,.iz 0),(32,g32.val),(33,.iz 2),(34,.iz 0),(35,g35.val),(36,.iz 0)]) (L':= [Bb b26 ((fT.val oA olc oB otc).cells.toList) 45,Bb b2 ((aG.val eA elc eB etc).cells.toList) 45,Bb b1 ((RE.val dA dlc dB dtc).cells.toList) 45]) ?_;refine U2 ?_;refine .cl (fun H hs=> E8 (j6 _ H RE dA dlc dB dtc (hD9.bk.le hs.base) sD (NA hG9 hs.base) [51] dE) v7) ?_;refine U7 ?_;refine Tc.db (R':= [(1,.pt b1),(2,.pt b2),(3,g3.val),(4,.iz 0),(5,g5.val),(6,.iz 2),(7,.iz 0),(8,g8.val),(9,.iz 0),(10,g10.val),(11,.iz 0),(12,.iz 0),(13,bA [50,50]),(14,.iz 2),(15,.iz 0),(16,bA [49,49,50]),(17,.iz (-1)),(18,.iz 0),(19,.iz 1),(20,.iz 1),(21,.iz 0),(22,.iz 0),(23,.iz 0),(24,.bool false),(25,.iz 0),(26,.pt b26),(27,.iz 0),(28,.iz 2),(29,.iz 0),(30,.bool true),(31,.iz 0),(32,g32.val),(33,.iz 2),(34,.iz 0),(35,g35.val),(36,.iz 0),(37,.bool false),(38,.iz 0)]) (L':= [Bb b26 ((fT.val oA olc oB otc).cells.toList) 45,Bb b2 ((aG.val eA elc eB etc).cells.toList) 45,Bb b1 ((RE.val dA dlc dB dtc).cells.toList) 45]) ?_;refine U2 ?_;refine .cl (fun H hs=> E8 (j6 _ H RE dA dlc dB dtc (hD9.bk.le hs.base) sD (NA hG9 hs.base) [53] dE) w7) ?_;refine U7 ?_;refine Tc.db (R':= [(1,.pt b1),(2,.pt b2),(3,g3.val),(4,.iz 0),(5,g5.val),(6,.iz 2),(7,.iz 0),(8,g8.val),(9,.iz 0),(10,g10.val),(11,.iz 0),(12,.iz 0),(13,bA [50,50]),(14,.iz 2),(15,.iz 0),(16,bA [49,49,50]),(17,.iz (-1)),(18,.iz 0),(19,.iz 1),(20,.iz 1),(21,.iz 0),(22,.iz 0),(23,.iz 0),(24,.bool false),(25,.iz 0),(26,.pt b26),(27,.iz 0),(28,.iz 2),(29,.iz 0),(30,.bool true),(31,.iz 0),(32,g32.val),(33,.iz 2),(34,.iz 0),(35,g35.val),(36,.iz 0),(37,.bool false),(38,.iz 0),(39,.bool true),(40,.iz 0)]) (L':= [Bb b26 ((fT.val oA olc oB otc).cells.toList) 45,Bb b2 ((aG.val eA elc eB etc).cells.toList) 45,Bb b1 ((RE.val dA dlc dB dtc).cells.toList) 45]) ?_;refine U2 ?_;refine .cl (fun H hs=> E8 (aAS _ H RE dA dlc dB dtc (hD9.bk.le hs.base) sD (NA hG9 hs.base) 1 true) y7) ?_;refine U9 ?_;refine Tc.db (R':= [(1,.pt b1),(2,.pt b2),(3,g3.val),(4,.iz 0),(5,g5.val),(6,.iz 2),(7,.iz 0),(8,g8.val),(9,.iz 0),(10,g10.val),(11,.iz 0),(12,.iz 0),(13,bA [50,50]),(14,.iz 2),(15,.iz 0),(16,bA [49,49,50]),(17,.iz (-1)),(18,.iz 0),(19,.iz 1),(20,.iz 1),(21,.iz 0),(22,.iz 0),(23,.iz 0),(24,.bool false),(25,.iz 0),(26,.pt b26),(27,.iz 0),(28,.iz 2),(29,.iz 0),(30,.bool true),(31,.iz 0),(32,g32.val),(33,.iz 2),(34,.iz 0),(35,g35.val),(36,.iz 0),(37,.bool false),(38,.iz 0),(39,.bool true),(40,.iz 0),(41,bA [48]),(42,.bool true),(43,.iz 0)]) (L':= [Bb b26 ((fT.val oA olc oB otc).cells.toList) 45,Bb b2 ((aG.val eA elc eB etc).cells.toList) 45,Bb b1 ((RE.val dA dlc dB dtc).cells.toList) 45]) ?_;refine U ?_;refine .cl (fun H hs=> E8 (a6 _ H [49,50,48] dE) T1) ?_;refine U7 ?_;refine Tc.db (R':= [(1,.pt b1),(2,.pt b2),(3,g3.val),(4,.iz 0),(5,g5.val),(6,.iz 2),(7,.iz 0),(8,g8.val),(9,.iz 0),(10,g10.val),(11,.iz 0),(12,.iz 0),(13,bA [50,50]),(14,.iz 2),(15,.iz 0),(16,bA [49,49,50]),(17,.iz (-1)),(18,.iz 0),(19,.iz 1),(20,.iz 1),(21,.iz 0),(22,.iz 0),(23,.iz 0),(24,.bool false),(25,.iz 0),(26,.pt b26),(27,.iz 0),(28,.iz 2),(29,.iz 0),(30,.bool true),(31,.iz 0),(32,g32.val),(33,.iz 2),(34,.iz 0),(35,g35.val),(36,.iz 0),(37,.bool false),(38,.iz 0),(39,.bool true),(40,.iz 0),(41,bA [48]),(42,.bool true),(43,.iz 0),(44,.iz 13),(45,.iz 0)]) (L':= [Bb b26 ((fT.val oA olc oB otc).cells.toList) 45,Bb b2 ((aG.val eA elc eB etc).cells.toList) 45,Bb b1 ((RE.val dA dlc dB dtc).cells.toList) 45]) ?_;refine U ?_;refine .e (.bs (zz:=fun bw=> ?_));refine To.aDw (L₁:= [Bb b26 ((fT.val oA olc oB otc).cells.toList) 45,Bb b2 ((aG.val eA elc eB etc).cells.toList) 45,Bb b1 ((RE.val dA dlc dB dtc).cells.toList) 45]++[Bb bw (SA [5,3,1]) 3]) (by exact List.perm_append_comm) ?_;refine To.lift (L₂:= [Bb b26 ((fT.val oA olc oB otc).cells.toList) 45,Bb b2 ((aG.val eA elc eB etc).cells.toList) 45,Bb b1 ((RE.val dA dlc dB dtc).cells.toList) 45]) (L₁:= [Bb bw (SA [5,3,1]) 3]) rfl (fun H10 hw=> ?_);have le10:=hw.base;have tl10:=View.le_trans tl9 le10;have aGO:=hD9.le le10;have aGQ:=hE9.le le10;have aGS:=hO9.le le10;have aHH:=NA hG tl10;obtain⟨xc1,xc2,xc3,xc4,xc5⟩:=u7;have al5:(iJ (FC [5,3,1]) 3 2 2).al=0:=by unfold UH.al;rw[xc4];rfl
 refine To.YB rfl rfl rfl rfl rfl rfl dE (WB.h (cX _ H10 (some ⟨bw,0,none⟩) 3 3 (FC [5,3,1]) (tF [5,3,1] (hw.get (i:=0) rfl)) 2 2 dE xc2 dE dE)) (fun v H11 hv=> ?_);obtain⟨le11,ca,cn,cc,rfl,cn1,cs1⟩:=hv;rw[xc5] at cn1 cs1;rw[xc3,al5];refine U8 ?_;have tl11:=View.le_trans tl10 le11;have aHF:=aGO.le le11;have aHG:=aGQ.le le11;have aHJ:=aGS.le le11;have aHI:=NA hG tl11;refine U2 ?_;refine Tc.yC (R':= [(1,.pt b1),(2,.pt b2),(3,g3.val),(4,.iz 0),(5,g5.val),(6,.iz 2),(7,.iz 0),(8,g8.val),(9,.iz 0),(10,g10.val),(11,.iz 0),(12,.iz 0),(13,bA [50,50]),(14,.iz 2),(15,.iz 0),(16,bA [49,49,50]),(17,.iz (-1)),(18,.iz 0),(19,.iz 1),(20,.iz 1),(21,.iz 0),(22,.iz 0),(23,.iz 0),(24,.bool false),(25,.iz 0),(26,.pt b26),(27,.iz 0),(28,.iz 2),(29,.iz 0),(30,.bool true),(31,.iz 0),(32,g32.val),(33,.iz 2),(34,.iz 0),(35,g35.val),(36,.iz 0),(37,.bool false),(38,.iz 0),(39,.bool true),(40,.iz 0),(41,bA [48]),(42,.bool true),(43,.iz 0),(44,.iz 13),(45,.iz 0),(46,.slice ca cn cc),(47,.iz 18),(48,.iz 0)]) (L':= [Bb b26 ((fT.val oA olc oB otc).cells.toList) 45,Bb b2 ((aG.val eA elc eB etc).cells.toList) 45,Bb b1 ((RE.val dA dlc dB dtc).cells.toList) 45]) ?_ ⟨rfl,rfl,rfl,rfl,rfl,rfl,rfl,rfl,rfl,rfl,rfl,rfl,rfl,rfl,rfl,rfl,rfl,rfl,rfl,rfl,rfl,rfl,rfl,rfl,rfl,rfl,rfl,rfl,rfl,rfl,rfl,rfl,rfl,rfl,rfl,rfl,rfl,rfl,rfl,rfl,rfl,rfl,rfl,rfl,rfl,rfl,rfl,rfl,trivial⟩ sL;(iterate 72 refine U ?_);refine Tc.db (R':= [(1,.pt b1),(2,.pt b2),(3,g3.val),(4,.iz 0),(5,g5.val),(6,.iz 2),(7,.iz 0),(8,g8.val),(9,.iz 0),(10,g10.val),(11,.iz 0),(12,.iz 0),(13,bA [50,50]),(14,.iz 2),(15,.iz 0),(16,bA [49,49,50]),(17,.iz (-1)),(18,.iz 0),(19,.iz 1),(20,.iz 1),(21,.iz 0),(22,.iz 0),(23,.iz 0),(24,.bool false),(25,.iz 0),(26,.pt b26),(27,.iz 0),(28,.iz 2),(29,.iz 0),(30,.bool true),(31,.iz 0),(32,g32.val),(33,.iz 2),(34,.iz 0),(35,g35.val),(36,.iz 0),(37,.bool false),(38,.iz 0),(39,.bool true),(40,.iz 0),(41,bA [48]),(42,.bool true),(43,.iz 0),(44,.iz 13),(45,.iz 0),(46,.slice ca cn cc),(47,.iz 18),(48,.iz 0)]) (L':= [Bb b26 ((fT.val oA olc oB otc).cells.toList) 45,Bb b2 ((aG.val eA elc eB etc).cells.toList) 45,Bb b1 ((RE.val dA dlc dB dtc).cells.toList) 45]) ?_;have up:∀ {A B C:View},A.le B->B.le C->A.le C:=View.le_trans;have w3:=fun(H':View) (h':H11.le H') (bs:Nat) (k1:H' bs=some (true,.cells ⟨zA [[49,50],[49,51]]⟩ 9 (0,0)))=> JJ (Mp prog) H' (g3.blk.map fun b=> ⟨b,0,none⟩) (some ⟨bs,0,none⟩) g3.n ([[49,50],[49,51]]:List By).length g3.cap ([[49,50],[49,51]]:List By).length _ _ (HK (g0:=g3) g3 (fun x hx=> h' _ _ ((up (up (up (up (up (up (up le4 le5) le6) le7) le8) le9) le10) le11) _ _ (mg3 x hx).1)) lg3 rfl rfl) (ZQ [[49,50],[49,51]] k1) (by rw[ng3];decide) dE true (FL [[49,50],[49,51]] ng3);have w8:=fun(H':View) (h':H11.le H') (bs:Nat) (k1:H' bs=some (true,.cells ⟨zA [[49,49,50],[50,50]]⟩ 9 (0,0)))=> JJ (Mp prog) H' (g8.blk.map fun b=> ⟨b,0,none⟩) (some ⟨bs,0,none⟩) g8.n ([[49,49,50],[50,50]]:List By).length g8.cap ([[49,49,50],[50,50]]:List By).length _ _ (HK (g0:=g8) g8 (fun x hx=> h' _ _ ((up (up (up (up (up le6 le7) le8) le9) le10) le11) _ _ (mg8 x hx).1)) lg8 rfl rfl) (ZQ [[49,49,50],[50,50]] k1) (by rw[ng8];decide) dE true (FL [[49,49,50],[50,50]] ng8);have c5:=fun(H':View) (h':H11.le H') (bs:Nat) (k1:H' bs=some (true,.cells ⟨SA [0,0,2]⟩ 110 (0,0)))=> LP (Mp prog) H' (g5.blk.map fun b=> ⟨b,0,none⟩) (some ⟨bs,0,none⟩) g5.n ([0,0,2]:List Int).length g5.cap ([0,0,2]:List Int).length (fun i=> RE.MB (i:Nat)) _ (by rw[ng5];exact wZ g5 (fun x hx=> h' _ _ ((up (up (up (up (up (up le5 le6) le7) le8) le9) le10) le11) _ _ (mg5 x hx).1)) lg5 ng5) (tF [0,0,2] k1) (by rw[ng5];decide) dE true (by rw[ng5];rw[decide_eq_true (by rfl)];show(true&&SG _ 3)=true;rw[(kD _).2 (three (decide_eq_true sT.1.1) (decide_eq_true sT.1.2.1) (decide_eq_true sT.1.2.2))];rfl);have c10:=fun(H':View) (h':H11.le H') (bs:Nat) (k1:H' bs=some (true,.cells ⟨SA [2,2,0]⟩ 110 (0,0)))=> LP (Mp prog) H' (g10.blk.map fun b=> ⟨b,0,none⟩) (some ⟨bs,0,none⟩) g10.n ([2,2,0]:List Int).length g10.cap ([2,2,0]:List Int).length (fun i=> aG.MB (i:Nat)) _ (by rw[ng10];exact wZ g10 (fun x hx=> h' _ _ ((up (up (up (up le7 le8) le9) le10) le11) _ _ (mg10 x hx).1)) lg10 ng10) (tF [2,2,0] k1) (by rw[ng10];decide) dE true (by rw[ng10];rw[decide_eq_true (by rfl)];show(true&&SG _ 3)=true;rw[(kD _).2 (three (decide_eq_true tT.1.1) (decide_eq_true tT.1.2.1) (decide_eq_true tT.1.2.2))];rfl);refine U2 ?_;refine .e (.bs (zz:=fun x1=> ?_));refine .cl (fun H hs=> w3 H hs.base x1 (hs.get (i:=0) rfl)) ?_;refine U3 ?_;refine .e (.bs (zz:=fun x2=> ?_));refine .cl (fun H hs=> c5 H hs.base x2 (hs.get (i:=0) rfl)) ?_;refine U8 ?_;refine .e (.bs (zz:=fun x3=> ?_));refine .cl (fun H hs=> w8 H hs.base x3 (hs.get (i:=0) rfl)) ?_;refine U4 ?_;refine .e (.bs (zz:=fun x4=> ?_));refine .cl (fun H hs=> c10 H hs.base x4 (hs.get (i:=0) rfl)) ?_;refine U37 ?_;refine Tc.db (R':= [(1,.pt b1),(2,.pt b2),(3,g3.val),(4,.iz 0),(5,g5.val),(6,.iz 2),(7,.iz 0),(8,g8.val),(9,.iz 0),(10,g10.val),(11,.iz 0),(12,.iz 0),(13,bA [50,50]),(14,.iz 2),(15,.iz 0),(16,bA [49,49,50]),(17,.iz (-1)),(18,.iz 0),(19,.iz 1),(20,.iz 1),(21,.iz 0),(22,.iz 0),(23,.iz 0),(24,.bool false),(25,.iz 0),(26,.pt b26),(27,.iz 0),(28,.iz 2),(29,.iz 0),(30,.bool true),(31,.iz 0),(32,g32.val),(33,.iz 2),(34,.iz 0),(35,g35.val),(36,.iz 0),(37,.bool false),(38,.iz 0),(39,.bool true),(40,.iz 0),(41,bA [48]),(42,.bool true),(43,.iz 0),(44,.iz 13),(45,.iz 0),(46,.slice ca cn cc),(47,.iz 18),(48,.iz 0)]) (L':= [Bb b26 ((fT.val oA olc oB otc).cells.toList) 45,Bb b2 ((aG.val eA elc eB etc).cells.toList) 45,Bb b1 ((RE.val dA dlc dB dtc).cells.toList) 45]) ?_;have c32:=fun(H':View) (h':H11.le H') (bs:Nat) (k1:H' bs=some (true,.cells ⟨SA [2,0]⟩ 110 (0,0)))=> LP (Mp prog) H' (g32.blk.map fun b=> ⟨b,0,none⟩) (some ⟨bs,0,none⟩) g32.n ([2,0]:List Int).length g32.cap ([2,0]:List Int).length (RE.GG 1) _ (by rw[ng32];exact wZ g32 (fun x hx=> h' _ _ ((up (up le9 le10) le11) _ _ (mg32 x hx).1)) lg32 ng32) (tF [2,0] k1) (by rw[ng32];decide) dE true (by rw[ng32];rw[decide_eq_true (by rfl)];show(true&&SG _ 2)=true;rw[(kD _).2 (two (decide_eq_true RP.1.1) (decide_eq_true RP.1.2))];rfl);have n35:=fun(H':View) (h':H11.le H') (bs:Nat) (k1:H' bs=some (true,.cells ⟨SA [1,2]⟩ 3 (0,0)))=> VU (Mp prog) H' (g35.blk.map fun b=> ⟨b,0,none⟩) (some ⟨bs,0,none⟩) 2 g35.cap 2 (FC [1,2]) (FC [1,2]) (wZ g35 (fun x hx=> h' _ _ ((up le10 le11) _ _ (mg35 x hx).1)) (lg35.trans (S6 _)) ng35) (tF [1,2] k1) dE (fun _ _=> rfl);have w46:=fun(H':View) (h':H11.le H') (bs:Nat) (k1:H' bs=some (true,.cells ⟨zA [[49],[50,49],[50,50]]⟩ 9 (0,0)))=> JJ (Mp prog) H' ca (some ⟨bs,0,none⟩) cn ([[49],[50,49],[50,50]]:List By).length cc ([[49],[50,49],[50,50]]:List By).length _ _ (aAe (cs1.mono (View.le_trans (View.le_refl H11) h')) cn1) (ZQ [[49],[50,49],[50,50]] k1) (by rw[cn1];decide) dE true (FL [[49],[50,49],[50,50]] cn1);rw[show g35.val=.slice (g35.blk.map fun b=> ⟨b,0,none⟩) 2 g35.cap by unfold Gl.val;rw[ng35];rfl];refine uH ?_;refine .e (.bs (zz:=fun y1=> ?_));refine .cl (fun H hs=> c32 H hs.base y1 (hs.get (i:=0) rfl)) ?_;refine U7 ?_;refine .e (.bs (zz:=fun y2=> ?_));refine .cl (fun H hs=> n35 H hs.base y2 (hs.get (i:=0) rfl)) ?_;refine fL ?_;refine .e (.bs (zz:=fun y3=> ?_));refine .cl (fun H hs=> w46 H hs.base y3 (hs.get (i:=0) rfl)) ?_;refine U7 ?_;refine .rt hK func15 results15 [_] ?_;exact fun H' hs=> ⟨View.le_trans tl11 hs.base,rfl⟩
set_option maxHeartbeats 8000000
abbrev Ex:=Nat×Nat×List Value
def exV(n:Nat)(x:Ex):Value:=.slice (some ⟨x.1,0,none⟩) n x.2.1
def exB(e:TypeId)(l:List Value)(x:Ex):Bl:= [Bb x.1 (l++x.2.2) e]
theorem E7 {e:TypeId}{sz:Nat}(g:Gl e sz)(h:0<g.n):∃x:Ex,g.val=exV g.n x/\g.bl=exB e g.l x:=by
 obtain⟨gb,gn,gc,gl,gj,h1,h2,h3,h4⟩:=g;cases gb with
 | none=> have:=h4 rfl;simp only at h;omega
 | some b=> exact⟨(b,gc,gj),rfl,rfl⟩
section
variable(M:Md prog)(H:View)
end
section
variable(H:View)
end
end Go.Proofs.YtldmfjcgjdchcaaGreatDoor
