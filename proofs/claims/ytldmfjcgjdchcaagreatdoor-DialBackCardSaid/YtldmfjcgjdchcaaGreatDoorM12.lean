/-
 Texts of the proofs over baudot/dial.
-/
import Derived.Test.YtldmfjcgjdchcaaGreatDoorM11
namespace Go.RL
open Go.Conc
section
variable {P:Program}{M:Md P}{md:Region.Mode}{ops:Array Oper}{S:Array Bool->View->Prop}{Fin:Array Value->View->Prop}{z:Nat}
theorem FY {i j:Nat}{listed:Array Bool}(h:waits md ops i j=true)(hi:i∈Region.ready md ops listed)(hj:j∈Region.ready md ops listed):False:=by
 unfold waits at h;obtain⟨_,o,ho,OA⟩:=mem_ready.1 hj;rw[ho] at h;simp only at h;rw[Array.any_eq_true'] at h;obtain⟨e,he,hb⟩:=h;simp only[Bool.and_eq_true,beq_iff_eq] at hb;have h1:=OA e he hb.1;have h0:=(mem_ready.1 hi).1;rw[hb.2] at h1;rcases Nat.lt_or_ge i listed.size with h'|h'
 ·simp[h'] at h0 h1;rw[h0] at h1;cases h1
 ·simp[Array.getElem?_eq_none h'] at h1
def eL(M:Md P)(md:Region.Mode)(ops:Array Oper)(S:Array Bool->View->Prop)(z:Nat)(Fin:Array Value->View->Prop):Nat->Array Bool->Array Value->View->Prop
 | 0,listed,tmps,H=> ∀H₂,H.le H₂->S listed H₂->Region.ready md ops listed= [z]/\Fin tmps H₂
 | fuel+1,listed,tmps,H=> ∀H₂,H.le H₂->S listed H₂-> 
  (Region.ready md ops listed≠ [])/\
  ∀i∈Region.ready md ops listed,∀o,ops[i]? =some o->bK M ops o tmps H₂ fun tmps' H'=> S (listed.setIfInBounds i true) H'/\eL M md ops S z Fin fuel (listed.setIfInBounds i true) tmps' H'
theorem eL.mono {fuel:Nat}{listed:Array Bool}{tmps:Array Value}{H H':View}(h:eL M md ops S z Fin fuel listed tmps H)(k:H.le H'):eL M md ops S z Fin fuel listed tmps H':=by
 cases fuel with
 | zero=> exact fun H₂ h2 hS=> h H₂ (View.le_trans k h2) hS
 | succ fuel=> exact fun H₂ h2 hS=> h H₂ (View.le_trans k h2) hS
theorem HW(fuel t:Nat)(listed:Array Bool):Region.linearise.go md ops (fuel+1) t listed []=match (Region.ready md ops listed)[t%(Region.ready md ops listed).length]? with
  | some i=> i::Region.linearise.go md ops fuel (t/(Region.ready md ops listed).length) (listed.setIfInBounds i true) []
  | none=> []:=by
 rw[Region.linearise.go];show(match (Region.ready md ops listed)[t%(Region.ready md ops listed).length]? with
  | some i=> Region.linearise.go md ops fuel (t/(Region.ready md ops listed).length) (listed.setIfInBounds i true) [i]
  | none=> List.reverse [])=_
 split
 ·rename_i i _
  rw[linearise_go_acc];rfl
 ·rfl
theorem eL.sound {St:View->Goroutine->Prop}{b:FB}{ds:List Deferred}{k:List Item}{cs:List Frame}:∀(fuel t:Nat) (listed:Array Bool) (tmps:Array Value) (H:View),S listed H-> 
  eL M md ops S z (fun tmps H=> T M St H (G (b.at tmps ds (.inRegion ops [z]::k)) cs)) fuel listed tmps H->T M St H (G (b.at tmps ds (.inRegion ops (Region.linearise.go md ops (fuel+1) t listed [])::k)) cs):=by
 intro fuel;induction fuel with
 | zero=>
  intro t listed tmps H hS h;obtain⟨h1,h2⟩:=h H (View.le_refl H) hS;rw[HW,h1];simp only[List.length_singleton,Nat.mod_one,List.getElem?_cons_zero,Region.linearise.go,List.reverse_nil];exact h2
 | succ fuel ih=>
  intro t listed tmps H hS h;have h:=h H (View.le_refl H) hS;rw[HW];split
  ·rename_i i hi
   have JD:=List.mem_of_getElem? hi;obtain⟨_,o,ho,_⟩:=mem_ready.1 JD;exact bK.sound ho ((h.2 i JD o ho).mono fun t' H' hk=> ih _ _ _ _ hk.1 hk.2)
  ·rename_i hi
   exfalso
   cases hr:Region.ready md ops listed with
   | nil=> exact h.1 hr
   | cons a l=>
    rw[hr] at hi;have:t%(a::l).length<(a::l).length:=Nat.mod_lt _ (by simp);rw[List.getElem?_eq_getElem this] at hi;cases hi
theorem eL.first {i:Nat}{oi:Oper}{v:Value}(hi:ops[i]? =some oi)(ZE:∀(j:Nat) (o:Oper) cs b,ops[j]? =some o->o.op≠ .select cs b)(S6:BA oi.op=false)(hz:waits md ops i z=true)(lJ:∀listed H,S (listed.setIfInBounds i true) H<->S listed H):
  ∀ (fuel:Nat) (listed:Array Bool) (tmps:Array Value) (H:View),
   (∀j oj,ops[j]? =some oj->j≠i->listed.getD j true=false->(∀e∈oj.after,Region.binds md e=true->e.on≠i)->oi.apart ops oj=true)-> 
   QB md ops listed=true->i∈Region.ready md ops listed->UF M md ops S i oi v tmps-> 
   eL M md ops S z Fin fuel (listed.setIfInBounds i true) (OB tmps oi.dst v) H->eL M md ops S z Fin (fuel+1) listed tmps H:=by
 have own:∀(fuel:Nat) (listed:Array Bool) (tmps:Array Value) (H:View),QB md ops listed=true->i∈Region.ready md ops listed->UF M md ops S i oi v tmps->S listed H->eL M md ops S z Fin fuel (listed.setIfInBounds i true) (OB tmps oi.dst v) H-> 
   bK M ops oi tmps H fun t H'=> S (listed.setIfInBounds i true) H'/\eL M md ops S z Fin fuel (listed.setIfInBounds i true) t H':=by
  intro fuel listed tmps H iB cT hy hS h;refine⟨S6,?_⟩;rcases hy with ⟨hw,hv⟩|⟨hw,rfl⟩
  ·rw[if_pos hw];refine(hv listed iB (mem_ready.1 cT).1 H hS).run ?_;rintro u H' ⟨rfl,hle,kU⟩;exact⟨(lJ listed H').2 kU,h.mono hle⟩
  ·rw[if_neg (by simp[hw])];exact⟨(lJ listed H).2 hS,h⟩
 intro fuel;induction fuel with
 | zero=>
  intro listed tmps H _ iB hr hy h H₂ h2 hS;refine⟨fun e=> (by rw[e] at hr;cases hr),fun j hj o ho=> ?_⟩;by_cases kM:j=i
  ·subst kM;rw[hi] at ho;cases ho
   exact own 0 listed tmps H₂ iB hr hy hS (h.mono h2)
  ·have:=ready_mono hj kM;rw[(h H₂ h2 ((lJ listed H₂).2 hS)).1,List.mem_singleton] at this;subst this;exact(FY hz hr hj).elim
 | succ fuel ih=>
  intro listed tmps H RS iB hr hy h H₂ h2 hS;refine⟨fun e=> (by rw[e] at hr;cases hr),fun j hj oj WX=> ?_⟩;by_cases kM:j=i
  ·subst kM;rw[hi] at WX;cases WX
   exact own (fuel+1) listed tmps H₂ iB hr hy hS (h.mono h2)
  ·have h1:=(h H₂ h2 ((lJ listed H₂).2 hS)).2 j (ready_mono hj kM) oj WX;have aAk:=gJ iB hj;obtain⟨L0,oj',P0,OA⟩:=mem_ready.1 hj;rw[WX] at P0;cases P0
   have aAo:∀e∈oj.after,Region.binds md e=true->e.on≠i:=fun e he hb heq=> by
    have h1:=OA e he hb;have h0:=(mem_ready.1 hr).1;rw[heq] at h1;rcases Nat.lt_or_ge i listed.size with h'|h'
    ·simp[h'] at h0 h1;rw[h0] at h1;cases h1
    ·simp[Array.getElem?_eq_none h'] at h1
   have LS:=RS j oj WX kM L0 aAo;have VU:∀k ok,ops[k]? =some ok->k≠i->(listed.setIfInBounds j true).getD k true=false-> 
     (∀e∈ok.after,Region.binds md e=true->e.on≠i)->oi.apart ops ok=true:=fun k ok hk hki Y0 dC=> by
    refine RS k ok hk hki ?_ dC;by_cases hjk:j=k
    ·subst hjk;exact L0
    ·rw[getD_set_ne true hjk] at Y0;exact Y0
   refine(h1.back LS (fun cs b=> ZE j oj cs b WX)).mono ?_;rintro t H' ⟨⟨u,rfl⟩,kU,h3⟩;rw[Array.setIfInBounds_comm _ _ (Ne.symm kM)] at kU;refine⟨(lJ _ H').1 kU,ih (listed.setIfInBounds j true) _ H' VU aAk (ready_mono hr (Ne.symm kM)) (hy.put (fun cs b=> ZE i oi cs b hi) (Oper.apart_spec LS).2.2) ?_⟩;rw[Array.setIfInBounds_comm _ _ kM];exact h3
end
section
variable {P:Program}{M:Md P}{St:View->Goroutine->Prop}{n:Nat}{b:FB}{H₀:View}{cs:List Frame}{R:Rg}{L L':Bl}{ds:List Deferred}{k:List Item}{S:Array Bool->View->Prop}{md:Region.Mode}{ops:Array Oper}{z:Nat}
def Tl(M:Md P)(St:View->Goroutine->Prop)(n:Nat)(b:FB)(H₀:View)(cs:List Frame)(S:Array Bool->View->Prop)(md:Region.Mode)(ops:Array Oper)(z:Nat)(fuel:Nat)(listed:Array Bool)(R:Rg)(L:Bl)(ds:List Deferred)(k:List Item):Prop:=
 ∀H tmps,iA H₀ L H->RA n R tmps->S listed H->eL M md ops S z (fun tmps H=> T M St H (G (b.at tmps ds (.inRegion ops [z]::k)) cs)) fuel listed tmps H
theorem Tl.done {listed:Array Bool}{o:Oper}(hr:Region.ready md ops listed= [z])(ho:ops[z]? =some o)(h:To M St n b H₀ cs (ops.toList.map (fun o:Oper=> o.dst)) R L ds [o] k):Tl M St n b H₀ cs S md ops z 0 listed R L ds k:=fun H tmps hs rE _ H₂ h2 _=>
 ⟨hr,h ops [z] (fun j=> by
  simp only[List.getElem?_map,Array.getElem?_toList];cases ops[j]? <;> rfl) (by simp[ho]) H₂ tmps (hs.mono h2) rE⟩
theorem Tl.take(i:Nat){o:Oper}{d:Nat}{v:Value}{fuel:Nat}{listed:Array Bool}(hi:ops[i]? =some o)(ZE:Region.noSelect ops=true)(hr:(Region.ready md ops listed).contains i=true)(hf:Region.free md ops listed i=true)
  (hd:o.dst=some d) (hn:d<n) (uE:BA o.op=false) (hz:waits md ops i z=true) (iB:QB md ops listed=true) (lJ:∀listed H,S (listed.setIfInBounds i true) H<->S listed H) (hw:KA (ops.toList.map (fun o:Oper=> o.dst)) R o=some true)
  (hv:∀listed,QB md ops listed=true->listed.getD i true=false->∀H tmps,S listed H->RA n R tmps->YC M o tmps H fun u H'=> u=v/\H.le H'/\S listed H')
  (h:Tl M St n b H₀ cs S md ops z fuel (listed.setIfInBounds i true) ((d,v)::R) L ds k):Tl M St n b H₀ cs S md ops z (fuel+1) listed R L ds k:=fun H tmps hs rE hS=> by
 refine eL.first hi (Region.noSelect_spec ZE) uE hz lJ fuel listed tmps H (fun j oj hj nB Y0 dC=> Region.free_spec hi hf j oj hj nB Y0 dC) iB (by simpa using hr) (.inl ⟨wB (fun j=> ?_) rE hw,fun l iB hu H hSH=> hv l iB hu H tmps hSH rE⟩) ?_
 ·simp only[List.getElem?_map,Array.getElem?_toList];cases ops[j]? <;> rfl
 ·rw[hd];exact h H _ hs (rE.put hn v) ((lJ _ H).2 hS)
theorem Tl.tk(i:Nat){o:Oper}{d:Nat}{v:Value}{fuel:Nat}{listed:Array Bool}(hc:lD md ops [] listed i=true)(hz:waits md ops i z=true)(hi:ops[i]? =some o)(hd:o.dst=some d)(hn:d<n)(uE:BA o.op=false)(hw:KA (ops.toList.map (fun o:Oper=> o.dst)) R o=some true)
  (hv:∀H tmps,iA H₀ L H->RA n R tmps->YC M o tmps H fun u H'=> u=v/\H.le H')
  (h:Tl M St n b H₀ cs (fun _=> iA H₀ L) md ops z fuel (listed.setIfInBounds i true) ((d,v)::R) L ds k):Tl M St n b H₀ cs (fun _=> iA H₀ L) md ops z (fuel+1) listed R L ds k:=by
 simp only[lD,Bool.and_eq_true,Bool.not_eq_true'] at hc;obtain⟨⟨⟨⟨⟨ZE,hr⟩,hf⟩,iB⟩,_⟩,_⟩:=hc;exact .take i hi ZE hr hf hd hn uE hz iB (fun _ _=> Iff.rfl) hw (fun _ _ _ H tmps hS hr=> by
  have:=hv H tmps hS hr;unfold YC at this ⊢;have fin:∀u H',(u=v/\H.le H')->u=v/\H.le H'/\iA H₀ L H':=fun u H' ⟨h1,h2⟩=> ⟨h1,h2,hS.mono h2⟩
  refine SA _ (fun nx H' hn=> ?_) this;cases nx <;> first
   | exact hn.elim
   | exact fin _ _ hn
   | exact bA.mono hn fin
   | exact YL.mono hn fin) h
theorem Tc.dl(z:Nat){id:Nat}{fuel:Nat}(hm:P.follows .mixedOrders=true)(hf:ops.size=fuel+1)(h:Tl M St n b H₀ cs (fun _=> iA H₀ L) .any ops z fuel (Array.replicate (fuel+1) false) R L ds k):
  Tc M St n b H₀ cs R L ds (.code (.region id ops true)::k):=fun H tmps hs hr=> by
 refine .TE fun t=> ?_;simp only[Region.schedule,hm,Bool.true_or,if_true];have h1:=(h H tmps hs hr hs).sound _ t _ _ _ hs;unfold Region.linearise;rw[hf];exact h1
end
end Go.RL
namespace Go.RL
open Go.Conc Go.ConcN Go.RL.Au
open Go.ConcR (stA smA mk)
open Go.ConcM (muA msA OsLater)
section
variable {P:Program}{X:Fk}{κ:Nat}
theorem bD.makeFunc {n:Nat}{sh:P5}{R:Rg}{o:Oper}{f:Fn}{first caps:Array Operand}{vs ws:List Value}(kA:o.op=.makeFunc f first caps)(h1:VC R first.toList=some vs)(h2:VC R caps.toList=some ws):bD P sh n R o (.func f vs.toArray ws.toArray):=fun tmps hr=> by
 unfold execOp;rw[kA];show Next.value _=_;have e1:first.map (CB tmps)=vs.toArray:=by
  rw[<-hr.evs h1,List.map_toArray.symm]
 have e2:caps.map (CB tmps)=ws.toArray:=by
  rw[<-hr.evs h2,List.map_toArray.symm]
 rw[e1,e2]
theorem T.none {M:Md P}{St:View->Goroutine->Prop}{C:Nat}{H:View}{g:Goroutine}(MC:∀w,M.ok w->C<w.heap.size)(hph:∀H g Po,¬M.Ph H g Po)(h:T M St H g):H C=Option.none->T M (fun H' g'=> H' C=Option.none/\St H' g') H g:=
 h (fun H g=> H C=Option.none->T M (fun H' g'=> H' C=Option.none/\St H' g') H g) (fun _ _ hs hc=> .stop ⟨hc,hs⟩) (fun H g hs hc=> .step ⟨hs.1,fun w hw ho=> by
  obtain⟨g',w',es,H',h1,h2,h3⟩:=hs.2 w hw ho;refine⟨g',w',es,H',h1,h2,h3 ?_⟩;cases hx:H' C with
  | none=> rfl
  | some x=>
   obtain⟨f,o⟩:=x;rcases h2.ext _ _ _ hx with ⟨o',iP⟩|⟨_,hle⟩
   ·rw[hc] at iP;cases iP
   ·have:=MC w ho;omega⟩) (fun _ _ _ hp=> (hph _ _ _ hp).elim)
theorem T.aC5 {main:Bool}{St:View->Goroutine->Prop}{H:View}{g:Goroutine}(hc:H X.C=Option.none)(h:T (Mw P main X.ok) (fun H' g'=> H' X.C=Option.none->T (Mw P main X.ok) St H' g') H g):T (Mw P main X.ok) St H g:=
 (T.none (M:=Mw P main X.ok) (C:=X.C) (fun _ (h:X.ok _)=> h.1) (fun _ _ _ h=> h) h hc).bind fun _ _ ⟨h1,h2⟩=> h2 h1
theorem Sc.none {main:Bool}{St:View->Goroutine->Prop}{H:View}{n:Nat}{b:FB}{cs:List Frame}{R:Rg}{ds:List Deferred}{kk:List Item}(hc:H X.C=Option.none)
 (h:Sc (T (Mw P main X.ok) (fun H' g'=> H' X.C=Option.none->T (Mw P main X.ok) St H' g') H) n b cs R ds kk):Sc (T (Mw P main X.ok) St H) n b cs R ds kk:=fun tmps hr=> T.aC5 hc (h tmps hr)
theorem Sc.T3 {main:Bool}{St:View->Goroutine->Prop}{H:View}{n:Nat}{b:FB}{cs:List Frame}{R:Rg}{ds:List Deferred}{kk:List Item}
 (h:H X.C=Option.none->Sc (T (Mw P main X.ok) St H) n b cs R ds kk):Sc (T (Mw P main X.ok) (fun H' g'=> H' X.C=Option.none->T (Mw P main X.ok) St H' g') H) n b cs R ds kk:=fun tmps hr=> .stop fun hc=> h hc tmps hr
theorem Sc.mono {J J':Goroutine->Prop}{n:Nat}{b:FB}{cs:List Frame}{R:Rg}{ds:List Deferred}{kk:List Item}(h:Sc J n b cs R ds kk)(hj:∀g,J g->J' g):Sc J' n b cs R ds kk:=fun tmps hr=> hj _ (h tmps hr)
end
end Go.RL
namespace Go.Proofs.YtldmfjcgjdchcaaGreatDoor
open Go.RL Go.Proofs.Tryz Go.Conc Go.ConcN Go.RL.Au
open Go.ConcR (stA smA)
set_option maxRecDepth 10000
set_option maxHeartbeats 4000000
def MD(k:Bk)(D:Nat->Bool):List Value:=(List.range k.nt).map fun i=> .int .i64 (if D i then((k.left i:Nat):Int) else 0)
def GIl(k:Bk)(D:Nat->Bool)(o:Obj):Prop:=o=.cells ⟨MD k D⟩ 3 (0,0)
theorem bY(k:Bk)(D:Nat->Bool):(MD k D).length=k.nt:=by simp[MD]
theorem cY(k:Bk)(D:Nat->Bool)(κ:Nat):(MD k D).set κ (.int .i64 ((k.left κ:Nat):Int))=MD k (oS D κ):=by
 apply List.ext_getElem?
 intro i;unfold MD oS;rw[List.getElem?_set];by_cases e:κ=i
 ·subst e;rw[if_pos rfl];by_cases h:κ<k.nt
  ·rw[if_pos (by simpa using h),List.getElem?_map,List.getElem?_range h];simp
  ·rw[if_neg (by simpa using h),List.getElem?_eq_none (by simp;omega)]
 ·rw[if_neg e,List.getElem?_map,List.getElem?_map];by_cases h:i<k.nt
  ·rw[List.getElem?_range h];have h2:¬i=κ:=fun h=> e h.symm;simp[h2]
  ·rw[List.getElem?_eq_none (by simp;omega)];rfl
structure aDO(X:Fk)(k:Bk)(H:View)(κ b5 b8 b6:Nat)(A:Option Addr)(lc:Nat)(B:Option Addr)(tc:Nat)(F:Nat->Option Addr)(fc:Nat->Nat):Prop where
 bk:WB H k A lc B tc F fc
 nl:k.nl<=1000
 nf:∀i,i<k.nl->k.nf i<=1000
 ok:k.CC
 nt:k.nt<=6
 cD:0<=k.cD/\k.cD<=99
 rB:0<=k.rB/\k.rB<=99
 h5:∃f,H b5=some (f,.cells ⟨(k.val A lc B tc).cells.toList⟩ 166 (0,0))
 h8:∃f,H b8=some (f,.cells ⟨[.int .i64 (κ:Nat)]⟩ 3 (0,0))
 h6:∃f,H b6=some (f,.cells ⟨[.slice (some ⟨X.C,0,none⟩) k.nt k.nt]⟩ 24 (0,0))
 kn:κ<k.nt
 GI:X.GI=GIl k
def m8(X:Fk)(b5 b8 b6:Nat):List Value:= [.pointer (some ⟨X.Wg,0,none⟩),.pointer (some ⟨b5,0,none⟩),.pointer (some ⟨b8,0,none⟩),.pointer (some ⟨b6,0,none⟩)]
section
variable {X:Fk}{bk:Bk}{H:View}{κ b5 b8 b6:Nat}{A:Option Addr}{lc:Nat}{B:Option Addr}{tc:Nat}{F:Nat->Option Addr}{fc:Nat->Nat}
theorem M4(w:aDO X bk H κ b5 b8 b6 A lc B tc F fc)(k:Nat):
  Jw prog X κ k .pw H (Go.Conc.born prog { target:=.fn (.func 125) (m8 X b5 b8 b6).toArray,args:=#[] }):=by
 obtain⟨hbk,RN,VX,MC,zK,H0,aCJ,⟨f5,h5⟩,⟨f8,h8⟩,⟨f6,h6⟩,hκ,hGI⟩:=w;refine Cl.born (vs:=m8 X b5 b8 b6) Jw.LM func125 kR rfl ntmps125 (Nat.le_of_ble_eq_true rfl) (by simp) ?_;unfold m8;refine .sq (.rg rfl rfl ?_);refine So.defer Jw.LM (f:=126) (vs:= [.pointer (some ⟨X.Wg,0,none⟩)]) rfl nofun rfl rfl ⟨_,rfl⟩ rfl ?_;refine .dn ?_;refine Sc.mono ?_ (fun g hg=> Jw.ofT rfl hg);refine Sc.aC7 (iA.nil H) ?_;refine Tc.dl 6 mixed rfl ?_;refine Tl.tk 0 kR kR rfl rfl dE rfl rfl (pA.take (pA.FK (E:=en) rfl rfl h6 rfl rfl)) ?_;refine Tl.tk 1 kR kR rfl rfl dE rfl rfl (pA.take (pA.FK (E:=en) rfl rfl h8 rfl rfl)) ?_;refine Tl.tk 2 kR kR rfl rfl dE rfl rfl (pA.take (pA.FK (E:=en) rfl rfl h5 rfl rfl)) ?_;refine Tl.tk 3 kR kR rfl rfl dE rfl rfl (pA.take (pA.FK (E:=en) rfl rfl h8 rfl rfl)) ?_;refine Tl.tk 4 kR kR rfl rfl dE rfl rfl (pA.YK rfl rfl rfl rfl (fun H hs=> .f aCi rfl (aAB _ H bk A lc B tc F fc (hbk.le hs.base) RN VX MC zK H0 aCJ κ hκ))) ?_;refine Tl.tk 5 kR kR rfl rfl dE rfl rfl (pA.take .ia) ?_;refine Tl.done kR rfl ?_;refine To.aEE (fun H1 hs=> ?_);refine So.mono ?_ (fun g hg=> Jw.toT rfl hg);have eoff:0+((κ:Nat):Int).toNat*1=κ:=by rw[Int.toNat_natCast];omega
 refine So.own (z:=((bk.left κ:Nat):Int)) (ik:=.i64) rfl rfl rfl ?_ rfl kR ?_ ?_
 ·show some (Value.pointer (some ⟨X.C,0+((κ:Nat):Int).toNat*1,none⟩))=_;rw[eoff]
 ·intro D o _ hGo;rw[hGI] at hGo ⊢;have aD7:o=.cells ⟨MD bk D⟩ 3 (0,0):=hGo;subst aD7;refine⟨⟨MD bk D⟩,3,rfl,by simp only[List.size_toArray,bY];exact hκ,?_⟩;show Obj.cells _ 3 (0,0)=.cells ⟨MD bk (oS D κ)⟩ 3 (0,0);rw[<-cY];simp
 ·exact fun k' _=> So.done Jw.LM (Sc.over Jw.LM rfl (aAa rfl (Sb.leaveD Jq.cl func125 rfl results125 (.inr rfl) Jq.bot)))
end
set_option maxHeartbeats 16000000
theorem xD {H:View}{b:Nat}{f:Bool}{o:Obj}(h:H b=some (f,o)):ro H b=some (false,o):=by simp[ro,h]
theorem eG {H:View}{b:Nat}(h:H b=none):ro H b=none:=by simp[ro,h]
def UY(H H':View):Prop:=∀b f o,H b=some (f,o)->∃f',H' b=some (f',o)
theorem OV {H H':View}{sz m:Nat}{y:Value}{l:List Value}(h:ZA H sz y m l)(k:UY H H'):ZA H' sz y m l:=by
 obtain⟨h1,h2,h3⟩:=h;refine⟨h1,h2,h3.imp id ?_⟩;rintro⟨b,off,c,f,cs,e,fz,h4,h5,h6,h7⟩;obtain⟨f',h5'⟩:=k _ _ _ h5;exact⟨b,off,c,f',cs,e,fz,h4,h5',h6,h7⟩
theorem WB.of {H H':View}{k:Bk}{A:Option Addr}{lc:Nat}{B:Option Addr}{tc:Nat}{F:Nat->Option Addr}{fc:Nat->Nat}(h:WB H k A lc B tc F fc)(hk:UY H H'):WB H' k A lc B tc F fc:=
 ⟨h.Y6,h.KY,OV h.rows hk,OV h.JC hk,h.F0,fun i hi=> OV (h.free i hi) hk⟩
structure sU(X:Fk)(k:Bk)(H:View)(b5 b6:Nat)(A:Option Addr)(lc:Nat)(B:Option Addr)(tc:Nat)(F:Nat->Option Addr)(fc:Nat->Nat):Prop where
 bk:WB H k A lc B tc F fc
 sm:k.small
 al:k.QA=0
 n:X.n=k.nt
 h5:∃f,H b5=some (f,.cells ⟨(k.val A lc B tc).cells.toList⟩ 166 (0,0))
 h6:∃f,H b6=some (f,.cells ⟨[.slice (some ⟨X.C,0,none⟩) k.nt k.nt]⟩ 24 (0,0))
 C0:H X.C=none
 GI:X.GI=GIl k
theorem sU.of {X:Fk}{k:Bk}{H H':View}{b5 b6:Nat}{A:Option Addr}{lc:Nat}{B:Option Addr}{tc:Nat}{F:Nat->Option Addr}{fc:Nat->Nat}(h:sU X k H b5 b6 A lc B tc F fc)(hk:UY H H')(h0:H' X.C=none):sU X k H' b5 b6 A lc B tc F fc:=
 ⟨h.bk.of hk,h.sm,h.al,h.n,let ⟨_,g⟩:=h.h5;hk _ _ _ g,let ⟨_,g⟩:=h.h6;hk _ _ _ g,h0,h.GI⟩
abbrev b33:FB:=⟨51,.normal,none⟩
noncomputable def L33:Code:=cR (cL (cR (cR (cR (cR (cR (oL Tryz.f51)))))))
noncomputable def B33:Code:=cB (cB L33)
noncomputable def T33:Code:=cR (cR (cR (cR (cR (cR (oL Tryz.f51))))))
section
variable {X:Fk}{k:Bk}{b1 b5 b6:Nat}{A:Option Addr}{lc:Nat}{B:Option Addr}{tc:Nat}{F:Nat->Option Addr}{fc:Nat->Nat}{Fin:Goroutine->Prop}{cs:List Frame}
def rgS(X:Fk)(k:Bk)(b1 b5 b6 j:Nat):Rg:= [(1,.pointer (some ⟨b1,0,none⟩)),(5,.pointer (some ⟨b5,0,none⟩)),(6,.pointer (some ⟨b6,0,none⟩)),(7,.pointer (some ⟨X.Wg,0,none⟩)),(24,.int .i64 (k.nt:Nat)),(25,.int .i64 (j:Nat))]
theorem FO(UD:∀(R:Rg),jC (rgS X k b1 b5 b6 k.nt) R->∀κ (H:View),Sc (Jm prog X Fin κ .wd k.nt H) 50 b33 cs R [] [.code T33]):∀(d j κ:Nat) (H:View),j+d=k.nt->sU X k H b5 b6 A lc B tc F fc->∀(R:Rg),jC (rgS X k b1 b5 b6 j) R-> 
  Sc (Jm prog X Fin κ (if j<X.n then .kd else .wd) j H) 50 b33 cs R [] [.code B33,.inLoop B33,.inBlock 0,.code T33]
 | 0,j,κ,H,hj,LB,R,hR=> by
  have e:j=k.nt:=by omega
  subst e;rw[if_neg (by rw[LB.n];omega)];refine Sc.drop hR ?_;unfold rgS;refine .sq (.rg rfl rfl ?_);refine .i ?_ (z:=pJ oM);refine .dn ?_;refine Sc.seq Jm.cl (Sc.cond Jm.cl (t:=false) rfl (fun h=> nomatch h) (fun _=> ?_));refine .xt rfl ?_;exact UD _ ⟨rfl,rfl,rfl,rfl,rfl,rfl,trivial⟩ κ H
 | d + 1,j,κ,H,hj,LB,R,hR=> by
  rw[if_pos (by rw[LB.n];omega)];refine Sc.drop hR ?_;unfold rgS;obtain⟨hg,RN,zK,MC⟩:=Bk.valid LB.al;refine .sq (.rg rfl rfl ?_);refine .i ?_ (z:=dO oM);refine .dn ?_;refine Sc.seq Jm.cl (Sc.cond Jm.cl (t:=true) rfl (fun _=> ?_) (fun h=> nomatch h));refine .sp (.sq (.bl (.sq ?_)));refine Sc.none LB.C0 ?_;refine Sc.aC7 (iA.nil H) ?_;refine .r ?_;refine .m ?_;refine .e (.al (zz:=fun b8=> ?_));refine .e (.st 0 (zz:=?_));refine .done ?_;refine Tc.aC6 (fun H1 hs=> Sc.T3 (fun hC1=> ?_));have aEu:sU X k H1 b5 b6 A lc B tc F fc:=LB.of (fun b f o h=> ⟨f,hs.base _ _ h⟩) hC1;have h8:=hs.get (i:=0) rfl;show Sc (Jm prog X Fin κ .kd j H1) 50 b33 cs _ [] _;refine .sq (.rg rfl rfl ?_);refine So.sC rfl rfl rfl nofun rfl (.mk' rfl) rfl (hZ) ?_;rintro v J' ⟨rfl,κ',rfl⟩;refine .dn (.rg rfl rfl ?_);refine So.opD Jm.cl rfl rfl rfl rfl (bD.makeFunc rfl rfl rfl) ?_;have jP:sU X k (ro H1) b5 b6 A lc B tc F fc:=aEu.of (fun b f o h=> ⟨false,xD h⟩) (eG hC1);refine Jm.go (f:=125) (fn:=#[]) (caps:=(m8 X b5 b8 b6).toArray) rfl nofun rfl rfl rfl rfl rfl rfl rfl (fun k1 _=> ?_) (fun k1 _=> ?_)
  ·refine .dn (.ib (.rg rfl rfl ?_));refine .i ?_ (z:=lB oM oM);refine .m ?_;refine .dn ?_;refine Sc.inLoop (by exact Jm.cl) ?_;exact FO UD d (j+1) k1 (ro H1) oM jP _ ⟨rfl,rfl,rfl,rfl,rfl,rfl,trivial⟩
  ·exact M4 ⟨jP.bk,LB.sm.nl,fun i hi=> (LB.sm.num i hi).2,MC,zK,oM,oM,jP.h5,⟨false,xD h8⟩,jP.h6,oM,LB.GI⟩ k1
end
theorem Ph.aC8 {P:Program}{H:View}{g:Goroutine}{Po:View->Goroutine->Prop}(h:o8 P H g Po):Ph P H g Po:=
 ⟨H,fun _=> none,Po,fun _ _ h=> (nomatch h),(by funext b;unfold View.plus;cases H b <;> rfl),h,fun H' g' _ hp=> by
  have e:H'.plus (fun _=> none)=H':=by funext b;unfold View.plus;cases H' b <;> rfl
  rwa [e]⟩
def View.beside(X:Fk)(H:View):View:=(H.BD X.C).BD X.Wg
theorem cM {X:Fk}{H:View}:View.beside X H X.Wg=none/\View.beside X H X.C=none:=by
 refine⟨?_,?_⟩ <;> unfold View.beside View.BD <;> simp
theorem VF {X:Fk}{H:View}{b:Nat}(h1:b≠X.C)(h3:b≠X.Wg):View.beside X H b=H b:=by
 unfold View.beside;rw[UA h3,UA h1]
theorem Ph.begin {P:Program}{H:View}{g:Goroutine}{Po:View->Goroutine->Prop}(X:Fk)(Fin:Goroutine->Prop)(o:Obj)(hn:X.n<=6)(ne:X.Wg≠X.C)
  (hC:H X.C=some (true,o)) (J8:H X.Wg=some (true,X.fU ⟨0,0,0⟩)) (hGI:X.GI (fun _=> false) o)
  (hg:∀k,T (Mw P true X.ok) (MS P X Fin k (if 0<X.n then .kd else .wd) 0) (ro (View.beside X H)) g) (hPo:∀o' g',X.GI (fun i=> decide (i<X.n)) o'->Fin g'->Po ((View.beside X H).put X.C (true,o')) g'):Ph P H g Po:=by
 refine Ph.aC8 ⟨X,Fin,View.beside X H,o,hn,ne,cM,?_,hGI,hg,hPo⟩
 funext b
 by_cases e1:b=X.Wg
 ·subst e1;rw[View.jB,J8]
 ·rw[View.GA _ _ e1];by_cases e3:b=X.C
  ·subst e3;rw[View.jB,hC]
  ·rw[View.GA _ _ e3,VF e3 e1]
theorem So.all {J:Obj->Goroutine->Prop}{p:Obj->Prop}{n:Nat}{b:FB}{cs:List Frame}{dl:List (Option Tmp)}{R:Rg}{ds:List Deferred}{l:List Oper}{kk:List Item}(h:∀o,p o->So (J o) n b cs dl R ds l kk):So (fun g=> ∀o,p o->J o g) n b cs dl R ds l kk:=
 fun arr ix ha hx tmps hr o ho=> h o ho arr ix ha hx tmps hr
def Bk.AE(k:Bk):Nat->Int×Int
 | 0=> (-1,(k.BR.length:Nat))
 | j+1=> if((k.left j:Nat):Int)<(k.AE j).2 then((j:Nat),((k.left j:Nat):Int)) else k.AE j
def Bk.look(k:Bk):Int×Int:=k.AE k.nt
def c9(p:Int×Int):Value:=.tuple ⟨[.int .i64 p.1,.int .i64 p.2,.int .i64 0]⟩
section
theorem C9(H:View)(k:Bk)(A:Option Addr)(lc:Nat)(B:Option Addr)(tc:Nat)(F:Nat->Option Addr)(fc:Nat->Nat)(hB:WB H k A lc B tc F fc)(hn:k.small)(hG:gF H)(ha:k.QA=0):
  bA (Mp prog) 51 #[k.val A lc B tc] H (fun v H'=> H.le H'/\v=c9 k.look):=by
 obtain⟨hgg,RN,zK,MC⟩:=Bk.valid ha;have kA:=fun(H':View) (h':H.le H')=> BC (Mp prog) H' k A lc B tc (hB.bk.le h') hn (FA hG h') ha;refine .en func51 ntmps51 fun St c cs hK=> ?_;refine .sr ?_;refine .e (.bx (zz:=fun b1=> ?_));refine .g ?_;refine .g ?_;refine .g ?_;refine .done (.sr ?_);refine .x (.ld 0) ?_;refine .c rfl rfl rfl rfl (fun H hs=> .f aDR rfl (kA H hs.base)) ?_;refine .m ?_;refine .x .et ?_;refine .x .et ?_;refine .e (.al (zz:=fun b5=> ?_));refine .e (.st 0 (zz:=?_));refine .g ?_;refine .done (.seq (.sr ?_));refine .m ?_;refine .i ?_ (z:=bG oM);refine .done (.ff rfl (.skip (.sr ?_)));refine .x .fa ?_;refine .x (.ld 1) ?_;refine .x .ln ?_;refine .e (Or.makeSlice (E:=en) (len:=k.nt) (cap:=k.nt) rfl rfl rfl rfl rfl rfl (Nat.le_refl _) oM rfl rfl dE (fun bC=> ?_));refine .e (.al (zz:=fun b6=> ?_));refine .e (.st 0 (zz:=?_));refine .done (.sr ?_);refine .e (.al (zz:=fun b7=> ?_));refine .done (.seq (.sr ?_));refine .x (.ld 1) ?_;refine .x .ln ?_;refine .m ?_;refine .done ?_;refine Tc.aC6 (fun Hx hs tmps hr=> ?_);obtain⟨X,hX⟩:∃X:Fk,X=⟨k.nt,b7,bC,233,GIl k⟩:=⟨_,rfl⟩
 have x1:=hs.get (i:=0) rfl;have x2:=hs.get (i:=1) rfl;have x3:=hs.get (i:=2) rfl;have x4:=hs.get (i:=3) rfl;have x5:=hs.get (i:=4) rfl;have uE: [b7,b6,bC,b5,b1].Nodup:=hs.nodup;simp only[List.nodup_cons,List.mem_cons,List.not_mem_nil,or_false,not_or,not_false_eq_true,List.nodup_nil,and_true] at uE;obtain⟨⟨n1,n2,n3,n4⟩,⟨n5,n6,n7⟩,⟨n8,n9⟩,n10⟩:=uE;have dV:∀y,y=bC\/y=b7->H y=none:=by
  rintro y (rfl|rfl)
  ·exact hs.out _ (List.mem_cons_of_mem _ (List.mem_cons_of_mem _ List.mem_cons_self))
  ·exact hs.out _ List.mem_cons_self
 have hle:H.le (View.beside X Hx):=fun b y hb=> by
  have e:∀z,z=bC\/z=b7->b≠z:=fun z hz e=> by subst e;rw[dV b hz] at hb;cases hb
  rw[VF (by subst hX;exact e _ (.inl rfl)) (by subst hX;exact e _ (.inr rfl))];exact hs.base _ _ hb
 have y5:View.beside X Hx b5=some (true,.cells ⟨(k.val A lc B tc).cells.toList⟩ 166 (0,0)):=by
  subst hX;rw[VF (by exact Ne.symm n8) (by exact Ne.symm n3)];exact x4
 have y6:View.beside X Hx b6=some (true,.cells ⟨[.slice (some ⟨bC,0,none⟩) k.nt k.nt]⟩ 24 (0,0)):=by
  subst hX;rw[VF n5 (by exact Ne.symm n1)];exact x2
 obtain⟨Fin,hF⟩:∃Fin:Goroutine->Prop,Fin=fun g=> ∀o',X.GI (fun i=> decide (i<X.n)) o'->T (Mp prog) St ((View.beside X Hx).put X.C (true,o')) g:=⟨_,rfl⟩
 have hcF:Cl prog true hY Fin:=⟨fun g g' hs h hf=> by
  subst hF;exact fun o' ho=> .step ⟨hs,fun w hw MC=> ⟨g',w,#[],_,h w (fun _ _ e=> by cases e),.refl hw,hf o' ho⟩⟩⟩
 have hz:iC [Value.int .i64 0] (k.nt*1)=MD k (fun _=> false):=by
  rw[vI,Nat.mul_one];unfold MD;simp[List.map_const']
 refine T.phase (Po:=fun H' g'=> T (Mp prog) St H' g') (Ph.begin X Fin (.cells ⟨MD k (fun _=> false)⟩ 3 (0,0)) (by subst hX;exact zK) (by subst hX;exact n2) (by subst hX;rw[<-hz];exact x3) (by subst hX;exact x1) (by subst hX;exact rfl) (fun κ=> ?_) (fun o' g' ho hg=> by subst hF;exact hg o' ho)) (fun H' g' h=> h);have LB:sU X k (ro (View.beside X Hx)) b5 b6 A lc B tc F fc:=
  ⟨hB.of (fun b f o h=> ⟨false,xD (hle _ _ h)⟩),hn,ha,by subst hX;rfl,⟨false,xD y5⟩,by subst hX;exact⟨false,xD y6⟩,eG cM.2,by subst hX;rfl⟩
 have UD:∀(R:Rg),jC (rgS X k b1 b5 b6 k.nt) R->∀κ (H:View),Sc (Jm prog X Fin κ .wd k.nt H) 50 b33 (c::cs) R [] [.code T33]:=by
  intro R hR κ Hk;refine Sc.drop hR ?_;unfold rgS;refine .sq (.rg rfl rfl ?_);refine So.sC rfl rfl rfl nofun rfl (.mk' rfl) rfl (aB9 hcF) ?_;rintro v J' ⟨rfl,rfl⟩;subst hF;refine So.all (fun o' iP=> ?_);have hGI:X.GI=GIl k:=by subst hX;rfl
  rw[hGI] at iP;have ho2:o'=.cells ⟨MD k (fun i=> decide (i<X.n))⟩ 3 (0,0):=iP;subst ho2;have hX2:X.n=k.nt:=by subst hX;rfl
  have z5:(View.beside X Hx).put X.C (true,.cells ⟨MD k (fun i=> decide (i<X.n))⟩ 3 (0,0)) b5=some (true,.cells ⟨(k.val A lc B tc).cells.toList⟩ 166 (0,0)):=by
   rw[View.GA _ _ (by subst hX;exact Ne.symm n8)];exact y5
  have z6:(View.beside X Hx).put X.C (true,.cells ⟨MD k (fun i=> decide (i<X.n))⟩ 3 (0,0)) b6=some (true,.cells ⟨[.slice (some ⟨X.C,0,none⟩) k.nt k.nt]⟩ 24 (0,0)):=by
   rw[View.GA _ _ (by subst hX;exact n5)];subst hX;exact y6
  have zC:(View.beside X Hx).put X.C (true,.cells ⟨MD k (fun i=> decide (i<X.n))⟩ 3 (0,0)) X.C=some (true,.cells ⟨MD k (fun i=> decide (i<X.n))⟩ 3 (0,0)):=View.jB ..;have zle:H.le ((View.beside X Hx).put X.C (true,.cells ⟨MD k (fun i=> decide (i<X.n))⟩ 3 (0,0))):=fun b y hb=> by
   rw[View.GA _ _ (by rintro rfl;subst hX;rw[dV bC (.inl rfl)] at hb;cases hb)];exact hle _ _ hb
  generalize (View.beside X Hx).put X.C (true,.cells ⟨MD k (fun i=> decide (i<X.n))⟩ 3 (0,0))=H2 at z5 z6 zC zle;refine So.aEF (iA.nil H2) ?_;refine .done (.sr ?_);refine .x .l0 ?_;refine To.uB rfl rfl rfl rfl rfl rfl dE (yB.f aCh rfl (QI _ H2 k A lc B tc (hB.bk.le zle).rows hn.nl (hB.bk.le zle).JC MC zK)) (fun v H₃ hv=> ?_);obtain⟨O0,m,es,cl,rfl,⟨fm,q3⟩,q4⟩:=hv;have LD:=Bk.vO q4;have z6':=O0 _ _ z6;have zC':=O0 _ _ zC;refine .x (pA.HJ (E:=en) (es:=es) rfl rfl rfl rfl rfl (fun H hs=> ⟨fm,hs.base _ _ q3⟩) rfl rfl) ?_;refine .g ?_;refine .g ?_;refine .done ?_;rw[LD];refine .seq (.sr ?_);refine .x .l0 ?_;refine .x .ln ?_;refine .m ?_;refine .done (.block ?_);refine Tc.db (Tc.sA (σ:= { j:Nat//j<=k.nt }) (fun j=> ([(2,.int .i64 (k.AE j.1).1),(3,.int .i64 (k.AE j.1).2),(35,.slice (some ⟨X.C,0,none⟩) k.nt k.nt),(36,.int .i64 (k.nt:Nat)),(37,.int .i64 (j.1:Nat))],[])) (fun j=> k.nt-j.1) ?_ ⟨0,Nat.zero_le _⟩);rintro⟨j,hj⟩ ih;show Tc (Mp prog) St _ _ _ _ [(2,.int .i64 (k.AE j).1),(3,.int .i64 (k.AE j).2),(35,.slice (some ⟨X.C,0,none⟩) k.nt k.nt),(36,.int .i64 (k.nt:Nat)),(37,.int .i64 (j:Nat))] [] _ _;by_cases c1:j=k.nt
  ·subst c1;refine .sr ?_;refine .i ?_ (z:=pJ oM);refine .done (.seq (.ff rfl (.exit rfl (.sr ?_))));refine .m ?_;refine .m ?_;refine .g ?_;refine .g ?_;refine .g ?_;refine .done ?_;refine .rt hK func51 results51 [_,_,_] ?_;exact fun H' hs=> ⟨View.le_trans zle (View.le_trans O0 hs.base),rfl⟩
  ·have c2:j<k.nt:=by omega
   have f1:tE false 1 (MD k (fun i=> decide (i<X.n))) (0+((j:Nat):Int).toNat*1)=some (.int .i64 ((k.left j:Nat):Int)):=by
    show _[_]? =_;rw[Nat.zero_add,Int.toNat_natCast,Nat.mul_one];unfold MD;rw[List.getElem?_map,List.getElem?_range c2];simp[hX2,c2]
   by_cases c3:((k.left j:Nat):Int)<(k.AE j).2
   ·have e:k.AE (j+1)=(((j:Nat):Int),((k.left j:Nat):Int)):=by rw[Bk.AE,if_pos c3]
    refine .sr ?_;refine .i ?_ (z:=dO oM);refine .done (.seq (.tt rfl (.skip (.seq (.block (.sr ?_))))));refine .m ?_;refine .x .ia ?_;refine .x .l0 ?_;refine .g ?_;refine .g ?_;refine .done (.sr ?_);refine .m ?_;refine .m ?_;refine .i ?_ (z:=dO oM);refine .done (.tt rfl (.r ?_));refine .m ?_;refine .m ?_;refine .g ?_;refine .g ?_;refine .done (.inBlock (.r ?_));refine .i ?_ (z:=lB oM oM);refine .m ?_;refine .done ?_;refine Tc.ZC (ih ⟨j+1,c2⟩ (by simp only;omega)) ?_ sL;simp only[e];exact⟨rfl,rfl,rfl,rfl,rfl,trivial⟩
   ·have e:k.AE (j+1)=k.AE j:=by rw[Bk.AE,if_neg c3]
    refine .sr ?_;refine .i ?_ (z:=dO oM);refine .done (.seq (.tt rfl (.skip (.seq (.block (.sr ?_))))));refine .m ?_;refine .x .ia ?_;refine .x .l0 ?_;refine .g ?_;refine .g ?_;refine .done (.sr ?_);refine .m ?_;refine .m ?_;refine .i ?_ (z:=pJ oM);refine .done (.ff rfl (.skip (.inBlock (.r ?_))));refine .i ?_ (z:=lB oM oM);refine .m ?_;refine .done ?_;refine Tc.ZC (ih ⟨j+1,c2⟩ (by simp only;omega)) ?_ sL;simp only[e];exact⟨rfl,rfl,rfl,rfl,rfl,trivial⟩
 refine Sc.block Jm.cl (Sc.loop Jm.cl ?_) tmps hr;have hgo:=FO UD k.nt 0 κ (ro (View.beside X Hx)) oM LB;subst hX;exact hgo _ (by unfold rgS;refine⟨rfl,?_⟩;refine⟨rfl,?_⟩;refine⟨rfl,?_⟩;refine⟨rfl,?_⟩;refine⟨rfl,?_⟩;refine⟨rfl,?_⟩;exact trivial)
end
end Go.Proofs.YtldmfjcgjdchcaaGreatDoor
namespace Go.Proofs.YtldmfjcgjdchcaaGreatDoor
open Go.RL Go.Proofs.Tryz
set_option maxRecDepth 100000
theorem KX:QD.VH= [[49,50],[49,51]]:=by decide +kernel
theorem LX:KE.VH= [[49,49,50],[50,50]]:=by decide +kernel
theorem TQ:(QD.tC 0=0/\QD.tC 1=0/\QD.tC 2=2)/\QD.tC (-1)=2:=by decide +kernel
theorem UQ:(KE.tC 0=2/\KE.tC 1=2/\KE.tC 2=0)/\KE.tC (-1)=0:=by decide +kernel
theorem aAe:(jA (fun i=> !KE.bI (YB [1,1,2]) (YB [3,9,9]) i) 3).isSome=false/\KE.iD (YB [1,1,2]) (YB [3,9,9]) 3=⟨[50,50],0,false⟩/\KE.line [50,50]=some 2:=by decide +kernel
theorem aAf:(jA (fun i=> !KE.bI (YB [1,1,2]) (YB [5,9,9]) i) 3).isSome=false/\KE.iD (YB [1,1,2]) (YB [5,9,9]) 3=⟨[49,49,50],0,false⟩/\KE.line [49,49,50]=none:=by decide +kernel
theorem K6:QD.look=(1,1):=by decide +kernel
theorem L6:QD.settled=none:=by decide +kernel
theorem ZM:XA 2 2 6 6=true/\QD.K2 1 2 2 6 6=true:=by decide +kernel
theorem M6:HQ.settled=some (2,0):=by decide +kernel
theorem FN:(QD.nF 1 0=2/\QD.nF 1 1=0)/\QD.bF 1 2=2:=by decide +kernel
theorem TZ:wX (QD.PN 0)= [1,2]:=by decide +kernel
theorem RZ:QD.tH [51]=.tuple ⟨[.bool false,.int .i64 0]⟩:=by
 have h:isNum [51]=true/\QD.clash [51]=false/\QD.safe [51]=false:=by decide +kernel
 unfold Bk.tH;rw[if_neg (by rw[zF];decide),if_neg (by rw[h.1];decide),if_neg (by rw[h.2.1];decide),h.2.2]
theorem SZ:QD.tH [53]=.tuple ⟨[.bool true,.int .i64 0]⟩:=by
 have h:isNum [53]=true/\QD.clash [53]=false/\QD.safe [53]=true:=by decide +kernel
 unfold Bk.tH;rw[if_neg (by rw[zF];decide),if_neg (by rw[h.1];decide),if_neg (by rw[h.2.1];decide),h.2.2]
theorem UZ:QD.mI 1 true=JF [48] true 0:=by
 have h:QD.spare 1 true=some [48]:=by decide +kernel
 unfold Bk.mI;rw[if_neg (by rw[zF];decide),if_neg dE];show(match QD.spare 1 true with|some x=> JF x true 0|none=> JF [] false 0)=_;rw[h]
theorem MX:IK [49,50,48]=.tuple ⟨[.int .i64 13,.int .i64 0]⟩:=by
 have h:isNum [49,50,48]=true/\sB [49,50,48]=13:=by decide +kernel
 unfold IK;rw[if_neg (by rw[h.1];decide),h.2];rfl
theorem QZ:(ME 2 2).length<=12/\(jA (fun j=> !oE (YB [5,3,1] j)) 3).isSome=false/\(oH (YB [5,3,1]) 3 2 2).total=18/\(oH (YB [5,3,1]) 3 2 2).done=true/\(oH (YB [5,3,1]) 3 2 2).cE= [[49],[50,49],[50,50]]:=by decide +kernel
theorem MU:KE.SD 3 3 (YB [1,1,2]) (YB [3,9,9])=rD [50,50] 2 0:=by
 obtain⟨h1,h2,h3⟩:=aAe;unfold Bk.SD;rw[if_neg (by rw[GQ];decide),if_neg dE];show(if(jA (fun i=> !KE.bI (YB [1,1,2]) (YB [3,9,9]) i) 3).isSome=true then _ else rD (KE.iD (YB [1,1,2]) (YB [3,9,9]) 3).heard (fB (KE.line (KE.iD (YB [1,1,2]) (YB [3,9,9]) 3).heard)) 0)=_;rw[h1,h2];simp only[Bool.false_eq_true,if_false];rw[h3];rfl
theorem NU:KE.SD 3 3 (YB [1,1,2]) (YB [5,9,9])=rD [49,49,50] (-1) 0:=by
 obtain⟨h1,h2,h3⟩:=aAf;unfold Bk.SD;rw[if_neg (by rw[GQ];decide),if_neg dE];show(if(jA (fun i=> !KE.bI (YB [1,1,2]) (YB [5,9,9]) i) 3).isSome=true then _ else rD (KE.iD (YB [1,1,2]) (YB [5,9,9]) 3).heard (fB (KE.line (KE.iD (YB [1,1,2]) (YB [5,9,9]) 3).heard)) 0)=_;rw[h1,h2];simp only[Bool.false_eq_true,if_false];rw[h3];rfl
set_option maxRecDepth 10000
set_option maxHeartbeats 16000000
theorem o6 {k:Bk}(MC:k.CC){i:Nat}(hi:i<k.nt):(k.can i).length<=12:=by
 obtain⟨h1,h2,h3⟩:=k.nE MC hi;have e:∀a b lo hi:Nat,(jK a b lo hi).length=(b+1-a)*(hi+1-lo):=fun a b lo hi=> by
  unfold jK G4;rw[List.length_flatMap];simp only[List.length_map,List.length_range',List.map_const',List.sum_replicate_nat]
 unfold Bk.can;rw[e];have h4:=k.EK (k.qt i);have m1:(k.pt i).toNat+1-(k.pf i).toNat<=4:=by omega
 have m2:k.kind (k.qt i)+1-k.kind (k.qf i)<=3:=by omega
 exact Nat.mul_le_mul m1 m2
theorem JU {k:Bk}(ha:k.QA=0):(k.AF k.nt).length<=12 ^ 6:=by
 obtain⟨_,_,zK,MC⟩:=Bk.valid ha;have h:∀n,n<=k.nt->(k.AF n).length<=12 ^ n:=by
  intro n;induction n with
  | zero=> intro _;exact Nat.le_refl _
  | succ n ih=>
   intro hn;unfold Bk.AF;rw[List.length_flatMap];have h1:∀l:List MF,(l.map fun e=> ((k.can n).map fun x=> e.hear x.1 x.2).length).sum<=l.length*12:=by
    intro l;induction l with
    | nil=> exact Nat.le_refl _
    | cons e t iht=>
     have:=o6 MC (i:=n) oM;simp only[List.map_cons,List.sum_cons,List.length_map,List.length_cons] at iht ⊢;omega
   have h2:=h1 (k.AF n);have h3:=ih oM;rw[Nat.pow_succ];omega
 exact Nat.le_trans (h k.nt (Nat.le_refl _)) (Nat.pow_le_pow_right dE zK)
section
variable(M:Md prog)(H:View)
theorem eS(k:Bk)(A:Option Addr)(lc:Nat)(B:Option Addr)(tc:Nat)(hk:fE H k A lc B tc)(hn:k.small)(hG:gF H)(ha:k.QA=0):
  bA M 49 #[k.val A lc B tc] H (fun v H'=> H.le H'/\∃g:Gl 9 1,v=aCa g 0/\(g.n=k.VH.length/\g.l=VA k.VH)/\∀x∈g.bl,H' x.1=some x.2/\H x.1=none):=by
 obtain⟨_,RN,zK,MC⟩:=Bk.valid ha;have TO:=JU ha;have kA:=fun(H':View) (h':H.le H')=> BC M H' k A lc B tc (hk.le h') hn (FA hG h') ha;refine .en func49 ntmps49 fun St c cs hK=> ?_;refine U2 ?_;refine .bo fun b1=> ?_;refine U6 ?_;refine .cl (fun H hs=> kA H hs.base) ?_;refine U3 ?_;refine .al fun b4=> ?_;refine P4 ?_;refine To.uB rfl rfl rfl rfl rfl rfl dE (yB.h (IU M H k A lc B tc hk.JC MC zK k.nt (Nat.le_refl _))) (fun v H₂ hv=> ?_);obtain⟨hle,m,es,cl,rfl,⟨fm,q3⟩,q4⟩:=hv;have LD:=IX q4;refine .e (Or.range (E:=en) (es:=es) (cl:=cl) rfl rfl (fun H hs=> ⟨fm,hs.base _ _ q3⟩) rfl rfl rfl dE (fun it=> ?_));refine U2 ?_;refine Tc.db (Tc.sA (σ:= { s:Array Nat×List (List UInt8)×Gl 9 1//s.2.2.l=VA s.2.1/\(XC es s.1).length+s.2.1.length=es.size/\∀x,x∈(k.AF k.nt).map (·.heard)<->(x∈s.2.1\/∃me∈XC es s.1,∃e:MF,me.key=e.val/\x=e.heard) })
  (fun s=> ([(1,.pointer (some ⟨b1,0,none⟩)),(4,.pointer (some ⟨b4,0,none⟩)),(6,s.1.2.2.val),(21,.pointer (some ⟨it,0,none⟩))],[(it,true,.mapIter (some m) cl s.1.1 cl),(b4,true,.cells ⟨(k.val A lc B tc).cells.toList⟩ 166 (0,0)),(b1,true,.cells ⟨(k.val A lc B tc).cells.toList⟩ 45 (0,0))]++s.1.2.2.bl)) (fun s=> (XC es s.1.1).length) ?_ ⟨(#[],[],Gl.nil 9 1),rfl,by rw[AD];simp,fun x=> by
   rw[AD,List.mem_map];constructor
   ·rintro⟨e,he,rfl⟩;obtain⟨me,h1,h2,_⟩:=(q4.mem e.val (.bool true)).1 ⟨e,(k.OC _ e).1 he,rfl,rfl⟩;exact .inr ⟨me,h1,e,h2,rfl⟩
   ·rintro(h|⟨me,h1,e,h2,rfl⟩)
    ·cases h
    ·obtain⟨y,h3,h4,_⟩:=qD q4 me h1;rw[XF (h2.symm.trans h4)];exact⟨y,(k.OC _ y).2 h3,rfl⟩⟩)
 rintro⟨⟨seen,dn,g⟩,p2,p3,p4⟩ ih;simp only at p2 p3 p4;show Tc M St _ _ H₂ _ [(1,.pointer (some ⟨b1,0,none⟩)),(4,.pointer (some ⟨b4,0,none⟩)),(6,g.val),(21,.pointer (some ⟨it,0,none⟩))] ([(it,true,.mapIter (some m) cl seen cl),(b4,true,.cells ⟨(k.val A lc B tc).cells.toList⟩ 166 (0,0)),(b1,true,.cells ⟨(k.val A lc B tc).cells.toList⟩ 45 (0,0))]++g.bl) _ _;have MG:g.n=dn.length:=by have:=g.hl;rw[p2,PC] at this;omega
 refine U2 ?_;refine .e (Or.next (es:=es) 0 rfl rfl rfl (fun H hs=> ⟨fm,hs.base _ _ q3⟩) q4.lt rfl dE (fun me he T8=> ?_) (fun OA=> ?_))
 ·have hp :=iG q4.iK he T8;obtain⟨e0,u1,u2,_⟩:=qD q4 me he;have WH:=DI q4 he;have hpl:=hp.length_eq;rw[List.length_cons] at hpl;refine U8 ?_;refine .e (Or.entry (es:=es) (e:=me) (st:=me.born) rfl rfl (fun H hs=> ⟨true,hs.get (i:=0) rfl⟩) (fun H hs=> ⟨fm,hs.base _ _ q3⟩) (by simp) WH rfl dE ?_);rw[u2];refine U ?_;refine .al fun b7=> ?_;refine U6 ?_;refine .e (.bs (zz:=fun bs=> ?_));refine .e (Or.append (E:=en) 5 rfl rfl rfl rfl rfl rfl rfl rfl rfl rfl rfl rfl rfl rfl rfl (fun H hs=> ZA.of (hs.get (i:=0) rfl) (Nat.le_of_ble_eq_true rfl)) rfl oM rfl dE (fun g' gP lM=> ?_));refine U3 ?_;exact Tc.db (ih ⟨(seen.push me.born,dn++[e0.heard],g'),by simp only;rw[lM,p2,zD];rfl,by simp only;rw[List.length_append,List.length_singleton];omega,fun x=> by
   rw[p4 x,List.mem_append,List.mem_singleton];constructor
   ·rintro(h|⟨me',h1,e',h2,h5⟩)
    ·exact .inl (.inl h)
    ·rcases List.mem_cons.1 (hp.mem_iff.1 h1) with rfl|h6
     ·rw[XF (h2.symm.trans u2)] at h5;exact .inl (.inr h5)
     ·exact .inr ⟨me',h6,e',h2,h5⟩
   ·rintro((h|h)|⟨me',h6,h7⟩)
    ·exact .inl h
    ·exact .inr ⟨me,hp.mem_iff.2 (List.mem_cons_self ..),e0,u2,h⟩
    ·exact .inr ⟨me',hp.mem_iff.2 (List.mem_cons_of_mem _ h6),h7⟩⟩ (by simp only;omega))
 ·have XH:=WE OA;rw[XH] at p3 p4;simp only[List.not_mem_nil,false_and,exists_false,or_false] at p4;rw[List.length_nil,Nat.zero_add] at p3;have aAl:k.VH=dK dn:=qS p4;refine U8 ?_;refine .e (Or.N3 (dec:=lK dn) (L1:= [(it,true,.mapIter (some m) cl seen cl),(b4,true,.cells ⟨(k.val A lc B tc).cells.toList⟩ 166 (0,0)),(b1,true,.cells ⟨(k.val A lc B tc).cells.toList⟩ 45 (0,0))]) g (XE dn) (p2.trans (xM _).symm) (BG _) oM rfl rfl rfl rfl rfl dE (fun H Q h=> .h h) (fun g' mm u5 dN jM YU ht hs'=> ?_));rw[<-u5];rw[MG] at ht hs' dN;have UD:(aB mm dn.length).map (lK dn)=k.VH:=by rw[aAl];exact BX rfl ht hs'
  have hE':=(BG dn).WC ht;refine U4 ?_;refine .e (Or.E6 (dec:=lK dn) (L1:= [(it,true,.mapIter (some m) cl seen cl),(b4,true,.cells ⟨(k.val A lc B tc).cells.toList⟩ 166 (0,0)),(b1,true,.cells ⟨(k.val A lc B tc).cells.toList⟩ 45 (0,0))]) g' mm YU hE' oM rfl rfl rfl rfl rfl dE (fun H Q h=> .h h) (fun g2 SW fP=> ?_));rw[dN] at SW fP;have hl4:g2.l=VA k.VH:=by rw[fP,jQ,UD];rfl
  have hn4:g2.n=k.VH.length:=by rw[SW,<-UD,List.length_map]
  refine U3 ?_;refine .rt hK func49 results49 [_,_] ?_;exact fun H' hs=> ⟨View.le_trans hle hs.base,g2,rfl,⟨hn4,hl4⟩,fun x hx=> ⟨hs.at_ x (by simp[hx]),none_le hle (hs.out x (by simp[hx]))⟩⟩
end
end Go.Proofs.YtldmfjcgjdchcaaGreatDoor
namespace Go.RL
open Go.Conc
section
variable {P:Program}{M:Md P}{St:View->Goroutine->Prop}{n:Nat}{b:FB}{H₀:View}{cs:List Frame}{R:Rg}{L:Bl}{ds:List Deferred}{k:List Item}{md:Region.Mode}{ops:Array Oper}
theorem Ta.P9(i j:Nat){B:List Nat}{Hs:View}{Ls Lb:Bl}{o:Oper}{d:Nat}{fuel:Nat}{listed:Array Bool}{cl:Go.Call}{x:Operand}{fv:Value}{az:List Value}(hr:Region.ready md ops listed= [i,j])(hi:ops[i]? =some o)
  (hw:KA (ops.toList.map (fun o:Oper=> o.dst)) R o=some true) (kA:o.op=.call cl) (iB:cl.callee=.value x) (hx:HA R x=some fv) (has:VC R cl.args.toList=some az) (hd:o.dst=some d) (hn:d<n)
  {Q:Value->View->Prop} (hc:yB M fv az H₀ Q) (hle:∀v H₁,Q v H₁->Hs.le H₁) (h1:Ls.Sublist L) (h2:(B.all fun j=> !((listed.setIfInBounds i true).getD j true))=false\/Lb.Sublist L)
  (hk:∀v H₁,Q v H₁->Ta M St n b H₁ cs (S2 Hs B Ls Lb) md ops fuel (listed.setIfInBounds i true) ((d,v)::R) L ds k)
  (hj:kS M St n b H₀ cs (S2 Hs B Ls Lb) md ops fuel listed R L ds k j):
  Ta M St n b H₀ cs (S2 Hs B Ls Lb) md ops (fuel+1) listed R L ds k:=fun H tmps hs rE _ H₂ h2' _=> by
 have hs:=hs.mono h2';refine⟨fun e=> (by rw[hr] at e;cases e),fun j' US o' iP=> ?_⟩;rw[hr] at US;have OS:j'=i\/j'=j:=by simpa using US
 rcases OS with rfl|rfl
 ·rw[hi] at iP;cases iP
  refine⟨(by rw[kA];rfl),?_⟩;have WW:Region.wanted o (yielded ops tmps)=true:=wB (fun j=> by
   simp only[List.getElem?_map,Array.getElem?_toList];cases ops[j]? <;> rfl) rE hw
  rw[if_pos WW];obtain⟨F,rfl,S4,hF⟩:=hs.split;have e1:=rE.ev hx;have XG:cl.args.map (CB tmps)=az.toArray:=by
   apply Array.ext'
   simpa using rE.evs has
  have hex:execOp (CB tmps) o=(Deferred.ofValue fv az.toArray).bind fun d=> invoke d.target d.args:=by
   have h1:execOp (CB tmps) o=(resolve (CB tmps) cl o.type).bind fun d=> invoke d.target d.args:=by unfold execOp;rw[kA];rfl
   rw[h1];unfold resolve;rw[iB];simp only[e1,XG]
  unfold vE;rw[hex];have fin:∀v H'',vJ F Q v H''->S2 Hs B Ls Lb (listed.setIfInBounds j' true) H''/\BH M md ops (S2 Hs B Ls Lb) (fun tmps H=> T M St H (G (b.at tmps ds k) cs)) fuel (listed.setIfInBounds j' true) (OB tmps o.dst v) H'':=by
   rintro v H'' ⟨H₁,rfl,UO,hq⟩;have iR:iA H₁ L (H₁.plus F):=.mR hs.nodup hF UO;have hS:S2 Hs B Ls Lb (listed.setIfInBounds j' true) (H₁.plus F):=S2.g9 (hle v H₁ hq) h1 h2 _ iR;refine⟨hS,?_⟩;rw[hd];exact hk v H₁ hq _ _ iR (rE.put hn v) hS
  refine SA _ (fun nx H' dN=> ?_) (hc.frame S4);cases nx <;> first
   | exact dN.elim
   | exact bA.mono dN fin
   | exact YL.mono dN fin
 ·obtain⟨o2,ho2,hd2,hw2,h'⟩:=hj;rw[iP] at ho2;cases ho2
  refine⟨hd2,?_⟩;have WW:Region.wanted o' (yielded ops tmps)=true:=wB (fun j=> by
   simp only[List.getElem?_map,Array.getElem?_toList];cases ops[j]? <;> rfl) rE hw2
  rw[if_pos WW];refine(h' H₂ tmps hs rE).mono ?_;rintro t H' ⟨R',L',h1,h2,h3,h4⟩;exact⟨h3 H' h2,h4 H' t h2 h1 (h3 H' h2)⟩
theorem Tc.aER {x:Item}(F:View->Rg->Bl->Prop)(hF:∀H R L,F H R L->Tc M St n b H cs R L ds k)(h:(∀H R L,F H R L->Tc M St n b H cs R L ds k)->Tc M St n b H₀ cs R L ds (x::k)):Tc M St n b H₀ cs R L ds (x::k):=h hF
end
end Go.RL
namespace Go.Proofs.YtldmfjcgjdchcaaGreatDoor
open Go.RL Go.Proofs.Tryz
set_option maxRecDepth 10000
set_option maxHeartbeats 32000000
theorem GO {H:View}{b:Nat}{f:Bool}{gt:TypeId}{gz:Nat×Nat}(m:List (List UInt8))(h:H b=some (f,.cells ⟨VA m⟩ gt gz)):oC H (some ⟨b,0,none⟩) m.length (fun j=> m[j]?.getD []):=
 .inr ⟨b,0,f,_,gt,gz,rfl,h,fun j hj=> by
  show(VA m)[_]? =_;rw[Nat.zero_add,Int.toNat_natCast,Nat.mul_one];unfold VA;rw[List.getElem?_map];simp only[List.getElem?_eq_getElem hj];rfl⟩
theorem RJ(l:List (List UInt8)){n:Nat}(hn:n=l.length):(decide (n=l.length)&&wF (fun i=> decide ((fun j=> l[j]?.getD []) i=(fun j=> l[j]?.getD []) i)) n)=true:=by
 rw[decide_eq_true hn,(vC n).2 (fun i _=> decide_eq_true rfl)];rfl
theorem jE {H:View}{b:Nat}{f:Bool}{gt:TypeId}{gz:Nat×Nat}(m:List Int)(h:H b=some (f,.cells ⟨IA m⟩ gt gz)):pB H (some ⟨b,0,none⟩) m.length (YB m):=
 .inr ⟨b,0,f,_,gt,gz,rfl,h,fun j hj=> by
  show(IA m)[_]? =_;rw[Nat.zero_add,Int.toNat_natCast,Nat.mul_one];unfold IA YB;rw[List.getElem?_map];simp only[List.getElem?_eq_getElem hj];rfl⟩
theorem wW {e:TypeId}(g:Gl e 1){H:View}(h:∀x∈g.bl,H x.1=some x.2){f:Nat->Int}{n:Nat}(hl:g.l=iU f n)(hn:g.n=n):pB H (g.blk.map fun b=> ⟨b,0,none⟩) n f:=by
 cases hb:g.blk with
 | none=>
  have:=g.h0 hb;have:=g.hc;exact .inl oM
 | some b=>
  have EJ:g.bl= [(b,true,.cells ⟨g.l++g.kB⟩ e (0,0))]:=by unfold Gl.bl;rw[hb]
  refine .inr ⟨b,0,true,_,e,(0,0),rfl,h (b,true,.cells ⟨g.l++g.kB⟩ e (0,0)) (by rw[EJ];simp),fun j hj=> ?_⟩;show(g.l++g.kB)[_]? =_;rw[Nat.zero_add,Int.toNat_natCast,Nat.mul_one,List.getElem?_append_left (by rw[hl,B6];exact hj),hl];unfold iU;rw[List.getElem?_map,List.getElem?_range hj];rfl
theorem CZ(m:List Int):IA m=iU (YB m) m.length:=by
 apply List.ext_getElem?
 intro i;unfold IA iU YB;rw[List.getElem?_map,List.getElem?_map];by_cases h:i<m.length
 ·rw[List.getElem?_range h,List.getElem?_eq_getElem h];simp[h]
 ·rw[List.getElem?_eq_none oM,List.getElem?_eq_none (by simp;omega)];rfl
theorem three {p:Nat->Prop}(h0:p 0)(h1:p 1)(h2:p 2):∀i,i<3->p i:=fun i hi=> by
 rcases(by omega:i=0\/i=1\/i=2) with rfl|rfl|rfl
 ·exact h0
 ·exact h1
 ·exact h2
theorem two {p:Nat->Prop}(h0:p 0)(h1:p 1):∀i,i<2->p i:=fun i hi=> by
 rcases(by omega:i=0\/i=1) with rfl|rfl
 ·exact h0
 ·exact h1
theorem W3 {H:View}{a:Option Addr}{n c:Nat}{l:List (List UInt8)}(h:ZA H 1 (.slice a n c) n (VA l))(hn:n=l.length):oC H a n (fun j=> l[j]?.getD []):=by
 obtain⟨_,_,⟨_,_,h1,h2⟩|⟨b,off,c',f,cs,e,fz,h1,h2,h3,h4⟩⟩:=h
 ·have:l= []:=by simpa [VA] using h2
  exact .inl (by rw[hn,this];rfl)
 ·simp only[Value.slice.injEq] at h1;refine .inr ⟨b,off,f,cs,e,fz,h1.1,h2,fun j hj=> ?_⟩;show cs[_]? =_;have QW:j<l.length:=by omega
  have h5:=congrArg (fun x=> x[j]?) h4;simp only[List.getElem?_take,List.getElem?_drop] at h5;rw[if_pos (by rw[PC];exact QW)] at h5;rw[Int.toNat_natCast,Nat.mul_one,h5];unfold VA;rw[List.getElem?_map];simp only[List.getElem?_eq_getElem QW];rfl
theorem To.aAO {P:Program}{M:Md P}{St:View->Goroutine->Prop}{n:Nat}{b:FB}{H₀:View}{cs:List Frame}{R:Rg}{L L₁:Bl}{ds:List Deferred}{k:List Item}{dl:List (Option Tmp)}{l:List Oper}(p:L₁.Perm L)(h:To M St n b H₀ cs dl R L₁ ds l k):To M St n b H₀ cs dl R L ds l k:=To.perm p h
theorem y7(H:View)(hG:gF H):bA (Mp prog) 15 #[] H (fun v H'=> H.le H'/\v=.bool true):=by
 have sD:QD.small:=EN rfl dE rfl rfl;have sE:KE.small:=EN rfl dE rfl rfl;have sO:HQ.small:=EN rfl dE rfl rfl;refine .en func15 ntmps15 fun St c cs hK=> ?_;refine U6 ?_;refine To.uB rfl rfl rfl rfl rfl rfl dE (yB.h (qX _ H)) (fun v H1 hv=> ?_);obtain⟨tl1,dA,dlc,dB,dtc,dF,dfc,rfl,hD1⟩:=hv;refine To.uB rfl rfl rfl rfl rfl rfl dE (yB.h (P1 _ H1)) (fun v H2 hv=> ?_);obtain⟨le2,eA,elc,eB,etc,eF,efc,rfl,hE2⟩:=hv;have tl2:=View.le_trans tl1 le2;have hD2:=hD1.le le2;have hG2:=FA hG tl2;refine .al fun b1=> ?_;refine .al fun b2=> ?_;refine U4 ?_;refine Tc.db (R':= [(1,.pointer (some ⟨b1,0,none⟩)),(2,.pointer (some ⟨b2,0,none⟩))]) (L':= [(b2,true,.cells ⟨(KE.val eA elc eB etc).cells.toList⟩ 45 (0,0)),(b1,true,.cells ⟨(QD.val dA dlc dB dtc).cells.toList⟩ 45 (0,0))]) ?_;refine U2 ?_;refine To.uB rfl rfl rfl rfl rfl rfl dE (yB.h (eS _ H2 QD dA dlc dB dtc hD2.bk sD hG2 zF)) (fun v H3 hv=> ?_);obtain⟨le3,g3,rfl,⟨ng3,lg3⟩,mg3⟩:=hv;rw[KX] at ng3 lg3;refine U6 ?_;have tl3:=View.le_trans tl2 le3;have hD3:=hD2.le le3;have hE3:=hE2.le le3;have hG3:=FA hG tl3;refine U ?_;refine Tc.db (R':= [(1,.pointer (some ⟨b1,0,none⟩)),(2,.pointer (some ⟨b2,0,none⟩)),(3,g3.val),(4,.int .i64 0)]) (L':= [(b2,true,.cells ⟨(KE.val eA elc eB etc).cells.toList⟩ 45 (0,0)),(b1,true,.cells ⟨(QD.val dA dlc dB dtc).cells.toList⟩ 45 (0,0))]) ?_;refine U2 ?_;refine To.uB rfl rfl rfl rfl rfl rfl dE (yB.h (wP _ H3 QD dA dlc dB dtc hD3.bk sD hG3 zF)) (fun v H4 hv=> ?_);obtain⟨le4,g5,rfl,⟨ng5,lg5⟩,mg5⟩:=hv;rw[TQ.2];refine U8 ?_;have tl4:=View.le_trans tl3 le4;have hD4:=hD3.le le4;have hE4:=hE3.le le4;have hG4:=FA hG tl4;refine U ?_;refine Tc.db (R':= [(1,.pointer (some ⟨b1,0,none⟩)),(2,.pointer (some ⟨b2,0,none⟩)),(3,g3.val),(4,.int .i64 0),(5,g5.val),(6,.int .i64 2),(7,.int .i64 0)]) (L':= [(b2,true,.cells ⟨(KE.val eA elc eB etc).cells.toList⟩ 45 (0,0)),(b1,true,.cells ⟨(QD.val dA dlc dB dtc).cells.toList⟩ 45 (0,0))]) ?_;refine U2 ?_;refine To.uB rfl rfl rfl rfl rfl rfl dE (yB.h (eS _ H4 KE eA elc eB etc hE4.bk sE hG4 GQ)) (fun v H5 hv=> ?_);obtain⟨le5,g8,rfl,⟨ng8,lg8⟩,mg8⟩:=hv;rw[LX] at ng8 lg8;refine U6 ?_;have tl5:=View.le_trans tl4 le5;have hD5:=hD4.le le5;have hE5:=hE4.le le5;have hG5:=FA hG tl5;refine U ?_;refine Tc.db (R':= [(1,.pointer (some ⟨b1,0,none⟩)),(2,.pointer (some ⟨b2,0,none⟩)),(3,g3.val),(4,.int .i64 0),(5,g5.val),(6,.int .i64 2),(7,.int .i64 0),(8,g8.val),(9,.int .i64 0)]) (L':= [(b2,true,.cells ⟨(KE.val eA elc eB etc).cells.toList⟩ 45 (0,0)),(b1,true,.cells ⟨(QD.val dA dlc dB dtc).cells.toList⟩ 45 (0,0))]) ?_;refine U2 ?_;refine To.uB rfl rfl rfl rfl rfl rfl dE (yB.h (wP _ H5 KE eA elc eB etc hE5.bk sE hG5 GQ)) (fun v H6 hv=> ?_);obtain⟨le6,g10,rfl,⟨ng10,lg10⟩,mg10⟩:=hv;rw[UQ.2];refine U8 ?_;have tl6:=View.le_trans tl5 le6;have hD6:=hD5.le le6;have hE6:=hE5.le le6;have hG6:=FA hG tl6;refine U ?_;refine Tc.db (R':= [(1,.pointer (some ⟨b1,0,none⟩)),(2,.pointer (some ⟨b2,0,none⟩)),(3,g3.val),(4,.int .i64 0),(5,g5.val),(6,.int .i64 2),(7,.int .i64 0),(8,g8.val),(9,.int .i64 0),(10,g10.val),(11,.int .i64 0),(12,.int .i64 0)]) (L':= [(b2,true,.cells ⟨(KE.val eA elc eB etc).cells.toList⟩ 45 (0,0)),(b1,true,.cells ⟨(QD.val dA dlc dB dtc).cells.toList⟩ 45 (0,0))]) ?_;have fl6:=fun(H':View) (p1 p2:Nat) (h':H6.le H') (k1:H' p1=some (true,.cells ⟨IA [1,1,2]⟩ 3 (0,0))) (k2:H' p2=some (true,.cells ⟨IA [3,9,9]⟩ 3 (0,0)))=> K1 (cS (Mp prog) H' KE eA elc eB etc (hE6.bk.le h') sE (FA hG6 h') (some ⟨p1,0,none⟩) (some ⟨p2,0,none⟩) 3 3 3 3 (YB [1,1,2]) (YB [3,9,9]) (jE [1,1,2] k1) (jE [3,9,9] k2)) MU;refine U2 ?_;refine .e (.bs (zz:=fun p1=> ?_));refine .e (.bs (zz:=fun p2=> ?_));refine .cl (fun H hs=> fl6 H p1 p2 hs.base (hs.get (i:=1) rfl) (hs.get (i:=0) rfl)) ?_;refine U9 ?_;refine Tc.db (R':= [(1,.pointer (some ⟨b1,0,none⟩)),(2,.pointer (some ⟨b2,0,none⟩)),(3,g3.val),(4,.int .i64 0),(5,g5.val),(6,.int .i64 2),(7,.int .i64 0),(8,g8.val),(9,.int .i64 0),(10,g10.val),(11,.int .i64 0),(12,.int .i64 0),(13,gA [50,50]),(14,.int .i64 2),(15,.int .i64 0)]) (L':= [(b2,true,.cells ⟨(KE.val eA elc eB etc).cells.toList⟩ 45 (0,0)),(b1,true,.cells ⟨(QD.val dA dlc dB dtc).cells.toList⟩ 45 (0,0))]) ?_;have fl7:=fun(H':View) (p1 p2:Nat) (h':H6.le H') (k1:H' p1=some (true,.cells ⟨IA [1,1,2]⟩ 3 (0,0))) (k2:H' p2=some (true,.cells ⟨IA [5,9,9]⟩ 3 (0,0)))=> K1 (cS (Mp prog) H' KE eA elc eB etc (hE6.bk.le h') sE (FA hG6 h') (some ⟨p1,0,none⟩) (some ⟨p2,0,none⟩) 3 3 3 3 (YB [1,1,2]) (YB [5,9,9]) (jE [1,1,2] k1) (jE [5,9,9] k2)) NU;refine U2 ?_;refine .e (.bs (zz:=fun p1=> ?_));refine .e (.bs (zz:=fun p2=> ?_));refine .cl (fun H hs=> fl7 H p1 p2 hs.base (hs.get (i:=1) rfl) (hs.get (i:=0) rfl)) ?_;refine U9 ?_;refine Tc.db (R':= [(1,.pointer (some ⟨b1,0,none⟩)),(2,.pointer (some ⟨b2,0,none⟩)),(3,g3.val),(4,.int .i64 0),(5,g5.val),(6,.int .i64 2),(7,.int .i64 0),(8,g8.val),(9,.int .i64 0),(10,g10.val),(11,.int .i64 0),(12,.int .i64 0),(13,gA [50,50]),(14,.int .i64 2),(15,.int .i64 0),(16,gA [49,49,50]),(17,.int .i64 (-1)),(18,.int .i64 0)]) (L':= [(b2,true,.cells ⟨(KE.val eA elc eB etc).cells.toList⟩ 45 (0,0)),(b1,true,.cells ⟨(QD.val dA dlc dB dtc).cells.toList⟩ 45 (0,0))]) ?_;refine U2 ?_;refine .cl (fun H hs=> K1 (C9 H QD dA dlc dB dtc dF dfc (hD6.le hs.base) sD (FA hG6 hs.base) zF) (congrArg c9 K6)) ?_;refine U9 ?_;refine Tc.db (R':= [(1,.pointer (some ⟨b1,0,none⟩)),(2,.pointer (some ⟨b2,0,none⟩)),(3,g3.val),(4,.int .i64 0),(5,g5.val),(6,.int .i64 2),(7,.int .i64 0),(8,g8.val),(9,.int .i64 0),(10,g10.val),(11,.int .i64 0),(12,.int .i64 0),(13,gA [50,50]),(14,.int .i64 2),(15,.int .i64 0),(16,gA [49,49,50]),(17,.int .i64 (-1)),(18,.int .i64 0),(19,.int .i64 1),(20,.int .i64 1),(21,.int .i64 0)]) (L':= [(b2,true,.cells ⟨(KE.val eA elc eB etc).cells.toList⟩ 45 (0,0)),(b1,true,.cells ⟨(QD.val dA dlc dB dtc).cells.toList⟩ 45 (0,0))]) ?_;refine U2 ?_;refine .cl (fun H hs=> K1 (xP _ H QD dA dlc dB dtc (hD6.bk.le hs.base) sD (FA hG6 hs.base) zF) (congrArg xO L6)) ?_;refine qE ?_;refine Tc.db (R':= [(1,.pointer (some ⟨b1,0,none⟩)),(2,.pointer (some ⟨b2,0,none⟩)),(3,g3.val),(4,.int .i64 0),(5,g5.val),(6,.int .i64 2),(7,.int .i64 0),(8,g8.val),(9,.int .i64 0),(10,g10.val),(11,.int .i64 0),(12,.int .i64 0),(13,gA [50,50]),(14,.int .i64 2),(15,.int .i64 0),(16,gA [49,49,50]),(17,.int .i64 (-1)),(18,.int .i64 0),(19,.int .i64 1),(20,.int .i64 1),(21,.int .i64 0),(22,.int .i64 0),(23,.int .i64 0),(24,.bool false),(25,.int .i64 0)]) (L':= [(b2,true,.cells ⟨(KE.val eA elc eB etc).cells.toList⟩ 45 (0,0)),(b1,true,.cells ⟨(QD.val dA dlc dB dtc).cells.toList⟩ 45 (0,0))]) ?_;refine Tc.aER (fun H' R' L'=> ∃oA olc oB otc oF ofc b26,H6.le H'/\WB H' HQ oA olc oB otc oF ofc/\jC [(1,.pointer (some ⟨b1,0,none⟩)),(2,.pointer (some ⟨b2,0,none⟩)),(3,g3.val),(4,.int .i64 0),(5,g5.val),(6,.int .i64 2),(7,.int .i64 0),(8,g8.val),(9,.int .i64 0),(10,g10.val),(11,.int .i64 0),(12,.int .i64 0),(13,gA [50,50]),(14,.int .i64 2),(15,.int .i64 0),(16,gA [49,49,50]),(17,.int .i64 (-1)),(18,.int .i64 0),(19,.int .i64 1),(20,.int .i64 1),(21,.int .i64 0),(22,.int .i64 0),(23,.int .i64 0),(24,.bool false),(25,.int .i64 0),(26,.pointer (some ⟨b26,0,none⟩)),(27,.int .i64 0)] R'/\List.Sublist [(b26,true,.cells ⟨(HQ.val oA olc oB otc).cells.toList⟩ 45 (0,0)),(b2,true,.cells ⟨(KE.val eA elc eB etc).cells.toList⟩ 45 (0,0)),(b1,true,.cells ⟨(QD.val dA dlc dB dtc).cells.toList⟩ 45 (0,0))] L') ?_ (fun fin=> ?_)
 rotate_left
 ·refine Tc.dr [7] [] mixed rfl ?_;refine .q 0 rfl (pA.load (E:=en) 1 rfl rfl rfl rfl rfl) ?_;refine .z 1 rfl (pA.tk fun H hs=> kN _ H 2 6) ?_;refine Ta.P9 2 6 kR rfl rfl rfl rfl rfl rfl rfl dE (yB.h (VY _ H6 QD dA dlc dB dtc dF dfc hD6 sD hG6 zF 1 dE 2 2 6 6 ZM.1 ZM.2)) (by intro _ _ hh;exact hh.1) sL (.inr sL) (fun v Hk hv=> ?_) (kS.mk rfl rfl rfl (.al (zz:=fun b26=> ⟨S2.mk sL (.inr sL),?_⟩)))
  ·obtain⟨lek,oA,olc,oB,otc,oF,ofc,rfl,hO⟩:=hv;refine V2 3 ?_;refine .nw 5 ?_;refine .ea 6 rfl (.al (zz:=fun b26=> ⟨S2.g9 lek sL (.inr sL),?_⟩));refine .ea 7 rfl (Or.storeT (E:=en) 0 rfl rfl rfl rfl rfl rfl rfl rfl rfl rfl rfl ⟨S2.g9 lek sL (.inl kR),?_⟩);refine .nw 8 ?_;refine .dn ?_;exact fin _ _ _ ⟨oA,olc,oB,otc,oF,ofc,b26,lek,hO,⟨rfl,rfl,rfl,rfl,rfl,rfl,rfl,rfl,rfl,rfl,rfl,rfl,rfl,rfl,rfl,rfl,rfl,rfl,rfl,rfl,rfl,rfl,rfl,rfl,rfl,rfl,rfl,trivial⟩,sL⟩
  ·refine Ta.tZ 2 kR rfl rfl rfl rfl rfl rfl rfl dE (yB.h (VY _ H6 QD dA dlc dB dtc dF dfc hD6 sD hG6 zF 1 dE 2 2 6 6 ZM.1 ZM.2)) (by intro _ _ hh;exact hh.1) sL (.inr sL) (fun v Hk hv=> ?_);obtain⟨lek,oA,olc,oB,otc,oF,ofc,rfl,hO⟩:=hv;refine V2 3 ?_;refine .nw 5 ?_;refine .ea 7 rfl (Or.storeT (E:=en) 0 rfl rfl rfl rfl rfl rfl rfl rfl rfl rfl rfl ⟨S2.g9 lek sL (.inl kR),?_⟩);refine .nw 8 ?_;refine .dn ?_;exact fin _ _ _ ⟨oA,olc,oB,otc,oF,ofc,b26,lek,hO,⟨rfl,rfl,rfl,rfl,rfl,rfl,rfl,rfl,rfl,rfl,rfl,rfl,rfl,rfl,rfl,rfl,rfl,rfl,rfl,rfl,rfl,rfl,rfl,rfl,rfl,rfl,rfl,trivial⟩,sL⟩
 rintro H7 R' L' ⟨oA,olc,oB,otc,oF,ofc,b26,le7,hO7,hR,hL⟩;have tl7:=View.le_trans tl6 le7;have hD7:=hD6.le le7;have hE7:=hE6.le le7;have hG7:=FA hG tl7;refine Tc.ZC (R':= [(1,.pointer (some ⟨b1,0,none⟩)),(2,.pointer (some ⟨b2,0,none⟩)),(3,g3.val),(4,.int .i64 0),(5,g5.val),(6,.int .i64 2),(7,.int .i64 0),(8,g8.val),(9,.int .i64 0),(10,g10.val),(11,.int .i64 0),(12,.int .i64 0),(13,gA [50,50]),(14,.int .i64 2),(15,.int .i64 0),(16,gA [49,49,50]),(17,.int .i64 (-1)),(18,.int .i64 0),(19,.int .i64 1),(20,.int .i64 1),(21,.int .i64 0),(22,.int .i64 0),(23,.int .i64 0),(24,.bool false),(25,.int .i64 0),(26,.pointer (some ⟨b26,0,none⟩)),(27,.int .i64 0)]) (L':= [(b26,true,.cells ⟨(HQ.val oA olc oB otc).cells.toList⟩ 45 (0,0)),(b2,true,.cells ⟨(KE.val eA elc eB etc).cells.toList⟩ 45 (0,0)),(b1,true,.cells ⟨(QD.val dA dlc dB dtc).cells.toList⟩ 45 (0,0))]) ?_ hR hL;refine U3 ?_;refine .cl (fun H hs=> K1 (xP _ H HQ oA olc oB otc (hO7.bk.le hs.base) sO (FA hG7 hs.base) M9) (congrArg xO M6)) ?_;refine qE ?_;refine Tc.db (R':= [(1,.pointer (some ⟨b1,0,none⟩)),(2,.pointer (some ⟨b2,0,none⟩)),(3,g3.val),(4,.int .i64 0),(5,g5.val),(6,.int .i64 2),(7,.int .i64 0),(8,g8.val),(9,.int .i64 0),(10,g10.val),(11,.int .i64 0),(12,.int .i64 0),(13,gA [50,50]),(14,.int .i64 2),(15,.int .i64 0),(16,gA [49,49,50]),(17,.int .i64 (-1)),(18,.int .i64 0),(19,.int .i64 1),(20,.int .i64 1),(21,.int .i64 0),(22,.int .i64 0),(23,.int .i64 0),(24,.bool false),(25,.int .i64 0),(26,.pointer (some ⟨b26,0,none⟩)),(27,.int .i64 0),(28,.int .i64 2),(29,.int .i64 0),(30,.bool true),(31,.int .i64 0)]) (L':= [(b26,true,.cells ⟨(HQ.val oA olc oB otc).cells.toList⟩ 45 (0,0)),(b2,true,.cells ⟨(KE.val eA elc eB etc).cells.toList⟩ 45 (0,0)),(b1,true,.cells ⟨(QD.val dA dlc dB dtc).cells.toList⟩ 45 (0,0))]) ?_;have e2:QD.bF 1 (QD.nf 1)=2:=FN.2;refine U2 ?_;refine To.uB rfl rfl rfl rfl rfl rfl dE (yB.h (X5 _ H7 QD dA dlc dB dtc hD7.bk sD hG7 zF 1 dE)) (fun v H8 hv=> ?_);obtain⟨le8,g32,rfl,⟨ng32,lg32⟩,mg32⟩:=hv;rw[e2];refine U8 ?_;have tl8:=View.le_trans tl7 le8;have hD8:=hD7.le le8;have hE8:=hE7.le le8;have hO8:=hO7.le le8;have hG8:=FA hG tl8;refine U ?_;refine Tc.db (R':= [(1,.pointer (some ⟨b1,0,none⟩)),(2,.pointer (some ⟨b2,0,none⟩)),(3,g3.val),(4,.int .i64 0),(5,g5.val),(6,.int .i64 2),(7,.int .i64 0),(8,g8.val),(9,.int .i64 0),(10,g10.val),(11,.int .i64 0),(12,.int .i64 0),(13,gA [50,50]),(14,.int .i64 2),(15,.int .i64 0),(16,gA [49,49,50]),(17,.int .i64 (-1)),(18,.int .i64 0),(19,.int .i64 1),(20,.int .i64 1),(21,.int .i64 0),(22,.int .i64 0),(23,.int .i64 0),(24,.bool false),(25,.int .i64 0),(26,.pointer (some ⟨b26,0,none⟩)),(27,.int .i64 0),(28,.int .i64 2),(29,.int .i64 0),(30,.bool true),(31,.int .i64 0),(32,g32.val),(33,.int .i64 2),(34,.int .i64 0)]) (L':= [(b26,true,.cells ⟨(HQ.val oA olc oB otc).cells.toList⟩ 45 (0,0)),(b2,true,.cells ⟨(KE.val eA elc eB etc).cells.toList⟩ 45 (0,0)),(b1,true,.cells ⟨(QD.val dA dlc dB dtc).cells.toList⟩ 45 (0,0))]) ?_;refine U2 ?_;refine To.uB rfl rfl rfl rfl rfl rfl dE (yB.h (Q5 _ H8 QD dA dlc dB dtc hD8.bk sD hG8 zF 0 dE)) (fun v H9 hv=> ?_);obtain⟨le9,g35,sm,rfl,⟨st1,st2⟩,⟨ng35,lg35⟩,mg35⟩:=hv;have e35:aB sm sm.length= [1,2]:=by rw[st1.len,I1 rfl st1 st2];exact TZ
 rw[e35] at ng35 lg35;refine U6 ?_;have tl9:=View.le_trans tl8 le9;have hD9:=hD8.le le9;have hE9:=hE8.le le9;have hO9:=hO8.le le9;have hG9:=FA hG tl9;refine U ?_;refine Tc.db (R':= [(1,.pointer (some ⟨b1,0,none⟩)),(2,.pointer (some ⟨b2,0,none⟩)),(3,g3.val),(4,.int .i64 0),(5,g5.val),(6,.int .i64 2),(7,.int .i64 0),(8,g8.val),(9,.int .i64 0),(10,g10.val),(11,.int .i64 0),(12,.int .i64 0),(13,gA [50,50]),(14,.int .i64 2),(15,.int .i64 0),(16,gA [49,49,50]),(17,.int .i64 (-1)),(18,.int .i64 0),(19,.int .i64 1),(20,.int .i64 1),(21,.int .i64 0),(22,.int .i64 0),(23,.int .i64 0),(24,.bool false),(25,.int .i64 0),(26,.pointer (some ⟨b26,0,none⟩)),(27,.int .i64 0),(28,.int .i64 2),(29,.int .i64 0),(30,.bool true),(31,.int .i64 0),(32,g32.val),(33,.int .i64 2),(34,.int .i64 0),(35,g35.val),(36,.int .i64 0)]) (L':= [(b26,true,.cells ⟨(HQ.val oA olc oB otc).cells.toList⟩ 45 (0,0)),(b2,true,.cells ⟨(KE.val eA elc eB etc).cells.toList⟩ 45 (0,0)),(b1,true,.cells ⟨(QD.val dA dlc dB dtc).cells.toList⟩ 45 (0,0))]) ?_;refine U2 ?_;refine .cl (fun H hs=> K1 (cZ _ H QD dA dlc dB dtc (hD9.bk.le hs.base) sD (FA hG9 hs.base) [51] dE) RZ) ?_;refine U7 ?_;refine Tc.db (R':= [(1,.pointer (some ⟨b1,0,none⟩)),(2,.pointer (some ⟨b2,0,none⟩)),(3,g3.val),(4,.int .i64 0),(5,g5.val),(6,.int .i64 2),(7,.int .i64 0),(8,g8.val),(9,.int .i64 0),(10,g10.val),(11,.int .i64 0),(12,.int .i64 0),(13,gA [50,50]),(14,.int .i64 2),(15,.int .i64 0),(16,gA [49,49,50]),(17,.int .i64 (-1)),(18,.int .i64 0),(19,.int .i64 1),(20,.int .i64 1),(21,.int .i64 0),(22,.int .i64 0),(23,.int .i64 0),(24,.bool false),(25,.int .i64 0),(26,.pointer (some ⟨b26,0,none⟩)),(27,.int .i64 0),(28,.int .i64 2),(29,.int .i64 0),(30,.bool true),(31,.int .i64 0),(32,g32.val),(33,.int .i64 2),(34,.int .i64 0),(35,g35.val),(36,.int .i64 0),(37,.bool false),(38,.int .i64 0)]) (L':= [(b26,true,.cells ⟨(HQ.val oA olc oB otc).cells.toList⟩ 45 (0,0)),(b2,true,.cells ⟨(KE.val eA elc eB etc).cells.toList⟩ 45 (0,0)),(b1,true,.cells ⟨(QD.val dA dlc dB dtc).cells.toList⟩ 45 (0,0))]) ?_;refine U2 ?_;refine .cl (fun H hs=> K1 (cZ _ H QD dA dlc dB dtc (hD9.bk.le hs.base) sD (FA hG9 hs.base) [53] dE) SZ) ?_;refine U7 ?_;refine Tc.db (R':= [(1,.pointer (some ⟨b1,0,none⟩)),(2,.pointer (some ⟨b2,0,none⟩)),(3,g3.val),(4,.int .i64 0),(5,g5.val),(6,.int .i64 2),(7,.int .i64 0),(8,g8.val),(9,.int .i64 0),(10,g10.val),(11,.int .i64 0),(12,.int .i64 0),(13,gA [50,50]),(14,.int .i64 2),(15,.int .i64 0),(16,gA [49,49,50]),(17,.int .i64 (-1)),(18,.int .i64 0),(19,.int .i64 1),(20,.int .i64 1),(21,.int .i64 0),(22,.int .i64 0),(23,.int .i64 0),(24,.bool false),(25,.int .i64 0),(26,.pointer (some ⟨b26,0,none⟩)),(27,.int .i64 0),(28,.int .i64 2),(29,.int .i64 0),(30,.bool true),(31,.int .i64 0),(32,g32.val),(33,.int .i64 2),(34,.int .i64 0),(35,g35.val),(36,.int .i64 0),(37,.bool false),(38,.int .i64 0),(39,.bool true),(40,.int .i64 0)]) (L':= [(b26,true,.cells ⟨(HQ.val oA olc oB otc).cells.toList⟩ 45 (0,0)),(b2,true,.cells ⟨(KE.val eA elc eB etc).cells.toList⟩ 45 (0,0)),(b1,true,.cells ⟨(QD.val dA dlc dB dtc).cells.toList⟩ 45 (0,0))]) ?_;refine U2 ?_;refine .cl (fun H hs=> K1 (W5 _ H QD dA dlc dB dtc (hD9.bk.le hs.base) sD (FA hG9 hs.base) 1 true) UZ) ?_;refine U9 ?_;refine Tc.db (R':= [(1,.pointer (some ⟨b1,0,none⟩)),(2,.pointer (some ⟨b2,0,none⟩)),(3,g3.val),(4,.int .i64 0),(5,g5.val),(6,.int .i64 2),(7,.int .i64 0),(8,g8.val),(9,.int .i64 0),(10,g10.val),(11,.int .i64 0),(12,.int .i64 0),(13,gA [50,50]),(14,.int .i64 2),(15,.int .i64 0),(16,gA [49,49,50]),(17,.int .i64 (-1)),(18,.int .i64 0),(19,.int .i64 1),(20,.int .i64 1),(21,.int .i64 0),(22,.int .i64 0),(23,.int .i64 0),(24,.bool false),(25,.int .i64 0),(26,.pointer (some ⟨b26,0,none⟩)),(27,.int .i64 0),(28,.int .i64 2),(29,.int .i64 0),(30,.bool true),(31,.int .i64 0),(32,g32.val),(33,.int .i64 2),(34,.int .i64 0),(35,g35.val),(36,.int .i64 0),(37,.bool false),(38,.int .i64 0),(39,.bool true),(40,.int .i64 0),(41,gA [48]),(42,.bool true),(43,.int .i64 0)]) (L':= [(b26,true,.cells ⟨(HQ.val oA olc oB otc).cells.toList⟩ 45 (0,0)),(b2,true,.cells ⟨(KE.val eA elc eB etc).cells.toList⟩ 45 (0,0)),(b1,true,.cells ⟨(QD.val dA dlc dB dtc).cells.toList⟩ 45 (0,0))]) ?_;refine U ?_;refine .cl (fun H hs=> K1 (bZ _ H [49,50,48] dE) MX) ?_;refine U7 ?_;refine Tc.db (R':= [(1,.pointer (some ⟨b1,0,none⟩)),(2,.pointer (some ⟨b2,0,none⟩)),(3,g3.val),(4,.int .i64 0),(5,g5.val),(6,.int .i64 2),(7,.int .i64 0),(8,g8.val),(9,.int .i64 0),(10,g10.val),(11,.int .i64 0),(12,.int .i64 0),(13,gA [50,50]),(14,.int .i64 2),(15,.int .i64 0),(16,gA [49,49,50]),(17,.int .i64 (-1)),(18,.int .i64 0),(19,.int .i64 1),(20,.int .i64 1),(21,.int .i64 0),(22,.int .i64 0),(23,.int .i64 0),(24,.bool false),(25,.int .i64 0),(26,.pointer (some ⟨b26,0,none⟩)),(27,.int .i64 0),(28,.int .i64 2),(29,.int .i64 0),(30,.bool true),(31,.int .i64 0),(32,g32.val),(33,.int .i64 2),(34,.int .i64 0),(35,g35.val),(36,.int .i64 0),(37,.bool false),(38,.int .i64 0),(39,.bool true),(40,.int .i64 0),(41,gA [48]),(42,.bool true),(43,.int .i64 0),(44,.int .i64 13),(45,.int .i64 0)]) (L':= [(b26,true,.cells ⟨(HQ.val oA olc oB otc).cells.toList⟩ 45 (0,0)),(b2,true,.cells ⟨(KE.val eA elc eB etc).cells.toList⟩ 45 (0,0)),(b1,true,.cells ⟨(QD.val dA dlc dB dtc).cells.toList⟩ 45 (0,0))]) ?_;refine U ?_;refine .e (.bs (zz:=fun bw=> ?_));refine To.aAO (L₁:= [(b26,true,.cells ⟨(HQ.val oA olc oB otc).cells.toList⟩ 45 (0,0)),(b2,true,.cells ⟨(KE.val eA elc eB etc).cells.toList⟩ 45 (0,0)),(b1,true,.cells ⟨(QD.val dA dlc dB dtc).cells.toList⟩ 45 (0,0))]++[(bw,true,.cells ⟨IA [5,3,1]⟩ 3 (0,0))]) (by exact List.perm_append_comm) ?_;refine To.lift (L₂:= [(b26,true,.cells ⟨(HQ.val oA olc oB otc).cells.toList⟩ 45 (0,0)),(b2,true,.cells ⟨(KE.val eA elc eB etc).cells.toList⟩ 45 (0,0)),(b1,true,.cells ⟨(QD.val dA dlc dB dtc).cells.toList⟩ 45 (0,0))]) (L₁:= [(bw,true,.cells ⟨IA [5,3,1]⟩ 3 (0,0))]) rfl (fun H10 hw=> ?_);have le10:=hw.base;have tl10:=View.le_trans tl9 le10;have aD4:=hD9.le le10;have aD6:=hE9.le le10;have aD8:=hO9.le le10;have aEX:=FA hG tl10;obtain⟨xc1,xc2,xc3,xc4,xc5⟩:=QZ;have al5:(oH (YB [5,3,1]) 3 2 2).al=0:=by unfold kG.al;rw[xc4];rfl
 refine To.uB rfl rfl rfl rfl rfl rfl dE (yB.h (mU _ H10 (some ⟨bw,0,none⟩) 3 3 (YB [5,3,1]) (jE [5,3,1] (hw.get (i:=0) rfl)) 2 2 dE xc2 dE dE)) (fun v H11 hv=> ?_);obtain⟨le11,ca,cn,cc,rfl,cn1,cs1⟩:=hv;rw[xc5] at cn1 cs1;rw[xc3,al5];refine U8 ?_;have tl11:=View.le_trans tl10 le11;have aEV:=aD4.le le11;have aEW:=aD6.le le11;have aEZ:=aD8.le le11;have aEY:=FA hG tl11;refine U2 ?_;refine Tc.ZC (R':= [(1,.pointer (some ⟨b1,0,none⟩)),(2,.pointer (some ⟨b2,0,none⟩)),(3,g3.val),(4,.int .i64 0),(5,g5.val),(6,.int .i64 2),(7,.int .i64 0),(8,g8.val),(9,.int .i64 0),(10,g10.val),(11,.int .i64 0),(12,.int .i64 0),(13,gA [50,50]),(14,.int .i64 2),(15,.int .i64 0),(16,gA [49,49,50]),(17,.int .i64 (-1)),(18,.int .i64 0),(19,.int .i64 1),(20,.int .i64 1),(21,.int .i64 0),(22,.int .i64 0),(23,.int .i64 0),(24,.bool false),(25,.int .i64 0),(26,.pointer (some ⟨b26,0,none⟩)),(27,.int .i64 0),(28,.int .i64 2),(29,.int .i64 0),(30,.bool true),(31,.int .i64 0),(32,g32.val),(33,.int .i64 2),(34,.int .i64 0),(35,g35.val),(36,.int .i64 0),(37,.bool false),(38,.int .i64 0),(39,.bool true),(40,.int .i64 0),(41,gA [48]),(42,.bool true),(43,.int .i64 0),(44,.int .i64 13),(45,.int .i64 0),(46,.slice ca cn cc),(47,.int .i64 18),(48,.int .i64 0)]) (L':= [(b26,true,.cells ⟨(HQ.val oA olc oB otc).cells.toList⟩ 45 (0,0)),(b2,true,.cells ⟨(KE.val eA elc eB etc).cells.toList⟩ 45 (0,0)),(b1,true,.cells ⟨(QD.val dA dlc dB dtc).cells.toList⟩ 45 (0,0))]) ?_ ⟨rfl,rfl,rfl,rfl,rfl,rfl,rfl,rfl,rfl,rfl,rfl,rfl,rfl,rfl,rfl,rfl,rfl,rfl,rfl,rfl,rfl,rfl,rfl,rfl,rfl,rfl,rfl,rfl,rfl,rfl,rfl,rfl,rfl,rfl,rfl,rfl,rfl,rfl,rfl,rfl,rfl,rfl,rfl,rfl,rfl,rfl,rfl,rfl,trivial⟩ sL;(iterate 72 refine U ?_);refine Tc.db (R':= [(1,.pointer (some ⟨b1,0,none⟩)),(2,.pointer (some ⟨b2,0,none⟩)),(3,g3.val),(4,.int .i64 0),(5,g5.val),(6,.int .i64 2),(7,.int .i64 0),(8,g8.val),(9,.int .i64 0),(10,g10.val),(11,.int .i64 0),(12,.int .i64 0),(13,gA [50,50]),(14,.int .i64 2),(15,.int .i64 0),(16,gA [49,49,50]),(17,.int .i64 (-1)),(18,.int .i64 0),(19,.int .i64 1),(20,.int .i64 1),(21,.int .i64 0),(22,.int .i64 0),(23,.int .i64 0),(24,.bool false),(25,.int .i64 0),(26,.pointer (some ⟨b26,0,none⟩)),(27,.int .i64 0),(28,.int .i64 2),(29,.int .i64 0),(30,.bool true),(31,.int .i64 0),(32,g32.val),(33,.int .i64 2),(34,.int .i64 0),(35,g35.val),(36,.int .i64 0),(37,.bool false),(38,.int .i64 0),(39,.bool true),(40,.int .i64 0),(41,gA [48]),(42,.bool true),(43,.int .i64 0),(44,.int .i64 13),(45,.int .i64 0),(46,.slice ca cn cc),(47,.int .i64 18),(48,.int .i64 0)]) (L':= [(b26,true,.cells ⟨(HQ.val oA olc oB otc).cells.toList⟩ 45 (0,0)),(b2,true,.cells ⟨(KE.val eA elc eB etc).cells.toList⟩ 45 (0,0)),(b1,true,.cells ⟨(QD.val dA dlc dB dtc).cells.toList⟩ 45 (0,0))]) ?_;have up:∀ {A B C:View},A.le B->B.le C->A.le C:=View.le_trans;have w3:=fun(H':View) (h':H11.le H') (bs:Nat) (k1:H' bs=some (true,.cells ⟨VA [[49,50],[49,51]]⟩ 9 (0,0)))=> FH (Mp prog) H' (g3.blk.map fun b=> ⟨b,0,none⟩) (some ⟨bs,0,none⟩) g3.n ([[49,50],[49,51]]:List (List UInt8)).length g3.cap ([[49,50],[49,51]]:List (List UInt8)).length _ _ (SI (g0:=g3) g3 (fun x hx=> h' _ _ ((up (up (up (up (up (up (up le4 le5) le6) le7) le8) le9) le10) le11) _ _ (mg3 x hx).1)) lg3 rfl rfl) (GO [[49,50],[49,51]] k1) (by rw[ng3];decide) dE true (RJ [[49,50],[49,51]] ng3);have w8:=fun(H':View) (h':H11.le H') (bs:Nat) (k1:H' bs=some (true,.cells ⟨VA [[49,49,50],[50,50]]⟩ 9 (0,0)))=> FH (Mp prog) H' (g8.blk.map fun b=> ⟨b,0,none⟩) (some ⟨bs,0,none⟩) g8.n ([[49,49,50],[50,50]]:List (List UInt8)).length g8.cap ([[49,49,50],[50,50]]:List (List UInt8)).length _ _ (SI (g0:=g8) g8 (fun x hx=> h' _ _ ((up (up (up (up (up le6 le7) le8) le9) le10) le11) _ _ (mg8 x hx).1)) lg8 rfl rfl) (GO [[49,49,50],[50,50]] k1) (by rw[ng8];decide) dE true (RJ [[49,49,50],[50,50]] ng8);have c5:=fun(H':View) (h':H11.le H') (bs:Nat) (k1:H' bs=some (true,.cells ⟨IA [0,0,2]⟩ 110 (0,0)))=> yN (Mp prog) H' (g5.blk.map fun b=> ⟨b,0,none⟩) (some ⟨bs,0,none⟩) g5.n ([0,0,2]:List Int).length g5.cap ([0,0,2]:List Int).length (fun i=> QD.tC (i:Nat)) _ (by rw[ng5];exact wW g5 (fun x hx=> h' _ _ ((up (up (up (up (up (up le5 le6) le7) le8) le9) le10) le11) _ _ (mg5 x hx).1)) lg5 ng5) (jE [0,0,2] k1) (by rw[ng5];decide) dE true (by rw[ng5];rw[decide_eq_true (by rfl)];show(true&&wF _ 3)=true;rw[(vC _).2 (three (decide_eq_true TQ.1.1) (decide_eq_true TQ.1.2.1) (decide_eq_true TQ.1.2.2))];rfl);have c10:=fun(H':View) (h':H11.le H') (bs:Nat) (k1:H' bs=some (true,.cells ⟨IA [2,2,0]⟩ 110 (0,0)))=> yN (Mp prog) H' (g10.blk.map fun b=> ⟨b,0,none⟩) (some ⟨bs,0,none⟩) g10.n ([2,2,0]:List Int).length g10.cap ([2,2,0]:List Int).length (fun i=> KE.tC (i:Nat)) _ (by rw[ng10];exact wW g10 (fun x hx=> h' _ _ ((up (up (up (up le7 le8) le9) le10) le11) _ _ (mg10 x hx).1)) lg10 ng10) (jE [2,2,0] k1) (by rw[ng10];decide) dE true (by rw[ng10];rw[decide_eq_true (by rfl)];show(true&&wF _ 3)=true;rw[(vC _).2 (three (decide_eq_true UQ.1.1) (decide_eq_true UQ.1.2.1) (decide_eq_true UQ.1.2.2))];rfl);refine U2 ?_;refine .e (.bs (zz:=fun x1=> ?_));refine .cl (fun H hs=> w3 H hs.base x1 (hs.get (i:=0) rfl)) ?_;refine U3 ?_;refine .e (.bs (zz:=fun x2=> ?_));refine .cl (fun H hs=> c5 H hs.base x2 (hs.get (i:=0) rfl)) ?_;refine U8 ?_;refine .e (.bs (zz:=fun x3=> ?_));refine .cl (fun H hs=> w8 H hs.base x3 (hs.get (i:=0) rfl)) ?_;refine U4 ?_;refine .e (.bs (zz:=fun x4=> ?_));refine .cl (fun H hs=> c10 H hs.base x4 (hs.get (i:=0) rfl)) ?_;refine U37 ?_;refine Tc.db (R':= [(1,.pointer (some ⟨b1,0,none⟩)),(2,.pointer (some ⟨b2,0,none⟩)),(3,g3.val),(4,.int .i64 0),(5,g5.val),(6,.int .i64 2),(7,.int .i64 0),(8,g8.val),(9,.int .i64 0),(10,g10.val),(11,.int .i64 0),(12,.int .i64 0),(13,gA [50,50]),(14,.int .i64 2),(15,.int .i64 0),(16,gA [49,49,50]),(17,.int .i64 (-1)),(18,.int .i64 0),(19,.int .i64 1),(20,.int .i64 1),(21,.int .i64 0),(22,.int .i64 0),(23,.int .i64 0),(24,.bool false),(25,.int .i64 0),(26,.pointer (some ⟨b26,0,none⟩)),(27,.int .i64 0),(28,.int .i64 2),(29,.int .i64 0),(30,.bool true),(31,.int .i64 0),(32,g32.val),(33,.int .i64 2),(34,.int .i64 0),(35,g35.val),(36,.int .i64 0),(37,.bool false),(38,.int .i64 0),(39,.bool true),(40,.int .i64 0),(41,gA [48]),(42,.bool true),(43,.int .i64 0),(44,.int .i64 13),(45,.int .i64 0),(46,.slice ca cn cc),(47,.int .i64 18),(48,.int .i64 0)]) (L':= [(b26,true,.cells ⟨(HQ.val oA olc oB otc).cells.toList⟩ 45 (0,0)),(b2,true,.cells ⟨(KE.val eA elc eB etc).cells.toList⟩ 45 (0,0)),(b1,true,.cells ⟨(QD.val dA dlc dB dtc).cells.toList⟩ 45 (0,0))]) ?_;have c32:=fun(H':View) (h':H11.le H') (bs:Nat) (k1:H' bs=some (true,.cells ⟨IA [2,0]⟩ 110 (0,0)))=> yN (Mp prog) H' (g32.blk.map fun b=> ⟨b,0,none⟩) (some ⟨bs,0,none⟩) g32.n ([2,0]:List Int).length g32.cap ([2,0]:List Int).length (QD.nF 1) _ (by rw[ng32];exact wW g32 (fun x hx=> h' _ _ ((up (up le9 le10) le11) _ _ (mg32 x hx).1)) lg32 ng32) (jE [2,0] k1) (by rw[ng32];decide) dE true (by rw[ng32];rw[decide_eq_true (by rfl)];show(true&&wF _ 2)=true;rw[(vC _).2 (two (decide_eq_true FN.1.1) (decide_eq_true FN.1.2))];rfl);have n35:=fun(H':View) (h':H11.le H') (bs:Nat) (k1:H' bs=some (true,.cells ⟨IA [1,2]⟩ 3 (0,0)))=> iS (Mp prog) H' (g35.blk.map fun b=> ⟨b,0,none⟩) (some ⟨bs,0,none⟩) 2 g35.cap 2 (YB [1,2]) (YB [1,2]) (wW g35 (fun x hx=> h' _ _ ((up le10 le11) _ _ (mg35 x hx).1)) (lg35.trans (CZ _)) ng35) (jE [1,2] k1) dE (fun _ _=> rfl);have w46:=fun(H':View) (h':H11.le H') (bs:Nat) (k1:H' bs=some (true,.cells ⟨VA [[49],[50,49],[50,50]]⟩ 9 (0,0)))=> FH (Mp prog) H' ca (some ⟨bs,0,none⟩) cn ([[49],[50,49],[50,50]]:List (List UInt8)).length cc ([[49],[50,49],[50,50]]:List (List UInt8)).length _ _ (W3 (cs1.mono (View.le_trans (View.le_refl H11) h')) cn1) (GO [[49],[50,49],[50,50]] k1) (by rw[cn1];decide) dE true (RJ [[49],[50,49],[50,50]] cn1);rw[show g35.val=.slice (g35.blk.map fun b=> ⟨b,0,none⟩) 2 g35.cap by unfold Gl.val;rw[ng35];rfl];refine PF ?_;refine .e (.bs (zz:=fun y1=> ?_));refine .cl (fun H hs=> c32 H hs.base y1 (hs.get (i:=0) rfl)) ?_;refine U7 ?_;refine .e (.bs (zz:=fun y2=> ?_));refine .cl (fun H hs=> n35 H hs.base y2 (hs.get (i:=0) rfl)) ?_;refine SR ?_;refine .e (.bs (zz:=fun y3=> ?_));refine .cl (fun H hs=> w46 H hs.base y3 (hs.get (i:=0) rfl)) ?_;refine U7 ?_;refine .rt hK func15 results15 [_] ?_;exact fun H' hs=> ⟨View.le_trans tl11 hs.base,rfl⟩
set_option maxHeartbeats 8000000
abbrev Ex:=Nat×Nat×List Value
def exV(n:Nat)(x:Ex):Value:=.slice (some ⟨x.1,0,none⟩) n x.2.1
def exB(e:TypeId)(l:List Value)(x:Ex):Bl:= [(x.1,true,.cells ⟨l++x.2.2⟩ e (0,0))]
theorem aCE {e:TypeId}{sz:Nat}(g:Gl e sz)(h:0<g.n):∃x:Ex,g.val=exV g.n x/\g.bl=exB e g.l x:=by
 obtain⟨gb,gn,gc,gl,gj,h1,h2,h3,h4⟩:=g;cases gb with
 | none=> have:=h4 rfl;simp only at h;omega
 | some b=> exact⟨(b,gc,gj),rfl,rfl⟩
theorem aCC:prog.eqGuardType prog.depth 39=false:=by kernel_rfl
section
variable(M:Md prog)(H:View)
end
section
variable(H:View)
end
end Go.Proofs.YtldmfjcgjdchcaaGreatDoor
