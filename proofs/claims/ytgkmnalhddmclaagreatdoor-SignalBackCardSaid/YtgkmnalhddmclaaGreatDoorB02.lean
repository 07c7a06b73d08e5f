/-
 Texts of the proofs over baudot/dial.
-/
import Derived.Test.YtgkmnalhddmclaaGreatDoorB01
import Derived.Orders
import Derived.Test.YtgkmnalhddmclaaGreatDoorChecked
import Derived.KernelRfl
import Derived.Conc.CrowdBase
import Derived.Conc.MuSpec
namespace Go.RL
open Go.Conc
section
variable {P:Program}{M:Md P}{md:Region.Mode}{ops:Array Oper}{S:Array Bool->View->Prop}{Fin:Array Value->View->Prop}
def IL(M:Md P)(ops:Array Oper)(o:Oper)(tmps:Array Value)(H:View)(K:Array Value->View->Prop):Prop:=
 wA o.op=false/\(if Region.wanted o (yielded ops tmps) then jF M o tmps H K else K (AB tmps o.dst undef) H)
def xI(M:Md P)(md:Region.Mode)(ops:Array Oper)(S:Array Bool->View->Prop)(Fin:Array Value->View->Prop):Nat->Array Bool->Array Value->View->Prop
 | 0,listed,tmps,H=> ∀H₂,H.le H₂->S listed H₂->Region.ready md ops listed= []/\Fin tmps H₂
 | fuel+1,listed,tmps,H=> ∀H₂,H.le H₂->S listed H₂-> 
  (Region.ready md ops listed= []->Fin tmps H₂)/\
  ∀i∈Region.ready md ops listed,∀o,ops[i]? =some o->IL M ops o tmps H₂ fun tmps' H'=> S (listed.setIfInBounds i true) H'/\xI M md ops S Fin fuel (listed.setIfInBounds i true) tmps' H'
theorem xI.mono {fuel:Nat}{listed:Array Bool}{tmps:Array Value}{H H':View}(h:xI M md ops S Fin fuel listed tmps H)(k:H.le H'):xI M md ops S Fin fuel listed tmps H':=by
 cases fuel with
 | zero=> exact fun H₂ h2 hS=> h H₂ (View.le_trans k h2) hS
 | succ fuel=> exact fun H₂ h2 hS=> h H₂ (View.le_trans k h2) hS
theorem IL.sound {St:View->Goroutine->Prop}{b:FB}{ds:List Deferred}{k:List Item}{cs:List Frame}{i:Nat}{rest:List Nat}{o:Oper}{tmps:Array Value}{H:View}(ho:ops[i]? =some o)
  (h:IL M ops o tmps H fun t H'=> T M St H' (G (b.at t ds (.inRegion ops rest::k)) cs)):T M St H (G (b.at tmps ds (.inRegion ops (i::rest)::k)) cs):=by
 obtain⟨hd,h⟩:=h;split at h
 ·rename_i hw
  exact h.sound ho hw hd
 ·rename_i hw
  exact .RI ho (by simpa using hw) h
theorem IL.mono {o:Oper}{tmps:Array Value}{H:View}{K K':Array Value->View->Prop}(h:IL M ops o tmps H K)(hk:∀t H',K t H'->K' t H'):IL M ops o tmps H K':=by
 obtain⟨hd,h⟩:=h;refine⟨hd,?_⟩;split
 ·rename_i hw
  rw[if_pos hw] at h;exact h.mono hk
 ·rename_i hw
  rw[if_neg hw] at h;exact hk _ _ h
theorem xI.sound {St:View->Goroutine->Prop}{b:FB}{ds:List Deferred}{k:List Item}{cs:List Frame}:∀(fuel t:Nat) (listed:Array Bool) (tmps:Array Value) (H:View),S listed H-> 
  xI M md ops S (fun tmps H=> T M St H (G (b.at tmps ds k) cs)) fuel listed tmps H->T M St H (G (b.at tmps ds (.inRegion ops (Region.linearise.go md ops fuel t listed [])::k)) cs):=by
 intro fuel;induction fuel with
 | zero=>
  intro t listed tmps H hS h;simp only[Region.linearise.go];exact .UI (h H (View.le_refl H) hS).2
 | succ fuel ih=>
  intro t listed tmps H hS h;have h:=h H (View.le_refl H) hS;have e:Region.linearise.go md ops (fuel+1) t listed []=match (Region.ready md ops listed)[t%(Region.ready md ops listed).length]? with
    | some i=> i::Region.linearise.go md ops fuel (t/(Region.ready md ops listed).length) (listed.setIfInBounds i true) []
    | none=> []:=by
   rw[Region.linearise.go];show(match (Region.ready md ops listed)[t%(Region.ready md ops listed).length]? with
    | some i=> Region.linearise.go md ops fuel (t/(Region.ready md ops listed).length) (listed.setIfInBounds i true) [i]
    | none=> List.reverse [])=_
   split
   ·rename_i i _
    rw[linearise_go_acc];rfl
   ·rfl
  rw[e];split
  ·rename_i i hi
   have WC:=List.mem_of_getElem? hi;obtain⟨_,o,ho,_⟩:=mem_ready.1 WC;exact IL.sound ho ((h.2 i WC o ho).mono fun t' H' hk=> ih _ _ _ _ hk.1 hk.2)
  ·rename_i hi
   have uP:Region.ready md ops listed= []:=by
    cases hr:Region.ready md ops listed with
    | nil=> rfl
    | cons a l=>
     rw[hr] at hi;have:t%(a::l).length<(a::l).length:=Nat.mod_lt _ (by simp);rw[List.getElem?_eq_getElem this] at hi;cases hi
   exact .UI (h.1 uP)
def AD(M:Md P)(o:Oper)(tmps:Array Value)(H:View)(K:Value->View->Prop):Prop:=
 vA P (execOp (vB tmps) o) H fun nx H'=>
  match nx with
  | .value v=> K v H'
  | .skip=> K undef H'
  | .enter f args=> dA M f args H' K
  | .round l f tmps' assign body=> FL M (Frame.round l f tmps' assign body .normal) H' K
  | _=> False
theorem AD.run {o:Oper}{tmps:Array Value}{H:View}{K:Value->View->Prop}{K':Array Value->View->Prop}(h:AD M o tmps H K)(hk:∀v H',K v H'->K' (AB tmps o.dst v) H'):jF M o tmps H K':=
 NA _ (fun nx H' hn=> by
  cases nx <;> first|exact hn.elim|skip
  ·exact hk _ _ hn
  ·exact hk _ _ hn
  ·exact dA.mono hn hk
  ·exact FL.mono hn hk) h
def ZB(md:Region.Mode)(ops:Array Oper)(listed:Array Bool):Bool:=
 ops.toList.zipIdx.all fun x=> !(listed.getD x.2 true)||x.1.after.all fun e=> !(Region.binds md e)||listed.getD e.on false
theorem pG {listed:Array Bool}(h:ZB md ops listed=true){j:Nat}{o:Oper}(hj:ops[j]? =some o)(hl:listed.getD j true=true){e:Edge}(he:e∈o.after)(hb:Region.binds md e=true):listed.getD e.on false=true:=by
 unfold ZB at h;rw[List.all_eq_true] at h;have hm:(o,j)∈ops.toList.zipIdx:=by
  rw[List.mem_zipIdx_iff_getElem?];simpa using hj
 have:=h _ hm;simp only[hl,Bool.not_true,Bool.false_or,Array.all_eq_true_iff_forall_mem] at this;have:=this e he;simpa [hb] using this
theorem rN {listed:Array Bool}{i:Nat}(h:ZB md ops listed=true)(hr:i∈Region.ready md ops listed):ZB md ops (listed.setIfInBounds i true)=true:=by
 unfold ZB;rw[List.all_eq_true];rintro⟨o,j⟩ hm;rw[List.mem_zipIdx_iff_getElem?] at hm;have hj:ops[j]? =some o:=by simpa using hm
 have hup:∀k,listed.getD k false=true->(listed.setIfInBounds i true).getD k false=true:=by
  intro k hk;by_cases e:i=k
  ·subst e;rcases Nat.lt_or_ge i listed.size with h'|h'
   ·simp[h']
   ·simp[Array.getElem?_eq_none h'] at hk
  ·simp only[Array.getD_eq_getD_getElem?,Array.getElem?_setIfInBounds_ne e] at hk ⊢;exact hk
 cases hl:(listed.setIfInBounds i true).getD j true with
 | false=> rfl
 | true=>
  simp only[Bool.not_true,Bool.false_or,Array.all_eq_true_iff_forall_mem];intro e he;cases hb:Region.binds md e with
  | false=> rfl
  | true=>
   simp only[Bool.not_true,Bool.false_or];refine hup _ ?_;by_cases ZS:i=j
   ·subst ZS;obtain⟨_,o',VU,PA⟩:=mem_ready.1 hr;rw[hj] at VU;cases VU
    exact PA e he hb
   ·rw[getD_set_ne true ZS] at hl;exact pG h hj hl he hb
def NH(M:Md P)(md:Region.Mode)(ops:Array Oper)(S:Array Bool->View->Prop)(i:Nat)(o:Oper)(v:Value)(tmps:Array Value):Prop:=
 (Region.wanted o (yielded ops tmps)=true/\∀listed,ZB md ops listed=true->listed.getD i true=false->∀H,S listed H->AD M o tmps H fun u H'=> u=v/\H.le H'/\S listed H')\/ 
 (Region.wanted o (yielded ops tmps)=false/\v=undef)
theorem AU(tmps:Array Value):vB tmps=(⟨tmps,[]⟩:Act).eval:=by funext x;cases x <;> rfl
theorem WY(tmps:Array Value)(d:Option Tmp)(v:Value):AB tmps d v=((⟨tmps,[]⟩:Act).put d v).tmps:=by cases d <;> rfl
theorem GJ(tmps:Array Value)(d:Option Tmp)(v:Value):(⟨AB tmps d v,[]⟩:Act)=(⟨tmps,[]⟩:Act).put d v:=by cases d <;> rfl
theorem PN(o:Oper)(hs:∀cs b,o.op≠ .select cs b)(tmps:Array Value)(dst:Option Tmp)(v:Value)(h:∀d,dst=some d->d ∉ o.looksAt ops):execOp (vB (AB tmps dst v)) o=execOp (vB tmps) o:=by
 rw[AU,AU,GJ];exact execOp_put o hs _ dst v h
theorem WK(o:Oper)(tmps:Array Value)(dst:Option Tmp)(v:Value)(h:∀d,dst=some d->d ∉ o.looksAt ops):Region.wanted o (yielded ops (AB tmps dst v))=Region.wanted o (yielded ops tmps):=by
 rw[WY];exact wanted_put o ⟨tmps,[]⟩ dst v h
theorem WH(tmps:Array Value){x y:Option Tmp}(v u:Value)(h:∀d,x=some d->y≠some d):AB (AB tmps x v) y u=AB (AB tmps y u) x v:=by
 have:=congrArg Act.tmps (Act.put_comm ⟨tmps,[]⟩ v u h);rw[<-GJ,<-GJ,<-GJ,<-GJ] at this;exact this
theorem NH.put {i:Nat}{o o':Oper}{v u:Value}{tmps:Array Value}(h:NH M md ops S i o v tmps)(hs:∀cs b,o.op≠ .select cs b)(ha:∀d,o'.dst=some d->d ∉ o.looksAt ops):NH M md ops S i o v (AB tmps o'.dst u):=by
 unfold NH AD at *;rw[PN o hs tmps o'.dst u ha,WK o tmps o'.dst u ha];exact h
theorem IL.back {oi oj:Oper}{v:Value}{tmps:Array Value}{H:View}{K:Array Value->View->Prop}(TQ:oi.apart ops oj=true)(hsj:∀cs b,oj.op≠ .select cs b)(h:IL M ops oj (AB tmps oi.dst v) H K):
  IL M ops oj tmps H fun t H'=> (∃u,t=AB tmps oj.dst u)/\K (AB t oi.dst v) H':=by
 obtain⟨h1,h2,_⟩:=Oper.apart_spec TQ;obtain⟨hd,h⟩:=h;refine⟨hd,?_⟩;rw[WK oj tmps oi.dst v h1] at h;split
 ·rename_i hw
  rw[if_pos hw] at h;unfold jF at *;rw[PN oj hsj tmps oi.dst v h1] at h;refine NA _ (fun nx H' hn=> ?_) h;cases nx <;> first
   | exact hn.elim
   | exact⟨⟨_,rfl⟩,by rw[<-WH tmps v _ h2];exact hn⟩
   | exact dA.mono hn fun u H'' hk=> ⟨⟨_,rfl⟩,by rw[<-WH tmps v _ h2];exact hk⟩
   | exact FL.mono hn fun u H'' hk=> ⟨⟨_,rfl⟩,by rw[<-WH tmps v _ h2];exact hk⟩
 ·rename_i hw
  rw[if_neg hw] at h;exact⟨⟨_,rfl⟩,by rw[<-WH tmps v _ h2];exact h⟩
theorem xI.first {i:Nat}{oi:Oper}{v:Value}(hi:ops[i]? =some oi)(iI:∀(j:Nat) (o:Oper) cs b,ops[j]? =some o->o.op≠ .select cs b)(hdi:wA oi.op=false)(wN:∀listed H,S (listed.setIfInBounds i true) H<->S listed H):
  ∀ (fuel:Nat) (listed:Array Bool) (tmps:Array Value) (H:View),
   (∀j oj,ops[j]? =some oj->j≠i->listed.getD j true=false->(∀e∈oj.after,Region.binds md e=true->e.on≠i)->oi.apart ops oj=true)-> 
   ZB md ops listed=true->i∈Region.ready md ops listed->NH M md ops S i oi v tmps-> 
   xI M md ops S Fin fuel (listed.setIfInBounds i true) (AB tmps oi.dst v) H->xI M md ops S Fin (fuel+1) listed tmps H:=by
 have own:∀(fuel:Nat) (listed:Array Bool) (tmps:Array Value) (H:View),ZB md ops listed=true->i∈Region.ready md ops listed->NH M md ops S i oi v tmps->S listed H->xI M md ops S Fin fuel (listed.setIfInBounds i true) (AB tmps oi.dst v) H-> 
   IL M ops oi tmps H fun t H'=> S (listed.setIfInBounds i true) H'/\xI M md ops S Fin fuel (listed.setIfInBounds i true) t H':=by
  intro fuel listed tmps H HB cK hy hS h;refine⟨hdi,?_⟩;rcases hy with ⟨hw,hv⟩|⟨hw,rfl⟩
  ·rw[if_pos hw];refine(hv listed HB (mem_ready.1 cK).1 H hS).run ?_;rintro u H' ⟨rfl,hle,hS'⟩;exact⟨(wN listed H').2 hS',h.mono hle⟩
  ·rw[if_neg (by simp[hw])];exact⟨(wN listed H).2 hS,h⟩
 intro fuel;induction fuel with
 | zero=>
  intro listed tmps H _ HB hr hy h H₂ h2 hS;refine⟨fun e=> (by rw[e] at hr;cases hr),fun j hj o ho=> ?_⟩;by_cases ZS:j=i
  ·subst ZS;rw[hi] at ho;cases ho
   exact own 0 listed tmps H₂ HB hr hy hS (h.mono h2)
  ·have:=ready_mono hj ZS;rw[(h H₂ h2 ((wN listed H₂).2 hS)).1] at this;cases this
 | succ fuel ih=>
  intro listed tmps H u6 HB hr hy h H₂ h2 hS;refine⟨fun e=> (by rw[e] at hr;cases hr),fun j hj oj WU=> ?_⟩;by_cases ZS:j=i
  ·subst ZS;rw[hi] at WU;cases WU
   exact own (fuel+1) listed tmps H₂ HB hr hy hS (h.mono h2)
  ·have h1:=(h H₂ h2 ((wN listed H₂).2 hS)).2 j (ready_mono hj ZS) oj WU;have aCQ:=rN HB hj;obtain⟨aA9,oj',XV,PA⟩:=mem_ready.1 hj;rw[WU] at XV;cases XV
   have aC1:∀e∈oj.after,Region.binds md e=true->e.on≠i:=fun e he hb heq=> by
    have h1:=PA e he hb;have h0:=(mem_ready.1 hr).1;rw[heq] at h1;rcases Nat.lt_or_ge i listed.size with h'|h'
    ·simp[h'] at h0 h1;rw[h0] at h1;cases h1
    ·simp[Array.getElem?_eq_none h'] at h1
   have TQ:=u6 j oj WU ZS aA9 aC1;have L7:∀k ok,ops[k]? =some ok->k≠i->(listed.setIfInBounds j true).getD k true=false-> 
     (∀e∈ok.after,Region.binds md e=true->e.on≠i)->oi.apart ops ok=true:=fun k ok hk hki G6 dN=> by
    refine u6 k ok hk hki ?_ dN;by_cases hjk:j=k
    ·subst hjk;exact aA9
    ·rw[getD_set_ne true hjk] at G6;exact G6
   refine(h1.back TQ (fun cs b=> iI j oj cs b WU)).mono ?_;rintro t H' ⟨⟨u,rfl⟩,hS',h3⟩;rw[Array.setIfInBounds_comm _ _ (Ne.symm ZS)] at hS';refine⟨(wN _ H').1 hS',ih (listed.setIfInBounds j true) _ H' L7 aCQ (ready_mono hr (Ne.symm ZS)) (hy.put (fun cs b=> iI i oi cs b hi) (Oper.apart_spec TQ).2.2) ?_⟩;rw[Array.setIfInBounds_comm _ _ ZS];exact h3
end
section
variable {P:Program}{M:Md P}{St:View->Goroutine->Prop}{n:Nat}{b:FB}{H₀:View}{cs:List Frame}{R:Rg}{L L':Bl}{ds:List Deferred}{k:List Item}{S:Array Bool->View->Prop}{md:Region.Mode}{ops:Array Oper}
def Ta(M:Md P)(St:View->Goroutine->Prop)(n:Nat)(b:FB)(H₀:View)(cs:List Frame)(S:Array Bool->View->Prop)(md:Region.Mode)(ops:Array Oper)(fuel:Nat)(listed:Array Bool)(R:Rg)(L:Bl)(ds:List Deferred)(k:List Item):Prop:=
 ∀H tmps,eA H₀ L H->LA n R tmps->S listed H->xI M md ops S (fun tmps H=> T M St H (G (b.at tmps ds k) cs)) fuel listed tmps H
theorem Ta.done {fuel:Nat}{listed:Array Bool}(hr:Region.ready md ops listed= [])(h:Tc M St n b H₀ cs R L ds k):Ta M St n b H₀ cs S md ops fuel listed R L ds k:=fun H tmps hs rF _=> by
 cases fuel with
 | zero=> exact fun H₂ h2 _=> ⟨hr,h H₂ tmps (hs.mono h2) rF⟩
 | succ f=> exact fun H₂ h2 _=> ⟨fun _=> h H₂ tmps (hs.mono h2) rF,fun i hi=> by rw[hr] at hi;cases hi⟩
theorem Ta.take(i:Nat){o:Oper}{d:Nat}{v:Value}{fuel:Nat}{listed:Array Bool}(hi:ops[i]? =some o)(iI:Region.noSelect ops=true)(hr:(Region.ready md ops listed).contains i=true)(hf:Region.free md ops listed i=true)
  (hd:o.dst=some d) (hn:d<n) (SB:wA o.op=false) (HB:ZB md ops listed=true) (wN:∀listed H,S (listed.setIfInBounds i true) H<->S listed H) (hw:HA (ops.toList.map (fun o:Oper=> o.dst)) R o=some true)
  (hv:∀listed,ZB md ops listed=true->listed.getD i true=false->∀H tmps,S listed H->LA n R tmps->AD M o tmps H fun u H'=> u=v/\H.le H'/\S listed H')
  (h:Ta M St n b H₀ cs S md ops fuel (listed.setIfInBounds i true) ((d,v)::R) L ds k):Ta M St n b H₀ cs S md ops (fuel+1) listed R L ds k:=fun H tmps hs rF hS=> by
 refine xI.first hi (Region.noSelect_spec iI) SB wN fuel listed tmps H (fun j oj hj aB G6 dN=> Region.free_spec hi hf j oj hj aB G6 dN) HB (by simpa using hr) (.inl ⟨kB (fun j=> ?_) rF hw,fun l HB hu H hSH=> hv l HB hu H tmps hSH rF⟩) ?_
 ·simp only[List.getElem?_map,Array.getElem?_toList];cases ops[j]? <;> rfl
 ·rw[hd];exact h H _ hs (rF.put hn v) ((wN _ H).2 hS)
theorem Ta.pass(i:Nat){o:Oper}{d:Nat}{fuel:Nat}{listed:Array Bool}(hi:ops[i]? =some o)(iI:Region.noSelect ops=true)(hr:(Region.ready md ops listed).contains i=true)(hf:Region.free md ops listed i=true)
  (hd:o.dst=some d) (hn:d<n) (SB:wA o.op=false) (HB:ZB md ops listed=true) (wN:∀listed H,S (listed.setIfInBounds i true) H<->S listed H) (hw:HA (ops.toList.map (fun o:Oper=> o.dst)) R o=some false)
  (h:Ta M St n b H₀ cs S md ops fuel (listed.setIfInBounds i true) ((d,undef)::R) L ds k):Ta M St n b H₀ cs S md ops (fuel+1) listed R L ds k:=fun H tmps hs rF hS=> by
 refine xI.first hi (Region.noSelect_spec iI) SB wN fuel listed tmps H (fun j oj hj aB G6 dN=> Region.free_spec hi hf j oj hj aB G6 dN) HB (by simpa using hr) (.inr ⟨kB (fun j=> ?_) rF hw,rfl⟩) ?_
 ·simp only[List.getElem?_map,Array.getElem?_toList];cases ops[j]? <;> rfl
 ·rw[hd];exact h H _ hs (rF.put hn undef) ((wN _ H).2 hS)
def mJ(M:Md P)(St:View->Goroutine->Prop)(n:Nat)(b:FB)(H₀:View)(cs:List Frame)(S:Array Bool->View->Prop)(md:Region.Mode)(ops:Array Oper)(fuel:Nat)(listed:Array Bool)(R:Rg)(L:Bl)(ds:List Deferred)(k:List Item)(i:Nat):Prop:=
 ∃ o,ops[i]? =some o/\wA o.op=false/\HA (ops.toList.map (fun o:Oper=> o.dst)) R o=some true/\
  Or M n H₀ R L o fun R' L'=> (∀H,eA H₀ L' H->S (listed.setIfInBounds i true) H)/\Ta M St n b H₀ cs S md ops fuel (listed.setIfInBounds i true) R' L' ds k
theorem mJ.mk {fuel:Nat}{listed:Array Bool}{i:Nat}{o:Oper}(ho:ops[i]? =some o)(hd:wA o.op=false)(hw:HA (ops.toList.map (fun o:Oper=> o.dst)) R o=some true)
 (h:Or M n H₀ R L o fun R' L'=> (∀H,eA H₀ L' H->S (listed.setIfInBounds i true) H)/\Ta M St n b H₀ cs S md ops fuel (listed.setIfInBounds i true) R' L' ds k):mJ M St n b H₀ cs S md ops fuel listed R L ds k i:=⟨o,ho,hd,hw,h⟩
theorem Ta.all {fuel:Nat}{listed:Array Bool}{rs:List Nat}(hr:Region.ready md ops listed=rs)(aB:rs.isEmpty=false)(h:∀i∈rs,mJ M St n b H₀ cs S md ops fuel listed R L ds k i):
  Ta M St n b H₀ cs S md ops (fuel+1) listed R L ds k:=fun H tmps hs rF _ H₂ h2 hS=> by
 have hs:=hs.mono h2;refine⟨fun e=> ?_,fun i hi o ho=> ?_⟩
 ·rw[hr] at e;rw[e] at aB;cases aB
 ·rw[hr] at hi;obtain⟨o',VU,hd,hw,h'⟩:=h i hi;rw[ho] at VU;cases VU
  refine⟨hd,?_⟩;have rS:Region.wanted o (yielded ops tmps)=true:=kB (fun j=> by
   simp only[List.getElem?_map,Array.getElem?_toList];cases ops[j]? <;> rfl) rF hw
  rw[if_pos rS];refine(h' H₂ tmps hs rF).mono ?_;rintro t H' ⟨R',L',h1,h2,h3,h4⟩;exact⟨h3 H' h2,h4 H' t h2 h1 (h3 H' h2)⟩
def S2(H₀:View)(B:List Nat)(Ls L:Bl):Array Bool->View->Prop:=fun listed H=>
 eA H₀ Ls H/\((B.all fun j=> !(listed.getD j true))=true->eA H₀ L H)
theorem S2.same {B:List Nat}{Ls:Bl}{i:Nat}(hi:B.contains i=false):∀listed H,S2 H₀ B Ls L (listed.setIfInBounds i true) H<->S2 H₀ B Ls L listed H:=fun listed H=> by
 have:(B.all fun j=> !((listed.setIfInBounds i true).getD j true))=B.all fun j=> !(listed.getD j true):=by
  rw[Bool.eq_iff_iff,List.all_eq_true,List.all_eq_true];refine forall_congr' fun j=> forall_congr' fun hj=> ?_;have aB:i≠j:=by
   rintro rfl;have:B.contains i=true:=by simpa using hj
   rw[hi] at this;cases this
  rw[getD_set_ne true aB]
 unfold S2;rw[this]
def waits(md:Region.Mode)(ops:Array Oper)(i j:Nat):Bool:=
 match ops[j]? with
 | some o=> o.after.any fun e=> Region.binds md e&&e.on==i
 | none=> false
theorem S2.aAe {B:List Nat}{Ls:Bl}{i:Nat}{listed:Array Bool}{H:View}(h:S2 H₀ B Ls L listed H)(hc:ZB md ops listed=true)(hu:listed.getD i true=false)(hB:(B.all fun j=> waits md ops i j)=true):eA H₀ L H:=by
 refine h.2 ?_;rw[List.all_eq_true] at hB ⊢;intro j hj;have:=hB j hj;unfold waits at this;cases hl:listed.getD j true with
 | false=> rfl
 | true=>
  split at this
  ·rename_i o ho
   rw[Array.any_eq_true'] at this;obtain⟨e,he,hb⟩:=this;simp only[Bool.and_eq_true,beq_iff_eq] at hb;have h1:=pG hc ho hl he hb.1;rw[hb.2] at h1;rcases Nat.lt_or_ge i listed.size with h'|h'
   ·simp[h'] at h1 hu
    rw[hu] at h1;cases h1
   ·simp[Array.getElem?_eq_none h'] at hu
  ·cases this
def uD(md:Region.Mode)(ops:Array Oper)(B:List Nat)(listed:Array Bool)(i:Nat):Bool:=
 Region.noSelect ops&&(Region.ready md ops listed).contains i&&Region.free md ops listed i&&ZB md ops listed && !(B.contains i)&&B.all fun j=> waits md ops i j
theorem Ta.tk {H₁:View}(i:Nat){B:List Nat}{Ls L₁:Bl}{o:Oper}{d:Nat}{v:Value}{fuel:Nat}{listed:Array Bool}(hc:uD md ops B listed i=true)(hi:ops[i]? =some o)(hd:o.dst=some d)(hn:d<n)(SB:wA o.op=false)(hw:HA (ops.toList.map (fun o:Oper=> o.dst)) R o=some true)
  (hv:∀H tmps,eA H₀ L H->LA n R tmps->AD M o tmps H fun u H'=> u=v/\H.le H')
  (h:Ta M St n b H₁ cs (S2 H₀ B Ls L) md ops fuel (listed.setIfInBounds i true) ((d,v)::R) L₁ ds k):Ta M St n b H₁ cs (S2 H₀ B Ls L) md ops (fuel+1) listed R L₁ ds k:=by
 simp only[uD,Bool.and_eq_true,Bool.not_eq_true'] at hc;obtain⟨⟨⟨⟨⟨iI,hr⟩,hf⟩,HB⟩,wN⟩,hB⟩:=hc;exact .take i hi iI hr hf hd hn SB HB (S2.same wN) hw (fun _ hc hu H tmps hS hr=> by
  have:=hv H tmps (hS.aAe hc hu hB) hr;unfold AD at this ⊢;have fin:∀u H',(u=v/\H.le H')->u=v/\H.le H'/\S2 H₀ B Ls L _ H':=fun u H' ⟨h1,h2⟩=> ⟨h1,h2,hS.1.mono h2,fun hh=> (hS.2 hh).mono h2⟩
  refine NA _ (fun nx H' hn=> ?_) this;cases nx <;> first
   | exact hn.elim
   | exact fin _ _ hn
   | exact dA.mono hn fin
   | exact FL.mono hn fin) h
theorem Ta.tkw {H₁:View}(i:Nat){B:List Nat}{Ls L₁:Bl}{o:Oper}{d:Nat}{v:Value}{fuel:Nat}{listed:Array Bool}(hc:uD md ops [] listed i=true)(wN:B.contains i=false)(hi:ops[i]? =some o)(hd:o.dst=some d)(hn:d<n)(SB:wA o.op=false)(hw:HA (ops.toList.map (fun o:Oper=> o.dst)) R o=some true)
  (hv:∀H tmps,eA H₀ Ls H->LA n R tmps->AD M o tmps H fun u H'=> u=v/\H.le H')
  (h:Ta M St n b H₁ cs (S2 H₀ B Ls L) md ops fuel (listed.setIfInBounds i true) ((d,v)::R) L₁ ds k):Ta M St n b H₁ cs (S2 H₀ B Ls L) md ops (fuel+1) listed R L₁ ds k:=by
 simp only[uD,Bool.and_eq_true,Bool.not_eq_true'] at hc;obtain⟨⟨⟨⟨⟨iI,hr⟩,hf⟩,HB⟩,_⟩,_⟩:=hc;exact .take i hi iI hr hf hd hn SB HB (S2.same wN) hw (fun _ _ _ H tmps hS hr=> by
  have:=hv H tmps hS.1 hr;unfold AD at this ⊢;have fin:∀u H',(u=v/\H.le H')->u=v/\H.le H'/\S2 H₀ B Ls L _ H':=fun u H' ⟨h1,h2⟩=> ⟨h1,h2,hS.1.mono h2,fun hh=> (hS.2 hh).mono h2⟩
  refine NA _ (fun nx H' hn=> ?_) this;cases nx <;> first
   | exact hn.elim
   | exact fin _ _ hn
   | exact dA.mono hn fin
   | exact FL.mono hn fin) h
theorem Ta.ps {H₁:View}(i:Nat){B:List Nat}{Ls L₁:Bl}{o:Oper}{d:Nat}{fuel:Nat}{listed:Array Bool}(hc:uD md ops [] listed i=true)(wN:B.contains i=false)(hi:ops[i]? =some o)(hd:o.dst=some d)(hn:d<n)(SB:wA o.op=false)(hw:HA (ops.toList.map (fun o:Oper=> o.dst)) R o=some false)
  (h:Ta M St n b H₁ cs (S2 H₀ B Ls L) md ops fuel (listed.setIfInBounds i true) ((d,undef)::R) L₁ ds k):Ta M St n b H₁ cs (S2 H₀ B Ls L) md ops (fuel+1) listed R L₁ ds k:=by
 simp only[uD,Bool.and_eq_true,Bool.not_eq_true'] at hc;obtain⟨⟨⟨⟨⟨iI,hr⟩,hf⟩,HB⟩,_⟩,_⟩:=hc;exact .pass i hi iI hr hf hd hn SB HB (S2.same wN) hw h
def PZ(p:Nat->Prop):List Nat->Prop
 | []=> True
 | x::xs=> p x/\PZ p xs
theorem PZ.mem {p:Nat->Prop}:∀ {l:List Nat},PZ p l->∀i∈l,p i
 | [],_,i,hi=> by cases hi
 | x::xs,⟨h1,h2⟩,i,hi=> by
  rcases List.mem_cons.1 hi with rfl|hi
  ·exact h1
  ·exact h2.mem i hi
theorem Ta.each(rs:List Nat){fuel:Nat}{listed:Array Bool}(hr:Region.ready md ops listed=rs)(aB:rs.isEmpty=false)(h:PZ (mJ M St n b H₀ cs S md ops fuel listed R L ds k) rs):
 Ta M St n b H₀ cs S md ops (fuel+1) listed R L ds k:=.all hr aB h.mem
theorem S2.mk {B:List Nat}{Ls L₁:Bl}{listed:Array Bool}(h1:Ls.Sublist L₁)(h2:(B.all fun j=> !(listed.getD j true))=false\/L.Sublist L₁):∀H,eA H₀ L₁ H->S2 H₀ B Ls L listed H:=fun _ hs=>
 ⟨hs.less h1,fun h=> h2.elim (fun e=> by rw[e] at h;cases h) fun e=> hs.less e⟩
def ZL(L:Bl):List Nat->Bl
 | []=> L
 | i::is=> (ZL L is).eraseIdx i
theorem HI:∀(E:List Nat) (L:Bl),(ZL L E).Sublist L
 | [],_=> List.Sublist.refl _
 | i::is,L=> ((ZL L is).eraseIdx_sublist i).trans (HI is L)
theorem Tc.dr {id:Nat}{fuel:Nat}(B E:List Nat)(hm:P.follows .mixedOrders=true)(hf:ops.size=fuel)(h:Ta M St n b H₀ cs (S2 H₀ B (ZL L E) L) .any ops fuel (Array.replicate fuel false) R L ds k):
  Tc M St n b H₀ cs R L ds (.code (.region id ops true)::k):=fun H tmps hs hr=> by
 subst hf;refine .RK fun t=> ?_;simp only[Region.schedule,hm,Bool.true_or,if_true];have hS:=S2.mk (H₀:=H₀) (B:=B) (listed:=Array.replicate ops.size false) (HI E L) (.inr (List.Sublist.refl L)) H hs;exact(h H tmps hs hr hS).sound _ t _ _ _ hS
theorem Tc.R5 {todo:List Item}{R':Rg}(hR:cC R' R)(h:Tc M St n b H₀ cs R' L ds todo):Tc M St n b H₀ cs R L ds todo:=
 fun H tmps hs hr=> h H tmps hs ⟨hr.1,fun d v hv=> hr.2 d v (hR.sub d v hv)⟩
theorem Tc.TE {todo:List Item}{R':Rg}(h:Tc M St n b H₀ cs R' L' ds todo)(hR:cC R' R)(hL:L'.Sublist L):Tc M St n b H₀ cs R L ds todo:=
 fun H tmps hs hr=> h H tmps (hs.less hL) ⟨hr.1,fun d v hv=> hr.2 d v (hR.sub d v hv)⟩
theorem Or.ofT {K:Rg->Bl->Prop}{o:Oper}{d:Nat}{v:Value}(hv:∀H tmps,eA H₀ L H->LA n R tmps->AD M o tmps H fun u H'=> u=v/\H.le H')(hd:o.dst=some d)(hn:d<n)(hk:K ((d,v)::R) L):Or M n H₀ R L o K:=fun H tmps hs hr=>
 (hv H tmps hs hr).run (by
  rintro u H' ⟨rfl,hle⟩;refine⟨_,L,?_,hs.mono hle,hk⟩;rw[hd];exact hr.put hn _)
theorem mA.take {o:Oper}{v:Value}(h:mA P n H₀ R L o v):∀H tmps,eA H₀ L H->LA n R tmps->AD M o tmps H fun u H'=> u=v/\H.le H':=fun H tmps hs hr=>
 NA _ (by
  rintro nx H' ⟨rfl,rfl⟩;exact⟨rfl,View.le_refl _⟩) (h H tmps hs hr)
theorem mA.UM {o:Oper}{v:Value}{cl:Go.Call}{x:Operand}{fv:Value}{az:List Value}(gA:o.op=.call cl)(HB:cl.callee=.value x)(hx:BA R x=some fv)(has:ZD R cl.args.toList=some az)
  (hc:∀H,eA H₀ L H->TC M fv az H fun u H'=> H.le H'/\u=v):∀H tmps,eA H₀ L H->LA n R tmps->AD M o tmps H fun u H'=> u=v/\H.le H':=fun H tmps hs hr=> by
 have e1:=hr.ev hx;have WG:cl.args.map (vB tmps)=az.toArray:=by
  apply Array.ext'
  simpa using hr.evs has
 have hex:execOp (vB tmps) o=(Deferred.ofValue fv az.toArray).bind fun d=> invoke d.target d.args:=by
  have h1:execOp (vB tmps) o=(resolve (vB tmps) cl o.type).bind fun d=> invoke d.target d.args:=by unfold execOp;rw[gA];rfl
  rw[h1];unfold resolve;rw[HB];simp only[e1,WG]
 unfold AD;rw[hex];have fin:∀u H',(H.le H'/\u=v)->u=v/\H.le H':=fun u H' ⟨h1,h2⟩=> ⟨h2,h1⟩
 refine NA _ (fun nx H' hn=> ?_) (hc H hs);cases nx <;> first
  | exact hn.elim
  | exact dA.mono hn fin
  | exact FL.mono hn fin
end
theorem XF {H F:View}{b:Nat}{x:Bool×Obj}:(H.put b x).plus F=(H.plus F).put b x:=by
 funext c
 unfold View.plus View.put;split
 ·rename_i y hy
  split at hy
  ·rename_i e
   rw[if_pos e];exact hy.symm
  ·rename_i e
   rw[if_neg e];exact(tA hy).symm
 ·rename_i hy
  split at hy
  ·cases hy
  ·rename_i e
   rw[if_neg e];exact(GA hy).symm
theorem Dj.put {H F:View}{b:Nat}{x:Bool×Obj}(h:Dj H F)(hb:F b=none):Dj (H.put b x) F:=by
 intro c y hc;rw[View.jA]
 ·exact h c y hc
 ·intro e;rw[e,hb] at hc;cases hc
theorem Dj.none {H F:View}{b:Nat}{x:Bool×Obj}(h:Dj H F)(hb:H b=some x):F b=none:=by
 cases hf:F b with
 | none=> rfl
 | some y=> rw[h b y hf] at hb;cases hb
theorem VF {H F:View}{b:Nat}(h:H.plus F b=none):H b=none/\F b=none:=by
 unfold View.plus at h;split at h
 ·cases h
 ·exact⟨by assumption,h⟩
theorem zO {α:Type}{P:Program}(s:Sem α){Q:α->View->Prop}{F:View}:∀ {H:View},Dj H F->vA P s H Q->vA P s (H.plus F) fun a H''=> ∃H',H''=H'.plus F/\Dj H' F/\Q a H':=by
 induction s with
 | pure a=> exact fun hd h=> ⟨_,rfl,hd,h⟩
 | load m a c ih=> exact fun hd ⟨h1,h2,f,x,e,fz,v,h3,h4,h5⟩=> ⟨h1,h2,f,x,e,fz,v,tA h3,h4,ih v hd h5⟩
 | store m a v c ih=>
  intro H hd ⟨h1,h2,h3,h4,x,e,fz,h5,h6,h7,h8⟩;refine⟨h1,h2,h3,h4,x,e,fz,tA h5,h6,h7,?_⟩;rw[<-XF];exact ih (hd.put (hd.none h5)) h8
 | new o c ih=>
  intro H hd h b hb;obtain⟨h1,h2⟩:=VF hb;rw[<-XF];exact ih b (hd.put h2) (h b h1)
 | shape r c ih=> exact fun hd ⟨f,x,e,fz,h1,h2⟩=> ⟨f,x,e,fz,tA h1,ih _ hd h2⟩
 | freeze a n c ih=>
  intro H hd ⟨h1,x,e,fz,h2,h3⟩;refine⟨h1,x,e,fz,tA h2,?_⟩;rw[<-XF];exact ih (hd.put (hd.none h2)) h3
 | frozen a c ih=> exact fun hd ⟨f,x,e,fz,h1,h2⟩=> ⟨f,x,e,fz,tA h1,ih _ hd h2⟩
 | getObj r c ih=> exact fun hd ⟨f,o,h1,h2,h3,h4⟩=> ⟨f,o,tA h1,h2,h3,ih _ hd h4⟩
 | setObj r o c ih=>
  intro H hd ⟨⟨o₀,h1,h2⟩,h3,h4⟩;refine⟨⟨o₀,tA h1,h2⟩,h3,?_⟩;rw[<-XF];exact ih (hd.put (hd.none h1)) h4
 | choose q c ih=> exact fun hd h t=> ih _ hd (h t)
 | sys c k ih=> exact fun _ h=> h.elim
 | program c ih=> exact fun hd h=> ih _ hd h
 | mark m c ih=> exact fun hd ⟨h1,h2⟩=> ⟨h1,ih hd h2⟩
 | halt h=> exact fun _ h=> h.elim
section
variable {P:Program}{E:Env P}{M:Md P}{St:View->Goroutine->Prop}{n:Nat}{b:FB}{H₀:View}{cs:List Frame}{R R':Rg}{L L':Bl}{ds:List Deferred}{k:List Item}{K:Rg->Bl->Prop}{o:Oper}{d:Nat}{v:Value}
def bH(F:View)(Q:Value->View->Prop):Value->View->Prop:=fun v H''=> ∃H',H''=H'.plus F/\Dj H' F/\Q v H'
theorem FL.frame {fr:Frame}{H F:View}{Q:Value->View->Prop}(h:FL M fr H Q)(hd:Dj H F):FL M fr (H.plus F) (bH F Q):=fun St c cs hk=> by
 have h1:=h (fun H' g'=> ∃v,Q v H'/\g'=G (c.finish v) cs) c cs fun v H' hq=> .stop ⟨v,hq,rfl⟩;refine(h1.frame F hd).bind ?_;rintro H'' g' ⟨H',rfl,yJ,v,hq,rfl⟩;exact hk v _ ⟨H',rfl,yJ,hq⟩
theorem TC.frame {fv:Value}{az:List Value}{H F:View}{Q:Value->View->Prop}(h:TC M fv az H Q)(hd:Dj H F):TC M fv az (H.plus F) (bH F Q):=by
 refine NA _ ?_ (zO _ hd h);rintro nx H'' ⟨H',rfl,yJ,hn⟩;cases nx <;> first
  | exact hn.elim
  | exact FL.frame hn yJ
theorem eA.split {H:View}(hs:eA H₀ L H):∃F,H=H₀.plus F/\Dj H₀ F/\∀x∈L,F x.1=some x.2:=by
 refine⟨fun c=> match H₀ c with|some _=> none|none=> H c,?_,fun c x hc=> ?_,fun x hx=> ?_⟩
 ·funext c
  unfold View.plus;cases h0:H₀ c with
  | some y=> exact hs.base c y h0
  | none=> simp only[h0]
 ·cases h0:H₀ c with
  | some y=> simp only[h0] at hc;cases hc
  | none=> rfl
 ·simp only[hs.out x hx];exact hs.at_ x hx
theorem eA.xP {H₁ F:View}(hn:(L.map (·.1)).Nodup)(hF:∀x∈L,F x.1=some x.2)(hd:Dj H₁ F):eA H₁ L (H₁.plus F):=
 ⟨hn,fun x hx=> hd _ _ (hF x hx),fun x hx=> by rw[GA (hd _ _ (hF x hx))];exact hF x hx,fun _ _ h=> tA h⟩
theorem To.OF {dl:List (Option Tmp)}{l:List Oper}{cl:Go.Call}{x:Operand}{fv:Value}{az:List Value}(hw:HA dl R o=some true)(gA:o.op=.call cl)(HB:cl.callee=.value x)(hx:BA R x=some fv)(has:ZD R cl.args.toList=some az)(hd:o.dst=some d)(hn:d<n)
  {Q:Value->View->Prop} (hc:TC M fv az H₀ Q) (hk:∀v H₁,Q v H₁->To M St n b H₁ cs dl ((d,v)::R) L ds l k):To M St n b H₀ cs dl R L ds (o::l) k:=fun arr ix ha fN=> by
 cases ix with
 | nil=> simp at fN
 | cons i r=>
  simp only[List.map_cons,List.cons.injEq] at fN;intro H tmps hs hr;refine jF.sound fN.1 (kB ha hr hw) (by rw[gA];rfl) ?_;obtain⟨F,rfl,nQ,hF⟩:=hs.split;have e1:=hr.ev hx;have WG:cl.args.map (vB tmps)=az.toArray:=by
   apply Array.ext'
   simpa using hr.evs has
  have hex:execOp (vB tmps) o=(Deferred.ofValue fv az.toArray).bind fun d=> invoke d.target d.args:=by
   have h1:execOp (vB tmps) o=(resolve (vB tmps) cl o.type).bind fun d=> invoke d.target d.args:=by unfold execOp;rw[gA];rfl
   rw[h1];unfold resolve;rw[HB];simp only[e1,WG]
  unfold jF;rw[hex];have fin:∀v H'',bH F Q v H''->T M St H'' (G (b.at (AB tmps o.dst v) ds (.inRegion arr r::k)) cs):=by
   rintro v H'' ⟨H₁,rfl,yJ,hq⟩;rw[hd];exact hk v H₁ hq arr r ha fN.2 _ _ (.xP hs.nodup hF yJ) (hr.put hn v)
  refine NA _ (fun nx H' YX=> ?_) (hc.frame nQ);cases nx <;> first
   | exact YX.elim
   | exact dA.mono YX fin
   | exact FL.mono YX fin
def qW(R:Rg):List Nat->List Value->Rg
 | t::ts,a::az=> qW ((t,a)::R) ts az
 | _,_=> R
theorem LA.K8:∀ {ts:List Nat} {az:List Value} {R:Rg} {tmps:Array Value},LA n R tmps->(ts.all fun t=> Nat.blt t n)=true->ts.length=az.length->LA n (qW R ts az) ((ts.zip az).foldl (fun tmps (x:Nat×Value)=> tmps.setIfInBounds x.1 x.2) tmps)
 | [],[],_,_,h,_,_=> h
 | t::ts,a::az,R,tmps,h,hb,hl=> by
  simp only[List.all_cons,Bool.and_eq_true] at hb;have iB:t<n:=by have:=hb.1;rw[Nat.blt_eq] at this;exact this
  exact LA.K8 (ts:=ts) (az:=az) (h.put iB a) hb.2 (by simpa using hl)
 | [],_::_,_,_,_,_,h=> by cases h
 | _::_,[],_,_,_,_,h=> by cases h
theorem TC.round {l i:Nat}{lp:Loop}{H:View}{az:List Value}{ts:List Nat}{Q:Value->View->Prop}(hs:eA H₀ L H)(hl:L[i]? =some (l,true,.loop lp))(pQ:lp.params=ts.toArray)(hb:(ts.all fun t=> Nat.blt t n)=true)(hlen:ts.length=az.length)(hr:LA n R lp.tmps)
  (h:∀St c cs,(∀v H',Q v H'->T M St H' (G (c.finish v) cs))->Tc M St n ⟨lp.fn,.normal,some l⟩ H₀ (c::cs) (qW R ts az) L [] [.code lp.assign,.beginRound,.code lp.body]):TC M (.func (.yield l) #[] #[]) az H Q:=by
 unfold TC;simp only[Deferred.ofValue];show vA P (Instr.yield l (#[]++az.toArray)) H _;refine⟨true,_,hs.get hl,by simp,rfl,?_⟩;show vA P (if(#[]++az.toArray).size≠lp.params.size then _ else _) H _;rw[if_neg (by rw[pQ];simp[hlen])];intro St c cs hK;have e:(lp.params.zip (#[]++az.toArray)).foldl (fun tmps (x:Nat×Value)=> tmps.setIfInBounds x.1 x.2) lp.tmps=(ts.zip az).foldl (fun tmps (x:Nat×Value)=> tmps.setIfInBounds x.1 x.2) lp.tmps:=by
  rw[pQ];simp
 have:=h St c cs hK H _ hs (hr.K8 hb hlen);rw[<-e] at this;exact this
theorem T.beginRound {H:View}{l:Nat}{tmps:Array Value}(hb:b.rd=some l)(h:vA P ((Instr.beginRound l).bind fun _=> .pure Next.skip) H fun nx H'=> nx=.skip/\T M St H' (G (b.at tmps ds k) cs)):T M St H (G (b.at tmps ds (.beginRound::k)) cs):=by
 refine .step ⟨rfl,fun w hs _=> ?_⟩;obtain⟨nx,H',w',es,h1,h2,rfl,h3⟩:=rB _ #[] hs h;rw[Array.empty_append] at h1;generalize VG:seen P (b.at tmps ds (.beginRound::k)).fn (if(b.at tmps ds (.beginRound::k)).kind==.early then #[] else es)=es';have GD:∀e∈es',e∈es:=fun e he=> by
  rw[<-VG] at he;have:=mem_seen he;split at this
  ·simp at this
  ·exact this
 have e:stepG P M.main (G (b.at tmps ds (.beginRound::k)) cs) w=stepG.apply P true (b.at tmps ds (.beginRound::k)) cs none ((Instr.beginRound l).bind fun _=> .pure Next.skip) w:=by
  simp[G,stepG,stepG.exec,FB.at,hb]
  rfl
 refine⟨_,w',es',H',(e.trans (b:=stepG.apply P true (b.at tmps ds (.beginRound::k)) cs none ((Instr.beginRound l).bind fun _=> .pure Next.skip) w) (c:=GStep.after es' (.go (G (b.at tmps ds k) cs) w')) ?_).trans (by simp[GStep.after]),h2.sub GD,h3⟩;rw[<-VG];unfold stepG.apply;rw[if_pos rfl,h1];rfl
theorem T.AA {H:View}{l:Nat}{tmps:Array Value}{todo:List Item}{jump:Option Code}{c:Frame}(hb:b.rd=some l)(hk:b.kind=.normal)
  (ht:(todo= []/\jump=none)\/(∃k,todo=.code .ret::k/\jump=some .ret)\/∃id k,todo=.code (.exit id)::k/\exitTo id k=none/\jump=some (.exit id))
  (h:vA P (Instr.endRound l jump) H fun v H'=> T M St H' (G (c.finish v) cs)):T M St H (G (b.at tmps [] todo) (c::cs)):=by
 refine .step ⟨rfl,fun w hs _=> ?_⟩;obtain⟨v,H',w',es,h1,h2,h3⟩:=rB _ #[] hs h;rw[Array.empty_append] at h1;have hp:Sem.run P (Instr.endRound l jump) w=.ok v w'/\Sem.events P (Instr.endRound l jump) w #[]=es:=by simpa using h1
 refine⟨G (c.finish v) cs,w',seen P b.fn es,H',?_,h2.sub fun e he=> mem_seen he,h3⟩;rcases ht with ⟨rfl,rfl⟩|⟨k,rfl,rfl⟩|⟨id,k,rfl,he,rfl⟩
 ·simp[G,stepG,stepG.exec,FB.at,hb,hp.1,hp.2,doReturn,hk,GStep.after]
 ·simp[G,stepG,stepG.exec,FB.at,hb,hp.1,hp.2,doReturn,hk,GStep.after]
 ·simp[G,stepG,stepG.exec,FB.at,hb,hp.1,hp.2,doReturn,hk,GStep.after,he]
theorem Tc.beginRound {i l:Nat}{lp:Loop}(hb:b.rd=some l)(hi:L[i]? =some (l,true,.loop lp))(bB:lp.state=.ready)(h:Tc M St n b H₀ cs R (L.set i (l,true,.loop { lp with state:=.busy })) ds k):Tc M St n b H₀ cs R L ds (.beginRound::k):=fun H tmps hs hr=>
 .beginRound hb (by
  have hl:=hs.get hi;refine aA (Instr.beginRound l) _ ?_;refine⟨true,_,hl,by simp,rfl,?_⟩;refine⟨⟨_,hl,by simp⟩,rfl,?_⟩;show vA P (match lp.state with
   | .ready=> _
   | .done=> _
   | .busy=> _
   | .exhausted=> _) _ _
  rw[bB];exact⟨rfl,h _ tmps (hs.set hi _) hr⟩)
theorem Tc.AA {i l:Nat}{lp:Loop}{c:Frame}{Q:Value->View->Prop}{f:FuncId}{todo:List Item}{jump:Option Code}(hK:∀v H',Q v H'->T M St H' (G (c.finish v) cs))(hi:L[i]? =some (l,true,.loop lp))
  (ht:(todo= []/\jump=none)\/(∃k,todo=.code .ret::k/\jump=some .ret)\/∃id k,todo=.code (.exit id)::k/\exitTo id k=none/\jump=some (.exit id))
  (h:∀H',eA H₀ (L.set i (l,true,.loop { lp with state:=if jump.isNone then .ready else .done,pending:=jump })) H'->Q (.bool jump.isNone) H'):Tc M St n ⟨f,.normal,some l⟩ H₀ (c::cs) R L [] todo:=fun H tmps hs _=>
 .AA (b:=⟨f,.normal,some l⟩) rfl rfl ht (by
  have hl:=hs.get hi;refine⟨true,_,hl,by simp,rfl,?_⟩;refine⟨⟨_,hl,by simp⟩,rfl,?_⟩;exact hK _ _ (h _ (hs.set hi _)))
theorem T.endRangeFunc {H:View}{l:Nat}{tmps:Array Value}(h:vA P (Instr.endLoop l) H fun j H'=> T M St H' (G (b.at tmps ds ((j.map Item.code).toList++k)) cs)):T M St H (G (b.at tmps ds (.endRangeFunc l::k)) cs):=by
 refine .step ⟨rfl,fun w hs _=> ?_⟩;obtain⟨v,H',w',es,h1,h2,h3⟩:=rB _ #[] hs h;rw[Array.empty_append] at h1;have hp:Sem.run P (Instr.endLoop l) w=.ok v w'/\Sem.events P (Instr.endLoop l) w #[]=es:=by simpa using h1
 refine⟨_,w',seen P b.fn es,H',?_,h2.sub fun e he=> mem_seen he,h3⟩;simp[G,stepG,stepG.exec,FB.at,hp.1,hp.2,GStep.after]
theorem T.collect {H:View}{r:Nat}{tmps:Array Value}{todo:List Item}{az:Array Value}(h:vA P (Instr.takeDeferred r) H fun calls H'=> T M St H' (G (b.back tmps (calls++ds) todo) cs)):T M St H (G (b.back tmps ({ target:=.collected r,args:=az }::ds) todo) cs):=by
 refine .step ⟨rfl,fun w hs _=> ?_⟩;obtain⟨v,H',w',es,h1,h2,h3⟩:=rB _ #[] hs h;rw[Array.empty_append] at h1;refine⟨_,w',seen P b.fn es,H',?_,h2.sub fun e he=> mem_seen he,h3⟩;have e:stepG P M.main (G (b.back tmps ({ target:=.collected r,args:=az }::ds) todo) cs) w=unwind P M.main (b.back tmps ({ target:=.collected r,args:=az }::ds) todo) cs none w:=by
  simp[G,stepG,FB.back]
 rw[e];unfold unwind;simp only[FB.back,h1,GStep.after,G,Array.append_empty]
theorem T.rangeFunc {H:View}{f:Operand}{params:Array Tmp}{assign body:Code}{tmps:Array Value}{fv:Value}(hf:vB tmps f=fv)
  (h:vA P (Instr.enterLoop b.fn tmps params assign body b.rd) H fun x H'=> TC M fv [.func (.yield x.1) #[] #[]] H' fun _ H''=> T M St H'' (G (b.at tmps (x.2++ds) (.endRangeFunc x.1::k)) cs)):
  T M St H (G (b.at tmps ds (.code (.rangeFunc f params assign body)::k)) cs):=by
 refine .step ⟨rfl,fun w hs _=> ?_⟩;obtain⟨⟨l,mark⟩,H₁,w₁,es₁,h1,h2,h3⟩:=rB _ #[] hs h;rw[Array.empty_append] at h1;obtain⟨nx,H₂,w₂,es₂,g1,g2,g3⟩:=rB _ #[] h2.sat h3;rw[Array.empty_append] at g1;generalize XQ:b.at tmps (mark++ds) (.inRangeFunc l::k)=fr;generalize VG:seen P fr.fn (if fr.kind==.early then #[] else es₂)=es';have GD:∀e∈seen P b.fn es₁++es',e∈es₁++es₂:=fun e he=> by
  rcases Array.mem_append.1 he with he|he
  ·exact Array.mem_append.2 (.inl (mem_seen he))
  ·rw[<-VG] at he;have:=mem_seen he;split at this
   ·simp at this
   ·exact Array.mem_append.2 (.inr this)
 have key:stepG P M.main (G (b.at tmps ds (.code (.rangeFunc f params assign body)::k)) cs) w=
   GStep.after (seen P b.fn es₁) (stepG.apply P true fr cs none ((Deferred.ofValue fv #[.func (.yield l) #[] #[]]).bind fun d=> invoke d.target d.args) w₁):=by
  have TS:fr.eval f=fv:=by rw[<-XQ,FB.eval_at];exact hf
  have vP:(resolve fr.eval { callee:=.value f,args:=#[.const (.func (.yield l) #[] #[])],argTypes:=#[] } 0)=Deferred.ofValue fv #[.func (.yield l) #[] #[]]:=by
   show Deferred.ofValue (fr.eval f) (#[Operand.const (.func (.yield l) #[] #[])].map fr.eval)=_;rw[TS];simp[Frame.eval]
  have:stepG P M.main (G (b.at tmps ds (.code (.rangeFunc f params assign body)::k)) cs) w=
   GStep.after (seen P b.fn es₁) (stepG.apply P true fr cs none ((resolve fr.eval { callee:=.value f,args:=#[.const (.func (.yield l) #[] #[])],argTypes:=#[] } 0).bind fun d=> invoke d.target d.args) w₁):=by
   have hp:Sem.run P (Instr.enterLoop b.fn tmps params assign body b.rd) w=.ok (l,mark) w₁/\Sem.events P (Instr.enterLoop b.fn tmps params assign body b.rd) w #[]=es₁:=by simpa using h1
   rw[<-XQ];simp[G,stepG,stepG.exec,FB.at,hp.1,hp.2]
   rfl
  rw[this,vP]
 have TQ:∀g,stepG.apply P true fr cs none ((Deferred.ofValue fv #[.func (.yield l) #[] #[]]).bind fun d=> invoke d.target d.args) w₁=GStep.after es' (.go g w₂)-> 
   stepG P M.main (G (b.at tmps ds (.code (.rangeFunc f params assign body)::k)) cs) w=.go g w₂ (seen P b.fn es₁++es'):=fun g hg=> by
  rw[key,hg];simp[GStep.after]
 have wC:∀v,fr.finish v=b.at tmps (mark++ds) (.endRangeFunc l::k):=by
  intro v;rw[<-XQ];rfl
 cases nx <;> try exact g3.elim
 case enter g az=>
  refine⟨_,w₂,_,H₂,TQ (G (Frame.enter P g az .normal) (fr::cs)) ?_,(h2.trans g2).sub GD,?_⟩
  ·subst XQ;rw[<-VG];unfold stepG.apply;rw[if_pos rfl,g1];rfl
  ·exact g3 St fr cs fun v H'' hq=> by rw[wC];exact hq
 case round l' g tmps' az bd=>
  refine⟨_,w₂,_,H₂,TQ (G (Frame.round l' g tmps' az bd .normal) (fr::cs)) ?_,(h2.trans g2).sub GD,?_⟩
  ·subst XQ;rw[<-VG];unfold stepG.apply;rw[if_pos rfl,g1];rfl
  ·exact g3 St fr cs fun v H'' hq=> by rw[wC];exact hq
def MC(r:Nat):Deferred:= { target:=.collected r,args:=#[] }
def Loop.fresh(f:FuncId)(tmps:Array Value)(params:Array Tmp)(assign body:Code)(r:Nat):Loop:= { state:=.ready,pending:=none,fn:=f,tmps,params,assign,body,defers:=r }
theorem Tc.rangeFunc {f:Operand}{params:Array Tmp}{assign body:Code}{fv:Value}(cK:b.rd=none)(hf:BA R f=some fv)(Z:Nat->Nat->Option Code->View->Bl->Prop)
  (h:∀l r tmps H,LA n R tmps->eA H₀ ((l,true,.loop (Loop.fresh b.fn tmps params assign body r))::(r,true,.deferred (some []))::L) H-> 
   TC M fv [.func (.yield l) #[] #[]] H fun _ H'=> ∃H₁ L₁ lp,eA H₁ ((l,true,.loop lp)::(r,true,.deferred (some []))::L₁) H'/\lp.state≠ .busy/\Z l r lp.pending H₁ L₁)
  (hk:∀l r j H₁ L₁,Z l r j H₁ L₁->Tc M St n b H₁ cs R ((r,true,.deferred (some []))::L₁) (MC r::ds) ((j.map Item.code).toList++k)):
  Tc M St n b H₀ cs R L ds (.code (.rangeFunc f params assign body)::k):=fun H tmps hs hr=> by
 refine .rangeFunc (hr.ev hf) ?_;rw[cK];intro r dY;intro l hl0;have hs':=(hs.cons (true,.deferred (some [])) dY).cons (true,.loop (Loop.fresh b.fn tmps params assign body r)) hl0;refine TC.mono (h l r tmps _ hr hs') ?_;rintro v H' ⟨H₁,L₁,lp,TN,bB,hz⟩;refine .endRangeFunc ?_;have hl:=TN.get (i:=0) rfl;refine⟨true,_,hl,by simp,rfl,?_⟩;have hb:(lp.state==LoopState.busy)=false:=by simpa using bB
 show vA P (if(lp.state==LoopState.busy)=true then _ else _) H' _;rw[if_neg (by simp[hb])];refine⟨⟨_,hl,by simp⟩,rfl,?_⟩;refine hk l r lp.pending H₁ L₁ hz _ tmps ?_ hr;exact(TN.set (i:=0) rfl _).less (List.sublist_cons_self _ _)
theorem Tc.MR {f:Operand}{params:Array Tmp}{assign body:Code}{fv:Value}{lo i:Nat}{lpo:Loop}(cK:b.rd=some lo)(hi:L[i]? =some (lo,true,.loop lpo))(hf:BA R f=some fv)(Z:Nat->Option Code->View->Bl->Prop)
  (h:∀l tmps H,LA n R tmps->eA H₀ ((l,true,.loop (Loop.fresh b.fn tmps params assign body lpo.defers))::L) H-> 
   TC M fv [.func (.yield l) #[] #[]] H fun _ H'=> ∃H₁ L₁ lp,eA H₁ ((l,true,.loop lp)::L₁) H'/\lp.state≠ .busy/\Z l lp.pending H₁ L₁)
  (hk:∀l j H₁ L₁,Z l j H₁ L₁->Tc M St n b H₁ cs R L₁ ds ((j.map Item.code).toList++k)):
  Tc M St n b H₀ cs R L ds (.code (.rangeFunc f params assign body)::k):=fun H tmps hs hr=> by
 refine .rangeFunc (hr.ev hf) ?_;rw[cK];refine⟨true,_,hs.get hi,by simp,rfl,?_⟩;intro l hl0;have hs':=hs.cons (true,.loop (Loop.fresh b.fn tmps params assign body lpo.defers)) hl0;refine TC.mono (h l tmps _ hr hs') ?_;rintro v H' ⟨H₁,L₁,lp,TN,bB,hz⟩;refine .endRangeFunc ?_;have hl:=TN.get (i:=0) rfl;refine⟨true,_,hl,by simp,rfl,?_⟩;have hb:(lp.state==LoopState.busy)=false:=by simpa using bB
 show vA P (if(lp.state==LoopState.busy)=true then _ else _) H' _;rw[if_neg (by simp[hb])];refine⟨⟨_,hl,by simp⟩,rfl,?_⟩;refine hk l lp.pending H₁ L₁ hz _ tmps ?_ hr;exact(TN.set (i:=0) rfl _).less (List.sublist_cons_self _ _)
theorem Tc.PR {i r:Nat}{fn:Func}{c:Frame}{Q:Value->View->Prop}{f:FuncId}{rs:List ResultVar}{vs:List Value}(hK:∀v H',Q v H'->T M St H' (G (c.finish v) cs))(hf:P.funcs[f]? =some fn)(eN:fn.results=rs.toArray)
  (hi:L[i]? =some (r,true,.deferred (some []))) (ho:eH E R (L.set i (r,true,.deferred none)) rs vs) (h:∀H',eA H₀ (L.set i (r,true,.deferred none)) H'->Q (OC vs) H'):Tc M St n ⟨f,.normal,none⟩ H₀ (c::cs) R L [MC r] (.code .ret::k):=
 fun H tmps hs hr=> .QB rfl (.collect (by
  have hd:=hs.get hi;refine⟨true,_,hd,by simp,rfl,?_⟩;refine⟨⟨_,hd,by simp⟩,rfl,?_⟩;have hs':=hs.set hi (true,.deferred none);exact .leave hf rfl (NA _ hK (SC hs' hr eN ho (h _ hs')))))
theorem Tc.aBE {i r:Nat}{fn:Func}{c:Frame}{Q:Value->View->Prop}{f:FuncId}{rs:List ResultVar}{vs:List Value}(hK:∀v H',Q v H'->T M St H' (G (c.finish v) cs))(hf:P.funcs[f]? =some fn)(eN:fn.results=rs.toArray)
  (hi:L[i]? =some (r,true,.deferred (some []))) (ho:eH E R (L.set i (r,true,.deferred none)) rs vs) (h:∀H',eA H₀ (L.set i (r,true,.deferred none)) H'->Q (OC vs) H'):Tc M St n ⟨f,.normal,none⟩ H₀ (c::cs) R L [MC r] []:=
 fun H tmps hs hr=> .over rfl (.collect (by
  have hd:=hs.get hi;refine⟨true,_,hd,by simp,rfl,?_⟩;refine⟨⟨_,hd,by simp⟩,rfl,?_⟩;have hs':=hs.set hi (true,.deferred none);exact .leave hf rfl (NA _ hK (SC hs' hr eN ho (h _ hs')))))
theorem Tc.oR {σ:Type}(I:σ->View×Rg×Bl)(μ:σ->Nat){body:Code}
  (step:∀s,(∀s',μ s'<μ s->Tc M St n b (I s').1 cs (I s').2.1 (I s').2.2 ds (.inLoop body::k))->Tc M St n b (I s).1 cs (I s).2.1 (I s).2.2 ds (.code body:: .inLoop body::k)) (s₀:σ):
  Tc M St n b (I s₀).1 cs (I s₀).2.1 (I s₀).2.2 ds (.code (.loop body)::k):=by
 have key:∀(m:Nat) (s:σ),μ s<=m->Tc M St n b (I s).1 cs (I s).2.1 (I s).2.2 ds (.code body:: .inLoop body::k):=by
  intro m;induction m with
  | zero=> exact fun s hs=> step s fun s' iB=> by omega
  | succ m ih=> exact fun s hs=> step s fun s' iB=> .inLoop (ih s' oM)
 exact .loop (key _ s₀ (Nat.le_refl _))
def View.xA(H:View)(b:Nat):View:=fun c=> if c=b then none else H c
theorem KA {H:View}{b c:Nat}(h:c≠b):H.xA b c=H c:=by simp[View.xA,h]
theorem eA.pull {H:View}{b:Nat}{x:Bool×Obj}(hb:H b=some x):eA (H.xA b) [(b,x)] H:=
 ⟨by simp,by simp[View.xA],by simpa using hb,fun c y hc=> by
  unfold View.xA at hc;split at hc
  ·cases hc
  ·exact hc⟩
end
end Go.RL
namespace Go.Proofs.YtgkmnalhddmclaaGreatDoor
open Go.RL
theorem aDm:yA Tryz.prog 3 ⟨false,1,8,.int .i64 (0),[],none,.int .i64⟩:=by constructor <;> kernel_rfl
theorem aDn:yA Tryz.prog 4 ⟨false,1,1,.bool false,[],none,.bool⟩:=by constructor <;> kernel_rfl
theorem aDo:yA Tryz.prog 5 ⟨false,1,1,.int .u8 (0),[],none,.int .u8⟩:=by constructor <;> kernel_rfl
theorem aDp:yA Tryz.prog 9 ⟨false,1,16,.string ⟨#[]⟩,[],none,.str⟩:=by constructor <;> kernel_rfl
theorem aBG:yA Tryz.prog 20 ⟨false,1,16,.nilIface,[],none,.other⟩:=by constructor <;> kernel_rfl
theorem aBH:yA Tryz.prog 21 ⟨false,1,4,.int .i32 (0),[],none,.int .i32⟩:=by constructor <;> kernel_rfl
theorem aBI:yA Tryz.prog 23 ⟨true,2,16,.agg ⟨[.int .i64 (0),.int .i64 (0)]⟩,[0,1],none,.struct [(3,(0,1)),(3,(1,1))]⟩:=by constructor <;> kernel_rfl
theorem aBJ:yA Tryz.prog 24 ⟨false,1,24,.slice none 0 0,[],some (none,38),.slice 38⟩:=by constructor <;> kernel_rfl
theorem aBK:yA Tryz.prog 26 ⟨true,7,72,.agg ⟨[.int .i64 (0),.int .i64 (0),.slice none 0 0,.int .i64 (0),.int .i64 (0),.int .i64 (0),.int .i64 (0)]⟩,[0,2,3,5],none,.struct [(23,(0,2)),(24,(2,1)),(23,(3,2)),(23,(5,2))]⟩:=by constructor <;> kernel_rfl
theorem aBL:yA Tryz.prog 29 ⟨false,1,8,.int .i64 (0),[],none,.int .i64⟩:=by constructor <;> kernel_rfl
theorem aBM:yA Tryz.prog 38 ⟨true,4,32,.agg ⟨[.int .i64 (0),.int .i64 (0),.int .i64 (0),.int .i64 (0)]⟩,[0,2],none,.struct [(23,(0,2)),(23,(2,2))]⟩:=by constructor <;> kernel_rfl
theorem aBN:yA Tryz.prog 40 ⟨true,8,64,.agg ⟨[.int .i64 (0),.int .i64 (0),.int .i64 (0),.int .i64 (0),.int .i64 (0),.int .i64 (0),.int .i64 (0),.int .i64 (0)]⟩,[0,2,4],none,.struct [(23,(0,2)),(23,(2,2)),(38,(4,4))]⟩:=by constructor <;> kernel_rfl
theorem aBO:yA Tryz.prog 43 ⟨false,1,24,.slice none 0 0,[],some (none,3),.slice 3⟩:=by constructor <;> kernel_rfl
theorem aBP:yA Tryz.prog 47 ⟨false,1,8,.int .i64 (0),[],none,.int .i64⟩:=by constructor <;> kernel_rfl
theorem aBQ:yA Tryz.prog 53 ⟨true,4,48,.agg ⟨[.int .i64 (0),.int .i64 (0),.int .i64 (0),.slice none 0 0]⟩,[0,1,2,3],none,.struct [(3,(0,1)),(3,(1,1)),(3,(2,1)),(43,(3,1))]⟩:=by constructor <;> kernel_rfl
theorem aBR:yA Tryz.prog 68 ⟨false,1,8,.pointer none,[],none,.other⟩:=by constructor <;> kernel_rfl
theorem aBS:yA Tryz.prog 69 ⟨false,1,24,.slice none 0 0,[],some (none,5),.slice 5⟩:=by constructor <;> kernel_rfl
theorem aBT:yA Tryz.prog 71 ⟨true,2,32,.agg ⟨[.pointer none,.slice none 0 0]⟩,[0,1],none,.struct [(68,(0,1)),(69,(1,1))]⟩:=by constructor <;> kernel_rfl
theorem aBU:yA Tryz.prog 72 ⟨false,1,24,.slice none 0 0,[],some (none,23),.slice 23⟩:=by constructor <;> kernel_rfl
theorem aBV:yA Tryz.prog 74 ⟨false,1,16,.nilIface,[],none,.other⟩:=by constructor <;> kernel_rfl
theorem aBW:yA Tryz.prog 82 ⟨false,1,24,.slice none 0 0,[],some (none,9),.slice 9⟩:=by constructor <;> kernel_rfl
theorem aBX:yA Tryz.prog 84 ⟨true,0,0,.agg ⟨[]⟩,[],none,.struct []⟩:=by constructor <;> kernel_rfl
theorem aBY:yA Tryz.prog 93 ⟨true,6,48,.agg ⟨[.int .i64 (0),.int .i64 (0),.int .i64 (0),.int .i64 (0),.int .i64 (0),.int .i64 (0)]⟩,[0,2,4],none,.struct [(23,(0,2)),(23,(2,2)),(23,(4,2))]⟩:=by constructor <;> kernel_rfl
theorem aBZ:yA Tryz.prog 96 ⟨true,4,32,.agg ⟨[.int .i64 (0),.int .i64 (0),.int .i64 (0),.int .i64 (0)]⟩,[0],none,.struct [(38,(0,4))]⟩:=by constructor <;> kernel_rfl
theorem O8:yA Tryz.prog 102 ⟨false,1,8,.nilFunc,[],none,.other⟩:=by constructor <;> kernel_rfl
theorem P8:yA Tryz.prog 103 ⟨false,1,24,.slice none 0 0,[],some (none,108),.slice 108⟩:=by constructor <;> kernel_rfl
theorem Q8:yA Tryz.prog 105 ⟨true,2,32,.agg ⟨[.int .i64 (0),.slice none 0 0]⟩,[0,1],none,.struct [(3,(0,1)),(103,(1,1))]⟩:=by constructor <;> kernel_rfl
theorem R8:yA Tryz.prog 108 ⟨true,2,16,.agg ⟨[.int .i64 (0),.int .i64 (0)]⟩,[0,1],none,.struct [(3,(0,1)),(3,(1,1))]⟩:=by constructor <;> kernel_rfl
theorem S8:yA Tryz.prog 112 ⟨true,8,64,.agg ⟨[.int .i64 (0),.int .i64 (0),.int .i64 (0),.int .i64 (0),.int .i64 (0),.int .i64 (0),.int .i64 (0),.int .i64 (0)]⟩,[0],none,.struct [(40,(0,8))]⟩:=by constructor <;> kernel_rfl
theorem T8:yA Tryz.prog 115 ⟨false,1,8,.map none,[],none,.map 117 4⟩:=by constructor <;> kernel_rfl
theorem W8:yA Tryz.prog 117 ⟨false,1,1,.int .u8 (0),[],none,.int .u8⟩:=by constructor <;> kernel_rfl
theorem X8:yA Tryz.prog 127 ⟨true,6,48,.agg ⟨[.int .i64 (0),.int .i64 (0),.int .i64 (0),.int .i64 (0),.int .i64 (0),.int .i64 (0)]⟩,[],some (some 6,3),.arr 6 3⟩:=by constructor <;> kernel_rfl
theorem Y8:yA Tryz.prog 133 ⟨true,8,96,.agg ⟨[.int .i64 (0),.int .i64 (0),.slice none 0 0,.int .i64 (0),.int .i64 (0),.int .i64 (0),.int .i64 (0),.slice none 0 0]⟩,[0,7],none,.struct [(26,(0,7)),(43,(7,1))]⟩:=by constructor <;> kernel_rfl
theorem Z8:yA Tryz.prog 139 ⟨true,6,48,.agg ⟨[.int .i64 (0),.int .i64 (0),.int .i64 (0),.int .i64 (0),.int .i64 (0),.int .i64 (0)]⟩,[],some (some 3,23),.arr 3 23⟩:=by constructor <;> kernel_rfl
theorem e9:yA Tryz.prog 141 ⟨false,1,8,.pointer none,[],none,.other⟩:=by constructor <;> kernel_rfl
theorem j9:yA Tryz.prog 155 ⟨false,1,24,.slice none 0 0,[],some (none,156),.slice 156⟩:=by constructor <;> kernel_rfl
theorem l9:yA Tryz.prog 156 ⟨false,1,8,.nilFunc,[],none,.other⟩:=by constructor <;> kernel_rfl
theorem m9:yA Tryz.prog 157 ⟨true,4,32,.agg ⟨[.nilFunc,.nilFunc,.nilFunc,.nilFunc]⟩,[],some (some 4,156),.arr 4 156⟩:=by constructor <;> kernel_rfl
theorem o9:yA Tryz.prog 158 ⟨false,1,8,.map none,[],none,.map 167 4⟩:=by constructor <;> kernel_rfl
theorem p9:yA Tryz.prog 162 ⟨true,2,16,.agg ⟨[.int .i64 (0),.int .i64 (0)]⟩,[0,1],none,.struct [(3,(0,1)),(3,(1,1))]⟩:=by constructor <;> kernel_rfl
theorem q9:yA Tryz.prog 163 ⟨false,1,8,.map none,[],none,.map 108 207⟩:=by constructor <;> kernel_rfl
theorem r9:yA Tryz.prog 165 ⟨true,9,88,.agg ⟨[.int .i64 (0),.slice none 0 0,.int .i64 (0),.int .i64 (0),.int .i64 (0),.int .i64 (0),.int .i64 (0),.int .i64 (0),.map none]⟩,[0,2,3,4,5,6,8],none,.struct [(105,(0,2)),(3,(2,1)),(3,(3,1)),(3,(4,1)),(3,(5,1)),(162,(6,2)),(163,(8,1))]⟩:=by constructor <;> kernel_rfl
theorem s9:yA Tryz.prog 167 ⟨true,128,128,.agg ⟨List.replicate 128 (.bool false)⟩,[],some (some 128,4),.arr 128 4⟩:=by constructor <;> kernel_rfl
theorem u9:yA Tryz.prog 169 ⟨false,1,8,.int .u64 (0),[],none,.int .u64⟩:=by constructor <;> kernel_rfl
theorem v9:yA Tryz.prog 180 ⟨false,1,4,.int .u32 (0),[],none,.int .u32⟩:=by constructor <;> kernel_rfl
theorem w9:yA Tryz.prog 184 ⟨true,2,8,.agg ⟨[.int .i32 (0),.int .u32 (0)]⟩,[],none,.other⟩:=by constructor <;> kernel_rfl
theorem y9:yA Tryz.prog 187 ⟨false,1,8,.int .u64 (0),[],none,.int .u64⟩:=by constructor <;> kernel_rfl
theorem A9:yA Tryz.prog 191 ⟨true,2,16,.agg ⟨[.int .u64 (0),.int .u32 (0)]⟩,[],none,.struct [(179,(0,0)),(189,(0,1)),(180,(1,1))]⟩:=by constructor <;> kernel_rfl
theorem B9:yA Tryz.prog 192 ⟨false,1,8,.map none,[],none,.map 3 3⟩:=by constructor <;> kernel_rfl
theorem C9:yA Tryz.prog 196 ⟨false,1,8,.pointer none,[],none,.other⟩:=by constructor <;> kernel_rfl
theorem D9:yA Tryz.prog 206 ⟨false,1,8,.nilFunc,[],none,.other⟩:=by constructor <;> kernel_rfl
theorem E9:yA Tryz.prog 207 ⟨false,1,24,.slice none 0 0,[],some (none,210),.slice 210⟩:=by constructor <;> kernel_rfl
theorem F9:yA Tryz.prog 210 ⟨true,2,16,.agg ⟨[.int .i64 (0),.int .i64 (0)]⟩,[0,1],none,.struct [(3,(0,1)),(3,(1,1))]⟩:=by constructor <;> kernel_rfl
theorem G9:yA Tryz.prog 213 ⟨false,1,8,.int .i64 (0),[],none,.int .i64⟩:=by constructor <;> kernel_rfl
theorem H9:yA Tryz.prog 222 ⟨false,1,8,.nilFunc,[],none,.other⟩:=by constructor <;> kernel_rfl
theorem I9:yA Tryz.prog 223 ⟨false,1,8,.nilFunc,[],none,.other⟩:=by constructor <;> kernel_rfl
theorem J9:yA Tryz.prog 246 ⟨false,1,8,.int .u64 (0),[],none,.int .u64⟩:=by constructor <;> kernel_rfl
theorem K9:yA Tryz.prog 249 ⟨false,1,8,.pointer none,[],none,.other⟩:=by constructor <;> kernel_rfl
theorem M9:yA Tryz.prog 270 ⟨true,256,256,.agg ⟨List.replicate 256 (.bool false)⟩,[],some (some 256,4),.arr 256 4⟩:=by constructor <;> kernel_rfl
theorem N9:yA Tryz.prog 274 ⟨false,1,8,.pointer none,[],none,.other⟩:=by constructor <;> kernel_rfl
theorem O9:yA Tryz.prog 283 ⟨true,20,160,.agg ⟨[.int .u64 (0),.int .u64 (0),.int .u64 (0),.int .u64 (0),.int .u64 (0),.int .u64 (0),.int .u64 (0),.int .u64 (0),.int .u64 (0),.int .u64 (0),.int .u64 (0),.int .u64 (0),.int .u64 (0),.int .u64 (0),.int .u64 (0),.int .u64 (0),.int .u64 (0),.int .u64 (0),.int .u64 (0),.int .u64 (0)]⟩,[],some (some 20,187),.arr 20 187⟩:=by constructor <;> kernel_rfl
theorem P9:yA Tryz.prog 292 ⟨true,256,256,.agg ⟨List.replicate 256 (.int .u8 (0))⟩,[],some (some 256,5),.arr 256 5⟩:=by constructor <;> kernel_rfl
theorem Q9:yA Tryz.prog 294 ⟨true,2,2,.agg ⟨[.int .u8 (0),.int .u8 (0)]⟩,[0,1],none,.struct [(5,(0,1)),(5,(1,1))]⟩:=by constructor <;> kernel_rfl
theorem R9:yA Tryz.prog 295 ⟨true,32,32,.agg ⟨[.int .u8 (0),.int .u8 (0),.int .u8 (0),.int .u8 (0),.int .u8 (0),.int .u8 (0),.int .u8 (0),.int .u8 (0),.int .u8 (0),.int .u8 (0),.int .u8 (0),.int .u8 (0),.int .u8 (0),.int .u8 (0),.int .u8 (0),.int .u8 (0),.int .u8 (0),.int .u8 (0),.int .u8 (0),.int .u8 (0),.int .u8 (0),.int .u8 (0),.int .u8 (0),.int .u8 (0),.int .u8 (0),.int .u8 (0),.int .u8 (0),.int .u8 (0),.int .u8 (0),.int .u8 (0),.int .u8 (0),.int .u8 (0)]⟩,[],some (some 16,294),.arr 16 294⟩:=by constructor <;> kernel_rfl
theorem S9:yA Tryz.prog 303 ⟨true,3,48,.agg ⟨[.string ⟨#[]⟩,.string ⟨#[]⟩,.nilIface]⟩,[0,1,2],none,.struct [(9,(0,1)),(9,(1,1)),(74,(2,1))]⟩:=by constructor <;> kernel_rfl
theorem T9:yA Tryz.prog 305 ⟨true,32,32,.agg ⟨[.int .u8 (0),.int .u8 (0),.int .u8 (0),.int .u8 (0),.int .u8 (0),.int .u8 (0),.int .u8 (0),.int .u8 (0),.int .u8 (0),.int .u8 (0),.int .u8 (0),.int .u8 (0),.int .u8 (0),.int .u8 (0),.int .u8 (0),.int .u8 (0),.int .u8 (0),.int .u8 (0),.int .u8 (0),.int .u8 (0),.int .u8 (0),.int .u8 (0),.int .u8 (0),.int .u8 (0),.int .u8 (0),.int .u8 (0),.int .u8 (0),.int .u8 (0),.int .u8 (0),.int .u8 (0),.int .u8 (0),.int .u8 (0)]⟩,[],some (some 32,5),.arr 32 5⟩:=by constructor <;> kernel_rfl
theorem W9:yA Tryz.prog 306 ⟨true,64,64,.agg ⟨[.int .u8 (0),.int .u8 (0),.int .u8 (0),.int .u8 (0),.int .u8 (0),.int .u8 (0),.int .u8 (0),.int .u8 (0),.int .u8 (0),.int .u8 (0),.int .u8 (0),.int .u8 (0),.int .u8 (0),.int .u8 (0),.int .u8 (0),.int .u8 (0),.int .u8 (0),.int .u8 (0),.int .u8 (0),.int .u8 (0),.int .u8 (0),.int .u8 (0),.int .u8 (0),.int .u8 (0),.int .u8 (0),.int .u8 (0),.int .u8 (0),.int .u8 (0),.int .u8 (0),.int .u8 (0),.int .u8 (0),.int .u8 (0),.int .u8 (0),.int .u8 (0),.int .u8 (0),.int .u8 (0),.int .u8 (0),.int .u8 (0),.int .u8 (0),.int .u8 (0),.int .u8 (0),.int .u8 (0),.int .u8 (0),.int .u8 (0),.int .u8 (0),.int .u8 (0),.int .u8 (0),.int .u8 (0),.int .u8 (0),.int .u8 (0),.int .u8 (0),.int .u8 (0),.int .u8 (0),.int .u8 (0),.int .u8 (0),.int .u8 (0),.int .u8 (0),.int .u8 (0),.int .u8 (0),.int .u8 (0),.int .u8 (0),.int .u8 (0),.int .u8 (0),.int .u8 (0)]⟩,[],some (some 64,5),.arr 64 5⟩:=by constructor <;> kernel_rfl
theorem X9:yA Tryz.prog 311 ⟨true,1,16,.agg ⟨[.string ⟨#[]⟩]⟩,[0],none,.struct [(9,(0,1))]⟩:=by constructor <;> kernel_rfl
def tys:List (Nat×uA):= [(3,⟨false,1,8,.int .i64 (0),[],none,.int .i64⟩),
 (4,⟨false,1,1,.bool false,[],none,.bool⟩),
 (5,⟨false,1,1,.int .u8 (0),[],none,.int .u8⟩),
 (9,⟨false,1,16,.string ⟨#[]⟩,[],none,.str⟩),
 (20,⟨false,1,16,.nilIface,[],none,.other⟩),
 (21,⟨false,1,4,.int .i32 (0),[],none,.int .i32⟩),
 (23,⟨true,2,16,.agg ⟨[.int .i64 (0),.int .i64 (0)]⟩,[0,1],none,.struct [(3,(0,1)),(3,(1,1))]⟩),
 (24,⟨false,1,24,.slice none 0 0,[],some (none,38),.slice 38⟩),
 (26,⟨true,7,72,.agg ⟨[.int .i64 (0),.int .i64 (0),.slice none 0 0,.int .i64 (0),.int .i64 (0),.int .i64 (0),.int .i64 (0)]⟩,[0,2,3,5],none,.struct [(23,(0,2)),(24,(2,1)),(23,(3,2)),(23,(5,2))]⟩),
 (29,⟨false,1,8,.int .i64 (0),[],none,.int .i64⟩),
 (38,⟨true,4,32,.agg ⟨[.int .i64 (0),.int .i64 (0),.int .i64 (0),.int .i64 (0)]⟩,[0,2],none,.struct [(23,(0,2)),(23,(2,2))]⟩),
 (40,⟨true,8,64,.agg ⟨[.int .i64 (0),.int .i64 (0),.int .i64 (0),.int .i64 (0),.int .i64 (0),.int .i64 (0),.int .i64 (0),.int .i64 (0)]⟩,[0,2,4],none,.struct [(23,(0,2)),(23,(2,2)),(38,(4,4))]⟩),
 (43,⟨false,1,24,.slice none 0 0,[],some (none,3),.slice 3⟩),
 (47,⟨false,1,8,.int .i64 (0),[],none,.int .i64⟩),
 (53,⟨true,4,48,.agg ⟨[.int .i64 (0),.int .i64 (0),.int .i64 (0),.slice none 0 0]⟩,[0,1,2,3],none,.struct [(3,(0,1)),(3,(1,1)),(3,(2,1)),(43,(3,1))]⟩),
 (68,⟨false,1,8,.pointer none,[],none,.other⟩),
 (69,⟨false,1,24,.slice none 0 0,[],some (none,5),.slice 5⟩),
 (71,⟨true,2,32,.agg ⟨[.pointer none,.slice none 0 0]⟩,[0,1],none,.struct [(68,(0,1)),(69,(1,1))]⟩),
 (72,⟨false,1,24,.slice none 0 0,[],some (none,23),.slice 23⟩),
 (74,⟨false,1,16,.nilIface,[],none,.other⟩),
 (82,⟨false,1,24,.slice none 0 0,[],some (none,9),.slice 9⟩),
 (84,⟨true,0,0,.agg ⟨[]⟩,[],none,.struct []⟩),
 (93,⟨true,6,48,.agg ⟨[.int .i64 (0),.int .i64 (0),.int .i64 (0),.int .i64 (0),.int .i64 (0),.int .i64 (0)]⟩,[0,2,4],none,.struct [(23,(0,2)),(23,(2,2)),(23,(4,2))]⟩),
 (96,⟨true,4,32,.agg ⟨[.int .i64 (0),.int .i64 (0),.int .i64 (0),.int .i64 (0)]⟩,[0],none,.struct [(38,(0,4))]⟩),
 (102,⟨false,1,8,.nilFunc,[],none,.other⟩),
 (103,⟨false,1,24,.slice none 0 0,[],some (none,108),.slice 108⟩),
 (105,⟨true,2,32,.agg ⟨[.int .i64 (0),.slice none 0 0]⟩,[0,1],none,.struct [(3,(0,1)),(103,(1,1))]⟩),
 (108,⟨true,2,16,.agg ⟨[.int .i64 (0),.int .i64 (0)]⟩,[0,1],none,.struct [(3,(0,1)),(3,(1,1))]⟩),
 (112,⟨true,8,64,.agg ⟨[.int .i64 (0),.int .i64 (0),.int .i64 (0),.int .i64 (0),.int .i64 (0),.int .i64 (0),.int .i64 (0),.int .i64 (0)]⟩,[0],none,.struct [(40,(0,8))]⟩),
 (115,⟨false,1,8,.map none,[],none,.map 117 4⟩),
 (117,⟨false,1,1,.int .u8 (0),[],none,.int .u8⟩),
 (127,⟨true,6,48,.agg ⟨[.int .i64 (0),.int .i64 (0),.int .i64 (0),.int .i64 (0),.int .i64 (0),.int .i64 (0)]⟩,[],some (some 6,3),.arr 6 3⟩),
 (133,⟨true,8,96,.agg ⟨[.int .i64 (0),.int .i64 (0),.slice none 0 0,.int .i64 (0),.int .i64 (0),.int .i64 (0),.int .i64 (0),.slice none 0 0]⟩,[0,7],none,.struct [(26,(0,7)),(43,(7,1))]⟩),
 (139,⟨true,6,48,.agg ⟨[.int .i64 (0),.int .i64 (0),.int .i64 (0),.int .i64 (0),.int .i64 (0),.int .i64 (0)]⟩,[],some (some 3,23),.arr 3 23⟩),
 (141,⟨false,1,8,.pointer none,[],none,.other⟩),
 (155,⟨false,1,24,.slice none 0 0,[],some (none,156),.slice 156⟩),
 (156,⟨false,1,8,.nilFunc,[],none,.other⟩),
 (157,⟨true,4,32,.agg ⟨[.nilFunc,.nilFunc,.nilFunc,.nilFunc]⟩,[],some (some 4,156),.arr 4 156⟩),
 (158,⟨false,1,8,.map none,[],none,.map 167 4⟩),
 (162,⟨true,2,16,.agg ⟨[.int .i64 (0),.int .i64 (0)]⟩,[0,1],none,.struct [(3,(0,1)),(3,(1,1))]⟩),
 (163,⟨false,1,8,.map none,[],none,.map 108 207⟩),
 (165,⟨true,9,88,.agg ⟨[.int .i64 (0),.slice none 0 0,.int .i64 (0),.int .i64 (0),.int .i64 (0),.int .i64 (0),.int .i64 (0),.int .i64 (0),.map none]⟩,[0,2,3,4,5,6,8],none,.struct [(105,(0,2)),(3,(2,1)),(3,(3,1)),(3,(4,1)),(3,(5,1)),(162,(6,2)),(163,(8,1))]⟩),
 (167,⟨true,128,128,.agg ⟨List.replicate 128 (.bool false)⟩,[],some (some 128,4),.arr 128 4⟩),
 (169,⟨false,1,8,.int .u64 (0),[],none,.int .u64⟩),
 (180,⟨false,1,4,.int .u32 (0),[],none,.int .u32⟩),
 (184,⟨true,2,8,.agg ⟨[.int .i32 (0),.int .u32 (0)]⟩,[],none,.other⟩),
 (187,⟨false,1,8,.int .u64 (0),[],none,.int .u64⟩),
 (191,⟨true,2,16,.agg ⟨[.int .u64 (0),.int .u32 (0)]⟩,[],none,.struct [(179,(0,0)),(189,(0,1)),(180,(1,1))]⟩),
 (192,⟨false,1,8,.map none,[],none,.map 3 3⟩),
 (196,⟨false,1,8,.pointer none,[],none,.other⟩),
 (206,⟨false,1,8,.nilFunc,[],none,.other⟩),
 (207,⟨false,1,24,.slice none 0 0,[],some (none,210),.slice 210⟩),
 (210,⟨true,2,16,.agg ⟨[.int .i64 (0),.int .i64 (0)]⟩,[0,1],none,.struct [(3,(0,1)),(3,(1,1))]⟩),
 (213,⟨false,1,8,.int .i64 (0),[],none,.int .i64⟩),
 (222,⟨false,1,8,.nilFunc,[],none,.other⟩),
 (223,⟨false,1,8,.nilFunc,[],none,.other⟩),
 (246,⟨false,1,8,.int .u64 (0),[],none,.int .u64⟩),
 (249,⟨false,1,8,.pointer none,[],none,.other⟩),
 (270,⟨true,256,256,.agg ⟨List.replicate 256 (.bool false)⟩,[],some (some 256,4),.arr 256 4⟩),
 (274,⟨false,1,8,.pointer none,[],none,.other⟩),
 (283,⟨true,20,160,.agg ⟨[.int .u64 (0),.int .u64 (0),.int .u64 (0),.int .u64 (0),.int .u64 (0),.int .u64 (0),.int .u64 (0),.int .u64 (0),.int .u64 (0),.int .u64 (0),.int .u64 (0),.int .u64 (0),.int .u64 (0),.int .u64 (0),.int .u64 (0),.int .u64 (0),.int .u64 (0),.int .u64 (0),.int .u64 (0),.int .u64 (0)]⟩,[],some (some 20,187),.arr 20 187⟩),
 (292,⟨true,256,256,.agg ⟨List.replicate 256 (.int .u8 (0))⟩,[],some (some 256,5),.arr 256 5⟩),
 (294,⟨true,2,2,.agg ⟨[.int .u8 (0),.int .u8 (0)]⟩,[0,1],none,.struct [(5,(0,1)),(5,(1,1))]⟩),
 (295,⟨true,32,32,.agg ⟨[.int .u8 (0),.int .u8 (0),.int .u8 (0),.int .u8 (0),.int .u8 (0),.int .u8 (0),.int .u8 (0),.int .u8 (0),.int .u8 (0),.int .u8 (0),.int .u8 (0),.int .u8 (0),.int .u8 (0),.int .u8 (0),.int .u8 (0),.int .u8 (0),.int .u8 (0),.int .u8 (0),.int .u8 (0),.int .u8 (0),.int .u8 (0),.int .u8 (0),.int .u8 (0),.int .u8 (0),.int .u8 (0),.int .u8 (0),.int .u8 (0),.int .u8 (0),.int .u8 (0),.int .u8 (0),.int .u8 (0),.int .u8 (0)]⟩,[],some (some 16,294),.arr 16 294⟩),
 (303,⟨true,3,48,.agg ⟨[.string ⟨#[]⟩,.string ⟨#[]⟩,.nilIface]⟩,[0,1,2],none,.struct [(9,(0,1)),(9,(1,1)),(74,(2,1))]⟩),
 (305,⟨true,32,32,.agg ⟨[.int .u8 (0),.int .u8 (0),.int .u8 (0),.int .u8 (0),.int .u8 (0),.int .u8 (0),.int .u8 (0),.int .u8 (0),.int .u8 (0),.int .u8 (0),.int .u8 (0),.int .u8 (0),.int .u8 (0),.int .u8 (0),.int .u8 (0),.int .u8 (0),.int .u8 (0),.int .u8 (0),.int .u8 (0),.int .u8 (0),.int .u8 (0),.int .u8 (0),.int .u8 (0),.int .u8 (0),.int .u8 (0),.int .u8 (0),.int .u8 (0),.int .u8 (0),.int .u8 (0),.int .u8 (0),.int .u8 (0),.int .u8 (0)]⟩,[],some (some 32,5),.arr 32 5⟩),
 (306,⟨true,64,64,.agg ⟨[.int .u8 (0),.int .u8 (0),.int .u8 (0),.int .u8 (0),.int .u8 (0),.int .u8 (0),.int .u8 (0),.int .u8 (0),.int .u8 (0),.int .u8 (0),.int .u8 (0),.int .u8 (0),.int .u8 (0),.int .u8 (0),.int .u8 (0),.int .u8 (0),.int .u8 (0),.int .u8 (0),.int .u8 (0),.int .u8 (0),.int .u8 (0),.int .u8 (0),.int .u8 (0),.int .u8 (0),.int .u8 (0),.int .u8 (0),.int .u8 (0),.int .u8 (0),.int .u8 (0),.int .u8 (0),.int .u8 (0),.int .u8 (0),.int .u8 (0),.int .u8 (0),.int .u8 (0),.int .u8 (0),.int .u8 (0),.int .u8 (0),.int .u8 (0),.int .u8 (0),.int .u8 (0),.int .u8 (0),.int .u8 (0),.int .u8 (0),.int .u8 (0),.int .u8 (0),.int .u8 (0),.int .u8 (0),.int .u8 (0),.int .u8 (0),.int .u8 (0),.int .u8 (0),.int .u8 (0),.int .u8 (0),.int .u8 (0),.int .u8 (0),.int .u8 (0),.int .u8 (0),.int .u8 (0),.int .u8 (0),.int .u8 (0),.int .u8 (0),.int .u8 (0),.int .u8 (0)]⟩,[],some (some 64,5),.arr 64 5⟩),
 (311,⟨true,1,16,.agg ⟨[.string ⟨#[]⟩]⟩,[0],none,.struct [(9,(0,1))]⟩)]
theorem ZP:DL Tryz.prog tys:=⟨aDm,aDn,aDo,aDp,aBG,aBH,aBI,aBJ,aBK,aBL,aBM,aBN,aBO,aBP,aBQ,aBR,aBS,aBT,aBU,aBV,aBW,aBX,aBY,aBZ,O8,P8,Q8,R8,S8,T8,W8,X8,Y8,Z8,e9,j9,l9,m9,o9,p9,q9,r9,s9,u9,v9,w9,y9,A9,B9,C9,D9,E9,F9,G9,H9,I9,J9,K9,M9,N9,O9,P9,Q9,R9,S9,T9,W9,X9,trivial⟩
theorem mixed:Tryz.prog.follows .mixedOrders=true:=by kernel_rfl
theorem aAN:qA Tryz.prog 31=true:=by kernel_rfl
theorem Y0:qA Tryz.prog 38=true:=by kernel_rfl
theorem aCp:qA Tryz.prog 40=true:=by kernel_rfl
theorem qN:qA Tryz.prog 42=true:=by kernel_rfl
theorem aCq:qA Tryz.prog 51=true:=by kernel_rfl
theorem aCr:qA Tryz.prog 58=true:=by kernel_rfl
theorem aCs:qA Tryz.prog 59=true:=by kernel_rfl
theorem aAO:qA Tryz.prog 60=true:=by kernel_rfl
theorem aCt:qA Tryz.prog 61=true:=by kernel_rfl
theorem aCu:qA Tryz.prog 64=true:=by kernel_rfl
theorem aCv:qA Tryz.prog 68=true:=by kernel_rfl
theorem aCw:qA Tryz.prog 77=true:=by kernel_rfl
theorem aCx:qA Tryz.prog 80=true:=by kernel_rfl
theorem aCy:qA Tryz.prog 93=true:=by kernel_rfl
theorem aCz:qA Tryz.prog 95=true:=by kernel_rfl
theorem aCA:qA Tryz.prog 99=true:=by kernel_rfl
theorem G5:qA Tryz.prog 101=true:=by kernel_rfl
theorem H5:qA Tryz.prog 104=true:=by kernel_rfl
theorem aAC:qA Tryz.prog 105=true:=by kernel_rfl
theorem aAD:qA Tryz.prog 107=true:=by kernel_rfl
theorem aAE:qA Tryz.prog 108=true:=by kernel_rfl
theorem rX:qA Tryz.prog 117=true:=by kernel_rfl
theorem aAF:qA Tryz.prog 121=true:=by kernel_rfl
theorem I5:qA Tryz.prog 135=true:=by kernel_rfl
theorem aAG:qA Tryz.prog 146=true:=by kernel_rfl
theorem aAH:qA Tryz.prog 148=true:=by kernel_rfl
theorem aAI:qA Tryz.prog 149=true:=by kernel_rfl
theorem aAJ:qA Tryz.prog 153=true:=by kernel_rfl
theorem aAK:qA Tryz.prog 154=true:=by kernel_rfl
theorem aAL:qA Tryz.prog 157=true:=by kernel_rfl
theorem aAM:qA Tryz.prog 182=true:=by kernel_rfl
theorem J5:qA Tryz.prog 184=true:=by kernel_rfl
def en:Env Tryz.prog:=Env.of tys ZP
end Go.Proofs.YtgkmnalhddmclaaGreatDoor
namespace Go.RL.Au
set_option linter.unusedSimpArgs false
set_option linter.unusedVariables false
structure Lc where
 aw:Bool
 sv:Bool
 ws:Bool
 it:Nat
 deriving DecidableEq
inductive Th where
 | ld|l0|r0
 | sq (o:Nat) (c:Lc)|c1 (o:Nat) (c:Lc)|ds (c:Lc)|r1 (c:Lc)|c2 (o:Nat) (c:Lc)|r3 (c:Lc)
 | t1 (c:Lc)|s1 (c:Lc)|t2 (c:Lc)|r2 (c:Lc)|a1 (b:Bool)
 | le|la|up|ur|ud|u0|uc (o:Nat)|ux|us (h:Bool)|ue
 | wr|wk|wi|d1|d2|d3|d4|quit
 deriving DecidableEq
structure Sh where
 m:Nat
 Q:Nat
 c:Nat
 w:Nat
 q:Nat
 deriving DecidableEq
def hd(o:Nat)(c:Lc):Th:=if o%2=1/\o/4%2=0 then .sq o c else .c2 o c
def UD(o:Nat)(c:Lc):Nat:=
 if o%2=0/\o/4%2=0 then o+1-(if c.aw then 2 else 0)
 else o+8+(if c.sv=true/\o%2=1/\o/4%2=0 then 4 else 0)-(if c.aw then 2 else 0)
def Th.mv(s:Sh):Th->List (Th×Sh)
 | .ld=> [(.l0,s)]
 | .l0=> if s.m=0 then [(.le,{ s with m:=1 })] else [(.r0,s)]
 | .r0=> [(hd s.m ⟨false,false,false,0⟩,s)]
 | .sq o c=> (.c2 o c,s)::(if c.it<4 then [(if c.aw=false/\o/2%2=0/\o/8≠0 then .c1 o c else .ds c,s)] else [])
 | .c1 o c=> if s.m=o then [(.ds { c with aw:=true },{ s with m:=o+2 })] else [(.ds c,s)]
 | .ds c=> [(.r1 c,s)]
 | .r1 c=> [(hd s.m { c with it:=c.it+1 },s)]
 | .c2 o c=> if s.m=o then(if o%2=0/\o/4%2=0 then [(.le,{ s with m:=UD o c })] else [(if c.ws then .s1 c else .t1 c,{ s with m:=UD o c })]) else [(.r3 c,s)]
 | .r3 c=> [(hd s.m c,s)]
 | .t1 c=> [(.s1 { c with ws:=true },s),(.s1 { c with ws:=false },s)]
 | .s1 c=> if s.Q=0 then [] else [(.t2 c,{ s with Q:=s.Q-1 })]
 | .t2 c=> [(.r2 { c with sv:=true },s),(.r2 { c with sv:=c.sv },s)]
 | .r2 c=> if s.m/4%2=1 then [(.a1 (!c.sv||s.m/8==1),s)] else [(hd s.m { c with aw:=true,it:=0 },s)]
 | .a1 b=> [(.le,{ s with m:=s.m-7-(if b then 4 else 0) })]
 | .le=> [(.la,s)]
 | .la=> [(.up,s)]
 | .up=> [(.ur,s)]
 | .ur=> [(.ud,s)]
 | .ud=> [(.u0,s)]
 | .u0=> [(if s.m=1 then .ue else if(s.m-1)/4%2=1 then .us true else if(s.m-1)/8=0\/(s.m-1)%8≠0 then .ue else .uc (s.m-1),{ s with m:=s.m-1 })]
 | .uc o=> if s.m=o then [(.us false,{ s with m:=o-6 })] else [(.ux,s)]
 | .ux=> [(if s.m/8=0\/s.m%8≠0 then .ue else .uc s.m,s)]
 | .us _=> [(.ue,{ s with Q:=s.Q+1 })]
 | .ue=> [(.wr,s)]
 | .wr=> [(.wk,s)]
 | .wk=> [(.wi,s)]
 | .wi=> [(.d1,s)]
 | .d1=> [(if s.c=1/\s.w=1 then .d2 else .quit,{ s with c:=s.c-1 })]
 | .d2=> [(.d3,s)]
 | .d3=> [(.d4,{ s with w:=0 })]
 | .d4=> [(.quit,{ s with q:=s.q+1 })]
 | .quit=> []
def Th.own:Th->Nat
 | .le | .la | .up | .ur | .ud | .u0=> 1
 | _=> 0
def Th.xF:Th->Nat
 | .t1 _ | .s1 _=> 1
 | _=> 0
def Th.tok:Th->Nat
 | .us false=> 1
 | _=> 0
def Th.SB:Th->Nat
 | .us true=> 1
 | _=> 0
def Th.post:Th->Nat
 | .t2 _ | .r2 _=> 1
 | _=> 0
def Th.MF:Th->Nat
 | .sq _ c | .c1 _ c | .ds c | .r1 c | .c2 _ c | .r3 c=> if c.aw then 1 else 0
 | _=> 0
def Th.IB:Th->Nat
 | .a1 _=> 1
 | _=> 0
def Th.ul:Th->Nat
 | .uc _ | .ux=> 1
 | _=> 0
def Th.on:Th->Nat
 | .d2 | .d3 | .d4 | .quit=> 0
 | _=> 1
def Th.dd:Th->Nat
 | .d2 | .d3=> 1
 | _=> 0
def Th.pF:Th->Nat
 | .d4=> 1
 | _=> 0
def sm(f:Th->Nat):List Th->Nat
 | []=> 0
 | t::l=> f t+sm f l
theorem tD {f:Th->Nat}:∀ {l:List Th} {i:Nat} {t:Th},l[i]? =some t->∀t':Th,sm f (l.set i t')+f t=sm f l+f t'
 | a::l,0,t,h,t'=> by
  simp at h
  subst h;simp only[List.set_cons_zero,sm];omega
 | a::l,i+1,t,h,t'=> by
  have:=tD (f:=f) (l:=l) (i:=i) (t:=t) (by simpa using h) t';simp only[List.set_cons_succ,sm];omega
 | [],_,_,h,_=> by simp at h
theorem MD {f:Th->Nat}:∀ {l:List Th} {i:Nat} {t:Th},l[i]? =some t->f t<=sm f l
 | a::l,0,t,h=> by
  simp at h
  subst h;simp only[sm];omega
 | a::l,i+1,t,h=> by
  have:=MD (f:=f) (l:=l) (i:=i) (t:=t) (by simpa using h);simp only[sm];omega
 | [],_,_,h=> by simp at h
theorem bE(f:Th->Nat)(t:Th):∀l:List Th,sm f (l++[t])=sm f l+f t
 | []=> by simp[sm]
 | a::l=> by simp only[List.cons_append,sm,bE f t l];omega
theorem YT {f:Th->Nat}:∀ {l:List Th},0<sm f l->∃(i:Nat) (t:Th),l[i]? =some t/\0<f t
 | a ::l,h=> by
  simp only[sm] at h;by_cases h0:0<f a
  ·exact⟨0,a,by simp,h0⟩
  ·obtain⟨i,t,h1,h2⟩:=YT (f:=f) (l:=l) oM;exact⟨i+1,t,by simpa using h1,h2⟩
 | [],h=> by simp[sm] at h
theorem QP {f:Th->Nat}(hf:∀t,f t<=1):∀l:List Th,sm f l<=l.length
 | []=> by simp[sm]
 | a::l=> by
  have:=QP hf l;have:=hf a;simp only[sm,List.length_cons];omega
theorem aAb {f:Th->Nat}(h0:f .quit=0){l:List Th}{i j:Nat}{t u:Th}(hi:l[i]? =some t)(hj:l[j]? =some u)(xN:i≠j):f t+f u<=sm f l:=by
 have h1:=tD (f:=f) hi .quit;have h2:(l.set i .quit)[j]? =some u:=by rw[List.getElem?_set_ne xN];exact hj
 have h3:=MD (f:=f) h2;omega
inductive Mn where
 | kd|ki|ka|kr|ke|go
 | wd|w1|w2 (o:Nat)|wm|ws|w4|we|aq|ret
 deriving DecidableEq
def Mn.mv(s:Sh):Mn->List (Mn×Sh)
 | .kd=> [(.ki,s)]
 | .ki=> [(.ka,s)]
 | .ka=> [(if s.c=0 then .kr else .ke,{ s with c:=s.c+1 })]
 | .kr=> [(.ke,s)]
 | .ke=> [(.go,s)]
 | .go=> []
 | .wd=> [(.w1,s)]
 | .w1=> [(if s.c=0 then .we else .w2 s.c,s)]
 | .w2 o=> if s.c=o then [(.wm,{ s with w:=1 })] else [(.w1,s)]
 | .wm=> [(.ws,s)]
 | .ws=> if s.q=0 then [] else [(.w4,{ s with q:=s.q-1 })]
 | .w4=> [(.we,s)]
 | .we=> [(.aq,s)]
 | .aq=> [(.ret,s)]
 | .ret=> []
def Mn.ahead:Mn->Nat
 | .kr | .ke | .go=> 1
 | _=> 0
def Mn.early:Mn->Nat
 | .kd | .ki | .ka | .kr | .ke | .go=> 1
 | _=> 0
def Mn.waits:Mn->Nat
 | .wm | .ws=> 1
 | _=> 0
def Mn.EC:Mn->Nat
 | .w4 | .we | .aq | .ret=> 1
 | _=> 0
def Th.loc(s:Sh):Th->Prop
 | .sq o c=> o<64/\o%2=1/\o/4%2=0/\(c.aw=true->o/2%2=1)/\(c.sv=true->c.aw=true)
 | .c1 o c=> o<64/\o%2=1/\o/4%2=0/\o/2%2=0/\o/8≠0/\c.aw=false/\c.sv=false/\c.it<4
 | .c2 o c=> o<64/\(c.aw=true->o/2%2=1/\o/4%2=0)/\(c.sv=true->c.aw=true)
 | .ds c=> (c.sv=true->c.aw=true)/\c.it<4
 | .r1 c=> (c.sv=true->c.aw=true)/\c.it<4
 | .r3 c=> (c.sv=true->c.aw=true)
 | .a1 b=> b=false->2<=s.m/8
 | .uc o=> o<64/\o%8=0/\0<o/8
 | _=> True
structure QD(ths:List Th)(m Q:Nat):Prop where
 m64:m<64
 i1:sm Th.own ths=m%2
 i2:m/4%2=0->sm Th.tok ths+Q+sm Th.post ths+sm Th.MF ths=m/2%2/\sm Th.SB ths=0/\sm Th.IB ths=0/\sm Th.xF ths=m/8+sm Th.tok ths+Q
 i3:m/4%2=1->m/2%2=0/\sm Th.MF ths=0/\sm Th.tok ths=0/\1<=m/8/\(m%2=1->sm Th.SB ths=0/\Q=0/\sm Th.post ths=0/\sm Th.IB ths=0/\sm Th.xF ths=m/8)/\
  (m%2=0->sm Th.SB ths+Q+sm Th.post ths+sm Th.IB ths=1/\sm Th.xF ths+sm Th.post ths+sm Th.IB ths=m/8)
 i4:m%8=0->0<m/8->0<sm Th.ul ths
structure sE(ths:List Th)(mn:Mn)(c w q:Nat):Prop where
 g1:c=sm Th.on ths+mn.ahead
 g2:mn.waits=0->w=0/\q=0/\sm Th.dd ths=0/\sm Th.pF ths=0
 g3:mn.waits=1->(0<c->w=1/\q=0/\sm Th.dd ths=0/\sm Th.pF ths=0)/\(c=0->sm Th.dd ths+sm Th.pF ths+q=1/\w=sm Th.dd ths)
 g4:mn.EC=1->c=0
theorem QD.cases {ths:List Th}{m Q:Nat}(h:QD ths m Q):
  (m/4%2=0/\sm Th.tok ths+Q+sm Th.post ths+sm Th.MF ths=m/2%2/\sm Th.SB ths=0/\sm Th.IB ths=0/\sm Th.xF ths=m/8+sm Th.tok ths+Q)\/ 
  (m/4%2=1/\m%2=1/\m/2%2=0/\sm Th.MF ths=0/\sm Th.tok ths=0/\1<=m/8/\sm Th.SB ths=0/\Q=0/\sm Th.post ths=0/\sm Th.IB ths=0/\sm Th.xF ths=m/8)\/ 
  (m/4%2=1/\m%2=0/\m/2%2=0/\sm Th.MF ths=0/\sm Th.tok ths=0/\1<=m/8/\sm Th.SB ths+Q+sm Th.post ths+sm Th.IB ths=1/\sm Th.xF ths+sm Th.post ths+sm Th.IB ths=m/8):=by
 rcases Nat.mod_two_eq_zero_or_one (m/4) with e|e
 ·exact .inl ⟨e,h.i2 e⟩
 ·obtain⟨h1,h2,h3,h4,h5,h6⟩:=h.i3 e;rcases Nat.mod_two_eq_zero_or_one m with e2|e2
  ·exact .inr (.inr ⟨e,e2,h1,h2,h3,h4,h6 e2⟩)
  ·exact .inr (.inl ⟨e,e2,h1,h2,h3,h4,h5 e2⟩)
structure Inv(n:Nat)(ths:List Th)(mn:Mn)(s:Sh):Prop where
 len:ths.length<=n
 n7:n<=6
 all:mn.early=0->ths.length=n
 more:mn.early=1->ths.length<n
 loc:∀(i:Nat) (t:Th),ths[i]? =some t->t.loc s
 M:QD ths s.m s.Q
 G:sE ths mn s.c s.w s.q
 g5:∀o,mn=.w2 o->0<o/\o<=6
def Th.ok(s:Sh):Th->Prop
 | .r1 c | .r3 c=> c.aw=true->s.m/2%2=1/\s.m/4%2=0
 | .r2 _=> (s.m/4%2=1->s.m%2=0/\s.m/2%2=0/\1<=s.m/8)/\(s.m/4%2=0->s.m/2%2=1)
 | .a1 b=> s.m/4%2=1/\s.m%2=0/\s.m/2%2=0/\1<=s.m/8/\(b=false->2<=s.m/8)
 | .u0=> s.m%2=1
 | .us _=> s.Q=0
 | .d1=> 0<s.c
 | .d2 | .d3=> s.c=0/\s.w=1
 | .d4=> s.q=0
 | _=> True
def Sh.fits(s:Sh):Prop:=s.m<64/\s.Q<=1/\s.c<=6/\s.w<=1/\s.q<=1
theorem aDr(t:Th):t.xF<=1:=by cases t <;> simp[Th.xF]
theorem on1(t:Th):t.on<=1:=by cases t <;> simp[Th.on]
theorem UF(mn:Mn):mn.ahead<=mn.early/\mn.early<=1/\mn.waits<=1/\mn.EC<=1/\mn.waits+mn.EC<=1:=by cases mn <;> simp[Mn.ahead,Mn.early,Mn.waits,Mn.EC]
theorem Inv.fits {n:Nat}{ths:List Th}{mn:Mn}{s:Sh}(h:Inv n ths mn s):s.fits:=by
 have R7:=QP on1 ths;obtain⟨r1,r2,r3,r4,r5⟩:=UF mn;have hlen:=h.len;have hn7:=h.n7;have hQ:s.Q<=1:=by rcases h.M.cases with K|K|K <;> omega
 have hc:s.c<=6:=by
  have g1:=h.G.g1;rcases Nat.eq_zero_or_pos mn.early with e|e
  ·omega
  ·have:=h.more oM;omega
 have hwq:s.w<=1/\s.q<=1:=by
  rcases Nat.eq_zero_or_pos mn.waits with e|e
  ·have:=h.G.g2 e;omega
  ·have:=h.G.g3 oM;rcases Nat.eq_zero_or_pos s.c with e2|e2
   ·have:=this.2 e2;omega
   ·have:=this.1 e2;omega
 exact⟨h.M.m64,hQ,hc,hwq.1,hwq.2⟩
theorem Inv.ok {n:Nat}{ths:List Th}{mn:Mn}{s:Sh}(h:Inv n ths mn s){i:Nat}{t:Th}(hi:ths[i]? =some t):t.ok s/\s.fits:=by
 refine⟨?_,h.fits⟩;have hl:=h.loc i t hi;have a1:=MD (f:=Th.own) hi;have a3:=MD (f:=Th.tok) hi;have a4:=MD (f:=Th.SB) hi;have a5:=MD (f:=Th.post) hi;have a6:=MD (f:=Th.MF) hi;have a7:=MD (f:=Th.IB) hi;have a9:=MD (f:=Th.on) hi;have a10:=MD (f:=Th.dd) hi;have a11:=MD (f:=Th.pF) hi;have i1:=h.M.i1;have g1:=h.G.g1;have hr:=UF mn;cases t <;> simp only[Th.ok,Th.own,Th.tok,Th.SB,Th.post,Th.MF,Th.IB,Th.on,Th.dd,Th.pF,Th.loc] at * <;> try trivial
 case r1 c=> intro GU;simp only[GU,if_true] at a6;rcases h.M.cases with K|K|K <;> omega
 case r3 c=> intro GU;simp only[GU,if_true] at a6;rcases h.M.cases with K|K|K <;> omega
 case r2 c=> rcases h.M.cases with K|K|K <;> omega
 case a1 b=> rcases h.M.cases with K|K|K <;> exact⟨oM,oM,oM,oM,hl⟩
 case u0=> omega
 case us b=> cases b <;> simp only at a3 a4 <;> rcases h.M.cases with K|K|K <;> omega
 case d1=> omega
 case d2|d3=>
  rcases Nat.eq_zero_or_pos mn.waits with e|e
  ·have:=h.G.g2 e;omega
  ·have:=h.G.g3 oM;rcases Nat.eq_zero_or_pos s.c with e2|e2
   ·have:=this.2 e2;omega
   ·have:=this.1 e2;omega
 case d4=>
  rcases Nat.eq_zero_or_pos mn.waits with e|e
  ·have:=h.G.g2 e;omega
  ·have:=h.G.g3 oM;rcases Nat.eq_zero_or_pos s.c with e2|e2
   ·have:=this.2 e2;omega
   ·have:=this.1 e2;omega
theorem lP {s:Sh}{o:Nat}{c:Lc}(ho:o<64)(h1:c.aw=true->o/2%2=1/\o/4%2=0)(h2:c.sv=true->c.aw=true):(hd o c).loc s:=by
 unfold hd;split
 ·rename_i h
  exact⟨ho,h.1,h.2,fun e=> (h1 e).1,h2⟩
 ·exact⟨ho,h1,h2⟩
theorem mP(o:Nat)(c:Lc):(hd o c).own=0:=by unfold hd;split <;> rfl
theorem oP(o:Nat)(c:Lc):(hd o c).xF=0:=by unfold hd;split <;> rfl
theorem pP(o:Nat)(c:Lc):(hd o c).tok=0:=by unfold hd;split <;> rfl
theorem jP(o:Nat)(c:Lc):(hd o c).SB=0:=by unfold hd;split <;> rfl
theorem pL(o:Nat)(c:Lc):(hd o c).post=0:=by unfold hd;split <;> rfl
theorem nP(o:Nat)(c:Lc):(hd o c).IB=0:=by unfold hd;split <;> rfl
theorem aA5(o:Nat)(c:Lc):(hd o c).ul=0:=by unfold hd;split <;> rfl
theorem JU(o:Nat)(c:Lc):(hd o c).dd=0:=by unfold hd;split <;> rfl
theorem IU(o:Nat)(c:Lc):(hd o c).pF=0:=by unfold hd;split <;> rfl
theorem KU(o:Nat)(c:Lc):(hd o c).on=1:=by unfold hd;split <;> rfl
theorem iP(o:Nat)(c:Lc):(hd o c).MF=if c.aw then 1 else 0:=by unfold hd;split <;> rfl
theorem mR {s s':Sh}{t:Th}(h:t.loc s)(hm:t.IB=1->s.m/8<=s'.m/8):t.loc s':=by
 cases t <;> try exact h
 rename_i b
 intro e;have h1:=h e;have h2:=hm rfl;omega
structure O0(ths:List Th)(i:Nat)(t t':Th):Prop where
 own:sm Th.own (ths.set i t')+t.own=sm Th.own ths+t'.own
 xF:sm Th.xF (ths.set i t')+t.xF=sm Th.xF ths+t'.xF
 tok:sm Th.tok (ths.set i t')+t.tok=sm Th.tok ths+t'.tok
 SB:sm Th.SB (ths.set i t')+t.SB=sm Th.SB ths+t'.SB
 post:sm Th.post (ths.set i t')+t.post=sm Th.post ths+t'.post
 MF:sm Th.MF (ths.set i t')+t.MF=sm Th.MF ths+t'.MF
 IB:sm Th.IB (ths.set i t')+t.IB=sm Th.IB ths+t'.IB
 ul:sm Th.ul (ths.set i t')+t.ul=sm Th.ul ths+t'.ul
 on:sm Th.on (ths.set i t')+t.on=sm Th.on ths+t'.on
 dd:sm Th.dd (ths.set i t')+t.dd=sm Th.dd ths+t'.dd
 pF:sm Th.pF (ths.set i t')+t.pF=sm Th.pF ths+t'.pF
theorem O0.of {ths:List Th}{i:Nat}{t:Th}(h:ths[i]? =some t)(t':Th):O0 ths i t t':=
 ⟨tD h t',tD h t',tD h t',tD h t',tD h t',tD h t',tD h t',tD h t',tD h t',tD h t',tD h t'⟩
theorem Inv.worker {n:Nat}{ths:List Th}{mn:Mn}{s s':Sh}{i:Nat}{t t':Th}(h:Inv n ths mn s)(hi:ths[i]? =some t)(hl:t'.loc s')(hr:s'.m/8<s.m/8->sm Th.IB (ths.set i t')=0)(hM:QD (ths.set i t') s'.m s'.Q)(hG:sE (ths.set i t') mn s'.c s'.w s'.q):Inv n (ths.set i t') mn s':=
 ⟨by rw[List.length_set];exact h.len,h.n7,fun e=> by rw[List.length_set];exact h.all e,fun e=> by rw[List.length_set];exact h.more e,fun j u hj=> by
   by_cases e:i=j
   ·subst e;rw[List.getElem?_set_self (List.getElem?_eq_some_iff.1 hi).1] at hj;cases hj
    exact hl
   ·have ZQ:=hj;rw[List.getElem?_set_ne e] at ZQ;refine mR (h.loc j u ZQ) fun hu=> ?_;rcases Nat.lt_or_ge (s'.m/8) (s.m/8) with iB|PU
    ·have h1:=hr iB;have h2:=MD (f:=Th.IB) hj;omega
    ·exact PU,
  hM,hG,h.g5⟩
theorem sE.same {ths ths':List Th}{mn:Mn}{c w q:Nat}(h:sE ths mn c w q)(h1:sm Th.on ths'=sm Th.on ths)(h2:sm Th.dd ths'=sm Th.dd ths)(h3:sm Th.pF ths'=sm Th.pF ths):sE ths' mn c w q:=
 ⟨by rw[h1];exact h.g1,by rw[h2,h3];exact h.g2,by rw[h2,h3];exact h.g3,h.g4⟩
theorem QD.same {ths ths':List Th}{m Q:Nat}(h:QD ths m Q)(h1:sm Th.own ths'=sm Th.own ths)(h2:sm Th.xF ths'=sm Th.xF ths)(h3:sm Th.tok ths'=sm Th.tok ths)(h4:sm Th.SB ths'=sm Th.SB ths)(h5:sm Th.post ths'=sm Th.post ths)(h6:sm Th.MF ths'=sm Th.MF ths)(h7:sm Th.IB ths'=sm Th.IB ths)(h8:sm Th.ul ths<=sm Th.ul ths'):QD ths' m Q:=
 ⟨h.m64,by rw[h1];exact h.i1,by rw[h2,h3,h4,h5,h6,h7];exact h.i2,by rw[h2,h3,h4,h5,h6,h7];exact h.i3,fun e e2=> Nat.lt_of_lt_of_le (h.i4 e e2) h8⟩
structure aAs(t t':Th):Prop where
 own:t'.own=t.own
 xF:t'.xF=t.xF
 tok:t'.tok=t.tok
 SB:t'.SB=t.SB
 post:t'.post=t.post
 MF:t'.MF=t.MF
 IB:t'.IB=t.IB
 ul:t.ul<=t'.ul
 on:t'.on=t.on
 dd:t'.dd=t.dd
 pF:t'.pF=t.pF
theorem Inv.still {n:Nat}{ths:List Th}{mn:Mn}{s:Sh}{i:Nat}{t t':Th}(h:Inv n ths mn s)(hi:ths[i]? =some t)(hl:t'.loc s)(hk:aAs t t'):Inv n (ths.set i t') mn s:=by
 obtain⟨b1,b2,b3,b4,b5,b6,b7,b8,b9,b10,b11⟩:=O0.of hi t';obtain⟨k1,k2,k3,k4,k5,k6,k7,k8,k9,k10,k11⟩:=hk;exact h.worker hi hl (fun e=> by omega) (h.M.same oM oM oM oM oM oM oM oM) (h.G.same oM oM oM)
set_option maxHeartbeats 4000000 in
theorem Inv.step {n:Nat}{ths:List Th}{mn:Mn}{s s':Sh}{i:Nat}{t t':Th}(h:Inv n ths mn s)(hi:ths[i]? =some t)(hm:(t',s')∈t.mv s):Inv n (ths.set i t') mn s':=by
 have LB:=h.ok hi;have hl:=h.loc i t hi;have hlen:=h.len;have hn7:=h.n7;have L:∀ {u:Th},aAs t u->u.loc s->Inv n (ths.set i u) mn s:=fun hk hl=> h.still hi hl hk;have S:=O0.of hi t';have Y7:=QP aDr (ths.set i t');have hul:=MD (f:=Th.ul) hi;rw[List.length_set] at Y7;have i1:=h.M.i1;have m64:=h.M.m64;have i4:=h.M.i4;cases t
 case ld=>
  simp only[Th.mv,List.mem_singleton,Prod.mk.injEq] at hm;obtain⟨rfl,rfl⟩:=hm;exact L ⟨rfl,rfl,rfl,rfl,rfl,rfl,rfl,Nat.le_refl _,rfl,rfl,rfl⟩ trivial
 case le=>
  simp only[Th.mv,List.mem_singleton,Prod.mk.injEq] at hm;obtain⟨rfl,rfl⟩:=hm;exact L ⟨rfl,rfl,rfl,rfl,rfl,rfl,rfl,Nat.le_refl _,rfl,rfl,rfl⟩ trivial
 case la=>
  simp only[Th.mv,List.mem_singleton,Prod.mk.injEq] at hm;obtain⟨rfl,rfl⟩:=hm;exact L ⟨rfl,rfl,rfl,rfl,rfl,rfl,rfl,Nat.le_refl _,rfl,rfl,rfl⟩ trivial
 case up=>
  simp only[Th.mv,List.mem_singleton,Prod.mk.injEq] at hm;obtain⟨rfl,rfl⟩:=hm;exact L ⟨rfl,rfl,rfl,rfl,rfl,rfl,rfl,Nat.le_refl _,rfl,rfl,rfl⟩ trivial
 case ur=>
  simp only[Th.mv,List.mem_singleton,Prod.mk.injEq] at hm;obtain⟨rfl,rfl⟩:=hm;exact L ⟨rfl,rfl,rfl,rfl,rfl,rfl,rfl,Nat.le_refl _,rfl,rfl,rfl⟩ trivial
 case ud=>
  simp only[Th.mv,List.mem_singleton,Prod.mk.injEq] at hm;obtain⟨rfl,rfl⟩:=hm;exact L ⟨rfl,rfl,rfl,rfl,rfl,rfl,rfl,Nat.le_refl _,rfl,rfl,rfl⟩ trivial
 case ue=>
  simp only[Th.mv,List.mem_singleton,Prod.mk.injEq] at hm;obtain⟨rfl,rfl⟩:=hm;exact L ⟨rfl,rfl,rfl,rfl,rfl,rfl,rfl,Nat.le_refl _,rfl,rfl,rfl⟩ trivial
 case wr=>
  simp only[Th.mv,List.mem_singleton,Prod.mk.injEq] at hm;obtain⟨rfl,rfl⟩:=hm;exact L ⟨rfl,rfl,rfl,rfl,rfl,rfl,rfl,Nat.le_refl _,rfl,rfl,rfl⟩ trivial
 case wk=>
  simp only[Th.mv,List.mem_singleton,Prod.mk.injEq] at hm;obtain⟨rfl,rfl⟩:=hm;exact L ⟨rfl,rfl,rfl,rfl,rfl,rfl,rfl,Nat.le_refl _,rfl,rfl,rfl⟩ trivial
 case wi=>
  simp only[Th.mv,List.mem_singleton,Prod.mk.injEq] at hm;obtain⟨rfl,rfl⟩:=hm;exact L ⟨rfl,rfl,rfl,rfl,rfl,rfl,rfl,Nat.le_refl _,rfl,rfl,rfl⟩ trivial
 case l0=>
  simp only[Th.mv] at hm;split at hm <;> simp only[List.mem_singleton,Prod.mk.injEq] at hm <;> obtain⟨rfl,rfl⟩:=hm
  ·rename_i h0
   obtain⟨b1,b2,b3,b4,b5,b6,b7,b8,b9,b10,b11⟩:=S;simp only[Th.own,Th.xF,Th.tok,Th.SB,Th.post,Th.MF,Th.IB,Th.ul,Th.on,Th.dd,Th.pF] at b1 b2 b3 b4 b5 b6 b7 b8 b9 b10 b11;have hG:=h.G.same (ths':=ths.set i .le) oM oM oM;rcases h.M.cases with K|K|K;all_goals
    have hM:QD (ths.set i .le) (1) (s.Q):=⟨oM,oM,fun e=> ⟨oM,oM,oM,oM⟩,fun e=> ⟨oM,oM,oM,oM,fun e2=> ⟨oM,oM,oM,oM,oM⟩,fun e2=> ⟨oM,oM⟩⟩,fun e e2=> by omega⟩
    exact h.worker hi trivial (fun(e:(1)/8<s.m/8)=> by omega) hM hG
  ·exact L ⟨rfl,rfl,rfl,rfl,rfl,rfl,rfl,Nat.le_refl _,rfl,rfl,rfl⟩ trivial
 case r0=>
  simp only[Th.mv,List.mem_singleton,Prod.mk.injEq] at hm;obtain⟨rfl,rfl⟩:=hm;exact L ⟨mP ..,oP ..,pP ..,jP ..,pL ..,iP ..,nP ..,Nat.zero_le _,KU ..,JU ..,IU ..⟩ (lP m64 (fun e=> by cases e) (fun e=> by cases e))
 case sq o c=>
  simp only[Th.mv,List.mem_cons,Prod.mk.injEq] at hm;rcases hm with ⟨rfl,rfl⟩|hm
  ·exact L ⟨rfl,rfl,rfl,rfl,rfl,rfl,rfl,Nat.le_refl _,rfl,rfl,rfl⟩ ⟨hl.1,fun e=> ⟨hl.2.2.2.1 e,hl.2.2.1⟩,hl.2.2.2.2⟩
  ·split at hm
   ·rename_i dL
    simp only[List.mem_singleton,Prod.mk.injEq] at hm;obtain⟨rfl,rfl⟩:=hm;by_cases hc:c.aw=false/\o/2%2=0/\o/8≠0
    ·rw[if_pos hc];refine L ⟨rfl,rfl,rfl,rfl,rfl,rfl,rfl,Nat.le_refl _,rfl,rfl,rfl⟩ ⟨hl.1,hl.2.1,hl.2.2.1,hc.2.1,hc.2.2,hc.1,?_,dL⟩;cases ZV:c.sv with
     | false=> rfl
     | true=>
      have:=hl.2.2.2.2 ZV;rw[hc.1] at this;cases this
    ·rw[if_neg hc];exact L ⟨rfl,rfl,rfl,rfl,rfl,rfl,rfl,Nat.le_refl _,rfl,rfl,rfl⟩ ⟨hl.2.2.2.2,dL⟩
   ·cases hm
 case c1 o c=>
  obtain⟨l1,l2,l3,l4,l5,l6,l7,l8⟩:=hl;simp only[Th.mv] at hm;split at hm <;> simp only[List.mem_singleton,Prod.mk.injEq] at hm <;> obtain⟨rfl,rfl⟩:=hm
  ·rename_i h0
   obtain⟨b1,b2,b3,b4,b5,b6,b7,b8,b9,b10,b11⟩:=S;simp only[Th.own,Th.xF,Th.tok,Th.SB,Th.post,Th.MF,Th.IB,Th.ul,Th.on,Th.dd,Th.pF] at b1 b2 b3 b4 b5 b6 b7 b8 b9 b10 b11;have hG:=h.G.same (ths':=ths.set i (.ds { c with aw:=true })) oM oM oM;simp only[l6,if_true,Bool.false_eq_true,if_false] at b6;rcases h.M.cases with K|K|K;all_goals
    have hM:QD (ths.set i (.ds { c with aw:=true })) (o+2) (s.Q):=⟨oM,oM,fun e=> ⟨oM,oM,oM,oM⟩,fun e=> ⟨oM,oM,oM,oM,fun e2=> ⟨oM,oM,oM,oM,oM⟩,fun e2=> ⟨oM,oM⟩⟩,fun e e2=> by omega⟩
    exact h.worker hi ⟨fun _=> rfl,l8⟩ (fun(e:(o+2)/8<s.m/8)=> by omega) hM hG
  ·exact L ⟨rfl,rfl,rfl,rfl,rfl,rfl,rfl,Nat.le_refl _,rfl,rfl,rfl⟩ ⟨fun e=> (by rw[l7] at e;cases e),l8⟩
 case ds c=>
  simp only[Th.mv,List.mem_singleton,Prod.mk.injEq] at hm;obtain⟨rfl,rfl⟩:=hm;exact L ⟨rfl,rfl,rfl,rfl,rfl,rfl,rfl,Nat.le_refl _,rfl,rfl,rfl⟩ hl
 case r1 c=>
  simp only[Th.mv,List.mem_singleton,Prod.mk.injEq] at hm;obtain⟨rfl,rfl⟩:=hm;exact L ⟨mP ..,oP ..,pP ..,jP ..,pL ..,iP ..,nP ..,Nat.zero_le _,KU ..,JU ..,IU ..⟩ (lP m64 LB.1 hl.1)
 case r3 c=>
  simp only[Th.mv,List.mem_singleton,Prod.mk.injEq] at hm;obtain⟨rfl,rfl⟩:=hm;exact L ⟨mP ..,oP ..,pP ..,jP ..,pL ..,iP ..,nP ..,Nat.zero_le _,KU ..,JU ..,IU ..⟩ (lP m64 LB.1 hl)
 case c2 o c =>
  obtain⟨l1,l2,l3⟩:=hl;simp only[Th.mv] at hm;split at hm
  ·rename_i h0
   split at hm
   ·rename_i hz
    simp only[List.mem_singleton,Prod.mk.injEq] at hm;obtain⟨rfl,rfl⟩:=hm;obtain⟨b1,b2,b3,b4,b5,b6,b7,b8,b9,b10,b11⟩:=S;simp only[Th.own,Th.xF,Th.tok,Th.SB,Th.post,Th.MF,Th.IB,Th.ul,Th.on,Th.dd,Th.pF] at b1 b2 b3 b4 b5 b6 b7 b8 b9 b10 b11;have hG:=h.G.same (ths':=ths.set i .le) oM oM oM;have hN:UD o c=o+1-(if c.aw then 2 else 0):=by unfold UD;rw[if_pos hz]
    cases GU:c.aw with
    | true=>
     have:=l2 GU;simp only[GU,if_true] at b6 hN;rcases h.M.cases with K|K|K;all_goals
      have hM:QD (ths.set i .le) (UD o c) (s.Q):=⟨oM,oM,fun e=> ⟨oM,oM,oM,oM⟩,fun e=> ⟨oM,oM,oM,oM,fun e2=> ⟨oM,oM,oM,oM,oM⟩,fun e2=> ⟨oM,oM⟩⟩,fun e e2=> by omega⟩
      exact h.worker hi trivial (fun(e:(UD o c)/8<s.m/8)=> by omega) hM hG
    | false=>
     simp only[GU,Bool.false_eq_true,if_false] at b6 hN;rcases h.M.cases with K|K|K;all_goals
      have hM:QD (ths.set i .le) (UD o c) (s.Q):=⟨oM,oM,fun e=> ⟨oM,oM,oM,oM⟩,fun e=> ⟨oM,oM,oM,oM,fun e2=> ⟨oM,oM,oM,oM,oM⟩,fun e2=> ⟨oM,oM⟩⟩,fun e e2=> by omega⟩
      exact h.worker hi trivial (fun(e:(UD o c)/8<s.m/8)=> by omega) hM hG
   ·rename_i hz
    simp only[List.mem_singleton,Prod.mk.injEq] at hm;obtain⟨rfl,rfl⟩:=hm;have e1:∀f:Th->Nat,f (.s1 c)=f (.t1 c)->f (if c.ws=true then Th.s1 c else Th.t1 c)=f (.t1 c):=fun f e=> by split <;> first|exact e|rfl
    obtain⟨b1,b2,b3,b4,b5,b6,b7,b8,b9,b10,b11⟩:=S;rw[e1 Th.own rfl] at b1;rw[e1 Th.xF rfl] at b2;rw[e1 Th.tok rfl] at b3;rw[e1 Th.SB rfl] at b4;rw[e1 Th.post rfl] at b5;rw[e1 Th.MF rfl] at b6;rw[e1 Th.IB rfl] at b7;rw[e1 Th.ul rfl] at b8;rw[e1 Th.on rfl] at b9;rw[e1 Th.dd rfl] at b10;rw[e1 Th.pF rfl] at b11;simp only[Th.own,Th.xF,Th.tok,Th.SB,Th.post,Th.MF,Th.IB,Th.ul,Th.on,Th.dd,Th.pF] at b1 b2 b3 b4 b5 b6 b7 b8 b9 b10 b11;have hG:=h.G.same (ths':=ths.set i (if c.ws=true then Th.s1 c else Th.t1 c)) oM oM oM;have SD:∀z,(if c.ws=true then Th.s1 c else Th.t1 c).loc z:=fun z=> by split <;> trivial
    have hN:UD o c=o+8+(if c.sv=true/\o%2=1/\o/4%2=0 then 4 else 0)-(if c.aw then 2 else 0):=by unfold UD;rw[if_neg hz]
    cases GU:c.aw with
    | true=>
     have:=l2 GU;simp only[GU,if_true] at b6 hN;by_cases ZV:c.sv=true/\o%2=1/\o/4%2=0
     ·rw[if_pos ZV] at hN;rcases h.M.cases with K|K|K;all_goals
       have hM:QD (ths.set i (if c.ws=true then Th.s1 c else Th.t1 c)) (UD o c) (s.Q):=⟨oM,oM,fun e=> ⟨oM,oM,oM,oM⟩,fun e=> ⟨oM,oM,oM,oM,fun e2=> ⟨oM,oM,oM,oM,oM⟩,fun e2=> ⟨oM,oM⟩⟩,fun e e2=> by omega⟩
       exact h.worker hi (SD _) (fun(e:(UD o c)/8<s.m/8)=> by omega) hM hG
     ·rw[if_neg ZV] at hN;rcases h.M.cases with K|K|K;all_goals
       have hM:QD (ths.set i (if c.ws=true then Th.s1 c else Th.t1 c)) (UD o c) (s.Q):=⟨oM,oM,fun e=> ⟨oM,oM,oM,oM⟩,fun e=> ⟨oM,oM,oM,oM,fun e2=> ⟨oM,oM,oM,oM,oM⟩,fun e2=> ⟨oM,oM⟩⟩,fun e e2=> by omega⟩
       exact h.worker hi (SD _) (fun(e:(UD o c)/8<s.m/8)=> by omega) hM hG
    | false=>
     have ZV:¬(c.sv=true/\o%2=1/\o/4%2=0):=fun e=> by have:=l3 e.1;rw[GU] at this;cases this
     rw[if_neg ZV] at hN;simp only[GU,Bool.false_eq_true,if_false] at b6 hN;rcases h.M.cases with K|K|K;all_goals
      have hM:QD (ths.set i (if c.ws=true then Th.s1 c else Th.t1 c)) (UD o c) (s.Q):=⟨oM,oM,fun e=> ⟨oM,oM,oM,oM⟩,fun e=> ⟨oM,oM,oM,oM,fun e2=> ⟨oM,oM,oM,oM,oM⟩,fun e2=> ⟨oM,oM⟩⟩,fun e e2=> by omega⟩
      exact h.worker hi (SD _) (fun(e:(UD o c)/8<s.m/8)=> by omega) hM hG
  ·simp only[List.mem_singleton,Prod.mk.injEq] at hm;obtain⟨rfl,rfl⟩:=hm;exact L ⟨rfl,rfl,rfl,rfl,rfl,rfl,rfl,Nat.le_refl _,rfl,rfl,rfl⟩ l3
 case t1 c=>
  simp only[Th.mv,List.mem_cons,Prod.mk.injEq,List.not_mem_nil,or_false] at hm;rcases hm with ⟨rfl,rfl⟩|⟨rfl,rfl⟩ <;> exact L ⟨rfl,rfl,rfl,rfl,rfl,rfl,rfl,Nat.le_refl _,rfl,rfl,rfl⟩ trivial
 case s1 c=>
  simp only[Th.mv] at hm;split at hm
  ·cases hm
  ·rename_i h0
   simp only[List.mem_singleton,Prod.mk.injEq] at hm;obtain⟨rfl,rfl⟩:=hm;obtain⟨b1,b2,b3,b4,b5,b6,b7,b8,b9,b10,b11⟩:=S;simp only[Th.own,Th.xF,Th.tok,Th.SB,Th.post,Th.MF,Th.IB,Th.ul,Th.on,Th.dd,Th.pF] at b1 b2 b3 b4 b5 b6 b7 b8 b9 b10 b11;have hG:=h.G.same (ths':=ths.set i (.t2 c)) oM oM oM;rcases h.M.cases with K|K|K;all_goals
    have hM:QD (ths.set i (.t2 c)) (s.m) (s.Q-1):=⟨oM,oM,fun e=> ⟨oM,oM,oM,oM⟩,fun e=> ⟨oM,oM,oM,oM,fun e2=> ⟨oM,oM,oM,oM,oM⟩,fun e2=> ⟨oM,oM⟩⟩,fun e e2=> by omega⟩
    exact h.worker hi trivial (fun(e:(s.m)/8<s.m/8)=> by omega) hM hG
 case t2 c=>
  simp only[Th.mv,List.mem_cons,Prod.mk.injEq,List.not_mem_nil,or_false] at hm;rcases hm with ⟨rfl,rfl⟩|⟨rfl,rfl⟩ <;> exact L ⟨rfl,rfl,rfl,rfl,rfl,rfl,rfl,Nat.le_refl _,rfl,rfl,rfl⟩ trivial
 case r2 c=>
  simp only[Th.mv] at hm;split at hm <;> simp only[List.mem_singleton,Prod.mk.injEq] at hm <;> obtain⟨rfl,rfl⟩:=hm
  ·rename_i h0
   have SD:Th.loc s' (.a1 (!c.sv||s'.m/8==1)):=fun e=> by
    have h1:=(LB.1.1 h0).2.2;simp only[Bool.or_eq_false_iff,beq_eq_false_iff_ne] at e;have:=e.2;omega
   obtain⟨b1,b2,b3,b4,b5,b6,b7,b8,b9,b10,b11⟩:=S;simp only[Th.own,Th.xF,Th.tok,Th.SB,Th.post,Th.MF,Th.IB,Th.ul,Th.on,Th.dd,Th.pF] at b1 b2 b3 b4 b5 b6 b7 b8 b9 b10 b11;have hG:=h.G.same (ths':=ths.set i (.a1 (!c.sv||s'.m/8==1))) oM oM oM;rcases h.M.cases with K|K|K;all_goals
    have hM:QD (ths.set i (.a1 (!c.sv||s'.m/8==1))) (s'.m) (s'.Q):=⟨oM,oM,fun e=> ⟨oM,oM,oM,oM⟩,fun e=> ⟨oM,oM,oM,oM,fun e2=> ⟨oM,oM,oM,oM,oM⟩,fun e2=> ⟨oM,oM⟩⟩,fun e e2=> by omega⟩
    exact h.worker hi SD (fun(e:(s'.m)/8<s'.m/8)=> by omega) hM hG
  ·rename_i h0
   have SD:=lP (s:=s') (o:=s'.m) (c:= { c with aw:=true,it:=0 }) m64 (fun _=> ⟨LB.1.2 oM,oM⟩) (fun _=> rfl);obtain⟨b1,b2,b3,b4,b5,b6,b7,b8,b9,b10,b11⟩:=S;simp only[mP,oP,pP,jP,pL,iP,nP,aA5,KU,JU,IU] at b1 b2 b3 b4 b5 b6 b7 b8 b9 b10 b11;simp only[Th.own,Th.xF,Th.tok,Th.SB,Th.post,Th.MF,Th.IB,Th.ul,Th.on,Th.dd,Th.pF] at b1 b2 b3 b4 b5 b6 b7 b8 b9 b10 b11;have hG:=h.G.same (ths':=ths.set i (hd s'.m { c with aw:=true,it:=0 })) oM oM oM;simp only[if_true] at b6;rcases h.M.cases with K|K|K;all_goals
    have hM:QD (ths.set i (hd s'.m { c with aw:=true,it:=0 })) (s'.m) (s'.Q):=⟨oM,oM,fun e=> ⟨oM,oM,oM,oM⟩,fun e=> ⟨oM,oM,oM,oM,fun e2=> ⟨oM,oM,oM,oM,oM⟩,fun e2=> ⟨oM,oM⟩⟩,fun e e2=> by omega⟩
    exact h.worker hi SD (fun(e:(s'.m)/8<s'.m/8)=> by omega) hM hG
 case a1 b=>
  obtain⟨⟨o1,o2,o3,o4,o5⟩,o6⟩:=LB;simp only[Th.mv,List.mem_singleton,Prod.mk.injEq] at hm;obtain⟨rfl,rfl⟩:=hm;obtain⟨b1,b2,b3,b4,b5,b6,b7,b8,b9,b10,b11⟩:=S;simp only[Th.own,Th.xF,Th.tok,Th.SB,Th.post,Th.MF,Th.IB,Th.ul,Th.on,Th.dd,Th.pF] at b1 b2 b3 b4 b5 b6 b7 b8 b9 b10 b11;have hG:=h.G.same (ths':=ths.set i .le) oM oM oM;cases b with
  | true=>
   rcases h.M.cases with K|K|K;all_goals
    have hM:QD (ths.set i .le) (s.m-7-4) (s.Q):=⟨oM,oM,fun e=> ⟨oM,oM,oM,oM⟩,fun e=> ⟨oM,oM,oM,oM,fun e2=> ⟨oM,oM,oM,oM,oM⟩,fun e2=> ⟨oM,oM⟩⟩,fun e e2=> by omega⟩
    exact h.worker hi trivial (fun(e:(s.m-7-4)/8<s.m/8)=> by omega) hM hG
  | false=>
   have:=o5 rfl;rcases h.M.cases with K|K|K;all_goals
    have hM:QD (ths.set i .le) (s.m-7-0) (s.Q):=⟨oM,oM,fun e=> ⟨oM,oM,oM,oM⟩,fun e=> ⟨oM,oM,oM,oM,fun e2=> ⟨oM,oM,oM,oM,oM⟩,fun e2=> ⟨oM,oM⟩⟩,fun e e2=> by omega⟩
    exact h.worker hi trivial (fun(e:(s.m-7-0)/8<s.m/8)=> by omega) hM hG
 case u0 =>
  have o1:s.m%2=1:=LB.1;simp only[Th.mv,List.mem_singleton,Prod.mk.injEq] at hm;obtain⟨ht,rfl⟩:=hm;by_cases z1:s.m=1
  ·rw[if_pos z1] at ht;subst ht;obtain⟨b1,b2,b3,b4,b5,b6,b7,b8,b9,b10,b11⟩:=S;simp only[Th.own,Th.xF,Th.tok,Th.SB,Th.post,Th.MF,Th.IB,Th.ul,Th.on,Th.dd,Th.pF] at b1 b2 b3 b4 b5 b6 b7 b8 b9 b10 b11;have hG:=h.G.same (ths':=ths.set i .ue) oM oM oM;rcases h.M.cases with K|K|K;all_goals
    have hM:QD (ths.set i .ue) (s.m-1) (s.Q):=⟨oM,oM,fun e=> ⟨oM,oM,oM,oM⟩,fun e=> ⟨oM,oM,oM,oM,fun e2=> ⟨oM,oM,oM,oM,oM⟩,fun e2=> ⟨oM,oM⟩⟩,fun e e2=> by omega⟩
    exact h.worker hi trivial (fun(e:(s.m-1)/8<s.m/8)=> by omega) hM hG
  ·rw[if_neg z1] at ht;by_cases z2:(s.m-1)/4%2=1
   ·rw[if_pos z2] at ht;subst ht;obtain⟨b1,b2,b3,b4,b5,b6,b7,b8,b9,b10,b11⟩:=S;simp only[Th.own,Th.xF,Th.tok,Th.SB,Th.post,Th.MF,Th.IB,Th.ul,Th.on,Th.dd,Th.pF] at b1 b2 b3 b4 b5 b6 b7 b8 b9 b10 b11;have hG:=h.G.same (ths':=ths.set i (.us true)) oM oM oM;rcases h.M.cases with K|K|K;all_goals
     have hM:QD (ths.set i (.us true)) (s.m-1) (s.Q):=⟨oM,oM,fun e=> ⟨oM,oM,oM,oM⟩,fun e=> ⟨oM,oM,oM,oM,fun e2=> ⟨oM,oM,oM,oM,oM⟩,fun e2=> ⟨oM,oM⟩⟩,fun e e2=> by omega⟩
     exact h.worker hi trivial (fun(e:(s.m-1)/8<s.m/8)=> by omega) hM hG
   ·rw[if_neg z2] at ht;by_cases z3:(s.m-1)/8=0\/(s.m-1)%8≠0
    ·rw[if_pos z3] at ht;subst ht;obtain⟨b1,b2,b3,b4,b5,b6,b7,b8,b9,b10,b11⟩:=S;simp only[Th.own,Th.xF,Th.tok,Th.SB,Th.post,Th.MF,Th.IB,Th.ul,Th.on,Th.dd,Th.pF] at b1 b2 b3 b4 b5 b6 b7 b8 b9 b10 b11;have hG:=h.G.same (ths':=ths.set i .ue) oM oM oM;rcases h.M.cases with K|K|K;all_goals
      have hM:QD (ths.set i .ue) (s.m-1) (s.Q):=⟨oM,oM,fun e=> ⟨oM,oM,oM,oM⟩,fun e=> ⟨oM,oM,oM,oM,fun e2=> ⟨oM,oM,oM,oM,oM⟩,fun e2=> ⟨oM,oM⟩⟩,fun e e2=> by omega⟩
      exact h.worker hi trivial (fun(e:(s.m-1)/8<s.m/8)=> by omega) hM hG
    ·rw[if_neg z3] at ht;subst ht;obtain⟨b1,b2,b3,b4,b5,b6,b7,b8,b9,b10,b11⟩:=S;simp only[Th.own,Th.xF,Th.tok,Th.SB,Th.post,Th.MF,Th.IB,Th.ul,Th.on,Th.dd,Th.pF] at b1 b2 b3 b4 b5 b6 b7 b8 b9 b10 b11;have hG:=h.G.same (ths':=ths.set i (.uc (s.m-1))) oM oM oM;rcases h.M.cases with K|K|K;all_goals
      have hM:QD (ths.set i (.uc (s.m-1))) (s.m-1) (s.Q):=⟨oM,oM,fun e=> ⟨oM,oM,oM,oM⟩,fun e=> ⟨oM,oM,oM,oM,fun e2=> ⟨oM,oM,oM,oM,oM⟩,fun e2=> ⟨oM,oM⟩⟩,fun e e2=> by omega⟩
      exact h.worker hi (show Th.loc _ (.uc (s.m-1)) from⟨oM,oM,oM⟩) (fun(e:(s.m-1)/8<s.m/8)=> by omega) hM hG
 case uc o=>
  obtain⟨l1,l2,l3⟩:=hl;simp only[Th.mv] at hm;split at hm <;> simp only[List.mem_singleton,Prod.mk.injEq] at hm <;> obtain⟨rfl,rfl⟩:=hm
  ·rename_i h0
   obtain⟨b1,b2,b3,b4,b5,b6,b7,b8,b9,b10,b11⟩:=S;simp only[Th.own,Th.xF,Th.tok,Th.SB,Th.post,Th.MF,Th.IB,Th.ul,Th.on,Th.dd,Th.pF] at b1 b2 b3 b4 b5 b6 b7 b8 b9 b10 b11;have hG:=h.G.same (ths':=ths.set i (.us false)) oM oM oM;rcases h.M.cases with K|K|K;all_goals
    have hM:QD (ths.set i (.us false)) (o-6) (s.Q):=⟨oM,oM,fun e=> ⟨oM,oM,oM,oM⟩,fun e=> ⟨oM,oM,oM,oM,fun e2=> ⟨oM,oM,oM,oM,oM⟩,fun e2=> ⟨oM,oM⟩⟩,fun e e2=> by omega⟩
    exact h.worker hi trivial (fun(e:(o-6)/8<s.m/8)=> by omega) hM hG
  ·exact L ⟨rfl,rfl,rfl,rfl,rfl,rfl,rfl,Nat.le_refl _,rfl,rfl,rfl⟩ trivial
 case ux=>
  simp only[Th.mv,List.mem_singleton,Prod.mk.injEq] at hm;obtain⟨ht,rfl⟩:=hm;by_cases z3:s'.m/8=0\/s'.m%8≠0
  ·rw[if_pos z3] at ht;subst ht;obtain⟨b1,b2,b3,b4,b5,b6,b7,b8,b9,b10,b11⟩:=S;simp only[Th.own,Th.xF,Th.tok,Th.SB,Th.post,Th.MF,Th.IB,Th.ul,Th.on,Th.dd,Th.pF] at b1 b2 b3 b4 b5 b6 b7 b8 b9 b10 b11;have hG:=h.G.same (ths':=ths.set i .ue) oM oM oM;rcases h.M.cases with K|K|K;all_goals
    have hM:QD (ths.set i .ue) (s'.m) (s'.Q):=⟨oM,oM,fun e=> ⟨oM,oM,oM,oM⟩,fun e=> ⟨oM,oM,oM,oM,fun e2=> ⟨oM,oM,oM,oM,oM⟩,fun e2=> ⟨oM,oM⟩⟩,fun e e2=> by omega⟩
    exact h.worker hi trivial (fun(e:(s'.m)/8<s'.m/8)=> by omega) hM hG
  ·rw[if_neg z3] at ht;subst ht;exact L ⟨rfl,rfl,rfl,rfl,rfl,rfl,rfl,Nat.le_refl _,rfl,rfl,rfl⟩ ⟨m64,oM,oM⟩
 case us b=>
  simp only[Th.mv,List.mem_singleton,Prod.mk.injEq] at hm;obtain⟨rfl,rfl⟩:=hm;cases b with
  | true=>
   obtain⟨b1,b2,b3,b4,b5,b6,b7,b8,b9,b10,b11⟩:=S;simp only[Th.own,Th.xF,Th.tok,Th.SB,Th.post,Th.MF,Th.IB,Th.ul,Th.on,Th.dd,Th.pF] at b1 b2 b3 b4 b5 b6 b7 b8 b9 b10 b11;have hG:=h.G.same (ths':=ths.set i .ue) oM oM oM;rcases h.M.cases with K|K|K;all_goals
    have hM:QD (ths.set i .ue) (s.m) (s.Q+1):=⟨oM,oM,fun e=> ⟨oM,oM,oM,oM⟩,fun e=> ⟨oM,oM,oM,oM,fun e2=> ⟨oM,oM,oM,oM,oM⟩,fun e2=> ⟨oM,oM⟩⟩,fun e e2=> by omega⟩
    exact h.worker hi trivial (fun(e:(s.m)/8<s.m/8)=> by omega) hM hG
  | false=>
   obtain⟨b1,b2,b3,b4,b5,b6,b7,b8,b9,b10,b11⟩:=S;simp only[Th.own,Th.xF,Th.tok,Th.SB,Th.post,Th.MF,Th.IB,Th.ul,Th.on,Th.dd,Th.pF] at b1 b2 b3 b4 b5 b6 b7 b8 b9 b10 b11;have hG:=h.G.same (ths':=ths.set i .ue) oM oM oM;rcases h.M.cases with K|K|K;all_goals
    have hM:QD (ths.set i .ue) (s.m) (s.Q+1):=⟨oM,oM,fun e=> ⟨oM,oM,oM,oM⟩,fun e=> ⟨oM,oM,oM,oM,fun e2=> ⟨oM,oM,oM,oM,oM⟩,fun e2=> ⟨oM,oM⟩⟩,fun e e2=> by omega⟩
    exact h.worker hi trivial (fun(e:(s.m)/8<s.m/8)=> by omega) hM hG
 case d1 =>
  have o1:0<s.c:=LB.1;have hp:=UF mn;have g1:=h.G.g1;simp only[Th.mv,List.mem_singleton,Prod.mk.injEq] at hm;obtain⟨ht,rfl⟩:=hm;by_cases z:s.c=1/\s.w=1
  ·rw[if_pos z] at ht;subst ht;obtain⟨b1,b2,b3,b4,b5,b6,b7,b8,b9,b10,b11⟩:=S;simp only[Th.own,Th.xF,Th.tok,Th.SB,Th.post,Th.MF,Th.IB,Th.ul,Th.on,Th.dd,Th.pF] at b1 b2 b3 b4 b5 b6 b7 b8 b9 b10 b11;have hM:=h.M.same (ths':=ths.set i .d2) oM oM oM oM oM oM oM oM;have hG :sE (ths.set i .d2) mn (s.c-1) (s.w) (s.q):=by
    refine⟨oM,fun e=> ?_,fun e=> ?_,fun e=> ?_⟩
    ·have:=h.G.g2 e;omega
    ·have:=h.G.g3 e;refine⟨fun e2=> ?_,fun e2=> ?_⟩
     ·have:=this.1 oM;omega
     ·rcases Nat.eq_zero_or_pos s.c with e3|e3
      ·have:=this.2 e3;omega
      ·have:=this.1 e3;omega
    ·have:=h.G.g4 e;omega
   exact h.worker hi trivial (fun(e:s.m/8<s.m/8)=> by omega) hM hG
  ·rw[if_neg z] at ht;subst ht;obtain⟨b1,b2,b3,b4,b5,b6,b7,b8,b9,b10,b11⟩:=S;simp only[Th.own,Th.xF,Th.tok,Th.SB,Th.post,Th.MF,Th.IB,Th.ul,Th.on,Th.dd,Th.pF] at b1 b2 b3 b4 b5 b6 b7 b8 b9 b10 b11;have hM:=h.M.same (ths':=ths.set i .quit) oM oM oM oM oM oM oM oM;have hG :sE (ths.set i .quit) mn (s.c-1) (s.w) (s.q):=by
    refine⟨oM,fun e=> ?_,fun e=> ?_,fun e=> ?_⟩
    ·have:=h.G.g2 e;omega
    ·have:=h.G.g3 e;refine⟨fun e2=> ?_,fun e2=> ?_⟩
     ·have:=this.1 oM;omega
     ·rcases Nat.eq_zero_or_pos s.c with e3|e3
      ·have:=this.2 e3;omega
      ·have:=this.1 e3;omega
    ·have:=h.G.g4 e;omega
   exact h.worker hi trivial (fun(e:s.m/8<s.m/8)=> by omega) hM hG
 case d2=>
  simp only[Th.mv,List.mem_singleton,Prod.mk.injEq] at hm;obtain⟨rfl,rfl⟩:=hm;exact L ⟨rfl,rfl,rfl,rfl,rfl,rfl,rfl,Nat.le_refl _,rfl,rfl,rfl⟩ trivial
 case d3 =>
  have hp:=UF mn;have g1:=h.G.g1;have a10:=MD (f:=Th.dd) hi;simp only[Th.dd] at a10;simp only[Th.mv,List.mem_singleton,Prod.mk.injEq] at hm;obtain⟨rfl,rfl⟩:=hm;obtain⟨b1,b2,b3,b4,b5,b6,b7,b8,b9,b10,b11⟩:=S;simp only[Th.own,Th.xF,Th.tok,Th.SB,Th.post,Th.MF,Th.IB,Th.ul,Th.on,Th.dd,Th.pF] at b1 b2 b3 b4 b5 b6 b7 b8 b9 b10 b11;have hM:=h.M.same (ths':=ths.set i .d4) oM oM oM oM oM oM oM oM;have hG :sE (ths.set i .d4) mn (s.c) (0) (s.q):=by
   refine⟨oM,fun e=> ?_,fun e=> ?_,fun e=> ?_⟩
   ·have:=h.G.g2 e;omega
   ·have:=h.G.g3 e;refine⟨fun e2=> ?_,fun e2=> ?_⟩
    ·have:=this.1 oM;omega
    ·rcases Nat.eq_zero_or_pos s.c with e3|e3
     ·have:=this.2 e3;omega
     ·have:=this.1 e3;omega
   ·have:=h.G.g4 e;omega
  exact h.worker hi trivial (fun(e:s.m/8<s.m/8)=> by omega) hM hG
 case d4 =>
  have hp:=UF mn;have g1:=h.G.g1;have a10:=MD (f:=Th.pF) hi;simp only[Th.pF] at a10;simp only[Th.mv,List.mem_singleton,Prod.mk.injEq] at hm;obtain⟨rfl,rfl⟩:=hm;obtain⟨b1,b2,b3,b4,b5,b6,b7,b8,b9,b10,b11⟩:=S;simp only[Th.own,Th.xF,Th.tok,Th.SB,Th.post,Th.MF,Th.IB,Th.ul,Th.on,Th.dd,Th.pF] at b1 b2 b3 b4 b5 b6 b7 b8 b9 b10 b11;have hM:=h.M.same (ths':=ths.set i .quit) oM oM oM oM oM oM oM oM;have hG :sE (ths.set i .quit) mn (s.c) (s.w) (s.q+1):=by
   refine⟨oM,fun e=> ?_,fun e=> ?_,fun e=> ?_⟩
   ·have:=h.G.g2 e;omega
   ·have:=h.G.g3 e;refine⟨fun e2=> ?_,fun e2=> ?_⟩
    ·have:=this.1 oM;omega
    ·rcases Nat.eq_zero_or_pos s.c with e3|e3
     ·have:=this.2 e3;omega
     ·have:=this.1 e3;omega
   ·have:=h.G.g4 e;omega
  exact h.worker hi trivial (fun(e:s.m/8<s.m/8)=> by omega) hM hG
 case quit=> cases hm
theorem Inv.main {n:Nat}{ths:List Th}{mn mn':Mn}{s s':Sh}(h:Inv n ths mn s)(hm:(mn',s')∈mn.mv s):Inv n ths mn' s':=by
 obtain⟨h1,h2,h3,h3',h4,M,⟨g1,g2,g3,g4⟩,g5⟩:=h;have hl:∀s'':Sh,s''.m=s.m->∀(i:Nat) (t:Th),ths[i]? =some t->t.loc s'':=fun s'' e i t hi=> mR (h4 i t hi) fun _=> by rw[e];exact Nat.le_refl _
 have R7:=QP on1 ths;cases mn
 case kd=>
  simp only[Mn.mv,List.mem_singleton,Prod.mk.injEq] at hm;obtain⟨rfl,rfl⟩:=hm;simp only[Mn.early,Mn.waits,Mn.EC,Mn.ahead] at *;exact⟨h1,h2,by simp only[Mn.early];omega,by simp only[Mn.early];omega,hl _ rfl,M,(show sE ths .ki (s'.c) (s'.w) (s'.q) from⟨by simp only[Mn.ahead];omega,by simp only[Mn.waits];omega,by simp only[Mn.waits];omega,by simp only[Mn.EC];omega⟩),fun o e=> by cases e⟩
 case ki=>
  simp only[Mn.mv,List.mem_singleton,Prod.mk.injEq] at hm;obtain⟨rfl,rfl⟩:=hm;simp only[Mn.early,Mn.waits,Mn.EC,Mn.ahead] at *;exact⟨h1,h2,by simp only[Mn.early];omega,by simp only[Mn.early];omega,hl _ rfl,M,(show sE ths .ka (s'.c) (s'.w) (s'.q) from⟨by simp only[Mn.ahead];omega,by simp only[Mn.waits];omega,by simp only[Mn.waits];omega,by simp only[Mn.EC];omega⟩),fun o e=> by cases e⟩
 case kr=>
  simp only[Mn.mv,List.mem_singleton,Prod.mk.injEq] at hm;obtain⟨rfl,rfl⟩:=hm;simp only[Mn.early,Mn.waits,Mn.EC,Mn.ahead] at *;exact⟨h1,h2,by simp only[Mn.early];omega,by simp only[Mn.early];omega,hl _ rfl,M,(show sE ths .ke (s'.c) (s'.w) (s'.q) from⟨by simp only[Mn.ahead];omega,by simp only[Mn.waits];omega,by simp only[Mn.waits];omega,by simp only[Mn.EC];omega⟩),fun o e=> by cases e⟩
 case ke=>
  simp only[Mn.mv,List.mem_singleton,Prod.mk.injEq] at hm;obtain⟨rfl,rfl⟩:=hm;simp only[Mn.early,Mn.waits,Mn.EC,Mn.ahead] at *;exact⟨h1,h2,by simp only[Mn.early];omega,by simp only[Mn.early];omega,hl _ rfl,M,(show sE ths .go (s'.c) (s'.w) (s'.q) from⟨by simp only[Mn.ahead];omega,by simp only[Mn.waits];omega,by simp only[Mn.waits];omega,by simp only[Mn.EC];omega⟩),fun o e=> by cases e⟩
 case wd=>
  simp only[Mn.mv,List.mem_singleton,Prod.mk.injEq] at hm;obtain⟨rfl,rfl⟩:=hm;simp only[Mn.early,Mn.waits,Mn.EC,Mn.ahead] at *;exact⟨h1,h2,by simp only[Mn.early];omega,by simp only[Mn.early];omega,hl _ rfl,M,(show sE ths .w1 (s'.c) (s'.w) (s'.q) from⟨by simp only[Mn.ahead];omega,by simp only[Mn.waits];omega,by simp only[Mn.waits];omega,by simp only[Mn.EC];omega⟩),fun o e=> by cases e⟩
 case wm=>
  simp only[Mn.mv,List.mem_singleton,Prod.mk.injEq] at hm;obtain⟨rfl,rfl⟩:=hm;simp only[Mn.early,Mn.waits,Mn.EC,Mn.ahead] at *;exact⟨h1,h2,by simp only[Mn.early];omega,by simp only[Mn.early];omega,hl _ rfl,M,(show sE ths .ws (s'.c) (s'.w) (s'.q) from⟨by simp only[Mn.ahead];omega,by simp only[Mn.waits];omega,by simp only[Mn.waits];omega,by simp only[Mn.EC];omega⟩),fun o e=> by cases e⟩
 case w4=>
  simp only[Mn.mv,List.mem_singleton,Prod.mk.injEq] at hm;obtain⟨rfl,rfl⟩:=hm;simp only[Mn.early,Mn.waits,Mn.EC,Mn.ahead] at *;exact⟨h1,h2,by simp only[Mn.early];omega,by simp only[Mn.early];omega,hl _ rfl,M,(show sE ths .we (s'.c) (s'.w) (s'.q) from⟨by simp only[Mn.ahead];omega,by simp only[Mn.waits];omega,by simp only[Mn.waits];omega,by simp only[Mn.EC];omega⟩),fun o e=> by cases e⟩
 case we=>
  simp only[Mn.mv,List.mem_singleton,Prod.mk.injEq] at hm;obtain⟨rfl,rfl⟩:=hm;simp only[Mn.early,Mn.waits,Mn.EC,Mn.ahead] at *;exact⟨h1,h2,by simp only[Mn.early];omega,by simp only[Mn.early];omega,hl _ rfl,M,(show sE ths .aq (s'.c) (s'.w) (s'.q) from⟨by simp only[Mn.ahead];omega,by simp only[Mn.waits];omega,by simp only[Mn.waits];omega,by simp only[Mn.EC];omega⟩),fun o e=> by cases e⟩
 case aq=>
  simp only[Mn.mv,List.mem_singleton,Prod.mk.injEq] at hm;obtain⟨rfl,rfl⟩:=hm;simp only[Mn.early,Mn.waits,Mn.EC,Mn.ahead] at *;exact⟨h1,h2,by simp only[Mn.early];omega,by simp only[Mn.early];omega,hl _ rfl,M,(show sE ths .ret (s'.c) (s'.w) (s'.q) from⟨by simp only[Mn.ahead];omega,by simp only[Mn.waits];omega,by simp only[Mn.waits];omega,by simp only[Mn.EC];omega⟩),fun o e=> by cases e⟩
 case go=> cases hm
 case ret=> cases hm
 case ka=>
  simp only[Mn.mv,List.mem_singleton,Prod.mk.injEq] at hm;obtain⟨hk,rfl⟩:=hm;simp only[Mn.early,Mn.waits,Mn.EC,Mn.ahead] at *;by_cases hc:s.c=0
  ·rw[if_pos hc] at hk;subst hk;exact⟨h1,h2,by simp only[Mn.early];omega,by simp only[Mn.early];omega,hl _ rfl,M,(show sE ths .kr (s.c+1) (s.w) (s.q) from⟨by simp only[Mn.ahead];omega,by simp only[Mn.waits];omega,by simp only[Mn.waits];omega,by simp only[Mn.EC];omega⟩),fun o e=> by cases e⟩
  ·rw[if_neg hc] at hk;subst hk;exact⟨h1,h2,by simp only[Mn.early];omega,by simp only[Mn.early];omega,hl _ rfl,M,(show sE ths .ke (s.c+1) (s.w) (s.q) from⟨by simp only[Mn.ahead];omega,by simp only[Mn.waits];omega,by simp only[Mn.waits];omega,by simp only[Mn.EC];omega⟩),fun o e=> by cases e⟩
 case w1=>
  simp only[Mn.mv,List.mem_singleton,Prod.mk.injEq] at hm;obtain⟨hk,rfl⟩:=hm;simp only[Mn.early,Mn.waits,Mn.EC,Mn.ahead] at *;by_cases hc:s'.c=0
  ·rw[if_pos hc] at hk;subst hk;exact⟨h1,h2,by simp only[Mn.early];omega,by simp only[Mn.early];omega,hl _ rfl,M,(show sE ths .we (s'.c) (s'.w) (s'.q) from⟨by simp only[Mn.ahead];omega,by simp only[Mn.waits];omega,by simp only[Mn.waits];omega,by simp only[Mn.EC];omega⟩),fun o e=> by cases e⟩
  ·rw[if_neg hc] at hk;subst hk;exact⟨h1,h2,by simp only[Mn.early];omega,by simp only[Mn.early];omega,hl _ rfl,M,(show sE ths (.w2 s'.c) (s'.c) (s'.w) (s'.q) from⟨by simp only[Mn.ahead];omega,by simp only[Mn.waits];omega,by simp only[Mn.waits];omega,by simp only[Mn.EC];omega⟩),fun o e=> by cases e;omega⟩
 case w2 o=>
  have o1:=g5 o rfl;have G2:=g2 rfl;have e0:=h3 rfl;simp only[Mn.ahead] at g1;simp only[Mn.mv] at hm;split at hm <;> simp only[List.mem_singleton,Prod.mk.injEq] at hm <;> obtain⟨rfl,rfl⟩:=hm
  ·rename_i hc
   exact⟨h1,h2,fun _=> e0,fun e=> (by cases e),hl _ rfl,M,(show sE ths .wm s.c 1 s.q from⟨by simp only[Mn.ahead];omega,fun e=> (by cases e),fun _=> ⟨fun _=> ⟨rfl,G2.2.1,G2.2.2.1,G2.2.2.2⟩,fun e=> by omega⟩,fun e=> (by cases e)⟩),fun o e=> by cases e⟩
  ·exact⟨h1,h2,fun _=> e0,fun e=> (by cases e),hl _ rfl,M,(show sE ths .w1 s'.c s'.w s'.q from⟨by simp only[Mn.ahead];omega,fun _=> G2,fun e=> (by cases e),fun e=> (by cases e)⟩),fun o e=> by cases e⟩
 case ws=>
  have G3:=g3 rfl;simp only[Mn.mv] at hm;split at hm
  ·cases hm
  ·simp only[List.mem_singleton,Prod.mk.injEq] at hm;obtain⟨rfl,rfl⟩:=hm;simp only[Mn.early,Mn.waits,Mn.EC,Mn.ahead] at *;exact⟨h1,h2,by simp only[Mn.early];omega,by simp only[Mn.early];omega,hl _ rfl,M,(show sE ths .w4 (s.c) (s.w) (s.q-1) from⟨by simp only[Mn.ahead];omega,by simp only[Mn.waits];omega,by simp only[Mn.waits];omega,by simp only[Mn.EC];omega⟩),fun o e=> by cases e⟩
theorem Inv.fork {n:Nat}{ths:List Th}{s:Sh}(h:Inv n ths .go s):Inv n (ths++[.ld]) (if ths.length+1<n then .kd else .wd) s:=by
 obtain⟨h1,h2,h3,h3',h4,M,⟨g1,g2,g3,g4⟩,g5⟩:=h;have G2:=g2 rfl;have H3:=h3' rfl;simp only[Mn.early,Mn.waits,Mn.EC,Mn.ahead] at *;have hl:∀(i:Nat) (t:Th),(ths++[Th.ld])[i]? =some t->t.loc s:=fun i t hi=> by
  rw[List.getElem?_append] at hi;split at hi
  ·exact h4 i t hi
  ·cases hz:i-ths.length with
   | zero=> rw[hz] at hi;cases hi;trivial
   | succ z=> rw[hz] at hi;cases hi
 have a1:=bE Th.own .ld ths;have a2:=bE Th.xF .ld ths;have a3:=bE Th.tok .ld ths;have a4:=bE Th.SB .ld ths;have a5:=bE Th.post .ld ths;have a6:=bE Th.MF .ld ths;have a7:=bE Th.IB .ld ths;have a8:=bE Th.ul .ld ths;have a9:=bE Th.on .ld ths;have a10:=bE Th.dd .ld ths;have a11:=bE Th.pF .ld ths;simp only[Th.own,Th.xF,Th.tok,Th.SB,Th.post,Th.MF,Th.IB,Th.ul,Th.on,Th.dd,Th.pF] at a1 a2 a3 a4 a5 a6 a7 a8 a9 a10 a11;have hM:QD (ths++[Th.ld]) s.m s.Q:=M.same oM oM oM oM oM oM oM oM;have hlen:(ths++[Th.ld]).length=ths.length+1:=by simp
 by_cases hc:ths.length+1<n
 ·rw[if_pos hc];exact⟨oM,h2,by simp only[Mn.early];omega,by simp only[Mn.early];omega,hl,hM,⟨by simp only[Mn.ahead];omega,by simp only[Mn.waits];omega,by simp only[Mn.waits];omega,by simp only[Mn.EC];omega⟩,fun o e=> by cases e⟩
 ·rw[if_neg hc];exact⟨oM,h2,by simp only[Mn.early];omega,by simp only[Mn.early];omega,hl,hM,⟨by simp only[Mn.ahead];omega,by simp only[Mn.waits];omega,by simp only[Mn.waits];omega,by simp only[Mn.EC];omega⟩,fun o e=> by cases e⟩
theorem Inv.start {n:Nat}(h1:0<n)(h2:n<=6):Inv n [] .kd ⟨0,0,0,0,0⟩:=
 ⟨by simp,h2,by simp[Mn.early],fun _=> h1,by simp,⟨by simp,by simp[sm],by simp[sm],by simp,by simp⟩,⟨by simp[sm,Mn.ahead],by simp[sm],by simp[Mn.waits],by simp[Mn.EC]⟩,fun o e=> by cases e⟩
def Mn.ok(s:Sh):Mn->Prop
 | .w1=> s.w=0
 | .w2 o=> s.w=0/\0<o/\o<=6
 | .ka=> s.w=0
 | .w4=> s.c=0/\s.w=0
 | _=> True
theorem Inv.mok {n:Nat}{ths:List Th}{mn:Mn}{s:Sh}(h:Inv n ths mn s):mn.ok s/\s.fits:=by
 refine⟨?_,h.fits⟩;have g5:=h.g5;have g2:=h.G.g2;have g4:=h.G.g4;cases mn
 case w2 o=> exact⟨(g2 rfl).1,g5 o rfl⟩
 case w1=> exact(g2 rfl).1
 case ka=> exact(g2 rfl).1
 case w4=> exact⟨g4 rfl,(g2 rfl).1⟩
 all_goals trivial
theorem Inv.live {n:Nat}{ths:List Th}{mn:Mn}{s:Sh}(h:Inv n ths mn s)(h1:mn≠ .go)(h2:mn≠ .ret)(h3:mn.mv s= []):∃(i:Nat) (t:Th),ths[i]? =some t/\t.mv s≠ []:=by
 have hmn:mn=.ws/\s.q=0:=by
  cases mn <;> simp only[Mn.mv] at h3
  case go=> exact absurd rfl h1
  case ret=> exact absurd rfl h2
  case ws=>
   split at h3
   ·exact⟨rfl,by assumption⟩
   ·cases h3
  case w2 o=> split at h3 <;> cases h3
  all_goals cases h3
 obtain⟨rfl,hq⟩:=hmn;refine Classical.byContradiction fun dN=> ?_;have bB:∀(i:Nat) (t:Th),ths[i]? =some t->t.mv s= []:=fun i t hi=> Classical.byContradiction fun e=> dN ⟨i,t,hi,e⟩;have SU:∀(i:Nat) (t:Th),ths[i]? =some t->t=.quit\/∃c,t=.s1 c/\s.Q=0:=by
  intro i t hi;have:=bB i t hi;cases t <;> simp only[Th.mv] at this
  case quit=> exact .inl rfl
  case s1 c=>
   split at this
   ·exact .inr ⟨c,rfl,by assumption⟩
   ·cases this
  case l0=> split at this <;> cases this
  case c1=> split at this <;> cases this
  case c2=>
   split at this
   ·split at this <;> cases this
   ·cases this
  case r2=> split at this <;> cases this
  case uc=> split at this <;> cases this
  all_goals cases this
 have zero:∀f:Th->Nat,f .quit=0->(∀c,f (.s1 c)=0)->sm f ths=0:=by
  intro f e1 e2;refine Classical.byContradiction fun hp=> ?_;obtain⟨i,t,hi,ht⟩:=YT (f:=f) (l:=ths) oM;rcases SU i t hi with rfl|⟨c,rfl,_⟩
  ·omega
  ·have:=e2 c;omega
 have z1:=zero Th.own rfl fun _=> rfl;have z2:=zero Th.tok rfl fun _=> rfl;have z3:=zero Th.SB rfl fun _=> rfl;have z4:=zero Th.post rfl fun _=> rfl;have z5:=zero Th.MF rfl fun _=> rfl;have z6:=zero Th.IB rfl fun _=> rfl;have z7:=zero Th.ul rfl fun _=> rfl;have z8:=zero Th.dd rfl fun _=> rfl;have z9:=zero Th.pF rfl fun _=> rfl;have g3:=h.G.g3 rfl;have g1:=h.G.g1;have i1:=h.M.i1;have i4:=h.M.i4;have hc:0<s.c:=by
  rcases Nat.eq_zero_or_pos s.c with e|e
  ·have:=g3.2 e;omega
  ·exact e
 simp only[Mn.ahead] at g1;obtain⟨i,t,hi,ht⟩:=YT (f:=Th.on) (l:=ths) oM;have Y7:=MD (f:=Th.xF) hi;rcases SU i t hi with rfl|⟨c,rfl,hQ⟩
 ·simp[Th.on] at ht
 ·simp only[Th.xF] at Y7;rcases h.M.cases with K|K|K <;> omega
theorem Inv.done {n:Nat}{ths:List Th}{mn:Mn}{s:Sh}(h:Inv n ths mn s)(hp:mn.EC=1):ths.length=n/\∀(i:Nat) (t:Th),ths[i]? =some t->t=.quit:=by
 have he:mn.early=0/\mn.waits=0/\mn.ahead=0:=by cases mn <;> simp[Mn.EC] at hp <;> simp[Mn.early,Mn.waits,Mn.ahead]
 refine⟨h.all he.1,fun i t hi=> ?_⟩;have h1:=MD (f:=Th.on) hi;have h2:=MD (f:=Th.dd) hi;have h3:=MD (f:=Th.pF) hi;have h4:=h.G.g2 he.2.1;have h5:=h.G.g4 hp;have h6:=h.G.g1;cases t <;> simp only[Th.on,Th.dd,Th.pF] at h1 h2 h3 <;> first|rfl|omega
def Th.wt:Th->Nat
 | .ld | .l0 | .r0=> 13
 | .sq _ c | .c1 _ c | .ds c | .r1 c | .c2 _ c | .r3 c=> if c.aw then 12 else 13
 | .t1 _ | .s1 _=> 11
 | .t2 _ | .r2 _ | .a1 _=> 12
 | .le | .la | .up | .ur | .ud | .u0=> 10
 | .uc _ | .ux=> 9
 | .us _=> 8
 | .ue | .wr | .wk | .wi | .d1=> 5
 | .d2 | .d3=> 4
 | .d4=> 3
 | .quit=> 0
def Th.lam(s:Sh):Th->Nat
 | .ld=> 40
 | .l0=> 39
 | .r0=> 38
 | .sq o c=> 6*(4-c.it)+(if o=s.m then 5 else 10)
 | .c1 _ c=> 6*(4-c.it)+4
 | .ds c=> 6*(4-c.it)+3
 | .r1 c=> 6*(4-c.it)+2
 | .c2 o c=> if o=s.m then 1 else 6*(4-c.it)+9
 | .r3 c=> 6*(4-c.it)+8
 | .t1 _=> 2
 | .s1 _=> 1
 | .t2 _=> 40
 | .r2 _=> 39
 | .a1 _=> 1
 | .le=> 61
 | .la=> 60
 | .up=> 59
 | .ur=> 58
 | .ud=> 57
 | .u0=> 56
 | .uc o=> if o=s.m then 1 else 3
 | .ux=> 2
 | .us _=> 1
 | .ue=> 20
 | .wr=> 19
 | .wk=> 18
 | .wi=> 17
 | .d1=> 16
 | .d2=> 2
 | .d3=> 1
 | .d4=> 1
 | .quit=> 0
theorem aBt(s:Sh)(t:Th):t.lam s<=63:=by
 cases t <;> simp only[Th.lam] <;> first|omega|(split <;> omega)
theorem MU(o:Nat)(c:Lc):(hd o c).wt=if c.aw then 12 else 13:=by unfold hd;split <;> rfl
theorem kP(s:Sh)(c:Lc):(hd s.m c).lam s<=6*(4-c.it)+5:=by
 unfold hd;split
 ·simp[Th.lam]
 ·simp[Th.lam]
theorem Th.MX {s s':Sh}{t t':Th}(hl:t.loc s)(LB:t.ok s)(hm:(t',s')∈t.mv s):(s'=s/\t'.wt<=t.wt/\t'.lam s<t.lam s)\/t'.wt+2*s'.Q+2*s'.q<t.wt+2*s.Q+2*s.q:=by
 cases t
 case ld=>
  simp only[Th.mv,List.mem_singleton,Prod.mk.injEq] at hm;obtain⟨rfl,rfl⟩:=hm;exact .inl ⟨rfl,by decide,by simp only[Th.lam];omega⟩
 case le=>
  simp only[Th.mv,List.mem_singleton,Prod.mk.injEq] at hm;obtain⟨rfl,rfl⟩:=hm;exact .inl ⟨rfl,by decide,by simp only[Th.lam];omega⟩
 case la=>
  simp only[Th.mv,List.mem_singleton,Prod.mk.injEq] at hm;obtain⟨rfl,rfl⟩:=hm;exact .inl ⟨rfl,by decide,by simp only[Th.lam];omega⟩
 case up=>
  simp only[Th.mv,List.mem_singleton,Prod.mk.injEq] at hm;obtain⟨rfl,rfl⟩:=hm;exact .inl ⟨rfl,by decide,by simp only[Th.lam];omega⟩
 case ur=>
  simp only[Th.mv,List.mem_singleton,Prod.mk.injEq] at hm;obtain⟨rfl,rfl⟩:=hm;exact .inl ⟨rfl,by decide,by simp only[Th.lam];omega⟩
 case ud=>
  simp only[Th.mv,List.mem_singleton,Prod.mk.injEq] at hm;obtain⟨rfl,rfl⟩:=hm;exact .inl ⟨rfl,by decide,by simp only[Th.lam];omega⟩
 case ue=>
  simp only[Th.mv,List.mem_singleton,Prod.mk.injEq] at hm;obtain⟨rfl,rfl⟩:=hm;exact .inl ⟨rfl,by decide,by simp only[Th.lam];omega⟩
 case wr=>
  simp only[Th.mv,List.mem_singleton,Prod.mk.injEq] at hm;obtain⟨rfl,rfl⟩:=hm;exact .inl ⟨rfl,by decide,by simp only[Th.lam];omega⟩
 case wk=>
  simp only[Th.mv,List.mem_singleton,Prod.mk.injEq] at hm;obtain⟨rfl,rfl⟩:=hm;exact .inl ⟨rfl,by decide,by simp only[Th.lam];omega⟩
 case wi=>
  simp only[Th.mv,List.mem_singleton,Prod.mk.injEq] at hm;obtain⟨rfl,rfl⟩:=hm;exact .inl ⟨rfl,by decide,by simp only[Th.lam];omega⟩
 case d2=>
  simp only[Th.mv,List.mem_singleton,Prod.mk.injEq] at hm;obtain⟨rfl,rfl⟩:=hm;exact .inl ⟨rfl,by decide,by simp only[Th.lam];omega⟩
 case l0=>
  simp only[Th.mv] at hm;split at hm <;> simp only[List.mem_singleton,Prod.mk.injEq] at hm <;> obtain⟨rfl,rfl⟩:=hm
  ·exact .inr (by simp only[Th.wt];omega)
  ·exact .inl ⟨rfl,by decide,by simp only[Th.lam];omega⟩
 case r0=>
  simp only[Th.mv,List.mem_singleton,Prod.mk.injEq] at hm;obtain⟨rfl,rfl⟩:=hm;have:=kP s' ⟨false,false,false,0⟩;exact .inl ⟨rfl,by rw[MU];decide,by simp only[Th.lam] at *;omega⟩
 case sq o c=>
  simp only[Th.mv,List.mem_cons,Prod.mk.injEq] at hm;rcases hm with ⟨rfl,rfl⟩|hm
  ·exact .inl ⟨rfl,by simp only[Th.wt];omega,by simp only[Th.lam];split <;> omega⟩
  ·split at hm
   ·rename_i dL
    simp only[List.mem_singleton,Prod.mk.injEq] at hm;obtain⟨rfl,rfl⟩:=hm;split
    ·exact .inl ⟨rfl,by simp only[Th.wt];omega,by simp only[Th.lam];split <;> omega⟩
    ·exact .inl ⟨rfl,by simp only[Th.wt];omega,by simp only[Th.lam];split <;> omega⟩
   ·cases hm
 case c1 o c=>
  obtain⟨_,_,_,_,_,l6,_⟩:=hl;simp only[Th.mv] at hm;split at hm <;> simp only[List.mem_singleton,Prod.mk.injEq] at hm <;> obtain⟨rfl,rfl⟩:=hm
  ·exact .inr (by simp only[Th.wt,l6,if_true,Bool.false_eq_true,if_false];omega)
  ·exact .inl ⟨rfl,by simp only[Th.wt];omega,by simp only[Th.lam];omega⟩
 case ds c=>
  simp only[Th.mv,List.mem_singleton,Prod.mk.injEq] at hm;obtain⟨rfl,rfl⟩:=hm;exact .inl ⟨rfl,by simp only[Th.wt];omega,by simp only[Th.lam];omega⟩
 case r1 c=>
  simp only[Th.mv,List.mem_singleton,Prod.mk.injEq] at hm;obtain⟨rfl,rfl⟩:=hm;have:=kP s' { c with it:=c.it+1 };have:=hl.2;exact .inl ⟨rfl,by rw[MU];simp only[Th.wt];omega,by simp only[Th.lam] at *;omega⟩
 case r3 c=>
  simp only[Th.mv,List.mem_singleton,Prod.mk.injEq] at hm;obtain⟨rfl,rfl⟩:=hm;have:=kP s' c;exact .inl ⟨rfl,by rw[MU];simp only[Th.wt];omega,by simp only[Th.lam] at *;omega⟩
 case c2 o c=>
  simp only[Th.mv] at hm;split at hm
  ·split at hm <;> simp only[List.mem_singleton,Prod.mk.injEq] at hm <;> obtain⟨rfl,rfl⟩:=hm
   ·exact .inr (by simp only[Th.wt];split <;> omega)
   ·refine .inr ?_;have:(if c.ws=true then Th.s1 c else Th.t1 c).wt=11:=by split <;> rfl
    rw[this];simp only[Th.wt];split <;> omega
  ·rename_i h0
   simp only[List.mem_singleton,Prod.mk.injEq] at hm;obtain⟨rfl,rfl⟩:=hm;exact .inl ⟨rfl,by simp only[Th.wt];omega,by simp only[Th.lam];rw[if_neg (fun e=> h0 e.symm)];omega⟩
 case t1 c=>
  simp only[Th.mv,List.mem_cons,Prod.mk.injEq,List.not_mem_nil,or_false] at hm;rcases hm with ⟨rfl,rfl⟩|⟨rfl,rfl⟩ <;> exact .inl ⟨rfl,by simp only[Th.wt];omega,by simp only[Th.lam];omega⟩
 case s1 c=>
  simp only[Th.mv] at hm;split at hm
  ·cases hm
  ·simp only[List.mem_singleton,Prod.mk.injEq] at hm;obtain⟨rfl,rfl⟩:=hm;exact .inr (by simp only[Th.wt];omega)
 case t2 c=>
  simp only[Th.mv,List.mem_cons,Prod.mk.injEq,List.not_mem_nil,or_false] at hm;rcases hm with ⟨rfl,rfl⟩|⟨rfl,rfl⟩ <;> exact .inl ⟨rfl,by simp only[Th.wt];omega,by simp only[Th.lam];omega⟩
 case r2 c=>
  simp only[Th.mv] at hm;split at hm <;> simp only[List.mem_singleton,Prod.mk.injEq] at hm <;> obtain⟨rfl,rfl⟩:=hm
  ·exact .inl ⟨rfl,by simp only[Th.wt];omega,by simp only[Th.lam];omega⟩
  ·have:=kP s' { c with aw:=true,it:=0 };exact .inl ⟨rfl,by rw[MU];simp only[Th.wt];decide,by simp only[Th.lam] at *;omega⟩
 case a1 b=>
  simp only[Th.mv,List.mem_singleton,Prod.mk.injEq] at hm;obtain⟨rfl,rfl⟩:=hm;exact .inr (by simp only[Th.wt];omega)
 case u0=>
  simp only[Th.mv,List.mem_singleton,Prod.mk.injEq] at hm;obtain⟨rfl,rfl⟩:=hm;refine .inr ?_;have:(if s.m=1 then Th.ue else if(s.m-1)/4%2=1 then .us true else if(s.m-1)/8=0\/(s.m-1)%8≠0 then .ue else .uc (s.m-1)).wt<=9:=by
   split
   ·decide
   ·split
    ·decide
    ·split <;> simp only[Th.wt] <;> omega
  have e:Th.u0.wt=10:=rfl;simp only;omega
 case uc o=>
  simp only[Th.mv] at hm;split at hm <;> simp only[List.mem_singleton,Prod.mk.injEq] at hm <;> obtain⟨rfl,rfl⟩:=hm
  ·exact .inr (by simp only[Th.wt];omega)
  ·rename_i h0
   exact .inl ⟨rfl,by simp only[Th.wt];omega,by simp only[Th.lam];rw[if_neg (fun e=> h0 e.symm)];omega⟩
 case ux=>
  simp only[Th.mv,List.mem_singleton,Prod.mk.injEq] at hm;obtain⟨rfl,rfl⟩:=hm;split
  ·exact .inr (by simp only[Th.wt];omega)
  ·exact .inl ⟨rfl,by simp only[Th.wt];omega,by simp[Th.lam]⟩
 case us b=>
  simp only[Th.mv,List.mem_singleton,Prod.mk.injEq] at hm;obtain⟨rfl,rfl⟩:=hm;exact .inr (by simp only[Th.wt];omega)
 case d1=>
  simp only[Th.mv,List.mem_singleton,Prod.mk.injEq] at hm;obtain⟨rfl,rfl⟩:=hm;exact .inr (by split <;> simp only[Th.wt] <;> omega)
 case d3=>
  simp only[Th.mv,List.mem_singleton,Prod.mk.injEq] at hm;obtain⟨rfl,rfl⟩:=hm;exact .inr (by simp only[Th.wt];omega)
 case d4=>
  simp only[Th.mv,List.mem_singleton,Prod.mk.injEq] at hm;obtain⟨rfl,rfl⟩:=hm;exact .inr (by simp only[Th.wt];omega)
 case quit=> cases hm
def Mn.wt:Mn->Nat
 | .kd | .ki | .ka=> 20
 | .kr | .ke | .go=> 19
 | .wd | .w1 | .w2 _=> 18
 | .wm | .ws=> 17
 | _=> 14
def Mn.lam(s:Sh):Mn->Nat
 | .kd=> 3
 | .ki=> 2
 | .ka=> 1
 | .kr=> 3
 | .ke=> 2
 | .go=> 1
 | .wd=> 5
 | .w1=> 3
 | .w2 o=> if o=s.c then 2 else 4
 | .wm=> 2
 | .ws=> 1
 | .w4=> 4
 | .we=> 3
 | .aq=> 2
 | .ret=> 1
theorem Mn.MX {s s':Sh}{t t':Mn}(hm:(t',s')∈t.mv s):(s'=s/\t'.wt<=t.wt/\t'.lam s<t.lam s)\/t'.wt+2*s'.Q+2*s'.q<t.wt+2*s.Q+2*s.q:=by
 cases t <;> simp only[Mn.mv] at hm
 case go=> cases hm
 case ret=> cases hm
 case ka=>
  simp only[List.mem_singleton,Prod.mk.injEq] at hm;obtain⟨rfl,rfl⟩:=hm;exact .inr (by split <;> simp only[Mn.wt] <;> omega)
 case w1=>
  simp only[List.mem_singleton,Prod.mk.injEq] at hm;obtain⟨rfl,rfl⟩:=hm;split
  ·exact .inr (by simp only[Mn.wt];omega)
  ·exact .inl ⟨rfl,by simp only[Mn.wt];omega,by simp[Mn.lam]⟩
 case w2 o=>
  split at hm <;> simp only[List.mem_singleton,Prod.mk.injEq] at hm <;> obtain⟨rfl,rfl⟩:=hm
  ·exact .inr (by simp only[Mn.wt];omega)
  ·rename_i h0
   exact .inl ⟨rfl,by simp only[Mn.wt];omega,by simp only[Mn.lam];rw[if_neg (fun e=> h0 e.symm)];omega⟩
 case ws=>
  split at hm
  ·cases hm
  ·simp only[List.mem_singleton,Prod.mk.injEq] at hm;obtain⟨rfl,rfl⟩:=hm;exact .inr (by simp only[Mn.wt];omega)
 all_goals
  simp only[List.mem_singleton,Prod.mk.injEq] at hm;obtain⟨rfl,rfl⟩:=hm;exact .inl ⟨rfl,by simp only[Mn.wt];omega,by simp only[Mn.lam];omega⟩
def phi(n:Nat)(ths:List Th)(mn:Mn)(s:Sh):Nat:=sm Th.wt ths+2*s.Q+2*s.q+mn.wt+100*(n-ths.length)
def jM(ths:List Th)(mn:Mn)(s:Sh):Nat:=sm (Th.lam s) ths+mn.lam s
def mu(n:Nat)(ths:List Th)(mn:Mn)(s:Sh):Nat:=phi n ths mn s*512+jM ths mn s
theorem K6 {f:Th->Nat}{b:Nat}(hf:∀t,f t<=b):∀l:List Th,sm f l<=b*l.length
 | []=> by simp[sm]
 | a::l=> by
  have:=K6 hf l;have:=hf a;simp only[sm,List.length_cons,Nat.mul_add];omega
theorem Mn.aDf(s:Sh)(t:Mn):t.lam s<=5:=by cases t <;> simp only[Mn.lam] <;> first|omega|(split <;> omega)
theorem dK {ths:List Th}{mn:Mn}{s:Sh}(h:ths.length<=6):jM ths mn s<512:=by
 have h1:=K6 (aBt s) ths;have h2:=mn.aDf s;unfold jM;omega
theorem jW {n:Nat}{ths:List Th}{mn:Mn}{s s':Sh}{i:Nat}{t t':Th}(h:Inv n ths mn s)(hi:ths[i]? =some t)(hm:(t',s')∈t.mv s):mu n (ths.set i t') mn s'<mu n ths mn s:=by
 have h1:=tD (f:=Th.wt) hi t';have h2:=h.len;have h3:=h.n7;have hl:(ths.set i t').length=ths.length:=by simp
 rcases Th.MX (h.loc i t hi) (h.ok hi).1 hm with ⟨rfl,h4,h5⟩|h4
 ·have h6:=tD (f:=Th.lam s') hi t';unfold mu phi jM;rw[hl];omega
 ·have h6:=dK (ths:=ths.set i t') (mn:=mn) (s:=s') oM;unfold mu phi;rw[hl];omega
theorem Z3 {n:Nat}{ths:List Th}{mn mn':Mn}{s s':Sh}(h:Inv n ths mn s)(hm:(mn',s')∈mn.mv s):mu n ths mn' s'<mu n ths mn s:=by
 have h2:=h.len;have h3:=h.n7;rcases Mn.MX hm with ⟨rfl,h4,h5⟩|h4
 ·unfold mu phi jM;omega
 ·have h6:=dK (ths:=ths) (mn:=mn') (s:=s') oM;unfold mu phi;omega
theorem Y3 {n:Nat}{ths:List Th}{s:Sh}{mn:Mn}(h:Inv n ths .go s)(hw:mn.wt<=20):mu n (ths++[.ld]) mn s<mu n ths .go s:=by
 have h2:=h.more rfl;have h3:=h.n7;have h6:=dK (ths:=ths++[.ld]) (mn:=mn) (s:=s) (by simp;omega);have h7:=bE Th.wt .ld ths;have h8:Th.ld.wt=13:=rfl;have h9:Mn.go.wt=19:=rfl;unfold mu phi;rw[h7,h8,h9];simp only[List.length_append,List.length_cons,List.length_nil];omega
end Go.RL.Au
namespace Go.RL
open Go.Conc
inductive mB where
 | stop
 | step (f:World->mB)
 | phase (f:View->Goroutine->mB)
inductive mB.Lt:mB->mB->Prop where
 | step (f:World->mB) (w:World):mB.Lt (f w) (.step f)
 | phase (f:View->Goroutine->mB) (H:View) (g:Goroutine):mB.Lt (f H g) (.phase f)
theorem mB.wf:WellFounded mB.Lt:=⟨fun a=> by
 induction a with
 | stop=> exact⟨_,fun y h=> by cases h⟩
 | step f ih=> exact⟨_,fun y h=> by cases h;exact ih _⟩
 | phase f ih=> exact⟨_,fun y h=> by cases h;exact ih _ _⟩⟩
def Tr {P:Program}(M:Md P)(St:View->Goroutine->Prop):mB->View->Goroutine->Prop
 | .stop,H,g=> St H g
 | .step f,H,g=> g.status=.running/\∀w,Sat H w->M.ok w->∃g' w' es H',stepG P M.main g w=.go g' w' es/\Trans H w H' w' es/\Tr M St (f w) H' g'
 | .phase f,H,g=> ∃Po,M.Ph H g Po/\∀H' g',Po H' g'->Tr M St (f H' g') H' g'
theorem T.NR {P:Program}{M:Md P}{St:View->Goroutine->Prop}{H:View}{g:Goroutine}(h:T M St H g):∃ρ,Tr M St ρ H g:=by
 refine h.ind (X:=fun H g=> ∃ρ,Tr M St ρ H g) (fun H g hs=> ⟨.stop,hs⟩) (fun H g hs=> ?_) (fun H g Po hp hk=> ?_)
 ·have:∀w,∃ρ,Sat H w->M.ok w->∃g' w' es H',stepG P M.main g w=.go g' w' es/\Trans H w H' w' es/\Tr M St ρ H' g':=fun w=> by
   by_cases hw:Sat H w/\M.ok w
   ·obtain⟨g',w',es,H',h1,h2,_,ρ,h3⟩:=hs.2 w hw.1 hw.2;exact⟨ρ,fun _ _=> ⟨g',w',es,H',h1,h2,h3⟩⟩
   ·exact⟨.stop,fun h h'=> absurd ⟨h,h'⟩ hw⟩
  obtain⟨f,hf⟩:=Classical.axiomOfChoice this;exact⟨.step f,hs.1,hf⟩
 ·have:∀x:View×Goroutine,∃ρ,Po x.1 x.2->Tr M St ρ x.1 x.2:=fun x=> by
   by_cases hx:Po x.1 x.2
   ·obtain⟨_,ρ,h3⟩:=hk _ _ hx;exact⟨ρ,fun _=> h3⟩
   ·exact⟨.stop,fun h=> absurd h hx⟩
  obtain⟨f,hf⟩:=Classical.axiomOfChoice this;exact⟨.phase fun H g=> f (H,g),Po,hp,fun H' g' h=> hf (H',g') h⟩
def Mw(P:Program)(main:Bool)(ok:World->Prop):Md P:=⟨main,ok,fun _ _ _=> False,fun _ _ _ _ h=> h.elim⟩
inductive qU:List mB->List mB->Prop where
 | head {a b:mB} (l:List mB):mB.Lt a b->qU (a::l) (b::l)
 | tail (a:mB) {l m:List mB}:qU l m->qU (a::l) (a::m)
theorem qU.set {l:List mB}:∀ {i:Nat} {b a:mB},l[i]? =some b->mB.Lt a b->qU (l.set i a) l:=by
 induction l with
 | nil=> intro i b a h;simp at h
 | cons x l ih=>
  intro i b a h iB;cases i with
  | zero=> simp at h;subst h;exact .head l iB
  | succ i=> exact .tail x (ih (by simpa using h) iB)
theorem qU.wf:WellFounded qU:=⟨fun l=> by
 induction l with
 | nil=> exact⟨_,fun y h=> by cases h⟩
 | cons a l ih=>
  induction a using mB.wf.induction generalizing l with
  | _ a iha=>
   induction ih with
   | intro l hl ihl=>
    refine⟨_,fun y h=> ?_⟩;cases h with
    | head _ iB=> exact iha _ iB l ⟨l,hl⟩
    | tail _ iB=> exact ihl _ iB⟩
end Go.RL
namespace Go.RL
open Go.Conc Go.ConcN
open Go.ConcR (stA smA rd wr mk)
open Go.ConcM (muA)
def lb:Loc->Option Nat
 | .cell a=> some a.block
 | .obj r=> some r
 | _=> none
theorem y8 {l:Loc}{b:Nat}(h:lb l=some b):l.isMemory=true:=by
 cases l <;> simp[lb] at h <;> rfl
theorem p8 {l:Loc}(h:l.isMemory=true):∃b,lb l=some b:=by
 cases l <;> simp[Loc.isMemory] at h <;> exact⟨_,rfl⟩
def Act(base N g:Nat):Prop:=g=0\/(base<=g/\g<N)
structure TI(Mu Wg C base N hs:Nat)(H:Nat->View)(B:View)(t:Trace):Prop where
 nr:∀said,¬Race said t
 bd:∀i a b,touchAt t i=some a->lb a.loc=some b->b<hs
 kn:∀g,Act base N g->∀i a b f o,touchAt t i=some a->lb a.loc=some b->H g b=some (f,o)->(f=true\/a.write=true)->Knows t g i
 pl:∀(i:Nat) op a,t[i]? =some op->op.act.touch? =some a->a.kind=.plain->op.g<base->Knows t 0 i
 np:∀i a b,touchAt t i=some a->a.kind≠ .plain->lb a.loc=some b->(∀g,H g b=none)/\B b=none/\b≠C
 eV:∀(i:Nat) op a,t[i]? =some op->op.act.touch? =some a->a.kind≠ .plain->(a.kind=.said->op.g=0)/\(a.kind=.atomic->op.g≠0->¬t.heard i)
 sy:∀g,Act base N g->∀i a b,touchAt t i=some a->a.kind=.plain->lb a.loc=some b->b=Mu\/b=Wg->Knows t g i
 rel:∀a,NoRelease a t
 gs:∀(i:Nat) op,t[i]? =some op->op.g<N
 mem:∀i a,touchAt t i=some a->∃b,lb a.loc=some b
structure aX(Mu Wg:Nat)(H:View)(g:Nat)(t:Trace)(u:Trace):Prop where
 own:∀op∈u,op.g=g
 touch:∀op∈u,∀x,op.act.touch? =some x->(x.kind=.plain/\∃b f o,lb x.loc=some b/\H b=some (f,o)/\(x.write=true->f=true))\/ 
  (x.kind≠ .plain/\(lb x.loc=some Mu\/lb x.loc=some Wg)/\(x.kind=.said->g=0))
 deaf:g≠0->∀(i:Nat) op x,t.size<=i->(t++u)[i]? =some op->op.act.touch? =some x->x.kind=.atomic->¬(t++u).heard i
 rel:∀op∈u,∀a,op.act≠ .mark (.release a)
section
variable {Mu Wg C base N hs:Nat}{H:Nat->View}{B:View}{t u:Trace}
theorem RA {i:Nat}{a:Touch}(h:touchAt (t++u) i=some a):(i<t.size/\touchAt t i=some a)\/(t.size<=i/\∃op,op∈u/\(t++u)[i]? =some op/\op.act.touch? =some a):=by
 obtain⟨x,hx,Z7⟩:=touch_of h;rcases getElem?_append_cases hx with ⟨hi,XG⟩|⟨hi,hxu⟩
 ·exact .inl ⟨hi,by rw[touchAt_of XG];exact Z7⟩
 ·exact .inr ⟨hi,x,hxu,hx,Z7⟩
theorem TI.grow {g hs':Nat}{H':View}(h:TI Mu Wg C base N hs H B t)(hg:Act base N g)(hgN:g<N)(hu:aX Mu Wg H' g t u)
  (ext:∀b f o,H' b=some (f,o)->(∃o,H g b=some (f,o))\/(f=true/\hs<=b)) (hhs:hs<=hs') (dT:∀b x,H' b=some x->b<hs') (Z5:Mu<hs) (m6:Wg<hs)
  (nQ:∀j,j≠g->∀b o,(H' b=some (true,o)->H j b=none)/\(H j b=some (true,o)->H' b=none)) (gJ:∀j,H j Mu=none/\H j Wg=none) (hB:B Mu=none/\B Wg=none) (hC:C≠Mu/\C≠Wg):
  TI Mu Wg C base N hs' (upd H g H') B (t++u):=by
 have C3:H' Mu=none/\H' Wg=none:=by
  constructor
  ·cases hx:H' Mu with
   | none=> rfl
   | some x=>
    rcases ext Mu x.1 x.2 hx with ⟨o,ho⟩|⟨_,hle⟩
    ·rw[(gJ g).1] at ho;cases ho
    ·omega
  ·cases hx:H' Wg with
   | none=> rfl
   | some x=>
    rcases ext Wg x.1 x.2 hx with ⟨o,ho⟩|⟨_,hle⟩
    ·rw[(gJ g).2] at ho;cases ho
    ·omega
 have old:∀i a b f o,touchAt t i=some a->lb a.loc=some b->H' b=some (f,o)->∃o',H g b=some (f,o'):=by
  intro i a b f o ha hb hx;rcases ext b f o hx with h1|⟨_,hle⟩
  ·exact h1
  ·have:=h.bd i a b ha hb;omega
 refine⟨fun said=> ?_,?_,?_,?_,?_,?_,?_,?_,?_,?_⟩
 ·refine noRace_append (h.nr said) hu.own fun i a ha op gA b hb hc=> ?_;obtain⟨SD,WC,hwr,SU⟩:=hc;obtain⟨blk,UG⟩:=p8 (by simpa using WC);rcases hu.touch op gA b hb with ⟨hk,blk',f,o,h1,h2,h3⟩|⟨hk,h1,h2⟩
  ·rw[SD,h1] at UG;cases UG
   obtain⟨o',h4⟩:=old i a blk f o ha (by rw[SD];exact h1) h2;have TQ:a.kind=.plain:=by
    refine Classical.byContradiction fun aB=> ?_;have:=(h.np i a blk ha aB (by rw[SD];exact h1)).1 g;rw[h4] at this;cases this
   refine h.kn g hg i a blk f o' ha (by rw[SD];exact h1) h4 ?_;rcases hwr with hw|hw
   ·exact .inr hw
   ·exact .inl (h3 hw)
  ·have dP:blk=Mu\/blk=Wg:=by
    rw[<-SD] at h1;rw[UG] at h1;rcases h1 with h1|h1 <;> cases h1 <;> simp
   rcases SU with HZ|HZ|⟨_,TN,A3⟩
   ·exact h.sy g hg i a blk ha HZ UG dP
   ·exact absurd HZ hk
   ·obtain⟨x,hx,Z7⟩:=touch_of ha;have:=(h.eV i x a hx Z7 (by rw[TN];simp)).1 TN;have h0:=h2 A3;have:=knows_own hx;rw[(h.eV i x a hx Z7 (by rw[TN];simp)).1 TN] at this;rw[h0];exact this
 ·intro i a b ha hb;rcases RA ha with ⟨hi,WE⟩|⟨hi,op,gA,_,hx⟩
  ·exact Nat.lt_of_lt_of_le (h.bd i a b WE hb) hhs
  ·rcases hu.touch op gA a hx with ⟨_,b',f,o,h1,h2,_⟩|⟨_,h1,_⟩
   ·rw[h1] at hb;cases hb
    exact dT b _ h2
   ·rw[hb] at h1;rcases h1 with h1|h1 <;> cases h1 <;> omega
 ·intro j hj i a b f o ha hb hH hw;rcases RA ha with ⟨hi,WE⟩|⟨hi,op,gA,TD,hx⟩
  ·by_cases e:j=g
   ·subst e;rw[upd_same] at hH;obtain⟨o',h4⟩:=old i a b f o WE hb hH;exact(h.kn j hj i a b f o' WE hb h4 hw).app u
   ·rw[upd_ne H H' e] at hH;exact(h.kn j hj i a b f o WE hb hH hw).app u
  ·by_cases e:j=g
   ·subst e;have:=knows_own TD
    rwa [hu.own op gA] at this
   ·rw[upd_ne H H' e] at hH;rcases hu.touch op gA a hx with ⟨_,b',f',o',h1,h2,h3⟩|⟨_,h1,_⟩
    ·rw[h1] at hb;cases hb
     rcases hw with rfl|hw
     ·rw[(nQ j e b o).2 hH] at h2;cases h2
     ·have:=h3 hw;subst this;rw[(nQ j e b o').1 h2] at hH;cases hH
    ·rw[hb] at h1;rcases h1 with h1|h1 <;> cases h1
     ·rw[(gJ j).1] at hH;cases hH
     ·rw[(gJ j).2] at hH;cases hH
 ·intro i op a gA ha hk iB;rcases getElem?_append_cases gA with ⟨hi,TD⟩|⟨hi,dD⟩
  ·exact(h.pl i op a TD ha hk iB).app u
  ·have h1:=hu.own op dD;have h2:=knows_own gA;rcases hg with rfl|⟨PU,_⟩
   ·rwa [h1] at h2
   ·omega
 ·intro i a b ha hk hb;rcases RA ha with ⟨hi,WE⟩|⟨hi,op,gA,_,hx⟩
  ·obtain⟨h1,h2⟩:=h.np i a b WE hk hb;refine⟨fun j=> ?_,h2⟩;by_cases e:j=g
   ·subst e;rw[upd_same];cases hx:H' b with
    | none=> rfl
    | some x=>
     obtain⟨o',h4⟩:=old i a b x.1 x.2 WE hb hx;rw[h1 j] at h4;cases h4
   ·rw[upd_ne H H' e];exact h1 j
  ·rcases hu.touch op gA a hx with ⟨hp,_⟩|⟨_,h1,_⟩
   ·exact absurd hp hk
   ·rw[hb] at h1;rcases h1 with h1|h1 <;> cases h1
    ·exact⟨fun j=> by by_cases e:j=g;(subst e;rw[upd_same];exact C3.1);(rw[upd_ne H H' e];exact(gJ j).1),hB.1,Ne.symm hC.1⟩
    ·exact⟨fun j=> by by_cases e:j=g;(subst e;rw[upd_same];exact C3.2);(rw[upd_ne H H' e];exact(gJ j).2),hB.2,Ne.symm hC.2⟩
 ·intro i op a gA ha hk;rcases getElem?_append_cases gA with ⟨hi,TD⟩|⟨hi,dD⟩
  ·obtain⟨h1,h2⟩:=h.eV i op a TD ha hk;exact⟨h1,fun e e'=> by rw[heard_old hi];exact h2 e e'⟩
  ·have h1:=hu.own op dD;refine⟨fun e=> ?_,fun e e'=> hu.deaf (by rw[<-h1];exact e') i op a hi gA ha e⟩;rcases hu.touch op dD a ha with ⟨hp,_⟩|⟨_,_,h2⟩
   ·exact absurd hp hk
   ·rw[h1];exact h2 e
 ·intro j hj i a b ha hk hb xJ;rcases RA ha with ⟨hi,WE⟩|⟨hi,op,gA,_,hx⟩
  ·exact(h.sy j hj i a b WE hk hb xJ).app u
  ·rcases hu.touch op gA a hx with ⟨_,b',f,o,h1,h2,_⟩|⟨hp,_⟩
   ·rw[h1] at hb;cases hb
    rcases xJ with rfl|rfl
    ·rw[C3.1] at h2;cases h2
    ·rw[C3.2] at h2;cases h2
   ·exact absurd hk hp
 ·exact fun a=> (h.rel a).app fun op gA=> hu.rel op gA a
 ·intro i op gA;rcases getElem?_append_cases gA with ⟨hi,TD⟩|⟨hi,dD⟩
  ·exact h.gs i op TD
  ·rw[hu.own op dD];exact hgN
 ·intro i a ha;rcases RA ha with ⟨hi,WE⟩|⟨hi,op,gA,_,hx⟩
  ·exact h.mem i a WE
  ·rcases hu.touch op gA a hx with ⟨_,b',f,o,h1,_⟩|⟨_,h1,_⟩
   ·exact⟨_,h1⟩
   ·exact h1.elim (fun e=> ⟨_,e⟩) fun e=> ⟨_,e⟩
theorem TI.less {g:Nat}{H':View}(h:TI Mu Wg C base N hs H B t)(hl:∀b f o,H' b=some (f,o)->∃f' o',H g b=some (f',o')/\(f=true->f'=true)):TI Mu Wg C base N hs (upd H g H') B t:=by
 refine⟨h.nr,h.bd,?_,h.pl,?_,h.eV,h.sy,h.rel,h.gs,h.mem⟩
 ·intro j hj i a b f o ha hb hH hw;by_cases e:j=g
  ·subst e;rw[upd_same] at hH;obtain⟨f',o',h1,h2⟩:=hl b f o hH;exact h.kn j hj i a b f' o' ha hb h1 (hw.imp h2 id)
  ·rw[upd_ne H H' e] at hH;exact h.kn j hj i a b f o ha hb hH hw
 ·intro i a b ha hk hb;obtain⟨h1,h2⟩:=h.np i a b ha hk hb;refine⟨fun j=> ?_,h2⟩;by_cases e:j=g
  ·subst e;rw[upd_same];cases hx:H' b with
   | none=> rfl
   | some x=>
    obtain⟨f',o',h3,_⟩:=hl b x.1 x.2 hx;rw[h1 j] at h3;cases h3
  ·rw[upd_ne H H' e];exact h1 j
def Tok(Mu C base N:Nat)(t:Trace):Prop:=
 ∀i a,touchAt t i=some a->lb a.loc=some C->(∀g,Act base N g->Knows t g i)\/∃r,Before t i r/\t.act? r=some (.mark (.releaseMerge (muA Mu)))/\t.heard r
theorem Tok.grow(h:Tok Mu C base N t)(hu:∀op∈u,∀x,op.act.touch? =some x->lb x.loc≠some C):Tok Mu C base N (t++u):=by
 intro i a ha hb;rcases RA ha with ⟨hi,WE⟩|⟨hi,op,gA,_,hx⟩
 ·rcases h i a WE hb with h1|⟨r,h1,h2,h3⟩
  ·exact .inl fun g hg=> (h1 g hg).app u
  ·have hr:=lt_of_act? h2;exact .inr ⟨r,h1.app u,by rw[act?_old hr];exact h2,(heard_old hr).2 h3⟩
 ·exact absurd hb (hu op gA a hx)
theorem Tok.acquire {g:Nat}{y:MemOp}(h:Tok Mu C base N t)(hg:Act base N g)(hy:y.g=g/\y.act=.mark (.acquire (muA Mu)))(hd:Deaf t g=0)(hn:NoRelease (muA Mu) t):∀i a,touchAt (t ++ #[y]) i=some a->lb a.loc=some C->Knows (t ++ #[y]) g i:=by
 intro i a ha hb;rcases RA ha with ⟨hi,WE⟩|⟨hi,op,gA,_,hx⟩
 ·rcases h i a WE hb with h1|⟨r,h1,h2,h3⟩
  ·exact(h1 g hg).app _
  ·have hr:=lt_of_act? h2;have LG:(t ++ #[y])[t.size]? =some y:=by rw[Array.getElem?_append_right (Nat.le_refl _)];simp
   have hh:(t ++ #[y]).heard t.size:=⟨g,by simp[Trace.g?,hy.1],by rw[deaf_old (Nat.le_refl _)];exact hd⟩
   refine⟨t.size,y,LG,hy.1,.inr ((h1.app #[y]).hb (.single (.inr ⟨.marked (a:=muA Mu) hr (.inr (by rw[act?_old hr];exact h2)) (by rw[act?_of LG,hy.2]) (fun k h4 h5=> by rw[act?_old h5];exact hn k),(heard_old hr).2 h3,hh⟩)))⟩
 ·simp at gA
  subst gA;rw[hy.2] at hx;cases hx
theorem Tok.release {g:Nat}{y:MemOp}(h:∀i a,touchAt t i=some a->lb a.loc=some C->Knows t g i)(hy:y.g=g/\y.act=.mark (.releaseMerge (muA Mu)))(hd:Deaf t g=0):Tok Mu C base N (t ++ #[y]):=by
 intro i a ha hb;have LG:(t ++ #[y])[t.size]? =some y:=by rw[Array.getElem?_append_right (Nat.le_refl _)];simp
 rcases RA ha with ⟨hi,WE⟩|⟨hi,op,gA,_,hx⟩
 ·exact .inr ⟨t.size,.inr ((h i a WE hb).hb_new (Nat.le_refl _) LG hy.1),by rw[act?_of LG,hy.2],⟨g,by simp[Trace.g?,hy.1],by rw[deaf_old (Nat.le_refl _)];exact hd⟩⟩
 ·simp at gA
  subst gA;rw[hy.2] at hx;cases hx
theorem TI.fork {x y:MemOp}(h:TI Mu Wg C base N hs H B t)(hx:x.g=0/\x.act=.go N)(hy:y.g=N/\y.act=.start)(h0:Deaf t 0=0)(hbN:base<=N)(hN:0<N){R:View}
  (hR:∀b f o,R b=some (f,o)->f=false/\∃f',H 0 b=some (f',o)) (hHN:∀b,H N b=none):TI Mu Wg C base (N+1) hs (upd (upd H 0 R) N R) B (t ++ #[x,y]):=by
 have hkN:Deaf t N=0:=Deaf_absent fun i op hi e=> by have:=h.gs i op hi;omega
 have hnt:∀op∈#[x,y],∀b,op.act.touch? =some b->False:=by
  intro op gA b hb;simp only[List.mem_toArray,List.mem_cons,List.not_mem_nil,or_false] at gA;rcases gA with rfl|rfl
  ·rw[hx.2] at hb;cases hb
  ·rw[hy.2] at hb;cases hb
 have old:∀ {i:Nat} {a:Touch},touchAt (t ++ #[x,y]) i=some a->touchAt t i=some a/\i<t.size:=by
  intro i a ha;rcases RA ha with ⟨hi,WE⟩|⟨hi,op,gA,_,I3⟩
  ·exact⟨WE,hi⟩
  ·exact(hnt op gA a I3).elim
 have oldop:∀ {i:Nat} {op:MemOp} {a:Touch},(t ++ #[x,y])[i]? =some op->op.act.touch? =some a->t[i]? =some op/\i<t.size:=by
  intro i op a gA ha;rcases getElem?_append_cases gA with ⟨hi,TD⟩|⟨hi,dD⟩
  ·exact⟨TD,hi⟩
  ·exact(hnt op dD a ha).elim
 have a0:Act base N 0:=.inl rfl;refine⟨fun said=> ?_,fun i a b ha hb=> h.bd i a b (old ha).1 hb,?_,?_,?_,?_,?_,?_,?_,fun i a ha=> h.mem i a (old ha).1⟩
 ·have e:t ++ #[x,y]=(t ++ #[x]) ++ #[y]:=by apply Array.ext';simp
  rw[e];refine noRace_append (g:=N) (noRace_append (g:=0) (h.nr said) (fun op gA=> by simp at gA;rw[gA];exact hx.1) (fun i a _ op gA b hb _=> (hnt op (by simp at gA ⊢;exact .inl gA) b hb).elim))
   (fun op gA=> by simp at gA;rw[gA];exact hy.1) (fun i a _ op gA b hb _=> (hnt op (by simp at gA ⊢;exact .inr gA) b hb).elim)
 ·intro j hj i a b f o ha hb hH hw;by_cases e:j=N
  ·subst e;rw[upd_same] at hH;obtain⟨rfl,f',h1⟩:=hR b f o hH;exact fork_knows hx hy h0 hkN (h.kn 0 a0 i a b f' o (old ha).1 hb h1 (hw.elim (fun e=> by cases e) .inr))
  ·rw[upd_ne _ R e] at hH;have ZQ:Act base N j:=hj.imp id fun⟨h1,h2⟩=> ⟨h1,oM⟩
   by_cases e0:j=0
   ·subst e0;rw[upd_same] at hH;obtain⟨rfl,f',h1⟩:=hR b f o hH;exact(h.kn 0 a0 i a b f' o (old ha).1 hb h1 (hw.elim (fun e=> by cases e) .inr)).app _
   ·rw[upd_ne _ R e0] at hH;exact(h.kn j ZQ i a b f o (old ha).1 hb hH hw).app _
 ·exact fun i op a gA ha hk iB=> (h.pl i op a (oldop gA ha).1 ha hk iB).app _
 ·intro i a b ha hk hb;obtain⟨h1,h2⟩:=h.np i a b (old ha).1 hk hb;have hRb:R b=none:=by
   cases hx:R b with
   | none=> rfl
   | some z=>
    obtain⟨_,f',h3⟩:=hR b z.1 z.2 hx;rw[h1 0] at h3;cases h3
  refine⟨fun j=> ?_,h2⟩;by_cases e:j=N
  ·subst e;rw[upd_same];exact hRb
  ·rw[upd_ne _ R e];by_cases e0:j=0
   ·subst e0;rw[upd_same];exact hRb
   ·rw[upd_ne _ R e0];exact h1 j
 ·intro i op a gA ha hk;obtain⟨h3,hi⟩:=oldop gA ha;obtain⟨h1,h2⟩:=h.eV i op a h3 ha hk;exact⟨h1,fun e e'=> by rw[heard_old hi];exact h2 e e'⟩
 ·intro j hj i a b ha hk hb xJ;by_cases e:j=N
  ·subst e;exact fork_knows hx hy h0 hkN (h.sy 0 a0 i a b (old ha).1 hk hb xJ)
  ·exact(h.sy j (hj.imp id fun⟨h1,h2⟩=> ⟨h1,oM⟩) i a b (old ha).1 hk hb xJ).app _
 ·refine fun a=> (h.rel a).app fun op gA e=> ?_;simp only[List.mem_toArray,List.mem_cons,List.not_mem_nil,or_false] at gA;rcases gA with rfl|rfl
  ·rw[hx.2] at e;cases e
  ·rw[hy.2] at e;cases e
 ·intro i op gA;rcases getElem?_append_cases gA with ⟨hi,TD⟩|⟨hi,dD⟩
  ·have:=h.gs i op TD;omega
  ·simp only[List.mem_toArray,List.mem_cons,List.not_mem_nil,or_false] at dD;rcases dD with rfl|rfl
   ·rw[hx.1];omega
   ·rw[hy.1];omega
theorem Tok.fork {x y:MemOp}(h:Tok Mu C base N t)(hgs:∀(i:Nat) op,t[i]? =some op->op.g<N)(hx:x.g=0/\x.act=.go N)(hy:y.g=N/\y.act=.start)(h0:Deaf t 0=0):Tok Mu C base (N+1) (t ++ #[x,y]):=by
 have hkN:Deaf t N=0:=Deaf_absent fun i op hi e=> by have:=hgs i op hi;omega
 have hnt:∀op∈#[x,y],∀b,op.act.touch? =some b->False:=by
  intro op gA b hb;simp only[List.mem_toArray,List.mem_cons,List.not_mem_nil,or_false] at gA;rcases gA with rfl|rfl
  ·rw[hx.2] at hb;cases hb
  ·rw[hy.2] at hb;cases hb
 intro i a ha hb;rcases RA ha with ⟨hi,WE⟩|⟨hi,op,gA,_,I3⟩
 ·rcases h i a WE hb with h1|⟨r,h1,h2,h3⟩
  ·refine .inl fun g hg=> ?_;by_cases e:g=N
   ·subst e;exact fork_knows hx hy h0 hkN (h1 0 (.inl rfl))
   ·exact(h1 g (hg.imp id fun⟨h1,h2⟩=> ⟨h1,oM⟩)).app _
  ·have hr:=lt_of_act? h2;exact .inr ⟨r,h1.app _,by rw[act?_old hr];exact h2,(heard_old hr).2 h3⟩
 ·exact(hnt op gA a I3).elim
theorem TI.join {y:MemOp}(h:TI Mu Wg C base N hs H B t)(hy:y.g=0/\y.act=.mark (.acquire (stA Wg)))(hd:Deaf t 0=0)(aC4:∀g,base<=g->g<N->∃r,RelBy (stA Wg) t g r):
  ∀i a,touchAt (t ++ #[y]) i=some a->a.kind=.plain->Knows (t ++ #[y]) 0 i:=by
 intro i a ha hk;rcases RA ha with ⟨hi,WE⟩|⟨hi,op,gA,_,hx⟩
 ·obtain⟨x,hx,Z7⟩:=touch_of WE;rcases Nat.lt_or_ge x.g base with iB|PU
  ·exact(h.pl i x a hx Z7 hk iB).app _
  ·obtain⟨r,hr⟩:=aC4 x.g PU (h.gs i x hx);have hrl:=lt_of_act? hr.act;have hc:t.counts i:=by
    refine⟨a,WE,?_,.inl (by rw[hk];simp)⟩;obtain⟨b,hb⟩:=h.mem i a WE;exact y8 hb
   have hle:i<=r:=Nat.le_of_not_lt fun iB=> hr.after i iB (by simp[Trace.g?,hx]) hc;have LG:(t ++ #[y])[t.size]? =some y:=by rw[Array.getElem?_append_right (Nat.le_refl _)];simp
   have hh:(t ++ #[y]).heard t.size:=⟨0,by simp[Trace.g?,hy.1],by rw[deaf_old (Nat.le_refl _)];exact hd⟩
   have edge:HappensBefore (t ++ #[y]) r t.size:=.single (.inr ⟨.marked (a:=stA Wg) hrl (.inr (by rw[act?_old hrl];exact hr.act)) (by rw[act?_of LG,hy.2]) (fun k h4 h5=> by rw[act?_old h5];exact h.rel _ k),(heard_old hrl).2 hr.heard,hh⟩);have YS:Before (t ++ #[y]) i r:=by
    rcases Nat.lt_or_ge i r with h1|h1
    ·obtain⟨z,hz,hzg⟩:=Option.map_eq_some_iff.1 hr.g;exact .inr (hb_po h1 (by rw[getElem?_append_old hi];exact hx) (by rw[getElem?_append_old hrl];exact hz) hzg.symm)
    ·exact .inl oM
   exact⟨t.size,y,LG,hy.1,.inr (YS.hb edge)⟩
 ·simp at gA
  subst gA;rw[hy.2] at hx;cases hx
end
end Go.RL
