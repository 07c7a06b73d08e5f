/-
 Texts of the proofs over baudot/dial.
-/
import Derived.Test.YtcagolloalgfiaaGreatDoorW01
import Derived.Orders
import Derived.Test.YtcagolloalgfiaaGreatDoorChecked
import Derived.KernelRfl
import Derived.Conc.CrowdBase
import Derived.Conc.MuSpec
import Derived.Conc.QuitsD
import Derived.Conc.HoldsTime
import Derived.Conc.MarkLaws
import Derived.Conc.AtomicLaws2
import Derived.Conc.ClockLaws
import Derived.Conc.Beside
import Derived.Conc.DeferLaws
import Derived.Conc.Own2
import Derived.Laws.Strings
namespace Go.RL
open Go.Conc
section
variable {P:Program}{M:Md P}{md:Region.Mode}{ops:Array Oper}{S:Array Bool->View->Prop}{Fin:Array Value->View->Prop}
def OneT(M:Md P)(ops:Array Oper)(o:Oper)(tmps:Array Value)(H:View)(K:Array Value->View->Prop):Prop:=
 isDefer o.op=false/\(if Region.wanted o (yielded ops tmps) then OpRun M o tmps H K else K (putT tmps o.dst undef) H)
def AnyT(M:Md P)(md:Region.Mode)(ops:Array Oper)(S:Array Bool->View->Prop)(Fin:Array Value->View->Prop):Nat->Array Bool->Array Value->View->Prop
 | 0,listed,tmps,H=> ∀H₂,H.le H₂->S listed H₂->Region.ready md ops listed= []/\Fin tmps H₂
 | fuel+1,listed,tmps,H=> ∀H₂,H.le H₂->S listed H₂-> 
  (Region.ready md ops listed= []->Fin tmps H₂)/\
  ∀i∈Region.ready md ops listed,∀o,ops[i]? =some o->OneT M ops o tmps H₂ fun tmps' H'=> S (listed.setIfInBounds i true) H'/\AnyT M md ops S Fin fuel (listed.setIfInBounds i true) tmps' H'
theorem AnyT.mono {fuel:Nat}{listed:Array Bool}{tmps:Array Value}{H H':View}(h:AnyT M md ops S Fin fuel listed tmps H)(k:H.le H'):AnyT M md ops S Fin fuel listed tmps H':=by
 cases fuel with
 | zero=> exact fun H₂ h2 hS=> h H₂ (View.le_trans k h2) hS
 | succ fuel=> exact fun H₂ h2 hS=> h H₂ (View.le_trans k h2) hS
theorem OneT.sound {St:View->Goroutine->Prop}{b:FB}{ds:List Deferred}{k:List Item}{cs:List Frame}{i:Nat}{rest:List Nat}{o:Oper}{tmps:Array Value}{H:View}(ho:ops[i]? =some o)
  (h:OneT M ops o tmps H fun t H'=> T M St H' (G (b.at t ds (.inRegion ops rest::k)) cs)):T M St H (G (b.at tmps ds (.inRegion ops (i::rest)::k)) cs):=by
 obtain⟨hd,h⟩:=h;split at h
 ·rename_i hw
  exact h.sound ho hw hd
 ·rename_i hw
  exact .op_skipped ho (by simpa using hw) h
theorem OneT.mono {o:Oper}{tmps:Array Value}{H:View}{K K':Array Value->View->Prop}(h:OneT M ops o tmps H K)(hk:∀t H',K t H'->K' t H'):OneT M ops o tmps H K':=by
 obtain⟨hd,h⟩:=h;refine⟨hd,?_⟩;split
 ·rename_i hw
  rw[if_pos hw] at h;exact h.mono hk
 ·rename_i hw
  rw[if_neg hw] at h;exact hk _ _ h
theorem AnyT.sound {St:View->Goroutine->Prop}{b:FB}{ds:List Deferred}{k:List Item}{cs:List Frame}:∀(fuel t:Nat) (listed:Array Bool) (tmps:Array Value) (H:View),S listed H-> 
  AnyT M md ops S (fun tmps H=> T M St H (G (b.at tmps ds k) cs)) fuel listed tmps H->T M St H (G (b.at tmps ds (.inRegion ops (Region.linearise.go md ops fuel t listed [])::k)) cs):=by
 intro fuel;induction fuel with
 | zero=>
  intro t listed tmps H hS h;simp only[Region.linearise.go];exact .region_end (h H (View.le_refl H) hS).2
 | succ fuel ih=>
  intro t listed tmps H hS h;have h:=h H (View.le_refl H) hS;have e:Region.linearise.go md ops (fuel+1) t listed []=match (Region.ready md ops listed)[t%(Region.ready md ops listed).length]? with
    | some i=> i::Region.linearise.go md ops fuel (t/(Region.ready md ops listed).length) (listed.setIfInBounds i true) []
    | none=> []:=by
   rw[Region.linearise.go];show(match (Region.ready md ops listed)[t%(Region.ready md ops listed).length]? with
    | some i=> Region.linearise.go md ops fuel (t/(Region.ready md ops listed).length) (listed.setIfInBounds i true) [i]
    | none=> List.reverse [])=_
   split
   ·rename_i i _
    rw[linearise_go_acc];rfl
   ·rfl
  rw[e];split
  ·rename_i i hi
   have hmem:=List.mem_of_getElem? hi;obtain⟨_,o,ho,_⟩:=mem_ready.1 hmem;exact OneT.sound ho ((h.2 i hmem o ho).mono fun t' H' hk=> ih _ _ _ _ hk.1 hk.2)
  ·rename_i hi
   have hnil:Region.ready md ops listed= []:=by
    cases hr:Region.ready md ops listed with
    | nil=> rfl
    | cons a l=>
     rw[hr] at hi;have:t%(a::l).length<(a::l).length:=Nat.mod_lt _ (by simp);rw[List.getElem?_eq_getElem this] at hi;cases hi
   exact .region_end (h.1 hnil)
def OpVal(M:Md P)(o:Oper)(tmps:Array Value)(H:View)(K:Value->View->Prop):Prop:=
 vwp P (execOp (evT tmps) o) H fun nx H'=>
  match nx with
  | .value v=> K v H'
  | .skip=> K undef H'
  | .enter f args=> CallT M f args H' K
  | .round l f tmps' assign body=> GoT M (Frame.round l f tmps' assign body .normal) H' K
  | _=> False
theorem OpVal.run {o:Oper}{tmps:Array Value}{H:View}{K:Value->View->Prop}{K':Array Value->View->Prop}(h:OpVal M o tmps H K)(hk:∀v H',K v H'->K' (putT tmps o.dst v) H'):OpRun M o tmps H K':=
 vwp_mono _ (fun nx H' hn=> by
  cases nx <;> first|exact hn.elim|skip
  ·exact hk _ _ hn
  ·exact hk _ _ hn
  ·exact CallT.mono hn hk
  ·exact GoT.mono hn hk) h
def closedL(md:Region.Mode)(ops:Array Oper)(listed:Array Bool):Bool:=
 ops.toList.zipIdx.all fun x=> !(listed.getD x.2 true)||x.1.after.all fun e=> !(Region.binds md e)||listed.getD e.on false
theorem closedL_spec {listed:Array Bool}(h:closedL md ops listed=true){j:Nat}{o:Oper}(hj:ops[j]? =some o)(hl:listed.getD j true=true){e:Edge}(he:e∈o.after)(hb:Region.binds md e=true):listed.getD e.on false=true:=by
 unfold closedL at h;rw[List.all_eq_true] at h;have hm:(o,j)∈ops.toList.zipIdx:=by
  rw[List.mem_zipIdx_iff_getElem?];simpa using hj
 have:=h _ hm;simp only[hl,Bool.not_true,Bool.false_or,Array.all_eq_true_iff_forall_mem] at this;have:=this e he;simpa [hb] using this
theorem closedL_ready {listed:Array Bool}{i:Nat}(h:closedL md ops listed=true)(hr:i∈Region.ready md ops listed):closedL md ops (listed.setIfInBounds i true)=true:=by
 unfold closedL;rw[List.all_eq_true];rintro⟨o,j⟩ hm;rw[List.mem_zipIdx_iff_getElem?] at hm;have hj:ops[j]? =some o:=by simpa using hm
 have hup:∀k,listed.getD k false=true->(listed.setIfInBounds i true).getD k false=true:=by
  intro k hk;by_cases e:i=k
  ·subst e;rcases Nat.lt_or_ge i listed.size with h'|h'
   ·simp[h']
   ·simp[Array.getElem?_eq_none h'] at hk
  ·simp only[Array.getD_eq_getD_getElem?,Array.getElem?_setIfInBounds_ne e] at hk ⊢;exact hk
 cases hl:(listed.setIfInBounds i true).getD j true with
 | false=> rfl
 | true=>
  simp only[Bool.not_true,Bool.false_or,Array.all_eq_true_iff_forall_mem];intro e he;cases hb:Region.binds md e with
  | false=> rfl
  | true=>
   simp only[Bool.not_true,Bool.false_or];refine hup _ ?_;by_cases hji:i=j
   ·subst hji;obtain⟨_,o',ho',hall⟩:=mem_ready.1 hr;rw[hj] at ho';cases ho'
    exact hall e he hb
   ·rw[getD_set_ne true hji] at hl;exact closedL_spec h hj hl he hb
def YieldsT(M:Md P)(md:Region.Mode)(ops:Array Oper)(S:Array Bool->View->Prop)(i:Nat)(o:Oper)(v:Value)(tmps:Array Value):Prop:=
 (Region.wanted o (yielded ops tmps)=true/\∀listed,closedL md ops listed=true->listed.getD i true=false->∀H,S listed H->OpVal M o tmps H fun u H'=> u=v/\H.le H'/\S listed H')\/ 
 (Region.wanted o (yielded ops tmps)=false/\v=undef)
theorem evT_act(tmps:Array Value):evT tmps=(⟨tmps,[]⟩:Act).eval:=by funext x;cases x <;> rfl
theorem putT_act(tmps:Array Value)(d:Option Tmp)(v:Value):putT tmps d v=((⟨tmps,[]⟩:Act).put d v).tmps:=by cases d <;> rfl
theorem put_act(tmps:Array Value)(d:Option Tmp)(v:Value):(⟨putT tmps d v,[]⟩:Act)=(⟨tmps,[]⟩:Act).put d v:=by cases d <;> rfl
theorem exec_putT(o:Oper)(hs:∀cs b,o.op≠ .select cs b)(tmps:Array Value)(dst:Option Tmp)(v:Value)(h:∀d,dst=some d->d ∉ o.looksAt ops):execOp (evT (putT tmps dst v)) o=execOp (evT tmps) o:=by
 rw[evT_act,evT_act,put_act];exact execOp_put o hs _ dst v h
theorem wanted_putT(o:Oper)(tmps:Array Value)(dst:Option Tmp)(v:Value)(h:∀d,dst=some d->d ∉ o.looksAt ops):Region.wanted o (yielded ops (putT tmps dst v))=Region.wanted o (yielded ops tmps):=by
 rw[putT_act];exact wanted_put o ⟨tmps,[]⟩ dst v h
theorem putT_comm(tmps:Array Value){x y:Option Tmp}(v u:Value)(h:∀d,x=some d->y≠some d):putT (putT tmps x v) y u=putT (putT tmps y u) x v:=by
 have:=congrArg Act.tmps (Act.put_comm ⟨tmps,[]⟩ v u h);rw[<-put_act,<-put_act,<-put_act,<-put_act] at this;exact this
theorem YieldsT.put {i:Nat}{o o':Oper}{v u:Value}{tmps:Array Value}(h:YieldsT M md ops S i o v tmps)(hs:∀cs b,o.op≠ .select cs b)(ha:∀d,o'.dst=some d->d ∉ o.looksAt ops):YieldsT M md ops S i o v (putT tmps o'.dst u):=by
 unfold YieldsT OpVal at *;rw[exec_putT o hs tmps o'.dst u ha,wanted_putT o tmps o'.dst u ha];exact h
theorem OneT.back {oi oj:Oper}{v:Value}{tmps:Array Value}{H:View}{K:Array Value->View->Prop}(hap:oi.apart ops oj=true)(hsj:∀cs b,oj.op≠ .select cs b)(h:OneT M ops oj (putT tmps oi.dst v) H K):
  OneT M ops oj tmps H fun t H'=> (∃u,t=putT tmps oj.dst u)/\K (putT t oi.dst v) H':=by
 obtain⟨h1,h2,_⟩:=Oper.apart_spec hap;obtain⟨hd,h⟩:=h;refine⟨hd,?_⟩;rw[wanted_putT oj tmps oi.dst v h1] at h;split
 ·rename_i hw
  rw[if_pos hw] at h;unfold OpRun at *;rw[exec_putT oj hsj tmps oi.dst v h1] at h;refine vwp_mono _ (fun nx H' hn=> ?_) h;cases nx <;> first
   | exact hn.elim
   | exact⟨⟨_,rfl⟩,by rw[<-putT_comm tmps v _ h2];exact hn⟩
   | exact CallT.mono hn fun u H'' hk=> ⟨⟨_,rfl⟩,by rw[<-putT_comm tmps v _ h2];exact hk⟩
   | exact GoT.mono hn fun u H'' hk=> ⟨⟨_,rfl⟩,by rw[<-putT_comm tmps v _ h2];exact hk⟩
 ·rename_i hw
  rw[if_neg hw] at h;exact⟨⟨_,rfl⟩,by rw[<-putT_comm tmps v _ h2];exact h⟩
theorem AnyT.first {i:Nat}{oi:Oper}{v:Value}(hi:ops[i]? =some oi)(hsel:∀(j:Nat) (o:Oper) cs b,ops[j]? =some o->o.op≠ .select cs b)(hdi:isDefer oi.op=false)(hSi:∀listed H,S (listed.setIfInBounds i true) H<->S listed H):
  ∀ (fuel:Nat) (listed:Array Bool) (tmps:Array Value) (H:View),
   (∀j oj,ops[j]? =some oj->j≠i->listed.getD j true=false->(∀e∈oj.after,Region.binds md e=true->e.on≠i)->oi.apart ops oj=true)-> 
   closedL md ops listed=true->i∈Region.ready md ops listed->YieldsT M md ops S i oi v tmps-> 
   AnyT M md ops S Fin fuel (listed.setIfInBounds i true) (putT tmps oi.dst v) H->AnyT M md ops S Fin (fuel+1) listed tmps H:=by
 have own:∀(fuel:Nat) (listed:Array Bool) (tmps:Array Value) (H:View),closedL md ops listed=true->i∈Region.ready md ops listed->YieldsT M md ops S i oi v tmps->S listed H->AnyT M md ops S Fin fuel (listed.setIfInBounds i true) (putT tmps oi.dst v) H-> 
   OneT M ops oi tmps H fun t H'=> S (listed.setIfInBounds i true) H'/\AnyT M md ops S Fin fuel (listed.setIfInBounds i true) t H':=by
  intro fuel listed tmps H hcl hrd hy hS h;refine⟨hdi,?_⟩;rcases hy with ⟨hw,hv⟩|⟨hw,rfl⟩
  ·rw[if_pos hw];refine(hv listed hcl (mem_ready.1 hrd).1 H hS).run ?_;rintro u H' ⟨rfl,hle,hS'⟩;exact⟨(hSi listed H').2 hS',h.mono hle⟩
  ·rw[if_neg (by simp[hw])];exact⟨(hSi listed H).2 hS,h⟩
 intro fuel;induction fuel with
 | zero=>
  intro listed tmps H _ hcl hr hy h H₂ h2 hS;refine⟨fun e=> (by rw[e] at hr;cases hr),fun j hj o ho=> ?_⟩;by_cases hji:j=i
  ·subst hji;rw[hi] at ho;cases ho
   exact own 0 listed tmps H₂ hcl hr hy hS (h.mono h2)
  ·have:=ready_mono hj hji;rw[(h H₂ h2 ((hSi listed H₂).2 hS)).1] at this;cases this
 | succ fuel ih=>
  intro listed tmps H hfree hcl hr hy h H₂ h2 hS;refine⟨fun e=> (by rw[e] at hr;cases hr),fun j hj oj hoj=> ?_⟩;by_cases hji:j=i
  ·subst hji;rw[hi] at hoj;cases hoj
   exact own (fuel+1) listed tmps H₂ hcl hr hy hS (h.mono h2)
  ·have h1:=(h H₂ h2 ((hSi listed H₂).2 hS)).2 j (ready_mono hj hji) oj hoj;have hcl':=closedL_ready hcl hj;obtain⟨hjun,oj',hoj',hall⟩:=mem_ready.1 hj;rw[hoj] at hoj';cases hoj'
   have hnot:∀e∈oj.after,Region.binds md e=true->e.on≠i:=fun e he hb heq=> by
    have h1:=hall e he hb;have h0:=(mem_ready.1 hr).1;rw[heq] at h1;rcases Nat.lt_or_ge i listed.size with h'|h'
    ·simp[h'] at h0 h1;rw[h0] at h1;cases h1
    ·simp[Array.getElem?_eq_none h'] at h1
   have hap:=hfree j oj hoj hji hjun hnot;have hfree':∀k ok,ops[k]? =some ok->k≠i->(listed.setIfInBounds j true).getD k true=false-> 
     (∀e∈ok.after,Region.binds md e=true->e.on≠i)->oi.apart ops ok=true:=fun k ok hk hki hun hno=> by
    refine hfree k ok hk hki ?_ hno;by_cases hjk:j=k
    ·subst hjk;exact hjun
    ·rw[getD_set_ne true hjk] at hun;exact hun
   refine(h1.back hap (fun cs b=> hsel j oj cs b hoj)).mono ?_;rintro t H' ⟨⟨u,rfl⟩,hS',h3⟩;rw[Array.setIfInBounds_comm _ _ (Ne.symm hji)] at hS';refine⟨(hSi _ H').1 hS',ih (listed.setIfInBounds j true) _ H' hfree' hcl' (ready_mono hr (Ne.symm hji)) (hy.put (fun cs b=> hsel i oi cs b hi) (Oper.apart_spec hap).2.2) ?_⟩;rw[Array.setIfInBounds_comm _ _ hji];exact h3
end
section
variable {P:Program}{M:Md P}{St:View->Goroutine->Prop}{n:Nat}{b:FB}{H₀:View}{cs:List Frame}{R:Rg}{L L':Bl}{ds:List Deferred}{k:List Item}{S:Array Bool->View->Prop}{md:Region.Mode}{ops:Array Oper}
def Ta(M:Md P)(St:View->Goroutine->Prop)(n:Nat)(b:FB)(H₀:View)(cs:List Frame)(S:Array Bool->View->Prop)(md:Region.Mode)(ops:Array Oper)(fuel:Nat)(listed:Array Bool)(R:Rg)(L:Bl)(ds:List Deferred)(k:List Item):Prop:=
 ∀H tmps,SymSt H₀ L H->RegOk n R tmps->S listed H->AnyT M md ops S (fun tmps H=> T M St H (G (b.at tmps ds k) cs)) fuel listed tmps H
theorem Ta.done {fuel:Nat}{listed:Array Bool}(hr:Region.ready md ops listed= [])(h:Tc M St n b H₀ cs R L ds k):Ta M St n b H₀ cs S md ops fuel listed R L ds k:=fun H tmps hs hr' _=> by
 cases fuel with
 | zero=> exact fun H₂ h2 _=> ⟨hr,h H₂ tmps (hs.mono h2) hr'⟩
 | succ f=> exact fun H₂ h2 _=> ⟨fun _=> h H₂ tmps (hs.mono h2) hr',fun i hi=> by rw[hr] at hi;cases hi⟩
theorem Ta.take(i:Nat){o:Oper}{d:Nat}{v:Value}{fuel:Nat}{listed:Array Bool}(hi:ops[i]? =some o)(hsel:Region.noSelect ops=true)(hr:(Region.ready md ops listed).contains i=true)(hf:Region.free md ops listed i=true)
  (hd:o.dst=some d) (hn:d<n) (hnd:isDefer o.op=false) (hcl:closedL md ops listed=true) (hSi:∀listed H,S (listed.setIfInBounds i true) H<->S listed H) (hw:wantB (ops.toList.map (fun o:Oper=> o.dst)) R o=some true)
  (hv:∀listed,closedL md ops listed=true->listed.getD i true=false->∀H tmps,S listed H->RegOk n R tmps->OpVal M o tmps H fun u H'=> u=v/\H.le H'/\S listed H')
  (h:Ta M St n b H₀ cs S md ops fuel (listed.setIfInBounds i true) ((d,v)::R) L ds k):Ta M St n b H₀ cs S md ops (fuel+1) listed R L ds k:=fun H tmps hs hr' hS=> by
 refine AnyT.first hi (Region.noSelect_spec hsel) hnd hSi fuel listed tmps H (fun j oj hj hne hun hno=> Region.free_spec hi hf j oj hj hne hun hno) hcl (by simpa using hr) (.inl ⟨wantB_ok (fun j=> ?_) hr' hw,fun l hcl hu H hSH=> hv l hcl hu H tmps hSH hr'⟩) ?_
 ·simp only[List.getElem?_map,Array.getElem?_toList];cases ops[j]? <;> rfl
 ·rw[hd];exact h H _ hs (hr'.put hn v) ((hSi _ H).2 hS)
theorem Ta.pass(i:Nat){o:Oper}{d:Nat}{fuel:Nat}{listed:Array Bool}(hi:ops[i]? =some o)(hsel:Region.noSelect ops=true)(hr:(Region.ready md ops listed).contains i=true)(hf:Region.free md ops listed i=true)
  (hd:o.dst=some d) (hn:d<n) (hnd:isDefer o.op=false) (hcl:closedL md ops listed=true) (hSi:∀listed H,S (listed.setIfInBounds i true) H<->S listed H) (hw:wantB (ops.toList.map (fun o:Oper=> o.dst)) R o=some false)
  (h:Ta M St n b H₀ cs S md ops fuel (listed.setIfInBounds i true) ((d,undef)::R) L ds k):Ta M St n b H₀ cs S md ops (fuel+1) listed R L ds k:=fun H tmps hs hr' hS=> by
 refine AnyT.first hi (Region.noSelect_spec hsel) hnd hSi fuel listed tmps H (fun j oj hj hne hun hno=> Region.free_spec hi hf j oj hj hne hun hno) hcl (by simpa using hr) (.inr ⟨wantB_ok (fun j=> ?_) hr' hw,rfl⟩) ?_
 ·simp only[List.getElem?_map,Array.getElem?_toList];cases ops[j]? <;> rfl
 ·rw[hd];exact h H _ hs (hr'.put hn undef) ((hSi _ H).2 hS)
def TaOp(M:Md P)(St:View->Goroutine->Prop)(n:Nat)(b:FB)(H₀:View)(cs:List Frame)(S:Array Bool->View->Prop)(md:Region.Mode)(ops:Array Oper)(fuel:Nat)(listed:Array Bool)(R:Rg)(L:Bl)(ds:List Deferred)(k:List Item)(i:Nat):Prop:=
 ∃ o,ops[i]? =some o/\isDefer o.op=false/\wantB (ops.toList.map (fun o:Oper=> o.dst)) R o=some true/\
  Or M n H₀ R L o fun R' L'=> (∀H,SymSt H₀ L' H->S (listed.setIfInBounds i true) H)/\Ta M St n b H₀ cs S md ops fuel (listed.setIfInBounds i true) R' L' ds k
theorem TaOp.mk {fuel:Nat}{listed:Array Bool}{i:Nat}{o:Oper}(ho:ops[i]? =some o)(hd:isDefer o.op=false)(hw:wantB (ops.toList.map (fun o:Oper=> o.dst)) R o=some true)
 (h:Or M n H₀ R L o fun R' L'=> (∀H,SymSt H₀ L' H->S (listed.setIfInBounds i true) H)/\Ta M St n b H₀ cs S md ops fuel (listed.setIfInBounds i true) R' L' ds k):TaOp M St n b H₀ cs S md ops fuel listed R L ds k i:=⟨o,ho,hd,hw,h⟩
theorem Ta.all {fuel:Nat}{listed:Array Bool}{rs:List Nat}(hr:Region.ready md ops listed=rs)(hne:rs.isEmpty=false)(h:∀i∈rs,TaOp M St n b H₀ cs S md ops fuel listed R L ds k i):
  Ta M St n b H₀ cs S md ops (fuel+1) listed R L ds k:=fun H tmps hs hr' _ H₂ h2 hS=> by
 have hs:=hs.mono h2;refine⟨fun e=> ?_,fun i hi o ho=> ?_⟩
 ·rw[hr] at e;rw[e] at hne;cases hne
 ·rw[hr] at hi;obtain⟨o',ho',hd,hw,h'⟩:=h i hi;rw[ho] at ho';cases ho'
  refine⟨hd,?_⟩;have hw':Region.wanted o (yielded ops tmps)=true:=wantB_ok (fun j=> by
   simp only[List.getElem?_map,Array.getElem?_toList];cases ops[j]? <;> rfl) hr' hw
  rw[if_pos hw'];refine(h' H₂ tmps hs hr').mono ?_;rintro t H' ⟨R',L',h1,h2,h3,h4⟩;exact⟨h3 H' h2,h4 H' t h2 h1 (h3 H' h2)⟩
def S2(H₀:View)(B:List Nat)(Ls L:Bl):Array Bool->View->Prop:=fun listed H=>
 SymSt H₀ Ls H/\((B.all fun j=> !(listed.getD j true))=true->SymSt H₀ L H)
theorem S2.same {B:List Nat}{Ls:Bl}{i:Nat}(hi:B.contains i=false):∀listed H,S2 H₀ B Ls L (listed.setIfInBounds i true) H<->S2 H₀ B Ls L listed H:=fun listed H=> by
 have:(B.all fun j=> !((listed.setIfInBounds i true).getD j true))=B.all fun j=> !(listed.getD j true):=by
  rw[Bool.eq_iff_iff,List.all_eq_true,List.all_eq_true];refine forall_congr' fun j=> forall_congr' fun hj=> ?_;have hne:i≠j:=by
   rintro rfl;have:B.contains i=true:=by simpa using hj
   rw[hi] at this;cases this
  rw[getD_set_ne true hne]
 unfold S2;rw[this]
def waits(md:Region.Mode)(ops:Array Oper)(i j:Nat):Bool:=
 match ops[j]? with
 | some o=> o.after.any fun e=> Region.binds md e&&e.on==i
 | none=> false
theorem S2.strong {B:List Nat}{Ls:Bl}{i:Nat}{listed:Array Bool}{H:View}(h:S2 H₀ B Ls L listed H)(hc:closedL md ops listed=true)(hu:listed.getD i true=false)(hB:(B.all fun j=> waits md ops i j)=true):SymSt H₀ L H:=by
 refine h.2 ?_;rw[List.all_eq_true] at hB ⊢;intro j hj;have:=hB j hj;unfold waits at this;cases hl:listed.getD j true with
 | false=> rfl
 | true=>
  split at this
  ·rename_i o ho
   rw[Array.any_eq_true'] at this;obtain⟨e,he,hb⟩:=this;simp only[Bool.and_eq_true,beq_iff_eq] at hb;have h1:=closedL_spec hc ho hl he hb.1;rw[hb.2] at h1;rcases Nat.lt_or_ge i listed.size with h'|h'
   ·simp[h'] at h1 hu
    rw[hu] at h1;cases h1
   ·simp[Array.getElem?_eq_none h'] at hu
  ·cases this
def takeOk(md:Region.Mode)(ops:Array Oper)(B:List Nat)(listed:Array Bool)(i:Nat):Bool:=
 Region.noSelect ops&&(Region.ready md ops listed).contains i&&Region.free md ops listed i&&closedL md ops listed && !(B.contains i)&&B.all fun j=> waits md ops i j
theorem Ta.tk {H₁:View}(i:Nat){B:List Nat}{Ls L₁:Bl}{o:Oper}{d:Nat}{v:Value}{fuel:Nat}{listed:Array Bool}(hc:takeOk md ops B listed i=true)(hi:ops[i]? =some o)(hd:o.dst=some d)(hn:d<n)(hnd:isDefer o.op=false)(hw:wantB (ops.toList.map (fun o:Oper=> o.dst)) R o=some true)
  (hv:∀H tmps,SymSt H₀ L H->RegOk n R tmps->OpVal M o tmps H fun u H'=> u=v/\H.le H')
  (h:Ta M St n b H₁ cs (S2 H₀ B Ls L) md ops fuel (listed.setIfInBounds i true) ((d,v)::R) L₁ ds k):Ta M St n b H₁ cs (S2 H₀ B Ls L) md ops (fuel+1) listed R L₁ ds k:=by
 simp only[takeOk,Bool.and_eq_true,Bool.not_eq_true'] at hc;obtain⟨⟨⟨⟨⟨hsel,hr⟩,hf⟩,hcl⟩,hSi⟩,hB⟩:=hc;exact .take i hi hsel hr hf hd hn hnd hcl (S2.same hSi) hw (fun _ hc hu H tmps hS hr=> by
  have:=hv H tmps (hS.strong hc hu hB) hr;unfold OpVal at this ⊢;have fin:∀u H',(u=v/\H.le H')->u=v/\H.le H'/\S2 H₀ B Ls L _ H':=fun u H' ⟨h1,h2⟩=> ⟨h1,h2,hS.1.mono h2,fun hh=> (hS.2 hh).mono h2⟩
  refine vwp_mono _ (fun nx H' hn=> ?_) this;cases nx <;> first
   | exact hn.elim
   | exact fin _ _ hn
   | exact CallT.mono hn fin
   | exact GoT.mono hn fin) h
theorem Ta.tkw {H₁:View}(i:Nat){B:List Nat}{Ls L₁:Bl}{o:Oper}{d:Nat}{v:Value}{fuel:Nat}{listed:Array Bool}(hc:takeOk md ops [] listed i=true)(hSi:B.contains i=false)(hi:ops[i]? =some o)(hd:o.dst=some d)(hn:d<n)(hnd:isDefer o.op=false)(hw:wantB (ops.toList.map (fun o:Oper=> o.dst)) R o=some true)
  (hv:∀H tmps,SymSt H₀ Ls H->RegOk n R tmps->OpVal M o tmps H fun u H'=> u=v/\H.le H')
  (h:Ta M St n b H₁ cs (S2 H₀ B Ls L) md ops fuel (listed.setIfInBounds i true) ((d,v)::R) L₁ ds k):Ta M St n b H₁ cs (S2 H₀ B Ls L) md ops (fuel+1) listed R L₁ ds k:=by
 simp only[takeOk,Bool.and_eq_true,Bool.not_eq_true'] at hc;obtain⟨⟨⟨⟨⟨hsel,hr⟩,hf⟩,hcl⟩,_⟩,_⟩:=hc;exact .take i hi hsel hr hf hd hn hnd hcl (S2.same hSi) hw (fun _ _ _ H tmps hS hr=> by
  have:=hv H tmps hS.1 hr;unfold OpVal at this ⊢;have fin:∀u H',(u=v/\H.le H')->u=v/\H.le H'/\S2 H₀ B Ls L _ H':=fun u H' ⟨h1,h2⟩=> ⟨h1,h2,hS.1.mono h2,fun hh=> (hS.2 hh).mono h2⟩
  refine vwp_mono _ (fun nx H' hn=> ?_) this;cases nx <;> first
   | exact hn.elim
   | exact fin _ _ hn
   | exact CallT.mono hn fin
   | exact GoT.mono hn fin) h
theorem Ta.ps {H₁:View}(i:Nat){B:List Nat}{Ls L₁:Bl}{o:Oper}{d:Nat}{fuel:Nat}{listed:Array Bool}(hc:takeOk md ops [] listed i=true)(hSi:B.contains i=false)(hi:ops[i]? =some o)(hd:o.dst=some d)(hn:d<n)(hnd:isDefer o.op=false)(hw:wantB (ops.toList.map (fun o:Oper=> o.dst)) R o=some false)
  (h:Ta M St n b H₁ cs (S2 H₀ B Ls L) md ops fuel (listed.setIfInBounds i true) ((d,undef)::R) L₁ ds k):Ta M St n b H₁ cs (S2 H₀ B Ls L) md ops (fuel+1) listed R L₁ ds k:=by
 simp only[takeOk,Bool.and_eq_true,Bool.not_eq_true'] at hc;obtain⟨⟨⟨⟨⟨hsel,hr⟩,hf⟩,hcl⟩,_⟩,_⟩:=hc;exact .pass i hi hsel hr hf hd hn hnd hcl (S2.same hSi) hw h
def AllP(p:Nat->Prop):List Nat->Prop
 | []=> True
 | x::xs=> p x/\AllP p xs
theorem AllP.mem {p:Nat->Prop}:∀ {l:List Nat},AllP p l->∀i∈l,p i
 | [],_,i,hi=> by cases hi
 | x::xs,⟨h1,h2⟩,i,hi=> by
  rcases List.mem_cons.1 hi with rfl|hi
  ·exact h1
  ·exact h2.mem i hi
theorem Ta.each(rs:List Nat){fuel:Nat}{listed:Array Bool}(hr:Region.ready md ops listed=rs)(hne:rs.isEmpty=false)(h:AllP (TaOp M St n b H₀ cs S md ops fuel listed R L ds k) rs):
 Ta M St n b H₀ cs S md ops (fuel+1) listed R L ds k:=.all hr hne h.mem
theorem S2.mk {B:List Nat}{Ls L₁:Bl}{listed:Array Bool}(h1:Ls.Sublist L₁)(h2:(B.all fun j=> !(listed.getD j true))=false\/L.Sublist L₁):∀H,SymSt H₀ L₁ H->S2 H₀ B Ls L listed H:=fun _ hs=>
 ⟨hs.less h1,fun h=> h2.elim (fun e=> by rw[e] at h;cases h) fun e=> hs.less e⟩
def eraseL(L:Bl):List Nat->Bl
 | []=> L
 | i::is=> (eraseL L is).eraseIdx i
theorem eraseL_sub:∀(E:List Nat) (L:Bl),(eraseL L E).Sublist L
 | [],_=> List.Sublist.refl _
 | i::is,L=> ((eraseL L is).eraseIdx_sublist i).trans (eraseL_sub is L)
theorem Tc.dr {id:Nat}{fuel:Nat}(B E:List Nat)(hm:P.follows .mixedOrders=true)(hf:ops.size=fuel)(h:Ta M St n b H₀ cs (S2 H₀ B (eraseL L E) L) .any ops fuel (Array.replicate fuel false) R L ds k):
  Tc M St n b H₀ cs R L ds (.code (.region id ops true)::k):=fun H tmps hs hr=> by
 subst hf;refine .region_draw fun t=> ?_;simp only[Region.schedule,hm,Bool.true_or,if_true];have hS:=S2.mk (H₀:=H₀) (B:=B) (listed:=Array.replicate ops.size false) (eraseL_sub E L) (.inr (List.Sublist.refl L)) H hs;exact(h H tmps hs hr hS).sound _ t _ _ _ hS
theorem Tc.dropR {todo:List Item}{R':Rg}(hR:AllIn R' R)(h:Tc M St n b H₀ cs R' L ds todo):Tc M St n b H₀ cs R L ds todo:=
 fun H tmps hs hr=> h H tmps hs ⟨hr.1,fun d v hv=> hr.2 d v (hR.sub d v hv)⟩
theorem Tc.dropB {todo:List Item}{R':Rg}(h:Tc M St n b H₀ cs R' L' ds todo)(hR:AllIn R' R)(hL:L'.Sublist L):Tc M St n b H₀ cs R L ds todo:=
 fun H tmps hs hr=> h H tmps (hs.less hL) ⟨hr.1,fun d v hv=> hr.2 d v (hR.sub d v hv)⟩
theorem Or.ofT {K:Rg->Bl->Prop}{o:Oper}{d:Nat}{v:Value}(hv:∀H tmps,SymSt H₀ L H->RegOk n R tmps->OpVal M o tmps H fun u H'=> u=v/\H.le H')(hd:o.dst=some d)(hn:d<n)(hk:K ((d,v)::R) L):Or M n H₀ R L o K:=fun H tmps hs hr=>
 (hv H tmps hs hr).run (by
  rintro u H' ⟨rfl,hle⟩;refine⟨_,L,?_,hs.mono hle,hk⟩;rw[hd];exact hr.put hn _)
theorem OpV.take {o:Oper}{v:Value}(h:OpV P n H₀ R L o v):∀H tmps,SymSt H₀ L H->RegOk n R tmps->OpVal M o tmps H fun u H'=> u=v/\H.le H':=fun H tmps hs hr=>
 vwp_mono _ (by
  rintro nx H' ⟨rfl,rfl⟩;exact⟨rfl,View.le_refl _⟩) (h H tmps hs hr)
theorem OpV.takeCall {o:Oper}{v:Value}{cl:Go.Call}{x:Operand}{fv:Value}{az:List Value}(hop:o.op=.call cl)(hcl:cl.callee=.value x)(hx:evR R x=some fv)(has:evRs R cl.args.toList=some az)
  (hc:∀H,SymSt H₀ L H->FnT M fv az H fun u H'=> H.le H'/\u=v):∀H tmps,SymSt H₀ L H->RegOk n R tmps->OpVal M o tmps H fun u H'=> u=v/\H.le H':=fun H tmps hs hr=> by
 have e1:=hr.ev hx;have hmap:cl.args.map (evT tmps)=az.toArray:=by
  apply Array.ext'
  simpa using hr.evs has
 have hex:execOp (evT tmps) o=(Deferred.ofValue fv az.toArray).bind fun d=> invoke d.target d.args:=by
  have h1:execOp (evT tmps) o=(resolve (evT tmps) cl o.type).bind fun d=> invoke d.target d.args:=by unfold execOp;rw[hop];rfl
  rw[h1];unfold resolve;rw[hcl];simp only[e1,hmap]
 unfold OpVal;rw[hex];have fin:∀u H',(H.le H'/\u=v)->u=v/\H.le H':=fun u H' ⟨h1,h2⟩=> ⟨h2,h1⟩
 refine vwp_mono _ (fun nx H' hn=> ?_) (hc H hs);cases nx <;> first
  | exact hn.elim
  | exact CallT.mono hn fin
  | exact GoT.mono hn fin
end
theorem plus_put {H F:View}{b:Nat}{x:Bool×Obj}:(H.put b x).plus F=(H.plus F).put b x:=by
 funext c
 unfold View.plus View.put;split
 ·rename_i y hy
  split at hy
  ·rename_i e
   rw[if_pos e];exact hy.symm
  ·rename_i e
   rw[if_neg e];exact(plus_left hy).symm
 ·rename_i hy
  split at hy
  ·cases hy
  ·rename_i e
   rw[if_neg e];exact(plus_right hy).symm
theorem Dj.put {H F:View}{b:Nat}{x:Bool×Obj}(h:Dj H F)(hb:F b=none):Dj (H.put b x) F:=by
 intro c y hc;rw[View.put_other]
 ·exact h c y hc
 ·intro e;rw[e,hb] at hc;cases hc
theorem Dj.none {H F:View}{b:Nat}{x:Bool×Obj}(h:Dj H F)(hb:H b=some x):F b=none:=by
 cases hf:F b with
 | none=> rfl
 | some y=> rw[h b y hf] at hb;cases hb
theorem plus_none {H F:View}{b:Nat}(h:H.plus F b=none):H b=none/\F b=none:=by
 unfold View.plus at h;split at h
 ·cases h
 ·exact⟨by assumption,h⟩
theorem vwp_frame {α:Type}{P:Program}(s:Sem α){Q:α->View->Prop}{F:View}:∀ {H:View},Dj H F->vwp P s H Q->vwp P s (H.plus F) fun a H''=> ∃H',H''=H'.plus F/\Dj H' F/\Q a H':=by
 induction s with
 | pure a=> exact fun hd h=> ⟨_,rfl,hd,h⟩
 | load m a c ih=> exact fun hd ⟨h1,h2,f,x,e,fz,v,h3,h4,h5⟩=> ⟨h1,h2,f,x,e,fz,v,plus_left h3,h4,ih v hd h5⟩
 | store m a v c ih=>
  intro H hd ⟨h1,h2,h3,h4,x,e,fz,h5,h6,h7,h8⟩;refine⟨h1,h2,h3,h4,x,e,fz,plus_left h5,h6,h7,?_⟩;rw[<-plus_put];exact ih (hd.put (hd.none h5)) h8
 | new o c ih=>
  intro H hd h b hb;obtain⟨h1,h2⟩:=plus_none hb;rw[<-plus_put];exact ih b (hd.put h2) (h b h1)
 | shape r c ih=> exact fun hd ⟨f,x,e,fz,h1,h2⟩=> ⟨f,x,e,fz,plus_left h1,ih _ hd h2⟩
 | freeze a n c ih=>
  intro H hd ⟨h1,x,e,fz,h2,h3⟩;refine⟨h1,x,e,fz,plus_left h2,?_⟩;rw[<-plus_put];exact ih (hd.put (hd.none h2)) h3
 | frozen a c ih=> exact fun hd ⟨f,x,e,fz,h1,h2⟩=> ⟨f,x,e,fz,plus_left h1,ih _ hd h2⟩
 | getObj r c ih=> exact fun hd ⟨f,o,h1,h2,h3,h4⟩=> ⟨f,o,plus_left h1,h2,h3,ih _ hd h4⟩
 | setObj r o c ih=>
  intro H hd ⟨⟨o₀,h1,h2⟩,h3,h4⟩;refine⟨⟨o₀,plus_left h1,h2⟩,h3,?_⟩;rw[<-plus_put];exact ih (hd.put (hd.none h1)) h4
 | choose q c ih=> exact fun hd h t=> ih _ hd (h t)
 | sys c k ih=> exact fun _ h=> h.elim
 | program c ih=> exact fun hd h=> ih _ hd h
 | mark m c ih=> exact fun hd ⟨h1,h2⟩=> ⟨h1,ih hd h2⟩
 | halt h=> exact fun _ h=> h.elim
section
variable {P:Program}{E:Env P}{M:Md P}{St:View->Goroutine->Prop}{n:Nat}{b:FB}{H₀:View}{cs:List Frame}{R R':Rg}{L L':Bl}{ds:List Deferred}{k:List Item}{K:Rg->Bl->Prop}{o:Oper}{d:Nat}{v:Value}
def Beside(F:View)(Q:Value->View->Prop):Value->View->Prop:=fun v H''=> ∃H',H''=H'.plus F/\Dj H' F/\Q v H'
theorem GoT.frame {fr:Frame}{H F:View}{Q:Value->View->Prop}(h:GoT M fr H Q)(hd:Dj H F):GoT M fr (H.plus F) (Beside F Q):=fun St c cs hk=> by
 have h1:=h (fun H' g'=> ∃v,Q v H'/\g'=G (c.finish v) cs) c cs fun v H' hq=> .stop ⟨v,hq,rfl⟩;refine(h1.frame F hd).bind ?_;rintro H'' g' ⟨H',rfl,hd',v,hq,rfl⟩;exact hk v _ ⟨H',rfl,hd',hq⟩
theorem FnT.frame {fv:Value}{az:List Value}{H F:View}{Q:Value->View->Prop}(h:FnT M fv az H Q)(hd:Dj H F):FnT M fv az (H.plus F) (Beside F Q):=by
 refine vwp_mono _ ?_ (vwp_frame _ hd h);rintro nx H'' ⟨H',rfl,hd',hn⟩;cases nx <;> first
  | exact hn.elim
  | exact GoT.frame hn hd'
theorem SymSt.split {H:View}(hs:SymSt H₀ L H):∃F,H=H₀.plus F/\Dj H₀ F/\∀x∈L,F x.1=some x.2:=by
 refine⟨fun c=> match H₀ c with|some _=> none|none=> H c,?_,fun c x hc=> ?_,fun x hx=> ?_⟩
 ·funext c
  unfold View.plus;cases h0:H₀ c with
  | some y=> exact hs.base c y h0
  | none=> simp only[h0]
 ·cases h0:H₀ c with
  | some y=> simp only[h0] at hc;cases hc
  | none=> rfl
 ·simp only[hs.out x hx];exact hs.at_ x hx
theorem SymSt.joined {H₁ F:View}(hn:(L.map (·.1)).Nodup)(hF:∀x∈L,F x.1=some x.2)(hd:Dj H₁ F):SymSt H₁ L (H₁.plus F):=
 ⟨hn,fun x hx=> hd _ _ (hF x hx),fun x hx=> by rw[plus_right (hd _ _ (hF x hx))];exact hF x hx,fun _ _ h=> plus_left h⟩
theorem To.callF {dl:List (Option Tmp)}{l:List Oper}{cl:Go.Call}{x:Operand}{fv:Value}{az:List Value}(hw:wantB dl R o=some true)(hop:o.op=.call cl)(hcl:cl.callee=.value x)(hx:evR R x=some fv)(has:evRs R cl.args.toList=some az)(hd:o.dst=some d)(hn:d<n)
  {Q:Value->View->Prop} (hc:FnT M fv az H₀ Q) (hk:∀v H₁,Q v H₁->To M St n b H₁ cs dl ((d,v)::R) L ds l k):To M St n b H₀ cs dl R L ds (o::l) k:=fun arr ix ha hxs=> by
 cases ix with
 | nil=> simp at hxs
 | cons i r=>
  simp only[List.map_cons,List.cons.injEq] at hxs;intro H tmps hs hr;refine OpRun.sound hxs.1 (wantB_ok ha hr hw) (by rw[hop];rfl) ?_;obtain⟨F,rfl,hdj,hF⟩:=hs.split;have e1:=hr.ev hx;have hmap:cl.args.map (evT tmps)=az.toArray:=by
   apply Array.ext'
   simpa using hr.evs has
  have hex:execOp (evT tmps) o=(Deferred.ofValue fv az.toArray).bind fun d=> invoke d.target d.args:=by
   have h1:execOp (evT tmps) o=(resolve (evT tmps) cl o.type).bind fun d=> invoke d.target d.args:=by unfold execOp;rw[hop];rfl
   rw[h1];unfold resolve;rw[hcl];simp only[e1,hmap]
  unfold OpRun;rw[hex];have fin:∀v H'',Beside F Q v H''->T M St H'' (G (b.at (putT tmps o.dst v) ds (.inRegion arr r::k)) cs):=by
   rintro v H'' ⟨H₁,rfl,hd',hq⟩;rw[hd];exact hk v H₁ hq arr r ha hxs.2 _ _ (.joined hs.nodup hF hd') (hr.put hn v)
  refine vwp_mono _ (fun nx H' hn'=> ?_) (hc.frame hdj);cases nx <;> first
   | exact hn'.elim
   | exact CallT.mono hn' fin
   | exact GoT.mono hn' fin
def putR(R:Rg):List Nat->List Value->Rg
 | t::ts,a::az=> putR ((t,a)::R) ts az
 | _,_=> R
theorem RegOk.puts:∀ {ts:List Nat} {az:List Value} {R:Rg} {tmps:Array Value},RegOk n R tmps->(ts.all fun t=> Nat.blt t n)=true->ts.length=az.length->RegOk n (putR R ts az) ((ts.zip az).foldl (fun tmps (x:Nat×Value)=> tmps.setIfInBounds x.1 x.2) tmps)
 | [],[],_,_,h,_,_=> h
 | t::ts,a::az,R,tmps,h,hb,hl=> by
  simp only[List.all_cons,Bool.and_eq_true] at hb;have hlt:t<n:=by have:=hb.1;rw[Nat.blt_eq] at this;exact this
  exact RegOk.puts (ts:=ts) (az:=az) (h.put hlt a) hb.2 (by simpa using hl)
 | [],_::_,_,_,_,_,h=> by cases h
 | _::_,[],_,_,_,_,h=> by cases h
theorem FnT.round {l i:Nat}{lp:Loop}{H:View}{az:List Value}{ts:List Nat}{Q:Value->View->Prop}(hs:SymSt H₀ L H)(hl:L[i]? =some (l,true,.loop lp))(hts:lp.params=ts.toArray)(hb:(ts.all fun t=> Nat.blt t n)=true)(hlen:ts.length=az.length)(hr:RegOk n R lp.tmps)
  (h:∀St c cs,(∀v H',Q v H'->T M St H' (G (c.finish v) cs))->Tc M St n ⟨lp.fn,.normal,some l⟩ H₀ (c::cs) (putR R ts az) L [] [.code lp.assign,.beginRound,.code lp.body]):FnT M (.func (.yield l) #[] #[]) az H Q:=by
 unfold FnT;simp only[Deferred.ofValue];show vwp P (Instr.yield l (#[]++az.toArray)) H _;refine⟨true,_,hs.get hl,by simp,rfl,?_⟩;show vwp P (if(#[]++az.toArray).size≠lp.params.size then _ else _) H _;rw[if_neg (by rw[hts];simp[hlen])];intro St c cs hK;have e:(lp.params.zip (#[]++az.toArray)).foldl (fun tmps (x:Nat×Value)=> tmps.setIfInBounds x.1 x.2) lp.tmps=(ts.zip az).foldl (fun tmps (x:Nat×Value)=> tmps.setIfInBounds x.1 x.2) lp.tmps:=by
  rw[hts];simp
 have:=h St c cs hK H _ hs (hr.puts hb hlen);rw[<-e] at this;exact this
theorem T.beginRound {H:View}{l:Nat}{tmps:Array Value}(hb:b.rd=some l)(h:vwp P ((Instr.beginRound l).bind fun _=> .pure Next.skip) H fun nx H'=> nx=.skip/\T M St H' (G (b.at tmps ds k) cs)):T M St H (G (b.at tmps ds (.beginRound::k)) cs):=by
 refine .step ⟨rfl,fun w hs _=> ?_⟩;obtain⟨nx,H',w',es,h1,h2,rfl,h3⟩:=vwp_sound _ #[] hs h;rw[Array.empty_append] at h1;generalize hes:seen P (b.at tmps ds (.beginRound::k)).fn (if(b.at tmps ds (.beginRound::k)).kind==.early then #[] else es)=es';have hsub:∀e∈es',e∈es:=fun e he=> by
  rw[<-hes] at he;have:=mem_seen he;split at this
  ·simp at this
  ·exact this
 have e:stepG P M.main (G (b.at tmps ds (.beginRound::k)) cs) w=stepG.apply P true (b.at tmps ds (.beginRound::k)) cs none ((Instr.beginRound l).bind fun _=> .pure Next.skip) w:=by
  simp[G,stepG,stepG.exec,FB.at,hb]
  rfl
 refine⟨_,w',es',H',(e.trans (b:=stepG.apply P true (b.at tmps ds (.beginRound::k)) cs none ((Instr.beginRound l).bind fun _=> .pure Next.skip) w) (c:=GStep.after es' (.go (G (b.at tmps ds k) cs) w')) ?_).trans (by simp[GStep.after]),h2.sub hsub,h3⟩;rw[<-hes];unfold stepG.apply;rw[if_pos rfl,h1];rfl
theorem T.leaveRound {H:View}{l:Nat}{tmps:Array Value}{todo:List Item}{jump:Option Code}{c:Frame}(hb:b.rd=some l)(hk:b.kind=.normal)
  (ht:(todo= []/\jump=none)\/(∃k,todo=.code .ret::k/\jump=some .ret)\/∃id k,todo=.code (.exit id)::k/\exitTo id k=none/\jump=some (.exit id))
  (h:vwp P (Instr.endRound l jump) H fun v H'=> T M St H' (G (c.finish v) cs)):T M St H (G (b.at tmps [] todo) (c::cs)):=by
 refine .step ⟨rfl,fun w hs _=> ?_⟩;obtain⟨v,H',w',es,h1,h2,h3⟩:=vwp_sound _ #[] hs h;rw[Array.empty_append] at h1;have hp:Sem.run P (Instr.endRound l jump) w=.ok v w'/\Sem.events P (Instr.endRound l jump) w #[]=es:=by simpa using h1
 refine⟨G (c.finish v) cs,w',seen P b.fn es,H',?_,h2.sub fun e he=> mem_seen he,h3⟩;rcases ht with ⟨rfl,rfl⟩|⟨k,rfl,rfl⟩|⟨id,k,rfl,he,rfl⟩
 ·simp[G,stepG,stepG.exec,FB.at,hb,hp.1,hp.2,doReturn,hk,GStep.after]
 ·simp[G,stepG,stepG.exec,FB.at,hb,hp.1,hp.2,doReturn,hk,GStep.after]
 ·simp[G,stepG,stepG.exec,FB.at,hb,hp.1,hp.2,doReturn,hk,GStep.after,he]
theorem Tc.beginRound {i l:Nat}{lp:Loop}(hb:b.rd=some l)(hi:L[i]? =some (l,true,.loop lp))(hst:lp.state=.ready)(h:Tc M St n b H₀ cs R (L.set i (l,true,.loop { lp with state:=.busy })) ds k):Tc M St n b H₀ cs R L ds (.beginRound::k):=fun H tmps hs hr=>
 .beginRound hb (by
  have hl:=hs.get hi;refine vwp_bind (Instr.beginRound l) _ ?_;refine⟨true,_,hl,by simp,rfl,?_⟩;refine⟨⟨_,hl,by simp⟩,rfl,?_⟩;show vwp P (match lp.state with
   | .ready=> _
   | .done=> _
   | .busy=> _
   | .exhausted=> _) _ _
  rw[hst];exact⟨rfl,h _ tmps (hs.set hi _) hr⟩)
theorem Tc.leaveRound {i l:Nat}{lp:Loop}{c:Frame}{Q:Value->View->Prop}{f:FuncId}{todo:List Item}{jump:Option Code}(hK:∀v H',Q v H'->T M St H' (G (c.finish v) cs))(hi:L[i]? =some (l,true,.loop lp))
  (ht:(todo= []/\jump=none)\/(∃k,todo=.code .ret::k/\jump=some .ret)\/∃id k,todo=.code (.exit id)::k/\exitTo id k=none/\jump=some (.exit id))
  (h:∀H',SymSt H₀ (L.set i (l,true,.loop { lp with state:=if jump.isNone then .ready else .done,pending:=jump })) H'->Q (.bool jump.isNone) H'):Tc M St n ⟨f,.normal,some l⟩ H₀ (c::cs) R L [] todo:=fun H tmps hs _=>
 .leaveRound (b:=⟨f,.normal,some l⟩) rfl rfl ht (by
  have hl:=hs.get hi;refine⟨true,_,hl,by simp,rfl,?_⟩;refine⟨⟨_,hl,by simp⟩,rfl,?_⟩;exact hK _ _ (h _ (hs.set hi _)))
theorem T.endRangeFunc {H:View}{l:Nat}{tmps:Array Value}(h:vwp P (Instr.endLoop l) H fun j H'=> T M St H' (G (b.at tmps ds ((j.map Item.code).toList++k)) cs)):T M St H (G (b.at tmps ds (.endRangeFunc l::k)) cs):=by
 refine .step ⟨rfl,fun w hs _=> ?_⟩;obtain⟨v,H',w',es,h1,h2,h3⟩:=vwp_sound _ #[] hs h;rw[Array.empty_append] at h1;have hp:Sem.run P (Instr.endLoop l) w=.ok v w'/\Sem.events P (Instr.endLoop l) w #[]=es:=by simpa using h1
 refine⟨_,w',seen P b.fn es,H',?_,h2.sub fun e he=> mem_seen he,h3⟩;simp[G,stepG,stepG.exec,FB.at,hp.1,hp.2,GStep.after]
theorem T.collect {H:View}{r:Nat}{tmps:Array Value}{todo:List Item}{az:Array Value}(h:vwp P (Instr.takeDeferred r) H fun calls H'=> T M St H' (G (b.back tmps (calls++ds) todo) cs)):T M St H (G (b.back tmps ({ target:=.collected r,args:=az }::ds) todo) cs):=by
 refine .step ⟨rfl,fun w hs _=> ?_⟩;obtain⟨v,H',w',es,h1,h2,h3⟩:=vwp_sound _ #[] hs h;rw[Array.empty_append] at h1;refine⟨_,w',seen P b.fn es,H',?_,h2.sub fun e he=> mem_seen he,h3⟩;have e:stepG P M.main (G (b.back tmps ({ target:=.collected r,args:=az }::ds) todo) cs) w=unwind P M.main (b.back tmps ({ target:=.collected r,args:=az }::ds) todo) cs none w:=by
  simp[G,stepG,FB.back]
 rw[e];unfold unwind;simp only[FB.back,h1,GStep.after,G,Array.append_empty]
theorem T.rangeFunc {H:View}{f:Operand}{params:Array Tmp}{assign body:Code}{tmps:Array Value}{fv:Value}(hf:evT tmps f=fv)
  (h:vwp P (Instr.enterLoop b.fn tmps params assign body b.rd) H fun x H'=> FnT M fv [.func (.yield x.1) #[] #[]] H' fun _ H''=> T M St H'' (G (b.at tmps (x.2++ds) (.endRangeFunc x.1::k)) cs)):
  T M St H (G (b.at tmps ds (.code (.rangeFunc f params assign body)::k)) cs):=by
 refine .step ⟨rfl,fun w hs _=> ?_⟩;obtain⟨⟨l,mark⟩,H₁,w₁,es₁,h1,h2,h3⟩:=vwp_sound _ #[] hs h;rw[Array.empty_append] at h1;obtain⟨nx,H₂,w₂,es₂,g1,g2,g3⟩:=vwp_sound _ #[] h2.sat h3;rw[Array.empty_append] at g1;generalize hfr:b.at tmps (mark++ds) (.inRangeFunc l::k)=fr;generalize hes:seen P fr.fn (if fr.kind==.early then #[] else es₂)=es';have hsub:∀e∈seen P b.fn es₁++es',e∈es₁++es₂:=fun e he=> by
  rcases Array.mem_append.1 he with he|he
  ·exact Array.mem_append.2 (.inl (mem_seen he))
  ·rw[<-hes] at he;have:=mem_seen he;split at this
   ·simp at this
   ·exact Array.mem_append.2 (.inr this)
 have key:stepG P M.main (G (b.at tmps ds (.code (.rangeFunc f params assign body)::k)) cs) w=
   GStep.after (seen P b.fn es₁) (stepG.apply P true fr cs none ((Deferred.ofValue fv #[.func (.yield l) #[] #[]]).bind fun d=> invoke d.target d.args) w₁):=by
  have hev:fr.eval f=fv:=by rw[<-hfr,FB.eval_at];exact hf
  have hres:(resolve fr.eval { callee:=.value f,args:=#[.const (.func (.yield l) #[] #[])],argTypes:=#[] } 0)=Deferred.ofValue fv #[.func (.yield l) #[] #[]]:=by
   show Deferred.ofValue (fr.eval f) (#[Operand.const (.func (.yield l) #[] #[])].map fr.eval)=_;rw[hev];simp[Frame.eval]
  have:stepG P M.main (G (b.at tmps ds (.code (.rangeFunc f params assign body)::k)) cs) w=
   GStep.after (seen P b.fn es₁) (stepG.apply P true fr cs none ((resolve fr.eval { callee:=.value f,args:=#[.const (.func (.yield l) #[] #[])],argTypes:=#[] } 0).bind fun d=> invoke d.target d.args) w₁):=by
   have hp:Sem.run P (Instr.enterLoop b.fn tmps params assign body b.rd) w=.ok (l,mark) w₁/\Sem.events P (Instr.enterLoop b.fn tmps params assign body b.rd) w #[]=es₁:=by simpa using h1
   rw[<-hfr];simp[G,stepG,stepG.exec,FB.at,hp.1,hp.2]
   rfl
  rw[this,hres]
 have hap:∀g,stepG.apply P true fr cs none ((Deferred.ofValue fv #[.func (.yield l) #[] #[]]).bind fun d=> invoke d.target d.args) w₁=GStep.after es' (.go g w₂)-> 
   stepG P M.main (G (b.at tmps ds (.code (.rangeFunc f params assign body)::k)) cs) w=.go g w₂ (seen P b.fn es₁++es'):=fun g hg=> by
  rw[key,hg];simp[GStep.after]
 have hfin:∀v,fr.finish v=b.at tmps (mark++ds) (.endRangeFunc l::k):=by
  intro v;rw[<-hfr];rfl
 cases nx <;> try exact g3.elim
 case enter g az=>
  refine⟨_,w₂,_,H₂,hap (G (Frame.enter P g az .normal) (fr::cs)) ?_,(h2.trans g2).sub hsub,?_⟩
  ·subst hfr;rw[<-hes];unfold stepG.apply;rw[if_pos rfl,g1];rfl
  ·exact g3 St fr cs fun v H'' hq=> by rw[hfin];exact hq
 case round l' g tmps' az bd=>
  refine⟨_,w₂,_,H₂,hap (G (Frame.round l' g tmps' az bd .normal) (fr::cs)) ?_,(h2.trans g2).sub hsub,?_⟩
  ·subst hfr;rw[<-hes];unfold stepG.apply;rw[if_pos rfl,g1];rfl
  ·exact g3 St fr cs fun v H'' hq=> by rw[hfin];exact hq
def markOf(r:Nat):Deferred:= { target:=.collected r,args:=#[] }
def Loop.fresh(f:FuncId)(tmps:Array Value)(params:Array Tmp)(assign body:Code)(r:Nat):Loop:= { state:=.ready,pending:=none,fn:=f,tmps,params,assign,body,defers:=r }
theorem Tc.rangeFunc {f:Operand}{params:Array Tmp}{assign body:Code}{fv:Value}(hrd:b.rd=none)(hf:evR R f=some fv)(Z:Nat->Nat->Option Code->View->Bl->Prop)
  (h:∀l r tmps H,RegOk n R tmps->SymSt H₀ ((l,true,.loop (Loop.fresh b.fn tmps params assign body r))::(r,true,.deferred (some []))::L) H-> 
   FnT M fv [.func (.yield l) #[] #[]] H fun _ H'=> ∃H₁ L₁ lp,SymSt H₁ ((l,true,.loop lp)::(r,true,.deferred (some []))::L₁) H'/\lp.state≠ .busy/\Z l r lp.pending H₁ L₁)
  (hk:∀l r j H₁ L₁,Z l r j H₁ L₁->Tc M St n b H₁ cs R ((r,true,.deferred (some []))::L₁) (markOf r::ds) ((j.map Item.code).toList++k)):
  Tc M St n b H₀ cs R L ds (.code (.rangeFunc f params assign body)::k):=fun H tmps hs hr=> by
 refine .rangeFunc (hr.ev hf) ?_;rw[hrd];intro r hr0;intro l hl0;have hs':=(hs.cons (true,.deferred (some [])) hr0).cons (true,.loop (Loop.fresh b.fn tmps params assign body r)) hl0;refine FnT.mono (h l r tmps _ hr hs') ?_;rintro v H' ⟨H₁,L₁,lp,hs1,hst,hz⟩;refine .endRangeFunc ?_;have hl:=hs1.get (i:=0) rfl;refine⟨true,_,hl,by simp,rfl,?_⟩;have hb:(lp.state==LoopState.busy)=false:=by simpa using hst
 show vwp P (if(lp.state==LoopState.busy)=true then _ else _) H' _;rw[if_neg (by simp[hb])];refine⟨⟨_,hl,by simp⟩,rfl,?_⟩;refine hk l r lp.pending H₁ L₁ hz _ tmps ?_ hr;exact(hs1.set (i:=0) rfl _).less (List.sublist_cons_self _ _)
theorem Tc.rangeFuncIn {f:Operand}{params:Array Tmp}{assign body:Code}{fv:Value}{lo i:Nat}{lpo:Loop}(hrd:b.rd=some lo)(hi:L[i]? =some (lo,true,.loop lpo))(hf:evR R f=some fv)(Z:Nat->Option Code->View->Bl->Prop)
  (h:∀l tmps H,RegOk n R tmps->SymSt H₀ ((l,true,.loop (Loop.fresh b.fn tmps params assign body lpo.defers))::L) H-> 
   FnT M fv [.func (.yield l) #[] #[]] H fun _ H'=> ∃H₁ L₁ lp,SymSt H₁ ((l,true,.loop lp)::L₁) H'/\lp.state≠ .busy/\Z l lp.pending H₁ L₁)
  (hk:∀l j H₁ L₁,Z l j H₁ L₁->Tc M St n b H₁ cs R L₁ ds ((j.map Item.code).toList++k)):
  Tc M St n b H₀ cs R L ds (.code (.rangeFunc f params assign body)::k):=fun H tmps hs hr=> by
 refine .rangeFunc (hr.ev hf) ?_;rw[hrd];refine⟨true,_,hs.get hi,by simp,rfl,?_⟩;intro l hl0;have hs':=hs.cons (true,.loop (Loop.fresh b.fn tmps params assign body lpo.defers)) hl0;refine FnT.mono (h l tmps _ hr hs') ?_;rintro v H' ⟨H₁,L₁,lp,hs1,hst,hz⟩;refine .endRangeFunc ?_;have hl:=hs1.get (i:=0) rfl;refine⟨true,_,hl,by simp,rfl,?_⟩;have hb:(lp.state==LoopState.busy)=false:=by simpa using hst
 show vwp P (if(lp.state==LoopState.busy)=true then _ else _) H' _;rw[if_neg (by simp[hb])];refine⟨⟨_,hl,by simp⟩,rfl,?_⟩;refine hk l lp.pending H₁ L₁ hz _ tmps ?_ hr;exact(hs1.set (i:=0) rfl _).less (List.sublist_cons_self _ _)
theorem Tc.retD {i r:Nat}{fn:Func}{c:Frame}{Q:Value->View->Prop}{f:FuncId}{rs:List ResultVar}{vs:List Value}(hK:∀v H',Q v H'->T M St H' (G (c.finish v) cs))(hf:P.funcs[f]? =some fn)(hrs:fn.results=rs.toArray)
  (hi:L[i]? =some (r,true,.deferred (some []))) (ho:ResOk E R (L.set i (r,true,.deferred none)) rs vs) (h:∀H',SymSt H₀ (L.set i (r,true,.deferred none)) H'->Q (packV vs) H'):Tc M St n ⟨f,.normal,none⟩ H₀ (c::cs) R L [markOf r] (.code .ret::k):=
 fun H tmps hs hr=> .retCode rfl (.collect (by
  have hd:=hs.get hi;refine⟨true,_,hd,by simp,rfl,?_⟩;refine⟨⟨_,hd,by simp⟩,rfl,?_⟩;have hs':=hs.set hi (true,.deferred none);exact .leave hf rfl (vwp_mono _ hK (vwp_results hs' hr hrs ho (h _ hs')))))
theorem Tc.overD {i r:Nat}{fn:Func}{c:Frame}{Q:Value->View->Prop}{f:FuncId}{rs:List ResultVar}{vs:List Value}(hK:∀v H',Q v H'->T M St H' (G (c.finish v) cs))(hf:P.funcs[f]? =some fn)(hrs:fn.results=rs.toArray)
  (hi:L[i]? =some (r,true,.deferred (some []))) (ho:ResOk E R (L.set i (r,true,.deferred none)) rs vs) (h:∀H',SymSt H₀ (L.set i (r,true,.deferred none)) H'->Q (packV vs) H'):Tc M St n ⟨f,.normal,none⟩ H₀ (c::cs) R L [markOf r] []:=
 fun H tmps hs hr=> .over rfl (.collect (by
  have hd:=hs.get hi;refine⟨true,_,hd,by simp,rfl,?_⟩;refine⟨⟨_,hd,by simp⟩,rfl,?_⟩;have hs':=hs.set hi (true,.deferred none);exact .leave hf rfl (vwp_mono _ hK (vwp_results hs' hr hrs ho (h _ hs')))))
theorem Tc.loopB {σ:Type}(I:σ->View×Rg×Bl)(μ:σ->Nat){body:Code}
  (step:∀s,(∀s',μ s'<μ s->Tc M St n b (I s').1 cs (I s').2.1 (I s').2.2 ds (.inLoop body::k))->Tc M St n b (I s).1 cs (I s).2.1 (I s).2.2 ds (.code body:: .inLoop body::k)) (s₀:σ):
  Tc M St n b (I s₀).1 cs (I s₀).2.1 (I s₀).2.2 ds (.code (.loop body)::k):=by
 have key:∀(m:Nat) (s:σ),μ s<=m->Tc M St n b (I s).1 cs (I s).2.1 (I s).2.2 ds (.code body:: .inLoop body::k):=by
  intro m;induction m with
  | zero=> exact fun s hs=> step s fun s' hlt=> by omega
  | succ m ih=> exact fun s hs=> step s fun s' hlt=> .inLoop (ih s' oM)
 exact .loop (key _ s₀ (Nat.le_refl _))
def View.without(H:View)(b:Nat):View:=fun c=> if c=b then none else H c
theorem without_other {H:View}{b c:Nat}(h:c≠b):H.without b c=H c:=by simp[View.without,h]
theorem SymSt.pull {H:View}{b:Nat}{x:Bool×Obj}(hb:H b=some x):SymSt (H.without b) [(b,x)] H:=
 ⟨by simp,by simp[View.without],by simpa using hb,fun c y hc=> by
  unfold View.without at hc;split at hc
  ·cases hc
  ·exact hc⟩
end
end Go.RL
namespace Go.Proofs.YtcagolloalgfiaaGreatDoor
open Go.RL
theorem row3:RowOk Tryz.prog 3 ⟨false,1,8,.int .i64 (0),[],none,.int .i64⟩:=by constructor <;> kernel_rfl
theorem row4:RowOk Tryz.prog 4 ⟨false,1,1,.bool false,[],none,.bool⟩:=by constructor <;> kernel_rfl
theorem row5:RowOk Tryz.prog 5 ⟨false,1,1,.int .u8 (0),[],none,.int .u8⟩:=by constructor <;> kernel_rfl
theorem row9:RowOk Tryz.prog 9 ⟨false,1,16,.string ⟨#[]⟩,[],none,.str⟩:=by constructor <;> kernel_rfl
theorem row21:RowOk Tryz.prog 21 ⟨false,1,4,.int .i32 (0),[],none,.int .i32⟩:=by constructor <;> kernel_rfl
theorem row22:RowOk Tryz.prog 22 ⟨false,1,24,.slice none 0 0,[],some (none,112),.slice 112⟩:=by constructor <;> kernel_rfl
theorem row23:RowOk Tryz.prog 23 ⟨false,1,24,.slice none 0 0,[],some (none,90),.slice 90⟩:=by constructor <;> kernel_rfl
theorem row24:RowOk Tryz.prog 24 ⟨false,1,24,.slice none 0 0,[],some (none,93),.slice 93⟩:=by constructor <;> kernel_rfl
theorem row26:RowOk Tryz.prog 26 ⟨true,5,88,.agg ⟨[.int .i64 (0),.int .i64 (0),.slice none 0 0,.slice none 0 0,.slice none 0 0]⟩,[0,1,2,3,4],none,.struct [(3,(0,1)),(3,(1,1)),(22,(2,1)),(23,(3,1)),(24,(4,1))]⟩:=by constructor <;> kernel_rfl
theorem row28:RowOk Tryz.prog 28 ⟨true,2,16,.agg ⟨[.int .i64 (0),.int .i64 (0)]⟩,[0,1],none,.struct [(3,(0,1)),(3,(1,1))]⟩:=by constructor <;> kernel_rfl
theorem row30:RowOk Tryz.prog 30 ⟨true,4,32,.agg ⟨[.int .i64 (0),.int .i64 (0),.int .i64 (0),.int .i64 (0)]⟩,[0,2],none,.struct [(28,(0,2)),(28,(2,2))]⟩:=by constructor <;> kernel_rfl
theorem row32:RowOk Tryz.prog 32 ⟨true,8,64,.agg ⟨[.int .i64 (0),.int .i64 (0),.int .i64 (0),.int .i64 (0),.int .i64 (0),.int .i64 (0),.int .i64 (0),.int .i64 (0)]⟩,[0,2,4],none,.struct [(28,(0,2)),(28,(2,2)),(30,(4,4))]⟩:=by constructor <;> kernel_rfl
theorem row33:RowOk Tryz.prog 33 ⟨false,1,24,.slice none 0 0,[],some (none,69),.slice 69⟩:=by constructor <;> kernel_rfl
theorem row34:RowOk Tryz.prog 34 ⟨false,1,24,.slice none 0 0,[],some (none,73),.slice 73⟩:=by constructor <;> kernel_rfl
theorem row36:RowOk Tryz.prog 36 ⟨true,4,64,.agg ⟨[.int .i64 (0),.int .i64 (0),.slice none 0 0,.slice none 0 0]⟩,[0,1,2,3],none,.struct [(3,(0,1)),(3,(1,1)),(33,(2,1)),(34,(3,1))]⟩:=by constructor <;> kernel_rfl
theorem row37:RowOk Tryz.prog 37 ⟨false,1,24,.slice none 0 0,[],some (none,38),.slice 38⟩:=by constructor <;> kernel_rfl
theorem row38:RowOk Tryz.prog 38 ⟨false,1,2,.int .u16 (0),[],none,.int .u16⟩:=by constructor <;> kernel_rfl
theorem row40:RowOk Tryz.prog 40 ⟨false,1,8,.int .i64 (0),[],none,.int .i64⟩:=by constructor <;> kernel_rfl
theorem row44:RowOk Tryz.prog 44 ⟨false,1,24,.slice none 0 0,[],some (none,3),.slice 3⟩:=by constructor <;> kernel_rfl
theorem row48:RowOk Tryz.prog 48 ⟨false,1,24,.slice none 0 0,[],some (none,56),.slice 56⟩:=by constructor <;> kernel_rfl
theorem row56:RowOk Tryz.prog 56 ⟨true,2,16,.agg ⟨[.int .i64 (0),.int .i64 (0)]⟩,[0,1],none,.struct [(3,(0,1)),(3,(1,1))]⟩:=by constructor <;> kernel_rfl
theorem row59:RowOk Tryz.prog 59 ⟨true,2,16,.agg ⟨[.int .i64 (0),.int .i64 (0)]⟩,[0,1],none,.struct [(3,(0,1)),(3,(1,1))]⟩:=by constructor <;> kernel_rfl
theorem row67:RowOk Tryz.prog 67 ⟨false,1,24,.slice none 0 0,[],some (none,197),.slice 197⟩:=by constructor <;> kernel_rfl
theorem row69:RowOk Tryz.prog 69 ⟨true,3,56,.agg ⟨[.string ⟨#[]⟩,.string ⟨#[]⟩,.slice none 0 0]⟩,[0,1,2],none,.struct [(9,(0,1)),(9,(1,1)),(67,(2,1))]⟩:=by constructor <;> kernel_rfl
theorem row73:RowOk Tryz.prog 73 ⟨true,4,32,.agg ⟨[.int .i64 (0),.int .i64 (0),.int .i64 (0),.int .i64 (0)]⟩,[0,2],none,.struct [(28,(0,2)),(28,(2,2))]⟩:=by constructor <;> kernel_rfl
theorem row82:RowOk Tryz.prog 82 ⟨false,1,8,.int .i64 (0),[],none,.int .i64⟩:=by constructor <;> kernel_rfl
theorem row87:RowOk Tryz.prog 87 ⟨false,1,8,.nilFunc,[],none,.other⟩:=by constructor <;> kernel_rfl
theorem row90:RowOk Tryz.prog 90 ⟨true,1,24,.agg ⟨[.slice none 0 0]⟩,[0],none,.struct [(48,(0,1))]⟩:=by constructor <;> kernel_rfl
theorem row91:RowOk Tryz.prog 91 ⟨false,1,8,.int .i64 (0),[],none,.int .i64⟩:=by constructor <;> kernel_rfl
theorem row93:RowOk Tryz.prog 93 ⟨true,4,32,.agg ⟨[.int .i64 (0),.int .i64 (0),.int .i64 (0),.int .i64 (0)]⟩,[0,1,2,3],none,.struct [(91,(0,1)),(3,(1,1)),(3,(2,1)),(3,(3,1))]⟩:=by constructor <;> kernel_rfl
theorem row98:RowOk Tryz.prog 98 ⟨true,5,88,.agg ⟨[.int .i64 (0),.int .i64 (0),.slice none 0 0,.slice none 0 0,.slice none 0 0]⟩,[0],none,.struct [(26,(0,5))]⟩:=by constructor <;> kernel_rfl
theorem row99:RowOk Tryz.prog 99 ⟨false,1,24,.slice none 0 0,[],some (none,222),.slice 222⟩:=by constructor <;> kernel_rfl
theorem row102:RowOk Tryz.prog 102 ⟨false,1,8,.nilFunc,[],none,.other⟩:=by constructor <;> kernel_rfl
theorem row106:RowOk Tryz.prog 106 ⟨true,6,112,.agg ⟨[.int .i64 (0),.int .i64 (0),.slice none 0 0,.slice none 0 0,.slice none 0 0,.slice none 0 0]⟩,[0,5],none,.struct [(98,(0,5)),(44,(5,1))]⟩:=by constructor <;> kernel_rfl
theorem row112:RowOk Tryz.prog 112 ⟨true,3,32,.agg ⟨[.string ⟨#[]⟩,.int .i64 (0),.int .i64 (0)]⟩,[0,1,2],none,.struct [(9,(0,1)),(3,(1,1)),(3,(2,1))]⟩:=by constructor <;> kernel_rfl
theorem row117:RowOk Tryz.prog 117 ⟨false,1,8,.nilFunc,[],none,.other⟩:=by constructor <;> kernel_rfl
theorem row121:RowOk Tryz.prog 121 ⟨true,4,48,.agg ⟨[.int .i64 (0),.int .i64 (0),.int .i64 (0),.slice none 0 0]⟩,[0,1,2,3],none,.struct [(3,(0,1)),(3,(1,1)),(3,(2,1)),(44,(3,1))]⟩:=by constructor <;> kernel_rfl
theorem row128:RowOk Tryz.prog 128 ⟨true,4,64,.agg ⟨[.int .i64 (0),.int .i64 (0),.slice none 0 0,.slice none 0 0]⟩,[0],none,.struct [(36,(0,4))]⟩:=by constructor <;> kernel_rfl
theorem row131:RowOk Tryz.prog 131 ⟨false,1,8,.map none,[],none,.map 3 4⟩:=by constructor <;> kernel_rfl
theorem row132:RowOk Tryz.prog 132 ⟨false,1,8,.map none,[],none,.map 135 4⟩:=by constructor <;> kernel_rfl
theorem row135:RowOk Tryz.prog 135 ⟨true,3,32,.agg ⟨[.string ⟨#[]⟩,.int .i64 (0),.bool false]⟩,[0,1,2],none,.struct [(9,(0,1)),(3,(1,1)),(4,(2,1))]⟩:=by constructor <;> kernel_rfl
theorem row138:RowOk Tryz.prog 138 ⟨false,1,8,.nilFunc,[],none,.other⟩:=by constructor <;> kernel_rfl
theorem row139:RowOk Tryz.prog 139 ⟨false,1,8,.pointer none,[],none,.other⟩:=by constructor <;> kernel_rfl
theorem row141:RowOk Tryz.prog 141 ⟨true,2,32,.agg ⟨[.int .i64 (0),.slice none 0 0]⟩,[0,1],none,.struct [(82,(0,1)),(44,(1,1))]⟩:=by constructor <;> kernel_rfl
theorem row142:RowOk Tryz.prog 142 ⟨false,1,24,.slice none 0 0,[],some (none,5),.slice 5⟩:=by constructor <;> kernel_rfl
theorem row146:RowOk Tryz.prog 146 ⟨true,12,96,.agg ⟨[.int .i64 (0),.int .i64 (0),.int .i64 (0),.int .i64 (0),.int .i64 (0),.int .i64 (0),.int .i64 (0),.int .i64 (0),.int .i64 (0),.int .i64 (0),.int .i64 (0),.int .i64 (0)]⟩,[],some (some 12,3),.arr 12 3⟩:=by constructor <;> kernel_rfl
theorem row148:RowOk Tryz.prog 148 ⟨true,13,104,.agg ⟨[.int .i64 (0),.int .i64 (0),.int .i64 (0),.int .i64 (0),.int .i64 (0),.int .i64 (0),.int .i64 (0),.int .i64 (0),.int .i64 (0),.int .i64 (0),.int .i64 (0),.int .i64 (0),.int .i64 (0)]⟩,[0,1],none,.struct [(82,(0,1)),(146,(1,12))]⟩:=by constructor <;> kernel_rfl
theorem row149:RowOk Tryz.prog 149 ⟨false,1,24,.slice none 0 0,[],some (none,315),.slice 315⟩:=by constructor <;> kernel_rfl
theorem row151:RowOk Tryz.prog 151 ⟨true,5,56,.agg ⟨[.int .i64 (0),.int .i64 (0),.int .i64 (0),.bool false,.slice none 0 0]⟩,[0,1,2,3,4],none,.struct [(82,(0,1)),(3,(1,1)),(3,(2,1)),(4,(3,1)),(149,(4,1))]⟩:=by constructor <;> kernel_rfl
theorem row153:RowOk Tryz.prog 153 ⟨true,5,56,.agg ⟨[.int .i64 (0),.int .i64 (0),.int .i64 (0),.bool false,.slice none 0 0]⟩,[0],none,.struct [(151,(0,5))]⟩:=by constructor <;> kernel_rfl
theorem row163:RowOk Tryz.prog 163 ⟨false,1,8,.nilFunc,[],none,.other⟩:=by constructor <;> kernel_rfl
theorem row169:RowOk Tryz.prog 169 ⟨true,2,16,.agg ⟨[.int .i64 (0),.int .i64 (0)]⟩,[0,1],none,.struct [(3,(0,1)),(3,(1,1))]⟩:=by constructor <;> kernel_rfl
theorem row177:RowOk Tryz.prog 177 ⟨true,8,64,.agg ⟨[.int .i64 (0),.int .i64 (0),.int .i64 (0),.int .i64 (0),.int .i64 (0),.int .i64 (0),.int .i64 (0),.int .i64 (0)]⟩,[0],none,.struct [(32,(0,8))]⟩:=by constructor <;> kernel_rfl
theorem row178:RowOk Tryz.prog 178 ⟨false,1,24,.slice none 0 0,[],some (none,243),.slice 243⟩:=by constructor <;> kernel_rfl
theorem row180:RowOk Tryz.prog 180 ⟨true,2,32,.agg ⟨[.int .i64 (0),.slice none 0 0]⟩,[0,1],none,.struct [(3,(0,1)),(178,(1,1))]⟩:=by constructor <;> kernel_rfl
theorem row183:RowOk Tryz.prog 183 ⟨false,1,1,.int .u8 (0),[],none,.int .u8⟩:=by constructor <;> kernel_rfl
theorem row185:RowOk Tryz.prog 185 ⟨true,6,48,.agg ⟨[.int .i64 (0),.int .i64 (0),.int .i64 (0),.int .i64 (0),.int .i64 (0),.int .i64 (0)]⟩,[],some (some 6,3),.arr 6 3⟩:=by constructor <;> kernel_rfl
theorem row193:RowOk Tryz.prog 193 ⟨false,1,24,.slice none 0 0,[],some (none,9),.slice 9⟩:=by constructor <;> kernel_rfl
theorem row196:RowOk Tryz.prog 196 ⟨false,1,8,.nilFunc,[],none,.other⟩:=by constructor <;> kernel_rfl
theorem row197:RowOk Tryz.prog 197 ⟨false,1,8,.int .i64 (0),[],none,.int .i64⟩:=by constructor <;> kernel_rfl
theorem row206:RowOk Tryz.prog 206 ⟨false,1,8,.pointer none,[],none,.other⟩:=by constructor <;> kernel_rfl
theorem row208:RowOk Tryz.prog 208 ⟨true,2,32,.agg ⟨[.pointer none,.slice none 0 0]⟩,[0,1],none,.struct [(206,(0,1)),(142,(1,1))]⟩:=by constructor <;> kernel_rfl
theorem row218:RowOk Tryz.prog 218 ⟨false,1,8,.nilFunc,[],none,.other⟩:=by constructor <;> kernel_rfl
theorem row219:RowOk Tryz.prog 219 ⟨false,1,24,.slice none 0 0,[],some (none,218),.slice 218⟩:=by constructor <;> kernel_rfl
theorem row222:RowOk Tryz.prog 222 ⟨true,4,32,.agg ⟨[.int .i64 (0),.int .i64 (0),.int .i64 (0),.int .i64 (0)]⟩,[],some (some 4,3),.arr 4 3⟩:=by constructor <;> kernel_rfl
theorem row224:RowOk Tryz.prog 224 ⟨false,1,8,.map none,[],none,.map 56 3⟩:=by constructor <;> kernel_rfl
theorem row231:RowOk Tryz.prog 231 ⟨false,1,24,.slice none 0 0,[],some (none,232),.slice 232⟩:=by constructor <;> kernel_rfl
theorem row232:RowOk Tryz.prog 232 ⟨false,1,8,.nilFunc,[],none,.other⟩:=by constructor <;> kernel_rfl
theorem row233:RowOk Tryz.prog 233 ⟨true,4,32,.agg ⟨[.nilFunc,.nilFunc,.nilFunc,.nilFunc]⟩,[],some (some 4,232),.arr 4 232⟩:=by constructor <;> kernel_rfl
theorem row240:RowOk Tryz.prog 240 ⟨true,2,16,.agg ⟨[.int .i64 (0),.int .i64 (0)]⟩,[0,1],none,.struct [(3,(0,1)),(3,(1,1))]⟩:=by constructor <;> kernel_rfl
theorem row243:RowOk Tryz.prog 243 ⟨true,2,16,.agg ⟨[.int .i64 (0),.int .i64 (0)]⟩,[0,1],none,.struct [(3,(0,1)),(3,(1,1))]⟩:=by constructor <;> kernel_rfl
theorem row245:RowOk Tryz.prog 245 ⟨false,1,8,.nilFunc,[],none,.other⟩:=by constructor <;> kernel_rfl
theorem row246:RowOk Tryz.prog 246 ⟨true,3,24,.agg ⟨[.nilFunc,.nilFunc,.nilFunc]⟩,[],some (some 3,245),.arr 3 245⟩:=by constructor <;> kernel_rfl
theorem row248:RowOk Tryz.prog 248 ⟨true,2,32,.agg ⟨[.string ⟨#[]⟩,.string ⟨#[]⟩]⟩,[],some (some 2,9),.arr 2 9⟩:=by constructor <;> kernel_rfl
theorem row251:RowOk Tryz.prog 251 ⟨false,1,8,.pointer none,[],none,.other⟩:=by constructor <;> kernel_rfl
theorem row254:RowOk Tryz.prog 254 ⟨true,256,256,.agg ⟨List.replicate 256 (.bool false)⟩,[],some (some 256,4),.arr 256 4⟩:=by constructor <;> kernel_rfl
theorem row258:RowOk Tryz.prog 258 ⟨false,1,8,.pointer none,[],none,.other⟩:=by constructor <;> kernel_rfl
theorem row259:RowOk Tryz.prog 259 ⟨false,1,8,.map none,[],none,.map 9 4⟩:=by constructor <;> kernel_rfl
theorem row260:RowOk Tryz.prog 260 ⟨false,1,8,.map none,[],none,.map 56 4⟩:=by constructor <;> kernel_rfl
theorem row262:RowOk Tryz.prog 262 ⟨false,1,8,.nilFunc,[],none,.other⟩:=by constructor <;> kernel_rfl
theorem row266:RowOk Tryz.prog 266 ⟨false,1,8,.map none,[],none,.map 243 286⟩:=by constructor <;> kernel_rfl
theorem row268:RowOk Tryz.prog 268 ⟨true,9,88,.agg ⟨[.int .i64 (0),.slice none 0 0,.int .i64 (0),.int .i64 (0),.int .i64 (0),.int .i64 (0),.int .i64 (0),.int .i64 (0),.map none]⟩,[0,2,3,4,5,6,8],none,.struct [(180,(0,2)),(3,(2,1)),(3,(3,1)),(3,(4,1)),(3,(5,1)),(240,(6,2)),(266,(8,1))]⟩:=by constructor <;> kernel_rfl
theorem row270:RowOk Tryz.prog 270 ⟨false,1,8,.pointer none,[],none,.other⟩:=by constructor <;> kernel_rfl
theorem row275:RowOk Tryz.prog 275 ⟨false,1,8,.nilFunc,[],none,.other⟩:=by constructor <;> kernel_rfl
theorem row276:RowOk Tryz.prog 276 ⟨false,1,8,.nilFunc,[],none,.other⟩:=by constructor <;> kernel_rfl
theorem row278:RowOk Tryz.prog 278 ⟨true,5,40,.agg ⟨[.string ⟨#[]⟩,.bool false,.bool false,.nilFunc,.nilFunc]⟩,[0,1,2,3,4],none,.struct [(9,(0,1)),(4,(1,1)),(4,(2,1)),(275,(3,1)),(276,(4,1))]⟩:=by constructor <;> kernel_rfl
theorem row279:RowOk Tryz.prog 279 ⟨true,30,240,.agg ⟨[.string ⟨#[]⟩,.bool false,.bool false,.nilFunc,.nilFunc,.string ⟨#[]⟩,.bool false,.bool false,.nilFunc,.nilFunc,.string ⟨#[]⟩,.bool false,.bool false,.nilFunc,.nilFunc,.string ⟨#[]⟩,.bool false,.bool false,.nilFunc,.nilFunc,.string ⟨#[]⟩,.bool false,.bool false,.nilFunc,.nilFunc,.string ⟨#[]⟩,.bool false,.bool false,.nilFunc,.nilFunc]⟩,[],some (some 6,278),.arr 6 278⟩:=by constructor <;> kernel_rfl
theorem row281:RowOk Tryz.prog 281 ⟨false,1,8,.nilFunc,[],none,.other⟩:=by constructor <;> kernel_rfl
theorem row282:RowOk Tryz.prog 282 ⟨false,1,8,.nilFunc,[],none,.other⟩:=by constructor <;> kernel_rfl
theorem row284:RowOk Tryz.prog 284 ⟨false,1,8,.nilFunc,[],none,.other⟩:=by constructor <;> kernel_rfl
theorem row285:RowOk Tryz.prog 285 ⟨false,1,8,.nilFunc,[],none,.other⟩:=by constructor <;> kernel_rfl
theorem row286:RowOk Tryz.prog 286 ⟨false,1,24,.slice none 0 0,[],some (none,289),.slice 289⟩:=by constructor <;> kernel_rfl
theorem row289:RowOk Tryz.prog 289 ⟨true,2,16,.agg ⟨[.int .i64 (0),.int .i64 (0)]⟩,[0,1],none,.struct [(3,(0,1)),(3,(1,1))]⟩:=by constructor <;> kernel_rfl
theorem row293:RowOk Tryz.prog 293 ⟨true,256,256,.agg ⟨List.replicate 256 (.int .u8 (0))⟩,[],some (some 256,5),.arr 256 5⟩:=by constructor <;> kernel_rfl
theorem row295:RowOk Tryz.prog 295 ⟨true,2,2,.agg ⟨[.int .u8 (0),.int .u8 (0)]⟩,[0,1],none,.struct [(5,(0,1)),(5,(1,1))]⟩:=by constructor <;> kernel_rfl
theorem row296:RowOk Tryz.prog 296 ⟨true,32,32,.agg ⟨[.int .u8 (0),.int .u8 (0),.int .u8 (0),.int .u8 (0),.int .u8 (0),.int .u8 (0),.int .u8 (0),.int .u8 (0),.int .u8 (0),.int .u8 (0),.int .u8 (0),.int .u8 (0),.int .u8 (0),.int .u8 (0),.int .u8 (0),.int .u8 (0),.int .u8 (0),.int .u8 (0),.int .u8 (0),.int .u8 (0),.int .u8 (0),.int .u8 (0),.int .u8 (0),.int .u8 (0),.int .u8 (0),.int .u8 (0),.int .u8 (0),.int .u8 (0),.int .u8 (0),.int .u8 (0),.int .u8 (0),.int .u8 (0)]⟩,[],some (some 16,295),.arr 16 295⟩:=by constructor <;> kernel_rfl
theorem row315:RowOk Tryz.prog 315 ⟨true,2,16,.agg ⟨[.int .i64 (0),.int .i64 (0)]⟩,[0,1],none,.struct [(3,(0,1)),(3,(1,1))]⟩:=by constructor <;> kernel_rfl
theorem row322:RowOk Tryz.prog 322 ⟨false,1,8,.nilFunc,[],none,.other⟩:=by constructor <;> kernel_rfl
def tys:List (Nat×TyRow):= [(3,⟨false,1,8,.int .i64 (0),[],none,.int .i64⟩),
 (4,⟨false,1,1,.bool false,[],none,.bool⟩),
 (5,⟨false,1,1,.int .u8 (0),[],none,.int .u8⟩),
 (9,⟨false,1,16,.string ⟨#[]⟩,[],none,.str⟩),
 (21,⟨false,1,4,.int .i32 (0),[],none,.int .i32⟩),
 (22,⟨false,1,24,.slice none 0 0,[],some (none,112),.slice 112⟩),
 (23,⟨false,1,24,.slice none 0 0,[],some (none,90),.slice 90⟩),
 (24,⟨false,1,24,.slice none 0 0,[],some (none,93),.slice 93⟩),
 (26,⟨true,5,88,.agg ⟨[.int .i64 (0),.int .i64 (0),.slice none 0 0,.slice none 0 0,.slice none 0 0]⟩,[0,1,2,3,4],none,.struct [(3,(0,1)),(3,(1,1)),(22,(2,1)),(23,(3,1)),(24,(4,1))]⟩),
 (28,⟨true,2,16,.agg ⟨[.int .i64 (0),.int .i64 (0)]⟩,[0,1],none,.struct [(3,(0,1)),(3,(1,1))]⟩),
 (30,⟨true,4,32,.agg ⟨[.int .i64 (0),.int .i64 (0),.int .i64 (0),.int .i64 (0)]⟩,[0,2],none,.struct [(28,(0,2)),(28,(2,2))]⟩),
 (32,⟨true,8,64,.agg ⟨[.int .i64 (0),.int .i64 (0),.int .i64 (0),.int .i64 (0),.int .i64 (0),.int .i64 (0),.int .i64 (0),.int .i64 (0)]⟩,[0,2,4],none,.struct [(28,(0,2)),(28,(2,2)),(30,(4,4))]⟩),
 (33,⟨false,1,24,.slice none 0 0,[],some (none,69),.slice 69⟩),
 (34,⟨false,1,24,.slice none 0 0,[],some (none,73),.slice 73⟩),
 (36,⟨true,4,64,.agg ⟨[.int .i64 (0),.int .i64 (0),.slice none 0 0,.slice none 0 0]⟩,[0,1,2,3],none,.struct [(3,(0,1)),(3,(1,1)),(33,(2,1)),(34,(3,1))]⟩),
 (37,⟨false,1,24,.slice none 0 0,[],some (none,38),.slice 38⟩),
 (38,⟨false,1,2,.int .u16 (0),[],none,.int .u16⟩),
 (40,⟨false,1,8,.int .i64 (0),[],none,.int .i64⟩),
 (44,⟨false,1,24,.slice none 0 0,[],some (none,3),.slice 3⟩),
 (48,⟨false,1,24,.slice none 0 0,[],some (none,56),.slice 56⟩),
 (56,⟨true,2,16,.agg ⟨[.int .i64 (0),.int .i64 (0)]⟩,[0,1],none,.struct [(3,(0,1)),(3,(1,1))]⟩),
 (59,⟨true,2,16,.agg ⟨[.int .i64 (0),.int .i64 (0)]⟩,[0,1],none,.struct [(3,(0,1)),(3,(1,1))]⟩),
 (67,⟨false,1,24,.slice none 0 0,[],some (none,197),.slice 197⟩),
 (69,⟨true,3,56,.agg ⟨[.string ⟨#[]⟩,.string ⟨#[]⟩,.slice none 0 0]⟩,[0,1,2],none,.struct [(9,(0,1)),(9,(1,1)),(67,(2,1))]⟩),
 (73,⟨true,4,32,.agg ⟨[.int .i64 (0),.int .i64 (0),.int .i64 (0),.int .i64 (0)]⟩,[0,2],none,.struct [(28,(0,2)),(28,(2,2))]⟩),
 (82,⟨false,1,8,.int .i64 (0),[],none,.int .i64⟩),
 (87,⟨false,1,8,.nilFunc,[],none,.other⟩),
 (90,⟨true,1,24,.agg ⟨[.slice none 0 0]⟩,[0],none,.struct [(48,(0,1))]⟩),
 (91,⟨false,1,8,.int .i64 (0),[],none,.int .i64⟩),
 (93,⟨true,4,32,.agg ⟨[.int .i64 (0),.int .i64 (0),.int .i64 (0),.int .i64 (0)]⟩,[0,1,2,3],none,.struct [(91,(0,1)),(3,(1,1)),(3,(2,1)),(3,(3,1))]⟩),
 (98,⟨true,5,88,.agg ⟨[.int .i64 (0),.int .i64 (0),.slice none 0 0,.slice none 0 0,.slice none 0 0]⟩,[0],none,.struct [(26,(0,5))]⟩),
 (99,⟨false,1,24,.slice none 0 0,[],some (none,222),.slice 222⟩),
 (102,⟨false,1,8,.nilFunc,[],none,.other⟩),
 (106,⟨true,6,112,.agg ⟨[.int .i64 (0),.int .i64 (0),.slice none 0 0,.slice none 0 0,.slice none 0 0,.slice none 0 0]⟩,[0,5],none,.struct [(98,(0,5)),(44,(5,1))]⟩),
 (112,⟨true,3,32,.agg ⟨[.string ⟨#[]⟩,.int .i64 (0),.int .i64 (0)]⟩,[0,1,2],none,.struct [(9,(0,1)),(3,(1,1)),(3,(2,1))]⟩),
 (117,⟨false,1,8,.nilFunc,[],none,.other⟩),
 (121,⟨true,4,48,.agg ⟨[.int .i64 (0),.int .i64 (0),.int .i64 (0),.slice none 0 0]⟩,[0,1,2,3],none,.struct [(3,(0,1)),(3,(1,1)),(3,(2,1)),(44,(3,1))]⟩),
 (128,⟨true,4,64,.agg ⟨[.int .i64 (0),.int .i64 (0),.slice none 0 0,.slice none 0 0]⟩,[0],none,.struct [(36,(0,4))]⟩),
 (131,⟨false,1,8,.map none,[],none,.map 3 4⟩),
 (132,⟨false,1,8,.map none,[],none,.map 135 4⟩),
 (135,⟨true,3,32,.agg ⟨[.string ⟨#[]⟩,.int .i64 (0),.bool false]⟩,[0,1,2],none,.struct [(9,(0,1)),(3,(1,1)),(4,(2,1))]⟩),
 (138,⟨false,1,8,.nilFunc,[],none,.other⟩),
 (139,⟨false,1,8,.pointer none,[],none,.other⟩),
 (141,⟨true,2,32,.agg ⟨[.int .i64 (0),.slice none 0 0]⟩,[0,1],none,.struct [(82,(0,1)),(44,(1,1))]⟩),
 (142,⟨false,1,24,.slice none 0 0,[],some (none,5),.slice 5⟩),
 (146,⟨true,12,96,.agg ⟨[.int .i64 (0),.int .i64 (0),.int .i64 (0),.int .i64 (0),.int .i64 (0),.int .i64 (0),.int .i64 (0),.int .i64 (0),.int .i64 (0),.int .i64 (0),.int .i64 (0),.int .i64 (0)]⟩,[],some (some 12,3),.arr 12 3⟩),
 (148,⟨true,13,104,.agg ⟨[.int .i64 (0),.int .i64 (0),.int .i64 (0),.int .i64 (0),.int .i64 (0),.int .i64 (0),.int .i64 (0),.int .i64 (0),.int .i64 (0),.int .i64 (0),.int .i64 (0),.int .i64 (0),.int .i64 (0)]⟩,[0,1],none,.struct [(82,(0,1)),(146,(1,12))]⟩),
 (149,⟨false,1,24,.slice none 0 0,[],some (none,315),.slice 315⟩),
 (151,⟨true,5,56,.agg ⟨[.int .i64 (0),.int .i64 (0),.int .i64 (0),.bool false,.slice none 0 0]⟩,[0,1,2,3,4],none,.struct [(82,(0,1)),(3,(1,1)),(3,(2,1)),(4,(3,1)),(149,(4,1))]⟩),
 (153,⟨true,5,56,.agg ⟨[.int .i64 (0),.int .i64 (0),.int .i64 (0),.bool false,.slice none 0 0]⟩,[0],none,.struct [(151,(0,5))]⟩),
 (163,⟨false,1,8,.nilFunc,[],none,.other⟩),
 (169,⟨true,2,16,.agg ⟨[.int .i64 (0),.int .i64 (0)]⟩,[0,1],none,.struct [(3,(0,1)),(3,(1,1))]⟩),
 (177,⟨true,8,64,.agg ⟨[.int .i64 (0),.int .i64 (0),.int .i64 (0),.int .i64 (0),.int .i64 (0),.int .i64 (0),.int .i64 (0),.int .i64 (0)]⟩,[0],none,.struct [(32,(0,8))]⟩),
 (178,⟨false,1,24,.slice none 0 0,[],some (none,243),.slice 243⟩),
 (180,⟨true,2,32,.agg ⟨[.int .i64 (0),.slice none 0 0]⟩,[0,1],none,.struct [(3,(0,1)),(178,(1,1))]⟩),
 (183,⟨false,1,1,.int .u8 (0),[],none,.int .u8⟩),
 (185,⟨true,6,48,.agg ⟨[.int .i64 (0),.int .i64 (0),.int .i64 (0),.int .i64 (0),.int .i64 (0),.int .i64 (0)]⟩,[],some (some 6,3),.arr 6 3⟩),
 (193,⟨false,1,24,.slice none 0 0,[],some (none,9),.slice 9⟩),
 (196,⟨false,1,8,.nilFunc,[],none,.other⟩),
 (197,⟨false,1,8,.int .i64 (0),[],none,.int .i64⟩),
 (206,⟨false,1,8,.pointer none,[],none,.other⟩),
 (208,⟨true,2,32,.agg ⟨[.pointer none,.slice none 0 0]⟩,[0,1],none,.struct [(206,(0,1)),(142,(1,1))]⟩),
 (218,⟨false,1,8,.nilFunc,[],none,.other⟩),
 (219,⟨false,1,24,.slice none 0 0,[],some (none,218),.slice 218⟩),
 (222,⟨true,4,32,.agg ⟨[.int .i64 (0),.int .i64 (0),.int .i64 (0),.int .i64 (0)]⟩,[],some (some 4,3),.arr 4 3⟩),
 (224,⟨false,1,8,.map none,[],none,.map 56 3⟩),
 (231,⟨false,1,24,.slice none 0 0,[],some (none,232),.slice 232⟩),
 (232,⟨false,1,8,.nilFunc,[],none,.other⟩),
 (233,⟨true,4,32,.agg ⟨[.nilFunc,.nilFunc,.nilFunc,.nilFunc]⟩,[],some (some 4,232),.arr 4 232⟩),
 (240,⟨true,2,16,.agg ⟨[.int .i64 (0),.int .i64 (0)]⟩,[0,1],none,.struct [(3,(0,1)),(3,(1,1))]⟩),
 (243,⟨true,2,16,.agg ⟨[.int .i64 (0),.int .i64 (0)]⟩,[0,1],none,.struct [(3,(0,1)),(3,(1,1))]⟩),
 (245,⟨false,1,8,.nilFunc,[],none,.other⟩),
 (246,⟨true,3,24,.agg ⟨[.nilFunc,.nilFunc,.nilFunc]⟩,[],some (some 3,245),.arr 3 245⟩),
 (248,⟨true,2,32,.agg ⟨[.string ⟨#[]⟩,.string ⟨#[]⟩]⟩,[],some (some 2,9),.arr 2 9⟩),
 (251,⟨false,1,8,.pointer none,[],none,.other⟩),
 (254,⟨true,256,256,.agg ⟨List.replicate 256 (.bool false)⟩,[],some (some 256,4),.arr 256 4⟩),
 (258,⟨false,1,8,.pointer none,[],none,.other⟩),
 (259,⟨false,1,8,.map none,[],none,.map 9 4⟩),
 (260,⟨false,1,8,.map none,[],none,.map 56 4⟩),
 (262,⟨false,1,8,.nilFunc,[],none,.other⟩),
 (266,⟨false,1,8,.map none,[],none,.map 243 286⟩),
 (268,⟨true,9,88,.agg ⟨[.int .i64 (0),.slice none 0 0,.int .i64 (0),.int .i64 (0),.int .i64 (0),.int .i64 (0),.int .i64 (0),.int .i64 (0),.map none]⟩,[0,2,3,4,5,6,8],none,.struct [(180,(0,2)),(3,(2,1)),(3,(3,1)),(3,(4,1)),(3,(5,1)),(240,(6,2)),(266,(8,1))]⟩),
 (270,⟨false,1,8,.pointer none,[],none,.other⟩),
 (275,⟨false,1,8,.nilFunc,[],none,.other⟩),
 (276,⟨false,1,8,.nilFunc,[],none,.other⟩),
 (278,⟨true,5,40,.agg ⟨[.string ⟨#[]⟩,.bool false,.bool false,.nilFunc,.nilFunc]⟩,[0,1,2,3,4],none,.struct [(9,(0,1)),(4,(1,1)),(4,(2,1)),(275,(3,1)),(276,(4,1))]⟩),
 (279,⟨true,30,240,.agg ⟨[.string ⟨#[]⟩,.bool false,.bool false,.nilFunc,.nilFunc,.string ⟨#[]⟩,.bool false,.bool false,.nilFunc,.nilFunc,.string ⟨#[]⟩,.bool false,.bool false,.nilFunc,.nilFunc,.string ⟨#[]⟩,.bool false,.bool false,.nilFunc,.nilFunc,.string ⟨#[]⟩,.bool false,.bool false,.nilFunc,.nilFunc,.string ⟨#[]⟩,.bool false,.bool false,.nilFunc,.nilFunc]⟩,[],some (some 6,278),.arr 6 278⟩),
 (281,⟨false,1,8,.nilFunc,[],none,.other⟩),
 (282,⟨false,1,8,.nilFunc,[],none,.other⟩),
 (284,⟨false,1,8,.nilFunc,[],none,.other⟩),
 (285,⟨false,1,8,.nilFunc,[],none,.other⟩),
 (286,⟨false,1,24,.slice none 0 0,[],some (none,289),.slice 289⟩),
 (289,⟨true,2,16,.agg ⟨[.int .i64 (0),.int .i64 (0)]⟩,[0,1],none,.struct [(3,(0,1)),(3,(1,1))]⟩),
 (293,⟨true,256,256,.agg ⟨List.replicate 256 (.int .u8 (0))⟩,[],some (some 256,5),.arr 256 5⟩),
 (295,⟨true,2,2,.agg ⟨[.int .u8 (0),.int .u8 (0)]⟩,[0,1],none,.struct [(5,(0,1)),(5,(1,1))]⟩),
 (296,⟨true,32,32,.agg ⟨[.int .u8 (0),.int .u8 (0),.int .u8 (0),.int .u8 (0),.int .u8 (0),.int .u8 (0),.int .u8 (0),.int .u8 (0),.int .u8 (0),.int .u8 (0),.int .u8 (0),.int .u8 (0),.int .u8 (0),.int .u8 (0),.int .u8 (0),.int .u8 (0),.int .u8 (0),.int .u8 (0),.int .u8 (0),.int .u8 (0),.int .u8 (0),.int .u8 (0),.int .u8 (0),.int .u8 (0),.int .u8 (0),.int .u8 (0),.int .u8 (0),.int .u8 (0),.int .u8 (0),.int .u8 (0),.int .u8 (0),.int .u8 (0)]⟩,[],some (some 16,295),.arr 16 295⟩),
 (315,⟨true,2,16,.agg ⟨[.int .i64 (0),.int .i64 (0)]⟩,[0,1],none,.struct [(3,(0,1)),(3,(1,1))]⟩),
 (322,⟨false,1,8,.nilFunc,[],none,.other⟩)]
theorem tys_ok:AllOk Tryz.prog tys:=⟨row3,row4,row5,row9,row21,row22,row23,row24,row26,row28,row30,row32,row33,row34,row36,row37,row38,row40,row44,row48,row56,row59,row67,row69,row73,row82,row87,row90,row91,row93,row98,row99,row102,row106,row112,row117,row121,row128,row131,row132,row135,row138,row139,row141,row142,row146,row148,row149,row151,row153,row163,row169,row177,row178,row180,row183,row185,row193,row196,row197,row206,row208,row218,row219,row222,row224,row231,row232,row233,row240,row243,row245,row246,row248,row251,row254,row258,row259,row260,row262,row266,row268,row270,row275,row276,row278,row279,row281,row282,row284,row285,row286,row289,row293,row295,row296,row315,row322,trivial⟩
theorem mixed:Tryz.prog.follows .mixedOrders=true:=by kernel_rfl
theorem ca43:callable Tryz.prog 43=true:=by kernel_rfl
theorem ca76:callable Tryz.prog 76=true:=by kernel_rfl
theorem ca79:callable Tryz.prog 79=true:=by kernel_rfl
theorem ca81:callable Tryz.prog 81=true:=by kernel_rfl
theorem ca92:callable Tryz.prog 92=true:=by kernel_rfl
theorem ca111:callable Tryz.prog 111=true:=by kernel_rfl
theorem ca126:callable Tryz.prog 126=true:=by kernel_rfl
theorem ca127:callable Tryz.prog 127=true:=by kernel_rfl
theorem ca128:callable Tryz.prog 128=true:=by kernel_rfl
theorem ca129:callable Tryz.prog 129=true:=by kernel_rfl
theorem ca130:callable Tryz.prog 130=true:=by kernel_rfl
theorem ca134:callable Tryz.prog 134=true:=by kernel_rfl
theorem ca136:callable Tryz.prog 136=true:=by kernel_rfl
theorem ca144:callable Tryz.prog 144=true:=by kernel_rfl
theorem ca148:callable Tryz.prog 148=true:=by kernel_rfl
theorem ca150:callable Tryz.prog 150=true:=by kernel_rfl
theorem ca165:callable Tryz.prog 165=true:=by kernel_rfl
theorem ca170:callable Tryz.prog 170=true:=by kernel_rfl
theorem ca180:callable Tryz.prog 180=true:=by kernel_rfl
theorem ca181:callable Tryz.prog 181=true:=by kernel_rfl
theorem ca182:callable Tryz.prog 182=true:=by kernel_rfl
theorem ca183:callable Tryz.prog 183=true:=by kernel_rfl
theorem ca224:callable Tryz.prog 224=true:=by kernel_rfl
theorem ca232:callable Tryz.prog 232=true:=by kernel_rfl
theorem ca236:callable Tryz.prog 236=true:=by kernel_rfl
theorem ca237:callable Tryz.prog 237=true:=by kernel_rfl
theorem ca238:callable Tryz.prog 238=true:=by kernel_rfl
theorem ca239:callable Tryz.prog 239=true:=by kernel_rfl
theorem ca240:callable Tryz.prog 240=true:=by kernel_rfl
theorem ca241:callable Tryz.prog 241=true:=by kernel_rfl
theorem ca242:callable Tryz.prog 242=true:=by kernel_rfl
theorem ca243:callable Tryz.prog 243=true:=by kernel_rfl
theorem ca244:callable Tryz.prog 244=true:=by kernel_rfl
def en:Env Tryz.prog:=Env.of tys tys_ok
end Go.Proofs.YtcagolloalgfiaaGreatDoor
section

end
section

end
section

end
section

end
section

end
section

end
section

end
section

end
section

end
section

end
namespace Go.RL
open Go.Conc Go.ConcN
abbrev Shp:=Nat->Option (TypeId×Nat)
def ShOk(sh:Shp)(w:World):Prop:=∀r x,sh r=some x->w.shape? r=some x
structure Cl(P:Program)(main:Bool)(sh:Shp)(J:Goroutine->Prop):Prop where
 step:∀g g',g.status=.running->(∀w,ShOk sh w->stepG P main g w=.go g' w #[])->J g'->J g
section
variable {P:Program}{main:Bool}{sh:Shp}(J:Goroutine->Prop)(n:Nat)(b:FB)(cs:List Frame)
def Sb(R:Rg)(ds:List Deferred):Prop:=∀tmps todo,RegOk n R tmps->J (G (b.back tmps ds todo) cs)
end
section
variable {P:Program}{main:Bool}{sh:Shp}{J:Goroutine->Prop}{n:Nat}{b:FB}{cs:List Frame}{R:Rg}{ds:List Deferred}{k:List Item}
def resP(fn:Func)(R:Rg)(v:Value):Prop:=(fn.results=#[]/\v=.tuple #[])\/∃t,fn.results=#[.tmp t]/\lk R t=some v
theorem resP.run {fn:Func}{v:Value}(h:resP fn R v){tmps:Array Value}(hr:RegOk n R tmps)(w:World):(results fn tmps).runT P w #[]=(.ok v w,#[]):=by
 rcases h with ⟨h1,rfl⟩|⟨t,h1,h2⟩
 ·simp[results,h1]
 ·have:tmps[t]? =some v:=hr.2 _ _ h2;simp[results,h1,this]
end
end Go.RL
section

end
section

end
namespace Go.RL
def bodyOf(fn:Func):Code:=fn.body.getD .skip
end Go.RL
namespace Go.RL
open Go.Conc
section
variable {P:Program}{M:Md P}{n:Nat}{H₀:View}{R:Rg}{L:Bl}{K:Rg->Bl->Prop}{o:Oper}{d:Nat}
theorem SymSt.more {H H':View}{B:Bl}(h:SymSt H₀ L H)(hle:H.le H')(hn:(B.map (·.1)).Nodup)(hb:∀y∈B,H' y.1=some y.2/\H y.1=none):SymSt H₀ (L++B) H':=by
 have hs:=h.mono hle;refine⟨?_,fun x hx=> ?_,fun x hx=> ?_,hs.base⟩
 ·rw[List.map_append,List.nodup_append];refine⟨hs.nodup,hn,fun a ha c hc e=> ?_⟩;obtain⟨x,hx,rfl⟩:=List.mem_map.1 ha;obtain⟨y,hy,rfl⟩:=List.mem_map.1 hc;have h1:=h.at_ x hx;rw[e,(hb y hy).2] at h1;cases h1
 ·rcases List.mem_append.1 hx with hx|hx
  ·exact hs.out x hx
  ·cases h0:H₀ x.1 with
   | none=> rfl
   | some z=>
    have h1:=h.base _ _ h0;rw[(hb x hx).2] at h1;cases h1
 ·rcases List.mem_append.1 hx with hx|hx
  ·exact hs.at_ x hx
  ·exact(hb x hx).1
theorem Or.callNew {σ:Type}{cl:Go.Call}{x:Operand}{fv:Value}{az:List Value}(val:σ->Value)(bl:σ->Bl)(p:σ->Prop)(hop:o.op=.call cl)(hcl:cl.callee=.value x)(hx:evR R x=some fv)(has:evRs R cl.args.toList=some az)(hd:o.dst=some d)(hn:d<n)
  (hnd:∀s,((bl s).map (·.1)).Nodup) (hc:∀H,SymSt H₀ L H->FnT M fv az H fun v H'=> H.le H'/\∃s,v=val s/\p s/\∀y∈bl s,H' y.1=some y.2/\H y.1=none)
  (hk:∀s,p s->K ((d,val s)::R) (L++bl s)):Or M n H₀ R L o K:=
 .callV hop hcl hx has (Q:=fun H v H'=> H.le H'/\∃s,v=val s/\p s/\∀y∈bl s,H' y.1=some y.2/\H y.1=none) hc fun H v H' hs ⟨hle,s,hv,hp,hb⟩=> by
  subst hv;exact⟨L++bl s,(d,val s)::R,hs.more hle (hnd s) hb,by rw[hd];exact⟨hn,rfl⟩,hk s hp⟩
end
section
variable {P:Program}{M:Md P}{St:View->Goroutine->Prop}{n:Nat}{b:FB}{H₀ H₁:View}{cs:List Frame}{R:Rg}{L:Bl}{ds:List Deferred}{k:List Item}{dl:List (Option Tmp)}{l:List Oper}
theorem SymSt.push {H:View}(h:SymSt H₀ L H){i blk:Nat}{x:Bool×Obj}(hi:L[i]? =some (blk,x)):SymSt (H₀.put blk x) (L.eraseIdx i) H:=by
 have hsub:(L.eraseIdx i).Sublist L:=List.eraseIdx_sublist _ _;refine⟨h.nodup.sublist (hsub.map _),fun y hy=> ?_,fun y hy=> h.at_ y (hsub.subset hy),fun c y hc=> ?_⟩
 ·rw[View.put_other]
  ·exact h.out y (hsub.subset hy)
  ·intro e;obtain⟨j,hj,hjy⟩:=List.mem_eraseIdx_iff_getElem?.1 hy;exact hj (nodup_unique h.nodup (b:=blk) (x:=y.2) (y:=x) (by rw[<-e];exact hjy) hi)
 ·by_cases e:c=blk
  ·subst e;rw[View.put_same] at hc;cases hc
   exact h.get hi
  ·rw[View.put_other _ _ e] at hc;exact h.base c y hc
theorem SymSt.pop {H:View}{blk:Nat}{x:Bool×Obj}(hb:H₁ blk=none)(h:SymSt (H₁.put blk x) L H):SymSt H₁ ((blk,x)::L) H:=by
 have hne:∀y∈L,y.1≠blk:=fun y hy e=> by
  have:=h.out y hy;rw[e,View.put_same] at this;cases this
 refine⟨?_,fun y hy=> ?_,fun y hy=> ?_,fun c y hc=> ?_⟩
 ·simp only[List.map_cons,List.nodup_cons];refine⟨fun hm=> ?_,h.nodup⟩;obtain⟨y,hy,e⟩:=List.mem_map.1 hm;exact hne y hy e
 ·rcases List.mem_cons.1 hy with rfl|hy
  ·exact hb
  ·have:=h.out y hy
   rwa [View.put_other _ _ (hne y hy)] at this
 ·rcases List.mem_cons.1 hy with rfl|hy
  ·exact h.base _ _ (View.put_same ..)
  ·exact h.at_ y hy
 ·refine h.base c y ?_;rw[View.put_other]
  ·exact hc
  ·intro e;rw[e,hb] at hc;cases hc
theorem SymSt.lower {H:View}(h:SymSt H₁ L H)(k:H₀.le H₁):SymSt H₀ L H:=
 ⟨h.nodup,fun x hx=> (by
  cases h0:H₀ x.1 with
  | none=> rfl
  | some y=> have:=h.out x hx;rw[k _ _ h0] at this;cases this),h.at_,View.le_trans k h.base⟩
theorem Tc.pop {todo:List Item}{blk:Nat}{x:Bool×Obj}(hb:H₁ blk=none)(h:Tc M St n b H₁ cs R ((blk,x)::L) ds todo):Tc M St n b (H₁.put blk x) cs R L ds todo:=fun H tmps hs hr=> h H tmps (hs.pop hb) hr
theorem Tc.lower {todo:List Item}(hle:H₀.le H₁)(h:Tc M St n b H₀ cs R L ds todo):Tc M St n b H₁ cs R L ds todo:=fun H tmps hs hr=> h H tmps (hs.lower hle) hr
theorem To.pop {blk:Nat}{x:Bool×Obj}(hb:H₁ blk=none)(h:To M St n b H₁ cs dl R ((blk,x)::L) ds l k):To M St n b (H₁.put blk x) cs dl R L ds l k:=fun arr ix ha hx=> .pop hb (h arr ix ha hx)
theorem To.lower(hle:H₀.le H₁)(h:To M St n b H₀ cs dl R L ds l k):To M St n b H₁ cs dl R L ds l k:=fun arr ix ha hx=> .lower hle (h arr ix ha hx)
theorem SymSt.fresh {H:View}(h:SymSt H₀ L H){i blk:Nat}{x:Bool×Obj}(hi:L[i]? =some (blk,x)):H₀ blk=none:=h.out _ (List.mem_of_getElem? hi)
theorem Tc.pushF {todo:List Item}(i:Nat){blk:Nat}{x:Bool×Obj}(hi:L[i]? =some (blk,x))(h:H₀ blk=none->Tc M St n b (H₀.put blk x) cs R (L.eraseIdx i) ds todo):Tc M St n b H₀ cs R L ds todo:=fun H tmps hs hr=> h (hs.fresh hi) H tmps (hs.push hi) hr
theorem To.pushF(i:Nat){blk:Nat}{x:Bool×Obj}(hi:L[i]? =some (blk,x))(h:H₀ blk=none->To M St n b (H₀.put blk x) cs dl R (L.eraseIdx i) ds l k):To M St n b H₀ cs dl R L ds l k:=fun arr ix ha hx=> .pushF i hi fun hf=> h hf arr ix ha hx
theorem SymSt.perm {H:View}(h:SymSt H₀ L H){L':Bl}(p:L'.Perm L):SymSt H₀ L' H:=
 ⟨(p.map (·.1)).nodup_iff.2 h.nodup,fun x hx=> h.out x (p.mem_iff.1 hx),fun x hx=> h.at_ x (p.mem_iff.1 hx),h.base⟩
theorem SymSt.append {H H':View}{B:Bl}(h:SymSt H₀ L H)(g:SymSt H B H'):SymSt H₀ (B++L) H':=by
 refine⟨?_,fun x hx=> ?_,fun x hx=> ?_,View.le_trans h.base g.base⟩
 ·rw[List.map_append,List.nodup_append];refine⟨g.nodup,h.nodup,fun a ha c hc e=> ?_⟩;obtain⟨x,hx,rfl⟩:=List.mem_map.1 ha;obtain⟨y,hy,rfl⟩:=List.mem_map.1 hc;have h1:=h.at_ y hy;rw[<-e,g.out x hx] at h1;cases h1
 ·rcases List.mem_append.1 hx with hx|hx
  ·cases h0:H₀ x.1 with
   | none=> rfl
   | some z=>
    have h1:=h.base _ _ h0;rw[g.out x hx] at h1;cases h1
  ·exact h.out x hx
 ·rcases List.mem_append.1 hx with hx|hx
  ·exact g.at_ x hx
  ·exact g.base _ _ (h.at_ x hx)
theorem SymSt.unappend {H':View}{B:Bl}(h:SymSt H₀ (B++L) H'):∃H,SymSt H B H'/\SymSt H₀ L H:=by
 have hnd:=h.nodup;rw[List.map_append,List.nodup_append] at hnd;obtain⟨n1,n2,n3⟩:=hnd;refine⟨fun c=> if c∈B.map (·.1) then none else H' c,⟨n1,fun x hx=> ?_,fun x hx=> h.at_ x (List.mem_append_left _ hx),fun c x hc=> ?_⟩,⟨n2,fun x hx=> h.out x (List.mem_append_right _ hx),fun x hx=> ?_,fun c x hc=> ?_⟩⟩
 ·have:x.1∈B.map (·.1):=List.mem_map_of_mem hx;exact if_pos this
 ·split at hc
  ·cases hc
  ·exact hc
 ·have:x.1 ∉ B.map (·.1):=fun hm=> n3 _ hm _ (List.mem_map_of_mem hx) rfl;exact(if_neg this).trans (h.at_ x (List.mem_append_right _ hx))
 ·have:c ∉ B.map (·.1):=fun hm=> by
   obtain⟨y,hy,e⟩:=List.mem_map.1 hm;have:=h.out y (List.mem_append_left _ hy);rw[e,hc] at this;cases this
  exact(if_neg this).trans (h.base c x hc)
end
def IterT {P:Program}(M:Md P){α ε:Type}(fv:Value)(xs:List α)(arg:α->ε->List Value)(B B':α->ε->Bl)(Cap:View->Prop)(A:Bl)(H:View):Prop:=
 ∀ (l:Nat) (J:List α->View->Prop) (D:View->Prop),(∀rest H',J rest H'->Cap H')->J xs H-> 
  (∀x rest e H' H'',x∈xs->J (x::rest) H'->SymSt H' (B x e) H''->FnT M (.func (.yield l) #[] #[]) (arg x e) H'' fun v H3=> (v=.bool true/\∃H₂,SymSt H₂ (B' x e) H3/\J rest H₂)\/(v=.bool false/\D H3))-> 
  ∀H',SymSt H A H'->FnT M fv [.func (.yield l) #[] #[]] H' fun _ H3=> ∃H₁,H₁.le H3/\(J [] H₁\/D H₁)
def Loop.jumped(lp:Loop)(j:Code):Loop:= { lp with state:=.done,pending:=some j }
section
variable {P:Program}{M:Md P}{St:View->Goroutine->Prop}{n:Nat}{b:FB}{H₀:View}{cs:List Frame}{R:Rg}{L:Bl}{ds:List Deferred}{k:List Item}
variable {L₀ A:Bl}{α ε:Type}{fv:Value}{xs:List α}{arg:α->ε->List Value}{B B':α->ε->Bl}{Cap:View->Prop}
def RoundOk(M:Md P)(n:Nat)(b:FB)(R:Rg)(arg:α->ε->List Value)(B B':α->ε->Bl)(ts:List Nat)(assign body:Code)(I:List α->View->Bl->Prop)(Dn:Code->View->Bl->Prop)(xs:List α)(df:Nat)(T:Bl->Bl):Prop:=
 ∀ x rest e l tmps asg bdy H₁ L₁,x∈xs->I (x::rest) H₁ L₁->∀(Q:Value->View->Prop) (St:View->Goroutine->Prop) (c:Frame) (cs:List Frame),(∀v H',Q v H'->Go.RL.T M St H' (G (c.finish v) cs))-> 
  (∀H' H₂ L₂,SymSt H₂ (B' x e++(l,true,.loop (Loop.fresh b.fn tmps ts.toArray asg bdy df))::T L₂) H'->I rest H₂ L₂->Q (.bool true) H')-> 
  (∀H' H₂ L₂ j,SymSt H₂ ((l,true,.loop (Loop.jumped (Loop.fresh b.fn tmps ts.toArray asg bdy df) j))::T L₂) H'->Dn j H₂ L₂->Q (.bool false) H')-> 
  Tc M St n ⟨b.fn,.normal,some l⟩ H₁ (c::cs) (putR R ts (arg x e)) (B x e++(l,true,.loop (Loop.fresh b.fn tmps ts.toArray asg bdy df))::T L₁) [] [.code assign,.beginRound,.code body]
theorem Tc.rangeL {f:Operand}{assign body:Code}{ts:List Nat}{pa:Array Tmp}(I:List α->View->Bl->Prop)(Dn:Code->View->Bl->Prop)(hpa:pa=ts.toArray)(hrd:b.rd=none)(hf:evR R f=some fv)(hA:L=A++L₀)(hit:∀H,Cap H->IterT M fv xs arg B B' Cap A H)
  (hC:∀H H',H.le H'->Cap H->Cap H') (hI:∀rest H₁ L₁,I rest H₁ L₁->Cap H₁) (hts:(ts.all fun t=> Nat.blt t n)=true) (hlen:∀x e,ts.length=(arg x e).length) (h0:I xs H₀ L₀)
  (round:∀r,RoundOk M n b R arg B B' ts assign body I Dn xs r fun L₁=> (r,true,.deferred (some []))::L₁)
  (hk:∀r H₁ L₁,I [] H₁ L₁->Tc M St n b H₁ cs R ((r,true,.deferred (some []))::L₁) (markOf r::ds) k)
  (hkj:∀r j H₁ L₁,Dn j H₁ L₁->Tc M St n b H₁ cs R ((r,true,.deferred (some []))::L₁) (markOf r::ds) (.code j::k)):
  Tc M St n b H₀ cs R L ds (.code (.rangeFunc f pa assign body)::k):=by
 subst hpa;refine Tc.rangeFunc hrd hf (fun l r j H₁ L₁=> (j=none/\I [] H₁ L₁)\/∃j',j=some j'/\Dn j' H₁ L₁) (fun l r tmps H hr hs=> ?_) (fun l r j H₁ L₁ hz=> ?_)
 ·rw[hA] at hs;obtain⟨H',hsA,hs⟩:=(hs.perm (L':=A++(l,true,.loop (Loop.fresh b.fn tmps ts.toArray assign body r))::(r,true,.deferred (some []))::L₀) (by
   refine(List.perm_middle.trans ?_);exact .cons _ List.perm_middle)).unappend
  have hcap:Cap H':=hC _ _ hs.base (hI _ _ _ h0);have hJ:∀rest Hv,(∃H₁ L₁,SymSt H₁ ((l,true,.loop (Loop.fresh b.fn tmps ts.toArray assign body r))::(r,true,.deferred (some []))::L₁) Hv/\I rest H₁ L₁)->Cap Hv:=by
   rintro rest Hv ⟨H₁,L₁,h1,h2⟩;exact hC _ _ h1.base (hI _ _ _ h2)
  refine FnT.mono (hit H' hcap l (fun rest Hv=> ∃H₁ L₁,SymSt H₁ ((l,true,.loop (Loop.fresh b.fn tmps ts.toArray assign body r))::(r,true,.deferred (some []))::L₁) Hv/\I rest H₁ L₁)
   (fun Hv=> ∃H₁ L₁ j,SymSt H₁ ((l,true,.loop (Loop.jumped (Loop.fresh b.fn tmps ts.toArray assign body r) j))::(r,true,.deferred (some []))::L₁) Hv/\Dn j H₁ L₁) hJ ⟨H₀,L₀,hs,h0⟩ ?_ H hsA) ?_
  ·rintro x rest e H' H'' hsuf ⟨H₁,L₁,h1,h2⟩ h3;refine FnT.round (i:=(B x e).length) (lp:=Loop.fresh b.fn tmps ts.toArray assign body r) (l:=l) (h1.append h3) (by simp) rfl hts (hlen x e) hr fun St c cs hK=> ?_;exact round r x rest e l tmps assign body H₁ L₁ hsuf h2 _ St c cs hK (fun H' H₂ L₂ g1 g2=> by
    obtain⟨Hm,g3,g4⟩:=g1.unappend;exact .inl ⟨rfl,Hm,g3,H₂,L₂,g4,g2⟩) (fun H' H₂ L₂ j g1 g2=> .inr ⟨rfl,H₂,L₂,j,g1,g2⟩)
  ·rintro v H' ⟨Hv,hle,⟨H₁,L₁,g1,g2⟩|⟨H₁,L₁,j,g1,g2⟩⟩
   ·exact⟨H₁,L₁,Loop.fresh b.fn tmps ts.toArray assign body r,g1.mono hle,(fun h=> nomatch h),.inl ⟨rfl,g2⟩⟩
   ·exact⟨H₁,L₁,Loop.jumped (Loop.fresh b.fn tmps ts.toArray assign body r) j,g1.mono hle,(fun h=> nomatch h),.inr ⟨j,rfl,g2⟩⟩
 ·rcases hz with ⟨rfl,hz⟩|⟨j',rfl,hz⟩
  ·exact hk r H₁ L₁ hz
  ·exact hkj r j' H₁ L₁ hz
theorem Tc.rangeLIn {f:Operand}{assign body:Code}{ts:List Nat}{pa:Array Tmp}{lo i:Nat}{lpo:Loop}(I:List α->View->Bl->Prop)(Dn:Code->View->Bl->Prop)(hpa:pa=ts.toArray)(hrd:b.rd=some lo)(hi:L[i]? =some (lo,true,.loop lpo))(hf:evR R f=some fv)(hA:L=A++L₀)(hit:∀H,Cap H->IterT M fv xs arg B B' Cap A H)
  (hC:∀H H',H.le H'->Cap H->Cap H') (hI:∀rest H₁ L₁,I rest H₁ L₁->Cap H₁) (hts:(ts.all fun t=> Nat.blt t n)=true) (hlen:∀x e,ts.length=(arg x e).length) (h0:I xs H₀ L₀)
  (round:RoundOk M n b R arg B B' ts assign body I Dn xs lpo.defers fun L₁=> L₁)
  (hk:∀H₁ L₁,I [] H₁ L₁->Tc M St n b H₁ cs R L₁ ds k)
  (hkj:∀j H₁ L₁,Dn j H₁ L₁->Tc M St n b H₁ cs R L₁ ds (.code j::k)):
  Tc M St n b H₀ cs R L ds (.code (.rangeFunc f pa assign body)::k):=by
 subst hpa;refine Tc.rangeFuncIn hrd hi hf (fun l j H₁ L₁=> (j=none/\I [] H₁ L₁)\/∃j',j=some j'/\Dn j' H₁ L₁) (fun l tmps H hr hs=> ?_) (fun l j H₁ L₁ hz=> ?_)
 ·rw[hA] at hs;obtain⟨H',hsA,hs⟩:=(hs.perm (L':=A++(l,true,.loop (Loop.fresh b.fn tmps ts.toArray assign body lpo.defers))::L₀) List.perm_middle).unappend;have hcap:Cap H':=hC _ _ hs.base (hI _ _ _ h0);have hJ:∀rest Hv,(∃H₁ L₁,SymSt H₁ ((l,true,.loop (Loop.fresh b.fn tmps ts.toArray assign body lpo.defers))::L₁) Hv/\I rest H₁ L₁)->Cap Hv:=by
   rintro rest Hv ⟨H₁,L₁,h1,h2⟩;exact hC _ _ h1.base (hI _ _ _ h2)
  refine FnT.mono (hit H' hcap l (fun rest Hv=> ∃H₁ L₁,SymSt H₁ ((l,true,.loop (Loop.fresh b.fn tmps ts.toArray assign body lpo.defers))::L₁) Hv/\I rest H₁ L₁)
   (fun Hv=> ∃H₁ L₁ j,SymSt H₁ ((l,true,.loop (Loop.jumped (Loop.fresh b.fn tmps ts.toArray assign body lpo.defers) j))::L₁) Hv/\Dn j H₁ L₁) hJ ⟨H₀,L₀,hs,h0⟩ ?_ H hsA) ?_
  ·rintro x rest e H' H'' hsuf ⟨H₁,L₁,h1,h2⟩ h3;refine FnT.round (i:=(B x e).length) (lp:=Loop.fresh b.fn tmps ts.toArray assign body lpo.defers) (l:=l) (h1.append h3) (by simp) rfl hts (hlen x e) hr fun St c cs hK=> ?_;exact round x rest e l tmps assign body H₁ L₁ hsuf h2 _ St c cs hK (fun H' H₂ L₂ g1 g2=> by
    obtain⟨Hm,g3,g4⟩:=g1.unappend;exact .inl ⟨rfl,Hm,g3,H₂,L₂,g4,g2⟩) (fun H' H₂ L₂ j g1 g2=> .inr ⟨rfl,H₂,L₂,j,g1,g2⟩)
  ·rintro v H' ⟨Hv,hle,⟨H₁,L₁,g1,g2⟩|⟨H₁,L₁,j,g1,g2⟩⟩
   ·exact⟨H₁,L₁,Loop.fresh b.fn tmps ts.toArray assign body lpo.defers,g1.mono hle,(fun h=> nomatch h),.inl ⟨rfl,g2⟩⟩
   ·exact⟨H₁,L₁,Loop.jumped (Loop.fresh b.fn tmps ts.toArray assign body lpo.defers) j,g1.mono hle,(fun h=> nomatch h),.inr ⟨j,rfl,g2⟩⟩
 ·rcases hz with ⟨rfl,hz⟩|⟨j',rfl,hz⟩
  ·exact hk H₁ L₁ hz
  ·exact hkj j' H₁ L₁ hz
theorem Tc.rangeLc {f:Operand}{assign body:Code}{ts:List Nat}{pa:Array Tmp}(I:List α->View->Prop)(Dn:Code->View->Prop)(hpa:pa=ts.toArray)(hrd:b.rd=none)(hf:evR R f=some fv)(hA:L=A++L₀)(hit:∀H,Cap H->IterT M fv xs arg B B' Cap A H)
  (hC:∀H H',H.le H'->Cap H->Cap H') (hI:∀rest H₁,I rest H₁->Cap H₁) (hts:(ts.all fun t=> Nat.blt t n)=true) (hlen:∀x e,ts.length=(arg x e).length) (h0:I xs H₀)
  (round:∀r,RoundOk M n b R arg B B' ts assign body (fun rest H₁ L₁=> L₁=L₀/\I rest H₁) (fun j H₁ L₁=> L₁=L₀/\Dn j H₁) xs r fun L₁=> (r,true,.deferred (some []))::L₁)
  (hk:∀r H₁,I [] H₁->Tc M St n b H₁ cs R ((r,true,.deferred (some []))::L₀) (markOf r::ds) k)
  (hkj:∀r j H₁,Dn j H₁->Tc M St n b H₁ cs R ((r,true,.deferred (some []))::L₀) (markOf r::ds) (.code j::k)):
  Tc M St n b H₀ cs R L ds (.code (.rangeFunc f pa assign body)::k):=
 .rangeL (fun rest H₁ L₁=> L₁=L₀/\I rest H₁) (fun j H₁ L₁=> L₁=L₀/\Dn j H₁) hpa hrd hf hA hit hC (fun rest H₁ _ h=> hI rest H₁ h.2) hts hlen ⟨rfl,h0⟩ round (fun r H₁ L₁ h=> by obtain⟨rfl,h⟩:=h;exact hk r H₁ h) (fun r j H₁ L₁ h=> by obtain⟨rfl,h⟩:=h;exact hkj r j H₁ h)
theorem Tc.rangeLcIn {f:Operand}{assign body:Code}{ts:List Nat}{pa:Array Tmp}{lo i:Nat}{lpo:Loop}(I:List α->View->Prop)(Dn:Code->View->Prop)(hpa:pa=ts.toArray)(hrd:b.rd=some lo)(hi:L[i]? =some (lo,true,.loop lpo))(hf:evR R f=some fv)(hA:L=A++L₀)(hit:∀H,Cap H->IterT M fv xs arg B B' Cap A H)
  (hC:∀H H',H.le H'->Cap H->Cap H') (hI:∀rest H₁,I rest H₁->Cap H₁) (hts:(ts.all fun t=> Nat.blt t n)=true) (hlen:∀x e,ts.length=(arg x e).length) (h0:I xs H₀)
  (round:RoundOk M n b R arg B B' ts assign body (fun rest H₁ L₁=> L₁=L₀/\I rest H₁) (fun j H₁ L₁=> L₁=L₀/\Dn j H₁) xs lpo.defers fun L₁=> L₁)
  (hk:∀H₁,I [] H₁->Tc M St n b H₁ cs R L₀ ds k)
  (hkj:∀j H₁,Dn j H₁->Tc M St n b H₁ cs R L₀ ds (.code j::k)):
  Tc M St n b H₀ cs R L ds (.code (.rangeFunc f pa assign body)::k):=
 .rangeLIn (fun rest H₁ L₁=> L₁=L₀/\I rest H₁) (fun j H₁ L₁=> L₁=L₀/\Dn j H₁) hpa hrd hi hf hA hit hC (fun rest H₁ _ h=> hI rest H₁ h.2) hts hlen ⟨rfl,h0⟩ round (fun H₁ L₁ h=> by obtain⟨rfl,h⟩:=h;exact hk H₁ h) (fun j H₁ L₁ h=> by obtain⟨rfl,h⟩:=h;exact hkj j H₁ h)
end
section
variable {P:Program}{M:Md P}{St:View->Goroutine->Prop}{n:Nat}{b:FB}{H₀ H₁:View}{cs:List Frame}{R:Rg}{L L':Bl}{ds:List Deferred}{k:List Item}{S:Array Bool->View->Prop}{md:Region.Mode}{ops:Array Oper}
def S3(H₀:View)(B C:List Nat)(Ls L:Bl):Array Bool->View->Prop:=fun listed H=> (C.all fun j=> !(listed.getD j true))=true->S2 H₀ B Ls L listed H
def waitsN(md:Region.Mode)(ops:Array Oper)(i:Nat):Nat->Nat->Bool
 | 0,_=> false
 | f+1,j=> match ops[j]? with
  | some o=> o.after.any fun e=> Region.binds md e&&(e.on==i||waitsN md ops i f e.on)
  | none=> false
theorem waitsN_ok {i:Nat}{listed:Array Bool}(hc:closedL md ops listed=true)(hu:listed.getD i true=false):∀(f j:Nat),waitsN md ops i f j=true->listed.getD j true=false
 | 0,_,h=> by cases h
 | f + 1,j,h=> by
  unfold waitsN at h;cases hl:listed.getD j true with
  | false=> rfl
  | true=>
   split at h
   ·rename_i o ho
    rw[Array.any_eq_true'] at h;obtain⟨e,he,hb⟩:=h;simp only[Bool.and_eq_true,Bool.or_eq_true,beq_iff_eq] at hb;have h1:=closedL_spec hc ho hl he hb.1;have h2:listed.getD e.on true=false:=by
     rcases hb.2 with h3|h3
     ·rw[h3];exact hu
     ·exact waitsN_ok hc hu f e.on h3
    rcases Nat.lt_or_ge e.on listed.size with h'|h'
    ·simp[h'] at h1 h2
     rw[h2] at h1;cases h1
    ·simp[Array.getElem?_eq_none h'] at h2
   ·cases h
theorem S3.same {B C:List Nat}{Ls:Bl}{i:Nat}(hi:B.contains i=false)(hC:C.contains i=false):∀listed H,S3 H₀ B C Ls L (listed.setIfInBounds i true) H<->S3 H₀ B C Ls L listed H:=fun listed H=> by
 have:(C.all fun j=> !((listed.setIfInBounds i true).getD j true))=C.all fun j=> !(listed.getD j true):=by
  rw[Bool.eq_iff_iff,List.all_eq_true,List.all_eq_true];refine forall_congr' fun j=> forall_congr' fun hj=> ?_;have hne:i≠j:=by
   rintro rfl;have:C.contains i=true:=by simpa using hj
   rw[hC] at this;cases this
  rw[getD_set_ne true hne]
 unfold S3;rw[this,S2.same hi]
def takeOkC(md:Region.Mode)(ops:Array Oper)(B C:List Nat)(listed:Array Bool)(i:Nat):Bool:=
 takeOk md ops [] listed i && !(B.contains i)&&(B.all fun j=> waitsN md ops i ops.size j) && !(C.contains i)&&C.all fun j=> waitsN md ops i ops.size j
theorem S2.strongN {B:List Nat}{Ls:Bl}{i:Nat}{listed:Array Bool}{H:View}(h:S2 H₀ B Ls L listed H)(hc:closedL md ops listed=true)(hu:listed.getD i true=false)(hB:(B.all fun j=> waitsN md ops i ops.size j)=true):SymSt H₀ L H:=by
 refine h.2 ?_;rw[List.all_eq_true] at hB ⊢;intro j hj;rw[waitsN_ok hc hu _ j (hB j hj)];rfl
theorem S3.use {B C:List Nat}{Ls:Bl}{i:Nat}{listed:Array Bool}{H:View}(h:S3 H₀ B C Ls L listed H)(hc:closedL md ops listed=true)(hu:listed.getD i true=false)(hC:(C.all fun j=> waitsN md ops i ops.size j)=true):S2 H₀ B Ls L listed H:=by
 refine h ?_;rw[List.all_eq_true] at hC ⊢;intro j hj;rw[waitsN_ok hc hu _ j (hC j hj)];rfl
theorem S3.keep {B C:List Nat}{Ls:Bl}{listed:Array Bool}{H H':View}(h:S3 H₀ B C Ls L listed H)(k:H.le H'):S3 H₀ B C Ls L listed H':=fun hh=> ⟨(h hh).1.mono k,fun h2=> ((h hh).2 h2).mono k⟩
theorem Ta.tkC(i:Nat){B C:List Nat}{Ls L₁:Bl}{o:Oper}{d:Nat}{v:Value}{fuel:Nat}{listed:Array Bool}(hc:takeOkC md ops B C listed i=true)(hi:ops[i]? =some o)(hd:o.dst=some d)(hn:d<n)(hnd:isDefer o.op=false)(hw:wantB (ops.toList.map (fun o:Oper=> o.dst)) R o=some true)
  (hv:∀H tmps,SymSt H₀ L H->RegOk n R tmps->OpVal M o tmps H fun u H'=> u=v/\H.le H')
  (h:Ta M St n b H₀ cs (S3 H₀ B C Ls L) md ops fuel (listed.setIfInBounds i true) ((d,v)::R) L₁ ds k):Ta M St n b H₀ cs (S3 H₀ B C Ls L) md ops (fuel+1) listed R L₁ ds k:=by
 simp only[takeOkC,takeOk,Bool.and_eq_true,Bool.not_eq_true'] at hc;obtain⟨⟨⟨⟨⟨⟨⟨⟨⟨hsel,hr⟩,hf⟩,hcl⟩,_⟩,_⟩,hSi⟩,hB⟩,hCi⟩,hC⟩:=hc;exact .take i hi hsel hr hf hd hn hnd hcl (S3.same hSi hCi) hw (fun _ hc hu H tmps hS hr=> by
  have:=hv H tmps ((hS.use hc hu hC).strongN hc hu hB) hr;unfold OpVal at this ⊢;have fin:∀u H',(u=v/\H.le H')->u=v/\H.le H'/\S3 H₀ B C Ls L _ H':=fun u H' ⟨h1,h2⟩=> ⟨h1,h2,hS.keep h2⟩
  refine vwp_mono _ (fun nx H' hn=> ?_) this;cases nx <;> first
   | exact hn.elim
   | exact fin _ _ hn
   | exact CallT.mono hn fin
   | exact GoT.mono hn fin) h
theorem Ta.tkwC(i:Nat){B C:List Nat}{Ls L₁:Bl}{o:Oper}{d:Nat}{v:Value}{fuel:Nat}{listed:Array Bool}(hc:takeOkC md ops [] C listed i=true)(hSi:B.contains i=false)(hi:ops[i]? =some o)(hd:o.dst=some d)(hn:d<n)(hnd:isDefer o.op=false)(hw:wantB (ops.toList.map (fun o:Oper=> o.dst)) R o=some true)
  (hv:∀H tmps,SymSt H₀ Ls H->RegOk n R tmps->OpVal M o tmps H fun u H'=> u=v/\H.le H')
  (h:Ta M St n b H₀ cs (S3 H₀ B C Ls L) md ops fuel (listed.setIfInBounds i true) ((d,v)::R) L₁ ds k):Ta M St n b H₀ cs (S3 H₀ B C Ls L) md ops (fuel+1) listed R L₁ ds k:=by
 simp only[takeOkC,takeOk,Bool.and_eq_true,Bool.not_eq_true'] at hc;obtain⟨⟨⟨⟨⟨⟨⟨⟨⟨hsel,hr⟩,hf⟩,hcl⟩,_⟩,_⟩,_⟩,_⟩,hCi⟩,hC⟩:=hc;exact .take i hi hsel hr hf hd hn hnd hcl (S3.same hSi hCi) hw (fun _ hc hu H tmps hS hr=> by
  have:=hv H tmps (hS.use hc hu hC).1 hr;unfold OpVal at this ⊢;have fin:∀u H',(u=v/\H.le H')->u=v/\H.le H'/\S3 H₀ B C Ls L _ H':=fun u H' ⟨h1,h2⟩=> ⟨h1,h2,hS.keep h2⟩
  refine vwp_mono _ (fun nx H' hn=> ?_) this;cases nx <;> first
   | exact hn.elim
   | exact fin _ _ hn
   | exact CallT.mono hn fin
   | exact GoT.mono hn fin) h
theorem Ta.psC(i:Nat){B C:List Nat}{Ls L₁:Bl}{o:Oper}{d:Nat}{fuel:Nat}{listed:Array Bool}(hc:takeOkC md ops [] C listed i=true)(hSi:B.contains i=false)(hi:ops[i]? =some o)(hd:o.dst=some d)(hn:d<n)(hnd:isDefer o.op=false)(hw:wantB (ops.toList.map (fun o:Oper=> o.dst)) R o=some false)
  (h:Ta M St n b H₀ cs (S3 H₀ B C Ls L) md ops fuel (listed.setIfInBounds i true) ((d,undef)::R) L₁ ds k):Ta M St n b H₀ cs (S3 H₀ B C Ls L) md ops (fuel+1) listed R L₁ ds k:=by
 simp only[takeOkC,takeOk,Bool.and_eq_true,Bool.not_eq_true'] at hc;obtain⟨⟨⟨⟨⟨⟨⟨⟨⟨hsel,hr⟩,hf⟩,hcl⟩,_⟩,_⟩,_⟩,_⟩,hCi⟩,hC⟩:=hc;exact .pass i hi hsel hr hf hd hn hnd hcl (S3.same hSi hCi) hw h
theorem Ta.tkP(i:Nat){B C:List Nat}{Ls L₁:Bl}{o:Oper}{d:Nat}{v:Value}{fuel:Nat}{listed:Array Bool}(hc:takeOk md ops [] listed i=true)(hSi:B.contains i=false)(hCi:C.contains i=false)(hi:ops[i]? =some o)(hd:o.dst=some d)(hn:d<n)(hnd:isDefer o.op=false)(hw:wantB (ops.toList.map (fun o:Oper=> o.dst)) R o=some true)
  (hv:∀H tmps,SymSt (fun _=> none) [] H->RegOk n R tmps->OpVal M o tmps H fun u H'=> u=v/\H.le H')
  (h:Ta M St n b H₀ cs (S3 H₁ B C Ls L) md ops fuel (listed.setIfInBounds i true) ((d,v)::R) L₁ ds k):Ta M St n b H₀ cs (S3 H₁ B C Ls L) md ops (fuel+1) listed R L₁ ds k:=by
 simp only[takeOk,Bool.and_eq_true,Bool.not_eq_true'] at hc;obtain⟨⟨⟨⟨⟨hsel,hr⟩,hf⟩,hcl⟩,_⟩,_⟩:=hc;exact .take i hi hsel hr hf hd hn hnd hcl (S3.same hSi hCi) hw (fun _ _ _ H tmps hS hr=> by
  have:=hv H tmps ⟨by simp,by simp,by simp,fun _ _ h=> nomatch h⟩ hr;unfold OpVal at this ⊢;have fin:∀u H',(u=v/\H.le H')->u=v/\H.le H'/\S3 H₁ B C Ls L _ H':=fun u H' ⟨h1,h2⟩=> ⟨h1,h2,hS.keep h2⟩
  refine vwp_mono _ (fun nx H' hn=> ?_) this;cases nx <;> first
   | exact hn.elim
   | exact fin _ _ hn
   | exact CallT.mono hn fin
   | exact GoT.mono hn fin) h
theorem S3.mk {B C:List Nat}{Ls L₁:Bl}{listed:Array Bool}(h1:Ls.Sublist L₁)(h2:(B.all fun j=> !(listed.getD j true))=false\/L.Sublist L₁):∀H,SymSt H₀ L₁ H->S3 H₀ B C Ls L listed H:=fun H hs _=> S2.mk h1 h2 H hs
theorem S3.off {B C:List Nat}{Ls L₁:Bl}{listed:Array Bool}{H₁:View}(h:(C.all fun j=> !(listed.getD j true))=false):∀H,SymSt H₁ L₁ H->S3 H₀ B C Ls L listed H:=fun H _ hh=> by rw[h] at hh;cases hh
theorem Tc.drC {id:Nat}{fuel:Nat}(B C E:List Nat)(hm:P.follows .mixedOrders=true)(hf:ops.size=fuel)(h:Ta M St n b H₀ cs (S3 H₀ B C (eraseL L E) L) .any ops fuel (Array.replicate fuel false) R L ds k):
  Tc M St n b H₀ cs R L ds (.code (.region id ops true)::k):=fun H tmps hs hr=> by
 subst hf;refine .region_draw fun t=> ?_;simp only[Region.schedule,hm,Bool.true_or,if_true];have hS:=S3.mk (H₀:=H₀) (B:=B) (C:=C) (listed:=Array.replicate ops.size false) (eraseL_sub E L) (.inr (List.Sublist.refl L)) H hs;exact(h H tmps hs hr hS).sound _ t _ _ _ hS
theorem Ta.callF(i:Nat){B C:List Nat}{Hs:View}{Ls Lb:Bl}{o:Oper}{d:Nat}{fuel:Nat}{listed:Array Bool}{cl:Go.Call}{x:Operand}{fv:Value}{az:List Value}(hr:Region.ready md ops listed= [i])(hi:ops[i]? =some o)(hC:(C.all fun j=> !((listed.setIfInBounds i true).getD j true))=false)
  (hw:wantB (ops.toList.map (fun o:Oper=> o.dst)) R o=some true) (hop:o.op=.call cl) (hcl:cl.callee=.value x) (hx:evR R x=some fv) (has:evRs R cl.args.toList=some az) (hd:o.dst=some d) (hn:d<n)
  {Q:Value->View->Prop} (hc:FnT M fv az H₀ Q) (hk:∀v H₁,Q v H₁->Ta M St n b H₁ cs (S3 Hs B C Ls Lb) md ops fuel (listed.setIfInBounds i true) ((d,v)::R) L ds k):
  Ta M St n b H₀ cs (S3 Hs B C Ls Lb) md ops (fuel+1) listed R L ds k:=fun H tmps hs hr' _ H₂ h2 _=> by
 have hs:=hs.mono h2;refine⟨fun e=> (by rw[hr] at e;cases e),fun j hj o' ho'=> ?_⟩;rw[hr] at hj;have:j=i:=by simpa using hj
 subst this;rw[hi] at ho';cases ho'
 refine⟨(by rw[hop];rfl),?_⟩;have hw':Region.wanted o (yielded ops tmps)=true:=wantB_ok (fun j=> by
  simp only[List.getElem?_map,Array.getElem?_toList];cases ops[j]? <;> rfl) hr' hw
 rw[if_pos hw'];obtain⟨F,rfl,hdj,hF⟩:=hs.split;have e1:=hr'.ev hx;have hmap:cl.args.map (evT tmps)=az.toArray:=by
  apply Array.ext'
  simpa using hr'.evs has
 have hex:execOp (evT tmps) o=(Deferred.ofValue fv az.toArray).bind fun d=> invoke d.target d.args:=by
  have h1:execOp (evT tmps) o=(resolve (evT tmps) cl o.type).bind fun d=> invoke d.target d.args:=by unfold execOp;rw[hop];rfl
  rw[h1];unfold resolve;rw[hcl];simp only[e1,hmap]
 unfold OpRun;rw[hex];have fin:∀v H'',Beside F Q v H''->S3 Hs B C Ls Lb (listed.setIfInBounds j true) H''/\AnyT M md ops (S3 Hs B C Ls Lb) (fun tmps H=> T M St H (G (b.at tmps ds k) cs)) fuel (listed.setIfInBounds j true) (putT tmps o.dst v) H'':=by
  rintro v H'' ⟨H₁,rfl,hd',hq⟩;have hS:S3 Hs B C Ls Lb (listed.setIfInBounds j true) (H₁.plus F):=fun hh=> by rw[hC] at hh;cases hh
  refine⟨hS,?_⟩;rw[hd];exact hk v H₁ hq _ _ (.joined hs.nodup hF hd') (hr'.put hn v) hS
 refine vwp_mono _ (fun nx H' hn'=> ?_) (hc.frame hdj);cases nx <;> first
  | exact hn'.elim
  | exact CallT.mono hn' fin
  | exact GoT.mono hn' fin
theorem Ta.lower {fuel:Nat}{listed:Array Bool}(hle:H₀.le H₁)(h:Ta M St n b H₀ cs S md ops fuel listed R L ds k):Ta M St n b H₁ cs S md ops fuel listed R L ds k:=fun H tmps hs=> h H tmps (hs.lower hle)
theorem plus_le {H H' F:View}(h:H.le H')(hd:Dj H' F):(H.plus F).le (H'.plus F):=fun b x hb=> by
 unfold View.plus at hb;split at hb
 ·rename_i y hy
  cases hb
  exact plus_left (h b _ hy)
 ·rw[plus_right (hd b x hb)];exact hb
end
section
variable {P:Program}{E:Env P}{M:Md P}{n:Nat}{H₀:View}{R:Rg}{L L':Bl}{K:Rg->Bl->Prop}{o:Oper}{d:Nat}{v:Value}
theorem Or.appendIn(i:Nat){cl:Go.Call}{x y:Operand}{t xt e:TypeId}{sz m q cap blk:Nat}{yv:Value}{new c c':List Value}{r re rx:TyRow}{ex:TypeId}(hop:o.op=.call cl)(hcl:cl.callee=.builtin .append)(hat:cl.argTypes=#[t,xt])(har:cl.args=#[x,y])
  (hx:evR R x=some (.slice (some ⟨blk,0,none⟩) q cap)) (hy:evR R y=some yv) (ht:E.ty t=some r) (hds:r.ds=.slice e) (hre:E.ty e=some re) (hsz:re.size=sz) (hxt:E.ty xt=some rx) (hex:rx.ds=.slice ex)
  (hi:L[i]? =some (blk,true,.cells ⟨c⟩ e (0,0))) (hsrc:∀H,SymSt H₀ L H->SrcAt H sz yv m new) (hs:new.all single=true) (hcap:q+m<=cap) (hl:q*sz+new.length<=c.length) (hne:new≠ []) (hd:o.dst=some d) (hn:d<n) (hc:stL c (q*sz) new=c')
  (hk:K ((d,.slice (some ⟨blk,0,none⟩) (q+m) cap)::R) (L.set i (blk,true,.cells ⟨c'⟩ e (0,0)))):Or M n H₀ R L o K:=
 .val hd hn fun H tmps hst hr=> by
  have hsrc':=hsrc H hst;unfold execOp;rw[hop];simp only[resolve,hcl,hat,har];have hm':Array.map (evT tmps) #[x,y]=#[.slice (some ⟨blk,0,none⟩) q cap,yv]:=by simp[hr.ev hx,hr.ev hy]
  rw[hm'];refine vwp_bind (Builtin.append_ #[t,xt] o.type #[.slice (some ⟨blk,0,none⟩) q cap,yv]) _ ?_;show vwp P ((underlying t).bind fun _=> _) H _;refine vwp_bind (underlying t) _ (vwp_underlying (ds_slice ((E.ok _ _ ht).ds.trans hds)) ?_);show vwp P ((sizeOf e).bind fun _=> _) H _;refine vwp_bind (sizeOf e) _ (vwp_sizeOf (E.ok _ _ hre).size ?_);refine vwp_bind (underlying xt) _ (vwp_underlying (ds_slice ((E.ok _ _ hxt).ds.trans hex)) ?_);refine vwp_bind (Builtin.lenOf yv) _ (hsrc'.lenOf ?_);simp only[hsz];rw[if_pos hcap];show vwp P ((Builtin.firstCells sz m yv).bind fun _=> _) H _;refine vwp_bind _ _ (vwp_firstCells hsrc' ?_);show vwp P ((storeCells (Addr.add ⟨blk,0,none⟩ (q*sz)) new).bind fun _=> Sem.pure (Value.slice (some ⟨blk,0,none⟩) (q+m) cap)) H _;refine vwp_bind _ _ ?_;rw[add_off _ _ rfl];refine vwp_storeCells blk _ new 0 c (hst.get hi) (by simp only[Nat.zero_add,Nat.add_zero];omega) hs fun H' hH'=> ?_;rw[if_neg hne] at hH';rw[hH'];refine⟨_,rfl,_,hst.set hi _,?_⟩;have e1:stL c (0+q*sz+0) new=c':=by rw[show 0+q*sz+0=q*sz by omega];exact hc
  rw[e1];exact hk
theorem OpV.lenMap {t kt et:TypeId}{x:Operand}{m cl₀:Nat}{es:Array MapEntry}{cl:Go.Call}{r:TyRow}(hop:o.op=.call cl)(hcl:cl.callee=.builtin .len)(hat:cl.argTypes=#[t])(har:cl.args=#[x])
  (hx:evR R x=some (.map (some m))) (hb:∀H,SymSt H₀ L H->∃f,H m=some (f,.map es cl₀)) (ht:E.ty t=some r) (hds:r.ds=.map kt et):OpV P n H₀ R L o (.int .i64 (es.size:Nat)):=fun H tmps hs hr=> by
 unfold execOp;rw[hop];simp only[resolve,hcl,hat,har];have hm:Array.map (evT tmps) #[x]=#[.map (some m)]:=by simp[hr.ev hx]
 rw[hm];obtain⟨f,hbm⟩:=hb H hs;refine vwp_bind (Builtin.len_ #[t] o.type #[.map (some m)]) _ (vwp_bind (underlying t) _ (vwp_underlying (ds_map ((E.ok _ _ ht).ds.trans hds)) ?_));refine⟨f,.map es cl₀,hbm,by simp,rfl,?_⟩;exact⟨rfl,rfl⟩
theorem OpV.lookup(dp:Nat){t kt et:TypeId}{x y:Operand}{ok:Bool}{m:Nat}{k:Value}{es:Array MapEntry}{cl:Nat}{r re:TyRow}(hop:o.op=.lookup t x y ok)(hx:evR R x=some (.map (some m)))(hy:evR R y=some k)
  (hb:∀H,SymSt H₀ L H->∃f,H m=some (f,.map es cl)) (ht:E.ty t=some r) (hds:r.ds=.map kt et) (hre:E.ty et=some re) (hdp:dp<=10000) (hk:KeyFl E dp kt k) (hes:∀e∈es.toList,KeyFl E dp kt e.key)
  (hq:∀r,FindOk es.toList k r->foundV re.zero r ok=v):OpV P n H₀ R L o v:=fun H tmps hs hr=> by
 unfold execOp;rw[hop];simp only[hr.ev hx,hr.ev hy];obtain⟨f,hbm⟩:=hb H hs;obtain⟨rk,l,htk,rfl,hf⟩:=hk;obtain⟨_,dd,_,hdd⟩:=flat_underlying hf;refine vwp_bind (Instr.lookup t _ _ ok) _ ?_;refine vwp_bind (underlying t) _ (vwp_underlying (ds_map ((E.ok _ _ ht).ds.trans hds)) ?_);refine⟨f,.map es cl,hbm,by simp,rfl,?_⟩;show vwp P ((Instr.checkKey es.isEmpty 10000 kt (valOf rk.agg l)).bind fun _=> _) H _;refine vwp_bind _ _ (vwp_checkKey dp 10000 hdp htk hf ?_);refine vwp_bind (Instr.findKey kt _ es.toList) _ (vwp_findKey hdp ⟨rk,l,htk,rfl,hf⟩ hdd hes fun r hr'=> ?_);have fin:=hq r hr';subst fin;cases r with
 | none=>
  refine vwp_bind (zeroValue et) _ (vwp_zeroValue (E.ok _ _ hre).zero ?_);cases ok <;> exact⟨rfl,rfl⟩
 | some p=>
  obtain⟨i,v⟩:=p;cases ok <;> exact⟨rfl,rfl⟩
theorem OpV.sliceTo {t e:TypeId}{x:Operand}{hi:Option Operand}{len cap off k:Nat}{blk:Nat}{r re:TyRow}(hop:o.op=.slice t x none hi none)(hx:evR R x=some (.slice (some ⟨blk,off,none⟩) len cap))(ht:E.ty t=some r)(hds:r.ds=.slice e)
  (hre:E.ty e=some re) (hhi:bound R hi len=some (k:Int)) (h2:k<=cap) (h0:0<cap):OpV P n H₀ R L o (.slice (some ⟨blk,off,none⟩) k cap):=by
 have:=OpV.slice (E:=E) (P:=P) (n:=n) (H₀:=H₀) (L:=L) (off':=off) hop hx ht hds hre rfl rfl hhi oM oM oM (by rw[if_neg oM];simp);simpa using this
end
section
variable {P:Program}{M:Md P}{St:View->Goroutine->Prop}{n:Nat}{b:FB}{H₀ H₁:View}{cs:List Frame}{R:Rg}{L L₁ L₂:Bl}{ds:List Deferred}{k:List Item}{dl:List (Option Tmp)}{l:List Oper}{S:Array Bool->View->Prop}{md:Region.Mode}{ops:Array Oper}{fuel:Nat}{listed:Array Bool}
theorem Tc.lift {todo:List Item}(hL:L=L₂++L₁)(h:∀Hx,SymSt H₀ L₁ Hx->Tc M St n b Hx cs R L₂ ds todo):Tc M St n b H₀ cs R L ds todo:=fun H tmps hs hr=> by
 subst hL;obtain⟨Hx,h1,h2⟩:=hs.unappend;exact h Hx h2 H tmps h1 hr
theorem To.lift(hL:L=L₂++L₁)(h:∀Hx,SymSt H₀ L₁ Hx->To M St n b Hx cs dl R L₂ ds l k):To M St n b H₀ cs dl R L ds l k:=fun arr ix ha hx=> .lift hL fun Hx hh=> h Hx hh arr ix ha hx
theorem Ta.lift(hL:L=L₂++L₁)(h:∀Hx,SymSt H₀ L₁ Hx->Ta M St n b Hx cs S md ops fuel listed R L₂ ds k):Ta M St n b H₀ cs S md ops fuel listed R L ds k:=fun H tmps hs hr=> by
 subst hL;obtain⟨Hx,h1,h2⟩:=hs.unappend;exact h Hx h2 H tmps h1 hr
theorem Tc.expand {todo:List Item}(hs:SymSt H₀ L₁ H₁)(h:Tc M St n b H₀ cs R (L₂++L₁) ds todo):Tc M St n b H₁ cs R L₂ ds todo:=fun H tmps hs' hr=> h H tmps (hs.append hs') hr
theorem To.expand(hs:SymSt H₀ L₁ H₁)(h:To M St n b H₀ cs dl R (L₂++L₁) ds l k):To M St n b H₁ cs dl R L₂ ds l k:=fun arr ix ha hx=> .expand hs (h arr ix ha hx)
theorem Ta.expand(hs:SymSt H₀ L₁ H₁)(h:Ta M St n b H₀ cs S md ops fuel listed R (L₂++L₁) ds k):Ta M St n b H₁ cs S md ops fuel listed R L₂ ds k:=fun H tmps hs' hr=> h H tmps (hs.append hs') hr
theorem Tc.perm {todo:List Item}(p:L₁.Perm L)(h:Tc M St n b H₀ cs R L₁ ds todo):Tc M St n b H₀ cs R L ds todo:=fun H tmps hs hr=> h H tmps (hs.perm p) hr
theorem Tc.via {x:Item}(F:Rg->Bl->Prop)(hF:∀R L,F R L->Tc M St n b H₀ cs R L ds k)(h:(∀R L,F R L->Tc M St n b H₀ cs R L ds k)->Tc M St n b H₀ cs R L ds (x::k)):Tc M St n b H₀ cs R L ds (x::k):=h hF
end
section
variable {P:Program}{E:Env P}{M:Md P}{n:Nat}{H₀:View}{R:Rg}{L L':Bl}{K:Rg->Bl->Prop}{o:Oper}{d:Nat}{v:Value}
theorem OpV.indexStr {t:TypeId}{x y:Operand}{ik:IntKind}{j:Int}{s:ByteArray}{c:UInt8}(hop:o.op=.index t x y)(hx:evR R x=some (.string s))(hy:evR R y=some (.int ik j))(hu:P.underlying t=some .string)(h0:0<=j)(hb:s[j.toNat]? =some c):
  OpV P n H₀ R L o (.int .u8 (c.toNat:Nat)):=fun H tmps _ hr=> by
 unfold execOp;rw[hop];simp only[hr.ev hx,hr.ev hy];refine vwp_bind _ _ ?_;show vwp P ((underlying t).bind fun d=> _) H _;refine vwp_bind (underlying t) _ (vwp_underlying hu ?_);have e:(if 0<=j then s[j.toNat]? else none)=some c:=by rw[if_pos h0];exact hb
 simp only[e];exact⟨rfl,rfl⟩
end
section
variable {P:Program}{M:Md P}{St:View->Goroutine->Prop}{n:Nat}{b:FB}{H₀:View}{cs:List Frame}{R:Rg}{L:Bl}{ds:List Deferred}{k:List Item}
def offB(dl:List (Option Tmp))(R:Rg)(o:Oper):Bool:=
 match o.guard with
 | none=> false
 | some (j,_)=>
  match (dl[j]?).join with
  | none=> false
  | some d=>
   match lk R d with
   | some (.bool _)=> false
   | some _=> true
   | none=> false
theorem offB_ok {dl:List (Option Tmp)}{o:Oper}{arr:Array Oper}{tmps:Array Value}(ha:∀j:Nat,(arr[j]?).bind (fun o:Oper=> o.dst)=(dl[j]?).join)(hr:RegOk n R tmps)(h:offB dl R o=true):Region.wanted o (yielded arr tmps)=false:=by
 unfold offB at h;unfold Region.wanted;split at h
 ·cases h
 ·rename_i j w hg
  rw[hg];split at h
  ·cases h
  ·rename_i d hd
   cases hl:lk R d with
   | none=> rw[hl] at h;cases h
   | some v=>
    rw[hl] at h;simp only[yielded,ha j,hd,Option.bind_some,hr.2 d v hl];cases v <;> first|rfl|cases h
theorem To.skippedU {dl:List (Option Tmp)}{o:Oper}{l:List Oper}{d:Nat}(hd:o.dst=some d)(hn:d<n)(hw:offB dl R o=true)(h:To M St n b H₀ cs dl ((d,undef)::R) L ds l k):To M St n b H₀ cs dl R L ds (o::l) k:=fun arr ix ha hx=> by
 cases ix with
 | nil=> simp at hx
 | cons i r=>
  simp only[List.map_cons,List.cons.injEq] at hx;intro H tmps hs hr;refine .op_skipped hx.1 (offB_ok ha hr hw) ?_;rw[hd];exact h arr r ha hx.2 H _ hs (hr.put hn _)
theorem Tc.label {l:Nat}(h:Tc M St n b H₀ cs R L ds k):Tc M St n b H₀ cs R L ds (.code (.label l)::k):=fun H tmps hs hr=> .silent rfl (fun _=> by simp[G,stepG,stepG.exec,FB.at]) (h H tmps hs hr)
theorem Tc.scope {c:Code}(h:Tc M St n b H₀ cs R L ds (.code c:: .inScope c::k)):Tc M St n b H₀ cs R L ds (.code (.scope c)::k):=fun H tmps hs hr=> .silent rfl (fun _=> by simp[G,stepG,stepG.exec,FB.at]) (h H tmps hs hr)
end
end Go.RL
namespace Go.RL
open Go.Conc Go.Proofs Go.Proofs.YtcagolloalgfiaaGreatDoor
set_option maxRecDepth 10000
section
variable {M:Md Tryz.prog}{St:View->Goroutine->Prop}{n:Nat}{b:FB}{H₀:View}{cs:List Frame}{R:Rg}{L:Bl}{ds:List Deferred}{k:List Item}{dl:List (Option Tmp)}{l:List Oper}{o:Oper}{d:Nat}{v:Value}{K:Rg->Bl->Prop}{main:Bool}{sh:Shp}{J:Goroutine->Prop}
theorem OpV.mv {x:Operand}(hop:o.op=.move x:=by exact rfl)(hx:evR R x=some v:=by exact rfl):OpV Tryz.prog n H₀ R L o (v):=
 OpV.move hop hx
theorem OpV.sg {x:Operand}(hop:o.op=.assign x:=by exact rfl)(hx:evR R x=some v:=by exact rfl):OpV Tryz.prog n H₀ R L o (v):=
 OpV.assign hop hx
theorem OpV.pk {c x y:Operand}{t:Bool}(hop:o.op=.pick c x y:=by exact rfl)(hc:evR R c=some (.bool t):=by exact rfl)(hx:(match t with|true=> evR R x|false=> evR R y)=some v:=by exact rfl):OpV Tryz.prog n H₀ R L o (v):=
 OpV.pick hop hc hx
theorem OpV.et {x:Operand}{i:Nat}{vs:Array Value}(hop:o.op=.extract x i:=by exact rfl)(hx:evR R x=some (.tuple vs):=by exact rfl)(hv:vs[i]? =some v:=by exact rfl):OpV Tryz.prog n H₀ R L o (v):=
 OpV.extract hop hx hv
theorem OpV.nk {x:Operand}{a:Addr}(hop:o.op=.nilCheck x:=by exact rfl)(hx:evR R x=some (.pointer (some a)):=by exact rfl):OpV Tryz.prog n H₀ R L o (.pointer (some a)):=
 OpV.nilCheck hop hx
theorem OpV.fa {s:TypeId}{x:Operand}{fi o':Nat}{r:TyRow}{blk off:Nat}(hop:o.op=.fieldAddr s x fi:=by exact rfl)(hx:evR R x=some (.pointer (some ⟨blk,off,none⟩)):=by exact rfl)(ht:en.ty s=some r:=by exact rfl)(ho:r.offs[fi]? =some o':=by exact rfl):OpV Tryz.prog n H₀ R L o (.pointer (some ⟨blk,off+o',none⟩)):=
 OpV.fieldAddr (E:=en) hop hx ht ho
theorem OpV.mf {fn:Fn}{fs cp:Array Operand}{vf vc:List Value}(hop:o.op=.makeFunc fn fs cp:=by exact rfl)(h1:evRs R fs.toList=some vf:=by exact rfl)(h2:evRs R cp.toList=some vc:=by exact rfl):OpV Tryz.prog n H₀ R L o (.func fn vf.toArray vc.toArray):=
 OpV.makeFunc hop h1 h2
theorem OpV.bu {t:TypeId}{ps:Array (Nat×Operand)}{parts:List (Nat×Value)}{l:List Value}(hop:o.op=.build t ps:=by exact rfl)(hps:evPs R ps.toList=some parts:=by exact rfl)(hv:buildL en t parts=some l:=by exact rfl):OpV Tryz.prog n H₀ R L o (.agg ⟨l⟩):=
 OpV.build (E:=en) hop hps hv
theorem OpV.cv {t u:TypeId}{x:Operand}{ik jk:IntKind}{p z:Int}{r r':TyRow}(hop:o.op=.convert t u x:=by exact rfl)(hx:evR R x=some (.int ik p):=by exact rfl)(ht:en.ty t=some r:=by exact rfl)(hr:r.ds=.int ik:=by exact rfl)(ht':en.ty u=some r':=by exact rfl)(hr':r'.ds=.int jk:=by exact rfl)(hz:jk.wrap p=z:=by first|assumption|exact rfl):OpV Tryz.prog n H₀ R L o (.int jk z):=
 OpV.convE (E:=en) hop hx ht hr ht' hr' hz
theorem OpV.fd {t ft:TypeId}{x:Operand}{fi off sz:Nat}{r rf:TyRow}{c:List Value}{fs:List (TypeId×Nat×Nat)}(hop:o.op=.field t x fi:=by exact rfl)(hx:evR R x=some (.agg ⟨c⟩):=by exact rfl)(ht:en.ty t=some r:=by exact rfl)(hds:r.ds=.struct fs:=by exact rfl)(hf:fs[fi]? =some (ft,off,sz):=by exact rfl)(htf:en.ty ft=some rf:=by exact rfl)(hv:ldL rf.agg rf.size c off=some v:=by exact rfl):OpV Tryz.prog n H₀ R L o v:=
 OpV.field (E:=en) hop hx ht hds hf htf hv
theorem OpV.ld(i:Nat){t:TypeId}{x:Operand}{r:TyRow}{blk off:Nat}{f:Bool}{c:List Value}{e:TypeId}{fz:Nat×Nat}(hop:o.op=.load t x:=by exact rfl)(hx:evR R x=some (.pointer (some ⟨blk,off,none⟩)):=by exact rfl)(hi:L[i]? =some (blk,f,.cells ⟨c⟩ e fz):=by exact rfl)(ht:en.ty t=some r:=by exact rfl)(hv:ldL r.agg r.size c off=some v:=by first|exact rfl|assumption):OpV Tryz.prog n H₀ R L o (v):=
 OpV.load (E:=en) i hop hx hi ht hv
theorem OpV.l0 {t:TypeId}{x:Operand}{r:TyRow}{blk off:Nat}{f:Bool}{c:List Value}{e:TypeId}{fz:Nat×Nat}(hop:o.op=.load t x:=by exact rfl)(hx:evR R x=some (.pointer (some ⟨blk,off,none⟩)):=by exact rfl)(hi:H₀ blk=some (f,.cells ⟨c⟩ e fz):=by assumption)(ht:en.ty t=some r:=by first|exact rfl|assumption)(hv:ldL r.agg r.size c off=some v:=by first|exact rfl|assumption):OpV Tryz.prog n H₀ R L o (v):=
 OpV.load₀ (E:=en) hop hx hi ht hv
theorem OpV.ia {t:TypeId}{x y:Operand}{r re:TyRow}{et:TypeId}{blk off sz len cap:Nat}{ik:IntKind}{j:Int}(hop:o.op=.indexAddr t x y:=by exact rfl)(hx:evR R x=some (.slice (some ⟨blk,off,none⟩) len cap):=by exact rfl)(hy:evR R y=some (.int ik j):=by exact rfl)(ht:en.ty t=some r:=by exact rfl)(he:r.elem=some (none,et):=by exact rfl)(hre:en.ty et=some re:=by exact rfl)(hsz:re.size=sz:=by exact rfl)(h0:0<=j:=by omega)(h1:j<len:=by omega):OpV Tryz.prog n H₀ R L o (.pointer (some ⟨blk,off+j.toNat*sz,none⟩)):=
 OpV.indexAddr (E:=en) hop hx hy ht he hre hsz h0 h1
theorem OpV.ib {t:TypeId}{x y:Operand}{r re:TyRow}{et:TypeId}{blk off sz len:Nat}{ik:IntKind}{j:Int}(hop:o.op=.indexAddr t x y:=by exact rfl)(hx:evR R x=some (.pointer (some ⟨blk,off,none⟩)):=by exact rfl)(hy:evR R y=some (.int ik j):=by exact rfl)(ht:en.ty t=some r:=by exact rfl)(he:r.elem=some (some len,et):=by exact rfl)(hre:en.ty et=some re:=by exact rfl)(hsz:re.size=sz:=by exact rfl)(h0:0<=j:=by omega)(h1:j<len:=by omega):OpV Tryz.prog n H₀ R L o (.pointer (some ⟨blk,off+j.toNat*sz,none⟩)):=
 OpV.indexAddrA (E:=en) hop hx hy ht he hre hsz h0 h1
theorem OpV.ix {t:TypeId}{x y:Operand}{r re:TyRow}{et:TypeId}{len:Nat}{ik:IntKind}{j:Int}{c:List Value}(hop:o.op=.index t x y:=by exact rfl)(hx:evR R x=some (.agg ⟨c⟩):=by exact rfl)(hy:evR R y=some (.int ik j):=by exact rfl)(ht:en.ty t=some r:=by exact rfl)(he:r.elem=some (some len,et):=by exact rfl)(hre:en.ty et=some re:=by exact rfl)(h0:0<=j:=by omega)(h1:j<len:=by omega)(hv:ldL re.agg re.size c (j.toNat*re.size)=some v:=by exact rfl):OpV Tryz.prog n H₀ R L o (v):=
 OpV.index (E:=en) hop hx hy ht he hre h0 h1 hv
theorem OpV.it {op:BinOp}{t u:TypeId}{x y:Operand}{ik:IntKind}{p q:Int}(hop:o.op=.binOp op t x y u:=by exact rfl)(hx:evR R x=some (.int ik p):=by exact rfl)(hy:evR R y=some (.int ik q):=by exact rfl)(zz:intBin op ik p q=some v):OpV Tryz.prog n H₀ R L o (v):=
 OpV.int hop hx hy zz
theorem OpV.sf {op:BinOp}{t u:TypeId}{x y:Operand}{ik jk:IntKind}{p q:Int}(hop:o.op=.binOp op t x y u:=by exact rfl)(hx:evR R x=some (.int ik p):=by exact rfl)(hy:evR R y=some (.int jk q):=by exact rfl)(hq:0<=q:=by omega)(hv:shiftV op ik p q=some v:=by first|assumption|exact rfl):OpV Tryz.prog n H₀ R L o (v):=
 OpV.shift hop hx hy hq hv
theorem OpV.nt {t:TypeId}{x:Operand}{p:Bool}(hop:o.op=.unOp .not t x:=by exact rfl)(hx:evR R x=some (.bool p):=by exact rfl):OpV Tryz.prog n H₀ R L o (.bool (!p)):=
 OpV.not hop hx
theorem OpV.ng {t:TypeId}{x:Operand}{p z:Int}(hop:o.op=.unOp .neg t x:=by exact rfl)(hx:evR R x=some (.int .i64 p):=by exact rfl)(h1: -9223372036854775808<= -p:=by omega)(h2: -p<9223372036854775808:=by omega)(hz: -p=z:=by exact rfl):OpV Tryz.prog n H₀ R L o (.int .i64 z):=
 OpV.neg hop hx h1 h2 hz
theorem OpV.ln {t:TypeId}{x:Operand}{a:Option Addr}{p q:Nat}{cl:Go.Call}{e:TypeId}{r:TyRow}(hop:o.op=.call cl:=by exact rfl)(hcl:cl.callee=.builtin .len:=by exact rfl)(hat:cl.argTypes=#[t]:=by exact rfl)(har:cl.args=#[x]:=by exact rfl)(hx:evR R x=some (.slice a p q):=by exact rfl)(ht:en.ty t=some r:=by exact rfl)(he:r.elem=some (none,e):=by exact rfl):OpV Tryz.prog n H₀ R L o (.int .i64 (p:Int)):=
 OpV.len (E:=en) hop hcl hat har hx ht he
theorem OpV.eb {t u:TypeId}{x y:Operand}{r:TyRow}{p q:Bool}(hop:o.op=.binOp .eql t x y u:=by exact rfl)(hx:evR R x=some (.bool p):=by exact rfl)(hy:evR R y=some (.bool q):=by exact rfl)(ht:en.ty t=some r:=by exact rfl)(hds:r.ds=.bool:=by exact rfl):OpV Tryz.prog n H₀ R L o (.bool (p==q)):=
 OpV.eqB (E:=en) hop hx hy ht hds
theorem OpV.nb {t u:TypeId}{x y:Operand}{r:TyRow}{p q:Bool}(hop:o.op=.binOp .neq t x y u:=by exact rfl)(hx:evR R x=some (.bool p):=by exact rfl)(hy:evR R y=some (.bool q):=by exact rfl)(ht:en.ty t=some r:=by exact rfl)(hds:r.ds=.bool:=by exact rfl):OpV Tryz.prog n H₀ R L o (.bool (!(p==q))):=
 OpV.neB (E:=en) hop hx hy ht hds
theorem Or.al {e:TypeId}{r:TyRow}(hop:o.op=.alloc e:=by exact rfl)(ht:en.ty e=some r:=by exact rfl)(hd:o.dst=some d:=by exact rfl)(hn:d<n:=by decide)(zz:∀blk,K ((d,.pointer (some ⟨blk,0,none⟩))::R) ((blk,true,.cells ⟨r.zero.cells.toList⟩ e (0,0))::L)):Or M n H₀ R L o K:=
 Or.alloc (E:=en) hop ht hd hn zz
theorem Or.bs {t e:TypeId}{len:Nat}{ps:Array (Nat×Operand)}{parts:List (Nat×Value)}{r re:TyRow}{l:List Value}(hop:o.op=.buildSlice t len ps:=by exact rfl)(hps:evPs R ps.toList=some parts:=by exact rfl)(ht:en.ty t=some r:=by exact rfl)(hds:r.ds=.slice e:=by exact rfl)(hre:en.ty e=some re:=by exact rfl)(hsz:Nat.ble (len*re.size) 16777216=true:=by exact rfl)(hv:fillL (fun i=> some (i*re.size,re.size)) (zeroRow re.zero.cells.toList (len*re.size)) parts=some l:=by exact rfl)(hd:o.dst=some d:=by exact rfl)(hn:d<n:=by decide)(zz:∀blk,K ((d,.slice (some ⟨blk,0,none⟩) len len)::R) ((blk,true,.cells ⟨l⟩ e (0,0))::L)):Or M n H₀ R L o K:=
 Or.buildSlice (E:=en) hop hps ht hds hre hsz hv hd hn zz
theorem Or.st(i:Nat){t:TypeId}{x y:Operand}{r:TyRow}{blk off:Nat}{c c':List Value}{e:TypeId}(hop:o.op=.store t x y:=by exact rfl)(hx:evR R x=some (.pointer (some ⟨blk,off,none⟩)):=by exact rfl)(hy:evR R y=some v:=by exact rfl)(hi:L[i]? =some (blk,true,.cells ⟨c⟩ e (0,0)):=by exact rfl)(ht:en.ty t=some r:=by exact rfl)(hz:Nat.beq v.cells.toList.length r.size=true:=by exact rfl)(h0:Nat.beq r.size 0=false:=by exact rfl)(hl:Nat.ble (off+r.size) c.length=true:=by first|exact rfl|assumption)(hs:v.cells.toList.all single=true:=by exact rfl)(hd:o.dst=none:=by exact rfl)(hc:stL c off v.cells.toList=c':=by first|assumption|exact rfl)(zz:K R (L.set i (blk,true,.cells ⟨c'⟩ e (0,0)))):Or M n H₀ R L o K:=
 Or.storeT (E:=en) i hop hx hy hi ht hz h0 hl hs hd hc zz
theorem To.x(h:OpV Tryz.prog n H₀ R L o v)(kk:To M St n b H₀ cs dl ((d,v)::R) L ds l k)(h1:wantB dl R o=some true:=by exact rfl)(h2:isDefer o.op=false:=by exact rfl)(h3:o.dst=some d:=by exact rfl)(h4:d<n:=by decide):To M St n b H₀ cs dl R L ds (o::l) k:=To.op h1 h2 (Or.ofV h h3 h4 kk)
theorem To.e(h:Or M n H₀ R L o fun R' L'=> To M St n b H₀ cs dl R' L' ds l k)(h1:wantB dl R o=some true:=by exact rfl)(h2:isDefer o.op=false:=by exact rfl):To M St n b H₀ cs dl R L ds (o::l) k:=To.op h1 h2 h
theorem To.c {cl:Go.Call}{x:Operand}{fv:Value}{az:List Value}(hop:o.op=.call cl)(hcl:cl.callee=.value x)(hx:evR R x=some fv)(has:evRs R cl.args.toList=some az)(hc:∀H,SymSt H₀ L H->FnT M fv az H fun u H'=> H.le H'/\u=v)(kk:To M St n b H₀ cs dl ((d,v)::R) L ds l k)(h1:wantB dl R o=some true:=by exact rfl)(h2:isDefer o.op=false:=by exact rfl)(h3:o.dst=some d:=by exact rfl)(h4:d<n:=by decide):To M St n b H₀ cs dl R L ds (o::l) k:=To.op h1 h2 (Or.ofT (OpV.takeCall hop hcl hx has hc) h3 h4 kk)
theorem To.sk(kk:To M St n b H₀ cs dl ((d,undef)::R) L ds l k)(h3:o.dst=some d:=by exact rfl)(h4:d<n:=by decide)(h1:wantB dl R o=some false:=by exact rfl):To M St n b H₀ cs dl R L ds (o::l) k:=To.skipped h3 h4 h1 kk
theorem Tc.tt {c:Operand}{x y:Code}(hc:evR R c=some (.bool true))(h:Tc M St n b H₀ cs R L ds (.code x::k)):Tc M St n b H₀ cs R L ds (.code (.cond c x y)::k):=Tc.cond (t:=true) hc (fun _=> h) (fun h=> nomatch h)
theorem Tc.ff {c:Operand}{x y:Code}(hc:evR R c=some (.bool false))(h:Tc M St n b H₀ cs R L ds (.code y::k)):Tc M St n b H₀ cs R L ds (.code (.cond c x y)::k):=Tc.cond (t:=false) hc (fun h=> nomatch h) (fun _=> h)
theorem FnT.f {g:FuncId}{az:List Value}{as':Array Value}{H:View}{Q:Value->View->Prop}(hg:callable Tryz.prog g=true)(hall:([]++az++[]).toArray=as')(h:CallT M g as' H Q):FnT M (.func (.func g) #[] #[]) az H Q:=FnT.of (first:= []) (captured:= []) hg hall h
end
section
variable {M:Md Tryz.prog}{St:View->Goroutine->Prop}{n:Nat}{b:FB}{H₀:View}{cs:List Frame}{R:Rg}{L L₁:Bl}{ds:List Deferred}{k:List Item}{md:Region.Mode}{ops:Array Oper}{fuel:Nat}{listed:Array Bool}{B:List Nat}{Ls:Bl}{o:Oper}{d:Nat}{v:Value}
theorem Ta.q {H₁:View}(i:Nat)(hi:ops[i]? =some o)(hv:OpV Tryz.prog n H₀ R L o v)(h:Ta M St n b H₁ cs (S2 H₀ B Ls L) md ops fuel (listed.setIfInBounds i true) ((d,v)::R) L₁ ds k)(hc:takeOk md ops B listed i=true:=by kernel_rfl)(hd:o.dst=some d:=by exact rfl)(hn:d<n:=by decide)(hnd:isDefer o.op=false:=by exact rfl)(hw:wantB (ops.toList.map (fun o:Oper=> o.dst)) R o=some true:=by exact rfl):
 Ta M St n b H₁ cs (S2 H₀ B Ls L) md ops (fuel+1) listed R L₁ ds k:=Ta.tk i hc hi hd hn hnd hw (OpV.take hv) h
end
end Go.RL
namespace Go.RL
open Go.Conc
abbrev strV(l:List UInt8):Value:=.string ⟨⟨l⟩⟩
theorem bytes_list(l:List UInt8):(ByteArray.mk ⟨l⟩).toList=l:=ByteArray.toList_eq _
theorem bytes_size(l:List UInt8):(ByteArray.mk ⟨l⟩).size=l.length:=rfl
theorem bytes_app(l m:List UInt8):(ByteArray.mk ⟨l⟩++ByteArray.mk ⟨m⟩)=ByteArray.mk ⟨l++m⟩:=by
 apply ByteArray.ext
 apply Array.ext'
 simp
theorem bytes_cut(l:List UInt8)(a b:Nat):(ByteArray.mk ⟨l⟩).extract a b=ByteArray.mk ⟨(l.drop a).take (b-a)⟩:=by
 apply ByteArray.ext
 apply Array.ext'
 simp[List.take_drop]
section
variable {P:Program}{E:Env P}{M:Md P}{n:Nat}{H₀:View}{R:Rg}{L L':Bl}{K:Rg->Bl->Prop}{o:Oper}{d:Nat}{v:Value}
theorem OpV.lenS {t:TypeId}{x:Operand}{l:List UInt8}{cl:Go.Call}{r:TyRow}(hop:o.op=.call cl)(hcl:cl.callee=.builtin .len)(hat:cl.argTypes=#[t])(har:cl.args=#[x])
  (hx:evR R x=some (strV l)) (ht:E.ty t=some r) (hds:r.ds=.str):OpV P n H₀ R L o (.int .i64 (l.length:Nat)):=fun H tmps _ hr=> by
 unfold execOp;rw[hop];simp only[resolve,hcl,hat,har];have hm:Array.map (evT tmps) #[x]=#[strV l]:=by simp[hr.ev hx]
 rw[hm];refine vwp_bind (Builtin.len_ #[t] o.type #[strV l]) _ (vwp_bind (underlying t) _ (vwp_underlying (ds_str ((E.ok _ _ ht).ds.trans hds)) ?_));exact⟨rfl,rfl⟩
def strB(op:BinOp)(l m:List UInt8):Option Value:=
 match op with
 | .add=> if l.length+m.length<=1000000000 then some (strV (l++m)) else none
 | .eql=> some (.bool (l==m))
 | .neq=> some (.bool (!(l==m)))
 | .lss=> some (.bool (Op.bytesLess l m))
 | .leq=> some (.bool (Op.bytesLess l m||l==m))
 | .gtr=> some (.bool (!(Op.bytesLess l m||l==m)))
 | .geq=> some (.bool (!(Op.bytesLess l m)))
 | _=> none
theorem vwp_stringOp {op:BinOp}{l m:List UInt8}{H:View}{Q:Value->View->Prop}(h:strB op l m=some v)(hq:Q v H):vwp P (Op.stringOp op ⟨⟨l⟩⟩ ⟨⟨m⟩⟩) H Q:=by
 unfold Op.stringOp;simp only[bytes_list,bytes_size,bytes_app];cases op <;> simp only[strB,Option.some.injEq,reduceCtorEq] at h <;> try (subst h;exact hq)
 split at h
 ·cases h
  have e:¬((l.length+m.length:Nat):Int)>IntKind.i64.max:=by
   have:IntKind.i64.max=9223372036854775807:=by decide
   omega
  rw[if_neg e];exact hq
 ·cases h
theorem OpV.strB {op:BinOp}{t u:TypeId}{x y:Operand}{l m:List UInt8}(hop:o.op=.binOp op t x y u)(hx:evR R x=some (strV l))(hy:evR R y=some (strV m))(hz:RL.strB op l m=some v):OpV P n H₀ R L o v:=fun H tmps _ hr=> by
 unfold execOp;rw[hop];simp only[hr.ev hx,hr.ev hy];refine vwp_bind _ _ ?_;have hg:vwp P (eqGuard op t x y (strV l) (strV m)) H fun _ H'=> vwp P (binOp op t (strV l) (strV m)) H' fun a H'=> vwp P (Sem.pure (Next.value a)) H' fun nx H'=> nx=.value v/\H'=H:=by
  have h1:vwp P (binOp op t (strV l) (strV m)) H fun a H'=> vwp P (Sem.pure (Next.value a)) H' fun nx H'=> nx=.value v/\H'=H:=by
   have h2:=vwp_stringOp (P:=P) (H:=H) (Q:=fun a H'=> vwp P (Sem.pure (Next.value a)) H' fun nx H'=> nx=.value v/\H'=H) hz ⟨rfl,rfl⟩;cases op <;> first|exact h2|(simp[RL.strB] at hz)
  cases op <;> exact h1
 exact vwp_bind _ _ hg
theorem OpV.sliceS {t:TypeId}{x:Operand}{lo hi:Option Operand}{a b:Int}{l:List UInt8}{r:TyRow}(hop:o.op=.slice t x lo hi none)(hx:evR R x=some (strV l))(ht:E.ty t=some r)(hds:r.ds=.str)
  (hlo:bound R lo 0=some a) (hhi:bound R hi l.length=some b) (h0:0<=a) (h1:a<=b) (h2:b<=l.length):OpV P n H₀ R L o (strV ((l.drop a.toNat).take (b.toNat-a.toNat))):=fun H tmps _ hr=> by
 unfold execOp;rw[hop];simp only[hr.ev hx];refine vwp_bind (Instr.sliceAt t _ _ _ _) _ ?_;refine vwp_bind (underlying t) _ (vwp_underlying (ds_str ((E.ok _ _ ht).ds.trans hds)) ?_);refine vwp_bind (underlying t) _ (vwp_underlying (ds_str ((E.ok _ _ ht).ds.trans hds)) ?_);show vwp P ((Instr.sliceBounds false l.length l.length (lo.map (evT tmps)) (hi.map (evT tmps)) none).bind fun z=> Sem.pure (Value.string ((ByteArray.mk ⟨l⟩).extract z.1 z.2.1))) H _;refine vwp_bind _ _ (vwp_sliceBounds hr hlo hhi h0 h1 h2 ?_);show Next.value (.string ((ByteArray.mk ⟨l⟩).extract a.toNat b.toNat))=_/\_;rw[bytes_cut];exact⟨rfl,rfl⟩
theorem OpV.convS {t u:TypeId}{x:Operand}{ik:IntKind}{c:Nat}{r r':TyRow}(hop:o.op=.convert t u x)(hx:evR R x=some (.int ik (c:Nat)))(hc:c<128)(ht:E.ty t=some r)(hr:r.ds=.int ik)(ht':E.ty u=some r')(hr':r'.ds=.str):OpV P n H₀ R L o (strV [UInt8.ofNat c]):=fun H tmps _ hrr=> by
 unfold execOp;rw[hop];simp only[hrr.ev hx];show vwp P (((underlying t).bind fun s=> (underlying u).bind fun e=> _).bind _) H _;refine vwp_bind _ _ (vwp_bind _ _ (vwp_underlying (ds_int ((E.ok _ _ ht).ds.trans hr)) (vwp_bind _ _ (vwp_underlying (ds_str ((E.ok _ _ ht').ds.trans hr')) ?_))));show vwp P (Conv.intToString (c:Nat)) H _;have e:Utf8.encode ((c:Nat):Int)=⟨⟨[UInt8.ofNat c]⟩⟩:=by
  unfold Utf8.encode;have hv:Utf8.valid ((c:Nat):Int)=true:=by
   unfold Utf8.valid;simp
   omega
  simp only[hv,if_true,Int.toNat_natCast];rw[if_pos hc]
 unfold Conv.intToString;rw[e];exact⟨rfl,rfl⟩
theorem Or.rangeS {t:TypeId}{x:Operand}{s:ByteArray}{r:TyRow}(hop:o.op=.range t x)(hx:evR R x=some (.string s))(ht:E.ty t=some r)(hds:r.ds=.str)
  (hd:o.dst=some d) (hn:d<n) (hk:∀blk,K ((d,.pointer (some ⟨blk,0,none⟩))::R) ((blk,true,.stringIter s 0)::L)):Or M n H₀ R L o K:=
 .newObj (val:=fun blk=> .pointer (some ⟨blk,0,none⟩)) hd hn (fun H tmps hs hr Q hQ=> by
  unfold execOp;rw[hop];simp only[hr.ev hx];refine vwp_bind (Instr.range t _) _ ?_;refine vwp_bind (underlying t) _ (vwp_underlying (ds_str ((E.ok _ _ ht).ds.trans hds)) ?_);exact fun blk hb=> hQ blk hb) hk
theorem Or.nextS(i:Nat){x:Operand}{it p c w:Nat}{s:ByteArray}(hop:o.op=.next x true)(hx:evR R x=some (.pointer (some ⟨it,0,none⟩)))(hi:L[i]? =some (it,true,.stringIter s p))
  (hp:p<s.size) (hdec:Utf8.decode s p=(c,w)) (hd:o.dst=some d) (hn:d<n)
  (hk:K ((d,.tuple #[.bool true,.int .i64 (p:Nat),.int .i32 (c:Nat)])::R) (L.set i (it,true,.stringIter s (p+w)))):Or M n H₀ R L o K:=
 .val hd hn fun H tmps hs hr=> by
  unfold execOp;rw[hop];simp only[hr.ev hx];have hit:=hs.get hi;refine vwp_bind (Instr.next _ true _) _ ?_;refine⟨true,_,hit,by simp,rfl,?_⟩;show vwp P (if p<s.size then(setObj it (.stringIter s (p+(Utf8.decode s p).2))).bind fun _=> Sem.pure (Value.tuple #[.bool true,goInt (p:Nat),.int .i32 (((Utf8.decode s p).1:Nat):Int)]) else Sem.pure (Value.tuple #[.bool false])) H _;rw[if_pos hp,hdec];refine⟨⟨_,hit,by simp⟩,rfl,?_⟩;exact⟨_,rfl,_,hs.set hi _,hk⟩
theorem Or.nextS0(i:Nat){x:Operand}{it p:Nat}{s:ByteArray}(hop:o.op=.next x true)(hx:evR R x=some (.pointer (some ⟨it,0,none⟩)))(hi:L[i]? =some (it,true,.stringIter s p))
  (hp:¬p<s.size) (hd:o.dst=some d) (hn:d<n) (hk:K ((d,.tuple #[.bool false])::R) L):Or M n H₀ R L o K:=
 .val hd hn fun H tmps hs hr=> by
  unfold execOp;rw[hop];simp only[hr.ev hx];have hit:=hs.get hi;refine vwp_bind (Instr.next _ true _) _ ?_;refine⟨true,_,hit,by simp,rfl,?_⟩;show vwp P (if p<s.size then _ else _) H _;rw[if_neg hp];exact⟨_,rfl,_,hs,hk⟩
theorem strB_add {l m:List UInt8}(h:l.length+m.length<=1000000000):RL.strB .add l m=some (strV (l++m)):=if_pos h
theorem bytes_get(l:List UInt8)(i:Nat):(ByteArray.mk ⟨l⟩)[i]? =l[i]? :=by
 by_cases h:i<l.length
 ·rw[List.getElem?_eq_getElem h];exact getElem?_pos (ByteArray.mk ⟨l⟩) i h
 ·rw[List.getElem?_eq_none oM];exact getElem?_neg (ByteArray.mk ⟨l⟩) i h
theorem OpV.indexS {t:TypeId}{x y:Operand}{ik:IntKind}{j:Int}{l:List UInt8}{c:UInt8}{r:TyRow}(hop:o.op=.index t x y)(hx:evR R x=some (strV l))(hy:evR R y=some (.int ik j))(ht:E.ty t=some r)(hds:r.ds=.str)(h0:0<=j)(hb:l[j.toNat]? =some c):
 OpV P n H₀ R L o (.int .u8 (c.toNat:Nat)):=OpV.indexStr hop hx hy (ds_str ((E.ok _ _ ht).ds.trans hds)) h0 (by rw[bytes_get];exact hb)
theorem OpV.max {t u:TypeId}{x y:Operand}{k:IntKind}{p q z:Int}{cl:Go.Call}(hop:o.op=.call cl)(hcl:cl.callee=.builtin .max)(hat:cl.argTypes=#[t,u])(har:cl.args=#[x,y])(hx:evR R x=some (.int k p))(hy:evR R y=some (.int k q))(hz:(if q>p then q else p)=z):
  OpV P n H₀ R L o (.int k z):=fun H tmps _ hr=> by
 unfold execOp;rw[hop];simp only[resolve,hcl,hat,har];have hm:Array.map (evT tmps) #[x,y]=#[.int k p,.int k q]:=by simp[hr.ev hx,hr.ev hy]
 rw[hm,<-hz];exact⟨rfl,rfl⟩
theorem OpV.min {t u:TypeId}{x y:Operand}{k:IntKind}{p q z:Int}{cl:Go.Call}(hop:o.op=.call cl)(hcl:cl.callee=.builtin .min)(hat:cl.argTypes=#[t,u])(har:cl.args=#[x,y])(hx:evR R x=some (.int k p))(hy:evR R y=some (.int k q))(hz:(if q<p then q else p)=z):
  OpV P n H₀ R L o (.int k z):=fun H tmps _ hr=> by
 unfold execOp;rw[hop];simp only[resolve,hcl,hat,har];have hm:Array.map (evT tmps) #[x,y]=#[.int k p,.int k q]:=by simp[hr.ev hx,hr.ev hy]
 rw[hm,<-hz];exact⟨rfl,rfl⟩
theorem Or.same {o':Oper}(h:∀ev,execOp ev o=execOp ev o')(hd:o.dst=o'.dst)(k:Or M n H₀ R L o' K):Or M n H₀ R L o K:=fun H tmps hs hr=> by
 have:=k H tmps hs hr;unfold OpRun at *;rw[h,hd];exact this
theorem Or.insert(i dp:Nat){t kt et:TypeId}{x y z:Operand}{m:Nat}{k v:Value}{es:Array MapEntry}{cl:Nat}{r:TyRow}(hop:o.op=.insert t x y z)(hx:evR R x=some (.map (some m)))(hy:evR R y=some k)(hz:evR R z=some v)
  (hi:L[i]? =some (m,true,.map es cl)) (ht:E.ty t=some r) (hds:r.ds=.map kt et) (hdp:dp<=10000) (hk:KeyFl E dp kt k) (hes:∀e∈es.toList,KeyFl E dp kt e.key) (hd:o.dst=none)
  (hq:∀r,FindOk es.toList k r->K R (L.set i (m,true,mapPut es cl k v r))):Or M n H₀ R L o K:=
 Or.same (o':= { o with op:=.mapUpdate t x y z }) (fun ev=> by unfold execOp;rw[hop]) rfl (Or.mapUpdate i dp rfl hx hy hz hi ht hds hdp hk hes hd hq)
end
end Go.RL
