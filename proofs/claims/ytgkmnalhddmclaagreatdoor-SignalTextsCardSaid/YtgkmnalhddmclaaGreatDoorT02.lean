/-
 Texts of the proofs over baudot/dial.
-/
import Derived.Test.YtgkmnalhddmclaaGreatDoorT01
import Derived.Orders
import Derived.Test.YtgkmnalhddmclaaGreatDoorChecked
import Derived.KernelRfl
import Derived.Conc.CrowdBase
import Derived.Conc.MuSpec
namespace Go.RL
open Go.Conc
section
variable {P:Program}{M:Md P}{md:Region.Mode}{ops:Array Oper}{S:Array Bool->View->Prop}{Fin:Array Value->View->Prop}
def vM(M:Md P)(ops:Array Oper)(o:Oper)(tmps:Array Value)(H:View)(K:Array Value->View->Prop):Prop:=
 AA o.op=false/\(if Region.wanted o (yielded ops tmps) then dF M o tmps H K else K (KB tmps o.dst undef) H)
def LH(M:Md P)(md:Region.Mode)(ops:Array Oper)(S:Array Bool->View->Prop)(Fin:Array Value->View->Prop):Nat->Array Bool->Array Value->View->Prop
 | 0,listed,tmps,H=> ∀H₂,H.le H₂->S listed H₂->Region.ready md ops listed= []/\Fin tmps H₂
 | fuel+1,listed,tmps,H=> ∀H₂,H.le H₂->S listed H₂-> 
  (Region.ready md ops listed= []->Fin tmps H₂)/\
  ∀i∈Region.ready md ops listed,∀o,ops[i]? =some o->vM M ops o tmps H₂ fun tmps' H'=> S (listed.setIfInBounds i true) H'/\LH M md ops S Fin fuel (listed.setIfInBounds i true) tmps' H'
theorem LH.mono {fuel:Nat}{listed:Array Bool}{tmps:Array Value}{H H':View}(h:LH M md ops S Fin fuel listed tmps H)(k:H.le H'):LH M md ops S Fin fuel listed tmps H':=by
 cases fuel with
 | zero=> exact fun H₂ h2 hS=> h H₂ (View.le_trans k h2) hS
 | succ fuel=> exact fun H₂ h2 hS=> h H₂ (View.le_trans k h2) hS
theorem vM.sound {St:View->Goroutine->Prop}{b:FB}{ds:List Deferred}{k:List Item}{cs:List Frame}{i:Nat}{rest:List Nat}{o:Oper}{tmps:Array Value}{H:View}(ho:ops[i]? =some o)
  (h:vM M ops o tmps H fun t H'=> T M St H' (G (b.at t ds (.inRegion ops rest::k)) cs)):T M St H (G (b.at tmps ds (.inRegion ops (i::rest)::k)) cs):=by
 obtain⟨hd,h⟩:=h;split at h
 ·rename_i hw
  exact h.sound ho hw hd
 ·rename_i hw
  exact .AJ ho (by simpa using hw) h
theorem vM.mono {o:Oper}{tmps:Array Value}{H:View}{K K':Array Value->View->Prop}(h:vM M ops o tmps H K)(hk:∀t H',K t H'->K' t H'):vM M ops o tmps H K':=by
 obtain⟨hd,h⟩:=h;refine⟨hd,?_⟩;split
 ·rename_i hw
  rw[if_pos hw] at h;exact h.mono hk
 ·rename_i hw
  rw[if_neg hw] at h;exact hk _ _ h
theorem LH.sound {St:View->Goroutine->Prop}{b:FB}{ds:List Deferred}{k:List Item}{cs:List Frame}:∀(fuel t:Nat) (listed:Array Bool) (tmps:Array Value) (H:View),S listed H-> 
  LH M md ops S (fun tmps H=> T M St H (G (b.at tmps ds k) cs)) fuel listed tmps H->T M St H (G (b.at tmps ds (.inRegion ops (Region.linearise.go md ops fuel t listed [])::k)) cs):=by
 intro fuel;induction fuel with
 | zero=>
  intro t listed tmps H hS h;simp only[Region.linearise.go];exact .EJ (h H (View.le_refl H) hS).2
 | succ fuel ih=>
  intro t listed tmps H hS h;have h:=h H (View.le_refl H) hS;have e:Region.linearise.go md ops (fuel+1) t listed []=match (Region.ready md ops listed)[t%(Region.ready md ops listed).length]? with
    | some i=> i::Region.linearise.go md ops fuel (t/(Region.ready md ops listed).length) (listed.setIfInBounds i true) []
    | none=> []:=by
   rw[Region.linearise.go];show(match (Region.ready md ops listed)[t%(Region.ready md ops listed).length]? with
    | some i=> Region.linearise.go md ops fuel (t/(Region.ready md ops listed).length) (listed.setIfInBounds i true) [i]
    | none=> List.reverse [])=_
   split
   ·rename_i i _
    rw[linearise_go_acc];rfl
   ·rfl
  rw[e];split
  ·rename_i i hi
   have QC:=List.mem_of_getElem? hi;obtain⟨_,o,ho,_⟩:=mem_ready.1 QC;exact vM.sound ho ((h.2 i QC o ho).mono fun t' H' hk=> ih _ _ _ _ hk.1 hk.2)
  ·rename_i hi
   have uQ:Region.ready md ops listed= []:=by
    cases hr:Region.ready md ops listed with
    | nil=> rfl
    | cons a l=>
     rw[hr] at hi;have:t%(a::l).length<(a::l).length:=Nat.mod_lt _ (by simp);rw[List.getElem?_eq_getElem this] at hi;cases hi
   exact .EJ (h.1 uQ)
def SD(M:Md P)(o:Oper)(tmps:Array Value)(H:View)(K:Value->View->Prop):Prop:=
 yA P (execOp (uB tmps) o) H fun nx H'=>
  match nx with
  | .value v=> K v H'
  | .skip=> K undef H'
  | .enter f args=> cA M f args H' K
  | .round l f tmps' assign body=> IL M (Frame.round l f tmps' assign body .normal) H' K
  | _=> False
theorem SD.run {o:Oper}{tmps:Array Value}{H:View}{K:Value->View->Prop}{K':Array Value->View->Prop}(h:SD M o tmps H K)(hk:∀v H',K v H'->K' (KB tmps o.dst v) H'):dF M o tmps H K':=
 MA _ (fun nx H' hn=> by
  cases nx <;> first|exact hn.elim|skip
  ·exact hk _ _ hn
  ·exact hk _ _ hn
  ·exact cA.mono hn hk
  ·exact IL.mono hn hk) h
def rC(md:Region.Mode)(ops:Array Oper)(listed:Array Bool):Bool:=
 ops.toList.zipIdx.all fun x=> !(listed.getD x.2 true)||x.1.after.all fun e=> !(Region.binds md e)||listed.getD e.on false
theorem XG {listed:Array Bool}(h:rC md ops listed=true){j:Nat}{o:Oper}(hj:ops[j]? =some o)(hl:listed.getD j true=true){e:Edge}(he:e∈o.after)(hb:Region.binds md e=true):listed.getD e.on false=true:=by
 unfold rC at h;rw[List.all_eq_true] at h;have hm:(o,j)∈ops.toList.zipIdx:=by
  rw[List.mem_zipIdx_iff_getElem?];simpa using hj
 have:=h _ hm;simp only[hl,Bool.not_true,Bool.false_or,Array.all_eq_true_iff_forall_mem] at this;have:=this e he;simpa [hb] using this
theorem fO {listed:Array Bool}{i:Nat}(h:rC md ops listed=true)(hr:i∈Region.ready md ops listed):rC md ops (listed.setIfInBounds i true)=true:=by
 unfold rC;rw[List.all_eq_true];rintro⟨o,j⟩ hm;rw[List.mem_zipIdx_iff_getElem?] at hm;have hj:ops[j]? =some o:=by simpa using hm
 have hup:∀k,listed.getD k false=true->(listed.setIfInBounds i true).getD k false=true:=by
  intro k hk;by_cases e:i=k
  ·subst e;rcases Nat.lt_or_ge i listed.size with h'|h'
   ·simp[h']
   ·simp[Array.getElem?_eq_none h'] at hk
  ·simp only[Array.getD_eq_getD_getElem?,Array.getElem?_setIfInBounds_ne e] at hk ⊢;exact hk
 cases hl:(listed.setIfInBounds i true).getD j true with
 | false=> rfl
 | true=>
  simp only[Bool.not_true,Bool.false_or,Array.all_eq_true_iff_forall_mem];intro e he;cases hb:Region.binds md e with
  | false=> rfl
  | true=>
   simp only[Bool.not_true,Bool.false_or];refine hup _ ?_;by_cases mU:i=j
   ·subst mU;obtain⟨_,o',oO,zA⟩:=mem_ready.1 hr;rw[hj] at oO;cases oO
    exact zA e he hb
   ·rw[getD_set_ne true mU] at hl;exact XG h hj hl he hb
def BI(M:Md P)(md:Region.Mode)(ops:Array Oper)(S:Array Bool->View->Prop)(i:Nat)(o:Oper)(v:Value)(tmps:Array Value):Prop:=
 (Region.wanted o (yielded ops tmps)=true/\∀listed,rC md ops listed=true->listed.getD i true=false->∀H,S listed H->SD M o tmps H fun u H'=> u=v/\H.le H'/\S listed H')\/ 
 (Region.wanted o (yielded ops tmps)=false/\v=undef)
theorem MV(tmps:Array Value):uB tmps=(⟨tmps,[]⟩:Act).eval:=by funext x;cases x <;> rfl
theorem N0(tmps:Array Value)(d:Option Tmp)(v:Value):KB tmps d v=((⟨tmps,[]⟩:Act).put d v).tmps:=by cases d <;> rfl
theorem pK(tmps:Array Value)(d:Option Tmp)(v:Value):(⟨KB tmps d v,[]⟩:Act)=(⟨tmps,[]⟩:Act).put d v:=by cases d <;> rfl
theorem KO(o:Oper)(hs:∀cs b,o.op≠ .select cs b)(tmps:Array Value)(dst:Option Tmp)(v:Value)(h:∀d,dst=some d->d ∉ o.looksAt ops):execOp (uB (KB tmps dst v)) o=execOp (uB tmps) o:=by
 rw[MV,MV,pK];exact execOp_put o hs _ dst v h
theorem GL(o:Oper)(tmps:Array Value)(dst:Option Tmp)(v:Value)(h:∀d,dst=some d->d ∉ o.looksAt ops):Region.wanted o (yielded ops (KB tmps dst v))=Region.wanted o (yielded ops tmps):=by
 rw[N0];exact wanted_put o ⟨tmps,[]⟩ dst v h
theorem JI(tmps:Array Value){x y:Option Tmp}(v u:Value)(h:∀d,x=some d->y≠some d):KB (KB tmps x v) y u=KB (KB tmps y u) x v:=by
 have:=congrArg Act.tmps (Act.put_comm ⟨tmps,[]⟩ v u h);rw[<-pK,<-pK,<-pK,<-pK] at this;exact this
theorem BI.put {i:Nat}{o o':Oper}{v u:Value}{tmps:Array Value}(h:BI M md ops S i o v tmps)(hs:∀cs b,o.op≠ .select cs b)(ha:∀d,o'.dst=some d->d ∉ o.looksAt ops):BI M md ops S i o v (KB tmps o'.dst u):=by
 unfold BI SD at *;rw[KO o hs tmps o'.dst u ha,GL o tmps o'.dst u ha];exact h
theorem vM.back {oi oj:Oper}{v:Value}{tmps:Array Value}{H:View}{K:Array Value->View->Prop}(ZR:oi.apart ops oj=true)(hsj:∀cs b,oj.op≠ .select cs b)(h:vM M ops oj (KB tmps oi.dst v) H K):
  vM M ops oj tmps H fun t H'=> (∃u,t=KB tmps oj.dst u)/\K (KB t oi.dst v) H':=by
 obtain⟨h1,h2,_⟩:=Oper.apart_spec ZR;obtain⟨hd,h⟩:=h;refine⟨hd,?_⟩;rw[GL oj tmps oi.dst v h1] at h;split
 ·rename_i hw
  rw[if_pos hw] at h;unfold dF at *;rw[KO oj hsj tmps oi.dst v h1] at h;refine MA _ (fun nx H' hn=> ?_) h;cases nx <;> first
   | exact hn.elim
   | exact⟨⟨_,rfl⟩,by rw[<-JI tmps v _ h2];exact hn⟩
   | exact cA.mono hn fun u H'' hk=> ⟨⟨_,rfl⟩,by rw[<-JI tmps v _ h2];exact hk⟩
   | exact IL.mono hn fun u H'' hk=> ⟨⟨_,rfl⟩,by rw[<-JI tmps v _ h2];exact hk⟩
 ·rename_i hw
  rw[if_neg hw] at h;exact⟨⟨_,rfl⟩,by rw[<-JI tmps v _ h2];exact h⟩
theorem LH.first {i:Nat}{oi:Oper}{v:Value}(hi:ops[i]? =some oi)(XI:∀(j:Nat) (o:Oper) cs b,ops[j]? =some o->o.op≠ .select cs b)(hdi:AA oi.op=false)(lO:∀listed H,S (listed.setIfInBounds i true) H<->S listed H):
  ∀ (fuel:Nat) (listed:Array Bool) (tmps:Array Value) (H:View),
   (∀j oj,ops[j]? =some oj->j≠i->listed.getD j true=false->(∀e∈oj.after,Region.binds md e=true->e.on≠i)->oi.apart ops oj=true)-> 
   rC md ops listed=true->i∈Region.ready md ops listed->BI M md ops S i oi v tmps-> 
   LH M md ops S Fin fuel (listed.setIfInBounds i true) (KB tmps oi.dst v) H->LH M md ops S Fin (fuel+1) listed tmps H:=by
 have own:∀(fuel:Nat) (listed:Array Bool) (tmps:Array Value) (H:View),rC md ops listed=true->i∈Region.ready md ops listed->BI M md ops S i oi v tmps->S listed H->LH M md ops S Fin fuel (listed.setIfInBounds i true) (KB tmps oi.dst v) H-> 
   vM M ops oi tmps H fun t H'=> S (listed.setIfInBounds i true) H'/\LH M md ops S Fin fuel (listed.setIfInBounds i true) t H':=by
  intro fuel listed tmps H PB MK hy hS h;refine⟨hdi,?_⟩;rcases hy with ⟨hw,hv⟩|⟨hw,rfl⟩
  ·rw[if_pos hw];refine(hv listed PB (mem_ready.1 MK).1 H hS).run ?_;rintro u H' ⟨rfl,hle,hS'⟩;exact⟨(lO listed H').2 hS',h.mono hle⟩
  ·rw[if_neg (by simp[hw])];exact⟨(lO listed H).2 hS,h⟩
 intro fuel;induction fuel with
 | zero=>
  intro listed tmps H _ PB hr hy h H₂ h2 hS;refine⟨fun e=> (by rw[e] at hr;cases hr),fun j hj o ho=> ?_⟩;by_cases mU:j=i
  ·subst mU;rw[hi] at ho;cases ho
   exact own 0 listed tmps H₂ PB hr hy hS (h.mono h2)
  ·have:=ready_mono hj mU;rw[(h H₂ h2 ((lO listed H₂).2 hS)).1] at this;cases this
 | succ fuel ih=>
  intro listed tmps H J8 PB hr hy h H₂ h2 hS;refine⟨fun e=> (by rw[e] at hr;cases hr),fun j hj oj gW=> ?_⟩;by_cases mU:j=i
  ·subst mU;rw[hi] at gW;cases gW
   exact own (fuel+1) listed tmps H₂ PB hr hy hS (h.mono h2)
  ·have h1:=(h H₂ h2 ((lO listed H₂).2 hS)).2 j (ready_mono hj mU) oj gW;have aD8:=fO PB hj;obtain⟨aCs,oj',nX,zA⟩:=mem_ready.1 hj;rw[gW] at nX;cases nX
   have aEj:∀e∈oj.after,Region.binds md e=true->e.on≠i:=fun e he hb heq=> by
    have h1:=zA e he hb;have h0:=(mem_ready.1 hr).1;rw[heq] at h1;rcases Nat.lt_or_ge i listed.size with h'|h'
    ·simp[h'] at h0 h1;rw[h0] at h1;cases h1
    ·simp[Array.getElem?_eq_none h'] at h1
   have ZR:=J8 j oj gW mU aCs aEj;have aAb:∀k ok,ops[k]? =some ok->k≠i->(listed.setIfInBounds j true).getD k true=false-> 
     (∀e∈ok.after,Region.binds md e=true->e.on≠i)->oi.apart ops ok=true:=fun k ok hk hki S8 wG=> by
    refine J8 k ok hk hki ?_ wG;by_cases hjk:j=k
    ·subst hjk;exact aCs
    ·rw[getD_set_ne true hjk] at S8;exact S8
   refine(h1.back ZR (fun cs b=> XI j oj cs b gW)).mono ?_;rintro t H' ⟨⟨u,rfl⟩,hS',h3⟩;rw[Array.setIfInBounds_comm _ _ (Ne.symm mU)] at hS';refine⟨(lO _ H').1 hS',ih (listed.setIfInBounds j true) _ H' aAb aD8 (ready_mono hr (Ne.symm mU)) (hy.put (fun cs b=> XI i oi cs b hi) (Oper.apart_spec ZR).2.2) ?_⟩;rw[Array.setIfInBounds_comm _ _ mU];exact h3
end
section
variable {P:Program}{M:Md P}{St:View->Goroutine->Prop}{n:Nat}{b:FB}{H₀:View}{cs:List Frame}{R:Rg}{L L':Bl}{ds:List Deferred}{k:List Item}{S:Array Bool->View->Prop}{md:Region.Mode}{ops:Array Oper}
def Ta(M:Md P)(St:View->Goroutine->Prop)(n:Nat)(b:FB)(H₀:View)(cs:List Frame)(S:Array Bool->View->Prop)(md:Region.Mode)(ops:Array Oper)(fuel:Nat)(listed:Array Bool)(R:Rg)(L:Bl)(ds:List Deferred)(k:List Item):Prop:=
 ∀H tmps,eA H₀ L H->PA n R tmps->S listed H->LH M md ops S (fun tmps H=> T M St H (G (b.at tmps ds k) cs)) fuel listed tmps H
theorem Ta.done {fuel:Nat}{listed:Array Bool}(hr:Region.ready md ops listed= [])(h:Tc M St n b H₀ cs R L ds k):Ta M St n b H₀ cs S md ops fuel listed R L ds k:=fun H tmps hs vE _=> by
 cases fuel with
 | zero=> exact fun H₂ h2 _=> ⟨hr,h H₂ tmps (hs.mono h2) vE⟩
 | succ f=> exact fun H₂ h2 _=> ⟨fun _=> h H₂ tmps (hs.mono h2) vE,fun i hi=> by rw[hr] at hi;cases hi⟩
theorem Ta.take(i:Nat){o:Oper}{d:Nat}{v:Value}{fuel:Nat}{listed:Array Bool}(hi:ops[i]? =some o)(XI:Region.noSelect ops=true)(hr:(Region.ready md ops listed).contains i=true)(hf:Region.free md ops listed i=true)
  (hd:o.dst=some d) (hn:d<n) (nC:AA o.op=false) (PB:rC md ops listed=true) (lO:∀listed H,S (listed.setIfInBounds i true) H<->S listed H) (hw:JA (ops.toList.map (fun o:Oper=> o.dst)) R o=some true)
  (hv:∀listed,rC md ops listed=true->listed.getD i true=false->∀H tmps,S listed H->PA n R tmps->SD M o tmps H fun u H'=> u=v/\H.le H'/\S listed H')
  (h:Ta M St n b H₀ cs S md ops fuel (listed.setIfInBounds i true) ((d,v)::R) L ds k):Ta M St n b H₀ cs S md ops (fuel+1) listed R L ds k:=fun H tmps hs vE hS=> by
 refine LH.first hi (Region.noSelect_spec XI) nC lO fuel listed tmps H (fun j oj hj gB S8 wG=> Region.free_spec hi hf j oj hj gB S8 wG) PB (by simpa using hr) (.inl ⟨jB (fun j=> ?_) vE hw,fun l PB hu H hSH=> hv l PB hu H tmps hSH vE⟩) ?_
 ·simp only[List.getElem?_map,Array.getElem?_toList];cases ops[j]? <;> rfl
 ·rw[hd];exact h H _ hs (vE.put hn v) ((lO _ H).2 hS)
theorem Ta.pass(i:Nat){o:Oper}{d:Nat}{fuel:Nat}{listed:Array Bool}(hi:ops[i]? =some o)(XI:Region.noSelect ops=true)(hr:(Region.ready md ops listed).contains i=true)(hf:Region.free md ops listed i=true)
  (hd:o.dst=some d) (hn:d<n) (nC:AA o.op=false) (PB:rC md ops listed=true) (lO:∀listed H,S (listed.setIfInBounds i true) H<->S listed H) (hw:JA (ops.toList.map (fun o:Oper=> o.dst)) R o=some false)
  (h:Ta M St n b H₀ cs S md ops fuel (listed.setIfInBounds i true) ((d,undef)::R) L ds k):Ta M St n b H₀ cs S md ops (fuel+1) listed R L ds k:=fun H tmps hs vE hS=> by
 refine LH.first hi (Region.noSelect_spec XI) nC lO fuel listed tmps H (fun j oj hj gB S8 wG=> Region.free_spec hi hf j oj hj gB S8 wG) PB (by simpa using hr) (.inr ⟨jB (fun j=> ?_) vE hw,rfl⟩) ?_
 ·simp only[List.getElem?_map,Array.getElem?_toList];cases ops[j]? <;> rfl
 ·rw[hd];exact h H _ hs (vE.put hn undef) ((lO _ H).2 hS)
def yG(M:Md P)(St:View->Goroutine->Prop)(n:Nat)(b:FB)(H₀:View)(cs:List Frame)(S:Array Bool->View->Prop)(md:Region.Mode)(ops:Array Oper)(fuel:Nat)(listed:Array Bool)(R:Rg)(L:Bl)(ds:List Deferred)(k:List Item)(i:Nat):Prop:=
 ∃ o,ops[i]? =some o/\AA o.op=false/\JA (ops.toList.map (fun o:Oper=> o.dst)) R o=some true/\
  Or M n H₀ R L o fun R' L'=> (∀H,eA H₀ L' H->S (listed.setIfInBounds i true) H)/\Ta M St n b H₀ cs S md ops fuel (listed.setIfInBounds i true) R' L' ds k
theorem yG.mk {fuel:Nat}{listed:Array Bool}{i:Nat}{o:Oper}(ho:ops[i]? =some o)(hd:AA o.op=false)(hw:JA (ops.toList.map (fun o:Oper=> o.dst)) R o=some true)
 (h:Or M n H₀ R L o fun R' L'=> (∀H,eA H₀ L' H->S (listed.setIfInBounds i true) H)/\Ta M St n b H₀ cs S md ops fuel (listed.setIfInBounds i true) R' L' ds k):yG M St n b H₀ cs S md ops fuel listed R L ds k i:=⟨o,ho,hd,hw,h⟩
theorem Ta.all {fuel:Nat}{listed:Array Bool}{rs:List Nat}(hr:Region.ready md ops listed=rs)(gB:rs.isEmpty=false)(h:∀i∈rs,yG M St n b H₀ cs S md ops fuel listed R L ds k i):
  Ta M St n b H₀ cs S md ops (fuel+1) listed R L ds k:=fun H tmps hs vE _ H₂ h2 hS=> by
 have hs:=hs.mono h2;refine⟨fun e=> ?_,fun i hi o ho=> ?_⟩
 ·rw[hr] at e;rw[e] at gB;cases gB
 ·rw[hr] at hi;obtain⟨o',oO,hd,hw,h'⟩:=h i hi;rw[ho] at oO;cases oO
  refine⟨hd,?_⟩;have VN:Region.wanted o (yielded ops tmps)=true:=jB (fun j=> by
   simp only[List.getElem?_map,Array.getElem?_toList];cases ops[j]? <;> rfl) vE hw
  rw[if_pos VN];refine(h' H₂ tmps hs vE).mono ?_;rintro t H' ⟨R',L',h1,h2,h3,h4⟩;exact⟨h3 H' h2,h4 H' t h2 h1 (h3 H' h2)⟩
def S2(H₀:View)(B:List Nat)(Ls L:Bl):Array Bool->View->Prop:=fun listed H=>
 eA H₀ Ls H/\((B.all fun j=> !(listed.getD j true))=true->eA H₀ L H)
theorem S2.same {B:List Nat}{Ls:Bl}{i:Nat}(hi:B.contains i=false):∀listed H,S2 H₀ B Ls L (listed.setIfInBounds i true) H<->S2 H₀ B Ls L listed H:=fun listed H=> by
 have:(B.all fun j=> !((listed.setIfInBounds i true).getD j true))=B.all fun j=> !(listed.getD j true):=by
  rw[Bool.eq_iff_iff,List.all_eq_true,List.all_eq_true];refine forall_congr' fun j=> forall_congr' fun hj=> ?_;have gB:i≠j:=by
   rintro rfl;have:B.contains i=true:=by simpa using hj
   rw[hi] at this;cases this
  rw[getD_set_ne true gB]
 unfold S2;rw[this]
def waits(md:Region.Mode)(ops:Array Oper)(i j:Nat):Bool:=
 match ops[j]? with
 | some o=> o.after.any fun e=> Region.binds md e&&e.on==i
 | none=> false
theorem S2.aBy {B:List Nat}{Ls:Bl}{i:Nat}{listed:Array Bool}{H:View}(h:S2 H₀ B Ls L listed H)(hc:rC md ops listed=true)(hu:listed.getD i true=false)(hB:(B.all fun j=> waits md ops i j)=true):eA H₀ L H:=by
 refine h.2 ?_;rw[List.all_eq_true] at hB ⊢;intro j hj;have:=hB j hj;unfold waits at this;cases hl:listed.getD j true with
 | false=> rfl
 | true=>
  split at this
  ·rename_i o ho
   rw[Array.any_eq_true'] at this;obtain⟨e,he,hb⟩:=this;simp only[Bool.and_eq_true,beq_iff_eq] at hb;have h1:=XG hc ho hl he hb.1;rw[hb.2] at h1;rcases Nat.lt_or_ge i listed.size with h'|h'
   ·simp[h'] at h1 hu
    rw[hu] at h1;cases h1
   ·simp[Array.getElem?_eq_none h'] at hu
  ·cases this
def JD(md:Region.Mode)(ops:Array Oper)(B:List Nat)(listed:Array Bool)(i:Nat):Bool:=
 Region.noSelect ops&&(Region.ready md ops listed).contains i&&Region.free md ops listed i&&rC md ops listed && !(B.contains i)&&B.all fun j=> waits md ops i j
theorem Ta.tk {H₁:View}(i:Nat){B:List Nat}{Ls L₁:Bl}{o:Oper}{d:Nat}{v:Value}{fuel:Nat}{listed:Array Bool}(hc:JD md ops B listed i=true)(hi:ops[i]? =some o)(hd:o.dst=some d)(hn:d<n)(nC:AA o.op=false)(hw:JA (ops.toList.map (fun o:Oper=> o.dst)) R o=some true)
  (hv:∀H tmps,eA H₀ L H->PA n R tmps->SD M o tmps H fun u H'=> u=v/\H.le H')
  (h:Ta M St n b H₁ cs (S2 H₀ B Ls L) md ops fuel (listed.setIfInBounds i true) ((d,v)::R) L₁ ds k):Ta M St n b H₁ cs (S2 H₀ B Ls L) md ops (fuel+1) listed R L₁ ds k:=by
 simp only[JD,Bool.and_eq_true,Bool.not_eq_true'] at hc;obtain⟨⟨⟨⟨⟨XI,hr⟩,hf⟩,PB⟩,lO⟩,hB⟩:=hc;exact .take i hi XI hr hf hd hn nC PB (S2.same lO) hw (fun _ hc hu H tmps hS hr=> by
  have:=hv H tmps (hS.aBy hc hu hB) hr;unfold SD at this ⊢;have fin:∀u H',(u=v/\H.le H')->u=v/\H.le H'/\S2 H₀ B Ls L _ H':=fun u H' ⟨h1,h2⟩=> ⟨h1,h2,hS.1.mono h2,fun hh=> (hS.2 hh).mono h2⟩
  refine MA _ (fun nx H' hn=> ?_) this;cases nx <;> first
   | exact hn.elim
   | exact fin _ _ hn
   | exact cA.mono hn fin
   | exact IL.mono hn fin) h
theorem Ta.tkw {H₁:View}(i:Nat){B:List Nat}{Ls L₁:Bl}{o:Oper}{d:Nat}{v:Value}{fuel:Nat}{listed:Array Bool}(hc:JD md ops [] listed i=true)(lO:B.contains i=false)(hi:ops[i]? =some o)(hd:o.dst=some d)(hn:d<n)(nC:AA o.op=false)(hw:JA (ops.toList.map (fun o:Oper=> o.dst)) R o=some true)
  (hv:∀H tmps,eA H₀ Ls H->PA n R tmps->SD M o tmps H fun u H'=> u=v/\H.le H')
  (h:Ta M St n b H₁ cs (S2 H₀ B Ls L) md ops fuel (listed.setIfInBounds i true) ((d,v)::R) L₁ ds k):Ta M St n b H₁ cs (S2 H₀ B Ls L) md ops (fuel+1) listed R L₁ ds k:=by
 simp only[JD,Bool.and_eq_true,Bool.not_eq_true'] at hc;obtain⟨⟨⟨⟨⟨XI,hr⟩,hf⟩,PB⟩,_⟩,_⟩:=hc;exact .take i hi XI hr hf hd hn nC PB (S2.same lO) hw (fun _ _ _ H tmps hS hr=> by
  have:=hv H tmps hS.1 hr;unfold SD at this ⊢;have fin:∀u H',(u=v/\H.le H')->u=v/\H.le H'/\S2 H₀ B Ls L _ H':=fun u H' ⟨h1,h2⟩=> ⟨h1,h2,hS.1.mono h2,fun hh=> (hS.2 hh).mono h2⟩
  refine MA _ (fun nx H' hn=> ?_) this;cases nx <;> first
   | exact hn.elim
   | exact fin _ _ hn
   | exact cA.mono hn fin
   | exact IL.mono hn fin) h
theorem Ta.ps {H₁:View}(i:Nat){B:List Nat}{Ls L₁:Bl}{o:Oper}{d:Nat}{fuel:Nat}{listed:Array Bool}(hc:JD md ops [] listed i=true)(lO:B.contains i=false)(hi:ops[i]? =some o)(hd:o.dst=some d)(hn:d<n)(nC:AA o.op=false)(hw:JA (ops.toList.map (fun o:Oper=> o.dst)) R o=some false)
  (h:Ta M St n b H₁ cs (S2 H₀ B Ls L) md ops fuel (listed.setIfInBounds i true) ((d,undef)::R) L₁ ds k):Ta M St n b H₁ cs (S2 H₀ B Ls L) md ops (fuel+1) listed R L₁ ds k:=by
 simp only[JD,Bool.and_eq_true,Bool.not_eq_true'] at hc;obtain⟨⟨⟨⟨⟨XI,hr⟩,hf⟩,PB⟩,_⟩,_⟩:=hc;exact .pass i hi XI hr hf hd hn nC PB (S2.same lO) hw h
def Y2(p:Nat->Prop):List Nat->Prop
 | []=> True
 | x::xs=> p x/\Y2 p xs
theorem Y2.mem {p:Nat->Prop}:∀ {l:List Nat},Y2 p l->∀i∈l,p i
 | [],_,i,hi=> by cases hi
 | x::xs,⟨h1,h2⟩,i,hi=> by
  rcases List.mem_cons.1 hi with rfl|hi
  ·exact h1
  ·exact h2.mem i hi
theorem Ta.each(rs:List Nat){fuel:Nat}{listed:Array Bool}(hr:Region.ready md ops listed=rs)(gB:rs.isEmpty=false)(h:Y2 (yG M St n b H₀ cs S md ops fuel listed R L ds k) rs):
 Ta M St n b H₀ cs S md ops (fuel+1) listed R L ds k:=.all hr gB h.mem
theorem S2.mk {B:List Nat}{Ls L₁:Bl}{listed:Array Bool}(h1:Ls.Sublist L₁)(h2:(B.all fun j=> !(listed.getD j true))=false\/L.Sublist L₁):∀H,eA H₀ L₁ H->S2 H₀ B Ls L listed H:=fun _ hs=>
 ⟨hs.less h1,fun h=> h2.elim (fun e=> by rw[e] at h;cases h) fun e=> hs.less e⟩
def KM(L:Bl):List Nat->Bl
 | []=> L
 | i::is=> (KM L is).eraseIdx i
theorem pJ:∀(E:List Nat) (L:Bl),(KM L E).Sublist L
 | [],_=> List.Sublist.refl _
 | i::is,L=> ((KM L is).eraseIdx_sublist i).trans (pJ is L)
theorem Tc.dr {id:Nat}{fuel:Nat}(B E:List Nat)(hm:P.follows .mixedOrders=true)(hf:ops.size=fuel)(h:Ta M St n b H₀ cs (S2 H₀ B (KM L E) L) .any ops fuel (Array.replicate fuel false) R L ds k):
  Tc M St n b H₀ cs R L ds (.code (.region id ops true)::k):=fun H tmps hs hr=> by
 subst hf;refine .BL fun t=> ?_;simp only[Region.schedule,hm,Bool.true_or,if_true];have hS:=S2.mk (H₀:=H₀) (B:=B) (listed:=Array.replicate ops.size false) (pJ E L) (.inr (List.Sublist.refl L)) H hs;exact(h H tmps hs hr hS).sound _ t _ _ _ hS
theorem Tc.r8 {todo:List Item}{R':Rg}(hR:WB R' R)(h:Tc M St n b H₀ cs R' L ds todo):Tc M St n b H₀ cs R L ds todo:=
 fun H tmps hs hr=> h H tmps hs ⟨hr.1,fun d v hv=> hr.2 d v (hR.sub d v hv)⟩
theorem Tc.PC {todo:List Item}{R':Rg}(h:Tc M St n b H₀ cs R' L' ds todo)(hR:WB R' R)(hL:L'.Sublist L):Tc M St n b H₀ cs R L ds todo:=
 fun H tmps hs hr=> h H tmps (hs.less hL) ⟨hr.1,fun d v hv=> hr.2 d v (hR.sub d v hv)⟩
theorem Or.ofT {K:Rg->Bl->Prop}{o:Oper}{d:Nat}{v:Value}(hv:∀H tmps,eA H₀ L H->PA n R tmps->SD M o tmps H fun u H'=> u=v/\H.le H')(hd:o.dst=some d)(hn:d<n)(hk:K ((d,v)::R) L):Or M n H₀ R L o K:=fun H tmps hs hr=>
 (hv H tmps hs hr).run (by
  rintro u H' ⟨rfl,hle⟩;refine⟨_,L,?_,hs.mono hle,hk⟩;rw[hd];exact hr.put hn _)
theorem oA.take {o:Oper}{v:Value}(h:oA P n H₀ R L o v):∀H tmps,eA H₀ L H->PA n R tmps->SD M o tmps H fun u H'=> u=v/\H.le H':=fun H tmps hs hr=>
 MA _ (by
  rintro nx H' ⟨rfl,rfl⟩;exact⟨rfl,View.le_refl _⟩) (h H tmps hs hr)
theorem oA.GN {o:Oper}{v:Value}{cl:Go.Call}{x:Operand}{fv:Value}{az:List Value}(iA:o.op=.call cl)(PB:cl.callee=.value x)(hx:GA R x=some fv)(has:aE R cl.args.toList=some az)
  (hc:∀H,eA H₀ L H->UC M fv az H fun u H'=> H.le H'/\u=v):∀H tmps,eA H₀ L H->PA n R tmps->SD M o tmps H fun u H'=> u=v/\H.le H':=fun H tmps hs hr=> by
 have e1:=hr.ev hx;have KF:cl.args.map (uB tmps)=az.toArray:=by
  apply Array.ext'
  simpa using hr.evs has
 have hex:execOp (uB tmps) o=(Deferred.ofValue fv az.toArray).bind fun d=> invoke d.target d.args:=by
  have h1:execOp (uB tmps) o=(resolve (uB tmps) cl o.type).bind fun d=> invoke d.target d.args:=by unfold execOp;rw[iA];rfl
  rw[h1];unfold resolve;rw[PB];simp only[e1,KF]
 unfold SD;rw[hex];have fin:∀u H',(H.le H'/\u=v)->u=v/\H.le H':=fun u H' ⟨h1,h2⟩=> ⟨h2,h1⟩
 refine MA _ (fun nx H' hn=> ?_) (hc H hs);cases nx <;> first
  | exact hn.elim
  | exact cA.mono hn fin
  | exact IL.mono hn fin
end
theorem HG {H F:View}{b:Nat}{x:Bool×Obj}:(H.put b x).plus F=(H.plus F).put b x:=by
 funext c
 unfold View.plus View.put;split
 ·rename_i y hy
  split at hy
  ·rename_i e
   rw[if_pos e];exact hy.symm
  ·rename_i e
   rw[if_neg e];exact(xA hy).symm
 ·rename_i hy
  split at hy
  ·cases hy
  ·rename_i e
   rw[if_neg e];exact(KA hy).symm
theorem Dj.put {H F:View}{b:Nat}{x:Bool×Obj}(h:Dj H F)(hb:F b=none):Dj (H.put b x) F:=by
 intro c y hc;rw[View.kA]
 ·exact h c y hc
 ·intro e;rw[e,hb] at hc;cases hc
theorem Dj.none {H F:View}{b:Nat}{x:Bool×Obj}(h:Dj H F)(hb:H b=some x):F b=none:=by
 cases hf:F b with
 | none=> rfl
 | some y=> rw[h b y hf] at hb;cases hb
theorem GG {H F:View}{b:Nat}(h:H.plus F b=none):H b=none/\F b=none:=by
 unfold View.plus at h;split at h
 ·cases h
 ·exact⟨by assumption,h⟩
theorem wP {α:Type}{P:Program}(s:Sem α){Q:α->View->Prop}{F:View}:∀ {H:View},Dj H F->yA P s H Q->yA P s (H.plus F) fun a H''=> ∃H',H''=H'.plus F/\Dj H' F/\Q a H':=by
 induction s with
 | pure a=> exact fun hd h=> ⟨_,rfl,hd,h⟩
 | load m a c ih=> exact fun hd ⟨h1,h2,f,x,e,fz,v,h3,h4,h5⟩=> ⟨h1,h2,f,x,e,fz,v,xA h3,h4,ih v hd h5⟩
 | store m a v c ih=>
  intro H hd ⟨h1,h2,h3,h4,x,e,fz,h5,h6,h7,h8⟩;refine⟨h1,h2,h3,h4,x,e,fz,xA h5,h6,h7,?_⟩;rw[<-HG];exact ih (hd.put (hd.none h5)) h8
 | new o c ih=>
  intro H hd h b hb;obtain⟨h1,h2⟩:=GG hb;rw[<-HG];exact ih b (hd.put h2) (h b h1)
 | shape r c ih=> exact fun hd ⟨f,x,e,fz,h1,h2⟩=> ⟨f,x,e,fz,xA h1,ih _ hd h2⟩
 | freeze a n c ih=>
  intro H hd ⟨h1,x,e,fz,h2,h3⟩;refine⟨h1,x,e,fz,xA h2,?_⟩;rw[<-HG];exact ih (hd.put (hd.none h2)) h3
 | frozen a c ih=> exact fun hd ⟨f,x,e,fz,h1,h2⟩=> ⟨f,x,e,fz,xA h1,ih _ hd h2⟩
 | getObj r c ih=> exact fun hd ⟨f,o,h1,h2,h3,h4⟩=> ⟨f,o,xA h1,h2,h3,ih _ hd h4⟩
 | setObj r o c ih=>
  intro H hd ⟨⟨o₀,h1,h2⟩,h3,h4⟩;refine⟨⟨o₀,xA h1,h2⟩,h3,?_⟩;rw[<-HG];exact ih (hd.put (hd.none h1)) h4
 | choose q c ih=> exact fun hd h t=> ih _ hd (h t)
 | sys c k ih=> exact fun _ h=> h.elim
 | program c ih=> exact fun hd h=> ih _ hd h
 | mark m c ih=> exact fun hd ⟨h1,h2⟩=> ⟨h1,ih hd h2⟩
 | halt h=> exact fun _ h=> h.elim
section
variable {P:Program}{E:Env P}{M:Md P}{St:View->Goroutine->Prop}{n:Nat}{b:FB}{H₀:View}{cs:List Frame}{R R':Rg}{L L':Bl}{ds:List Deferred}{k:List Item}{K:Rg->Bl->Prop}{o:Oper}{d:Nat}{v:Value}
def eG(F:View)(Q:Value->View->Prop):Value->View->Prop:=fun v H''=> ∃H',H''=H'.plus F/\Dj H' F/\Q v H'
theorem IL.frame {fr:Frame}{H F:View}{Q:Value->View->Prop}(h:IL M fr H Q)(hd:Dj H F):IL M fr (H.plus F) (eG F Q):=fun St c cs hk=> by
 have h1:=h (fun H' g'=> ∃v,Q v H'/\g'=G (c.finish v) cs) c cs fun v H' hq=> .stop ⟨v,hq,rfl⟩;refine(h1.frame F hd).bind ?_;rintro H'' g' ⟨H',rfl,RI,v,hq,rfl⟩;exact hk v _ ⟨H',rfl,RI,hq⟩
theorem UC.frame {fv:Value}{az:List Value}{H F:View}{Q:Value->View->Prop}(h:UC M fv az H Q)(hd:Dj H F):UC M fv az (H.plus F) (eG F Q):=by
 refine MA _ ?_ (wP _ hd h);rintro nx H'' ⟨H',rfl,RI,hn⟩;cases nx <;> first
  | exact hn.elim
  | exact IL.frame hn RI
theorem eA.split {H:View}(hs:eA H₀ L H):∃F,H=H₀.plus F/\Dj H₀ F/\∀x∈L,F x.1=some x.2:=by
 refine⟨fun c=> match H₀ c with|some _=> none|none=> H c,?_,fun c x hc=> ?_,fun x hx=> ?_⟩
 ·funext c
  unfold View.plus;cases h0:H₀ c with
  | some y=> exact hs.base c y h0
  | none=> simp only[h0]
 ·cases h0:H₀ c with
  | some y=> simp only[h0] at hc;cases hc
  | none=> rfl
 ·simp only[hs.out x hx];exact hs.at_ x hx
theorem eA.OK {H₁ F:View}(hn:(L.map (·.1)).Nodup)(hF:∀x∈L,F x.1=some x.2)(hd:Dj H₁ F):eA H₁ L (H₁.plus F):=
 ⟨hn,fun x hx=> hd _ _ (hF x hx),fun x hx=> by rw[KA (hd _ _ (hF x hx))];exact hF x hx,fun _ _ h=> xA h⟩
theorem To.sF {dl:List (Option Tmp)}{l:List Oper}{cl:Go.Call}{x:Operand}{fv:Value}{az:List Value}(hw:JA dl R o=some true)(iA:o.op=.call cl)(PB:cl.callee=.value x)(hx:GA R x=some fv)(has:aE R cl.args.toList=some az)(hd:o.dst=some d)(hn:d<n)
  {Q:Value->View->Prop} (hc:UC M fv az H₀ Q) (hk:∀v H₁,Q v H₁->To M St n b H₁ cs dl ((d,v)::R) L ds l k):To M St n b H₀ cs dl R L ds (o::l) k:=fun arr ix ha QL=> by
 cases ix with
 | nil=> simp at QL
 | cons i r=>
  simp only[List.map_cons,List.cons.injEq] at QL;intro H tmps hs hr;refine dF.sound QL.1 (jB ha hr hw) (by rw[iA];rfl) ?_;obtain⟨F,rfl,RN,hF⟩:=hs.split;have e1:=hr.ev hx;have KF:cl.args.map (uB tmps)=az.toArray:=by
   apply Array.ext'
   simpa using hr.evs has
  have hex:execOp (uB tmps) o=(Deferred.ofValue fv az.toArray).bind fun d=> invoke d.target d.args:=by
   have h1:execOp (uB tmps) o=(resolve (uB tmps) cl o.type).bind fun d=> invoke d.target d.args:=by unfold execOp;rw[iA];rfl
   rw[h1];unfold resolve;rw[PB];simp only[e1,KF]
  unfold dF;rw[hex];have fin:∀v H'',eG F Q v H''->T M St H'' (G (b.at (KB tmps o.dst v) ds (.inRegion arr r::k)) cs):=by
   rintro v H'' ⟨H₁,rfl,RI,hq⟩;rw[hd];exact hk v H₁ hq arr r ha QL.2 _ _ (.OK hs.nodup hF RI) (hr.put hn v)
  refine MA _ (fun nx H' tQ=> ?_) (hc.frame RN);cases nx <;> first
   | exact tQ.elim
   | exact cA.mono tQ fin
   | exact IL.mono tQ fin
def IX(R:Rg):List Nat->List Value->Rg
 | t::ts,a::az=> IX ((t,a)::R) ts az
 | _,_=> R
theorem PA.aAE:∀ {ts:List Nat} {az:List Value} {R:Rg} {tmps:Array Value},PA n R tmps->(ts.all fun t=> Nat.blt t n)=true->ts.length=az.length->PA n (IX R ts az) ((ts.zip az).foldl (fun tmps (x:Nat×Value)=> tmps.setIfInBounds x.1 x.2) tmps)
 | [],[],_,_,h,_,_=> h
 | t::ts,a::az,R,tmps,h,hb,hl=> by
  simp only[List.all_cons,Bool.and_eq_true] at hb;have mB:t<n:=by have:=hb.1;rw[Nat.blt_eq] at this;exact this
  exact PA.aAE (ts:=ts) (az:=az) (h.put mB a) hb.2 (by simpa using hl)
 | [],_::_,_,_,_,_,h=> by cases h
 | _::_,[],_,_,_,_,h=> by cases h
theorem UC.round {l i:Nat}{lp:Loop}{H:View}{az:List Value}{ts:List Nat}{Q:Value->View->Prop}(hs:eA H₀ L H)(hl:L[i]? =some (l,true,.loop lp))(qR:lp.params=ts.toArray)(hb:(ts.all fun t=> Nat.blt t n)=true)(hlen:ts.length=az.length)(hr:PA n R lp.tmps)
  (h:∀St c cs,(∀v H',Q v H'->T M St H' (G (c.finish v) cs))->Tc M St n ⟨lp.fn,.normal,some l⟩ H₀ (c::cs) (IX R ts az) L [] [.code lp.assign,.beginRound,.code lp.body]):UC M (.func (.yield l) #[] #[]) az H Q:=by
 unfold UC;simp only[Deferred.ofValue];show yA P (Instr.yield l (#[]++az.toArray)) H _;refine⟨true,_,hs.get hl,by simp,rfl,?_⟩;show yA P (if(#[]++az.toArray).size≠lp.params.size then _ else _) H _;rw[if_neg (by rw[qR];simp[hlen])];intro St c cs hK;have e:(lp.params.zip (#[]++az.toArray)).foldl (fun tmps (x:Nat×Value)=> tmps.setIfInBounds x.1 x.2) lp.tmps=(ts.zip az).foldl (fun tmps (x:Nat×Value)=> tmps.setIfInBounds x.1 x.2) lp.tmps:=by
  rw[qR];simp
 have:=h St c cs hK H _ hs (hr.aAE hb hlen);rw[<-e] at this;exact this
theorem T.beginRound {H:View}{l:Nat}{tmps:Array Value}(hb:b.rd=some l)(h:yA P ((Instr.beginRound l).bind fun _=> .pure Next.skip) H fun nx H'=> nx=.skip/\T M St H' (G (b.at tmps ds k) cs)):T M St H (G (b.at tmps ds (.beginRound::k)) cs):=by
 refine .step ⟨rfl,fun w hs _=> ?_⟩;obtain⟨nx,H',w',es,h1,h2,rfl,h3⟩:=yB _ #[] hs h;rw[Array.empty_append] at h1;generalize CH:seen P (b.at tmps ds (.beginRound::k)).fn (if(b.at tmps ds (.beginRound::k)).kind==.early then #[] else es)=es';have cE:∀e∈es',e∈es:=fun e he=> by
  rw[<-CH] at he;have:=mem_seen he;split at this
  ·simp at this
  ·exact this
 have e:stepG P M.main (G (b.at tmps ds (.beginRound::k)) cs) w=stepG.apply P true (b.at tmps ds (.beginRound::k)) cs none ((Instr.beginRound l).bind fun _=> .pure Next.skip) w:=by
  simp[G,stepG,stepG.exec,FB.at,hb]
  rfl
 refine⟨_,w',es',H',(e.trans (b:=stepG.apply P true (b.at tmps ds (.beginRound::k)) cs none ((Instr.beginRound l).bind fun _=> .pure Next.skip) w) (c:=GStep.after es' (.go (G (b.at tmps ds k) cs) w')) ?_).trans (by simp[GStep.after]),h2.sub cE,h3⟩;rw[<-CH];unfold stepG.apply;rw[if_pos rfl,h1];rfl
theorem T.FA {H:View}{l:Nat}{tmps:Array Value}{todo:List Item}{jump:Option Code}{c:Frame}(hb:b.rd=some l)(hk:b.kind=.normal)
  (ht:(todo= []/\jump=none)\/(∃k,todo=.code .ret::k/\jump=some .ret)\/∃id k,todo=.code (.exit id)::k/\exitTo id k=none/\jump=some (.exit id))
  (h:yA P (Instr.endRound l jump) H fun v H'=> T M St H' (G (c.finish v) cs)):T M St H (G (b.at tmps [] todo) (c::cs)):=by
 refine .step ⟨rfl,fun w hs _=> ?_⟩;obtain⟨v,H',w',es,h1,h2,h3⟩:=yB _ #[] hs h;rw[Array.empty_append] at h1;have hp:Sem.run P (Instr.endRound l jump) w=.ok v w'/\Sem.events P (Instr.endRound l jump) w #[]=es:=by simpa using h1
 refine⟨G (c.finish v) cs,w',seen P b.fn es,H',?_,h2.sub fun e he=> mem_seen he,h3⟩;rcases ht with ⟨rfl,rfl⟩|⟨k,rfl,rfl⟩|⟨id,k,rfl,he,rfl⟩
 ·simp[G,stepG,stepG.exec,FB.at,hb,hp.1,hp.2,doReturn,hk,GStep.after]
 ·simp[G,stepG,stepG.exec,FB.at,hb,hp.1,hp.2,doReturn,hk,GStep.after]
 ·simp[G,stepG,stepG.exec,FB.at,hb,hp.1,hp.2,doReturn,hk,GStep.after,he]
theorem Tc.beginRound {i l:Nat}{lp:Loop}(hb:b.rd=some l)(hi:L[i]? =some (l,true,.loop lp))(kB:lp.state=.ready)(h:Tc M St n b H₀ cs R (L.set i (l,true,.loop { lp with state:=.busy })) ds k):Tc M St n b H₀ cs R L ds (.beginRound::k):=fun H tmps hs hr=>
 .beginRound hb (by
  have hl:=hs.get hi;refine aA (Instr.beginRound l) _ ?_;refine⟨true,_,hl,by simp,rfl,?_⟩;refine⟨⟨_,hl,by simp⟩,rfl,?_⟩;show yA P (match lp.state with
   | .ready=> _
   | .done=> _
   | .busy=> _
   | .exhausted=> _) _ _
  rw[kB];exact⟨rfl,h _ tmps (hs.set hi _) hr⟩)
theorem Tc.FA {i l:Nat}{lp:Loop}{c:Frame}{Q:Value->View->Prop}{f:FuncId}{todo:List Item}{jump:Option Code}(hK:∀v H',Q v H'->T M St H' (G (c.finish v) cs))(hi:L[i]? =some (l,true,.loop lp))
  (ht:(todo= []/\jump=none)\/(∃k,todo=.code .ret::k/\jump=some .ret)\/∃id k,todo=.code (.exit id)::k/\exitTo id k=none/\jump=some (.exit id))
  (h:∀H',eA H₀ (L.set i (l,true,.loop { lp with state:=if jump.isNone then .ready else .done,pending:=jump })) H'->Q (.bool jump.isNone) H'):Tc M St n ⟨f,.normal,some l⟩ H₀ (c::cs) R L [] todo:=fun H tmps hs _=>
 .FA (b:=⟨f,.normal,some l⟩) rfl rfl ht (by
  have hl:=hs.get hi;refine⟨true,_,hl,by simp,rfl,?_⟩;refine⟨⟨_,hl,by simp⟩,rfl,?_⟩;exact hK _ _ (h _ (hs.set hi _)))
theorem T.endRangeFunc {H:View}{l:Nat}{tmps:Array Value}(h:yA P (Instr.endLoop l) H fun j H'=> T M St H' (G (b.at tmps ds ((j.map Item.code).toList++k)) cs)):T M St H (G (b.at tmps ds (.endRangeFunc l::k)) cs):=by
 refine .step ⟨rfl,fun w hs _=> ?_⟩;obtain⟨v,H',w',es,h1,h2,h3⟩:=yB _ #[] hs h;rw[Array.empty_append] at h1;have hp:Sem.run P (Instr.endLoop l) w=.ok v w'/\Sem.events P (Instr.endLoop l) w #[]=es:=by simpa using h1
 refine⟨_,w',seen P b.fn es,H',?_,h2.sub fun e he=> mem_seen he,h3⟩;simp[G,stepG,stepG.exec,FB.at,hp.1,hp.2,GStep.after]
theorem T.collect {H:View}{r:Nat}{tmps:Array Value}{todo:List Item}{az:Array Value}(h:yA P (Instr.takeDeferred r) H fun calls H'=> T M St H' (G (b.back tmps (calls++ds) todo) cs)):T M St H (G (b.back tmps ({ target:=.collected r,args:=az }::ds) todo) cs):=by
 refine .step ⟨rfl,fun w hs _=> ?_⟩;obtain⟨v,H',w',es,h1,h2,h3⟩:=yB _ #[] hs h;rw[Array.empty_append] at h1;refine⟨_,w',seen P b.fn es,H',?_,h2.sub fun e he=> mem_seen he,h3⟩;have e:stepG P M.main (G (b.back tmps ({ target:=.collected r,args:=az }::ds) todo) cs) w=unwind P M.main (b.back tmps ({ target:=.collected r,args:=az }::ds) todo) cs none w:=by
  simp[G,stepG,FB.back]
 rw[e];unfold unwind;simp only[FB.back,h1,GStep.after,G,Array.append_empty]
theorem T.rangeFunc {H:View}{f:Operand}{params:Array Tmp}{assign body:Code}{tmps:Array Value}{fv:Value}(hf:uB tmps f=fv)
  (h:yA P (Instr.enterLoop b.fn tmps params assign body b.rd) H fun x H'=> UC M fv [.func (.yield x.1) #[] #[]] H' fun _ H''=> T M St H'' (G (b.at tmps (x.2++ds) (.endRangeFunc x.1::k)) cs)):
  T M St H (G (b.at tmps ds (.code (.rangeFunc f params assign body)::k)) cs):=by
 refine .step ⟨rfl,fun w hs _=> ?_⟩;obtain⟨⟨l,mark⟩,H₁,w₁,es₁,h1,h2,h3⟩:=yB _ #[] hs h;rw[Array.empty_append] at h1;obtain⟨nx,H₂,w₂,es₂,g1,g2,g3⟩:=yB _ #[] h2.sat h3;rw[Array.empty_append] at g1;generalize cS:b.at tmps (mark++ds) (.inRangeFunc l::k)=fr;generalize CH:seen P fr.fn (if fr.kind==.early then #[] else es₂)=es';have cE:∀e∈seen P b.fn es₁++es',e∈es₁++es₂:=fun e he=> by
  rcases Array.mem_append.1 he with he|he
  ·exact Array.mem_append.2 (.inl (mem_seen he))
  ·rw[<-CH] at he;have:=mem_seen he;split at this
   ·simp at this
   ·exact Array.mem_append.2 (.inr this)
 have key:stepG P M.main (G (b.at tmps ds (.code (.rangeFunc f params assign body)::k)) cs) w=
   GStep.after (seen P b.fn es₁) (stepG.apply P true fr cs none ((Deferred.ofValue fv #[.func (.yield l) #[] #[]]).bind fun d=> invoke d.target d.args) w₁):=by
  have fU:fr.eval f=fv:=by rw[<-cS,FB.eval_at];exact hf
  have vQ:(resolve fr.eval { callee:=.value f,args:=#[.const (.func (.yield l) #[] #[])],argTypes:=#[] } 0)=Deferred.ofValue fv #[.func (.yield l) #[] #[]]:=by
   show Deferred.ofValue (fr.eval f) (#[Operand.const (.func (.yield l) #[] #[])].map fr.eval)=_;rw[fU];simp[Frame.eval]
  have:stepG P M.main (G (b.at tmps ds (.code (.rangeFunc f params assign body)::k)) cs) w=
   GStep.after (seen P b.fn es₁) (stepG.apply P true fr cs none ((resolve fr.eval { callee:=.value f,args:=#[.const (.func (.yield l) #[] #[])],argTypes:=#[] } 0).bind fun d=> invoke d.target d.args) w₁):=by
   have hp:Sem.run P (Instr.enterLoop b.fn tmps params assign body b.rd) w=.ok (l,mark) w₁/\Sem.events P (Instr.enterLoop b.fn tmps params assign body b.rd) w #[]=es₁:=by simpa using h1
   rw[<-cS];simp[G,stepG,stepG.exec,FB.at,hp.1,hp.2]
   rfl
  rw[this,vQ]
 have ZR:∀g,stepG.apply P true fr cs none ((Deferred.ofValue fv #[.func (.yield l) #[] #[]]).bind fun d=> invoke d.target d.args) w₁=GStep.after es' (.go g w₂)-> 
   stepG P M.main (G (b.at tmps ds (.code (.rangeFunc f params assign body)::k)) cs) w=.go g w₂ (seen P b.fn es₁++es'):=fun g hg=> by
  rw[key,hg];simp[GStep.after]
 have XC:∀v,fr.finish v=b.at tmps (mark++ds) (.endRangeFunc l::k):=by
  intro v;rw[<-cS];rfl
 cases nx <;> try exact g3.elim
 case enter g az=>
  refine⟨_,w₂,_,H₂,ZR (G (Frame.enter P g az .normal) (fr::cs)) ?_,(h2.trans g2).sub cE,?_⟩
  ·subst cS;rw[<-CH];unfold stepG.apply;rw[if_pos rfl,g1];rfl
  ·exact g3 St fr cs fun v H'' hq=> by rw[XC];exact hq
 case round l' g tmps' az bd=>
  refine⟨_,w₂,_,H₂,ZR (G (Frame.round l' g tmps' az bd .normal) (fr::cs)) ?_,(h2.trans g2).sub cE,?_⟩
  ·subst cS;rw[<-CH];unfold stepG.apply;rw[if_pos rfl,g1];rfl
  ·exact g3 St fr cs fun v H'' hq=> by rw[XC];exact hq
def jD(r:Nat):Deferred:= { target:=.collected r,args:=#[] }
def Loop.fresh(f:FuncId)(tmps:Array Value)(params:Array Tmp)(assign body:Code)(r:Nat):Loop:= { state:=.ready,pending:=none,fn:=f,tmps,params,assign,body,defers:=r }
theorem Tc.rangeFunc {f:Operand}{params:Array Tmp}{assign body:Code}{fv:Value}(MK:b.rd=none)(hf:GA R f=some fv)(Z:Nat->Nat->Option Code->View->Bl->Prop)
  (h:∀l r tmps H,PA n R tmps->eA H₀ ((l,true,.loop (Loop.fresh b.fn tmps params assign body r))::(r,true,.deferred (some []))::L) H-> 
   UC M fv [.func (.yield l) #[] #[]] H fun _ H'=> ∃H₁ L₁ lp,eA H₁ ((l,true,.loop lp)::(r,true,.deferred (some []))::L₁) H'/\lp.state≠ .busy/\Z l r lp.pending H₁ L₁)
  (hk:∀l r j H₁ L₁,Z l r j H₁ L₁->Tc M St n b H₁ cs R ((r,true,.deferred (some []))::L₁) (jD r::ds) ((j.map Item.code).toList++k)):
  Tc M St n b H₀ cs R L ds (.code (.rangeFunc f params assign body)::k):=fun H tmps hs hr=> by
 refine .rangeFunc (hr.ev hf) ?_;rw[MK];intro r uZ;intro l L8;have hs':=(hs.cons (true,.deferred (some [])) uZ).cons (true,.loop (Loop.fresh b.fn tmps params assign body r)) L8;refine UC.mono (h l r tmps _ hr hs') ?_;rintro v H' ⟨H₁,L₁,lp,UN,kB,hz⟩;refine .endRangeFunc ?_;have hl:=UN.get (i:=0) rfl;refine⟨true,_,hl,by simp,rfl,?_⟩;have hb:(lp.state==LoopState.busy)=false:=by simpa using kB
 show yA P (if(lp.state==LoopState.busy)=true then _ else _) H' _;rw[if_neg (by simp[hb])];refine⟨⟨_,hl,by simp⟩,rfl,?_⟩;refine hk l r lp.pending H₁ L₁ hz _ tmps ?_ hr;exact(UN.set (i:=0) rfl _).less (List.sublist_cons_self _ _)
theorem Tc.OS {f:Operand}{params:Array Tmp}{assign body:Code}{fv:Value}{lo i:Nat}{lpo:Loop}(MK:b.rd=some lo)(hi:L[i]? =some (lo,true,.loop lpo))(hf:GA R f=some fv)(Z:Nat->Option Code->View->Bl->Prop)
  (h:∀l tmps H,PA n R tmps->eA H₀ ((l,true,.loop (Loop.fresh b.fn tmps params assign body lpo.defers))::L) H-> 
   UC M fv [.func (.yield l) #[] #[]] H fun _ H'=> ∃H₁ L₁ lp,eA H₁ ((l,true,.loop lp)::L₁) H'/\lp.state≠ .busy/\Z l lp.pending H₁ L₁)
  (hk:∀l j H₁ L₁,Z l j H₁ L₁->Tc M St n b H₁ cs R L₁ ds ((j.map Item.code).toList++k)):
  Tc M St n b H₀ cs R L ds (.code (.rangeFunc f params assign body)::k):=fun H tmps hs hr=> by
 refine .rangeFunc (hr.ev hf) ?_;rw[MK];refine⟨true,_,hs.get hi,by simp,rfl,?_⟩;intro l L8;have hs':=hs.cons (true,.loop (Loop.fresh b.fn tmps params assign body lpo.defers)) L8;refine UC.mono (h l tmps _ hr hs') ?_;rintro v H' ⟨H₁,L₁,lp,UN,kB,hz⟩;refine .endRangeFunc ?_;have hl:=UN.get (i:=0) rfl;refine⟨true,_,hl,by simp,rfl,?_⟩;have hb:(lp.state==LoopState.busy)=false:=by simpa using kB
 show yA P (if(lp.state==LoopState.busy)=true then _ else _) H' _;rw[if_neg (by simp[hb])];refine⟨⟨_,hl,by simp⟩,rfl,?_⟩;refine hk l lp.pending H₁ L₁ hz _ tmps ?_ hr;exact(UN.set (i:=0) rfl _).less (List.sublist_cons_self _ _)
theorem Tc.TS {i r:Nat}{fn:Func}{c:Frame}{Q:Value->View->Prop}{f:FuncId}{rs:List ResultVar}{vs:List Value}(hK:∀v H',Q v H'->T M St H' (G (c.finish v) cs))(hf:P.funcs[f]? =some fn)(TN:fn.results=rs.toArray)
  (hi:L[i]? =some (r,true,.deferred (some []))) (ho:OH E R (L.set i (r,true,.deferred none)) rs vs) (h:∀H',eA H₀ (L.set i (r,true,.deferred none)) H'->Q (TC vs) H'):Tc M St n ⟨f,.normal,none⟩ H₀ (c::cs) R L [jD r] (.code .ret::k):=
 fun H tmps hs hr=> .kC rfl (.collect (by
  have hd:=hs.get hi;refine⟨true,_,hd,by simp,rfl,?_⟩;refine⟨⟨_,hd,by simp⟩,rfl,?_⟩;have hs':=hs.set hi (true,.deferred none);exact .leave hf rfl (MA _ hK (nD hs' hr TN ho (h _ hs')))))
theorem Tc.aCV {i r:Nat}{fn:Func}{c:Frame}{Q:Value->View->Prop}{f:FuncId}{rs:List ResultVar}{vs:List Value}(hK:∀v H',Q v H'->T M St H' (G (c.finish v) cs))(hf:P.funcs[f]? =some fn)(TN:fn.results=rs.toArray)
  (hi:L[i]? =some (r,true,.deferred (some []))) (ho:OH E R (L.set i (r,true,.deferred none)) rs vs) (h:∀H',eA H₀ (L.set i (r,true,.deferred none)) H'->Q (TC vs) H'):Tc M St n ⟨f,.normal,none⟩ H₀ (c::cs) R L [jD r] []:=
 fun H tmps hs hr=> .over rfl (.collect (by
  have hd:=hs.get hi;refine⟨true,_,hd,by simp,rfl,?_⟩;refine⟨⟨_,hd,by simp⟩,rfl,?_⟩;have hs':=hs.set hi (true,.deferred none);exact .leave hf rfl (MA _ hK (nD hs' hr TN ho (h _ hs')))))
theorem Tc.aP {σ:Type}(I:σ->View×Rg×Bl)(μ:σ->Nat){body:Code}
  (step:∀s,(∀s',μ s'<μ s->Tc M St n b (I s').1 cs (I s').2.1 (I s').2.2 ds (.inLoop body::k))->Tc M St n b (I s).1 cs (I s).2.1 (I s).2.2 ds (.code body:: .inLoop body::k)) (s₀:σ):
  Tc M St n b (I s₀).1 cs (I s₀).2.1 (I s₀).2.2 ds (.code (.loop body)::k):=by
 have key:∀(m:Nat) (s:σ),μ s<=m->Tc M St n b (I s).1 cs (I s).2.1 (I s).2.2 ds (.code body:: .inLoop body::k):=by
  intro m;induction m with
  | zero=> exact fun s hs=> step s fun s' mB=> by omega
  | succ m ih=> exact fun s hs=> step s fun s' mB=> .inLoop (ih s' oM)
 exact .loop (key _ s₀ (Nat.le_refl _))
def View.BA(H:View)(b:Nat):View:=fun c=> if c=b then none else H c
theorem OA {H:View}{b c:Nat}(h:c≠b):H.BA b c=H c:=by simp[View.BA,h]
theorem eA.pull {H:View}{b:Nat}{x:Bool×Obj}(hb:H b=some x):eA (H.BA b) [(b,x)] H:=
 ⟨by simp,by simp[View.BA],by simpa using hb,fun c y hc=> by
  unfold View.BA at hc;split at hc
  ·cases hc
  ·exact hc⟩
end
end Go.RL
namespace Go.Proofs.YtgkmnalhddmclaaGreatDoor
open Go.RL
theorem aEE:EA Tryz.prog 3 ⟨false,1,8,.int .i64 (0),[],none,.int .i64⟩:=by constructor <;> kernel_rfl
theorem aEF:EA Tryz.prog 4 ⟨false,1,1,.bool false,[],none,.bool⟩:=by constructor <;> kernel_rfl
theorem aEG:EA Tryz.prog 5 ⟨false,1,1,.int .u8 (0),[],none,.int .u8⟩:=by constructor <;> kernel_rfl
theorem aEH:EA Tryz.prog 9 ⟨false,1,16,.string ⟨#[]⟩,[],none,.str⟩:=by constructor <;> kernel_rfl
theorem aCX:EA Tryz.prog 20 ⟨false,1,16,.nilIface,[],none,.other⟩:=by constructor <;> kernel_rfl
theorem aCY:EA Tryz.prog 21 ⟨false,1,4,.int .i32 (0),[],none,.int .i32⟩:=by constructor <;> kernel_rfl
theorem aCZ:EA Tryz.prog 23 ⟨true,2,16,.agg ⟨[.int .i64 (0),.int .i64 (0)]⟩,[0,1],none,.struct [(3,(0,1)),(3,(1,1))]⟩:=by constructor <;> kernel_rfl
theorem aC0:EA Tryz.prog 24 ⟨false,1,24,.slice none 0 0,[],some (none,38),.slice 38⟩:=by constructor <;> kernel_rfl
theorem aC1:EA Tryz.prog 26 ⟨true,7,72,.agg ⟨[.int .i64 (0),.int .i64 (0),.slice none 0 0,.int .i64 (0),.int .i64 (0),.int .i64 (0),.int .i64 (0)]⟩,[0,2,3,5],none,.struct [(23,(0,2)),(24,(2,1)),(23,(3,2)),(23,(5,2))]⟩:=by constructor <;> kernel_rfl
theorem aC2:EA Tryz.prog 29 ⟨false,1,8,.int .i64 (0),[],none,.int .i64⟩:=by constructor <;> kernel_rfl
theorem aC3:EA Tryz.prog 38 ⟨true,4,32,.agg ⟨[.int .i64 (0),.int .i64 (0),.int .i64 (0),.int .i64 (0)]⟩,[0,2],none,.struct [(23,(0,2)),(23,(2,2))]⟩:=by constructor <;> kernel_rfl
theorem aC4:EA Tryz.prog 40 ⟨true,8,64,.agg ⟨[.int .i64 (0),.int .i64 (0),.int .i64 (0),.int .i64 (0),.int .i64 (0),.int .i64 (0),.int .i64 (0),.int .i64 (0)]⟩,[0,2,4],none,.struct [(23,(0,2)),(23,(2,2)),(38,(4,4))]⟩:=by constructor <;> kernel_rfl
theorem aC5:EA Tryz.prog 43 ⟨false,1,24,.slice none 0 0,[],some (none,3),.slice 3⟩:=by constructor <;> kernel_rfl
theorem aC6:EA Tryz.prog 47 ⟨false,1,8,.int .i64 (0),[],none,.int .i64⟩:=by constructor <;> kernel_rfl
theorem aC7:EA Tryz.prog 53 ⟨true,4,48,.agg ⟨[.int .i64 (0),.int .i64 (0),.int .i64 (0),.slice none 0 0]⟩,[0,1,2,3],none,.struct [(3,(0,1)),(3,(1,1)),(3,(2,1)),(43,(3,1))]⟩:=by constructor <;> kernel_rfl
theorem aC8:EA Tryz.prog 68 ⟨false,1,8,.pointer none,[],none,.other⟩:=by constructor <;> kernel_rfl
theorem aC9:EA Tryz.prog 69 ⟨false,1,24,.slice none 0 0,[],some (none,5),.slice 5⟩:=by constructor <;> kernel_rfl
theorem aDa:EA Tryz.prog 71 ⟨true,2,32,.agg ⟨[.pointer none,.slice none 0 0]⟩,[0,1],none,.struct [(68,(0,1)),(69,(1,1))]⟩:=by constructor <;> kernel_rfl
theorem aDb:EA Tryz.prog 72 ⟨false,1,24,.slice none 0 0,[],some (none,23),.slice 23⟩:=by constructor <;> kernel_rfl
theorem aDc:EA Tryz.prog 74 ⟨false,1,16,.nilIface,[],none,.other⟩:=by constructor <;> kernel_rfl
theorem aDd:EA Tryz.prog 82 ⟨false,1,24,.slice none 0 0,[],some (none,9),.slice 9⟩:=by constructor <;> kernel_rfl
theorem aDe:EA Tryz.prog 84 ⟨true,0,0,.agg ⟨[]⟩,[],none,.struct []⟩:=by constructor <;> kernel_rfl
theorem aDf:EA Tryz.prog 93 ⟨true,6,48,.agg ⟨[.int .i64 (0),.int .i64 (0),.int .i64 (0),.int .i64 (0),.int .i64 (0),.int .i64 (0)]⟩,[0,2,4],none,.struct [(23,(0,2)),(23,(2,2)),(23,(4,2))]⟩:=by constructor <;> kernel_rfl
theorem aDg:EA Tryz.prog 96 ⟨true,4,32,.agg ⟨[.int .i64 (0),.int .i64 (0),.int .i64 (0),.int .i64 (0)]⟩,[0],none,.struct [(38,(0,4))]⟩:=by constructor <;> kernel_rfl
theorem aAI:EA Tryz.prog 102 ⟨false,1,8,.nilFunc,[],none,.other⟩:=by constructor <;> kernel_rfl
theorem aAJ:EA Tryz.prog 103 ⟨false,1,24,.slice none 0 0,[],some (none,108),.slice 108⟩:=by constructor <;> kernel_rfl
theorem aAK:EA Tryz.prog 105 ⟨true,2,32,.agg ⟨[.int .i64 (0),.slice none 0 0]⟩,[0,1],none,.struct [(3,(0,1)),(103,(1,1))]⟩:=by constructor <;> kernel_rfl
theorem aAL:EA Tryz.prog 108 ⟨true,2,16,.agg ⟨[.int .i64 (0),.int .i64 (0)]⟩,[0,1],none,.struct [(3,(0,1)),(3,(1,1))]⟩:=by constructor <;> kernel_rfl
theorem aAM:EA Tryz.prog 112 ⟨true,8,64,.agg ⟨[.int .i64 (0),.int .i64 (0),.int .i64 (0),.int .i64 (0),.int .i64 (0),.int .i64 (0),.int .i64 (0),.int .i64 (0)]⟩,[0],none,.struct [(40,(0,8))]⟩:=by constructor <;> kernel_rfl
theorem aAN:EA Tryz.prog 115 ⟨false,1,8,.map none,[],none,.map 117 4⟩:=by constructor <;> kernel_rfl
theorem aAO:EA Tryz.prog 117 ⟨false,1,1,.int .u8 (0),[],none,.int .u8⟩:=by constructor <;> kernel_rfl
theorem aAP:EA Tryz.prog 127 ⟨true,6,48,.agg ⟨[.int .i64 (0),.int .i64 (0),.int .i64 (0),.int .i64 (0),.int .i64 (0),.int .i64 (0)]⟩,[],some (some 6,3),.arr 6 3⟩:=by constructor <;> kernel_rfl
theorem aAQ:EA Tryz.prog 133 ⟨true,8,96,.agg ⟨[.int .i64 (0),.int .i64 (0),.slice none 0 0,.int .i64 (0),.int .i64 (0),.int .i64 (0),.int .i64 (0),.slice none 0 0]⟩,[0,7],none,.struct [(26,(0,7)),(43,(7,1))]⟩:=by constructor <;> kernel_rfl
theorem aAR:EA Tryz.prog 139 ⟨true,6,48,.agg ⟨[.int .i64 (0),.int .i64 (0),.int .i64 (0),.int .i64 (0),.int .i64 (0),.int .i64 (0)]⟩,[],some (some 3,23),.arr 3 23⟩:=by constructor <;> kernel_rfl
theorem aAS:EA Tryz.prog 141 ⟨false,1,8,.pointer none,[],none,.other⟩:=by constructor <;> kernel_rfl
theorem aAT:EA Tryz.prog 155 ⟨false,1,24,.slice none 0 0,[],some (none,156),.slice 156⟩:=by constructor <;> kernel_rfl
theorem aAU:EA Tryz.prog 156 ⟨false,1,8,.nilFunc,[],none,.other⟩:=by constructor <;> kernel_rfl
theorem aAV:EA Tryz.prog 157 ⟨true,4,32,.agg ⟨[.nilFunc,.nilFunc,.nilFunc,.nilFunc]⟩,[],some (some 4,156),.arr 4 156⟩:=by constructor <;> kernel_rfl
theorem aAW:EA Tryz.prog 158 ⟨false,1,8,.map none,[],none,.map 167 4⟩:=by constructor <;> kernel_rfl
theorem aAX:EA Tryz.prog 162 ⟨true,2,16,.agg ⟨[.int .i64 (0),.int .i64 (0)]⟩,[0,1],none,.struct [(3,(0,1)),(3,(1,1))]⟩:=by constructor <;> kernel_rfl
theorem aAY:EA Tryz.prog 163 ⟨false,1,8,.map none,[],none,.map 108 207⟩:=by constructor <;> kernel_rfl
theorem aAZ:EA Tryz.prog 165 ⟨true,9,88,.agg ⟨[.int .i64 (0),.slice none 0 0,.int .i64 (0),.int .i64 (0),.int .i64 (0),.int .i64 (0),.int .i64 (0),.int .i64 (0),.map none]⟩,[0,2,3,4,5,6,8],none,.struct [(105,(0,2)),(3,(2,1)),(3,(3,1)),(3,(4,1)),(3,(5,1)),(162,(6,2)),(163,(8,1))]⟩:=by constructor <;> kernel_rfl
theorem aA0:EA Tryz.prog 167 ⟨true,128,128,.agg ⟨List.replicate 128 (.bool false)⟩,[],some (some 128,4),.arr 128 4⟩:=by constructor <;> kernel_rfl
theorem aA1:EA Tryz.prog 169 ⟨false,1,8,.int .u64 (0),[],none,.int .u64⟩:=by constructor <;> kernel_rfl
theorem aA2:EA Tryz.prog 180 ⟨false,1,4,.int .u32 (0),[],none,.int .u32⟩:=by constructor <;> kernel_rfl
theorem aA3:EA Tryz.prog 184 ⟨true,2,8,.agg ⟨[.int .i32 (0),.int .u32 (0)]⟩,[],none,.other⟩:=by constructor <;> kernel_rfl
theorem aA4:EA Tryz.prog 187 ⟨false,1,8,.int .u64 (0),[],none,.int .u64⟩:=by constructor <;> kernel_rfl
theorem aA5:EA Tryz.prog 191 ⟨true,2,16,.agg ⟨[.int .u64 (0),.int .u32 (0)]⟩,[],none,.struct [(179,(0,0)),(189,(0,1)),(180,(1,1))]⟩:=by constructor <;> kernel_rfl
theorem aA6:EA Tryz.prog 192 ⟨false,1,8,.map none,[],none,.map 3 3⟩:=by constructor <;> kernel_rfl
theorem aA7:EA Tryz.prog 196 ⟨false,1,8,.pointer none,[],none,.other⟩:=by constructor <;> kernel_rfl
theorem aA8:EA Tryz.prog 206 ⟨false,1,8,.nilFunc,[],none,.other⟩:=by constructor <;> kernel_rfl
theorem aA9:EA Tryz.prog 207 ⟨false,1,24,.slice none 0 0,[],some (none,210),.slice 210⟩:=by constructor <;> kernel_rfl
theorem aBa:EA Tryz.prog 210 ⟨true,2,16,.agg ⟨[.int .i64 (0),.int .i64 (0)]⟩,[0,1],none,.struct [(3,(0,1)),(3,(1,1))]⟩:=by constructor <;> kernel_rfl
theorem aBb:EA Tryz.prog 213 ⟨false,1,8,.int .i64 (0),[],none,.int .i64⟩:=by constructor <;> kernel_rfl
theorem aBc:EA Tryz.prog 222 ⟨false,1,8,.nilFunc,[],none,.other⟩:=by constructor <;> kernel_rfl
theorem aBd:EA Tryz.prog 223 ⟨false,1,8,.nilFunc,[],none,.other⟩:=by constructor <;> kernel_rfl
theorem aBe:EA Tryz.prog 246 ⟨false,1,8,.int .u64 (0),[],none,.int .u64⟩:=by constructor <;> kernel_rfl
theorem aBf:EA Tryz.prog 249 ⟨false,1,8,.pointer none,[],none,.other⟩:=by constructor <;> kernel_rfl
theorem aBh:EA Tryz.prog 270 ⟨true,256,256,.agg ⟨List.replicate 256 (.bool false)⟩,[],some (some 256,4),.arr 256 4⟩:=by constructor <;> kernel_rfl
theorem aBi:EA Tryz.prog 274 ⟨false,1,8,.pointer none,[],none,.other⟩:=by constructor <;> kernel_rfl
theorem aBj:EA Tryz.prog 283 ⟨true,20,160,.agg ⟨[.int .u64 (0),.int .u64 (0),.int .u64 (0),.int .u64 (0),.int .u64 (0),.int .u64 (0),.int .u64 (0),.int .u64 (0),.int .u64 (0),.int .u64 (0),.int .u64 (0),.int .u64 (0),.int .u64 (0),.int .u64 (0),.int .u64 (0),.int .u64 (0),.int .u64 (0),.int .u64 (0),.int .u64 (0),.int .u64 (0)]⟩,[],some (some 20,187),.arr 20 187⟩:=by constructor <;> kernel_rfl
theorem aBk:EA Tryz.prog 292 ⟨true,256,256,.agg ⟨List.replicate 256 (.int .u8 (0))⟩,[],some (some 256,5),.arr 256 5⟩:=by constructor <;> kernel_rfl
theorem aBl:EA Tryz.prog 294 ⟨true,2,2,.agg ⟨[.int .u8 (0),.int .u8 (0)]⟩,[0,1],none,.struct [(5,(0,1)),(5,(1,1))]⟩:=by constructor <;> kernel_rfl
theorem aBm:EA Tryz.prog 295 ⟨true,32,32,.agg ⟨[.int .u8 (0),.int .u8 (0),.int .u8 (0),.int .u8 (0),.int .u8 (0),.int .u8 (0),.int .u8 (0),.int .u8 (0),.int .u8 (0),.int .u8 (0),.int .u8 (0),.int .u8 (0),.int .u8 (0),.int .u8 (0),.int .u8 (0),.int .u8 (0),.int .u8 (0),.int .u8 (0),.int .u8 (0),.int .u8 (0),.int .u8 (0),.int .u8 (0),.int .u8 (0),.int .u8 (0),.int .u8 (0),.int .u8 (0),.int .u8 (0),.int .u8 (0),.int .u8 (0),.int .u8 (0),.int .u8 (0),.int .u8 (0)]⟩,[],some (some 16,294),.arr 16 294⟩:=by constructor <;> kernel_rfl
theorem aBn:EA Tryz.prog 303 ⟨true,3,48,.agg ⟨[.string ⟨#[]⟩,.string ⟨#[]⟩,.nilIface]⟩,[0,1,2],none,.struct [(9,(0,1)),(9,(1,1)),(74,(2,1))]⟩:=by constructor <;> kernel_rfl
theorem aBo:EA Tryz.prog 305 ⟨true,32,32,.agg ⟨[.int .u8 (0),.int .u8 (0),.int .u8 (0),.int .u8 (0),.int .u8 (0),.int .u8 (0),.int .u8 (0),.int .u8 (0),.int .u8 (0),.int .u8 (0),.int .u8 (0),.int .u8 (0),.int .u8 (0),.int .u8 (0),.int .u8 (0),.int .u8 (0),.int .u8 (0),.int .u8 (0),.int .u8 (0),.int .u8 (0),.int .u8 (0),.int .u8 (0),.int .u8 (0),.int .u8 (0),.int .u8 (0),.int .u8 (0),.int .u8 (0),.int .u8 (0),.int .u8 (0),.int .u8 (0),.int .u8 (0),.int .u8 (0)]⟩,[],some (some 32,5),.arr 32 5⟩:=by constructor <;> kernel_rfl
theorem aBp:EA Tryz.prog 306 ⟨true,64,64,.agg ⟨[.int .u8 (0),.int .u8 (0),.int .u8 (0),.int .u8 (0),.int .u8 (0),.int .u8 (0),.int .u8 (0),.int .u8 (0),.int .u8 (0),.int .u8 (0),.int .u8 (0),.int .u8 (0),.int .u8 (0),.int .u8 (0),.int .u8 (0),.int .u8 (0),.int .u8 (0),.int .u8 (0),.int .u8 (0),.int .u8 (0),.int .u8 (0),.int .u8 (0),.int .u8 (0),.int .u8 (0),.int .u8 (0),.int .u8 (0),.int .u8 (0),.int .u8 (0),.int .u8 (0),.int .u8 (0),.int .u8 (0),.int .u8 (0),.int .u8 (0),.int .u8 (0),.int .u8 (0),.int .u8 (0),.int .u8 (0),.int .u8 (0),.int .u8 (0),.int .u8 (0),.int .u8 (0),.int .u8 (0),.int .u8 (0),.int .u8 (0),.int .u8 (0),.int .u8 (0),.int .u8 (0),.int .u8 (0),.int .u8 (0),.int .u8 (0),.int .u8 (0),.int .u8 (0),.int .u8 (0),.int .u8 (0),.int .u8 (0),.int .u8 (0),.int .u8 (0),.int .u8 (0),.int .u8 (0),.int .u8 (0),.int .u8 (0),.int .u8 (0),.int .u8 (0),.int .u8 (0)]⟩,[],some (some 64,5),.arr 64 5⟩:=by constructor <;> kernel_rfl
theorem aBq:EA Tryz.prog 311 ⟨true,1,16,.agg ⟨[.string ⟨#[]⟩]⟩,[0],none,.struct [(9,(0,1))]⟩:=by constructor <;> kernel_rfl
def tys:List (Nat×wA):= [(3,⟨false,1,8,.int .i64 (0),[],none,.int .i64⟩),
 (4,⟨false,1,1,.bool false,[],none,.bool⟩),
 (5,⟨false,1,1,.int .u8 (0),[],none,.int .u8⟩),
 (9,⟨false,1,16,.string ⟨#[]⟩,[],none,.str⟩),
 (20,⟨false,1,16,.nilIface,[],none,.other⟩),
 (21,⟨false,1,4,.int .i32 (0),[],none,.int .i32⟩),
 (23,⟨true,2,16,.agg ⟨[.int .i64 (0),.int .i64 (0)]⟩,[0,1],none,.struct [(3,(0,1)),(3,(1,1))]⟩),
 (24,⟨false,1,24,.slice none 0 0,[],some (none,38),.slice 38⟩),
 (26,⟨true,7,72,.agg ⟨[.int .i64 (0),.int .i64 (0),.slice none 0 0,.int .i64 (0),.int .i64 (0),.int .i64 (0),.int .i64 (0)]⟩,[0,2,3,5],none,.struct [(23,(0,2)),(24,(2,1)),(23,(3,2)),(23,(5,2))]⟩),
 (29,⟨false,1,8,.int .i64 (0),[],none,.int .i64⟩),
 (38,⟨true,4,32,.agg ⟨[.int .i64 (0),.int .i64 (0),.int .i64 (0),.int .i64 (0)]⟩,[0,2],none,.struct [(23,(0,2)),(23,(2,2))]⟩),
 (40,⟨true,8,64,.agg ⟨[.int .i64 (0),.int .i64 (0),.int .i64 (0),.int .i64 (0),.int .i64 (0),.int .i64 (0),.int .i64 (0),.int .i64 (0)]⟩,[0,2,4],none,.struct [(23,(0,2)),(23,(2,2)),(38,(4,4))]⟩),
 (43,⟨false,1,24,.slice none 0 0,[],some (none,3),.slice 3⟩),
 (47,⟨false,1,8,.int .i64 (0),[],none,.int .i64⟩),
 (53,⟨true,4,48,.agg ⟨[.int .i64 (0),.int .i64 (0),.int .i64 (0),.slice none 0 0]⟩,[0,1,2,3],none,.struct [(3,(0,1)),(3,(1,1)),(3,(2,1)),(43,(3,1))]⟩),
 (68,⟨false,1,8,.pointer none,[],none,.other⟩),
 (69,⟨false,1,24,.slice none 0 0,[],some (none,5),.slice 5⟩),
 (71,⟨true,2,32,.agg ⟨[.pointer none,.slice none 0 0]⟩,[0,1],none,.struct [(68,(0,1)),(69,(1,1))]⟩),
 (72,⟨false,1,24,.slice none 0 0,[],some (none,23),.slice 23⟩),
 (74,⟨false,1,16,.nilIface,[],none,.other⟩),
 (82,⟨false,1,24,.slice none 0 0,[],some (none,9),.slice 9⟩),
 (84,⟨true,0,0,.agg ⟨[]⟩,[],none,.struct []⟩),
 (93,⟨true,6,48,.agg ⟨[.int .i64 (0),.int .i64 (0),.int .i64 (0),.int .i64 (0),.int .i64 (0),.int .i64 (0)]⟩,[0,2,4],none,.struct [(23,(0,2)),(23,(2,2)),(23,(4,2))]⟩),
 (96,⟨true,4,32,.agg ⟨[.int .i64 (0),.int .i64 (0),.int .i64 (0),.int .i64 (0)]⟩,[0],none,.struct [(38,(0,4))]⟩),
 (102,⟨false,1,8,.nilFunc,[],none,.other⟩),
 (103,⟨false,1,24,.slice none 0 0,[],some (none,108),.slice 108⟩),
 (105,⟨true,2,32,.agg ⟨[.int .i64 (0),.slice none 0 0]⟩,[0,1],none,.struct [(3,(0,1)),(103,(1,1))]⟩),
 (108,⟨true,2,16,.agg ⟨[.int .i64 (0),.int .i64 (0)]⟩,[0,1],none,.struct [(3,(0,1)),(3,(1,1))]⟩),
 (112,⟨true,8,64,.agg ⟨[.int .i64 (0),.int .i64 (0),.int .i64 (0),.int .i64 (0),.int .i64 (0),.int .i64 (0),.int .i64 (0),.int .i64 (0)]⟩,[0],none,.struct [(40,(0,8))]⟩),
 (115,⟨false,1,8,.map none,[],none,.map 117 4⟩),
 (117,⟨false,1,1,.int .u8 (0),[],none,.int .u8⟩),
 (127,⟨true,6,48,.agg ⟨[.int .i64 (0),.int .i64 (0),.int .i64 (0),.int .i64 (0),.int .i64 (0),.int .i64 (0)]⟩,[],some (some 6,3),.arr 6 3⟩),
 (133,⟨true,8,96,.agg ⟨[.int .i64 (0),.int .i64 (0),.slice none 0 0,.int .i64 (0),.int .i64 (0),.int .i64 (0),.int .i64 (0),.slice none 0 0]⟩,[0,7],none,.struct [(26,(0,7)),(43,(7,1))]⟩),
 (139,⟨true,6,48,.agg ⟨[.int .i64 (0),.int .i64 (0),.int .i64 (0),.int .i64 (0),.int .i64 (0),.int .i64 (0)]⟩,[],some (some 3,23),.arr 3 23⟩),
 (141,⟨false,1,8,.pointer none,[],none,.other⟩),
 (155,⟨false,1,24,.slice none 0 0,[],some (none,156),.slice 156⟩),
 (156,⟨false,1,8,.nilFunc,[],none,.other⟩),
 (157,⟨true,4,32,.agg ⟨[.nilFunc,.nilFunc,.nilFunc,.nilFunc]⟩,[],some (some 4,156),.arr 4 156⟩),
 (158,⟨false,1,8,.map none,[],none,.map 167 4⟩),
 (162,⟨true,2,16,.agg ⟨[.int .i64 (0),.int .i64 (0)]⟩,[0,1],none,.struct [(3,(0,1)),(3,(1,1))]⟩),
 (163,⟨false,1,8,.map none,[],none,.map 108 207⟩),
 (165,⟨true,9,88,.agg ⟨[.int .i64 (0),.slice none 0 0,.int .i64 (0),.int .i64 (0),.int .i64 (0),.int .i64 (0),.int .i64 (0),.int .i64 (0),.map none]⟩,[0,2,3,4,5,6,8],none,.struct [(105,(0,2)),(3,(2,1)),(3,(3,1)),(3,(4,1)),(3,(5,1)),(162,(6,2)),(163,(8,1))]⟩),
 (167,⟨true,128,128,.agg ⟨List.replicate 128 (.bool false)⟩,[],some (some 128,4),.arr 128 4⟩),
 (169,⟨false,1,8,.int .u64 (0),[],none,.int .u64⟩),
 (180,⟨false,1,4,.int .u32 (0),[],none,.int .u32⟩),
 (184,⟨true,2,8,.agg ⟨[.int .i32 (0),.int .u32 (0)]⟩,[],none,.other⟩),
 (187,⟨false,1,8,.int .u64 (0),[],none,.int .u64⟩),
 (191,⟨true,2,16,.agg ⟨[.int .u64 (0),.int .u32 (0)]⟩,[],none,.struct [(179,(0,0)),(189,(0,1)),(180,(1,1))]⟩),
 (192,⟨false,1,8,.map none,[],none,.map 3 3⟩),
 (196,⟨false,1,8,.pointer none,[],none,.other⟩),
 (206,⟨false,1,8,.nilFunc,[],none,.other⟩),
 (207,⟨false,1,24,.slice none 0 0,[],some (none,210),.slice 210⟩),
 (210,⟨true,2,16,.agg ⟨[.int .i64 (0),.int .i64 (0)]⟩,[0,1],none,.struct [(3,(0,1)),(3,(1,1))]⟩),
 (213,⟨false,1,8,.int .i64 (0),[],none,.int .i64⟩),
 (222,⟨false,1,8,.nilFunc,[],none,.other⟩),
 (223,⟨false,1,8,.nilFunc,[],none,.other⟩),
 (246,⟨false,1,8,.int .u64 (0),[],none,.int .u64⟩),
 (249,⟨false,1,8,.pointer none,[],none,.other⟩),
 (270,⟨true,256,256,.agg ⟨List.replicate 256 (.bool false)⟩,[],some (some 256,4),.arr 256 4⟩),
 (274,⟨false,1,8,.pointer none,[],none,.other⟩),
 (283,⟨true,20,160,.agg ⟨[.int .u64 (0),.int .u64 (0),.int .u64 (0),.int .u64 (0),.int .u64 (0),.int .u64 (0),.int .u64 (0),.int .u64 (0),.int .u64 (0),.int .u64 (0),.int .u64 (0),.int .u64 (0),.int .u64 (0),.int .u64 (0),.int .u64 (0),.int .u64 (0),.int .u64 (0),.int .u64 (0),.int .u64 (0),.int .u64 (0)]⟩,[],some (some 20,187),.arr 20 187⟩),
 (292,⟨true,256,256,.agg ⟨List.replicate 256 (.int .u8 (0))⟩,[],some (some 256,5),.arr 256 5⟩),
 (294,⟨true,2,2,.agg ⟨[.int .u8 (0),.int .u8 (0)]⟩,[0,1],none,.struct [(5,(0,1)),(5,(1,1))]⟩),
 (295,⟨true,32,32,.agg ⟨[.int .u8 (0),.int .u8 (0),.int .u8 (0),.int .u8 (0),.int .u8 (0),.int .u8 (0),.int .u8 (0),.int .u8 (0),.int .u8 (0),.int .u8 (0),.int .u8 (0),.int .u8 (0),.int .u8 (0),.int .u8 (0),.int .u8 (0),.int .u8 (0),.int .u8 (0),.int .u8 (0),.int .u8 (0),.int .u8 (0),.int .u8 (0),.int .u8 (0),.int .u8 (0),.int .u8 (0),.int .u8 (0),.int .u8 (0),.int .u8 (0),.int .u8 (0),.int .u8 (0),.int .u8 (0),.int .u8 (0),.int .u8 (0)]⟩,[],some (some 16,294),.arr 16 294⟩),
 (303,⟨true,3,48,.agg ⟨[.string ⟨#[]⟩,.string ⟨#[]⟩,.nilIface]⟩,[0,1,2],none,.struct [(9,(0,1)),(9,(1,1)),(74,(2,1))]⟩),
 (305,⟨true,32,32,.agg ⟨[.int .u8 (0),.int .u8 (0),.int .u8 (0),.int .u8 (0),.int .u8 (0),.int .u8 (0),.int .u8 (0),.int .u8 (0),.int .u8 (0),.int .u8 (0),.int .u8 (0),.int .u8 (0),.int .u8 (0),.int .u8 (0),.int .u8 (0),.int .u8 (0),.int .u8 (0),.int .u8 (0),.int .u8 (0),.int .u8 (0),.int .u8 (0),.int .u8 (0),.int .u8 (0),.int .u8 (0),.int .u8 (0),.int .u8 (0),.int .u8 (0),.int .u8 (0),.int .u8 (0),.int .u8 (0),.int .u8 (0),.int .u8 (0)]⟩,[],some (some 32,5),.arr 32 5⟩),
 (306,⟨true,64,64,.agg ⟨[.int .u8 (0),.int .u8 (0),.int .u8 (0),.int .u8 (0),.int .u8 (0),.int .u8 (0),.int .u8 (0),.int .u8 (0),.int .u8 (0),.int .u8 (0),.int .u8 (0),.int .u8 (0),.int .u8 (0),.int .u8 (0),.int .u8 (0),.int .u8 (0),.int .u8 (0),.int .u8 (0),.int .u8 (0),.int .u8 (0),.int .u8 (0),.int .u8 (0),.int .u8 (0),.int .u8 (0),.int .u8 (0),.int .u8 (0),.int .u8 (0),.int .u8 (0),.int .u8 (0),.int .u8 (0),.int .u8 (0),.int .u8 (0),.int .u8 (0),.int .u8 (0),.int .u8 (0),.int .u8 (0),.int .u8 (0),.int .u8 (0),.int .u8 (0),.int .u8 (0),.int .u8 (0),.int .u8 (0),.int .u8 (0),.int .u8 (0),.int .u8 (0),.int .u8 (0),.int .u8 (0),.int .u8 (0),.int .u8 (0),.int .u8 (0),.int .u8 (0),.int .u8 (0),.int .u8 (0),.int .u8 (0),.int .u8 (0),.int .u8 (0),.int .u8 (0),.int .u8 (0),.int .u8 (0),.int .u8 (0),.int .u8 (0),.int .u8 (0),.int .u8 (0),.int .u8 (0)]⟩,[],some (some 64,5),.arr 64 5⟩),
 (311,⟨true,1,16,.agg ⟨[.string ⟨#[]⟩]⟩,[0],none,.struct [(9,(0,1))]⟩)]
theorem WQ:qM Tryz.prog tys:=⟨aEE,aEF,aEG,aEH,aCX,aCY,aCZ,aC0,aC1,aC2,aC3,aC4,aC5,aC6,aC7,aC8,aC9,aDa,aDb,aDc,aDd,aDe,aDf,aDg,aAI,aAJ,aAK,aAL,aAM,aAN,aAO,aAP,aAQ,aAR,aAS,aAT,aAU,aAV,aAW,aAX,aAY,aAZ,aA0,aA1,aA2,aA3,aA4,aA5,aA6,aA7,aA8,aA9,aBa,aBb,aBc,aBd,aBe,aBf,aBh,aBi,aBj,aBk,aBl,aBm,aBn,aBo,aBp,aBq,trivial⟩
theorem mixed:Tryz.prog.follows .mixedOrders=true:=by kernel_rfl
theorem aB6:rA Tryz.prog 31=true:=by kernel_rfl
theorem M4:rA Tryz.prog 38=true:=by kernel_rfl
theorem aDG:rA Tryz.prog 40=true:=by kernel_rfl
theorem eO:rA Tryz.prog 42=true:=by kernel_rfl
theorem aDH:rA Tryz.prog 51=true:=by kernel_rfl
theorem aDI:rA Tryz.prog 58=true:=by kernel_rfl
theorem aDJ:rA Tryz.prog 59=true:=by kernel_rfl
theorem aB7:rA Tryz.prog 60=true:=by kernel_rfl
theorem aDK:rA Tryz.prog 61=true:=by kernel_rfl
theorem aDL:rA Tryz.prog 64=true:=by kernel_rfl
theorem aDM:rA Tryz.prog 68=true:=by kernel_rfl
theorem aDN:rA Tryz.prog 77=true:=by kernel_rfl
theorem aDO:rA Tryz.prog 80=true:=by kernel_rfl
theorem aDP:rA Tryz.prog 93=true:=by kernel_rfl
theorem aDQ:rA Tryz.prog 95=true:=by kernel_rfl
theorem aDR:rA Tryz.prog 99=true:=by kernel_rfl
theorem W7:rA Tryz.prog 101=true:=by kernel_rfl
theorem X7:rA Tryz.prog 104=true:=by kernel_rfl
theorem aBV:rA Tryz.prog 105=true:=by kernel_rfl
theorem aBW:rA Tryz.prog 107=true:=by kernel_rfl
theorem aBX:rA Tryz.prog 108=true:=by kernel_rfl
theorem JY:rA Tryz.prog 117=true:=by kernel_rfl
theorem aBY:rA Tryz.prog 121=true:=by kernel_rfl
theorem Y7:rA Tryz.prog 135=true:=by kernel_rfl
theorem aBZ:rA Tryz.prog 146=true:=by kernel_rfl
theorem aB0:rA Tryz.prog 148=true:=by kernel_rfl
theorem aB1:rA Tryz.prog 149=true:=by kernel_rfl
theorem aB2:rA Tryz.prog 153=true:=by kernel_rfl
theorem aB3:rA Tryz.prog 154=true:=by kernel_rfl
theorem aB4:rA Tryz.prog 157=true:=by kernel_rfl
theorem aB5:rA Tryz.prog 182=true:=by kernel_rfl
theorem Z7:rA Tryz.prog 184=true:=by kernel_rfl
def en:Env Tryz.prog:=Env.of tys WQ
end Go.Proofs.YtgkmnalhddmclaaGreatDoor
namespace Go.RL.Au
set_option linter.unusedSimpArgs false
set_option linter.unusedVariables false
structure Lc where
 aw:Bool
 sv:Bool
 ws:Bool
 it:Nat
 deriving DecidableEq
inductive Th where
 | ld|l0|r0
 | sq (o:Nat) (c:Lc)|c1 (o:Nat) (c:Lc)|ds (c:Lc)|r1 (c:Lc)|c2 (o:Nat) (c:Lc)|r3 (c:Lc)
 | t1 (c:Lc)|s1 (c:Lc)|t2 (c:Lc)|r2 (c:Lc)|a1 (b:Bool)
 | le|la|up|ur|ud|u0|uc (o:Nat)|ux|us (h:Bool)|ue
 | wr|wk|wi|d1|d2|d3|d4|quit
 deriving DecidableEq
structure Sh where
 m:Nat
 Q:Nat
 c:Nat
 w:Nat
 q:Nat
 deriving DecidableEq
def hd(o:Nat)(c:Lc):Th:=if o%2=1/\o/4%2=0 then .sq o c else .c2 o c
def sE(o:Nat)(c:Lc):Nat:=
 if o%2=0/\o/4%2=0 then o+1-(if c.aw then 2 else 0)
 else o+8+(if c.sv=true/\o%2=1/\o/4%2=0 then 4 else 0)-(if c.aw then 2 else 0)
def Th.mv(s:Sh):Th->List (Th×Sh)
 | .ld=> [(.l0,s)]
 | .l0=> if s.m=0 then [(.le,{ s with m:=1 })] else [(.r0,s)]
 | .r0=> [(hd s.m ⟨false,false,false,0⟩,s)]
 | .sq o c=> (.c2 o c,s)::(if c.it<4 then [(if c.aw=false/\o/2%2=0/\o/8≠0 then .c1 o c else .ds c,s)] else [])
 | .c1 o c=> if s.m=o then [(.ds { c with aw:=true },{ s with m:=o+2 })] else [(.ds c,s)]
 | .ds c=> [(.r1 c,s)]
 | .r1 c=> [(hd s.m { c with it:=c.it+1 },s)]
 | .c2 o c=> if s.m=o then(if o%2=0/\o/4%2=0 then [(.le,{ s with m:=sE o c })] else [(if c.ws then .s1 c else .t1 c,{ s with m:=sE o c })]) else [(.r3 c,s)]
 | .r3 c=> [(hd s.m c,s)]
 | .t1 c=> [(.s1 { c with ws:=true },s),(.s1 { c with ws:=false },s)]
 | .s1 c=> if s.Q=0 then [] else [(.t2 c,{ s with Q:=s.Q-1 })]
 | .t2 c=> [(.r2 { c with sv:=true },s),(.r2 { c with sv:=c.sv },s)]
 | .r2 c=> if s.m/4%2=1 then [(.a1 (!c.sv||s.m/8==1),s)] else [(hd s.m { c with aw:=true,it:=0 },s)]
 | .a1 b=> [(.le,{ s with m:=s.m-7-(if b then 4 else 0) })]
 | .le=> [(.la,s)]
 | .la=> [(.up,s)]
 | .up=> [(.ur,s)]
 | .ur=> [(.ud,s)]
 | .ud=> [(.u0,s)]
 | .u0=> [(if s.m=1 then .ue else if(s.m-1)/4%2=1 then .us true else if(s.m-1)/8=0\/(s.m-1)%8≠0 then .ue else .uc (s.m-1),{ s with m:=s.m-1 })]
 | .uc o=> if s.m=o then [(.us false,{ s with m:=o-6 })] else [(.ux,s)]
 | .ux=> [(if s.m/8=0\/s.m%8≠0 then .ue else .uc s.m,s)]
 | .us _=> [(.ue,{ s with Q:=s.Q+1 })]
 | .ue=> [(.wr,s)]
 | .wr=> [(.wk,s)]
 | .wk=> [(.wi,s)]
 | .wi=> [(.d1,s)]
 | .d1=> [(if s.c=1/\s.w=1 then .d2 else .quit,{ s with c:=s.c-1 })]
 | .d2=> [(.d3,s)]
 | .d3=> [(.d4,{ s with w:=0 })]
 | .d4=> [(.quit,{ s with q:=s.q+1 })]
 | .quit=> []
def Th.own:Th->Nat
 | .le | .la | .up | .ur | .ud | .u0=> 1
 | _=> 0
def Th.bG:Th->Nat
 | .t1 _ | .s1 _=> 1
 | _=> 0
def Th.tok:Th->Nat
 | .us false=> 1
 | _=> 0
def Th.nC:Th->Nat
 | .us true=> 1
 | _=> 0
def Th.post:Th->Nat
 | .t2 _ | .r2 _=> 1
 | _=> 0
def Th.vG:Th->Nat
 | .sq _ c | .c1 _ c | .ds c | .r1 c | .c2 _ c | .r3 c=> if c.aw then 1 else 0
 | _=> 0
def Th.VB:Th->Nat
 | .a1 _=> 1
 | _=> 0
def Th.ul:Th->Nat
 | .uc _ | .ux=> 1
 | _=> 0
def Th.on:Th->Nat
 | .d2 | .d3 | .d4 | .quit=> 0
 | _=> 1
def Th.dd:Th->Nat
 | .d2 | .d3=> 1
 | _=> 0
def Th.SF:Th->Nat
 | .d4=> 1
 | _=> 0
def sm(f:Th->Nat):List Th->Nat
 | []=> 0
 | t::l=> f t+sm f l
theorem ID {f:Th->Nat}:∀ {l:List Th} {i:Nat} {t:Th},l[i]? =some t->∀t':Th,sm f (l.set i t')+f t=sm f l+f t'
 | a::l,0,t,h,t'=> by
  simp at h
  subst h;simp only[List.set_cons_zero,sm];omega
 | a::l,i+1,t,h,t'=> by
  have:=ID (f:=f) (l:=l) (i:=i) (t:=t) (by simpa using h) t';simp only[List.set_cons_succ,sm];omega
 | [],_,_,h,_=> by simp at h
theorem jE {f:Th->Nat}:∀ {l:List Th} {i:Nat} {t:Th},l[i]? =some t->f t<=sm f l
 | a::l,0,t,h=> by
  simp at h
  subst h;simp only[sm];omega
 | a::l,i+1,t,h=> by
  have:=jE (f:=f) (l:=l) (i:=i) (t:=t) (by simpa using h);simp only[sm];omega
 | [],_,_,h=> by simp at h
theorem CE(f:Th->Nat)(t:Th):∀l:List Th,sm f (l++[t])=sm f l+f t
 | []=> by simp[sm]
 | a::l=> by simp only[List.cons_append,sm,CE f t l];omega
theorem gV {f:Th->Nat}:∀ {l:List Th},0<sm f l->∃(i:Nat) (t:Th),l[i]? =some t/\0<f t
 | a ::l,h=> by
  simp only[sm] at h;by_cases h0:0<f a
  ·exact⟨0,a,by simp,h0⟩
  ·obtain⟨i,t,h1,h2⟩:=gV (f:=f) (l:=l) oM;exact⟨i+1,t,by simpa using h1,h2⟩
 | [],h=> by simp[sm] at h
theorem PQ {f:Th->Nat}(hf:∀t,f t<=1):∀l:List Th,sm f l<=l.length
 | []=> by simp[sm]
 | a::l=> by
  have:=PQ hf l;have:=hf a;simp only[sm,List.length_cons];omega
theorem aBu {f:Th->Nat}(h0:f .quit=0){l:List Th}{i j:Nat}{t u:Th}(hi:l[i]? =some t)(hj:l[j]? =some u)(mO:i≠j):f t+f u<=sm f l:=by
 have h1:=ID (f:=f) hi .quit;have h2:(l.set i .quit)[j]? =some u:=by rw[List.getElem?_set_ne mO];exact hj
 have h3:=jE (f:=f) h2;omega
inductive Mn where
 | kd|ki|ka|kr|ke|go
 | wd|w1|w2 (o:Nat)|wm|ws|w4|we|aq|ret
 deriving DecidableEq
def Mn.mv(s:Sh):Mn->List (Mn×Sh)
 | .kd=> [(.ki,s)]
 | .ki=> [(.ka,s)]
 | .ka=> [(if s.c=0 then .kr else .ke,{ s with c:=s.c+1 })]
 | .kr=> [(.ke,s)]
 | .ke=> [(.go,s)]
 | .go=> []
 | .wd=> [(.w1,s)]
 | .w1=> [(if s.c=0 then .we else .w2 s.c,s)]
 | .w2 o=> if s.c=o then [(.wm,{ s with w:=1 })] else [(.w1,s)]
 | .wm=> [(.ws,s)]
 | .ws=> if s.q=0 then [] else [(.w4,{ s with q:=s.q-1 })]
 | .w4=> [(.we,s)]
 | .we=> [(.aq,s)]
 | .aq=> [(.ret,s)]
 | .ret=> []
def Mn.ahead:Mn->Nat
 | .kr | .ke | .go=> 1
 | _=> 0
def Mn.early:Mn->Nat
 | .kd | .ki | .ka | .kr | .ke | .go=> 1
 | _=> 0
def Mn.waits:Mn->Nat
 | .wm | .ws=> 1
 | _=> 0
def Mn.dD:Mn->Nat
 | .w4 | .we | .aq | .ret=> 1
 | _=> 0
def Th.loc(s:Sh):Th->Prop
 | .sq o c=> o<64/\o%2=1/\o/4%2=0/\(c.aw=true->o/2%2=1)/\(c.sv=true->c.aw=true)
 | .c1 o c=> o<64/\o%2=1/\o/4%2=0/\o/2%2=0/\o/8≠0/\c.aw=false/\c.sv=false/\c.it<4
 | .c2 o c=> o<64/\(c.aw=true->o/2%2=1/\o/4%2=0)/\(c.sv=true->c.aw=true)
 | .ds c=> (c.sv=true->c.aw=true)/\c.it<4
 | .r1 c=> (c.sv=true->c.aw=true)/\c.it<4
 | .r3 c=> (c.sv=true->c.aw=true)
 | .a1 b=> b=false->2<=s.m/8
 | .uc o=> o<64/\o%8=0/\0<o/8
 | _=> True
structure oE(ths:List Th)(m Q:Nat):Prop where
 m64:m<64
 i1:sm Th.own ths=m%2
 i2:m/4%2=0->sm Th.tok ths+Q+sm Th.post ths+sm Th.vG ths=m/2%2/\sm Th.nC ths=0/\sm Th.VB ths=0/\sm Th.bG ths=m/8+sm Th.tok ths+Q
 i3:m/4%2=1->m/2%2=0/\sm Th.vG ths=0/\sm Th.tok ths=0/\1<=m/8/\(m%2=1->sm Th.nC ths=0/\Q=0/\sm Th.post ths=0/\sm Th.VB ths=0/\sm Th.bG ths=m/8)/\
  (m%2=0->sm Th.nC ths+Q+sm Th.post ths+sm Th.VB ths=1/\sm Th.bG ths+sm Th.post ths+sm Th.VB ths=m/8)
 i4:m%8=0->0<m/8->0<sm Th.ul ths
structure WE(ths:List Th)(mn:Mn)(c w q:Nat):Prop where
 g1:c=sm Th.on ths+mn.ahead
 g2:mn.waits=0->w=0/\q=0/\sm Th.dd ths=0/\sm Th.SF ths=0
 g3:mn.waits=1->(0<c->w=1/\q=0/\sm Th.dd ths=0/\sm Th.SF ths=0)/\(c=0->sm Th.dd ths+sm Th.SF ths+q=1/\w=sm Th.dd ths)
 g4:mn.dD=1->c=0
theorem oE.cases {ths:List Th}{m Q:Nat}(h:oE ths m Q):
  (m/4%2=0/\sm Th.tok ths+Q+sm Th.post ths+sm Th.vG ths=m/2%2/\sm Th.nC ths=0/\sm Th.VB ths=0/\sm Th.bG ths=m/8+sm Th.tok ths+Q)\/ 
  (m/4%2=1/\m%2=1/\m/2%2=0/\sm Th.vG ths=0/\sm Th.tok ths=0/\1<=m/8/\sm Th.nC ths=0/\Q=0/\sm Th.post ths=0/\sm Th.VB ths=0/\sm Th.bG ths=m/8)\/ 
  (m/4%2=1/\m%2=0/\m/2%2=0/\sm Th.vG ths=0/\sm Th.tok ths=0/\1<=m/8/\sm Th.nC ths+Q+sm Th.post ths+sm Th.VB ths=1/\sm Th.bG ths+sm Th.post ths+sm Th.VB ths=m/8):=by
 rcases Nat.mod_two_eq_zero_or_one (m/4) with e|e
 ·exact .inl ⟨e,h.i2 e⟩
 ·obtain⟨h1,h2,h3,h4,h5,h6⟩:=h.i3 e;rcases Nat.mod_two_eq_zero_or_one m with e2|e2
  ·exact .inr (.inr ⟨e,e2,h1,h2,h3,h4,h6 e2⟩)
  ·exact .inr (.inl ⟨e,e2,h1,h2,h3,h4,h5 e2⟩)
structure Inv(n:Nat)(ths:List Th)(mn:Mn)(s:Sh):Prop where
 len:ths.length<=n
 n7:n<=6
 all:mn.early=0->ths.length=n
 more:mn.early=1->ths.length<n
 loc:∀(i:Nat) (t:Th),ths[i]? =some t->t.loc s
 M:oE ths s.m s.Q
 G:WE ths mn s.c s.w s.q
 g5:∀o,mn=.w2 o->0<o/\o<=6
def Th.ok(s:Sh):Th->Prop
 | .r1 c | .r3 c=> c.aw=true->s.m/2%2=1/\s.m/4%2=0
 | .r2 _=> (s.m/4%2=1->s.m%2=0/\s.m/2%2=0/\1<=s.m/8)/\(s.m/4%2=0->s.m/2%2=1)
 | .a1 b=> s.m/4%2=1/\s.m%2=0/\s.m/2%2=0/\1<=s.m/8/\(b=false->2<=s.m/8)
 | .u0=> s.m%2=1
 | .us _=> s.Q=0
 | .d1=> 0<s.c
 | .d2 | .d3=> s.c=0/\s.w=1
 | .d4=> s.q=0
 | _=> True
def Sh.fits(s:Sh):Prop:=s.m<64/\s.Q<=1/\s.c<=6/\s.w<=1/\s.q<=1
theorem aEJ(t:Th):t.bG<=1:=by cases t <;> simp[Th.bG]
theorem on1(t:Th):t.on<=1:=by cases t <;> simp[Th.on]
theorem EG(mn:Mn):mn.ahead<=mn.early/\mn.early<=1/\mn.waits<=1/\mn.dD<=1/\mn.waits+mn.dD<=1:=by cases mn <;> simp[Mn.ahead,Mn.early,Mn.waits,Mn.dD]
theorem Inv.fits {n:Nat}{ths:List Th}{mn:Mn}{s:Sh}(h:Inv n ths mn s):s.fits:=by
 have hon:=PQ on1 ths;obtain⟨r1,r2,r3,r4,r5⟩:=EG mn;have hlen:=h.len;have hn7:=h.n7;have hQ:s.Q<=1:=by rcases h.M.cases with K|K|K <;> omega
 have hc:s.c<=6:=by
  have g1:=h.G.g1;rcases Nat.eq_zero_or_pos mn.early with e|e
  ·omega
  ·have:=h.more oM;omega
 have hwq:s.w<=1/\s.q<=1:=by
  rcases Nat.eq_zero_or_pos mn.waits with e|e
  ·have:=h.G.g2 e;omega
  ·have:=h.G.g3 oM;rcases Nat.eq_zero_or_pos s.c with e2|e2
   ·have:=this.2 e2;omega
   ·have:=this.1 e2;omega
 exact⟨h.M.m64,hQ,hc,hwq.1,hwq.2⟩
theorem Inv.ok {n:Nat}{ths:List Th}{mn:Mn}{s:Sh}(h:Inv n ths mn s){i:Nat}{t:Th}(hi:ths[i]? =some t):t.ok s/\s.fits:=by
 refine⟨?_,h.fits⟩;have hl:=h.loc i t hi;have a1:=jE (f:=Th.own) hi;have a3:=jE (f:=Th.tok) hi;have a4:=jE (f:=Th.nC) hi;have a5:=jE (f:=Th.post) hi;have a6:=jE (f:=Th.vG) hi;have a7:=jE (f:=Th.VB) hi;have a9:=jE (f:=Th.on) hi;have a10:=jE (f:=Th.dd) hi;have a11:=jE (f:=Th.SF) hi;have i1:=h.M.i1;have g1:=h.G.g1;have hr:=EG mn;cases t <;> simp only[Th.ok,Th.own,Th.tok,Th.nC,Th.post,Th.vG,Th.VB,Th.on,Th.dd,Th.SF,Th.loc] at * <;> try trivial
 case r1 c=> intro TV;simp only[TV,if_true] at a6;rcases h.M.cases with K|K|K <;> omega
 case r3 c=> intro TV;simp only[TV,if_true] at a6;rcases h.M.cases with K|K|K <;> omega
 case r2 c=> rcases h.M.cases with K|K|K <;> omega
 case a1 b=> rcases h.M.cases with K|K|K <;> exact⟨oM,oM,oM,oM,hl⟩
 case u0=> omega
 case us b=> cases b <;> simp only at a3 a4 <;> rcases h.M.cases with K|K|K <;> omega
 case d1=> omega
 case d2|d3=>
  rcases Nat.eq_zero_or_pos mn.waits with e|e
  ·have:=h.G.g2 e;omega
  ·have:=h.G.g3 oM;rcases Nat.eq_zero_or_pos s.c with e2|e2
   ·have:=this.2 e2;omega
   ·have:=this.1 e2;omega
 case d4=>
  rcases Nat.eq_zero_or_pos mn.waits with e|e
  ·have:=h.G.g2 e;omega
  ·have:=h.G.g3 oM;rcases Nat.eq_zero_or_pos s.c with e2|e2
   ·have:=this.2 e2;omega
   ·have:=this.1 e2;omega
theorem kQ {s:Sh}{o:Nat}{c:Lc}(ho:o<64)(h1:c.aw=true->o/2%2=1/\o/4%2=0)(h2:c.sv=true->c.aw=true):(hd o c).loc s:=by
 unfold hd;split
 ·rename_i h
  exact⟨ho,h.1,h.2,fun e=> (h1 e).1,h2⟩
 ·exact⟨ho,h1,h2⟩
theorem lQ(o:Nat)(c:Lc):(hd o c).own=0:=by unfold hd;split <;> rfl
theorem nQ(o:Nat)(c:Lc):(hd o c).bG=0:=by unfold hd;split <;> rfl
theorem oQ(o:Nat)(c:Lc):(hd o c).tok=0:=by unfold hd;split <;> rfl
theorem iQ(o:Nat)(c:Lc):(hd o c).nC=0:=by unfold hd;split <;> rfl
theorem cM(o:Nat)(c:Lc):(hd o c).post=0:=by unfold hd;split <;> rfl
theorem mQ(o:Nat)(c:Lc):(hd o c).VB=0:=by unfold hd;split <;> rfl
theorem aCo(o:Nat)(c:Lc):(hd o c).ul=0:=by unfold hd;split <;> rfl
theorem XV(o:Nat)(c:Lc):(hd o c).dd=0:=by unfold hd;split <;> rfl
theorem WV(o:Nat)(c:Lc):(hd o c).SF=0:=by unfold hd;split <;> rfl
theorem YV(o:Nat)(c:Lc):(hd o c).on=1:=by unfold hd;split <;> rfl
theorem gQ(o:Nat)(c:Lc):(hd o c).vG=if c.aw then 1 else 0:=by unfold hd;split <;> rfl
theorem qS {s s':Sh}{t:Th}(h:t.loc s)(hm:t.VB=1->s.m/8<=s'.m/8):t.loc s':=by
 cases t <;> try exact h
 rename_i b
 intro e;have h1:=h e;have h2:=hm rfl;omega
structure u4(ths:List Th)(i:Nat)(t t':Th):Prop where
 own:sm Th.own (ths.set i t')+t.own=sm Th.own ths+t'.own
 bG:sm Th.bG (ths.set i t')+t.bG=sm Th.bG ths+t'.bG
 tok:sm Th.tok (ths.set i t')+t.tok=sm Th.tok ths+t'.tok
 nC:sm Th.nC (ths.set i t')+t.nC=sm Th.nC ths+t'.nC
 post:sm Th.post (ths.set i t')+t.post=sm Th.post ths+t'.post
 vG:sm Th.vG (ths.set i t')+t.vG=sm Th.vG ths+t'.vG
 VB:sm Th.VB (ths.set i t')+t.VB=sm Th.VB ths+t'.VB
 ul:sm Th.ul (ths.set i t')+t.ul=sm Th.ul ths+t'.ul
 on:sm Th.on (ths.set i t')+t.on=sm Th.on ths+t'.on
 dd:sm Th.dd (ths.set i t')+t.dd=sm Th.dd ths+t'.dd
 SF:sm Th.SF (ths.set i t')+t.SF=sm Th.SF ths+t'.SF
theorem u4.of {ths:List Th}{i:Nat}{t:Th}(h:ths[i]? =some t)(t':Th):u4 ths i t t':=
 ⟨ID h t',ID h t',ID h t',ID h t',ID h t',ID h t',ID h t',ID h t',ID h t',ID h t',ID h t'⟩
theorem Inv.worker {n:Nat}{ths:List Th}{mn:Mn}{s s':Sh}{i:Nat}{t t':Th}(h:Inv n ths mn s)(hi:ths[i]? =some t)(hl:t'.loc s')(hr:s'.m/8<s.m/8->sm Th.VB (ths.set i t')=0)(hM:oE (ths.set i t') s'.m s'.Q)(hG:WE (ths.set i t') mn s'.c s'.w s'.q):Inv n (ths.set i t') mn s':=
 ⟨by rw[List.length_set];exact h.len,h.n7,fun e=> by rw[List.length_set];exact h.all e,fun e=> by rw[List.length_set];exact h.more e,fun j u hj=> by
   by_cases e:i=j
   ·subst e;rw[List.getElem?_set_self (List.getElem?_eq_some_iff.1 hi).1] at hj;cases hj
    exact hl
   ·have OO:=hj;rw[List.getElem?_set_ne e] at OO;refine qS (h.loc j u OO) fun hu=> ?_;rcases Nat.lt_or_ge (s'.m/8) (s.m/8) with mB|jU
    ·have h1:=hr mB;have h2:=jE (f:=Th.VB) hj;omega
    ·exact jU,
  hM,hG,h.g5⟩
theorem WE.same {ths ths':List Th}{mn:Mn}{c w q:Nat}(h:WE ths mn c w q)(h1:sm Th.on ths'=sm Th.on ths)(h2:sm Th.dd ths'=sm Th.dd ths)(h3:sm Th.SF ths'=sm Th.SF ths):WE ths' mn c w q:=
 ⟨by rw[h1];exact h.g1,by rw[h2,h3];exact h.g2,by rw[h2,h3];exact h.g3,h.g4⟩
theorem oE.same {ths ths':List Th}{m Q:Nat}(h:oE ths m Q)(h1:sm Th.own ths'=sm Th.own ths)(h2:sm Th.bG ths'=sm Th.bG ths)(h3:sm Th.tok ths'=sm Th.tok ths)(h4:sm Th.nC ths'=sm Th.nC ths)(h5:sm Th.post ths'=sm Th.post ths)(h6:sm Th.vG ths'=sm Th.vG ths)(h7:sm Th.VB ths'=sm Th.VB ths)(h8:sm Th.ul ths<=sm Th.ul ths'):oE ths' m Q:=
 ⟨h.m64,by rw[h1];exact h.i1,by rw[h2,h3,h4,h5,h6,h7];exact h.i2,by rw[h2,h3,h4,h5,h6,h7];exact h.i3,fun e e2=> Nat.lt_of_lt_of_le (h.i4 e e2) h8⟩
structure aBL(t t':Th):Prop where
 own:t'.own=t.own
 bG:t'.bG=t.bG
 tok:t'.tok=t.tok
 nC:t'.nC=t.nC
 post:t'.post=t.post
 vG:t'.vG=t.vG
 VB:t'.VB=t.VB
 ul:t.ul<=t'.ul
 on:t'.on=t.on
 dd:t'.dd=t.dd
 SF:t'.SF=t.SF
theorem Inv.still {n:Nat}{ths:List Th}{mn:Mn}{s:Sh}{i:Nat}{t t':Th}(h:Inv n ths mn s)(hi:ths[i]? =some t)(hl:t'.loc s)(hk:aBL t t'):Inv n (ths.set i t') mn s:=by
 obtain⟨b1,b2,b3,b4,b5,b6,b7,b8,b9,b10,b11⟩:=u4.of hi t';obtain⟨k1,k2,k3,k4,k5,k6,k7,k8,k9,k10,k11⟩:=hk;exact h.worker hi hl (fun e=> by omega) (h.M.same oM oM oM oM oM oM oM oM) (h.G.same oM oM oM)
set_option maxHeartbeats 4000000 in
theorem Inv.step {n:Nat}{ths:List Th}{mn:Mn}{s s':Sh}{i:Nat}{t t':Th}(h:Inv n ths mn s)(hi:ths[i]? =some t)(hm:(t',s')∈t.mv s):Inv n (ths.set i t') mn s':=by
 have GB:=h.ok hi;have hl:=h.loc i t hi;have hlen:=h.len;have hn7:=h.n7;have L:∀ {u:Th},aBL t u->u.loc s->Inv n (ths.set i u) mn s:=fun hk hl=> h.still hi hl hk;have S:=u4.of hi t';have aAi:=PQ aEJ (ths.set i t');have hul:=jE (f:=Th.ul) hi;rw[List.length_set] at aAi;have i1:=h.M.i1;have m64:=h.M.m64;have i4:=h.M.i4;cases t
 case ld=>
  simp only[Th.mv,List.mem_singleton,Prod.mk.injEq] at hm;obtain⟨rfl,rfl⟩:=hm;exact L ⟨rfl,rfl,rfl,rfl,rfl,rfl,rfl,Nat.le_refl _,rfl,rfl,rfl⟩ trivial
 case le=>
  simp only[Th.mv,List.mem_singleton,Prod.mk.injEq] at hm;obtain⟨rfl,rfl⟩:=hm;exact L ⟨rfl,rfl,rfl,rfl,rfl,rfl,rfl,Nat.le_refl _,rfl,rfl,rfl⟩ trivial
 case la=>
  simp only[Th.mv,List.mem_singleton,Prod.mk.injEq] at hm;obtain⟨rfl,rfl⟩:=hm;exact L ⟨rfl,rfl,rfl,rfl,rfl,rfl,rfl,Nat.le_refl _,rfl,rfl,rfl⟩ trivial
 case up=>
  simp only[Th.mv,List.mem_singleton,Prod.mk.injEq] at hm;obtain⟨rfl,rfl⟩:=hm;exact L ⟨rfl,rfl,rfl,rfl,rfl,rfl,rfl,Nat.le_refl _,rfl,rfl,rfl⟩ trivial
 case ur=>
  simp only[Th.mv,List.mem_singleton,Prod.mk.injEq] at hm;obtain⟨rfl,rfl⟩:=hm;exact L ⟨rfl,rfl,rfl,rfl,rfl,rfl,rfl,Nat.le_refl _,rfl,rfl,rfl⟩ trivial
 case ud=>
  simp only[Th.mv,List.mem_singleton,Prod.mk.injEq] at hm;obtain⟨rfl,rfl⟩:=hm;exact L ⟨rfl,rfl,rfl,rfl,rfl,rfl,rfl,Nat.le_refl _,rfl,rfl,rfl⟩ trivial
 case ue=>
  simp only[Th.mv,List.mem_singleton,Prod.mk.injEq] at hm;obtain⟨rfl,rfl⟩:=hm;exact L ⟨rfl,rfl,rfl,rfl,rfl,rfl,rfl,Nat.le_refl _,rfl,rfl,rfl⟩ trivial
 case wr=>
  simp only[Th.mv,List.mem_singleton,Prod.mk.injEq] at hm;obtain⟨rfl,rfl⟩:=hm;exact L ⟨rfl,rfl,rfl,rfl,rfl,rfl,rfl,Nat.le_refl _,rfl,rfl,rfl⟩ trivial
 case wk=>
  simp only[Th.mv,List.mem_singleton,Prod.mk.injEq] at hm;obtain⟨rfl,rfl⟩:=hm;exact L ⟨rfl,rfl,rfl,rfl,rfl,rfl,rfl,Nat.le_refl _,rfl,rfl,rfl⟩ trivial
 case wi=>
  simp only[Th.mv,List.mem_singleton,Prod.mk.injEq] at hm;obtain⟨rfl,rfl⟩:=hm;exact L ⟨rfl,rfl,rfl,rfl,rfl,rfl,rfl,Nat.le_refl _,rfl,rfl,rfl⟩ trivial
 case l0=>
  simp only[Th.mv] at hm;split at hm <;> simp only[List.mem_singleton,Prod.mk.injEq] at hm <;> obtain⟨rfl,rfl⟩:=hm
  ·rename_i h0
   obtain⟨b1,b2,b3,b4,b5,b6,b7,b8,b9,b10,b11⟩:=S;simp only[Th.own,Th.bG,Th.tok,Th.nC,Th.post,Th.vG,Th.VB,Th.ul,Th.on,Th.dd,Th.SF] at b1 b2 b3 b4 b5 b6 b7 b8 b9 b10 b11;have hG:=h.G.same (ths':=ths.set i .le) oM oM oM;rcases h.M.cases with K|K|K;all_goals
    have hM:oE (ths.set i .le) (1) (s.Q):=⟨oM,oM,fun e=> ⟨oM,oM,oM,oM⟩,fun e=> ⟨oM,oM,oM,oM,fun e2=> ⟨oM,oM,oM,oM,oM⟩,fun e2=> ⟨oM,oM⟩⟩,fun e e2=> by omega⟩
    exact h.worker hi trivial (fun(e:(1)/8<s.m/8)=> by omega) hM hG
  ·exact L ⟨rfl,rfl,rfl,rfl,rfl,rfl,rfl,Nat.le_refl _,rfl,rfl,rfl⟩ trivial
 case r0=>
  simp only[Th.mv,List.mem_singleton,Prod.mk.injEq] at hm;obtain⟨rfl,rfl⟩:=hm;exact L ⟨lQ ..,nQ ..,oQ ..,iQ ..,cM ..,gQ ..,mQ ..,Nat.zero_le _,YV ..,XV ..,WV ..⟩ (kQ m64 (fun e=> by cases e) (fun e=> by cases e))
 case sq o c=>
  simp only[Th.mv,List.mem_cons,Prod.mk.injEq] at hm;rcases hm with ⟨rfl,rfl⟩|hm
  ·exact L ⟨rfl,rfl,rfl,rfl,rfl,rfl,rfl,Nat.le_refl _,rfl,rfl,rfl⟩ ⟨hl.1,fun e=> ⟨hl.2.2.2.1 e,hl.2.2.1⟩,hl.2.2.2.2⟩
  ·split at hm
   ·rename_i OL
    simp only[List.mem_singleton,Prod.mk.injEq] at hm;obtain⟨rfl,rfl⟩:=hm;by_cases hc:c.aw=false/\o/2%2=0/\o/8≠0
    ·rw[if_pos hc];refine L ⟨rfl,rfl,rfl,rfl,rfl,rfl,rfl,Nat.le_refl _,rfl,rfl,rfl⟩ ⟨hl.1,hl.2.1,hl.2.2.1,hc.2.1,hc.2.2,hc.1,?_,OL⟩;cases qX:c.sv with
     | false=> rfl
     | true=>
      have:=hl.2.2.2.2 qX;rw[hc.1] at this;cases this
    ·rw[if_neg hc];exact L ⟨rfl,rfl,rfl,rfl,rfl,rfl,rfl,Nat.le_refl _,rfl,rfl,rfl⟩ ⟨hl.2.2.2.2,OL⟩
   ·cases hm
 case c1 o c=>
  obtain⟨l1,l2,l3,l4,l5,l6,l7,l8⟩:=hl;simp only[Th.mv] at hm;split at hm <;> simp only[List.mem_singleton,Prod.mk.injEq] at hm <;> obtain⟨rfl,rfl⟩:=hm
  ·rename_i h0
   obtain⟨b1,b2,b3,b4,b5,b6,b7,b8,b9,b10,b11⟩:=S;simp only[Th.own,Th.bG,Th.tok,Th.nC,Th.post,Th.vG,Th.VB,Th.ul,Th.on,Th.dd,Th.SF] at b1 b2 b3 b4 b5 b6 b7 b8 b9 b10 b11;have hG:=h.G.same (ths':=ths.set i (.ds { c with aw:=true })) oM oM oM;simp only[l6,if_true,Bool.false_eq_true,if_false] at b6;rcases h.M.cases with K|K|K;all_goals
    have hM:oE (ths.set i (.ds { c with aw:=true })) (o+2) (s.Q):=⟨oM,oM,fun e=> ⟨oM,oM,oM,oM⟩,fun e=> ⟨oM,oM,oM,oM,fun e2=> ⟨oM,oM,oM,oM,oM⟩,fun e2=> ⟨oM,oM⟩⟩,fun e e2=> by omega⟩
    exact h.worker hi ⟨fun _=> rfl,l8⟩ (fun(e:(o+2)/8<s.m/8)=> by omega) hM hG
  ·exact L ⟨rfl,rfl,rfl,rfl,rfl,rfl,rfl,Nat.le_refl _,rfl,rfl,rfl⟩ ⟨fun e=> (by rw[l7] at e;cases e),l8⟩
 case ds c=>
  simp only[Th.mv,List.mem_singleton,Prod.mk.injEq] at hm;obtain⟨rfl,rfl⟩:=hm;exact L ⟨rfl,rfl,rfl,rfl,rfl,rfl,rfl,Nat.le_refl _,rfl,rfl,rfl⟩ hl
 case r1 c=>
  simp only[Th.mv,List.mem_singleton,Prod.mk.injEq] at hm;obtain⟨rfl,rfl⟩:=hm;exact L ⟨lQ ..,nQ ..,oQ ..,iQ ..,cM ..,gQ ..,mQ ..,Nat.zero_le _,YV ..,XV ..,WV ..⟩ (kQ m64 GB.1 hl.1)
 case r3 c=>
  simp only[Th.mv,List.mem_singleton,Prod.mk.injEq] at hm;obtain⟨rfl,rfl⟩:=hm;exact L ⟨lQ ..,nQ ..,oQ ..,iQ ..,cM ..,gQ ..,mQ ..,Nat.zero_le _,YV ..,XV ..,WV ..⟩ (kQ m64 GB.1 hl)
 case c2 o c =>
  obtain⟨l1,l2,l3⟩:=hl;simp only[Th.mv] at hm;split at hm
  ·rename_i h0
   split at hm
   ·rename_i hz
    simp only[List.mem_singleton,Prod.mk.injEq] at hm;obtain⟨rfl,rfl⟩:=hm;obtain⟨b1,b2,b3,b4,b5,b6,b7,b8,b9,b10,b11⟩:=S;simp only[Th.own,Th.bG,Th.tok,Th.nC,Th.post,Th.vG,Th.VB,Th.ul,Th.on,Th.dd,Th.SF] at b1 b2 b3 b4 b5 b6 b7 b8 b9 b10 b11;have hG:=h.G.same (ths':=ths.set i .le) oM oM oM;have hN:sE o c=o+1-(if c.aw then 2 else 0):=by unfold sE;rw[if_pos hz]
    cases TV:c.aw with
    | true=>
     have:=l2 TV;simp only[TV,if_true] at b6 hN;rcases h.M.cases with K|K|K;all_goals
      have hM:oE (ths.set i .le) (sE o c) (s.Q):=⟨oM,oM,fun e=> ⟨oM,oM,oM,oM⟩,fun e=> ⟨oM,oM,oM,oM,fun e2=> ⟨oM,oM,oM,oM,oM⟩,fun e2=> ⟨oM,oM⟩⟩,fun e e2=> by omega⟩
      exact h.worker hi trivial (fun(e:(sE o c)/8<s.m/8)=> by omega) hM hG
    | false=>
     simp only[TV,Bool.false_eq_true,if_false] at b6 hN;rcases h.M.cases with K|K|K;all_goals
      have hM:oE (ths.set i .le) (sE o c) (s.Q):=⟨oM,oM,fun e=> ⟨oM,oM,oM,oM⟩,fun e=> ⟨oM,oM,oM,oM,fun e2=> ⟨oM,oM,oM,oM,oM⟩,fun e2=> ⟨oM,oM⟩⟩,fun e e2=> by omega⟩
      exact h.worker hi trivial (fun(e:(sE o c)/8<s.m/8)=> by omega) hM hG
   ·rename_i hz
    simp only[List.mem_singleton,Prod.mk.injEq] at hm;obtain⟨rfl,rfl⟩:=hm;have e1:∀f:Th->Nat,f (.s1 c)=f (.t1 c)->f (if c.ws=true then Th.s1 c else Th.t1 c)=f (.t1 c):=fun f e=> by split <;> first|exact e|rfl
    obtain⟨b1,b2,b3,b4,b5,b6,b7,b8,b9,b10,b11⟩:=S;rw[e1 Th.own rfl] at b1;rw[e1 Th.bG rfl] at b2;rw[e1 Th.tok rfl] at b3;rw[e1 Th.nC rfl] at b4;rw[e1 Th.post rfl] at b5;rw[e1 Th.vG rfl] at b6;rw[e1 Th.VB rfl] at b7;rw[e1 Th.ul rfl] at b8;rw[e1 Th.on rfl] at b9;rw[e1 Th.dd rfl] at b10;rw[e1 Th.SF rfl] at b11;simp only[Th.own,Th.bG,Th.tok,Th.nC,Th.post,Th.vG,Th.VB,Th.ul,Th.on,Th.dd,Th.SF] at b1 b2 b3 b4 b5 b6 b7 b8 b9 b10 b11;have hG:=h.G.same (ths':=ths.set i (if c.ws=true then Th.s1 c else Th.t1 c)) oM oM oM;have qE:∀z,(if c.ws=true then Th.s1 c else Th.t1 c).loc z:=fun z=> by split <;> trivial
    have hN:sE o c=o+8+(if c.sv=true/\o%2=1/\o/4%2=0 then 4 else 0)-(if c.aw then 2 else 0):=by unfold sE;rw[if_neg hz]
    cases TV:c.aw with
    | true=>
     have:=l2 TV;simp only[TV,if_true] at b6 hN;by_cases qX:c.sv=true/\o%2=1/\o/4%2=0
     ·rw[if_pos qX] at hN;rcases h.M.cases with K|K|K;all_goals
       have hM:oE (ths.set i (if c.ws=true then Th.s1 c else Th.t1 c)) (sE o c) (s.Q):=⟨oM,oM,fun e=> ⟨oM,oM,oM,oM⟩,fun e=> ⟨oM,oM,oM,oM,fun e2=> ⟨oM,oM,oM,oM,oM⟩,fun e2=> ⟨oM,oM⟩⟩,fun e e2=> by omega⟩
       exact h.worker hi (qE _) (fun(e:(sE o c)/8<s.m/8)=> by omega) hM hG
     ·rw[if_neg qX] at hN;rcases h.M.cases with K|K|K;all_goals
       have hM:oE (ths.set i (if c.ws=true then Th.s1 c else Th.t1 c)) (sE o c) (s.Q):=⟨oM,oM,fun e=> ⟨oM,oM,oM,oM⟩,fun e=> ⟨oM,oM,oM,oM,fun e2=> ⟨oM,oM,oM,oM,oM⟩,fun e2=> ⟨oM,oM⟩⟩,fun e e2=> by omega⟩
       exact h.worker hi (qE _) (fun(e:(sE o c)/8<s.m/8)=> by omega) hM hG
    | false=>
     have qX:¬(c.sv=true/\o%2=1/\o/4%2=0):=fun e=> by have:=l3 e.1;rw[TV] at this;cases this
     rw[if_neg qX] at hN;simp only[TV,Bool.false_eq_true,if_false] at b6 hN;rcases h.M.cases with K|K|K;all_goals
      have hM:oE (ths.set i (if c.ws=true then Th.s1 c else Th.t1 c)) (sE o c) (s.Q):=⟨oM,oM,fun e=> ⟨oM,oM,oM,oM⟩,fun e=> ⟨oM,oM,oM,oM,fun e2=> ⟨oM,oM,oM,oM,oM⟩,fun e2=> ⟨oM,oM⟩⟩,fun e e2=> by omega⟩
      exact h.worker hi (qE _) (fun(e:(sE o c)/8<s.m/8)=> by omega) hM hG
  ·simp only[List.mem_singleton,Prod.mk.injEq] at hm;obtain⟨rfl,rfl⟩:=hm;exact L ⟨rfl,rfl,rfl,rfl,rfl,rfl,rfl,Nat.le_refl _,rfl,rfl,rfl⟩ l3
 case t1 c=>
  simp only[Th.mv,List.mem_cons,Prod.mk.injEq,List.not_mem_nil,or_false] at hm;rcases hm with ⟨rfl,rfl⟩|⟨rfl,rfl⟩ <;> exact L ⟨rfl,rfl,rfl,rfl,rfl,rfl,rfl,Nat.le_refl _,rfl,rfl,rfl⟩ trivial
 case s1 c=>
  simp only[Th.mv] at hm;split at hm
  ·cases hm
  ·rename_i h0
   simp only[List.mem_singleton,Prod.mk.injEq] at hm;obtain⟨rfl,rfl⟩:=hm;obtain⟨b1,b2,b3,b4,b5,b6,b7,b8,b9,b10,b11⟩:=S;simp only[Th.own,Th.bG,Th.tok,Th.nC,Th.post,Th.vG,Th.VB,Th.ul,Th.on,Th.dd,Th.SF] at b1 b2 b3 b4 b5 b6 b7 b8 b9 b10 b11;have hG:=h.G.same (ths':=ths.set i (.t2 c)) oM oM oM;rcases h.M.cases with K|K|K;all_goals
    have hM:oE (ths.set i (.t2 c)) (s.m) (s.Q-1):=⟨oM,oM,fun e=> ⟨oM,oM,oM,oM⟩,fun e=> ⟨oM,oM,oM,oM,fun e2=> ⟨oM,oM,oM,oM,oM⟩,fun e2=> ⟨oM,oM⟩⟩,fun e e2=> by omega⟩
    exact h.worker hi trivial (fun(e:(s.m)/8<s.m/8)=> by omega) hM hG
 case t2 c=>
  simp only[Th.mv,List.mem_cons,Prod.mk.injEq,List.not_mem_nil,or_false] at hm;rcases hm with ⟨rfl,rfl⟩|⟨rfl,rfl⟩ <;> exact L ⟨rfl,rfl,rfl,rfl,rfl,rfl,rfl,Nat.le_refl _,rfl,rfl,rfl⟩ trivial
 case r2 c=>
  simp only[Th.mv] at hm;split at hm <;> simp only[List.mem_singleton,Prod.mk.injEq] at hm <;> obtain⟨rfl,rfl⟩:=hm
  ·rename_i h0
   have qE:Th.loc s' (.a1 (!c.sv||s'.m/8==1)):=fun e=> by
    have h1:=(GB.1.1 h0).2.2;simp only[Bool.or_eq_false_iff,beq_eq_false_iff_ne] at e;have:=e.2;omega
   obtain⟨b1,b2,b3,b4,b5,b6,b7,b8,b9,b10,b11⟩:=S;simp only[Th.own,Th.bG,Th.tok,Th.nC,Th.post,Th.vG,Th.VB,Th.ul,Th.on,Th.dd,Th.SF] at b1 b2 b3 b4 b5 b6 b7 b8 b9 b10 b11;have hG:=h.G.same (ths':=ths.set i (.a1 (!c.sv||s'.m/8==1))) oM oM oM;rcases h.M.cases with K|K|K;all_goals
    have hM:oE (ths.set i (.a1 (!c.sv||s'.m/8==1))) (s'.m) (s'.Q):=⟨oM,oM,fun e=> ⟨oM,oM,oM,oM⟩,fun e=> ⟨oM,oM,oM,oM,fun e2=> ⟨oM,oM,oM,oM,oM⟩,fun e2=> ⟨oM,oM⟩⟩,fun e e2=> by omega⟩
    exact h.worker hi qE (fun(e:(s'.m)/8<s'.m/8)=> by omega) hM hG
  ·rename_i h0
   have qE:=kQ (s:=s') (o:=s'.m) (c:= { c with aw:=true,it:=0 }) m64 (fun _=> ⟨GB.1.2 oM,oM⟩) (fun _=> rfl);obtain⟨b1,b2,b3,b4,b5,b6,b7,b8,b9,b10,b11⟩:=S;simp only[lQ,nQ,oQ,iQ,cM,gQ,mQ,aCo,YV,XV,WV] at b1 b2 b3 b4 b5 b6 b7 b8 b9 b10 b11;simp only[Th.own,Th.bG,Th.tok,Th.nC,Th.post,Th.vG,Th.VB,Th.ul,Th.on,Th.dd,Th.SF] at b1 b2 b3 b4 b5 b6 b7 b8 b9 b10 b11;have hG:=h.G.same (ths':=ths.set i (hd s'.m { c with aw:=true,it:=0 })) oM oM oM;simp only[if_true] at b6;rcases h.M.cases with K|K|K;all_goals
    have hM:oE (ths.set i (hd s'.m { c with aw:=true,it:=0 })) (s'.m) (s'.Q):=⟨oM,oM,fun e=> ⟨oM,oM,oM,oM⟩,fun e=> ⟨oM,oM,oM,oM,fun e2=> ⟨oM,oM,oM,oM,oM⟩,fun e2=> ⟨oM,oM⟩⟩,fun e e2=> by omega⟩
    exact h.worker hi qE (fun(e:(s'.m)/8<s'.m/8)=> by omega) hM hG
 case a1 b=>
  obtain⟨⟨o1,o2,o3,o4,o5⟩,o6⟩:=GB;simp only[Th.mv,List.mem_singleton,Prod.mk.injEq] at hm;obtain⟨rfl,rfl⟩:=hm;obtain⟨b1,b2,b3,b4,b5,b6,b7,b8,b9,b10,b11⟩:=S;simp only[Th.own,Th.bG,Th.tok,Th.nC,Th.post,Th.vG,Th.VB,Th.ul,Th.on,Th.dd,Th.SF] at b1 b2 b3 b4 b5 b6 b7 b8 b9 b10 b11;have hG:=h.G.same (ths':=ths.set i .le) oM oM oM;cases b with
  | true=>
   rcases h.M.cases with K|K|K;all_goals
    have hM:oE (ths.set i .le) (s.m-7-4) (s.Q):=⟨oM,oM,fun e=> ⟨oM,oM,oM,oM⟩,fun e=> ⟨oM,oM,oM,oM,fun e2=> ⟨oM,oM,oM,oM,oM⟩,fun e2=> ⟨oM,oM⟩⟩,fun e e2=> by omega⟩
    exact h.worker hi trivial (fun(e:(s.m-7-4)/8<s.m/8)=> by omega) hM hG
  | false=>
   have:=o5 rfl;rcases h.M.cases with K|K|K;all_goals
    have hM:oE (ths.set i .le) (s.m-7-0) (s.Q):=⟨oM,oM,fun e=> ⟨oM,oM,oM,oM⟩,fun e=> ⟨oM,oM,oM,oM,fun e2=> ⟨oM,oM,oM,oM,oM⟩,fun e2=> ⟨oM,oM⟩⟩,fun e e2=> by omega⟩
    exact h.worker hi trivial (fun(e:(s.m-7-0)/8<s.m/8)=> by omega) hM hG
 case u0 =>
  have o1:s.m%2=1:=GB.1;simp only[Th.mv,List.mem_singleton,Prod.mk.injEq] at hm;obtain⟨ht,rfl⟩:=hm;by_cases z1:s.m=1
  ·rw[if_pos z1] at ht;subst ht;obtain⟨b1,b2,b3,b4,b5,b6,b7,b8,b9,b10,b11⟩:=S;simp only[Th.own,Th.bG,Th.tok,Th.nC,Th.post,Th.vG,Th.VB,Th.ul,Th.on,Th.dd,Th.SF] at b1 b2 b3 b4 b5 b6 b7 b8 b9 b10 b11;have hG:=h.G.same (ths':=ths.set i .ue) oM oM oM;rcases h.M.cases with K|K|K;all_goals
    have hM:oE (ths.set i .ue) (s.m-1) (s.Q):=⟨oM,oM,fun e=> ⟨oM,oM,oM,oM⟩,fun e=> ⟨oM,oM,oM,oM,fun e2=> ⟨oM,oM,oM,oM,oM⟩,fun e2=> ⟨oM,oM⟩⟩,fun e e2=> by omega⟩
    exact h.worker hi trivial (fun(e:(s.m-1)/8<s.m/8)=> by omega) hM hG
  ·rw[if_neg z1] at ht;by_cases z2:(s.m-1)/4%2=1
   ·rw[if_pos z2] at ht;subst ht;obtain⟨b1,b2,b3,b4,b5,b6,b7,b8,b9,b10,b11⟩:=S;simp only[Th.own,Th.bG,Th.tok,Th.nC,Th.post,Th.vG,Th.VB,Th.ul,Th.on,Th.dd,Th.SF] at b1 b2 b3 b4 b5 b6 b7 b8 b9 b10 b11;have hG:=h.G.same (ths':=ths.set i (.us true)) oM oM oM;rcases h.M.cases with K|K|K;all_goals
     have hM:oE (ths.set i (.us true)) (s.m-1) (s.Q):=⟨oM,oM,fun e=> ⟨oM,oM,oM,oM⟩,fun e=> ⟨oM,oM,oM,oM,fun e2=> ⟨oM,oM,oM,oM,oM⟩,fun e2=> ⟨oM,oM⟩⟩,fun e e2=> by omega⟩
     exact h.worker hi trivial (fun(e:(s.m-1)/8<s.m/8)=> by omega) hM hG
   ·rw[if_neg z2] at ht;by_cases z3:(s.m-1)/8=0\/(s.m-1)%8≠0
    ·rw[if_pos z3] at ht;subst ht;obtain⟨b1,b2,b3,b4,b5,b6,b7,b8,b9,b10,b11⟩:=S;simp only[Th.own,Th.bG,Th.tok,Th.nC,Th.post,Th.vG,Th.VB,Th.ul,Th.on,Th.dd,Th.SF] at b1 b2 b3 b4 b5 b6 b7 b8 b9 b10 b11;have hG:=h.G.same (ths':=ths.set i .ue) oM oM oM;rcases h.M.cases with K|K|K;all_goals
      have hM:oE (ths.set i .ue) (s.m-1) (s.Q):=⟨oM,oM,fun e=> ⟨oM,oM,oM,oM⟩,fun e=> ⟨oM,oM,oM,oM,fun e2=> ⟨oM,oM,oM,oM,oM⟩,fun e2=> ⟨oM,oM⟩⟩,fun e e2=> by omega⟩
      exact h.worker hi trivial (fun(e:(s.m-1)/8<s.m/8)=> by omega) hM hG
    ·rw[if_neg z3] at ht;subst ht;obtain⟨b1,b2,b3,b4,b5,b6,b7,b8,b9,b10,b11⟩:=S;simp only[Th.own,Th.bG,Th.tok,Th.nC,Th.post,Th.vG,Th.VB,Th.ul,Th.on,Th.dd,Th.SF] at b1 b2 b3 b4 b5 b6 b7 b8 b9 b10 b11;have hG:=h.G.same (ths':=ths.set i (.uc (s.m-1))) oM oM oM;rcases h.M.cases with K|K|K;all_goals
      have hM:oE (ths.set i (.uc (s.m-1))) (s.m-1) (s.Q):=⟨oM,oM,fun e=> ⟨oM,oM,oM,oM⟩,fun e=> ⟨oM,oM,oM,oM,fun e2=> ⟨oM,oM,oM,oM,oM⟩,fun e2=> ⟨oM,oM⟩⟩,fun e e2=> by omega⟩
      exact h.worker hi (show Th.loc _ (.uc (s.m-1)) from⟨oM,oM,oM⟩) (fun(e:(s.m-1)/8<s.m/8)=> by omega) hM hG
 case uc o=>
  obtain⟨l1,l2,l3⟩:=hl;simp only[Th.mv] at hm;split at hm <;> simp only[List.mem_singleton,Prod.mk.injEq] at hm <;> obtain⟨rfl,rfl⟩:=hm
  ·rename_i h0
   obtain⟨b1,b2,b3,b4,b5,b6,b7,b8,b9,b10,b11⟩:=S;simp only[Th.own,Th.bG,Th.tok,Th.nC,Th.post,Th.vG,Th.VB,Th.ul,Th.on,Th.dd,Th.SF] at b1 b2 b3 b4 b5 b6 b7 b8 b9 b10 b11;have hG:=h.G.same (ths':=ths.set i (.us false)) oM oM oM;rcases h.M.cases with K|K|K;all_goals
    have hM:oE (ths.set i (.us false)) (o-6) (s.Q):=⟨oM,oM,fun e=> ⟨oM,oM,oM,oM⟩,fun e=> ⟨oM,oM,oM,oM,fun e2=> ⟨oM,oM,oM,oM,oM⟩,fun e2=> ⟨oM,oM⟩⟩,fun e e2=> by omega⟩
    exact h.worker hi trivial (fun(e:(o-6)/8<s.m/8)=> by omega) hM hG
  ·exact L ⟨rfl,rfl,rfl,rfl,rfl,rfl,rfl,Nat.le_refl _,rfl,rfl,rfl⟩ trivial
 case ux=>
  simp only[Th.mv,List.mem_singleton,Prod.mk.injEq] at hm;obtain⟨ht,rfl⟩:=hm;by_cases z3:s'.m/8=0\/s'.m%8≠0
  ·rw[if_pos z3] at ht;subst ht;obtain⟨b1,b2,b3,b4,b5,b6,b7,b8,b9,b10,b11⟩:=S;simp only[Th.own,Th.bG,Th.tok,Th.nC,Th.post,Th.vG,Th.VB,Th.ul,Th.on,Th.dd,Th.SF] at b1 b2 b3 b4 b5 b6 b7 b8 b9 b10 b11;have hG:=h.G.same (ths':=ths.set i .ue) oM oM oM;rcases h.M.cases with K|K|K;all_goals
    have hM:oE (ths.set i .ue) (s'.m) (s'.Q):=⟨oM,oM,fun e=> ⟨oM,oM,oM,oM⟩,fun e=> ⟨oM,oM,oM,oM,fun e2=> ⟨oM,oM,oM,oM,oM⟩,fun e2=> ⟨oM,oM⟩⟩,fun e e2=> by omega⟩
    exact h.worker hi trivial (fun(e:(s'.m)/8<s'.m/8)=> by omega) hM hG
  ·rw[if_neg z3] at ht;subst ht;exact L ⟨rfl,rfl,rfl,rfl,rfl,rfl,rfl,Nat.le_refl _,rfl,rfl,rfl⟩ ⟨m64,oM,oM⟩
 case us b=>
  simp only[Th.mv,List.mem_singleton,Prod.mk.injEq] at hm;obtain⟨rfl,rfl⟩:=hm;cases b with
  | true=>
   obtain⟨b1,b2,b3,b4,b5,b6,b7,b8,b9,b10,b11⟩:=S;simp only[Th.own,Th.bG,Th.tok,Th.nC,Th.post,Th.vG,Th.VB,Th.ul,Th.on,Th.dd,Th.SF] at b1 b2 b3 b4 b5 b6 b7 b8 b9 b10 b11;have hG:=h.G.same (ths':=ths.set i .ue) oM oM oM;rcases h.M.cases with K|K|K;all_goals
    have hM:oE (ths.set i .ue) (s.m) (s.Q+1):=⟨oM,oM,fun e=> ⟨oM,oM,oM,oM⟩,fun e=> ⟨oM,oM,oM,oM,fun e2=> ⟨oM,oM,oM,oM,oM⟩,fun e2=> ⟨oM,oM⟩⟩,fun e e2=> by omega⟩
    exact h.worker hi trivial (fun(e:(s.m)/8<s.m/8)=> by omega) hM hG
  | false=>
   obtain⟨b1,b2,b3,b4,b5,b6,b7,b8,b9,b10,b11⟩:=S;simp only[Th.own,Th.bG,Th.tok,Th.nC,Th.post,Th.vG,Th.VB,Th.ul,Th.on,Th.dd,Th.SF] at b1 b2 b3 b4 b5 b6 b7 b8 b9 b10 b11;have hG:=h.G.same (ths':=ths.set i .ue) oM oM oM;rcases h.M.cases with K|K|K;all_goals
    have hM:oE (ths.set i .ue) (s.m) (s.Q+1):=⟨oM,oM,fun e=> ⟨oM,oM,oM,oM⟩,fun e=> ⟨oM,oM,oM,oM,fun e2=> ⟨oM,oM,oM,oM,oM⟩,fun e2=> ⟨oM,oM⟩⟩,fun e e2=> by omega⟩
    exact h.worker hi trivial (fun(e:(s.m)/8<s.m/8)=> by omega) hM hG
 case d1 =>
  have o1:0<s.c:=GB.1;have hp:=EG mn;have g1:=h.G.g1;simp only[Th.mv,List.mem_singleton,Prod.mk.injEq] at hm;obtain⟨ht,rfl⟩:=hm;by_cases z:s.c=1/\s.w=1
  ·rw[if_pos z] at ht;subst ht;obtain⟨b1,b2,b3,b4,b5,b6,b7,b8,b9,b10,b11⟩:=S;simp only[Th.own,Th.bG,Th.tok,Th.nC,Th.post,Th.vG,Th.VB,Th.ul,Th.on,Th.dd,Th.SF] at b1 b2 b3 b4 b5 b6 b7 b8 b9 b10 b11;have hM:=h.M.same (ths':=ths.set i .d2) oM oM oM oM oM oM oM oM;have hG :WE (ths.set i .d2) mn (s.c-1) (s.w) (s.q):=by
    refine⟨oM,fun e=> ?_,fun e=> ?_,fun e=> ?_⟩
    ·have:=h.G.g2 e;omega
    ·have:=h.G.g3 e;refine⟨fun e2=> ?_,fun e2=> ?_⟩
     ·have:=this.1 oM;omega
     ·rcases Nat.eq_zero_or_pos s.c with e3|e3
      ·have:=this.2 e3;omega
      ·have:=this.1 e3;omega
    ·have:=h.G.g4 e;omega
   exact h.worker hi trivial (fun(e:s.m/8<s.m/8)=> by omega) hM hG
  ·rw[if_neg z] at ht;subst ht;obtain⟨b1,b2,b3,b4,b5,b6,b7,b8,b9,b10,b11⟩:=S;simp only[Th.own,Th.bG,Th.tok,Th.nC,Th.post,Th.vG,Th.VB,Th.ul,Th.on,Th.dd,Th.SF] at b1 b2 b3 b4 b5 b6 b7 b8 b9 b10 b11;have hM:=h.M.same (ths':=ths.set i .quit) oM oM oM oM oM oM oM oM;have hG :WE (ths.set i .quit) mn (s.c-1) (s.w) (s.q):=by
    refine⟨oM,fun e=> ?_,fun e=> ?_,fun e=> ?_⟩
    ·have:=h.G.g2 e;omega
    ·have:=h.G.g3 e;refine⟨fun e2=> ?_,fun e2=> ?_⟩
     ·have:=this.1 oM;omega
     ·rcases Nat.eq_zero_or_pos s.c with e3|e3
      ·have:=this.2 e3;omega
      ·have:=this.1 e3;omega
    ·have:=h.G.g4 e;omega
   exact h.worker hi trivial (fun(e:s.m/8<s.m/8)=> by omega) hM hG
 case d2=>
  simp only[Th.mv,List.mem_singleton,Prod.mk.injEq] at hm;obtain⟨rfl,rfl⟩:=hm;exact L ⟨rfl,rfl,rfl,rfl,rfl,rfl,rfl,Nat.le_refl _,rfl,rfl,rfl⟩ trivial
 case d3 =>
  have hp:=EG mn;have g1:=h.G.g1;have a10:=jE (f:=Th.dd) hi;simp only[Th.dd] at a10;simp only[Th.mv,List.mem_singleton,Prod.mk.injEq] at hm;obtain⟨rfl,rfl⟩:=hm;obtain⟨b1,b2,b3,b4,b5,b6,b7,b8,b9,b10,b11⟩:=S;simp only[Th.own,Th.bG,Th.tok,Th.nC,Th.post,Th.vG,Th.VB,Th.ul,Th.on,Th.dd,Th.SF] at b1 b2 b3 b4 b5 b6 b7 b8 b9 b10 b11;have hM:=h.M.same (ths':=ths.set i .d4) oM oM oM oM oM oM oM oM;have hG :WE (ths.set i .d4) mn (s.c) (0) (s.q):=by
   refine⟨oM,fun e=> ?_,fun e=> ?_,fun e=> ?_⟩
   ·have:=h.G.g2 e;omega
   ·have:=h.G.g3 e;refine⟨fun e2=> ?_,fun e2=> ?_⟩
    ·have:=this.1 oM;omega
    ·rcases Nat.eq_zero_or_pos s.c with e3|e3
     ·have:=this.2 e3;omega
     ·have:=this.1 e3;omega
   ·have:=h.G.g4 e;omega
  exact h.worker hi trivial (fun(e:s.m/8<s.m/8)=> by omega) hM hG
 case d4 =>
  have hp:=EG mn;have g1:=h.G.g1;have a10:=jE (f:=Th.SF) hi;simp only[Th.SF] at a10;simp only[Th.mv,List.mem_singleton,Prod.mk.injEq] at hm;obtain⟨rfl,rfl⟩:=hm;obtain⟨b1,b2,b3,b4,b5,b6,b7,b8,b9,b10,b11⟩:=S;simp only[Th.own,Th.bG,Th.tok,Th.nC,Th.post,Th.vG,Th.VB,Th.ul,Th.on,Th.dd,Th.SF] at b1 b2 b3 b4 b5 b6 b7 b8 b9 b10 b11;have hM:=h.M.same (ths':=ths.set i .quit) oM oM oM oM oM oM oM oM;have hG :WE (ths.set i .quit) mn (s.c) (s.w) (s.q+1):=by
   refine⟨oM,fun e=> ?_,fun e=> ?_,fun e=> ?_⟩
   ·have:=h.G.g2 e;omega
   ·have:=h.G.g3 e;refine⟨fun e2=> ?_,fun e2=> ?_⟩
    ·have:=this.1 oM;omega
    ·rcases Nat.eq_zero_or_pos s.c with e3|e3
     ·have:=this.2 e3;omega
     ·have:=this.1 e3;omega
   ·have:=h.G.g4 e;omega
  exact h.worker hi trivial (fun(e:s.m/8<s.m/8)=> by omega) hM hG
 case quit=> cases hm
theorem Inv.main {n:Nat}{ths:List Th}{mn mn':Mn}{s s':Sh}(h:Inv n ths mn s)(hm:(mn',s')∈mn.mv s):Inv n ths mn' s':=by
 obtain⟨h1,h2,h3,h3',h4,M,⟨g1,g2,g3,g4⟩,g5⟩:=h;have hl:∀s'':Sh,s''.m=s.m->∀(i:Nat) (t:Th),ths[i]? =some t->t.loc s'':=fun s'' e i t hi=> qS (h4 i t hi) fun _=> by rw[e];exact Nat.le_refl _
 have hon:=PQ on1 ths;cases mn
 case kd=>
  simp only[Mn.mv,List.mem_singleton,Prod.mk.injEq] at hm;obtain⟨rfl,rfl⟩:=hm;simp only[Mn.early,Mn.waits,Mn.dD,Mn.ahead] at *;exact⟨h1,h2,by simp only[Mn.early];omega,by simp only[Mn.early];omega,hl _ rfl,M,(show WE ths .ki (s'.c) (s'.w) (s'.q) from⟨by simp only[Mn.ahead];omega,by simp only[Mn.waits];omega,by simp only[Mn.waits];omega,by simp only[Mn.dD];omega⟩),fun o e=> by cases e⟩
 case ki=>
  simp only[Mn.mv,List.mem_singleton,Prod.mk.injEq] at hm;obtain⟨rfl,rfl⟩:=hm;simp only[Mn.early,Mn.waits,Mn.dD,Mn.ahead] at *;exact⟨h1,h2,by simp only[Mn.early];omega,by simp only[Mn.early];omega,hl _ rfl,M,(show WE ths .ka (s'.c) (s'.w) (s'.q) from⟨by simp only[Mn.ahead];omega,by simp only[Mn.waits];omega,by simp only[Mn.waits];omega,by simp only[Mn.dD];omega⟩),fun o e=> by cases e⟩
 case kr=>
  simp only[Mn.mv,List.mem_singleton,Prod.mk.injEq] at hm;obtain⟨rfl,rfl⟩:=hm;simp only[Mn.early,Mn.waits,Mn.dD,Mn.ahead] at *;exact⟨h1,h2,by simp only[Mn.early];omega,by simp only[Mn.early];omega,hl _ rfl,M,(show WE ths .ke (s'.c) (s'.w) (s'.q) from⟨by simp only[Mn.ahead];omega,by simp only[Mn.waits];omega,by simp only[Mn.waits];omega,by simp only[Mn.dD];omega⟩),fun o e=> by cases e⟩
 case ke=>
  simp only[Mn.mv,List.mem_singleton,Prod.mk.injEq] at hm;obtain⟨rfl,rfl⟩:=hm;simp only[Mn.early,Mn.waits,Mn.dD,Mn.ahead] at *;exact⟨h1,h2,by simp only[Mn.early];omega,by simp only[Mn.early];omega,hl _ rfl,M,(show WE ths .go (s'.c) (s'.w) (s'.q) from⟨by simp only[Mn.ahead];omega,by simp only[Mn.waits];omega,by simp only[Mn.waits];omega,by simp only[Mn.dD];omega⟩),fun o e=> by cases e⟩
 case wd=>
  simp only[Mn.mv,List.mem_singleton,Prod.mk.injEq] at hm;obtain⟨rfl,rfl⟩:=hm;simp only[Mn.early,Mn.waits,Mn.dD,Mn.ahead] at *;exact⟨h1,h2,by simp only[Mn.early];omega,by simp only[Mn.early];omega,hl _ rfl,M,(show WE ths .w1 (s'.c) (s'.w) (s'.q) from⟨by simp only[Mn.ahead];omega,by simp only[Mn.waits];omega,by simp only[Mn.waits];omega,by simp only[Mn.dD];omega⟩),fun o e=> by cases e⟩
 case wm=>
  simp only[Mn.mv,List.mem_singleton,Prod.mk.injEq] at hm;obtain⟨rfl,rfl⟩:=hm;simp only[Mn.early,Mn.waits,Mn.dD,Mn.ahead] at *;exact⟨h1,h2,by simp only[Mn.early];omega,by simp only[Mn.early];omega,hl _ rfl,M,(show WE ths .ws (s'.c) (s'.w) (s'.q) from⟨by simp only[Mn.ahead];omega,by simp only[Mn.waits];omega,by simp only[Mn.waits];omega,by simp only[Mn.dD];omega⟩),fun o e=> by cases e⟩
 case w4=>
  simp only[Mn.mv,List.mem_singleton,Prod.mk.injEq] at hm;obtain⟨rfl,rfl⟩:=hm;simp only[Mn.early,Mn.waits,Mn.dD,Mn.ahead] at *;exact⟨h1,h2,by simp only[Mn.early];omega,by simp only[Mn.early];omega,hl _ rfl,M,(show WE ths .we (s'.c) (s'.w) (s'.q) from⟨by simp only[Mn.ahead];omega,by simp only[Mn.waits];omega,by simp only[Mn.waits];omega,by simp only[Mn.dD];omega⟩),fun o e=> by cases e⟩
 case we=>
  simp only[Mn.mv,List.mem_singleton,Prod.mk.injEq] at hm;obtain⟨rfl,rfl⟩:=hm;simp only[Mn.early,Mn.waits,Mn.dD,Mn.ahead] at *;exact⟨h1,h2,by simp only[Mn.early];omega,by simp only[Mn.early];omega,hl _ rfl,M,(show WE ths .aq (s'.c) (s'.w) (s'.q) from⟨by simp only[Mn.ahead];omega,by simp only[Mn.waits];omega,by simp only[Mn.waits];omega,by simp only[Mn.dD];omega⟩),fun o e=> by cases e⟩
 case aq=>
  simp only[Mn.mv,List.mem_singleton,Prod.mk.injEq] at hm;obtain⟨rfl,rfl⟩:=hm;simp only[Mn.early,Mn.waits,Mn.dD,Mn.ahead] at *;exact⟨h1,h2,by simp only[Mn.early];omega,by simp only[Mn.early];omega,hl _ rfl,M,(show WE ths .ret (s'.c) (s'.w) (s'.q) from⟨by simp only[Mn.ahead];omega,by simp only[Mn.waits];omega,by simp only[Mn.waits];omega,by simp only[Mn.dD];omega⟩),fun o e=> by cases e⟩
 case go=> cases hm
 case ret=> cases hm
 case ka=>
  simp only[Mn.mv,List.mem_singleton,Prod.mk.injEq] at hm;obtain⟨hk,rfl⟩:=hm;simp only[Mn.early,Mn.waits,Mn.dD,Mn.ahead] at *;by_cases hc:s.c=0
  ·rw[if_pos hc] at hk;subst hk;exact⟨h1,h2,by simp only[Mn.early];omega,by simp only[Mn.early];omega,hl _ rfl,M,(show WE ths .kr (s.c+1) (s.w) (s.q) from⟨by simp only[Mn.ahead];omega,by simp only[Mn.waits];omega,by simp only[Mn.waits];omega,by simp only[Mn.dD];omega⟩),fun o e=> by cases e⟩
  ·rw[if_neg hc] at hk;subst hk;exact⟨h1,h2,by simp only[Mn.early];omega,by simp only[Mn.early];omega,hl _ rfl,M,(show WE ths .ke (s.c+1) (s.w) (s.q) from⟨by simp only[Mn.ahead];omega,by simp only[Mn.waits];omega,by simp only[Mn.waits];omega,by simp only[Mn.dD];omega⟩),fun o e=> by cases e⟩
 case w1=>
  simp only[Mn.mv,List.mem_singleton,Prod.mk.injEq] at hm;obtain⟨hk,rfl⟩:=hm;simp only[Mn.early,Mn.waits,Mn.dD,Mn.ahead] at *;by_cases hc:s'.c=0
  ·rw[if_pos hc] at hk;subst hk;exact⟨h1,h2,by simp only[Mn.early];omega,by simp only[Mn.early];omega,hl _ rfl,M,(show WE ths .we (s'.c) (s'.w) (s'.q) from⟨by simp only[Mn.ahead];omega,by simp only[Mn.waits];omega,by simp only[Mn.waits];omega,by simp only[Mn.dD];omega⟩),fun o e=> by cases e⟩
  ·rw[if_neg hc] at hk;subst hk;exact⟨h1,h2,by simp only[Mn.early];omega,by simp only[Mn.early];omega,hl _ rfl,M,(show WE ths (.w2 s'.c) (s'.c) (s'.w) (s'.q) from⟨by simp only[Mn.ahead];omega,by simp only[Mn.waits];omega,by simp only[Mn.waits];omega,by simp only[Mn.dD];omega⟩),fun o e=> by cases e;omega⟩
 case w2 o=>
  have o1:=g5 o rfl;have G2:=g2 rfl;have e0:=h3 rfl;simp only[Mn.ahead] at g1;simp only[Mn.mv] at hm;split at hm <;> simp only[List.mem_singleton,Prod.mk.injEq] at hm <;> obtain⟨rfl,rfl⟩:=hm
  ·rename_i hc
   exact⟨h1,h2,fun _=> e0,fun e=> (by cases e),hl _ rfl,M,(show WE ths .wm s.c 1 s.q from⟨by simp only[Mn.ahead];omega,fun e=> (by cases e),fun _=> ⟨fun _=> ⟨rfl,G2.2.1,G2.2.2.1,G2.2.2.2⟩,fun e=> by omega⟩,fun e=> (by cases e)⟩),fun o e=> by cases e⟩
  ·exact⟨h1,h2,fun _=> e0,fun e=> (by cases e),hl _ rfl,M,(show WE ths .w1 s'.c s'.w s'.q from⟨by simp only[Mn.ahead];omega,fun _=> G2,fun e=> (by cases e),fun e=> (by cases e)⟩),fun o e=> by cases e⟩
 case ws=>
  have G3:=g3 rfl;simp only[Mn.mv] at hm;split at hm
  ·cases hm
  ·simp only[List.mem_singleton,Prod.mk.injEq] at hm;obtain⟨rfl,rfl⟩:=hm;simp only[Mn.early,Mn.waits,Mn.dD,Mn.ahead] at *;exact⟨h1,h2,by simp only[Mn.early];omega,by simp only[Mn.early];omega,hl _ rfl,M,(show WE ths .w4 (s.c) (s.w) (s.q-1) from⟨by simp only[Mn.ahead];omega,by simp only[Mn.waits];omega,by simp only[Mn.waits];omega,by simp only[Mn.dD];omega⟩),fun o e=> by cases e⟩
theorem Inv.fork {n:Nat}{ths:List Th}{s:Sh}(h:Inv n ths .go s):Inv n (ths++[.ld]) (if ths.length+1<n then .kd else .wd) s:=by
 obtain⟨h1,h2,h3,h3',h4,M,⟨g1,g2,g3,g4⟩,g5⟩:=h;have G2:=g2 rfl;have H3:=h3' rfl;simp only[Mn.early,Mn.waits,Mn.dD,Mn.ahead] at *;have hl:∀(i:Nat) (t:Th),(ths++[Th.ld])[i]? =some t->t.loc s:=fun i t hi=> by
  rw[List.getElem?_append] at hi;split at hi
  ·exact h4 i t hi
  ·cases hz:i-ths.length with
   | zero=> rw[hz] at hi;cases hi;trivial
   | succ z=> rw[hz] at hi;cases hi
 have a1:=CE Th.own .ld ths;have a2:=CE Th.bG .ld ths;have a3:=CE Th.tok .ld ths;have a4:=CE Th.nC .ld ths;have a5:=CE Th.post .ld ths;have a6:=CE Th.vG .ld ths;have a7:=CE Th.VB .ld ths;have a8:=CE Th.ul .ld ths;have a9:=CE Th.on .ld ths;have a10:=CE Th.dd .ld ths;have a11:=CE Th.SF .ld ths;simp only[Th.own,Th.bG,Th.tok,Th.nC,Th.post,Th.vG,Th.VB,Th.ul,Th.on,Th.dd,Th.SF] at a1 a2 a3 a4 a5 a6 a7 a8 a9 a10 a11;have hM:oE (ths++[Th.ld]) s.m s.Q:=M.same oM oM oM oM oM oM oM oM;have hlen:(ths++[Th.ld]).length=ths.length+1:=by simp
 by_cases hc:ths.length+1<n
 ·rw[if_pos hc];exact⟨oM,h2,by simp only[Mn.early];omega,by simp only[Mn.early];omega,hl,hM,⟨by simp only[Mn.ahead];omega,by simp only[Mn.waits];omega,by simp only[Mn.waits];omega,by simp only[Mn.dD];omega⟩,fun o e=> by cases e⟩
 ·rw[if_neg hc];exact⟨oM,h2,by simp only[Mn.early];omega,by simp only[Mn.early];omega,hl,hM,⟨by simp only[Mn.ahead];omega,by simp only[Mn.waits];omega,by simp only[Mn.waits];omega,by simp only[Mn.dD];omega⟩,fun o e=> by cases e⟩
theorem Inv.start {n:Nat}(h1:0<n)(h2:n<=6):Inv n [] .kd ⟨0,0,0,0,0⟩:=
 ⟨by simp,h2,by simp[Mn.early],fun _=> h1,by simp,⟨by simp,by simp[sm],by simp[sm],by simp,by simp⟩,⟨by simp[sm,Mn.ahead],by simp[sm],by simp[Mn.waits],by simp[Mn.dD]⟩,fun o e=> by cases e⟩
def Mn.ok(s:Sh):Mn->Prop
 | .w1=> s.w=0
 | .w2 o=> s.w=0/\0<o/\o<=6
 | .ka=> s.w=0
 | .w4=> s.c=0/\s.w=0
 | _=> True
theorem Inv.mok {n:Nat}{ths:List Th}{mn:Mn}{s:Sh}(h:Inv n ths mn s):mn.ok s/\s.fits:=by
 refine⟨?_,h.fits⟩;have g5:=h.g5;have g2:=h.G.g2;have g4:=h.G.g4;cases mn
 case w2 o=> exact⟨(g2 rfl).1,g5 o rfl⟩
 case w1=> exact(g2 rfl).1
 case ka=> exact(g2 rfl).1
 case w4=> exact⟨g4 rfl,(g2 rfl).1⟩
 all_goals trivial
theorem Inv.live {n:Nat}{ths:List Th}{mn:Mn}{s:Sh}(h:Inv n ths mn s)(h1:mn≠ .go)(h2:mn≠ .ret)(h3:mn.mv s= []):∃(i:Nat) (t:Th),ths[i]? =some t/\t.mv s≠ []:=by
 have hmn:mn=.ws/\s.q=0:=by
  cases mn <;> simp only[Mn.mv] at h3
  case go=> exact absurd rfl h1
  case ret=> exact absurd rfl h2
  case ws=>
   split at h3
   ·exact⟨rfl,by assumption⟩
   ·cases h3
  case w2 o=> split at h3 <;> cases h3
  all_goals cases h3
 obtain⟨rfl,hq⟩:=hmn;refine Classical.byContradiction fun wG=> ?_;have kB:∀(i:Nat) (t:Th),ths[i]? =some t->t.mv s= []:=fun i t hi=> Classical.byContradiction fun e=> wG ⟨i,t,hi,e⟩;have cW:∀(i:Nat) (t:Th),ths[i]? =some t->t=.quit\/∃c,t=.s1 c/\s.Q=0:=by
  intro i t hi;have:=kB i t hi;cases t <;> simp only[Th.mv] at this
  case quit=> exact .inl rfl
  case s1 c=>
   split at this
   ·exact .inr ⟨c,rfl,by assumption⟩
   ·cases this
  case l0=> split at this <;> cases this
  case c1=> split at this <;> cases this
  case c2=>
   split at this
   ·split at this <;> cases this
   ·cases this
  case r2=> split at this <;> cases this
  case uc=> split at this <;> cases this
  all_goals cases this
 have zero:∀f:Th->Nat,f .quit=0->(∀c,f (.s1 c)=0)->sm f ths=0:=by
  intro f e1 e2;refine Classical.byContradiction fun hp=> ?_;obtain⟨i,t,hi,ht⟩:=gV (f:=f) (l:=ths) oM;rcases cW i t hi with rfl|⟨c,rfl,_⟩
  ·omega
  ·have:=e2 c;omega
 have z1:=zero Th.own rfl fun _=> rfl;have z2:=zero Th.tok rfl fun _=> rfl;have z3:=zero Th.nC rfl fun _=> rfl;have z4:=zero Th.post rfl fun _=> rfl;have z5:=zero Th.vG rfl fun _=> rfl;have z6:=zero Th.VB rfl fun _=> rfl;have z7:=zero Th.ul rfl fun _=> rfl;have z8:=zero Th.dd rfl fun _=> rfl;have z9:=zero Th.SF rfl fun _=> rfl;have g3:=h.G.g3 rfl;have g1:=h.G.g1;have i1:=h.M.i1;have i4:=h.M.i4;have hc:0<s.c:=by
  rcases Nat.eq_zero_or_pos s.c with e|e
  ·have:=g3.2 e;omega
  ·exact e
 simp only[Mn.ahead] at g1;obtain⟨i,t,hi,ht⟩:=gV (f:=Th.on) (l:=ths) oM;have aAi:=jE (f:=Th.bG) hi;rcases cW i t hi with rfl|⟨c,rfl,hQ⟩
 ·simp[Th.on] at ht
 ·simp only[Th.bG] at aAi;rcases h.M.cases with K|K|K <;> omega
theorem Inv.done {n:Nat}{ths:List Th}{mn:Mn}{s:Sh}(h:Inv n ths mn s)(hp:mn.dD=1):ths.length=n/\∀(i:Nat) (t:Th),ths[i]? =some t->t=.quit:=by
 have he:mn.early=0/\mn.waits=0/\mn.ahead=0:=by cases mn <;> simp[Mn.dD] at hp <;> simp[Mn.early,Mn.waits,Mn.ahead]
 refine⟨h.all he.1,fun i t hi=> ?_⟩;have h1:=jE (f:=Th.on) hi;have h2:=jE (f:=Th.dd) hi;have h3:=jE (f:=Th.SF) hi;have h4:=h.G.g2 he.2.1;have h5:=h.G.g4 hp;have h6:=h.G.g1;cases t <;> simp only[Th.on,Th.dd,Th.SF] at h1 h2 h3 <;> first|rfl|omega
def Th.wt:Th->Nat
 | .ld | .l0 | .r0=> 13
 | .sq _ c | .c1 _ c | .ds c | .r1 c | .c2 _ c | .r3 c=> if c.aw then 12 else 13
 | .t1 _ | .s1 _=> 11
 | .t2 _ | .r2 _ | .a1 _=> 12
 | .le | .la | .up | .ur | .ud | .u0=> 10
 | .uc _ | .ux=> 9
 | .us _=> 8
 | .ue | .wr | .wk | .wi | .d1=> 5
 | .d2 | .d3=> 4
 | .d4=> 3
 | .quit=> 0
def Th.lam(s:Sh):Th->Nat
 | .ld=> 40
 | .l0=> 39
 | .r0=> 38
 | .sq o c=> 6*(4-c.it)+(if o=s.m then 5 else 10)
 | .c1 _ c=> 6*(4-c.it)+4
 | .ds c=> 6*(4-c.it)+3
 | .r1 c=> 6*(4-c.it)+2
 | .c2 o c=> if o=s.m then 1 else 6*(4-c.it)+9
 | .r3 c=> 6*(4-c.it)+8
 | .t1 _=> 2
 | .s1 _=> 1
 | .t2 _=> 40
 | .r2 _=> 39
 | .a1 _=> 1
 | .le=> 61
 | .la=> 60
 | .up=> 59
 | .ur=> 58
 | .ud=> 57
 | .u0=> 56
 | .uc o=> if o=s.m then 1 else 3
 | .ux=> 2
 | .us _=> 1
 | .ue=> 20
 | .wr=> 19
 | .wk=> 18
 | .wi=> 17
 | .d1=> 16
 | .d2=> 2
 | .d3=> 1
 | .d4=> 1
 | .quit=> 0
theorem aCL(s:Sh)(t:Th):t.lam s<=63:=by
 cases t <;> simp only[Th.lam] <;> first|omega|(split <;> omega)
theorem aW(o:Nat)(c:Lc):(hd o c).wt=if c.aw then 12 else 13:=by unfold hd;split <;> rfl
theorem jQ(s:Sh)(c:Lc):(hd s.m c).lam s<=6*(4-c.it)+5:=by
 unfold hd;split
 ·simp[Th.lam]
 ·simp[Th.lam]
theorem Th.eZ {s s':Sh}{t t':Th}(hl:t.loc s)(GB:t.ok s)(hm:(t',s')∈t.mv s):(s'=s/\t'.wt<=t.wt/\t'.lam s<t.lam s)\/t'.wt+2*s'.Q+2*s'.q<t.wt+2*s.Q+2*s.q:=by
 cases t
 case ld=>
  simp only[Th.mv,List.mem_singleton,Prod.mk.injEq] at hm;obtain⟨rfl,rfl⟩:=hm;exact .inl ⟨rfl,by decide,by simp only[Th.lam];omega⟩
 case le=>
  simp only[Th.mv,List.mem_singleton,Prod.mk.injEq] at hm;obtain⟨rfl,rfl⟩:=hm;exact .inl ⟨rfl,by decide,by simp only[Th.lam];omega⟩
 case la=>
  simp only[Th.mv,List.mem_singleton,Prod.mk.injEq] at hm;obtain⟨rfl,rfl⟩:=hm;exact .inl ⟨rfl,by decide,by simp only[Th.lam];omega⟩
 case up=>
  simp only[Th.mv,List.mem_singleton,Prod.mk.injEq] at hm;obtain⟨rfl,rfl⟩:=hm;exact .inl ⟨rfl,by decide,by simp only[Th.lam];omega⟩
 case ur=>
  simp only[Th.mv,List.mem_singleton,Prod.mk.injEq] at hm;obtain⟨rfl,rfl⟩:=hm;exact .inl ⟨rfl,by decide,by simp only[Th.lam];omega⟩
 case ud=>
  simp only[Th.mv,List.mem_singleton,Prod.mk.injEq] at hm;obtain⟨rfl,rfl⟩:=hm;exact .inl ⟨rfl,by decide,by simp only[Th.lam];omega⟩
 case ue=>
  simp only[Th.mv,List.mem_singleton,Prod.mk.injEq] at hm;obtain⟨rfl,rfl⟩:=hm;exact .inl ⟨rfl,by decide,by simp only[Th.lam];omega⟩
 case wr=>
  simp only[Th.mv,List.mem_singleton,Prod.mk.injEq] at hm;obtain⟨rfl,rfl⟩:=hm;exact .inl ⟨rfl,by decide,by simp only[Th.lam];omega⟩
 case wk=>
  simp only[Th.mv,List.mem_singleton,Prod.mk.injEq] at hm;obtain⟨rfl,rfl⟩:=hm;exact .inl ⟨rfl,by decide,by simp only[Th.lam];omega⟩
 case wi=>
  simp only[Th.mv,List.mem_singleton,Prod.mk.injEq] at hm;obtain⟨rfl,rfl⟩:=hm;exact .inl ⟨rfl,by decide,by simp only[Th.lam];omega⟩
 case d2=>
  simp only[Th.mv,List.mem_singleton,Prod.mk.injEq] at hm;obtain⟨rfl,rfl⟩:=hm;exact .inl ⟨rfl,by decide,by simp only[Th.lam];omega⟩
 case l0=>
  simp only[Th.mv] at hm;split at hm <;> simp only[List.mem_singleton,Prod.mk.injEq] at hm <;> obtain⟨rfl,rfl⟩:=hm
  ·exact .inr (by simp only[Th.wt];omega)
  ·exact .inl ⟨rfl,by decide,by simp only[Th.lam];omega⟩
 case r0=>
  simp only[Th.mv,List.mem_singleton,Prod.mk.injEq] at hm;obtain⟨rfl,rfl⟩:=hm;have:=jQ s' ⟨false,false,false,0⟩;exact .inl ⟨rfl,by rw[aW];decide,by simp only[Th.lam] at *;omega⟩
 case sq o c=>
  simp only[Th.mv,List.mem_cons,Prod.mk.injEq] at hm;rcases hm with ⟨rfl,rfl⟩|hm
  ·exact .inl ⟨rfl,by simp only[Th.wt];omega,by simp only[Th.lam];split <;> omega⟩
  ·split at hm
   ·rename_i OL
    simp only[List.mem_singleton,Prod.mk.injEq] at hm;obtain⟨rfl,rfl⟩:=hm;split
    ·exact .inl ⟨rfl,by simp only[Th.wt];omega,by simp only[Th.lam];split <;> omega⟩
    ·exact .inl ⟨rfl,by simp only[Th.wt];omega,by simp only[Th.lam];split <;> omega⟩
   ·cases hm
 case c1 o c=>
  obtain⟨_,_,_,_,_,l6,_⟩:=hl;simp only[Th.mv] at hm;split at hm <;> simp only[List.mem_singleton,Prod.mk.injEq] at hm <;> obtain⟨rfl,rfl⟩:=hm
  ·exact .inr (by simp only[Th.wt,l6,if_true,Bool.false_eq_true,if_false];omega)
  ·exact .inl ⟨rfl,by simp only[Th.wt];omega,by simp only[Th.lam];omega⟩
 case ds c=>
  simp only[Th.mv,List.mem_singleton,Prod.mk.injEq] at hm;obtain⟨rfl,rfl⟩:=hm;exact .inl ⟨rfl,by simp only[Th.wt];omega,by simp only[Th.lam];omega⟩
 case r1 c=>
  simp only[Th.mv,List.mem_singleton,Prod.mk.injEq] at hm;obtain⟨rfl,rfl⟩:=hm;have:=jQ s' { c with it:=c.it+1 };have:=hl.2;exact .inl ⟨rfl,by rw[aW];simp only[Th.wt];omega,by simp only[Th.lam] at *;omega⟩
 case r3 c=>
  simp only[Th.mv,List.mem_singleton,Prod.mk.injEq] at hm;obtain⟨rfl,rfl⟩:=hm;have:=jQ s' c;exact .inl ⟨rfl,by rw[aW];simp only[Th.wt];omega,by simp only[Th.lam] at *;omega⟩
 case c2 o c=>
  simp only[Th.mv] at hm;split at hm
  ·split at hm <;> simp only[List.mem_singleton,Prod.mk.injEq] at hm <;> obtain⟨rfl,rfl⟩:=hm
   ·exact .inr (by simp only[Th.wt];split <;> omega)
   ·refine .inr ?_;have:(if c.ws=true then Th.s1 c else Th.t1 c).wt=11:=by split <;> rfl
    rw[this];simp only[Th.wt];split <;> omega
  ·rename_i h0
   simp only[List.mem_singleton,Prod.mk.injEq] at hm;obtain⟨rfl,rfl⟩:=hm;exact .inl ⟨rfl,by simp only[Th.wt];omega,by simp only[Th.lam];rw[if_neg (fun e=> h0 e.symm)];omega⟩
 case t1 c=>
  simp only[Th.mv,List.mem_cons,Prod.mk.injEq,List.not_mem_nil,or_false] at hm;rcases hm with ⟨rfl,rfl⟩|⟨rfl,rfl⟩ <;> exact .inl ⟨rfl,by simp only[Th.wt];omega,by simp only[Th.lam];omega⟩
 case s1 c=>
  simp only[Th.mv] at hm;split at hm
  ·cases hm
  ·simp only[List.mem_singleton,Prod.mk.injEq] at hm;obtain⟨rfl,rfl⟩:=hm;exact .inr (by simp only[Th.wt];omega)
 case t2 c=>
  simp only[Th.mv,List.mem_cons,Prod.mk.injEq,List.not_mem_nil,or_false] at hm;rcases hm with ⟨rfl,rfl⟩|⟨rfl,rfl⟩ <;> exact .inl ⟨rfl,by simp only[Th.wt];omega,by simp only[Th.lam];omega⟩
 case r2 c=>
  simp only[Th.mv] at hm;split at hm <;> simp only[List.mem_singleton,Prod.mk.injEq] at hm <;> obtain⟨rfl,rfl⟩:=hm
  ·exact .inl ⟨rfl,by simp only[Th.wt];omega,by simp only[Th.lam];omega⟩
  ·have:=jQ s' { c with aw:=true,it:=0 };exact .inl ⟨rfl,by rw[aW];simp only[Th.wt];decide,by simp only[Th.lam] at *;omega⟩
 case a1 b=>
  simp only[Th.mv,List.mem_singleton,Prod.mk.injEq] at hm;obtain⟨rfl,rfl⟩:=hm;exact .inr (by simp only[Th.wt];omega)
 case u0=>
  simp only[Th.mv,List.mem_singleton,Prod.mk.injEq] at hm;obtain⟨rfl,rfl⟩:=hm;refine .inr ?_;have:(if s.m=1 then Th.ue else if(s.m-1)/4%2=1 then .us true else if(s.m-1)/8=0\/(s.m-1)%8≠0 then .ue else .uc (s.m-1)).wt<=9:=by
   split
   ·decide
   ·split
    ·decide
    ·split <;> simp only[Th.wt] <;> omega
  have e:Th.u0.wt=10:=rfl;simp only;omega
 case uc o=>
  simp only[Th.mv] at hm;split at hm <;> simp only[List.mem_singleton,Prod.mk.injEq] at hm <;> obtain⟨rfl,rfl⟩:=hm
  ·exact .inr (by simp only[Th.wt];omega)
  ·rename_i h0
   exact .inl ⟨rfl,by simp only[Th.wt];omega,by simp only[Th.lam];rw[if_neg (fun e=> h0 e.symm)];omega⟩
 case ux=>
  simp only[Th.mv,List.mem_singleton,Prod.mk.injEq] at hm;obtain⟨rfl,rfl⟩:=hm;split
  ·exact .inr (by simp only[Th.wt];omega)
  ·exact .inl ⟨rfl,by simp only[Th.wt];omega,by simp[Th.lam]⟩
 case us b=>
  simp only[Th.mv,List.mem_singleton,Prod.mk.injEq] at hm;obtain⟨rfl,rfl⟩:=hm;exact .inr (by simp only[Th.wt];omega)
 case d1=>
  simp only[Th.mv,List.mem_singleton,Prod.mk.injEq] at hm;obtain⟨rfl,rfl⟩:=hm;exact .inr (by split <;> simp only[Th.wt] <;> omega)
 case d3=>
  simp only[Th.mv,List.mem_singleton,Prod.mk.injEq] at hm;obtain⟨rfl,rfl⟩:=hm;exact .inr (by simp only[Th.wt];omega)
 case d4=>
  simp only[Th.mv,List.mem_singleton,Prod.mk.injEq] at hm;obtain⟨rfl,rfl⟩:=hm;exact .inr (by simp only[Th.wt];omega)
 case quit=> cases hm
def Mn.wt:Mn->Nat
 | .kd | .ki | .ka=> 20
 | .kr | .ke | .go=> 19
 | .wd | .w1 | .w2 _=> 18
 | .wm | .ws=> 17
 | _=> 14
def Mn.lam(s:Sh):Mn->Nat
 | .kd=> 3
 | .ki=> 2
 | .ka=> 1
 | .kr=> 3
 | .ke=> 2
 | .go=> 1
 | .wd=> 5
 | .w1=> 3
 | .w2 o=> if o=s.c then 2 else 4
 | .wm=> 2
 | .ws=> 1
 | .w4=> 4
 | .we=> 3
 | .aq=> 2
 | .ret=> 1
theorem Mn.eZ {s s':Sh}{t t':Mn}(hm:(t',s')∈t.mv s):(s'=s/\t'.wt<=t.wt/\t'.lam s<t.lam s)\/t'.wt+2*s'.Q+2*s'.q<t.wt+2*s.Q+2*s.q:=by
 cases t <;> simp only[Mn.mv] at hm
 case go=> cases hm
 case ret=> cases hm
 case ka=>
  simp only[List.mem_singleton,Prod.mk.injEq] at hm;obtain⟨rfl,rfl⟩:=hm;exact .inr (by split <;> simp only[Mn.wt] <;> omega)
 case w1=>
  simp only[List.mem_singleton,Prod.mk.injEq] at hm;obtain⟨rfl,rfl⟩:=hm;split
  ·exact .inr (by simp only[Mn.wt];omega)
  ·exact .inl ⟨rfl,by simp only[Mn.wt];omega,by simp[Mn.lam]⟩
 case w2 o=>
  split at hm <;> simp only[List.mem_singleton,Prod.mk.injEq] at hm <;> obtain⟨rfl,rfl⟩:=hm
  ·exact .inr (by simp only[Mn.wt];omega)
  ·rename_i h0
   exact .inl ⟨rfl,by simp only[Mn.wt];omega,by simp only[Mn.lam];rw[if_neg (fun e=> h0 e.symm)];omega⟩
 case ws=>
  split at hm
  ·cases hm
  ·simp only[List.mem_singleton,Prod.mk.injEq] at hm;obtain⟨rfl,rfl⟩:=hm;exact .inr (by simp only[Mn.wt];omega)
 all_goals
  simp only[List.mem_singleton,Prod.mk.injEq] at hm;obtain⟨rfl,rfl⟩:=hm;exact .inl ⟨rfl,by simp only[Mn.wt];omega,by simp only[Mn.lam];omega⟩
def phi(n:Nat)(ths:List Th)(mn:Mn)(s:Sh):Nat:=sm Th.wt ths+2*s.Q+2*s.q+mn.wt+100*(n-ths.length)
def YM(ths:List Th)(mn:Mn)(s:Sh):Nat:=sm (Th.lam s) ths+mn.lam s
def mu(n:Nat)(ths:List Th)(mn:Mn)(s:Sh):Nat:=phi n ths mn s*512+YM ths mn s
theorem W8 {f:Th->Nat}{b:Nat}(hf:∀t,f t<=b):∀l:List Th,sm f l<=b*l.length
 | []=> by simp[sm]
 | a::l=> by
  have:=W8 hf l;have:=hf a;simp only[sm,List.length_cons,Nat.mul_add];omega
theorem Mn.aEx(s:Sh)(t:Mn):t.lam s<=5:=by cases t <;> simp only[Mn.lam] <;> first|omega|(split <;> omega)
theorem PK {ths:List Th}{mn:Mn}{s:Sh}(h:ths.length<=6):YM ths mn s<512:=by
 have h1:=W8 (aCL s) ths;have h2:=mn.aEx s;unfold YM;omega
theorem zX {n:Nat}{ths:List Th}{mn:Mn}{s s':Sh}{i:Nat}{t t':Th}(h:Inv n ths mn s)(hi:ths[i]? =some t)(hm:(t',s')∈t.mv s):mu n (ths.set i t') mn s'<mu n ths mn s:=by
 have h1:=ID (f:=Th.wt) hi t';have h2:=h.len;have h3:=h.n7;have hl:(ths.set i t').length=ths.length:=by simp
 rcases Th.eZ (h.loc i t hi) (h.ok hi).1 hm with ⟨rfl,h4,h5⟩|h4
 ·have h6:=ID (f:=Th.lam s') hi t';unfold mu phi YM;rw[hl];omega
 ·have h6:=PK (ths:=ths.set i t') (mn:=mn) (s:=s') oM;unfold mu phi;rw[hl];omega
theorem J6 {n:Nat}{ths:List Th}{mn mn':Mn}{s s':Sh}(h:Inv n ths mn s)(hm:(mn',s')∈mn.mv s):mu n ths mn' s'<mu n ths mn s:=by
 have h2:=h.len;have h3:=h.n7;rcases Mn.eZ hm with ⟨rfl,h4,h5⟩|h4
 ·unfold mu phi YM;omega
 ·have h6:=PK (ths:=ths) (mn:=mn') (s:=s') oM;unfold mu phi;omega
theorem I6 {n:Nat}{ths:List Th}{s:Sh}{mn:Mn}(h:Inv n ths .go s)(hw:mn.wt<=20):mu n (ths++[.ld]) mn s<mu n ths .go s:=by
 have h2:=h.more rfl;have h3:=h.n7;have h6:=PK (ths:=ths++[.ld]) (mn:=mn) (s:=s) (by simp;omega);have h7:=CE Th.wt .ld ths;have h8:Th.ld.wt=13:=rfl;have h9:Mn.go.wt=19:=rfl;unfold mu phi;rw[h7,h8,h9];simp only[List.length_append,List.length_cons,List.length_nil];omega
end Go.RL.Au
namespace Go.RL
open Go.Conc
inductive sB where
 | stop
 | step (f:World->sB)
 | phase (f:View->Goroutine->sB)
inductive sB.Lt:sB->sB->Prop where
 | step (f:World->sB) (w:World):sB.Lt (f w) (.step f)
 | phase (f:View->Goroutine->sB) (H:View) (g:Goroutine):sB.Lt (f H g) (.phase f)
theorem sB.wf:WellFounded sB.Lt:=⟨fun a=> by
 induction a with
 | stop=> exact⟨_,fun y h=> by cases h⟩
 | step f ih=> exact⟨_,fun y h=> by cases h;exact ih _⟩
 | phase f ih=> exact⟨_,fun y h=> by cases h;exact ih _ _⟩⟩
def Tr {P:Program}(M:Md P)(St:View->Goroutine->Prop):sB->View->Goroutine->Prop
 | .stop,H,g=> St H g
 | .step f,H,g=> g.status=.running/\∀w,Sat H w->M.ok w->∃g' w' es H',stepG P M.main g w=.go g' w' es/\Trans H w H' w' es/\Tr M St (f w) H' g'
 | .phase f,H,g=> ∃Po,M.Ph H g Po/\∀H' g',Po H' g'->Tr M St (f H' g') H' g'
theorem T.PS {P:Program}{M:Md P}{St:View->Goroutine->Prop}{H:View}{g:Goroutine}(h:T M St H g):∃ρ,Tr M St ρ H g:=by
 refine h.ind (X:=fun H g=> ∃ρ,Tr M St ρ H g) (fun H g hs=> ⟨.stop,hs⟩) (fun H g hs=> ?_) (fun H g Po hp hk=> ?_)
 ·have:∀w,∃ρ,Sat H w->M.ok w->∃g' w' es H',stepG P M.main g w=.go g' w' es/\Trans H w H' w' es/\Tr M St ρ H' g':=fun w=> by
   by_cases hw:Sat H w/\M.ok w
   ·obtain⟨g',w',es,H',h1,h2,_,ρ,h3⟩:=hs.2 w hw.1 hw.2;exact⟨ρ,fun _ _=> ⟨g',w',es,H',h1,h2,h3⟩⟩
   ·exact⟨.stop,fun h h'=> absurd ⟨h,h'⟩ hw⟩
  obtain⟨f,hf⟩:=Classical.axiomOfChoice this;exact⟨.step f,hs.1,hf⟩
 ·have:∀x:View×Goroutine,∃ρ,Po x.1 x.2->Tr M St ρ x.1 x.2:=fun x=> by
   by_cases hx:Po x.1 x.2
   ·obtain⟨_,ρ,h3⟩:=hk _ _ hx;exact⟨ρ,fun _=> h3⟩
   ·exact⟨.stop,fun h=> absurd h hx⟩
  obtain⟨f,hf⟩:=Classical.axiomOfChoice this;exact⟨.phase fun H g=> f (H,g),Po,hp,fun H' g' h=> hf (H',g') h⟩
def Mw(P:Program)(main:Bool)(ok:World->Prop):Md P:=⟨main,ok,fun _ _ _=> False,fun _ _ _ _ h=> h.elim⟩
inductive yV:List sB->List sB->Prop where
 | head {a b:sB} (l:List sB):sB.Lt a b->yV (a::l) (b::l)
 | tail (a:sB) {l m:List sB}:yV l m->yV (a::l) (a::m)
theorem yV.set {l:List sB}:∀ {i:Nat} {b a:sB},l[i]? =some b->sB.Lt a b->yV (l.set i a) l:=by
 induction l with
 | nil=> intro i b a h;simp at h
 | cons x l ih=>
  intro i b a h mB;cases i with
  | zero=> simp at h;subst h;exact .head l mB
  | succ i=> exact .tail x (ih (by simpa using h) mB)
theorem yV.wf:WellFounded yV:=⟨fun l=> by
 induction l with
 | nil=> exact⟨_,fun y h=> by cases h⟩
 | cons a l ih=>
  induction a using sB.wf.induction generalizing l with
  | _ a iha=>
   induction ih with
   | intro l hl ihl=>
    refine⟨_,fun y h=> ?_⟩;cases h with
    | head _ mB=> exact iha _ mB l ⟨l,hl⟩
    | tail _ mB=> exact ihl _ mB⟩
end Go.RL
namespace Go.RL
open Go.Conc Go.ConcN
open Go.ConcR (stA smA rd wr mk)
open Go.ConcM (muA)
def lb:Loc->Option Nat
 | .cell a=> some a.block
 | .obj r=> some r
 | _=> none
theorem aAs {l:Loc}{b:Nat}(h:lb l=some b):l.isMemory=true:=by
 cases l <;> simp[lb] at h <;> rfl
theorem aAm {l:Loc}(h:l.isMemory=true):∃b,lb l=some b:=by
 cases l <;> simp[Loc.isMemory] at h <;> exact⟨_,rfl⟩
def Act(base N g:Nat):Prop:=g=0\/(base<=g/\g<N)
structure TI(Mu Wg C base N hs:Nat)(H:Nat->View)(B:View)(t:Trace):Prop where
 nr:∀said,¬Race said t
 bd:∀i a b,touchAt t i=some a->lb a.loc=some b->b<hs
 kn:∀g,Act base N g->∀i a b f o,touchAt t i=some a->lb a.loc=some b->H g b=some (f,o)->(f=true\/a.write=true)->Knows t g i
 pl:∀(i:Nat) op a,t[i]? =some op->op.act.touch? =some a->a.kind=.plain->op.g<base->Knows t 0 i
 np:∀i a b,touchAt t i=some a->a.kind≠ .plain->lb a.loc=some b->(∀g,H g b=none)/\B b=none/\b≠C
 nW:∀(i:Nat) op a,t[i]? =some op->op.act.touch? =some a->a.kind≠ .plain->(a.kind=.said->op.g=0)/\(a.kind=.atomic->op.g≠0->¬t.heard i)
 sy:∀g,Act base N g->∀i a b,touchAt t i=some a->a.kind=.plain->lb a.loc=some b->b=Mu\/b=Wg->Knows t g i
 rel:∀a,NoRelease a t
 gs:∀(i:Nat) op,t[i]? =some op->op.g<N
 mem:∀i a,touchAt t i=some a->∃b,lb a.loc=some b
structure uY(Mu Wg:Nat)(H:View)(g:Nat)(t:Trace)(u:Trace):Prop where
 own:∀op∈u,op.g=g
 touch:∀op∈u,∀x,op.act.touch? =some x->(x.kind=.plain/\∃b f o,lb x.loc=some b/\H b=some (f,o)/\(x.write=true->f=true))\/ 
  (x.kind≠ .plain/\(lb x.loc=some Mu\/lb x.loc=some Wg)/\(x.kind=.said->g=0))
 deaf:g≠0->∀(i:Nat) op x,t.size<=i->(t++u)[i]? =some op->op.act.touch? =some x->x.kind=.atomic->¬(t++u).heard i
 rel:∀op∈u,∀a,op.act≠ .mark (.release a)
section
variable {Mu Wg C base N hs:Nat}{H:Nat->View}{B:View}{t u:Trace}
theorem VA {i:Nat}{a:Touch}(h:touchAt (t++u) i=some a):(i<t.size/\touchAt t i=some a)\/(t.size<=i/\∃op,op∈u/\(t++u)[i]? =some op/\op.act.touch? =some a):=by
 obtain⟨x,hx,hxa⟩:=touch_of h;rcases getElem?_append_cases hx with ⟨hi,EH⟩|⟨hi,hxu⟩
 ·exact .inl ⟨hi,by rw[touchAt_of EH];exact hxa⟩
 ·exact .inr ⟨hi,x,hxu,hx,hxa⟩
theorem TI.grow {g hs':Nat}{H':View}(h:TI Mu Wg C base N hs H B t)(hg:Act base N g)(hgN:g<N)(hu:uY Mu Wg H' g t u)
  (ext:∀b f o,H' b=some (f,o)->(∃o,H g b=some (f,o))\/(f=true/\hs<=b)) (hhs:hs<=hs') (rU:∀b x,H' b=some x->b<hs') (C8:Mu<hs) (F8:Wg<hs)
  (RN:∀j,j≠g->∀b o,(H' b=some (true,o)->H j b=none)/\(H j b=some (true,o)->H' b=none)) (SJ:∀j,H j Mu=none/\H j Wg=none) (hB:B Mu=none/\B Wg=none) (hC:C≠Mu/\C≠Wg):
  TI Mu Wg C base N hs' (upd H g H') B (t++u):=by
 have j6:H' Mu=none/\H' Wg=none:=by
  constructor
  ·cases hx:H' Mu with
   | none=> rfl
   | some x=>
    rcases ext Mu x.1 x.2 hx with ⟨o,ho⟩|⟨_,hle⟩
    ·rw[(SJ g).1] at ho;cases ho
    ·omega
  ·cases hx:H' Wg with
   | none=> rfl
   | some x=>
    rcases ext Wg x.1 x.2 hx with ⟨o,ho⟩|⟨_,hle⟩
    ·rw[(SJ g).2] at ho;cases ho
    ·omega
 have old:∀i a b f o,touchAt t i=some a->lb a.loc=some b->H' b=some (f,o)->∃o',H g b=some (f,o'):=by
  intro i a b f o ha hb hx;rcases ext b f o hx with h1|⟨_,hle⟩
  ·exact h1
  ·have:=h.bd i a b ha hb;omega
 refine⟨fun said=> ?_,?_,?_,?_,?_,?_,?_,?_,?_,?_⟩
 ·refine noRace_append (h.nr said) hu.own fun i a ha op iA b hb hc=> ?_;obtain⟨qE,QC,hwr,cW⟩:=hc;obtain⟨blk,BH⟩:=aAm (by simpa using QC);rcases hu.touch op iA b hb with ⟨hk,blk',f,o,h1,h2,h3⟩|⟨hk,h1,h2⟩
  ·rw[qE,h1] at BH;cases BH
   obtain⟨o',h4⟩:=old i a blk f o ha (by rw[qE];exact h1) h2;have ZR:a.kind=.plain:=by
    refine Classical.byContradiction fun gB=> ?_;have:=(h.np i a blk ha gB (by rw[qE];exact h1)).1 g;rw[h4] at this;cases this
   refine h.kn g hg i a blk f o' ha (by rw[qE];exact h1) h4 ?_;rcases hwr with hw|hw
   ·exact .inr hw
   ·exact .inl (h3 hw)
  ·have dQ:blk=Mu\/blk=Wg:=by
    rw[<-qE] at h1;rw[BH] at h1;rcases h1 with h1|h1 <;> cases h1 <;> simp
   rcases cW with D2|D2|⟨_,UN,R2⟩
   ·exact h.sy g hg i a blk ha D2 BH dQ
   ·exact absurd D2 hk
   ·obtain⟨x,hx,hxa⟩:=touch_of ha;have:=(h.nW i x a hx hxa (by rw[UN];simp)).1 UN;have h0:=h2 R2;have:=knows_own hx;rw[(h.nW i x a hx hxa (by rw[UN];simp)).1 UN] at this;rw[h0];exact this
 ·intro i a b ha hb;rcases VA ha with ⟨hi,AF⟩|⟨hi,op,iA,_,hx⟩
  ·exact Nat.lt_of_lt_of_le (h.bd i a b AF hb) hhs
  ·rcases hu.touch op iA a hx with ⟨_,b',f,o,h1,h2,_⟩|⟨_,h1,_⟩
   ·rw[h1] at hb;cases hb
    exact rU b _ h2
   ·rw[hb] at h1;rcases h1 with h1|h1 <;> cases h1 <;> omega
 ·intro j hj i a b f o ha hb hH hw;rcases VA ha with ⟨hi,AF⟩|⟨hi,op,iA,rE,hx⟩
  ·by_cases e:j=g
   ·subst e;rw[upd_same] at hH;obtain⟨o',h4⟩:=old i a b f o AF hb hH;exact(h.kn j hj i a b f o' AF hb h4 hw).app u
   ·rw[upd_ne H H' e] at hH;exact(h.kn j hj i a b f o AF hb hH hw).app u
  ·by_cases e:j=g
   ·subst e;have:=knows_own rE
    rwa [hu.own op iA] at this
   ·rw[upd_ne H H' e] at hH;rcases hu.touch op iA a hx with ⟨_,b',f',o',h1,h2,h3⟩|⟨_,h1,_⟩
    ·rw[h1] at hb;cases hb
     rcases hw with rfl|hw
     ·rw[(RN j e b o).2 hH] at h2;cases h2
     ·have:=h3 hw;subst this;rw[(RN j e b o').1 h2] at hH;cases hH
    ·rw[hb] at h1;rcases h1 with h1|h1 <;> cases h1
     ·rw[(SJ j).1] at hH;cases hH
     ·rw[(SJ j).2] at hH;cases hH
 ·intro i op a iA ha hk mB;rcases getElem?_append_cases iA with ⟨hi,rE⟩|⟨hi,vD⟩
  ·exact(h.pl i op a rE ha hk mB).app u
  ·have h1:=hu.own op vD;have h2:=knows_own iA;rcases hg with rfl|⟨jU,_⟩
   ·rwa [h1] at h2
   ·omega
 ·intro i a b ha hk hb;rcases VA ha with ⟨hi,AF⟩|⟨hi,op,iA,_,hx⟩
  ·obtain⟨h1,h2⟩:=h.np i a b AF hk hb;refine⟨fun j=> ?_,h2⟩;by_cases e:j=g
   ·subst e;rw[upd_same];cases hx:H' b with
    | none=> rfl
    | some x=>
     obtain⟨o',h4⟩:=old i a b x.1 x.2 AF hb hx;rw[h1 j] at h4;cases h4
   ·rw[upd_ne H H' e];exact h1 j
  ·rcases hu.touch op iA a hx with ⟨hp,_⟩|⟨_,h1,_⟩
   ·exact absurd hp hk
   ·rw[hb] at h1;rcases h1 with h1|h1 <;> cases h1
    ·exact⟨fun j=> by by_cases e:j=g;(subst e;rw[upd_same];exact j6.1);(rw[upd_ne H H' e];exact(SJ j).1),hB.1,Ne.symm hC.1⟩
    ·exact⟨fun j=> by by_cases e:j=g;(subst e;rw[upd_same];exact j6.2);(rw[upd_ne H H' e];exact(SJ j).2),hB.2,Ne.symm hC.2⟩
 ·intro i op a iA ha hk;rcases getElem?_append_cases iA with ⟨hi,rE⟩|⟨hi,vD⟩
  ·obtain⟨h1,h2⟩:=h.nW i op a rE ha hk;exact⟨h1,fun e e'=> by rw[heard_old hi];exact h2 e e'⟩
  ·have h1:=hu.own op vD;refine⟨fun e=> ?_,fun e e'=> hu.deaf (by rw[<-h1];exact e') i op a hi iA ha e⟩;rcases hu.touch op vD a ha with ⟨hp,_⟩|⟨_,_,h2⟩
   ·exact absurd hp hk
   ·rw[h1];exact h2 e
 ·intro j hj i a b ha hk hb gK;rcases VA ha with ⟨hi,AF⟩|⟨hi,op,iA,_,hx⟩
  ·exact(h.sy j hj i a b AF hk hb gK).app u
  ·rcases hu.touch op iA a hx with ⟨_,b',f,o,h1,h2,_⟩|⟨hp,_⟩
   ·rw[h1] at hb;cases hb
    rcases gK with rfl|rfl
    ·rw[j6.1] at h2;cases h2
    ·rw[j6.2] at h2;cases h2
   ·exact absurd hk hp
 ·exact fun a=> (h.rel a).app fun op iA=> hu.rel op iA a
 ·intro i op iA;rcases getElem?_append_cases iA with ⟨hi,rE⟩|⟨hi,vD⟩
  ·exact h.gs i op rE
  ·rw[hu.own op vD];exact hgN
 ·intro i a ha;rcases VA ha with ⟨hi,AF⟩|⟨hi,op,iA,_,hx⟩
  ·exact h.mem i a AF
  ·rcases hu.touch op iA a hx with ⟨_,b',f,o,h1,_⟩|⟨_,h1,_⟩
   ·exact⟨_,h1⟩
   ·exact h1.elim (fun e=> ⟨_,e⟩) fun e=> ⟨_,e⟩
theorem TI.less {g:Nat}{H':View}(h:TI Mu Wg C base N hs H B t)(hl:∀b f o,H' b=some (f,o)->∃f' o',H g b=some (f',o')/\(f=true->f'=true)):TI Mu Wg C base N hs (upd H g H') B t:=by
 refine⟨h.nr,h.bd,?_,h.pl,?_,h.nW,h.sy,h.rel,h.gs,h.mem⟩
 ·intro j hj i a b f o ha hb hH hw;by_cases e:j=g
  ·subst e;rw[upd_same] at hH;obtain⟨f',o',h1,h2⟩:=hl b f o hH;exact h.kn j hj i a b f' o' ha hb h1 (hw.imp h2 id)
  ·rw[upd_ne H H' e] at hH;exact h.kn j hj i a b f o ha hb hH hw
 ·intro i a b ha hk hb;obtain⟨h1,h2⟩:=h.np i a b ha hk hb;refine⟨fun j=> ?_,h2⟩;by_cases e:j=g
  ·subst e;rw[upd_same];cases hx:H' b with
   | none=> rfl
   | some x=>
    obtain⟨f',o',h3,_⟩:=hl b x.1 x.2 hx;rw[h1 j] at h3;cases h3
  ·rw[upd_ne H H' e];exact h1 j
def Tok(Mu C base N:Nat)(t:Trace):Prop:=
 ∀i a,touchAt t i=some a->lb a.loc=some C->(∀g,Act base N g->Knows t g i)\/∃r,Before t i r/\t.act? r=some (.mark (.releaseMerge (muA Mu)))/\t.heard r
theorem Tok.grow(h:Tok Mu C base N t)(hu:∀op∈u,∀x,op.act.touch? =some x->lb x.loc≠some C):Tok Mu C base N (t++u):=by
 intro i a ha hb;rcases VA ha with ⟨hi,AF⟩|⟨hi,op,iA,_,hx⟩
 ·rcases h i a AF hb with h1|⟨r,h1,h2,h3⟩
  ·exact .inl fun g hg=> (h1 g hg).app u
  ·have hr:=lt_of_act? h2;exact .inr ⟨r,h1.app u,by rw[act?_old hr];exact h2,(heard_old hr).2 h3⟩
 ·exact absurd hb (hu op iA a hx)
theorem Tok.acquire {g:Nat}{y:MemOp}(h:Tok Mu C base N t)(hg:Act base N g)(hy:y.g=g/\y.act=.mark (.acquire (muA Mu)))(hd:Deaf t g=0)(hn:NoRelease (muA Mu) t):∀i a,touchAt (t ++ #[y]) i=some a->lb a.loc=some C->Knows (t ++ #[y]) g i:=by
 intro i a ha hb;rcases VA ha with ⟨hi,AF⟩|⟨hi,op,iA,_,hx⟩
 ·rcases h i a AF hb with h1|⟨r,h1,h2,h3⟩
  ·exact(h1 g hg).app _
  ·have hr:=lt_of_act? h2;have sH:(t ++ #[y])[t.size]? =some y:=by rw[Array.getElem?_append_right (Nat.le_refl _)];simp
   have hh:(t ++ #[y]).heard t.size:=⟨g,by simp[Trace.g?,hy.1],by rw[deaf_old (Nat.le_refl _)];exact hd⟩
   refine⟨t.size,y,sH,hy.1,.inr ((h1.app #[y]).hb (.single (.inr ⟨.marked (a:=muA Mu) hr (.inr (by rw[act?_old hr];exact h2)) (by rw[act?_of sH,hy.2]) (fun k h4 h5=> by rw[act?_old h5];exact hn k),(heard_old hr).2 h3,hh⟩)))⟩
 ·simp at iA
  subst iA;rw[hy.2] at hx;cases hx
theorem Tok.release {g:Nat}{y:MemOp}(h:∀i a,touchAt t i=some a->lb a.loc=some C->Knows t g i)(hy:y.g=g/\y.act=.mark (.releaseMerge (muA Mu)))(hd:Deaf t g=0):Tok Mu C base N (t ++ #[y]):=by
 intro i a ha hb;have sH:(t ++ #[y])[t.size]? =some y:=by rw[Array.getElem?_append_right (Nat.le_refl _)];simp
 rcases VA ha with ⟨hi,AF⟩|⟨hi,op,iA,_,hx⟩
 ·exact .inr ⟨t.size,.inr ((h i a AF hb).hb_new (Nat.le_refl _) sH hy.1),by rw[act?_of sH,hy.2],⟨g,by simp[Trace.g?,hy.1],by rw[deaf_old (Nat.le_refl _)];exact hd⟩⟩
 ·simp at iA
  subst iA;rw[hy.2] at hx;cases hx
theorem TI.fork {x y:MemOp}(h:TI Mu Wg C base N hs H B t)(hx:x.g=0/\x.act=.go N)(hy:y.g=N/\y.act=.start)(h0:Deaf t 0=0)(hbN:base<=N)(hN:0<N){R:View}
  (hR:∀b f o,R b=some (f,o)->f=false/\∃f',H 0 b=some (f',o)) (hHN:∀b,H N b=none):TI Mu Wg C base (N+1) hs (upd (upd H 0 R) N R) B (t ++ #[x,y]):=by
 have hkN:Deaf t N=0:=Deaf_absent fun i op hi e=> by have:=h.gs i op hi;omega
 have hnt:∀op∈#[x,y],∀b,op.act.touch? =some b->False:=by
  intro op iA b hb;simp only[List.mem_toArray,List.mem_cons,List.not_mem_nil,or_false] at iA;rcases iA with rfl|rfl
  ·rw[hx.2] at hb;cases hb
  ·rw[hy.2] at hb;cases hb
 have old:∀ {i:Nat} {a:Touch},touchAt (t ++ #[x,y]) i=some a->touchAt t i=some a/\i<t.size:=by
  intro i a ha;rcases VA ha with ⟨hi,AF⟩|⟨hi,op,iA,_,r6⟩
  ·exact⟨AF,hi⟩
  ·exact(hnt op iA a r6).elim
 have oldop:∀ {i:Nat} {op:MemOp} {a:Touch},(t ++ #[x,y])[i]? =some op->op.act.touch? =some a->t[i]? =some op/\i<t.size:=by
  intro i op a iA ha;rcases getElem?_append_cases iA with ⟨hi,rE⟩|⟨hi,vD⟩
  ·exact⟨rE,hi⟩
  ·exact(hnt op vD a ha).elim
 have a0:Act base N 0:=.inl rfl;refine⟨fun said=> ?_,fun i a b ha hb=> h.bd i a b (old ha).1 hb,?_,?_,?_,?_,?_,?_,?_,fun i a ha=> h.mem i a (old ha).1⟩
 ·have e:t ++ #[x,y]=(t ++ #[x]) ++ #[y]:=by apply Array.ext';simp
  rw[e];refine noRace_append (g:=N) (noRace_append (g:=0) (h.nr said) (fun op iA=> by simp at iA;rw[iA];exact hx.1) (fun i a _ op iA b hb _=> (hnt op (by simp at iA ⊢;exact .inl iA) b hb).elim))
   (fun op iA=> by simp at iA;rw[iA];exact hy.1) (fun i a _ op iA b hb _=> (hnt op (by simp at iA ⊢;exact .inr iA) b hb).elim)
 ·intro j hj i a b f o ha hb hH hw;by_cases e:j=N
  ·subst e;rw[upd_same] at hH;obtain⟨rfl,f',h1⟩:=hR b f o hH;exact fork_knows hx hy h0 hkN (h.kn 0 a0 i a b f' o (old ha).1 hb h1 (hw.elim (fun e=> by cases e) .inr))
  ·rw[upd_ne _ R e] at hH;have OO:Act base N j:=hj.imp id fun⟨h1,h2⟩=> ⟨h1,oM⟩
   by_cases e0:j=0
   ·subst e0;rw[upd_same] at hH;obtain⟨rfl,f',h1⟩:=hR b f o hH;exact(h.kn 0 a0 i a b f' o (old ha).1 hb h1 (hw.elim (fun e=> by cases e) .inr)).app _
   ·rw[upd_ne _ R e0] at hH;exact(h.kn j OO i a b f o (old ha).1 hb hH hw).app _
 ·exact fun i op a iA ha hk mB=> (h.pl i op a (oldop iA ha).1 ha hk mB).app _
 ·intro i a b ha hk hb;obtain⟨h1,h2⟩:=h.np i a b (old ha).1 hk hb;have hRb:R b=none:=by
   cases hx:R b with
   | none=> rfl
   | some z=>
    obtain⟨_,f',h3⟩:=hR b z.1 z.2 hx;rw[h1 0] at h3;cases h3
  refine⟨fun j=> ?_,h2⟩;by_cases e:j=N
  ·subst e;rw[upd_same];exact hRb
  ·rw[upd_ne _ R e];by_cases e0:j=0
   ·subst e0;rw[upd_same];exact hRb
   ·rw[upd_ne _ R e0];exact h1 j
 ·intro i op a iA ha hk;obtain⟨h3,hi⟩:=oldop iA ha;obtain⟨h1,h2⟩:=h.nW i op a h3 ha hk;exact⟨h1,fun e e'=> by rw[heard_old hi];exact h2 e e'⟩
 ·intro j hj i a b ha hk hb gK;by_cases e:j=N
  ·subst e;exact fork_knows hx hy h0 hkN (h.sy 0 a0 i a b (old ha).1 hk hb gK)
  ·exact(h.sy j (hj.imp id fun⟨h1,h2⟩=> ⟨h1,oM⟩) i a b (old ha).1 hk hb gK).app _
 ·refine fun a=> (h.rel a).app fun op iA e=> ?_;simp only[List.mem_toArray,List.mem_cons,List.not_mem_nil,or_false] at iA;rcases iA with rfl|rfl
  ·rw[hx.2] at e;cases e
  ·rw[hy.2] at e;cases e
 ·intro i op iA;rcases getElem?_append_cases iA with ⟨hi,rE⟩|⟨hi,vD⟩
  ·have:=h.gs i op rE;omega
  ·simp only[List.mem_toArray,List.mem_cons,List.not_mem_nil,or_false] at vD;rcases vD with rfl|rfl
   ·rw[hx.1];omega
   ·rw[hy.1];omega
theorem Tok.fork {x y:MemOp}(h:Tok Mu C base N t)(hgs:∀(i:Nat) op,t[i]? =some op->op.g<N)(hx:x.g=0/\x.act=.go N)(hy:y.g=N/\y.act=.start)(h0:Deaf t 0=0):Tok Mu C base (N+1) (t ++ #[x,y]):=by
 have hkN:Deaf t N=0:=Deaf_absent fun i op hi e=> by have:=hgs i op hi;omega
 have hnt:∀op∈#[x,y],∀b,op.act.touch? =some b->False:=by
  intro op iA b hb;simp only[List.mem_toArray,List.mem_cons,List.not_mem_nil,or_false] at iA;rcases iA with rfl|rfl
  ·rw[hx.2] at hb;cases hb
  ·rw[hy.2] at hb;cases hb
 intro i a ha hb;rcases VA ha with ⟨hi,AF⟩|⟨hi,op,iA,_,r6⟩
 ·rcases h i a AF hb with h1|⟨r,h1,h2,h3⟩
  ·refine .inl fun g hg=> ?_;by_cases e:g=N
   ·subst e;exact fork_knows hx hy h0 hkN (h1 0 (.inl rfl))
   ·exact(h1 g (hg.imp id fun⟨h1,h2⟩=> ⟨h1,oM⟩)).app _
  ·have hr:=lt_of_act? h2;exact .inr ⟨r,h1.app _,by rw[act?_old hr];exact h2,(heard_old hr).2 h3⟩
 ·exact(hnt op iA a r6).elim
theorem TI.join {y:MemOp}(h:TI Mu Wg C base N hs H B t)(hy:y.g=0/\y.act=.mark (.acquire (stA Wg)))(hd:Deaf t 0=0)(aEm:∀g,base<=g->g<N->∃r,RelBy (stA Wg) t g r):
  ∀i a,touchAt (t ++ #[y]) i=some a->a.kind=.plain->Knows (t ++ #[y]) 0 i:=by
 intro i a ha hk;rcases VA ha with ⟨hi,AF⟩|⟨hi,op,iA,_,hx⟩
 ·obtain⟨x,hx,hxa⟩:=touch_of AF;rcases Nat.lt_or_ge x.g base with mB|jU
  ·exact(h.pl i x a hx hxa hk mB).app _
  ·obtain⟨r,hr⟩:=aEm x.g jU (h.gs i x hx);have O2:=lt_of_act? hr.act;have hc:t.counts i:=by
    refine⟨a,AF,?_,.inl (by rw[hk];simp)⟩;obtain⟨b,hb⟩:=h.mem i a AF;exact aAs hb
   have hle:i<=r:=Nat.le_of_not_lt fun mB=> hr.after i mB (by simp[Trace.g?,hx]) hc;have sH:(t ++ #[y])[t.size]? =some y:=by rw[Array.getElem?_append_right (Nat.le_refl _)];simp
   have hh:(t ++ #[y]).heard t.size:=⟨0,by simp[Trace.g?,hy.1],by rw[deaf_old (Nat.le_refl _)];exact hd⟩
   have edge:HappensBefore (t ++ #[y]) r t.size:=.single (.inr ⟨.marked (a:=stA Wg) O2 (.inr (by rw[act?_old O2];exact hr.act)) (by rw[act?_of sH,hy.2]) (fun k h4 h5=> by rw[act?_old h5];exact h.rel _ k),(heard_old O2).2 hr.heard,hh⟩);have lU:Before (t ++ #[y]) i r:=by
    rcases Nat.lt_or_ge i r with h1|h1
    ·obtain⟨z,hz,hzg⟩:=Option.map_eq_some_iff.1 hr.g;exact .inr (hb_po h1 (by rw[getElem?_append_old hi];exact hx) (by rw[getElem?_append_old O2];exact hz) hzg.symm)
    ·exact .inl oM
   exact⟨t.size,y,sH,hy.1,.inr (lU.hb edge)⟩
 ·simp at iA
  subst iA;rw[hy.2] at hx;cases hx
end
end Go.RL
