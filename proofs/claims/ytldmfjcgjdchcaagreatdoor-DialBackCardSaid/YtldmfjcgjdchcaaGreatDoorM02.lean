/-
 Texts of the proofs over baudot/dial.
-/
import Derived.Test.YtldmfjcgjdchcaaGreatDoorM01
import Derived.Orders
import Derived.Test.YtldmfjcgjdchcaaGreatDoorChecked
import Derived.KernelRfl
import Derived.Conc.CrowdBase
import Derived.Conc.MuSpec
import Derived.Conc.QuitsD
import Derived.Conc.HoldsTime
import Derived.Conc.MarkLaws
import Derived.Conc.AtomicLaws2
import Derived.Conc.ClockLaws
import Derived.Conc.Beside
namespace Go.RL
open Go.Conc
section
variable {P:Program}{M:Md P}{md:Region.Mode}{ops:Array Oper}{S:Array Bool->View->Prop}{Fin:Array Value->View->Prop}
def bK(M:Md P)(ops:Array Oper)(o:Oper)(tmps:Array Value)(H:View)(K:Array Value->View->Prop):Prop:=
 BA o.op=false/\(if Region.wanted o (yielded ops tmps) then vE M o tmps H K else K (OB tmps o.dst undef) H)
def BH(M:Md P)(md:Region.Mode)(ops:Array Oper)(S:Array Bool->View->Prop)(Fin:Array Value->View->Prop):Nat->Array Bool->Array Value->View->Prop
 | 0,listed,tmps,H=> ∀H₂,H.le H₂->S listed H₂->Region.ready md ops listed= []/\Fin tmps H₂
 | fuel+1,listed,tmps,H=> ∀H₂,H.le H₂->S listed H₂-> 
  (Region.ready md ops listed= []->Fin tmps H₂)/\
  ∀i∈Region.ready md ops listed,∀o,ops[i]? =some o->bK M ops o tmps H₂ fun tmps' H'=> S (listed.setIfInBounds i true) H'/\BH M md ops S Fin fuel (listed.setIfInBounds i true) tmps' H'
theorem BH.mono {fuel:Nat}{listed:Array Bool}{tmps:Array Value}{H H':View}(h:BH M md ops S Fin fuel listed tmps H)(k:H.le H'):BH M md ops S Fin fuel listed tmps H':=by
 cases fuel with
 | zero=> exact fun H₂ h2 hS=> h H₂ (View.le_trans k h2) hS
 | succ fuel=> exact fun H₂ h2 hS=> h H₂ (View.le_trans k h2) hS
theorem bK.sound {St:View->Goroutine->Prop}{b:FB}{ds:List Deferred}{k:List Item}{cs:List Frame}{i:Nat}{rest:List Nat}{o:Oper}{tmps:Array Value}{H:View}(ho:ops[i]? =some o)
  (h:bK M ops o tmps H fun t H'=> T M St H' (G (b.at t ds (.inRegion ops rest::k)) cs)):T M St H (G (b.at tmps ds (.inRegion ops (i::rest)::k)) cs):=by
 obtain⟨hd,h⟩:=h;split at h
 ·rename_i hw
  exact h.sound ho hw hd
 ·rename_i hw
  exact .JJ ho (by simpa using hw) h
theorem bK.mono {o:Oper}{tmps:Array Value}{H:View}{K K':Array Value->View->Prop}(h:bK M ops o tmps H K)(hk:∀t H',K t H'->K' t H'):bK M ops o tmps H K':=by
 obtain⟨hd,h⟩:=h;refine⟨hd,?_⟩;split
 ·rename_i hw
  rw[if_pos hw] at h;exact h.mono hk
 ·rename_i hw
  rw[if_neg hw] at h;exact hk _ _ h
theorem BH.sound {St:View->Goroutine->Prop}{b:FB}{ds:List Deferred}{k:List Item}{cs:List Frame}:∀(fuel t:Nat) (listed:Array Bool) (tmps:Array Value) (H:View),S listed H-> 
  BH M md ops S (fun tmps H=> T M St H (G (b.at tmps ds k) cs)) fuel listed tmps H->T M St H (G (b.at tmps ds (.inRegion ops (Region.linearise.go md ops fuel t listed [])::k)) cs):=by
 intro fuel;induction fuel with
 | zero=>
  intro t listed tmps H hS h;simp only[Region.linearise.go];exact .NJ (h H (View.le_refl H) hS).2
 | succ fuel ih=>
  intro t listed tmps H hS h;have h:=h H (View.le_refl H) hS;have e:Region.linearise.go md ops (fuel+1) t listed []=match (Region.ready md ops listed)[t%(Region.ready md ops listed).length]? with
    | some i=> i::Region.linearise.go md ops fuel (t/(Region.ready md ops listed).length) (listed.setIfInBounds i true) []
    | none=> []:=by
   rw[Region.linearise.go];show(match (Region.ready md ops listed)[t%(Region.ready md ops listed).length]? with
    | some i=> Region.linearise.go md ops fuel (t/(Region.ready md ops listed).length) (listed.setIfInBounds i true) [i]
    | none=> List.reverse [])=_
   split
   ·rename_i i _
    rw[linearise_go_acc];rfl
   ·rfl
  rw[e];split
  ·rename_i i hi
   have JD:=List.mem_of_getElem? hi;obtain⟨_,o,ho,_⟩:=mem_ready.1 JD;exact bK.sound ho ((h.2 i JD o ho).mono fun t' H' hk=> ih _ _ _ _ hk.1 hk.2)
  ·rename_i hi
   have XH:Region.ready md ops listed= []:=by
    cases hr:Region.ready md ops listed with
    | nil=> rfl
    | cons a l=>
     rw[hr] at hi;have:t%(a::l).length<(a::l).length:=Nat.mod_lt _ (by simp);rw[List.getElem?_eq_getElem this] at hi;cases hi
   exact .NJ (h.1 XH)
def YC(M:Md P)(o:Oper)(tmps:Array Value)(H:View)(K:Value->View->Prop):Prop:=
 EA P (execOp (CB tmps) o) H fun nx H'=>
  match nx with
  | .value v=> K v H'
  | .skip=> K undef H'
  | .enter f args=> bA M f args H' K
  | .round l f tmps' assign body=> YL M (Frame.round l f tmps' assign body .normal) H' K
  | _=> False
theorem YC.run {o:Oper}{tmps:Array Value}{H:View}{K:Value->View->Prop}{K':Array Value->View->Prop}(h:YC M o tmps H K)(hk:∀v H',K v H'->K' (OB tmps o.dst v) H'):vE M o tmps H K':=
 SA _ (fun nx H' hn=> by
  cases nx <;> first|exact hn.elim|skip
  ·exact hk _ _ hn
  ·exact hk _ _ hn
  ·exact bA.mono hn hk
  ·exact YL.mono hn hk) h
def QB(md:Region.Mode)(ops:Array Oper)(listed:Array Bool):Bool:=
 ops.toList.zipIdx.all fun x=> !(listed.getD x.2 true)||x.1.after.all fun e=> !(Region.binds md e)||listed.getD e.on false
theorem QG {listed:Array Bool}(h:QB md ops listed=true){j:Nat}{o:Oper}(hj:ops[j]? =some o)(hl:listed.getD j true=true){e:Edge}(he:e∈o.after)(hb:Region.binds md e=true):listed.getD e.on false=true:=by
 unfold QB at h;rw[List.all_eq_true] at h;have hm:(o,j)∈ops.toList.zipIdx:=by
  rw[List.mem_zipIdx_iff_getElem?];simpa using hj
 have:=h _ hm;simp only[hl,Bool.not_true,Bool.false_or,Array.all_eq_true_iff_forall_mem] at this;have:=this e he;simpa [hb] using this
theorem gJ {listed:Array Bool}{i:Nat}(h:QB md ops listed=true)(hr:i∈Region.ready md ops listed):QB md ops (listed.setIfInBounds i true)=true:=by
 unfold QB;rw[List.all_eq_true];rintro⟨o,j⟩ hm;rw[List.mem_zipIdx_iff_getElem?] at hm;have hj:ops[j]? =some o:=by simpa using hm
 have hup:∀k,listed.getD k false=true->(listed.setIfInBounds i true).getD k false=true:=by
  intro k hk;by_cases e:i=k
  ·subst e;rcases Nat.lt_or_ge i listed.size with h'|h'
   ·simp[h']
   ·simp[Array.getElem?_eq_none h'] at hk
  ·simp only[Array.getD_eq_getD_getElem?,Array.getElem?_setIfInBounds_ne e] at hk ⊢;exact hk
 cases hl:(listed.setIfInBounds i true).getD j true with
 | false=> rfl
 | true=>
  simp only[Bool.not_true,Bool.false_or,Array.all_eq_true_iff_forall_mem];intro e he;cases hb:Region.binds md e with
  | false=> rfl
  | true=>
   simp only[Bool.not_true,Bool.false_or];refine hup _ ?_;by_cases kM:i=j
   ·subst kM;obtain⟨_,o',iP,OA⟩:=mem_ready.1 hr;rw[hj] at iP;cases iP
    exact OA e he hb
   ·rw[getD_set_ne true kM] at hl;exact QG h hj hl he hb
def UF(M:Md P)(md:Region.Mode)(ops:Array Oper)(S:Array Bool->View->Prop)(i:Nat)(o:Oper)(v:Value)(tmps:Array Value):Prop:=
 (Region.wanted o (yielded ops tmps)=true/\∀listed,QB md ops listed=true->listed.getD i true=false->∀H,S listed H->YC M o tmps H fun u H'=> u=v/\H.le H'/\S listed H')\/ 
 (Region.wanted o (yielded ops tmps)=false/\v=undef)
theorem BW(tmps:Array Value):CB tmps=(⟨tmps,[]⟩:Act).eval:=by funext x;cases x <;> rfl
theorem Z2(tmps:Array Value)(d:Option Tmp)(v:Value):OB tmps d v=((⟨tmps,[]⟩:Act).put d v).tmps:=by cases d <;> rfl
theorem JK(tmps:Array Value)(d:Option Tmp)(v:Value):(⟨OB tmps d v,[]⟩:Act)=(⟨tmps,[]⟩:Act).put d v:=by cases d <;> rfl
theorem OP(o:Oper)(hs:∀cs b,o.op≠ .select cs b)(tmps:Array Value)(dst:Option Tmp)(v:Value)(h:∀d,dst=some d->d ∉ o.looksAt ops):execOp (CB (OB tmps dst v)) o=execOp (CB tmps) o:=by
 rw[BW,BW,JK];exact execOp_put o hs _ dst v h
theorem FM(o:Oper)(tmps:Array Value)(dst:Option Tmp)(v:Value)(h:∀d,dst=some d->d ∉ o.looksAt ops):Region.wanted o (yielded ops (OB tmps dst v))=Region.wanted o (yielded ops tmps):=by
 rw[Z2];exact wanted_put o ⟨tmps,[]⟩ dst v h
theorem OI(tmps:Array Value){x y:Option Tmp}(v u:Value)(h:∀d,x=some d->y≠some d):OB (OB tmps x v) y u=OB (OB tmps y u) x v:=by
 have:=congrArg Act.tmps (Act.put_comm ⟨tmps,[]⟩ v u h);rw[<-JK,<-JK,<-JK,<-JK] at this;exact this
theorem UF.put {i:Nat}{o o':Oper}{v u:Value}{tmps:Array Value}(h:UF M md ops S i o v tmps)(hs:∀cs b,o.op≠ .select cs b)(ha:∀d,o'.dst=some d->d ∉ o.looksAt ops):UF M md ops S i o v (OB tmps o'.dst u):=by
 unfold UF YC at *;rw[OP o hs tmps o'.dst u ha,FM o tmps o'.dst u ha];exact h
theorem bK.back {oi oj:Oper}{v:Value}{tmps:Array Value}{H:View}{K:Array Value->View->Prop}(LS:oi.apart ops oj=true)(hsj:∀cs b,oj.op≠ .select cs b)(h:bK M ops oj (OB tmps oi.dst v) H K):
  bK M ops oj tmps H fun t H'=> (∃u,t=OB tmps oj.dst u)/\K (OB t oi.dst v) H':=by
 obtain⟨h1,h2,_⟩:=Oper.apart_spec LS;obtain⟨hd,h⟩:=h;refine⟨hd,?_⟩;rw[FM oj tmps oi.dst v h1] at h;split
 ·rename_i hw
  rw[if_pos hw] at h;unfold vE at *;rw[OP oj hsj tmps oi.dst v h1] at h;refine SA _ (fun nx H' hn=> ?_) h;cases nx <;> first
   | exact hn.elim
   | exact⟨⟨_,rfl⟩,by rw[<-OI tmps v _ h2];exact hn⟩
   | exact bA.mono hn fun u H'' hk=> ⟨⟨_,rfl⟩,by rw[<-OI tmps v _ h2];exact hk⟩
   | exact YL.mono hn fun u H'' hk=> ⟨⟨_,rfl⟩,by rw[<-OI tmps v _ h2];exact hk⟩
 ·rename_i hw
  rw[if_neg hw] at h;exact⟨⟨_,rfl⟩,by rw[<-OI tmps v _ h2];exact h⟩
theorem BH.first {i:Nat}{oi:Oper}{v:Value}(hi:ops[i]? =some oi)(ZE:∀(j:Nat) (o:Oper) cs b,ops[j]? =some o->o.op≠ .select cs b)(S6:BA oi.op=false)(lJ:∀listed H,S (listed.setIfInBounds i true) H<->S listed H):
  ∀ (fuel:Nat) (listed:Array Bool) (tmps:Array Value) (H:View),
   (∀j oj,ops[j]? =some oj->j≠i->listed.getD j true=false->(∀e∈oj.after,Region.binds md e=true->e.on≠i)->oi.apart ops oj=true)-> 
   QB md ops listed=true->i∈Region.ready md ops listed->UF M md ops S i oi v tmps-> 
   BH M md ops S Fin fuel (listed.setIfInBounds i true) (OB tmps oi.dst v) H->BH M md ops S Fin (fuel+1) listed tmps H:=by
 have own:∀(fuel:Nat) (listed:Array Bool) (tmps:Array Value) (H:View),QB md ops listed=true->i∈Region.ready md ops listed->UF M md ops S i oi v tmps->S listed H->BH M md ops S Fin fuel (listed.setIfInBounds i true) (OB tmps oi.dst v) H-> 
   bK M ops oi tmps H fun t H'=> S (listed.setIfInBounds i true) H'/\BH M md ops S Fin fuel (listed.setIfInBounds i true) t H':=by
  intro fuel listed tmps H iB cT hy hS h;refine⟨S6,?_⟩;rcases hy with ⟨hw,hv⟩|⟨hw,rfl⟩
  ·rw[if_pos hw];refine(hv listed iB (mem_ready.1 cT).1 H hS).run ?_;rintro u H' ⟨rfl,hle,kU⟩;exact⟨(lJ listed H').2 kU,h.mono hle⟩
  ·rw[if_neg (by simp[hw])];exact⟨(lJ listed H).2 hS,h⟩
 intro fuel;induction fuel with
 | zero=>
  intro listed tmps H _ iB hr hy h H₂ h2 hS;refine⟨fun e=> (by rw[e] at hr;cases hr),fun j hj o ho=> ?_⟩;by_cases kM:j=i
  ·subst kM;rw[hi] at ho;cases ho
   exact own 0 listed tmps H₂ iB hr hy hS (h.mono h2)
  ·have:=ready_mono hj kM;rw[(h H₂ h2 ((lJ listed H₂).2 hS)).1] at this;cases this
 | succ fuel ih=>
  intro listed tmps H RS iB hr hy h H₂ h2 hS;refine⟨fun e=> (by rw[e] at hr;cases hr),fun j hj oj WX=> ?_⟩;by_cases kM:j=i
  ·subst kM;rw[hi] at WX;cases WX
   exact own (fuel+1) listed tmps H₂ iB hr hy hS (h.mono h2)
  ·have h1:=(h H₂ h2 ((lJ listed H₂).2 hS)).2 j (ready_mono hj kM) oj WX;have aAk:=gJ iB hj;obtain⟨L0,oj',P0,OA⟩:=mem_ready.1 hj;rw[WX] at P0;cases P0
   have aAo:∀e∈oj.after,Region.binds md e=true->e.on≠i:=fun e he hb heq=> by
    have h1:=OA e he hb;have h0:=(mem_ready.1 hr).1;rw[heq] at h1;rcases Nat.lt_or_ge i listed.size with h'|h'
    ·simp[h'] at h0 h1;rw[h0] at h1;cases h1
    ·simp[Array.getElem?_eq_none h'] at h1
   have LS:=RS j oj WX kM L0 aAo;have VU:∀k ok,ops[k]? =some ok->k≠i->(listed.setIfInBounds j true).getD k true=false-> 
     (∀e∈ok.after,Region.binds md e=true->e.on≠i)->oi.apart ops ok=true:=fun k ok hk hki Y0 dC=> by
    refine RS k ok hk hki ?_ dC;by_cases hjk:j=k
    ·subst hjk;exact L0
    ·rw[getD_set_ne true hjk] at Y0;exact Y0
   refine(h1.back LS (fun cs b=> ZE j oj cs b WX)).mono ?_;rintro t H' ⟨⟨u,rfl⟩,kU,h3⟩;rw[Array.setIfInBounds_comm _ _ (Ne.symm kM)] at kU;refine⟨(lJ _ H').1 kU,ih (listed.setIfInBounds j true) _ H' VU aAk (ready_mono hr (Ne.symm kM)) (hy.put (fun cs b=> ZE i oi cs b hi) (Oper.apart_spec LS).2.2) ?_⟩;rw[Array.setIfInBounds_comm _ _ kM];exact h3
end
section
variable {P:Program}{M:Md P}{St:View->Goroutine->Prop}{n:Nat}{b:FB}{H₀:View}{cs:List Frame}{R:Rg}{L L':Bl}{ds:List Deferred}{k:List Item}{S:Array Bool->View->Prop}{md:Region.Mode}{ops:Array Oper}
def Ta(M:Md P)(St:View->Goroutine->Prop)(n:Nat)(b:FB)(H₀:View)(cs:List Frame)(S:Array Bool->View->Prop)(md:Region.Mode)(ops:Array Oper)(fuel:Nat)(listed:Array Bool)(R:Rg)(L:Bl)(ds:List Deferred)(k:List Item):Prop:=
 ∀H tmps,iA H₀ L H->RA n R tmps->S listed H->BH M md ops S (fun tmps H=> T M St H (G (b.at tmps ds k) cs)) fuel listed tmps H
theorem Ta.done {fuel:Nat}{listed:Array Bool}(hr:Region.ready md ops listed= [])(h:Tc M St n b H₀ cs R L ds k):Ta M St n b H₀ cs S md ops fuel listed R L ds k:=fun H tmps hs rE _=> by
 cases fuel with
 | zero=> exact fun H₂ h2 _=> ⟨hr,h H₂ tmps (hs.mono h2) rE⟩
 | succ f=> exact fun H₂ h2 _=> ⟨fun _=> h H₂ tmps (hs.mono h2) rE,fun i hi=> by rw[hr] at hi;cases hi⟩
theorem Ta.take(i:Nat){o:Oper}{d:Nat}{v:Value}{fuel:Nat}{listed:Array Bool}(hi:ops[i]? =some o)(ZE:Region.noSelect ops=true)(hr:(Region.ready md ops listed).contains i=true)(hf:Region.free md ops listed i=true)
  (hd:o.dst=some d) (hn:d<n) (uE:BA o.op=false) (iB:QB md ops listed=true) (lJ:∀listed H,S (listed.setIfInBounds i true) H<->S listed H) (hw:KA (ops.toList.map (fun o:Oper=> o.dst)) R o=some true)
  (hv:∀listed,QB md ops listed=true->listed.getD i true=false->∀H tmps,S listed H->RA n R tmps->YC M o tmps H fun u H'=> u=v/\H.le H'/\S listed H')
  (h:Ta M St n b H₀ cs S md ops fuel (listed.setIfInBounds i true) ((d,v)::R) L ds k):Ta M St n b H₀ cs S md ops (fuel+1) listed R L ds k:=fun H tmps hs rE hS=> by
 refine BH.first hi (Region.noSelect_spec ZE) uE lJ fuel listed tmps H (fun j oj hj nB Y0 dC=> Region.free_spec hi hf j oj hj nB Y0 dC) iB (by simpa using hr) (.inl ⟨wB (fun j=> ?_) rE hw,fun l iB hu H hSH=> hv l iB hu H tmps hSH rE⟩) ?_
 ·simp only[List.getElem?_map,Array.getElem?_toList];cases ops[j]? <;> rfl
 ·rw[hd];exact h H _ hs (rE.put hn v) ((lJ _ H).2 hS)
theorem Ta.pass(i:Nat){o:Oper}{d:Nat}{fuel:Nat}{listed:Array Bool}(hi:ops[i]? =some o)(ZE:Region.noSelect ops=true)(hr:(Region.ready md ops listed).contains i=true)(hf:Region.free md ops listed i=true)
  (hd:o.dst=some d) (hn:d<n) (uE:BA o.op=false) (iB:QB md ops listed=true) (lJ:∀listed H,S (listed.setIfInBounds i true) H<->S listed H) (hw:KA (ops.toList.map (fun o:Oper=> o.dst)) R o=some false)
  (h:Ta M St n b H₀ cs S md ops fuel (listed.setIfInBounds i true) ((d,undef)::R) L ds k):Ta M St n b H₀ cs S md ops (fuel+1) listed R L ds k:=fun H tmps hs rE hS=> by
 refine BH.first hi (Region.noSelect_spec ZE) uE lJ fuel listed tmps H (fun j oj hj nB Y0 dC=> Region.free_spec hi hf j oj hj nB Y0 dC) iB (by simpa using hr) (.inr ⟨wB (fun j=> ?_) rE hw,rfl⟩) ?_
 ·simp only[List.getElem?_map,Array.getElem?_toList];cases ops[j]? <;> rfl
 ·rw[hd];exact h H _ hs (rE.put hn undef) ((lJ _ H).2 hS)
def kS(M:Md P)(St:View->Goroutine->Prop)(n:Nat)(b:FB)(H₀:View)(cs:List Frame)(S:Array Bool->View->Prop)(md:Region.Mode)(ops:Array Oper)(fuel:Nat)(listed:Array Bool)(R:Rg)(L:Bl)(ds:List Deferred)(k:List Item)(i:Nat):Prop:=
 ∃ o,ops[i]? =some o/\BA o.op=false/\KA (ops.toList.map (fun o:Oper=> o.dst)) R o=some true/\
  Or M n H₀ R L o fun R' L'=> (∀H,iA H₀ L' H->S (listed.setIfInBounds i true) H)/\Ta M St n b H₀ cs S md ops fuel (listed.setIfInBounds i true) R' L' ds k
theorem kS.mk {fuel:Nat}{listed:Array Bool}{i:Nat}{o:Oper}(ho:ops[i]? =some o)(hd:BA o.op=false)(hw:KA (ops.toList.map (fun o:Oper=> o.dst)) R o=some true)
 (h:Or M n H₀ R L o fun R' L'=> (∀H,iA H₀ L' H->S (listed.setIfInBounds i true) H)/\Ta M St n b H₀ cs S md ops fuel (listed.setIfInBounds i true) R' L' ds k):kS M St n b H₀ cs S md ops fuel listed R L ds k i:=⟨o,ho,hd,hw,h⟩
theorem Ta.all {fuel:Nat}{listed:Array Bool}{rs:List Nat}(hr:Region.ready md ops listed=rs)(nB:rs.isEmpty=false)(h:∀i∈rs,kS M St n b H₀ cs S md ops fuel listed R L ds k i):
  Ta M St n b H₀ cs S md ops (fuel+1) listed R L ds k:=fun H tmps hs rE _ H₂ h2 hS=> by
 have hs:=hs.mono h2;refine⟨fun e=> ?_,fun i hi o ho=> ?_⟩
 ·rw[hr] at e;rw[e] at nB;cases nB
 ·rw[hr] at hi;obtain⟨o',iP,hd,hw,h'⟩:=h i hi;rw[ho] at iP;cases iP
  refine⟨hd,?_⟩;have WW:Region.wanted o (yielded ops tmps)=true:=wB (fun j=> by
   simp only[List.getElem?_map,Array.getElem?_toList];cases ops[j]? <;> rfl) rE hw
  rw[if_pos WW];refine(h' H₂ tmps hs rE).mono ?_;rintro t H' ⟨R',L',h1,h2,h3,h4⟩;exact⟨h3 H' h2,h4 H' t h2 h1 (h3 H' h2)⟩
def S2(H₀:View)(B:List Nat)(Ls L:Bl):Array Bool->View->Prop:=fun listed H=>
 iA H₀ Ls H/\((B.all fun j=> !(listed.getD j true))=true->iA H₀ L H)
theorem S2.same {B:List Nat}{Ls:Bl}{i:Nat}(hi:B.contains i=false):∀listed H,S2 H₀ B Ls L (listed.setIfInBounds i true) H<->S2 H₀ B Ls L listed H:=fun listed H=> by
 have:(B.all fun j=> !((listed.setIfInBounds i true).getD j true))=B.all fun j=> !(listed.getD j true):=by
  rw[Bool.eq_iff_iff,List.all_eq_true,List.all_eq_true];refine forall_congr' fun j=> forall_congr' fun hj=> ?_;have nB:i≠j:=by
   rintro rfl;have:B.contains i=true:=by simpa using hj
   rw[hi] at this;cases this
  rw[getD_set_ne true nB]
 unfold S2;rw[this]
def waits(md:Region.Mode)(ops:Array Oper)(i j:Nat):Bool:=
 match ops[j]? with
 | some o=> o.after.any fun e=> Region.binds md e&&e.on==i
 | none=> false
theorem S2.aB1 {B:List Nat}{Ls:Bl}{i:Nat}{listed:Array Bool}{H:View}(h:S2 H₀ B Ls L listed H)(hc:QB md ops listed=true)(hu:listed.getD i true=false)(hB:(B.all fun j=> waits md ops i j)=true):iA H₀ L H:=by
 refine h.2 ?_;rw[List.all_eq_true] at hB ⊢;intro j hj;have:=hB j hj;unfold waits at this;cases hl:listed.getD j true with
 | false=> rfl
 | true=>
  split at this
  ·rename_i o ho
   rw[Array.any_eq_true'] at this;obtain⟨e,he,hb⟩:=this;simp only[Bool.and_eq_true,beq_iff_eq] at hb;have h1:=QG hc ho hl he hb.1;rw[hb.2] at h1;rcases Nat.lt_or_ge i listed.size with h'|h'
   ·simp[h'] at h1 hu
    rw[hu] at h1;cases h1
   ·simp[Array.getElem?_eq_none h'] at hu
  ·cases this
def lD(md:Region.Mode)(ops:Array Oper)(B:List Nat)(listed:Array Bool)(i:Nat):Bool:=
 Region.noSelect ops&&(Region.ready md ops listed).contains i&&Region.free md ops listed i&&QB md ops listed && !(B.contains i)&&B.all fun j=> waits md ops i j
theorem Ta.tk {H₁:View}(i:Nat){B:List Nat}{Ls L₁:Bl}{o:Oper}{d:Nat}{v:Value}{fuel:Nat}{listed:Array Bool}(hc:lD md ops B listed i=true)(hi:ops[i]? =some o)(hd:o.dst=some d)(hn:d<n)(uE:BA o.op=false)(hw:KA (ops.toList.map (fun o:Oper=> o.dst)) R o=some true)
  (hv:∀H tmps,iA H₀ L H->RA n R tmps->YC M o tmps H fun u H'=> u=v/\H.le H')
  (h:Ta M St n b H₁ cs (S2 H₀ B Ls L) md ops fuel (listed.setIfInBounds i true) ((d,v)::R) L₁ ds k):Ta M St n b H₁ cs (S2 H₀ B Ls L) md ops (fuel+1) listed R L₁ ds k:=by
 simp only[lD,Bool.and_eq_true,Bool.not_eq_true'] at hc;obtain⟨⟨⟨⟨⟨ZE,hr⟩,hf⟩,iB⟩,lJ⟩,hB⟩:=hc;exact .take i hi ZE hr hf hd hn uE iB (S2.same lJ) hw (fun _ hc hu H tmps hS hr=> by
  have:=hv H tmps (hS.aB1 hc hu hB) hr;unfold YC at this ⊢;have fin:∀u H',(u=v/\H.le H')->u=v/\H.le H'/\S2 H₀ B Ls L _ H':=fun u H' ⟨h1,h2⟩=> ⟨h1,h2,hS.1.mono h2,fun hh=> (hS.2 hh).mono h2⟩
  refine SA _ (fun nx H' hn=> ?_) this;cases nx <;> first
   | exact hn.elim
   | exact fin _ _ hn
   | exact bA.mono hn fin
   | exact YL.mono hn fin) h
theorem Ta.tkw {H₁:View}(i:Nat){B:List Nat}{Ls L₁:Bl}{o:Oper}{d:Nat}{v:Value}{fuel:Nat}{listed:Array Bool}(hc:lD md ops [] listed i=true)(lJ:B.contains i=false)(hi:ops[i]? =some o)(hd:o.dst=some d)(hn:d<n)(uE:BA o.op=false)(hw:KA (ops.toList.map (fun o:Oper=> o.dst)) R o=some true)
  (hv:∀H tmps,iA H₀ Ls H->RA n R tmps->YC M o tmps H fun u H'=> u=v/\H.le H')
  (h:Ta M St n b H₁ cs (S2 H₀ B Ls L) md ops fuel (listed.setIfInBounds i true) ((d,v)::R) L₁ ds k):Ta M St n b H₁ cs (S2 H₀ B Ls L) md ops (fuel+1) listed R L₁ ds k:=by
 simp only[lD,Bool.and_eq_true,Bool.not_eq_true'] at hc;obtain⟨⟨⟨⟨⟨ZE,hr⟩,hf⟩,iB⟩,_⟩,_⟩:=hc;exact .take i hi ZE hr hf hd hn uE iB (S2.same lJ) hw (fun _ _ _ H tmps hS hr=> by
  have:=hv H tmps hS.1 hr;unfold YC at this ⊢;have fin:∀u H',(u=v/\H.le H')->u=v/\H.le H'/\S2 H₀ B Ls L _ H':=fun u H' ⟨h1,h2⟩=> ⟨h1,h2,hS.1.mono h2,fun hh=> (hS.2 hh).mono h2⟩
  refine SA _ (fun nx H' hn=> ?_) this;cases nx <;> first
   | exact hn.elim
   | exact fin _ _ hn
   | exact bA.mono hn fin
   | exact YL.mono hn fin) h
theorem Ta.ps {H₁:View}(i:Nat){B:List Nat}{Ls L₁:Bl}{o:Oper}{d:Nat}{fuel:Nat}{listed:Array Bool}(hc:lD md ops [] listed i=true)(lJ:B.contains i=false)(hi:ops[i]? =some o)(hd:o.dst=some d)(hn:d<n)(uE:BA o.op=false)(hw:KA (ops.toList.map (fun o:Oper=> o.dst)) R o=some false)
  (h:Ta M St n b H₁ cs (S2 H₀ B Ls L) md ops fuel (listed.setIfInBounds i true) ((d,undef)::R) L₁ ds k):Ta M St n b H₁ cs (S2 H₀ B Ls L) md ops (fuel+1) listed R L₁ ds k:=by
 simp only[lD,Bool.and_eq_true,Bool.not_eq_true'] at hc;obtain⟨⟨⟨⟨⟨ZE,hr⟩,hf⟩,iB⟩,_⟩,_⟩:=hc;exact .pass i hi ZE hr hf hd hn uE iB (S2.same lJ) hw h
def w5(p:Nat->Prop):List Nat->Prop
 | []=> True
 | x::xs=> p x/\w5 p xs
theorem w5.mem {p:Nat->Prop}:∀ {l:List Nat},w5 p l->∀i∈l,p i
 | [],_,i,hi=> by cases hi
 | x::xs,⟨h1,h2⟩,i,hi=> by
  rcases List.mem_cons.1 hi with rfl|hi
  ·exact h1
  ·exact h2.mem i hi
theorem Ta.each(rs:List Nat){fuel:Nat}{listed:Array Bool}(hr:Region.ready md ops listed=rs)(nB:rs.isEmpty=false)(h:w5 (kS M St n b H₀ cs S md ops fuel listed R L ds k) rs):
 Ta M St n b H₀ cs S md ops (fuel+1) listed R L ds k:=.all hr nB h.mem
theorem S2.mk {B:List Nat}{Ls L₁:Bl}{listed:Array Bool}(h1:Ls.Sublist L₁)(h2:(B.all fun j=> !(listed.getD j true))=false\/L.Sublist L₁):∀H,iA H₀ L₁ H->S2 H₀ B Ls L listed H:=fun _ hs=>
 ⟨hs.less h1,fun h=> h2.elim (fun e=> by rw[e] at h;cases h) fun e=> hs.less e⟩
def QH(L:Bl):List Nat->Bl
 | []=> L
 | i::is=> (QH L is).eraseIdx i
theorem xE:∀(E:List Nat) (L:Bl),(QH L E).Sublist L
 | [],_=> List.Sublist.refl _
 | i::is,L=> ((QH L is).eraseIdx_sublist i).trans (xE is L)
theorem Tc.dr {id:Nat}{fuel:Nat}(B E:List Nat)(hm:P.follows .mixedOrders=true)(hf:ops.size=fuel)(h:Ta M St n b H₀ cs (S2 H₀ B (QH L E) L) .any ops fuel (Array.replicate fuel false) R L ds k):
  Tc M St n b H₀ cs R L ds (.code (.region id ops true)::k):=fun H tmps hs hr=> by
 subst hf;refine .TE fun t=> ?_;simp only[Region.schedule,hm,Bool.true_or,if_true];have hS:=S2.mk (H₀:=H₀) (B:=B) (listed:=Array.replicate ops.size false) (xE E L) (.inr (List.Sublist.refl L)) H hs;exact(h H tmps hs hr hS).sound _ t _ _ _ hS
theorem Tc.aCy {todo:List Item}{R':Rg}(hR:jC R' R)(h:Tc M St n b H₀ cs R' L ds todo):Tc M St n b H₀ cs R L ds todo:=
 fun H tmps hs hr=> h H tmps hs ⟨hr.1,fun d v hv=> hr.2 d v (hR.sub d v hv)⟩
theorem Tc.ZC {todo:List Item}{R':Rg}(h:Tc M St n b H₀ cs R' L' ds todo)(hR:jC R' R)(hL:L'.Sublist L):Tc M St n b H₀ cs R L ds todo:=
 fun H tmps hs hr=> h H tmps (hs.less hL) ⟨hr.1,fun d v hv=> hr.2 d v (hR.sub d v hv)⟩
theorem Or.ofT {K:Rg->Bl->Prop}{o:Oper}{d:Nat}{v:Value}(hv:∀H tmps,iA H₀ L H->RA n R tmps->YC M o tmps H fun u H'=> u=v/\H.le H')(hd:o.dst=some d)(hn:d<n)(hk:K ((d,v)::R) L):Or M n H₀ R L o K:=fun H tmps hs hr=>
 (hv H tmps hs hr).run (by
  rintro u H' ⟨rfl,hle⟩;refine⟨_,L,?_,hs.mono hle,hk⟩;rw[hd];exact hr.put hn _)
theorem pA.take {o:Oper}{v:Value}(h:pA P n H₀ R L o v):∀H tmps,iA H₀ L H->RA n R tmps->YC M o tmps H fun u H'=> u=v/\H.le H':=fun H tmps hs hr=>
 SA _ (by
  rintro nx H' ⟨rfl,rfl⟩;exact⟨rfl,View.le_refl _⟩) (h H tmps hs hr)
theorem pA.YK {o:Oper}{v:Value}{cl:Go.Call}{x:Operand}{fv:Value}{az:List Value}(kA:o.op=.call cl)(iB:cl.callee=.value x)(hx:HA R x=some fv)(has:VC R cl.args.toList=some az)
  (hc:∀H,iA H₀ L H->yB M fv az H fun u H'=> H.le H'/\u=v):∀H tmps,iA H₀ L H->RA n R tmps->YC M o tmps H fun u H'=> u=v/\H.le H':=fun H tmps hs hr=> by
 have e1:=hr.ev hx;have XG:cl.args.map (CB tmps)=az.toArray:=by
  apply Array.ext'
  simpa using hr.evs has
 have hex:execOp (CB tmps) o=(Deferred.ofValue fv az.toArray).bind fun d=> invoke d.target d.args:=by
  have h1:execOp (CB tmps) o=(resolve (CB tmps) cl o.type).bind fun d=> invoke d.target d.args:=by unfold execOp;rw[kA];rfl
  rw[h1];unfold resolve;rw[iB];simp only[e1,XG]
 unfold YC;rw[hex];have fin:∀u H',(H.le H'/\u=v)->u=v/\H.le H':=fun u H' ⟨h1,h2⟩=> ⟨h2,h1⟩
 refine SA _ (fun nx H' hn=> ?_) (hc H hs);cases nx <;> first
  | exact hn.elim
  | exact bA.mono hn fin
  | exact YL.mono hn fin
end
theorem HK {H F:View}{b:Nat}{x:Bool×Obj}:(H.put b x).plus F=(H.plus F).put b x:=by
 funext c
 unfold View.plus View.put;split
 ·rename_i y hy
  split at hy
  ·rename_i e
   rw[if_pos e];exact hy.symm
  ·rename_i e
   rw[if_neg e];exact(PA hy).symm
 ·rename_i hy
  split at hy
  ·cases hy
  ·rename_i e
   rw[if_neg e];exact(vB hy).symm
theorem Dj.put {H F:View}{b:Nat}{x:Bool×Obj}(h:Dj H F)(hb:F b=none):Dj (H.put b x) F:=by
 intro c y hc;rw[View.GA]
 ·exact h c y hc
 ·intro e;rw[e,hb] at hc;cases hc
theorem Dj.none {H F:View}{b:Nat}{x:Bool×Obj}(h:Dj H F)(hb:H b=some x):F b=none:=by
 cases hf:F b with
 | none=> rfl
 | some y=> rw[h b y hf] at hb;cases hb
theorem JL {H F:View}{b:Nat}(h:H.plus F b=none):H b=none/\F b=none:=by
 unfold View.plus at h;split at h
 ·cases h
 ·exact⟨by assumption,h⟩
theorem CY {α:Type}{P:Program}(s:Sem α){Q:α->View->Prop}{F:View}:∀ {H:View},Dj H F->EA P s H Q->EA P s (H.plus F) fun a H''=> ∃H',H''=H'.plus F/\Dj H' F/\Q a H':=by
 induction s with
 | pure a=> exact fun hd h=> ⟨_,rfl,hd,h⟩
 | load m a c ih=> exact fun hd ⟨h1,h2,f,x,e,fz,v,h3,h4,h5⟩=> ⟨h1,h2,f,x,e,fz,v,PA h3,h4,ih v hd h5⟩
 | store m a v c ih=>
  intro H hd ⟨h1,h2,h3,h4,x,e,fz,h5,h6,h7,h8⟩;refine⟨h1,h2,h3,h4,x,e,fz,PA h5,h6,h7,?_⟩;rw[<-HK];exact ih (hd.put (hd.none h5)) h8
 | new o c ih=>
  intro H hd h b hb;obtain⟨h1,h2⟩:=JL hb;rw[<-HK];exact ih b (hd.put h2) (h b h1)
 | shape r c ih=> exact fun hd ⟨f,x,e,fz,h1,h2⟩=> ⟨f,x,e,fz,PA h1,ih _ hd h2⟩
 | freeze a n c ih=>
  intro H hd ⟨h1,x,e,fz,h2,h3⟩;refine⟨h1,x,e,fz,PA h2,?_⟩;rw[<-HK];exact ih (hd.put (hd.none h2)) h3
 | frozen a c ih=> exact fun hd ⟨f,x,e,fz,h1,h2⟩=> ⟨f,x,e,fz,PA h1,ih _ hd h2⟩
 | getObj r c ih=> exact fun hd ⟨f,o,h1,h2,h3,h4⟩=> ⟨f,o,PA h1,h2,h3,ih _ hd h4⟩
 | setObj r o c ih=>
  intro H hd ⟨⟨o₀,h1,h2⟩,h3,h4⟩;refine⟨⟨o₀,PA h1,h2⟩,h3,?_⟩;rw[<-HK];exact ih (hd.put (hd.none h1)) h4
 | choose q c ih=> exact fun hd h t=> ih _ hd (h t)
 | sys c k ih=> exact fun _ h=> h.elim
 | program c ih=> exact fun hd h=> ih _ hd h
 | mark m c ih=> exact fun hd ⟨h1,h2⟩=> ⟨h1,ih hd h2⟩
 | halt h=> exact fun _ h=> h.elim
section
variable {P:Program}{E:Env P}{M:Md P}{St:View->Goroutine->Prop}{n:Nat}{b:FB}{H₀:View}{cs:List Frame}{R R':Rg}{L L':Bl}{ds:List Deferred}{k:List Item}{K:Rg->Bl->Prop}{o:Oper}{d:Nat}{v:Value}
def vJ(F:View)(Q:Value->View->Prop):Value->View->Prop:=fun v H''=> ∃H',H''=H'.plus F/\Dj H' F/\Q v H'
theorem YL.frame {fr:Frame}{H F:View}{Q:Value->View->Prop}(h:YL M fr H Q)(hd:Dj H F):YL M fr (H.plus F) (vJ F Q):=fun St c cs hk=> by
 have h1:=h (fun H' g'=> ∃v,Q v H'/\g'=G (c.finish v) cs) c cs fun v H' hq=> .stop ⟨v,hq,rfl⟩;refine(h1.frame F hd).bind ?_;rintro H'' g' ⟨H',rfl,UO,v,hq,rfl⟩;exact hk v _ ⟨H',rfl,UO,hq⟩
theorem yB.frame {fv:Value}{az:List Value}{H F:View}{Q:Value->View->Prop}(h:yB M fv az H Q)(hd:Dj H F):yB M fv az (H.plus F) (vJ F Q):=by
 refine SA _ ?_ (CY _ hd h);rintro nx H'' ⟨H',rfl,UO,hn⟩;cases nx <;> first
  | exact hn.elim
  | exact YL.frame hn UO
theorem iA.split {H:View}(hs:iA H₀ L H):∃F,H=H₀.plus F/\Dj H₀ F/\∀x∈L,F x.1=some x.2:=by
 refine⟨fun c=> match H₀ c with|some _=> none|none=> H c,?_,fun c x hc=> ?_,fun x hx=> ?_⟩
 ·funext c
  unfold View.plus;cases h0:H₀ c with
  | some y=> exact hs.base c y h0
  | none=> simp only[h0]
 ·cases h0:H₀ c with
  | some y=> simp only[h0] at hc;cases hc
  | none=> rfl
 ·simp only[hs.out x hx];exact hs.at_ x hx
theorem iA.mR {H₁ F:View}(hn:(L.map (·.1)).Nodup)(hF:∀x∈L,F x.1=some x.2)(hd:Dj H₁ F):iA H₁ L (H₁.plus F):=
 ⟨hn,fun x hx=> hd _ _ (hF x hx),fun x hx=> by rw[vB (hd _ _ (hF x hx))];exact hF x hx,fun _ _ h=> PA h⟩
theorem To.uB {dl:List (Option Tmp)}{l:List Oper}{cl:Go.Call}{x:Operand}{fv:Value}{az:List Value}(hw:KA dl R o=some true)(kA:o.op=.call cl)(iB:cl.callee=.value x)(hx:HA R x=some fv)(has:VC R cl.args.toList=some az)(hd:o.dst=some d)(hn:d<n)
  {Q:Value->View->Prop} (hc:yB M fv az H₀ Q) (hk:∀v H₁,Q v H₁->To M St n b H₁ cs dl ((d,v)::R) L ds l k):To M St n b H₀ cs dl R L ds (o::l) k:=fun arr ix ha XW=> by
 cases ix with
 | nil=> simp at XW
 | cons i r=>
  simp only[List.map_cons,List.cons.injEq] at XW;intro H tmps hs hr;refine vE.sound XW.1 (wB ha hr hw) (by rw[kA];rfl) ?_;obtain⟨F,rfl,S4,hF⟩:=hs.split;have e1:=hr.ev hx;have XG:cl.args.map (CB tmps)=az.toArray:=by
   apply Array.ext'
   simpa using hr.evs has
  have hex:execOp (CB tmps) o=(Deferred.ofValue fv az.toArray).bind fun d=> invoke d.target d.args:=by
   have h1:execOp (CB tmps) o=(resolve (CB tmps) cl o.type).bind fun d=> invoke d.target d.args:=by unfold execOp;rw[kA];rfl
   rw[h1];unfold resolve;rw[iB];simp only[e1,XG]
  unfold vE;rw[hex];have fin:∀v H'',vJ F Q v H''->T M St H'' (G (b.at (OB tmps o.dst v) ds (.inRegion arr r::k)) cs):=by
   rintro v H'' ⟨H₁,rfl,UO,hq⟩;rw[hd];exact hk v H₁ hq arr r ha XW.2 _ _ (.mR hs.nodup hF UO) (hr.put hn v)
  refine SA _ (fun nx H' dN=> ?_) (hc.frame S4);cases nx <;> first
   | exact dN.elim
   | exact bA.mono dN fin
   | exact YL.mono dN fin
def L7(R:Rg):List Nat->List Value->Rg
 | t::ts,a::az=> L7 ((t,a)::R) ts az
 | _,_=> R
theorem RA.aDc:∀ {ts:List Nat} {az:List Value} {R:Rg} {tmps:Array Value},RA n R tmps->(ts.all fun t=> Nat.blt t n)=true->ts.length=az.length->RA n (L7 R ts az) ((ts.zip az).foldl (fun tmps (x:Nat×Value)=> tmps.setIfInBounds x.1 x.2) tmps)
 | [],[],_,_,h,_,_=> h
 | t::ts,a::az,R,tmps,h,hb,hl=> by
  simp only[List.all_cons,Bool.and_eq_true] at hb;have xB:t<n:=by have:=hb.1;rw[Nat.blt_eq] at this;exact this
  exact RA.aDc (ts:=ts) (az:=az) (h.put xB a) hb.2 (by simpa using hl)
 | [],_::_,_,_,_,_,h=> by cases h
 | _::_,[],_,_,_,_,h=> by cases h
theorem yB.round {l i:Nat}{lp:Loop}{H:View}{az:List Value}{ts:List Nat}{Q:Value->View->Prop}(hs:iA H₀ L H)(hl:L[i]? =some (l,true,.loop lp))(m5:lp.params=ts.toArray)(hb:(ts.all fun t=> Nat.blt t n)=true)(hlen:ts.length=az.length)(hr:RA n R lp.tmps)
  (h:∀St c cs,(∀v H',Q v H'->T M St H' (G (c.finish v) cs))->Tc M St n ⟨lp.fn,.normal,some l⟩ H₀ (c::cs) (L7 R ts az) L [] [.code lp.assign,.beginRound,.code lp.body]):yB M (.func (.yield l) #[] #[]) az H Q:=by
 unfold yB;simp only[Deferred.ofValue];show EA P (Instr.yield l (#[]++az.toArray)) H _;refine⟨true,_,hs.get hl,by simp,rfl,?_⟩;show EA P (if(#[]++az.toArray).size≠lp.params.size then _ else _) H _;rw[if_neg (by rw[m5];simp[hlen])];intro St c cs hK;have e:(lp.params.zip (#[]++az.toArray)).foldl (fun tmps (x:Nat×Value)=> tmps.setIfInBounds x.1 x.2) lp.tmps=(ts.zip az).foldl (fun tmps (x:Nat×Value)=> tmps.setIfInBounds x.1 x.2) lp.tmps:=by
  rw[m5];simp
 have:=h St c cs hK H _ hs (hr.aDc hb hlen);rw[<-e] at this;exact this
theorem T.beginRound {H:View}{l:Nat}{tmps:Array Value}(hb:b.rd=some l)(h:EA P ((Instr.beginRound l).bind fun _=> .pure Next.skip) H fun nx H'=> nx=.skip/\T M St H' (G (b.at tmps ds k) cs)):T M St H (G (b.at tmps ds (.beginRound::k)) cs):=by
 refine .step ⟨rfl,fun w hs _=> ?_⟩;obtain⟨nx,H',w',es,h1,h2,rfl,h3⟩:=SC _ #[] hs h;rw[Array.empty_append] at h1;generalize YI:seen P (b.at tmps ds (.beginRound::k)).fn (if(b.at tmps ds (.beginRound::k)).kind==.early then #[] else es)=es';have BK:∀e∈es',e∈es:=fun e he=> by
  rw[<-YI] at he;have:=mem_seen he;split at this
  ·simp at this
  ·exact this
 have e:stepG P M.main (G (b.at tmps ds (.beginRound::k)) cs) w=stepG.apply P true (b.at tmps ds (.beginRound::k)) cs none ((Instr.beginRound l).bind fun _=> .pure Next.skip) w:=by
  simp[G,stepG,stepG.exec,FB.at,hb]
  rfl
 refine⟨_,w',es',H',(e.trans (b:=stepG.apply P true (b.at tmps ds (.beginRound::k)) cs none ((Instr.beginRound l).bind fun _=> .pure Next.skip) w) (c:=GStep.after es' (.go (G (b.at tmps ds k) cs) w')) ?_).trans (by simp[GStep.after]),h2.sub BK,h3⟩;rw[<-YI];unfold stepG.apply;rw[if_pos rfl,h1];rfl
theorem T.WA {H:View}{l:Nat}{tmps:Array Value}{todo:List Item}{jump:Option Code}{c:Frame}(hb:b.rd=some l)(hk:b.kind=.normal)
  (ht:(todo= []/\jump=none)\/(∃k,todo=.code .ret::k/\jump=some .ret)\/∃id k,todo=.code (.exit id)::k/\exitTo id k=none/\jump=some (.exit id))
  (h:EA P (Instr.endRound l jump) H fun v H'=> T M St H' (G (c.finish v) cs)):T M St H (G (b.at tmps [] todo) (c::cs)):=by
 refine .step ⟨rfl,fun w hs _=> ?_⟩;obtain⟨v,H',w',es,h1,h2,h3⟩:=SC _ #[] hs h;rw[Array.empty_append] at h1;have hp:Sem.run P (Instr.endRound l jump) w=.ok v w'/\Sem.events P (Instr.endRound l jump) w #[]=es:=by simpa using h1
 refine⟨G (c.finish v) cs,w',seen P b.fn es,H',?_,h2.sub fun e he=> mem_seen he,h3⟩;rcases ht with ⟨rfl,rfl⟩|⟨k,rfl,rfl⟩|⟨id,k,rfl,he,rfl⟩
 ·simp[G,stepG,stepG.exec,FB.at,hb,hp.1,hp.2,doReturn,hk,GStep.after]
 ·simp[G,stepG,stepG.exec,FB.at,hb,hp.1,hp.2,doReturn,hk,GStep.after]
 ·simp[G,stepG,stepG.exec,FB.at,hb,hp.1,hp.2,doReturn,hk,GStep.after,he]
theorem Tc.beginRound {i l:Nat}{lp:Loop}(hb:b.rd=some l)(hi:L[i]? =some (l,true,.loop lp))(LB:lp.state=.ready)(h:Tc M St n b H₀ cs R (L.set i (l,true,.loop { lp with state:=.busy })) ds k):Tc M St n b H₀ cs R L ds (.beginRound::k):=fun H tmps hs hr=>
 .beginRound hb (by
  have hl:=hs.get hi;refine aA (Instr.beginRound l) _ ?_;refine⟨true,_,hl,by simp,rfl,?_⟩;refine⟨⟨_,hl,by simp⟩,rfl,?_⟩;show EA P (match lp.state with
   | .ready=> _
   | .done=> _
   | .busy=> _
   | .exhausted=> _) _ _
  rw[LB];exact⟨rfl,h _ tmps (hs.set hi _) hr⟩)
theorem Tc.WA {i l:Nat}{lp:Loop}{c:Frame}{Q:Value->View->Prop}{f:FuncId}{todo:List Item}{jump:Option Code}(hK:∀v H',Q v H'->T M St H' (G (c.finish v) cs))(hi:L[i]? =some (l,true,.loop lp))
  (ht:(todo= []/\jump=none)\/(∃k,todo=.code .ret::k/\jump=some .ret)\/∃id k,todo=.code (.exit id)::k/\exitTo id k=none/\jump=some (.exit id))
  (h:∀H',iA H₀ (L.set i (l,true,.loop { lp with state:=if jump.isNone then .ready else .done,pending:=jump })) H'->Q (.bool jump.isNone) H'):Tc M St n ⟨f,.normal,some l⟩ H₀ (c::cs) R L [] todo:=fun H tmps hs _=>
 .WA (b:=⟨f,.normal,some l⟩) rfl rfl ht (by
  have hl:=hs.get hi;refine⟨true,_,hl,by simp,rfl,?_⟩;refine⟨⟨_,hl,by simp⟩,rfl,?_⟩;exact hK _ _ (h _ (hs.set hi _)))
theorem T.endRangeFunc {H:View}{l:Nat}{tmps:Array Value}(h:EA P (Instr.endLoop l) H fun j H'=> T M St H' (G (b.at tmps ds ((j.map Item.code).toList++k)) cs)):T M St H (G (b.at tmps ds (.endRangeFunc l::k)) cs):=by
 refine .step ⟨rfl,fun w hs _=> ?_⟩;obtain⟨v,H',w',es,h1,h2,h3⟩:=SC _ #[] hs h;rw[Array.empty_append] at h1;have hp:Sem.run P (Instr.endLoop l) w=.ok v w'/\Sem.events P (Instr.endLoop l) w #[]=es:=by simpa using h1
 refine⟨_,w',seen P b.fn es,H',?_,h2.sub fun e he=> mem_seen he,h3⟩;simp[G,stepG,stepG.exec,FB.at,hp.1,hp.2,GStep.after]
theorem T.collect {H:View}{r:Nat}{tmps:Array Value}{todo:List Item}{az:Array Value}(h:EA P (Instr.takeDeferred r) H fun calls H'=> T M St H' (G (b.back tmps (calls++ds) todo) cs)):T M St H (G (b.back tmps ({ target:=.collected r,args:=az }::ds) todo) cs):=by
 refine .step ⟨rfl,fun w hs _=> ?_⟩;obtain⟨v,H',w',es,h1,h2,h3⟩:=SC _ #[] hs h;rw[Array.empty_append] at h1;refine⟨_,w',seen P b.fn es,H',?_,h2.sub fun e he=> mem_seen he,h3⟩;have e:stepG P M.main (G (b.back tmps ({ target:=.collected r,args:=az }::ds) todo) cs) w=unwind P M.main (b.back tmps ({ target:=.collected r,args:=az }::ds) todo) cs none w:=by
  simp[G,stepG,FB.back]
 rw[e];unfold unwind;simp only[FB.back,h1,GStep.after,G,Array.append_empty]
theorem T.rangeFunc {H:View}{f:Operand}{params:Array Tmp}{assign body:Code}{tmps:Array Value}{fv:Value}(hf:CB tmps f=fv)
  (h:EA P (Instr.enterLoop b.fn tmps params assign body b.rd) H fun x H'=> yB M fv [.func (.yield x.1) #[] #[]] H' fun _ H''=> T M St H'' (G (b.at tmps (x.2++ds) (.endRangeFunc x.1::k)) cs)):
  T M St H (G (b.at tmps ds (.code (.rangeFunc f params assign body)::k)) cs):=by
 refine .step ⟨rfl,fun w hs _=> ?_⟩;obtain⟨⟨l,mark⟩,H₁,w₁,es₁,h1,h2,h3⟩:=SC _ #[] hs h;rw[Array.empty_append] at h1;obtain⟨nx,H₂,w₂,es₂,g1,g2,g3⟩:=SC _ #[] h2.sat h3;rw[Array.empty_append] at g1;generalize G0:b.at tmps (mark++ds) (.inRangeFunc l::k)=fr;generalize YI:seen P fr.fn (if fr.kind==.early then #[] else es₂)=es';have BK:∀e∈seen P b.fn es₁++es',e∈es₁++es₂:=fun e he=> by
  rcases Array.mem_append.1 he with he|he
  ·exact Array.mem_append.2 (.inl (mem_seen he))
  ·rw[<-YI] at he;have:=mem_seen he;split at this
   ·simp at this
   ·exact Array.mem_append.2 (.inr this)
 have key:stepG P M.main (G (b.at tmps ds (.code (.rangeFunc f params assign body)::k)) cs) w=
   GStep.after (seen P b.fn es₁) (stepG.apply P true fr cs none ((Deferred.ofValue fv #[.func (.yield l) #[] #[]]).bind fun d=> invoke d.target d.args) w₁):=by
  have T6:fr.eval f=fv:=by rw[<-G0,FB.eval_at];exact hf
  have fV:(resolve fr.eval { callee:=.value f,args:=#[.const (.func (.yield l) #[] #[])],argTypes:=#[] } 0)=Deferred.ofValue fv #[.func (.yield l) #[] #[]]:=by
   show Deferred.ofValue (fr.eval f) (#[Operand.const (.func (.yield l) #[] #[])].map fr.eval)=_;rw[T6];simp[Frame.eval]
  have:stepG P M.main (G (b.at tmps ds (.code (.rangeFunc f params assign body)::k)) cs) w=
   GStep.after (seen P b.fn es₁) (stepG.apply P true fr cs none ((resolve fr.eval { callee:=.value f,args:=#[.const (.func (.yield l) #[] #[])],argTypes:=#[] } 0).bind fun d=> invoke d.target d.args) w₁):=by
   have hp:Sem.run P (Instr.enterLoop b.fn tmps params assign body b.rd) w=.ok (l,mark) w₁/\Sem.events P (Instr.enterLoop b.fn tmps params assign body b.rd) w #[]=es₁:=by simpa using h1
   rw[<-G0];simp[G,stepG,stepG.exec,FB.at,hp.1,hp.2]
   rfl
  rw[this,fV]
 have LS:∀g,stepG.apply P true fr cs none ((Deferred.ofValue fv #[.func (.yield l) #[] #[]]).bind fun d=> invoke d.target d.args) w₁=GStep.after es' (.go g w₂)-> 
   stepG P M.main (G (b.at tmps ds (.code (.rangeFunc f params assign body)::k)) cs) w=.go g w₂ (seen P b.fn es₁++es'):=fun g hg=> by
  rw[key,hg];simp[GStep.after]
 have UD:∀v,fr.finish v=b.at tmps (mark++ds) (.endRangeFunc l::k):=by
  intro v;rw[<-G0];rfl
 cases nx <;> try exact g3.elim
 case enter g az=>
  refine⟨_,w₂,_,H₂,LS (G (Frame.enter P g az .normal) (fr::cs)) ?_,(h2.trans g2).sub BK,?_⟩
  ·subst G0;rw[<-YI];unfold stepG.apply;rw[if_pos rfl,g1];rfl
  ·exact g3 St fr cs fun v H'' hq=> by rw[UD];exact hq
 case round l' g tmps' az bd=>
  refine⟨_,w₂,_,H₂,LS (G (Frame.round l' g tmps' az bd .normal) (fr::cs)) ?_,(h2.trans g2).sub BK,?_⟩
  ·subst G0;rw[<-YI];unfold stepG.apply;rw[if_pos rfl,g1];rfl
  ·exact g3 St fr cs fun v H'' hq=> by rw[UD];exact hq
def YG(r:Nat):Deferred:= { target:=.collected r,args:=#[] }
def Loop.fresh(f:FuncId)(tmps:Array Value)(params:Array Tmp)(assign body:Code)(r:Nat):Loop:= { state:=.ready,pending:=none,fn:=f,tmps,params,assign,body,defers:=r }
theorem Tc.rangeFunc {f:Operand}{params:Array Tmp}{assign body:Code}{fv:Value}(cT:b.rd=none)(hf:HA R f=some fv)(Z:Nat->Nat->Option Code->View->Bl->Prop)
  (h:∀l r tmps H,RA n R tmps->iA H₀ ((l,true,.loop (Loop.fresh b.fn tmps params assign body r))::(r,true,.deferred (some []))::L) H-> 
   yB M fv [.func (.yield l) #[] #[]] H fun _ H'=> ∃H₁ L₁ lp,iA H₁ ((l,true,.loop lp)::(r,true,.deferred (some []))::L₁) H'/\lp.state≠ .busy/\Z l r lp.pending H₁ L₁)
  (hk:∀l r j H₁ L₁,Z l r j H₁ L₁->Tc M St n b H₁ cs R ((r,true,.deferred (some []))::L₁) (YG r::ds) ((j.map Item.code).toList++k)):
  Tc M St n b H₀ cs R L ds (.code (.rangeFunc f params assign body)::k):=fun H tmps hs hr=> by
 refine .rangeFunc (hr.ev hf) ?_;rw[cT];intro r hr0;intro l hl0;have hs':=(hs.cons (true,.deferred (some [])) hr0).cons (true,.loop (Loop.fresh b.fn tmps params assign body r)) hl0;refine yB.mono (h l r tmps _ hr hs') ?_;rintro v H' ⟨H₁,L₁,lp,UP,LB,hz⟩;refine .endRangeFunc ?_;have hl:=UP.get (i:=0) rfl;refine⟨true,_,hl,by simp,rfl,?_⟩;have hb:(lp.state==LoopState.busy)=false:=by simpa using LB
 show EA P (if(lp.state==LoopState.busy)=true then _ else _) H' _;rw[if_neg (by simp[hb])];refine⟨⟨_,hl,by simp⟩,rfl,?_⟩;refine hk l r lp.pending H₁ L₁ hz _ tmps ?_ hr;exact(UP.set (i:=0) rfl _).less (List.sublist_cons_self _ _)
theorem Tc.oY {i r:Nat}{fn:Func}{c:Frame}{Q:Value->View->Prop}{f:FuncId}{rs:List ResultVar}{vs:List Value}(hK:∀v H',Q v H'->T M St H' (G (c.finish v) cs))(hf:P.funcs[f]? =some fn)(TP:fn.results=rs.toArray)
  (hi:L[i]? =some (r,true,.deferred (some []))) (ho:mH E R (L.set i (r,true,.deferred none)) rs vs) (h:∀H',iA H₀ (L.set i (r,true,.deferred none)) H'->Q (aE vs) H'):Tc M St n ⟨f,.normal,none⟩ H₀ (c::cs) R L [YG r] (.code .ret::k):=
 fun H tmps hs hr=> .aD rfl (.collect (by
  have hd:=hs.get hi;refine⟨true,_,hd,by simp,rfl,?_⟩;refine⟨⟨_,hd,by simp⟩,rfl,?_⟩;have hs':=hs.set hi (true,.deferred none);exact .leave hf rfl (SA _ hK (bE hs' hr TP ho (h _ hs')))))
theorem Tc.oJ {σ:Type}(I:σ->View×Rg×Bl)(μ:σ->Nat){body:Code}
  (step:∀s,(∀s',μ s'<μ s->Tc M St n b (I s').1 cs (I s').2.1 (I s').2.2 ds (.inLoop body::k))->Tc M St n b (I s).1 cs (I s).2.1 (I s).2.2 ds (.code body:: .inLoop body::k)) (s₀:σ):
  Tc M St n b (I s₀).1 cs (I s₀).2.1 (I s₀).2.2 ds (.code (.loop body)::k):=by
 have key:∀(m:Nat) (s:σ),μ s<=m->Tc M St n b (I s).1 cs (I s).2.1 (I s).2.2 ds (.code body:: .inLoop body::k):=by
  intro m;induction m with
  | zero=> exact fun s hs=> step s fun s' xB=> by omega
  | succ m ih=> exact fun s hs=> step s fun s' xB=> .inLoop (ih s' oM)
 exact .loop (key _ s₀ (Nat.le_refl _))
def View.BD(H:View)(b:Nat):View:=fun c=> if c=b then none else H c
theorem UA {H:View}{b c:Nat}(h:c≠b):H.BD b c=H c:=by simp[View.BD,h]
theorem iA.pull {H:View}{b:Nat}{x:Bool×Obj}(hb:H b=some x):iA (H.BD b) [(b,x)] H:=
 ⟨by simp,by simp[View.BD],by simpa using hb,fun c y hc=> by
  unfold View.BD at hc;split at hc
  ·cases hc
  ·exact hc⟩
end
end Go.RL
namespace Go.Proofs.YtldmfjcgjdchcaaGreatDoor
open Go.RL
theorem aEJ:vA Tryz.prog 3 ⟨false,1,8,.int .i64 (0),[],none,.int .i64⟩:=by constructor <;> kernel_rfl
theorem aEK:vA Tryz.prog 4 ⟨false,1,1,.bool false,[],none,.bool⟩:=by constructor <;> kernel_rfl
theorem aEL:vA Tryz.prog 5 ⟨false,1,1,.int .u8 (0),[],none,.int .u8⟩:=by constructor <;> kernel_rfl
theorem aEM:vA Tryz.prog 9 ⟨false,1,16,.string ⟨#[]⟩,[],none,.str⟩:=by constructor <;> kernel_rfl
theorem aDd:vA Tryz.prog 20 ⟨false,1,16,.nilIface,[],none,.other⟩:=by constructor <;> kernel_rfl
theorem aDe:vA Tryz.prog 21 ⟨false,1,4,.int .i32 (0),[],none,.int .i32⟩:=by constructor <;> kernel_rfl
theorem aDf:vA Tryz.prog 22 ⟨false,1,2,.int .u16 (0),[],none,.int .u16⟩:=by constructor <;> kernel_rfl
theorem aDg:vA Tryz.prog 24 ⟨false,1,24,.slice none 0 0,[],some (none,3),.slice 3⟩:=by constructor <;> kernel_rfl
theorem aDh:vA Tryz.prog 25 ⟨false,1,8,.int .i64 (0),[],none,.int .i64⟩:=by constructor <;> kernel_rfl
theorem aDi:vA Tryz.prog 28 ⟨false,1,8,.int .i64 (0),[],none,.int .i64⟩:=by constructor <;> kernel_rfl
theorem aDj:vA Tryz.prog 31 ⟨false,1,24,.slice none 0 0,[],some (none,39),.slice 39⟩:=by constructor <;> kernel_rfl
theorem aDk:vA Tryz.prog 37 ⟨true,2,16,.agg ⟨[.int .i64 (0),.int .i64 (0)]⟩,[0,1],none,.struct [(3,(0,1)),(3,(1,1))]⟩:=by constructor <;> kernel_rfl
theorem aDl:vA Tryz.prog 39 ⟨true,4,32,.agg ⟨[.int .i64 (0),.int .i64 (0),.int .i64 (0),.int .i64 (0)]⟩,[0,2],none,.struct [(37,(0,2)),(37,(2,2))]⟩:=by constructor <;> kernel_rfl
theorem aDm:vA Tryz.prog 43 ⟨false,1,24,.slice none 0 0,[],some (none,68),.slice 68⟩:=by constructor <;> kernel_rfl
theorem aDn:vA Tryz.prog 45 ⟨true,4,64,.agg ⟨[.int .i64 (0),.int .i64 (0),.slice none 0 0,.slice none 0 0]⟩,[0,1,2,3],none,.struct [(3,(0,1)),(3,(1,1)),(43,(2,1)),(31,(3,1))]⟩:=by constructor <;> kernel_rfl
theorem aDo:vA Tryz.prog 47 ⟨true,4,32,.agg ⟨[.int .i64 (0),.int .i64 (0),.int .i64 (0),.int .i64 (0)]⟩,[0,2],none,.struct [(37,(0,2)),(37,(2,2))]⟩:=by constructor <;> kernel_rfl
theorem aDp:vA Tryz.prog 49 ⟨true,8,64,.agg ⟨[.int .i64 (0),.int .i64 (0),.int .i64 (0),.int .i64 (0),.int .i64 (0),.int .i64 (0),.int .i64 (0),.int .i64 (0)]⟩,[0,2,4],none,.struct [(37,(0,2)),(37,(2,2)),(47,(4,4))]⟩:=by constructor <;> kernel_rfl
theorem aDq:vA Tryz.prog 50 ⟨false,1,24,.slice none 0 0,[],some (none,53),.slice 53⟩:=by constructor <;> kernel_rfl
theorem aDr:vA Tryz.prog 53 ⟨false,1,2,.int .i16 (0),[],none,.int .i16⟩:=by constructor <;> kernel_rfl
theorem aDs:vA Tryz.prog 60 ⟨false,1,24,.slice none 0 0,[],some (none,5),.slice 5⟩:=by constructor <;> kernel_rfl
theorem aDt:vA Tryz.prog 65 ⟨false,1,24,.slice none 0 0,[],some (none,22),.slice 22⟩:=by constructor <;> kernel_rfl
theorem aDu:vA Tryz.prog 66 ⟨false,1,24,.slice none 0 0,[],some (none,110),.slice 110⟩:=by constructor <;> kernel_rfl
theorem aDv:vA Tryz.prog 68 ⟨true,3,56,.agg ⟨[.string ⟨#[]⟩,.string ⟨#[]⟩,.slice none 0 0]⟩,[0,1,2],none,.struct [(9,(0,1)),(9,(1,1)),(66,(2,1))]⟩:=by constructor <;> kernel_rfl
theorem aDw:vA Tryz.prog 74 ⟨true,4,48,.agg ⟨[.int .i64 (0),.int .i64 (0),.int .i64 (0),.slice none 0 0]⟩,[0,1,2,3],none,.struct [(3,(0,1)),(3,(1,1)),(3,(2,1)),(24,(3,1))]⟩:=by constructor <;> kernel_rfl
theorem aDx:vA Tryz.prog 86 ⟨false,1,8,.pointer none,[],none,.other⟩:=by constructor <;> kernel_rfl
theorem aDy:vA Tryz.prog 88 ⟨true,2,32,.agg ⟨[.int .i64 (0),.slice none 0 0]⟩,[0,1],none,.struct [(28,(0,1)),(24,(1,1))]⟩:=by constructor <;> kernel_rfl
theorem aDz:vA Tryz.prog 92 ⟨true,12,96,.agg ⟨[.int .i64 (0),.int .i64 (0),.int .i64 (0),.int .i64 (0),.int .i64 (0),.int .i64 (0),.int .i64 (0),.int .i64 (0),.int .i64 (0),.int .i64 (0),.int .i64 (0),.int .i64 (0)]⟩,[],some (some 12,3),.arr 12 3⟩:=by constructor <;> kernel_rfl
theorem aDA:vA Tryz.prog 94 ⟨true,13,104,.agg ⟨[.int .i64 (0),.int .i64 (0),.int .i64 (0),.int .i64 (0),.int .i64 (0),.int .i64 (0),.int .i64 (0),.int .i64 (0),.int .i64 (0),.int .i64 (0),.int .i64 (0),.int .i64 (0),.int .i64 (0)]⟩,[0,1],none,.struct [(28,(0,1)),(92,(1,12))]⟩:=by constructor <;> kernel_rfl
theorem aDB:vA Tryz.prog 95 ⟨false,1,24,.slice none 0 0,[],some (none,442),.slice 442⟩:=by constructor <;> kernel_rfl
theorem aDC:vA Tryz.prog 97 ⟨true,5,56,.agg ⟨[.int .i64 (0),.int .i64 (0),.int .i64 (0),.bool false,.slice none 0 0]⟩,[0,1,2,3,4],none,.struct [(28,(0,1)),(3,(1,1)),(3,(2,1)),(4,(3,1)),(95,(4,1))]⟩:=by constructor <;> kernel_rfl
theorem aDD:vA Tryz.prog 99 ⟨true,5,56,.agg ⟨[.int .i64 (0),.int .i64 (0),.int .i64 (0),.bool false,.slice none 0 0]⟩,[0],none,.struct [(97,(0,5))]⟩:=by constructor <;> kernel_rfl
theorem aAR:vA Tryz.prog 101 ⟨false,1,8,.nilFunc,[],none,.other⟩:=by constructor <;> kernel_rfl
theorem aAS:vA Tryz.prog 107 ⟨false,1,24,.slice none 0 0,[],some (none,9),.slice 9⟩:=by constructor <;> kernel_rfl
theorem aAT:vA Tryz.prog 110 ⟨false,1,8,.int .i64 (0),[],none,.int .i64⟩:=by constructor <;> kernel_rfl
theorem aAU:vA Tryz.prog 132 ⟨true,8,64,.agg ⟨[.int .i64 (0),.int .i64 (0),.int .i64 (0),.int .i64 (0),.int .i64 (0),.int .i64 (0),.int .i64 (0),.int .i64 (0)]⟩,[0],none,.struct [(49,(0,8))]⟩:=by constructor <;> kernel_rfl
theorem aAV:vA Tryz.prog 133 ⟨false,1,24,.slice none 0 0,[],some (none,270),.slice 270⟩:=by constructor <;> kernel_rfl
theorem aAW:vA Tryz.prog 135 ⟨true,2,32,.agg ⟨[.int .i64 (0),.slice none 0 0]⟩,[0,1],none,.struct [(3,(0,1)),(133,(1,1))]⟩:=by constructor <;> kernel_rfl
theorem aAX:vA Tryz.prog 139 ⟨true,6,48,.agg ⟨[.int .i64 (0),.int .i64 (0),.int .i64 (0),.int .i64 (0),.int .i64 (0),.int .i64 (0)]⟩,[],some (some 6,3),.arr 6 3⟩:=by constructor <;> kernel_rfl
theorem aAY:vA Tryz.prog 150 ⟨false,1,8,.nilFunc,[],none,.other⟩:=by constructor <;> kernel_rfl
theorem aAZ:vA Tryz.prog 153 ⟨false,1,1,.int .u8 (0),[],none,.int .u8⟩:=by constructor <;> kernel_rfl
theorem aA0:vA Tryz.prog 166 ⟨true,4,64,.agg ⟨[.int .i64 (0),.int .i64 (0),.slice none 0 0,.slice none 0 0]⟩,[0],none,.struct [(45,(0,4))]⟩:=by constructor <;> kernel_rfl
theorem aA1:vA Tryz.prog 170 ⟨true,3,32,.agg ⟨[.string ⟨#[]⟩,.int .i64 (0),.bool false]⟩,[0,1,2],none,.struct [(9,(0,1)),(3,(1,1)),(4,(2,1))]⟩:=by constructor <;> kernel_rfl
theorem aA2:vA Tryz.prog 173 ⟨false,1,8,.nilFunc,[],none,.other⟩:=by constructor <;> kernel_rfl
theorem aA3:vA Tryz.prog 174 ⟨false,1,8,.pointer none,[],none,.other⟩:=by constructor <;> kernel_rfl
theorem aA4:vA Tryz.prog 176 ⟨true,2,32,.agg ⟨[.pointer none,.slice none 0 0]⟩,[0,1],none,.struct [(174,(0,1)),(60,(1,1))]⟩:=by constructor <;> kernel_rfl
theorem aA5:vA Tryz.prog 178 ⟨false,1,16,.nilIface,[],none,.other⟩:=by constructor <;> kernel_rfl
theorem aA6:vA Tryz.prog 184 ⟨true,3,48,.agg ⟨[.string ⟨#[]⟩,.string ⟨#[]⟩,.string ⟨#[]⟩]⟩,[],some (some 3,9),.arr 3 9⟩:=by constructor <;> kernel_rfl
theorem aA7:vA Tryz.prog 191 ⟨true,0,0,.agg ⟨[]⟩,[],none,.struct []⟩:=by constructor <;> kernel_rfl
theorem aA8:vA Tryz.prog 193 ⟨false,1,8,.nilFunc,[],none,.other⟩:=by constructor <;> kernel_rfl
theorem aA9:vA Tryz.prog 202 ⟨true,2,16,.agg ⟨[.int .i64 (0),.int .i64 (0)]⟩,[0,1],none,.struct [(3,(0,1)),(3,(1,1))]⟩:=by constructor <;> kernel_rfl
theorem aBa:vA Tryz.prog 204 ⟨true,3,56,.agg ⟨[.string ⟨#[]⟩,.string ⟨#[]⟩,.slice none 0 0]⟩,[0],none,.struct [(68,(0,3))]⟩:=by constructor <;> kernel_rfl
theorem aBb:vA Tryz.prog 206 ⟨true,4,32,.agg ⟨[.int .i64 (0),.int .i64 (0),.int .i64 (0),.int .i64 (0)]⟩,[0],none,.struct [(39,(0,4))]⟩:=by constructor <;> kernel_rfl
theorem aBc:vA Tryz.prog 218 ⟨false,1,8,.map none,[],none,.map 170 4⟩:=by constructor <;> kernel_rfl
theorem aBd:vA Tryz.prog 222 ⟨false,1,8,.map none,[],none,.map 3 4⟩:=by constructor <;> kernel_rfl
theorem aBe:vA Tryz.prog 228 ⟨false,1,8,.int .u64 (0),[],none,.int .u64⟩:=by constructor <;> kernel_rfl
theorem aBf:vA Tryz.prog 231 ⟨false,1,4,.int .u32 (0),[],none,.int .u32⟩:=by constructor <;> kernel_rfl
theorem aBg:vA Tryz.prog 233 ⟨true,2,16,.agg ⟨[.int .u64 (0),.int .u32 (0)]⟩,[],none,.struct [(225,(0,0)),(230,(0,1)),(231,(1,1))]⟩:=by constructor <;> kernel_rfl
theorem aBh:vA Tryz.prog 236 ⟨false,1,8,.nilFunc,[],none,.other⟩:=by constructor <;> kernel_rfl
theorem aBi:vA Tryz.prog 240 ⟨true,4,32,.agg ⟨[.int .i64 (0),.int .i64 (0),.int .i64 (0),.int .i64 (0)]⟩,[],some (some 4,110),.arr 4 110⟩:=by constructor <;> kernel_rfl
theorem aBj:vA Tryz.prog 242 ⟨true,3,24,.agg ⟨[.int .i64 (0),.int .i64 (0),.int .i64 (0)]⟩,[],some (some 3,110),.arr 3 110⟩:=by constructor <;> kernel_rfl
theorem aBk:vA Tryz.prog 249 ⟨false,1,8,.nilFunc,[],none,.other⟩:=by constructor <;> kernel_rfl
theorem aBl:vA Tryz.prog 257 ⟨true,2,16,.agg ⟨[.int .i64 (0),.int .i64 (0)]⟩,[0,1],none,.struct [(3,(0,1)),(3,(1,1))]⟩:=by constructor <;> kernel_rfl
theorem aBm:vA Tryz.prog 261 ⟨false,1,8,.map none,[],none,.map 153 4⟩:=by constructor <;> kernel_rfl
theorem aBn:vA Tryz.prog 264 ⟨false,1,24,.slice none 0 0,[],some (none,265),.slice 265⟩:=by constructor <;> kernel_rfl
theorem aBo:vA Tryz.prog 265 ⟨false,1,8,.nilFunc,[],none,.other⟩:=by constructor <;> kernel_rfl
theorem aBp:vA Tryz.prog 266 ⟨true,4,32,.agg ⟨[.nilFunc,.nilFunc,.nilFunc,.nilFunc]⟩,[],some (some 4,265),.arr 4 265⟩:=by constructor <;> kernel_rfl
theorem aBq:vA Tryz.prog 270 ⟨true,2,16,.agg ⟨[.int .i64 (0),.int .i64 (0)]⟩,[0,1],none,.struct [(3,(0,1)),(3,(1,1))]⟩:=by constructor <;> kernel_rfl
theorem aBr:vA Tryz.prog 271 ⟨false,1,8,.int .u64 (0),[],none,.int .u64⟩:=by constructor <;> kernel_rfl
theorem aBs:vA Tryz.prog 272 ⟨false,1,8,.nilFunc,[],none,.other⟩:=by constructor <;> kernel_rfl
theorem aBt:vA Tryz.prog 275 ⟨false,1,8,.pointer none,[],none,.other⟩:=by constructor <;> kernel_rfl
theorem aBu:vA Tryz.prog 281 ⟨false,1,8,.nilFunc,[],none,.other⟩:=by constructor <;> kernel_rfl
theorem aBv:vA Tryz.prog 282 ⟨true,3,24,.agg ⟨[.nilFunc,.nilFunc,.nilFunc]⟩,[],some (some 3,281),.arr 3 281⟩:=by constructor <;> kernel_rfl
theorem aBw:vA Tryz.prog 290 ⟨true,2,32,.agg ⟨[.string ⟨#[]⟩,.string ⟨#[]⟩]⟩,[],some (some 2,9),.arr 2 9⟩:=by constructor <;> kernel_rfl
theorem aBx:vA Tryz.prog 294 ⟨true,256,256,.agg ⟨List.replicate 256 (.bool false)⟩,[],some (some 256,4),.arr 256 4⟩:=by constructor <;> kernel_rfl
theorem aBy:vA Tryz.prog 298 ⟨false,1,8,.pointer none,[],none,.other⟩:=by constructor <;> kernel_rfl
theorem aBz:vA Tryz.prog 305 ⟨false,1,8,.pointer none,[],none,.other⟩:=by constructor <;> kernel_rfl
theorem aBA:vA Tryz.prog 315 ⟨true,3,24,.agg ⟨[.int .i64 (0),.int .i64 (0),.int .i64 (0)]⟩,[],some (some 3,3),.arr 3 3⟩:=by constructor <;> kernel_rfl
theorem aBB:vA Tryz.prog 322 ⟨true,2,16,.agg ⟨[.int .i64 (0),.int .i64 (0)]⟩,[],some (some 2,3),.arr 2 3⟩:=by constructor <;> kernel_rfl
theorem aBC:vA Tryz.prog 326 ⟨false,1,8,.map none,[],none,.map 333 4⟩:=by constructor <;> kernel_rfl
theorem aBD:vA Tryz.prog 329 ⟨false,1,8,.map none,[],none,.map 270 373⟩:=by constructor <;> kernel_rfl
theorem aBE:vA Tryz.prog 331 ⟨true,9,88,.agg ⟨[.int .i64 (0),.slice none 0 0,.int .i64 (0),.int .i64 (0),.int .i64 (0),.int .i64 (0),.int .i64 (0),.int .i64 (0),.map none]⟩,[0,2,3,4,5,6,8],none,.struct [(135,(0,2)),(3,(2,1)),(3,(3,1)),(3,(4,1)),(3,(5,1)),(257,(6,2)),(329,(8,1))]⟩:=by constructor <;> kernel_rfl
theorem aBF:vA Tryz.prog 333 ⟨true,128,128,.agg ⟨List.replicate 128 (.bool false)⟩,[],some (some 128,4),.arr 128 4⟩:=by constructor <;> kernel_rfl
theorem aBG:vA Tryz.prog 353 ⟨false,1,8,.int .i64 (0),[],none,.int .i64⟩:=by constructor <;> kernel_rfl
theorem aBH:vA Tryz.prog 372 ⟨false,1,8,.nilFunc,[],none,.other⟩:=by constructor <;> kernel_rfl
theorem aBI:vA Tryz.prog 373 ⟨false,1,24,.slice none 0 0,[],some (none,376),.slice 376⟩:=by constructor <;> kernel_rfl
theorem aBJ:vA Tryz.prog 376 ⟨true,2,16,.agg ⟨[.int .i64 (0),.int .i64 (0)]⟩,[0,1],none,.struct [(3,(0,1)),(3,(1,1))]⟩:=by constructor <;> kernel_rfl
theorem aBK:vA Tryz.prog 377 ⟨false,1,8,.nilFunc,[],none,.other⟩:=by constructor <;> kernel_rfl
theorem aBL:vA Tryz.prog 378 ⟨false,1,8,.nilFunc,[],none,.other⟩:=by constructor <;> kernel_rfl
theorem aBM:vA Tryz.prog 388 ⟨false,1,8,.int .u64 (0),[],none,.int .u64⟩:=by constructor <;> kernel_rfl
theorem aBN:vA Tryz.prog 391 ⟨false,1,8,.pointer none,[],none,.other⟩:=by constructor <;> kernel_rfl
theorem aBO:vA Tryz.prog 397 ⟨true,20,160,.agg ⟨[.int .u64 (0),.int .u64 (0),.int .u64 (0),.int .u64 (0),.int .u64 (0),.int .u64 (0),.int .u64 (0),.int .u64 (0),.int .u64 (0),.int .u64 (0),.int .u64 (0),.int .u64 (0),.int .u64 (0),.int .u64 (0),.int .u64 (0),.int .u64 (0),.int .u64 (0),.int .u64 (0),.int .u64 (0),.int .u64 (0)]⟩,[],some (some 20,228),.arr 20 228⟩:=by constructor <;> kernel_rfl
theorem aBP:vA Tryz.prog 405 ⟨true,256,256,.agg ⟨List.replicate 256 (.int .u8 (0))⟩,[],some (some 256,5),.arr 256 5⟩:=by constructor <;> kernel_rfl
theorem aBQ:vA Tryz.prog 407 ⟨true,2,2,.agg ⟨[.int .u8 (0),.int .u8 (0)]⟩,[0,1],none,.struct [(5,(0,1)),(5,(1,1))]⟩:=by constructor <;> kernel_rfl
theorem aBR:vA Tryz.prog 408 ⟨true,32,32,.agg ⟨[.int .u8 (0),.int .u8 (0),.int .u8 (0),.int .u8 (0),.int .u8 (0),.int .u8 (0),.int .u8 (0),.int .u8 (0),.int .u8 (0),.int .u8 (0),.int .u8 (0),.int .u8 (0),.int .u8 (0),.int .u8 (0),.int .u8 (0),.int .u8 (0),.int .u8 (0),.int .u8 (0),.int .u8 (0),.int .u8 (0),.int .u8 (0),.int .u8 (0),.int .u8 (0),.int .u8 (0),.int .u8 (0),.int .u8 (0),.int .u8 (0),.int .u8 (0),.int .u8 (0),.int .u8 (0),.int .u8 (0),.int .u8 (0)]⟩,[],some (some 16,407),.arr 16 407⟩:=by constructor <;> kernel_rfl
theorem aBS:vA Tryz.prog 418 ⟨true,3,48,.agg ⟨[.string ⟨#[]⟩,.string ⟨#[]⟩,.nilIface]⟩,[0,1,2],none,.struct [(9,(0,1)),(9,(1,1)),(178,(2,1))]⟩:=by constructor <;> kernel_rfl
theorem aBT:vA Tryz.prog 420 ⟨true,32,32,.agg ⟨[.int .u8 (0),.int .u8 (0),.int .u8 (0),.int .u8 (0),.int .u8 (0),.int .u8 (0),.int .u8 (0),.int .u8 (0),.int .u8 (0),.int .u8 (0),.int .u8 (0),.int .u8 (0),.int .u8 (0),.int .u8 (0),.int .u8 (0),.int .u8 (0),.int .u8 (0),.int .u8 (0),.int .u8 (0),.int .u8 (0),.int .u8 (0),.int .u8 (0),.int .u8 (0),.int .u8 (0),.int .u8 (0),.int .u8 (0),.int .u8 (0),.int .u8 (0),.int .u8 (0),.int .u8 (0),.int .u8 (0),.int .u8 (0)]⟩,[],some (some 32,5),.arr 32 5⟩:=by constructor <;> kernel_rfl
theorem aBU:vA Tryz.prog 421 ⟨true,64,64,.agg ⟨[.int .u8 (0),.int .u8 (0),.int .u8 (0),.int .u8 (0),.int .u8 (0),.int .u8 (0),.int .u8 (0),.int .u8 (0),.int .u8 (0),.int .u8 (0),.int .u8 (0),.int .u8 (0),.int .u8 (0),.int .u8 (0),.int .u8 (0),.int .u8 (0),.int .u8 (0),.int .u8 (0),.int .u8 (0),.int .u8 (0),.int .u8 (0),.int .u8 (0),.int .u8 (0),.int .u8 (0),.int .u8 (0),.int .u8 (0),.int .u8 (0),.int .u8 (0),.int .u8 (0),.int .u8 (0),.int .u8 (0),.int .u8 (0),.int .u8 (0),.int .u8 (0),.int .u8 (0),.int .u8 (0),.int .u8 (0),.int .u8 (0),.int .u8 (0),.int .u8 (0),.int .u8 (0),.int .u8 (0),.int .u8 (0),.int .u8 (0),.int .u8 (0),.int .u8 (0),.int .u8 (0),.int .u8 (0),.int .u8 (0),.int .u8 (0),.int .u8 (0),.int .u8 (0),.int .u8 (0),.int .u8 (0),.int .u8 (0),.int .u8 (0),.int .u8 (0),.int .u8 (0),.int .u8 (0),.int .u8 (0),.int .u8 (0),.int .u8 (0),.int .u8 (0),.int .u8 (0)]⟩,[],some (some 64,5),.arr 64 5⟩:=by constructor <;> kernel_rfl
theorem aBV:vA Tryz.prog 427 ⟨true,1,16,.agg ⟨[.string ⟨#[]⟩]⟩,[0],none,.struct [(9,(0,1))]⟩:=by constructor <;> kernel_rfl
theorem aBW:vA Tryz.prog 442 ⟨true,2,16,.agg ⟨[.int .i64 (0),.int .i64 (0)]⟩,[0,1],none,.struct [(3,(0,1)),(3,(1,1))]⟩:=by constructor <;> kernel_rfl
def tys:List (Nat×AA):= [(3,⟨false,1,8,.int .i64 (0),[],none,.int .i64⟩),
 (4,⟨false,1,1,.bool false,[],none,.bool⟩),
 (5,⟨false,1,1,.int .u8 (0),[],none,.int .u8⟩),
 (9,⟨false,1,16,.string ⟨#[]⟩,[],none,.str⟩),
 (20,⟨false,1,16,.nilIface,[],none,.other⟩),
 (21,⟨false,1,4,.int .i32 (0),[],none,.int .i32⟩),
 (22,⟨false,1,2,.int .u16 (0),[],none,.int .u16⟩),
 (24,⟨false,1,24,.slice none 0 0,[],some (none,3),.slice 3⟩),
 (25,⟨false,1,8,.int .i64 (0),[],none,.int .i64⟩),
 (28,⟨false,1,8,.int .i64 (0),[],none,.int .i64⟩),
 (31,⟨false,1,24,.slice none 0 0,[],some (none,39),.slice 39⟩),
 (37,⟨true,2,16,.agg ⟨[.int .i64 (0),.int .i64 (0)]⟩,[0,1],none,.struct [(3,(0,1)),(3,(1,1))]⟩),
 (39,⟨true,4,32,.agg ⟨[.int .i64 (0),.int .i64 (0),.int .i64 (0),.int .i64 (0)]⟩,[0,2],none,.struct [(37,(0,2)),(37,(2,2))]⟩),
 (43,⟨false,1,24,.slice none 0 0,[],some (none,68),.slice 68⟩),
 (45,⟨true,4,64,.agg ⟨[.int .i64 (0),.int .i64 (0),.slice none 0 0,.slice none 0 0]⟩,[0,1,2,3],none,.struct [(3,(0,1)),(3,(1,1)),(43,(2,1)),(31,(3,1))]⟩),
 (47,⟨true,4,32,.agg ⟨[.int .i64 (0),.int .i64 (0),.int .i64 (0),.int .i64 (0)]⟩,[0,2],none,.struct [(37,(0,2)),(37,(2,2))]⟩),
 (49,⟨true,8,64,.agg ⟨[.int .i64 (0),.int .i64 (0),.int .i64 (0),.int .i64 (0),.int .i64 (0),.int .i64 (0),.int .i64 (0),.int .i64 (0)]⟩,[0,2,4],none,.struct [(37,(0,2)),(37,(2,2)),(47,(4,4))]⟩),
 (50,⟨false,1,24,.slice none 0 0,[],some (none,53),.slice 53⟩),
 (53,⟨false,1,2,.int .i16 (0),[],none,.int .i16⟩),
 (60,⟨false,1,24,.slice none 0 0,[],some (none,5),.slice 5⟩),
 (65,⟨false,1,24,.slice none 0 0,[],some (none,22),.slice 22⟩),
 (66,⟨false,1,24,.slice none 0 0,[],some (none,110),.slice 110⟩),
 (68,⟨true,3,56,.agg ⟨[.string ⟨#[]⟩,.string ⟨#[]⟩,.slice none 0 0]⟩,[0,1,2],none,.struct [(9,(0,1)),(9,(1,1)),(66,(2,1))]⟩),
 (74,⟨true,4,48,.agg ⟨[.int .i64 (0),.int .i64 (0),.int .i64 (0),.slice none 0 0]⟩,[0,1,2,3],none,.struct [(3,(0,1)),(3,(1,1)),(3,(2,1)),(24,(3,1))]⟩),
 (86,⟨false,1,8,.pointer none,[],none,.other⟩),
 (88,⟨true,2,32,.agg ⟨[.int .i64 (0),.slice none 0 0]⟩,[0,1],none,.struct [(28,(0,1)),(24,(1,1))]⟩),
 (92,⟨true,12,96,.agg ⟨[.int .i64 (0),.int .i64 (0),.int .i64 (0),.int .i64 (0),.int .i64 (0),.int .i64 (0),.int .i64 (0),.int .i64 (0),.int .i64 (0),.int .i64 (0),.int .i64 (0),.int .i64 (0)]⟩,[],some (some 12,3),.arr 12 3⟩),
 (94,⟨true,13,104,.agg ⟨[.int .i64 (0),.int .i64 (0),.int .i64 (0),.int .i64 (0),.int .i64 (0),.int .i64 (0),.int .i64 (0),.int .i64 (0),.int .i64 (0),.int .i64 (0),.int .i64 (0),.int .i64 (0),.int .i64 (0)]⟩,[0,1],none,.struct [(28,(0,1)),(92,(1,12))]⟩),
 (95,⟨false,1,24,.slice none 0 0,[],some (none,442),.slice 442⟩),
 (97,⟨true,5,56,.agg ⟨[.int .i64 (0),.int .i64 (0),.int .i64 (0),.bool false,.slice none 0 0]⟩,[0,1,2,3,4],none,.struct [(28,(0,1)),(3,(1,1)),(3,(2,1)),(4,(3,1)),(95,(4,1))]⟩),
 (99,⟨true,5,56,.agg ⟨[.int .i64 (0),.int .i64 (0),.int .i64 (0),.bool false,.slice none 0 0]⟩,[0],none,.struct [(97,(0,5))]⟩),
 (101,⟨false,1,8,.nilFunc,[],none,.other⟩),
 (107,⟨false,1,24,.slice none 0 0,[],some (none,9),.slice 9⟩),
 (110,⟨false,1,8,.int .i64 (0),[],none,.int .i64⟩),
 (132,⟨true,8,64,.agg ⟨[.int .i64 (0),.int .i64 (0),.int .i64 (0),.int .i64 (0),.int .i64 (0),.int .i64 (0),.int .i64 (0),.int .i64 (0)]⟩,[0],none,.struct [(49,(0,8))]⟩),
 (133,⟨false,1,24,.slice none 0 0,[],some (none,270),.slice 270⟩),
 (135,⟨true,2,32,.agg ⟨[.int .i64 (0),.slice none 0 0]⟩,[0,1],none,.struct [(3,(0,1)),(133,(1,1))]⟩),
 (139,⟨true,6,48,.agg ⟨[.int .i64 (0),.int .i64 (0),.int .i64 (0),.int .i64 (0),.int .i64 (0),.int .i64 (0)]⟩,[],some (some 6,3),.arr 6 3⟩),
 (150,⟨false,1,8,.nilFunc,[],none,.other⟩),
 (153,⟨false,1,1,.int .u8 (0),[],none,.int .u8⟩),
 (166,⟨true,4,64,.agg ⟨[.int .i64 (0),.int .i64 (0),.slice none 0 0,.slice none 0 0]⟩,[0],none,.struct [(45,(0,4))]⟩),
 (170,⟨true,3,32,.agg ⟨[.string ⟨#[]⟩,.int .i64 (0),.bool false]⟩,[0,1,2],none,.struct [(9,(0,1)),(3,(1,1)),(4,(2,1))]⟩),
 (173,⟨false,1,8,.nilFunc,[],none,.other⟩),
 (174,⟨false,1,8,.pointer none,[],none,.other⟩),
 (176,⟨true,2,32,.agg ⟨[.pointer none,.slice none 0 0]⟩,[0,1],none,.struct [(174,(0,1)),(60,(1,1))]⟩),
 (178,⟨false,1,16,.nilIface,[],none,.other⟩),
 (184,⟨true,3,48,.agg ⟨[.string ⟨#[]⟩,.string ⟨#[]⟩,.string ⟨#[]⟩]⟩,[],some (some 3,9),.arr 3 9⟩),
 (191,⟨true,0,0,.agg ⟨[]⟩,[],none,.struct []⟩),
 (193,⟨false,1,8,.nilFunc,[],none,.other⟩),
 (202,⟨true,2,16,.agg ⟨[.int .i64 (0),.int .i64 (0)]⟩,[0,1],none,.struct [(3,(0,1)),(3,(1,1))]⟩),
 (204,⟨true,3,56,.agg ⟨[.string ⟨#[]⟩,.string ⟨#[]⟩,.slice none 0 0]⟩,[0],none,.struct [(68,(0,3))]⟩),
 (206,⟨true,4,32,.agg ⟨[.int .i64 (0),.int .i64 (0),.int .i64 (0),.int .i64 (0)]⟩,[0],none,.struct [(39,(0,4))]⟩),
 (218,⟨false,1,8,.map none,[],none,.map 170 4⟩),
 (222,⟨false,1,8,.map none,[],none,.map 3 4⟩),
 (228,⟨false,1,8,.int .u64 (0),[],none,.int .u64⟩),
 (231,⟨false,1,4,.int .u32 (0),[],none,.int .u32⟩),
 (233,⟨true,2,16,.agg ⟨[.int .u64 (0),.int .u32 (0)]⟩,[],none,.struct [(225,(0,0)),(230,(0,1)),(231,(1,1))]⟩),
 (236,⟨false,1,8,.nilFunc,[],none,.other⟩),
 (240,⟨true,4,32,.agg ⟨[.int .i64 (0),.int .i64 (0),.int .i64 (0),.int .i64 (0)]⟩,[],some (some 4,110),.arr 4 110⟩),
 (242,⟨true,3,24,.agg ⟨[.int .i64 (0),.int .i64 (0),.int .i64 (0)]⟩,[],some (some 3,110),.arr 3 110⟩),
 (249,⟨false,1,8,.nilFunc,[],none,.other⟩),
 (257,⟨true,2,16,.agg ⟨[.int .i64 (0),.int .i64 (0)]⟩,[0,1],none,.struct [(3,(0,1)),(3,(1,1))]⟩),
 (261,⟨false,1,8,.map none,[],none,.map 153 4⟩),
 (264,⟨false,1,24,.slice none 0 0,[],some (none,265),.slice 265⟩),
 (265,⟨false,1,8,.nilFunc,[],none,.other⟩),
 (266,⟨true,4,32,.agg ⟨[.nilFunc,.nilFunc,.nilFunc,.nilFunc]⟩,[],some (some 4,265),.arr 4 265⟩),
 (270,⟨true,2,16,.agg ⟨[.int .i64 (0),.int .i64 (0)]⟩,[0,1],none,.struct [(3,(0,1)),(3,(1,1))]⟩),
 (271,⟨false,1,8,.int .u64 (0),[],none,.int .u64⟩),
 (272,⟨false,1,8,.nilFunc,[],none,.other⟩),
 (275,⟨false,1,8,.pointer none,[],none,.other⟩),
 (281,⟨false,1,8,.nilFunc,[],none,.other⟩),
 (282,⟨true,3,24,.agg ⟨[.nilFunc,.nilFunc,.nilFunc]⟩,[],some (some 3,281),.arr 3 281⟩),
 (290,⟨true,2,32,.agg ⟨[.string ⟨#[]⟩,.string ⟨#[]⟩]⟩,[],some (some 2,9),.arr 2 9⟩),
 (294,⟨true,256,256,.agg ⟨List.replicate 256 (.bool false)⟩,[],some (some 256,4),.arr 256 4⟩),
 (298,⟨false,1,8,.pointer none,[],none,.other⟩),
 (305,⟨false,1,8,.pointer none,[],none,.other⟩),
 (315,⟨true,3,24,.agg ⟨[.int .i64 (0),.int .i64 (0),.int .i64 (0)]⟩,[],some (some 3,3),.arr 3 3⟩),
 (322,⟨true,2,16,.agg ⟨[.int .i64 (0),.int .i64 (0)]⟩,[],some (some 2,3),.arr 2 3⟩),
 (326,⟨false,1,8,.map none,[],none,.map 333 4⟩),
 (329,⟨false,1,8,.map none,[],none,.map 270 373⟩),
 (331,⟨true,9,88,.agg ⟨[.int .i64 (0),.slice none 0 0,.int .i64 (0),.int .i64 (0),.int .i64 (0),.int .i64 (0),.int .i64 (0),.int .i64 (0),.map none]⟩,[0,2,3,4,5,6,8],none,.struct [(135,(0,2)),(3,(2,1)),(3,(3,1)),(3,(4,1)),(3,(5,1)),(257,(6,2)),(329,(8,1))]⟩),
 (333,⟨true,128,128,.agg ⟨List.replicate 128 (.bool false)⟩,[],some (some 128,4),.arr 128 4⟩),
 (353,⟨false,1,8,.int .i64 (0),[],none,.int .i64⟩),
 (372,⟨false,1,8,.nilFunc,[],none,.other⟩),
 (373,⟨false,1,24,.slice none 0 0,[],some (none,376),.slice 376⟩),
 (376,⟨true,2,16,.agg ⟨[.int .i64 (0),.int .i64 (0)]⟩,[0,1],none,.struct [(3,(0,1)),(3,(1,1))]⟩),
 (377,⟨false,1,8,.nilFunc,[],none,.other⟩),
 (378,⟨false,1,8,.nilFunc,[],none,.other⟩),
 (388,⟨false,1,8,.int .u64 (0),[],none,.int .u64⟩),
 (391,⟨false,1,8,.pointer none,[],none,.other⟩),
 (397,⟨true,20,160,.agg ⟨[.int .u64 (0),.int .u64 (0),.int .u64 (0),.int .u64 (0),.int .u64 (0),.int .u64 (0),.int .u64 (0),.int .u64 (0),.int .u64 (0),.int .u64 (0),.int .u64 (0),.int .u64 (0),.int .u64 (0),.int .u64 (0),.int .u64 (0),.int .u64 (0),.int .u64 (0),.int .u64 (0),.int .u64 (0),.int .u64 (0)]⟩,[],some (some 20,228),.arr 20 228⟩),
 (405,⟨true,256,256,.agg ⟨List.replicate 256 (.int .u8 (0))⟩,[],some (some 256,5),.arr 256 5⟩),
 (407,⟨true,2,2,.agg ⟨[.int .u8 (0),.int .u8 (0)]⟩,[0,1],none,.struct [(5,(0,1)),(5,(1,1))]⟩),
 (408,⟨true,32,32,.agg ⟨[.int .u8 (0),.int .u8 (0),.int .u8 (0),.int .u8 (0),.int .u8 (0),.int .u8 (0),.int .u8 (0),.int .u8 (0),.int .u8 (0),.int .u8 (0),.int .u8 (0),.int .u8 (0),.int .u8 (0),.int .u8 (0),.int .u8 (0),.int .u8 (0),.int .u8 (0),.int .u8 (0),.int .u8 (0),.int .u8 (0),.int .u8 (0),.int .u8 (0),.int .u8 (0),.int .u8 (0),.int .u8 (0),.int .u8 (0),.int .u8 (0),.int .u8 (0),.int .u8 (0),.int .u8 (0),.int .u8 (0),.int .u8 (0)]⟩,[],some (some 16,407),.arr 16 407⟩),
 (418,⟨true,3,48,.agg ⟨[.string ⟨#[]⟩,.string ⟨#[]⟩,.nilIface]⟩,[0,1,2],none,.struct [(9,(0,1)),(9,(1,1)),(178,(2,1))]⟩),
 (420,⟨true,32,32,.agg ⟨[.int .u8 (0),.int .u8 (0),.int .u8 (0),.int .u8 (0),.int .u8 (0),.int .u8 (0),.int .u8 (0),.int .u8 (0),.int .u8 (0),.int .u8 (0),.int .u8 (0),.int .u8 (0),.int .u8 (0),.int .u8 (0),.int .u8 (0),.int .u8 (0),.int .u8 (0),.int .u8 (0),.int .u8 (0),.int .u8 (0),.int .u8 (0),.int .u8 (0),.int .u8 (0),.int .u8 (0),.int .u8 (0),.int .u8 (0),.int .u8 (0),.int .u8 (0),.int .u8 (0),.int .u8 (0),.int .u8 (0),.int .u8 (0)]⟩,[],some (some 32,5),.arr 32 5⟩),
 (421,⟨true,64,64,.agg ⟨[.int .u8 (0),.int .u8 (0),.int .u8 (0),.int .u8 (0),.int .u8 (0),.int .u8 (0),.int .u8 (0),.int .u8 (0),.int .u8 (0),.int .u8 (0),.int .u8 (0),.int .u8 (0),.int .u8 (0),.int .u8 (0),.int .u8 (0),.int .u8 (0),.int .u8 (0),.int .u8 (0),.int .u8 (0),.int .u8 (0),.int .u8 (0),.int .u8 (0),.int .u8 (0),.int .u8 (0),.int .u8 (0),.int .u8 (0),.int .u8 (0),.int .u8 (0),.int .u8 (0),.int .u8 (0),.int .u8 (0),.int .u8 (0),.int .u8 (0),.int .u8 (0),.int .u8 (0),.int .u8 (0),.int .u8 (0),.int .u8 (0),.int .u8 (0),.int .u8 (0),.int .u8 (0),.int .u8 (0),.int .u8 (0),.int .u8 (0),.int .u8 (0),.int .u8 (0),.int .u8 (0),.int .u8 (0),.int .u8 (0),.int .u8 (0),.int .u8 (0),.int .u8 (0),.int .u8 (0),.int .u8 (0),.int .u8 (0),.int .u8 (0),.int .u8 (0),.int .u8 (0),.int .u8 (0),.int .u8 (0),.int .u8 (0),.int .u8 (0),.int .u8 (0),.int .u8 (0)]⟩,[],some (some 64,5),.arr 64 5⟩),
 (427,⟨true,1,16,.agg ⟨[.string ⟨#[]⟩]⟩,[0],none,.struct [(9,(0,1))]⟩),
 (442,⟨true,2,16,.agg ⟨[.int .i64 (0),.int .i64 (0)]⟩,[0,1],none,.struct [(3,(0,1)),(3,(1,1))]⟩)]
theorem aB6:rP Tryz.prog tys:=⟨aEJ,aEK,aEL,aEM,aDd,aDe,aDf,aDg,aDh,aDi,aDj,aDk,aDl,aDm,aDn,aDo,aDp,aDq,aDr,aDs,aDt,aDu,aDv,aDw,aDx,aDy,aDz,aDA,aDB,aDC,aDD,aAR,aAS,aAT,aAU,aAV,aAW,aAX,aAY,aAZ,aA0,aA1,aA2,aA3,aA4,aA5,aA6,aA7,aA8,aA9,aBa,aBb,aBc,aBd,aBe,aBf,aBg,aBh,aBi,aBj,aBk,aBl,aBm,aBn,aBo,aBp,aBq,aBr,aBs,aBt,aBu,aBv,aBw,aBx,aBy,aBz,aBA,aBB,aBC,aBD,aBE,aBF,aBG,aBH,aBI,aBJ,aBK,aBL,aBM,aBN,aBO,aBP,aBQ,aBR,aBS,aBT,aBU,aBV,aBW,trivial⟩
theorem mixed:Tryz.prog.follows .mixedOrders=true:=by kernel_rfl
theorem aDR:CA Tryz.prog 85=true:=by kernel_rfl
theorem O9:CA Tryz.prog 90=true:=by kernel_rfl
theorem aCg:CA Tryz.prog 101=true:=by kernel_rfl
theorem aCh:CA Tryz.prog 122=true:=by kernel_rfl
theorem x8:CA Tryz.prog 124=true:=by kernel_rfl
theorem aCi:CA Tryz.prog 127=true:=by kernel_rfl
theorem aCj:CA Tryz.prog 128=true:=by kernel_rfl
theorem uS:CA Tryz.prog 142=true:=by kernel_rfl
theorem y8:CA Tryz.prog 145=true:=by kernel_rfl
theorem aCk:CA Tryz.prog 170=true:=by kernel_rfl
theorem aCl:CA Tryz.prog 175=true:=by kernel_rfl
theorem aCm:CA Tryz.prog 205=true:=by kernel_rfl
theorem aCn:CA Tryz.prog 207=true:=by kernel_rfl
theorem aCo:CA Tryz.prog 208=true:=by kernel_rfl
theorem aCp:CA Tryz.prog 213=true:=by kernel_rfl
theorem aCq:CA Tryz.prog 216=true:=by kernel_rfl
theorem aCr:CA Tryz.prog 221=true:=by kernel_rfl
theorem aCs:CA Tryz.prog 224=true:=by kernel_rfl
theorem aCt:CA Tryz.prog 225=true:=by kernel_rfl
theorem A8:CA Tryz.prog 226=true:=by kernel_rfl
theorem aCu:CA Tryz.prog 255=true:=by kernel_rfl
theorem FP:CA Tryz.prog 372=true:=by kernel_rfl
def en:Env Tryz.prog:=Env.of tys aB6
end Go.Proofs.YtldmfjcgjdchcaaGreatDoor
namespace Go.RL.Au
set_option linter.unusedSimpArgs false
set_option linter.unusedVariables false
inductive Th where
 | pw|wr|wk|wi|d1|d2|d3|d4|quit
 deriving DecidableEq
structure Sh where
 c:Nat
 w:Nat
 q:Nat
 deriving DecidableEq
def Th.mv(s:Sh):Th->List (Th×Sh)
 | .pw=> [(.wr,s)]
 | .wr=> [(.wk,s)]
 | .wk=> [(.wi,s)]
 | .wi=> [(.d1,s)]
 | .d1=> [(if s.c=1/\s.w=1 then .d2 else .quit,{ s with c:=s.c-1 })]
 | .d2=> [(.d3,s)]
 | .d3=> [(.d4,{ s with w:=0 })]
 | .d4=> [(.quit,{ s with q:=s.q+1 })]
 | .quit=> []
def Th.on:Th->Nat
 | .d2 | .d3 | .d4 | .quit=> 0
 | _=> 1
def Th.dd:Th->Nat
 | .d2 | .d3=> 1
 | _=> 0
def Th.LP:Th->Nat
 | .d4=> 1
 | _=> 0
def sm(f:Th->Nat):List Th->Nat
 | []=> 0
 | t::l=> f t+sm f l
theorem PL {f:Th->Nat}:∀ {l:List Th} {i:Nat} {t:Th},l[i]? =some t->∀t':Th,sm f (l.set i t')+f t=sm f l+f t'
 | a::l,0,t,h,t'=> by
  simp at h
  subst h;simp only[List.set_cons_zero,sm];omega
 | a::l,i+1,t,h,t'=> by
  have:=PL (f:=f) (l:=l) (i:=i) (t:=t) (by simpa using h) t';simp only[List.set_cons_succ,sm];omega
 | [],_,_,h,_=> by simp at h
theorem PK {f:Th->Nat}:∀ {l:List Th} {i:Nat} {t:Th},l[i]? =some t->f t<=sm f l
 | a::l,0,t,h=> by
  simp at h
  subst h;simp only[sm];omega
 | a::l,i+1,t,h=> by
  have:=PK (f:=f) (l:=l) (i:=i) (t:=t) (by simpa using h);simp only[sm];omega
 | [],_,_,h=> by simp at h
theorem CO(f:Th->Nat)(t:Th):∀l:List Th,sm f (l++[t])=sm f l+f t
 | []=> by simp[sm]
 | a::l=> by simp only[List.cons_append,sm,CO f t l];omega
theorem K3 {f:Th->Nat}:∀ {l:List Th},0<sm f l->∃(i:Nat) (t:Th),l[i]? =some t/\0<f t
 | a ::l,h=> by
  simp only[sm] at h;by_cases h0:0<f a
  ·exact⟨0,a,by simp,h0⟩
  ·obtain⟨i,t,h1,h2⟩:=K3 (f:=f) (l:=l) oM;exact⟨i+1,t,by simpa using h1,h2⟩
 | [],h=> by simp[sm] at h
theorem NV {f:Th->Nat}(hf:∀t,f t<=1):∀l:List Th,sm f l<=l.length
 | []=> by simp[sm]
 | a::l=> by
  have:=NV hf l;have:=hf a;simp only[sm,List.length_cons];omega
inductive Mn where
 | kd|ki|ka|kr|ke|go
 | wd|w1|w2 (o:Nat)|wm|ws|w4|we|aq|ret
 deriving DecidableEq
def Mn.mv(s:Sh):Mn->List (Mn×Sh)
 | .kd=> [(.ki,s)]
 | .ki=> [(.ka,s)]
 | .ka=> [(if s.c=0 then .kr else .ke,{ s with c:=s.c+1 })]
 | .kr=> [(.ke,s)]
 | .ke=> [(.go,s)]
 | .go=> []
 | .wd=> [(.w1,s)]
 | .w1=> [(if s.c=0 then .we else .w2 s.c,s)]
 | .w2 o=> if s.c=o then [(.wm,{ s with w:=1 })] else [(.w1,s)]
 | .wm=> [(.ws,s)]
 | .ws=> if s.q=0 then [] else [(.w4,{ s with q:=s.q-1 })]
 | .w4=> [(.we,s)]
 | .we=> [(.aq,s)]
 | .aq=> [(.ret,s)]
 | .ret=> []
def Mn.ahead:Mn->Nat
 | .kr | .ke | .go=> 1
 | _=> 0
def Mn.early:Mn->Nat
 | .kd | .ki | .ka | .kr | .ke | .go=> 1
 | _=> 0
def Mn.waits:Mn->Nat
 | .wm | .ws=> 1
 | _=> 0
def Mn.oG:Mn->Nat
 | .w4 | .we | .aq | .ret=> 1
 | _=> 0
structure IM(ths:List Th)(mn:Mn)(c w q:Nat):Prop where
 g1:c=sm Th.on ths+mn.ahead
 g2:mn.waits=0->w=0/\q=0/\sm Th.dd ths=0/\sm Th.LP ths=0
 g3:mn.waits=1->(0<c->w=1/\q=0/\sm Th.dd ths=0/\sm Th.LP ths=0)/\(c=0->sm Th.dd ths+sm Th.LP ths+q=1/\w=sm Th.dd ths)
 g4:mn.oG=1->c=0
structure Inv(n:Nat)(ths:List Th)(mn:Mn)(s:Sh):Prop where
 len:ths.length<=n
 n7:n<=6
 all:mn.early=0->ths.length=n
 more:mn.early=1->ths.length<n
 G:IM ths mn s.c s.w s.q
 g5:∀o,mn=.w2 o->0<o/\o<=6
def Th.ok(s:Sh):Th->Prop
 | .d1=> 0<s.c
 | .d2 | .d3=> s.c=0/\s.w=1
 | .d4=> s.q=0
 | _=> True
def Sh.fits(s:Sh):Prop:=s.c<=6/\s.w<=1/\s.q<=1
theorem on1(t:Th):t.on<=1:=by cases t <;> simp[Th.on]
theorem GL(mn:Mn):mn.ahead<=mn.early/\mn.early<=1/\mn.waits<=1/\mn.oG<=1/\mn.waits+mn.oG<=1:=by cases mn <;> simp[Mn.ahead,Mn.early,Mn.waits,Mn.oG]
theorem Inv.fits {n:Nat}{ths:List Th}{mn:Mn}{s:Sh}(h:Inv n ths mn s):s.fits:=by
 have hon:=NV on1 ths;obtain⟨r1,r2,r3,r4,r5⟩:=GL mn;have hlen:=h.len;have hn7:=h.n7;have hc:s.c<=6:=by
  have g1:=h.G.g1;rcases Nat.eq_zero_or_pos mn.early with e|e
  ·omega
  ·have:=h.more oM;omega
 have hwq:s.w<=1/\s.q<=1:=by
  rcases Nat.eq_zero_or_pos mn.waits with e|e
  ·have:=h.G.g2 e;omega
  ·have:=h.G.g3 oM;rcases Nat.eq_zero_or_pos s.c with e2|e2
   ·have:=this.2 e2;omega
   ·have:=this.1 e2;omega
 exact⟨hc,hwq.1,hwq.2⟩
theorem Inv.ok {n:Nat}{ths:List Th}{mn:Mn}{s:Sh}(h:Inv n ths mn s){i:Nat}{t:Th}(hi:ths[i]? =some t):t.ok s/\s.fits:=by
 refine⟨?_,h.fits⟩;have a9:=PK (f:=Th.on) hi;have a10:=PK (f:=Th.dd) hi;have a11:=PK (f:=Th.LP) hi;have g1:=h.G.g1;have hr:=GL mn;cases t <;> simp only[Th.ok,Th.on,Th.dd,Th.LP] at * <;> try trivial
 case d1=> omega
 case d2|d3=>
  rcases Nat.eq_zero_or_pos mn.waits with e|e
  ·have:=h.G.g2 e;omega
  ·have:=h.G.g3 oM;rcases Nat.eq_zero_or_pos s.c with e2|e2
   ·have:=this.2 e2;omega
   ·have:=this.1 e2;omega
 case d4=>
  rcases Nat.eq_zero_or_pos mn.waits with e|e
  ·have:=h.G.g2 e;omega
  ·have:=h.G.g3 oM;rcases Nat.eq_zero_or_pos s.c with e2|e2
   ·have:=this.2 e2;omega
   ·have:=this.1 e2;omega
theorem Inv.worker {n:Nat}{ths:List Th}{mn:Mn}{s s':Sh}{i:Nat}{t':Th}(h:Inv n ths mn s)(hG:IM (ths.set i t') mn s'.c s'.w s'.q):Inv n (ths.set i t') mn s':=
 ⟨by rw[List.length_set];exact h.len,h.n7,fun e=> by rw[List.length_set];exact h.all e,fun e=> by rw[List.length_set];exact h.more e,hG,h.g5⟩
theorem IM.same {ths ths':List Th}{mn:Mn}{c w q:Nat}(h:IM ths mn c w q)(h1:sm Th.on ths'=sm Th.on ths)(h2:sm Th.dd ths'=sm Th.dd ths)(h3:sm Th.LP ths'=sm Th.LP ths):IM ths' mn c w q:=
 ⟨by rw[h1];exact h.g1,by rw[h2,h3];exact h.g2,by rw[h2,h3];exact h.g3,h.g4⟩
theorem Inv.step {n:Nat}{ths:List Th}{mn:Mn}{s s':Sh}{i:Nat}{t t':Th}(h:Inv n ths mn s)(hi:ths[i]? =some t)(hm:(t',s')∈t.mv s):Inv n (ths.set i t') mn s':=by
 have MC:=h.ok hi;have b9:=PL (f:=Th.on) hi t';have b10:=PL (f:=Th.dd) hi t';have b11:=PL (f:=Th.LP) hi t';obtain⟨g1,g2,g3,g4⟩:=h.G;have hr:=GL mn;refine h.worker ?_;cases t <;> simp only[Th.mv] at hm
 case quit=> cases hm
 case d1=>
  have o1:0<s.c:=MC.1;simp only[List.mem_singleton,Prod.mk.injEq] at hm;obtain⟨ht,rfl⟩:=hm;by_cases hc:s.c=1/\s.w=1
  ·rw[if_pos hc] at ht;subst ht;simp only[Th.on,Th.dd,Th.LP] at b9 b10 b11;exact⟨by simp only;omega,fun e=> by have:=g2 e;omega,fun e=> ⟨fun e2=> by simp only at e2;omega,fun _=> by have:=(g3 e).1 o1;simp only;omega⟩,fun e=> by have:=g4 e;omega⟩
  ·rw[if_neg hc] at ht;subst ht;simp only[Th.on,Th.dd,Th.LP] at b9 b10 b11;refine⟨by simp only;omega,fun e=> by have:=g2 e;simp only;omega,fun e=> ⟨fun e2=> ?_,fun e2=> ?_⟩,fun e=> by have:=g4 e;omega⟩
   ·have:=(g3 e).1 o1;simp only;omega
   ·have:=(g3 e).1 o1;simp only at e2;omega
 case d2=>
  simp only[List.mem_singleton,Prod.mk.injEq] at hm;obtain⟨rfl,rfl⟩:=hm;simp only[Th.on,Th.dd,Th.LP] at b9 b10 b11;exact h.G.same oM oM oM
 case d3=>
  have o1:s.c=0/\s.w=1:=MC.1;have b1:=PK (f:=Th.dd) hi;simp only[List.mem_singleton,Prod.mk.injEq] at hm;obtain⟨rfl,rfl⟩:=hm;simp only[Th.on,Th.dd,Th.LP] at b1 b9 b10 b11;exact⟨by simp only;omega,fun e=> by have:=g2 e;omega,fun e=> ⟨fun e2=> by simp only at e2;omega,fun e2=> by have:=(g3 e).2 e2;simp only;omega⟩,fun e=> g4 e⟩
 case d4=>
  have o1:s.q=0:=MC.1;have b1:=PK (f:=Th.LP) hi;simp only[List.mem_singleton,Prod.mk.injEq] at hm;obtain⟨rfl,rfl⟩:=hm;simp only[Th.on,Th.dd,Th.LP] at b1 b9 b10 b11;exact⟨by simp only;omega,fun e=> by have:=g2 e;omega,fun e=> ⟨fun e2=> by have:=(g3 e).1 e2;omega,fun e2=> by have:=(g3 e).2 e2;simp only;omega⟩,fun e=> g4 e⟩
 all_goals
  simp only[List.mem_singleton,Prod.mk.injEq] at hm;obtain⟨rfl,rfl⟩:=hm;simp only[Th.on,Th.dd,Th.LP] at b9 b10 b11;exact h.G.same oM oM oM
theorem Inv.main {n:Nat}{ths:List Th}{mn mn':Mn}{s s':Sh}(h:Inv n ths mn s)(hm:(mn',s')∈mn.mv s):Inv n ths mn' s':=by
 obtain⟨h1,h2,h3,h3',⟨g1,g2,g3,g4⟩,g5⟩:=h;have hon:=NV on1 ths;cases mn
 case go=> cases hm
 case ret=> cases hm
 case ka=>
  simp only[Mn.mv,List.mem_singleton,Prod.mk.injEq] at hm;obtain⟨hk,rfl⟩:=hm;simp only[Mn.early,Mn.waits,Mn.oG,Mn.ahead] at *;by_cases hc:s.c=0
  ·rw[if_pos hc] at hk;subst hk;exact⟨h1,h2,by simp only[Mn.early];omega,by simp only[Mn.early];omega,(show IM ths .kr (s.c+1) (s.w) (s.q) from⟨by simp only[Mn.ahead];omega,by simp only[Mn.waits];omega,by simp only[Mn.waits];omega,by simp only[Mn.oG];omega⟩),fun o e=> by cases e⟩
  ·rw[if_neg hc] at hk;subst hk;exact⟨h1,h2,by simp only[Mn.early];omega,by simp only[Mn.early];omega,(show IM ths .ke (s.c+1) (s.w) (s.q) from⟨by simp only[Mn.ahead];omega,by simp only[Mn.waits];omega,by simp only[Mn.waits];omega,by simp only[Mn.oG];omega⟩),fun o e=> by cases e⟩
 case w1=>
  simp only[Mn.mv,List.mem_singleton,Prod.mk.injEq] at hm;obtain⟨hk,rfl⟩:=hm;simp only[Mn.early,Mn.waits,Mn.oG,Mn.ahead] at *;by_cases hc:s'.c=0
  ·rw[if_pos hc] at hk;subst hk;exact⟨h1,h2,by simp only[Mn.early];omega,by simp only[Mn.early];omega,(show IM ths .we (s'.c) (s'.w) (s'.q) from⟨by simp only[Mn.ahead];omega,by simp only[Mn.waits];omega,by simp only[Mn.waits];omega,by simp only[Mn.oG];omega⟩),fun o e=> by cases e⟩
  ·rw[if_neg hc] at hk;subst hk;exact⟨h1,h2,by simp only[Mn.early];omega,by simp only[Mn.early];omega,(show IM ths (.w2 s'.c) (s'.c) (s'.w) (s'.q) from⟨by simp only[Mn.ahead];omega,by simp only[Mn.waits];omega,by simp only[Mn.waits];omega,by simp only[Mn.oG];omega⟩),fun o e=> by cases e;omega⟩
 case w2 o=>
  have o1:=g5 o rfl;have G2:=g2 rfl;have e0:=h3 rfl;simp only[Mn.ahead] at g1;simp only[Mn.mv] at hm;split at hm <;> simp only[List.mem_singleton,Prod.mk.injEq] at hm <;> obtain⟨rfl,rfl⟩:=hm
  ·rename_i hc
   exact⟨h1,h2,fun _=> e0,fun e=> (by cases e),(show IM ths .wm s.c 1 s.q from⟨by simp only[Mn.ahead];omega,fun e=> (by cases e),fun _=> ⟨fun _=> ⟨rfl,G2.2.1,G2.2.2.1,G2.2.2.2⟩,fun e=> by omega⟩,fun e=> (by cases e)⟩),fun o e=> by cases e⟩
  ·exact⟨h1,h2,fun _=> e0,fun e=> (by cases e),(show IM ths .w1 s'.c s'.w s'.q from⟨by simp only[Mn.ahead];omega,fun _=> G2,fun e=> (by cases e),fun e=> (by cases e)⟩),fun o e=> by cases e⟩
 case ws=>
  have G3:=g3 rfl;simp only[Mn.mv] at hm;split at hm
  ·cases hm
  ·simp only[List.mem_singleton,Prod.mk.injEq] at hm;obtain⟨rfl,rfl⟩:=hm;simp only[Mn.early,Mn.waits,Mn.oG,Mn.ahead] at *;exact⟨h1,h2,by simp only[Mn.early];omega,by simp only[Mn.early];omega,(show IM ths .w4 (s.c) (s.w) (s.q-1) from⟨by simp only[Mn.ahead];omega,by simp only[Mn.waits];omega,by simp only[Mn.waits];omega,by simp only[Mn.oG];omega⟩),fun o e=> by cases e⟩
 all_goals
  simp only[Mn.mv,List.mem_singleton,Prod.mk.injEq] at hm;obtain⟨rfl,rfl⟩:=hm;simp only[Mn.early,Mn.waits,Mn.oG,Mn.ahead] at *;exact⟨h1,h2,by simp only[Mn.early];omega,by simp only[Mn.early];omega,⟨by simp only[Mn.ahead];omega,by simp only[Mn.waits];omega,by simp only[Mn.waits];omega,by simp only[Mn.oG];omega⟩,fun o e=> by cases e⟩
theorem Inv.fork {n:Nat}{ths:List Th}{s:Sh}(h:Inv n ths .go s):Inv n (ths++[.pw]) (if ths.length+1<n then .kd else .wd) s:=by
 obtain⟨h1,h2,h3,h3',⟨g1,g2,g3,g4⟩,g5⟩:=h;have G2:=g2 rfl;have H3:=h3' rfl;simp only[Mn.early,Mn.waits,Mn.oG,Mn.ahead] at *;have a9:=CO Th.on .pw ths;have a10:=CO Th.dd .pw ths;have a11:=CO Th.LP .pw ths;simp only[Th.on,Th.dd,Th.LP] at a9 a10 a11;have hlen:(ths++[Th.pw]).length=ths.length+1:=by simp
 by_cases hc:ths.length+1<n
 ·rw[if_pos hc];exact⟨oM,h2,by simp only[Mn.early];omega,by simp only[Mn.early];omega,⟨by simp only[Mn.ahead];omega,by simp only[Mn.waits];omega,by simp only[Mn.waits];omega,by simp only[Mn.oG];omega⟩,fun o e=> by cases e⟩
 ·rw[if_neg hc];exact⟨oM,h2,by simp only[Mn.early];omega,by simp only[Mn.early];omega,⟨by simp only[Mn.ahead];omega,by simp only[Mn.waits];omega,by simp only[Mn.waits];omega,by simp only[Mn.oG];omega⟩,fun o e=> by cases e⟩
theorem Inv.start {n:Nat}(h2:n<=6):Inv n [] (if 0<n then .kd else .wd) ⟨0,0,0⟩:=by
 by_cases h1:0<n
 ·rw[if_pos h1];exact⟨by simp,h2,by simp[Mn.early],fun _=> h1,⟨by simp[sm,Mn.ahead],by simp[sm],by simp[Mn.waits],by simp[Mn.oG]⟩,fun o e=> by cases e⟩
 ·rw[if_neg h1];exact⟨by simp,h2,fun _=> by simp;omega,by simp[Mn.early],⟨by simp[sm,Mn.ahead],by simp[sm],by simp[Mn.waits],by simp[Mn.oG]⟩,fun o e=> by cases e⟩
def Mn.ok(s:Sh):Mn->Prop
 | .w1=> s.w=0
 | .w2 o=> s.w=0/\0<o/\o<=6
 | .ka=> s.w=0
 | .w4=> s.c=0/\s.w=0
 | _=> True
theorem Inv.mok {n:Nat}{ths:List Th}{mn:Mn}{s:Sh}(h:Inv n ths mn s):mn.ok s/\s.fits:=by
 refine⟨?_,h.fits⟩;have g5:=h.g5;have g2:=h.G.g2;have g4:=h.G.g4;cases mn
 case w2 o=> exact⟨(g2 rfl).1,g5 o rfl⟩
 case w1=> exact(g2 rfl).1
 case ka=> exact(g2 rfl).1
 case w4=> exact⟨g4 rfl,(g2 rfl).1⟩
 all_goals trivial
theorem Inv.live {n:Nat}{ths:List Th}{mn:Mn}{s:Sh}(h:Inv n ths mn s)(h1:mn≠ .go)(h2:mn≠ .ret)(h3:mn.mv s= []):∃(i:Nat) (t:Th),ths[i]? =some t/\t.mv s≠ []:=by
 have hmn:mn=.ws/\s.q=0:=by
  cases mn <;> simp only[Mn.mv] at h3
  case go=> exact absurd rfl h1
  case ret=> exact absurd rfl h2
  case ws=>
   split at h3
   ·exact⟨rfl,by assumption⟩
   ·cases h3
  case w2 o=> split at h3 <;> cases h3
  all_goals cases h3
 obtain⟨rfl,hq⟩:=hmn;refine Classical.byContradiction fun dC=> ?_;have M0:∀(i:Nat) (t:Th),ths[i]? =some t->t=.quit:=fun i t hi=> by
  have:t.mv s= []:=Classical.byContradiction fun e=> dC ⟨i,t,hi,e⟩;cases t <;> simp only[Th.mv] at this
  case quit=> rfl
  all_goals cases this
 have zero:∀f:Th->Nat,f .quit=0->sm f ths=0:=by
  intro f e1;refine Classical.byContradiction fun hp=> ?_;obtain⟨i,t,hi,ht⟩:=K3 (f:=f) (l:=ths) oM;rw[M0 i t hi] at ht;omega
 have z7:=zero Th.on rfl;have z8:=zero Th.dd rfl;have z9:=zero Th.LP rfl;have g3:=h.G.g3 rfl;have g1:=h.G.g1;simp only[Mn.ahead] at g1;have:=g3.2 oM;omega
theorem Inv.done {n:Nat}{ths:List Th}{mn:Mn}{s:Sh}(h:Inv n ths mn s)(hp:mn.oG=1):ths.length=n/\∀(i:Nat) (t:Th),ths[i]? =some t->t=.quit:=by
 have he:mn.early=0/\mn.waits=0/\mn.ahead=0:=by cases mn <;> simp[Mn.oG] at hp <;> simp[Mn.early,Mn.waits,Mn.ahead]
 refine⟨h.all he.1,fun i t hi=> ?_⟩;have h1:=PK (f:=Th.on) hi;have h2:=PK (f:=Th.dd) hi;have h3:=PK (f:=Th.LP) hi;have h4:=h.G.g2 he.2.1;have h5:=h.G.g4 hp;have h6:=h.G.g1;cases t <;> simp only[Th.on,Th.dd,Th.LP] at h1 h2 h3 <;> first|rfl|omega
def Th.wt:Th->Nat
 | .pw | .wr | .wk | .wi | .d1=> 5
 | .d2 | .d3=> 4
 | .d4=> 3
 | .quit=> 0
def Th.lam:Th->Nat
 | .pw=> 20
 | .wr=> 19
 | .wk=> 18
 | .wi=> 17
 | .d1=> 16
 | .d2=> 2
 | .d3=> 1
 | .d4=> 1
 | .quit=> 0
theorem aC0(t:Th):t.lam<=63:=by cases t <;> simp only[Th.lam] <;> omega
theorem Th.VZ {s s':Sh}{t t':Th}(MC:t.ok s)(hm:(t',s')∈t.mv s):(s'=s/\t'.wt<=t.wt/\t'.lam<t.lam)\/t'.wt+2*s'.q<t.wt+2*s.q:=by
 cases t <;> simp only[Th.mv] at hm
 case quit=> cases hm
 case d1=>
  simp only[List.mem_singleton,Prod.mk.injEq] at hm;obtain⟨rfl,rfl⟩:=hm;exact .inr (by split <;> simp only[Th.wt] <;> omega)
 case d3=>
  simp only[List.mem_singleton,Prod.mk.injEq] at hm;obtain⟨rfl,rfl⟩:=hm;exact .inr (by simp only[Th.wt];omega)
 case d4=>
  simp only[List.mem_singleton,Prod.mk.injEq] at hm;obtain⟨rfl,rfl⟩:=hm;exact .inr (by simp only[Th.wt];omega)
 all_goals
  simp only[List.mem_singleton,Prod.mk.injEq] at hm;obtain⟨rfl,rfl⟩:=hm;exact .inl ⟨rfl,by decide,by decide⟩
def Mn.wt:Mn->Nat
 | .kd | .ki | .ka=> 20
 | .kr | .ke | .go=> 19
 | .wd | .w1 | .w2 _=> 18
 | .wm | .ws=> 17
 | _=> 14
def Mn.lam(s:Sh):Mn->Nat
 | .kd=> 3
 | .ki=> 2
 | .ka=> 1
 | .kr=> 3
 | .ke=> 2
 | .go=> 1
 | .wd=> 5
 | .w1=> 3
 | .w2 o=> if o=s.c then 2 else 4
 | .wm=> 2
 | .ws=> 1
 | .w4=> 4
 | .we=> 3
 | .aq=> 2
 | .ret=> 1
theorem Mn.VZ {s s':Sh}{t t':Mn}(hm:(t',s')∈t.mv s):(s'=s/\t'.wt<=t.wt/\t'.lam s<t.lam s)\/t'.wt+2*s'.q<t.wt+2*s.q:=by
 cases t <;> simp only[Mn.mv] at hm
 case go=> cases hm
 case ret=> cases hm
 case ka=>
  simp only[List.mem_singleton,Prod.mk.injEq] at hm;obtain⟨rfl,rfl⟩:=hm;exact .inr (by split <;> simp only[Mn.wt] <;> omega)
 case w1=>
  simp only[List.mem_singleton,Prod.mk.injEq] at hm;obtain⟨rfl,rfl⟩:=hm;split
  ·exact .inr (by simp only[Mn.wt];omega)
  ·exact .inl ⟨rfl,by simp only[Mn.wt];omega,by simp[Mn.lam]⟩
 case w2 o=>
  split at hm <;> simp only[List.mem_singleton,Prod.mk.injEq] at hm <;> obtain⟨rfl,rfl⟩:=hm
  ·exact .inr (by simp only[Mn.wt];omega)
  ·rename_i h0
   exact .inl ⟨rfl,by simp only[Mn.wt];omega,by simp only[Mn.lam];rw[if_neg (fun e=> h0 e.symm)];omega⟩
 case ws=>
  split at hm
  ·cases hm
  ·simp only[List.mem_singleton,Prod.mk.injEq] at hm;obtain⟨rfl,rfl⟩:=hm;exact .inr (by simp only[Mn.wt];omega)
 all_goals
  simp only[List.mem_singleton,Prod.mk.injEq] at hm;obtain⟨rfl,rfl⟩:=hm;exact .inl ⟨rfl,by simp only[Mn.wt];omega,by simp only[Mn.lam];omega⟩
def phi(n:Nat)(ths:List Th)(mn:Mn)(s:Sh):Nat:=sm Th.wt ths+2*s.q+mn.wt+100*(n-ths.length)
def aO(ths:List Th)(mn:Mn)(s:Sh):Nat:=sm Th.lam ths+mn.lam s
def mu(n:Nat)(ths:List Th)(mn:Mn)(s:Sh):Nat:=phi n ths mn s*512+aO ths mn s
theorem q9 {f:Th->Nat}{b:Nat}(hf:∀t,f t<=b):∀l:List Th,sm f l<=b*l.length
 | []=> by simp[sm]
 | a::l=> by
  have:=q9 hf l;have:=hf a;simp only[sm,List.length_cons,Nat.mul_add];omega
theorem Mn.aED(s:Sh)(t:Mn):t.lam s<=5:=by cases t <;> simp only[Mn.lam] <;> first|omega|(split <;> omega)
theorem DL {ths:List Th}{mn:Mn}{s:Sh}(h:ths.length<=6):aO ths mn s<512:=by
 have h1:=q9 aC0 ths;have h2:=mn.aED s;unfold aO;omega
theorem fY {n:Nat}{ths:List Th}{mn:Mn}{s s':Sh}{i:Nat}{t t':Th}(h:Inv n ths mn s)(hi:ths[i]? =some t)(hm:(t',s')∈t.mv s):mu n (ths.set i t') mn s'<mu n ths mn s:=by
 have h1:=PL (f:=Th.wt) hi t';have h2:=h.len;have h3:=h.n7;have hl:(ths.set i t').length=ths.length:=by simp
 rcases Th.VZ (h.ok hi).1 hm with ⟨rfl,h4,h5⟩|h4
 ·have h6:=PL (f:=Th.lam) hi t';unfold mu phi aO;rw[hl];omega
 ·have h6:=DL (ths:=ths.set i t') (mn:=mn) (s:=s') oM;unfold mu phi;rw[hl];omega
theorem F7 {n:Nat}{ths:List Th}{mn mn':Mn}{s s':Sh}(h:Inv n ths mn s)(hm:(mn',s')∈mn.mv s):mu n ths mn' s'<mu n ths mn s:=by
 have h2:=h.len;have h3:=h.n7;rcases Mn.VZ hm with ⟨rfl,h4,h5⟩|h4
 ·unfold mu phi aO;omega
 ·have h6:=DL (ths:=ths) (mn:=mn') (s:=s') oM;unfold mu phi;omega
theorem E7 {n:Nat}{ths:List Th}{s:Sh}{mn:Mn}(h:Inv n ths .go s)(hw:mn.wt<=20):mu n (ths++[.pw]) mn s<mu n ths .go s:=by
 have h2:=h.more rfl;have h3:=h.n7;have h6:=DL (ths:=ths++[.pw]) (mn:=mn) (s:=s) (by simp;omega);have h7:=CO Th.wt .pw ths;have h8:Th.pw.wt=5:=rfl;have h9:Mn.go.wt=19:=rfl;unfold mu phi;rw[h7,h8,h9];simp only[List.length_append,List.length_cons,List.length_nil];omega
end Go.RL.Au
namespace Go.RL
open Go.Conc
inductive zB where
 | stop
 | step (f:World->zB)
 | phase (f:View->Goroutine->zB)
inductive zB.Lt:zB->zB->Prop where
 | step (f:World->zB) (w:World):zB.Lt (f w) (.step f)
 | phase (f:View->Goroutine->zB) (H:View) (g:Goroutine):zB.Lt (f H g) (.phase f)
theorem zB.wf:WellFounded zB.Lt:=⟨fun a=> by
 induction a with
 | stop=> exact⟨_,fun y h=> by cases h⟩
 | step f ih=> exact⟨_,fun y h=> by cases h;exact ih _⟩
 | phase f ih=> exact⟨_,fun y h=> by cases h;exact ih _ _⟩⟩
def Tr {P:Program}(M:Md P)(St:View->Goroutine->Prop):zB->View->Goroutine->Prop
 | .stop,H,g=> St H g
 | .step f,H,g=> g.status=.running/\∀w,Sat H w->M.ok w->∃g' w' es H',stepG P M.main g w=.go g' w' es/\Trans H w H' w' es/\Tr M St (f w) H' g'
 | .phase f,H,g=> ∃Po,M.Ph H g Po/\∀H' g',Po H' g'->Tr M St (f H' g') H' g'
theorem T.FV {P:Program}{M:Md P}{St:View->Goroutine->Prop}{H:View}{g:Goroutine}(h:T M St H g):∃ρ,Tr M St ρ H g:=by
 refine h.ind (X:=fun H g=> ∃ρ,Tr M St ρ H g) (fun H g hs=> ⟨.stop,hs⟩) (fun H g hs=> ?_) (fun H g Po hp hk=> ?_)
 ·have:∀w,∃ρ,Sat H w->M.ok w->∃g' w' es H',stepG P M.main g w=.go g' w' es/\Trans H w H' w' es/\Tr M St ρ H' g':=fun w=> by
   by_cases hw:Sat H w/\M.ok w
   ·obtain⟨g',w',es,H',h1,h2,_,ρ,h3⟩:=hs.2 w hw.1 hw.2;exact⟨ρ,fun _ _=> ⟨g',w',es,H',h1,h2,h3⟩⟩
   ·exact⟨.stop,fun h h'=> absurd ⟨h,h'⟩ hw⟩
  obtain⟨f,hf⟩:=Classical.axiomOfChoice this;exact⟨.step f,hs.1,hf⟩
 ·have:∀x:View×Goroutine,∃ρ,Po x.1 x.2->Tr M St ρ x.1 x.2:=fun x=> by
   by_cases hx:Po x.1 x.2
   ·obtain⟨_,ρ,h3⟩:=hk _ _ hx;exact⟨ρ,fun _=> h3⟩
   ·exact⟨.stop,fun h=> absurd h hx⟩
  obtain⟨f,hf⟩:=Classical.axiomOfChoice this;exact⟨.phase fun H g=> f (H,g),Po,hp,fun H' g' h=> hf (H',g') h⟩
def Mw(P:Program)(main:Bool)(ok:World->Prop):Md P:=⟨main,ok,fun _ _ _=> False,fun _ _ _ _ h=> h.elim⟩
inductive kW:List zB->List zB->Prop where
 | head {a b:zB} (l:List zB):zB.Lt a b->kW (a::l) (b::l)
 | tail (a:zB) {l m:List zB}:kW l m->kW (a::l) (a::m)
theorem kW.set {l:List zB}:∀ {i:Nat} {b a:zB},l[i]? =some b->zB.Lt a b->kW (l.set i a) l:=by
 induction l with
 | nil=> intro i b a h;simp at h
 | cons x l ih=>
  intro i b a h xB;cases i with
  | zero=> simp at h;subst h;exact .head l xB
  | succ i=> exact .tail x (ih (by simpa using h) xB)
theorem kW.wf:WellFounded kW:=⟨fun l=> by
 induction l with
 | nil=> exact⟨_,fun y h=> by cases h⟩
 | cons a l ih=>
  induction a using zB.wf.induction generalizing l with
  | _ a iha=>
   induction ih with
   | intro l hl ihl=>
    refine⟨_,fun y h=> ?_⟩;cases h with
    | head _ xB=> exact iha _ xB l ⟨l,hl⟩
    | tail _ xB=> exact ihl _ xB⟩
end Go.RL
namespace Go.RL
open Go.Conc Go.ConcN
open Go.ConcR (stA smA rd wr mk)
open Go.ConcM (muA)
def lb:Loc->Option Nat
 | .cell a=> some a.block
 | .obj r=> some r
 | _=> none
theorem aAF {l:Loc}{b:Nat}(h:lb l=some b):l.isMemory=true:=by
 cases l <;> simp[lb] at h <;> rfl
theorem aAy {l:Loc}(h:l.isMemory=true):∃b,lb l=some b:=by
 cases l <;> simp[Loc.isMemory] at h <;> exact⟨_,rfl⟩
def Act(base N g:Nat):Prop:=g=0\/(base<=g/\g<N)
structure TI(Mu Wg C base N hs:Nat)(H:Nat->View)(B:View)(t:Trace):Prop where
 nr:∀said,¬Race said t
 bd:∀i a b,touchAt t i=some a->lb a.loc=some b->b<hs
 kn:∀g,Act base N g->∀i a b f o,touchAt t i=some a->lb a.loc=some b->H g b=some (f,o)->(f=true\/a.write=true)->Knows t g i
 pl:∀(i:Nat) op a,t[i]? =some op->op.act.touch? =some a->a.kind=.plain->op.g<base->Knows t 0 i
 np:∀i a b,touchAt t i=some a->a.kind≠ .plain->lb a.loc=some b->(∀g,H g b=none)/\B b=none/\b≠C
 iY:∀(i:Nat) op a,t[i]? =some op->op.act.touch? =some a->a.kind≠ .plain->(a.kind=.said->op.g=0)/\(a.kind=.atomic->op.g≠0->¬t.heard i)
 sy:∀g,Act base N g->∀i a b,touchAt t i=some a->a.kind=.plain->lb a.loc=some b->b=Mu\/b=Wg->Knows t g i
 rel:∀a,NoRelease a t
 gs:∀(i:Nat) op,t[i]? =some op->op.g<N
 mem:∀i a,touchAt t i=some a->∃b,lb a.loc=some b
structure ZY(Mu Wg:Nat)(H:View)(g:Nat)(t:Trace)(u:Trace):Prop where
 own:∀op∈u,op.g=g
 touch:∀op∈u,∀x,op.act.touch? =some x->(x.kind=.plain/\∃b f o,lb x.loc=some b/\H b=some (f,o)/\(x.write=true->f=true))\/ 
  (x.kind≠ .plain/\(lb x.loc=some Mu\/lb x.loc=some Wg)/\(x.kind=.said->g=0))
 deaf:g≠0->∀(i:Nat) op x,t.size<=i->(t++u)[i]? =some op->op.act.touch? =some x->x.kind=.atomic->¬(t++u).heard i
 rel:∀op∈u,∀a,op.act≠ .mark (.release a)
section
variable {Mu Wg C base N hs:Nat}{H:Nat->View}{B:View}{t u:Trace}
theorem mB {i:Nat}{a:Touch}(h:touchAt (t++u) i=some a):(i<t.size/\touchAt t i=some a)\/(t.size<=i/\∃op,op∈u/\(t++u)[i]? =some op/\op.act.touch? =some a):=by
 obtain⟨x,hx,hxa⟩:=touch_of h;rcases getElem?_append_cases hx with ⟨hi,VJ⟩|⟨hi,hxu⟩
 ·exact .inl ⟨hi,by rw[touchAt_of VJ];exact hxa⟩
 ·exact .inr ⟨hi,x,hxu,hx,hxa⟩
theorem TI.grow {g hs':Nat}{H':View}(h:TI Mu Wg C base N hs H B t)(hg:Act base N g)(hgN:g<N)(hu:ZY Mu Wg H' g t u)
  (ext:∀b f o,H' b=some (f,o)->(∃o,H g b=some (f,o))\/(f=true/\hs<=b)) (hhs:hs<=hs') (aV:∀b x,H' b=some x->b<hs') (hMu:Mu<hs) (J8:Wg<hs)
  (S4:∀j,j≠g->∀b o,(H' b=some (true,o)->H j b=none)/\(H j b=some (true,o)->H' b=none)) (mM:∀j,H j Mu=none/\H j Wg=none) (hB:B Mu=none/\B Wg=none) (hC:C≠Mu/\C≠Wg):
  TI Mu Wg C base N hs' (upd H g H') B (t++u):=by
 have r7:H' Mu=none/\H' Wg=none:=by
  constructor
  ·cases hx:H' Mu with
   | none=> rfl
   | some x=>
    rcases ext Mu x.1 x.2 hx with ⟨o,ho⟩|⟨_,hle⟩
    ·rw[(mM g).1] at ho;cases ho
    ·omega
  ·cases hx:H' Wg with
   | none=> rfl
   | some x=>
    rcases ext Wg x.1 x.2 hx with ⟨o,ho⟩|⟨_,hle⟩
    ·rw[(mM g).2] at ho;cases ho
    ·omega
 have old:∀i a b f o,touchAt t i=some a->lb a.loc=some b->H' b=some (f,o)->∃o',H g b=some (f,o'):=by
  intro i a b f o ha hb hx;rcases ext b f o hx with h1|⟨_,hle⟩
  ·exact h1
  ·have:=h.bd i a b ha hb;omega
 refine⟨fun said=> ?_,?_,?_,?_,?_,?_,?_,?_,?_,?_⟩
 ·refine noRace_append (h.nr said) hu.own fun i a ha op kA b hb hc=> ?_;obtain⟨fR,JD,hwr,M0⟩:=hc;obtain⟨blk,FG⟩:=aAy (by simpa using JD);rcases hu.touch op kA b hb with ⟨hk,blk',f,o,h1,h2,h3⟩|⟨hk,h1,h2⟩
  ·rw[fR,h1] at FG;cases FG
   obtain⟨o',h4⟩:=old i a blk f o ha (by rw[fR];exact h1) h2;have LS:a.kind=.plain:=by
    refine Classical.byContradiction fun nB=> ?_;have:=(h.np i a blk ha nB (by rw[fR];exact h1)).1 g;rw[h4] at this;cases this
   refine h.kn g hg i a blk f o' ha (by rw[fR];exact h1) h4 ?_;rcases hwr with hw|hw
   ·exact .inr hw
   ·exact .inl (h3 hw)
  ·have jM:blk=Mu\/blk=Wg:=by
    rw[<-fR] at h1;rw[FG] at h1;rcases h1 with h1|h1 <;> cases h1 <;> simp
   rcases M0 with N8|N8|⟨_,UP,lU⟩
   ·exact h.sy g hg i a blk ha N8 FG jM
   ·exact absurd N8 hk
   ·obtain⟨x,hx,hxa⟩:=touch_of ha;have:=(h.iY i x a hx hxa (by rw[UP];simp)).1 UP;have h0:=h2 lU;have:=knows_own hx;rw[(h.iY i x a hx hxa (by rw[UP];simp)).1 UP] at this;rw[h0];exact this
 ·intro i a b ha hb;rcases mB ha with ⟨hi,tG⟩|⟨hi,op,kA,_,hx⟩
  ·exact Nat.lt_of_lt_of_le (h.bd i a b tG hb) hhs
  ·rcases hu.touch op kA a hx with ⟨_,b',f,o,h1,h2,_⟩|⟨_,h1,_⟩
   ·rw[h1] at hb;cases hb
    exact aV b _ h2
   ·rw[hb] at h1;rcases h1 with h1|h1 <;> cases h1 <;> omega
 ·intro j hj i a b f o ha hb hH hw;rcases mB ha with ⟨hi,tG⟩|⟨hi,op,kA,tD,hx⟩
  ·by_cases e:j=g
   ·subst e;rw[upd_same] at hH;obtain⟨o',h4⟩:=old i a b f o tG hb hH;exact(h.kn j hj i a b f o' tG hb h4 hw).app u
   ·rw[upd_ne H H' e] at hH;exact(h.kn j hj i a b f o tG hb hH hw).app u
  ·by_cases e:j=g
   ·subst e;have:=knows_own tD
    rwa [hu.own op kA] at this
   ·rw[upd_ne H H' e] at hH;rcases hu.touch op kA a hx with ⟨_,b',f',o',h1,h2,h3⟩|⟨_,h1,_⟩
    ·rw[h1] at hb;cases hb
     rcases hw with rfl|hw
     ·rw[(S4 j e b o).2 hH] at h2;cases h2
     ·have:=h3 hw;subst this;rw[(S4 j e b o').1 h2] at hH;cases hH
    ·rw[hb] at h1;rcases h1 with h1|h1 <;> cases h1
     ·rw[(mM j).1] at hH;cases hH
     ·rw[(mM j).2] at hH;cases hH
 ·intro i op a kA ha hk xB;rcases getElem?_append_cases kA with ⟨hi,tD⟩|⟨hi,yC⟩
  ·exact(h.pl i op a tD ha hk xB).app u
  ·have h1:=hu.own op yC;have h2:=knows_own kA;rcases hg with rfl|⟨SS,_⟩
   ·rwa [h1] at h2
   ·omega
 ·intro i a b ha hk hb;rcases mB ha with ⟨hi,tG⟩|⟨hi,op,kA,_,hx⟩
  ·obtain⟨h1,h2⟩:=h.np i a b tG hk hb;refine⟨fun j=> ?_,h2⟩;by_cases e:j=g
   ·subst e;rw[upd_same];cases hx:H' b with
    | none=> rfl
    | some x=>
     obtain⟨o',h4⟩:=old i a b x.1 x.2 tG hb hx;rw[h1 j] at h4;cases h4
   ·rw[upd_ne H H' e];exact h1 j
  ·rcases hu.touch op kA a hx with ⟨hp,_⟩|⟨_,h1,_⟩
   ·exact absurd hp hk
   ·rw[hb] at h1;rcases h1 with h1|h1 <;> cases h1
    ·exact⟨fun j=> by by_cases e:j=g;(subst e;rw[upd_same];exact r7.1);(rw[upd_ne H H' e];exact(mM j).1),hB.1,Ne.symm hC.1⟩
    ·exact⟨fun j=> by by_cases e:j=g;(subst e;rw[upd_same];exact r7.2);(rw[upd_ne H H' e];exact(mM j).2),hB.2,Ne.symm hC.2⟩
 ·intro i op a kA ha hk;rcases getElem?_append_cases kA with ⟨hi,tD⟩|⟨hi,yC⟩
  ·obtain⟨h1,h2⟩:=h.iY i op a tD ha hk;exact⟨h1,fun e e'=> by rw[heard_old hi];exact h2 e e'⟩
  ·have h1:=hu.own op yC;refine⟨fun e=> ?_,fun e e'=> hu.deaf (by rw[<-h1];exact e') i op a hi kA ha e⟩;rcases hu.touch op yC a ha with ⟨hp,_⟩|⟨_,_,h2⟩
   ·exact absurd hp hk
   ·rw[h1];exact h2 e
 ·intro j hj i a b ha hk hb zH;rcases mB ha with ⟨hi,tG⟩|⟨hi,op,kA,_,hx⟩
  ·exact(h.sy j hj i a b tG hk hb zH).app u
  ·rcases hu.touch op kA a hx with ⟨_,b',f,o,h1,h2,_⟩|⟨hp,_⟩
   ·rw[h1] at hb;cases hb
    rcases zH with rfl|rfl
    ·rw[r7.1] at h2;cases h2
    ·rw[r7.2] at h2;cases h2
   ·exact absurd hk hp
 ·exact fun a=> (h.rel a).app fun op kA=> hu.rel op kA a
 ·intro i op kA;rcases getElem?_append_cases kA with ⟨hi,tD⟩|⟨hi,yC⟩
  ·exact h.gs i op tD
  ·rw[hu.own op yC];exact hgN
 ·intro i a ha;rcases mB ha with ⟨hi,tG⟩|⟨hi,op,kA,_,hx⟩
  ·exact h.mem i a tG
  ·rcases hu.touch op kA a hx with ⟨_,b',f,o,h1,_⟩|⟨_,h1,_⟩
   ·exact⟨_,h1⟩
   ·exact h1.elim (fun e=> ⟨_,e⟩) fun e=> ⟨_,e⟩
def Tok(C base N:Nat)(t:Trace):Prop:=
 ∀(i:Nat) op a,t[i]? =some op->op.act.touch? =some a->lb a.loc=some C->(∀g,Act base N g->Knows t g i)\/∃κ,op.g=base+κ/\a.loc=.cell ⟨C,κ,none⟩
theorem Tok.grow(h:Tok C base N t)(hu:∀op∈u,∀x,op.act.touch? =some x->lb x.loc≠some C):Tok C base N (t++u):=by
 intro i op a kA ha hb;rcases getElem?_append_cases kA with ⟨hi,tD⟩|⟨hi,yC⟩
 ·exact(h i op a tD ha hb).imp (fun h1 g hg=> (h1 g hg).app u) id
 ·exact absurd hb (hu op yC a ha)
theorem Tok.own {κ:Nat}(h:Tok C base N t)(hy:∀op∈u,op.g=base+κ)(ha:∀op∈u,∀a,op.act.touch? =some a->a.kind=.plain/\a.loc=.cell ⟨C,κ,none⟩):Tok C base N (t++u):=by
 intro i op a kA hoa hb;rcases getElem?_append_cases kA with ⟨hi,tD⟩|⟨hi,yC⟩
 ·exact(h i op a tD hoa hb).imp (fun h1 g hg=> (h1 g hg).app _) id
 ·exact .inr ⟨κ,hy op yC,(ha op yC a hoa).2⟩
theorem TI.own {κ:Nat}(h:TI Mu Wg C base N hs H B t)(ht:Tok C base N t)(hN:base+κ<N)(hy:∀op∈u,op.g=base+κ)(ha:∀op∈u,∀a,op.act.touch? =some a->a.kind=.plain/\a.loc=.cell ⟨C,κ,none⟩)(hr:∀op∈u,∀a,op.act≠ .mark (.release a))
  (hH:∀g,H g C=none) (hC:C≠Mu/\C≠Wg) (hCs:C<hs):TI Mu Wg C base N hs H B (t++u):=by
 have hlb:∀op∈u,∀a,op.act.touch? =some a->lb a.loc=some C:=fun op kA a h1=> by rw[(ha op kA a h1).2];rfl
 have new:∀ {i:Nat} {a:Touch},touchAt (t++u) i=some a->(i<t.size/\touchAt t i=some a)\/∃op∈u,op.act.touch? =some a:=by
  intro i a h1;rcases mB h1 with h2|⟨_,op,kA,_,hx⟩
  ·exact .inl h2
  ·exact .inr ⟨op,kA,hx⟩
 refine⟨fun said=> ?_,fun i a b h1 h2=> ?_,fun g hg i a b f o h1 h2 h3 h4=> ?_,fun i op a h1 h2 h3 h4=> ?_,fun i a b h1 h2 h3=> ?_,fun i op a h1 h2 h3=> ?_,fun g hg i a b h1 h2 h3 h4=> ?_,fun a=> ?_,fun i op h1=> ?_,fun i a h1=> ?_⟩
 ·refine noRace_append (h.nr said) hy fun i a h1 op kA b hb hc=> ?_;obtain⟨fR,_⟩:=hc;obtain⟨z,hz,hza⟩:=touch_of h1;have R4:a.loc=.cell ⟨C,κ,none⟩:=by rw[fR];exact(ha op kA b hb).2
  rcases ht i z a hz hza (by rw[R4];rfl) with h2|⟨κ',h2,h3⟩
  ·exact h2 _ (.inr ⟨oM,hN⟩)
  ·rw[R4] at h3;have:κ=κ':=by injection h3 with h4;injection h4
   subst this;rw[<-h2];exact knows_own hz
 ·rcases new h1 with ⟨_,h3⟩|⟨op,kA,h3⟩
  ·exact h.bd i a b h3 h2
  ·rw[hlb op kA a h3] at h2;cases h2;exact hCs
 ·rcases new h1 with ⟨_,h5⟩|⟨op,kA,h5⟩
  ·exact(h.kn g hg i a b f o h5 h2 h3 h4).app _
  ·rw[hlb op kA a h5] at h2;cases h2;rw[hH g] at h3;cases h3
 ·rcases getElem?_append_cases h1 with ⟨_,h5⟩|⟨_,h5⟩
  ·exact(h.pl i op a h5 h2 h3 h4).app _
  ·have:=hy op h5;omega
 ·rcases new h1 with ⟨_,h5⟩|⟨op,kA,h5⟩
  ·exact h.np i a b h5 h2 h3
  ·exact absurd (ha op kA a h5).1 h2
 ·rcases getElem?_append_cases h1 with ⟨hi,h5⟩|⟨_,h5⟩
  ·obtain⟨h6,h7⟩:=h.iY i op a h5 h2 h3;exact⟨h6,fun e e'=> by rw[heard_old hi];exact h7 e e'⟩
  ·exact absurd (ha op h5 a h2).1 h3
 ·rcases new h1 with ⟨_,h5⟩|⟨op,kA,h5⟩
  ·exact(h.sy g hg i a b h5 h2 h3 h4).app _
  ·rw[hlb op kA a h5] at h3;cases h3
   rcases h4 with h4|h4
   ·exact absurd h4 hC.1
   ·exact absurd h4 hC.2
 ·exact(h.rel a).app fun op kA=> hr op kA a
 ·rcases getElem?_append_cases h1 with ⟨_,h2⟩|⟨_,h2⟩
  ·exact h.gs i op h2
  ·rw[hy op h2];exact hN
 ·rcases new h1 with ⟨_,h5⟩|⟨op,kA,h5⟩
  ·exact h.mem i a h5
  ·exact⟨C,hlb op kA a h5⟩
theorem TI.fork {x y:MemOp}(h:TI Mu Wg C base N hs H B t)(hx:x.g=0/\x.act=.go N)(hy:y.g=N/\y.act=.start)(h0:Deaf t 0=0)(hbN:base<=N)(hN:0<N){R:View}
  (hR:∀b f o,R b=some (f,o)->f=false/\∃f',H 0 b=some (f',o)) (hHN:∀b,H N b=none):TI Mu Wg C base (N+1) hs (upd (upd H 0 R) N R) B (t ++ #[x,y]):=by
 have hkN:Deaf t N=0:=Deaf_absent fun i op hi e=> by have:=h.gs i op hi;omega
 have zK:∀op∈#[x,y],∀b,op.act.touch? =some b->False:=by
  intro op kA b hb;simp only[List.mem_toArray,List.mem_cons,List.not_mem_nil,or_false] at kA;rcases kA with rfl|rfl
  ·rw[hx.2] at hb;cases hb
  ·rw[hy.2] at hb;cases hb
 have old:∀ {i:Nat} {a:Touch},touchAt (t ++ #[x,y]) i=some a->touchAt t i=some a/\i<t.size:=by
  intro i a ha;rcases mB ha with ⟨hi,tG⟩|⟨hi,op,kA,_,hxx⟩
  ·exact⟨tG,hi⟩
  ·exact(zK op kA a hxx).elim
 have oldop:∀ {i:Nat} {op:MemOp} {a:Touch},(t ++ #[x,y])[i]? =some op->op.act.touch? =some a->t[i]? =some op/\i<t.size:=by
  intro i op a kA ha;rcases getElem?_append_cases kA with ⟨hi,tD⟩|⟨hi,yC⟩
  ·exact⟨tD,hi⟩
  ·exact(zK op yC a ha).elim
 have a0:Act base N 0:=.inl rfl;refine⟨fun said=> ?_,fun i a b ha hb=> h.bd i a b (old ha).1 hb,?_,?_,?_,?_,?_,?_,?_,fun i a ha=> h.mem i a (old ha).1⟩
 ·have e:t ++ #[x,y]=(t ++ #[x]) ++ #[y]:=by apply Array.ext';simp
  rw[e];refine noRace_append (g:=N) (noRace_append (g:=0) (h.nr said) (fun op kA=> by simp at kA;rw[kA];exact hx.1) (fun i a _ op kA b hb _=> (zK op (by simp at kA ⊢;exact .inl kA) b hb).elim))
   (fun op kA=> by simp at kA;rw[kA];exact hy.1) (fun i a _ op kA b hb _=> (zK op (by simp at kA ⊢;exact .inr kA) b hb).elim)
 ·intro j hj i a b f o ha hb hH hw;by_cases e:j=N
  ·subst e;rw[upd_same] at hH;obtain⟨rfl,f',h1⟩:=hR b f o hH;exact fork_knows hx hy h0 hkN (h.kn 0 a0 i a b f' o (old ha).1 hb h1 (hw.elim (fun e=> by cases e) .inr))
  ·rw[upd_ne _ R e] at hH;have US:Act base N j:=hj.imp id fun⟨h1,h2⟩=> ⟨h1,oM⟩
   by_cases e0:j=0
   ·subst e0;rw[upd_same] at hH;obtain⟨rfl,f',h1⟩:=hR b f o hH;exact(h.kn 0 a0 i a b f' o (old ha).1 hb h1 (hw.elim (fun e=> by cases e) .inr)).app _
   ·rw[upd_ne _ R e0] at hH;exact(h.kn j US i a b f o (old ha).1 hb hH hw).app _
 ·exact fun i op a kA ha hk xB=> (h.pl i op a (oldop kA ha).1 ha hk xB).app _
 ·intro i a b ha hk hb;obtain⟨h1,h2⟩:=h.np i a b (old ha).1 hk hb;have hRb:R b=none:=by
   cases hx:R b with
   | none=> rfl
   | some z=>
    obtain⟨_,f',h3⟩:=hR b z.1 z.2 hx;rw[h1 0] at h3;cases h3
  refine⟨fun j=> ?_,h2⟩;by_cases e:j=N
  ·subst e;rw[upd_same];exact hRb
  ·rw[upd_ne _ R e];by_cases e0:j=0
   ·subst e0;rw[upd_same];exact hRb
   ·rw[upd_ne _ R e0];exact h1 j
 ·intro i op a kA ha hk;obtain⟨h3,hi⟩:=oldop kA ha;obtain⟨h1,h2⟩:=h.iY i op a h3 ha hk;exact⟨h1,fun e e'=> by rw[heard_old hi];exact h2 e e'⟩
 ·intro j hj i a b ha hk hb zH;by_cases e:j=N
  ·subst e;exact fork_knows hx hy h0 hkN (h.sy 0 a0 i a b (old ha).1 hk hb zH)
  ·exact(h.sy j (hj.imp id fun⟨h1,h2⟩=> ⟨h1,oM⟩) i a b (old ha).1 hk hb zH).app _
 ·refine fun a=> (h.rel a).app fun op kA e=> ?_;simp only[List.mem_toArray,List.mem_cons,List.not_mem_nil,or_false] at kA;rcases kA with rfl|rfl
  ·rw[hx.2] at e;cases e
  ·rw[hy.2] at e;cases e
 ·intro i op kA;rcases getElem?_append_cases kA with ⟨hi,tD⟩|⟨hi,yC⟩
  ·have:=h.gs i op tD;omega
  ·simp only[List.mem_toArray,List.mem_cons,List.not_mem_nil,or_false] at yC;rcases yC with rfl|rfl
   ·rw[hx.1];omega
   ·rw[hy.1];omega
theorem Tok.fork {x y:MemOp}(h:Tok C base N t)(hgs:∀(i:Nat) op,t[i]? =some op->op.g<N)(hx:x.g=0/\x.act=.go N)(hy:y.g=N/\y.act=.start)(h0:Deaf t 0=0):Tok C base (N+1) (t ++ #[x,y]):=by
 have hkN:Deaf t N=0:=Deaf_absent fun i op hi e=> by have:=hgs i op hi;omega
 intro i op a kA ha hb;rcases getElem?_append_cases kA with ⟨hi,tD⟩|⟨_,yC⟩
 ·refine(h i op a tD ha hb).imp (fun h1 g hg=> ?_) id;by_cases e:g=N
  ·subst e;exact fork_knows hx hy h0 hkN (h1 0 (.inl rfl))
  ·exact(h1 g (hg.imp id fun⟨h1,h2⟩=> ⟨h1,oM⟩)).app _
 ·simp only[List.mem_toArray,List.mem_cons,List.not_mem_nil,or_false] at yC;rcases yC with rfl|rfl
  ·rw[hx.2] at ha;cases ha
  ·rw[hy.2] at ha;cases ha
theorem TI.join {y:MemOp}(h:TI Mu Wg C base N hs H B t)(hy:y.g=0/\y.act=.mark (.acquire (stA Wg)))(hd:Deaf t 0=0)(aEr:∀g,base<=g->g<N->∃r,RelBy (stA Wg) t g r):
  ∀i a,touchAt (t ++ #[y]) i=some a->a.kind=.plain->Knows (t ++ #[y]) 0 i:=by
 intro i a ha hk;rcases mB ha with ⟨hi,tG⟩|⟨hi,op,kA,_,hx⟩
 ·obtain⟨x,hx,hxa⟩:=touch_of tG;rcases Nat.lt_or_ge x.g base with xB|SS
  ·exact(h.pl i x a hx hxa hk xB).app _
  ·obtain⟨r,hr⟩:=aEr x.g SS (h.gs i x hx);have hrl:=lt_of_act? hr.act;have hc:t.counts i:=by
    refine⟨a,tG,?_,.inl (by rw[hk];simp)⟩;obtain⟨b,hb⟩:=h.mem i a tG;exact aAF hb
   have hle:i<=r:=Nat.le_of_not_lt fun xB=> hr.after i xB (by simp[Trace.g?,hx]) hc;have wK:(t ++ #[y])[t.size]? =some y:=by rw[Array.getElem?_append_right (Nat.le_refl _)];simp
   have hh:(t ++ #[y]).heard t.size:=⟨0,by simp[Trace.g?,hy.1],by rw[deaf_old (Nat.le_refl _)];exact hd⟩
   have edge:HappensBefore (t ++ #[y]) r t.size:=.single (.inr ⟨.marked (a:=stA Wg) hrl (.inr (by rw[act?_old hrl];exact hr.act)) (by rw[act?_of wK,hy.2]) (fun k h4 h5=> by rw[act?_old h5];exact h.rel _ k),(heard_old hrl).2 hr.heard,hh⟩);have XU:Before (t ++ #[y]) i r:=by
    rcases Nat.lt_or_ge i r with h1|h1
    ·obtain⟨z,hz,hzg⟩:=Option.map_eq_some_iff.1 hr.g;exact .inr (hb_po h1 (by rw[getElem?_append_old hi];exact hx) (by rw[getElem?_append_old hrl];exact hz) hzg.symm)
    ·exact .inl oM
   exact⟨t.size,y,wK,hy.1,.inr (XU.hb edge)⟩
 ·simp at kA
  subst kA;rw[hy.2] at hx;cases hx
end
end Go.RL
namespace Go.RL
open Go.Conc Go.ConcN Go.RL.Au
open Go.ConcR (stA smA rd wr mk)
open Go.ConcM (muA OsLater)
structure Fk where
 n:Nat
 Wg:Nat
 C:Nat
 tW:TypeId
 GI:(Nat->Bool)->Obj->Prop
def Fk.fU(X:Fk)(s:Sh):Obj:=.cells ⟨[.int .u64 ((s.c*4294967296+s.w:Nat):Int),.int .u32 s.q]⟩ X.tW (0,0)
structure ShAt(X:Fk)(w:World)(s:Sh):Prop where
 wg:w.heap[X.Wg]? =some (X.fU s)
def Fk.ok(X:Fk)(w:World):Prop:=X.C<w.heap.size/\∃s,ShAt X w s
abbrev GY:=Os×Array (Nat×ByteArray)
def fW(o:GY)(w:World):Prop:=w.os=o.1/\w.output=o.2
theorem fW.refl(w:World):fW (w.os,w.output) w:=⟨rfl,rfl⟩
theorem fW.trans {o:GY}{w w':World}(h:fW o w)(k:fW (w.os,w.output) w'):fW o w':=⟨k.1.trans h.1,k.2.trans h.2⟩
structure GH(X:Fk)(w w':World)(s':Sh):Prop where
 os:fW (w.os,w.output) w'
 size:w'.heap.size=w.heap.size
 rest:∀b,b≠X.Wg->w'.heap[b]? =w.heap[b]?
 sh:ShAt X w' s'
def Sy(X:Fk)(e:Event):Prop:=∃a wr,e=⟨.cell a,wr,true⟩/\a.block=X.Wg
structure TC(X:Fk)(d d':Nat)(es:Array Event):Prop where
 ev:∀(j:Nat) e,es[j]? =some e->e.mute=true\/(Sy X e/\0<deafBehind d (es.extract 0 j))
 net:deafBehind d es=d'
def Au.Th.deaf:Th->Nat
 | .pw | .wr | .wk=> 0
 | _=> 1
def Au.Th.EV:Th->Bool
 | .d4=> true
 | _=> false
def Au.Th.did:Th->Bool
 | .pw=> false
 | _=> true
def Au.Th.mute:Th->Bool
 | .wk | .wi | .d1 | .d2 | .d3 | .d4 | .quit=> true
 | _=> false
def Au.Th.plain:Th->Bool
 | .pw | .wr | .quit=> false
 | _=> true
def Au.Mn.deaf:Mn->Nat
 | .kd | .go | .wd | .aq | .ret=> 0
 | _=> 1
def Au.Mn.plain:Mn->Bool
 | .kr | .go | .wm | .aq | .ret=> false
 | _=> true
def oS(D:Nat->Bool)(κ:Nat):Nat->Bool:=fun i=> D i||i==κ
def Qt(P:Program)(K:Goroutine->Prop):Nat->Goroutine->Prop
 | 0,g=> K g
 | n+1,g=> g.status=.running/\∃g',(∀w,stepG P false g w=.go g' w #[])/\Qt P K n g'
structure aCc(X:Fk)(κ:Nat)(w w':World)(o':Obj)(es:Array Event):Prop where
 os:fW (w.os,w.output) w'
 size:w'.heap.size=w.heap.size
 rest:∀b,b≠X.C->w'.heap[b]? =w.heap[b]?
 at_:w'.heap[X.C]? =some o'
 ev:∀e∈es,e=⟨.cell ⟨X.C,κ,none⟩,true,false⟩
def WS (P:Program)(X:Fk)(κ:Nat):Nat->Th->View->Goroutine->Prop
 | 0,_,_,_=> True
 | k + 1,t,H,g=> (g.status=.running/\g.offers=none)/\
  (t=.pw->∀D o,D κ=false->X.GI D o->∀w,Sat H w->w.heap[X.C]? =some o->∃g' w' o' es,stepG P false g w=.go g' w' es/\aCc X κ w w' o' es/\X.GI (oS D κ) o'/\T (Mw P false X.ok) (WS P X κ k .wr) H g')/\
  (t=.wr->∀w,Sat H w->∃g',stepG P false g w=.go g' w #[mk (.releaseMerge (stA X.Wg))]/\∃n,Qt P (WS P X κ k .wk H) n g')/\
  (t=.quit->False)/\
  (t.plain=true->∀w s,Sat H w->ShAt X w s->t.ok s->s.fits-> 
   ∃ t' s' g' w' es,(t',s')∈t.mv s/\stepG P false g w=.go g' w' es/\GH X w w' s'/\TC X t.deaf t'.deaf es/\(t.EV=true->mayWake P g=true)/\g'.status=.running/\
    (t'=.quit->∃q,QuitsD P q 1 g')/\(t'≠ .quit->t'.mute=true->∃n,Qt P (WS P X κ k t' H) n g')/\(t'.mute=false->T (Mw P false X.ok) (WS P X κ k t') H g'))
def ro(H:View):View:=fun b=> (H b).map fun x=> (false,x.2)
def MS(P:Program)(X:Fk)(Fin:Goroutine->Prop):Nat->Mn->Nat->View->Goroutine->Prop
 | 0,_,_,_,_=> True
 | k + 1,m,j,H,g=> (g.status=.running/\g.offers=none)/\
  (m=.go->∀w,Sat H w->∃g' ch,stepG P true g w=.spawn g' ch w #[]/\T (Mw P true X.ok) (MS P X Fin k (if j+1<X.n then .kd else .wd) (j+1)) (ro H) g'/\T (Mw P false X.ok) (WS P X j k .pw) (ro H) ch)/\
  (m=.kr->∀w,Sat H w->∃g',stepG P true g w=.go g' w #[mk (.read (smA X.Wg))]/\T (Mw P true X.ok) (MS P X Fin k .ke j) H g')/\
  (m=.wm->∀w,Sat H w->∃g',stepG P true g w=.go g' w #[mk (.write (smA X.Wg))]/\T (Mw P true X.ok) (MS P X Fin k .ws j) H g')/\
  (m=.aq->∀w,Sat H w->∃g',stepG P true g w=.go g' w #[mk (.acquire (stA X.Wg))]/\Fin g')/\
  (m=.ret->False)/\
  (m.plain=true->∀w s,Sat H w->ShAt X w s->m.ok s->s.fits-> 
   (m.mv s= []/\stepG P true g w=.go { g with status:=.blocked } w #[])\/ 
   ∃m' s' g' w' es,(m',s')∈m.mv s/\stepG P true g w=.go g' w' es/\GH X w w' s'/\TC X m.deaf m'.deaf es/\T (Mw P true X.ok) (MS P X Fin k m' j) H g')
def o8(P:Program)(H:View)(g:Goroutine)(Po:View->Goroutine->Prop):Prop:=
 ∃ (X:Fk) (Fin:Goroutine->Prop) (H₁:View) (o:Obj),X.n<=6/\X.Wg≠X.C/\(H₁ X.Wg=none/\H₁ X.C=none)/\
  H=(H₁.put X.C (true,o)).put X.Wg (true,X.fU ⟨0,0,0⟩)/\X.GI (fun _=> false) o/\
  (∀k,T (Mw P true X.ok) (MS P X Fin k (if 0<X.n then .kd else .wd) 0) (ro H₁) g)/\∀o' g',X.GI (fun i=> decide (i<X.n)) o'->Fin g'->Po (H₁.put X.C (true,o')) g'
def Ph(P:Program)(H:View)(g:Goroutine)(Po:View->Goroutine->Prop):Prop:=
 ∃H₁ F Po₁,Dj H₁ F/\H=H₁.plus F/\o8 P H₁ g Po₁/\∀H' g',Dj H' F->Po₁ H' g'->Po (H'.plus F) g'
theorem oO(A B C:View):(A.plus B).plus C=A.plus (B.plus C):=by
 funext b
 unfold View.plus;cases A b <;> rfl
theorem Ph.frame {P:Program}{H:View}{g:Goroutine}{Po:View->Goroutine->Prop}{F:View}(h:Ph P H g Po)(hd:Dj H F):Ph P (H.plus F) g fun H'' g'=> ∃H',H''=H'.plus F/\Dj H' F/\Po H' g':=by
 obtain⟨H₁,F₁,Po₁,h1,rfl,h2,h3⟩:=h;refine⟨H₁,F₁.plus F,Po₁,fun b x hb=> ?_,(oO _ _ _),h2,fun H' g' UO hp=> ⟨H'.plus F₁,(oO _ _ _).symm,fun b x hb=> ?_,h3 H' g' (fun b x hb=> UO b x (PA hb)) hp⟩⟩
 ·unfold View.plus at hb;split at hb
  ·rename_i y hy
   exact h1 b y hy
  ·exact(JL (hd b x hb)).1
 ·have hF:=JL (hd b x hb);rw[show(H'.plus F₁) b=F₁ b from vB (UO b x (by rw[vB hF.2];exact hb)),hF.2]
def Mp(P:Program):Md P:=⟨true,fun _=> True,Ph P,fun _ _ _ _ h hd=> h.frame hd⟩
structure VI(X:Fk)(H:Nat->View)(B:View)(w:World):Prop where
 sat:∀g,Sat (H g) w
 dj:∀g g',g≠g'->∀b o,H g b=some (true,o)->H g' b=none
 sh:∀g,H g X.Wg=none
 bs:Sat B w
 bd:∀g b x o,B b=some x->H g b≠some (true,o)
 bn:B X.Wg=none/\B X.C=none
section
variable {X:Fk}{H:Nat->View}{B:View}{w w':World}
theorem VI.at(h:VI X H B w)(d:Nat):VI X H B (w.at d):=⟨h.sat,h.dj,h.sh,h.bs,h.bd,h.bn⟩
theorem VI.step {g:Nat}{H':View}{es:Array Event}(h:VI X H B w)(ht:Trans (H g) w H' w' es)(J8:X.Wg<w.heap.size):VI X (upd H g H') B w':=by
 have hn:∀b,b<w.heap.size->H g b=none->H' b=none:=fun b hb h0=> by
  cases hx:H' b with
  | none=> rfl
  | some x=>
   rcases ht.ext b x.1 x.2 hx with ⟨o,ho⟩|⟨_,hle⟩
   ·rw[h0] at ho;cases ho
   ·omega
 refine⟨fun j=> ?_,fun i j WO b o hi=> ?_,fun j=> ?_,fun b f o hb=> ?_,fun j b x o hb hj=> ?_,h.bn⟩
 ·by_cases e:j=g
  ·subst e;rw[upd_same];exact ht.sat
  ·rw[upd_ne H H' e];intro b f o hb;rw[ht.TD b ((h.sat j).lt hb) fun o' ho=> by rw[h.dj g j (Ne.symm e) b o' ho] at hb;cases hb];exact h.sat j b f o hb
 ·by_cases e:i=g
  ·subst e;rw[upd_same] at hi;rw[upd_ne H H' (Ne.symm WO)];rcases ht.ext b true o hi with ⟨o',ho⟩|⟨_,hle⟩
   ·exact h.dj i j WO b o' ho
   ·cases hx:H j b with
    | none=> rfl
    | some x=> have:=(h.sat j).lt hx;omega
  ·rw[upd_ne H H' e] at hi;by_cases e':j=g
   ·subst e';rw[upd_same];exact hn b ((h.sat i).lt hi) (h.dj i j WO b o hi)
   ·rw[upd_ne H H' e'];exact h.dj i j WO b o hi
 ·by_cases e:j=g
  ·subst e;rw[upd_same];exact hn _ J8 (h.sh j)
  ·rw[upd_ne H H' e];exact h.sh j
 ·rw[ht.TD b (h.bs.lt hb) fun o' ho=> h.bd g b _ o' hb ho];exact h.bs b f o hb
 ·by_cases e:j=g
  ·subst e;rw[upd_same] at hj;rcases ht.ext b true o hj with ⟨o',ho⟩|⟨_,hle⟩
   ·exact h.bd j b x o' hb ho
   ·have:=h.bs.lt hb;omega
  ·rw[upd_ne H H' e] at hj;exact h.bd j b x o hb hj
theorem Sat.jH {H:View}{s':Sh}(h:Sat H w)(ht:GH X w w' s')(h1:H X.Wg=none):Sat H w':=fun b f o hb=> by
 rw[ht.rest b (by rintro rfl;rw[h1] at hb;cases hb)];exact h b f o hb
theorem VI.jH {s':Sh}(h:VI X H B w)(ht:GH X w w' s'):VI X H B w':=
 ⟨fun g=> (h.sat g).jH ht (h.sh g),h.dj,h.sh,h.bs.jH ht h.bn.1,h.bd,h.bn⟩
end
section
variable {X:Fk}
theorem AW {H:View}{g:Nat}{fn:FuncId}{pos:String}{es:Array Event}{t:Trace}(h:∀e∈es,jL H e):ZY X.Wg X.Wg H g t (MemOp.ofEvents g fn pos es)/\∀op∈MemOp.ofEvents g fn pos es,op.act≠ .mark .disable/\op.act≠ .mark .enable:=by
 rw[ofEvents_eq];have key :∀op∈es.map (fun e=> ({ g,fn,pos,act:=.ofEvent e }:MemOp)),op.g=g/\(∀x,op.act.touch? =some x->x.kind=.plain/\∃b f o,lb x.loc=some b/\H b=some (f,o)/\(x.write=true->f=true))/\(∀a,op.act≠ .mark (.release a))/\op.act≠ .mark .disable/\op.act≠ .mark .enable:=by
   intro op kA;obtain⟨e,he,rfl⟩:=Array.mem_map.1 kA;have hk:=h e he;obtain⟨loc,wr,sy⟩:=e;unfold jL at hk;cases loc with
   | cell a=>
     obtain⟨hs,f,o,h1,h2⟩:=hk;simp only at hs h2;subst hs;refine⟨rfl,fun x hx=> ?_,fun _ hh=> ?_,fun hh=> ?_,fun hh=> ?_⟩
     · cases wr <;> simp[MemAct.ofEvent,MemAct.touch?] at hx <;> subst hx <;> exact⟨rfl,_,f,o,rfl,h1,h2⟩
     all_goals cases wr <;> simp[MemAct.ofEvent] at hh
   | obj r=>
     obtain⟨hs,f,o,h1,h2⟩:=hk;simp only at hs h2;subst hs;refine⟨rfl,fun x hx=> ?_,fun _ hh=> ?_,fun hh=> ?_,fun hh=> ?_⟩
     · cases wr <;> simp[MemAct.ofEvent,MemAct.touch?] at hx <;> subst hx <;> exact⟨rfl,_,f,o,rfl,h1,h2⟩
     all_goals cases wr <;> simp[MemAct.ofEvent] at hh
   | mark m=>
     obtain⟨h0,h1,h2⟩:=hk;cases m <;> first
       | (simp[xR] at h0;done)
       | (simp only at h1 h2
          subst h1 h2;exact⟨rfl,fun x hx=> by simp[MemAct.ofEvent,MemAct.touch?] at hx,fun a hh=> by simp[MemAct.ofEvent] at hh,fun hh=> by simp[MemAct.ofEvent] at hh,fun hh=> by simp[MemAct.ofEvent] at hh⟩)
   | _=> exact hk.elim
 refine⟨⟨fun op kA=> (key op kA).1,fun op kA x hx=> .inl ((key op kA).2.1 x hx),fun _ i op x hi kA hx hk=> ?_,fun op kA=> (key op kA).2.2.1⟩,fun op kA=> (key op kA).2.2.2⟩;rcases getElem?_append_cases kA with ⟨xB,_⟩|⟨_,yC⟩
 · omega
 · rw[((key op yC).2.1 x hx).1] at hk;cases hk
theorem DT {H:View}{g d':Nat}{fn:FuncId}{pos:String}{es:Array Event}{t:Trace}(h:TC X (Deaf t g) d' es):ZY X.Wg X.Wg H g t (MemOp.ofEvents g fn pos es)/\∀op∈MemOp.ofEvents g fn pos es,∀x,op.act.touch? =some x->lb x.loc=some X.Wg:=by
 have ops:=ofEvents_eq g fn pos es;have one:∀e,(e.mute=true\/Sy X e)->(∀x,(MemAct.ofEvent e).touch? =some x->x.kind=.atomic/\(lb x.loc=some X.Wg))/\∀a,MemAct.ofEvent e≠ .mark (.release a):=by
  rintro e (he|⟨a,wr,rfl,ha⟩)
  ·obtain⟨loc,wr,sy⟩:=e;cases loc with
   | mark m=> cases m <;> simp[Event.mute] at he <;> simp[MemAct.ofEvent,MemAct.touch?]
   | _=> simp[Event.mute] at he
  ·refine⟨fun x hx=> ?_,fun b hh=> ?_⟩
   ·have:x=⟨.cell a,wr,.atomic⟩:=by cases wr <;> simp[MemAct.ofEvent,MemAct.touch?] at hx <;> exact hx.symm
    subst this;exact⟨rfl,by simp[lb,ha]⟩
   ·cases wr <;> simp[MemAct.ofEvent] at hh
 have all:∀e∈es,e.mute=true\/Sy X e:=fun e he=> by
  obtain⟨j,hj,rfl⟩:=Array.mem_iff_getElem.1 he;exact(h.ev j _ (Array.getElem?_eq_getElem hj)).imp id And.left
 have key:∀op∈MemOp.ofEvents g fn pos es,op.g=g/\(∀x,op.act.touch? =some x->x.kind=.atomic/\(lb x.loc=some X.Wg))/\∀a,op.act≠ .mark (.release a):=by
  rw[ops];intro op kA;obtain⟨e,he,rfl⟩:=Array.mem_map.1 kA;exact⟨rfl,one e (all e he)⟩
 refine⟨⟨fun op kA=> (key op kA).1,fun op kA x hx=> .inr ⟨by rw[((key op kA).2.1 x hx).1];simp,.inl ((key op kA).2.1 x hx).2,fun e=> by rw[((key op kA).2.1 x hx).1] at e;cases e⟩,fun _ i op x hi kA hx hk=> ?_,fun op kA=> (key op kA).2.2⟩,fun op kA x hx=> ((key op kA).2.1 x hx).2⟩;rintro⟨g',W4,UH⟩;have hj:(MemOp.ofEvents g fn pos es)[i-t.size]? =some op:=by
  rw[Array.getElem?_append] at kA;simpa [Nat.not_lt.2 hi] using kA
 rw[ops,Array.getElem?_map] at hj;obtain⟨e,he,rfl⟩:=Option.map_eq_some_iff.1 hj;have hjs:i-t.size<=es.size:=by
  rcases Nat.lt_or_ge (i-t.size) es.size with h'|h'
  ·omega
  ·rw[Array.getElem?_eq_none h'] at he;cases he
 have M8:g'=g:=by simp[Trace.g?,kA] at W4;exact W4.symm
 subst M8;have aEj:=deaf_inside t g' fn pos es (i-t.size) hjs;rw[show t.size+(i-t.size)=i by omega,UH] at aEj;rcases h.ev _ e he with hm|⟨_,hd⟩
 ·obtain⟨loc,wr,sy⟩:=e;cases loc with
  | mark m=> cases m <;> simp[Event.mute] at hm <;> simp[MemAct.ofEvent,MemAct.touch?] at hx
  | _=> simp[Event.mute] at hm
 ·omega
theorem sR {H:View}{g:Nat}{fn:FuncId}{pos:String}{m:Mark}{t:Trace}(h1:∀x,(MemAct.mark m).touch? =some x->g=0/\x.kind=.said/\lb x.loc=some X.Wg)(h2:∀a,m≠ .release a):ZY X.Wg X.Wg H g t (MemOp.ofEvents g fn pos #[mk m]):=by
 have e1:MemOp.ofEvents g fn pos #[mk m]=#[{ g,fn,pos,act:=.mark m }]:=by
  rw[ofEvents_eq];simp[Go.ConcR.ofEvent_mk]
 rw[e1];refine⟨fun op kA=> by simp at kA;rw[kA],fun op kA x hx=> ?_,fun hg i op x hi kA hx hk=> ?_,fun op kA a hh=> ?_⟩
 ·simp at kA
  subst kA;obtain⟨h3,h4,h5⟩:=h1 x hx;exact .inr ⟨by rw[h4];simp,.inr h5,fun _=> h3⟩
 ·rcases getElem?_append_cases kA with ⟨xB,_⟩|⟨_,yC⟩
  ·omega
  ·simp at yC
   subst yC;exact absurd (h1 x hx).1 hg
 ·simp at kA
  subst kA;simp at hh
  exact h2 a hh
end
end Go.RL
namespace Go.RL
open Go.Conc Go.ConcN Go.RL.Au
open Go.ConcR (stA smA)
open Go.ConcM (muA msA OsLater)
def zR {α:Type}(P:Program)(sh:Nat->Option (TypeId×Nat)):Sem α->(α->Prop)->Prop
 | .pure a,Q=> Q a
 | .program k,Q=> zR P sh (k P) Q
 | .shape r k,Q=> ∃x,sh r=some x/\zR P sh (k (some x)) Q
 | _,_=> False
section
variable {P:Program}{sh:Nat->Option (TypeId×Nat)}
theorem gQ {α:Type}(s:Sem α):∀ {Q:α->Prop},zR P sh s Q->∃a,Q a/\∀w es,(∀r x,sh r=some x->w.shape? r=some x)->s.runT P w es=(.ok a w,es):=by
 induction s with
 | pure a=> exact fun h=> ⟨a,h,fun w es _=> rfl⟩
 | program k ih=> exact fun h=> let ⟨a,h1,h2⟩:=ih P h;⟨a,h1,fun w es hs=> by simp only[Sem.runT];exact h2 w es hs⟩
 | shape r k ih=> exact fun⟨x,hx,h⟩=> let ⟨a,h1,h2⟩:=ih _ h;⟨a,h1,fun w es hs=> by simp only[Sem.runT];rw[hs r x hx];exact h2 w es hs⟩
 | _=> exact fun h=> h.elim
theorem AB {α β:Type}(s:Sem α)(k:α->Sem β){Q:β->Prop}:zR P sh s (fun a=> zR P sh (k a) Q)->zR P sh (s.bind k) Q:=by
 induction s with
 | pure a=> exact fun h=> h
 | program c ih=> exact fun h=> ih P h
 | shape r c ih=> exact fun⟨x,hx,h⟩=> ⟨x,hx,ih _ h⟩
 | _=> exact fun h=> h.elim
theorem fC {t:TypeId}{d:TypeDesc}{Q:TypeDesc->Prop}(hd:P.underlying t=some d)(h:Q d):zR P sh (underlying t) Q:=by
 show zR P sh (match P.underlying t with|some d=> _|none=> _) Q;rw[hd];exact h
theorem LJ {t:TypeId}{n:Nat}{Q:Nat->Prop}(hn:(P.info? t).map (·.size)=some n)(h:Q n):zR P sh (sizeOf t) Q:=by
 cases hi:P.info? t with
 | none=> rw[hi] at hn;cases hn
 | some i=>
  rw[hi] at hn;cases hn
  refine AB (typeInfo t) _ ?_;show zR P sh (match P.info? t with|some i=> _|none=> _) _;rw[hi];exact h
end
def hY:Nat->Option (TypeId×Nat):=fun _=> none
section
variable {P:Program}{main:Bool}{b:FB}{tmps:Array Value}{ds:List Deferred}{cs:List Frame}{o:Oper}{w w':World}{v:Value}{es:Array Event}
def Yields(P:Program)(main:Bool)(b:FB)(tmps:Array Value)(ds:List Deferred)(cs:List Frame)(o:Oper)(w:World)(v:Value)(w':World)(es:Array Event):Prop:=
 ∀(arr:Array Oper) (i:Nat) (r:List Nat) (k:List Item),arr[i]? =some o->Region.wanted o (yielded arr tmps)=true->stepG P main (G (b.at tmps ds (.inRegion arr (i::r)::k)) cs) w=.go (G (b.at (OB tmps o.dst v) ds (.inRegion arr r::k)) cs) w' es
def tU(P:Program)(main:Bool)(b:FB)(tmps:Array Value)(ds:List Deferred)(cs:List Frame)(o:Oper)(w:World):Prop:=
 ∀(arr:Array Oper) (i:Nat) (r:List Nat) (k:List Item),arr[i]? =some o->Region.wanted o (yielded arr tmps)=true->stepG P main (G (b.at tmps ds (.inRegion arr (i::r)::k)) cs) w=.go { G (b.at tmps ds (.inRegion arr (i::r)::k)) cs with status:=.blocked } w #[]
def kf(b:FB):Frame:= { (default:Frame) with fn:=b.fn,kind:=b.kind }
theorem FB.kit(h:b.rd=none)(todo:List Item):b.at tmps ds todo=(kf b).at ⟨tmps,ds⟩ todo:=by
 simp[FB.at,Frame.at,kf,h]
theorem nR(h:b.rd=none)(todo:List Item)(d:Option Tmp):(kf b).at ((⟨tmps,ds⟩:Go.Act).put d v) todo=b.at (OB tmps d v) ds todo:=by
 cases d <;> simp[FB.at,Frame.at,kf,h,Go.Act.put,OB]
def N2:Loc->Bool
 | .cell _=> true
 | .mark (.acquire _) | .mark (.releaseMerge _) | .mark .disable | .mark .enable | .mark (.read _) | .mark (.write _)=> true
 | _=> false
def Told(e:Event):Prop:=e.sync=true/\N2 e.loc=true
structure vG(P:Program)(f:FuncId)(e:Array Value->Sem Value):Prop where
 ex:∃fn,P.funcs[f]? =some fn/\(fn.name== "runtime.NumGoroutine")=false/\fn.body.isNone=true/\Extern.findNext fn=none/\Extern.find fn=some e
structure NG(o:Oper)(f:FuncId)(az:List Operand):Prop where
 ex:∃ats,o.op=.call { callee:=.value (.func f),args:=az.toArray,argTypes:=ats }
theorem Yields.entry {f:FuncId}{e:Array Value->Sem Value}{az:List Operand}{vs:List Value}(he:vG P f e)(ho:NG o f az)(hb:b.rd=none)(hk:b.kind≠ .early)(ha:az.map (CB tmps)=vs)
  (mG:(e vs.toArray).run P w=.ok v w') (T6:∀z,(e vs.toArray).events P w #[z]=#[z]++es) (hs:∀x∈es,Told x):Yields P main b tmps ds cs o w v w' es:=by
 obtain⟨fn,h1,h2,h3,h4,h5⟩:=he;obtain⟨ats,h6⟩:=ho;intro arr i r k hi hw;have hm:(az.toArray).map (Go.Act.eval ⟨tmps,ds⟩)=vs.toArray:=by
  rw[List.map_toArray,<-ha]
  congr 1
 rw[FB.kit hb,stepG_entry (a:=⟨tmps,ds⟩) hi hw (by simpa [kf] using hk) h6 h1 h2 h3 h4 h5 (by rw[hm];exact mG) (by rw[hm];exact T6 _) (fun x hx=> ⟨(hs x hx).1,fun g hg=> by have:=(hs x hx).2;rw[hg] at this;cases this⟩),nR hb]
theorem tU.entry {f:FuncId}{e:Array Value->Sem Value}{az:List Operand}{vs:List Value}(he:vG P f e)(ho:NG o f az)(hb:b.rd=none)(ha:az.map (CB tmps)=vs)(mG:(e vs.toArray).run P w=.halt .blocked w):tU P main b tmps ds cs o w:=by
 obtain⟨fn,h1,h2,h3,h4,h5⟩:=he;obtain⟨ats,h6⟩:=ho;intro arr i r k hi hw;have hm:(az.toArray).map (Go.Act.eval ⟨tmps,ds⟩)=vs.toArray:=by
  rw[List.map_toArray,<-ha]
  congr 1
 rw[FB.kit hb,stepG_entry_blocked (a:=⟨tmps,ds⟩) hi hw h6 h1 h2 h3 h4 h5 (w':=w) (by rw[hm];exact mG)]
theorem vG.aDI {f:FuncId}{e:Array Value->Sem Value}{az:List Operand}(he:vG P f e)(ho:NG o f az){arr:Array Oper}{i:Nat}{r:List Nat}{k:List Item}(hi:arr[i]? =some o):mayWake P (G (b.at tmps ds (.inRegion arr (i::r)::k)) cs)=true:=by
 obtain⟨fn,h1,h2,h3,h4,h5⟩:=he;obtain⟨ats,h6⟩:=ho;have hb:fn.body.isSome=false:=by cases hx:fn.body <;> simp_all
 simp[mayWake,G,FB.at,hi,h6,Frame.eval,h1,hb]
theorem Yields.look {sh:Nat->Option (TypeId×Nat)}(hb:b.rd=none\/BA o.op=false)(hp:zR P sh (execOp (CB tmps) o) fun nx=> nx=.value v)(mM:∀r x,sh r=some x->w.shape? r=some x):Yields P main b tmps ds cs o w v w #[]:=by
 obtain⟨nx,rfl,mG⟩:=gQ _ hp;intro arr i r k hi hw;have hg:stepG P main (G (b.at tmps ds (.inRegion arr (i::r)::k)) cs) w=stepG.apply P true (b.at tmps ds (.inRegion arr (i::r)::k)) cs none (execOp (b.at tmps ds (.inRegion arr (i::r)::k)).eval o) w:=by
  rcases hb with hb|hb
  ·simp[G,stepG,stepG.exec,stepG.oper,Frame.oper?,FB.at,hi,hw,hb]
  ·have hd:∀c,o.op≠ .defer c:=fun c e=> by rw[e] at hb;cases hb
   cases kA:o.op <;> first
    | exact absurd kA (hd _)
    | (cases cT:b.rd <;> simp[G,stepG,stepG.exec,stepG.oper,Frame.oper?,FB.at,hi,hw,kA,cT])
 rw[FB.eval_at] at hg;rw[hg];have UD:(b.at tmps ds (.inRegion arr (i::r)::k)).finish v=b.at (OB tmps o.dst v) ds (.inRegion arr r::k):=by rw[FB.finish_at,hi];rfl
 have hs:seen P (b.at tmps ds (.inRegion arr (i::r)::k)).fn (if(b.at tmps ds (.inRegion arr (i::r)::k)).kind==.early then #[] else #[])=#[]:=by
  rw[ite_self];exact seen_none _ _
 rw[<-UD];have key:stepG.apply P true (b.at tmps ds (.inRegion arr (i::r)::k)) cs none (execOp (CB tmps) o) w=GStep.after (seen P (b.at tmps ds (.inRegion arr (i::r)::k)).fn (if(b.at tmps ds (.inRegion arr (i::r)::k)).kind==.early then #[] else #[])) (.go (G ((b.at tmps ds (.inRegion arr (i::r)::k)).finish v) cs) w):=by
  unfold stepG.apply;rw[if_pos rfl,mG w #[] mM];rfl
 rw[key,hs];simp[GStep.after]
end
section
variable {X:Fk}{w:World}{s:Sh}
theorem ShAt.r9(h:ShAt X w s):w.cell? (stA X.Wg)=some (.int .u64 ((s.c*4294967296+s.w:Nat):Int)):=by simp[World.cell?,stA,h.wg,Fk.fU]
theorem ShAt.smC(h:ShAt X w s):w.cell? (smA X.Wg)=some (.int .u32 s.q):=by simp[World.cell?,smA,h.wg,Fk.fU]
theorem ShAt.wgZ(h:ShAt X w s):w.frozen? (stA X.Wg)=false:=by simp[World.frozen?,stA,h.wg,Fk.fU]
theorem ShAt.smZ(h:ShAt X w s):w.frozen? (smA X.Wg)=false:=by simp[World.frozen?,smA,h.wg,Fk.fU]
theorem GH.same(h:ShAt X w s):GH X w w s:=⟨⟨rfl,rfl⟩,rfl,fun _ _=> rfl,h⟩
theorem GH.wgS(h:ShAt X w s)(c' w':Nat):GH X w (w.setCell (stA X.Wg) (.int .u64 ((c'*4294967296+w':Nat):Int))) { s with c:=c',w:=w' }:=
 ⟨⟨rfl,rfl⟩,by simp[World.setCell],fun b h1=> by simp[World.setCell,stA,Array.getElem?_modify,Ne.symm h1],⟨by simp[World.setCell,stA,Array.getElem?_modify,h.wg,Fk.fU]⟩⟩
theorem GH.smS(h:ShAt X w s)(m':Nat):GH X w (w.setCell (smA X.Wg) (.int .u32 m')) { s with q:=m' }:=
 ⟨⟨rfl,rfl⟩,by simp[World.setCell],fun b h1=> by simp[World.setCell,smA,Array.getElem?_modify,Ne.symm h1],⟨by simp[World.setCell,smA,Array.getElem?_modify,h.wg,Fk.fU]⟩⟩
theorem qO(d:Nat):TC X d d #[]:=⟨fun j e h=> by simp at h,rfl⟩
theorem KL(d:Nat):TC X d (d+1) #[Go.ConcR.mk .disable]:=⟨fun j e h=> by
 cases j with
 | zero=> simp at h;subst h;exact .inl rfl
 | succ j=> simp at h,rfl⟩
theorem BT(d:Nat):TC X (d+1) d #[Go.ConcR.mk .enable]:=⟨fun j e h=> by
 cases j with
 | zero=> simp at h;subst h;exact .inl rfl
 | succ j=> simp at h,rfl⟩
theorem LK {a:Addr}(ha:a.block=X.Wg)(wr:Bool):TC X 1 1 #[⟨.cell a,wr,true⟩]:=⟨fun j e h=> by
 cases j with
 | zero=> simp at h;subst h;exact .inr ⟨⟨a,wr,rfl,ha⟩,by simp[deafBehind]⟩
 | succ j=> simp at h,rfl⟩
theorem rO {a:Addr}(ha:a.block=X.Wg):TC X 1 1 #[⟨.cell a,false,true⟩,⟨.cell a,true,true⟩]:=⟨fun j e h=> by
 match j,h with
 | 0,h=> simp at h;subst h;exact .inr ⟨⟨a,false,rfl,ha⟩,by simp[deafBehind]⟩
 | 1,h=> simp at h;subst h;exact .inr ⟨⟨a,true,rfl,ha⟩,by simp[deafBehind]⟩
 | j+2,h=> simp at h,rfl⟩
theorem iQ {a:Addr}(ha:a.block=X.Wg):TC X 1 1 (semEvents a):=⟨fun j e h=> by
 match j,h with
 | 0,h=> simp[semEvents] at h;subst h;exact .inl rfl
 | 1,h=> simp[semEvents] at h;subst h;exact .inr ⟨⟨a,false,rfl,ha⟩,by simp[deafBehind,semEvents]⟩
 | 2,h=> simp[semEvents] at h;subst h;exact .inr ⟨⟨a,true,rfl,ha⟩,by simp[deafBehind,semEvents]⟩
 | 3,h=> simp[semEvents] at h;subst h;exact .inl rfl
 | j+4,h=> simp[semEvents] at h,rfl⟩
end
section
variable {P:Program}{main:Bool}{b:FB}{tmps:Array Value}{ds:List Deferred}{cs:List Frame}{o:Oper}{w w':World}{f:FuncId}{ad:Addr}{k:IntKind}{es:Array Event}{vs:List Value}{v:Value}
theorem kX(a:Addr):∀e∈(#[⟨.cell a,false,true⟩,⟨.cell a,true,true⟩]:Array Event),Told e:=by
 intro e he;simp at he
 rcases he with rfl|rfl <;> exact⟨rfl,rfl⟩
theorem nI(e:Event)(h:Told e):∀e'∈(#[e]:Array Event),Told e':=by
 intro e' he;simp at he
 subst he;exact h
theorem XT(a:Addr):∀e∈semEvents a,Told e:=by
 intro e he;simp[semEvents] at he
 rcases he with rfl|rfl|rfl|rfl <;> exact⟨rfl,rfl⟩
theorem told_none:∀e∈(#[]:Array Event),Told e:=fun e he=> by simp at he
structure XB(P:Program)(e:Array Value->Sem Value)(vs:List Value)(w:World)(v:Value)(w':World)(es:Array Event):Prop where
 run:(e vs.toArray).run P w=.ok v w'
 ev:∀z,(e vs.toArray).events P w #[z]=#[z]++es
 told:∀x∈es,Told x
theorem XB.VL {e:Array Value->Sem Value}{az:List Operand}(h:XB P e vs w v w' es)(he:vG P f e)(ho:NG o f az)(hb:b.rd=none)(hk:b.kind≠ .early)(ha:az.map (CB tmps)=vs):Yields P main b tmps ds cs o w v w' es:=
 .entry he ho hb hk ha h.run h.ev h.told
theorem XB.cas {v old n:Int}(hc:w.cell? ad=some (.int k v))(hf:w.frozen? ad=false)(hv:v=old):
  XB P (Extern.Atomic.casT (.int k)) [.pointer (some ad),.int k old,.int k n] w (.bool true) (w.setCell ad (.int k n)) #[⟨.cell ad,false,true⟩,⟨.cell ad,true,true⟩]:=by
 subst hv;exact⟨by rw[casT_eq];exact run_cas_hit_entry hc hf,fun z=> by rw[casT_eq,events_cas_hit_entry hc hf];rfl,kX ad⟩
theorem XB.aDS {v old n:Int}(hc:w.cell? ad=some (.int k v))(hf:w.frozen? ad=false)(hv:¬v=old):
  XB P (Extern.Atomic.casT (.int k)) [.pointer (some ad),.int k old,.int k n] w (.bool false) w #[⟨.cell ad,false,true⟩]:=
 ⟨by rw[casT_eq];exact run_cas_miss_entry hc hf hv,fun z=> by rw[casT_eq,events_cas_miss_entry hc hf hv];rfl,nI _ ⟨rfl,rfl⟩⟩
theorem XB.add {v d r:Int}(hc:w.cell? ad=some (.int k v))(hf:w.frozen? ad=false)(hr:k.wrap (v+d)=r):
  XB P (Extern.Atomic.update (Op.intArith .add) k true) [.pointer (some ad),.int k d] w (.int k r) (w.setCell ad (.int k r)) #[⟨.cell ad,false,true⟩,⟨.cell ad,true,true⟩]:=by
 subst hr;exact⟨run_add_entry hc hf,fun z=> by rw[events_add_entry hc hf];rfl,kX ad⟩
theorem XB.load {v:Int}(hc:w.cell? ad=some (.int k v)):XB P (Extern.Atomic.loadT (.int k)) [.pointer (some ad)] w (.int k v) w #[⟨.cell ad,false,true⟩]:=
 ⟨by
  show Sem.run P (do Extern.Atomic.read (.int k) (<-asAddr (.pointer (some ad)))) w=_;simp[Extern.Atomic.read,asAddr,hc],fun z=> by
  show Sem.events P (do Extern.Atomic.read (.int k) (<-asAddr (.pointer (some ad)))) w _=_;simp[Extern.Atomic.read,asAddr,hc,events_load],nI _ ⟨rfl,rfl⟩⟩
theorem XB.aBZ {v u:Int}(hc:w.cell? ad=some (.int k u))(hf:w.frozen? ad=false):
  XB P Extern.Atomic.storeT [.pointer (some ad),.int k v] w (.tuple #[]) (w.setCell ad (.int k v)) #[⟨.cell ad,true,true⟩]:=
 ⟨by
  show Sem.run P (do
   store (<-asAddr (.pointer (some ad))) (.int k v) .atomic
   pure Extern.Atomic.none_) w=_
  simp[asAddr,hc,hf,run_store P w ad (.int k v) .atomic rfl,Result.andThen,Extern.Atomic.none_],fun z=> by
  show Sem.events P (do
   store (<-asAddr (.pointer (some ad))) (.int k v) .atomic
   pure Extern.Atomic.none_) w _=_
  simp[asAddr,hc,hf,events_store P w _ ad (.int k v) .atomic rfl],nI _ ⟨rfl,rfl⟩⟩
theorem XB.YW {m:Mark}(hm:N2 (.mark m)=true):XB P (fun _=> do mark m;pure Extern.Race.none_) vs w (.tuple #[]) w #[Go.ConcR.mk m]:=
 ⟨by simp[Extern.Race.none_],fun z=> by simp[Go.ConcR.mk],nI _ ⟨rfl,hm⟩⟩
theorem XB.rR {m:Addr->Mark}(hm:N2 (.mark (m ad))=true):XB P (Extern.Race.marked m) [.pointer (some ad)] w (.tuple #[]) w #[Go.ConcR.mk (m ad)]:=
 ⟨by simp[Extern.Race.marked,Extern.Race.at_,Extern.Race.none_],fun z=> by simp[Extern.Race.marked,Extern.Race.at_,Go.ConcR.mk],nI _ ⟨rfl,hm⟩⟩
theorem XB.aEN {n:Nat}(hx:vs[0]? =some (.pointer (some ad)))(hc:w.cell? ad=some (.int .u32 n))(hn:n≠0)(hf:w.frozen? ad=false):
  XB P Extern.Sync.semacquire vs w (.tuple #[]) (w.setCell ad (.int .u32 (n-1:Nat))) (semEvents ad):=by
 have e:((n-1:Nat):Int)=(n:Int)-1:=by omega
 rw[e];have VJ:vs.toArray[0]? =some (.pointer (some ad)):=by simpa using hx
 exact⟨by simp[Extern.Sync.semacquire,Extern.Sync.count,VJ,hc,hn,hf,Extern.Sync.none_,run_store P w ad (.int .u32 ((n:Int)-1)) .atomic rfl,Result.andThen],
  fun z=> by simp[Extern.Sync.semacquire,Extern.Sync.count,VJ,hc,hn,hf,semEvents,events_load,events_store P w _ ad (.int .u32 ((n:Int)-1)) .atomic rfl,run_store P w ad (.int .u32 ((n:Int)-1)) .atomic rfl,Result.evThen],XT ad⟩
theorem MT(hx:vs[0]? =some (.pointer (some ad)))(hc:w.cell? ad=some (.int .u32 0)):(Extern.Sync.semacquire vs.toArray).run P w=.halt .blocked w:=by
 have VJ:vs.toArray[0]? =some (.pointer (some ad)):=by simpa using hx
 simp[Extern.Sync.semacquire,Extern.Sync.count,VJ,hc]
theorem XB.aEO {n:Nat}(hx:vs[0]? =some (.pointer (some ad)))(hc:w.cell? ad=some (.int .u32 n))(hn:n<=1000)(hf:w.frozen? ad=false):
  XB P Extern.Sync.semrelease vs w (.tuple #[]) (w.setCell ad (.int .u32 (n+1:Nat))) (semEvents ad):=by
 have e:IntKind.u32.wrap ((n:Int)+1)=((n+1:Nat):Int):=by
  have h1:IntKind.u32.wrap ((n:Int)+1)=((n:Int)+1)%4294967296:=by
   simp[IntKind.wrap,IntKind.bits,IntKind.signed]
  rw[h1];omega
 rw[<-e];have VJ:vs.toArray[0]? =some (.pointer (some ad)):=by simpa using hx
 exact⟨by simp[Extern.Sync.semrelease,Extern.Sync.count,VJ,hc,hf,Extern.Sync.none_,Op.intArith,run_store P w ad (.int .u32 (IntKind.u32.wrap ((n:Int)+1))) .atomic rfl,Result.andThen],
  fun z=> by simp[Extern.Sync.semrelease,Extern.Sync.count,VJ,hc,hf,semEvents,Op.intArith,events_load,events_store P w _ ad (.int .u32 (IntKind.u32.wrap ((n:Int)+1))) .atomic rfl,run_store P w ad (.int .u32 (IntKind.u32.wrap ((n:Int)+1))) .atomic rfl,Result.evThen],XT ad⟩
theorem XB.idle {e:Array Value->Sem Value}(hv:e vs.toArray=Sem.pure v):XB P e vs w v w #[]:=
 ⟨by rw[hv];rfl,fun z=> by rw[hv];rfl,told_none⟩
end
end Go.RL
namespace Go.RL
open Go.Conc Go.ConcN Go.RL.Au
open Go.ConcR (stA smA rd wr mk)
open Go.ConcM (muA OsLater)
def aG:Nat->zB
 | 0=> .stop
 | n+1=> .step fun _=> aG n
theorem yV(n:Nat):zB.Lt (aG n) (aG (n+1)):=.step (fun _=> aG n) default
section
variable(P:Program)(X:Fk)(Fin:Goroutine->Prop)
inductive AQ(κ:Nat)(t:Th)(k:Nat)(H:View)(ρ:zB)(q d:Nat)(g:Goroutine):Prop where
 | quit (h:t=.quit) (hq:QuitsD P q d g)
 | quiet (n:Nat) (h:t≠ .quit/\t.mute=true) (hρ:ρ=aG n) (hg:Qt P (WS P X κ k t H) n g)
 | walk (h:t.mute=false) (hg:Tr (Mw P false X.ok) (WS P X κ k t) ρ H g)
inductive rU(m:Mn)(k j:Nat)(s:Sh)(H:View)(ρ:zB)(g:Goroutine):Prop where
 | walk (hg:Tr (Mw P true X.ok) (MS P X Fin k m j) ρ H g)
 | wait (g₀:Goroutine) (h:m=.ws/\s.q=0/\ρ=.stop) (hg:g= { g₀ with status:=.blocked }) (hw:MS P X Fin k m j H g₀)
end
section
variable {P:Program}{X:Fk}{Fin:Goroutine->Prop}{κ:Nat}{t:Th}{m:Mn}{k j q d:Nat}{s s':Sh}{H:View}{ρ:zB}{g x x':Goroutine}{w w':World}
theorem Tr.run {M:Md P}{St:View->Goroutine->Prop}(hM:∀H g Po,¬M.Ph H g Po)(hs:∀H g,St H g->g.status=.running)(h:Tr M St ρ H g):g.status=.running:=by
 cases ρ with
 | stop=> exact hs _ _ h
 | step f=> exact h.1
 | phase f=> obtain⟨Po,hp,_⟩:=h;exact(hM _ _ _ hp).elim
theorem Qt.run {K:Goroutine->Prop}{n:Nat}(hs:∀g,K g->g.status=.running)(h:Qt P K n g):g.status=.running:=by
 cases n with
 | zero=> exact hs _ h
 | succ n=> exact h.1
theorem AQ.status(h:AQ P X κ t (k+1) H ρ q d g):g.status=.running\/g.status=.finished:=by
 cases h with
 | quit h hq=> exact hq.status
 | quiet n h hρ hg=> exact .inl (hg.run fun _ h=> h.1.1)
 | walk h hg=> exact .inl (hg.run (fun _ _ _ h=> h) fun _ _ h=> h.1.1)
theorem rU.status(h:rU P X Fin m (k+1) j s H ρ g):g.status=.running\/g.status=.blocked:=by
 cases h with
 | walk hg=> exact .inl (hg.run (fun _ _ _ h=> h) fun _ _ h=> h.1.1)
 | wait g₀ h hg hw=> subst hg;exact .inr rfl
theorem woken_running(h:g.status=.running\/g.status=.finished):woken P x x' w' g=g:=by
 unfold woken;split
 ·exact again_running _ h
 ·rfl
theorem vX(h1:g.status=.running)(h2:g.offers=none):({ g with status:=.blocked }:Goroutine).again w=g:=by
 obtain⟨fr,cs,st,dy,of⟩:=g;simp only at h1 h2;subst h1 h2;rfl
theorem AQ.other(h:AQ P X κ t (k+1) H ρ q d g):AQ P X κ t (k+1) H ρ q d (woken P x x' w' g):=by
 cases h with
 | quit h hq=> rw[woken_quitsD hq];exact .quit h hq
 | quiet n h hρ hg=> rw[woken_running (.inl (hg.run fun _ h=> h.1.1))];exact .quiet n h hρ hg
 | walk h hg=> rw[woken_running (.inl (hg.run (fun _ _ _ h=> h) fun _ _ h=> h.1.1))];exact .walk h hg
theorem rU.other(h:rU P X Fin m (k+1) j s H ρ g)(hQ:s'.q<=s.q\/(mayWake P x=true/\x'.status=.running)):rU P X Fin m (k+1) j s' H ρ (woken P x x' w' g):=by
 cases h with
 | walk hg=> rw[woken_running (.inl (hg.run (fun _ _ _ h=> h) fun _ _ h=> h.1.1))];exact .walk hg
 | wait g₀ h hg hw=>
  subst hg;obtain⟨rfl,h2,rfl⟩:=h;by_cases hc:(mayWake P x&&x'.status !=.blocked&&x'.status !=.waiting)=true
  ·have:woken P x x' w' { g₀ with status:=.blocked }=g₀:=by unfold woken;rw[if_pos hc];exact vX hw.1.1 hw.1.2
   rw[this];exact .walk hw
  ·have:woken P x x' w' { g₀ with status:=.blocked }= { g₀ with status:=.blocked }:=by unfold woken;rw[if_neg hc]
   rw[this];refine .wait g₀ ⟨rfl,?_,rfl⟩ rfl hw;rcases hQ with h5|⟨h5,h6⟩
   ·omega
   ·exact absurd (by simp[h5,h6]) hc
end
structure WT(X:Fk)(B:View)(base N:Nat)(os0:GY)(w:World)(t:Trace)(ths:List Th)(m:Mn)(s:Sh)(H:Nat->View)(D:Nat->Bool):Prop where
 sh:ShAt X w s
 cb:X.C<w.heap.size
 vi:VI X H B w
 hx:∀g,¬Act base N g->∀b,H g b=none
 ti:TI X.Wg X.Wg X.C base N w.heap.size H B t
 free:(∃o,w.heap[X.C]? =some o/\X.GI D o)/\(∀g,H g X.C=none)/\Tok X.C base N t
 dI:∀(κ:Nat) T,ths[κ]? =some T->T.mute=true->∃r,RelBy (stA X.Wg) t (base+κ) r
 jU:Deaf t 0=m.deaf
 DX:∀(κ:Nat) T,ths[κ]? =some T->T≠ .quit->Deaf t (base+κ)=T.deaf
 os:fW os0 w
structure nN(P:Program)(X:Fk)(Fin:Goroutine->Prop)(base:Nat)(gs:Array Goroutine)(df:Nat->Nat)(ths:List Th)(m:Mn)(s:Sh)(H:Nat->View)(ks:Nat->Nat)(rks:List zB)(q:Nat->Nat):Prop where
 size:gs.size=base+ths.length
 LY:rks.length=gs.size
 main:∃g ρ,gs[0]? =some g/\rks[0]? =some ρ/\rU P X Fin m (ks 0) ths.length s (H 0) ρ g
 work:∀(κ:Nat) T,ths[κ]? =some T->∃g ρ,gs[base+κ]? =some g/\rks[base+κ]? =some ρ/\AQ P X κ T (ks (base+κ)) (H (base+κ)) ρ (q (base+κ)) (df (base+κ)) g
 aJ:∀i,0<i->i<base->∃g,gs[i]? =some g/\QuitsD P (q i) (df i) g
structure PI(P:Program)(X:Fk)(Fin:Goroutine->Prop)(B:View)(base:Nat)(os0:GY)(gs:Array Goroutine)(w:World)(t:Trace)(ths:List Th)(m:Mn)(s:Sh)(H:Nat->View)(ks:Nat->Nat)(rks:List zB)(q:Nat->Nat)(D:Nat->Bool):Prop where
 inv:Inv X.n ths m s
 b1:1<=base
 ne:X.Wg≠X.C
 dd:∀κ,D κ=((ths[κ]?).map Th.did).getD false
 depth:∀g,Act base gs.size g->mu X.n ths m s<ks g
 wt:WT X B base gs.size os0 w t ths m s H D
 si:nN P X Fin base gs (Deaf t) ths m s H ks rks q
def runs(gs:Array Goroutine):Nat:=gs.toList.countP fun g=> g.status==.running
abbrev xQ:=Nat×(List zB×(Nat×Nat))
def tF:xQ->xQ->Prop:=Prod.Lex (· < ·) (Prod.Lex kW (Prod.Lex (· < ·) (· < ·)))
theorem tF.wf:WellFounded tF:=(Prod.lex Nat.lt_wfRel (Prod.lex ⟨kW,kW.wf⟩ (Prod.lex Nat.lt_wfRel Nat.lt_wfRel))).wf
def NC(P:Program)(gs:Array Goroutine)(i:Nat)(g g':Goroutine)(w':World):Array Goroutine:=(gs.map (woken P g g' w')).setIfInBounds i g'
theorem zA {P:Program}{gs:Array Goroutine}{i:Nat}{g g':Goroutine}{w':World}:(NC P gs i g g' w').size=gs.size:=by simp[NC]
theorem CE {P:Program}{gs:Array Goroutine}{i:Nat}{g g':Goroutine}{w':World}(h:i<gs.size):(NC P gs i g g' w')[i]? =some g':=by simp[NC,h]
theorem qB {P:Program}{gs:Array Goroutine}{i j:Nat}{g g' x:Goroutine}{w':World}(h:j≠i)(hj:gs[j]? =some x):(NC P gs i g g' w')[j]? =some (woken P g g' w' x):=by
 simp[NC,Array.getElem?_setIfInBounds_ne (Ne.symm h),hj]
section
variable {P:Program}{X:Fk}{Fin:Goroutine->Prop}{base:Nat}{gs:Array Goroutine}{df df':Nat->Nat}{ths:List Th}{m m':Mn}{s s':Sh}{H:Nat->View}{ks:Nat->Nat}{rks:List zB}{q:Nat->Nat}{w':World}
theorem nN.worker(h:nN P X Fin base gs df ths m s H ks rks q){κ:Nat}{T T':Th}{g g':Goroutine}{H':View}{k' q':Nat}{ρ':zB}(hb:1<=base)(hk:∀i,Act base gs.size i->0<ks i)(hκ:ths[κ]? =some T)(UH:∀j,j≠base+κ->df' j=df j)
  (hQ:s'.q<=s.q\/(mayWake P g=true/\g'.status=.running)) (hs:AQ P X κ T' k' H' ρ' q' (df' (base+κ)) g'):
  nN P X Fin base (NC P gs (base+κ) g g' w') df' (ths.set κ T') m s' (upd H (base+κ) H') (upd ks (base+κ) k') (rks.set (base+κ) ρ') (upd q (base+κ) q'):=by
 have xB:κ<ths.length:=(List.getElem?_eq_some_iff.1 hκ).1;have hi:base+κ<gs.size:=by rw[h.size];omega
 refine⟨by rw[zA,List.length_set];exact h.size,by rw[zA,List.length_set];exact h.LY,?_,fun κ' T'' lC=> ?_,fun i h0 XU=> ?_⟩
 ·obtain⟨g0,ρ0,h1,h2,h3⟩:=h.main;have nB:(0:Nat)≠base+κ:=by omega
  refine⟨_,ρ0,qB nB h1,by rw[List.getElem?_set_ne (Ne.symm nB)];exact h2,?_⟩;rw[upd_ne _ _ nB,upd_ne _ _ nB,List.length_set];have:=hk 0 (.inl rfl);obtain⟨k0,X4⟩:∃k0,ks 0=k0+1:=⟨ks 0-1,oM⟩
  rw[X4] at h3 ⊢;exact h3.other hQ
 ·by_cases e:κ'=κ
  ·subst e;rw[List.getElem?_set_self xB] at lC;cases lC
   refine⟨g',ρ',CE hi,by rw[List.getElem?_set_self (by rw[h.LY];exact hi)],?_⟩;rw[upd_same,upd_same,upd_same];exact hs
  ·rw[List.getElem?_set_ne (Ne.symm e)] at lC;obtain⟨g0,ρ0,h1,h2,h3⟩:=h.work κ' T'' lC;have nB:base+κ'≠base+κ:=by omega
   refine⟨_,ρ0,qB nB h1,by rw[List.getElem?_set_ne (Ne.symm nB)];exact h2,?_⟩;rw[upd_ne _ _ nB,upd_ne _ _ nB,upd_ne _ _ nB,UH _ nB];have j7:=(List.getElem?_eq_some_iff.1 lC).1;have:=hk (base+κ') (.inr ⟨oM,by rw[h.size];omega⟩);obtain⟨k0,X4⟩:∃k0,ks (base+κ')=k0+1:=⟨ks (base+κ')-1,oM⟩
   rw[X4] at h3 ⊢;exact h3.other
 ·obtain⟨g0,h1,h2⟩:=h.aJ i h0 XU;have nB:i≠base+κ:=by omega
  exact⟨_,qB nB h1,by rw[upd_ne _ _ nB,UH _ nB,woken_quitsD h2];exact h2⟩
theorem nN.WK(h:nN P X Fin base gs df ths m s H ks rks q){g g':Goroutine}{H':View}{k':Nat}{ρ':zB}(hb:1<=base)(hk:∀i,Act base gs.size i->0<ks i)(UH:∀j,j≠0->df' j=df j)
  (hs:rU P X Fin m' k' ths.length s' H' ρ' g'):
  nN P X Fin base (NC P gs 0 g g' w') df' ths m' s' (upd H 0 H') (upd ks 0 k') (rks.set 0 ρ') q:=by
 have hi:0<gs.size:=by rw[h.size];omega
 refine⟨by rw[zA];exact h.size,by rw[zA,List.length_set];exact h.LY,⟨g',ρ',CE hi,by rw[List.getElem?_set_self (by rw[h.LY];exact hi)],by rw[upd_same,upd_same];exact hs⟩,fun κ' T'' lC=> ?_,fun i h0 XU=> ?_⟩
 ·obtain⟨g0,ρ0,h1,h2,h3⟩:=h.work κ' T'' lC;have nB:base+κ'≠0:=by omega
  refine⟨_,ρ0,qB nB h1,by rw[List.getElem?_set_ne (Ne.symm nB)];exact h2,?_⟩;rw[upd_ne _ _ nB,upd_ne _ _ nB,UH _ nB];have j7:=(List.getElem?_eq_some_iff.1 lC).1;have:=hk (base+κ') (.inr ⟨oM,by rw[h.size];omega⟩);obtain⟨k0,X4⟩:∃k0,ks (base+κ')=k0+1:=⟨ks (base+κ')-1,oM⟩
  rw[X4] at h3 ⊢;exact h3.other
 ·obtain⟨g0,h1,h2⟩:=h.aJ i h0 XU;have nB:i≠0:=by omega
  exact⟨_,qB nB h1,by rw[UH _ nB,woken_quitsD h2];exact h2⟩
theorem nN.qV(h:nN P X Fin base gs df ths m s H ks rks q){i:Nat}{g g':Goroutine}{q':Nat}(hk:∀i,Act base gs.size i->0<ks i)(h0:0<i)(XU:i<base)(UH:∀j,j≠i->df' j=df j)(hs:QuitsD P q' (df' i) g'):
  nN P X Fin base (NC P gs i g g' w') df' ths m s H ks rks (upd q i q'):=by
 have hi:i<gs.size:=by rw[h.size];omega
 refine⟨by rw[zA];exact h.size,by rw[zA];exact h.LY,?_,fun κ' T'' lC=> ?_,fun j h0 hjb=> ?_⟩
 ·obtain⟨g0,ρ0,h1,h2,h3⟩:=h.main;have nB:(0:Nat)≠i:=by omega
  refine⟨_,ρ0,qB nB h1,h2,?_⟩;have:=hk 0 (.inl rfl);obtain⟨k0,X4⟩:∃k0,ks 0=k0+1:=⟨ks 0-1,oM⟩
  rw[X4] at h3 ⊢;exact h3.other (.inl (Nat.le_refl _))
 ·obtain⟨g0,ρ0,h1,h2,h3⟩:=h.work κ' T'' lC;have nB:base+κ'≠i:=by omega
  refine⟨_,ρ0,qB nB h1,h2,?_⟩;rw[upd_ne _ _ nB,UH _ nB];have j7:=(List.getElem?_eq_some_iff.1 lC).1;have:=hk (base+κ') (.inr ⟨oM,by rw[h.size];omega⟩);obtain⟨k0,X4⟩:∃k0,ks (base+κ')=k0+1:=⟨ks (base+κ')-1,oM⟩
  rw[X4] at h3 ⊢;exact h3.other
 ·by_cases e:j=i
  ·subst e;exact⟨g',CE hi,by rw[upd_same];exact hs⟩
  ·obtain⟨g0,h1,h2⟩:=h.aJ j h0 hjb;exact⟨_,qB e h1,by rw[upd_ne _ _ e,UH _ e,woken_quitsD h2];exact h2⟩
end
end Go.RL
