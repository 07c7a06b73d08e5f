/-
 Texts of the proofs over baudot/dial.
-/
import Derived.Test.YtldmfjcgjdchcaaGreatDoorS01
import Derived.Orders
import Derived.Test.YtldmfjcgjdchcaaGreatDoorChecked
import Derived.KernelRfl
import Derived.Conc.CrowdBase
import Derived.Conc.MuSpec
import Derived.Conc.QuitsD
import Derived.Conc.HoldsTime
import Derived.Conc.MarkLaws
import Derived.Conc.AtomicLaws2
import Derived.Conc.ClockLaws
import Derived.Conc.Beside
namespace Go.RL
open Go.Conc
section
variable {P:Program}{M:Md P}{md:Region.Mode}{ops:Array Oper}{S:Array Bool->View->Prop}{Fin:Array Value->View->Prop}
def KI(M:Md P)(ops:Array Oper)(o:Oper)(tmps:Array Value)(H:View)(K:Array Value->View->Prop):Prop:=
 BA o.op=false/\(if Region.wanted o (yielded ops tmps) then pF M o tmps H K else K (HB tmps o.dst undef) H)
def GJ(M:Md P)(md:Region.Mode)(ops:Array Oper)(S:Array Bool->View->Prop)(Fin:Array Value->View->Prop):Nat->Array Bool->Array Value->View->Prop
 | 0,listed,tmps,H=> ∀H₂,H.le H₂->S listed H₂->Region.ready md ops listed= []/\Fin tmps H₂
 | fuel+1,listed,tmps,H=> ∀H₂,H.le H₂->S listed H₂-> 
  (Region.ready md ops listed= []->Fin tmps H₂)/\
  ∀i∈Region.ready md ops listed,∀o,ops[i]? =some o->KI M ops o tmps H₂ fun tmps' H'=> S (listed.setIfInBounds i true) H'/\GJ M md ops S Fin fuel (listed.setIfInBounds i true) tmps' H'
theorem GJ.mono {fuel:Nat}{listed:Array Bool}{tmps:Array Value}{H H':View}(h:GJ M md ops S Fin fuel listed tmps H)(k:H.le H'):GJ M md ops S Fin fuel listed tmps H':=by
 cases fuel with
 | zero=> exact fun H₂ h2 hS=> h H₂ (View.le_trans k h2) hS
 | succ fuel=> exact fun H₂ h2 hS=> h H₂ (View.le_trans k h2) hS
theorem KI.sound {St:View->Goroutine->Prop}{b:FB}{ds:List Deferred}{k:List Item}{cs:List Frame}{i:Nat}{rest:List Nat}{o:Oper}{tmps:Array Value}{H:View}(ho:ops[i]? =some o)
  (h:KI M ops o tmps H fun t H'=> T M St H' (G (b.at t ds (.inRegion ops rest::k)) cs)):T M St H (G (b.at tmps ds (.inRegion ops (i::rest)::k)) cs):=by
 obtain⟨hd,h⟩:=h;split at h
 ·rename_i hw
  exact h.sound ho hw hd
 ·rename_i hw
  exact .xL ho (by simpa using hw) h
theorem KI.mono {o:Oper}{tmps:Array Value}{H:View}{K K':Array Value->View->Prop}(h:KI M ops o tmps H K)(hk:∀t H',K t H'->K' t H'):KI M ops o tmps H K':=by
 obtain⟨hd,h⟩:=h;refine⟨hd,?_⟩;split
 ·rename_i hw
  rw[if_pos hw] at h;exact h.mono hk
 ·rename_i hw
  rw[if_neg hw] at h;exact hk _ _ h
theorem GJ.sound {St:View->Goroutine->Prop}{b:FB}{ds:List Deferred}{k:List Item}{cs:List Frame}:∀(fuel t:Nat) (listed:Array Bool) (tmps:Array Value) (H:View),S listed H-> 
  GJ M md ops S (fun tmps H=> T M St H (G (b.at tmps ds k) cs)) fuel listed tmps H->T M St H (G (b.at tmps ds (.inRegion ops (Region.linearise.go md ops fuel t listed [])::k)) cs):=by
 intro fuel;induction fuel with
 | zero=>
  intro t listed tmps H hS h;simp only[Region.linearise.go];exact .mH (h H (View.le_refl H) hS).2
 | succ fuel ih=>
  intro t listed tmps H hS h;have h:=h H (View.le_refl H) hS;have e:Region.linearise.go md ops (fuel+1) t listed []=match (Region.ready md ops listed)[t%(Region.ready md ops listed).length]? with
    | some i=> i::Region.linearise.go md ops fuel (t/(Region.ready md ops listed).length) (listed.setIfInBounds i true) []
    | none=> []:=by
   rw[Region.linearise.go];show(match (Region.ready md ops listed)[t%(Region.ready md ops listed).length]? with
    | some i=> Region.linearise.go md ops fuel (t/(Region.ready md ops listed).length) (listed.setIfInBounds i true) [i]
    | none=> List.reverse [])=_
   split
   ·rename_i i _
    rw[linearise_go_acc];rfl
   ·rfl
  rw[e];split
  ·rename_i i hi
   have VD:=List.mem_of_getElem? hi;obtain⟨_,o,ho,_⟩:=mem_ready.1 VD;exact KI.sound ho ((h.2 i VD o ho).mono fun t' H' hk=> ih _ _ _ _ hk.1 hk.2)
  ·rename_i hi
   have iG:Region.ready md ops listed= []:=by
    cases hr:Region.ready md ops listed with
    | nil=> rfl
    | cons a l=>
     rw[hr] at hi;have:t%(a::l).length<(a::l).length:=Nat.mod_lt _ (by simp);rw[List.getElem?_eq_getElem this] at hi;cases hi
   exact .mH (h.1 iG)
def tD(M:Md P)(o:Oper)(tmps:Array Value)(H:View)(K:Value->View->Prop):Prop:=
 HA P (execOp (OB tmps) o) H fun nx H'=>
  match nx with
  | .value v=> K v H'
  | .skip=> K undef H'
  | .enter f args=> fA M f args H' K
  | .round l f tmps' assign body=> VM M (Frame.round l f tmps' assign body .normal) H' K
  | _=> False
theorem tD.run {o:Oper}{tmps:Array Value}{H:View}{K:Value->View->Prop}{K':Array Value->View->Prop}(h:tD M o tmps H K)(hk:∀v H',K v H'->K' (HB tmps o.dst v) H'):pF M o tmps H K':=
 VA _ (fun nx H' hn=> by
  cases nx <;> first|exact hn.elim|skip
  ·exact hk _ _ hn
  ·exact hk _ _ hn
  ·exact fA.mono hn hk
  ·exact VM.mono hn hk) h
def fC(md:Region.Mode)(ops:Array Oper)(listed:Array Bool):Bool:=
 ops.toList.zipIdx.all fun x=> !(listed.getD x.2 true)||x.1.after.all fun e=> !(Region.binds md e)||listed.getD e.on false
theorem OI {listed:Array Bool}(h:fC md ops listed=true){j:Nat}{o:Oper}(hj:ops[j]? =some o)(hl:listed.getD j true=true){e:Edge}(he:e∈o.after)(hb:Region.binds md e=true):listed.getD e.on false=true:=by
 unfold fC at h;rw[List.all_eq_true] at h;have hm:(o,j)∈ops.toList.zipIdx:=by
  rw[List.mem_zipIdx_iff_getElem?];simpa using hj
 have:=h _ hm;simp only[hl,Bool.not_true,Bool.false_or,Array.all_eq_true_iff_forall_mem] at this;have:=this e he;simpa [hb] using this
theorem YH {listed:Array Bool}{i:Nat}(h:fC md ops listed=true)(hr:i∈Region.ready md ops listed):fC md ops (listed.setIfInBounds i true)=true:=by
 unfold fC;rw[List.all_eq_true];rintro⟨o,j⟩ hm;rw[List.mem_zipIdx_iff_getElem?] at hm;have hj:ops[j]? =some o:=by simpa using hm
 have hup:∀k,listed.getD k false=true->(listed.setIfInBounds i true).getD k false=true:=by
  intro k hk;by_cases e:i=k
  ·subst e;rcases Nat.lt_or_ge i listed.size with h'|h'
   ·simp[h']
   ·simp[Array.getElem?_eq_none h'] at hk
  ·simp only[Array.getD_eq_getD_getElem?,Array.getElem?_setIfInBounds_ne e] at hk ⊢;exact hk
 cases hl:(listed.setIfInBounds i true).getD j true with
 | false=> rfl
 | true=>
  simp only[Bool.not_true,Bool.false_or,Array.all_eq_true_iff_forall_mem];intro e he;cases hb:Region.binds md e with
  | false=> rfl
  | true=>
   simp only[Bool.not_true,Bool.false_or];refine hup _ ?_;by_cases DJ:i=j
   ·subst DJ;obtain⟨_,o',pP,QA⟩:=mem_ready.1 hr;rw[hj] at pP;cases pP
    exact QA e he hb
   ·rw[getD_set_ne true DJ] at hl;exact OI h hj hl he hb
def OF(M:Md P)(md:Region.Mode)(ops:Array Oper)(S:Array Bool->View->Prop)(i:Nat)(o:Oper)(v:Value)(tmps:Array Value):Prop:=
 (Region.wanted o (yielded ops tmps)=true/\∀listed,fC md ops listed=true->listed.getD i true=false->∀H,S listed H->tD M o tmps H fun u H'=> u=v/\H.le H'/\S listed H')\/ 
 (Region.wanted o (yielded ops tmps)=false/\v=undef)
theorem CZ(tmps:Array Value):OB tmps=(⟨tmps,[]⟩:Act).eval:=by funext x;cases x <;> rfl
theorem G9(tmps:Array Value)(d:Option Tmp)(v:Value):HB tmps d v=((⟨tmps,[]⟩:Act).put d v).tmps:=by cases d <;> rfl
theorem BM(tmps:Array Value)(d:Option Tmp)(v:Value):(⟨HB tmps d v,[]⟩:Act)=(⟨tmps,[]⟩:Act).put d v:=by cases d <;> rfl
theorem uN(o:Oper)(hs:∀cs b,o.op≠ .select cs b)(tmps:Array Value)(dst:Option Tmp)(v:Value)(h:∀d,dst=some d->d ∉ o.looksAt ops):execOp (OB (HB tmps dst v)) o=execOp (OB tmps) o:=by
 rw[CZ,CZ,BM];exact execOp_put o hs _ dst v h
theorem qK(o:Oper)(tmps:Array Value)(dst:Option Tmp)(v:Value)(h:∀d,dst=some d->d ∉ o.looksAt ops):Region.wanted o (yielded ops (HB tmps dst v))=Region.wanted o (yielded ops tmps):=by
 rw[G9];exact wanted_put o ⟨tmps,[]⟩ dst v h
theorem FK(tmps:Array Value){x y:Option Tmp}(v u:Value)(h:∀d,x=some d->y≠some d):HB (HB tmps x v) y u=HB (HB tmps y u) x v:=by
 have:=congrArg Act.tmps (Act.put_comm ⟨tmps,[]⟩ v u h);rw[<-BM,<-BM,<-BM,<-BM] at this;exact this
theorem OF.put {i:Nat}{o o':Oper}{v u:Value}{tmps:Array Value}(h:OF M md ops S i o v tmps)(hs:∀cs b,o.op≠ .select cs b)(ha:∀d,o'.dst=some d->d ∉ o.looksAt ops):OF M md ops S i o v (HB tmps o'.dst u):=by
 unfold OF tD at *;rw[uN o hs tmps o'.dst u ha,qK o tmps o'.dst u ha];exact h
theorem KI.back {oi oj:Oper}{v:Value}{tmps:Array Value}{H:View}{K:Array Value->View->Prop}(pO:oi.apart ops oj=true)(hsj:∀cs b,oj.op≠ .select cs b)(h:KI M ops oj (HB tmps oi.dst v) H K):
  KI M ops oj tmps H fun t H'=> (∃u,t=HB tmps oj.dst u)/\K (HB t oi.dst v) H':=by
 obtain⟨h1,h2,_⟩:=Oper.apart_spec pO;obtain⟨hd,h⟩:=h;refine⟨hd,?_⟩;rw[qK oj tmps oi.dst v h1] at h;split
 ·rename_i hw
  rw[if_pos hw] at h;unfold pF at *;rw[uN oj hsj tmps oi.dst v h1] at h;refine VA _ (fun nx H' hn=> ?_) h;cases nx <;> first
   | exact hn.elim
   | exact⟨⟨_,rfl⟩,by rw[<-FK tmps v _ h2];exact hn⟩
   | exact fA.mono hn fun u H'' hk=> ⟨⟨_,rfl⟩,by rw[<-FK tmps v _ h2];exact hk⟩
   | exact VM.mono hn fun u H'' hk=> ⟨⟨_,rfl⟩,by rw[<-FK tmps v _ h2];exact hk⟩
 ·rename_i hw
  rw[if_neg hw] at h;exact⟨⟨_,rfl⟩,by rw[<-FK tmps v _ h2];exact h⟩
theorem GJ.first {i:Nat}{oi:Oper}{v:Value}(hi:ops[i]? =some oi)(ME:∀(j:Nat) (o:Oper) cs b,ops[j]? =some o->o.op≠ .select cs b)(K7:BA oi.op=false)(DH:∀listed H,S (listed.setIfInBounds i true) H<->S listed H):
  ∀ (fuel:Nat) (listed:Array Bool) (tmps:Array Value) (H:View),
   (∀j oj,ops[j]? =some oj->j≠i->listed.getD j true=false->(∀e∈oj.after,Region.binds md e=true->e.on≠i)->oi.apart ops oj=true)-> 
   fC md ops listed=true->i∈Region.ready md ops listed->OF M md ops S i oi v tmps-> 
   GJ M md ops S Fin fuel (listed.setIfInBounds i true) (HB tmps oi.dst v) H->GJ M md ops S Fin (fuel+1) listed tmps H:=by
 have own:∀(fuel:Nat) (listed:Array Bool) (tmps:Array Value) (H:View),fC md ops listed=true->i∈Region.ready md ops listed->OF M md ops S i oi v tmps->S listed H->GJ M md ops S Fin fuel (listed.setIfInBounds i true) (HB tmps oi.dst v) H-> 
   KI M ops oi tmps H fun t H'=> S (listed.setIfInBounds i true) H'/\GJ M md ops S Fin fuel (listed.setIfInBounds i true) t H':=by
  intro fuel listed tmps H iB WO hy hS h;refine⟨K7,?_⟩;rcases hy with ⟨hw,hv⟩|⟨hw,rfl⟩
  ·rw[if_pos hw];refine(hv listed iB (mem_ready.1 WO).1 H hS).run ?_;rintro u H' ⟨rfl,hle,zR⟩;exact⟨(DH listed H').2 zR,h.mono hle⟩
  ·rw[if_neg (by simp[hw])];exact⟨(DH listed H).2 hS,h⟩
 intro fuel;induction fuel with
 | zero=>
  intro listed tmps H _ iB hr hy h H₂ h2 hS;refine⟨fun e=> (by rw[e] at hr;cases hr),fun j hj o ho=> ?_⟩;by_cases DJ:j=i
  ·subst DJ;rw[hi] at ho;cases ho
   exact own 0 listed tmps H₂ iB hr hy hS (h.mono h2)
  ·have:=ready_mono hj DJ;rw[(h H₂ h2 ((DH listed H₂).2 hS)).1] at this;cases this
 | succ fuel ih=>
  intro listed tmps H UK iB hr hy h H₂ h2 hS;refine⟨fun e=> (by rw[e] at hr;cases hr),fun j hj oj lS=> ?_⟩;by_cases DJ:j=i
  ·subst DJ;rw[hi] at lS;cases lS
   exact own (fuel+1) listed tmps H₂ iB hr hy hS (h.mono h2)
  ·have h1:=(h H₂ h2 ((DH listed H₂).2 hS)).2 j (ready_mono hj DJ) oj lS;have J7:=YH iB hj;obtain⟨GV,oj',MV,QA⟩:=mem_ready.1 hj;rw[lS] at MV;cases MV
   have a8:∀e∈oj.after,Region.binds md e=true->e.on≠i:=fun e he hb heq=> by
    have h1:=QA e he hb;have h0:=(mem_ready.1 hr).1;rw[heq] at h1;rcases Nat.lt_or_ge i listed.size with h'|h'
    ·simp[h'] at h0 h1;rw[h0] at h1;cases h1
    ·simp[Array.getElem?_eq_none h'] at h1
   have pO:=UK j oj lS DJ GV a8;have eQ:∀k ok,ops[k]? =some ok->k≠i->(listed.setIfInBounds j true).getD k true=false-> 
     (∀e∈ok.after,Region.binds md e=true->e.on≠i)->oi.apart ops ok=true:=fun k ok hk hki FU gB=> by
    refine UK k ok hk hki ?_ gB;by_cases hjk:j=k
    ·subst hjk;exact GV
    ·rw[getD_set_ne true hjk] at FU;exact FU
   refine(h1.back pO (fun cs b=> ME j oj cs b lS)).mono ?_;rintro t H' ⟨⟨u,rfl⟩,zR,h3⟩;rw[Array.setIfInBounds_comm _ _ (Ne.symm DJ)] at zR;refine⟨(DH _ H').1 zR,ih (listed.setIfInBounds j true) _ H' eQ J7 (ready_mono hr (Ne.symm DJ)) (hy.put (fun cs b=> ME i oi cs b hi) (Oper.apart_spec pO).2.2) ?_⟩;rw[Array.setIfInBounds_comm _ _ DJ];exact h3
end
section
variable {P:Program}{M:Md P}{St:View->Goroutine->Prop}{n:Nat}{b:FB}{H₀:View}{cs:List Frame}{R:Rg}{L L':Bl}{ds:List Deferred}{k:List Item}{S:Array Bool->View->Prop}{md:Region.Mode}{ops:Array Oper}
def Ta(M:Md P)(St:View->Goroutine->Prop)(n:Nat)(b:FB)(H₀:View)(cs:List Frame)(S:Array Bool->View->Prop)(md:Region.Mode)(ops:Array Oper)(fuel:Nat)(listed:Array Bool)(R:Rg)(L:Bl)(ds:List Deferred)(k:List Item):Prop:=
 ∀H tmps,jA H₀ L H->YA n R tmps->S listed H->GJ M md ops S (fun tmps H=> T M St H (G (b.at tmps ds k) cs)) fuel listed tmps H
theorem Ta.done {fuel:Nat}{listed:Array Bool}(hr:Region.ready md ops listed= [])(h:Tc M St n b H₀ cs R L ds k):Ta M St n b H₀ cs S md ops fuel listed R L ds k:=fun H tmps hs XD _=> by
 cases fuel with
 | zero=> exact fun H₂ h2 _=> ⟨hr,h H₂ tmps (hs.mono h2) XD⟩
 | succ f=> exact fun H₂ h2 _=> ⟨fun _=> h H₂ tmps (hs.mono h2) XD,fun i hi=> by rw[hr] at hi;cases hi⟩
theorem Ta.take(i:Nat){o:Oper}{d:Nat}{v:Value}{fuel:Nat}{listed:Array Bool}(hi:ops[i]? =some o)(ME:Region.noSelect ops=true)(hr:(Region.ready md ops listed).contains i=true)(hf:Region.free md ops listed i=true)
  (hd:o.dst=some d) (hn:d<n) (mF:BA o.op=false) (iB:fC md ops listed=true) (DH:∀listed H,S (listed.setIfInBounds i true) H<->S listed H) (hw:TA (ops.toList.map (fun o:Oper=> o.dst)) R o=some true)
  (hv:∀listed,fC md ops listed=true->listed.getD i true=false->∀H tmps,S listed H->YA n R tmps->tD M o tmps H fun u H'=> u=v/\H.le H'/\S listed H')
  (h:Ta M St n b H₀ cs S md ops fuel (listed.setIfInBounds i true) ((d,v)::R) L ds k):Ta M St n b H₀ cs S md ops (fuel+1) listed R L ds k:=fun H tmps hs XD hS=> by
 refine GJ.first hi (Region.noSelect_spec ME) mF DH fuel listed tmps H (fun j oj hj aB FU gB=> Region.free_spec hi hf j oj hj aB FU gB) iB (by simpa using hr) (.inl ⟨rB (fun j=> ?_) XD hw,fun l iB hu H hSH=> hv l iB hu H tmps hSH XD⟩) ?_
 ·simp only[List.getElem?_map,Array.getElem?_toList];cases ops[j]? <;> rfl
 ·rw[hd];exact h H _ hs (XD.put hn v) ((DH _ H).2 hS)
theorem Ta.pass(i:Nat){o:Oper}{d:Nat}{fuel:Nat}{listed:Array Bool}(hi:ops[i]? =some o)(ME:Region.noSelect ops=true)(hr:(Region.ready md ops listed).contains i=true)(hf:Region.free md ops listed i=true)
  (hd:o.dst=some d) (hn:d<n) (mF:BA o.op=false) (iB:fC md ops listed=true) (DH:∀listed H,S (listed.setIfInBounds i true) H<->S listed H) (hw:TA (ops.toList.map (fun o:Oper=> o.dst)) R o=some false)
  (h:Ta M St n b H₀ cs S md ops fuel (listed.setIfInBounds i true) ((d,undef)::R) L ds k):Ta M St n b H₀ cs S md ops (fuel+1) listed R L ds k:=fun H tmps hs XD hS=> by
 refine GJ.first hi (Region.noSelect_spec ME) mF DH fuel listed tmps H (fun j oj hj aB FU gB=> Region.free_spec hi hf j oj hj aB FU gB) iB (by simpa using hr) (.inr ⟨rB (fun j=> ?_) XD hw,rfl⟩) ?_
 ·simp only[List.getElem?_map,Array.getElem?_toList];cases ops[j]? <;> rfl
 ·rw[hd];exact h H _ hs (XD.put hn undef) ((DH _ H).2 hS)
def uJ(M:Md P)(St:View->Goroutine->Prop)(n:Nat)(b:FB)(H₀:View)(cs:List Frame)(S:Array Bool->View->Prop)(md:Region.Mode)(ops:Array Oper)(fuel:Nat)(listed:Array Bool)(R:Rg)(L:Bl)(ds:List Deferred)(k:List Item)(i:Nat):Prop:=
 ∃ o,ops[i]? =some o/\BA o.op=false/\TA (ops.toList.map (fun o:Oper=> o.dst)) R o=some true/\
  Or M n H₀ R L o fun R' L'=> (∀H,jA H₀ L' H->S (listed.setIfInBounds i true) H)/\Ta M St n b H₀ cs S md ops fuel (listed.setIfInBounds i true) R' L' ds k
theorem uJ.mk {fuel:Nat}{listed:Array Bool}{i:Nat}{o:Oper}(ho:ops[i]? =some o)(hd:BA o.op=false)(hw:TA (ops.toList.map (fun o:Oper=> o.dst)) R o=some true)
 (h:Or M n H₀ R L o fun R' L'=> (∀H,jA H₀ L' H->S (listed.setIfInBounds i true) H)/\Ta M St n b H₀ cs S md ops fuel (listed.setIfInBounds i true) R' L' ds k):uJ M St n b H₀ cs S md ops fuel listed R L ds k i:=⟨o,ho,hd,hw,h⟩
theorem Ta.all {fuel:Nat}{listed:Array Bool}{rs:List Nat}(hr:Region.ready md ops listed=rs)(aB:rs.isEmpty=false)(h:∀i∈rs,uJ M St n b H₀ cs S md ops fuel listed R L ds k i):
  Ta M St n b H₀ cs S md ops (fuel+1) listed R L ds k:=fun H tmps hs XD _ H₂ h2 hS=> by
 have hs:=hs.mono h2;refine⟨fun e=> ?_,fun i hi o ho=> ?_⟩
 ·rw[hr] at e;rw[e] at aB;cases aB
 ·rw[hr] at hi;obtain⟨o',pP,hd,hw,h'⟩:=h i hi;rw[ho] at pP;cases pP
  refine⟨hd,?_⟩;have YZ:Region.wanted o (yielded ops tmps)=true:=rB (fun j=> by
   simp only[List.getElem?_map,Array.getElem?_toList];cases ops[j]? <;> rfl) XD hw
  rw[if_pos YZ];refine(h' H₂ tmps hs XD).mono ?_;rintro t H' ⟨R',L',h1,h2,h3,h4⟩;exact⟨h3 H' h2,h4 H' t h2 h1 (h3 H' h2)⟩
def S2(H₀:View)(B:List Nat)(Ls L:Bl):Array Bool->View->Prop:=fun listed H=>
 jA H₀ Ls H/\((B.all fun j=> !(listed.getD j true))=true->jA H₀ L H)
theorem S2.same {B:List Nat}{Ls:Bl}{i:Nat}(hi:B.contains i=false):∀listed H,S2 H₀ B Ls L (listed.setIfInBounds i true) H<->S2 H₀ B Ls L listed H:=fun listed H=> by
 have:(B.all fun j=> !((listed.setIfInBounds i true).getD j true))=B.all fun j=> !(listed.getD j true):=by
  rw[Bool.eq_iff_iff,List.all_eq_true,List.all_eq_true];refine forall_congr' fun j=> forall_congr' fun hj=> ?_;have aB:i≠j:=by
   rintro rfl;have:B.contains i=true:=by simpa using hj
   rw[hi] at this;cases this
  rw[getD_set_ne true aB]
 unfold S2;rw[this]
def waits(md:Region.Mode)(ops:Array Oper)(i j:Nat):Bool:=
 match ops[j]? with
 | some o=> o.after.any fun e=> Region.binds md e&&e.on==i
 | none=> false
theorem S2.aAc {B:List Nat}{Ls:Bl}{i:Nat}{listed:Array Bool}{H:View}(h:S2 H₀ B Ls L listed H)(hc:fC md ops listed=true)(hu:listed.getD i true=false)(hB:(B.all fun j=> waits md ops i j)=true):jA H₀ L H:=by
 refine h.2 ?_;rw[List.all_eq_true] at hB ⊢;intro j hj;have:=hB j hj;unfold waits at this;cases hl:listed.getD j true with
 | false=> rfl
 | true=>
  split at this
  ·rename_i o ho
   rw[Array.any_eq_true'] at this;obtain⟨e,he,hb⟩:=this;simp only[Bool.and_eq_true,beq_iff_eq] at hb;have h1:=OI hc ho hl he hb.1;rw[hb.2] at h1;rcases Nat.lt_or_ge i listed.size with h'|h'
   ·simp[h'] at h1 hu
    rw[hu] at h1;cases h1
   ·simp[Array.getElem?_eq_none h'] at hu
  ·cases this
def cD(md:Region.Mode)(ops:Array Oper)(B:List Nat)(listed:Array Bool)(i:Nat):Bool:=
 Region.noSelect ops&&(Region.ready md ops listed).contains i&&Region.free md ops listed i&&fC md ops listed && !(B.contains i)&&B.all fun j=> waits md ops i j
theorem Ta.tk {H₁:View}(i:Nat){B:List Nat}{Ls L₁:Bl}{o:Oper}{d:Nat}{v:Value}{fuel:Nat}{listed:Array Bool}(hc:cD md ops B listed i=true)(hi:ops[i]? =some o)(hd:o.dst=some d)(hn:d<n)(mF:BA o.op=false)(hw:TA (ops.toList.map (fun o:Oper=> o.dst)) R o=some true)
  (hv:∀H tmps,jA H₀ L H->YA n R tmps->tD M o tmps H fun u H'=> u=v/\H.le H')
  (h:Ta M St n b H₁ cs (S2 H₀ B Ls L) md ops fuel (listed.setIfInBounds i true) ((d,v)::R) L₁ ds k):Ta M St n b H₁ cs (S2 H₀ B Ls L) md ops (fuel+1) listed R L₁ ds k:=by
 simp only[cD,Bool.and_eq_true,Bool.not_eq_true'] at hc;obtain⟨⟨⟨⟨⟨ME,hr⟩,hf⟩,iB⟩,DH⟩,hB⟩:=hc;exact .take i hi ME hr hf hd hn mF iB (S2.same DH) hw (fun _ hc hu H tmps hS hr=> by
  have:=hv H tmps (hS.aAc hc hu hB) hr;unfold tD at this ⊢;have fin:∀u H',(u=v/\H.le H')->u=v/\H.le H'/\S2 H₀ B Ls L _ H':=fun u H' ⟨h1,h2⟩=> ⟨h1,h2,hS.1.mono h2,fun hh=> (hS.2 hh).mono h2⟩
  refine VA _ (fun nx H' hn=> ?_) this;cases nx <;> first
   | exact hn.elim
   | exact fin _ _ hn
   | exact fA.mono hn fin
   | exact VM.mono hn fin) h
theorem Ta.tkw {H₁:View}(i:Nat){B:List Nat}{Ls L₁:Bl}{o:Oper}{d:Nat}{v:Value}{fuel:Nat}{listed:Array Bool}(hc:cD md ops [] listed i=true)(DH:B.contains i=false)(hi:ops[i]? =some o)(hd:o.dst=some d)(hn:d<n)(mF:BA o.op=false)(hw:TA (ops.toList.map (fun o:Oper=> o.dst)) R o=some true)
  (hv:∀H tmps,jA H₀ Ls H->YA n R tmps->tD M o tmps H fun u H'=> u=v/\H.le H')
  (h:Ta M St n b H₁ cs (S2 H₀ B Ls L) md ops fuel (listed.setIfInBounds i true) ((d,v)::R) L₁ ds k):Ta M St n b H₁ cs (S2 H₀ B Ls L) md ops (fuel+1) listed R L₁ ds k:=by
 simp only[cD,Bool.and_eq_true,Bool.not_eq_true'] at hc;obtain⟨⟨⟨⟨⟨ME,hr⟩,hf⟩,iB⟩,_⟩,_⟩:=hc;exact .take i hi ME hr hf hd hn mF iB (S2.same DH) hw (fun _ _ _ H tmps hS hr=> by
  have:=hv H tmps hS.1 hr;unfold tD at this ⊢;have fin:∀u H',(u=v/\H.le H')->u=v/\H.le H'/\S2 H₀ B Ls L _ H':=fun u H' ⟨h1,h2⟩=> ⟨h1,h2,hS.1.mono h2,fun hh=> (hS.2 hh).mono h2⟩
  refine VA _ (fun nx H' hn=> ?_) this;cases nx <;> first
   | exact hn.elim
   | exact fin _ _ hn
   | exact fA.mono hn fin
   | exact VM.mono hn fin) h
theorem Ta.ps {H₁:View}(i:Nat){B:List Nat}{Ls L₁:Bl}{o:Oper}{d:Nat}{fuel:Nat}{listed:Array Bool}(hc:cD md ops [] listed i=true)(DH:B.contains i=false)(hi:ops[i]? =some o)(hd:o.dst=some d)(hn:d<n)(mF:BA o.op=false)(hw:TA (ops.toList.map (fun o:Oper=> o.dst)) R o=some false)
  (h:Ta M St n b H₁ cs (S2 H₀ B Ls L) md ops fuel (listed.setIfInBounds i true) ((d,undef)::R) L₁ ds k):Ta M St n b H₁ cs (S2 H₀ B Ls L) md ops (fuel+1) listed R L₁ ds k:=by
 simp only[cD,Bool.and_eq_true,Bool.not_eq_true'] at hc;obtain⟨⟨⟨⟨⟨ME,hr⟩,hf⟩,iB⟩,_⟩,_⟩:=hc;exact .pass i hi ME hr hf hd hn mF iB (S2.same DH) hw h
def aAx(p:Nat->Prop):List Nat->Prop
 | []=> True
 | x::xs=> p x/\aAx p xs
theorem aAx.mem {p:Nat->Prop}:∀ {l:List Nat},aAx p l->∀i∈l,p i
 | [],_,i,hi=> by cases hi
 | x::xs,⟨h1,h2⟩,i,hi=> by
  rcases List.mem_cons.1 hi with rfl|hi
  ·exact h1
  ·exact h2.mem i hi
theorem Ta.each(rs:List Nat){fuel:Nat}{listed:Array Bool}(hr:Region.ready md ops listed=rs)(aB:rs.isEmpty=false)(h:aAx (uJ M St n b H₀ cs S md ops fuel listed R L ds k) rs):
 Ta M St n b H₀ cs S md ops (fuel+1) listed R L ds k:=.all hr aB h.mem
theorem S2.mk {B:List Nat}{Ls L₁:Bl}{listed:Array Bool}(h1:Ls.Sublist L₁)(h2:(B.all fun j=> !(listed.getD j true))=false\/L.Sublist L₁):∀H,jA H₀ L₁ H->S2 H₀ B Ls L listed H:=fun _ hs=>
 ⟨hs.less h1,fun h=> h2.elim (fun e=> by rw[e] at h;cases h) fun e=> hs.less e⟩
def aI(L:Bl):List Nat->Bl
 | []=> L
 | i::is=> (aI L is).eraseIdx i
theorem YE:∀(E:List Nat) (L:Bl),(aI L E).Sublist L
 | [],_=> List.Sublist.refl _
 | i::is,L=> ((aI L is).eraseIdx_sublist i).trans (YE is L)
theorem Tc.dr {id:Nat}{fuel:Nat}(B E:List Nat)(hm:P.follows .mixedOrders=true)(hf:ops.size=fuel)(h:Ta M St n b H₀ cs (S2 H₀ B (aI L E) L) .any ops fuel (Array.replicate fuel false) R L ds k):
  Tc M St n b H₀ cs R L ds (.code (.region id ops true)::k):=fun H tmps hs hr=> by
 subst hf;refine .ZD fun t=> ?_;simp only[Region.schedule,hm,Bool.true_or,if_true];have hS:=S2.mk (H₀:=H₀) (B:=B) (listed:=Array.replicate ops.size false) (YE E L) (.inr (List.Sublist.refl L)) H hs;exact(h H tmps hs hr hS).sound _ t _ _ _ hS
theorem Tc.aFi {todo:List Item}{R':Rg}(hR:pC R' R)(h:Tc M St n b H₀ cs R' L ds todo):Tc M St n b H₀ cs R L ds todo:=
 fun H tmps hs hr=> h H tmps hs ⟨hr.1,fun d v hv=> hr.2 d v (hR.sub d v hv)⟩
theorem Tc.yC {todo:List Item}{R':Rg}(h:Tc M St n b H₀ cs R' L' ds todo)(hR:pC R' R)(hL:L'.Sublist L):Tc M St n b H₀ cs R L ds todo:=
 fun H tmps hs hr=> h H tmps (hs.less hL) ⟨hr.1,fun d v hv=> hr.2 d v (hR.sub d v hv)⟩
theorem Or.R3 {K:Rg->Bl->Prop}{o:Oper}{d:Nat}{v:Value}(hv:∀H tmps,jA H₀ L H->YA n R tmps->tD M o tmps H fun u H'=> u=v/\H.le H')(hd:o.dst=some d)(hn:d<n)(hk:K ((d,v)::R) L):Or M n H₀ R L o K:=fun H tmps hs hr=>
 (hv H tmps hs hr).run (by
  rintro u H' ⟨rfl,hle⟩;refine⟨_,L,?_,hs.mono hle,hk⟩;rw[hd];exact hr.put hn _)
theorem pA.take {o:Oper}{v:Value}(h:pA P n H₀ R L o v):∀H tmps,jA H₀ L H->YA n R tmps->tD M o tmps H fun u H'=> u=v/\H.le H':=fun H tmps hs hr=>
 VA _ (by
  rintro nx H' ⟨rfl,rfl⟩;exact⟨rfl,View.le_refl _⟩) (h H tmps hs hr)
theorem pA.PM {o:Oper}{v:Value}{cl:Go.Call}{x:Operand}{fv:Value}{az:List Value}(lA:o.op=.call cl)(iB:cl.callee=.value x)(hx:JA R x=some fv)(has:lD R cl.args.toList=some az)
  (hc:∀H,jA H₀ L H->WB M fv az H fun u H'=> H.le H'/\u=v):∀H tmps,jA H₀ L H->YA n R tmps->tD M o tmps H fun u H'=> u=v/\H.le H':=fun H tmps hs hr=> by
 have e1:=hr.ev hx;have cH:cl.args.map (OB tmps)=az.toArray:=by
  apply Array.ext'
  simpa using hr.evs has
 have hex:execOp (OB tmps) o=(Deferred.ofValue fv az.toArray).bind fun d=> invoke d.target d.args:=by
  have h1:execOp (OB tmps) o=(resolve (OB tmps) cl o.type).bind fun d=> invoke d.target d.args:=by unfold execOp;rw[lA];rfl
  rw[h1];unfold resolve;rw[iB];simp only[e1,cH]
 unfold tD;rw[hex];have fin:∀u H',(H.le H'/\u=v)->u=v/\H.le H':=fun u H' ⟨h1,h2⟩=> ⟨h2,h1⟩
 refine VA _ (fun nx H' hn=> ?_) (hc H hs);cases nx <;> first
  | exact hn.elim
  | exact fA.mono hn fin
  | exact VM.mono hn fin
end
theorem zM {H F:View}{b:Nat}{x:Bool×Obj}:(H.put b x).plus F=(H.plus F).put b x:=by
 funext c
 unfold View.plus View.put;split
 ·rename_i y hy
  split at hy
  ·rename_i e
   rw[if_pos e];exact hy.symm
  ·rename_i e
   rw[if_neg e];exact(fB hy).symm
 ·rename_i hy
  split at hy
  ·cases hy
  ·rename_i e
   rw[if_neg e];exact(cC hy).symm
theorem Dj.put {H F:View}{b:Nat}{x:Bool×Obj}(h:Dj H F)(hb:F b=none):Dj (H.put b x) F:=by
 intro c y hc;rw[View.MA]
 ·exact h c y hc
 ·intro e;rw[e,hb] at hc;cases hc
theorem Dj.none {H F:View}{b:Nat}{x:Bool×Obj}(h:Dj H F)(hb:H b=some x):F b=none:=by
 cases hf:F b with
 | none=> rfl
 | some y=> rw[h b y hf] at hb;cases hb
theorem MN {H F:View}{b:Nat}(h:H.plus F b=none):H b=none/\F b=none:=by
 unfold View.plus at h;split at h
 ·cases h
 ·exact⟨by assumption,h⟩
theorem JS {α:Type}{P:Program}(s:Sem α){Q:α->View->Prop}{F:View}:∀ {H:View},Dj H F->HA P s H Q->HA P s (H.plus F) fun a H''=> ∃H',H''=H'.plus F/\Dj H' F/\Q a H':=by
 induction s with
 | pure a=> exact fun hd h=> ⟨_,rfl,hd,h⟩
 | load m a c ih=> exact fun hd ⟨h1,h2,f,x,e,fz,v,h3,h4,h5⟩=> ⟨h1,h2,f,x,e,fz,v,fB h3,h4,ih v hd h5⟩
 | store m a v c ih=>
  intro H hd ⟨h1,h2,h3,h4,x,e,fz,h5,h6,h7,h8⟩;refine⟨h1,h2,h3,h4,x,e,fz,fB h5,h6,h7,?_⟩;rw[<-zM];exact ih (hd.put (hd.none h5)) h8
 | new o c ih=>
  intro H hd h b hb;obtain⟨h1,h2⟩:=MN hb;rw[<-zM];exact ih b (hd.put h2) (h b h1)
 | shape r c ih=> exact fun hd ⟨f,x,e,fz,h1,h2⟩=> ⟨f,x,e,fz,fB h1,ih _ hd h2⟩
 | freeze a n c ih=>
  intro H hd ⟨h1,x,e,fz,h2,h3⟩;refine⟨h1,x,e,fz,fB h2,?_⟩;rw[<-zM];exact ih (hd.put (hd.none h2)) h3
 | frozen a c ih=> exact fun hd ⟨f,x,e,fz,h1,h2⟩=> ⟨f,x,e,fz,fB h1,ih _ hd h2⟩
 | getObj r c ih=> exact fun hd ⟨f,o,h1,h2,h3,h4⟩=> ⟨f,o,fB h1,h2,h3,ih _ hd h4⟩
 | setObj r o c ih=>
  intro H hd ⟨⟨o₀,h1,h2⟩,h3,h4⟩;refine⟨⟨o₀,fB h1,h2⟩,h3,?_⟩;rw[<-zM];exact ih (hd.put (hd.none h1)) h4
 | choose q c ih=> exact fun hd h t=> ih _ hd (h t)
 | sys c k ih=> exact fun _ h=> h.elim
 | program c ih=> exact fun hd h=> ih _ hd h
 | mark m c ih=> exact fun hd ⟨h1,h2⟩=> ⟨h1,ih hd h2⟩
 | halt h=> exact fun _ h=> h.elim
section
variable {P:Program}{E:Env P}{M:Md P}{St:View->Goroutine->Prop}{n:Nat}{b:FB}{H₀:View}{cs:List Frame}{R R':Rg}{L L':Bl}{ds:List Deferred}{k:List Item}{K:Rg->Bl->Prop}{o:Oper}{d:Nat}{v:Value}
def TH(F:View)(Q:Value->View->Prop):Value->View->Prop:=fun v H''=> ∃H',H''=H'.plus F/\Dj H' F/\Q v H'
theorem VM.frame {fr:Frame}{H F:View}{Q:Value->View->Prop}(h:VM M fr H Q)(hd:Dj H F):VM M fr (H.plus F) (TH F Q):=fun St c cs hk=> by
 have h1:=h (fun H' g'=> ∃v,Q v H'/\g'=G (c.finish v) cs) c cs fun v H' hq=> .stop ⟨v,hq,rfl⟩;refine(h1.frame F hd).bind ?_;rintro H'' g' ⟨H',rfl,nL,v,hq,rfl⟩;exact hk v _ ⟨H',rfl,nL,hq⟩
theorem WB.frame {fv:Value}{az:List Value}{H F:View}{Q:Value->View->Prop}(h:WB M fv az H Q)(hd:Dj H F):WB M fv az (H.plus F) (TH F Q):=by
 refine VA _ ?_ (JS _ hd h);rintro nx H'' ⟨H',rfl,nL,hn⟩;cases nx <;> first
  | exact hn.elim
  | exact VM.frame hn nL
theorem jA.split {H:View}(hs:jA H₀ L H):∃F,H=H₀.plus F/\Dj H₀ F/\∀x∈L,F x.1=some x.2:=by
 refine⟨fun c=> match H₀ c with|some _=> none|none=> H c,?_,fun c x hc=> ?_,fun x hx=> ?_⟩
 ·funext c
  unfold View.plus;cases h0:H₀ c with
  | some y=> exact hs.base c y h0
  | none=> simp only[h0]
 ·cases h0:H₀ c with
  | some y=> simp only[h0] at hc;cases hc
  | none=> rfl
 ·simp only[hs.out x hx];exact hs.at_ x hx
theorem jA.DN {H₁ F:View}(hn:(L.map (·.1)).Nodup)(hF:∀x∈L,F x.1=some x.2)(hd:Dj H₁ F):jA H₁ L (H₁.plus F):=
 ⟨hn,fun x hx=> hd _ _ (hF x hx),fun x hx=> by rw[cC (hd _ _ (hF x hx))];exact hF x hx,fun _ _ h=> fB h⟩
theorem To.YB {dl:List (Option Tmp)}{l:List Oper}{cl:Go.Call}{x:Operand}{fv:Value}{az:List Value}(hw:TA dl R o=some true)(lA:o.op=.call cl)(iB:cl.callee=.value x)(hx:JA R x=some fv)(has:lD R cl.args.toList=some az)(hd:o.dst=some d)(hn:d<n)
  {Q:Value->View->Prop} (hc:WB M fv az H₀ Q) (hk:∀v H₁,Q v H₁->To M St n b H₁ cs dl ((d,v)::R) L ds l k):To M St n b H₀ cs dl R L ds (o::l) k:=fun arr ix ha sP=> by
 cases ix with
 | nil=> simp at sP
 | cons i r=>
  simp only[List.map_cons,List.cons.injEq] at sP;intro H tmps hs hr;refine pF.sound sP.1 (rB ha hr hw) (by rw[lA];rfl) ?_;obtain⟨F,rfl,Y4,hF⟩:=hs.split;have e1:=hr.ev hx;have cH:cl.args.map (OB tmps)=az.toArray:=by
   apply Array.ext'
   simpa using hr.evs has
  have hex:execOp (OB tmps) o=(Deferred.ofValue fv az.toArray).bind fun d=> invoke d.target d.args:=by
   have h1:execOp (OB tmps) o=(resolve (OB tmps) cl o.type).bind fun d=> invoke d.target d.args:=by unfold execOp;rw[lA];rfl
   rw[h1];unfold resolve;rw[iB];simp only[e1,cH]
  unfold pF;rw[hex];have fin:∀v H'',TH F Q v H''->T M St H'' (G (b.at (HB tmps o.dst v) ds (.inRegion arr r::k)) cs):=by
   rintro v H'' ⟨H₁,rfl,nL,hq⟩;rw[hd];exact hk v H₁ hq arr r ha sP.2 _ _ (.DN hs.nodup hF nL) (hr.put hn v)
  refine VA _ (fun nx H' nP=> ?_) (hc.frame Y4);cases nx <;> first
   | exact nP.elim
   | exact fA.mono nP fin
   | exact VM.mono nP fin
def m4(R:Rg):List Nat->List Value->Rg
 | t::ts,a::az=> m4 ((t,a)::R) ts az
 | _,_=> R
theorem YA.aDz:∀ {ts:List Nat} {az:List Value} {R:Rg} {tmps:Array Value},YA n R tmps->(ts.all fun t=> Nat.blt t n)=true->ts.length=az.length->YA n (m4 R ts az) ((ts.zip az).foldl (fun tmps (x:Nat×Value)=> tmps.setIfInBounds x.1 x.2) tmps)
 | [],[],_,_,h,_,_=> h
 | t::ts,a::az,R,tmps,h,hb,hl=> by
  simp only[List.all_cons,Bool.and_eq_true] at hb;have KB:t<n:=by have:=hb.1;rw[Nat.blt_eq] at this;exact this
  exact YA.aDz (ts:=ts) (az:=az) (h.put KB a) hb.2 (by simpa using hl)
 | [],_::_,_,_,_,_,h=> by cases h
 | _::_,[],_,_,_,_,h=> by cases h
theorem WB.round {l i:Nat}{lp:Loop}{H:View}{az:List Value}{ts:List Nat}{Q:Value->View->Prop}(hs:jA H₀ L H)(hl:L[i]? =some (l,true,.loop lp))(PV:lp.params=ts.toArray)(hb:(ts.all fun t=> Nat.blt t n)=true)(hlen:ts.length=az.length)(hr:YA n R lp.tmps)
  (h:∀St c cs,(∀v H',Q v H'->T M St H' (G (c.finish v) cs))->Tc M St n ⟨lp.fn,.normal,some l⟩ H₀ (c::cs) (m4 R ts az) L [] [.code lp.assign,.beginRound,.code lp.body]):WB M (.func (.yield l) #[] #[]) az H Q:=by
 unfold WB;simp only[Deferred.ofValue];show HA P (Instr.yield l (#[]++az.toArray)) H _;refine⟨true,_,hs.get hl,by simp,rfl,?_⟩;show HA P (if(#[]++az.toArray).size≠lp.params.size then _ else _) H _;rw[if_neg (by rw[PV];simp[hlen])];intro St c cs hK;have e:(lp.params.zip (#[]++az.toArray)).foldl (fun tmps (x:Nat×Value)=> tmps.setIfInBounds x.1 x.2) lp.tmps=(ts.zip az).foldl (fun tmps (x:Nat×Value)=> tmps.setIfInBounds x.1 x.2) lp.tmps:=by
  rw[PV];simp
 have:=h St c cs hK H _ hs (hr.aDz hb hlen);rw[<-e] at this;exact this
theorem T.beginRound {H:View}{l:Nat}{tmps:Array Value}(hb:b.rd=some l)(h:HA P ((Instr.beginRound l).bind fun _=> .pure Next.skip) H fun nx H'=> nx=.skip/\T M St H' (G (b.at tmps ds k) cs)):T M St H (G (b.at tmps ds (.beginRound::k)) cs):=by
 refine .step ⟨rfl,fun w hs _=> ?_⟩;obtain⟨nx,H',w',es,h1,h2,rfl,h3⟩:=lC _ #[] hs h;rw[Array.empty_append] at h1;generalize wJ:seen P (b.at tmps ds (.beginRound::k)).fn (if(b.at tmps ds (.beginRound::k)).kind==.early then #[] else es)=es';have VJ:∀e∈es',e∈es:=fun e he=> by
  rw[<-wJ] at he;have:=mem_seen he;split at this
  ·simp at this
  ·exact this
 have e:stepG P M.main (G (b.at tmps ds (.beginRound::k)) cs) w=stepG.apply P true (b.at tmps ds (.beginRound::k)) cs none ((Instr.beginRound l).bind fun _=> .pure Next.skip) w:=by
  simp[G,stepG,stepG.exec,FB.at,hb]
  rfl
 refine⟨_,w',es',H',(e.trans (b:=stepG.apply P true (b.at tmps ds (.beginRound::k)) cs none ((Instr.beginRound l).bind fun _=> .pure Next.skip) w) (c:=GStep.after es' (.go (G (b.at tmps ds k) cs) w')) ?_).trans (by simp[GStep.after]),h2.sub VJ,h3⟩;rw[<-wJ];unfold stepG.apply;rw[if_pos rfl,h1];rfl
theorem T.tB {H:View}{l:Nat}{tmps:Array Value}{todo:List Item}{jump:Option Code}{c:Frame}(hb:b.rd=some l)(hk:b.kind=.normal)
  (ht:(todo= []/\jump=none)\/(∃k,todo=.code .ret::k/\jump=some .ret)\/∃id k,todo=.code (.exit id)::k/\exitTo id k=none/\jump=some (.exit id))
  (h:HA P (Instr.endRound l jump) H fun v H'=> T M St H' (G (c.finish v) cs)):T M St H (G (b.at tmps [] todo) (c::cs)):=by
 refine .step ⟨rfl,fun w hs _=> ?_⟩;obtain⟨v,H',w',es,h1,h2,h3⟩:=lC _ #[] hs h;rw[Array.empty_append] at h1;have hp:Sem.run P (Instr.endRound l jump) w=.ok v w'/\Sem.events P (Instr.endRound l jump) w #[]=es:=by simpa using h1
 refine⟨G (c.finish v) cs,w',seen P b.fn es,H',?_,h2.sub fun e he=> mem_seen he,h3⟩;rcases ht with ⟨rfl,rfl⟩|⟨k,rfl,rfl⟩|⟨id,k,rfl,he,rfl⟩
 ·simp[G,stepG,stepG.exec,FB.at,hb,hp.1,hp.2,doReturn,hk,GStep.after]
 ·simp[G,stepG,stepG.exec,FB.at,hb,hp.1,hp.2,doReturn,hk,GStep.after]
 ·simp[G,stepG,stepG.exec,FB.at,hb,hp.1,hp.2,doReturn,hk,GStep.after,he]
theorem Tc.beginRound {i l:Nat}{lp:Loop}(hb:b.rd=some l)(hi:L[i]? =some (l,true,.loop lp))(aC:lp.state=.ready)(h:Tc M St n b H₀ cs R (L.set i (l,true,.loop { lp with state:=.busy })) ds k):Tc M St n b H₀ cs R L ds (.beginRound::k):=fun H tmps hs hr=>
 .beginRound hb (by
  have hl:=hs.get hi;refine aA (Instr.beginRound l) _ ?_;refine⟨true,_,hl,by simp,rfl,?_⟩;refine⟨⟨_,hl,by simp⟩,rfl,?_⟩;show HA P (match lp.state with
   | .ready=> _
   | .done=> _
   | .busy=> _
   | .exhausted=> _) _ _
  rw[aC];exact⟨rfl,h _ tmps (hs.set hi _) hr⟩)
theorem Tc.tB {i l:Nat}{lp:Loop}{c:Frame}{Q:Value->View->Prop}{f:FuncId}{todo:List Item}{jump:Option Code}(hK:∀v H',Q v H'->T M St H' (G (c.finish v) cs))(hi:L[i]? =some (l,true,.loop lp))
  (ht:(todo= []/\jump=none)\/(∃k,todo=.code .ret::k/\jump=some .ret)\/∃id k,todo=.code (.exit id)::k/\exitTo id k=none/\jump=some (.exit id))
  (h:∀H',jA H₀ (L.set i (l,true,.loop { lp with state:=if jump.isNone then .ready else .done,pending:=jump })) H'->Q (.bool jump.isNone) H'):Tc M St n ⟨f,.normal,some l⟩ H₀ (c::cs) R L [] todo:=fun H tmps hs _=>
 .tB (b:=⟨f,.normal,some l⟩) rfl rfl ht (by
  have hl:=hs.get hi;refine⟨true,_,hl,by simp,rfl,?_⟩;refine⟨⟨_,hl,by simp⟩,rfl,?_⟩;exact hK _ _ (h _ (hs.set hi _)))
theorem T.endRangeFunc {H:View}{l:Nat}{tmps:Array Value}(h:HA P (Instr.endLoop l) H fun j H'=> T M St H' (G (b.at tmps ds ((j.map Item.code).toList++k)) cs)):T M St H (G (b.at tmps ds (.endRangeFunc l::k)) cs):=by
 refine .step ⟨rfl,fun w hs _=> ?_⟩;obtain⟨v,H',w',es,h1,h2,h3⟩:=lC _ #[] hs h;rw[Array.empty_append] at h1;have hp:Sem.run P (Instr.endLoop l) w=.ok v w'/\Sem.events P (Instr.endLoop l) w #[]=es:=by simpa using h1
 refine⟨_,w',seen P b.fn es,H',?_,h2.sub fun e he=> mem_seen he,h3⟩;simp[G,stepG,stepG.exec,FB.at,hp.1,hp.2,GStep.after]
theorem T.collect {H:View}{r:Nat}{tmps:Array Value}{todo:List Item}{az:Array Value}(h:HA P (Instr.takeDeferred r) H fun calls H'=> T M St H' (G (b.back tmps (calls++ds) todo) cs)):T M St H (G (b.back tmps ({ target:=.collected r,args:=az }::ds) todo) cs):=by
 refine .step ⟨rfl,fun w hs _=> ?_⟩;obtain⟨v,H',w',es,h1,h2,h3⟩:=lC _ #[] hs h;rw[Array.empty_append] at h1;refine⟨_,w',seen P b.fn es,H',?_,h2.sub fun e he=> mem_seen he,h3⟩;have e:stepG P M.main (G (b.back tmps ({ target:=.collected r,args:=az }::ds) todo) cs) w=unwind P M.main (b.back tmps ({ target:=.collected r,args:=az }::ds) todo) cs none w:=by
  simp[G,stepG,FB.back]
 rw[e];unfold unwind;simp only[FB.back,h1,GStep.after,G,Array.append_empty]
theorem T.rangeFunc {H:View}{f:Operand}{params:Array Tmp}{assign body:Code}{tmps:Array Value}{fv:Value}(hf:OB tmps f=fv)
  (h:HA P (Instr.enterLoop b.fn tmps params assign body b.rd) H fun x H'=> WB M fv [.func (.yield x.1) #[] #[]] H' fun _ H''=> T M St H'' (G (b.at tmps (x.2++ds) (.endRangeFunc x.1::k)) cs)):
  T M St H (G (b.at tmps ds (.code (.rangeFunc f params assign body)::k)) cs):=by
 refine .step ⟨rfl,fun w hs _=> ?_⟩;obtain⟨⟨l,mark⟩,H₁,w₁,es₁,h1,h2,h3⟩:=lC _ #[] hs h;rw[Array.empty_append] at h1;obtain⟨nx,H₂,w₂,es₂,g1,g2,g3⟩:=lC _ #[] h2.sat h3;rw[Array.empty_append] at g1;generalize lP:b.at tmps (mark++ds) (.inRangeFunc l::k)=fr;generalize wJ:seen P fr.fn (if fr.kind==.early then #[] else es₂)=es';have VJ:∀e∈seen P b.fn es₁++es',e∈es₁++es₂:=fun e he=> by
  rcases Array.mem_append.1 he with he|he
  ·exact Array.mem_append.2 (.inl (mem_seen he))
  ·rw[<-wJ] at he;have:=mem_seen he;split at this
   ·simp at this
   ·exact Array.mem_append.2 (.inr this)
 have key:stepG P M.main (G (b.at tmps ds (.code (.rangeFunc f params assign body)::k)) cs) w=
   GStep.after (seen P b.fn es₁) (stepG.apply P true fr cs none ((Deferred.ofValue fv #[.func (.yield l) #[] #[]]).bind fun d=> invoke d.target d.args) w₁):=by
  have NX:fr.eval f=fv:=by rw[<-lP,FB.eval_at];exact hf
  have KT:(resolve fr.eval { callee:=.value f,args:=#[.const (.func (.yield l) #[] #[])],argTypes:=#[] } 0)=Deferred.ofValue fv #[.func (.yield l) #[] #[]]:=by
   show Deferred.ofValue (fr.eval f) (#[Operand.const (.func (.yield l) #[] #[])].map fr.eval)=_;rw[NX];simp[Frame.eval]
  have:stepG P M.main (G (b.at tmps ds (.code (.rangeFunc f params assign body)::k)) cs) w=
   GStep.after (seen P b.fn es₁) (stepG.apply P true fr cs none ((resolve fr.eval { callee:=.value f,args:=#[.const (.func (.yield l) #[] #[])],argTypes:=#[] } 0).bind fun d=> invoke d.target d.args) w₁):=by
   have hp:Sem.run P (Instr.enterLoop b.fn tmps params assign body b.rd) w=.ok (l,mark) w₁/\Sem.events P (Instr.enterLoop b.fn tmps params assign body b.rd) w #[]=es₁:=by simpa using h1
   rw[<-lP];simp[G,stepG,stepG.exec,FB.at,hp.1,hp.2]
   rfl
  rw[this,KT]
 have pO:∀g,stepG.apply P true fr cs none ((Deferred.ofValue fv #[.func (.yield l) #[] #[]]).bind fun d=> invoke d.target d.args) w₁=GStep.after es' (.go g w₂)-> 
   stepG P M.main (G (b.at tmps ds (.code (.rangeFunc f params assign body)::k)) cs) w=.go g w₂ (seen P b.fn es₁++es'):=fun g hg=> by
  rw[key,hg];simp[GStep.after]
 have OD:∀v,fr.finish v=b.at tmps (mark++ds) (.endRangeFunc l::k):=by
  intro v;rw[<-lP];rfl
 cases nx <;> try exact g3.elim
 case enter g az=>
  refine⟨_,w₂,_,H₂,pO (G (Frame.enter P g az .normal) (fr::cs)) ?_,(h2.trans g2).sub VJ,?_⟩
  ·subst lP;rw[<-wJ];unfold stepG.apply;rw[if_pos rfl,g1];rfl
  ·exact g3 St fr cs fun v H'' hq=> by rw[OD];exact hq
 case round l' g tmps' az bd=>
  refine⟨_,w₂,_,H₂,pO (G (Frame.round l' g tmps' az bd .normal) (fr::cs)) ?_,(h2.trans g2).sub VJ,?_⟩
  ·subst lP;rw[<-wJ];unfold stepG.apply;rw[if_pos rfl,g1];rfl
  ·exact g3 St fr cs fun v H'' hq=> by rw[OD];exact hq
def GD(r:Nat):Deferred:= { target:=.collected r,args:=#[] }
def Loop.fresh(f:FuncId)(tmps:Array Value)(params:Array Tmp)(assign body:Code)(r:Nat):Loop:= { state:=.ready,pending:=none,fn:=f,tmps,params,assign,body,defers:=r }
theorem Tc.rangeFunc {f:Operand}{params:Array Tmp}{assign body:Code}{fv:Value}(WO:b.rd=none)(hf:JA R f=some fv)(Z:Nat->Nat->Option Code->View->Bl->Prop)
  (h:∀l r tmps H,YA n R tmps->jA H₀ ((l,true,.loop (Loop.fresh b.fn tmps params assign body r))::(r,true,.deferred (some []))::L) H-> 
   WB M fv [.func (.yield l) #[] #[]] H fun _ H'=> ∃H₁ L₁ lp,jA H₁ ((l,true,.loop lp)::(r,true,.deferred (some []))::L₁) H'/\lp.state≠ .busy/\Z l r lp.pending H₁ L₁)
  (hk:∀l r j H₁ L₁,Z l r j H₁ L₁->Tc M St n b H₁ cs R ((r,true,.deferred (some []))::L₁) (GD r::ds) ((j.map Item.code).toList++k)):
  Tc M St n b H₀ cs R L ds (.code (.rangeFunc f params assign body)::k):=fun H tmps hs hr=> by
 refine .rangeFunc (hr.ev hf) ?_;rw[WO];intro r l8;intro l hl0;have hs':=(hs.cons (true,.deferred (some [])) l8).cons (true,.loop (Loop.fresh b.fn tmps params assign body r)) hl0;refine WB.mono (h l r tmps _ hr hs') ?_;rintro v H' ⟨H₁,L₁,lp,BN,aC,hz⟩;refine .endRangeFunc ?_;have hl:=BN.get (i:=0) rfl;refine⟨true,_,hl,by simp,rfl,?_⟩;have hb:(lp.state==LoopState.busy)=false:=by simpa using aC
 show HA P (if(lp.state==LoopState.busy)=true then _ else _) H' _;rw[if_neg (by simp[hb])];refine⟨⟨_,hl,by simp⟩,rfl,?_⟩;refine hk l r lp.pending H₁ L₁ hz _ tmps ?_ hr;exact(BN.set (i:=0) rfl _).less (List.sublist_cons_self _ _)
theorem Tc.A4 {i r:Nat}{fn:Func}{c:Frame}{Q:Value->View->Prop}{f:FuncId}{rs:List ResultVar}{vs:List Value}(hK:∀v H',Q v H'->T M St H' (G (c.finish v) cs))(hf:P.funcs[f]? =some fn)(XO:fn.results=rs.toArray)
  (hi:L[i]? =some (r,true,.deferred (some []))) (ho:fJ E R (L.set i (r,true,.deferred none)) rs vs) (h:∀H',jA H₀ (L.set i (r,true,.deferred none)) H'->Q (gF vs) H'):Tc M St n ⟨f,.normal,none⟩ H₀ (c::cs) R L [GD r] (.code .ret::k):=
 fun H tmps hs hr=> .LD rfl (.collect (by
  have hd:=hs.get hi;refine⟨true,_,hd,by simp,rfl,?_⟩;refine⟨⟨_,hd,by simp⟩,rfl,?_⟩;have hs':=hs.set hi (true,.deferred none);exact .leave hf rfl (VA _ hK (eE hs' hr XO ho (h _ hs')))))
theorem Tc.aK {σ:Type}(I:σ->View×Rg×Bl)(μ:σ->Nat){body:Code}
  (step:∀s,(∀s',μ s'<μ s->Tc M St n b (I s').1 cs (I s').2.1 (I s').2.2 ds (.inLoop body::k))->Tc M St n b (I s).1 cs (I s).2.1 (I s).2.2 ds (.code body:: .inLoop body::k)) (s₀:σ):
  Tc M St n b (I s₀).1 cs (I s₀).2.1 (I s₀).2.2 ds (.code (.loop body)::k):=by
 have key:∀(m:Nat) (s:σ),μ s<=m->Tc M St n b (I s).1 cs (I s).2.1 (I s).2.2 ds (.code body:: .inLoop body::k):=by
  intro m;induction m with
  | zero=> exact fun s hs=> step s fun s' KB=> by omega
  | succ m ih=> exact fun s hs=> step s fun s' KB=> .inLoop (ih s' oM)
 exact .loop (key _ s₀ (Nat.le_refl _))
def View.uE(H:View)(b:Nat):View:=fun c=> if c=b then none else H c
theorem nB {H:View}{b c:Nat}(h:c≠b):H.uE b c=H c:=by simp[View.uE,h]
theorem jA.pull {H:View}{b:Nat}{x:Bool×Obj}(hb:H b=some x):jA (H.uE b) [(b,x)] H:=
 ⟨by simp,by simp[View.uE],by simpa using hb,fun c y hc=> by
  unfold View.uE at hc;split at hc
  ·cases hc
  ·exact hc⟩
end
end Go.RL
namespace Go.Proofs.YtldmfjcgjdchcaaGreatDoor
open Go.RL
theorem aHu:yA Tryz.prog 3 ⟨false,1,8,.iz (0),[],none,.int .i64⟩:=by constructor <;> kernel_rfl
theorem aHv:yA Tryz.prog 4 ⟨false,1,1,.bool false,[],none,.bool⟩:=by constructor <;> kernel_rfl
theorem aHw:yA Tryz.prog 5 ⟨false,1,1,.int .u8 (0),[],none,.int .u8⟩:=by constructor <;> kernel_rfl
theorem aHx:yA Tryz.prog 9 ⟨false,1,16,.string ⟨#[]⟩,[],none,.str⟩:=by constructor <;> kernel_rfl
theorem aFX:yA Tryz.prog 20 ⟨false,1,16,.nilIface,[],none,.other⟩:=by constructor <;> kernel_rfl
theorem aFY:yA Tryz.prog 21 ⟨false,1,4,.int .i32 (0),[],none,.int .i32⟩:=by constructor <;> kernel_rfl
theorem aFZ:yA Tryz.prog 22 ⟨false,1,2,.int .u16 (0),[],none,.int .u16⟩:=by constructor <;> kernel_rfl
theorem aF0:yA Tryz.prog 24 ⟨false,1,24,.slice none 0 0,[],some (none,3),.slice 3⟩:=by constructor <;> kernel_rfl
theorem aF1:yA Tryz.prog 25 ⟨false,1,8,.iz (0),[],none,.int .i64⟩:=by constructor <;> kernel_rfl
theorem aF2:yA Tryz.prog 28 ⟨false,1,8,.iz (0),[],none,.int .i64⟩:=by constructor <;> kernel_rfl
theorem aF3:yA Tryz.prog 31 ⟨false,1,24,.slice none 0 0,[],some (none,39),.slice 39⟩:=by constructor <;> kernel_rfl
theorem aF4:yA Tryz.prog 37 ⟨true,2,16,.agg ⟨[.iz (0),.iz (0)]⟩,[0,1],none,.struct [(3,(0,1)),(3,(1,1))]⟩:=by constructor <;> kernel_rfl
theorem aF5:yA Tryz.prog 39 ⟨true,4,32,.agg ⟨[.iz (0),.iz (0),.iz (0),.iz (0)]⟩,[0,2],none,.struct [(37,(0,2)),(37,(2,2))]⟩:=by constructor <;> kernel_rfl
theorem aF6:yA Tryz.prog 43 ⟨false,1,24,.slice none 0 0,[],some (none,68),.slice 68⟩:=by constructor <;> kernel_rfl
theorem aF7:yA Tryz.prog 45 ⟨true,4,64,.agg ⟨[.iz (0),.iz (0),.slice none 0 0,.slice none 0 0]⟩,[0,1,2,3],none,.struct [(3,(0,1)),(3,(1,1)),(43,(2,1)),(31,(3,1))]⟩:=by constructor <;> kernel_rfl
theorem aF8:yA Tryz.prog 47 ⟨true,4,32,.agg ⟨[.iz (0),.iz (0),.iz (0),.iz (0)]⟩,[0,2],none,.struct [(37,(0,2)),(37,(2,2))]⟩:=by constructor <;> kernel_rfl
theorem aF9:yA Tryz.prog 49 ⟨true,8,64,.agg ⟨.replicate 8 (.int .i64 0)⟩,[0,2,4],none,.struct [(37,(0,2)),(37,(2,2)),(47,(4,4))]⟩:=by constructor <;> kernel_rfl
theorem aGa:yA Tryz.prog 50 ⟨false,1,24,.slice none 0 0,[],some (none,53),.slice 53⟩:=by constructor <;> kernel_rfl
theorem aGb:yA Tryz.prog 53 ⟨false,1,2,.int .i16 (0),[],none,.int .i16⟩:=by constructor <;> kernel_rfl
theorem aGc:yA Tryz.prog 60 ⟨false,1,24,.slice none 0 0,[],some (none,5),.slice 5⟩:=by constructor <;> kernel_rfl
theorem aGd:yA Tryz.prog 65 ⟨false,1,24,.slice none 0 0,[],some (none,22),.slice 22⟩:=by constructor <;> kernel_rfl
theorem aGe:yA Tryz.prog 66 ⟨false,1,24,.slice none 0 0,[],some (none,110),.slice 110⟩:=by constructor <;> kernel_rfl
theorem aGf:yA Tryz.prog 68 ⟨true,3,56,.agg ⟨[.string ⟨#[]⟩,.string ⟨#[]⟩,.slice none 0 0]⟩,[0,1,2],none,.struct [(9,(0,1)),(9,(1,1)),(66,(2,1))]⟩:=by constructor <;> kernel_rfl
theorem aGg:yA Tryz.prog 74 ⟨true,4,48,.agg ⟨[.iz (0),.iz (0),.iz (0),.slice none 0 0]⟩,[0,1,2,3],none,.struct [(3,(0,1)),(3,(1,1)),(3,(2,1)),(24,(3,1))]⟩:=by constructor <;> kernel_rfl
theorem aGh:yA Tryz.prog 86 ⟨false,1,8,.pointer none,[],none,.other⟩:=by constructor <;> kernel_rfl
theorem aGi:yA Tryz.prog 88 ⟨true,2,32,.agg ⟨[.iz (0),.slice none 0 0]⟩,[0,1],none,.struct [(28,(0,1)),(24,(1,1))]⟩:=by constructor <;> kernel_rfl
theorem aGj:yA Tryz.prog 92 ⟨true,12,96,.agg ⟨.replicate 12 (.int .i64 0)⟩,[],some (some 12,3),.arr 12 3⟩:=by constructor <;> kernel_rfl
theorem aGk:yA Tryz.prog 94 ⟨true,13,104,.agg ⟨.replicate 13 (.int .i64 0)⟩,[0,1],none,.struct [(28,(0,1)),(92,(1,12))]⟩:=by constructor <;> kernel_rfl
theorem aGl:yA Tryz.prog 95 ⟨false,1,24,.slice none 0 0,[],some (none,442),.slice 442⟩:=by constructor <;> kernel_rfl
theorem aGm:yA Tryz.prog 97 ⟨true,5,56,.agg ⟨[.iz (0),.iz (0),.iz (0),.bool false,.slice none 0 0]⟩,[0,1,2,3,4],none,.struct [(28,(0,1)),(3,(1,1)),(3,(2,1)),(4,(3,1)),(95,(4,1))]⟩:=by constructor <;> kernel_rfl
theorem aGn:yA Tryz.prog 99 ⟨true,5,56,.agg ⟨[.iz (0),.iz (0),.iz (0),.bool false,.slice none 0 0]⟩,[0],none,.struct [(97,(0,5))]⟩:=by constructor <;> kernel_rfl
theorem aDB:yA Tryz.prog 101 ⟨false,1,8,.nilFunc,[],none,.other⟩:=by constructor <;> kernel_rfl
theorem aDC:yA Tryz.prog 107 ⟨false,1,24,.slice none 0 0,[],some (none,9),.slice 9⟩:=by constructor <;> kernel_rfl
theorem aDD:yA Tryz.prog 110 ⟨false,1,8,.iz (0),[],none,.int .i64⟩:=by constructor <;> kernel_rfl
theorem aDE:yA Tryz.prog 132 ⟨true,8,64,.agg ⟨.replicate 8 (.int .i64 0)⟩,[0],none,.struct [(49,(0,8))]⟩:=by constructor <;> kernel_rfl
theorem aDF:yA Tryz.prog 133 ⟨false,1,24,.slice none 0 0,[],some (none,270),.slice 270⟩:=by constructor <;> kernel_rfl
theorem aDG:yA Tryz.prog 135 ⟨true,2,32,.agg ⟨[.iz (0),.slice none 0 0]⟩,[0,1],none,.struct [(3,(0,1)),(133,(1,1))]⟩:=by constructor <;> kernel_rfl
theorem aDH:yA Tryz.prog 139 ⟨true,6,48,.agg ⟨.replicate 6 (.int .i64 0)⟩,[],some (some 6,3),.arr 6 3⟩:=by constructor <;> kernel_rfl
theorem aDI:yA Tryz.prog 150 ⟨false,1,8,.nilFunc,[],none,.other⟩:=by constructor <;> kernel_rfl
theorem aDJ:yA Tryz.prog 153 ⟨false,1,1,.int .u8 (0),[],none,.int .u8⟩:=by constructor <;> kernel_rfl
theorem aDK:yA Tryz.prog 166 ⟨true,4,64,.agg ⟨[.iz (0),.iz (0),.slice none 0 0,.slice none 0 0]⟩,[0],none,.struct [(45,(0,4))]⟩:=by constructor <;> kernel_rfl
theorem aDL:yA Tryz.prog 170 ⟨true,3,32,.agg ⟨[.string ⟨#[]⟩,.iz (0),.bool false]⟩,[0,1,2],none,.struct [(9,(0,1)),(3,(1,1)),(4,(2,1))]⟩:=by constructor <;> kernel_rfl
theorem aDM:yA Tryz.prog 173 ⟨false,1,8,.nilFunc,[],none,.other⟩:=by constructor <;> kernel_rfl
theorem aDN:yA Tryz.prog 174 ⟨false,1,8,.pointer none,[],none,.other⟩:=by constructor <;> kernel_rfl
theorem aDO:yA Tryz.prog 176 ⟨true,2,32,.agg ⟨[.pointer none,.slice none 0 0]⟩,[0,1],none,.struct [(174,(0,1)),(60,(1,1))]⟩:=by constructor <;> kernel_rfl
theorem aDP:yA Tryz.prog 178 ⟨false,1,16,.nilIface,[],none,.other⟩:=by constructor <;> kernel_rfl
theorem aDQ:yA Tryz.prog 184 ⟨true,3,48,.agg ⟨[.string ⟨#[]⟩,.string ⟨#[]⟩,.string ⟨#[]⟩]⟩,[],some (some 3,9),.arr 3 9⟩:=by constructor <;> kernel_rfl
theorem aDR:yA Tryz.prog 191 ⟨true,0,0,.agg ⟨[]⟩,[],none,.struct []⟩:=by constructor <;> kernel_rfl
theorem aDS:yA Tryz.prog 193 ⟨false,1,8,.nilFunc,[],none,.other⟩:=by constructor <;> kernel_rfl
theorem aDT:yA Tryz.prog 202 ⟨true,2,16,.agg ⟨[.iz (0),.iz (0)]⟩,[0,1],none,.struct [(3,(0,1)),(3,(1,1))]⟩:=by constructor <;> kernel_rfl
theorem aDU:yA Tryz.prog 204 ⟨true,3,56,.agg ⟨[.string ⟨#[]⟩,.string ⟨#[]⟩,.slice none 0 0]⟩,[0],none,.struct [(68,(0,3))]⟩:=by constructor <;> kernel_rfl
theorem aDV:yA Tryz.prog 206 ⟨true,4,32,.agg ⟨[.iz (0),.iz (0),.iz (0),.iz (0)]⟩,[0],none,.struct [(39,(0,4))]⟩:=by constructor <;> kernel_rfl
theorem aDW:yA Tryz.prog 218 ⟨false,1,8,.map none,[],none,.map 170 4⟩:=by constructor <;> kernel_rfl
theorem aDX:yA Tryz.prog 222 ⟨false,1,8,.map none,[],none,.map 3 4⟩:=by constructor <;> kernel_rfl
theorem aDY:yA Tryz.prog 228 ⟨false,1,8,.int .u64 (0),[],none,.int .u64⟩:=by constructor <;> kernel_rfl
theorem aDZ:yA Tryz.prog 231 ⟨false,1,4,.int .u32 (0),[],none,.int .u32⟩:=by constructor <;> kernel_rfl
theorem aD0:yA Tryz.prog 233 ⟨true,2,16,.agg ⟨[.int .u64 (0),.int .u32 (0)]⟩,[],none,.struct [(225,(0,0)),(230,(0,1)),(231,(1,1))]⟩:=by constructor <;> kernel_rfl
theorem aD1:yA Tryz.prog 236 ⟨false,1,8,.nilFunc,[],none,.other⟩:=by constructor <;> kernel_rfl
theorem aD2:yA Tryz.prog 240 ⟨true,4,32,.agg ⟨[.iz (0),.iz (0),.iz (0),.iz (0)]⟩,[],some (some 4,110),.arr 4 110⟩:=by constructor <;> kernel_rfl
theorem aD3:yA Tryz.prog 242 ⟨true,3,24,.agg ⟨[.iz (0),.iz (0),.iz (0)]⟩,[],some (some 3,110),.arr 3 110⟩:=by constructor <;> kernel_rfl
theorem aD4:yA Tryz.prog 249 ⟨false,1,8,.nilFunc,[],none,.other⟩:=by constructor <;> kernel_rfl
theorem aD5:yA Tryz.prog 257 ⟨true,2,16,.agg ⟨[.iz (0),.iz (0)]⟩,[0,1],none,.struct [(3,(0,1)),(3,(1,1))]⟩:=by constructor <;> kernel_rfl
theorem aD6:yA Tryz.prog 261 ⟨false,1,8,.map none,[],none,.map 153 4⟩:=by constructor <;> kernel_rfl
theorem aD7:yA Tryz.prog 264 ⟨false,1,24,.slice none 0 0,[],some (none,265),.slice 265⟩:=by constructor <;> kernel_rfl
theorem aD8:yA Tryz.prog 265 ⟨false,1,8,.nilFunc,[],none,.other⟩:=by constructor <;> kernel_rfl
theorem aD9:yA Tryz.prog 266 ⟨true,4,32,.agg ⟨[.nilFunc,.nilFunc,.nilFunc,.nilFunc]⟩,[],some (some 4,265),.arr 4 265⟩:=by constructor <;> kernel_rfl
theorem aEa:yA Tryz.prog 270 ⟨true,2,16,.agg ⟨[.iz (0),.iz (0)]⟩,[0,1],none,.struct [(3,(0,1)),(3,(1,1))]⟩:=by constructor <;> kernel_rfl
theorem aEb:yA Tryz.prog 271 ⟨false,1,8,.int .u64 (0),[],none,.int .u64⟩:=by constructor <;> kernel_rfl
theorem aEc:yA Tryz.prog 272 ⟨false,1,8,.nilFunc,[],none,.other⟩:=by constructor <;> kernel_rfl
theorem aEd:yA Tryz.prog 275 ⟨false,1,8,.pointer none,[],none,.other⟩:=by constructor <;> kernel_rfl
theorem aEe:yA Tryz.prog 281 ⟨false,1,8,.nilFunc,[],none,.other⟩:=by constructor <;> kernel_rfl
theorem aEf:yA Tryz.prog 282 ⟨true,3,24,.agg ⟨[.nilFunc,.nilFunc,.nilFunc]⟩,[],some (some 3,281),.arr 3 281⟩:=by constructor <;> kernel_rfl
theorem aEg:yA Tryz.prog 290 ⟨true,2,32,.agg ⟨[.string ⟨#[]⟩,.string ⟨#[]⟩]⟩,[],some (some 2,9),.arr 2 9⟩:=by constructor <;> kernel_rfl
theorem aEh:yA Tryz.prog 294 ⟨true,256,256,.agg ⟨List.replicate 256 (.bool false)⟩,[],some (some 256,4),.arr 256 4⟩:=by constructor <;> kernel_rfl
theorem aEi:yA Tryz.prog 298 ⟨false,1,8,.pointer none,[],none,.other⟩:=by constructor <;> kernel_rfl
theorem aEj:yA Tryz.prog 305 ⟨false,1,8,.pointer none,[],none,.other⟩:=by constructor <;> kernel_rfl
theorem aEk:yA Tryz.prog 315 ⟨true,3,24,.agg ⟨[.iz (0),.iz (0),.iz (0)]⟩,[],some (some 3,3),.arr 3 3⟩:=by constructor <;> kernel_rfl
theorem aEl:yA Tryz.prog 322 ⟨true,2,16,.agg ⟨[.iz (0),.iz (0)]⟩,[],some (some 2,3),.arr 2 3⟩:=by constructor <;> kernel_rfl
theorem aEm:yA Tryz.prog 326 ⟨false,1,8,.map none,[],none,.map 333 4⟩:=by constructor <;> kernel_rfl
theorem aEn:yA Tryz.prog 329 ⟨false,1,8,.map none,[],none,.map 270 373⟩:=by constructor <;> kernel_rfl
theorem aEo:yA Tryz.prog 331 ⟨true,9,88,.agg ⟨[.iz (0),.slice none 0 0,.iz (0),.iz (0),.iz (0),.iz (0),.iz (0),.iz (0),.map none]⟩,[0,2,3,4,5,6,8],none,.struct [(135,(0,2)),(3,(2,1)),(3,(3,1)),(3,(4,1)),(3,(5,1)),(257,(6,2)),(329,(8,1))]⟩:=by constructor <;> kernel_rfl
theorem aEp:yA Tryz.prog 333 ⟨true,128,128,.agg ⟨List.replicate 128 (.bool false)⟩,[],some (some 128,4),.arr 128 4⟩:=by constructor <;> kernel_rfl
theorem aEq:yA Tryz.prog 353 ⟨false,1,8,.iz (0),[],none,.int .i64⟩:=by constructor <;> kernel_rfl
theorem aEr:yA Tryz.prog 372 ⟨false,1,8,.nilFunc,[],none,.other⟩:=by constructor <;> kernel_rfl
theorem aEs:yA Tryz.prog 373 ⟨false,1,24,.slice none 0 0,[],some (none,376),.slice 376⟩:=by constructor <;> kernel_rfl
theorem aEt:yA Tryz.prog 376 ⟨true,2,16,.agg ⟨[.iz (0),.iz (0)]⟩,[0,1],none,.struct [(3,(0,1)),(3,(1,1))]⟩:=by constructor <;> kernel_rfl
theorem aEu:yA Tryz.prog 377 ⟨false,1,8,.nilFunc,[],none,.other⟩:=by constructor <;> kernel_rfl
theorem aEv:yA Tryz.prog 378 ⟨false,1,8,.nilFunc,[],none,.other⟩:=by constructor <;> kernel_rfl
theorem aEw:yA Tryz.prog 388 ⟨false,1,8,.int .u64 (0),[],none,.int .u64⟩:=by constructor <;> kernel_rfl
theorem aEx:yA Tryz.prog 391 ⟨false,1,8,.pointer none,[],none,.other⟩:=by constructor <;> kernel_rfl
theorem aEy:yA Tryz.prog 397 ⟨true,20,160,.agg ⟨.replicate 20 (.int .u64 0)⟩,[],some (some 20,228),.arr 20 228⟩:=by constructor <;> kernel_rfl
theorem aEz:yA Tryz.prog 405 ⟨true,256,256,.agg ⟨List.replicate 256 (.int .u8 (0))⟩,[],some (some 256,5),.arr 256 5⟩:=by constructor <;> kernel_rfl
theorem aEA:yA Tryz.prog 407 ⟨true,2,2,.agg ⟨[.int .u8 (0),.int .u8 (0)]⟩,[0,1],none,.struct [(5,(0,1)),(5,(1,1))]⟩:=by constructor <;> kernel_rfl
theorem aEB:yA Tryz.prog 408 ⟨true,32,32,.agg ⟨.replicate 32 (.int .u8 0)⟩,[],some (some 16,407),.arr 16 407⟩:=by constructor <;> kernel_rfl
theorem aEC:yA Tryz.prog 418 ⟨true,3,48,.agg ⟨[.string ⟨#[]⟩,.string ⟨#[]⟩,.nilIface]⟩,[0,1,2],none,.struct [(9,(0,1)),(9,(1,1)),(178,(2,1))]⟩:=by constructor <;> kernel_rfl
theorem aED:yA Tryz.prog 420 ⟨true,32,32,.agg ⟨.replicate 32 (.int .u8 0)⟩,[],some (some 32,5),.arr 32 5⟩:=by constructor <;> kernel_rfl
theorem aEE:yA Tryz.prog 421 ⟨true,64,64,.agg ⟨.replicate 64 (.int .u8 0)⟩,[],some (some 64,5),.arr 64 5⟩:=by constructor <;> kernel_rfl
theorem aEF:yA Tryz.prog 427 ⟨true,1,16,.agg ⟨[.string ⟨#[]⟩]⟩,[0],none,.struct [(9,(0,1))]⟩:=by constructor <;> kernel_rfl
theorem aEG:yA Tryz.prog 442 ⟨true,2,16,.agg ⟨[.iz (0),.iz (0)]⟩,[0,1],none,.struct [(3,(0,1)),(3,(1,1))]⟩:=by constructor <;> kernel_rfl
def tys:List (Nat×FA):= [(3,⟨false,1,8,.iz (0),[],none,.int .i64⟩),
 (4,⟨false,1,1,.bool false,[],none,.bool⟩),
 (5,⟨false,1,1,.int .u8 (0),[],none,.int .u8⟩),
 (9,⟨false,1,16,.string ⟨#[]⟩,[],none,.str⟩),
 (20,⟨false,1,16,.nilIface,[],none,.other⟩),
 (21,⟨false,1,4,.int .i32 (0),[],none,.int .i32⟩),
 (22,⟨false,1,2,.int .u16 (0),[],none,.int .u16⟩),
 (24,⟨false,1,24,.slice none 0 0,[],some (none,3),.slice 3⟩),
 (25,⟨false,1,8,.iz (0),[],none,.int .i64⟩),
 (28,⟨false,1,8,.iz (0),[],none,.int .i64⟩),
 (31,⟨false,1,24,.slice none 0 0,[],some (none,39),.slice 39⟩),
 (37,⟨true,2,16,.agg ⟨[.iz (0),.iz (0)]⟩,[0,1],none,.struct [(3,(0,1)),(3,(1,1))]⟩),
 (39,⟨true,4,32,.agg ⟨[.iz (0),.iz (0),.iz (0),.iz (0)]⟩,[0,2],none,.struct [(37,(0,2)),(37,(2,2))]⟩),
 (43,⟨false,1,24,.slice none 0 0,[],some (none,68),.slice 68⟩),
 (45,⟨true,4,64,.agg ⟨[.iz (0),.iz (0),.slice none 0 0,.slice none 0 0]⟩,[0,1,2,3],none,.struct [(3,(0,1)),(3,(1,1)),(43,(2,1)),(31,(3,1))]⟩),
 (47,⟨true,4,32,.agg ⟨[.iz (0),.iz (0),.iz (0),.iz (0)]⟩,[0,2],none,.struct [(37,(0,2)),(37,(2,2))]⟩),
 (49,⟨true,8,64,.agg ⟨.replicate 8 (.int .i64 0)⟩,[0,2,4],none,.struct [(37,(0,2)),(37,(2,2)),(47,(4,4))]⟩),
 (50,⟨false,1,24,.slice none 0 0,[],some (none,53),.slice 53⟩),
 (53,⟨false,1,2,.int .i16 (0),[],none,.int .i16⟩),
 (60,⟨false,1,24,.slice none 0 0,[],some (none,5),.slice 5⟩),
 (65,⟨false,1,24,.slice none 0 0,[],some (none,22),.slice 22⟩),
 (66,⟨false,1,24,.slice none 0 0,[],some (none,110),.slice 110⟩),
 (68,⟨true,3,56,.agg ⟨[.string ⟨#[]⟩,.string ⟨#[]⟩,.slice none 0 0]⟩,[0,1,2],none,.struct [(9,(0,1)),(9,(1,1)),(66,(2,1))]⟩),
 (74,⟨true,4,48,.agg ⟨[.iz (0),.iz (0),.iz (0),.slice none 0 0]⟩,[0,1,2,3],none,.struct [(3,(0,1)),(3,(1,1)),(3,(2,1)),(24,(3,1))]⟩),
 (86,⟨false,1,8,.pointer none,[],none,.other⟩),
 (88,⟨true,2,32,.agg ⟨[.iz (0),.slice none 0 0]⟩,[0,1],none,.struct [(28,(0,1)),(24,(1,1))]⟩),
 (92,⟨true,12,96,.agg ⟨.replicate 12 (.int .i64 0)⟩,[],some (some 12,3),.arr 12 3⟩),
 (94,⟨true,13,104,.agg ⟨.replicate 13 (.int .i64 0)⟩,[0,1],none,.struct [(28,(0,1)),(92,(1,12))]⟩),
 (95,⟨false,1,24,.slice none 0 0,[],some (none,442),.slice 442⟩),
 (97,⟨true,5,56,.agg ⟨[.iz (0),.iz (0),.iz (0),.bool false,.slice none 0 0]⟩,[0,1,2,3,4],none,.struct [(28,(0,1)),(3,(1,1)),(3,(2,1)),(4,(3,1)),(95,(4,1))]⟩),
 (99,⟨true,5,56,.agg ⟨[.iz (0),.iz (0),.iz (0),.bool false,.slice none 0 0]⟩,[0],none,.struct [(97,(0,5))]⟩),
 (101,⟨false,1,8,.nilFunc,[],none,.other⟩),
 (107,⟨false,1,24,.slice none 0 0,[],some (none,9),.slice 9⟩),
 (110,⟨false,1,8,.iz (0),[],none,.int .i64⟩),
 (132,⟨true,8,64,.agg ⟨.replicate 8 (.int .i64 0)⟩,[0],none,.struct [(49,(0,8))]⟩),
 (133,⟨false,1,24,.slice none 0 0,[],some (none,270),.slice 270⟩),
 (135,⟨true,2,32,.agg ⟨[.iz (0),.slice none 0 0]⟩,[0,1],none,.struct [(3,(0,1)),(133,(1,1))]⟩),
 (139,⟨true,6,48,.agg ⟨.replicate 6 (.int .i64 0)⟩,[],some (some 6,3),.arr 6 3⟩),
 (150,⟨false,1,8,.nilFunc,[],none,.other⟩),
 (153,⟨false,1,1,.int .u8 (0),[],none,.int .u8⟩),
 (166,⟨true,4,64,.agg ⟨[.iz (0),.iz (0),.slice none 0 0,.slice none 0 0]⟩,[0],none,.struct [(45,(0,4))]⟩),
 (170,⟨true,3,32,.agg ⟨[.string ⟨#[]⟩,.iz (0),.bool false]⟩,[0,1,2],none,.struct [(9,(0,1)),(3,(1,1)),(4,(2,1))]⟩),
 (173,⟨false,1,8,.nilFunc,[],none,.other⟩),
 (174,⟨false,1,8,.pointer none,[],none,.other⟩),
 (176,⟨true,2,32,.agg ⟨[.pointer none,.slice none 0 0]⟩,[0,1],none,.struct [(174,(0,1)),(60,(1,1))]⟩),
 (178,⟨false,1,16,.nilIface,[],none,.other⟩),
 (184,⟨true,3,48,.agg ⟨[.string ⟨#[]⟩,.string ⟨#[]⟩,.string ⟨#[]⟩]⟩,[],some (some 3,9),.arr 3 9⟩),
 (191,⟨true,0,0,.agg ⟨[]⟩,[],none,.struct []⟩),
 (193,⟨false,1,8,.nilFunc,[],none,.other⟩),
 (202,⟨true,2,16,.agg ⟨[.iz (0),.iz (0)]⟩,[0,1],none,.struct [(3,(0,1)),(3,(1,1))]⟩),
 (204,⟨true,3,56,.agg ⟨[.string ⟨#[]⟩,.string ⟨#[]⟩,.slice none 0 0]⟩,[0],none,.struct [(68,(0,3))]⟩),
 (206,⟨true,4,32,.agg ⟨[.iz (0),.iz (0),.iz (0),.iz (0)]⟩,[0],none,.struct [(39,(0,4))]⟩),
 (218,⟨false,1,8,.map none,[],none,.map 170 4⟩),
 (222,⟨false,1,8,.map none,[],none,.map 3 4⟩),
 (228,⟨false,1,8,.int .u64 (0),[],none,.int .u64⟩),
 (231,⟨false,1,4,.int .u32 (0),[],none,.int .u32⟩),
 (233,⟨true,2,16,.agg ⟨[.int .u64 (0),.int .u32 (0)]⟩,[],none,.struct [(225,(0,0)),(230,(0,1)),(231,(1,1))]⟩),
 (236,⟨false,1,8,.nilFunc,[],none,.other⟩),
 (240,⟨true,4,32,.agg ⟨[.iz (0),.iz (0),.iz (0),.iz (0)]⟩,[],some (some 4,110),.arr 4 110⟩),
 (242,⟨true,3,24,.agg ⟨[.iz (0),.iz (0),.iz (0)]⟩,[],some (some 3,110),.arr 3 110⟩),
 (249,⟨false,1,8,.nilFunc,[],none,.other⟩),
 (257,⟨true,2,16,.agg ⟨[.iz (0),.iz (0)]⟩,[0,1],none,.struct [(3,(0,1)),(3,(1,1))]⟩),
 (261,⟨false,1,8,.map none,[],none,.map 153 4⟩),
 (264,⟨false,1,24,.slice none 0 0,[],some (none,265),.slice 265⟩),
 (265,⟨false,1,8,.nilFunc,[],none,.other⟩),
 (266,⟨true,4,32,.agg ⟨[.nilFunc,.nilFunc,.nilFunc,.nilFunc]⟩,[],some (some 4,265),.arr 4 265⟩),
 (270,⟨true,2,16,.agg ⟨[.iz (0),.iz (0)]⟩,[0,1],none,.struct [(3,(0,1)),(3,(1,1))]⟩),
 (271,⟨false,1,8,.int .u64 (0),[],none,.int .u64⟩),
 (272,⟨false,1,8,.nilFunc,[],none,.other⟩),
 (275,⟨false,1,8,.pointer none,[],none,.other⟩),
 (281,⟨false,1,8,.nilFunc,[],none,.other⟩),
 (282,⟨true,3,24,.agg ⟨[.nilFunc,.nilFunc,.nilFunc]⟩,[],some (some 3,281),.arr 3 281⟩),
 (290,⟨true,2,32,.agg ⟨[.string ⟨#[]⟩,.string ⟨#[]⟩]⟩,[],some (some 2,9),.arr 2 9⟩),
 (294,⟨true,256,256,.agg ⟨List.replicate 256 (.bool false)⟩,[],some (some 256,4),.arr 256 4⟩),
 (298,⟨false,1,8,.pointer none,[],none,.other⟩),
 (305,⟨false,1,8,.pointer none,[],none,.other⟩),
 (315,⟨true,3,24,.agg ⟨[.iz (0),.iz (0),.iz (0)]⟩,[],some (some 3,3),.arr 3 3⟩),
 (322,⟨true,2,16,.agg ⟨[.iz (0),.iz (0)]⟩,[],some (some 2,3),.arr 2 3⟩),
 (326,⟨false,1,8,.map none,[],none,.map 333 4⟩),
 (329,⟨false,1,8,.map none,[],none,.map 270 373⟩),
 (331,⟨true,9,88,.agg ⟨[.iz (0),.slice none 0 0,.iz (0),.iz (0),.iz (0),.iz (0),.iz (0),.iz (0),.map none]⟩,[0,2,3,4,5,6,8],none,.struct [(135,(0,2)),(3,(2,1)),(3,(3,1)),(3,(4,1)),(3,(5,1)),(257,(6,2)),(329,(8,1))]⟩),
 (333,⟨true,128,128,.agg ⟨List.replicate 128 (.bool false)⟩,[],some (some 128,4),.arr 128 4⟩),
 (353,⟨false,1,8,.iz (0),[],none,.int .i64⟩),
 (372,⟨false,1,8,.nilFunc,[],none,.other⟩),
 (373,⟨false,1,24,.slice none 0 0,[],some (none,376),.slice 376⟩),
 (376,⟨true,2,16,.agg ⟨[.iz (0),.iz (0)]⟩,[0,1],none,.struct [(3,(0,1)),(3,(1,1))]⟩),
 (377,⟨false,1,8,.nilFunc,[],none,.other⟩),
 (378,⟨false,1,8,.nilFunc,[],none,.other⟩),
 (388,⟨false,1,8,.int .u64 (0),[],none,.int .u64⟩),
 (391,⟨false,1,8,.pointer none,[],none,.other⟩),
 (397,⟨true,20,160,.agg ⟨.replicate 20 (.int .u64 0)⟩,[],some (some 20,228),.arr 20 228⟩),
 (405,⟨true,256,256,.agg ⟨List.replicate 256 (.int .u8 (0))⟩,[],some (some 256,5),.arr 256 5⟩),
 (407,⟨true,2,2,.agg ⟨[.int .u8 (0),.int .u8 (0)]⟩,[0,1],none,.struct [(5,(0,1)),(5,(1,1))]⟩),
 (408,⟨true,32,32,.agg ⟨.replicate 32 (.int .u8 0)⟩,[],some (some 16,407),.arr 16 407⟩),
 (418,⟨true,3,48,.agg ⟨[.string ⟨#[]⟩,.string ⟨#[]⟩,.nilIface]⟩,[0,1,2],none,.struct [(9,(0,1)),(9,(1,1)),(178,(2,1))]⟩),
 (420,⟨true,32,32,.agg ⟨.replicate 32 (.int .u8 0)⟩,[],some (some 32,5),.arr 32 5⟩),
 (421,⟨true,64,64,.agg ⟨.replicate 64 (.int .u8 0)⟩,[],some (some 64,5),.arr 64 5⟩),
 (427,⟨true,1,16,.agg ⟨[.string ⟨#[]⟩]⟩,[0],none,.struct [(9,(0,1))]⟩),
 (442,⟨true,2,16,.agg ⟨[.iz (0),.iz (0)]⟩,[0,1],none,.struct [(3,(0,1)),(3,(1,1))]⟩)]
theorem aEM:KR Tryz.prog tys:=⟨aHu,aHv,aHw,aHx,aFX,aFY,aFZ,aF0,aF1,aF2,aF3,aF4,aF5,aF6,aF7,aF8,aF9,aGa,aGb,aGc,aGd,aGe,aGf,aGg,aGh,aGi,aGj,aGk,aGl,aGm,aGn,aDB,aDC,aDD,aDE,aDF,aDG,aDH,aDI,aDJ,aDK,aDL,aDM,aDN,aDO,aDP,aDQ,aDR,aDS,aDT,aDU,aDV,aDW,aDX,aDY,aDZ,aD0,aD1,aD2,aD3,aD4,aD5,aD6,aD7,aD8,aD9,aEa,aEb,aEc,aEd,aEe,aEf,aEg,aEh,aEi,aEj,aEk,aEl,aEm,aEn,aEo,aEp,aEq,aEr,aEs,aEt,aEu,aEv,aEw,aEx,aEy,aEz,aEA,aEB,aEC,aED,aEE,aEF,aEG,trivial⟩
theorem mixed:Tryz.prog.follows .mixedOrders=true:=by kernel_rfl
theorem aGB:AA Tryz.prog 85=true:=by kernel_rfl
theorem aCB:AA Tryz.prog 90=true:=by kernel_rfl
theorem nZ:AA Tryz.prog 101=true:=by kernel_rfl
theorem aEY:AA Tryz.prog 103=true:=by kernel_rfl
theorem qG:AA Tryz.prog 105=true:=by kernel_rfl
theorem aEZ:AA Tryz.prog 122=true:=by kernel_rfl
theorem aB8:AA Tryz.prog 124=true:=by kernel_rfl
theorem aE0:AA Tryz.prog 127=true:=by kernel_rfl
theorem aE1:AA Tryz.prog 128=true:=by kernel_rfl
theorem iV:AA Tryz.prog 142=true:=by kernel_rfl
theorem aB9:AA Tryz.prog 145=true:=by kernel_rfl
theorem aE2:AA Tryz.prog 170=true:=by kernel_rfl
theorem aE3:AA Tryz.prog 175=true:=by kernel_rfl
theorem jV:AA Tryz.prog 179=true:=by kernel_rfl
theorem aE4:AA Tryz.prog 180=true:=by kernel_rfl
theorem aCa:AA Tryz.prog 181=true:=by kernel_rfl
theorem aE5:AA Tryz.prog 205=true:=by kernel_rfl
theorem aE6:AA Tryz.prog 207=true:=by kernel_rfl
theorem aE7:AA Tryz.prog 208=true:=by kernel_rfl
theorem aE8:AA Tryz.prog 213=true:=by kernel_rfl
theorem aE9:AA Tryz.prog 216=true:=by kernel_rfl
theorem aFa:AA Tryz.prog 221=true:=by kernel_rfl
theorem aFb:AA Tryz.prog 224=true:=by kernel_rfl
theorem aFc:AA Tryz.prog 225=true:=by kernel_rfl
theorem aCb:AA Tryz.prog 226=true:=by kernel_rfl
theorem aFd:AA Tryz.prog 255=true:=by kernel_rfl
theorem XR:AA Tryz.prog 372=true:=by kernel_rfl
def en:Env Tryz.prog:=Env.of tys aEM
end Go.Proofs.YtldmfjcgjdchcaaGreatDoor
namespace Go.RL.Au
set_option linter.unusedSimpArgs false
set_option linter.unusedVariables false
inductive Th where
 | pw|wr|wk|wi|d1|d2|d3|d4|quit
 deriving DecidableEq
structure Sh where
 c:Nat
 w:Nat
 q:Nat
 deriving DecidableEq
def Th.mv(s:Sh):Th->List (Th×Sh)
 | .pw=> [(.wr,s)]
 | .wr=> [(.wk,s)]
 | .wk=> [(.wi,s)]
 | .wi=> [(.d1,s)]
 | .d1=> [(if s.c=1/\s.w=1 then .d2 else .quit,{ s with c:=s.c-1 })]
 | .d2=> [(.d3,s)]
 | .d3=> [(.d4,{ s with w:=0 })]
 | .d4=> [(.quit,{ s with q:=s.q+1 })]
 | .quit=> []
def Th.on:Th->Nat
 | .d2 | .d3 | .d4 | .quit=> 0
 | _=> 1
def Th.dd:Th->Nat
 | .d2 | .d3=> 1
 | _=> 0
def Th.eS:Th->Nat
 | .d4=> 1
 | _=> 0
def sm(f:Th->Nat):List Th->Nat
 | []=> 0
 | t::l=> f t+sm f l
theorem TN {f:Th->Nat}:∀ {l:List Th} {i:Nat} {t:Th},l[i]? =some t->∀t':Th,sm f (l.set i t')+f t=sm f l+f t'
 | a::l,0,t,h,t'=> by
  simp at h
  subst h;simp only[List.set_cons_zero,sm];omega
 | a::l,i+1,t,h,t'=> by
  have:=TN (f:=f) (l:=l) (i:=i) (t:=t) (by simpa using h) t';simp only[List.set_cons_succ,sm];omega
 | [],_,_,h,_=> by simp at h
theorem FM {f:Th->Nat}:∀ {l:List Th} {i:Nat} {t:Th},l[i]? =some t->f t<=sm f l
 | a::l,0,t,h=> by
  simp at h
  subst h;simp only[sm];omega
 | a::l,i+1,t,h=> by
  have:=FM (f:=f) (l:=l) (i:=i) (t:=t) (by simpa using h);simp only[sm];omega
 | [],_,_,h=> by simp at h
theorem WQ(f:Th->Nat)(t:Th):∀l:List Th,sm f (l++[t])=sm f l+f t
 | []=> by simp[sm]
 | a::l=> by simp only[List.cons_append,sm,WQ f t l];omega
theorem Q9 {f:Th->Nat}:∀ {l:List Th},0<sm f l->∃(i:Nat) (t:Th),l[i]? =some t/\0<f t
 | a ::l,h=> by
  simp only[sm] at h;by_cases h0:0<f a
  ·exact⟨0,a,by simp,h0⟩
  ·obtain⟨i,t,h1,h2⟩:=Q9 (f:=f) (l:=l) oM;exact⟨i+1,t,by simpa using h1,h2⟩
 | [],h=> by simp[sm] at h
theorem IY {f:Th->Nat}(hf:∀t,f t<=1):∀l:List Th,sm f l<=l.length
 | []=> by simp[sm]
 | a::l=> by
  have:=IY hf l;have:=hf a;simp only[sm,List.length_cons];omega
inductive Mn where
 | kd|ki|ka|kr|ke|go
 | wd|w1|w2 (o:Nat)|wm|ws|w4|we|aq|ret
 deriving DecidableEq
def Mn.mv(s:Sh):Mn->List (Mn×Sh)
 | .kd=> [(.ki,s)]
 | .ki=> [(.ka,s)]
 | .ka=> [(if s.c=0 then .kr else .ke,{ s with c:=s.c+1 })]
 | .kr=> [(.ke,s)]
 | .ke=> [(.go,s)]
 | .go=> []
 | .wd=> [(.w1,s)]
 | .w1=> [(if s.c=0 then .we else .w2 s.c,s)]
 | .w2 o=> if s.c=o then [(.wm,{ s with w:=1 })] else [(.w1,s)]
 | .wm=> [(.ws,s)]
 | .ws=> if s.q=0 then [] else [(.w4,{ s with q:=s.q-1 })]
 | .w4=> [(.we,s)]
 | .we=> [(.aq,s)]
 | .aq=> [(.ret,s)]
 | .ret=> []
def Mn.ahead:Mn->Nat
 | .kr | .ke | .go=> 1
 | _=> 0
def Mn.early:Mn->Nat
 | .kd | .ki | .ka | .kr | .ke | .go=> 1
 | _=> 0
def Mn.waits:Mn->Nat
 | .wm | .ws=> 1
 | _=> 0
def Mn.gI:Mn->Nat
 | .w4 | .we | .aq | .ret=> 1
 | _=> 0
structure NO(ths:List Th)(mn:Mn)(c w q:Nat):Prop where
 g1:c=sm Th.on ths+mn.ahead
 g2:mn.waits=0->w=0/\q=0/\sm Th.dd ths=0/\sm Th.eS ths=0
 g3:mn.waits=1->(0<c->w=1/\q=0/\sm Th.dd ths=0/\sm Th.eS ths=0)/\(c=0->sm Th.dd ths+sm Th.eS ths+q=1/\w=sm Th.dd ths)
 g4:mn.gI=1->c=0
structure Inv(n:Nat)(ths:List Th)(mn:Mn)(s:Sh):Prop where
 len:ths.length<=n
 n7:n<=6
 all:mn.early=0->ths.length=n
 more:mn.early=1->ths.length<n
 G:NO ths mn s.c s.w s.q
 g5:∀o,mn=.w2 o->0<o/\o<=6
def Th.ok(s:Sh):Th->Prop
 | .d1=> 0<s.c
 | .d2 | .d3=> s.c=0/\s.w=1
 | .d4=> s.q=0
 | _=> True
def Sh.fits(s:Sh):Prop:=s.c<=6/\s.w<=1/\s.q<=1
theorem on1(t:Th):t.on<=1:=by cases t <;> simp[Th.on]
theorem IN(mn:Mn):mn.ahead<=mn.early/\mn.early<=1/\mn.waits<=1/\mn.gI<=1/\mn.waits+mn.gI<=1:=by cases mn <;> simp[Mn.ahead,Mn.early,Mn.waits,Mn.gI]
theorem Inv.fits {n:Nat}{ths:List Th}{mn:Mn}{s:Sh}(h:Inv n ths mn s):s.fits:=by
 have hon:=IY on1 ths;obtain⟨r1,r2,r3,r4,r5⟩:=IN mn;have hlen:=h.len;have hn7:=h.n7;have hc:s.c<=6:=by
  have g1:=h.G.g1;rcases Nat.eq_zero_or_pos mn.early with e|e
  ·omega
  ·have:=h.more oM;omega
 have hwq:s.w<=1/\s.q<=1:=by
  rcases Nat.eq_zero_or_pos mn.waits with e|e
  ·have:=h.G.g2 e;omega
  ·have:=h.G.g3 oM;rcases Nat.eq_zero_or_pos s.c with e2|e2
   ·have:=this.2 e2;omega
   ·have:=this.1 e2;omega
 exact⟨hc,hwq.1,hwq.2⟩
theorem Inv.ok {n:Nat}{ths:List Th}{mn:Mn}{s:Sh}(h:Inv n ths mn s){i:Nat}{t:Th}(hi:ths[i]? =some t):t.ok s/\s.fits:=by
 refine⟨?_,h.fits⟩;have a9:=FM (f:=Th.on) hi;have a10:=FM (f:=Th.dd) hi;have a11:=FM (f:=Th.eS) hi;have g1:=h.G.g1;have hr:=IN mn;cases t <;> simp only[Th.ok,Th.on,Th.dd,Th.eS] at * <;> try trivial
 case d1=> omega
 case d2|d3=>
  rcases Nat.eq_zero_or_pos mn.waits with e|e
  ·have:=h.G.g2 e;omega
  ·have:=h.G.g3 oM;rcases Nat.eq_zero_or_pos s.c with e2|e2
   ·have:=this.2 e2;omega
   ·have:=this.1 e2;omega
 case d4=>
  rcases Nat.eq_zero_or_pos mn.waits with e|e
  ·have:=h.G.g2 e;omega
  ·have:=h.G.g3 oM;rcases Nat.eq_zero_or_pos s.c with e2|e2
   ·have:=this.2 e2;omega
   ·have:=this.1 e2;omega
theorem Inv.worker {n:Nat}{ths:List Th}{mn:Mn}{s s':Sh}{i:Nat}{t':Th}(h:Inv n ths mn s)(hG:NO (ths.set i t') mn s'.c s'.w s'.q):Inv n (ths.set i t') mn s':=
 ⟨by rw[List.length_set];exact h.len,h.n7,fun e=> by rw[List.length_set];exact h.all e,fun e=> by rw[List.length_set];exact h.more e,hG,h.g5⟩
theorem NO.same {ths ths':List Th}{mn:Mn}{c w q:Nat}(h:NO ths mn c w q)(h1:sm Th.on ths'=sm Th.on ths)(h2:sm Th.dd ths'=sm Th.dd ths)(h3:sm Th.eS ths'=sm Th.eS ths):NO ths' mn c w q:=
 ⟨by rw[h1];exact h.g1,by rw[h2,h3];exact h.g2,by rw[h2,h3];exact h.g3,h.g4⟩
theorem Inv.step {n:Nat}{ths:List Th}{mn:Mn}{s s':Sh}{i:Nat}{t t':Th}(h:Inv n ths mn s)(hi:ths[i]? =some t)(hm:(t',s')∈t.mv s):Inv n (ths.set i t') mn s':=by
 have QC:=h.ok hi;have b9:=TN (f:=Th.on) hi t';have b10:=TN (f:=Th.dd) hi t';have b11:=TN (f:=Th.eS) hi t';obtain⟨g1,g2,g3,g4⟩:=h.G;have hr:=IN mn;refine h.worker ?_;cases t <;> simp only[Th.mv] at hm
 case quit=> cases hm
 case d1=>
  have o1:0<s.c:=QC.1;simp only[List.mem_singleton,Prod.mk.injEq] at hm;obtain⟨ht,rfl⟩:=hm;by_cases hc:s.c=1/\s.w=1
  ·rw[if_pos hc] at ht;subst ht;simp only[Th.on,Th.dd,Th.eS] at b9 b10 b11;exact⟨by simp only;omega,fun e=> by have:=g2 e;omega,fun e=> ⟨fun e2=> by simp only at e2;omega,fun _=> by have:=(g3 e).1 o1;simp only;omega⟩,fun e=> by have:=g4 e;omega⟩
  ·rw[if_neg hc] at ht;subst ht;simp only[Th.on,Th.dd,Th.eS] at b9 b10 b11;refine⟨by simp only;omega,fun e=> by have:=g2 e;simp only;omega,fun e=> ⟨fun e2=> ?_,fun e2=> ?_⟩,fun e=> by have:=g4 e;omega⟩
   ·have:=(g3 e).1 o1;simp only;omega
   ·have:=(g3 e).1 o1;simp only at e2;omega
 case d2=>
  simp only[List.mem_singleton,Prod.mk.injEq] at hm;obtain⟨rfl,rfl⟩:=hm;simp only[Th.on,Th.dd,Th.eS] at b9 b10 b11;exact h.G.same oM oM oM
 case d3=>
  have o1:s.c=0/\s.w=1:=QC.1;have b1:=FM (f:=Th.dd) hi;simp only[List.mem_singleton,Prod.mk.injEq] at hm;obtain⟨rfl,rfl⟩:=hm;simp only[Th.on,Th.dd,Th.eS] at b1 b9 b10 b11;exact⟨by simp only;omega,fun e=> by have:=g2 e;omega,fun e=> ⟨fun e2=> by simp only at e2;omega,fun e2=> by have:=(g3 e).2 e2;simp only;omega⟩,fun e=> g4 e⟩
 case d4=>
  have o1:s.q=0:=QC.1;have b1:=FM (f:=Th.eS) hi;simp only[List.mem_singleton,Prod.mk.injEq] at hm;obtain⟨rfl,rfl⟩:=hm;simp only[Th.on,Th.dd,Th.eS] at b1 b9 b10 b11;exact⟨by simp only;omega,fun e=> by have:=g2 e;omega,fun e=> ⟨fun e2=> by have:=(g3 e).1 e2;omega,fun e2=> by have:=(g3 e).2 e2;simp only;omega⟩,fun e=> g4 e⟩
 all_goals
  simp only[List.mem_singleton,Prod.mk.injEq] at hm;obtain⟨rfl,rfl⟩:=hm;simp only[Th.on,Th.dd,Th.eS] at b9 b10 b11;exact h.G.same oM oM oM
theorem Inv.main {n:Nat}{ths:List Th}{mn mn':Mn}{s s':Sh}(h:Inv n ths mn s)(hm:(mn',s')∈mn.mv s):Inv n ths mn' s':=by
 obtain⟨h1,h2,h3,h3',⟨g1,g2,g3,g4⟩,g5⟩:=h;have hon:=IY on1 ths;cases mn
 case go=> cases hm
 case ret=> cases hm
 case ka=>
  simp only[Mn.mv,List.mem_singleton,Prod.mk.injEq] at hm;obtain⟨hk,rfl⟩:=hm;simp only[Mn.early,Mn.waits,Mn.gI,Mn.ahead] at *;by_cases hc:s.c=0
  ·rw[if_pos hc] at hk;subst hk;exact⟨h1,h2,by simp only[Mn.early];omega,by simp only[Mn.early];omega,(show NO ths .kr (s.c+1) (s.w) (s.q) from⟨by simp only[Mn.ahead];omega,by simp only[Mn.waits];omega,by simp only[Mn.waits];omega,by simp only[Mn.gI];omega⟩),fun o e=> by cases e⟩
  ·rw[if_neg hc] at hk;subst hk;exact⟨h1,h2,by simp only[Mn.early];omega,by simp only[Mn.early];omega,(show NO ths .ke (s.c+1) (s.w) (s.q) from⟨by simp only[Mn.ahead];omega,by simp only[Mn.waits];omega,by simp only[Mn.waits];omega,by simp only[Mn.gI];omega⟩),fun o e=> by cases e⟩
 case w1=>
  simp only[Mn.mv,List.mem_singleton,Prod.mk.injEq] at hm;obtain⟨hk,rfl⟩:=hm;simp only[Mn.early,Mn.waits,Mn.gI,Mn.ahead] at *;by_cases hc:s'.c=0
  ·rw[if_pos hc] at hk;subst hk;exact⟨h1,h2,by simp only[Mn.early];omega,by simp only[Mn.early];omega,(show NO ths .we (s'.c) (s'.w) (s'.q) from⟨by simp only[Mn.ahead];omega,by simp only[Mn.waits];omega,by simp only[Mn.waits];omega,by simp only[Mn.gI];omega⟩),fun o e=> by cases e⟩
  ·rw[if_neg hc] at hk;subst hk;exact⟨h1,h2,by simp only[Mn.early];omega,by simp only[Mn.early];omega,(show NO ths (.w2 s'.c) (s'.c) (s'.w) (s'.q) from⟨by simp only[Mn.ahead];omega,by simp only[Mn.waits];omega,by simp only[Mn.waits];omega,by simp only[Mn.gI];omega⟩),fun o e=> by cases e;omega⟩
 case w2 o=>
  have o1:=g5 o rfl;have G2:=g2 rfl;have e0:=h3 rfl;simp only[Mn.ahead] at g1;simp only[Mn.mv] at hm;split at hm <;> simp only[List.mem_singleton,Prod.mk.injEq] at hm <;> obtain⟨rfl,rfl⟩:=hm
  ·rename_i hc
   exact⟨h1,h2,fun _=> e0,fun e=> (by cases e),(show NO ths .wm s.c 1 s.q from⟨by simp only[Mn.ahead];omega,fun e=> (by cases e),fun _=> ⟨fun _=> ⟨rfl,G2.2.1,G2.2.2.1,G2.2.2.2⟩,fun e=> by omega⟩,fun e=> (by cases e)⟩),fun o e=> by cases e⟩
  ·exact⟨h1,h2,fun _=> e0,fun e=> (by cases e),(show NO ths .w1 s'.c s'.w s'.q from⟨by simp only[Mn.ahead];omega,fun _=> G2,fun e=> (by cases e),fun e=> (by cases e)⟩),fun o e=> by cases e⟩
 case ws=>
  have G3:=g3 rfl;simp only[Mn.mv] at hm;split at hm
  ·cases hm
  ·simp only[List.mem_singleton,Prod.mk.injEq] at hm;obtain⟨rfl,rfl⟩:=hm;simp only[Mn.early,Mn.waits,Mn.gI,Mn.ahead] at *;exact⟨h1,h2,by simp only[Mn.early];omega,by simp only[Mn.early];omega,(show NO ths .w4 (s.c) (s.w) (s.q-1) from⟨by simp only[Mn.ahead];omega,by simp only[Mn.waits];omega,by simp only[Mn.waits];omega,by simp only[Mn.gI];omega⟩),fun o e=> by cases e⟩
 all_goals
  simp only[Mn.mv,List.mem_singleton,Prod.mk.injEq] at hm;obtain⟨rfl,rfl⟩:=hm;simp only[Mn.early,Mn.waits,Mn.gI,Mn.ahead] at *;exact⟨h1,h2,by simp only[Mn.early];omega,by simp only[Mn.early];omega,⟨by simp only[Mn.ahead];omega,by simp only[Mn.waits];omega,by simp only[Mn.waits];omega,by simp only[Mn.gI];omega⟩,fun o e=> by cases e⟩
theorem Inv.fork {n:Nat}{ths:List Th}{s:Sh}(h:Inv n ths .go s):Inv n (ths++[.pw]) (if ths.length+1<n then .kd else .wd) s:=by
 obtain⟨h1,h2,h3,h3',⟨g1,g2,g3,g4⟩,g5⟩:=h;have G2:=g2 rfl;have H3:=h3' rfl;simp only[Mn.early,Mn.waits,Mn.gI,Mn.ahead] at *;have a9:=WQ Th.on .pw ths;have a10:=WQ Th.dd .pw ths;have a11:=WQ Th.eS .pw ths;simp only[Th.on,Th.dd,Th.eS] at a9 a10 a11;have hlen:(ths++[Th.pw]).length=ths.length+1:=by simp
 by_cases hc:ths.length+1<n
 ·rw[if_pos hc];exact⟨oM,h2,by simp only[Mn.early];omega,by simp only[Mn.early];omega,⟨by simp only[Mn.ahead];omega,by simp only[Mn.waits];omega,by simp only[Mn.waits];omega,by simp only[Mn.gI];omega⟩,fun o e=> by cases e⟩
 ·rw[if_neg hc];exact⟨oM,h2,by simp only[Mn.early];omega,by simp only[Mn.early];omega,⟨by simp only[Mn.ahead];omega,by simp only[Mn.waits];omega,by simp only[Mn.waits];omega,by simp only[Mn.gI];omega⟩,fun o e=> by cases e⟩
theorem Inv.start {n:Nat}(h2:n<=6):Inv n [] (if 0<n then .kd else .wd) ⟨0,0,0⟩:=by
 by_cases h1:0<n
 ·rw[if_pos h1];exact⟨by simp,h2,by simp[Mn.early],fun _=> h1,⟨by simp[sm,Mn.ahead],by simp[sm],by simp[Mn.waits],by simp[Mn.gI]⟩,fun o e=> by cases e⟩
 ·rw[if_neg h1];exact⟨by simp,h2,fun _=> by simp;omega,by simp[Mn.early],⟨by simp[sm,Mn.ahead],by simp[sm],by simp[Mn.waits],by simp[Mn.gI]⟩,fun o e=> by cases e⟩
def Mn.ok(s:Sh):Mn->Prop
 | .w1=> s.w=0
 | .w2 o=> s.w=0/\0<o/\o<=6
 | .ka=> s.w=0
 | .w4=> s.c=0/\s.w=0
 | _=> True
theorem Inv.mok {n:Nat}{ths:List Th}{mn:Mn}{s:Sh}(h:Inv n ths mn s):mn.ok s/\s.fits:=by
 refine⟨?_,h.fits⟩;have g5:=h.g5;have g2:=h.G.g2;have g4:=h.G.g4;cases mn
 case w2 o=> exact⟨(g2 rfl).1,g5 o rfl⟩
 case w1=> exact(g2 rfl).1
 case ka=> exact(g2 rfl).1
 case w4=> exact⟨g4 rfl,(g2 rfl).1⟩
 all_goals trivial
theorem Inv.live {n:Nat}{ths:List Th}{mn:Mn}{s:Sh}(h:Inv n ths mn s)(h1:mn≠ .go)(h2:mn≠ .ret)(h3:mn.mv s= []):∃(i:Nat) (t:Th),ths[i]? =some t/\t.mv s≠ []:=by
 have hmn:mn=.ws/\s.q=0:=by
  cases mn <;> simp only[Mn.mv] at h3
  case go=> exact absurd rfl h1
  case ret=> exact absurd rfl h2
  case ws=>
   split at h3
   ·exact⟨rfl,by assumption⟩
   ·cases h3
  case w2 o=> split at h3 <;> cases h3
  all_goals cases h3
 obtain⟨rfl,hq⟩:=hmn;refine Classical.byContradiction fun gB=> ?_;have X7:∀(i:Nat) (t:Th),ths[i]? =some t->t=.quit:=fun i t hi=> by
  have:t.mv s= []:=Classical.byContradiction fun e=> gB ⟨i,t,hi,e⟩;cases t <;> simp only[Th.mv] at this
  case quit=> rfl
  all_goals cases this
 have zero:∀f:Th->Nat,f .quit=0->sm f ths=0:=by
  intro f e1;refine Classical.byContradiction fun hp=> ?_;obtain⟨i,t,hi,ht⟩:=Q9 (f:=f) (l:=ths) oM;rw[X7 i t hi] at ht;omega
 have z7:=zero Th.on rfl;have z8:=zero Th.dd rfl;have z9:=zero Th.eS rfl;have g3:=h.G.g3 rfl;have g1:=h.G.g1;simp only[Mn.ahead] at g1;have:=g3.2 oM;omega
theorem Inv.done {n:Nat}{ths:List Th}{mn:Mn}{s:Sh}(h:Inv n ths mn s)(hp:mn.gI=1):ths.length=n/\∀(i:Nat) (t:Th),ths[i]? =some t->t=.quit:=by
 have he:mn.early=0/\mn.waits=0/\mn.ahead=0:=by cases mn <;> simp[Mn.gI] at hp <;> simp[Mn.early,Mn.waits,Mn.ahead]
 refine⟨h.all he.1,fun i t hi=> ?_⟩;have h1:=FM (f:=Th.on) hi;have h2:=FM (f:=Th.dd) hi;have h3:=FM (f:=Th.eS) hi;have h4:=h.G.g2 he.2.1;have h5:=h.G.g4 hp;have h6:=h.G.g1;cases t <;> simp only[Th.on,Th.dd,Th.eS] at h1 h2 h3 <;> first|rfl|omega
def Th.wt:Th->Nat
 | .pw | .wr | .wk | .wi | .d1=> 5
 | .d2 | .d3=> 4
 | .d4=> 3
 | .quit=> 0
def Th.lam:Th->Nat
 | .pw=> 20
 | .wr=> 19
 | .wk=> 18
 | .wi=> 17
 | .d1=> 16
 | .d2=> 2
 | .d3=> 1
 | .d4=> 1
 | .quit=> 0
theorem aFL(t:Th):t.lam<=63:=by cases t <;> simp only[Th.lam] <;> omega
theorem Th.A7 {s s':Sh}{t t':Th}(QC:t.ok s)(hm:(t',s')∈t.mv s):(s'=s/\t'.wt<=t.wt/\t'.lam<t.lam)\/t'.wt+2*s'.q<t.wt+2*s.q:=by
 cases t <;> simp only[Th.mv] at hm
 case quit=> cases hm
 case d1=>
  simp only[List.mem_singleton,Prod.mk.injEq] at hm;obtain⟨rfl,rfl⟩:=hm;exact .inr (by split <;> simp only[Th.wt] <;> omega)
 case d3=>
  simp only[List.mem_singleton,Prod.mk.injEq] at hm;obtain⟨rfl,rfl⟩:=hm;exact .inr (by simp only[Th.wt];omega)
 case d4=>
  simp only[List.mem_singleton,Prod.mk.injEq] at hm;obtain⟨rfl,rfl⟩:=hm;exact .inr (by simp only[Th.wt];omega)
 all_goals
  simp only[List.mem_singleton,Prod.mk.injEq] at hm;obtain⟨rfl,rfl⟩:=hm;exact .inl ⟨rfl,by decide,by decide⟩
def Mn.wt:Mn->Nat
 | .kd | .ki | .ka=> 20
 | .kr | .ke | .go=> 19
 | .wd | .w1 | .w2 _=> 18
 | .wm | .ws=> 17
 | _=> 14
def Mn.lam(s:Sh):Mn->Nat
 | .kd=> 3
 | .ki=> 2
 | .ka=> 1
 | .kr=> 3
 | .ke=> 2
 | .go=> 1
 | .wd=> 5
 | .w1=> 3
 | .w2 o=> if o=s.c then 2 else 4
 | .wm=> 2
 | .ws=> 1
 | .w4=> 4
 | .we=> 3
 | .aq=> 2
 | .ret=> 1
theorem Mn.A7 {s s':Sh}{t t':Mn}(hm:(t',s')∈t.mv s):(s'=s/\t'.wt<=t.wt/\t'.lam s<t.lam s)\/t'.wt+2*s'.q<t.wt+2*s.q:=by
 cases t <;> simp only[Mn.mv] at hm
 case go=> cases hm
 case ret=> cases hm
 case ka=>
  simp only[List.mem_singleton,Prod.mk.injEq] at hm;obtain⟨rfl,rfl⟩:=hm;exact .inr (by split <;> simp only[Mn.wt] <;> omega)
 case w1=>
  simp only[List.mem_singleton,Prod.mk.injEq] at hm;obtain⟨rfl,rfl⟩:=hm;split
  ·exact .inr (by simp only[Mn.wt];omega)
  ·exact .inl ⟨rfl,by simp only[Mn.wt];omega,by simp[Mn.lam]⟩
 case w2 o=>
  split at hm <;> simp only[List.mem_singleton,Prod.mk.injEq] at hm <;> obtain⟨rfl,rfl⟩:=hm
  ·exact .inr (by simp only[Mn.wt];omega)
  ·rename_i h0
   exact .inl ⟨rfl,by simp only[Mn.wt];omega,by simp only[Mn.lam];rw[if_neg (fun e=> h0 e.symm)];omega⟩
 case ws=>
  split at hm
  ·cases hm
  ·simp only[List.mem_singleton,Prod.mk.injEq] at hm;obtain⟨rfl,rfl⟩:=hm;exact .inr (by simp only[Mn.wt];omega)
 all_goals
  simp only[List.mem_singleton,Prod.mk.injEq] at hm;obtain⟨rfl,rfl⟩:=hm;exact .inl ⟨rfl,by simp only[Mn.wt];omega,by simp only[Mn.lam];omega⟩
def phi(n:Nat)(ths:List Th)(mn:Mn)(s:Sh):Nat:=sm Th.wt ths+2*s.q+mn.wt+100*(n-ths.length)
def sQ(ths:List Th)(mn:Mn)(s:Sh):Nat:=sm Th.lam ths+mn.lam s
def mu(n:Nat)(ths:List Th)(mn:Mn)(s:Sh):Nat:=phi n ths mn s*512+sQ ths mn s
theorem aCl {f:Th->Nat}{b:Nat}(hf:∀t,f t<=b):∀l:List Th,sm f l<=b*l.length
 | []=> by simp[sm]
 | a::l=> by
  have:=aCl hf l;have:=hf a;simp only[sm,List.length_cons,Nat.mul_add];omega
theorem Mn.aHo(s:Sh)(t:Mn):t.lam s<=5:=by cases t <;> simp only[Mn.lam] <;> first|omega|(split <;> omega)
theorem FN {ths:List Th}{mn:Mn}{s:Sh}(h:ths.length<=6):sQ ths mn s<512:=by
 have h1:=aCl aFL ths;have h2:=mn.aHo s;unfold sQ;omega
theorem K3 {n:Nat}{ths:List Th}{mn:Mn}{s s':Sh}{i:Nat}{t t':Th}(h:Inv n ths mn s)(hi:ths[i]? =some t)(hm:(t',s')∈t.mv s):mu n (ths.set i t') mn s'<mu n ths mn s:=by
 have h1:=TN (f:=Th.wt) hi t';have h2:=h.len;have h3:=h.n7;have hl:(ths.set i t').length=ths.length:=by simp
 rcases Th.A7 (h.ok hi).1 hm with ⟨rfl,h4,h5⟩|h4
 ·have h6:=TN (f:=Th.lam) hi t';unfold mu phi sQ;rw[hl];omega
 ·have h6:=FN (ths:=ths.set i t') (mn:=mn) (s:=s') oM;unfold mu phi;rw[hl];omega
theorem aBz {n:Nat}{ths:List Th}{mn mn':Mn}{s s':Sh}(h:Inv n ths mn s)(hm:(mn',s')∈mn.mv s):mu n ths mn' s'<mu n ths mn s:=by
 have h2:=h.len;have h3:=h.n7;rcases Mn.A7 hm with ⟨rfl,h4,h5⟩|h4
 ·unfold mu phi sQ;omega
 ·have h6:=FN (ths:=ths) (mn:=mn') (s:=s') oM;unfold mu phi;omega
theorem aBy {n:Nat}{ths:List Th}{s:Sh}{mn:Mn}(h:Inv n ths .go s)(hw:mn.wt<=20):mu n (ths++[.pw]) mn s<mu n ths .go s:=by
 have h2:=h.more rfl;have h3:=h.n7;have h6:=FN (ths:=ths++[.pw]) (mn:=mn) (s:=s) (by simp;omega);have h7:=WQ Th.wt .pw ths;have h8:Th.pw.wt=5:=rfl;have h9:Mn.go.wt=19:=rfl;unfold mu phi;rw[h7,h8,h9];simp only[List.length_append,List.length_cons,List.length_nil];omega
end Go.RL.Au
namespace Go.RL
open Go.Conc
inductive gC where
 | stop
 | step (f:World->gC)
 | phase (f:View->Goroutine->gC)
inductive gC.Lt:gC->gC->Prop where
 | step (f:World->gC) (w:World):gC.Lt (f w) (.step f)
 | phase (f:View->Goroutine->gC) (H:View) (g:Goroutine):gC.Lt (f H g) (.phase f)
theorem gC.wf:WellFounded gC.Lt:=⟨fun a=> by
 induction a with
 | stop=> exact⟨_,fun y h=> by cases h⟩
 | step f ih=> exact⟨_,fun y h=> by cases h;exact ih _⟩
 | phase f ih=> exact⟨_,fun y h=> by cases h;exact ih _ _⟩⟩
def Tr {P:Program}(M:Md P)(St:View->Goroutine->Prop):gC->View->Goroutine->Prop
 | .stop,H,g=> St H g
 | .step f,H,g=> g.status=.running/\∀w,Sat H w->M.ok w->∃g' w' es H',stepG P M.main g w=.go g' w' es/\Trans H w H' w' es/\Tr M St (f w) H' g'
 | .phase f,H,g=> ∃Po,M.Ph H g Po/\∀H' g',Po H' g'->Tr M St (f H' g') H' g'
theorem T.wY {P:Program}{M:Md P}{St:View->Goroutine->Prop}{H:View}{g:Goroutine}(h:T M St H g):∃ρ,Tr M St ρ H g:=by
 refine h.ind (X:=fun H g=> ∃ρ,Tr M St ρ H g) (fun H g hs=> ⟨.stop,hs⟩) (fun H g hs=> ?_) (fun H g Po hp hk=> ?_)
 ·have:∀w,∃ρ,Sat H w->M.ok w->∃g' w' es H',stepG P M.main g w=.go g' w' es/\Trans H w H' w' es/\Tr M St ρ H' g':=fun w=> by
   by_cases hw:Sat H w/\M.ok w
   ·obtain⟨g',w',es,H',h1,h2,_,ρ,h3⟩:=hs.2 w hw.1 hw.2;exact⟨ρ,fun _ _=> ⟨g',w',es,H',h1,h2,h3⟩⟩
   ·exact⟨.stop,fun h h'=> absurd ⟨h,h'⟩ hw⟩
  obtain⟨f,hf⟩:=Classical.axiomOfChoice this;exact⟨.step f,hs.1,hf⟩
 ·have:∀x:View×Goroutine,∃ρ,Po x.1 x.2->Tr M St ρ x.1 x.2:=fun x=> by
   by_cases hx:Po x.1 x.2
   ·obtain⟨_,ρ,h3⟩:=hk _ _ hx;exact⟨ρ,fun _=> h3⟩
   ·exact⟨.stop,fun h=> absurd h hx⟩
  obtain⟨f,hf⟩:=Classical.axiomOfChoice this;exact⟨.phase fun H g=> f (H,g),Po,hp,fun H' g' h=> hf (H',g') h⟩
def Mw(P:Program)(main:Bool)(ok:World->Prop):Md P:=⟨main,ok,fun _ _ _=> False,fun _ _ _ _ h=> h.elim⟩
inductive dZ:List gC->List gC->Prop where
 | head {a b:gC} (l:List gC):gC.Lt a b->dZ (a::l) (b::l)
 | tail (a:gC) {l m:List gC}:dZ l m->dZ (a::l) (a::m)
theorem dZ.set {l:List gC}:∀ {i:Nat} {b a:gC},l[i]? =some b->gC.Lt a b->dZ (l.set i a) l:=by
 induction l with
 | nil=> intro i b a h;simp at h
 | cons x l ih=>
  intro i b a h KB;cases i with
  | zero=> simp at h;subst h;exact .head l KB
  | succ i=> exact .tail x (ih (by simpa using h) KB)
theorem dZ.wf:WellFounded dZ:=⟨fun l=> by
 induction l with
 | nil=> exact⟨_,fun y h=> by cases h⟩
 | cons a l ih=>
  induction a using gC.wf.induction generalizing l with
  | _ a iha=>
   induction ih with
   | intro l hl ihl=>
    refine⟨_,fun y h=> ?_⟩;cases h with
    | head _ KB=> exact iha _ KB l ⟨l,hl⟩
    | tail _ KB=> exact ihl _ KB⟩
end Go.RL
namespace Go.RL
open Go.Conc Go.ConcN
open Go.ConcR (stA smA rd wr mk)
open Go.ConcM (muA)
def lb:Loc->Option Nat
 | .cell a=> some a.block
 | .obj r=> some r
 | _=> none
theorem aDf {l:Loc}{b:Nat}(h:lb l=some b):l.isMemory=true:=by
 cases l <;> simp[lb] at h <;> rfl
theorem aC8 {l:Loc}(h:l.isMemory=true):∃b,lb l=some b:=by
 cases l <;> simp[Loc.isMemory] at h <;> exact⟨_,rfl⟩
def Act(base N g:Nat):Prop:=g=0\/(base<=g/\g<N)
structure TI(Mu Wg C base N hs:Nat)(H:Nat->View)(B:View)(t:Trace):Prop where
 nr:∀said,¬Race said t
 bd:∀i a b,touchAt t i=some a->lb a.loc=some b->b<hs
 kn:∀g,Act base N g->∀i a b f o,touchAt t i=some a->lb a.loc=some b->H g b=some (f,o)->(f=true\/a.write=true)->Knows t g i
 pl:∀(i:Nat) op a,t[i]? =some op->op.act.touch? =some a->a.kind=.plain->op.g<base->Knows t 0 i
 np:∀i a b,touchAt t i=some a->a.kind≠ .plain->lb a.loc=some b->(∀g,H g b=none)/\B b=none/\b≠C
 P3:∀(i:Nat) op a,t[i]? =some op->op.act.touch? =some a->a.kind≠ .plain->(a.kind=.said->op.g=0)/\(a.kind=.atomic->op.g≠0->¬t.heard i)
 sy:∀g,Act base N g->∀i a b,touchAt t i=some a->a.kind=.plain->lb a.loc=some b->b=Mu\/b=Wg->Knows t g i
 rel:∀a,NoRelease a t
 gs:∀(i:Nat) op,t[i]? =some op->op.g<N
 mem:∀i a,touchAt t i=some a->∃b,lb a.loc=some b
structure X5(Mu Wg:Nat)(H:View)(g:Nat)(t:Trace)(u:Trace):Prop where
 own:∀op∈u,op.g=g
 touch:∀op∈u,∀x,op.act.touch? =some x->(x.kind=.plain/\∃b f o,lb x.loc=some b/\H b=some (f,o)/\(x.write=true->f=true))\/ 
  (x.kind≠ .plain/\(lb x.loc=some Mu\/lb x.loc=some Wg)/\(x.kind=.said->g=0))
 deaf:g≠0->∀(i:Nat) op x,t.size<=i->(t++u)[i]? =some op->op.act.touch? =some x->x.kind=.atomic->¬(t++u).heard i
 rel:∀op∈u,∀a,op.act≠ .mark (.release a)
section
variable {Mu Wg C base N hs:Nat}{H:Nat->View}{B:View}{t u:Trace}
theorem NB {i:Nat}{a:Touch}(h:touchAt (t++u) i=some a):(i<t.size/\touchAt t i=some a)\/(t.size<=i/\∃op,op∈u/\(t++u)[i]? =some op/\op.act.touch? =some a):=by
 obtain⟨x,hx,hxa⟩:=touch_of h;rcases getElem?_append_cases hx with ⟨hi,nJ⟩|⟨hi,hxu⟩
 ·exact .inl ⟨hi,by rw[touchAt_of nJ];exact hxa⟩
 ·exact .inr ⟨hi,x,hxu,hx,hxa⟩
theorem TI.grow {g hs':Nat}{H':View}(h:TI Mu Wg C base N hs H B t)(hg:Act base N g)(hgN:g<N)(hu:X5 Mu Wg H' g t u)
  (ext:∀b f o,H' b=some (f,o)->(∃o,H g b=some (f,o))\/(f=true/\hs<=b)) (hhs:hs<=hs') (WX:∀b x,H' b=some x->b<hs') (hMu:Mu<hs) (hWg:Wg<hs)
  (Y4:∀j,j≠g->∀b o,(H' b=some (true,o)->H j b=none)/\(H j b=some (true,o)->H' b=none)) (tO:∀j,H j Mu=none/\H j Wg=none) (hB:B Mu=none/\B Wg=none) (hC:C≠Mu/\C≠Wg):
  TI Mu Wg C base N hs' (upd H g H') B (t++u):=by
 have aBn:H' Mu=none/\H' Wg=none:=by
  constructor
  ·cases hx:H' Mu with
   | none=> rfl
   | some x=>
    rcases ext Mu x.1 x.2 hx with ⟨o,ho⟩|⟨_,hle⟩
    ·rw[(tO g).1] at ho;cases ho
    ·omega
  ·cases hx:H' Wg with
   | none=> rfl
   | some x=>
    rcases ext Wg x.1 x.2 hx with ⟨o,ho⟩|⟨_,hle⟩
    ·rw[(tO g).2] at ho;cases ho
    ·omega
 have old:∀i a b f o,touchAt t i=some a->lb a.loc=some b->H' b=some (f,o)->∃o',H g b=some (f,o'):=by
  intro i a b f o ha hb hx;rcases ext b f o hx with h1|⟨_,hle⟩
  ·exact h1
  ·have:=h.bd i a b ha hb;omega
 refine⟨fun said=> ?_,?_,?_,?_,?_,?_,?_,?_,?_,?_⟩
 ·refine noRace_append (h.nr said) hu.own fun i a ha op lA b hb hc=> ?_;obtain⟨IT,VD,hwr,X7⟩:=hc;obtain⟨blk,tI⟩:=aC8 (by simpa using VD);rcases hu.touch op lA b hb with ⟨hk,blk',f,o,h1,h2,h3⟩|⟨hk,h1,h2⟩
  ·rw[IT,h1] at tI;cases tI
   obtain⟨o',h4⟩:=old i a blk f o ha (by rw[IT];exact h1) h2;have pO:a.kind=.plain:=by
    refine Classical.byContradiction fun aB=> ?_;have:=(h.np i a blk ha aB (by rw[IT];exact h1)).1 g;rw[h4] at this;cases this
   refine h.kn g hg i a blk f o' ha (by rw[IT];exact h1) h4 ?_;rcases hwr with hw|hw
   ·exact .inr hw
   ·exact .inl (h3 hw)
  ·have qO:blk=Mu\/blk=Wg:=by
    rw[<-IT] at h1;rw[tI] at h1;rcases h1 with h1|h1 <;> cases h1 <;> simp
   rcases X7 with hkp|hkp|⟨_,BN,rO⟩
   ·exact h.sy g hg i a blk ha hkp tI qO
   ·exact absurd hkp hk
   ·obtain⟨x,hx,hxa⟩:=touch_of ha;have:=(h.P3 i x a hx hxa (by rw[BN];simp)).1 BN;have h0:=h2 rO;have:=knows_own hx;rw[(h.P3 i x a hx hxa (by rw[BN];simp)).1 BN] at this;rw[h0];exact this
 ·intro i a b ha hb;rcases NB ha with ⟨hi,lI⟩|⟨hi,op,lA,_,hx⟩
  ·exact Nat.lt_of_lt_of_le (h.bd i a b lI hb) hhs
  ·rcases hu.touch op lA a hx with ⟨_,b',f,o,h1,h2,_⟩|⟨_,h1,_⟩
   ·rw[h1] at hb;cases hb
    exact WX b _ h2
   ·rw[hb] at h1;rcases h1 with h1|h1 <;> cases h1 <;> omega
 ·intro j hj i a b f o ha hb hH hw;rcases NB ha with ⟨hi,lI⟩|⟨hi,op,lA,kE,hx⟩
  ·by_cases e:j=g
   ·subst e;rw[upd_same] at hH;obtain⟨o',h4⟩:=old i a b f o lI hb hH;exact(h.kn j hj i a b f o' lI hb h4 hw).app u
   ·rw[upd_ne H H' e] at hH;exact(h.kn j hj i a b f o lI hb hH hw).app u
  ·by_cases e:j=g
   ·subst e;have:=knows_own kE
    rwa [hu.own op lA] at this
   ·rw[upd_ne H H' e] at hH;rcases hu.touch op lA a hx with ⟨_,b',f',o',h1,h2,h3⟩|⟨_,h1,_⟩
    ·rw[h1] at hb;cases hb
     rcases hw with rfl|hw
     ·rw[(Y4 j e b o).2 hH] at h2;cases h2
     ·have:=h3 hw;subst this;rw[(Y4 j e b o').1 h2] at hH;cases hH
    ·rw[hb] at h1;rcases h1 with h1|h1 <;> cases h1
     ·rw[(tO j).1] at hH;cases hH
     ·rw[(tO j).2] at hH;cases hH
 ·intro i op a lA ha hk KB;rcases getElem?_append_cases lA with ⟨hi,kE⟩|⟨hi,nD⟩
  ·exact(h.pl i op a kE ha hk KB).app u
  ·have h1:=hu.own op nD;have h2:=knows_own lA;rcases hg with rfl|⟨AU,_⟩
   ·rwa [h1] at h2
   ·omega
 ·intro i a b ha hk hb;rcases NB ha with ⟨hi,lI⟩|⟨hi,op,lA,_,hx⟩
  ·obtain⟨h1,h2⟩:=h.np i a b lI hk hb;refine⟨fun j=> ?_,h2⟩;by_cases e:j=g
   ·subst e;rw[upd_same];cases hx:H' b with
    | none=> rfl
    | some x=>
     obtain⟨o',h4⟩:=old i a b x.1 x.2 lI hb hx;rw[h1 j] at h4;cases h4
   ·rw[upd_ne H H' e];exact h1 j
  ·rcases hu.touch op lA a hx with ⟨hp,_⟩|⟨_,h1,_⟩
   ·exact absurd hp hk
   ·rw[hb] at h1;rcases h1 with h1|h1 <;> cases h1
    ·exact⟨fun j=> by by_cases e:j=g;(subst e;rw[upd_same];exact aBn.1);(rw[upd_ne H H' e];exact(tO j).1),hB.1,Ne.symm hC.1⟩
    ·exact⟨fun j=> by by_cases e:j=g;(subst e;rw[upd_same];exact aBn.2);(rw[upd_ne H H' e];exact(tO j).2),hB.2,Ne.symm hC.2⟩
 ·intro i op a lA ha hk;rcases getElem?_append_cases lA with ⟨hi,kE⟩|⟨hi,nD⟩
  ·obtain⟨h1,h2⟩:=h.P3 i op a kE ha hk;exact⟨h1,fun e e'=> by rw[heard_old hi];exact h2 e e'⟩
  ·have h1:=hu.own op nD;refine⟨fun e=> ?_,fun e e'=> hu.deaf (by rw[<-h1];exact e') i op a hi lA ha e⟩;rcases hu.touch op nD a ha with ⟨hp,_⟩|⟨_,_,h2⟩
   ·exact absurd hp hk
   ·rw[h1];exact h2 e
 ·intro j hj i a b ha hk hb BJ;rcases NB ha with ⟨hi,lI⟩|⟨hi,op,lA,_,hx⟩
  ·exact(h.sy j hj i a b lI hk hb BJ).app u
  ·rcases hu.touch op lA a hx with ⟨_,b',f,o,h1,h2,_⟩|⟨hp,_⟩
   ·rw[h1] at hb;cases hb
    rcases BJ with rfl|rfl
    ·rw[aBn.1] at h2;cases h2
    ·rw[aBn.2] at h2;cases h2
   ·exact absurd hk hp
 ·exact fun a=> (h.rel a).app fun op lA=> hu.rel op lA a
 ·intro i op lA;rcases getElem?_append_cases lA with ⟨hi,kE⟩|⟨hi,nD⟩
  ·exact h.gs i op kE
  ·rw[hu.own op nD];exact hgN
 ·intro i a ha;rcases NB ha with ⟨hi,lI⟩|⟨hi,op,lA,_,hx⟩
  ·exact h.mem i a lI
  ·rcases hu.touch op lA a hx with ⟨_,b',f,o,h1,_⟩|⟨_,h1,_⟩
   ·exact⟨_,h1⟩
   ·exact h1.elim (fun e=> ⟨_,e⟩) fun e=> ⟨_,e⟩
def Tok(C base N:Nat)(t:Trace):Prop:=
 ∀(i:Nat) op a,t[i]? =some op->op.act.touch? =some a->lb a.loc=some C->(∀g,Act base N g->Knows t g i)\/∃κ,op.g=base+κ/\a.loc=.cell ⟨C,κ,none⟩
theorem Tok.grow(h:Tok C base N t)(hu:∀op∈u,∀x,op.act.touch? =some x->lb x.loc≠some C):Tok C base N (t++u):=by
 intro i op a lA ha hb;rcases getElem?_append_cases lA with ⟨hi,kE⟩|⟨hi,nD⟩
 ·exact(h i op a kE ha hb).imp (fun h1 g hg=> (h1 g hg).app u) id
 ·exact absurd hb (hu op nD a ha)
theorem Tok.own {κ:Nat}(h:Tok C base N t)(hy:∀op∈u,op.g=base+κ)(ha:∀op∈u,∀a,op.act.touch? =some a->a.kind=.plain/\a.loc=.cell ⟨C,κ,none⟩):Tok C base N (t++u):=by
 intro i op a lA hoa hb;rcases getElem?_append_cases lA with ⟨hi,kE⟩|⟨hi,nD⟩
 ·exact(h i op a kE hoa hb).imp (fun h1 g hg=> (h1 g hg).app _) id
 ·exact .inr ⟨κ,hy op nD,(ha op nD a hoa).2⟩
theorem TI.own {κ:Nat}(h:TI Mu Wg C base N hs H B t)(ht:Tok C base N t)(hN:base+κ<N)(hy:∀op∈u,op.g=base+κ)(ha:∀op∈u,∀a,op.act.touch? =some a->a.kind=.plain/\a.loc=.cell ⟨C,κ,none⟩)(hr:∀op∈u,∀a,op.act≠ .mark (.release a))
  (hH:∀g,H g C=none) (hC:C≠Mu/\C≠Wg) (hCs:C<hs):TI Mu Wg C base N hs H B (t++u):=by
 have hlb:∀op∈u,∀a,op.act.touch? =some a->lb a.loc=some C:=fun op lA a h1=> by rw[(ha op lA a h1).2];rfl
 have new:∀ {i:Nat} {a:Touch},touchAt (t++u) i=some a->(i<t.size/\touchAt t i=some a)\/∃op∈u,op.act.touch? =some a:=by
  intro i a h1;rcases NB h1 with h2|⟨_,op,lA,_,hx⟩
  ·exact .inl h2
  ·exact .inr ⟨op,lA,hx⟩
 refine⟨fun said=> ?_,fun i a b h1 h2=> ?_,fun g hg i a b f o h1 h2 h3 h4=> ?_,fun i op a h1 h2 h3 h4=> ?_,fun i a b h1 h2 h3=> ?_,fun i op a h1 h2 h3=> ?_,fun g hg i a b h1 h2 h3 h4=> ?_,fun a=> ?_,fun i op h1=> ?_,fun i a h1=> ?_⟩
 ·refine noRace_append (h.nr said) hy fun i a h1 op lA b hb hc=> ?_;obtain⟨IT,_⟩:=hc;obtain⟨z,hz,hza⟩:=touch_of h1;have W4:a.loc=.cell ⟨C,κ,none⟩:=by rw[IT];exact(ha op lA b hb).2
  rcases ht i z a hz hza (by rw[W4];rfl) with h2|⟨κ',h2,h3⟩
  ·exact h2 _ (.inr ⟨oM,hN⟩)
  ·rw[W4] at h3;have:κ=κ':=by injection h3 with h4;injection h4
   subst this;rw[<-h2];exact knows_own hz
 ·rcases new h1 with ⟨_,h3⟩|⟨op,lA,h3⟩
  ·exact h.bd i a b h3 h2
  ·rw[hlb op lA a h3] at h2;cases h2;exact hCs
 ·rcases new h1 with ⟨_,h5⟩|⟨op,lA,h5⟩
  ·exact(h.kn g hg i a b f o h5 h2 h3 h4).app _
  ·rw[hlb op lA a h5] at h2;cases h2;rw[hH g] at h3;cases h3
 ·rcases getElem?_append_cases h1 with ⟨_,h5⟩|⟨_,h5⟩
  ·exact(h.pl i op a h5 h2 h3 h4).app _
  ·have:=hy op h5;omega
 ·rcases new h1 with ⟨_,h5⟩|⟨op,lA,h5⟩
  ·exact h.np i a b h5 h2 h3
  ·exact absurd (ha op lA a h5).1 h2
 ·rcases getElem?_append_cases h1 with ⟨hi,h5⟩|⟨_,h5⟩
  ·obtain⟨h6,h7⟩:=h.P3 i op a h5 h2 h3;exact⟨h6,fun e e'=> by rw[heard_old hi];exact h7 e e'⟩
  ·exact absurd (ha op h5 a h2).1 h3
 ·rcases new h1 with ⟨_,h5⟩|⟨op,lA,h5⟩
  ·exact(h.sy g hg i a b h5 h2 h3 h4).app _
  ·rw[hlb op lA a h5] at h3;cases h3
   rcases h4 with h4|h4
   ·exact absurd h4 hC.1
   ·exact absurd h4 hC.2
 ·exact(h.rel a).app fun op lA=> hr op lA a
 ·rcases getElem?_append_cases h1 with ⟨_,h2⟩|⟨_,h2⟩
  ·exact h.gs i op h2
  ·rw[hy op h2];exact hN
 ·rcases new h1 with ⟨_,h5⟩|⟨op,lA,h5⟩
  ·exact h.mem i a h5
  ·exact⟨C,hlb op lA a h5⟩
theorem TI.fork {x y:MemOp}(h:TI Mu Wg C base N hs H B t)(hx:x.g=0/\x.act=.go N)(hy:y.g=N/\y.act=.start)(h0:Deaf t 0=0)(hbN:base<=N)(hN:0<N){R:View}
  (hR:∀b f o,R b=some (f,o)->f=false/\∃f',H 0 b=some (f',o)) (hHN:∀b,H N b=none):TI Mu Wg C base (N+1) hs (upd (upd H 0 R) N R) B (t ++ #[x,y]):=by
 have hkN:Deaf t N=0:=Deaf_absent fun i op hi e=> by have:=h.gs i op hi;omega
 have oL:∀op∈#[x,y],∀b,op.act.touch? =some b->False:=by
  intro op lA b hb;simp only[List.mem_toArray,List.mem_cons,List.not_mem_nil,or_false] at lA;rcases lA with rfl|rfl
  ·rw[hx.2] at hb;cases hb
  ·rw[hy.2] at hb;cases hb
 have old:∀ {i:Nat} {a:Touch},touchAt (t ++ #[x,y]) i=some a->touchAt t i=some a/\i<t.size:=by
  intro i a ha;rcases NB ha with ⟨hi,lI⟩|⟨hi,op,lA,_,hxx⟩
  ·exact⟨lI,hi⟩
  ·exact(oL op lA a hxx).elim
 have oldop:∀ {i:Nat} {op:MemOp} {a:Touch},(t ++ #[x,y])[i]? =some op->op.act.touch? =some a->t[i]? =some op/\i<t.size:=by
  intro i op a lA ha;rcases getElem?_append_cases lA with ⟨hi,kE⟩|⟨hi,nD⟩
  ·exact⟨kE,hi⟩
  ·exact(oL op nD a ha).elim
 have a0:Act base N 0:=.inl rfl;refine⟨fun said=> ?_,fun i a b ha hb=> h.bd i a b (old ha).1 hb,?_,?_,?_,?_,?_,?_,?_,fun i a ha=> h.mem i a (old ha).1⟩
 ·have e:t ++ #[x,y]=(t ++ #[x]) ++ #[y]:=by apply Array.ext';simp
  rw[e];refine noRace_append (g:=N) (noRace_append (g:=0) (h.nr said) (fun op lA=> by simp at lA;rw[lA];exact hx.1) (fun i a _ op lA b hb _=> (oL op (by simp at lA ⊢;exact .inl lA) b hb).elim))
   (fun op lA=> by simp at lA;rw[lA];exact hy.1) (fun i a _ op lA b hb _=> (oL op (by simp at lA ⊢;exact .inr lA) b hb).elim)
 ·intro j hj i a b f o ha hb hH hw;by_cases e:j=N
  ·subst e;rw[upd_same] at hH;obtain⟨rfl,f',h1⟩:=hR b f o hH;exact fork_knows hx hy h0 hkN (h.kn 0 a0 i a b f' o (old ha).1 hb h1 (hw.elim (fun e=> by cases e) .inr))
  ·rw[upd_ne _ R e] at hH;have FV:Act base N j:=hj.imp id fun⟨h1,h2⟩=> ⟨h1,oM⟩
   by_cases e0:j=0
   ·subst e0;rw[upd_same] at hH;obtain⟨rfl,f',h1⟩:=hR b f o hH;exact(h.kn 0 a0 i a b f' o (old ha).1 hb h1 (hw.elim (fun e=> by cases e) .inr)).app _
   ·rw[upd_ne _ R e0] at hH;exact(h.kn j FV i a b f o (old ha).1 hb hH hw).app _
 ·exact fun i op a lA ha hk KB=> (h.pl i op a (oldop lA ha).1 ha hk KB).app _
 ·intro i a b ha hk hb;obtain⟨h1,h2⟩:=h.np i a b (old ha).1 hk hb;have hRb:R b=none:=by
   cases hx:R b with
   | none=> rfl
   | some z=>
    obtain⟨_,f',h3⟩:=hR b z.1 z.2 hx;rw[h1 0] at h3;cases h3
  refine⟨fun j=> ?_,h2⟩;by_cases e:j=N
  ·subst e;rw[upd_same];exact hRb
  ·rw[upd_ne _ R e];by_cases e0:j=0
   ·subst e0;rw[upd_same];exact hRb
   ·rw[upd_ne _ R e0];exact h1 j
 ·intro i op a lA ha hk;obtain⟨h3,hi⟩:=oldop lA ha;obtain⟨h1,h2⟩:=h.P3 i op a h3 ha hk;exact⟨h1,fun e e'=> by rw[heard_old hi];exact h2 e e'⟩
 ·intro j hj i a b ha hk hb BJ;by_cases e:j=N
  ·subst e;exact fork_knows hx hy h0 hkN (h.sy 0 a0 i a b (old ha).1 hk hb BJ)
  ·exact(h.sy j (hj.imp id fun⟨h1,h2⟩=> ⟨h1,oM⟩) i a b (old ha).1 hk hb BJ).app _
 ·refine fun a=> (h.rel a).app fun op lA e=> ?_;simp only[List.mem_toArray,List.mem_cons,List.not_mem_nil,or_false] at lA;rcases lA with rfl|rfl
  ·rw[hx.2] at e;cases e
  ·rw[hy.2] at e;cases e
 ·intro i op lA;rcases getElem?_append_cases lA with ⟨hi,kE⟩|⟨hi,nD⟩
  ·have:=h.gs i op kE;omega
  ·simp only[List.mem_toArray,List.mem_cons,List.not_mem_nil,or_false] at nD;rcases nD with rfl|rfl
   ·rw[hx.1];omega
   ·rw[hy.1];omega
theorem Tok.fork {x y:MemOp}(h:Tok C base N t)(hgs:∀(i:Nat) op,t[i]? =some op->op.g<N)(hx:x.g=0/\x.act=.go N)(hy:y.g=N/\y.act=.start)(h0:Deaf t 0=0):Tok C base (N+1) (t ++ #[x,y]):=by
 have hkN:Deaf t N=0:=Deaf_absent fun i op hi e=> by have:=hgs i op hi;omega
 intro i op a lA ha hb;rcases getElem?_append_cases lA with ⟨hi,kE⟩|⟨_,nD⟩
 ·refine(h i op a kE ha hb).imp (fun h1 g hg=> ?_) id;by_cases e:g=N
  ·subst e;exact fork_knows hx hy h0 hkN (h1 0 (.inl rfl))
  ·exact(h1 g (hg.imp id fun⟨h1,h2⟩=> ⟨h1,oM⟩)).app _
 ·simp only[List.mem_toArray,List.mem_cons,List.not_mem_nil,or_false] at nD;rcases nD with rfl|rfl
  ·rw[hx.2] at ha;cases ha
  ·rw[hy.2] at ha;cases ha
theorem TI.join {y:MemOp}(h:TI Mu Wg C base N hs H B t)(hy:y.g=0/\y.act=.mark (.acquire (stA Wg)))(hd:Deaf t 0=0)(aHe:∀g,base<=g->g<N->∃r,RelBy (stA Wg) t g r):
  ∀i a,touchAt (t ++ #[y]) i=some a->a.kind=.plain->Knows (t ++ #[y]) 0 i:=by
 intro i a ha hk;rcases NB ha with ⟨hi,lI⟩|⟨hi,op,lA,_,hx⟩
 ·obtain⟨x,hx,hxa⟩:=touch_of lI;rcases Nat.lt_or_ge x.g base with KB|AU
  ·exact(h.pl i x a hx hxa hk KB).app _
  ·obtain⟨r,hr⟩:=aHe x.g AU (h.gs i x hx);have hrl:=lt_of_act? hr.act;have hc:t.counts i:=by
    refine⟨a,lI,?_,.inl (by rw[hk];simp)⟩;obtain⟨b,hb⟩:=h.mem i a lI;exact aDf hb
   have hle:i<=r:=Nat.le_of_not_lt fun KB=> hr.after i KB (by simp[Trace.g?,hx]) hc;have kM:(t ++ #[y])[t.size]? =some y:=by rw[Array.getElem?_append_right (Nat.le_refl _)];simp
   have hh:(t ++ #[y]).heard t.size:=⟨0,by simp[Trace.g?,hy.1],by rw[deaf_old (Nat.le_refl _)];exact hd⟩
   have edge:HappensBefore (t ++ #[y]) r t.size:=.single (.inr ⟨.marked (a:=stA Wg) hrl (.inr (by rw[act?_old hrl];exact hr.act)) (by rw[act?_of kM,hy.2]) (fun k h4 h5=> by rw[act?_old h5];exact h.rel _ k),(heard_old hrl).2 hr.heard,hh⟩);have SX:Before (t ++ #[y]) i r:=by
    rcases Nat.lt_or_ge i r with h1|h1
    ·obtain⟨z,hz,hzg⟩:=Option.map_eq_some_iff.1 hr.g;exact .inr (hb_po h1 (by rw[getElem?_append_old hi];exact hx) (by rw[getElem?_append_old hrl];exact hz) hzg.symm)
    ·exact .inl oM
   exact⟨t.size,y,kM,hy.1,.inr (SX.hb edge)⟩
 ·simp at lA
  subst lA;rw[hy.2] at hx;cases hx
end
end Go.RL
namespace Go.RL
open Go.Conc Go.ConcN Go.RL.Au
open Go.ConcR (stA smA rd wr mk)
open Go.ConcM (muA OsLater)
structure Fk where
 n:Nat
 Wg:Nat
 C:Nat
 tW:TypeId
 GI:(Nat->Bool)->Obj->Prop
def Fk.SW(X:Fk)(s:Sh):Obj:=.cells ⟨[.int .u64 ((s.c*4294967296+s.w:Nat):Int),.int .u32 s.q]⟩ X.tW (0,0)
structure ShAt(X:Fk)(w:World)(s:Sh):Prop where
 wg:w.heap[X.Wg]? =some (X.SW s)
def Fk.ok(X:Fk)(w:World):Prop:=X.C<w.heap.size/\∃s,ShAt X w s
abbrev T4:=Os×Array (Nat×ByteArray)
def ZY(o:T4)(w:World):Prop:=w.os=o.1/\w.output=o.2
theorem ZY.refl(w:World):ZY (w.os,w.output) w:=⟨rfl,rfl⟩
theorem ZY.trans {o:T4}{w w':World}(h:ZY o w)(k:ZY (w.os,w.output) w'):ZY o w':=⟨k.1.trans h.1,k.2.trans h.2⟩
structure KJ(X:Fk)(w w':World)(s':Sh):Prop where
 os:ZY (w.os,w.output) w'
 size:w'.heap.size=w.heap.size
 rest:∀b,b≠X.Wg->w'.heap[b]? =w.heap[b]?
 sh:ShAt X w' s'
def Sy(X:Fk)(e:Event):Prop:=∃a wr,e=⟨.cell a,wr,true⟩/\a.block=X.Wg
structure ED(X:Fk)(d d':Nat)(es:Array Event):Prop where
 ev:∀(j:Nat) e,es[j]? =some e->e.mute=true\/(Sy X e/\0<deafBehind d (es.extract 0 j))
 net:deafBehind d es=d'
def Au.Th.deaf:Th->Nat
 | .pw | .wr | .wk=> 0
 | _=> 1
def Au.Th.vY:Th->Bool
 | .d4=> true
 | _=> false
def Au.Th.did:Th->Bool
 | .pw=> false
 | _=> true
def Au.Th.mute:Th->Bool
 | .wk | .wi | .d1 | .d2 | .d3 | .d4 | .quit=> true
 | _=> false
def Au.Th.plain:Th->Bool
 | .pw | .wr | .quit=> false
 | _=> true
def Au.Mn.deaf:Mn->Nat
 | .kd | .go | .wd | .aq | .ret=> 0
 | _=> 1
def Au.Mn.plain:Mn->Bool
 | .kr | .go | .wm | .aq | .ret=> false
 | _=> true
def bV(D:Nat->Bool)(κ:Nat):Nat->Bool:=fun i=> D i||i==κ
def Qt(P:Program)(K:Goroutine->Prop):Nat->Goroutine->Prop
 | 0,g=> K g
 | n+1,g=> g.status=.running/\∃g',(∀w,stepG P false g w=.go g' w #[])/\Qt P K n g'
structure aEU(X:Fk)(κ:Nat)(w w':World)(o':Obj)(es:Array Event):Prop where
 os:ZY (w.os,w.output) w'
 size:w'.heap.size=w.heap.size
 rest:∀b,b≠X.C->w'.heap[b]? =w.heap[b]?
 at_:w'.heap[X.C]? =some o'
 ev:∀e∈es,e=⟨.cell ⟨X.C,κ,none⟩,true,false⟩
def WS (P:Program)(X:Fk)(κ:Nat):Nat->Th->View->Goroutine->Prop
 | 0,_,_,_=> True
 | k + 1,t,H,g=> (g.status=.running/\g.offers=none)/\
  (t=.pw->∀D o,D κ=false->X.GI D o->∀w,Sat H w->w.heap[X.C]? =some o->∃g' w' o' es,stepG P false g w=.go g' w' es/\aEU X κ w w' o' es/\X.GI (bV D κ) o'/\T (Mw P false X.ok) (WS P X κ k .wr) H g')/\
  (t=.wr->∀w,Sat H w->∃g',stepG P false g w=.go g' w #[mk (.releaseMerge (stA X.Wg))]/\∃n,Qt P (WS P X κ k .wk H) n g')/\
  (t=.quit->False)/\
  (t.plain=true->∀w s,Sat H w->ShAt X w s->t.ok s->s.fits-> 
   ∃ t' s' g' w' es,(t',s')∈t.mv s/\stepG P false g w=.go g' w' es/\KJ X w w' s'/\ED X t.deaf t'.deaf es/\(t.vY=true->mayWake P g=true)/\g'.status=.running/\
    (t'=.quit->∃q,QuitsD P q 1 g')/\(t'≠ .quit->t'.mute=true->∃n,Qt P (WS P X κ k t' H) n g')/\(t'.mute=false->T (Mw P false X.ok) (WS P X κ k t') H g'))
def ro(H:View):View:=fun b=> (H b).map fun x=> (false,x.2)
def MS(P:Program)(X:Fk)(Fin:Goroutine->Prop):Nat->Mn->Nat->View->Goroutine->Prop
 | 0,_,_,_,_=> True
 | k + 1,m,j,H,g=> (g.status=.running/\g.offers=none)/\
  (m=.go->∀w,Sat H w->∃g' ch,stepG P true g w=.spawn g' ch w #[]/\T (Mw P true X.ok) (MS P X Fin k (if j+1<X.n then .kd else .wd) (j+1)) (ro H) g'/\T (Mw P false X.ok) (WS P X j k .pw) (ro H) ch)/\
  (m=.kr->∀w,Sat H w->∃g',stepG P true g w=.go g' w #[mk (.read (smA X.Wg))]/\T (Mw P true X.ok) (MS P X Fin k .ke j) H g')/\
  (m=.wm->∀w,Sat H w->∃g',stepG P true g w=.go g' w #[mk (.write (smA X.Wg))]/\T (Mw P true X.ok) (MS P X Fin k .ws j) H g')/\
  (m=.aq->∀w,Sat H w->∃g',stepG P true g w=.go g' w #[mk (.acquire (stA X.Wg))]/\Fin g')/\
  (m=.ret->False)/\
  (m.plain=true->∀w s,Sat H w->ShAt X w s->m.ok s->s.fits-> 
   (m.mv s= []/\stepG P true g w=.go { g with status:=.blocked } w #[])\/ 
   ∃m' s' g' w' es,(m',s')∈m.mv s/\stepG P true g w=.go g' w' es/\KJ X w w' s'/\ED X m.deaf m'.deaf es/\T (Mw P true X.ok) (MS P X Fin k m' j) H g')
def aB4(P:Program)(H:View)(g:Goroutine)(Po:View->Goroutine->Prop):Prop:=
 ∃ (X:Fk) (Fin:Goroutine->Prop) (H₁:View) (o:Obj),X.n<=6/\X.Wg≠X.C/\(H₁ X.Wg=none/\H₁ X.C=none)/\
  H=(H₁.put X.C (true,o)).put X.Wg (true,X.SW ⟨0,0,0⟩)/\X.GI (fun _=> false) o/\
  (∀k,T (Mw P true X.ok) (MS P X Fin k (if 0<X.n then .kd else .wd) 0) (ro H₁) g)/\∀o' g',X.GI (fun i=> decide (i<X.n)) o'->Fin g'->Po (H₁.put X.C (true,o')) g'
def Ph(P:Program)(H:View)(g:Goroutine)(Po:View->Goroutine->Prop):Prop:=
 ∃H₁ F Po₁,Dj H₁ F/\H=H₁.plus F/\aB4 P H₁ g Po₁/\∀H' g',Dj H' F->Po₁ H' g'->Po (H'.plus F) g'
theorem JQ(A B C:View):(A.plus B).plus C=A.plus (B.plus C):=by
 funext b
 unfold View.plus;cases A b <;> rfl
theorem Ph.frame {P:Program}{H:View}{g:Goroutine}{Po:View->Goroutine->Prop}{F:View}(h:Ph P H g Po)(hd:Dj H F):Ph P (H.plus F) g fun H'' g'=> ∃H',H''=H'.plus F/\Dj H' F/\Po H' g':=by
 obtain⟨H₁,F₁,Po₁,h1,rfl,h2,h3⟩:=h;refine⟨H₁,F₁.plus F,Po₁,fun b x hb=> ?_,(JQ _ _ _),h2,fun H' g' nL hp=> ⟨H'.plus F₁,(JQ _ _ _).symm,fun b x hb=> ?_,h3 H' g' (fun b x hb=> nL b x (fB hb)) hp⟩⟩
 ·unfold View.plus at hb;split at hb
  ·rename_i y hy
   exact h1 b y hy
  ·exact(MN (hd b x hb)).1
 ·have hF:=MN (hd b x hb);rw[show(H'.plus F₁) b=F₁ b from cC (nL b x (by rw[cC hF.2];exact hb)),hF.2]
def Mp(P:Program):Md P:=⟨true,fun _=> True,Ph P,fun _ _ _ _ h hd=> h.frame hd⟩
structure VI(X:Fk)(H:Nat->View)(B:View)(w:World):Prop where
 sat:∀g,Sat (H g) w
 dj:∀g g',g≠g'->∀b o,H g b=some (true,o)->H g' b=none
 sh:∀g,H g X.Wg=none
 bs:Sat B w
 bd:∀g b x o,B b=some x->H g b≠some (true,o)
 bn:B X.Wg=none/\B X.C=none
section
variable {X:Fk}{H:Nat->View}{B:View}{w w':World}
theorem VI.at(h:VI X H B w)(d:Nat):VI X H B (w.at d):=⟨h.sat,h.dj,h.sh,h.bs,h.bd,h.bn⟩
theorem VI.step {g:Nat}{H':View}{es:Array Event}(h:VI X H B w)(ht:Trans (H g) w H' w' es)(hWg:X.Wg<w.heap.size):VI X (upd H g H') B w':=by
 have hn:∀b,b<w.heap.size->H g b=none->H' b=none:=fun b hb h0=> by
  cases hx:H' b with
  | none=> rfl
  | some x=>
   rcases ht.ext b x.1 x.2 hx with ⟨o,ho⟩|⟨_,hle⟩
   ·rw[h0] at ho;cases ho
   ·omega
 refine⟨fun j=> ?_,fun i j CU b o hi=> ?_,fun j=> ?_,fun b f o hb=> ?_,fun j b x o hb hj=> ?_,h.bn⟩
 ·by_cases e:j=g
  ·subst e;rw[upd_same];exact ht.sat
  ·rw[upd_ne H H' e];intro b f o hb;rw[ht.TE b ((h.sat j).lt hb) fun o' ho=> by rw[h.dj g j (Ne.symm e) b o' ho] at hb;cases hb];exact h.sat j b f o hb
 ·by_cases e:i=g
  ·subst e;rw[upd_same] at hi;rw[upd_ne H H' (Ne.symm CU)];rcases ht.ext b true o hi with ⟨o',ho⟩|⟨_,hle⟩
   ·exact h.dj i j CU b o' ho
   ·cases hx:H j b with
    | none=> rfl
    | some x=> have:=(h.sat j).lt hx;omega
  ·rw[upd_ne H H' e] at hi;by_cases e':j=g
   ·subst e';rw[upd_same];exact hn b ((h.sat i).lt hi) (h.dj i j CU b o hi)
   ·rw[upd_ne H H' e'];exact h.dj i j CU b o hi
 ·by_cases e:j=g
  ·subst e;rw[upd_same];exact hn _ hWg (h.sh j)
  ·rw[upd_ne H H' e];exact h.sh j
 ·rw[ht.TE b (h.bs.lt hb) fun o' ho=> h.bd g b _ o' hb ho];exact h.bs b f o hb
 ·by_cases e:j=g
  ·subst e;rw[upd_same] at hj;rcases ht.ext b true o hj with ⟨o',ho⟩|⟨_,hle⟩
   ·exact h.bd j b x o' hb ho
   ·have:=h.bs.lt hb;omega
  ·rw[upd_ne H H' e] at hj;exact h.bd j b x o hb hj
theorem Sat.dJ {H:View}{s':Sh}(h:Sat H w)(ht:KJ X w w' s')(h1:H X.Wg=none):Sat H w':=fun b f o hb=> by
 rw[ht.rest b (by rintro rfl;rw[h1] at hb;cases hb)];exact h b f o hb
theorem VI.dJ {s':Sh}(h:VI X H B w)(ht:KJ X w w' s'):VI X H B w':=
 ⟨fun g=> (h.sat g).dJ ht (h.sh g),h.dj,h.sh,h.bs.dJ ht h.bn.1,h.bd,h.bn⟩
end
section
variable {X:Fk}
theorem BZ {H:View}{g:Nat}{fn:FuncId}{pos:String}{es:Array Event}{t:Trace}(h:∀e∈es,dN H e):X5 X.Wg X.Wg H g t (MemOp.ofEvents g fn pos es)/\∀op∈MemOp.ofEvents g fn pos es,op.act≠ .mark .disable/\op.act≠ .mark .enable:=by
 rw[ofEvents_eq];have key :∀op∈es.map (fun e=> ({ g,fn,pos,act:=.ofEvent e }:MemOp)),op.g=g/\(∀x,op.act.touch? =some x->x.kind=.plain/\∃b f o,lb x.loc=some b/\H b=some (f,o)/\(x.write=true->f=true))/\(∀a,op.act≠ .mark (.release a))/\op.act≠ .mark .disable/\op.act≠ .mark .enable:=by
   intro op lA;obtain⟨e,he,rfl⟩:=Array.mem_map.1 lA;have hk:=h e he;obtain⟨loc,wr,sy⟩:=e;unfold dN at hk;cases loc with
   | cell a=>
     obtain⟨hs,f,o,h1,h2⟩:=hk;simp only at hs h2;subst hs;refine⟨rfl,fun x hx=> ?_,fun _ hh=> ?_,fun hh=> ?_,fun hh=> ?_⟩
     · cases wr <;> simp[MemAct.ofEvent,MemAct.touch?] at hx <;> subst hx <;> exact⟨rfl,_,f,o,rfl,h1,h2⟩
     all_goals cases wr <;> simp[MemAct.ofEvent] at hh
   | obj r=>
     obtain⟨hs,f,o,h1,h2⟩:=hk;simp only at hs h2;subst hs;refine⟨rfl,fun x hx=> ?_,fun _ hh=> ?_,fun hh=> ?_,fun hh=> ?_⟩
     · cases wr <;> simp[MemAct.ofEvent,MemAct.touch?] at hx <;> subst hx <;> exact⟨rfl,_,f,o,rfl,h1,h2⟩
     all_goals cases wr <;> simp[MemAct.ofEvent] at hh
   | mark m=>
     obtain⟨h0,h1,h2⟩:=hk;cases m <;> first
       | (simp[cU] at h0;done)
       | (simp only at h1 h2
          subst h1 h2;exact⟨rfl,fun x hx=> by simp[MemAct.ofEvent,MemAct.touch?] at hx,fun a hh=> by simp[MemAct.ofEvent] at hh,fun hh=> by simp[MemAct.ofEvent] at hh,fun hh=> by simp[MemAct.ofEvent] at hh⟩)
   | _=> exact hk.elim
 refine⟨⟨fun op lA=> (key op lA).1,fun op lA x hx=> .inl ((key op lA).2.1 x hx),fun _ i op x hi lA hx hk=> ?_,fun op lA=> (key op lA).2.2.1⟩,fun op lA=> (key op lA).2.2.2⟩;rcases getElem?_append_cases lA with ⟨KB,_⟩|⟨_,nD⟩
 · omega
 · rw[((key op nD).2.1 x hx).1] at hk;cases hk
theorem xW {H:View}{g d':Nat}{fn:FuncId}{pos:String}{es:Array Event}{t:Trace}(h:ED X (Deaf t g) d' es):X5 X.Wg X.Wg H g t (MemOp.ofEvents g fn pos es)/\∀op∈MemOp.ofEvents g fn pos es,∀x,op.act.touch? =some x->lb x.loc=some X.Wg:=by
 have ops:=ofEvents_eq g fn pos es;have one:∀e,(e.mute=true\/Sy X e)->(∀x,(MemAct.ofEvent e).touch? =some x->x.kind=.atomic/\(lb x.loc=some X.Wg))/\∀a,MemAct.ofEvent e≠ .mark (.release a):=by
  rintro e (he|⟨a,wr,rfl,ha⟩)
  ·obtain⟨loc,wr,sy⟩:=e;cases loc with
   | mark m=> cases m <;> simp[Event.mute] at he <;> simp[MemAct.ofEvent,MemAct.touch?]
   | _=> simp[Event.mute] at he
  ·refine⟨fun x hx=> ?_,fun b hh=> ?_⟩
   ·have:x=⟨.cell a,wr,.atomic⟩:=by cases wr <;> simp[MemAct.ofEvent,MemAct.touch?] at hx <;> exact hx.symm
    subst this;exact⟨rfl,by simp[lb,ha]⟩
   ·cases wr <;> simp[MemAct.ofEvent] at hh
 have all:∀e∈es,e.mute=true\/Sy X e:=fun e he=> by
  obtain⟨j,hj,rfl⟩:=Array.mem_iff_getElem.1 he;exact(h.ev j _ (Array.getElem?_eq_getElem hj)).imp id And.left
 have key:∀op∈MemOp.ofEvents g fn pos es,op.g=g/\(∀x,op.act.touch? =some x->x.kind=.atomic/\(lb x.loc=some X.Wg))/\∀a,op.act≠ .mark (.release a):=by
  rw[ops];intro op lA;obtain⟨e,he,rfl⟩:=Array.mem_map.1 lA;exact⟨rfl,one e (all e he)⟩
 refine⟨⟨fun op lA=> (key op lA).1,fun op lA x hx=> .inr ⟨by rw[((key op lA).2.1 x hx).1];simp,.inl ((key op lA).2.1 x hx).2,fun e=> by rw[((key op lA).2.1 x hx).1] at e;cases e⟩,fun _ i op x hi lA hx hk=> ?_,fun op lA=> (key op lA).2.2⟩,fun op lA x hx=> ((key op lA).2.1 x hx).2⟩;rintro⟨g',hg',QJ⟩;have hj:(MemOp.ofEvents g fn pos es)[i-t.size]? =some op:=by
  rw[Array.getElem?_append] at lA;simpa [Nat.not_lt.2 hi] using lA
 rw[ops,Array.getElem?_map] at hj;obtain⟨e,he,rfl⟩:=Option.map_eq_some_iff.1 hj;have hjs:i-t.size<=es.size:=by
  rcases Nat.lt_or_ge (i-t.size) es.size with h'|h'
  ·omega
  ·rw[Array.getElem?_eq_none h'] at he;cases he
 have hg1:g'=g:=by simp[Trace.g?,lA] at hg';exact hg'.symm
 subst hg1;have aG4:=deaf_inside t g' fn pos es (i-t.size) hjs;rw[show t.size+(i-t.size)=i by omega,QJ] at aG4;rcases h.ev _ e he with hm|⟨_,hd⟩
 ·obtain⟨loc,wr,sy⟩:=e;cases loc with
  | mark m=> cases m <;> simp[Event.mute] at hm <;> simp[MemAct.ofEvent,MemAct.touch?] at hx
  | _=> simp[Event.mute] at hm
 ·omega
theorem XT {H:View}{g:Nat}{fn:FuncId}{pos:String}{m:Mark}{t:Trace}(h1:∀x,(MemAct.mark m).touch? =some x->g=0/\x.kind=.said/\lb x.loc=some X.Wg)(h2:∀a,m≠ .release a):X5 X.Wg X.Wg H g t (MemOp.ofEvents g fn pos #[mk m]):=by
 have e1:MemOp.ofEvents g fn pos #[mk m]=#[{ g,fn,pos,act:=.mark m }]:=by
  rw[ofEvents_eq];simp[Go.ConcR.ofEvent_mk]
 rw[e1];refine⟨fun op lA=> by simp at lA;rw[lA],fun op lA x hx=> ?_,fun hg i op x hi lA hx hk=> ?_,fun op lA a hh=> ?_⟩
 ·simp at lA
  subst lA;obtain⟨h3,h4,h5⟩:=h1 x hx;exact .inr ⟨by rw[h4];simp,.inr h5,fun _=> h3⟩
 ·rcases getElem?_append_cases lA with ⟨KB,_⟩|⟨_,nD⟩
  ·omega
  ·simp at nD
   subst nD;exact absurd (h1 x hx).1 hg
 ·simp at lA
  subst lA;simp at hh
  exact h2 a hh
end
end Go.RL
namespace Go.RL
open Go.Conc Go.ConcN Go.RL.Au
open Go.ConcR (stA smA)
open Go.ConcM (muA msA OsLater)
def gU {α:Type}(P:Program)(sh:Nat->Option (TypeId×Nat)):Sem α->(α->Prop)->Prop
 | .pure a,Q=> Q a
 | .program k,Q=> gU P sh (k P) Q
 | .shape r k,Q=> ∃x,sh r=some x/\gU P sh (k (some x)) Q
 | _,_=> False
section
variable {P:Program}{sh:Nat->Option (TypeId×Nat)}
theorem xS {α:Type}(s:Sem α):∀ {Q:α->Prop},gU P sh s Q->∃a,Q a/\∀w es,(∀r x,sh r=some x->w.shape? r=some x)->s.runT P w es=(.ok a w,es):=by
 induction s with
 | pure a=> exact fun h=> ⟨a,h,fun w es _=> rfl⟩
 | program k ih=> exact fun h=> let ⟨a,h1,h2⟩:=ih P h;⟨a,h1,fun w es hs=> by simp only[Sem.runT];exact h2 w es hs⟩
 | shape r k ih=> exact fun⟨x,hx,h⟩=> let ⟨a,h1,h2⟩:=ih _ h;⟨a,h1,fun w es hs=> by simp only[Sem.runT];rw[hs r x hx];exact h2 w es hs⟩
 | _=> exact fun h=> h.elim
theorem iC {α β:Type}(s:Sem α)(k:α->Sem β){Q:β->Prop}:gU P sh s (fun a=> gU P sh (k a) Q)->gU P sh (s.bind k) Q:=by
 induction s with
 | pure a=> exact fun h=> h
 | program c ih=> exact fun h=> ih P h
 | shape r c ih=> exact fun⟨x,hx,h⟩=> ⟨x,hx,ih _ h⟩
 | _=> exact fun h=> h.elim
theorem MC {t:TypeId}{d:TypeDesc}{Q:TypeDesc->Prop}(hd:P.underlying t=some d)(h:Q d):gU P sh (underlying t) Q:=by
 show gU P sh (match P.underlying t with|some d=> _|none=> _) Q;rw[hd];exact h
theorem zL {t:TypeId}{n:Nat}{Q:Nat->Prop}(hn:(P.info? t).map (·.size)=some n)(h:Q n):gU P sh (sizeOf t) Q:=by
 cases hi:P.info? t with
 | none=> rw[hi] at hn;cases hn
 | some i=>
  rw[hi] at hn;cases hn
  refine iC (typeInfo t) _ ?_;show gU P sh (match P.info? t with|some i=> _|none=> _) _;rw[hi];exact h
end
def O3:Nat->Option (TypeId×Nat):=fun _=> none
section
variable {P:Program}{main:Bool}{b:FB}{tmps:Array Value}{ds:List Deferred}{cs:List Frame}{o:Oper}{w w':World}{v:Value}{es:Array Event}
def Yields(P:Program)(main:Bool)(b:FB)(tmps:Array Value)(ds:List Deferred)(cs:List Frame)(o:Oper)(w:World)(v:Value)(w':World)(es:Array Event):Prop:=
 ∀(arr:Array Oper) (i:Nat) (r:List Nat) (k:List Item),arr[i]? =some o->Region.wanted o (yielded arr tmps)=true->stepG P main (G (b.at tmps ds (.inRegion arr (i::r)::k)) cs) w=.go (G (b.at (HB tmps o.dst v) ds (.inRegion arr r::k)) cs) w' es
def kX(P:Program)(main:Bool)(b:FB)(tmps:Array Value)(ds:List Deferred)(cs:List Frame)(o:Oper)(w:World):Prop:=
 ∀(arr:Array Oper) (i:Nat) (r:List Nat) (k:List Item),arr[i]? =some o->Region.wanted o (yielded arr tmps)=true->stepG P main (G (b.at tmps ds (.inRegion arr (i::r)::k)) cs) w=.go { G (b.at tmps ds (.inRegion arr (i::r)::k)) cs with status:=.blocked } w #[]
def kf(b:FB):Frame:= { (default:Frame) with fn:=b.fn,kind:=b.kind }
theorem FB.kit(h:b.rd=none)(todo:List Item):b.at tmps ds todo=(kf b).at ⟨tmps,ds⟩ todo:=by
 simp[FB.at,Frame.at,kf,h]
theorem QT(h:b.rd=none)(todo:List Item)(d:Option Tmp):(kf b).at ((⟨tmps,ds⟩:Go.Act).put d v) todo=b.at (HB tmps d v) ds todo:=by
 cases d <;> simp[FB.at,Frame.at,kf,h,Go.Act.put,HB]
def v9:Loc->Bool
 | .cell _=> true
 | .mark (.acquire _) | .mark (.releaseMerge _) | .mark .disable | .mark .enable | .mark (.read _) | .mark (.write _)=> true
 | _=> false
def Told(e:Event):Prop:=e.sync=true/\v9 e.loc=true
structure mI(P:Program)(f:FuncId)(e:Array Value->Sem Value):Prop where
 ex:∃fn,P.funcs[f]? =some fn/\(fn.name== "runtime.NumGoroutine")=false/\fn.body.isNone=true/\Extern.findNext fn=none/\Extern.find fn=some e
structure JI(o:Oper)(f:FuncId)(az:List Operand):Prop where
 ex:∃ats,o.op=.call { callee:=.value (.func f),args:=az.toArray,argTypes:=ats }
theorem Yields.entry {f:FuncId}{e:Array Value->Sem Value}{az:List Operand}{vs:List Value}(he:mI P f e)(ho:JI o f az)(hb:b.rd=none)(hk:b.kind≠ .early)(ha:az.map (OB tmps)=vs)
  (eI:(e vs.toArray).run P w=.ok v w') (NX:∀z,(e vs.toArray).events P w #[z]=#[z]++es) (hs:∀x∈es,Told x):Yields P main b tmps ds cs o w v w' es:=by
 obtain⟨fn,h1,h2,h3,h4,h5⟩:=he;obtain⟨ats,h6⟩:=ho;intro arr i r k hi hw;have hm:(az.toArray).map (Go.Act.eval ⟨tmps,ds⟩)=vs.toArray:=by
  rw[List.map_toArray,<-ha]
  congr 1
 rw[FB.kit hb,stepG_entry (a:=⟨tmps,ds⟩) hi hw (by simpa [kf] using hk) h6 h1 h2 h3 h4 h5 (by rw[hm];exact eI) (by rw[hm];exact NX _) (fun x hx=> ⟨(hs x hx).1,fun g hg=> by have:=(hs x hx).2;rw[hg] at this;cases this⟩),QT hb]
theorem kX.entry {f:FuncId}{e:Array Value->Sem Value}{az:List Operand}{vs:List Value}(he:mI P f e)(ho:JI o f az)(hb:b.rd=none)(ha:az.map (OB tmps)=vs)(eI:(e vs.toArray).run P w=.halt .blocked w):kX P main b tmps ds cs o w:=by
 obtain⟨fn,h1,h2,h3,h4,h5⟩:=he;obtain⟨ats,h6⟩:=ho;intro arr i r k hi hw;have hm:(az.toArray).map (Go.Act.eval ⟨tmps,ds⟩)=vs.toArray:=by
  rw[List.map_toArray,<-ha]
  congr 1
 rw[FB.kit hb,stepG_entry_blocked (a:=⟨tmps,ds⟩) hi hw h6 h1 h2 h3 h4 h5 (w':=w) (by rw[hm];exact eI)]
theorem mI.aGr {f:FuncId}{e:Array Value->Sem Value}{az:List Operand}(he:mI P f e)(ho:JI o f az){arr:Array Oper}{i:Nat}{r:List Nat}{k:List Item}(hi:arr[i]? =some o):mayWake P (G (b.at tmps ds (.inRegion arr (i::r)::k)) cs)=true:=by
 obtain⟨fn,h1,h2,h3,h4,h5⟩:=he;obtain⟨ats,h6⟩:=ho;have hb:fn.body.isSome=false:=by cases hx:fn.body <;> simp_all
 simp[mayWake,G,FB.at,hi,h6,Frame.eval,h1,hb]
theorem Yields.look {sh:Nat->Option (TypeId×Nat)}(hb:b.rd=none\/BA o.op=false)(hp:gU P sh (execOp (OB tmps) o) fun nx=> nx=.value v)(tO:∀r x,sh r=some x->w.shape? r=some x):Yields P main b tmps ds cs o w v w #[]:=by
 obtain⟨nx,rfl,eI⟩:=xS _ hp;intro arr i r k hi hw;have hg:stepG P main (G (b.at tmps ds (.inRegion arr (i::r)::k)) cs) w=stepG.apply P true (b.at tmps ds (.inRegion arr (i::r)::k)) cs none (execOp (b.at tmps ds (.inRegion arr (i::r)::k)).eval o) w:=by
  rcases hb with hb|hb
  ·simp[G,stepG,stepG.exec,stepG.oper,Frame.oper?,FB.at,hi,hw,hb]
  ·have hd:∀c,o.op≠ .defer c:=fun c e=> by rw[e] at hb;cases hb
   cases lA:o.op <;> first
    | exact absurd lA (hd _)
    | (cases WO:b.rd <;> simp[G,stepG,stepG.exec,stepG.oper,Frame.oper?,FB.at,hi,hw,lA,WO])
 rw[FB.eval_at] at hg;rw[hg];have OD:(b.at tmps ds (.inRegion arr (i::r)::k)).finish v=b.at (HB tmps o.dst v) ds (.inRegion arr r::k):=by rw[FB.finish_at,hi];rfl
 have hs:seen P (b.at tmps ds (.inRegion arr (i::r)::k)).fn (if(b.at tmps ds (.inRegion arr (i::r)::k)).kind==.early then #[] else #[])=#[]:=by
  rw[ite_self];exact seen_none _ _
 rw[<-OD];have key:stepG.apply P true (b.at tmps ds (.inRegion arr (i::r)::k)) cs none (execOp (OB tmps) o) w=GStep.after (seen P (b.at tmps ds (.inRegion arr (i::r)::k)).fn (if(b.at tmps ds (.inRegion arr (i::r)::k)).kind==.early then #[] else #[])) (.go (G ((b.at tmps ds (.inRegion arr (i::r)::k)).finish v) cs) w):=by
  unfold stepG.apply;rw[if_pos rfl,eI w #[] tO];rfl
 rw[key,hs];simp[GStep.after]
end
section
variable {X:Fk}{w:World}{s:Sh}
theorem ShAt.wgC(h:ShAt X w s):w.cell? (stA X.Wg)=some (.int .u64 ((s.c*4294967296+s.w:Nat):Int)):=by simp[World.cell?,stA,h.wg,Fk.SW]
theorem ShAt.smC(h:ShAt X w s):w.cell? (smA X.Wg)=some (.int .u32 s.q):=by simp[World.cell?,smA,h.wg,Fk.SW]
theorem ShAt.wgZ(h:ShAt X w s):w.frozen? (stA X.Wg)=false:=by simp[World.frozen?,stA,h.wg,Fk.SW]
theorem ShAt.smZ(h:ShAt X w s):w.frozen? (smA X.Wg)=false:=by simp[World.frozen?,smA,h.wg,Fk.SW]
theorem KJ.same(h:ShAt X w s):KJ X w w s:=⟨⟨rfl,rfl⟩,rfl,fun _ _=> rfl,h⟩
theorem KJ.wgS(h:ShAt X w s)(c' w':Nat):KJ X w (w.setCell (stA X.Wg) (.int .u64 ((c'*4294967296+w':Nat):Int))) { s with c:=c',w:=w' }:=
 ⟨⟨rfl,rfl⟩,by simp[World.setCell],fun b h1=> by simp[World.setCell,stA,Array.getElem?_modify,Ne.symm h1],⟨by simp[World.setCell,stA,Array.getElem?_modify,h.wg,Fk.SW]⟩⟩
theorem KJ.smS(h:ShAt X w s)(m':Nat):KJ X w (w.setCell (smA X.Wg) (.int .u32 m')) { s with q:=m' }:=
 ⟨⟨rfl,rfl⟩,by simp[World.setCell],fun b h1=> by simp[World.setCell,smA,Array.getElem?_modify,Ne.symm h1],⟨by simp[World.setCell,smA,Array.getElem?_modify,h.wg,Fk.SW]⟩⟩
theorem MQ(d:Nat):ED X d d #[]:=⟨fun j e h=> by simp at h,rfl⟩
theorem NN(d:Nat):ED X d (d+1) #[Go.ConcR.mk .disable]:=⟨fun j e h=> by
 cases j with
 | zero=> simp at h;subst h;exact .inl rfl
 | succ j=> simp at h,rfl⟩
theorem wW(d:Nat):ED X (d+1) d #[Go.ConcR.mk .enable]:=⟨fun j e h=> by
 cases j with
 | zero=> simp at h;subst h;exact .inl rfl
 | succ j=> simp at h,rfl⟩
theorem CM {a:Addr}(ha:a.block=X.Wg)(wr:Bool):ED X 1 1 #[⟨.cell a,wr,true⟩]:=⟨fun j e h=> by
 cases j with
 | zero=> simp at h;subst h;exact .inr ⟨⟨a,wr,rfl,ha⟩,by simp[deafBehind]⟩
 | succ j=> simp at h,rfl⟩
theorem NQ {a:Addr}(ha:a.block=X.Wg):ED X 1 1 #[⟨.cell a,false,true⟩,⟨.cell a,true,true⟩]:=⟨fun j e h=> by
 match j,h with
 | 0,h=> simp at h;subst h;exact .inr ⟨⟨a,false,rfl,ha⟩,by simp[deafBehind]⟩
 | 1,h=> simp at h;subst h;exact .inr ⟨⟨a,true,rfl,ha⟩,by simp[deafBehind]⟩
 | j+2,h=> simp at h,rfl⟩
theorem yS {a:Addr}(ha:a.block=X.Wg):ED X 1 1 (semEvents a):=⟨fun j e h=> by
 match j,h with
 | 0,h=> simp[semEvents] at h;subst h;exact .inl rfl
 | 1,h=> simp[semEvents] at h;subst h;exact .inr ⟨⟨a,false,rfl,ha⟩,by simp[deafBehind,semEvents]⟩
 | 2,h=> simp[semEvents] at h;subst h;exact .inr ⟨⟨a,true,rfl,ha⟩,by simp[deafBehind,semEvents]⟩
 | 3,h=> simp[semEvents] at h;subst h;exact .inl rfl
 | j+4,h=> simp[semEvents] at h,rfl⟩
end
section
variable {P:Program}{main:Bool}{b:FB}{tmps:Array Value}{ds:List Deferred}{cs:List Frame}{o:Oper}{w w':World}{f:FuncId}{ad:Addr}{k:IntKind}{es:Array Event}{vs:List Value}{v:Value}
theorem M0(a:Addr):∀e∈(#[⟨.cell a,false,true⟩,⟨.cell a,true,true⟩]:Array Event),Told e:=by
 intro e he;simp at he
 rcases he with rfl|rfl <;> exact⟨rfl,rfl⟩
theorem jK(e:Event)(h:Told e):∀e'∈(#[e]:Array Event),Told e':=by
 intro e' he;simp at he
 subst he;exact h
theorem JW(a:Addr):∀e∈semEvents a,Told e:=by
 intro e he;simp[semEvents] at he
 rcases he with rfl|rfl|rfl|rfl <;> exact⟨rfl,rfl⟩
theorem told_none:∀e∈(#[]:Array Event),Told e:=fun e he=> by simp at he
structure EC(P:Program)(e:Array Value->Sem Value)(vs:List Value)(w:World)(v:Value)(w':World)(es:Array Event):Prop where
 run:(e vs.toArray).run P w=.ok v w'
 ev:∀z,(e vs.toArray).events P w #[z]=#[z]++es
 told:∀x∈es,Told x
theorem EC.YN {e:Array Value->Sem Value}{az:List Operand}(h:EC P e vs w v w' es)(he:mI P f e)(ho:JI o f az)(hb:b.rd=none)(hk:b.kind≠ .early)(ha:az.map (OB tmps)=vs):Yields P main b tmps ds cs o w v w' es:=
 .entry he ho hb hk ha h.run h.ev h.told
theorem EC.cas {v old n:Int}(hc:w.cell? ad=some (.int k v))(hf:w.frozen? ad=false)(hv:v=old):
  EC P (Extern.Atomic.casT (.int k)) [.pointer (some ad),.int k old,.int k n] w (.bool true) (w.setCell ad (.int k n)) #[⟨.cell ad,false,true⟩,⟨.cell ad,true,true⟩]:=by
 subst hv;exact⟨by rw[casT_eq];exact run_cas_hit_entry hc hf,fun z=> by rw[casT_eq,events_cas_hit_entry hc hf];rfl,M0 ad⟩
theorem EC.aGC {v old n:Int}(hc:w.cell? ad=some (.int k v))(hf:w.frozen? ad=false)(hv:¬v=old):
  EC P (Extern.Atomic.casT (.int k)) [.pointer (some ad),.int k old,.int k n] w (.bool false) w #[⟨.cell ad,false,true⟩]:=
 ⟨by rw[casT_eq];exact run_cas_miss_entry hc hf hv,fun z=> by rw[casT_eq,events_cas_miss_entry hc hf hv];rfl,jK _ ⟨rfl,rfl⟩⟩
theorem EC.add {v d r:Int}(hc:w.cell? ad=some (.int k v))(hf:w.frozen? ad=false)(hr:k.wrap (v+d)=r):
  EC P (Extern.Atomic.update (Op.intArith .add) k true) [.pointer (some ad),.int k d] w (.int k r) (w.setCell ad (.int k r)) #[⟨.cell ad,false,true⟩,⟨.cell ad,true,true⟩]:=by
 subst hr;exact⟨run_add_entry hc hf,fun z=> by rw[events_add_entry hc hf];rfl,M0 ad⟩
theorem EC.load {v:Int}(hc:w.cell? ad=some (.int k v)):EC P (Extern.Atomic.loadT (.int k)) [.pointer (some ad)] w (.int k v) w #[⟨.cell ad,false,true⟩]:=
 ⟨by
  show Sem.run P (do Extern.Atomic.read (.int k) (<-asAddr (.pointer (some ad)))) w=_;simp[Extern.Atomic.read,asAddr,hc],fun z=> by
  show Sem.events P (do Extern.Atomic.read (.int k) (<-asAddr (.pointer (some ad)))) w _=_;simp[Extern.Atomic.read,asAddr,hc,events_load],jK _ ⟨rfl,rfl⟩⟩
theorem EC.aEJ {v u:Int}(hc:w.cell? ad=some (.int k u))(hf:w.frozen? ad=false):
  EC P Extern.Atomic.storeT [.pointer (some ad),.int k v] w (.tuple #[]) (w.setCell ad (.int k v)) #[⟨.cell ad,true,true⟩]:=
 ⟨by
  show Sem.run P (do
   store (<-asAddr (.pointer (some ad))) (.int k v) .atomic
   pure Extern.Atomic.none_) w=_
  simp[asAddr,hc,hf,run_store P w ad (.int k v) .atomic rfl,Result.andThen,Extern.Atomic.none_],fun z=> by
  show Sem.events P (do
   store (<-asAddr (.pointer (some ad))) (.int k v) .atomic
   pure Extern.Atomic.none_) w _=_
  simp[asAddr,hc,hf,events_store P w _ ad (.int k v) .atomic rfl],jK _ ⟨rfl,rfl⟩⟩
theorem EC.n0 {m:Mark}(hm:v9 (.mark m)=true):EC P (fun _=> do mark m;pure Extern.Race.none_) vs w (.tuple #[]) w #[Go.ConcR.mk m]:=
 ⟨by simp[Extern.Race.none_],fun z=> by simp[Go.ConcR.mk],jK _ ⟨rfl,hm⟩⟩
theorem EC.VT {m:Addr->Mark}(hm:v9 (.mark (m ad))=true):EC P (Extern.Race.marked m) [.pointer (some ad)] w (.tuple #[]) w #[Go.ConcR.mk (m ad)]:=
 ⟨by simp[Extern.Race.marked,Extern.Race.at_,Extern.Race.none_],fun z=> by simp[Extern.Race.marked,Extern.Race.at_,Go.ConcR.mk],jK _ ⟨rfl,hm⟩⟩
theorem EC.aHy {n:Nat}(hx:vs[0]? =some (.pointer (some ad)))(hc:w.cell? ad=some (.int .u32 n))(hn:n≠0)(hf:w.frozen? ad=false):
  EC P Extern.Sync.semacquire vs w (.tuple #[]) (w.setCell ad (.int .u32 (n-1:Nat))) (semEvents ad):=by
 have e:((n-1:Nat):Int)=(n:Int)-1:=by omega
 rw[e];have nJ:vs.toArray[0]? =some (.pointer (some ad)):=by simpa using hx
 exact⟨by simp[Extern.Sync.semacquire,Extern.Sync.count,nJ,hc,hn,hf,Extern.Sync.none_,run_store P w ad (.int .u32 ((n:Int)-1)) .atomic rfl,Result.andThen],
  fun z=> by simp[Extern.Sync.semacquire,Extern.Sync.count,nJ,hc,hn,hf,semEvents,events_load,events_store P w _ ad (.int .u32 ((n:Int)-1)) .atomic rfl,run_store P w ad (.int .u32 ((n:Int)-1)) .atomic rfl,Result.evThen],JW ad⟩
theorem DW(hx:vs[0]? =some (.pointer (some ad)))(hc:w.cell? ad=some (.int .u32 0)):(Extern.Sync.semacquire vs.toArray).run P w=.halt .blocked w:=by
 have nJ:vs.toArray[0]? =some (.pointer (some ad)):=by simpa using hx
 simp[Extern.Sync.semacquire,Extern.Sync.count,nJ,hc]
theorem EC.aHz {n:Nat}(hx:vs[0]? =some (.pointer (some ad)))(hc:w.cell? ad=some (.int .u32 n))(hn:n<=1000)(hf:w.frozen? ad=false):
  EC P Extern.Sync.semrelease vs w (.tuple #[]) (w.setCell ad (.int .u32 (n+1:Nat))) (semEvents ad):=by
 have e:IntKind.u32.wrap ((n:Int)+1)=((n+1:Nat):Int):=by
  have h1:IntKind.u32.wrap ((n:Int)+1)=((n:Int)+1)%4294967296:=by
   simp[IntKind.wrap,IntKind.bits,IntKind.signed]
  rw[h1];omega
 rw[<-e];have nJ:vs.toArray[0]? =some (.pointer (some ad)):=by simpa using hx
 exact⟨by simp[Extern.Sync.semrelease,Extern.Sync.count,nJ,hc,hf,Extern.Sync.none_,Op.intArith,run_store P w ad (.int .u32 (IntKind.u32.wrap ((n:Int)+1))) .atomic rfl,Result.andThen],
  fun z=> by simp[Extern.Sync.semrelease,Extern.Sync.count,nJ,hc,hf,semEvents,Op.intArith,events_load,events_store P w _ ad (.int .u32 (IntKind.u32.wrap ((n:Int)+1))) .atomic rfl,run_store P w ad (.int .u32 (IntKind.u32.wrap ((n:Int)+1))) .atomic rfl,Result.evThen],JW ad⟩
theorem EC.idle {e:Array Value->Sem Value}(hv:e vs.toArray=Sem.pure v):EC P e vs w v w #[]:=
 ⟨by rw[hv];rfl,fun z=> by rw[hv];rfl,told_none⟩
end
end Go.RL
namespace Go.RL
open Go.Conc Go.ConcN Go.RL.Au
open Go.ConcR (stA smA rd wr mk)
open Go.ConcM (muA OsLater)
def JH:Nat->gC
 | 0=> .stop
 | n+1=> .step fun _=> JH n
theorem oY(n:Nat):gC.Lt (JH n) (JH (n+1)):=.step (fun _=> JH n) default
section
variable(P:Program)(X:Fk)(Fin:Goroutine->Prop)
inductive YS(κ:Nat)(t:Th)(k:Nat)(H:View)(ρ:gC)(q d:Nat)(g:Goroutine):Prop where
 | quit (h:t=.quit) (hq:QuitsD P q d g)
 | quiet (n:Nat) (h:t≠ .quit/\t.mute=true) (hρ:ρ=JH n) (hg:Qt P (WS P X κ k t H) n g)
 | walk (h:t.mute=false) (hg:Tr (Mw P false X.ok) (WS P X κ k t) ρ H g)
inductive iX(m:Mn)(k j:Nat)(s:Sh)(H:View)(ρ:gC)(g:Goroutine):Prop where
 | walk (hg:Tr (Mw P true X.ok) (MS P X Fin k m j) ρ H g)
 | wait (g₀:Goroutine) (h:m=.ws/\s.q=0/\ρ=.stop) (hg:g= { g₀ with status:=.blocked }) (hw:MS P X Fin k m j H g₀)
end
section
variable {P:Program}{X:Fk}{Fin:Goroutine->Prop}{κ:Nat}{t:Th}{m:Mn}{k j q d:Nat}{s s':Sh}{H:View}{ρ:gC}{g x x':Goroutine}{w w':World}
theorem Tr.run {M:Md P}{St:View->Goroutine->Prop}(hM:∀H g Po,¬M.Ph H g Po)(hs:∀H g,St H g->g.status=.running)(h:Tr M St ρ H g):g.status=.running:=by
 cases ρ with
 | stop=> exact hs _ _ h
 | step f=> exact h.1
 | phase f=> obtain⟨Po,hp,_⟩:=h;exact(hM _ _ _ hp).elim
theorem Qt.run {K:Goroutine->Prop}{n:Nat}(hs:∀g,K g->g.status=.running)(h:Qt P K n g):g.status=.running:=by
 cases n with
 | zero=> exact hs _ h
 | succ n=> exact h.1
theorem YS.status(h:YS P X κ t (k+1) H ρ q d g):g.status=.running\/g.status=.finished:=by
 cases h with
 | quit h hq=> exact hq.status
 | quiet n h hρ hg=> exact .inl (hg.run fun _ h=> h.1.1)
 | walk h hg=> exact .inl (hg.run (fun _ _ _ h=> h) fun _ _ h=> h.1.1)
theorem iX.status(h:iX P X Fin m (k+1) j s H ρ g):g.status=.running\/g.status=.blocked:=by
 cases h with
 | walk hg=> exact .inl (hg.run (fun _ _ _ h=> h) fun _ _ h=> h.1.1)
 | wait g₀ h hg hw=> subst hg;exact .inr rfl
theorem woken_running(h:g.status=.running\/g.status=.finished):woken P x x' w' g=g:=by
 unfold woken;split
 ·exact again_running _ h
 ·rfl
theorem Y0(h1:g.status=.running)(h2:g.offers=none):({ g with status:=.blocked }:Goroutine).again w=g:=by
 obtain⟨fr,cs,st,dy,of⟩:=g;simp only at h1 h2;subst h1 h2;rfl
theorem YS.other(h:YS P X κ t (k+1) H ρ q d g):YS P X κ t (k+1) H ρ q d (woken P x x' w' g):=by
 cases h with
 | quit h hq=> rw[woken_quitsD hq];exact .quit h hq
 | quiet n h hρ hg=> rw[woken_running (.inl (hg.run fun _ h=> h.1.1))];exact .quiet n h hρ hg
 | walk h hg=> rw[woken_running (.inl (hg.run (fun _ _ _ h=> h) fun _ _ h=> h.1.1))];exact .walk h hg
theorem iX.other(h:iX P X Fin m (k+1) j s H ρ g)(hQ:s'.q<=s.q\/(mayWake P x=true/\x'.status=.running)):iX P X Fin m (k+1) j s' H ρ (woken P x x' w' g):=by
 cases h with
 | walk hg=> rw[woken_running (.inl (hg.run (fun _ _ _ h=> h) fun _ _ h=> h.1.1))];exact .walk hg
 | wait g₀ h hg hw=>
  subst hg;obtain⟨rfl,h2,rfl⟩:=h;by_cases hc:(mayWake P x&&x'.status !=.blocked&&x'.status !=.waiting)=true
  ·have:woken P x x' w' { g₀ with status:=.blocked }=g₀:=by unfold woken;rw[if_pos hc];exact Y0 hw.1.1 hw.1.2
   rw[this];exact .walk hw
  ·have:woken P x x' w' { g₀ with status:=.blocked }= { g₀ with status:=.blocked }:=by unfold woken;rw[if_neg hc]
   rw[this];refine .wait g₀ ⟨rfl,?_,rfl⟩ rfl hw;rcases hQ with h5|⟨h5,h6⟩
   ·omega
   ·exact absurd (by simp[h5,h6]) hc
end
structure WT(X:Fk)(B:View)(base N:Nat)(os0:T4)(w:World)(t:Trace)(ths:List Th)(m:Mn)(s:Sh)(H:Nat->View)(D:Nat->Bool):Prop where
 sh:ShAt X w s
 cb:X.C<w.heap.size
 vi:VI X H B w
 hx:∀g,¬Act base N g->∀b,H g b=none
 ti:TI X.Wg X.Wg X.C base N w.heap.size H B t
 free:(∃o,w.heap[X.C]? =some o/\X.GI D o)/\(∀g,H g X.C=none)/\Tok X.C base N t
 bK:∀(κ:Nat) T,ths[κ]? =some T->T.mute=true->∃r,RelBy (stA X.Wg) t (base+κ) r
 WW:Deaf t 0=m.deaf
 J1:∀(κ:Nat) T,ths[κ]? =some T->T≠ .quit->Deaf t (base+κ)=T.deaf
 os:ZY os0 w
structure zP(P:Program)(X:Fk)(Fin:Goroutine->Prop)(base:Nat)(gs:Array Goroutine)(df:Nat->Nat)(ths:List Th)(m:Mn)(s:Sh)(H:Nat->View)(ks:Nat->Nat)(rks:List gC)(q:Nat->Nat):Prop where
 size:gs.size=base+ths.length
 A5:rks.length=gs.size
 main:∃g ρ,gs[0]? =some g/\rks[0]? =some ρ/\iX P X Fin m (ks 0) ths.length s (H 0) ρ g
 work:∀(κ:Nat) T,ths[κ]? =some T->∃g ρ,gs[base+κ]? =some g/\rks[base+κ]? =some ρ/\YS P X κ T (ks (base+κ)) (H (base+κ)) ρ (q (base+κ)) (df (base+κ)) g
 PK:∀i,0<i->i<base->∃g,gs[i]? =some g/\QuitsD P (q i) (df i) g
structure PI(P:Program)(X:Fk)(Fin:Goroutine->Prop)(B:View)(base:Nat)(os0:T4)(gs:Array Goroutine)(w:World)(t:Trace)(ths:List Th)(m:Mn)(s:Sh)(H:Nat->View)(ks:Nat->Nat)(rks:List gC)(q:Nat->Nat)(D:Nat->Bool):Prop where
 inv:Inv X.n ths m s
 b1:1<=base
 ne:X.Wg≠X.C
 dd:∀κ,D κ=((ths[κ]?).map Th.did).getD false
 depth:∀g,Act base gs.size g->mu X.n ths m s<ks g
 wt:WT X B base gs.size os0 w t ths m s H D
 si:zP P X Fin base gs (Deaf t) ths m s H ks rks q
def runs(gs:Array Goroutine):Nat:=gs.toList.countP fun g=> g.status==.running
abbrev US:=Nat×(List gC×(Nat×Nat))
def NG:US->US->Prop:=Prod.Lex (· < ·) (Prod.Lex dZ (Prod.Lex (· < ·) (· < ·)))
theorem NG.wf:WellFounded NG:=(Prod.lex Nat.lt_wfRel (Prod.lex ⟨dZ,dZ.wf⟩ (Prod.lex Nat.lt_wfRel Nat.lt_wfRel))).wf
def zD(P:Program)(gs:Array Goroutine)(i:Nat)(g g':Goroutine)(w':World):Array Goroutine:=(gs.map (woken P g g' w')).setIfInBounds i g'
theorem GA {P:Program}{gs:Array Goroutine}{i:Nat}{g g':Goroutine}{w':World}:(zD P gs i g g' w').size=gs.size:=by simp[zD]
theorem KF {P:Program}{gs:Array Goroutine}{i:Nat}{g g':Goroutine}{w':World}(h:i<gs.size):(zD P gs i g g' w')[i]? =some g':=by simp[zD,h]
theorem TB {P:Program}{gs:Array Goroutine}{i j:Nat}{g g' x:Goroutine}{w':World}(h:j≠i)(hj:gs[j]? =some x):(zD P gs i g g' w')[j]? =some (woken P g g' w' x):=by
 simp[zD,Array.getElem?_setIfInBounds_ne (Ne.symm h),hj]
section
variable {P:Program}{X:Fk}{Fin:Goroutine->Prop}{base:Nat}{gs:Array Goroutine}{df df':Nat->Nat}{ths:List Th}{m m':Mn}{s s':Sh}{H:Nat->View}{ks:Nat->Nat}{rks:List gC}{q:Nat->Nat}{w':World}
theorem zP.worker(h:zP P X Fin base gs df ths m s H ks rks q){κ:Nat}{T T':Th}{g g':Goroutine}{H':View}{k' q':Nat}{ρ':gC}(hb:1<=base)(hk:∀i,Act base gs.size i->0<ks i)(hκ:ths[κ]? =some T)(QJ:∀j,j≠base+κ->df' j=df j)
  (hQ:s'.q<=s.q\/(mayWake P g=true/\g'.status=.running)) (hs:YS P X κ T' k' H' ρ' q' (df' (base+κ)) g'):
  zP P X Fin base (zD P gs (base+κ) g g' w') df' (ths.set κ T') m s' (upd H (base+κ) H') (upd ks (base+κ) k') (rks.set (base+κ) ρ') (upd q (base+κ) q'):=by
 have KB:κ<ths.length:=(List.getElem?_eq_some_iff.1 hκ).1;have hi:base+κ<gs.size:=by rw[h.size];omega
 refine⟨by rw[GA,List.length_set];exact h.size,by rw[GA,List.length_set];exact h.A5,?_,fun κ' T'' VC=> ?_,fun i h0 SX=> ?_⟩
 ·obtain⟨g0,ρ0,h1,h2,h3⟩:=h.main;have aB:(0:Nat)≠base+κ:=by omega
  refine⟨_,ρ0,TB aB h1,by rw[List.getElem?_set_ne (Ne.symm aB)];exact h2,?_⟩;rw[upd_ne _ _ aB,upd_ne _ _ aB,List.length_set];have:=hk 0 (.inl rfl);obtain⟨k0,hk0⟩:∃k0,ks 0=k0+1:=⟨ks 0-1,oM⟩
  rw[hk0] at h3 ⊢;exact h3.other hQ
 ·by_cases e:κ'=κ
  ·subst e;rw[List.getElem?_set_self KB] at VC;cases VC
   refine⟨g',ρ',KF hi,by rw[List.getElem?_set_self (by rw[h.A5];exact hi)],?_⟩;rw[upd_same,upd_same,upd_same];exact hs
  ·rw[List.getElem?_set_ne (Ne.symm e)] at VC;obtain⟨g0,ρ0,h1,h2,h3⟩:=h.work κ' T'' VC;have aB:base+κ'≠base+κ:=by omega
   refine⟨_,ρ0,TB aB h1,by rw[List.getElem?_set_ne (Ne.symm aB)];exact h2,?_⟩;rw[upd_ne _ _ aB,upd_ne _ _ aB,upd_ne _ _ aB,QJ _ aB];have aBm:=(List.getElem?_eq_some_iff.1 VC).1;have:=hk (base+κ') (.inr ⟨oM,by rw[h.size];omega⟩);obtain⟨k0,hk0⟩:∃k0,ks (base+κ')=k0+1:=⟨ks (base+κ')-1,oM⟩
   rw[hk0] at h3 ⊢;exact h3.other
 ·obtain⟨g0,h1,h2⟩:=h.PK i h0 SX;have aB:i≠base+κ:=by omega
  exact⟨_,TB aB h1,by rw[upd_ne _ _ aB,QJ _ aB,woken_quitsD h2];exact h2⟩
theorem zP.LM(h:zP P X Fin base gs df ths m s H ks rks q){g g':Goroutine}{H':View}{k':Nat}{ρ':gC}(hb:1<=base)(hk:∀i,Act base gs.size i->0<ks i)(QJ:∀j,j≠0->df' j=df j)
  (hs:iX P X Fin m' k' ths.length s' H' ρ' g'):
  zP P X Fin base (zD P gs 0 g g' w') df' ths m' s' (upd H 0 H') (upd ks 0 k') (rks.set 0 ρ') q:=by
 have hi:0<gs.size:=by rw[h.size];omega
 refine⟨by rw[GA];exact h.size,by rw[GA,List.length_set];exact h.A5,⟨g',ρ',KF hi,by rw[List.getElem?_set_self (by rw[h.A5];exact hi)],by rw[upd_same,upd_same];exact hs⟩,fun κ' T'' VC=> ?_,fun i h0 SX=> ?_⟩
 ·obtain⟨g0,ρ0,h1,h2,h3⟩:=h.work κ' T'' VC;have aB:base+κ'≠0:=by omega
  refine⟨_,ρ0,TB aB h1,by rw[List.getElem?_set_ne (Ne.symm aB)];exact h2,?_⟩;rw[upd_ne _ _ aB,upd_ne _ _ aB,QJ _ aB];have aBm:=(List.getElem?_eq_some_iff.1 VC).1;have:=hk (base+κ') (.inr ⟨oM,by rw[h.size];omega⟩);obtain⟨k0,hk0⟩:∃k0,ks (base+κ')=k0+1:=⟨ks (base+κ')-1,oM⟩
  rw[hk0] at h3 ⊢;exact h3.other
 ·obtain⟨g0,h1,h2⟩:=h.PK i h0 SX;have aB:i≠0:=by omega
  exact⟨_,TB aB h1,by rw[QJ _ aB,woken_quitsD h2];exact h2⟩
theorem zP.hY(h:zP P X Fin base gs df ths m s H ks rks q){i:Nat}{g g':Goroutine}{q':Nat}(hk:∀i,Act base gs.size i->0<ks i)(h0:0<i)(SX:i<base)(QJ:∀j,j≠i->df' j=df j)(hs:QuitsD P q' (df' i) g'):
  zP P X Fin base (zD P gs i g g' w') df' ths m s H ks rks (upd q i q'):=by
 have hi:i<gs.size:=by rw[h.size];omega
 refine⟨by rw[GA];exact h.size,by rw[GA];exact h.A5,?_,fun κ' T'' VC=> ?_,fun j h0 hjb=> ?_⟩
 ·obtain⟨g0,ρ0,h1,h2,h3⟩:=h.main;have aB:(0:Nat)≠i:=by omega
  refine⟨_,ρ0,TB aB h1,h2,?_⟩;have:=hk 0 (.inl rfl);obtain⟨k0,hk0⟩:∃k0,ks 0=k0+1:=⟨ks 0-1,oM⟩
  rw[hk0] at h3 ⊢;exact h3.other (.inl (Nat.le_refl _))
 ·obtain⟨g0,ρ0,h1,h2,h3⟩:=h.work κ' T'' VC;have aB:base+κ'≠i:=by omega
  refine⟨_,ρ0,TB aB h1,h2,?_⟩;rw[upd_ne _ _ aB,QJ _ aB];have aBm:=(List.getElem?_eq_some_iff.1 VC).1;have:=hk (base+κ') (.inr ⟨oM,by rw[h.size];omega⟩);obtain⟨k0,hk0⟩:∃k0,ks (base+κ')=k0+1:=⟨ks (base+κ')-1,oM⟩
  rw[hk0] at h3 ⊢;exact h3.other
 ·by_cases e:j=i
  ·subst e;exact⟨g',KF hi,by rw[upd_same];exact hs⟩
  ·obtain⟨g0,h1,h2⟩:=h.PK j h0 hjb;exact⟨_,TB e h1,by rw[upd_ne _ _ e,QJ _ e,woken_quitsD h2];exact h2⟩
end
end Go.RL
