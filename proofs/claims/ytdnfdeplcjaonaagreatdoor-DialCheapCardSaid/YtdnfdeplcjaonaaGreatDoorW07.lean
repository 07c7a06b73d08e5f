/-
  Texts of the proofs over baudot/dial: DrawL VLess W1 W2 S8 K1 K2 K3 K4 K5 K6 K7 K8 K9 KA.
-/
import Derived.Test.YtdnfdeplcjaonaaGreatDoorW06
namespace Go.RL
open Go.Conc
section
variable {P:Program}{M:Md P}{md:Region.Mode}{ops:Array Oper}{S:Array Bool→View→Prop}{Fin:Array Value→View→Prop}{z:Nat}
theorem waits_not {i j:Nat}{listed:Array Bool}(h:waits md ops i j=true)(hi:i∈Region.ready md ops listed)(hj:j∈Region.ready md ops listed):False:=by
 unfold waits at h;obtain⟨_,o,ho,hall⟩:=mem_ready.1 hj;rw[ho] at h;simp only at h;rw[Array.any_eq_true'] at h;obtain⟨e,he,hb⟩:=h;simp only[Bool.and_eq_true,beq_iff_eq] at hb;have h1:=hall e he hb.1;have h0:=(mem_ready.1 hi).1;rw[hb.2] at h1;rcases Nat.lt_or_ge i listed.size with h'|h'
 · simp[h'] at h0 h1;rw[h0] at h1;cases h1
 · simp[Array.getElem?_eq_none h'] at h1
def AnyL(M:Md P)(md:Region.Mode)(ops:Array Oper)(S:Array Bool→View→Prop)(z:Nat)(Fin:Array Value→View→Prop):Nat→Array Bool→Array Value→View→Prop
 | 0,listed,tmps,H=> ∀H₂,H.le H₂→S listed H₂→Region.ready md ops listed= [z]∧Fin tmps H₂
 | fuel+1,listed,tmps,H=> ∀H₂,H.le H₂→S listed H₂→
   (Region.ready md ops listed≠ [])∧
   ∀i∈Region.ready md ops listed,∀o,ops[i]? =some o→OneT M ops o tmps H₂ fun tmps' H'=> S (listed.setIfInBounds i true) H'∧AnyL M md ops S z Fin fuel (listed.setIfInBounds i true) tmps' H'
theorem AnyL.mono {fuel:Nat}{listed:Array Bool}{tmps:Array Value}{H H':View}(h:AnyL M md ops S z Fin fuel listed tmps H)(k:H.le H'):AnyL M md ops S z Fin fuel listed tmps H':=by
 cases fuel with
 | zero=> exact fun H₂ h2 hS=> h H₂ (View.le_trans k h2) hS
 | succ fuel=> exact fun H₂ h2 hS=> h H₂ (View.le_trans k h2) hS
theorem go_step(fuel t:Nat)(listed:Array Bool):Region.linearise.go md ops (fuel+1) t listed []=match (Region.ready md ops listed)[t%(Region.ready md ops listed).length]? with
   | some i=> i::Region.linearise.go md ops fuel (t/(Region.ready md ops listed).length) (listed.setIfInBounds i true) []
   | none=> []:=by
 rw[Region.linearise.go];show(match (Region.ready md ops listed)[t%(Region.ready md ops listed).length]? with
   | some i=> Region.linearise.go md ops fuel (t/(Region.ready md ops listed).length) (listed.setIfInBounds i true) [i]
   | none=> List.reverse [])=_
 split
 · rename_i i _
   rw[linearise_go_acc];rfl
 · rfl
theorem AnyL.sound {St:View→Goroutine→Prop}{b:FB}{ds:List Deferred}{k:List Item}{cs:List Frame}:∀(fuel t:Nat) (listed:Array Bool) (tmps:Array Value) (H:View),S listed H→
   AnyL M md ops S z (fun tmps H=> T M St H (G (b.at tmps ds (.inRegion ops [z]::k)) cs)) fuel listed tmps H→T M St H (G (b.at tmps ds (.inRegion ops (Region.linearise.go md ops (fuel+1) t listed [])::k)) cs):=by
 intro fuel;induction fuel with
 | zero=>
   intro t listed tmps H hS h;obtain⟨h1,h2⟩:=h H (View.le_refl H) hS;rw[go_step,h1];simp only[List.length_singleton,Nat.mod_one,List.getElem?_cons_zero,Region.linearise.go,List.reverse_nil];exact h2
 | succ fuel ih=>
   intro t listed tmps H hS h;have h:=h H (View.le_refl H) hS;rw[go_step];split
   · rename_i i hi
     have hmem:=List.mem_of_getElem? hi;obtain⟨_,o,ho,_⟩:=mem_ready.1 hmem;exact OneT.sound ho ((h.2 i hmem o ho).mono fun t' H' hk=> ih _ _ _ _ hk.1 hk.2)
   · rename_i hi
     exfalso
     cases hr:Region.ready md ops listed with
     | nil=> exact h.1 hr
     | cons a l=>
       rw[hr] at hi;have:t%(a::l).length<(a::l).length:=Nat.mod_lt _ (by simp);rw[List.getElem?_eq_getElem this] at hi;cases hi
theorem AnyL.first {i:Nat}{oi:Oper}{v:Value}(hi:ops[i]? =some oi)(hsel:∀(j:Nat) (o:Oper) cs b,ops[j]? =some o→o.op≠ .select cs b)(hdi:isDefer oi.op=false)(hz:waits md ops i z=true)(hSi:∀listed H,S (listed.setIfInBounds i true) H↔S listed H):
   ∀ (fuel:Nat) (listed:Array Bool) (tmps:Array Value) (H:View),
     (∀j oj,ops[j]? =some oj→j≠i→listed.getD j true=false→(∀e∈oj.after,Region.binds md e=true→e.on≠i)→oi.apart ops oj=true)→
     closedL md ops listed=true→i∈Region.ready md ops listed→YieldsT M md ops S i oi v tmps→
     AnyL M md ops S z Fin fuel (listed.setIfInBounds i true) (putT tmps oi.dst v) H→AnyL M md ops S z Fin (fuel+1) listed tmps H:=by
 have own:∀(fuel:Nat) (listed:Array Bool) (tmps:Array Value) (H:View),closedL md ops listed=true→i∈Region.ready md ops listed→YieldsT M md ops S i oi v tmps→S listed H→AnyL M md ops S z Fin fuel (listed.setIfInBounds i true) (putT tmps oi.dst v) H→
     OneT M ops oi tmps H fun t H'=> S (listed.setIfInBounds i true) H'∧AnyL M md ops S z Fin fuel (listed.setIfInBounds i true) t H':=by
   intro fuel listed tmps H hcl hrd hy hS h;refine⟨hdi,?_⟩;rcases hy with ⟨hw,hv⟩|⟨hw,rfl⟩
   · rw[if_pos hw];refine(hv listed hcl (mem_ready.1 hrd).1 H hS).run ?_;rintro u H' ⟨rfl,hle,hS'⟩;exact⟨(hSi listed H').2 hS',h.mono hle⟩
   · rw[if_neg (by simp[hw])];exact⟨(hSi listed H).2 hS,h⟩
 intro fuel;induction fuel with
 | zero=>
   intro listed tmps H _ hcl hr hy h H₂ h2 hS;refine⟨fun e=> (by rw[e] at hr;cases hr),fun j hj o ho=> ?_⟩;by_cases hji:j=i
   · subst hji;rw[hi] at ho;cases ho
     exact own 0 listed tmps H₂ hcl hr hy hS (h.mono h2)
   · have:=ready_mono hj hji;rw[(h H₂ h2 ((hSi listed H₂).2 hS)).1,List.mem_singleton] at this;subst this;exact(waits_not hz hr hj).elim
 | succ fuel ih=>
   intro listed tmps H hfree hcl hr hy h H₂ h2 hS;refine⟨fun e=> (by rw[e] at hr;cases hr),fun j hj oj hoj=> ?_⟩;by_cases hji:j=i
   · subst hji;rw[hi] at hoj;cases hoj
     exact own (fuel+1) listed tmps H₂ hcl hr hy hS (h.mono h2)
   · have h1:=(h H₂ h2 ((hSi listed H₂).2 hS)).2 j (ready_mono hj hji) oj hoj;have hcl':=closedL_ready hcl hj;obtain⟨hjun,oj',hoj',hall⟩:=mem_ready.1 hj;rw[hoj] at hoj';cases hoj'
     have hnot:∀e∈oj.after,Region.binds md e=true→e.on≠i:=fun e he hb heq=> by
       have h1:=hall e he hb;have h0:=(mem_ready.1 hr).1;rw[heq] at h1;rcases Nat.lt_or_ge i listed.size with h'|h'
       · simp[h'] at h0 h1;rw[h0] at h1;cases h1
       · simp[Array.getElem?_eq_none h'] at h1
     have hap:=hfree j oj hoj hji hjun hnot;have hfree':∀k ok,ops[k]? =some ok→k≠i→(listed.setIfInBounds j true).getD k true=false→
         (∀e∈ok.after,Region.binds md e=true→e.on≠i)→oi.apart ops ok=true:=fun k ok hk hki hun hno=> by
       refine hfree k ok hk hki ?_ hno;by_cases hjk:j=k
       · subst hjk;exact hjun
       · rw[getD_set_ne true hjk] at hun;exact hun
     refine(h1.back hap (fun cs b=> hsel j oj cs b hoj)).mono ?_;rintro t H' ⟨⟨u,rfl⟩,hS',h3⟩;rw[Array.setIfInBounds_comm _ _ (Ne.symm hji)] at hS';refine⟨(hSi _ H').1 hS',ih (listed.setIfInBounds j true) _ H' hfree' hcl' (ready_mono hr (Ne.symm hji)) (hy.put (fun cs b=> hsel i oi cs b hi) (Oper.apart_spec hap).2.2) ?_⟩;rw[Array.setIfInBounds_comm _ _ hji];exact h3
end
section
variable {P:Program}{M:Md P}{St:View→Goroutine→Prop}{n:Nat}{b:FB}{H₀:View}{cs:List Frame}{R:Rg}{L L':Bl}{ds:List Deferred}{k:List Item}{S:Array Bool→View→Prop}{md:Region.Mode}{ops:Array Oper}{z:Nat}
def Tl(M:Md P)(St:View→Goroutine→Prop)(n:Nat)(b:FB)(H₀:View)(cs:List Frame)(S:Array Bool→View→Prop)(md:Region.Mode)(ops:Array Oper)(z:Nat)(fuel:Nat)(listed:Array Bool)(R:Rg)(L:Bl)(ds:List Deferred)(k:List Item):Prop:=
 ∀H tmps,SymSt H₀ L H→RegOk n R tmps→S listed H→AnyL M md ops S z (fun tmps H=> T M St H (G (b.at tmps ds (.inRegion ops [z]::k)) cs)) fuel listed tmps H
theorem Tl.done {listed:Array Bool}{o:Oper}(hr:Region.ready md ops listed= [z])(ho:ops[z]? =some o)(h:To M St n b H₀ cs (ops.toList.map (fun o:Oper=> o.dst)) R L ds [o] k):Tl M St n b H₀ cs S md ops z 0 listed R L ds k:=fun H tmps hs hr' _ H₂ h2 _=>
 ⟨hr,h ops [z] (fun j=> by
   simp only[List.getElem?_map,Array.getElem?_toList];cases ops[j]? <;> rfl) (by simp[ho]) H₂ tmps (hs.mono h2) hr'⟩
theorem Tl.take(i:Nat){o:Oper}{d:Nat}{v:Value}{fuel:Nat}{listed:Array Bool}(hi:ops[i]? =some o)(hsel:Region.noSelect ops=true)(hr:(Region.ready md ops listed).contains i=true)(hf:Region.free md ops listed i=true)
   (hd:o.dst=some d) (hn:d<n) (hnd:isDefer o.op=false) (hz:waits md ops i z=true) (hcl:closedL md ops listed=true) (hSi:∀listed H,S (listed.setIfInBounds i true) H↔S listed H) (hw:wantB (ops.toList.map (fun o:Oper=> o.dst)) R o=some true)
   (hv:∀listed,closedL md ops listed=true→listed.getD i true=false→∀H tmps,S listed H→RegOk n R tmps→OpVal M o tmps H fun u H'=> u=v∧H.le H'∧S listed H')
   (h:Tl M St n b H₀ cs S md ops z fuel (listed.setIfInBounds i true) ((d,v)::R) L ds k):Tl M St n b H₀ cs S md ops z (fuel+1) listed R L ds k:=fun H tmps hs hr' hS=> by
 refine AnyL.first hi (Region.noSelect_spec hsel) hnd hz hSi fuel listed tmps H (fun j oj hj hne hun hno=> Region.free_spec hi hf j oj hj hne hun hno) hcl (by simpa using hr) (.inl ⟨wantB_ok (fun j=> ?_) hr' hw,fun l hcl hu H hSH=> hv l hcl hu H tmps hSH hr'⟩) ?_
 · simp only[List.getElem?_map,Array.getElem?_toList];cases ops[j]? <;> rfl
 · rw[hd];exact h H _ hs (hr'.put hn v) ((hSi _ H).2 hS)
theorem Tl.tk(i:Nat){o:Oper}{d:Nat}{v:Value}{fuel:Nat}{listed:Array Bool}(hc:takeOk md ops [] listed i=true)(hz:waits md ops i z=true)(hi:ops[i]? =some o)(hd:o.dst=some d)(hn:d<n)(hnd:isDefer o.op=false)(hw:wantB (ops.toList.map (fun o:Oper=> o.dst)) R o=some true)
   (hv:∀H tmps,SymSt H₀ L H→RegOk n R tmps→OpVal M o tmps H fun u H'=> u=v∧H.le H')
   (h:Tl M St n b H₀ cs (fun _=> SymSt H₀ L) md ops z fuel (listed.setIfInBounds i true) ((d,v)::R) L ds k):Tl M St n b H₀ cs (fun _=> SymSt H₀ L) md ops z (fuel+1) listed R L ds k:=by
 simp only[takeOk,Bool.and_eq_true,Bool.not_eq_true'] at hc;obtain⟨⟨⟨⟨⟨hsel,hr⟩,hf⟩,hcl⟩,_⟩,_⟩:=hc;exact .take i hi hsel hr hf hd hn hnd hz hcl (fun _ _=> Iff.rfl) hw (fun _ _ _ H tmps hS hr=> by
   have:=hv H tmps hS hr;unfold OpVal at this ⊢;have fin:∀u H',(u=v∧H.le H')→u=v∧H.le H'∧SymSt H₀ L H':=fun u H' ⟨h1,h2⟩=> ⟨h1,h2,hS.mono h2⟩
   refine vwp_mono _ (fun nx H' hn=> ?_) this;cases nx <;> first
     | exact hn.elim
     | exact fin _ _ hn
     | exact CallT.mono hn fin
     | exact GoT.mono hn fin) h
theorem Tc.dl(z:Nat){id:Nat}{fuel:Nat}(hm:P.follows .mixedOrders=true)(hf:ops.size=fuel+1)(h:Tl M St n b H₀ cs (fun _=> SymSt H₀ L) .any ops z fuel (Array.replicate (fuel+1) false) R L ds k):
   Tc M St n b H₀ cs R L ds (.code (.region id ops true)::k):=fun H tmps hs hr=> by
 refine .region_draw fun t=> ?_;simp only[Region.schedule,hm,Bool.true_or,if_true];have h1:=(h H tmps hs hr hs).sound _ t _ _ _ hs;unfold Region.linearise;rw[hf];exact h1
end
end Go.RL
namespace Go.RL
open Go.Conc Go.ConcN Go.RL.Au
open Go.ConcR (stA smA mk)
open Go.ConcM (muA msA OsLater)
section
variable {P:Program}{X:Fk}{κ:Nat}
theorem OpP.makeFunc {n:Nat}{sh:Shp}{R:Rg}{o:Oper}{f:Fn}{first caps:Array Operand}{vs ws:List Value}(hop:o.op=.makeFunc f first caps)(h1:evRs R first.toList=some vs)(h2:evRs R caps.toList=some ws):OpP P sh n R o (.func f vs.toArray ws.toArray):=fun tmps hr=> by
 unfold execOp;rw[hop];show Next.value _=_;have e1:first.map (evT tmps)=vs.toArray:=by
   rw[←hr.evs h1,List.map_toArray.symm]
 have e2:caps.map (evT tmps)=ws.toArray:=by
   rw[←hr.evs h2,List.map_toArray.symm]
 rw[e1,e2]
theorem T.none {M:Md P}{St:View→Goroutine→Prop}{C:Nat}{H:View}{g:Goroutine}(hok:∀w,M.ok w→C<w.heap.size)(hph:∀H g Po,¬M.Ph H g Po)(h:T M St H g):H C=Option.none→T M (fun H' g'=> H' C=Option.none∧St H' g') H g:=
 h (fun H g=> H C=Option.none→T M (fun H' g'=> H' C=Option.none∧St H' g') H g) (fun _ _ hs hc=> .stop ⟨hc,hs⟩) (fun H g hs hc=> .step ⟨hs.1,fun w hw ho=> by
   obtain⟨g',w',es,H',h1,h2,h3⟩:=hs.2 w hw ho;refine⟨g',w',es,H',h1,h2,h3 ?_⟩;cases hx:H' C with
   | none=> rfl
   | some x=>
     obtain⟨f,o⟩:=x;rcases h2.ext _ _ _ hx with ⟨o',ho'⟩|⟨_,hle⟩
     · rw[hc] at ho';cases ho'
     · have:=hok w ho;omega⟩) (fun _ _ _ hp=> (hph _ _ _ hp).elim)
theorem T.none' {main:Bool}{St:View→Goroutine→Prop}{H:View}{g:Goroutine}(hc:H X.C=Option.none)(h:T (Mw P main X.ok) (fun H' g'=> H' X.C=Option.none→T (Mw P main X.ok) St H' g') H g):T (Mw P main X.ok) St H g:=
 (T.none (M:=Mw P main X.ok) (C:=X.C) (fun _ (h:X.ok _)=> h.1) (fun _ _ _ h=> h) h hc).bind fun _ _ ⟨h1,h2⟩=> h2 h1
theorem Sc.none {main:Bool}{St:View→Goroutine→Prop}{H:View}{n:Nat}{b:FB}{cs:List Frame}{R:Rg}{ds:List Deferred}{kk:List Item}(hc:H X.C=Option.none)
   (h:Sc (T (Mw P main X.ok) (fun H' g'=> H' X.C=Option.none→T (Mw P main X.ok) St H' g') H) n b cs R ds kk):Sc (T (Mw P main X.ok) St H) n b cs R ds kk:=fun tmps hr=> T.none' hc (h tmps hr)
theorem Sc.stopNone {main:Bool}{St:View→Goroutine→Prop}{H:View}{n:Nat}{b:FB}{cs:List Frame}{R:Rg}{ds:List Deferred}{kk:List Item}
   (h:H X.C=Option.none→Sc (T (Mw P main X.ok) St H) n b cs R ds kk):Sc (T (Mw P main X.ok) (fun H' g'=> H' X.C=Option.none→T (Mw P main X.ok) St H' g') H) n b cs R ds kk:=fun tmps hr=> .stop fun hc=> h hc tmps hr
theorem Sc.mono {J J':Goroutine→Prop}{n:Nat}{b:FB}{cs:List Frame}{R:Rg}{ds:List Deferred}{kk:List Item}(h:Sc J n b cs R ds kk)(hj:∀g,J g→J' g):Sc J' n b cs R ds kk:=fun tmps hr=> hj _ (h tmps hr)
end
end Go.RL
namespace Go.Proofs.YtdnfdeplcjaonaaGreatDoor
open Go.RL Go.Proofs.Tryz Go.Conc Go.ConcN Go.RL.Au
open Go.ConcR (stA smA)
set_option maxRecDepth 10000
set_option maxHeartbeats 4000000
def leftL(k:Bk)(D:Nat→Bool):List Value:=(List.range k.nt).map fun i=> .int .i64 (if D i then((k.left i:Nat):Int) else 0)
def GIl(k:Bk)(D:Nat→Bool)(o:Obj):Prop:=o=.cells ⟨leftL k D⟩ 3 (0,0)
theorem leftL_len(k:Bk)(D:Nat→Bool):(leftL k D).length=k.nt:=by simp[leftL]
theorem leftL_set(k:Bk)(D:Nat→Bool)(κ:Nat):(leftL k D).set κ (.int .i64 ((k.left κ:Nat):Int))=leftL k (also D κ):=by
 apply List.ext_getElem?
 intro i;unfold leftL also;rw[List.getElem?_set];by_cases e:κ=i
 · subst e;rw[if_pos rfl];by_cases h:κ<k.nt
   · rw[if_pos (by simpa using h),List.getElem?_map,List.getElem?_range h];simp
   · rw[if_neg (by simpa using h),List.getElem?_eq_none (by simp;omega)]
 · rw[if_neg e,List.getElem?_map,List.getElem?_map];by_cases h:i<k.nt
   · rw[List.getElem?_range h];have h2:¬i=κ:=fun h=> e h.symm;simp[h2]
   · rw[List.getElem?_eq_none (by simp;omega)];rfl
structure WkAt(X:Fk)(k:Bk)(H:View)(κ b5 b8 b6:Nat)(A:Option Addr)(lc:Nat)(B:Option Addr)(tc:Nat)(F:Nat→Option Addr)(fc:Nat→Nat):Prop where
 bk:BookAt H k A lc B tc F fc
 nl:k.nl≤1000
 nf:∀i,i<k.nl→k.nf i≤1000
 ok:k.trainsOk
 nt:k.nt≤6
 gap:0≤k.gap∧k.gap≤99
 give:0≤k.give∧k.give≤99
 h5:∃f,H b5=some (f,.cells ⟨(k.val A lc B tc).cells.toList⟩ 113 (0,0))
 h8:∃f,H b8=some (f,.cells ⟨[.int .i64 (κ:Nat)]⟩ 3 (0,0))
 h6:∃f,H b6=some (f,.cells ⟨[.slice (some ⟨X.C,0,none⟩) k.nt k.nt]⟩ 26 (0,0))
 kn:κ<k.nt
 GI:X.GI=GIl k
def wkVs(X:Fk)(b5 b8 b6:Nat):List Value:= [.pointer (some ⟨X.Wg,0,none⟩),.pointer (some ⟨b5,0,none⟩),.pointer (some ⟨b8,0,none⟩),.pointer (some ⟨b6,0,none⟩)]
section
variable {X:Fk}{bk:Bk}{H:View}{κ b5 b8 b6:Nat}{A:Option Addr}{lc:Nat}{B:Option Addr}{tc:Nat}{F:Nat→Option Addr}{fc:Nat→Nat}
theorem worker_c(w:WkAt X bk H κ b5 b8 b6 A lc B tc F fc)(k:Nat):
   Jw prog X κ k .pw H (Go.Conc.born prog { target:=.fn (.func 104) (wkVs X b5 b8 b6).toArray,args:=#[] }):=by
 obtain⟨hbk,hnl,hnf,hok,hnt,hgap,hgive,⟨f5,h5⟩,⟨f8,h8⟩,⟨f6,h6⟩,hκ,hGI⟩:=w;refine Cl.born (vs:=wkVs X b5 b8 b6) Jw.cl0 func104 (by kernel_rfl) rfl ntmps104 (Nat.le_of_ble_eq_true rfl) (by simp) ?_;unfold wkVs;refine .sq (.rg rfl rfl ?_);refine So.defer Jw.cl0 (f:=105) (vs:= [.pointer (some ⟨X.Wg,0,none⟩)]) rfl nofun rfl rfl ⟨_,rfl⟩ rfl ?_;refine .dn ?_;refine Sc.mono ?_ (fun g hg=> Jw.ofT rfl hg);refine Sc.ofTc (SymSt.nil H) ?_;refine Tc.dl 6 mixed rfl ?_;refine Tl.tk 0 (by kernel_rfl) (by kernel_rfl) rfl rfl (by decide) rfl rfl (OpV.take (OpV.load₀ (E:=en) rfl rfl h6 rfl rfl)) ?_;refine Tl.tk 1 (by kernel_rfl) (by kernel_rfl) rfl rfl (by decide) rfl rfl (OpV.take (OpV.load₀ (E:=en) rfl rfl h8 rfl rfl)) ?_;refine Tl.tk 2 (by kernel_rfl) (by kernel_rfl) rfl rfl (by decide) rfl rfl (OpV.take (OpV.load₀ (E:=en) rfl rfl h5 rfl rfl)) ?_;refine Tl.tk 3 (by kernel_rfl) (by kernel_rfl) rfl rfl (by decide) rfl rfl (OpV.take (OpV.load₀ (E:=en) rfl rfl h8 rfl rfl)) ?_;refine Tl.tk 4 (by kernel_rfl) (by kernel_rfl) rfl rfl (by decide) rfl rfl (OpV.takeCall rfl rfl rfl rfl (fun H hs=> .f ca106 rfl (left_c _ H bk A lc B tc F fc (hbk.le hs.base) hnl hnf hok hnt hgap hgive κ hκ))) ?_;refine Tl.tk 5 (by kernel_rfl) (by kernel_rfl) rfl rfl (by decide) rfl rfl (OpV.take .ia) ?_;refine Tl.done (by kernel_rfl) rfl ?_;refine To.ofSo (fun H1 hs=> ?_);refine So.mono ?_ (fun g hg=> Jw.toT rfl hg);have eoff:0+((κ:Nat):Int).toNat*1=κ:=by rw[Int.toNat_natCast];omega
 refine So.own (z:=((bk.left κ:Nat):Int)) (ik:=.i64) rfl rfl rfl ?_ rfl (by kernel_rfl) ?_ ?_
 · show some (Value.pointer (some ⟨X.C,0+((κ:Nat):Int).toNat*1,none⟩))=_;rw[eoff]
 · intro D o _ hGo;rw[hGI] at hGo ⊢;have hGo':o=.cells ⟨leftL bk D⟩ 3 (0,0):=hGo;subst hGo';refine⟨⟨leftL bk D⟩,3,rfl,by simp only[List.size_toArray,leftL_len];exact hκ,?_⟩;show Obj.cells _ 3 (0,0)=.cells ⟨leftL bk (also D κ)⟩ 3 (0,0);rw[←leftL_set];simp
 · exact fun k' _=> So.done Jw.cl0 (Sc.over Jw.cl0 rfl (done_d rfl (Sb.leaveD Jq.cl func104 rfl results104 (.inr rfl) Jq.bot)))
end
set_option maxHeartbeats 16000000
theorem ro_some {H:View}{b:Nat}{f:Bool}{o:Obj}(h:H b=some (f,o)):ro H b=some (false,o):=by simp[ro,h]
theorem ro_none {H:View}{b:Nat}(h:H b=none):ro H b=none:=by simp[ro,h]
def Keeps(H H':View):Prop:=∀b f o,H b=some (f,o)→∃f',H' b=some (f',o)
theorem src_of {H H':View}{sz m:Nat}{y:Value}{l:List Value}(h:SrcAt H sz y m l)(k:Keeps H H'):SrcAt H' sz y m l:=by
 obtain⟨h1,h2,h3⟩:=h;refine⟨h1,h2,h3.imp id ?_⟩;rintro⟨b,off,c,f,cs,e,fz,h4,h5,h6,h7⟩;obtain⟨f',h5'⟩:=k _ _ _ h5;exact⟨b,off,c,f',cs,e,fz,h4,h5',h6,h7⟩
theorem BookAt.of {H H':View}{k:Bk}{A:Option Addr}{lc:Nat}{B:Option Addr}{tc:Nat}{F:Nat→Option Addr}{fc:Nat→Nat}(h:BookAt H k A lc B tc F fc)(hk:Keeps H H'):BookAt H' k A lc B tc F fc:=
 ⟨h.hlc,h.htc,src_of h.rows hk,src_of h.trains hk,h.hfc,fun i hi=> src_of (h.free i hi) hk⟩
structure StAt(X:Fk)(k:Bk)(H:View)(b5 b6:Nat)(A:Option Addr)(lc:Nat)(B:Option Addr)(tc:Nat)(F:Nat→Option Addr)(fc:Nat→Nat):Prop where
 bk:BookAt H k A lc B tc F fc
 sm:k.small
 al:k.alarm=0
 n:X.n=k.nt
 h5:∃f,H b5=some (f,.cells ⟨(k.val A lc B tc).cells.toList⟩ 113 (0,0))
 h6:∃f,H b6=some (f,.cells ⟨[.slice (some ⟨X.C,0,none⟩) k.nt k.nt]⟩ 26 (0,0))
 C0:H X.C=none
 GI:X.GI=GIl k
theorem StAt.of {X:Fk}{k:Bk}{H H':View}{b5 b6:Nat}{A:Option Addr}{lc:Nat}{B:Option Addr}{tc:Nat}{F:Nat→Option Addr}{fc:Nat→Nat}(h:StAt X k H b5 b6 A lc B tc F fc)(hk:Keeps H H')(h0:H' X.C=none):StAt X k H' b5 b6 A lc B tc F fc:=
 ⟨h.bk.of hk,h.sm,h.al,h.n,let ⟨_,g⟩:=h.h5;hk _ _ _ g,let ⟨_,g⟩:=h.h6;hk _ _ _ g,h0,h.GI⟩
abbrev b33:FB:=⟨33,.normal,none⟩
noncomputable def L33:Code:=cR (cL (cR (cR (cR (cR (cR (bodyOf Tryz.f33)))))))
noncomputable def B33:Code:=cB (cB L33)
noncomputable def T33:Code:=cR (cR (cR (cR (cR (cR (bodyOf Tryz.f33))))))
section
variable {X:Fk}{k:Bk}{b1 b5 b6:Nat}{A:Option Addr}{lc:Nat}{B:Option Addr}{tc:Nat}{F:Nat→Option Addr}{fc:Nat→Nat}{Fin:Goroutine→Prop}{cs:List Frame}
def rgS(X:Fk)(k:Bk)(b1 b5 b6 j:Nat):Rg:= [(1,.pointer (some ⟨b1,0,none⟩)),(5,.pointer (some ⟨b5,0,none⟩)),(6,.pointer (some ⟨b6,0,none⟩)),(7,.pointer (some ⟨X.Wg,0,none⟩)),(24,.int .i64 (k.nt:Nat)),(25,.int .i64 (j:Nat))]
theorem start_loop(hfin:∀(R:Rg),AllIn (rgS X k b1 b5 b6 k.nt) R→∀κ (H:View),Sc (Jm prog X Fin κ .wd k.nt H) 50 b33 cs R [] [.code T33]):∀(d j κ:Nat) (H:View),j+d=k.nt→StAt X k H b5 b6 A lc B tc F fc→∀(R:Rg),AllIn (rgS X k b1 b5 b6 j) R→
   Sc (Jm prog X Fin κ (if j<X.n then .kd else .wd) j H) 50 b33 cs R [] [.code B33,.inLoop B33,.inBlock 0,.code T33]
 | 0,j,κ,H,hj,hst,R,hR=> by
   have e:j=k.nt:=by omega
   subst e;rw[if_neg (by rw[hst.n];omega)];refine Sc.drop hR ?_;unfold rgS;refine .sq (.rg rfl rfl ?_);refine .i ?_ (z:=lss_f (by omega));refine .dn ?_;refine Sc.seq Jm.cl (Sc.cond Jm.cl (t:=false) rfl (fun h=> nomatch h) (fun _=> ?_));refine .xt rfl ?_;exact hfin _ ⟨rfl,rfl,rfl,rfl,rfl,rfl,trivial⟩ κ H
 | d + 1,j,κ,H,hj,hst,R,hR=> by
   rw[if_pos (by rw[hst.n];omega)];refine Sc.drop hR ?_;unfold rgS;obtain⟨hg,hnl,hnt,hok⟩:=Bk.valid hst.al;refine .sq (.rg rfl rfl ?_);refine .i ?_ (z:=lss_t (by omega));refine .dn ?_;refine Sc.seq Jm.cl (Sc.cond Jm.cl (t:=true) rfl (fun _=> ?_) (fun h=> nomatch h));refine .sp (.sq (.bl (.sq ?_)));refine Sc.none hst.C0 ?_;refine Sc.ofTc (SymSt.nil H) ?_;refine .r ?_;refine .m ?_;refine .e (.al (zz:=fun b8=> ?_));refine .e (.st 0 (zz:=?_));refine .done ?_;refine Tc.ofSc (fun H1 hs=> Sc.stopNone (fun hC1=> ?_));have hst1:StAt X k H1 b5 b6 A lc B tc F fc:=hst.of (fun b f o h=> ⟨f,hs.base _ _ h⟩) hC1;have h8:=hs.get (i:=0) rfl;show Sc (Jm prog X Fin κ .kd j H1) 50 b33 cs _ [] _;refine .sq (.rg rfl rfl ?_);refine So.callD rfl rfl rfl nofun rfl (.mk' rfl) rfl (addone_c) ?_;rintro v J' ⟨rfl,κ',rfl⟩;refine .dn (.rg rfl rfl ?_);refine So.opD Jm.cl rfl rfl rfl rfl (OpP.makeFunc rfl rfl rfl) ?_;have hst2:StAt X k (ro H1) b5 b6 A lc B tc F fc:=hst1.of (fun b f o h=> ⟨false,ro_some h⟩) (ro_none hC1);refine Jm.go (f:=104) (fn:=#[]) (caps:=(wkVs X b5 b8 b6).toArray) rfl nofun rfl rfl rfl rfl rfl rfl rfl (fun k1 _=> ?_) (fun k1 _=> ?_)
   · refine .dn (.ib (.rg rfl rfl ?_));refine .i ?_ (z:=add_in (by omega) (by omega));refine .m ?_;refine .dn ?_;refine Sc.inLoop (by exact Jm.cl) ?_;exact start_loop hfin d (j+1) k1 (ro H1) (by omega) hst2 _ ⟨rfl,rfl,rfl,rfl,rfl,rfl,trivial⟩
   · exact worker_c ⟨hst2.bk,hst.sm.nl,fun i hi=> (hst.sm.num i hi).2,hok,hnt,by omega,by omega,hst2.h5,⟨false,ro_some h8⟩,hst2.h6,by omega,hst.GI⟩ k1
end
theorem Ph.of₁ {P:Program}{H:View}{g:Goroutine}{Po:View→Goroutine→Prop}(h:Ph₁ P H g Po):Ph P H g Po:=
 ⟨H,fun _=> none,Po,fun _ _ h=> (nomatch h),(by funext b;unfold View.plus;cases H b <;> rfl),h,fun H' g' _ hp=> by
   have e:H'.plus (fun _=> none)=H':=by funext b;unfold View.plus;cases H' b <;> rfl
   rwa [e]⟩
def View.beside(X:Fk)(H:View):View:=(H.without X.C).without X.Wg
theorem beside_none {X:Fk}{H:View}:View.beside X H X.Wg=none∧View.beside X H X.C=none:=by
 refine⟨?_,?_⟩ <;> unfold View.beside View.without <;> simp
theorem beside_some {X:Fk}{H:View}{b:Nat}(h1:b≠X.C)(h3:b≠X.Wg):View.beside X H b=H b:=by
 unfold View.beside;rw[without_other h3,without_other h1]
theorem Ph.begin {P:Program}{H:View}{g:Goroutine}{Po:View→Goroutine→Prop}(X:Fk)(Fin:Goroutine→Prop)(o:Obj)(hn:X.n≤6)(ne:X.Wg≠X.C)
   (hC:H X.C=some (true,o)) (hWg:H X.Wg=some (true,X.wgO ⟨0,0,0⟩)) (hGI:X.GI (fun _=> false) o)
   (hg:∀k,T (Mw P true X.ok) (MS P X Fin k (if 0<X.n then .kd else .wd) 0) (ro (View.beside X H)) g) (hPo:∀o' g',X.GI (fun i=> decide (i<X.n)) o'→Fin g'→Po ((View.beside X H).put X.C (true,o')) g'):Ph P H g Po:=by
 refine Ph.of₁ ⟨X,Fin,View.beside X H,o,hn,ne,beside_none,?_,hGI,hg,hPo⟩
 funext b
 by_cases e1:b=X.Wg
 · subst e1;rw[View.put_same,hWg]
 · rw[View.put_other _ _ e1];by_cases e3:b=X.C
   · subst e3;rw[View.put_same,hC]
   · rw[View.put_other _ _ e3,beside_some e3 e1]
theorem So.all {J:Obj→Goroutine→Prop}{p:Obj→Prop}{n:Nat}{b:FB}{cs:List Frame}{dl:List (Option Tmp)}{R:Rg}{ds:List Deferred}{l:List Oper}{kk:List Item}(h:∀o,p o→So (J o) n b cs dl R ds l kk):So (fun g=> ∀o,p o→J o g) n b cs dl R ds l kk:=
 fun arr ix ha hx tmps hr o ho=> h o ho arr ix ha hx tmps hr
def Bk.lookTo(k:Bk):Nat→Int×Int
 | 0=> (-1,(k.resL.length:Nat))
 | j+1=> if((k.left j:Nat):Int)<(k.lookTo j).2 then((j:Nat),((k.left j:Nat):Int)) else k.lookTo j
def Bk.look(k:Bk):Int×Int:=k.lookTo k.nt
def lookV(p:Int×Int):Value:=.tuple ⟨[.int .i64 p.1,.int .i64 p.2,.int .i64 0]⟩
section
theorem Look_c(H:View)(k:Bk)(A:Option Addr)(lc:Nat)(B:Option Addr)(tc:Nat)(F:Nat→Option Addr)(fc:Nat→Nat)(hB:BookAt H k A lc B tc F fc)(hn:k.small)(hG:Glob H)(ha:k.alarm=0):
   CallT (Mp prog) 33 #[k.val A lc B tc] H (fun v H'=> H.le H'∧v=lookV k.look):=by
 obtain⟨hgg,hnl,hnt,hok⟩:=Bk.valid ha;have hop:=fun(H':View) (h':H.le H')=> open_yes (Mp prog) H' k A lc B tc (hB.bk.le h') hn (glob_le hG h') ha;refine .en func33 ntmps33 fun St c cs hK=> ?_;refine .sr ?_;refine .e (.bx (zz:=fun b1=> ?_));refine .g ?_;refine .g ?_;refine .g ?_;refine .done (.sr ?_);refine .x (.ld 0) ?_;refine .c rfl rfl rfl rfl (fun H hs=> .f ca81 rfl (hop H hs.base)) ?_;refine .m ?_;refine .x .et ?_;refine .x .et ?_;refine .e (.al (zz:=fun b5=> ?_));refine .e (.st 0 (zz:=?_));refine .g ?_;refine .done (.seq (.sr ?_));refine .m ?_;refine .i ?_ (z:=neq_f (by omega));refine .done (.ff rfl (.skip (.sr ?_)));refine .x .fa ?_;refine .x (.ld 1) ?_;refine .x .ln ?_;refine .e (Or.makeSlice (E:=en) (len:=k.nt) (cap:=k.nt) rfl rfl rfl rfl rfl rfl (Nat.le_refl _) (by omega) rfl rfl (by decide) (fun bC=> ?_));refine .e (.al (zz:=fun b6=> ?_));refine .e (.st 0 (zz:=?_));refine .done (.sr ?_);refine .e (.al (zz:=fun b7=> ?_));refine .done (.seq (.sr ?_));refine .x (.ld 1) ?_;refine .x .ln ?_;refine .m ?_;refine .done ?_;refine Tc.ofSc (fun Hx hs tmps hr=> ?_);obtain⟨X,hX⟩:∃X:Fk,X=⟨k.nt,b7,bC,156,GIl k⟩:=⟨_,rfl⟩
 have x1:=hs.get (i:=0) rfl;have x2:=hs.get (i:=1) rfl;have x3:=hs.get (i:=2) rfl;have x4:=hs.get (i:=3) rfl;have x5:=hs.get (i:=4) rfl;have hnd: [b7,b6,bC,b5,b1].Nodup:=hs.nodup;simp only[List.nodup_cons,List.mem_cons,List.not_mem_nil,or_false,not_or,not_false_eq_true,List.nodup_nil,and_true] at hnd;obtain⟨⟨n1,n2,n3,n4⟩,⟨n5,n6,n7⟩,⟨n8,n9⟩,n10⟩:=hnd;have hout:∀y,y=bC∨y=b7→H y=none:=by
   rintro y (rfl|rfl)
   · exact hs.out _ (List.mem_cons_of_mem _ (List.mem_cons_of_mem _ List.mem_cons_self))
   · exact hs.out _ List.mem_cons_self
 have hle:H.le (View.beside X Hx):=fun b y hb=> by
   have e:∀z,z=bC∨z=b7→b≠z:=fun z hz e=> by subst e;rw[hout b hz] at hb;cases hb
   rw[beside_some (by subst hX;exact e _ (.inl rfl)) (by subst hX;exact e _ (.inr rfl))];exact hs.base _ _ hb
 have y5:View.beside X Hx b5=some (true,.cells ⟨(k.val A lc B tc).cells.toList⟩ 113 (0,0)):=by
   subst hX;rw[beside_some (by exact Ne.symm n8) (by exact Ne.symm n3)];exact x4
 have y6:View.beside X Hx b6=some (true,.cells ⟨[.slice (some ⟨bC,0,none⟩) k.nt k.nt]⟩ 26 (0,0)):=by
   subst hX;rw[beside_some n5 (by exact Ne.symm n1)];exact x2
 obtain⟨Fin,hF⟩:∃Fin:Goroutine→Prop,Fin=fun g=> ∀o',X.GI (fun i=> decide (i<X.n)) o'→T (Mp prog) St ((View.beside X Hx).put X.C (true,o')) g:=⟨_,rfl⟩
 have hcF:Cl prog true noSh Fin:=⟨fun g g' hs h hf=> by
   subst hF;exact fun o' ho=> .step ⟨hs,fun w hw hok=> ⟨g',w,#[],_,h w (fun _ _ e=> by cases e),.refl hw,hf o' ho⟩⟩⟩
 have hz:zeroRow [Value.int .i64 0] (k.nt*1)=leftL k (fun _=> false):=by
   rw[zeroRow_one,Nat.mul_one];unfold leftL;simp[List.map_const']
 refine T.phase (Po:=fun H' g'=> T (Mp prog) St H' g') (Ph.begin X Fin (.cells ⟨leftL k (fun _=> false)⟩ 3 (0,0)) (by subst hX;exact hnt) (by subst hX;exact n2) (by subst hX;rw[←hz];exact x3) (by subst hX;exact x1) (by subst hX;exact rfl) (fun κ=> ?_) (fun o' g' ho hg=> by subst hF;exact hg o' ho)) (fun H' g' h=> h);have hst:StAt X k (ro (View.beside X Hx)) b5 b6 A lc B tc F fc:=
   ⟨hB.of (fun b f o h=> ⟨false,ro_some (hle _ _ h)⟩),hn,ha,by subst hX;rfl,⟨false,ro_some y5⟩,by subst hX;exact⟨false,ro_some y6⟩,ro_none beside_none.2,by subst hX;rfl⟩
 have hfin:∀(R:Rg),AllIn (rgS X k b1 b5 b6 k.nt) R→∀κ (H:View),Sc (Jm prog X Fin κ .wd k.nt H) 50 b33 (c::cs) R [] [.code T33]:=by
   intro R hR κ Hk;refine Sc.drop hR ?_;unfold rgS;refine .sq (.rg rfl rfl ?_);refine So.callD rfl rfl rfl nofun rfl (.mk' rfl) rfl (wait_c hcF) ?_;rintro v J' ⟨rfl,rfl⟩;subst hF;refine So.all (fun o' ho'=> ?_);have hGI:X.GI=GIl k:=by subst hX;rfl
   rw[hGI] at ho';have ho2:o'=.cells ⟨leftL k (fun i=> decide (i<X.n))⟩ 3 (0,0):=ho';subst ho2;have hX2:X.n=k.nt:=by subst hX;rfl
   have z5:(View.beside X Hx).put X.C (true,.cells ⟨leftL k (fun i=> decide (i<X.n))⟩ 3 (0,0)) b5=some (true,.cells ⟨(k.val A lc B tc).cells.toList⟩ 113 (0,0)):=by
     rw[View.put_other _ _ (by subst hX;exact Ne.symm n8)];exact y5
   have z6:(View.beside X Hx).put X.C (true,.cells ⟨leftL k (fun i=> decide (i<X.n))⟩ 3 (0,0)) b6=some (true,.cells ⟨[.slice (some ⟨X.C,0,none⟩) k.nt k.nt]⟩ 26 (0,0)):=by
     rw[View.put_other _ _ (by subst hX;exact n5)];subst hX;exact y6
   have zC:(View.beside X Hx).put X.C (true,.cells ⟨leftL k (fun i=> decide (i<X.n))⟩ 3 (0,0)) X.C=some (true,.cells ⟨leftL k (fun i=> decide (i<X.n))⟩ 3 (0,0)):=View.put_same ..;have zle:H.le ((View.beside X Hx).put X.C (true,.cells ⟨leftL k (fun i=> decide (i<X.n))⟩ 3 (0,0))):=fun b y hb=> by
     rw[View.put_other _ _ (by rintro rfl;subst hX;rw[hout bC (.inl rfl)] at hb;cases hb)];exact hle _ _ hb
   generalize (View.beside X Hx).put X.C (true,.cells ⟨leftL k (fun i=> decide (i<X.n))⟩ 3 (0,0))=H2 at z5 z6 zC zle;refine So.ofTo (SymSt.nil H2) ?_;refine .done (.sr ?_);refine .x .l0 ?_;refine To.callF rfl rfl rfl rfl rfl rfl (by decide) (FnT.f ca94 rfl (results_c _ H2 k A lc B tc (hB.bk.le zle).rows hn.nl (hB.bk.le zle).trains hok hnt)) (fun v H₃ hv=> ?_);obtain⟨hle3,m,es,cl,rfl,⟨fm,q3⟩,q4⟩:=hv;have hsz:=Bk.res_size q4;have z6':=hle3 _ _ z6;have zC':=hle3 _ _ zC;refine .x (OpV.lenMap (E:=en) (es:=es) rfl rfl rfl rfl rfl (fun H hs=> ⟨fm,hs.base _ _ q3⟩) rfl rfl) ?_;refine .g ?_;refine .g ?_;refine .done ?_;rw[hsz];refine .seq (.sr ?_);refine .x .l0 ?_;refine .x .ln ?_;refine .m ?_;refine .done (.block ?_);refine Tc.db (Tc.loopInv (σ:= { j:Nat//j≤k.nt }) (fun j=> ([(2,.int .i64 (k.lookTo j.1).1),(3,.int .i64 (k.lookTo j.1).2),(35,.slice (some ⟨X.C,0,none⟩) k.nt k.nt),(36,.int .i64 (k.nt:Nat)),(37,.int .i64 (j.1:Nat))],[])) (fun j=> k.nt-j.1) ?_ ⟨0,Nat.zero_le _⟩);rintro⟨j,hj⟩ ih;show Tc (Mp prog) St _ _ _ _ [(2,.int .i64 (k.lookTo j).1),(3,.int .i64 (k.lookTo j).2),(35,.slice (some ⟨X.C,0,none⟩) k.nt k.nt),(36,.int .i64 (k.nt:Nat)),(37,.int .i64 (j:Nat))] [] _ _;by_cases c1:j=k.nt
   · subst c1;refine .sr ?_;refine .i ?_ (z:=lss_f (by omega));refine .done (.seq (.ff rfl (.exit rfl (.sr ?_))));refine .m ?_;refine .m ?_;refine .g ?_;refine .g ?_;refine .g ?_;refine .done ?_;refine .rt hK func33 results33 [_,_,_] ?_;exact fun H' hs=> ⟨View.le_trans zle (View.le_trans hle3 hs.base),rfl⟩
   · have c2:j<k.nt:=by omega
     have f1:ldL false 1 (leftL k (fun i=> decide (i<X.n))) (0+((j:Nat):Int).toNat*1)=some (.int .i64 ((k.left j:Nat):Int)):=by
       show _[_]? =_;rw[Nat.zero_add,Int.toNat_natCast,Nat.mul_one];unfold leftL;rw[List.getElem?_map,List.getElem?_range c2];simp[hX2,c2]
     by_cases c3:((k.left j:Nat):Int)<(k.lookTo j).2
     · have e:k.lookTo (j+1)=(((j:Nat):Int),((k.left j:Nat):Int)):=by rw[Bk.lookTo,if_pos c3]
       refine .sr ?_;refine .i ?_ (z:=lss_t (by omega));refine .done (.seq (.tt rfl (.skip (.seq (.block (.sr ?_))))));refine .m ?_;refine .x .ia ?_;refine .x .l0 ?_;refine .g ?_;refine .g ?_;refine .done (.sr ?_);refine .m ?_;refine .m ?_;refine .i ?_ (z:=lss_t (by omega));refine .done (.tt rfl (.r ?_));refine .m ?_;refine .m ?_;refine .g ?_;refine .g ?_;refine .done (.inBlock (.r ?_));refine .i ?_ (z:=add_in (by omega) (by omega));refine .m ?_;refine .done ?_;refine Tc.dropB (ih ⟨j+1,c2⟩ (by simp only;omega)) ?_ (by exact List.Sublist.refl _);simp only[e];exact⟨rfl,rfl,rfl,rfl,rfl,trivial⟩
     · have e:k.lookTo (j+1)=k.lookTo j:=by rw[Bk.lookTo,if_neg c3]
       refine .sr ?_;refine .i ?_ (z:=lss_t (by omega));refine .done (.seq (.tt rfl (.skip (.seq (.block (.sr ?_))))));refine .m ?_;refine .x .ia ?_;refine .x .l0 ?_;refine .g ?_;refine .g ?_;refine .done (.sr ?_);refine .m ?_;refine .m ?_;refine .i ?_ (z:=lss_f (by omega));refine .done (.ff rfl (.skip (.inBlock (.r ?_))));refine .i ?_ (z:=add_in (by omega) (by omega));refine .m ?_;refine .done ?_;refine Tc.dropB (ih ⟨j+1,c2⟩ (by simp only;omega)) ?_ (by exact List.Sublist.refl _);simp only[e];exact⟨rfl,rfl,rfl,rfl,rfl,trivial⟩
 refine Sc.block Jm.cl (Sc.loop Jm.cl ?_) tmps hr;have hgo:=start_loop hfin k.nt 0 κ (ro (View.beside X Hx)) (by omega) hst;subst hX;exact hgo _ (by unfold rgS;refine⟨rfl,?_⟩;refine⟨rfl,?_⟩;refine⟨rfl,?_⟩;refine⟨rfl,?_⟩;refine⟨rfl,?_⟩;refine⟨rfl,?_⟩;exact trivial)
end
end Go.Proofs.YtdnfdeplcjaonaaGreatDoor
namespace Go.Proofs.YtdnfdeplcjaonaaGreatDoor
open Go.RL Go.Proofs.Tryz
set_option maxRecDepth 10000
theorem less_cons(a b:UInt8)(x y:List UInt8):Op.bytesLess (a::x) (b::y)=(decide (a<b)||(a==b&&Op.bytesLess x y)):=rfl
theorem less_nil(s:List UInt8):Op.bytesLess s []=false:=by cases s <;> rfl
theorem u8_lt {a b:UInt8}:a<b↔a.toNat<b.toNat:=UInt8.lt_iff_toNat_lt
theorem less_trans:∀ {a b c:List UInt8},Op.bytesLess a b=true→Op.bytesLess b c=true→Op.bytesLess a c=true
 | _,[],_,h,_=> by rw[less_nil] at h;cases h
 | _,_::_,[],_,h=> by rw[less_nil] at h;cases h
 | [],_::_,_::_,_,_=> rfl
 | p ::a,q::b,r::c,h,k=> by
   rw[less_cons] at h k ⊢;simp only[Bool.or_eq_true,Bool.and_eq_true,decide_eq_true_eq,beq_iff_eq] at h k ⊢;rcases h with h|⟨rfl,h⟩
   · rcases k with k|⟨rfl,_⟩
     · exact .inl (UInt8.lt_trans h k)
     · exact .inl h
   · rcases k with k|⟨rfl,k⟩
     · exact .inl k
     · exact .inr ⟨rfl,less_trans h k⟩
theorem less_tri:∀ {a b:List UInt8},Op.bytesLess a b=false→Op.bytesLess b a=false→a=b
 | [],[],_,_=> rfl
 | [],_::_,h,_=> by cases h
 | _::_,[],_,h=> by cases h
 | p ::a,q::b,h,k=> by
   rw[less_cons] at h k;simp only[Bool.or_eq_false_iff,decide_eq_false_iff_not,Bool.and_eq_false_iff,beq_eq_false_iff_ne] at h k;have e:p=q:=by
     have h1:=h.1;have k1:=k.1;rw[u8_lt] at h1 k1;exact UInt8.toNat_inj.1 (by omega)
   subst e;have h2:=h.2.resolve_left (fun h=> h rfl);have k2:=k.2.resolve_left (fun h=> h rfl);rw[less_tri h2 k2]
theorem less_asym {a b:List UInt8}(h:Op.bytesLess a b=true):Op.bytesLess b a=false:=by
 cases k:Op.bytesLess b a with
 | false=> rfl
 | true=>
   have:=less_trans h k;rw[less_irr] at this;cases this
def rankS(S:List (List UInt8))(s:List UInt8):Nat:=S.countP fun t=> Op.bytesLess t s
theorem rank_le {a b:List UInt8}(h:Op.bytesLess a b=true):∀S:List (List UInt8),rankS S a≤rankS S b
 | []=> Nat.le_refl _
 | t ::S=> by
   have:=rank_le h S;unfold rankS at this ⊢;rw[List.countP_cons,List.countP_cons];by_cases k:Op.bytesLess t a=true
   · rw[if_pos k,if_pos (less_trans k h)];omega
   · rw[if_neg k];split <;> omega
theorem rank_lt {a b:List UInt8}(h:Op.bytesLess a b=true):∀S:List (List UInt8),a∈S→rankS S a<rankS S b
 | t ::S,hm=> by
   have hle:=rank_le h S;rcases List.mem_cons.1 hm with rfl|hm
   · unfold rankS at hle ⊢;rw[List.countP_cons,List.countP_cons,if_neg (by rw[less_irr];decide),if_pos h];omega
   · have:=rank_lt h S hm;unfold rankS at this ⊢;rw[List.countP_cons,List.countP_cons];by_cases k:Op.bytesLess t a=true
     · rw[if_pos k,if_pos (less_trans k h)];omega
     · rw[if_neg k];split <;> omega
def decS(S:List (List UInt8))(z:Int):List UInt8:=(S.find? fun s=> decide ((rankS S s:Int)=z)).getD []
theorem dec_rank {S:List (List UInt8)}{s:List UInt8}(h:s∈S):decS S (rankS S s:Nat)=s:=by
 unfold decS;cases hf:S.find? (fun t=> decide ((rankS S t:Int)=(rankS S s:Nat))) with
 | none=>
   have:=List.find?_eq_none.1 hf s h;simp at this
 | some t=>
   have h1:=List.mem_of_find?_eq_some hf;have h2:=List.find?_some hf;simp only[decide_eq_true_eq,Int.natCast_inj] at h2;show t=s;cases k:Op.bytesLess t s with
   | true=> have:=rank_lt k S h1;omega
   | false=>
     cases k2:Op.bytesLess s t with
     | true=> have:=rank_lt k2 S h;omega
     | false=> exact less_tri k k2
def codesS(S:List (List UInt8)):List Int:=S.map fun s=> ((rankS S s:Nat):Int)
theorem codes_dec(S:List (List UInt8)):(codesS S).map (decS S)=S:=by
 unfold codesS;rw[List.map_map];have:∀s∈S,(decS S∘fun s=> ((rankS S s:Nat):Int)) s=s:=fun s hs=> dec_rank hs;rw[List.map_congr_left this,List.map_id']
theorem codes_enc(S:List (List UInt8)):Enc (decS S) (codesS S):=by
 intro x hx y hy;obtain⟨s,hs,rfl⟩:=List.mem_map.1 hx;obtain⟨t,ht,rfl⟩:=List.mem_map.1 hy;rw[dec_rank hs,dec_rank ht];cases k:Op.bytesLess s t with
 | true=> exact(decide_eq_true (by have:=rank_lt k S hs;omega)).symm
 | false=>
   refine(decide_eq_false ?_).symm;intro hlt;cases k2:Op.bytesLess t s with
   | true=> have:=rank_lt k2 S ht;omega
   | false=>
     have:=less_tri k k2;subst this;omega
def leS(a b:List UInt8):Bool:=!Op.bytesLess b a
def insS(x:List UInt8):List (List UInt8)→List (List UInt8)
 | []=> [x]
 | y::t=> if leS x y then x::y::t else y::insS x t
def sortS:List (List UInt8)→List (List UInt8)
 | []=> []
 | x::t=> insS x (sortS t)
theorem insS_perm(x:List UInt8):∀l,(insS x l).Perm (x::l)
 | []=> .refl _
 | y::t=> by
   unfold insS;split
   · exact .refl _
   · exact(List.Perm.cons y (insS_perm x t)).trans (.swap ..)
theorem sortS_perm:∀l,(sortS l).Perm l
 | []=> .refl _
 | x::t=> (insS_perm x _).trans (.cons x (sortS_perm t))
theorem leS_trans {a b c:List UInt8}(h:leS a b=true)(k:leS b c=true):leS a c=true:=by
 unfold leS at *;simp only[Bool.not_eq_true'] at *;cases e:Op.bytesLess c a with
 | false=> rfl
 | true=>
   cases e2:Op.bytesLess b c with
   | true=> rw[less_trans e2 e] at h;cases h
   | false=>
     have:=less_tri e2 k;subst this;rw[e] at h;cases h
theorem leS_total {a b:List UInt8}(h:leS a b=false):leS b a=true:=by
 unfold leS at *;simp only[Bool.not_eq_true',Bool.not_eq_false'] at *;exact less_asym h
theorem insS_sorted(x:List UInt8):∀l:List (List UInt8),l.Pairwise (fun a b=> leS a b=true)→(insS x l).Pairwise (fun a b=> leS a b=true)
 | [],_=> List.pairwise_singleton _ _
 | y ::t,h=> by
   obtain⟨h1,h2⟩:=List.pairwise_cons.1 h;unfold insS;split
   · rename_i hx
     refine List.pairwise_cons.2 ⟨fun z hz=> ?_,h⟩;rcases List.mem_cons.1 hz with rfl|hz
     · exact hx
     · exact leS_trans hx (h1 z hz)
   · rename_i hx
     refine List.pairwise_cons.2 ⟨fun z hz=> ?_,insS_sorted x t h2⟩;rcases List.mem_cons.1 ((insS_perm x t).mem_iff.1 hz) with rfl|hz
     · exact leS_total (by simpa using hx)
     · exact h1 z hz
theorem sortS_sorted:∀l:List (List UInt8),(sortS l).Pairwise (fun a b=> leS a b=true)
 | []=> List.Pairwise.nil
 | x::t=> insS_sorted x _ (sortS_sorted t)
theorem sorted_uniq {l m:List (List UInt8)}(h:l.Perm m)(hl:l.Pairwise (fun a b=> leS a b=true))(hm:m.Pairwise (fun a b=> leS a b=true)):l=m:=
 List.Perm.eq_of_pairwise (le:=fun a b=> leS a b=true) (fun a b _ _ h1 h2=> by
   unfold leS at h1 h2;simp only[Bool.not_eq_true'] at h1 h2;exact less_tri h2 h1) hl hm h
theorem codes_sorted {S:List (List UInt8)}{m:List Int}{n:Nat}(hn:n=S.length)(ht:Turned 0 n (codesS S) m)(hs:Srt 0 n m):m.map (decS S)=sortS S:=by
 have hpm:m.Perm (codesS S):=List.perm_iff_count.2 ht.cnt;have hp:(m.map (decS S)).Perm S:=by
   have:=hpm.map (decS S)
   rwa [codes_dec] at this
 refine sorted_uniq (hp.trans (sortS_perm S).symm) ?_ (sortS_sorted S);rw[List.pairwise_map,List.pairwise_iff_getElem];intro i j hi hj hij;have hml:m.length=n:=by rw[ht.len,hn];simp[codesS]
 have h1:=hs i j (Nat.zero_le _) hij (by omega);unfold at0 at h1;rw[List.getElem?_eq_getElem hi,List.getElem?_eq_getElem hj] at h1;simp only[Option.getD_some] at h1;have h2:=(codes_enc S).turned ht m[j] (List.getElem_mem hj) m[i] (List.getElem_mem hi);unfold leS;rw[h2,decide_eq_false (by omega)];rfl
theorem strsL_codes(S:List (List UInt8)):strsL (decS S) (codesS S)=S.map strV:=by
 have:=congrArg (List.map strV) (codes_dec S);rw[List.map_map] at this;exact this
theorem strsL_map(dec:Int→List UInt8)(m:List Int):strsL dec m=(m.map dec).map strV:=by
 rw[List.map_map];rfl
theorem blockVia {P:Program}{M:Md P}{St:View→Goroutine→Prop}{n:Nat}{b:FB}{H₀:View}{cs:List Frame}{R:Rg}{L:Bl}{ds:List Deferred}{k:List Item}{id:Nat}{x:Code}(F:Rg→Bl→Prop)(hF:∀R L,F R L→Tc M St n b H₀ cs R L ds k)
   (h:(∀R L,F R L→Tc M St n b H₀ cs R L ds k)→Tc M St n b H₀ cs R L ds (.code x:: .inBlock id::k)):Tc M St n b H₀ cs R L ds (.code (.block id x)::k):=.block (h hF)
def Ahead(a b:Nat)(u:List Int):Prop:=a=0∨∀i,a≤i→i<b→at0 u (a-1)≤at0 u i
theorem srt_swap {a i p q:Nat}{w:List Int}(hp:i≤p∧p<w.length)(hq:i≤q∧q<w.length)(h:Srt a i w):Srt a i (swapL w p q):=fun x y h1 h2 h3=> by
 rw[swapL_at hp.2 hq.2,swapL_at hp.2 hq.2,if_neg (by omega),if_neg (by omega),if_neg (by omega),if_neg (by omega)];exact h x y h1 h2 h3
theorem srt_snoc {a i:Nat}{u:List Int}(h:Srt a i u)(hi:a<i)(hle:¬at0 u i<at0 u (i-1)):Srt a (i+1) u:=fun p q h1 h2 h3=> by
 by_cases e:q=i
 · subst e;by_cases e2:p=q-1
   · rw[e2];omega
   · have:=h p (q-1) h1 (by omega) (by omega);omega
 · exact h p q h1 h2 (by omega)
theorem at0_some {l:List Int}{i:Nat}(h:i<l.length):l[i]? =some (at0 l i):=by
 unfold at0;rw[List.getElem?_eq_getElem h];rfl
theorem Turned.get {a b:Nat}{l m:List Int}(h:Turned a b l m){i:Nat}(hi:i<a∨b≤i):m[i]? =l[i]? :=by
 by_cases c:i<l.length
 · rw[at0_some c,at0_some (by rw[h.len];exact c),h.out i hi]
 · have hl:=h.len;rw[List.getElem?_eq_none (by omega),List.getElem?_eq_none (by omega)]
theorem parts_eq(l:List Int){a b:Nat}(hab:a≤b):l=l.take a++((l.drop a).take (b-a)++l.drop b):=by
 have h1:l.drop b=(l.drop a).drop (b-a):=by rw[List.drop_drop];congr 1;omega
 rw[h1,List.take_append_drop,List.take_append_drop]
theorem Turned.mid {a b:Nat}{l m:List Int}(h:Turned a b l m)(hab:a≤b)(x:Int):((m.drop a).take (b-a)).count x=((l.drop a).take (b-a)).count x:=by
 have e1:m.take a=l.take a:=by
   apply List.ext_getElem?
   intro i;by_cases c:i<a
   · rw[List.getElem?_take_of_lt c,List.getElem?_take_of_lt c];exact h.get (.inl c)
   · rw[List.getElem?_eq_none (by rw[List.length_take];omega),List.getElem?_eq_none (by rw[List.length_take];omega)]
 have e2:m.drop b=l.drop b:=by
   apply List.ext_getElem?
   intro i;rw[List.getElem?_drop,List.getElem?_drop];exact h.get (.inr (by omega))
 have h1:=h.cnt x;have h2:=congrArg (List.count x) (parts_eq m hab);have h3:=congrArg (List.count x) (parts_eq l hab);simp only[List.count_append] at h2 h3;rw[e1,e2] at h2;omega
theorem Turned.all {a b:Nat}{l m:List Int}(h:Turned a b l m)(hb:b≤l.length){P:Int→Prop}(hP:∀p,a≤p→p<b→P (at0 l p)):∀p,a≤p→p<b→P (at0 m p):=fun p h1 h2=> by
 have g1:at0 m p∈(m.drop a).take (b-a):=by
   rw[List.mem_iff_getElem?];refine⟨p-a,?_⟩;rw[List.getElem?_take_of_lt (by omega),List.getElem?_drop,show a+(p-a)=p by omega];exact at0_some (by rw[h.len];omega)
 have g2:at0 m p∈(l.drop a).take (b-a):=by
   rw[←List.count_pos_iff,←h.mid (by omega)];exact List.count_pos_iff.2 g1
 obtain⟨i,hi⟩:=List.mem_iff_getElem?.1 g2;have hlt:i<b-a:=by
   have:=(List.getElem?_eq_some_iff.1 hi).1;rw[List.length_take] at this;omega
 rw[List.getElem?_take_of_lt hlt,List.getElem?_drop,at0_some (by omega)] at hi;have:=Option.some.inj hi;rw[←this];exact hP (a+i) (by omega) (by omega)
theorem Ahead.turn {a b:Nat}{u w:List Int}(h:Ahead a b u)(k:Turned a b u w)(hb:b≤u.length):Ahead a b w:=by
 rcases h with h|h
 · exact .inl h
 · by_cases h0:a=0
   · exact .inl h0
   · refine .inr fun i h1 h2=> ?_;rw[k.out (a-1) (.inl (by omega))];exact k.all hb (P:=fun x=> at0 u (a-1)≤x) h i h1 h2
def Heap(f lo hi:Nat)(l:List Int):Prop:=∀k c,lo≤k→(c=2*k+1∨c=2*k+2)→c<hi→at0 l (f+c)≤at0 l (f+k)
def HeapBut(f lo hi r:Nat)(l:List Int):Prop:=
 (∀k c,lo≤k→k≠r→(c=2*k+1∨c=2*k+2)→c<hi→at0 l (f+c)≤at0 l (f+k))∧
 (∀k c,lo≤k→(r=2*k+1∨r=2*k+2)→(c=2*r+1∨c=2*r+2)→c<hi→at0 l (f+c)≤at0 l (f+k))
theorem Heap.top {f hi:Nat}{l:List Int}(h:Heap f 0 hi l):∀k,k<hi→at0 l (f+k)≤at0 l f:=by
 intro k;induction k using Nat.strongRecOn with
 | ind k ih=>
   intro hk;by_cases h0:k=0
   · subst h0;exact Int.le_refl _
   · have h1:=h ((k-1)/2) k (Nat.zero_le _) (by omega) hk;have h2:=ih ((k-1)/2) (by omega) (by omega);omega
theorem HeapBut.fin {f lo hi r:Nat}{l:List Int}(h:HeapBut f lo hi r l)(hr:∀c,(c=2*r+1∨c=2*r+2)→c<hi→at0 l (f+c)≤at0 l (f+r)):Heap f lo hi l:=fun k c h1 h2 h3=> by
 by_cases e:k=r
 · subst e;exact hr c h2 h3
 · exact h.1 k c h1 e h2 h3
theorem HeapBut.step {f lo hi r c:Nat}{l:List Int}(h:HeapBut f lo hi r l)(hl:f+hi≤l.length)(hlr:lo≤r)(hc:c=2*r+1∨c=2*r+2)(hch:c<hi)(hlt:at0 l (f+r)<at0 l (f+c))
   (hmax:∀d,(d=2*r+1∨d=2*r+2)→d<hi→at0 l (f+d)≤at0 l (f+c)):HeapBut f lo hi c (swapL l (f+r) (f+c)):=by
 have hs:=fun q=> swapL_at (l:=l) (p:=f+r) (q:=f+c) (by omega) (by omega) q;refine⟨fun k d h1 h2 h3 h4=> ?_,fun k d h1 h2 h3 h4=> ?_⟩
 · rw[hs,hs,if_neg (show ¬f+k=f+c by omega)];by_cases e:k=r
   · subst e;rw[if_pos rfl];by_cases e2:d=c
     · subst e2;rw[if_pos rfl];omega
     · rw[if_neg (by omega),if_neg (by omega)];exact hmax d h3 h4
   · rw[if_neg (show ¬f+k=f+r by omega)];by_cases e2:d=c
     · omega
     · rw[if_neg (by omega)];by_cases e3:d=r
       · subst e3;rw[if_pos rfl];exact h.2 k c h1 h3 hc hch
       · rw[if_neg (by omega)];exact h.1 k d h1 e h3 h4
 · have e:k=r:=by omega
   subst e;rw[hs,hs,if_neg (by omega),if_neg (by omega),if_neg (by omega),if_pos rfl];exact h.1 c d (by omega) (by omega) h3 h4
structure Pti(a b i j:Nat)(u:List Int):Prop where
 ai:a+1≤i
 ij:i≤j+1
 jb:j<b
 aj:a≤j
 lo:∀k,a<k→k<i→at0 u k<at0 u a
 hi:∀k,j<k→k<b→at0 u a≤at0 u k
theorem Pti.start {a b:Nat}{u:List Int}(h:a<b):Pti a b (a+1) (b-1) u:=⟨Nat.le_refl _,by omega,by omega,by omega,fun k h1 h2=> by omega,fun k h1 h2=> by omega⟩
theorem Pti.up {a b i j:Nat}{u:List Int}(h:Pti a b i j u)(hij:i≤j)(hlt:at0 u i<at0 u a):Pti a b (i+1) j u:=
 ⟨by have:=h.ai;omega,by omega,h.jb,h.aj,fun k h1 h2=> by
   by_cases e:k=i
   · rw[e];exact hlt
   · exact h.lo k h1 (by omega),h.hi⟩
theorem Pti.down {a b i j:Nat}{u:List Int}(h:Pti a b i j u)(hij:i≤j)(hge:¬at0 u j<at0 u a):Pti a b i (j-1) u:=
 ⟨h.ai,by omega,by have:=h.jb;omega,by have:=h.ai;omega,h.lo,fun k h1 h2=> by
   by_cases e:k=j
   · rw[e];omega
   · exact h.hi k (by omega) h2⟩
theorem Pti.swap {a b i j:Nat}{u:List Int}(h:Pti a b i j u)(hl:b≤u.length)(hij:i≤j)(h1:¬at0 u i<at0 u a)(h2:at0 u j<at0 u a):i<j∧Pti a b (i+1) (j-1) (swapL u i j):=by
 have ha:=h.ai;have hb:=h.jb;have hne:i≠j:=by
   rintro rfl;omega
 have hs:=fun q=> swapL_at (l:=u) (p:=i) (q:=j) (by omega) (by omega) q;have h0:at0 (swapL u i j) a=at0 u a:=by rw[hs,if_neg (by omega),if_neg (by omega)]
 refine⟨by omega,⟨by omega,by omega,by omega,by omega,fun k h3 h4=> ?_,fun k h3 h4=> ?_⟩⟩
 · rw[h0,hs,if_neg (by omega)];by_cases e:k=i
   · rw[if_pos e];exact h2
   · rw[if_neg e];exact h.lo k h3 (by omega)
 · rw[h0,hs];by_cases e:k=j
   · rw[if_pos e];omega
   · rw[if_neg e,if_neg (by omega)];exact h.hi k (by omega) h4
structure Part(a b j:Nat)(u:List Int):Prop where
 aj:a≤j
 jb:j<b
 lo:∀k,a≤k→k<j→at0 u k<at0 u j
 hi:∀k,j<k→k<b→at0 u j≤at0 u k
theorem Pti.fin {a b i j:Nat}{u:List Int}(h:Pti a b i j u)(hl:b≤u.length)(hij:j<i):Part a b j (swapL u j a):=by
 have ha:=h.ai;have hb:=h.jb;have hj:=h.aj;have hi:=h.ij;have hs:=fun q=> swapL_at (l:=u) (p:=j) (q:=a) (by omega) (by omega) q;have h0:at0 (swapL u j a) j=at0 u a:=by
   rw[hs];by_cases e:j=a
   · rw[if_pos e,e]
   · rw[if_neg e,if_pos rfl]
 refine⟨hj,hb,fun k h3 h4=> ?_,fun k h3 h4=> ?_⟩
 · rw[h0,hs];by_cases e:k=a
   · rw[if_pos e];exact h.lo j (by omega) (by omega)
   · rw[if_neg e,if_neg (by omega)];exact h.lo k (by omega) (by omega)
 · rw[h0,hs,if_neg (by omega),if_neg (by omega)];exact h.hi k h3 h4
theorem Part.sorted {a b j:Nat}{u m w:List Int}(h:Part a b j u)(hl:b≤u.length)(h1:Turned a j u m)(s1:Srt a j m)(h2:Turned (j+1) b m w)(s2:Srt (j+1) b w):Turned a b u w∧Srt a b w:=by
 have hj:=h.aj;have hb:=h.jb;have hml:=h1.len;refine⟨(h1.wide (Nat.le_refl _) (by omega)).trans (h2.wide (by omega) (Nat.le_refl _)),fun p q g1 g2 g3=> ?_⟩;have ej:at0 w j=at0 u j:=by rw[h2.out j (.inl (by omega)),h1.out j (.inr (Nat.le_refl _))]
 have lo:∀k,a≤k→k<j→at0 w k≤at0 u j:=fun k c1 c2=> by
   rw[h2.out k (.inl (by omega))];exact h1.all (by omega) (P:=fun x=> x≤at0 u j) (fun k c3 c4=> Int.le_of_lt (h.lo k c3 c4)) k c1 c2
 have hi:∀k,j<k→k<b→at0 u j≤at0 w k:=fun k c1 c2=>
   h2.all (by omega) (P:=fun x=> at0 u j≤x) (fun k c3 c4=> by rw[h1.out k (.inr (by omega))];exact h.hi k (by omega) c4) k (by omega) c2
 by_cases c1:q<j
 · rw[h2.out p (.inl (by omega)),h2.out q (.inl (by omega))];exact s1 p q g1 g2 c1
 · by_cases c2:q=j
   · rw[c2,ej];exact lo p g1 (by omega)
   · by_cases c3:p<j
     · exact Int.le_trans (lo p g1 c3) (hi q (by omega) g3)
     · by_cases c4:p=j
       · rw[c4,ej];exact hi q (by omega) g3
       · exact s2 p q (by omega) g2 g3
theorem Part.sorted2 {a b j:Nat}{u m w:List Int}(h:Part a b j u)(hl:b≤u.length)(h1:Turned (j+1) b u m)(s1:Srt (j+1) b m)(h2:Turned a j m w)(s2:Srt a j w):Turned a b u w∧Srt a b w:=by
 have hj:=h.aj;have hb:=h.jb;have hml:=h1.len;refine⟨(h1.wide (by omega) (Nat.le_refl _)).trans (h2.wide (Nat.le_refl _) (by omega)),fun p q g1 g2 g3=> ?_⟩;have ej:at0 w j=at0 u j:=by rw[h2.out j (.inr (Nat.le_refl _)),h1.out j (.inl (by omega))]
 have lo:∀k,a≤k→k<j→at0 w k≤at0 u j:=fun k c1 c2=>
   h2.all (by omega) (P:=fun x=> x≤at0 u j) (fun k c3 c4=> by rw[h1.out k (.inl (by omega))];exact Int.le_of_lt (h.lo k c3 c4)) k c1 c2
 have hi:∀k,j<k→k<b→at0 u j≤at0 w k:=fun k c1 c2=> by
   rw[h2.out k (.inr (by omega))];exact h1.all (by omega) (P:=fun x=> at0 u j≤x) (fun k c3 c4=> h.hi k (by omega) c4) k (by omega) c2
 by_cases c1:q<j
 · exact s2 p q g1 g2 c1
 · by_cases c2:q=j
   · rw[c2,ej];exact lo p g1 (by omega)
   · by_cases c3:p<j
     · exact Int.le_trans (lo p g1 c3) (hi q (by omega) g3)
     · by_cases c4:p=j
       · rw[c4,ej];exact hi q (by omega) g3
       · rw[h2.out p (.inr (by omega)),h2.out q (.inr (by omega))];exact s1 p q (by omega) g2 g3
set_option maxHeartbeats 8000000
section
variable(M:Md prog)(H:View)
theorem reverseS_c(dec:Int→List UInt8)(sb:Nat)(l:List Int)(jj:List Value)(n cap a b:Nat)(hn:n=l.length)(hb:b≤n)(h1000:n≤100000000)(ha:a<b)(hS:H sb=some (true,.cells ⟨(strsL dec l)++jj⟩ 9 (0,0))):
   CallT M 202 #[.slice (some ⟨sb,0,none⟩) n cap,.int .i64 (a:Nat),.int .i64 (b:Nat)] H (SortSQ dec H sb jj (fun v m=> v=.tuple ⟨[]⟩∧Turned a b l m)):=by
 refine CallT.enter (vs:= [.slice (some ⟨sb,0,none⟩) n cap,.int .i64 (a:Nat),.int .i64 (b:Nat)]) func202 rfl ntmps202 (Nat.le_of_ble_eq_true rfl) (SymSt.pull hS) fun St c cs hK=> ?_;have hb1:((b:Nat):Int)-1=((b-1:Nat):Int):=by omega
 refine U11 ?_;rw[hb1];refine U ?_;refine Tc.db (Tc.loopInv (σ:= { s:Nat×Nat×List Int//a≤s.1∧s.1≤b∧a≤s.2.1∧s.2.1<b∧Turned a b l s.2.2 }) (fun s=> ([(0,.slice (some ⟨sb,0,none⟩) n cap),(6,.int .i64 (s.1.1:Nat)),(7,.int .i64 (s.1.2.1:Nat))],[(sb,true,.cells ⟨(strsL dec s.1.2.2)++jj⟩ 9 (0,0))])) (fun s=> s.1.2.1) ?_
   ⟨(a,b-1,l),by simp,by simp only;omega,by simp only;omega,by simp only;omega,Turned.refl ..⟩)
 rintro⟨⟨i,j,u⟩,g1,g2,g3,g4,g5⟩ ih;simp only at g1 g2 g3 g4 g5;show Tc M St _ _ _ _ [(0,.slice (some ⟨sb,0,none⟩) n cap),(6,.int .i64 (i:Nat)),(7,.int .i64 (j:Nat))] [(sb,true,.cells ⟨(strsL dec u)++jj⟩ 9 (0,0))] _ _;have hul:=g5.len;by_cases c1:i<j
 · have e1:((j:Nat):Int)-1=((j-1:Nat):Int):=by omega
   have k1:=cellsS_ld (dec:=dec) (m:=u) (j:=jj) (k:=(i:Nat)) (p:=i) rfl (by omega);have k2:=cellsS_ld (dec:=dec) (m:=u) (j:=jj) (k:=(j:Nat)) (p:=j) rfl (by omega);have s1:=cellsS_st (dec:=dec) (m:=u) (j:=jj) (k:=(i:Nat)) (x:=at0 u j) (p:=i) rfl (by omega);have s2:=cellsS_st (dec:=dec) (m:=u.set i (at0 u j)) (j:=jj) (k:=(j:Nat)) (x:=at0 u i) (p:=j) rfl (by rw[List.length_set];omega);have l1:=cellsS_le (dec:=dec) (m:=u) (j:=jj) (k:=(i:Nat)) (p:=i) rfl (by omega);have l2:=cellsS_le (dec:=dec) (m:=u.set i (at0 u j)) (j:=jj) (k:=(j:Nat)) (p:=j) rfl (by rw[List.length_set];omega);refine U11 ?_;refine Tc.dr [13,15] [0] mixed rfl ?_;refine .nn 0 ?_;refine .nn 1 ?_;refine .nw 2 ?_;refine .nw 3 ?_;refine .nn 4 ?_;refine .nn 5 ?_;refine .nn 6 ?_;refine .nn 7 ?_;refine .nw 8 ?_;refine .nw 9 ?_;refine .nw 10 ?_;refine .nn 11 ?_;refine .nn 12 ?_;refine .e 13 0 ?_;refine .nw 14 ?_;refine .e 15 0 ?_;refine .dn ?_;refine U11 ?_;rw[e1];refine U ?_;exact Tc.db (ih ⟨(i+1,j-1,swapL u i j),by simp only;omega,by simp only;omega,by simp only;omega,by simp only;omega,g5.trans (Turned.swap (by omega) (by omega) (by omega) (by omega))⟩ (by simp only;omega))
 · refine U9 ?_;refine .ov hK func202 results202 [] ?_;exact fun H' hs=> SortSQ.of (dec:=dec) hs (i:=0) rfl ⟨rfl,g5⟩
end
section
variable(M:Md prog)(H:View)
theorem siftDownS_c(dec:Int→List UInt8)(sb:Nat)(l:List Int)(jj:List Value)(n cap lo hi f:Nat)(hn:n=l.length)(hE:Enc dec l)(hf:f+hi≤n)(h1000:n≤100000000)(hlo:lo≤hi)(hH:HeapBut f lo hi lo l)(hS:H sb=some (true,.cells ⟨(strsL dec l)++jj⟩ 9 (0,0))):
   CallT M 232 #[.slice (some ⟨sb,0,none⟩) n cap,.int .i64 (lo:Nat),.int .i64 (hi:Nat),.int .i64 (f:Nat)] H (SortSQ dec H sb jj (fun v m=> v=.tuple ⟨[]⟩∧Turned f (f+hi) l m∧Heap f lo hi m)):=by
 refine CallT.enter (vs:= [.slice (some ⟨sb,0,none⟩) n cap,.int .i64 (lo:Nat),.int .i64 (hi:Nat),.int .i64 (f:Nat)]) func232 rfl ntmps232 (Nat.le_of_ble_eq_true rfl) (SymSt.pull hS) fun St c cs hK=> ?_;refine U6 ?_;refine Tc.db (Tc.loopInv (σ:= { s:Nat×List Int//lo≤s.1∧s.1≤hi∧Turned f (f+hi) l s.2∧HeapBut f lo hi s.1 s.2 }) (fun s=> ([(0,.slice (some ⟨sb,0,none⟩) n cap),(2,.int .i64 (hi:Nat)),(3,.int .i64 (f:Nat)),(8,.int .i64 (s.1.1:Nat))],[(sb,true,.cells ⟨(strsL dec s.1.2)++jj⟩ 9 (0,0))])) (fun s=> hi-s.1.1) ?_
   ⟨(lo,l),Nat.le_refl _,hlo,Turned.refl ..,hH⟩)
 rintro⟨⟨r,u⟩,g1,g2,g3,g4⟩ ih;simp only at g1 g2 g3 g4;have hul:=g3.len;have hEu:=hE.turned g3;have e1:2*((r:Nat):Int)+1=((2*r+1:Nat):Int):=by omega
 have e2:((2*r+1:Nat):Int)+1=((2*r+2:Nat):Int):=by omega
 show Tc M St _ _ _ _ [(0,.slice (some ⟨sb,0,none⟩) n cap),(2,.int .i64 (hi:Nat)),(3,.int .i64 (f:Nat)),(8,.int .i64 (r:Nat))] [(sb,true,.cells ⟨(strsL dec u)++jj⟩ 9 (0,0))] _ _;refine U4 ?_;refine .i ?_ (z:=mul_in (by omega) (by omega));refine U3 ?_;rw[e1];by_cases c0:2*r+1<hi
 · by_cases d1:2*r+2<hi
   · have k1:=cellsS_ld (dec:=dec) (m:=u) (j:=jj) (k:=(f:Nat)+((2*r+1:Nat):Int)) (p:=f+(2*r+1)) (by omega) (by omega);have k2:=cellsS_ld (dec:=dec) (m:=u) (j:=jj) (k:=(f:Nat)+((2*r+1:Nat):Int)+1) (p:=f+(2*r+2)) (by omega) (by omega);by_cases d2:at0 u (f+(2*r+1))<at0 u (f+(2*r+2))
     · have hmax:∀d,(d=2*r+1∨d=2*r+2)→d<hi→at0 u (f+d)≤at0 u (f+(2*r+2)):=by rintro d (rfl|rfl) _ <;> omega
       refine U11 ?_;refine Tc.dr [] [] mixed rfl ?_;refine .nn 0 ?_;refine .nn 1 ?_;refine .nn 2 ?_;refine .nn 3 ?_;refine .nn 4 ?_;refine .nn 5 ?_;refine .nn 6 ?_;refine .nn 7 ?_;refine .nn 8 ?_;refine .nn 9 ?_;refine .nn 10 ?_;refine .nn 11 ?_;refine .nn 12 ?_;refine .nn 13 ?_;refine .nn 14 ?_;refine .nn 15 ?_;refine .nn 16 ?_;refine .nn 17 ?_;refine .z 18 rfl (OpV.takeCall rfl rfl rfl rfl (fun H hs=> .h (lessS M H hEu (at0_mem (by omega)) (at0_mem (by omega)) true (decide_eq_true d2)))) ?_;refine .nn 19 ?_;refine .dn ?_;refine U6 ?_;rw[e2];refine U2 ?_;have hcv:2*r+2<hi:=by omega
       have k3:=cellsS_ld (dec:=dec) (m:=u) (j:=jj) (k:=(f:Nat)+(r:Nat)) (p:=f+r) (by omega) (by omega);have k4:=cellsS_ld (dec:=dec) (m:=u) (j:=jj) (k:=(f:Nat)+((2*r+2:Nat):Int)) (p:=f+(2*r+2)) (by omega) (by omega);by_cases d3:at0 u (f+r)<at0 u (f+(2*r+2))
       · have s1:=cellsS_st (dec:=dec) (m:=u) (j:=jj) (k:=(f:Nat)+(r:Nat)) (x:=at0 u (f+(2*r+2))) (p:=f+r) (by omega) (by omega);have s2:=cellsS_st (dec:=dec) (m:=u.set (f+r) (at0 u (f+(2*r+2)))) (j:=jj) (k:=(f:Nat)+((2*r+2:Nat):Int)) (x:=at0 u (f+r)) (p:=f+(2*r+2)) (by omega) (by rw[List.length_set];omega);have l1:=cellsS_le (dec:=dec) (m:=u) (j:=jj) (k:=(f:Nat)+(r:Nat)) (p:=f+r) (by omega) (by omega);have l2:=cellsS_le (dec:=dec) (m:=u.set (f+r) (at0 u (f+(2*r+2)))) (j:=jj) (k:=(f:Nat)+((2*r+2:Nat):Int)) (p:=f+(2*r+2)) (by omega) (by rw[List.length_set];omega);refine Tc.dr [] [] mixed rfl ?_;refine .nn 0 ?_;refine .nn 1 ?_;refine .nn 2 ?_;refine .nn 3 ?_;refine .nn 4 ?_;refine .nn 5 ?_;refine .nn 6 ?_;refine .nn 7 ?_;refine .nn 8 ?_;refine .nn 9 ?_;refine .nn 10 ?_;refine .nn 11 ?_;refine .z 12 rfl (OpV.takeCall rfl rfl rfl rfl (fun H hs=> .h (lessS M H hEu (at0_mem (by omega)) (at0_mem (by omega)) true (decide_eq_true d3)))) ?_;refine .nn 13 ?_;refine .dn ?_;refine U3 ?_;refine Tc.dr [21,23] [0] mixed rfl ?_;refine .nn 0 ?_;refine .nn 1 ?_;refine .nn 2 ?_;refine .nn 3 ?_;refine .nw 4 ?_;refine .nw 5 ?_;refine .nw 6 ?_;refine .nw 7 ?_;refine .nn 8 ?_;refine .nn 9 ?_;refine .nn 10 ?_;refine .nn 11 ?_;refine .nn 12 ?_;refine .nn 13 ?_;refine .nw 14 ?_;refine .nw 15 ?_;refine .nw 16 ?_;refine .nw 17 ?_;refine .nw 18 ?_;refine .nn 19 ?_;refine .nn 20 ?_;refine .e 21 0 ?_;refine .nw 22 ?_;refine .e 23 0 ?_;refine .dn ?_;refine U5 ?_;exact Tc.db (ih ⟨(2*r+2,swapL u (f+r) (f+(2*r+2))),by simp only;omega,by simp only;omega,g3.trans (Turned.swap (by omega) (by omega) (by omega) (by omega)),g4.step (by omega) g1 (by omega) hcv d3 hmax⟩ (by simp only;omega))
       · refine Tc.dr [] [] mixed rfl ?_;refine .nn 0 ?_;refine .nn 1 ?_;refine .nn 2 ?_;refine .nn 3 ?_;refine .nn 4 ?_;refine .nn 5 ?_;refine .nn 6 ?_;refine .nn 7 ?_;refine .nn 8 ?_;refine .nn 9 ?_;refine .nn 10 ?_;refine .nn 11 ?_;refine .z 12 rfl (OpV.takeCall rfl rfl rfl rfl (fun H hs=> .h (lessS M H hEu (at0_mem (by omega)) (at0_mem (by omega)) false (decide_eq_false d3)))) ?_;refine .nn 13 ?_;refine .dn ?_;refine U ?_;refine .rt hK func232 results232 [] ?_;exact fun H' hs=> SortSQ.of (dec:=dec) hs (i:=0) rfl ⟨rfl,g3,g4.fin (fun d h1 h2=> by have:=hmax d h1 h2;omega)⟩
     · have hmax:∀d,(d=2*r+1∨d=2*r+2)→d<hi→at0 u (f+d)≤at0 u (f+(2*r+1)):=by rintro d (rfl|rfl) _ <;> omega
       refine U11 ?_;refine Tc.dr [] [] mixed rfl ?_;refine .nn 0 ?_;refine .nn 1 ?_;refine .nn 2 ?_;refine .nn 3 ?_;refine .nn 4 ?_;refine .nn 5 ?_;refine .nn 6 ?_;refine .nn 7 ?_;refine .nn 8 ?_;refine .nn 9 ?_;refine .nn 10 ?_;refine .nn 11 ?_;refine .nn 12 ?_;refine .nn 13 ?_;refine .nn 14 ?_;refine .nn 15 ?_;refine .nn 16 ?_;refine .nn 17 ?_;refine .z 18 rfl (OpV.takeCall rfl rfl rfl rfl (fun H hs=> .h (lessS M H hEu (at0_mem (by omega)) (at0_mem (by omega)) false (decide_eq_false d2)))) ?_;refine .nn 19 ?_;refine .dn ?_;refine U4 ?_;have hcv:2*r+1<hi:=by omega
       have k3:=cellsS_ld (dec:=dec) (m:=u) (j:=jj) (k:=(f:Nat)+(r:Nat)) (p:=f+r) (by omega) (by omega);have k4:=cellsS_ld (dec:=dec) (m:=u) (j:=jj) (k:=(f:Nat)+((2*r+1:Nat):Int)) (p:=f+(2*r+1)) (by omega) (by omega);by_cases d3:at0 u (f+r)<at0 u (f+(2*r+1))
       · have s1:=cellsS_st (dec:=dec) (m:=u) (j:=jj) (k:=(f:Nat)+(r:Nat)) (x:=at0 u (f+(2*r+1))) (p:=f+r) (by omega) (by omega);have s2:=cellsS_st (dec:=dec) (m:=u.set (f+r) (at0 u (f+(2*r+1)))) (j:=jj) (k:=(f:Nat)+((2*r+1:Nat):Int)) (x:=at0 u (f+r)) (p:=f+(2*r+1)) (by omega) (by rw[List.length_set];omega);have l1:=cellsS_le (dec:=dec) (m:=u) (j:=jj) (k:=(f:Nat)+(r:Nat)) (p:=f+r) (by omega) (by omega);have l2:=cellsS_le (dec:=dec) (m:=u.set (f+r) (at0 u (f+(2*r+1)))) (j:=jj) (k:=(f:Nat)+((2*r+1:Nat):Int)) (p:=f+(2*r+1)) (by omega) (by rw[List.length_set];omega);refine Tc.dr [] [] mixed rfl ?_;refine .nn 0 ?_;refine .nn 1 ?_;refine .nn 2 ?_;refine .nn 3 ?_;refine .nn 4 ?_;refine .nn 5 ?_;refine .nn 6 ?_;refine .nn 7 ?_;refine .nn 8 ?_;refine .nn 9 ?_;refine .nn 10 ?_;refine .nn 11 ?_;refine .z 12 rfl (OpV.takeCall rfl rfl rfl rfl (fun H hs=> .h (lessS M H hEu (at0_mem (by omega)) (at0_mem (by omega)) true (decide_eq_true d3)))) ?_;refine .nn 13 ?_;refine .dn ?_;refine U3 ?_;refine Tc.dr [21,23] [0] mixed rfl ?_;refine .nn 0 ?_;refine .nn 1 ?_;refine .nn 2 ?_;refine .nn 3 ?_;refine .nw 4 ?_;refine .nw 5 ?_;refine .nw 6 ?_;refine .nw 7 ?_;refine .nn 8 ?_;refine .nn 9 ?_;refine .nn 10 ?_;refine .nn 11 ?_;refine .nn 12 ?_;refine .nn 13 ?_;refine .nw 14 ?_;refine .nw 15 ?_;refine .nw 16 ?_;refine .nw 17 ?_;refine .nw 18 ?_;refine .nn 19 ?_;refine .nn 20 ?_;refine .e 21 0 ?_;refine .nw 22 ?_;refine .e 23 0 ?_;refine .dn ?_;refine U5 ?_;exact Tc.db (ih ⟨(2*r+1,swapL u (f+r) (f+(2*r+1))),by simp only;omega,by simp only;omega,g3.trans (Turned.swap (by omega) (by omega) (by omega) (by omega)),g4.step (by omega) g1 (by omega) hcv d3 hmax⟩ (by simp only;omega))
       · refine Tc.dr [] [] mixed rfl ?_;refine .nn 0 ?_;refine .nn 1 ?_;refine .nn 2 ?_;refine .nn 3 ?_;refine .nn 4 ?_;refine .nn 5 ?_;refine .nn 6 ?_;refine .nn 7 ?_;refine .nn 8 ?_;refine .nn 9 ?_;refine .nn 10 ?_;refine .nn 11 ?_;refine .z 12 rfl (OpV.takeCall rfl rfl rfl rfl (fun H hs=> .h (lessS M H hEu (at0_mem (by omega)) (at0_mem (by omega)) false (decide_eq_false d3)))) ?_;refine .nn 13 ?_;refine .dn ?_;refine U ?_;refine .rt hK func232 results232 [] ?_;exact fun H' hs=> SortSQ.of (dec:=dec) hs (i:=0) rfl ⟨rfl,g3,g4.fin (fun d h1 h2=> by have:=hmax d h1 h2;omega)⟩
   · have hmax:∀d,(d=2*r+1∨d=2*r+2)→d<hi→at0 u (f+d)≤at0 u (f+(2*r+1)):=by rintro d (rfl|rfl) _ <;> omega
     refine U11 ?_;refine Tc.dr [] [] mixed rfl ?_;refine .nn 0 ?_;refine .nn 1 ?_;refine .nn 2 ?_;refine .nn 3 ?_;refine .nn 4 ?_;refine .nw 5 ?_;refine .nw 6 ?_;refine .nw 7 ?_;refine .nw 8 ?_;refine .nw 9 ?_;refine .nw 10 ?_;refine .nw 11 ?_;refine .nw 12 ?_;refine .nw 13 ?_;refine .nw 14 ?_;refine .nw 15 ?_;refine .nw 16 ?_;refine .nw 17 ?_;refine .nw 18 ?_;refine .nn 19 ?_;refine .dn ?_;refine U4 ?_;have hcv:2*r+1<hi:=by omega
     have k3:=cellsS_ld (dec:=dec) (m:=u) (j:=jj) (k:=(f:Nat)+(r:Nat)) (p:=f+r) (by omega) (by omega);have k4:=cellsS_ld (dec:=dec) (m:=u) (j:=jj) (k:=(f:Nat)+((2*r+1:Nat):Int)) (p:=f+(2*r+1)) (by omega) (by omega);by_cases d3:at0 u (f+r)<at0 u (f+(2*r+1))
     · have s1:=cellsS_st (dec:=dec) (m:=u) (j:=jj) (k:=(f:Nat)+(r:Nat)) (x:=at0 u (f+(2*r+1))) (p:=f+r) (by omega) (by omega);have s2:=cellsS_st (dec:=dec) (m:=u.set (f+r) (at0 u (f+(2*r+1)))) (j:=jj) (k:=(f:Nat)+((2*r+1:Nat):Int)) (x:=at0 u (f+r)) (p:=f+(2*r+1)) (by omega) (by rw[List.length_set];omega);have l1:=cellsS_le (dec:=dec) (m:=u) (j:=jj) (k:=(f:Nat)+(r:Nat)) (p:=f+r) (by omega) (by omega);have l2:=cellsS_le (dec:=dec) (m:=u.set (f+r) (at0 u (f+(2*r+1)))) (j:=jj) (k:=(f:Nat)+((2*r+1:Nat):Int)) (p:=f+(2*r+1)) (by omega) (by rw[List.length_set];omega);refine Tc.dr [] [] mixed rfl ?_;refine .nn 0 ?_;refine .nn 1 ?_;refine .nn 2 ?_;refine .nn 3 ?_;refine .nn 4 ?_;refine .nn 5 ?_;refine .nn 6 ?_;refine .nn 7 ?_;refine .nn 8 ?_;refine .nn 9 ?_;refine .nn 10 ?_;refine .nn 11 ?_;refine .z 12 rfl (OpV.takeCall rfl rfl rfl rfl (fun H hs=> .h (lessS M H hEu (at0_mem (by omega)) (at0_mem (by omega)) true (decide_eq_true d3)))) ?_;refine .nn 13 ?_;refine .dn ?_;refine U3 ?_;refine Tc.dr [21,23] [0] mixed rfl ?_;refine .nn 0 ?_;refine .nn 1 ?_;refine .nn 2 ?_;refine .nn 3 ?_;refine .nw 4 ?_;refine .nw 5 ?_;refine .nw 6 ?_;refine .nw 7 ?_;refine .nn 8 ?_;refine .nn 9 ?_;refine .nn 10 ?_;refine .nn 11 ?_;refine .nn 12 ?_;refine .nn 13 ?_;refine .nw 14 ?_;refine .nw 15 ?_;refine .nw 16 ?_;refine .nw 17 ?_;refine .nw 18 ?_;refine .nn 19 ?_;refine .nn 20 ?_;refine .e 21 0 ?_;refine .nw 22 ?_;refine .e 23 0 ?_;refine .dn ?_;refine U5 ?_;exact Tc.db (ih ⟨(2*r+1,swapL u (f+r) (f+(2*r+1))),by simp only;omega,by simp only;omega,g3.trans (Turned.swap (by omega) (by omega) (by omega) (by omega)),g4.step (by omega) g1 (by omega) hcv d3 hmax⟩ (by simp only;omega))
     · refine Tc.dr [] [] mixed rfl ?_;refine .nn 0 ?_;refine .nn 1 ?_;refine .nn 2 ?_;refine .nn 3 ?_;refine .nn 4 ?_;refine .nn 5 ?_;refine .nn 6 ?_;refine .nn 7 ?_;refine .nn 8 ?_;refine .nn 9 ?_;refine .nn 10 ?_;refine .nn 11 ?_;refine .z 12 rfl (OpV.takeCall rfl rfl rfl rfl (fun H hs=> .h (lessS M H hEu (at0_mem (by omega)) (at0_mem (by omega)) false (decide_eq_false d3)))) ?_;refine .nn 13 ?_;refine .dn ?_;refine U ?_;refine .rt hK func232 results232 [] ?_;exact fun H' hs=> SortSQ.of (dec:=dec) hs (i:=0) rfl ⟨rfl,g3,g4.fin (fun d h1 h2=> by have:=hmax d h1 h2;omega)⟩
 · refine U9 ?_;refine .ov hK func232 results232 [] ?_;exact fun H' hs=> SortSQ.of (dec:=dec) hs (i:=0) rfl ⟨rfl,g3,g4.fin (fun d h1 h2=> by omega)⟩
end
theorem heap_less {f hi s:Nat}{u:List Int}(hs:1≤s)(h:Heap f s hi u):HeapBut f (s-1) hi (s-1) u:=
 ⟨fun k c h1 h2 h3 h4=> h k c (by omega) h3 h4,fun k c h1 h2 h3 h4=> by omega⟩
structure HeapTo(f hi s:Nat)(u:List Int):Prop where
 heap:Heap f 0 s u
 srt:Srt (f+s) (f+hi) u
 low:∀p q,p<s→s≤q→q<hi→at0 u (f+p)≤at0 u (f+q)
theorem heap_but {f hi s:Nat}{u:List Int}(hs:1≤s)(hsh:s≤hi)(hl:f+hi≤u.length)(h:HeapTo f hi s u):HeapBut f 0 (s-1) 0 (swapL u f (f+(s-1))):=by
 have hw:=fun q=> swapL_at (l:=u) (p:=f) (q:=f+(s-1)) (by omega) (by omega) q;refine⟨fun k c h1 h2 h3 h4=> ?_,fun k c h1 h2 h3 h4=> by omega⟩;rw[hw,hw,if_neg (by omega),if_neg (by omega),if_neg (by omega),if_neg (by omega)];exact h.heap k c h1 h3 (by omega)
theorem heap_next {f hi s:Nat}{u m:List Int}(hs:1≤s)(hsh:s≤hi)(hl:f+hi≤u.length)(h:HeapTo f hi s u)(ht:Turned f (f+(s-1)) (swapL u f (f+(s-1))) m)(hm:Heap f 0 (s-1) m):HeapTo f hi (s-1) m:=by
 have hw:=fun q=> swapL_at (l:=u) (p:=f) (q:=f+(s-1)) (by omega) (by omega) q;have htop:=h.heap.top;have hlast:at0 m (f+(s-1))=at0 u f:=by
   rw[ht.out _ (.inr (Nat.le_refl _)),hw,if_pos rfl]
 have hback:∀q,s≤q→at0 m (f+q)=at0 u (f+q):=fun q hq=> by
   rw[ht.out _ (.inr (by omega)),hw,if_neg (by omega),if_neg (by omega)]
 have hall:∀X:Int,(∀p,p<s→at0 u (f+p)≤X)→∀p,p<s-1→at0 m (f+p)≤X:=fun X hX p hp=>
   ht.all (by rw[swapL_len];omega) (P:=fun x=> x≤X) (fun p h1 h2=> by
     rw[hw,if_neg (by omega)];by_cases e:p=f
     · rw[if_pos e];exact hX (s-1) (by omega)
     · rw[if_neg e];have:=hX (p-f) (by omega)
       rwa [show f+(p-f)=p by omega] at this) (f+p) (by omega) (by omega)
 refine⟨hm,fun p q h1 h2 h3=> ?_,fun p q h1 h2 h3=> ?_⟩
 · by_cases e:p=f+(s-1)
   · rw[e,hlast];have h4:=hback (q-f) (by omega);rw[show f+(q-f)=q by omega] at h4;rw[h4];have:=h.low 0 (q-f) (by omega) (by omega) (by omega)
     rwa [show f+(q-f)=q by omega,Nat.add_zero] at this
   · have h4:=hback (q-f) (by omega);have h5:=hback (p-f) (by omega);rw[show f+(q-f)=q by omega] at h4;rw[show f+(p-f)=p by omega] at h5;rw[h4,h5];exact h.srt p q (by omega) h2 h3
 · by_cases e:q=s-1
   · subst e;rw[hlast];exact hall _ (fun p hp=> htop p hp) p h1
   · rw[hback q (by omega)];exact hall _ (fun p hp=> h.low p q hp (by omega) h3) p h1
section
variable(M:Md prog)(H:View)
theorem heapSortS_c(dec:Int→List UInt8)(sb:Nat)(l:List Int)(jj:List Value)(n cap a b:Nat)(hn:n=l.length)(hE:Enc dec l)(hb:b≤n)(h1000:n≤100000000)(hab:a<b)(hS:H sb=some (true,.cells ⟨(strsL dec l)++jj⟩ 9 (0,0))):
   CallT M 199 #[.slice (some ⟨sb,0,none⟩) n cap,.int .i64 (a:Nat),.int .i64 (b:Nat)] H (SortSQ dec H sb jj (fun v m=> v=.tuple ⟨[]⟩∧Turned a b l m∧Srt a b m)):=by
 obtain⟨hi,hhi⟩:∃hi,hi=b-a:=⟨_,rfl⟩
 have e0:((b:Nat):Int)-((a:Nat):Int)=((hi:Nat):Int):=by omega
 have eb:b=a+hi:=by omega
 obtain⟨s0,hs0⟩:∃s0,s0=(hi-1)/2+1:=⟨_,rfl⟩
 have hq:intBin .quo .i64 (((hi:Nat):Int)-1) 2=some (.int .i64 (((s0:Nat):Int)-1)):=by
   rw[quo_in (by omega) (by omega) (by omega)]
   congr 2
   omega
 refine CallT.enter (vs:= [.slice (some ⟨sb,0,none⟩) n cap,.int .i64 (a:Nat),.int .i64 (b:Nat)]) func199 rfl ntmps199 (Nat.le_of_ble_eq_true rfl) (SymSt.pull hS) fun St c cs hK=> ?_;refine U16 ?_;rw[e0];refine U9 ?_;refine Tc.db (Tc.loopInv (σ:= { s:Nat×List Int//s.1≤hi∧Turned a b l s.2∧Heap a s.1 hi s.2 }) (fun s=> ([(0,.slice (some ⟨sb,0,none⟩) n cap),(6,.int .i64 (a:Nat)),(7,.int .i64 0),(8,.int .i64 (hi:Nat)),(9,.int .i64 ((s.1.1:Nat)-1))],[(sb,true,.cells ⟨(strsL dec s.1.2)++jj⟩ 9 (0,0))])) (fun s=> s.1.1) ?_
   ⟨(s0,l),by simp only;omega,Turned.refl ..,fun k c h1 h2 h3=> by simp only at h1;omega⟩)
 rintro⟨⟨s,u⟩,g1,g2,g3⟩ ih;simp only at g1 g2 g3;show Tc M St _ _ _ _ [(0,.slice (some ⟨sb,0,none⟩) n cap),(6,.int .i64 (a:Nat)),(7,.int .i64 0),(8,.int .i64 (hi:Nat)),(9,.int .i64 ((s:Nat)-1))] [(sb,true,.cells ⟨(strsL dec u)++jj⟩ 9 (0,0))] _ _;have hul:=g2.len;have hEu:=hE.turned g2;by_cases c1:1≤s
 · have e1:((s:Nat):Int)-1=((s-1:Nat):Int):=by omega
   rw[e1];refine U15 ?_;refine .e (Or.sortsS (dec:=dec) (l:=u) 0 (fun v m=> v=.tuple ⟨[]⟩∧Turned a (a+hi) u m∧Heap a (s-1) hi m) rfl rfl rfl rfl rfl (by decide) rfl (fun H hs=> .h (siftDownS_c M H dec sb u jj n cap (s-1) hi a (by omega) hEu (by omega) h1000 (by omega) (heap_less c1 g3) (hs.get (i:=0) rfl))) (fun v m ⟨hv,ht,hh⟩=> ?_));refine U7 ?_;exact Tc.db (ih ⟨(s-1,m),by simp only;omega,g2.trans (ht.wide (Nat.le_refl _) (by omega)),hh⟩ (by simp only;omega))
 · have es:s=0:=by omega
   subst es;refine U15 ?_;refine Tc.db (Tc.loopInv (σ:= { s:Nat×List Int//s.1≤hi∧Turned a b l s.2∧HeapTo a hi s.1 s.2 }) (fun s=> ([(0,.slice (some ⟨sb,0,none⟩) n cap),(6,.int .i64 (a:Nat)),(7,.int .i64 0),(10,.int .i64 ((s.1.1:Nat)-1))],[(sb,true,.cells ⟨(strsL dec s.1.2)++jj⟩ 9 (0,0))])) (fun s=> s.1.1) ?_
     ⟨(hi,u),Nat.le_refl _,g2,⟨g3,fun p q h1 h2 h3=> by omega,fun p q h1 h2 h3=> by omega⟩⟩)
   rintro⟨⟨s,w⟩,f1,f2,f3⟩ ih2;simp only at f1 f2 f3;show Tc M St _ _ _ _ [(0,.slice (some ⟨sb,0,none⟩) n cap),(6,.int .i64 (a:Nat)),(7,.int .i64 0),(10,.int .i64 ((s:Nat)-1))] [(sb,true,.cells ⟨(strsL dec w)++jj⟩ 9 (0,0))] _ _;have hwl:=f2.len;have hEw:=hE.turned f2;by_cases c2:1≤s
   · have e1:((s:Nat):Int)-1=((s-1:Nat):Int):=by omega
     rw[e1];have k1:=cellsS_ld (dec:=dec) (m:=w) (j:=jj) (k:=(a:Nat)) (p:=a) rfl (by omega);have k2:=cellsS_ld (dec:=dec) (m:=w) (j:=jj) (k:=(a:Nat)+((s-1:Nat):Int)) (p:=a+(s-1)) (by omega) (by omega);have s1:=cellsS_st (dec:=dec) (m:=w) (j:=jj) (k:=(a:Nat)) (x:=at0 w (a+(s-1))) (p:=a) rfl (by omega);have s2:=cellsS_st (dec:=dec) (m:=w.set a (at0 w (a+(s-1)))) (j:=jj) (k:=(a:Nat)+((s-1:Nat):Int)) (x:=at0 w a) (p:=a+(s-1)) (by omega) (by rw[List.length_set];omega);have l1:=cellsS_le (dec:=dec) (m:=w) (j:=jj) (k:=(a:Nat)) (p:=a) rfl (by omega);have l2:=cellsS_le (dec:=dec) (m:=w.set a (at0 w (a+(s-1)))) (j:=jj) (k:=(a:Nat)+((s-1:Nat):Int)) (p:=a+(s-1)) (by omega) (by rw[List.length_set];omega);have hsw:=Turned.swap (a:=a) (b:=b) (l:=w) (p:=a) (q:=a+(s-1)) (by omega) (by omega) (by omega) (by omega);refine U11 ?_;refine Tc.dr [17,19] [0] mixed rfl ?_;refine .nn 0 ?_;refine .nn 1 ?_;refine .nw 2 ?_;refine .nw 3 ?_;refine .nw 4 ?_;refine .nw 5 ?_;refine .nn 6 ?_;refine .nn 7 ?_;refine .nn 8 ?_;refine .nn 9 ?_;refine .nn 10 ?_;refine .nn 11 ?_;refine .nw 12 ?_;refine .nw 13 ?_;refine .nw 14 ?_;refine .nn 15 ?_;refine .nn 16 ?_;refine .e 17 0 ?_;refine .nw 18 ?_;refine .e 19 0 ?_;refine .dn ?_;refine U5 ?_;refine .e (Or.sortsS (dec:=dec) (l:=swapL w a (a+(s-1))) 0 (fun v m=> v=.tuple ⟨[]⟩∧Turned a (a+(s-1)) (swapL w a (a+(s-1))) m∧Heap a 0 (s-1) m) rfl rfl rfl rfl rfl (by decide) rfl (fun H hs=> .h (siftDownS_c M H dec sb (swapL w a (a+(s-1))) jj n cap 0 (s-1) a (by rw[swapL_len];omega) (hEw.turned hsw) (by omega) h1000 (by omega) (heap_but c2 f1 (by omega) f3) (hs.get (i:=0) rfl))) (fun v m ⟨hv,ht,hh⟩=> ?_));refine U7 ?_;exact Tc.db (ih2 ⟨(s-1,m),by simp only;omega,f2.trans (hsw.trans (ht.wide (Nat.le_refl _) (by omega))),heap_next c2 f1 (by omega) f3 ht hh⟩ (by simp only;omega))
   · have es:s=0:=by omega
     subst es;refine U8 ?_;refine .ov hK func199 results199 [] ?_;exact fun H' hs=> SortSQ.of (dec:=dec) hs (i:=0) rfl ⟨rfl,f2,eb▸f3.srt⟩
end
theorem Or.sortsIF {M:Md prog}{n:Nat}{H₀:View}{R:Rg}{L:Bl}{o:Oper}{K:Rg→Bl→Prop}{cl:Go.Call}{x:Operand}{fv:Value}{az:List Value}{d:Nat}{σ:Type}(i:Nat){sb:Nat}{l:List Int}{j:List Value}(val:σ→Value)(mm:σ→List Int)(p:σ→Prop)
   (hop:o.op=.call cl) (hcl:cl.callee=.value x) (hx:evR R x=some fv) (has:evRs R cl.args.toList=some az) (hd:o.dst=some d) (hn:d<n) (hi:L[i]? =some (sb,true,.cells ⟨intsL l++j⟩ 3 (0,0)))
   (hc:∀H,SymSt H₀ L H→FnT M fv az H (SortIQ H sb j fun v m=> ∃s,v=val s∧m=mm s∧p s)) (hk:∀s,p s→K ((d,val s)::R) (L.set i (sb,true,.cells ⟨intsL (mm s)++j⟩ 3 (0,0)))):Or M n H₀ R L o K:=
 Or.sortsI i (fun v m=> ∃s,v=val s∧m=mm s∧p s) hop hcl hx has hd hn hi hc fun v m h=> by
   obtain⟨s,rfl,rfl,h3⟩:=h;exact hk s h3
def twoV(s:Nat×Nat×Int):Value:=.tuple ⟨[.int .i64 (s.1:Nat),.int .i64 (s.2.1:Nat)]⟩
def twoP(p q:Nat)(z:Int)(s:Nat×Nat×Int):Prop:=(s.1=p∧s.2.1=q∨s.1=q∧s.2.1=p)∧z≤s.2.2∧s.2.2≤z+1
section
variable(M:Md prog)(H:View)
theorem order2S_c(dec:Int→List UInt8)(sb cb:Nat)(f:Bool)(l:List Int)(jj:List Value)(n cap p q:Nat)(z:Int)(hn:n=l.length)(hE:Enc dec l)(hp:p<n)(hq:q<n)(hz:0≤z∧z≤1000)(hne:sb≠cb)(hS:H sb=some (f,.cells ⟨(strsL dec l)++jj⟩ 9 (0,0)))(hC:H cb=some (true,.cells ⟨[.int .i64 z]⟩ 3 (0,0))):
   CallT M 247 #[.slice (some ⟨sb,0,none⟩) n cap,.int .i64 (p:Nat),.int .i64 (q:Nat),.pointer (some ⟨cb,0,none⟩)] H (SortIQ H cb [] (fun v m=> ∃s,v=twoV s∧m= [s.2.2]∧twoP p q z s)):=by
 have hS':(H.without cb) sb=some (f,.cells ⟨(strsL dec l)++jj⟩ 9 (0,0)):=by rw[without_other hne];exact hS
 have k1:=cellsS_ld (dec:=dec) (m:=l) (j:=jj) (k:=(p:Nat)) (p:=p) rfl (by omega);have k2:=cellsS_ld (dec:=dec) (m:=l) (j:=jj) (k:=(q:Nat)) (p:=q) rfl (by omega);refine CallT.enter (vs:= [.slice (some ⟨sb,0,none⟩) n cap,.int .i64 (p:Nat),.int .i64 (q:Nat),.pointer (some ⟨cb,0,none⟩)]) func247 rfl ntmps247 (Nat.le_of_ble_eq_true rfl) (SymSt.pull hC) fun St c cs hK=> ?_;by_cases c1:at0 l q<at0 l p
 · refine U7 ?_;refine Tc.dr [] [] mixed rfl ?_;refine .nn 0 ?_;refine .nn 1 ?_;refine .nn 2 ?_;refine .nn 3 ?_;refine .nn 4 ?_;refine .nn 5 ?_;refine .nn 6 ?_;refine .nn 7 ?_;refine .z 8 rfl (OpV.takeCall rfl rfl rfl rfl (fun H hs=> .h (lessS M H hE (at0_mem (by omega)) (at0_mem (by omega)) true (decide_eq_true c1)))) ?_;refine .dn ?_;refine U17 ?_;refine .rt hK func247 results247 [_,_] ?_;exact fun H' hs=> SortIQ.of (m:= [z+1]) hs (i:=0) rfl ⟨(q,p,z+1),rfl,rfl,.inr ⟨rfl,rfl⟩,by simp only;omega,by simp only;omega⟩
 · refine U7 ?_;refine Tc.dr [] [] mixed rfl ?_;refine .nn 0 ?_;refine .nn 1 ?_;refine .nn 2 ?_;refine .nn 3 ?_;refine .nn 4 ?_;refine .nn 5 ?_;refine .nn 6 ?_;refine .nn 7 ?_;refine .z 8 rfl (OpV.takeCall rfl rfl rfl rfl (fun H hs=> .h (lessS M H hE (at0_mem (by omega)) (at0_mem (by omega)) false (decide_eq_false c1)))) ?_;refine .dn ?_;refine U9 ?_;refine .rt hK func247 results247 [_,_] ?_;exact fun H' hs=> SortIQ.of (m:= [z]) hs (i:=0) rfl ⟨(p,q,z),rfl,rfl,.inl ⟨rfl,rfl⟩,by simp only;omega,by simp only;omega⟩
theorem medianS_c(dec:Int→List UInt8)(sb cb:Nat)(f:Bool)(l:List Int)(jj:List Value)(n cap p q r:Nat)(z:Int)(hn:n=l.length)(hE:Enc dec l)(hp:p<n)(hq:q<n)(hr:r<n)(hz:0≤z∧z≤900)(hne:sb≠cb)(hS:H sb=some (f,.cells ⟨(strsL dec l)++jj⟩ 9 (0,0)))(hC:H cb=some (true,.cells ⟨[.int .i64 z]⟩ 3 (0,0))):
   CallT M 236 #[.slice (some ⟨sb,0,none⟩) n cap,.int .i64 (p:Nat),.int .i64 (q:Nat),.int .i64 (r:Nat),.pointer (some ⟨cb,0,none⟩)] H (SortIQ H cb [] (fun v m=> ∃s:Nat×Int,v=.int .i64 (s.1:Nat)∧m= [s.2]∧((s.1=p∨s.1=q∨s.1=r)∧z≤s.2∧s.2≤z+3))):=by
 have hS':(H.without cb) sb=some (f,.cells ⟨(strsL dec l)++jj⟩ 9 (0,0)):=by rw[without_other hne];exact hS
 refine CallT.enter (vs:= [.slice (some ⟨sb,0,none⟩) n cap,.int .i64 (p:Nat),.int .i64 (q:Nat),.int .i64 (r:Nat),.pointer (some ⟨cb,0,none⟩)]) func236 rfl ntmps236 (Nat.le_of_ble_eq_true rfl) (SymSt.pull hC) fun St c cs hK=> ?_;refine U10 ?_;refine .e (Or.sortsIF (l:= [z]) (j:= []) 0 twoV (fun s=> [s.2.2]) (twoP p q z) rfl rfl rfl rfl rfl (by decide) rfl (fun H hs=> .h (order2S_c M H dec sb cb f l jj n cap p q z hn hE hp hq (by omega) hne (hs.base _ _ hS') (hs.get (i:=0) rfl))) (fun⟨x1,y1,z1⟩ ⟨o1,o2,o3⟩=> ?_));refine U6 ?_;simp only at o1 o2 o3;refine U6 ?_;refine .e (Or.sortsIF (l:= [z1]) (j:= []) 0 twoV (fun s=> [s.2.2]) (twoP y1 r z1) rfl rfl rfl rfl rfl (by decide) rfl (fun H hs=> .h (order2S_c M H dec sb cb f l jj n cap y1 r z1 hn hE (by omega) hr (by omega) hne (hs.base _ _ hS') (hs.get (i:=0) rfl))) (fun⟨x2,y2,z2⟩ ⟨p1,p2,p3⟩=> ?_));refine U6 ?_;simp only at p1 p2 p3;refine U6 ?_;refine .e (Or.sortsIF (l:= [z2]) (j:= []) 0 twoV (fun s=> [s.2.2]) (twoP x1 x2 z2) rfl rfl rfl rfl rfl (by decide) rfl (fun H hs=> .h (order2S_c M H dec sb cb f l jj n cap x1 x2 z2 hn hE (by omega) (by omega) (by omega) hne (hs.base _ _ hS') (hs.get (i:=0) rfl))) (fun⟨x3,y3,z3⟩ ⟨q1,q2,q3⟩=> ?_));refine U6 ?_;simp only at q1 q2 q3;refine U5 ?_;refine .rt hK func236 results236 [_] ?_;exact fun H' hs=> SortIQ.of (m:= [z3]) hs (i:=0) rfl ⟨(y3,z3),rfl,rfl,by simp only;omega,by simp only;omega,by simp only;omega⟩
def pivV(s:Nat×Nat):Value:=.tuple ⟨[.int .i64 (s.1:Nat),.int .i64 (s.2:Nat)]⟩
theorem medianAdjS_c(dec:Int→List UInt8)(sb cb:Nat)(f:Bool)(l:List Int)(jj:List Value)(n cap p:Nat)(z:Int)(hn:n=l.length)(hE:Enc dec l)(h1000:n≤100000000)(hp:1≤p∧p+1<n)(hz:0≤z∧z≤900)(hne:sb≠cb)(hS:H sb=some (f,.cells ⟨(strsL dec l)++jj⟩ 9 (0,0)))(hC:H cb=some (true,.cells ⟨[.int .i64 z]⟩ 3 (0,0))):
   CallT M 235 #[.slice (some ⟨sb,0,none⟩) n cap,.int .i64 (p:Nat),.pointer (some ⟨cb,0,none⟩)] H (SortIQ H cb [] (fun v m=> ∃s:Nat×Int,v=.int .i64 (s.1:Nat)∧m= [s.2]∧((s.1=p-1∨s.1=p∨s.1=p+1)∧z≤s.2∧s.2≤z+3))):=by
 have hS':(H.without cb) sb=some (f,.cells ⟨(strsL dec l)++jj⟩ 9 (0,0)):=by rw[without_other hne];exact hS
 have e1:intBin .sub .i64 (p:Nat) 1=some (.int .i64 ((p-1:Nat):Int)):=by rw[sub_in (by omega) (by omega)];congr 2;omega
 have e2:intBin .add .i64 (p:Nat) 1=some (.int .i64 ((p+1:Nat):Int)):=by rw[add_in (by omega) (by omega)];rfl
 refine CallT.enter (vs:= [.slice (some ⟨sb,0,none⟩) n cap,.int .i64 (p:Nat),.pointer (some ⟨cb,0,none⟩)]) func235 rfl ntmps235 (Nat.le_of_ble_eq_true rfl) (SymSt.pull hC) fun St c cs hK=> ?_;refine U13 ?_;refine .e (Or.sortsIF (l:= [z]) (j:= []) 0 (fun s:Nat×Int=> .int .i64 (s.1:Nat)) (fun s=> [s.2]) (fun s=> (s.1=p-1∨s.1=p∨s.1=p+1)∧z≤s.2∧s.2≤z+3) rfl rfl rfl rfl rfl (by decide) rfl (fun H hs=> .h (medianS_c M H dec sb cb f l jj n cap (p-1) p (p+1) z hn hE (by omega) (by omega) (by omega) (by omega) hne (hs.base _ _ hS') (hs.get (i:=0) rfl))) (fun⟨x1,z1⟩ ⟨o1,o2,o3⟩=> ?_));refine U2 ?_;simp only at o1 o2 o3;refine .rt hK func235 results235 [_] ?_;exact fun H' hs=> SortIQ.of (m:= [z1]) hs (i:=0) rfl ⟨(x1,z1),rfl,rfl,o1,o2,o3⟩
theorem choosePivotS_c(dec:Int→List UInt8)(sb:Nat)(f:Bool)(l:List Int)(jj:List Value)(n cap a b:Nat)(hn:n=l.length)(hE:Enc dec l)(h1000:n≤100000000)(hb:b≤n)(h8:a+8≤b)(hS:H sb=some (f,.cells ⟨(strsL dec l)++jj⟩ 9 (0,0))):
   CallT M 201 #[.slice (some ⟨sb,0,none⟩) n cap,.int .i64 (a:Nat),.int .i64 (b:Nat)] H (fun v H'=> H.le H'∧∃s:Nat×Nat,v=pivV s∧(a≤s.1∧s.1<b∧s.2≤2)∧∀y∈([]:Bl),H' y.1=some y.2∧H y.1=none):=by
 obtain⟨m,hm⟩:∃m,m=b-a:=⟨_,rfl⟩
 obtain⟨w,hw⟩:∃w,w=m/4:=⟨_,rfl⟩
 have e0:((b:Nat):Int)-((a:Nat):Int)=((m:Nat):Int):=by omega
 have hq:intBin .quo .i64 ((m:Nat):Int) 4=some (.int .i64 ((w:Nat):Int)):=by
   rw[quo_in (by omega) (by omega) (by omega)]
   congr 2
   omega
 have e1:((a:Nat):Int)+((w:Nat):Int)*1=((a+w:Nat):Int):=by omega
 have e2:((a:Nat):Int)+((w:Nat):Int)*2=((a+w*2:Nat):Int):=by omega
 have e3:((a:Nat):Int)+((w:Nat):Int)*3=((a+w*3:Nat):Int):=by omega
 refine .en func201 ntmps201 fun St c cs hK=> ?_;refine U12 ?_;rw[e0];refine U2 ?_;refine .al fun b9=> ?_;refine U6 ?_;refine .i ?_ (z:=mul_in (by omega) (by omega));refine U3 ?_;rw[e1];refine U5 ?_;refine .i ?_ (z:=mul_in (by omega) (by omega));refine U3 ?_;rw[e2];refine U5 ?_;refine .i ?_ (z:=mul_in (by omega) (by omega));refine U3 ?_;rw[e3];refine U7 ?_;refine Tc.lift (L₂:= [(b9,true,.cells ⟨[.int .i64 0]⟩ 3 (0,0))]) (L₁:= []) rfl (fun Hx hx=> ?_);have hle:=hx.base;have hSx:=hx.base _ _ hS;have hne:∀(z:Int) H',SymSt Hx [(b9,true,.cells ⟨[.int .i64 z]⟩ 3 (0,0))] H'→sb≠b9:=fun z H' hs e=> by
   have:=hs.out (b9,true,.cells ⟨[.int .i64 z]⟩ 3 (0,0)) (by simp);rw[←e,hSx] at this;cases this
 clear hx;refine U ?_;refine Tc.via (fun R' L'=> ∃(p q r:Nat) (z:Int),((a≤p∧p<b)∧(a≤q∧q<b)∧(a≤r∧r<b)∧(0≤z∧z≤9))∧AllIn [(0,.slice (some ⟨sb,0,none⟩) n cap),(9,.pointer (some ⟨b9,0,none⟩)),(10,.int .i64 (p:Nat)),(11,.int .i64 (q:Nat)),(12,.int .i64 (r:Nat))] R'∧List.Sublist [(b9,true,.cells ⟨[.int .i64 z]⟩ 3 (0,0))] L') ?_ (fun fin=> ?_)
 rotate_left
 · by_cases c50:50≤m
   · refine U10 ?_;refine .e (Or.sortsIF (l:= [0]) (j:= []) 0 (fun s:Nat×Int=> .int .i64 (s.1:Nat)) (fun s=> [s.2]) (fun s=> (s.1=a+w-1∨s.1=a+w∨s.1=a+w+1)∧0≤s.2∧s.2≤0+3) rfl rfl rfl rfl rfl (by decide) rfl (fun H hs=> .h (medianAdjS_c M H dec sb b9 f l jj n cap (a+w) 0 hn hE h1000 (by omega) (by omega) (hne _ H hs) (hs.base _ _ hSx) (hs.get (i:=0) rfl))) (fun⟨x1,zx1⟩ ⟨ox1,ux1,vx1⟩=> ?_));refine U2 ?_;simp only at ox1 ux1 vx1;refine U4 ?_;refine .e (Or.sortsIF (l:= [zx1]) (j:= []) 0 (fun s:Nat×Int=> .int .i64 (s.1:Nat)) (fun s=> [s.2]) (fun s=> (s.1=a+w*2-1∨s.1=a+w*2∨s.1=a+w*2+1)∧zx1≤s.2∧s.2≤zx1+3) rfl rfl rfl rfl rfl (by decide) rfl (fun H hs=> .h (medianAdjS_c M H dec sb b9 f l jj n cap (a+w*2) zx1 hn hE h1000 (by omega) (by omega) (hne _ H hs) (hs.base _ _ hSx) (hs.get (i:=0) rfl))) (fun⟨x2,zx2⟩ ⟨ox2,ux2,vx2⟩=> ?_));refine U2 ?_;simp only at ox2 ux2 vx2;refine U3 ?_;refine .e (Or.sortsIF (l:= [zx2]) (j:= []) 0 (fun s:Nat×Int=> .int .i64 (s.1:Nat)) (fun s=> [s.2]) (fun s=> (s.1=a+w*3-1∨s.1=a+w*3∨s.1=a+w*3+1)∧zx2≤s.2∧s.2≤zx2+3) rfl rfl rfl rfl rfl (by decide) rfl (fun H hs=> .h (medianAdjS_c M H dec sb b9 f l jj n cap (a+w*3) zx2 hn hE h1000 (by omega) (by omega) (hne _ H hs) (hs.base _ _ hSx) (hs.get (i:=0) rfl))) (fun⟨x3,zx3⟩ ⟨ox3,ux3,vx3⟩=> ?_));refine U2 ?_;simp only at ox3 ux3 vx3;exact fin _ _ ⟨x1,x2,x3,zx3,⟨by omega,by omega,by omega,by omega⟩,⟨rfl,rfl,rfl,rfl,rfl,trivial⟩,(by exact List.Sublist.refl _)⟩
   · refine U7 ?_;exact fin _ _ ⟨a+w,a+w*2,a+w*3,0,⟨by omega,by omega,by omega,by omega⟩,⟨rfl,rfl,rfl,rfl,rfl,trivial⟩,(by exact List.Sublist.refl _)⟩
 rintro R' L' ⟨p,q,r,z,⟨hp,hq2,hr,hz⟩,hRR,hLL⟩;refine Tc.dropB (R':= [(0,.slice (some ⟨sb,0,none⟩) n cap),(9,.pointer (some ⟨b9,0,none⟩)),(10,.int .i64 (p:Nat)),(11,.int .i64 (q:Nat)),(12,.int .i64 (r:Nat))]) (L':= [(b9,true,.cells ⟨[.int .i64 z]⟩ 3 (0,0))]) ?_ hRR hLL;clear hRR hLL;refine U5 ?_;refine .e (Or.sortsIF (l:= [z]) (j:= []) 0 (fun s:Nat×Int=> .int .i64 (s.1:Nat)) (fun s=> [s.2]) (fun s=> (s.1=p∨s.1=q∨s.1=r)∧z≤s.2∧s.2≤z+3) rfl rfl rfl rfl rfl (by decide) rfl (fun H hs=> .h (medianS_c M H dec sb b9 f l jj n cap p q r z hn hE (by omega) (by omega) (by omega) (by omega) (hne _ H hs) (hs.base _ _ hSx) (hs.get (i:=0) rfl))) (fun⟨x1,z1⟩ ⟨o1,o2,o3⟩=> ?_));refine U2 ?_;simp only at o1 o2 o3;clear hne;refine U6 ?_;by_cases c1:z1=0
 · refine U11 ?_;refine .rt hK func201 results201 [_,_] ?_;exact fun H' hs=> ⟨View.le_trans hle hs.base,(x1,1),rfl,⟨by simp only;omega,by simp only;omega,by simp⟩,by simp⟩
 · by_cases c2:z1=12
   · refine U17 ?_;refine .rt hK func201 results201 [_,_] ?_;exact fun H' hs=> ⟨View.le_trans hle hs.base,(x1,2),rfl,⟨by simp only;omega,by simp only;omega,by simp⟩,by simp⟩
   · refine U17 ?_;refine .rt hK func201 results201 [_,_] ?_;exact fun H' hs=> ⟨View.le_trans hle hs.base,(x1,0),rfl,⟨by simp only;omega,by simp only;omega,by simp⟩,by simp⟩
end
set_option maxHeartbeats 16000000
section
variable(M:Md prog)(H:View)
theorem partitionS_c(dec:Int→List UInt8)(sb:Nat)(l:List Int)(jj:List Value)(n cap a b pv:Nat)(hn:n=l.length)(hE:Enc dec l)(hb:b≤n)(h1000:n≤100000000)(hp:a≤pv∧pv<b)(hS:H sb=some (true,.cells ⟨(strsL dec l)++jj⟩ 9 (0,0))):
   CallT M 206 #[.slice (some ⟨sb,0,none⟩) n cap,.int .i64 (a:Nat),.int .i64 (b:Nat),.int .i64 (pv:Nat)] H (SortSQ dec H sb jj (fun v m=> ∃s:Nat×Bool×List Int,v=.tuple ⟨[.int .i64 (s.1:Nat),.bool s.2.1]⟩∧m=s.2.2∧(Turned a b l s.2.2∧Part a b s.1 s.2.2))):=by
 refine CallT.enter (vs:= [.slice (some ⟨sb,0,none⟩) n cap,.int .i64 (a:Nat),.int .i64 (b:Nat),.int .i64 (pv:Nat)]) func206 rfl ntmps206 (Nat.le_of_ble_eq_true rfl) (SymSt.pull hS) fun St c cs hK=> ?_;obtain⟨u,hue⟩:∃u,swapL l a pv=u:=⟨_,rfl⟩
 have hu:Turned a b l u:=by rw[←hue];exact Turned.swap (by omega) (by omega) (by omega) (by omega)
 have hul:=hu.len;have hEu:=hE.turned hu;have hst:=Pti.start (a:=a) (b:=b) (u:=u) (by omega);have eb:((b:Nat):Int)-1=((b-1:Nat):Int):=by omega
 have y1:=cellsS_ld (dec:=dec) (m:=l) (j:=jj) (k:=(a:Nat)) (p:=a) rfl (by omega);have y2:=cellsS_ld (dec:=dec) (m:=l) (j:=jj) (k:=(pv:Nat)) (p:=pv) rfl (by omega);have y3:=cellsS_st (dec:=dec) (m:=l) (j:=jj) (k:=(a:Nat)) (x:=at0 l (pv)) (p:=a) rfl (by omega);have y4:=cellsS_st (dec:=dec) (m:=(l).set (a) (at0 l (pv))) (j:=jj) (k:=(pv:Nat)) (x:=at0 l (a)) (p:=pv) rfl (by rw[List.length_set];omega);have y5:=cellsS_le (dec:=dec) (m:=l) (j:=jj) (k:=(a:Nat)) (p:=a) rfl (by omega);have y6:=cellsS_le (dec:=dec) (m:=(l).set (a) (at0 l (pv))) (j:=jj) (k:=(pv:Nat)) (p:=pv) rfl (by rw[List.length_set];omega);refine U6 ?_;refine Tc.dr [13,15] [0] mixed rfl ?_;refine .nn 0 ?_;refine .nn 1 ?_;refine .nw 2 ?_;refine .nw 3 ?_;refine .nn 4 ?_;refine .nn 5 ?_;refine .nn 6 ?_;refine .nn 7 ?_;refine .nw 8 ?_;refine .nw 9 ?_;refine .nw 10 ?_;refine .nn 11 ?_;refine .nn 12 ?_;refine .e 13 0 ?_;refine .nw 14 ?_;refine .e 15 0 ?_;refine .dn ?_;refine U9 ?_;rw[eb];refine Tc.db (R':= [(0,.slice (some ⟨sb,0,none⟩) n cap),(1,.int .i64 (a:Nat)),(10,.int .i64 (a+1:Nat)),(11,.int .i64 (b-1:Nat))]) (L':= [(sb,true,.cells ⟨(strsL dec (swapL l a pv))++jj⟩ 9 (0,0))]) ?_;rw[hue];refine U ?_;refine blockVia (fun R' L'=> ∃s,a+1≤s∧Pti a b s (b-1) u∧(s≤b-1→¬at0 u s<at0 u a)∧AllIn [(0,.slice (some ⟨sb,0,none⟩) n cap),(1,.int .i64 (a:Nat)),(10,.int .i64 (s:Nat)),(11,.int .i64 (b-1:Nat))] R'∧L'= [(sb,true,.cells ⟨(strsL dec u)++jj⟩ 9 (0,0))]) ?_ (fun fin=> ?_)
 · rintro R' _ ⟨i1,i1le,o1,y1,hRR,rfl⟩;refine Tc.dropB ?_ hRR (List.Sublist.refl _);have o1a:=o1.ai;have o1b:=o1.ij;have o1c:=o1.jb;refine U ?_;refine blockVia (fun R' L'=> ∃s,s≤b-1∧Pti a b (i1) s u∧(i1≤s→at0 u s<at0 u a)∧AllIn [(0,.slice (some ⟨sb,0,none⟩) n cap),(1,.int .i64 (a:Nat)),(10,.int .i64 (i1:Nat)),(11,.int .i64 (s:Nat))] R'∧L'= [(sb,true,.cells ⟨(strsL dec u)++jj⟩ 9 (0,0))]) ?_ (fun fin=> ?_)
   · rintro R' _ ⟨j1,j1le,o2,y2,hRR,rfl⟩;refine Tc.dropB ?_ hRR (List.Sublist.refl _);have o2a:=o2.ai;have o2b:=o2.ij;have o2c:=o2.jb;have o2d:=o2.aj;by_cases d:j1<i1
     · refine U9 ?_;have z1:=cellsS_ld (dec:=dec) (m:=u) (j:=jj) (k:=(j1:Nat)) (p:=j1) rfl (by omega);have z2:=cellsS_ld (dec:=dec) (m:=u) (j:=jj) (k:=(a:Nat)) (p:=a) rfl (by omega);have z3:=cellsS_st (dec:=dec) (m:=u) (j:=jj) (k:=(j1:Nat)) (x:=at0 u (a)) (p:=j1) rfl (by omega);have z4:=cellsS_st (dec:=dec) (m:=(u).set (j1) (at0 u (a))) (j:=jj) (k:=(a:Nat)) (x:=at0 u (j1)) (p:=a) rfl (by rw[List.length_set];omega);have z5:=cellsS_le (dec:=dec) (m:=u) (j:=jj) (k:=(j1:Nat)) (p:=j1) rfl (by omega);have z6:=cellsS_le (dec:=dec) (m:=(u).set (j1) (at0 u (a))) (j:=jj) (k:=(a:Nat)) (p:=a) rfl (by rw[List.length_set];omega);refine Tc.dr [13,15] [0] mixed rfl ?_;refine .nn 0 ?_;refine .nn 1 ?_;refine .nw 2 ?_;refine .nw 3 ?_;refine .nn 4 ?_;refine .nn 5 ?_;refine .nn 6 ?_;refine .nn 7 ?_;refine .nw 8 ?_;refine .nw 9 ?_;refine .nw 10 ?_;refine .nn 11 ?_;refine .nn 12 ?_;refine .e 13 0 ?_;refine .nw 14 ?_;refine .e 15 0 ?_;refine .dn ?_;refine U6 ?_;refine .rt hK func206 results206 [_,_] ?_;exact fun H' hs=> SortSQ.of (dec:=dec) hs (i:=0) rfl ⟨(j1,true,swapL u j1 a),rfl,rfl,hu.trans (Turned.swap (by omega) (by omega) (by omega) (by omega)),o2.fin (by omega) d⟩
     · have e2 :((j1:Nat):Int)-1=((j1-1:Nat):Int):=by omega
       have hsw:=o2.swap (by omega) (by omega) (y1 (by omega)) (y2 (by omega));refine U10 ?_;have z1:=cellsS_ld (dec:=dec) (m:=u) (j:=jj) (k:=(i1:Nat)) (p:=i1) rfl (by omega);have z2:=cellsS_ld (dec:=dec) (m:=u) (j:=jj) (k:=(j1:Nat)) (p:=j1) rfl (by omega);have z3:=cellsS_st (dec:=dec) (m:=u) (j:=jj) (k:=(i1:Nat)) (x:=at0 u (j1)) (p:=i1) rfl (by omega);have z4:=cellsS_st (dec:=dec) (m:=(u).set (i1) (at0 u (j1))) (j:=jj) (k:=(j1:Nat)) (x:=at0 u (i1)) (p:=j1) rfl (by rw[List.length_set];omega);have z5:=cellsS_le (dec:=dec) (m:=u) (j:=jj) (k:=(i1:Nat)) (p:=i1) rfl (by omega);have z6:=cellsS_le (dec:=dec) (m:=(u).set (i1) (at0 u (j1))) (j:=jj) (k:=(j1:Nat)) (p:=j1) rfl (by rw[List.length_set];omega);refine Tc.dr [13,15] [0] mixed rfl ?_;refine .nn 0 ?_;refine .nn 1 ?_;refine .nw 2 ?_;refine .nw 3 ?_;refine .nn 4 ?_;refine .nn 5 ?_;refine .nn 6 ?_;refine .nn 7 ?_;refine .nw 8 ?_;refine .nw 9 ?_;refine .nw 10 ?_;refine .nn 11 ?_;refine .nn 12 ?_;refine .e 13 0 ?_;refine .nw 14 ?_;refine .e 15 0 ?_;refine .dn ?_;refine U12 ?_;rw[e2];refine U2 ?_;refine Tc.db (Tc.loopInv (σ:= { s:Nat×Nat×List Int//Pti a b s.1 s.2.1 s.2.2∧Turned a b l s.2.2 }) (fun s=> ([(0,.slice (some ⟨sb,0,none⟩) n cap),(1,.int .i64 (a:Nat)),(10,.int .i64 (s.1.1:Nat)),(11,.int .i64 (s.1.2.1:Nat))],[(sb,true,.cells ⟨(strsL dec s.1.2.2)++jj⟩ 9 (0,0))])) (fun s=> s.1.2.1+1-s.1.1) ?_ ⟨(i1+1,j1-1,swapL u i1 j1),hsw.2,hu.trans (Turned.swap (by omega) (by omega) (by omega) (by omega))⟩);rintro⟨⟨i,j,w⟩,g1,g2⟩ ih0;simp only at g1 g2;have hwl:=g2.len;have hEu:=hE.turned g2;have g1a:=g1.ai;have g1b:=g1.ij;have g1c:=g1.jb;show Tc M St _ _ _ _ [(0,.slice (some ⟨sb,0,none⟩) n cap),(1,.int .i64 (a:Nat)),(10,.int .i64 (i:Nat)),(11,.int .i64 (j:Nat))] [(sb,true,.cells ⟨(strsL dec w)++jj⟩ 9 (0,0))] _ _;refine U2 ?_;refine blockVia (fun R' L'=> ∃s,i≤s∧Pti a b s (j) w∧(s≤j→¬at0 w s<at0 w a)∧AllIn [(0,.slice (some ⟨sb,0,none⟩) n cap),(1,.int .i64 (a:Nat)),(10,.int .i64 (s:Nat)),(11,.int .i64 (j:Nat))] R'∧L'= [(sb,true,.cells ⟨(strsL dec w)++jj⟩ 9 (0,0))]) ?_ (fun fin=> ?_)
       · rintro R' _ ⟨i2,i2le,p1,x1,hRR,rfl⟩;refine Tc.dropB ?_ hRR (List.Sublist.refl _);have p1a:=p1.ai;have p1b:=p1.ij;have p1c:=p1.jb;refine U ?_;refine blockVia (fun R' L'=> ∃s,s≤j∧Pti a b (i2) s w∧(i2≤s→at0 w s<at0 w a)∧AllIn [(0,.slice (some ⟨sb,0,none⟩) n cap),(1,.int .i64 (a:Nat)),(10,.int .i64 (i2:Nat)),(11,.int .i64 (s:Nat))] R'∧L'= [(sb,true,.cells ⟨(strsL dec w)++jj⟩ 9 (0,0))]) ?_ (fun fin=> ?_)
         · rintro R' _ ⟨j2,j2le,p2,x2,hRR,rfl⟩;refine Tc.dropB ?_ hRR (List.Sublist.refl _);have p2a:=p2.ai;have p2b:=p2.ij;have p2c:=p2.jb;have p2d:=p2.aj;by_cases d:j2<i2
           · refine U10 ?_;have z1:=cellsS_ld (dec:=dec) (m:=w) (j:=jj) (k:=(j2:Nat)) (p:=j2) rfl (by omega);have z2:=cellsS_ld (dec:=dec) (m:=w) (j:=jj) (k:=(a:Nat)) (p:=a) rfl (by omega);have z3:=cellsS_st (dec:=dec) (m:=w) (j:=jj) (k:=(j2:Nat)) (x:=at0 w (a)) (p:=j2) rfl (by omega);have z4:=cellsS_st (dec:=dec) (m:=(w).set (j2) (at0 w (a))) (j:=jj) (k:=(a:Nat)) (x:=at0 w (j2)) (p:=a) rfl (by rw[List.length_set];omega);have z5:=cellsS_le (dec:=dec) (m:=w) (j:=jj) (k:=(j2:Nat)) (p:=j2) rfl (by omega);have z6:=cellsS_le (dec:=dec) (m:=(w).set (j2) (at0 w (a))) (j:=jj) (k:=(a:Nat)) (p:=a) rfl (by rw[List.length_set];omega);refine Tc.dr [13,15] [0] mixed rfl ?_;refine .nn 0 ?_;refine .nn 1 ?_;refine .nw 2 ?_;refine .nw 3 ?_;refine .nn 4 ?_;refine .nn 5 ?_;refine .nn 6 ?_;refine .nn 7 ?_;refine .nw 8 ?_;refine .nw 9 ?_;refine .nw 10 ?_;refine .nn 11 ?_;refine .nn 12 ?_;refine .e 13 0 ?_;refine .nw 14 ?_;refine .e 15 0 ?_;refine .dn ?_;refine U6 ?_;refine .rt hK func206 results206 [_,_] ?_;exact fun H' hs=> SortSQ.of (dec:=dec) hs (i:=0) rfl ⟨(j2,false,swapL w j2 a),rfl,rfl,g2.trans (Turned.swap (by omega) (by omega) (by omega) (by omega)),p2.fin (by omega) d⟩
           · have hsw:=p2.swap (by omega) (by omega) (x1 (by omega)) (x2 (by omega));have e2:((j2:Nat):Int)-1=((j2-1:Nat):Int):=by omega
             refine U10 ?_;have z1:=cellsS_ld (dec:=dec) (m:=w) (j:=jj) (k:=(i2:Nat)) (p:=i2) rfl (by omega);have z2:=cellsS_ld (dec:=dec) (m:=w) (j:=jj) (k:=(j2:Nat)) (p:=j2) rfl (by omega);have z3:=cellsS_st (dec:=dec) (m:=w) (j:=jj) (k:=(i2:Nat)) (x:=at0 w (j2)) (p:=i2) rfl (by omega);have z4:=cellsS_st (dec:=dec) (m:=(w).set (i2) (at0 w (j2))) (j:=jj) (k:=(j2:Nat)) (x:=at0 w (i2)) (p:=j2) rfl (by rw[List.length_set];omega);have z5:=cellsS_le (dec:=dec) (m:=w) (j:=jj) (k:=(i2:Nat)) (p:=i2) rfl (by omega);have z6:=cellsS_le (dec:=dec) (m:=(w).set (i2) (at0 w (j2))) (j:=jj) (k:=(j2:Nat)) (p:=j2) rfl (by rw[List.length_set];omega);refine Tc.dr [13,15] [0] mixed rfl ?_;refine .nn 0 ?_;refine .nn 1 ?_;refine .nw 2 ?_;refine .nw 3 ?_;refine .nn 4 ?_;refine .nn 5 ?_;refine .nn 6 ?_;refine .nn 7 ?_;refine .nw 8 ?_;refine .nw 9 ?_;refine .nw 10 ?_;refine .nn 11 ?_;refine .nn 12 ?_;refine .e 13 0 ?_;refine .nw 14 ?_;refine .e 15 0 ?_;refine .dn ?_;refine U11 ?_;rw[e2];refine U ?_;exact Tc.db (ih0 ⟨(i2+1,j2-1,swapL w i2 j2),hsw.2,g2.trans (Turned.swap (by omega) (by omega) (by omega) (by omega))⟩ (by simp only;omega))
         · refine Tc.db (Tc.loopInv (σ:= { s:Nat//s≤j∧Pti a b (i2) s w }) (fun s=> ([(0,.slice (some ⟨sb,0,none⟩) n cap),(1,.int .i64 (a:Nat)),(10,.int .i64 (i2:Nat)),(11,.int .i64 (s.1:Nat))],[(sb,true,.cells ⟨(strsL dec w)++jj⟩ 9 (0,0))])) (fun s=> s.1) ?_ ⟨j,Nat.le_refl _,p1⟩);rintro⟨s,q1,q2⟩ ih;have q3:=q2.ai;have q4:=q2.ij;have q5:=q2.jb;show Tc M St _ _ _ _ [(0,.slice (some ⟨sb,0,none⟩) n cap),(1,.int .i64 (a:Nat)),(10,.int .i64 (i2:Nat)),(11,.int .i64 (s:Nat))] [(sb,true,.cells ⟨(strsL dec w)++jj⟩ 9 (0,0))] _ _;by_cases c1:i2≤s
           · have e1:((s:Nat):Int)-1=((s-1:Nat):Int):=by omega
             have k1:=cellsS_ld (dec:=dec) (m:=w) (j:=jj) (k:=(s:Nat)) (p:=s) rfl (by omega);have k2:=cellsS_ld (dec:=dec) (m:=w) (j:=jj) (k:=(a:Nat)) (p:=a) rfl (by omega);by_cases c2:at0 w s<at0 w a
             · refine U2 ?_;refine Tc.dr [] [] mixed rfl ?_;refine .nn 0 ?_;refine .nn 1 ?_;refine .nn 2 ?_;refine .nn 3 ?_;refine .nn 4 ?_;refine .nn 5 ?_;refine .nn 6 ?_;refine .nn 7 ?_;refine .nn 8 ?_;refine .nn 9 ?_;refine .nn 10 ?_;refine .nn 11 ?_;refine .z 12 rfl (OpV.takeCall rfl rfl rfl rfl (fun H hs=> .h (lessS M H hEu (at0_mem (by omega)) (at0_mem (by omega)) true (decide_eq_true c2)))) ?_;refine .nn 13 ?_;refine .nn 14 ?_;refine .dn ?_;refine U2 ?_;exact Tc.db (fin [(0,.slice (some ⟨sb,0,none⟩) n cap),(1,.int .i64 (a:Nat)),(10,.int .i64 (i2:Nat)),(11,.int .i64 (s:Nat))] [(sb,true,.cells ⟨(strsL dec w)++jj⟩ 9 (0,0))] ⟨s,q1,q2,fun _=> c2,⟨rfl,rfl,rfl,rfl,trivial⟩,rfl⟩)
             · refine U2 ?_;refine Tc.dr [] [] mixed rfl ?_;refine .nn 0 ?_;refine .nn 1 ?_;refine .nn 2 ?_;refine .nn 3 ?_;refine .nn 4 ?_;refine .nn 5 ?_;refine .nn 6 ?_;refine .nn 7 ?_;refine .nn 8 ?_;refine .nn 9 ?_;refine .nn 10 ?_;refine .nn 11 ?_;refine .z 12 rfl (OpV.takeCall rfl rfl rfl rfl (fun H hs=> .h (lessS M H hEu (at0_mem (by omega)) (at0_mem (by omega)) false (decide_eq_false c2)))) ?_;refine .nn 13 ?_;refine .nn 14 ?_;refine .dn ?_;refine U8 ?_;rw[e1];refine U ?_;exact Tc.db (ih ⟨s-1,by omega,q2.down c1 c2⟩ (by simp only;omega))
           · refine U2 ?_;refine Tc.dr [] [] mixed rfl ?_;refine .nn 0 ?_;refine .nn 1 ?_;refine .nn 2 ?_;refine .nn 3 ?_;refine .nw 4 ?_;refine .nw 5 ?_;refine .nw 6 ?_;refine .nw 7 ?_;refine .nw 8 ?_;refine .nw 9 ?_;refine .nw 10 ?_;refine .nw 11 ?_;refine .nw 12 ?_;refine .nw 13 ?_;refine .nn 14 ?_;refine .dn ?_;refine U2 ?_;exact Tc.db (fin [(0,.slice (some ⟨sb,0,none⟩) n cap),(1,.int .i64 (a:Nat)),(10,.int .i64 (i2:Nat)),(11,.int .i64 (s:Nat))] [(sb,true,.cells ⟨(strsL dec w)++jj⟩ 9 (0,0))] ⟨s,q1,q2,fun h=> absurd h c1,⟨rfl,rfl,rfl,rfl,trivial⟩,rfl⟩)
       · refine Tc.db (Tc.loopInv (σ:= { s:Nat//i≤s∧Pti a b s (j) w }) (fun s=> ([(0,.slice (some ⟨sb,0,none⟩) n cap),(1,.int .i64 (a:Nat)),(10,.int .i64 (s.1:Nat)),(11,.int .i64 (j:Nat))],[(sb,true,.cells ⟨(strsL dec w)++jj⟩ 9 (0,0))])) (fun s=> j+1-s.1) ?_ ⟨i,Nat.le_refl _,g1⟩);rintro⟨s,q1,q2⟩ ih;have q3:=q2.ai;have q4:=q2.ij;have q5:=q2.jb;show Tc M St _ _ _ _ [(0,.slice (some ⟨sb,0,none⟩) n cap),(1,.int .i64 (a:Nat)),(10,.int .i64 (s:Nat)),(11,.int .i64 (j:Nat))] [(sb,true,.cells ⟨(strsL dec w)++jj⟩ 9 (0,0))] _ _;by_cases c1:s≤j
         · have k1:=cellsS_ld (dec:=dec) (m:=w) (j:=jj) (k:=(s:Nat)) (p:=s) rfl (by omega);have k2:=cellsS_ld (dec:=dec) (m:=w) (j:=jj) (k:=(a:Nat)) (p:=a) rfl (by omega);by_cases c2:at0 w s<at0 w a
           · refine U2 ?_;refine Tc.dr [] [] mixed rfl ?_;refine .nn 0 ?_;refine .nn 1 ?_;refine .nn 2 ?_;refine .nn 3 ?_;refine .nn 4 ?_;refine .nn 5 ?_;refine .nn 6 ?_;refine .nn 7 ?_;refine .nn 8 ?_;refine .nn 9 ?_;refine .nn 10 ?_;refine .nn 11 ?_;refine .z 12 rfl (OpV.takeCall rfl rfl rfl rfl (fun H hs=> .h (lessS M H hEu (at0_mem (by omega)) (at0_mem (by omega)) true (decide_eq_true c2)))) ?_;refine .nn 13 ?_;refine .dn ?_;refine U9 ?_;exact Tc.db (ih ⟨s+1,by omega,q2.up c1 c2⟩ (by simp only;omega))
           · refine U2 ?_;refine Tc.dr [] [] mixed rfl ?_;refine .nn 0 ?_;refine .nn 1 ?_;refine .nn 2 ?_;refine .nn 3 ?_;refine .nn 4 ?_;refine .nn 5 ?_;refine .nn 6 ?_;refine .nn 7 ?_;refine .nn 8 ?_;refine .nn 9 ?_;refine .nn 10 ?_;refine .nn 11 ?_;refine .z 12 rfl (OpV.takeCall rfl rfl rfl rfl (fun H hs=> .h (lessS M H hEu (at0_mem (by omega)) (at0_mem (by omega)) false (decide_eq_false c2)))) ?_;refine .nn 13 ?_;refine .dn ?_;refine U2 ?_;exact Tc.db (fin [(0,.slice (some ⟨sb,0,none⟩) n cap),(1,.int .i64 (a:Nat)),(10,.int .i64 (s:Nat)),(11,.int .i64 (j:Nat))] [(sb,true,.cells ⟨(strsL dec w)++jj⟩ 9 (0,0))] ⟨s,q1,q2,fun _=> c2,⟨rfl,rfl,rfl,rfl,trivial⟩,rfl⟩)
         · refine U2 ?_;refine Tc.dr [] [] mixed rfl ?_;refine .nn 0 ?_;refine .nn 1 ?_;refine .nn 2 ?_;refine .nn 3 ?_;refine .nw 4 ?_;refine .nw 5 ?_;refine .nw 6 ?_;refine .nw 7 ?_;refine .nw 8 ?_;refine .nw 9 ?_;refine .nw 10 ?_;refine .nw 11 ?_;refine .nw 12 ?_;refine .nn 13 ?_;refine .dn ?_;refine U2 ?_;exact Tc.db (fin [(0,.slice (some ⟨sb,0,none⟩) n cap),(1,.int .i64 (a:Nat)),(10,.int .i64 (s:Nat)),(11,.int .i64 (j:Nat))] [(sb,true,.cells ⟨(strsL dec w)++jj⟩ 9 (0,0))] ⟨s,q1,q2,fun h=> absurd h c1,⟨rfl,rfl,rfl,rfl,trivial⟩,rfl⟩)
   · refine Tc.db (Tc.loopInv (σ:= { s:Nat//s≤b-1∧Pti a b (i1) s u }) (fun s=> ([(0,.slice (some ⟨sb,0,none⟩) n cap),(1,.int .i64 (a:Nat)),(10,.int .i64 (i1:Nat)),(11,.int .i64 (s.1:Nat))],[(sb,true,.cells ⟨(strsL dec u)++jj⟩ 9 (0,0))])) (fun s=> s.1) ?_ ⟨b-1,Nat.le_refl _,o1⟩);rintro⟨s,q1,q2⟩ ih;have q3:=q2.ai;have q4:=q2.ij;have q5:=q2.jb;show Tc M St _ _ _ _ [(0,.slice (some ⟨sb,0,none⟩) n cap),(1,.int .i64 (a:Nat)),(10,.int .i64 (i1:Nat)),(11,.int .i64 (s:Nat))] [(sb,true,.cells ⟨(strsL dec u)++jj⟩ 9 (0,0))] _ _;by_cases c1:i1≤s
     · have e1:((s:Nat):Int)-1=((s-1:Nat):Int):=by omega
       have k1:=cellsS_ld (dec:=dec) (m:=u) (j:=jj) (k:=(s:Nat)) (p:=s) rfl (by omega);have k2:=cellsS_ld (dec:=dec) (m:=u) (j:=jj) (k:=(a:Nat)) (p:=a) rfl (by omega);by_cases c2:at0 u s<at0 u a
       · refine U2 ?_;refine Tc.dr [] [] mixed rfl ?_;refine .nn 0 ?_;refine .nn 1 ?_;refine .nn 2 ?_;refine .nn 3 ?_;refine .nn 4 ?_;refine .nn 5 ?_;refine .nn 6 ?_;refine .nn 7 ?_;refine .nn 8 ?_;refine .nn 9 ?_;refine .nn 10 ?_;refine .nn 11 ?_;refine .z 12 rfl (OpV.takeCall rfl rfl rfl rfl (fun H hs=> .h (lessS M H hEu (at0_mem (by omega)) (at0_mem (by omega)) true (decide_eq_true c2)))) ?_;refine .nn 13 ?_;refine .nn 14 ?_;refine .dn ?_;refine U2 ?_;exact Tc.db (fin [(0,.slice (some ⟨sb,0,none⟩) n cap),(1,.int .i64 (a:Nat)),(10,.int .i64 (i1:Nat)),(11,.int .i64 (s:Nat))] [(sb,true,.cells ⟨(strsL dec u)++jj⟩ 9 (0,0))] ⟨s,q1,q2,fun _=> c2,⟨rfl,rfl,rfl,rfl,trivial⟩,rfl⟩)
       · refine U2 ?_;refine Tc.dr [] [] mixed rfl ?_;refine .nn 0 ?_;refine .nn 1 ?_;refine .nn 2 ?_;refine .nn 3 ?_;refine .nn 4 ?_;refine .nn 5 ?_;refine .nn 6 ?_;refine .nn 7 ?_;refine .nn 8 ?_;refine .nn 9 ?_;refine .nn 10 ?_;refine .nn 11 ?_;refine .z 12 rfl (OpV.takeCall rfl rfl rfl rfl (fun H hs=> .h (lessS M H hEu (at0_mem (by omega)) (at0_mem (by omega)) false (decide_eq_false c2)))) ?_;refine .nn 13 ?_;refine .nn 14 ?_;refine .dn ?_;refine U8 ?_;rw[e1];refine U ?_;exact Tc.db (ih ⟨s-1,by omega,q2.down c1 c2⟩ (by simp only;omega))
     · refine U2 ?_;refine Tc.dr [] [] mixed rfl ?_;refine .nn 0 ?_;refine .nn 1 ?_;refine .nn 2 ?_;refine .nn 3 ?_;refine .nw 4 ?_;refine .nw 5 ?_;refine .nw 6 ?_;refine .nw 7 ?_;refine .nw 8 ?_;refine .nw 9 ?_;refine .nw 10 ?_;refine .nw 11 ?_;refine .nw 12 ?_;refine .nw 13 ?_;refine .nn 14 ?_;refine .dn ?_;refine U2 ?_;exact Tc.db (fin [(0,.slice (some ⟨sb,0,none⟩) n cap),(1,.int .i64 (a:Nat)),(10,.int .i64 (i1:Nat)),(11,.int .i64 (s:Nat))] [(sb,true,.cells ⟨(strsL dec u)++jj⟩ 9 (0,0))] ⟨s,q1,q2,fun h=> absurd h c1,⟨rfl,rfl,rfl,rfl,trivial⟩,rfl⟩)
 · refine Tc.db (Tc.loopInv (σ:= { s:Nat//a+1≤s∧Pti a b s (b-1) u }) (fun s=> ([(0,.slice (some ⟨sb,0,none⟩) n cap),(1,.int .i64 (a:Nat)),(10,.int .i64 (s.1:Nat)),(11,.int .i64 (b-1:Nat))],[(sb,true,.cells ⟨(strsL dec u)++jj⟩ 9 (0,0))])) (fun s=> b-1+1-s.1) ?_ ⟨a+1,Nat.le_refl _,hst⟩);rintro⟨s,q1,q2⟩ ih;have q3:=q2.ai;have q4:=q2.ij;have q5:=q2.jb;show Tc M St _ _ _ _ [(0,.slice (some ⟨sb,0,none⟩) n cap),(1,.int .i64 (a:Nat)),(10,.int .i64 (s:Nat)),(11,.int .i64 (b-1:Nat))] [(sb,true,.cells ⟨(strsL dec u)++jj⟩ 9 (0,0))] _ _;by_cases c1:s≤b-1
   · have k1:=cellsS_ld (dec:=dec) (m:=u) (j:=jj) (k:=(s:Nat)) (p:=s) rfl (by omega);have k2:=cellsS_ld (dec:=dec) (m:=u) (j:=jj) (k:=(a:Nat)) (p:=a) rfl (by omega);by_cases c2:at0 u s<at0 u a
     · refine U2 ?_;refine Tc.dr [] [] mixed rfl ?_;refine .nn 0 ?_;refine .nn 1 ?_;refine .nn 2 ?_;refine .nn 3 ?_;refine .nn 4 ?_;refine .nn 5 ?_;refine .nn 6 ?_;refine .nn 7 ?_;refine .nn 8 ?_;refine .nn 9 ?_;refine .nn 10 ?_;refine .nn 11 ?_;refine .z 12 rfl (OpV.takeCall rfl rfl rfl rfl (fun H hs=> .h (lessS M H hEu (at0_mem (by omega)) (at0_mem (by omega)) true (decide_eq_true c2)))) ?_;refine .nn 13 ?_;refine .dn ?_;refine U9 ?_;exact Tc.db (ih ⟨s+1,by omega,q2.up c1 c2⟩ (by simp only;omega))
     · refine U2 ?_;refine Tc.dr [] [] mixed rfl ?_;refine .nn 0 ?_;refine .nn 1 ?_;refine .nn 2 ?_;refine .nn 3 ?_;refine .nn 4 ?_;refine .nn 5 ?_;refine .nn 6 ?_;refine .nn 7 ?_;refine .nn 8 ?_;refine .nn 9 ?_;refine .nn 10 ?_;refine .nn 11 ?_;refine .z 12 rfl (OpV.takeCall rfl rfl rfl rfl (fun H hs=> .h (lessS M H hEu (at0_mem (by omega)) (at0_mem (by omega)) false (decide_eq_false c2)))) ?_;refine .nn 13 ?_;refine .dn ?_;refine U2 ?_;exact Tc.db (fin [(0,.slice (some ⟨sb,0,none⟩) n cap),(1,.int .i64 (a:Nat)),(10,.int .i64 (s:Nat)),(11,.int .i64 (b-1:Nat))] [(sb,true,.cells ⟨(strsL dec u)++jj⟩ 9 (0,0))] ⟨s,q1,q2,fun _=> c2,⟨rfl,rfl,rfl,rfl,trivial⟩,rfl⟩)
   · refine U2 ?_;refine Tc.dr [] [] mixed rfl ?_;refine .nn 0 ?_;refine .nn 1 ?_;refine .nn 2 ?_;refine .nn 3 ?_;refine .nw 4 ?_;refine .nw 5 ?_;refine .nw 6 ?_;refine .nw 7 ?_;refine .nw 8 ?_;refine .nw 9 ?_;refine .nw 10 ?_;refine .nw 11 ?_;refine .nw 12 ?_;refine .nn 13 ?_;refine .dn ?_;refine U2 ?_;exact Tc.db (fin [(0,.slice (some ⟨sb,0,none⟩) n cap),(1,.int .i64 (a:Nat)),(10,.int .i64 (s:Nat)),(11,.int .i64 (b-1:Nat))] [(sb,true,.cells ⟨(strsL dec u)++jj⟩ 9 (0,0))] ⟨s,q1,q2,fun h=> absurd h c1,⟨rfl,rfl,rfl,rfl,trivial⟩,rfl⟩)
end
section
variable(M:Md prog)(H:View)
theorem partialS_c (dec:Int→List UInt8)(sb:Nat)(l:List Int)(jj:List Value)(n cap a b:Nat)(hn:n=l.length)(hE:Enc dec l)(hb:b≤n)(h1000:n≤100000000)(hab:a<b)(hah:Ahead a b l)(hS:H sb=some (true,.cells ⟨(strsL dec l)++jj⟩ 9 (0,0))):
   CallT M 203 #[.slice (some ⟨sb,0,none⟩) n cap,.int .i64 (a:Nat),.int .i64 (b:Nat)] H (SortSQ dec H sb jj (fun v m=> ∃t:Bool,v=.bool t∧Turned a b l m∧(t=true→Srt a b m))):=by
 refine CallT.enter (vs:= [.slice (some ⟨sb,0,none⟩) n cap,.int .i64 (a:Nat),.int .i64 (b:Nat)]) func203 rfl ntmps203 (Nat.le_of_ble_eq_true rfl) (SymSt.pull hS) fun St c cs hK=> ?_;have ea:intBin .add .i64 (a:Nat) 1=some (.int .i64 ((a+1:Nat):Int)):=by rw[add_in (by omega) (by omega)];rfl
 refine U16 ?_;refine Tc.db (Tc.loopInv (σ:= { s:Nat×Nat×List Int//a+1≤s.1∧s.1≤b∧s.2.1≤5∧Turned a b l s.2.2∧Srt a s.1 s.2.2 }) (fun s=> ([(0,.slice (some ⟨sb,0,none⟩) n cap),(1,.int .i64 (a:Nat)),(2,.int .i64 (b:Nat)),(7,.int .i64 (s.1.1:Nat)),(8,.int .i64 (s.1.2.1:Nat))],[(sb,true,.cells ⟨(strsL dec s.1.2.2)++jj⟩ 9 (0,0))])) (fun s=> 5-s.1.2.1) ?_
   ⟨(a+1,0,l),Nat.le_refl _,by simp only;omega,Nat.zero_le _,Turned.refl ..,fun p q h1 h2 h3=> by simp only at h3;omega⟩)
 rintro⟨⟨i0,c0,u⟩,f1,f2,f3,f4,f5⟩ ih;simp only at f1 f2 f3 f4 f5;have hul:=f4.len;have hEu:=hE.turned f4;have hau:=hah.turn f4 (by omega);show Tc M St _ _ _ _ [(0,.slice (some ⟨sb,0,none⟩) n cap),(1,.int .i64 (a:Nat)),(2,.int .i64 (b:Nat)),(7,.int .i64 (i0:Nat)),(8,.int .i64 (c0:Nat))] [(sb,true,.cells ⟨(strsL dec u)++jj⟩ 9 (0,0))] _ _;by_cases d0:c0<5
 · have ec : intBin .add .i64 (c0:Nat) 1=some (.int .i64 ((c0+1:Nat):Int)):=by rw[add_in (by omega) (by omega)];rfl
   refine U12 ?_;refine Tc.db (Tc.loopInv (σ:= { i:Nat//a+1≤i∧i≤b∧Srt a i u }) (fun i=> ([(0,.slice (some ⟨sb,0,none⟩) n cap),(1,.int .i64 (a:Nat)),(2,.int .i64 (b:Nat)),(7,.int .i64 (i.1:Nat)),(8,.int .i64 (c0:Nat))],[(sb,true,.cells ⟨(strsL dec u)++jj⟩ 9 (0,0))])) (fun i=> b-i.1) ?_ ⟨i0,f1,f2,f5⟩);rintro⟨i,g1,g2,g3⟩ ih2;show Tc M St _ _ _ _ [(0,.slice (some ⟨sb,0,none⟩) n cap),(1,.int .i64 (a:Nat)),(2,.int .i64 (b:Nat)),(7,.int .i64 (i:Nat)),(8,.int .i64 (c0:Nat))] [(sb,true,.cells ⟨(strsL dec u)++jj⟩ 9 (0,0))] _ _;by_cases d1:i<b
   · have e1 : ((i : Nat):Int)-1=((i-1:Nat):Int):=by omega
     have k1:=cellsS_ld (dec:=dec) (m:=u) (j:=jj) (k:=(i:Nat)) (p:=i) rfl (by omega);have k2:=cellsS_ld (dec:=dec) (m:=u) (j:=jj) (k:=(i:Nat)-1) (p:=i-1) e1 (by omega);by_cases d2:at0 u i<at0 u (i-1)
     · clear ih2;by_cases d3:b<a+50
       · refine U2 ?_;refine Tc.dr [] [] mixed rfl ?_;refine .nn 0 ?_;refine .nn 1 ?_;refine .nn 2 ?_;refine .nn 3 ?_;refine .nn 4 ?_;refine .nn 5 ?_;refine .nn 6 ?_;refine .nn 7 ?_;refine .nn 8 ?_;refine .nn 9 ?_;refine .nn 10 ?_;refine .nn 11 ?_;refine .nn 12 ?_;refine .z 13 rfl (OpV.takeCall rfl rfl rfl rfl (fun H hs=> .h (lessS M H hEu (at0_mem (by omega)) (at0_mem (by omega)) true (decide_eq_true d2)))) ?_;refine .nn 14 ?_;refine .nn 15 ?_;refine .dn ?_;refine U24 ?_;refine .rt hK func203 results203 [_] ?_;exact fun H' hs=> SortSQ.of (dec:=dec) hs (i:=0) rfl ⟨false,rfl,f4,fun h=> nomatch h⟩
       · have s1 :=cellsS_st (dec:=dec) (m:=u) (j:=jj) (k:=(i:Nat)) (x:=at0 u (i-1)) (p:=i) rfl (by omega);have s2:=cellsS_st (dec:=dec) (m:=u.set i (at0 u (i-1))) (j:=jj) (k:=(i:Nat)-1) (x:=at0 u i) (p:=i-1) e1 (by rw[List.length_set];omega);have l1:=cellsS_le (dec:=dec) (m:=u) (j:=jj) (k:=(i:Nat)) (p:=i) rfl (by omega);have l2:=cellsS_le (dec:=dec) (m:=u.set i (at0 u (i-1))) (j:=jj) (k:=(i:Nat)-1) (p:=i-1) e1 (by rw[List.length_set];omega);refine U2 ?_;refine Tc.dr [] [] mixed rfl ?_;refine .nn 0 ?_;refine .nn 1 ?_;refine .nn 2 ?_;refine .nn 3 ?_;refine .nn 4 ?_;refine .nn 5 ?_;refine .nn 6 ?_;refine .nn 7 ?_;refine .nn 8 ?_;refine .nn 9 ?_;refine .nn 10 ?_;refine .nn 11 ?_;refine .nn 12 ?_;refine .z 13 rfl (OpV.takeCall rfl rfl rfl rfl (fun H hs=> .h (lessS M H hEu (at0_mem (by omega)) (at0_mem (by omega)) true (decide_eq_true d2)))) ?_;refine .nn 14 ?_;refine .nn 15 ?_;refine .dn ?_;refine U22 ?_;refine Tc.dr [15,17] [0] mixed rfl ?_;refine .nn 0 ?_;refine .nn 1 ?_;refine .nw 2 ?_;refine .nw 3 ?_;refine .nw 4 ?_;refine .nn 5 ?_;refine .nn 6 ?_;refine .nn 7 ?_;refine .nn 8 ?_;refine .nn 9 ?_;refine .nw 10 ?_;refine .nw 11 ?_;refine .nw 12 ?_;refine .nn 13 ?_;refine .nn 14 ?_;refine .e 15 0 ?_;refine .nw 16 ?_;refine .e 17 0 ?_;refine .dn ?_;refine Tc.db (R':= [(0,.slice (some ⟨sb,0,none⟩) n cap),(1,.int .i64 (a:Nat)),(2,.int .i64 (b:Nat)),(7,.int .i64 (i:Nat)),(8,.int .i64 (c0:Nat))]) (L':= [(sb,true,.cells ⟨(strsL dec (swapL u i (i-1)))++jj⟩ 9 (0,0))]) ?_;have hx:Turned a b l (swapL u i (i-1)):=f4.trans (Turned.swap (by omega) (by omega) (by omega) (by omega));have hgap:∀p q,a≤p→p<q→q≤i-1→q≠i-1→at0 (swapL u i (i-1)) p≤at0 (swapL u i (i-1)) q:=fun p q h1 h2 h3 h4=> by
           rw[swapL_at (by omega) (by omega),swapL_at (by omega) (by omega),if_neg (by omega),if_neg (by omega),if_neg (by omega),if_neg (by omega)];exact g3 p q h1 h2 (by omega)
         generalize swapL u i (i-1)=x at hx hgap;clear k1 k2 s1 s2 l1 l2 d2 g3 hau hEu hul;have hxl:=hx.len;refine U ?_;refine Tc.via (fun R' L'=> ∃w,Turned a b l w∧Srt a i w∧AllIn [(0,.slice (some ⟨sb,0,none⟩) n cap),(1,.int .i64 (a:Nat)),(2,.int .i64 (b:Nat)),(7,.int .i64 (i:Nat)),(8,.int .i64 (c0:Nat))] R'∧L'= [(sb,true,.cells ⟨(strsL dec w)++jj⟩ 9 (0,0))]) ?_ (fun fin=> ?_)
         rotate_left
         · by_cases d4 :a+2≤i
           · refine U14 ?_;rw[e1];refine U ?_;refine Tc.db (Tc.loopInv (σ:= { s:Nat×List Int//a≤s.1∧s.1<i∧Turned a b l s.2∧∀p q,a≤p→p<q→q≤i-1→q≠s.1→at0 s.2 p≤at0 s.2 q }) (fun s=> ([(0,.slice (some ⟨sb,0,none⟩) n cap),(1,.int .i64 (a:Nat)),(2,.int .i64 (b:Nat)),(7,.int .i64 (i:Nat)),(8,.int .i64 (c0:Nat)),(9,.int .i64 (s.1.1:Nat))],[(sb,true,.cells ⟨(strsL dec s.1.2)++jj⟩ 9 (0,0))])) (fun s=> s.1.1) ?_
               ⟨(i-1,x),by simp only;omega,by simp only;omega,hx,hgap⟩)
             rintro⟨⟨j,w⟩,p1,p2,p3,p4⟩ ih3;simp only at p1 p2 p3 p4;have hwl:=p3.len;have hEw:=hE.turned p3;have haw:=hah.turn p3 (by omega);show Tc M St _ _ _ _ [(0,.slice (some ⟨sb,0,none⟩) n cap),(1,.int .i64 (a:Nat)),(2,.int .i64 (b:Nat)),(7,.int .i64 (i:Nat)),(8,.int .i64 (c0:Nat)),(9,.int .i64 (j:Nat))] [(sb,true,.cells ⟨(strsL dec w)++jj⟩ 9 (0,0))] _ _;have hsrt:(a<j→¬at0 w j<at0 w (j-1))→Srt a i w:=fun h=> by
               by_cases e:a<j
               · have:=ins_out (i:=i-1) p4 e (h e)
                 rwa [show i-1+1=i by omega] at this
               · exact fun p q h1 h2 h3=> p4 p q h1 h2 (by omega) (by omega)
             by_cases d5:1≤j
             · have e2 :((j:Nat):Int)-1=((j-1:Nat):Int):=by omega
               have y1:=cellsS_ld (dec:=dec) (m:=w) (j:=jj) (k:=(j:Nat)) (p:=j) rfl (by omega);have y2:=cellsS_ld (dec:=dec) (m:=w) (j:=jj) (k:=(j:Nat)-1) (p:=j-1) e2 (by omega);by_cases d6:at0 w j<at0 w (j-1)
               · have haj:a<j:=by
                   rcases haw with h|h
                   · omega
                   · by_cases e:a<j
                     · exact e
                     · have e3:j=a:=by omega
                       subst e3;have:=h j (Nat.le_refl _) (by omega);omega
                 have t1:=cellsS_st (dec:=dec) (m:=w) (j:=jj) (k:=(j:Nat)) (x:=at0 w (j-1)) (p:=j) rfl (by omega);have t2:=cellsS_st (dec:=dec) (m:=w.set j (at0 w (j-1))) (j:=jj) (k:=(j:Nat)-1) (x:=at0 w j) (p:=j-1) e2 (by rw[List.length_set];omega);have m1:=cellsS_le (dec:=dec) (m:=w) (j:=jj) (k:=(j:Nat)) (p:=j) rfl (by omega);have m2:=cellsS_le (dec:=dec) (m:=w.set j (at0 w (j-1))) (j:=jj) (k:=(j:Nat)-1) (p:=j-1) e2 (by rw[List.length_set];omega);refine U12 ?_;refine Tc.dr [] [] mixed rfl ?_;refine .nn 0 ?_;refine .nn 1 ?_;refine .nn 2 ?_;refine .nn 3 ?_;refine .nn 4 ?_;refine .nn 5 ?_;refine .nn 6 ?_;refine .nn 7 ?_;refine .nn 8 ?_;refine .z 9 rfl (OpV.takeCall rfl rfl rfl rfl (fun H hs=> .h (lessS M H hEw (at0_mem (by omega)) (at0_mem (by omega)) true (decide_eq_true d6)))) ?_;refine .nn 10 ?_;refine .dn ?_;refine U2 ?_;refine Tc.dr [15,17] [0] mixed rfl ?_;refine .nn 0 ?_;refine .nn 1 ?_;refine .nw 2 ?_;refine .nw 3 ?_;refine .nw 4 ?_;refine .nn 5 ?_;refine .nn 6 ?_;refine .nn 7 ?_;refine .nn 8 ?_;refine .nn 9 ?_;refine .nw 10 ?_;refine .nw 11 ?_;refine .nw 12 ?_;refine .nn 13 ?_;refine .nn 14 ?_;refine .e 15 0 ?_;refine .nw 16 ?_;refine .e 17 0 ?_;refine .dn ?_;refine U6 ?_;rw[e2];exact Tc.db (ih3 ⟨(j-1,swapL w j (j-1)),by simp only;omega,by simp only;omega,p3.trans (Turned.swap (by omega) (by omega) (by omega) (by omega)),ins_step (by omega) (by omega) p4 haj d6⟩ (by simp only;omega))
               · refine U12 ?_;refine Tc.dr [] [] mixed rfl ?_;refine .nn 0 ?_;refine .nn 1 ?_;refine .nn 2 ?_;refine .nn 3 ?_;refine .nn 4 ?_;refine .nn 5 ?_;refine .nn 6 ?_;refine .nn 7 ?_;refine .nn 8 ?_;refine .z 9 rfl (OpV.takeCall rfl rfl rfl rfl (fun H hs=> .h (lessS M H hEw (at0_mem (by omega)) (at0_mem (by omega)) false (decide_eq_false d6)))) ?_;refine .nn 10 ?_;refine .dn ?_;refine U2 ?_;exact fin _ _ ⟨w,p3,hsrt fun _=> d6,⟨rfl,rfl,rfl,rfl,rfl,trivial⟩,rfl⟩
             · repeat (refine Tc.seq ?_)
               refine U6 ?_;exact fin _ _ ⟨w,p3,hsrt fun h=> by omega,⟨rfl,rfl,rfl,rfl,rfl,trivial⟩,rfl⟩
           · have hi:i=a+1:=by omega
             refine U9 ?_;exact fin _ _ ⟨x,hx,fun p q h1 h2 h3=> by omega,⟨rfl,rfl,rfl,rfl,rfl,trivial⟩,rfl⟩
         rintro R' _ ⟨w0,p1,p2,hRR,rfl⟩;refine Tc.dropB ?_ hRR (List.Sublist.refl _);clear hRR hx hgap hxl x;have hwl:=p1.len;refine Tc.via (fun R' L'=> ∃w,Turned a b l w∧Srt a i w∧AllIn [(0,.slice (some ⟨sb,0,none⟩) n cap),(1,.int .i64 (a:Nat)),(2,.int .i64 (b:Nat)),(7,.int .i64 (i:Nat)),(8,.int .i64 (c0:Nat))] R'∧L'= [(sb,true,.cells ⟨(strsL dec w)++jj⟩ 9 (0,0))]) ?_ (fun fin=> ?_)
         · rintro R' _ ⟨w,o1,o2,hRR,rfl⟩;refine Tc.dropB ?_ hRR (List.Sublist.refl _);refine U6 ?_;exact Tc.db (ih ⟨(i,c0+1,w),g1,g2,by simp only;omega,o1,o2⟩ (by simp only;omega))
         · by_cases d4:i+2≤b
           · have ei:intBin .add .i64 (i:Nat) 1=some (.int .i64 ((i+1:Nat):Int)):=by rw[add_in (by omega) (by omega)];rfl
             refine U15 ?_;refine Tc.db (Tc.loopInv (σ:= { s:Nat×List Int//i+1≤s.1∧s.1≤b∧Turned a b l s.2∧Srt a i s.2 }) (fun s=> ([(0,.slice (some ⟨sb,0,none⟩) n cap),(1,.int .i64 (a:Nat)),(2,.int .i64 (b:Nat)),(7,.int .i64 (i:Nat)),(8,.int .i64 (c0:Nat)),(10,.int .i64 (s.1.1:Nat))],[(sb,true,.cells ⟨(strsL dec s.1.2)++jj⟩ 9 (0,0))])) (fun s=> b-s.1.1) ?_
               ⟨(i+1,w0),Nat.le_refl _,by simp only;omega,p1,p2⟩)
             rintro⟨⟨j,w⟩,q1,q2,q3,q4⟩ ih3;simp only at q1 q2 q3 q4;have hwl:=q3.len;have hEw:=hE.turned q3;show Tc M St _ _ _ _ [(0,.slice (some ⟨sb,0,none⟩) n cap),(1,.int .i64 (a:Nat)),(2,.int .i64 (b:Nat)),(7,.int .i64 (i:Nat)),(8,.int .i64 (c0:Nat)),(10,.int .i64 (j:Nat))] [(sb,true,.cells ⟨(strsL dec w)++jj⟩ 9 (0,0))] _ _;by_cases d5:j<b
             · have e2:((j:Nat):Int)-1=((j-1:Nat):Int):=by omega
               have y1:=cellsS_ld (dec:=dec) (m:=w) (j:=jj) (k:=(j:Nat)) (p:=j) rfl (by omega);have y2:=cellsS_ld (dec:=dec) (m:=w) (j:=jj) (k:=(j:Nat)-1) (p:=j-1) e2 (by omega);by_cases d6:at0 w j<at0 w (j-1)
               · have t1:=cellsS_st (dec:=dec) (m:=w) (j:=jj) (k:=(j:Nat)) (x:=at0 w (j-1)) (p:=j) rfl (by omega);have t2:=cellsS_st (dec:=dec) (m:=w.set j (at0 w (j-1))) (j:=jj) (k:=(j:Nat)-1) (x:=at0 w j) (p:=j-1) e2 (by rw[List.length_set];omega);have m1:=cellsS_le (dec:=dec) (m:=w) (j:=jj) (k:=(j:Nat)) (p:=j) rfl (by omega);have m2:=cellsS_le (dec:=dec) (m:=w.set j (at0 w (j-1))) (j:=jj) (k:=(j:Nat)-1) (p:=j-1) e2 (by rw[List.length_set];omega);have ej:intBin .add .i64 (j:Nat) 1=some (.int .i64 ((j+1:Nat):Int)):=by rw[add_in (by omega) (by omega)];rfl
                 refine U13 ?_;refine Tc.dr [] [] mixed rfl ?_;refine .nn 0 ?_;refine .nn 1 ?_;refine .nn 2 ?_;refine .nn 3 ?_;refine .nn 4 ?_;refine .nn 5 ?_;refine .nn 6 ?_;refine .nn 7 ?_;refine .nn 8 ?_;refine .z 9 rfl (OpV.takeCall rfl rfl rfl rfl (fun H hs=> .h (lessS M H hEw (at0_mem (by omega)) (at0_mem (by omega)) true (decide_eq_true d6)))) ?_;refine .nn 10 ?_;refine .dn ?_;refine U2 ?_;refine Tc.dr [15,17] [0] mixed rfl ?_;refine .nn 0 ?_;refine .nn 1 ?_;refine .nw 2 ?_;refine .nw 3 ?_;refine .nw 4 ?_;refine .nn 5 ?_;refine .nn 6 ?_;refine .nn 7 ?_;refine .nn 8 ?_;refine .nn 9 ?_;refine .nw 10 ?_;refine .nw 11 ?_;refine .nw 12 ?_;refine .nn 13 ?_;refine .nn 14 ?_;refine .e 15 0 ?_;refine .nw 16 ?_;refine .e 17 0 ?_;refine .dn ?_;refine U6 ?_;exact Tc.db (ih3 ⟨(j+1,swapL w j (j-1)),by simp only;omega,by simp only;omega,q3.trans (Turned.swap (by omega) (by omega) (by omega) (by omega)),srt_swap (by omega) (by omega) q4⟩ (by simp only;omega))
               · refine U13 ?_;refine Tc.dr [] [] mixed rfl ?_;refine .nn 0 ?_;refine .nn 1 ?_;refine .nn 2 ?_;refine .nn 3 ?_;refine .nn 4 ?_;refine .nn 5 ?_;refine .nn 6 ?_;refine .nn 7 ?_;refine .nn 8 ?_;refine .z 9 rfl (OpV.takeCall rfl rfl rfl rfl (fun H hs=> .h (lessS M H hEw (at0_mem (by omega)) (at0_mem (by omega)) false (decide_eq_false d6)))) ?_;refine .nn 10 ?_;refine .dn ?_;refine U2 ?_;exact fin _ _ ⟨w,q3,q4,⟨rfl,rfl,rfl,rfl,rfl,trivial⟩,rfl⟩
             · repeat (refine Tc.seq ?_)
               refine U7 ?_;exact fin _ _ ⟨w,q3,q4,⟨rfl,rfl,rfl,rfl,rfl,trivial⟩,rfl⟩
           · refine U9 ?_;exact fin _ _ ⟨w0,p1,p2,⟨rfl,rfl,rfl,rfl,rfl,trivial⟩,rfl⟩
     · have ei:intBin .add .i64 (i:Nat) 1=some (.int .i64 ((i+1:Nat):Int)):=by rw[add_in (by omega) (by omega)];rfl
       refine U2 ?_;refine Tc.dr [] [] mixed rfl ?_;refine .nn 0 ?_;refine .nn 1 ?_;refine .nn 2 ?_;refine .nn 3 ?_;refine .nn 4 ?_;refine .nn 5 ?_;refine .nn 6 ?_;refine .nn 7 ?_;refine .nn 8 ?_;refine .nn 9 ?_;refine .nn 10 ?_;refine .nn 11 ?_;refine .nn 12 ?_;refine .z 13 rfl (OpV.takeCall rfl rfl rfl rfl (fun H hs=> .h (lessS M H hEu (at0_mem (by omega)) (at0_mem (by omega)) false (decide_eq_false d2)))) ?_;refine .nn 14 ?_;refine .nn 15 ?_;refine .dn ?_;refine U9 ?_;exact Tc.db (ih2 ⟨i+1,by omega,by omega,srt_snoc g3 (by omega) d2⟩ (by simp only;omega))
   · refine U2 ?_;refine Tc.dr [] [] mixed rfl ?_;refine .nn 0 ?_;refine .nn 1 ?_;refine .nn 2 ?_;refine .nn 3 ?_;refine .nw 4 ?_;refine .nw 5 ?_;refine .nw 6 ?_;refine .nw 7 ?_;refine .nw 8 ?_;refine .nw 9 ?_;refine .nw 10 ?_;refine .nw 11 ?_;refine .nw 12 ?_;refine .nw 13 ?_;refine .nw 14 ?_;refine .nn 15 ?_;refine .dn ?_;refine U14 ?_;refine .rt hK func203 results203 [_] ?_;have hi:i=b:=by omega
     exact fun H' hs=> SortSQ.of (dec:=dec) hs (i:=0) rfl ⟨true,rfl,f4,fun _=> hi▸g3⟩
 · refine U12 ?_;refine .rt hK func203 results203 [_] ?_;exact fun H' hs=> SortSQ.of (dec:=dec) hs (i:=0) rfl ⟨false,rfl,f4,fun h=> nomatch h⟩
end
set_option maxHeartbeats 8000000
theorem bl_spec {x:Nat}(hx:0<x):x<2 ^ bl x∧2 ^ bl x≤2*x:=by
 unfold bl;rw[if_neg (by omega)];have h1:x<2 ^ (Nat.log2 x+1):=Nat.lt_log2_self;have h2:2 ^ Nat.log2 x≤x:=Nat.log2_self_le (by omega);refine⟨h1,?_⟩;rw[Nat.pow_succ];omega
theorem bl_only {x r:Nat}(hx:0<x)(h1:x<2 ^ r)(h2:2 ^ r≤2*x):bl x=r:=by
 obtain⟨h3,h4⟩:=bl_spec hx;have a1:2 ^ bl x<2 ^ (r+1):=by rw[Nat.pow_succ];omega
 have a2:2 ^ r<2 ^ (bl x+1):=by rw[Nat.pow_succ];omega
 have b1:=(Nat.pow_lt_pow_iff_right (a:=2) (by decide)).1 a1;have b2:=(Nat.pow_lt_pow_iff_right (a:=2) (by decide)).1 a2;omega
theorem bl_shift {x k:Nat}(hx:2 ^ k≤x):bl x=k+bl (x/2 ^ k):=by
 have hp:0<2 ^ k:=Nat.pow_pos (by decide);have hy:0<x/2 ^ k:=Nat.div_pos hx hp;obtain⟨h1,h2⟩:=bl_spec hy;refine bl_only (by omega) ?_ ?_
 · rw[Nat.pow_add];rw[Nat.mul_comm];exact(Nat.div_lt_iff_lt_mul hp).1 h1
 · rw[Nat.pow_add];have h3:2 ^ k*(x/2 ^ k)≤x:=Nat.mul_div_le x _
   calc 2 ^ k*2 ^ bl (x/2 ^ k)≤2 ^ k*(2*(x/2 ^ k)):=Nat.mul_le_mul_left _ h2
     _=2*(2 ^ k*(x/2 ^ k)):=by rw[Nat.mul_left_comm]
     _≤2*x:=Nat.mul_le_mul_left _ h3
theorem bl_tab:∀x:Nat,x<256→(UInt8.ofNat (bl x)).toNat=bl x∧bl x≤8:=by decide +kernel
theorem u8_tab:∀x:Nat,x<256→IntKind.u8.wrap (x:Int)=(x:Int):=by decide +kernel
theorem shr_nat {x k:Nat}(hk:k≤64):shiftV .shr .u64 (x:Nat) (k:Nat)=some (.int .u64 ((x/2 ^ k:Nat):Int)):=by
 have e:min ((k:Nat):Int).toNat IntKind.u64.bits=k:=by
   have:IntKind.u64.bits=64:=rfl;rw[this,Int.toNat_natCast];omega
 show some (Value.int .u64 (((x:Nat):Int).fdiv (2 ^ (min ((k:Nat):Int).toNat IntKind.u64.bits))))=_;rw[e]
 congr 2
 have:((2:Int) ^ k)=((2 ^ k:Nat):Int):=by norm_cast
 rw[this,Int.fdiv_eq_ediv_of_nonneg _ (Int.natCast_nonneg _)];rfl
section
variable(M:Md prog)(H:View)
theorem Len64G_c(x:Nat)(hx:x<4294967296):CallT M 208 #[.int .u64 (x:Nat)] H (fun v H'=> H.le H'∧v=.int .i64 (bl x:Nat)):=by
 refine .en func208 ntmps208 fun St c cs hK=> ?_;refine U13 ?_;refine Tc.via (fun R' L'=> ∃y s:Nat,y<65536∧s≤16∧bl x=s+bl y∧AllIn [(0,.int .u64 (y:Nat)),(2,.int .i64 (s:Nat))] R') ?_ (fun fin=> ?_)
 rotate_left
 · by_cases c1:65536≤x
   · have hsh:=shr_nat (x:=x) (k:=16) (by decide);refine U9 ?_;refine .x (OpV.shift rfl rfl rfl (by omega) hsh) ?_;refine U7 ?_;exact fin _ [] ⟨x/2 ^ 16,16,by omega,by omega,bl_shift (k:=16) c1,⟨rfl,rfl,trivial⟩⟩
   · refine U7 ?_;exact fin _ [] ⟨x,0,by omega,by omega,by omega,⟨rfl,rfl,trivial⟩⟩
 rintro R' L' ⟨y,s,hy,hs,hb,hR⟩;refine Tc.dropB (R':= [(0,.int .u64 (y:Nat)),(2,.int .i64 (s:Nat))]) (L':= []) ?_ hR (List.nil_sublist _);clear hR;refine U ?_;refine Tc.via (fun R' L'=> ∃y s:Nat,y<256∧s≤24∧bl x=s+bl y∧AllIn [(0,.int .u64 (y:Nat)),(2,.int .i64 (s:Nat))] R') ?_ (fun fin=> ?_)
 rotate_left
 · by_cases c1:256≤y
   · have hsh:=shr_nat (x:=y) (k:=8) (by decide);have e8:intBin .add .i64 (s:Nat) 8=some (.int .i64 ((s+8:Nat):Int)):=by rw[add_in (by omega) (by omega)];rfl
     refine U9 ?_;refine .x (OpV.shift rfl rfl rfl (by omega) hsh) ?_;refine U7 ?_;exact fin _ [] ⟨y/2 ^ 8,s+8,by omega,by omega,by have:=bl_shift (x:=y) (k:=8) c1;omega,⟨rfl,rfl,trivial⟩⟩
   · refine U7 ?_;exact fin _ [] ⟨y,s,by omega,by omega,hb,⟨rfl,rfl,trivial⟩⟩
 rintro R' L' ⟨z,r,hz,hr,hb2,hR⟩;refine Tc.dropB (R':= [(0,.int .u64 (z:Nat)),(2,.int .i64 (r:Nat))]) (L':= []) ?_ hR (List.nil_sublist _);clear hR;obtain⟨b1,b2⟩:=bl_tab z hz;have hw:=u8_tab z hz;have hw2:IntKind.i64.wrap (((UInt8.ofNat (bl z)).toNat:Nat):Int)=((bl z:Nat):Int):=by rw[b1];exact wrap64 (by omega) (by omega)
 have hadd:intBin .add .i64 (r:Nat) ((bl z:Nat):Int)=some (.int .i64 ((bl x:Nat):Int)):=by rw[add_in (by omega) (by omega),hb2];rfl
 refine U5 ?_;refine .x (OpV.indexStr (c:=UInt8.ofNat (bl z)) rfl rfl rfl (ds_str ((en.ok _ _ (show en.ty 9=some _ from rfl)).ds.trans rfl)) (by omega) (by
   rw[Int.toNat_natCast];exact(fun(s:ByteArray) (h:∀y:Nat,y<256→s[y]? =some (UInt8.ofNat (bl y)))=> h z hz) _ (by decide +kernel))) ?_
 refine .x (OpV.convE (E:=en) rfl rfl rfl rfl rfl rfl hw2) ?_;refine .i ?_ (z:=hadd);refine U2 ?_;refine .rt hK func208 results208 [_] ?_;exact okB
theorem LenG_c(x:Nat)(hx:x<4294967296):CallT M 158 #[.int .u64 (x:Nat)] H (fun v H'=> H.le H'∧v=.int .i64 (bl x:Nat)):=by
 refine .en func158 ntmps158 fun St c cs hK=> ?_;refine U10 ?_;refine .c rfl rfl rfl rfl (fun H hs=> .h (Len64G_c M H x hx)) ?_;refine U2 ?_;refine .rt hK func158 results158 [_] ?_;exact okB
def NextQ(H:View)(cb:Nat)(v:Value)(H':View):Prop:=
 (∀b x,b≠cb→H b=some x→H' b=some x)∧∃z:Int,v=.int .u64 z∧H' cb=some (true,.cells ⟨[.int .u64 z]⟩ 256 (0,0))
theorem Next_c(cb:Nat)(z:Int)(hC:H cb=some (true,.cells ⟨[.int .u64 z]⟩ 256 (0,0))):CallT M 234 #[.pointer (some ⟨cb,0,none⟩)] H (NextQ H cb):=by
 obtain⟨z1,h1⟩:∃z1,shiftV .shl .u64 z 13=some (.int .u64 z1):=⟨_,rfl⟩
 obtain⟨z2,h2⟩:∃z2,intBin .xor .u64 z z1=some (.int .u64 z2):=⟨_,rfl⟩
 obtain⟨z3,h3⟩:∃z3,shiftV .shr .u64 z2 7=some (.int .u64 z3):=⟨_,rfl⟩
 obtain⟨z4,h4⟩:∃z4,intBin .xor .u64 z2 z3=some (.int .u64 z4):=⟨_,rfl⟩
 obtain⟨z5,h5⟩:∃z5,shiftV .shl .u64 z4 17=some (.int .u64 z5):=⟨_,rfl⟩
 obtain⟨z6,h6⟩:∃z6,intBin .xor .u64 z4 z5=some (.int .u64 z6):=⟨_,rfl⟩
 refine CallT.enter (vs:= [.pointer (some ⟨cb,0,none⟩)]) func234 rfl ntmps234 (Nat.le_of_ble_eq_true rfl) (SymSt.pull hC) fun St c cs hK=> ?_;refine U5 ?_;refine Tc.dr [9] [0] mixed rfl ?_;refine .nn 0 ?_;refine .nn 1 ?_;refine .nn 2 ?_;refine .nn 3 ?_;refine .nn 4 ?_;refine .nn 5 ?_;refine .q 6 rfl .sf ?_;refine .nn 7 ?_;refine .nn 8 ?_;refine .e 9 0 ?_;refine .dn ?_;refine U ?_;refine Tc.dr [9] [0] mixed rfl ?_;refine .nn 0 ?_;refine .nn 1 ?_;refine .nn 2 ?_;refine .nn 3 ?_;refine .nn 4 ?_;refine .nn 5 ?_;refine .q 6 rfl .sf ?_;refine .nn 7 ?_;refine .nn 8 ?_;refine .e 9 0 ?_;refine .dn ?_;refine U ?_;refine Tc.dr [9] [0] mixed rfl ?_;refine .nn 0 ?_;refine .nn 1 ?_;refine .nn 2 ?_;refine .nn 3 ?_;refine .nn 4 ?_;refine .nn 5 ?_;refine .q 6 rfl .sf ?_;refine .nn 7 ?_;refine .nn 8 ?_;refine .e 9 0 ?_;refine .dn ?_;refine U7 ?_;refine .rt hK func234 results234 [_] ?_;exact fun H' hs=> ⟨fun b x hb hx=> hs.base b x (by rw[without_other hb];exact hx),z6,rfl,hs.get (i:=0) rfl⟩
theorem u64_in {x:Nat}(hx:x<18446744073709551616):IntKind.u64.wrap ((x:Nat):Int)=((x:Nat):Int):=by
 show(((x:Nat):Int)%(2 ^ 64:Int))=_;omega
theorem nextPow_c(x:Nat)(hx:0<x∧x<1000000000):CallT M 233 #[.int .i64 (x:Nat)] H (fun v H'=> H.le H'∧v=.int .u64 ((2 ^ bl x:Nat):Int)):=by
 obtain⟨h1,h2⟩:=bl_spec hx.1;have hw:IntKind.u64.wrap ((x:Nat):Int)=((x:Nat):Int):=u64_in (by omega);have hb:bl x≤31:=by
   have h3:2 ^ bl x<2 ^ 32:=by omega
   have:=(Nat.pow_lt_pow_iff_right (a:=2) (by decide)).1 h3;omega
 have hs:shiftV .shl .u64 1 ((bl x:Nat):Int)=some (.int .u64 ((2 ^ bl x:Nat):Int)):=by
   have e:min ((bl x:Nat):Int).toNat IntKind.u64.bits=bl x:=by
     have:IntKind.u64.bits=64:=rfl;rw[this,Int.toNat_natCast];omega
   show some (Value.int .u64 (IntKind.u64.wrap (1*2 ^ (min ((bl x:Nat):Int).toNat IntKind.u64.bits))))=_;rw[e,Int.one_mul];have:((2:Int) ^ bl x)=((2 ^ bl x:Nat):Int):=by norm_cast
   rw[this,u64_in (by omega)]
 refine .en func233 ntmps233 fun St c cs hK=> ?_;refine U8 ?_;refine .c rfl rfl rfl rfl (fun H hs=> .h (LenG_c M H x (by omega))) ?_;refine .x .sf ?_;refine U2 ?_;refine .rt hK func233 results233 [_] ?_;exact okB
end
theorem and_u64(z:Int)(m:Nat)(h:m<4294967296):∃w:Nat,intBin .and .u64 z (m:Nat)=some (.int .u64 (w:Nat))∧w≤m:=by
 have h2:((BitVec.ofInt 64 z) &&& (BitVec.ofInt 64 (m:Int))).toNat≤m:=by
   rw[BitVec.toNat_and];refine Nat.le_trans Nat.and_le_right ?_;rw[BitVec.toNat_ofInt];omega
 refine⟨((BitVec.ofInt 64 z) &&& (BitVec.ofInt 64 (m:Int))).toNat,?_,h2⟩;show some (Value.int .u64 (IntKind.u64.wrap (((BitVec.ofInt 64 z) &&& (BitVec.ofInt 64 (m:Int))).toNat:Int)))=_;rw[u64_in (by omega)]
theorem Or.rnd {M:Md prog}{n:Nat}{H₀:View}{R:Rg}{L:Bl}{o:Oper}{K:Rg→Bl→Prop}{cl:Go.Call}{x:Operand}{fv:Value}{az:List Value}{d:Nat}(i:Nat){cb:Nat}{z:Int}
   (hop:o.op=.call cl) (hcl:cl.callee=.value x) (hx:evR R x=some fv) (has:evRs R cl.args.toList=some az) (hd:o.dst=some d) (hn:d<n) (hi:L[i]? =some (cb,true,.cells ⟨[.int .u64 z]⟩ 256 (0,0)))
   (hc:∀H,SymSt H₀ L H→FnT M fv az H (NextQ H cb)) (hk:∀z,K ((d,.int .u64 z)::R) (L.set i (cb,true,.cells ⟨[.int .u64 z]⟩ 256 (0,0)))):Or M n H₀ R L o K:=
 .callV hop hcl hx has (Q:=fun H v H'=> NextQ H cb v H') hc fun H v H' hs ⟨h1,z,h2,h3⟩=>
   ⟨_,_,SymSt_turn hs hi h1 h3,by rw[hd];exact⟨hn,by rw[h2]⟩,hk z⟩
section
variable(M:Md prog)(H:View)
theorem breakS_c(dec:Int→List UInt8)(sb:Nat)(l:List Int)(jj:List Value)(n cap a b:Nat)(hn:n=l.length)(hb:b≤n)(h1000:n≤100000000)(h8:a+8≤b)(hS:H sb=some (true,.cells ⟨(strsL dec l)++jj⟩ 9 (0,0))):
   CallT M 200 #[.slice (some ⟨sb,0,none⟩) n cap,.int .i64 (a:Nat),.int .i64 (b:Nat)] H (SortSQ dec H sb jj (fun v m=> v=.tuple ⟨[]⟩∧Turned a b l m)):=by
 obtain⟨m,hm⟩:∃m,m=b-a:=⟨_,rfl⟩
 obtain⟨w,hw⟩:∃w,w=m/4:=⟨_,rfl⟩
 obtain⟨b3,b5⟩:=bl_spec (x:=m) (by omega);have hnp:=fun(H':View)=> nextPow_c M H' m (by omega);generalize 2 ^ bl m=P at b3 b5 hnp;have e0:((b:Nat):Int)-((a:Nat):Int)=((m:Nat):Int):=by omega
 have hwr:IntKind.u64.wrap ((m:Nat):Int)=((m:Nat):Int):=u64_in (by omega);have hq:intBin .quo .i64 ((m:Nat):Int) 4=some (.int .i64 ((w:Nat):Int)):=by
   rw[quo_in (by omega) (by omega) (by omega)]
   congr 2
   omega
 have e1:((a:Nat):Int)+((w:Nat):Int)*2-1=((a+w*2-1:Nat):Int):=by omega
 have hsub:intBin .sub .u64 ((P:Nat):Int) 1=some (.int .u64 ((P-1:Nat):Int)):=by
   have h:=u64_in (x:=P-1) (by omega);have h2:((P:Nat):Int)-1=((P-1:Nat):Int):=by omega
   show some (Value.int .u64 (IntKind.u64.wrap (((P:Nat):Int)-1)))=_;rw[h2,h]
 refine CallT.enter (vs:= [.slice (some ⟨sb,0,none⟩) n cap,.int .i64 (a:Nat),.int .i64 (b:Nat)]) func200 rfl ntmps200 (Nat.le_of_ble_eq_true rfl) (SymSt.pull hS) fun St c cs hK=> ?_;refine U7 ?_;rw[e0];refine U10 ?_;refine .al fun b7=> ?_;refine U5 ?_;refine .c rfl rfl rfl rfl (fun H hs=> .h (hnp H)) ?_;refine U7 ?_;refine .i ?_ (z:=mul_in (by omega) (by omega));refine U4 ?_;rw[e1];refine U ?_;refine Tc.db (Tc.loopInv (σ:= { s:Nat×Int×List Int//a+w*2-1≤s.1∧s.1≤a+w*2+2∧Turned a b l s.2.2 }) (fun s=> ([(0,.slice (some ⟨sb,0,none⟩) n cap),(1,.int .i64 (a:Nat)),(6,.int .i64 (m:Nat)),(7,.pointer (some ⟨b7,0,none⟩)),(8,.int .u64 (P:Nat)),(9,.int .i64 (s.1.1:Nat))],[(b7,true,.cells ⟨[.int .u64 s.1.2.1]⟩ 256 (0,0)),(sb,true,.cells ⟨(strsL dec s.1.2.2)++jj⟩ 9 (0,0))])) (fun s=> a+w*2+2-s.1.1) ?_
   ⟨(a+w*2-1,m,l),Nat.le_refl _,by simp only;omega,Turned.refl ..⟩)
 rintro⟨⟨i,z0,u⟩,g1,g2,g3⟩ ih;simp only at g1 g2 g3;have hul:=g3.len;show Tc M St _ _ _ _ [(0,.slice (some ⟨sb,0,none⟩) n cap),(1,.int .i64 (a:Nat)),(6,.int .i64 (m:Nat)),(7,.pointer (some ⟨b7,0,none⟩)),(8,.int .u64 (P:Nat)),(9,.int .i64 (i:Nat))] [(b7,true,.cells ⟨[.int .u64 z0]⟩ 256 (0,0)),(sb,true,.cells ⟨(strsL dec u)++jj⟩ 9 (0,0))] _ _;by_cases c1:i≤a+w*2+1
 · refine U7 ?_;refine .i ?_ (z:=mul_in (by omega) (by omega));refine U10 ?_;refine .e (Or.rnd (z:=z0) 0 rfl rfl rfl rfl rfl (by decide) rfl (fun H hs=> .h (Next_c M H b7 z0 (hs.get (i:=0) rfl))) (fun z=> ?_));obtain⟨x,hx,hxle⟩:=and_u64 z (P-1) (by omega);have hcv:IntKind.i64.wrap ((x:Nat):Int)=((x:Nat):Int):=wrap64 (by omega) (by omega);refine U ?_;refine .i ?_ (z:=hsub);refine .i ?_ (z:=hx);refine .x (OpV.convE (E:=en) rfl rfl rfl rfl rfl rfl hcv) ?_;refine U4 ?_;by_cases c2:x<m
   · refine U7 ?_;have z1:=cellsS_ld (dec:=dec) (m:=u) (j:=jj) (k:=(i:Nat)) (p:=i) rfl (by omega);have z2:=cellsS_ld (dec:=dec) (m:=u) (j:=jj) (k:=(a:Nat)+(x:Nat)) (p:=a+x) (by omega) (by omega);have z3:=cellsS_st (dec:=dec) (m:=u) (j:=jj) (k:=(i:Nat)) (x:=at0 u (a+x)) (p:=i) rfl (by omega);have z4:=cellsS_st (dec:=dec) (m:=(u).set (i) (at0 u (a+x))) (j:=jj) (k:=(a:Nat)+(x:Nat)) (x:=at0 u (i)) (p:=a+x) (by omega) (by rw[List.length_set];omega);have z5:=cellsS_le (dec:=dec) (m:=u) (j:=jj) (k:=(i:Nat)) (p:=i) rfl (by omega);have z6:=cellsS_le (dec:=dec) (m:=(u).set (i) (at0 u (a+x))) (j:=jj) (k:=(a:Nat)+(x:Nat)) (p:=a+x) (by omega) (by rw[List.length_set];omega);refine Tc.dr [17,19] [1] mixed rfl ?_;refine .nn 0 ?_;refine .nn 1 ?_;refine .nw 2 ?_;refine .nw 3 ?_;refine .nw 4 ?_;refine .nw 5 ?_;refine .nn 6 ?_;refine .nn 7 ?_;refine .nn 8 ?_;refine .nn 9 ?_;refine .nn 10 ?_;refine .nn 11 ?_;refine .nw 12 ?_;refine .nw 13 ?_;refine .nw 14 ?_;refine .nn 15 ?_;refine .nn 16 ?_;refine .e 17 1 ?_;refine .nw 18 ?_;refine .e 19 1 ?_;refine .dn ?_;refine U6 ?_;exact Tc.db (ih ⟨(i+1,z,swapL u i (a+x)),by simp only;omega,by simp only;omega,g3.trans (Turned.swap (by omega) (by omega) (by omega) (by omega))⟩ (by simp only;omega))
   · have e5:((x:Nat):Int)-((m:Nat):Int)=((x-m:Nat):Int):=by omega
     refine U12 ?_;rw[e5];have z1:=cellsS_ld (dec:=dec) (m:=u) (j:=jj) (k:=(i:Nat)) (p:=i) rfl (by omega);have z2:=cellsS_ld (dec:=dec) (m:=u) (j:=jj) (k:=(a:Nat)+((x-m:Nat):Int)) (p:=a+(x-m)) (by omega) (by omega);have z3:=cellsS_st (dec:=dec) (m:=u) (j:=jj) (k:=(i:Nat)) (x:=at0 u (a+(x-m))) (p:=i) rfl (by omega);have z4:=cellsS_st (dec:=dec) (m:=(u).set (i) (at0 u (a+(x-m)))) (j:=jj) (k:=(a:Nat)+((x-m:Nat):Int)) (x:=at0 u (i)) (p:=a+(x-m)) (by omega) (by rw[List.length_set];omega);have z5:=cellsS_le (dec:=dec) (m:=u) (j:=jj) (k:=(i:Nat)) (p:=i) rfl (by omega);have z6:=cellsS_le (dec:=dec) (m:=(u).set (i) (at0 u (a+(x-m)))) (j:=jj) (k:=(a:Nat)+((x-m:Nat):Int)) (p:=a+(x-m)) (by omega) (by rw[List.length_set];omega);refine Tc.dr [17,19] [1] mixed rfl ?_;refine .nn 0 ?_;refine .nn 1 ?_;refine .nw 2 ?_;refine .nw 3 ?_;refine .nw 4 ?_;refine .nw 5 ?_;refine .nn 6 ?_;refine .nn 7 ?_;refine .nn 8 ?_;refine .nn 9 ?_;refine .nn 10 ?_;refine .nn 11 ?_;refine .nw 12 ?_;refine .nw 13 ?_;refine .nw 14 ?_;refine .nn 15 ?_;refine .nn 16 ?_;refine .e 17 1 ?_;refine .nw 18 ?_;refine .e 19 1 ?_;refine .dn ?_;refine U6 ?_;exact Tc.db (ih ⟨(i+1,z,swapL u i (a+(x-m))),by simp only;omega,by simp only;omega,g3.trans (Turned.swap (by omega) (by omega) (by omega) (by omega))⟩ (by simp only;omega))
 · refine U7 ?_;refine .i ?_ (z:=mul_in (by omega) (by omega));refine U6 ?_;refine .ov hK func200 results200 [] ?_;exact fun H' hs=> SortSQ.of (dec:=dec) hs (i:=1) rfl ⟨rfl,g3⟩
end
set_option maxHeartbeats 16000000
structure Pte(a b i j:Nat)(u:List Int):Prop where
 ai:a+1≤i
 ij:i≤j+1
 jb:j<b
 aj:a≤j
 lo:∀k,a<k→k<i→at0 u k≤at0 u a
 hi:∀k,j<k→k<b→at0 u a<at0 u k
theorem Pte.start {a b:Nat}{u:List Int}(h:a<b):Pte a b (a+1) (b-1) u:=⟨Nat.le_refl _,by omega,by omega,by omega,fun k h1 h2=> by omega,fun k h1 h2=> by omega⟩
theorem Pte.up {a b i j:Nat}{u:List Int}(h:Pte a b i j u)(hij:i≤j)(hle:¬at0 u a<at0 u i):Pte a b (i+1) j u:=
 ⟨by have:=h.ai;omega,by omega,h.jb,h.aj,fun k h1 h2=> by
   by_cases e:k=i
   · rw[e];omega
   · exact h.lo k h1 (by omega),h.hi⟩
theorem Pte.down {a b i j:Nat}{u:List Int}(h:Pte a b i j u)(hij:i≤j)(hlt:at0 u a<at0 u j):Pte a b i (j-1) u:=
 ⟨h.ai,by omega,by have:=h.jb;omega,by have:=h.ai;omega,h.lo,fun k h1 h2=> by
   by_cases e:k=j
   · rw[e];exact hlt
   · exact h.hi k (by omega) h2⟩
theorem Pte.swap {a b i j:Nat}{u:List Int}(h:Pte a b i j u)(hl:b≤u.length)(hij:i≤j)(h1:at0 u a<at0 u i)(h2:¬at0 u a<at0 u j):i<j∧Pte a b (i+1) (j-1) (swapL u i j)∧at0 (swapL u i j) a=at0 u a:=by
 have ha:=h.ai;have hb:=h.jb;have hne:i≠j:=by
   rintro rfl;omega
 have hs:=fun q=> swapL_at (l:=u) (p:=i) (q:=j) (by omega) (by omega) q;have h0:at0 (swapL u i j) a=at0 u a:=by rw[hs,if_neg (by omega),if_neg (by omega)]
 refine⟨by omega,⟨by omega,by omega,by omega,by omega,fun k h3 h4=> ?_,fun k h3 h4=> ?_⟩,h0⟩
 · rw[h0,hs,if_neg (by omega)];by_cases e:k=i
   · rw[if_pos e];omega
   · rw[if_neg e];exact h.lo k h3 (by omega)
 · rw[h0,hs];by_cases e:k=j
   · rw[if_pos e];exact h1
   · rw[if_neg e,if_neg (by omega)];exact h.hi k (by omega) h4
structure EqPart(a b c:Nat)(x:Int)(u:List Int):Prop where
 ac:a<c
 cb:c≤b
 lo:∀k,a≤k→k<c→at0 u k≤x
 hi:∀k,c≤k→k<b→x<at0 u k
theorem Pte.fin {a b i j:Nat}{u:List Int}(h:Pte a b i j u)(hij:j<i){x:Int}(hx:at0 u a=x):EqPart a b i x u:=by
 have h1:=h.ij;have h2:=h.ai;have h3:=h.jb;exact⟨by omega,by omega,fun k g1 g2=> by
   by_cases e:k=a
   · rw[e,hx];exact Int.le_refl _
   · rw[←hx];exact h.lo k (by omega) g2,fun k g1 g2=> by rw[←hx];exact h.hi k (by omega) g2⟩
section
variable(M:Md prog)(H:View)
theorem partEqS_c(dec:Int→List UInt8)(sb:Nat)(l:List Int)(jj:List Value)(n cap a b pv:Nat)(hn:n=l.length)(hE:Enc dec l)(hb:b≤n)(h1000:n≤100000000)(hp:a≤pv∧pv<b)(hS:H sb=some (true,.cells ⟨(strsL dec l)++jj⟩ 9 (0,0))):
   CallT M 205 #[.slice (some ⟨sb,0,none⟩) n cap,.int .i64 (a:Nat),.int .i64 (b:Nat),.int .i64 (pv:Nat)] H (SortSQ dec H sb jj (fun v m=> ∃s:Nat×List Int,v=.int .i64 (s.1:Nat)∧m=s.2∧(Turned a b l s.2∧EqPart a b s.1 (at0 l pv) s.2))):=by
 refine CallT.enter (vs:= [.slice (some ⟨sb,0,none⟩) n cap,.int .i64 (a:Nat),.int .i64 (b:Nat),.int .i64 (pv:Nat)]) func205 rfl ntmps205 (Nat.le_of_ble_eq_true rfl) (SymSt.pull hS) fun St c cs hK=> ?_;have hx0:at0 (swapL l a pv) a=at0 l pv:=by
   rw[swapL_at (by omega) (by omega)];by_cases e:a=pv
   · rw[if_pos e,e]
   · rw[if_neg e,if_pos rfl]
 have hu:Turned a b l (swapL l a pv):=Turned.swap (by omega) (by omega) (by omega) (by omega);have eb:((b:Nat):Int)-1=((b-1:Nat):Int):=by omega
 have ea:intBin .add .i64 (a:Nat) 1=some (.int .i64 ((a+1:Nat):Int)):=by rw[add_in (by omega) (by omega)];rfl
 have y1:=cellsS_ld (dec:=dec) (m:=l) (j:=jj) (k:=(a:Nat)) (p:=a) rfl (by omega);have y2:=cellsS_ld (dec:=dec) (m:=l) (j:=jj) (k:=(pv:Nat)) (p:=pv) rfl (by omega);have y3:=cellsS_st (dec:=dec) (m:=l) (j:=jj) (k:=(a:Nat)) (x:=at0 l (pv)) (p:=a) rfl (by omega);have y4:=cellsS_st (dec:=dec) (m:=(l).set (a) (at0 l (pv))) (j:=jj) (k:=(pv:Nat)) (x:=at0 l (a)) (p:=pv) rfl (by rw[List.length_set];omega);have y5:=cellsS_le (dec:=dec) (m:=l) (j:=jj) (k:=(a:Nat)) (p:=a) rfl (by omega);have y6:=cellsS_le (dec:=dec) (m:=(l).set (a) (at0 l (pv))) (j:=jj) (k:=(pv:Nat)) (p:=pv) rfl (by rw[List.length_set];omega);refine U5 ?_;refine Tc.dr [13,15] [0] mixed rfl ?_;refine .nn 0 ?_;refine .nn 1 ?_;refine .nw 2 ?_;refine .nw 3 ?_;refine .nn 4 ?_;refine .nn 5 ?_;refine .nn 6 ?_;refine .nn 7 ?_;refine .nw 8 ?_;refine .nw 9 ?_;refine .nw 10 ?_;refine .nn 11 ?_;refine .nn 12 ?_;refine .e 13 0 ?_;refine .nw 14 ?_;refine .e 15 0 ?_;refine .dn ?_;refine U9 ?_;rw[eb];refine U2 ?_;refine Tc.db (Tc.loopInv (σ:= { s:Nat×Nat×List Int//Pte a b s.1 s.2.1 s.2.2∧Turned a b l s.2.2∧at0 s.2.2 a=at0 l pv }) (fun s=> ([(0,.slice (some ⟨sb,0,none⟩) n cap),(1,.int .i64 (a:Nat)),(9,.int .i64 (s.1.1:Nat)),(10,.int .i64 (s.1.2.1:Nat))],[(sb,true,.cells ⟨(strsL dec s.1.2.2)++jj⟩ 9 (0,0))])) (fun s=> s.1.2.1+1-s.1.1) ?_
   ⟨(a+1,b-1,swapL l a pv),Pte.start (by omega),hu,hx0⟩)
 clear y1 y2 y3 y4 y5 y6 hx0 hu;rintro⟨⟨i,j,w⟩,g1,g2,g3⟩ ih0;simp only at g1 g2 g3;have hwl:=g2.len;have hEw:=hE.turned g2;have g1a:=g1.ai;have g1b:=g1.ij;have g1c:=g1.jb;show Tc M St _ _ _ _ [(0,.slice (some ⟨sb,0,none⟩) n cap),(1,.int .i64 (a:Nat)),(9,.int .i64 (i:Nat)),(10,.int .i64 (j:Nat))] [(sb,true,.cells ⟨(strsL dec w)++jj⟩ 9 (0,0))] _ _;have za:=cellsS_ld (dec:=dec) (m:=w) (j:=jj) (k:=(a:Nat)) (p:=a) rfl (by omega);refine U2 ?_;refine blockVia (fun R' L'=> ∃s,i≤s∧Pte a b s j w∧(s≤j→at0 w a<at0 w s)∧AllIn [(0,.slice (some ⟨sb,0,none⟩) n cap),(1,.int .i64 (a:Nat)),(9,.int .i64 (s:Nat)),(10,.int .i64 (j:Nat))] R'∧L'= [(sb,true,.cells ⟨(strsL dec w)++jj⟩ 9 (0,0))]) ?_ (fun fin=> ?_)
 · rintro R' _ ⟨i2,i2le,p1,x1,hRR,rfl⟩;refine Tc.dropB ?_ hRR (List.Sublist.refl _);have p1a:=p1.ai;have p1b:=p1.ij;have p1c:=p1.jb;refine U ?_;refine blockVia (fun R' L'=> ∃s,s≤j∧Pte a b i2 s w∧(i2≤s→¬at0 w a<at0 w s)∧AllIn [(0,.slice (some ⟨sb,0,none⟩) n cap),(1,.int .i64 (a:Nat)),(9,.int .i64 (i2:Nat)),(10,.int .i64 (s:Nat))] R'∧L'= [(sb,true,.cells ⟨(strsL dec w)++jj⟩ 9 (0,0))]) ?_ (fun fin=> ?_)
   · rintro R' _ ⟨j2,j2le,p2,x2,hRR,rfl⟩;refine Tc.dropB ?_ hRR (List.Sublist.refl _);have p2a:=p2.ai;have p2b:=p2.ij;have p2c:=p2.jb;have p2d:=p2.aj;by_cases d:j2<i2
     · refine U14 ?_;refine .rt hK func205 results205 [_] ?_;exact fun H' hs=> SortSQ.of (dec:=dec) hs (i:=0) rfl ⟨(i2,w),rfl,rfl,g2,p2.fin d g3⟩
     · obtain⟨w1,w2,w3⟩:=p2.swap (by omega) (by omega) (x1 (by omega)) (x2 (by omega));have e2:((j2:Nat):Int)-1=((j2-1:Nat):Int):=by omega
       have ei:intBin .add .i64 (i2:Nat) 1=some (.int .i64 ((i2+1:Nat):Int)):=by rw[add_in (by omega) (by omega)];rfl
       refine U10 ?_;have z1:=cellsS_ld (dec:=dec) (m:=w) (j:=jj) (k:=(i2:Nat)) (p:=i2) rfl (by omega);have z2:=cellsS_ld (dec:=dec) (m:=w) (j:=jj) (k:=(j2:Nat)) (p:=j2) rfl (by omega);have z3:=cellsS_st (dec:=dec) (m:=w) (j:=jj) (k:=(i2:Nat)) (x:=at0 w (j2)) (p:=i2) rfl (by omega);have z4:=cellsS_st (dec:=dec) (m:=(w).set (i2) (at0 w (j2))) (j:=jj) (k:=(j2:Nat)) (x:=at0 w (i2)) (p:=j2) rfl (by rw[List.length_set];omega);have z5:=cellsS_le (dec:=dec) (m:=w) (j:=jj) (k:=(i2:Nat)) (p:=i2) rfl (by omega);have z6:=cellsS_le (dec:=dec) (m:=(w).set (i2) (at0 w (j2))) (j:=jj) (k:=(j2:Nat)) (p:=j2) rfl (by rw[List.length_set];omega);refine Tc.dr [13,15] [0] mixed rfl ?_;refine .nn 0 ?_;refine .nn 1 ?_;refine .nw 2 ?_;refine .nw 3 ?_;refine .nn 4 ?_;refine .nn 5 ?_;refine .nn 6 ?_;refine .nn 7 ?_;refine .nw 8 ?_;refine .nw 9 ?_;refine .nw 10 ?_;refine .nn 11 ?_;refine .nn 12 ?_;refine .e 13 0 ?_;refine .nw 14 ?_;refine .e 15 0 ?_;refine .dn ?_;refine U11 ?_;rw[e2];refine U ?_;exact Tc.db (ih0 ⟨(i2+1,j2-1,swapL w i2 j2),w2,g2.trans (Turned.swap (by omega) (by omega) (by omega) (by omega)),w3.trans g3⟩ (by simp only;omega))
   · refine Tc.db (Tc.loopInv (σ:= { s:Nat//s≤j∧Pte a b i2 s w }) (fun s=> ([(0,.slice (some ⟨sb,0,none⟩) n cap),(1,.int .i64 (a:Nat)),(9,.int .i64 (i2:Nat)),(10,.int .i64 (s.1:Nat))],[(sb,true,.cells ⟨(strsL dec w)++jj⟩ 9 (0,0))])) (fun s=> s.1) ?_ ⟨j,Nat.le_refl _,p1⟩);rintro⟨s,q1,q2⟩ ih;have q3:=q2.ai;have q4:=q2.ij;have q5:=q2.jb;show Tc M St _ _ _ _ [(0,.slice (some ⟨sb,0,none⟩) n cap),(1,.int .i64 (a:Nat)),(9,.int .i64 (i2:Nat)),(10,.int .i64 (s:Nat))] [(sb,true,.cells ⟨(strsL dec w)++jj⟩ 9 (0,0))] _ _;by_cases c1:i2≤s
     · have zs:=cellsS_ld (dec:=dec) (m:=w) (j:=jj) (k:=(s:Nat)) (p:=s) rfl (by omega);have es:((s:Nat):Int)-1=((s-1:Nat):Int):=by omega
       by_cases c2:at0 w a<at0 w s
       · refine U2 ?_;refine Tc.dr [] [] mixed rfl ?_;refine .nn 0 ?_;refine .nn 1 ?_;refine .nn 2 ?_;refine .nn 3 ?_;refine .nn 4 ?_;refine .nn 5 ?_;refine .nn 6 ?_;refine .nn 7 ?_;refine .nn 8 ?_;refine .nn 9 ?_;refine .nn 10 ?_;refine .nn 11 ?_;refine .z 12 rfl (OpV.takeCall rfl rfl rfl rfl (fun H hs=> .h (lessS M H hEw (at0_mem (by omega)) (at0_mem (by omega)) true (decide_eq_true c2)))) ?_;refine .nn 13 ?_;refine .dn ?_;refine U8 ?_;rw[es];refine U ?_;exact Tc.db (ih ⟨s-1,by omega,q2.down c1 c2⟩ (by simp only;omega))
       · repeat (refine Tc.seq ?_)
         refine Tc.dr [] [] mixed rfl ?_;refine .nn 0 ?_;refine .nn 1 ?_;refine .nn 2 ?_;refine .nn 3 ?_;refine .nn 4 ?_;refine .nn 5 ?_;refine .nn 6 ?_;refine .nn 7 ?_;refine .nn 8 ?_;refine .nn 9 ?_;refine .nn 10 ?_;refine .nn 11 ?_;refine .z 12 rfl (OpV.takeCall rfl rfl rfl rfl (fun H hs=> .h (lessS M H hEw (at0_mem (by omega)) (at0_mem (by omega)) false (decide_eq_false c2)))) ?_;refine .nn 13 ?_;refine .dn ?_;refine U2 ?_;exact fin _ _ ⟨s,q1,q2,fun _=> c2,⟨rfl,rfl,rfl,rfl,trivial⟩,rfl⟩
     · repeat (refine Tc.seq ?_)
       refine Tc.dr [] [] mixed rfl ?_;refine .nn 0 ?_;refine .nn 1 ?_;refine .nn 2 ?_;refine .nn 3 ?_;refine .nw 4 ?_;refine .nw 5 ?_;refine .nw 6 ?_;refine .nw 7 ?_;refine .nw 8 ?_;refine .nw 9 ?_;refine .nw 10 ?_;refine .nw 11 ?_;refine .nw 12 ?_;refine .nn 13 ?_;refine .dn ?_;refine U2 ?_;exact fin _ _ ⟨s,q1,q2,fun h=> (c1 h).elim,⟨rfl,rfl,rfl,rfl,trivial⟩,rfl⟩
 · refine Tc.db (Tc.loopInv (σ:= { s:Nat//i≤s∧Pte a b s j w }) (fun s=> ([(0,.slice (some ⟨sb,0,none⟩) n cap),(1,.int .i64 (a:Nat)),(9,.int .i64 (s.1:Nat)),(10,.int .i64 (j:Nat))],[(sb,true,.cells ⟨(strsL dec w)++jj⟩ 9 (0,0))])) (fun s=> j+1-s.1) ?_ ⟨i,Nat.le_refl _,g1⟩);rintro⟨s,q1,q2⟩ ih;have q3:=q2.ai;have q4:=q2.ij;have q5:=q2.jb;show Tc M St _ _ _ _ [(0,.slice (some ⟨sb,0,none⟩) n cap),(1,.int .i64 (a:Nat)),(9,.int .i64 (s:Nat)),(10,.int .i64 (j:Nat))] [(sb,true,.cells ⟨(strsL dec w)++jj⟩ 9 (0,0))] _ _;by_cases c1:s≤j
   · have zs:=cellsS_ld (dec:=dec) (m:=w) (j:=jj) (k:=(s:Nat)) (p:=s) rfl (by omega);have es:intBin .add .i64 (s:Nat) 1=some (.int .i64 ((s+1:Nat):Int)):=by rw[add_in (by omega) (by omega)];rfl
     by_cases c2:at0 w a<at0 w s
     · repeat (refine Tc.seq ?_)
       refine Tc.dr [] [] mixed rfl ?_;refine .nn 0 ?_;refine .nn 1 ?_;refine .nn 2 ?_;refine .nn 3 ?_;refine .nn 4 ?_;refine .nn 5 ?_;refine .nn 6 ?_;refine .nn 7 ?_;refine .nn 8 ?_;refine .nn 9 ?_;refine .nn 10 ?_;refine .nn 11 ?_;refine .z 12 rfl (OpV.takeCall rfl rfl rfl rfl (fun H hs=> .h (lessS M H hEw (at0_mem (by omega)) (at0_mem (by omega)) true (decide_eq_true c2)))) ?_;refine .nn 13 ?_;refine .nn 14 ?_;refine .dn ?_;refine U2 ?_;exact fin _ _ ⟨s,q1,q2,fun _=> c2,⟨rfl,rfl,rfl,rfl,trivial⟩,rfl⟩
     · refine U2 ?_;refine Tc.dr [] [] mixed rfl ?_;refine .nn 0 ?_;refine .nn 1 ?_;refine .nn 2 ?_;refine .nn 3 ?_;refine .nn 4 ?_;refine .nn 5 ?_;refine .nn 6 ?_;refine .nn 7 ?_;refine .nn 8 ?_;refine .nn 9 ?_;refine .nn 10 ?_;refine .nn 11 ?_;refine .z 12 rfl (OpV.takeCall rfl rfl rfl rfl (fun H hs=> .h (lessS M H hEw (at0_mem (by omega)) (at0_mem (by omega)) false (decide_eq_false c2)))) ?_;refine .nn 13 ?_;refine .nn 14 ?_;refine .dn ?_;refine U9 ?_;exact Tc.db (ih ⟨s+1,by omega,q2.up c1 c2⟩ (by simp only;omega))
   · repeat (refine Tc.seq ?_)
     refine Tc.dr [] [] mixed rfl ?_;refine .nn 0 ?_;refine .nn 1 ?_;refine .nn 2 ?_;refine .nn 3 ?_;refine .nw 4 ?_;refine .nw 5 ?_;refine .nw 6 ?_;refine .nw 7 ?_;refine .nw 8 ?_;refine .nw 9 ?_;refine .nw 10 ?_;refine .nw 11 ?_;refine .nw 12 ?_;refine .nw 13 ?_;refine .nn 14 ?_;refine .dn ?_;refine U2 ?_;exact fin _ _ ⟨s,q1,q2,fun h=> (c1 h).elim,⟨rfl,rfl,rfl,rfl,trivial⟩,rfl⟩
end
end Go.Proofs.YtdnfdeplcjaonaaGreatDoor
