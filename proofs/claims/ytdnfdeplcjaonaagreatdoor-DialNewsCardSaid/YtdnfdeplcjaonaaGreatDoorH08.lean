/-
  Texts of the proofs over baudot/dial: DrawL VLess W1 W2 S8 C9 S9 H1 Z7 ZD ZJ ZN K1 K2 K3 K4 K5.
-/
import Derived.Test.YtdnfdeplcjaonaaGreatDoorH07
namespace Go.RL
open Go.Conc
section
variable {P:Program}{M:Md P}{md:Region.Mode}{ops:Array Oper}{S:Array Bool→View→Prop}{Fin:Array Value→View→Prop}{z:Nat}
theorem waits_not {i j:Nat}{listed:Array Bool}(h:waits md ops i j=true)(hi:i∈Region.ready md ops listed)(hj:j∈Region.ready md ops listed):False:=by
 unfold waits at h;obtain⟨_,o,ho,hall⟩:=mem_ready.1 hj;rw[ho] at h;simp only at h;rw[Array.any_eq_true'] at h;obtain⟨e,he,hb⟩:=h;simp only[Bool.and_eq_true,beq_iff_eq] at hb;have h1:=hall e he hb.1;have h0:=(mem_ready.1 hi).1;rw[hb.2] at h1;rcases Nat.lt_or_ge i listed.size with h'|h'
 · simp[h'] at h0 h1;rw[h0] at h1;cases h1
 · simp[Array.getElem?_eq_none h'] at h1
def AnyL(M:Md P)(md:Region.Mode)(ops:Array Oper)(S:Array Bool→View→Prop)(z:Nat)(Fin:Array Value→View→Prop):Nat→Array Bool→Array Value→View→Prop
 | 0,listed,tmps,H=> ∀H₂,H.le H₂→S listed H₂→Region.ready md ops listed= [z]∧Fin tmps H₂
 | fuel+1,listed,tmps,H=> ∀H₂,H.le H₂→S listed H₂→
   (Region.ready md ops listed≠ [])∧
   ∀i∈Region.ready md ops listed,∀o,ops[i]? =some o→OneT M ops o tmps H₂ fun tmps' H'=> S (listed.setIfInBounds i true) H'∧AnyL M md ops S z Fin fuel (listed.setIfInBounds i true) tmps' H'
theorem AnyL.mono {fuel:Nat}{listed:Array Bool}{tmps:Array Value}{H H':View}(h:AnyL M md ops S z Fin fuel listed tmps H)(k:H.le H'):AnyL M md ops S z Fin fuel listed tmps H':=by
 cases fuel with
 | zero=> exact fun H₂ h2 hS=> h H₂ (View.le_trans k h2) hS
 | succ fuel=> exact fun H₂ h2 hS=> h H₂ (View.le_trans k h2) hS
theorem go_step(fuel t:Nat)(listed:Array Bool):Region.linearise.go md ops (fuel+1) t listed []=match (Region.ready md ops listed)[t%(Region.ready md ops listed).length]? with
   | some i=> i::Region.linearise.go md ops fuel (t/(Region.ready md ops listed).length) (listed.setIfInBounds i true) []
   | none=> []:=by
 rw[Region.linearise.go];show(match (Region.ready md ops listed)[t%(Region.ready md ops listed).length]? with
   | some i=> Region.linearise.go md ops fuel (t/(Region.ready md ops listed).length) (listed.setIfInBounds i true) [i]
   | none=> List.reverse [])=_
 split
 · rename_i i _
   rw[linearise_go_acc];rfl
 · rfl
theorem AnyL.sound {St:View→Goroutine→Prop}{b:FB}{ds:List Deferred}{k:List Item}{cs:List Frame}:∀(fuel t:Nat) (listed:Array Bool) (tmps:Array Value) (H:View),S listed H→
   AnyL M md ops S z (fun tmps H=> T M St H (G (b.at tmps ds (.inRegion ops [z]::k)) cs)) fuel listed tmps H→T M St H (G (b.at tmps ds (.inRegion ops (Region.linearise.go md ops (fuel+1) t listed [])::k)) cs):=by
 intro fuel;induction fuel with
 | zero=>
   intro t listed tmps H hS h;obtain⟨h1,h2⟩:=h H (View.le_refl H) hS;rw[go_step,h1];simp only[List.length_singleton,Nat.mod_one,List.getElem?_cons_zero,Region.linearise.go,List.reverse_nil];exact h2
 | succ fuel ih=>
   intro t listed tmps H hS h;have h:=h H (View.le_refl H) hS;rw[go_step];split
   · rename_i i hi
     have hmem:=List.mem_of_getElem? hi;obtain⟨_,o,ho,_⟩:=mem_ready.1 hmem;exact OneT.sound ho ((h.2 i hmem o ho).mono fun t' H' hk=> ih _ _ _ _ hk.1 hk.2)
   · rename_i hi
     exfalso
     cases hr:Region.ready md ops listed with
     | nil=> exact h.1 hr
     | cons a l=>
       rw[hr] at hi;have:t%(a::l).length<(a::l).length:=Nat.mod_lt _ (by simp);rw[List.getElem?_eq_getElem this] at hi;cases hi
theorem AnyL.first {i:Nat}{oi:Oper}{v:Value}(hi:ops[i]? =some oi)(hsel:∀(j:Nat) (o:Oper) cs b,ops[j]? =some o→o.op≠ .select cs b)(hdi:isDefer oi.op=false)(hz:waits md ops i z=true)(hSi:∀listed H,S (listed.setIfInBounds i true) H↔S listed H):
   ∀ (fuel:Nat) (listed:Array Bool) (tmps:Array Value) (H:View),
     (∀j oj,ops[j]? =some oj→j≠i→listed.getD j true=false→(∀e∈oj.after,Region.binds md e=true→e.on≠i)→oi.apart ops oj=true)→
     closedL md ops listed=true→i∈Region.ready md ops listed→YieldsT M md ops S i oi v tmps→
     AnyL M md ops S z Fin fuel (listed.setIfInBounds i true) (putT tmps oi.dst v) H→AnyL M md ops S z Fin (fuel+1) listed tmps H:=by
 have own:∀(fuel:Nat) (listed:Array Bool) (tmps:Array Value) (H:View),closedL md ops listed=true→i∈Region.ready md ops listed→YieldsT M md ops S i oi v tmps→S listed H→AnyL M md ops S z Fin fuel (listed.setIfInBounds i true) (putT tmps oi.dst v) H→
     OneT M ops oi tmps H fun t H'=> S (listed.setIfInBounds i true) H'∧AnyL M md ops S z Fin fuel (listed.setIfInBounds i true) t H':=by
   intro fuel listed tmps H hcl hrd hy hS h;refine⟨hdi,?_⟩;rcases hy with ⟨hw,hv⟩|⟨hw,rfl⟩
   · rw[if_pos hw];refine(hv listed hcl (mem_ready.1 hrd).1 H hS).run ?_;rintro u H' ⟨rfl,hle,hS'⟩;exact⟨(hSi listed H').2 hS',h.mono hle⟩
   · rw[if_neg (by simp[hw])];exact⟨(hSi listed H).2 hS,h⟩
 intro fuel;induction fuel with
 | zero=>
   intro listed tmps H _ hcl hr hy h H₂ h2 hS;refine⟨fun e=> (by rw[e] at hr;cases hr),fun j hj o ho=> ?_⟩;by_cases hji:j=i
   · subst hji;rw[hi] at ho;cases ho
     exact own 0 listed tmps H₂ hcl hr hy hS (h.mono h2)
   · have:=ready_mono hj hji;rw[(h H₂ h2 ((hSi listed H₂).2 hS)).1,List.mem_singleton] at this;subst this;exact(waits_not hz hr hj).elim
 | succ fuel ih=>
   intro listed tmps H hfree hcl hr hy h H₂ h2 hS;refine⟨fun e=> (by rw[e] at hr;cases hr),fun j hj oj hoj=> ?_⟩;by_cases hji:j=i
   · subst hji;rw[hi] at hoj;cases hoj
     exact own (fuel+1) listed tmps H₂ hcl hr hy hS (h.mono h2)
   · have h1:=(h H₂ h2 ((hSi listed H₂).2 hS)).2 j (ready_mono hj hji) oj hoj;have hcl':=closedL_ready hcl hj;obtain⟨hjun,oj',hoj',hall⟩:=mem_ready.1 hj;rw[hoj] at hoj';cases hoj'
     have hnot:∀e∈oj.after,Region.binds md e=true→e.on≠i:=fun e he hb heq=> by
       have h1:=hall e he hb;have h0:=(mem_ready.1 hr).1;rw[heq] at h1;rcases Nat.lt_or_ge i listed.size with h'|h'
       · simp[h'] at h0 h1;rw[h0] at h1;cases h1
       · simp[Array.getElem?_eq_none h'] at h1
     have hap:=hfree j oj hoj hji hjun hnot;have hfree':∀k ok,ops[k]? =some ok→k≠i→(listed.setIfInBounds j true).getD k true=false→
         (∀e∈ok.after,Region.binds md e=true→e.on≠i)→oi.apart ops ok=true:=fun k ok hk hki hun hno=> by
       refine hfree k ok hk hki ?_ hno;by_cases hjk:j=k
       · subst hjk;exact hjun
       · rw[getD_set_ne true hjk] at hun;exact hun
     refine(h1.back hap (fun cs b=> hsel j oj cs b hoj)).mono ?_;rintro t H' ⟨⟨u,rfl⟩,hS',h3⟩;rw[Array.setIfInBounds_comm _ _ (Ne.symm hji)] at hS';refine⟨(hSi _ H').1 hS',ih (listed.setIfInBounds j true) _ H' hfree' hcl' (ready_mono hr (Ne.symm hji)) (hy.put (fun cs b=> hsel i oi cs b hi) (Oper.apart_spec hap).2.2) ?_⟩;rw[Array.setIfInBounds_comm _ _ hji];exact h3
end
section
variable {P:Program}{M:Md P}{St:View→Goroutine→Prop}{n:Nat}{b:FB}{H₀:View}{cs:List Frame}{R:Rg}{L L':Bl}{ds:List Deferred}{k:List Item}{S:Array Bool→View→Prop}{md:Region.Mode}{ops:Array Oper}{z:Nat}
def Tl(M:Md P)(St:View→Goroutine→Prop)(n:Nat)(b:FB)(H₀:View)(cs:List Frame)(S:Array Bool→View→Prop)(md:Region.Mode)(ops:Array Oper)(z:Nat)(fuel:Nat)(listed:Array Bool)(R:Rg)(L:Bl)(ds:List Deferred)(k:List Item):Prop:=
 ∀H tmps,SymSt H₀ L H→RegOk n R tmps→S listed H→AnyL M md ops S z (fun tmps H=> T M St H (G (b.at tmps ds (.inRegion ops [z]::k)) cs)) fuel listed tmps H
theorem Tl.done {listed:Array Bool}{o:Oper}(hr:Region.ready md ops listed= [z])(ho:ops[z]? =some o)(h:To M St n b H₀ cs (ops.toList.map (fun o:Oper=> o.dst)) R L ds [o] k):Tl M St n b H₀ cs S md ops z 0 listed R L ds k:=fun H tmps hs hr' _ H₂ h2 _=>
 ⟨hr,h ops [z] (fun j=> by
   simp only[List.getElem?_map,Array.getElem?_toList];cases ops[j]? <;> rfl) (by simp[ho]) H₂ tmps (hs.mono h2) hr'⟩
theorem Tl.take(i:Nat){o:Oper}{d:Nat}{v:Value}{fuel:Nat}{listed:Array Bool}(hi:ops[i]? =some o)(hsel:Region.noSelect ops=true)(hr:(Region.ready md ops listed).contains i=true)(hf:Region.free md ops listed i=true)
   (hd:o.dst=some d) (hn:d<n) (hnd:isDefer o.op=false) (hz:waits md ops i z=true) (hcl:closedL md ops listed=true) (hSi:∀listed H,S (listed.setIfInBounds i true) H↔S listed H) (hw:wantB (ops.toList.map (fun o:Oper=> o.dst)) R o=some true)
   (hv:∀listed,closedL md ops listed=true→listed.getD i true=false→∀H tmps,S listed H→RegOk n R tmps→OpVal M o tmps H fun u H'=> u=v∧H.le H'∧S listed H')
   (h:Tl M St n b H₀ cs S md ops z fuel (listed.setIfInBounds i true) ((d,v)::R) L ds k):Tl M St n b H₀ cs S md ops z (fuel+1) listed R L ds k:=fun H tmps hs hr' hS=> by
 refine AnyL.first hi (Region.noSelect_spec hsel) hnd hz hSi fuel listed tmps H (fun j oj hj hne hun hno=> Region.free_spec hi hf j oj hj hne hun hno) hcl (by simpa using hr) (.inl ⟨wantB_ok (fun j=> ?_) hr' hw,fun l hcl hu H hSH=> hv l hcl hu H tmps hSH hr'⟩) ?_
 · simp only[List.getElem?_map,Array.getElem?_toList];cases ops[j]? <;> rfl
 · rw[hd];exact h H _ hs (hr'.put hn v) ((hSi _ H).2 hS)
theorem Tl.tk(i:Nat){o:Oper}{d:Nat}{v:Value}{fuel:Nat}{listed:Array Bool}(hc:takeOk md ops [] listed i=true)(hz:waits md ops i z=true)(hi:ops[i]? =some o)(hd:o.dst=some d)(hn:d<n)(hnd:isDefer o.op=false)(hw:wantB (ops.toList.map (fun o:Oper=> o.dst)) R o=some true)
   (hv:∀H tmps,SymSt H₀ L H→RegOk n R tmps→OpVal M o tmps H fun u H'=> u=v∧H.le H')
   (h:Tl M St n b H₀ cs (fun _=> SymSt H₀ L) md ops z fuel (listed.setIfInBounds i true) ((d,v)::R) L ds k):Tl M St n b H₀ cs (fun _=> SymSt H₀ L) md ops z (fuel+1) listed R L ds k:=by
 simp only[takeOk,Bool.and_eq_true,Bool.not_eq_true'] at hc;obtain⟨⟨⟨⟨⟨hsel,hr⟩,hf⟩,hcl⟩,_⟩,_⟩:=hc;exact .take i hi hsel hr hf hd hn hnd hz hcl (fun _ _=> Iff.rfl) hw (fun _ _ _ H tmps hS hr=> by
   have:=hv H tmps hS hr;unfold OpVal at this ⊢;have fin:∀u H',(u=v∧H.le H')→u=v∧H.le H'∧SymSt H₀ L H':=fun u H' ⟨h1,h2⟩=> ⟨h1,h2,hS.mono h2⟩
   refine vwp_mono _ (fun nx H' hn=> ?_) this;cases nx <;> first
     | exact hn.elim
     | exact fin _ _ hn
     | exact CallT.mono hn fin
     | exact GoT.mono hn fin) h
theorem Tc.dl(z:Nat){id:Nat}{fuel:Nat}(hm:P.follows .mixedOrders=true)(hf:ops.size=fuel+1)(h:Tl M St n b H₀ cs (fun _=> SymSt H₀ L) .any ops z fuel (Array.replicate (fuel+1) false) R L ds k):
   Tc M St n b H₀ cs R L ds (.code (.region id ops true)::k):=fun H tmps hs hr=> by
 refine .region_draw fun t=> ?_;simp only[Region.schedule,hm,Bool.true_or,if_true];have h1:=(h H tmps hs hr hs).sound _ t _ _ _ hs;unfold Region.linearise;rw[hf];exact h1
end
end Go.RL
namespace Go.RL
open Go.Conc Go.ConcN Go.RL.Au
open Go.ConcR (stA smA mk)
open Go.ConcM (muA msA OsLater)
section
variable {P:Program}{X:Fk}{κ:Nat}
theorem OpP.makeFunc {n:Nat}{sh:Shp}{R:Rg}{o:Oper}{f:Fn}{first caps:Array Operand}{vs ws:List Value}(hop:o.op=.makeFunc f first caps)(h1:evRs R first.toList=some vs)(h2:evRs R caps.toList=some ws):OpP P sh n R o (.func f vs.toArray ws.toArray):=fun tmps hr=> by
 unfold execOp;rw[hop];show Next.value _=_;have e1:first.map (evT tmps)=vs.toArray:=by
   rw[←hr.evs h1,List.map_toArray.symm]
 have e2:caps.map (evT tmps)=ws.toArray:=by
   rw[←hr.evs h2,List.map_toArray.symm]
 rw[e1,e2]
theorem T.none {M:Md P}{St:View→Goroutine→Prop}{C:Nat}{H:View}{g:Goroutine}(hok:∀w,M.ok w→C<w.heap.size)(hph:∀H g Po,¬M.Ph H g Po)(h:T M St H g):H C=Option.none→T M (fun H' g'=> H' C=Option.none∧St H' g') H g:=
 h (fun H g=> H C=Option.none→T M (fun H' g'=> H' C=Option.none∧St H' g') H g) (fun _ _ hs hc=> .stop ⟨hc,hs⟩) (fun H g hs hc=> .step ⟨hs.1,fun w hw ho=> by
   obtain⟨g',w',es,H',h1,h2,h3⟩:=hs.2 w hw ho;refine⟨g',w',es,H',h1,h2,h3 ?_⟩;cases hx:H' C with
   | none=> rfl
   | some x=>
     obtain⟨f,o⟩:=x;rcases h2.ext _ _ _ hx with ⟨o',ho'⟩|⟨_,hle⟩
     · rw[hc] at ho';cases ho'
     · have:=hok w ho;omega⟩) (fun _ _ _ hp=> (hph _ _ _ hp).elim)
theorem T.none' {main:Bool}{St:View→Goroutine→Prop}{H:View}{g:Goroutine}(hc:H X.C=Option.none)(h:T (Mw P main X.ok) (fun H' g'=> H' X.C=Option.none→T (Mw P main X.ok) St H' g') H g):T (Mw P main X.ok) St H g:=
 (T.none (M:=Mw P main X.ok) (C:=X.C) (fun _ (h:X.ok _)=> h.1) (fun _ _ _ h=> h) h hc).bind fun _ _ ⟨h1,h2⟩=> h2 h1
theorem Sc.none {main:Bool}{St:View→Goroutine→Prop}{H:View}{n:Nat}{b:FB}{cs:List Frame}{R:Rg}{ds:List Deferred}{kk:List Item}(hc:H X.C=Option.none)
   (h:Sc (T (Mw P main X.ok) (fun H' g'=> H' X.C=Option.none→T (Mw P main X.ok) St H' g') H) n b cs R ds kk):Sc (T (Mw P main X.ok) St H) n b cs R ds kk:=fun tmps hr=> T.none' hc (h tmps hr)
theorem Sc.stopNone {main:Bool}{St:View→Goroutine→Prop}{H:View}{n:Nat}{b:FB}{cs:List Frame}{R:Rg}{ds:List Deferred}{kk:List Item}
   (h:H X.C=Option.none→Sc (T (Mw P main X.ok) St H) n b cs R ds kk):Sc (T (Mw P main X.ok) (fun H' g'=> H' X.C=Option.none→T (Mw P main X.ok) St H' g') H) n b cs R ds kk:=fun tmps hr=> .stop fun hc=> h hc tmps hr
theorem Sc.mono {J J':Goroutine→Prop}{n:Nat}{b:FB}{cs:List Frame}{R:Rg}{ds:List Deferred}{kk:List Item}(h:Sc J n b cs R ds kk)(hj:∀g,J g→J' g):Sc J' n b cs R ds kk:=fun tmps hr=> hj _ (h tmps hr)
end
end Go.RL
namespace Go.Proofs.YtdnfdeplcjaonaaGreatDoor
open Go.RL Go.Conc Go.ConcN Go.RL.Au
open Go.ConcR (stA smA)
set_option maxRecDepth 10000
set_option maxHeartbeats 4000000
def leftL(k:Bk)(D:Nat→Bool):List Value:=(List.range k.nt).map fun i=> .int .i64 (if D i then((k.left i:Nat):Int) else 0)
def GIl(k:Bk)(D:Nat→Bool)(o:Obj):Prop:=o=.cells ⟨leftL k D⟩ 3 (0,0)
theorem leftL_len(k:Bk)(D:Nat→Bool):(leftL k D).length=k.nt:=by simp[leftL]
theorem leftL_set(k:Bk)(D:Nat→Bool)(κ:Nat):(leftL k D).set κ (.int .i64 ((k.left κ:Nat):Int))=leftL k (also D κ):=by
 apply List.ext_getElem?
 intro i;unfold leftL also;rw[List.getElem?_set];by_cases e:κ=i
 · subst e;rw[if_pos rfl];by_cases h:κ<k.nt
   · rw[if_pos (by simpa using h),List.getElem?_map,List.getElem?_range h];simp
   · rw[if_neg (by simpa using h),List.getElem?_eq_none (by simp;omega)]
 · rw[if_neg e,List.getElem?_map,List.getElem?_map];by_cases h:i<k.nt
   · rw[List.getElem?_range h];have h2:¬i=κ:=fun h=> e h.symm;simp[h2]
   · rw[List.getElem?_eq_none (by simp;omega)];rfl
structure WkAt(X:Fk)(k:Bk)(H:View)(κ b5 b8 b6:Nat)(A:Option Addr)(lc:Nat)(B:Option Addr)(tc:Nat)(F:Nat→Option Addr)(fc:Nat→Nat):Prop where
 bk:BookAt H k A lc B tc F fc
 nl:k.nl≤1000
 nf:∀i,i<k.nl→k.nf i≤1000
 ok:k.trainsOk
 nt:k.nt≤6
 gap:0≤k.gap∧k.gap≤99
 give:0≤k.give∧k.give≤99
 h5:∃f,H b5=some (f,.cells ⟨(k.val A lc B tc).cells.toList⟩ 113 (0,0))
 h8:∃f,H b8=some (f,.cells ⟨[.int .i64 (κ:Nat)]⟩ 3 (0,0))
 h6:∃f,H b6=some (f,.cells ⟨[.slice (some ⟨X.C,0,none⟩) k.nt k.nt]⟩ 26 (0,0))
 kn:κ<k.nt
 GI:X.GI=GIl k
def wkVs(X:Fk)(b5 b8 b6:Nat):List Value:= [.pointer (some ⟨X.Wg,0,none⟩),.pointer (some ⟨b5,0,none⟩),.pointer (some ⟨b8,0,none⟩),.pointer (some ⟨b6,0,none⟩)]
section
variable {X:Fk}{bk:Bk}{H:View}{κ b5 b8 b6:Nat}{A:Option Addr}{lc:Nat}{B:Option Addr}{tc:Nat}{F:Nat→Option Addr}{fc:Nat→Nat}
theorem worker_c(w:WkAt X bk H κ b5 b8 b6 A lc B tc F fc)(k:Nat):
   Jw Tryz.prog X κ k .pw H (Go.Conc.born Tryz.prog { target:=.fn (.func 104) (wkVs X b5 b8 b6).toArray,args:=#[] }):=by
 obtain⟨hbk,hnl,hnf,hok,hnt,hgap,hgive,⟨f5,h5⟩,⟨f8,h8⟩,⟨f6,h6⟩,hκ,hGI⟩:=w;refine Cl.born (vs:=wkVs X b5 b8 b6) Jw.cl0 Tryz.func104 (by kernel_rfl) rfl Tryz.ntmps104 (Nat.le_of_ble_eq_true rfl) (by simp) ?_;unfold wkVs;refine .sq (.rg rfl rfl ?_);refine So.defer Jw.cl0 (f:=105) (vs:= [.pointer (some ⟨X.Wg,0,none⟩)]) rfl nofun rfl rfl ⟨_,rfl⟩ rfl ?_;refine .dn ?_;refine Sc.mono ?_ (fun g hg=> Jw.ofT rfl hg);refine Sc.ofTc (SymSt.nil H) ?_;refine Tc.dl 6 mixed rfl ?_;refine Tl.tk 0 (by kernel_rfl) (by kernel_rfl) rfl rfl (by decide) rfl rfl (OpV.take (OpV.load₀ (E:=en) rfl rfl h6 rfl rfl)) ?_;refine Tl.tk 1 (by kernel_rfl) (by kernel_rfl) rfl rfl (by decide) rfl rfl (OpV.take (OpV.load₀ (E:=en) rfl rfl h8 rfl rfl)) ?_;refine Tl.tk 2 (by kernel_rfl) (by kernel_rfl) rfl rfl (by decide) rfl rfl (OpV.take (OpV.load₀ (E:=en) rfl rfl h5 rfl rfl)) ?_;refine Tl.tk 3 (by kernel_rfl) (by kernel_rfl) rfl rfl (by decide) rfl rfl (OpV.take (OpV.load₀ (E:=en) rfl rfl h8 rfl rfl)) ?_;refine Tl.tk 4 (by kernel_rfl) (by kernel_rfl) rfl rfl (by decide) rfl rfl (OpV.takeCall rfl rfl rfl rfl (fun H hs=> .f ca106 rfl (left_c _ H bk A lc B tc F fc (hbk.le hs.base) hnl hnf hok hnt hgap hgive κ hκ))) ?_;refine Tl.tk 5 (by kernel_rfl) (by kernel_rfl) rfl rfl (by decide) rfl rfl (OpV.take .ia) ?_;refine Tl.done (by kernel_rfl) rfl ?_;refine To.ofSo (fun H1 hs=> ?_);refine So.mono ?_ (fun g hg=> Jw.toT rfl hg);have eoff:0+((κ:Nat):Int).toNat*1=κ:=by rw[Int.toNat_natCast];omega
 refine So.own (z:=((bk.left κ:Nat):Int)) (ik:=.i64) rfl rfl rfl ?_ rfl (by kernel_rfl) ?_ ?_
 · show some (Value.pointer (some ⟨X.C,0+((κ:Nat):Int).toNat*1,none⟩))=_;rw[eoff]
 · intro D o _ hGo;rw[hGI] at hGo ⊢;have hGo':o=.cells ⟨leftL bk D⟩ 3 (0,0):=hGo;subst hGo';refine⟨⟨leftL bk D⟩,3,rfl,by simp only[List.size_toArray,leftL_len];exact hκ,?_⟩;show Obj.cells _ 3 (0,0)=.cells ⟨leftL bk (also D κ)⟩ 3 (0,0);rw[←leftL_set];simp
 · exact fun k' _=> So.done Jw.cl0 (Sc.over Jw.cl0 rfl (done_d rfl (Sb.leaveD Jq.cl Tryz.func104 rfl Tryz.results104 (.inr rfl) Jq.bot)))
end
set_option maxHeartbeats 16000000
theorem ro_some {H:View}{b:Nat}{f:Bool}{o:Obj}(h:H b=some (f,o)):ro H b=some (false,o):=by simp[ro,h]
theorem ro_none {H:View}{b:Nat}(h:H b=none):ro H b=none:=by simp[ro,h]
def Keeps(H H':View):Prop:=∀b f o,H b=some (f,o)→∃f',H' b=some (f',o)
theorem src_of {H H':View}{sz m:Nat}{y:Value}{l:List Value}(h:SrcAt H sz y m l)(k:Keeps H H'):SrcAt H' sz y m l:=by
 obtain⟨h1,h2,h3⟩:=h;refine⟨h1,h2,h3.imp id ?_⟩;rintro⟨b,off,c,f,cs,e,fz,h4,h5,h6,h7⟩;obtain⟨f',h5'⟩:=k _ _ _ h5;exact⟨b,off,c,f',cs,e,fz,h4,h5',h6,h7⟩
theorem BookAt.of {H H':View}{k:Bk}{A:Option Addr}{lc:Nat}{B:Option Addr}{tc:Nat}{F:Nat→Option Addr}{fc:Nat→Nat}(h:BookAt H k A lc B tc F fc)(hk:Keeps H H'):BookAt H' k A lc B tc F fc:=
 ⟨h.hlc,h.htc,src_of h.rows hk,src_of h.trains hk,h.hfc,fun i hi=> src_of (h.free i hi) hk⟩
structure StAt(X:Fk)(k:Bk)(H:View)(b5 b6:Nat)(A:Option Addr)(lc:Nat)(B:Option Addr)(tc:Nat)(F:Nat→Option Addr)(fc:Nat→Nat):Prop where
 bk:BookAt H k A lc B tc F fc
 sm:k.small
 al:k.alarm=0
 n:X.n=k.nt
 h5:∃f,H b5=some (f,.cells ⟨(k.val A lc B tc).cells.toList⟩ 113 (0,0))
 h6:∃f,H b6=some (f,.cells ⟨[.slice (some ⟨X.C,0,none⟩) k.nt k.nt]⟩ 26 (0,0))
 C0:H X.C=none
 GI:X.GI=GIl k
theorem StAt.of {X:Fk}{k:Bk}{H H':View}{b5 b6:Nat}{A:Option Addr}{lc:Nat}{B:Option Addr}{tc:Nat}{F:Nat→Option Addr}{fc:Nat→Nat}(h:StAt X k H b5 b6 A lc B tc F fc)(hk:Keeps H H')(h0:H' X.C=none):StAt X k H' b5 b6 A lc B tc F fc:=
 ⟨h.bk.of hk,h.sm,h.al,h.n,let ⟨_,g⟩:=h.h5;hk _ _ _ g,let ⟨_,g⟩:=h.h6;hk _ _ _ g,h0,h.GI⟩
abbrev b33:FB:=⟨33,.normal,none⟩
noncomputable def L33:Code:=cR (cL (cR (cR (cR (cR (cR (bodyOf Tryz.f33)))))))
noncomputable def B33:Code:=cB (cB L33)
noncomputable def T33:Code:=cR (cR (cR (cR (cR (cR (bodyOf Tryz.f33))))))
section
variable {X:Fk}{k:Bk}{b1 b5 b6:Nat}{A:Option Addr}{lc:Nat}{B:Option Addr}{tc:Nat}{F:Nat→Option Addr}{fc:Nat→Nat}{Fin:Goroutine→Prop}{cs:List Frame}
def rgS(X:Fk)(k:Bk)(b1 b5 b6 j:Nat):Rg:= [(1,.pointer (some ⟨b1,0,none⟩)),(5,.pointer (some ⟨b5,0,none⟩)),(6,.pointer (some ⟨b6,0,none⟩)),(7,.pointer (some ⟨X.Wg,0,none⟩)),(24,.int .i64 (k.nt:Nat)),(25,.int .i64 (j:Nat))]
theorem start_loop(hfin:∀(R:Rg),AllIn (rgS X k b1 b5 b6 k.nt) R→∀κ (H:View),Sc (Jm Tryz.prog X Fin κ .wd k.nt H) 50 b33 cs R [] [.code T33]):∀(d j κ:Nat) (H:View),j+d=k.nt→StAt X k H b5 b6 A lc B tc F fc→∀(R:Rg),AllIn (rgS X k b1 b5 b6 j) R→
   Sc (Jm Tryz.prog X Fin κ (if j<X.n then .kd else .wd) j H) 50 b33 cs R [] [.code B33,.inLoop B33,.inBlock 0,.code T33]
 | 0,j,κ,H,hj,hst,R,hR=> by
   have e:j=k.nt:=by omega
   subst e;rw[if_neg (by rw[hst.n];omega)];refine Sc.drop hR ?_;unfold rgS;refine .sq (.rg rfl rfl ?_);refine .i ?_ (z:=lss_f (by omega));refine .dn ?_;refine Sc.seq Jm.cl (Sc.cond Jm.cl (t:=false) rfl (fun h=> nomatch h) (fun _=> ?_));refine .xt rfl ?_;exact hfin _ ⟨rfl,rfl,rfl,rfl,rfl,rfl,trivial⟩ κ H
 | d + 1,j,κ,H,hj,hst,R,hR=> by
   rw[if_pos (by rw[hst.n];omega)];refine Sc.drop hR ?_;unfold rgS;obtain⟨hg,hnl,hnt,hok⟩:=Bk.valid hst.al;refine .sq (.rg rfl rfl ?_);refine .i ?_ (z:=lss_t (by omega));refine .dn ?_;refine Sc.seq Jm.cl (Sc.cond Jm.cl (t:=true) rfl (fun _=> ?_) (fun h=> nomatch h));refine .sp (.sq (.bl (.sq ?_)));refine Sc.none hst.C0 ?_;refine Sc.ofTc (SymSt.nil H) ?_;refine .r ?_;refine .m ?_;refine .e (.al (zz:=fun b8=> ?_));refine .e (.st 0 (zz:=?_));refine .done ?_;refine Tc.ofSc (fun H1 hs=> Sc.stopNone (fun hC1=> ?_));have hst1:StAt X k H1 b5 b6 A lc B tc F fc:=hst.of (fun b f o h=> ⟨f,hs.base _ _ h⟩) hC1;have h8:=hs.get (i:=0) rfl;show Sc (Jm Tryz.prog X Fin κ .kd j H1) 50 b33 cs _ [] _;refine .sq (.rg rfl rfl ?_);refine So.callD rfl rfl rfl nofun rfl (.mk' rfl) rfl (addone_c) ?_;rintro v J' ⟨rfl,κ',rfl⟩;refine .dn (.rg rfl rfl ?_);refine So.opD Jm.cl rfl rfl rfl rfl (OpP.makeFunc rfl rfl rfl) ?_;have hst2:StAt X k (ro H1) b5 b6 A lc B tc F fc:=hst1.of (fun b f o h=> ⟨false,ro_some h⟩) (ro_none hC1);refine Jm.go (f:=104) (fn:=#[]) (caps:=(wkVs X b5 b8 b6).toArray) rfl nofun rfl rfl rfl rfl rfl rfl rfl (fun k1 _=> ?_) (fun k1 _=> ?_)
   · refine .dn (.ib (.rg rfl rfl ?_));refine .i ?_ (z:=add_in (by omega) (by omega));refine .m ?_;refine .dn ?_;refine Sc.inLoop (by exact Jm.cl) ?_;exact start_loop hfin d (j+1) k1 (ro H1) (by omega) hst2 _ ⟨rfl,rfl,rfl,rfl,rfl,rfl,trivial⟩
   · exact worker_c ⟨hst2.bk,hst.sm.nl,fun i hi=> (hst.sm.num i hi).2,hok,hnt,by omega,by omega,hst2.h5,⟨false,ro_some h8⟩,hst2.h6,by omega,hst.GI⟩ k1
end
theorem Ph.of₁ {P:Program}{H:View}{g:Goroutine}{Po:View→Goroutine→Prop}(h:Ph₁ P H g Po):Ph P H g Po:=
 ⟨H,fun _=> none,Po,fun _ _ h=> (nomatch h),(by funext b;unfold View.plus;cases H b <;> rfl),h,fun H' g' _ hp=> by
   have e:H'.plus (fun _=> none)=H':=by funext b;unfold View.plus;cases H' b <;> rfl
   rwa [e]⟩
def View.beside(X:Fk)(H:View):View:=(H.without X.C).without X.Wg
theorem beside_none {X:Fk}{H:View}:View.beside X H X.Wg=none∧View.beside X H X.C=none:=by
 refine⟨?_,?_⟩ <;> unfold View.beside View.without <;> simp
theorem beside_some {X:Fk}{H:View}{b:Nat}(h1:b≠X.C)(h3:b≠X.Wg):View.beside X H b=H b:=by
 unfold View.beside;rw[without_other h3,without_other h1]
theorem Ph.begin {P:Program}{H:View}{g:Goroutine}{Po:View→Goroutine→Prop}(X:Fk)(Fin:Goroutine→Prop)(o:Obj)(hn:X.n≤6)(ne:X.Wg≠X.C)
   (hC:H X.C=some (true,o)) (hWg:H X.Wg=some (true,X.wgO ⟨0,0,0⟩)) (hGI:X.GI (fun _=> false) o)
   (hg:∀k,T (Mw P true X.ok) (MS P X Fin k (if 0<X.n then .kd else .wd) 0) (ro (View.beside X H)) g) (hPo:∀o' g',X.GI (fun i=> decide (i<X.n)) o'→Fin g'→Po ((View.beside X H).put X.C (true,o')) g'):Ph P H g Po:=by
 refine Ph.of₁ ⟨X,Fin,View.beside X H,o,hn,ne,beside_none,?_,hGI,hg,hPo⟩
 funext b
 by_cases e1:b=X.Wg
 · subst e1;rw[View.put_same,hWg]
 · rw[View.put_other _ _ e1];by_cases e3:b=X.C
   · subst e3;rw[View.put_same,hC]
   · rw[View.put_other _ _ e3,beside_some e3 e1]
theorem So.all {J:Obj→Goroutine→Prop}{p:Obj→Prop}{n:Nat}{b:FB}{cs:List Frame}{dl:List (Option Tmp)}{R:Rg}{ds:List Deferred}{l:List Oper}{kk:List Item}(h:∀o,p o→So (J o) n b cs dl R ds l kk):So (fun g=> ∀o,p o→J o g) n b cs dl R ds l kk:=
 fun arr ix ha hx tmps hr o ho=> h o ho arr ix ha hx tmps hr
def Bk.lookTo(k:Bk):Nat→Int×Int
 | 0=> (-1,(k.resL.length:Nat))
 | j+1=> if((k.left j:Nat):Int)<(k.lookTo j).2 then((j:Nat),((k.left j:Nat):Int)) else k.lookTo j
def Bk.look(k:Bk):Int×Int:=k.lookTo k.nt
def lookV(p:Int×Int):Value:=.tuple ⟨[.int .i64 p.1,.int .i64 p.2,.int .i64 0]⟩
section
theorem Look_c(H:View)(k:Bk)(A:Option Addr)(lc:Nat)(B:Option Addr)(tc:Nat)(F:Nat→Option Addr)(fc:Nat→Nat)(hB:BookAt H k A lc B tc F fc)(hn:k.small)(hG:Glob H)(ha:k.alarm=0):
   CallT (Mp Tryz.prog) 33 #[k.val A lc B tc] H (fun v H'=> H.le H'∧v=lookV k.look):=by
 obtain⟨hgg,hnl,hnt,hok⟩:=Bk.valid ha;have hop:=fun(H':View) (h':H.le H')=> open_yes (Mp Tryz.prog) H' k A lc B tc (hB.bk.le h') hn (glob_le hG h') ha;refine .en Tryz.func33 Tryz.ntmps33 fun St c cs hK=> ?_;refine .sr ?_;refine .e (.bx (zz:=fun b1=> ?_));refine .g ?_;refine .g ?_;refine .g ?_;refine .done (.sr ?_);refine .x (.ld 0) ?_;refine .c rfl rfl rfl rfl (fun H hs=> .f ca81 rfl (hop H hs.base)) ?_;refine .m ?_;refine .x .et ?_;refine .x .et ?_;refine .e (.al (zz:=fun b5=> ?_));refine .e (.st 0 (zz:=?_));refine .g ?_;refine .done (.seq (.sr ?_));refine .m ?_;refine .i ?_ (z:=neq_f (by omega));refine .done (.ff rfl (.skip (.sr ?_)));refine .x .fa ?_;refine .x (.ld 1) ?_;refine .x .ln ?_;refine .e (Or.makeSlice (E:=en) (len:=k.nt) (cap:=k.nt) rfl rfl rfl rfl rfl rfl (Nat.le_refl _) (by omega) rfl rfl (by decide) (fun bC=> ?_));refine .e (.al (zz:=fun b6=> ?_));refine .e (.st 0 (zz:=?_));refine .done (.sr ?_);refine .e (.al (zz:=fun b7=> ?_));refine .done (.seq (.sr ?_));refine .x (.ld 1) ?_;refine .x .ln ?_;refine .m ?_;refine .done ?_;refine Tc.ofSc (fun Hx hs tmps hr=> ?_);obtain⟨X,hX⟩:∃X:Fk,X=⟨k.nt,b7,bC,156,GIl k⟩:=⟨_,rfl⟩
 have x1:=hs.get (i:=0) rfl;have x2:=hs.get (i:=1) rfl;have x3:=hs.get (i:=2) rfl;have x4:=hs.get (i:=3) rfl;have x5:=hs.get (i:=4) rfl;have hnd: [b7,b6,bC,b5,b1].Nodup:=hs.nodup;simp only[List.nodup_cons,List.mem_cons,List.not_mem_nil,or_false,not_or,not_false_eq_true,List.nodup_nil,and_true] at hnd;obtain⟨⟨n1,n2,n3,n4⟩,⟨n5,n6,n7⟩,⟨n8,n9⟩,n10⟩:=hnd;have hout:∀y,y=bC∨y=b7→H y=none:=by
   rintro y (rfl|rfl)
   · exact hs.out _ (List.mem_cons_of_mem _ (List.mem_cons_of_mem _ List.mem_cons_self))
   · exact hs.out _ List.mem_cons_self
 have hle:H.le (View.beside X Hx):=fun b y hb=> by
   have e:∀z,z=bC∨z=b7→b≠z:=fun z hz e=> by subst e;rw[hout b hz] at hb;cases hb
   rw[beside_some (by subst hX;exact e _ (.inl rfl)) (by subst hX;exact e _ (.inr rfl))];exact hs.base _ _ hb
 have y5:View.beside X Hx b5=some (true,.cells ⟨(k.val A lc B tc).cells.toList⟩ 113 (0,0)):=by
   subst hX;rw[beside_some (by exact Ne.symm n8) (by exact Ne.symm n3)];exact x4
 have y6:View.beside X Hx b6=some (true,.cells ⟨[.slice (some ⟨bC,0,none⟩) k.nt k.nt]⟩ 26 (0,0)):=by
   subst hX;rw[beside_some n5 (by exact Ne.symm n1)];exact x2
 obtain⟨Fin,hF⟩:∃Fin:Goroutine→Prop,Fin=fun g=> ∀o',X.GI (fun i=> decide (i<X.n)) o'→T (Mp Tryz.prog) St ((View.beside X Hx).put X.C (true,o')) g:=⟨_,rfl⟩
 have hcF:Cl Tryz.prog true noSh Fin:=⟨fun g g' hs h hf=> by
   subst hF;exact fun o' ho=> .step ⟨hs,fun w hw hok=> ⟨g',w,#[],_,h w (fun _ _ e=> by cases e),.refl hw,hf o' ho⟩⟩⟩
 have hz:zeroRow [Value.int .i64 0] (k.nt*1)=leftL k (fun _=> false):=by
   rw[zeroRow_one,Nat.mul_one];unfold leftL;simp[List.map_const']
 refine T.phase (Po:=fun H' g'=> T (Mp Tryz.prog) St H' g') (Ph.begin X Fin (.cells ⟨leftL k (fun _=> false)⟩ 3 (0,0)) (by subst hX;exact hnt) (by subst hX;exact n2) (by subst hX;rw[←hz];exact x3) (by subst hX;exact x1) (by subst hX;exact rfl) (fun κ=> ?_) (fun o' g' ho hg=> by subst hF;exact hg o' ho)) (fun H' g' h=> h);have hst:StAt X k (ro (View.beside X Hx)) b5 b6 A lc B tc F fc:=
   ⟨hB.of (fun b f o h=> ⟨false,ro_some (hle _ _ h)⟩),hn,ha,by subst hX;rfl,⟨false,ro_some y5⟩,by subst hX;exact⟨false,ro_some y6⟩,ro_none beside_none.2,by subst hX;rfl⟩
 have hfin:∀(R:Rg),AllIn (rgS X k b1 b5 b6 k.nt) R→∀κ (H:View),Sc (Jm Tryz.prog X Fin κ .wd k.nt H) 50 b33 (c::cs) R [] [.code T33]:=by
   intro R hR κ Hk;refine Sc.drop hR ?_;unfold rgS;refine .sq (.rg rfl rfl ?_);refine So.callD rfl rfl rfl nofun rfl (.mk' rfl) rfl (wait_c hcF) ?_;rintro v J' ⟨rfl,rfl⟩;subst hF;refine So.all (fun o' ho'=> ?_);have hGI:X.GI=GIl k:=by subst hX;rfl
   rw[hGI] at ho';have ho2:o'=.cells ⟨leftL k (fun i=> decide (i<X.n))⟩ 3 (0,0):=ho';subst ho2;have hX2:X.n=k.nt:=by subst hX;rfl
   have z5:(View.beside X Hx).put X.C (true,.cells ⟨leftL k (fun i=> decide (i<X.n))⟩ 3 (0,0)) b5=some (true,.cells ⟨(k.val A lc B tc).cells.toList⟩ 113 (0,0)):=by
     rw[View.put_other _ _ (by subst hX;exact Ne.symm n8)];exact y5
   have z6:(View.beside X Hx).put X.C (true,.cells ⟨leftL k (fun i=> decide (i<X.n))⟩ 3 (0,0)) b6=some (true,.cells ⟨[.slice (some ⟨X.C,0,none⟩) k.nt k.nt]⟩ 26 (0,0)):=by
     rw[View.put_other _ _ (by subst hX;exact n5)];subst hX;exact y6
   have zC:(View.beside X Hx).put X.C (true,.cells ⟨leftL k (fun i=> decide (i<X.n))⟩ 3 (0,0)) X.C=some (true,.cells ⟨leftL k (fun i=> decide (i<X.n))⟩ 3 (0,0)):=View.put_same ..;have zle:H.le ((View.beside X Hx).put X.C (true,.cells ⟨leftL k (fun i=> decide (i<X.n))⟩ 3 (0,0))):=fun b y hb=> by
     rw[View.put_other _ _ (by rintro rfl;subst hX;rw[hout bC (.inl rfl)] at hb;cases hb)];exact hle _ _ hb
   generalize (View.beside X Hx).put X.C (true,.cells ⟨leftL k (fun i=> decide (i<X.n))⟩ 3 (0,0))=H2 at z5 z6 zC zle;refine So.ofTo (SymSt.nil H2) ?_;refine .done (.sr ?_);refine .x .l0 ?_;refine To.callF rfl rfl rfl rfl rfl rfl (by decide) (FnT.f ca94 rfl (results_c _ H2 k A lc B tc (hB.bk.le zle).rows hn.nl (hB.bk.le zle).trains hok hnt)) (fun v H₃ hv=> ?_);obtain⟨hle3,m,es,cl,rfl,⟨fm,q3⟩,q4⟩:=hv;have hsz:=Bk.res_size q4;have z6':=hle3 _ _ z6;have zC':=hle3 _ _ zC;refine .x (OpV.lenMap (E:=en) (es:=es) rfl rfl rfl rfl rfl (fun H hs=> ⟨fm,hs.base _ _ q3⟩) rfl rfl) ?_;refine .g ?_;refine .g ?_;refine .done ?_;rw[hsz];refine .seq (.sr ?_);refine .x .l0 ?_;refine .x .ln ?_;refine .m ?_;refine .done (.block ?_);refine Tc.db (Tc.loopInv (σ:= { j:Nat//j≤k.nt }) (fun j=> ([(2,.int .i64 (k.lookTo j.1).1),(3,.int .i64 (k.lookTo j.1).2),(35,.slice (some ⟨X.C,0,none⟩) k.nt k.nt),(36,.int .i64 (k.nt:Nat)),(37,.int .i64 (j.1:Nat))],[])) (fun j=> k.nt-j.1) ?_ ⟨0,Nat.zero_le _⟩);rintro⟨j,hj⟩ ih;show Tc (Mp Tryz.prog) St _ _ _ _ [(2,.int .i64 (k.lookTo j).1),(3,.int .i64 (k.lookTo j).2),(35,.slice (some ⟨X.C,0,none⟩) k.nt k.nt),(36,.int .i64 (k.nt:Nat)),(37,.int .i64 (j:Nat))] [] _ _;by_cases c1:j=k.nt
   · subst c1;refine .sr ?_;refine .i ?_ (z:=lss_f (by omega));refine .done (.seq (.ff rfl (.exit rfl (.sr ?_))));refine .m ?_;refine .m ?_;refine .g ?_;refine .g ?_;refine .g ?_;refine .done ?_;refine .rt hK Tryz.func33 Tryz.results33 [_,_,_] ?_;exact fun H' hs=> ⟨View.le_trans zle (View.le_trans hle3 hs.base),rfl⟩
   · have c2:j<k.nt:=by omega
     have f1:ldL false 1 (leftL k (fun i=> decide (i<X.n))) (0+((j:Nat):Int).toNat*1)=some (.int .i64 ((k.left j:Nat):Int)):=by
       show _[_]? =_;rw[Nat.zero_add,Int.toNat_natCast,Nat.mul_one];unfold leftL;rw[List.getElem?_map,List.getElem?_range c2];simp[hX2,c2]
     by_cases c3:((k.left j:Nat):Int)<(k.lookTo j).2
     · have e:k.lookTo (j+1)=(((j:Nat):Int),((k.left j:Nat):Int)):=by rw[Bk.lookTo,if_pos c3]
       refine .sr ?_;refine .i ?_ (z:=lss_t (by omega));refine .done (.seq (.tt rfl (.skip (.seq (.block (.sr ?_))))));refine .m ?_;refine .x .ia ?_;refine .x .l0 ?_;refine .g ?_;refine .g ?_;refine .done (.sr ?_);refine .m ?_;refine .m ?_;refine .i ?_ (z:=lss_t (by omega));refine .done (.tt rfl (.r ?_));refine .m ?_;refine .m ?_;refine .g ?_;refine .g ?_;refine .done (.inBlock (.r ?_));refine .i ?_ (z:=add_in (by omega) (by omega));refine .m ?_;refine .done ?_;refine Tc.dropB (ih ⟨j+1,c2⟩ (by simp only;omega)) ?_ (by exact List.Sublist.refl _);simp only[e];exact⟨rfl,rfl,rfl,rfl,rfl,trivial⟩
     · have e:k.lookTo (j+1)=k.lookTo j:=by rw[Bk.lookTo,if_neg c3]
       refine .sr ?_;refine .i ?_ (z:=lss_t (by omega));refine .done (.seq (.tt rfl (.skip (.seq (.block (.sr ?_))))));refine .m ?_;refine .x .ia ?_;refine .x .l0 ?_;refine .g ?_;refine .g ?_;refine .done (.sr ?_);refine .m ?_;refine .m ?_;refine .i ?_ (z:=lss_f (by omega));refine .done (.ff rfl (.skip (.inBlock (.r ?_))));refine .i ?_ (z:=add_in (by omega) (by omega));refine .m ?_;refine .done ?_;refine Tc.dropB (ih ⟨j+1,c2⟩ (by simp only;omega)) ?_ (by exact List.Sublist.refl _);simp only[e];exact⟨rfl,rfl,rfl,rfl,rfl,trivial⟩
 refine Sc.block Jm.cl (Sc.loop Jm.cl ?_) tmps hr;have hgo:=start_loop hfin k.nt 0 κ (ro (View.beside X Hx)) (by omega) hst;subst hX;exact hgo _ (by unfold rgS;refine⟨rfl,?_⟩;refine⟨rfl,?_⟩;refine⟨rfl,?_⟩;refine⟨rfl,?_⟩;refine⟨rfl,?_⟩;refine⟨rfl,?_⟩;exact trivial)
end
end Go.Proofs.YtdnfdeplcjaonaaGreatDoor
namespace Go.Proofs.YtdnfdeplcjaonaaGreatDoor
open Go.RL
set_option maxRecDepth 10000
theorem less_cons(a b:UInt8)(x y:List UInt8):Op.bytesLess (a::x) (b::y)=(decide (a<b)||(a==b&&Op.bytesLess x y)):=rfl
theorem less_nil(s:List UInt8):Op.bytesLess s []=false:=by cases s <;> rfl
theorem u8_lt {a b:UInt8}:a<b↔a.toNat<b.toNat:=UInt8.lt_iff_toNat_lt
theorem less_trans:∀ {a b c:List UInt8},Op.bytesLess a b=true→Op.bytesLess b c=true→Op.bytesLess a c=true
 | _,[],_,h,_=> by rw[less_nil] at h;cases h
 | _,_::_,[],_,h=> by rw[less_nil] at h;cases h
 | [],_::_,_::_,_,_=> rfl
 | p ::a,q::b,r::c,h,k=> by
   rw[less_cons] at h k ⊢;simp only[Bool.or_eq_true,Bool.and_eq_true,decide_eq_true_eq,beq_iff_eq] at h k ⊢;rcases h with h|⟨rfl,h⟩
   · rcases k with k|⟨rfl,_⟩
     · exact .inl (UInt8.lt_trans h k)
     · exact .inl h
   · rcases k with k|⟨rfl,k⟩
     · exact .inl k
     · exact .inr ⟨rfl,less_trans h k⟩
theorem less_tri:∀ {a b:List UInt8},Op.bytesLess a b=false→Op.bytesLess b a=false→a=b
 | [],[],_,_=> rfl
 | [],_::_,h,_=> by cases h
 | _::_,[],_,h=> by cases h
 | p ::a,q::b,h,k=> by
   rw[less_cons] at h k;simp only[Bool.or_eq_false_iff,decide_eq_false_iff_not,Bool.and_eq_false_iff,beq_eq_false_iff_ne] at h k;have e:p=q:=by
     have h1:=h.1;have k1:=k.1;rw[u8_lt] at h1 k1;exact UInt8.toNat_inj.1 (by omega)
   subst e;have h2:=h.2.resolve_left (fun h=> h rfl);have k2:=k.2.resolve_left (fun h=> h rfl);rw[less_tri h2 k2]
theorem less_asym {a b:List UInt8}(h:Op.bytesLess a b=true):Op.bytesLess b a=false:=by
 cases k:Op.bytesLess b a with
 | false=> rfl
 | true=>
   have:=less_trans h k;rw[less_irr] at this;cases this
def rankS(S:List (List UInt8))(s:List UInt8):Nat:=S.countP fun t=> Op.bytesLess t s
theorem rank_le {a b:List UInt8}(h:Op.bytesLess a b=true):∀S:List (List UInt8),rankS S a≤rankS S b
 | []=> Nat.le_refl _
 | t ::S=> by
   have:=rank_le h S;unfold rankS at this ⊢;rw[List.countP_cons,List.countP_cons];by_cases k:Op.bytesLess t a=true
   · rw[if_pos k,if_pos (less_trans k h)];omega
   · rw[if_neg k];split <;> omega
theorem rank_lt {a b:List UInt8}(h:Op.bytesLess a b=true):∀S:List (List UInt8),a∈S→rankS S a<rankS S b
 | t ::S,hm=> by
   have hle:=rank_le h S;rcases List.mem_cons.1 hm with rfl|hm
   · unfold rankS at hle ⊢;rw[List.countP_cons,List.countP_cons,if_neg (by rw[less_irr];decide),if_pos h];omega
   · have:=rank_lt h S hm;unfold rankS at this ⊢;rw[List.countP_cons,List.countP_cons];by_cases k:Op.bytesLess t a=true
     · rw[if_pos k,if_pos (less_trans k h)];omega
     · rw[if_neg k];split <;> omega
def decS(S:List (List UInt8))(z:Int):List UInt8:=(S.find? fun s=> decide ((rankS S s:Int)=z)).getD []
theorem dec_rank {S:List (List UInt8)}{s:List UInt8}(h:s∈S):decS S (rankS S s:Nat)=s:=by
 unfold decS;cases hf:S.find? (fun t=> decide ((rankS S t:Int)=(rankS S s:Nat))) with
 | none=>
   have:=List.find?_eq_none.1 hf s h;simp at this
 | some t=>
   have h1:=List.mem_of_find?_eq_some hf;have h2:=List.find?_some hf;simp only[decide_eq_true_eq,Int.natCast_inj] at h2;show t=s;cases k:Op.bytesLess t s with
   | true=> have:=rank_lt k S h1;omega
   | false=>
     cases k2:Op.bytesLess s t with
     | true=> have:=rank_lt k2 S h;omega
     | false=> exact less_tri k k2
def codesS(S:List (List UInt8)):List Int:=S.map fun s=> ((rankS S s:Nat):Int)
theorem codes_dec(S:List (List UInt8)):(codesS S).map (decS S)=S:=by
 unfold codesS;rw[List.map_map];have:∀s∈S,(decS S∘fun s=> ((rankS S s:Nat):Int)) s=s:=fun s hs=> dec_rank hs;rw[List.map_congr_left this,List.map_id']
theorem codes_enc(S:List (List UInt8)):Enc (decS S) (codesS S):=by
 intro x hx y hy;obtain⟨s,hs,rfl⟩:=List.mem_map.1 hx;obtain⟨t,ht,rfl⟩:=List.mem_map.1 hy;rw[dec_rank hs,dec_rank ht];cases k:Op.bytesLess s t with
 | true=> exact(decide_eq_true (by have:=rank_lt k S hs;omega)).symm
 | false=>
   refine(decide_eq_false ?_).symm;intro hlt;cases k2:Op.bytesLess t s with
   | true=> have:=rank_lt k2 S ht;omega
   | false=>
     have:=less_tri k k2;subst this;omega
def leS(a b:List UInt8):Bool:=!Op.bytesLess b a
def insS(x:List UInt8):List (List UInt8)→List (List UInt8)
 | []=> [x]
 | y::t=> if leS x y then x::y::t else y::insS x t
def sortS:List (List UInt8)→List (List UInt8)
 | []=> []
 | x::t=> insS x (sortS t)
theorem insS_perm(x:List UInt8):∀l,(insS x l).Perm (x::l)
 | []=> .refl _
 | y::t=> by
   unfold insS;split
   · exact .refl _
   · exact(List.Perm.cons y (insS_perm x t)).trans (.swap ..)
theorem sortS_perm:∀l,(sortS l).Perm l
 | []=> .refl _
 | x::t=> (insS_perm x _).trans (.cons x (sortS_perm t))
theorem leS_trans {a b c:List UInt8}(h:leS a b=true)(k:leS b c=true):leS a c=true:=by
 unfold leS at *;simp only[Bool.not_eq_true'] at *;cases e:Op.bytesLess c a with
 | false=> rfl
 | true=>
   cases e2:Op.bytesLess b c with
   | true=> rw[less_trans e2 e] at h;cases h
   | false=>
     have:=less_tri e2 k;subst this;rw[e] at h;cases h
theorem leS_total {a b:List UInt8}(h:leS a b=false):leS b a=true:=by
 unfold leS at *;simp only[Bool.not_eq_true',Bool.not_eq_false'] at *;exact less_asym h
theorem insS_sorted(x:List UInt8):∀l:List (List UInt8),l.Pairwise (fun a b=> leS a b=true)→(insS x l).Pairwise (fun a b=> leS a b=true)
 | [],_=> List.pairwise_singleton _ _
 | y ::t,h=> by
   obtain⟨h1,h2⟩:=List.pairwise_cons.1 h;unfold insS;split
   · rename_i hx
     refine List.pairwise_cons.2 ⟨fun z hz=> ?_,h⟩;rcases List.mem_cons.1 hz with rfl|hz
     · exact hx
     · exact leS_trans hx (h1 z hz)
   · rename_i hx
     refine List.pairwise_cons.2 ⟨fun z hz=> ?_,insS_sorted x t h2⟩;rcases List.mem_cons.1 ((insS_perm x t).mem_iff.1 hz) with rfl|hz
     · exact leS_total (by simpa using hx)
     · exact h1 z hz
theorem sortS_sorted:∀l:List (List UInt8),(sortS l).Pairwise (fun a b=> leS a b=true)
 | []=> List.Pairwise.nil
 | x::t=> insS_sorted x _ (sortS_sorted t)
theorem sorted_uniq {l m:List (List UInt8)}(h:l.Perm m)(hl:l.Pairwise (fun a b=> leS a b=true))(hm:m.Pairwise (fun a b=> leS a b=true)):l=m:=
 List.Perm.eq_of_pairwise (le:=fun a b=> leS a b=true) (fun a b _ _ h1 h2=> by
   unfold leS at h1 h2;simp only[Bool.not_eq_true'] at h1 h2;exact less_tri h2 h1) hl hm h
theorem codes_sorted {S:List (List UInt8)}{m:List Int}{n:Nat}(hn:n=S.length)(ht:Turned 0 n (codesS S) m)(hs:Srt 0 n m):m.map (decS S)=sortS S:=by
 have hpm:m.Perm (codesS S):=List.perm_iff_count.2 ht.cnt;have hp:(m.map (decS S)).Perm S:=by
   have:=hpm.map (decS S)
   rwa [codes_dec] at this
 refine sorted_uniq (hp.trans (sortS_perm S).symm) ?_ (sortS_sorted S);rw[List.pairwise_map,List.pairwise_iff_getElem];intro i j hi hj hij;have hml:m.length=n:=by rw[ht.len,hn];simp[codesS]
 have h1:=hs i j (Nat.zero_le _) hij (by omega);unfold at0 at h1;rw[List.getElem?_eq_getElem hi,List.getElem?_eq_getElem hj] at h1;simp only[Option.getD_some] at h1;have h2:=(codes_enc S).turned ht m[j] (List.getElem_mem hj) m[i] (List.getElem_mem hi);unfold leS;rw[h2,decide_eq_false (by omega)];rfl
theorem strsL_codes(S:List (List UInt8)):strsL (decS S) (codesS S)=S.map strV:=by
 have:=congrArg (List.map strV) (codes_dec S);rw[List.map_map] at this;exact this
theorem strsL_map(dec:Int→List UInt8)(m:List Int):strsL dec m=(m.map dec).map strV:=by
 rw[List.map_map];rfl
set_option maxHeartbeats 16000000
def digs1:List UInt8:= [49,50,51,52,53,54,55,56,57]
def canTo(most n:Nat):List (List UInt8):=(List.range n).flatMap fun i=> allL (digs1.take most) (i+1)
theorem canTo_succ(most n:Nat):canTo most (n+1)=canTo most n++allL (digs1.take most) (n+1):=by
 unfold canTo;rw[List.range_succ,List.flatMap_append];simp
theorem allFrom_len(dg:List UInt8):∀(d:Nat) (s:List UInt8),(allFrom dg d s).length=dg.length ^ d
 | 0,_=> rfl
 | d+1,s=> by
   unfold allFrom;rw[List.length_flatMap];have:∀x∈dg,(fun x=> (allFrom dg d (s++[x])).length) x=(fun _=> dg.length ^ d) x:=fun x _=> allFrom_len dg d _;rw[List.map_congr_left this,List.map_const',List.sum_replicate_nat,Nat.pow_succ,Nat.mul_comm]
theorem allL_len {most n:Nat}(hm:most≤3)(hn:n≤3):(allL (digs1.take most) n).length≤27:=by
 unfold allL;rw[allFrom_len];have hl:(digs1.take most).length≤3:=by rw[List.length_take];omega
 calc (digs1.take most).length ^ n≤3 ^ n:=Nat.pow_le_pow_left hl n
   _≤3 ^ 3:=Nat.pow_le_pow_right (by decide) hn
   _=27:=by decide
theorem canTo_len {most:Nat}(hm:most≤3):∀n,n≤3→(canTo most n).length≤27*n
 | 0,_=> Nat.le_refl _
 | n+1,h=> by
   rw[canTo_succ,List.length_append];have h1:=canTo_len hm n (by omega);have h2:=allL_len hm h;omega
theorem digs1_dig(most:Nat):(digs1.take most).all dig=true:=by
 have h:digs1.all dig=true:=by decide +kernel
 exact List.all_eq_true.2 fun x hx=> List.all_eq_true.1 h x (List.mem_of_mem_take hx)
theorem mem_canTo {most n:Nat}{s:List UInt8}(h:s∈canTo most n)(hn:n≤3):s.all dig=true∧s.length≤3:=by
 obtain⟨i,hi,h2⟩:=List.mem_flatMap.1 h;obtain⟨h3,h4⟩:=mem_allL h2;have:=List.mem_range.1 hi;exact⟨List.all_eq_true.2 fun y hy=> List.all_eq_true.1 (digs1_dig most) y (h4 y hy),by omega⟩
theorem perm5(a b c d e f:Nat×Bool×Obj)(B:Bl):(a::b::c::d::e::f::B).Perm (c::d::e::a::b::f::B):=by
 have h1:([a,b]++c::(d::e::f::B)).Perm (c::([a,b]++d::e::f::B)):=List.perm_middle;have h2:([a,b]++d::(e::f::B)).Perm (d::([a,b]++e::f::B)):=List.perm_middle;have h3:([a,b]++e::(f::B)).Perm (e::([a,b]++f::B)):=List.perm_middle;exact h1.trans (.cons _ (h2.trans (.cons _ h3)))
def cheap(w:Nat→Int)(nw digits most:Nat):ChSt:=cheapGo (sortS (canTo most digits)) w nw [] 0 ⟨false,0,[]⟩
def cheapV(num:Value)(t a:Int):Value:=.tuple ⟨[num,.int .i64 t,.int .i64 a]⟩
section
variable(M:Md Tryz.prog)(H:View)
theorem Cheapest_c(A:Option Addr)(nw wc:Nat)(w:Nat→Int)(hA:FreeAt H A nw w)(digits most:Nat)(h0:1≤(nw:Int)∧(nw:Int)≤3)(hw:(firstTo (fun j=> !weightOk (w j)) nw).isSome=false)(hd:1≤((digits:Nat):Int)∧((digits:Nat):Int)≤3)(hm:1≤((most:Nat):Int)∧((most:Nat):Int)≤3)(h12:(canTo most digits).length≤12):
   CallT M 53 #[.slice A nw wc,.int .i64 (digits:Nat),.int .i64 (most:Nat)] H (fun v H'=> H.le H'∧∃a n c',v=cheapV (.slice a n c') (cheap w nw digits most).total (cheap w nw digits most).al∧n=(cheap w nw digits most).best.length∧SrcAt H' 1 (.slice a n c') n (strsV (cheap w nw digits most).best)):=by
 have hc:=fun(H':View) (h':H.le H')=> ContainsI_c M H' A nw wc w (hA.le h') (by omega) (.func (.func 121) #[] #[]) (fun j=> !weightOk (w j)) (fun j _ H'' _=> .f ca121 rfl (weightBad_c M H'' (w j)));have hwok:∀i,i<nw→0≤w i∧w i≤99:=fun i hi=> by
   have h1:firstTo (fun j=> !weightOk (w j)) nw=none:=by
     cases hz:firstTo (fun j=> !weightOk (w j)) nw with
     | none=> rfl
     | some y=> rw[hz] at hw;cases hw
   have h2:=(firstTo_none _).1 h1 i hi;unfold weightOk at h2;simpa using h2
 refine .en Tryz.func53 Tryz.ntmps53 fun St c cs hK=> ?_;refine .sr ?_;refine .e (.bx (zz:=fun b3=> ?_));refine .e (.al (zz:=fun b6=> ?_));refine .e (.al (zz:=fun b7=> ?_));refine .e (.al (zz:=fun b8=> ?_));refine .done (.seq (.block (.sr ?_)));refine .x (.ld 3) ?_;refine .x .ln ?_;refine .c rfl rfl rfl rfl (fun H hs=> .f ca82 rfl (between_is M H (nw:Nat) 1 3 true (decide_eq_true h0))) ?_;refine .x .nt ?_;refine .g ?_;refine .done (.ff rfl (.seq (.sr ?_)));refine .x (.ld 3) ?_;refine .c rfl rfl rfl rfl (fun H hs=> .f ca120 rfl (isB (hc H hs.base) hw)) ?_;refine .g ?_;refine .done (.ff rfl (.sr ?_));refine .m ?_;refine .c rfl rfl rfl rfl (fun H hs=> .f ca82 rfl (between_is M H (digits:Nat) 1 3 true (decide_eq_true hd))) ?_;refine .x .nt ?_;refine .g ?_;refine .done (.ff rfl (.r ?_));refine .m ?_;refine .c rfl rfl rfl rfl (fun H hs=> .f ca82 rfl (between_is M H (most:Nat) 1 3 true (decide_eq_true hm))) ?_;refine .x .nt ?_;refine .g ?_;refine .done (.ff rfl (.skip (.inBlock (.sr ?_))));refine .e (.al (zz:=fun b9=> ?_));refine .done (.seq (.sr ?_));refine .m ?_;refine .m ?_;refine .done (.block ?_);refine Tc.db (Tc.loopB (σ:= { y:View×Nat×Gl 9 1//H.le y.1∧y.2.1≤digits∧y.2.2.l=strsV (canTo most y.2.1)∧y.2.2.n=(canTo most y.2.1).length })
   (fun y=> (y.1.1,[(2,.int .i64 (most:Nat)),(3,.pointer (some ⟨b3,0,none⟩)),(6,.pointer (some ⟨b6,0,none⟩)),(7,.pointer (some ⟨b7,0,none⟩)),(8,.pointer (some ⟨b8,0,none⟩)),(9,.pointer (some ⟨b9,0,none⟩)),(26,.int .i64 (digits:Nat)),(27,.int .i64 (y.1.2.1:Nat))],
     [(b9,true,.cells ⟨[y.1.2.2.val]⟩ 33 (0,0)),(b8,true,.cells ⟨[.int .i64 0]⟩ 29 (0,0)),(b7,true,.cells ⟨[.int .i64 0]⟩ 3 (0,0)),(b6,true,.cells ⟨[.slice none 0 0]⟩ 33 (0,0)),(b3,true,.cells ⟨[.slice A nw wc]⟩ 26 (0,0))]++y.1.2.2.bl)) (fun y=> digits-y.1.2.1) ?_ ⟨(H,0,Gl.nil 9 1),View.le_refl _,Nat.zero_le _,rfl,rfl⟩)
 rintro⟨⟨H₁,i,g⟩,g1,g2,g3,g4⟩ ih;simp only at g1 g2 g3 g4;show Tc M St _ _ H₁ _ [(2,.int .i64 (most:Nat)),(3,.pointer (some ⟨b3,0,none⟩)),(6,.pointer (some ⟨b6,0,none⟩)),(7,.pointer (some ⟨b7,0,none⟩)),(8,.pointer (some ⟨b8,0,none⟩)),(9,.pointer (some ⟨b9,0,none⟩)),(26,.int .i64 (digits:Nat)),(27,.int .i64 (i:Nat))]
     ([(b9,true,.cells ⟨[g.val]⟩ 33 (0,0)),(b8,true,.cells ⟨[.int .i64 0]⟩ 29 (0,0)),(b7,true,.cells ⟨[.int .i64 0]⟩ 3 (0,0)),(b6,true,.cells ⟨[.slice none 0 0]⟩ 33 (0,0)),(b3,true,.cells ⟨[.slice A nw wc]⟩ 26 (0,0))]++g.bl) _ _
 have hcl:=canTo_len (most:=most) (by omega) i (by omega);by_cases c1:i=digits
 · subst c1;refine .sr ?_;refine .j ?_;refine .done (.seq (.ff rfl (.exit rfl (.sr ?_))));refine .x (.ld 0) ?_;refine .e (Or.sortSGl (dec:=decS (canTo most i)) (L1:= [(b9,true,.cells ⟨[g.val]⟩ 33 (0,0)),(b8,true,.cells ⟨[.int .i64 0]⟩ 29 (0,0)),(b7,true,.cells ⟨[.int .i64 0]⟩ 3 (0,0)),(b6,true,.cells ⟨[.slice none 0 0]⟩ 33 (0,0)),(b3,true,.cells ⟨[.slice A nw wc]⟩ 26 (0,0))]) g (codesS (canTo most i)) (g3.trans (strsL_codes _).symm) (codes_enc _) (by omega) rfl rfl rfl rfl rfl (by decide) (fun H Q h=> .f ca91 rfl h) (fun g' m hv' hn' hb' hl' ht hs'=> ?_));rw[←hv'];have hso:=codes_sorted g4 ht hs';have hl2:g'.l=strsV (sortS (canTo most i)):=by rw[hl',strsL_map,hso];rfl
   have hslen:(sortS (canTo most i)).length=(canTo most i).length:=(sortS_perm _).length_eq;clear hl' ht hs' hso hv';refine .done (.sr ?_);refine .e (.st 1 (zz:=?_));refine .done (.sr ?_);refine .e (.al (zz:=fun b11=> ?_));refine .done (.sr ?_);refine .x .mf ?_;refine .e (.st 0 (zz:=?_));refine .done (.sr ?_);refine .x (.ld 0) ?_;refine To.lift (L₂:= []) (L₁:= [(b11,true,.cells ⟨[cheapF b8 b7 b3 b6 b9 b11]⟩ 171 (0,0)),(b9,true,.cells ⟨[g'.val]⟩ 33 (0,0)),(b8,true,.cells ⟨[.int .i64 9]⟩ 29 (0,0)),(b7,true,.cells ⟨[.int .i64 0]⟩ 3 (0,0)),(b6,true,.cells ⟨[.slice none 0 0]⟩ 33 (0,0)),(b3,true,.cells ⟨[.slice A nw wc]⟩ 26 (0,0))]++g'.bl) rfl (fun Hx hx=> ?_);obtain⟨H',h1,h2⟩:=SymSt.unappend (B:= [(b8,true,.cells ⟨[.int .i64 9]⟩ 29 (0,0)),(b7,true,.cells ⟨[.int .i64 0]⟩ 3 (0,0)),(b6,true,.cells ⟨[.slice none 0 0]⟩ 33 (0,0))]) (L:= [(b11,true,.cells ⟨[cheapF b8 b7 b3 b6 b9 b11]⟩ 171 (0,0)),(b9,true,.cells ⟨[g'.val]⟩ 33 (0,0)),(b3,true,.cells ⟨[.slice A nw wc]⟩ 26 (0,0))]++g'.bl) (hx.perm (by
     simp only[List.cons_append,List.nil_append];exact(perm5 _ _ _ _ _ _ _).symm))
   have hcap:ChCap (sortS (canTo most i)) w nw b8 b7 b3 b6 b9 b11 (g'.blk.map fun b=> ⟨b,0,none⟩) A g'.cap wc H':=
     ⟨⟨true,h2.get (i:=0) rfl⟩,⟨true,by have h3:=h2.get (i:=1) rfl;rw[hslen,←g4,←hn'];exact h3⟩,⟨true,h2.get (i:=2) rfl⟩,by
       have h3:=strs_of (g0:=g') g' (H:=H') (fun x hx=> h2.at_ x (List.mem_append_right _ hx)) hl2 rfl rfl;rw[hn',g4,←hslen] at h3;exact h3,(hA.le g1).le h2.base⟩
   refine To.callF rfl rfl rfl rfl rfl rfl (by decide) (FnT.of (first:= []) (captured:= [_,_,_,_,_,_]) ca123 rfl (more2_c M (sortS (canTo most i)) w nw b8 b7 b3 b6 b9 b11 (g'.blk.map fun b=> ⟨b,0,none⟩) A g'.cap wc (by omega) (by rw[hslen];omega) (fun s hs=> mem_canTo ((sortS_perm _).mem_iff.1 hs) (by omega)) hwok nw (Gl.nil 9 1) [] 0 ⟨false,0,[]⟩ none 0 0 H' Hx rfl (Nat.zero_add _) (by decide) hcap rfl ⟨⟨_,_,rfl⟩,rfl,.inl ⟨none,0,rfl,rfl⟩⟩ h1)) (fun v H₃ hv=> ?_);obtain⟨_,H₄,g4',a4,n4,c4,r1,r2,r3,r4,r5⟩:=hv;refine To.expand r2 ?_;unfold stB;refine .done (.seq ?_);refine Tc.dr [] [] mixed rfl ?_;refine .q 0 rfl (.ld 2) ?_;refine .q 1 rfl (.ld 1) ?_;refine .q 2 rfl (.ld 0) ?_;refine Ta.each [3] (by kernel_rfl) rfl ⟨TaOp.mk rfl rfl rfl (.st 2 (zz:=⟨S2.mk (by exact List.Sublist.refl _) (.inr (by exact List.Sublist.refl _)),?_⟩)),trivial⟩;refine Ta.each [4] (by kernel_rfl) rfl ⟨TaOp.mk rfl rfl rfl (.st 1 (zz:=⟨S2.mk (by exact List.Sublist.refl _) (.inr (by exact List.Sublist.refl _)),?_⟩)),trivial⟩;refine Ta.each [5] (by kernel_rfl) rfl ⟨TaOp.mk rfl rfl rfl (.st 0 (zz:=⟨S2.mk (by exact List.Sublist.refl _) (.inr (by exact List.Sublist.refl _)),?_⟩)),trivial⟩;refine Ta.done (by kernel_rfl) ?_;refine Tc.retN (E:=en) hK Tryz.func53 Tryz.results53 (vs:= [_,_,_]) (by refine⟨⟨2,_,_,_,_,_,_,_,rfl,rfl,rfl,rfl⟩,?_⟩;refine⟨⟨1,_,_,_,_,_,_,_,rfl,rfl,rfl,rfl⟩,?_⟩;refine⟨⟨0,_,_,_,_,_,_,_,rfl,rfl,rfl,rfl⟩,?_⟩;exact trivial) ?_;exact fun H' hs=> ⟨View.le_trans g1 (View.le_trans h2.base (View.le_trans r1 hs.base)),a4,n4,c4,rfl,r4,r5.mono hs.base⟩
 · have c2:i<digits:=by omega
   have hal:=allL_len (most:=most) (n:=i+1) (by omega) (by omega);have hlc:([49,50,51,52,53,54,55,56,57]:List UInt8).length=9:=rfl;have hdl:(digs1.take most).length≤1000:=by rw[List.length_take];omega
   refine .sr ?_;refine .j ?_;refine .done (.seq (.tt rfl (.skip (.seq (.block (.sr ?_))))));refine .m ?_;refine .g ?_;refine .done ?_;refine Tc.drT [7] [6] [0] 5 mixed rfl ?_;refine Ta.tkC 0 (by kernel_rfl) rfl rfl (by decide) rfl rfl (OpV.take (.ld 0)) ?_;refine Ta.tkC 1 (by kernel_rfl) rfl rfl (by decide) rfl rfl (OpV.take .mv) ?_;refine Ta.tkC 2 (by kernel_rfl) rfl rfl (by decide) rfl rfl (OpV.take (.it (zz:=add_in (by omega) (by omega)))) ?_;refine Ta.tkC 3 (by kernel_rfl) rfl rfl (by decide) rfl rfl (OpV.take .mv) ?_;refine Ta.tkC 4 (by kernel_rfl) rfl rfl (by decide) rfl rfl (OpV.take (OpV.sliceS (E:=en) rfl rfl rfl rfl rfl rfl (by omega) (by omega) (by omega))) ?_;refine Ta.each [5] (by kernel_rfl) rfl ⟨TaOp.mk rfl rfl rfl (Or.callNew (fun s=> allF s.1.1 s.1.2) (allB2 (i+1) (digs1.take most)) (fun _=> True) rfl rfl rfl rfl rfl (by decide) (allB2_nodup _ _) (fun H hs=> .f ca116 rfl (all_n M H (i+1) (digs1.take most))) (fun s _=> ⟨S3.mk (by apply List.Sublist.cons;exact List.sublist_append_left _ _) (.inr (by exact List.sublist_append_left _ _)),?_⟩)),trivial⟩;refine Ta.lift (L₂:= [(b9,true,.cells ⟨[g.val]⟩ 33 (0,0)),(b8,true,.cells ⟨[.int .i64 0]⟩ 29 (0,0)),(b7,true,.cells ⟨[.int .i64 0]⟩ 3 (0,0)),(b6,true,.cells ⟨[.slice none 0 0]⟩ 33 (0,0)),(b3,true,.cells ⟨[.slice A nw wc]⟩ 26 (0,0))]) (L₁:=g.bl++allB2 (i+1) (digs1.take most) s) rfl (fun Hx hx=> ?_);obtain⟨H',h1,h2⟩:=hx.unappend;refine Ta.callF 6 (by kernel_rfl) rfl (by kernel_rfl) rfl rfl rfl rfl rfl rfl (by decide) (FnT.f ca122 rfl (AppendSeq_c M g (canTo most i) g3 (by omega) (i+1) (digs1.take most) (by omega) (digs1_dig most) hdl (by omega) s.1.1 s.1.2 H' Hx ⟨⟨true,h2.get (i:=0) rfl⟩,⟨true,h2.get (i:=1) rfl⟩⟩ h1)) (fun v H₃ hv=> ?_);obtain⟨g',H₂,rfl,q1,q2,q3,q4⟩:=hv;refine Ta.expand q2 ?_;refine Ta.each [7] (by kernel_rfl) rfl ⟨TaOp.mk rfl rfl rfl (.st 0 (zz:=⟨S3.off (by kernel_rfl),?_⟩)),trivial⟩;refine Ta.done (by kernel_rfl) ?_;refine .inBlock (.r ?_);refine .j ?_;refine .m ?_;refine .done ?_;exact Tc.db (ih ⟨(H₂,i+1,g'),View.le_trans g1 (View.le_trans h2.base q1),by simp only;omega,by simp only;rw[canTo_succ];exact q3,by simp only;rw[canTo_succ,List.length_append,q4,g4]⟩ (by simp only;omega))
end
end Go.Proofs.YtdnfdeplcjaonaaGreatDoor
namespace Go.Proofs.YtdnfdeplcjaonaaGreatDoor
open Go.RL
set_option maxRecDepth 10000
theorem ddTo_mem {l:List Int}{x:Int}:∀k,k≤l.length→(x∈ddTo l k↔∃i,i<k∧at0 l i=x)
 | 0,_=> by simp[ddTo]
 | k + 1,hk=> by
   have ih:=ddTo_mem (l:=l) (x:=x) k (by omega);unfold ddTo;split
   · rename_i h
     rw[ih];constructor
     · rintro⟨i,h1,h2⟩;exact⟨i,by omega,h2⟩
     · rintro⟨i,h1,h2⟩;by_cases e:i=k
       · subst e;exact⟨i-1,by omega,by rw[←h.2];exact h2⟩
       · exact⟨i,by omega,h2⟩
   · rw[List.mem_append,ih,List.mem_singleton];constructor
     · rintro(⟨i,h1,h2⟩|rfl)
       · exact⟨i,by omega,h2⟩
       · exact⟨k,by omega,rfl⟩
     · rintro⟨i,h1,h2⟩;by_cases e:i=k
       · subst e;exact .inr h2.symm
       · exact .inl ⟨i,by omega,h2⟩
theorem ddTo_asc {l:List Int}{n:Nat}(hs:Srt 0 n l)(hn:n≤l.length):∀k,k≤n→(ddTo l k).Pairwise (· < ·)
 | 0,_=> List.Pairwise.nil
 | k + 1,hk=> by
   have ih:=ddTo_asc hs hn k (by omega);unfold ddTo;split
   · exact ih
   · rename_i h
     rw[List.pairwise_append];refine⟨ih,List.pairwise_singleton _ _,fun a ha b hb=> ?_⟩;have hb':b=at0 l k:=by simpa using hb
     subst hb';obtain⟨i,h1,rfl⟩:=(ddTo_mem k (by omega)).1 ha;have h2:=hs i (k-1) (Nat.zero_le _);have h3:=hs (k-1) k (Nat.zero_le _) (by omega) (by omega);have h4:at0 l k≠at0 l (k-1):=fun e=> h ⟨by omega,e⟩;by_cases e:i=k-1
     · subst e;omega
     · have:=h2 (by omega) (by omega);omega
theorem Srt.at_mem {l:List Int}{x:Int}:x∈l↔∃i,i<l.length∧at0 l i=x:=by
 rw[List.mem_iff_getElem];constructor
 · rintro⟨i,h,rfl⟩;exact⟨i,h,by unfold at0;rw[List.getElem?_eq_getElem h];rfl⟩
 · rintro⟨i,h,e⟩;refine⟨i,h,?_⟩;unfold at0 at e;rw[List.getElem?_eq_getElem h] at e;exact e
theorem asc_uniq {l m:List Int}(hl:l.Pairwise (· < ·))(hm:m.Pairwise (· < ·))(h:∀x,x∈l↔x∈m):l=m:=by
 have hp:l.Perm m:=(List.perm_ext_iff_of_nodup (List.nodup_iff_pairwise_ne.2 (hl.imp (fun h=> Int.ne_of_lt h))) (List.nodup_iff_pairwise_ne.2 (hm.imp (fun h=> Int.ne_of_lt h)))).2 h;exact List.Perm.eq_of_pairwise (le:=(· ≤·)) (fun a b _ _ h1 h2=> Int.le_antisymm h1 h2) (hl.imp (fun h=> Int.le_of_lt h)) (hm.imp (fun h=> Int.le_of_lt h)) hp
def AscS(l:List (List UInt8)):Prop:=l.Pairwise fun a b=> Op.bytesLess a b=true
theorem ascS_uniq {l m:List (List UInt8)}(hl:AscS l)(hm:AscS m)(h:∀x,x∈l↔x∈m):l=m:=by
 have ne:∀ {a b:List UInt8},Op.bytesLess a b=true→a≠b:=fun h e=> by rw[e,less_irr] at h;cases h
 have hp:l.Perm m:=(List.perm_ext_iff_of_nodup (List.nodup_iff_pairwise_ne.2 (hl.imp ne)) (List.nodup_iff_pairwise_ne.2 (hm.imp ne))).2 h;have le:∀ {a b:List UInt8},Op.bytesLess a b=true→leS a b=true:=fun h=> by unfold leS;rw[less_asym h];rfl
 exact sorted_uniq hp (hl.imp le) (hm.imp le)
def putS(x:List UInt8):List (List UInt8)→List (List UInt8)
 | []=> [x]
 | y::t=> if Op.bytesLess x y then x::y::t else if x=y then y::t else y::putS x t
def ascOf:List (List UInt8)→List (List UInt8)
 | []=> []
 | x::t=> putS x (ascOf t)
theorem mem_putS {x z:List UInt8}:∀l,z∈putS x l↔z=x∨z∈l
 | []=> by simp[putS]
 | y ::t=> by
   unfold putS;split
   · simp
   · split
     · rename_i e
       subst e;simp
     · rw[List.mem_cons,mem_putS t,List.mem_cons];constructor
       · rintro(h|h|h)
         · exact .inr (.inl h)
         · exact .inl h
         · exact .inr (.inr h)
       · rintro(h|h|h)
         · exact .inr (.inl h)
         · exact .inl h
         · exact .inr (.inr h)
theorem putS_asc(x:List UInt8):∀l,AscS l→AscS (putS x l)
 | [],_=> List.pairwise_singleton _ _
 | y ::t,h=> by
   obtain⟨h1,h2⟩:=List.pairwise_cons.1 h;unfold putS;split
   · rename_i hx
     refine List.pairwise_cons.2 ⟨fun z hz=> ?_,h⟩;rcases List.mem_cons.1 hz with rfl|hz
     · exact hx
     · exact less_trans hx (h1 z hz)
   · rename_i hx
     split
     · exact h
     · rename_i hne
       refine List.pairwise_cons.2 ⟨fun z hz=> ?_,putS_asc x t h2⟩;rcases(mem_putS t).1 hz with rfl|hz
       · cases e:Op.bytesLess y z with
         | true=> rfl
         | false=> exact(hne (less_tri (by simpa using hx) e)).elim
       · exact h1 z hz
theorem mem_ascOf {z:List UInt8}:∀l,z∈ascOf l↔z∈l
 | []=> Iff.rfl
 | x::t=> by
   unfold ascOf;rw[mem_putS,mem_ascOf t,List.mem_cons]
theorem ascOf_asc:∀l,AscS (ascOf l)
 | []=> List.Pairwise.nil
 | x::t=> putS_asc x _ (ascOf_asc t)
theorem codes_asc {S:List (List UInt8)}{m:List Int}{n:Nat}(hn:n=S.length)(ht:Turned 0 n (codesS S) m)(hs:Srt 0 n m):(ddTo m n).map (decS S)=ascOf S:=by
 have hml:m.length=n:=by rw[ht.len,hn];simp[codesS]
 have hmem:∀x∈ddTo m n,x∈codesS S:=fun x hx=> by
   obtain⟨i,h1,rfl⟩:=(ddTo_mem n (by omega)).1 hx;exact(ht.mem _).1 (at0_mem (by omega))
 refine ascS_uniq ?_ (ascOf_asc S) (fun z=> ?_)
 · unfold AscS;rw[List.pairwise_map];have h1:=ddTo_asc hs (by omega) n (Nat.le_refl _);refine List.Pairwise.imp_of_mem (fun {a b} ha hb h3=> ?_) h1;rw[codes_enc S a (hmem a ha) b (hmem b hb)];exact decide_eq_true h3
 · rw[mem_ascOf,List.mem_map];constructor
   · rintro⟨x,hx,rfl⟩;obtain⟨s,h1,h2⟩:=List.mem_map.1 (hmem x hx);rw[←h2,dec_rank h1];exact h1
   · intro hz;refine⟨((rankS S z:Nat):Int),?_,dec_rank hz⟩;have h1:((rankS S z:Nat):Int)∈m:=(ht.mem _).2 (List.mem_map.2 ⟨z,hz,rfl⟩);obtain⟨i,h2,h3⟩:=Srt.at_mem.1 h1;exact(ddTo_mem n (by omega)).2 ⟨i,by omega,h3⟩
theorem ascOf_congr {l m:List (List UInt8)}(h:∀x,x∈l↔x∈m):ascOf l=ascOf m:=
 ascS_uniq (ascOf_asc l) (ascOf_asc m) fun x=> by rw[mem_ascOf,mem_ascOf,h]
def putI(x:Int):List Int→List Int
 | []=> [x]
 | y::t=> if x<y then x::y::t else if x=y then y::t else y::putI x t
def ascI:List Int→List Int
 | []=> []
 | x::t=> putI x (ascI t)
theorem mem_putI {x z:Int}:∀l,z∈putI x l↔z=x∨z∈l
 | []=> by simp[putI]
 | y ::t=> by
   unfold putI;split
   · simp
   · split
     · rename_i e
       subst e;simp
     · rw[List.mem_cons,mem_putI t,List.mem_cons];constructor
       · rintro(h|h|h)
         · exact .inr (.inl h)
         · exact .inl h
         · exact .inr (.inr h)
       · rintro(h|h|h)
         · exact .inr (.inl h)
         · exact .inl h
         · exact .inr (.inr h)
theorem putI_asc(x:Int):∀l:List Int,l.Pairwise (· < ·)→(putI x l).Pairwise (· < ·)
 | [],_=> List.pairwise_singleton _ _
 | y ::t,h=> by
   obtain⟨h1,h2⟩:=List.pairwise_cons.1 h;unfold putI;split
   · rename_i hx
     refine List.pairwise_cons.2 ⟨fun z hz=> ?_,h⟩;rcases List.mem_cons.1 hz with rfl|hz
     · exact hx
     · have:=h1 z hz;omega
   · rename_i hx
     split
     · exact h
     · rename_i hne
       refine List.pairwise_cons.2 ⟨fun z hz=> ?_,putI_asc x t h2⟩;rcases(mem_putI t).1 hz with rfl|hz
       · omega
       · exact h1 z hz
theorem mem_ascI {z:Int}:∀l,z∈ascI l↔z∈l
 | []=> Iff.rfl
 | x::t=> by
   unfold ascI;rw[mem_putI,mem_ascI t,List.mem_cons]
theorem ascI_asc:∀l,(ascI l).Pairwise (· < ·)
 | []=> List.Pairwise.nil
 | x::t=> putI_asc x _ (ascI_asc t)
theorem ints_asc {S m:List Int}{n:Nat}(hn:n=S.length)(ht:Turned 0 n S m)(hs:Srt 0 n m):ddTo m n=ascI S:=by
 have hml:m.length=n:=by rw[ht.len,hn]
 refine asc_uniq (ddTo_asc hs (by omega) n (Nat.le_refl _)) (ascI_asc S) (fun z=> ?_);rw[mem_ascI,ddTo_mem n (by omega),←ht.mem z,Srt.at_mem,hml]
set_option maxHeartbeats 16000000
def Bk.heardL(k:Bk):List (List UInt8):=ascOf ((k.earsL k.nt).map (·.heard))
def wordsV(g:Gl 9 1)(a:Int):Value:=.tuple ⟨[g.val,.int .i64 a]⟩
theorem nodup_le {α:Type}:∀ {l m:List α},l.Nodup→(∀x∈l,x∈m)→l.length≤m.length
 | [],_,_,_=> Nat.zero_le _
 | x ::t,m,hn,hs=> by
   obtain⟨h1,h2⟩:=List.nodup_cons.1 hn;obtain⟨a,b,rfl⟩:=List.append_of_mem (hs x (List.mem_cons_self ..));have:=nodup_le (l:=t) (m:=a++b) h2 (fun y hy=> by
     have:=hs y (List.mem_cons_of_mem _ hy);rcases List.mem_append.1 this with h|h
     · exact List.mem_append_left _ h
     · rcases List.mem_cons.1 h with rfl|h
       · exact(h1 hy).elim
       · exact List.mem_append_right _ h)
   simp only[List.length_append,List.length_cons] at this ⊢;omega
theorem ears_size {k:Bk}{es:Array MapEntry}{cl n:Nat}(h:MapOk es cl (earF (k.earsS n))):es.size≤(k.earsL n).length:=by
 have hsub:∀x∈es.toList.map (·.key),x∈(k.earsL n).map Ear.val:=by
   intro x hx;obtain⟨e,he,rfl⟩:=List.mem_map.1 hx;obtain⟨y,h1,h2,_⟩:=earF_keys h e he;exact List.mem_map.2 ⟨y,(k.mem_earsL n y).2 h1,h2.symm⟩
 have:=nodup_le h.keys hsub;simpa using this
section
variable(M:Md Tryz.prog)(H:View)
theorem Heard_c(k:Bk)(A:Option Addr)(lc:Nat)(B:Option Addr)(tc:Nat)(hk:BkAt H k A lc B tc)(hn:k.small)(hG:Glob H)(ha:k.alarm=0)(h12:(k.earsL k.nt).length≤12):
   CallT M 23 #[k.val A lc B tc] H (fun v H'=> H.le H'∧∃g:Gl 9 1,v=wordsV g 0∧(g.n=k.heardL.length∧g.l=strsV k.heardL)∧∀x∈g.bl,H' x.1=some x.2∧H x.1=none):=by
 obtain⟨_,hnl,hnt,hok⟩:=Bk.valid ha;have hop:=fun(H':View) (h':H.le H')=> open_yes M H' k A lc B tc (hk.le h') hn (glob_le hG h') ha;refine .en Tryz.func23 Tryz.ntmps23 fun St c cs hK=> ?_;refine .sr ?_;refine .e (.bx (zz:=fun b1=> ?_));refine .g ?_;refine .g ?_;refine .done (.sr ?_);refine .x (.ld 0) ?_;refine .c rfl rfl rfl rfl (fun H hs=> .f ca81 rfl (hop H hs.base)) ?_;refine .m ?_;refine .x .et ?_;refine .x .et ?_;refine .e (.al (zz:=fun b4=> ?_));refine .e (.st 0 (zz:=?_));refine .g ?_;refine .done (.seq (.sr ?_));refine .m ?_;refine .j ?_;refine .done (.ff rfl (.skip (.sr ?_)));refine .g ?_;refine .done (.seq (.sr ?_));refine .x (.ld 0) ?_;refine .x .fa ?_;refine .x (.ld 1) ?_;refine .x .ln ?_;refine To.callF rfl rfl rfl rfl rfl rfl (by decide) (FnT.f ca90 rfl (ears_c M H k A lc B tc hk.trains hok hnt k.nt (Nat.le_refl _))) (fun v H₂ hv=> ?_);obtain⟨hle,m,es,cl,rfl,⟨fm,q3⟩,q4⟩:=hv;have hsz:=ears_size q4;refine .e (Or.range (E:=en) (es:=es) (cl:=cl) rfl rfl (fun H hs=> ⟨fm,hs.base _ _ q3⟩) rfl rfl rfl (by decide) (fun it=> ?_));refine .done (.block ?_);refine Tc.db (Tc.loopInv (σ:= { s:Array Nat×List (List UInt8)×Gl 9 1//s.2.2.l=strsV s.2.1∧(unseen es s.1).length+s.2.1.length=es.size∧∀x,x∈(k.earsL k.nt).map (·.heard)↔(x∈s.2.1∨∃me∈unseen es s.1,∃e:Ear,me.key=e.val∧x=e.heard) })
   (fun s=> ([(1,.pointer (some ⟨b1,0,none⟩)),(4,.pointer (some ⟨b4,0,none⟩)),(6,s.1.2.2.val),(21,.pointer (some ⟨it,0,none⟩))],[(it,true,.mapIter (some m) cl s.1.1 cl),(b4,true,.cells ⟨(k.val A lc B tc).cells.toList⟩ 113 (0,0)),(b1,true,.cells ⟨(k.val A lc B tc).cells.toList⟩ 25 (0,0))]++s.1.2.2.bl)) (fun s=> (unseen es s.1.1).length) ?_ ⟨(#[],[],Gl.nil 9 1),rfl,by rw[unseen_start];simp,fun x=> by
     rw[unseen_start,List.mem_map];constructor
     · rintro⟨e,he,rfl⟩;obtain⟨me,h1,h2,_⟩:=(q4.mem e.val (.bool true)).1 ⟨e,(k.mem_earsL _ e).1 he,rfl,rfl⟩;exact .inr ⟨me,h1,e,h2,rfl⟩
     · rintro(h|⟨me,h1,e,h2,rfl⟩)
       · cases h
       · obtain⟨y,h3,h4,_⟩:=earF_keys q4 me h1;rw[ear_inj (h2.symm.trans h4)];exact⟨y,(k.mem_earsL _ y).2 h3,rfl⟩⟩)
 rintro⟨⟨seen,dn,g⟩,p2,p3,p4⟩ ih;simp only at p2 p3 p4;show Tc M St _ _ H₂ _ [(1,.pointer (some ⟨b1,0,none⟩)),(4,.pointer (some ⟨b4,0,none⟩)),(6,g.val),(21,.pointer (some ⟨it,0,none⟩))] ([(it,true,.mapIter (some m) cl seen cl),(b4,true,.cells ⟨(k.val A lc B tc).cells.toList⟩ 113 (0,0)),(b1,true,.cells ⟨(k.val A lc B tc).cells.toList⟩ 25 (0,0))]++g.bl) _ _;have hgn:g.n=dn.length:=by have:=g.hl;rw[p2,strsV_len] at this;omega
 refine .sr ?_;refine .e (Or.next (es:=es) 0 rfl rfl rfl (fun H hs=> ⟨fm,hs.base _ _ q3⟩) q4.lt rfl (by decide) (fun me he hse=> ?_) (fun hall=> ?_))
 · have hp :=unseen_next q4.borns he hse;obtain⟨e0,u1,u2,_⟩:=earF_keys q4 me he;have hfind:=earF_find q4 he;have hpl:=hp.length_eq;rw[List.length_cons] at hpl;refine .x .et ?_;refine .done (.seq (.tt rfl (.skip (.block (.sr ?_)))));refine .e (Or.entry (es:=es) (e:=me) (st:=me.born) rfl rfl (fun H hs=> ⟨true,hs.get (i:=0) rfl⟩) (fun H hs=> ⟨fm,hs.base _ _ q3⟩) (by simp) hfind rfl (by decide) ?_);rw[u2];refine .x .et ?_;refine .e (.al (zz:=fun b7=> ?_));refine .e (.st 0 (zz:=?_));refine .done (.r ?_);refine .m ?_;refine .x .fa ?_;refine .x (.ld 0) ?_;refine .e (.bs (zz:=fun bs=> ?_));refine .e (Or.append (E:=en) 5 rfl rfl rfl rfl rfl rfl rfl rfl rfl rfl rfl rfl rfl rfl rfl (fun H hs=> SrcAt.of (hs.get (i:=0) rfl) (Nat.le_of_ble_eq_true rfl)) rfl (by omega) rfl (by decide) (fun g' hn2 hl2=> ?_));refine .g ?_;refine .done (.inBlock ?_);exact Tc.db (ih ⟨(seen.push me.born,dn++[e0.heard],g'),by simp only;rw[hl2,p2,strsV_app];rfl,by simp only;rw[List.length_append,List.length_singleton];omega,fun x=> by
     rw[p4 x,List.mem_append,List.mem_singleton];constructor
     · rintro(h|⟨me',h1,e',h2,h5⟩)
       · exact .inl (.inl h)
       · rcases List.mem_cons.1 (hp.mem_iff.1 h1) with rfl|h6
         · rw[ear_inj (h2.symm.trans u2)] at h5;exact .inl (.inr h5)
         · exact .inr ⟨me',h6,e',h2,h5⟩
     · rintro((h|h)|⟨me',h6,h7⟩)
       · exact .inl h
       · exact .inr ⟨me,hp.mem_iff.2 (List.mem_cons_self ..),e0,u2,h⟩
       · exact .inr ⟨me',hp.mem_iff.2 (List.mem_cons_of_mem _ h6),h7⟩⟩ (by simp only;omega))
 · have hnil:=unseen_done hall;rw[hnil] at p3 p4;simp only[List.not_mem_nil,false_and,exists_false,or_false] at p4;rw[List.length_nil,Nat.zero_add] at p3;have hheard:k.heardL=ascOf dn:=ascOf_congr p4;refine .x .et ?_;refine .done (.seq (.ff rfl (.exit rfl (.sr ?_))));refine .m ?_;refine .e (Or.sortSGl (dec:=decS dn) (L1:= [(it,true,.mapIter (some m) cl seen cl),(b4,true,.cells ⟨(k.val A lc B tc).cells.toList⟩ 113 (0,0)),(b1,true,.cells ⟨(k.val A lc B tc).cells.toList⟩ 25 (0,0))]) g (codesS dn) (p2.trans (strsL_codes _).symm) (codes_enc _) (by omega) rfl rfl rfl rfl rfl (by decide) (fun H Q h=> .f ca91 rfl h) (fun g' mm hv' hn' hb' hl' ht hs'=> ?_));rw[←hv'];rw[hgn] at ht hs' hn';have hfin:(ddTo mm dn.length).map (decS dn)=k.heardL:=by rw[hheard];exact codes_asc rfl ht hs'
   have hE':=(codes_enc dn).turned ht;refine .done (.sr ?_);refine .m ?_;refine .e (Or.compSGl (dec:=decS dn) (L1:= [(it,true,.mapIter (some m) cl seen cl),(b4,true,.cells ⟨(k.val A lc B tc).cells.toList⟩ 113 (0,0)),(b1,true,.cells ⟨(k.val A lc B tc).cells.toList⟩ 25 (0,0))]) g' mm hl' hE' (by omega) rfl rfl rfl rfl rfl (by decide) (fun H Q h=> .f ca92 rfl h) (fun g2 hn3 hl3=> ?_));rw[hn'] at hn3 hl3;have hl4:g2.l=strsV k.heardL:=by rw[hl3,strsL_map,hfin];rfl
   have hn4:g2.n=k.heardL.length:=by rw[hn3,←hfin,List.length_map]
   refine .g ?_;refine .g ?_;refine .done ?_;refine .rt hK Tryz.func23 Tryz.results23 [_,_] ?_;exact fun H' hs=> ⟨View.le_trans hle hs.base,g2,rfl,⟨hn4,hl4⟩,fun x hx=> ⟨hs.at_ x (by simp[hx]),none_le hle (hs.out x (by simp[hx]))⟩⟩
end
set_option maxHeartbeats 8000000
section
variable(M:Md Tryz.prog)(H:View)
end
set_option maxHeartbeats 1000000
theorem firstTo_true {p:Nat→Bool}:∀n {i:Nat},firstTo p n=some i→p i=true
 | 0,_,h=> by cases h
 | n + 1,i,h=> by
   rw[firstTo] at h;cases e:firstTo p n with
   | some j=>
     rw[e] at h;have:=firstTo_true n e;cases h
     exact this
   | none=>
     rw[e] at h;by_cases hp:p n=true
     · rw[if_pos hp] at h;cases h
       exact hp
     · rw[if_neg hp] at h;cases h
theorem firstTo_only {p:Nat→Bool}{n w:Nat}(hw:w<n)(h:p w=true)(h2:∀i,i<n→p i=true→i=w):firstTo p n=some w:=by
 cases e:firstTo p n with
 | none=> have:=(firstTo_none n).1 e w hw;rw[h] at this;cases this
 | some j=> rw[h2 j (firstTo_in n e) (firstTo_true n e)]
theorem begins_iff {s p:List UInt8}:begins s p=true↔p <+:s:=by
 unfold begins;rw[Bool.and_eq_true,decide_eq_true_eq,beq_iff_eq,List.prefix_iff_eq_take];constructor
 · exact fun h=> h.2.symm
 · intro h;refine⟨?_,h.symm⟩;have:=congrArg List.length h;rw[List.length_take] at this;omega
theorem Bk.apart {k:Bk}(ha:k.alarm=0){i j:Nat}(hi:i<k.nl)(hj:j<k.nl)(h:k.num i <+:k.num j):i=j:=by
 have hc:∀a b,a<k.nl→b<a→¬k.num a <+:k.num b∧¬k.num b <+:k.num a:=by
   intro a b hak hba;obtain⟨_,_,_,h4,_⟩:=Bk.line_ok ha hak;unfold Bk.clash at h4;have h5:firstTo (fun i=> clash1 (k.num i) (k.num a)) a=none:=by
     cases e:firstTo (fun i=> clash1 (k.num i) (k.num a)) a with
     | none=> rfl
     | some x=> exact absurd h4 (by show ¬(firstTo (fun i=> clash1 (k.num i) (k.num a)) a).isSome=false;rw[e];exact fun h=> nomatch h)
   have h6:=(firstTo_none a).1 h5 b hba;unfold clash1 at h6;rw[Bool.or_eq_false_iff] at h6;refine⟨fun h=> ?_,fun h=> ?_⟩
   · rw[begins_iff.2 h] at h6;cases h6.1
   · rw[begins_iff.2 h] at h6;cases h6.2
 rcases Nat.lt_trichotomy i j with h1|h1|h1
 · exact((hc j i hj h1).2 h).elim
 · exact h1
 · exact((hc i j hi h1).1 h).elim
theorem Bk.line_is {k:Bk}(ha:k.alarm=0){w:Nat}(hw:w<k.nl){s:List UInt8}(h:k.num w <+:s):k.line s=some w:=by
 unfold Bk.line;refine firstTo_only hw (begins_iff.2 h) fun i hi h2=> ?_;rcases List.prefix_or_prefix_of_prefix h (begins_iff.1 h2) with h3|h3
 · exact(Bk.apart ha hw hi h3).symm
 · exact Bk.apart ha hi hw h3
theorem Bk.line_no {k:Bk}{s:List UInt8}(h:∀i,i<k.nl→¬k.num i <+:s):k.line s=none:=by
 unfold Bk.line;refine(firstTo_none _).2 fun i hi=> ?_;cases e:begins s (k.num i) with
 | false=> rfl
 | true=> exact(h i hi (begins_iff.1 e)).elim
theorem Bk.line_at {k:Bk}{s:List UInt8}{w:Nat}(h:k.line s=some w):w<k.nl∧k.num w <+:s:=⟨firstTo_in _ h,begins_iff.1 (firstTo_true _ h)⟩
theorem earsS_sub {k d:Bk}(h:∀i,∀x∈k.can i,x∈d.can i):∀n e,k.earsS n e→d.earsS n e
 | 0,_,he=> he
 | n+1,_,⟨e0,h0,x,hx,he⟩=> ⟨e0,earsS_sub h n e0 h0,x,h n x hx,he⟩
theorem kind_cases(k:Bk)(p:Int):(p<k.gap∧k.kind p=0)∨(k.gap≤p∧p<k.give∧k.kind p=1)∨(k.gap≤p∧k.give≤p∧k.kind p=2):=by
 unfold Bk.kind;by_cases h1:p<k.gap
 · exact .inl ⟨h1,if_pos h1⟩
 · by_cases h2:p<k.give
   · exact .inr (.inl ⟨by omega,h2,by rw[if_neg h1,if_pos h2]⟩)
   · exact .inr (.inr ⟨by omega,by omega,by rw[if_neg h1,if_neg h2]⟩)
theorem res_pos {k:Bk}(hok:k.trainsOk):1≤k.resL.length:=by
 obtain⟨e,he⟩:=k.ears_some hok k.nt (Nat.le_refl _);have h:firstI (k.line e.heard)∈k.resL:=(k.mem_resL _).2 ⟨e,he,rfl⟩;exact List.length_pos_of_mem h
theorem Ear.heard_on(e:Ear)(p kd:Nat):e.heard <+:(e.hear p kd).heard:=by
 unfold Ear.hear;split
 · exact List.prefix_refl _
 · split
   · exact List.prefix_refl _
   · split
     · exact List.prefix_refl _
     · exact List.prefix_append _ _
theorem Ear.deaf_on {e:Ear}(h:e.deaf=true)(p kd:Nat):e.hear p kd=e:=if_pos h
theorem fate_line {k:Bk}{e:Ear}{over:Bool}{i:Nat}(h:k.line e.heard=some i):k.fate e over=(i:Nat):=by unfold Bk.fate;rw[h]
theorem fate_none {k:Bk}{e:Ear}{over:Bool}(h:k.line e.heard=none)(h2:((e.deaf||over)||(firstTo (fun i=> begins (k.num i) e.heard) k.nl).isNone)=true):k.fate e over= -1:=by
 unfold Bk.fate;rw[h];exact if_pos h2
theorem fate_on {k:Bk}(ha:k.alarm=0){e:Ear}{f:Int}(hf:f≠ -2)(h:k.fate e false=f)(p kd:Nat)(over:Bool):k.fate (e.hear p kd) over=f:=by
 have hp:=e.heard_on p kd;cases hl:k.line e.heard with
 | some i=>
   rw[fate_line hl] at h;obtain⟨h1,h2⟩:=Bk.line_at hl;rw[fate_line (Bk.line_is ha h1 (h2.trans hp)),h]
 | none=>
   have hno:=(firstTo_none _).1 hl;unfold Bk.fate at h;rw[hl] at h;simp only at h;by_cases c:((e.deaf||false)||(firstTo (fun i=> begins (k.num i) e.heard) k.nl).isNone)=true
   · rw[if_pos c] at h;subst h;by_cases hd:e.deaf=true
     · rw[Ear.deaf_on hd];exact fate_none hl (by rw[hd];rfl)
     · have hd':e.deaf=false:=by simpa using hd
       rw[hd'] at c;have hn:firstTo (fun i=> begins (k.num i) e.heard) k.nl=none:=by simpa using c
       have hn2:=(firstTo_none _).1 hn;have q1:k.line (e.hear p kd).heard=none:=Bk.line_no fun i hi h3=> by
         rcases List.prefix_or_prefix_of_prefix h3 hp with h4|h4
         · have:=hno i hi;rw[begins_iff.2 h4] at this;cases this
         · have:=hn2 i hi;rw[begins_iff.2 h4] at this;cases this
       have q2:firstTo (fun i=> begins (k.num i) (e.hear p kd).heard) k.nl=none:=(firstTo_none _).2 fun i hi=> by
         cases q:begins (k.num i) (e.hear p kd).heard with
         | false=> rfl
         | true=>
           have:=hn2 i hi;rw[begins_iff.2 (hp.trans (begins_iff.1 q))] at this;cases this
       exact fate_none q1 (by rw[q2];simp)
   · rw[if_neg c] at h;exact(hf h.symm).elim
theorem all_on {k:Bk}(ha:k.alarm=0){n:Nat}{f:Int}(hf:f≠ -2)(h:∀e,k.earsS n e→k.fate e (decide (n=k.nt))=f):∀m,n≤m→m≤k.nt→∀e,k.earsS m e→k.fate e (decide (m=k.nt))=f
 | 0,h1,_,e,he=> by
   have:n=0:=by omega
   subst this;exact h e he
 | m + 1,h1,h2,e,he=> by
   by_cases c:n=m+1
   · subst c;exact h e he
   · obtain⟨e0,h3,x,_,rfl⟩:=he;have h4:=all_on ha hf h m (by omega) (by omega) e0 h3;rw[decide_eq_false (by omega)] at h4;exact fate_on ha hf h4 _ _ _
theorem settledTo_some {k:Bk}:∀ {j n:Nat} {f:Int},k.settledTo j=some (n,f)→n<j∧k.fateAt n=some f∧∀i,i<n→k.fateAt i=none
 | 0,_,_,h=> by cases h
 | j + 1, n, f,h=> by
   rw[Bk.settledTo] at h;cases e:k.settledTo j with
   | some x=>
     rw[e] at h;cases h
     have:=settledTo_some e;exact⟨by omega,this.2⟩
   | none=>
     rw[e] at h;cases q:k.fateAt j with
     | none=> rw[q] at h;cases h
     | some z=>
       rw[q] at h;cases h
       refine⟨by omega,q,fun i hi=> ?_⟩;have hno:∀m,k.settledTo m=none→∀i,i<m→k.fateAt i=none:=by
         intro m;induction m with
         | zero=> intro _ i hi;omega
         | succ m ih=>
           intro hm i hi;rw[Bk.settledTo] at hm;cases e1:k.settledTo m with
           | some x=> rw[e1] at hm;cases hm
           | none=>
             rw[e1] at hm;by_cases c:i=m
             · subst c;cases e2:k.fateAt i with
               | none=> rfl
               | some y=> rw[e2] at hm;cases hm
             · exact ih e1 i (by omega)
       exact hno j e i hi
theorem settledTo_le {k:Bk}{n:Nat}{f:Int}(h:k.fateAt n=some f):∀ {j:Nat},n<j→∃n' f',k.settledTo j=some (n',f')∧n'≤n
 | 0,hn=> by omega
 | j + 1,hn=> by
   rw[Bk.settledTo];by_cases c:n=j
   · subst c;cases e:k.settledTo n with
     | some x=> exact⟨x.1,x.2,rfl,by have:=(settledTo_some (n:=x.1) (f:=x.2) e).1;omega⟩
     | none=> rw[h];exact⟨n,f,rfl,Nat.le_refl _⟩
   · obtain⟨n',f',h1,h2⟩:=settledTo_le h (j:=j) (by omega);rw[h1];exact⟨n',f',rfl,h2⟩
section
variable {k:Bk}{t:Nat}{x:Quad}
theorem now_can(i:Nat):∀y∈(k.nowQ t x).can i,y∈k.can i:=fun y hy=> by
 unfold Bk.nowQ Bk.now Bk.with Bk.can at hy
 unfold Bk.can;by_cases c:i=t
 · subst c;simp only[if_true] at hy;rw[mem_canL] at hy ⊢;have a1:k.pf i≤imax (k.pf i) x.1:=by unfold imax;split <;> omega
   have a2:imin (k.pt i) x.2.1≤k.pt i:=by unfold imin;split <;> omega
   have a3:k.qf i≤imax (k.qf i) x.2.2.1:=by unfold imax;split <;> omega
   have a4:imin (k.qt i) x.2.2.2≤k.qt i:=by unfold imin;split <;> omega
   have b1:k.kind (k.qf i)≤k.kind (imax (k.qf i) x.2.2.1):=by
     have c1:=kind_cases k (k.qf i);have c2:=kind_cases k (imax (k.qf i) x.2.2.1);omega
   have b2:k.kind (imin (k.qt i) x.2.2.2)≤k.kind (k.qt i):=by
     have c1:=kind_cases k (k.qt i);have c2:=kind_cases k (imin (k.qt i) x.2.2.2);omega
   have e1:∀z,Bk.kind { k with pf:=fun j=> if j=i then imax (k.pf i) x.1 else k.pf j,pt:=fun j=> if j=i then imin (k.pt i) x.2.1 else k.pt j,qf:=fun j=> if j=i then imax (k.qf i) x.2.2.1 else k.qf j,qt:=fun j=> if j=i then imin (k.qt i) x.2.2.2 else k.qt j } z=k.kind z:=fun z=> rfl;rw[e1,e1] at hy;omega
 · simp only[if_neg c] at hy;exact hy
theorem now_ears {n:Nat}{e:Ear}(h:(k.nowQ t x).earsS n e):k.earsS n e:=earsS_sub now_can n e h
theorem now_res {z:Int}(h:z∈(k.nowQ t x).resL):z∈k.resL:=by
 rw[Bk.mem_resL] at h ⊢;obtain⟨e,he,rfl⟩:=h;exact⟨e,now_ears he,rfl⟩
end
theorem claim_keep {k o:Bk}(hs:∀z,z∈o.resL→z∈k.resL)(hp:1≤o.resL.length){z:Int}(h:k.claimOf z≠0):o.claimOf z=k.claimOf z:=by
 unfold Bk.claimOf at h ⊢;by_cases c:z∈k.resL
 · rw[if_pos c] at h ⊢;by_cases c2:k.resL.length=1
   · rw[if_pos c2] at h ⊢;obtain⟨w,hw⟩:=List.length_eq_one_iff.1 c2;have hz:z=w:=by rw[hw] at c;simpa using c
     subst hz;have hle:=nodup_le (l:=o.resL) (m:=k.resL) (distinct_nodup _) hs;have hl:o.resL.length=1:=by omega
     obtain⟨v,hv⟩:=List.length_eq_one_iff.1 hl;have h3:=hs v (by rw[hv];simp);rw[hw] at h3;have h4:v=z:=by simpa using h3
     subst h4;rw[if_pos (by rw[hv];simp),if_pos hl]
   · rw[if_neg c2] at h;exact(h rfl).elim
 · rw[if_neg c,if_neg fun h2=> c (hs z h2)]
theorem now_settled {k:Bk}(ha:k.alarm=0){t:Nat}{x:Quad}(hx:k.nowOk t x.1 x.2.1 x.2.2.1 x.2.2.2=true){n:Nat}{f:Int}(h:k.settled=some (n,f)):∃n',(k.nowQ t x).settled=some (n',f)∧n'≤n:=by
 have ho:=now_valid ha hx;obtain⟨_,_,_,hok⟩:=Bk.valid ho;obtain⟨h1,h2,_⟩:=settledTo_some h;have hnt:(k.nowQ t x).nt=k.nt:=rfl;have hft:∀e over,(k.nowQ t x).fate e over=k.fate e over:=fun _ _=> rfl;obtain⟨hf,hall⟩:=Bk.fateAt_all h2;obtain⟨e0,he0⟩:=(k.nowQ t x).ears_some hok n (by rw[hnt];omega);have h3:(k.nowQ t x).fateAt n=some f:=Bk.fateAt_some hf he0 fun e he=> by rw[hft,hnt];exact hall e (now_ears he)
 obtain⟨n',f',h4,h5⟩:=settledTo_le h3 (j:=(k.nowQ t x).nt+1) (by rw[hnt];omega);obtain⟨_,h6,_⟩:=settledTo_some h4;obtain⟨hf',hall'⟩:=Bk.fateAt_all h6;have h7:=all_on ho hf' hall' n h5 (by rw[hnt];omega) e0 he0;have h8:=hall e0 (now_ears he0);rw[hft,hnt,h8] at h7;subst h7;exact⟨n',h4,h5⟩
theorem heard_mem {k:Bk}{s:List UInt8}:s∈k.heardL↔∃e,k.earsS k.nt e∧s=e.heard:=by
 unfold Bk.heardL;rw[mem_ascOf,List.mem_map];constructor
 · rintro⟨e,he,rfl⟩;exact⟨e,(k.mem_earsL _ e).1 he,rfl⟩
 · rintro⟨e,he,rfl⟩;exact⟨e,(k.mem_earsL _ e).2 he,rfl⟩
end Go.Proofs.YtdnfdeplcjaonaaGreatDoor
namespace Go.Proofs.YtdnfdeplcjaonaaGreatDoor
open Go.RL
set_option maxRecDepth 10000
theorem blockVia {P:Program}{M:Md P}{St:View→Goroutine→Prop}{n:Nat}{b:FB}{H₀:View}{cs:List Frame}{R:Rg}{L:Bl}{ds:List Deferred}{k:List Item}{id:Nat}{x:Code}(F:Rg→Bl→Prop)(hF:∀R L,F R L→Tc M St n b H₀ cs R L ds k)
   (h:(∀R L,F R L→Tc M St n b H₀ cs R L ds k)→Tc M St n b H₀ cs R L ds (.code x:: .inBlock id::k)):Tc M St n b H₀ cs R L ds (.code (.block id x)::k):=.block (h hF)
def Ahead(a b:Nat)(u:List Int):Prop:=a=0∨∀i,a≤i→i<b→at0 u (a-1)≤at0 u i
theorem srt_swap {a i p q:Nat}{w:List Int}(hp:i≤p∧p<w.length)(hq:i≤q∧q<w.length)(h:Srt a i w):Srt a i (swapL w p q):=fun x y h1 h2 h3=> by
 rw[swapL_at hp.2 hq.2,swapL_at hp.2 hq.2,if_neg (by omega),if_neg (by omega),if_neg (by omega),if_neg (by omega)];exact h x y h1 h2 h3
theorem srt_snoc {a i:Nat}{u:List Int}(h:Srt a i u)(hi:a<i)(hle:¬at0 u i<at0 u (i-1)):Srt a (i+1) u:=fun p q h1 h2 h3=> by
 by_cases e:q=i
 · subst e;by_cases e2:p=q-1
   · rw[e2];omega
   · have:=h p (q-1) h1 (by omega) (by omega);omega
 · exact h p q h1 h2 (by omega)
theorem at0_some {l:List Int}{i:Nat}(h:i<l.length):l[i]? =some (at0 l i):=by
 unfold at0;rw[List.getElem?_eq_getElem h];rfl
theorem Turned.get {a b:Nat}{l m:List Int}(h:Turned a b l m){i:Nat}(hi:i<a∨b≤i):m[i]? =l[i]? :=by
 by_cases c:i<l.length
 · rw[at0_some c,at0_some (by rw[h.len];exact c),h.out i hi]
 · have hl:=h.len;rw[List.getElem?_eq_none (by omega),List.getElem?_eq_none (by omega)]
theorem parts_eq(l:List Int){a b:Nat}(hab:a≤b):l=l.take a++((l.drop a).take (b-a)++l.drop b):=by
 have h1:l.drop b=(l.drop a).drop (b-a):=by rw[List.drop_drop];congr 1;omega
 rw[h1,List.take_append_drop,List.take_append_drop]
theorem Turned.mid {a b:Nat}{l m:List Int}(h:Turned a b l m)(hab:a≤b)(x:Int):((m.drop a).take (b-a)).count x=((l.drop a).take (b-a)).count x:=by
 have e1:m.take a=l.take a:=by
   apply List.ext_getElem?
   intro i;by_cases c:i<a
   · rw[List.getElem?_take_of_lt c,List.getElem?_take_of_lt c];exact h.get (.inl c)
   · rw[List.getElem?_eq_none (by rw[List.length_take];omega),List.getElem?_eq_none (by rw[List.length_take];omega)]
 have e2:m.drop b=l.drop b:=by
   apply List.ext_getElem?
   intro i;rw[List.getElem?_drop,List.getElem?_drop];exact h.get (.inr (by omega))
 have h1:=h.cnt x;have h2:=congrArg (List.count x) (parts_eq m hab);have h3:=congrArg (List.count x) (parts_eq l hab);simp only[List.count_append] at h2 h3;rw[e1,e2] at h2;omega
theorem Turned.all {a b:Nat}{l m:List Int}(h:Turned a b l m)(hb:b≤l.length){P:Int→Prop}(hP:∀p,a≤p→p<b→P (at0 l p)):∀p,a≤p→p<b→P (at0 m p):=fun p h1 h2=> by
 have g1:at0 m p∈(m.drop a).take (b-a):=by
   rw[List.mem_iff_getElem?];refine⟨p-a,?_⟩;rw[List.getElem?_take_of_lt (by omega),List.getElem?_drop,show a+(p-a)=p by omega];exact at0_some (by rw[h.len];omega)
 have g2:at0 m p∈(l.drop a).take (b-a):=by
   rw[←List.count_pos_iff,←h.mid (by omega)];exact List.count_pos_iff.2 g1
 obtain⟨i,hi⟩:=List.mem_iff_getElem?.1 g2;have hlt:i<b-a:=by
   have:=(List.getElem?_eq_some_iff.1 hi).1;rw[List.length_take] at this;omega
 rw[List.getElem?_take_of_lt hlt,List.getElem?_drop,at0_some (by omega)] at hi;have:=Option.some.inj hi;rw[←this];exact hP (a+i) (by omega) (by omega)
theorem Ahead.turn {a b:Nat}{u w:List Int}(h:Ahead a b u)(k:Turned a b u w)(hb:b≤u.length):Ahead a b w:=by
 rcases h with h|h
 · exact .inl h
 · by_cases h0:a=0
   · exact .inl h0
   · refine .inr fun i h1 h2=> ?_;rw[k.out (a-1) (.inl (by omega))];exact k.all hb (P:=fun x=> at0 u (a-1)≤x) h i h1 h2
def Heap(f lo hi:Nat)(l:List Int):Prop:=∀k c,lo≤k→(c=2*k+1∨c=2*k+2)→c<hi→at0 l (f+c)≤at0 l (f+k)
def HeapBut(f lo hi r:Nat)(l:List Int):Prop:=
 (∀k c,lo≤k→k≠r→(c=2*k+1∨c=2*k+2)→c<hi→at0 l (f+c)≤at0 l (f+k))∧
 (∀k c,lo≤k→(r=2*k+1∨r=2*k+2)→(c=2*r+1∨c=2*r+2)→c<hi→at0 l (f+c)≤at0 l (f+k))
theorem Heap.top {f hi:Nat}{l:List Int}(h:Heap f 0 hi l):∀k,k<hi→at0 l (f+k)≤at0 l f:=by
 intro k;induction k using Nat.strongRecOn with
 | ind k ih=>
   intro hk;by_cases h0:k=0
   · subst h0;exact Int.le_refl _
   · have h1:=h ((k-1)/2) k (Nat.zero_le _) (by omega) hk;have h2:=ih ((k-1)/2) (by omega) (by omega);omega
theorem HeapBut.fin {f lo hi r:Nat}{l:List Int}(h:HeapBut f lo hi r l)(hr:∀c,(c=2*r+1∨c=2*r+2)→c<hi→at0 l (f+c)≤at0 l (f+r)):Heap f lo hi l:=fun k c h1 h2 h3=> by
 by_cases e:k=r
 · subst e;exact hr c h2 h3
 · exact h.1 k c h1 e h2 h3
theorem HeapBut.step {f lo hi r c:Nat}{l:List Int}(h:HeapBut f lo hi r l)(hl:f+hi≤l.length)(hlr:lo≤r)(hc:c=2*r+1∨c=2*r+2)(hch:c<hi)(hlt:at0 l (f+r)<at0 l (f+c))
   (hmax:∀d,(d=2*r+1∨d=2*r+2)→d<hi→at0 l (f+d)≤at0 l (f+c)):HeapBut f lo hi c (swapL l (f+r) (f+c)):=by
 have hs:=fun q=> swapL_at (l:=l) (p:=f+r) (q:=f+c) (by omega) (by omega) q;refine⟨fun k d h1 h2 h3 h4=> ?_,fun k d h1 h2 h3 h4=> ?_⟩
 · rw[hs,hs,if_neg (show ¬f+k=f+c by omega)];by_cases e:k=r
   · subst e;rw[if_pos rfl];by_cases e2:d=c
     · subst e2;rw[if_pos rfl];omega
     · rw[if_neg (by omega),if_neg (by omega)];exact hmax d h3 h4
   · rw[if_neg (show ¬f+k=f+r by omega)];by_cases e2:d=c
     · omega
     · rw[if_neg (by omega)];by_cases e3:d=r
       · subst e3;rw[if_pos rfl];exact h.2 k c h1 h3 hc hch
       · rw[if_neg (by omega)];exact h.1 k d h1 e h3 h4
 · have e:k=r:=by omega
   subst e;rw[hs,hs,if_neg (by omega),if_neg (by omega),if_neg (by omega),if_pos rfl];exact h.1 c d (by omega) (by omega) h3 h4
structure Pti(a b i j:Nat)(u:List Int):Prop where
 ai:a+1≤i
 ij:i≤j+1
 jb:j<b
 aj:a≤j
 lo:∀k,a<k→k<i→at0 u k<at0 u a
 hi:∀k,j<k→k<b→at0 u a≤at0 u k
theorem Pti.start {a b:Nat}{u:List Int}(h:a<b):Pti a b (a+1) (b-1) u:=⟨Nat.le_refl _,by omega,by omega,by omega,fun k h1 h2=> by omega,fun k h1 h2=> by omega⟩
theorem Pti.up {a b i j:Nat}{u:List Int}(h:Pti a b i j u)(hij:i≤j)(hlt:at0 u i<at0 u a):Pti a b (i+1) j u:=
 ⟨by have:=h.ai;omega,by omega,h.jb,h.aj,fun k h1 h2=> by
   by_cases e:k=i
   · rw[e];exact hlt
   · exact h.lo k h1 (by omega),h.hi⟩
theorem Pti.down {a b i j:Nat}{u:List Int}(h:Pti a b i j u)(hij:i≤j)(hge:¬at0 u j<at0 u a):Pti a b i (j-1) u:=
 ⟨h.ai,by omega,by have:=h.jb;omega,by have:=h.ai;omega,h.lo,fun k h1 h2=> by
   by_cases e:k=j
   · rw[e];omega
   · exact h.hi k (by omega) h2⟩
theorem Pti.swap {a b i j:Nat}{u:List Int}(h:Pti a b i j u)(hl:b≤u.length)(hij:i≤j)(h1:¬at0 u i<at0 u a)(h2:at0 u j<at0 u a):i<j∧Pti a b (i+1) (j-1) (swapL u i j):=by
 have ha:=h.ai;have hb:=h.jb;have hne:i≠j:=by
   rintro rfl;omega
 have hs:=fun q=> swapL_at (l:=u) (p:=i) (q:=j) (by omega) (by omega) q;have h0:at0 (swapL u i j) a=at0 u a:=by rw[hs,if_neg (by omega),if_neg (by omega)]
 refine⟨by omega,⟨by omega,by omega,by omega,by omega,fun k h3 h4=> ?_,fun k h3 h4=> ?_⟩⟩
 · rw[h0,hs,if_neg (by omega)];by_cases e:k=i
   · rw[if_pos e];exact h2
   · rw[if_neg e];exact h.lo k h3 (by omega)
 · rw[h0,hs];by_cases e:k=j
   · rw[if_pos e];omega
   · rw[if_neg e,if_neg (by omega)];exact h.hi k (by omega) h4
structure Part(a b j:Nat)(u:List Int):Prop where
 aj:a≤j
 jb:j<b
 lo:∀k,a≤k→k<j→at0 u k<at0 u j
 hi:∀k,j<k→k<b→at0 u j≤at0 u k
theorem Pti.fin {a b i j:Nat}{u:List Int}(h:Pti a b i j u)(hl:b≤u.length)(hij:j<i):Part a b j (swapL u j a):=by
 have ha:=h.ai;have hb:=h.jb;have hj:=h.aj;have hi:=h.ij;have hs:=fun q=> swapL_at (l:=u) (p:=j) (q:=a) (by omega) (by omega) q;have h0:at0 (swapL u j a) j=at0 u a:=by
   rw[hs];by_cases e:j=a
   · rw[if_pos e,e]
   · rw[if_neg e,if_pos rfl]
 refine⟨hj,hb,fun k h3 h4=> ?_,fun k h3 h4=> ?_⟩
 · rw[h0,hs];by_cases e:k=a
   · rw[if_pos e];exact h.lo j (by omega) (by omega)
   · rw[if_neg e,if_neg (by omega)];exact h.lo k (by omega) (by omega)
 · rw[h0,hs,if_neg (by omega),if_neg (by omega)];exact h.hi k h3 h4
theorem Part.sorted {a b j:Nat}{u m w:List Int}(h:Part a b j u)(hl:b≤u.length)(h1:Turned a j u m)(s1:Srt a j m)(h2:Turned (j+1) b m w)(s2:Srt (j+1) b w):Turned a b u w∧Srt a b w:=by
 have hj:=h.aj;have hb:=h.jb;have hml:=h1.len;refine⟨(h1.wide (Nat.le_refl _) (by omega)).trans (h2.wide (by omega) (Nat.le_refl _)),fun p q g1 g2 g3=> ?_⟩;have ej:at0 w j=at0 u j:=by rw[h2.out j (.inl (by omega)),h1.out j (.inr (Nat.le_refl _))]
 have lo:∀k,a≤k→k<j→at0 w k≤at0 u j:=fun k c1 c2=> by
   rw[h2.out k (.inl (by omega))];exact h1.all (by omega) (P:=fun x=> x≤at0 u j) (fun k c3 c4=> Int.le_of_lt (h.lo k c3 c4)) k c1 c2
 have hi:∀k,j<k→k<b→at0 u j≤at0 w k:=fun k c1 c2=>
   h2.all (by omega) (P:=fun x=> at0 u j≤x) (fun k c3 c4=> by rw[h1.out k (.inr (by omega))];exact h.hi k (by omega) c4) k (by omega) c2
 by_cases c1:q<j
 · rw[h2.out p (.inl (by omega)),h2.out q (.inl (by omega))];exact s1 p q g1 g2 c1
 · by_cases c2:q=j
   · rw[c2,ej];exact lo p g1 (by omega)
   · by_cases c3:p<j
     · exact Int.le_trans (lo p g1 c3) (hi q (by omega) g3)
     · by_cases c4:p=j
       · rw[c4,ej];exact hi q (by omega) g3
       · exact s2 p q (by omega) g2 g3
theorem Part.sorted2 {a b j:Nat}{u m w:List Int}(h:Part a b j u)(hl:b≤u.length)(h1:Turned (j+1) b u m)(s1:Srt (j+1) b m)(h2:Turned a j m w)(s2:Srt a j w):Turned a b u w∧Srt a b w:=by
 have hj:=h.aj;have hb:=h.jb;have hml:=h1.len;refine⟨(h1.wide (by omega) (Nat.le_refl _)).trans (h2.wide (Nat.le_refl _) (by omega)),fun p q g1 g2 g3=> ?_⟩;have ej:at0 w j=at0 u j:=by rw[h2.out j (.inr (Nat.le_refl _)),h1.out j (.inl (by omega))]
 have lo:∀k,a≤k→k<j→at0 w k≤at0 u j:=fun k c1 c2=>
   h2.all (by omega) (P:=fun x=> x≤at0 u j) (fun k c3 c4=> by rw[h1.out k (.inl (by omega))];exact Int.le_of_lt (h.lo k c3 c4)) k c1 c2
 have hi:∀k,j<k→k<b→at0 u j≤at0 w k:=fun k c1 c2=> by
   rw[h2.out k (.inr (by omega))];exact h1.all (by omega) (P:=fun x=> at0 u j≤x) (fun k c3 c4=> h.hi k (by omega) c4) k (by omega) c2
 by_cases c1:q<j
 · exact s2 p q g1 g2 c1
 · by_cases c2:q=j
   · rw[c2,ej];exact lo p g1 (by omega)
   · by_cases c3:p<j
     · exact Int.le_trans (lo p g1 c3) (hi q (by omega) g3)
     · by_cases c4:p=j
       · rw[c4,ej];exact hi q (by omega) g3
       · rw[h2.out p (.inr (by omega)),h2.out q (.inr (by omega))];exact s1 p q (by omega) g2 g3
set_option maxHeartbeats 8000000
section
variable(M:Md Tryz.prog)(H:View)
theorem reverseS_c(dec:Int→List UInt8)(sb:Nat)(l:List Int)(jj:List Value)(n cap a b:Nat)(hn:n=l.length)(hb:b≤n)(h1000:n≤100000000)(ha:a<b)(hS:H sb=some (true,.cells ⟨(strsL dec l)++jj⟩ 9 (0,0))):
   CallT M 202 #[.slice (some ⟨sb,0,none⟩) n cap,.int .i64 (a:Nat),.int .i64 (b:Nat)] H (SortSQ dec H sb jj (fun v m=> v=.tuple ⟨[]⟩∧Turned a b l m)):=by
 refine CallT.enter (vs:= [.slice (some ⟨sb,0,none⟩) n cap,.int .i64 (a:Nat),.int .i64 (b:Nat)]) Tryz.func202 rfl Tryz.ntmps202 (Nat.le_of_ble_eq_true rfl) (SymSt.pull hS) fun St c cs hK=> ?_;have hb1:((b:Nat):Int)-1=((b-1:Nat):Int):=by omega
 refine .sr ?_;refine .m ?_;refine .g ?_;refine .done (.sr ?_);refine .m ?_;refine .i ?_ (z:=sub_in (by omega) (by omega));refine .g ?_;refine .done ?_;rw[hb1];refine .block ?_;refine Tc.db (Tc.loopInv (σ:= { s:Nat×Nat×List Int//a≤s.1∧s.1≤b∧a≤s.2.1∧s.2.1<b∧Turned a b l s.2.2 }) (fun s=> ([(0,.slice (some ⟨sb,0,none⟩) n cap),(6,.int .i64 (s.1.1:Nat)),(7,.int .i64 (s.1.2.1:Nat))],[(sb,true,.cells ⟨(strsL dec s.1.2.2)++jj⟩ 9 (0,0))])) (fun s=> s.1.2.1) ?_
   ⟨(a,b-1,l),by simp,by simp only;omega,by simp only;omega,by simp only;omega,Turned.refl ..⟩)
 rintro⟨⟨i,j,u⟩,g1,g2,g3,g4,g5⟩ ih;simp only at g1 g2 g3 g4 g5;show Tc M St _ _ _ _ [(0,.slice (some ⟨sb,0,none⟩) n cap),(6,.int .i64 (i:Nat)),(7,.int .i64 (j:Nat))] [(sb,true,.cells ⟨(strsL dec u)++jj⟩ 9 (0,0))] _ _;have hul:=g5.len;by_cases c1:i<j
 · have e1:((j:Nat):Int)-1=((j-1:Nat):Int):=by omega
   have k1:=cellsS_ld (dec:=dec) (m:=u) (j:=jj) (k:=(i:Nat)) (p:=i) rfl (by omega);have k2:=cellsS_ld (dec:=dec) (m:=u) (j:=jj) (k:=(j:Nat)) (p:=j) rfl (by omega);have s1:=cellsS_st (dec:=dec) (m:=u) (j:=jj) (k:=(i:Nat)) (x:=at0 u j) (p:=i) rfl (by omega);have s2:=cellsS_st (dec:=dec) (m:=u.set i (at0 u j)) (j:=jj) (k:=(j:Nat)) (x:=at0 u i) (p:=j) rfl (by rw[List.length_set];omega);have l1:=cellsS_le (dec:=dec) (m:=u) (j:=jj) (k:=(i:Nat)) (p:=i) rfl (by omega);have l2:=cellsS_le (dec:=dec) (m:=u.set i (at0 u j)) (j:=jj) (k:=(j:Nat)) (p:=j) rfl (by rw[List.length_set];omega);refine .seq (.sr ?_);refine .m ?_;refine .m ?_;refine .j ?_;refine .done (.tt rfl (.skip (.block (.seq ?_))));refine Tc.dr [13,15] [0] mixed rfl ?_;refine .q 0 rfl .mv ?_;refine .q 1 rfl .mv ?_;refine Ta.tkw 2 (by kernel_rfl) rfl rfl rfl (by decide) rfl rfl (OpV.take .mv) ?_;refine Ta.tkw 3 (by kernel_rfl) rfl rfl rfl (by decide) rfl rfl (OpV.take .mv) ?_;refine .q 4 rfl .mv ?_;refine .q 5 rfl .mv ?_;refine .q 6 rfl .ia ?_;refine .q 7 rfl (.ld 0) ?_;refine Ta.tkw 8 (by kernel_rfl) rfl rfl rfl (by decide) rfl rfl (OpV.take .mv) ?_;refine Ta.tkw 9 (by kernel_rfl) rfl rfl rfl (by decide) rfl rfl (OpV.take .mv) ?_;refine Ta.tkw 10 (by kernel_rfl) rfl rfl rfl (by decide) rfl rfl (OpV.take .ia) ?_;refine .q 11 rfl (.ld 0) ?_;refine .q 12 rfl .ia ?_;refine Ta.each [13] (by kernel_rfl) rfl ⟨TaOp.mk rfl rfl rfl (.st 0 (zz:=⟨S2.mk (by exact List.nil_sublist _) (.inl (by kernel_rfl)),?_⟩)),trivial⟩;refine Ta.tkw 14 (by kernel_rfl) rfl rfl rfl (by decide) rfl rfl (OpV.take .ia) ?_;refine Ta.each [15] (by kernel_rfl) rfl ⟨TaOp.mk rfl rfl rfl (.st 0 (zz:=⟨S2.mk (by exact List.nil_sublist _) (.inl (by kernel_rfl)),?_⟩)),trivial⟩;refine Ta.done (by kernel_rfl) ?_;refine .sr ?_;refine .m ?_;refine .j ?_;refine .g ?_;refine .done (.r ?_);refine .m ?_;refine .i ?_ (z:=sub_in (by omega) (by omega));refine .g ?_;refine .done ?_;rw[e1];refine .inBlock ?_;exact Tc.db (ih ⟨(i+1,j-1,swapL u i j),by simp only;omega,by simp only;omega,by simp only;omega,by simp only;omega,g5.trans (Turned.swap (by omega) (by omega) (by omega) (by omega))⟩ (by simp only;omega))
 · refine .seq (.sr ?_);refine .m ?_;refine .m ?_;refine .j ?_;refine .done (.ff rfl (.exit rfl ?_));refine Tc.overN (E:=en) hK Tryz.func202 Tryz.results202 (vs:= []) (by exact trivial) ?_;exact fun H' hs=> SortSQ.of (dec:=dec) hs (i:=0) rfl ⟨rfl,g5⟩
end
section
variable(M:Md Tryz.prog)(H:View)
theorem siftDownS_c(dec:Int→List UInt8)(sb:Nat)(l:List Int)(jj:List Value)(n cap lo hi f:Nat)(hn:n=l.length)(hE:Enc dec l)(hf:f+hi≤n)(h1000:n≤100000000)(hlo:lo≤hi)(hH:HeapBut f lo hi lo l)(hS:H sb=some (true,.cells ⟨(strsL dec l)++jj⟩ 9 (0,0))):
   CallT M 232 #[.slice (some ⟨sb,0,none⟩) n cap,.int .i64 (lo:Nat),.int .i64 (hi:Nat),.int .i64 (f:Nat)] H (SortSQ dec H sb jj (fun v m=> v=.tuple ⟨[]⟩∧Turned f (f+hi) l m∧Heap f lo hi m)):=by
 refine CallT.enter (vs:= [.slice (some ⟨sb,0,none⟩) n cap,.int .i64 (lo:Nat),.int .i64 (hi:Nat),.int .i64 (f:Nat)]) Tryz.func232 rfl Tryz.ntmps232 (Nat.le_of_ble_eq_true rfl) (SymSt.pull hS) fun St c cs hK=> ?_;refine .sr ?_;refine .m ?_;refine .g ?_;refine .done (.block ?_);refine Tc.db (Tc.loopInv (σ:= { s:Nat×List Int//lo≤s.1∧s.1≤hi∧Turned f (f+hi) l s.2∧HeapBut f lo hi s.1 s.2 }) (fun s=> ([(0,.slice (some ⟨sb,0,none⟩) n cap),(2,.int .i64 (hi:Nat)),(3,.int .i64 (f:Nat)),(8,.int .i64 (s.1.1:Nat))],[(sb,true,.cells ⟨(strsL dec s.1.2)++jj⟩ 9 (0,0))])) (fun s=> hi-s.1.1) ?_
   ⟨(lo,l),Nat.le_refl _,hlo,Turned.refl ..,hH⟩)
 rintro⟨⟨r,u⟩,g1,g2,g3,g4⟩ ih;simp only at g1 g2 g3 g4;have hul:=g3.len;have hEu:=hE.turned g3;have e1:2*((r:Nat):Int)+1=((2*r+1:Nat):Int):=by omega
 have e2:((2*r+1:Nat):Int)+1=((2*r+2:Nat):Int):=by omega
 show Tc M St _ _ _ _ [(0,.slice (some ⟨sb,0,none⟩) n cap),(2,.int .i64 (hi:Nat)),(3,.int .i64 (f:Nat)),(8,.int .i64 (r:Nat))] [(sb,true,.cells ⟨(strsL dec u)++jj⟩ 9 (0,0))] _ _;refine .block (.sr ?_);refine .m ?_;refine .i ?_ (z:=mul_in (by omega) (by omega));refine .j ?_;refine .g ?_;refine .done ?_;rw[e1];by_cases c0:2*r+1<hi
 · by_cases d1:2*r+2<hi
   · have k1:=cellsS_ld (dec:=dec) (m:=u) (j:=jj) (k:=(f:Nat)+((2*r+1:Nat):Int)) (p:=f+(2*r+1)) (by omega) (by omega);have k2:=cellsS_ld (dec:=dec) (m:=u) (j:=jj) (k:=(f:Nat)+((2*r+1:Nat):Int)+1) (p:=f+(2*r+2)) (by omega) (by omega);by_cases d2:at0 u (f+(2*r+1))<at0 u (f+(2*r+2))
     · have hmax:∀d,(d=2*r+1∨d=2*r+2)→d<hi→at0 u (f+d)≤at0 u (f+(2*r+2)):=by rintro d (rfl|rfl) _ <;> omega
       refine .seq (.sr ?_);refine .m ?_;refine .m ?_;refine .j ?_;refine .done (.ff rfl (.skip (.seq (.seq ?_))));refine Tc.dr [] [] mixed rfl ?_;refine .q 0 rfl .mv ?_;refine .q 1 rfl (.it (zz:=add_in (by omega) (by omega))) ?_;refine .q 2 rfl .mv ?_;refine .q 3 rfl (.it (zz:=lss_t (by omega))) ?_;refine .q 4 rfl .mv ?_;refine .q 5 rfl .mv ?_;refine .q 6 rfl .mv ?_;refine .q 7 rfl .mv ?_;refine .q 8 rfl (.it (zz:=add_in (by omega) (by omega))) ?_;refine .q 9 rfl .ia ?_;refine .q 10 rfl (.ld 0) ?_;refine .q 11 rfl .mv ?_;refine .q 12 rfl .mv ?_;refine .q 13 rfl .mv ?_;refine .q 14 rfl (.it (zz:=add_in (by omega) (by omega))) ?_;refine .q 15 rfl (.it (zz:=add_in (by omega) (by omega))) ?_;refine .q 16 rfl .ia ?_;refine .q 17 rfl (.ld 0) ?_;refine .z 18 rfl (OpV.takeCall rfl rfl rfl rfl (fun H hs=> .f ca204 rfl (lessS M H hEu (at0_mem (by omega)) (at0_mem (by omega)) true (decide_eq_true d2)))) ?_;refine .q 19 rfl .pk ?_;refine Ta.done (by kernel_rfl) ?_;refine .tt rfl (.r ?_);refine .m ?_;refine .j ?_;refine .g ?_;refine .done ?_;rw[e2];refine .seq (.seq ?_);have hcv:2*r+2<hi:=by omega
       have k3:=cellsS_ld (dec:=dec) (m:=u) (j:=jj) (k:=(f:Nat)+(r:Nat)) (p:=f+r) (by omega) (by omega);have k4:=cellsS_ld (dec:=dec) (m:=u) (j:=jj) (k:=(f:Nat)+((2*r+2:Nat):Int)) (p:=f+(2*r+2)) (by omega) (by omega);by_cases d3:at0 u (f+r)<at0 u (f+(2*r+2))
       · have s1:=cellsS_st (dec:=dec) (m:=u) (j:=jj) (k:=(f:Nat)+(r:Nat)) (x:=at0 u (f+(2*r+2))) (p:=f+r) (by omega) (by omega);have s2:=cellsS_st (dec:=dec) (m:=u.set (f+r) (at0 u (f+(2*r+2)))) (j:=jj) (k:=(f:Nat)+((2*r+2:Nat):Int)) (x:=at0 u (f+r)) (p:=f+(2*r+2)) (by omega) (by rw[List.length_set];omega);have l1:=cellsS_le (dec:=dec) (m:=u) (j:=jj) (k:=(f:Nat)+(r:Nat)) (p:=f+r) (by omega) (by omega);have l2:=cellsS_le (dec:=dec) (m:=u.set (f+r) (at0 u (f+(2*r+2)))) (j:=jj) (k:=(f:Nat)+((2*r+2:Nat):Int)) (p:=f+(2*r+2)) (by omega) (by rw[List.length_set];omega);refine Tc.dr [] [] mixed rfl ?_;refine .q 0 rfl .mv ?_;refine .q 1 rfl .mv ?_;refine .q 2 rfl .mv ?_;refine .q 3 rfl (.it (zz:=add_in (by omega) (by omega))) ?_;refine .q 4 rfl .ia ?_;refine .q 5 rfl (.ld 0) ?_;refine .q 6 rfl .mv ?_;refine .q 7 rfl .mv ?_;refine .q 8 rfl .mv ?_;refine .q 9 rfl (.it (zz:=add_in (by omega) (by omega))) ?_;refine .q 10 rfl .ia ?_;refine .q 11 rfl (.ld 0) ?_;refine .z 12 rfl (OpV.takeCall rfl rfl rfl rfl (fun H hs=> .f ca204 rfl (lessS M H hEu (at0_mem (by omega)) (at0_mem (by omega)) true (decide_eq_true d3)))) ?_;refine .q 13 rfl .nt ?_;refine Ta.done (by kernel_rfl) ?_;refine .ff rfl (.skip (.seq ?_));refine Tc.dr [21,23] [0] mixed rfl ?_;refine .q 0 rfl .mv ?_;refine .q 1 rfl .mv ?_;refine .q 2 rfl .mv ?_;refine .q 3 rfl (.it (zz:=add_in (by omega) (by omega))) ?_;refine Ta.tkw 4 (by kernel_rfl) rfl rfl rfl (by decide) rfl rfl (OpV.take .mv) ?_;refine Ta.tkw 5 (by kernel_rfl) rfl rfl rfl (by decide) rfl rfl (OpV.take .mv) ?_;refine Ta.tkw 6 (by kernel_rfl) rfl rfl rfl (by decide) rfl rfl (OpV.take .mv) ?_;refine Ta.tkw 7 (by kernel_rfl) rfl rfl rfl (by decide) rfl rfl (OpV.take (.it (zz:=add_in (by omega) (by omega)))) ?_;refine .q 8 rfl .mv ?_;refine .q 9 rfl .mv ?_;refine .q 10 rfl .mv ?_;refine .q 11 rfl (.it (zz:=add_in (by omega) (by omega))) ?_;refine .q 12 rfl .ia ?_;refine .q 13 rfl (.ld 0) ?_;refine Ta.tkw 14 (by kernel_rfl) rfl rfl rfl (by decide) rfl rfl (OpV.take .mv) ?_;refine Ta.tkw 15 (by kernel_rfl) rfl rfl rfl (by decide) rfl rfl (OpV.take .mv) ?_;refine Ta.tkw 16 (by kernel_rfl) rfl rfl rfl (by decide) rfl rfl (OpV.take .mv) ?_;refine Ta.tkw 17 (by kernel_rfl) rfl rfl rfl (by decide) rfl rfl (OpV.take (.it (zz:=add_in (by omega) (by omega)))) ?_;refine Ta.tkw 18 (by kernel_rfl) rfl rfl rfl (by decide) rfl rfl (OpV.take .ia) ?_;refine .q 19 rfl (.ld 0) ?_;refine .q 20 rfl .ia ?_;refine Ta.each [21] (by kernel_rfl) rfl ⟨TaOp.mk rfl rfl rfl (.st 0 (zz:=⟨S2.mk (by exact List.nil_sublist _) (.inl (by kernel_rfl)),?_⟩)),trivial⟩;refine Ta.tkw 22 (by kernel_rfl) rfl rfl rfl (by decide) rfl rfl (OpV.take .ia) ?_;refine Ta.each [23] (by kernel_rfl) rfl ⟨TaOp.mk rfl rfl rfl (.st 0 (zz:=⟨S2.mk (by exact List.nil_sublist _) (.inl (by kernel_rfl)),?_⟩)),trivial⟩;refine Ta.done (by kernel_rfl) ?_;refine .r ?_;refine .m ?_;refine .g ?_;refine .done (.inBlock ?_);exact Tc.db (ih ⟨(2*r+2,swapL u (f+r) (f+(2*r+2))),by simp only;omega,by simp only;omega,g3.trans (Turned.swap (by omega) (by omega) (by omega) (by omega)),g4.step (by omega) g1 (by omega) hcv d3 hmax⟩ (by simp only;omega))
       · refine Tc.dr [] [] mixed rfl ?_;refine .q 0 rfl .mv ?_;refine .q 1 rfl .mv ?_;refine .q 2 rfl .mv ?_;refine .q 3 rfl (.it (zz:=add_in (by omega) (by omega))) ?_;refine .q 4 rfl .ia ?_;refine .q 5 rfl (.ld 0) ?_;refine .q 6 rfl .mv ?_;refine .q 7 rfl .mv ?_;refine .q 8 rfl .mv ?_;refine .q 9 rfl (.it (zz:=add_in (by omega) (by omega))) ?_;refine .q 10 rfl .ia ?_;refine .q 11 rfl (.ld 0) ?_;refine .z 12 rfl (OpV.takeCall rfl rfl rfl rfl (fun H hs=> .f ca204 rfl (lessS M H hEu (at0_mem (by omega)) (at0_mem (by omega)) false (decide_eq_false d3)))) ?_;refine .q 13 rfl .nt ?_;refine Ta.done (by kernel_rfl) ?_;refine .tt rfl ?_;refine Tc.retN (E:=en) hK Tryz.func232 Tryz.results232 (vs:= []) (by exact trivial) ?_;exact fun H' hs=> SortSQ.of (dec:=dec) hs (i:=0) rfl ⟨rfl,g3,g4.fin (fun d h1 h2=> by have:=hmax d h1 h2;omega)⟩
     · have hmax:∀d,(d=2*r+1∨d=2*r+2)→d<hi→at0 u (f+d)≤at0 u (f+(2*r+1)):=by rintro d (rfl|rfl) _ <;> omega
       refine .seq (.sr ?_);refine .m ?_;refine .m ?_;refine .j ?_;refine .done (.ff rfl (.skip (.seq (.seq ?_))));refine Tc.dr [] [] mixed rfl ?_;refine .q 0 rfl .mv ?_;refine .q 1 rfl (.it (zz:=add_in (by omega) (by omega))) ?_;refine .q 2 rfl .mv ?_;refine .q 3 rfl (.it (zz:=lss_t (by omega))) ?_;refine .q 4 rfl .mv ?_;refine .q 5 rfl .mv ?_;refine .q 6 rfl .mv ?_;refine .q 7 rfl .mv ?_;refine .q 8 rfl (.it (zz:=add_in (by omega) (by omega))) ?_;refine .q 9 rfl .ia ?_;refine .q 10 rfl (.ld 0) ?_;refine .q 11 rfl .mv ?_;refine .q 12 rfl .mv ?_;refine .q 13 rfl .mv ?_;refine .q 14 rfl (.it (zz:=add_in (by omega) (by omega))) ?_;refine .q 15 rfl (.it (zz:=add_in (by omega) (by omega))) ?_;refine .q 16 rfl .ia ?_;refine .q 17 rfl (.ld 0) ?_;refine .z 18 rfl (OpV.takeCall rfl rfl rfl rfl (fun H hs=> .f ca204 rfl (lessS M H hEu (at0_mem (by omega)) (at0_mem (by omega)) false (decide_eq_false d2)))) ?_;refine .q 19 rfl .pk ?_;refine Ta.done (by kernel_rfl) ?_;refine .ff rfl (.skip (.seq (.seq ?_)));have hcv:2*r+1<hi:=by omega
       have k3:=cellsS_ld (dec:=dec) (m:=u) (j:=jj) (k:=(f:Nat)+(r:Nat)) (p:=f+r) (by omega) (by omega);have k4:=cellsS_ld (dec:=dec) (m:=u) (j:=jj) (k:=(f:Nat)+((2*r+1:Nat):Int)) (p:=f+(2*r+1)) (by omega) (by omega);by_cases d3:at0 u (f+r)<at0 u (f+(2*r+1))
       · have s1:=cellsS_st (dec:=dec) (m:=u) (j:=jj) (k:=(f:Nat)+(r:Nat)) (x:=at0 u (f+(2*r+1))) (p:=f+r) (by omega) (by omega);have s2:=cellsS_st (dec:=dec) (m:=u.set (f+r) (at0 u (f+(2*r+1)))) (j:=jj) (k:=(f:Nat)+((2*r+1:Nat):Int)) (x:=at0 u (f+r)) (p:=f+(2*r+1)) (by omega) (by rw[List.length_set];omega);have l1:=cellsS_le (dec:=dec) (m:=u) (j:=jj) (k:=(f:Nat)+(r:Nat)) (p:=f+r) (by omega) (by omega);have l2:=cellsS_le (dec:=dec) (m:=u.set (f+r) (at0 u (f+(2*r+1)))) (j:=jj) (k:=(f:Nat)+((2*r+1:Nat):Int)) (p:=f+(2*r+1)) (by omega) (by rw[List.length_set];omega);refine Tc.dr [] [] mixed rfl ?_;refine .q 0 rfl .mv ?_;refine .q 1 rfl .mv ?_;refine .q 2 rfl .mv ?_;refine .q 3 rfl (.it (zz:=add_in (by omega) (by omega))) ?_;refine .q 4 rfl .ia ?_;refine .q 5 rfl (.ld 0) ?_;refine .q 6 rfl .mv ?_;refine .q 7 rfl .mv ?_;refine .q 8 rfl .mv ?_;refine .q 9 rfl (.it (zz:=add_in (by omega) (by omega))) ?_;refine .q 10 rfl .ia ?_;refine .q 11 rfl (.ld 0) ?_;refine .z 12 rfl (OpV.takeCall rfl rfl rfl rfl (fun H hs=> .f ca204 rfl (lessS M H hEu (at0_mem (by omega)) (at0_mem (by omega)) true (decide_eq_true d3)))) ?_;refine .q 13 rfl .nt ?_;refine Ta.done (by kernel_rfl) ?_;refine .ff rfl (.skip (.seq ?_));refine Tc.dr [21,23] [0] mixed rfl ?_;refine .q 0 rfl .mv ?_;refine .q 1 rfl .mv ?_;refine .q 2 rfl .mv ?_;refine .q 3 rfl (.it (zz:=add_in (by omega) (by omega))) ?_;refine Ta.tkw 4 (by kernel_rfl) rfl rfl rfl (by decide) rfl rfl (OpV.take .mv) ?_;refine Ta.tkw 5 (by kernel_rfl) rfl rfl rfl (by decide) rfl rfl (OpV.take .mv) ?_;refine Ta.tkw 6 (by kernel_rfl) rfl rfl rfl (by decide) rfl rfl (OpV.take .mv) ?_;refine Ta.tkw 7 (by kernel_rfl) rfl rfl rfl (by decide) rfl rfl (OpV.take (.it (zz:=add_in (by omega) (by omega)))) ?_;refine .q 8 rfl .mv ?_;refine .q 9 rfl .mv ?_;refine .q 10 rfl .mv ?_;refine .q 11 rfl (.it (zz:=add_in (by omega) (by omega))) ?_;refine .q 12 rfl .ia ?_;refine .q 13 rfl (.ld 0) ?_;refine Ta.tkw 14 (by kernel_rfl) rfl rfl rfl (by decide) rfl rfl (OpV.take .mv) ?_;refine Ta.tkw 15 (by kernel_rfl) rfl rfl rfl (by decide) rfl rfl (OpV.take .mv) ?_;refine Ta.tkw 16 (by kernel_rfl) rfl rfl rfl (by decide) rfl rfl (OpV.take .mv) ?_;refine Ta.tkw 17 (by kernel_rfl) rfl rfl rfl (by decide) rfl rfl (OpV.take (.it (zz:=add_in (by omega) (by omega)))) ?_;refine Ta.tkw 18 (by kernel_rfl) rfl rfl rfl (by decide) rfl rfl (OpV.take .ia) ?_;refine .q 19 rfl (.ld 0) ?_;refine .q 20 rfl .ia ?_;refine Ta.each [21] (by kernel_rfl) rfl ⟨TaOp.mk rfl rfl rfl (.st 0 (zz:=⟨S2.mk (by exact List.nil_sublist _) (.inl (by kernel_rfl)),?_⟩)),trivial⟩;refine Ta.tkw 22 (by kernel_rfl) rfl rfl rfl (by decide) rfl rfl (OpV.take .ia) ?_;refine Ta.each [23] (by kernel_rfl) rfl ⟨TaOp.mk rfl rfl rfl (.st 0 (zz:=⟨S2.mk (by exact List.nil_sublist _) (.inl (by kernel_rfl)),?_⟩)),trivial⟩;refine Ta.done (by kernel_rfl) ?_;refine .r ?_;refine .m ?_;refine .g ?_;refine .done (.inBlock ?_);exact Tc.db (ih ⟨(2*r+1,swapL u (f+r) (f+(2*r+1))),by simp only;omega,by simp only;omega,g3.trans (Turned.swap (by omega) (by omega) (by omega) (by omega)),g4.step (by omega) g1 (by omega) hcv d3 hmax⟩ (by simp only;omega))
       · refine Tc.dr [] [] mixed rfl ?_;refine .q 0 rfl .mv ?_;refine .q 1 rfl .mv ?_;refine .q 2 rfl .mv ?_;refine .q 3 rfl (.it (zz:=add_in (by omega) (by omega))) ?_;refine .q 4 rfl .ia ?_;refine .q 5 rfl (.ld 0) ?_;refine .q 6 rfl .mv ?_;refine .q 7 rfl .mv ?_;refine .q 8 rfl .mv ?_;refine .q 9 rfl (.it (zz:=add_in (by omega) (by omega))) ?_;refine .q 10 rfl .ia ?_;refine .q 11 rfl (.ld 0) ?_;refine .z 12 rfl (OpV.takeCall rfl rfl rfl rfl (fun H hs=> .f ca204 rfl (lessS M H hEu (at0_mem (by omega)) (at0_mem (by omega)) false (decide_eq_false d3)))) ?_;refine .q 13 rfl .nt ?_;refine Ta.done (by kernel_rfl) ?_;refine .tt rfl ?_;refine Tc.retN (E:=en) hK Tryz.func232 Tryz.results232 (vs:= []) (by exact trivial) ?_;exact fun H' hs=> SortSQ.of (dec:=dec) hs (i:=0) rfl ⟨rfl,g3,g4.fin (fun d h1 h2=> by have:=hmax d h1 h2;omega)⟩
   · have hmax:∀d,(d=2*r+1∨d=2*r+2)→d<hi→at0 u (f+d)≤at0 u (f+(2*r+1)):=by rintro d (rfl|rfl) _ <;> omega
     refine .seq (.sr ?_);refine .m ?_;refine .m ?_;refine .j ?_;refine .done (.ff rfl (.skip (.seq (.seq ?_))));refine Tc.dr [] [] mixed rfl ?_;refine .q 0 rfl .mv ?_;refine .q 1 rfl (.it (zz:=add_in (by omega) (by omega))) ?_;refine .q 2 rfl .mv ?_;refine .q 3 rfl (.it (zz:=lss_f (by omega))) ?_;refine .q 4 rfl .mv ?_;refine Ta.ps 5 (by kernel_rfl) rfl rfl rfl (by decide) rfl rfl ?_;refine Ta.ps 6 (by kernel_rfl) rfl rfl rfl (by decide) rfl rfl ?_;refine Ta.ps 7 (by kernel_rfl) rfl rfl rfl (by decide) rfl rfl ?_;refine Ta.ps 8 (by kernel_rfl) rfl rfl rfl (by decide) rfl rfl ?_;refine Ta.ps 9 (by kernel_rfl) rfl rfl rfl (by decide) rfl rfl ?_;refine Ta.ps 10 (by kernel_rfl) rfl rfl rfl (by decide) rfl rfl ?_;refine Ta.ps 11 (by kernel_rfl) rfl rfl rfl (by decide) rfl rfl ?_;refine Ta.ps 12 (by kernel_rfl) rfl rfl rfl (by decide) rfl rfl ?_;refine Ta.ps 13 (by kernel_rfl) rfl rfl rfl (by decide) rfl rfl ?_;refine Ta.ps 14 (by kernel_rfl) rfl rfl rfl (by decide) rfl rfl ?_;refine Ta.ps 15 (by kernel_rfl) rfl rfl rfl (by decide) rfl rfl ?_;refine Ta.ps 16 (by kernel_rfl) rfl rfl rfl (by decide) rfl rfl ?_;refine Ta.ps 17 (by kernel_rfl) rfl rfl rfl (by decide) rfl rfl ?_;refine Ta.ps 18 (by kernel_rfl) rfl rfl rfl (by decide) rfl rfl ?_;refine .q 19 rfl .pk ?_;refine Ta.done (by kernel_rfl) ?_;refine .ff rfl (.skip (.seq (.seq ?_)));have hcv:2*r+1<hi:=by omega
     have k3:=cellsS_ld (dec:=dec) (m:=u) (j:=jj) (k:=(f:Nat)+(r:Nat)) (p:=f+r) (by omega) (by omega);have k4:=cellsS_ld (dec:=dec) (m:=u) (j:=jj) (k:=(f:Nat)+((2*r+1:Nat):Int)) (p:=f+(2*r+1)) (by omega) (by omega);by_cases d3:at0 u (f+r)<at0 u (f+(2*r+1))
     · have s1:=cellsS_st (dec:=dec) (m:=u) (j:=jj) (k:=(f:Nat)+(r:Nat)) (x:=at0 u (f+(2*r+1))) (p:=f+r) (by omega) (by omega);have s2:=cellsS_st (dec:=dec) (m:=u.set (f+r) (at0 u (f+(2*r+1)))) (j:=jj) (k:=(f:Nat)+((2*r+1:Nat):Int)) (x:=at0 u (f+r)) (p:=f+(2*r+1)) (by omega) (by rw[List.length_set];omega);have l1:=cellsS_le (dec:=dec) (m:=u) (j:=jj) (k:=(f:Nat)+(r:Nat)) (p:=f+r) (by omega) (by omega);have l2:=cellsS_le (dec:=dec) (m:=u.set (f+r) (at0 u (f+(2*r+1)))) (j:=jj) (k:=(f:Nat)+((2*r+1:Nat):Int)) (p:=f+(2*r+1)) (by omega) (by rw[List.length_set];omega);refine Tc.dr [] [] mixed rfl ?_;refine .q 0 rfl .mv ?_;refine .q 1 rfl .mv ?_;refine .q 2 rfl .mv ?_;refine .q 3 rfl (.it (zz:=add_in (by omega) (by omega))) ?_;refine .q 4 rfl .ia ?_;refine .q 5 rfl (.ld 0) ?_;refine .q 6 rfl .mv ?_;refine .q 7 rfl .mv ?_;refine .q 8 rfl .mv ?_;refine .q 9 rfl (.it (zz:=add_in (by omega) (by omega))) ?_;refine .q 10 rfl .ia ?_;refine .q 11 rfl (.ld 0) ?_;refine .z 12 rfl (OpV.takeCall rfl rfl rfl rfl (fun H hs=> .f ca204 rfl (lessS M H hEu (at0_mem (by omega)) (at0_mem (by omega)) true (decide_eq_true d3)))) ?_;refine .q 13 rfl .nt ?_;refine Ta.done (by kernel_rfl) ?_;refine .ff rfl (.skip (.seq ?_));refine Tc.dr [21,23] [0] mixed rfl ?_;refine .q 0 rfl .mv ?_;refine .q 1 rfl .mv ?_;refine .q 2 rfl .mv ?_;refine .q 3 rfl (.it (zz:=add_in (by omega) (by omega))) ?_;refine Ta.tkw 4 (by kernel_rfl) rfl rfl rfl (by decide) rfl rfl (OpV.take .mv) ?_;refine Ta.tkw 5 (by kernel_rfl) rfl rfl rfl (by decide) rfl rfl (OpV.take .mv) ?_;refine Ta.tkw 6 (by kernel_rfl) rfl rfl rfl (by decide) rfl rfl (OpV.take .mv) ?_;refine Ta.tkw 7 (by kernel_rfl) rfl rfl rfl (by decide) rfl rfl (OpV.take (.it (zz:=add_in (by omega) (by omega)))) ?_;refine .q 8 rfl .mv ?_;refine .q 9 rfl .mv ?_;refine .q 10 rfl .mv ?_;refine .q 11 rfl (.it (zz:=add_in (by omega) (by omega))) ?_;refine .q 12 rfl .ia ?_;refine .q 13 rfl (.ld 0) ?_;refine Ta.tkw 14 (by kernel_rfl) rfl rfl rfl (by decide) rfl rfl (OpV.take .mv) ?_;refine Ta.tkw 15 (by kernel_rfl) rfl rfl rfl (by decide) rfl rfl (OpV.take .mv) ?_;refine Ta.tkw 16 (by kernel_rfl) rfl rfl rfl (by decide) rfl rfl (OpV.take .mv) ?_;refine Ta.tkw 17 (by kernel_rfl) rfl rfl rfl (by decide) rfl rfl (OpV.take (.it (zz:=add_in (by omega) (by omega)))) ?_;refine Ta.tkw 18 (by kernel_rfl) rfl rfl rfl (by decide) rfl rfl (OpV.take .ia) ?_;refine .q 19 rfl (.ld 0) ?_;refine .q 20 rfl .ia ?_;refine Ta.each [21] (by kernel_rfl) rfl ⟨TaOp.mk rfl rfl rfl (.st 0 (zz:=⟨S2.mk (by exact List.nil_sublist _) (.inl (by kernel_rfl)),?_⟩)),trivial⟩;refine Ta.tkw 22 (by kernel_rfl) rfl rfl rfl (by decide) rfl rfl (OpV.take .ia) ?_;refine Ta.each [23] (by kernel_rfl) rfl ⟨TaOp.mk rfl rfl rfl (.st 0 (zz:=⟨S2.mk (by exact List.nil_sublist _) (.inl (by kernel_rfl)),?_⟩)),trivial⟩;refine Ta.done (by kernel_rfl) ?_;refine .r ?_;refine .m ?_;refine .g ?_;refine .done (.inBlock ?_);exact Tc.db (ih ⟨(2*r+1,swapL u (f+r) (f+(2*r+1))),by simp only;omega,by simp only;omega,g3.trans (Turned.swap (by omega) (by omega) (by omega) (by omega)),g4.step (by omega) g1 (by omega) hcv d3 hmax⟩ (by simp only;omega))
     · refine Tc.dr [] [] mixed rfl ?_;refine .q 0 rfl .mv ?_;refine .q 1 rfl .mv ?_;refine .q 2 rfl .mv ?_;refine .q 3 rfl (.it (zz:=add_in (by omega) (by omega))) ?_;refine .q 4 rfl .ia ?_;refine .q 5 rfl (.ld 0) ?_;refine .q 6 rfl .mv ?_;refine .q 7 rfl .mv ?_;refine .q 8 rfl .mv ?_;refine .q 9 rfl (.it (zz:=add_in (by omega) (by omega))) ?_;refine .q 10 rfl .ia ?_;refine .q 11 rfl (.ld 0) ?_;refine .z 12 rfl (OpV.takeCall rfl rfl rfl rfl (fun H hs=> .f ca204 rfl (lessS M H hEu (at0_mem (by omega)) (at0_mem (by omega)) false (decide_eq_false d3)))) ?_;refine .q 13 rfl .nt ?_;refine Ta.done (by kernel_rfl) ?_;refine .tt rfl ?_;refine Tc.retN (E:=en) hK Tryz.func232 Tryz.results232 (vs:= []) (by exact trivial) ?_;exact fun H' hs=> SortSQ.of (dec:=dec) hs (i:=0) rfl ⟨rfl,g3,g4.fin (fun d h1 h2=> by have:=hmax d h1 h2;omega)⟩
 · refine .seq (.sr ?_);refine .m ?_;refine .m ?_;refine .j ?_;refine .done (.tt rfl (.exit rfl ?_));refine Tc.overN (E:=en) hK Tryz.func232 Tryz.results232 (vs:= []) (by exact trivial) ?_;exact fun H' hs=> SortSQ.of (dec:=dec) hs (i:=0) rfl ⟨rfl,g3,g4.fin (fun d h1 h2=> by omega)⟩
end
theorem heap_less {f hi s:Nat}{u:List Int}(hs:1≤s)(h:Heap f s hi u):HeapBut f (s-1) hi (s-1) u:=
 ⟨fun k c h1 h2 h3 h4=> h k c (by omega) h3 h4,fun k c h1 h2 h3 h4=> by omega⟩
structure HeapTo(f hi s:Nat)(u:List Int):Prop where
 heap:Heap f 0 s u
 srt:Srt (f+s) (f+hi) u
 low:∀p q,p<s→s≤q→q<hi→at0 u (f+p)≤at0 u (f+q)
theorem heap_but {f hi s:Nat}{u:List Int}(hs:1≤s)(hsh:s≤hi)(hl:f+hi≤u.length)(h:HeapTo f hi s u):HeapBut f 0 (s-1) 0 (swapL u f (f+(s-1))):=by
 have hw:=fun q=> swapL_at (l:=u) (p:=f) (q:=f+(s-1)) (by omega) (by omega) q;refine⟨fun k c h1 h2 h3 h4=> ?_,fun k c h1 h2 h3 h4=> by omega⟩;rw[hw,hw,if_neg (by omega),if_neg (by omega),if_neg (by omega),if_neg (by omega)];exact h.heap k c h1 h3 (by omega)
theorem heap_next {f hi s:Nat}{u m:List Int}(hs:1≤s)(hsh:s≤hi)(hl:f+hi≤u.length)(h:HeapTo f hi s u)(ht:Turned f (f+(s-1)) (swapL u f (f+(s-1))) m)(hm:Heap f 0 (s-1) m):HeapTo f hi (s-1) m:=by
 have hw:=fun q=> swapL_at (l:=u) (p:=f) (q:=f+(s-1)) (by omega) (by omega) q;have htop:=h.heap.top;have hlast:at0 m (f+(s-1))=at0 u f:=by
   rw[ht.out _ (.inr (Nat.le_refl _)),hw,if_pos rfl]
 have hback:∀q,s≤q→at0 m (f+q)=at0 u (f+q):=fun q hq=> by
   rw[ht.out _ (.inr (by omega)),hw,if_neg (by omega),if_neg (by omega)]
 have hall:∀X:Int,(∀p,p<s→at0 u (f+p)≤X)→∀p,p<s-1→at0 m (f+p)≤X:=fun X hX p hp=>
   ht.all (by rw[swapL_len];omega) (P:=fun x=> x≤X) (fun p h1 h2=> by
     rw[hw,if_neg (by omega)];by_cases e:p=f
     · rw[if_pos e];exact hX (s-1) (by omega)
     · rw[if_neg e];have:=hX (p-f) (by omega)
       rwa [show f+(p-f)=p by omega] at this) (f+p) (by omega) (by omega)
 refine⟨hm,fun p q h1 h2 h3=> ?_,fun p q h1 h2 h3=> ?_⟩
 · by_cases e:p=f+(s-1)
   · rw[e,hlast];have h4:=hback (q-f) (by omega);rw[show f+(q-f)=q by omega] at h4;rw[h4];have:=h.low 0 (q-f) (by omega) (by omega) (by omega)
     rwa [show f+(q-f)=q by omega,Nat.add_zero] at this
   · have h4:=hback (q-f) (by omega);have h5:=hback (p-f) (by omega);rw[show f+(q-f)=q by omega] at h4;rw[show f+(p-f)=p by omega] at h5;rw[h4,h5];exact h.srt p q (by omega) h2 h3
 · by_cases e:q=s-1
   · subst e;rw[hlast];exact hall _ (fun p hp=> htop p hp) p h1
   · rw[hback q (by omega)];exact hall _ (fun p hp=> h.low p q hp (by omega) h3) p h1
section
variable(M:Md Tryz.prog)(H:View)
theorem heapSortS_c(dec:Int→List UInt8)(sb:Nat)(l:List Int)(jj:List Value)(n cap a b:Nat)(hn:n=l.length)(hE:Enc dec l)(hb:b≤n)(h1000:n≤100000000)(hab:a<b)(hS:H sb=some (true,.cells ⟨(strsL dec l)++jj⟩ 9 (0,0))):
   CallT M 199 #[.slice (some ⟨sb,0,none⟩) n cap,.int .i64 (a:Nat),.int .i64 (b:Nat)] H (SortSQ dec H sb jj (fun v m=> v=.tuple ⟨[]⟩∧Turned a b l m∧Srt a b m)):=by
 obtain⟨hi,hhi⟩:∃hi,hi=b-a:=⟨_,rfl⟩
 have e0:((b:Nat):Int)-((a:Nat):Int)=((hi:Nat):Int):=by omega
 have eb:b=a+hi:=by omega
 obtain⟨s0,hs0⟩:∃s0,s0=(hi-1)/2+1:=⟨_,rfl⟩
 have hq:intBin .quo .i64 (((hi:Nat):Int)-1) 2=some (.int .i64 (((s0:Nat):Int)-1)):=by
   rw[quo_in (by omega) (by omega) (by omega)]
   congr 2
   omega
 refine CallT.enter (vs:= [.slice (some ⟨sb,0,none⟩) n cap,.int .i64 (a:Nat),.int .i64 (b:Nat)]) Tryz.func199 rfl Tryz.ntmps199 (Nat.le_of_ble_eq_true rfl) (SymSt.pull hS) fun St c cs hK=> ?_;refine .sr ?_;refine .m ?_;refine .g ?_;refine .done (.sr ?_);refine .g ?_;refine .done (.sr ?_);refine .m ?_;refine .m ?_;refine .i ?_ (z:=sub_in (by omega) (by omega));refine .g ?_;refine .done ?_;rw[e0];refine .seq (.sr ?_);refine .m ?_;refine .i ?_ (z:=sub_in (by omega) (by omega));refine .i ?_ (z:=by assumption);refine .g ?_;refine .done (.block ?_);refine Tc.db (Tc.loopInv (σ:= { s:Nat×List Int//s.1≤hi∧Turned a b l s.2∧Heap a s.1 hi s.2 }) (fun s=> ([(0,.slice (some ⟨sb,0,none⟩) n cap),(6,.int .i64 (a:Nat)),(7,.int .i64 0),(8,.int .i64 (hi:Nat)),(9,.int .i64 ((s.1.1:Nat)-1))],[(sb,true,.cells ⟨(strsL dec s.1.2)++jj⟩ 9 (0,0))])) (fun s=> s.1.1) ?_
   ⟨(s0,l),by simp only;omega,Turned.refl ..,fun k c h1 h2 h3=> by simp only at h1;omega⟩)
 rintro⟨⟨s,u⟩,g1,g2,g3⟩ ih;simp only at g1 g2 g3;show Tc M St _ _ _ _ [(0,.slice (some ⟨sb,0,none⟩) n cap),(6,.int .i64 (a:Nat)),(7,.int .i64 0),(8,.int .i64 (hi:Nat)),(9,.int .i64 ((s:Nat)-1))] [(sb,true,.cells ⟨(strsL dec u)++jj⟩ 9 (0,0))] _ _;have hul:=g2.len;have hEu:=hE.turned g2;by_cases c1:1≤s
 · have e1:((s:Nat):Int)-1=((s-1:Nat):Int):=by omega
   rw[e1];refine .seq (.sr ?_);refine .m ?_;refine .j ?_;refine .done (.tt rfl (.skip (.seq (.block (.r ?_)))));refine .m ?_;refine .m ?_;refine .m ?_;refine .m ?_;refine .e (Or.sortsS (dec:=dec) (l:=u) 0 (fun v m=> v=.tuple ⟨[]⟩∧Turned a (a+hi) u m∧Heap a (s-1) hi m) rfl rfl rfl rfl rfl (by decide) rfl (fun H hs=> .f ca232 rfl (siftDownS_c M H dec sb u jj n cap (s-1) hi a (by omega) hEu (by omega) h1000 (by omega) (heap_less c1 g3) (hs.get (i:=0) rfl))) (fun v m ⟨hv,ht,hh⟩=> ?_));refine .done (.inBlock (.r ?_));refine .m ?_;refine .i ?_ (z:=sub_in (by omega) (by omega));refine .g ?_;refine .done ?_;exact Tc.db (ih ⟨(s-1,m),by simp only;omega,g2.trans (ht.wide (Nat.le_refl _) (by omega)),hh⟩ (by simp only;omega))
 · have es:s=0:=by omega
   subst es;refine .seq (.sr ?_);refine .m ?_;refine .j ?_;refine .done (.ff rfl (.exit rfl (.sr ?_)));refine .m ?_;refine .i ?_ (z:=sub_in (by omega) (by omega));refine .g ?_;refine .done (.block ?_);refine Tc.db (Tc.loopInv (σ:= { s:Nat×List Int//s.1≤hi∧Turned a b l s.2∧HeapTo a hi s.1 s.2 }) (fun s=> ([(0,.slice (some ⟨sb,0,none⟩) n cap),(6,.int .i64 (a:Nat)),(7,.int .i64 0),(10,.int .i64 ((s.1.1:Nat)-1))],[(sb,true,.cells ⟨(strsL dec s.1.2)++jj⟩ 9 (0,0))])) (fun s=> s.1.1) ?_
     ⟨(hi,u),Nat.le_refl _,g2,⟨g3,fun p q h1 h2 h3=> by omega,fun p q h1 h2 h3=> by omega⟩⟩)
   rintro⟨⟨s,w⟩,f1,f2,f3⟩ ih2;simp only at f1 f2 f3;show Tc M St _ _ _ _ [(0,.slice (some ⟨sb,0,none⟩) n cap),(6,.int .i64 (a:Nat)),(7,.int .i64 0),(10,.int .i64 ((s:Nat)-1))] [(sb,true,.cells ⟨(strsL dec w)++jj⟩ 9 (0,0))] _ _;have hwl:=f2.len;have hEw:=hE.turned f2;by_cases c2:1≤s
   · have e1:((s:Nat):Int)-1=((s-1:Nat):Int):=by omega
     rw[e1];have k1:=cellsS_ld (dec:=dec) (m:=w) (j:=jj) (k:=(a:Nat)) (p:=a) rfl (by omega);have k2:=cellsS_ld (dec:=dec) (m:=w) (j:=jj) (k:=(a:Nat)+((s-1:Nat):Int)) (p:=a+(s-1)) (by omega) (by omega);have s1:=cellsS_st (dec:=dec) (m:=w) (j:=jj) (k:=(a:Nat)) (x:=at0 w (a+(s-1))) (p:=a) rfl (by omega);have s2:=cellsS_st (dec:=dec) (m:=w.set a (at0 w (a+(s-1)))) (j:=jj) (k:=(a:Nat)+((s-1:Nat):Int)) (x:=at0 w a) (p:=a+(s-1)) (by omega) (by rw[List.length_set];omega);have l1:=cellsS_le (dec:=dec) (m:=w) (j:=jj) (k:=(a:Nat)) (p:=a) rfl (by omega);have l2:=cellsS_le (dec:=dec) (m:=w.set a (at0 w (a+(s-1)))) (j:=jj) (k:=(a:Nat)+((s-1:Nat):Int)) (p:=a+(s-1)) (by omega) (by rw[List.length_set];omega);have hsw:=Turned.swap (a:=a) (b:=b) (l:=w) (p:=a) (q:=a+(s-1)) (by omega) (by omega) (by omega) (by omega);refine .seq (.sr ?_);refine .m ?_;refine .j ?_;refine .done (.tt rfl (.skip (.seq (.block (.seq ?_)))));refine Tc.dr [17,19] [0] mixed rfl ?_;refine .q 0 rfl .mv ?_;refine .q 1 rfl .mv ?_;refine Ta.tkw 2 (by kernel_rfl) rfl rfl rfl (by decide) rfl rfl (OpV.take .mv) ?_;refine Ta.tkw 3 (by kernel_rfl) rfl rfl rfl (by decide) rfl rfl (OpV.take .mv) ?_;refine Ta.tkw 4 (by kernel_rfl) rfl rfl rfl (by decide) rfl rfl (OpV.take .mv) ?_;refine Ta.tkw 5 (by kernel_rfl) rfl rfl rfl (by decide) rfl rfl (OpV.take (.it (zz:=add_in (by omega) (by omega)))) ?_;refine .q 6 rfl .mv ?_;refine .q 7 rfl .mv ?_;refine .q 8 rfl .mv ?_;refine .q 9 rfl (.it (zz:=add_in (by omega) (by omega))) ?_;refine .q 10 rfl .ia ?_;refine .q 11 rfl (.ld 0) ?_;refine Ta.tkw 12 (by kernel_rfl) rfl rfl rfl (by decide) rfl rfl (OpV.take .mv) ?_;refine Ta.tkw 13 (by kernel_rfl) rfl rfl rfl (by decide) rfl rfl (OpV.take .mv) ?_;refine Ta.tkw 14 (by kernel_rfl) rfl rfl rfl (by decide) rfl rfl (OpV.take .ia) ?_;refine .q 15 rfl (.ld 0) ?_;refine .q 16 rfl .ia ?_;refine Ta.each [17] (by kernel_rfl) rfl ⟨TaOp.mk rfl rfl rfl (.st 0 (zz:=⟨S2.mk (by exact List.nil_sublist _) (.inl (by kernel_rfl)),?_⟩)),trivial⟩;refine Ta.tkw 18 (by kernel_rfl) rfl rfl rfl (by decide) rfl rfl (OpV.take .ia) ?_;refine Ta.each [19] (by kernel_rfl) rfl ⟨TaOp.mk rfl rfl rfl (.st 0 (zz:=⟨S2.mk (by exact List.nil_sublist _) (.inl (by kernel_rfl)),?_⟩)),trivial⟩;refine Ta.done (by kernel_rfl) ?_;refine .r ?_;refine .m ?_;refine .m ?_;refine .m ?_;refine .m ?_;refine .e (Or.sortsS (dec:=dec) (l:=swapL w a (a+(s-1))) 0 (fun v m=> v=.tuple ⟨[]⟩∧Turned a (a+(s-1)) (swapL w a (a+(s-1))) m∧Heap a 0 (s-1) m) rfl rfl rfl rfl rfl (by decide) rfl (fun H hs=> .f ca232 rfl (siftDownS_c M H dec sb (swapL w a (a+(s-1))) jj n cap 0 (s-1) a (by rw[swapL_len];omega) (hEw.turned hsw) (by omega) h1000 (by omega) (heap_but c2 f1 (by omega) f3) (hs.get (i:=0) rfl))) (fun v m ⟨hv,ht,hh⟩=> ?_));refine .done (.inBlock (.r ?_));refine .m ?_;refine .i ?_ (z:=sub_in (by omega) (by omega));refine .g ?_;refine .done ?_;exact Tc.db (ih2 ⟨(s-1,m),by simp only;omega,f2.trans (hsw.trans (ht.wide (Nat.le_refl _) (by omega))),heap_next c2 f1 (by omega) f3 ht hh⟩ (by simp only;omega))
   · have es:s=0:=by omega
     subst es;refine .seq (.sr ?_);refine .m ?_;refine .j ?_;refine .done (.ff rfl (.exit rfl ?_));refine Tc.overN (E:=en) hK Tryz.func199 Tryz.results199 (vs:= []) (by exact trivial) ?_;exact fun H' hs=> SortSQ.of (dec:=dec) hs (i:=0) rfl ⟨rfl,f2,eb▸f3.srt⟩
end
theorem Or.sortsIF {M:Md Tryz.prog}{n:Nat}{H₀:View}{R:Rg}{L:Bl}{o:Oper}{K:Rg→Bl→Prop}{cl:Go.Call}{x:Operand}{fv:Value}{az:List Value}{d:Nat}{σ:Type}(i:Nat){sb:Nat}{l:List Int}{j:List Value}(val:σ→Value)(mm:σ→List Int)(p:σ→Prop)
   (hop:o.op=.call cl) (hcl:cl.callee=.value x) (hx:evR R x=some fv) (has:evRs R cl.args.toList=some az) (hd:o.dst=some d) (hn:d<n) (hi:L[i]? =some (sb,true,.cells ⟨intsL l++j⟩ 3 (0,0)))
   (hc:∀H,SymSt H₀ L H→FnT M fv az H (SortIQ H sb j fun v m=> ∃s,v=val s∧m=mm s∧p s)) (hk:∀s,p s→K ((d,val s)::R) (L.set i (sb,true,.cells ⟨intsL (mm s)++j⟩ 3 (0,0)))):Or M n H₀ R L o K:=
 Or.sortsI i (fun v m=> ∃s,v=val s∧m=mm s∧p s) hop hcl hx has hd hn hi hc fun v m h=> by
   obtain⟨s,rfl,rfl,h3⟩:=h;exact hk s h3
def twoV(s:Nat×Nat×Int):Value:=.tuple ⟨[.int .i64 (s.1:Nat),.int .i64 (s.2.1:Nat)]⟩
def twoP(p q:Nat)(z:Int)(s:Nat×Nat×Int):Prop:=(s.1=p∧s.2.1=q∨s.1=q∧s.2.1=p)∧z≤s.2.2∧s.2.2≤z+1
section
variable(M:Md Tryz.prog)(H:View)
theorem order2S_c(dec:Int→List UInt8)(sb cb:Nat)(f:Bool)(l:List Int)(jj:List Value)(n cap p q:Nat)(z:Int)(hn:n=l.length)(hE:Enc dec l)(hp:p<n)(hq:q<n)(hz:0≤z∧z≤1000)(hne:sb≠cb)(hS:H sb=some (f,.cells ⟨(strsL dec l)++jj⟩ 9 (0,0)))(hC:H cb=some (true,.cells ⟨[.int .i64 z]⟩ 3 (0,0))):
   CallT M 247 #[.slice (some ⟨sb,0,none⟩) n cap,.int .i64 (p:Nat),.int .i64 (q:Nat),.pointer (some ⟨cb,0,none⟩)] H (SortIQ H cb [] (fun v m=> ∃s,v=twoV s∧m= [s.2.2]∧twoP p q z s)):=by
 have hS':(H.without cb) sb=some (f,.cells ⟨(strsL dec l)++jj⟩ 9 (0,0)):=by rw[without_other hne];exact hS
 have k1:=cellsS_ld (dec:=dec) (m:=l) (j:=jj) (k:=(p:Nat)) (p:=p) rfl (by omega);have k2:=cellsS_ld (dec:=dec) (m:=l) (j:=jj) (k:=(q:Nat)) (p:=q) rfl (by omega);refine CallT.enter (vs:= [.slice (some ⟨sb,0,none⟩) n cap,.int .i64 (p:Nat),.int .i64 (q:Nat),.pointer (some ⟨cb,0,none⟩)]) Tryz.func247 rfl Tryz.ntmps247 (Nat.le_of_ble_eq_true rfl) (SymSt.pull hC) fun St c cs hK=> ?_;by_cases c1:at0 l q<at0 l p
 · refine .sr ?_;refine .g ?_;refine .g ?_;refine .done (.seq (.seq ?_));refine Tc.dr [] [] mixed rfl ?_;refine .q 0 rfl .mv ?_;refine .q 1 rfl .mv ?_;refine .q 2 rfl .ia ?_;refine .q 3 rfl .l0 ?_;refine .q 4 rfl .mv ?_;refine .q 5 rfl .mv ?_;refine .q 6 rfl .ia ?_;refine .q 7 rfl .l0 ?_;refine .z 8 rfl (OpV.takeCall rfl rfl rfl rfl (fun H hs=> .f ca204 rfl (lessS M H hE (at0_mem (by omega)) (at0_mem (by omega)) true (decide_eq_true c1)))) ?_;refine Ta.done (by kernel_rfl) ?_;refine .tt rfl (.sr ?_);refine .m ?_;refine .x .nk ?_;refine .x (.ld 0) ?_;refine .j ?_;refine .x .nk ?_;refine .e (.st 0 (zz:=?_));refine .done (.sr ?_);refine .m ?_;refine .m ?_;refine .g ?_;refine .g ?_;refine .done ?_;refine .rt hK Tryz.func247 Tryz.results247 [_,_] ?_;exact fun H' hs=> SortIQ.of (m:= [z+1]) hs (i:=0) rfl ⟨(q,p,z+1),rfl,rfl,.inr ⟨rfl,rfl⟩,by simp only;omega,by simp only;omega⟩
 · refine .sr ?_;refine .g ?_;refine .g ?_;refine .done (.seq (.seq ?_));refine Tc.dr [] [] mixed rfl ?_;refine .q 0 rfl .mv ?_;refine .q 1 rfl .mv ?_;refine .q 2 rfl .ia ?_;refine .q 3 rfl .l0 ?_;refine .q 4 rfl .mv ?_;refine .q 5 rfl .mv ?_;refine .q 6 rfl .ia ?_;refine .q 7 rfl .l0 ?_;refine .z 8 rfl (OpV.takeCall rfl rfl rfl rfl (fun H hs=> .f ca204 rfl (lessS M H hE (at0_mem (by omega)) (at0_mem (by omega)) false (decide_eq_false c1)))) ?_;refine Ta.done (by kernel_rfl) ?_;refine .ff rfl (.skip (.sr ?_));refine .m ?_;refine .m ?_;refine .g ?_;refine .g ?_;refine .done ?_;refine .rt hK Tryz.func247 Tryz.results247 [_,_] ?_;exact fun H' hs=> SortIQ.of (m:= [z]) hs (i:=0) rfl ⟨(p,q,z),rfl,rfl,.inl ⟨rfl,rfl⟩,by simp only;omega,by simp only;omega⟩
theorem medianS_c(dec:Int→List UInt8)(sb cb:Nat)(f:Bool)(l:List Int)(jj:List Value)(n cap p q r:Nat)(z:Int)(hn:n=l.length)(hE:Enc dec l)(hp:p<n)(hq:q<n)(hr:r<n)(hz:0≤z∧z≤900)(hne:sb≠cb)(hS:H sb=some (f,.cells ⟨(strsL dec l)++jj⟩ 9 (0,0)))(hC:H cb=some (true,.cells ⟨[.int .i64 z]⟩ 3 (0,0))):
   CallT M 236 #[.slice (some ⟨sb,0,none⟩) n cap,.int .i64 (p:Nat),.int .i64 (q:Nat),.int .i64 (r:Nat),.pointer (some ⟨cb,0,none⟩)] H (SortIQ H cb [] (fun v m=> ∃s:Nat×Int,v=.int .i64 (s.1:Nat)∧m= [s.2]∧((s.1=p∨s.1=q∨s.1=r)∧z≤s.2∧s.2≤z+3))):=by
 have hS':(H.without cb) sb=some (f,.cells ⟨(strsL dec l)++jj⟩ 9 (0,0)):=by rw[without_other hne];exact hS
 refine CallT.enter (vs:= [.slice (some ⟨sb,0,none⟩) n cap,.int .i64 (p:Nat),.int .i64 (q:Nat),.int .i64 (r:Nat),.pointer (some ⟨cb,0,none⟩)]) Tryz.func236 rfl Tryz.ntmps236 (Nat.le_of_ble_eq_true rfl) (SymSt.pull hC) fun St c cs hK=> ?_;refine .sr ?_;refine .g ?_;refine .done (.sr ?_);refine .m ?_;refine .m ?_;refine .m ?_;refine .m ?_;refine .e (Or.sortsIF (l:= [z]) (j:= []) 0 twoV (fun s=> [s.2.2]) (twoP p q z) rfl rfl rfl rfl rfl (by decide) rfl (fun H hs=> .f ca247 rfl (order2S_c M H dec sb cb f l jj n cap p q z hn hE hp hq (by omega) hne (hs.base _ _ hS') (hs.get (i:=0) rfl))) (fun⟨x1,y1,z1⟩ ⟨o1,o2,o3⟩=> ?_));refine .m ?_;refine .x .et ?_;refine .x .et ?_;refine .g ?_;refine .g ?_;refine .done ?_;simp only at o1 o2 o3;refine .sr ?_;refine .m ?_;refine .m ?_;refine .m ?_;refine .m ?_;refine .e (Or.sortsIF (l:= [z1]) (j:= []) 0 twoV (fun s=> [s.2.2]) (twoP y1 r z1) rfl rfl rfl rfl rfl (by decide) rfl (fun H hs=> .f ca247 rfl (order2S_c M H dec sb cb f l jj n cap y1 r z1 hn hE (by omega) hr (by omega) hne (hs.base _ _ hS') (hs.get (i:=0) rfl))) (fun⟨x2,y2,z2⟩ ⟨p1,p2,p3⟩=> ?_));refine .m ?_;refine .x .et ?_;refine .x .et ?_;refine .g ?_;refine .g ?_;refine .done ?_;simp only at p1 p2 p3;refine .sr ?_;refine .m ?_;refine .m ?_;refine .m ?_;refine .m ?_;refine .e (Or.sortsIF (l:= [z2]) (j:= []) 0 twoV (fun s=> [s.2.2]) (twoP x1 x2 z2) rfl rfl rfl rfl rfl (by decide) rfl (fun H hs=> .f ca247 rfl (order2S_c M H dec sb cb f l jj n cap x1 x2 z2 hn hE (by omega) (by omega) (by omega) hne (hs.base _ _ hS') (hs.get (i:=0) rfl))) (fun⟨x3,y3,z3⟩ ⟨q1,q2,q3⟩=> ?_));refine .m ?_;refine .x .et ?_;refine .x .et ?_;refine .g ?_;refine .g ?_;refine .done ?_;simp only at q1 q2 q3;refine .sr ?_;refine .m ?_;refine .g ?_;refine .done ?_;refine .rt hK Tryz.func236 Tryz.results236 [_] ?_;exact fun H' hs=> SortIQ.of (m:= [z3]) hs (i:=0) rfl ⟨(y3,z3),rfl,rfl,by simp only;omega,by simp only;omega,by simp only;omega⟩
def pivV(s:Nat×Nat):Value:=.tuple ⟨[.int .i64 (s.1:Nat),.int .i64 (s.2:Nat)]⟩
theorem medianAdjS_c(dec:Int→List UInt8)(sb cb:Nat)(f:Bool)(l:List Int)(jj:List Value)(n cap p:Nat)(z:Int)(hn:n=l.length)(hE:Enc dec l)(h1000:n≤100000000)(hp:1≤p∧p+1<n)(hz:0≤z∧z≤900)(hne:sb≠cb)(hS:H sb=some (f,.cells ⟨(strsL dec l)++jj⟩ 9 (0,0)))(hC:H cb=some (true,.cells ⟨[.int .i64 z]⟩ 3 (0,0))):
   CallT M 235 #[.slice (some ⟨sb,0,none⟩) n cap,.int .i64 (p:Nat),.pointer (some ⟨cb,0,none⟩)] H (SortIQ H cb [] (fun v m=> ∃s:Nat×Int,v=.int .i64 (s.1:Nat)∧m= [s.2]∧((s.1=p-1∨s.1=p∨s.1=p+1)∧z≤s.2∧s.2≤z+3))):=by
 have hS':(H.without cb) sb=some (f,.cells ⟨(strsL dec l)++jj⟩ 9 (0,0)):=by rw[without_other hne];exact hS
 have e1:intBin .sub .i64 (p:Nat) 1=some (.int .i64 ((p-1:Nat):Int)):=by rw[sub_in (by omega) (by omega)];congr 2;omega
 have e2:intBin .add .i64 (p:Nat) 1=some (.int .i64 ((p+1:Nat):Int)):=by rw[add_in (by omega) (by omega)];rfl
 refine CallT.enter (vs:= [.slice (some ⟨sb,0,none⟩) n cap,.int .i64 (p:Nat),.pointer (some ⟨cb,0,none⟩)]) Tryz.func235 rfl Tryz.ntmps235 (Nat.le_of_ble_eq_true rfl) (SymSt.pull hC) fun St c cs hK=> ?_;refine .sr ?_;refine .g ?_;refine .done (.sr ?_);refine .m ?_;refine .m ?_;refine .i ?_ (z:=by assumption);refine .m ?_;refine .m ?_;refine .i ?_ (z:=by assumption);refine .m ?_;refine .e (Or.sortsIF (l:= [z]) (j:= []) 0 (fun s:Nat×Int=> .int .i64 (s.1:Nat)) (fun s=> [s.2]) (fun s=> (s.1=p-1∨s.1=p∨s.1=p+1)∧z≤s.2∧s.2≤z+3) rfl rfl rfl rfl rfl (by decide) rfl (fun H hs=> .f ca236 rfl (medianS_c M H dec sb cb f l jj n cap (p-1) p (p+1) z hn hE (by omega) (by omega) (by omega) (by omega) hne (hs.base _ _ hS') (hs.get (i:=0) rfl))) (fun⟨x1,z1⟩ ⟨o1,o2,o3⟩=> ?_));refine .g ?_;refine .done ?_;simp only at o1 o2 o3;refine .rt hK Tryz.func235 Tryz.results235 [_] ?_;exact fun H' hs=> SortIQ.of (m:= [z1]) hs (i:=0) rfl ⟨(x1,z1),rfl,rfl,o1,o2,o3⟩
theorem choosePivotS_c(dec:Int→List UInt8)(sb:Nat)(f:Bool)(l:List Int)(jj:List Value)(n cap a b:Nat)(hn:n=l.length)(hE:Enc dec l)(h1000:n≤100000000)(hb:b≤n)(h8:a+8≤b)(hS:H sb=some (f,.cells ⟨(strsL dec l)++jj⟩ 9 (0,0))):
   CallT M 201 #[.slice (some ⟨sb,0,none⟩) n cap,.int .i64 (a:Nat),.int .i64 (b:Nat)] H (fun v H'=> H.le H'∧∃s:Nat×Nat,v=pivV s∧(a≤s.1∧s.1<b∧s.2≤2)∧∀y∈([]:Bl),H' y.1=some y.2∧H y.1=none):=by
 obtain⟨m,hm⟩:∃m,m=b-a:=⟨_,rfl⟩
 obtain⟨w,hw⟩:∃w,w=m/4:=⟨_,rfl⟩
 have e0:((b:Nat):Int)-((a:Nat):Int)=((m:Nat):Int):=by omega
 have hq:intBin .quo .i64 ((m:Nat):Int) 4=some (.int .i64 ((w:Nat):Int)):=by
   rw[quo_in (by omega) (by omega) (by omega)]
   congr 2
   omega
 have e1:((a:Nat):Int)+((w:Nat):Int)*1=((a+w:Nat):Int):=by omega
 have e2:((a:Nat):Int)+((w:Nat):Int)*2=((a+w*2:Nat):Int):=by omega
 have e3:((a:Nat):Int)+((w:Nat):Int)*3=((a+w*3:Nat):Int):=by omega
 refine .en Tryz.func201 Tryz.ntmps201 fun St c cs hK=> ?_;refine .sr ?_;refine .g ?_;refine .g ?_;refine .done (.sr ?_);refine .m ?_;refine .m ?_;refine .i ?_ (z:=sub_in (by omega) (by omega));refine .g ?_;refine .done ?_;rw[e0];refine .sr ?_;refine .e (.al (zz:=fun b9=> ?_));refine .done (.sr ?_);refine .m ?_;refine .m ?_;refine .i ?_ (z:=by assumption);refine .i ?_ (z:=mul_in (by omega) (by omega));refine .j ?_;refine .g ?_;refine .done ?_;rw[e1];refine .sr ?_;refine .m ?_;refine .m ?_;refine .i ?_ (z:=by assumption);refine .i ?_ (z:=mul_in (by omega) (by omega));refine .j ?_;refine .g ?_;refine .done ?_;rw[e2];refine .sr ?_;refine .m ?_;refine .m ?_;refine .i ?_ (z:=by assumption);refine .i ?_ (z:=mul_in (by omega) (by omega));refine .j ?_;refine .g ?_;refine .done ?_;rw[e3];refine .seq (.sr ?_);refine .m ?_;refine .j ?_;refine .done (.tt rfl ?_);refine Tc.lift (L₂:= [(b9,true,.cells ⟨[.int .i64 0]⟩ 3 (0,0))]) (L₁:= []) rfl (fun Hx hx=> ?_);have hle:=hx.base;have hSx:=hx.base _ _ hS;have hne:∀(z:Int) H',SymSt Hx [(b9,true,.cells ⟨[.int .i64 z]⟩ 3 (0,0))] H'→sb≠b9:=fun z H' hs e=> by
   have:=hs.out (b9,true,.cells ⟨[.int .i64 z]⟩ 3 (0,0)) (by simp);rw[←e,hSx] at this;cases this
 clear hx;refine .seq ?_;refine Tc.via (fun R' L'=> ∃(p q r:Nat) (z:Int),((a≤p∧p<b)∧(a≤q∧q<b)∧(a≤r∧r<b)∧(0≤z∧z≤9))∧AllIn [(0,.slice (some ⟨sb,0,none⟩) n cap),(9,.pointer (some ⟨b9,0,none⟩)),(10,.int .i64 (p:Nat)),(11,.int .i64 (q:Nat)),(12,.int .i64 (r:Nat))] R'∧List.Sublist [(b9,true,.cells ⟨[.int .i64 z]⟩ 3 (0,0))] L') ?_ (fun fin=> ?_)
 rotate_left
 · by_cases c50:50≤m
   · refine .sr ?_;refine .m ?_;refine .j ?_;refine .done (.tt rfl (.sr ?_));refine .m ?_;refine .m ?_;refine .e (Or.sortsIF (l:= [0]) (j:= []) 0 (fun s:Nat×Int=> .int .i64 (s.1:Nat)) (fun s=> [s.2]) (fun s=> (s.1=a+w-1∨s.1=a+w∨s.1=a+w+1)∧0≤s.2∧s.2≤0+3) rfl rfl rfl rfl rfl (by decide) rfl (fun H hs=> .f ca235 rfl (medianAdjS_c M H dec sb b9 f l jj n cap (a+w) 0 hn hE h1000 (by omega) (by omega) (hne _ H hs) (hs.base _ _ hSx) (hs.get (i:=0) rfl))) (fun⟨x1,zx1⟩ ⟨ox1,ux1,vx1⟩=> ?_));refine .g ?_;refine .done ?_;simp only at ox1 ux1 vx1;refine .sr ?_;refine .m ?_;refine .m ?_;refine .e (Or.sortsIF (l:= [zx1]) (j:= []) 0 (fun s:Nat×Int=> .int .i64 (s.1:Nat)) (fun s=> [s.2]) (fun s=> (s.1=a+w*2-1∨s.1=a+w*2∨s.1=a+w*2+1)∧zx1≤s.2∧s.2≤zx1+3) rfl rfl rfl rfl rfl (by decide) rfl (fun H hs=> .f ca235 rfl (medianAdjS_c M H dec sb b9 f l jj n cap (a+w*2) zx1 hn hE h1000 (by omega) (by omega) (hne _ H hs) (hs.base _ _ hSx) (hs.get (i:=0) rfl))) (fun⟨x2,zx2⟩ ⟨ox2,ux2,vx2⟩=> ?_));refine .g ?_;refine .done ?_;simp only at ox2 ux2 vx2;refine .r ?_;refine .m ?_;refine .m ?_;refine .e (Or.sortsIF (l:= [zx2]) (j:= []) 0 (fun s:Nat×Int=> .int .i64 (s.1:Nat)) (fun s=> [s.2]) (fun s=> (s.1=a+w*3-1∨s.1=a+w*3∨s.1=a+w*3+1)∧zx2≤s.2∧s.2≤zx2+3) rfl rfl rfl rfl rfl (by decide) rfl (fun H hs=> .f ca235 rfl (medianAdjS_c M H dec sb b9 f l jj n cap (a+w*3) zx2 hn hE h1000 (by omega) (by omega) (hne _ H hs) (hs.base _ _ hSx) (hs.get (i:=0) rfl))) (fun⟨x3,zx3⟩ ⟨ox3,ux3,vx3⟩=> ?_));refine .g ?_;refine .done ?_;simp only at ox3 ux3 vx3;exact fin _ _ ⟨x1,x2,x3,zx3,⟨by omega,by omega,by omega,by omega⟩,⟨rfl,rfl,rfl,rfl,rfl,trivial⟩,(by exact List.Sublist.refl _)⟩
   · refine .sr ?_;refine .m ?_;refine .j ?_;refine .done (.ff rfl (.skip ?_));exact fin _ _ ⟨a+w,a+w*2,a+w*3,0,⟨by omega,by omega,by omega,by omega⟩,⟨rfl,rfl,rfl,rfl,rfl,trivial⟩,(by exact List.Sublist.refl _)⟩
 rintro R' L' ⟨p,q,r,z,⟨hp,hq2,hr,hz⟩,hRR,hLL⟩;refine Tc.dropB (R':= [(0,.slice (some ⟨sb,0,none⟩) n cap),(9,.pointer (some ⟨b9,0,none⟩)),(10,.int .i64 (p:Nat)),(11,.int .i64 (q:Nat)),(12,.int .i64 (r:Nat))]) (L':= [(b9,true,.cells ⟨[.int .i64 z]⟩ 3 (0,0))]) ?_ hRR hLL;clear hRR hLL;refine .r ?_;refine .m ?_;refine .m ?_;refine .m ?_;refine .m ?_;refine .e (Or.sortsIF (l:= [z]) (j:= []) 0 (fun s:Nat×Int=> .int .i64 (s.1:Nat)) (fun s=> [s.2]) (fun s=> (s.1=p∨s.1=q∨s.1=r)∧z≤s.2∧s.2≤z+3) rfl rfl rfl rfl rfl (by decide) rfl (fun H hs=> .f ca236 rfl (medianS_c M H dec sb b9 f l jj n cap p q r z hn hE (by omega) (by omega) (by omega) (by omega) (hne _ H hs) (hs.base _ _ hSx) (hs.get (i:=0) rfl))) (fun⟨x1,z1⟩ ⟨o1,o2,o3⟩=> ?_));refine .g ?_;refine .done ?_;simp only at o1 o2 o3;clear hne;refine .sr ?_;refine .x (.ld 0) ?_;refine .done (.block (.seq ?_));by_cases c1:z1=0
 · refine .r ?_;refine .j ?_;refine .g ?_;refine .done (.tt rfl (.sr ?_));refine .m ?_;refine .g ?_;refine .g ?_;refine .done ?_;refine .rt hK Tryz.func201 Tryz.results201 [_,_] ?_;exact fun H' hs=> ⟨View.le_trans hle hs.base,(x1,1),rfl,⟨by simp only;omega,by simp only;omega,by simp⟩,by simp⟩
 · by_cases c2:z1=12
   · refine .r ?_;refine .j ?_;refine .g ?_;refine .done (.ff rfl (.sr ?_));refine .j ?_;refine .g ?_;refine .done (.tt rfl (.sr ?_));refine .m ?_;refine .g ?_;refine .g ?_;refine .done ?_;refine .rt hK Tryz.func201 Tryz.results201 [_,_] ?_;exact fun H' hs=> ⟨View.le_trans hle hs.base,(x1,2),rfl,⟨by simp only;omega,by simp only;omega,by simp⟩,by simp⟩
   · refine .r ?_;refine .j ?_;refine .g ?_;refine .done (.ff rfl (.sr ?_));refine .j ?_;refine .g ?_;refine .done (.ff rfl (.sr ?_));refine .m ?_;refine .g ?_;refine .g ?_;refine .done ?_;refine .rt hK Tryz.func201 Tryz.results201 [_,_] ?_;exact fun H' hs=> ⟨View.le_trans hle hs.base,(x1,0),rfl,⟨by simp only;omega,by simp only;omega,by simp⟩,by simp⟩
end
end Go.Proofs.YtdnfdeplcjaonaaGreatDoor
