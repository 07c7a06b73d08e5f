/-
 Texts of the proofs over baudot/dial.
-/
import Derived.Test.YtldmfjcgjdchcaaGreatDoorL12
namespace Go.Proofs.YtldmfjcgjdchcaaGreatDoor
open Go.RL Go.Proofs.Tryz Go.Conc Go.ConcN Go.RL.Au
open Go.ConcR (stA smA)
open Go.ConcM (OsLater)
set_option maxRecDepth 10000
set_option maxHeartbeats 1000000
section
variable {X:Fk}{H:View}{Fin:Goroutine->Prop}{j:Nat}{cc:Frame}{cs:List Frame}
noncomputable def aDP:Code:=cB (cB (cR (dM Tryz.f128)))
abbrev aFD:FB:=⟨128,.normal,none⟩
attribute [local irreducible] IntKind.wrap kI Int.fdiv in
theorem A1(hc:Cl prog true RZ Fin)(hK:Fin (G (cc.finish (.tuple #[])) cs))(k:Nat):∀R:Rg,PB [(0,.pointer (some ⟨X.Wg,0,none⟩))] R->Sc (Jm prog X Fin k .w1 j H) 84 aFD (cc::cs) R [] [.code aDP,.inLoop aDP,.inBlock 0]:=by
 induction k using Nat.strongRecOn with
 | ind k IH=>
  intro R hR;refine Sc.drop hR ?_;have HK:=yP X;have aG9:=RY X;refine Sc.block (by first|exact Jm.cl|exact hc) ?_;refine Sc.seq (by first|exact Jm.cl|exact hc) ?_;refine .rg rfl rfl ?_;refine .m ?_;refine .x .nk ?_;refine .x (.fa (zz:=gG)) ?_;refine So.EC rfl rfl rfl nofun rfl (.mk' rfl) rfl (kX Jm.cl km (Jm.w1 aBA)) ?_;rintro v J' ⟨k1,t,m8,⟨a,ha,rfl,rfl⟩,rfl⟩;have e0:((a*4294967296:Nat):Int)=((a*4294967296+0:Nat):Int):=(congrArg (fun x:Nat=> (x:Int)) (Nat.add_zero _)).symm;have g1:pA .and .u64 ((a*4294967296:Nat):Int) 2147483648=some (.int .u64 0):=by rw[e0,<-kS a oM 0 oM];rfl
  have g2:pA .and .u64 ((a*4294967296:Nat):Int) 2147483647=some (.int .u64 0):=by
   have:=lS a oM 0 oM;rw[e0];exact congrArg (fun x=> some (Value.int .u64 x)) this
  have g3:DC .shr .u64 ((a*4294967296:Nat):Int) 32=some (.int .u64 (a:Int)):=by rw[e0,<-mS a oM 0 oM];rfl
  have g4:=YY a oM;have g5:IntKind.u32.wrap 0=0:=wT 0 oM;have g6:pA .add .u64 ((a*4294967296:Nat):Int) 1=some (.int .u64 ((a*4294967296+1:Nat):Int)):=by
   have h:∀a:Nat,a<8->IntKind.u64.wrap (((a*4294967296:Nat):Int)+1)=((a*4294967296+1:Nat):Int):=by decide +kernel
   exact congrArg (fun x=> some (Value.int .u64 x)) (h a oM)
  refine .g ?_;refine .dn ?_;refine Sc.drop (R':= [(0,.pointer (some ⟨X.Wg,0,none⟩)),(2,.int .u64 ((a*4294967296:Nat):Int))]) ⟨rfl,rfl,trivial⟩ ?_;refine Sc.seq (by first|exact Jm.cl|exact hc) ?_;refine .rg rfl rfl ?_;refine .m ?_;refine .x (zD.shift rfl rfl rfl oM (by assumption)) ?_;refine .x (zD.conv rfl rfl aH uR (by assumption)) ?_;refine .g ?_;refine .dn ?_;refine Sc.drop (R':= [(0,.pointer (some ⟨X.Wg,0,none⟩)),(2,.int .u64 ((a*4294967296:Nat):Int)),(3,.int .i32 (a:Int))]) ⟨rfl,rfl,rfl,trivial⟩ ?_;refine Sc.seq (by first|exact Jm.cl|exact hc) ?_;refine .rg rfl rfl ?_;refine .m ?_;refine .i ?_ (z:=by assumption);refine .x (zD.conv rfl rfl aH rT (by assumption)) ?_;refine .g ?_;refine .dn ?_;refine Sc.drop (R':= [(0,.pointer (some ⟨X.Wg,0,none⟩)),(2,.int .u64 ((a*4294967296:Nat):Int)),(3,.int .i32 (a:Int)),(4,.int .u32 0)]) ⟨rfl,rfl,rfl,rfl,trivial⟩ ?_;refine Sc.seq (by first|exact Jm.cl|exact hc) ?_;refine Sc.seq (by first|exact Jm.cl|exact hc) ?_;by_cases hz:a=0
  ·rw[if_pos hz];have q1:pA .eql .i32 (a:Int) 0=some (.bool true):=VM oM;refine .rg rfl rfl ?_;refine .m ?_;refine .i ?_ (z:=by assumption);refine .dn ?_;refine Sc.cond (by first|exact Jm.cl|exact hc) (t:=true) rfl (fun _=> ?_) (fun h=> nomatch h);refine Sc.seq (by first|exact Jm.cl|exact hc) ?_;refine Sc.cond (by first|exact Jm.cl|exact hc) (t:=true) rfl (fun _=> ?_) (fun h=> nomatch h);refine Sc.seq (by first|exact Jm.cl|exact hc) ?_;refine .rg rfl rfl ?_;refine So.EC rfl rfl rfl nofun rfl (.mk' rfl) rfl (Jm.we tZ) ?_;rintro v J' ⟨k2,t,QW,⟨rfl,rfl⟩,rfl⟩;refine .dn (.rg rfl rfl ?_);refine .m ?_;refine .x (zD.raw rfl rfl NX KP HX (by assumption)) ?_;refine So.EC rfl rfl rfl nofun rfl (.mk' rfl) rfl (Jm.aq aEh) ?_;rintro v J' ⟨rfl,rfl⟩;refine .dn (.sq (.sq (.rg rfl rfl ?_)));refine .m ?_;refine .i ?_ (z:=VM oM);refine .m ?_;refine .m ?_;refine .i ?_ (z:=by assumption);refine .i ?_ (z:=oG oM);refine .x .pk ?_;refine .m ?_;refine .sk ?_;refine .sk ?_;refine .x .pk ?_;refine .dn (.ff rfl (.sp ?_));refine Sc.SD (by exact hc) rfl (Sb.leave (by exact hc) func128 rfl (by exact .inl ⟨results128,rfl⟩) ?_);exact hK
  ·rw[if_neg hz];have q1:pA .eql .i32 (a:Int) 0=some (.bool false):=LQ oM;refine .rg rfl rfl ?_;refine .m ?_;refine .i ?_ (z:=by assumption);refine .dn ?_;refine Sc.cond (by first|exact Jm.cl|exact hc) (t:=false) rfl (fun h=> nomatch h) (fun _=> ?_);refine Sc.skip (by first|exact Jm.cl|exact hc) ?_;refine Sc.seq (by first|exact Jm.cl|exact hc) ?_;refine .rg rfl rfl ?_;refine .m ?_;refine .x .nk ?_;refine .x (.fa (zz:=gG)) ?_;refine .m ?_;refine .m ?_;refine .i ?_ (z:=by assumption);refine So.EC rfl rfl rfl nofun rfl (.mk' rfl) rfl (aEd Jm.cl km (Jm.w2 aFO)) ?_;rintro v J' ⟨k2,t,QW,⟨rfl,rfl⟩|⟨rfl,rfl⟩,rfl⟩
   ·refine .dn ?_;refine Sc.cond (by first|exact Jm.cl|exact hc) (t:=true) rfl (fun _=> ?_) (fun h=> nomatch h);refine Sc.seq (by first|exact Jm.cl|exact hc) ?_;refine Sc.seq (by first|exact Jm.cl|exact hc) ?_;refine Sc.drop (R':= [(0,.pointer (some ⟨X.Wg,0,none⟩)),(2,.int .u64 ((a*4294967296:Nat):Int)),(4,.int .u32 0)]) ⟨rfl,rfl,rfl,trivial⟩ ?_;refine .rg rfl rfl ?_;refine .m ?_;refine .m ?_;refine .i ?_ (z:=VM oM);refine .x .pk ?_;refine .dn ?_;refine Sc.cond (by first|exact Jm.cl|exact hc) (t:=true) rfl (fun _=> ?_) (fun h=> nomatch h);refine .rg rfl rfl ?_;refine .m ?_;refine .x .nk ?_;refine .x (.fa (zz:=jL)) ?_;refine .x (zD.raw rfl rfl L7 KP C7 (by assumption)) ?_;refine So.EC rfl rfl rfl nofun rfl (.mk' rfl) rfl (Jm.wm aFK) ?_;rintro v J' ⟨rfl,k3,hk3,rfl⟩;refine .dn ?_;refine Sc.drop (R':= [(0,.pointer (some ⟨X.Wg,0,none⟩)),(2,.int .u64 ((a*4294967296:Nat):Int)),(4,.int .u32 0)]) ⟨rfl,rfl,rfl,trivial⟩ ?_;refine Sc.seq (by first|exact Jm.cl|exact hc) ?_;refine .rg rfl rfl ?_;refine .g ?_;refine .dn ?_;refine Sc.seq (by first|exact Jm.cl|exact hc) ?_;refine Sc.seq (by first|exact Jm.cl|exact hc) ?_;refine .rg rfl rfl ?_;refine .m ?_;refine .i ?_ (z:=by assumption);refine .i ?_ (z:=oG oM);refine .m ?_;refine .sk ?_;refine .x .pk ?_;refine .dn ?_;refine Sc.cond (by first|exact Jm.cl|exact hc) (t:=false) rfl (fun h=> nomatch h) (fun _=> ?_);refine Sc.skip (by first|exact Jm.cl|exact hc) ?_;refine Sc.seq (by first|exact Jm.cl|exact hc) ?_;refine .rg rfl rfl ?_;refine .m ?_;refine .x .nk ?_;refine .x (.fa (zz:=jL)) ?_;refine .m ?_;refine So.EC rfl rfl rfl nofun rfl (.mk' rfl) rfl (Jm.ws (vs:= [.pointer (some ⟨X.Wg,1,none⟩),.bool false]) aFL rfl) ?_;rintro v J' ⟨k4,t,hk4,⟨rfl,rfl⟩,rfl⟩;refine .dn ?_;refine Sc.drop (R':= [(0,.pointer (some ⟨X.Wg,0,none⟩))]) ⟨rfl,trivial⟩ ?_;refine Sc.seq (by first|exact Jm.cl|exact hc) ?_;refine .rg rfl rfl ?_;refine .m ?_;refine .x .nk ?_;refine .x (.fa (zz:=gG)) ?_;refine So.EC rfl rfl rfl nofun rfl (.mk' rfl) rfl (kX Jm.cl km (Jm.w4 aBA)) ?_;rintro v J' ⟨k5,t,hk5,⟨rfl,rfl⟩,rfl⟩;refine .i ?_ (z:=oG oM);refine .g ?_;refine .dn ?_;refine Sc.seq (by first|exact Jm.cl|exact hc) ?_;refine Sc.cond (by first|exact Jm.cl|exact hc) (t:=true) rfl (fun _=> ?_) (fun h=> nomatch h);refine Sc.seq (by first|exact Jm.cl|exact hc) ?_;refine .rg rfl rfl ?_;refine So.EC rfl rfl rfl nofun rfl (.mk' rfl) rfl (Jm.we tZ) ?_;rintro v J' ⟨k6,t,hk6,⟨rfl,rfl⟩,rfl⟩;refine .dn (.rg rfl rfl ?_);refine .m ?_;refine .x (zD.raw rfl rfl NX KP HX (by assumption)) ?_;refine So.EC rfl rfl rfl nofun rfl (.mk' rfl) rfl (Jm.aq aEh) ?_;rintro v J' ⟨rfl,rfl⟩;refine .dn (.sq (.sq (.rg rfl rfl ?_)));refine .m ?_;refine .dn (.ff rfl (.sp ?_));refine Sc.SD (by exact hc) rfl (Sb.leave (by exact hc) func128 rfl (by exact .inl ⟨results128,rfl⟩) ?_);exact hK
   ·refine .dn ?_;refine Sc.cond (by first|exact Jm.cl|exact hc) (t:=false) rfl (fun h=> nomatch h) (fun _=> ?_);refine Sc.skip (by first|exact Jm.cl|exact hc) ?_;refine Sc.inBlock (by first|exact Jm.cl|exact hc) ?_;refine Sc.inLoop (by exact Jm.cl) ?_;exact IH k2 oM _ ⟨rfl,trivial⟩
theorem aDN {k:Nat}(hc:Cl prog true RZ Fin):pI (Jm prog X Fin k .wd j H) 128 [.pointer (some ⟨X.Wg,0,none⟩)] fun v J'=> v=.tuple #[]/\J'=Fin:=by
 refine xT.at (by exact Jm.cl) aDY (xT.enter (vs:= [.pointer (some ⟨X.Wg,0,none⟩)]) func128 rfl ntmps128 (Nat.le_of_ble_eq_true rfl) fun c cs hK=> ?_);refine Sc.seq (by first|exact Jm.cl|exact hc) ?_;refine Sc.cond (by first|exact Jm.cl|exact hc) (t:=true) rfl (fun _=> ?_) (fun h=> nomatch h);refine .rg rfl rfl ?_;refine So.EC rfl rfl rfl nofun rfl (.mk' rfl) rfl (Jm.wd aBz) ?_;rintro v J' ⟨k2,t,QW,⟨rfl,rfl⟩,rfl⟩;refine .dn ?_;refine Sc.block (by first|exact Jm.cl|exact hc) ?_;refine Sc.loop (by exact Jm.cl) ?_;exact A1 hc (hK _ _ ⟨rfl,rfl⟩) k2 _ ⟨rfl,trivial⟩
end
end Go.Proofs.YtldmfjcgjdchcaaGreatDoor
namespace Go.RL
open Go.Conc
section
variable {P:Program}{M:Md P}{md:Region.Mode}{ops:Array Oper}{S:Array Bool->View->Prop}{Fin:Array Value->View->Prop}{z:Nat}
theorem B1 {i j:Nat}{listed:Array Bool}(h:waits md ops i j=true)(hi:i∈Region.ready md ops listed)(hj:j∈Region.ready md ops listed):False:=by
 unfold waits at h;obtain⟨_,o,ho,SA⟩:=mem_ready.1 hj;rw[ho] at h;simp only at h;rw[Array.any_eq_true'] at h;obtain⟨e,he,hb⟩:=h;simp only[Bool.and_eq_true,beq_iff_eq] at hb;have h1:=SA e he hb.1;have h0:=(mem_ready.1 hi).1;rw[hb.2] at h1;rcases Nat.lt_or_ge i listed.size with h'|h'
 ·simp[h'] at h0 h1;rw[h0] at h1;cases h1
 ·simp[Array.getElem?_eq_none h'] at h1
def UL(M:Md P)(md:Region.Mode)(ops:Array Oper)(S:Array Bool->View->Prop)(z:Nat)(Fin:Array Value->View->Prop):Nat->Array Bool->Array Value->View->Prop
 | 0,listed,tmps,H=> ∀H₂,H.le H₂->S listed H₂->Region.ready md ops listed= [z]/\Fin tmps H₂
 | fuel+1,listed,tmps,H=> ∀H₂,H.le H₂->S listed H₂-> 
  (Region.ready md ops listed≠ [])/\
  ∀i∈Region.ready md ops listed,∀o,ops[i]? =some o->NK M ops o tmps H₂ fun tmps' H'=> S (listed.setIfInBounds i true) H'/\UL M md ops S z Fin fuel (listed.setIfInBounds i true) tmps' H'
theorem UL.mono {fuel:Nat}{listed:Array Bool}{tmps:Array Value}{H H':View}(h:UL M md ops S z Fin fuel listed tmps H)(k:H.le H'):UL M md ops S z Fin fuel listed tmps H':=by
 cases fuel with
 | zero=> exact fun H₂ h2 hS=> h H₂ (View.le_trans k h2) hS
 | succ fuel=> exact fun H₂ h2 hS=> h H₂ (View.le_trans k h2) hS
theorem tY(fuel t:Nat)(listed:Array Bool):Region.linearise.go md ops (fuel+1) t listed []=match (Region.ready md ops listed)[t%(Region.ready md ops listed).length]? with
  | some i=> i::Region.linearise.go md ops fuel (t/(Region.ready md ops listed).length) (listed.setIfInBounds i true) []
  | none=> []:=by
 rw[Region.linearise.go];show(match (Region.ready md ops listed)[t%(Region.ready md ops listed).length]? with
  | some i=> Region.linearise.go md ops fuel (t/(Region.ready md ops listed).length) (listed.setIfInBounds i true) [i]
  | none=> List.reverse [])=_
 split
 ·rename_i i _
  rw[linearise_go_acc];rfl
 ·rfl
theorem UL.sound {St:View->Goroutine->Prop}{b:FB}{ds:List Deferred}{k:List Item}{cs:List Frame}:∀(fuel t:Nat) (listed:Array Bool) (tmps:Array Value) (H:View),S listed H-> 
  UL M md ops S z (fun tmps H=> T M St H (G (b.at tmps ds (.inRegion ops [z]::k)) cs)) fuel listed tmps H->T M St H (G (b.at tmps ds (.inRegion ops (Region.linearise.go md ops (fuel+1) t listed [])::k)) cs):=by
 intro fuel;induction fuel with
 | zero=>
  intro t listed tmps H hS h;obtain⟨h1,h2⟩:=h H (View.le_refl H) hS;rw[tY,h1];simp only[List.length_singleton,Nat.mod_one,List.getElem?_cons_zero,Region.linearise.go,List.reverse_nil];exact h2
 | succ fuel ih=>
  intro t listed tmps H hS h;have h:=h H (View.le_refl H) hS;rw[tY];split
  ·rename_i i hi
   have lE:=List.mem_of_getElem? hi;obtain⟨_,o,ho,_⟩:=mem_ready.1 lE;exact NK.sound ho ((h.2 i lE o ho).mono fun t' H' hk=> ih _ _ _ _ hk.1 hk.2)
  ·rename_i hi
   exfalso
   cases hr:Region.ready md ops listed with
   | nil=> exact h.1 hr
   | cons a l=>
    rw[hr] at hi;have:t%(a::l).length<(a::l).length:=Nat.mod_lt _ (by simp);rw[List.getElem?_eq_getElem this] at hi;cases hi
theorem UL.first {i:Nat}{oi:Oper}{v:Value}(hi:ops[i]? =some oi)(UE:∀(j:Nat) (o:Oper) cs b,ops[j]? =some o->o.op≠ .select cs b)(P9:FA oi.op=false)(hz:waits md ops i z=true)(wJ:∀listed H,S (listed.setIfInBounds i true) H<->S listed H):
  ∀ (fuel:Nat) (listed:Array Bool) (tmps:Array Value) (H:View),
   (∀j oj,ops[j]? =some oj->j≠i->listed.getD j true=false->(∀e∈oj.after,Region.binds md e=true->e.on≠i)->oi.apart ops oj=true)-> 
   UB md ops listed=true->i∈Region.ready md ops listed->DG M md ops S i oi v tmps-> 
   UL M md ops S z Fin fuel (listed.setIfInBounds i true) (XB tmps oi.dst v) H->UL M md ops S z Fin (fuel+1) listed tmps H:=by
 have own:∀(fuel:Nat) (listed:Array Bool) (tmps:Array Value) (H:View),UB md ops listed=true->i∈Region.ready md ops listed->DG M md ops S i oi v tmps->S listed H->UL M md ops S z Fin fuel (listed.setIfInBounds i true) (XB tmps oi.dst v) H-> 
   NK M ops oi tmps H fun t H'=> S (listed.setIfInBounds i true) H'/\UL M md ops S z Fin fuel (listed.setIfInBounds i true) t H':=by
  intro fuel listed tmps H nB bN hy hS h;refine⟨P9,?_⟩;rcases hy with ⟨hw,hv⟩|⟨hw,rfl⟩
  ·rw[if_pos hw];refine(hv listed nB (mem_ready.1 bN).1 H hS).run ?_;rintro u H' ⟨rfl,hle,TV⟩;exact⟨(wJ listed H').2 TV,h.mono hle⟩
  ·rw[if_neg (by simp[hw])];exact⟨(wJ listed H).2 hS,h⟩
 intro fuel;induction fuel with
 | zero=>
  intro listed tmps H _ nB hr hy h H₂ h2 hS;refine⟨fun e=> (by rw[e] at hr;cases hr),fun j hj o ho=> ?_⟩;by_cases MO:j=i
  ·subst MO;rw[hi] at ho;cases ho
   exact own 0 listed tmps H₂ nB hr hy hS (h.mono h2)
  ·have:=ready_mono hj MO;rw[(h H₂ h2 ((wJ listed H₂).2 hS)).1,List.mem_singleton] at this;subst this;exact(B1 hz hr hj).elim
 | succ fuel ih=>
  intro listed tmps H CU nB hr hy h H₂ h2 hS;refine⟨fun e=> (by rw[e] at hr;cases hr),fun j hj oj BT=> ?_⟩;by_cases MO:j=i
  ·subst MO;rw[hi] at BT;cases BT
   exact own (fuel+1) listed tmps H₂ nB hr hy hS (h.mono h2)
  ·have h1:=(h H₂ h2 ((wJ listed H₂).2 hS)).2 j (ready_mono hj MO) oj BT;have aBK:=TJ nB hj;obtain⟨u5,oj',D5,SA⟩:=mem_ready.1 hj;rw[BT] at D5;cases D5
   have aBT:∀e∈oj.after,Region.binds md e=true->e.on≠i:=fun e he hb heq=> by
    have h1:=SA e he hb;have h0:=(mem_ready.1 hr).1;rw[heq] at h1;rcases Nat.lt_or_ge i listed.size with h'|h'
    ·simp[h'] at h0 h1;rw[h0] at h1;cases h1
    ·simp[Array.getElem?_eq_none h'] at h1
   have wU:=CU j oj BT MO u5 aBT;have MW:∀k ok,ops[k]? =some ok->k≠i->(listed.setIfInBounds j true).getD k true=false-> 
     (∀e∈ok.after,Region.binds md e=true->e.on≠i)->oi.apart ops ok=true:=fun k ok hk hki O5 PC=> by
    refine CU k ok hk hki ?_ PC;by_cases hjk:j=k
    ·subst hjk;exact u5
    ·rw[getD_set_ne true hjk] at O5;exact O5
   refine(h1.back wU (fun cs b=> UE j oj cs b BT)).mono ?_;rintro t H' ⟨⟨u,rfl⟩,TV,h3⟩;rw[Array.setIfInBounds_comm _ _ (Ne.symm MO)] at TV;refine⟨(wJ _ H').1 TV,ih (listed.setIfInBounds j true) _ H' MW aBK (ready_mono hr (Ne.symm MO)) (hy.put (fun cs b=> UE i oi cs b hi) (Oper.apart_spec wU).2.2) ?_⟩;rw[Array.setIfInBounds_comm _ _ MO];exact h3
end
section
variable {P:Program}{M:Md P}{St:View->Goroutine->Prop}{n:Nat}{b:FB}{H₀:View}{cs:List Frame}{R:Rg}{L L':Bl}{ds:List Deferred}{k:List Item}{S:Array Bool->View->Prop}{md:Region.Mode}{ops:Array Oper}{z:Nat}
def Tl(M:Md P)(St:View->Goroutine->Prop)(n:Nat)(b:FB)(H₀:View)(cs:List Frame)(S:Array Bool->View->Prop)(md:Region.Mode)(ops:Array Oper)(z:Nat)(fuel:Nat)(listed:Array Bool)(R:Rg)(L:Bl)(ds:List Deferred)(k:List Item):Prop:=
 ∀H tmps,gA H₀ L H->VA n R tmps->S listed H->UL M md ops S z (fun tmps H=> T M St H (G (b.at tmps ds (.inRegion ops [z]::k)) cs)) fuel listed tmps H
theorem Tl.done {listed:Array Bool}{o:Oper}(hr:Region.ready md ops listed= [z])(ho:ops[z]? =some o)(h:To M St n b H₀ cs (ops.toList.map (fun o:Oper=> o.dst)) R L ds [o] k):Tl M St n b H₀ cs S md ops z 0 listed R L ds k:=fun H tmps hs uE _ H₂ h2 _=>
 ⟨hr,h ops [z] (fun j=> by
  simp only[List.getElem?_map,Array.getElem?_toList];cases ops[j]? <;> rfl) (by simp[ho]) H₂ tmps (hs.mono h2) uE⟩
theorem Tl.take(i:Nat){o:Oper}{d:Nat}{v:Value}{fuel:Nat}{listed:Array Bool}(hi:ops[i]? =some o)(UE:Region.noSelect ops=true)(hr:(Region.ready md ops listed).contains i=true)(hf:Region.free md ops listed i=true)
  (hd:o.dst=some d) (hn:d<n) (zE:FA o.op=false) (hz:waits md ops i z=true) (nB:UB md ops listed=true) (wJ:∀listed H,S (listed.setIfInBounds i true) H<->S listed H) (hw:RA (ops.toList.map (fun o:Oper=> o.dst)) R o=some true)
  (hv:∀listed,UB md ops listed=true->listed.getD i true=false->∀H tmps,S listed H->VA n R tmps->wD M o tmps H fun u H'=> u=v/\H.le H'/\S listed H')
  (h:Tl M St n b H₀ cs S md ops z fuel (listed.setIfInBounds i true) ((d,v)::R) L ds k):Tl M St n b H₀ cs S md ops z (fuel+1) listed R L ds k:=fun H tmps hs uE hS=> by
 refine UL.first hi (Region.noSelect_spec UE) zE hz wJ fuel listed tmps H (fun j oj hj xB O5 PC=> Region.free_spec hi hf j oj hj xB O5 PC) nB (by simpa using hr) (.inl ⟨RB (fun j=> ?_) uE hw,fun l nB hu H hSH=> hv l nB hu H tmps hSH uE⟩) ?_
 ·simp only[List.getElem?_map,Array.getElem?_toList];cases ops[j]? <;> rfl
 ·rw[hd];exact h H _ hs (uE.put hn v) ((wJ _ H).2 hS)
theorem Tl.tk(i:Nat){o:Oper}{d:Nat}{v:Value}{fuel:Nat}{listed:Array Bool}(hc:jD md ops [] listed i=true)(hz:waits md ops i z=true)(hi:ops[i]? =some o)(hd:o.dst=some d)(hn:d<n)(zE:FA o.op=false)(hw:RA (ops.toList.map (fun o:Oper=> o.dst)) R o=some true)
  (hv:∀H tmps,gA H₀ L H->VA n R tmps->wD M o tmps H fun u H'=> u=v/\H.le H')
  (h:Tl M St n b H₀ cs (fun _=> gA H₀ L) md ops z fuel (listed.setIfInBounds i true) ((d,v)::R) L ds k):Tl M St n b H₀ cs (fun _=> gA H₀ L) md ops z (fuel+1) listed R L ds k:=by
 simp only[jD,Bool.and_eq_true,Bool.not_eq_true'] at hc;obtain⟨⟨⟨⟨⟨UE,hr⟩,hf⟩,nB⟩,_⟩,_⟩:=hc;exact .take i hi UE hr hf hd hn zE hz nB (fun _ _=> Iff.rfl) hw (fun _ _ _ H tmps hS hr=> by
  have:=hv H tmps hS hr;unfold wD at this ⊢;have fin:∀u H',(u=v/\H.le H')->u=v/\H.le H'/\gA H₀ L H':=fun u H' ⟨h1,h2⟩=> ⟨h1,h2,hS.mono h2⟩
  refine UA _ (fun nx H' hn=> ?_) this;cases nx <;> first
   | exact hn.elim
   | exact fin _ _ hn
   | exact bA.mono hn fin
   | exact ZL.mono hn fin) h
theorem Tc.dl(z:Nat){id:Nat}{fuel:Nat}(hm:P.follows .mixedOrders=true)(hf:ops.size=fuel+1)(h:Tl M St n b H₀ cs (fun _=> gA H₀ L) .any ops z fuel (Array.replicate (fuel+1) false) R L ds k):
  Tc M St n b H₀ cs R L ds (.code (.region id ops true)::k):=fun H tmps hs hr=> by
 refine .xF fun t=> ?_;simp only[Region.schedule,hm,Bool.true_or,if_true];have h1:=(h H tmps hs hr hs).sound _ t _ _ _ hs;unfold Region.linearise;rw[hf];exact h1
end
end Go.RL
namespace Go.RL
open Go.Conc Go.ConcN Go.RL.Au
open Go.ConcR (stA smA mk)
open Go.ConcM (muA msA OsLater)
section
variable {P:Program}{X:Fk}{κ:Nat}
theorem zD.makeFunc {n:Nat}{sh:K8}{R:Rg}{o:Oper}{f:Fn}{first caps:Array Operand}{vs ws:List Value}(lA:o.op=.makeFunc f first caps)(h1:HD R first.toList=some vs)(h2:HD R caps.toList=some ws):zD P sh n R o (.func f vs.toArray ws.toArray):=fun tmps hr=> by
 unfold execOp;rw[lA];show Next.value _=_;have e1:first.map (fC tmps)=vs.toArray:=by
  rw[<-hr.evs h1,List.map_toArray.symm]
 have e2:caps.map (fC tmps)=ws.toArray:=by
  rw[<-hr.evs h2,List.map_toArray.symm]
 rw[e1,e2]
theorem T.none {M:Md P}{St:View->Goroutine->Prop}{C:Nat}{H:View}{g:Goroutine}(ZB:∀w,M.ok w->C<w.heap.size)(hph:∀H g Po,¬M.Ph H g Po)(h:T M St H g):H C=Option.none->T M (fun H' g'=> H' C=Option.none/\St H' g') H g:=
 h (fun H g=> H C=Option.none->T M (fun H' g'=> H' C=Option.none/\St H' g') H g) (fun _ _ hs hc=> .stop ⟨hc,hs⟩) (fun H g hs hc=> .step ⟨hs.1,fun w hw ho=> by
  obtain⟨g',w',es,H',h1,h2,h3⟩:=hs.2 w hw ho;refine⟨g',w',es,H',h1,h2,h3 ?_⟩;cases hx:H' C with
  | none=> rfl
  | some x=>
   obtain⟨f,o⟩:=x;rcases h2.ext _ _ _ hx with ⟨o',eQ⟩|⟨_,hle⟩
   ·rw[hc] at eQ;cases eQ
   ·have:=ZB w ho;omega⟩) (fun _ _ _ hp=> (hph _ _ _ hp).elim)
theorem T.aEQ {main:Bool}{St:View->Goroutine->Prop}{H:View}{g:Goroutine}(hc:H X.C=Option.none)(h:T (Mw P main X.ok) (fun H' g'=> H' X.C=Option.none->T (Mw P main X.ok) St H' g') H g):T (Mw P main X.ok) St H g:=
 (T.none (M:=Mw P main X.ok) (C:=X.C) (fun _ (h:X.ok _)=> h.1) (fun _ _ _ h=> h) h hc).bind fun _ _ ⟨h1,h2⟩=> h2 h1
theorem Sc.none {main:Bool}{St:View->Goroutine->Prop}{H:View}{n:Nat}{b:FB}{cs:List Frame}{R:Rg}{ds:List Deferred}{kk:List Item}(hc:H X.C=Option.none)
 (h:Sc (T (Mw P main X.ok) (fun H' g'=> H' X.C=Option.none->T (Mw P main X.ok) St H' g') H) n b cs R ds kk):Sc (T (Mw P main X.ok) St H) n b cs R ds kk:=fun tmps hr=> T.aEQ hc (h tmps hr)
theorem Sc.A7 {main:Bool}{St:View->Goroutine->Prop}{H:View}{n:Nat}{b:FB}{cs:List Frame}{R:Rg}{ds:List Deferred}{kk:List Item}
 (h:H X.C=Option.none->Sc (T (Mw P main X.ok) St H) n b cs R ds kk):Sc (T (Mw P main X.ok) (fun H' g'=> H' X.C=Option.none->T (Mw P main X.ok) St H' g') H) n b cs R ds kk:=fun tmps hr=> .stop fun hc=> h hc tmps hr
theorem Sc.mono {J J':Goroutine->Prop}{n:Nat}{b:FB}{cs:List Frame}{R:Rg}{ds:List Deferred}{kk:List Item}(h:Sc J n b cs R ds kk)(hj:∀g,J g->J' g):Sc J' n b cs R ds kk:=fun tmps hr=> hj _ (h tmps hr)
end
end Go.RL
namespace Go.Proofs.YtldmfjcgjdchcaaGreatDoor
open Go.RL Go.Proofs.Tryz Go.Conc Go.ConcN Go.RL.Au
open Go.ConcR (stA smA)
set_option maxRecDepth 10000
set_option maxHeartbeats 4000000
def eE(k:Bk)(D:Nat->Bool):List Value:=(List.range k.nt).map fun i=> .int .i64 (if D i then((k.left i:Nat):Int) else 0)
def GIl(k:Bk)(D:Nat->Bool)(o:Obj):Prop:=o=.cells ⟨eE k D⟩ 3 (0,0)
theorem LZ(k:Bk)(D:Nat->Bool):(eE k D).length=k.nt:=by simp[eE]
theorem MZ(k:Bk)(D:Nat->Bool)(κ:Nat):(eE k D).set κ (.int .i64 ((k.left κ:Nat):Int))=eE k (YT D κ):=by
 apply List.ext_getElem?
 intro i;unfold eE YT;rw[List.getElem?_set];by_cases e:κ=i
 ·subst e;rw[if_pos rfl];by_cases h:κ<k.nt
  ·rw[if_pos (by simpa using h),List.getElem?_map,List.getElem?_range h];simp
  ·rw[if_neg (by simpa using h),List.getElem?_eq_none (by simp;omega)]
 ·rw[if_neg e,List.getElem?_map,List.getElem?_map];by_cases h:i<k.nt
  ·rw[List.getElem?_range h];have h2:¬i=κ:=fun h=> e h.symm;simp[h2]
  ·rw[List.getElem?_eq_none (by simp;omega)];rfl
structure aFB(X:Fk)(k:Bk)(H:View)(κ b5 b8 b6:Nat)(A:Option Addr)(lc:Nat)(B:Option Addr)(tc:Nat)(F:Nat->Option Addr)(fc:Nat->Nat):Prop where
 bk:dC H k A lc B tc F fc
 nl:k.nl<=1000
 nf:∀i,i<k.nl->k.nf i<=1000
 ok:k.VC
 nt:k.nt<=6
 CB:0<=k.CB/\k.CB<=99
 TB:0<=k.TB/\k.TB<=99
 h5:∃f,H b5=some (f,.cells ⟨(k.val A lc B tc).cells.toList⟩ 166 (0,0))
 h8:∃f,H b8=some (f,.cells ⟨[.int .i64 (κ:Nat)]⟩ 3 (0,0))
 h6:∃f,H b6=some (f,.cells ⟨[.slice (some ⟨X.C,0,none⟩) k.nt k.nt]⟩ 24 (0,0))
 kn:κ<k.nt
 GI:X.GI=GIl k
def aAN(X:Fk)(b5 b8 b6:Nat):List Value:= [.pointer (some ⟨X.Wg,0,none⟩),.pointer (some ⟨b5,0,none⟩),.pointer (some ⟨b8,0,none⟩),.pointer (some ⟨b6,0,none⟩)]
section
variable {X:Fk}{bk:Bk}{H:View}{κ b5 b8 b6:Nat}{A:Option Addr}{lc:Nat}{B:Option Addr}{tc:Nat}{F:Nat->Option Addr}{fc:Nat->Nat}
theorem Z7(w:aFB X bk H κ b5 b8 b6 A lc B tc F fc)(k:Nat):
  Jw prog X κ k .pw H (Go.Conc.born prog { target:=.fn (.func 125) (aAN X b5 b8 b6).toArray,args:=#[] }):=by
 obtain⟨hbk,RQ,VW,ZB,aN,l5,aEr,⟨f5,h5⟩,⟨f8,h8⟩,⟨f6,h6⟩,hκ,hGI⟩:=w;refine Cl.born (vs:=aAN X b5 b8 b6) Jw.FN func125 kR rfl ntmps125 (Nat.le_of_ble_eq_true rfl) (by simp) ?_;unfold aAN;refine .sq (.rg rfl rfl ?_);refine So.defer Jw.FN (f:=126) (vs:= [.pointer (some ⟨X.Wg,0,none⟩)]) rfl nofun rfl rfl ⟨_,rfl⟩ rfl ?_;refine .dn ?_;refine Sc.mono ?_ (fun g hg=> Jw.ofT rfl hg);refine Sc.aES (gA.nil H) ?_;refine Tc.dl 6 mixed rfl ?_;refine Tl.tk 0 kR kR rfl rfl dE rfl rfl (qA.take (qA.vL (E:=en) rfl rfl h6 rfl rfl)) ?_;refine Tl.tk 1 kR kR rfl rfl dE rfl rfl (qA.take (qA.vL (E:=en) rfl rfl h8 rfl rfl)) ?_;refine Tl.tk 2 kR kR rfl rfl dE rfl rfl (qA.take (qA.vL (E:=en) rfl rfl h5 rfl rfl)) ?_;refine Tl.tk 3 kR kR rfl rfl dE rfl rfl (qA.take (qA.vL (E:=en) rfl rfl h8 rfl rfl)) ?_;refine Tl.tk 4 kR kR rfl rfl dE rfl rfl (qA.OL rfl rfl rfl rfl (fun H hs=> .f aDX rfl (aCb _ H bk A lc B tc F fc (hbk.le hs.base) RQ VW ZB aN l5 aEr κ hκ))) ?_;refine Tl.tk 5 kR kR rfl rfl dE rfl rfl (qA.take .ia) ?_;refine Tl.done kR rfl ?_;refine To.aGw (fun H1 hs=> ?_);refine So.mono ?_ (fun g hg=> Jw.toT rfl hg);have eoff:0+((κ:Nat):Int).toNat*1=κ:=by rw[Int.toNat_natCast];omega
 refine So.own (z:=((bk.left κ:Nat):Int)) (ik:=.i64) rfl rfl rfl ?_ rfl kR ?_ ?_
 ·show some (Value.pointer (some ⟨X.C,0+((κ:Nat):Int).toNat*1,none⟩))=_;rw[eoff]
 ·intro D o _ hGo;rw[hGI] at hGo ⊢;have aFU:o=.cells ⟨eE bk D⟩ 3 (0,0):=hGo;subst aFU;refine⟨⟨eE bk D⟩,3,rfl,by simp only[List.size_toArray,LZ];exact hκ,?_⟩;show Obj.cells _ 3 (0,0)=.cells ⟨eE bk (YT D κ)⟩ 3 (0,0);rw[<-MZ];simp
 ·exact fun k' _=> So.done Jw.FN (Sc.over Jw.FN rfl (aBy rfl (Sb.leaveD Jq.cl func125 rfl results125 (.inr rfl) Jq.bot)))
end
set_option maxHeartbeats 16000000
theorem TD {H:View}{b:Nat}{f:Bool}{o:Obj}(h:H b=some (f,o)):ro H b=some (false,o):=by simp[ro,h]
theorem MG {H:View}{b:Nat}(h:H b=none):ro H b=none:=by simp[ro,h]
def E2(H H':View):Prop:=∀b f o,H b=some (f,o)->∃f',H' b=some (f',o)
theorem FX {H H':View}{sz m:Nat}{y:Value}{l:List Value}(h:OA H sz y m l)(k:E2 H H'):OA H' sz y m l:=by
 obtain⟨h1,h2,h3⟩:=h;refine⟨h1,h2,h3.imp id ?_⟩;rintro⟨b,off,c,f,cs,e,fz,h4,h5,h6,h7⟩;obtain⟨f',h5'⟩:=k _ _ _ h5;exact⟨b,off,c,f',cs,e,fz,h4,h5',h6,h7⟩
theorem dC.of {H H':View}{k:Bk}{A:Option Addr}{lc:Nat}{B:Option Addr}{tc:Nat}{F:Nat->Option Addr}{fc:Nat->Nat}(h:dC H k A lc B tc F fc)(hk:E2 H H'):dC H' k A lc B tc F fc:=
 ⟨h.K1,h.v8,FX h.rows hk,FX h.ZD hk,h.hfc,fun i hi=> FX (h.free i hi) hk⟩
structure dW(X:Fk)(k:Bk)(H:View)(b5 b6:Nat)(A:Option Addr)(lc:Nat)(B:Option Addr)(tc:Nat)(F:Nat->Option Addr)(fc:Nat->Nat):Prop where
 bk:dC H k A lc B tc F fc
 sm:k.small
 al:k.WA=0
 n:X.n=k.nt
 h5:∃f,H b5=some (f,.cells ⟨(k.val A lc B tc).cells.toList⟩ 166 (0,0))
 h6:∃f,H b6=some (f,.cells ⟨[.slice (some ⟨X.C,0,none⟩) k.nt k.nt]⟩ 24 (0,0))
 C0:H X.C=none
 GI:X.GI=GIl k
theorem dW.of {X:Fk}{k:Bk}{H H':View}{b5 b6:Nat}{A:Option Addr}{lc:Nat}{B:Option Addr}{tc:Nat}{F:Nat->Option Addr}{fc:Nat->Nat}(h:dW X k H b5 b6 A lc B tc F fc)(hk:E2 H H')(h0:H' X.C=none):dW X k H' b5 b6 A lc B tc F fc:=
 ⟨h.bk.of hk,h.sm,h.al,h.n,let ⟨_,g⟩:=h.h5;hk _ _ _ g,let ⟨_,g⟩:=h.h6;hk _ _ _ g,h0,h.GI⟩
abbrev b33:FB:=⟨51,.normal,none⟩
noncomputable def L33:Code:=cR (cL (cR (cR (cR (cR (cR (dM Tryz.f51)))))))
noncomputable def B33:Code:=cB (cB L33)
noncomputable def T33:Code:=cR (cR (cR (cR (cR (cR (dM Tryz.f51))))))
section
variable {X:Fk}{k:Bk}{b1 b5 b6:Nat}{A:Option Addr}{lc:Nat}{B:Option Addr}{tc:Nat}{F:Nat->Option Addr}{fc:Nat->Nat}{Fin:Goroutine->Prop}{cs:List Frame}
def rgS(X:Fk)(k:Bk)(b1 b5 b6 j:Nat):Rg:= [(1,.pointer (some ⟨b1,0,none⟩)),(5,.pointer (some ⟨b5,0,none⟩)),(6,.pointer (some ⟨b6,0,none⟩)),(7,.pointer (some ⟨X.Wg,0,none⟩)),(24,.int .i64 (k.nt:Nat)),(25,.int .i64 (j:Nat))]
theorem EP(XD:∀(R:Rg),PB (rgS X k b1 b5 b6 k.nt) R->∀κ (H:View),Sc (Jm prog X Fin κ .wd k.nt H) 50 b33 cs R [] [.code T33]):∀(d j κ:Nat) (H:View),j+d=k.nt->dW X k H b5 b6 A lc B tc F fc->∀(R:Rg),PB (rgS X k b1 b5 b6 j) R-> 
  Sc (Jm prog X Fin κ (if j<X.n then .kd else .wd) j H) 50 b33 cs R [] [.code B33,.inLoop B33,.inBlock 0,.code T33]
 | 0,j,κ,H,hj,IB,R,hR=> by
  have e:j=k.nt:=by omega
  subst e;rw[if_neg (by rw[IB.n];omega)];refine Sc.drop hR ?_;unfold rgS;refine .sq (.rg rfl rfl ?_);refine .i ?_ (z:=OI oM);refine .dn ?_;refine Sc.seq Jm.cl (Sc.cond Jm.cl (t:=false) rfl (fun h=> nomatch h) (fun _=> ?_));refine .xt rfl ?_;exact XD _ ⟨rfl,rfl,rfl,rfl,rfl,rfl,trivial⟩ κ H
 | d + 1,j,κ,H,hj,IB,R,hR=> by
  rw[if_pos (by rw[IB.n];omega)];refine Sc.drop hR ?_;unfold rgS;obtain⟨hg,RQ,aN,ZB⟩:=Bk.valid IB.al;refine .sq (.rg rfl rfl ?_);refine .i ?_ (z:=iN oM);refine .dn ?_;refine Sc.seq Jm.cl (Sc.cond Jm.cl (t:=true) rfl (fun _=> ?_) (fun h=> nomatch h));refine .sp (.sq (.bl (.sq ?_)));refine Sc.none IB.C0 ?_;refine Sc.aES (gA.nil H) ?_;refine .r ?_;refine .m ?_;refine .e (.al (zz:=fun b8=> ?_));refine .e (.st 0 (zz:=?_));refine .done ?_;refine Tc.aER (fun H1 hs=> Sc.A7 (fun hC1=> ?_));have aGn:dW X k H1 b5 b6 A lc B tc F fc:=IB.of (fun b f o h=> ⟨f,hs.base _ _ h⟩) hC1;have h8:=hs.get (i:=0) rfl;show Sc (Jm prog X Fin κ .kd j H1) 50 b33 cs _ [] _;refine .sq (.rg rfl rfl ?_);refine So.EC rfl rfl rfl nofun rfl (.mk' rfl) rfl (T2) ?_;rintro v J' ⟨rfl,κ',rfl⟩;refine .dn (.rg rfl rfl ?_);refine So.opD Jm.cl rfl rfl rfl rfl (zD.makeFunc rfl rfl rfl) ?_;have iQ:dW X k (ro H1) b5 b6 A lc B tc F fc:=aGn.of (fun b f o h=> ⟨false,TD h⟩) (MG hC1);refine Jm.go (f:=125) (fn:=#[]) (caps:=(aAN X b5 b8 b6).toArray) rfl nofun rfl rfl rfl rfl rfl rfl rfl (fun k1 _=> ?_) (fun k1 _=> ?_)
  ·refine .dn (.ib (.rg rfl rfl ?_));refine .i ?_ (z:=eC oM oM);refine .m ?_;refine .dn ?_;refine Sc.inLoop (by exact Jm.cl) ?_;exact EP XD d (j+1) k1 (ro H1) oM iQ _ ⟨rfl,rfl,rfl,rfl,rfl,rfl,trivial⟩
  ·exact Z7 ⟨iQ.bk,IB.sm.nl,fun i hi=> (IB.sm.num i hi).2,ZB,aN,oM,oM,iQ.h5,⟨false,TD h8⟩,iQ.h6,oM,IB.GI⟩ k1
end
theorem Ph.aET {P:Program}{H:View}{g:Goroutine}{Po:View->Goroutine->Prop}(h:aAO P H g Po):Ph P H g Po:=
 ⟨H,fun _=> none,Po,fun _ _ h=> (nomatch h),(by funext b;unfold View.plus;cases H b <;> rfl),h,fun H' g' _ hp=> by
  have e:H'.plus (fun _=> none)=H':=by funext b;unfold View.plus;cases H' b <;> rfl
  rwa [e]⟩
def View.beside(X:Fk)(H:View):View:=(H.JC X.C).JC X.Wg
theorem TM {X:Fk}{H:View}:View.beside X H X.Wg=none/\View.beside X H X.C=none:=by
 refine⟨?_,?_⟩ <;> unfold View.beside View.JC <;> simp
theorem EG {X:Fk}{H:View}{b:Nat}(h1:b≠X.C)(h3:b≠X.Wg):View.beside X H b=H b:=by
 unfold View.beside;rw[PA h3,PA h1]
theorem Ph.begin {P:Program}{H:View}{g:Goroutine}{Po:View->Goroutine->Prop}(X:Fk)(Fin:Goroutine->Prop)(o:Obj)(hn:X.n<=6)(ne:X.Wg≠X.C)
  (hC:H X.C=some (true,o)) (hWg:H X.Wg=some (true,X.QV ⟨0,0,0⟩)) (hGI:X.GI (fun _=> false) o)
  (hg:∀k,T (Mw P true X.ok) (MS P X Fin k (if 0<X.n then .kd else .wd) 0) (ro (View.beside X H)) g) (hPo:∀o' g',X.GI (fun i=> decide (i<X.n)) o'->Fin g'->Po ((View.beside X H).put X.C (true,o')) g'):Ph P H g Po:=by
 refine Ph.aET ⟨X,Fin,View.beside X H,o,hn,ne,TM,?_,hGI,hg,hPo⟩
 funext b
 by_cases e1:b=X.Wg
 ·subst e1;rw[View.LA,hWg]
 ·rw[View.vA _ _ e1];by_cases e3:b=X.C
  ·subst e3;rw[View.LA,hC]
  ·rw[View.vA _ _ e3,EG e3 e1]
theorem So.all {J:Obj->Goroutine->Prop}{p:Obj->Prop}{n:Nat}{b:FB}{cs:List Frame}{dl:List (Option Tmp)}{R:Rg}{ds:List Deferred}{l:List Oper}{kk:List Item}(h:∀o,p o->So (J o) n b cs dl R ds l kk):So (fun g=> ∀o,p o->J o g) n b cs dl R ds l kk:=
 fun arr ix ha hx tmps hr o ho=> h o ho arr ix ha hx tmps hr
def Bk.YE(k:Bk):Nat->Int×Int
 | 0=> (-1,(k.ZS.length:Nat))
 | j+1=> if((k.left j:Nat):Int)<(k.YE j).2 then((j:Nat),((k.left j:Nat):Int)) else k.YE j
def Bk.look(k:Bk):Int×Int:=k.YE k.nt
def aA3(p:Int×Int):Value:=.tuple ⟨[.int .i64 p.1,.int .i64 p.2,.int .i64 0]⟩
section
theorem aBf(H:View)(k:Bk)(A:Option Addr)(lc:Nat)(B:Option Addr)(tc:Nat)(F:Nat->Option Addr)(fc:Nat->Nat)(hB:dC H k A lc B tc F fc)(hn:k.small)(hG:aE H)(ha:k.WA=0):
  bA (Mp prog) 51 #[k.val A lc B tc] H (fun v H'=> H.le H'/\v=aA3 k.look):=by
 obtain⟨hgg,RQ,aN,ZB⟩:=Bk.valid ha;have lA:=fun(H':View) (h':H.le H')=> vC (Mp prog) H' k A lc B tc (hB.bk.le h') hn (IA hG h') ha;refine .en func51 ntmps51 fun St c cs hK=> ?_;refine .sr ?_;refine .e (.bx (zz:=fun b1=> ?_));refine .g ?_;refine .g ?_;refine .g ?_;refine .done (.sr ?_);refine .x (.ld 0) ?_;refine .c rfl rfl rfl rfl (fun H hs=> .f aFF rfl (lA H hs.base)) ?_;refine .m ?_;refine .x .et ?_;refine .x .et ?_;refine .e (.al (zz:=fun b5=> ?_));refine .e (.st 0 (zz:=?_));refine .g ?_;refine .done (.seq (.sr ?_));refine .m ?_;refine .i ?_ (z:=oG oM);refine .done (.ff rfl (.skip (.sr ?_)));refine .x .fa ?_;refine .x (.ld 1) ?_;refine .x .ln ?_;refine .e (Or.makeSlice (E:=en) (len:=k.nt) (cap:=k.nt) rfl rfl rfl rfl rfl rfl (Nat.le_refl _) oM rfl rfl dE (fun bC=> ?_));refine .e (.al (zz:=fun b6=> ?_));refine .e (.st 0 (zz:=?_));refine .done (.sr ?_);refine .e (.al (zz:=fun b7=> ?_));refine .done (.seq (.sr ?_));refine .x (.ld 1) ?_;refine .x .ln ?_;refine .m ?_;refine .done ?_;refine Tc.aER (fun Hx hs tmps hr=> ?_);obtain⟨X,hX⟩:∃X:Fk,X=⟨k.nt,b7,bC,233,GIl k⟩:=⟨_,rfl⟩
 have x1:=hs.get (i:=0) rfl;have x2:=hs.get (i:=1) rfl;have x3:=hs.get (i:=2) rfl;have x4:=hs.get (i:=3) rfl;have x5:=hs.get (i:=4) rfl;have zE: [b7,b6,bC,b5,b1].Nodup:=hs.nodup;simp only[List.nodup_cons,List.mem_cons,List.not_mem_nil,or_false,not_or,not_false_eq_true,List.nodup_nil,and_true] at zE;obtain⟨⟨n1,n2,n3,n4⟩,⟨n5,n6,n7⟩,⟨n8,n9⟩,n10⟩:=zE;have YW:∀y,y=bC\/y=b7->H y=none:=by
  rintro y (rfl|rfl)
  ·exact hs.out _ (List.mem_cons_of_mem _ (List.mem_cons_of_mem _ List.mem_cons_self))
  ·exact hs.out _ List.mem_cons_self
 have hle:H.le (View.beside X Hx):=fun b y hb=> by
  have e:∀z,z=bC\/z=b7->b≠z:=fun z hz e=> by subst e;rw[YW b hz] at hb;cases hb
  rw[EG (by subst hX;exact e _ (.inl rfl)) (by subst hX;exact e _ (.inr rfl))];exact hs.base _ _ hb
 have y5:View.beside X Hx b5=some (true,.cells ⟨(k.val A lc B tc).cells.toList⟩ 166 (0,0)):=by
  subst hX;rw[EG (by exact Ne.symm n8) (by exact Ne.symm n3)];exact x4
 have y6:View.beside X Hx b6=some (true,.cells ⟨[.slice (some ⟨bC,0,none⟩) k.nt k.nt]⟩ 24 (0,0)):=by
  subst hX;rw[EG n5 (by exact Ne.symm n1)];exact x2
 obtain⟨Fin,hF⟩:∃Fin:Goroutine->Prop,Fin=fun g=> ∀o',X.GI (fun i=> decide (i<X.n)) o'->T (Mp prog) St ((View.beside X Hx).put X.C (true,o')) g:=⟨_,rfl⟩
 have hcF:Cl prog true RZ Fin:=⟨fun g g' hs h hf=> by
  subst hF;exact fun o' ho=> .step ⟨hs,fun w hw ZB=> ⟨g',w,#[],_,h w (fun _ _ e=> by cases e),.refl hw,hf o' ho⟩⟩⟩
 have hz:yC [Value.int .i64 0] (k.nt*1)=eE k (fun _=> false):=by
  rw[BN,Nat.mul_one];unfold eE;simp[List.map_const']
 refine T.phase (Po:=fun H' g'=> T (Mp prog) St H' g') (Ph.begin X Fin (.cells ⟨eE k (fun _=> false)⟩ 3 (0,0)) (by subst hX;exact aN) (by subst hX;exact n2) (by subst hX;rw[<-hz];exact x3) (by subst hX;exact x1) (by subst hX;exact rfl) (fun κ=> ?_) (fun o' g' ho hg=> by subst hF;exact hg o' ho)) (fun H' g' h=> h);have IB:dW X k (ro (View.beside X Hx)) b5 b6 A lc B tc F fc:=
  ⟨hB.of (fun b f o h=> ⟨false,TD (hle _ _ h)⟩),hn,ha,by subst hX;rfl,⟨false,TD y5⟩,by subst hX;exact⟨false,TD y6⟩,MG TM.2,by subst hX;rfl⟩
 have XD:∀(R:Rg),PB (rgS X k b1 b5 b6 k.nt) R->∀κ (H:View),Sc (Jm prog X Fin κ .wd k.nt H) 50 b33 (c::cs) R [] [.code T33]:=by
  intro R hR κ Hk;refine Sc.drop hR ?_;unfold rgS;refine .sq (.rg rfl rfl ?_);refine So.EC rfl rfl rfl nofun rfl (.mk' rfl) rfl (aDN hcF) ?_;rintro v J' ⟨rfl,rfl⟩;subst hF;refine So.all (fun o' eQ=> ?_);have hGI:X.GI=GIl k:=by subst hX;rfl
  rw[hGI] at eQ;have ho2:o'=.cells ⟨eE k (fun i=> decide (i<X.n))⟩ 3 (0,0):=eQ;subst ho2;have hX2:X.n=k.nt:=by subst hX;rfl
  have z5:(View.beside X Hx).put X.C (true,.cells ⟨eE k (fun i=> decide (i<X.n))⟩ 3 (0,0)) b5=some (true,.cells ⟨(k.val A lc B tc).cells.toList⟩ 166 (0,0)):=by
   rw[View.vA _ _ (by subst hX;exact Ne.symm n8)];exact y5
  have z6:(View.beside X Hx).put X.C (true,.cells ⟨eE k (fun i=> decide (i<X.n))⟩ 3 (0,0)) b6=some (true,.cells ⟨[.slice (some ⟨X.C,0,none⟩) k.nt k.nt]⟩ 24 (0,0)):=by
   rw[View.vA _ _ (by subst hX;exact n5)];subst hX;exact y6
  have zC:(View.beside X Hx).put X.C (true,.cells ⟨eE k (fun i=> decide (i<X.n))⟩ 3 (0,0)) X.C=some (true,.cells ⟨eE k (fun i=> decide (i<X.n))⟩ 3 (0,0)):=View.LA ..;have zle:H.le ((View.beside X Hx).put X.C (true,.cells ⟨eE k (fun i=> decide (i<X.n))⟩ 3 (0,0))):=fun b y hb=> by
   rw[View.vA _ _ (by rintro rfl;subst hX;rw[YW bC (.inl rfl)] at hb;cases hb)];exact hle _ _ hb
  generalize (View.beside X Hx).put X.C (true,.cells ⟨eE k (fun i=> decide (i<X.n))⟩ 3 (0,0))=H2 at z5 z6 zC zle;refine So.aGx (gA.nil H2) ?_;refine .done (.sr ?_);refine .x .l0 ?_;refine To.vB rfl rfl rfl rfl rfl rfl dE (uB.f aDW rfl (CJ _ H2 k A lc B tc (hB.bk.le zle).rows hn.nl (hB.bk.le zle).ZD ZB aN)) (fun v H₃ hv=> ?_);obtain⟨pM,m,es,cl,rfl,⟨fm,q3⟩,q4⟩:=hv;have AD:=Bk.uP q4;have z6':=pM _ _ z6;have zC':=pM _ _ zC;refine .x (qA.uK (E:=en) (es:=es) rfl rfl rfl rfl rfl (fun H hs=> ⟨fm,hs.base _ _ q3⟩) rfl rfl) ?_;refine .g ?_;refine .g ?_;refine .done ?_;rw[AD];refine .seq (.sr ?_);refine .x .l0 ?_;refine .x .ln ?_;refine .m ?_;refine .done (.block ?_);refine Tc.db (Tc.tA (σ:= { j:Nat//j<=k.nt }) (fun j=> ([(2,.int .i64 (k.YE j.1).1),(3,.int .i64 (k.YE j.1).2),(35,.slice (some ⟨X.C,0,none⟩) k.nt k.nt),(36,.int .i64 (k.nt:Nat)),(37,.int .i64 (j.1:Nat))],[])) (fun j=> k.nt-j.1) ?_ ⟨0,Nat.zero_le _⟩);rintro⟨j,hj⟩ ih;show Tc (Mp prog) St _ _ _ _ [(2,.int .i64 (k.YE j).1),(3,.int .i64 (k.YE j).2),(35,.slice (some ⟨X.C,0,none⟩) k.nt k.nt),(36,.int .i64 (k.nt:Nat)),(37,.int .i64 (j:Nat))] [] _ _;by_cases c1:j=k.nt
  ·subst c1;refine .sr ?_;refine .i ?_ (z:=OI oM);refine .done (.seq (.ff rfl (.exit rfl (.sr ?_))));refine .m ?_;refine .m ?_;refine .g ?_;refine .g ?_;refine .g ?_;refine .done ?_;refine .rt hK func51 results51 [_,_,_] ?_;exact fun H' hs=> ⟨View.le_trans zle (View.le_trans pM hs.base),rfl⟩
  ·have c2:j<k.nt:=by omega
   have f1:gD false 1 (eE k (fun i=> decide (i<X.n))) (0+((j:Nat):Int).toNat*1)=some (.int .i64 ((k.left j:Nat):Int)):=by
    show _[_]? =_;rw[Nat.zero_add,Int.toNat_natCast,Nat.mul_one];unfold eE;rw[List.getElem?_map,List.getElem?_range c2];simp[hX2,c2]
   by_cases c3:((k.left j:Nat):Int)<(k.YE j).2
   ·have e:k.YE (j+1)=(((j:Nat):Int),((k.left j:Nat):Int)):=by rw[Bk.YE,if_pos c3]
    refine .sr ?_;refine .i ?_ (z:=iN oM);refine .done (.seq (.tt rfl (.skip (.seq (.block (.sr ?_))))));refine .m ?_;refine .x .ia ?_;refine .x .l0 ?_;refine .g ?_;refine .g ?_;refine .done (.sr ?_);refine .m ?_;refine .m ?_;refine .i ?_ (z:=iN oM);refine .done (.tt rfl (.r ?_));refine .m ?_;refine .m ?_;refine .g ?_;refine .g ?_;refine .done (.inBlock (.r ?_));refine .i ?_ (z:=eC oM oM);refine .m ?_;refine .done ?_;refine Tc.rC (ih ⟨j+1,c2⟩ (by simp only;omega)) ?_ sL;simp only[e];exact⟨rfl,rfl,rfl,rfl,rfl,trivial⟩
   ·have e:k.YE (j+1)=k.YE j:=by rw[Bk.YE,if_neg c3]
    refine .sr ?_;refine .i ?_ (z:=iN oM);refine .done (.seq (.tt rfl (.skip (.seq (.block (.sr ?_))))));refine .m ?_;refine .x .ia ?_;refine .x .l0 ?_;refine .g ?_;refine .g ?_;refine .done (.sr ?_);refine .m ?_;refine .m ?_;refine .i ?_ (z:=OI oM);refine .done (.ff rfl (.skip (.inBlock (.r ?_))));refine .i ?_ (z:=eC oM oM);refine .m ?_;refine .done ?_;refine Tc.rC (ih ⟨j+1,c2⟩ (by simp only;omega)) ?_ sL;simp only[e];exact⟨rfl,rfl,rfl,rfl,rfl,trivial⟩
 refine Sc.block Jm.cl (Sc.loop Jm.cl ?_) tmps hr;have hgo:=EP XD k.nt 0 κ (ro (View.beside X Hx)) oM IB;subst hX;exact hgo _ (by unfold rgS;refine⟨rfl,?_⟩;refine⟨rfl,?_⟩;refine⟨rfl,?_⟩;refine⟨rfl,?_⟩;refine⟨rfl,?_⟩;refine⟨rfl,?_⟩;exact trivial)
end
end Go.Proofs.YtldmfjcgjdchcaaGreatDoor
namespace Go.Proofs.YtldmfjcgjdchcaaGreatDoor
open Go.RL Go.Proofs.Tryz
set_option maxRecDepth 100000
theorem yZ:iE.FI= [[49,50],[49,51]]:=by decide +kernel
theorem zZ:qF.FI= [[49,49,50],[50,50]]:=by decide +kernel
theorem bS:(iE.IC 0=0/\iE.IC 1=0/\iE.IC 2=2)/\iE.IC (-1)=2:=by decide +kernel
theorem cS:(qF.IC 0=2/\qF.IC 1=2/\qF.IC 2=0)/\qF.IC (-1)=0:=by decide +kernel
theorem aBC:(jA (fun i=> !qF.JH (jC [1,1,2]) (jC [3,9,9]) i) 3).isSome=false/\qF.mD (jC [1,1,2]) (jC [3,9,9]) 3=⟨[50,50],0,false⟩/\qF.line [50,50]=some 2:=by decide +kernel
theorem aBD:(jA (fun i=> !qF.JH (jC [1,1,2]) (jC [5,9,9]) i) 3).isSome=false/\qF.mD (jC [1,1,2]) (jC [5,9,9]) 3=⟨[49,49,50],0,false⟩/\qF.line [49,49,50]=none:=by decide +kernel
theorem I9:iE.look=(1,1):=by decide +kernel
theorem J9:iE.settled=none:=by decide +kernel
theorem QN:YA 2 2 6 6=true/\iE.E6 1 2 2 6 6=true:=by decide +kernel
theorem K9:QR.settled=some (2,0):=by decide +kernel
theorem BO:(iE.TF 1 0=2/\iE.TF 1 1=0)/\iE.FF 1 2=2:=by decide +kernel
theorem I4:iZ (iE.LO 0)= [1,2]:=by decide +kernel
theorem F4:iE.gI [51]=.tuple ⟨[.bool false,.int .i64 0]⟩:=by
 have h:isNum [51]=true/\iE.clash [51]=false/\iE.safe [51]=false:=by decide +kernel
 unfold Bk.gI;rw[if_neg (by rw[dG];decide),if_neg (by rw[h.1];decide),if_neg (by rw[h.2.1];decide),h.2.2]
theorem G4:iE.gI [53]=.tuple ⟨[.bool true,.int .i64 0]⟩:=by
 have h:isNum [53]=true/\iE.clash [53]=false/\iE.safe [53]=true:=by decide +kernel
 unfold Bk.gI;rw[if_neg (by rw[dG];decide),if_neg (by rw[h.1];decide),if_neg (by rw[h.2.1];decide),h.2.2]
theorem J4:iE.aJ 1 true=uG [48] true 0:=by
 have h:iE.spare 1 true=some [48]:=by decide +kernel
 unfold Bk.aJ;rw[if_neg (by rw[dG];decide),if_neg dE];show(match iE.spare 1 true with|some x=> uG x true 0|none=> uG [] false 0)=_;rw[h]
theorem AZ:zL [49,50,48]=.tuple ⟨[.int .i64 13,.int .i64 0]⟩:=by
 have h:isNum [49,50,48]=true/\AB [49,50,48]=13:=by decide +kernel
 unfold zL;rw[if_neg (by rw[h.1];decide),h.2];rfl
theorem E4:(sF 2 2).length<=12/\(jA (fun j=> !FE (jC [5,3,1] j)) 3).isSome=false/\(aI (jC [5,3,1]) 3 2 2).total=18/\(aI (jC [5,3,1]) 3 2 2).done=true/\(aI (jC [5,3,1]) 3 2 2).rE= [[49],[50,49],[50,50]]:=by decide +kernel
theorem EW:qF.eD 3 3 (jC [1,1,2]) (jC [3,9,9])=dD [50,50] 2 0:=by
 obtain⟨h1,h2,h3⟩:=aBC;unfold Bk.eD;rw[if_neg (by rw[PR];decide),if_neg dE];show(if(jA (fun i=> !qF.JH (jC [1,1,2]) (jC [3,9,9]) i) 3).isSome=true then _ else dD (qF.mD (jC [1,1,2]) (jC [3,9,9]) 3).heard (iB (qF.line (qF.mD (jC [1,1,2]) (jC [3,9,9]) 3).heard)) 0)=_;rw[h1,h2];simp only[Bool.false_eq_true,if_false];rw[h3];rfl
theorem FW:qF.eD 3 3 (jC [1,1,2]) (jC [5,9,9])=dD [49,49,50] (-1) 0:=by
 obtain⟨h1,h2,h3⟩:=aBD;unfold Bk.eD;rw[if_neg (by rw[PR];decide),if_neg dE];show(if(jA (fun i=> !qF.JH (jC [1,1,2]) (jC [5,9,9]) i) 3).isSome=true then _ else dD (qF.mD (jC [1,1,2]) (jC [5,9,9]) 3).heard (iB (qF.line (qF.mD (jC [1,1,2]) (jC [5,9,9]) 3).heard)) 0)=_;rw[h1,h2];simp only[Bool.false_eq_true,if_false];rw[h3];rfl
set_option maxRecDepth 10000
set_option maxHeartbeats 16000000
theorem m9 {k:Bk}(ZB:k.VC){i:Nat}(hi:i<k.nt):(k.can i).length<=12:=by
 obtain⟨h1,h2,h3⟩:=k.vG ZB hi;have e:∀a b lo hi:Nat,(VK a b lo hi).length=(b+1-a)*(hi+1-lo):=fun a b lo hi=> by
  unfold VK Q7;rw[List.length_flatMap];simp only[List.length_map,List.length_range',List.map_const',List.sum_replicate_nat]
 unfold Bk.can;rw[e];have h4:=k.xJ (k.qt i);have m1:(k.pt i).toNat+1-(k.pf i).toNat<=4:=by omega
 have m2:k.kind (k.qt i)+1-k.kind (k.qf i)<=3:=by omega
 exact Nat.mul_le_mul m1 m2
theorem BW {k:Bk}(ha:k.WA=0):(k.eG k.nt).length<=12 ^ 6:=by
 obtain⟨_,_,aN,ZB⟩:=Bk.valid ha;have h:∀n,n<=k.nt->(k.eG n).length<=12 ^ n:=by
  intro n;induction n with
  | zero=> intro _;exact Nat.le_refl _
  | succ n ih=>
   intro hn;unfold Bk.eG;rw[List.length_flatMap];have h1:∀l:List YF,(l.map fun e=> ((k.can n).map fun x=> e.hear x.1 x.2).length).sum<=l.length*12:=by
    intro l;induction l with
    | nil=> exact Nat.le_refl _
    | cons e t iht=>
     have:=m9 ZB (i:=n) oM;simp only[List.map_cons,List.sum_cons,List.length_map,List.length_cons] at iht ⊢;omega
   have h2:=h1 (k.eG n);have h3:=ih oM;rw[Nat.pow_succ];omega
 exact Nat.le_trans (h k.nt (Nat.le_refl _)) (Nat.pow_le_pow_right dE aN)
section
variable(M:Md prog)(H:View)
theorem NT(k:Bk)(A:Option Addr)(lc:Nat)(B:Option Addr)(tc:Nat)(hk:LF H k A lc B tc)(hn:k.small)(hG:aE H)(ha:k.WA=0):
  bA M 49 #[k.val A lc B tc] H (fun v H'=> H.le H'/\∃g:Gl 9 1,v=aDO g 0/\(g.n=k.FI.length/\g.l=GB k.FI)/\∀x∈g.bl,H' x.1=some x.2/\H x.1=none):=by
 obtain⟨_,RQ,aN,ZB⟩:=Bk.valid ha;have yT:=BW ha;have lA:=fun(H':View) (h':H.le H')=> vC M H' k A lc B tc (hk.le h') hn (IA hG h') ha;refine .en func49 ntmps49 fun St c cs hK=> ?_;refine U2 ?_;refine .bo fun b1=> ?_;refine U6 ?_;refine .cl (fun H hs=> lA H hs.base) ?_;refine U3 ?_;refine .al fun b4=> ?_;refine ZX ?_;refine To.vB rfl rfl rfl rfl rfl rfl dE (uB.h (AW M H k A lc B tc hk.ZD ZB aN k.nt (Nat.le_refl _))) (fun v H₂ hv=> ?_);obtain⟨hle,m,es,cl,rfl,⟨fm,q3⟩,q4⟩:=hv;have AD:=vZ q4;refine .e (Or.range (E:=en) (es:=es) (cl:=cl) rfl rfl (fun H hs=> ⟨fm,hs.base _ _ q3⟩) rfl rfl rfl dE (fun it=> ?_));refine U2 ?_;refine Tc.db (Tc.tA (σ:= { s:Array Nat×List (List UInt8)×Gl 9 1//s.2.2.l=GB s.2.1/\(vD es s.1).length+s.2.1.length=es.size/\∀x,x∈(k.eG k.nt).map (·.heard)<->(x∈s.2.1\/∃me∈vD es s.1,∃e:YF,me.key=e.val/\x=e.heard) })
  (fun s=> ([(1,.pointer (some ⟨b1,0,none⟩)),(4,.pointer (some ⟨b4,0,none⟩)),(6,s.1.2.2.val),(21,.pointer (some ⟨it,0,none⟩))],[(it,true,.mapIter (some m) cl s.1.1 cl),(b4,true,.cells ⟨(k.val A lc B tc).cells.toList⟩ 166 (0,0)),(b1,true,.cells ⟨(k.val A lc B tc).cells.toList⟩ 45 (0,0))]++s.1.2.2.bl)) (fun s=> (vD es s.1.1).length) ?_ ⟨(#[],[],Gl.nil 9 1),rfl,by rw[VD];simp,fun x=> by
   rw[VD,List.mem_map];constructor
   ·rintro⟨e,he,rfl⟩;obtain⟨me,h1,h2,_⟩:=(q4.mem e.val (.bool true)).1 ⟨e,(k.pD _ e).1 he,rfl,rfl⟩;exact .inr ⟨me,h1,e,h2,rfl⟩
   ·rintro(h|⟨me,h1,e,h2,rfl⟩)
    ·cases h
    ·obtain⟨y,h3,h4,_⟩:=OD q4 me h1;rw[GG (h2.symm.trans h4)];exact⟨y,(k.pD _ y).2 h3,rfl⟩⟩)
 rintro⟨⟨seen,dn,g⟩,p2,p3,p4⟩ ih;simp only at p2 p3 p4;show Tc M St _ _ H₂ _ [(1,.pointer (some ⟨b1,0,none⟩)),(4,.pointer (some ⟨b4,0,none⟩)),(6,g.val),(21,.pointer (some ⟨it,0,none⟩))] ([(it,true,.mapIter (some m) cl seen cl),(b4,true,.cells ⟨(k.val A lc B tc).cells.toList⟩ 166 (0,0)),(b1,true,.cells ⟨(k.val A lc B tc).cells.toList⟩ 45 (0,0))]++g.bl) _ _;have nL:g.n=dn.length:=by have:=g.hl;rw[p2,iF] at this;omega
 refine U2 ?_;refine .e (Or.next (es:=es) 0 rfl rfl rfl (fun H hs=> ⟨fm,hs.base _ _ q3⟩) q4.lt rfl dE (fun me he hse=> ?_) (fun SA=> ?_))
 ·have hp :=PG q4.TK he hse;obtain⟨e0,u1,u2,_⟩:=OD q4 me he;have II:=uJ q4 he;have F5:=hp.length_eq;rw[List.length_cons] at F5;refine U8 ?_;refine .e (Or.entry (es:=es) (e:=me) (st:=me.born) rfl rfl (fun H hs=> ⟨true,hs.get (i:=0) rfl⟩) (fun H hs=> ⟨fm,hs.base _ _ q3⟩) (by simp) II rfl dE ?_);rw[u2];refine U ?_;refine .al fun b7=> ?_;refine U6 ?_;refine .e (.bs (zz:=fun bs=> ?_));refine .e (Or.append (E:=en) 5 rfl rfl rfl rfl rfl rfl rfl rfl rfl rfl rfl rfl rfl rfl rfl (fun H hs=> OA.of (hs.get (i:=0) rfl) (Nat.le_of_ble_eq_true rfl)) rfl oM rfl dE (fun g' TW TP=> ?_));refine U3 ?_;exact Tc.db (ih ⟨(seen.push me.born,dn++[e0.heard],g'),by simp only;rw[TP,p2,gF];rfl,by simp only;rw[List.length_append,List.length_singleton];omega,fun x=> by
   rw[p4 x,List.mem_append,List.mem_singleton];constructor
   ·rintro(h|⟨me',h1,e',h2,h5⟩)
    ·exact .inl (.inl h)
    ·rcases List.mem_cons.1 (hp.mem_iff.1 h1) with rfl|h6
     ·rw[GG (h2.symm.trans u2)] at h5;exact .inl (.inr h5)
     ·exact .inr ⟨me',h6,e',h2,h5⟩
   ·rintro((h|h)|⟨me',h6,h7⟩)
    ·exact .inl h
    ·exact .inr ⟨me,hp.mem_iff.2 (List.mem_cons_self ..),e0,u2,h⟩
    ·exact .inr ⟨me',hp.mem_iff.2 (List.mem_cons_of_mem _ h6),h7⟩⟩ (by simp only;omega))
 ·have rK:=yF SA;rw[rK] at p3 p4;simp only[List.not_mem_nil,false_and,exists_false,or_false] at p4;rw[List.length_nil,Nat.zero_add] at p3;have aBO:k.FI=QK dn:=aU p4;refine U8 ?_;refine .e (Or.s7 (dec:=XK dn) (L1:= [(it,true,.mapIter (some m) cl seen cl),(b4,true,.cells ⟨(k.val A lc B tc).cells.toList⟩ 166 (0,0)),(b1,true,.cells ⟨(k.val A lc B tc).cells.toList⟩ 45 (0,0))]) g (CF dn) (p2.trans (vN _).symm) (gH _) oM rfl rfl rfl rfl rfl dE (fun H Q h=> .h h) (fun g' mm A8 rM JO J1 ht hs'=> ?_));rw[<-A8];rw[nL] at ht hs' rM;have XD:(jB mm dn.length).map (XK dn)=k.FI:=by rw[aBO];exact oZ rfl ht hs'
  have hE':=(gH dn).uD ht;refine U4 ?_;refine .e (Or.B9 (dec:=XK dn) (L1:= [(it,true,.mapIter (some m) cl seen cl),(b4,true,.cells ⟨(k.val A lc B tc).cells.toList⟩ 166 (0,0)),(b1,true,.cells ⟨(k.val A lc B tc).cells.toList⟩ 45 (0,0))]) g' mm J1 hE' oM rfl rfl rfl rfl rfl dE (fun H Q h=> .h h) (fun g2 C5 sS=> ?_));rw[rM] at C5 sS;have hl4:g2.l=GB k.FI:=by rw[sS,rR,XD];rfl
  have hn4:g2.n=k.FI.length:=by rw[C5,<-XD,List.length_map]
  refine U3 ?_;refine .rt hK func49 results49 [_,_] ?_;exact fun H' hs=> ⟨View.le_trans hle hs.base,g2,rfl,⟨hn4,hl4⟩,fun x hx=> ⟨hs.at_ x (by simp[hx]),none_le hle (hs.out x (by simp[hx]))⟩⟩
end
end Go.Proofs.YtldmfjcgjdchcaaGreatDoor
namespace Go.RL
open Go.Conc
section
variable {P:Program}{M:Md P}{St:View->Goroutine->Prop}{n:Nat}{b:FB}{H₀:View}{cs:List Frame}{R:Rg}{L:Bl}{ds:List Deferred}{k:List Item}{md:Region.Mode}{ops:Array Oper}
theorem Ta.aBo(i j:Nat){B:List Nat}{Hs:View}{Ls Lb:Bl}{o:Oper}{d:Nat}{fuel:Nat}{listed:Array Bool}{cl:Go.Call}{x:Operand}{fv:Value}{az:List Value}(hr:Region.ready md ops listed= [i,j])(hi:ops[i]? =some o)
  (hw:RA (ops.toList.map (fun o:Oper=> o.dst)) R o=some true) (lA:o.op=.call cl) (nB:cl.callee=.value x) (hx:JA R x=some fv) (has:HD R cl.args.toList=some az) (hd:o.dst=some d) (hn:d<n)
  {Q:Value->View->Prop} (hc:uB M fv az H₀ Q) (hle:∀v H₁,Q v H₁->Hs.le H₁) (h1:Ls.Sublist L) (h2:(B.all fun j=> !((listed.setIfInBounds i true).getD j true))=false\/Lb.Sublist L)
  (hk:∀v H₁,Q v H₁->Ta M St n b H₁ cs (S2 Hs B Ls Lb) md ops fuel (listed.setIfInBounds i true) ((d,v)::R) L ds k)
  (hj:GC M St n b H₀ cs (S2 Hs B Ls Lb) md ops fuel listed R L ds k j):
  Ta M St n b H₀ cs (S2 Hs B Ls Lb) md ops (fuel+1) listed R L ds k:=fun H tmps hs uE _ H₂ h2' _=> by
 have hs:=hs.mono h2';refine⟨fun e=> (by rw[hr] at e;cases e),fun j' rS o' eQ=> ?_⟩;rw[hr] at rS;have zU:j'=i\/j'=j:=by simpa using rS
 rcases zU with rfl|rfl
 ·rw[hi] at eQ;cases eQ
  refine⟨(by rw[lA];rfl),?_⟩;have WV:Region.wanted o (yielded ops tmps)=true:=RB (fun j=> by
   simp only[List.getElem?_map,Array.getElem?_toList];cases ops[j]? <;> rfl) uE hw
  rw[if_pos WV];obtain⟨F,rfl,zT,hF⟩:=hs.split;have e1:=uE.ev hx;have qM:cl.args.map (fC tmps)=az.toArray:=by
   apply Array.ext'
   simpa using uE.evs has
  have hex:execOp (fC tmps) o=(Deferred.ofValue fv az.toArray).bind fun d=> invoke d.target d.args:=by
   have h1:execOp (fC tmps) o=(resolve (fC tmps) cl o.type).bind fun d=> invoke d.target d.args:=by unfold execOp;rw[lA];rfl
   rw[h1];unfold resolve;rw[nB];simp only[e1,qM]
  unfold KE;rw[hex];have fin:∀v H'',gK F Q v H''->S2 Hs B Ls Lb (listed.setIfInBounds j' true) H''/\oI M md ops (S2 Hs B Ls Lb) (fun tmps H=> T M St H (G (b.at tmps ds k) cs)) fuel (listed.setIfInBounds j' true) (XB tmps o.dst v) H'':=by
   rintro v H'' ⟨H₁,rfl,RP,hq⟩;have xS:gA H₁ L (H₁.plus F):=.BS hs.nodup hF RP;have hS:S2 Hs B Ls Lb (listed.setIfInBounds j' true) (H₁.plus F):=S2.mkL (hle v H₁ hq) h1 h2 _ xS;refine⟨hS,?_⟩;rw[hd];exact hk v H₁ hq _ _ xS (uE.put hn v) hS
  refine UA _ (fun nx H' rM=> ?_) (hc.frame zT);cases nx <;> first
   | exact rM.elim
   | exact bA.mono rM fin
   | exact ZL.mono rM fin
 ·obtain⟨o2,ho2,hd2,hw2,h'⟩:=hj;rw[eQ] at ho2;cases ho2
  refine⟨hd2,?_⟩;have WV:Region.wanted o' (yielded ops tmps)=true:=RB (fun j=> by
   simp only[List.getElem?_map,Array.getElem?_toList];cases ops[j]? <;> rfl) uE hw2
  rw[if_pos WV];refine(h' H₂ tmps hs uE).mono ?_;rintro t H' ⟨R',L',h1,h2,h3,h4⟩;exact⟨h3 H' h2,h4 H' t h2 h1 (h3 H' h2)⟩
theorem Tc.aGK {x:Item}(F:View->Rg->Bl->Prop)(hF:∀H R L,F H R L->Tc M St n b H cs R L ds k)(h:(∀H R L,F H R L->Tc M St n b H cs R L ds k)->Tc M St n b H₀ cs R L ds (x::k)):Tc M St n b H₀ cs R L ds (x::k):=h hF
end
end Go.RL
