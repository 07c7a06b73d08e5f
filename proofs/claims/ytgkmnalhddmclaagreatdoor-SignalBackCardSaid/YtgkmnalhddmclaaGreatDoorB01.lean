/-
 Texts of the proofs over baudot/dial.
-/
import Derived.Conc.Listed
import Derived.IntWalk
import Derived.Laws.Sem
namespace Go.RL
theorem oM {p:Prop}(h:p:=by omega):p:=h
theorem kR {p:Prop}(h:p:=by kernel_rfl):p:=h
theorem dE {p:Prop}(h:p:=by decide):p:=h
theorem sL {α:Type}{L' L:List α}(h:L'.Sublist L:=by repeat (first|exact List.Sublist.refl _|exact List.nil_sublist _|exact List.sublist_append_left _ _|apply List.Sublist.cons_cons|apply List.Sublist.cons)):L'.Sublist L:=h
end Go.RL
namespace Go.RL
open Go.Conc
abbrev View:=Nat->Option (Bool×Obj)
def Sat(H:View)(w:World):Prop:=∀b f o,H b=some (f,o)->w.heap[b]? =some o
def View.put(H:View)(b:Nat)(x:Bool×Obj):View:=fun c=> if c=b then some x else H c
theorem View.pA(H:View)(b:Nat)(x:Bool×Obj):H.put b x b=some x:=by simp[View.put]
theorem View.jA(H:View){b c:Nat}(x:Bool×Obj)(h:c≠b):H.put b x c=H c:=by simp[View.put,h]
def HP:Mark->Bool
 | .noRoom | .extern _=> true
 | _=> false
def VJ(H:View)(e:Event):Prop:=
 match e.loc with
 | .cell a=> e.sync=false/\∃f o,H a.block=some (f,o)/\(e.write=true->f=true)
 | .obj r=> e.sync=false/\∃f o,H r=some (f,o)/\(e.write=true->f=true)
 | .mark m=> HP m=true/\e.write=false/\e.sync=true
 | _=> False
structure Trans(H:View)(w:World)(H':View)(w':World)(es:Array Event):Prop where
 tape:w'.tape=w.tape
 os:w'.os=w.os
 out:w'.output=w.output
 size:w.heap.size<=w'.heap.size
 VC:∀b,b<w.heap.size->(∀o,H b≠some (true,o))->w'.heap[b]? =w.heap[b]?
 sat:Sat H' w'
 ext:∀b f o',H' b=some (f,o')->(∃o,H b=some (f,o))\/(f=true/\w.heap.size<=b)
 keep:∀b f o,H b=some (f,o)->∃o',H' b=some (f,o')/\(f=false->o'=o)
 ev:∀e∈es,VJ H' e
theorem VJ.keep {H H':View}{e:Event}(h:VJ H e)(k:∀b f o,H b=some (f,o)->∃o',H' b=some (f,o')/\(f=false->o'=o)):VJ H' e:=by
 unfold VJ at *;split
 ·rename_i a heq
  rw[heq] at h;obtain⟨h1,f,o,h2,h3⟩:=h;obtain⟨o',h4,_⟩:=k _ _ _ h2;exact⟨h1,f,o',h4,h3⟩
 ·rename_i r heq
  rw[heq] at h;obtain⟨h1,f,o,h2,h3⟩:=h;obtain⟨o',h4,_⟩:=k _ _ _ h2;exact⟨h1,f,o',h4,h3⟩
 ·rename_i heq
  rw[heq] at h;exact h
 ·rename_i h1 h2 h3
  split at h
  ·rename_i heq;exact(h1 _ heq).elim
  ·rename_i heq;exact(h2 _ heq).elim
  ·rename_i heq;exact(h3 _ heq).elim
  ·exact h
theorem Trans.refl {H:View}{w:World}(h:Sat H w):Trans H w H w #[]:=
 ⟨rfl,rfl,rfl,Nat.le_refl _,fun _ _ _=> rfl,h,fun _ _ o h=> .inl ⟨o,h⟩,fun _ _ o h=> ⟨o,h,fun _=> rfl⟩,by simp⟩
theorem Trans.trans {H H' H'':View}{w w' w'':World}{es es':Array Event}(h:Trans H w H' w' es)(k:Trans H' w' H'' w'' es'):Trans H w H'' w'' (es++es') where
 tape:=k.tape.trans h.tape
 os:=k.os.trans h.os
 out:=k.out.trans h.out
 size:=Nat.le_trans h.size k.size
 VC:=fun b hb ho=> by
  rw[k.VC b (Nat.lt_of_lt_of_le hb h.size) ?_,h.VC b hb ho];intro o lQ;rcases h.ext _ _ _ lQ with ⟨o,h1⟩|⟨_,h2⟩
  ·exact ho o h1
  ·omega
 sat:=k.sat
 ext:=fun b f o' hb=> by
  rcases k.ext b f o' hb with ⟨o,h1⟩|⟨h1,h2⟩
  ·exact h.ext b f o h1
  ·exact .inr ⟨h1,Nat.le_trans h.size h2⟩
 keep:=fun b f o hb=> by
  obtain⟨o1,h1,h2⟩:=h.keep b f o hb;obtain⟨o2,h3,h4⟩:=k.keep b f o1 h1;exact⟨o2,h3,fun hf=> (h4 hf).trans (h2 hf)⟩
 ev:=fun e he=> by
  rcases Array.mem_append.1 he with he|he
  ·exact(h.ev e he).keep k.keep
  ·exact k.ev e he
theorem Trans.sub {H H':View}{w w':World}{es es':Array Event}(h:Trans H w H' w' es)(k:∀e∈es',e∈es):Trans H w H' w' es':=
 { h with ev:=fun e he=> h.ev e (k e he) }
def vA {α:Type}(P:Program):Sem α->View->(α->View->Prop)->Prop
 | .pure a,H,Q=> Q a H
 | .load m a k,H,Q=> m=.plain/\a.spot=none/\∃f c e fz v,H a.block=some (f,.cells c e fz)/\c[a.off]? =some v/\vA P (k v) H Q
 | .store m a v k,H,Q=> m=.plain/\a.spot=none/\(∀cs,v≠ .agg cs)/\(∀cs,v≠ .tuple cs)/\
  ∃ c e fz,H a.block=some (true,.cells c e fz)/\a.off<c.size/\(fz.1<=a.off&&a.off<fz.2)=false/\
   vA P k (H.put a.block (true,.cells (c.setIfInBounds a.off v) e fz)) Q
 | .new o k,H,Q=> ∀b,H b=none->vA P (k b) (H.put b (true,o)) Q
 | .shape r k,H,Q=> (∃f c e fz,H r=some (f,.cells c e fz)/\vA P (k (some (e,c.size))) H Q)
 | .getObj r k,H,Q=> ∃f o,H r=some (f,o)/\(∀c e fz,o≠ .cells c e fz)/\o.isChan=false/\vA P (k o) H Q
 | .setObj r o k,H,Q=> (∃o₀,H r=some (true,o₀)/\(∀c e fz,o₀≠ .cells c e fz))/\o.isChan=false/\vA P k (H.put r (true,o)) Q
 | .choose q k,H,Q=> ∀t,vA P (k (if q.forced then 0 else q.cut t)) H Q
 | .program k,H,Q=> vA P (k P) H Q
 | .mark m k,H,Q=> HP m=true/\vA P k H Q
 | .frozen a k,H,Q=> ∃f c e fz,H a.block=some (f,.cells c e fz)/\vA P (k (fz.1<=a.off&&a.off<fz.2)) H Q
 | .freeze a n k,H,Q=> n≠0/\∃c e fz,H a.block=some (true,.cells c e fz)/\vA P k (H.put a.block (true,.cells c e (if fz.1==fz.2 then(a.off,a.off+n) else(min fz.1 a.off,max fz.2 (a.off+n))))) Q
 | .sys _ _,_,_=> False
 | .halt _,_,_=> False
theorem Sat.lt {H:View}{w:World}(h:Sat H w){b:Nat}{x:Bool×Obj}(hb:H b=some x):b<w.heap.size:=
 (Array.getElem?_eq_some_iff.1 (h b x.1 x.2 (by rw[hb]))).1
theorem Sat.cell {H:View}{w:World}(h:Sat H w){a:Addr}{f:Bool}{c:Array Value}{e:TypeId}{fz:Nat×Nat}(hb:H a.block=some (f,.cells c e fz))(hs:a.spot=none):
 w.cell? a=c[a.off]? :=by simp[World.cell?,h _ _ _ hb,hs]
theorem Sat.frozen {H:View}{w:World}(h:Sat H w){a:Addr}{f:Bool}{c:Array Value}{e:TypeId}{fz:Nat×Nat}(hb:H a.block=some (f,.cells c e fz)):
 w.frozen? a=(fz.1<=a.off&&a.off<fz.2):=by simp[World.frozen?,h _ _ _ hb]
theorem Sat.put {H:View}{w w':World}{b:Nat}{x:Bool×Obj}(h:Sat H w)(hb:w'.heap[b]? =some x.2)(ho:∀c,c≠b->c<w.heap.size->w'.heap[c]? =w.heap[c]?):Sat (H.put b x) w':=by
 intro c f o hc;by_cases e:c=b
 ·subst e;rw[View.pA] at hc;cases hc
  exact hb
 ·rw[View.jA _ _ e] at hc;rw[ho c e (h.lt hc)];exact h c f o hc
theorem Trans.new {H:View}{w:World}(h:Sat H w)(o:Obj):H w.heap.size=none/\Trans H w (H.put w.heap.size (true,o)) { w with heap:=w.heap.push o } #[]:=by
 have hn:H w.heap.size=none:=by
  cases hx:H w.heap.size with
  | none=> rfl
  | some x=> have:=h.lt hx;omega
 refine⟨hn,rfl,rfl,rfl,by simp,fun b hb _=> by simp[Array.getElem?_push,Nat.ne_of_lt hb],h.put (by simp) fun c _ hc=> by simp[Array.getElem?_push,Nat.ne_of_lt hc],fun b f o' hb=> ?_,fun b f o₀ hb=> ?_,by simp⟩
 ·by_cases e:b=w.heap.size
  ·subst e;rw[View.pA] at hb;cases hb
   exact .inr ⟨rfl,Nat.le_refl _⟩
  ·rw[View.jA _ _ e] at hb;exact .inl ⟨o',hb⟩
 ·have e:b≠w.heap.size:=by intro e;rw[e,hn] at hb;cases hb
  exact⟨o₀,by rw[View.jA _ _ e];exact hb,fun _=> rfl⟩
theorem Trans.YP {H:View}{w w':World}{b:Nat}{o o':Obj}(h:Sat H w)(hb:H b=some (true,o))(h1:w'.tape=w.tape)(h2:w'.os=w.os)(h3:w'.output=w.output)(h4:w'.heap.size=w.heap.size)
  (h5:w'.heap[b]? =some o') (h6:∀c,c≠b->w'.heap[c]? =w.heap[c]?):Trans H w (H.put b (true,o')) w' #[]:=by
 refine⟨h1,h2,h3,oM,fun c _ hc=> h6 c ?_,h.put h5 fun c hc _=> h6 c hc,fun c f o₁ hc=> ?_,fun c f o₁ hc=> ?_,by simp⟩
 ·intro e;subst e;exact hc o hb
 ·by_cases e:c=b
  ·subst e;rw[View.pA] at hc;cases hc
   exact .inl ⟨o,hb⟩
  ·rw[View.jA _ _ e] at hc;exact .inl ⟨o₁,hc⟩
 ·by_cases e:c=b
  ·subst e;rw[hb] at hc;cases hc
   exact⟨o',View.pA ..,by simp⟩
  ·exact⟨o₁,by rw[View.jA _ _ e];exact hc,fun _=> rfl⟩
theorem Trans.list {H H':View}{w w':World}{es:Array Event}(h:Trans H w H' w' es)(e:Event)(he:VJ H' e):Trans H w H' w' (#[e]++es):=
 have k:∀x∈#[e]++es,VJ H' x:=fun x hx=> by
  rcases Array.mem_append.1 hx with hx|hx
  ·simp at hx;subst hx;exact he
  ·exact h.ev x hx
 { h with ev:=k }
theorem xH(es₀ es:Array Event)(e:Event):es₀.push e++es=es₀++(#[e]++es):=by
 apply Array.ext'
 simp
theorem rB {α:Type}{P:Program}(s:Sem α):∀ {H:View} {w:World} {Q:α->View->Prop} (es₀:Array Event),Sat H w->vA P s H Q-> 
   ∃a H' w' es,s.runT P w es₀=(.ok a w',es₀++es)/\Trans H w H' w' es/\Q a H':=by
 induction s with
 | pure a=> exact fun es₀ hs hq=> ⟨a,_,_,#[],by simp only[Sem.runT,Array.append_empty],.refl hs,hq⟩
 | load m a k ih=>
   intro H w Q es₀ hs ⟨hm,UW,f,c,e,fz,v,hb,hv,hq⟩;subst hm;obtain⟨r,H',w',es,h1,h2,h3⟩:=ih v (es₀.push ⟨.cell a,false,false⟩) hs hq;refine⟨r,H',w',#[⟨.cell a,false,false⟩]++es,?_,h2.list _ ?_,h3⟩
   · have hc:w.cell? a=some v:=by rw[hs.cell hb UW,hv]
     simp only[Sem.runT,hc];have:(Mode.plain==Mode.atomic)=false:=rfl;rw[this,h1,xH]
   · obtain⟨o',h4,_⟩:=h2.keep _ _ _ hb;exact⟨rfl,f,o',h4,by simp⟩
 | store m a v k ih=>
   intro H w Q es₀ hs ⟨hm,UW,hv1,hv2,c,e,fz,hb,ho,hf,hq⟩;subst hm;have SX:=hs _ _ _ hb;have iB:=hs.lt hb;have UN:(w.setCell a v).heap.size=w.heap.size:=by simp[World.setCell]
   have eY:(w.setCell a v).heap[a.block]? =some (.cells (c.setIfInBounds a.off v) e fz):=by
     simp[World.setCell,Array.getElem?_modify,SX,UW]
   have iT:∀d,d≠a.block->(w.setCell a v).heap[d]? =w.heap[d]? :=by
     intro d hd;simp only[World.setCell,Array.getElem?_modify];rw[if_neg (Ne.symm hd)]
   have ht:Trans H w (H.put a.block (true,.cells (c.setIfInBounds a.off v) e fz)) (w.setCell a v) #[]:=.YP hs hb rfl rfl rfl UN eY iT;obtain⟨r,H',w',es,h1,h2,h3⟩:=ih (es₀.push ⟨.cell a,true,false⟩) ht.sat hq;refine⟨r,H',w',#[⟨.cell a,true,false⟩]++es,?_,?_,h3⟩
   · have hc:w.cell? a=some (c[a.off]'ho):=by rw[hs.cell hb UW];simp[ho]
     have hz:w.frozen? a=false:=by rw[hs.frozen hb];exact hf
     have:(Mode.plain==Mode.atomic)=false:=rfl;cases v <;> first
       | exact absurd rfl (hv1 _)
       | exact absurd rfl (hv2 _)
       | (simp only[Sem.runT,hc,hz,this]
          simp only[Bool.false_eq_true,if_false,h1,xH])
   · have:=ht.trans h2;simp only[Array.empty_append] at this;refine this.list _ ⟨rfl,true,?_⟩;obtain⟨o',h4,_⟩:=this.keep _ _ _ hb;exact⟨o',h4,fun _=> rfl⟩
 | new o k ih=>
   intro H w Q es₀ hs hq;obtain⟨hn,ht⟩:=Trans.new hs o;obtain⟨r,H',w',es,h1,h2,h3⟩:=ih w.heap.size es₀ ht.sat (hq _ hn);exact⟨r,H',w',es,by simp only[Sem.runT];exact h1,by simpa using ht.trans h2,h3⟩
 | shape r k ih=>
   intro H w Q es₀ hs ⟨f,c,e,fz,hb,hq⟩;obtain⟨x,H',w',es,h1,h2,h3⟩:=ih _ es₀ hs hq;exact⟨x,H',w',es,by simp only[Sem.runT,World.shape?,hs _ _ _ hb];exact h1,h2,h3⟩
 | freeze a n k ih=>
   intro H w Q es₀ hs ⟨hn,c,e,fz,hb,hq⟩;have SX:=hs _ _ _ hb;have UN:(w.freeze a n).heap.size=w.heap.size:=by simp[World.freeze,hn]
   have eY:(w.freeze a n).heap[a.block]? =some (.cells c e (if fz.1==fz.2 then(a.off,a.off+n) else(min fz.1 a.off,max fz.2 (a.off+n)))):=by
     simp[World.freeze,hn,Array.getElem?_modify,SX]
   have iT:∀d,d≠a.block->(w.freeze a n).heap[d]? =w.heap[d]? :=by
     intro d hd;simp only[World.freeze,if_neg hn,Array.getElem?_modify];rw[if_neg (Ne.symm hd)]
   have ht:Trans H w (H.put a.block (true,.cells c e (if fz.1==fz.2 then(a.off,a.off+n) else(min fz.1 a.off,max fz.2 (a.off+n))))) (w.freeze a n) #[]:=.YP hs hb (by simp[World.freeze,hn]) (by simp[World.freeze,hn]) (by simp[World.freeze,hn]) UN eY iT;obtain⟨r,H',w',es,h1,h2,h3⟩:=ih es₀ ht.sat hq;exact⟨r,H',w',es,by simp only[Sem.runT];exact h1,by simpa using ht.trans h2,h3⟩
 | frozen a k ih=>
   intro H w Q es₀ hs ⟨f,c,e,fz,hb,hq⟩;obtain⟨x,H',w',es,h1,h2,h3⟩:=ih _ es₀ hs hq;exact⟨x,H',w',es,by simp only[Sem.runT];rw[hs.frozen hb];exact h1,h2,h3⟩
 | getObj r k ih=>
   intro H w Q es₀ hs ⟨f,o,hb,hc,r6,hq⟩;obtain⟨x,H',w',es,h1,h2,h3⟩:=ih o (es₀.push ⟨.obj r,false,o.isChan⟩) hs hq;refine⟨x,H',w',#[⟨.obj r,false,o.isChan⟩]++es,?_,h2.list _ ?_,h3⟩
   · simp only[Sem.runT,hs _ _ _ hb];cases o <;> first
       | exact absurd rfl (hc _ _ _)
       | rw[h1,xH]
   · obtain⟨o',h4,_⟩:=h2.keep _ _ _ hb;exact⟨r6,f,o',h4,by simp⟩
 | setObj r o k ih=>
   intro H w Q es₀ hs ⟨⟨o₀,hb,hc⟩,r6,hq⟩;have ht:Trans H w (H.put r (true,o)) { w with heap:=w.heap.setIfInBounds r o } #[]:=
     .YP hs hb rfl rfl rfl (by simp) (by simp[hs.lt hb]) fun c hc=> by simp[Ne.symm hc]
   obtain⟨x,H',w',es,h1,h2,h3⟩:=ih (es₀.push ⟨.obj r,true,o.isChan⟩) ht.sat hq;refine⟨x,H',w',#[⟨.obj r,true,o.isChan⟩]++es,?_,?_,h3⟩
   · simp only[Sem.runT,hs _ _ _ hb];cases o₀ <;> first
       | exact absurd rfl (hc _ _ _)
       | rw[h1,xH]
   · have:=ht.trans h2;simp only[Array.empty_append] at this;obtain⟨o',h4,_⟩:=this.keep _ _ _ hb;exact this.list _ ⟨r6,true,o',h4,fun _=> rfl⟩
 | choose q k ih=>
   intro H w Q es₀ hs hq;by_cases hf:q.forced=true
   · have:=hq 0;rw[if_pos hf] at this;obtain⟨x,H',w',es,h1,h2,h3⟩:=ih 0 es₀ hs this;exact⟨x,H',w',es,by simp only[Sem.runT,hf,if_true];exact h1,h2,h3⟩
   · have:=hq (w.tape w.drawn q);rw[if_neg hf] at this;have hs':Sat H { w with drawn:=w.drawn+1 }:=hs;obtain⟨x,H',w',es,h1,h2,h3⟩:=ih _ es₀ hs' this;exact⟨x,H',w',es,by simp only[Sem.runT];rw[if_neg hf];exact h1,{ h2 with tape:=h2.tape,os:=h2.os,out:=h2.out,size:=h2.size,VC:=h2.VC },h3⟩
 | sys c k ih=> exact fun _ _ hq=> hq.elim
 | program k ih=>
   intro H w Q es₀ hs hq;obtain⟨x,H',w',es,h1,h2,h3⟩:=ih P es₀ hs hq;exact⟨x,H',w',es,by simp only[Sem.runT];exact h1,h2,h3⟩
 | mark m k ih=>
   intro H w Q es₀ hs ⟨hm,hq⟩;obtain⟨x,H',w',es,h1,h2,h3⟩:=ih (es₀.push ⟨.mark m,false,true⟩) hs hq;refine⟨x,H',w',#[⟨.mark m,false,true⟩]++es,?_,h2.list ⟨.mark m,false,true⟩ ⟨hm,rfl,rfl⟩,h3⟩;simp only[Sem.runT];rw[h1,xH]
 | halt h=> exact fun _ _ hq=> hq.elim
theorem aA {α β:Type}{P:Program}(s:Sem α)(k:α->Sem β){Q:β->View->Prop}:∀ {H:View},vA P s H (fun a H'=> vA P (k a) H' Q)->vA P (s.bind k) H Q:=by
 induction s with
 | pure a=> exact fun h=> h
 | load m a c ih=> exact fun⟨h1,h2,f,x,e,fz,v,h3,h4,h5⟩=> ⟨h1,h2,f,x,e,fz,v,h3,h4,ih v h5⟩
 | store m a v c ih=> exact fun⟨h1,h2,h3,h4,x,e,fz,h5,h6,h7,h8⟩=> ⟨h1,h2,h3,h4,x,e,fz,h5,h6,h7,ih h8⟩
 | new o c ih=> exact fun h b hb=> ih b (h b hb)
 | shape r c ih=> exact fun⟨f,x,e,fz,h1,h2⟩=> ⟨f,x,e,fz,h1,ih _ h2⟩
 | freeze a n c ih=> exact fun⟨h1,x,e,fz,h2,h3⟩=> ⟨h1,x,e,fz,h2,ih h3⟩
 | frozen a c ih=> exact fun⟨f,x,e,fz,h1,h2⟩=> ⟨f,x,e,fz,h1,ih _ h2⟩
 | getObj r c ih=> exact fun⟨f,o,h1,h2,h3,h4⟩=> ⟨f,o,h1,h2,h3,ih _ h4⟩
 | setObj r o c ih=> exact fun⟨h1,h2,h3⟩=> ⟨h1,h2,ih h3⟩
 | choose q c ih=> exact fun h t=> ih _ (h t)
 | sys c k ih=> exact fun h=> h.elim
 | program c ih=> exact fun h=> ih _ h
 | mark m c ih=> exact fun⟨h1,h2⟩=> ⟨h1,ih h2⟩
 | halt h=> exact fun h=> h.elim
theorem NA {α:Type}{P:Program}(s:Sem α){Q Q':α->View->Prop}(hQ:∀a H,Q a H->Q' a H):∀ {H:View},vA P s H Q->vA P s H Q':=by
 induction s with
 | pure a=> exact fun h=> hQ _ _ h
 | load m a c ih=> exact fun⟨h1,h2,f,x,e,fz,v,h3,h4,h5⟩=> ⟨h1,h2,f,x,e,fz,v,h3,h4,ih v h5⟩
 | store m a v c ih=> exact fun⟨h1,h2,h3,h4,x,e,fz,h5,h6,h7,h8⟩=> ⟨h1,h2,h3,h4,x,e,fz,h5,h6,h7,ih h8⟩
 | new o c ih=> exact fun h b hb=> ih b (h b hb)
 | shape r c ih=> exact fun⟨f,x,e,fz,h1,h2⟩=> ⟨f,x,e,fz,h1,ih _ h2⟩
 | freeze a n c ih=> exact fun⟨h1,x,e,fz,h2,h3⟩=> ⟨h1,x,e,fz,h2,ih h3⟩
 | frozen a c ih=> exact fun⟨f,x,e,fz,h1,h2⟩=> ⟨f,x,e,fz,h1,ih _ h2⟩
 | getObj r c ih=> exact fun⟨f,o,h1,h2,h3,h4⟩=> ⟨f,o,h1,h2,h3,ih _ h4⟩
 | setObj r o c ih=> exact fun⟨h1,h2,h3⟩=> ⟨h1,h2,ih h3⟩
 | choose q c ih=> exact fun h t=> ih _ (h t)
 | sys c k ih=> exact fun h=> h.elim
 | program c ih=> exact fun h=> ih _ h
 | mark m c ih=> exact fun⟨h1,h2⟩=> ⟨h1,ih h2⟩
 | halt h=> exact fun h=> h.elim
def View.plus(H F:View):View:=fun b=>
 match H b with
 | some x=> some x
 | none=> F b
def Dj(H F:View):Prop:=∀b x,F b=some x->H b=none
structure Md(P:Program) where
 main:Bool
 ok:World->Prop
 Ph:View->Goroutine->(View->Goroutine->Prop)->Prop
 frame:∀H g Po F,Ph H g Po->Dj H F->Ph (H.plus F) g fun H'' g'=> ∃H',H''=H'.plus F/\Dj H' F/\Po H' g'
def XJ {P:Program}(M:Md P)(H:View)(g:Goroutine)(X:View->Goroutine->Prop):Prop:=
 g.status=.running/\∀w,Sat H w->M.ok w->∃g' w' es H',stepG P M.main g w=.go g' w' es/\Trans H w H' w' es/\X H' g'
def T {P:Program}(M:Md P)(St:View->Goroutine->Prop)(H:View)(g:Goroutine):Prop:=
 ∀X:View->Goroutine->Prop,(∀H g,St H g->X H g)->(∀H g,XJ M H g X->X H g)->(∀H g Po,M.Ph H g Po->(∀H' g',Po H' g'->X H' g')->X H g)->X H g
section
variable {P:Program}{M:Md P}{St:View->Goroutine->Prop}{H:View}{g:Goroutine}
theorem XJ.mono {X Y:View->Goroutine->Prop}(h:XJ M H g X)(hXY:∀H g,X H g->Y H g):XJ M H g Y:=
 ⟨h.1,fun w hw ho=> let ⟨g',w',es,H',h1,h2,h3⟩:=h.2 w hw ho;⟨g',w',es,H',h1,h2,hXY _ _ h3⟩⟩
theorem T.stop(h:St H g):T M St H g:=fun _ h1 _ _=> h1 _ _ h
theorem T.step(h:XJ M H g (T M St)):T M St H g:=fun X h1 h2 h3=> h2 _ _ (h.mono fun _ _ k=> k X h1 h2 h3)
theorem T.phase {Po:View->Goroutine->Prop}(h:M.Ph H g Po)(k:∀H' g',Po H' g'->T M St H' g'):T M St H g:=
 fun X h1 h2 h3=> h3 _ _ _ h fun H' g' hp=> k H' g' hp X h1 h2 h3
theorem T.bind {St':View->Goroutine->Prop}(h:T M St H g)(k:∀H' g',St H' g'->T M St' H' g'):T M St' H g:=
 h (T M St') k (fun _ _ hs=> .step hs) (fun _ _ _ hp hk=> .phase hp hk)
theorem T.ind {X:View->Goroutine->Prop}(h:T M St H g)(h1:∀H g,St H g->X H g)(h2:∀H g,XJ M H g (fun H g=> T M St H g/\X H g)->X H g)
  (h3:∀H g Po,M.Ph H g Po->(∀H' g',Po H' g'->T M St H' g'/\X H' g')->X H g):X H g:=
 (h (fun H g=> T M St H g/\X H g) (fun _ _ hs=> ⟨.stop hs,h1 _ _ hs⟩) (fun _ _ hs=> ⟨.step (hs.mono fun _ _ k=> k.1),h2 _ _ hs⟩)
  (fun _ _ _ hp hk=> ⟨.phase hp fun H' g' q=> (hk H' g' q).1,h3 _ _ _ hp hk⟩)).2
theorem tA {H F:View}{b:Nat}{x:Bool×Obj}(h:H b=some x):H.plus F b=some x:=by simp[View.plus,h]
theorem GA {H F:View}{b:Nat}(h:H b=none):H.plus F b=F b:=by simp[View.plus,h]
theorem Trans.frame {H H' F:View}{w w':World}{es:Array Event}(h:Trans H w H' w' es)(hd:Dj H F)(hs:Sat (H.plus F) w):Dj H' F/\Trans (H.plus F) w (H'.plus F) w' es:=by
 have yJ:Dj H' F:=by
  intro b x hb;cases hx:H' b with
  | none=> rfl
  | some y=>
   obtain⟨f,o'⟩:=y;have iB:b<w.heap.size:=hs.lt (x:=x) (by rw[GA (hd b x hb)];exact hb);rcases h.ext b f o' hx with ⟨o,h1⟩|⟨_,h2⟩
   ·rw[hd b x hb] at h1;cases h1
   ·omega
 refine⟨yJ,h.tape,h.os,h.out,h.size,fun b hb ho=> h.VC b hb fun o hx=> ho o (tA hx),fun b f o hb=> ?_,fun b f o' hb=> ?_,fun b f o hb=> ?_,fun e he=> ?_⟩
 ·unfold View.plus at hb;split at hb
  ·rename_i x hx
   cases hb
   exact h.sat b f o hx
  ·rename_i hx
   have h1:=hd b _ hb;have iB:b<w.heap.size:=hs.lt (x:=(f,o)) (by rw[GA h1];exact hb);rw[h.VC b iB fun o hx=> by rw[h1] at hx;cases hx];exact hs b f o (by rw[GA h1];exact hb)
 ·unfold View.plus at hb;split at hb
  ·rename_i x hx
   cases hb
   rcases h.ext b f o' hx with ⟨o,h1⟩|h2
   ·exact .inl ⟨o,tA h1⟩
   ·exact .inr h2
  ·exact .inl ⟨o',by rw[GA (hd b _ hb)];exact hb⟩
 ·unfold View.plus at hb;split at hb
  ·rename_i x hx
   cases hb
   obtain⟨o',h1,h2⟩:=h.keep b f o hx;exact⟨o',tA h1,h2⟩
  ·exact⟨o,by rw[GA (yJ b _ hb)];exact hb,fun _=> rfl⟩
 ·have:=h.ev e he;unfold VJ at this ⊢;split
  ·rename_i a heq
   rw[heq] at this;obtain⟨h1,f,o,h2,h3⟩:=this;exact⟨h1,f,o,tA h2,h3⟩
  ·rename_i r heq
   rw[heq] at this;obtain⟨h1,f,o,h2,h3⟩:=this;exact⟨h1,f,o,tA h2,h3⟩
  ·rename_i heq
   rw[heq] at this;exact this
  ·rename_i h1 h2 h3
   split at this
   ·rename_i heq;exact(h1 _ heq).elim
   ·rename_i heq;exact(h2 _ heq).elim
   ·rename_i heq;exact(h3 _ heq).elim
   ·exact this
theorem T.frame(h:T M St H g):∀F,Dj H F->T M (fun H'' g'=> ∃H',H''=H'.plus F/\Dj H' F/\St H' g') (H.plus F) g:=by
 refine h (fun H g=> ∀F,Dj H F->T M (fun H'' g'=> ∃H',H''=H'.plus F/\Dj H' F/\St H' g') (H.plus F) g) (fun H g hs F hd=> .stop ⟨H,rfl,hd,hs⟩) (fun H g hs F hd=> .step ⟨hs.1,fun w hw ho=> ?_⟩) (fun H g Po hp hk F hd=> .phase (M.frame H g Po F hp hd) ?_)
 ·obtain⟨g',w',es,H',h1,h2,h3⟩:=hs.2 w (fun b f o hb=> hw b f o (tA hb)) ho;obtain⟨h4,h5⟩:=h2.frame hd hw;exact⟨g',w',es,_,h1,h5,h3 F h4⟩
 ·rintro H'' g' ⟨H',rfl,yJ,hpo⟩;exact hk H' g' hpo F yJ
theorem T.rC {g':Goroutine}(hs:g.status=.running)(h:∀w,stepG P M.main g w=.go g' w #[])(k:T M St H g'):T M St H g:=
 .step ⟨hs,fun w hw _=> ⟨g',w,#[],H,h w,.refl hw,k⟩⟩
end
structure FB where
 fn:FuncId
 kind:CallKind
 rd:Option Nat
def FB.at(b:FB)(tmps:Array Value)(ds:List Deferred)(todo:List Item):Frame:=
 { fn:=b.fn,tmps,todo,defers:=ds,mode:=.run,kind:=b.kind,roundOf:=b.rd }
def FB.back(b:FB)(tmps:Array Value)(ds:List Deferred)(todo:List Item):Frame:=
 { fn:=b.fn,tmps,todo,defers:=ds,mode:=.returning,kind:=b.kind,roundOf:=b.rd }
def vB(tmps:Array Value):Operand->Value
 | .tmp t=> tmps.getD t undef
 | .const v=> v
 | .global g=> .pointer (some ⟨g,0,none⟩)
 | .func f=> .func (.func f) #[] #[]
def AB(tmps:Array Value)(dst:Option Tmp)(v:Value):Array Value:=
 match dst with
 | some d=> tmps.setIfInBounds d v
 | none=> tmps
theorem FB.eval_at(b:FB)(tmps:Array Value)(ds:List Deferred)(todo:List Item):(b.at tmps ds todo).eval=vB tmps:=by
 funext x;cases x <;> rfl
theorem FB.finish_at(b:FB)(tmps:Array Value)(ds:List Deferred)(ops:Array Oper)(i:Nat)(rest:List Nat)(k:List Item)(v:Value):
  (b.at tmps ds (.inRegion ops (i::rest)::k)).finish v=b.at (AB tmps ((ops[i]?).bind (·.dst)) v) ds (.inRegion ops rest::k):=by
 cases h:(ops[i]?).bind (·.dst) <;> simp[Frame.finish,FB.at,AB,h]
section
variable {P:Program}{M:Md P}{St:View->Goroutine->Prop}{H:View}{b:FB}{tmps:Array Value}{ds:List Deferred}{k:List Item}{cs:List Frame}
theorem T.skip(h:T M St H (G (b.at tmps ds k) cs)):T M St H (G (b.at tmps ds (.code .skip::k)) cs):=
 .rC rfl (fun _=> by simp[G,stepG,stepG.exec,FB.at]) h
theorem T.inBlock {id:Nat}(h:T M St H (G (b.at tmps ds k) cs)):T M St H (G (b.at tmps ds (.inBlock id::k)) cs):=
 .rC rfl (fun _=> by simp[G,stepG,stepG.exec,FB.at]) h
theorem T.seq {x y:Code}(h:T M St H (G (b.at tmps ds (.code x:: .code y::k)) cs)):T M St H (G (b.at tmps ds (.code (.seq x y)::k)) cs):=
 .rC rfl (fun _=> by simp[G,stepG,stepG.exec,FB.at]) h
theorem T.cond {c:Operand}{x y:Code}{t:Bool}(hc:vB tmps c=.bool t)(h:T M St H (G (b.at tmps ds (.code (if t then x else y)::k)) cs)):
  T M St H (G (b.at tmps ds (.code (.cond c x y)::k)) cs):=
 .rC rfl (fun _=> by
  have h':(b.at tmps ds (.code (.cond c x y)::k)).eval c=.bool t:=by rw[FB.eval_at];exact hc
  simp only[FB.at] at h';simp[G,stepG,stepG.exec,FB.at,h']) h
theorem T.block {id:Nat}{c:Code}(h:T M St H (G (b.at tmps ds (.code c:: .inBlock id::k)) cs)):T M St H (G (b.at tmps ds (.code (.block id c)::k)) cs):=
 .rC rfl (fun _=> by simp[G,stepG,stepG.exec,FB.at]) h
theorem T.loop {c:Code}(h:T M St H (G (b.at tmps ds (.code c:: .inLoop c::k)) cs)):T M St H (G (b.at tmps ds (.code (.loop c)::k)) cs):=
 .rC rfl (fun _=> by simp[G,stepG,stepG.exec,FB.at]) h
theorem T.inLoop {c:Code}(h:T M St H (G (b.at tmps ds (.code c:: .inLoop c::k)) cs)):T M St H (G (b.at tmps ds (.inLoop c::k)) cs):=
 .rC rfl (fun _=> by simp[G,stepG,stepG.exec,FB.at]) h
theorem T.exit {id:Nat}{k':List Item}(he:exitTo id k=some k')(h:T M St H (G (b.at tmps ds k') cs)):T M St H (G (b.at tmps ds (.code (.exit id)::k)) cs):=
 .rC rfl (fun _=> by simp[G,stepG,stepG.exec,FB.at,he]) h
theorem T.region {id:Nat}{ops:Array Oper}(h:T M St H (G (b.at tmps ds (.inRegion ops (List.range ops.size)::k)) cs)):T M St H (G (b.at tmps ds (.code (.region id ops false)::k)) cs):=
 .rC rfl (fun _=> by simp[G,stepG,stepG.exec,FB.at]) h
theorem T.UI {ops:Array Oper}(h:T M St H (G (b.at tmps ds k) cs)):T M St H (G (b.at tmps ds (.inRegion ops []::k)) cs):=
 .rC rfl (fun _=> by simp[G,stepG,stepG.exec,FB.at]) h
theorem T.QB(hr:b.rd=none)(h:T M St H (G (b.back tmps ds (.code .ret::k)) cs)):T M St H (G (b.at tmps ds (.code .ret::k)) cs):=
 .rC rfl (fun _=> by simp[G,stepG,stepG.exec,FB.at,FB.back,hr]) h
theorem T.over(hr:b.rd=none)(h:T M St H (G (b.back tmps ds []) cs)):T M St H (G (b.at tmps ds []) cs):=
 .rC rfl (fun _=> by simp[G,stepG,stepG.exec,FB.at,FB.back,hr]) h
theorem T.RK {id:Nat}{ops:Array Oper}(h:∀t,T M St H (G (b.at tmps ds (.inRegion ops (Region.schedule (P.follows .mixedOrders) ops t)::k)) cs)):
  T M St H (G (b.at tmps ds (.code (.region id ops true)::k)) cs):=
 .step ⟨rfl,fun w hw _=> ⟨_,{ w with drawn:=w.drawn+1 },#[],H,by simp[G,stepG,stepG.exec,FB.at,choose,Sem.run,Question.forced,Question.cut];rfl,
  { Trans.refl hw with tape:=rfl,os:=rfl,out:=rfl,size:=Nat.le_refl _,VC:=fun _ _ _=> rfl,sat:=hw },h _⟩⟩
theorem T.RI {ops:Array Oper}{i:Nat}{rest:List Nat}{o:Oper}(ho:ops[i]? =some o)(hw:Region.wanted o (yielded ops tmps)=false)
  (h:T M St H (G (b.at (AB tmps o.dst undef) ds (.inRegion ops rest::k)) cs)):T M St H (G (b.at tmps ds (.inRegion ops (i::rest)::k)) cs):=by
 refine .rC rfl (fun w=> ?_) h;have hf:=FB.finish_at b tmps ds ops i rest k undef;rw[ho] at hf;simp only[Option.bind_some] at hf;rw[<-hf];simp[G,stepG,stepG.exec,FB.at,ho,hw]
def aCe {P:Program}(M:Md P)(St:View->Goroutine->Prop)(b:FB)(tmps:Array Value)(ds:List Deferred)(ops:Array Oper)(i:Nat)(rest:List Nat)(k:List Item)(cs:List Frame)(dst:Option Tmp)(n:Next)(H:View):Prop:=
 match n with
 | .value v=> T M St H (G (b.at (AB tmps dst v) ds (.inRegion ops rest::k)) cs)
 | .skip=> T M St H (G (b.at (AB tmps dst undef) ds (.inRegion ops rest::k)) cs)
 | .enter f args=> T M St H (G (Frame.enter P f args .normal) (b.at tmps ds (.inRegion ops (i::rest)::k)::cs))
 | .round l f tmps' assign body=> T M St H (G (Frame.round l f tmps' assign body .normal) (b.at tmps ds (.inRegion ops (i::rest)::k)::cs))
 | .defer d=> T M St H (G (b.at (AB tmps dst undef) (d::ds) (.inRegion ops rest::k)) cs)
 | _=> False
theorem T.op {ops:Array Oper}{i:Nat}{rest:List Nat}{o:Oper}(ho:ops[i]? =some o)(hw:Region.wanted o (yielded ops tmps)=true)(hd:b.rd=none\/∀c,o.op≠ .defer c)
  (h:vA P (execOp (vB tmps) o) H (aCe M St b tmps ds ops i rest k cs o.dst)):T M St H (G (b.at tmps ds (.inRegion ops (i::rest)::k)) cs):=by
 refine .step ⟨rfl,fun w hs _=> ?_⟩;obtain⟨n,H',w',es,h1,h2,h3⟩:=rB _ #[] hs h;rw[Array.empty_append] at h1;have hg:stepG P M.main (G (b.at tmps ds (.inRegion ops (i::rest)::k)) cs) w=stepG.apply P true (b.at tmps ds (.inRegion ops (i::rest)::k)) cs none (execOp (b.at tmps ds (.inRegion ops (i::rest)::k)).eval o) w:=by
  rcases hd with hd|hd
  ·simp[G,stepG,stepG.exec,stepG.oper,Frame.oper?,FB.at,ho,hw,hd]
  ·cases gA:o.op <;> first
    | exact absurd gA (hd _)
    | (cases cK:b.rd <;> simp[G,stepG,stepG.exec,stepG.oper,Frame.oper?,FB.at,ho,hw,gA,cK])
 rw[FB.eval_at] at hg;have wC:∀v,(b.at tmps ds (.inRegion ops (i::rest)::k)).finish v=b.at (AB tmps o.dst v) ds (.inRegion ops rest::k):=by
  intro v;rw[FB.finish_at,ho];rfl
 generalize VG:seen P (b.at tmps ds (.inRegion ops (i::rest)::k)).fn (if(b.at tmps ds (.inRegion ops (i::rest)::k)).kind==.early then #[] else es)=es';have GD:∀e∈es',e∈es:=fun e he=> by
  rw[<-VG] at he;have:=mem_seen he;split at this
  ·simp at this
  ·exact this
 have TQ:∀x:GStep,(stepG.apply P true (b.at tmps ds (.inRegion ops (i::rest)::k)) cs none (execOp (vB tmps) o) w=GStep.after es' x)->stepG P M.main (G (b.at tmps ds (.inRegion ops (i::rest)::k)) cs) w=GStep.after es' x:=
  fun x hx=> hg.trans hx
 cases n <;> try exact h3.elim
 case value v=>
  refine⟨_,w',es',H',(TQ (.go (G (b.at (AB tmps o.dst v) ds (.inRegion ops rest::k)) cs) w') ?_).trans (by simp[GStep.after]),h2.sub GD,h3⟩;rw[<-VG,<-wC];unfold stepG.apply;rw[if_pos rfl,h1];rfl
 case skip=>
  refine⟨_,w',es',H',(TQ (.go (G (b.at (AB tmps o.dst undef) ds (.inRegion ops rest::k)) cs) w') ?_).trans (by simp[GStep.after]),h2.sub GD,h3⟩;rw[<-VG,<-wC];unfold stepG.apply;rw[if_pos rfl,h1];rfl
 case enter f args=>
  refine⟨_,w',es',H',(TQ (.go (G (Frame.enter P f args .normal) (b.at tmps ds (.inRegion ops (i::rest)::k)::cs)) w') ?_).trans (by simp[GStep.after]),h2.sub GD,h3⟩;rw[<-VG];unfold stepG.apply;rw[if_pos rfl,h1];rfl
 case round l f tmps' assign body=>
  refine⟨_,w',es',H',(TQ (.go (G (Frame.round l f tmps' assign body .normal) (b.at tmps ds (.inRegion ops (i::rest)::k)::cs)) w') ?_).trans (by simp[GStep.after]),h2.sub GD,h3⟩;rw[<-VG];unfold stepG.apply;rw[if_pos rfl,h1];rfl
 case defer d=>
  have aA7:({ b.at tmps ds (.inRegion ops (i::rest)::k) with defers:=d::ds }:Frame).finish undef=b.at (AB tmps o.dst undef) (d::ds) (.inRegion ops rest::k):=by
   have:=FB.finish_at b tmps (d::ds) ops i rest k undef;rw[ho] at this;exact this
  refine⟨_,w',es',H',(TQ (.go (G (b.at (AB tmps o.dst undef) (d::ds) (.inRegion ops rest::k)) cs) w') ?_).trans (by simp[GStep.after]),h2.sub GD,h3⟩;rw[<-VG,<-aA7];unfold stepG.apply;rw[if_pos rfl,h1];rfl
theorem T.leave {fn:Func}{c:Frame}{todo:List Item}(hf:P.funcs[b.fn]? =some fn)(hk:b.kind=.normal)
  (h:vA P (results fn tmps) H fun v H'=> T M St H' (G (c.finish v) cs)):T M St H (G (b.back tmps [] todo) (c::cs)):=by
 refine .step ⟨rfl,fun w hs _=> ?_⟩;obtain⟨v,H',w',es,h1,h2,h3⟩:=rB _ #[] hs h;rw[Array.empty_append] at h1;refine⟨G (c.finish v) cs,w',seen P b.fn es,H',?_,h2.sub fun e he=> mem_seen he,h3⟩;have:stepG P M.main (G (b.back tmps [] todo) (c::cs)) w=unwind P M.main (b.back tmps [] todo) (c::cs) none w:=by
  simp[G,stepG,FB.back]
 rw[this];unfold unwind;simp only[FB.back,hf,h1,doReturn,hk,GStep.after,G,Array.append_empty]
end
abbrev Rg:=List (Nat×Value)
def lk:Rg->Nat->Option Value
 | [],_=> none
 | (e,v)::R,d=> match Nat.beq e d with
  | true=> some v
  | false=> lk R d
theorem BP(e:Nat)(v:Value)(R:Rg)(d:Nat):lk ((e,v)::R) d=if e=d then some v else lk R d:=by
 by_cases h:e=d
 ·subst h;rw[if_pos rfl,lk,Nat.beq_refl]
 ·have:Nat.beq e d=false:=by
   cases hb:Nat.beq e d with
   | false=> rfl
   | true=> exact absurd (Nat.eq_of_beq_eq_true hb) h
  rw[if_neg h,lk,this]
def LA(n:Nat)(R:Rg)(tmps:Array Value):Prop:=tmps.size=n/\∀d v,lk R d=some v->tmps[d]? =some v
abbrev Bl:=List (Nat×Bool×Obj)
def View.le(H H':View):Prop:=∀b x,H b=some x->H' b=some x
theorem View.le_refl(H:View):H.le H:=fun _ _ h=> h
theorem View.le_trans {H H' H'':View}(h:H.le H')(k:H'.le H''):H.le H'':=fun b x hb=> k b x (h b x hb)
theorem View.kM {H:View}{b:Nat}(x:Bool×Obj)(h:H b=none):H.le (H.put b x):=fun c y hc=> by
 rw[View.jA]
 ·exact hc
 ·intro e;rw[e,h] at hc;cases hc
structure eA(H₀:View)(L:Bl)(H:View):Prop where
 nodup:(L.map (·.1)).Nodup
 out:∀x∈L,H₀ x.1=none
 at_:∀x∈L,H x.1=some x.2
 base:H₀.le H
theorem eA.nil(H:View):eA H [] H:=⟨by simp,by simp,by simp,View.le_refl H⟩
theorem eA.mono {H₀ H H':View}{L:Bl}(h:eA H₀ L H)(k:H.le H'):eA H₀ L H':=
 ⟨h.nodup,h.out,fun x hx=> k _ _ (h.at_ x hx),View.le_trans h.base k⟩
theorem eA.get {H₀ H:View}{L:Bl}(h:eA H₀ L H){i:Nat}{b:Nat}{x:Bool×Obj}(hi:L[i]? =some (b,x)):H b=some x:=
 h.at_ _ (List.mem_of_getElem? hi)
theorem eA.cons {H₀ H:View}{L:Bl}(h:eA H₀ L H){b:Nat}(x:Bool×Obj)(hb:H b=none):eA H₀ ((b,x)::L) (H.put b x) where
 nodup:=by
  simp only[List.map_cons,List.nodup_cons];refine⟨fun hm=> ?_,h.nodup⟩;obtain⟨y,hy,e⟩:=List.mem_map.1 hm;have:=h.at_ y hy;rw[e,hb] at this;cases this
 out :=fun y hy=> by
  rcases List.mem_cons.1 hy with rfl|hy
  ·cases hh:H₀ b with
   | none=> rfl
   | some z=> have:=h.base _ _ hh;rw[hb] at this;cases this
  ·exact h.out y hy
 at_ :=fun y hy=> by
  rcases List.mem_cons.1 hy with rfl|hy
  ·exact View.pA ..
  ·rw[View.jA]
   ·exact h.at_ y hy
   ·intro e;have:=h.at_ y hy;rw[e,hb] at this;cases this
 base:=View.le_trans h.base (View.kM x hb)
theorem yG {L:Bl}(h:(L.map (·.1)).Nodup){i j:Nat}{b:Nat}{x y:Bool×Obj}(hi:L[i]? =some (b,x))(hj:L[j]? =some (b,y)):i=j:=by
 have h1:(L.map (·.1))[i]? =some b:=by simp[hi]
 have h2:(L.map (·.1))[j]? =some b:=by simp[hj]
 obtain⟨RN,e1⟩:=List.getElem?_eq_some_iff.1 h1;obtain⟨ZQ,e2⟩:=List.getElem?_eq_some_iff.1 h2;have hp:=List.pairwise_iff_getElem.1 h;rcases Nat.lt_trichotomy i j with iB|heq|hgt
 ·exact absurd (e1.trans e2.symm) (hp i j RN ZQ iB)
 ·exact heq
 ·exact absurd (e2.trans e1.symm) (hp j i ZQ RN hgt)
theorem eA.set {H₀ H:View}{L:Bl}(h:eA H₀ L H){i:Nat}{b:Nat}{x:Bool×Obj}(hi:L[i]? =some (b,x))(y:Bool×Obj):eA H₀ (L.set i (b,y)) (H.put b y) where
 nodup :=by
  have:(L.set i (b,y)).map (·.1)=L.map (·.1):=by
   rw[List.map_set];apply List.ext_getElem?
   intro k;by_cases e:i=k
   ·subst e;have:=(List.getElem?_eq_some_iff.1 hi).1;rw[List.getElem?_set_self (by simpa using this)];simp[hi]
   ·rw[List.getElem?_set_ne e]
  rw[this];exact h.nodup
 out :=fun z hz=> by
  obtain⟨k,hk⟩:=List.mem_iff_getElem?.1 hz;by_cases e:i=k
  ·subst e;have:=(List.getElem?_eq_some_iff.1 hi).1;rw[List.getElem?_set_self this] at hk;cases hk
   exact h.out (b,x) (List.mem_of_getElem? hi)
  ·rw[List.getElem?_set_ne e] at hk;exact h.out _ (List.mem_of_getElem? hk)
 at_ :=fun z hz=> by
  obtain⟨k,hk⟩:=List.mem_iff_getElem?.1 hz;by_cases e:i=k
  ·subst e;have:=(List.getElem?_eq_some_iff.1 hi).1;rw[List.getElem?_set_self this] at hk;cases hk
   exact View.pA ..
  ·rw[List.getElem?_set_ne e] at hk;rw[View.jA]
   ·exact h.at_ _ (List.mem_of_getElem? hk)
   ·intro e';exact e (yG h.nodup hi (e'▸hk:L[k]? =some (b,z.2)))
 base:=fun c z hc=> by
  rw[View.jA]
  ·exact h.base _ _ hc
  ·intro e;have h1:=h.out (b,x) (List.mem_of_getElem? hi);rw[<-e,hc] at h1;cases h1
theorem eA.less {H₀ H:View}{L L':Bl}(h:eA H₀ L H)(k:L'.Sublist L):eA H₀ L' H:=
 ⟨h.nodup.sublist (k.map _),fun x hx=> h.out x (k.subset hx),fun x hx=> h.at_ x (k.subset hx),h.base⟩
section
variable {P:Program}(M:Md P)(St:View->Goroutine->Prop)(n:Nat)(b:FB)(H₀:View)(cs:List Frame)
def Tc(R:Rg)(L:Bl)(ds:List Deferred)(todo:List Item):Prop:=
 ∀H tmps,eA H₀ L H->LA n R tmps->T M St H (G (b.at tmps ds todo) cs)
def To(dl:List (Option Tmp))(R:Rg)(L:Bl)(ds:List Deferred)(l:List Oper)(k:List Item):Prop:=
 ∀(arr:Array Oper) (ix:List Nat),(∀j:Nat,(arr[j]?).bind (fun o:Oper=> o.dst)=(dl[j]?).join)->ix.map (arr[·]?)=l.map some->Tc M St n b H₀ cs R L ds (.inRegion arr ix::k)
end
section
variable {P:Program}{M:Md P}{St:View->Goroutine->Prop}{n:Nat}{b:FB}{H₀:View}{cs:List Frame}{R R':Rg}{L L':Bl}{ds:List Deferred}{k:List Item}
theorem Tc.skip(h:Tc M St n b H₀ cs R L ds k):Tc M St n b H₀ cs R L ds (.code .skip::k):=fun H tmps hs hr=> .skip (h H tmps hs hr)
theorem Tc.inBlock {id:Nat}(h:Tc M St n b H₀ cs R L ds k):Tc M St n b H₀ cs R L ds (.inBlock id::k):=fun H tmps hs hr=> .inBlock (h H tmps hs hr)
theorem Tc.seq {x y:Code}(h:Tc M St n b H₀ cs R L ds (.code x:: .code y::k)):Tc M St n b H₀ cs R L ds (.code (.seq x y)::k):=fun H tmps hs hr=> .seq (h H tmps hs hr)
theorem Tc.block {id:Nat}{c:Code}(h:Tc M St n b H₀ cs R L ds (.code c:: .inBlock id::k)):Tc M St n b H₀ cs R L ds (.code (.block id c)::k):=fun H tmps hs hr=> .block (h H tmps hs hr)
theorem Tc.exit {id:Nat}{k':List Item}(he:exitTo id k=some k')(h:Tc M St n b H₀ cs R L ds k'):Tc M St n b H₀ cs R L ds (.code (.exit id)::k):=fun H tmps hs hr=> .exit he (h H tmps hs hr)
theorem Tc.loop {c:Code}(h:Tc M St n b H₀ cs R L ds (.code c:: .inLoop c::k)):Tc M St n b H₀ cs R L ds (.code (.loop c)::k):=fun H tmps hs hr=> .loop (h H tmps hs hr)
theorem Tc.inLoop {c:Code}(h:Tc M St n b H₀ cs R L ds (.code c:: .inLoop c::k)):Tc M St n b H₀ cs R L ds (.inLoop c::k):=fun H tmps hs hr=> .inLoop (h H tmps hs hr)
def BA(R:Rg):Operand->Option Value
 | .tmp t=> lk R t
 | .const v=> some v
 | .global g=> some (.pointer (some ⟨g,0,none⟩))
 | .func f=> some (.func (.func f) #[] #[])
theorem LA.ev {tmps:Array Value}(h:LA n R tmps){x:Operand}{v:Value}(hx:BA R x=some v):vB tmps x=v:=by
 cases x with
 | tmp t=>
  have:=h.2 t v hx;simp[vB,this]
 | const u=> simpa [BA,vB] using hx
 | global g=> simpa [BA,vB] using hx
 | func f=> simpa [BA,vB] using hx
theorem LA.put {tmps:Array Value}(h:LA n R tmps){d:Nat}(hd:d<n)(v:Value):LA n ((d,v)::R) (tmps.setIfInBounds d v):=by
 refine⟨by simpa using h.1,fun e u hu=> ?_⟩;rw[BP] at hu;split at hu
 ·rename_i heq
  subst heq;cases hu
  simp[h.1,hd]
 ·rename_i aB
  rw[Array.getElem?_setIfInBounds_ne aB];exact h.2 e u hu
theorem Tc.cond {c:Operand}{x y:Code}{t:Bool}(hc:BA R c=some (.bool t))(h1:t=true->Tc M St n b H₀ cs R L ds (.code x::k))(h2:t=false->Tc M St n b H₀ cs R L ds (.code y::k)):
  Tc M St n b H₀ cs R L ds (.code (.cond c x y)::k):=fun H tmps hs hr=> by
 refine .cond (hr.ev hc) ?_;cases t with
 | true=> exact h1 rfl H tmps hs hr
 | false=> exact h2 rfl H tmps hs hr
theorem Tc.region {id:Nat}{ops:Array Oper}{dl:List (Option Tmp)}{l:List Oper}(hl:ops.toList=l)(NU:l.map (fun o:Oper=> o.dst)=dl)(h:To M St n b H₀ cs dl R L ds l k):Tc M St n b H₀ cs R L ds (.code (.region id ops false)::k):=fun H tmps hs hr=> by
 subst hl NU;refine .region (h ops _ (fun j=> ?_) ?_ H tmps hs hr)
 ·simp only[List.getElem?_map,Array.getElem?_toList];cases ops[j]? <;> rfl
 ·apply List.ext_getElem?
  intro j;simp only[List.getElem?_map];by_cases hj:j<ops.size
  ·simp[hj]
  ·have h1:(List.range ops.size)[j]? =none:=by simp;omega
   have h2:ops.toList[j]? =none:=by simp;omega
   rw[h1,h2];rfl
theorem To.done {dl:List (Option Tmp)}(h:Tc M St n b H₀ cs R L ds k):To M St n b H₀ cs dl R L ds [] k:=fun arr ix _ hx=> by
 cases ix with
 | nil=> exact fun H tmps hs hr=> .UI (h H tmps hs hr)
 | cons i r=> simp at hx
def HA(dl:List (Option Tmp))(R:Rg)(o:Oper):Option Bool:=
 match o.guard with
 | none=> some true
 | some (j,w)=>
  match (dl[j]?).join with
  | none=> none
  | some d=>
   match lk R d with
   | some (.bool x)=> some (x==w)
   | _=> none
theorem kB {dl:List (Option Tmp)}{o:Oper}{t:Bool}{arr:Array Oper}{tmps:Array Value}(ha:∀j:Nat,(arr[j]?).bind (fun o:Oper=> o.dst)=(dl[j]?).join)(hr:LA n R tmps)(h:HA dl R o=some t):Region.wanted o (yielded arr tmps)=t:=by
 unfold HA at h;unfold Region.wanted;split at h
 ·rename_i hg
  rw[hg];simpa using h
 ·rename_i j w hg
  rw[hg];split at h
  ·cases h
  ·rename_i d hd
   split at h
   ·rename_i x hx
    simp only[yielded,ha j,hd,Option.bind_some,hr.2 d _ hx];cases h
    cases x <;> cases w <;> rfl
   ·cases h
theorem To.AL {dl:List (Option Tmp)}{o:Oper}{l:List Oper}{d:Nat}(hd:o.dst=some d)(hn:d<n)(hw:HA dl R o=some false)(h:To M St n b H₀ cs dl ((d,undef)::R) L ds l k):To M St n b H₀ cs dl R L ds (o::l) k:=fun arr ix ha hx=> by
 cases ix with
 | nil=> simp at hx
 | cons i r=>
  simp only[List.map_cons,List.cons.injEq] at hx;intro H tmps hs hr;refine .RI hx.1 (kB ha hr hw) ?_;rw[hd];exact h arr r ha hx.2 H _ hs (hr.put hn _)
end
def FL {P:Program}(M:Md P)(fr:Frame)(H:View)(Q:Value->View->Prop):Prop:=
 ∀(St:View->Goroutine->Prop) (c:Frame) (cs:List Frame),(∀v H',Q v H'->T M St H' (G (c.finish v) cs))->T M St H (G fr (c::cs))
def dA {P:Program}(M:Md P)(f:FuncId)(args:Array Value)(H:View)(Q:Value->View->Prop):Prop:=FL M (Frame.enter P f args .normal) H Q
theorem FL.mono {P:Program}{M:Md P}{fr:Frame}{H:View}{Q Q':Value->View->Prop}(h:FL M fr H Q)(hq:∀v H',Q v H'->Q' v H'):FL M fr H Q':=
 fun St c cs hk=> h St c cs fun v H' hv=> hk v H' (hq v H' hv)
section
variable {P:Program}{M:Md P}{St:View->Goroutine->Prop}{n:Nat}{b:FB}{H₀:View}{cs:List Frame}{R R':Rg}{L L':Bl}{ds:List Deferred}{k:List Item}
theorem dA.mono {f:FuncId}{args:Array Value}{H:View}{Q Q':Value->View->Prop}(h:dA M f args H Q)(hq:∀v H',Q v H'->Q' v H'):dA M f args H Q':=
 fun St c cs hk=> h St c cs fun v H' hv=> hk v H' (hq v H' hv)
def BI(args:List Value):Rg:=go 0 args
where
 go:Nat->List Value->Rg
  | _,[]=> []
  | i,v::vs=> (i,v)::go (i+1) vs
theorem HE(vs:List Value):∀(i:Nat) (d:Nat) (v:Value),lk (BI.go i vs) d=some v->i<=d/\vs[d-i]? =some v:=by
 induction vs with
 | nil=> intro i d v h;simp[BI.go,lk] at h
 | cons a vs ih=>
  intro i d v h;simp only[BI.go,BP] at h;split at h
  ·rename_i e
   subst e;cases h
   simp
  ·rename_i e
   obtain⟨h1,h2⟩:=ih (i+1) d v h;refine⟨oM,?_⟩;have:d-i=(d-(i+1))+1:=by omega
   rw[this];simpa using h2
theorem dA.enter {f:FuncId}{fn:Func}{body:Code}{vs:List Value}{H:View}{Q:Value->View->Prop}(hf:P.funcs[f]? =some fn)(hb:fn.body=some body)(hn:fn.ntmps=n)(hv:vs.length<=n)(hs:eA H₀ L H)
  (h:∀St c cs,(∀v H',Q v H'->T M St H' (G (c.finish v) cs))->Tc M St n ⟨f,.normal,none⟩ H₀ (c::cs) (BI vs) L [] [.code body]):dA M f vs.toArray H Q:=fun St c cs hk=> by
 have:=h St c cs hk H (vs.toArray++Array.replicate (n-vs.length) undef) hs ⟨by simp;omega,fun d v hd=> ?_⟩
 ·have e:Frame.enter P f vs.toArray .normal=(⟨f,.normal,none⟩:FB).at (vs.toArray++Array.replicate (n-vs.length) undef) [] [.code body]:=by
   simp[Frame.enter,FB.at,hf,hb,hn]
  rw[e];exact this
 ·obtain⟨_,h2⟩:=HE vs 0 d v hd;simp only[Nat.sub_zero] at h2;have iB:=(List.getElem?_eq_some_iff.1 h2).1;rw[Array.getElem?_append_left (by simpa using iB)];simpa using h2
theorem Tc.ret {fn:Func}{c:Frame}{Q:Value->View->Prop}{f:FuncId}(hK:∀v H',Q v H'->T M St H' (G (c.finish v) cs))(hf:P.funcs[f]? =some fn)
  (h:∀H tmps,eA H₀ L H->LA n R tmps->vA P (results fn tmps) H Q):Tc M St n ⟨f,.normal,none⟩ H₀ (c::cs) R L [] (.code .ret::k):=
 fun H tmps hs hr=> .QB rfl (.leave hf rfl (NA _ hK (h H tmps hs hr)))
theorem Tc.over {fn:Func}{c:Frame}{Q:Value->View->Prop}{f:FuncId}(hK:∀v H',Q v H'->T M St H' (G (c.finish v) cs))(hf:P.funcs[f]? =some fn)
  (h:∀H tmps,eA H₀ L H->LA n R tmps->vA P (results fn tmps) H Q):Tc M St n ⟨f,.normal,none⟩ H₀ (c::cs) R L [] []:=
 fun H tmps hs hr=> .over rfl (.leave hf rfl (NA _ hK (h H tmps hs hr)))
def ZD(R:Rg)(xs:List Operand):Option (List Value):=xs.mapM (BA R)
theorem LA.evs {tmps:Array Value}(h:LA n R tmps):∀ {xs:List Operand} {vs:List Value},ZD R xs=some vs->xs.map (vB tmps)=vs:=by
 intro xs;induction xs with
 | nil=> intro vs e;simp[ZD] at e;simp[e]
 | cons x xs ih=>
  intro vs e;simp only[ZD,List.mapM_cons,Option.bind_eq_bind,Option.bind_eq_some_iff,Option.pure_def,Option.some.injEq] at e;obtain⟨v,h1,us,h2,rfl⟩:=e;simp only[List.map_cons,h.ev h1,List.cons.injEq,true_and];exact ih h2
def qA(P:Program)(g:FuncId):Bool:=
 match P.funcs[g]? with
 | some fn=> !(fn.name== "runtime.NumGoroutine")&&fn.body.isSome
 | none=> false
theorem OD {g:FuncId}{args:Array Value}{H:View}{Q:Next->View->Prop}(hg:qA P g=true)(h:Q (.enter g args) H):vA P (callFunc g args) H Q:=by
 unfold qA at hg;split at hg
 ·rename_i fn US
  simp only[Bool.and_eq_true,Bool.not_eq_true',Option.isSome_iff_ne_none] at hg;obtain⟨h1,h2⟩:=hg;show vA P (match P.funcs[g]? with|none=> _|some fn=> _) H Q;rw[US];have hb:fn.body.isNone=false:=by cases hx:fn.body <;> simp_all
  simp only[h1,hb,Bool.false_eq_true,if_false];exact h
 ·cases hg
def jF {P:Program}(M:Md P)(o:Oper)(tmps:Array Value)(H:View)(K:Array Value->View->Prop):Prop:=
 vA P (execOp (vB tmps) o) H fun nx H'=>
  match nx with
  | .value v=> K (AB tmps o.dst v) H'
  | .skip=> K (AB tmps o.dst undef) H'
  | .enter f args=> dA M f args H' fun v H''=> K (AB tmps o.dst v) H''
  | .round l f tmps' assign body=> FL M (Frame.round l f tmps' assign body .normal) H' fun v H''=> K (AB tmps o.dst v) H''
  | _=> False
theorem jF.mono {o:Oper}{tmps:Array Value}{H:View}{K K':Array Value->View->Prop}(h:jF M o tmps H K)(hk:∀t H',K t H'->K' t H'):jF M o tmps H K':=
 NA _ (fun nx H' hn=> by
  cases nx <;> first|exact hn.elim|skip
  ·exact hk _ _ hn
  ·exact hk _ _ hn
  ·exact dA.mono hn fun v H''=> hk _ _
  ·exact FL.mono hn fun v H''=> hk _ _) h
def wA:Op->Bool
 | .defer _=> true
 | _=> false
theorem jF.sound {ops:Array Oper}{i:Nat}{rest:List Nat}{o:Oper}{tmps:Array Value}{H:View}(ho:ops[i]? =some o)(hw:Region.wanted o (yielded ops tmps)=true)(hd:wA o.op=false)
   (h:jF M o tmps H fun t H'=> T M St H' (G (b.at t ds (.inRegion ops rest::k)) cs)):T M St H (G (b.at tmps ds (.inRegion ops (i::rest)::k)) cs):=by
 refine .op ho hw (.inr fun c e=> by rw[e] at hd;cases hd) (NA _ (fun nx H' hn=> ?_) h);have wC:∀v,(b.at tmps ds (.inRegion ops (i::rest)::k)).finish v=b.at (AB tmps o.dst v) ds (.inRegion ops rest::k):=by
   intro v;rw[FB.finish_at,ho];rfl
 cases nx <;> first
   | exact hn
   | exact hn.elim
   | (refine hn St _ cs fun v H'' hq=> ?_
      rw[wC];exact hq)
def Or {P:Program}(M:Md P)(n:Nat)(H₀:View)(R:Rg)(L:Bl)(o:Oper)(K:Rg->Bl->Prop):Prop:=
 ∀H tmps,eA H₀ L H->LA n R tmps->jF M o tmps H fun t H'=> ∃R' L',LA n R' t/\eA H₀ L' H'/\K R' L'
theorem To.op {dl:List (Option Tmp)}{o:Oper}{l:List Oper}(hw:HA dl R o=some true)(hd:wA o.op=false)(h:Or M n H₀ R L o fun R' L'=> To M St n b H₀ cs dl R' L' ds l k):To M St n b H₀ cs dl R L ds (o::l) k:=fun arr ix ha hx=> by
 cases ix with
 | nil=> simp at hx
 | cons i r=>
  simp only[List.map_cons,List.cons.injEq] at hx;intro H tmps hs hr;refine jF.sound hx.1 (kB ha hr hw) hd ((h H tmps hs hr).mono ?_);rintro t H' ⟨R',L',h1,h2,h3⟩;exact h3 arr r ha hx.2 H' t h2 h1
theorem Or.val {o:Oper}{K:Rg->Bl->Prop}{d:Nat}(hd:o.dst=some d)(hn:d<n)
  (h:∀H tmps,eA H₀ L H->LA n R tmps->vA P (execOp (vB tmps) o) H fun nx H'=> ∃v,nx=.value v/\∃L',eA H₀ L' H'/\K ((d,v)::R) L'):Or M n H₀ R L o K:=fun H tmps hs hr=>
 NA _ (by
  rintro nx H' ⟨v,rfl,L',hs',hk⟩;refine⟨_,L',?_,hs',hk⟩;rw[hd];exact hr.put hn _) (h H tmps hs hr)
theorem Or.hO {o:Oper}{K:Rg->Bl->Prop}(hd:o.dst=none)
  (h:∀H tmps,eA H₀ L H->LA n R tmps->vA P (execOp (vB tmps) o) H fun nx H'=> nx=.skip/\∃L',eA H₀ L' H'/\K R L'):Or M n H₀ R L o K:=fun H tmps hs hr=>
 NA _ (by
  rintro nx H' ⟨rfl,L',hs',hk⟩;refine⟨_,L',?_,hs',hk⟩;rw[hd];exact hr) (h H tmps hs hr)
def TC {P:Program}(M:Md P)(fv:Value)(az:List Value)(H:View)(Q:Value->View->Prop):Prop:=
 vA P ((Deferred.ofValue fv az.toArray).bind fun d=> invoke d.target d.args) H fun nx H'=>
  match nx with
  | .enter f args=> dA M f args H' Q
  | .round l f tmps assign body=> FL M (Frame.round l f tmps assign body .normal) H' Q
  | _=> False
theorem TC.mono {fv:Value}{az:List Value}{H:View}{Q Q':Value->View->Prop}(h:TC M fv az H Q)(hq:∀v H',Q v H'->Q' v H'):TC M fv az H Q':=
 NA _ (fun nx H' hn=> by
  cases nx <;> first
   | exact hn
   | exact dA.mono hn hq
   | exact FL.mono hn hq) h
theorem TC.of {g:FuncId}{az first captured:List Value}{as':Array Value}{H:View}{Q:Value->View->Prop}(hg:qA P g=true)(PA:(first++az++captured).toArray=as')(h:dA M g as' H Q):
  TC M (.func (.func g) first.toArray captured.toArray) az H Q:=by
 unfold TC;simp only[Deferred.ofValue];show vA P (callFunc g (first.toArray++az.toArray++captured.toArray)) H _;have e3:first.toArray++az.toArray++captured.toArray=as':=by rw[<-PA];simp
 rw[e3];exact OD hg h
theorem Or.K5 {o:Oper}{K:Rg->Bl->Prop}{cl:Go.Call}{x:Operand}{fv:Value}{az:List Value}(gA:o.op=.call cl)(HB:cl.callee=.value x)(hx:BA R x=some fv)(has:ZD R cl.args.toList=some az)
  {Q:View->Value->View->Prop} (hc:∀H,eA H₀ L H->TC M fv az H (Q H))
  (hk:∀H v H',eA H₀ L H->Q H v H'->∃L' R',eA H₀ L' H'/\(match o.dst with|some d=> d<n/\R'=(d,v)::R|none=> R'=R)/\K R' L'):Or M n H₀ R L o K:=fun H tmps hs hr=> by
 have e1:=hr.ev hx;have WG:cl.args.map (vB tmps)=az.toArray:=by
  apply Array.ext'
  simpa using hr.evs has
 have hex:execOp (vB tmps) o=(resolve (vB tmps) cl o.type).bind fun d=> invoke d.target d.args:=by unfold execOp;rw[gA];rfl
 unfold jF;rw[hex];have:((resolve (vB tmps) cl o.type).bind fun d=> invoke d.target d.args)=(Deferred.ofValue fv az.toArray).bind fun d=> invoke d.target d.args:=by
  unfold resolve;rw[HB];simp only[e1,WG]
 rw[this];refine NA _ (fun nx H' hn=> ?_) (hc H hs);have fin:∀v H'',Q H v H''->∃R' L',LA n R' (AB tmps o.dst v)/\eA H₀ L' H''/\K R' L':=by
  intro v H'' hq;obtain⟨L',R',h1,h2,h3⟩:=hk H v H'' hs hq;refine⟨R',L',?_,h1,h3⟩;cases EF:o.dst with
  | none=>
   rw[EF] at h2;subst h2;exact hr
  | some d=>
   rw[EF] at h2;obtain⟨h4,rfl⟩:=h2;exact hr.put h4 _
 cases nx <;> first
  | exact hn.elim
  | exact dA.mono hn fin
  | exact FL.mono hn fin
end
inductive TyD where
 | int (k:IntKind)
 | bool
 | str
 | struct (fs:List (TypeId×Nat×Nat))
 | arr (n:Nat) (e:TypeId)
 | slice (e:TypeId)
 | map (k e:TypeId)
 | other
def BH(P:Program)(t:TypeId):TyD:=
 match P.underlying t with
 | some (.int k)=> .int k
 | some .bool=> .bool
 | some .string=> .str
 | some (.struct fs)=> if fs.toList.all (fun f=> f.name != "_"&&(P.info? f.type).isSome) && !P.stoodInHeld t then .struct (fs.toList.map fun f=> (f.type,f.offset,((P.info? f.type).map (·.size)).getD 0)) else .other
 | some (.array n e)=> .arr n e
 | some (.slice e)=> .slice e
 | some (.map k e)=> .map k e
 | _=> .other
structure uA where
 agg:Bool
 size:Nat
 bytes:Nat
 zero:Value
 kW:List Nat
 elem:Option (Option Nat×TypeId)
 ds:TyD
def QG(P:Program)(t:TypeId):Option Bool:=
 match P.underlying t with
 | some (.struct _)|some (.array _ _)=> some true
 | some _=> some false
 | none=> none
def oZ(P:Program)(t:TypeId):List Nat:=
 match P.underlying t with
 | some (.struct fs)=> if fs.toList.all (fun f=> ((P.info? f.type).map (·.size)).getD 0 !=0) then fs.toList.map (·.offset) else []
 | _=> []
def XM(P:Program)(t:TypeId):Option (Option Nat×TypeId):=
 match P.underlying t with
 | some (.array n e)=> some (some n,e)
 | some (.slice e)=> some (none,e)
 | _=> none
structure yA(P:Program)(t:TypeId)(r:uA):Prop where
 agg:QG P t=some r.agg
 size:(P.info? t).map (·.size)=some r.size
 bytes:(P.info? t).map (·.bytes)=some r.bytes
 zero:(P.info? t).bind (·.zero)=some r.zero
 kW:oZ P t=r.kW
 elem:XM P t=r.elem
 ds:BH P t=r.ds
structure Env(P:Program) where
 ty:Nat->Option uA
 ok:∀t r,ty t=some r->yA P t r
def wY:List (Nat×uA)->Nat->Option uA
 | [],_=> none
 | (e,v)::R,d=> match Nat.beq e d with
  | true=> some v
  | false=> wY R d
def DL(P:Program):List (Nat×uA)->Prop
 | []=> True
 | x::l=> yA P x.1 x.2/\DL P l
theorem DL.at {P:Program}:∀ {l:List (Nat×uA)},DL P l->∀t r,wY l t=some r->yA P t r
 | [],_,_,_,h=> by simp[wY] at h
 | (e,v)::l,⟨h1,h2⟩,t,r,h=> by
  unfold wY at h;split at h
  ·rename_i heq
   have:e=t:=Nat.eq_of_beq_eq_true heq;subst this;cases h
   exact h1
  ·exact DL.at h2 t r h
def Env.of {P:Program}(l:List (Nat×uA))(h:DL P l):Env P:=⟨wY l,h.at⟩
section
variable {P:Program}{H:View}
theorem cA {t:TypeId}{d:TypeDesc}{Q:TypeDesc->View->Prop}(hd:P.underlying t=some d)(h:Q d H):vA P (underlying t) H Q:=by
 show vA P (match P.underlying t with|some d=> _|none=> _) H Q;rw[hd];exact h
theorem GB {t:TypeId}{i:TypeInfo}{Q:TypeInfo->View->Prop}(hi:P.info? t=some i)(h:Q i H):vA P (typeInfo t) H Q:=by
 show vA P (match P.info? t with|some i=> _|none=> _) H Q;rw[hi];exact h
theorem rK {t:TypeId}{g:Bool}{Q:Bool->View->Prop}(hg:QG P t=some g)(h:Q g H):vA P (isAgg t) H Q:=by
 unfold QG at hg;cases hd:P.underlying t with
 | none=> rw[hd] at hg;cases hg
 | some d=>
  refine aA (underlying t) _ (cA hd ?_);rw[hd] at hg;cases d <;> simp at hg <;> subst hg <;> exact h
theorem CA {t:TypeId}{n:Nat}{Q:Nat->View->Prop}(hn:(P.info? t).map (·.size)=some n)(h:Q n H):vA P (sizeOf t) H Q:=by
 cases hi:P.info? t with
 | none=> rw[hi] at hn;cases hn
 | some i=>
  rw[hi] at hn;cases hn
  exact aA (typeInfo t) _ (GB hi h)
theorem sB {t:TypeId}{z:Value}{Q:Value->View->Prop}(hz:(P.info? t).bind (·.zero)=some z)(h:Q z H):vA P (zeroValue t) H Q:=by
 cases hi:P.info? t with
 | none=> rw[hi] at hz;cases hz
 | some i=>
  rw[hi] at hz;refine aA (typeInfo t) _ (GB hi ?_);simp only[Option.bind_some] at hz;rw[hz];exact h
theorem CD(a:Addr)(i:Nat)(h:a.spot=none):a.add i=⟨a.block,a.off+i,none⟩:=by
 unfold Addr.add;split
 ·rename_i e;subst e;cases a;simp_all
 ·rfl
theorem fE {f:Bool}{e:TypeId}{fz:Nat×Nat}{l:List Value}(blk off:Nat)(hb:H blk=some (f,.cells ⟨l⟩ e fz)):
  ∀(n i:Nat) (acc:Array Value) {Q:Array Value->View->Prop},off+i+n<=l.length->Q (acc++((l.drop (off+i)).take n).toArray) H->vA P (loadCellsFrom ⟨blk,off,none⟩ i n acc) H Q
 | 0,i,acc,Q,_,h=> by
  show Q acc H;simpa using h
 | n + 1,i,acc,Q,hl,h=> by
  unfold loadCellsFrom;refine aA (load _) _ ?_;rw[CD _ _ rfl];have iB:off+i<l.length:=by omega
  refine⟨rfl,rfl,f,⟨l⟩,e,fz,l[off+i],hb,by simp[iB],?_⟩;refine fE blk off hb n (i+1) _ oM ?_;have e1:(l.drop (off+i)).take (n+1)=l[off+i]::(l.drop (off+(i+1))).take n:=by
   rw[List.drop_eq_getElem_cons iB,List.take_succ_cons]
   congr 2
  rw[e1] at h;have e2:acc.push l[off+i]++((l.drop (off+(i+1))).take n).toArray=acc++(l[off+i]::(l.drop (off+(i+1))).take n).toArray:=by
   apply Array.ext'
   simp
  rw[e2];exact h
def YB(agg:Bool)(n:Nat)(l:List Value)(off:Nat):Option Value:=
 match agg with
 | true=> match Nat.ble (off+n) l.length with
  | true=> some (.agg ⟨(l.drop off).take n⟩)
  | false=> none
 | false=> l[off]?
theorem JH {t:TypeId}{g:Bool}{n:Nat}{f:Bool}{e:TypeId}{fz:Nat×Nat}{l:List Value}{blk off:Nat}{v:Value}{Q:Value->View->Prop}(hg:QG P t=some g)(hn:(P.info? t).map (·.size)=some n)
  (hb:H blk=some (f,.cells ⟨l⟩ e fz)) (hv:YB g n l off=some v) (h:Q v H):vA P (loadVar t ⟨blk,off,none⟩) H Q:=by
 refine aA (isAgg t) _ (rK hg ?_);cases g with
 | true=>
  unfold YB at hv;simp only at hv;split at hv
  ·rename_i hle
   have UX:off+n<=l.length:=Nat.le_of_ble_eq_true hle;cases hv
   show vA P ((sizeOf t).bind fun s=> (loadCells ⟨blk,off,none⟩ s).bind fun c=> .pure (.agg c)) H Q;refine aA (sizeOf t) _ (CA hn (aA (loadCells _ _) _ ?_));refine fE blk off hb n 0 #[] (by simpa using UX) ?_;show Q (.agg (#[]++((l.drop (off+0)).take n).toArray)) H;simpa using h
  ·cases hv
 | false=>
  unfold YB at hv;simp only at hv;exact⟨rfl,rfl,f,⟨l⟩,e,fz,v,hb,by simpa using hv,h⟩
def single:Value->Bool
 | .agg _ | .tuple _=> false
 | _=> true
def zE(l:List Value)(off:Nat)(vs:List Value):List Value:=l.take off++vs++l.drop (off+vs.length)
theorem nV(l:List Value)(off:Nat):zE l off []=l:=by simp[zE]
theorem QM(l:List Value)(off:Nat)(v:Value)(vs:List Value)(h:off<l.length):zE (l.set off v) (off+1) vs=zE l off (v::vs):=by
 unfold zE;have e1:(l.set off v).take (off+1)=l.take off++[v]:=by
  rw[List.take_succ_eq_append_getElem (by simpa using h)];simp[List.take_set_of_le]
 have e2:(l.set off v).drop (off+1+vs.length)=l.drop (off+(vs.length+1)):=by
  rw[List.drop_set_of_lt oM]
  congr 1
  omega
 rw[e1,e2];simp
theorem jC {e:TypeId}(blk off:Nat):∀(vs:List Value) (i:Nat) (l:List Value) {H:View} {Q:Unit->View->Prop},H blk=some (true,.cells ⟨l⟩ e (0,0))->off+i+vs.length<=l.length->vs.all single=true-> 
  (∀H',H'=(if vs= [] then H else H.put blk (true,.cells ⟨zE l (off+i) vs⟩ e (0,0)))->Q () H')->vA P (storeCells ⟨blk,off,none⟩ vs i) H Q
 | [],i,l,H,Q,hb,_,_,h=> h H (by simp)
 | v ::vs,i,l,H,Q,hb,hl,hs,h=> by
  unfold storeCells;refine aA (store _ _) _ ?_;rw[CD _ _ rfl];simp only[List.all_cons,Bool.and_eq_true] at hs;simp only[List.length_cons] at hl;refine⟨rfl,rfl,fun cs hc=> ?_,fun cs hc=> ?_,⟨l⟩,e,(0,0),hb,?_,?_,?_⟩
  ·rw[hc] at hs;simp[single] at hs
  ·rw[hc] at hs;simp[single] at hs
  ·show off+i<l.length;omega
  ·simp
  ·have aC8:(⟨l⟩:Array Value).setIfInBounds (off+i) v=⟨l.set (off+i) v⟩:=by
    apply Array.ext'
    simp
   simp only[aC8];refine jC blk off vs (i+1) (l.set (off+i) v) (View.pA ..) (by simp;omega) hs.2 fun H' lQ=> h H' ?_;rw[lQ];have he:off+(i+1)=off+i+1:=by omega
   rw[he,QM l (off+i) v vs oM]
   funext c
   by_cases hv:vs= []
   ·subst hv;simp only[if_true];rw[if_neg (by simp)];simp only[View.put];split
    ·congr 5
     have:=QM l (off+i) v [] oM;rw[nV] at this;exact this
    ·rfl
   ·rw[if_neg hv,if_neg (by simp)];simp only[View.put];split <;> rfl
theorem eQ {t:TypeId}{n:Nat}{e:TypeId}{l:List Value}{blk off:Nat}{v:Value}{Q:Unit->View->Prop}(hn:(P.info? t).map (·.size)=some n)(hv:v.cells.size=n)(h0:n≠0)
  (hb:H blk=some (true,.cells ⟨l⟩ e (0,0))) (hl:off+n<=l.length) (hs:v.cells.toList.all single=true) (h:Q () (H.put blk (true,.cells ⟨zE l off v.cells.toList⟩ e (0,0)))):vA P (storeVar t ⟨blk,off,none⟩ v) H Q:=by
 refine aA (sizeOf t) _ (CA hn ?_);rw[if_neg (by simp[hv])];show vA P (storeCells ⟨blk,off,none⟩ v.cells.toList) H Q;refine jC blk off v.cells.toList 0 l hb (by simpa [hv] using hl) hs fun H' lQ=> ?_;have aB:v.cells.toList≠ []:=by
  intro he;have:v.cells.size=0:=by rw[<-Array.length_toList,he];rfl
  omega
 rw[if_neg aB] at lQ;rw[lQ];simpa using h
end
section
variable {P:Program}{E:Env P}{M:Md P}{n:Nat}{H₀:View}{R:Rg}{L L':Bl}{K:Rg->Bl->Prop}{o:Oper}{d:Nat}{v:Value}
def mA(P:Program)(n:Nat)(H₀:View)(R:Rg)(L:Bl)(o:Oper)(v:Value):Prop:=
 ∀H tmps,eA H₀ L H->LA n R tmps->vA P (execOp (vB tmps) o) H fun nx H'=> nx=.value v/\H'=H
theorem Or.A4(h:mA P n H₀ R L o v)(hd:o.dst=some d)(hn:d<n)(hk:K ((d,v)::R) L):Or M n H₀ R L o K:=
 .val hd hn fun H tmps hs hr=> NA _ (fun _ _ ⟨h1,h2⟩=> ⟨v,h1,L,h2▸hs,hk⟩) (h H tmps hs hr)
theorem mA.move {x:Operand}(gA:o.op=.move x)(hx:BA R x=some v):mA P n H₀ R L o (v):=
 (fun H tmps _ hr=> by unfold execOp;rw[gA];exact⟨by rw[hr.ev hx],rfl⟩)
theorem mA.assign {x:Operand}(gA:o.op=.assign x)(hx:BA R x=some v):mA P n H₀ R L o (v):=
 (fun H tmps _ hr=> by unfold execOp;rw[gA];exact⟨by rw[hr.ev hx],rfl⟩)
theorem mA.pick {c x y:Operand}{t:Bool}(gA:o.op=.pick c x y)(hc:BA R c=some (.bool t))(hx:(match t with|true=> BA R x|false=> BA R y)=some v):mA P n H₀ R L o (v):=
 (fun H tmps _ hr=> by
  unfold execOp;rw[gA];simp only[hr.ev hc,asBool];cases t with
  | true=> exact⟨by rw[<-hr.ev hx];rfl,rfl⟩
  | false=> exact⟨by rw[<-hr.ev hx];rfl,rfl⟩)
theorem mA.extract {x:Operand}{i:Nat}{vs:Array Value}(gA:o.op=.extract x i)(hx:BA R x=some (.tuple vs))(hv:vs[i]? =some v):mA P n H₀ R L o (v):=
 (fun H tmps _ hr=> by
  unfold execOp;rw[gA];simp only[hr.ev hx,Instr.extract,hv];exact⟨rfl,rfl⟩)
theorem mA.nilCheck {x:Operand}{a:Addr}(gA:o.op=.nilCheck x)(hx:BA R x=some (.pointer (some a))):mA P n H₀ R L o (.pointer (some a)):=
 (fun H tmps _ hr=> by
  unfold execOp;rw[gA];simp only[hr.ev hx];exact⟨rfl,rfl⟩)
theorem mA.makeFunc {fn:Fn}{fs cp:Array Operand}{vf vc:List Value}(gA:o.op=.makeFunc fn fs cp)(h1:ZD R fs.toList=some vf)(h2:ZD R cp.toList=some vc):mA P n H₀ R L o (.func fn vf.toArray vc.toArray):=
 (fun H tmps _ hr=> by
  have e1:fs.map (vB tmps)=vf.toArray:=by apply Array.ext';simpa using hr.evs h1
  have e2:cp.map (vB tmps)=vc.toArray:=by apply Array.ext';simpa using hr.evs h2
  unfold execOp;rw[gA];simp only[e1,e2];exact⟨rfl,rfl⟩)
theorem Or.tR {e:TypeId}{c:List Value}(hd:o.dst=some d)(hn:d<n) 
  (h:∀H tmps,eA H₀ L H->LA n R tmps->∀Q:Next->View->Prop,(∀blk,H blk=none->Q (.value (.pointer (some ⟨blk,0,none⟩))) (H.put blk (true,.cells ⟨c⟩ e (0,0))))->vA P (execOp (vB tmps) o) H Q)
  (hk:∀blk,K ((d,.pointer (some ⟨blk,0,none⟩))::R) ((blk,true,.cells ⟨c⟩ e (0,0))::L)):Or M n H₀ R L o K:=
 .val hd hn fun H tmps hs hr=> h H tmps hs hr _ fun blk hb=> ⟨_,rfl,_,hs.cons _ hb,hk blk⟩
theorem Or.box {e:TypeId}{x:Operand}(gA:o.op=.box e x)(hd:o.dst=some d)(hn:d<n)(hx:BA R x=some v)
  (hk:∀blk,K ((d,.pointer (some ⟨blk,0,none⟩))::R) ((blk,true,.cells ⟨v.cells.toList⟩ e (0,0))::L)):Or M n H₀ R L o K:=
 .tR hd hn (fun H tmps _ hr Q hQ=> by
  unfold execOp;rw[gA];simp only[hr.ev hx];exact fun blk hb=> hQ blk hb) hk
theorem Or.alloc {e:TypeId}{r:uA}(gA:o.op=.alloc e)(ht:E.ty e=some r)(hd:o.dst=some d)(hn:d<n)
  (hk:∀blk,K ((d,.pointer (some ⟨blk,0,none⟩))::R) ((blk,true,.cells ⟨r.zero.cells.toList⟩ e (0,0))::L)):Or M n H₀ R L o K:=
 .tR hd hn (fun H tmps _ hr Q hQ=> by
  unfold execOp;rw[gA];show vA P (((zeroValue e).bind fun z=> _).bind _) H Q;refine aA _ _ (aA (zeroValue e) _ (sB (E.ok _ _ ht).zero ?_));exact fun blk hb=> hQ blk hb) hk
theorem mA.load(i:Nat){t:TypeId}{x:Operand}{r:uA}{blk off:Nat}{f:Bool}{c:List Value}{e:TypeId}{fz:Nat×Nat}(gA:o.op=.load t x)(hx:BA R x=some (.pointer (some ⟨blk,off,none⟩)))(hi:L[i]? =some (blk,f,.cells ⟨c⟩ e fz))
  (ht:E.ty t=some r) (hv:YB r.agg r.size c off=some v):mA P n H₀ R L o (v):=
 (fun H tmps hs hr=> by
  unfold execOp;rw[gA];simp only[hr.ev hx];show vA P ((loadVar t _).bind _) H _;exact aA _ _ (JH (E.ok _ _ ht).agg (E.ok _ _ ht).size (hs.get hi) hv ⟨rfl,rfl⟩))
theorem mA.M3 {t:TypeId}{x:Operand}{r:uA}{blk off:Nat}{f:Bool}{c:List Value}{e:TypeId}{fz:Nat×Nat}(gA:o.op=.load t x)(hx:BA R x=some (.pointer (some ⟨blk,off,none⟩)))(hi:H₀ blk=some (f,.cells ⟨c⟩ e fz))
  (ht:E.ty t=some r) (hv:YB r.agg r.size c off=some v):mA P n H₀ R L o (v):=
 (fun H tmps hs hr=> by
  unfold execOp;rw[gA];simp only[hr.ev hx];show vA P ((loadVar t _).bind _) H _;exact aA _ _ (JH (E.ok _ _ ht).agg (E.ok _ _ ht).size (hs.base _ _ hi) hv ⟨rfl,rfl⟩))
theorem Or.store(i:Nat){t:TypeId}{x y:Operand}{r:uA}{blk off:Nat}{c:List Value}{e:TypeId}(gA:o.op=.store t x y)(hx:BA R x=some (.pointer (some ⟨blk,off,none⟩)))(hy:BA R y=some v)
  (hi:L[i]? =some (blk,true,.cells ⟨c⟩ e (0,0))) (ht:E.ty t=some r) (hz:Nat.beq v.cells.toList.length r.size=true) (h0:Nat.beq r.size 0=false) (hl:Nat.ble (off+r.size) c.length=true) (hs:v.cells.toList.all single=true)
  (hd:o.dst=none)
  (hk:K R (L.set i (blk,true,.cells ⟨zE c off v.cells.toList⟩ e (0,0)))):Or M n H₀ R L o K:=
 .hO hd fun H tmps bB hr=> by
  unfold execOp;rw[gA];simp only[hr.ev hx,hr.ev hy];show vA P ((storeVar t _ v).bind _) H _;refine aA _ _ (eQ (E.ok _ _ ht).size ?_ ?_ (bB.get hi) (Nat.le_of_ble_eq_true hl) hs ?_)
  ·rw[<-Array.length_toList];exact Nat.eq_of_beq_eq_true hz
  ·intro h;rw[h] at h0;cases h0
  ·exact⟨rfl,_,bB.set hi _,hk⟩
theorem Or.storeT(i:Nat){t:TypeId}{x y:Operand}{r:uA}{blk off:Nat}{c c':List Value}{e:TypeId}(gA:o.op=.store t x y)(hx:BA R x=some (.pointer (some ⟨blk,off,none⟩)))(hy:BA R y=some v)
 (hi:L[i]? =some (blk,true,.cells ⟨c⟩ e (0,0))) (ht:E.ty t=some r) (hz:Nat.beq v.cells.toList.length r.size=true) (h0:Nat.beq r.size 0=false) (hl:Nat.ble (off+r.size) c.length=true) (hs:v.cells.toList.all single=true)
 (hd:o.dst=none) (hc:zE c off v.cells.toList=c')
 (hk:K R (L.set i (blk,true,.cells ⟨c'⟩ e (0,0)))):Or M n H₀ R L o K:=.store i gA hx hy hi ht hz h0 hl hs hd (by rw[hc];exact hk)
theorem lS {s:TypeId}{fi off o':Nat}{blk:Nat}{r:uA}{Q:Value->View->Prop}{H:View}(ht:E.ty s=some r)(ho:r.kW[fi]? =some o')(h:Q (.pointer (some ⟨blk,off+o',none⟩)) H):
  vA P (Instr.fieldAt s (.pointer (some ⟨blk,off,none⟩)) fi) H Q:=by
 have gI:=(E.ok _ _ ht).kW;unfold oZ at gI;split at gI
 ·rename_i fs hu
  refine aA (underlying s) _ (cA hu ?_);split at gI
  ·rename_i PA
   rw[<-gI] at ho;simp only[List.getElem?_map,Option.map_eq_some_iff] at ho;obtain⟨fl,h1,h2⟩:=ho;simp only[Array.getElem?_toList] at h1;have HD:=List.all_eq_true.1 PA fl (Array.mem_toList_iff.2 (Array.mem_of_getElem? h1));simp only[h1];show vA P ((fieldPlace ⟨blk,off,none⟩ fl).bind _) H Q;refine aA _ _ ?_;cases hi:P.info? fl.type with
   | none=> rw[hi] at HD;simp at HD
   | some i=>
    rw[hi] at HD;refine aA (sizeOf fl.type) _ (CA (n:=i.size) (by rw[hi];rfl) ?_);have:i.size≠0:=by simpa using HD
    rw[if_neg this];show Q (.pointer (some (Addr.add ⟨blk,off,none⟩ fl.offset))) H;rw[CD _ _ rfl,h2];exact h
  ·rw[<-gI] at ho;simp at ho
 ·rw[<-gI] at ho;simp at ho
theorem mA.fieldAddr {s:TypeId}{x:Operand}{fi o':Nat}{r:uA}{blk off:Nat}(gA:o.op=.fieldAddr s x fi)(hx:BA R x=some (.pointer (some ⟨blk,off,none⟩)))(ht:E.ty s=some r)(ho:r.kW[fi]? =some o'):mA P n H₀ R L o (.pointer (some ⟨blk,off+o',none⟩)):=
 (fun H tmps hs hr=> by
  unfold execOp;rw[gA];simp only[hr.ev hx];exact aA _ _ (lS ht ho ⟨rfl,rfl⟩))
theorem SJ {t et:TypeId}{j:Int}{ik:IntKind}{len cap:Nat}{off blk sz:Nat}{r:uA}{re:uA}{Q:Value->View->Prop}{H:View}(ht:E.ty t=some r)(he:r.elem=some (none,et))(FC:E.ty et=some re)(HD:re.size=sz)(h0:0<=j)(h1:j<len)
  (h:Q (.pointer (some ⟨blk,off+j.toNat*sz,none⟩)) H):vA P (Instr.indexAt t (.slice (some ⟨blk,off,none⟩) len cap) (.int ik j)) H Q:=by
 have fI:=(E.ok _ _ ht).elem;unfold XM at fI;split at fI
 ·rw[he] at fI;cases fI
 ·rename_i e hu
  rw[he] at fI;cases fI
  refine aA (underlying t) _ (cA hu ?_);show vA P ((underlying t).bind fun d=> _) H Q;refine aA (underlying t) _ (cA hu ?_);simp only[];rw[if_pos ⟨h0,h1⟩];refine aA (sizeOf et) _ (CA (E.ok _ _ FC).size ?_);show Q (.pointer (some (Addr.add ⟨blk,off,none⟩ (j.toNat*re.size)))) H;rw[CD _ _ rfl,HD];exact h
 ·rw[he] at fI;cases fI
end
def DD(op:BinOp)(k:IntKind)(x y:Int):Int:=
 let a:=BitVec.ofInt k.bits x
 let b:=BitVec.ofInt k.bits y
 match op with
 | .and=> k.wrap ((a &&& b).toNat:Int)
 | .or=> k.wrap ((a ||| b).toNat:Int)
 | .xor=> k.wrap ((a ^^^ b).toNat:Int)
 | _=> k.wrap ((a &&& ~~~b).toNat:Int)
def iA(op:BinOp)(k:IntKind)(a b:Int):Option Value:=
 match op with
 | .add=> some (.int k (k.wrap (a+b)))
 | .sub=> some (.int k (k.wrap (a-b)))
 | .mul=> some (.int k (k.wrap (a*b)))
 | .quo=> if b=0 then none else some (.int k (k.wrap (a.tdiv b)))
 | .rem=> if b=0 then none else some (.int k (a.tmod b))
 | .and=> some (.int k (DD .and k a b))
 | .or=> some (.int k (DD .or k a b))
 | .xor=> some (.int k (DD .xor k a b))
 | .andNot=> some (.int k (DD .andNot k a b))
 | .eql=> some (.bool (a==b))
 | .neq=> some (.bool (a !=b))
 | .lss=> some (.bool (decide (a<b)))
 | .leq=> some (.bool (decide (a<=b)))
 | .gtr=> some (.bool (decide (a>b)))
 | .geq=> some (.bool (decide (a≥b)))
 | _=> none
theorem wrap64 {a:Int}(h1: -9223372036854775808<=a)(h2:a<9223372036854775808):IntKind.i64.wrap a=a:=IntWalk.i64_in a ⟨h1,oM⟩
section
variable {k:IntKind}{a b:Int}
theorem YD(h1: -9223372036854775808<=a+b)(h2:a+b<9223372036854775808):iA .add .i64 a b=some (.int .i64 (a+b)):=by simp only[iA,wrap64 h1 h2]
theorem UP(h1: -9223372036854775808<=a-b)(h2:a-b<9223372036854775808):iA .sub .i64 a b=some (.int .i64 (a-b)):=by simp only[iA,wrap64 h1 h2]
theorem pD(h1: -9223372036854775808<=a*b)(h2:a*b<9223372036854775808):iA .mul .i64 a b=some (.int .i64 (a*b)):=by simp only[iA,wrap64 h1 h2]
theorem rem_in(h1:0<=a)(h2:0<b):iA .rem k a b=some (.int k (a%b)):=by
 simp only[iA,if_neg (show b≠0 by omega),Int.tmod_eq_emod_of_nonneg h1]
theorem dO(h:a<b):iA .lss k a b=some (.bool true):=by simp[iA,h]
theorem CJ(h:b<=a):iA .lss k a b=some (.bool false):=by simp[iA];omega
theorem oH(h:a<=b):iA .leq k a b=some (.bool true):=by simp[iA,h]
theorem NG(h:b<a):iA .leq k a b=some (.bool false):=by simp[iA];omega
theorem pI(h:b<a):iA .gtr k a b=some (.bool true):=by simp[iA,h]
theorem jH(h:a<=b):iA .gtr k a b=some (.bool false):=by simp[iA];omega
theorem OQ(h:b<=a):iA .geq k a b=some (.bool true):=by simp[iA,h]
theorem NQ(h:a<b):iA .geq k a b=some (.bool false):=by simp[iA];omega
theorem aD(h:a=b):iA .eql k a b=some (.bool true):=by simp[iA,h]
theorem XB(h:a≠b):iA .eql k a b=some (.bool false):=by simp[iA,h]
theorem NC(h:a≠b):iA .neq k a b=some (.bool true):=by simp[iA,h]
theorem kC(h:a=b):iA .neq k a b=some (.bool false):=by simp[iA,h]
end
theorem RG {P:Program}{op:BinOp}{t:TypeId}{x y:Operand}{k k':IntKind}{a b:Int}{H:View}{Q:Unit->View->Prop}(h:Q () H):vA P (eqGuard op t x y (.int k a) (.int k' b)) H Q:=by
 unfold eqGuard;cases op <;> exact h
theorem lU {P:Program}{op:BinOp}{t:TypeId}{k:IntKind}{a b:Int}{v:Value}{H:View}{Q:Value->View->Prop}(hv:iA op k a b=some v)(h:Q v H):vA P (binOp op t (.int k a) (.int k b)) H Q:=by
 unfold binOp;unfold iA at hv;cases op <;> simp only[reduceCtorEq,Option.some.injEq] at hv
 case quo=>
  split at hv
  ·cases hv
  ·rename_i hb
   cases hv
   simp only[ne_eq,not_true_eq_false,if_false,Op.intDiv,if_neg hb];exact h
 case rem=>
  split at hv
  ·cases hv
  ·rename_i hb
   cases hv
   simp only[ne_eq,not_true_eq_false,if_false,Op.intDiv,if_neg hb];exact h
 all_goals (subst hv;simp only[ne_eq,not_true_eq_false,if_false,Op.intArith,Op.intCmp,Op.intBits];exact h)
section
variable {P:Program}{E:Env P}{M:Md P}{n:Nat}{H₀:View}{R:Rg}{L L':Bl}{K:Rg->Bl->Prop}{o:Oper}{d:Nat}{v:Value}
theorem mA.int {op:BinOp}{t u:TypeId}{x y:Operand}{ik:IntKind}{p q:Int}(gA:o.op=.binOp op t x y u)(hx:BA R x=some (.int ik p))(hy:BA R y=some (.int ik q))
  (hv:iA op ik p q=some v):mA P n H₀ R L o (v):=
 (fun H tmps _ hr=> by
  unfold execOp;rw[gA];simp only[hr.ev hx,hr.ev hy];show vA P (((eqGuard op t x y _ _).bind fun _=> binOp op t _ _).bind _) H _;exact aA _ _ (aA _ _ (RG (lU hv ⟨rfl,rfl⟩))))
def qC(op:BinOp)(k:IntKind)(x y:Int):Option Value:=
 match op with
 | .shl=> some (.int k (k.wrap (x*2 ^ (min y.toNat k.bits))))
 | .shr=> some (.int k (x.fdiv (2 ^ (min y.toNat k.bits))))
 | _=> none
theorem mA.shift {op:BinOp}{t u:TypeId}{x y:Operand}{ik jk:IntKind}{p q:Int}(gA:o.op=.binOp op t x y u)(hx:BA R x=some (.int ik p))(hy:BA R y=some (.int jk q))
  (hq:0<=q) (hv:qC op ik p q=some v):mA P n H₀ R L o (v):=
 (fun H tmps _ hr=> by
  unfold execOp;rw[gA];simp only[hr.ev hx,hr.ev hy];show vA P (((eqGuard op t x y _ _).bind fun _=> binOp op t _ _).bind _) H _;refine aA _ _ (aA _ _ (RG ?_));unfold qC at hv;cases op <;> simp only[reduceCtorEq,Option.some.injEq] at hv <;> subst hv
  all_goals
   simp only[binOp,Op.shift,if_neg (show ¬q<0 by omega)];exact⟨rfl,rfl⟩)
theorem mA.not {t:TypeId}{x:Operand}{p:Bool}(gA:o.op=.unOp .not t x)(hx:BA R x=some (.bool p)):mA P n H₀ R L o (.bool (!p)):=
 (fun H tmps _ hr=> by
  unfold execOp;rw[gA];simp only[hr.ev hx];exact⟨rfl,rfl⟩)
theorem mA.neg {t:TypeId}{x:Operand}{p z:Int}(gA:o.op=.unOp .neg t x)(hx:BA R x=some (.int .i64 p))
  (h1: -9223372036854775808<= -p) (h2: -p<9223372036854775808) (hz: -p=z):mA P n H₀ R L o (.int .i64 z):=
 (fun H tmps _ hr=> by
  subst hz;unfold execOp;rw[gA];simp only[hr.ev hx];have:IntKind.i64.wrap (0-p)= -p:=by rw[show(0:Int)-p= -p by omega,wrap64 h1 h2]
  show Next.value (.int .i64 (IntKind.i64.wrap (0-p)))=_/\_;rw[this];exact⟨rfl,rfl⟩)
theorem mA.conv {t u:TypeId}{x:Operand}{ik jk:IntKind}{p z:Int}{de:TypeDesc}(gA:o.op=.convert t u x)(hx:BA R x=some (.int ik p))
  (hu0:P.underlying t=some de) (hu:P.underlying u=some (.int jk)) (hz:jk.wrap p=z):mA P n H₀ R L o (.int jk z):=
 (fun H tmps _ hr=> by
  subst hz;unfold execOp;rw[gA];simp only[hr.ev hx];show vA P (((underlying t).bind fun s=> (underlying u).bind fun e=> _).bind _) H _;refine aA _ _ (aA _ _ (cA hu0 (aA _ _ (cA hu ?_))));cases de <;> exact⟨rfl,rfl⟩)
theorem mA.len {t:TypeId}{x:Operand}{a:Option Addr}{p q:Nat}{cl:Go.Call}{e:TypeId}{r:uA}(gA:o.op=.call cl)(HB:cl.callee=.builtin .len)(KI:cl.argTypes=#[t])(wJ:cl.args=#[x])
  (hx:BA R x=some (.slice a p q)) (ht:E.ty t=some r) (he:r.elem=some (none,e)):mA P n H₀ R L o (.int .i64 (p:Int)):=
 (fun H tmps _ hr=> by
  have fI:=(E.ok _ _ ht).elem;unfold XM at fI;split at fI
  ·rw[he] at fI;cases fI
  ·rename_i e' hu
   unfold execOp;rw[gA];simp only[resolve,HB,KI,wJ];have hm:Array.map (vB tmps) #[x]=#[.slice a p q]:=by simp[hr.ev hx]
   rw[hm];refine aA (Builtin.len_ #[t] o.type #[.slice a p q]) _ (aA (underlying t) _ (cA hu ?_));exact⟨rfl,rfl⟩
  ·rw[he] at fI;cases fI)
theorem mA.indexAddr {t:TypeId}{x y:Operand}{r re:uA}{et:TypeId}{blk off sz len cap:Nat}{ik:IntKind}{j:Int}(gA:o.op=.indexAddr t x y)(hx:BA R x=some (.slice (some ⟨blk,off,none⟩) len cap))(hy:BA R y=some (.int ik j))
  (ht:E.ty t=some r) (he:r.elem=some (none,et)) (FC:E.ty et=some re) (HD:re.size=sz) (h0:0<=j) (h1:j<len):mA P n H₀ R L o (.pointer (some ⟨blk,off+j.toNat*sz,none⟩)):=
 (fun H tmps _ hr=> by
  unfold execOp;rw[gA];simp only[hr.ev hx,hr.ev hy];exact aA _ _ (SJ ht he FC HD h0 h1 ⟨rfl,rfl⟩))
theorem mA.mT {t:TypeId}{x y:Operand}{r re:uA}{et:TypeId}{blk off sz len:Nat}{ik:IntKind}{j:Int}(gA:o.op=.indexAddr t x y)(hx:BA R x=some (.pointer (some ⟨blk,off,none⟩)))(hy:BA R y=some (.int ik j))
  (ht:E.ty t=some r) (he:r.elem=some (some len,et)) (FC:E.ty et=some re) (HD:re.size=sz) (h0:0<=j) (h1:j<len):mA P n H₀ R L o (.pointer (some ⟨blk,off+j.toNat*sz,none⟩)):=
 (fun H tmps _ hr=> by
  unfold execOp;rw[gA];simp only[hr.ev hx,hr.ev hy];refine aA _ _ ?_;have fI:=(E.ok _ _ ht).elem;unfold XM at fI;split at fI
  ·rename_i n' e' hu
   rw[he] at fI;cases fI
   show vA P ((underlying t).bind fun d=> _) H _;refine aA (underlying t) _ (cA hu ?_);show vA P ((underlying t).bind fun d=> _) H _;refine aA (underlying t) _ (cA hu ?_);simp only[];rw[if_pos ⟨h0,h1⟩];refine aA (sizeOf et) _ (CA (E.ok _ _ FC).size ?_);show Next.value (.pointer (some (Addr.add ⟨blk,off,none⟩ (j.toNat*re.size))))=_/\_;rw[CD _ _ rfl,HD];exact⟨rfl,rfl⟩
  ·rw[he] at fI;cases fI
  ·rw[he] at fI;cases fI)
theorem mA.index {t:TypeId}{x y:Operand}{r re:uA}{et:TypeId}{len:Nat}{ik:IntKind}{j:Int}{c:List Value}(gA:o.op=.index t x y)(hx:BA R x=some (.agg ⟨c⟩))(hy:BA R y=some (.int ik j))
  (ht:E.ty t=some r) (he:r.elem=some (some len,et)) (FC:E.ty et=some re) (h0:0<=j) (h1:j<len) (hv:YB re.agg re.size c (j.toNat*re.size)=some v):mA P n H₀ R L o (v):=
 (fun H tmps _ hr=> by
  unfold execOp;rw[gA];simp only[hr.ev hx,hr.ev hy];refine aA _ _ ?_;have fI:=(E.ok _ _ ht).elem;unfold XM at fI;split at fI
  ·rename_i n' e' hu
   rw[he] at fI;cases fI
   show vA P ((underlying t).bind fun d=> _) H _;refine aA (underlying t) _ (cA hu ?_);simp only[];rw[if_pos ⟨h0,h1⟩];refine aA (sizeOf et) _ (CA (E.ok _ _ FC).size ?_);unfold part;refine aA (isAgg et) _ (rK (E.ok _ _ FC).agg ?_);unfold YB at hv;cases hg:re.agg with
   | true=>
    rw[hg] at hv;simp only at hv;split at hv
    ·rename_i hle
     have UX:=Nat.le_of_ble_eq_true hle;cases hv
     refine aA (sizeOf et) _ (CA (E.ok _ _ FC).size ?_);show Next.value (.agg ((⟨c⟩:Array Value).extract (j.toNat*re.size) (j.toNat*re.size+re.size)))=_/\_;refine⟨?_,rfl⟩
     congr 2
     apply Array.ext'
     simp[List.extract_eq_take_drop]
    ·cases hv
   | false=>
    rw[hg] at hv;simp only at hv;have:(⟨c⟩:Array Value)[j.toNat*re.size]? =some v:=by simpa using hv
    simp only[this];exact⟨rfl,rfl⟩
  ·rw[he] at fI;cases fI
  ·rw[he] at fI;cases fI)
end
theorem KQ:∀(vs:List Value) (k:Nat) (c:List Value) (off:Nat),off+k+vs.length<=c.length-> 
  (vs.zipIdx k).foldl (fun(cs:Array Value) (x:Value×Nat)=> cs.setIfInBounds (off+x.2) x.1) (⟨c⟩:Array Value)=⟨zE c (off+k) vs⟩
 | [],k,c,off,_=> by simp[nV]
 | v::vs,k,c,off,h=> by
  simp only[List.length_cons] at h;have e:(⟨c⟩:Array Value).setIfInBounds (off+k) v=⟨c.set (off+k) v⟩:=by apply Array.ext';simp
  simp only[List.zipIdx_cons,List.foldl_cons,e];rw[KQ vs (k+1) (c.set (off+k) v) off (by simp;omega)];rw[show off+(k+1)=off+k+1 by omega,QM c (off+k) v vs oM]
def CK(place:Nat->Option (Nat×Nat)):List Value->List (Nat×Value)->Option (List Value)
 | c,[]=> some c
 | c,(i,v)::rest=>
  match place i with
  | none=> none
  | some (off,size)=>
   match Nat.beq v.cells.toList.length size,Nat.ble (off+v.cells.toList.length) c.length with
   | true,true=> CK place (zE c off v.cells.toList) rest
   | _,_=> none
theorem mL {place:Nat->Option (Nat×Nat)}:∀ {parts:List (Nat×Value)} {c r:List Value},CK place c parts=some r->Instr.fill place ⟨c⟩ parts=some ⟨r⟩
 | [],c,r,h=> by simp only[CK,Option.some.injEq] at h;simp[Instr.fill,h]
 | (i, v)::rest,c,r,h=> by
  unfold CK at h;unfold Instr.fill;split at h
  ·cases h
  ·rename_i off size hp
   rw[hp];split at h
   ·rename_i h1 h2
    have h1':v.cells.size=size:=by rw[<-Array.length_toList];exact Nat.eq_of_beq_eq_true h1
    have h2':off+v.cells.size<=c.length:=by rw[<-Array.length_toList];exact Nat.le_of_ble_eq_true h2
    simp only[];rw[if_neg (by simp[h1'];omega)];have hz:v.cells.zipIdx.foldl (fun(cs:Array Value) (x:Value×Nat)=> cs.setIfInBounds (off+x.2) x.1) (⟨c⟩:Array Value)=⟨zE c off v.cells.toList⟩:=by
     have:=KQ v.cells.toList 0 c off (by simpa using h2');rw[<-Array.foldl_toList];simpa using this
    have hz':(v.cells.zipIdx.foldl (fun cs (c,j)=> cs.setIfInBounds (off+j) c) (⟨c⟩:Array Value))=⟨zE c off v.cells.toList⟩:=hz;rw[hz'];exact mL h
   ·cases h
section
variable {P:Program}{E:Env P}{M:Md P}{n:Nat}{H₀:View}{R:Rg}{L L':Bl}{K:Rg->Bl->Prop}{o:Oper}{d:Nat}{v:Value}
def uN(R:Rg)(ps:List (Nat×Operand)):Option (List (Nat×Value)):=ps.mapM fun x=> (BA R x.2).map fun v=> (x.1,v)
theorem LA.uN {tmps:Array Value}(h:LA n R tmps):∀ {xs:List (Nat×Operand)} {vs:List (Nat×Value)},uN R xs=some vs->xs.map (fun x=> (x.1,vB tmps x.2))=vs:=by
 intro xs;induction xs with
 | nil=> intro vs e;simp[RL.uN] at e;simp[e]
 | cons x xs ih=>
  intro vs e;simp only[RL.uN,List.mapM_cons,Option.bind_eq_bind,Option.bind_eq_some_iff,Option.pure_def,Option.some.injEq,Option.map_eq_some_iff] at e;obtain⟨v,⟨w,h1,rfl⟩,us,h2,rfl⟩:=e;simp only[List.map_cons,h.ev h1,List.cons.injEq,true_and];exact ih h2
def TO(E:Env P)(t:TypeId)(parts:List (Nat×Value)):Option (List Value):=
 match E.ty t with
 | none=> none
 | some r=>
  match r.ds with
  | .struct fs=> CK (fun i=> (fs[i]?).map (·.2)) r.zero.cells.toList parts
  | .arr _ e=>
   match E.ty e with
   | some re=> CK (fun i=> some (i*re.size,re.size)) r.zero.cells.toList parts
   | none=> none
  | _=> none
theorem PH {t:TypeId}{fs:List (TypeId×Nat×Nat)}(h:BH P t=.struct fs):∃a:Array Field,P.underlying t=some (.struct a)/\(∀f∈a.toList,f.name≠ "_"/\(P.info? f.type).isSome=true)/\P.stoodInHeld t=false/\
  fs=a.toList.map fun f=> (f.type,f.offset,((P.info? f.type).map (·.size)).getD 0):=by
 unfold BH at h;split at h <;> try cases h
 rename_i a hu
 split at h
 ·rename_i PA
  simp only[Bool.and_eq_true,List.all_eq_true,bne_iff_ne,ne_eq,Bool.not_eq_true'] at PA;cases h
  exact⟨a,hu,PA.1,PA.2,rfl⟩
 ·cases h
theorem WO {t:TypeId}{m:Nat}{e:TypeId}(h:BH P t=.arr m e):P.underlying t=some (.array m e):=by
 unfold BH at h;split at h <;> try cases h
 ·rename_i a hu;split at h <;> cases h
 ·assumption
theorem dC {t:TypeId}{e:TypeId}(h:BH P t=.slice e):P.underlying t=some (.slice e):=by
 unfold BH at h;split at h <;> try cases h
 ·rename_i a hu;split at h <;> cases h
 ·assumption
theorem WL {t:TypeId}{k e:TypeId}(h:BH P t=.map k e):P.underlying t=some (.map k e):=by
 unfold BH at h;split at h <;> try cases h
 ·rename_i a hu;split at h <;> cases h
 ·assumption
theorem bK {t:TypeId}{k:IntKind}(h:BH P t=.int k):P.underlying t=some (.int k):=by
 unfold BH at h;split at h <;> try cases h
 ·assumption
 ·rename_i a hu;split at h <;> cases h
theorem AO {H:View}:∀ {fs:List Field} {Q:List (Nat×Nat)->View->Prop},(∀f∈fs,(P.info? f.type).isSome=true)->Q (fs.map fun f=> (f.offset,((P.info? f.type).map (·.size)).getD 0)) H-> 
  vA P (fs.mapM fun f=> (sizeOf f.type).bind fun s=> .pure (f.offset,s)) H Q
 | [],Q,_,h=> h
 | f::fs,Q,PA,h=> by
  rw[List.mapM_cons];obtain⟨i,hi⟩:=Option.isSome_iff_exists.1 (PA f (by simp));refine aA ((sizeOf f.type).bind fun s=> .pure (f.offset,s)) _ (aA _ _ (CA (n:=i.size) (by rw[hi];rfl) ?_));show vA P ((fs.mapM fun f=> (sizeOf f.type).bind fun s=> Sem.pure (f.offset,s)).bind fun us=> .pure ((f.offset,i.size)::us)) H Q;refine aA _ _ (AO (fun g hg=> PA g (by simp[hg])) ?_);simp only[List.map_cons,hi,Option.map_some,Option.getD_some] at h;exact h
theorem JW {t:TypeId}{parts:List (Nat×Value)}{l:List Value}{H:View}{Q:Value->View->Prop}(hv:TO E t parts=some l)(h:Q (.agg ⟨l⟩) H):vA P (Instr.build t parts.toArray) H Q:=by
 unfold TO at hv;split at hv
 ·cases hv
 ·rename_i r ht
  refine aA (zeroValue t) _ (sB (E.ok _ _ ht).zero ?_);split at hv
  ·rename_i fs yB
   obtain⟨a,hu,PA,_,rfl⟩:=PH ((E.ok _ _ ht).ds.trans yB);refine aA (underlying t) _ (cA hu ?_);have e1:∀k:Array (Nat×Nat)->Sem Value,((a.mapM fun f=> (sizeOf f.type).bind fun s=> Sem.pure (f.offset,s)).bind k)=(a.toList.mapM fun f=> (sizeOf f.type).bind fun s=> Sem.pure (f.offset,s)).bind fun us=> k us.toArray:=by
    intro k;have e0:a.mapM (fun f=> (sizeOf f.type).bind fun s=> Sem.pure (f.offset,s))=(a.toList.toArray).mapM (fun f=> (sizeOf f.type).bind fun s=> Sem.pure (f.offset,s)):=by simp
    rw[e0,List.mapM_toArray];show((a.toList.mapM fun f=> (sizeOf f.type).bind fun s=> Sem.pure (f.offset,s)) >>=fun us=> (Pure.pure us.toArray:Sem (Array (Nat×Nat)))) >>=k=_;rw[bind_assoc];rfl
   show vA P ((a.mapM fun f=> (sizeOf f.type).bind fun s=> Sem.pure (f.offset,s)).bind _) H Q;rw[e1];refine aA _ _ (AO (fun f hf=> (PA f hf).2) ?_);have hf:=mL hv;have hp:(fun i:Nat=> ((a.toList.map fun f=> (f.offset,((P.info? f.type).map (·.size)).getD 0)).toArray)[i]?)=fun i=> ((a.toList.map fun f=> (f.type,f.offset,((P.info? f.type).map (·.size)).getD 0))[i]?).map (·.2):=by
    funext i
    simp only[List.getElem?_toArray,List.getElem?_map,Option.map_map];rfl
   have qL:Instr.fill (fun i:Nat=> ((a.toList.map fun f=> (f.offset,((P.info? f.type).map (·.size)).getD 0)).toArray)[i]?) r.zero.cells parts=some ⟨l⟩:=by rw[hp];exact hf
   simp only[qL];exact h
  ·rename_i m e yB
   refine aA (underlying t) _ (cA (WO ((E.ok _ _ ht).ds.trans yB)) ?_);split at hv
   ·rename_i re FC
    refine aA (sizeOf e) _ (CA (E.ok _ _ FC).size ?_);have hf:=mL hv;have qL:Instr.fill (fun i:Nat=> some (i*re.size,re.size)) r.zero.cells parts=some ⟨l⟩:=hf;simp only[qL];exact h
   ·cases hv
  ·cases hv
theorem mA.build {t:TypeId}{ps:Array (Nat×Operand)}{parts:List (Nat×Value)}{l:List Value}(gA:o.op=.build t ps)(TW:uN R ps.toList=some parts)(hv:TO E t parts=some l):mA P n H₀ R L o (.agg ⟨l⟩):=
 (fun H tmps _ hr=> by
  unfold execOp;rw[gA];have e:(ps.map fun x=> (x.1,vB tmps x.2))=parts.toArray:=by
   apply Array.ext'
   simpa using hr.uN TW
  have e':(ps.map fun(i,x)=> (i,vB tmps x))=parts.toArray:=e;simp only[e'];exact aA _ _ (JW hv ⟨rfl,rfl⟩))
theorem Or.newObj {ob:Obj}{val:Nat->Value}(hd:o.dst=some d)(hn:d<n)
  (h:∀H tmps,eA H₀ L H->LA n R tmps->∀Q:Next->View->Prop,(∀blk,H blk=none->Q (.value (val blk)) (H.put blk (true,ob)))->vA P (execOp (vB tmps) o) H Q)
  (hk:∀blk,K ((d,val blk)::R) ((blk,true,ob)::L)):Or M n H₀ R L o K:=
 .val hd hn fun H tmps hs hr=> h H tmps hs hr _ fun blk hb=> ⟨_,rfl,_,hs.cons _ hb,hk blk⟩
def RB(z:List Value)(m:Nat):List Value:=(List.range m).map fun i=> z[i%z.length]!
theorem XK(z:List Value)(m:Nat):(RB z m).length=m:=by simp[RB]
theorem MH(z:Array Value)(m:Nat):(Array.range m).map (fun i=> z[i%z.size]!)=⟨RB z.toList m⟩:=by
 apply Array.ext'
 simp only[RB,Array.toList_map,Array.toList_range,Array.length_toList];refine List.map_congr_left fun i _=> ?_;rw[getElem!_def,getElem!_def];simp
theorem oS(v:Value)(m:Nat):RB [v] m=List.replicate m v:=by
 unfold RB;apply List.ext_getElem
 ·simp
 ·intro i h1 h2;simp[Nat.mod_one]
theorem Or.buildSlice {t e:TypeId}{len:Nat}{ps:Array (Nat×Operand)}{parts:List (Nat×Value)}{r re:uA}{l:List Value}(gA:o.op=.buildSlice t len ps)(TW:uN R ps.toList=some parts)(ht:E.ty t=some r)(yB:r.ds=.slice e)(FC:E.ty e=some re)
  (HD:Nat.ble (len*re.size) 16777216=true) (hv:CK (fun i=> some (i*re.size,re.size)) (RB re.zero.cells.toList (len*re.size)) parts=some l)
  (hd:o.dst=some d) (hn:d<n) (hk:∀blk,K ((d,.slice (some ⟨blk,0,none⟩) len len)::R) ((blk,true,.cells ⟨l⟩ e (0,0))::L)):Or M n H₀ R L o K:=
 .newObj (val:=fun blk=> .slice (some ⟨blk,0,none⟩) len len) hd hn (fun H tmps _ hr Q hQ=> by
  unfold execOp;rw[gA];have e':(ps.map fun(i,x)=> (i,vB tmps x))=parts.toArray:=by
   apply Array.ext'
   simpa using hr.uN TW
  simp only[e'];refine aA (Instr.buildSlice t len parts.toArray) _ ?_;refine aA (underlying t) _ (cA (dC ((E.ok _ _ ht).ds.trans yB)) ?_);refine aA (sizeOf e) _ (CA (E.ok _ _ FC).size ?_);have hle:len*re.size<=16777216:=Nat.le_of_ble_eq_true HD;rw[if_neg oM];have fin:∀z:Array Value,((Array.range (len*re.size)).map fun i=> z[i%z.size]!)=⟨RB re.zero.cells.toList (len*re.size)⟩-> 
    vA P (match Instr.fill (fun i=> some (i*re.size,re.size)) ((Array.range (len*re.size)).map fun i=> z[i%z.size]!) parts with
     | some cells=> (newRow e cells).bind fun a=> .pure (.slice (some a) len len)
     | x=> stuck "buildSlice: a part of the wrong size") H (fun a H'=> vA P (Sem.pure (Next.value a)) H' Q):=by
   intro z hz;rw[hz,mL hv];exact fun blk hb=> hQ blk hb
  by_cases h0:len*re.size=0
  ·simp only[h0,if_true];rw[h0] at fin;exact fin #[] (by simp[RB])
  ·simp only[h0,if_false];exact aA (zeroValue e) _ (sB (E.ok _ _ FC).zero (fin re.zero.cells (MH _ _)))) hk
theorem Or.makeSlice {t e:TypeId}{x y:Operand}{len cap:Nat}{r re:uA}(gA:o.op=.makeSlice t x y)(hx:BA R x=some (.int .i64 len))(hy:BA R y=some (.int .i64 cap))(ht:E.ty t=some r)(yB:r.ds=.slice e)(FC:E.ty e=some re)
  (h1:len<=cap) (h2:cap<=1000000000) (h3:Nat.ble re.bytes 1000=true) (hd:o.dst=some d) (hn:d<n)
  (hk:∀blk,K ((d,.slice (some ⟨blk,0,none⟩) len cap)::R) ((blk,true,.cells ⟨RB re.zero.cells.toList (cap*re.size)⟩ e (0,0))::L)):Or M n H₀ R L o K:=
 .newObj (val:=fun blk=> .slice (some ⟨blk,0,none⟩) len cap) hd hn (fun H tmps _ hr Q hQ=> by
  unfold execOp;rw[gA];simp only[hr.ev hx,hr.ev hy];refine aA (Instr.makeSlice t _ _) _ ?_;refine aA (underlying t) _ (cA (dC ((E.ok _ _ ht).ds.trans yB)) ?_);show vA P ((typeInfo e).bind fun i=> _) H _;have hb:=(E.ok _ _ FC).bytes;cases hi:P.info? e with
  | none=> rw[hi] at hb;cases hb
  | some i=>
   rw[hi] at hb;simp only[Option.map_some,Option.some.injEq] at hb;refine aA (typeInfo e) _ (GB hi ?_);have hw:∀k:Nat,k<=1000000000->IntKind.i64.wrap (k:Int)=k:=fun k hk=> wrap64 oM oM;have h3':re.bytes<=1000:=Nat.le_of_ble_eq_true h3;have hmul:i.bytes*cap<=1000*1000000000:=Nat.mul_le_mul oM h2;have aDv:(i.bytes:Int)*(cap:Int)<=1000*1000000000:=by rw[<-Int.natCast_mul];omega
   simp only[hw len oM,hw cap h2];rw[if_neg]
   ·show vA P ((askRoom ((cap:Int).toNat*i.bytes)).bind fun _=> _) H _;refine aA _ _ ?_;unfold askRoom roomBytes;rw[if_neg (by simp only[Int.toNat_natCast];rw[Nat.mul_comm];omega)];show vA P ((sizeOf e).bind fun s=> _) H _;refine aA (sizeOf e) _ (CA (E.ok _ _ FC).size ?_);simp only[Int.toNat_natCast];have fin:∀z:Array Value,((Array.range (cap*re.size)).map fun i=> z[i%z.size]!)=⟨RB re.zero.cells.toList (cap*re.size)⟩-> 
      vA P ((newRow e ((Array.range (cap*re.size)).map fun i=> z[i%z.size]!)).bind fun a=> .pure (.slice (some a) len cap)) H (fun a H'=> vA P (Sem.pure (Next.value a)) H' Q):=by
     intro z hz;rw[hz];exact fun blk hb=> hQ blk hb
    by_cases h0:cap*re.size=0
    ·simp only[h0,if_true];rw[h0] at fin;exact fin #[] (by simp[RB])
    ·simp only[h0,if_false];exact aA (zeroValue e) _ (sB (E.ok _ _ FC).zero (fin re.zero.cells (MH _ _)))
   ·simp only[Bool.or_eq_true,decide_eq_true_eq];omega) hk
end
section
variable {P:Program}{E:Env P}{M:Md P}{n:Nat}{H₀:View}{R:Rg}{L L':Bl}{K:Rg->Bl->Prop}{o:Oper}{d:Nat}{v:Value}
theorem mA.P5 {t u:TypeId}{x:Operand}{ik jk:IntKind}{p z:Int}{r r':uA}(gA:o.op=.convert t u x)(hx:BA R x=some (.int ik p))(ht:E.ty t=some r)(hr:r.ds=.int ik)(LZ:E.ty u=some r')(rF:r'.ds=.int jk)(hz:jk.wrap p=z):mA P n H₀ R L o (.int jk z):=
 .conv gA hx (bK ((E.ok _ _ ht).ds.trans hr)) (bK ((E.ok _ _ LZ).ds.trans rF)) hz
theorem mS {t:TypeId}{r:uA}{c:List Value}{off:Nat}{H:View}{Q:Value->View->Prop}(ht:E.ty t=some r)(hv:YB r.agg r.size c off=some v)(h:Q v H):vA P (part t ⟨c⟩ off) H Q:=by
 unfold part;refine aA (isAgg t) _ (rK (E.ok _ _ ht).agg ?_);unfold YB at hv;cases hg:r.agg with
 | true=>
  rw[hg] at hv;simp only at hv;split at hv
  ·cases hv
   refine aA (sizeOf t) _ (CA (E.ok _ _ ht).size ?_);have e:(⟨c⟩:Array Value).extract off (off+r.size)=⟨(c.drop off).take r.size⟩:=by
    apply Array.ext'
    simp[List.extract_eq_take_drop]
   show Q (.agg ((⟨c⟩:Array Value).extract off (off+r.size))) H;rw[e];exact h
  ·cases hv
 | false=>
  rw[hg] at hv;simp only at hv;have:(⟨c⟩:Array Value)[off]? =some v:=by simpa using hv
  simp only[Bool.false_eq_true,if_false,this];exact h
theorem mA.field {t ft:TypeId}{x:Operand}{fi off sz:Nat}{r rf:uA}{c:List Value}{fs:List (TypeId×Nat×Nat)}(gA:o.op=.field t x fi)(hx:BA R x=some (.agg ⟨c⟩))(ht:E.ty t=some r)(yB:r.ds=.struct fs)(hf:fs[fi]? =some (ft,off,sz))
  (htf:E.ty ft=some rf) (hv:YB rf.agg rf.size c off=some v):mA P n H₀ R L o v:=
 (fun H tmps _ hr=> by
  unfold execOp;rw[gA];simp only[hr.ev hx];refine aA (Instr.field t _ fi) _ ?_;obtain⟨a,hu,PA,_,rfl⟩:=PH ((E.ok _ _ ht).ds.trans yB);refine aA (underlying t) _ (cA hu ?_);simp only[List.getElem?_map,Option.map_eq_some_iff] at hf;obtain⟨fl,h1,h2⟩:=hf;simp only[Array.getElem?_toList] at h1;simp only[Prod.mk.injEq] at h2;obtain⟨h3,h4,_⟩:=h2;simp only[h1];show vA P ((asAgg (.agg ⟨c⟩)).bind fun a=> part fl.type a fl.offset) H _;show vA P (part fl.type ⟨c⟩ fl.offset) H _;rw[h3,h4];exact mS htf hv ⟨rfl,rfl⟩)
def bound(R:Rg)(x:Option Operand)(dflt:Nat):Option Int:=
 match x with
 | none=> some dflt
 | some y=>
  match BA R y with
  | some (.int _ i)=> some i
  | _=> none
theorem eF {k:IntKind}{i:Int}{y:Nat}{code:BoundsCode}{H:View}{Q:Nat->View->Prop}(h0:0<=i)(h1:i<=y)(h:Q i.toNat H):vA P (Instr.sliceBound (.int k i) y code) H Q:=by
 show vA P (if 0<=i/\i<=y then _ else _) H Q;rw[if_pos ⟨h0,h1⟩];exact h
theorem BE {tmps:Array Value}{isS:Bool}{len cap:Nat}{lo hi:Option Operand}{l h:Int}{H:View}{Q:Nat×Nat×Nat->View->Prop}(hr:LA n R tmps)(TU:bound R lo 0=some l)(XS:bound R hi len=some h)
  (h0:0<=l) (h1:l<=h) (h2:h<=cap) (hq:Q (l.toNat,h.toNat,cap) H):vA P (Instr.sliceBounds isS len cap (lo.map (vB tmps)) (hi.map (vB tmps)) none) H Q:=by
 have aCX:∀(lv:Option Value),lv=lo.map (vB tmps)->∀(K:Nat->Sem (Nat×Nat×Nat)) (code:BoundsCode),vA P (K l.toNat) H Q->vA P (match lv with|some v=> (Instr.sliceBound v h.toNat code).bind K|none=> K 0) H Q:=by
  intro lv X2 K code hK;cases lo with
  | none=>
   simp only[bound,Option.some.injEq] at TU;subst TU;subst X2;exact hK
  | some x=>
   simp only[bound] at TU;split at TU
   ·rename_i k i he
    cases TU
    simp only[Option.map_some,hr.ev he] at X2;subst X2;exact aA _ _ (eF h0 oM hK)
   ·cases TU
 have rest:vA P (match lo.map (vB tmps) with|some v=> (Instr.sliceBound v h.toNat .sliceB).bind fun ll=> Sem.pure (ll,h.toNat,cap)|none=> Sem.pure (0,h.toNat,cap)) H Q:=
  aCX _ rfl (fun ll=> Sem.pure (ll,h.toNat,cap)) .sliceB hq
 cases hi with
 | none=>
  simp only[bound,Option.some.injEq] at XS;have e:h.toNat=len:=by omega
  rw[e] at rest;cases X2:lo.map (vB tmps) with
  | none=> rw[X2] at rest;exact rest
  | some v=> rw[X2] at rest;exact rest
 | some x=>
  simp only[bound] at XS;split at XS
  ·rename_i k i he
   cases XS
   simp only[Option.map_some,hr.ev he];cases X2:lo.map (vB tmps) with
   | none=>
    rw[X2] at rest;exact aA (Instr.sliceBound _ cap _) _ (eF oM h2 rest)
   | some v=>
    rw[X2] at rest;exact aA (Instr.sliceBound _ cap _) _ (eF oM h2 rest)
  ·cases XS
theorem mA.slice {t e:TypeId}{x:Operand}{lo hi:Option Operand}{l h:Int}{len cap off off' sz:Nat}{blk:Nat}{r re:uA}(gA:o.op=.slice t x lo hi none)(hx:BA R x=some (.slice (some ⟨blk,off,none⟩) len cap))(ht:E.ty t=some r)(yB:r.ds=.slice e)
  (FC:E.ty e=some re) (HD:re.size=sz) (TU:bound R lo 0=some l) (XS:bound R hi len=some h) (h0:0<=l) (h1:l<=h) (h2:h<=cap) (gI:if(cap:Int)=l then off'=off else off'=off+l.toNat*sz):
  mA P n H₀ R L o (.slice (some ⟨blk,off',none⟩) (h.toNat-l.toNat) (cap-l.toNat)):=
 (fun H tmps _ hr=> by
  unfold execOp;rw[gA];simp only[hr.ev hx];refine aA (Instr.sliceAt t _ _ _ _) _ ?_;refine aA (underlying t) _ (cA (dC ((E.ok _ _ ht).ds.trans yB)) ?_);refine aA (underlying t) _ (cA (dC ((E.ok _ _ ht).ds.trans yB)) ?_);show vA P ((Instr.sliceBounds true len cap (lo.map (vB tmps)) (hi.map (vB tmps)) none).bind fun b=> _) H _;refine aA _ _ (BE hr TU XS h0 h1 h2 ?_);refine aA (sizeOf e) _ (CA (E.ok _ _ FC).size ?_);show Next.value (.slice (if cap=l.toNat then some ⟨blk,off,none⟩ else(some ⟨blk,off,none⟩:Option Addr).map (·.add (l.toNat*re.size))) _ _)=_/\_;refine⟨?_,rfl⟩;by_cases hc:cap=l.toNat
  ·rw[if_pos hc];rw[if_pos oM] at gI;rw[gI]
  ·rw[if_neg hc];rw[if_neg oM] at gI;simp only[Option.map_some,CD ⟨blk,off,none⟩ _ rfl,HD,gI])
theorem mA.YI {t e:TypeId}{x:Operand}{lo hi:Option Operand}{l h:Int}{m off off' sz:Nat}{blk:Nat}{ra re:uA}(gA:o.op=.slice t x lo hi none)(hx:BA R x=some (.pointer (some ⟨blk,off,none⟩)))(hta:E.ty t=some ra)(yB:ra.ds=.arr m e)
  (FC:E.ty e=some re) (HD:re.size=sz) (TU:bound R lo 0=some l) (XS:bound R hi m=some h) (h0:0<=l) (h1:l<=h) (h2:h<=m) (gI:if(m:Int)=l then off'=off else off'=off+l.toNat*sz):
  mA P n H₀ R L o (.slice (some ⟨blk,off',none⟩) (h.toNat-l.toNat) (m-l.toNat)):=
 (fun H tmps _ hr=> by
  unfold execOp;rw[gA];simp only[hr.ev hx];refine aA (Instr.sliceAt t _ _ _ _) _ ?_;refine aA (underlying t) _ (cA (WO ((E.ok _ _ hta).ds.trans yB)) ?_);show vA P ((Instr.sliceBounds false m m (lo.map (vB tmps)) (hi.map (vB tmps)) none).bind fun b=> _) H _;refine aA _ _ (BE hr TU XS h0 h1 h2 ?_);refine aA (sizeOf e) _ (CA (E.ok _ _ FC).size ?_);show Next.value (.slice (some (if m=l.toNat then⟨blk,off,none⟩ else Addr.add ⟨blk,off,none⟩ (l.toNat*re.size))) _ _)=_/\_;refine⟨?_,rfl⟩;by_cases hc:m=l.toNat
  ·rw[if_pos hc];rw[if_pos oM] at gI;rw[gI]
  ·rw[if_neg hc];rw[if_neg oM] at gI;rw[CD _ _ rfl,HD,gI])
def gB(H:View)(sz:Nat)(y:Value)(m:Nat)(l:List Value):Prop:=
 (∃a c,y=.slice a m c)/\l.length=m*sz/\
 ((∃a c,y=.slice a m c/\l= [])\/ 
  ∃b off c f cs e fz,y=.slice (some ⟨b,off,none⟩) m c/\H b=some (f,.cells ⟨cs⟩ e fz)/\off+l.length<=cs.length/\(cs.drop off).take l.length=l)
theorem iC {H:View}{sz m:Nat}{y:Value}{l:List Value}{Q:Array Value->View->Prop}(h:gB H sz y m l)(hq:Q ⟨l⟩ H):vA P (Builtin.firstCells sz m y) H Q:=by
 obtain⟨_,hl,⟨a,c,rfl,rfl⟩|⟨b,off,c,f,cs,e,fz,rfl,hb,hle,ht⟩⟩:=h
 ·cases a with
  | none=> exact hq
  | some a=>
   show vA P (loadCellsFrom a 0 (m*sz) #[]) H Q;rw[<-hl];exact hq
 ·show vA P (loadCellsFrom ⟨b,off,none⟩ 0 (m*sz) #[]) H Q;rw[<-hl];refine fE b off hb l.length 0 #[] (by simpa using hle) ?_;simp only[Nat.add_zero,ht];simpa using hq
theorem gB.lenOf {H:View}{sz m:Nat}{y:Value}{l:List Value}{Q:Nat->View->Prop}(h:gB H sz y m l)(hq:Q m H):vA P (Builtin.lenOf y) H Q:=by
 obtain⟨⟨a,c,rfl⟩,_⟩:=h;exact hq
theorem gB.mono {H H':View}{sz m:Nat}{y:Value}{l:List Value}(h:gB H sz y m l)(k:H.le H'):gB H' sz y m l:=by
 obtain⟨h1,h2,h3|⟨b,off,c,f,cs,e,fz,h3,hb,h4,h5⟩⟩:=h
 ·exact⟨h1,h2,.inl h3⟩
 ·exact⟨h1,h2,.inr ⟨b,off,c,f,cs,e,fz,h3,k _ _ hb,h4,h5⟩⟩
theorem gB.of {H:View}{sz m c b off:Nat}{f:Bool}{cs:List Value}{e:TypeId}{fz:Nat×Nat}(hb:H b=some (f,.cells ⟨cs⟩ e fz))(hle:off+m*sz<=cs.length):gB H sz (.slice (some ⟨b,off,none⟩) m c) m ((cs.drop off).take (m*sz)):=by
 have hl:((cs.drop off).take (m*sz)).length=m*sz:=by
  rw[List.length_take,List.length_drop];omega
 exact⟨⟨_,_,rfl⟩,hl,.inr ⟨b,off,c,f,cs,e,fz,rfl,hb,by rw[hl];exact hle,by rw[hl]⟩⟩
structure Gl(e:TypeId)(sz:Nat) where
 blk:Option Nat
 n:Nat
 cap:Nat
 l:List Value
 vE:List Value
 hl:l.length=n*sz
 hc:n<=cap
 hj:vE.length=(cap-n)*sz
 h0:blk=none->cap=0
def Gl.val {e:TypeId}{sz:Nat}(g:Gl e sz):Value:=.slice (g.blk.map fun b=> ⟨b,0,none⟩) g.n g.cap
def Gl.bl {e:TypeId}{sz:Nat}(g:Gl e sz):Bl:=
 match g.blk with
 | none=> []
 | some b=> [(b,true,.cells ⟨g.l++g.vE⟩ e (0,0))]
def Gl.nil(e:TypeId)(sz:Nat):Gl e sz:=⟨none,0,0,[],[],by simp,by simp,by simp,fun _=> rfl⟩
def Gl.emp(e:TypeId)(sz:Nat)(b:Nat):Gl e sz:=⟨some b,0,0,[],[],by simp,by simp,by simp,fun h=> by cases h⟩
theorem Gl.src {e:TypeId}{sz:Nat}(g:Gl e sz){H:View}(h:∀x∈g.bl,H x.1=some x.2):gB H sz g.val g.n g.l:=by
 refine⟨⟨_,g.cap,rfl⟩,g.hl,?_⟩;unfold Gl.bl at h;cases hb:g.blk with
 | none=>
  have h1:=g.h0 hb;have h2:=g.hc;have h3:g.l.length=0:=by rw[g.hl,show g.n=0 by omega];simp
  exact .inl ⟨none,g.cap,by simp[Gl.val,hb],List.eq_nil_of_length_eq_zero h3⟩
 | some b=>
  rw[hb] at h;exact .inr ⟨b,0,g.cap,true,g.l++g.vE,e,(0,0),by simp[Gl.val,hb],h (b,true,.cells ⟨g.l++g.vE⟩ e (0,0)) (by simp),by simp,by simp⟩
theorem TJ(z:Array Value)(m:Nat):Builtin.zeroCells z m=⟨RB z.toList (m*z.size)⟩:=by
 unfold Builtin.zeroCells;exact MH z (m*z.size)
theorem iS {t xt e:TypeId}{rt:TypeId}{r re:uA}{sz m:Nat}{y:Value}{new:List Value}{g:Gl e sz}{H:View}{Q:Value->View->Prop}(ht:E.ty t=some r)(yB:r.ds=.slice e)(FC:E.ty e=some re)(HD:re.size=sz)(jY:re.zero.cells.toList.length=sz)
  (aW:∃rx ex,E.ty xt=some rx/\rx.ds=.slice ex) (E2:re.bytes<=1000) (hn:g.n+m<=1000000000) (hb:∀x∈g.bl,H x.1=some x.2) (hy:gB H sz y m new) (hs:new.all single=true)
  (hq:∀(g':Gl e sz) (H':View),g'.n=g.n+m->g'.l=g.l++new->(∀b,g'.blk=some b->((g.blk=some b/\g'.cap=g.cap)\/H b=none))->(∀c,(∀b,g'.blk=some b->b≠c)->H' c=H c)->(∀x∈g'.bl,H' x.1=some x.2)->Q g'.val H'):
  vA P (Builtin.append_ #[t,xt] rt #[g.val,y]) H Q:=by
 obtain⟨rx,ex,hx1,hx2⟩:=aW;have hold:=g.src hb;obtain⟨a,rP⟩:∃a,g.val=.slice a g.n g.cap:=⟨_,rfl⟩
 show vA P ((underlying t).bind fun _=> _) H Q;refine aA (underlying t) _ (cA (dC ((E.ok _ _ ht).ds.trans yB)) ?_);rw[rP];show vA P ((sizeOf e).bind fun _=> _) H Q;refine aA (sizeOf e) _ (CA (E.ok _ _ FC).size ?_);refine aA (underlying xt) _ (cA (dC ((E.ok _ _ hx1).ds.trans hx2)) ?_);refine aA (Builtin.lenOf y) _ (hy.lenOf ?_);simp only[HD];by_cases RD:g.n+m<=g.cap
 ·rw[if_pos RD];show vA P ((Builtin.firstCells sz m y).bind fun _=> _) H Q;refine aA _ _ (iC hy ?_);cases UG:g.blk with
  | none=>
   have h1:=g.h0 UG;have e1:a=none:=by
    unfold Gl.val at rP;rw[UG] at rP
    injection rP with e1
    exact e1.symm
   subst e1;have hm:m=0:=by omega
   have dT:new= []:=List.eq_nil_of_length_eq_zero (by rw[hy.2.1,hm];simp);have:=hq g H oM (by rw[dT];simp) (fun b hb=> .inl ⟨hb,rfl⟩) (fun c _=> rfl) hb;rw[rP] at this;show Q (.slice none (g.n+m) g.cap) H;rw[hm];exact this
  | some b=>
   have e1:a=some ⟨b,0,none⟩:=by
    unfold Gl.val at rP;rw[UG] at rP;cases rP
    rfl
   subst e1;have hHb:H b=some (true,.cells ⟨g.l++g.vE⟩ e (0,0)):=by
    have:=hb (b,true,.cells ⟨g.l++g.vE⟩ e (0,0)) (by unfold Gl.bl;rw[UG];simp);exact this
   show vA P ((storeCells (Addr.add ⟨b,0,none⟩ (g.n*sz)) new).bind fun _=> Sem.pure (.slice (some ⟨b,0,none⟩) (g.n+m) g.cap)) H Q;refine aA _ _ ?_;rw[CD _ _ rfl];have hlen:new.length=m*sz:=hy.2.1;have hjl:m*sz<=g.vE.length:=by rw[g.hj];exact Nat.mul_le_mul_right _ oM
   refine jC b _ new 0 (g.l++g.vE) hHb (by simp only[List.length_append,g.hl];omega) hs fun H' lQ=> ?_;have bB:zE (g.l++g.vE) (0+g.n*sz+0) new=(g.l++new)++g.vE.drop new.length:=by
    unfold zE;simp only[Nat.zero_add,Nat.add_zero,<-g.hl,List.take_left',List.drop_append];simp
   let g':Gl e sz:=⟨some b,g.n+m,g.cap,g.l++new,g.vE.drop new.length,by simp[g.hl,hlen,Nat.add_mul],RD,by rw[List.length_drop,g.hj,hlen,<-Nat.sub_mul];congr 1;omega,fun h=> by cases h⟩
   have key:∀x∈g'.bl,H' x.1=some x.2:=by
    intro x hx;simp only[g',Gl.bl,List.mem_singleton] at hx;subst hx;show H' b=some (true,.cells ⟨(g.l++new)++g.vE.drop new.length⟩ e (0,0));rw[lQ];split
    ·rename_i uP
     subst uP;simpa using hHb
    ·rw[View.pA,bB]
   exact hq g' H' rfl rfl (fun b' dP=> .inl ⟨by cases dP;exact UG,rfl⟩) (fun c hc=> by
    rw[lQ];split
    ·rfl
    ·rw[View.jA];intro e;exact hc b rfl e.symm) key
 ·rw[if_neg RD];have tG:=(E.ok _ _ FC).bytes;cases hi:P.info? e with
  | none=> rw[hi] at tG;cases tG
  | some i=>
   rw[hi] at tG;simp only[Option.map_some,Option.some.injEq] at tG;have YS:i.bytes<=1000:=by omega
   have VX:IntKind.i64.max=9223372036854775807:=by decide
   show vA P ((typeInfo e).bind fun _=> _) H Q;refine aA (typeInfo e) _ (GB hi ?_);rw[if_neg (by rw[VX];omega)];show vA P ((typeInfo e).bind fun _=> _) H Q;refine aA (typeInfo e) _ (GB hi ?_);rw[if_neg]
   ·show vA P ((choose _).bind fun newCap=> _) H Q;refine aA (choose _) _ ?_;intro tt;rw[if_neg (by simp[Question.forced])];generalize hnc:(Question.appendCap (g.n+m) g.cap e).cut tt=newCap;have PU:g.n+m<=newCap:=by rw[<-hnc];simp only[Question.cut];omega
    show vA P ((typeInfo e).bind fun _=> _) H Q;refine aA (typeInfo e) _ (GB hi ?_);show vA P ((askRoom (newCap*i.bytes)).bind fun _=> _) H Q;refine aA _ _ ?_;have YU:∀Q':Unit->View->Prop,Q' () H->vA P (askRoom (newCap*i.bytes)) H Q':=by
     intro Q' h;unfold askRoom;split
     ·exact⟨rfl,h⟩
     ·exact h
    refine YU _ ?_;show vA P ((Builtin.firstCells sz g.n (.slice a g.n g.cap)).bind fun _=> _) H Q;rw[<-rP];refine aA _ _ (iC hold ?_);show vA P ((Builtin.firstCells sz m y).bind fun _=> _) H Q;refine aA _ _ (iC hy ?_);show vA P ((zeroValue e).bind fun _=> _) H Q;refine aA (zeroValue e) _ (sB (E.ok _ _ FC).zero ?_);rw[TJ];intro blk VS;have hzz:re.zero.cells.size=sz:=by rw[<-Array.length_toList];exact jY
    let g':Gl e sz:=⟨some blk,g.n+m,newCap,g.l++new,RB re.zero.cells.toList ((newCap-(g.n+m))*re.zero.cells.size),by simp[g.hl,hy.2.1,Nat.add_mul],PU,by rw[XK,hzz],fun h=> by cases h⟩
    exact hq g' _ rfl rfl (fun b' dP=> .inr (by cases dP;exact VS)) (fun c hc=> by
     rw[View.jA];intro e;exact hc blk rfl e.symm) (fun x hx=> by
     simp only[g',Gl.bl,List.mem_singleton] at hx;subst hx;rw[View.pA];simp)
   ·have h3 : Builtin.nextslicecap (g.n+m) g.cap<=4*1000000000:=by
     unfold Builtin.nextslicecap;split
     ·omega
     ·split
      ·omega
      ·have gb:∀(rounds c:Nat),c<=2*(g.n+m)+1000->Builtin.growBy (g.n+m) rounds c<=2*(g.n+m)+1000:=by
        intro rounds;induction rounds with
        | zero=> exact fun c hc=> hc
        | succ rounds ih=>
         intro c hc;unfold Builtin.growBy;split
         ·exact hc
         ·exact ih _ oM
       have:=gb 4 g.cap oM;omega
    have h4:Builtin.nextslicecap (g.n+m) g.cap*i.bytes<=4*1000000000*1000:=Nat.mul_le_mul h3 YS;omega
theorem kU {t xt e:TypeId}{rt:TypeId}{r re:uA}{sz m:Nat}{y:Value}{new:List Value}{g:Gl e sz}{H:View}{Q:Value->View->Prop}(ht:E.ty t=some r)(yB:r.ds=.slice e)(FC:E.ty e=some re)(HD:re.size=sz)(jY:re.zero.cells.toList.length=sz)
  (aW:∃rx ex,E.ty xt=some rx/\rx.ds=.slice ex) (E2:re.bytes<=1000) (hn:g.n+m<=1000000000) (hb:∀x∈g.bl,H x.1=some x.2) (hy:gB H sz y m new) (hs:new.all single=true)
  (hq:∀(g':Gl e sz) (H':View),g'.n=g.n+m->g'.l=g.l++new->(∀b,g'.blk=some b->(g.blk=some b\/H b=none))->(∀c,(∀b,g'.blk=some b->b≠c)->H' c=H c)->(∀x∈g'.bl,H' x.1=some x.2)->Q g'.val H'):
  vA P (Builtin.append_ #[t,xt] rt #[g.val,y]) H Q:=
 iS ht yB FC HD jY aW E2 hn hb hy hs fun g' H' h1 h2 h3 h4 h5=> hq g' H' h1 h2 (fun b hb=> (h3 b hb).imp And.left id) h4 h5
theorem eA.grown {e:TypeId}{sz:Nat}{g g':Gl e sz}{A:Bl}{H H':View}(h:eA H₀ (A++g.bl) H)(h1:∀b,g'.blk=some b->(g.blk=some b\/H b=none))(h2:∀c,(∀b,g'.blk=some b->b≠c)->H' c=H c)(h3:∀x∈g'.bl,H' x.1=some x.2):
  eA H₀ (A++g'.bl) H':=by
 have aB:∀b,g'.blk=some b->(∀x∈A,b≠x.1)/\H₀ b=none:=by
  intro b hb;rcases h1 b hb with h4|h4
  ·have WC:(b,true,Obj.cells ⟨g.l++g.vE⟩ e (0,0))∈g.bl:=by unfold Gl.bl;rw[h4];simp
   refine⟨fun x hx e=> ?_,h.out _ (List.mem_append_right A WC)⟩;have SB:=h.nodup;rw[List.map_append,List.nodup_append] at SB;exact SB.2.2 _ (List.mem_map_of_mem hx) _ (List.mem_map_of_mem WC) e.symm
  ·refine⟨fun x hx e=> ?_,?_⟩
   ·have:=h.at_ x (by simp[hx]);rw[<-e,h4] at this;cases this
   ·cases h0:H₀ b with
    | none=> rfl
    | some y=>
     have:=h.base _ _ h0;rw[h4] at this;cases this
 refine⟨?_,fun x hx=> ?_,fun x hx=> ?_,fun c y hc=> ?_⟩
 ·have SB:=h.nodup;rw[List.map_append,List.nodup_append] at SB ⊢;refine⟨SB.1,?_,fun a ha b hb=> ?_⟩
  ·unfold Gl.bl;split <;> simp
  ·unfold Gl.bl at hb;split at hb
   ·simp at hb
   ·rename_i b' dP
    simp only[List.map_cons,List.map_nil,List.mem_singleton] at hb;subst hb;obtain⟨x,hx,rfl⟩:=List.mem_map.1 ha;exact((aB _ dP).1 x hx).symm
 ·rcases List.mem_append.1 hx with hx|hx
  ·exact h.out x (by simp[hx])
  ·unfold Gl.bl at hx;split at hx
   ·simp at hx
   ·rename_i b' dP
    simp only[List.mem_singleton] at hx;subst hx;exact(aB _ dP).2
 ·rcases List.mem_append.1 hx with XG|XG
  ·rw[h2 _ fun b hb=> (aB b hb).1 x XG];exact h.at_ x (by simp[XG])
  ·exact h3 x XG
 ·rw[h2 _ fun b hb e=> by rw[<-e,(aB b hb).2] at hc;cases hc];exact h.base _ _ hc
theorem Or.append(k:Nat){cl:Go.Call}{x y:Operand}{t xt e:TypeId}{sz m:Nat}{yv:Value}{new:List Value}{g:Gl e sz}{r re rx:uA}{ex:TypeId}(gA:o.op=.call cl)(HB:cl.callee=.builtin .append)(KI:cl.argTypes=#[t,xt])(wJ:cl.args=#[x,y])
  (hx:BA R x=some g.val) (hy:BA R y=some yv) (ht:E.ty t=some r) (yB:r.ds=.slice e) (FC:E.ty e=some re) (HD:re.size=sz) (jY:Nat.beq re.zero.cells.toList.length sz=true) (aW:E.ty xt=some rx) (hex:rx.ds=.slice ex) (E2:Nat.ble re.bytes 1000=true)
  (hL:L.drop k=g.bl) (vG:∀H,eA H₀ L H->gB H sz yv m new) (hs:new.all single=true) (hm:g.n+m<=1000000000) (hd:o.dst=some d) (hn:d<n)
  (hk:∀g':Gl e sz,g'.n=g.n+m->g'.l=g.l++new->K ((d,g'.val)::R) (L.take k++g'.bl)):Or M n H₀ R L o K:=
 .val hd hn fun H tmps bB hr=> by
  have hLe:L=L.take k++g.bl:=by rw[<-hL,List.take_append_drop]
  unfold execOp;rw[gA];simp only[resolve,HB,KI,wJ];have WV:Array.map (vB tmps) #[x,y]=#[g.val,yv]:=by simp[hr.ev hx,hr.ev hy]
  rw[WV];rw[hLe] at bB;refine aA (Builtin.append_ #[t,xt] o.type #[g.val,yv]) _ ?_;refine kU ht yB FC HD (Nat.eq_of_beq_eq_true jY) ⟨rx,ex,aW,hex⟩ (Nat.le_of_ble_eq_true E2) hm (fun z hz=> bB.at_ z (by simp[hz])) (vG H (by rw[hLe];exact bB)) hs fun g' H' h1 h2 h3 h4 h5=> ?_;exact⟨_,rfl,_,bB.grown h3 h4 h5,hk g' h1 h2⟩
end
def gG(agg:Bool)(l:List Value):Value:=
 match agg with
 | true=> .agg ⟨l⟩
 | false=> l.headD undef
def chunk(l:List Value)(off sz:Nat):List Value:=(l.drop off).take sz
def DI:Nat->List (TypeId×Nat×Nat)->Nat->Bool
 | a,[],m=> Nat.beq a m
 | a,(_,off,sz)::fs,m=>
  match Nat.beq a off with
  | true=> DI (a+sz) fs m
  | false=> false
theorem NN:∀ {fs:List (TypeId×Nat×Nat)} {a:Nat} {l l':List Value},DI a fs l.length=true->l'.length=l.length->l.take a=l'.take a->(∀f∈fs,chunk l f.2.1 f.2.2=chunk l' f.2.1 f.2.2)->l=l'
 | [],a,l,l',h,hl,h0,_=> by
  have:a=l.length:=Nat.eq_of_beq_eq_true h;subst this;rw[List.take_of_length_le (Nat.le_refl _),List.take_of_length_le oM] at h0;exact h0
 | (t,off,sz)::fs,a,l,l',h,hl,h0,PA=> by
  unfold DI at h;split at h
  ·rename_i hb
   have:a=off:=Nat.eq_of_beq_eq_true hb;subst this;refine NN h hl ?_ fun f hf=> PA f (by simp[hf]);have:=PA _ (by simp:(t,a,sz)∈(t,a,sz)::fs);simp only[chunk] at this;rw[List.take_add,List.take_add,h0,this]
  ·cases h
theorem UL:∀ {fs:List (TypeId×Nat×Nat)} {a m m':Nat},DI a fs m=true->DI a fs m'=true->m=m'
 | [],a,m,m',h,h'=> (Nat.eq_of_beq_eq_true h).symm.trans (Nat.eq_of_beq_eq_true h')
 | (t,off,sz)::fs,a,m,m',h,h'=> by
  unfold DI at h h';split at h
  ·rename_i hb
   rw[hb] at h';exact UL h h'
  ·cases h
theorem MN {sz:Nat}:∀ {m:Nat} {l l':List Value},l.length=m*sz->l'.length=m*sz->(∀i,i<m->chunk l (i*sz) sz=chunk l' (i*sz) sz)->l=l'
 | 0,l,l',h,h',_=> by
  have e1:l= []:=List.eq_nil_of_length_eq_zero (by simpa using h);have e2:l'= []:=List.eq_nil_of_length_eq_zero (by simpa using h');rw[e1,e2]
 | m+1,l,l',h,h',PA=> by
  have h0:=PA 0 oM;simp only[chunk,Nat.zero_mul,List.drop_zero] at h0;rw[<-List.take_append_drop sz l,<-List.take_append_drop sz l',h0]
  congr 1
  refine MN (m:=m) (sz:=sz) (by rw[List.length_drop,h,Nat.succ_mul];omega) (by rw[List.length_drop,h',Nat.succ_mul];omega) fun i hi=> ?_;have:=PA (i+1) oM;simp only[chunk,Nat.succ_mul] at this;simp only[chunk,List.drop_drop];rw[Nat.add_comm sz];exact this
section
variable {P:Program}
def flat(E:Env P):Nat->TypeId->List Value->Prop
 | 0,_,_=> False
 | d + 1,t,l=>
  match E.ty t with
  | none=> False
  | some r=>
   match r.ds with
   | .int k=> ∃i,l= [.int k i]
   | .bool=> ∃i,l= [.bool i]
   | .str=> ∃i,l= [.string i]
   | .struct fs=> DI 0 fs l.length=true/\∀f∈fs,flat E d f.1 (chunk l f.2.1 f.2.2)/\∃rf,E.ty f.1=some rf/\rf.size=f.2.2/\f.2.1+f.2.2<=l.length
   | .arr m e=> ∃re,E.ty e=some re/\l.length=m*re.size/\∀i,i<m->flat E d e (chunk l (i*re.size) re.size)
   | _=> False
theorem oI(i j:ByteArray):(i==j)=true<->i=j:=by
 cases i with|mk a=> cases j with|mk b=>
 show(ByteArray.beq _ _)=true<->_;simp[ByteArray.beq]
def tU:TyD->Option Bool
 | .struct _ | .arr _ _=> some true
 | .other=> none
 | _=> some false
theorem LS {t:TypeId}{g b:Bool}{dd:TyD}(h:BH P t=dd)(hg:QG P t=some g)(hb:tU dd=some b):g=b:=by
 subst h;unfold BH at hb;unfold QG at hg;split at hb <;> rename_i hu
 ·rw[hu] at hg;cases hg;cases hb;rfl
 ·rw[hu] at hg;cases hg;cases hb;rfl
 ·rw[hu] at hg;cases hg;cases hb;rfl
 ·rw[hu] at hg;split at hb
  ·cases hg;cases hb;rfl
  ·cases hb
 ·rw[hu] at hg;cases hg;cases hb;rfl
 ·rw[hu] at hg;cases hg;cases hb;rfl
 ·rw[hu] at hg;cases hg;cases hb;rfl
 ·cases hb
theorem lL {t:TypeId}(h:BH P t=.bool):P.underlying t=some .bool:=by
 unfold BH at h;split at h <;> try cases h
 ·assumption
 ·rename_i a hu;split at h <;> cases h
theorem rG {t:TypeId}(h:BH P t=.str):P.underlying t=some .string:=by
 unfold BH at h;split at h <;> try cases h
 ·assumption
 ·rename_i a hu;split at h <;> cases h
variable {E:Env P}
theorem vC {t:TypeId}{r:uA}{l:List Value}{off:Nat}{H:View}{Q:Value->View->Prop}(ht:E.ty t=some r)(hle:off+r.size<=l.length)(h1:r.agg=false->r.size=1)(h:Q (gG r.agg (chunk l off r.size)) H):vA P (part t ⟨l⟩ off) H Q:=by
 refine mS ht (v:=gG r.agg (chunk l off r.size)) ?_ h;unfold YB gG chunk;cases hg:r.agg with
 | true=>
  simp only[Nat.ble_eq_true_of_le hle]
 | false=>
  have h2:=h1 hg;simp only[h2];have iB:off<l.length:=by omega
  rw[List.getElem?_eq_getElem iB,List.drop_eq_getElem_cons iB];rfl
theorem SF {d:Nat}{t:TypeId}{r:uA}{l:List Value}(hf:flat E d t l)(ht:E.ty t=some r)(hg:r.agg=false):l.length=1:=by
 cases d with
 | zero=> exact hf.elim
 | succ d=>
  unfold flat at hf;rw[ht] at hf;simp only at hf;have ha:∀b,tU r.ds=some b->false=b:=fun b hb=> hg▸LS (E.ok _ _ ht).ds (E.ok _ _ ht).agg hb;split at hf <;> rename_i yB
  ·obtain⟨i,rfl⟩:=hf;rfl
  ·obtain⟨i,rfl⟩:=hf;rfl
  ·obtain⟨i,rfl⟩:=hf;rfl
  ·rw[yB] at ha;cases ha true rfl
  ·rw[yB] at ha;cases ha true rfl
  ·exact hf.elim
theorem aJ {α:Type}{p:α->Prop}{f:α->Option Bool×Unit->Sem (ForInStep (Option Bool×Unit))}{H:View}{Q:Option Bool×Unit->View->Prop}:∀ {xs:List α},
  (∀x∈xs,∀Q':ForInStep (Option Bool×Unit)->View->Prop,(∀b,(b=true<->p x)->Q' (if(!b)=true then .done (some false,()) else .yield (none,())) H)->vA P (f x (none,())) H Q')-> 
  (∀r,(r=(none,())/\(∀x∈xs,p x))\/(r=(some false,())/\¬∀x∈xs,p x)->Q r H)->vA P (forIn xs (none,()) f) H Q
 | [],_,hq=> hq _ (.inl ⟨rfl,by simp⟩)
 | x ::xs,hf,hq=> by
  rw[List.forIn_cons];refine aA (f x (none,())) _ (hf x (by simp) _ fun b hb=> ?_);cases b with
  | false=> exact hq _ (.inr ⟨rfl,fun h=> by have:=hb.2 (h x (by simp));cases this⟩)
  | true=>
   have hp:=hb.1 rfl;refine aJ (xs:=xs) (fun y hy=> hf y (by simp[hy])) fun r hr=> hq r ?_;rcases hr with ⟨h1,h2⟩|⟨h1,h2⟩
   ·exact .inl ⟨h1,fun y hy=> by
     rcases List.mem_cons.1 hy with rfl|hy
     ·exact hp
     ·exact h2 y hy⟩
   ·exact .inr ⟨h1,fun h=> h2 fun y hy=> h y (by simp[hy])⟩
theorem rE {H:View}:∀(d D:Nat),d<=D->∀ {t:TypeId} {r:uA} {l l':List Value} {Q:Bool->View->Prop},E.ty t=some r->flat E d t l->flat E d t l'->(∀b,(b=true<->l=l')->Q b H)->vA P (Op.equalIn D t (gG r.agg l) (gG r.agg l')) H Q
 | 0,_,_,_,_,_,_,_,_,hf,_,_=> hf.elim
 | d+1,0,h,_,_,_,_,_,_,_,_,_=> by omega
 | d + 1,D+1,hd,t,r,l,l',Q,ht,hf,qL,hq=> by
  have ha:∀b,tU r.ds=some b->r.agg=b:=fun b hb=> LS (E.ok _ _ ht).ds (E.ok _ _ ht).agg hb;unfold flat at hf qL;rw[ht] at hf qL;simp only at hf qL;cases yB:r.ds with
  | int k=>
   rw[yB] at hf qL ha;obtain⟨i,rfl⟩:=hf;obtain⟨j,rfl⟩:=qL;rw[ha _ rfl];refine aA (underlying t) _ (cA (bK ((E.ok _ _ ht).ds.trans yB)) ?_);show vA P (if k=k then _ else _) H Q;rw[if_pos rfl];exact hq _ (by simp)
  | bool=>
   rw[yB] at hf qL ha;obtain⟨i,rfl⟩:=hf;obtain⟨j,rfl⟩:=qL;rw[ha _ rfl];refine aA (underlying t) _ (cA (lL ((E.ok _ _ ht).ds.trans yB)) ?_);exact hq (i==j) (by simp)
  | str=>
   rw[yB] at hf qL ha;obtain⟨i,rfl⟩:=hf;obtain⟨j,rfl⟩:=qL;rw[ha _ rfl];refine aA (underlying t) _ (cA (rG ((E.ok _ _ ht).ds.trans yB)) ?_);exact hq (i==j) (by rw[oI];simp)
  | struct fs=>
   rw[yB] at hf qL ha;rw[ha _ rfl];obtain⟨hc,PA⟩:=hf;obtain⟨hc',FU⟩:=qL;obtain⟨a,hu,hn,bB,I2⟩:=PH ((E.ok _ _ ht).ds.trans yB);refine aA (underlying t) _ (cA hu ?_);show vA P ((program).bind fun p=> _) H Q;show vA P (if P.stoodInHeld t=true then _ else _) H Q;rw[if_neg (by simp[bB])];show vA P ((forIn a (none,()) fun(f:Field) (_:Option Bool×Unit)=> (if f.name≠ "_" then(part f.type ⟨l⟩ f.offset).bind fun x=> (part f.type ⟨l'⟩ f.offset).bind fun y=> (Op.equalIn D f.type x y).bind fun b=> if(!b)=true then Sem.pure (ForInStep.done (some false,())) else Sem.pure (ForInStep.yield (none,())) else Sem.pure (ForInStep.yield (none,())):Sem (ForInStep (Option Bool×Unit)))).bind _) H Q;rw[<-Array.forIn_toList];refine aA _ _ (aJ (p:=fun f:Field=> chunk l f.offset (((P.info? f.type).map (·.size)).getD 0)=chunk l' f.offset (((P.info? f.type).map (·.size)).getD 0)) (fun f hf Q' j6=> ?_) ?_)
   ·rw[if_pos (hn f hf).1];have WC:(f.type,f.offset,((P.info? f.type).map (·.size)).getD 0)∈fs:=by rw[I2];exact List.mem_map.2 ⟨f,hf,rfl⟩
    obtain⟨g1,rf,g2,g3,g4⟩:=PA _ WC;obtain⟨g1',_,_,_,g4'⟩:=FU _ WC;simp only at g1 g2 g3 g4 g1' g4';rw[<-g3] at g1 g4 g1' g4' j6;have zN:∀m:List Value,flat E d f.type (chunk m f.offset rf.size)->f.offset+rf.size<=m.length->rf.agg=false->rf.size=1:=by
     intro m hm hle hg;have:=SF hm g2 hg;simp only[chunk,List.length_take,List.length_drop] at this;omega
    refine aA _ _ (vC g2 g4 (zN l g1 g4) ?_);refine aA _ _ (vC g2 g4' (zN l' g1' g4') ?_);refine aA _ _ (rE d D oM g2 g1 g1' fun b hb=> ?_);have:=j6 b hb;cases b <;> exact this
   ·rintro r (⟨rfl,hr⟩|⟨rfl,hr⟩)
    ·refine hq true ⟨fun _=> ?_,fun _=> rfl⟩;refine NN hc (UL hc' hc) rfl fun f hf=> ?_
     ·rw[I2] at hf;obtain⟨g,hg,rfl⟩:=List.mem_map.1 hf;exact hr g hg
    ·refine hq false ⟨fun h=> (by cases h),fun h=> ?_⟩;exact absurd (fun f hf=> by rw[h]) hr
  | arr m e=>
   rw[yB] at hf qL ha;rw[ha _ rfl];obtain⟨re,FC,hlen,PA⟩:=hf;obtain⟨re',aBl,aBa,FU⟩:=qL;rw[FC] at aBl;cases aBl
   refine aA (underlying t) _ (cA (WO ((E.ok _ _ ht).ds.trans yB)) ?_);show vA P ((sizeOf e).bind fun _=> _) H Q;refine aA (sizeOf e) _ (CA (E.ok _ _ FC).size ?_);rw[Std.Legacy.Range.forIn_eq_forIn_range'];refine aA _ _ (aJ (p:=fun i:Nat=> chunk l (i*re.size) re.size=chunk l' (i*re.size) re.size) (fun i hi Q' j6=> ?_) ?_)
   ·have K2:i<m:=by
     simp only[Std.Legacy.Range.size,List.mem_range'_1] at hi;omega
    have hle:i*re.size+re.size<=l.length:=by
     rw[hlen,<-Nat.succ_mul];exact Nat.mul_le_mul_right _ K2
    have zN:∀k:List Value,flat E d e (chunk k (i*re.size) re.size)->i*re.size+re.size<=k.length->re.agg=false->re.size=1:=by
     intro k hk hle hg;have:=SF hk FC hg;simp only[chunk,List.length_take,List.length_drop] at this;omega
    refine aA _ _ (vC FC hle (zN l (PA i K2) hle) ?_);have UX:i*re.size+re.size<=l'.length:=by omega
    refine aA _ _ (vC FC UX (zN l' (FU i K2) UX) ?_);refine aA _ _ (rE d D oM FC (PA i K2) (FU i K2) fun b hb=> ?_);have:=j6 b hb;cases b <;> exact this
   ·rintro r (⟨rfl,hr⟩|⟨rfl,hr⟩)
    ·refine hq true ⟨fun _=> ?_,fun _=> rfl⟩;refine MN hlen aBa fun i hi=> hr i ?_;simp only[Std.Legacy.Range.size,List.mem_range'_1];omega
    ·refine hq false ⟨fun h=> (by cases h),fun h=> ?_⟩;exact absurd (fun f hf=> by rw[h]) hr
  | slice e=> rw[yB] at hf;exact hf.elim
  | map k e=> rw[yB] at hf;exact hf.elim
  | other=> rw[yB] at hf;exact hf.elim
end
section
variable {P:Program}{E:Env P}{M:Md P}{n:Nat}{H₀:View}{R:Rg}{L L':Bl}{K:Rg->Bl->Prop}{o:Oper}{d:Nat}{v:Value}
theorem mA.eqA(b:Bool)(dp:Nat){t u:TypeId}{x y:Operand}{r:uA}{l l':List Value}(gA:o.op=.binOp .eql t x y u)(hx:BA R x=some (.agg ⟨l⟩))(hy:BA R y=some (.agg ⟨l'⟩))(ht:E.ty t=some r)(G7:r.agg=true)(hg:P.eqGuardType P.depth t=false)
  (VQ:dp<=10000) (hf:flat E dp t l) (qL:flat E dp t l') (hb:b=true<->l=l'):mA P n H₀ R L o (.bool b):=
 (fun H tmps _ hr=> by
  unfold execOp;rw[gA];simp only[hr.ev hx,hr.ev hy];show vA P (((eqGuard .eql t x y _ _).bind fun _=> binOp .eql t _ _).bind _) H _;refine aA _ _ (aA _ _ ?_);show vA P (if(!P.eqGuardType P.depth t)=true then _ else _) H _;rw[hg];show vA P ((Op.equalIn 10000 t (.agg ⟨l⟩) (.agg ⟨l'⟩)).bind fun c=> Sem.pure (Value.bool c)) H _;refine aA _ _ ?_;have h1:=rE (H:=H) (Q:=fun c H'=> vA P (Sem.pure (Value.bool c)) H' fun a H'=> vA P (Sem.pure (Next.value a)) H' fun nx H'=> nx=.value (.bool b)/\H'=H) dp 10000 VQ ht hf qL fun c hc=> ?_
  ·rw[G7] at h1;exact h1
  ·have:c=b:=by
    cases c <;> cases b <;> simp_all
   subst this;exact⟨rfl,rfl⟩)
theorem mA.neA(b:Bool)(dp:Nat){t u:TypeId}{x y:Operand}{r:uA}{l l':List Value}(gA:o.op=.binOp .neq t x y u)(hx:BA R x=some (.agg ⟨l⟩))(hy:BA R y=some (.agg ⟨l'⟩))(ht:E.ty t=some r)(G7:r.agg=true)(hg:P.eqGuardType P.depth t=false)
  (VQ:dp<=10000) (hf:flat E dp t l) (qL:flat E dp t l') (hb:b=true<->l=l'):mA P n H₀ R L o (.bool (!b)):=
 (fun H tmps _ hr=> by
  unfold execOp;rw[gA];simp only[hr.ev hx,hr.ev hy];show vA P (((eqGuard .neq t x y _ _).bind fun _=> binOp .neq t _ _).bind _) H _;refine aA _ _ (aA _ _ ?_);show vA P (if(!P.eqGuardType P.depth t)=true then _ else _) H _;rw[hg];show vA P ((Op.equalIn 10000 t (.agg ⟨l⟩) (.agg ⟨l'⟩)).bind fun c=> Sem.pure (Value.bool (!c))) H _;refine aA _ _ ?_;have h1:=rE (H:=H) (Q:=fun c H'=> vA P (Sem.pure (Value.bool (!c))) H' fun a H'=> vA P (Sem.pure (Next.value a)) H' fun nx H'=> nx=.value (.bool (!b))/\H'=H) dp 10000 VQ ht hf qL fun c hc=> ?_
  ·rw[G7] at h1;exact h1
  ·have:c=b:=by
    cases c <;> cases b <;> simp_all
   subst this;exact⟨rfl,rfl⟩)
theorem mA.eqB {t u:TypeId}{x y:Operand}{r:uA}{p q:Bool}(gA:o.op=.binOp .eql t x y u)(hx:BA R x=some (.bool p))(hy:BA R y=some (.bool q))(ht:E.ty t=some r)(yB:r.ds=.bool):mA P n H₀ R L o (.bool (p==q)):=
 (fun H tmps _ hr=> by
  unfold execOp;rw[gA];simp only[hr.ev hx,hr.ev hy];show vA P (((Op.equalIn 10000 t (.bool p) (.bool q)).bind fun c=> Sem.pure (Value.bool c)).bind _) H _;refine aA _ _ (aA _ _ ?_);exact aA (underlying t) _ (cA (lL ((E.ok _ _ ht).ds.trans yB)) ⟨rfl,rfl⟩))
theorem mA.neB {t u:TypeId}{x y:Operand}{r:uA}{p q:Bool}(gA:o.op=.binOp .neq t x y u)(hx:BA R x=some (.bool p))(hy:BA R y=some (.bool q))(ht:E.ty t=some r)(yB:r.ds=.bool):mA P n H₀ R L o (.bool (!(p==q))):=
 (fun H tmps _ hr=> by
  unfold execOp;rw[gA];simp only[hr.ev hx,hr.ev hy];show vA P (((Op.equalIn 10000 t (.bool p) (.bool q)).bind fun c=> Sem.pure (Value.bool (!c))).bind _) H _;refine aA _ _ (aA _ _ ?_);exact aA (underlying t) _ (cA (lL ((E.ok _ _ ht).ds.trans yB)) ⟨rfl,rfl⟩))
theorem mA.W5 {t u e:TypeId}{x y:Operand}{r:uA}{a:Option Addr}{m c:Nat}(gA:o.op=.binOp .eql t x y u)(hx:BA R x=some (.slice a m c))(hy:BA R y=some (.slice none 0 0))(ht:E.ty t=some r)(yB:r.ds=.slice e):mA P n H₀ R L o (.bool a.isNone):=
 (fun H tmps _ hr=> by
  unfold execOp;rw[gA];simp only[hr.ev hx,hr.ev hy];show vA P (((Op.equalIn 10000 t (.slice a m c) (.slice none 0 0)).bind fun c=> Sem.pure (Value.bool c)).bind _) H _;refine aA _ _ (aA _ _ ?_);refine aA (underlying t) _ (cA (dC ((E.ok _ _ ht).ds.trans yB)) ?_);cases a <;> exact⟨rfl,rfl⟩)
def XD(E:Env P)(dp:Nat)(t:TypeId)(k:Value):Prop:=∃r l,E.ty t=some r/\k=gG r.agg l/\flat E dp t l
theorem IW {dp:Nat}{t:TypeId}{r:uA}{l l':List Value}(ht:E.ty t=some r)(h:flat E dp t l)(h':flat E dp t l'):gG r.agg l=gG r.agg l'<->l=l':=by
 refine⟨fun e=> ?_,fun e=> by rw[e]⟩;cases hg:r.agg with
 | true=>
  rw[hg] at e;simpa [gG] using e
 | false=>
  rw[hg] at e;have h1:=SF h ht hg;have h2:=SF h' ht hg
  match l,l',h1,h2 with
  | [a],[b],_,_=> simpa [gG] using e
def AF(es:List MapEntry)(k:Value)(r:Option (Nat×Value)):Prop:=
 match r with
 | none=> ∀e∈es,e.key≠k
 | some (i,v)=> ∃e,es[i]? =some e/\e.key=k/\e.val=v
theorem LM {kd:TypeDesc}{a b:Value}{c:Bool}(h:Instr.sameNow kd a b=some c):c=true<->a=b:=by
 unfold Instr.sameNow at h;split at h
 ·split at h
  ·rename_i hk
   subst hk;cases h
   simp
  ·cases h
 ·cases h
  rw[oI];simp
 ·cases h
  simp
 ·cases h
def NF(es:List MapEntry)(k:Value)(i:Nat)(r:Option (Nat×Value)):Prop:=
 match r with
 | none=> ∀e∈es,e.key≠k
 | some (j,v)=> i<=j/\∃e,es[j-i]? =some e/\e.key=k/\e.val=v
theorem NF.cons {e:MapEntry}{es:List MapEntry}{k:Value}{i:Nat}{r:Option (Nat×Value)}(h:NF es k (i+1) r)(aB:e.key≠k):NF (e::es) k i r:=by
 cases r with
 | none=>
  intro x hx;rcases List.mem_cons.1 hx with rfl|hx
  ·exact aB
  ·exact h x hx
 | some p=>
  obtain⟨j,v⟩:=p;obtain⟨h1,x,h2,h3,h4⟩:=h;refine⟨oM,x,?_,h3,h4⟩;rw[show j-i=(j-(i+1))+1 by omega];simpa using h2
theorem cM {kd:TypeDesc}{k:Value}:∀ {es:List MapEntry} {i:Nat} {r:Option (Nat×Value)},Instr.findNow kd k es i=some r->NF es k i r
 | [],i,r,h=> by
  simp only[Instr.findNow,Option.some.injEq] at h;subst h;intro e he;cases he
 | e ::es,i,r,h=> by
  unfold Instr.findNow at h;split at h
  ·rename_i hs
   cases h
   exact⟨Nat.le_refl _,e,by simp,((LM hs).1 rfl).symm,rfl⟩
  ·rename_i hs
   refine(cM h).cons fun he=> ?_;have:=(LM hs).2 he.symm;cases this
  ·cases h
theorem EH {dp:Nat}(VQ:dp<=10000){t:TypeId}{k:Value}{H:View}{Q:Option (Nat×Value)->View->Prop}(hk:XD E dp t k):∀ {es:List MapEntry} {i:Nat},(∀e∈es,XD E dp t e.key)->(∀r,NF es k i r->Q r H)->vA P (Instr.findAsking t k es i) H Q
 | [],i,_,h=> h none (fun e he=> by cases he)
 | e ::es,i,VG,h=> by
  unfold Instr.findAsking;obtain⟨r,l,ht,rfl,hf⟩:=hk;obtain⟨r',l',LZ,he,qL⟩:=VG e (by simp);rw[ht] at LZ;cases LZ
  rw[he];refine aA (Op.equal t _ _) _ (rE dp 10000 VQ ht hf qL fun b hb=> ?_);cases b with
  | true=>
   refine h _ ⟨Nat.le_refl _,e,by simp,?_,rfl⟩;rw[he,hb.1 rfl]
  | false=>
   refine EH VQ ⟨r,l,ht,rfl,hf⟩ (fun x hx=> VG x (by simp[hx])) fun r' rF=> h r' (rF.cons ?_);rw[he];intro e;have:=hb.2 ((IW ht hf qL).1 e.symm);cases this
theorem FH {dp:Nat}(VQ:dp<=10000){t:TypeId}{dd:TypeDesc}{k:Value}{es:List MapEntry}{H:View}{Q:Option (Nat×Value)->View->Prop}(hk:XD E dp t k)(hd:P.underlying t=some dd)(VG:∀e∈es,XD E dp t e.key)(h:∀r,AF es k r->Q r H):vA P (Instr.findKey t k es) H Q:=by
 refine aA (underlying t) _ (cA hd ?_);have fin:∀r,NF es k 0 r->Q r H:=fun r hr=> h r (by
  cases r with
  | none=> exact hr
  | some p=> exact⟨hr.2.choose,by simpa using hr.2.choose_spec⟩)
 split
 ·rename_i r hr
  exact fin r (cM hr)
 ·exact EH VQ hk VG fin
theorem GH {α:Type}{f:α->Unit->Sem (ForInStep Unit)}{H:View}{Q:Unit->View->Prop}:∀ {xs:List α},(∀x∈xs,∀Q':ForInStep Unit->View->Prop,Q' (.yield ()) H->vA P (f x ()) H Q')->Q () H->vA P (forIn xs () f) H Q
 | [],_,hq=> hq
 | x::xs,hf,hq=> by
  rw[List.forIn_cons];exact aA (f x ()) _ (hf x (by simp) _ (GH (fun y hy=> hf y (by simp[hy])) hq))
theorem uE {dp:Nat}{t:TypeId}{l:List Value}(h:flat E dp t l):∃r dd,E.ty t=some r/\P.underlying t=some dd:=by
 cases dp with
 | zero=> exact h.elim
 | succ dp=>
  unfold flat at h;split at h
  ·exact h.elim
  ·rename_i r ht
   have G7:=(E.ok _ _ ht).agg;unfold QG at G7;cases hu:P.underlying t with
   | none=> rw[hu] at G7;cases G7
   | some dd=> exact⟨r,dd,ht,rfl⟩
theorem PD {e:Bool}{H:View}:∀(d D:Nat),d<=D->∀ {t:TypeId} {r:uA} {l:List Value} {Q:Unit->View->Prop},E.ty t=some r->flat E d t l->Q () H->vA P (Instr.checkKey e D t (gG r.agg l)) H Q
 | 0,_,_,_,_,_,_,_,hf,_=> hf.elim
 | d+1,0,h,_,_,_,_,_,_,_=> by omega
 | d + 1,D+1,hd,t,r,l,Q,ht,hf,hq=> by
  have ha:∀b,tU r.ds=some b->r.agg=b:=fun b hb=> LS (E.ok _ _ ht).ds (E.ok _ _ ht).agg hb;unfold flat at hf;rw[ht] at hf;simp only at hf;cases yB:r.ds with
  | int k=>
   rw[yB] at hf ha;obtain⟨i,rfl⟩:=hf;rw[ha _ rfl];exact aA (underlying t) _ (cA (bK ((E.ok _ _ ht).ds.trans yB)) hq)
  | bool=>
   rw[yB] at hf ha;obtain⟨i,rfl⟩:=hf;rw[ha _ rfl];exact aA (underlying t) _ (cA (lL ((E.ok _ _ ht).ds.trans yB)) hq)
  | str=>
   rw[yB] at hf ha;obtain⟨i,rfl⟩:=hf;rw[ha _ rfl];exact aA (underlying t) _ (cA (rG ((E.ok _ _ ht).ds.trans yB)) hq)
  | struct fs=>
   rw[yB] at hf ha;rw[ha _ rfl];obtain⟨hc,PA⟩:=hf;obtain⟨a,hu,hn,_,I2⟩:=PH ((E.ok _ _ ht).ds.trans yB);refine aA (underlying t) _ (cA hu ?_);show vA P ((forIn a () fun(f:Field) (_:Unit)=> (if f.name≠ "_" then(part f.type ⟨l⟩ f.offset).bind fun x=> (Instr.checkKey e D f.type x).bind fun _=> Sem.pure (ForInStep.yield ()) else Sem.pure (ForInStep.yield ()):Sem (ForInStep Unit))).bind fun _=> Sem.pure ()) H Q;refine aA _ _ ?_;rw[<-Array.forIn_toList];refine GH (fun f hf Q' j6=> ?_) hq;rw[if_pos (hn f hf).1];have WC:(f.type,f.offset,((P.info? f.type).map (·.size)).getD 0)∈fs:=by rw[I2];exact List.mem_map.2 ⟨f,hf,rfl⟩
   obtain⟨g1,rf,g2,g3,g4⟩:=PA _ WC;simp only at g1 g2 g3 g4;rw[<-g3] at g1 g4;refine aA _ _ (vC g2 g4 (fun hg=> ?_) ?_)
   ·have:=SF g1 g2 hg;simp only[chunk,List.length_take,List.length_drop] at this;omega
   exact aA _ _ (PD d D oM g2 g1 j6)
  | arr m et=>
   rw[yB] at hf ha;rw[ha _ rfl];obtain⟨re,FC,hlen,PA⟩:=hf;refine aA (underlying t) _ (cA (WO ((E.ok _ _ ht).ds.trans yB)) ?_);show vA P ((forIn [:m] () fun(i:Nat) (_:Unit)=> ((sizeOf et).bind fun s=> (part et ⟨l⟩ (i*s)).bind fun x=> (Instr.checkKey e D et x).bind fun _=> Sem.pure (ForInStep.yield ()):Sem (ForInStep Unit))).bind fun _=> Sem.pure ()) H Q;refine aA _ _ ?_;rw[Std.Legacy.Range.forIn_eq_forIn_range'];refine GH (fun i hi Q' j6=> ?_) hq;have K2:i<m:=by
    simp only[Std.Legacy.Range.size,List.mem_range'_1] at hi;omega
   have hle:i*re.size+re.size<=l.length:=by
    rw[hlen,<-Nat.succ_mul];exact Nat.mul_le_mul_right _ K2
   refine aA _ _ (CA (E.ok _ _ FC).size ?_);refine aA _ _ (vC FC hle (fun hg=> ?_) ?_)
   ·have:=SF (PA i K2) FC hg;simp only[chunk,List.length_take,List.length_drop] at this;omega
   exact aA _ _ (PD d D oM FC (PA i K2) j6)
  | slice e=> rw[yB] at hf;exact hf.elim
  | map k e=> rw[yB] at hf;exact hf.elim
  | other=> rw[yB] at hf;exact hf.elim
theorem Or.makeMap {t:TypeId}(gA:o.op=.makeMap t none)(hd:o.dst=some d)(hn:d<n)(hk:∀blk,K ((d,.map (some blk))::R) ((blk,true,.map #[] 0)::L)):Or M n H₀ R L o K:=
 .newObj (val:=fun blk=> .map (some blk)) hd hn (fun H tmps _ hr Q hQ=> by
  unfold execOp;rw[gA];exact fun blk hb=> hQ blk hb) hk
def QS(z:Value)(r:Option (Nat×Value))(ok:Bool):Value:=
 match ok,r with
 | true,some (_,v)=> .tuple #[v,.bool true]
 | true,none=> .tuple #[z,.bool false]
 | false,some (_,v)=> v
 | false,none=> z
theorem Or.lookup(dp:Nat){t kt et:TypeId}{x y:Operand}{ok:Bool}{m:Nat}{k:Value}{es:Array MapEntry}{cl:Nat}{r re:uA}(gA:o.op=.lookup t x y ok)(hx:BA R x=some (.map (some m)))(hy:BA R y=some k)
  (hb:∀H,eA H₀ L H->∃f,H m=some (f,.map es cl)) (ht:E.ty t=some r) (yB:r.ds=.map kt et) (FC:E.ty et=some re) (VQ:dp<=10000) (hk:XD E dp kt k) (VG:∀e∈es.toList,XD E dp kt e.key) (hd:o.dst=some d) (hn:d<n)
  (hq:∀r,AF es.toList k r->K ((d,QS re.zero r ok)::R) L):Or M n H₀ R L o K:=
 .val hd hn fun H tmps hs hr=> by
  unfold execOp;rw[gA];simp only[hr.ev hx,hr.ev hy];obtain⟨f,UQ⟩:=hb H hs;obtain⟨rk,l,bV,rfl,hf⟩:=hk;obtain⟨_,dd,_,eJ⟩:=uE hf;refine aA (Instr.lookup t _ _ ok) _ ?_;refine aA (underlying t) _ (cA (WL ((E.ok _ _ ht).ds.trans yB)) ?_);refine⟨f,.map es cl,UQ,by simp,rfl,?_⟩;show vA P ((Instr.checkKey es.isEmpty 10000 kt (gG rk.agg l)).bind fun _=> _) H _;refine aA _ _ (PD dp 10000 VQ bV hf ?_);refine aA (Instr.findKey kt _ es.toList) _ (FH VQ ⟨rk,l,bV,rfl,hf⟩ eJ VG fun r rF=> ?_);have fin:=hq r rF;cases r with
  | none=>
   refine aA (zeroValue et) _ (sB (E.ok _ _ FC).zero ?_);cases ok <;> exact⟨_,rfl,_,hs,fin⟩
  | some p=>
   obtain⟨i,v⟩:=p;cases ok <;> exact⟨_,rfl,_,hs,fin⟩
def CY(es:Array MapEntry)(cl:Nat)(k v:Value)(r:Option (Nat×Value)):Obj:=
 match r with
 | some (i,_)=> .map (es.modify i fun e=> { e with key:=k,val:=v }) cl
 | none=> .map (es.push { key:=k,val:=v,born:=cl }) (cl+1)
theorem Or.mapUpdate(i dp:Nat){t kt et:TypeId}{x y z:Operand}{m:Nat}{k v:Value}{es:Array MapEntry}{cl:Nat}{r:uA}(gA:o.op=.mapUpdate t x y z)(hx:BA R x=some (.map (some m)))(hy:BA R y=some k)(hz:BA R z=some v)
  (hi:L[i]? =some (m,true,.map es cl)) (ht:E.ty t=some r) (yB:r.ds=.map kt et) (VQ:dp<=10000) (hk:XD E dp kt k) (VG:∀e∈es.toList,XD E dp kt e.key) (hd:o.dst=none)
  (hq:∀r,AF es.toList k r->K R (L.set i (m,true,CY es cl k v r))):Or M n H₀ R L o K:=
 .hO hd fun H tmps hs hr=> by
  unfold execOp;rw[gA];simp only[hr.ev hx,hr.ev hy,hr.ev hz];have UQ:=hs.get hi;have hk':=hk;obtain⟨rk,l,bV,hkl,hf⟩:=hk;obtain⟨_,dd,_,eJ⟩:=uE hf;refine aA (Instr.mapUpdate t _ _ _) _ ?_;refine aA (underlying t) _ (cA (WL ((E.ok _ _ ht).ds.trans yB)) ?_);refine⟨true,.map es cl,UQ,by simp,rfl,?_⟩;show vA P ((Instr.checkKey false 10000 kt k).bind fun _=> _) H _;rw[hkl];refine aA _ _ (PD dp 10000 VQ bV hf ?_);rw[<-hkl];refine aA (Instr.findKey kt _ es.toList) _ (FH VQ hk' eJ VG fun r rF=> ?_);have fin:=hq r rF;cases r with
  | none=> exact⟨⟨_,UQ,by simp⟩,rfl,rfl,_,hs.set hi _,fin⟩
  | some p=>
   obtain⟨j,w⟩:=p;obtain⟨e,he,hek,_⟩:=rF;have TX:((es[j]?).map (·.key)).getD k=k:=by
    have:es[j]? =some e:=by simpa using he
    rw[this];simp[hek]
   show vA P ((Instr.keyThatStays (((es[j]?).map (·.key)).getD k) k).bind fun _=> _) H _;rw[TX];have aBq:∀Q:Value->View->Prop,Q k H->vA P (Instr.keyThatStays k k) H Q:=by
    intro Q hQ;unfold Instr.keyThatStays;split
    ·exact hQ
    ·refine aA (choose _) _ ?_;intro t';show Q (if _ then k else k) H;simpa using hQ
   refine aA _ _ (aBq _ ?_);exact⟨⟨_,UQ,by simp⟩,rfl,rfl,_,hs.set hi _,fin⟩
theorem Or.range {t kt et:TypeId}{x:Operand}{m:Nat}{es:Array MapEntry}{cl:Nat}{r:uA}(gA:o.op=.range t x)(hx:BA R x=some (.map (some m)))(hb:∀H,eA H₀ L H->∃f,H m=some (f,.map es cl))(ht:E.ty t=some r)(yB:r.ds=.map kt et)
  (hd:o.dst=some d) (hn:d<n) (hk:∀blk,K ((d,.pointer (some ⟨blk,0,none⟩))::R) ((blk,true,.mapIter (some m) cl #[] cl)::L)):Or M n H₀ R L o K:=
 .newObj (val:=fun blk=> .pointer (some ⟨blk,0,none⟩)) hd hn (fun H tmps hs hr Q hQ=> by
  unfold execOp;rw[gA];simp only[hr.ev hx];obtain⟨f,UQ⟩:=hb H hs;refine aA (Instr.range t _) _ ?_;refine aA (underlying t) _ (cA (WL ((E.ok _ _ ht).ds.trans yB)) ?_);exact⟨f,.map es cl,UQ,by simp,rfl,fun blk hb=> hQ blk hb⟩) hk
theorem Or.next(i:Nat){x:Operand}{it m:Nat}{es:Array MapEntry}{cl:Nat}{seen:Array Nat}(gA:o.op=.next x false)(hx:BA R x=some (.pointer (some ⟨it,0,none⟩)))(hi:L[i]? =some (it,true,.mapIter (some m) cl seen cl))
  (hb:∀H,eA H₀ L H->∃f,H m=some (f,.map es cl)) (OX:∀e∈es.toList,e.born<cl) (hd:o.dst=some d) (hn:d<n)
  (hq1:∀e∈es.toList,seen.contains e.born=false->K ((d,.tuple #[.bool true,e.key,e.val])::R) (L.set i (it,true,.mapIter (some m) cl (seen.push e.born) cl)))
  (X7:(∀e∈es.toList,seen.contains e.born=true)->K ((d,.tuple #[.bool false])::R) L):Or M n H₀ R L o K:=
 .val hd hn fun H tmps hs hr=> by
  unfold execOp;rw[gA];simp only[hr.ev hx];have dL:=hs.get hi;obtain⟨f,UQ⟩:=hb H hs;refine aA (Instr.next _ false _) _ ?_;refine⟨true,_,dL,by simp,rfl,?_⟩;refine⟨f,.map es cl,UQ,by simp,rfl,?_⟩;show vA P (if(!seen.isEmpty && !es.isEmpty&&es.all fun x=> decide (x.born≥cl))=true then _ else _) H _;rw[if_neg (by
   simp only[Bool.and_eq_true,Bool.not_eq_true',Array.all_eq_true_iff_forall_mem,decide_eq_true_eq,not_and];rintro⟨_,aB⟩ PA;have YV:0<es.size:=by
    rcases Nat.eq_zero_or_pos es.size with h|h
    ·rw[Array.isEmpty_eq_false_iff] at aB;exact absurd (Array.eq_empty_of_size_eq_zero h) aB
    ·exact h
   have h1:=PA es[0] (Array.getElem_mem _);have h2:=OX es[0] (by simp);omega)]
  generalize aR:(es.filter fun e=> !seen.contains e.born)=left;have hold:(left.filter fun e=> decide (e.born<cl))=left:=by
   rw[Array.filter_eq_self];intro e he;rw[<-aR] at he;simp only[Array.mem_filter] at he;exact decide_eq_true (OX e (by simpa using he.1))
  have dT:(left.filter fun e=> decide (e.born≥cl))=#[]:=by
   rw[Array.filter_eq_empty_iff];intro e he;rw[<-aR] at he;simp only[Array.mem_filter] at he;have:=OX e (by simpa using he.1);simp only[decide_eq_true_eq];omega
  simp only[hold,dT,Array.append_empty];refine aA (choose _) _ ?_;intro t;by_cases hem:left.isEmpty=true
  ·have he:left=#[]:=by simpa using hem
   subst he;have PA:∀e∈es.toList,seen.contains e.born=true:=by
    intro e he;rw[Array.filter_eq_empty_iff] at aR;have:=aR (a:=e) (by simpa using he);simpa using this
   have fin:=X7 PA;have HD:((if(#[]:Array MapEntry).isEmpty=true then #[none] else #[])++Array.map some (#[]:Array MapEntry))=#[none]:=by simp
   rw[HD];have goal:∃v,Next.value (.tuple #[.bool false])=Next.value v/\∃L',eA H₀ L' H/\K ((d,v)::R) L':=⟨_,rfl,_,hs,fin⟩
   exact goal
  ·have HD:0<left.size:=by
    rcases Nat.eq_zero_or_pos left.size with h|h
    ·exact absurd (by rw[Array.eq_empty_of_size_eq_zero h];rfl) hem
    ·exact h
   simp only[hem,Bool.false_eq_true,if_false,Array.empty_append,Array.size_map];have iB:(if(Question.mapNext left.size).forced=true then 0 else(Question.mapNext left.size).cut t)<left.size:=by
    split
    ·exact HD
    ·exact Nat.mod_lt _ HD
   generalize hj:(if(Question.mapNext left.size).forced=true then 0 else(Question.mapNext left.size).cut t)=j at iB ⊢;have aCT:(left.map some)[j]? =some (some left[j]):=by simp[iB]
   show vA P (match (left.map some)[j]? with
    | some (some e)=> _
    | some none=> _
    | none=> _) H _
   rw[aCT];have WC:left[j]∈es.filter fun e=> !seen.contains e.born:=by
    have:left[j]∈left:=Array.getElem_mem _;generalize left[j]=z at this ⊢;rw[aR];exact this
   simp only[Array.mem_filter] at WC;refine⟨⟨_,dL,by simp⟩,rfl,_,rfl,_,hs.set hi _,?_⟩;refine hq1 _ ?_ ?_
   ·simpa using WC.1
   ·simpa using WC.2
theorem Or.entry {x:Operand}{it m st:Nat}{es:Array MapEntry}{cl s:Nat}{seen:Array Nat}{e:MapEntry}(gA:o.op=.entry x)(hx:BA R x=some (.pointer (some ⟨it,0,none⟩)))(hi:∀H,eA H₀ L H->∃f,H it=some (f,.mapIter (some m) s seen cl))
  (hb:∀H,eA H₀ L H->∃f,H m=some (f,.map es cl)) (LG:seen.back? =some st) (KG:es.find? (fun e=> e.born==st)=some e) (hd:o.dst=some d) (hn:d<n) (hk:K ((d,.tuple #[e.key,e.val])::R) L):Or M n H₀ R L o K:=
 .val hd hn fun H tmps hs hr=> by
  unfold execOp;rw[gA];simp only[hr.ev hx];obtain⟨f,dL⟩:=hi H hs;obtain⟨f',UQ⟩:=hb H hs;refine aA (Instr.entry _) _ ?_;refine⟨f,_,dL,by simp,rfl,?_⟩;simp only[Sem.bind,LG];refine⟨f',.map es cl,UQ,by simp,rfl,?_⟩;have HB:(cl !=cl)=false:=by simp
  simp only[Sem.bind,HB,KG,Bool.false_eq_true,if_false];exact⟨_,rfl,_,hs,hk⟩
end
section
variable {P:Program}{E:Env P}{M:Md P}{St:View->Goroutine->Prop}{n:Nat}{b:FB}{H₀:View}{cs:List Frame}{R R':Rg}{L L':Bl}{ds:List Deferred}{k:List Item}
def cC:Rg->Rg->Prop
 | [],_=> True
 | (d,v)::R',R=> lk R d=some v/\cC R' R
theorem cC.sub:∀ {R' R:Rg},cC R' R->∀d v,lk R' d=some v->lk R d=some v
 | [],_,_,_,_,h=> by simp[lk] at h
 | (e,u)::R',R,⟨h1,h2⟩,d,v,h=> by
  rw[BP] at h;split at h
  ·rename_i he
   subst he;cases h
   exact h1
  ·exact h2.sub d v h
theorem Tc.IA {σ:Type}(I:σ->Rg×Bl)(μ:σ->Nat){body:Code}
  (step:∀s,(∀s',μ s'<μ s->Tc M St n b H₀ cs (I s').1 (I s').2 ds (.inLoop body::k))->Tc M St n b H₀ cs (I s).1 (I s).2 ds (.code body:: .inLoop body::k)) (s₀:σ):
  Tc M St n b H₀ cs (I s₀).1 (I s₀).2 ds (.code (.loop body)::k):=by
 have key:∀(m:Nat) (s:σ),μ s<=m->Tc M St n b H₀ cs (I s).1 (I s).2 ds (.code body:: .inLoop body::k):=by
  intro m;induction m with
  | zero=> exact fun s hs=> step s fun s' iB=> by omega
  | succ m ih=> exact fun s hs=> step s fun s' iB=> .inLoop (ih s' oM)
 exact .loop (key _ s₀ (Nat.le_refl _))
def OC:List Value->Value
 | [v]=> v
 | vs=> .tuple ⟨vs⟩
def eH(E:Env P)(R:Rg)(L:Bl):List ResultVar->List Value->Prop
 | [],[]=> True
 | .tmp t::rs,v::vs=> lk R t=some v/\eH E R L rs vs
 | .cell a t::rs,v::vs=> (∃(i blk off:Nat) (f:Bool) (c:List Value) (e:TypeId) (fz:Nat×Nat) (r:uA),lk R a=some (.pointer (some ⟨blk,off,none⟩))/\L[i]? =some (blk,f,Obj.cells ⟨c⟩ e fz)/\E.ty t=some r/\YB r.agg r.size c off=some v)/\eH E R L rs vs
 | _,_=> False
def DG(tmps:Array Value):ResultVar->Sem Value
 | .tmp t=> .pure (tmps.getD t undef)
 | .cell a t=> (asAddr (tmps.getD a undef)).bind fun x=> loadVar t x
theorem KH {H:View}{tmps:Array Value}(hs:eA H₀ L H)(hr:LA n R tmps):∀ {rs:List ResultVar} {vs:List Value} {Q:List Value->View->Prop},eH E R L rs vs->Q vs H->vA P (rs.mapM (DG tmps)) H Q
 | [],[],Q,_,h=> h
 | .tmp t::rs,v::vs,Q,⟨h1,h2⟩,h=> by
  rw[List.mapM_cons];refine aA (DG tmps (.tmp t)) _ ?_;show vA P ((rs.mapM (DG tmps)).bind fun us=> .pure (tmps.getD t undef::us)) H Q;refine aA _ _ (KH hs hr h2 ?_);have:tmps.getD t undef=v:=by simp[hr.2 _ _ h1]
  rw[this];exact h
 | .cell a t::rs,v::vs,Q,⟨⟨i,blk,off,f,c,e,fz,r,g1,g2,g3,g4⟩,h2⟩,h=> by
  rw[List.mapM_cons];have:tmps.getD a undef=.pointer (some ⟨blk,off,none⟩):=by simp[hr.2 _ _ g1]
  refine aA (DG tmps (.cell a t)) _ ?_;show vA P ((asAddr (tmps.getD a undef)).bind fun x=> loadVar t x) H _;rw[this];show vA P (loadVar t ⟨blk,off,none⟩) H _;refine JH (E.ok _ _ g3).agg (E.ok _ _ g3).size (hs.get g2) g4 ?_;show vA P ((rs.mapM (DG tmps)).bind fun us=> .pure (v::us)) H Q;exact aA _ _ (KH hs hr h2 h)
 | [],_::_,_,h,_=> by cases h
 | .tmp _::_,[],_,h,_=> by cases h
 | .cell _ _::_,[],_,h,_=> by cases h
theorem SC {fn:Func}{H:View}{tmps:Array Value}{rs:List ResultVar}{vs:List Value}{Q:Value->View->Prop}(hs:eA H₀ L H)(hr:LA n R tmps)(eN:fn.results=rs.toArray)(ho:eH E R L rs vs)(h:Q (OC vs) H):
  vA P (results fn tmps) H Q:=by
 have e1:results fn tmps=(rs.mapM (DG tmps)).bind fun us=> .pure (if h:us.toArray.size=1 then us.toArray[0] else .tuple us.toArray):=by
  have gen:∀F:ResultVar->Sem Value,F=DG tmps->∀K:Array Value->Sem Value,(rs.toArray.mapM F).bind K=(rs.mapM (DG tmps)).bind fun us=> K us.toArray:=by
   intro F hF K;rw[List.mapM_toArray,hF];show((rs.mapM (DG tmps)) >>=fun us=> (Pure.pure us.toArray:Sem (Array Value))) >>=K=_;rw[bind_assoc];rfl
  unfold results;rw[eN];exact gen _ (funext fun r=> by cases r <;> rfl) _
 rw[e1];refine aA _ _ (KH hs hr ho ?_);show Q _ H
 match vs,h with
 | [],h=> exact h
 | [v],h=> exact h
 | v::u::w,h=> exact h
theorem Tc.L8 {fn:Func}{c:Frame}{Q:Value->View->Prop}{f:FuncId}{rs:List ResultVar}{vs:List Value}(hK:∀v H',Q v H'->T M St H' (G (c.finish v) cs))(hf:P.funcs[f]? =some fn)(eN:fn.results=rs.toArray)
  (ho:eH E R L rs vs) (h:∀H',eA H₀ L H'->Q (OC vs) H'):Tc M St n ⟨f,.normal,none⟩ H₀ (c::cs) R L [] (.code .ret::k):=
 .ret hK hf fun H _ hs hr=> SC hs hr eN ho (h H hs)
theorem Tc.aBF {fn:Func}{c:Frame}{Q:Value->View->Prop}{f:FuncId}{rs:List ResultVar}{vs:List Value}(hK:∀v H',Q v H'->T M St H' (G (c.finish v) cs))(hf:P.funcs[f]? =some fn)(eN:fn.results=rs.toArray)
  (ho:eH E R L rs vs) (h:∀H',eA H₀ L H'->Q (OC vs) H'):Tc M St n ⟨f,.normal,none⟩ H₀ (c::cs) R L [] []:=
 .over hK hf fun H _ hs hr=> SC hs hr eN ho (h H hs)
end
end Go.RL
