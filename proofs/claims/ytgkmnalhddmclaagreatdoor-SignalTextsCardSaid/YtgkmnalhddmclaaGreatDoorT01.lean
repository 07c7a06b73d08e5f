/-
 Texts of the proofs over baudot/dial.
-/
import Derived.Conc.Listed
import Derived.IntWalk
import Derived.Laws.Sem
namespace Go.RL
theorem oM {p:Prop}(h:p:=by omega):p:=h
theorem kR {p:Prop}(h:p:=by kernel_rfl):p:=h
theorem dE {p:Prop}(h:p:=by decide):p:=h
theorem sL {α:Type}{L' L:List α}(h:L'.Sublist L:=by repeat (first|exact List.Sublist.refl _|exact List.nil_sublist _|exact List.sublist_append_left _ _|apply List.Sublist.cons_cons|apply List.Sublist.cons)):L'.Sublist L:=h
end Go.RL
namespace Go.RL
open Go.Conc
abbrev View:=Nat->Option (Bool×Obj)
def Sat(H:View)(w:World):Prop:=∀b f o,H b=some (f,o)->w.heap[b]? =some o
def View.put(H:View)(b:Nat)(x:Bool×Obj):View:=fun c=> if c=b then some x else H c
theorem View.qA(H:View)(b:Nat)(x:Bool×Obj):H.put b x b=some x:=by simp[View.put]
theorem View.kA(H:View){b c:Nat}(x:Bool×Obj)(h:c≠b):H.put b x c=H c:=by simp[View.put,h]
def GQ:Mark->Bool
 | .noRoom | .extern _=> true
 | _=> false
def FK(H:View)(e:Event):Prop:=
 match e.loc with
 | .cell a=> e.sync=false/\∃f o,H a.block=some (f,o)/\(e.write=true->f=true)
 | .obj r=> e.sync=false/\∃f o,H r=some (f,o)/\(e.write=true->f=true)
 | .mark m=> GQ m=true/\e.write=false/\e.sync=true
 | _=> False
structure Trans(H:View)(w:World)(H':View)(w':World)(es:Array Event):Prop where
 tape:w'.tape=w.tape
 os:w'.os=w.os
 out:w'.output=w.output
 size:w.heap.size<=w'.heap.size
 pD:∀b,b<w.heap.size->(∀o,H b≠some (true,o))->w'.heap[b]? =w.heap[b]?
 sat:Sat H' w'
 ext:∀b f o',H' b=some (f,o')->(∃o,H b=some (f,o))\/(f=true/\w.heap.size<=b)
 keep:∀b f o,H b=some (f,o)->∃o',H' b=some (f,o')/\(f=false->o'=o)
 ev:∀e∈es,FK H' e
theorem FK.keep {H H':View}{e:Event}(h:FK H e)(k:∀b f o,H b=some (f,o)->∃o',H' b=some (f,o')/\(f=false->o'=o)):FK H' e:=by
 unfold FK at *;split
 ·rename_i a heq
  rw[heq] at h;obtain⟨h1,f,o,h2,h3⟩:=h;obtain⟨o',h4,_⟩:=k _ _ _ h2;exact⟨h1,f,o',h4,h3⟩
 ·rename_i r heq
  rw[heq] at h;obtain⟨h1,f,o,h2,h3⟩:=h;obtain⟨o',h4,_⟩:=k _ _ _ h2;exact⟨h1,f,o',h4,h3⟩
 ·rename_i heq
  rw[heq] at h;exact h
 ·rename_i h1 h2 h3
  split at h
  ·rename_i heq;exact(h1 _ heq).elim
  ·rename_i heq;exact(h2 _ heq).elim
  ·rename_i heq;exact(h3 _ heq).elim
  ·exact h
theorem Trans.refl {H:View}{w:World}(h:Sat H w):Trans H w H w #[]:=
 ⟨rfl,rfl,rfl,Nat.le_refl _,fun _ _ _=> rfl,h,fun _ _ o h=> .inl ⟨o,h⟩,fun _ _ o h=> ⟨o,h,fun _=> rfl⟩,by simp⟩
theorem Trans.trans {H H' H'':View}{w w' w'':World}{es es':Array Event}(h:Trans H w H' w' es)(k:Trans H' w' H'' w'' es'):Trans H w H'' w'' (es++es') where
 tape:=k.tape.trans h.tape
 os:=k.os.trans h.os
 out:=k.out.trans h.out
 size:=Nat.le_trans h.size k.size
 pD:=fun b hb ho=> by
  rw[k.pD b (Nat.lt_of_lt_of_le hb h.size) ?_,h.pD b hb ho];intro o lR;rcases h.ext _ _ _ lR with ⟨o,h1⟩|⟨_,h2⟩
  ·exact ho o h1
  ·omega
 sat:=k.sat
 ext:=fun b f o' hb=> by
  rcases k.ext b f o' hb with ⟨o,h1⟩|⟨h1,h2⟩
  ·exact h.ext b f o h1
  ·exact .inr ⟨h1,Nat.le_trans h.size h2⟩
 keep:=fun b f o hb=> by
  obtain⟨o1,h1,h2⟩:=h.keep b f o hb;obtain⟨o2,h3,h4⟩:=k.keep b f o1 h1;exact⟨o2,h3,fun hf=> (h4 hf).trans (h2 hf)⟩
 ev:=fun e he=> by
  rcases Array.mem_append.1 he with he|he
  ·exact(h.ev e he).keep k.keep
  ·exact k.ev e he
theorem Trans.sub {H H':View}{w w':World}{es es':Array Event}(h:Trans H w H' w' es)(k:∀e∈es',e∈es):Trans H w H' w' es':=
 { h with ev:=fun e he=> h.ev e (k e he) }
def yA {α:Type}(P:Program):Sem α->View->(α->View->Prop)->Prop
 | .pure a,H,Q=> Q a H
 | .load m a k,H,Q=> m=.plain/\a.spot=none/\∃f c e fz v,H a.block=some (f,.cells c e fz)/\c[a.off]? =some v/\yA P (k v) H Q
 | .store m a v k,H,Q=> m=.plain/\a.spot=none/\(∀cs,v≠ .agg cs)/\(∀cs,v≠ .tuple cs)/\
  ∃ c e fz,H a.block=some (true,.cells c e fz)/\a.off<c.size/\(fz.1<=a.off&&a.off<fz.2)=false/\
   yA P k (H.put a.block (true,.cells (c.setIfInBounds a.off v) e fz)) Q
 | .new o k,H,Q=> ∀b,H b=none->yA P (k b) (H.put b (true,o)) Q
 | .shape r k,H,Q=> (∃f c e fz,H r=some (f,.cells c e fz)/\yA P (k (some (e,c.size))) H Q)
 | .getObj r k,H,Q=> ∃f o,H r=some (f,o)/\(∀c e fz,o≠ .cells c e fz)/\o.isChan=false/\yA P (k o) H Q
 | .setObj r o k,H,Q=> (∃o₀,H r=some (true,o₀)/\(∀c e fz,o₀≠ .cells c e fz))/\o.isChan=false/\yA P k (H.put r (true,o)) Q
 | .choose q k,H,Q=> ∀t,yA P (k (if q.forced then 0 else q.cut t)) H Q
 | .program k,H,Q=> yA P (k P) H Q
 | .mark m k,H,Q=> GQ m=true/\yA P k H Q
 | .frozen a k,H,Q=> ∃f c e fz,H a.block=some (f,.cells c e fz)/\yA P (k (fz.1<=a.off&&a.off<fz.2)) H Q
 | .freeze a n k,H,Q=> n≠0/\∃c e fz,H a.block=some (true,.cells c e fz)/\yA P k (H.put a.block (true,.cells c e (if fz.1==fz.2 then(a.off,a.off+n) else(min fz.1 a.off,max fz.2 (a.off+n))))) Q
 | .sys _ _,_,_=> False
 | .halt _,_,_=> False
theorem Sat.lt {H:View}{w:World}(h:Sat H w){b:Nat}{x:Bool×Obj}(hb:H b=some x):b<w.heap.size:=
 (Array.getElem?_eq_some_iff.1 (h b x.1 x.2 (by rw[hb]))).1
theorem Sat.cell {H:View}{w:World}(h:Sat H w){a:Addr}{f:Bool}{c:Array Value}{e:TypeId}{fz:Nat×Nat}(hb:H a.block=some (f,.cells c e fz))(hs:a.spot=none):
 w.cell? a=c[a.off]? :=by simp[World.cell?,h _ _ _ hb,hs]
theorem Sat.frozen {H:View}{w:World}(h:Sat H w){a:Addr}{f:Bool}{c:Array Value}{e:TypeId}{fz:Nat×Nat}(hb:H a.block=some (f,.cells c e fz)):
 w.frozen? a=(fz.1<=a.off&&a.off<fz.2):=by simp[World.frozen?,h _ _ _ hb]
theorem Sat.put {H:View}{w w':World}{b:Nat}{x:Bool×Obj}(h:Sat H w)(hb:w'.heap[b]? =some x.2)(ho:∀c,c≠b->c<w.heap.size->w'.heap[c]? =w.heap[c]?):Sat (H.put b x) w':=by
 intro c f o hc;by_cases e:c=b
 ·subst e;rw[View.qA] at hc;cases hc
  exact hb
 ·rw[View.kA _ _ e] at hc;rw[ho c e (h.lt hc)];exact h c f o hc
theorem Trans.new {H:View}{w:World}(h:Sat H w)(o:Obj):H w.heap.size=none/\Trans H w (H.put w.heap.size (true,o)) { w with heap:=w.heap.push o } #[]:=by
 have hn:H w.heap.size=none:=by
  cases hx:H w.heap.size with
  | none=> rfl
  | some x=> have:=h.lt hx;omega
 refine⟨hn,rfl,rfl,rfl,by simp,fun b hb _=> by simp[Array.getElem?_push,Nat.ne_of_lt hb],h.put (by simp) fun c _ hc=> by simp[Array.getElem?_push,Nat.ne_of_lt hc],fun b f o' hb=> ?_,fun b f o₀ hb=> ?_,by simp⟩
 ·by_cases e:b=w.heap.size
  ·subst e;rw[View.qA] at hb;cases hb
   exact .inr ⟨rfl,Nat.le_refl _⟩
  ·rw[View.kA _ _ e] at hb;exact .inl ⟨o',hb⟩
 ·have e:b≠w.heap.size:=by intro e;rw[e,hn] at hb;cases hb
  exact⟨o₀,by rw[View.kA _ _ e];exact hb,fun _=> rfl⟩
theorem Trans.VQ {H:View}{w w':World}{b:Nat}{o o':Obj}(h:Sat H w)(hb:H b=some (true,o))(h1:w'.tape=w.tape)(h2:w'.os=w.os)(h3:w'.output=w.output)(h4:w'.heap.size=w.heap.size)
  (h5:w'.heap[b]? =some o') (h6:∀c,c≠b->w'.heap[c]? =w.heap[c]?):Trans H w (H.put b (true,o')) w' #[]:=by
 refine⟨h1,h2,h3,oM,fun c _ hc=> h6 c ?_,h.put h5 fun c hc _=> h6 c hc,fun c f o₁ hc=> ?_,fun c f o₁ hc=> ?_,by simp⟩
 ·intro e;subst e;exact hc o hb
 ·by_cases e:c=b
  ·subst e;rw[View.qA] at hc;cases hc
   exact .inl ⟨o,hb⟩
  ·rw[View.kA _ _ e] at hc;exact .inl ⟨o₁,hc⟩
 ·by_cases e:c=b
  ·subst e;rw[hb] at hc;cases hc
   exact⟨o',View.qA ..,by simp⟩
  ·exact⟨o₁,by rw[View.kA _ _ e];exact hc,fun _=> rfl⟩
theorem Trans.list {H H':View}{w w':World}{es:Array Event}(h:Trans H w H' w' es)(e:Event)(he:FK H' e):Trans H w H' w' (#[e]++es):=
 have k:∀x∈#[e]++es,FK H' x:=fun x hx=> by
  rcases Array.mem_append.1 hx with hx|hx
  ·simp at hx;subst hx;exact he
  ·exact h.ev x hx
 { h with ev:=k }
theorem lI(es₀ es:Array Event)(e:Event):es₀.push e++es=es₀++(#[e]++es):=by
 apply Array.ext'
 simp
theorem yB {α:Type}{P:Program}(s:Sem α):∀ {H:View} {w:World} {Q:α->View->Prop} (es₀:Array Event),Sat H w->yA P s H Q-> 
   ∃a H' w' es,s.runT P w es₀=(.ok a w',es₀++es)/\Trans H w H' w' es/\Q a H':=by
 induction s with
 | pure a=> exact fun es₀ hs hq=> ⟨a,_,_,#[],by simp only[Sem.runT,Array.append_empty],.refl hs,hq⟩
 | load m a k ih=>
   intro H w Q es₀ hs ⟨hm,kY,f,c,e,fz,v,hb,hv,hq⟩;subst hm;obtain⟨r,H',w',es,h1,h2,h3⟩:=ih v (es₀.push ⟨.cell a,false,false⟩) hs hq;refine⟨r,H',w',#[⟨.cell a,false,false⟩]++es,?_,h2.list _ ?_,h3⟩
   · have hc:w.cell? a=some v:=by rw[hs.cell hb kY,hv]
     simp only[Sem.runT,hc];have:(Mode.plain==Mode.atomic)=false:=rfl;rw[this,h1,lI]
   · obtain⟨o',h4,_⟩:=h2.keep _ _ _ hb;exact⟨rfl,f,o',h4,by simp⟩
 | store m a v k ih=>
   intro H w Q es₀ hs ⟨hm,kY,hv1,hv2,c,e,fz,hb,ho,hf,hq⟩;subst hm;have lZ:=hs _ _ _ hb;have mB:=hs.lt hb;have QO:(w.setCell a v).heap.size=w.heap.size:=by simp[World.setCell]
   have vZ:(w.setCell a v).heap[a.block]? =some (.cells (c.setIfInBounds a.off v) e fz):=by
     simp[World.setCell,Array.getElem?_modify,lZ,kY]
   have uU:∀d,d≠a.block->(w.setCell a v).heap[d]? =w.heap[d]? :=by
     intro d hd;simp only[World.setCell,Array.getElem?_modify];rw[if_neg (Ne.symm hd)]
   have ht:Trans H w (H.put a.block (true,.cells (c.setIfInBounds a.off v) e fz)) (w.setCell a v) #[]:=.VQ hs hb rfl rfl rfl QO vZ uU;obtain⟨r,H',w',es,h1,h2,h3⟩:=ih (es₀.push ⟨.cell a,true,false⟩) ht.sat hq;refine⟨r,H',w',#[⟨.cell a,true,false⟩]++es,?_,?_,h3⟩
   · have hc:w.cell? a=some (c[a.off]'ho):=by rw[hs.cell hb kY];simp[ho]
     have hz:w.frozen? a=false:=by rw[hs.frozen hb];exact hf
     have:(Mode.plain==Mode.atomic)=false:=rfl;cases v <;> first
       | exact absurd rfl (hv1 _)
       | exact absurd rfl (hv2 _)
       | (simp only[Sem.runT,hc,hz,this]
          simp only[Bool.false_eq_true,if_false,h1,lI])
   · have:=ht.trans h2;simp only[Array.empty_append] at this;refine this.list _ ⟨rfl,true,?_⟩;obtain⟨o',h4,_⟩:=this.keep _ _ _ hb;exact⟨o',h4,fun _=> rfl⟩
 | new o k ih=>
   intro H w Q es₀ hs hq;obtain⟨hn,ht⟩:=Trans.new hs o;obtain⟨r,H',w',es,h1,h2,h3⟩:=ih w.heap.size es₀ ht.sat (hq _ hn);exact⟨r,H',w',es,by simp only[Sem.runT];exact h1,by simpa using ht.trans h2,h3⟩
 | shape r k ih=>
   intro H w Q es₀ hs ⟨f,c,e,fz,hb,hq⟩;obtain⟨x,H',w',es,h1,h2,h3⟩:=ih _ es₀ hs hq;exact⟨x,H',w',es,by simp only[Sem.runT,World.shape?,hs _ _ _ hb];exact h1,h2,h3⟩
 | freeze a n k ih=>
   intro H w Q es₀ hs ⟨hn,c,e,fz,hb,hq⟩;have lZ:=hs _ _ _ hb;have QO:(w.freeze a n).heap.size=w.heap.size:=by simp[World.freeze,hn]
   have vZ:(w.freeze a n).heap[a.block]? =some (.cells c e (if fz.1==fz.2 then(a.off,a.off+n) else(min fz.1 a.off,max fz.2 (a.off+n)))):=by
     simp[World.freeze,hn,Array.getElem?_modify,lZ]
   have uU:∀d,d≠a.block->(w.freeze a n).heap[d]? =w.heap[d]? :=by
     intro d hd;simp only[World.freeze,if_neg hn,Array.getElem?_modify];rw[if_neg (Ne.symm hd)]
   have ht:Trans H w (H.put a.block (true,.cells c e (if fz.1==fz.2 then(a.off,a.off+n) else(min fz.1 a.off,max fz.2 (a.off+n))))) (w.freeze a n) #[]:=.VQ hs hb (by simp[World.freeze,hn]) (by simp[World.freeze,hn]) (by simp[World.freeze,hn]) QO vZ uU;obtain⟨r,H',w',es,h1,h2,h3⟩:=ih es₀ ht.sat hq;exact⟨r,H',w',es,by simp only[Sem.runT];exact h1,by simpa using ht.trans h2,h3⟩
 | frozen a k ih=>
   intro H w Q es₀ hs ⟨f,c,e,fz,hb,hq⟩;obtain⟨x,H',w',es,h1,h2,h3⟩:=ih _ es₀ hs hq;exact⟨x,H',w',es,by simp only[Sem.runT];rw[hs.frozen hb];exact h1,h2,h3⟩
 | getObj r k ih=>
   intro H w Q es₀ hs ⟨f,o,hb,hc,H8,hq⟩;obtain⟨x,H',w',es,h1,h2,h3⟩:=ih o (es₀.push ⟨.obj r,false,o.isChan⟩) hs hq;refine⟨x,H',w',#[⟨.obj r,false,o.isChan⟩]++es,?_,h2.list _ ?_,h3⟩
   · simp only[Sem.runT,hs _ _ _ hb];cases o <;> first
       | exact absurd rfl (hc _ _ _)
       | rw[h1,lI]
   · obtain⟨o',h4,_⟩:=h2.keep _ _ _ hb;exact⟨H8,f,o',h4,by simp⟩
 | setObj r o k ih=>
   intro H w Q es₀ hs ⟨⟨o₀,hb,hc⟩,H8,hq⟩;have ht:Trans H w (H.put r (true,o)) { w with heap:=w.heap.setIfInBounds r o } #[]:=
     .VQ hs hb rfl rfl rfl (by simp) (by simp[hs.lt hb]) fun c hc=> by simp[Ne.symm hc]
   obtain⟨x,H',w',es,h1,h2,h3⟩:=ih (es₀.push ⟨.obj r,true,o.isChan⟩) ht.sat hq;refine⟨x,H',w',#[⟨.obj r,true,o.isChan⟩]++es,?_,?_,h3⟩
   · simp only[Sem.runT,hs _ _ _ hb];cases o₀ <;> first
       | exact absurd rfl (hc _ _ _)
       | rw[h1,lI]
   · have:=ht.trans h2;simp only[Array.empty_append] at this;obtain⟨o',h4,_⟩:=this.keep _ _ _ hb;exact this.list _ ⟨H8,true,o',h4,fun _=> rfl⟩
 | choose q k ih=>
   intro H w Q es₀ hs hq;by_cases hf:q.forced=true
   · have:=hq 0;rw[if_pos hf] at this;obtain⟨x,H',w',es,h1,h2,h3⟩:=ih 0 es₀ hs this;exact⟨x,H',w',es,by simp only[Sem.runT,hf,if_true];exact h1,h2,h3⟩
   · have:=hq (w.tape w.drawn q);rw[if_neg hf] at this;have hs':Sat H { w with drawn:=w.drawn+1 }:=hs;obtain⟨x,H',w',es,h1,h2,h3⟩:=ih _ es₀ hs' this;exact⟨x,H',w',es,by simp only[Sem.runT];rw[if_neg hf];exact h1,{ h2 with tape:=h2.tape,os:=h2.os,out:=h2.out,size:=h2.size,pD:=h2.pD },h3⟩
 | sys c k ih=> exact fun _ _ hq=> hq.elim
 | program k ih=>
   intro H w Q es₀ hs hq;obtain⟨x,H',w',es,h1,h2,h3⟩:=ih P es₀ hs hq;exact⟨x,H',w',es,by simp only[Sem.runT];exact h1,h2,h3⟩
 | mark m k ih=>
   intro H w Q es₀ hs ⟨hm,hq⟩;obtain⟨x,H',w',es,h1,h2,h3⟩:=ih (es₀.push ⟨.mark m,false,true⟩) hs hq;refine⟨x,H',w',#[⟨.mark m,false,true⟩]++es,?_,h2.list ⟨.mark m,false,true⟩ ⟨hm,rfl,rfl⟩,h3⟩;simp only[Sem.runT];rw[h1,lI]
 | halt h=> exact fun _ _ hq=> hq.elim
theorem aA {α β:Type}{P:Program}(s:Sem α)(k:α->Sem β){Q:β->View->Prop}:∀ {H:View},yA P s H (fun a H'=> yA P (k a) H' Q)->yA P (s.bind k) H Q:=by
 induction s with
 | pure a=> exact fun h=> h
 | load m a c ih=> exact fun⟨h1,h2,f,x,e,fz,v,h3,h4,h5⟩=> ⟨h1,h2,f,x,e,fz,v,h3,h4,ih v h5⟩
 | store m a v c ih=> exact fun⟨h1,h2,h3,h4,x,e,fz,h5,h6,h7,h8⟩=> ⟨h1,h2,h3,h4,x,e,fz,h5,h6,h7,ih h8⟩
 | new o c ih=> exact fun h b hb=> ih b (h b hb)
 | shape r c ih=> exact fun⟨f,x,e,fz,h1,h2⟩=> ⟨f,x,e,fz,h1,ih _ h2⟩
 | freeze a n c ih=> exact fun⟨h1,x,e,fz,h2,h3⟩=> ⟨h1,x,e,fz,h2,ih h3⟩
 | frozen a c ih=> exact fun⟨f,x,e,fz,h1,h2⟩=> ⟨f,x,e,fz,h1,ih _ h2⟩
 | getObj r c ih=> exact fun⟨f,o,h1,h2,h3,h4⟩=> ⟨f,o,h1,h2,h3,ih _ h4⟩
 | setObj r o c ih=> exact fun⟨h1,h2,h3⟩=> ⟨h1,h2,ih h3⟩
 | choose q c ih=> exact fun h t=> ih _ (h t)
 | sys c k ih=> exact fun h=> h.elim
 | program c ih=> exact fun h=> ih _ h
 | mark m c ih=> exact fun⟨h1,h2⟩=> ⟨h1,ih h2⟩
 | halt h=> exact fun h=> h.elim
theorem MA {α:Type}{P:Program}(s:Sem α){Q Q':α->View->Prop}(hQ:∀a H,Q a H->Q' a H):∀ {H:View},yA P s H Q->yA P s H Q':=by
 induction s with
 | pure a=> exact fun h=> hQ _ _ h
 | load m a c ih=> exact fun⟨h1,h2,f,x,e,fz,v,h3,h4,h5⟩=> ⟨h1,h2,f,x,e,fz,v,h3,h4,ih v h5⟩
 | store m a v c ih=> exact fun⟨h1,h2,h3,h4,x,e,fz,h5,h6,h7,h8⟩=> ⟨h1,h2,h3,h4,x,e,fz,h5,h6,h7,ih h8⟩
 | new o c ih=> exact fun h b hb=> ih b (h b hb)
 | shape r c ih=> exact fun⟨f,x,e,fz,h1,h2⟩=> ⟨f,x,e,fz,h1,ih _ h2⟩
 | freeze a n c ih=> exact fun⟨h1,x,e,fz,h2,h3⟩=> ⟨h1,x,e,fz,h2,ih h3⟩
 | frozen a c ih=> exact fun⟨f,x,e,fz,h1,h2⟩=> ⟨f,x,e,fz,h1,ih _ h2⟩
 | getObj r c ih=> exact fun⟨f,o,h1,h2,h3,h4⟩=> ⟨f,o,h1,h2,h3,ih _ h4⟩
 | setObj r o c ih=> exact fun⟨h1,h2,h3⟩=> ⟨h1,h2,ih h3⟩
 | choose q c ih=> exact fun h t=> ih _ (h t)
 | sys c k ih=> exact fun h=> h.elim
 | program c ih=> exact fun h=> ih _ h
 | mark m c ih=> exact fun⟨h1,h2⟩=> ⟨h1,ih h2⟩
 | halt h=> exact fun h=> h.elim
def View.plus(H F:View):View:=fun b=>
 match H b with
 | some x=> some x
 | none=> F b
def Dj(H F:View):Prop:=∀b x,F b=some x->H b=none
structure Md(P:Program) where
 main:Bool
 ok:World->Prop
 Ph:View->Goroutine->(View->Goroutine->Prop)->Prop
 frame:∀H g Po F,Ph H g Po->Dj H F->Ph (H.plus F) g fun H'' g'=> ∃H',H''=H'.plus F/\Dj H' F/\Po H' g'
def GK {P:Program}(M:Md P)(H:View)(g:Goroutine)(X:View->Goroutine->Prop):Prop:=
 g.status=.running/\∀w,Sat H w->M.ok w->∃g' w' es H',stepG P M.main g w=.go g' w' es/\Trans H w H' w' es/\X H' g'
def T {P:Program}(M:Md P)(St:View->Goroutine->Prop)(H:View)(g:Goroutine):Prop:=
 ∀X:View->Goroutine->Prop,(∀H g,St H g->X H g)->(∀H g,GK M H g X->X H g)->(∀H g Po,M.Ph H g Po->(∀H' g',Po H' g'->X H' g')->X H g)->X H g
section
variable {P:Program}{M:Md P}{St:View->Goroutine->Prop}{H:View}{g:Goroutine}
theorem GK.mono {X Y:View->Goroutine->Prop}(h:GK M H g X)(hXY:∀H g,X H g->Y H g):GK M H g Y:=
 ⟨h.1,fun w hw ho=> let ⟨g',w',es,H',h1,h2,h3⟩:=h.2 w hw ho;⟨g',w',es,H',h1,h2,hXY _ _ h3⟩⟩
theorem T.stop(h:St H g):T M St H g:=fun _ h1 _ _=> h1 _ _ h
theorem T.step(h:GK M H g (T M St)):T M St H g:=fun X h1 h2 h3=> h2 _ _ (h.mono fun _ _ k=> k X h1 h2 h3)
theorem T.phase {Po:View->Goroutine->Prop}(h:M.Ph H g Po)(k:∀H' g',Po H' g'->T M St H' g'):T M St H g:=
 fun X h1 h2 h3=> h3 _ _ _ h fun H' g' hp=> k H' g' hp X h1 h2 h3
theorem T.bind {St':View->Goroutine->Prop}(h:T M St H g)(k:∀H' g',St H' g'->T M St' H' g'):T M St' H g:=
 h (T M St') k (fun _ _ hs=> .step hs) (fun _ _ _ hp hk=> .phase hp hk)
theorem T.ind {X:View->Goroutine->Prop}(h:T M St H g)(h1:∀H g,St H g->X H g)(h2:∀H g,GK M H g (fun H g=> T M St H g/\X H g)->X H g)
  (h3:∀H g Po,M.Ph H g Po->(∀H' g',Po H' g'->T M St H' g'/\X H' g')->X H g):X H g:=
 (h (fun H g=> T M St H g/\X H g) (fun _ _ hs=> ⟨.stop hs,h1 _ _ hs⟩) (fun _ _ hs=> ⟨.step (hs.mono fun _ _ k=> k.1),h2 _ _ hs⟩)
  (fun _ _ _ hp hk=> ⟨.phase hp fun H' g' q=> (hk H' g' q).1,h3 _ _ _ hp hk⟩)).2
theorem xA {H F:View}{b:Nat}{x:Bool×Obj}(h:H b=some x):H.plus F b=some x:=by simp[View.plus,h]
theorem KA {H F:View}{b:Nat}(h:H b=none):H.plus F b=F b:=by simp[View.plus,h]
theorem Trans.frame {H H' F:View}{w w':World}{es:Array Event}(h:Trans H w H' w' es)(hd:Dj H F)(hs:Sat (H.plus F) w):Dj H' F/\Trans (H.plus F) w (H'.plus F) w' es:=by
 have RI:Dj H' F:=by
  intro b x hb;cases hx:H' b with
  | none=> rfl
  | some y=>
   obtain⟨f,o'⟩:=y;have mB:b<w.heap.size:=hs.lt (x:=x) (by rw[KA (hd b x hb)];exact hb);rcases h.ext b f o' hx with ⟨o,h1⟩|⟨_,h2⟩
   ·rw[hd b x hb] at h1;cases h1
   ·omega
 refine⟨RI,h.tape,h.os,h.out,h.size,fun b hb ho=> h.pD b hb fun o hx=> ho o (xA hx),fun b f o hb=> ?_,fun b f o' hb=> ?_,fun b f o hb=> ?_,fun e he=> ?_⟩
 ·unfold View.plus at hb;split at hb
  ·rename_i x hx
   cases hb
   exact h.sat b f o hx
  ·rename_i hx
   have h1:=hd b _ hb;have mB:b<w.heap.size:=hs.lt (x:=(f,o)) (by rw[KA h1];exact hb);rw[h.pD b mB fun o hx=> by rw[h1] at hx;cases hx];exact hs b f o (by rw[KA h1];exact hb)
 ·unfold View.plus at hb;split at hb
  ·rename_i x hx
   cases hb
   rcases h.ext b f o' hx with ⟨o,h1⟩|h2
   ·exact .inl ⟨o,xA h1⟩
   ·exact .inr h2
  ·exact .inl ⟨o',by rw[KA (hd b _ hb)];exact hb⟩
 ·unfold View.plus at hb;split at hb
  ·rename_i x hx
   cases hb
   obtain⟨o',h1,h2⟩:=h.keep b f o hx;exact⟨o',xA h1,h2⟩
  ·exact⟨o,by rw[KA (RI b _ hb)];exact hb,fun _=> rfl⟩
 ·have:=h.ev e he;unfold FK at this ⊢;split
  ·rename_i a heq
   rw[heq] at this;obtain⟨h1,f,o,h2,h3⟩:=this;exact⟨h1,f,o,xA h2,h3⟩
  ·rename_i r heq
   rw[heq] at this;obtain⟨h1,f,o,h2,h3⟩:=this;exact⟨h1,f,o,xA h2,h3⟩
  ·rename_i heq
   rw[heq] at this;exact this
  ·rename_i h1 h2 h3
   split at this
   ·rename_i heq;exact(h1 _ heq).elim
   ·rename_i heq;exact(h2 _ heq).elim
   ·rename_i heq;exact(h3 _ heq).elim
   ·exact this
theorem T.frame(h:T M St H g):∀F,Dj H F->T M (fun H'' g'=> ∃H',H''=H'.plus F/\Dj H' F/\St H' g') (H.plus F) g:=by
 refine h (fun H g=> ∀F,Dj H F->T M (fun H'' g'=> ∃H',H''=H'.plus F/\Dj H' F/\St H' g') (H.plus F) g) (fun H g hs F hd=> .stop ⟨H,rfl,hd,hs⟩) (fun H g hs F hd=> .step ⟨hs.1,fun w hw ho=> ?_⟩) (fun H g Po hp hk F hd=> .phase (M.frame H g Po F hp hd) ?_)
 ·obtain⟨g',w',es,H',h1,h2,h3⟩:=hs.2 w (fun b f o hb=> hw b f o (xA hb)) ho;obtain⟨h4,h5⟩:=h2.frame hd hw;exact⟨g',w',es,_,h1,h5,h3 F h4⟩
 ·rintro H'' g' ⟨H',rfl,RI,hpo⟩;exact hk H' g' hpo F RI
theorem T.OC {g':Goroutine}(hs:g.status=.running)(h:∀w,stepG P M.main g w=.go g' w #[])(k:T M St H g'):T M St H g:=
 .step ⟨hs,fun w hw _=> ⟨g',w,#[],H,h w,.refl hw,k⟩⟩
end
structure FB where
 fn:FuncId
 kind:CallKind
 rd:Option Nat
def FB.at(b:FB)(tmps:Array Value)(ds:List Deferred)(todo:List Item):Frame:=
 { fn:=b.fn,tmps,todo,defers:=ds,mode:=.run,kind:=b.kind,roundOf:=b.rd }
def FB.back(b:FB)(tmps:Array Value)(ds:List Deferred)(todo:List Item):Frame:=
 { fn:=b.fn,tmps,todo,defers:=ds,mode:=.returning,kind:=b.kind,roundOf:=b.rd }
def uB(tmps:Array Value):Operand->Value
 | .tmp t=> tmps.getD t undef
 | .const v=> v
 | .global g=> .pointer (some ⟨g,0,none⟩)
 | .func f=> .func (.func f) #[] #[]
def KB(tmps:Array Value)(dst:Option Tmp)(v:Value):Array Value:=
 match dst with
 | some d=> tmps.setIfInBounds d v
 | none=> tmps
theorem FB.eval_at(b:FB)(tmps:Array Value)(ds:List Deferred)(todo:List Item):(b.at tmps ds todo).eval=uB tmps:=by
 funext x;cases x <;> rfl
theorem FB.finish_at(b:FB)(tmps:Array Value)(ds:List Deferred)(ops:Array Oper)(i:Nat)(rest:List Nat)(k:List Item)(v:Value):
  (b.at tmps ds (.inRegion ops (i::rest)::k)).finish v=b.at (KB tmps ((ops[i]?).bind (·.dst)) v) ds (.inRegion ops rest::k):=by
 cases h:(ops[i]?).bind (·.dst) <;> simp[Frame.finish,FB.at,KB,h]
section
variable {P:Program}{M:Md P}{St:View->Goroutine->Prop}{H:View}{b:FB}{tmps:Array Value}{ds:List Deferred}{k:List Item}{cs:List Frame}
theorem T.skip(h:T M St H (G (b.at tmps ds k) cs)):T M St H (G (b.at tmps ds (.code .skip::k)) cs):=
 .OC rfl (fun _=> by simp[G,stepG,stepG.exec,FB.at]) h
theorem T.inBlock {id:Nat}(h:T M St H (G (b.at tmps ds k) cs)):T M St H (G (b.at tmps ds (.inBlock id::k)) cs):=
 .OC rfl (fun _=> by simp[G,stepG,stepG.exec,FB.at]) h
theorem T.seq {x y:Code}(h:T M St H (G (b.at tmps ds (.code x:: .code y::k)) cs)):T M St H (G (b.at tmps ds (.code (.seq x y)::k)) cs):=
 .OC rfl (fun _=> by simp[G,stepG,stepG.exec,FB.at]) h
theorem T.cond {c:Operand}{x y:Code}{t:Bool}(hc:uB tmps c=.bool t)(h:T M St H (G (b.at tmps ds (.code (if t then x else y)::k)) cs)):
  T M St H (G (b.at tmps ds (.code (.cond c x y)::k)) cs):=
 .OC rfl (fun _=> by
  have h':(b.at tmps ds (.code (.cond c x y)::k)).eval c=.bool t:=by rw[FB.eval_at];exact hc
  simp only[FB.at] at h';simp[G,stepG,stepG.exec,FB.at,h']) h
theorem T.block {id:Nat}{c:Code}(h:T M St H (G (b.at tmps ds (.code c:: .inBlock id::k)) cs)):T M St H (G (b.at tmps ds (.code (.block id c)::k)) cs):=
 .OC rfl (fun _=> by simp[G,stepG,stepG.exec,FB.at]) h
theorem T.loop {c:Code}(h:T M St H (G (b.at tmps ds (.code c:: .inLoop c::k)) cs)):T M St H (G (b.at tmps ds (.code (.loop c)::k)) cs):=
 .OC rfl (fun _=> by simp[G,stepG,stepG.exec,FB.at]) h
theorem T.inLoop {c:Code}(h:T M St H (G (b.at tmps ds (.code c:: .inLoop c::k)) cs)):T M St H (G (b.at tmps ds (.inLoop c::k)) cs):=
 .OC rfl (fun _=> by simp[G,stepG,stepG.exec,FB.at]) h
theorem T.exit {id:Nat}{k':List Item}(he:exitTo id k=some k')(h:T M St H (G (b.at tmps ds k') cs)):T M St H (G (b.at tmps ds (.code (.exit id)::k)) cs):=
 .OC rfl (fun _=> by simp[G,stepG,stepG.exec,FB.at,he]) h
theorem T.region {id:Nat}{ops:Array Oper}(h:T M St H (G (b.at tmps ds (.inRegion ops (List.range ops.size)::k)) cs)):T M St H (G (b.at tmps ds (.code (.region id ops false)::k)) cs):=
 .OC rfl (fun _=> by simp[G,stepG,stepG.exec,FB.at]) h
theorem T.EJ {ops:Array Oper}(h:T M St H (G (b.at tmps ds k) cs)):T M St H (G (b.at tmps ds (.inRegion ops []::k)) cs):=
 .OC rfl (fun _=> by simp[G,stepG,stepG.exec,FB.at]) h
theorem T.kC(hr:b.rd=none)(h:T M St H (G (b.back tmps ds (.code .ret::k)) cs)):T M St H (G (b.at tmps ds (.code .ret::k)) cs):=
 .OC rfl (fun _=> by simp[G,stepG,stepG.exec,FB.at,FB.back,hr]) h
theorem T.over(hr:b.rd=none)(h:T M St H (G (b.back tmps ds []) cs)):T M St H (G (b.at tmps ds []) cs):=
 .OC rfl (fun _=> by simp[G,stepG,stepG.exec,FB.at,FB.back,hr]) h
theorem T.BL {id:Nat}{ops:Array Oper}(h:∀t,T M St H (G (b.at tmps ds (.inRegion ops (Region.schedule (P.follows .mixedOrders) ops t)::k)) cs)):
  T M St H (G (b.at tmps ds (.code (.region id ops true)::k)) cs):=
 .step ⟨rfl,fun w hw _=> ⟨_,{ w with drawn:=w.drawn+1 },#[],H,by simp[G,stepG,stepG.exec,FB.at,choose,Sem.run,Question.forced,Question.cut];rfl,
  { Trans.refl hw with tape:=rfl,os:=rfl,out:=rfl,size:=Nat.le_refl _,pD:=fun _ _ _=> rfl,sat:=hw },h _⟩⟩
theorem T.AJ {ops:Array Oper}{i:Nat}{rest:List Nat}{o:Oper}(ho:ops[i]? =some o)(hw:Region.wanted o (yielded ops tmps)=false)
  (h:T M St H (G (b.at (KB tmps o.dst undef) ds (.inRegion ops rest::k)) cs)):T M St H (G (b.at tmps ds (.inRegion ops (i::rest)::k)) cs):=by
 refine .OC rfl (fun w=> ?_) h;have hf:=FB.finish_at b tmps ds ops i rest k undef;rw[ho] at hf;simp only[Option.bind_some] at hf;rw[<-hf];simp[G,stepG,stepG.exec,FB.at,ho,hw]
def aDv {P:Program}(M:Md P)(St:View->Goroutine->Prop)(b:FB)(tmps:Array Value)(ds:List Deferred)(ops:Array Oper)(i:Nat)(rest:List Nat)(k:List Item)(cs:List Frame)(dst:Option Tmp)(n:Next)(H:View):Prop:=
 match n with
 | .value v=> T M St H (G (b.at (KB tmps dst v) ds (.inRegion ops rest::k)) cs)
 | .skip=> T M St H (G (b.at (KB tmps dst undef) ds (.inRegion ops rest::k)) cs)
 | .enter f args=> T M St H (G (Frame.enter P f args .normal) (b.at tmps ds (.inRegion ops (i::rest)::k)::cs))
 | .round l f tmps' assign body=> T M St H (G (Frame.round l f tmps' assign body .normal) (b.at tmps ds (.inRegion ops (i::rest)::k)::cs))
 | .defer d=> T M St H (G (b.at (KB tmps dst undef) (d::ds) (.inRegion ops rest::k)) cs)
 | _=> False
theorem T.op {ops:Array Oper}{i:Nat}{rest:List Nat}{o:Oper}(ho:ops[i]? =some o)(hw:Region.wanted o (yielded ops tmps)=true)(hd:b.rd=none\/∀c,o.op≠ .defer c)
  (h:yA P (execOp (uB tmps) o) H (aDv M St b tmps ds ops i rest k cs o.dst)):T M St H (G (b.at tmps ds (.inRegion ops (i::rest)::k)) cs):=by
 refine .step ⟨rfl,fun w hs _=> ?_⟩;obtain⟨n,H',w',es,h1,h2,h3⟩:=yB _ #[] hs h;rw[Array.empty_append] at h1;have hg:stepG P M.main (G (b.at tmps ds (.inRegion ops (i::rest)::k)) cs) w=stepG.apply P true (b.at tmps ds (.inRegion ops (i::rest)::k)) cs none (execOp (b.at tmps ds (.inRegion ops (i::rest)::k)).eval o) w:=by
  rcases hd with hd|hd
  ·simp[G,stepG,stepG.exec,stepG.oper,Frame.oper?,FB.at,ho,hw,hd]
  ·cases iA:o.op <;> first
    | exact absurd iA (hd _)
    | (cases MK:b.rd <;> simp[G,stepG,stepG.exec,stepG.oper,Frame.oper?,FB.at,ho,hw,iA,MK])
 rw[FB.eval_at] at hg;have XC:∀v,(b.at tmps ds (.inRegion ops (i::rest)::k)).finish v=b.at (KB tmps o.dst v) ds (.inRegion ops rest::k):=by
  intro v;rw[FB.finish_at,ho];rfl
 generalize CH:seen P (b.at tmps ds (.inRegion ops (i::rest)::k)).fn (if(b.at tmps ds (.inRegion ops (i::rest)::k)).kind==.early then #[] else es)=es';have cE:∀e∈es',e∈es:=fun e he=> by
  rw[<-CH] at he;have:=mem_seen he;split at this
  ·simp at this
  ·exact this
 have ZR:∀x:GStep,(stepG.apply P true (b.at tmps ds (.inRegion ops (i::rest)::k)) cs none (execOp (uB tmps) o) w=GStep.after es' x)->stepG P M.main (G (b.at tmps ds (.inRegion ops (i::rest)::k)) cs) w=GStep.after es' x:=
  fun x hx=> hg.trans hx
 cases n <;> try exact h3.elim
 case value v=>
  refine⟨_,w',es',H',(ZR (.go (G (b.at (KB tmps o.dst v) ds (.inRegion ops rest::k)) cs) w') ?_).trans (by simp[GStep.after]),h2.sub cE,h3⟩;rw[<-CH,<-XC];unfold stepG.apply;rw[if_pos rfl,h1];rfl
 case skip=>
  refine⟨_,w',es',H',(ZR (.go (G (b.at (KB tmps o.dst undef) ds (.inRegion ops rest::k)) cs) w') ?_).trans (by simp[GStep.after]),h2.sub cE,h3⟩;rw[<-CH,<-XC];unfold stepG.apply;rw[if_pos rfl,h1];rfl
 case enter f args=>
  refine⟨_,w',es',H',(ZR (.go (G (Frame.enter P f args .normal) (b.at tmps ds (.inRegion ops (i::rest)::k)::cs)) w') ?_).trans (by simp[GStep.after]),h2.sub cE,h3⟩;rw[<-CH];unfold stepG.apply;rw[if_pos rfl,h1];rfl
 case round l f tmps' assign body=>
  refine⟨_,w',es',H',(ZR (.go (G (Frame.round l f tmps' assign body .normal) (b.at tmps ds (.inRegion ops (i::rest)::k)::cs)) w') ?_).trans (by simp[GStep.after]),h2.sub cE,h3⟩;rw[<-CH];unfold stepG.apply;rw[if_pos rfl,h1];rfl
 case defer d=>
  have aCq:({ b.at tmps ds (.inRegion ops (i::rest)::k) with defers:=d::ds }:Frame).finish undef=b.at (KB tmps o.dst undef) (d::ds) (.inRegion ops rest::k):=by
   have:=FB.finish_at b tmps (d::ds) ops i rest k undef;rw[ho] at this;exact this
  refine⟨_,w',es',H',(ZR (.go (G (b.at (KB tmps o.dst undef) (d::ds) (.inRegion ops rest::k)) cs) w') ?_).trans (by simp[GStep.after]),h2.sub cE,h3⟩;rw[<-CH,<-aCq];unfold stepG.apply;rw[if_pos rfl,h1];rfl
theorem T.leave {fn:Func}{c:Frame}{todo:List Item}(hf:P.funcs[b.fn]? =some fn)(hk:b.kind=.normal)
  (h:yA P (results fn tmps) H fun v H'=> T M St H' (G (c.finish v) cs)):T M St H (G (b.back tmps [] todo) (c::cs)):=by
 refine .step ⟨rfl,fun w hs _=> ?_⟩;obtain⟨v,H',w',es,h1,h2,h3⟩:=yB _ #[] hs h;rw[Array.empty_append] at h1;refine⟨G (c.finish v) cs,w',seen P b.fn es,H',?_,h2.sub fun e he=> mem_seen he,h3⟩;have:stepG P M.main (G (b.back tmps [] todo) (c::cs)) w=unwind P M.main (b.back tmps [] todo) (c::cs) none w:=by
  simp[G,stepG,FB.back]
 rw[this];unfold unwind;simp only[FB.back,hf,h1,doReturn,hk,GStep.after,G,Array.append_empty]
end
abbrev Rg:=List (Nat×Value)
def lk:Rg->Nat->Option Value
 | [],_=> none
 | (e,v)::R,d=> match Nat.beq e d with
  | true=> some v
  | false=> lk R d
theorem zQ(e:Nat)(v:Value)(R:Rg)(d:Nat):lk ((e,v)::R) d=if e=d then some v else lk R d:=by
 by_cases h:e=d
 ·subst h;rw[if_pos rfl,lk,Nat.beq_refl]
 ·have:Nat.beq e d=false:=by
   cases hb:Nat.beq e d with
   | false=> rfl
   | true=> exact absurd (Nat.eq_of_beq_eq_true hb) h
  rw[if_neg h,lk,this]
def PA(n:Nat)(R:Rg)(tmps:Array Value):Prop:=tmps.size=n/\∀d v,lk R d=some v->tmps[d]? =some v
abbrev Bl:=List (Nat×Bool×Obj)
def View.le(H H':View):Prop:=∀b x,H b=some x->H' b=some x
theorem View.le_refl(H:View):H.le H:=fun _ _ h=> h
theorem View.le_trans {H H' H'':View}(h:H.le H')(k:H'.le H''):H.le H'':=fun b x hb=> k b x (h b x hb)
theorem View.ZM {H:View}{b:Nat}(x:Bool×Obj)(h:H b=none):H.le (H.put b x):=fun c y hc=> by
 rw[View.kA]
 ·exact hc
 ·intro e;rw[e,h] at hc;cases hc
structure eA(H₀:View)(L:Bl)(H:View):Prop where
 nodup:(L.map (·.1)).Nodup
 out:∀x∈L,H₀ x.1=none
 at_:∀x∈L,H x.1=some x.2
 base:H₀.le H
theorem eA.nil(H:View):eA H [] H:=⟨by simp,by simp,by simp,View.le_refl H⟩
theorem eA.mono {H₀ H H':View}{L:Bl}(h:eA H₀ L H)(k:H.le H'):eA H₀ L H':=
 ⟨h.nodup,h.out,fun x hx=> k _ _ (h.at_ x hx),View.le_trans h.base k⟩
theorem eA.get {H₀ H:View}{L:Bl}(h:eA H₀ L H){i:Nat}{b:Nat}{x:Bool×Obj}(hi:L[i]? =some (b,x)):H b=some x:=
 h.at_ _ (List.mem_of_getElem? hi)
theorem eA.cons {H₀ H:View}{L:Bl}(h:eA H₀ L H){b:Nat}(x:Bool×Obj)(hb:H b=none):eA H₀ ((b,x)::L) (H.put b x) where
 nodup:=by
  simp only[List.map_cons,List.nodup_cons];refine⟨fun hm=> ?_,h.nodup⟩;obtain⟨y,hy,e⟩:=List.mem_map.1 hm;have:=h.at_ y hy;rw[e,hb] at this;cases this
 out :=fun y hy=> by
  rcases List.mem_cons.1 hy with rfl|hy
  ·cases hh:H₀ b with
   | none=> rfl
   | some z=> have:=h.base _ _ hh;rw[hb] at this;cases this
  ·exact h.out y hy
 at_ :=fun y hy=> by
  rcases List.mem_cons.1 hy with rfl|hy
  ·exact View.qA ..
  ·rw[View.kA]
   ·exact h.at_ y hy
   ·intro e;have:=h.at_ y hy;rw[e,hb] at this;cases this
 base:=View.le_trans h.base (View.ZM x hb)
theorem eH {L:Bl}(h:(L.map (·.1)).Nodup){i j:Nat}{b:Nat}{x y:Bool×Obj}(hi:L[i]? =some (b,x))(hj:L[j]? =some (b,y)):i=j:=by
 have h1:(L.map (·.1))[i]? =some b:=by simp[hi]
 have h2:(L.map (·.1))[j]? =some b:=by simp[hj]
 obtain⟨NO,e1⟩:=List.getElem?_eq_some_iff.1 h1;obtain⟨OO,e2⟩:=List.getElem?_eq_some_iff.1 h2;have hp:=List.pairwise_iff_getElem.1 h;rcases Nat.lt_trichotomy i j with mB|heq|hgt
 ·exact absurd (e1.trans e2.symm) (hp i j NO OO mB)
 ·exact heq
 ·exact absurd (e2.trans e1.symm) (hp j i OO NO hgt)
theorem eA.set {H₀ H:View}{L:Bl}(h:eA H₀ L H){i:Nat}{b:Nat}{x:Bool×Obj}(hi:L[i]? =some (b,x))(y:Bool×Obj):eA H₀ (L.set i (b,y)) (H.put b y) where
 nodup :=by
  have:(L.set i (b,y)).map (·.1)=L.map (·.1):=by
   rw[List.map_set];apply List.ext_getElem?
   intro k;by_cases e:i=k
   ·subst e;have:=(List.getElem?_eq_some_iff.1 hi).1;rw[List.getElem?_set_self (by simpa using this)];simp[hi]
   ·rw[List.getElem?_set_ne e]
  rw[this];exact h.nodup
 out :=fun z hz=> by
  obtain⟨k,hk⟩:=List.mem_iff_getElem?.1 hz;by_cases e:i=k
  ·subst e;have:=(List.getElem?_eq_some_iff.1 hi).1;rw[List.getElem?_set_self this] at hk;cases hk
   exact h.out (b,x) (List.mem_of_getElem? hi)
  ·rw[List.getElem?_set_ne e] at hk;exact h.out _ (List.mem_of_getElem? hk)
 at_ :=fun z hz=> by
  obtain⟨k,hk⟩:=List.mem_iff_getElem?.1 hz;by_cases e:i=k
  ·subst e;have:=(List.getElem?_eq_some_iff.1 hi).1;rw[List.getElem?_set_self this] at hk;cases hk
   exact View.qA ..
  ·rw[List.getElem?_set_ne e] at hk;rw[View.kA]
   ·exact h.at_ _ (List.mem_of_getElem? hk)
   ·intro e';exact e (eH h.nodup hi (e'▸hk:L[k]? =some (b,z.2)))
 base:=fun c z hc=> by
  rw[View.kA]
  ·exact h.base _ _ hc
  ·intro e;have h1:=h.out (b,x) (List.mem_of_getElem? hi);rw[<-e,hc] at h1;cases h1
theorem eA.less {H₀ H:View}{L L':Bl}(h:eA H₀ L H)(k:L'.Sublist L):eA H₀ L' H:=
 ⟨h.nodup.sublist (k.map _),fun x hx=> h.out x (k.subset hx),fun x hx=> h.at_ x (k.subset hx),h.base⟩
section
variable {P:Program}(M:Md P)(St:View->Goroutine->Prop)(n:Nat)(b:FB)(H₀:View)(cs:List Frame)
def Tc(R:Rg)(L:Bl)(ds:List Deferred)(todo:List Item):Prop:=
 ∀H tmps,eA H₀ L H->PA n R tmps->T M St H (G (b.at tmps ds todo) cs)
def To(dl:List (Option Tmp))(R:Rg)(L:Bl)(ds:List Deferred)(l:List Oper)(k:List Item):Prop:=
 ∀(arr:Array Oper) (ix:List Nat),(∀j:Nat,(arr[j]?).bind (fun o:Oper=> o.dst)=(dl[j]?).join)->ix.map (arr[·]?)=l.map some->Tc M St n b H₀ cs R L ds (.inRegion arr ix::k)
end
section
variable {P:Program}{M:Md P}{St:View->Goroutine->Prop}{n:Nat}{b:FB}{H₀:View}{cs:List Frame}{R R':Rg}{L L':Bl}{ds:List Deferred}{k:List Item}
theorem Tc.skip(h:Tc M St n b H₀ cs R L ds k):Tc M St n b H₀ cs R L ds (.code .skip::k):=fun H tmps hs hr=> .skip (h H tmps hs hr)
theorem Tc.inBlock {id:Nat}(h:Tc M St n b H₀ cs R L ds k):Tc M St n b H₀ cs R L ds (.inBlock id::k):=fun H tmps hs hr=> .inBlock (h H tmps hs hr)
theorem Tc.seq {x y:Code}(h:Tc M St n b H₀ cs R L ds (.code x:: .code y::k)):Tc M St n b H₀ cs R L ds (.code (.seq x y)::k):=fun H tmps hs hr=> .seq (h H tmps hs hr)
theorem Tc.block {id:Nat}{c:Code}(h:Tc M St n b H₀ cs R L ds (.code c:: .inBlock id::k)):Tc M St n b H₀ cs R L ds (.code (.block id c)::k):=fun H tmps hs hr=> .block (h H tmps hs hr)
theorem Tc.exit {id:Nat}{k':List Item}(he:exitTo id k=some k')(h:Tc M St n b H₀ cs R L ds k'):Tc M St n b H₀ cs R L ds (.code (.exit id)::k):=fun H tmps hs hr=> .exit he (h H tmps hs hr)
theorem Tc.loop {c:Code}(h:Tc M St n b H₀ cs R L ds (.code c:: .inLoop c::k)):Tc M St n b H₀ cs R L ds (.code (.loop c)::k):=fun H tmps hs hr=> .loop (h H tmps hs hr)
theorem Tc.inLoop {c:Code}(h:Tc M St n b H₀ cs R L ds (.code c:: .inLoop c::k)):Tc M St n b H₀ cs R L ds (.inLoop c::k):=fun H tmps hs hr=> .inLoop (h H tmps hs hr)
def GA(R:Rg):Operand->Option Value
 | .tmp t=> lk R t
 | .const v=> some v
 | .global g=> some (.pointer (some ⟨g,0,none⟩))
 | .func f=> some (.func (.func f) #[] #[])
theorem PA.ev {tmps:Array Value}(h:PA n R tmps){x:Operand}{v:Value}(hx:GA R x=some v):uB tmps x=v:=by
 cases x with
 | tmp t=>
  have:=h.2 t v hx;simp[uB,this]
 | const u=> simpa [GA,uB] using hx
 | global g=> simpa [GA,uB] using hx
 | func f=> simpa [GA,uB] using hx
theorem PA.put {tmps:Array Value}(h:PA n R tmps){d:Nat}(hd:d<n)(v:Value):PA n ((d,v)::R) (tmps.setIfInBounds d v):=by
 refine⟨by simpa using h.1,fun e u hu=> ?_⟩;rw[zQ] at hu;split at hu
 ·rename_i heq
  subst heq;cases hu
  simp[h.1,hd]
 ·rename_i gB
  rw[Array.getElem?_setIfInBounds_ne gB];exact h.2 e u hu
theorem Tc.cond {c:Operand}{x y:Code}{t:Bool}(hc:GA R c=some (.bool t))(h1:t=true->Tc M St n b H₀ cs R L ds (.code x::k))(h2:t=false->Tc M St n b H₀ cs R L ds (.code y::k)):
  Tc M St n b H₀ cs R L ds (.code (.cond c x y)::k):=fun H tmps hs hr=> by
 refine .cond (hr.ev hc) ?_;cases t with
 | true=> exact h1 rfl H tmps hs hr
 | false=> exact h2 rfl H tmps hs hr
theorem Tc.region {id:Nat}{ops:Array Oper}{dl:List (Option Tmp)}{l:List Oper}(hl:ops.toList=l)(nR:l.map (fun o:Oper=> o.dst)=dl)(h:To M St n b H₀ cs dl R L ds l k):Tc M St n b H₀ cs R L ds (.code (.region id ops false)::k):=fun H tmps hs hr=> by
 subst hl nR;refine .region (h ops _ (fun j=> ?_) ?_ H tmps hs hr)
 ·simp only[List.getElem?_map,Array.getElem?_toList];cases ops[j]? <;> rfl
 ·apply List.ext_getElem?
  intro j;simp only[List.getElem?_map];by_cases hj:j<ops.size
  ·simp[hj]
  ·have h1:(List.range ops.size)[j]? =none:=by simp;omega
   have h2:ops.toList[j]? =none:=by simp;omega
   rw[h1,h2];rfl
theorem To.done {dl:List (Option Tmp)}(h:Tc M St n b H₀ cs R L ds k):To M St n b H₀ cs dl R L ds [] k:=fun arr ix _ hx=> by
 cases ix with
 | nil=> exact fun H tmps hs hr=> .EJ (h H tmps hs hr)
 | cons i r=> simp at hx
def JA(dl:List (Option Tmp))(R:Rg)(o:Oper):Option Bool:=
 match o.guard with
 | none=> some true
 | some (j,w)=>
  match (dl[j]?).join with
  | none=> none
  | some d=>
   match lk R d with
   | some (.bool x)=> some (x==w)
   | _=> none
theorem jB {dl:List (Option Tmp)}{o:Oper}{t:Bool}{arr:Array Oper}{tmps:Array Value}(ha:∀j:Nat,(arr[j]?).bind (fun o:Oper=> o.dst)=(dl[j]?).join)(hr:PA n R tmps)(h:JA dl R o=some t):Region.wanted o (yielded arr tmps)=t:=by
 unfold JA at h;unfold Region.wanted;split at h
 ·rename_i hg
  rw[hg];simpa using h
 ·rename_i j w hg
  rw[hg];split at h
  ·cases h
  ·rename_i d hd
   split at h
   ·rename_i x hx
    simp only[yielded,ha j,hd,Option.bind_some,hr.2 d _ hx];cases h
    cases x <;> cases w <;> rfl
   ·cases h
theorem To.mM {dl:List (Option Tmp)}{o:Oper}{l:List Oper}{d:Nat}(hd:o.dst=some d)(hn:d<n)(hw:JA dl R o=some false)(h:To M St n b H₀ cs dl ((d,undef)::R) L ds l k):To M St n b H₀ cs dl R L ds (o::l) k:=fun arr ix ha hx=> by
 cases ix with
 | nil=> simp at hx
 | cons i r=>
  simp only[List.map_cons,List.cons.injEq] at hx;intro H tmps hs hr;refine .AJ hx.1 (jB ha hr hw) ?_;rw[hd];exact h arr r ha hx.2 H _ hs (hr.put hn _)
end
def IL {P:Program}(M:Md P)(fr:Frame)(H:View)(Q:Value->View->Prop):Prop:=
 ∀(St:View->Goroutine->Prop) (c:Frame) (cs:List Frame),(∀v H',Q v H'->T M St H' (G (c.finish v) cs))->T M St H (G fr (c::cs))
def cA {P:Program}(M:Md P)(f:FuncId)(args:Array Value)(H:View)(Q:Value->View->Prop):Prop:=IL M (Frame.enter P f args .normal) H Q
theorem IL.mono {P:Program}{M:Md P}{fr:Frame}{H:View}{Q Q':Value->View->Prop}(h:IL M fr H Q)(hq:∀v H',Q v H'->Q' v H'):IL M fr H Q':=
 fun St c cs hk=> h St c cs fun v H' hv=> hk v H' (hq v H' hv)
section
variable {P:Program}{M:Md P}{St:View->Goroutine->Prop}{n:Nat}{b:FB}{H₀:View}{cs:List Frame}{R R':Rg}{L L':Bl}{ds:List Deferred}{k:List Item}
theorem cA.mono {f:FuncId}{args:Array Value}{H:View}{Q Q':Value->View->Prop}(h:cA M f args H Q)(hq:∀v H',Q v H'->Q' v H'):cA M f args H Q':=
 fun St c cs hk=> h St c cs fun v H' hv=> hk v H' (hq v H' hv)
def lJ(args:List Value):Rg:=go 0 args
where
 go:Nat->List Value->Rg
  | _,[]=> []
  | i,v::vs=> (i,v)::go (i+1) vs
theorem iF(vs:List Value):∀(i:Nat) (d:Nat) (v:Value),lk (lJ.go i vs) d=some v->i<=d/\vs[d-i]? =some v:=by
 induction vs with
 | nil=> intro i d v h;simp[lJ.go,lk] at h
 | cons a vs ih=>
  intro i d v h;simp only[lJ.go,zQ] at h;split at h
  ·rename_i e
   subst e;cases h
   simp
  ·rename_i e
   obtain⟨h1,h2⟩:=ih (i+1) d v h;refine⟨oM,?_⟩;have:d-i=(d-(i+1))+1:=by omega
   rw[this];simpa using h2
theorem cA.enter {f:FuncId}{fn:Func}{body:Code}{vs:List Value}{H:View}{Q:Value->View->Prop}(hf:P.funcs[f]? =some fn)(hb:fn.body=some body)(hn:fn.ntmps=n)(hv:vs.length<=n)(hs:eA H₀ L H)
  (h:∀St c cs,(∀v H',Q v H'->T M St H' (G (c.finish v) cs))->Tc M St n ⟨f,.normal,none⟩ H₀ (c::cs) (lJ vs) L [] [.code body]):cA M f vs.toArray H Q:=fun St c cs hk=> by
 have:=h St c cs hk H (vs.toArray++Array.replicate (n-vs.length) undef) hs ⟨by simp;omega,fun d v hd=> ?_⟩
 ·have e:Frame.enter P f vs.toArray .normal=(⟨f,.normal,none⟩:FB).at (vs.toArray++Array.replicate (n-vs.length) undef) [] [.code body]:=by
   simp[Frame.enter,FB.at,hf,hb,hn]
  rw[e];exact this
 ·obtain⟨_,h2⟩:=iF vs 0 d v hd;simp only[Nat.sub_zero] at h2;have mB:=(List.getElem?_eq_some_iff.1 h2).1;rw[Array.getElem?_append_left (by simpa using mB)];simpa using h2
theorem Tc.ret {fn:Func}{c:Frame}{Q:Value->View->Prop}{f:FuncId}(hK:∀v H',Q v H'->T M St H' (G (c.finish v) cs))(hf:P.funcs[f]? =some fn)
  (h:∀H tmps,eA H₀ L H->PA n R tmps->yA P (results fn tmps) H Q):Tc M St n ⟨f,.normal,none⟩ H₀ (c::cs) R L [] (.code .ret::k):=
 fun H tmps hs hr=> .kC rfl (.leave hf rfl (MA _ hK (h H tmps hs hr)))
theorem Tc.over {fn:Func}{c:Frame}{Q:Value->View->Prop}{f:FuncId}(hK:∀v H',Q v H'->T M St H' (G (c.finish v) cs))(hf:P.funcs[f]? =some fn)
  (h:∀H tmps,eA H₀ L H->PA n R tmps->yA P (results fn tmps) H Q):Tc M St n ⟨f,.normal,none⟩ H₀ (c::cs) R L [] []:=
 fun H tmps hs hr=> .over rfl (.leave hf rfl (MA _ hK (h H tmps hs hr)))
def aE(R:Rg)(xs:List Operand):Option (List Value):=xs.mapM (GA R)
theorem PA.evs {tmps:Array Value}(h:PA n R tmps):∀ {xs:List Operand} {vs:List Value},aE R xs=some vs->xs.map (uB tmps)=vs:=by
 intro xs;induction xs with
 | nil=> intro vs e;simp[aE] at e;simp[e]
 | cons x xs ih=>
  intro vs e;simp only[aE,List.mapM_cons,Option.bind_eq_bind,Option.bind_eq_some_iff,Option.pure_def,Option.some.injEq] at e;obtain⟨v,h1,us,h2,rfl⟩:=e;simp only[List.map_cons,h.ev h1,List.cons.injEq,true_and];exact ih h2
def rA(P:Program)(g:FuncId):Bool:=
 match P.funcs[g]? with
 | some fn=> !(fn.name== "runtime.NumGoroutine")&&fn.body.isSome
 | none=> false
theorem mE {g:FuncId}{args:Array Value}{H:View}{Q:Next->View->Prop}(hg:rA P g=true)(h:Q (.enter g args) H):yA P (callFunc g args) H Q:=by
 unfold rA at hg;split at hg
 ·rename_i fn gU
  simp only[Bool.and_eq_true,Bool.not_eq_true',Option.isSome_iff_ne_none] at hg;obtain⟨h1,h2⟩:=hg;show yA P (match P.funcs[g]? with|none=> _|some fn=> _) H Q;rw[gU];have hb:fn.body.isNone=false:=by cases hx:fn.body <;> simp_all
  simp only[h1,hb,Bool.false_eq_true,if_false];exact h
 ·cases hg
def dF {P:Program}(M:Md P)(o:Oper)(tmps:Array Value)(H:View)(K:Array Value->View->Prop):Prop:=
 yA P (execOp (uB tmps) o) H fun nx H'=>
  match nx with
  | .value v=> K (KB tmps o.dst v) H'
  | .skip=> K (KB tmps o.dst undef) H'
  | .enter f args=> cA M f args H' fun v H''=> K (KB tmps o.dst v) H''
  | .round l f tmps' assign body=> IL M (Frame.round l f tmps' assign body .normal) H' fun v H''=> K (KB tmps o.dst v) H''
  | _=> False
theorem dF.mono {o:Oper}{tmps:Array Value}{H:View}{K K':Array Value->View->Prop}(h:dF M o tmps H K)(hk:∀t H',K t H'->K' t H'):dF M o tmps H K':=
 MA _ (fun nx H' hn=> by
  cases nx <;> first|exact hn.elim|skip
  ·exact hk _ _ hn
  ·exact hk _ _ hn
  ·exact cA.mono hn fun v H''=> hk _ _
  ·exact IL.mono hn fun v H''=> hk _ _) h
def AA:Op->Bool
 | .defer _=> true
 | _=> false
theorem dF.sound {ops:Array Oper}{i:Nat}{rest:List Nat}{o:Oper}{tmps:Array Value}{H:View}(ho:ops[i]? =some o)(hw:Region.wanted o (yielded ops tmps)=true)(hd:AA o.op=false)
   (h:dF M o tmps H fun t H'=> T M St H' (G (b.at t ds (.inRegion ops rest::k)) cs)):T M St H (G (b.at tmps ds (.inRegion ops (i::rest)::k)) cs):=by
 refine .op ho hw (.inr fun c e=> by rw[e] at hd;cases hd) (MA _ (fun nx H' hn=> ?_) h);have XC:∀v,(b.at tmps ds (.inRegion ops (i::rest)::k)).finish v=b.at (KB tmps o.dst v) ds (.inRegion ops rest::k):=by
   intro v;rw[FB.finish_at,ho];rfl
 cases nx <;> first
   | exact hn
   | exact hn.elim
   | (refine hn St _ cs fun v H'' hq=> ?_
      rw[XC];exact hq)
def Or {P:Program}(M:Md P)(n:Nat)(H₀:View)(R:Rg)(L:Bl)(o:Oper)(K:Rg->Bl->Prop):Prop:=
 ∀H tmps,eA H₀ L H->PA n R tmps->dF M o tmps H fun t H'=> ∃R' L',PA n R' t/\eA H₀ L' H'/\K R' L'
theorem To.op {dl:List (Option Tmp)}{o:Oper}{l:List Oper}(hw:JA dl R o=some true)(hd:AA o.op=false)(h:Or M n H₀ R L o fun R' L'=> To M St n b H₀ cs dl R' L' ds l k):To M St n b H₀ cs dl R L ds (o::l) k:=fun arr ix ha hx=> by
 cases ix with
 | nil=> simp at hx
 | cons i r=>
  simp only[List.map_cons,List.cons.injEq] at hx;intro H tmps hs hr;refine dF.sound hx.1 (jB ha hr hw) hd ((h H tmps hs hr).mono ?_);rintro t H' ⟨R',L',h1,h2,h3⟩;exact h3 arr r ha hx.2 H' t h2 h1
theorem Or.val {o:Oper}{K:Rg->Bl->Prop}{d:Nat}(hd:o.dst=some d)(hn:d<n)
  (h:∀H tmps,eA H₀ L H->PA n R tmps->yA P (execOp (uB tmps) o) H fun nx H'=> ∃v,nx=.value v/\∃L',eA H₀ L' H'/\K ((d,v)::R) L'):Or M n H₀ R L o K:=fun H tmps hs hr=>
 MA _ (by
  rintro nx H' ⟨v,rfl,L',hs',hk⟩;refine⟨_,L',?_,hs',hk⟩;rw[hd];exact hr.put hn _) (h H tmps hs hr)
theorem Or.gP {o:Oper}{K:Rg->Bl->Prop}(hd:o.dst=none)
  (h:∀H tmps,eA H₀ L H->PA n R tmps->yA P (execOp (uB tmps) o) H fun nx H'=> nx=.skip/\∃L',eA H₀ L' H'/\K R L'):Or M n H₀ R L o K:=fun H tmps hs hr=>
 MA _ (by
  rintro nx H' ⟨rfl,L',hs',hk⟩;refine⟨_,L',?_,hs',hk⟩;rw[hd];exact hr) (h H tmps hs hr)
def UC {P:Program}(M:Md P)(fv:Value)(az:List Value)(H:View)(Q:Value->View->Prop):Prop:=
 yA P ((Deferred.ofValue fv az.toArray).bind fun d=> invoke d.target d.args) H fun nx H'=>
  match nx with
  | .enter f args=> cA M f args H' Q
  | .round l f tmps assign body=> IL M (Frame.round l f tmps assign body .normal) H' Q
  | _=> False
theorem UC.mono {fv:Value}{az:List Value}{H:View}{Q Q':Value->View->Prop}(h:UC M fv az H Q)(hq:∀v H',Q v H'->Q' v H'):UC M fv az H Q':=
 MA _ (fun nx H' hn=> by
  cases nx <;> first
   | exact hn
   | exact cA.mono hn hq
   | exact IL.mono hn hq) h
theorem UC.of {g:FuncId}{az first captured:List Value}{as':Array Value}{H:View}{Q:Value->View->Prop}(hg:rA P g=true)(zA:(first++az++captured).toArray=as')(h:cA M g as' H Q):
  UC M (.func (.func g) first.toArray captured.toArray) az H Q:=by
 unfold UC;simp only[Deferred.ofValue];show yA P (callFunc g (first.toArray++az.toArray++captured.toArray)) H _;have e3:first.toArray++az.toArray++captured.toArray=as':=by rw[<-zA];simp
 rw[e3];exact mE hg h
theorem Or.e8 {o:Oper}{K:Rg->Bl->Prop}{cl:Go.Call}{x:Operand}{fv:Value}{az:List Value}(iA:o.op=.call cl)(PB:cl.callee=.value x)(hx:GA R x=some fv)(has:aE R cl.args.toList=some az)
  {Q:View->Value->View->Prop} (hc:∀H,eA H₀ L H->UC M fv az H (Q H))
  (hk:∀H v H',eA H₀ L H->Q H v H'->∃L' R',eA H₀ L' H'/\(match o.dst with|some d=> d<n/\R'=(d,v)::R|none=> R'=R)/\K R' L'):Or M n H₀ R L o K:=fun H tmps hs hr=> by
 have e1:=hr.ev hx;have KF:cl.args.map (uB tmps)=az.toArray:=by
  apply Array.ext'
  simpa using hr.evs has
 have hex:execOp (uB tmps) o=(resolve (uB tmps) cl o.type).bind fun d=> invoke d.target d.args:=by unfold execOp;rw[iA];rfl
 unfold dF;rw[hex];have:((resolve (uB tmps) cl o.type).bind fun d=> invoke d.target d.args)=(Deferred.ofValue fv az.toArray).bind fun d=> invoke d.target d.args:=by
  unfold resolve;rw[PB];simp only[e1,KF]
 rw[this];refine MA _ (fun nx H' hn=> ?_) (hc H hs);have fin:∀v H'',Q H v H''->∃R' L',PA n R' (KB tmps o.dst v)/\eA H₀ L' H''/\K R' L':=by
  intro v H'' hq;obtain⟨L',R',h1,h2,h3⟩:=hk H v H'' hs hq;refine⟨R',L',?_,h1,h3⟩;cases lG:o.dst with
  | none=>
   rw[lG] at h2;subst h2;exact hr
  | some d=>
   rw[lG] at h2;obtain⟨h4,rfl⟩:=h2;exact hr.put h4 _
 cases nx <;> first
  | exact hn.elim
  | exact cA.mono hn fin
  | exact IL.mono hn fin
end
inductive TyD where
 | int (k:IntKind)
 | bool
 | str
 | struct (fs:List (TypeId×Nat×Nat))
 | arr (n:Nat) (e:TypeId)
 | slice (e:TypeId)
 | map (k e:TypeId)
 | other
def pI(P:Program)(t:TypeId):TyD:=
 match P.underlying t with
 | some (.int k)=> .int k
 | some .bool=> .bool
 | some .string=> .str
 | some (.struct fs)=> if fs.toList.all (fun f=> f.name != "_"&&(P.info? f.type).isSome) && !P.stoodInHeld t then .struct (fs.toList.map fun f=> (f.type,f.offset,((P.info? f.type).map (·.size)).getD 0)) else .other
 | some (.array n e)=> .arr n e
 | some (.slice e)=> .slice e
 | some (.map k e)=> .map k e
 | _=> .other
structure wA where
 agg:Bool
 size:Nat
 bytes:Nat
 zero:Value
 BX:List Nat
 elem:Option (Option Nat×TypeId)
 ds:TyD
def wH(P:Program)(t:TypeId):Option Bool:=
 match P.underlying t with
 | some (.struct _)|some (.array _ _)=> some true
 | some _=> some false
 | none=> none
def G1(P:Program)(t:TypeId):List Nat:=
 match P.underlying t with
 | some (.struct fs)=> if fs.toList.all (fun f=> ((P.info? f.type).map (·.size)).getD 0 !=0) then fs.toList.map (·.offset) else []
 | _=> []
def JN(P:Program)(t:TypeId):Option (Option Nat×TypeId):=
 match P.underlying t with
 | some (.array n e)=> some (some n,e)
 | some (.slice e)=> some (none,e)
 | _=> none
structure EA(P:Program)(t:TypeId)(r:wA):Prop where
 agg:wH P t=some r.agg
 size:(P.info? t).map (·.size)=some r.size
 bytes:(P.info? t).map (·.bytes)=some r.bytes
 zero:(P.info? t).bind (·.zero)=some r.zero
 BX:G1 P t=r.BX
 elem:JN P t=r.elem
 ds:pI P t=r.ds
structure Env(P:Program) where
 ty:Nat->Option wA
 ok:∀t r,ty t=some r->EA P t r
def MZ:List (Nat×wA)->Nat->Option wA
 | [],_=> none
 | (e,v)::R,d=> match Nat.beq e d with
  | true=> some v
  | false=> MZ R d
def qM(P:Program):List (Nat×wA)->Prop
 | []=> True
 | x::l=> EA P x.1 x.2/\qM P l
theorem qM.at {P:Program}:∀ {l:List (Nat×wA)},qM P l->∀t r,MZ l t=some r->EA P t r
 | [],_,_,_,h=> by simp[MZ] at h
 | (e,v)::l,⟨h1,h2⟩,t,r,h=> by
  unfold MZ at h;split at h
  ·rename_i heq
   have:e=t:=Nat.eq_of_beq_eq_true heq;subst this;cases h
   exact h1
  ·exact qM.at h2 t r h
def Env.of {P:Program}(l:List (Nat×wA))(h:qM P l):Env P:=⟨MZ l,h.at⟩
section
variable {P:Program}{H:View}
theorem dA {t:TypeId}{d:TypeDesc}{Q:TypeDesc->View->Prop}(hd:P.underlying t=some d)(h:Q d H):yA P (underlying t) H Q:=by
 show yA P (match P.underlying t with|some d=> _|none=> _) H Q;rw[hd];exact h
theorem UB {t:TypeId}{i:TypeInfo}{Q:TypeInfo->View->Prop}(hi:P.info? t=some i)(h:Q i H):yA P (typeInfo t) H Q:=by
 show yA P (match P.info? t with|some i=> _|none=> _) H Q;rw[hi];exact h
theorem ZK {t:TypeId}{g:Bool}{Q:Bool->View->Prop}(hg:wH P t=some g)(h:Q g H):yA P (isAgg t) H Q:=by
 unfold wH at hg;cases hd:P.underlying t with
 | none=> rw[hd] at hg;cases hg
 | some d=>
  refine aA (underlying t) _ (dA hd ?_);rw[hd] at hg;cases d <;> simp at hg <;> subst hg <;> exact h
theorem IA {t:TypeId}{n:Nat}{Q:Nat->View->Prop}(hn:(P.info? t).map (·.size)=some n)(h:Q n H):yA P (sizeOf t) H Q:=by
 cases hi:P.info? t with
 | none=> rw[hi] at hn;cases hn
 | some i=>
  rw[hi] at hn;cases hn
  exact aA (typeInfo t) _ (UB hi h)
theorem AB {t:TypeId}{z:Value}{Q:Value->View->Prop}(hz:(P.info? t).bind (·.zero)=some z)(h:Q z H):yA P (zeroValue t) H Q:=by
 cases hi:P.info? t with
 | none=> rw[hi] at hz;cases hz
 | some i=>
  rw[hi] at hz;refine aA (typeInfo t) _ (UB hi ?_);simp only[Option.bind_some] at hz;rw[hz];exact h
theorem VD(a:Addr)(i:Nat)(h:a.spot=none):a.add i=⟨a.block,a.off+i,none⟩:=by
 unfold Addr.add;split
 ·rename_i e;subst e;cases a;simp_all
 ·rfl
theorem JE {f:Bool}{e:TypeId}{fz:Nat×Nat}{l:List Value}(blk off:Nat)(hb:H blk=some (f,.cells ⟨l⟩ e fz)):
  ∀(n i:Nat) (acc:Array Value) {Q:Array Value->View->Prop},off+i+n<=l.length->Q (acc++((l.drop (off+i)).take n).toArray) H->yA P (loadCellsFrom ⟨blk,off,none⟩ i n acc) H Q
 | 0,i,acc,Q,_,h=> by
  show Q acc H;simpa using h
 | n + 1,i,acc,Q,hl,h=> by
  unfold loadCellsFrom;refine aA (load _) _ ?_;rw[VD _ _ rfl];have mB:off+i<l.length:=by omega
  refine⟨rfl,rfl,f,⟨l⟩,e,fz,l[off+i],hb,by simp[mB],?_⟩;refine JE blk off hb n (i+1) _ oM ?_;have e1:(l.drop (off+i)).take (n+1)=l[off+i]::(l.drop (off+(i+1))).take n:=by
   rw[List.drop_eq_getElem_cons mB,List.take_succ_cons]
   congr 2
  rw[e1] at h;have e2:acc.push l[off+i]++((l.drop (off+(i+1))).take n).toArray=acc++(l[off+i]::(l.drop (off+(i+1))).take n).toArray:=by
   apply Array.ext'
   simp
  rw[e2];exact h
def SB(agg:Bool)(n:Nat)(l:List Value)(off:Nat):Option Value:=
 match agg with
 | true=> match Nat.ble (off+n) l.length with
  | true=> some (.agg ⟨(l.drop off).take n⟩)
  | false=> none
 | false=> l[off]?
theorem vI {t:TypeId}{g:Bool}{n:Nat}{f:Bool}{e:TypeId}{fz:Nat×Nat}{l:List Value}{blk off:Nat}{v:Value}{Q:Value->View->Prop}(hg:wH P t=some g)(hn:(P.info? t).map (·.size)=some n)
  (hb:H blk=some (f,.cells ⟨l⟩ e fz)) (hv:SB g n l off=some v) (h:Q v H):yA P (loadVar t ⟨blk,off,none⟩) H Q:=by
 refine aA (isAgg t) _ (ZK hg ?_);cases g with
 | true=>
  unfold SB at hv;simp only at hv;split at hv
  ·rename_i hle
   have oZ:off+n<=l.length:=Nat.le_of_ble_eq_true hle;cases hv
   show yA P ((sizeOf t).bind fun s=> (loadCells ⟨blk,off,none⟩ s).bind fun c=> .pure (.agg c)) H Q;refine aA (sizeOf t) _ (IA hn (aA (loadCells _ _) _ ?_));refine JE blk off hb n 0 #[] (by simpa using oZ) ?_;show Q (.agg (#[]++((l.drop (off+0)).take n).toArray)) H;simpa using h
  ·cases hv
 | false=>
  unfold SB at hv;simp only at hv;exact⟨rfl,rfl,f,⟨l⟩,e,fz,v,hb,by simpa using hv,h⟩
def single:Value->Bool
 | .agg _ | .tuple _=> false
 | _=> true
def IE(l:List Value)(off:Nat)(vs:List Value):List Value:=l.take off++vs++l.drop (off+vs.length)
theorem AW(l:List Value)(off:Nat):IE l off []=l:=by simp[IE]
theorem EN(l:List Value)(off:Nat)(v:Value)(vs:List Value)(h:off<l.length):IE (l.set off v) (off+1) vs=IE l off (v::vs):=by
 unfold IE;have e1:(l.set off v).take (off+1)=l.take off++[v]:=by
  rw[List.take_succ_eq_append_getElem (by simpa using h)];simp[List.take_set_of_le]
 have e2:(l.set off v).drop (off+1+vs.length)=l.drop (off+(vs.length+1)):=by
  rw[List.drop_set_of_lt oM]
  congr 1
  omega
 rw[e1,e2];simp
theorem BC {e:TypeId}(blk off:Nat):∀(vs:List Value) (i:Nat) (l:List Value) {H:View} {Q:Unit->View->Prop},H blk=some (true,.cells ⟨l⟩ e (0,0))->off+i+vs.length<=l.length->vs.all single=true-> 
  (∀H',H'=(if vs= [] then H else H.put blk (true,.cells ⟨IE l (off+i) vs⟩ e (0,0)))->Q () H')->yA P (storeCells ⟨blk,off,none⟩ vs i) H Q
 | [],i,l,H,Q,hb,_,_,h=> h H (by simp)
 | v ::vs,i,l,H,Q,hb,hl,hs,h=> by
  unfold storeCells;refine aA (store _ _) _ ?_;rw[VD _ _ rfl];simp only[List.all_cons,Bool.and_eq_true] at hs;simp only[List.length_cons] at hl;refine⟨rfl,rfl,fun cs hc=> ?_,fun cs hc=> ?_,⟨l⟩,e,(0,0),hb,?_,?_,?_⟩
  ·rw[hc] at hs;simp[single] at hs
  ·rw[hc] at hs;simp[single] at hs
  ·show off+i<l.length;omega
  ·simp
  ·have aEq:(⟨l⟩:Array Value).setIfInBounds (off+i) v=⟨l.set (off+i) v⟩:=by
    apply Array.ext'
    simp
   simp only[aEq];refine BC blk off vs (i+1) (l.set (off+i) v) (View.qA ..) (by simp;omega) hs.2 fun H' lR=> h H' ?_;rw[lR];have he:off+(i+1)=off+i+1:=by omega
   rw[he,EN l (off+i) v vs oM]
   funext c
   by_cases hv:vs= []
   ·subst hv;simp only[if_true];rw[if_neg (by simp)];simp only[View.put];split
    ·congr 5
     have:=EN l (off+i) v [] oM;rw[AW] at this;exact this
    ·rfl
   ·rw[if_neg hv,if_neg (by simp)];simp only[View.put];split <;> rfl
theorem bR {t:TypeId}{n:Nat}{e:TypeId}{l:List Value}{blk off:Nat}{v:Value}{Q:Unit->View->Prop}(hn:(P.info? t).map (·.size)=some n)(hv:v.cells.size=n)(h0:n≠0)
  (hb:H blk=some (true,.cells ⟨l⟩ e (0,0))) (hl:off+n<=l.length) (hs:v.cells.toList.all single=true) (h:Q () (H.put blk (true,.cells ⟨IE l off v.cells.toList⟩ e (0,0)))):yA P (storeVar t ⟨blk,off,none⟩ v) H Q:=by
 refine aA (sizeOf t) _ (IA hn ?_);rw[if_neg (by simp[hv])];show yA P (storeCells ⟨blk,off,none⟩ v.cells.toList) H Q;refine BC blk off v.cells.toList 0 l hb (by simpa [hv] using hl) hs fun H' lR=> ?_;have gB:v.cells.toList≠ []:=by
  intro he;have:v.cells.size=0:=by rw[<-Array.length_toList,he];rfl
  omega
 rw[if_neg gB] at lR;rw[lR];simpa using h
end
section
variable {P:Program}{E:Env P}{M:Md P}{n:Nat}{H₀:View}{R:Rg}{L L':Bl}{K:Rg->Bl->Prop}{o:Oper}{d:Nat}{v:Value}
def oA(P:Program)(n:Nat)(H₀:View)(R:Rg)(L:Bl)(o:Oper)(v:Value):Prop:=
 ∀H tmps,eA H₀ L H->PA n R tmps->yA P (execOp (uB tmps) o) H fun nx H'=> nx=.value v/\H'=H
theorem Or.O6(h:oA P n H₀ R L o v)(hd:o.dst=some d)(hn:d<n)(hk:K ((d,v)::R) L):Or M n H₀ R L o K:=
 .val hd hn fun H tmps hs hr=> MA _ (fun _ _ ⟨h1,h2⟩=> ⟨v,h1,L,h2▸hs,hk⟩) (h H tmps hs hr)
theorem oA.move {x:Operand}(iA:o.op=.move x)(hx:GA R x=some v):oA P n H₀ R L o (v):=
 (fun H tmps _ hr=> by unfold execOp;rw[iA];exact⟨by rw[hr.ev hx],rfl⟩)
theorem oA.assign {x:Operand}(iA:o.op=.assign x)(hx:GA R x=some v):oA P n H₀ R L o (v):=
 (fun H tmps _ hr=> by unfold execOp;rw[iA];exact⟨by rw[hr.ev hx],rfl⟩)
theorem oA.pick {c x y:Operand}{t:Bool}(iA:o.op=.pick c x y)(hc:GA R c=some (.bool t))(hx:(match t with|true=> GA R x|false=> GA R y)=some v):oA P n H₀ R L o (v):=
 (fun H tmps _ hr=> by
  unfold execOp;rw[iA];simp only[hr.ev hc,asBool];cases t with
  | true=> exact⟨by rw[<-hr.ev hx];rfl,rfl⟩
  | false=> exact⟨by rw[<-hr.ev hx];rfl,rfl⟩)
theorem oA.extract {x:Operand}{i:Nat}{vs:Array Value}(iA:o.op=.extract x i)(hx:GA R x=some (.tuple vs))(hv:vs[i]? =some v):oA P n H₀ R L o (v):=
 (fun H tmps _ hr=> by
  unfold execOp;rw[iA];simp only[hr.ev hx,Instr.extract,hv];exact⟨rfl,rfl⟩)
theorem oA.nilCheck {x:Operand}{a:Addr}(iA:o.op=.nilCheck x)(hx:GA R x=some (.pointer (some a))):oA P n H₀ R L o (.pointer (some a)):=
 (fun H tmps _ hr=> by
  unfold execOp;rw[iA];simp only[hr.ev hx];exact⟨rfl,rfl⟩)
theorem oA.makeFunc {fn:Fn}{fs cp:Array Operand}{vf vc:List Value}(iA:o.op=.makeFunc fn fs cp)(h1:aE R fs.toList=some vf)(h2:aE R cp.toList=some vc):oA P n H₀ R L o (.func fn vf.toArray vc.toArray):=
 (fun H tmps _ hr=> by
  have e1:fs.map (uB tmps)=vf.toArray:=by apply Array.ext';simpa using hr.evs h1
  have e2:cp.map (uB tmps)=vc.toArray:=by apply Array.ext';simpa using hr.evs h2
  unfold execOp;rw[iA];simp only[e1,e2];exact⟨rfl,rfl⟩)
theorem Or.wS {e:TypeId}{c:List Value}(hd:o.dst=some d)(hn:d<n) 
  (h:∀H tmps,eA H₀ L H->PA n R tmps->∀Q:Next->View->Prop,(∀blk,H blk=none->Q (.value (.pointer (some ⟨blk,0,none⟩))) (H.put blk (true,.cells ⟨c⟩ e (0,0))))->yA P (execOp (uB tmps) o) H Q)
  (hk:∀blk,K ((d,.pointer (some ⟨blk,0,none⟩))::R) ((blk,true,.cells ⟨c⟩ e (0,0))::L)):Or M n H₀ R L o K:=
 .val hd hn fun H tmps hs hr=> h H tmps hs hr _ fun blk hb=> ⟨_,rfl,_,hs.cons _ hb,hk blk⟩
theorem Or.box {e:TypeId}{x:Operand}(iA:o.op=.box e x)(hd:o.dst=some d)(hn:d<n)(hx:GA R x=some v)
  (hk:∀blk,K ((d,.pointer (some ⟨blk,0,none⟩))::R) ((blk,true,.cells ⟨v.cells.toList⟩ e (0,0))::L)):Or M n H₀ R L o K:=
 .wS hd hn (fun H tmps _ hr Q hQ=> by
  unfold execOp;rw[iA];simp only[hr.ev hx];exact fun blk hb=> hQ blk hb) hk
theorem Or.alloc {e:TypeId}{r:wA}(iA:o.op=.alloc e)(ht:E.ty e=some r)(hd:o.dst=some d)(hn:d<n)
  (hk:∀blk,K ((d,.pointer (some ⟨blk,0,none⟩))::R) ((blk,true,.cells ⟨r.zero.cells.toList⟩ e (0,0))::L)):Or M n H₀ R L o K:=
 .wS hd hn (fun H tmps _ hr Q hQ=> by
  unfold execOp;rw[iA];show yA P (((zeroValue e).bind fun z=> _).bind _) H Q;refine aA _ _ (aA (zeroValue e) _ (AB (E.ok _ _ ht).zero ?_));exact fun blk hb=> hQ blk hb) hk
theorem oA.load(i:Nat){t:TypeId}{x:Operand}{r:wA}{blk off:Nat}{f:Bool}{c:List Value}{e:TypeId}{fz:Nat×Nat}(iA:o.op=.load t x)(hx:GA R x=some (.pointer (some ⟨blk,off,none⟩)))(hi:L[i]? =some (blk,f,.cells ⟨c⟩ e fz))
  (ht:E.ty t=some r) (hv:SB r.agg r.size c off=some v):oA P n H₀ R L o (v):=
 (fun H tmps hs hr=> by
  unfold execOp;rw[iA];simp only[hr.ev hx];show yA P ((loadVar t _).bind _) H _;exact aA _ _ (vI (E.ok _ _ ht).agg (E.ok _ _ ht).size (hs.get hi) hv ⟨rfl,rfl⟩))
theorem oA.B6 {t:TypeId}{x:Operand}{r:wA}{blk off:Nat}{f:Bool}{c:List Value}{e:TypeId}{fz:Nat×Nat}(iA:o.op=.load t x)(hx:GA R x=some (.pointer (some ⟨blk,off,none⟩)))(hi:H₀ blk=some (f,.cells ⟨c⟩ e fz))
  (ht:E.ty t=some r) (hv:SB r.agg r.size c off=some v):oA P n H₀ R L o (v):=
 (fun H tmps hs hr=> by
  unfold execOp;rw[iA];simp only[hr.ev hx];show yA P ((loadVar t _).bind _) H _;exact aA _ _ (vI (E.ok _ _ ht).agg (E.ok _ _ ht).size (hs.base _ _ hi) hv ⟨rfl,rfl⟩))
theorem Or.store(i:Nat){t:TypeId}{x y:Operand}{r:wA}{blk off:Nat}{c:List Value}{e:TypeId}(iA:o.op=.store t x y)(hx:GA R x=some (.pointer (some ⟨blk,off,none⟩)))(hy:GA R y=some v)
  (hi:L[i]? =some (blk,true,.cells ⟨c⟩ e (0,0))) (ht:E.ty t=some r) (hz:Nat.beq v.cells.toList.length r.size=true) (h0:Nat.beq r.size 0=false) (hl:Nat.ble (off+r.size) c.length=true) (hs:v.cells.toList.all single=true)
  (hd:o.dst=none)
  (hk:K R (L.set i (blk,true,.cells ⟨IE c off v.cells.toList⟩ e (0,0)))):Or M n H₀ R L o K:=
 .gP hd fun H tmps kB hr=> by
  unfold execOp;rw[iA];simp only[hr.ev hx,hr.ev hy];show yA P ((storeVar t _ v).bind _) H _;refine aA _ _ (bR (E.ok _ _ ht).size ?_ ?_ (kB.get hi) (Nat.le_of_ble_eq_true hl) hs ?_)
  ·rw[<-Array.length_toList];exact Nat.eq_of_beq_eq_true hz
  ·intro h;rw[h] at h0;cases h0
  ·exact⟨rfl,_,kB.set hi _,hk⟩
theorem Or.storeT(i:Nat){t:TypeId}{x y:Operand}{r:wA}{blk off:Nat}{c c':List Value}{e:TypeId}(iA:o.op=.store t x y)(hx:GA R x=some (.pointer (some ⟨blk,off,none⟩)))(hy:GA R y=some v)
 (hi:L[i]? =some (blk,true,.cells ⟨c⟩ e (0,0))) (ht:E.ty t=some r) (hz:Nat.beq v.cells.toList.length r.size=true) (h0:Nat.beq r.size 0=false) (hl:Nat.ble (off+r.size) c.length=true) (hs:v.cells.toList.all single=true)
 (hd:o.dst=none) (hc:IE c off v.cells.toList=c')
 (hk:K R (L.set i (blk,true,.cells ⟨c'⟩ e (0,0)))):Or M n H₀ R L o K:=.store i iA hx hy hi ht hz h0 hl hs hd (by rw[hc];exact hk)
theorem tT {s:TypeId}{fi off o':Nat}{blk:Nat}{r:wA}{Q:Value->View->Prop}{H:View}(ht:E.ty s=some r)(ho:r.BX[fi]? =some o')(h:Q (.pointer (some ⟨blk,off+o',none⟩)) H):
  yA P (Instr.fieldAt s (.pointer (some ⟨blk,off,none⟩)) fi) H Q:=by
 have DH:=(E.ok _ _ ht).BX;unfold G1 at DH;split at DH
 ·rename_i fs hu
  refine aA (underlying s) _ (dA hu ?_);split at DH
  ·rename_i zA
   rw[<-DH] at ho;simp only[List.getElem?_map,Option.map_eq_some_iff] at ho;obtain⟨fl,h1,h2⟩:=ho;simp only[Array.getElem?_toList] at h1;have QD:=List.all_eq_true.1 zA fl (Array.mem_toList_iff.2 (Array.mem_of_getElem? h1));simp only[h1];show yA P ((fieldPlace ⟨blk,off,none⟩ fl).bind _) H Q;refine aA _ _ ?_;cases hi:P.info? fl.type with
   | none=> rw[hi] at QD;simp at QD
   | some i=>
    rw[hi] at QD;refine aA (sizeOf fl.type) _ (IA (n:=i.size) (by rw[hi];rfl) ?_);have:i.size≠0:=by simpa using QD
    rw[if_neg this];show Q (.pointer (some (Addr.add ⟨blk,off,none⟩ fl.offset))) H;rw[VD _ _ rfl,h2];exact h
  ·rw[<-DH] at ho;simp at ho
 ·rw[<-DH] at ho;simp at ho
theorem oA.fieldAddr {s:TypeId}{x:Operand}{fi o':Nat}{r:wA}{blk off:Nat}(iA:o.op=.fieldAddr s x fi)(hx:GA R x=some (.pointer (some ⟨blk,off,none⟩)))(ht:E.ty s=some r)(ho:r.BX[fi]? =some o'):oA P n H₀ R L o (.pointer (some ⟨blk,off+o',none⟩)):=
 (fun H tmps hs hr=> by
  unfold execOp;rw[iA];simp only[hr.ev hx];exact aA _ _ (tT ht ho ⟨rfl,rfl⟩))
theorem AK {t et:TypeId}{j:Int}{ik:IntKind}{len cap:Nat}{off blk sz:Nat}{r:wA}{re:wA}{Q:Value->View->Prop}{H:View}(ht:E.ty t=some r)(he:r.elem=some (none,et))(ZC:E.ty et=some re)(QD:re.size=sz)(h0:0<=j)(h1:j<len)
  (h:Q (.pointer (some ⟨blk,off+j.toNat*sz,none⟩)) H):yA P (Instr.indexAt t (.slice (some ⟨blk,off,none⟩) len cap) (.int ik j)) H Q:=by
 have WI:=(E.ok _ _ ht).elem;unfold JN at WI;split at WI
 ·rw[he] at WI;cases WI
 ·rename_i e hu
  rw[he] at WI;cases WI
  refine aA (underlying t) _ (dA hu ?_);show yA P ((underlying t).bind fun d=> _) H Q;refine aA (underlying t) _ (dA hu ?_);simp only[];rw[if_pos ⟨h0,h1⟩];refine aA (sizeOf et) _ (IA (E.ok _ _ ZC).size ?_);show Q (.pointer (some (Addr.add ⟨blk,off,none⟩ (j.toNat*re.size)))) H;rw[VD _ _ rfl,QD];exact h
 ·rw[he] at WI;cases WI
end
def XD(op:BinOp)(k:IntKind)(x y:Int):Int:=
 let a:=BitVec.ofInt k.bits x
 let b:=BitVec.ofInt k.bits y
 match op with
 | .and=> k.wrap ((a &&& b).toNat:Int)
 | .or=> k.wrap ((a ||| b).toNat:Int)
 | .xor=> k.wrap ((a ^^^ b).toNat:Int)
 | _=> k.wrap ((a &&& ~~~b).toNat:Int)
def gA(op:BinOp)(k:IntKind)(a b:Int):Option Value:=
 match op with
 | .add=> some (.int k (k.wrap (a+b)))
 | .sub=> some (.int k (k.wrap (a-b)))
 | .mul=> some (.int k (k.wrap (a*b)))
 | .quo=> if b=0 then none else some (.int k (k.wrap (a.tdiv b)))
 | .rem=> if b=0 then none else some (.int k (a.tmod b))
 | .and=> some (.int k (XD .and k a b))
 | .or=> some (.int k (XD .or k a b))
 | .xor=> some (.int k (XD .xor k a b))
 | .andNot=> some (.int k (XD .andNot k a b))
 | .eql=> some (.bool (a==b))
 | .neq=> some (.bool (a !=b))
 | .lss=> some (.bool (decide (a<b)))
 | .leq=> some (.bool (decide (a<=b)))
 | .gtr=> some (.bool (decide (a>b)))
 | .geq=> some (.bool (decide (a≥b)))
 | _=> none
theorem wrap64 {a:Int}(h1: -9223372036854775808<=a)(h2:a<9223372036854775808):IntKind.i64.wrap a=a:=IntWalk.i64_in a ⟨h1,oM⟩
section
variable {k:IntKind}{a b:Int}
theorem tC(h1: -9223372036854775808<=a+b)(h2:a+b<9223372036854775808):gA .add .i64 a b=some (.int .i64 (a+b)):=by simp only[gA,wrap64 h1 h2]
theorem GF(h1: -9223372036854775808<=a-b)(h2:a-b<9223372036854775808):gA .sub .i64 a b=some (.int .i64 (a-b)):=by simp only[gA,wrap64 h1 h2]
theorem JC(h1: -9223372036854775808<=a*b)(h2:a*b<9223372036854775808):gA .mul .i64 a b=some (.int .i64 (a*b)):=by simp only[gA,wrap64 h1 h2]
theorem rem_in(h1:0<=a)(h2:0<b):gA .rem k a b=some (.int k (a%b)):=by
 simp only[gA,if_neg (show b≠0 by omega),Int.tmod_eq_emod_of_nonneg h1]
theorem aAF(h1:0<=a)(h2:0<b)(h3:a<9223372036854775808):gA .quo .i64 a b=some (.int .i64 (a/b)):=by
 have h4:0<=a/b:=Int.ediv_nonneg h1 oM;have h5:a/b<=a:=Int.ediv_le_self _ h1;simp only[gA,if_neg (show b≠0 by omega),Int.tdiv_eq_ediv_of_nonneg h1,wrap64 (show -9223372036854775808<=a/b by omega) (show a/b<9223372036854775808 by omega)]
theorem bP(h:a<b):gA .lss k a b=some (.bool true):=by simp[gA,h]
theorem mK(h:b<=a):gA .lss k a b=some (.bool false):=by simp[gA];omega
theorem DG(h:a<=b):gA .leq k a b=some (.bool true):=by simp[gA,h]
theorem VF(h:b<a):gA .leq k a b=some (.bool false):=by simp[gA];omega
theorem zF(h:b<a):gA .gtr k a b=some (.bool true):=by simp[gA,h]
theorem UF(h:a<=b):gA .gtr k a b=some (.bool false):=by simp[gA];omega
theorem QM(h:b<=a):gA .geq k a b=some (.bool true):=by simp[gA,h]
theorem PM(h:a<b):gA .geq k a b=some (.bool false):=by simp[gA];omega
theorem vC(h:a=b):gA .eql k a b=some (.bool true):=by simp[gA,h]
theorem CB(h:a≠b):gA .eql k a b=some (.bool false):=by simp[gA,h]
theorem SC(h:a≠b):gA .neq k a b=some (.bool true):=by simp[gA,h]
theorem DC(h:a=b):gA .neq k a b=some (.bool false):=by simp[gA,h]
end
theorem xH {P:Program}{op:BinOp}{t:TypeId}{x y:Operand}{k k':IntKind}{a b:Int}{H:View}{Q:Unit->View->Prop}(h:Q () H):yA P (eqGuard op t x y (.int k a) (.int k' b)) H Q:=by
 unfold eqGuard;cases op <;> exact h
theorem tV {P:Program}{op:BinOp}{t:TypeId}{k:IntKind}{a b:Int}{v:Value}{H:View}{Q:Value->View->Prop}(hv:gA op k a b=some v)(h:Q v H):yA P (binOp op t (.int k a) (.int k b)) H Q:=by
 unfold binOp;unfold gA at hv;cases op <;> simp only[reduceCtorEq,Option.some.injEq] at hv
 case quo=>
  split at hv
  ·cases hv
  ·rename_i hb
   cases hv
   simp only[ne_eq,not_true_eq_false,if_false,Op.intDiv,if_neg hb];exact h
 case rem=>
  split at hv
  ·cases hv
  ·rename_i hb
   cases hv
   simp only[ne_eq,not_true_eq_false,if_false,Op.intDiv,if_neg hb];exact h
 all_goals (subst hv;simp only[ne_eq,not_true_eq_false,if_false,Op.intArith,Op.intCmp,Op.intBits];exact h)
section
variable {P:Program}{E:Env P}{M:Md P}{n:Nat}{H₀:View}{R:Rg}{L L':Bl}{K:Rg->Bl->Prop}{o:Oper}{d:Nat}{v:Value}
theorem oA.int {op:BinOp}{t u:TypeId}{x y:Operand}{ik:IntKind}{p q:Int}(iA:o.op=.binOp op t x y u)(hx:GA R x=some (.int ik p))(hy:GA R y=some (.int ik q))
  (hv:gA op ik p q=some v):oA P n H₀ R L o (v):=
 (fun H tmps _ hr=> by
  unfold execOp;rw[iA];simp only[hr.ev hx,hr.ev hy];show yA P (((eqGuard op t x y _ _).bind fun _=> binOp op t _ _).bind _) H _;exact aA _ _ (aA _ _ (xH (tV hv ⟨rfl,rfl⟩))))
def NC(op:BinOp)(k:IntKind)(x y:Int):Option Value:=
 match op with
 | .shl=> some (.int k (k.wrap (x*2 ^ (min y.toNat k.bits))))
 | .shr=> some (.int k (x.fdiv (2 ^ (min y.toNat k.bits))))
 | _=> none
theorem oA.shift {op:BinOp}{t u:TypeId}{x y:Operand}{ik jk:IntKind}{p q:Int}(iA:o.op=.binOp op t x y u)(hx:GA R x=some (.int ik p))(hy:GA R y=some (.int jk q))
  (hq:0<=q) (hv:NC op ik p q=some v):oA P n H₀ R L o (v):=
 (fun H tmps _ hr=> by
  unfold execOp;rw[iA];simp only[hr.ev hx,hr.ev hy];show yA P (((eqGuard op t x y _ _).bind fun _=> binOp op t _ _).bind _) H _;refine aA _ _ (aA _ _ (xH ?_));unfold NC at hv;cases op <;> simp only[reduceCtorEq,Option.some.injEq] at hv <;> subst hv
  all_goals
   simp only[binOp,Op.shift,if_neg (show ¬q<0 by omega)];exact⟨rfl,rfl⟩)
theorem oA.not {t:TypeId}{x:Operand}{p:Bool}(iA:o.op=.unOp .not t x)(hx:GA R x=some (.bool p)):oA P n H₀ R L o (.bool (!p)):=
 (fun H tmps _ hr=> by
  unfold execOp;rw[iA];simp only[hr.ev hx];exact⟨rfl,rfl⟩)
theorem oA.neg {t:TypeId}{x:Operand}{p z:Int}(iA:o.op=.unOp .neg t x)(hx:GA R x=some (.int .i64 p))
  (h1: -9223372036854775808<= -p) (h2: -p<9223372036854775808) (hz: -p=z):oA P n H₀ R L o (.int .i64 z):=
 (fun H tmps _ hr=> by
  subst hz;unfold execOp;rw[iA];simp only[hr.ev hx];have:IntKind.i64.wrap (0-p)= -p:=by rw[show(0:Int)-p= -p by omega,wrap64 h1 h2]
  show Next.value (.int .i64 (IntKind.i64.wrap (0-p)))=_/\_;rw[this];exact⟨rfl,rfl⟩)
theorem oA.conv {t u:TypeId}{x:Operand}{ik jk:IntKind}{p z:Int}{de:TypeDesc}(iA:o.op=.convert t u x)(hx:GA R x=some (.int ik p))
  (hu0:P.underlying t=some de) (hu:P.underlying u=some (.int jk)) (hz:jk.wrap p=z):oA P n H₀ R L o (.int jk z):=
 (fun H tmps _ hr=> by
  subst hz;unfold execOp;rw[iA];simp only[hr.ev hx];show yA P (((underlying t).bind fun s=> (underlying u).bind fun e=> _).bind _) H _;refine aA _ _ (aA _ _ (dA hu0 (aA _ _ (dA hu ?_))));cases de <;> exact⟨rfl,rfl⟩)
theorem oA.len {t:TypeId}{x:Operand}{a:Option Addr}{p q:Nat}{cl:Go.Call}{e:TypeId}{r:wA}(iA:o.op=.call cl)(PB:cl.callee=.builtin .len)(VH:cl.argTypes=#[t])(sJ:cl.args=#[x])
  (hx:GA R x=some (.slice a p q)) (ht:E.ty t=some r) (he:r.elem=some (none,e)):oA P n H₀ R L o (.int .i64 (p:Int)):=
 (fun H tmps _ hr=> by
  have WI:=(E.ok _ _ ht).elem;unfold JN at WI;split at WI
  ·rw[he] at WI;cases WI
  ·rename_i e' hu
   unfold execOp;rw[iA];simp only[resolve,PB,VH,sJ];have hm:Array.map (uB tmps) #[x]=#[.slice a p q]:=by simp[hr.ev hx]
   rw[hm];refine aA (Builtin.len_ #[t] o.type #[.slice a p q]) _ (aA (underlying t) _ (dA hu ?_));exact⟨rfl,rfl⟩
  ·rw[he] at WI;cases WI)
theorem oA.indexAddr {t:TypeId}{x y:Operand}{r re:wA}{et:TypeId}{blk off sz len cap:Nat}{ik:IntKind}{j:Int}(iA:o.op=.indexAddr t x y)(hx:GA R x=some (.slice (some ⟨blk,off,none⟩) len cap))(hy:GA R y=some (.int ik j))
  (ht:E.ty t=some r) (he:r.elem=some (none,et)) (ZC:E.ty et=some re) (QD:re.size=sz) (h0:0<=j) (h1:j<len):oA P n H₀ R L o (.pointer (some ⟨blk,off+j.toNat*sz,none⟩)):=
 (fun H tmps _ hr=> by
  unfold execOp;rw[iA];simp only[hr.ev hx,hr.ev hy];exact aA _ _ (AK ht he ZC QD h0 h1 ⟨rfl,rfl⟩))
theorem oA.BU {t:TypeId}{x y:Operand}{r re:wA}{et:TypeId}{blk off sz len:Nat}{ik:IntKind}{j:Int}(iA:o.op=.indexAddr t x y)(hx:GA R x=some (.pointer (some ⟨blk,off,none⟩)))(hy:GA R y=some (.int ik j))
  (ht:E.ty t=some r) (he:r.elem=some (some len,et)) (ZC:E.ty et=some re) (QD:re.size=sz) (h0:0<=j) (h1:j<len):oA P n H₀ R L o (.pointer (some ⟨blk,off+j.toNat*sz,none⟩)):=
 (fun H tmps _ hr=> by
  unfold execOp;rw[iA];simp only[hr.ev hx,hr.ev hy];refine aA _ _ ?_;have WI:=(E.ok _ _ ht).elem;unfold JN at WI;split at WI
  ·rename_i n' e' hu
   rw[he] at WI;cases WI
   show yA P ((underlying t).bind fun d=> _) H _;refine aA (underlying t) _ (dA hu ?_);show yA P ((underlying t).bind fun d=> _) H _;refine aA (underlying t) _ (dA hu ?_);simp only[];rw[if_pos ⟨h0,h1⟩];refine aA (sizeOf et) _ (IA (E.ok _ _ ZC).size ?_);show Next.value (.pointer (some (Addr.add ⟨blk,off,none⟩ (j.toNat*re.size))))=_/\_;rw[VD _ _ rfl,QD];exact⟨rfl,rfl⟩
  ·rw[he] at WI;cases WI
  ·rw[he] at WI;cases WI)
theorem oA.index {t:TypeId}{x y:Operand}{r re:wA}{et:TypeId}{len:Nat}{ik:IntKind}{j:Int}{c:List Value}(iA:o.op=.index t x y)(hx:GA R x=some (.agg ⟨c⟩))(hy:GA R y=some (.int ik j))
  (ht:E.ty t=some r) (he:r.elem=some (some len,et)) (ZC:E.ty et=some re) (h0:0<=j) (h1:j<len) (hv:SB re.agg re.size c (j.toNat*re.size)=some v):oA P n H₀ R L o (v):=
 (fun H tmps _ hr=> by
  unfold execOp;rw[iA];simp only[hr.ev hx,hr.ev hy];refine aA _ _ ?_;have WI:=(E.ok _ _ ht).elem;unfold JN at WI;split at WI
  ·rename_i n' e' hu
   rw[he] at WI;cases WI
   show yA P ((underlying t).bind fun d=> _) H _;refine aA (underlying t) _ (dA hu ?_);simp only[];rw[if_pos ⟨h0,h1⟩];refine aA (sizeOf et) _ (IA (E.ok _ _ ZC).size ?_);unfold part;refine aA (isAgg et) _ (ZK (E.ok _ _ ZC).agg ?_);unfold SB at hv;cases hg:re.agg with
   | true=>
    rw[hg] at hv;simp only at hv;split at hv
    ·rename_i hle
     have oZ:=Nat.le_of_ble_eq_true hle;cases hv
     refine aA (sizeOf et) _ (IA (E.ok _ _ ZC).size ?_);show Next.value (.agg ((⟨c⟩:Array Value).extract (j.toNat*re.size) (j.toNat*re.size+re.size)))=_/\_;refine⟨?_,rfl⟩
     congr 2
     apply Array.ext'
     simp[List.extract_eq_take_drop]
    ·cases hv
   | false=>
    rw[hg] at hv;simp only at hv;have:(⟨c⟩:Array Value)[j.toNat*re.size]? =some v:=by simpa using hv
    simp only[this];exact⟨rfl,rfl⟩
  ·rw[he] at WI;cases WI
  ·rw[he] at WI;cases WI)
end
theorem SR:∀(vs:List Value) (k:Nat) (c:List Value) (off:Nat),off+k+vs.length<=c.length-> 
  (vs.zipIdx k).foldl (fun(cs:Array Value) (x:Value×Nat)=> cs.setIfInBounds (off+x.2) x.1) (⟨c⟩:Array Value)=⟨IE c (off+k) vs⟩
 | [],k,c,off,_=> by simp[AW]
 | v::vs,k,c,off,h=> by
  simp only[List.length_cons] at h;have e:(⟨c⟩:Array Value).setIfInBounds (off+k) v=⟨c.set (off+k) v⟩:=by apply Array.ext';simp
  simp only[List.zipIdx_cons,List.foldl_cons,e];rw[SR vs (k+1) (c.set (off+k) v) off (by simp;omega)];rw[show off+(k+1)=off+k+1 by omega,EN c (off+k) v vs oM]
def mL(place:Nat->Option (Nat×Nat)):List Value->List (Nat×Value)->Option (List Value)
 | c,[]=> some c
 | c,(i,v)::rest=>
  match place i with
  | none=> none
  | some (off,size)=>
   match Nat.beq v.cells.toList.length size,Nat.ble (off+v.cells.toList.length) c.length with
   | true,true=> mL place (IE c off v.cells.toList) rest
   | _,_=> none
theorem ZL {place:Nat->Option (Nat×Nat)}:∀ {parts:List (Nat×Value)} {c r:List Value},mL place c parts=some r->Instr.fill place ⟨c⟩ parts=some ⟨r⟩
 | [],c,r,h=> by simp only[mL,Option.some.injEq] at h;simp[Instr.fill,h]
 | (i, v)::rest,c,r,h=> by
  unfold mL at h;unfold Instr.fill;split at h
  ·cases h
  ·rename_i off size hp
   rw[hp];split at h
   ·rename_i h1 h2
    have h1':v.cells.size=size:=by rw[<-Array.length_toList];exact Nat.eq_of_beq_eq_true h1
    have B8:off+v.cells.size<=c.length:=by rw[<-Array.length_toList];exact Nat.le_of_ble_eq_true h2
    simp only[];rw[if_neg (by simp[h1'];omega)];have hz:v.cells.zipIdx.foldl (fun(cs:Array Value) (x:Value×Nat)=> cs.setIfInBounds (off+x.2) x.1) (⟨c⟩:Array Value)=⟨IE c off v.cells.toList⟩:=by
     have:=SR v.cells.toList 0 c off (by simpa using B8);rw[<-Array.foldl_toList];simpa using this
    have hz':(v.cells.zipIdx.foldl (fun cs (c,j)=> cs.setIfInBounds (off+j) c) (⟨c⟩:Array Value))=⟨IE c off v.cells.toList⟩:=hz;rw[hz'];exact ZL h
   ·cases h
section
variable {P:Program}{E:Env P}{M:Md P}{n:Nat}{H₀:View}{R:Rg}{L L':Bl}{K:Rg->Bl->Prop}{o:Oper}{d:Nat}{v:Value}
def jO(R:Rg)(ps:List (Nat×Operand)):Option (List (Nat×Value)):=ps.mapM fun x=> (GA R x.2).map fun v=> (x.1,v)
theorem PA.jO {tmps:Array Value}(h:PA n R tmps):∀ {xs:List (Nat×Operand)} {vs:List (Nat×Value)},jO R xs=some vs->xs.map (fun x=> (x.1,uB tmps x.2))=vs:=by
 intro xs;induction xs with
 | nil=> intro vs e;simp[RL.jO] at e;simp[e]
 | cons x xs ih=>
  intro vs e;simp only[RL.jO,List.mapM_cons,Option.bind_eq_bind,Option.bind_eq_some_iff,Option.pure_def,Option.some.injEq,Option.map_eq_some_iff] at e;obtain⟨v,⟨w,h1,rfl⟩,us,h2,rfl⟩:=e;simp only[List.map_cons,h.ev h1,List.cons.injEq,true_and];exact ih h2
def SP(E:Env P)(t:TypeId)(parts:List (Nat×Value)):Option (List Value):=
 match E.ty t with
 | none=> none
 | some r=>
  match r.ds with
  | .struct fs=> mL (fun i=> (fs[i]?).map (·.2)) r.zero.cells.toList parts
  | .arr _ e=>
   match E.ty e with
   | some re=> mL (fun i=> some (i*re.size,re.size)) r.zero.cells.toList parts
   | none=> none
  | _=> none
theorem DI {t:TypeId}{fs:List (TypeId×Nat×Nat)}(h:pI P t=.struct fs):∃a:Array Field,P.underlying t=some (.struct a)/\(∀f∈a.toList,f.name≠ "_"/\(P.info? f.type).isSome=true)/\P.stoodInHeld t=false/\
  fs=a.toList.map fun f=> (f.type,f.offset,((P.info? f.type).map (·.size)).getD 0):=by
 unfold pI at h;split at h <;> try cases h
 rename_i a hu
 split at h
 ·rename_i zA
  simp only[Bool.and_eq_true,List.all_eq_true,bne_iff_ne,ne_eq,Bool.not_eq_true'] at zA;cases h
  exact⟨a,hu,zA.1,zA.2,rfl⟩
 ·cases h
theorem VP {t:TypeId}{m:Nat}{e:TypeId}(h:pI P t=.arr m e):P.underlying t=some (.array m e):=by
 unfold pI at h;split at h <;> try cases h
 ·rename_i a hu;split at h <;> cases h
 ·assumption
theorem uC {t:TypeId}{e:TypeId}(h:pI P t=.slice e):P.underlying t=some (.slice e):=by
 unfold pI at h;split at h <;> try cases h
 ·rename_i a hu;split at h <;> cases h
 ·assumption
theorem HM {t:TypeId}{k e:TypeId}(h:pI P t=.map k e):P.underlying t=some (.map k e):=by
 unfold pI at h;split at h <;> try cases h
 ·rename_i a hu;split at h <;> cases h
 ·assumption
theorem LK {t:TypeId}{k:IntKind}(h:pI P t=.int k):P.underlying t=some (.int k):=by
 unfold pI at h;split at h <;> try cases h
 ·assumption
 ·rename_i a hu;split at h <;> cases h
theorem xP {H:View}:∀ {fs:List Field} {Q:List (Nat×Nat)->View->Prop},(∀f∈fs,(P.info? f.type).isSome=true)->Q (fs.map fun f=> (f.offset,((P.info? f.type).map (·.size)).getD 0)) H-> 
  yA P (fs.mapM fun f=> (sizeOf f.type).bind fun s=> .pure (f.offset,s)) H Q
 | [],Q,_,h=> h
 | f::fs,Q,zA,h=> by
  rw[List.mapM_cons];obtain⟨i,hi⟩:=Option.isSome_iff_exists.1 (zA f (by simp));refine aA ((sizeOf f.type).bind fun s=> .pure (f.offset,s)) _ (aA _ _ (IA (n:=i.size) (by rw[hi];rfl) ?_));show yA P ((fs.mapM fun f=> (sizeOf f.type).bind fun s=> Sem.pure (f.offset,s)).bind fun us=> .pure ((f.offset,i.size)::us)) H Q;refine aA _ _ (xP (fun g hg=> zA g (by simp[hg])) ?_);simp only[List.map_cons,hi,Option.map_some,Option.getD_some] at h;exact h
theorem bY {t:TypeId}{parts:List (Nat×Value)}{l:List Value}{H:View}{Q:Value->View->Prop}(hv:SP E t parts=some l)(h:Q (.agg ⟨l⟩) H):yA P (Instr.build t parts.toArray) H Q:=by
 unfold SP at hv;split at hv
 ·cases hv
 ·rename_i r ht
  refine aA (zeroValue t) _ (AB (E.ok _ _ ht).zero ?_);split at hv
  ·rename_i fs LB
   obtain⟨a,hu,zA,_,rfl⟩:=DI ((E.ok _ _ ht).ds.trans LB);refine aA (underlying t) _ (dA hu ?_);have e1:∀k:Array (Nat×Nat)->Sem Value,((a.mapM fun f=> (sizeOf f.type).bind fun s=> Sem.pure (f.offset,s)).bind k)=(a.toList.mapM fun f=> (sizeOf f.type).bind fun s=> Sem.pure (f.offset,s)).bind fun us=> k us.toArray:=by
    intro k;have e0:a.mapM (fun f=> (sizeOf f.type).bind fun s=> Sem.pure (f.offset,s))=(a.toList.toArray).mapM (fun f=> (sizeOf f.type).bind fun s=> Sem.pure (f.offset,s)):=by simp
    rw[e0,List.mapM_toArray];show((a.toList.mapM fun f=> (sizeOf f.type).bind fun s=> Sem.pure (f.offset,s)) >>=fun us=> (Pure.pure us.toArray:Sem (Array (Nat×Nat)))) >>=k=_;rw[bind_assoc];rfl
   show yA P ((a.mapM fun f=> (sizeOf f.type).bind fun s=> Sem.pure (f.offset,s)).bind _) H Q;rw[e1];refine aA _ _ (xP (fun f hf=> (zA f hf).2) ?_);have hf:=ZL hv;have hp:(fun i:Nat=> ((a.toList.map fun f=> (f.offset,((P.info? f.type).map (·.size)).getD 0)).toArray)[i]?)=fun i=> ((a.toList.map fun f=> (f.type,f.offset,((P.info? f.type).map (·.size)).getD 0))[i]?).map (·.2):=by
    funext i
    simp only[List.getElem?_toArray,List.getElem?_map,Option.map_map];rfl
   have dM:Instr.fill (fun i:Nat=> ((a.toList.map fun f=> (f.offset,((P.info? f.type).map (·.size)).getD 0)).toArray)[i]?) r.zero.cells parts=some ⟨l⟩:=by rw[hp];exact hf
   simp only[dM];exact h
  ·rename_i m e LB
   refine aA (underlying t) _ (dA (VP ((E.ok _ _ ht).ds.trans LB)) ?_);split at hv
   ·rename_i re ZC
    refine aA (sizeOf e) _ (IA (E.ok _ _ ZC).size ?_);have hf:=ZL hv;have dM:Instr.fill (fun i:Nat=> some (i*re.size,re.size)) r.zero.cells parts=some ⟨l⟩:=hf;simp only[dM];exact h
   ·cases hv
  ·cases hv
theorem oA.build {t:TypeId}{ps:Array (Nat×Operand)}{parts:List (Nat×Value)}{l:List Value}(iA:o.op=.build t ps)(jY:jO R ps.toList=some parts)(hv:SP E t parts=some l):oA P n H₀ R L o (.agg ⟨l⟩):=
 (fun H tmps _ hr=> by
  unfold execOp;rw[iA];have e:(ps.map fun x=> (x.1,uB tmps x.2))=parts.toArray:=by
   apply Array.ext'
   simpa using hr.jO jY
  have e':(ps.map fun(i,x)=> (i,uB tmps x))=parts.toArray:=e;simp only[e'];exact aA _ _ (bY hv ⟨rfl,rfl⟩))
theorem Or.newObj {ob:Obj}{val:Nat->Value}(hd:o.dst=some d)(hn:d<n)
  (h:∀H tmps,eA H₀ L H->PA n R tmps->∀Q:Next->View->Prop,(∀blk,H blk=none->Q (.value (val blk)) (H.put blk (true,ob)))->yA P (execOp (uB tmps) o) H Q)
  (hk:∀blk,K ((d,val blk)::R) ((blk,true,ob)::L)):Or M n H₀ R L o K:=
 .val hd hn fun H tmps hs hr=> h H tmps hs hr _ fun blk hb=> ⟨_,rfl,_,hs.cons _ hb,hk blk⟩
def mC(z:List Value)(m:Nat):List Value:=(List.range m).map fun i=> z[i%z.length]!
theorem HL(z:List Value)(m:Nat):(mC z m).length=m:=by simp[mC]
theorem yI(z:Array Value)(m:Nat):(Array.range m).map (fun i=> z[i%z.size]!)=⟨mC z.toList m⟩:=by
 apply Array.ext'
 simp only[mC,Array.toList_map,Array.toList_range,Array.length_toList];refine List.map_congr_left fun i _=> ?_;rw[getElem!_def,getElem!_def];simp
theorem wT(v:Value)(m:Nat):mC [v] m=List.replicate m v:=by
 unfold mC;apply List.ext_getElem
 ·simp
 ·intro i h1 h2;simp[Nat.mod_one]
theorem Or.buildSlice {t e:TypeId}{len:Nat}{ps:Array (Nat×Operand)}{parts:List (Nat×Value)}{r re:wA}{l:List Value}(iA:o.op=.buildSlice t len ps)(jY:jO R ps.toList=some parts)(ht:E.ty t=some r)(LB:r.ds=.slice e)(ZC:E.ty e=some re)
  (QD:Nat.ble (len*re.size) 16777216=true) (hv:mL (fun i=> some (i*re.size,re.size)) (mC re.zero.cells.toList (len*re.size)) parts=some l)
  (hd:o.dst=some d) (hn:d<n) (hk:∀blk,K ((d,.slice (some ⟨blk,0,none⟩) len len)::R) ((blk,true,.cells ⟨l⟩ e (0,0))::L)):Or M n H₀ R L o K:=
 .newObj (val:=fun blk=> .slice (some ⟨blk,0,none⟩) len len) hd hn (fun H tmps _ hr Q hQ=> by
  unfold execOp;rw[iA];have e':(ps.map fun(i,x)=> (i,uB tmps x))=parts.toArray:=by
   apply Array.ext'
   simpa using hr.jO jY
  simp only[e'];refine aA (Instr.buildSlice t len parts.toArray) _ ?_;refine aA (underlying t) _ (dA (uC ((E.ok _ _ ht).ds.trans LB)) ?_);refine aA (sizeOf e) _ (IA (E.ok _ _ ZC).size ?_);have hle:len*re.size<=16777216:=Nat.le_of_ble_eq_true QD;rw[if_neg oM];have fin:∀z:Array Value,((Array.range (len*re.size)).map fun i=> z[i%z.size]!)=⟨mC re.zero.cells.toList (len*re.size)⟩-> 
    yA P (match Instr.fill (fun i=> some (i*re.size,re.size)) ((Array.range (len*re.size)).map fun i=> z[i%z.size]!) parts with
     | some cells=> (newRow e cells).bind fun a=> .pure (.slice (some a) len len)
     | x=> stuck "buildSlice: a part of the wrong size") H (fun a H'=> yA P (Sem.pure (Next.value a)) H' Q):=by
   intro z hz;rw[hz,ZL hv];exact fun blk hb=> hQ blk hb
  by_cases h0:len*re.size=0
  ·simp only[h0,if_true];rw[h0] at fin;exact fin #[] (by simp[mC])
  ·simp only[h0,if_false];exact aA (zeroValue e) _ (AB (E.ok _ _ ZC).zero (fin re.zero.cells (yI _ _)))) hk
theorem Or.makeSlice {t e:TypeId}{x y:Operand}{len cap:Nat}{r re:wA}(iA:o.op=.makeSlice t x y)(hx:GA R x=some (.int .i64 len))(hy:GA R y=some (.int .i64 cap))(ht:E.ty t=some r)(LB:r.ds=.slice e)(ZC:E.ty e=some re)
  (h1:len<=cap) (h2:cap<=1000000000) (h3:Nat.ble re.bytes 1000=true) (hd:o.dst=some d) (hn:d<n)
  (hk:∀blk,K ((d,.slice (some ⟨blk,0,none⟩) len cap)::R) ((blk,true,.cells ⟨mC re.zero.cells.toList (cap*re.size)⟩ e (0,0))::L)):Or M n H₀ R L o K:=
 .newObj (val:=fun blk=> .slice (some ⟨blk,0,none⟩) len cap) hd hn (fun H tmps _ hr Q hQ=> by
  unfold execOp;rw[iA];simp only[hr.ev hx,hr.ev hy];refine aA (Instr.makeSlice t _ _) _ ?_;refine aA (underlying t) _ (dA (uC ((E.ok _ _ ht).ds.trans LB)) ?_);show yA P ((typeInfo e).bind fun i=> _) H _;have hb:=(E.ok _ _ ZC).bytes;cases hi:P.info? e with
  | none=> rw[hi] at hb;cases hb
  | some i=>
   rw[hi] at hb;simp only[Option.map_some,Option.some.injEq] at hb;refine aA (typeInfo e) _ (UB hi ?_);have hw:∀k:Nat,k<=1000000000->IntKind.i64.wrap (k:Int)=k:=fun k hk=> wrap64 oM oM;have h3':re.bytes<=1000:=Nat.le_of_ble_eq_true h3;have hmul:i.bytes*cap<=1000*1000000000:=Nat.mul_le_mul oM h2;have aEO:(i.bytes:Int)*(cap:Int)<=1000*1000000000:=by rw[<-Int.natCast_mul];omega
   simp only[hw len oM,hw cap h2];rw[if_neg]
   ·show yA P ((askRoom ((cap:Int).toNat*i.bytes)).bind fun _=> _) H _;refine aA _ _ ?_;unfold askRoom roomBytes;rw[if_neg (by simp only[Int.toNat_natCast];rw[Nat.mul_comm];omega)];show yA P ((sizeOf e).bind fun s=> _) H _;refine aA (sizeOf e) _ (IA (E.ok _ _ ZC).size ?_);simp only[Int.toNat_natCast];have fin:∀z:Array Value,((Array.range (cap*re.size)).map fun i=> z[i%z.size]!)=⟨mC re.zero.cells.toList (cap*re.size)⟩-> 
      yA P ((newRow e ((Array.range (cap*re.size)).map fun i=> z[i%z.size]!)).bind fun a=> .pure (.slice (some a) len cap)) H (fun a H'=> yA P (Sem.pure (Next.value a)) H' Q):=by
     intro z hz;rw[hz];exact fun blk hb=> hQ blk hb
    by_cases h0:cap*re.size=0
    ·simp only[h0,if_true];rw[h0] at fin;exact fin #[] (by simp[mC])
    ·simp only[h0,if_false];exact aA (zeroValue e) _ (AB (E.ok _ _ ZC).zero (fin re.zero.cells (yI _ _)))
   ·simp only[Bool.or_eq_true,decide_eq_true_eq];omega) hk
end
section
variable {P:Program}{E:Env P}{M:Md P}{n:Nat}{H₀:View}{R:Rg}{L L':Bl}{K:Rg->Bl->Prop}{o:Oper}{d:Nat}{v:Value}
theorem oA.p8 {t u:TypeId}{x:Operand}{ik jk:IntKind}{p z:Int}{r r':wA}(iA:o.op=.convert t u x)(hx:GA R x=some (.int ik p))(ht:E.ty t=some r)(hr:r.ds=.int ik)(T2:E.ty u=some r')(vE:r'.ds=.int jk)(hz:jk.wrap p=z):oA P n H₀ R L o (.int jk z):=
 .conv iA hx (LK ((E.ok _ _ ht).ds.trans hr)) (LK ((E.ok _ _ T2).ds.trans vE)) hz
theorem uT {t:TypeId}{r:wA}{c:List Value}{off:Nat}{H:View}{Q:Value->View->Prop}(ht:E.ty t=some r)(hv:SB r.agg r.size c off=some v)(h:Q v H):yA P (part t ⟨c⟩ off) H Q:=by
 unfold part;refine aA (isAgg t) _ (ZK (E.ok _ _ ht).agg ?_);unfold SB at hv;cases hg:r.agg with
 | true=>
  rw[hg] at hv;simp only at hv;split at hv
  ·cases hv
   refine aA (sizeOf t) _ (IA (E.ok _ _ ht).size ?_);have e:(⟨c⟩:Array Value).extract off (off+r.size)=⟨(c.drop off).take r.size⟩:=by
    apply Array.ext'
    simp[List.extract_eq_take_drop]
   show Q (.agg ((⟨c⟩:Array Value).extract off (off+r.size))) H;rw[e];exact h
  ·cases hv
 | false=>
  rw[hg] at hv;simp only at hv;have:(⟨c⟩:Array Value)[off]? =some v:=by simpa using hv
  simp only[Bool.false_eq_true,if_false,this];exact h
theorem oA.field {t ft:TypeId}{x:Operand}{fi off sz:Nat}{r rf:wA}{c:List Value}{fs:List (TypeId×Nat×Nat)}(iA:o.op=.field t x fi)(hx:GA R x=some (.agg ⟨c⟩))(ht:E.ty t=some r)(LB:r.ds=.struct fs)(hf:fs[fi]? =some (ft,off,sz))
  (htf:E.ty ft=some rf) (hv:SB rf.agg rf.size c off=some v):oA P n H₀ R L o v:=
 (fun H tmps _ hr=> by
  unfold execOp;rw[iA];simp only[hr.ev hx];refine aA (Instr.field t _ fi) _ ?_;obtain⟨a,hu,zA,_,rfl⟩:=DI ((E.ok _ _ ht).ds.trans LB);refine aA (underlying t) _ (dA hu ?_);simp only[List.getElem?_map,Option.map_eq_some_iff] at hf;obtain⟨fl,h1,h2⟩:=hf;simp only[Array.getElem?_toList] at h1;simp only[Prod.mk.injEq] at h2;obtain⟨h3,h4,_⟩:=h2;simp only[h1];show yA P ((asAgg (.agg ⟨c⟩)).bind fun a=> part fl.type a fl.offset) H _;show yA P (part fl.type ⟨c⟩ fl.offset) H _;rw[h3,h4];exact uT htf hv ⟨rfl,rfl⟩)
def bound(R:Rg)(x:Option Operand)(dflt:Nat):Option Int:=
 match x with
 | none=> some dflt
 | some y=>
  match GA R y with
  | some (.int _ i)=> some i
  | _=> none
theorem IF {k:IntKind}{i:Int}{y:Nat}{code:BoundsCode}{H:View}{Q:Nat->View->Prop}(h0:0<=i)(h1:i<=y)(h:Q i.toNat H):yA P (Instr.sliceBound (.int k i) y code) H Q:=by
 show yA P (if 0<=i/\i<=y then _ else _) H Q;rw[if_pos ⟨h0,h1⟩];exact h
theorem cF {tmps:Array Value}{isS:Bool}{len cap:Nat}{lo hi:Option Operand}{l h:Int}{H:View}{Q:Nat×Nat×Nat->View->Prop}(hr:PA n R tmps)(eW:bound R lo 0=some l)(kU:bound R hi len=some h)
  (h0:0<=l) (h1:l<=h) (h2:h<=cap) (hq:Q (l.toNat,h.toNat,cap) H):yA P (Instr.sliceBounds isS len cap (lo.map (uB tmps)) (hi.map (uB tmps)) none) H Q:=by
 have aEf:∀(lv:Option Value),lv=lo.map (uB tmps)->∀(K:Nat->Sem (Nat×Nat×Nat)) (code:BoundsCode),yA P (K l.toNat) H Q->yA P (match lv with|some v=> (Instr.sliceBound v h.toNat code).bind K|none=> K 0) H Q:=by
  intro lv X5 K code hK;cases lo with
  | none=>
   simp only[bound,Option.some.injEq] at eW;subst eW;subst X5;exact hK
  | some x=>
   simp only[bound] at eW;split at eW
   ·rename_i k i he
    cases eW
    simp only[Option.map_some,hr.ev he] at X5;subst X5;exact aA _ _ (IF h0 oM hK)
   ·cases eW
 have rest:yA P (match lo.map (uB tmps) with|some v=> (Instr.sliceBound v h.toNat .sliceB).bind fun ll=> Sem.pure (ll,h.toNat,cap)|none=> Sem.pure (0,h.toNat,cap)) H Q:=
  aEf _ rfl (fun ll=> Sem.pure (ll,h.toNat,cap)) .sliceB hq
 cases hi with
 | none=>
  simp only[bound,Option.some.injEq] at kU;have e:h.toNat=len:=by omega
  rw[e] at rest;cases X5:lo.map (uB tmps) with
  | none=> rw[X5] at rest;exact rest
  | some v=> rw[X5] at rest;exact rest
 | some x=>
  simp only[bound] at kU;split at kU
  ·rename_i k i he
   cases kU
   simp only[Option.map_some,hr.ev he];cases X5:lo.map (uB tmps) with
   | none=>
    rw[X5] at rest;exact aA (Instr.sliceBound _ cap _) _ (IF oM h2 rest)
   | some v=>
    rw[X5] at rest;exact aA (Instr.sliceBound _ cap _) _ (IF oM h2 rest)
  ·cases kU
theorem oA.slice {t e:TypeId}{x:Operand}{lo hi:Option Operand}{l h:Int}{len cap off off' sz:Nat}{blk:Nat}{r re:wA}(iA:o.op=.slice t x lo hi none)(hx:GA R x=some (.slice (some ⟨blk,off,none⟩) len cap))(ht:E.ty t=some r)(LB:r.ds=.slice e)
  (ZC:E.ty e=some re) (QD:re.size=sz) (eW:bound R lo 0=some l) (kU:bound R hi len=some h) (h0:0<=l) (h1:l<=h) (h2:h<=cap) (DH:if(cap:Int)=l then off'=off else off'=off+l.toNat*sz):
  oA P n H₀ R L o (.slice (some ⟨blk,off',none⟩) (h.toNat-l.toNat) (cap-l.toNat)):=
 (fun H tmps _ hr=> by
  unfold execOp;rw[iA];simp only[hr.ev hx];refine aA (Instr.sliceAt t _ _ _ _) _ ?_;refine aA (underlying t) _ (dA (uC ((E.ok _ _ ht).ds.trans LB)) ?_);refine aA (underlying t) _ (dA (uC ((E.ok _ _ ht).ds.trans LB)) ?_);show yA P ((Instr.sliceBounds true len cap (lo.map (uB tmps)) (hi.map (uB tmps)) none).bind fun b=> _) H _;refine aA _ _ (cF hr eW kU h0 h1 h2 ?_);refine aA (sizeOf e) _ (IA (E.ok _ _ ZC).size ?_);show Next.value (.slice (if cap=l.toNat then some ⟨blk,off,none⟩ else(some ⟨blk,off,none⟩:Option Addr).map (·.add (l.toNat*re.size))) _ _)=_/\_;refine⟨?_,rfl⟩;by_cases hc:cap=l.toNat
  ·rw[if_pos hc];rw[if_pos oM] at DH;rw[DH]
  ·rw[if_neg hc];rw[if_neg oM] at DH;simp only[Option.map_some,VD ⟨blk,off,none⟩ _ rfl,QD,DH])
theorem oA.JJ {t e:TypeId}{x:Operand}{lo hi:Option Operand}{l h:Int}{m off off' sz:Nat}{blk:Nat}{ra re:wA}(iA:o.op=.slice t x lo hi none)(hx:GA R x=some (.pointer (some ⟨blk,off,none⟩)))(hta:E.ty t=some ra)(LB:ra.ds=.arr m e)
  (ZC:E.ty e=some re) (QD:re.size=sz) (eW:bound R lo 0=some l) (kU:bound R hi m=some h) (h0:0<=l) (h1:l<=h) (h2:h<=m) (DH:if(m:Int)=l then off'=off else off'=off+l.toNat*sz):
  oA P n H₀ R L o (.slice (some ⟨blk,off',none⟩) (h.toNat-l.toNat) (m-l.toNat)):=
 (fun H tmps _ hr=> by
  unfold execOp;rw[iA];simp only[hr.ev hx];refine aA (Instr.sliceAt t _ _ _ _) _ ?_;refine aA (underlying t) _ (dA (VP ((E.ok _ _ hta).ds.trans LB)) ?_);show yA P ((Instr.sliceBounds false m m (lo.map (uB tmps)) (hi.map (uB tmps)) none).bind fun b=> _) H _;refine aA _ _ (cF hr eW kU h0 h1 h2 ?_);refine aA (sizeOf e) _ (IA (E.ok _ _ ZC).size ?_);show Next.value (.slice (some (if m=l.toNat then⟨blk,off,none⟩ else Addr.add ⟨blk,off,none⟩ (l.toNat*re.size))) _ _)=_/\_;refine⟨?_,rfl⟩;by_cases hc:m=l.toNat
  ·rw[if_pos hc];rw[if_pos oM] at DH;rw[DH]
  ·rw[if_neg hc];rw[if_neg oM] at DH;rw[VD _ _ rfl,QD,DH])
def NA(H:View)(sz:Nat)(y:Value)(m:Nat)(l:List Value):Prop:=
 (∃a c,y=.slice a m c)/\l.length=m*sz/\
 ((∃a c,y=.slice a m c/\l= [])\/ 
  ∃b off c f cs e fz,y=.slice (some ⟨b,off,none⟩) m c/\H b=some (f,.cells ⟨cs⟩ e fz)/\off+l.length<=cs.length/\(cs.drop off).take l.length=l)
theorem yC {H:View}{sz m:Nat}{y:Value}{l:List Value}{Q:Array Value->View->Prop}(h:NA H sz y m l)(hq:Q ⟨l⟩ H):yA P (Builtin.firstCells sz m y) H Q:=by
 obtain⟨_,hl,⟨a,c,rfl,rfl⟩|⟨b,off,c,f,cs,e,fz,rfl,hb,hle,ht⟩⟩:=h
 ·cases a with
  | none=> exact hq
  | some a=>
   show yA P (loadCellsFrom a 0 (m*sz) #[]) H Q;rw[<-hl];exact hq
 ·show yA P (loadCellsFrom ⟨b,off,none⟩ 0 (m*sz) #[]) H Q;rw[<-hl];refine JE b off hb l.length 0 #[] (by simpa using hle) ?_;simp only[Nat.add_zero,ht];simpa using hq
theorem NA.lenOf {H:View}{sz m:Nat}{y:Value}{l:List Value}{Q:Nat->View->Prop}(h:NA H sz y m l)(hq:Q m H):yA P (Builtin.lenOf y) H Q:=by
 obtain⟨⟨a,c,rfl⟩,_⟩:=h;exact hq
theorem NA.mono {H H':View}{sz m:Nat}{y:Value}{l:List Value}(h:NA H sz y m l)(k:H.le H'):NA H' sz y m l:=by
 obtain⟨h1,h2,h3|⟨b,off,c,f,cs,e,fz,h3,hb,h4,h5⟩⟩:=h
 ·exact⟨h1,h2,.inl h3⟩
 ·exact⟨h1,h2,.inr ⟨b,off,c,f,cs,e,fz,h3,k _ _ hb,h4,h5⟩⟩
theorem NA.of {H:View}{sz m c b off:Nat}{f:Bool}{cs:List Value}{e:TypeId}{fz:Nat×Nat}(hb:H b=some (f,.cells ⟨cs⟩ e fz))(hle:off+m*sz<=cs.length):NA H sz (.slice (some ⟨b,off,none⟩) m c) m ((cs.drop off).take (m*sz)):=by
 have hl:((cs.drop off).take (m*sz)).length=m*sz:=by
  rw[List.length_take,List.length_drop];omega
 exact⟨⟨_,_,rfl⟩,hl,.inr ⟨b,off,c,f,cs,e,fz,rfl,hb,by rw[hl];exact hle,by rw[hl]⟩⟩
structure Gl(e:TypeId)(sz:Nat) where
 blk:Option Nat
 n:Nat
 cap:Nat
 l:List Value
 CC:List Value
 hl:l.length=n*sz
 hc:n<=cap
 hj:CC.length=(cap-n)*sz
 h0:blk=none->cap=0
def Gl.val {e:TypeId}{sz:Nat}(g:Gl e sz):Value:=.slice (g.blk.map fun b=> ⟨b,0,none⟩) g.n g.cap
def Gl.bl {e:TypeId}{sz:Nat}(g:Gl e sz):Bl:=
 match g.blk with
 | none=> []
 | some b=> [(b,true,.cells ⟨g.l++g.CC⟩ e (0,0))]
def Gl.nil(e:TypeId)(sz:Nat):Gl e sz:=⟨none,0,0,[],[],by simp,by simp,by simp,fun _=> rfl⟩
def Gl.emp(e:TypeId)(sz:Nat)(b:Nat):Gl e sz:=⟨some b,0,0,[],[],by simp,by simp,by simp,fun h=> by cases h⟩
theorem Gl.src {e:TypeId}{sz:Nat}(g:Gl e sz){H:View}(h:∀x∈g.bl,H x.1=some x.2):NA H sz g.val g.n g.l:=by
 refine⟨⟨_,g.cap,rfl⟩,g.hl,?_⟩;unfold Gl.bl at h;cases hb:g.blk with
 | none=>
  have h1:=g.h0 hb;have h2:=g.hc;have h3:g.l.length=0:=by rw[g.hl,show g.n=0 by omega];simp
  exact .inl ⟨none,g.cap,by simp[Gl.val,hb],List.eq_nil_of_length_eq_zero h3⟩
 | some b=>
  rw[hb] at h;exact .inr ⟨b,0,g.cap,true,g.l++g.CC,e,(0,0),by simp[Gl.val,hb],h (b,true,.cells ⟨g.l++g.CC⟩ e (0,0)) (by simp),by simp,by simp⟩
theorem BK(z:Array Value)(m:Nat):Builtin.zeroCells z m=⟨mC z.toList (m*z.size)⟩:=by
 unfold Builtin.zeroCells;exact yI z (m*z.size)
theorem qT {t xt e:TypeId}{rt:TypeId}{r re:wA}{sz m:Nat}{y:Value}{new:List Value}{g:Gl e sz}{H:View}{Q:Value->View->Prop}(ht:E.ty t=some r)(LB:r.ds=.slice e)(ZC:E.ty e=some re)(QD:re.size=sz)(sX:re.zero.cells.toList.length=sz)
  (yU:∃rx ex,E.ty xt=some rx/\rx.ds=.slice ex) (jZ:re.bytes<=1000) (hn:g.n+m<=1000000000) (hb:∀x∈g.bl,H x.1=some x.2) (hy:NA H sz y m new) (hs:new.all single=true)
  (hq:∀(g':Gl e sz) (H':View),g'.n=g.n+m->g'.l=g.l++new->(∀b,g'.blk=some b->((g.blk=some b/\g'.cap=g.cap)\/H b=none))->(∀c,(∀b,g'.blk=some b->b≠c)->H' c=H c)->(∀x∈g'.bl,H' x.1=some x.2)->Q g'.val H'):
  yA P (Builtin.append_ #[t,xt] rt #[g.val,y]) H Q:=by
 obtain⟨rx,ex,hx1,hx2⟩:=yU;have hold:=g.src hb;obtain⟨a,rQ⟩:∃a,g.val=.slice a g.n g.cap:=⟨_,rfl⟩
 show yA P ((underlying t).bind fun _=> _) H Q;refine aA (underlying t) _ (dA (uC ((E.ok _ _ ht).ds.trans LB)) ?_);rw[rQ];show yA P ((sizeOf e).bind fun _=> _) H Q;refine aA (sizeOf e) _ (IA (E.ok _ _ ZC).size ?_);refine aA (underlying xt) _ (dA (uC ((E.ok _ _ hx1).ds.trans hx2)) ?_);refine aA (Builtin.lenOf y) _ (hy.lenOf ?_);simp only[QD];by_cases pE:g.n+m<=g.cap
 ·rw[if_pos pE];show yA P ((Builtin.firstCells sz m y).bind fun _=> _) H Q;refine aA _ _ (yC hy ?_);cases BH:g.blk with
  | none=>
   have h1:=g.h0 BH;have e1:a=none:=by
    unfold Gl.val at rQ;rw[BH] at rQ
    injection rQ with e1
    exact e1.symm
   subst e1;have hm:m=0:=by omega
   have rU:new= []:=List.eq_nil_of_length_eq_zero (by rw[hy.2.1,hm];simp);have:=hq g H oM (by rw[rU];simp) (fun b hb=> .inl ⟨hb,rfl⟩) (fun c _=> rfl) hb;rw[rQ] at this;show Q (.slice none (g.n+m) g.cap) H;rw[hm];exact this
  | some b=>
   have e1:a=some ⟨b,0,none⟩:=by
    unfold Gl.val at rQ;rw[BH] at rQ;cases rQ
    rfl
   subst e1;have hHb:H b=some (true,.cells ⟨g.l++g.CC⟩ e (0,0)):=by
    have:=hb (b,true,.cells ⟨g.l++g.CC⟩ e (0,0)) (by unfold Gl.bl;rw[BH];simp);exact this
   show yA P ((storeCells (Addr.add ⟨b,0,none⟩ (g.n*sz)) new).bind fun _=> Sem.pure (.slice (some ⟨b,0,none⟩) (g.n+m) g.cap)) H Q;refine aA _ _ ?_;rw[VD _ _ rfl];have hlen:new.length=m*sz:=hy.2.1;have mZ:m*sz<=g.CC.length:=by rw[g.hj];exact Nat.mul_le_mul_right _ oM
   refine BC b _ new 0 (g.l++g.CC) hHb (by simp only[List.length_append,g.hl];omega) hs fun H' lR=> ?_;have kB:IE (g.l++g.CC) (0+g.n*sz+0) new=(g.l++new)++g.CC.drop new.length:=by
    unfold IE;simp only[Nat.zero_add,Nat.add_zero,<-g.hl,List.take_left',List.drop_append];simp
   let g':Gl e sz:=⟨some b,g.n+m,g.cap,g.l++new,g.CC.drop new.length,by simp[g.hl,hlen,Nat.add_mul],pE,by rw[List.length_drop,g.hj,hlen,<-Nat.sub_mul];congr 1;omega,fun h=> by cases h⟩
   have key:∀x∈g'.bl,H' x.1=some x.2:=by
    intro x hx;simp only[g',Gl.bl,List.mem_singleton] at hx;subst hx;show H' b=some (true,.cells ⟨(g.l++new)++g.CC.drop new.length⟩ e (0,0));rw[lR];split
    ·rename_i uQ
     subst uQ;simpa using hHb
    ·rw[View.qA,kB]
   exact hq g' H' rfl rfl (fun b' dQ=> .inl ⟨by cases dQ;exact BH,rfl⟩) (fun c hc=> by
    rw[lR];split
    ·rfl
    ·rw[View.kA];intro e;exact hc b rfl e.symm) key
 ·rw[if_neg pE];have bH:=(E.ok _ _ ZC).bytes;cases hi:P.info? e with
  | none=> rw[hi] at bH;cases bH
  | some i=>
   rw[hi] at bH;simp only[Option.map_some,Option.some.injEq] at bH;have lU:i.bytes<=1000:=by omega
   have pZ:IntKind.i64.max=9223372036854775807:=by decide
   show yA P ((typeInfo e).bind fun _=> _) H Q;refine aA (typeInfo e) _ (UB hi ?_);rw[if_neg (by rw[pZ];omega)];show yA P ((typeInfo e).bind fun _=> _) H Q;refine aA (typeInfo e) _ (UB hi ?_);rw[if_neg]
   ·show yA P ((choose _).bind fun newCap=> _) H Q;refine aA (choose _) _ ?_;intro tt;rw[if_neg (by simp[Question.forced])];generalize hnc:(Question.appendCap (g.n+m) g.cap e).cut tt=newCap;have jU:g.n+m<=newCap:=by rw[<-hnc];simp only[Question.cut];omega
    show yA P ((typeInfo e).bind fun _=> _) H Q;refine aA (typeInfo e) _ (UB hi ?_);show yA P ((askRoom (newCap*i.bytes)).bind fun _=> _) H Q;refine aA _ _ ?_;have iW:∀Q':Unit->View->Prop,Q' () H->yA P (askRoom (newCap*i.bytes)) H Q':=by
     intro Q' h;unfold askRoom;split
     ·exact⟨rfl,h⟩
     ·exact h
    refine iW _ ?_;show yA P ((Builtin.firstCells sz g.n (.slice a g.n g.cap)).bind fun _=> _) H Q;rw[<-rQ];refine aA _ _ (yC hold ?_);show yA P ((Builtin.firstCells sz m y).bind fun _=> _) H Q;refine aA _ _ (yC hy ?_);show yA P ((zeroValue e).bind fun _=> _) H Q;refine aA (zeroValue e) _ (AB (E.ok _ _ ZC).zero ?_);rw[BK];intro blk iU;have hzz:re.zero.cells.size=sz:=by rw[<-Array.length_toList];exact sX
    let g':Gl e sz:=⟨some blk,g.n+m,newCap,g.l++new,mC re.zero.cells.toList ((newCap-(g.n+m))*re.zero.cells.size),by simp[g.hl,hy.2.1,Nat.add_mul],jU,by rw[HL,hzz],fun h=> by cases h⟩
    exact hq g' _ rfl rfl (fun b' dQ=> .inr (by cases dQ;exact iU)) (fun c hc=> by
     rw[View.kA];intro e;exact hc blk rfl e.symm) (fun x hx=> by
     simp only[g',Gl.bl,List.mem_singleton] at hx;subst hx;rw[View.qA];simp)
   ·have h3 : Builtin.nextslicecap (g.n+m) g.cap<=4*1000000000:=by
     unfold Builtin.nextslicecap;split
     ·omega
     ·split
      ·omega
      ·have gb:∀(rounds c:Nat),c<=2*(g.n+m)+1000->Builtin.growBy (g.n+m) rounds c<=2*(g.n+m)+1000:=by
        intro rounds;induction rounds with
        | zero=> exact fun c hc=> hc
        | succ rounds ih=>
         intro c hc;unfold Builtin.growBy;split
         ·exact hc
         ·exact ih _ oM
       have:=gb 4 g.cap oM;omega
    have h4:Builtin.nextslicecap (g.n+m) g.cap*i.bytes<=4*1000000000*1000:=Nat.mul_le_mul h3 lU;omega
theorem KN {t xt e:TypeId}{rt:TypeId}{r re:wA}{sz m:Nat}{y:Value}{new:List Value}{g:Gl e sz}{H:View}{Q:Value->View->Prop}(ht:E.ty t=some r)(LB:r.ds=.slice e)(ZC:E.ty e=some re)(QD:re.size=sz)(sX:re.zero.cells.toList.length=sz)
  (yU:∃rx ex,E.ty xt=some rx/\rx.ds=.slice ex) (jZ:re.bytes<=1000) (hn:g.n+m<=1000000000) (hb:∀x∈g.bl,H x.1=some x.2) (hy:NA H sz y m new) (hs:new.all single=true)
  (hq:∀(g':Gl e sz) (H':View),g'.n=g.n+m->g'.l=g.l++new->(∀b,g'.blk=some b->(g.blk=some b\/H b=none))->(∀c,(∀b,g'.blk=some b->b≠c)->H' c=H c)->(∀x∈g'.bl,H' x.1=some x.2)->Q g'.val H'):
  yA P (Builtin.append_ #[t,xt] rt #[g.val,y]) H Q:=
 qT ht LB ZC QD sX yU jZ hn hb hy hs fun g' H' h1 h2 h3 h4 h5=> hq g' H' h1 h2 (fun b hb=> (h3 b hb).imp And.left id) h4 h5
theorem eA.grown {e:TypeId}{sz:Nat}{g g':Gl e sz}{A:Bl}{H H':View}(h:eA H₀ (A++g.bl) H)(h1:∀b,g'.blk=some b->(g.blk=some b\/H b=none))(h2:∀c,(∀b,g'.blk=some b->b≠c)->H' c=H c)(h3:∀x∈g'.bl,H' x.1=some x.2):
  eA H₀ (A++g'.bl) H':=by
 have gB:∀b,g'.blk=some b->(∀x∈A,b≠x.1)/\H₀ b=none:=by
  intro b hb;rcases h1 b hb with h4|h4
  ·have QC:(b,true,Obj.cells ⟨g.l++g.CC⟩ e (0,0))∈g.bl:=by unfold Gl.bl;rw[h4];simp
   refine⟨fun x hx e=> ?_,h.out _ (List.mem_append_right A QC)⟩;have nC:=h.nodup;rw[List.map_append,List.nodup_append] at nC;exact nC.2.2 _ (List.mem_map_of_mem hx) _ (List.mem_map_of_mem QC) e.symm
  ·refine⟨fun x hx e=> ?_,?_⟩
   ·have:=h.at_ x (by simp[hx]);rw[<-e,h4] at this;cases this
   ·cases h0:H₀ b with
    | none=> rfl
    | some y=>
     have:=h.base _ _ h0;rw[h4] at this;cases this
 refine⟨?_,fun x hx=> ?_,fun x hx=> ?_,fun c y hc=> ?_⟩
 ·have nC:=h.nodup;rw[List.map_append,List.nodup_append] at nC ⊢;refine⟨nC.1,?_,fun a ha b hb=> ?_⟩
  ·unfold Gl.bl;split <;> simp
  ·unfold Gl.bl at hb;split at hb
   ·simp at hb
   ·rename_i b' dQ
    simp only[List.map_cons,List.map_nil,List.mem_singleton] at hb;subst hb;obtain⟨x,hx,rfl⟩:=List.mem_map.1 ha;exact((gB _ dQ).1 x hx).symm
 ·rcases List.mem_append.1 hx with hx|hx
  ·exact h.out x (by simp[hx])
  ·unfold Gl.bl at hx;split at hx
   ·simp at hx
   ·rename_i b' dQ
    simp only[List.mem_singleton] at hx;subst hx;exact(gB _ dQ).2
 ·rcases List.mem_append.1 hx with EH|EH
  ·rw[h2 _ fun b hb=> (gB b hb).1 x EH];exact h.at_ x (by simp[EH])
  ·exact h3 x EH
 ·rw[h2 _ fun b hb e=> by rw[<-e,(gB b hb).2] at hc;cases hc];exact h.base _ _ hc
theorem Or.append(k:Nat){cl:Go.Call}{x y:Operand}{t xt e:TypeId}{sz m:Nat}{yv:Value}{new:List Value}{g:Gl e sz}{r re rx:wA}{ex:TypeId}(iA:o.op=.call cl)(PB:cl.callee=.builtin .append)(VH:cl.argTypes=#[t,xt])(sJ:cl.args=#[x,y])
  (hx:GA R x=some g.val) (hy:GA R y=some yv) (ht:E.ty t=some r) (LB:r.ds=.slice e) (ZC:E.ty e=some re) (QD:re.size=sz) (sX:Nat.beq re.zero.cells.toList.length sz=true) (yU:E.ty xt=some rx) (hex:rx.ds=.slice ex) (jZ:Nat.ble re.bytes 1000=true)
  (hL:L.drop k=g.bl) (nG:∀H,eA H₀ L H->NA H sz yv m new) (hs:new.all single=true) (hm:g.n+m<=1000000000) (hd:o.dst=some d) (hn:d<n)
  (hk:∀g':Gl e sz,g'.n=g.n+m->g'.l=g.l++new->K ((d,g'.val)::R) (L.take k++g'.bl)):Or M n H₀ R L o K:=
 .val hd hn fun H tmps kB hr=> by
  have hLe:L=L.take k++g.bl:=by rw[<-hL,List.take_append_drop]
  unfold execOp;rw[iA];simp only[resolve,PB,VH,sJ];have pU:Array.map (uB tmps) #[x,y]=#[g.val,yv]:=by simp[hr.ev hx,hr.ev hy]
  rw[pU];rw[hLe] at kB;refine aA (Builtin.append_ #[t,xt] o.type #[g.val,yv]) _ ?_;refine KN ht LB ZC QD (Nat.eq_of_beq_eq_true sX) ⟨rx,ex,yU,hex⟩ (Nat.le_of_ble_eq_true jZ) hm (fun z hz=> kB.at_ z (by simp[hz])) (nG H (by rw[hLe];exact kB)) hs fun g' H' h1 h2 h3 h4 h5=> ?_;exact⟨_,rfl,_,kB.grown h3 h4 h5,hk g' h1 h2⟩
end
def PG(agg:Bool)(l:List Value):Value:=
 match agg with
 | true=> .agg ⟨l⟩
 | false=> l.headD undef
def chunk(l:List Value)(off sz:Nat):List Value:=(l.drop off).take sz
def nJ:Nat->List (TypeId×Nat×Nat)->Nat->Bool
 | a,[],m=> Nat.beq a m
 | a,(_,off,sz)::fs,m=>
  match Nat.beq a off with
  | true=> nJ (a+sz) fs m
  | false=> false
theorem HO:∀ {fs:List (TypeId×Nat×Nat)} {a:Nat} {l l':List Value},nJ a fs l.length=true->l'.length=l.length->l.take a=l'.take a->(∀f∈fs,chunk l f.2.1 f.2.2=chunk l' f.2.1 f.2.2)->l=l'
 | [],a,l,l',h,hl,h0,_=> by
  have:a=l.length:=Nat.eq_of_beq_eq_true h;subst this;rw[List.take_of_length_le (Nat.le_refl _),List.take_of_length_le oM] at h0;exact h0
 | (t,off,sz)::fs,a,l,l',h,hl,h0,zA=> by
  unfold nJ at h;split at h
  ·rename_i hb
   have:a=off:=Nat.eq_of_beq_eq_true hb;subst this;refine HO h hl ?_ fun f hf=> zA f (by simp[hf]);have:=zA _ (by simp:(t,a,sz)∈(t,a,sz)::fs);simp only[chunk] at this;rw[List.take_add,List.take_add,h0,this]
  ·cases h
theorem GM:∀ {fs:List (TypeId×Nat×Nat)} {a m m':Nat},nJ a fs m=true->nJ a fs m'=true->m=m'
 | [],a,m,m',h,h'=> (Nat.eq_of_beq_eq_true h).symm.trans (Nat.eq_of_beq_eq_true h')
 | (t,off,sz)::fs,a,m,m',h,h'=> by
  unfold nJ at h h';split at h
  ·rename_i hb
   rw[hb] at h';exact GM h h'
  ·cases h
theorem GO {sz:Nat}:∀ {m:Nat} {l l':List Value},l.length=m*sz->l'.length=m*sz->(∀i,i<m->chunk l (i*sz) sz=chunk l' (i*sz) sz)->l=l'
 | 0,l,l',h,h',_=> by
  have e1:l= []:=List.eq_nil_of_length_eq_zero (by simpa using h);have e2:l'= []:=List.eq_nil_of_length_eq_zero (by simpa using h');rw[e1,e2]
 | m+1,l,l',h,h',zA=> by
  have h0:=zA 0 oM;simp only[chunk,Nat.zero_mul,List.drop_zero] at h0;rw[<-List.take_append_drop sz l,<-List.take_append_drop sz l',h0]
  congr 1
  refine GO (m:=m) (sz:=sz) (by rw[List.length_drop,h,Nat.succ_mul];omega) (by rw[List.length_drop,h',Nat.succ_mul];omega) fun i hi=> ?_;have:=zA (i+1) oM;simp only[chunk,Nat.succ_mul] at this;simp only[chunk,List.drop_drop];rw[Nat.add_comm sz];exact this
section
variable {P:Program}
def flat(E:Env P):Nat->TypeId->List Value->Prop
 | 0,_,_=> False
 | d + 1,t,l=>
  match E.ty t with
  | none=> False
  | some r=>
   match r.ds with
   | .int k=> ∃i,l= [.int k i]
   | .bool=> ∃i,l= [.bool i]
   | .str=> ∃i,l= [.string i]
   | .struct fs=> nJ 0 fs l.length=true/\∀f∈fs,flat E d f.1 (chunk l f.2.1 f.2.2)/\∃rf,E.ty f.1=some rf/\rf.size=f.2.2/\f.2.1+f.2.2<=l.length
   | .arr m e=> ∃re,E.ty e=some re/\l.length=m*re.size/\∀i,i<m->flat E d e (chunk l (i*re.size) re.size)
   | _=> False
theorem dJ(i j:ByteArray):(i==j)=true<->i=j:=by
 cases i with|mk a=> cases j with|mk b=>
 show(ByteArray.beq _ _)=true<->_;simp[ByteArray.beq]
def CV:TyD->Option Bool
 | .struct _ | .arr _ _=> some true
 | .other=> none
 | _=> some false
theorem ZT {t:TypeId}{g b:Bool}{dd:TyD}(h:pI P t=dd)(hg:wH P t=some g)(hb:CV dd=some b):g=b:=by
 subst h;unfold pI at hb;unfold wH at hg;split at hb <;> rename_i hu
 ·rw[hu] at hg;cases hg;cases hb;rfl
 ·rw[hu] at hg;cases hg;cases hb;rfl
 ·rw[hu] at hg;cases hg;cases hb;rfl
 ·rw[hu] at hg;split at hb
  ·cases hg;cases hb;rfl
  ·cases hb
 ·rw[hu] at hg;cases hg;cases hb;rfl
 ·rw[hu] at hg;cases hg;cases hb;rfl
 ·rw[hu] at hg;cases hg;cases hb;rfl
 ·cases hb
theorem YL {t:TypeId}(h:pI P t=.bool):P.underlying t=some .bool:=by
 unfold pI at h;split at h <;> try cases h
 ·assumption
 ·rename_i a hu;split at h <;> cases h
theorem ZG {t:TypeId}(h:pI P t=.str):P.underlying t=some .string:=by
 unfold pI at h;split at h <;> try cases h
 ·assumption
 ·rename_i a hu;split at h <;> cases h
variable {E:Env P}
theorem WC {t:TypeId}{r:wA}{l:List Value}{off:Nat}{H:View}{Q:Value->View->Prop}(ht:E.ty t=some r)(hle:off+r.size<=l.length)(h1:r.agg=false->r.size=1)(h:Q (PG r.agg (chunk l off r.size)) H):yA P (part t ⟨l⟩ off) H Q:=by
 refine uT ht (v:=PG r.agg (chunk l off r.size)) ?_ h;unfold SB PG chunk;cases hg:r.agg with
 | true=>
  simp only[Nat.ble_eq_true_of_le hle]
 | false=>
  have h2:=h1 hg;simp only[h2];have mB:off<l.length:=by omega
  rw[List.getElem?_eq_getElem mB,List.drop_eq_getElem_cons mB];rfl
theorem BG {d:Nat}{t:TypeId}{r:wA}{l:List Value}(hf:flat E d t l)(ht:E.ty t=some r)(hg:r.agg=false):l.length=1:=by
 cases d with
 | zero=> exact hf.elim
 | succ d=>
  unfold flat at hf;rw[ht] at hf;simp only at hf;have ha:∀b,CV r.ds=some b->false=b:=fun b hb=> hg▸ZT (E.ok _ _ ht).ds (E.ok _ _ ht).agg hb;split at hf <;> rename_i LB
  ·obtain⟨i,rfl⟩:=hf;rfl
  ·obtain⟨i,rfl⟩:=hf;rfl
  ·obtain⟨i,rfl⟩:=hf;rfl
  ·rw[LB] at ha;cases ha true rfl
  ·rw[LB] at ha;cases ha true rfl
  ·exact hf.elim
theorem LJ {α:Type}{p:α->Prop}{f:α->Option Bool×Unit->Sem (ForInStep (Option Bool×Unit))}{H:View}{Q:Option Bool×Unit->View->Prop}:∀ {xs:List α},
  (∀x∈xs,∀Q':ForInStep (Option Bool×Unit)->View->Prop,(∀b,(b=true<->p x)->Q' (if(!b)=true then .done (some false,()) else .yield (none,())) H)->yA P (f x (none,())) H Q')-> 
  (∀r,(r=(none,())/\(∀x∈xs,p x))\/(r=(some false,())/\¬∀x∈xs,p x)->Q r H)->yA P (forIn xs (none,()) f) H Q
 | [],_,hq=> hq _ (.inl ⟨rfl,by simp⟩)
 | x ::xs,hf,hq=> by
  rw[List.forIn_cons];refine aA (f x (none,())) _ (hf x (by simp) _ fun b hb=> ?_);cases b with
  | false=> exact hq _ (.inr ⟨rfl,fun h=> by have:=hb.2 (h x (by simp));cases this⟩)
  | true=>
   have hp:=hb.1 rfl;refine LJ (xs:=xs) (fun y hy=> hf y (by simp[hy])) fun r hr=> hq r ?_;rcases hr with ⟨h1,h2⟩|⟨h1,h2⟩
   ·exact .inl ⟨h1,fun y hy=> by
     rcases List.mem_cons.1 hy with rfl|hy
     ·exact hp
     ·exact h2 y hy⟩
   ·exact .inr ⟨h1,fun h=> h2 fun y hy=> h y (by simp[hy])⟩
theorem VE {H:View}:∀(d D:Nat),d<=D->∀ {t:TypeId} {r:wA} {l l':List Value} {Q:Bool->View->Prop},E.ty t=some r->flat E d t l->flat E d t l'->(∀b,(b=true<->l=l')->Q b H)->yA P (Op.equalIn D t (PG r.agg l) (PG r.agg l')) H Q
 | 0,_,_,_,_,_,_,_,_,hf,_,_=> hf.elim
 | d+1,0,h,_,_,_,_,_,_,_,_,_=> by omega
 | d + 1,D+1,hd,t,r,l,l',Q,ht,hf,dM,hq=> by
  have ha:∀b,CV r.ds=some b->r.agg=b:=fun b hb=> ZT (E.ok _ _ ht).ds (E.ok _ _ ht).agg hb;unfold flat at hf dM;rw[ht] at hf dM;simp only at hf dM;cases LB:r.ds with
  | int k=>
   rw[LB] at hf dM ha;obtain⟨i,rfl⟩:=hf;obtain⟨j,rfl⟩:=dM;rw[ha _ rfl];refine aA (underlying t) _ (dA (LK ((E.ok _ _ ht).ds.trans LB)) ?_);show yA P (if k=k then _ else _) H Q;rw[if_pos rfl];exact hq _ (by simp)
  | bool=>
   rw[LB] at hf dM ha;obtain⟨i,rfl⟩:=hf;obtain⟨j,rfl⟩:=dM;rw[ha _ rfl];refine aA (underlying t) _ (dA (YL ((E.ok _ _ ht).ds.trans LB)) ?_);exact hq (i==j) (by simp)
  | str=>
   rw[LB] at hf dM ha;obtain⟨i,rfl⟩:=hf;obtain⟨j,rfl⟩:=dM;rw[ha _ rfl];refine aA (underlying t) _ (dA (ZG ((E.ok _ _ ht).ds.trans LB)) ?_);exact hq (i==j) (by rw[dJ];simp)
  | struct fs=>
   rw[LB] at hf dM ha;rw[ha _ rfl];obtain⟨hc,zA⟩:=hf;obtain⟨hc',SV⟩:=dM;obtain⟨a,hu,hn,kB,M5⟩:=DI ((E.ok _ _ ht).ds.trans LB);refine aA (underlying t) _ (dA hu ?_);show yA P ((program).bind fun p=> _) H Q;show yA P (if P.stoodInHeld t=true then _ else _) H Q;rw[if_neg (by simp[kB])];show yA P ((forIn a (none,()) fun(f:Field) (_:Option Bool×Unit)=> (if f.name≠ "_" then(part f.type ⟨l⟩ f.offset).bind fun x=> (part f.type ⟨l'⟩ f.offset).bind fun y=> (Op.equalIn D f.type x y).bind fun b=> if(!b)=true then Sem.pure (ForInStep.done (some false,())) else Sem.pure (ForInStep.yield (none,())) else Sem.pure (ForInStep.yield (none,())):Sem (ForInStep (Option Bool×Unit)))).bind _) H Q;rw[<-Array.forIn_toList];refine aA _ _ (LJ (p:=fun f:Field=> chunk l f.offset (((P.info? f.type).map (·.size)).getD 0)=chunk l' f.offset (((P.info? f.type).map (·.size)).getD 0)) (fun f hf Q' E8=> ?_) ?_)
   ·rw[if_pos (hn f hf).1];have QC:(f.type,f.offset,((P.info? f.type).map (·.size)).getD 0)∈fs:=by rw[M5];exact List.mem_map.2 ⟨f,hf,rfl⟩
    obtain⟨g1,rf,g2,g3,g4⟩:=zA _ QC;obtain⟨g1',_,_,_,g4'⟩:=SV _ QC;simp only at g1 g2 g3 g4 g1' g4';rw[<-g3] at g1 g4 g1' g4' E8;have pO:∀m:List Value,flat E d f.type (chunk m f.offset rf.size)->f.offset+rf.size<=m.length->rf.agg=false->rf.size=1:=by
     intro m hm hle hg;have:=BG hm g2 hg;simp only[chunk,List.length_take,List.length_drop] at this;omega
    refine aA _ _ (WC g2 g4 (pO l g1 g4) ?_);refine aA _ _ (WC g2 g4' (pO l' g1' g4') ?_);refine aA _ _ (VE d D oM g2 g1 g1' fun b hb=> ?_);have:=E8 b hb;cases b <;> exact this
   ·rintro r (⟨rfl,hr⟩|⟨rfl,hr⟩)
    ·refine hq true ⟨fun _=> ?_,fun _=> rfl⟩;refine HO hc (GM hc' hc) rfl fun f hf=> ?_
     ·rw[M5] at hf;obtain⟨g,hg,rfl⟩:=List.mem_map.1 hf;exact hr g hg
    ·refine hq false ⟨fun h=> (by cases h),fun h=> ?_⟩;exact absurd (fun f hf=> by rw[h]) hr
  | arr m e=>
   rw[LB] at hf dM ha;rw[ha _ rfl];obtain⟨re,ZC,hlen,zA⟩:=hf;obtain⟨re',aCE,aCt,SV⟩:=dM;rw[ZC] at aCE;cases aCE
   refine aA (underlying t) _ (dA (VP ((E.ok _ _ ht).ds.trans LB)) ?_);show yA P ((sizeOf e).bind fun _=> _) H Q;refine aA (sizeOf e) _ (IA (E.ok _ _ ZC).size ?_);rw[Std.Legacy.Range.forIn_eq_forIn_range'];refine aA _ _ (LJ (p:=fun i:Nat=> chunk l (i*re.size) re.size=chunk l' (i*re.size) re.size) (fun i hi Q' E8=> ?_) ?_)
   ·have P5:i<m:=by
     simp only[Std.Legacy.Range.size,List.mem_range'_1] at hi;omega
    have hle:i*re.size+re.size<=l.length:=by
     rw[hlen,<-Nat.succ_mul];exact Nat.mul_le_mul_right _ P5
    have pO:∀k:List Value,flat E d e (chunk k (i*re.size) re.size)->i*re.size+re.size<=k.length->re.agg=false->re.size=1:=by
     intro k hk hle hg;have:=BG hk ZC hg;simp only[chunk,List.length_take,List.length_drop] at this;omega
    refine aA _ _ (WC ZC hle (pO l (zA i P5) hle) ?_);have oZ:i*re.size+re.size<=l'.length:=by omega
    refine aA _ _ (WC ZC oZ (pO l' (SV i P5) oZ) ?_);refine aA _ _ (VE d D oM ZC (zA i P5) (SV i P5) fun b hb=> ?_);have:=E8 b hb;cases b <;> exact this
   ·rintro r (⟨rfl,hr⟩|⟨rfl,hr⟩)
    ·refine hq true ⟨fun _=> ?_,fun _=> rfl⟩;refine GO hlen aCt fun i hi=> hr i ?_;simp only[Std.Legacy.Range.size,List.mem_range'_1];omega
    ·refine hq false ⟨fun h=> (by cases h),fun h=> ?_⟩;exact absurd (fun f hf=> by rw[h]) hr
  | slice e=> rw[LB] at hf;exact hf.elim
  | map k e=> rw[LB] at hf;exact hf.elim
  | other=> rw[LB] at hf;exact hf.elim
end
section
variable {P:Program}{E:Env P}{M:Md P}{n:Nat}{H₀:View}{R:Rg}{L L':Bl}{K:Rg->Bl->Prop}{o:Oper}{d:Nat}{v:Value}
theorem oA.eqA(b:Bool)(dp:Nat){t u:TypeId}{x y:Operand}{r:wA}{l l':List Value}(iA:o.op=.binOp .eql t x y u)(hx:GA R x=some (.agg ⟨l⟩))(hy:GA R y=some (.agg ⟨l'⟩))(ht:E.ty t=some r)(W9:r.agg=true)(hg:P.eqGuardType P.depth t=false)
  (bS:dp<=10000) (hf:flat E dp t l) (dM:flat E dp t l') (hb:b=true<->l=l'):oA P n H₀ R L o (.bool b):=
 (fun H tmps _ hr=> by
  unfold execOp;rw[iA];simp only[hr.ev hx,hr.ev hy];show yA P (((eqGuard .eql t x y _ _).bind fun _=> binOp .eql t _ _).bind _) H _;refine aA _ _ (aA _ _ ?_);show yA P (if(!P.eqGuardType P.depth t)=true then _ else _) H _;rw[hg];show yA P ((Op.equalIn 10000 t (.agg ⟨l⟩) (.agg ⟨l'⟩)).bind fun c=> Sem.pure (Value.bool c)) H _;refine aA _ _ ?_;have h1:=VE (H:=H) (Q:=fun c H'=> yA P (Sem.pure (Value.bool c)) H' fun a H'=> yA P (Sem.pure (Next.value a)) H' fun nx H'=> nx=.value (.bool b)/\H'=H) dp 10000 bS ht hf dM fun c hc=> ?_
  ·rw[W9] at h1;exact h1
  ·have:c=b:=by
    cases c <;> cases b <;> simp_all
   subst this;exact⟨rfl,rfl⟩)
theorem oA.neA(b:Bool)(dp:Nat){t u:TypeId}{x y:Operand}{r:wA}{l l':List Value}(iA:o.op=.binOp .neq t x y u)(hx:GA R x=some (.agg ⟨l⟩))(hy:GA R y=some (.agg ⟨l'⟩))(ht:E.ty t=some r)(W9:r.agg=true)(hg:P.eqGuardType P.depth t=false)
  (bS:dp<=10000) (hf:flat E dp t l) (dM:flat E dp t l') (hb:b=true<->l=l'):oA P n H₀ R L o (.bool (!b)):=
 (fun H tmps _ hr=> by
  unfold execOp;rw[iA];simp only[hr.ev hx,hr.ev hy];show yA P (((eqGuard .neq t x y _ _).bind fun _=> binOp .neq t _ _).bind _) H _;refine aA _ _ (aA _ _ ?_);show yA P (if(!P.eqGuardType P.depth t)=true then _ else _) H _;rw[hg];show yA P ((Op.equalIn 10000 t (.agg ⟨l⟩) (.agg ⟨l'⟩)).bind fun c=> Sem.pure (Value.bool (!c))) H _;refine aA _ _ ?_;have h1:=VE (H:=H) (Q:=fun c H'=> yA P (Sem.pure (Value.bool (!c))) H' fun a H'=> yA P (Sem.pure (Next.value a)) H' fun nx H'=> nx=.value (.bool (!b))/\H'=H) dp 10000 bS ht hf dM fun c hc=> ?_
  ·rw[W9] at h1;exact h1
  ·have:c=b:=by
    cases c <;> cases b <;> simp_all
   subst this;exact⟨rfl,rfl⟩)
theorem oA.eqB {t u:TypeId}{x y:Operand}{r:wA}{p q:Bool}(iA:o.op=.binOp .eql t x y u)(hx:GA R x=some (.bool p))(hy:GA R y=some (.bool q))(ht:E.ty t=some r)(LB:r.ds=.bool):oA P n H₀ R L o (.bool (p==q)):=
 (fun H tmps _ hr=> by
  unfold execOp;rw[iA];simp only[hr.ev hx,hr.ev hy];show yA P (((Op.equalIn 10000 t (.bool p) (.bool q)).bind fun c=> Sem.pure (Value.bool c)).bind _) H _;refine aA _ _ (aA _ _ ?_);exact aA (underlying t) _ (dA (YL ((E.ok _ _ ht).ds.trans LB)) ⟨rfl,rfl⟩))
theorem oA.neB {t u:TypeId}{x y:Operand}{r:wA}{p q:Bool}(iA:o.op=.binOp .neq t x y u)(hx:GA R x=some (.bool p))(hy:GA R y=some (.bool q))(ht:E.ty t=some r)(LB:r.ds=.bool):oA P n H₀ R L o (.bool (!(p==q))):=
 (fun H tmps _ hr=> by
  unfold execOp;rw[iA];simp only[hr.ev hx,hr.ev hy];show yA P (((Op.equalIn 10000 t (.bool p) (.bool q)).bind fun c=> Sem.pure (Value.bool (!c))).bind _) H _;refine aA _ _ (aA _ _ ?_);exact aA (underlying t) _ (dA (YL ((E.ok _ _ ht).ds.trans LB)) ⟨rfl,rfl⟩))
theorem oA.w8 {t u e:TypeId}{x y:Operand}{r:wA}{a:Option Addr}{m c:Nat}(iA:o.op=.binOp .eql t x y u)(hx:GA R x=some (.slice a m c))(hy:GA R y=some (.slice none 0 0))(ht:E.ty t=some r)(LB:r.ds=.slice e):oA P n H₀ R L o (.bool a.isNone):=
 (fun H tmps _ hr=> by
  unfold execOp;rw[iA];simp only[hr.ev hx,hr.ev hy];show yA P (((Op.equalIn 10000 t (.slice a m c) (.slice none 0 0)).bind fun c=> Sem.pure (Value.bool c)).bind _) H _;refine aA _ _ (aA _ _ ?_);refine aA (underlying t) _ (dA (uC ((E.ok _ _ ht).ds.trans LB)) ?_);cases a <;> exact⟨rfl,rfl⟩)
def uE(E:Env P)(dp:Nat)(t:TypeId)(k:Value):Prop:=∃r l,E.ty t=some r/\k=PG r.agg l/\flat E dp t l
theorem aY {dp:Nat}{t:TypeId}{r:wA}{l l':List Value}(ht:E.ty t=some r)(h:flat E dp t l)(h':flat E dp t l'):PG r.agg l=PG r.agg l'<->l=l':=by
 refine⟨fun e=> ?_,fun e=> by rw[e]⟩;cases hg:r.agg with
 | true=>
  rw[hg] at e;simpa [PG] using e
 | false=>
  rw[hg] at e;have h1:=BG h ht hg;have h2:=BG h' ht hg
  match l,l',h1,h2 with
  | [a],[b],_,_=> simpa [PG] using e
def fG(es:List MapEntry)(k:Value)(r:Option (Nat×Value)):Prop:=
 match r with
 | none=> ∀e∈es,e.key≠k
 | some (i,v)=> ∃e,es[i]? =some e/\e.key=k/\e.val=v
theorem zN {kd:TypeDesc}{a b:Value}{c:Bool}(h:Instr.sameNow kd a b=some c):c=true<->a=b:=by
 unfold Instr.sameNow at h;split at h
 ·split at h
  ·rename_i hk
   subst hk;cases h
   simp
  ·cases h
 ·cases h
  rw[dJ];simp
 ·cases h
  simp
 ·cases h
def xG(es:List MapEntry)(k:Value)(i:Nat)(r:Option (Nat×Value)):Prop:=
 match r with
 | none=> ∀e∈es,e.key≠k
 | some (j,v)=> i<=j/\∃e,es[j-i]? =some e/\e.key=k/\e.val=v
theorem xG.cons {e:MapEntry}{es:List MapEntry}{k:Value}{i:Nat}{r:Option (Nat×Value)}(h:xG es k (i+1) r)(gB:e.key≠k):xG (e::es) k i r:=by
 cases r with
 | none=>
  intro x hx;rcases List.mem_cons.1 hx with rfl|hx
  ·exact gB
  ·exact h x hx
 | some p=>
  obtain⟨j,v⟩:=p;obtain⟨h1,x,h2,h3,h4⟩:=h;refine⟨oM,x,?_,h3,h4⟩;rw[show j-i=(j-(i+1))+1 by omega];simpa using h2
theorem NM {kd:TypeDesc}{k:Value}:∀ {es:List MapEntry} {i:Nat} {r:Option (Nat×Value)},Instr.findNow kd k es i=some r->xG es k i r
 | [],i,r,h=> by
  simp only[Instr.findNow,Option.some.injEq] at h;subst h;intro e he;cases he
 | e ::es,i,r,h=> by
  unfold Instr.findNow at h;split at h
  ·rename_i hs
   cases h
   exact⟨Nat.le_refl _,e,by simp,((zN hs).1 rfl).symm,rfl⟩
  ·rename_i hs
   refine(NM h).cons fun he=> ?_;have:=(zN hs).2 he.symm;cases this
  ·cases h
theorem sI {dp:Nat}(bS:dp<=10000){t:TypeId}{k:Value}{H:View}{Q:Option (Nat×Value)->View->Prop}(hk:uE E dp t k):∀ {es:List MapEntry} {i:Nat},(∀e∈es,uE E dp t e.key)->(∀r,xG es k i r->Q r H)->yA P (Instr.findAsking t k es i) H Q
 | [],i,_,h=> h none (fun e he=> by cases he)
 | e ::es,i,CH,h=> by
  unfold Instr.findAsking;obtain⟨r,l,ht,rfl,hf⟩:=hk;obtain⟨r',l',T2,he,dM⟩:=CH e (by simp);rw[ht] at T2;cases T2
  rw[he];refine aA (Op.equal t _ _) _ (VE dp 10000 bS ht hf dM fun b hb=> ?_);cases b with
  | true=>
   refine h _ ⟨Nat.le_refl _,e,by simp,?_,rfl⟩;rw[he,hb.1 rfl]
  | false=>
   refine sI bS ⟨r,l,ht,rfl,hf⟩ (fun x hx=> CH x (by simp[hx])) fun r' vE=> h r' (vE.cons ?_);rw[he];intro e;have:=hb.2 ((aY ht hf dM).1 e.symm);cases this
theorem tI {dp:Nat}(bS:dp<=10000){t:TypeId}{dd:TypeDesc}{k:Value}{es:List MapEntry}{H:View}{Q:Option (Nat×Value)->View->Prop}(hk:uE E dp t k)(hd:P.underlying t=some dd)(CH:∀e∈es,uE E dp t e.key)(h:∀r,fG es k r->Q r H):yA P (Instr.findKey t k es) H Q:=by
 refine aA (underlying t) _ (dA hd ?_);have fin:∀r,xG es k 0 r->Q r H:=fun r hr=> h r (by
  cases r with
  | none=> exact hr
  | some p=> exact⟨hr.2.choose,by simpa using hr.2.choose_spec⟩)
 split
 ·rename_i r hr
  exact fin r (NM hr)
 ·exact sI bS hk CH fin
theorem uI {α:Type}{f:α->Unit->Sem (ForInStep Unit)}{H:View}{Q:Unit->View->Prop}:∀ {xs:List α},(∀x∈xs,∀Q':ForInStep Unit->View->Prop,Q' (.yield ()) H->yA P (f x ()) H Q')->Q () H->yA P (forIn xs () f) H Q
 | [],_,hq=> hq
 | x::xs,hf,hq=> by
  rw[List.forIn_cons];exact aA (f x ()) _ (hf x (by simp) _ (uI (fun y hy=> hf y (by simp[hy])) hq))
theorem YE {dp:Nat}{t:TypeId}{l:List Value}(h:flat E dp t l):∃r dd,E.ty t=some r/\P.underlying t=some dd:=by
 cases dp with
 | zero=> exact h.elim
 | succ dp=>
  unfold flat at h;split at h
  ·exact h.elim
  ·rename_i r ht
   have W9:=(E.ok _ _ ht).agg;unfold wH at W9;cases hu:P.underlying t with
   | none=> rw[hu] at W9;cases W9
   | some dd=> exact⟨r,dd,ht,rfl⟩
theorem nE {e:Bool}{H:View}:∀(d D:Nat),d<=D->∀ {t:TypeId} {r:wA} {l:List Value} {Q:Unit->View->Prop},E.ty t=some r->flat E d t l->Q () H->yA P (Instr.checkKey e D t (PG r.agg l)) H Q
 | 0,_,_,_,_,_,_,_,hf,_=> hf.elim
 | d+1,0,h,_,_,_,_,_,_,_=> by omega
 | d + 1,D+1,hd,t,r,l,Q,ht,hf,hq=> by
  have ha:∀b,CV r.ds=some b->r.agg=b:=fun b hb=> ZT (E.ok _ _ ht).ds (E.ok _ _ ht).agg hb;unfold flat at hf;rw[ht] at hf;simp only at hf;cases LB:r.ds with
  | int k=>
   rw[LB] at hf ha;obtain⟨i,rfl⟩:=hf;rw[ha _ rfl];exact aA (underlying t) _ (dA (LK ((E.ok _ _ ht).ds.trans LB)) hq)
  | bool=>
   rw[LB] at hf ha;obtain⟨i,rfl⟩:=hf;rw[ha _ rfl];exact aA (underlying t) _ (dA (YL ((E.ok _ _ ht).ds.trans LB)) hq)
  | str=>
   rw[LB] at hf ha;obtain⟨i,rfl⟩:=hf;rw[ha _ rfl];exact aA (underlying t) _ (dA (ZG ((E.ok _ _ ht).ds.trans LB)) hq)
  | struct fs=>
   rw[LB] at hf ha;rw[ha _ rfl];obtain⟨hc,zA⟩:=hf;obtain⟨a,hu,hn,_,M5⟩:=DI ((E.ok _ _ ht).ds.trans LB);refine aA (underlying t) _ (dA hu ?_);show yA P ((forIn a () fun(f:Field) (_:Unit)=> (if f.name≠ "_" then(part f.type ⟨l⟩ f.offset).bind fun x=> (Instr.checkKey e D f.type x).bind fun _=> Sem.pure (ForInStep.yield ()) else Sem.pure (ForInStep.yield ()):Sem (ForInStep Unit))).bind fun _=> Sem.pure ()) H Q;refine aA _ _ ?_;rw[<-Array.forIn_toList];refine uI (fun f hf Q' E8=> ?_) hq;rw[if_pos (hn f hf).1];have QC:(f.type,f.offset,((P.info? f.type).map (·.size)).getD 0)∈fs:=by rw[M5];exact List.mem_map.2 ⟨f,hf,rfl⟩
   obtain⟨g1,rf,g2,g3,g4⟩:=zA _ QC;simp only at g1 g2 g3 g4;rw[<-g3] at g1 g4;refine aA _ _ (WC g2 g4 (fun hg=> ?_) ?_)
   ·have:=BG g1 g2 hg;simp only[chunk,List.length_take,List.length_drop] at this;omega
   exact aA _ _ (nE d D oM g2 g1 E8)
  | arr m et=>
   rw[LB] at hf ha;rw[ha _ rfl];obtain⟨re,ZC,hlen,zA⟩:=hf;refine aA (underlying t) _ (dA (VP ((E.ok _ _ ht).ds.trans LB)) ?_);show yA P ((forIn [:m] () fun(i:Nat) (_:Unit)=> ((sizeOf et).bind fun s=> (part et ⟨l⟩ (i*s)).bind fun x=> (Instr.checkKey e D et x).bind fun _=> Sem.pure (ForInStep.yield ()):Sem (ForInStep Unit))).bind fun _=> Sem.pure ()) H Q;refine aA _ _ ?_;rw[Std.Legacy.Range.forIn_eq_forIn_range'];refine uI (fun i hi Q' E8=> ?_) hq;have P5:i<m:=by
    simp only[Std.Legacy.Range.size,List.mem_range'_1] at hi;omega
   have hle:i*re.size+re.size<=l.length:=by
    rw[hlen,<-Nat.succ_mul];exact Nat.mul_le_mul_right _ P5
   refine aA _ _ (IA (E.ok _ _ ZC).size ?_);refine aA _ _ (WC ZC hle (fun hg=> ?_) ?_)
   ·have:=BG (zA i P5) ZC hg;simp only[chunk,List.length_take,List.length_drop] at this;omega
   exact aA _ _ (nE d D oM ZC (zA i P5) E8)
  | slice e=> rw[LB] at hf;exact hf.elim
  | map k e=> rw[LB] at hf;exact hf.elim
  | other=> rw[LB] at hf;exact hf.elim
theorem Or.makeMap {t:TypeId}(iA:o.op=.makeMap t none)(hd:o.dst=some d)(hn:d<n)(hk:∀blk,K ((d,.map (some blk))::R) ((blk,true,.map #[] 0)::L)):Or M n H₀ R L o K:=
 .newObj (val:=fun blk=> .map (some blk)) hd hn (fun H tmps _ hr Q hQ=> by
  unfold execOp;rw[iA];exact fun blk hb=> hQ blk hb) hk
def cU(z:Value)(r:Option (Nat×Value))(ok:Bool):Value:=
 match ok,r with
 | true,some (_,v)=> .tuple #[v,.bool true]
 | true,none=> .tuple #[z,.bool false]
 | false,some (_,v)=> v
 | false,none=> z
theorem Or.lookup(dp:Nat){t kt et:TypeId}{x y:Operand}{ok:Bool}{m:Nat}{k:Value}{es:Array MapEntry}{cl:Nat}{r re:wA}(iA:o.op=.lookup t x y ok)(hx:GA R x=some (.map (some m)))(hy:GA R y=some k)
  (hb:∀H,eA H₀ L H->∃f,H m=some (f,.map es cl)) (ht:E.ty t=some r) (LB:r.ds=.map kt et) (ZC:E.ty et=some re) (bS:dp<=10000) (hk:uE E dp kt k) (CH:∀e∈es.toList,uE E dp kt e.key) (hd:o.dst=some d) (hn:d<n)
  (hq:∀r,fG es.toList k r->K ((d,cU re.zero r ok)::R) L):Or M n H₀ R L o K:=
 .val hd hn fun H tmps hs hr=> by
  unfold execOp;rw[iA];simp only[hr.ev hx,hr.ev hy];obtain⟨f,aS⟩:=hb H hs;obtain⟨rk,l,pR,rfl,hf⟩:=hk;obtain⟨_,dd,_,QJ⟩:=YE hf;refine aA (Instr.lookup t _ _ ok) _ ?_;refine aA (underlying t) _ (dA (HM ((E.ok _ _ ht).ds.trans LB)) ?_);refine⟨f,.map es cl,aS,by simp,rfl,?_⟩;show yA P ((Instr.checkKey es.isEmpty 10000 kt (PG rk.agg l)).bind fun _=> _) H _;refine aA _ _ (nE dp 10000 bS pR hf ?_);refine aA (Instr.findKey kt _ es.toList) _ (tI bS ⟨rk,l,pR,rfl,hf⟩ QJ CH fun r vE=> ?_);have fin:=hq r vE;cases r with
  | none=>
   refine aA (zeroValue et) _ (AB (E.ok _ _ ZC).zero ?_);cases ok <;> exact⟨_,rfl,_,hs,fin⟩
  | some p=>
   obtain⟨i,v⟩:=p;cases ok <;> exact⟨_,rfl,_,hs,fin⟩
def QZ(es:Array MapEntry)(cl:Nat)(k v:Value)(r:Option (Nat×Value)):Obj:=
 match r with
 | some (i,_)=> .map (es.modify i fun e=> { e with key:=k,val:=v }) cl
 | none=> .map (es.push { key:=k,val:=v,born:=cl }) (cl+1)
theorem Or.mapUpdate(i dp:Nat){t kt et:TypeId}{x y z:Operand}{m:Nat}{k v:Value}{es:Array MapEntry}{cl:Nat}{r:wA}(iA:o.op=.mapUpdate t x y z)(hx:GA R x=some (.map (some m)))(hy:GA R y=some k)(hz:GA R z=some v)
  (hi:L[i]? =some (m,true,.map es cl)) (ht:E.ty t=some r) (LB:r.ds=.map kt et) (bS:dp<=10000) (hk:uE E dp kt k) (CH:∀e∈es.toList,uE E dp kt e.key) (hd:o.dst=none)
  (hq:∀r,fG es.toList k r->K R (L.set i (m,true,QZ es cl k v r))):Or M n H₀ R L o K:=
 .gP hd fun H tmps hs hr=> by
  unfold execOp;rw[iA];simp only[hr.ev hx,hr.ev hy,hr.ev hz];have aS:=hs.get hi;have hk':=hk;obtain⟨rk,l,pR,hkl,hf⟩:=hk;obtain⟨_,dd,_,QJ⟩:=YE hf;refine aA (Instr.mapUpdate t _ _ _) _ ?_;refine aA (underlying t) _ (dA (HM ((E.ok _ _ ht).ds.trans LB)) ?_);refine⟨true,.map es cl,aS,by simp,rfl,?_⟩;show yA P ((Instr.checkKey false 10000 kt k).bind fun _=> _) H _;rw[hkl];refine aA _ _ (nE dp 10000 bS pR hf ?_);rw[<-hkl];refine aA (Instr.findKey kt _ es.toList) _ (tI bS hk' QJ CH fun r vE=> ?_);have fin:=hq r vE;cases r with
  | none=> exact⟨⟨_,aS,by simp⟩,rfl,rfl,_,hs.set hi _,fin⟩
  | some p=>
   obtain⟨j,w⟩:=p;obtain⟨e,he,hek,_⟩:=vE;have nZ:((es[j]?).map (·.key)).getD k=k:=by
    have:es[j]? =some e:=by simpa using he
    rw[this];simp[hek]
   show yA P ((Instr.keyThatStays (((es[j]?).map (·.key)).getD k) k).bind fun _=> _) H _;rw[nZ];have aCI:∀Q:Value->View->Prop,Q k H->yA P (Instr.keyThatStays k k) H Q:=by
    intro Q hQ;unfold Instr.keyThatStays;split
    ·exact hQ
    ·refine aA (choose _) _ ?_;intro t';show Q (if _ then k else k) H;simpa using hQ
   refine aA _ _ (aCI _ ?_);exact⟨⟨_,aS,by simp⟩,rfl,rfl,_,hs.set hi _,fin⟩
theorem Or.range {t kt et:TypeId}{x:Operand}{m:Nat}{es:Array MapEntry}{cl:Nat}{r:wA}(iA:o.op=.range t x)(hx:GA R x=some (.map (some m)))(hb:∀H,eA H₀ L H->∃f,H m=some (f,.map es cl))(ht:E.ty t=some r)(LB:r.ds=.map kt et)
  (hd:o.dst=some d) (hn:d<n) (hk:∀blk,K ((d,.pointer (some ⟨blk,0,none⟩))::R) ((blk,true,.mapIter (some m) cl #[] cl)::L)):Or M n H₀ R L o K:=
 .newObj (val:=fun blk=> .pointer (some ⟨blk,0,none⟩)) hd hn (fun H tmps hs hr Q hQ=> by
  unfold execOp;rw[iA];simp only[hr.ev hx];obtain⟨f,aS⟩:=hb H hs;refine aA (Instr.range t _) _ ?_;refine aA (underlying t) _ (dA (HM ((E.ok _ _ ht).ds.trans LB)) ?_);exact⟨f,.map es cl,aS,by simp,rfl,fun blk hb=> hQ blk hb⟩) hk
theorem Or.next(i:Nat){x:Operand}{it m:Nat}{es:Array MapEntry}{cl:Nat}{seen:Array Nat}(iA:o.op=.next x false)(hx:GA R x=some (.pointer (some ⟨it,0,none⟩)))(hi:L[i]? =some (it,true,.mapIter (some m) cl seen cl))
  (hb:∀H,eA H₀ L H->∃f,H m=some (f,.map es cl)) (iZ:∀e∈es.toList,e.born<cl) (hd:o.dst=some d) (hn:d<n)
  (hq1:∀e∈es.toList,seen.contains e.born=false->K ((d,.tuple #[.bool true,e.key,e.val])::R) (L.set i (it,true,.mapIter (some m) cl (seen.push e.born) cl)))
  (hq2:(∀e∈es.toList,seen.contains e.born=true)->K ((d,.tuple #[.bool false])::R) L):Or M n H₀ R L o K:=
 .val hd hn fun H tmps hs hr=> by
  unfold execOp;rw[iA];simp only[hr.ev hx];have OL:=hs.get hi;obtain⟨f,aS⟩:=hb H hs;refine aA (Instr.next _ false _) _ ?_;refine⟨true,_,OL,by simp,rfl,?_⟩;refine⟨f,.map es cl,aS,by simp,rfl,?_⟩;show yA P (if(!seen.isEmpty && !es.isEmpty&&es.all fun x=> decide (x.born≥cl))=true then _ else _) H _;rw[if_neg (by
   simp only[Bool.and_eq_true,Bool.not_eq_true',Array.all_eq_true_iff_forall_mem,decide_eq_true_eq,not_and];rintro⟨_,gB⟩ zA;have wU:0<es.size:=by
    rcases Nat.eq_zero_or_pos es.size with h|h
    ·rw[Array.isEmpty_eq_false_iff] at gB;exact absurd (Array.eq_empty_of_size_eq_zero h) gB
    ·exact h
   have h1:=zA es[0] (Array.getElem_mem _);have h2:=iZ es[0] (by simp);omega)]
  generalize eS:(es.filter fun e=> !seen.contains e.born)=left;have hold:(left.filter fun e=> decide (e.born<cl))=left:=by
   rw[Array.filter_eq_self];intro e he;rw[<-eS] at he;simp only[Array.mem_filter] at he;exact decide_eq_true (iZ e (by simpa using he.1))
  have rU:(left.filter fun e=> decide (e.born≥cl))=#[]:=by
   rw[Array.filter_eq_empty_iff];intro e he;rw[<-eS] at he;simp only[Array.mem_filter] at he;have:=iZ e (by simpa using he.1);simp only[decide_eq_true_eq];omega
  simp only[hold,rU,Array.append_empty];refine aA (choose _) _ ?_;intro t;by_cases hem:left.isEmpty=true
  ·have he:left=#[]:=by simpa using hem
   subst he;have zA:∀e∈es.toList,seen.contains e.born=true:=by
    intro e he;rw[Array.filter_eq_empty_iff] at eS;have:=eS (a:=e) (by simpa using he);simpa using this
   have fin:=hq2 zA;have QD:((if(#[]:Array MapEntry).isEmpty=true then #[none] else #[])++Array.map some (#[]:Array MapEntry))=#[none]:=by simp
   rw[QD];have goal:∃v,Next.value (.tuple #[.bool false])=Next.value v/\∃L',eA H₀ L' H/\K ((d,v)::R) L':=⟨_,rfl,_,hs,fin⟩
   exact goal
  ·have QD:0<left.size:=by
    rcases Nat.eq_zero_or_pos left.size with h|h
    ·exact absurd (by rw[Array.eq_empty_of_size_eq_zero h];rfl) hem
    ·exact h
   simp only[hem,Bool.false_eq_true,if_false,Array.empty_append,Array.size_map];have mB:(if(Question.mapNext left.size).forced=true then 0 else(Question.mapNext left.size).cut t)<left.size:=by
    split
    ·exact QD
    ·exact Nat.mod_lt _ QD
   generalize hj:(if(Question.mapNext left.size).forced=true then 0 else(Question.mapNext left.size).cut t)=j at mB ⊢;have aEb:(left.map some)[j]? =some (some left[j]):=by simp[mB]
   show yA P (match (left.map some)[j]? with
    | some (some e)=> _
    | some none=> _
    | none=> _) H _
   rw[aEb];have QC:left[j]∈es.filter fun e=> !seen.contains e.born:=by
    have:left[j]∈left:=Array.getElem_mem _;generalize left[j]=z at this ⊢;rw[eS];exact this
   simp only[Array.mem_filter] at QC;refine⟨⟨_,OL,by simp⟩,rfl,_,rfl,_,hs.set hi _,?_⟩;refine hq1 _ ?_ ?_
   ·simpa using QC.1
   ·simpa using QC.2
theorem Or.entry {x:Operand}{it m st:Nat}{es:Array MapEntry}{cl s:Nat}{seen:Array Nat}{e:MapEntry}(iA:o.op=.entry x)(hx:GA R x=some (.pointer (some ⟨it,0,none⟩)))(hi:∀H,eA H₀ L H->∃f,H it=some (f,.mapIter (some m) s seen cl))
  (hb:∀H,eA H₀ L H->∃f,H m=some (f,.map es cl)) (sH:seen.back? =some st) (rH:es.find? (fun e=> e.born==st)=some e) (hd:o.dst=some d) (hn:d<n) (hk:K ((d,.tuple #[e.key,e.val])::R) L):Or M n H₀ R L o K:=
 .val hd hn fun H tmps hs hr=> by
  unfold execOp;rw[iA];simp only[hr.ev hx];obtain⟨f,OL⟩:=hi H hs;obtain⟨f',aS⟩:=hb H hs;refine aA (Instr.entry _) _ ?_;refine⟨f,_,OL,by simp,rfl,?_⟩;simp only[Sem.bind,sH];refine⟨f',.map es cl,aS,by simp,rfl,?_⟩;have PB:(cl !=cl)=false:=by simp
  simp only[Sem.bind,PB,rH,Bool.false_eq_true,if_false];exact⟨_,rfl,_,hs,hk⟩
end
section
variable {P:Program}{E:Env P}{M:Md P}{St:View->Goroutine->Prop}{n:Nat}{b:FB}{H₀:View}{cs:List Frame}{R R':Rg}{L L':Bl}{ds:List Deferred}{k:List Item}
def WB:Rg->Rg->Prop
 | [],_=> True
 | (d,v)::R',R=> lk R d=some v/\WB R' R
theorem WB.sub:∀ {R' R:Rg},WB R' R->∀d v,lk R' d=some v->lk R d=some v
 | [],_,_,_,_,h=> by simp[lk] at h
 | (e,u)::R',R,⟨h1,h2⟩,d,v,h=> by
  rw[zQ] at h;split at h
  ·rename_i he
   subst he;cases h
   exact h1
  ·exact h2.sub d v h
theorem Tc.vA {σ:Type}(I:σ->Rg×Bl)(μ:σ->Nat){body:Code}
  (step:∀s,(∀s',μ s'<μ s->Tc M St n b H₀ cs (I s').1 (I s').2 ds (.inLoop body::k))->Tc M St n b H₀ cs (I s).1 (I s).2 ds (.code body:: .inLoop body::k)) (s₀:σ):
  Tc M St n b H₀ cs (I s₀).1 (I s₀).2 ds (.code (.loop body)::k):=by
 have key:∀(m:Nat) (s:σ),μ s<=m->Tc M St n b H₀ cs (I s).1 (I s).2 ds (.code body:: .inLoop body::k):=by
  intro m;induction m with
  | zero=> exact fun s hs=> step s fun s' mB=> by omega
  | succ m ih=> exact fun s hs=> step s fun s' mB=> .inLoop (ih s' oM)
 exact .loop (key _ s₀ (Nat.le_refl _))
def TC:List Value->Value
 | [v]=> v
 | vs=> .tuple ⟨vs⟩
def OH(E:Env P)(R:Rg)(L:Bl):List ResultVar->List Value->Prop
 | [],[]=> True
 | .tmp t::rs,v::vs=> lk R t=some v/\OH E R L rs vs
 | .cell a t::rs,v::vs=> (∃(i blk off:Nat) (f:Bool) (c:List Value) (e:TypeId) (fz:Nat×Nat) (r:wA),lk R a=some (.pointer (some ⟨blk,off,none⟩))/\L[i]? =some (blk,f,Obj.cells ⟨c⟩ e fz)/\E.ty t=some r/\SB r.agg r.size c off=some v)/\OH E R L rs vs
 | _,_=> False
def jH(tmps:Array Value):ResultVar->Sem Value
 | .tmp t=> .pure (tmps.getD t undef)
 | .cell a t=> (asAddr (tmps.getD a undef)).bind fun x=> loadVar t x
theorem wI {H:View}{tmps:Array Value}(hs:eA H₀ L H)(hr:PA n R tmps):∀ {rs:List ResultVar} {vs:List Value} {Q:List Value->View->Prop},OH E R L rs vs->Q vs H->yA P (rs.mapM (jH tmps)) H Q
 | [],[],Q,_,h=> h
 | .tmp t::rs,v::vs,Q,⟨h1,h2⟩,h=> by
  rw[List.mapM_cons];refine aA (jH tmps (.tmp t)) _ ?_;show yA P ((rs.mapM (jH tmps)).bind fun us=> .pure (tmps.getD t undef::us)) H Q;refine aA _ _ (wI hs hr h2 ?_);have:tmps.getD t undef=v:=by simp[hr.2 _ _ h1]
  rw[this];exact h
 | .cell a t::rs,v::vs,Q,⟨⟨i,blk,off,f,c,e,fz,r,g1,g2,g3,g4⟩,h2⟩,h=> by
  rw[List.mapM_cons];have:tmps.getD a undef=.pointer (some ⟨blk,off,none⟩):=by simp[hr.2 _ _ g1]
  refine aA (jH tmps (.cell a t)) _ ?_;show yA P ((asAddr (tmps.getD a undef)).bind fun x=> loadVar t x) H _;rw[this];show yA P (loadVar t ⟨blk,off,none⟩) H _;refine vI (E.ok _ _ g3).agg (E.ok _ _ g3).size (hs.get g2) g4 ?_;show yA P ((rs.mapM (jH tmps)).bind fun us=> .pure (v::us)) H Q;exact aA _ _ (wI hs hr h2 h)
 | [],_::_,_,h,_=> by cases h
 | .tmp _::_,[],_,h,_=> by cases h
 | .cell _ _::_,[],_,h,_=> by cases h
theorem nD {fn:Func}{H:View}{tmps:Array Value}{rs:List ResultVar}{vs:List Value}{Q:Value->View->Prop}(hs:eA H₀ L H)(hr:PA n R tmps)(TN:fn.results=rs.toArray)(ho:OH E R L rs vs)(h:Q (TC vs) H):
  yA P (results fn tmps) H Q:=by
 have e1:results fn tmps=(rs.mapM (jH tmps)).bind fun us=> .pure (if h:us.toArray.size=1 then us.toArray[0] else .tuple us.toArray):=by
  have gen:∀F:ResultVar->Sem Value,F=jH tmps->∀K:Array Value->Sem Value,(rs.toArray.mapM F).bind K=(rs.mapM (jH tmps)).bind fun us=> K us.toArray:=by
   intro F hF K;rw[List.mapM_toArray,hF];show((rs.mapM (jH tmps)) >>=fun us=> (Pure.pure us.toArray:Sem (Array Value))) >>=K=_;rw[bind_assoc];rfl
  unfold results;rw[TN];exact gen _ (funext fun r=> by cases r <;> rfl) _
 rw[e1];refine aA _ _ (wI hs hr ho ?_);show Q _ H
 match vs,h with
 | [],h=> exact h
 | [v],h=> exact h
 | v::u::w,h=> exact h
theorem Tc.aAG {fn:Func}{c:Frame}{Q:Value->View->Prop}{f:FuncId}{rs:List ResultVar}{vs:List Value}(hK:∀v H',Q v H'->T M St H' (G (c.finish v) cs))(hf:P.funcs[f]? =some fn)(TN:fn.results=rs.toArray)
  (ho:OH E R L rs vs) (h:∀H',eA H₀ L H'->Q (TC vs) H'):Tc M St n ⟨f,.normal,none⟩ H₀ (c::cs) R L [] (.code .ret::k):=
 .ret hK hf fun H _ hs hr=> nD hs hr TN ho (h H hs)
theorem Tc.aCW {fn:Func}{c:Frame}{Q:Value->View->Prop}{f:FuncId}{rs:List ResultVar}{vs:List Value}(hK:∀v H',Q v H'->T M St H' (G (c.finish v) cs))(hf:P.funcs[f]? =some fn)(TN:fn.results=rs.toArray)
  (ho:OH E R L rs vs) (h:∀H',eA H₀ L H'->Q (TC vs) H'):Tc M St n ⟨f,.normal,none⟩ H₀ (c::cs) R L [] []:=
 .over hK hf fun H _ hs hr=> nD hs hr TN ho (h H hs)
end
end Go.RL
