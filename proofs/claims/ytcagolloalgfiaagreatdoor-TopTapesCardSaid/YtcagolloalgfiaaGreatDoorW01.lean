/-
 Texts of the proofs over baudot/dial.
-/
import Derived.Conc.Listed
import Derived.IntWalk
import Derived.Laws.Sem
namespace Go.RL
theorem oM {p:Prop}(h:p:=by omega):p:=h
theorem kR {p:Prop}(h:p:=by kernel_rfl):p:=h
theorem dE {p:Prop}(h:p:=by decide):p:=h
theorem sL {α:Type}{L' L:List α}(h:L'.Sublist L:=by repeat (first|exact List.Sublist.refl _|exact List.nil_sublist _|exact List.sublist_append_left _ _|apply List.Sublist.cons_cons|apply List.Sublist.cons)):L'.Sublist L:=h
end Go.RL
namespace Go.RL
open Go.Conc
abbrev View:=Nat->Option (Bool×Obj)
def Sat(H:View)(w:World):Prop:=∀b f o,H b=some (f,o)->w.heap[b]? =some o
def View.put(H:View)(b:Nat)(x:Bool×Obj):View:=fun c=> if c=b then some x else H c
theorem View.put_same(H:View)(b:Nat)(x:Bool×Obj):H.put b x b=some x:=by simp[View.put]
theorem View.put_other(H:View){b c:Nat}(x:Bool×Obj)(h:c≠b):H.put b x c=H c:=by simp[View.put,h]
def okMark:Mark->Bool
 | .noRoom | .extern _=> true
 | _=> false
def EvOk(H:View)(e:Event):Prop:=
 match e.loc with
 | .cell a=> e.sync=false/\∃f o,H a.block=some (f,o)/\(e.write=true->f=true)
 | .obj r=> e.sync=false/\∃f o,H r=some (f,o)/\(e.write=true->f=true)
 | .mark m=> okMark m=true/\e.write=false/\e.sync=true
 | _=> False
structure Trans(H:View)(w:World)(H':View)(w':World)(es:Array Event):Prop where
 tape:w'.tape=w.tape
 os:w'.os=w.os
 out:w'.output=w.output
 size:w.heap.size<=w'.heap.size
 foreign:∀b,b<w.heap.size->(∀o,H b≠some (true,o))->w'.heap[b]? =w.heap[b]?
 sat:Sat H' w'
 ext:∀b f o',H' b=some (f,o')->(∃o,H b=some (f,o))\/(f=true/\w.heap.size<=b)
 keep:∀b f o,H b=some (f,o)->∃o',H' b=some (f,o')/\(f=false->o'=o)
 ev:∀e∈es,EvOk H' e
theorem EvOk.keep {H H':View}{e:Event}(h:EvOk H e)(k:∀b f o,H b=some (f,o)->∃o',H' b=some (f,o')/\(f=false->o'=o)):EvOk H' e:=by
 unfold EvOk at *;split
 ·rename_i a heq
  rw[heq] at h;obtain⟨h1,f,o,h2,h3⟩:=h;obtain⟨o',h4,_⟩:=k _ _ _ h2;exact⟨h1,f,o',h4,h3⟩
 ·rename_i r heq
  rw[heq] at h;obtain⟨h1,f,o,h2,h3⟩:=h;obtain⟨o',h4,_⟩:=k _ _ _ h2;exact⟨h1,f,o',h4,h3⟩
 ·rename_i heq
  rw[heq] at h;exact h
 ·rename_i h1 h2 h3
  split at h
  ·rename_i heq;exact(h1 _ heq).elim
  ·rename_i heq;exact(h2 _ heq).elim
  ·rename_i heq;exact(h3 _ heq).elim
  ·exact h
theorem Trans.refl {H:View}{w:World}(h:Sat H w):Trans H w H w #[]:=
 ⟨rfl,rfl,rfl,Nat.le_refl _,fun _ _ _=> rfl,h,fun _ _ o h=> .inl ⟨o,h⟩,fun _ _ o h=> ⟨o,h,fun _=> rfl⟩,by simp⟩
theorem Trans.trans {H H' H'':View}{w w' w'':World}{es es':Array Event}(h:Trans H w H' w' es)(k:Trans H' w' H'' w'' es'):Trans H w H'' w'' (es++es') where
 tape:=k.tape.trans h.tape
 os:=k.os.trans h.os
 out:=k.out.trans h.out
 size:=Nat.le_trans h.size k.size
 foreign:=fun b hb ho=> by
  rw[k.foreign b (Nat.lt_of_lt_of_le hb h.size) ?_,h.foreign b hb ho];intro o hH';rcases h.ext _ _ _ hH' with ⟨o,h1⟩|⟨_,h2⟩
  ·exact ho o h1
  ·omega
 sat:=k.sat
 ext:=fun b f o' hb=> by
  rcases k.ext b f o' hb with ⟨o,h1⟩|⟨h1,h2⟩
  ·exact h.ext b f o h1
  ·exact .inr ⟨h1,Nat.le_trans h.size h2⟩
 keep:=fun b f o hb=> by
  obtain⟨o1,h1,h2⟩:=h.keep b f o hb;obtain⟨o2,h3,h4⟩:=k.keep b f o1 h1;exact⟨o2,h3,fun hf=> (h4 hf).trans (h2 hf)⟩
 ev:=fun e he=> by
  rcases Array.mem_append.1 he with he|he
  ·exact(h.ev e he).keep k.keep
  ·exact k.ev e he
theorem Trans.sub {H H':View}{w w':World}{es es':Array Event}(h:Trans H w H' w' es)(k:∀e∈es',e∈es):Trans H w H' w' es':=
 { h with ev:=fun e he=> h.ev e (k e he) }
def vwp {α:Type}(P:Program):Sem α->View->(α->View->Prop)->Prop
 | .pure a,H,Q=> Q a H
 | .load m a k,H,Q=> m=.plain/\a.spot=none/\∃f c e fz v,H a.block=some (f,.cells c e fz)/\c[a.off]? =some v/\vwp P (k v) H Q
 | .store m a v k,H,Q=> m=.plain/\a.spot=none/\(∀cs,v≠ .agg cs)/\(∀cs,v≠ .tuple cs)/\
  ∃ c e fz,H a.block=some (true,.cells c e fz)/\a.off<c.size/\(fz.1<=a.off&&a.off<fz.2)=false/\
   vwp P k (H.put a.block (true,.cells (c.setIfInBounds a.off v) e fz)) Q
 | .new o k,H,Q=> ∀b,H b=none->vwp P (k b) (H.put b (true,o)) Q
 | .shape r k,H,Q=> (∃f c e fz,H r=some (f,.cells c e fz)/\vwp P (k (some (e,c.size))) H Q)
 | .getObj r k,H,Q=> ∃f o,H r=some (f,o)/\(∀c e fz,o≠ .cells c e fz)/\o.isChan=false/\vwp P (k o) H Q
 | .setObj r o k,H,Q=> (∃o₀,H r=some (true,o₀)/\(∀c e fz,o₀≠ .cells c e fz))/\o.isChan=false/\vwp P k (H.put r (true,o)) Q
 | .choose q k,H,Q=> ∀t,vwp P (k (if q.forced then 0 else q.cut t)) H Q
 | .program k,H,Q=> vwp P (k P) H Q
 | .mark m k,H,Q=> okMark m=true/\vwp P k H Q
 | .frozen a k,H,Q=> ∃f c e fz,H a.block=some (f,.cells c e fz)/\vwp P (k (fz.1<=a.off&&a.off<fz.2)) H Q
 | .freeze a n k,H,Q=> n≠0/\∃c e fz,H a.block=some (true,.cells c e fz)/\vwp P k (H.put a.block (true,.cells c e (if fz.1==fz.2 then(a.off,a.off+n) else(min fz.1 a.off,max fz.2 (a.off+n))))) Q
 | .sys _ _,_,_=> False
 | .halt _,_,_=> False
theorem Sat.lt {H:View}{w:World}(h:Sat H w){b:Nat}{x:Bool×Obj}(hb:H b=some x):b<w.heap.size:=
 (Array.getElem?_eq_some_iff.1 (h b x.1 x.2 (by rw[hb]))).1
theorem Sat.cell {H:View}{w:World}(h:Sat H w){a:Addr}{f:Bool}{c:Array Value}{e:TypeId}{fz:Nat×Nat}(hb:H a.block=some (f,.cells c e fz))(hs:a.spot=none):
 w.cell? a=c[a.off]? :=by simp[World.cell?,h _ _ _ hb,hs]
theorem Sat.frozen {H:View}{w:World}(h:Sat H w){a:Addr}{f:Bool}{c:Array Value}{e:TypeId}{fz:Nat×Nat}(hb:H a.block=some (f,.cells c e fz)):
 w.frozen? a=(fz.1<=a.off&&a.off<fz.2):=by simp[World.frozen?,h _ _ _ hb]
theorem Sat.put {H:View}{w w':World}{b:Nat}{x:Bool×Obj}(h:Sat H w)(hb:w'.heap[b]? =some x.2)(ho:∀c,c≠b->c<w.heap.size->w'.heap[c]? =w.heap[c]?):Sat (H.put b x) w':=by
 intro c f o hc;by_cases e:c=b
 ·subst e;rw[View.put_same] at hc;cases hc
  exact hb
 ·rw[View.put_other _ _ e] at hc;rw[ho c e (h.lt hc)];exact h c f o hc
theorem Trans.new {H:View}{w:World}(h:Sat H w)(o:Obj):H w.heap.size=none/\Trans H w (H.put w.heap.size (true,o)) { w with heap:=w.heap.push o } #[]:=by
 have hn:H w.heap.size=none:=by
  cases hx:H w.heap.size with
  | none=> rfl
  | some x=> have:=h.lt hx;omega
 refine⟨hn,rfl,rfl,rfl,by simp,fun b hb _=> by simp[Array.getElem?_push,Nat.ne_of_lt hb],h.put (by simp) fun c _ hc=> by simp[Array.getElem?_push,Nat.ne_of_lt hc],fun b f o' hb=> ?_,fun b f o₀ hb=> ?_,by simp⟩
 ·by_cases e:b=w.heap.size
  ·subst e;rw[View.put_same] at hb;cases hb
   exact .inr ⟨rfl,Nat.le_refl _⟩
  ·rw[View.put_other _ _ e] at hb;exact .inl ⟨o',hb⟩
 ·have e:b≠w.heap.size:=by intro e;rw[e,hn] at hb;cases hb
  exact⟨o₀,by rw[View.put_other _ _ e];exact hb,fun _=> rfl⟩
theorem Trans.turn {H:View}{w w':World}{b:Nat}{o o':Obj}(h:Sat H w)(hb:H b=some (true,o))(h1:w'.tape=w.tape)(h2:w'.os=w.os)(h3:w'.output=w.output)(h4:w'.heap.size=w.heap.size)
  (h5:w'.heap[b]? =some o') (h6:∀c,c≠b->w'.heap[c]? =w.heap[c]?):Trans H w (H.put b (true,o')) w' #[]:=by
 refine⟨h1,h2,h3,oM,fun c _ hc=> h6 c ?_,h.put h5 fun c hc _=> h6 c hc,fun c f o₁ hc=> ?_,fun c f o₁ hc=> ?_,by simp⟩
 ·intro e;subst e;exact hc o hb
 ·by_cases e:c=b
  ·subst e;rw[View.put_same] at hc;cases hc
   exact .inl ⟨o,hb⟩
  ·rw[View.put_other _ _ e] at hc;exact .inl ⟨o₁,hc⟩
 ·by_cases e:c=b
  ·subst e;rw[hb] at hc;cases hc
   exact⟨o',View.put_same ..,by simp⟩
  ·exact⟨o₁,by rw[View.put_other _ _ e];exact hc,fun _=> rfl⟩
theorem Trans.list {H H':View}{w w':World}{es:Array Event}(h:Trans H w H' w' es)(e:Event)(he:EvOk H' e):Trans H w H' w' (#[e]++es):=
 have k:∀x∈#[e]++es,EvOk H' x:=fun x hx=> by
  rcases Array.mem_append.1 hx with hx|hx
  ·simp at hx;subst hx;exact he
  ·exact h.ev x hx
 { h with ev:=k }
theorem push_app(es₀ es:Array Event)(e:Event):es₀.push e++es=es₀++(#[e]++es):=by
 apply Array.ext'
 simp
theorem vwp_sound {α:Type}{P:Program}(s:Sem α):∀ {H:View} {w:World} {Q:α->View->Prop} (es₀:Array Event),Sat H w->vwp P s H Q-> 
   ∃a H' w' es,s.runT P w es₀=(.ok a w',es₀++es)/\Trans H w H' w' es/\Q a H':=by
 induction s with
 | pure a=> exact fun es₀ hs hq=> ⟨a,_,_,#[],by simp only[Sem.runT,Array.append_empty],.refl hs,hq⟩
 | load m a k ih=>
   intro H w Q es₀ hs ⟨hm,hsp,f,c,e,fz,v,hb,hv,hq⟩;subst hm;obtain⟨r,H',w',es,h1,h2,h3⟩:=ih v (es₀.push ⟨.cell a,false,false⟩) hs hq;refine⟨r,H',w',#[⟨.cell a,false,false⟩]++es,?_,h2.list _ ?_,h3⟩
   · have hc:w.cell? a=some v:=by rw[hs.cell hb hsp,hv]
     simp only[Sem.runT,hc];have:(Mode.plain==Mode.atomic)=false:=rfl;rw[this,h1,push_app]
   · obtain⟨o',h4,_⟩:=h2.keep _ _ _ hb;exact⟨rfl,f,o',h4,by simp⟩
 | store m a v k ih=>
   intro H w Q es₀ hs ⟨hm,hsp,hv1,hv2,c,e,fz,hb,ho,hf,hq⟩;subst hm;have hheap:=hs _ _ _ hb;have hlt:=hs.lt hb;have hsize:(w.setCell a v).heap.size=w.heap.size:=by simp[World.setCell]
   have hsame:(w.setCell a v).heap[a.block]? =some (.cells (c.setIfInBounds a.off v) e fz):=by
     simp[World.setCell,Array.getElem?_modify,hheap,hsp]
   have hother:∀d,d≠a.block->(w.setCell a v).heap[d]? =w.heap[d]? :=by
     intro d hd;simp only[World.setCell,Array.getElem?_modify];rw[if_neg (Ne.symm hd)]
   have ht:Trans H w (H.put a.block (true,.cells (c.setIfInBounds a.off v) e fz)) (w.setCell a v) #[]:=.turn hs hb rfl rfl rfl hsize hsame hother;obtain⟨r,H',w',es,h1,h2,h3⟩:=ih (es₀.push ⟨.cell a,true,false⟩) ht.sat hq;refine⟨r,H',w',#[⟨.cell a,true,false⟩]++es,?_,?_,h3⟩
   · have hc:w.cell? a=some (c[a.off]'ho):=by rw[hs.cell hb hsp];simp[ho]
     have hz:w.frozen? a=false:=by rw[hs.frozen hb];exact hf
     have:(Mode.plain==Mode.atomic)=false:=rfl;cases v <;> first
       | exact absurd rfl (hv1 _)
       | exact absurd rfl (hv2 _)
       | (simp only[Sem.runT,hc,hz,this]
          simp only[Bool.false_eq_true,if_false,h1,push_app])
   · have:=ht.trans h2;simp only[Array.empty_append] at this;refine this.list _ ⟨rfl,true,?_⟩;obtain⟨o',h4,_⟩:=this.keep _ _ _ hb;exact⟨o',h4,fun _=> rfl⟩
 | new o k ih=>
   intro H w Q es₀ hs hq;obtain⟨hn,ht⟩:=Trans.new hs o;obtain⟨r,H',w',es,h1,h2,h3⟩:=ih w.heap.size es₀ ht.sat (hq _ hn);exact⟨r,H',w',es,by simp only[Sem.runT];exact h1,by simpa using ht.trans h2,h3⟩
 | shape r k ih=>
   intro H w Q es₀ hs ⟨f,c,e,fz,hb,hq⟩;obtain⟨x,H',w',es,h1,h2,h3⟩:=ih _ es₀ hs hq;exact⟨x,H',w',es,by simp only[Sem.runT,World.shape?,hs _ _ _ hb];exact h1,h2,h3⟩
 | freeze a n k ih=>
   intro H w Q es₀ hs ⟨hn,c,e,fz,hb,hq⟩;have hheap:=hs _ _ _ hb;have hsize:(w.freeze a n).heap.size=w.heap.size:=by simp[World.freeze,hn]
   have hsame:(w.freeze a n).heap[a.block]? =some (.cells c e (if fz.1==fz.2 then(a.off,a.off+n) else(min fz.1 a.off,max fz.2 (a.off+n)))):=by
     simp[World.freeze,hn,Array.getElem?_modify,hheap]
   have hother:∀d,d≠a.block->(w.freeze a n).heap[d]? =w.heap[d]? :=by
     intro d hd;simp only[World.freeze,if_neg hn,Array.getElem?_modify];rw[if_neg (Ne.symm hd)]
   have ht:Trans H w (H.put a.block (true,.cells c e (if fz.1==fz.2 then(a.off,a.off+n) else(min fz.1 a.off,max fz.2 (a.off+n))))) (w.freeze a n) #[]:=.turn hs hb (by simp[World.freeze,hn]) (by simp[World.freeze,hn]) (by simp[World.freeze,hn]) hsize hsame hother;obtain⟨r,H',w',es,h1,h2,h3⟩:=ih es₀ ht.sat hq;exact⟨r,H',w',es,by simp only[Sem.runT];exact h1,by simpa using ht.trans h2,h3⟩
 | frozen a k ih=>
   intro H w Q es₀ hs ⟨f,c,e,fz,hb,hq⟩;obtain⟨x,H',w',es,h1,h2,h3⟩:=ih _ es₀ hs hq;exact⟨x,H',w',es,by simp only[Sem.runT];rw[hs.frozen hb];exact h1,h2,h3⟩
 | getObj r k ih=>
   intro H w Q es₀ hs ⟨f,o,hb,hc,hch,hq⟩;obtain⟨x,H',w',es,h1,h2,h3⟩:=ih o (es₀.push ⟨.obj r,false,o.isChan⟩) hs hq;refine⟨x,H',w',#[⟨.obj r,false,o.isChan⟩]++es,?_,h2.list _ ?_,h3⟩
   · simp only[Sem.runT,hs _ _ _ hb];cases o <;> first
       | exact absurd rfl (hc _ _ _)
       | rw[h1,push_app]
   · obtain⟨o',h4,_⟩:=h2.keep _ _ _ hb;exact⟨hch,f,o',h4,by simp⟩
 | setObj r o k ih=>
   intro H w Q es₀ hs ⟨⟨o₀,hb,hc⟩,hch,hq⟩;have ht:Trans H w (H.put r (true,o)) { w with heap:=w.heap.setIfInBounds r o } #[]:=
     .turn hs hb rfl rfl rfl (by simp) (by simp[hs.lt hb]) fun c hc=> by simp[Ne.symm hc]
   obtain⟨x,H',w',es,h1,h2,h3⟩:=ih (es₀.push ⟨.obj r,true,o.isChan⟩) ht.sat hq;refine⟨x,H',w',#[⟨.obj r,true,o.isChan⟩]++es,?_,?_,h3⟩
   · simp only[Sem.runT,hs _ _ _ hb];cases o₀ <;> first
       | exact absurd rfl (hc _ _ _)
       | rw[h1,push_app]
   · have:=ht.trans h2;simp only[Array.empty_append] at this;obtain⟨o',h4,_⟩:=this.keep _ _ _ hb;exact this.list _ ⟨hch,true,o',h4,fun _=> rfl⟩
 | choose q k ih=>
   intro H w Q es₀ hs hq;by_cases hf:q.forced=true
   · have:=hq 0;rw[if_pos hf] at this;obtain⟨x,H',w',es,h1,h2,h3⟩:=ih 0 es₀ hs this;exact⟨x,H',w',es,by simp only[Sem.runT,hf,if_true];exact h1,h2,h3⟩
   · have:=hq (w.tape w.drawn q);rw[if_neg hf] at this;have hs':Sat H { w with drawn:=w.drawn+1 }:=hs;obtain⟨x,H',w',es,h1,h2,h3⟩:=ih _ es₀ hs' this;exact⟨x,H',w',es,by simp only[Sem.runT];rw[if_neg hf];exact h1,{ h2 with tape:=h2.tape,os:=h2.os,out:=h2.out,size:=h2.size,foreign:=h2.foreign },h3⟩
 | sys c k ih=> exact fun _ _ hq=> hq.elim
 | program k ih=>
   intro H w Q es₀ hs hq;obtain⟨x,H',w',es,h1,h2,h3⟩:=ih P es₀ hs hq;exact⟨x,H',w',es,by simp only[Sem.runT];exact h1,h2,h3⟩
 | mark m k ih=>
   intro H w Q es₀ hs ⟨hm,hq⟩;obtain⟨x,H',w',es,h1,h2,h3⟩:=ih (es₀.push ⟨.mark m,false,true⟩) hs hq;refine⟨x,H',w',#[⟨.mark m,false,true⟩]++es,?_,h2.list ⟨.mark m,false,true⟩ ⟨hm,rfl,rfl⟩,h3⟩;simp only[Sem.runT];rw[h1,push_app]
 | halt h=> exact fun _ _ hq=> hq.elim
theorem vwp_bind {α β:Type}{P:Program}(s:Sem α)(k:α->Sem β){Q:β->View->Prop}:∀ {H:View},vwp P s H (fun a H'=> vwp P (k a) H' Q)->vwp P (s.bind k) H Q:=by
 induction s with
 | pure a=> exact fun h=> h
 | load m a c ih=> exact fun⟨h1,h2,f,x,e,fz,v,h3,h4,h5⟩=> ⟨h1,h2,f,x,e,fz,v,h3,h4,ih v h5⟩
 | store m a v c ih=> exact fun⟨h1,h2,h3,h4,x,e,fz,h5,h6,h7,h8⟩=> ⟨h1,h2,h3,h4,x,e,fz,h5,h6,h7,ih h8⟩
 | new o c ih=> exact fun h b hb=> ih b (h b hb)
 | shape r c ih=> exact fun⟨f,x,e,fz,h1,h2⟩=> ⟨f,x,e,fz,h1,ih _ h2⟩
 | freeze a n c ih=> exact fun⟨h1,x,e,fz,h2,h3⟩=> ⟨h1,x,e,fz,h2,ih h3⟩
 | frozen a c ih=> exact fun⟨f,x,e,fz,h1,h2⟩=> ⟨f,x,e,fz,h1,ih _ h2⟩
 | getObj r c ih=> exact fun⟨f,o,h1,h2,h3,h4⟩=> ⟨f,o,h1,h2,h3,ih _ h4⟩
 | setObj r o c ih=> exact fun⟨h1,h2,h3⟩=> ⟨h1,h2,ih h3⟩
 | choose q c ih=> exact fun h t=> ih _ (h t)
 | sys c k ih=> exact fun h=> h.elim
 | program c ih=> exact fun h=> ih _ h
 | mark m c ih=> exact fun⟨h1,h2⟩=> ⟨h1,ih h2⟩
 | halt h=> exact fun h=> h.elim
theorem vwp_mono {α:Type}{P:Program}(s:Sem α){Q Q':α->View->Prop}(hQ:∀a H,Q a H->Q' a H):∀ {H:View},vwp P s H Q->vwp P s H Q':=by
 induction s with
 | pure a=> exact fun h=> hQ _ _ h
 | load m a c ih=> exact fun⟨h1,h2,f,x,e,fz,v,h3,h4,h5⟩=> ⟨h1,h2,f,x,e,fz,v,h3,h4,ih v h5⟩
 | store m a v c ih=> exact fun⟨h1,h2,h3,h4,x,e,fz,h5,h6,h7,h8⟩=> ⟨h1,h2,h3,h4,x,e,fz,h5,h6,h7,ih h8⟩
 | new o c ih=> exact fun h b hb=> ih b (h b hb)
 | shape r c ih=> exact fun⟨f,x,e,fz,h1,h2⟩=> ⟨f,x,e,fz,h1,ih _ h2⟩
 | freeze a n c ih=> exact fun⟨h1,x,e,fz,h2,h3⟩=> ⟨h1,x,e,fz,h2,ih h3⟩
 | frozen a c ih=> exact fun⟨f,x,e,fz,h1,h2⟩=> ⟨f,x,e,fz,h1,ih _ h2⟩
 | getObj r c ih=> exact fun⟨f,o,h1,h2,h3,h4⟩=> ⟨f,o,h1,h2,h3,ih _ h4⟩
 | setObj r o c ih=> exact fun⟨h1,h2,h3⟩=> ⟨h1,h2,ih h3⟩
 | choose q c ih=> exact fun h t=> ih _ (h t)
 | sys c k ih=> exact fun h=> h.elim
 | program c ih=> exact fun h=> ih _ h
 | mark m c ih=> exact fun⟨h1,h2⟩=> ⟨h1,ih h2⟩
 | halt h=> exact fun h=> h.elim
def View.plus(H F:View):View:=fun b=>
 match H b with
 | some x=> some x
 | none=> F b
def Dj(H F:View):Prop:=∀b x,F b=some x->H b=none
structure Md(P:Program) where
 main:Bool
 ok:World->Prop
 Ph:View->Goroutine->(View->Goroutine->Prop)->Prop
 frame:∀H g Po F,Ph H g Po->Dj H F->Ph (H.plus F) g fun H'' g'=> ∃H',H''=H'.plus F/\Dj H' F/\Po H' g'
def StepTo {P:Program}(M:Md P)(H:View)(g:Goroutine)(X:View->Goroutine->Prop):Prop:=
 g.status=.running/\∀w,Sat H w->M.ok w->∃g' w' es H',stepG P M.main g w=.go g' w' es/\Trans H w H' w' es/\X H' g'
def T {P:Program}(M:Md P)(St:View->Goroutine->Prop)(H:View)(g:Goroutine):Prop:=
 ∀X:View->Goroutine->Prop,(∀H g,St H g->X H g)->(∀H g,StepTo M H g X->X H g)->(∀H g Po,M.Ph H g Po->(∀H' g',Po H' g'->X H' g')->X H g)->X H g
section
variable {P:Program}{M:Md P}{St:View->Goroutine->Prop}{H:View}{g:Goroutine}
theorem StepTo.mono {X Y:View->Goroutine->Prop}(h:StepTo M H g X)(hXY:∀H g,X H g->Y H g):StepTo M H g Y:=
 ⟨h.1,fun w hw ho=> let ⟨g',w',es,H',h1,h2,h3⟩:=h.2 w hw ho;⟨g',w',es,H',h1,h2,hXY _ _ h3⟩⟩
theorem T.stop(h:St H g):T M St H g:=fun _ h1 _ _=> h1 _ _ h
theorem T.step(h:StepTo M H g (T M St)):T M St H g:=fun X h1 h2 h3=> h2 _ _ (h.mono fun _ _ k=> k X h1 h2 h3)
theorem T.phase {Po:View->Goroutine->Prop}(h:M.Ph H g Po)(k:∀H' g',Po H' g'->T M St H' g'):T M St H g:=
 fun X h1 h2 h3=> h3 _ _ _ h fun H' g' hp=> k H' g' hp X h1 h2 h3
theorem T.bind {St':View->Goroutine->Prop}(h:T M St H g)(k:∀H' g',St H' g'->T M St' H' g'):T M St' H g:=
 h (T M St') k (fun _ _ hs=> .step hs) (fun _ _ _ hp hk=> .phase hp hk)
theorem plus_left {H F:View}{b:Nat}{x:Bool×Obj}(h:H b=some x):H.plus F b=some x:=by simp[View.plus,h]
theorem plus_right {H F:View}{b:Nat}(h:H b=none):H.plus F b=F b:=by simp[View.plus,h]
theorem Trans.frame {H H' F:View}{w w':World}{es:Array Event}(h:Trans H w H' w' es)(hd:Dj H F)(hs:Sat (H.plus F) w):Dj H' F/\Trans (H.plus F) w (H'.plus F) w' es:=by
 have hd':Dj H' F:=by
  intro b x hb;cases hx:H' b with
  | none=> rfl
  | some y=>
   obtain⟨f,o'⟩:=y;have hlt:b<w.heap.size:=hs.lt (x:=x) (by rw[plus_right (hd b x hb)];exact hb);rcases h.ext b f o' hx with ⟨o,h1⟩|⟨_,h2⟩
   ·rw[hd b x hb] at h1;cases h1
   ·omega
 refine⟨hd',h.tape,h.os,h.out,h.size,fun b hb ho=> h.foreign b hb fun o hx=> ho o (plus_left hx),fun b f o hb=> ?_,fun b f o' hb=> ?_,fun b f o hb=> ?_,fun e he=> ?_⟩
 ·unfold View.plus at hb;split at hb
  ·rename_i x hx
   cases hb
   exact h.sat b f o hx
  ·rename_i hx
   have h1:=hd b _ hb;have hlt:b<w.heap.size:=hs.lt (x:=(f,o)) (by rw[plus_right h1];exact hb);rw[h.foreign b hlt fun o hx=> by rw[h1] at hx;cases hx];exact hs b f o (by rw[plus_right h1];exact hb)
 ·unfold View.plus at hb;split at hb
  ·rename_i x hx
   cases hb
   rcases h.ext b f o' hx with ⟨o,h1⟩|h2
   ·exact .inl ⟨o,plus_left h1⟩
   ·exact .inr h2
  ·exact .inl ⟨o',by rw[plus_right (hd b _ hb)];exact hb⟩
 ·unfold View.plus at hb;split at hb
  ·rename_i x hx
   cases hb
   obtain⟨o',h1,h2⟩:=h.keep b f o hx;exact⟨o',plus_left h1,h2⟩
  ·exact⟨o,by rw[plus_right (hd' b _ hb)];exact hb,fun _=> rfl⟩
 ·have:=h.ev e he;unfold EvOk at this ⊢;split
  ·rename_i a heq
   rw[heq] at this;obtain⟨h1,f,o,h2,h3⟩:=this;exact⟨h1,f,o,plus_left h2,h3⟩
  ·rename_i r heq
   rw[heq] at this;obtain⟨h1,f,o,h2,h3⟩:=this;exact⟨h1,f,o,plus_left h2,h3⟩
  ·rename_i heq
   rw[heq] at this;exact this
  ·rename_i h1 h2 h3
   split at this
   ·rename_i heq;exact(h1 _ heq).elim
   ·rename_i heq;exact(h2 _ heq).elim
   ·rename_i heq;exact(h3 _ heq).elim
   ·exact this
theorem T.frame(h:T M St H g):∀F,Dj H F->T M (fun H'' g'=> ∃H',H''=H'.plus F/\Dj H' F/\St H' g') (H.plus F) g:=by
 refine h (fun H g=> ∀F,Dj H F->T M (fun H'' g'=> ∃H',H''=H'.plus F/\Dj H' F/\St H' g') (H.plus F) g) (fun H g hs F hd=> .stop ⟨H,rfl,hd,hs⟩) (fun H g hs F hd=> .step ⟨hs.1,fun w hw ho=> ?_⟩) (fun H g Po hp hk F hd=> .phase (M.frame H g Po F hp hd) ?_)
 ·obtain⟨g',w',es,H',h1,h2,h3⟩:=hs.2 w (fun b f o hb=> hw b f o (plus_left hb)) ho;obtain⟨h4,h5⟩:=h2.frame hd hw;exact⟨g',w',es,_,h1,h5,h3 F h4⟩
 ·rintro H'' g' ⟨H',rfl,hd',hpo⟩;exact hk H' g' hpo F hd'
theorem T.silent {g':Goroutine}(hs:g.status=.running)(h:∀w,stepG P M.main g w=.go g' w #[])(k:T M St H g'):T M St H g:=
 .step ⟨hs,fun w hw _=> ⟨g',w,#[],H,h w,.refl hw,k⟩⟩
end
structure FB where
 fn:FuncId
 kind:CallKind
 rd:Option Nat
def FB.at(b:FB)(tmps:Array Value)(ds:List Deferred)(todo:List Item):Frame:=
 { fn:=b.fn,tmps,todo,defers:=ds,mode:=.run,kind:=b.kind,roundOf:=b.rd }
def FB.back(b:FB)(tmps:Array Value)(ds:List Deferred)(todo:List Item):Frame:=
 { fn:=b.fn,tmps,todo,defers:=ds,mode:=.returning,kind:=b.kind,roundOf:=b.rd }
def evT(tmps:Array Value):Operand->Value
 | .tmp t=> tmps.getD t undef
 | .const v=> v
 | .global g=> .pointer (some ⟨g,0,none⟩)
 | .func f=> .func (.func f) #[] #[]
def putT(tmps:Array Value)(dst:Option Tmp)(v:Value):Array Value:=
 match dst with
 | some d=> tmps.setIfInBounds d v
 | none=> tmps
theorem FB.eval_at(b:FB)(tmps:Array Value)(ds:List Deferred)(todo:List Item):(b.at tmps ds todo).eval=evT tmps:=by
 funext x;cases x <;> rfl
theorem FB.finish_at(b:FB)(tmps:Array Value)(ds:List Deferred)(ops:Array Oper)(i:Nat)(rest:List Nat)(k:List Item)(v:Value):
  (b.at tmps ds (.inRegion ops (i::rest)::k)).finish v=b.at (putT tmps ((ops[i]?).bind (·.dst)) v) ds (.inRegion ops rest::k):=by
 cases h:(ops[i]?).bind (·.dst) <;> simp[Frame.finish,FB.at,putT,h]
section
variable {P:Program}{M:Md P}{St:View->Goroutine->Prop}{H:View}{b:FB}{tmps:Array Value}{ds:List Deferred}{k:List Item}{cs:List Frame}
theorem T.skip(h:T M St H (G (b.at tmps ds k) cs)):T M St H (G (b.at tmps ds (.code .skip::k)) cs):=
 .silent rfl (fun _=> by simp[G,stepG,stepG.exec,FB.at]) h
theorem T.inBlock {id:Nat}(h:T M St H (G (b.at tmps ds k) cs)):T M St H (G (b.at tmps ds (.inBlock id::k)) cs):=
 .silent rfl (fun _=> by simp[G,stepG,stepG.exec,FB.at]) h
theorem T.seq {x y:Code}(h:T M St H (G (b.at tmps ds (.code x:: .code y::k)) cs)):T M St H (G (b.at tmps ds (.code (.seq x y)::k)) cs):=
 .silent rfl (fun _=> by simp[G,stepG,stepG.exec,FB.at]) h
theorem T.cond {c:Operand}{x y:Code}{t:Bool}(hc:evT tmps c=.bool t)(h:T M St H (G (b.at tmps ds (.code (if t then x else y)::k)) cs)):
  T M St H (G (b.at tmps ds (.code (.cond c x y)::k)) cs):=
 .silent rfl (fun _=> by
  have h':(b.at tmps ds (.code (.cond c x y)::k)).eval c=.bool t:=by rw[FB.eval_at];exact hc
  simp only[FB.at] at h';simp[G,stepG,stepG.exec,FB.at,h']) h
theorem T.block {id:Nat}{c:Code}(h:T M St H (G (b.at tmps ds (.code c:: .inBlock id::k)) cs)):T M St H (G (b.at tmps ds (.code (.block id c)::k)) cs):=
 .silent rfl (fun _=> by simp[G,stepG,stepG.exec,FB.at]) h
theorem T.loop {c:Code}(h:T M St H (G (b.at tmps ds (.code c:: .inLoop c::k)) cs)):T M St H (G (b.at tmps ds (.code (.loop c)::k)) cs):=
 .silent rfl (fun _=> by simp[G,stepG,stepG.exec,FB.at]) h
theorem T.inLoop {c:Code}(h:T M St H (G (b.at tmps ds (.code c:: .inLoop c::k)) cs)):T M St H (G (b.at tmps ds (.inLoop c::k)) cs):=
 .silent rfl (fun _=> by simp[G,stepG,stepG.exec,FB.at]) h
theorem T.exit {id:Nat}{k':List Item}(he:exitTo id k=some k')(h:T M St H (G (b.at tmps ds k') cs)):T M St H (G (b.at tmps ds (.code (.exit id)::k)) cs):=
 .silent rfl (fun _=> by simp[G,stepG,stepG.exec,FB.at,he]) h
theorem T.region {id:Nat}{ops:Array Oper}(h:T M St H (G (b.at tmps ds (.inRegion ops (List.range ops.size)::k)) cs)):T M St H (G (b.at tmps ds (.code (.region id ops false)::k)) cs):=
 .silent rfl (fun _=> by simp[G,stepG,stepG.exec,FB.at]) h
theorem T.region_end {ops:Array Oper}(h:T M St H (G (b.at tmps ds k) cs)):T M St H (G (b.at tmps ds (.inRegion ops []::k)) cs):=
 .silent rfl (fun _=> by simp[G,stepG,stepG.exec,FB.at]) h
theorem T.retCode(hr:b.rd=none)(h:T M St H (G (b.back tmps ds (.code .ret::k)) cs)):T M St H (G (b.at tmps ds (.code .ret::k)) cs):=
 .silent rfl (fun _=> by simp[G,stepG,stepG.exec,FB.at,FB.back,hr]) h
theorem T.over(hr:b.rd=none)(h:T M St H (G (b.back tmps ds []) cs)):T M St H (G (b.at tmps ds []) cs):=
 .silent rfl (fun _=> by simp[G,stepG,stepG.exec,FB.at,FB.back,hr]) h
theorem T.region_draw {id:Nat}{ops:Array Oper}(h:∀t,T M St H (G (b.at tmps ds (.inRegion ops (Region.schedule (P.follows .mixedOrders) ops t)::k)) cs)):
  T M St H (G (b.at tmps ds (.code (.region id ops true)::k)) cs):=
 .step ⟨rfl,fun w hw _=> ⟨_,{ w with drawn:=w.drawn+1 },#[],H,by simp[G,stepG,stepG.exec,FB.at,choose,Sem.run,Question.forced,Question.cut];rfl,
  { Trans.refl hw with tape:=rfl,os:=rfl,out:=rfl,size:=Nat.le_refl _,foreign:=fun _ _ _=> rfl,sat:=hw },h _⟩⟩
theorem T.op_skipped {ops:Array Oper}{i:Nat}{rest:List Nat}{o:Oper}(ho:ops[i]? =some o)(hw:Region.wanted o (yielded ops tmps)=false)
  (h:T M St H (G (b.at (putT tmps o.dst undef) ds (.inRegion ops rest::k)) cs)):T M St H (G (b.at tmps ds (.inRegion ops (i::rest)::k)) cs):=by
 refine .silent rfl (fun w=> ?_) h;have hf:=FB.finish_at b tmps ds ops i rest k undef;rw[ho] at hf;simp only[Option.bind_some] at hf;rw[<-hf];simp[G,stepG,stepG.exec,FB.at,ho,hw]
def Upon {P:Program}(M:Md P)(St:View->Goroutine->Prop)(b:FB)(tmps:Array Value)(ds:List Deferred)(ops:Array Oper)(i:Nat)(rest:List Nat)(k:List Item)(cs:List Frame)(dst:Option Tmp)(n:Next)(H:View):Prop:=
 match n with
 | .value v=> T M St H (G (b.at (putT tmps dst v) ds (.inRegion ops rest::k)) cs)
 | .skip=> T M St H (G (b.at (putT tmps dst undef) ds (.inRegion ops rest::k)) cs)
 | .enter f args=> T M St H (G (Frame.enter P f args .normal) (b.at tmps ds (.inRegion ops (i::rest)::k)::cs))
 | .round l f tmps' assign body=> T M St H (G (Frame.round l f tmps' assign body .normal) (b.at tmps ds (.inRegion ops (i::rest)::k)::cs))
 | .defer d=> T M St H (G (b.at (putT tmps dst undef) (d::ds) (.inRegion ops rest::k)) cs)
 | _=> False
theorem T.op {ops:Array Oper}{i:Nat}{rest:List Nat}{o:Oper}(ho:ops[i]? =some o)(hw:Region.wanted o (yielded ops tmps)=true)(hd:b.rd=none\/∀c,o.op≠ .defer c)
  (h:vwp P (execOp (evT tmps) o) H (Upon M St b tmps ds ops i rest k cs o.dst)):T M St H (G (b.at tmps ds (.inRegion ops (i::rest)::k)) cs):=by
 refine .step ⟨rfl,fun w hs _=> ?_⟩;obtain⟨n,H',w',es,h1,h2,h3⟩:=vwp_sound _ #[] hs h;rw[Array.empty_append] at h1;have hg:stepG P M.main (G (b.at tmps ds (.inRegion ops (i::rest)::k)) cs) w=stepG.apply P true (b.at tmps ds (.inRegion ops (i::rest)::k)) cs none (execOp (b.at tmps ds (.inRegion ops (i::rest)::k)).eval o) w:=by
  rcases hd with hd|hd
  ·simp[G,stepG,stepG.exec,stepG.oper,Frame.oper?,FB.at,ho,hw,hd]
  ·cases hop:o.op <;> first
    | exact absurd hop (hd _)
    | (cases hrd:b.rd <;> simp[G,stepG,stepG.exec,stepG.oper,Frame.oper?,FB.at,ho,hw,hop,hrd])
 rw[FB.eval_at] at hg;have hfin:∀v,(b.at tmps ds (.inRegion ops (i::rest)::k)).finish v=b.at (putT tmps o.dst v) ds (.inRegion ops rest::k):=by
  intro v;rw[FB.finish_at,ho];rfl
 generalize hes:seen P (b.at tmps ds (.inRegion ops (i::rest)::k)).fn (if(b.at tmps ds (.inRegion ops (i::rest)::k)).kind==.early then #[] else es)=es';have hsub:∀e∈es',e∈es:=fun e he=> by
  rw[<-hes] at he;have:=mem_seen he;split at this
  ·simp at this
  ·exact this
 have hap:∀x:GStep,(stepG.apply P true (b.at tmps ds (.inRegion ops (i::rest)::k)) cs none (execOp (evT tmps) o) w=GStep.after es' x)->stepG P M.main (G (b.at tmps ds (.inRegion ops (i::rest)::k)) cs) w=GStep.after es' x:=
  fun x hx=> hg.trans hx
 cases n <;> try exact h3.elim
 case value v=>
  refine⟨_,w',es',H',(hap (.go (G (b.at (putT tmps o.dst v) ds (.inRegion ops rest::k)) cs) w') ?_).trans (by simp[GStep.after]),h2.sub hsub,h3⟩;rw[<-hes,<-hfin];unfold stepG.apply;rw[if_pos rfl,h1];rfl
 case skip=>
  refine⟨_,w',es',H',(hap (.go (G (b.at (putT tmps o.dst undef) ds (.inRegion ops rest::k)) cs) w') ?_).trans (by simp[GStep.after]),h2.sub hsub,h3⟩;rw[<-hes,<-hfin];unfold stepG.apply;rw[if_pos rfl,h1];rfl
 case enter f args=>
  refine⟨_,w',es',H',(hap (.go (G (Frame.enter P f args .normal) (b.at tmps ds (.inRegion ops (i::rest)::k)::cs)) w') ?_).trans (by simp[GStep.after]),h2.sub hsub,h3⟩;rw[<-hes];unfold stepG.apply;rw[if_pos rfl,h1];rfl
 case round l f tmps' assign body=>
  refine⟨_,w',es',H',(hap (.go (G (Frame.round l f tmps' assign body .normal) (b.at tmps ds (.inRegion ops (i::rest)::k)::cs)) w') ?_).trans (by simp[GStep.after]),h2.sub hsub,h3⟩;rw[<-hes];unfold stepG.apply;rw[if_pos rfl,h1];rfl
 case defer d=>
  have hfin':({ b.at tmps ds (.inRegion ops (i::rest)::k) with defers:=d::ds }:Frame).finish undef=b.at (putT tmps o.dst undef) (d::ds) (.inRegion ops rest::k):=by
   have:=FB.finish_at b tmps (d::ds) ops i rest k undef;rw[ho] at this;exact this
  refine⟨_,w',es',H',(hap (.go (G (b.at (putT tmps o.dst undef) (d::ds) (.inRegion ops rest::k)) cs) w') ?_).trans (by simp[GStep.after]),h2.sub hsub,h3⟩;rw[<-hes,<-hfin'];unfold stepG.apply;rw[if_pos rfl,h1];rfl
theorem T.leave {fn:Func}{c:Frame}{todo:List Item}(hf:P.funcs[b.fn]? =some fn)(hk:b.kind=.normal)
  (h:vwp P (results fn tmps) H fun v H'=> T M St H' (G (c.finish v) cs)):T M St H (G (b.back tmps [] todo) (c::cs)):=by
 refine .step ⟨rfl,fun w hs _=> ?_⟩;obtain⟨v,H',w',es,h1,h2,h3⟩:=vwp_sound _ #[] hs h;rw[Array.empty_append] at h1;refine⟨G (c.finish v) cs,w',seen P b.fn es,H',?_,h2.sub fun e he=> mem_seen he,h3⟩;have:stepG P M.main (G (b.back tmps [] todo) (c::cs)) w=unwind P M.main (b.back tmps [] todo) (c::cs) none w:=by
  simp[G,stepG,FB.back]
 rw[this];unfold unwind;simp only[FB.back,hf,h1,doReturn,hk,GStep.after,G,Array.append_empty]
end
abbrev Rg:=List (Nat×Value)
def lk:Rg->Nat->Option Value
 | [],_=> none
 | (e,v)::R,d=> match Nat.beq e d with
  | true=> some v
  | false=> lk R d
theorem lk_cons(e:Nat)(v:Value)(R:Rg)(d:Nat):lk ((e,v)::R) d=if e=d then some v else lk R d:=by
 by_cases h:e=d
 ·subst h;rw[if_pos rfl,lk,Nat.beq_refl]
 ·have:Nat.beq e d=false:=by
   cases hb:Nat.beq e d with
   | false=> rfl
   | true=> exact absurd (Nat.eq_of_beq_eq_true hb) h
  rw[if_neg h,lk,this]
def RegOk(n:Nat)(R:Rg)(tmps:Array Value):Prop:=tmps.size=n/\∀d v,lk R d=some v->tmps[d]? =some v
abbrev Bl:=List (Nat×Bool×Obj)
def View.le(H H':View):Prop:=∀b x,H b=some x->H' b=some x
theorem View.le_refl(H:View):H.le H:=fun _ _ h=> h
theorem View.le_trans {H H' H'':View}(h:H.le H')(k:H'.le H''):H.le H'':=fun b x hb=> k b x (h b x hb)
theorem View.le_put {H:View}{b:Nat}(x:Bool×Obj)(h:H b=none):H.le (H.put b x):=fun c y hc=> by
 rw[View.put_other]
 ·exact hc
 ·intro e;rw[e,h] at hc;cases hc
structure SymSt(H₀:View)(L:Bl)(H:View):Prop where
 nodup:(L.map (·.1)).Nodup
 out:∀x∈L,H₀ x.1=none
 at_:∀x∈L,H x.1=some x.2
 base:H₀.le H
theorem SymSt.nil(H:View):SymSt H [] H:=⟨by simp,by simp,by simp,View.le_refl H⟩
theorem SymSt.mono {H₀ H H':View}{L:Bl}(h:SymSt H₀ L H)(k:H.le H'):SymSt H₀ L H':=
 ⟨h.nodup,h.out,fun x hx=> k _ _ (h.at_ x hx),View.le_trans h.base k⟩
theorem SymSt.get {H₀ H:View}{L:Bl}(h:SymSt H₀ L H){i:Nat}{b:Nat}{x:Bool×Obj}(hi:L[i]? =some (b,x)):H b=some x:=
 h.at_ _ (List.mem_of_getElem? hi)
theorem SymSt.cons {H₀ H:View}{L:Bl}(h:SymSt H₀ L H){b:Nat}(x:Bool×Obj)(hb:H b=none):SymSt H₀ ((b,x)::L) (H.put b x) where
 nodup:=by
  simp only[List.map_cons,List.nodup_cons];refine⟨fun hm=> ?_,h.nodup⟩;obtain⟨y,hy,e⟩:=List.mem_map.1 hm;have:=h.at_ y hy;rw[e,hb] at this;cases this
 out :=fun y hy=> by
  rcases List.mem_cons.1 hy with rfl|hy
  ·cases hh:H₀ b with
   | none=> rfl
   | some z=> have:=h.base _ _ hh;rw[hb] at this;cases this
  ·exact h.out y hy
 at_ :=fun y hy=> by
  rcases List.mem_cons.1 hy with rfl|hy
  ·exact View.put_same ..
  ·rw[View.put_other]
   ·exact h.at_ y hy
   ·intro e;have:=h.at_ y hy;rw[e,hb] at this;cases this
 base:=View.le_trans h.base (View.le_put x hb)
theorem nodup_unique {L:Bl}(h:(L.map (·.1)).Nodup){i j:Nat}{b:Nat}{x y:Bool×Obj}(hi:L[i]? =some (b,x))(hj:L[j]? =some (b,y)):i=j:=by
 have h1:(L.map (·.1))[i]? =some b:=by simp[hi]
 have h2:(L.map (·.1))[j]? =some b:=by simp[hj]
 obtain⟨hi',e1⟩:=List.getElem?_eq_some_iff.1 h1;obtain⟨hj',e2⟩:=List.getElem?_eq_some_iff.1 h2;have hp:=List.pairwise_iff_getElem.1 h;rcases Nat.lt_trichotomy i j with hlt|heq|hgt
 ·exact absurd (e1.trans e2.symm) (hp i j hi' hj' hlt)
 ·exact heq
 ·exact absurd (e2.trans e1.symm) (hp j i hj' hi' hgt)
theorem SymSt.set {H₀ H:View}{L:Bl}(h:SymSt H₀ L H){i:Nat}{b:Nat}{x:Bool×Obj}(hi:L[i]? =some (b,x))(y:Bool×Obj):SymSt H₀ (L.set i (b,y)) (H.put b y) where
 nodup :=by
  have:(L.set i (b,y)).map (·.1)=L.map (·.1):=by
   rw[List.map_set];apply List.ext_getElem?
   intro k;by_cases e:i=k
   ·subst e;have:=(List.getElem?_eq_some_iff.1 hi).1;rw[List.getElem?_set_self (by simpa using this)];simp[hi]
   ·rw[List.getElem?_set_ne e]
  rw[this];exact h.nodup
 out :=fun z hz=> by
  obtain⟨k,hk⟩:=List.mem_iff_getElem?.1 hz;by_cases e:i=k
  ·subst e;have:=(List.getElem?_eq_some_iff.1 hi).1;rw[List.getElem?_set_self this] at hk;cases hk
   exact h.out (b,x) (List.mem_of_getElem? hi)
  ·rw[List.getElem?_set_ne e] at hk;exact h.out _ (List.mem_of_getElem? hk)
 at_ :=fun z hz=> by
  obtain⟨k,hk⟩:=List.mem_iff_getElem?.1 hz;by_cases e:i=k
  ·subst e;have:=(List.getElem?_eq_some_iff.1 hi).1;rw[List.getElem?_set_self this] at hk;cases hk
   exact View.put_same ..
  ·rw[List.getElem?_set_ne e] at hk;rw[View.put_other]
   ·exact h.at_ _ (List.mem_of_getElem? hk)
   ·intro e';exact e (nodup_unique h.nodup hi (e'▸hk:L[k]? =some (b,z.2)))
 base:=fun c z hc=> by
  rw[View.put_other]
  ·exact h.base _ _ hc
  ·intro e;have h1:=h.out (b,x) (List.mem_of_getElem? hi);rw[<-e,hc] at h1;cases h1
theorem SymSt.less {H₀ H:View}{L L':Bl}(h:SymSt H₀ L H)(k:L'.Sublist L):SymSt H₀ L' H:=
 ⟨h.nodup.sublist (k.map _),fun x hx=> h.out x (k.subset hx),fun x hx=> h.at_ x (k.subset hx),h.base⟩
section
variable {P:Program}(M:Md P)(St:View->Goroutine->Prop)(n:Nat)(b:FB)(H₀:View)(cs:List Frame)
def Tc(R:Rg)(L:Bl)(ds:List Deferred)(todo:List Item):Prop:=
 ∀H tmps,SymSt H₀ L H->RegOk n R tmps->T M St H (G (b.at tmps ds todo) cs)
def To(dl:List (Option Tmp))(R:Rg)(L:Bl)(ds:List Deferred)(l:List Oper)(k:List Item):Prop:=
 ∀(arr:Array Oper) (ix:List Nat),(∀j:Nat,(arr[j]?).bind (fun o:Oper=> o.dst)=(dl[j]?).join)->ix.map (arr[·]?)=l.map some->Tc M St n b H₀ cs R L ds (.inRegion arr ix::k)
end
section
variable {P:Program}{M:Md P}{St:View->Goroutine->Prop}{n:Nat}{b:FB}{H₀:View}{cs:List Frame}{R R':Rg}{L L':Bl}{ds:List Deferred}{k:List Item}
theorem Tc.skip(h:Tc M St n b H₀ cs R L ds k):Tc M St n b H₀ cs R L ds (.code .skip::k):=fun H tmps hs hr=> .skip (h H tmps hs hr)
theorem Tc.inBlock {id:Nat}(h:Tc M St n b H₀ cs R L ds k):Tc M St n b H₀ cs R L ds (.inBlock id::k):=fun H tmps hs hr=> .inBlock (h H tmps hs hr)
theorem Tc.seq {x y:Code}(h:Tc M St n b H₀ cs R L ds (.code x:: .code y::k)):Tc M St n b H₀ cs R L ds (.code (.seq x y)::k):=fun H tmps hs hr=> .seq (h H tmps hs hr)
theorem Tc.block {id:Nat}{c:Code}(h:Tc M St n b H₀ cs R L ds (.code c:: .inBlock id::k)):Tc M St n b H₀ cs R L ds (.code (.block id c)::k):=fun H tmps hs hr=> .block (h H tmps hs hr)
theorem Tc.exit {id:Nat}{k':List Item}(he:exitTo id k=some k')(h:Tc M St n b H₀ cs R L ds k'):Tc M St n b H₀ cs R L ds (.code (.exit id)::k):=fun H tmps hs hr=> .exit he (h H tmps hs hr)
theorem Tc.loop {c:Code}(h:Tc M St n b H₀ cs R L ds (.code c:: .inLoop c::k)):Tc M St n b H₀ cs R L ds (.code (.loop c)::k):=fun H tmps hs hr=> .loop (h H tmps hs hr)
theorem Tc.inLoop {c:Code}(h:Tc M St n b H₀ cs R L ds (.code c:: .inLoop c::k)):Tc M St n b H₀ cs R L ds (.inLoop c::k):=fun H tmps hs hr=> .inLoop (h H tmps hs hr)
def evR(R:Rg):Operand->Option Value
 | .tmp t=> lk R t
 | .const v=> some v
 | .global g=> some (.pointer (some ⟨g,0,none⟩))
 | .func f=> some (.func (.func f) #[] #[])
theorem RegOk.ev {tmps:Array Value}(h:RegOk n R tmps){x:Operand}{v:Value}(hx:evR R x=some v):evT tmps x=v:=by
 cases x with
 | tmp t=>
  have:=h.2 t v hx;simp[evT,this]
 | const u=> simpa [evR,evT] using hx
 | global g=> simpa [evR,evT] using hx
 | func f=> simpa [evR,evT] using hx
theorem RegOk.put {tmps:Array Value}(h:RegOk n R tmps){d:Nat}(hd:d<n)(v:Value):RegOk n ((d,v)::R) (tmps.setIfInBounds d v):=by
 refine⟨by simpa using h.1,fun e u hu=> ?_⟩;rw[lk_cons] at hu;split at hu
 ·rename_i heq
  subst heq;cases hu
  simp[h.1,hd]
 ·rename_i hne
  rw[Array.getElem?_setIfInBounds_ne hne];exact h.2 e u hu
theorem Tc.cond {c:Operand}{x y:Code}{t:Bool}(hc:evR R c=some (.bool t))(h1:t=true->Tc M St n b H₀ cs R L ds (.code x::k))(h2:t=false->Tc M St n b H₀ cs R L ds (.code y::k)):
  Tc M St n b H₀ cs R L ds (.code (.cond c x y)::k):=fun H tmps hs hr=> by
 refine .cond (hr.ev hc) ?_;cases t with
 | true=> exact h1 rfl H tmps hs hr
 | false=> exact h2 rfl H tmps hs hr
theorem Tc.region {id:Nat}{ops:Array Oper}{dl:List (Option Tmp)}{l:List Oper}(hl:ops.toList=l)(hdl:l.map (fun o:Oper=> o.dst)=dl)(h:To M St n b H₀ cs dl R L ds l k):Tc M St n b H₀ cs R L ds (.code (.region id ops false)::k):=fun H tmps hs hr=> by
 subst hl hdl;refine .region (h ops _ (fun j=> ?_) ?_ H tmps hs hr)
 ·simp only[List.getElem?_map,Array.getElem?_toList];cases ops[j]? <;> rfl
 ·apply List.ext_getElem?
  intro j;simp only[List.getElem?_map];by_cases hj:j<ops.size
  ·simp[hj]
  ·have h1:(List.range ops.size)[j]? =none:=by simp;omega
   have h2:ops.toList[j]? =none:=by simp;omega
   rw[h1,h2];rfl
theorem To.done {dl:List (Option Tmp)}(h:Tc M St n b H₀ cs R L ds k):To M St n b H₀ cs dl R L ds [] k:=fun arr ix _ hx=> by
 cases ix with
 | nil=> exact fun H tmps hs hr=> .region_end (h H tmps hs hr)
 | cons i r=> simp at hx
def wantB(dl:List (Option Tmp))(R:Rg)(o:Oper):Option Bool:=
 match o.guard with
 | none=> some true
 | some (j,w)=>
  match (dl[j]?).join with
  | none=> none
  | some d=>
   match lk R d with
   | some (.bool x)=> some (x==w)
   | _=> none
theorem wantB_ok {dl:List (Option Tmp)}{o:Oper}{t:Bool}{arr:Array Oper}{tmps:Array Value}(ha:∀j:Nat,(arr[j]?).bind (fun o:Oper=> o.dst)=(dl[j]?).join)(hr:RegOk n R tmps)(h:wantB dl R o=some t):Region.wanted o (yielded arr tmps)=t:=by
 unfold wantB at h;unfold Region.wanted;split at h
 ·rename_i hg
  rw[hg];simpa using h
 ·rename_i j w hg
  rw[hg];split at h
  ·cases h
  ·rename_i d hd
   split at h
   ·rename_i x hx
    simp only[yielded,ha j,hd,Option.bind_some,hr.2 d _ hx];cases h
    cases x <;> cases w <;> rfl
   ·cases h
theorem To.skipped {dl:List (Option Tmp)}{o:Oper}{l:List Oper}{d:Nat}(hd:o.dst=some d)(hn:d<n)(hw:wantB dl R o=some false)(h:To M St n b H₀ cs dl ((d,undef)::R) L ds l k):To M St n b H₀ cs dl R L ds (o::l) k:=fun arr ix ha hx=> by
 cases ix with
 | nil=> simp at hx
 | cons i r=>
  simp only[List.map_cons,List.cons.injEq] at hx;intro H tmps hs hr;refine .op_skipped hx.1 (wantB_ok ha hr hw) ?_;rw[hd];exact h arr r ha hx.2 H _ hs (hr.put hn _)
end
def GoT {P:Program}(M:Md P)(fr:Frame)(H:View)(Q:Value->View->Prop):Prop:=
 ∀(St:View->Goroutine->Prop) (c:Frame) (cs:List Frame),(∀v H',Q v H'->T M St H' (G (c.finish v) cs))->T M St H (G fr (c::cs))
def CallT {P:Program}(M:Md P)(f:FuncId)(args:Array Value)(H:View)(Q:Value->View->Prop):Prop:=GoT M (Frame.enter P f args .normal) H Q
theorem GoT.mono {P:Program}{M:Md P}{fr:Frame}{H:View}{Q Q':Value->View->Prop}(h:GoT M fr H Q)(hq:∀v H',Q v H'->Q' v H'):GoT M fr H Q':=
 fun St c cs hk=> h St c cs fun v H' hv=> hk v H' (hq v H' hv)
section
variable {P:Program}{M:Md P}{St:View->Goroutine->Prop}{n:Nat}{b:FB}{H₀:View}{cs:List Frame}{R R':Rg}{L L':Bl}{ds:List Deferred}{k:List Item}
theorem CallT.mono {f:FuncId}{args:Array Value}{H:View}{Q Q':Value->View->Prop}(h:CallT M f args H Q)(hq:∀v H',Q v H'->Q' v H'):CallT M f args H Q':=
 fun St c cs hk=> h St c cs fun v H' hv=> hk v H' (hq v H' hv)
def argR(args:List Value):Rg:=go 0 args
where
 go:Nat->List Value->Rg
  | _,[]=> []
  | i,v::vs=> (i,v)::go (i+1) vs
theorem argR_go(vs:List Value):∀(i:Nat) (d:Nat) (v:Value),lk (argR.go i vs) d=some v->i<=d/\vs[d-i]? =some v:=by
 induction vs with
 | nil=> intro i d v h;simp[argR.go,lk] at h
 | cons a vs ih=>
  intro i d v h;simp only[argR.go,lk_cons] at h;split at h
  ·rename_i e
   subst e;cases h
   simp
  ·rename_i e
   obtain⟨h1,h2⟩:=ih (i+1) d v h;refine⟨oM,?_⟩;have:d-i=(d-(i+1))+1:=by omega
   rw[this];simpa using h2
theorem CallT.enter {f:FuncId}{fn:Func}{body:Code}{vs:List Value}{H:View}{Q:Value->View->Prop}(hf:P.funcs[f]? =some fn)(hb:fn.body=some body)(hn:fn.ntmps=n)(hv:vs.length<=n)(hs:SymSt H₀ L H)
  (h:∀St c cs,(∀v H',Q v H'->T M St H' (G (c.finish v) cs))->Tc M St n ⟨f,.normal,none⟩ H₀ (c::cs) (argR vs) L [] [.code body]):CallT M f vs.toArray H Q:=fun St c cs hk=> by
 have:=h St c cs hk H (vs.toArray++Array.replicate (n-vs.length) undef) hs ⟨by simp;omega,fun d v hd=> ?_⟩
 ·have e:Frame.enter P f vs.toArray .normal=(⟨f,.normal,none⟩:FB).at (vs.toArray++Array.replicate (n-vs.length) undef) [] [.code body]:=by
   simp[Frame.enter,FB.at,hf,hb,hn]
  rw[e];exact this
 ·obtain⟨_,h2⟩:=argR_go vs 0 d v hd;simp only[Nat.sub_zero] at h2;have hlt:=(List.getElem?_eq_some_iff.1 h2).1;rw[Array.getElem?_append_left (by simpa using hlt)];simpa using h2
theorem Tc.ret {fn:Func}{c:Frame}{Q:Value->View->Prop}{f:FuncId}(hK:∀v H',Q v H'->T M St H' (G (c.finish v) cs))(hf:P.funcs[f]? =some fn)
  (h:∀H tmps,SymSt H₀ L H->RegOk n R tmps->vwp P (results fn tmps) H Q):Tc M St n ⟨f,.normal,none⟩ H₀ (c::cs) R L [] (.code .ret::k):=
 fun H tmps hs hr=> .retCode rfl (.leave hf rfl (vwp_mono _ hK (h H tmps hs hr)))
theorem Tc.over {fn:Func}{c:Frame}{Q:Value->View->Prop}{f:FuncId}(hK:∀v H',Q v H'->T M St H' (G (c.finish v) cs))(hf:P.funcs[f]? =some fn)
  (h:∀H tmps,SymSt H₀ L H->RegOk n R tmps->vwp P (results fn tmps) H Q):Tc M St n ⟨f,.normal,none⟩ H₀ (c::cs) R L [] []:=
 fun H tmps hs hr=> .over rfl (.leave hf rfl (vwp_mono _ hK (h H tmps hs hr)))
def evRs(R:Rg)(xs:List Operand):Option (List Value):=xs.mapM (evR R)
theorem RegOk.evs {tmps:Array Value}(h:RegOk n R tmps):∀ {xs:List Operand} {vs:List Value},evRs R xs=some vs->xs.map (evT tmps)=vs:=by
 intro xs;induction xs with
 | nil=> intro vs e;simp[evRs] at e;simp[e]
 | cons x xs ih=>
  intro vs e;simp only[evRs,List.mapM_cons,Option.bind_eq_bind,Option.bind_eq_some_iff,Option.pure_def,Option.some.injEq] at e;obtain⟨v,h1,us,h2,rfl⟩:=e;simp only[List.map_cons,h.ev h1,List.cons.injEq,true_and];exact ih h2
def callable(P:Program)(g:FuncId):Bool:=
 match P.funcs[g]? with
 | some fn=> !(fn.name== "runtime.NumGoroutine")&&fn.body.isSome
 | none=> false
theorem vwp_callFunc {g:FuncId}{args:Array Value}{H:View}{Q:Next->View->Prop}(hg:callable P g=true)(h:Q (.enter g args) H):vwp P (callFunc g args) H Q:=by
 unfold callable at hg;split at hg
 ·rename_i fn hfn
  simp only[Bool.and_eq_true,Bool.not_eq_true',Option.isSome_iff_ne_none] at hg;obtain⟨h1,h2⟩:=hg;show vwp P (match P.funcs[g]? with|none=> _|some fn=> _) H Q;rw[hfn];have hb:fn.body.isNone=false:=by cases hx:fn.body <;> simp_all
  simp only[h1,hb,Bool.false_eq_true,if_false];exact h
 ·cases hg
def OpRun {P:Program}(M:Md P)(o:Oper)(tmps:Array Value)(H:View)(K:Array Value->View->Prop):Prop:=
 vwp P (execOp (evT tmps) o) H fun nx H'=>
  match nx with
  | .value v=> K (putT tmps o.dst v) H'
  | .skip=> K (putT tmps o.dst undef) H'
  | .enter f args=> CallT M f args H' fun v H''=> K (putT tmps o.dst v) H''
  | .round l f tmps' assign body=> GoT M (Frame.round l f tmps' assign body .normal) H' fun v H''=> K (putT tmps o.dst v) H''
  | _=> False
theorem OpRun.mono {o:Oper}{tmps:Array Value}{H:View}{K K':Array Value->View->Prop}(h:OpRun M o tmps H K)(hk:∀t H',K t H'->K' t H'):OpRun M o tmps H K':=
 vwp_mono _ (fun nx H' hn=> by
  cases nx <;> first|exact hn.elim|skip
  ·exact hk _ _ hn
  ·exact hk _ _ hn
  ·exact CallT.mono hn fun v H''=> hk _ _
  ·exact GoT.mono hn fun v H''=> hk _ _) h
def isDefer:Op->Bool
 | .defer _=> true
 | _=> false
theorem OpRun.sound {ops:Array Oper}{i:Nat}{rest:List Nat}{o:Oper}{tmps:Array Value}{H:View}(ho:ops[i]? =some o)(hw:Region.wanted o (yielded ops tmps)=true)(hd:isDefer o.op=false)
   (h:OpRun M o tmps H fun t H'=> T M St H' (G (b.at t ds (.inRegion ops rest::k)) cs)):T M St H (G (b.at tmps ds (.inRegion ops (i::rest)::k)) cs):=by
 refine .op ho hw (.inr fun c e=> by rw[e] at hd;cases hd) (vwp_mono _ (fun nx H' hn=> ?_) h);have hfin:∀v,(b.at tmps ds (.inRegion ops (i::rest)::k)).finish v=b.at (putT tmps o.dst v) ds (.inRegion ops rest::k):=by
   intro v;rw[FB.finish_at,ho];rfl
 cases nx <;> first
   | exact hn
   | exact hn.elim
   | (refine hn St _ cs fun v H'' hq=> ?_
      rw[hfin];exact hq)
def Or {P:Program}(M:Md P)(n:Nat)(H₀:View)(R:Rg)(L:Bl)(o:Oper)(K:Rg->Bl->Prop):Prop:=
 ∀H tmps,SymSt H₀ L H->RegOk n R tmps->OpRun M o tmps H fun t H'=> ∃R' L',RegOk n R' t/\SymSt H₀ L' H'/\K R' L'
theorem To.op {dl:List (Option Tmp)}{o:Oper}{l:List Oper}(hw:wantB dl R o=some true)(hd:isDefer o.op=false)(h:Or M n H₀ R L o fun R' L'=> To M St n b H₀ cs dl R' L' ds l k):To M St n b H₀ cs dl R L ds (o::l) k:=fun arr ix ha hx=> by
 cases ix with
 | nil=> simp at hx
 | cons i r=>
  simp only[List.map_cons,List.cons.injEq] at hx;intro H tmps hs hr;refine OpRun.sound hx.1 (wantB_ok ha hr hw) hd ((h H tmps hs hr).mono ?_);rintro t H' ⟨R',L',h1,h2,h3⟩;exact h3 arr r ha hx.2 H' t h2 h1
theorem Or.val {o:Oper}{K:Rg->Bl->Prop}{d:Nat}(hd:o.dst=some d)(hn:d<n)
  (h:∀H tmps,SymSt H₀ L H->RegOk n R tmps->vwp P (execOp (evT tmps) o) H fun nx H'=> ∃v,nx=.value v/\∃L',SymSt H₀ L' H'/\K ((d,v)::R) L'):Or M n H₀ R L o K:=fun H tmps hs hr=>
 vwp_mono _ (by
  rintro nx H' ⟨v,rfl,L',hs',hk⟩;refine⟨_,L',?_,hs',hk⟩;rw[hd];exact hr.put hn _) (h H tmps hs hr)
theorem Or.non {o:Oper}{K:Rg->Bl->Prop}(hd:o.dst=none)
  (h:∀H tmps,SymSt H₀ L H->RegOk n R tmps->vwp P (execOp (evT tmps) o) H fun nx H'=> nx=.skip/\∃L',SymSt H₀ L' H'/\K R L'):Or M n H₀ R L o K:=fun H tmps hs hr=>
 vwp_mono _ (by
  rintro nx H' ⟨rfl,L',hs',hk⟩;refine⟨_,L',?_,hs',hk⟩;rw[hd];exact hr) (h H tmps hs hr)
def FnT {P:Program}(M:Md P)(fv:Value)(az:List Value)(H:View)(Q:Value->View->Prop):Prop:=
 vwp P ((Deferred.ofValue fv az.toArray).bind fun d=> invoke d.target d.args) H fun nx H'=>
  match nx with
  | .enter f args=> CallT M f args H' Q
  | .round l f tmps assign body=> GoT M (Frame.round l f tmps assign body .normal) H' Q
  | _=> False
theorem FnT.mono {fv:Value}{az:List Value}{H:View}{Q Q':Value->View->Prop}(h:FnT M fv az H Q)(hq:∀v H',Q v H'->Q' v H'):FnT M fv az H Q':=
 vwp_mono _ (fun nx H' hn=> by
  cases nx <;> first
   | exact hn
   | exact CallT.mono hn hq
   | exact GoT.mono hn hq) h
theorem FnT.of {g:FuncId}{az first captured:List Value}{as':Array Value}{H:View}{Q:Value->View->Prop}(hg:callable P g=true)(hall:(first++az++captured).toArray=as')(h:CallT M g as' H Q):
  FnT M (.func (.func g) first.toArray captured.toArray) az H Q:=by
 unfold FnT;simp only[Deferred.ofValue];show vwp P (callFunc g (first.toArray++az.toArray++captured.toArray)) H _;have e3:first.toArray++az.toArray++captured.toArray=as':=by rw[<-hall];simp
 rw[e3];exact vwp_callFunc hg h
theorem Or.callV {o:Oper}{K:Rg->Bl->Prop}{cl:Go.Call}{x:Operand}{fv:Value}{az:List Value}(hop:o.op=.call cl)(hcl:cl.callee=.value x)(hx:evR R x=some fv)(has:evRs R cl.args.toList=some az)
  {Q:View->Value->View->Prop} (hc:∀H,SymSt H₀ L H->FnT M fv az H (Q H))
  (hk:∀H v H',SymSt H₀ L H->Q H v H'->∃L' R',SymSt H₀ L' H'/\(match o.dst with|some d=> d<n/\R'=(d,v)::R|none=> R'=R)/\K R' L'):Or M n H₀ R L o K:=fun H tmps hs hr=> by
 have e1:=hr.ev hx;have hmap:cl.args.map (evT tmps)=az.toArray:=by
  apply Array.ext'
  simpa using hr.evs has
 have hex:execOp (evT tmps) o=(resolve (evT tmps) cl o.type).bind fun d=> invoke d.target d.args:=by unfold execOp;rw[hop];rfl
 unfold OpRun;rw[hex];have:((resolve (evT tmps) cl o.type).bind fun d=> invoke d.target d.args)=(Deferred.ofValue fv az.toArray).bind fun d=> invoke d.target d.args:=by
  unfold resolve;rw[hcl];simp only[e1,hmap]
 rw[this];refine vwp_mono _ (fun nx H' hn=> ?_) (hc H hs);have fin:∀v H'',Q H v H''->∃R' L',RegOk n R' (putT tmps o.dst v)/\SymSt H₀ L' H''/\K R' L':=by
  intro v H'' hq;obtain⟨L',R',h1,h2,h3⟩:=hk H v H'' hs hq;refine⟨R',L',?_,h1,h3⟩;cases hdst:o.dst with
  | none=>
   rw[hdst] at h2;subst h2;exact hr
  | some d=>
   rw[hdst] at h2;obtain⟨h4,rfl⟩:=h2;exact hr.put h4 _
 cases nx <;> first
  | exact hn.elim
  | exact CallT.mono hn fin
  | exact GoT.mono hn fin
end
inductive TyD where
 | int (k:IntKind)
 | bool
 | str
 | struct (fs:List (TypeId×Nat×Nat))
 | arr (n:Nat) (e:TypeId)
 | slice (e:TypeId)
 | map (k e:TypeId)
 | other
def tyDs(P:Program)(t:TypeId):TyD:=
 match P.underlying t with
 | some (.int k)=> .int k
 | some .bool=> .bool
 | some .string=> .str
 | some (.struct fs)=> if fs.toList.all (fun f=> f.name != "_"&&(P.info? f.type).isSome) && !P.stoodInHeld t then .struct (fs.toList.map fun f=> (f.type,f.offset,((P.info? f.type).map (·.size)).getD 0)) else .other
 | some (.array n e)=> .arr n e
 | some (.slice e)=> .slice e
 | some (.map k e)=> .map k e
 | _=> .other
structure TyRow where
 agg:Bool
 size:Nat
 bytes:Nat
 zero:Value
 offs:List Nat
 elem:Option (Option Nat×TypeId)
 ds:TyD
def tyAgg(P:Program)(t:TypeId):Option Bool:=
 match P.underlying t with
 | some (.struct _)|some (.array _ _)=> some true
 | some _=> some false
 | none=> none
def tyOffs(P:Program)(t:TypeId):List Nat:=
 match P.underlying t with
 | some (.struct fs)=> if fs.toList.all (fun f=> ((P.info? f.type).map (·.size)).getD 0 !=0) then fs.toList.map (·.offset) else []
 | _=> []
def tyElem(P:Program)(t:TypeId):Option (Option Nat×TypeId):=
 match P.underlying t with
 | some (.array n e)=> some (some n,e)
 | some (.slice e)=> some (none,e)
 | _=> none
structure RowOk(P:Program)(t:TypeId)(r:TyRow):Prop where
 agg:tyAgg P t=some r.agg
 size:(P.info? t).map (·.size)=some r.size
 bytes:(P.info? t).map (·.bytes)=some r.bytes
 zero:(P.info? t).bind (·.zero)=some r.zero
 offs:tyOffs P t=r.offs
 elem:tyElem P t=r.elem
 ds:tyDs P t=r.ds
structure Env(P:Program) where
 ty:Nat->Option TyRow
 ok:∀t r,ty t=some r->RowOk P t r
def lkTy:List (Nat×TyRow)->Nat->Option TyRow
 | [],_=> none
 | (e,v)::R,d=> match Nat.beq e d with
  | true=> some v
  | false=> lkTy R d
def AllOk(P:Program):List (Nat×TyRow)->Prop
 | []=> True
 | x::l=> RowOk P x.1 x.2/\AllOk P l
theorem AllOk.at {P:Program}:∀ {l:List (Nat×TyRow)},AllOk P l->∀t r,lkTy l t=some r->RowOk P t r
 | [],_,_,_,h=> by simp[lkTy] at h
 | (e,v)::l,⟨h1,h2⟩,t,r,h=> by
  unfold lkTy at h;split at h
  ·rename_i heq
   have:e=t:=Nat.eq_of_beq_eq_true heq;subst this;cases h
   exact h1
  ·exact AllOk.at h2 t r h
def Env.of {P:Program}(l:List (Nat×TyRow))(h:AllOk P l):Env P:=⟨lkTy l,h.at⟩
section
variable {P:Program}{H:View}
theorem vwp_underlying {t:TypeId}{d:TypeDesc}{Q:TypeDesc->View->Prop}(hd:P.underlying t=some d)(h:Q d H):vwp P (underlying t) H Q:=by
 show vwp P (match P.underlying t with|some d=> _|none=> _) H Q;rw[hd];exact h
theorem vwp_typeInfo {t:TypeId}{i:TypeInfo}{Q:TypeInfo->View->Prop}(hi:P.info? t=some i)(h:Q i H):vwp P (typeInfo t) H Q:=by
 show vwp P (match P.info? t with|some i=> _|none=> _) H Q;rw[hi];exact h
theorem vwp_isAgg {t:TypeId}{g:Bool}{Q:Bool->View->Prop}(hg:tyAgg P t=some g)(h:Q g H):vwp P (isAgg t) H Q:=by
 unfold tyAgg at hg;cases hd:P.underlying t with
 | none=> rw[hd] at hg;cases hg
 | some d=>
  refine vwp_bind (underlying t) _ (vwp_underlying hd ?_);rw[hd] at hg;cases d <;> simp at hg <;> subst hg <;> exact h
theorem vwp_sizeOf {t:TypeId}{n:Nat}{Q:Nat->View->Prop}(hn:(P.info? t).map (·.size)=some n)(h:Q n H):vwp P (sizeOf t) H Q:=by
 cases hi:P.info? t with
 | none=> rw[hi] at hn;cases hn
 | some i=>
  rw[hi] at hn;cases hn
  exact vwp_bind (typeInfo t) _ (vwp_typeInfo hi h)
theorem vwp_zeroValue {t:TypeId}{z:Value}{Q:Value->View->Prop}(hz:(P.info? t).bind (·.zero)=some z)(h:Q z H):vwp P (zeroValue t) H Q:=by
 cases hi:P.info? t with
 | none=> rw[hi] at hz;cases hz
 | some i=>
  rw[hi] at hz;refine vwp_bind (typeInfo t) _ (vwp_typeInfo hi ?_);simp only[Option.bind_some] at hz;rw[hz];exact h
theorem add_off(a:Addr)(i:Nat)(h:a.spot=none):a.add i=⟨a.block,a.off+i,none⟩:=by
 unfold Addr.add;split
 ·rename_i e;subst e;cases a;simp_all
 ·rfl
theorem vwp_loadCells {f:Bool}{e:TypeId}{fz:Nat×Nat}{l:List Value}(blk off:Nat)(hb:H blk=some (f,.cells ⟨l⟩ e fz)):
  ∀(n i:Nat) (acc:Array Value) {Q:Array Value->View->Prop},off+i+n<=l.length->Q (acc++((l.drop (off+i)).take n).toArray) H->vwp P (loadCellsFrom ⟨blk,off,none⟩ i n acc) H Q
 | 0,i,acc,Q,_,h=> by
  show Q acc H;simpa using h
 | n + 1,i,acc,Q,hl,h=> by
  unfold loadCellsFrom;refine vwp_bind (load _) _ ?_;rw[add_off _ _ rfl];have hlt:off+i<l.length:=by omega
  refine⟨rfl,rfl,f,⟨l⟩,e,fz,l[off+i],hb,by simp[hlt],?_⟩;refine vwp_loadCells blk off hb n (i+1) _ oM ?_;have e1:(l.drop (off+i)).take (n+1)=l[off+i]::(l.drop (off+(i+1))).take n:=by
   rw[List.drop_eq_getElem_cons hlt,List.take_succ_cons]
   congr 2
  rw[e1] at h;have e2:acc.push l[off+i]++((l.drop (off+(i+1))).take n).toArray=acc++(l[off+i]::(l.drop (off+(i+1))).take n).toArray:=by
   apply Array.ext'
   simp
  rw[e2];exact h
def ldL(agg:Bool)(n:Nat)(l:List Value)(off:Nat):Option Value:=
 match agg with
 | true=> match Nat.ble (off+n) l.length with
  | true=> some (.agg ⟨(l.drop off).take n⟩)
  | false=> none
 | false=> l[off]?
theorem vwp_loadVar {t:TypeId}{g:Bool}{n:Nat}{f:Bool}{e:TypeId}{fz:Nat×Nat}{l:List Value}{blk off:Nat}{v:Value}{Q:Value->View->Prop}(hg:tyAgg P t=some g)(hn:(P.info? t).map (·.size)=some n)
  (hb:H blk=some (f,.cells ⟨l⟩ e fz)) (hv:ldL g n l off=some v) (h:Q v H):vwp P (loadVar t ⟨blk,off,none⟩) H Q:=by
 refine vwp_bind (isAgg t) _ (vwp_isAgg hg ?_);cases g with
 | true=>
  unfold ldL at hv;simp only at hv;split at hv
  ·rename_i hle
   have hle':off+n<=l.length:=Nat.le_of_ble_eq_true hle;cases hv
   show vwp P ((sizeOf t).bind fun s=> (loadCells ⟨blk,off,none⟩ s).bind fun c=> .pure (.agg c)) H Q;refine vwp_bind (sizeOf t) _ (vwp_sizeOf hn (vwp_bind (loadCells _ _) _ ?_));refine vwp_loadCells blk off hb n 0 #[] (by simpa using hle') ?_;show Q (.agg (#[]++((l.drop (off+0)).take n).toArray)) H;simpa using h
  ·cases hv
 | false=>
  unfold ldL at hv;simp only at hv;exact⟨rfl,rfl,f,⟨l⟩,e,fz,v,hb,by simpa using hv,h⟩
def single:Value->Bool
 | .agg _ | .tuple _=> false
 | _=> true
def stL(l:List Value)(off:Nat)(vs:List Value):List Value:=l.take off++vs++l.drop (off+vs.length)
theorem stL_nil(l:List Value)(off:Nat):stL l off []=l:=by simp[stL]
theorem stL_cons(l:List Value)(off:Nat)(v:Value)(vs:List Value)(h:off<l.length):stL (l.set off v) (off+1) vs=stL l off (v::vs):=by
 unfold stL;have e1:(l.set off v).take (off+1)=l.take off++[v]:=by
  rw[List.take_succ_eq_append_getElem (by simpa using h)];simp[List.take_set_of_le]
 have e2:(l.set off v).drop (off+1+vs.length)=l.drop (off+(vs.length+1)):=by
  rw[List.drop_set_of_lt oM]
  congr 1
  omega
 rw[e1,e2];simp
theorem vwp_storeCells {e:TypeId}(blk off:Nat):∀(vs:List Value) (i:Nat) (l:List Value) {H:View} {Q:Unit->View->Prop},H blk=some (true,.cells ⟨l⟩ e (0,0))->off+i+vs.length<=l.length->vs.all single=true-> 
  (∀H',H'=(if vs= [] then H else H.put blk (true,.cells ⟨stL l (off+i) vs⟩ e (0,0)))->Q () H')->vwp P (storeCells ⟨blk,off,none⟩ vs i) H Q
 | [],i,l,H,Q,hb,_,_,h=> h H (by simp)
 | v ::vs,i,l,H,Q,hb,hl,hs,h=> by
  unfold storeCells;refine vwp_bind (store _ _) _ ?_;rw[add_off _ _ rfl];simp only[List.all_cons,Bool.and_eq_true] at hs;simp only[List.length_cons] at hl;refine⟨rfl,rfl,fun cs hc=> ?_,fun cs hc=> ?_,⟨l⟩,e,(0,0),hb,?_,?_,?_⟩
  ·rw[hc] at hs;simp[single] at hs
  ·rw[hc] at hs;simp[single] at hs
  ·show off+i<l.length;omega
  ·simp
  ·have hset:(⟨l⟩:Array Value).setIfInBounds (off+i) v=⟨l.set (off+i) v⟩:=by
    apply Array.ext'
    simp
   simp only[hset];refine vwp_storeCells blk off vs (i+1) (l.set (off+i) v) (View.put_same ..) (by simp;omega) hs.2 fun H' hH'=> h H' ?_;rw[hH'];have he:off+(i+1)=off+i+1:=by omega
   rw[he,stL_cons l (off+i) v vs oM]
   funext c
   by_cases hv:vs= []
   ·subst hv;simp only[if_true];rw[if_neg (by simp)];simp only[View.put];split
    ·congr 5
     have:=stL_cons l (off+i) v [] oM;rw[stL_nil] at this;exact this
    ·rfl
   ·rw[if_neg hv,if_neg (by simp)];simp only[View.put];split <;> rfl
theorem vwp_storeVar {t:TypeId}{n:Nat}{e:TypeId}{l:List Value}{blk off:Nat}{v:Value}{Q:Unit->View->Prop}(hn:(P.info? t).map (·.size)=some n)(hv:v.cells.size=n)(h0:n≠0)
  (hb:H blk=some (true,.cells ⟨l⟩ e (0,0))) (hl:off+n<=l.length) (hs:v.cells.toList.all single=true) (h:Q () (H.put blk (true,.cells ⟨stL l off v.cells.toList⟩ e (0,0)))):vwp P (storeVar t ⟨blk,off,none⟩ v) H Q:=by
 refine vwp_bind (sizeOf t) _ (vwp_sizeOf hn ?_);rw[if_neg (by simp[hv])];show vwp P (storeCells ⟨blk,off,none⟩ v.cells.toList) H Q;refine vwp_storeCells blk off v.cells.toList 0 l hb (by simpa [hv] using hl) hs fun H' hH'=> ?_;have hne:v.cells.toList≠ []:=by
  intro he;have:v.cells.size=0:=by rw[<-Array.length_toList,he];rfl
  omega
 rw[if_neg hne] at hH';rw[hH'];simpa using h
end
section
variable {P:Program}{E:Env P}{M:Md P}{n:Nat}{H₀:View}{R:Rg}{L L':Bl}{K:Rg->Bl->Prop}{o:Oper}{d:Nat}{v:Value}
def OpV(P:Program)(n:Nat)(H₀:View)(R:Rg)(L:Bl)(o:Oper)(v:Value):Prop:=
 ∀H tmps,SymSt H₀ L H->RegOk n R tmps->vwp P (execOp (evT tmps) o) H fun nx H'=> nx=.value v/\H'=H
theorem Or.ofV(h:OpV P n H₀ R L o v)(hd:o.dst=some d)(hn:d<n)(hk:K ((d,v)::R) L):Or M n H₀ R L o K:=
 .val hd hn fun H tmps hs hr=> vwp_mono _ (fun _ _ ⟨h1,h2⟩=> ⟨v,h1,L,h2▸hs,hk⟩) (h H tmps hs hr)
theorem OpV.move {x:Operand}(hop:o.op=.move x)(hx:evR R x=some v):OpV P n H₀ R L o (v):=
 (fun H tmps _ hr=> by unfold execOp;rw[hop];exact⟨by rw[hr.ev hx],rfl⟩)
theorem OpV.assign {x:Operand}(hop:o.op=.assign x)(hx:evR R x=some v):OpV P n H₀ R L o (v):=
 (fun H tmps _ hr=> by unfold execOp;rw[hop];exact⟨by rw[hr.ev hx],rfl⟩)
theorem OpV.pick {c x y:Operand}{t:Bool}(hop:o.op=.pick c x y)(hc:evR R c=some (.bool t))(hx:(match t with|true=> evR R x|false=> evR R y)=some v):OpV P n H₀ R L o (v):=
 (fun H tmps _ hr=> by
  unfold execOp;rw[hop];simp only[hr.ev hc,asBool];cases t with
  | true=> exact⟨by rw[<-hr.ev hx];rfl,rfl⟩
  | false=> exact⟨by rw[<-hr.ev hx];rfl,rfl⟩)
theorem OpV.extract {x:Operand}{i:Nat}{vs:Array Value}(hop:o.op=.extract x i)(hx:evR R x=some (.tuple vs))(hv:vs[i]? =some v):OpV P n H₀ R L o (v):=
 (fun H tmps _ hr=> by
  unfold execOp;rw[hop];simp only[hr.ev hx,Instr.extract,hv];exact⟨rfl,rfl⟩)
theorem OpV.nilCheck {x:Operand}{a:Addr}(hop:o.op=.nilCheck x)(hx:evR R x=some (.pointer (some a))):OpV P n H₀ R L o (.pointer (some a)):=
 (fun H tmps _ hr=> by
  unfold execOp;rw[hop];simp only[hr.ev hx];exact⟨rfl,rfl⟩)
theorem OpV.makeFunc {fn:Fn}{fs cp:Array Operand}{vf vc:List Value}(hop:o.op=.makeFunc fn fs cp)(h1:evRs R fs.toList=some vf)(h2:evRs R cp.toList=some vc):OpV P n H₀ R L o (.func fn vf.toArray vc.toArray):=
 (fun H tmps _ hr=> by
  have e1:fs.map (evT tmps)=vf.toArray:=by apply Array.ext';simpa using hr.evs h1
  have e2:cp.map (evT tmps)=vc.toArray:=by apply Array.ext';simpa using hr.evs h2
  unfold execOp;rw[hop];simp only[e1,e2];exact⟨rfl,rfl⟩)
theorem Or.newBlock {e:TypeId}{c:List Value}(hd:o.dst=some d)(hn:d<n) 
  (h:∀H tmps,SymSt H₀ L H->RegOk n R tmps->∀Q:Next->View->Prop,(∀blk,H blk=none->Q (.value (.pointer (some ⟨blk,0,none⟩))) (H.put blk (true,.cells ⟨c⟩ e (0,0))))->vwp P (execOp (evT tmps) o) H Q)
  (hk:∀blk,K ((d,.pointer (some ⟨blk,0,none⟩))::R) ((blk,true,.cells ⟨c⟩ e (0,0))::L)):Or M n H₀ R L o K:=
 .val hd hn fun H tmps hs hr=> h H tmps hs hr _ fun blk hb=> ⟨_,rfl,_,hs.cons _ hb,hk blk⟩
theorem Or.box {e:TypeId}{x:Operand}(hop:o.op=.box e x)(hd:o.dst=some d)(hn:d<n)(hx:evR R x=some v)
  (hk:∀blk,K ((d,.pointer (some ⟨blk,0,none⟩))::R) ((blk,true,.cells ⟨v.cells.toList⟩ e (0,0))::L)):Or M n H₀ R L o K:=
 .newBlock hd hn (fun H tmps _ hr Q hQ=> by
  unfold execOp;rw[hop];simp only[hr.ev hx];exact fun blk hb=> hQ blk hb) hk
theorem Or.alloc {e:TypeId}{r:TyRow}(hop:o.op=.alloc e)(ht:E.ty e=some r)(hd:o.dst=some d)(hn:d<n)
  (hk:∀blk,K ((d,.pointer (some ⟨blk,0,none⟩))::R) ((blk,true,.cells ⟨r.zero.cells.toList⟩ e (0,0))::L)):Or M n H₀ R L o K:=
 .newBlock hd hn (fun H tmps _ hr Q hQ=> by
  unfold execOp;rw[hop];show vwp P (((zeroValue e).bind fun z=> _).bind _) H Q;refine vwp_bind _ _ (vwp_bind (zeroValue e) _ (vwp_zeroValue (E.ok _ _ ht).zero ?_));exact fun blk hb=> hQ blk hb) hk
theorem OpV.load(i:Nat){t:TypeId}{x:Operand}{r:TyRow}{blk off:Nat}{f:Bool}{c:List Value}{e:TypeId}{fz:Nat×Nat}(hop:o.op=.load t x)(hx:evR R x=some (.pointer (some ⟨blk,off,none⟩)))(hi:L[i]? =some (blk,f,.cells ⟨c⟩ e fz))
  (ht:E.ty t=some r) (hv:ldL r.agg r.size c off=some v):OpV P n H₀ R L o (v):=
 (fun H tmps hs hr=> by
  unfold execOp;rw[hop];simp only[hr.ev hx];show vwp P ((loadVar t _).bind _) H _;exact vwp_bind _ _ (vwp_loadVar (E.ok _ _ ht).agg (E.ok _ _ ht).size (hs.get hi) hv ⟨rfl,rfl⟩))
theorem OpV.load₀ {t:TypeId}{x:Operand}{r:TyRow}{blk off:Nat}{f:Bool}{c:List Value}{e:TypeId}{fz:Nat×Nat}(hop:o.op=.load t x)(hx:evR R x=some (.pointer (some ⟨blk,off,none⟩)))(hi:H₀ blk=some (f,.cells ⟨c⟩ e fz))
  (ht:E.ty t=some r) (hv:ldL r.agg r.size c off=some v):OpV P n H₀ R L o (v):=
 (fun H tmps hs hr=> by
  unfold execOp;rw[hop];simp only[hr.ev hx];show vwp P ((loadVar t _).bind _) H _;exact vwp_bind _ _ (vwp_loadVar (E.ok _ _ ht).agg (E.ok _ _ ht).size (hs.base _ _ hi) hv ⟨rfl,rfl⟩))
theorem Or.store(i:Nat){t:TypeId}{x y:Operand}{r:TyRow}{blk off:Nat}{c:List Value}{e:TypeId}(hop:o.op=.store t x y)(hx:evR R x=some (.pointer (some ⟨blk,off,none⟩)))(hy:evR R y=some v)
  (hi:L[i]? =some (blk,true,.cells ⟨c⟩ e (0,0))) (ht:E.ty t=some r) (hz:Nat.beq v.cells.toList.length r.size=true) (h0:Nat.beq r.size 0=false) (hl:Nat.ble (off+r.size) c.length=true) (hs:v.cells.toList.all single=true)
  (hd:o.dst=none)
  (hk:K R (L.set i (blk,true,.cells ⟨stL c off v.cells.toList⟩ e (0,0)))):Or M n H₀ R L o K:=
 .non hd fun H tmps hst hr=> by
  unfold execOp;rw[hop];simp only[hr.ev hx,hr.ev hy];show vwp P ((storeVar t _ v).bind _) H _;refine vwp_bind _ _ (vwp_storeVar (E.ok _ _ ht).size ?_ ?_ (hst.get hi) (Nat.le_of_ble_eq_true hl) hs ?_)
  ·rw[<-Array.length_toList];exact Nat.eq_of_beq_eq_true hz
  ·intro h;rw[h] at h0;cases h0
  ·exact⟨rfl,_,hst.set hi _,hk⟩
theorem Or.storeT(i:Nat){t:TypeId}{x y:Operand}{r:TyRow}{blk off:Nat}{c c':List Value}{e:TypeId}(hop:o.op=.store t x y)(hx:evR R x=some (.pointer (some ⟨blk,off,none⟩)))(hy:evR R y=some v)
 (hi:L[i]? =some (blk,true,.cells ⟨c⟩ e (0,0))) (ht:E.ty t=some r) (hz:Nat.beq v.cells.toList.length r.size=true) (h0:Nat.beq r.size 0=false) (hl:Nat.ble (off+r.size) c.length=true) (hs:v.cells.toList.all single=true)
 (hd:o.dst=none) (hc:stL c off v.cells.toList=c')
 (hk:K R (L.set i (blk,true,.cells ⟨c'⟩ e (0,0)))):Or M n H₀ R L o K:=.store i hop hx hy hi ht hz h0 hl hs hd (by rw[hc];exact hk)
theorem vwp_fieldAt {s:TypeId}{fi off o':Nat}{blk:Nat}{r:TyRow}{Q:Value->View->Prop}{H:View}(ht:E.ty s=some r)(ho:r.offs[fi]? =some o')(h:Q (.pointer (some ⟨blk,off+o',none⟩)) H):
  vwp P (Instr.fieldAt s (.pointer (some ⟨blk,off,none⟩)) fi) H Q:=by
 have hoff:=(E.ok _ _ ht).offs;unfold tyOffs at hoff;split at hoff
 ·rename_i fs hu
  refine vwp_bind (underlying s) _ (vwp_underlying hu ?_);split at hoff
  ·rename_i hall
   rw[<-hoff] at ho;simp only[List.getElem?_map,Option.map_eq_some_iff] at ho;obtain⟨fl,h1,h2⟩:=ho;simp only[Array.getElem?_toList] at h1;have hsz:=List.all_eq_true.1 hall fl (Array.mem_toList_iff.2 (Array.mem_of_getElem? h1));simp only[h1];show vwp P ((fieldPlace ⟨blk,off,none⟩ fl).bind _) H Q;refine vwp_bind _ _ ?_;cases hi:P.info? fl.type with
   | none=> rw[hi] at hsz;simp at hsz
   | some i=>
    rw[hi] at hsz;refine vwp_bind (sizeOf fl.type) _ (vwp_sizeOf (n:=i.size) (by rw[hi];rfl) ?_);have:i.size≠0:=by simpa using hsz
    rw[if_neg this];show Q (.pointer (some (Addr.add ⟨blk,off,none⟩ fl.offset))) H;rw[add_off _ _ rfl,h2];exact h
  ·rw[<-hoff] at ho;simp at ho
 ·rw[<-hoff] at ho;simp at ho
theorem OpV.fieldAddr {s:TypeId}{x:Operand}{fi o':Nat}{r:TyRow}{blk off:Nat}(hop:o.op=.fieldAddr s x fi)(hx:evR R x=some (.pointer (some ⟨blk,off,none⟩)))(ht:E.ty s=some r)(ho:r.offs[fi]? =some o'):OpV P n H₀ R L o (.pointer (some ⟨blk,off+o',none⟩)):=
 (fun H tmps hs hr=> by
  unfold execOp;rw[hop];simp only[hr.ev hx];exact vwp_bind _ _ (vwp_fieldAt ht ho ⟨rfl,rfl⟩))
theorem vwp_indexAt_slice {t et:TypeId}{j:Int}{ik:IntKind}{len cap:Nat}{off blk sz:Nat}{r:TyRow}{re:TyRow}{Q:Value->View->Prop}{H:View}(ht:E.ty t=some r)(he:r.elem=some (none,et))(hre:E.ty et=some re)(hsz:re.size=sz)(h0:0<=j)(h1:j<len)
  (h:Q (.pointer (some ⟨blk,off+j.toNat*sz,none⟩)) H):vwp P (Instr.indexAt t (.slice (some ⟨blk,off,none⟩) len cap) (.int ik j)) H Q:=by
 have hel:=(E.ok _ _ ht).elem;unfold tyElem at hel;split at hel
 ·rw[he] at hel;cases hel
 ·rename_i e hu
  rw[he] at hel;cases hel
  refine vwp_bind (underlying t) _ (vwp_underlying hu ?_);show vwp P ((underlying t).bind fun d=> _) H Q;refine vwp_bind (underlying t) _ (vwp_underlying hu ?_);simp only[];rw[if_pos ⟨h0,h1⟩];refine vwp_bind (sizeOf et) _ (vwp_sizeOf (E.ok _ _ hre).size ?_);show Q (.pointer (some (Addr.add ⟨blk,off,none⟩ (j.toNat*re.size)))) H;rw[add_off _ _ rfl,hsz];exact h
 ·rw[he] at hel;cases hel
end
def bitI(op:BinOp)(k:IntKind)(x y:Int):Int:=
 let a:=BitVec.ofInt k.bits x
 let b:=BitVec.ofInt k.bits y
 match op with
 | .and=> k.wrap ((a &&& b).toNat:Int)
 | .or=> k.wrap ((a ||| b).toNat:Int)
 | .xor=> k.wrap ((a ^^^ b).toNat:Int)
 | _=> k.wrap ((a &&& ~~~b).toNat:Int)
def intBin(op:BinOp)(k:IntKind)(a b:Int):Option Value:=
 match op with
 | .add=> some (.int k (k.wrap (a+b)))
 | .sub=> some (.int k (k.wrap (a-b)))
 | .mul=> some (.int k (k.wrap (a*b)))
 | .quo=> if b=0 then none else some (.int k (k.wrap (a.tdiv b)))
 | .rem=> if b=0 then none else some (.int k (a.tmod b))
 | .and=> some (.int k (bitI .and k a b))
 | .or=> some (.int k (bitI .or k a b))
 | .xor=> some (.int k (bitI .xor k a b))
 | .andNot=> some (.int k (bitI .andNot k a b))
 | .eql=> some (.bool (a==b))
 | .neq=> some (.bool (a !=b))
 | .lss=> some (.bool (decide (a<b)))
 | .leq=> some (.bool (decide (a<=b)))
 | .gtr=> some (.bool (decide (a>b)))
 | .geq=> some (.bool (decide (a≥b)))
 | _=> none
theorem wrap64 {a:Int}(h1: -9223372036854775808<=a)(h2:a<9223372036854775808):IntKind.i64.wrap a=a:=IntWalk.i64_in a ⟨h1,oM⟩
section
variable {k:IntKind}{a b:Int}
theorem add_in(h1: -9223372036854775808<=a+b)(h2:a+b<9223372036854775808):intBin .add .i64 a b=some (.int .i64 (a+b)):=by simp only[intBin,wrap64 h1 h2]
theorem sub_in(h1: -9223372036854775808<=a-b)(h2:a-b<9223372036854775808):intBin .sub .i64 a b=some (.int .i64 (a-b)):=by simp only[intBin,wrap64 h1 h2]
theorem mul_in(h1: -9223372036854775808<=a*b)(h2:a*b<9223372036854775808):intBin .mul .i64 a b=some (.int .i64 (a*b)):=by simp only[intBin,wrap64 h1 h2]
theorem rem_in(h1:0<=a)(h2:0<b):intBin .rem k a b=some (.int k (a%b)):=by
 simp only[intBin,if_neg (show b≠0 by omega),Int.tmod_eq_emod_of_nonneg h1]
theorem quo_in(h1:0<=a)(h2:0<b)(h3:a<9223372036854775808):intBin .quo .i64 a b=some (.int .i64 (a/b)):=by
 have h4:0<=a/b:=Int.ediv_nonneg h1 oM;have h5:a/b<=a:=Int.ediv_le_self _ h1;simp only[intBin,if_neg (show b≠0 by omega),Int.tdiv_eq_ediv_of_nonneg h1,wrap64 (show -9223372036854775808<=a/b by omega) (show a/b<9223372036854775808 by omega)]
theorem lss_t(h:a<b):intBin .lss k a b=some (.bool true):=by simp[intBin,h]
theorem lss_f(h:b<=a):intBin .lss k a b=some (.bool false):=by simp[intBin];omega
theorem leq_t(h:a<=b):intBin .leq k a b=some (.bool true):=by simp[intBin,h]
theorem leq_f(h:b<a):intBin .leq k a b=some (.bool false):=by simp[intBin];omega
theorem gtr_t(h:b<a):intBin .gtr k a b=some (.bool true):=by simp[intBin,h]
theorem gtr_f(h:a<=b):intBin .gtr k a b=some (.bool false):=by simp[intBin];omega
theorem geq_t(h:b<=a):intBin .geq k a b=some (.bool true):=by simp[intBin,h]
theorem geq_f(h:a<b):intBin .geq k a b=some (.bool false):=by simp[intBin];omega
theorem eql_t(h:a=b):intBin .eql k a b=some (.bool true):=by simp[intBin,h]
theorem eql_f(h:a≠b):intBin .eql k a b=some (.bool false):=by simp[intBin,h]
theorem neq_t(h:a≠b):intBin .neq k a b=some (.bool true):=by simp[intBin,h]
theorem neq_f(h:a=b):intBin .neq k a b=some (.bool false):=by simp[intBin,h]
end
theorem vwp_eqGuard_int {P:Program}{op:BinOp}{t:TypeId}{x y:Operand}{k k':IntKind}{a b:Int}{H:View}{Q:Unit->View->Prop}(h:Q () H):vwp P (eqGuard op t x y (.int k a) (.int k' b)) H Q:=by
 unfold eqGuard;cases op <;> exact h
theorem vwp_intBin {P:Program}{op:BinOp}{t:TypeId}{k:IntKind}{a b:Int}{v:Value}{H:View}{Q:Value->View->Prop}(hv:intBin op k a b=some v)(h:Q v H):vwp P (binOp op t (.int k a) (.int k b)) H Q:=by
 unfold binOp;unfold intBin at hv;cases op <;> simp only[reduceCtorEq,Option.some.injEq] at hv
 case quo=>
  split at hv
  ·cases hv
  ·rename_i hb
   cases hv
   simp only[ne_eq,not_true_eq_false,if_false,Op.intDiv,if_neg hb];exact h
 case rem=>
  split at hv
  ·cases hv
  ·rename_i hb
   cases hv
   simp only[ne_eq,not_true_eq_false,if_false,Op.intDiv,if_neg hb];exact h
 all_goals (subst hv;simp only[ne_eq,not_true_eq_false,if_false,Op.intArith,Op.intCmp,Op.intBits];exact h)
section
variable {P:Program}{E:Env P}{M:Md P}{n:Nat}{H₀:View}{R:Rg}{L L':Bl}{K:Rg->Bl->Prop}{o:Oper}{d:Nat}{v:Value}
theorem OpV.int {op:BinOp}{t u:TypeId}{x y:Operand}{ik:IntKind}{p q:Int}(hop:o.op=.binOp op t x y u)(hx:evR R x=some (.int ik p))(hy:evR R y=some (.int ik q))
  (hv:intBin op ik p q=some v):OpV P n H₀ R L o (v):=
 (fun H tmps _ hr=> by
  unfold execOp;rw[hop];simp only[hr.ev hx,hr.ev hy];show vwp P (((eqGuard op t x y _ _).bind fun _=> binOp op t _ _).bind _) H _;exact vwp_bind _ _ (vwp_bind _ _ (vwp_eqGuard_int (vwp_intBin hv ⟨rfl,rfl⟩))))
def shiftV(op:BinOp)(k:IntKind)(x y:Int):Option Value:=
 match op with
 | .shl=> some (.int k (k.wrap (x*2 ^ (min y.toNat k.bits))))
 | .shr=> some (.int k (x.fdiv (2 ^ (min y.toNat k.bits))))
 | _=> none
theorem OpV.shift {op:BinOp}{t u:TypeId}{x y:Operand}{ik jk:IntKind}{p q:Int}(hop:o.op=.binOp op t x y u)(hx:evR R x=some (.int ik p))(hy:evR R y=some (.int jk q))
  (hq:0<=q) (hv:shiftV op ik p q=some v):OpV P n H₀ R L o (v):=
 (fun H tmps _ hr=> by
  unfold execOp;rw[hop];simp only[hr.ev hx,hr.ev hy];show vwp P (((eqGuard op t x y _ _).bind fun _=> binOp op t _ _).bind _) H _;refine vwp_bind _ _ (vwp_bind _ _ (vwp_eqGuard_int ?_));unfold shiftV at hv;cases op <;> simp only[reduceCtorEq,Option.some.injEq] at hv <;> subst hv
  all_goals
   simp only[binOp,Op.shift,if_neg (show ¬q<0 by omega)];exact⟨rfl,rfl⟩)
theorem OpV.not {t:TypeId}{x:Operand}{p:Bool}(hop:o.op=.unOp .not t x)(hx:evR R x=some (.bool p)):OpV P n H₀ R L o (.bool (!p)):=
 (fun H tmps _ hr=> by
  unfold execOp;rw[hop];simp only[hr.ev hx];exact⟨rfl,rfl⟩)
theorem OpV.neg {t:TypeId}{x:Operand}{p z:Int}(hop:o.op=.unOp .neg t x)(hx:evR R x=some (.int .i64 p))
  (h1: -9223372036854775808<= -p) (h2: -p<9223372036854775808) (hz: -p=z):OpV P n H₀ R L o (.int .i64 z):=
 (fun H tmps _ hr=> by
  subst hz;unfold execOp;rw[hop];simp only[hr.ev hx];have:IntKind.i64.wrap (0-p)= -p:=by rw[show(0:Int)-p= -p by omega,wrap64 h1 h2]
  show Next.value (.int .i64 (IntKind.i64.wrap (0-p)))=_/\_;rw[this];exact⟨rfl,rfl⟩)
theorem OpV.conv {t u:TypeId}{x:Operand}{ik jk:IntKind}{p z:Int}{de:TypeDesc}(hop:o.op=.convert t u x)(hx:evR R x=some (.int ik p))
  (hu0:P.underlying t=some de) (hu:P.underlying u=some (.int jk)) (hz:jk.wrap p=z):OpV P n H₀ R L o (.int jk z):=
 (fun H tmps _ hr=> by
  subst hz;unfold execOp;rw[hop];simp only[hr.ev hx];show vwp P (((underlying t).bind fun s=> (underlying u).bind fun e=> _).bind _) H _;refine vwp_bind _ _ (vwp_bind _ _ (vwp_underlying hu0 (vwp_bind _ _ (vwp_underlying hu ?_))));cases de <;> exact⟨rfl,rfl⟩)
theorem OpV.len {t:TypeId}{x:Operand}{a:Option Addr}{p q:Nat}{cl:Go.Call}{e:TypeId}{r:TyRow}(hop:o.op=.call cl)(hcl:cl.callee=.builtin .len)(hat:cl.argTypes=#[t])(har:cl.args=#[x])
  (hx:evR R x=some (.slice a p q)) (ht:E.ty t=some r) (he:r.elem=some (none,e)):OpV P n H₀ R L o (.int .i64 (p:Int)):=
 (fun H tmps _ hr=> by
  have hel:=(E.ok _ _ ht).elem;unfold tyElem at hel;split at hel
  ·rw[he] at hel;cases hel
  ·rename_i e' hu
   unfold execOp;rw[hop];simp only[resolve,hcl,hat,har];have hm:Array.map (evT tmps) #[x]=#[.slice a p q]:=by simp[hr.ev hx]
   rw[hm];refine vwp_bind (Builtin.len_ #[t] o.type #[.slice a p q]) _ (vwp_bind (underlying t) _ (vwp_underlying hu ?_));exact⟨rfl,rfl⟩
  ·rw[he] at hel;cases hel)
theorem OpV.indexAddr {t:TypeId}{x y:Operand}{r re:TyRow}{et:TypeId}{blk off sz len cap:Nat}{ik:IntKind}{j:Int}(hop:o.op=.indexAddr t x y)(hx:evR R x=some (.slice (some ⟨blk,off,none⟩) len cap))(hy:evR R y=some (.int ik j))
  (ht:E.ty t=some r) (he:r.elem=some (none,et)) (hre:E.ty et=some re) (hsz:re.size=sz) (h0:0<=j) (h1:j<len):OpV P n H₀ R L o (.pointer (some ⟨blk,off+j.toNat*sz,none⟩)):=
 (fun H tmps _ hr=> by
  unfold execOp;rw[hop];simp only[hr.ev hx,hr.ev hy];exact vwp_bind _ _ (vwp_indexAt_slice ht he hre hsz h0 h1 ⟨rfl,rfl⟩))
theorem OpV.indexAddrA {t:TypeId}{x y:Operand}{r re:TyRow}{et:TypeId}{blk off sz len:Nat}{ik:IntKind}{j:Int}(hop:o.op=.indexAddr t x y)(hx:evR R x=some (.pointer (some ⟨blk,off,none⟩)))(hy:evR R y=some (.int ik j))
  (ht:E.ty t=some r) (he:r.elem=some (some len,et)) (hre:E.ty et=some re) (hsz:re.size=sz) (h0:0<=j) (h1:j<len):OpV P n H₀ R L o (.pointer (some ⟨blk,off+j.toNat*sz,none⟩)):=
 (fun H tmps _ hr=> by
  unfold execOp;rw[hop];simp only[hr.ev hx,hr.ev hy];refine vwp_bind _ _ ?_;have hel:=(E.ok _ _ ht).elem;unfold tyElem at hel;split at hel
  ·rename_i n' e' hu
   rw[he] at hel;cases hel
   show vwp P ((underlying t).bind fun d=> _) H _;refine vwp_bind (underlying t) _ (vwp_underlying hu ?_);show vwp P ((underlying t).bind fun d=> _) H _;refine vwp_bind (underlying t) _ (vwp_underlying hu ?_);simp only[];rw[if_pos ⟨h0,h1⟩];refine vwp_bind (sizeOf et) _ (vwp_sizeOf (E.ok _ _ hre).size ?_);show Next.value (.pointer (some (Addr.add ⟨blk,off,none⟩ (j.toNat*re.size))))=_/\_;rw[add_off _ _ rfl,hsz];exact⟨rfl,rfl⟩
  ·rw[he] at hel;cases hel
  ·rw[he] at hel;cases hel)
theorem OpV.index {t:TypeId}{x y:Operand}{r re:TyRow}{et:TypeId}{len:Nat}{ik:IntKind}{j:Int}{c:List Value}(hop:o.op=.index t x y)(hx:evR R x=some (.agg ⟨c⟩))(hy:evR R y=some (.int ik j))
  (ht:E.ty t=some r) (he:r.elem=some (some len,et)) (hre:E.ty et=some re) (h0:0<=j) (h1:j<len) (hv:ldL re.agg re.size c (j.toNat*re.size)=some v):OpV P n H₀ R L o (v):=
 (fun H tmps _ hr=> by
  unfold execOp;rw[hop];simp only[hr.ev hx,hr.ev hy];refine vwp_bind _ _ ?_;have hel:=(E.ok _ _ ht).elem;unfold tyElem at hel;split at hel
  ·rename_i n' e' hu
   rw[he] at hel;cases hel
   show vwp P ((underlying t).bind fun d=> _) H _;refine vwp_bind (underlying t) _ (vwp_underlying hu ?_);simp only[];rw[if_pos ⟨h0,h1⟩];refine vwp_bind (sizeOf et) _ (vwp_sizeOf (E.ok _ _ hre).size ?_);unfold part;refine vwp_bind (isAgg et) _ (vwp_isAgg (E.ok _ _ hre).agg ?_);unfold ldL at hv;cases hg:re.agg with
   | true=>
    rw[hg] at hv;simp only at hv;split at hv
    ·rename_i hle
     have hle':=Nat.le_of_ble_eq_true hle;cases hv
     refine vwp_bind (sizeOf et) _ (vwp_sizeOf (E.ok _ _ hre).size ?_);show Next.value (.agg ((⟨c⟩:Array Value).extract (j.toNat*re.size) (j.toNat*re.size+re.size)))=_/\_;refine⟨?_,rfl⟩
     congr 2
     apply Array.ext'
     simp[List.extract_eq_take_drop]
    ·cases hv
   | false=>
    rw[hg] at hv;simp only at hv;have:(⟨c⟩:Array Value)[j.toNat*re.size]? =some v:=by simpa using hv
    simp only[this];exact⟨rfl,rfl⟩
  ·rw[he] at hel;cases hel
  ·rw[he] at hel;cases hel)
end
theorem fold_stL:∀(vs:List Value) (k:Nat) (c:List Value) (off:Nat),off+k+vs.length<=c.length-> 
  (vs.zipIdx k).foldl (fun(cs:Array Value) (x:Value×Nat)=> cs.setIfInBounds (off+x.2) x.1) (⟨c⟩:Array Value)=⟨stL c (off+k) vs⟩
 | [],k,c,off,_=> by simp[stL_nil]
 | v::vs,k,c,off,h=> by
  simp only[List.length_cons] at h;have e:(⟨c⟩:Array Value).setIfInBounds (off+k) v=⟨c.set (off+k) v⟩:=by apply Array.ext';simp
  simp only[List.zipIdx_cons,List.foldl_cons,e];rw[fold_stL vs (k+1) (c.set (off+k) v) off (by simp;omega)];rw[show off+(k+1)=off+k+1 by omega,stL_cons c (off+k) v vs oM]
def fillL(place:Nat->Option (Nat×Nat)):List Value->List (Nat×Value)->Option (List Value)
 | c,[]=> some c
 | c,(i,v)::rest=>
  match place i with
  | none=> none
  | some (off,size)=>
   match Nat.beq v.cells.toList.length size,Nat.ble (off+v.cells.toList.length) c.length with
   | true,true=> fillL place (stL c off v.cells.toList) rest
   | _,_=> none
theorem fill_of {place:Nat->Option (Nat×Nat)}:∀ {parts:List (Nat×Value)} {c r:List Value},fillL place c parts=some r->Instr.fill place ⟨c⟩ parts=some ⟨r⟩
 | [],c,r,h=> by simp only[fillL,Option.some.injEq] at h;simp[Instr.fill,h]
 | (i, v)::rest,c,r,h=> by
  unfold fillL at h;unfold Instr.fill;split at h
  ·cases h
  ·rename_i off size hp
   rw[hp];split at h
   ·rename_i h1 h2
    have h1':v.cells.size=size:=by rw[<-Array.length_toList];exact Nat.eq_of_beq_eq_true h1
    have h2':off+v.cells.size<=c.length:=by rw[<-Array.length_toList];exact Nat.le_of_ble_eq_true h2
    simp only[];rw[if_neg (by simp[h1'];omega)];have hz:v.cells.zipIdx.foldl (fun(cs:Array Value) (x:Value×Nat)=> cs.setIfInBounds (off+x.2) x.1) (⟨c⟩:Array Value)=⟨stL c off v.cells.toList⟩:=by
     have:=fold_stL v.cells.toList 0 c off (by simpa using h2');rw[<-Array.foldl_toList];simpa using this
    have hz':(v.cells.zipIdx.foldl (fun cs (c,j)=> cs.setIfInBounds (off+j) c) (⟨c⟩:Array Value))=⟨stL c off v.cells.toList⟩:=hz;rw[hz'];exact fill_of h
   ·cases h
section
variable {P:Program}{E:Env P}{M:Md P}{n:Nat}{H₀:View}{R:Rg}{L L':Bl}{K:Rg->Bl->Prop}{o:Oper}{d:Nat}{v:Value}
def evPs(R:Rg)(ps:List (Nat×Operand)):Option (List (Nat×Value)):=ps.mapM fun x=> (evR R x.2).map fun v=> (x.1,v)
theorem RegOk.evPs {tmps:Array Value}(h:RegOk n R tmps):∀ {xs:List (Nat×Operand)} {vs:List (Nat×Value)},evPs R xs=some vs->xs.map (fun x=> (x.1,evT tmps x.2))=vs:=by
 intro xs;induction xs with
 | nil=> intro vs e;simp[RL.evPs] at e;simp[e]
 | cons x xs ih=>
  intro vs e;simp only[RL.evPs,List.mapM_cons,Option.bind_eq_bind,Option.bind_eq_some_iff,Option.pure_def,Option.some.injEq,Option.map_eq_some_iff] at e;obtain⟨v,⟨w,h1,rfl⟩,us,h2,rfl⟩:=e;simp only[List.map_cons,h.ev h1,List.cons.injEq,true_and];exact ih h2
def buildL(E:Env P)(t:TypeId)(parts:List (Nat×Value)):Option (List Value):=
 match E.ty t with
 | none=> none
 | some r=>
  match r.ds with
  | .struct fs=> fillL (fun i=> (fs[i]?).map (·.2)) r.zero.cells.toList parts
  | .arr _ e=>
   match E.ty e with
   | some re=> fillL (fun i=> some (i*re.size,re.size)) r.zero.cells.toList parts
   | none=> none
  | _=> none
theorem ds_struct {t:TypeId}{fs:List (TypeId×Nat×Nat)}(h:tyDs P t=.struct fs):∃a:Array Field,P.underlying t=some (.struct a)/\(∀f∈a.toList,f.name≠ "_"/\(P.info? f.type).isSome=true)/\P.stoodInHeld t=false/\
  fs=a.toList.map fun f=> (f.type,f.offset,((P.info? f.type).map (·.size)).getD 0):=by
 unfold tyDs at h;split at h <;> try cases h
 rename_i a hu
 split at h
 ·rename_i hall
  simp only[Bool.and_eq_true,List.all_eq_true,bne_iff_ne,ne_eq,Bool.not_eq_true'] at hall;cases h
  exact⟨a,hu,hall.1,hall.2,rfl⟩
 ·cases h
theorem ds_arr {t:TypeId}{m:Nat}{e:TypeId}(h:tyDs P t=.arr m e):P.underlying t=some (.array m e):=by
 unfold tyDs at h;split at h <;> try cases h
 ·rename_i a hu;split at h <;> cases h
 ·assumption
theorem ds_slice {t:TypeId}{e:TypeId}(h:tyDs P t=.slice e):P.underlying t=some (.slice e):=by
 unfold tyDs at h;split at h <;> try cases h
 ·rename_i a hu;split at h <;> cases h
 ·assumption
theorem ds_map {t:TypeId}{k e:TypeId}(h:tyDs P t=.map k e):P.underlying t=some (.map k e):=by
 unfold tyDs at h;split at h <;> try cases h
 ·rename_i a hu;split at h <;> cases h
 ·assumption
theorem ds_int {t:TypeId}{k:IntKind}(h:tyDs P t=.int k):P.underlying t=some (.int k):=by
 unfold tyDs at h;split at h <;> try cases h
 ·assumption
 ·rename_i a hu;split at h <;> cases h
theorem vwp_sizes {H:View}:∀ {fs:List Field} {Q:List (Nat×Nat)->View->Prop},(∀f∈fs,(P.info? f.type).isSome=true)->Q (fs.map fun f=> (f.offset,((P.info? f.type).map (·.size)).getD 0)) H-> 
  vwp P (fs.mapM fun f=> (sizeOf f.type).bind fun s=> .pure (f.offset,s)) H Q
 | [],Q,_,h=> h
 | f::fs,Q,hall,h=> by
  rw[List.mapM_cons];obtain⟨i,hi⟩:=Option.isSome_iff_exists.1 (hall f (by simp));refine vwp_bind ((sizeOf f.type).bind fun s=> .pure (f.offset,s)) _ (vwp_bind _ _ (vwp_sizeOf (n:=i.size) (by rw[hi];rfl) ?_));show vwp P ((fs.mapM fun f=> (sizeOf f.type).bind fun s=> Sem.pure (f.offset,s)).bind fun us=> .pure ((f.offset,i.size)::us)) H Q;refine vwp_bind _ _ (vwp_sizes (fun g hg=> hall g (by simp[hg])) ?_);simp only[List.map_cons,hi,Option.map_some,Option.getD_some] at h;exact h
theorem vwp_build {t:TypeId}{parts:List (Nat×Value)}{l:List Value}{H:View}{Q:Value->View->Prop}(hv:buildL E t parts=some l)(h:Q (.agg ⟨l⟩) H):vwp P (Instr.build t parts.toArray) H Q:=by
 unfold buildL at hv;split at hv
 ·cases hv
 ·rename_i r ht
  refine vwp_bind (zeroValue t) _ (vwp_zeroValue (E.ok _ _ ht).zero ?_);split at hv
  ·rename_i fs hds
   obtain⟨a,hu,hall,_,rfl⟩:=ds_struct ((E.ok _ _ ht).ds.trans hds);refine vwp_bind (underlying t) _ (vwp_underlying hu ?_);have e1:∀k:Array (Nat×Nat)->Sem Value,((a.mapM fun f=> (sizeOf f.type).bind fun s=> Sem.pure (f.offset,s)).bind k)=(a.toList.mapM fun f=> (sizeOf f.type).bind fun s=> Sem.pure (f.offset,s)).bind fun us=> k us.toArray:=by
    intro k;have e0:a.mapM (fun f=> (sizeOf f.type).bind fun s=> Sem.pure (f.offset,s))=(a.toList.toArray).mapM (fun f=> (sizeOf f.type).bind fun s=> Sem.pure (f.offset,s)):=by simp
    rw[e0,List.mapM_toArray];show((a.toList.mapM fun f=> (sizeOf f.type).bind fun s=> Sem.pure (f.offset,s)) >>=fun us=> (Pure.pure us.toArray:Sem (Array (Nat×Nat)))) >>=k=_;rw[bind_assoc];rfl
   show vwp P ((a.mapM fun f=> (sizeOf f.type).bind fun s=> Sem.pure (f.offset,s)).bind _) H Q;rw[e1];refine vwp_bind _ _ (vwp_sizes (fun f hf=> (hall f hf).2) ?_);have hf:=fill_of hv;have hp:(fun i:Nat=> ((a.toList.map fun f=> (f.offset,((P.info? f.type).map (·.size)).getD 0)).toArray)[i]?)=fun i=> ((a.toList.map fun f=> (f.type,f.offset,((P.info? f.type).map (·.size)).getD 0))[i]?).map (·.2):=by
    funext i
    simp only[List.getElem?_toArray,List.getElem?_map,Option.map_map];rfl
   have hf':Instr.fill (fun i:Nat=> ((a.toList.map fun f=> (f.offset,((P.info? f.type).map (·.size)).getD 0)).toArray)[i]?) r.zero.cells parts=some ⟨l⟩:=by rw[hp];exact hf
   simp only[hf'];exact h
  ·rename_i m e hds
   refine vwp_bind (underlying t) _ (vwp_underlying (ds_arr ((E.ok _ _ ht).ds.trans hds)) ?_);split at hv
   ·rename_i re hre
    refine vwp_bind (sizeOf e) _ (vwp_sizeOf (E.ok _ _ hre).size ?_);have hf:=fill_of hv;have hf':Instr.fill (fun i:Nat=> some (i*re.size,re.size)) r.zero.cells parts=some ⟨l⟩:=hf;simp only[hf'];exact h
   ·cases hv
  ·cases hv
theorem OpV.build {t:TypeId}{ps:Array (Nat×Operand)}{parts:List (Nat×Value)}{l:List Value}(hop:o.op=.build t ps)(hps:evPs R ps.toList=some parts)(hv:buildL E t parts=some l):OpV P n H₀ R L o (.agg ⟨l⟩):=
 (fun H tmps _ hr=> by
  unfold execOp;rw[hop];have e:(ps.map fun x=> (x.1,evT tmps x.2))=parts.toArray:=by
   apply Array.ext'
   simpa using hr.evPs hps
  have e':(ps.map fun(i,x)=> (i,evT tmps x))=parts.toArray:=e;simp only[e'];exact vwp_bind _ _ (vwp_build hv ⟨rfl,rfl⟩))
theorem Or.newObj {ob:Obj}{val:Nat->Value}(hd:o.dst=some d)(hn:d<n)
  (h:∀H tmps,SymSt H₀ L H->RegOk n R tmps->∀Q:Next->View->Prop,(∀blk,H blk=none->Q (.value (val blk)) (H.put blk (true,ob)))->vwp P (execOp (evT tmps) o) H Q)
  (hk:∀blk,K ((d,val blk)::R) ((blk,true,ob)::L)):Or M n H₀ R L o K:=
 .val hd hn fun H tmps hs hr=> h H tmps hs hr _ fun blk hb=> ⟨_,rfl,_,hs.cons _ hb,hk blk⟩
def zeroRow(z:List Value)(m:Nat):List Value:=(List.range m).map fun i=> z[i%z.length]!
theorem zeroRow_len(z:List Value)(m:Nat):(zeroRow z m).length=m:=by simp[zeroRow]
theorem zeroRow_arr(z:Array Value)(m:Nat):(Array.range m).map (fun i=> z[i%z.size]!)=⟨zeroRow z.toList m⟩:=by
 apply Array.ext'
 simp only[zeroRow,Array.toList_map,Array.toList_range,Array.length_toList];refine List.map_congr_left fun i _=> ?_;rw[getElem!_def,getElem!_def];simp
theorem Or.buildSlice {t e:TypeId}{len:Nat}{ps:Array (Nat×Operand)}{parts:List (Nat×Value)}{r re:TyRow}{l:List Value}(hop:o.op=.buildSlice t len ps)(hps:evPs R ps.toList=some parts)(ht:E.ty t=some r)(hds:r.ds=.slice e)(hre:E.ty e=some re)
  (hsz:Nat.ble (len*re.size) 16777216=true) (hv:fillL (fun i=> some (i*re.size,re.size)) (zeroRow re.zero.cells.toList (len*re.size)) parts=some l)
  (hd:o.dst=some d) (hn:d<n) (hk:∀blk,K ((d,.slice (some ⟨blk,0,none⟩) len len)::R) ((blk,true,.cells ⟨l⟩ e (0,0))::L)):Or M n H₀ R L o K:=
 .newObj (val:=fun blk=> .slice (some ⟨blk,0,none⟩) len len) hd hn (fun H tmps _ hr Q hQ=> by
  unfold execOp;rw[hop];have e':(ps.map fun(i,x)=> (i,evT tmps x))=parts.toArray:=by
   apply Array.ext'
   simpa using hr.evPs hps
  simp only[e'];refine vwp_bind (Instr.buildSlice t len parts.toArray) _ ?_;refine vwp_bind (underlying t) _ (vwp_underlying (ds_slice ((E.ok _ _ ht).ds.trans hds)) ?_);refine vwp_bind (sizeOf e) _ (vwp_sizeOf (E.ok _ _ hre).size ?_);have hle:len*re.size<=16777216:=Nat.le_of_ble_eq_true hsz;rw[if_neg oM];have fin:∀z:Array Value,((Array.range (len*re.size)).map fun i=> z[i%z.size]!)=⟨zeroRow re.zero.cells.toList (len*re.size)⟩-> 
    vwp P (match Instr.fill (fun i=> some (i*re.size,re.size)) ((Array.range (len*re.size)).map fun i=> z[i%z.size]!) parts with
     | some cells=> (newRow e cells).bind fun a=> .pure (.slice (some a) len len)
     | x=> stuck "buildSlice: a part of the wrong size") H (fun a H'=> vwp P (Sem.pure (Next.value a)) H' Q):=by
   intro z hz;rw[hz,fill_of hv];exact fun blk hb=> hQ blk hb
  by_cases h0:len*re.size=0
  ·simp only[h0,if_true];rw[h0] at fin;exact fin #[] (by simp[zeroRow])
  ·simp only[h0,if_false];exact vwp_bind (zeroValue e) _ (vwp_zeroValue (E.ok _ _ hre).zero (fin re.zero.cells (zeroRow_arr _ _)))) hk
theorem Or.makeSlice {t e:TypeId}{x y:Operand}{len cap:Nat}{r re:TyRow}(hop:o.op=.makeSlice t x y)(hx:evR R x=some (.int .i64 len))(hy:evR R y=some (.int .i64 cap))(ht:E.ty t=some r)(hds:r.ds=.slice e)(hre:E.ty e=some re)
  (h1:len<=cap) (h2:cap<=1000000000) (h3:Nat.ble re.bytes 1000=true) (hd:o.dst=some d) (hn:d<n)
  (hk:∀blk,K ((d,.slice (some ⟨blk,0,none⟩) len cap)::R) ((blk,true,.cells ⟨zeroRow re.zero.cells.toList (cap*re.size)⟩ e (0,0))::L)):Or M n H₀ R L o K:=
 .newObj (val:=fun blk=> .slice (some ⟨blk,0,none⟩) len cap) hd hn (fun H tmps _ hr Q hQ=> by
  unfold execOp;rw[hop];simp only[hr.ev hx,hr.ev hy];refine vwp_bind (Instr.makeSlice t _ _) _ ?_;refine vwp_bind (underlying t) _ (vwp_underlying (ds_slice ((E.ok _ _ ht).ds.trans hds)) ?_);show vwp P ((typeInfo e).bind fun i=> _) H _;have hb:=(E.ok _ _ hre).bytes;cases hi:P.info? e with
  | none=> rw[hi] at hb;cases hb
  | some i=>
   rw[hi] at hb;simp only[Option.map_some,Option.some.injEq] at hb;refine vwp_bind (typeInfo e) _ (vwp_typeInfo hi ?_);have hw:∀k:Nat,k<=1000000000->IntKind.i64.wrap (k:Int)=k:=fun k hk=> wrap64 oM oM;have h3':re.bytes<=1000:=Nat.le_of_ble_eq_true h3;have hmul:i.bytes*cap<=1000*1000000000:=Nat.mul_le_mul oM h2;have hmul':(i.bytes:Int)*(cap:Int)<=1000*1000000000:=by rw[<-Int.natCast_mul];omega
   simp only[hw len oM,hw cap h2];rw[if_neg]
   ·show vwp P ((askRoom ((cap:Int).toNat*i.bytes)).bind fun _=> _) H _;refine vwp_bind _ _ ?_;unfold askRoom roomBytes;rw[if_neg (by simp only[Int.toNat_natCast];rw[Nat.mul_comm];omega)];show vwp P ((sizeOf e).bind fun s=> _) H _;refine vwp_bind (sizeOf e) _ (vwp_sizeOf (E.ok _ _ hre).size ?_);simp only[Int.toNat_natCast];have fin:∀z:Array Value,((Array.range (cap*re.size)).map fun i=> z[i%z.size]!)=⟨zeroRow re.zero.cells.toList (cap*re.size)⟩-> 
      vwp P ((newRow e ((Array.range (cap*re.size)).map fun i=> z[i%z.size]!)).bind fun a=> .pure (.slice (some a) len cap)) H (fun a H'=> vwp P (Sem.pure (Next.value a)) H' Q):=by
     intro z hz;rw[hz];exact fun blk hb=> hQ blk hb
    by_cases h0:cap*re.size=0
    ·simp only[h0,if_true];rw[h0] at fin;exact fin #[] (by simp[zeroRow])
    ·simp only[h0,if_false];exact vwp_bind (zeroValue e) _ (vwp_zeroValue (E.ok _ _ hre).zero (fin re.zero.cells (zeroRow_arr _ _)))
   ·simp only[Bool.or_eq_true,decide_eq_true_eq];omega) hk
end
section
variable {P:Program}{E:Env P}{M:Md P}{n:Nat}{H₀:View}{R:Rg}{L L':Bl}{K:Rg->Bl->Prop}{o:Oper}{d:Nat}{v:Value}
theorem OpV.convE {t u:TypeId}{x:Operand}{ik jk:IntKind}{p z:Int}{r r':TyRow}(hop:o.op=.convert t u x)(hx:evR R x=some (.int ik p))(ht:E.ty t=some r)(hr:r.ds=.int ik)(ht':E.ty u=some r')(hr':r'.ds=.int jk)(hz:jk.wrap p=z):OpV P n H₀ R L o (.int jk z):=
 .conv hop hx (ds_int ((E.ok _ _ ht).ds.trans hr)) (ds_int ((E.ok _ _ ht').ds.trans hr')) hz
theorem vwp_part {t:TypeId}{r:TyRow}{c:List Value}{off:Nat}{H:View}{Q:Value->View->Prop}(ht:E.ty t=some r)(hv:ldL r.agg r.size c off=some v)(h:Q v H):vwp P (part t ⟨c⟩ off) H Q:=by
 unfold part;refine vwp_bind (isAgg t) _ (vwp_isAgg (E.ok _ _ ht).agg ?_);unfold ldL at hv;cases hg:r.agg with
 | true=>
  rw[hg] at hv;simp only at hv;split at hv
  ·cases hv
   refine vwp_bind (sizeOf t) _ (vwp_sizeOf (E.ok _ _ ht).size ?_);have e:(⟨c⟩:Array Value).extract off (off+r.size)=⟨(c.drop off).take r.size⟩:=by
    apply Array.ext'
    simp[List.extract_eq_take_drop]
   show Q (.agg ((⟨c⟩:Array Value).extract off (off+r.size))) H;rw[e];exact h
  ·cases hv
 | false=>
  rw[hg] at hv;simp only at hv;have:(⟨c⟩:Array Value)[off]? =some v:=by simpa using hv
  simp only[Bool.false_eq_true,if_false,this];exact h
theorem OpV.field {t ft:TypeId}{x:Operand}{fi off sz:Nat}{r rf:TyRow}{c:List Value}{fs:List (TypeId×Nat×Nat)}(hop:o.op=.field t x fi)(hx:evR R x=some (.agg ⟨c⟩))(ht:E.ty t=some r)(hds:r.ds=.struct fs)(hf:fs[fi]? =some (ft,off,sz))
  (htf:E.ty ft=some rf) (hv:ldL rf.agg rf.size c off=some v):OpV P n H₀ R L o v:=
 (fun H tmps _ hr=> by
  unfold execOp;rw[hop];simp only[hr.ev hx];refine vwp_bind (Instr.field t _ fi) _ ?_;obtain⟨a,hu,hall,_,rfl⟩:=ds_struct ((E.ok _ _ ht).ds.trans hds);refine vwp_bind (underlying t) _ (vwp_underlying hu ?_);simp only[List.getElem?_map,Option.map_eq_some_iff] at hf;obtain⟨fl,h1,h2⟩:=hf;simp only[Array.getElem?_toList] at h1;simp only[Prod.mk.injEq] at h2;obtain⟨h3,h4,_⟩:=h2;simp only[h1];show vwp P ((asAgg (.agg ⟨c⟩)).bind fun a=> part fl.type a fl.offset) H _;show vwp P (part fl.type ⟨c⟩ fl.offset) H _;rw[h3,h4];exact vwp_part htf hv ⟨rfl,rfl⟩)
def bound(R:Rg)(x:Option Operand)(dflt:Nat):Option Int:=
 match x with
 | none=> some dflt
 | some y=>
  match evR R y with
  | some (.int _ i)=> some i
  | _=> none
theorem vwp_sliceBound {k:IntKind}{i:Int}{y:Nat}{code:BoundsCode}{H:View}{Q:Nat->View->Prop}(h0:0<=i)(h1:i<=y)(h:Q i.toNat H):vwp P (Instr.sliceBound (.int k i) y code) H Q:=by
 show vwp P (if 0<=i/\i<=y then _ else _) H Q;rw[if_pos ⟨h0,h1⟩];exact h
theorem vwp_sliceBounds {tmps:Array Value}{isS:Bool}{len cap:Nat}{lo hi:Option Operand}{l h:Int}{H:View}{Q:Nat×Nat×Nat->View->Prop}(hr:RegOk n R tmps)(hlo:bound R lo 0=some l)(hhi:bound R hi len=some h)
  (h0:0<=l) (h1:l<=h) (h2:h<=cap) (hq:Q (l.toNat,h.toNat,cap) H):vwp P (Instr.sliceBounds isS len cap (lo.map (evT tmps)) (hi.map (evT tmps)) none) H Q:=by
 have hlow:∀(lv:Option Value),lv=lo.map (evT tmps)->∀(K:Nat->Sem (Nat×Nat×Nat)) (code:BoundsCode),vwp P (K l.toNat) H Q->vwp P (match lv with|some v=> (Instr.sliceBound v h.toNat code).bind K|none=> K 0) H Q:=by
  intro lv hlv K code hK;cases lo with
  | none=>
   simp only[bound,Option.some.injEq] at hlo;subst hlo;subst hlv;exact hK
  | some x=>
   simp only[bound] at hlo;split at hlo
   ·rename_i k i he
    cases hlo
    simp only[Option.map_some,hr.ev he] at hlv;subst hlv;exact vwp_bind _ _ (vwp_sliceBound h0 oM hK)
   ·cases hlo
 have rest:vwp P (match lo.map (evT tmps) with|some v=> (Instr.sliceBound v h.toNat .sliceB).bind fun ll=> Sem.pure (ll,h.toNat,cap)|none=> Sem.pure (0,h.toNat,cap)) H Q:=
  hlow _ rfl (fun ll=> Sem.pure (ll,h.toNat,cap)) .sliceB hq
 cases hi with
 | none=>
  simp only[bound,Option.some.injEq] at hhi;have e:h.toNat=len:=by omega
  rw[e] at rest;cases hlv:lo.map (evT tmps) with
  | none=> rw[hlv] at rest;exact rest
  | some v=> rw[hlv] at rest;exact rest
 | some x=>
  simp only[bound] at hhi;split at hhi
  ·rename_i k i he
   cases hhi
   simp only[Option.map_some,hr.ev he];cases hlv:lo.map (evT tmps) with
   | none=>
    rw[hlv] at rest;exact vwp_bind (Instr.sliceBound _ cap _) _ (vwp_sliceBound oM h2 rest)
   | some v=>
    rw[hlv] at rest;exact vwp_bind (Instr.sliceBound _ cap _) _ (vwp_sliceBound oM h2 rest)
  ·cases hhi
theorem OpV.slice {t e:TypeId}{x:Operand}{lo hi:Option Operand}{l h:Int}{len cap off off' sz:Nat}{blk:Nat}{r re:TyRow}(hop:o.op=.slice t x lo hi none)(hx:evR R x=some (.slice (some ⟨blk,off,none⟩) len cap))(ht:E.ty t=some r)(hds:r.ds=.slice e)
  (hre:E.ty e=some re) (hsz:re.size=sz) (hlo:bound R lo 0=some l) (hhi:bound R hi len=some h) (h0:0<=l) (h1:l<=h) (h2:h<=cap) (hoff:if(cap:Int)=l then off'=off else off'=off+l.toNat*sz):
  OpV P n H₀ R L o (.slice (some ⟨blk,off',none⟩) (h.toNat-l.toNat) (cap-l.toNat)):=
 (fun H tmps _ hr=> by
  unfold execOp;rw[hop];simp only[hr.ev hx];refine vwp_bind (Instr.sliceAt t _ _ _ _) _ ?_;refine vwp_bind (underlying t) _ (vwp_underlying (ds_slice ((E.ok _ _ ht).ds.trans hds)) ?_);refine vwp_bind (underlying t) _ (vwp_underlying (ds_slice ((E.ok _ _ ht).ds.trans hds)) ?_);show vwp P ((Instr.sliceBounds true len cap (lo.map (evT tmps)) (hi.map (evT tmps)) none).bind fun b=> _) H _;refine vwp_bind _ _ (vwp_sliceBounds hr hlo hhi h0 h1 h2 ?_);refine vwp_bind (sizeOf e) _ (vwp_sizeOf (E.ok _ _ hre).size ?_);show Next.value (.slice (if cap=l.toNat then some ⟨blk,off,none⟩ else(some ⟨blk,off,none⟩:Option Addr).map (·.add (l.toNat*re.size))) _ _)=_/\_;refine⟨?_,rfl⟩;by_cases hc:cap=l.toNat
  ·rw[if_pos hc];rw[if_pos oM] at hoff;rw[hoff]
  ·rw[if_neg hc];rw[if_neg oM] at hoff;simp only[Option.map_some,add_off ⟨blk,off,none⟩ _ rfl,hsz,hoff])
theorem OpV.sliceA {t e:TypeId}{x:Operand}{lo hi:Option Operand}{l h:Int}{m off off' sz:Nat}{blk:Nat}{ra re:TyRow}(hop:o.op=.slice t x lo hi none)(hx:evR R x=some (.pointer (some ⟨blk,off,none⟩)))(hta:E.ty t=some ra)(hds:ra.ds=.arr m e)
  (hre:E.ty e=some re) (hsz:re.size=sz) (hlo:bound R lo 0=some l) (hhi:bound R hi m=some h) (h0:0<=l) (h1:l<=h) (h2:h<=m) (hoff:if(m:Int)=l then off'=off else off'=off+l.toNat*sz):
  OpV P n H₀ R L o (.slice (some ⟨blk,off',none⟩) (h.toNat-l.toNat) (m-l.toNat)):=
 (fun H tmps _ hr=> by
  unfold execOp;rw[hop];simp only[hr.ev hx];refine vwp_bind (Instr.sliceAt t _ _ _ _) _ ?_;refine vwp_bind (underlying t) _ (vwp_underlying (ds_arr ((E.ok _ _ hta).ds.trans hds)) ?_);show vwp P ((Instr.sliceBounds false m m (lo.map (evT tmps)) (hi.map (evT tmps)) none).bind fun b=> _) H _;refine vwp_bind _ _ (vwp_sliceBounds hr hlo hhi h0 h1 h2 ?_);refine vwp_bind (sizeOf e) _ (vwp_sizeOf (E.ok _ _ hre).size ?_);show Next.value (.slice (some (if m=l.toNat then⟨blk,off,none⟩ else Addr.add ⟨blk,off,none⟩ (l.toNat*re.size))) _ _)=_/\_;refine⟨?_,rfl⟩;by_cases hc:m=l.toNat
  ·rw[if_pos hc];rw[if_pos oM] at hoff;rw[hoff]
  ·rw[if_neg hc];rw[if_neg oM] at hoff;rw[add_off _ _ rfl,hsz,hoff])
def SrcAt(H:View)(sz:Nat)(y:Value)(m:Nat)(l:List Value):Prop:=
 (∃a c,y=.slice a m c)/\l.length=m*sz/\
 ((∃a c,y=.slice a m c/\l= [])\/ 
  ∃b off c f cs e fz,y=.slice (some ⟨b,off,none⟩) m c/\H b=some (f,.cells ⟨cs⟩ e fz)/\off+l.length<=cs.length/\(cs.drop off).take l.length=l)
theorem vwp_firstCells {H:View}{sz m:Nat}{y:Value}{l:List Value}{Q:Array Value->View->Prop}(h:SrcAt H sz y m l)(hq:Q ⟨l⟩ H):vwp P (Builtin.firstCells sz m y) H Q:=by
 obtain⟨_,hl,⟨a,c,rfl,rfl⟩|⟨b,off,c,f,cs,e,fz,rfl,hb,hle,ht⟩⟩:=h
 ·cases a with
  | none=> exact hq
  | some a=>
   show vwp P (loadCellsFrom a 0 (m*sz) #[]) H Q;rw[<-hl];exact hq
 ·show vwp P (loadCellsFrom ⟨b,off,none⟩ 0 (m*sz) #[]) H Q;rw[<-hl];refine vwp_loadCells b off hb l.length 0 #[] (by simpa using hle) ?_;simp only[Nat.add_zero,ht];simpa using hq
theorem SrcAt.lenOf {H:View}{sz m:Nat}{y:Value}{l:List Value}{Q:Nat->View->Prop}(h:SrcAt H sz y m l)(hq:Q m H):vwp P (Builtin.lenOf y) H Q:=by
 obtain⟨⟨a,c,rfl⟩,_⟩:=h;exact hq
theorem SrcAt.mono {H H':View}{sz m:Nat}{y:Value}{l:List Value}(h:SrcAt H sz y m l)(k:H.le H'):SrcAt H' sz y m l:=by
 obtain⟨h1,h2,h3|⟨b,off,c,f,cs,e,fz,h3,hb,h4,h5⟩⟩:=h
 ·exact⟨h1,h2,.inl h3⟩
 ·exact⟨h1,h2,.inr ⟨b,off,c,f,cs,e,fz,h3,k _ _ hb,h4,h5⟩⟩
theorem SrcAt.of {H:View}{sz m c b off:Nat}{f:Bool}{cs:List Value}{e:TypeId}{fz:Nat×Nat}(hb:H b=some (f,.cells ⟨cs⟩ e fz))(hle:off+m*sz<=cs.length):SrcAt H sz (.slice (some ⟨b,off,none⟩) m c) m ((cs.drop off).take (m*sz)):=by
 have hl:((cs.drop off).take (m*sz)).length=m*sz:=by
  rw[List.length_take,List.length_drop];omega
 exact⟨⟨_,_,rfl⟩,hl,.inr ⟨b,off,c,f,cs,e,fz,rfl,hb,by rw[hl];exact hle,by rw[hl]⟩⟩
structure Gl(e:TypeId)(sz:Nat) where
 blk:Option Nat
 n:Nat
 cap:Nat
 l:List Value
 junk:List Value
 hl:l.length=n*sz
 hc:n<=cap
 hj:junk.length=(cap-n)*sz
 h0:blk=none->cap=0
def Gl.val {e:TypeId}{sz:Nat}(g:Gl e sz):Value:=.slice (g.blk.map fun b=> ⟨b,0,none⟩) g.n g.cap
def Gl.bl {e:TypeId}{sz:Nat}(g:Gl e sz):Bl:=
 match g.blk with
 | none=> []
 | some b=> [(b,true,.cells ⟨g.l++g.junk⟩ e (0,0))]
def Gl.nil(e:TypeId)(sz:Nat):Gl e sz:=⟨none,0,0,[],[],by simp,by simp,by simp,fun _=> rfl⟩
def Gl.emp(e:TypeId)(sz:Nat)(b:Nat):Gl e sz:=⟨some b,0,0,[],[],by simp,by simp,by simp,fun h=> by cases h⟩
theorem Gl.src {e:TypeId}{sz:Nat}(g:Gl e sz){H:View}(h:∀x∈g.bl,H x.1=some x.2):SrcAt H sz g.val g.n g.l:=by
 refine⟨⟨_,g.cap,rfl⟩,g.hl,?_⟩;unfold Gl.bl at h;cases hb:g.blk with
 | none=>
  have h1:=g.h0 hb;have h2:=g.hc;have h3:g.l.length=0:=by rw[g.hl,show g.n=0 by omega];simp
  exact .inl ⟨none,g.cap,by simp[Gl.val,hb],List.eq_nil_of_length_eq_zero h3⟩
 | some b=>
  rw[hb] at h;exact .inr ⟨b,0,g.cap,true,g.l++g.junk,e,(0,0),by simp[Gl.val,hb],h (b,true,.cells ⟨g.l++g.junk⟩ e (0,0)) (by simp),by simp,by simp⟩
theorem zeroCells_eq(z:Array Value)(m:Nat):Builtin.zeroCells z m=⟨zeroRow z.toList (m*z.size)⟩:=by
 unfold Builtin.zeroCells;exact zeroRow_arr z (m*z.size)
theorem vwp_appendC {t xt e:TypeId}{rt:TypeId}{r re:TyRow}{sz m:Nat}{y:Value}{new:List Value}{g:Gl e sz}{H:View}{Q:Value->View->Prop}(ht:E.ty t=some r)(hds:r.ds=.slice e)(hre:E.ty e=some re)(hsz:re.size=sz)(hzs:re.zero.cells.toList.length=sz)
  (hxt:∃rx ex,E.ty xt=some rx/\rx.ds=.slice ex) (hby:re.bytes<=1000) (hn:g.n+m<=1000000000) (hb:∀x∈g.bl,H x.1=some x.2) (hy:SrcAt H sz y m new) (hs:new.all single=true)
  (hq:∀(g':Gl e sz) (H':View),g'.n=g.n+m->g'.l=g.l++new->(∀b,g'.blk=some b->((g.blk=some b/\g'.cap=g.cap)\/H b=none))->(∀c,(∀b,g'.blk=some b->b≠c)->H' c=H c)->(∀x∈g'.bl,H' x.1=some x.2)->Q g'.val H'):
  vwp P (Builtin.append_ #[t,xt] rt #[g.val,y]) H Q:=by
 obtain⟨rx,ex,hx1,hx2⟩:=hxt;have hold:=g.src hb;obtain⟨a,hga⟩:∃a,g.val=.slice a g.n g.cap:=⟨_,rfl⟩
 show vwp P ((underlying t).bind fun _=> _) H Q;refine vwp_bind (underlying t) _ (vwp_underlying (ds_slice ((E.ok _ _ ht).ds.trans hds)) ?_);rw[hga];show vwp P ((sizeOf e).bind fun _=> _) H Q;refine vwp_bind (sizeOf e) _ (vwp_sizeOf (E.ok _ _ hre).size ?_);refine vwp_bind (underlying xt) _ (vwp_underlying (ds_slice ((E.ok _ _ hx1).ds.trans hx2)) ?_);refine vwp_bind (Builtin.lenOf y) _ (hy.lenOf ?_);simp only[hsz];by_cases hcap:g.n+m<=g.cap
 ·rw[if_pos hcap];show vwp P ((Builtin.firstCells sz m y).bind fun _=> _) H Q;refine vwp_bind _ _ (vwp_firstCells hy ?_);cases hblk:g.blk with
  | none=>
   have h1:=g.h0 hblk;have e1:a=none:=by
    unfold Gl.val at hga;rw[hblk] at hga
    injection hga with e1
    exact e1.symm
   subst e1;have hm:m=0:=by omega
   have hnew:new= []:=List.eq_nil_of_length_eq_zero (by rw[hy.2.1,hm];simp);have:=hq g H oM (by rw[hnew];simp) (fun b hb=> .inl ⟨hb,rfl⟩) (fun c _=> rfl) hb;rw[hga] at this;show Q (.slice none (g.n+m) g.cap) H;rw[hm];exact this
  | some b=>
   have e1:a=some ⟨b,0,none⟩:=by
    unfold Gl.val at hga;rw[hblk] at hga;cases hga
    rfl
   subst e1;have hHb:H b=some (true,.cells ⟨g.l++g.junk⟩ e (0,0)):=by
    have:=hb (b,true,.cells ⟨g.l++g.junk⟩ e (0,0)) (by unfold Gl.bl;rw[hblk];simp);exact this
   show vwp P ((storeCells (Addr.add ⟨b,0,none⟩ (g.n*sz)) new).bind fun _=> Sem.pure (.slice (some ⟨b,0,none⟩) (g.n+m) g.cap)) H Q;refine vwp_bind _ _ ?_;rw[add_off _ _ rfl];have hlen:new.length=m*sz:=hy.2.1;have hjl:m*sz<=g.junk.length:=by rw[g.hj];exact Nat.mul_le_mul_right _ oM
   refine vwp_storeCells b _ new 0 (g.l++g.junk) hHb (by simp only[List.length_append,g.hl];omega) hs fun H' hH'=> ?_;have hst:stL (g.l++g.junk) (0+g.n*sz+0) new=(g.l++new)++g.junk.drop new.length:=by
    unfold stL;simp only[Nat.zero_add,Nat.add_zero,<-g.hl,List.take_left',List.drop_append];simp
   let g':Gl e sz:=⟨some b,g.n+m,g.cap,g.l++new,g.junk.drop new.length,by simp[g.hl,hlen,Nat.add_mul],hcap,by rw[List.length_drop,g.hj,hlen,<-Nat.sub_mul];congr 1;omega,fun h=> by cases h⟩
   have key:∀x∈g'.bl,H' x.1=some x.2:=by
    intro x hx;simp only[g',Gl.bl,List.mem_singleton] at hx;subst hx;show H' b=some (true,.cells ⟨(g.l++new)++g.junk.drop new.length⟩ e (0,0));rw[hH'];split
    ·rename_i hnil
     subst hnil;simpa using hHb
    ·rw[View.put_same,hst]
   exact hq g' H' rfl rfl (fun b' hb'=> .inl ⟨by cases hb';exact hblk,rfl⟩) (fun c hc=> by
    rw[hH'];split
    ·rfl
    ·rw[View.put_other];intro e;exact hc b rfl e.symm) key
 ·rw[if_neg hcap];have hbytes:=(E.ok _ _ hre).bytes;cases hi:P.info? e with
  | none=> rw[hi] at hbytes;cases hbytes
  | some i=>
   rw[hi] at hbytes;simp only[Option.map_some,Option.some.injEq] at hbytes;have hib:i.bytes<=1000:=by omega
   have hmax:IntKind.i64.max=9223372036854775807:=by decide
   show vwp P ((typeInfo e).bind fun _=> _) H Q;refine vwp_bind (typeInfo e) _ (vwp_typeInfo hi ?_);rw[if_neg (by rw[hmax];omega)];show vwp P ((typeInfo e).bind fun _=> _) H Q;refine vwp_bind (typeInfo e) _ (vwp_typeInfo hi ?_);rw[if_neg]
   ·show vwp P ((choose _).bind fun newCap=> _) H Q;refine vwp_bind (choose _) _ ?_;intro tt;rw[if_neg (by simp[Question.forced])];generalize hnc:(Question.appendCap (g.n+m) g.cap e).cut tt=newCap;have hge:g.n+m<=newCap:=by rw[<-hnc];simp only[Question.cut];omega
    show vwp P ((typeInfo e).bind fun _=> _) H Q;refine vwp_bind (typeInfo e) _ (vwp_typeInfo hi ?_);show vwp P ((askRoom (newCap*i.bytes)).bind fun _=> _) H Q;refine vwp_bind _ _ ?_;have hroom:∀Q':Unit->View->Prop,Q' () H->vwp P (askRoom (newCap*i.bytes)) H Q':=by
     intro Q' h;unfold askRoom;split
     ·exact⟨rfl,h⟩
     ·exact h
    refine hroom _ ?_;show vwp P ((Builtin.firstCells sz g.n (.slice a g.n g.cap)).bind fun _=> _) H Q;rw[<-hga];refine vwp_bind _ _ (vwp_firstCells hold ?_);show vwp P ((Builtin.firstCells sz m y).bind fun _=> _) H Q;refine vwp_bind _ _ (vwp_firstCells hy ?_);show vwp P ((zeroValue e).bind fun _=> _) H Q;refine vwp_bind (zeroValue e) _ (vwp_zeroValue (E.ok _ _ hre).zero ?_);rw[zeroCells_eq];intro blk hfresh;have hzz:re.zero.cells.size=sz:=by rw[<-Array.length_toList];exact hzs
    let g':Gl e sz:=⟨some blk,g.n+m,newCap,g.l++new,zeroRow re.zero.cells.toList ((newCap-(g.n+m))*re.zero.cells.size),by simp[g.hl,hy.2.1,Nat.add_mul],hge,by rw[zeroRow_len,hzz],fun h=> by cases h⟩
    exact hq g' _ rfl rfl (fun b' hb'=> .inr (by cases hb';exact hfresh)) (fun c hc=> by
     rw[View.put_other];intro e;exact hc blk rfl e.symm) (fun x hx=> by
     simp only[g',Gl.bl,List.mem_singleton] at hx;subst hx;rw[View.put_same];simp)
   ·have h3 : Builtin.nextslicecap (g.n+m) g.cap<=4*1000000000:=by
     unfold Builtin.nextslicecap;split
     ·omega
     ·split
      ·omega
      ·have gb:∀(rounds c:Nat),c<=2*(g.n+m)+1000->Builtin.growBy (g.n+m) rounds c<=2*(g.n+m)+1000:=by
        intro rounds;induction rounds with
        | zero=> exact fun c hc=> hc
        | succ rounds ih=>
         intro c hc;unfold Builtin.growBy;split
         ·exact hc
         ·exact ih _ oM
       have:=gb 4 g.cap oM;omega
    have h4:Builtin.nextslicecap (g.n+m) g.cap*i.bytes<=4*1000000000*1000:=Nat.mul_le_mul h3 hib;omega
theorem vwp_append {t xt e:TypeId}{rt:TypeId}{r re:TyRow}{sz m:Nat}{y:Value}{new:List Value}{g:Gl e sz}{H:View}{Q:Value->View->Prop}(ht:E.ty t=some r)(hds:r.ds=.slice e)(hre:E.ty e=some re)(hsz:re.size=sz)(hzs:re.zero.cells.toList.length=sz)
  (hxt:∃rx ex,E.ty xt=some rx/\rx.ds=.slice ex) (hby:re.bytes<=1000) (hn:g.n+m<=1000000000) (hb:∀x∈g.bl,H x.1=some x.2) (hy:SrcAt H sz y m new) (hs:new.all single=true)
  (hq:∀(g':Gl e sz) (H':View),g'.n=g.n+m->g'.l=g.l++new->(∀b,g'.blk=some b->(g.blk=some b\/H b=none))->(∀c,(∀b,g'.blk=some b->b≠c)->H' c=H c)->(∀x∈g'.bl,H' x.1=some x.2)->Q g'.val H'):
  vwp P (Builtin.append_ #[t,xt] rt #[g.val,y]) H Q:=
 vwp_appendC ht hds hre hsz hzs hxt hby hn hb hy hs fun g' H' h1 h2 h3 h4 h5=> hq g' H' h1 h2 (fun b hb=> (h3 b hb).imp And.left id) h4 h5
theorem SymSt.grown {e:TypeId}{sz:Nat}{g g':Gl e sz}{A:Bl}{H H':View}(h:SymSt H₀ (A++g.bl) H)(h1:∀b,g'.blk=some b->(g.blk=some b\/H b=none))(h2:∀c,(∀b,g'.blk=some b->b≠c)->H' c=H c)(h3:∀x∈g'.bl,H' x.1=some x.2):
  SymSt H₀ (A++g'.bl) H':=by
 have hne:∀b,g'.blk=some b->(∀x∈A,b≠x.1)/\H₀ b=none:=by
  intro b hb;rcases h1 b hb with h4|h4
  ·have hmem:(b,true,Obj.cells ⟨g.l++g.junk⟩ e (0,0))∈g.bl:=by unfold Gl.bl;rw[h4];simp
   refine⟨fun x hx e=> ?_,h.out _ (List.mem_append_right A hmem)⟩;have hnd:=h.nodup;rw[List.map_append,List.nodup_append] at hnd;exact hnd.2.2 _ (List.mem_map_of_mem hx) _ (List.mem_map_of_mem hmem) e.symm
  ·refine⟨fun x hx e=> ?_,?_⟩
   ·have:=h.at_ x (by simp[hx]);rw[<-e,h4] at this;cases this
   ·cases h0:H₀ b with
    | none=> rfl
    | some y=>
     have:=h.base _ _ h0;rw[h4] at this;cases this
 refine⟨?_,fun x hx=> ?_,fun x hx=> ?_,fun c y hc=> ?_⟩
 ·have hnd:=h.nodup;rw[List.map_append,List.nodup_append] at hnd ⊢;refine⟨hnd.1,?_,fun a ha b hb=> ?_⟩
  ·unfold Gl.bl;split <;> simp
  ·unfold Gl.bl at hb;split at hb
   ·simp at hb
   ·rename_i b' hb'
    simp only[List.map_cons,List.map_nil,List.mem_singleton] at hb;subst hb;obtain⟨x,hx,rfl⟩:=List.mem_map.1 ha;exact((hne _ hb').1 x hx).symm
 ·rcases List.mem_append.1 hx with hx|hx
  ·exact h.out x (by simp[hx])
  ·unfold Gl.bl at hx;split at hx
   ·simp at hx
   ·rename_i b' hb'
    simp only[List.mem_singleton] at hx;subst hx;exact(hne _ hb').2
 ·rcases List.mem_append.1 hx with hx'|hx'
  ·rw[h2 _ fun b hb=> (hne b hb).1 x hx'];exact h.at_ x (by simp[hx'])
  ·exact h3 x hx'
 ·rw[h2 _ fun b hb e=> by rw[<-e,(hne b hb).2] at hc;cases hc];exact h.base _ _ hc
theorem Or.append(k:Nat){cl:Go.Call}{x y:Operand}{t xt e:TypeId}{sz m:Nat}{yv:Value}{new:List Value}{g:Gl e sz}{r re rx:TyRow}{ex:TypeId}(hop:o.op=.call cl)(hcl:cl.callee=.builtin .append)(hat:cl.argTypes=#[t,xt])(har:cl.args=#[x,y])
  (hx:evR R x=some g.val) (hy:evR R y=some yv) (ht:E.ty t=some r) (hds:r.ds=.slice e) (hre:E.ty e=some re) (hsz:re.size=sz) (hzs:Nat.beq re.zero.cells.toList.length sz=true) (hxt:E.ty xt=some rx) (hex:rx.ds=.slice ex) (hby:Nat.ble re.bytes 1000=true)
  (hL:L.drop k=g.bl) (hsrc:∀H,SymSt H₀ L H->SrcAt H sz yv m new) (hs:new.all single=true) (hm:g.n+m<=1000000000) (hd:o.dst=some d) (hn:d<n)
  (hk:∀g':Gl e sz,g'.n=g.n+m->g'.l=g.l++new->K ((d,g'.val)::R) (L.take k++g'.bl)):Or M n H₀ R L o K:=
 .val hd hn fun H tmps hst hr=> by
  have hLe:L=L.take k++g.bl:=by rw[<-hL,List.take_append_drop]
  unfold execOp;rw[hop];simp only[resolve,hcl,hat,har];have hm':Array.map (evT tmps) #[x,y]=#[g.val,yv]:=by simp[hr.ev hx,hr.ev hy]
  rw[hm'];rw[hLe] at hst;refine vwp_bind (Builtin.append_ #[t,xt] o.type #[g.val,yv]) _ ?_;refine vwp_append ht hds hre hsz (Nat.eq_of_beq_eq_true hzs) ⟨rx,ex,hxt,hex⟩ (Nat.le_of_ble_eq_true hby) hm (fun z hz=> hst.at_ z (by simp[hz])) (hsrc H (by rw[hLe];exact hst)) hs fun g' H' h1 h2 h3 h4 h5=> ?_;exact⟨_,rfl,_,hst.grown h3 h4 h5,hk g' h1 h2⟩
end
def valOf(agg:Bool)(l:List Value):Value:=
 match agg with
 | true=> .agg ⟨l⟩
 | false=> l.headD undef
def chunk(l:List Value)(off sz:Nat):List Value:=(l.drop off).take sz
def contig:Nat->List (TypeId×Nat×Nat)->Nat->Bool
 | a,[],m=> Nat.beq a m
 | a,(_,off,sz)::fs,m=>
  match Nat.beq a off with
  | true=> contig (a+sz) fs m
  | false=> false
theorem contig_eq:∀ {fs:List (TypeId×Nat×Nat)} {a:Nat} {l l':List Value},contig a fs l.length=true->l'.length=l.length->l.take a=l'.take a->(∀f∈fs,chunk l f.2.1 f.2.2=chunk l' f.2.1 f.2.2)->l=l'
 | [],a,l,l',h,hl,h0,_=> by
  have:a=l.length:=Nat.eq_of_beq_eq_true h;subst this;rw[List.take_of_length_le (Nat.le_refl _),List.take_of_length_le oM] at h0;exact h0
 | (t,off,sz)::fs,a,l,l',h,hl,h0,hall=> by
  unfold contig at h;split at h
  ·rename_i hb
   have:a=off:=Nat.eq_of_beq_eq_true hb;subst this;refine contig_eq h hl ?_ fun f hf=> hall f (by simp[hf]);have:=hall _ (by simp:(t,a,sz)∈(t,a,sz)::fs);simp only[chunk] at this;rw[List.take_add,List.take_add,h0,this]
  ·cases h
theorem contig_len:∀ {fs:List (TypeId×Nat×Nat)} {a m m':Nat},contig a fs m=true->contig a fs m'=true->m=m'
 | [],a,m,m',h,h'=> (Nat.eq_of_beq_eq_true h).symm.trans (Nat.eq_of_beq_eq_true h')
 | (t,off,sz)::fs,a,m,m',h,h'=> by
  unfold contig at h h';split at h
  ·rename_i hb
   rw[hb] at h';exact contig_len h h'
  ·cases h
theorem chunks_eq {sz:Nat}:∀ {m:Nat} {l l':List Value},l.length=m*sz->l'.length=m*sz->(∀i,i<m->chunk l (i*sz) sz=chunk l' (i*sz) sz)->l=l'
 | 0,l,l',h,h',_=> by
  have e1:l= []:=List.eq_nil_of_length_eq_zero (by simpa using h);have e2:l'= []:=List.eq_nil_of_length_eq_zero (by simpa using h');rw[e1,e2]
 | m+1,l,l',h,h',hall=> by
  have h0:=hall 0 oM;simp only[chunk,Nat.zero_mul,List.drop_zero] at h0;rw[<-List.take_append_drop sz l,<-List.take_append_drop sz l',h0]
  congr 1
  refine chunks_eq (m:=m) (sz:=sz) (by rw[List.length_drop,h,Nat.succ_mul];omega) (by rw[List.length_drop,h',Nat.succ_mul];omega) fun i hi=> ?_;have:=hall (i+1) oM;simp only[chunk,Nat.succ_mul] at this;simp only[chunk,List.drop_drop];rw[Nat.add_comm sz];exact this
section
variable {P:Program}
def flat(E:Env P):Nat->TypeId->List Value->Prop
 | 0,_,_=> False
 | d + 1,t,l=>
  match E.ty t with
  | none=> False
  | some r=>
   match r.ds with
   | .int k=> ∃i,l= [.int k i]
   | .bool=> ∃i,l= [.bool i]
   | .str=> ∃i,l= [.string i]
   | .struct fs=> contig 0 fs l.length=true/\∀f∈fs,flat E d f.1 (chunk l f.2.1 f.2.2)/\∃rf,E.ty f.1=some rf/\rf.size=f.2.2/\f.2.1+f.2.2<=l.length
   | .arr m e=> ∃re,E.ty e=some re/\l.length=m*re.size/\∀i,i<m->flat E d e (chunk l (i*re.size) re.size)
   | _=> False
theorem byteArray_beq(i j:ByteArray):(i==j)=true<->i=j:=by
 cases i with|mk a=> cases j with|mk b=>
 show(ByteArray.beq _ _)=true<->_;simp[ByteArray.beq]
def aggOf:TyD->Option Bool
 | .struct _ | .arr _ _=> some true
 | .other=> none
 | _=> some false
theorem ds_agg {t:TypeId}{g b:Bool}{dd:TyD}(h:tyDs P t=dd)(hg:tyAgg P t=some g)(hb:aggOf dd=some b):g=b:=by
 subst h;unfold tyDs at hb;unfold tyAgg at hg;split at hb <;> rename_i hu
 ·rw[hu] at hg;cases hg;cases hb;rfl
 ·rw[hu] at hg;cases hg;cases hb;rfl
 ·rw[hu] at hg;cases hg;cases hb;rfl
 ·rw[hu] at hg;split at hb
  ·cases hg;cases hb;rfl
  ·cases hb
 ·rw[hu] at hg;cases hg;cases hb;rfl
 ·rw[hu] at hg;cases hg;cases hb;rfl
 ·rw[hu] at hg;cases hg;cases hb;rfl
 ·cases hb
theorem ds_bool {t:TypeId}(h:tyDs P t=.bool):P.underlying t=some .bool:=by
 unfold tyDs at h;split at h <;> try cases h
 ·assumption
 ·rename_i a hu;split at h <;> cases h
theorem ds_str {t:TypeId}(h:tyDs P t=.str):P.underlying t=some .string:=by
 unfold tyDs at h;split at h <;> try cases h
 ·assumption
 ·rename_i a hu;split at h <;> cases h
variable {E:Env P}
theorem vwp_partChunk {t:TypeId}{r:TyRow}{l:List Value}{off:Nat}{H:View}{Q:Value->View->Prop}(ht:E.ty t=some r)(hle:off+r.size<=l.length)(h1:r.agg=false->r.size=1)(h:Q (valOf r.agg (chunk l off r.size)) H):vwp P (part t ⟨l⟩ off) H Q:=by
 refine vwp_part ht (v:=valOf r.agg (chunk l off r.size)) ?_ h;unfold ldL valOf chunk;cases hg:r.agg with
 | true=>
  simp only[Nat.ble_eq_true_of_le hle]
 | false=>
  have h2:=h1 hg;simp only[h2];have hlt:off<l.length:=by omega
  rw[List.getElem?_eq_getElem hlt,List.drop_eq_getElem_cons hlt];rfl
theorem flat_one {d:Nat}{t:TypeId}{r:TyRow}{l:List Value}(hf:flat E d t l)(ht:E.ty t=some r)(hg:r.agg=false):l.length=1:=by
 cases d with
 | zero=> exact hf.elim
 | succ d=>
  unfold flat at hf;rw[ht] at hf;simp only at hf;have ha:∀b,aggOf r.ds=some b->false=b:=fun b hb=> hg▸ds_agg (E.ok _ _ ht).ds (E.ok _ _ ht).agg hb;split at hf <;> rename_i hds
  ·obtain⟨i,rfl⟩:=hf;rfl
  ·obtain⟨i,rfl⟩:=hf;rfl
  ·obtain⟨i,rfl⟩:=hf;rfl
  ·rw[hds] at ha;cases ha true rfl
  ·rw[hds] at ha;cases ha true rfl
  ·exact hf.elim
theorem vwp_forAll {α:Type}{p:α->Prop}{f:α->Option Bool×Unit->Sem (ForInStep (Option Bool×Unit))}{H:View}{Q:Option Bool×Unit->View->Prop}:∀ {xs:List α},
  (∀x∈xs,∀Q':ForInStep (Option Bool×Unit)->View->Prop,(∀b,(b=true<->p x)->Q' (if(!b)=true then .done (some false,()) else .yield (none,())) H)->vwp P (f x (none,())) H Q')-> 
  (∀r,(r=(none,())/\(∀x∈xs,p x))\/(r=(some false,())/\¬∀x∈xs,p x)->Q r H)->vwp P (forIn xs (none,()) f) H Q
 | [],_,hq=> hq _ (.inl ⟨rfl,by simp⟩)
 | x ::xs,hf,hq=> by
  rw[List.forIn_cons];refine vwp_bind (f x (none,())) _ (hf x (by simp) _ fun b hb=> ?_);cases b with
  | false=> exact hq _ (.inr ⟨rfl,fun h=> by have:=hb.2 (h x (by simp));cases this⟩)
  | true=>
   have hp:=hb.1 rfl;refine vwp_forAll (xs:=xs) (fun y hy=> hf y (by simp[hy])) fun r hr=> hq r ?_;rcases hr with ⟨h1,h2⟩|⟨h1,h2⟩
   ·exact .inl ⟨h1,fun y hy=> by
     rcases List.mem_cons.1 hy with rfl|hy
     ·exact hp
     ·exact h2 y hy⟩
   ·exact .inr ⟨h1,fun h=> h2 fun y hy=> h y (by simp[hy])⟩
theorem vwp_equalIn {H:View}:∀(d D:Nat),d<=D->∀ {t:TypeId} {r:TyRow} {l l':List Value} {Q:Bool->View->Prop},E.ty t=some r->flat E d t l->flat E d t l'->(∀b,(b=true<->l=l')->Q b H)->vwp P (Op.equalIn D t (valOf r.agg l) (valOf r.agg l')) H Q
 | 0,_,_,_,_,_,_,_,_,hf,_,_=> hf.elim
 | d+1,0,h,_,_,_,_,_,_,_,_,_=> by omega
 | d + 1,D+1,hd,t,r,l,l',Q,ht,hf,hf',hq=> by
  have ha:∀b,aggOf r.ds=some b->r.agg=b:=fun b hb=> ds_agg (E.ok _ _ ht).ds (E.ok _ _ ht).agg hb;unfold flat at hf hf';rw[ht] at hf hf';simp only at hf hf';cases hds:r.ds with
  | int k=>
   rw[hds] at hf hf' ha;obtain⟨i,rfl⟩:=hf;obtain⟨j,rfl⟩:=hf';rw[ha _ rfl];refine vwp_bind (underlying t) _ (vwp_underlying (ds_int ((E.ok _ _ ht).ds.trans hds)) ?_);show vwp P (if k=k then _ else _) H Q;rw[if_pos rfl];exact hq _ (by simp)
  | bool=>
   rw[hds] at hf hf' ha;obtain⟨i,rfl⟩:=hf;obtain⟨j,rfl⟩:=hf';rw[ha _ rfl];refine vwp_bind (underlying t) _ (vwp_underlying (ds_bool ((E.ok _ _ ht).ds.trans hds)) ?_);exact hq (i==j) (by simp)
  | str=>
   rw[hds] at hf hf' ha;obtain⟨i,rfl⟩:=hf;obtain⟨j,rfl⟩:=hf';rw[ha _ rfl];refine vwp_bind (underlying t) _ (vwp_underlying (ds_str ((E.ok _ _ ht).ds.trans hds)) ?_);exact hq (i==j) (by rw[byteArray_beq];simp)
  | struct fs=>
   rw[hds] at hf hf' ha;rw[ha _ rfl];obtain⟨hc,hall⟩:=hf;obtain⟨hc',hall'⟩:=hf';obtain⟨a,hu,hn,hst,hfs⟩:=ds_struct ((E.ok _ _ ht).ds.trans hds);refine vwp_bind (underlying t) _ (vwp_underlying hu ?_);show vwp P ((program).bind fun p=> _) H Q;show vwp P (if P.stoodInHeld t=true then _ else _) H Q;rw[if_neg (by simp[hst])];show vwp P ((forIn a (none,()) fun(f:Field) (_:Option Bool×Unit)=> (if f.name≠ "_" then(part f.type ⟨l⟩ f.offset).bind fun x=> (part f.type ⟨l'⟩ f.offset).bind fun y=> (Op.equalIn D f.type x y).bind fun b=> if(!b)=true then Sem.pure (ForInStep.done (some false,())) else Sem.pure (ForInStep.yield (none,())) else Sem.pure (ForInStep.yield (none,())):Sem (ForInStep (Option Bool×Unit)))).bind _) H Q;rw[<-Array.forIn_toList];refine vwp_bind _ _ (vwp_forAll (p:=fun f:Field=> chunk l f.offset (((P.info? f.type).map (·.size)).getD 0)=chunk l' f.offset (((P.info? f.type).map (·.size)).getD 0)) (fun f hf Q' hQ'=> ?_) ?_)
   ·rw[if_pos (hn f hf).1];have hmem:(f.type,f.offset,((P.info? f.type).map (·.size)).getD 0)∈fs:=by rw[hfs];exact List.mem_map.2 ⟨f,hf,rfl⟩
    obtain⟨g1,rf,g2,g3,g4⟩:=hall _ hmem;obtain⟨g1',_,_,_,g4'⟩:=hall' _ hmem;simp only at g1 g2 g3 g4 g1' g4';rw[<-g3] at g1 g4 g1' g4' hQ';have hone:∀m:List Value,flat E d f.type (chunk m f.offset rf.size)->f.offset+rf.size<=m.length->rf.agg=false->rf.size=1:=by
     intro m hm hle hg;have:=flat_one hm g2 hg;simp only[chunk,List.length_take,List.length_drop] at this;omega
    refine vwp_bind _ _ (vwp_partChunk g2 g4 (hone l g1 g4) ?_);refine vwp_bind _ _ (vwp_partChunk g2 g4' (hone l' g1' g4') ?_);refine vwp_bind _ _ (vwp_equalIn d D oM g2 g1 g1' fun b hb=> ?_);have:=hQ' b hb;cases b <;> exact this
   ·rintro r (⟨rfl,hr⟩|⟨rfl,hr⟩)
    ·refine hq true ⟨fun _=> ?_,fun _=> rfl⟩;refine contig_eq hc (contig_len hc' hc) rfl fun f hf=> ?_
     ·rw[hfs] at hf;obtain⟨g,hg,rfl⟩:=List.mem_map.1 hf;exact hr g hg
    ·refine hq false ⟨fun h=> (by cases h),fun h=> ?_⟩;exact absurd (fun f hf=> by rw[h]) hr
  | arr m e=>
   rw[hds] at hf hf' ha;rw[ha _ rfl];obtain⟨re,hre,hlen,hall⟩:=hf;obtain⟨re',hre',hlen',hall'⟩:=hf';rw[hre] at hre';cases hre'
   refine vwp_bind (underlying t) _ (vwp_underlying (ds_arr ((E.ok _ _ ht).ds.trans hds)) ?_);show vwp P ((sizeOf e).bind fun _=> _) H Q;refine vwp_bind (sizeOf e) _ (vwp_sizeOf (E.ok _ _ hre).size ?_);rw[Std.Legacy.Range.forIn_eq_forIn_range'];refine vwp_bind _ _ (vwp_forAll (p:=fun i:Nat=> chunk l (i*re.size) re.size=chunk l' (i*re.size) re.size) (fun i hi Q' hQ'=> ?_) ?_)
   ·have him:i<m:=by
     simp only[Std.Legacy.Range.size,List.mem_range'_1] at hi;omega
    have hle:i*re.size+re.size<=l.length:=by
     rw[hlen,<-Nat.succ_mul];exact Nat.mul_le_mul_right _ him
    have hone:∀k:List Value,flat E d e (chunk k (i*re.size) re.size)->i*re.size+re.size<=k.length->re.agg=false->re.size=1:=by
     intro k hk hle hg;have:=flat_one hk hre hg;simp only[chunk,List.length_take,List.length_drop] at this;omega
    refine vwp_bind _ _ (vwp_partChunk hre hle (hone l (hall i him) hle) ?_);have hle':i*re.size+re.size<=l'.length:=by omega
    refine vwp_bind _ _ (vwp_partChunk hre hle' (hone l' (hall' i him) hle') ?_);refine vwp_bind _ _ (vwp_equalIn d D oM hre (hall i him) (hall' i him) fun b hb=> ?_);have:=hQ' b hb;cases b <;> exact this
   ·rintro r (⟨rfl,hr⟩|⟨rfl,hr⟩)
    ·refine hq true ⟨fun _=> ?_,fun _=> rfl⟩;refine chunks_eq hlen hlen' fun i hi=> hr i ?_;simp only[Std.Legacy.Range.size,List.mem_range'_1];omega
    ·refine hq false ⟨fun h=> (by cases h),fun h=> ?_⟩;exact absurd (fun f hf=> by rw[h]) hr
  | slice e=> rw[hds] at hf;exact hf.elim
  | map k e=> rw[hds] at hf;exact hf.elim
  | other=> rw[hds] at hf;exact hf.elim
end
section
variable {P:Program}{E:Env P}{M:Md P}{n:Nat}{H₀:View}{R:Rg}{L L':Bl}{K:Rg->Bl->Prop}{o:Oper}{d:Nat}{v:Value}
theorem OpV.eqA(b:Bool)(dp:Nat){t u:TypeId}{x y:Operand}{r:TyRow}{l l':List Value}(hop:o.op=.binOp .eql t x y u)(hx:evR R x=some (.agg ⟨l⟩))(hy:evR R y=some (.agg ⟨l'⟩))(ht:E.ty t=some r)(hag:r.agg=true)(hg:P.eqGuardType P.depth t=false)
  (hdp:dp<=10000) (hf:flat E dp t l) (hf':flat E dp t l') (hb:b=true<->l=l'):OpV P n H₀ R L o (.bool b):=
 (fun H tmps _ hr=> by
  unfold execOp;rw[hop];simp only[hr.ev hx,hr.ev hy];show vwp P (((eqGuard .eql t x y _ _).bind fun _=> binOp .eql t _ _).bind _) H _;refine vwp_bind _ _ (vwp_bind _ _ ?_);show vwp P (if(!P.eqGuardType P.depth t)=true then _ else _) H _;rw[hg];show vwp P ((Op.equalIn 10000 t (.agg ⟨l⟩) (.agg ⟨l'⟩)).bind fun c=> Sem.pure (Value.bool c)) H _;refine vwp_bind _ _ ?_;have h1:=vwp_equalIn (H:=H) (Q:=fun c H'=> vwp P (Sem.pure (Value.bool c)) H' fun a H'=> vwp P (Sem.pure (Next.value a)) H' fun nx H'=> nx=.value (.bool b)/\H'=H) dp 10000 hdp ht hf hf' fun c hc=> ?_
  ·rw[hag] at h1;exact h1
  ·have:c=b:=by
    cases c <;> cases b <;> simp_all
   subst this;exact⟨rfl,rfl⟩)
theorem OpV.eqB {t u:TypeId}{x y:Operand}{r:TyRow}{p q:Bool}(hop:o.op=.binOp .eql t x y u)(hx:evR R x=some (.bool p))(hy:evR R y=some (.bool q))(ht:E.ty t=some r)(hds:r.ds=.bool):OpV P n H₀ R L o (.bool (p==q)):=
 (fun H tmps _ hr=> by
  unfold execOp;rw[hop];simp only[hr.ev hx,hr.ev hy];show vwp P (((Op.equalIn 10000 t (.bool p) (.bool q)).bind fun c=> Sem.pure (Value.bool c)).bind _) H _;refine vwp_bind _ _ (vwp_bind _ _ ?_);exact vwp_bind (underlying t) _ (vwp_underlying (ds_bool ((E.ok _ _ ht).ds.trans hds)) ⟨rfl,rfl⟩))
theorem OpV.neB {t u:TypeId}{x y:Operand}{r:TyRow}{p q:Bool}(hop:o.op=.binOp .neq t x y u)(hx:evR R x=some (.bool p))(hy:evR R y=some (.bool q))(ht:E.ty t=some r)(hds:r.ds=.bool):OpV P n H₀ R L o (.bool (!(p==q))):=
 (fun H tmps _ hr=> by
  unfold execOp;rw[hop];simp only[hr.ev hx,hr.ev hy];show vwp P (((Op.equalIn 10000 t (.bool p) (.bool q)).bind fun c=> Sem.pure (Value.bool (!c))).bind _) H _;refine vwp_bind _ _ (vwp_bind _ _ ?_);exact vwp_bind (underlying t) _ (vwp_underlying (ds_bool ((E.ok _ _ ht).ds.trans hds)) ⟨rfl,rfl⟩))
theorem OpV.eqNil {t u e:TypeId}{x y:Operand}{r:TyRow}{a:Option Addr}{m c:Nat}(hop:o.op=.binOp .eql t x y u)(hx:evR R x=some (.slice a m c))(hy:evR R y=some (.slice none 0 0))(ht:E.ty t=some r)(hds:r.ds=.slice e):OpV P n H₀ R L o (.bool a.isNone):=
 (fun H tmps _ hr=> by
  unfold execOp;rw[hop];simp only[hr.ev hx,hr.ev hy];show vwp P (((Op.equalIn 10000 t (.slice a m c) (.slice none 0 0)).bind fun c=> Sem.pure (Value.bool c)).bind _) H _;refine vwp_bind _ _ (vwp_bind _ _ ?_);refine vwp_bind (underlying t) _ (vwp_underlying (ds_slice ((E.ok _ _ ht).ds.trans hds)) ?_);cases a <;> exact⟨rfl,rfl⟩)
def KeyFl(E:Env P)(dp:Nat)(t:TypeId)(k:Value):Prop:=∃r l,E.ty t=some r/\k=valOf r.agg l/\flat E dp t l
theorem valOf_inj {dp:Nat}{t:TypeId}{r:TyRow}{l l':List Value}(ht:E.ty t=some r)(h:flat E dp t l)(h':flat E dp t l'):valOf r.agg l=valOf r.agg l'<->l=l':=by
 refine⟨fun e=> ?_,fun e=> by rw[e]⟩;cases hg:r.agg with
 | true=>
  rw[hg] at e;simpa [valOf] using e
 | false=>
  rw[hg] at e;have h1:=flat_one h ht hg;have h2:=flat_one h' ht hg
  match l,l',h1,h2 with
  | [a],[b],_,_=> simpa [valOf] using e
def FindOk(es:List MapEntry)(k:Value)(r:Option (Nat×Value)):Prop:=
 match r with
 | none=> ∀e∈es,e.key≠k
 | some (i,v)=> ∃e,es[i]? =some e/\e.key=k/\e.val=v
theorem sameNow_ok {kd:TypeDesc}{a b:Value}{c:Bool}(h:Instr.sameNow kd a b=some c):c=true<->a=b:=by
 unfold Instr.sameNow at h;split at h
 ·split at h
  ·rename_i hk
   subst hk;cases h
   simp
  ·cases h
 ·cases h
  rw[byteArray_beq];simp
 ·cases h
  simp
 ·cases h
def FindFrom(es:List MapEntry)(k:Value)(i:Nat)(r:Option (Nat×Value)):Prop:=
 match r with
 | none=> ∀e∈es,e.key≠k
 | some (j,v)=> i<=j/\∃e,es[j-i]? =some e/\e.key=k/\e.val=v
theorem FindFrom.cons {e:MapEntry}{es:List MapEntry}{k:Value}{i:Nat}{r:Option (Nat×Value)}(h:FindFrom es k (i+1) r)(hne:e.key≠k):FindFrom (e::es) k i r:=by
 cases r with
 | none=>
  intro x hx;rcases List.mem_cons.1 hx with rfl|hx
  ·exact hne
  ·exact h x hx
 | some p=>
  obtain⟨j,v⟩:=p;obtain⟨h1,x,h2,h3,h4⟩:=h;refine⟨oM,x,?_,h3,h4⟩;rw[show j-i=(j-(i+1))+1 by omega];simpa using h2
theorem findNow_ok {kd:TypeDesc}{k:Value}:∀ {es:List MapEntry} {i:Nat} {r:Option (Nat×Value)},Instr.findNow kd k es i=some r->FindFrom es k i r
 | [],i,r,h=> by
  simp only[Instr.findNow,Option.some.injEq] at h;subst h;intro e he;cases he
 | e ::es,i,r,h=> by
  unfold Instr.findNow at h;split at h
  ·rename_i hs
   cases h
   exact⟨Nat.le_refl _,e,by simp,((sameNow_ok hs).1 rfl).symm,rfl⟩
  ·rename_i hs
   refine(findNow_ok h).cons fun he=> ?_;have:=(sameNow_ok hs).2 he.symm;cases this
  ·cases h
theorem vwp_findAsking {dp:Nat}(hdp:dp<=10000){t:TypeId}{k:Value}{H:View}{Q:Option (Nat×Value)->View->Prop}(hk:KeyFl E dp t k):∀ {es:List MapEntry} {i:Nat},(∀e∈es,KeyFl E dp t e.key)->(∀r,FindFrom es k i r->Q r H)->vwp P (Instr.findAsking t k es i) H Q
 | [],i,_,h=> h none (fun e he=> by cases he)
 | e ::es,i,hes,h=> by
  unfold Instr.findAsking;obtain⟨r,l,ht,rfl,hf⟩:=hk;obtain⟨r',l',ht',he,hf'⟩:=hes e (by simp);rw[ht] at ht';cases ht'
  rw[he];refine vwp_bind (Op.equal t _ _) _ (vwp_equalIn dp 10000 hdp ht hf hf' fun b hb=> ?_);cases b with
  | true=>
   refine h _ ⟨Nat.le_refl _,e,by simp,?_,rfl⟩;rw[he,hb.1 rfl]
  | false=>
   refine vwp_findAsking hdp ⟨r,l,ht,rfl,hf⟩ (fun x hx=> hes x (by simp[hx])) fun r' hr'=> h r' (hr'.cons ?_);rw[he];intro e;have:=hb.2 ((valOf_inj ht hf hf').1 e.symm);cases this
theorem vwp_findKey {dp:Nat}(hdp:dp<=10000){t:TypeId}{dd:TypeDesc}{k:Value}{es:List MapEntry}{H:View}{Q:Option (Nat×Value)->View->Prop}(hk:KeyFl E dp t k)(hd:P.underlying t=some dd)(hes:∀e∈es,KeyFl E dp t e.key)(h:∀r,FindOk es k r->Q r H):vwp P (Instr.findKey t k es) H Q:=by
 refine vwp_bind (underlying t) _ (vwp_underlying hd ?_);have fin:∀r,FindFrom es k 0 r->Q r H:=fun r hr=> h r (by
  cases r with
  | none=> exact hr
  | some p=> exact⟨hr.2.choose,by simpa using hr.2.choose_spec⟩)
 split
 ·rename_i r hr
  exact fin r (findNow_ok hr)
 ·exact vwp_findAsking hdp hk hes fin
theorem vwp_forEach {α:Type}{f:α->Unit->Sem (ForInStep Unit)}{H:View}{Q:Unit->View->Prop}:∀ {xs:List α},(∀x∈xs,∀Q':ForInStep Unit->View->Prop,Q' (.yield ()) H->vwp P (f x ()) H Q')->Q () H->vwp P (forIn xs () f) H Q
 | [],_,hq=> hq
 | x::xs,hf,hq=> by
  rw[List.forIn_cons];exact vwp_bind (f x ()) _ (hf x (by simp) _ (vwp_forEach (fun y hy=> hf y (by simp[hy])) hq))
theorem flat_underlying {dp:Nat}{t:TypeId}{l:List Value}(h:flat E dp t l):∃r dd,E.ty t=some r/\P.underlying t=some dd:=by
 cases dp with
 | zero=> exact h.elim
 | succ dp=>
  unfold flat at h;split at h
  ·exact h.elim
  ·rename_i r ht
   have hag:=(E.ok _ _ ht).agg;unfold tyAgg at hag;cases hu:P.underlying t with
   | none=> rw[hu] at hag;cases hag
   | some dd=> exact⟨r,dd,ht,rfl⟩
theorem vwp_checkKey {e:Bool}{H:View}:∀(d D:Nat),d<=D->∀ {t:TypeId} {r:TyRow} {l:List Value} {Q:Unit->View->Prop},E.ty t=some r->flat E d t l->Q () H->vwp P (Instr.checkKey e D t (valOf r.agg l)) H Q
 | 0,_,_,_,_,_,_,_,hf,_=> hf.elim
 | d+1,0,h,_,_,_,_,_,_,_=> by omega
 | d + 1,D+1,hd,t,r,l,Q,ht,hf,hq=> by
  have ha:∀b,aggOf r.ds=some b->r.agg=b:=fun b hb=> ds_agg (E.ok _ _ ht).ds (E.ok _ _ ht).agg hb;unfold flat at hf;rw[ht] at hf;simp only at hf;cases hds:r.ds with
  | int k=>
   rw[hds] at hf ha;obtain⟨i,rfl⟩:=hf;rw[ha _ rfl];exact vwp_bind (underlying t) _ (vwp_underlying (ds_int ((E.ok _ _ ht).ds.trans hds)) hq)
  | bool=>
   rw[hds] at hf ha;obtain⟨i,rfl⟩:=hf;rw[ha _ rfl];exact vwp_bind (underlying t) _ (vwp_underlying (ds_bool ((E.ok _ _ ht).ds.trans hds)) hq)
  | str=>
   rw[hds] at hf ha;obtain⟨i,rfl⟩:=hf;rw[ha _ rfl];exact vwp_bind (underlying t) _ (vwp_underlying (ds_str ((E.ok _ _ ht).ds.trans hds)) hq)
  | struct fs=>
   rw[hds] at hf ha;rw[ha _ rfl];obtain⟨hc,hall⟩:=hf;obtain⟨a,hu,hn,_,hfs⟩:=ds_struct ((E.ok _ _ ht).ds.trans hds);refine vwp_bind (underlying t) _ (vwp_underlying hu ?_);show vwp P ((forIn a () fun(f:Field) (_:Unit)=> (if f.name≠ "_" then(part f.type ⟨l⟩ f.offset).bind fun x=> (Instr.checkKey e D f.type x).bind fun _=> Sem.pure (ForInStep.yield ()) else Sem.pure (ForInStep.yield ()):Sem (ForInStep Unit))).bind fun _=> Sem.pure ()) H Q;refine vwp_bind _ _ ?_;rw[<-Array.forIn_toList];refine vwp_forEach (fun f hf Q' hQ'=> ?_) hq;rw[if_pos (hn f hf).1];have hmem:(f.type,f.offset,((P.info? f.type).map (·.size)).getD 0)∈fs:=by rw[hfs];exact List.mem_map.2 ⟨f,hf,rfl⟩
   obtain⟨g1,rf,g2,g3,g4⟩:=hall _ hmem;simp only at g1 g2 g3 g4;rw[<-g3] at g1 g4;refine vwp_bind _ _ (vwp_partChunk g2 g4 (fun hg=> ?_) ?_)
   ·have:=flat_one g1 g2 hg;simp only[chunk,List.length_take,List.length_drop] at this;omega
   exact vwp_bind _ _ (vwp_checkKey d D oM g2 g1 hQ')
  | arr m et=>
   rw[hds] at hf ha;rw[ha _ rfl];obtain⟨re,hre,hlen,hall⟩:=hf;refine vwp_bind (underlying t) _ (vwp_underlying (ds_arr ((E.ok _ _ ht).ds.trans hds)) ?_);show vwp P ((forIn [:m] () fun(i:Nat) (_:Unit)=> ((sizeOf et).bind fun s=> (part et ⟨l⟩ (i*s)).bind fun x=> (Instr.checkKey e D et x).bind fun _=> Sem.pure (ForInStep.yield ()):Sem (ForInStep Unit))).bind fun _=> Sem.pure ()) H Q;refine vwp_bind _ _ ?_;rw[Std.Legacy.Range.forIn_eq_forIn_range'];refine vwp_forEach (fun i hi Q' hQ'=> ?_) hq;have him:i<m:=by
    simp only[Std.Legacy.Range.size,List.mem_range'_1] at hi;omega
   have hle:i*re.size+re.size<=l.length:=by
    rw[hlen,<-Nat.succ_mul];exact Nat.mul_le_mul_right _ him
   refine vwp_bind _ _ (vwp_sizeOf (E.ok _ _ hre).size ?_);refine vwp_bind _ _ (vwp_partChunk hre hle (fun hg=> ?_) ?_)
   ·have:=flat_one (hall i him) hre hg;simp only[chunk,List.length_take,List.length_drop] at this;omega
   exact vwp_bind _ _ (vwp_checkKey d D oM hre (hall i him) hQ')
  | slice e=> rw[hds] at hf;exact hf.elim
  | map k e=> rw[hds] at hf;exact hf.elim
  | other=> rw[hds] at hf;exact hf.elim
theorem Or.makeMap {t:TypeId}(hop:o.op=.makeMap t none)(hd:o.dst=some d)(hn:d<n)(hk:∀blk,K ((d,.map (some blk))::R) ((blk,true,.map #[] 0)::L)):Or M n H₀ R L o K:=
 .newObj (val:=fun blk=> .map (some blk)) hd hn (fun H tmps _ hr Q hQ=> by
  unfold execOp;rw[hop];exact fun blk hb=> hQ blk hb) hk
def foundV(z:Value)(r:Option (Nat×Value))(ok:Bool):Value:=
 match ok,r with
 | true,some (_,v)=> .tuple #[v,.bool true]
 | true,none=> .tuple #[z,.bool false]
 | false,some (_,v)=> v
 | false,none=> z
theorem Or.lookup(dp:Nat){t kt et:TypeId}{x y:Operand}{ok:Bool}{m:Nat}{k:Value}{es:Array MapEntry}{cl:Nat}{r re:TyRow}(hop:o.op=.lookup t x y ok)(hx:evR R x=some (.map (some m)))(hy:evR R y=some k)
  (hb:∀H,SymSt H₀ L H->∃f,H m=some (f,.map es cl)) (ht:E.ty t=some r) (hds:r.ds=.map kt et) (hre:E.ty et=some re) (hdp:dp<=10000) (hk:KeyFl E dp kt k) (hes:∀e∈es.toList,KeyFl E dp kt e.key) (hd:o.dst=some d) (hn:d<n)
  (hq:∀r,FindOk es.toList k r->K ((d,foundV re.zero r ok)::R) L):Or M n H₀ R L o K:=
 .val hd hn fun H tmps hs hr=> by
  unfold execOp;rw[hop];simp only[hr.ev hx,hr.ev hy];obtain⟨f,hbm⟩:=hb H hs;obtain⟨rk,l,htk,rfl,hf⟩:=hk;obtain⟨_,dd,_,hdd⟩:=flat_underlying hf;refine vwp_bind (Instr.lookup t _ _ ok) _ ?_;refine vwp_bind (underlying t) _ (vwp_underlying (ds_map ((E.ok _ _ ht).ds.trans hds)) ?_);refine⟨f,.map es cl,hbm,by simp,rfl,?_⟩;show vwp P ((Instr.checkKey es.isEmpty 10000 kt (valOf rk.agg l)).bind fun _=> _) H _;refine vwp_bind _ _ (vwp_checkKey dp 10000 hdp htk hf ?_);refine vwp_bind (Instr.findKey kt _ es.toList) _ (vwp_findKey hdp ⟨rk,l,htk,rfl,hf⟩ hdd hes fun r hr'=> ?_);have fin:=hq r hr';cases r with
  | none=>
   refine vwp_bind (zeroValue et) _ (vwp_zeroValue (E.ok _ _ hre).zero ?_);cases ok <;> exact⟨_,rfl,_,hs,fin⟩
  | some p=>
   obtain⟨i,v⟩:=p;cases ok <;> exact⟨_,rfl,_,hs,fin⟩
def mapPut(es:Array MapEntry)(cl:Nat)(k v:Value)(r:Option (Nat×Value)):Obj:=
 match r with
 | some (i,_)=> .map (es.modify i fun e=> { e with key:=k,val:=v }) cl
 | none=> .map (es.push { key:=k,val:=v,born:=cl }) (cl+1)
theorem Or.mapUpdate(i dp:Nat){t kt et:TypeId}{x y z:Operand}{m:Nat}{k v:Value}{es:Array MapEntry}{cl:Nat}{r:TyRow}(hop:o.op=.mapUpdate t x y z)(hx:evR R x=some (.map (some m)))(hy:evR R y=some k)(hz:evR R z=some v)
  (hi:L[i]? =some (m,true,.map es cl)) (ht:E.ty t=some r) (hds:r.ds=.map kt et) (hdp:dp<=10000) (hk:KeyFl E dp kt k) (hes:∀e∈es.toList,KeyFl E dp kt e.key) (hd:o.dst=none)
  (hq:∀r,FindOk es.toList k r->K R (L.set i (m,true,mapPut es cl k v r))):Or M n H₀ R L o K:=
 .non hd fun H tmps hs hr=> by
  unfold execOp;rw[hop];simp only[hr.ev hx,hr.ev hy,hr.ev hz];have hbm:=hs.get hi;have hk':=hk;obtain⟨rk,l,htk,hkl,hf⟩:=hk;obtain⟨_,dd,_,hdd⟩:=flat_underlying hf;refine vwp_bind (Instr.mapUpdate t _ _ _) _ ?_;refine vwp_bind (underlying t) _ (vwp_underlying (ds_map ((E.ok _ _ ht).ds.trans hds)) ?_);refine⟨true,.map es cl,hbm,by simp,rfl,?_⟩;show vwp P ((Instr.checkKey false 10000 kt k).bind fun _=> _) H _;rw[hkl];refine vwp_bind _ _ (vwp_checkKey dp 10000 hdp htk hf ?_);rw[<-hkl];refine vwp_bind (Instr.findKey kt _ es.toList) _ (vwp_findKey hdp hk' hdd hes fun r hr'=> ?_);have fin:=hq r hr';cases r with
  | none=> exact⟨⟨_,hbm,by simp⟩,rfl,rfl,_,hs.set hi _,fin⟩
  | some p=>
   obtain⟨j,w⟩:=p;obtain⟨e,he,hek,_⟩:=hr';have hkey:((es[j]?).map (·.key)).getD k=k:=by
    have:es[j]? =some e:=by simpa using he
    rw[this];simp[hek]
   show vwp P ((Instr.keyThatStays (((es[j]?).map (·.key)).getD k) k).bind fun _=> _) H _;rw[hkey];have hstay:∀Q:Value->View->Prop,Q k H->vwp P (Instr.keyThatStays k k) H Q:=by
    intro Q hQ;unfold Instr.keyThatStays;split
    ·exact hQ
    ·refine vwp_bind (choose _) _ ?_;intro t';show Q (if _ then k else k) H;simpa using hQ
   refine vwp_bind _ _ (hstay _ ?_);exact⟨⟨_,hbm,by simp⟩,rfl,rfl,_,hs.set hi _,fin⟩
theorem Or.range {t kt et:TypeId}{x:Operand}{m:Nat}{es:Array MapEntry}{cl:Nat}{r:TyRow}(hop:o.op=.range t x)(hx:evR R x=some (.map (some m)))(hb:∀H,SymSt H₀ L H->∃f,H m=some (f,.map es cl))(ht:E.ty t=some r)(hds:r.ds=.map kt et)
  (hd:o.dst=some d) (hn:d<n) (hk:∀blk,K ((d,.pointer (some ⟨blk,0,none⟩))::R) ((blk,true,.mapIter (some m) cl #[] cl)::L)):Or M n H₀ R L o K:=
 .newObj (val:=fun blk=> .pointer (some ⟨blk,0,none⟩)) hd hn (fun H tmps hs hr Q hQ=> by
  unfold execOp;rw[hop];simp only[hr.ev hx];obtain⟨f,hbm⟩:=hb H hs;refine vwp_bind (Instr.range t _) _ ?_;refine vwp_bind (underlying t) _ (vwp_underlying (ds_map ((E.ok _ _ ht).ds.trans hds)) ?_);exact⟨f,.map es cl,hbm,by simp,rfl,fun blk hb=> hQ blk hb⟩) hk
theorem Or.next(i:Nat){x:Operand}{it m:Nat}{es:Array MapEntry}{cl:Nat}{seen:Array Nat}(hop:o.op=.next x false)(hx:evR R x=some (.pointer (some ⟨it,0,none⟩)))(hi:L[i]? =some (it,true,.mapIter (some m) cl seen cl))
  (hb:∀H,SymSt H₀ L H->∃f,H m=some (f,.map es cl)) (hborn:∀e∈es.toList,e.born<cl) (hd:o.dst=some d) (hn:d<n)
  (hq1:∀e∈es.toList,seen.contains e.born=false->K ((d,.tuple #[.bool true,e.key,e.val])::R) (L.set i (it,true,.mapIter (some m) cl (seen.push e.born) cl)))
  (hq2:(∀e∈es.toList,seen.contains e.born=true)->K ((d,.tuple #[.bool false])::R) L):Or M n H₀ R L o K:=
 .val hd hn fun H tmps hs hr=> by
  unfold execOp;rw[hop];simp only[hr.ev hx];have hit:=hs.get hi;obtain⟨f,hbm⟩:=hb H hs;refine vwp_bind (Instr.next _ false _) _ ?_;refine⟨true,_,hit,by simp,rfl,?_⟩;refine⟨f,.map es cl,hbm,by simp,rfl,?_⟩;show vwp P (if(!seen.isEmpty && !es.isEmpty&&es.all fun x=> decide (x.born≥cl))=true then _ else _) H _;rw[if_neg (by
   simp only[Bool.and_eq_true,Bool.not_eq_true',Array.all_eq_true_iff_forall_mem,decide_eq_true_eq,not_and];rintro⟨_,hne⟩ hall;have hpos:0<es.size:=by
    rcases Nat.eq_zero_or_pos es.size with h|h
    ·rw[Array.isEmpty_eq_false_iff] at hne;exact absurd (Array.eq_empty_of_size_eq_zero h) hne
    ·exact h
   have h1:=hall es[0] (Array.getElem_mem _);have h2:=hborn es[0] (by simp);omega)]
  generalize hleft:(es.filter fun e=> !seen.contains e.born)=left;have hold:(left.filter fun e=> decide (e.born<cl))=left:=by
   rw[Array.filter_eq_self];intro e he;rw[<-hleft] at he;simp only[Array.mem_filter] at he;exact decide_eq_true (hborn e (by simpa using he.1))
  have hnew:(left.filter fun e=> decide (e.born≥cl))=#[]:=by
   rw[Array.filter_eq_empty_iff];intro e he;rw[<-hleft] at he;simp only[Array.mem_filter] at he;have:=hborn e (by simpa using he.1);simp only[decide_eq_true_eq];omega
  simp only[hold,hnew,Array.append_empty];refine vwp_bind (choose _) _ ?_;intro t;by_cases hem:left.isEmpty=true
  ·have he:left=#[]:=by simpa using hem
   subst he;have hall:∀e∈es.toList,seen.contains e.born=true:=by
    intro e he;rw[Array.filter_eq_empty_iff] at hleft;have:=hleft (a:=e) (by simpa using he);simpa using this
   have fin:=hq2 hall;have hsz:((if(#[]:Array MapEntry).isEmpty=true then #[none] else #[])++Array.map some (#[]:Array MapEntry))=#[none]:=by simp
   rw[hsz];have goal:∃v,Next.value (.tuple #[.bool false])=Next.value v/\∃L',SymSt H₀ L' H/\K ((d,v)::R) L':=⟨_,rfl,_,hs,fin⟩
   exact goal
  ·have hsz:0<left.size:=by
    rcases Nat.eq_zero_or_pos left.size with h|h
    ·exact absurd (by rw[Array.eq_empty_of_size_eq_zero h];rfl) hem
    ·exact h
   simp only[hem,Bool.false_eq_true,if_false,Array.empty_append,Array.size_map];have hlt:(if(Question.mapNext left.size).forced=true then 0 else(Question.mapNext left.size).cut t)<left.size:=by
    split
    ·exact hsz
    ·exact Nat.mod_lt _ hsz
   generalize hj:(if(Question.mapNext left.size).forced=true then 0 else(Question.mapNext left.size).cut t)=j at hlt ⊢;have hget:(left.map some)[j]? =some (some left[j]):=by simp[hlt]
   show vwp P (match (left.map some)[j]? with
    | some (some e)=> _
    | some none=> _
    | none=> _) H _
   rw[hget];have hmem:left[j]∈es.filter fun e=> !seen.contains e.born:=by
    have:left[j]∈left:=Array.getElem_mem _;generalize left[j]=z at this ⊢;rw[hleft];exact this
   simp only[Array.mem_filter] at hmem;refine⟨⟨_,hit,by simp⟩,rfl,_,rfl,_,hs.set hi _,?_⟩;refine hq1 _ ?_ ?_
   ·simpa using hmem.1
   ·simpa using hmem.2
theorem Or.entry {x:Operand}{it m st:Nat}{es:Array MapEntry}{cl s:Nat}{seen:Array Nat}{e:MapEntry}(hop:o.op=.entry x)(hx:evR R x=some (.pointer (some ⟨it,0,none⟩)))(hi:∀H,SymSt H₀ L H->∃f,H it=some (f,.mapIter (some m) s seen cl))
  (hb:∀H,SymSt H₀ L H->∃f,H m=some (f,.map es cl)) (hlast:seen.back? =some st) (hfind:es.find? (fun e=> e.born==st)=some e) (hd:o.dst=some d) (hn:d<n) (hk:K ((d,.tuple #[e.key,e.val])::R) L):Or M n H₀ R L o K:=
 .val hd hn fun H tmps hs hr=> by
  unfold execOp;rw[hop];simp only[hr.ev hx];obtain⟨f,hit⟩:=hi H hs;obtain⟨f',hbm⟩:=hb H hs;refine vwp_bind (Instr.entry _) _ ?_;refine⟨f,_,hit,by simp,rfl,?_⟩;simp only[Sem.bind,hlast];refine⟨f',.map es cl,hbm,by simp,rfl,?_⟩;have hcl:(cl !=cl)=false:=by simp
  simp only[Sem.bind,hcl,hfind,Bool.false_eq_true,if_false];exact⟨_,rfl,_,hs,hk⟩
end
section
variable {P:Program}{E:Env P}{M:Md P}{St:View->Goroutine->Prop}{n:Nat}{b:FB}{H₀:View}{cs:List Frame}{R R':Rg}{L L':Bl}{ds:List Deferred}{k:List Item}
def AllIn:Rg->Rg->Prop
 | [],_=> True
 | (d,v)::R',R=> lk R d=some v/\AllIn R' R
theorem AllIn.sub:∀ {R' R:Rg},AllIn R' R->∀d v,lk R' d=some v->lk R d=some v
 | [],_,_,_,_,h=> by simp[lk] at h
 | (e,u)::R',R,⟨h1,h2⟩,d,v,h=> by
  rw[lk_cons] at h;split at h
  ·rename_i he
   subst he;cases h
   exact h1
  ·exact h2.sub d v h
theorem Tc.loopInv {σ:Type}(I:σ->Rg×Bl)(μ:σ->Nat){body:Code}
  (step:∀s,(∀s',μ s'<μ s->Tc M St n b H₀ cs (I s').1 (I s').2 ds (.inLoop body::k))->Tc M St n b H₀ cs (I s).1 (I s).2 ds (.code body:: .inLoop body::k)) (s₀:σ):
  Tc M St n b H₀ cs (I s₀).1 (I s₀).2 ds (.code (.loop body)::k):=by
 have key:∀(m:Nat) (s:σ),μ s<=m->Tc M St n b H₀ cs (I s).1 (I s).2 ds (.code body:: .inLoop body::k):=by
  intro m;induction m with
  | zero=> exact fun s hs=> step s fun s' hlt=> by omega
  | succ m ih=> exact fun s hs=> step s fun s' hlt=> .inLoop (ih s' oM)
 exact .loop (key _ s₀ (Nat.le_refl _))
def packV:List Value->Value
 | [v]=> v
 | vs=> .tuple ⟨vs⟩
def ResOk(E:Env P)(R:Rg)(L:Bl):List ResultVar->List Value->Prop
 | [],[]=> True
 | .tmp t::rs,v::vs=> lk R t=some v/\ResOk E R L rs vs
 | .cell a t::rs,v::vs=> (∃(i blk off:Nat) (f:Bool) (c:List Value) (e:TypeId) (fz:Nat×Nat) (r:TyRow),lk R a=some (.pointer (some ⟨blk,off,none⟩))/\L[i]? =some (blk,f,Obj.cells ⟨c⟩ e fz)/\E.ty t=some r/\ldL r.agg r.size c off=some v)/\ResOk E R L rs vs
 | _,_=> False
def resSem(tmps:Array Value):ResultVar->Sem Value
 | .tmp t=> .pure (tmps.getD t undef)
 | .cell a t=> (asAddr (tmps.getD a undef)).bind fun x=> loadVar t x
theorem vwp_resList {H:View}{tmps:Array Value}(hs:SymSt H₀ L H)(hr:RegOk n R tmps):∀ {rs:List ResultVar} {vs:List Value} {Q:List Value->View->Prop},ResOk E R L rs vs->Q vs H->vwp P (rs.mapM (resSem tmps)) H Q
 | [],[],Q,_,h=> h
 | .tmp t::rs,v::vs,Q,⟨h1,h2⟩,h=> by
  rw[List.mapM_cons];refine vwp_bind (resSem tmps (.tmp t)) _ ?_;show vwp P ((rs.mapM (resSem tmps)).bind fun us=> .pure (tmps.getD t undef::us)) H Q;refine vwp_bind _ _ (vwp_resList hs hr h2 ?_);have:tmps.getD t undef=v:=by simp[hr.2 _ _ h1]
  rw[this];exact h
 | .cell a t::rs,v::vs,Q,⟨⟨i,blk,off,f,c,e,fz,r,g1,g2,g3,g4⟩,h2⟩,h=> by
  rw[List.mapM_cons];have:tmps.getD a undef=.pointer (some ⟨blk,off,none⟩):=by simp[hr.2 _ _ g1]
  refine vwp_bind (resSem tmps (.cell a t)) _ ?_;show vwp P ((asAddr (tmps.getD a undef)).bind fun x=> loadVar t x) H _;rw[this];show vwp P (loadVar t ⟨blk,off,none⟩) H _;refine vwp_loadVar (E.ok _ _ g3).agg (E.ok _ _ g3).size (hs.get g2) g4 ?_;show vwp P ((rs.mapM (resSem tmps)).bind fun us=> .pure (v::us)) H Q;exact vwp_bind _ _ (vwp_resList hs hr h2 h)
 | [],_::_,_,h,_=> by cases h
 | .tmp _::_,[],_,h,_=> by cases h
 | .cell _ _::_,[],_,h,_=> by cases h
theorem vwp_results {fn:Func}{H:View}{tmps:Array Value}{rs:List ResultVar}{vs:List Value}{Q:Value->View->Prop}(hs:SymSt H₀ L H)(hr:RegOk n R tmps)(hrs:fn.results=rs.toArray)(ho:ResOk E R L rs vs)(h:Q (packV vs) H):
  vwp P (results fn tmps) H Q:=by
 have e1:results fn tmps=(rs.mapM (resSem tmps)).bind fun us=> .pure (if h:us.toArray.size=1 then us.toArray[0] else .tuple us.toArray):=by
  have gen:∀F:ResultVar->Sem Value,F=resSem tmps->∀K:Array Value->Sem Value,(rs.toArray.mapM F).bind K=(rs.mapM (resSem tmps)).bind fun us=> K us.toArray:=by
   intro F hF K;rw[List.mapM_toArray,hF];show((rs.mapM (resSem tmps)) >>=fun us=> (Pure.pure us.toArray:Sem (Array Value))) >>=K=_;rw[bind_assoc];rfl
  unfold results;rw[hrs];exact gen _ (funext fun r=> by cases r <;> rfl) _
 rw[e1];refine vwp_bind _ _ (vwp_resList hs hr ho ?_);show Q _ H
 match vs,h with
 | [],h=> exact h
 | [v],h=> exact h
 | v::u::w,h=> exact h
theorem Tc.retN {fn:Func}{c:Frame}{Q:Value->View->Prop}{f:FuncId}{rs:List ResultVar}{vs:List Value}(hK:∀v H',Q v H'->T M St H' (G (c.finish v) cs))(hf:P.funcs[f]? =some fn)(hrs:fn.results=rs.toArray)
  (ho:ResOk E R L rs vs) (h:∀H',SymSt H₀ L H'->Q (packV vs) H'):Tc M St n ⟨f,.normal,none⟩ H₀ (c::cs) R L [] (.code .ret::k):=
 .ret hK hf fun H _ hs hr=> vwp_results hs hr hrs ho (h H hs)
theorem Tc.overN {fn:Func}{c:Frame}{Q:Value->View->Prop}{f:FuncId}{rs:List ResultVar}{vs:List Value}(hK:∀v H',Q v H'->T M St H' (G (c.finish v) cs))(hf:P.funcs[f]? =some fn)(hrs:fn.results=rs.toArray)
  (ho:ResOk E R L rs vs) (h:∀H',SymSt H₀ L H'->Q (packV vs) H'):Tc M St n ⟨f,.normal,none⟩ H₀ (c::cs) R L [] []:=
 .over hK hf fun H _ hs hr=> vwp_results hs hr hrs ho (h H hs)
end
end Go.RL
