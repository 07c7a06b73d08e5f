/-
 Texts of the proofs over baudot/dial.
-/
import Derived.Conc.Listed
import Derived.IntWalk
import Derived.Laws.Sem
namespace Go.RL
theorem oM {p:Prop}(h:p:=by omega):p:=h
theorem kR {p:Prop}(h:p:=by kernel_rfl):p:=h
theorem dE {p:Prop}(h:p:=by decide):p:=h
theorem sL {α:Type}{L' L:List α}(h:L'.Sublist L:=by repeat (first|exact List.Sublist.refl _|exact List.nil_sublist _|exact List.sublist_append_left _ _|apply List.Sublist.cons_cons|apply List.Sublist.cons)):L'.Sublist L:=h
end Go.RL
namespace Go.RL
open Go.Conc
abbrev View:=Nat->Option (Bool×Obj)
def Sat(H:View)(w:World):Prop:=∀b f o,H b=some (f,o)->w.heap[b]? =some o
def View.put(H:View)(b:Nat)(x:Bool×Obj):View:=fun c=> if c=b then some x else H c
theorem View.jB(H:View)(b:Nat)(x:Bool×Obj):H.put b x b=some x:=by simp[View.put]
theorem View.GA(H:View){b c:Nat}(x:Bool×Obj)(h:c≠b):H.put b x c=H c:=by simp[View.put,h]
def xR:Mark->Bool
 | .noRoom | .extern _=> true
 | _=> false
def jL(H:View)(e:Event):Prop:=
 match e.loc with
 | .cell a=> e.sync=false/\∃f o,H a.block=some (f,o)/\(e.write=true->f=true)
 | .obj r=> e.sync=false/\∃f o,H r=some (f,o)/\(e.write=true->f=true)
 | .mark m=> xR m=true/\e.write=false/\e.sync=true
 | _=> False
structure Trans(H:View)(w:World)(H':View)(w':World)(es:Array Event):Prop where
 tape:w'.tape=w.tape
 os:w'.os=w.os
 out:w'.output=w.output
 size:w.heap.size<=w'.heap.size
 TD:∀b,b<w.heap.size->(∀o,H b≠some (true,o))->w'.heap[b]? =w.heap[b]?
 sat:Sat H' w'
 ext:∀b f o',H' b=some (f,o')->(∃o,H b=some (f,o))\/(f=true/\w.heap.size<=b)
 keep:∀b f o,H b=some (f,o)->∃o',H' b=some (f,o')/\(f=false->o'=o)
 ev:∀e∈es,jL H' e
theorem jL.keep {H H':View}{e:Event}(h:jL H e)(k:∀b f o,H b=some (f,o)->∃o',H' b=some (f,o')/\(f=false->o'=o)):jL H' e:=by
 unfold jL at *;split
 ·rename_i a heq
  rw[heq] at h;obtain⟨h1,f,o,h2,h3⟩:=h;obtain⟨o',h4,_⟩:=k _ _ _ h2;exact⟨h1,f,o',h4,h3⟩
 ·rename_i r heq
  rw[heq] at h;obtain⟨h1,f,o,h2,h3⟩:=h;obtain⟨o',h4,_⟩:=k _ _ _ h2;exact⟨h1,f,o',h4,h3⟩
 ·rename_i heq
  rw[heq] at h;exact h
 ·rename_i h1 h2 h3
  split at h
  ·rename_i heq;exact(h1 _ heq).elim
  ·rename_i heq;exact(h2 _ heq).elim
  ·rename_i heq;exact(h3 _ heq).elim
  ·exact h
theorem Trans.refl {H:View}{w:World}(h:Sat H w):Trans H w H w #[]:=
 ⟨rfl,rfl,rfl,Nat.le_refl _,fun _ _ _=> rfl,h,fun _ _ o h=> .inl ⟨o,h⟩,fun _ _ o h=> ⟨o,h,fun _=> rfl⟩,by simp⟩
theorem Trans.trans {H H' H'':View}{w w' w'':World}{es es':Array Event}(h:Trans H w H' w' es)(k:Trans H' w' H'' w'' es'):Trans H w H'' w'' (es++es') where
 tape:=k.tape.trans h.tape
 os:=k.os.trans h.os
 out:=k.out.trans h.out
 size:=Nat.le_trans h.size k.size
 TD:=fun b hb ho=> by
  rw[k.TD b (Nat.lt_of_lt_of_le hb h.size) ?_,h.TD b hb ho];intro o RP;rcases h.ext _ _ _ RP with ⟨o,h1⟩|⟨_,h2⟩
  ·exact ho o h1
  ·omega
 sat:=k.sat
 ext:=fun b f o' hb=> by
  rcases k.ext b f o' hb with ⟨o,h1⟩|⟨h1,h2⟩
  ·exact h.ext b f o h1
  ·exact .inr ⟨h1,Nat.le_trans h.size h2⟩
 keep:=fun b f o hb=> by
  obtain⟨o1,h1,h2⟩:=h.keep b f o hb;obtain⟨o2,h3,h4⟩:=k.keep b f o1 h1;exact⟨o2,h3,fun hf=> (h4 hf).trans (h2 hf)⟩
 ev:=fun e he=> by
  rcases Array.mem_append.1 he with he|he
  ·exact(h.ev e he).keep k.keep
  ·exact k.ev e he
theorem Trans.sub {H H':View}{w w':World}{es es':Array Event}(h:Trans H w H' w' es)(k:∀e∈es',e∈es):Trans H w H' w' es':=
 { h with ev:=fun e he=> h.ev e (k e he) }
def EA {α:Type}(P:Program):Sem α->View->(α->View->Prop)->Prop
 | .pure a,H,Q=> Q a H
 | .load m a k,H,Q=> m=.plain/\a.spot=none/\∃f c e fz v,H a.block=some (f,.cells c e fz)/\c[a.off]? =some v/\EA P (k v) H Q
 | .store m a v k,H,Q=> m=.plain/\a.spot=none/\(∀cs,v≠ .agg cs)/\(∀cs,v≠ .tuple cs)/\
  ∃ c e fz,H a.block=some (true,.cells c e fz)/\a.off<c.size/\(fz.1<=a.off&&a.off<fz.2)=false/\
   EA P k (H.put a.block (true,.cells (c.setIfInBounds a.off v) e fz)) Q
 | .new o k,H,Q=> ∀b,H b=none->EA P (k b) (H.put b (true,o)) Q
 | .shape r k,H,Q=> (∃f c e fz,H r=some (f,.cells c e fz)/\EA P (k (some (e,c.size))) H Q)
 | .getObj r k,H,Q=> ∃f o,H r=some (f,o)/\(∀c e fz,o≠ .cells c e fz)/\o.isChan=false/\EA P (k o) H Q
 | .setObj r o k,H,Q=> (∃o₀,H r=some (true,o₀)/\(∀c e fz,o₀≠ .cells c e fz))/\o.isChan=false/\EA P k (H.put r (true,o)) Q
 | .choose q k,H,Q=> ∀t,EA P (k (if q.forced then 0 else q.cut t)) H Q
 | .program k,H,Q=> EA P (k P) H Q
 | .mark m k,H,Q=> xR m=true/\EA P k H Q
 | .frozen a k,H,Q=> ∃f c e fz,H a.block=some (f,.cells c e fz)/\EA P (k (fz.1<=a.off&&a.off<fz.2)) H Q
 | .freeze a n k,H,Q=> n≠0/\∃c e fz,H a.block=some (true,.cells c e fz)/\EA P k (H.put a.block (true,.cells c e (if fz.1==fz.2 then(a.off,a.off+n) else(min fz.1 a.off,max fz.2 (a.off+n))))) Q
 | .sys _ _,_,_=> False
 | .halt _,_,_=> False
theorem Sat.lt {H:View}{w:World}(h:Sat H w){b:Nat}{x:Bool×Obj}(hb:H b=some x):b<w.heap.size:=
 (Array.getElem?_eq_some_iff.1 (h b x.1 x.2 (by rw[hb]))).1
theorem Sat.cell {H:View}{w:World}(h:Sat H w){a:Addr}{f:Bool}{c:Array Value}{e:TypeId}{fz:Nat×Nat}(hb:H a.block=some (f,.cells c e fz))(hs:a.spot=none):
 w.cell? a=c[a.off]? :=by simp[World.cell?,h _ _ _ hb,hs]
theorem Sat.frozen {H:View}{w:World}(h:Sat H w){a:Addr}{f:Bool}{c:Array Value}{e:TypeId}{fz:Nat×Nat}(hb:H a.block=some (f,.cells c e fz)):
 w.frozen? a=(fz.1<=a.off&&a.off<fz.2):=by simp[World.frozen?,h _ _ _ hb]
theorem Sat.put {H:View}{w w':World}{b:Nat}{x:Bool×Obj}(h:Sat H w)(hb:w'.heap[b]? =some x.2)(ho:∀c,c≠b->c<w.heap.size->w'.heap[c]? =w.heap[c]?):Sat (H.put b x) w':=by
 intro c f o hc;by_cases e:c=b
 ·subst e;rw[View.jB] at hc;cases hc
  exact hb
 ·rw[View.GA _ _ e] at hc;rw[ho c e (h.lt hc)];exact h c f o hc
theorem Trans.new {H:View}{w:World}(h:Sat H w)(o:Obj):H w.heap.size=none/\Trans H w (H.put w.heap.size (true,o)) { w with heap:=w.heap.push o } #[]:=by
 have hn:H w.heap.size=none:=by
  cases hx:H w.heap.size with
  | none=> rfl
  | some x=> have:=h.lt hx;omega
 refine⟨hn,rfl,rfl,rfl,by simp,fun b hb _=> by simp[Array.getElem?_push,Nat.ne_of_lt hb],h.put (by simp) fun c _ hc=> by simp[Array.getElem?_push,Nat.ne_of_lt hc],fun b f o' hb=> ?_,fun b f o₀ hb=> ?_,by simp⟩
 ·by_cases e:b=w.heap.size
  ·subst e;rw[View.jB] at hb;cases hb
   exact .inr ⟨rfl,Nat.le_refl _⟩
  ·rw[View.GA _ _ e] at hb;exact .inl ⟨o',hb⟩
 ·have e:b≠w.heap.size:=by intro e;rw[e,hn] at hb;cases hb
  exact⟨o₀,by rw[View.GA _ _ e];exact hb,fun _=> rfl⟩
theorem Trans.jH {H:View}{w w':World}{b:Nat}{o o':Obj}(h:Sat H w)(hb:H b=some (true,o))(h1:w'.tape=w.tape)(h2:w'.os=w.os)(h3:w'.output=w.output)(h4:w'.heap.size=w.heap.size)
  (h5:w'.heap[b]? =some o') (h6:∀c,c≠b->w'.heap[c]? =w.heap[c]?):Trans H w (H.put b (true,o')) w' #[]:=by
 refine⟨h1,h2,h3,oM,fun c _ hc=> h6 c ?_,h.put h5 fun c hc _=> h6 c hc,fun c f o₁ hc=> ?_,fun c f o₁ hc=> ?_,by simp⟩
 ·intro e;subst e;exact hc o hb
 ·by_cases e:c=b
  ·subst e;rw[View.jB] at hc;cases hc
   exact .inl ⟨o,hb⟩
  ·rw[View.GA _ _ e] at hc;exact .inl ⟨o₁,hc⟩
 ·by_cases e:c=b
  ·subst e;rw[hb] at hc;cases hc
   exact⟨o',View.jB ..,by simp⟩
  ·exact⟨o₁,by rw[View.GA _ _ e];exact hc,fun _=> rfl⟩
theorem Trans.list {H H':View}{w w':World}{es:Array Event}(h:Trans H w H' w' es)(e:Event)(he:jL H' e):Trans H w H' w' (#[e]++es):=
 have k:∀x∈#[e]++es,jL H' x:=fun x hx=> by
  rcases Array.mem_append.1 hx with hx|hx
  ·simp at hx;subst hx;exact he
  ·exact h.ev x hx
 { h with ev:=k }
theorem jI(es₀ es:Array Event)(e:Event):es₀.push e++es=es₀++(#[e]++es):=by
 apply Array.ext'
 simp
theorem SC {α:Type}{P:Program}(s:Sem α):∀ {H:View} {w:World} {Q:α->View->Prop} (es₀:Array Event),Sat H w->EA P s H Q-> 
   ∃a H' w' es,s.runT P w es₀=(.ok a w',es₀++es)/\Trans H w H' w' es/\Q a H':=by
 induction s with
 | pure a=> exact fun es₀ hs hq=> ⟨a,_,_,#[],by simp only[Sem.runT,Array.append_empty],.refl hs,hq⟩
 | load m a k ih=>
   intro H w Q es₀ hs ⟨hm,XO,f,c,e,fz,v,hb,hv,hq⟩;subst hm;obtain⟨r,H',w',es,h1,h2,h3⟩:=ih v (es₀.push ⟨.cell a,false,false⟩) hs hq;refine⟨r,H',w',#[⟨.cell a,false,false⟩]++es,?_,h2.list _ ?_,h3⟩
   · have hc:w.cell? a=some v:=by rw[hs.cell hb XO,hv]
     simp only[Sem.runT,hc];have:(Mode.plain==Mode.atomic)=false:=rfl;rw[this,h1,jI]
   · obtain⟨o',h4,_⟩:=h2.keep _ _ _ hb;exact⟨rfl,f,o',h4,by simp⟩
 | store m a v k ih=>
   intro H w Q es₀ hs ⟨hm,XO,hv1,hv2,c,e,fz,hb,ho,hf,hq⟩;subst hm;have I0:=hs _ _ _ hb;have xB:=hs.lt hb;have VP:(w.setCell a v).heap.size=w.heap.size:=by simp[World.setCell]
   have T0:(w.setCell a v).heap[a.block]? =some (.cells (c.setIfInBounds a.off v) e fz):=by
     simp[World.setCell,Array.getElem?_modify,I0,XO]
   have cV:∀d,d≠a.block->(w.setCell a v).heap[d]? =w.heap[d]? :=by
     intro d hd;simp only[World.setCell,Array.getElem?_modify];rw[if_neg (Ne.symm hd)]
   have ht:Trans H w (H.put a.block (true,.cells (c.setIfInBounds a.off v) e fz)) (w.setCell a v) #[]:=.jH hs hb rfl rfl rfl VP T0 cV;obtain⟨r,H',w',es,h1,h2,h3⟩:=ih (es₀.push ⟨.cell a,true,false⟩) ht.sat hq;refine⟨r,H',w',#[⟨.cell a,true,false⟩]++es,?_,?_,h3⟩
   · have hc:w.cell? a=some (c[a.off]'ho):=by rw[hs.cell hb XO];simp[ho]
     have hz:w.frozen? a=false:=by rw[hs.frozen hb];exact hf
     have:(Mode.plain==Mode.atomic)=false:=rfl;cases v <;> first
       | exact absurd rfl (hv1 _)
       | exact absurd rfl (hv2 _)
       | (simp only[Sem.runT,hc,hz,this]
          simp only[Bool.false_eq_true,if_false,h1,jI])
   · have:=ht.trans h2;simp only[Array.empty_append] at this;refine this.list _ ⟨rfl,true,?_⟩;obtain⟨o',h4,_⟩:=this.keep _ _ _ hb;exact⟨o',h4,fun _=> rfl⟩
 | new o k ih=>
   intro H w Q es₀ hs hq;obtain⟨hn,ht⟩:=Trans.new hs o;obtain⟨r,H',w',es,h1,h2,h3⟩:=ih w.heap.size es₀ ht.sat (hq _ hn);exact⟨r,H',w',es,by simp only[Sem.runT];exact h1,by simpa using ht.trans h2,h3⟩
 | shape r k ih=>
   intro H w Q es₀ hs ⟨f,c,e,fz,hb,hq⟩;obtain⟨x,H',w',es,h1,h2,h3⟩:=ih _ es₀ hs hq;exact⟨x,H',w',es,by simp only[Sem.runT,World.shape?,hs _ _ _ hb];exact h1,h2,h3⟩
 | freeze a n k ih=>
   intro H w Q es₀ hs ⟨hn,c,e,fz,hb,hq⟩;have I0:=hs _ _ _ hb;have VP:(w.freeze a n).heap.size=w.heap.size:=by simp[World.freeze,hn]
   have T0:(w.freeze a n).heap[a.block]? =some (.cells c e (if fz.1==fz.2 then(a.off,a.off+n) else(min fz.1 a.off,max fz.2 (a.off+n)))):=by
     simp[World.freeze,hn,Array.getElem?_modify,I0]
   have cV:∀d,d≠a.block->(w.freeze a n).heap[d]? =w.heap[d]? :=by
     intro d hd;simp only[World.freeze,if_neg hn,Array.getElem?_modify];rw[if_neg (Ne.symm hd)]
   have ht:Trans H w (H.put a.block (true,.cells c e (if fz.1==fz.2 then(a.off,a.off+n) else(min fz.1 a.off,max fz.2 (a.off+n))))) (w.freeze a n) #[]:=.jH hs hb (by simp[World.freeze,hn]) (by simp[World.freeze,hn]) (by simp[World.freeze,hn]) VP T0 cV;obtain⟨r,H',w',es,h1,h2,h3⟩:=ih es₀ ht.sat hq;exact⟨r,H',w',es,by simp only[Sem.runT];exact h1,by simpa using ht.trans h2,h3⟩
 | frozen a k ih=>
   intro H w Q es₀ hs ⟨f,c,e,fz,hb,hq⟩;obtain⟨x,H',w',es,h1,h2,h3⟩:=ih _ es₀ hs hq;exact⟨x,H',w',es,by simp only[Sem.runT];rw[hs.frozen hb];exact h1,h2,h3⟩
 | getObj r k ih=>
   intro H w Q es₀ hs ⟨f,o,hb,hc,LW,hq⟩;obtain⟨x,H',w',es,h1,h2,h3⟩:=ih o (es₀.push ⟨.obj r,false,o.isChan⟩) hs hq;refine⟨x,H',w',#[⟨.obj r,false,o.isChan⟩]++es,?_,h2.list _ ?_,h3⟩
   · simp only[Sem.runT,hs _ _ _ hb];cases o <;> first
       | exact absurd rfl (hc _ _ _)
       | rw[h1,jI]
   · obtain⟨o',h4,_⟩:=h2.keep _ _ _ hb;exact⟨LW,f,o',h4,by simp⟩
 | setObj r o k ih=>
   intro H w Q es₀ hs ⟨⟨o₀,hb,hc⟩,LW,hq⟩;have ht:Trans H w (H.put r (true,o)) { w with heap:=w.heap.setIfInBounds r o } #[]:=
     .jH hs hb rfl rfl rfl (by simp) (by simp[hs.lt hb]) fun c hc=> by simp[Ne.symm hc]
   obtain⟨x,H',w',es,h1,h2,h3⟩:=ih (es₀.push ⟨.obj r,true,o.isChan⟩) ht.sat hq;refine⟨x,H',w',#[⟨.obj r,true,o.isChan⟩]++es,?_,?_,h3⟩
   · simp only[Sem.runT,hs _ _ _ hb];cases o₀ <;> first
       | exact absurd rfl (hc _ _ _)
       | rw[h1,jI]
   · have:=ht.trans h2;simp only[Array.empty_append] at this;obtain⟨o',h4,_⟩:=this.keep _ _ _ hb;exact this.list _ ⟨LW,true,o',h4,fun _=> rfl⟩
 | choose q k ih=>
   intro H w Q es₀ hs hq;by_cases hf:q.forced=true
   · have:=hq 0;rw[if_pos hf] at this;obtain⟨x,H',w',es,h1,h2,h3⟩:=ih 0 es₀ hs this;exact⟨x,H',w',es,by simp only[Sem.runT,hf,if_true];exact h1,h2,h3⟩
   · have:=hq (w.tape w.drawn q);rw[if_neg hf] at this;have hs':Sat H { w with drawn:=w.drawn+1 }:=hs;obtain⟨x,H',w',es,h1,h2,h3⟩:=ih _ es₀ hs' this;exact⟨x,H',w',es,by simp only[Sem.runT];rw[if_neg hf];exact h1,{ h2 with tape:=h2.tape,os:=h2.os,out:=h2.out,size:=h2.size,TD:=h2.TD },h3⟩
 | sys c k ih=> exact fun _ _ hq=> hq.elim
 | program k ih=>
   intro H w Q es₀ hs hq;obtain⟨x,H',w',es,h1,h2,h3⟩:=ih P es₀ hs hq;exact⟨x,H',w',es,by simp only[Sem.runT];exact h1,h2,h3⟩
 | mark m k ih=>
   intro H w Q es₀ hs ⟨hm,hq⟩;obtain⟨x,H',w',es,h1,h2,h3⟩:=ih (es₀.push ⟨.mark m,false,true⟩) hs hq;refine⟨x,H',w',#[⟨.mark m,false,true⟩]++es,?_,h2.list ⟨.mark m,false,true⟩ ⟨hm,rfl,rfl⟩,h3⟩;simp only[Sem.runT];rw[h1,jI]
 | halt h=> exact fun _ _ hq=> hq.elim
theorem aA {α β:Type}{P:Program}(s:Sem α)(k:α->Sem β){Q:β->View->Prop}:∀ {H:View},EA P s H (fun a H'=> EA P (k a) H' Q)->EA P (s.bind k) H Q:=by
 induction s with
 | pure a=> exact fun h=> h
 | load m a c ih=> exact fun⟨h1,h2,f,x,e,fz,v,h3,h4,h5⟩=> ⟨h1,h2,f,x,e,fz,v,h3,h4,ih v h5⟩
 | store m a v c ih=> exact fun⟨h1,h2,h3,h4,x,e,fz,h5,h6,h7,h8⟩=> ⟨h1,h2,h3,h4,x,e,fz,h5,h6,h7,ih h8⟩
 | new o c ih=> exact fun h b hb=> ih b (h b hb)
 | shape r c ih=> exact fun⟨f,x,e,fz,h1,h2⟩=> ⟨f,x,e,fz,h1,ih _ h2⟩
 | freeze a n c ih=> exact fun⟨h1,x,e,fz,h2,h3⟩=> ⟨h1,x,e,fz,h2,ih h3⟩
 | frozen a c ih=> exact fun⟨f,x,e,fz,h1,h2⟩=> ⟨f,x,e,fz,h1,ih _ h2⟩
 | getObj r c ih=> exact fun⟨f,o,h1,h2,h3,h4⟩=> ⟨f,o,h1,h2,h3,ih _ h4⟩
 | setObj r o c ih=> exact fun⟨h1,h2,h3⟩=> ⟨h1,h2,ih h3⟩
 | choose q c ih=> exact fun h t=> ih _ (h t)
 | sys c k ih=> exact fun h=> h.elim
 | program c ih=> exact fun h=> ih _ h
 | mark m c ih=> exact fun⟨h1,h2⟩=> ⟨h1,ih h2⟩
 | halt h=> exact fun h=> h.elim
theorem SA {α:Type}{P:Program}(s:Sem α){Q Q':α->View->Prop}(hQ:∀a H,Q a H->Q' a H):∀ {H:View},EA P s H Q->EA P s H Q':=by
 induction s with
 | pure a=> exact fun h=> hQ _ _ h
 | load m a c ih=> exact fun⟨h1,h2,f,x,e,fz,v,h3,h4,h5⟩=> ⟨h1,h2,f,x,e,fz,v,h3,h4,ih v h5⟩
 | store m a v c ih=> exact fun⟨h1,h2,h3,h4,x,e,fz,h5,h6,h7,h8⟩=> ⟨h1,h2,h3,h4,x,e,fz,h5,h6,h7,ih h8⟩
 | new o c ih=> exact fun h b hb=> ih b (h b hb)
 | shape r c ih=> exact fun⟨f,x,e,fz,h1,h2⟩=> ⟨f,x,e,fz,h1,ih _ h2⟩
 | freeze a n c ih=> exact fun⟨h1,x,e,fz,h2,h3⟩=> ⟨h1,x,e,fz,h2,ih h3⟩
 | frozen a c ih=> exact fun⟨f,x,e,fz,h1,h2⟩=> ⟨f,x,e,fz,h1,ih _ h2⟩
 | getObj r c ih=> exact fun⟨f,o,h1,h2,h3,h4⟩=> ⟨f,o,h1,h2,h3,ih _ h4⟩
 | setObj r o c ih=> exact fun⟨h1,h2,h3⟩=> ⟨h1,h2,ih h3⟩
 | choose q c ih=> exact fun h t=> ih _ (h t)
 | sys c k ih=> exact fun h=> h.elim
 | program c ih=> exact fun h=> ih _ h
 | mark m c ih=> exact fun⟨h1,h2⟩=> ⟨h1,ih h2⟩
 | halt h=> exact fun h=> h.elim
def View.plus(H F:View):View:=fun b=>
 match H b with
 | some x=> some x
 | none=> F b
def Dj(H F:View):Prop:=∀b x,F b=some x->H b=none
structure Md(P:Program) where
 main:Bool
 ok:World->Prop
 Ph:View->Goroutine->(View->Goroutine->Prop)->Prop
 frame:∀H g Po F,Ph H g Po->Dj H F->Ph (H.plus F) g fun H'' g'=> ∃H',H''=H'.plus F/\Dj H' F/\Po H' g'
def lL {P:Program}(M:Md P)(H:View)(g:Goroutine)(X:View->Goroutine->Prop):Prop:=
 g.status=.running/\∀w,Sat H w->M.ok w->∃g' w' es H',stepG P M.main g w=.go g' w' es/\Trans H w H' w' es/\X H' g'
def T {P:Program}(M:Md P)(St:View->Goroutine->Prop)(H:View)(g:Goroutine):Prop:=
 ∀X:View->Goroutine->Prop,(∀H g,St H g->X H g)->(∀H g,lL M H g X->X H g)->(∀H g Po,M.Ph H g Po->(∀H' g',Po H' g'->X H' g')->X H g)->X H g
section
variable {P:Program}{M:Md P}{St:View->Goroutine->Prop}{H:View}{g:Goroutine}
theorem lL.mono {X Y:View->Goroutine->Prop}(h:lL M H g X)(hXY:∀H g,X H g->Y H g):lL M H g Y:=
 ⟨h.1,fun w hw ho=> let ⟨g',w',es,H',h1,h2,h3⟩:=h.2 w hw ho;⟨g',w',es,H',h1,h2,hXY _ _ h3⟩⟩
theorem T.stop(h:St H g):T M St H g:=fun _ h1 _ _=> h1 _ _ h
theorem T.step(h:lL M H g (T M St)):T M St H g:=fun X h1 h2 h3=> h2 _ _ (h.mono fun _ _ k=> k X h1 h2 h3)
theorem T.phase {Po:View->Goroutine->Prop}(h:M.Ph H g Po)(k:∀H' g',Po H' g'->T M St H' g'):T M St H g:=
 fun X h1 h2 h3=> h3 _ _ _ h fun H' g' hp=> k H' g' hp X h1 h2 h3
theorem T.bind {St':View->Goroutine->Prop}(h:T M St H g)(k:∀H' g',St H' g'->T M St' H' g'):T M St' H g:=
 h (T M St') k (fun _ _ hs=> .step hs) (fun _ _ _ hp hk=> .phase hp hk)
theorem T.ind {X:View->Goroutine->Prop}(h:T M St H g)(h1:∀H g,St H g->X H g)(h2:∀H g,lL M H g (fun H g=> T M St H g/\X H g)->X H g)
  (h3:∀H g Po,M.Ph H g Po->(∀H' g',Po H' g'->T M St H' g'/\X H' g')->X H g):X H g:=
 (h (fun H g=> T M St H g/\X H g) (fun _ _ hs=> ⟨.stop hs,h1 _ _ hs⟩) (fun _ _ hs=> ⟨.step (hs.mono fun _ _ k=> k.1),h2 _ _ hs⟩)
  (fun _ _ _ hp hk=> ⟨.phase hp fun H' g' q=> (hk H' g' q).1,h3 _ _ _ hp hk⟩)).2
theorem PA {H F:View}{b:Nat}{x:Bool×Obj}(h:H b=some x):H.plus F b=some x:=by simp[View.plus,h]
theorem vB {H F:View}{b:Nat}(h:H b=none):H.plus F b=F b:=by simp[View.plus,h]
theorem Trans.frame {H H' F:View}{w w':World}{es:Array Event}(h:Trans H w H' w' es)(hd:Dj H F)(hs:Sat (H.plus F) w):Dj H' F/\Trans (H.plus F) w (H'.plus F) w' es:=by
 have UO:Dj H' F:=by
  intro b x hb;cases hx:H' b with
  | none=> rfl
  | some y=>
   obtain⟨f,o'⟩:=y;have xB:b<w.heap.size:=hs.lt (x:=x) (by rw[vB (hd b x hb)];exact hb);rcases h.ext b f o' hx with ⟨o,h1⟩|⟨_,h2⟩
   ·rw[hd b x hb] at h1;cases h1
   ·omega
 refine⟨UO,h.tape,h.os,h.out,h.size,fun b hb ho=> h.TD b hb fun o hx=> ho o (PA hx),fun b f o hb=> ?_,fun b f o' hb=> ?_,fun b f o hb=> ?_,fun e he=> ?_⟩
 ·unfold View.plus at hb;split at hb
  ·rename_i x hx
   cases hb
   exact h.sat b f o hx
  ·rename_i hx
   have h1:=hd b _ hb;have xB:b<w.heap.size:=hs.lt (x:=(f,o)) (by rw[vB h1];exact hb);rw[h.TD b xB fun o hx=> by rw[h1] at hx;cases hx];exact hs b f o (by rw[vB h1];exact hb)
 ·unfold View.plus at hb;split at hb
  ·rename_i x hx
   cases hb
   rcases h.ext b f o' hx with ⟨o,h1⟩|h2
   ·exact .inl ⟨o,PA h1⟩
   ·exact .inr h2
  ·exact .inl ⟨o',by rw[vB (hd b _ hb)];exact hb⟩
 ·unfold View.plus at hb;split at hb
  ·rename_i x hx
   cases hb
   obtain⟨o',h1,h2⟩:=h.keep b f o hx;exact⟨o',PA h1,h2⟩
  ·exact⟨o,by rw[vB (UO b _ hb)];exact hb,fun _=> rfl⟩
 ·have:=h.ev e he;unfold jL at this ⊢;split
  ·rename_i a heq
   rw[heq] at this;obtain⟨h1,f,o,h2,h3⟩:=this;exact⟨h1,f,o,PA h2,h3⟩
  ·rename_i r heq
   rw[heq] at this;obtain⟨h1,f,o,h2,h3⟩:=this;exact⟨h1,f,o,PA h2,h3⟩
  ·rename_i heq
   rw[heq] at this;exact this
  ·rename_i h1 h2 h3
   split at this
   ·rename_i heq;exact(h1 _ heq).elim
   ·rename_i heq;exact(h2 _ heq).elim
   ·rename_i heq;exact(h3 _ heq).elim
   ·exact this
theorem T.frame(h:T M St H g):∀F,Dj H F->T M (fun H'' g'=> ∃H',H''=H'.plus F/\Dj H' F/\St H' g') (H.plus F) g:=by
 refine h (fun H g=> ∀F,Dj H F->T M (fun H'' g'=> ∃H',H''=H'.plus F/\Dj H' F/\St H' g') (H.plus F) g) (fun H g hs F hd=> .stop ⟨H,rfl,hd,hs⟩) (fun H g hs F hd=> .step ⟨hs.1,fun w hw ho=> ?_⟩) (fun H g Po hp hk F hd=> .phase (M.frame H g Po F hp hd) ?_)
 ·obtain⟨g',w',es,H',h1,h2,h3⟩:=hs.2 w (fun b f o hb=> hw b f o (PA hb)) ho;obtain⟨h4,h5⟩:=h2.frame hd hw;exact⟨g',w',es,_,h1,h5,h3 F h4⟩
 ·rintro H'' g' ⟨H',rfl,UO,hpo⟩;exact hk H' g' hpo F UO
theorem T.GD {g':Goroutine}(hs:g.status=.running)(h:∀w,stepG P M.main g w=.go g' w #[])(k:T M St H g'):T M St H g:=
 .step ⟨hs,fun w hw _=> ⟨g',w,#[],H,h w,.refl hw,k⟩⟩
end
structure FB where
 fn:FuncId
 kind:CallKind
 rd:Option Nat
def FB.at(b:FB)(tmps:Array Value)(ds:List Deferred)(todo:List Item):Frame:=
 { fn:=b.fn,tmps,todo,defers:=ds,mode:=.run,kind:=b.kind,roundOf:=b.rd }
def FB.back(b:FB)(tmps:Array Value)(ds:List Deferred)(todo:List Item):Frame:=
 { fn:=b.fn,tmps,todo,defers:=ds,mode:=.returning,kind:=b.kind,roundOf:=b.rd }
def CB(tmps:Array Value):Operand->Value
 | .tmp t=> tmps.getD t undef
 | .const v=> v
 | .global g=> .pointer (some ⟨g,0,none⟩)
 | .func f=> .func (.func f) #[] #[]
def OB(tmps:Array Value)(dst:Option Tmp)(v:Value):Array Value:=
 match dst with
 | some d=> tmps.setIfInBounds d v
 | none=> tmps
theorem FB.eval_at(b:FB)(tmps:Array Value)(ds:List Deferred)(todo:List Item):(b.at tmps ds todo).eval=CB tmps:=by
 funext x;cases x <;> rfl
theorem FB.finish_at(b:FB)(tmps:Array Value)(ds:List Deferred)(ops:Array Oper)(i:Nat)(rest:List Nat)(k:List Item)(v:Value):
  (b.at tmps ds (.inRegion ops (i::rest)::k)).finish v=b.at (OB tmps ((ops[i]?).bind (·.dst)) v) ds (.inRegion ops rest::k):=by
 cases h:(ops[i]?).bind (·.dst) <;> simp[Frame.finish,FB.at,OB,h]
section
variable {P:Program}{M:Md P}{St:View->Goroutine->Prop}{H:View}{b:FB}{tmps:Array Value}{ds:List Deferred}{k:List Item}{cs:List Frame}
theorem T.skip(h:T M St H (G (b.at tmps ds k) cs)):T M St H (G (b.at tmps ds (.code .skip::k)) cs):=
 .GD rfl (fun _=> by simp[G,stepG,stepG.exec,FB.at]) h
theorem T.inBlock {id:Nat}(h:T M St H (G (b.at tmps ds k) cs)):T M St H (G (b.at tmps ds (.inBlock id::k)) cs):=
 .GD rfl (fun _=> by simp[G,stepG,stepG.exec,FB.at]) h
theorem T.seq {x y:Code}(h:T M St H (G (b.at tmps ds (.code x:: .code y::k)) cs)):T M St H (G (b.at tmps ds (.code (.seq x y)::k)) cs):=
 .GD rfl (fun _=> by simp[G,stepG,stepG.exec,FB.at]) h
theorem T.cond {c:Operand}{x y:Code}{t:Bool}(hc:CB tmps c=.bool t)(h:T M St H (G (b.at tmps ds (.code (if t then x else y)::k)) cs)):
  T M St H (G (b.at tmps ds (.code (.cond c x y)::k)) cs):=
 .GD rfl (fun _=> by
  have h':(b.at tmps ds (.code (.cond c x y)::k)).eval c=.bool t:=by rw[FB.eval_at];exact hc
  simp only[FB.at] at h';simp[G,stepG,stepG.exec,FB.at,h']) h
theorem T.block {id:Nat}{c:Code}(h:T M St H (G (b.at tmps ds (.code c:: .inBlock id::k)) cs)):T M St H (G (b.at tmps ds (.code (.block id c)::k)) cs):=
 .GD rfl (fun _=> by simp[G,stepG,stepG.exec,FB.at]) h
theorem T.loop {c:Code}(h:T M St H (G (b.at tmps ds (.code c:: .inLoop c::k)) cs)):T M St H (G (b.at tmps ds (.code (.loop c)::k)) cs):=
 .GD rfl (fun _=> by simp[G,stepG,stepG.exec,FB.at]) h
theorem T.inLoop {c:Code}(h:T M St H (G (b.at tmps ds (.code c:: .inLoop c::k)) cs)):T M St H (G (b.at tmps ds (.inLoop c::k)) cs):=
 .GD rfl (fun _=> by simp[G,stepG,stepG.exec,FB.at]) h
theorem T.exit {id:Nat}{k':List Item}(he:exitTo id k=some k')(h:T M St H (G (b.at tmps ds k') cs)):T M St H (G (b.at tmps ds (.code (.exit id)::k)) cs):=
 .GD rfl (fun _=> by simp[G,stepG,stepG.exec,FB.at,he]) h
theorem T.region {id:Nat}{ops:Array Oper}(h:T M St H (G (b.at tmps ds (.inRegion ops (List.range ops.size)::k)) cs)):T M St H (G (b.at tmps ds (.code (.region id ops false)::k)) cs):=
 .GD rfl (fun _=> by simp[G,stepG,stepG.exec,FB.at]) h
theorem T.NJ {ops:Array Oper}(h:T M St H (G (b.at tmps ds k) cs)):T M St H (G (b.at tmps ds (.inRegion ops []::k)) cs):=
 .GD rfl (fun _=> by simp[G,stepG,stepG.exec,FB.at]) h
theorem T.aD(hr:b.rd=none)(h:T M St H (G (b.back tmps ds (.code .ret::k)) cs)):T M St H (G (b.at tmps ds (.code .ret::k)) cs):=
 .GD rfl (fun _=> by simp[G,stepG,stepG.exec,FB.at,FB.back,hr]) h
theorem T.over(hr:b.rd=none)(h:T M St H (G (b.back tmps ds []) cs)):T M St H (G (b.at tmps ds []) cs):=
 .GD rfl (fun _=> by simp[G,stepG,stepG.exec,FB.at,FB.back,hr]) h
theorem T.TE {id:Nat}{ops:Array Oper}(h:∀t,T M St H (G (b.at tmps ds (.inRegion ops (Region.schedule (P.follows .mixedOrders) ops t)::k)) cs)):
  T M St H (G (b.at tmps ds (.code (.region id ops true)::k)) cs):=
 .step ⟨rfl,fun w hw _=> ⟨_,{ w with drawn:=w.drawn+1 },#[],H,by simp[G,stepG,stepG.exec,FB.at,choose,Sem.run,Question.forced,Question.cut];rfl,
  { Trans.refl hw with tape:=rfl,os:=rfl,out:=rfl,size:=Nat.le_refl _,TD:=fun _ _ _=> rfl,sat:=hw },h _⟩⟩
theorem T.JJ {ops:Array Oper}{i:Nat}{rest:List Nat}{o:Oper}(ho:ops[i]? =some o)(hw:Region.wanted o (yielded ops tmps)=false)
  (h:T M St H (G (b.at (OB tmps o.dst undef) ds (.inRegion ops rest::k)) cs)):T M St H (G (b.at tmps ds (.inRegion ops (i::rest)::k)) cs):=by
 refine .GD rfl (fun w=> ?_) h;have hf:=FB.finish_at b tmps ds ops i rest k undef;rw[ho] at hf;simp only[Option.bind_some] at hf;rw[<-hf];simp[G,stepG,stepG.exec,FB.at,ho,hw]
def aDN {P:Program}(M:Md P)(St:View->Goroutine->Prop)(b:FB)(tmps:Array Value)(ds:List Deferred)(ops:Array Oper)(i:Nat)(rest:List Nat)(k:List Item)(cs:List Frame)(dst:Option Tmp)(n:Next)(H:View):Prop:=
 match n with
 | .value v=> T M St H (G (b.at (OB tmps dst v) ds (.inRegion ops rest::k)) cs)
 | .skip=> T M St H (G (b.at (OB tmps dst undef) ds (.inRegion ops rest::k)) cs)
 | .enter f args=> T M St H (G (Frame.enter P f args .normal) (b.at tmps ds (.inRegion ops (i::rest)::k)::cs))
 | .round l f tmps' assign body=> T M St H (G (Frame.round l f tmps' assign body .normal) (b.at tmps ds (.inRegion ops (i::rest)::k)::cs))
 | .defer d=> T M St H (G (b.at (OB tmps dst undef) (d::ds) (.inRegion ops rest::k)) cs)
 | _=> False
theorem T.op {ops:Array Oper}{i:Nat}{rest:List Nat}{o:Oper}(ho:ops[i]? =some o)(hw:Region.wanted o (yielded ops tmps)=true)(hd:b.rd=none\/∀c,o.op≠ .defer c)
  (h:EA P (execOp (CB tmps) o) H (aDN M St b tmps ds ops i rest k cs o.dst)):T M St H (G (b.at tmps ds (.inRegion ops (i::rest)::k)) cs):=by
 refine .step ⟨rfl,fun w hs _=> ?_⟩;obtain⟨n,H',w',es,h1,h2,h3⟩:=SC _ #[] hs h;rw[Array.empty_append] at h1;have hg:stepG P M.main (G (b.at tmps ds (.inRegion ops (i::rest)::k)) cs) w=stepG.apply P true (b.at tmps ds (.inRegion ops (i::rest)::k)) cs none (execOp (b.at tmps ds (.inRegion ops (i::rest)::k)).eval o) w:=by
  rcases hd with hd|hd
  ·simp[G,stepG,stepG.exec,stepG.oper,Frame.oper?,FB.at,ho,hw,hd]
  ·cases kA:o.op <;> first
    | exact absurd kA (hd _)
    | (cases cT:b.rd <;> simp[G,stepG,stepG.exec,stepG.oper,Frame.oper?,FB.at,ho,hw,kA,cT])
 rw[FB.eval_at] at hg;have UD:∀v,(b.at tmps ds (.inRegion ops (i::rest)::k)).finish v=b.at (OB tmps o.dst v) ds (.inRegion ops rest::k):=by
  intro v;rw[FB.finish_at,ho];rfl
 generalize YI:seen P (b.at tmps ds (.inRegion ops (i::rest)::k)).fn (if(b.at tmps ds (.inRegion ops (i::rest)::k)).kind==.early then #[] else es)=es';have BK:∀e∈es',e∈es:=fun e he=> by
  rw[<-YI] at he;have:=mem_seen he;split at this
  ·simp at this
  ·exact this
 have LS:∀x:GStep,(stepG.apply P true (b.at tmps ds (.inRegion ops (i::rest)::k)) cs none (execOp (CB tmps) o) w=GStep.after es' x)->stepG P M.main (G (b.at tmps ds (.inRegion ops (i::rest)::k)) cs) w=GStep.after es' x:=
  fun x hx=> hg.trans hx
 cases n <;> try exact h3.elim
 case value v=>
  refine⟨_,w',es',H',(LS (.go (G (b.at (OB tmps o.dst v) ds (.inRegion ops rest::k)) cs) w') ?_).trans (by simp[GStep.after]),h2.sub BK,h3⟩;rw[<-YI,<-UD];unfold stepG.apply;rw[if_pos rfl,h1];rfl
 case skip=>
  refine⟨_,w',es',H',(LS (.go (G (b.at (OB tmps o.dst undef) ds (.inRegion ops rest::k)) cs) w') ?_).trans (by simp[GStep.after]),h2.sub BK,h3⟩;rw[<-YI,<-UD];unfold stepG.apply;rw[if_pos rfl,h1];rfl
 case enter f args=>
  refine⟨_,w',es',H',(LS (.go (G (Frame.enter P f args .normal) (b.at tmps ds (.inRegion ops (i::rest)::k)::cs)) w') ?_).trans (by simp[GStep.after]),h2.sub BK,h3⟩;rw[<-YI];unfold stepG.apply;rw[if_pos rfl,h1];rfl
 case round l f tmps' assign body=>
  refine⟨_,w',es',H',(LS (.go (G (Frame.round l f tmps' assign body .normal) (b.at tmps ds (.inRegion ops (i::rest)::k)::cs)) w') ?_).trans (by simp[GStep.after]),h2.sub BK,h3⟩;rw[<-YI];unfold stepG.apply;rw[if_pos rfl,h1];rfl
 case defer d=>
  have aCH:({ b.at tmps ds (.inRegion ops (i::rest)::k) with defers:=d::ds }:Frame).finish undef=b.at (OB tmps o.dst undef) (d::ds) (.inRegion ops rest::k):=by
   have:=FB.finish_at b tmps (d::ds) ops i rest k undef;rw[ho] at this;exact this
  refine⟨_,w',es',H',(LS (.go (G (b.at (OB tmps o.dst undef) (d::ds) (.inRegion ops rest::k)) cs) w') ?_).trans (by simp[GStep.after]),h2.sub BK,h3⟩;rw[<-YI,<-aCH];unfold stepG.apply;rw[if_pos rfl,h1];rfl
theorem T.leave {fn:Func}{c:Frame}{todo:List Item}(hf:P.funcs[b.fn]? =some fn)(hk:b.kind=.normal)
  (h:EA P (results fn tmps) H fun v H'=> T M St H' (G (c.finish v) cs)):T M St H (G (b.back tmps [] todo) (c::cs)):=by
 refine .step ⟨rfl,fun w hs _=> ?_⟩;obtain⟨v,H',w',es,h1,h2,h3⟩:=SC _ #[] hs h;rw[Array.empty_append] at h1;refine⟨G (c.finish v) cs,w',seen P b.fn es,H',?_,h2.sub fun e he=> mem_seen he,h3⟩;have:stepG P M.main (G (b.back tmps [] todo) (c::cs)) w=unwind P M.main (b.back tmps [] todo) (c::cs) none w:=by
  simp[G,stepG,FB.back]
 rw[this];unfold unwind;simp only[FB.back,hf,h1,doReturn,hk,GStep.after,G,Array.append_empty]
end
abbrev Rg:=List (Nat×Value)
def lk:Rg->Nat->Option Value
 | [],_=> none
 | (e,v)::R,d=> match Nat.beq e d with
  | true=> some v
  | false=> lk R d
theorem qR(e:Nat)(v:Value)(R:Rg)(d:Nat):lk ((e,v)::R) d=if e=d then some v else lk R d:=by
 by_cases h:e=d
 ·subst h;rw[if_pos rfl,lk,Nat.beq_refl]
 ·have:Nat.beq e d=false:=by
   cases hb:Nat.beq e d with
   | false=> rfl
   | true=> exact absurd (Nat.eq_of_beq_eq_true hb) h
  rw[if_neg h,lk,this]
def RA(n:Nat)(R:Rg)(tmps:Array Value):Prop:=tmps.size=n/\∀d v,lk R d=some v->tmps[d]? =some v
abbrev Bl:=List (Nat×Bool×Obj)
def View.le(H H':View):Prop:=∀b x,H b=some x->H' b=some x
theorem View.le_refl(H:View):H.le H:=fun _ _ h=> h
theorem View.le_trans {H H' H'':View}(h:H.le H')(k:H'.le H''):H.le H'':=fun b x hb=> k b x (h b x hb)
theorem View.aAz {H:View}{b:Nat}(x:Bool×Obj)(h:H b=none):H.le (H.put b x):=fun c y hc=> by
 rw[View.GA]
 ·exact hc
 ·intro e;rw[e,h] at hc;cases hc
structure iA(H₀:View)(L:Bl)(H:View):Prop where
 nodup:(L.map (·.1)).Nodup
 out:∀x∈L,H₀ x.1=none
 at_:∀x∈L,H x.1=some x.2
 base:H₀.le H
theorem iA.nil(H:View):iA H [] H:=⟨by simp,by simp,by simp,View.le_refl H⟩
theorem iA.mono {H₀ H H':View}{L:Bl}(h:iA H₀ L H)(k:H.le H'):iA H₀ L H':=
 ⟨h.nodup,h.out,fun x hx=> k _ _ (h.at_ x hx),View.le_trans h.base k⟩
theorem iA.get {H₀ H:View}{L:Bl}(h:iA H₀ L H){i:Nat}{b:Nat}{x:Bool×Obj}(hi:L[i]? =some (b,x)):H b=some x:=
 h.at_ _ (List.mem_of_getElem? hi)
theorem iA.cons {H₀ H:View}{L:Bl}(h:iA H₀ L H){b:Nat}(x:Bool×Obj)(hb:H b=none):iA H₀ ((b,x)::L) (H.put b x) where
 nodup:=by
  simp only[List.map_cons,List.nodup_cons];refine⟨fun hm=> ?_,h.nodup⟩;obtain⟨y,hy,e⟩:=List.mem_map.1 hm;have:=h.at_ y hy;rw[e,hb] at this;cases this
 out :=fun y hy=> by
  rcases List.mem_cons.1 hy with rfl|hy
  ·cases hh:H₀ b with
   | none=> rfl
   | some z=> have:=h.base _ _ hh;rw[hb] at this;cases this
  ·exact h.out y hy
 at_ :=fun y hy=> by
  rcases List.mem_cons.1 hy with rfl|hy
  ·exact View.jB ..
  ·rw[View.GA]
   ·exact h.at_ y hy
   ·intro e;have:=h.at_ y hy;rw[e,hb] at this;cases this
 base:=View.le_trans h.base (View.aAz x hb)
theorem wR {L:Bl}(h:(L.map (·.1)).Nodup){i j:Nat}{b:Nat}{x y:Bool×Obj}(hi:L[i]? =some (b,x))(hj:L[j]? =some (b,y)):i=j:=by
 have h1:(L.map (·.1))[i]? =some b:=by simp[hi]
 have h2:(L.map (·.1))[j]? =some b:=by simp[hj]
 obtain⟨UR,e1⟩:=List.getElem?_eq_some_iff.1 h1;obtain⟨US,e2⟩:=List.getElem?_eq_some_iff.1 h2;have hp:=List.pairwise_iff_getElem.1 h;rcases Nat.lt_trichotomy i j with xB|heq|hgt
 ·exact absurd (e1.trans e2.symm) (hp i j UR US xB)
 ·exact heq
 ·exact absurd (e2.trans e1.symm) (hp j i US UR hgt)
theorem iA.set {H₀ H:View}{L:Bl}(h:iA H₀ L H){i:Nat}{b:Nat}{x:Bool×Obj}(hi:L[i]? =some (b,x))(y:Bool×Obj):iA H₀ (L.set i (b,y)) (H.put b y) where
 nodup :=by
  have:(L.set i (b,y)).map (·.1)=L.map (·.1):=by
   rw[List.map_set];apply List.ext_getElem?
   intro k;by_cases e:i=k
   ·subst e;have:=(List.getElem?_eq_some_iff.1 hi).1;rw[List.getElem?_set_self (by simpa using this)];simp[hi]
   ·rw[List.getElem?_set_ne e]
  rw[this];exact h.nodup
 out :=fun z hz=> by
  obtain⟨k,hk⟩:=List.mem_iff_getElem?.1 hz;by_cases e:i=k
  ·subst e;have:=(List.getElem?_eq_some_iff.1 hi).1;rw[List.getElem?_set_self this] at hk;cases hk
   exact h.out (b,x) (List.mem_of_getElem? hi)
  ·rw[List.getElem?_set_ne e] at hk;exact h.out _ (List.mem_of_getElem? hk)
 at_ :=fun z hz=> by
  obtain⟨k,hk⟩:=List.mem_iff_getElem?.1 hz;by_cases e:i=k
  ·subst e;have:=(List.getElem?_eq_some_iff.1 hi).1;rw[List.getElem?_set_self this] at hk;cases hk
   exact View.jB ..
  ·rw[List.getElem?_set_ne e] at hk;rw[View.GA]
   ·exact h.at_ _ (List.mem_of_getElem? hk)
   ·intro e';exact e (wR h.nodup hi (e'▸hk:L[k]? =some (b,z.2)))
 base:=fun c z hc=> by
  rw[View.GA]
  ·exact h.base _ _ hc
  ·intro e;have h1:=h.out (b,x) (List.mem_of_getElem? hi);rw[<-e,hc] at h1;cases h1
theorem iA.less {H₀ H:View}{L L':Bl}(h:iA H₀ L H)(k:L'.Sublist L):iA H₀ L' H:=
 ⟨h.nodup.sublist (k.map _),fun x hx=> h.out x (k.subset hx),fun x hx=> h.at_ x (k.subset hx),h.base⟩
section
variable {P:Program}(M:Md P)(St:View->Goroutine->Prop)(n:Nat)(b:FB)(H₀:View)(cs:List Frame)
def Tc(R:Rg)(L:Bl)(ds:List Deferred)(todo:List Item):Prop:=
 ∀H tmps,iA H₀ L H->RA n R tmps->T M St H (G (b.at tmps ds todo) cs)
def To(dl:List (Option Tmp))(R:Rg)(L:Bl)(ds:List Deferred)(l:List Oper)(k:List Item):Prop:=
 ∀(arr:Array Oper) (ix:List Nat),(∀j:Nat,(arr[j]?).bind (fun o:Oper=> o.dst)=(dl[j]?).join)->ix.map (arr[·]?)=l.map some->Tc M St n b H₀ cs R L ds (.inRegion arr ix::k)
end
section
variable {P:Program}{M:Md P}{St:View->Goroutine->Prop}{n:Nat}{b:FB}{H₀:View}{cs:List Frame}{R R':Rg}{L L':Bl}{ds:List Deferred}{k:List Item}
theorem Tc.skip(h:Tc M St n b H₀ cs R L ds k):Tc M St n b H₀ cs R L ds (.code .skip::k):=fun H tmps hs hr=> .skip (h H tmps hs hr)
theorem Tc.inBlock {id:Nat}(h:Tc M St n b H₀ cs R L ds k):Tc M St n b H₀ cs R L ds (.inBlock id::k):=fun H tmps hs hr=> .inBlock (h H tmps hs hr)
theorem Tc.seq {x y:Code}(h:Tc M St n b H₀ cs R L ds (.code x:: .code y::k)):Tc M St n b H₀ cs R L ds (.code (.seq x y)::k):=fun H tmps hs hr=> .seq (h H tmps hs hr)
theorem Tc.block {id:Nat}{c:Code}(h:Tc M St n b H₀ cs R L ds (.code c:: .inBlock id::k)):Tc M St n b H₀ cs R L ds (.code (.block id c)::k):=fun H tmps hs hr=> .block (h H tmps hs hr)
theorem Tc.exit {id:Nat}{k':List Item}(he:exitTo id k=some k')(h:Tc M St n b H₀ cs R L ds k'):Tc M St n b H₀ cs R L ds (.code (.exit id)::k):=fun H tmps hs hr=> .exit he (h H tmps hs hr)
theorem Tc.loop {c:Code}(h:Tc M St n b H₀ cs R L ds (.code c:: .inLoop c::k)):Tc M St n b H₀ cs R L ds (.code (.loop c)::k):=fun H tmps hs hr=> .loop (h H tmps hs hr)
theorem Tc.inLoop {c:Code}(h:Tc M St n b H₀ cs R L ds (.code c:: .inLoop c::k)):Tc M St n b H₀ cs R L ds (.inLoop c::k):=fun H tmps hs hr=> .inLoop (h H tmps hs hr)
def HA(R:Rg):Operand->Option Value
 | .tmp t=> lk R t
 | .const v=> some v
 | .global g=> some (.pointer (some ⟨g,0,none⟩))
 | .func f=> some (.func (.func f) #[] #[])
theorem RA.ev {tmps:Array Value}(h:RA n R tmps){x:Operand}{v:Value}(hx:HA R x=some v):CB tmps x=v:=by
 cases x with
 | tmp t=>
  have:=h.2 t v hx;simp[CB,this]
 | const u=> simpa [HA,CB] using hx
 | global g=> simpa [HA,CB] using hx
 | func f=> simpa [HA,CB] using hx
theorem RA.put {tmps:Array Value}(h:RA n R tmps){d:Nat}(hd:d<n)(v:Value):RA n ((d,v)::R) (tmps.setIfInBounds d v):=by
 refine⟨by simpa using h.1,fun e u hu=> ?_⟩;rw[qR] at hu;split at hu
 ·rename_i heq
  subst heq;cases hu
  simp[h.1,hd]
 ·rename_i nB
  rw[Array.getElem?_setIfInBounds_ne nB];exact h.2 e u hu
theorem Tc.cond {c:Operand}{x y:Code}{t:Bool}(hc:HA R c=some (.bool t))(h1:t=true->Tc M St n b H₀ cs R L ds (.code x::k))(h2:t=false->Tc M St n b H₀ cs R L ds (.code y::k)):
  Tc M St n b H₀ cs R L ds (.code (.cond c x y)::k):=fun H tmps hs hr=> by
 refine .cond (hr.ev hc) ?_;cases t with
 | true=> exact h1 rfl H tmps hs hr
 | false=> exact h2 rfl H tmps hs hr
theorem Tc.region {id:Nat}{ops:Array Oper}{dl:List (Option Tmp)}{l:List Oper}(hl:ops.toList=l)(SP:l.map (fun o:Oper=> o.dst)=dl)(h:To M St n b H₀ cs dl R L ds l k):Tc M St n b H₀ cs R L ds (.code (.region id ops false)::k):=fun H tmps hs hr=> by
 subst hl SP;refine .region (h ops _ (fun j=> ?_) ?_ H tmps hs hr)
 ·simp only[List.getElem?_map,Array.getElem?_toList];cases ops[j]? <;> rfl
 ·apply List.ext_getElem?
  intro j;simp only[List.getElem?_map];by_cases hj:j<ops.size
  ·simp[hj]
  ·have h1:(List.range ops.size)[j]? =none:=by simp;omega
   have h2:ops.toList[j]? =none:=by simp;omega
   rw[h1,h2];rfl
theorem To.done {dl:List (Option Tmp)}(h:Tc M St n b H₀ cs R L ds k):To M St n b H₀ cs dl R L ds [] k:=fun arr ix _ hx=> by
 cases ix with
 | nil=> exact fun H tmps hs hr=> .NJ (h H tmps hs hr)
 | cons i r=> simp at hx
def KA(dl:List (Option Tmp))(R:Rg)(o:Oper):Option Bool:=
 match o.guard with
 | none=> some true
 | some (j,w)=>
  match (dl[j]?).join with
  | none=> none
  | some d=>
   match lk R d with
   | some (.bool x)=> some (x==w)
   | _=> none
theorem wB {dl:List (Option Tmp)}{o:Oper}{t:Bool}{arr:Array Oper}{tmps:Array Value}(ha:∀j:Nat,(arr[j]?).bind (fun o:Oper=> o.dst)=(dl[j]?).join)(hr:RA n R tmps)(h:KA dl R o=some t):Region.wanted o (yielded arr tmps)=t:=by
 unfold KA at h;unfold Region.wanted;split at h
 ·rename_i hg
  rw[hg];simpa using h
 ·rename_i j w hg
  rw[hg];split at h
  ·cases h
  ·rename_i d hd
   split at h
   ·rename_i x hx
    simp only[yielded,ha j,hd,Option.bind_some,hr.2 d _ hx];cases h
    cases x <;> cases w <;> rfl
   ·cases h
theorem To.jN {dl:List (Option Tmp)}{o:Oper}{l:List Oper}{d:Nat}(hd:o.dst=some d)(hn:d<n)(hw:KA dl R o=some false)(h:To M St n b H₀ cs dl ((d,undef)::R) L ds l k):To M St n b H₀ cs dl R L ds (o::l) k:=fun arr ix ha hx=> by
 cases ix with
 | nil=> simp at hx
 | cons i r=>
  simp only[List.map_cons,List.cons.injEq] at hx;intro H tmps hs hr;refine .JJ hx.1 (wB ha hr hw) ?_;rw[hd];exact h arr r ha hx.2 H _ hs (hr.put hn _)
end
def YL {P:Program}(M:Md P)(fr:Frame)(H:View)(Q:Value->View->Prop):Prop:=
 ∀(St:View->Goroutine->Prop) (c:Frame) (cs:List Frame),(∀v H',Q v H'->T M St H' (G (c.finish v) cs))->T M St H (G fr (c::cs))
def bA {P:Program}(M:Md P)(f:FuncId)(args:Array Value)(H:View)(Q:Value->View->Prop):Prop:=YL M (Frame.enter P f args .normal) H Q
theorem YL.mono {P:Program}{M:Md P}{fr:Frame}{H:View}{Q Q':Value->View->Prop}(h:YL M fr H Q)(hq:∀v H',Q v H'->Q' v H'):YL M fr H Q':=
 fun St c cs hk=> h St c cs fun v H' hv=> hk v H' (hq v H' hv)
section
variable {P:Program}{M:Md P}{St:View->Goroutine->Prop}{n:Nat}{b:FB}{H₀:View}{cs:List Frame}{R R':Rg}{L L':Bl}{ds:List Deferred}{k:List Item}
theorem bA.mono {f:FuncId}{args:Array Value}{H:View}{Q Q':Value->View->Prop}(h:bA M f args H Q)(hq:∀v H',Q v H'->Q' v H'):bA M f args H Q':=
 fun St c cs hk=> h St c cs fun v H' hv=> hk v H' (hq v H' hv)
def JM(args:List Value):Rg:=go 0 args
where
 go:Nat->List Value->Rg
  | _,[]=> []
  | i,v::vs=> (i,v)::go (i+1) vs
theorem wI(vs:List Value):∀(i:Nat) (d:Nat) (v:Value),lk (JM.go i vs) d=some v->i<=d/\vs[d-i]? =some v:=by
 induction vs with
 | nil=> intro i d v h;simp[JM.go,lk] at h
 | cons a vs ih=>
  intro i d v h;simp only[JM.go,qR] at h;split at h
  ·rename_i e
   subst e;cases h
   simp
  ·rename_i e
   obtain⟨h1,h2⟩:=ih (i+1) d v h;refine⟨oM,?_⟩;have:d-i=(d-(i+1))+1:=by omega
   rw[this];simpa using h2
theorem bA.enter {f:FuncId}{fn:Func}{body:Code}{vs:List Value}{H:View}{Q:Value->View->Prop}(hf:P.funcs[f]? =some fn)(hb:fn.body=some body)(hn:fn.ntmps=n)(hv:vs.length<=n)(hs:iA H₀ L H)
  (h:∀St c cs,(∀v H',Q v H'->T M St H' (G (c.finish v) cs))->Tc M St n ⟨f,.normal,none⟩ H₀ (c::cs) (JM vs) L [] [.code body]):bA M f vs.toArray H Q:=fun St c cs hk=> by
 have:=h St c cs hk H (vs.toArray++Array.replicate (n-vs.length) undef) hs ⟨by simp;omega,fun d v hd=> ?_⟩
 ·have e:Frame.enter P f vs.toArray .normal=(⟨f,.normal,none⟩:FB).at (vs.toArray++Array.replicate (n-vs.length) undef) [] [.code body]:=by
   simp[Frame.enter,FB.at,hf,hb,hn]
  rw[e];exact this
 ·obtain⟨_,h2⟩:=wI vs 0 d v hd;simp only[Nat.sub_zero] at h2;have xB:=(List.getElem?_eq_some_iff.1 h2).1;rw[Array.getElem?_append_left (by simpa using xB)];simpa using h2
theorem Tc.ret {fn:Func}{c:Frame}{Q:Value->View->Prop}{f:FuncId}(hK:∀v H',Q v H'->T M St H' (G (c.finish v) cs))(hf:P.funcs[f]? =some fn)
  (h:∀H tmps,iA H₀ L H->RA n R tmps->EA P (results fn tmps) H Q):Tc M St n ⟨f,.normal,none⟩ H₀ (c::cs) R L [] (.code .ret::k):=
 fun H tmps hs hr=> .aD rfl (.leave hf rfl (SA _ hK (h H tmps hs hr)))
theorem Tc.over {fn:Func}{c:Frame}{Q:Value->View->Prop}{f:FuncId}(hK:∀v H',Q v H'->T M St H' (G (c.finish v) cs))(hf:P.funcs[f]? =some fn)
  (h:∀H tmps,iA H₀ L H->RA n R tmps->EA P (results fn tmps) H Q):Tc M St n ⟨f,.normal,none⟩ H₀ (c::cs) R L [] []:=
 fun H tmps hs hr=> .over rfl (.leave hf rfl (SA _ hK (h H tmps hs hr)))
def VC(R:Rg)(xs:List Operand):Option (List Value):=xs.mapM (HA R)
theorem RA.evs {tmps:Array Value}(h:RA n R tmps):∀ {xs:List Operand} {vs:List Value},VC R xs=some vs->xs.map (CB tmps)=vs:=by
 intro xs;induction xs with
 | nil=> intro vs e;simp[VC] at e;simp[e]
 | cons x xs ih=>
  intro vs e;simp only[VC,List.mapM_cons,Option.bind_eq_bind,Option.bind_eq_some_iff,Option.pure_def,Option.some.injEq] at e;obtain⟨v,h1,us,h2,rfl⟩:=e;simp only[List.map_cons,h.ev h1,List.cons.injEq,true_and];exact ih h2
def CA(P:Program)(g:FuncId):Bool:=
 match P.funcs[g]? with
 | some fn=> !(fn.name== "runtime.NumGoroutine")&&fn.body.isSome
 | none=> false
theorem kH {g:FuncId}{args:Array Value}{H:View}{Q:Next->View->Prop}(hg:CA P g=true)(h:Q (.enter g args) H):EA P (callFunc g args) H Q:=by
 unfold CA at hg;split at hg
 ·rename_i fn UU
  simp only[Bool.and_eq_true,Bool.not_eq_true',Option.isSome_iff_ne_none] at hg;obtain⟨h1,h2⟩:=hg;show EA P (match P.funcs[g]? with|none=> _|some fn=> _) H Q;rw[UU];have hb:fn.body.isNone=false:=by cases hx:fn.body <;> simp_all
  simp only[h1,hb,Bool.false_eq_true,if_false];exact h
 ·cases hg
def vE {P:Program}(M:Md P)(o:Oper)(tmps:Array Value)(H:View)(K:Array Value->View->Prop):Prop:=
 EA P (execOp (CB tmps) o) H fun nx H'=>
  match nx with
  | .value v=> K (OB tmps o.dst v) H'
  | .skip=> K (OB tmps o.dst undef) H'
  | .enter f args=> bA M f args H' fun v H''=> K (OB tmps o.dst v) H''
  | .round l f tmps' assign body=> YL M (Frame.round l f tmps' assign body .normal) H' fun v H''=> K (OB tmps o.dst v) H''
  | _=> False
theorem vE.mono {o:Oper}{tmps:Array Value}{H:View}{K K':Array Value->View->Prop}(h:vE M o tmps H K)(hk:∀t H',K t H'->K' t H'):vE M o tmps H K':=
 SA _ (fun nx H' hn=> by
  cases nx <;> first|exact hn.elim|skip
  ·exact hk _ _ hn
  ·exact hk _ _ hn
  ·exact bA.mono hn fun v H''=> hk _ _
  ·exact YL.mono hn fun v H''=> hk _ _) h
def BA:Op->Bool
 | .defer _=> true
 | _=> false
theorem vE.sound {ops:Array Oper}{i:Nat}{rest:List Nat}{o:Oper}{tmps:Array Value}{H:View}(ho:ops[i]? =some o)(hw:Region.wanted o (yielded ops tmps)=true)(hd:BA o.op=false)
   (h:vE M o tmps H fun t H'=> T M St H' (G (b.at t ds (.inRegion ops rest::k)) cs)):T M St H (G (b.at tmps ds (.inRegion ops (i::rest)::k)) cs):=by
 refine .op ho hw (.inr fun c e=> by rw[e] at hd;cases hd) (SA _ (fun nx H' hn=> ?_) h);have UD:∀v,(b.at tmps ds (.inRegion ops (i::rest)::k)).finish v=b.at (OB tmps o.dst v) ds (.inRegion ops rest::k):=by
   intro v;rw[FB.finish_at,ho];rfl
 cases nx <;> first
   | exact hn
   | exact hn.elim
   | (refine hn St _ cs fun v H'' hq=> ?_
      rw[UD];exact hq)
def Or {P:Program}(M:Md P)(n:Nat)(H₀:View)(R:Rg)(L:Bl)(o:Oper)(K:Rg->Bl->Prop):Prop:=
 ∀H tmps,iA H₀ L H->RA n R tmps->vE M o tmps H fun t H'=> ∃R' L',RA n R' t/\iA H₀ L' H'/\K R' L'
theorem To.op {dl:List (Option Tmp)}{o:Oper}{l:List Oper}(hw:KA dl R o=some true)(hd:BA o.op=false)(h:Or M n H₀ R L o fun R' L'=> To M St n b H₀ cs dl R' L' ds l k):To M St n b H₀ cs dl R L ds (o::l) k:=fun arr ix ha hx=> by
 cases ix with
 | nil=> simp at hx
 | cons i r=>
  simp only[List.map_cons,List.cons.injEq] at hx;intro H tmps hs hr;refine vE.sound hx.1 (wB ha hr hw) hd ((h H tmps hs hr).mono ?_);rintro t H' ⟨R',L',h1,h2,h3⟩;exact h3 arr r ha hx.2 H' t h2 h1
theorem Or.val {o:Oper}{K:Rg->Bl->Prop}{d:Nat}(hd:o.dst=some d)(hn:d<n)
  (h:∀H tmps,iA H₀ L H->RA n R tmps->EA P (execOp (CB tmps) o) H fun nx H'=> ∃v,nx=.value v/\∃L',iA H₀ L' H'/\K ((d,v)::R) L'):Or M n H₀ R L o K:=fun H tmps hs hr=>
 SA _ (by
  rintro nx H' ⟨v,rfl,L',hs',hk⟩;refine⟨_,L',?_,hs',hk⟩;rw[hd];exact hr.put hn _) (h H tmps hs hr)
theorem Or.non {o:Oper}{K:Rg->Bl->Prop}(hd:o.dst=none)
  (h:∀H tmps,iA H₀ L H->RA n R tmps->EA P (execOp (CB tmps) o) H fun nx H'=> nx=.skip/\∃L',iA H₀ L' H'/\K R L'):Or M n H₀ R L o K:=fun H tmps hs hr=>
 SA _ (by
  rintro nx H' ⟨rfl,L',hs',hk⟩;refine⟨_,L',?_,hs',hk⟩;rw[hd];exact hr) (h H tmps hs hr)
def yB {P:Program}(M:Md P)(fv:Value)(az:List Value)(H:View)(Q:Value->View->Prop):Prop:=
 EA P ((Deferred.ofValue fv az.toArray).bind fun d=> invoke d.target d.args) H fun nx H'=>
  match nx with
  | .enter f args=> bA M f args H' Q
  | .round l f tmps assign body=> YL M (Frame.round l f tmps assign body .normal) H' Q
  | _=> False
theorem yB.mono {fv:Value}{az:List Value}{H:View}{Q Q':Value->View->Prop}(h:yB M fv az H Q)(hq:∀v H',Q v H'->Q' v H'):yB M fv az H Q':=
 SA _ (fun nx H' hn=> by
  cases nx <;> first
   | exact hn
   | exact bA.mono hn hq
   | exact YL.mono hn hq) h
theorem yB.of {g:FuncId}{az first captured:List Value}{as':Array Value}{H:View}{Q:Value->View->Prop}(hg:CA P g=true)(OA:(first++az++captured).toArray=as')(h:bA M g as' H Q):
  yB M (.func (.func g) first.toArray captured.toArray) az H Q:=by
 unfold yB;simp only[Deferred.ofValue];show EA P (callFunc g (first.toArray++az.toArray++captured.toArray)) H _;have e3:first.toArray++az.toArray++captured.toArray=as':=by rw[<-OA];simp
 rw[e3];exact kH hg h
theorem Or.wN {o:Oper}{K:Rg->Bl->Prop}{cl:Go.Call}{x:Operand}{fv:Value}{az:List Value}(kA:o.op=.call cl)(iB:cl.callee=.value x)(hx:HA R x=some fv)(has:VC R cl.args.toList=some az)
  {Q:View->Value->View->Prop} (hc:∀H,iA H₀ L H->yB M fv az H (Q H))
  (hk:∀H v H',iA H₀ L H->Q H v H'->∃L' R',iA H₀ L' H'/\(match o.dst with|some d=> d<n/\R'=(d,v)::R|none=> R'=R)/\K R' L'):Or M n H₀ R L o K:=fun H tmps hs hr=> by
 have e1:=hr.ev hx;have XG:cl.args.map (CB tmps)=az.toArray:=by
  apply Array.ext'
  simpa using hr.evs has
 have hex:execOp (CB tmps) o=(resolve (CB tmps) cl o.type).bind fun d=> invoke d.target d.args:=by unfold execOp;rw[kA];rfl
 unfold vE;rw[hex];have:((resolve (CB tmps) cl o.type).bind fun d=> invoke d.target d.args)=(Deferred.ofValue fv az.toArray).bind fun d=> invoke d.target d.args:=by
  unfold resolve;rw[iB];simp only[e1,XG]
 rw[this];refine SA _ (fun nx H' hn=> ?_) (hc H hs);have fin:∀v H'',Q H v H''->∃R' L',RA n R' (OB tmps o.dst v)/\iA H₀ L' H''/\K R' L':=by
  intro v H'' hq;obtain⟨L',R',h1,h2,h3⟩:=hk H v H'' hs hq;refine⟨R',L',?_,h1,h3⟩;cases lG:o.dst with
  | none=>
   rw[lG] at h2;subst h2;exact hr
  | some d=>
   rw[lG] at h2;obtain⟨h4,rfl⟩:=h2;exact hr.put h4 _
 cases nx <;> first
  | exact hn.elim
  | exact bA.mono hn fin
  | exact YL.mono hn fin
end
inductive TyD where
 | int (k:IntKind)
 | bool
 | str
 | struct (fs:List (TypeId×Nat×Nat))
 | arr (n:Nat) (e:TypeId)
 | slice (e:TypeId)
 | map (k e:TypeId)
 | other
def oI(P:Program)(t:TypeId):TyD:=
 match P.underlying t with
 | some (.int k)=> .int k
 | some .bool=> .bool
 | some .string=> .str
 | some (.struct fs)=> if fs.toList.all (fun f=> f.name != "_"&&(P.info? f.type).isSome) && !P.stoodInHeld t then .struct (fs.toList.map fun f=> (f.type,f.offset,((P.info? f.type).map (·.size)).getD 0)) else .other
 | some (.array n e)=> .arr n e
 | some (.slice e)=> .slice e
 | some (.map k e)=> .map k e
 | _=> .other
structure AA where
 agg:Bool
 size:Nat
 bytes:Nat
 zero:Value
 jY:List Nat
 elem:Option (Option Nat×TypeId)
 ds:TyD
def MO(P:Program)(t:TypeId):Option Bool:=
 match P.underlying t with
 | some (.struct _)|some (.array _ _)=> some true
 | some _=> some false
 | none=> none
def A4(P:Program)(t:TypeId):List Nat:=
 match P.underlying t with
 | some (.struct fs)=> if fs.toList.all (fun f=> ((P.info? f.type).map (·.size)).getD 0 !=0) then fs.toList.map (·.offset) else []
 | _=> []
def NO(P:Program)(t:TypeId):Option (Option Nat×TypeId):=
 match P.underlying t with
 | some (.array n e)=> some (some n,e)
 | some (.slice e)=> some (none,e)
 | _=> none
structure vA(P:Program)(t:TypeId)(r:AA):Prop where
 agg:MO P t=some r.agg
 size:(P.info? t).map (·.size)=some r.size
 bytes:(P.info? t).map (·.bytes)=some r.bytes
 zero:(P.info? t).bind (·.zero)=some r.zero
 jY:A4 P t=r.jY
 elem:NO P t=r.elem
 ds:oI P t=r.ds
structure Env(P:Program) where
 ty:Nat->Option AA
 ok:∀t r,ty t=some r->vA P t r
def W1:List (Nat×AA)->Nat->Option AA
 | [],_=> none
 | (e,v)::R,d=> match Nat.beq e d with
  | true=> some v
  | false=> W1 R d
def rP(P:Program):List (Nat×AA)->Prop
 | []=> True
 | x::l=> vA P x.1 x.2/\rP P l
theorem rP.at {P:Program}:∀ {l:List (Nat×AA)},rP P l->∀t r,W1 l t=some r->vA P t r
 | [],_,_,_,h=> by simp[W1] at h
 | (e,v)::l,⟨h1,h2⟩,t,r,h=> by
  unfold W1 at h;split at h
  ·rename_i heq
   have:e=t:=Nat.eq_of_beq_eq_true heq;subst this;cases h
   exact h1
  ·exact rP.at h2 t r h
def Env.of {P:Program}(l:List (Nat×AA))(h:rP P l):Env P:=⟨W1 l,h.at⟩
section
variable {P:Program}{H:View}
theorem fA {t:TypeId}{d:TypeDesc}{Q:TypeDesc->View->Prop}(hd:P.underlying t=some d)(h:Q d H):EA P (underlying t) H Q:=by
 show EA P (match P.underlying t with|some d=> _|none=> _) H Q;rw[hd];exact h
theorem MB {t:TypeId}{i:TypeInfo}{Q:TypeInfo->View->Prop}(hi:P.info? t=some i)(h:Q i H):EA P (typeInfo t) H Q:=by
 show EA P (match P.info? t with|some i=> _|none=> _) H Q;rw[hi];exact h
theorem TL {t:TypeId}{g:Bool}{Q:Bool->View->Prop}(hg:MO P t=some g)(h:Q g H):EA P (isAgg t) H Q:=by
 unfold MO at hg;cases hd:P.underlying t with
 | none=> rw[hd] at hg;cases hg
 | some d=>
  refine aA (underlying t) _ (fA hd ?_);rw[hd] at hg;cases d <;> simp at hg <;> subst hg <;> exact h
theorem LA {t:TypeId}{n:Nat}{Q:Nat->View->Prop}(hn:(P.info? t).map (·.size)=some n)(h:Q n H):EA P (sizeOf t) H Q:=by
 cases hi:P.info? t with
 | none=> rw[hi] at hn;cases hn
 | some i=>
  rw[hi] at hn;cases hn
  exact aA (typeInfo t) _ (MB hi h)
theorem NB {t:TypeId}{z:Value}{Q:Value->View->Prop}(hz:(P.info? t).bind (·.zero)=some z)(h:Q z H):EA P (zeroValue t) H Q:=by
 cases hi:P.info? t with
 | none=> rw[hi] at hz;cases hz
 | some i=>
  rw[hi] at hz;refine aA (typeInfo t) _ (MB hi ?_);simp only[Option.bind_some] at hz;rw[hz];exact h
theorem FE(a:Addr)(i:Nat)(h:a.spot=none):a.add i=⟨a.block,a.off+i,none⟩:=by
 unfold Addr.add;split
 ·rename_i e;subst e;cases a;simp_all
 ·rfl
theorem sG {f:Bool}{e:TypeId}{fz:Nat×Nat}{l:List Value}(blk off:Nat)(hb:H blk=some (f,.cells ⟨l⟩ e fz)):
  ∀(n i:Nat) (acc:Array Value) {Q:Array Value->View->Prop},off+i+n<=l.length->Q (acc++((l.drop (off+i)).take n).toArray) H->EA P (loadCellsFrom ⟨blk,off,none⟩ i n acc) H Q
 | 0,i,acc,Q,_,h=> by
  show Q acc H;simpa using h
 | n + 1,i,acc,Q,hl,h=> by
  unfold loadCellsFrom;refine aA (load _) _ ?_;rw[FE _ _ rfl];have xB:off+i<l.length:=by omega
  refine⟨rfl,rfl,f,⟨l⟩,e,fz,l[off+i],hb,by simp[xB],?_⟩;refine sG blk off hb n (i+1) _ oM ?_;have e1:(l.drop (off+i)).take (n+1)=l[off+i]::(l.drop (off+(i+1))).take n:=by
   rw[List.drop_eq_getElem_cons xB,List.take_succ_cons]
   congr 2
  rw[e1] at h;have e2:acc.push l[off+i]++((l.drop (off+(i+1))).take n).toArray=acc++(l[off+i]::(l.drop (off+(i+1))).take n).toArray:=by
   apply Array.ext'
   simp
  rw[e2];exact h
def tE(agg:Bool)(n:Nat)(l:List Value)(off:Nat):Option Value:=
 match agg with
 | true=> match Nat.ble (off+n) l.length with
  | true=> some (.agg ⟨(l.drop off).take n⟩)
  | false=> none
 | false=> l[off]?
theorem sI {t:TypeId}{g:Bool}{n:Nat}{f:Bool}{e:TypeId}{fz:Nat×Nat}{l:List Value}{blk off:Nat}{v:Value}{Q:Value->View->Prop}(hg:MO P t=some g)(hn:(P.info? t).map (·.size)=some n)
  (hb:H blk=some (f,.cells ⟨l⟩ e fz)) (hv:tE g n l off=some v) (h:Q v H):EA P (loadVar t ⟨blk,off,none⟩) H Q:=by
 refine aA (isAgg t) _ (TL hg ?_);cases g with
 | true=>
  unfold tE at hv;simp only at hv;split at hv
  ·rename_i hle
   have N0:off+n<=l.length:=Nat.le_of_ble_eq_true hle;cases hv
   show EA P ((sizeOf t).bind fun s=> (loadCells ⟨blk,off,none⟩ s).bind fun c=> .pure (.agg c)) H Q;refine aA (sizeOf t) _ (LA hn (aA (loadCells _ _) _ ?_));refine sG blk off hb n 0 #[] (by simpa using N0) ?_;show Q (.agg (#[]++((l.drop (off+0)).take n).toArray)) H;simpa using h
  ·cases hv
 | false=>
  unfold tE at hv;simp only at hv;exact⟨rfl,rfl,f,⟨l⟩,e,fz,v,hb,by simpa using hv,h⟩
def single:Value->Bool
 | .agg _ | .tuple _=> false
 | _=> true
def uG(l:List Value)(off:Nat)(vs:List Value):List Value:=l.take off++vs++l.drop (off+vs.length)
theorem VK(l:List Value)(off:Nat):uG l off []=l:=by simp[uG]
theorem UK(l:List Value)(off:Nat)(v:Value)(vs:List Value)(h:off<l.length):uG (l.set off v) (off+1) vs=uG l off (v::vs):=by
 unfold uG;have e1:(l.set off v).take (off+1)=l.take off++[v]:=by
  rw[List.take_succ_eq_append_getElem (by simpa using h)];simp[List.take_set_of_le]
 have e2:(l.set off v).drop (off+1+vs.length)=l.drop (off+(vs.length+1)):=by
  rw[List.drop_set_of_lt oM]
  congr 1
  omega
 rw[e1,e2];simp
theorem DC {e:TypeId}(blk off:Nat):∀(vs:List Value) (i:Nat) (l:List Value) {H:View} {Q:Unit->View->Prop},H blk=some (true,.cells ⟨l⟩ e (0,0))->off+i+vs.length<=l.length->vs.all single=true-> 
  (∀H',H'=(if vs= [] then H else H.put blk (true,.cells ⟨uG l (off+i) vs⟩ e (0,0)))->Q () H')->EA P (storeCells ⟨blk,off,none⟩ vs i) H Q
 | [],i,l,H,Q,hb,_,_,h=> h H (by simp)
 | v ::vs,i,l,H,Q,hb,hl,hs,h=> by
  unfold storeCells;refine aA (store _ _) _ ?_;rw[FE _ _ rfl];simp only[List.all_cons,Bool.and_eq_true] at hs;simp only[List.length_cons] at hl;refine⟨rfl,rfl,fun cs hc=> ?_,fun cs hc=> ?_,⟨l⟩,e,(0,0),hb,?_,?_,?_⟩
  ·rw[hc] at hs;simp[single] at hs
  ·rw[hc] at hs;simp[single] at hs
  ·show off+i<l.length;omega
  ·simp
  ·have aAt:(⟨l⟩:Array Value).setIfInBounds (off+i) v=⟨l.set (off+i) v⟩:=by
    apply Array.ext'
    simp
   simp only[aAt];refine DC blk off vs (i+1) (l.set (off+i) v) (View.jB ..) (by simp;omega) hs.2 fun H' RP=> h H' ?_;rw[RP];have he:off+(i+1)=off+i+1:=by omega
   rw[he,UK l (off+i) v vs oM]
   funext c
   by_cases hv:vs= []
   ·subst hv;simp only[if_true];rw[if_neg (by simp)];simp only[View.put];split
    ·congr 5
     have:=UK l (off+i) v [] oM;rw[VK] at this;exact this
    ·rfl
   ·rw[if_neg hv,if_neg (by simp)];simp only[View.put];split <;> rfl
theorem OR {t:TypeId}{n:Nat}{e:TypeId}{l:List Value}{blk off:Nat}{v:Value}{Q:Unit->View->Prop}(hn:(P.info? t).map (·.size)=some n)(hv:v.cells.size=n)(h0:n≠0)
  (hb:H blk=some (true,.cells ⟨l⟩ e (0,0))) (hl:off+n<=l.length) (hs:v.cells.toList.all single=true) (h:Q () (H.put blk (true,.cells ⟨uG l off v.cells.toList⟩ e (0,0)))):EA P (storeVar t ⟨blk,off,none⟩ v) H Q:=by
 refine aA (sizeOf t) _ (LA hn ?_);rw[if_neg (by simp[hv])];show EA P (storeCells ⟨blk,off,none⟩ v.cells.toList) H Q;refine DC blk off v.cells.toList 0 l hb (by simpa [hv] using hl) hs fun H' RP=> ?_;have nB:v.cells.toList≠ []:=by
  intro he;have:v.cells.size=0:=by rw[<-Array.length_toList,he];rfl
  omega
 rw[if_neg nB] at RP;rw[RP];simpa using h
end
section
variable {P:Program}{E:Env P}{M:Md P}{n:Nat}{H₀:View}{R:Rg}{L L':Bl}{K:Rg->Bl->Prop}{o:Oper}{d:Nat}{v:Value}
def pA(P:Program)(n:Nat)(H₀:View)(R:Rg)(L:Bl)(o:Oper)(v:Value):Prop:=
 ∀H tmps,iA H₀ L H->RA n R tmps->EA P (execOp (CB tmps) o) H fun nx H'=> nx=.value v/\H'=H
theorem Or.ZW(h:pA P n H₀ R L o v)(hd:o.dst=some d)(hn:d<n)(hk:K ((d,v)::R) L):Or M n H₀ R L o K:=
 .val hd hn fun H tmps hs hr=> SA _ (fun _ _ ⟨h1,h2⟩=> ⟨v,h1,L,h2▸hs,hk⟩) (h H tmps hs hr)
theorem pA.move {x:Operand}(kA:o.op=.move x)(hx:HA R x=some v):pA P n H₀ R L o (v):=
 (fun H tmps _ hr=> by unfold execOp;rw[kA];exact⟨by rw[hr.ev hx],rfl⟩)
theorem pA.assign {x:Operand}(kA:o.op=.assign x)(hx:HA R x=some v):pA P n H₀ R L o (v):=
 (fun H tmps _ hr=> by unfold execOp;rw[kA];exact⟨by rw[hr.ev hx],rfl⟩)
theorem pA.pick {c x y:Operand}{t:Bool}(kA:o.op=.pick c x y)(hc:HA R c=some (.bool t))(hx:(match t with|true=> HA R x|false=> HA R y)=some v):pA P n H₀ R L o (v):=
 (fun H tmps _ hr=> by
  unfold execOp;rw[kA];simp only[hr.ev hc,asBool];cases t with
  | true=> exact⟨by rw[<-hr.ev hx];rfl,rfl⟩
  | false=> exact⟨by rw[<-hr.ev hx];rfl,rfl⟩)
theorem pA.extract {x:Operand}{i:Nat}{vs:Array Value}(kA:o.op=.extract x i)(hx:HA R x=some (.tuple vs))(hv:vs[i]? =some v):pA P n H₀ R L o (v):=
 (fun H tmps _ hr=> by
  unfold execOp;rw[kA];simp only[hr.ev hx,Instr.extract,hv];exact⟨rfl,rfl⟩)
theorem pA.nilCheck {x:Operand}{a:Addr}(kA:o.op=.nilCheck x)(hx:HA R x=some (.pointer (some a))):pA P n H₀ R L o (.pointer (some a)):=
 (fun H tmps _ hr=> by
  unfold execOp;rw[kA];simp only[hr.ev hx];exact⟨rfl,rfl⟩)
theorem pA.makeFunc {fn:Fn}{fs cp:Array Operand}{vf vc:List Value}(kA:o.op=.makeFunc fn fs cp)(h1:VC R fs.toList=some vf)(h2:VC R cp.toList=some vc):pA P n H₀ R L o (.func fn vf.toArray vc.toArray):=
 (fun H tmps _ hr=> by
  have e1:fs.map (CB tmps)=vf.toArray:=by apply Array.ext';simpa using hr.evs h1
  have e2:cp.map (CB tmps)=vc.toArray:=by apply Array.ext';simpa using hr.evs h2
  unfold execOp;rw[kA];simp only[e1,e2];exact⟨rfl,rfl⟩)
theorem Or.tT {e:TypeId}{c:List Value}(hd:o.dst=some d)(hn:d<n) 
  (h:∀H tmps,iA H₀ L H->RA n R tmps->∀Q:Next->View->Prop,(∀blk,H blk=none->Q (.value (.pointer (some ⟨blk,0,none⟩))) (H.put blk (true,.cells ⟨c⟩ e (0,0))))->EA P (execOp (CB tmps) o) H Q)
  (hk:∀blk,K ((d,.pointer (some ⟨blk,0,none⟩))::R) ((blk,true,.cells ⟨c⟩ e (0,0))::L)):Or M n H₀ R L o K:=
 .val hd hn fun H tmps hs hr=> h H tmps hs hr _ fun blk hb=> ⟨_,rfl,_,hs.cons _ hb,hk blk⟩
theorem Or.box {e:TypeId}{x:Operand}(kA:o.op=.box e x)(hd:o.dst=some d)(hn:d<n)(hx:HA R x=some v)
  (hk:∀blk,K ((d,.pointer (some ⟨blk,0,none⟩))::R) ((blk,true,.cells ⟨v.cells.toList⟩ e (0,0))::L)):Or M n H₀ R L o K:=
 .tT hd hn (fun H tmps _ hr Q hQ=> by
  unfold execOp;rw[kA];simp only[hr.ev hx];exact fun blk hb=> hQ blk hb) hk
theorem Or.alloc {e:TypeId}{r:AA}(kA:o.op=.alloc e)(ht:E.ty e=some r)(hd:o.dst=some d)(hn:d<n)
  (hk:∀blk,K ((d,.pointer (some ⟨blk,0,none⟩))::R) ((blk,true,.cells ⟨r.zero.cells.toList⟩ e (0,0))::L)):Or M n H₀ R L o K:=
 .tT hd hn (fun H tmps _ hr Q hQ=> by
  unfold execOp;rw[kA];show EA P (((zeroValue e).bind fun z=> _).bind _) H Q;refine aA _ _ (aA (zeroValue e) _ (NB (E.ok _ _ ht).zero ?_));exact fun blk hb=> hQ blk hb) hk
theorem pA.load(i:Nat){t:TypeId}{x:Operand}{r:AA}{blk off:Nat}{f:Bool}{c:List Value}{e:TypeId}{fz:Nat×Nat}(kA:o.op=.load t x)(hx:HA R x=some (.pointer (some ⟨blk,off,none⟩)))(hi:L[i]? =some (blk,f,.cells ⟨c⟩ e fz))
  (ht:E.ty t=some r) (hv:tE r.agg r.size c off=some v):pA P n H₀ R L o (v):=
 (fun H tmps hs hr=> by
  unfold execOp;rw[kA];simp only[hr.ev hx];show EA P ((loadVar t _).bind _) H _;exact aA _ _ (sI (E.ok _ _ ht).agg (E.ok _ _ ht).size (hs.get hi) hv ⟨rfl,rfl⟩))
theorem pA.FK {t:TypeId}{x:Operand}{r:AA}{blk off:Nat}{f:Bool}{c:List Value}{e:TypeId}{fz:Nat×Nat}(kA:o.op=.load t x)(hx:HA R x=some (.pointer (some ⟨blk,off,none⟩)))(hi:H₀ blk=some (f,.cells ⟨c⟩ e fz))
  (ht:E.ty t=some r) (hv:tE r.agg r.size c off=some v):pA P n H₀ R L o (v):=
 (fun H tmps hs hr=> by
  unfold execOp;rw[kA];simp only[hr.ev hx];show EA P ((loadVar t _).bind _) H _;exact aA _ _ (sI (E.ok _ _ ht).agg (E.ok _ _ ht).size (hs.base _ _ hi) hv ⟨rfl,rfl⟩))
theorem Or.store(i:Nat){t:TypeId}{x y:Operand}{r:AA}{blk off:Nat}{c:List Value}{e:TypeId}(kA:o.op=.store t x y)(hx:HA R x=some (.pointer (some ⟨blk,off,none⟩)))(hy:HA R y=some v)
  (hi:L[i]? =some (blk,true,.cells ⟨c⟩ e (0,0))) (ht:E.ty t=some r) (hz:Nat.beq v.cells.toList.length r.size=true) (h0:Nat.beq r.size 0=false) (hl:Nat.ble (off+r.size) c.length=true) (hs:v.cells.toList.all single=true)
  (hd:o.dst=none)
  (hk:K R (L.set i (blk,true,.cells ⟨uG c off v.cells.toList⟩ e (0,0)))):Or M n H₀ R L o K:=
 .non hd fun H tmps LB hr=> by
  unfold execOp;rw[kA];simp only[hr.ev hx,hr.ev hy];show EA P ((storeVar t _ v).bind _) H _;refine aA _ _ (OR (E.ok _ _ ht).size ?_ ?_ (LB.get hi) (Nat.le_of_ble_eq_true hl) hs ?_)
  ·rw[<-Array.length_toList];exact Nat.eq_of_beq_eq_true hz
  ·intro h;rw[h] at h0;cases h0
  ·exact⟨rfl,_,LB.set hi _,hk⟩
theorem Or.storeT(i:Nat){t:TypeId}{x y:Operand}{r:AA}{blk off:Nat}{c c':List Value}{e:TypeId}(kA:o.op=.store t x y)(hx:HA R x=some (.pointer (some ⟨blk,off,none⟩)))(hy:HA R y=some v)
 (hi:L[i]? =some (blk,true,.cells ⟨c⟩ e (0,0))) (ht:E.ty t=some r) (hz:Nat.beq v.cells.toList.length r.size=true) (h0:Nat.beq r.size 0=false) (hl:Nat.ble (off+r.size) c.length=true) (hs:v.cells.toList.all single=true)
 (hd:o.dst=none) (hc:uG c off v.cells.toList=c')
 (hk:K R (L.set i (blk,true,.cells ⟨c'⟩ e (0,0)))):Or M n H₀ R L o K:=.store i kA hx hy hi ht hz h0 hl hs hd (by rw[hc];exact hk)
theorem cU {s:TypeId}{fi off o':Nat}{blk:Nat}{r:AA}{Q:Value->View->Prop}{H:View}(ht:E.ty s=some r)(ho:r.jY[fi]? =some o')(h:Q (.pointer (some ⟨blk,off+o',none⟩)) H):
  EA P (Instr.fieldAt s (.pointer (some ⟨blk,off,none⟩)) fi) H Q:=by
 have ZI:=(E.ok _ _ ht).jY;unfold A4 at ZI;split at ZI
 ·rename_i fs hu
  refine aA (underlying s) _ (fA hu ?_);split at ZI
  ·rename_i OA
   rw[<-ZI] at ho;simp only[List.getElem?_map,Option.map_eq_some_iff] at ho;obtain⟨fl,h1,h2⟩:=ho;simp only[Array.getElem?_toList] at h1;have LD:=List.all_eq_true.1 OA fl (Array.mem_toList_iff.2 (Array.mem_of_getElem? h1));simp only[h1];show EA P ((fieldPlace ⟨blk,off,none⟩ fl).bind _) H Q;refine aA _ _ ?_;cases hi:P.info? fl.type with
   | none=> rw[hi] at LD;simp at LD
   | some i=>
    rw[hi] at LD;refine aA (sizeOf fl.type) _ (LA (n:=i.size) (by rw[hi];rfl) ?_);have:i.size≠0:=by simpa using LD
    rw[if_neg this];show Q (.pointer (some (Addr.add ⟨blk,off,none⟩ fl.offset))) H;rw[FE _ _ rfl,h2];exact h
  ·rw[<-ZI] at ho;simp at ho
 ·rw[<-ZI] at ho;simp at ho
theorem pA.fieldAddr {s:TypeId}{x:Operand}{fi o':Nat}{r:AA}{blk off:Nat}(kA:o.op=.fieldAddr s x fi)(hx:HA R x=some (.pointer (some ⟨blk,off,none⟩)))(ht:E.ty s=some r)(ho:r.jY[fi]? =some o'):pA P n H₀ R L o (.pointer (some ⟨blk,off+o',none⟩)):=
 (fun H tmps hs hr=> by
  unfold execOp;rw[kA];simp only[hr.ev hx];exact aA _ _ (cU ht ho ⟨rfl,rfl⟩))
theorem bL {t et:TypeId}{j:Int}{ik:IntKind}{len cap:Nat}{off blk sz:Nat}{r:AA}{re:AA}{Q:Value->View->Prop}{H:View}(ht:E.ty t=some r)(he:r.elem=some (none,et))(eD:E.ty et=some re)(LD:re.size=sz)(h0:0<=j)(h1:j<len)
  (h:Q (.pointer (some ⟨blk,off+j.toNat*sz,none⟩)) H):EA P (Instr.indexAt t (.slice (some ⟨blk,off,none⟩) len cap) (.int ik j)) H Q:=by
 have XI:=(E.ok _ _ ht).elem;unfold NO at XI;split at XI
 ·rw[he] at XI;cases XI
 ·rename_i e hu
  rw[he] at XI;cases XI
  refine aA (underlying t) _ (fA hu ?_);show EA P ((underlying t).bind fun d=> _) H Q;refine aA (underlying t) _ (fA hu ?_);simp only[];rw[if_pos ⟨h0,h1⟩];refine aA (sizeOf et) _ (LA (E.ok _ _ eD).size ?_);show Q (.pointer (some (Addr.add ⟨blk,off,none⟩ (j.toNat*re.size)))) H;rw[FE _ _ rfl,LD];exact h
 ·rw[he] at XI;cases XI
end
def KM(op:BinOp)(k:IntKind)(x y:Int):Int:=
 let a:=BitVec.ofInt k.bits x
 let b:=BitVec.ofInt k.bits y
 match op with
 | .and=> k.wrap ((a &&& b).toNat:Int)
 | .or=> k.wrap ((a ||| b).toNat:Int)
 | .xor=> k.wrap ((a ^^^ b).toNat:Int)
 | _=> k.wrap ((a &&& ~~~b).toNat:Int)
def mA(op:BinOp)(k:IntKind)(a b:Int):Option Value:=
 match op with
 | .add=> some (.int k (k.wrap (a+b)))
 | .sub=> some (.int k (k.wrap (a-b)))
 | .mul=> some (.int k (k.wrap (a*b)))
 | .quo=> if b=0 then none else some (.int k (k.wrap (a.tdiv b)))
 | .rem=> if b=0 then none else some (.int k (a.tmod b))
 | .and=> some (.int k (KM .and k a b))
 | .or=> some (.int k (KM .or k a b))
 | .xor=> some (.int k (KM .xor k a b))
 | .andNot=> some (.int k (KM .andNot k a b))
 | .eql=> some (.bool (a==b))
 | .neq=> some (.bool (a !=b))
 | .lss=> some (.bool (decide (a<b)))
 | .leq=> some (.bool (decide (a<=b)))
 | .gtr=> some (.bool (decide (a>b)))
 | .geq=> some (.bool (decide (a≥b)))
 | _=> none
theorem wrap64 {a:Int}(h1: -9223372036854775808<=a)(h2:a<9223372036854775808):IntKind.i64.wrap a=a:=IntWalk.i64_in a ⟨h1,oM⟩
section
variable {k:IntKind}{a b:Int}
theorem lB(h1: -9223372036854775808<=a+b)(h2:a+b<9223372036854775808):mA .add .i64 a b=some (.int .i64 (a+b)):=by simp only[mA,wrap64 h1 h2]
theorem HO(h1: -9223372036854775808<=a-b)(h2:a-b<9223372036854775808):mA .sub .i64 a b=some (.int .i64 (a-b)):=by simp only[mA,wrap64 h1 h2]
theorem kE(h1: -9223372036854775808<=a*b)(h2:a*b<9223372036854775808):mA .mul .i64 a b=some (.int .i64 (a*b)):=by simp only[mA,wrap64 h1 h2]
theorem rem_in(h1:0<=a)(h2:0<b):mA .rem k a b=some (.int k (a%b)):=by
 simp only[mA,if_neg (show b≠0 by omega),Int.tmod_eq_emod_of_nonneg h1]
theorem tO(h1:0<=a)(h2:0<b)(h3:a<9223372036854775808):mA .quo .i64 a b=some (.int .i64 (a/b)):=by
 have h4:0<=a/b:=Int.ediv_nonneg h1 oM;have h5:a/b<=a:=Int.ediv_le_self _ h1;simp only[mA,if_neg (show b≠0 by omega),Int.tdiv_eq_ediv_of_nonneg h1,wrap64 (show -9223372036854775808<=a/b by omega) (show a/b<9223372036854775808 by omega)]
theorem dO(h:a<b):mA .lss k a b=some (.bool true):=by simp[mA,h]
theorem pJ(h:b<=a):mA .lss k a b=some (.bool false):=by simp[mA];omega
theorem IG(h:a<=b):mA .leq k a b=some (.bool true):=by simp[mA,h]
theorem HG(h:b<a):mA .leq k a b=some (.bool false):=by simp[mA];omega
theorem kJ(h:b<a):mA .gtr k a b=some (.bool true):=by simp[mA,h]
theorem EG(h:a<=b):mA .gtr k a b=some (.bool false):=by simp[mA];omega
theorem jJ(h:b<=a):mA .geq k a b=some (.bool true):=by simp[mA,h]
theorem SH(h:a<b):mA .geq k a b=some (.bool false):=by simp[mA];omega
theorem pK(h:a=b):mA .eql k a b=some (.bool true):=by simp[mA,h]
theorem oK(h:a≠b):mA .eql k a b=some (.bool false):=by simp[mA,h]
theorem sM(h:a≠b):mA .neq k a b=some (.bool true):=by simp[mA,h]
theorem bG(h:a=b):mA .neq k a b=some (.bool false):=by simp[mA,h]
end
theorem vH {P:Program}{op:BinOp}{t:TypeId}{x y:Operand}{k k':IntKind}{a b:Int}{H:View}{Q:Unit->View->Prop}(h:Q () H):EA P (eqGuard op t x y (.int k a) (.int k' b)) H Q:=by
 unfold eqGuard;cases op <;> exact h
theorem bW {P:Program}{op:BinOp}{t:TypeId}{k:IntKind}{a b:Int}{v:Value}{H:View}{Q:Value->View->Prop}(hv:mA op k a b=some v)(h:Q v H):EA P (binOp op t (.int k a) (.int k b)) H Q:=by
 unfold binOp;unfold mA at hv;cases op <;> simp only[reduceCtorEq,Option.some.injEq] at hv
 case quo=>
  split at hv
  ·cases hv
  ·rename_i hb
   cases hv
   simp only[ne_eq,not_true_eq_false,if_false,Op.intDiv,if_neg hb];exact h
 case rem=>
  split at hv
  ·cases hv
  ·rename_i hb
   cases hv
   simp only[ne_eq,not_true_eq_false,if_false,Op.intDiv,if_neg hb];exact h
 all_goals (subst hv;simp only[ne_eq,not_true_eq_false,if_false,Op.intArith,Op.intCmp,Op.intBits];exact h)
section
variable {P:Program}{E:Env P}{M:Md P}{n:Nat}{H₀:View}{R:Rg}{L L':Bl}{K:Rg->Bl->Prop}{o:Oper}{d:Nat}{v:Value}
theorem pA.int {op:BinOp}{t u:TypeId}{x y:Operand}{ik:IntKind}{p q:Int}(kA:o.op=.binOp op t x y u)(hx:HA R x=some (.int ik p))(hy:HA R y=some (.int ik q))
  (hv:mA op ik p q=some v):pA P n H₀ R L o (v):=
 (fun H tmps _ hr=> by
  unfold execOp;rw[kA];simp only[hr.ev hx,hr.ev hy];show EA P (((eqGuard op t x y _ _).bind fun _=> binOp op t _ _).bind _) H _;exact aA _ _ (aA _ _ (vH (bW hv ⟨rfl,rfl⟩))))
def FD(op:BinOp)(k:IntKind)(x y:Int):Option Value:=
 match op with
 | .shl=> some (.int k (k.wrap (x*2 ^ (min y.toNat k.bits))))
 | .shr=> some (.int k (x.fdiv (2 ^ (min y.toNat k.bits))))
 | _=> none
theorem pA.shift {op:BinOp}{t u:TypeId}{x y:Operand}{ik jk:IntKind}{p q:Int}(kA:o.op=.binOp op t x y u)(hx:HA R x=some (.int ik p))(hy:HA R y=some (.int jk q))
  (hq:0<=q) (hv:FD op ik p q=some v):pA P n H₀ R L o (v):=
 (fun H tmps _ hr=> by
  unfold execOp;rw[kA];simp only[hr.ev hx,hr.ev hy];show EA P (((eqGuard op t x y _ _).bind fun _=> binOp op t _ _).bind _) H _;refine aA _ _ (aA _ _ (vH ?_));unfold FD at hv;cases op <;> simp only[reduceCtorEq,Option.some.injEq] at hv <;> subst hv
  all_goals
   simp only[binOp,Op.shift,if_neg (show ¬q<0 by omega)];exact⟨rfl,rfl⟩)
theorem pA.not {t:TypeId}{x:Operand}{p:Bool}(kA:o.op=.unOp .not t x)(hx:HA R x=some (.bool p)):pA P n H₀ R L o (.bool (!p)):=
 (fun H tmps _ hr=> by
  unfold execOp;rw[kA];simp only[hr.ev hx];exact⟨rfl,rfl⟩)
theorem pA.neg {t:TypeId}{x:Operand}{p z:Int}(kA:o.op=.unOp .neg t x)(hx:HA R x=some (.int .i64 p))
  (h1: -9223372036854775808<= -p) (h2: -p<9223372036854775808) (hz: -p=z):pA P n H₀ R L o (.int .i64 z):=
 (fun H tmps _ hr=> by
  subst hz;unfold execOp;rw[kA];simp only[hr.ev hx];have:IntKind.i64.wrap (0-p)= -p:=by rw[show(0:Int)-p= -p by omega,wrap64 h1 h2]
  show Next.value (.int .i64 (IntKind.i64.wrap (0-p)))=_/\_;rw[this];exact⟨rfl,rfl⟩)
theorem pA.conv {t u:TypeId}{x:Operand}{ik jk:IntKind}{p z:Int}{de:TypeDesc}(kA:o.op=.convert t u x)(hx:HA R x=some (.int ik p))
  (o5:P.underlying t=some de) (hu:P.underlying u=some (.int jk)) (hz:jk.wrap p=z):pA P n H₀ R L o (.int jk z):=
 (fun H tmps _ hr=> by
  subst hz;unfold execOp;rw[kA];simp only[hr.ev hx];show EA P (((underlying t).bind fun s=> (underlying u).bind fun e=> _).bind _) H _;refine aA _ _ (aA _ _ (fA o5 (aA _ _ (fA hu ?_))));cases de <;> exact⟨rfl,rfl⟩)
theorem pA.len {t:TypeId}{x:Operand}{a:Option Addr}{p q:Nat}{cl:Go.Call}{e:TypeId}{r:AA}(kA:o.op=.call cl)(iB:cl.callee=.builtin .len)(NF:cl.argTypes=#[t])(VG:cl.args=#[x])
  (hx:HA R x=some (.slice a p q)) (ht:E.ty t=some r) (he:r.elem=some (none,e)):pA P n H₀ R L o (.int .i64 (p:Int)):=
 (fun H tmps _ hr=> by
  have XI:=(E.ok _ _ ht).elem;unfold NO at XI;split at XI
  ·rw[he] at XI;cases XI
  ·rename_i e' hu
   unfold execOp;rw[kA];simp only[resolve,iB,NF,VG];have hm:Array.map (CB tmps) #[x]=#[.slice a p q]:=by simp[hr.ev hx]
   rw[hm];refine aA (Builtin.len_ #[t] o.type #[.slice a p q]) _ (aA (underlying t) _ (fA hu ?_));exact⟨rfl,rfl⟩
  ·rw[he] at XI;cases XI)
theorem pA.indexAddr {t:TypeId}{x y:Operand}{r re:AA}{et:TypeId}{blk off sz len cap:Nat}{ik:IntKind}{j:Int}(kA:o.op=.indexAddr t x y)(hx:HA R x=some (.slice (some ⟨blk,off,none⟩) len cap))(hy:HA R y=some (.int ik j))
  (ht:E.ty t=some r) (he:r.elem=some (none,et)) (eD:E.ty et=some re) (LD:re.size=sz) (h0:0<=j) (h1:j<len):pA P n H₀ R L o (.pointer (some ⟨blk,off+j.toNat*sz,none⟩)):=
 (fun H tmps _ hr=> by
  unfold execOp;rw[kA];simp only[hr.ev hx,hr.ev hy];exact aA _ _ (bL ht he eD LD h0 h1 ⟨rfl,rfl⟩))
theorem pA.lV {t:TypeId}{x y:Operand}{r re:AA}{et:TypeId}{blk off sz len:Nat}{ik:IntKind}{j:Int}(kA:o.op=.indexAddr t x y)(hx:HA R x=some (.pointer (some ⟨blk,off,none⟩)))(hy:HA R y=some (.int ik j))
  (ht:E.ty t=some r) (he:r.elem=some (some len,et)) (eD:E.ty et=some re) (LD:re.size=sz) (h0:0<=j) (h1:j<len):pA P n H₀ R L o (.pointer (some ⟨blk,off+j.toNat*sz,none⟩)):=
 (fun H tmps _ hr=> by
  unfold execOp;rw[kA];simp only[hr.ev hx,hr.ev hy];refine aA _ _ ?_;have XI:=(E.ok _ _ ht).elem;unfold NO at XI;split at XI
  ·rename_i n' e' hu
   rw[he] at XI;cases XI
   show EA P ((underlying t).bind fun d=> _) H _;refine aA (underlying t) _ (fA hu ?_);show EA P ((underlying t).bind fun d=> _) H _;refine aA (underlying t) _ (fA hu ?_);simp only[];rw[if_pos ⟨h0,h1⟩];refine aA (sizeOf et) _ (LA (E.ok _ _ eD).size ?_);show Next.value (.pointer (some (Addr.add ⟨blk,off,none⟩ (j.toNat*re.size))))=_/\_;rw[FE _ _ rfl,LD];exact⟨rfl,rfl⟩
  ·rw[he] at XI;cases XI
  ·rw[he] at XI;cases XI)
theorem pA.index {t:TypeId}{x y:Operand}{r re:AA}{et:TypeId}{len:Nat}{ik:IntKind}{j:Int}{c:List Value}(kA:o.op=.index t x y)(hx:HA R x=some (.agg ⟨c⟩))(hy:HA R y=some (.int ik j))
  (ht:E.ty t=some r) (he:r.elem=some (some len,et)) (eD:E.ty et=some re) (h0:0<=j) (h1:j<len) (hv:tE re.agg re.size c (j.toNat*re.size)=some v):pA P n H₀ R L o (v):=
 (fun H tmps _ hr=> by
  unfold execOp;rw[kA];simp only[hr.ev hx,hr.ev hy];refine aA _ _ ?_;have XI:=(E.ok _ _ ht).elem;unfold NO at XI;split at XI
  ·rename_i n' e' hu
   rw[he] at XI;cases XI
   show EA P ((underlying t).bind fun d=> _) H _;refine aA (underlying t) _ (fA hu ?_);simp only[];rw[if_pos ⟨h0,h1⟩];refine aA (sizeOf et) _ (LA (E.ok _ _ eD).size ?_);unfold part;refine aA (isAgg et) _ (TL (E.ok _ _ eD).agg ?_);unfold tE at hv;cases hg:re.agg with
   | true=>
    rw[hg] at hv;simp only at hv;split at hv
    ·rename_i hle
     have N0:=Nat.le_of_ble_eq_true hle;cases hv
     refine aA (sizeOf et) _ (LA (E.ok _ _ eD).size ?_);show Next.value (.agg ((⟨c⟩:Array Value).extract (j.toNat*re.size) (j.toNat*re.size+re.size)))=_/\_;refine⟨?_,rfl⟩
     congr 2
     apply Array.ext'
     simp[List.extract_eq_take_drop]
    ·cases hv
   | false=>
    rw[hg] at hv;simp only at hv;have:(⟨c⟩:Array Value)[j.toNat*re.size]? =some v:=by simpa using hv
    simp only[this];exact⟨rfl,rfl⟩
  ·rw[he] at XI;cases XI
  ·rw[he] at XI;cases XI)
end
theorem ES:∀(vs:List Value) (k:Nat) (c:List Value) (off:Nat),off+k+vs.length<=c.length-> 
  (vs.zipIdx k).foldl (fun(cs:Array Value) (x:Value×Nat)=> cs.setIfInBounds (off+x.2) x.1) (⟨c⟩:Array Value)=⟨uG c (off+k) vs⟩
 | [],k,c,off,_=> by simp[VK]
 | v::vs,k,c,off,h=> by
  simp only[List.length_cons] at h;have e:(⟨c⟩:Array Value).setIfInBounds (off+k) v=⟨c.set (off+k) v⟩:=by apply Array.ext';simp
  simp only[List.zipIdx_cons,List.foldl_cons,e];rw[ES vs (k+1) (c.set (off+k) v) off (by simp;omega)];rw[show off+(k+1)=off+k+1 by omega,UK c (off+k) v vs oM]
def fM(place:Nat->Option (Nat×Nat)):List Value->List (Nat×Value)->Option (List Value)
 | c,[]=> some c
 | c,(i,v)::rest=>
  match place i with
  | none=> none
  | some (off,size)=>
   match Nat.beq v.cells.toList.length size,Nat.ble (off+v.cells.toList.length) c.length with
   | true,true=> fM place (uG c off v.cells.toList) rest
   | _,_=> none
theorem aN {place:Nat->Option (Nat×Nat)}:∀ {parts:List (Nat×Value)} {c r:List Value},fM place c parts=some r->Instr.fill place ⟨c⟩ parts=some ⟨r⟩
 | [],c,r,h=> by simp only[fM,Option.some.injEq] at h;simp[Instr.fill,h]
 | (i, v)::rest,c,r,h=> by
  unfold fM at h;unfold Instr.fill;split at h
  ·cases h
  ·rename_i off size hp
   rw[hp];split at h
   ·rename_i h1 h2
    have h1':v.cells.size=size:=by rw[<-Array.length_toList];exact Nat.eq_of_beq_eq_true h1
    have h2':off+v.cells.size<=c.length:=by rw[<-Array.length_toList];exact Nat.le_of_ble_eq_true h2
    simp only[];rw[if_neg (by simp[h1'];omega)];have hz:v.cells.zipIdx.foldl (fun(cs:Array Value) (x:Value×Nat)=> cs.setIfInBounds (off+x.2) x.1) (⟨c⟩:Array Value)=⟨uG c off v.cells.toList⟩:=by
     have:=ES v.cells.toList 0 c off (by simpa using h2');rw[<-Array.foldl_toList];simpa using this
    have hz':(v.cells.zipIdx.foldl (fun cs (c,j)=> cs.setIfInBounds (off+j) c) (⟨c⟩:Array Value))=⟨uG c off v.cells.toList⟩:=hz;rw[hz'];exact aN h
   ·cases h
section
variable {P:Program}{E:Env P}{M:Md P}{n:Nat}{H₀:View}{R:Rg}{L L':Bl}{K:Rg->Bl->Prop}{o:Oper}{d:Nat}{v:Value}
def cP(R:Rg)(ps:List (Nat×Operand)):Option (List (Nat×Value)):=ps.mapM fun x=> (HA R x.2).map fun v=> (x.1,v)
theorem RA.cP {tmps:Array Value}(h:RA n R tmps):∀ {xs:List (Nat×Operand)} {vs:List (Nat×Value)},cP R xs=some vs->xs.map (fun x=> (x.1,CB tmps x.2))=vs:=by
 intro xs;induction xs with
 | nil=> intro vs e;simp[RL.cP] at e;simp[e]
 | cons x xs ih=>
  intro vs e;simp only[RL.cP,List.mapM_cons,Option.bind_eq_bind,Option.bind_eq_some_iff,Option.pure_def,Option.some.injEq,Option.map_eq_some_iff] at e;obtain⟨v,⟨w,h1,rfl⟩,us,h2,rfl⟩:=e;simp only[List.map_cons,h.ev h1,List.cons.injEq,true_and];exact ih h2
def JQ(E:Env P)(t:TypeId)(parts:List (Nat×Value)):Option (List Value):=
 match E.ty t with
 | none=> none
 | some r=>
  match r.ds with
  | .struct fs=> fM (fun i=> (fs[i]?).map (·.2)) r.zero.cells.toList parts
  | .arr _ e=>
   match E.ty e with
   | some re=> fM (fun i=> some (i*re.size,re.size)) r.zero.cells.toList parts
   | none=> none
  | _=> none
theorem CI {t:TypeId}{fs:List (TypeId×Nat×Nat)}(h:oI P t=.struct fs):∃a:Array Field,P.underlying t=some (.struct a)/\(∀f∈a.toList,f.name≠ "_"/\(P.info? f.type).isSome=true)/\P.stoodInHeld t=false/\
  fs=a.toList.map fun f=> (f.type,f.offset,((P.info? f.type).map (·.size)).getD 0):=by
 unfold oI at h;split at h <;> try cases h
 rename_i a hu
 split at h
 ·rename_i OA
  simp only[Bool.and_eq_true,List.all_eq_true,bne_iff_ne,ne_eq,Bool.not_eq_true'] at OA;cases h
  exact⟨a,hu,OA.1,OA.2,rfl⟩
 ·cases h
theorem QQ {t:TypeId}{m:Nat}{e:TypeId}(h:oI P t=.arr m e):P.underlying t=some (.array m e):=by
 unfold oI at h;split at h <;> try cases h
 ·rename_i a hu;split at h <;> cases h
 ·assumption
theorem wC {t:TypeId}{e:TypeId}(h:oI P t=.slice e):P.underlying t=some (.slice e):=by
 unfold oI at h;split at h <;> try cases h
 ·rename_i a hu;split at h <;> cases h
 ·assumption
theorem RQ {t:TypeId}{k e:TypeId}(h:oI P t=.map k e):P.underlying t=some (.map k e):=by
 unfold oI at h;split at h <;> try cases h
 ·rename_i a hu;split at h <;> cases h
 ·assumption
theorem wL {t:TypeId}{k:IntKind}(h:oI P t=.int k):P.underlying t=some (.int k):=by
 unfold oI at h;split at h <;> try cases h
 ·assumption
 ·rename_i a hu;split at h <;> cases h
theorem rQ {H:View}:∀ {fs:List Field} {Q:List (Nat×Nat)->View->Prop},(∀f∈fs,(P.info? f.type).isSome=true)->Q (fs.map fun f=> (f.offset,((P.info? f.type).map (·.size)).getD 0)) H-> 
  EA P (fs.mapM fun f=> (sizeOf f.type).bind fun s=> .pure (f.offset,s)) H Q
 | [],Q,_,h=> h
 | f::fs,Q,OA,h=> by
  rw[List.mapM_cons];obtain⟨i,hi⟩:=Option.isSome_iff_exists.1 (OA f (by simp));refine aA ((sizeOf f.type).bind fun s=> .pure (f.offset,s)) _ (aA _ _ (LA (n:=i.size) (by rw[hi];rfl) ?_));show EA P ((fs.mapM fun f=> (sizeOf f.type).bind fun s=> Sem.pure (f.offset,s)).bind fun us=> .pure ((f.offset,i.size)::us)) H Q;refine aA _ _ (rQ (fun g hg=> OA g (by simp[hg])) ?_);simp only[List.map_cons,hi,Option.map_some,Option.getD_some] at h;exact h
theorem AY {t:TypeId}{parts:List (Nat×Value)}{l:List Value}{H:View}{Q:Value->View->Prop}(hv:JQ E t parts=some l)(h:Q (.agg ⟨l⟩) H):EA P (Instr.build t parts.toArray) H Q:=by
 unfold JQ at hv;split at hv
 ·cases hv
 ·rename_i r ht
  refine aA (zeroValue t) _ (NB (E.ok _ _ ht).zero ?_);split at hv
  ·rename_i fs JB
   obtain⟨a,hu,OA,_,rfl⟩:=CI ((E.ok _ _ ht).ds.trans JB);refine aA (underlying t) _ (fA hu ?_);have e1:∀k:Array (Nat×Nat)->Sem Value,((a.mapM fun f=> (sizeOf f.type).bind fun s=> Sem.pure (f.offset,s)).bind k)=(a.toList.mapM fun f=> (sizeOf f.type).bind fun s=> Sem.pure (f.offset,s)).bind fun us=> k us.toArray:=by
    intro k;have e0:a.mapM (fun f=> (sizeOf f.type).bind fun s=> Sem.pure (f.offset,s))=(a.toList.toArray).mapM (fun f=> (sizeOf f.type).bind fun s=> Sem.pure (f.offset,s)):=by simp
    rw[e0,List.mapM_toArray];show((a.toList.mapM fun f=> (sizeOf f.type).bind fun s=> Sem.pure (f.offset,s)) >>=fun us=> (Pure.pure us.toArray:Sem (Array (Nat×Nat)))) >>=k=_;rw[bind_assoc];rfl
   show EA P ((a.mapM fun f=> (sizeOf f.type).bind fun s=> Sem.pure (f.offset,s)).bind _) H Q;rw[e1];refine aA _ _ (rQ (fun f hf=> (OA f hf).2) ?_);have hf:=aN hv;have hp:(fun i:Nat=> ((a.toList.map fun f=> (f.offset,((P.info? f.type).map (·.size)).getD 0)).toArray)[i]?)=fun i=> ((a.toList.map fun f=> (f.type,f.offset,((P.info? f.type).map (·.size)).getD 0))[i]?).map (·.2):=by
    funext i
    simp only[List.getElem?_toArray,List.getElem?_map,Option.map_map];rfl
   have VO:Instr.fill (fun i:Nat=> ((a.toList.map fun f=> (f.offset,((P.info? f.type).map (·.size)).getD 0)).toArray)[i]?) r.zero.cells parts=some ⟨l⟩:=by rw[hp];exact hf
   simp only[VO];exact h
  ·rename_i m e JB
   refine aA (underlying t) _ (fA (QQ ((E.ok _ _ ht).ds.trans JB)) ?_);split at hv
   ·rename_i re eD
    refine aA (sizeOf e) _ (LA (E.ok _ _ eD).size ?_);have hf:=aN hv;have VO:Instr.fill (fun i:Nat=> some (i*re.size,re.size)) r.zero.cells parts=some ⟨l⟩:=hf;simp only[VO];exact h
   ·cases hv
  ·cases hv
theorem pA.build {t:TypeId}{ps:Array (Nat×Operand)}{parts:List (Nat×Value)}{l:List Value}(kA:o.op=.build t ps)(VR:cP R ps.toList=some parts)(hv:JQ E t parts=some l):pA P n H₀ R L o (.agg ⟨l⟩):=
 (fun H tmps _ hr=> by
  unfold execOp;rw[kA];have e:(ps.map fun x=> (x.1,CB tmps x.2))=parts.toArray:=by
   apply Array.ext'
   simpa using hr.cP VR
  have e':(ps.map fun(i,x)=> (i,CB tmps x))=parts.toArray:=e;simp only[e'];exact aA _ _ (AY hv ⟨rfl,rfl⟩))
theorem Or.newObj {ob:Obj}{val:Nat->Value}(hd:o.dst=some d)(hn:d<n)
  (h:∀H tmps,iA H₀ L H->RA n R tmps->∀Q:Next->View->Prop,(∀blk,H blk=none->Q (.value (val blk)) (H.put blk (true,ob)))->EA P (execOp (CB tmps) o) H Q)
  (hk:∀blk,K ((d,val blk)::R) ((blk,true,ob)::L)):Or M n H₀ R L o K:=
 .val hd hn fun H tmps hs hr=> h H tmps hs hr _ fun blk hb=> ⟨_,rfl,_,hs.cons _ hb,hk blk⟩
def iC(z:List Value)(m:Nat):List Value:=(List.range m).map fun i=> z[i%z.length]!
theorem GM(z:List Value)(m:Nat):(iC z m).length=m:=by simp[iC]
theorem uI(z:Array Value)(m:Nat):(Array.range m).map (fun i=> z[i%z.size]!)=⟨iC z.toList m⟩:=by
 apply Array.ext'
 simp only[iC,Array.toList_map,Array.toList_range,Array.length_toList];refine List.map_congr_left fun i _=> ?_;rw[getElem!_def,getElem!_def];simp
theorem vI(v:Value)(m:Nat):iC [v] m=List.replicate m v:=by
 unfold iC;apply List.ext_getElem
 ·simp
 ·intro i h1 h2;simp[Nat.mod_one]
theorem Or.buildSlice {t e:TypeId}{len:Nat}{ps:Array (Nat×Operand)}{parts:List (Nat×Value)}{r re:AA}{l:List Value}(kA:o.op=.buildSlice t len ps)(VR:cP R ps.toList=some parts)(ht:E.ty t=some r)(JB:r.ds=.slice e)(eD:E.ty e=some re)
  (LD:Nat.ble (len*re.size) 16777216=true) (hv:fM (fun i=> some (i*re.size,re.size)) (iC re.zero.cells.toList (len*re.size)) parts=some l)
  (hd:o.dst=some d) (hn:d<n) (hk:∀blk,K ((d,.slice (some ⟨blk,0,none⟩) len len)::R) ((blk,true,.cells ⟨l⟩ e (0,0))::L)):Or M n H₀ R L o K:=
 .newObj (val:=fun blk=> .slice (some ⟨blk,0,none⟩) len len) hd hn (fun H tmps _ hr Q hQ=> by
  unfold execOp;rw[kA];have e':(ps.map fun(i,x)=> (i,CB tmps x))=parts.toArray:=by
   apply Array.ext'
   simpa using hr.cP VR
  simp only[e'];refine aA (Instr.buildSlice t len parts.toArray) _ ?_;refine aA (underlying t) _ (fA (wC ((E.ok _ _ ht).ds.trans JB)) ?_);refine aA (sizeOf e) _ (LA (E.ok _ _ eD).size ?_);have hle:len*re.size<=16777216:=Nat.le_of_ble_eq_true LD;rw[if_neg oM];have fin:∀z:Array Value,((Array.range (len*re.size)).map fun i=> z[i%z.size]!)=⟨iC re.zero.cells.toList (len*re.size)⟩-> 
    EA P (match Instr.fill (fun i=> some (i*re.size,re.size)) ((Array.range (len*re.size)).map fun i=> z[i%z.size]!) parts with
     | some cells=> (newRow e cells).bind fun a=> .pure (.slice (some a) len len)
     | x=> stuck "buildSlice: a part of the wrong size") H (fun a H'=> EA P (Sem.pure (Next.value a)) H' Q):=by
   intro z hz;rw[hz,aN hv];exact fun blk hb=> hQ blk hb
  by_cases h0:len*re.size=0
  ·simp only[h0,if_true];rw[h0] at fin;exact fin #[] (by simp[iC])
  ·simp only[h0,if_false];exact aA (zeroValue e) _ (NB (E.ok _ _ eD).zero (fin re.zero.cells (uI _ _)))) hk
theorem Or.makeSlice {t e:TypeId}{x y:Operand}{len cap:Nat}{r re:AA}(kA:o.op=.makeSlice t x y)(hx:HA R x=some (.int .i64 len))(hy:HA R y=some (.int .i64 cap))(ht:E.ty t=some r)(JB:r.ds=.slice e)(eD:E.ty e=some re)
  (h1:len<=cap) (h2:cap<=1000000000) (h3:Nat.ble re.bytes 1000=true) (hd:o.dst=some d) (hn:d<n)
  (hk:∀blk,K ((d,.slice (some ⟨blk,0,none⟩) len cap)::R) ((blk,true,.cells ⟨iC re.zero.cells.toList (cap*re.size)⟩ e (0,0))::L)):Or M n H₀ R L o K:=
 .newObj (val:=fun blk=> .slice (some ⟨blk,0,none⟩) len cap) hd hn (fun H tmps _ hr Q hQ=> by
  unfold execOp;rw[kA];simp only[hr.ev hx,hr.ev hy];refine aA (Instr.makeSlice t _ _) _ ?_;refine aA (underlying t) _ (fA (wC ((E.ok _ _ ht).ds.trans JB)) ?_);show EA P ((typeInfo e).bind fun i=> _) H _;have hb:=(E.ok _ _ eD).bytes;cases hi:P.info? e with
  | none=> rw[hi] at hb;cases hb
  | some i=>
   rw[hi] at hb;simp only[Option.map_some,Option.some.injEq] at hb;refine aA (typeInfo e) _ (MB hi ?_);have hw:∀k:Nat,k<=1000000000->IntKind.i64.wrap (k:Int)=k:=fun k hk=> wrap64 oM oM;have h3':re.bytes<=1000:=Nat.le_of_ble_eq_true h3;have hmul:i.bytes*cap<=1000*1000000000:=Nat.mul_le_mul oM h2;have aES:(i.bytes:Int)*(cap:Int)<=1000*1000000000:=by rw[<-Int.natCast_mul];omega
   simp only[hw len oM,hw cap h2];rw[if_neg]
   ·show EA P ((askRoom ((cap:Int).toNat*i.bytes)).bind fun _=> _) H _;refine aA _ _ ?_;unfold askRoom roomBytes;rw[if_neg (by simp only[Int.toNat_natCast];rw[Nat.mul_comm];omega)];show EA P ((sizeOf e).bind fun s=> _) H _;refine aA (sizeOf e) _ (LA (E.ok _ _ eD).size ?_);simp only[Int.toNat_natCast];have fin:∀z:Array Value,((Array.range (cap*re.size)).map fun i=> z[i%z.size]!)=⟨iC re.zero.cells.toList (cap*re.size)⟩-> 
      EA P ((newRow e ((Array.range (cap*re.size)).map fun i=> z[i%z.size]!)).bind fun a=> .pure (.slice (some a) len cap)) H (fun a H'=> EA P (Sem.pure (Next.value a)) H' Q):=by
     intro z hz;rw[hz];exact fun blk hb=> hQ blk hb
    by_cases h0:cap*re.size=0
    ·simp only[h0,if_true];rw[h0] at fin;exact fin #[] (by simp[iC])
    ·simp only[h0,if_false];exact aA (zeroValue e) _ (NB (E.ok _ _ eD).zero (fin re.zero.cells (uI _ _)))
   ·simp only[Bool.or_eq_true,decide_eq_true_eq];omega) hk
end
section
variable {P:Program}{E:Env P}{M:Md P}{n:Nat}{H₀:View}{R:Rg}{L L':Bl}{K:Rg->Bl->Prop}{o:Oper}{d:Nat}{v:Value}
theorem pA.xW {t u:TypeId}{x:Operand}{ik jk:IntKind}{p z:Int}{r r':AA}(kA:o.op=.convert t u x)(hx:HA R x=some (.int ik p))(ht:E.ty t=some r)(hr:r.ds=.int ik)(j5:E.ty u=some r')(rE:r'.ds=.int jk)(hz:jk.wrap p=z):pA P n H₀ R L o (.int jk z):=
 .conv kA hx (wL ((E.ok _ _ ht).ds.trans hr)) (wL ((E.ok _ _ j5).ds.trans rE)) hz
theorem dU {t:TypeId}{r:AA}{c:List Value}{off:Nat}{H:View}{Q:Value->View->Prop}(ht:E.ty t=some r)(hv:tE r.agg r.size c off=some v)(h:Q v H):EA P (part t ⟨c⟩ off) H Q:=by
 unfold part;refine aA (isAgg t) _ (TL (E.ok _ _ ht).agg ?_);unfold tE at hv;cases hg:r.agg with
 | true=>
  rw[hg] at hv;simp only at hv;split at hv
  ·cases hv
   refine aA (sizeOf t) _ (LA (E.ok _ _ ht).size ?_);have e:(⟨c⟩:Array Value).extract off (off+r.size)=⟨(c.drop off).take r.size⟩:=by
    apply Array.ext'
    simp[List.extract_eq_take_drop]
   show Q (.agg ((⟨c⟩:Array Value).extract off (off+r.size))) H;rw[e];exact h
  ·cases hv
 | false=>
  rw[hg] at hv;simp only at hv;have:(⟨c⟩:Array Value)[off]? =some v:=by simpa using hv
  simp only[Bool.false_eq_true,if_false,this];exact h
theorem pA.field {t ft:TypeId}{x:Operand}{fi off sz:Nat}{r rf:AA}{c:List Value}{fs:List (TypeId×Nat×Nat)}(kA:o.op=.field t x fi)(hx:HA R x=some (.agg ⟨c⟩))(ht:E.ty t=some r)(JB:r.ds=.struct fs)(hf:fs[fi]? =some (ft,off,sz))
  (htf:E.ty ft=some rf) (hv:tE rf.agg rf.size c off=some v):pA P n H₀ R L o v:=
 (fun H tmps _ hr=> by
  unfold execOp;rw[kA];simp only[hr.ev hx];refine aA (Instr.field t _ fi) _ ?_;obtain⟨a,hu,OA,_,rfl⟩:=CI ((E.ok _ _ ht).ds.trans JB);refine aA (underlying t) _ (fA hu ?_);simp only[List.getElem?_map,Option.map_eq_some_iff] at hf;obtain⟨fl,h1,h2⟩:=hf;simp only[Array.getElem?_toList] at h1;simp only[Prod.mk.injEq] at h2;obtain⟨h3,h4,_⟩:=h2;simp only[h1];show EA P ((asAgg (.agg ⟨c⟩)).bind fun a=> part fl.type a fl.offset) H _;show EA P (part fl.type ⟨c⟩ fl.offset) H _;rw[h3,h4];exact dU htf hv ⟨rfl,rfl⟩)
def bound(R:Rg)(x:Option Operand)(dflt:Nat):Option Int:=
 match x with
 | none=> some dflt
 | some y=>
  match HA R y with
  | some (.int _ i)=> some i
  | _=> none
theorem LF {k:IntKind}{i:Int}{y:Nat}{code:BoundsCode}{H:View}{Q:Nat->View->Prop}(h0:0<=i)(h1:i<=y)(h:Q i.toNat H):EA P (Instr.sliceBound (.int k i) y code) H Q:=by
 show EA P (if 0<=i/\i<=y then _ else _) H Q;rw[if_pos ⟨h0,h1⟩];exact h
theorem fF {tmps:Array Value}{isS:Bool}{len cap:Nat}{lo hi:Option Operand}{l h:Int}{H:View}{Q:Nat×Nat×Nat->View->Prop}(hr:RA n R tmps)(AL:bound R lo 0=some l)(ON:bound R hi len=some h)
  (h0:0<=l) (h1:l<=h) (h2:h<=cap) (hq:Q (l.toNat,h.toNat,cap) H):EA P (Instr.sliceBounds isS len cap (lo.map (CB tmps)) (hi.map (CB tmps)) none) H Q:=by
 have aEn:∀(lv:Option Value),lv=lo.map (CB tmps)->∀(K:Nat->Sem (Nat×Nat×Nat)) (code:BoundsCode),EA P (K l.toNat) H Q->EA P (match lv with|some v=> (Instr.sliceBound v h.toNat code).bind K|none=> K 0) H Q:=by
  intro lv l7 K code hK;cases lo with
  | none=>
   simp only[bound,Option.some.injEq] at AL;subst AL;subst l7;exact hK
  | some x=>
   simp only[bound] at AL;split at AL
   ·rename_i k i he
    cases AL
    simp only[Option.map_some,hr.ev he] at l7;subst l7;exact aA _ _ (LF h0 oM hK)
   ·cases AL
 have rest:EA P (match lo.map (CB tmps) with|some v=> (Instr.sliceBound v h.toNat .sliceB).bind fun ll=> Sem.pure (ll,h.toNat,cap)|none=> Sem.pure (0,h.toNat,cap)) H Q:=
  aEn _ rfl (fun ll=> Sem.pure (ll,h.toNat,cap)) .sliceB hq
 cases hi with
 | none=>
  simp only[bound,Option.some.injEq] at ON;have e:h.toNat=len:=by omega
  rw[e] at rest;cases l7:lo.map (CB tmps) with
  | none=> rw[l7] at rest;exact rest
  | some v=> rw[l7] at rest;exact rest
 | some x=>
  simp only[bound] at ON;split at ON
  ·rename_i k i he
   cases ON
   simp only[Option.map_some,hr.ev he];cases l7:lo.map (CB tmps) with
   | none=>
    rw[l7] at rest;exact aA (Instr.sliceBound _ cap _) _ (LF oM h2 rest)
   | some v=>
    rw[l7] at rest;exact aA (Instr.sliceBound _ cap _) _ (LF oM h2 rest)
  ·cases ON
theorem pA.slice {t e:TypeId}{x:Operand}{lo hi:Option Operand}{l h:Int}{len cap off off' sz:Nat}{blk:Nat}{r re:AA}(kA:o.op=.slice t x lo hi none)(hx:HA R x=some (.slice (some ⟨blk,off,none⟩) len cap))(ht:E.ty t=some r)(JB:r.ds=.slice e)
  (eD:E.ty e=some re) (LD:re.size=sz) (AL:bound R lo 0=some l) (ON:bound R hi len=some h) (h0:0<=l) (h1:l<=h) (h2:h<=cap) (ZI:if(cap:Int)=l then off'=off else off'=off+l.toNat*sz):
  pA P n H₀ R L o (.slice (some ⟨blk,off',none⟩) (h.toNat-l.toNat) (cap-l.toNat)):=
 (fun H tmps _ hr=> by
  unfold execOp;rw[kA];simp only[hr.ev hx];refine aA (Instr.sliceAt t _ _ _ _) _ ?_;refine aA (underlying t) _ (fA (wC ((E.ok _ _ ht).ds.trans JB)) ?_);refine aA (underlying t) _ (fA (wC ((E.ok _ _ ht).ds.trans JB)) ?_);show EA P ((Instr.sliceBounds true len cap (lo.map (CB tmps)) (hi.map (CB tmps)) none).bind fun b=> _) H _;refine aA _ _ (fF hr AL ON h0 h1 h2 ?_);refine aA (sizeOf e) _ (LA (E.ok _ _ eD).size ?_);show Next.value (.slice (if cap=l.toNat then some ⟨blk,off,none⟩ else(some ⟨blk,off,none⟩:Option Addr).map (·.add (l.toNat*re.size))) _ _)=_/\_;refine⟨?_,rfl⟩;by_cases hc:cap=l.toNat
  ·rw[if_pos hc];rw[if_pos oM] at ZI;rw[ZI]
  ·rw[if_neg hc];rw[if_neg oM] at ZI;simp only[Option.map_some,FE ⟨blk,off,none⟩ _ rfl,LD,ZI])
theorem pA.J3 {t e:TypeId}{x:Operand}{lo hi:Option Operand}{l h:Int}{m off off' sz:Nat}{blk:Nat}{ra re:AA}(kA:o.op=.slice t x lo hi none)(hx:HA R x=some (.pointer (some ⟨blk,off,none⟩)))(hta:E.ty t=some ra)(JB:ra.ds=.arr m e)
  (eD:E.ty e=some re) (LD:re.size=sz) (AL:bound R lo 0=some l) (ON:bound R hi m=some h) (h0:0<=l) (h1:l<=h) (h2:h<=m) (ZI:if(m:Int)=l then off'=off else off'=off+l.toNat*sz):
  pA P n H₀ R L o (.slice (some ⟨blk,off',none⟩) (h.toNat-l.toNat) (m-l.toNat)):=
 (fun H tmps _ hr=> by
  unfold execOp;rw[kA];simp only[hr.ev hx];refine aA (Instr.sliceAt t _ _ _ _) _ ?_;refine aA (underlying t) _ (fA (QQ ((E.ok _ _ hta).ds.trans JB)) ?_);show EA P ((Instr.sliceBounds false m m (lo.map (CB tmps)) (hi.map (CB tmps)) none).bind fun b=> _) H _;refine aA _ _ (fF hr AL ON h0 h1 h2 ?_);refine aA (sizeOf e) _ (LA (E.ok _ _ eD).size ?_);show Next.value (.slice (some (if m=l.toNat then⟨blk,off,none⟩ else Addr.add ⟨blk,off,none⟩ (l.toNat*re.size))) _ _)=_/\_;refine⟨?_,rfl⟩;by_cases hc:m=l.toNat
  ·rw[if_pos hc];rw[if_pos oM] at ZI;rw[ZI]
  ·rw[if_neg hc];rw[if_neg oM] at ZI;rw[FE _ _ rfl,LD,ZI])
def ZA(H:View)(sz:Nat)(y:Value)(m:Nat)(l:List Value):Prop:=
 (∃a c,y=.slice a m c)/\l.length=m*sz/\
 ((∃a c,y=.slice a m c/\l= [])\/ 
  ∃b off c f cs e fz,y=.slice (some ⟨b,off,none⟩) m c/\H b=some (f,.cells ⟨cs⟩ e fz)/\off+l.length<=cs.length/\(cs.drop off).take l.length=l)
theorem nD {H:View}{sz m:Nat}{y:Value}{l:List Value}{Q:Array Value->View->Prop}(h:ZA H sz y m l)(hq:Q ⟨l⟩ H):EA P (Builtin.firstCells sz m y) H Q:=by
 obtain⟨_,hl,⟨a,c,rfl,rfl⟩|⟨b,off,c,f,cs,e,fz,rfl,hb,hle,ht⟩⟩:=h
 ·cases a with
  | none=> exact hq
  | some a=>
   show EA P (loadCellsFrom a 0 (m*sz) #[]) H Q;rw[<-hl];exact hq
 ·show EA P (loadCellsFrom ⟨b,off,none⟩ 0 (m*sz) #[]) H Q;rw[<-hl];refine sG b off hb l.length 0 #[] (by simpa using hle) ?_;simp only[Nat.add_zero,ht];simpa using hq
theorem ZA.lenOf {H:View}{sz m:Nat}{y:Value}{l:List Value}{Q:Nat->View->Prop}(h:ZA H sz y m l)(hq:Q m H):EA P (Builtin.lenOf y) H Q:=by
 obtain⟨⟨a,c,rfl⟩,_⟩:=h;exact hq
theorem ZA.mono {H H':View}{sz m:Nat}{y:Value}{l:List Value}(h:ZA H sz y m l)(k:H.le H'):ZA H' sz y m l:=by
 obtain⟨h1,h2,h3|⟨b,off,c,f,cs,e,fz,h3,hb,h4,h5⟩⟩:=h
 ·exact⟨h1,h2,.inl h3⟩
 ·exact⟨h1,h2,.inr ⟨b,off,c,f,cs,e,fz,h3,k _ _ hb,h4,h5⟩⟩
theorem ZA.of {H:View}{sz m c b off:Nat}{f:Bool}{cs:List Value}{e:TypeId}{fz:Nat×Nat}(hb:H b=some (f,.cells ⟨cs⟩ e fz))(hle:off+m*sz<=cs.length):ZA H sz (.slice (some ⟨b,off,none⟩) m c) m ((cs.drop off).take (m*sz)):=by
 have hl:((cs.drop off).take (m*sz)).length=m*sz:=by
  rw[List.length_take,List.length_drop];omega
 exact⟨⟨_,_,rfl⟩,hl,.inr ⟨b,off,c,f,cs,e,fz,rfl,hb,by rw[hl];exact hle,by rw[hl]⟩⟩
structure Gl(e:TypeId)(sz:Nat) where
 blk:Option Nat
 n:Nat
 cap:Nat
 l:List Value
 kB:List Value
 hl:l.length=n*sz
 hc:n<=cap
 hj:kB.length=(cap-n)*sz
 h0:blk=none->cap=0
def Gl.val {e:TypeId}{sz:Nat}(g:Gl e sz):Value:=.slice (g.blk.map fun b=> ⟨b,0,none⟩) g.n g.cap
def Gl.bl {e:TypeId}{sz:Nat}(g:Gl e sz):Bl:=
 match g.blk with
 | none=> []
 | some b=> [(b,true,.cells ⟨g.l++g.kB⟩ e (0,0))]
def Gl.nil(e:TypeId)(sz:Nat):Gl e sz:=⟨none,0,0,[],[],by simp,by simp,by simp,fun _=> rfl⟩
def Gl.emp(e:TypeId)(sz:Nat)(b:Nat):Gl e sz:=⟨some b,0,0,[],[],by simp,by simp,by simp,fun h=> by cases h⟩
theorem Gl.src {e:TypeId}{sz:Nat}(g:Gl e sz){H:View}(h:∀x∈g.bl,H x.1=some x.2):ZA H sz g.val g.n g.l:=by
 refine⟨⟨_,g.cap,rfl⟩,g.hl,?_⟩;unfold Gl.bl at h;cases hb:g.blk with
 | none=>
  have h1:=g.h0 hb;have h2:=g.hc;have h3:g.l.length=0:=by rw[g.hl,show g.n=0 by omega];simp
  exact .inl ⟨none,g.cap,by simp[Gl.val,hb],List.eq_nil_of_length_eq_zero h3⟩
 | some b=>
  rw[hb] at h;exact .inr ⟨b,0,g.cap,true,g.l++g.kB,e,(0,0),by simp[Gl.val,hb],h (b,true,.cells ⟨g.l++g.kB⟩ e (0,0)) (by simp),by simp,by simp⟩
theorem lH(z:Array Value)(m:Nat):Builtin.zeroCells z m=⟨iC z.toList (m*z.size)⟩:=by
 unfold Builtin.zeroCells;exact uI z (m*z.size)
theorem CM {t xt e:TypeId}{rt:TypeId}{r re:AA}{sz m:Nat}{y:Value}{new:List Value}{g:Gl e sz}{H:View}{Q:Value->View->Prop}(ht:E.ty t=some r)(JB:r.ds=.slice e)(eD:E.ty e=some re)(LD:re.size=sz)(kV:re.zero.cells.toList.length=sz)
  (jV:∃rx ex,E.ty xt=some rx/\rx.ds=.slice ex) (QX:re.bytes<=1000) (hn:g.n+m<=1000000000) (hb:∀x∈g.bl,H x.1=some x.2) (hy:ZA H sz y m new) (hs:new.all single=true)
  (hq:∀(g':Gl e sz) (H':View),g'.n=g.n+m->g'.l=g.l++new->(∀b,g'.blk=some b->((g.blk=some b/\g'.cap=g.cap)\/H b=none))->(∀c,(∀b,g'.blk=some b->b≠c)->H' c=H c)->(∀x∈g'.bl,H' x.1=some x.2)->Q g'.val H'):
  EA P (Builtin.append_ #[t,xt] rt #[g.val,y]) H Q:=by
 obtain⟨rx,ex,C1,eT⟩:=jV;have hold:=g.src hb;obtain⟨a,dR⟩:∃a,g.val=.slice a g.n g.cap:=⟨_,rfl⟩
 show EA P ((underlying t).bind fun _=> _) H Q;refine aA (underlying t) _ (fA (wC ((E.ok _ _ ht).ds.trans JB)) ?_);rw[dR];show EA P ((sizeOf e).bind fun _=> _) H Q;refine aA (sizeOf e) _ (LA (E.ok _ _ eD).size ?_);refine aA (underlying xt) _ (fA (wC ((E.ok _ _ C1).ds.trans eT)) ?_);refine aA (Builtin.lenOf y) _ (hy.lenOf ?_);simp only[LD];by_cases aC:g.n+m<=g.cap
 ·rw[if_pos aC];show EA P ((Builtin.firstCells sz m y).bind fun _=> _) H Q;refine aA _ _ (nD hy ?_);cases FG:g.blk with
  | none=>
   have h1:=g.h0 FG;have e1:a=none:=by
    unfold Gl.val at dR;rw[FG] at dR
    injection dR with e1
    exact e1.symm
   subst e1;have hm:m=0:=by omega
   have aV:new= []:=List.eq_nil_of_length_eq_zero (by rw[hy.2.1,hm];simp);have:=hq g H oM (by rw[aV];simp) (fun b hb=> .inl ⟨hb,rfl⟩) (fun c _=> rfl) hb;rw[dR] at this;show Q (.slice none (g.n+m) g.cap) H;rw[hm];exact this
  | some b=>
   have e1:a=some ⟨b,0,none⟩:=by
    unfold Gl.val at dR;rw[FG] at dR;cases dR
    rfl
   subst e1;have hHb:H b=some (true,.cells ⟨g.l++g.kB⟩ e (0,0)):=by
    have:=hb (b,true,.cells ⟨g.l++g.kB⟩ e (0,0)) (by unfold Gl.bl;rw[FG];simp);exact this
   show EA P ((storeCells (Addr.add ⟨b,0,none⟩ (g.n*sz)) new).bind fun _=> Sem.pure (.slice (some ⟨b,0,none⟩) (g.n+m) g.cap)) H Q;refine aA _ _ ?_;rw[FE _ _ rfl];have hlen:new.length=m*sz:=hy.2.1;have QW:m*sz<=g.kB.length:=by rw[g.hj];exact Nat.mul_le_mul_right _ oM
   refine DC b _ new 0 (g.l++g.kB) hHb (by simp only[List.length_append,g.hl];omega) hs fun H' RP=> ?_;have LB:uG (g.l++g.kB) (0+g.n*sz+0) new=(g.l++new)++g.kB.drop new.length:=by
    unfold uG;simp only[Nat.zero_add,Nat.add_zero,<-g.hl,List.take_left',List.drop_append];simp
   let g':Gl e sz:=⟨some b,g.n+m,g.cap,g.l++new,g.kB.drop new.length,by simp[g.hl,hlen,Nat.add_mul],aC,by rw[List.length_drop,g.hj,hlen,<-Nat.sub_mul];congr 1;omega,fun h=> by cases h⟩
   have key:∀x∈g'.bl,H' x.1=some x.2:=by
    intro x hx;simp only[g',Gl.bl,List.mem_singleton] at hx;subst hx;show H' b=some (true,.cells ⟨(g.l++new)++g.kB.drop new.length⟩ e (0,0));rw[RP];split
    ·rename_i XH
     subst XH;simpa using hHb
    ·rw[View.jB,LB]
   exact hq g' H' rfl rfl (fun b' jM=> .inl ⟨by cases jM;exact FG,rfl⟩) (fun c hc=> by
    rw[RP];split
    ·rfl
    ·rw[View.GA];intro e;exact hc b rfl e.symm) key
 ·rw[if_neg aC];have WG:=(E.ok _ _ eD).bytes;cases hi:P.info? e with
  | none=> rw[hi] at WG;cases WG
  | some i=>
   rw[hi] at WG;simp only[Option.map_some,Option.some.injEq] at WG;have XU:i.bytes<=1000:=by omega
   have yK:IntKind.i64.max=9223372036854775807:=by decide
   show EA P ((typeInfo e).bind fun _=> _) H Q;refine aA (typeInfo e) _ (MB hi ?_);rw[if_neg (by rw[yK];omega)];show EA P ((typeInfo e).bind fun _=> _) H Q;refine aA (typeInfo e) _ (MB hi ?_);rw[if_neg]
   ·show EA P ((choose _).bind fun newCap=> _) H Q;refine aA (choose _) _ ?_;intro tt;rw[if_neg (by simp[Question.forced])];generalize hnc:(Question.appendCap (g.n+m) g.cap e).cut tt=newCap;have SS:g.n+m<=newCap:=by rw[<-hnc];simp only[Question.cut];omega
    show EA P ((typeInfo e).bind fun _=> _) H Q;refine aA (typeInfo e) _ (MB hi ?_);show EA P ((askRoom (newCap*i.bytes)).bind fun _=> _) H Q;refine aA _ _ ?_;have S0:∀Q':Unit->View->Prop,Q' () H->EA P (askRoom (newCap*i.bytes)) H Q':=by
     intro Q' h;unfold askRoom;split
     ·exact⟨rfl,h⟩
     ·exact h
    refine S0 _ ?_;show EA P ((Builtin.firstCells sz g.n (.slice a g.n g.cap)).bind fun _=> _) H Q;rw[<-dR];refine aA _ _ (nD hold ?_);show EA P ((Builtin.firstCells sz m y).bind fun _=> _) H Q;refine aA _ _ (nD hy ?_);show EA P ((zeroValue e).bind fun _=> _) H Q;refine aA (zeroValue e) _ (NB (E.ok _ _ eD).zero ?_);rw[lH];intro blk WU;have Y8:re.zero.cells.size=sz:=by rw[<-Array.length_toList];exact kV
    let g':Gl e sz:=⟨some blk,g.n+m,newCap,g.l++new,iC re.zero.cells.toList ((newCap-(g.n+m))*re.zero.cells.size),by simp[g.hl,hy.2.1,Nat.add_mul],SS,by rw[GM,Y8],fun h=> by cases h⟩
    exact hq g' _ rfl rfl (fun b' jM=> .inr (by cases jM;exact WU)) (fun c hc=> by
     rw[View.GA];intro e;exact hc blk rfl e.symm) (fun x hx=> by
     simp only[g',Gl.bl,List.mem_singleton] at hx;subst hx;rw[View.jB];simp)
   ·have h3 : Builtin.nextslicecap (g.n+m) g.cap<=4*1000000000:=by
     unfold Builtin.nextslicecap;split
     ·omega
     ·split
      ·omega
      ·have gb:∀(rounds c:Nat),c<=2*(g.n+m)+1000->Builtin.growBy (g.n+m) rounds c<=2*(g.n+m)+1000:=by
        intro rounds;induction rounds with
        | zero=> exact fun c hc=> hc
        | succ rounds ih=>
         intro c hc;unfold Builtin.growBy;split
         ·exact hc
         ·exact ih _ oM
       have:=gb 4 g.cap oM;omega
    have h4:Builtin.nextslicecap (g.n+m) g.cap*i.bytes<=4*1000000000*1000:=Nat.mul_le_mul h3 XU;omega
theorem QO {t xt e:TypeId}{rt:TypeId}{r re:AA}{sz m:Nat}{y:Value}{new:List Value}{g:Gl e sz}{H:View}{Q:Value->View->Prop}(ht:E.ty t=some r)(JB:r.ds=.slice e)(eD:E.ty e=some re)(LD:re.size=sz)(kV:re.zero.cells.toList.length=sz)
  (jV:∃rx ex,E.ty xt=some rx/\rx.ds=.slice ex) (QX:re.bytes<=1000) (hn:g.n+m<=1000000000) (hb:∀x∈g.bl,H x.1=some x.2) (hy:ZA H sz y m new) (hs:new.all single=true)
  (hq:∀(g':Gl e sz) (H':View),g'.n=g.n+m->g'.l=g.l++new->(∀b,g'.blk=some b->(g.blk=some b\/H b=none))->(∀c,(∀b,g'.blk=some b->b≠c)->H' c=H c)->(∀x∈g'.bl,H' x.1=some x.2)->Q g'.val H'):
  EA P (Builtin.append_ #[t,xt] rt #[g.val,y]) H Q:=
 CM ht JB eD LD kV jV QX hn hb hy hs fun g' H' h1 h2 h3 h4 h5=> hq g' H' h1 h2 (fun b hb=> (h3 b hb).imp And.left id) h4 h5
theorem iA.grown {e:TypeId}{sz:Nat}{g g':Gl e sz}{A:Bl}{H H':View}(h:iA H₀ (A++g.bl) H)(h1:∀b,g'.blk=some b->(g.blk=some b\/H b=none))(h2:∀c,(∀b,g'.blk=some b->b≠c)->H' c=H c)(h3:∀x∈g'.bl,H' x.1=some x.2):
  iA H₀ (A++g'.bl) H':=by
 have nB:∀b,g'.blk=some b->(∀x∈A,b≠x.1)/\H₀ b=none:=by
  intro b hb;rcases h1 b hb with h4|h4
  ·have JD:(b,true,Obj.cells ⟨g.l++g.kB⟩ e (0,0))∈g.bl:=by unfold Gl.bl;rw[h4];simp
   refine⟨fun x hx e=> ?_,h.out _ (List.mem_append_right A JD)⟩;have uE:=h.nodup;rw[List.map_append,List.nodup_append] at uE;exact uE.2.2 _ (List.mem_map_of_mem hx) _ (List.mem_map_of_mem JD) e.symm
  ·refine⟨fun x hx e=> ?_,?_⟩
   ·have:=h.at_ x (by simp[hx]);rw[<-e,h4] at this;cases this
   ·cases h0:H₀ b with
    | none=> rfl
    | some y=>
     have:=h.base _ _ h0;rw[h4] at this;cases this
 refine⟨?_,fun x hx=> ?_,fun x hx=> ?_,fun c y hc=> ?_⟩
 ·have uE:=h.nodup;rw[List.map_append,List.nodup_append] at uE ⊢;refine⟨uE.1,?_,fun a ha b hb=> ?_⟩
  ·unfold Gl.bl;split <;> simp
  ·unfold Gl.bl at hb;split at hb
   ·simp at hb
   ·rename_i b' jM
    simp only[List.map_cons,List.map_nil,List.mem_singleton] at hb;subst hb;obtain⟨x,hx,rfl⟩:=List.mem_map.1 ha;exact((nB _ jM).1 x hx).symm
 ·rcases List.mem_append.1 hx with hx|hx
  ·exact h.out x (by simp[hx])
  ·unfold Gl.bl at hx;split at hx
   ·simp at hx
   ·rename_i b' jM
    simp only[List.mem_singleton] at hx;subst hx;exact(nB _ jM).2
 ·rcases List.mem_append.1 hx with VJ|VJ
  ·rw[h2 _ fun b hb=> (nB b hb).1 x VJ];exact h.at_ x (by simp[VJ])
  ·exact h3 x VJ
 ·rw[h2 _ fun b hb e=> by rw[<-e,(nB b hb).2] at hc;cases hc];exact h.base _ _ hc
theorem Or.append(k:Nat){cl:Go.Call}{x y:Operand}{t xt e:TypeId}{sz m:Nat}{yv:Value}{new:List Value}{g:Gl e sz}{r re rx:AA}{ex:TypeId}(kA:o.op=.call cl)(iB:cl.callee=.builtin .append)(NF:cl.argTypes=#[t,xt])(VG:cl.args=#[x,y])
  (hx:HA R x=some g.val) (hy:HA R y=some yv) (ht:E.ty t=some r) (JB:r.ds=.slice e) (eD:E.ty e=some re) (LD:re.size=sz) (kV:Nat.beq re.zero.cells.toList.length sz=true) (jV:E.ty xt=some rx) (hex:rx.ds=.slice ex) (QX:Nat.ble re.bytes 1000=true)
  (hL:L.drop k=g.bl) (BL:∀H,iA H₀ L H->ZA H sz yv m new) (hs:new.all single=true) (hm:g.n+m<=1000000000) (hd:o.dst=some d) (hn:d<n)
  (hk:∀g':Gl e sz,g'.n=g.n+m->g'.l=g.l++new->K ((d,g'.val)::R) (L.take k++g'.bl)):Or M n H₀ R L o K:=
 .val hd hn fun H tmps LB hr=> by
  have G8:L=L.take k++g.bl:=by rw[<-hL,List.take_append_drop]
  unfold execOp;rw[kA];simp only[resolve,iB,NF,VG];have UX:Array.map (CB tmps) #[x,y]=#[g.val,yv]:=by simp[hr.ev hx,hr.ev hy]
  rw[UX];rw[G8] at LB;refine aA (Builtin.append_ #[t,xt] o.type #[g.val,yv]) _ ?_;refine QO ht JB eD LD (Nat.eq_of_beq_eq_true kV) ⟨rx,ex,jV,hex⟩ (Nat.le_of_ble_eq_true QX) hm (fun z hz=> LB.at_ z (by simp[hz])) (BL H (by rw[G8];exact LB)) hs fun g' H' h1 h2 h3 h4 h5=> ?_;exact⟨_,rfl,_,LB.grown h3 h4 h5,hk g' h1 h2⟩
end
def uH(agg:Bool)(l:List Value):Value:=
 match agg with
 | true=> .agg ⟨l⟩
 | false=> l.headD undef
def chunk(l:List Value)(off sz:Nat):List Value:=(l.drop off).take sz
def BJ:Nat->List (TypeId×Nat×Nat)->Nat->Bool
 | a,[],m=> Nat.beq a m
 | a,(_,off,sz)::fs,m=>
  match Nat.beq a off with
  | true=> BJ (a+sz) fs m
  | false=> false
theorem KP:∀ {fs:List (TypeId×Nat×Nat)} {a:Nat} {l l':List Value},BJ a fs l.length=true->l'.length=l.length->l.take a=l'.take a->(∀f∈fs,chunk l f.2.1 f.2.2=chunk l' f.2.1 f.2.2)->l=l'
 | [],a,l,l',h,hl,h0,_=> by
  have:a=l.length:=Nat.eq_of_beq_eq_true h;subst this;rw[List.take_of_length_le (Nat.le_refl _),List.take_of_length_le oM] at h0;exact h0
 | (t,off,sz)::fs,a,l,l',h,hl,h0,OA=> by
  unfold BJ at h;split at h
  ·rename_i hb
   have:a=off:=Nat.eq_of_beq_eq_true hb;subst this;refine KP h hl ?_ fun f hf=> OA f (by simp[hf]);have:=OA _ (by simp:(t,a,sz)∈(t,a,sz)::fs);simp only[chunk] at this;rw[List.take_add,List.take_add,h0,this]
  ·cases h
theorem zN:∀ {fs:List (TypeId×Nat×Nat)} {a m m':Nat},BJ a fs m=true->BJ a fs m'=true->m=m'
 | [],a,m,m',h,h'=> (Nat.eq_of_beq_eq_true h).symm.trans (Nat.eq_of_beq_eq_true h')
 | (t,off,sz)::fs,a,m,m',h,h'=> by
  unfold BJ at h h';split at h
  ·rename_i hb
   rw[hb] at h';exact zN h h'
  ·cases h
theorem IP {sz:Nat}:∀ {m:Nat} {l l':List Value},l.length=m*sz->l'.length=m*sz->(∀i,i<m->chunk l (i*sz) sz=chunk l' (i*sz) sz)->l=l'
 | 0,l,l',h,h',_=> by
  have e1:l= []:=List.eq_nil_of_length_eq_zero (by simpa using h);have e2:l'= []:=List.eq_nil_of_length_eq_zero (by simpa using h');rw[e1,e2]
 | m+1,l,l',h,h',OA=> by
  have h0:=OA 0 oM;simp only[chunk,Nat.zero_mul,List.drop_zero] at h0;rw[<-List.take_append_drop sz l,<-List.take_append_drop sz l',h0]
  congr 1
  refine IP (m:=m) (sz:=sz) (by rw[List.length_drop,h,Nat.succ_mul];omega) (by rw[List.length_drop,h',Nat.succ_mul];omega) fun i hi=> ?_;have:=OA (i+1) oM;simp only[chunk,Nat.succ_mul] at this;simp only[chunk,List.drop_drop];rw[Nat.add_comm sz];exact this
section
variable {P:Program}
def flat(E:Env P):Nat->TypeId->List Value->Prop
 | 0,_,_=> False
 | d + 1,t,l=>
  match E.ty t with
  | none=> False
  | some r=>
   match r.ds with
   | .int k=> ∃i,l= [.int k i]
   | .bool=> ∃i,l= [.bool i]
   | .str=> ∃i,l= [.string i]
   | .struct fs=> BJ 0 fs l.length=true/\∀f∈fs,flat E d f.1 (chunk l f.2.1 f.2.2)/\∃rf,E.ty f.1=some rf/\rf.size=f.2.2/\f.2.1+f.2.2<=l.length
   | .arr m e=> ∃re,E.ty e=some re/\l.length=m*re.size/\∀i,i<m->flat E d e (chunk l (i*re.size) re.size)
   | _=> False
theorem fJ(i j:ByteArray):(i==j)=true<->i=j:=by
 cases i with|mk a=> cases j with|mk b=>
 show(ByteArray.beq _ _)=true<->_;simp[ByteArray.beq]
def oW:TyD->Option Bool
 | .struct _ | .arr _ _=> some true
 | .other=> none
 | _=> some false
theorem HU {t:TypeId}{g b:Bool}{dd:TyD}(h:oI P t=dd)(hg:MO P t=some g)(hb:oW dd=some b):g=b:=by
 subst h;unfold oI at hb;unfold MO at hg;split at hb <;> rename_i hu
 ·rw[hu] at hg;cases hg;cases hb;rfl
 ·rw[hu] at hg;cases hg;cases hb;rfl
 ·rw[hu] at hg;cases hg;cases hb;rfl
 ·rw[hu] at hg;split at hb
  ·cases hg;cases hb;rfl
  ·cases hb
 ·rw[hu] at hg;cases hg;cases hb;rfl
 ·rw[hu] at hg;cases hg;cases hb;rfl
 ·rw[hu] at hg;cases hg;cases hb;rfl
 ·cases hb
theorem YM {t:TypeId}(h:oI P t=.bool):P.underlying t=some .bool:=by
 unfold oI at h;split at h <;> try cases h
 ·assumption
 ·rename_i a hu;split at h <;> cases h
theorem YE {t:TypeId}(h:oI P t=.str):P.underlying t=some .string:=by
 unfold oI at h;split at h <;> try cases h
 ·assumption
 ·rename_i a hu;split at h <;> cases h
variable {E:Env P}
theorem QC {t:TypeId}{r:AA}{l:List Value}{off:Nat}{H:View}{Q:Value->View->Prop}(ht:E.ty t=some r)(hle:off+r.size<=l.length)(h1:r.agg=false->r.size=1)(h:Q (uH r.agg (chunk l off r.size)) H):EA P (part t ⟨l⟩ off) H Q:=by
 refine dU ht (v:=uH r.agg (chunk l off r.size)) ?_ h;unfold tE uH chunk;cases hg:r.agg with
 | true=>
  simp only[Nat.ble_eq_true_of_le hle]
 | false=>
  have h2:=h1 hg;simp only[h2];have xB:off<l.length:=by omega
  rw[List.getElem?_eq_getElem xB,List.drop_eq_getElem_cons xB];rfl
theorem CG {d:Nat}{t:TypeId}{r:AA}{l:List Value}(hf:flat E d t l)(ht:E.ty t=some r)(hg:r.agg=false):l.length=1:=by
 cases d with
 | zero=> exact hf.elim
 | succ d=>
  unfold flat at hf;rw[ht] at hf;simp only at hf;have ha:∀b,oW r.ds=some b->false=b:=fun b hb=> hg▸HU (E.ok _ _ ht).ds (E.ok _ _ ht).agg hb;split at hf <;> rename_i JB
  ·obtain⟨i,rfl⟩:=hf;rfl
  ·obtain⟨i,rfl⟩:=hf;rfl
  ·obtain⟨i,rfl⟩:=hf;rfl
  ·rw[JB] at ha;cases ha true rfl
  ·rw[JB] at ha;cases ha true rfl
  ·exact hf.elim
theorem PJ {α:Type}{p:α->Prop}{f:α->Option Bool×Unit->Sem (ForInStep (Option Bool×Unit))}{H:View}{Q:Option Bool×Unit->View->Prop}:∀ {xs:List α},
  (∀x∈xs,∀Q':ForInStep (Option Bool×Unit)->View->Prop,(∀b,(b=true<->p x)->Q' (if(!b)=true then .done (some false,()) else .yield (none,())) H)->EA P (f x (none,())) H Q')-> 
  (∀r,(r=(none,())/\(∀x∈xs,p x))\/(r=(some false,())/\¬∀x∈xs,p x)->Q r H)->EA P (forIn xs (none,()) f) H Q
 | [],_,hq=> hq _ (.inl ⟨rfl,by simp⟩)
 | x ::xs,hf,hq=> by
  rw[List.forIn_cons];refine aA (f x (none,())) _ (hf x (by simp) _ fun b hb=> ?_);cases b with
  | false=> exact hq _ (.inr ⟨rfl,fun h=> by have:=hb.2 (h x (by simp));cases this⟩)
  | true=>
   have hp:=hb.1 rfl;refine PJ (xs:=xs) (fun y hy=> hf y (by simp[hy])) fun r hr=> hq r ?_;rcases hr with ⟨h1,h2⟩|⟨h1,h2⟩
   ·exact .inl ⟨h1,fun y hy=> by
     rcases List.mem_cons.1 hy with rfl|hy
     ·exact hp
     ·exact h2 y hy⟩
   ·exact .inr ⟨h1,fun h=> h2 fun y hy=> h y (by simp[hy])⟩
theorem jG {H:View}:∀(d D:Nat),d<=D->∀ {t:TypeId} {r:AA} {l l':List Value} {Q:Bool->View->Prop},E.ty t=some r->flat E d t l->flat E d t l'->(∀b,(b=true<->l=l')->Q b H)->EA P (Op.equalIn D t (uH r.agg l) (uH r.agg l')) H Q
 | 0,_,_,_,_,_,_,_,_,hf,_,_=> hf.elim
 | d+1,0,h,_,_,_,_,_,_,_,_,_=> by omega
 | d + 1,D+1,hd,t,r,l,l',Q,ht,hf,VO,hq=> by
  have ha:∀b,oW r.ds=some b->r.agg=b:=fun b hb=> HU (E.ok _ _ ht).ds (E.ok _ _ ht).agg hb;unfold flat at hf VO;rw[ht] at hf VO;simp only at hf VO;cases JB:r.ds with
  | int k=>
   rw[JB] at hf VO ha;obtain⟨i,rfl⟩:=hf;obtain⟨j,rfl⟩:=VO;rw[ha _ rfl];refine aA (underlying t) _ (fA (wL ((E.ok _ _ ht).ds.trans JB)) ?_);show EA P (if k=k then _ else _) H Q;rw[if_pos rfl];exact hq _ (by simp)
  | bool=>
   rw[JB] at hf VO ha;obtain⟨i,rfl⟩:=hf;obtain⟨j,rfl⟩:=VO;rw[ha _ rfl];refine aA (underlying t) _ (fA (YM ((E.ok _ _ ht).ds.trans JB)) ?_);exact hq (i==j) (by simp)
  | str=>
   rw[JB] at hf VO ha;obtain⟨i,rfl⟩:=hf;obtain⟨j,rfl⟩:=VO;rw[ha _ rfl];refine aA (underlying t) _ (fA (YE ((E.ok _ _ ht).ds.trans JB)) ?_);exact hq (i==j) (by rw[fJ];simp)
  | struct fs=>
   rw[JB] at hf VO ha;rw[ha _ rfl];obtain⟨hc,OA⟩:=hf;obtain⟨hc',JW⟩:=VO;obtain⟨a,hu,hn,LB,T4⟩:=CI ((E.ok _ _ ht).ds.trans JB);refine aA (underlying t) _ (fA hu ?_);show EA P ((program).bind fun p=> _) H Q;show EA P (if P.stoodInHeld t=true then _ else _) H Q;rw[if_neg (by simp[LB])];show EA P ((forIn a (none,()) fun(f:Field) (_:Option Bool×Unit)=> (if f.name≠ "_" then(part f.type ⟨l⟩ f.offset).bind fun x=> (part f.type ⟨l'⟩ f.offset).bind fun y=> (Op.equalIn D f.type x y).bind fun b=> if(!b)=true then Sem.pure (ForInStep.done (some false,())) else Sem.pure (ForInStep.yield (none,())) else Sem.pure (ForInStep.yield (none,())):Sem (ForInStep (Option Bool×Unit)))).bind _) H Q;rw[<-Array.forIn_toList];refine aA _ _ (PJ (p:=fun f:Field=> chunk l f.offset (((P.info? f.type).map (·.size)).getD 0)=chunk l' f.offset (((P.info? f.type).map (·.size)).getD 0)) (fun f hf Q' I8=> ?_) ?_)
   ·rw[if_pos (hn f hf).1];have JD:(f.type,f.offset,((P.info? f.type).map (·.size)).getD 0)∈fs:=by rw[T4];exact List.mem_map.2 ⟨f,hf,rfl⟩
    obtain⟨g1,rf,g2,g3,g4⟩:=OA _ JD;obtain⟨g1',_,_,_,g4'⟩:=JW _ JD;simp only at g1 g2 g3 g4 g1' g4';rw[<-g3] at g1 g4 g1' g4' I8;have AK:∀m:List Value,flat E d f.type (chunk m f.offset rf.size)->f.offset+rf.size<=m.length->rf.agg=false->rf.size=1:=by
     intro m hm hle hg;have:=CG hm g2 hg;simp only[chunk,List.length_take,List.length_drop] at this;omega
    refine aA _ _ (QC g2 g4 (AK l g1 g4) ?_);refine aA _ _ (QC g2 g4' (AK l' g1' g4') ?_);refine aA _ _ (jG d D oM g2 g1 g1' fun b hb=> ?_);have:=I8 b hb;cases b <;> exact this
   ·rintro r (⟨rfl,hr⟩|⟨rfl,hr⟩)
    ·refine hq true ⟨fun _=> ?_,fun _=> rfl⟩;refine KP hc (zN hc' hc) rfl fun f hf=> ?_
     ·rw[T4] at hf;obtain⟨g,hg,rfl⟩:=List.mem_map.1 hf;exact hr g hg
    ·refine hq false ⟨fun h=> (by cases h),fun h=> ?_⟩;exact absurd (fun f hf=> by rw[h]) hr
  | arr m e=>
   rw[JB] at hf VO ha;rw[ha _ rfl];obtain⟨re,eD,hlen,OA⟩:=hf;obtain⟨re',aCT,aCL,JW⟩:=VO;rw[eD] at aCT;cases aCT
   refine aA (underlying t) _ (fA (QQ ((E.ok _ _ ht).ds.trans JB)) ?_);show EA P ((sizeOf e).bind fun _=> _) H Q;refine aA (sizeOf e) _ (LA (E.ok _ _ eD).size ?_);rw[Std.Legacy.Range.forIn_eq_forIn_range'];refine aA _ _ (PJ (p:=fun i:Nat=> chunk l (i*re.size) re.size=chunk l' (i*re.size) re.size) (fun i hi Q' I8=> ?_) ?_)
   ·have X6:i<m:=by
     simp only[Std.Legacy.Range.size,List.mem_range'_1] at hi;omega
    have hle:i*re.size+re.size<=l.length:=by
     rw[hlen,<-Nat.succ_mul];exact Nat.mul_le_mul_right _ X6
    have AK:∀k:List Value,flat E d e (chunk k (i*re.size) re.size)->i*re.size+re.size<=k.length->re.agg=false->re.size=1:=by
     intro k hk hle hg;have:=CG hk eD hg;simp only[chunk,List.length_take,List.length_drop] at this;omega
    refine aA _ _ (QC eD hle (AK l (OA i X6) hle) ?_);have N0:i*re.size+re.size<=l'.length:=by omega
    refine aA _ _ (QC eD N0 (AK l' (JW i X6) N0) ?_);refine aA _ _ (jG d D oM eD (OA i X6) (JW i X6) fun b hb=> ?_);have:=I8 b hb;cases b <;> exact this
   ·rintro r (⟨rfl,hr⟩|⟨rfl,hr⟩)
    ·refine hq true ⟨fun _=> ?_,fun _=> rfl⟩;refine IP hlen aCL fun i hi=> hr i ?_;simp only[Std.Legacy.Range.size,List.mem_range'_1];omega
    ·refine hq false ⟨fun h=> (by cases h),fun h=> ?_⟩;exact absurd (fun f hf=> by rw[h]) hr
  | slice e=> rw[JB] at hf;exact hf.elim
  | map k e=> rw[JB] at hf;exact hf.elim
  | other=> rw[JB] at hf;exact hf.elim
end
section
variable {P:Program}{E:Env P}{M:Md P}{n:Nat}{H₀:View}{R:Rg}{L L':Bl}{K:Rg->Bl->Prop}{o:Oper}{d:Nat}{v:Value}
theorem pA.neA(b:Bool)(dp:Nat){t u:TypeId}{x y:Operand}{r:AA}{l l':List Value}(kA:o.op=.binOp .neq t x y u)(hx:HA R x=some (.agg ⟨l⟩))(hy:HA R y=some (.agg ⟨l'⟩))(ht:E.ty t=some r)(hag:r.agg=true)(hg:P.eqGuardType P.depth t=false)
  (NW:dp<=10000) (hf:flat E dp t l) (VO:flat E dp t l') (hb:b=true<->l=l'):pA P n H₀ R L o (.bool (!b)):=
 (fun H tmps _ hr=> by
  unfold execOp;rw[kA];simp only[hr.ev hx,hr.ev hy];show EA P (((eqGuard .neq t x y _ _).bind fun _=> binOp .neq t _ _).bind _) H _;refine aA _ _ (aA _ _ ?_);show EA P (if(!P.eqGuardType P.depth t)=true then _ else _) H _;rw[hg];show EA P ((Op.equalIn 10000 t (.agg ⟨l⟩) (.agg ⟨l'⟩)).bind fun c=> Sem.pure (Value.bool (!c))) H _;refine aA _ _ ?_;have h1:=jG (H:=H) (Q:=fun c H'=> EA P (Sem.pure (Value.bool (!c))) H' fun a H'=> EA P (Sem.pure (Next.value a)) H' fun nx H'=> nx=.value (.bool (!b))/\H'=H) dp 10000 NW ht hf VO fun c hc=> ?_
  ·rw[hag] at h1;exact h1
  ·have:c=b:=by
    cases c <;> cases b <;> simp_all
   subst this;exact⟨rfl,rfl⟩)
theorem pA.eqB {t u:TypeId}{x y:Operand}{r:AA}{p q:Bool}(kA:o.op=.binOp .eql t x y u)(hx:HA R x=some (.bool p))(hy:HA R y=some (.bool q))(ht:E.ty t=some r)(JB:r.ds=.bool):pA P n H₀ R L o (.bool (p==q)):=
 (fun H tmps _ hr=> by
  unfold execOp;rw[kA];simp only[hr.ev hx,hr.ev hy];show EA P (((Op.equalIn 10000 t (.bool p) (.bool q)).bind fun c=> Sem.pure (Value.bool c)).bind _) H _;refine aA _ _ (aA _ _ ?_);exact aA (underlying t) _ (fA (YM ((E.ok _ _ ht).ds.trans JB)) ⟨rfl,rfl⟩))
theorem pA.neB {t u:TypeId}{x y:Operand}{r:AA}{p q:Bool}(kA:o.op=.binOp .neq t x y u)(hx:HA R x=some (.bool p))(hy:HA R y=some (.bool q))(ht:E.ty t=some r)(JB:r.ds=.bool):pA P n H₀ R L o (.bool (!(p==q))):=
 (fun H tmps _ hr=> by
  unfold execOp;rw[kA];simp only[hr.ev hx,hr.ev hy];show EA P (((Op.equalIn 10000 t (.bool p) (.bool q)).bind fun c=> Sem.pure (Value.bool (!c))).bind _) H _;refine aA _ _ (aA _ _ ?_);exact aA (underlying t) _ (fA (YM ((E.ok _ _ ht).ds.trans JB)) ⟨rfl,rfl⟩))
theorem pA.eM {t u e:TypeId}{x y:Operand}{r:AA}{a:Option Addr}{m c:Nat}(kA:o.op=.binOp .eql t x y u)(hx:HA R x=some (.slice a m c))(hy:HA R y=some (.slice none 0 0))(ht:E.ty t=some r)(JB:r.ds=.slice e):pA P n H₀ R L o (.bool a.isNone):=
 (fun H tmps _ hr=> by
  unfold execOp;rw[kA];simp only[hr.ev hx,hr.ev hy];show EA P (((Op.equalIn 10000 t (.slice a m c) (.slice none 0 0)).bind fun c=> Sem.pure (Value.bool c)).bind _) H _;refine aA _ _ (aA _ _ ?_);refine aA (underlying t) _ (fA (wC ((E.ok _ _ ht).ds.trans JB)) ?_);cases a <;> exact⟨rfl,rfl⟩)
def TF(E:Env P)(dp:Nat)(t:TypeId)(k:Value):Prop:=∃r l,E.ty t=some r/\k=uH r.agg l/\flat E dp t l
theorem zY {dp:Nat}{t:TypeId}{r:AA}{l l':List Value}(ht:E.ty t=some r)(h:flat E dp t l)(h':flat E dp t l'):uH r.agg l=uH r.agg l'<->l=l':=by
 refine⟨fun e=> ?_,fun e=> by rw[e]⟩;cases hg:r.agg with
 | true=>
  rw[hg] at e;simpa [uH] using e
 | false=>
  rw[hg] at e;have h1:=CG h ht hg;have h2:=CG h' ht hg
  match l,l',h1,h2 with
  | [a],[b],_,_=> simpa [uH] using e
def xJ(es:List MapEntry)(k:Value)(r:Option (Nat×Value)):Prop:=
 match r with
 | none=> ∀e∈es,e.key≠k
 | some (i,v)=> ∃e,es[i]? =some e/\e.key=k/\e.val=v
theorem wO {kd:TypeDesc}{a b:Value}{c:Bool}(h:Instr.sameNow kd a b=some c):c=true<->a=b:=by
 unfold Instr.sameNow at h;split at h
 ·split at h
  ·rename_i hk
   subst hk;cases h
   simp
  ·cases h
 ·cases h
  rw[fJ];simp
 ·cases h
  simp
 ·cases h
def wG(es:List MapEntry)(k:Value)(i:Nat)(r:Option (Nat×Value)):Prop:=
 match r with
 | none=> ∀e∈es,e.key≠k
 | some (j,v)=> i<=j/\∃e,es[j-i]? =some e/\e.key=k/\e.val=v
theorem wG.cons {e:MapEntry}{es:List MapEntry}{k:Value}{i:Nat}{r:Option (Nat×Value)}(h:wG es k (i+1) r)(nB:e.key≠k):wG (e::es) k i r:=by
 cases r with
 | none=>
  intro x hx;rcases List.mem_cons.1 hx with rfl|hx
  ·exact nB
  ·exact h x hx
 | some p=>
  obtain⟨j,v⟩:=p;obtain⟨h1,x,h2,h3,h4⟩:=h;refine⟨oM,x,?_,h3,h4⟩;rw[show j-i=(j-(i+1))+1 by omega];simpa using h2
theorem HN {kd:TypeDesc}{k:Value}:∀ {es:List MapEntry} {i:Nat} {r:Option (Nat×Value)},Instr.findNow kd k es i=some r->wG es k i r
 | [],i,r,h=> by
  simp only[Instr.findNow,Option.some.injEq] at h;subst h;intro e he;cases he
 | e ::es,i,r,h=> by
  unfold Instr.findNow at h;split at h
  ·rename_i hs
   cases h
   exact⟨Nat.le_refl _,e,by simp,((wO hs).1 rfl).symm,rfl⟩
  ·rename_i hs
   refine(HN h).cons fun he=> ?_;have:=(wO hs).2 he.symm;cases this
  ·cases h
theorem qI {dp:Nat}(NW:dp<=10000){t:TypeId}{k:Value}{H:View}{Q:Option (Nat×Value)->View->Prop}(hk:TF E dp t k):∀ {es:List MapEntry} {i:Nat},(∀e∈es,TF E dp t e.key)->(∀r,wG es k i r->Q r H)->EA P (Instr.findAsking t k es i) H Q
 | [],i,_,h=> h none (fun e he=> by cases he)
 | e ::es,i,YI,h=> by
  unfold Instr.findAsking;obtain⟨r,l,ht,rfl,hf⟩:=hk;obtain⟨r',l',j5,he,VO⟩:=YI e (by simp);rw[ht] at j5;cases j5
  rw[he];refine aA (Op.equal t _ _) _ (jG dp 10000 NW ht hf VO fun b hb=> ?_);cases b with
  | true=>
   refine h _ ⟨Nat.le_refl _,e,by simp,?_,rfl⟩;rw[he,hb.1 rfl]
  | false=>
   refine qI NW ⟨r,l,ht,rfl,hf⟩ (fun x hx=> YI x (by simp[hx])) fun r' rE=> h r' (rE.cons ?_);rw[he];intro e;have:=hb.2 ((zY ht hf VO).1 e.symm);cases this
theorem EM {dp:Nat}(NW:dp<=10000){t:TypeId}{dd:TypeDesc}{k:Value}{es:List MapEntry}{H:View}{Q:Option (Nat×Value)->View->Prop}(hk:TF E dp t k)(hd:P.underlying t=some dd)(YI:∀e∈es,TF E dp t e.key)(h:∀r,xJ es k r->Q r H):EA P (Instr.findKey t k es) H Q:=by
 refine aA (underlying t) _ (fA hd ?_);have fin:∀r,wG es k 0 r->Q r H:=fun r hr=> h r (by
  cases r with
  | none=> exact hr
  | some p=> exact⟨hr.2.choose,by simpa using hr.2.choose_spec⟩)
 split
 ·rename_i r hr
  exact fin r (HN hr)
 ·exact qI NW hk YI fin
theorem rI {α:Type}{f:α->Unit->Sem (ForInStep Unit)}{H:View}{Q:Unit->View->Prop}:∀ {xs:List α},(∀x∈xs,∀Q':ForInStep Unit->View->Prop,Q' (.yield ()) H->EA P (f x ()) H Q')->Q () H->EA P (forIn xs () f) H Q
 | [],_,hq=> hq
 | x::xs,hf,hq=> by
  rw[List.forIn_cons];exact aA (f x ()) _ (hf x (by simp) _ (rI (fun y hy=> hf y (by simp[hy])) hq))
theorem qH {dp:Nat}{t:TypeId}{l:List Value}(h:flat E dp t l):∃r dd,E.ty t=some r/\P.underlying t=some dd:=by
 cases dp with
 | zero=> exact h.elim
 | succ dp=>
  unfold flat at h;split at h
  ·exact h.elim
  ·rename_i r ht
   have hag:=(E.ok _ _ ht).agg;unfold MO at hag;cases hu:P.underlying t with
   | none=> rw[hu] at hag;cases hag
   | some dd=> exact⟨r,dd,ht,rfl⟩
theorem pF {e:Bool}{H:View}:∀(d D:Nat),d<=D->∀ {t:TypeId} {r:AA} {l:List Value} {Q:Unit->View->Prop},E.ty t=some r->flat E d t l->Q () H->EA P (Instr.checkKey e D t (uH r.agg l)) H Q
 | 0,_,_,_,_,_,_,_,hf,_=> hf.elim
 | d+1,0,h,_,_,_,_,_,_,_=> by omega
 | d + 1,D+1,hd,t,r,l,Q,ht,hf,hq=> by
  have ha:∀b,oW r.ds=some b->r.agg=b:=fun b hb=> HU (E.ok _ _ ht).ds (E.ok _ _ ht).agg hb;unfold flat at hf;rw[ht] at hf;simp only at hf;cases JB:r.ds with
  | int k=>
   rw[JB] at hf ha;obtain⟨i,rfl⟩:=hf;rw[ha _ rfl];exact aA (underlying t) _ (fA (wL ((E.ok _ _ ht).ds.trans JB)) hq)
  | bool=>
   rw[JB] at hf ha;obtain⟨i,rfl⟩:=hf;rw[ha _ rfl];exact aA (underlying t) _ (fA (YM ((E.ok _ _ ht).ds.trans JB)) hq)
  | str=>
   rw[JB] at hf ha;obtain⟨i,rfl⟩:=hf;rw[ha _ rfl];exact aA (underlying t) _ (fA (YE ((E.ok _ _ ht).ds.trans JB)) hq)
  | struct fs=>
   rw[JB] at hf ha;rw[ha _ rfl];obtain⟨hc,OA⟩:=hf;obtain⟨a,hu,hn,_,T4⟩:=CI ((E.ok _ _ ht).ds.trans JB);refine aA (underlying t) _ (fA hu ?_);show EA P ((forIn a () fun(f:Field) (_:Unit)=> (if f.name≠ "_" then(part f.type ⟨l⟩ f.offset).bind fun x=> (Instr.checkKey e D f.type x).bind fun _=> Sem.pure (ForInStep.yield ()) else Sem.pure (ForInStep.yield ()):Sem (ForInStep Unit))).bind fun _=> Sem.pure ()) H Q;refine aA _ _ ?_;rw[<-Array.forIn_toList];refine rI (fun f hf Q' I8=> ?_) hq;rw[if_pos (hn f hf).1];have JD:(f.type,f.offset,((P.info? f.type).map (·.size)).getD 0)∈fs:=by rw[T4];exact List.mem_map.2 ⟨f,hf,rfl⟩
   obtain⟨g1,rf,g2,g3,g4⟩:=OA _ JD;simp only at g1 g2 g3 g4;rw[<-g3] at g1 g4;refine aA _ _ (QC g2 g4 (fun hg=> ?_) ?_)
   ·have:=CG g1 g2 hg;simp only[chunk,List.length_take,List.length_drop] at this;omega
   exact aA _ _ (pF d D oM g2 g1 I8)
  | arr m et=>
   rw[JB] at hf ha;rw[ha _ rfl];obtain⟨re,eD,hlen,OA⟩:=hf;refine aA (underlying t) _ (fA (QQ ((E.ok _ _ ht).ds.trans JB)) ?_);show EA P ((forIn [:m] () fun(i:Nat) (_:Unit)=> ((sizeOf et).bind fun s=> (part et ⟨l⟩ (i*s)).bind fun x=> (Instr.checkKey e D et x).bind fun _=> Sem.pure (ForInStep.yield ()):Sem (ForInStep Unit))).bind fun _=> Sem.pure ()) H Q;refine aA _ _ ?_;rw[Std.Legacy.Range.forIn_eq_forIn_range'];refine rI (fun i hi Q' I8=> ?_) hq;have X6:i<m:=by
    simp only[Std.Legacy.Range.size,List.mem_range'_1] at hi;omega
   have hle:i*re.size+re.size<=l.length:=by
    rw[hlen,<-Nat.succ_mul];exact Nat.mul_le_mul_right _ X6
   refine aA _ _ (LA (E.ok _ _ eD).size ?_);refine aA _ _ (QC eD hle (fun hg=> ?_) ?_)
   ·have:=CG (OA i X6) eD hg;simp only[chunk,List.length_take,List.length_drop] at this;omega
   exact aA _ _ (pF d D oM eD (OA i X6) I8)
  | slice e=> rw[JB] at hf;exact hf.elim
  | map k e=> rw[JB] at hf;exact hf.elim
  | other=> rw[JB] at hf;exact hf.elim
theorem Or.makeMap {t:TypeId}(kA:o.op=.makeMap t none)(hd:o.dst=some d)(hn:d<n)(hk:∀blk,K ((d,.map (some blk))::R) ((blk,true,.map #[] 0)::L)):Or M n H₀ R L o K:=
 .newObj (val:=fun blk=> .map (some blk)) hd hn (fun H tmps _ hr Q hQ=> by
  unfold execOp;rw[kA];exact fun blk hb=> hQ blk hb) hk
def XZ(z:Value)(r:Option (Nat×Value))(ok:Bool):Value:=
 match ok,r with
 | true,some (_,v)=> .tuple #[v,.bool true]
 | true,none=> .tuple #[z,.bool false]
 | false,some (_,v)=> v
 | false,none=> z
def xV(es:Array MapEntry)(cl:Nat)(k v:Value)(r:Option (Nat×Value)):Obj:=
 match r with
 | some (i,_)=> .map (es.modify i fun e=> { e with key:=k,val:=v }) cl
 | none=> .map (es.push { key:=k,val:=v,born:=cl }) (cl+1)
theorem Or.mapUpdate(i dp:Nat){t kt et:TypeId}{x y z:Operand}{m:Nat}{k v:Value}{es:Array MapEntry}{cl:Nat}{r:AA}(kA:o.op=.mapUpdate t x y z)(hx:HA R x=some (.map (some m)))(hy:HA R y=some k)(hz:HA R z=some v)
  (hi:L[i]? =some (m,true,.map es cl)) (ht:E.ty t=some r) (JB:r.ds=.map kt et) (NW:dp<=10000) (hk:TF E dp kt k) (YI:∀e∈es.toList,TF E dp kt e.key) (hd:o.dst=none)
  (hq:∀r,xJ es.toList k r->K R (L.set i (m,true,xV es cl k v r))):Or M n H₀ R L o K:=
 .non hd fun H tmps hs hr=> by
  unfold execOp;rw[kA];simp only[hr.ev hx,hr.ev hy,hr.ev hz];have PX:=hs.get hi;have hk':=hk;obtain⟨rk,l,htk,hkl,hf⟩:=hk;obtain⟨_,dd,_,uK⟩:=qH hf;refine aA (Instr.mapUpdate t _ _ _) _ ?_;refine aA (underlying t) _ (fA (RQ ((E.ok _ _ ht).ds.trans JB)) ?_);refine⟨true,.map es cl,PX,by simp,rfl,?_⟩;show EA P ((Instr.checkKey false 10000 kt k).bind fun _=> _) H _;rw[hkl];refine aA _ _ (pF dp 10000 NW htk hf ?_);rw[<-hkl];refine aA (Instr.findKey kt _ es.toList) _ (EM NW hk' uK YI fun r rE=> ?_);have fin:=hq r rE;cases r with
  | none=> exact⟨⟨_,PX,by simp⟩,rfl,rfl,_,hs.set hi _,fin⟩
  | some p=>
   obtain⟨j,w⟩:=p;obtain⟨e,he,hek,_⟩:=rE;have aEl:((es[j]?).map (·.key)).getD k=k:=by
    have:es[j]? =some e:=by simpa using he
    rw[this];simp[hek]
   show EA P ((Instr.keyThatStays (((es[j]?).map (·.key)).getD k) k).bind fun _=> _) H _;rw[aEl];have aCY:∀Q:Value->View->Prop,Q k H->EA P (Instr.keyThatStays k k) H Q:=by
    intro Q hQ;unfold Instr.keyThatStays;split
    ·exact hQ
    ·refine aA (choose _) _ ?_;intro t';show Q (if _ then k else k) H;simpa using hQ
   refine aA _ _ (aCY _ ?_);exact⟨⟨_,PX,by simp⟩,rfl,rfl,_,hs.set hi _,fin⟩
theorem Or.range {t kt et:TypeId}{x:Operand}{m:Nat}{es:Array MapEntry}{cl:Nat}{r:AA}(kA:o.op=.range t x)(hx:HA R x=some (.map (some m)))(hb:∀H,iA H₀ L H->∃f,H m=some (f,.map es cl))(ht:E.ty t=some r)(JB:r.ds=.map kt et)
  (hd:o.dst=some d) (hn:d<n) (hk:∀blk,K ((d,.pointer (some ⟨blk,0,none⟩))::R) ((blk,true,.mapIter (some m) cl #[] cl)::L)):Or M n H₀ R L o K:=
 .newObj (val:=fun blk=> .pointer (some ⟨blk,0,none⟩)) hd hn (fun H tmps hs hr Q hQ=> by
  unfold execOp;rw[kA];simp only[hr.ev hx];obtain⟨f,PX⟩:=hb H hs;refine aA (Instr.range t _) _ ?_;refine aA (underlying t) _ (fA (RQ ((E.ok _ _ ht).ds.trans JB)) ?_);exact⟨f,.map es cl,PX,by simp,rfl,fun blk hb=> hQ blk hb⟩) hk
theorem Or.next(i:Nat){x:Operand}{it m:Nat}{es:Array MapEntry}{cl:Nat}{seen:Array Nat}(kA:o.op=.next x false)(hx:HA R x=some (.pointer (some ⟨it,0,none⟩)))(hi:L[i]? =some (it,true,.mapIter (some m) cl seen cl))
  (hb:∀H,iA H₀ L H->∃f,H m=some (f,.map es cl)) (n0:∀e∈es.toList,e.born<cl) (hd:o.dst=some d) (hn:d<n)
  (hq1:∀e∈es.toList,seen.contains e.born=false->K ((d,.tuple #[.bool true,e.key,e.val])::R) (L.set i (it,true,.mapIter (some m) cl (seen.push e.born) cl)))
  (hq2:(∀e∈es.toList,seen.contains e.born=true)->K ((d,.tuple #[.bool false])::R) L):Or M n H₀ R L o K:=
 .val hd hn fun H tmps hs hr=> by
  unfold execOp;rw[kA];simp only[hr.ev hx];have HI:=hs.get hi;obtain⟨f,PX⟩:=hb H hs;refine aA (Instr.next _ false _) _ ?_;refine⟨true,_,HI,by simp,rfl,?_⟩;refine⟨f,.map es cl,PX,by simp,rfl,?_⟩;show EA P (if(!seen.isEmpty && !es.isEmpty&&es.all fun x=> decide (x.born≥cl))=true then _ else _) H _;rw[if_neg (by
   simp only[Bool.and_eq_true,Bool.not_eq_true',Array.all_eq_true_iff_forall_mem,decide_eq_true_eq,not_and];rintro⟨_,nB⟩ OA;have eV:0<es.size:=by
    rcases Nat.eq_zero_or_pos es.size with h|h
    ·rw[Array.isEmpty_eq_false_iff] at nB;exact absurd (Array.eq_empty_of_size_eq_zero h) nB
    ·exact h
   have h1:=OA es[0] (Array.getElem_mem _);have h2:=n0 es[0] (by simp);omega)]
  generalize XS:(es.filter fun e=> !seen.contains e.born)=left;have hold:(left.filter fun e=> decide (e.born<cl))=left:=by
   rw[Array.filter_eq_self];intro e he;rw[<-XS] at he;simp only[Array.mem_filter] at he;exact decide_eq_true (n0 e (by simpa using he.1))
  have aV:(left.filter fun e=> decide (e.born≥cl))=#[]:=by
   rw[Array.filter_eq_empty_iff];intro e he;rw[<-XS] at he;simp only[Array.mem_filter] at he;have:=n0 e (by simpa using he.1);simp only[decide_eq_true_eq];omega
  simp only[hold,aV,Array.append_empty];refine aA (choose _) _ ?_;intro t;by_cases hem:left.isEmpty=true
  ·have he:left=#[]:=by simpa using hem
   subst he;have OA:∀e∈es.toList,seen.contains e.born=true:=by
    intro e he;rw[Array.filter_eq_empty_iff] at XS;have:=XS (a:=e) (by simpa using he);simpa using this
   have fin:=hq2 OA;have LD:((if(#[]:Array MapEntry).isEmpty=true then #[none] else #[])++Array.map some (#[]:Array MapEntry))=#[none]:=by simp
   rw[LD];have goal:∃v,Next.value (.tuple #[.bool false])=Next.value v/\∃L',iA H₀ L' H/\K ((d,v)::R) L':=⟨_,rfl,_,hs,fin⟩
   exact goal
  ·have LD:0<left.size:=by
    rcases Nat.eq_zero_or_pos left.size with h|h
    ·exact absurd (by rw[Array.eq_empty_of_size_eq_zero h];rfl) hem
    ·exact h
   simp only[hem,Bool.false_eq_true,if_false,Array.empty_append,Array.size_map];have xB:(if(Question.mapNext left.size).forced=true then 0 else(Question.mapNext left.size).cut t)<left.size:=by
    split
    ·exact LD
    ·exact Nat.mod_lt _ LD
   generalize hj:(if(Question.mapNext left.size).forced=true then 0 else(Question.mapNext left.size).cut t)=j at xB ⊢;have aEf:(left.map some)[j]? =some (some left[j]):=by simp[xB]
   show EA P (match (left.map some)[j]? with
    | some (some e)=> _
    | some none=> _
    | none=> _) H _
   rw[aEf];have JD:left[j]∈es.filter fun e=> !seen.contains e.born:=by
    have:left[j]∈left:=Array.getElem_mem _;generalize left[j]=z at this ⊢;rw[XS];exact this
   simp only[Array.mem_filter] at JD;refine⟨⟨_,HI,by simp⟩,rfl,_,rfl,_,hs.set hi _,?_⟩;refine hq1 _ ?_ ?_
   ·simpa using JD.1
   ·simpa using JD.2
theorem Or.entry {x:Operand}{it m st:Nat}{es:Array MapEntry}{cl s:Nat}{seen:Array Nat}{e:MapEntry}(kA:o.op=.entry x)(hx:HA R x=some (.pointer (some ⟨it,0,none⟩)))(hi:∀H,iA H₀ L H->∃f,H it=some (f,.mapIter (some m) s seen cl))
  (hb:∀H,iA H₀ L H->∃f,H m=some (f,.map es cl)) (wK:seen.back? =some st) (WH:es.find? (fun e=> e.born==st)=some e) (hd:o.dst=some d) (hn:d<n) (hk:K ((d,.tuple #[e.key,e.val])::R) L):Or M n H₀ R L o K:=
 .val hd hn fun H tmps hs hr=> by
  unfold execOp;rw[kA];simp only[hr.ev hx];obtain⟨f,HI⟩:=hi H hs;obtain⟨f',PX⟩:=hb H hs;refine aA (Instr.entry _) _ ?_;refine⟨f,_,HI,by simp,rfl,?_⟩;simp only[Sem.bind,wK];refine⟨f',.map es cl,PX,by simp,rfl,?_⟩;have iB:(cl !=cl)=false:=by simp
  simp only[Sem.bind,iB,WH,Bool.false_eq_true,if_false];exact⟨_,rfl,_,hs,hk⟩
end
section
variable {P:Program}{E:Env P}{M:Md P}{St:View->Goroutine->Prop}{n:Nat}{b:FB}{H₀:View}{cs:List Frame}{R R':Rg}{L L':Bl}{ds:List Deferred}{k:List Item}
def jC:Rg->Rg->Prop
 | [],_=> True
 | (d,v)::R',R=> lk R d=some v/\jC R' R
theorem jC.sub:∀ {R' R:Rg},jC R' R->∀d v,lk R' d=some v->lk R d=some v
 | [],_,_,_,_,h=> by simp[lk] at h
 | (e,u)::R',R,⟨h1,h2⟩,d,v,h=> by
  rw[qR] at h;split at h
  ·rename_i he
   subst he;cases h
   exact h1
  ·exact h2.sub d v h
theorem Tc.sA {σ:Type}(I:σ->Rg×Bl)(μ:σ->Nat){body:Code}
  (step:∀s,(∀s',μ s'<μ s->Tc M St n b H₀ cs (I s').1 (I s').2 ds (.inLoop body::k))->Tc M St n b H₀ cs (I s).1 (I s).2 ds (.code body:: .inLoop body::k)) (s₀:σ):
  Tc M St n b H₀ cs (I s₀).1 (I s₀).2 ds (.code (.loop body)::k):=by
 have key:∀(m:Nat) (s:σ),μ s<=m->Tc M St n b H₀ cs (I s).1 (I s).2 ds (.code body:: .inLoop body::k):=by
  intro m;induction m with
  | zero=> exact fun s hs=> step s fun s' xB=> by omega
  | succ m ih=> exact fun s hs=> step s fun s' xB=> .inLoop (ih s' oM)
 exact .loop (key _ s₀ (Nat.le_refl _))
def aE:List Value->Value
 | [v]=> v
 | vs=> .tuple ⟨vs⟩
def mH(E:Env P)(R:Rg)(L:Bl):List ResultVar->List Value->Prop
 | [],[]=> True
 | .tmp t::rs,v::vs=> lk R t=some v/\mH E R L rs vs
 | .cell a t::rs,v::vs=> (∃(i blk off:Nat) (f:Bool) (c:List Value) (e:TypeId) (fz:Nat×Nat) (r:AA),lk R a=some (.pointer (some ⟨blk,off,none⟩))/\L[i]? =some (blk,f,Obj.cells ⟨c⟩ e fz)/\E.ty t=some r/\tE r.agg r.size c off=some v)/\mH E R L rs vs
 | _,_=> False
def eH(tmps:Array Value):ResultVar->Sem Value
 | .tmp t=> .pure (tmps.getD t undef)
 | .cell a t=> (asAddr (tmps.getD a undef)).bind fun x=> loadVar t x
theorem tI {H:View}{tmps:Array Value}(hs:iA H₀ L H)(hr:RA n R tmps):∀ {rs:List ResultVar} {vs:List Value} {Q:List Value->View->Prop},mH E R L rs vs->Q vs H->EA P (rs.mapM (eH tmps)) H Q
 | [],[],Q,_,h=> h
 | .tmp t::rs,v::vs,Q,⟨h1,h2⟩,h=> by
  rw[List.mapM_cons];refine aA (eH tmps (.tmp t)) _ ?_;show EA P ((rs.mapM (eH tmps)).bind fun us=> .pure (tmps.getD t undef::us)) H Q;refine aA _ _ (tI hs hr h2 ?_);have:tmps.getD t undef=v:=by simp[hr.2 _ _ h1]
  rw[this];exact h
 | .cell a t::rs,v::vs,Q,⟨⟨i,blk,off,f,c,e,fz,r,g1,g2,g3,g4⟩,h2⟩,h=> by
  rw[List.mapM_cons];have:tmps.getD a undef=.pointer (some ⟨blk,off,none⟩):=by simp[hr.2 _ _ g1]
  refine aA (eH tmps (.cell a t)) _ ?_;show EA P ((asAddr (tmps.getD a undef)).bind fun x=> loadVar t x) H _;rw[this];show EA P (loadVar t ⟨blk,off,none⟩) H _;refine sI (E.ok _ _ g3).agg (E.ok _ _ g3).size (hs.get g2) g4 ?_;show EA P ((rs.mapM (eH tmps)).bind fun us=> .pure (v::us)) H Q;exact aA _ _ (tI hs hr h2 h)
 | [],_::_,_,h,_=> by cases h
 | .tmp _::_,[],_,h,_=> by cases h
 | .cell _ _::_,[],_,h,_=> by cases h
theorem bE {fn:Func}{H:View}{tmps:Array Value}{rs:List ResultVar}{vs:List Value}{Q:Value->View->Prop}(hs:iA H₀ L H)(hr:RA n R tmps)(TP:fn.results=rs.toArray)(ho:mH E R L rs vs)(h:Q (aE vs) H):
  EA P (results fn tmps) H Q:=by
 have e1:results fn tmps=(rs.mapM (eH tmps)).bind fun us=> .pure (if h:us.toArray.size=1 then us.toArray[0] else .tuple us.toArray):=by
  have gen:∀F:ResultVar->Sem Value,F=eH tmps->∀K:Array Value->Sem Value,(rs.toArray.mapM F).bind K=(rs.mapM (eH tmps)).bind fun us=> K us.toArray:=by
   intro F hF K;rw[List.mapM_toArray,hF];show((rs.mapM (eH tmps)) >>=fun us=> (Pure.pure us.toArray:Sem (Array Value))) >>=K=_;rw[bind_assoc];rfl
  unfold results;rw[TP];exact gen _ (funext fun r=> by cases r <;> rfl) _
 rw[e1];refine aA _ _ (tI hs hr ho ?_);show Q _ H
 match vs,h with
 | [],h=> exact h
 | [v],h=> exact h
 | v::u::w,h=> exact h
theorem Tc.aEI {fn:Func}{c:Frame}{Q:Value->View->Prop}{f:FuncId}{rs:List ResultVar}{vs:List Value}(hK:∀v H',Q v H'->T M St H' (G (c.finish v) cs))(hf:P.funcs[f]? =some fn)(TP:fn.results=rs.toArray)
  (ho:mH E R L rs vs) (h:∀H',iA H₀ L H'->Q (aE vs) H'):Tc M St n ⟨f,.normal,none⟩ H₀ (c::cs) R L [] (.code .ret::k):=
 .ret hK hf fun H _ hs hr=> bE hs hr TP ho (h H hs)
theorem Tc.aC9 {fn:Func}{c:Frame}{Q:Value->View->Prop}{f:FuncId}{rs:List ResultVar}{vs:List Value}(hK:∀v H',Q v H'->T M St H' (G (c.finish v) cs))(hf:P.funcs[f]? =some fn)(TP:fn.results=rs.toArray)
  (ho:mH E R L rs vs) (h:∀H',iA H₀ L H'->Q (aE vs) H'):Tc M St n ⟨f,.normal,none⟩ H₀ (c::cs) R L [] []:=
 .over hK hf fun H _ hs hr=> bE hs hr TP ho (h H hs)
end
end Go.RL
