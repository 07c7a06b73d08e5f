/-
 Texts of the proofs over baudot/dial.
-/
import Derived.Test.YtgkmnalhddmclaaGreatDoorT02
import Derived.Conc.QuitsD
import Derived.Conc.HoldsTime
import Derived.Conc.MarkLaws
import Derived.Conc.AtomicLaws2
import Derived.Conc.ClockLaws
import Derived.Conc.Beside
import Derived.Conc.DeferLaws
import Derived.Conc.Own2
namespace Go.RL
open Go.Conc Go.ConcN Go.RL.Au
open Go.ConcR (stA smA rd wr mk)
open Go.ConcM (muA OsLater)
structure Fk where
 n:Nat
 Mu:Nat
 Wg:Nat
 C:Nat
 tM:TypeId
 tW:TypeId
 GI:(Nat->Bool)->Obj->Prop
def Fk.dP(X:Fk)(s:Sh):Obj:=.cells ⟨[.int .i32 s.m,.int .u32 s.Q]⟩ X.tM (0,0)
def Fk.yP(X:Fk)(s:Sh):Obj:=.cells ⟨[.int .u64 ((s.c*4294967296+s.w:Nat):Int),.int .u32 s.q]⟩ X.tW (0,0)
structure ShAt(X:Fk)(w:World)(s:Sh):Prop where
 mu:w.heap[X.Mu]? =some (X.dP s)
 wg:w.heap[X.Wg]? =some (X.yP s)
def Fk.ok(X:Fk)(w:World):Prop:=X.C<w.heap.size/\∃s,ShAt X w s
abbrev gY:=Os×Array (Nat×ByteArray)
def JW(o:gY)(w:World):Prop:=OsLater o.1 w.os/\w.output=o.2
theorem JW.refl(w:World):JW (w.os,w.output) w:=⟨OsLater.refl _,rfl⟩
theorem JW.trans {o:gY}{w w':World}(h:JW o w)(k:JW (w.os,w.output) w'):JW o w':=⟨h.1.trans k.1,k.2.trans h.2⟩
structure XE(X:Fk)(w w':World)(s':Sh):Prop where
 os:JW (w.os,w.output) w'
 size:w'.heap.size=w.heap.size
 rest:∀b,b≠X.Mu->b≠X.Wg->w'.heap[b]? =w.heap[b]?
 sh:ShAt X w' s'
def Sy(X:Fk)(e:Event):Prop:=∃a wr,e=⟨.cell a,wr,true⟩/\(a.block=X.Mu\/a.block=X.Wg)
structure pC(X:Fk)(d d':Nat)(es:Array Event):Prop where
 ev:∀(j:Nat) e,es[j]? =some e->e.mute=true\/(Sy X e/\0<deafBehind d (es.extract 0 j))
 net:deafBehind d es=d'
def Au.Th.deaf:Th->Nat
 | .ld | .la | .up | .ur | .ud | .wr | .wk=> 0
 | _=> 1
def Au.Th.sN:Th->Bool
 | .us _ | .d4=> true
 | _=> false
def Au.Th.owns:Th->Bool
 | .up | .ur=> true
 | _=> false
def Au.Th.did:Th->Bool
 | .ud | .u0 | .uc _ | .ux | .us _ | .ue | .wr | .wk | .wi | .d1 | .d2 | .d3 | .d4 | .quit=> true
 | _=> false
def Au.Th.mute:Th->Bool
 | .wk | .wi | .d1 | .d2 | .d3 | .d4 | .quit=> true
 | _=> false
def Au.Th.plain:Th->Bool
 | .la | .ur | .wr | .quit=> false
 | _=> true
def Au.Mn.deaf:Mn->Nat
 | .kd | .go | .wd | .aq | .ret=> 0
 | _=> 1
def Au.Mn.plain:Mn->Bool
 | .kr | .go | .wm | .aq | .ret=> false
 | _=> true
def KL(D:Nat->Bool)(κ:Nat):Nat->Bool:=fun i=> D i||i==κ
def Qt(P:Program)(K:Goroutine->Prop):Nat->Goroutine->Prop
 | 0,g=> K g
 | n+1,g=> g.status=.running/\∃g',(∀w,stepG P false g w=.go g' w #[])/\Qt P K n g'
def WS (P:Program)(X:Fk)(κ:Nat):Nat->Th->(Nat->Bool)->View->Goroutine->Prop
 | 0,_,_,_,_=> True
 | k + 1,t,D,H,g=> (g.status=.running/\g.offers=none)/\
  (t=.la->∀D' o,D' κ=false->X.GI D' o->∀w,Sat H w->∃g',stepG P false g w=.go g' w #[mk (.acquire (muA X.Mu))]/\T (Mw P false X.ok) (WS P X κ k .up D') (H.put X.C (true,o)) g')/\
  (t=.ur->∃o H',H=View.put H' X.C (true,o)/\H' X.C=none/\X.GI (KL D κ) o/\∀w,Sat H w->∃g',stepG P false g w=.go g' w #[mk (.releaseMerge (muA X.Mu))]/\T (Mw P false X.ok) (WS P X κ k .ud D) H' g')/\
  (t=.wr->∀w,Sat H w->∃g',stepG P false g w=.go g' w #[mk (.releaseMerge (stA X.Wg))]/\∃n,Qt P (WS P X κ k .wk D H) n g')/\
  (t=.quit->False)/\
  (t.plain=true->∀w s,Sat H w->ShAt X w s->t.ok s->t.loc s->s.fits-> 
   (t.mv s= []/\stepG P false g w=.go { g with status:=.blocked } w #[])\/ 
   ∃ t' s' g' w' es,(t',s')∈t.mv s/\stepG P false g w=.go g' w' es/\XE X w w' s'/\pC X t.deaf t'.deaf es/\(t.sN=true->mayWake P g=true)/\g'.status=.running/\
    (t'=.quit->∃q,QuitsD P q 1 g')/\(t'≠ .quit->t'.mute=true->∃n,Qt P (WS P X κ k t' D H) n g')/\(t'.mute=false->T (Mw P false X.ok) (WS P X κ k t' D) H g'))
def ro(H:View):View:=fun b=> (H b).map fun x=> (false,x.2)
def MS(P:Program)(X:Fk)(Fin:Goroutine->Prop):Nat->Mn->Nat->View->Goroutine->Prop
 | 0,_,_,_,_=> True
 | k + 1,m,j,H,g=> (g.status=.running/\g.offers=none)/\
  (m=.go->∀w,Sat H w->∃g' ch,stepG P true g w=.spawn g' ch w #[]/\T (Mw P true X.ok) (MS P X Fin k (if j+1<X.n then .kd else .wd) (j+1)) (ro H) g'/\T (Mw P false X.ok) (WS P X j k .ld (fun _=> false)) (ro H) ch)/\
  (m=.kr->∀w,Sat H w->∃g',stepG P true g w=.go g' w #[mk (.read (smA X.Wg))]/\T (Mw P true X.ok) (MS P X Fin k .ke j) H g')/\
  (m=.wm->∀w,Sat H w->∃g',stepG P true g w=.go g' w #[mk (.write (smA X.Wg))]/\T (Mw P true X.ok) (MS P X Fin k .ws j) H g')/\
  (m=.aq->∀w,Sat H w->∃g',stepG P true g w=.go g' w #[mk (.acquire (stA X.Wg))]/\Fin g')/\
  (m=.ret->False)/\
  (m.plain=true->∀w s,Sat H w->ShAt X w s->m.ok s->s.fits-> 
   (m.mv s= []/\stepG P true g w=.go { g with status:=.blocked } w #[])\/ 
   ∃m' s' g' w' es,(m',s')∈m.mv s/\stepG P true g w=.go g' w' es/\XE X w w' s'/\pC X m.deaf m'.deaf es/\T (Mw P true X.ok) (MS P X Fin k m' j) H g')
def P7(P:Program)(H:View)(g:Goroutine)(Po:View->Goroutine->Prop):Prop:=
 ∃ (X:Fk) (Fin:Goroutine->Prop) (H₁:View) (o:Obj),0<X.n/\X.n<=6/\(X.Mu≠X.Wg/\X.Mu≠X.C/\X.Wg≠X.C)/\(H₁ X.Mu=none/\H₁ X.Wg=none/\H₁ X.C=none)/\
  H=((H₁.put X.C (true,o)).put X.Mu (true,X.dP ⟨0,0,0,0,0⟩)).put X.Wg (true,X.yP ⟨0,0,0,0,0⟩)/\X.GI (fun _=> false) o/\
  (∀k,T (Mw P true X.ok) (MS P X Fin k .kd 0) (ro H₁) g)/\∀o' g',X.GI (fun i=> decide (i<X.n)) o'->Fin g'->Po (H₁.put X.C (true,o')) g'
def Ph(P:Program)(H:View)(g:Goroutine)(Po:View->Goroutine->Prop):Prop:=
 ∃H₁ F Po₁,Dj H₁ F/\H=H₁.plus F/\P7 P H₁ g Po₁/\∀H' g',Dj H' F->Po₁ H' g'->Po (H'.plus F) g'
theorem qN(A B C:View):(A.plus B).plus C=A.plus (B.plus C):=by
 funext b
 unfold View.plus;cases A b <;> rfl
theorem Ph.frame {P:Program}{H:View}{g:Goroutine}{Po:View->Goroutine->Prop}{F:View}(h:Ph P H g Po)(hd:Dj H F):Ph P (H.plus F) g fun H'' g'=> ∃H',H''=H'.plus F/\Dj H' F/\Po H' g':=by
 obtain⟨H₁,F₁,Po₁,h1,rfl,h2,h3⟩:=h;refine⟨H₁,F₁.plus F,Po₁,fun b x hb=> ?_,(qN _ _ _),h2,fun H' g' RI hp=> ⟨H'.plus F₁,(qN _ _ _).symm,fun b x hb=> ?_,h3 H' g' (fun b x hb=> RI b x (xA hb)) hp⟩⟩
 ·unfold View.plus at hb;split at hb
  ·rename_i y hy
   exact h1 b y hy
  ·exact(GG (hd b x hb)).1
 ·have hF:=GG (hd b x hb);rw[show(H'.plus F₁) b=F₁ b from KA (RI b x (by rw[KA hF.2];exact hb)),hF.2]
def Mp(P:Program):Md P:=⟨true,fun _=> True,Ph P,fun _ _ _ _ h hd=> h.frame hd⟩
structure VI(X:Fk)(H:Nat->View)(B:View)(w:World):Prop where
 sat:∀g,Sat (H g) w
 dj:∀g g',g≠g'->∀b o,H g b=some (true,o)->H g' b=none
 sh:∀g,H g X.Mu=none/\H g X.Wg=none
 bs:Sat B w
 bd:∀g b x o,B b=some x->H g b≠some (true,o)
 bn:B X.Mu=none/\B X.Wg=none/\B X.C=none
section
variable {X:Fk}{H:Nat->View}{B:View}{w w':World}
theorem VI.at(h:VI X H B w)(d:Nat):VI X H B (w.at d):=⟨h.sat,h.dj,h.sh,h.bs,h.bd,h.bn⟩
theorem VI.step {g:Nat}{H':View}{es:Array Event}(h:VI X H B w)(ht:Trans (H g) w H' w' es)(C8:X.Mu<w.heap.size)(F8:X.Wg<w.heap.size):VI X (upd H g H') B w':=by
 have hn:∀b,b<w.heap.size->H g b=none->H' b=none:=fun b hb h0=> by
  cases hx:H' b with
  | none=> rfl
  | some x=>
   rcases ht.ext b x.1 x.2 hx with ⟨o,ho⟩|⟨_,hle⟩
   ·rw[h0] at ho;cases ho
   ·omega
 refine⟨fun j=> ?_,fun i j mO b o hi=> ?_,fun j=> ?_,fun b f o hb=> ?_,fun j b x o hb hj=> ?_,h.bn⟩
 ·by_cases e:j=g
  ·subst e;rw[upd_same];exact ht.sat
  ·rw[upd_ne H H' e];intro b f o hb;rw[ht.pD b ((h.sat j).lt hb) fun o' ho=> by rw[h.dj g j (Ne.symm e) b o' ho] at hb;cases hb];exact h.sat j b f o hb
 ·by_cases e:i=g
  ·subst e;rw[upd_same] at hi;rw[upd_ne H H' (Ne.symm mO)];rcases ht.ext b true o hi with ⟨o',ho⟩|⟨_,hle⟩
   ·exact h.dj i j mO b o' ho
   ·cases hx:H j b with
    | none=> rfl
    | some x=> have:=(h.sat j).lt hx;omega
  ·rw[upd_ne H H' e] at hi;by_cases e':j=g
   ·subst e';rw[upd_same];exact hn b ((h.sat i).lt hi) (h.dj i j mO b o hi)
   ·rw[upd_ne H H' e'];exact h.dj i j mO b o hi
 ·by_cases e:j=g
  ·subst e;rw[upd_same];exact⟨hn _ C8 (h.sh j).1,hn _ F8 (h.sh j).2⟩
  ·rw[upd_ne H H' e];exact h.sh j
 ·rw[ht.pD b (h.bs.lt hb) fun o' ho=> h.bd g b _ o' hb ho];exact h.bs b f o hb
 ·by_cases e:j=g
  ·subst e;rw[upd_same] at hj;rcases ht.ext b true o hj with ⟨o',ho⟩|⟨_,hle⟩
   ·exact h.bd j b x o' hb ho
   ·have:=h.bs.lt hb;omega
  ·rw[upd_ne H H' e] at hj;exact h.bd j b x o hb hj
theorem Sat.VQ {H:View}{s':Sh}(h:Sat H w)(ht:XE X w w' s')(h1:H X.Mu=none/\H X.Wg=none):Sat H w':=fun b f o hb=> by
 rw[ht.rest b (by rintro rfl;rw[h1.1] at hb;cases hb) (by rintro rfl;rw[h1.2] at hb;cases hb)];exact h b f o hb
theorem VI.VQ {s':Sh}(h:VI X H B w)(ht:XE X w w' s'):VI X H B w':=
 ⟨fun g=> (h.sat g).VQ ht (h.sh g),h.dj,h.sh,h.bs.VQ ht ⟨h.bn.1,h.bn.2.1⟩,h.bd,h.bn⟩
end
section
variable {X:Fk}
theorem LV {H:View}{g:Nat}{fn:FuncId}{pos:String}{es:Array Event}{t:Trace}(h:∀e∈es,FK H e):uY X.Mu X.Wg H g t (MemOp.ofEvents g fn pos es)/\∀op∈MemOp.ofEvents g fn pos es,op.act≠ .mark .disable/\op.act≠ .mark .enable:=by
 rw[ofEvents_eq];have key :∀op∈es.map (fun e=> ({ g,fn,pos,act:=.ofEvent e }:MemOp)),op.g=g/\(∀x,op.act.touch? =some x->x.kind=.plain/\∃b f o,lb x.loc=some b/\H b=some (f,o)/\(x.write=true->f=true))/\(∀a,op.act≠ .mark (.release a))/\op.act≠ .mark .disable/\op.act≠ .mark .enable:=by
   intro op iA;obtain⟨e,he,rfl⟩:=Array.mem_map.1 iA;have hk:=h e he;obtain⟨loc,wr,sy⟩:=e;unfold FK at hk;cases loc with
   | cell a=>
     obtain⟨hs,f,o,h1,h2⟩:=hk;simp only at hs h2;subst hs;refine⟨rfl,fun x hx=> ?_,fun _ hh=> ?_,fun hh=> ?_,fun hh=> ?_⟩
     · cases wr <;> simp[MemAct.ofEvent,MemAct.touch?] at hx <;> subst hx <;> exact⟨rfl,_,f,o,rfl,h1,h2⟩
     all_goals cases wr <;> simp[MemAct.ofEvent] at hh
   | obj r=>
     obtain⟨hs,f,o,h1,h2⟩:=hk;simp only at hs h2;subst hs;refine⟨rfl,fun x hx=> ?_,fun _ hh=> ?_,fun hh=> ?_,fun hh=> ?_⟩
     · cases wr <;> simp[MemAct.ofEvent,MemAct.touch?] at hx <;> subst hx <;> exact⟨rfl,_,f,o,rfl,h1,h2⟩
     all_goals cases wr <;> simp[MemAct.ofEvent] at hh
   | mark m=>
     obtain⟨h0,h1,h2⟩:=hk;cases m <;> first
       | (simp[GQ] at h0;done)
       | (simp only at h1 h2
          subst h1 h2;exact⟨rfl,fun x hx=> by simp[MemAct.ofEvent,MemAct.touch?] at hx,fun a hh=> by simp[MemAct.ofEvent] at hh,fun hh=> by simp[MemAct.ofEvent] at hh,fun hh=> by simp[MemAct.ofEvent] at hh⟩)
   | _=> exact hk.elim
 refine⟨⟨fun op iA=> (key op iA).1,fun op iA x hx=> .inl ((key op iA).2.1 x hx),fun _ i op x hi iA hx hk=> ?_,fun op iA=> (key op iA).2.2.1⟩,fun op iA=> (key op iA).2.2.2⟩;rcases getElem?_append_cases iA with ⟨mB,_⟩|⟨_,vD⟩
 · omega
 · rw[((key op vD).2.1 x hx).1] at hk;cases hk
theorem NS {H:View}{g d':Nat}{fn:FuncId}{pos:String}{es:Array Event}{t:Trace}(h:pC X (Deaf t g) d' es):uY X.Mu X.Wg H g t (MemOp.ofEvents g fn pos es)/\∀op∈MemOp.ofEvents g fn pos es,∀x,op.act.touch? =some x->lb x.loc=some X.Mu\/lb x.loc=some X.Wg:=by
 have ops:=ofEvents_eq g fn pos es;have one:∀e,(e.mute=true\/Sy X e)->(∀x,(MemAct.ofEvent e).touch? =some x->x.kind=.atomic/\(lb x.loc=some X.Mu\/lb x.loc=some X.Wg))/\∀a,MemAct.ofEvent e≠ .mark (.release a):=by
  rintro e (he|⟨a,wr,rfl,ha⟩)
  ·obtain⟨loc,wr,sy⟩:=e;cases loc with
   | mark m=> cases m <;> simp[Event.mute] at he <;> simp[MemAct.ofEvent,MemAct.touch?]
   | _=> simp[Event.mute] at he
  ·refine⟨fun x hx=> ?_,fun b hh=> ?_⟩
   ·have:x=⟨.cell a,wr,.atomic⟩:=by cases wr <;> simp[MemAct.ofEvent,MemAct.touch?] at hx <;> exact hx.symm
    subst this;exact⟨rfl,ha.imp (fun e=> by simp[lb,e]) fun e=> by simp[lb,e]⟩
   ·cases wr <;> simp[MemAct.ofEvent] at hh
 have all:∀e∈es,e.mute=true\/Sy X e:=fun e he=> by
  obtain⟨j,hj,rfl⟩:=Array.mem_iff_getElem.1 he;exact(h.ev j _ (Array.getElem?_eq_getElem hj)).imp id And.left
 have key:∀op∈MemOp.ofEvents g fn pos es,op.g=g/\(∀x,op.act.touch? =some x->x.kind=.atomic/\(lb x.loc=some X.Mu\/lb x.loc=some X.Wg))/\∀a,op.act≠ .mark (.release a):=by
  rw[ops];intro op iA;obtain⟨e,he,rfl⟩:=Array.mem_map.1 iA;exact⟨rfl,one e (all e he)⟩
 refine⟨⟨fun op iA=> (key op iA).1,fun op iA x hx=> .inr ⟨by rw[((key op iA).2.1 x hx).1];simp,((key op iA).2.1 x hx).2,fun e=> by rw[((key op iA).2.1 x hx).1] at e;cases e⟩,fun _ i op x hi iA hx hk=> ?_,fun op iA=> (key op iA).2.2⟩,fun op iA x hx=> ((key op iA).2.1 x hx).2⟩;rintro⟨g',yT,UI⟩;have hj:(MemOp.ofEvents g fn pos es)[i-t.size]? =some op:=by
  rw[Array.getElem?_append] at iA;simpa [Nat.not_lt.2 hi] using iA
 rw[ops,Array.getElem?_map] at hj;obtain⟨e,he,rfl⟩:=Option.map_eq_some_iff.1 hj;have hjs:i-t.size<=es.size:=by
  rcases Nat.lt_or_ge (i-t.size) es.size with h'|h'
  ·omega
  ·rw[Array.getElem?_eq_none h'] at he;cases he
 have O5:g'=g:=by simp[Trace.g?,iA] at yT;exact yT.symm
 subst O5;have aEd:=deaf_inside t g' fn pos es (i-t.size) hjs;rw[show t.size+(i-t.size)=i by omega,UI] at aEd;rcases h.ev _ e he with hm|⟨_,hd⟩
 ·obtain⟨loc,wr,sy⟩:=e;cases loc with
  | mark m=> cases m <;> simp[Event.mute] at hm <;> simp[MemAct.ofEvent,MemAct.touch?] at hx
  | _=> simp[Event.mute] at hm
 ·omega
theorem nK {H:View}{g:Nat}{fn:FuncId}{pos:String}{m:Mark}{t:Trace}(h1:∀x,(MemAct.mark m).touch? =some x->g=0/\x.kind=.said/\lb x.loc=some X.Wg)(h2:∀a,m≠ .release a):uY X.Mu X.Wg H g t (MemOp.ofEvents g fn pos #[mk m]):=by
 have e1:MemOp.ofEvents g fn pos #[mk m]=#[{ g,fn,pos,act:=.mark m }]:=by
  rw[ofEvents_eq];simp[Go.ConcR.ofEvent_mk]
 rw[e1];refine⟨fun op iA=> by simp at iA;rw[iA],fun op iA x hx=> ?_,fun hg i op x hi iA hx hk=> ?_,fun op iA a hh=> ?_⟩
 ·simp at iA
  subst iA;obtain⟨h3,h4,h5⟩:=h1 x hx;exact .inr ⟨by rw[h4];simp,.inr h5,fun _=> h3⟩
 ·rcases getElem?_append_cases iA with ⟨mB,_⟩|⟨_,vD⟩
  ·omega
  ·simp at vD
   subst vD;exact absurd (h1 x hx).1 hg
 ·simp at iA
  subst iA;simp at hh
  exact h2 a hh
end
end Go.RL
namespace Go.RL
open Go.Conc Go.ConcN Go.RL.Au
open Go.ConcR (stA smA)
open Go.ConcM (muA msA OsLater)
def mP {α:Type}(P:Program)(sh:Nat->Option (TypeId×Nat)):Sem α->(α->Prop)->Prop
 | .pure a,Q=> Q a
 | .program k,Q=> mP P sh (k P) Q
 | .shape r k,Q=> ∃x,sh r=some x/\mP P sh (k (some x)) Q
 | _,_=> False
section
variable {P:Program}{sh:Nat->Option (TypeId×Nat)}
theorem nP {α:Type}(s:Sem α):∀ {Q:α->Prop},mP P sh s Q->∃a,Q a/\∀w es,(∀r x,sh r=some x->w.shape? r=some x)->s.runT P w es=(.ok a w,es):=by
 induction s with
 | pure a=> exact fun h=> ⟨a,h,fun w es _=> rfl⟩
 | program k ih=> exact fun h=> let ⟨a,h1,h2⟩:=ih P h;⟨a,h1,fun w es hs=> by simp only[Sem.runT];exact h2 w es hs⟩
 | shape r k ih=> exact fun⟨x,hx,h⟩=> let ⟨a,h1,h2⟩:=ih _ h;⟨a,h1,fun w es hs=> by simp only[Sem.runT];rw[hs r x hx];exact h2 w es hs⟩
 | _=> exact fun h=> h.elim
theorem qB {α β:Type}(s:Sem α)(k:α->Sem β){Q:β->Prop}:mP P sh s (fun a=> mP P sh (k a) Q)->mP P sh (s.bind k) Q:=by
 induction s with
 | pure a=> exact fun h=> h
 | program c ih=> exact fun h=> ih P h
 | shape r c ih=> exact fun⟨x,hx,h⟩=> ⟨x,hx,ih _ h⟩
 | _=> exact fun h=> h.elim
theorem IB {t:TypeId}{d:TypeDesc}{Q:TypeDesc->Prop}(hd:P.underlying t=some d)(h:Q d):mP P sh (underlying t) Q:=by
 show mP P sh (match P.underlying t with|some d=> _|none=> _) Q;rw[hd];exact h
theorem JX {t:TypeId}{g:Bool}{Q:Bool->Prop}(hg:wH P t=some g)(h:Q g):mP P sh (isAgg t) Q:=by
 unfold wH at hg;cases hd:P.underlying t with
 | none=> rw[hd] at hg;cases hg
 | some d=>
  refine qB (underlying t) _ (IB hd ?_);rw[hd] at hg;cases d <;> simp at hg <;> subst hg <;> exact h
theorem rN {t:TypeId}{n:Nat}{Q:Nat->Prop}(hn:(P.info? t).map (·.size)=some n)(h:Q n):mP P sh (sizeOf t) Q:=by
 cases hi:P.info? t with
 | none=> rw[hi] at hn;cases hn
 | some i=>
  rw[hi] at hn;cases hn
  refine qB (typeInfo t) _ ?_;show mP P sh (match P.info? t with|some i=> _|none=> _) _;rw[hi];exact h
end
def NU:Nat->Option (TypeId×Nat):=fun _=> none
section
variable {P:Program}{main:Bool}{b:FB}{tmps:Array Value}{ds:List Deferred}{cs:List Frame}{o:Oper}{w w':World}{v:Value}{es:Array Event}
def Yields(P:Program)(main:Bool)(b:FB)(tmps:Array Value)(ds:List Deferred)(cs:List Frame)(o:Oper)(w:World)(v:Value)(w':World)(es:Array Event):Prop:=
 ∀(arr:Array Oper) (i:Nat) (r:List Nat) (k:List Item),arr[i]? =some o->Region.wanted o (yielded arr tmps)=true->stepG P main (G (b.at tmps ds (.inRegion arr (i::r)::k)) cs) w=.go (G (b.at (KB tmps o.dst v) ds (.inRegion arr r::k)) cs) w' es
def JP(P:Program)(main:Bool)(b:FB)(tmps:Array Value)(ds:List Deferred)(cs:List Frame)(o:Oper)(w:World):Prop:=
 ∀(arr:Array Oper) (i:Nat) (r:List Nat) (k:List Item),arr[i]? =some o->Region.wanted o (yielded arr tmps)=true->stepG P main (G (b.at tmps ds (.inRegion arr (i::r)::k)) cs) w=.go { G (b.at tmps ds (.inRegion arr (i::r)::k)) cs with status:=.blocked } w #[]
def kf(b:FB):Frame:= { (default:Frame) with fn:=b.fn,kind:=b.kind }
theorem FB.kit(h:b.rd=none)(todo:List Item):b.at tmps ds todo=(kf b).at ⟨tmps,ds⟩ todo:=by
 simp[FB.at,Frame.at,kf,h]
theorem iM(h:b.rd=none)(todo:List Item)(d:Option Tmp):(kf b).at ((⟨tmps,ds⟩:Go.Act).put d v) todo=b.at (KB tmps d v) ds todo:=by
 cases d <;> simp[FB.at,Frame.at,kf,h,Go.Act.put,KB]
def E0:Loc->Bool
 | .cell _=> true
 | .mark (.acquire _) | .mark (.releaseMerge _) | .mark .disable | .mark .enable | .mark (.read _) | .mark (.write _)=> true
 | _=> false
def Told(e:Event):Prop:=e.sync=true/\E0 e.loc=true
structure BD(P:Program)(f:FuncId)(e:Array Value->Sem Value):Prop where
 ex:∃fn,P.funcs[f]? =some fn/\(fn.name== "runtime.NumGoroutine")=false/\fn.body.isNone=true/\Extern.findNext fn=none/\Extern.find fn=some e
structure gG(o:Oper)(f:FuncId)(az:List Operand):Prop where
 ex:∃ats,o.op=.call { callee:=.value (.func f),args:=az.toArray,argTypes:=ats }
theorem Yields.entry {f:FuncId}{e:Array Value->Sem Value}{az:List Operand}{vs:List Value}(he:BD P f e)(ho:gG o f az)(hb:b.rd=none)(hk:b.kind≠ .early)(ha:az.map (uB tmps)=vs)
  (CF:(e vs.toArray).run P w=.ok v w') (fU:∀z,(e vs.toArray).events P w #[z]=#[z]++es) (hs:∀x∈es,Told x):Yields P main b tmps ds cs o w v w' es:=by
 obtain⟨fn,h1,h2,h3,h4,h5⟩:=he;obtain⟨ats,h6⟩:=ho;intro arr i r k hi hw;have hm:(az.toArray).map (Go.Act.eval ⟨tmps,ds⟩)=vs.toArray:=by
  rw[List.map_toArray,<-ha]
  congr 1
 rw[FB.kit hb,stepG_entry (a:=⟨tmps,ds⟩) hi hw (by simpa [kf] using hk) h6 h1 h2 h3 h4 h5 (by rw[hm];exact CF) (by rw[hm];exact fU _) (fun x hx=> ⟨(hs x hx).1,fun g hg=> by have:=(hs x hx).2;rw[hg] at this;cases this⟩),iM hb]
theorem JP.entry {f:FuncId}{e:Array Value->Sem Value}{az:List Operand}{vs:List Value}(he:BD P f e)(ho:gG o f az)(hb:b.rd=none)(ha:az.map (uB tmps)=vs)(CF:(e vs.toArray).run P w=.halt .blocked w):JP P main b tmps ds cs o w:=by
 obtain⟨fn,h1,h2,h3,h4,h5⟩:=he;obtain⟨ats,h6⟩:=ho;intro arr i r k hi hw;have hm:(az.toArray).map (Go.Act.eval ⟨tmps,ds⟩)=vs.toArray:=by
  rw[List.map_toArray,<-ha]
  congr 1
 rw[FB.kit hb,stepG_entry_blocked (a:=⟨tmps,ds⟩) hi hw h6 h1 h2 h3 h4 h5 (w':=w) (by rw[hm];exact CF)]
theorem BD.aDq {f:FuncId}{e:Array Value->Sem Value}{az:List Operand}(he:BD P f e)(ho:gG o f az){arr:Array Oper}{i:Nat}{r:List Nat}{k:List Item}(hi:arr[i]? =some o):mayWake P (G (b.at tmps ds (.inRegion arr (i::r)::k)) cs)=true:=by
 obtain⟨fn,h1,h2,h3,h4,h5⟩:=he;obtain⟨ats,h6⟩:=ho;have hb:fn.body.isSome=false:=by cases hx:fn.body <;> simp_all
 simp[mayWake,G,FB.at,hi,h6,Frame.eval,h1,hb]
theorem Yields.look {sh:Nat->Option (TypeId×Nat)}(hb:b.rd=none\/AA o.op=false)(hp:mP P sh (execOp (uB tmps) o) fun nx=> nx=.value v)(SJ:∀r x,sh r=some x->w.shape? r=some x):Yields P main b tmps ds cs o w v w #[]:=by
 obtain⟨nx,rfl,CF⟩:=nP _ hp;intro arr i r k hi hw;have hg:stepG P main (G (b.at tmps ds (.inRegion arr (i::r)::k)) cs) w=stepG.apply P true (b.at tmps ds (.inRegion arr (i::r)::k)) cs none (execOp (b.at tmps ds (.inRegion arr (i::r)::k)).eval o) w:=by
  rcases hb with hb|hb
  ·simp[G,stepG,stepG.exec,stepG.oper,Frame.oper?,FB.at,hi,hw,hb]
  ·have hd:∀c,o.op≠ .defer c:=fun c e=> by rw[e] at hb;cases hb
   cases iA:o.op <;> first
    | exact absurd iA (hd _)
    | (cases MK:b.rd <;> simp[G,stepG,stepG.exec,stepG.oper,Frame.oper?,FB.at,hi,hw,iA,MK])
 rw[FB.eval_at] at hg;rw[hg];have XC:(b.at tmps ds (.inRegion arr (i::r)::k)).finish v=b.at (KB tmps o.dst v) ds (.inRegion arr r::k):=by rw[FB.finish_at,hi];rfl
 have hs:seen P (b.at tmps ds (.inRegion arr (i::r)::k)).fn (if(b.at tmps ds (.inRegion arr (i::r)::k)).kind==.early then #[] else #[])=#[]:=by
  rw[ite_self];exact seen_none _ _
 rw[<-XC];have key:stepG.apply P true (b.at tmps ds (.inRegion arr (i::r)::k)) cs none (execOp (uB tmps) o) w=GStep.after (seen P (b.at tmps ds (.inRegion arr (i::r)::k)).fn (if(b.at tmps ds (.inRegion arr (i::r)::k)).kind==.early then #[] else #[])) (.go (G ((b.at tmps ds (.inRegion arr (i::r)::k)).finish v) cs) w):=by
  unfold stepG.apply;rw[if_pos rfl,CF w #[] SJ];rfl
 rw[key,hs];simp[GStep.after]
end
section
variable {X:Fk}{w:World}{s:Sh}
theorem ShAt.UZ(h:ShAt X w s):w.cell? (muA X.Mu)=some (.int .i32 s.m):=by simp[World.cell?,muA,h.mu,Fk.dP]
theorem ShAt.msC(h:ShAt X w s):w.cell? (msA X.Mu)=some (.int .u32 s.Q):=by simp[World.cell?,msA,h.mu,Fk.dP]
theorem ShAt.Z8(h:ShAt X w s):w.cell? (stA X.Wg)=some (.int .u64 ((s.c*4294967296+s.w:Nat):Int)):=by simp[World.cell?,stA,h.wg,Fk.yP]
theorem ShAt.smC(h:ShAt X w s):w.cell? (smA X.Wg)=some (.int .u32 s.q):=by simp[World.cell?,smA,h.wg,Fk.yP]
theorem ShAt.W2(h:ShAt X w s):w.frozen? (muA X.Mu)=false:=by simp[World.frozen?,muA,h.mu,Fk.dP]
theorem ShAt.msZ(h:ShAt X w s):w.frozen? (msA X.Mu)=false:=by simp[World.frozen?,msA,h.mu,Fk.dP]
theorem ShAt.wgZ(h:ShAt X w s):w.frozen? (stA X.Wg)=false:=by simp[World.frozen?,stA,h.wg,Fk.yP]
theorem ShAt.smZ(h:ShAt X w s):w.frozen? (smA X.Wg)=false:=by simp[World.frozen?,smA,h.wg,Fk.yP]
theorem XE.same(h:ShAt X w s):XE X w w s:=⟨⟨OsLater.refl _,rfl⟩,rfl,fun _ _ _=> rfl,h⟩
theorem XE.muS(h:ShAt X w s)(ne:X.Mu≠X.Wg)(m':Nat):XE X w (w.setCell (muA X.Mu) (.int .i32 m')) { s with m:=m' }:=
 ⟨⟨OsLater.refl _,rfl⟩,by simp[World.setCell],fun b h1 _=> by simp[World.setCell,muA,Array.getElem?_modify,Ne.symm h1],⟨by simp[World.setCell,muA,Array.getElem?_modify,h.mu,Fk.dP],by simp[World.setCell,muA,Array.getElem?_modify,ne,h.wg,Fk.yP]⟩⟩
theorem XE.msS(h:ShAt X w s)(ne:X.Mu≠X.Wg)(m':Nat):XE X w (w.setCell (msA X.Mu) (.int .u32 m')) { s with Q:=m' }:=
 ⟨⟨OsLater.refl _,rfl⟩,by simp[World.setCell],fun b h1 _=> by simp[World.setCell,msA,Array.getElem?_modify,Ne.symm h1],⟨by simp[World.setCell,msA,Array.getElem?_modify,h.mu,Fk.dP],by simp[World.setCell,msA,Array.getElem?_modify,ne,h.wg,Fk.yP]⟩⟩
theorem XE.wgS(h:ShAt X w s)(ne:X.Mu≠X.Wg)(c' w':Nat):XE X w (w.setCell (stA X.Wg) (.int .u64 ((c'*4294967296+w':Nat):Int))) { s with c:=c',w:=w' }:=
 ⟨⟨OsLater.refl _,rfl⟩,by simp[World.setCell],fun b _ h1=> by simp[World.setCell,stA,Array.getElem?_modify,Ne.symm h1],⟨by simp[World.setCell,stA,Array.getElem?_modify,Ne.symm ne,h.mu,Fk.dP],by simp[World.setCell,stA,Array.getElem?_modify,h.wg,Fk.yP]⟩⟩
theorem XE.smS(h:ShAt X w s)(ne:X.Mu≠X.Wg)(m':Nat):XE X w (w.setCell (smA X.Wg) (.int .u32 m')) { s with q:=m' }:=
 ⟨⟨OsLater.refl _,rfl⟩,by simp[World.setCell],fun b _ h1=> by simp[World.setCell,smA,Array.getElem?_modify,Ne.symm h1],⟨by simp[World.setCell,smA,Array.getElem?_modify,Ne.symm ne,h.mu,Fk.dP],by simp[World.setCell,smA,Array.getElem?_modify,h.wg,Fk.yP]⟩⟩
theorem kD(d:Nat):pC X d d #[]:=⟨fun j e h=> by simp at h,rfl⟩
theorem JG(d:Nat):pC X d (d+1) #[Go.ConcR.mk .disable]:=⟨fun j e h=> by
 cases j with
 | zero=> simp at h;subst h;exact .inl rfl
 | succ j=> simp at h,rfl⟩
theorem qK(d:Nat):pC X (d+1) d #[Go.ConcR.mk .enable]:=⟨fun j e h=> by
 cases j with
 | zero=> simp at h;subst h;exact .inl rfl
 | succ j=> simp at h,rfl⟩
theorem lF {a:Addr}(ha:a.block=X.Mu\/a.block=X.Wg)(wr:Bool):pC X 1 1 #[⟨.cell a,wr,true⟩]:=⟨fun j e h=> by
 cases j with
 | zero=> simp at h;subst h;exact .inr ⟨⟨a,wr,rfl,ha⟩,by simp[deafBehind]⟩
 | succ j=> simp at h,rfl⟩
theorem gE {a:Addr}(ha:a.block=X.Mu\/a.block=X.Wg):pC X 1 1 #[⟨.cell a,false,true⟩,⟨.cell a,true,true⟩]:=⟨fun j e h=> by
 match j,h with
 | 0,h=> simp at h;subst h;exact .inr ⟨⟨a,false,rfl,ha⟩,by simp[deafBehind]⟩
 | 1,h=> simp at h;subst h;exact .inr ⟨⟨a,true,rfl,ha⟩,by simp[deafBehind]⟩
 | j+2,h=> simp at h,rfl⟩
theorem KI {a:Addr}(ha:a.block=X.Mu\/a.block=X.Wg):pC X 1 1 (semEvents a):=⟨fun j e h=> by
 match j,h with
 | 0,h=> simp[semEvents] at h;subst h;exact .inl rfl
 | 1,h=> simp[semEvents] at h;subst h;exact .inr ⟨⟨a,false,rfl,ha⟩,by simp[deafBehind,semEvents]⟩
 | 2,h=> simp[semEvents] at h;subst h;exact .inr ⟨⟨a,true,rfl,ha⟩,by simp[deafBehind,semEvents]⟩
 | 3,h=> simp[semEvents] at h;subst h;exact .inl rfl
 | j+4,h=> simp[semEvents] at h,rfl⟩
end
section
variable {P:Program}{main:Bool}{b:FB}{tmps:Array Value}{ds:List Deferred}{cs:List Frame}{o:Oper}{w w':World}{f:FuncId}{ad:Addr}{k:IntKind}{es:Array Event}{vs:List Value}{v:Value}
theorem DW(a:Addr):∀e∈(#[⟨.cell a,false,true⟩,⟨.cell a,true,true⟩]:Array Event),Told e:=by
 intro e he;simp at he
 rcases he with rfl|rfl <;> exact⟨rfl,rfl⟩
theorem nI(e:Event)(h:Told e):∀e'∈(#[e]:Array Event),Told e':=by
 intro e' he;simp at he
 subst he;exact h
theorem iT(a:Addr):∀e∈semEvents a,Told e:=by
 intro e he;simp[semEvents] at he
 rcases he with rfl|rfl|rfl|rfl <;> exact⟨rfl,rfl⟩
theorem told_none:∀e∈(#[]:Array Event),Told e:=fun e he=> by simp at he
structure XA(P:Program)(e:Array Value->Sem Value)(vs:List Value)(w:World)(v:Value)(w':World)(es:Array Event):Prop where
 run:(e vs.toArray).run P w=.ok v w'
 ev:∀z,(e vs.toArray).events P w #[z]=#[z]++es
 told:∀x∈es,Told x
theorem XA.xI {e:Array Value->Sem Value}{az:List Operand}(h:XA P e vs w v w' es)(he:BD P f e)(ho:gG o f az)(hb:b.rd=none)(hk:b.kind≠ .early)(ha:az.map (uB tmps)=vs):Yields P main b tmps ds cs o w v w' es:=
 .entry he ho hb hk ha h.run h.ev h.told
theorem XA.cas {v old n:Int}(hc:w.cell? ad=some (.int k v))(hf:w.frozen? ad=false)(hv:v=old):
  XA P (Extern.Atomic.casT (.int k)) [.pointer (some ad),.int k old,.int k n] w (.bool true) (w.setCell ad (.int k n)) #[⟨.cell ad,false,true⟩,⟨.cell ad,true,true⟩]:=by
 subst hv;exact⟨by rw[casT_eq];exact run_cas_hit_entry hc hf,fun z=> by rw[casT_eq,events_cas_hit_entry hc hf];rfl,DW ad⟩
theorem XA.KY {v old n:Int}(hc:w.cell? ad=some (.int k v))(hf:w.frozen? ad=false)(hv:¬v=old):
  XA P (Extern.Atomic.casT (.int k)) [.pointer (some ad),.int k old,.int k n] w (.bool false) w #[⟨.cell ad,false,true⟩]:=
 ⟨by rw[casT_eq];exact run_cas_miss_entry hc hf hv,fun z=> by rw[casT_eq,events_cas_miss_entry hc hf hv];rfl,nI _ ⟨rfl,rfl⟩⟩
theorem XA.add {v d r:Int}(hc:w.cell? ad=some (.int k v))(hf:w.frozen? ad=false)(hr:k.wrap (v+d)=r):
  XA P (Extern.Atomic.update (Op.intArith .add) k true) [.pointer (some ad),.int k d] w (.int k r) (w.setCell ad (.int k r)) #[⟨.cell ad,false,true⟩,⟨.cell ad,true,true⟩]:=by
 subst hr;exact⟨run_add_entry hc hf,fun z=> by rw[events_add_entry hc hf];rfl,DW ad⟩
theorem XA.load {v:Int}(hc:w.cell? ad=some (.int k v)):XA P (Extern.Atomic.loadT (.int k)) [.pointer (some ad)] w (.int k v) w #[⟨.cell ad,false,true⟩]:=
 ⟨by
  show Sem.run P (do Extern.Atomic.read (.int k) (<-asAddr (.pointer (some ad)))) w=_;simp[Extern.Atomic.read,asAddr,hc],fun z=> by
  show Sem.events P (do Extern.Atomic.read (.int k) (<-asAddr (.pointer (some ad)))) w _=_;simp[Extern.Atomic.read,asAddr,hc,events_load],nI _ ⟨rfl,rfl⟩⟩
theorem XA.aBv {v u:Int}(hc:w.cell? ad=some (.int k u))(hf:w.frozen? ad=false):
  XA P Extern.Atomic.storeT [.pointer (some ad),.int k v] w (.tuple #[]) (w.setCell ad (.int k v)) #[⟨.cell ad,true,true⟩]:=
 ⟨by
  show Sem.run P (do
   store (<-asAddr (.pointer (some ad))) (.int k v) .atomic
   pure Extern.Atomic.none_) w=_
  simp[asAddr,hc,hf,run_store P w ad (.int k v) .atomic rfl,Result.andThen,Extern.Atomic.none_],fun z=> by
  show Sem.events P (do
   store (<-asAddr (.pointer (some ad))) (.int k v) .atomic
   pure Extern.Atomic.none_) w _=_
  simp[asAddr,hc,hf,events_store P w _ ad (.int k v) .atomic rfl],nI _ ⟨rfl,rfl⟩⟩
theorem XA.vL {m:Mark}(hm:E0 (.mark m)=true):XA P (fun _=> do mark m;pure Extern.Race.none_) vs w (.tuple #[]) w #[Go.ConcR.mk m]:=
 ⟨by simp[Extern.Race.none_],fun z=> by simp[Go.ConcR.mk],nI _ ⟨rfl,hm⟩⟩
theorem XA.RK {m:Addr->Mark}(hm:E0 (.mark (m ad))=true):XA P (Extern.Race.marked m) [.pointer (some ad)] w (.tuple #[]) w #[Go.ConcR.mk (m ad)]:=
 ⟨by simp[Extern.Race.marked,Extern.Race.at_,Extern.Race.none_],fun z=> by simp[Extern.Race.marked,Extern.Race.at_,Go.ConcR.mk],nI _ ⟨rfl,hm⟩⟩
theorem XA.aDh {n:Nat}(hx:vs[0]? =some (.pointer (some ad)))(hc:w.cell? ad=some (.int .u32 n))(hn:n≠0)(hf:w.frozen? ad=false):
  XA P Extern.Sync.semacquire vs w (.tuple #[]) (w.setCell ad (.int .u32 (n-1:Nat))) (semEvents ad):=by
 have e:((n-1:Nat):Int)=(n:Int)-1:=by omega
 rw[e];have EH:vs.toArray[0]? =some (.pointer (some ad)):=by simpa using hx
 exact⟨by simp[Extern.Sync.semacquire,Extern.Sync.count,EH,hc,hn,hf,Extern.Sync.none_,run_store P w ad (.int .u32 ((n:Int)-1)) .atomic rfl,Result.andThen],
  fun z=> by simp[Extern.Sync.semacquire,Extern.Sync.count,EH,hc,hn,hf,semEvents,events_load,events_store P w _ ad (.int .u32 ((n:Int)-1)) .atomic rfl,run_store P w ad (.int .u32 ((n:Int)-1)) .atomic rfl,Result.evThen],iT ad⟩
theorem CL(hx:vs[0]? =some (.pointer (some ad)))(hc:w.cell? ad=some (.int .u32 0)):(Extern.Sync.semacquire vs.toArray).run P w=.halt .blocked w:=by
 have EH:vs.toArray[0]? =some (.pointer (some ad)):=by simpa using hx
 simp[Extern.Sync.semacquire,Extern.Sync.count,EH,hc]
theorem XA.aDi {n:Nat}(hx:vs[0]? =some (.pointer (some ad)))(hc:w.cell? ad=some (.int .u32 n))(hn:n<=1000)(hf:w.frozen? ad=false):
  XA P Extern.Sync.semrelease vs w (.tuple #[]) (w.setCell ad (.int .u32 (n+1:Nat))) (semEvents ad):=by
 have e:IntKind.u32.wrap ((n:Int)+1)=((n+1:Nat):Int):=by
  have h1:IntKind.u32.wrap ((n:Int)+1)=((n:Int)+1)%4294967296:=by
   simp[IntKind.wrap,IntKind.bits,IntKind.signed]
  rw[h1];omega
 rw[<-e];have EH:vs.toArray[0]? =some (.pointer (some ad)):=by simpa using hx
 exact⟨by simp[Extern.Sync.semrelease,Extern.Sync.count,EH,hc,hf,Extern.Sync.none_,Op.intArith,run_store P w ad (.int .u32 (IntKind.u32.wrap ((n:Int)+1))) .atomic rfl,Result.andThen],
  fun z=> by simp[Extern.Sync.semrelease,Extern.Sync.count,EH,hc,hf,semEvents,Op.intArith,events_load,events_store P w _ ad (.int .u32 (IntKind.u32.wrap ((n:Int)+1))) .atomic rfl,run_store P w ad (.int .u32 (IntKind.u32.wrap ((n:Int)+1))) .atomic rfl,Result.evThen],iT ad⟩
theorem XA.idle {e:Array Value->Sem Value}(hv:e vs.toArray=Sem.pure v):XA P e vs w v w #[]:=
 ⟨by rw[hv];rfl,fun z=> by rw[hv];rfl,told_none⟩
theorem XA.aDj {k:IntKind}{n:Int}(h:n<4):XA P Extern.Sync.canSpin [.int k n] w (.bool w.spins) w.asked #[]:=by
 have h4:¬(n≥4):=by omega
 refine⟨?_,fun z=> ?_,told_none⟩
 ·show(Extern.Sync.canSpin #[.int k n]).run P w=_;rw[canSpin_eq,if_neg h4];rfl
 ·show(Extern.Sync.canSpin #[.int k n]).events P w #[z]=_;rw[canSpin_eq,if_neg h4];rfl
theorem XA.aDk {k:IntKind}{n:Int}(h:4<=n):XA P Extern.Sync.canSpin [.int k n] w (.bool false) w #[]:=by
 refine⟨?_,fun z=> ?_,told_none⟩
 ·show(Extern.Sync.canSpin #[.int k n]).run P w=_;rw[canSpin_eq,if_pos h];rfl
 ·show(Extern.Sync.canSpin #[.int k n]).events P w #[z]=_;rw[canSpin_eq,if_pos h];rfl
end
end Go.RL
namespace Go.RL
open Go.Conc Go.ConcN Go.RL.Au
open Go.ConcR (stA smA rd wr mk)
open Go.ConcM (muA OsLater)
def XF:Nat->sB
 | 0=> .stop
 | n+1=> .step fun _=> XF n
theorem MU(n:Nat):sB.Lt (XF n) (XF (n+1)):=.step (fun _=> XF n) default
section
variable(P:Program)(X:Fk)(Fin:Goroutine->Prop)
inductive IP(κ:Nat)(t:Th)(k:Nat)(s:Sh)(H:View)(D:Nat->Bool)(ρ:sB)(q d:Nat)(g:Goroutine):Prop where
 | quit (h:t=.quit) (hq:QuitsD P q d g)
 | quiet (n:Nat) (Dw:Nat->Bool) (h:t≠ .quit/\t.mute=true) (hρ:ρ=XF n) (hg:Qt P (WS P X κ k t Dw H) n g)
 | walk (Dw:Nat->Bool) (h:t.mute=false) (hD:t.owns=true->Dw=D) (hg:Tr (Mw P false X.ok) (WS P X κ k t Dw) ρ H g)
 | wait (c:Lc) (g₀:Goroutine) (Dw:Nat->Bool) (h:t=.s1 c/\s.Q=0/\ρ=.stop) (hg:g= { g₀ with status:=.blocked }) (hw:WS P X κ k t Dw H g₀)
inductive DT(m:Mn)(k j:Nat)(s:Sh)(H:View)(ρ:sB)(g:Goroutine):Prop where
 | walk (hg:Tr (Mw P true X.ok) (MS P X Fin k m j) ρ H g)
 | wait (g₀:Goroutine) (h:m=.ws/\s.q=0/\ρ=.stop) (hg:g= { g₀ with status:=.blocked }) (hw:MS P X Fin k m j H g₀)
end
section
variable {P:Program}{X:Fk}{Fin:Goroutine->Prop}{κ:Nat}{t:Th}{m:Mn}{k j q d:Nat}{s s':Sh}{H:View}{D D':Nat->Bool}{ρ:sB}{g x x':Goroutine}{w w':World}
theorem Tr.run {M:Md P}{St:View->Goroutine->Prop}(hM:∀H g Po,¬M.Ph H g Po)(hs:∀H g,St H g->g.status=.running)(h:Tr M St ρ H g):g.status=.running:=by
 cases ρ with
 | stop=> exact hs _ _ h
 | step f=> exact h.1
 | phase f=> obtain⟨Po,hp,_⟩:=h;exact(hM _ _ _ hp).elim
theorem Qt.run {K:Goroutine->Prop}{n:Nat}(hs:∀g,K g->g.status=.running)(h:Qt P K n g):g.status=.running:=by
 cases n with
 | zero=> exact hs _ h
 | succ n=> exact h.1
theorem IP.status(h:IP P X κ t (k+1) s H D ρ q d g):g.status=.running\/g.status=.finished\/g.status=.blocked:=by
 cases h with
 | quit h hq=> exact hq.status.imp id .inl
 | quiet n Dw h hρ hg=> exact .inl (hg.run fun _ h=> h.1.1)
 | walk Dw h hD hg=> exact .inl (hg.run (fun _ _ _ h=> h) fun _ _ h=> h.1.1)
 | wait c g₀ Dw h hg hw=> subst hg;exact .inr (.inr rfl)
theorem DT.status(h:DT P X Fin m (k+1) j s H ρ g):g.status=.running\/g.status=.blocked:=by
 cases h with
 | walk hg=> exact .inl (hg.run (fun _ _ _ h=> h) fun _ _ h=> h.1.1)
 | wait g₀ h hg hw=> subst hg;exact .inr rfl
theorem woken_running(h:g.status=.running\/g.status=.finished):woken P x x' w' g=g:=by
 unfold woken;split
 ·exact again_running _ h
 ·rfl
theorem AO(h1:g.status=.running)(h2:g.offers=none):({ g with status:=.blocked }:Goroutine).again w=g:=by
 obtain⟨fr,cs,st,dy,of⟩:=g;simp only at h1 h2;subst h1 h2;rfl
theorem IP.other(h:IP P X κ t (k+1) s H D ρ q d g)(hQ:s'.Q<=s.Q\/(mayWake P x=true/\x'.status=.running))(hD:t.owns=true->D'=D):IP P X κ t (k+1) s' H D' ρ q d (woken P x x' w' g):=by
 cases h with
 | quit h hq=> rw[woken_quitsD hq];exact .quit h hq
 | quiet n Dw h hρ hg=> rw[woken_running (.inl (hg.run fun _ h=> h.1.1))];exact .quiet n Dw h hρ hg
 | walk Dw h hD' hg=> rw[woken_running (.inl (hg.run (fun _ _ _ h=> h) fun _ _ h=> h.1.1))];exact .walk Dw h (fun e=> (hD' e).trans (hD e).symm) hg
 | wait c g₀ Dw h hg hw=>
  subst hg;obtain⟨rfl,h2,rfl⟩:=h;by_cases hc:(mayWake P x&&x'.status !=.blocked&&x'.status !=.waiting)=true
  ·have:woken P x x' w' { g₀ with status:=.blocked }=g₀:=by unfold woken;rw[if_pos hc];exact AO hw.1.1 hw.1.2
   rw[this];exact .walk Dw rfl (fun e=> by cases e) hw
  ·have:woken P x x' w' { g₀ with status:=.blocked }= { g₀ with status:=.blocked }:=by unfold woken;rw[if_neg hc]
   rw[this];refine .wait c g₀ Dw ⟨rfl,?_,rfl⟩ rfl hw;rcases hQ with h5|⟨h5,h6⟩
   ·omega
   ·exact absurd (by simp[h5,h6]) hc
theorem DT.other(h:DT P X Fin m (k+1) j s H ρ g)(hQ:s'.q<=s.q\/(mayWake P x=true/\x'.status=.running)):DT P X Fin m (k+1) j s' H ρ (woken P x x' w' g):=by
 cases h with
 | walk hg=> rw[woken_running (.inl (hg.run (fun _ _ _ h=> h) fun _ _ h=> h.1.1))];exact .walk hg
 | wait g₀ h hg hw=>
  subst hg;obtain⟨rfl,h2,rfl⟩:=h;by_cases hc:(mayWake P x&&x'.status !=.blocked&&x'.status !=.waiting)=true
  ·have:woken P x x' w' { g₀ with status:=.blocked }=g₀:=by unfold woken;rw[if_pos hc];exact AO hw.1.1 hw.1.2
   rw[this];exact .walk hw
  ·have:woken P x x' w' { g₀ with status:=.blocked }= { g₀ with status:=.blocked }:=by unfold woken;rw[if_neg hc]
   rw[this];refine .wait g₀ ⟨rfl,?_,rfl⟩ rfl hw;rcases hQ with h5|⟨h5,h6⟩
   ·omega
   ·exact absurd (by simp[h5,h6]) hc
end
structure WT(X:Fk)(B:View)(base N:Nat)(os0:gY)(w:World)(t:Trace)(ths:List Th)(m:Mn)(s:Sh)(H:Nat->View)(D:Nat->Bool):Prop where
 sh:ShAt X w s
 cb:X.C<w.heap.size
 vi:VI X H B w
 hx:∀g,¬Act base N g->∀b,H g b=none
 ti:TI X.Mu X.Wg X.C base N w.heap.size H B t
 free:(∀(κ:Nat) T,ths[κ]? =some T->T.owns=false)->(∃o,w.heap[X.C]? =some o/\X.GI D o)/\(∀g,H g X.C=none)/\Tok X.Mu X.C base N t
 own:∀(κ:Nat) T,ths[κ]? =some T->T.owns=true->∀j,j≠base+κ->H j X.C=none
 uH:∀(κ:Nat) T,ths[κ]? =some T->T.mute=true->∃r,RelBy (stA X.Wg) t (base+κ) r
 LR:Deaf t 0=m.deaf
 XT:∀(κ:Nat) T,ths[κ]? =some T->T≠ .quit->Deaf t (base+κ)=T.deaf
 os:JW os0 w
structure xM(P:Program)(X:Fk)(Fin:Goroutine->Prop)(base:Nat)(gs:Array Goroutine)(df:Nat->Nat)(ths:List Th)(m:Mn)(s:Sh)(H:Nat->View)(ks:Nat->Nat)(rks:List sB)(q:Nat->Nat)(D:Nat->Bool):Prop where
 size:gs.size=base+ths.length
 OX:rks.length=gs.size
 main:∃g ρ,gs[0]? =some g/\rks[0]? =some ρ/\DT P X Fin m (ks 0) ths.length s (H 0) ρ g
 work:∀(κ:Nat) T,ths[κ]? =some T->∃g ρ,gs[base+κ]? =some g/\rks[base+κ]? =some ρ/\IP P X κ T (ks (base+κ)) s (H (base+κ)) D ρ (q (base+κ)) (df (base+κ)) g
 YI:∀i,0<i->i<base->∃g,gs[i]? =some g/\QuitsD P (q i) (df i) g
structure PI(P:Program)(X:Fk)(Fin:Goroutine->Prop)(B:View)(base:Nat)(os0:gY)(gs:Array Goroutine)(w:World)(t:Trace)(ths:List Th)(m:Mn)(s:Sh)(H:Nat->View)(ks:Nat->Nat)(rks:List sB)(q:Nat->Nat)(D:Nat->Bool):Prop where
 inv:Inv X.n ths m s
 b1:1<=base
 ne:X.Mu≠X.Wg/\X.Mu≠X.C/\X.Wg≠X.C
 dd:∀κ,D κ=((ths[κ]?).map Th.did).getD false
 depth:∀g,Act base gs.size g->mu X.n ths m s<ks g
 wt:WT X B base gs.size os0 w t ths m s H D
 si:xM P X Fin base gs (Deaf t) ths m s H ks rks q D
def runs(gs:Array Goroutine):Nat:=gs.toList.countP fun g=> g.status==.running
abbrev HP:=Nat×(List sB×(Nat×Nat))
def qF:HP->HP->Prop:=Prod.Lex (· < ·) (Prod.Lex yV (Prod.Lex (· < ·) (· < ·)))
theorem qF.wf:WellFounded qF:=(Prod.lex Nat.lt_wfRel (Prod.lex ⟨yV,yV.wf⟩ (Prod.lex Nat.lt_wfRel Nat.lt_wfRel))).wf
def EC(P:Program)(gs:Array Goroutine)(i:Nat)(g g':Goroutine)(w':World):Array Goroutine:=(gs.map (woken P g g' w')).setIfInBounds i g'
theorem tA {P:Program}{gs:Array Goroutine}{i:Nat}{g g':Goroutine}{w':World}:(EC P gs i g g' w').size=gs.size:=by simp[EC]
theorem EE {P:Program}{gs:Array Goroutine}{i:Nat}{g g':Goroutine}{w':World}(h:i<gs.size):(EC P gs i g g' w')[i]? =some g':=by simp[EC,h]
theorem pB {P:Program}{gs:Array Goroutine}{i j:Nat}{g g' x:Goroutine}{w':World}(h:j≠i)(hj:gs[j]? =some x):(EC P gs i g g' w')[j]? =some (woken P g g' w' x):=by
 simp[EC,Array.getElem?_setIfInBounds_ne (Ne.symm h),hj]
section
variable {P:Program}{X:Fk}{Fin:Goroutine->Prop}{base:Nat}{gs:Array Goroutine}{df df':Nat->Nat}{ths:List Th}{m m':Mn}{s s':Sh}{H:Nat->View}{ks:Nat->Nat}{rks:List sB}{q:Nat->Nat}{D D':Nat->Bool}{w':World}
theorem xM.worker(h:xM P X Fin base gs df ths m s H ks rks q D){κ:Nat}{T T':Th}{g g':Goroutine}{H':View}{k' q':Nat}{ρ':sB}(hb:1<=base)(hk:∀i,Act base gs.size i->0<ks i)(hκ:ths[κ]? =some T)(UI:∀j,j≠base+κ->df' j=df j)
  (hQ:(s'.Q<=s.Q/\s'.q<=s.q)\/(mayWake P g=true/\g'.status=.running)) (hD:∀κ' T',κ'≠κ->ths[κ']? =some T'->T'.owns=true->D'=D)
  (hs:IP P X κ T' k' s' H' D' ρ' q' (df' (base+κ)) g'):
  xM P X Fin base (EC P gs (base+κ) g g' w') df' (ths.set κ T') m s' (upd H (base+κ) H') (upd ks (base+κ) k') (rks.set (base+κ) ρ') (upd q (base+κ) q') D':=by
 have mB:κ<ths.length:=(List.getElem?_eq_some_iff.1 hκ).1;have hi:base+κ<gs.size:=by rw[h.size];omega
 refine⟨by rw[tA,List.length_set];exact h.size,by rw[tA,List.length_set];exact h.OX,?_,fun κ' T'' YA=> ?_,fun i h0 lU=> ?_⟩
 ·obtain⟨g0,ρ0,h1,h2,h3⟩:=h.main;have gB:(0:Nat)≠base+κ:=by omega
  refine⟨_,ρ0,pB gB h1,by rw[List.getElem?_set_ne (Ne.symm gB)];exact h2,?_⟩;rw[upd_ne _ _ gB,upd_ne _ _ gB,List.length_set];have:=hk 0 (.inl rfl);obtain⟨k0,Q5⟩:∃k0,ks 0=k0+1:=⟨ks 0-1,oM⟩
  rw[Q5] at h3 ⊢;exact h3.other (hQ.imp And.right id)
 ·by_cases e:κ'=κ
  ·subst e;rw[List.getElem?_set_self mB] at YA;cases YA
   refine⟨g',ρ',EE hi,by rw[List.getElem?_set_self (by rw[h.OX];exact hi)],?_⟩;rw[upd_same,upd_same,upd_same];exact hs
  ·rw[List.getElem?_set_ne (Ne.symm e)] at YA;obtain⟨g0,ρ0,h1,h2,h3⟩:=h.work κ' T'' YA;have gB:base+κ'≠base+κ:=by omega
   refine⟨_,ρ0,pB gB h1,by rw[List.getElem?_set_ne (Ne.symm gB)];exact h2,?_⟩;rw[upd_ne _ _ gB,upd_ne _ _ gB,upd_ne _ _ gB,UI _ gB];have W5:=(List.getElem?_eq_some_iff.1 YA).1;have:=hk (base+κ') (.inr ⟨oM,by rw[h.size];omega⟩);obtain⟨k0,Q5⟩:∃k0,ks (base+κ')=k0+1:=⟨ks (base+κ')-1,oM⟩
   rw[Q5] at h3 ⊢;exact h3.other (hQ.imp And.left id) (hD κ' T'' e YA)
 ·obtain⟨g0,h1,h2⟩:=h.YI i h0 lU;have gB:i≠base+κ:=by omega
  exact⟨_,pB gB h1,by rw[upd_ne _ _ gB,UI _ gB,woken_quitsD h2];exact h2⟩
theorem xM.tK(h:xM P X Fin base gs df ths m s H ks rks q D){g g':Goroutine}{H':View}{k':Nat}{ρ':sB}(hb:1<=base)(hk:∀i,Act base gs.size i->0<ks i)(UI:∀j,j≠0->df' j=df j)
  (hQ:s'.Q<=s.Q/\s'.q<=s.q) (hs:DT P X Fin m' k' ths.length s' H' ρ' g'):
  xM P X Fin base (EC P gs 0 g g' w') df' ths m' s' (upd H 0 H') (upd ks 0 k') (rks.set 0 ρ') q D:=by
 have hi:0<gs.size:=by rw[h.size];omega
 refine⟨by rw[tA];exact h.size,by rw[tA,List.length_set];exact h.OX,⟨g',ρ',EE hi,by rw[List.getElem?_set_self (by rw[h.OX];exact hi)],by rw[upd_same,upd_same];exact hs⟩,fun κ' T'' YA=> ?_,fun i h0 lU=> ?_⟩
 ·obtain⟨g0,ρ0,h1,h2,h3⟩:=h.work κ' T'' YA;have gB:base+κ'≠0:=by omega
  refine⟨_,ρ0,pB gB h1,by rw[List.getElem?_set_ne (Ne.symm gB)];exact h2,?_⟩;rw[upd_ne _ _ gB,upd_ne _ _ gB,UI _ gB];have W5:=(List.getElem?_eq_some_iff.1 YA).1;have:=hk (base+κ') (.inr ⟨oM,by rw[h.size];omega⟩);obtain⟨k0,Q5⟩:∃k0,ks (base+κ')=k0+1:=⟨ks (base+κ')-1,oM⟩
  rw[Q5] at h3 ⊢;exact h3.other (.inl hQ.1) fun _=> rfl
 ·obtain⟨g0,h1,h2⟩:=h.YI i h0 lU;have gB:i≠0:=by omega
  exact⟨_,pB gB h1,by rw[UI _ gB,woken_quitsD h2];exact h2⟩
theorem xM.GU(h:xM P X Fin base gs df ths m s H ks rks q D){i:Nat}{g g':Goroutine}{q':Nat}(hk:∀i,Act base gs.size i->0<ks i)(h0:0<i)(lU:i<base)(UI:∀j,j≠i->df' j=df j)(hs:QuitsD P q' (df' i) g'):
  xM P X Fin base (EC P gs i g g' w') df' ths m s H ks rks (upd q i q') D:=by
 have hi:i<gs.size:=by rw[h.size];omega
 refine⟨by rw[tA];exact h.size,by rw[tA];exact h.OX,?_,fun κ' T'' YA=> ?_,fun j h0 hjb=> ?_⟩
 ·obtain⟨g0,ρ0,h1,h2,h3⟩:=h.main;have gB:(0:Nat)≠i:=by omega
  refine⟨_,ρ0,pB gB h1,h2,?_⟩;have:=hk 0 (.inl rfl);obtain⟨k0,Q5⟩:∃k0,ks 0=k0+1:=⟨ks 0-1,oM⟩
  rw[Q5] at h3 ⊢;exact h3.other (.inl (Nat.le_refl _))
 ·obtain⟨g0,ρ0,h1,h2,h3⟩:=h.work κ' T'' YA;have gB:base+κ'≠i:=by omega
  refine⟨_,ρ0,pB gB h1,h2,?_⟩;rw[upd_ne _ _ gB,UI _ gB];have W5:=(List.getElem?_eq_some_iff.1 YA).1;have:=hk (base+κ') (.inr ⟨oM,by rw[h.size];omega⟩);obtain⟨k0,Q5⟩:∃k0,ks (base+κ')=k0+1:=⟨ks (base+κ')-1,oM⟩
  rw[Q5] at h3 ⊢;exact h3.other (.inl (Nat.le_refl _)) fun _=> rfl
 ·by_cases e:j=i
  ·subst e;exact⟨g',EE hi,by rw[upd_same];exact hs⟩
  ·obtain⟨g0,h1,h2⟩:=h.YI j h0 hjb;exact⟨_,pB e h1,by rw[upd_ne _ _ e,UI _ e,woken_quitsD h2];exact h2⟩
end
theorem tG {α:Type}(f:Nat->α)(i:Nat):upd f i (f i)=f:=by
 funext j
 by_cases e:j=i
 ·subst e;rw[upd_same]
 ·rw[upd_ne f (f i) e]
theorem ZV(o:Nat)(c:Lc):(hd o c).owns=false/\(hd o c).did=false/\(hd o c).mute=false:=by unfold hd;split <;> exact⟨rfl,rfl,rfl⟩
theorem gN {s s':Sh}{t t':Th}(hp:t.plain=true)(hm:(t',s')∈t.mv s):t'.owns=t.owns/\t'.did=t.did/\t'.mute=t.mute:=by
 cases t <;> simp only[Th.mv] at hm
 case la=> cases hp
 case ur=> cases hp
 case wr=> cases hp
 case quit=> cases hp
 case l0=> split at hm <;> simp only[List.mem_singleton,Prod.mk.injEq] at hm <;> obtain⟨rfl,rfl⟩:=hm <;> exact⟨rfl,rfl,rfl⟩
 case c1=> split at hm <;> simp only[List.mem_singleton,Prod.mk.injEq] at hm <;> obtain⟨rfl,rfl⟩:=hm <;> exact⟨rfl,rfl,rfl⟩
 case uc=> split at hm <;> simp only[List.mem_singleton,Prod.mk.injEq] at hm <;> obtain⟨rfl,rfl⟩:=hm <;> exact⟨rfl,rfl,rfl⟩
 case sq o c=>
  simp only[List.mem_cons,Prod.mk.injEq] at hm;rcases hm with ⟨rfl,rfl⟩|hm
  ·exact⟨rfl,rfl,rfl⟩
  ·split at hm
   ·simp only[List.mem_singleton,Prod.mk.injEq] at hm;obtain⟨rfl,rfl⟩:=hm;split <;> exact⟨rfl,rfl,rfl⟩
   ·cases hm
 case c2 o c=>
  split at hm
  ·split at hm <;> simp only[List.mem_singleton,Prod.mk.injEq] at hm <;> obtain⟨rfl,rfl⟩:=hm
   ·exact⟨rfl,rfl,rfl⟩
   ·split <;> exact⟨rfl,rfl,rfl⟩
  ·simp only[List.mem_singleton,Prod.mk.injEq] at hm;obtain⟨rfl,rfl⟩:=hm;exact⟨rfl,rfl,rfl⟩
 case t1=> simp only[List.mem_cons,Prod.mk.injEq,List.not_mem_nil,or_false] at hm;rcases hm with ⟨rfl,rfl⟩|⟨rfl,rfl⟩ <;> exact⟨rfl,rfl,rfl⟩
 case t2=> simp only[List.mem_cons,Prod.mk.injEq,List.not_mem_nil,or_false] at hm;rcases hm with ⟨rfl,rfl⟩|⟨rfl,rfl⟩ <;> exact⟨rfl,rfl,rfl⟩
 case s1=>
  split at hm
  ·cases hm
  ·simp only[List.mem_singleton,Prod.mk.injEq] at hm;obtain⟨rfl,rfl⟩:=hm;exact⟨rfl,rfl,rfl⟩
 case r2=>
  split at hm <;> simp only[List.mem_singleton,Prod.mk.injEq] at hm <;> obtain⟨rfl,rfl⟩:=hm
  ·exact⟨rfl,rfl,rfl⟩
  ·exact ZV _ _
 case r0|r1|r3=>
  simp only[List.mem_singleton,Prod.mk.injEq] at hm;obtain⟨rfl,rfl⟩:=hm;exact ZV _ _
 case u0|ux|d1=>
  simp only[List.mem_singleton,Prod.mk.injEq] at hm;obtain⟨rfl,rfl⟩:=hm;repeat (first|exact⟨rfl,rfl,rfl⟩|split)
 all_goals
  simp only[List.mem_singleton,Prod.mk.injEq] at hm;obtain⟨rfl,rfl⟩:=hm;exact⟨rfl,rfl,rfl⟩
theorem aAv {s s':Sh}{t t':Th}(hp:t.sN=false)(hm:(t',s')∈t.mv s):s'.Q<=s.Q/\s'.q<=s.q:=by
 cases t <;> simp only[Th.mv] at hm
 case us=> cases hp
 case d4=> cases hp
 case quit=> cases hm
 case l0=> split at hm <;> simp only[List.mem_singleton,Prod.mk.injEq] at hm <;> obtain⟨rfl,rfl⟩:=hm <;> exact⟨Nat.le_refl _,Nat.le_refl _⟩
 case c1=> split at hm <;> simp only[List.mem_singleton,Prod.mk.injEq] at hm <;> obtain⟨rfl,rfl⟩:=hm <;> exact⟨Nat.le_refl _,Nat.le_refl _⟩
 case uc=> split at hm <;> simp only[List.mem_singleton,Prod.mk.injEq] at hm <;> obtain⟨rfl,rfl⟩:=hm <;> exact⟨Nat.le_refl _,Nat.le_refl _⟩
 case r2=> split at hm <;> simp only[List.mem_singleton,Prod.mk.injEq] at hm <;> obtain⟨rfl,rfl⟩:=hm <;> exact⟨Nat.le_refl _,Nat.le_refl _⟩
 case sq o c=>
  simp only[List.mem_cons,Prod.mk.injEq] at hm;rcases hm with ⟨rfl,rfl⟩|hm
  ·exact⟨Nat.le_refl _,Nat.le_refl _⟩
  ·split at hm
   ·simp only[List.mem_singleton,Prod.mk.injEq] at hm;obtain⟨rfl,rfl⟩:=hm;exact⟨Nat.le_refl _,Nat.le_refl _⟩
   ·cases hm
 case c2 o c=>
  split at hm
  ·split at hm <;> simp only[List.mem_singleton,Prod.mk.injEq] at hm <;> obtain⟨rfl,rfl⟩:=hm <;> exact⟨Nat.le_refl _,Nat.le_refl _⟩
  ·simp only[List.mem_singleton,Prod.mk.injEq] at hm;obtain⟨rfl,rfl⟩:=hm;exact⟨Nat.le_refl _,Nat.le_refl _⟩
 case t1=> simp only[List.mem_cons,Prod.mk.injEq,List.not_mem_nil,or_false] at hm;rcases hm with ⟨rfl,rfl⟩|⟨rfl,rfl⟩ <;> exact⟨Nat.le_refl _,Nat.le_refl _⟩
 case t2=> simp only[List.mem_cons,Prod.mk.injEq,List.not_mem_nil,or_false] at hm;rcases hm with ⟨rfl,rfl⟩|⟨rfl,rfl⟩ <;> exact⟨Nat.le_refl _,Nat.le_refl _⟩
 case s1=>
  split at hm
  ·cases hm
  ·simp only[List.mem_singleton,Prod.mk.injEq] at hm;obtain⟨rfl,rfl⟩:=hm;exact⟨Nat.sub_le _ _,Nat.le_refl _⟩
 all_goals
  simp only[List.mem_singleton,Prod.mk.injEq] at hm;obtain⟨rfl,rfl⟩:=hm;exact⟨Nat.le_refl _,Nat.le_refl _⟩
theorem aAt {s s':Sh}{t t':Mn}(hm:(t',s')∈t.mv s):s'.Q<=s.Q/\s'.q<=s.q:=by
 cases t <;> simp only[Mn.mv] at hm
 case go=> cases hm
 case ret=> cases hm
 case w2=> split at hm <;> simp only[List.mem_singleton,Prod.mk.injEq] at hm <;> obtain⟨rfl,rfl⟩:=hm <;> exact⟨Nat.le_refl _,Nat.le_refl _⟩
 case ws=>
  split at hm
  ·cases hm
  ·simp only[List.mem_singleton,Prod.mk.injEq] at hm;obtain⟨rfl,rfl⟩:=hm;exact⟨Nat.le_refl _,Nat.sub_le _ _⟩
 all_goals
  simp only[List.mem_singleton,Prod.mk.injEq] at hm;obtain⟨rfl,rfl⟩:=hm;exact⟨Nat.le_refl _,Nat.le_refl _⟩
section
variable {X:Fk}{B:View}{base N:Nat}{os0:gY}{w w':World}{t:Trace}{ths:List Th}{m m':Mn}{s s':Sh}{H:Nat->View}{D:Nat->Bool}{fn:FuncId}{pos:String}{es:Array Event}
theorem WT.lts(h:WT X B base N os0 w t ths m s H D):X.Mu<w.heap.size/\X.Wg<w.heap.size:=
 ⟨(Array.getElem?_eq_some_iff.1 h.sh.mu).1,(Array.getElem?_eq_some_iff.1 h.sh.wg).1⟩
theorem WT.at(h:WT X B base N os0 w t ths m s H D)(d:Nat):WT X B base N os0 (w.at d) t ths m s H D:=
 ⟨⟨h.sh.mu,h.sh.wg⟩,h.cb,h.vi.at d,h.hx,h.ti,h.free,h.own,h.uH,h.LR,h.XT,h.os⟩
theorem WT.HN(h:WT X B base N os0 w t ths m s H D)(ne:X.Mu≠X.Wg/\X.Mu≠X.C/\X.Wg≠X.C){i:Nat}{u:Trace}(hi:Act base N i)(hN:i<N)(hu:uY X.Mu X.Wg (H i) i t u):TI X.Mu X.Wg X.C base N w.heap.size H B (t++u):=by
 have:=h.ti.grow (hs':=w.heap.size) hi hN hu (fun b f o hb=> .inl ⟨o,hb⟩) (Nat.le_refl _) (fun b x hb=> (h.vi.sat i).lt hb) h.lts.1 h.lts.2 (fun j hj b o=> ⟨fun hb=> h.vi.dj i j (Ne.symm hj) b o hb,fun hb=> h.vi.dj j i hj b o hb⟩) h.vi.sh ⟨h.vi.bn.1,h.vi.bn.2.1⟩ ⟨Ne.symm ne.2.1,Ne.symm ne.2.2⟩
 rwa [tG] at this
theorem WT.walk(h:WT X B base N os0 w t ths m s H D)(ne:X.Mu≠X.Wg/\X.Mu≠X.C/\X.Wg≠X.C){i:Nat}{H':View}(hi:Act base N i)(hN:i<N)(ht:Trans (H i) w H' w' es)(hm:∀(κ:Nat) T,ths[κ]? =some T->base+κ=i->T.mute=false):
  WT X B base N os0 w' (t++MemOp.ofEvents i fn pos es) ths m s (upd H i H') D:=by
 obtain⟨lMu,lWg⟩:=h.lts;have hn:∀b,b<w.heap.size->H i b=none->H' b=none:=fun b hb h0=> by
  cases hx:H' b with
  | none=> rfl
  | some x=>
   rcases ht.ext b x.1 x.2 hx with ⟨o,ho⟩|⟨_,hle⟩
   ·rw[h0] at ho;cases ho
   ·omega
 have hC:∀j,H j X.C=none->upd H i H' j X.C=none:=fun j hj=> by
  by_cases e:j=i
  ·subst e;rw[upd_same];exact hn _ h.cb hj
  ·rw[upd_ne H H' e];exact hj
 have fU:∀e∈es,FK H' e:=ht.ev;obtain⟨iA,UI⟩:=LV (X:=X) (g:=i) (fn:=fn) (pos:=pos) (t:=t) fU;have hd:∀j,Deaf (t++MemOp.ofEvents i fn pos es) j=Deaf t j:=fun j=> Deaf_still t j _ UI;refine⟨⟨?_,?_⟩,Nat.lt_of_lt_of_le h.cb ht.size,h.vi.step ht lMu lWg,fun g hg b=> ?_,?_,fun ho=> ?_,fun κ T hκ hT j hj=> hC j (h.own κ T hκ hT j hj),fun κ T hκ hT=> ?_,by rw[hd];exact h.LR,fun κ T hκ hT=> by rw[hd];exact h.XT κ T hκ hT,h.os.trans ⟨by rw[ht.os];exact OsLater.refl _,ht.out⟩⟩
 ·rw[ht.pD _ lMu fun o ho=> by rw[(h.vi.sh i).1] at ho;cases ho];exact h.sh.mu
 ·rw[ht.pD _ lWg fun o ho=> by rw[(h.vi.sh i).2] at ho;cases ho];exact h.sh.wg
 ·have e:g≠i:=by rintro rfl;exact hg hi
  rw[upd_ne H H' e];exact h.hx g hg b
 ·exact h.ti.grow hi hN iA (fun b f o hb=> ht.ext b f o hb) ht.size (fun b x hb=> ht.sat.lt hb) lMu lWg (fun j hj b o=> by
   have hv:=h.vi.step ht lMu lWg;refine⟨fun hb=> ?_,fun hb=> ?_⟩
   ·have:=hv.dj i j (Ne.symm hj) b o (by rw[upd_same];exact hb)
    rwa [upd_ne H H' hj] at this
   ·have:=hv.dj j i hj b o (by rw[upd_ne H H' hj];exact hb)
    rwa [upd_same] at this) h.vi.sh ⟨h.vi.bn.1,h.vi.bn.2.1⟩ ⟨Ne.symm ne.2.1,Ne.symm ne.2.2⟩
 ·obtain⟨⟨o,h1,h2⟩,h3,h4⟩:=h.free ho;refine⟨⟨o,by rw[ht.pD _ h.cb fun o ho=> by rw[h3 i] at ho;cases ho];exact h1,h2⟩,fun g=> hC g (h3 g),h4.grow fun op AD x hx=> ?_⟩;rcases iA.touch op AD x hx with ⟨_,b,f,o',g1,g2,_⟩|⟨_,g1,_⟩
  ·rw[g1];intro e;cases e
   rw[hn _ h.cb (h3 i)] at g2;cases g2
  ·rcases g1 with g1|g1 <;> rw[g1] <;> intro e
   ·exact ne.2.1 (Option.some.inj e)
   ·exact ne.2.2 (Option.some.inj e)
 ·obtain⟨r,hr⟩:=h.uH κ T hκ hT;have e:i≠base+κ:=fun e=> by have:=hm κ T hκ e.symm;rw[this] at hT;cases hT
  exact⟨r,hr.appOther (g:=i) iA.own e⟩
theorem WT.BW(h:WT X B base N os0 w t ths m s H D)(ne:X.Mu≠X.Wg/\X.Mu≠X.C/\X.Wg≠X.C)(hb:1<=base){κ:Nat}{T T':Th}(hκ:ths[κ]? =some T)(hN:base+κ<N)(hp:T.plain=true)(hm:(T',s')∈T.mv s)(ht:XE X w w' s')(hq:pC X T.deaf T'.deaf es):
  WT X B base N os0 w' (t++MemOp.ofEvents (base+κ) fn pos es) (ths.set κ T') m s' H D:=by
 obtain⟨lMu,lWg⟩:=h.lts;obtain⟨k1,k2,k3⟩:=gN hp hm;have mB:=(List.getElem?_eq_some_iff.1 hκ).1;have hTq:T≠ .quit:=by rintro rfl;cases hp
 have hdT:=h.XT κ T hκ hTq;have zT:pC X (Deaf t (base+κ)) T'.deaf es:=by rw[hdT];exact hq
 obtain⟨iA,R8⟩:=NS (X:=X) (H:=H (base+κ)) (fn:=fn) (pos:=pos) zT;have get:∀(κ':Nat) T'',(ths.set κ T')[κ']? =some T''->(κ'=κ/\T''=T')\/(κ'≠κ/\ths[κ']? =some T''):=fun κ' T'' h'=> by
  by_cases e:κ=κ'
  ·subst e;rw[List.getElem?_set_self mB] at h';cases h'
   exact .inl ⟨rfl,rfl⟩
  ·rw[List.getElem?_set_ne e] at h';exact .inr ⟨Ne.symm e,h'⟩
 refine⟨ht.sh,by rw[ht.size];exact h.cb,h.vi.VQ ht,h.hx,?_,fun ho=> ?_,fun κ' T'' YA hT j hj=> ?_,fun κ' T'' YA hT=> ?_,?_,fun κ' T'' YA hT=> ?_,h.os.trans ht.os⟩
 ·rw[ht.size];exact h.HN ne (.inr ⟨oM,hN⟩) hN iA
 ·obtain⟨⟨o,h1,h2⟩,h3,h4⟩:=h.free fun κ' T'' YA=> by
   by_cases e:κ'=κ
   ·subst e;rw[hκ] at YA;cases YA
    rw[<-k1];exact ho κ' T' (List.getElem?_set_self mB)
   ·exact ho κ' T'' (by rw[List.getElem?_set_ne (Ne.symm e)];exact YA)
  refine⟨⟨o,by rw[ht.rest _ (Ne.symm ne.2.1) (Ne.symm ne.2.2)];exact h1,h2⟩,h3,h4.grow fun op AD x hx e=> ?_⟩;rcases R8 op AD x hx with g1|g1 <;> rw[e] at g1
  ·exact ne.2.1 (Option.some.inj g1).symm
  ·exact ne.2.2 (Option.some.inj g1).symm
 ·rcases get κ' T'' YA with ⟨rfl,rfl⟩|⟨_,iD⟩
  ·exact h.own κ' T hκ (by rw[<-k1];exact hT) j hj
  ·exact h.own κ' T'' iD hT j hj
 ·rcases get κ' T'' YA with ⟨rfl,rfl⟩|⟨e,iD⟩
  ·obtain⟨r,hr⟩:=h.uH κ' T hκ (by rw[<-k3];exact hT);refine⟨r,hr.appOwn fn pos es fun j e he=> ?_⟩;rcases zT.ev j e he with eM|⟨⟨a,wr,rfl,_⟩,hd⟩
   ·refine .inl ?_;obtain⟨loc,wr,sy⟩:=e;cases loc with
    | mark mm=> cases mm <;> simp[Event.mute] at eM <;> simp[MemAct.ofEvent,MemAct.touch?]
    | _=> simp[Event.mute] at eM
   ·exact .inr ⟨⟨a,wr,rfl⟩,hd⟩
  ·obtain⟨r,hr⟩:=h.uH κ' T'' iD hT;exact⟨r,hr.appOther (g:=base+κ) iA.own oM⟩
 ·rw[Deaf_other t (g:=0) (g':=base+κ) oM _ iA.own];exact h.LR
 ·rcases get κ' T'' YA with ⟨rfl,rfl⟩|⟨e,iD⟩
  ·rw[Deaf_own];exact zT.net
  ·rw[Deaf_other t (g:=base+κ') (g':=base+κ) oM _ iA.own];exact h.XT κ' T'' iD hT
theorem WT.X0(h:WT X B base N os0 w t ths m s H D)(ne:X.Mu≠X.Wg/\X.Mu≠X.C/\X.Wg≠X.C)(hb:1<=base)(hN:0<N)(ht:XE X w w' s')(hq:pC X m.deaf m'.deaf es):
  WT X B base N os0 w' (t++MemOp.ofEvents 0 fn pos es) ths m' s' H D:=by
 have zT:pC X (Deaf t 0) m'.deaf es:=by rw[h.LR];exact hq
 obtain⟨iA,R8⟩:=NS (X:=X) (H:=H 0) (fn:=fn) (pos:=pos) zT;refine⟨ht.sh,by rw[ht.size];exact h.cb,h.vi.VQ ht,h.hx,?_,fun ho=> ?_,h.own,fun κ' T'' YA hT=> ?_,?_,fun κ' T'' YA hT=> ?_,h.os.trans ht.os⟩
 ·rw[ht.size];exact h.HN ne (.inl rfl) hN iA
 ·obtain⟨⟨o,h1,h2⟩,h3,h4⟩:=h.free ho;refine⟨⟨o,by rw[ht.rest _ (Ne.symm ne.2.1) (Ne.symm ne.2.2)];exact h1,h2⟩,h3,h4.grow fun op AD x hx e=> ?_⟩;rcases R8 op AD x hx with g1|g1 <;> rw[e] at g1
  ·exact ne.2.1 (Option.some.inj g1).symm
  ·exact ne.2.2 (Option.some.inj g1).symm
 ·obtain⟨r,hr⟩:=h.uH κ' T'' YA hT;exact⟨r,hr.appOther (g:=0) iA.own oM⟩
 ·rw[Deaf_own];exact zT.net
 ·rw[Deaf_other t (g:=base+κ') (g':=0) oM _ iA.own];exact h.XT κ' T'' YA hT
theorem WT.said(h:WT X B base N os0 w t ths m s H D)(ne:X.Mu≠X.Wg/\X.Mu≠X.C/\X.Wg≠X.C)(hb:1<=base)(hN:0<N){mm:Mark}(hmm:mm=.read (smA X.Wg)\/mm=.write (smA X.Wg))(hd:m'.deaf=m.deaf):
  WT X B base N os0 w (t++MemOp.ofEvents 0 fn pos #[Go.ConcR.mk mm]) ths m' s H D:=by
 have iA:=nK (X:=X) (H:=H 0) (g:=0) (fn:=fn) (pos:=pos) (m:=mm) (t:=t) (fun x hx=> by rcases hmm with rfl|rfl <;> simp[MemAct.touch?] at hx <;> subst hx <;> exact⟨rfl,rfl,rfl⟩) (fun a e=> by rcases hmm with rfl|rfl <;> cases e);have QJ:∀j,Deaf (t++MemOp.ofEvents 0 fn pos #[Go.ConcR.mk mm]) j=Deaf t j:=fun j=> Deaf_still t j _ fun op AD=> by
  rw[ofEvents_eq] at AD;simp[Go.ConcR.ofEvent_mk] at AD
  subst AD;rcases hmm with rfl|rfl <;> simp
 refine⟨h.sh,h.cb,h.vi,h.hx,h.HN ne (.inl rfl) hN iA,fun ho=> ?_,h.own,fun κ' T'' YA hT=> ?_,by rw[QJ,hd];exact h.LR,fun κ' T'' YA hT=> by rw[QJ];exact h.XT κ' T'' YA hT,h.os⟩
 ·obtain⟨h1,h3,h4⟩:=h.free ho;refine⟨h1,h3,h4.grow fun op AD x hx e=> ?_⟩;rcases iA.touch op AD x hx with ⟨hk,_⟩|⟨_,g1,_⟩
  ·rw[ofEvents_eq] at AD;simp[Go.ConcR.ofEvent_mk] at AD
   subst AD;rcases hmm with rfl|rfl <;> simp[MemAct.touch?] at hx <;> subst hx <;> cases hk
  ·rcases g1 with g1|g1 <;> rw[e] at g1
   ·exact ne.2.1 (Option.some.inj g1).symm
   ·exact ne.2.2 (Option.some.inj g1).symm
 ·obtain⟨r,hr⟩:=h.uH κ' T'' YA hT;exact⟨r,hr.appOther (g:=0) iA.own oM⟩
end
end Go.RL
namespace Go.RL
open Go.Conc Go.ConcN Go.RL.Au
open Go.ConcR (stA smA)
open Go.ConcM (muA msA OsLater)
def IG(o:Oper)(v:Value)(R:Rg):Rg:=
 match o.dst with
 | some d=> (d,v)::R
 | none=> R
def zG(n:Nat)(o:Oper):Bool:=
 match o.dst with
 | some d=> Nat.blt d n
 | none=> true
theorem PA.IG {n:Nat}{R:Rg}{tmps:Array Value}{o:Oper}(h:PA n R tmps)(hd:zG n o=true)(v:Value):PA n (IG o v R) (KB tmps o.dst v):=by
 unfold zG at hd;unfold RL.IG KB;cases ho:o.dst with
 | none=> exact h
 | some d=>
  rw[ho] at hd;have mB:d<n:=by simpa [Nat.blt_eq] using hd
  exact h.put mB v
section
variable {P:Program}{X:Fk}{κ k n:Nat}{t:Th}{D:Nat->Bool}{b:FB}{H₀:View}{cs:List Frame}{R:Rg}{L:Bl}{ds:List Deferred}{kk:List Item}{dl:List (Option Tmp)}{l:List Oper}{o:Oper}
def Fk.X2(X:Fk):Nat->Option (TypeId×Nat):=fun r=> if r=X.Mu then some (X.tM,2) else if r=X.Wg then some (X.tW,2) else none
theorem Fk.R0 {w:World}(h:X.ok w):∀r x,X.X2 r=some x->w.shape? r=some x:=by
 obtain⟨_,s,hs⟩:=h;intro r x hx;unfold Fk.X2 at hx;split at hx
 ·rename_i e
  subst e;cases hx
  simp[World.shape?,hs.mu,Fk.dP]
 ·split at hx
  ·rename_i e
   subst e;cases hx
   simp[World.shape?,hs.wg,Fk.yP]
  ·cases hx
def oC(P:Program)(sh:Nat->Option (TypeId×Nat))(n:Nat)(R:Rg)(o:Oper)(v:Value):Prop:=∀tmps,PA n R tmps->mP P sh (execOp (uB tmps) o) fun nx=> nx=.value v
variable {sh:Nat->Option (TypeId×Nat)}{v:Value}
theorem oC.move {x:Operand}(iA:o.op=.move x)(hx:GA R x=some v):oC P sh n R o v:=fun tmps hr=> by unfold execOp;rw[iA];show Next.value _=_;rw[hr.ev hx]
theorem oC.assign {x:Operand}(iA:o.op=.assign x)(hx:GA R x=some v):oC P sh n R o v:=fun tmps hr=> by unfold execOp;rw[iA];show Next.value _=_;rw[hr.ev hx]
theorem oC.pick {c x y:Operand}{u:Bool}(iA:o.op=.pick c x y)(hc:GA R c=some (.bool u))(hx:(match u with|true=> GA R x|false=> GA R y)=some v):oC P sh n R o v:=fun tmps hr=> by
 unfold execOp;rw[iA];simp only[hr.ev hc,asBool];cases u with
 | true=> show Next.value _=_;rw[<-hr.ev hx];rfl
 | false=> show Next.value _=_;rw[<-hr.ev hx];rfl
theorem oC.nilCheck {x:Operand}{a:Addr}(iA:o.op=.nilCheck x)(hx:GA R x=some (.pointer (some a))):oC P sh n R o (.pointer (some a)):=fun tmps hr=> by
 unfold execOp;rw[iA];simp only[hr.ev hx];rfl
theorem oC.not {u:TypeId}{x:Operand}{p:Bool}(iA:o.op=.unOp .not u x)(hx:GA R x=some (.bool p)):oC P sh n R o (.bool (!p)):=fun tmps hr=> by
 unfold execOp;rw[iA];simp only[hr.ev hx];rfl
theorem vH {op:BinOp}{u:TypeId}{x y:Operand}{k k':IntKind}{p q:Int}{Q:Unit->Prop}(h:Q ()):mP P sh (eqGuard op u x y (.int k p) (.int k' q)) Q:=by
 unfold eqGuard;cases op <;> exact h
theorem oC.int {op:BinOp}{u u':TypeId}{x y:Operand}{ik:IntKind}{p q:Int}(iA:o.op=.binOp op u x y u')(hx:GA R x=some (.int ik p))(hy:GA R y=some (.int ik q))(hv:gA op ik p q=some v):oC P sh n R o v:=fun tmps hr=> by
 unfold execOp;rw[iA];simp only[hr.ev hx,hr.ev hy];show mP P sh (((eqGuard op u x y _ _).bind fun _=> binOp op u _ _).bind _) _;refine qB _ _ (qB _ _ (vH ?_));unfold binOp;unfold gA at hv;cases op <;> simp only[reduceCtorEq,Option.some.injEq] at hv
 case quo=>
  split at hv
  ·cases hv
  ·rename_i hb
   cases hv
   simp only[ne_eq,not_true_eq_false,if_false,Op.intDiv,if_neg hb];exact rfl
 case rem=>
  split at hv
  ·cases hv
  ·rename_i hb
   cases hv
   simp only[ne_eq,not_true_eq_false,if_false,Op.intDiv,if_neg hb];exact rfl
 all_goals (subst hv;simp only[ne_eq,not_true_eq_false,if_false,Op.intArith,Op.intCmp,Op.intBits];exact rfl)
theorem oC.shift {op:BinOp}{u u':TypeId}{x y:Operand}{ik jk:IntKind}{p q:Int}(iA:o.op=.binOp op u x y u')(hx:GA R x=some (.int ik p))(hy:GA R y=some (.int jk q))(hq:0<=q)(hv:NC op ik p q=some v):oC P sh n R o v:=fun tmps hr=> by
 unfold execOp;rw[iA];simp only[hr.ev hx,hr.ev hy];show mP P sh (((eqGuard op u x y _ _).bind fun _=> binOp op u _ _).bind _) _;refine qB _ _ (qB _ _ (vH ?_));unfold NC at hv;cases op <;> simp only[reduceCtorEq,Option.some.injEq] at hv <;> subst hv
 all_goals
  simp only[binOp,Op.shift,if_neg (show ¬q<0 by omega)];exact rfl
theorem oC.conv {u u':TypeId}{x:Operand}{ik jk:IntKind}{p z:Int}{de:TypeDesc}(iA:o.op=.convert u u' x)(hx:GA R x=some (.int ik p))(hu0:P.underlying u=some de)(hu:P.underlying u'=some (.int jk))(hz:jk.wrap p=z):oC P sh n R o (.int jk z):=fun tmps hr=> by
 subst hz;unfold execOp;rw[iA];simp only[hr.ev hx];show mP P sh (((underlying u).bind fun s=> (underlying u').bind fun e=> _).bind _) _;refine qB _ _ (qB _ _ (IB hu0 (qB _ _ (IB hu ?_))));cases de <;> exact rfl
def aH(P:Program)(s:TypeId)(fi:Nat):Option Nat:=
 match P.underlying s with
 | some (.struct fs)=>
  match fs[fi]? with
  | some fl=> match (P.info? fl.type).map (·.size) with
   | some (_+1)=> some fl.offset
   | _=> none
  | none=> none
 | _=> none
theorem oC.field {s:TypeId}{x:Operand}{fi o':Nat}{blk off:Nat}(iA:o.op=.fieldAddr s x fi)(hx:GA R x=some (.pointer (some ⟨blk,off,none⟩)))(hf:aH P s fi=some o'):oC P sh n R o (.pointer (some ⟨blk,off+o',none⟩)):=fun tmps hr=> by
 unfold execOp;rw[iA];simp only[hr.ev hx];unfold aH at hf;split at hf
 ·rename_i fs hu
  split at hf
  ·rename_i fl hfl
   split at hf
   ·rename_i sz QD
    cases hf
    refine qB (Instr.fieldAt s _ fi) _ (qB (underlying s) _ (IB hu ?_));simp only[hfl];show mP P sh ((fieldPlace ⟨blk,off,none⟩ fl).bind _) _;refine qB _ _ (qB (sizeOf fl.type) _ (rN QD ?_));rw[if_neg (by simp)];show Next.value (.pointer (some (Addr.add ⟨blk,off,none⟩ fl.offset)))=_;rw[VD _ _ rfl]
   ·cases hf
  ·cases hf
 ·cases hf
theorem oC.raw {u u' pt:TypeId}{x:Operand}{blk off sz:Nat}(iA:o.op=.convert u u' x)(hx:GA R x=some (.pointer (some ⟨blk,off,none⟩)))(hu0:P.underlying u=some (.pointer pt))(hu:P.underlying u'=some .unsafePointer)(QD:(P.info? pt).map (·.size)=some (sz+1))(hb:∃e c,sh blk=some (e,c)/\off<c):
  oC P sh n R o (.pointer (some ⟨blk,off,none⟩)):=fun tmps hr=> by
 obtain⟨e,c,hb,hc⟩:=hb;unfold execOp;rw[iA];simp only[hr.ev hx];show mP P sh (((underlying u).bind fun s=> (underlying u').bind fun e=> _).bind _) _;refine qB _ _ (qB _ _ (IB hu0 (qB _ _ (IB hu ?_))));show mP P sh ((underlying u).bind fun s=> (underlying u').bind fun e=> _) _;refine qB _ _ (IB hu0 (qB _ _ (IB hu ?_)));refine⟨(e,c),hb,?_⟩;refine⟨(e,c),hb,?_⟩;simp only[Sem.bind];refine qB (sizeOf pt) _ (rN QD ?_);have:¬(c<=off):=by omega
 simp[this]
 exact rfl
end
end Go.RL
namespace Go.RL
open Go.Conc Go.ConcN
abbrev Z3:=Nat->Option (TypeId×Nat)
def aDu(sh:Z3)(w:World):Prop:=∀r x,sh r=some x->w.shape? r=some x
structure Cl(P:Program)(main:Bool)(sh:Z3)(J:Goroutine->Prop):Prop where
 step:∀g g',g.status=.running->(∀w,aDu sh w->stepG P main g w=.go g' w #[])->J g'->J g
section
variable {P:Program}{main:Bool}{sh:Z3}(J:Goroutine->Prop)(n:Nat)(b:FB)(cs:List Frame)
def Sc(R:Rg)(ds:List Deferred)(todo:List Item):Prop:=∀tmps,PA n R tmps->J (G (b.at tmps ds todo) cs)
def So(dl:List (Option Tmp))(R:Rg)(ds:List Deferred)(l:List Oper)(k:List Item):Prop:=
 ∀(arr:Array Oper) (ix:List Nat),(∀j:Nat,(arr[j]?).bind (fun o:Oper=> o.dst)=(dl[j]?).join)->ix.map (arr[·]?)=l.map some->Sc J n b cs R ds (.inRegion arr ix::k)
def Sb(R:Rg)(ds:List Deferred):Prop:=∀tmps todo,PA n R tmps->J (G (b.back tmps ds todo) cs)
end
section
variable {P:Program}{main:Bool}{sh:Z3}{J:Goroutine->Prop}{n:Nat}{b:FB}{cs:List Frame}{R:Rg}{ds:List Deferred}{k:List Item}
theorem Cl.go(hc:Cl P main sh J){g g':Goroutine}(hs:g.status=.running)(h:∀w,stepG P main g w=.go g' w #[])(k:J g'):J g:=hc.step g g' hs (fun w _=> h w) k
theorem Sc.skip(hc:Cl P main sh J)(h:Sc J n b cs R ds k):Sc J n b cs R ds (.code .skip::k):=fun tmps hr=> hc.go rfl (fun _=> by simp[G,stepG,stepG.exec,FB.at]) (h tmps hr)
theorem Sc.inBlock(hc:Cl P main sh J){id:Nat}(h:Sc J n b cs R ds k):Sc J n b cs R ds (.inBlock id::k):=fun tmps hr=> hc.go rfl (fun _=> by simp[G,stepG,stepG.exec,FB.at]) (h tmps hr)
theorem Sc.seq(hc:Cl P main sh J){x y:Code}(h:Sc J n b cs R ds (.code x:: .code y::k)):Sc J n b cs R ds (.code (.seq x y)::k):=fun tmps hr=> hc.go rfl (fun _=> by simp[G,stepG,stepG.exec,FB.at]) (h tmps hr)
theorem Sc.block(hc:Cl P main sh J){id:Nat}{c:Code}(h:Sc J n b cs R ds (.code c:: .inBlock id::k)):Sc J n b cs R ds (.code (.block id c)::k):=fun tmps hr=> hc.go rfl (fun _=> by simp[G,stepG,stepG.exec,FB.at]) (h tmps hr)
theorem Sc.exit(hc:Cl P main sh J){id:Nat}{k':List Item}(he:exitTo id k=some k')(h:Sc J n b cs R ds k'):Sc J n b cs R ds (.code (.exit id)::k):=fun tmps hr=> hc.go rfl (fun _=> by simp[G,stepG,stepG.exec,FB.at,he]) (h tmps hr)
theorem Sc.loop(hc:Cl P main sh J){c:Code}(h:Sc J n b cs R ds (.code c:: .inLoop c::k)):Sc J n b cs R ds (.code (.loop c)::k):=fun tmps hr=> hc.go rfl (fun _=> by simp[G,stepG,stepG.exec,FB.at]) (h tmps hr)
theorem Sc.inLoop(hc:Cl P main sh J){c:Code}(h:Sc J n b cs R ds (.code c:: .inLoop c::k)):Sc J n b cs R ds (.inLoop c::k):=fun tmps hr=> hc.go rfl (fun _=> by simp[G,stepG,stepG.exec,FB.at]) (h tmps hr)
theorem Sc.cond(hc:Cl P main sh J){c:Operand}{x y:Code}{t:Bool}(hx:GA R c=some (.bool t))(h1:t=true->Sc J n b cs R ds (.code x::k))(h2:t=false->Sc J n b cs R ds (.code y::k)):Sc J n b cs R ds (.code (.cond c x y)::k):=fun tmps hr=> by
 have EH:=hr.ev hx;refine hc.go (g':=G (b.at tmps ds (.code (if t then x else y)::k)) cs) rfl (fun _=> ?_) ?_
 ·have h':(b.at tmps ds (.code (.cond c x y)::k)).eval c=.bool t:=by rw[FB.eval_at];exact EH
  simp only[FB.at] at h';simp[G,stepG,stepG.exec,FB.at,h']
 ·cases t with
  | true=> exact h1 rfl tmps hr
  | false=> exact h2 rfl tmps hr
theorem Sc.region(hc:Cl P main sh J){id:Nat}{ops:Array Oper}{dl:List (Option Tmp)}{l:List Oper}(hl:ops.toList=l)(nR:l.map (fun o:Oper=> o.dst)=dl)(h:So J n b cs dl R ds l k):Sc J n b cs R ds (.code (.region id ops false)::k):=fun tmps hr=> by
 subst hl nR;refine hc.go rfl (fun _=> by simp[G,stepG,stepG.exec,FB.at]) (h ops (List.range ops.size) (fun j=> ?_) ?_ tmps hr)
 ·simp only[List.getElem?_map,Array.getElem?_toList];cases ops[j]? <;> rfl
 ·apply List.ext_getElem?
  intro j;simp only[List.getElem?_map];by_cases hj:j<ops.size
  ·simp[hj]
  ·have h1:(List.range ops.size)[j]? =none:=by simp;omega
   have h2:ops.toList[j]? =none:=by simp;omega
   rw[h1,h2];rfl
theorem So.done(hc:Cl P main sh J){dl:List (Option Tmp)}(h:Sc J n b cs R ds k):So J n b cs dl R ds [] k:=fun arr ix _ hx=> by
 cases ix with
 | nil=> exact fun tmps hr=> hc.go rfl (fun _=> by simp[G,stepG,stepG.exec,FB.at]) (h tmps hr)
 | cons i r=> simp at hx
theorem So.mM(hc:Cl P main sh J){dl:List (Option Tmp)}{o:Oper}{l:List Oper}(hd:zG n o=true)(hw:JA dl R o=some false)(h:So J n b cs dl (IG o undef R) ds l k):So J n b cs dl R ds (o::l) k:=fun arr ix ha hx=> by
 cases ix with
 | nil=> simp at hx
 | cons i r=>
  simp only[List.map_cons,List.cons.injEq] at hx;intro tmps hr;refine hc.go rfl (fun w=> ?_) (h arr r ha hx.2 _ (hr.IG hd undef));have VN:=jB ha hr hw;have hf:=FB.finish_at b tmps ds arr i r k undef;rw[hx.1] at hf;simp only[Option.bind_some] at hf;rw[<-hf];simp[G,stepG,stepG.exec,FB.at,hx.1,VN]
theorem So.op(hc:Cl P main sh J){dl:List (Option Tmp)}{o:Oper}{l:List Oper}{v:Value}(hw:JA dl R o=some true)(hd:zG n o=true)(UI:AA o.op=false)(hp:oC P sh n R o v)(h:So J n b cs dl (IG o v R) ds l k):So J n b cs dl R ds (o::l) k:=fun arr ix ha hx=> by
 cases ix with
 | nil=> simp at hx
 | cons i r=>
  simp only[List.map_cons,List.cons.injEq] at hx;intro tmps hr;refine hc.step _ (G (b.at (KB tmps o.dst v) ds (.inRegion arr r::k)) cs) rfl (fun w hs=> ?_) (h arr r ha hx.2 _ (hr.IG hd v));have hy:Yields P main b tmps ds cs o w v w #[]:=.look (.inr UI) (hp tmps hr) hs;exact hy arr i r k hx.1 (jB ha hr hw)
theorem So.opD(hc:Cl P main sh J){dl:List (Option Tmp)}{o:Oper}{l:List Oper}{v:Value}{d:Nat}(lG:o.dst=some d)(hn:Nat.blt d n=true)(hw:JA dl R o=some true)(UI:AA o.op=false)(hp:oC P sh n R o v)(h:So J n b cs dl ((d,v)::R) ds l k):So J n b cs dl R ds (o::l) k:=
 So.op hc hw (by unfold zG;rw[lG];exact hn) UI hp (by unfold IG;rw[lG];exact h)
theorem So.S0(hc:Cl P main sh J){dl:List (Option Tmp)}{o:Oper}{l:List Oper}{d:Nat}(lG:o.dst=some d)(hn:Nat.blt d n=true)(hw:JA dl R o=some false)(h:So J n b cs dl ((d,undef)::R) ds l k):So J n b cs dl R ds (o::l) k:=
 So.mM hc (by unfold zG;rw[lG];exact hn) hw (by unfold IG;rw[lG];exact h)
def PD(J:Goroutine->Prop)(f:FuncId)(vs:List Value)(K:Value->(Goroutine->Prop)->Prop):Prop:=
 ∀ (b:FB) (tmps:Array Value) (ds:List Deferred) (cs:List Frame) (o:Oper) (az:List Operand) (arr:Array Oper) (i:Nat) (r:List Nat) (k:List Item),b.rd=none->b.kind≠ .early->gG o f az->az.map (uB tmps)=vs->arr[i]? =some o->Region.wanted o (yielded arr tmps)=true-> 
  (∀v J',K v J'->J' (G (b.at (KB tmps o.dst v) ds (.inRegion arr r::k)) cs))->J (G (b.at tmps ds (.inRegion arr (i::r)::k)) cs)
def NJ(P:Program)(J:Goroutine->Prop)(f:FuncId)(vs:List Value)(K:Value->(Goroutine->Prop)->Prop):Prop:=
 ∀c cs,(∀v J',K v J'->J' (G (c.finish v) cs))->J (G (Frame.enter P f vs.toArray .normal) (c::cs))
theorem NJ.at(hc:Cl P main sh J){f:FuncId}{vs:List Value}{K:Value->(Goroutine->Prop)->Prop}(hg:rA P f=true)(h:NJ P J f vs K):PD J f vs K:=by
 intro b tmps ds cs o az arr i r k hb hk ho ha hi hw hK;obtain⟨ats,iA⟩:=ho;refine hc.go (g':=G (Frame.enter P f vs.toArray .normal) (b.at tmps ds (.inRegion arr (i::r)::k)::cs)) rfl (fun w=> ?_) (h _ _ fun v J' hv=> ?_)
 ·have hm:(az.toArray).map (uB tmps)=vs.toArray:=by rw[List.map_toArray,ha]
  have hex:execOp (uB tmps) o=callFunc f vs.toArray:=by
   unfold execOp;rw[iA];simp only[resolve,uB,Deferred.ofValue,hm];simp[invoke]
  have hcf:∃w',(callFunc f vs.toArray).runT P w #[]=(.ok (.enter f vs.toArray) w',#[])/\w'=w:=by
   unfold rA at hg;split at hg
   ·rename_i fn gU
    simp only[Bool.and_eq_true,Bool.not_eq_true',Option.isSome_iff_ne_none] at hg;obtain⟨h1,h2⟩:=hg;have hbn:fn.body.isNone=false:=by cases hx:fn.body <;> simp_all
    refine⟨w,?_,rfl⟩;show(match P.funcs[f]? with|none=> _|some fn=> _:Sem Next).runT P w #[]=_;rw[gU];simp only[h1,hbn,Bool.false_eq_true,if_false];rfl
   ·cases hg
  obtain⟨w',CF,rfl⟩:=hcf;have yT:stepG P main (G (b.at tmps ds (.inRegion arr (i::r)::k)) cs) w'=stepG.apply P true (b.at tmps ds (.inRegion arr (i::r)::k)) cs none (execOp (b.at tmps ds (.inRegion arr (i::r)::k)).eval o) w':=by
   simp[G,stepG,stepG.exec,stepG.oper,Frame.oper?,FB.at,hi,hw,hb]
  rw[FB.eval_at,hex] at yT;rw[yT];have hs:seen P (b.at tmps ds (.inRegion arr (i::r)::k)).fn (if(b.at tmps ds (.inRegion arr (i::r)::k)).kind==.early then #[] else #[])=#[]:=by
   rw[ite_self];exact seen_none _ _
  have key:stepG.apply P true (b.at tmps ds (.inRegion arr (i::r)::k)) cs none (callFunc f vs.toArray) w'=GStep.after (seen P (b.at tmps ds (.inRegion arr (i::r)::k)).fn (if(b.at tmps ds (.inRegion arr (i::r)::k)).kind==.early then #[] else #[])) (.go (G (Frame.enter P f vs.toArray .normal) (b.at tmps ds (.inRegion arr (i::r)::k)::cs)) w'):=by
   unfold stepG.apply;rw[if_pos rfl,CF];rfl
  rw[key,hs];simp[GStep.after]
 ·have XC:(b.at tmps ds (.inRegion arr (i::r)::k)).finish v=b.at (KB tmps o.dst v) ds (.inRegion arr r::k):=by rw[FB.finish_at,hi];rfl
  rw[XC];exact hK v J' hv
theorem So.call {dl:List (Option Tmp)}{o:Oper}{l:List Oper}{f:FuncId}{az:List Operand}{vs:List Value}{K:Value->(Goroutine->Prop)->Prop}(hb:b.rd=none)(hkd:b.kind≠ .early)(hw:JA dl R o=some true)(hd:zG n o=true)(ho:gG o f az)(ha:aE R az=some vs)
  (hc:PD J f vs K) (hk:∀v J',K v J'->So J' n b cs dl (IG o v R) ds l k):So J n b cs dl R ds (o::l) k:=fun arr ix AF hx=> by
 cases ix with
 | nil=> simp at hx
 | cons i r=>
  simp only[List.map_cons,List.cons.injEq] at hx;intro tmps hr;exact hc b tmps ds cs o az arr i r k hb hkd ho (hr.evs ha) hx.1 (jB AF hr hw) fun v J' hv=> hk v J' hv arr r AF hx.2 _ (hr.IG hd v)
theorem So.QA {dl:List (Option Tmp)}{o:Oper}{l:List Oper}{f:FuncId}{az:List Operand}{vs:List Value}{d:Nat}{K:Value->(Goroutine->Prop)->Prop}(lG:o.dst=some d)(hn:Nat.blt d n=true)(hb:b.rd=none)(hkd:b.kind≠ .early)(hw:JA dl R o=some true)(ho:gG o f az)(ha:aE R az=some vs)
  (hc:PD J f vs K) (hk:∀v J',K v J'->So J' n b cs dl ((d,v)::R) ds l k):So J n b cs dl R ds (o::l) k:=
 So.call hb hkd hw (by unfold zG;rw[lG];exact hn) ho ha hc fun v J' hv=> by unfold IG;rw[lG];exact hk v J' hv
theorem gG.mk' {o:Oper}{f:FuncId}{az:List Operand}{ats:Array TypeId}(h:o.op=.call { callee:=.value (.func f),args:=az.toArray,argTypes:=ats }):gG o f az:=⟨ats,h⟩
theorem NJ.enter {f:FuncId}{fn:Func}{body:Code}{vs:List Value}{K:Value->(Goroutine->Prop)->Prop}(hf:P.funcs[f]? =some fn)(hb:fn.body=some body)(hn:fn.ntmps=n)(hv:vs.length<=n)
  (h:∀c cs,(∀v J',K v J'->J' (G (c.finish v) cs))->Sc J n ⟨f,.normal,none⟩ (c::cs) (lJ vs) [] [.code body]):NJ P J f vs K:=fun c cs hk=> by
 have:=h c cs hk (vs.toArray++Array.replicate (n-vs.length) undef) ⟨by simp;omega,fun d v hd=> ?_⟩
 ·have e:Frame.enter P f vs.toArray .normal=(⟨f,.normal,none⟩:FB).at (vs.toArray++Array.replicate (n-vs.length) undef) [] [.code body]:=by
   simp[Frame.enter,FB.at,hf,hb,hn]
  rw[e];exact this
 ·obtain⟨_,h2⟩:=iF vs 0 d v hd;simp only[Nat.sub_zero] at h2;have mB:=(List.getElem?_eq_some_iff.1 h2).1;rw[Array.getElem?_append_left (by simpa using mB)];simpa using h2
theorem Sc.kC(hc:Cl P main sh J)(hr:b.rd=none)(h:Sb J n b cs R ds):Sc J n b cs R ds (.code .ret::k):=fun tmps vE=> hc.go (g':=G (b.back tmps ds (.code .ret::k)) cs) rfl (fun _=> by simp[G,stepG,stepG.exec,FB.at,FB.back,hr]) (h tmps (.code .ret::k) vE)
theorem Sc.over(hc:Cl P main sh J)(hr:b.rd=none)(h:Sb J n b cs R ds):Sc J n b cs R ds []:=fun tmps vE=> hc.go (g':=G (b.back tmps ds []) cs) rfl (fun _=> by simp[G,stepG,stepG.exec,FB.at,FB.back,hr]) (h tmps [] vE)
def aV(fn:Func)(R:Rg)(v:Value):Prop:=(fn.results=#[]/\v=.tuple #[])\/∃t,fn.results=#[.tmp t]/\lk R t=some v
theorem aV.run {fn:Func}{v:Value}(h:aV fn R v){tmps:Array Value}(hr:PA n R tmps)(w:World):(results fn tmps).runT P w #[]=(.ok v w,#[]):=by
 rcases h with ⟨h1,rfl⟩|⟨t,h1,h2⟩
 ·simp[results,h1]
 ·have:tmps[t]? =some v:=hr.2 _ _ h2;simp[results,h1,this]
theorem Sb.leave(hc:Cl P main sh J){fn:Func}{c:Frame}{v:Value}(hf:P.funcs[b.fn]? =some fn)(hk:b.kind=.normal)(hv:aV fn R v)(h:J (G (c.finish v) cs)):Sb J n b (c::cs) R []:=fun tmps todo hr=> by
 refine hc.go rfl (fun w=> ?_) h;have:stepG P main (G (b.back tmps [] todo) (c::cs)) w=unwind P main (b.back tmps [] todo) (c::cs) none w:=by simp[G,stepG,FB.back]
 rw[this];unfold unwind;simp only[FB.back,hf,hv.run (P:=P) hr w,doReturn,hk,GStep.after,G,Array.append_empty,seen_none]
theorem Sb.leaveD(hc:Cl P main sh J){fn:Func}{c:Frame}(hf:P.funcs[b.fn]? =some fn)(hk:b.kind=.deferred)(hv:fn.results=#[])(hm:c.mode=.returning\/c.mode=.panicking [goexitEntry])(h:J (G c cs)):Sb J n b (c::cs) R []:=fun tmps todo hr=> by
 refine hc.go rfl (fun w=> ?_) h;have:stepG P main (G (b.back tmps [] todo) (c::cs)) w=unwind P main (b.back tmps [] todo) (c::cs) none w:=by simp[G,stepG,FB.back]
 rw[this];unfold unwind;have hv':aV fn R (.tuple #[]):=.inl ⟨hv,rfl⟩;rcases hm with hm|hm <;> simp only[FB.back,hf,hv'.run (P:=P) hr w,doReturn,hk,hm,GStep.after,G,Array.append_empty,seen_none,goexitEntry]
end
end Go.RL
namespace Go.RL
open Go.Conc Go.ConcN Go.RL.Au
open Go.ConcR (stA smA)
open Go.ConcM (muA msA OsLater)
def Jw(P:Program)(X:Fk)(κ k:Nat)(t:Th)(D:Nat->Bool)(H:View):Goroutine->Prop:=fun g=>
 (t=.quit->∃q,QuitsD P q 1 g)/\(t≠ .quit->t.mute=true->∃n,Qt P (WS P X κ k t D H) n g)/\(t.mute=false->T (Mw P false X.ok) (WS P X κ k t D) H g)
def Jm(P:Program)(X:Fk)(Fin:Goroutine->Prop)(k:Nat)(m:Mn)(j:Nat)(H:View):Goroutine->Prop:=T (Mw P true X.ok) (MS P X Fin k m j) H
section
variable {P:Program}{X:Fk}{κ k:Nat}{t:Th}{D:Nat->Bool}{H:View}{Fin:Goroutine->Prop}{m:Mn}{j:Nat}
theorem Jw.QG:Cl P false NU (Jw P X κ k t D H):=⟨fun g g' hs h ⟨h1,h2,h3⟩=> by
 have hw:∀w,stepG P false g w=.go g' w #[]:=fun w=> h w fun r x e=> by cases e
 refine⟨fun e=> ?_,fun e hm=> ?_,fun hm=> .OC hs hw (h3 hm)⟩
 ·obtain⟨q,hq⟩:=h1 e;exact⟨q+1,.ctl hs hw hq⟩
 ·obtain⟨n,hn⟩:=h2 e hm;exact⟨n+1,hs,g',hw,hn⟩⟩
theorem Jw.RG(hm:t.mute=false):Cl P false X.X2 (Jw P X κ k t D H):=⟨fun g g' hs h ⟨_,_,h3⟩=>
 ⟨fun e=> (by subst e;cases hm),fun _ e=> (by rw[hm] at e;cases e),fun e=> .step ⟨hs,fun w hw ho=> ⟨g',w,#[],H,h w (Fk.R0 ho),.refl hw,h3 e⟩⟩⟩⟩
theorem Jm.cl:Cl P true X.X2 (Jm P X Fin k m j H):=⟨fun _ g' hs h h3=> .step ⟨hs,fun w hw ho=> ⟨g',w,#[],H,h w (Fk.R0 ho),.refl hw,h3⟩⟩⟩
theorem Jw.stop {g:Goroutine}(hq:t≠ .quit)(h:WS P X κ k t D H g):Jw P X κ k t D H g:=⟨fun e=> (hq e).elim,fun _ _=> ⟨0,h⟩,fun _=> .stop h⟩
theorem Jw.at {f:FuncId}{e:Array Value->Sem Value}{vs:List Value}{K:Value->Th->Prop}(hp:t.plain=true)(he:BD P f e)
  (h:∀w s,ShAt X w s->t.ok s->t.loc s->s.fits->(t.mv s= []/\(e vs.toArray).run P w=.halt .blocked w)\/ 
   ∃t' s' v w' es,(t',s')∈t.mv s/\XA P e vs w v w' es/\XE X w w' s'/\pC X t.deaf t'.deaf es/\K v t'):
  PD (Jw P X κ k t D H) f vs fun v J'=> ∃k' t',k'<k/\K v t'/\J'=Jw P X κ k' t' D H:=by
 intro b tmps ds cs o az arr i r kk hb hk ho ha hi hw hK;refine Jw.stop (fun e=> (by subst e;cases hp)) ?_;cases k with
 | zero=> trivial
 | succ k=>
  refine⟨⟨rfl,rfl⟩,fun e=> (by subst e;cases hp),fun e=> (by subst e;cases hp),fun e=> (by subst e;cases hp),fun e=> (by subst e;cases hp),fun _ w s cH SJ GB qE qQ=> ?_⟩;rcases h w s SJ GB qE qQ with ⟨h1,h2⟩|⟨t',s',v,w',es,h1,h2,h3,h4,h5⟩
  ·exact .inl ⟨h1,JP.entry he ho hb ha h2 arr i r kk hi hw⟩
  ·obtain⟨g1,g2,g3⟩:=hK v _ ⟨k,t',Nat.lt_succ_self _,h5,rfl⟩;exact .inr ⟨t',s',_,w',es,h1,h2.xI he ho hb hk ha arr i r kk hi hw,h3,h4,fun _=> he.aDq ho hi,rfl,g1,g2,g3⟩
theorem Jm.at {f:FuncId}{e:Array Value->Sem Value}{vs:List Value}{K:Value->Mn->Prop}(hp:m.plain=true)(he:BD P f e)
  (h:∀w s,ShAt X w s->m.ok s->s.fits->(m.mv s= []/\(e vs.toArray).run P w=.halt .blocked w)\/ 
   ∃m' s' v w' es,(m',s')∈m.mv s/\XA P e vs w v w' es/\XE X w w' s'/\pC X m.deaf m'.deaf es/\K v m'):
  PD (Jm P X Fin k m j H) f vs fun v J'=> ∃k' m',k'<k/\K v m'/\J'=Jm P X Fin k' m' j H:=by
 intro b tmps ds cs o az arr i r kk hb hk ho ha hi hw hK;refine .stop ?_;cases k with
 | zero=> trivial
 | succ k=>
  refine⟨⟨rfl,rfl⟩,fun e=> (by subst e;cases hp),fun e=> (by subst e;cases hp),fun e=> (by subst e;cases hp),fun e=> (by subst e;cases hp),fun e=> (by subst e;cases hp),fun _ w s cH SJ GB qQ=> ?_⟩;rcases h w s SJ GB qQ with ⟨h1,h2⟩|⟨m',s',v,w',es,h1,h2,h3,h4,h5⟩
  ·exact .inl ⟨h1,JP.entry he ho hb ha h2 arr i r kk hi hw⟩
  ·exact .inr ⟨m',s',_,w',es,h1,h2.xI he ho hb hk ha arr i r kk hi hw,h3,h4,hK v _ ⟨k,m',Nat.lt_succ_self _,h5,rfl⟩⟩
theorem Jw.la {f:FuncId}(he:BD P f (Extern.Race.marked .acquire)):
  PD (Jw P X κ k .la D H) f [.pointer (some (muA X.Mu))] fun v J'=> v=.tuple #[]/\∃k' D' o,k'<k/\D' κ=false/\X.GI D' o/\J'=Jw P X κ k' .up D' (H.put X.C (true,o)):=by
 intro b tmps ds cs o az arr i r kk hb hk ho ha hi hw hK;refine Jw.stop (by simp) ?_;cases k with
 | zero=> trivial
 | succ k=>
  refine⟨⟨rfl,rfl⟩,fun _ D' c hD hG w hs=> ⟨_,XA.xI (XA.RK rfl) he ho hb hk ha arr i r kk hi hw,?_⟩,nofun,nofun,nofun,nofun⟩;exact(hK _ _ ⟨rfl,k,D',c,Nat.lt_succ_self _,hD,hG,rfl⟩).2.2 rfl
theorem Jw.ur {f:FuncId}{o:Obj}(he:BD P f (Extern.Race.marked .releaseMerge))(hC:H X.C=none)(hG:X.GI (KL D κ) o):
  PD (Jw P X κ k .ur D (H.put X.C (true,o))) f [.pointer (some (muA X.Mu))] fun v J'=> v=.tuple #[]/\∃k',k'<k/\J'=Jw P X κ k' .ud D H:=by
 intro b tmps ds cs o' az arr i r kk hb hk ho ha hi hw hK;refine Jw.stop (by simp) ?_;cases k with
 | zero=> trivial
 | succ k=>
  refine⟨⟨rfl,rfl⟩,nofun,fun _=> ⟨o,H,rfl,hC,hG,fun w hs=> ⟨_,XA.xI (XA.RK rfl) he ho hb hk ha arr i r kk hi hw,?_⟩⟩,nofun,nofun,nofun⟩;exact(hK _ _ ⟨rfl,k,Nat.lt_succ_self _,rfl⟩).2.2 rfl
theorem Jw.wr {f:FuncId}(he:BD P f (Extern.Race.marked .releaseMerge)):
  PD (Jw P X κ k .wr D H) f [.pointer (some (stA X.Wg))] fun v J'=> v=.tuple #[]/\∃k',k'<k/\J'=Jw P X κ k' .wk D H:=by
 intro b tmps ds cs o' az arr i r kk hb hk ho ha hi hw hK;refine Jw.stop (by simp) ?_;cases k with
 | zero=> trivial
 | succ k=>
  refine⟨⟨rfl,rfl⟩,nofun,nofun,fun _ w hs=> ⟨_,XA.xI (XA.RK rfl) he ho hb hk ha arr i r kk hi hw,?_⟩,nofun,nofun⟩;exact(hK _ _ ⟨rfl,k,Nat.lt_succ_self _,rfl⟩).2.1 (by simp) rfl
theorem Jm.kr {f:FuncId}(he:BD P f (Extern.Race.marked .read)):PD (Jm P X Fin k .kr j H) f [.pointer (some (smA X.Wg))] fun v J'=> v=.tuple #[]/\∃k',k'<k/\J'=Jm P X Fin k' .ke j H:=by
 intro b tmps ds cs o' az arr i r kk hb hk ho ha hi hw hK;refine .stop ?_;cases k with
 | zero=> trivial
 | succ k=> exact⟨⟨rfl,rfl⟩,nofun,fun _ w hs=> ⟨_,XA.xI (XA.RK rfl) he ho hb hk ha arr i r kk hi hw,hK _ _ ⟨rfl,k,Nat.lt_succ_self _,rfl⟩⟩,nofun,nofun,nofun,nofun⟩
theorem Jm.wm {f:FuncId}(he:BD P f (Extern.Race.marked .write)):PD (Jm P X Fin k .wm j H) f [.pointer (some (smA X.Wg))] fun v J'=> v=.tuple #[]/\∃k',k'<k/\J'=Jm P X Fin k' .ws j H:=by
 intro b tmps ds cs o' az arr i r kk hb hk ho ha hi hw hK;refine .stop ?_;cases k with
 | zero=> trivial
 | succ k=> exact⟨⟨rfl,rfl⟩,nofun,nofun,fun _ w hs=> ⟨_,XA.xI (XA.RK rfl) he ho hb hk ha arr i r kk hi hw,hK _ _ ⟨rfl,k,Nat.lt_succ_self _,rfl⟩⟩,nofun,nofun,nofun⟩
theorem Jm.aq {f:FuncId}(he:BD P f (Extern.Race.marked .acquire)):PD (Jm P X Fin k .aq j H) f [.pointer (some (stA X.Wg))] fun v J'=> v=.tuple #[]/\J'=Fin:=by
 intro b tmps ds cs o' az arr i r kk hb hk ho ha hi hw hK;refine .stop ?_;cases k with
 | zero=> trivial
 | succ k=> exact⟨⟨rfl,rfl⟩,nofun,nofun,nofun,fun _ w hs=> ⟨_,XA.xI (XA.RK rfl) he ho hb hk ha arr i r kk hi hw,hK _ _ ⟨rfl,rfl⟩⟩,nofun,nofun⟩
theorem Jw.op {n:Nat}{b:FB}{cs:List Frame}{R:Rg}{ds:List Deferred}{kk:List Item}{dl:List (Option Tmp)}{l:List Oper}{o:Oper}(hp:t.plain=true)(hmt:t.mute=false)(hra:t.sN=false)(hw:JA dl R o=some true)(hd:zG n o=true)
  (h:∀tmps w s,PA n R tmps->ShAt X w s->t.ok s->t.loc s->s.fits-> 
   ∃t' s' v w',(t',s')∈t.mv s/\Yields P false b tmps ds cs o w v w' #[]/\XE X w w' s'/\t'.deaf=t.deaf/\∀k',k'<k->So (Jw P X κ k' t' D H) n b cs dl (IG o v R) ds l kk):
  So (Jw P X κ k t D H) n b cs dl R ds (o::l) kk:=fun arr ix ha QL=> by
 cases ix with
 | nil=> simp at QL
 | cons i r=>
  simp only[List.map_cons,List.cons.injEq] at QL;intro tmps hr;refine Jw.stop (fun e=> (by subst e;cases hp)) ?_;cases k with
  | zero=> trivial
  | succ k=>
   have DK:=jB ha hr hw;refine⟨⟨rfl,rfl⟩,fun e=> (by subst e;cases hp),fun e=> (by subst e;cases hp),fun e=> (by subst e;cases hp),fun e=> (by subst e;cases hp),fun _ w s cH SJ GB qE qQ=> ?_⟩;obtain⟨t',s',v,w',h1,h2,h3,h4,h5⟩:=h tmps w s hr SJ GB qE qQ;have pU:=(gN hp h1).2.2.trans hmt;have hg:=h5 k (Nat.lt_succ_self _) arr r ha QL.2 _ (hr.IG hd v);exact .inr ⟨t',s',_,w',#[],h1,h2 arr i r kk QL.1 DK,h3,⟨fun j e he=> (by simp at he),(h4▸rfl)⟩,fun e=> (by rw[hra] at e;cases e),rfl,hg.1,hg.2.1,hg.2.2⟩
end
theorem Yields.quiet {P:Program}{main:Bool}{b:FB}{tmps:Array Value}{ds:List Deferred}{cs:List Frame}{o:Oper}{w:World}{v:Value}{u:TypeId}{x:Operand}{ad:Addr}(iA:o.op=.load u x)(hx:uB tmps x=.pointer (some ad))(hu:wH P u=some false)(hc:w.cell? ad=some v)(hq:(P.funcs[b.fn]?).any (·.norace)=true):
  Yields P main b tmps ds cs o w v w #[]:=by
 intro arr i r k hi hw;have hg:stepG P main (G (b.at tmps ds (.inRegion arr (i::r)::k)) cs) w=stepG.apply P true (b.at tmps ds (.inRegion arr (i::r)::k)) cs none (execOp (b.at tmps ds (.inRegion arr (i::r)::k)).eval o) w:=by
  cases MK:b.rd <;> simp[G,stepG,stepG.exec,stepG.oper,Frame.oper?,FB.at,hi,hw,iA,MK]
 rw[FB.eval_at] at hg;rw[hg];have XC:(b.at tmps ds (.inRegion arr (i::r)::k)).finish v=b.at (KB tmps o.dst v) ds (.inRegion arr r::k):=by rw[FB.finish_at,hi];rfl
 have CF:(execOp (uB tmps) o).runT P w #[]=(.ok (.value v) w,#[⟨.cell ad,false,false⟩]):=by
  unfold execOp;rw[iA];simp only[hx];obtain⟨a,rfl,ha⟩:=nP (P:=P) (sh:=NU) (isAgg u) (Q:=fun a=> a=false) (JX hu rfl);show(((isAgg u).bind fun g=> if g=true then(sizeOf u).bind fun n=> (loadCells ad n).bind fun c=> Sem.pure (.agg c) else load ad).bind fun v=> Sem.pure (Next.value v)).runT P w #[]=_;rw[Sem.runT_bind',Sem.runT_bind',ha w #[] (fun r x e=> by cases e)];simp only[Bool.false_eq_true,if_false,load,Sem.runT,hc];rfl
 have hs:seen P (b.at tmps ds (.inRegion arr (i::r)::k)).fn (if(b.at tmps ds (.inRegion arr (i::r)::k)).kind==.early then #[] else #[⟨.cell ad,false,false⟩])=#[]:=by
  have zT:(P.funcs[(b.at tmps ds (.inRegion arr (i::r)::k)).fn]?).any (·.norace)=true:=hq;split
  ·exact seen_none _ _
  ·rw[seen_def,zT];simp[seenStep]
 have key:stepG.apply P true (b.at tmps ds (.inRegion arr (i::r)::k)) cs none (execOp (uB tmps) o) w=GStep.after (seen P (b.at tmps ds (.inRegion arr (i::r)::k)).fn (if(b.at tmps ds (.inRegion arr (i::r)::k)).kind==.early then #[] else #[⟨.cell ad,false,false⟩])) (.go (G ((b.at tmps ds (.inRegion arr (i::r)::k)).finish v) cs) w):=by
  unfold stepG.apply;rw[if_pos rfl,CF];rfl
 rw[key,hs,XC];simp[GStep.after]
theorem wrap_i32 {a:Int}(h1: -2147483648<=a)(h2:a<2147483648):IntKind.i32.wrap a=a:=by
 exact IntWalk.i32_in a ⟨h1,oM⟩
theorem vT {a:Int}:IntKind.u64.wrap a=a%18446744073709551616:=by
 simp[IntKind.wrap,IntKind.signed,IntKind.bits]
section
variable {P:Program}{X:Fk}{κ k:Nat}{D:Nat->Bool}{H:View}{Fin:Goroutine->Prop}{j:Nat}{f:FuncId}{c:Lc}
abbrev aX:Array Value->Sem Value:=fun _=> do mark .disable;pure Extern.Race.none_
abbrev enE:Array Value->Sem Value:=fun _=> do mark .enable;pure Extern.Race.none_
theorem Jw.ld(he:BD P f aX):PD (Jw P X κ k .ld D H) f [] fun v J'=> ∃k' t',k'<k/\(v=.tuple #[]/\t'=Th.l0)/\J'=Jw P X κ k' t' D H:=
 Jw.at (K:=fun v t'=> v=.tuple #[]/\t'=.l0) rfl he fun w s hs _ _ _=> .inr ⟨.l0,s,_,w,_,by simp[Th.mv],XA.vL rfl,.same hs,JG 0,rfl,rfl⟩
theorem Jw.le(he:BD P f enE):PD (Jw P X κ k .le D H) f [] fun v J'=> ∃k' t',k'<k/\(v=.tuple #[]/\t'=Th.la)/\J'=Jw P X κ k' t' D H:=
 Jw.at (K:=fun v t'=> v=.tuple #[]/\t'=.la) rfl he fun w s hs _ _ _=> .inr ⟨.la,s,_,w,_,by simp[Th.mv],XA.vL rfl,.same hs,qK 0,rfl,rfl⟩
theorem Jw.ud(he:BD P f aX):PD (Jw P X κ k .ud D H) f [] fun v J'=> ∃k' t',k'<k/\(v=.tuple #[]/\t'=Th.u0)/\J'=Jw P X κ k' t' D H:=
 Jw.at (K:=fun v t'=> v=.tuple #[]/\t'=.u0) rfl he fun w s hs _ _ _=> .inr ⟨.u0,s,_,w,_,by simp[Th.mv],XA.vL rfl,.same hs,JG 0,rfl,rfl⟩
theorem Jw.ue(he:BD P f enE):PD (Jw P X κ k .ue D H) f [] fun v J'=> ∃k' t',k'<k/\(v=.tuple #[]/\t'=Th.wr)/\J'=Jw P X κ k' t' D H:=
 Jw.at (K:=fun v t'=> v=.tuple #[]/\t'=.wr) rfl he fun w s hs _ _ _=> .inr ⟨.wr,s,_,w,_,by simp[Th.mv],XA.vL rfl,.same hs,qK 0,rfl,rfl⟩
theorem Jw.wk(he:BD P f aX):PD (Jw P X κ k .wk D H) f [] fun v J'=> ∃k' t',k'<k/\(v=.tuple #[]/\t'=Th.wi)/\J'=Jw P X κ k' t' D H:=
 Jw.at (K:=fun v t'=> v=.tuple #[]/\t'=.wi) rfl he fun w s hs _ _ _=> .inr ⟨.wi,s,_,w,_,by simp[Th.mv],XA.vL rfl,.same hs,JG 0,rfl,rfl⟩
theorem Jw.wi(he:BD P f (fun _=> pure (.bool false))):PD (Jw P X κ k .wi D H) f [] fun v J'=> ∃k' t',k'<k/\(v=.bool false/\t'=Th.d1)/\J'=Jw P X κ k' t' D H:=
 Jw.at (K:=fun v t'=> v=.bool false/\t'=.d1) rfl he fun w s hs _ _ _=> .inr ⟨.d1,s,_,w,_,by simp[Th.mv],XA.idle rfl,.same hs,kD 1,rfl,rfl⟩
theorem Jw.ds {e:Array Value->Sem Value}(he:BD P f e){v₀:Value}(hv:e #[]=Sem.pure v₀):PD (Jw P X κ k (.ds c) D H) f [] fun v J'=> ∃k' t',k'<k/\(v=v₀/\t'=Th.r1 c)/\J'=Jw P X κ k' t' D H:=
 Jw.at (K:=fun v t'=> v=v₀/\t'=.r1 c) rfl he fun w s hs _ _ _=> .inr ⟨.r1 c,s,_,w,_,by simp[Th.mv],XA.idle hv,.same hs,kD 1,rfl,rfl⟩
variable(ne:X.Mu≠X.Wg)
include ne
theorem Jw.l0(he:BD P f (Extern.Atomic.casT (.int .i32))):PD (Jw P X κ k .l0 D H) f [.pointer (some (muA X.Mu)),.int .i32 0,.int .i32 1] fun v J'=> ∃k' t',k'<k/\((v=.bool true/\t'=Th.le)\/(v=.bool false/\t'=Th.r0))/\J'=Jw P X κ k' t' D H:=
 Jw.at (K:=fun v t'=> (v=.bool true/\t'=.le)\/(v=.bool false/\t'=.r0)) rfl he fun w s hs _ _ _=> by
  by_cases e:s.m=0
  ·exact .inr ⟨.le,{ s with m:=1 },_,_,_,by simp[Th.mv,e],XA.cas hs.UZ hs.W2 (by simp[e]),.muS hs ne 1,gE (.inl rfl),.inl ⟨rfl,rfl⟩⟩
  ·exact .inr ⟨.r0,s,_,w,_,by simp[Th.mv,e],XA.KY hs.UZ hs.W2 oM,.same hs,lF (.inl rfl) false,.inr ⟨rfl,rfl⟩⟩
theorem Jw.u0(he:BD P f (Extern.Atomic.update (Op.intArith .add) .i32 true)):
  PD (Jw P X κ k .u0 D H) f [.pointer (some (muA X.Mu)),.int .i32 (-1)] fun v J'=> ∃k' t',k'<k/\(∃m:Nat,m<64/\m%2=1/\v=.int .i32 ((m-1:Nat):Int)/\
   t'=(if m=1 then Th.ue else if(m-1)/4%2=1 then .us true else if(m-1)/8=0\/(m-1)%8≠0 then .ue else .uc (m-1)))/\J'=Jw P X κ k' t' D H:=
 Jw.at (K:=fun v t'=> ∃m:Nat,m<64/\m%2=1/\v=.int .i32 ((m-1:Nat):Int)/\t'=(if m=1 then Th.ue else if(m-1)/4%2=1 then .us true else if(m-1)/8=0\/(m-1)%8≠0 then .ue else .uc (m-1))) rfl he fun w s hs GB _ hf=> by
  have hm:s.m%2=1:=GB;have h64:=hf.1;refine .inr ⟨_,{ s with m:=s.m-1 },.int .i32 ((s.m-1:Nat):Int),_,_,by simp[Th.mv],XA.add hs.UZ hs.W2 (r:=((s.m-1:Nat):Int)) ?_,.muS hs ne _,?_,s.m,h64,hm,rfl,rfl⟩
  ·rw[wrap_i32 oM oM];omega
  ·have:∀t:Th,t.deaf=1->pC X Th.u0.deaf t.deaf #[⟨.cell (muA X.Mu),false,true⟩,⟨.cell (muA X.Mu),true,true⟩]:=fun t ht=> by rw[ht];exact gE (.inl rfl)
   apply this
   repeat (first|rfl|split)
theorem Jw.uc {o:Nat}(he:BD P f (Extern.Atomic.casT (.int .i32))):PD (Jw P X κ k (.uc o) D H) f [.pointer (some (muA X.Mu)),.int .i32 (o:Int),.int .i32 ((o-6:Nat):Int)] fun v J'=> ∃k' t',k'<k/\((v=.bool true/\t'=Th.us false)\/(v=.bool false/\t'=Th.ux))/\J'=Jw P X κ k' t' D H:=
 Jw.at (K:=fun v t'=> (v=.bool true/\t'=.us false)\/(v=.bool false/\t'=.ux)) rfl he fun w s hs _ _ _=> by
  by_cases e:s.m=o
  ·exact .inr ⟨.us false,{ s with m:=o-6 },_,_,_,by simp[Th.mv,e],XA.cas hs.UZ hs.W2 (by rw[e]),.muS hs ne _,gE (.inl rfl),.inl ⟨rfl,rfl⟩⟩
  ·exact .inr ⟨.ux,s,_,w,_,by simp[Th.mv,e],XA.KY hs.UZ hs.W2 oM,.same hs,lF (.inl rfl) false,.inr ⟨rfl,rfl⟩⟩
theorem Jw.us {h:Bool}{vs:List Value}(he:BD P f Extern.Sync.semrelease)(hx:vs[0]? =some (.pointer (some (msA X.Mu)))):PD (Jw P X κ k (.us h) D H) f vs fun v J'=> ∃k' t',k'<k/\(v=.tuple #[]/\t'=Th.ue)/\J'=Jw P X κ k' t' D H:=
 Jw.at (K:=fun v t'=> v=.tuple #[]/\t'=.ue) rfl he fun w s hs GB _ _=> by
  have hq:s.Q=0:=GB;exact .inr ⟨.ue,{ s with Q:=s.Q+1 },_,_,_,by simp[Th.mv],XA.aDi hx hs.msC oM hs.msZ,.msS hs ne _,KI (.inl rfl),rfl,rfl⟩
omit ne in
theorem Jw.sq {o:Nat}(he:BD P f Extern.Sync.canSpin):PD (Jw P X κ k (.sq o c) D H) f [.int .i64 (c.it:Int)] fun v J'=> ∃k' t',k'<k/\((v=.bool true/\c.it<4/\t'=(if c.aw=false/\o/2%2=0/\o/8≠0 then Th.c1 o c else .ds c))\/(v=.bool false/\t'=Th.c2 o c))/\J'=Jw P X κ k' t' D H:=
 Jw.at (K:=fun v t'=> (v=.bool true/\c.it<4/\t'=(if c.aw=false/\o/2%2=0/\o/8≠0 then Th.c1 o c else .ds c))\/(v=.bool false/\t'=.c2 o c)) rfl he fun w s hs _ _ _=> by
  by_cases h4:c.it<4
  ·have ht:XE X w w.asked s:=⟨⟨OsLater.refl _,rfl⟩,rfl,fun _ _ _=> rfl,hs.mu,hs.wg⟩
   cases kY:w.spins with
   | true=>
    refine .inr ⟨_,s,.bool true,w.asked,#[],by simp only[Th.mv,if_pos h4];exact List.mem_cons_of_mem _ (List.mem_singleton.2 rfl),kY▸XA.aDj oM,ht,?_,.inl ⟨rfl,h4,rfl⟩⟩;have:∀t:Th,t.deaf=1->pC X (Th.sq o c).deaf t.deaf #[]:=fun t ht=> by rw[ht];exact kD 1
    apply this
    split <;> rfl
   | false=> exact .inr ⟨_,s,.bool false,w.asked,#[],by simp[Th.mv],kY▸XA.aDj oM,ht,kD 1,.inr ⟨rfl,rfl⟩⟩
  ·exact .inr ⟨_,s,.bool false,w,#[],by simp[Th.mv],XA.aDk oM,.same hs,kD 1,.inr ⟨rfl,rfl⟩⟩
theorem Jw.c1 {o:Nat}(he:BD P f (Extern.Atomic.casT (.int .i32))):PD (Jw P X κ k (.c1 o c) D H) f [.pointer (some (muA X.Mu)),.int .i32 (o:Int),.int .i32 ((o+2:Nat):Int)] fun v J'=> ∃k' t',k'<k/\((v=.bool true/\t'=Th.ds { c with aw:=true })\/(v=.bool false/\t'=Th.ds c))/\J'=Jw P X κ k' t' D H:=
 Jw.at (K:=fun v t'=> (v=.bool true/\t'=.ds { c with aw:=true })\/(v=.bool false/\t'=.ds c)) rfl he fun w s hs _ _ _=> by
  by_cases e:s.m=o
  ·exact .inr ⟨_,{ s with m:=o+2 },_,_,_,by simp only[Th.mv,if_pos e];exact List.mem_singleton.2 rfl,XA.cas hs.UZ hs.W2 (by rw[e]),.muS hs ne _,gE (.inl rfl),.inl ⟨rfl,rfl⟩⟩
  ·exact .inr ⟨_,s,_,w,_,by simp only[Th.mv,if_neg e];exact List.mem_singleton.2 rfl,XA.KY hs.UZ hs.W2 oM,.same hs,lF (.inl rfl) false,.inr ⟨rfl,rfl⟩⟩
theorem Jw.c2 {o:Nat}(he:BD P f (Extern.Atomic.casT (.int .i32))):PD (Jw P X κ k (.c2 o c) D H) f [.pointer (some (muA X.Mu)),.int .i32 (o:Int),.int .i32 ((sE o c:Nat):Int)] fun v J'=> ∃k' t',k'<k/\((v=.bool true/\t'=(if o%2=0/\o/4%2=0 then Th.le else if c.ws then .s1 c else .t1 c))\/(v=.bool false/\t'=Th.r3 c))/\J'=Jw P X κ k' t' D H:=
 Jw.at (K:=fun v t'=> (v=.bool true/\t'=(if o%2=0/\o/4%2=0 then Th.le else if c.ws then .s1 c else .t1 c))\/(v=.bool false/\t'=.r3 c)) rfl he fun w s hs _ _ _=> by
  by_cases e:s.m=o
  ·have:∀t:Th,t.deaf=1->pC X (Th.c2 o c).deaf t.deaf #[⟨.cell (muA X.Mu),false,true⟩,⟨.cell (muA X.Mu),true,true⟩]:=fun t ht=> by rw[ht];exact gE (.inl rfl)
   refine .inr ⟨_,{ s with m:=sE o c },_,_,_,?_,XA.cas hs.UZ hs.W2 (by rw[e]),.muS hs ne _,this _ ?_,.inl ⟨rfl,rfl⟩⟩
   ·simp only[Th.mv,if_pos e];split <;> exact List.mem_singleton.2 rfl
   ·repeat (first|rfl|split)
  ·exact .inr ⟨_,s,_,w,_,by simp only[Th.mv,if_neg e];exact List.mem_singleton.2 rfl,XA.KY hs.UZ hs.W2 oM,.same hs,lF (.inl rfl) false,.inr ⟨rfl,rfl⟩⟩
theorem Jw.s1 {vs:List Value}(he:BD P f Extern.Sync.semacquire)(hx:vs[0]? =some (.pointer (some (msA X.Mu)))):PD (Jw P X κ k (.s1 c) D H) f vs fun v J'=> ∃k' t',k'<k/\(v=.tuple #[]/\t'=Th.t2 c)/\J'=Jw P X κ k' t' D H:=
 Jw.at (K:=fun v t'=> v=.tuple #[]/\t'=.t2 c) rfl he fun w s hs _ _ _=> by
  by_cases e:s.Q=0
  ·exact .inl ⟨by simp[Th.mv,e],CL hx (by rw[hs.msC,e];rfl)⟩
  ·exact .inr ⟨_,{ s with Q:=s.Q-1 },_,_,_,by simp[Th.mv,e],XA.aDh hx hs.msC e hs.msZ,.msS hs ne _,KI (.inl rfl),rfl,rfl⟩
theorem Jw.a1 {bb:Bool}(he:BD P f (Extern.Atomic.update (Op.intArith .add) .i32 true)):
  PD (Jw P X κ k (.a1 bb) D H) f [.pointer (some (muA X.Mu)),.int .i32 (if bb=true then -11 else -7)] fun v J'=> ∃k' t',k'<k/\((∃z,v=.int .i32 z)/\t'=Th.le)/\J'=Jw P X κ k' t' D H:=
 Jw.at (K:=fun v t'=> (∃z,v=.int .i32 z)/\t'=.le) rfl he fun w s hs GB _ hf=> by
  have h64:=hf.1;obtain⟨h1,h2,h3,h4,h5⟩:=GB;refine .inr ⟨.le,{ s with m:=s.m-7-(if bb then 4 else 0) },_,_,_,by simp[Th.mv],XA.add hs.UZ hs.W2 (r:=((s.m-7-(if bb then 4 else 0):Nat):Int)) ?_,.muS hs ne _,gE (.inl rfl),⟨_,rfl⟩,rfl⟩;cases bb with
  | true=>
   simp only[if_pos];rw[wrap_i32 oM oM];omega
  | false=>
   have:=h5 rfl;simp only[Bool.false_eq_true,if_false];rw[wrap_i32 oM oM];omega
theorem Jw.d1(he:BD P f (Extern.Atomic.update (Op.intArith .add) .u64 true)):
  PD (Jw P X κ k .d1 D H) f [.pointer (some (stA X.Wg)),.int .u64 18446744069414584320] fun v J'=> ∃k' t',k'<k/\(∃a b:Nat,a<6/\b<=1/\v=.int .u64 ((a*4294967296+b:Nat):Int)/\t'=(if a=0/\b=1 then Th.d2 else .quit))/\J'=Jw P X κ k' t' D H:=
 Jw.at (K:=fun v t'=> ∃a b:Nat,a<6/\b<=1/\v=.int .u64 ((a*4294967296+b:Nat):Int)/\t'=(if a=0/\b=1 then Th.d2 else .quit)) rfl he fun w s hs GB _ hf=> by
  have hc:0<s.c:=GB;obtain⟨f1,f2,f3,f4,f5⟩:=hf;refine .inr ⟨if s.c-1=0/\s.w=1 then Th.d2 else .quit,{ s with c:=s.c-1 },.int .u64 (((s.c-1)*4294967296+s.w:Nat):Int),_,_,?_,XA.add hs.Z8 hs.wgZ (r:=(((s.c-1)*4294967296+s.w:Nat):Int)) ?_,.wgS hs ne _ _,?_,s.c-1,s.w,oM,f4,rfl,rfl⟩
  ·have e:(s.c-1=0/\s.w=1)<->(s.c=1/\s.w=1):=by omega
   simp only[Th.mv,e,List.mem_singleton]
  ·rw[vT];omega
  ·have:∀t:Th,t.deaf=1->pC X Th.d1.deaf t.deaf #[⟨.cell (stA X.Wg),false,true⟩,⟨.cell (stA X.Wg),true,true⟩]:=fun t ht=> by rw[ht];exact gE (.inr rfl)
   apply this
   split <;> rfl
omit ne in
theorem Jw.d2(he:BD P f (Extern.Atomic.loadT (.int .u64))):PD (Jw P X κ k .d2 D H) f [.pointer (some (stA X.Wg))] fun v J'=> ∃k' t',k'<k/\(v=.int .u64 1/\t'=Th.d3)/\J'=Jw P X κ k' t' D H:=
 Jw.at (K:=fun v t'=> v=.int .u64 1/\t'=.d3) rfl he fun w s hs GB _ _=> by
  obtain⟨h1,h2⟩:s.c=0/\s.w=1:=GB;refine .inr ⟨.d3,s,_,w,_,by simp[Th.mv],XA.load hs.Z8,.same hs,lF (.inr rfl) false,?_,rfl⟩;simp[h1,h2]
theorem Jw.d3(he:BD P f Extern.Atomic.storeT):PD (Jw P X κ k .d3 D H) f [.pointer (some (stA X.Wg)),.int .u64 0] fun v J'=> ∃k' t',k'<k/\(v=.tuple #[]/\t'=Th.d4)/\J'=Jw P X κ k' t' D H:=
 Jw.at (K:=fun v t'=> v=.tuple #[]/\t'=.d4) rfl he fun w s hs GB _ _=> by
  obtain⟨h1,h2⟩:s.c=0/\s.w=1:=GB;have ht:=XE.wgS hs ne 0 0;rw[show({ s with c:=0,w:=0 }:Sh)= { s with w:=0 } by cases s;simp at h1;simp[h1]] at ht;exact .inr ⟨.d4,{ s with w:=0 },_,_,_,by simp[Th.mv],XA.aBv (v:=0) hs.Z8 hs.wgZ,ht,lF (.inr rfl) true,rfl,rfl⟩
theorem Jw.d4 {vs:List Value}(he:BD P f Extern.Sync.semrelease)(hx:vs[0]? =some (.pointer (some (smA X.Wg)))):PD (Jw P X κ k .d4 D H) f vs fun v J'=> ∃k' t',k'<k/\(v=.tuple #[]/\t'=Th.quit)/\J'=Jw P X κ k' t' D H:=
 Jw.at (K:=fun v t'=> v=.tuple #[]/\t'=.quit) rfl he fun w s hs GB _ _=> by
  have hq:s.q=0:=GB;exact .inr ⟨.quit,{ s with q:=s.q+1 },_,_,_,by simp[Th.mv],XA.aDi hx hs.smC oM hs.smZ,.smS hs ne _,KI (.inr rfl),rfl,rfl⟩
omit ne in
theorem Jm.kd(he:BD P f aX):PD (Jm P X Fin k .kd j H) f [] fun v J'=> ∃k' m',k'<k/\(v=.tuple #[]/\m'=Mn.ki)/\J'=Jm P X Fin k' m' j H:=
 Jm.at (K:=fun v m'=> v=.tuple #[]/\m'=.ki) rfl he fun w s hs _ _=> .inr ⟨.ki,s,_,w,_,by simp[Mn.mv],XA.vL rfl,.same hs,JG 0,rfl,rfl⟩
omit ne in
theorem Jm.ki(he:BD P f (fun _=> pure (.bool false))):PD (Jm P X Fin k .ki j H) f [] fun v J'=> ∃k' m',k'<k/\(v=.bool false/\m'=Mn.ka)/\J'=Jm P X Fin k' m' j H:=
 Jm.at (K:=fun v m'=> v=.bool false/\m'=.ka) rfl he fun w s hs _ _=> .inr ⟨.ka,s,_,w,_,by simp[Mn.mv],XA.idle rfl,.same hs,kD 1,rfl,rfl⟩
theorem Jm.ka(he:BD P f (Extern.Atomic.update (Op.intArith .add) .u64 true)):
  PD (Jm P X Fin k .ka j H) f [.pointer (some (stA X.Wg)),.int .u64 4294967296] fun v J'=> ∃k' m',k'<k/\(∃a:Nat,a<=6/\v=.int .u64 (((a+1)*4294967296:Nat):Int)/\m'=(if a=0 then Mn.kr else .ke))/\J'=Jm P X Fin k' m' j H:=
 Jm.at (K:=fun v m'=> ∃a:Nat,a<=6/\v=.int .u64 (((a+1)*4294967296:Nat):Int)/\m'=(if a=0 then Mn.kr else .ke)) rfl he fun w s hs GB hf=> by
  have hw:s.w=0:=GB;obtain⟨f1,f2,f3,f4,f5⟩:=hf;refine .inr ⟨if s.c=0 then Mn.kr else .ke,{ s with c:=s.c+1 },.int .u64 (((s.c+1)*4294967296:Nat):Int),_,_,by simp[Mn.mv],XA.add hs.Z8 hs.wgZ (r:=(((s.c+1)*4294967296:Nat):Int)) ?_,?_,?_,s.c,f3,rfl,rfl⟩
  ·rw[vT];omega
  ·have ht:=XE.wgS hs ne (s.c+1) 0;rw[show({ s with c:=s.c+1,w:=0 }:Sh)= { s with c:=s.c+1 } by cases s;simp at hw;simp[hw],Nat.add_zero] at ht;exact ht
  ·have:∀m:Mn,m.deaf=1->pC X Mn.ka.deaf m.deaf #[⟨.cell (stA X.Wg),false,true⟩,⟨.cell (stA X.Wg),true,true⟩]:=fun t ht=> by rw[ht];exact gE (.inr rfl)
   apply this
   split <;> rfl
omit ne in
theorem Jm.wd(he:BD P f aX):PD (Jm P X Fin k .wd j H) f [] fun v J'=> ∃k' m',k'<k/\(v=.tuple #[]/\m'=Mn.w1)/\J'=Jm P X Fin k' m' j H:=
 Jm.at (K:=fun v m'=> v=.tuple #[]/\m'=.w1) rfl he fun w s hs _ _=> .inr ⟨.w1,s,_,w,_,by simp[Mn.mv],XA.vL rfl,.same hs,JG 0,rfl,rfl⟩
omit ne in
theorem Jm.we(he:BD P f enE):PD (Jm P X Fin k .we j H) f [] fun v J'=> ∃k' m',k'<k/\(v=.tuple #[]/\m'=Mn.aq)/\J'=Jm P X Fin k' m' j H:=
 Jm.at (K:=fun v m'=> v=.tuple #[]/\m'=.aq) rfl he fun w s hs _ _=> .inr ⟨.aq,s,_,w,_,by simp[Mn.mv],XA.vL rfl,.same hs,qK 0,rfl,rfl⟩
omit ne in
theorem Jm.w1(he:BD P f (Extern.Atomic.loadT (.int .u64))):PD (Jm P X Fin k .w1 j H) f [.pointer (some (stA X.Wg))] fun v J'=> ∃k' m',k'<k/\(∃a:Nat,a<=6/\v=.int .u64 ((a*4294967296:Nat):Int)/\m'=(if a=0 then Mn.we else .w2 a))/\J'=Jm P X Fin k' m' j H:=
 Jm.at (K:=fun v m'=> ∃a:Nat,a<=6/\v=.int .u64 ((a*4294967296:Nat):Int)/\m'=(if a=0 then Mn.we else .w2 a)) rfl he fun w s hs GB hf=> by
  have hw:s.w=0:=GB;refine .inr ⟨if s.c=0 then Mn.we else .w2 s.c,s,_,w,_,by simp[Mn.mv],XA.load hs.Z8,.same hs,?_,s.c,hf.2.2.1,by simp[hw],rfl⟩;have:∀m:Mn,m.deaf=1->pC X Mn.w1.deaf m.deaf #[⟨.cell (stA X.Wg),false,true⟩]:=fun t ht=> by rw[ht];exact lF (.inr rfl) false
  apply this
  split <;> rfl
theorem Jm.w2 {o:Nat}(he:BD P f (Extern.Atomic.casT (.int .u64))):PD (Jm P X Fin k (.w2 o) j H) f [.pointer (some (stA X.Wg)),.int .u64 ((o*4294967296:Nat):Int),.int .u64 ((o*4294967296+1:Nat):Int)] fun v J'=> ∃k' m',k'<k/\((v=.bool true/\m'=Mn.wm)\/(v=.bool false/\m'=Mn.w1))/\J'=Jm P X Fin k' m' j H:=
 Jm.at (K:=fun v m'=> (v=.bool true/\m'=.wm)\/(v=.bool false/\m'=.w1)) rfl he fun w s hs GB _=> by
  obtain⟨hw,_,_⟩:s.w=0/\0<o/\o<=6:=GB;by_cases e:s.c=o
  ·have ht:=XE.wgS hs ne o 1;rw[show({ s with c:=o,w:=1 }:Sh)= { s with w:=1 } by cases s;simp at e;simp[e]] at ht;exact .inr ⟨.wm,{ s with w:=1 },_,_,_,by simp[Mn.mv,e],XA.cas hs.Z8 hs.wgZ (by simp[hw,e]),ht,gE (.inr rfl),.inl ⟨rfl,rfl⟩⟩
  ·exact .inr ⟨.w1,s,_,w,_,by simp[Mn.mv,e],XA.KY hs.Z8 hs.wgZ oM,.same hs,lF (.inr rfl) false,.inr ⟨rfl,rfl⟩⟩
theorem Jm.ws {vs:List Value}(he:BD P f Extern.Sync.semacquire)(hx:vs[0]? =some (.pointer (some (smA X.Wg)))):PD (Jm P X Fin k .ws j H) f vs fun v J'=> ∃k' m',k'<k/\(v=.tuple #[]/\m'=Mn.w4)/\J'=Jm P X Fin k' m' j H:=
 Jm.at (K:=fun v m'=> v=.tuple #[]/\m'=.w4) rfl he fun w s hs _ _=> by
  by_cases e:s.q=0
  ·exact .inl ⟨by simp[Mn.mv,e],CL hx (by rw[hs.smC,e];rfl)⟩
  ·exact .inr ⟨.w4,{ s with q:=s.q-1 },_,_,_,by simp[Mn.mv,e],XA.aDh hx hs.smC e hs.smZ,.smS hs ne _,KI (.inr rfl),rfl,rfl⟩
omit ne in
theorem Jm.w4(he:BD P f (Extern.Atomic.loadT (.int .u64))):PD (Jm P X Fin k .w4 j H) f [.pointer (some (stA X.Wg))] fun v J'=> ∃k' m',k'<k/\(v=.int .u64 0/\m'=Mn.we)/\J'=Jm P X Fin k' m' j H:=
 Jm.at (K:=fun v m'=> v=.int .u64 0/\m'=.we) rfl he fun w s hs GB _=> by
  obtain⟨h1,h2⟩:s.c=0/\s.w=0:=GB;refine .inr ⟨.we,s,_,w,_,by simp[Mn.mv],XA.load hs.Z8,.same hs,lF (.inr rfl) false,?_,rfl⟩;simp[h1,h2]
end
section
variable {P:Program}{X:Fk}{κ k:Nat}{D:Nat->Bool}{H:View}{Fin:Goroutine->Prop}{j:Nat}{f:FuncId}{c:Lc}
structure F3(P:Program)(f:FuncId):Prop where
 ex:∃fn,P.funcs[f]? =some fn/\(fn.name== "runtime.NumGoroutine")=false/\fn.body.isNone=true/\Extern.findNext fn=none/\Extern.find fn=some Extern.OsHooks.nano/\fn.norace=true
theorem Yields.nano {main:Bool}{b:FB}{tmps:Array Value}{ds:List Deferred}{cs:List Frame}{o:Oper}{az:List Operand}{w:World}(hn:F3 P f)(hb:b.rd=none)(hk:b.kind≠ .early)(ho:gG o f az):
  Yields P main b tmps ds cs o w (.int .i64 ((w.os.mono+w.tick:Nat):Int)) w.later #[]:=by
 obtain⟨fn,h1,h2,h3,h4,h5,h6⟩:=hn;obtain⟨ats,iA⟩:=ho;intro arr i r kk hi hw;rw[FB.kit hb,stepG_nanotime (a:=⟨tmps,ds⟩) hi hw (by simpa [kf] using hk) iA h1 h2 h3 h4 h5 h6,iM hb]
theorem XE.later {w:World}{s:Sh}(hs:ShAt X w s):XE X w w.later s:=⟨⟨⟨w.tick,rfl⟩,rfl⟩,rfl,fun _ _ _=> rfl,hs.mu,hs.wg⟩
theorem Jw.t1(hn:F3 P f):PD (Jw P X κ k (.t1 c) D H) f [] fun v J'=> ∃(k':Nat) (z:Int),k'<k/\v=.int .i64 z/\J'=Jw P X κ k' (.s1 { c with ws:=decide (z≠0) }) D H:=by
 intro b tmps ds cs o az arr i r kk hb hk ho ha hi hw hK;refine Jw.stop (by simp) ?_;cases k with
 | zero=> trivial
 | succ k=>
  refine⟨⟨rfl,rfl⟩,nofun,nofun,nofun,nofun,fun _ w s cH SJ _ _ _=> ?_⟩;have hg:=hK _ _ ⟨k,((w.os.mono+w.tick:Nat):Int),Nat.lt_succ_self _,rfl,rfl⟩;refine .inr ⟨_,s,_,w.later,#[],?_,Yields.nano hn hb hk ho arr i r kk hi hw,.later SJ,kD 1,nofun,rfl,hg.1,hg.2.1,hg.2.2⟩;by_cases e:((w.os.mono+w.tick:Nat):Int)≠0
  ·rw[show decide (((w.os.mono+w.tick:Nat):Int)≠0)=true from decide_eq_true e];simp[Th.mv]
  ·rw[show decide (((w.os.mono+w.tick:Nat):Int)≠0)=false from decide_eq_false e];simp[Th.mv]
theorem Jw.t2(hn:F3 P f)(ch:Int->Bool)(H8:∀z,ch z=true\/ch z=c.sv):PD (Jw P X κ k (.t2 c) D H) f [] fun v J'=> ∃(k':Nat) (z:Int),k'<k/\v=.int .i64 z/\J'=Jw P X κ k' (.r2 { c with sv:=ch z }) D H:=by
 intro b tmps ds cs o az arr i r kk hb hk ho ha hi hw hK;refine Jw.stop (by simp) ?_;cases k with
 | zero=> trivial
 | succ k=>
  refine⟨⟨rfl,rfl⟩,nofun,nofun,nofun,nofun,fun _ w s cH SJ _ _ _=> ?_⟩;have hg:=hK _ _ ⟨k,((w.os.mono+w.tick:Nat):Int),Nat.lt_succ_self _,rfl,rfl⟩;refine .inr ⟨_,s,_,w.later,#[],?_,Yields.nano hn hb hk ho arr i r kk hi hw,.later SJ,kD 1,nofun,rfl,hg.1,hg.2.1,hg.2.2⟩;rcases H8 ((w.os.mono+w.tick:Nat):Int) with e|e <;> rw[e] <;> simp[Th.mv]
section
variable {t:Th}{n:Nat}{b:FB}{cs:List Frame}{R:Rg}{ds:List Deferred}{kk:List Item}{dl:List (Option Tmp)}{l:List Oper}{o:Oper}
theorem Jw.t2' {v:Value}(hw:JA dl R o=some true)(hd:zG n o=true)(UI:AA o.op=false)(hp:oC P NU n R o v)(h:∀k',k'<k->So (Jw P X κ k' (.r2 c) D H) n b cs dl (IG o v R) ds l kk):So (Jw P X κ k (.t2 c) D H) n b cs dl R ds (o::l) kk:=
 Jw.op rfl rfl rfl hw hd fun tmps w s hr hs _ _ _=> ⟨.r2 c,s,v,w,by simp[Th.mv],.look (.inr UI) (hp tmps hr) (fun r x e=> by cases e),.same hs,rfl,h⟩
theorem Jw.ldM {u:TypeId}{x:Operand}(hp:t.plain=true)(hmt:t.mute=false)(hra:t.sN=false)(hw:JA dl R o=some true)(hd:zG n o=true)(iA:o.op=.load u x)(hx:GA R x=some (.pointer (some (muA X.Mu))))(hu:wH P u=some false)(hq:(P.funcs[b.fn]?).any (·.norace)=true)
  (h:∀s,t.ok s->t.loc s->s.fits->∃t',(t',s)∈t.mv s/\t'.deaf=t.deaf/\∀k',k'<k->So (Jw P X κ k' t' D H) n b cs dl (IG o (.int .i32 (s.m:Int)) R) ds l kk):So (Jw P X κ k t D H) n b cs dl R ds (o::l) kk:=
 Jw.op hp hmt hra hw hd fun tmps w s hr hs GB qE hf=> by
  obtain⟨t',h1,h2,h3⟩:=h s GB qE hf;exact⟨t',s,_,w,h1,Yields.quiet iA (hr.ev hx) hu hs.UZ hq,.same hs,h2,h3⟩
end
section
variable {main:Bool}{sh:Z3}{J:Goroutine->Prop}{n:Nat}{b:FB}{cs:List Frame}{R:Rg}{ds:List Deferred}{kk:List Item}{dl:List (Option Tmp)}{l:List Oper}{o:Oper}
theorem FB.GZ(h:b.rd=none){tmps:Array Value}(todo:List Item):b.back tmps ds todo= { (kf b).at ⟨tmps,ds⟩ todo with mode:=.returning }:=by
 simp[FB.back,Frame.at,kf,h]
structure K3(o:Oper)(f:FuncId)(az:List Operand):Prop where
 ex:∃ats,o.op=.defer { callee:=.value (.func f),args:=az.toArray,argTypes:=ats }
theorem So.defer(hc:Cl P main sh J){az:List Operand}{vs:List Value}(hb:b.rd=none)(hk:b.kind≠ .early)(hw:JA dl R o=some true)(hd:zG n o=true)(ho:K3 o f az)(ha:aE R az=some vs)
  (h:So J n b cs dl (IG o undef R) (dcall f vs.toArray::ds) l kk):So J n b cs dl R ds (o::l) kk:=fun arr ix AF hx=> by
 cases ix with
 | nil=> simp at hx
 | cons i r=>
  simp only[List.map_cons,List.cons.injEq] at hx;intro tmps hr;obtain⟨ats,iA⟩:=ho;refine hc.go (g':=G (b.at (KB tmps o.dst undef) (dcall f vs.toArray::ds) (.inRegion arr r::kk)) cs) rfl (fun w=> ?_) (h arr r AF hx.2 _ (hr.IG hd undef));have hm:(az.toArray).map (Go.Act.eval ⟨tmps,ds⟩)=vs.toArray:=by
   rw[List.map_toArray,<-hr.evs ha]
   congr 1
  rw[FB.kit hb,stepG_defer (a:=⟨tmps,ds⟩) hx.1 (jB AF hr hw) (by simpa [kf] using hk) iA,hm,iM hb]
theorem Sb.TY(hc:Cl P main sh J){fn:Func}{body:Code}{m:Nat}{vs:List Value}(hb:b.rd=none)(hf:P.funcs[f]? =some fn)(rZ:(fn.name== "runtime.NumGoroutine")=false)(QN:fn.body=some body)(hn:fn.ntmps=m)(hv:vs.length<=m)
  (h:∀c,c.mode=.returning->(∀J',Sb J' n b cs R ds->J' (G c cs))->Sc J m ⟨f,.deferred,none⟩ (c::cs) (lJ vs) [] [.code body]):Sb J n b cs R (dcall f vs.toArray::ds):=fun tmps todo hr=> by
 have:=h (b.back tmps ds todo) rfl (fun J' hJ=> hJ tmps todo hr) (vs.toArray++Array.replicate (m-vs.length) undef) ⟨by simp;omega,fun d v hd=> ?_⟩
 ·refine hc.go rfl (fun w=> ?_) this;rw[FB.GZ hb,stepG_unwind_enter (f:=f) (args:=vs.toArray) (ds:=ds) rfl hf rZ QN,FB.GZ hb];have e:(baseD f).at { tmps:=vs.toArray++Array.replicate (fn.ntmps-vs.toArray.size) undef,defers:= [] } [.code body]=(⟨f,.deferred,none⟩:FB).at (vs.toArray++Array.replicate (m-vs.length) undef) [] [.code body]:=by
   simp[FB.at,Frame.at,baseD,hn]
  rw[e]
 ·obtain⟨_,h2⟩:=iF vs 0 d v hd;simp only[Nat.sub_zero] at h2;have mB:=(List.getElem?_eq_some_iff.1 h2).1;rw[Array.getElem?_append_left (by simpa using mB)];simpa using h2
theorem Jm.ke(he:BD P f enE)(hb:b.rd=none)(h:∀k',k'<k->Sb (Jm P X Fin k' .go j H) n b cs R ds):Sb (Jm P X Fin k .ke j H) n b cs R (dcall f #[]::ds):=fun tmps todo hr=> by
 refine .stop ?_;cases k with
 | zero=> trivial
 | succ k=>
  refine⟨⟨rfl,rfl⟩,nofun,nofun,nofun,nofun,nofun,fun _ w s cH hs _ _=> .inr ⟨.go,s,_,w,#[Go.ConcR.mk .enable],by simp[Mn.mv],?_,.same hs,qK 0,h k (Nat.lt_succ_self _) tmps todo hr⟩⟩;obtain⟨fn,h1,h2,h3,h4,h5⟩:=he;rw[FB.GZ hb,stepG_unwind_entry (f:=f) (args:=#[]) (ds:=ds) (v:=.tuple #[]) (w':=w) (evs:=#[Go.ConcR.mk .enable]) rfl h1 h2 h3 h4 h5 (by simp[Extern.Race.none_]) (by simp[Go.ConcR.mk]) (by
   intro x hx;simp at hx
   subst hx;exact⟨rfl,fun g e=> by cases e⟩),FB.GZ hb]
def Jq(P:Program)(d:Nat):Goroutine->Prop:=fun g=> ∃q,QuitsD P q d g
theorem Jq.cl {d:Nat}:Cl P false NU (Jq P d):=⟨fun g g' hs h ⟨q,hq⟩=> ⟨q+1,.ctl hs (fun w=> h w fun r x e=> by cases e) hq⟩⟩
theorem Jq.jw {g:Goroutine}(h:Jq P 1 g):Jw P X κ k .quit D H g:=⟨fun _=> h,fun e=> (e rfl).elim,nofun⟩
theorem Jq.en(he:BD P f enE)(hb:b.rd=none)(h:Sb (Jq P 0) n b cs R ds):Sb (Jq P 1) n b cs R (dcall f #[]::ds):=fun tmps todo hr=> by
 obtain⟨q,hq⟩:=h tmps todo hr;obtain⟨fn,h1,h2,h3,h4,h5⟩:=he;rw[FB.GZ hb] at hq ⊢;exact⟨q+1,.unwind_mark .enable rfl (fun g e=> by cases e) rfl h1 h2 h3 h4 h5 hq⟩
def NT(P:Program):Frame:= { (default:Frame) with fn:=P.funcs.size,defers:= [],mode:=.panicking [goexitEntry] }
theorem Jq.bot:Jq P 0 (G (NT P) []):=⟨1,.ctl (g':= { G (NT P) [] with status:=.finished }) rfl (fun w=> by
 simp[G,stepG,unwind,NT,goexitEntry,Frame.catches]
 rfl) ⟨rfl,rfl⟩⟩
theorem Cl.born(hc:Cl P main sh J){fn:Func}{body:Code}{m:Nat}{vs:List Value}{args caps:Array Value}(hf:P.funcs[f]? =some fn)(rZ:(fn.name== "runtime.NumGoroutine")=false)(QN:fn.body=some body)(hn:fn.ntmps=m)(hv:vs.length<=m)(hvs:args++caps=vs.toArray)
  (h:Sc J m ⟨f,.deferred,none⟩ [NT P] (lJ vs) [] [.code body]):J (Go.Conc.born P { target:=.fn (.func f) caps,args:=args }):=by
 have:=h (vs.toArray++Array.replicate (m-vs.length) undef) ⟨by simp;omega,fun d v hd=> ?_⟩
 ·refine hc.go rfl (fun w=> ?_) this;have e:(⟨f,.deferred,none⟩:FB).at (vs.toArray++Array.replicate (m-vs.length) undef) [] [.code body]=Frame.enter P f vs.toArray .deferred:=by
   simp[Frame.enter,FB.at,hf,QN,hn]
  rw[e];have h1:¬fn.name= "runtime.NumGoroutine":=by simpa using rZ
  simp[Go.Conc.born,G,stepG,unwind,callDeferred,invoke,callFunc,hf,h1,QN,hvs,GStep.after,seen_none,NT]
 ·obtain⟨_,h2⟩:=iF vs 0 d v hd;simp only[Nat.sub_zero] at h2;have mB:=(List.getElem?_eq_some_iff.1 h2).1;rw[Array.getElem?_append_left (by simpa using mB)];simpa using h2
theorem Jm.go {fn first caps:Array Value}{cl:Go.Call}{x:Operand}(hb:b.rd=none)(hk:b.kind≠ .early)(hw:JA dl R o=some true)(hd:zG n o=true)(iA:o.op=.go cl)(PB:cl.callee=.value x)(hx:GA R x=some (.func (.func f) first caps))(gU:fn=first ++ #[])(has:cl.args=#[])
  (h1:∀k',k'<k->So (Jm P X Fin k' (if j+1<X.n then .kd else .wd) (j+1) (ro H)) n b cs dl (IG o undef R) ds l kk)
  (h2:∀k',k'<k->Jw P X j k' .ld (fun _=> false) (ro H) (Go.Conc.born P { target:=.fn (.func f) caps,args:=fn })):So (Jm P X Fin k .go j H) n b cs dl R ds (o::l) kk:=fun arr ix AF QL=> by
 cases ix with
 | nil=> simp at QL
 | cons i r=>
  simp only[List.map_cons,List.cons.injEq] at QL;intro tmps hr;refine .stop ?_;cases k with
  | zero=> trivial
  | succ k=>
   refine⟨⟨rfl,rfl⟩,fun _ w hs=> ⟨G (b.at (KB tmps o.dst undef) ds (.inRegion arr r::kk)) cs,Go.Conc.born P { target:=.fn (.func f) caps,args:=fn },?_,h1 k (Nat.lt_succ_self _) arr r AF QL.2 _ (hr.IG hd undef),(h2 k (Nat.lt_succ_self _)).2.2 rfl⟩,nofun,nofun,nofun,nofun,nofun⟩;have e1:=hr.ev hx;have e2:Go.Act.eval ⟨tmps,ds⟩ x=.func (.func f) first caps:=e1;have CF:(execOp (Go.Act.eval ⟨tmps,ds⟩) o).run P w=.ok (.spawn { target:=.fn (.func f) caps,args:=fn }) w:=by
    unfold execOp;subst gU;simp[iA,resolve,PB,e2,has,Deferred.ofValue]
   have fU:(execOp (Go.Act.eval ⟨tmps,ds⟩) o).events P w #[]=#[]:=by
    unfold execOp;simp[iA,resolve,PB,e2,has,Deferred.ofValue]
   rw[FB.kit hb,stepG_spawn (a:=⟨tmps,ds⟩) QL.1 (jB AF hr hw) (by simpa [kf] using hk) CF rfl,iM hb];unfold listed;rw[fU,seen_none]
end
theorem Sc.drop {J:Goroutine->Prop}{n:Nat}{b:FB}{cs:List Frame}{R R':Rg}{ds:List Deferred}{kk:List Item}(hR:WB R' R)(h:Sc J n b cs R' ds kk):Sc J n b cs R ds kk:=fun tmps hr=> h tmps ⟨hr.1,fun d v hv=> hr.2 d v (hR.sub d v hv)⟩
def cL:Code->Code
 | .seq x _=> x
 | c=> c
def cR:Code->Code
 | .seq _ y=> y
 | c=> c
def cB:Code->Code
 | .block _ c=> c
 | .loop c=> c
 | c=> c
def cT:Code->Code
 | .cond _ x _=> x
 | c=> c
def VG(fn:Func):Code:=fn.body.getD .skip
section
variable {main:Bool}{M:Md P}{St:View->Goroutine->Prop}{J J':Goroutine->Prop}{n:Nat}{b:FB}{H₀:View}{L:Bl}{cs:List Frame}{R:Rg}{ds:List Deferred}{kk:List Item}{dl:List (Option Tmp)}{l:List Oper}
theorem Tc.M6(h:∀H,eA H₀ L H->Sc (T M St H) n b cs R ds kk):Tc M St n b H₀ cs R L ds kk:=fun H tmps hs hr=> h H hs tmps hr
theorem So.aEz(hs:eA H₀ L H)(h:To M St n b H₀ cs dl R L ds l kk):So (T M St H) n b cs dl R ds l kk:=fun arr ix ha hx tmps hr=> h arr ix ha hx H tmps hs hr
theorem Sc.aAA(hs:eA H₀ L H)(h:Tc M St n b H₀ cs R L ds kk):Sc (T M St H) n b cs R ds kk:=fun tmps hr=> h H tmps hs hr
theorem So.mono(h:So J n b cs dl R ds l kk)(hj:∀g,J g->J' g):So J' n b cs dl R ds l kk:=fun arr ix ha hx tmps hr=> hj _ (h arr ix ha hx tmps hr)
theorem Jw.ofT {t:Th}(hm:t.mute=false){g:Goroutine}(h:T (Mw P false X.ok) (WS P X κ k t D) H g):Jw P X κ k t D H g:=⟨fun e=> (by subst e;cases hm),fun _ e=> (by rw[hm] at e;cases e),fun _=> h⟩
theorem Jw.toT {t:Th}(hm:t.mute=false){g:Goroutine}(h:Jw P X κ k t D H g):T (Mw P false X.ok) (WS P X κ k t D) H g:=h.2.2 hm
end
end
end Go.RL
namespace Go.RL
open Go.Conc
section
variable {P:Program}{M:Md P}{n:Nat}{H₀:View}{R:Rg}{L:Bl}{K:Rg->Bl->Prop}{o:Oper}{d:Nat}
theorem eA.more {H H':View}{B:Bl}(h:eA H₀ L H)(hle:H.le H')(hn:(B.map (·.1)).Nodup)(hb:∀y∈B,H' y.1=some y.2/\H y.1=none):eA H₀ (L++B) H':=by
 have hs:=h.mono hle;refine⟨?_,fun x hx=> ?_,fun x hx=> ?_,hs.base⟩
 ·rw[List.map_append,List.nodup_append];refine⟨hs.nodup,hn,fun a ha c hc e=> ?_⟩;obtain⟨x,hx,rfl⟩:=List.mem_map.1 ha;obtain⟨y,hy,rfl⟩:=List.mem_map.1 hc;have h1:=h.at_ x hx;rw[e,(hb y hy).2] at h1;cases h1
 ·rcases List.mem_append.1 hx with hx|hx
  ·exact hs.out x hx
  ·cases h0:H₀ x.1 with
   | none=> rfl
   | some z=>
    have h1:=h.base _ _ h0;rw[(hb x hx).2] at h1;cases h1
 ·rcases List.mem_append.1 hx with hx|hx
  ·exact hs.at_ x hx
  ·exact(hb x hx).1
theorem Or.uA {σ:Type}{cl:Go.Call}{x:Operand}{fv:Value}{az:List Value}(val:σ->Value)(bl:σ->Bl)(p:σ->Prop)(iA:o.op=.call cl)(PB:cl.callee=.value x)(hx:GA R x=some fv)(has:aE R cl.args.toList=some az)(hd:o.dst=some d)(hn:d<n)
  (nC:∀s,((bl s).map (·.1)).Nodup) (hc:∀H,eA H₀ L H->UC M fv az H fun v H'=> H.le H'/\∃s,v=val s/\p s/\∀y∈bl s,H' y.1=some y.2/\H y.1=none)
  (hk:∀s,p s->K ((d,val s)::R) (L++bl s)):Or M n H₀ R L o K:=
 .e8 iA PB hx has (Q:=fun H v H'=> H.le H'/\∃s,v=val s/\p s/\∀y∈bl s,H' y.1=some y.2/\H y.1=none) hc fun H v H' hs ⟨hle,s,hv,hp,hb⟩=> by
  subst hv;exact⟨L++bl s,(d,val s)::R,hs.more hle (nC s) hb,by rw[hd];exact⟨hn,rfl⟩,hk s hp⟩
end
section
variable {P:Program}{M:Md P}{St:View->Goroutine->Prop}{n:Nat}{b:FB}{H₀ H₁:View}{cs:List Frame}{R:Rg}{L:Bl}{ds:List Deferred}{k:List Item}{dl:List (Option Tmp)}{l:List Oper}
theorem eA.push {H:View}(h:eA H₀ L H){i blk:Nat}{x:Bool×Obj}(hi:L[i]? =some (blk,x)):eA (H₀.put blk x) (L.eraseIdx i) H:=by
 have cE:(L.eraseIdx i).Sublist L:=List.eraseIdx_sublist _ _;refine⟨h.nodup.sublist (cE.map _),fun y hy=> ?_,fun y hy=> h.at_ y (cE.subset hy),fun c y hc=> ?_⟩
 ·rw[View.kA]
  ·exact h.out y (cE.subset hy)
  ·intro e;obtain⟨j,hj,hjy⟩:=List.mem_eraseIdx_iff_getElem?.1 hy;exact hj (eH h.nodup (b:=blk) (x:=y.2) (y:=x) (by rw[<-e];exact hjy) hi)
 ·by_cases e:c=blk
  ·subst e;rw[View.qA] at hc;cases hc
   exact h.get hi
  ·rw[View.kA _ _ e] at hc;exact h.base c y hc
theorem eA.pop {H:View}{blk:Nat}{x:Bool×Obj}(hb:H₁ blk=none)(h:eA (H₁.put blk x) L H):eA H₁ ((blk,x)::L) H:=by
 have gB:∀y∈L,y.1≠blk:=fun y hy e=> by
  have:=h.out y hy;rw[e,View.qA] at this;cases this
 refine⟨?_,fun y hy=> ?_,fun y hy=> ?_,fun c y hc=> ?_⟩
 ·simp only[List.map_cons,List.nodup_cons];refine⟨fun hm=> ?_,h.nodup⟩;obtain⟨y,hy,e⟩:=List.mem_map.1 hm;exact gB y hy e
 ·rcases List.mem_cons.1 hy with rfl|hy
  ·exact hb
  ·have:=h.out y hy
   rwa [View.kA _ _ (gB y hy)] at this
 ·rcases List.mem_cons.1 hy with rfl|hy
  ·exact h.base _ _ (View.qA ..)
  ·exact h.at_ y hy
 ·refine h.base c y ?_;rw[View.kA]
  ·exact hc
  ·intro e;rw[e,hb] at hc;cases hc
theorem eA.lower {H:View}(h:eA H₁ L H)(k:H₀.le H₁):eA H₀ L H:=
 ⟨h.nodup,fun x hx=> (by
  cases h0:H₀ x.1 with
  | none=> rfl
  | some y=> have:=h.out x hx;rw[k _ _ h0] at this;cases this),h.at_,View.le_trans k h.base⟩
theorem Tc.pop {todo:List Item}{blk:Nat}{x:Bool×Obj}(hb:H₁ blk=none)(h:Tc M St n b H₁ cs R ((blk,x)::L) ds todo):Tc M St n b (H₁.put blk x) cs R L ds todo:=fun H tmps hs hr=> h H tmps (hs.pop hb) hr
theorem Tc.lower {todo:List Item}(hle:H₀.le H₁)(h:Tc M St n b H₀ cs R L ds todo):Tc M St n b H₁ cs R L ds todo:=fun H tmps hs hr=> h H tmps (hs.lower hle) hr
theorem To.pop {blk:Nat}{x:Bool×Obj}(hb:H₁ blk=none)(h:To M St n b H₁ cs dl R ((blk,x)::L) ds l k):To M St n b (H₁.put blk x) cs dl R L ds l k:=fun arr ix ha hx=> .pop hb (h arr ix ha hx)
theorem To.lower(hle:H₀.le H₁)(h:To M St n b H₀ cs dl R L ds l k):To M St n b H₁ cs dl R L ds l k:=fun arr ix ha hx=> .lower hle (h arr ix ha hx)
theorem eA.fresh {H:View}(h:eA H₀ L H){i blk:Nat}{x:Bool×Obj}(hi:L[i]? =some (blk,x)):H₀ blk=none:=h.out _ (List.mem_of_getElem? hi)
theorem Tc.KS {todo:List Item}(i:Nat){blk:Nat}{x:Bool×Obj}(hi:L[i]? =some (blk,x))(h:H₀ blk=none->Tc M St n b (H₀.put blk x) cs R (L.eraseIdx i) ds todo):Tc M St n b H₀ cs R L ds todo:=fun H tmps hs hr=> h (hs.fresh hi) H tmps (hs.push hi) hr
theorem To.KS(i:Nat){blk:Nat}{x:Bool×Obj}(hi:L[i]? =some (blk,x))(h:H₀ blk=none->To M St n b (H₀.put blk x) cs dl R (L.eraseIdx i) ds l k):To M St n b H₀ cs dl R L ds l k:=fun arr ix ha hx=> .KS i hi fun hf=> h hf arr ix ha hx
theorem eA.perm {H:View}(h:eA H₀ L H){L':Bl}(p:L'.Perm L):eA H₀ L' H:=
 ⟨(p.map (·.1)).nodup_iff.2 h.nodup,fun x hx=> h.out x (p.mem_iff.1 hx),fun x hx=> h.at_ x (p.mem_iff.1 hx),h.base⟩
theorem eA.append {H H':View}{B:Bl}(h:eA H₀ L H)(g:eA H B H'):eA H₀ (B++L) H':=by
 refine⟨?_,fun x hx=> ?_,fun x hx=> ?_,View.le_trans h.base g.base⟩
 ·rw[List.map_append,List.nodup_append];refine⟨g.nodup,h.nodup,fun a ha c hc e=> ?_⟩;obtain⟨x,hx,rfl⟩:=List.mem_map.1 ha;obtain⟨y,hy,rfl⟩:=List.mem_map.1 hc;have h1:=h.at_ y hy;rw[<-e,g.out x hx] at h1;cases h1
 ·rcases List.mem_append.1 hx with hx|hx
  ·cases h0:H₀ x.1 with
   | none=> rfl
   | some z=>
    have h1:=h.base _ _ h0;rw[g.out x hx] at h1;cases h1
  ·exact h.out x hx
 ·rcases List.mem_append.1 hx with hx|hx
  ·exact g.at_ x hx
  ·exact g.base _ _ (h.at_ x hx)
theorem eA.mD {H':View}{B:Bl}(h:eA H₀ (B++L) H'):∃H,eA H B H'/\eA H₀ L H:=by
 have nC:=h.nodup;rw[List.map_append,List.nodup_append] at nC;obtain⟨n1,n2,n3⟩:=nC;refine⟨fun c=> if c∈B.map (·.1) then none else H' c,⟨n1,fun x hx=> ?_,fun x hx=> h.at_ x (List.mem_append_left _ hx),fun c x hc=> ?_⟩,⟨n2,fun x hx=> h.out x (List.mem_append_right _ hx),fun x hx=> ?_,fun c x hc=> ?_⟩⟩
 ·have:x.1∈B.map (·.1):=List.mem_map_of_mem hx;exact if_pos this
 ·split at hc
  ·cases hc
  ·exact hc
 ·have:x.1 ∉ B.map (·.1):=fun hm=> n3 _ hm _ (List.mem_map_of_mem hx) rfl;exact(if_neg this).trans (h.at_ x (List.mem_append_right _ hx))
 ·have:c ∉ B.map (·.1):=fun hm=> by
   obtain⟨y,hy,e⟩:=List.mem_map.1 hm;have:=h.out y (List.mem_append_left _ hy);rw[e,hc] at this;cases this
  exact(if_neg this).trans (h.base c x hc)
end
def uM {P:Program}(M:Md P){α ε:Type}(fv:Value)(xs:List α)(arg:α->ε->List Value)(B B':α->ε->Bl)(Cap:View->Prop)(A:Bl)(H:View):Prop:=
 ∀ (l:Nat) (J:List α->View->Prop) (D:View->Prop),(∀rest H',J rest H'->Cap H')->J xs H-> 
  (∀x rest e H' H'',x∈xs->J (x::rest) H'->eA H' (B x e) H''->UC M (.func (.yield l) #[] #[]) (arg x e) H'' fun v H3=> (v=.bool true/\∃H₂,eA H₂ (B' x e) H3/\J rest H₂)\/(v=.bool false/\D H3))-> 
  ∀H',eA H A H'->UC M fv [.func (.yield l) #[] #[]] H' fun _ H3=> ∃H₁,H₁.le H3/\(J [] H₁\/D H₁)
def Loop.ZH(lp:Loop)(j:Code):Loop:= { lp with state:=.done,pending:=some j }
section
variable {P:Program}{M:Md P}{St:View->Goroutine->Prop}{n:Nat}{b:FB}{H₀:View}{cs:List Frame}{R:Rg}{L:Bl}{ds:List Deferred}{k:List Item}
variable {L₀ A:Bl}{α ε:Type}{fv:Value}{xs:List α}{arg:α->ε->List Value}{B B':α->ε->Bl}{Cap:View->Prop}
def UL(M:Md P)(n:Nat)(b:FB)(R:Rg)(arg:α->ε->List Value)(B B':α->ε->Bl)(ts:List Nat)(assign body:Code)(I:List α->View->Bl->Prop)(Dn:Code->View->Bl->Prop)(xs:List α)(df:Nat)(T:Bl->Bl):Prop:=
 ∀ x rest e l tmps asg bdy H₁ L₁,x∈xs->I (x::rest) H₁ L₁->∀(Q:Value->View->Prop) (St:View->Goroutine->Prop) (c:Frame) (cs:List Frame),(∀v H',Q v H'->Go.RL.T M St H' (G (c.finish v) cs))-> 
  (∀H' H₂ L₂,eA H₂ (B' x e++(l,true,.loop (Loop.fresh b.fn tmps ts.toArray asg bdy df))::T L₂) H'->I rest H₂ L₂->Q (.bool true) H')-> 
  (∀H' H₂ L₂ j,eA H₂ ((l,true,.loop (Loop.ZH (Loop.fresh b.fn tmps ts.toArray asg bdy df) j))::T L₂) H'->Dn j H₂ L₂->Q (.bool false) H')-> 
  Tc M St n ⟨b.fn,.normal,some l⟩ H₁ (c::cs) (IX R ts (arg x e)) (B x e++(l,true,.loop (Loop.fresh b.fn tmps ts.toArray asg bdy df))::T L₁) [] [.code assign,.beginRound,.code body]
theorem Tc.tN {f:Operand}{assign body:Code}{ts:List Nat}{pa:Array Tmp}(I:List α->View->Bl->Prop)(Dn:Code->View->Bl->Prop)(oX:pa=ts.toArray)(MK:b.rd=none)(hf:GA R f=some fv)(hA:L=A++L₀)(OL:∀H,Cap H->uM M fv xs arg B B' Cap A H)
  (hC:∀H H',H.le H'->Cap H->Cap H') (hI:∀rest H₁ L₁,I rest H₁ L₁->Cap H₁) (qR:(ts.all fun t=> Nat.blt t n)=true) (hlen:∀x e,ts.length=(arg x e).length) (h0:I xs H₀ L₀)
  (round:∀r,UL M n b R arg B B' ts assign body I Dn xs r fun L₁=> (r,true,.deferred (some []))::L₁)
  (hk:∀r H₁ L₁,I [] H₁ L₁->Tc M St n b H₁ cs R ((r,true,.deferred (some []))::L₁) (jD r::ds) k)
  (R5:∀r j H₁ L₁,Dn j H₁ L₁->Tc M St n b H₁ cs R ((r,true,.deferred (some []))::L₁) (jD r::ds) (.code j::k)):
  Tc M St n b H₀ cs R L ds (.code (.rangeFunc f pa assign body)::k):=by
 subst oX;refine Tc.rangeFunc MK hf (fun l r j H₁ L₁=> (j=none/\I [] H₁ L₁)\/∃j',j=some j'/\Dn j' H₁ L₁) (fun l r tmps H hr hs=> ?_) (fun l r j H₁ L₁ hz=> ?_)
 ·rw[hA] at hs;obtain⟨H',hsA,hs⟩:=(hs.perm (L':=A++(l,true,.loop (Loop.fresh b.fn tmps ts.toArray assign body r))::(r,true,.deferred (some []))::L₀) (by
   refine(List.perm_middle.trans ?_);exact .cons _ List.perm_middle)).mD
  have pE:Cap H':=hC _ _ hs.base (hI _ _ _ h0);have hJ:∀rest Hv,(∃H₁ L₁,eA H₁ ((l,true,.loop (Loop.fresh b.fn tmps ts.toArray assign body r))::(r,true,.deferred (some []))::L₁) Hv/\I rest H₁ L₁)->Cap Hv:=by
   rintro rest Hv ⟨H₁,L₁,h1,h2⟩;exact hC _ _ h1.base (hI _ _ _ h2)
  refine UC.mono (OL H' pE l (fun rest Hv=> ∃H₁ L₁,eA H₁ ((l,true,.loop (Loop.fresh b.fn tmps ts.toArray assign body r))::(r,true,.deferred (some []))::L₁) Hv/\I rest H₁ L₁)
   (fun Hv=> ∃H₁ L₁ j,eA H₁ ((l,true,.loop (Loop.ZH (Loop.fresh b.fn tmps ts.toArray assign body r) j))::(r,true,.deferred (some []))::L₁) Hv/\Dn j H₁ L₁) hJ ⟨H₀,L₀,hs,h0⟩ ?_ H hsA) ?_
  ·rintro x rest e H' H'' zZ ⟨H₁,L₁,h1,h2⟩ h3;refine UC.round (i:=(B x e).length) (lp:=Loop.fresh b.fn tmps ts.toArray assign body r) (l:=l) (h1.append h3) (by simp) rfl qR (hlen x e) hr fun St c cs hK=> ?_;exact round r x rest e l tmps assign body H₁ L₁ zZ h2 _ St c cs hK (fun H' H₂ L₂ g1 g2=> by
    obtain⟨Hm,g3,g4⟩:=g1.mD;exact .inl ⟨rfl,Hm,g3,H₂,L₂,g4,g2⟩) (fun H' H₂ L₂ j g1 g2=> .inr ⟨rfl,H₂,L₂,j,g1,g2⟩)
  ·rintro v H' ⟨Hv,hle,⟨H₁,L₁,g1,g2⟩|⟨H₁,L₁,j,g1,g2⟩⟩
   ·exact⟨H₁,L₁,Loop.fresh b.fn tmps ts.toArray assign body r,g1.mono hle,(fun h=> nomatch h),.inl ⟨rfl,g2⟩⟩
   ·exact⟨H₁,L₁,Loop.ZH (Loop.fresh b.fn tmps ts.toArray assign body r) j,g1.mono hle,(fun h=> nomatch h),.inr ⟨j,rfl,g2⟩⟩
 ·rcases hz with ⟨rfl,hz⟩|⟨j',rfl,hz⟩
  ·exact hk r H₁ L₁ hz
  ·exact R5 r j' H₁ L₁ hz
theorem Tc.uN {f:Operand}{assign body:Code}{ts:List Nat}{pa:Array Tmp}{lo i:Nat}{lpo:Loop}(I:List α->View->Bl->Prop)(Dn:Code->View->Bl->Prop)(oX:pa=ts.toArray)(MK:b.rd=some lo)(hi:L[i]? =some (lo,true,.loop lpo))(hf:GA R f=some fv)(hA:L=A++L₀)(OL:∀H,Cap H->uM M fv xs arg B B' Cap A H)
  (hC:∀H H',H.le H'->Cap H->Cap H') (hI:∀rest H₁ L₁,I rest H₁ L₁->Cap H₁) (qR:(ts.all fun t=> Nat.blt t n)=true) (hlen:∀x e,ts.length=(arg x e).length) (h0:I xs H₀ L₀)
  (round:UL M n b R arg B B' ts assign body I Dn xs lpo.defers fun L₁=> L₁)
  (hk:∀H₁ L₁,I [] H₁ L₁->Tc M St n b H₁ cs R L₁ ds k)
  (R5:∀j H₁ L₁,Dn j H₁ L₁->Tc M St n b H₁ cs R L₁ ds (.code j::k)):
  Tc M St n b H₀ cs R L ds (.code (.rangeFunc f pa assign body)::k):=by
 subst oX;refine Tc.OS MK hi hf (fun l j H₁ L₁=> (j=none/\I [] H₁ L₁)\/∃j',j=some j'/\Dn j' H₁ L₁) (fun l tmps H hr hs=> ?_) (fun l j H₁ L₁ hz=> ?_)
 ·rw[hA] at hs;obtain⟨H',hsA,hs⟩:=(hs.perm (L':=A++(l,true,.loop (Loop.fresh b.fn tmps ts.toArray assign body lpo.defers))::L₀) List.perm_middle).mD;have pE:Cap H':=hC _ _ hs.base (hI _ _ _ h0);have hJ:∀rest Hv,(∃H₁ L₁,eA H₁ ((l,true,.loop (Loop.fresh b.fn tmps ts.toArray assign body lpo.defers))::L₁) Hv/\I rest H₁ L₁)->Cap Hv:=by
   rintro rest Hv ⟨H₁,L₁,h1,h2⟩;exact hC _ _ h1.base (hI _ _ _ h2)
  refine UC.mono (OL H' pE l (fun rest Hv=> ∃H₁ L₁,eA H₁ ((l,true,.loop (Loop.fresh b.fn tmps ts.toArray assign body lpo.defers))::L₁) Hv/\I rest H₁ L₁)
   (fun Hv=> ∃H₁ L₁ j,eA H₁ ((l,true,.loop (Loop.ZH (Loop.fresh b.fn tmps ts.toArray assign body lpo.defers) j))::L₁) Hv/\Dn j H₁ L₁) hJ ⟨H₀,L₀,hs,h0⟩ ?_ H hsA) ?_
  ·rintro x rest e H' H'' zZ ⟨H₁,L₁,h1,h2⟩ h3;refine UC.round (i:=(B x e).length) (lp:=Loop.fresh b.fn tmps ts.toArray assign body lpo.defers) (l:=l) (h1.append h3) (by simp) rfl qR (hlen x e) hr fun St c cs hK=> ?_;exact round x rest e l tmps assign body H₁ L₁ zZ h2 _ St c cs hK (fun H' H₂ L₂ g1 g2=> by
    obtain⟨Hm,g3,g4⟩:=g1.mD;exact .inl ⟨rfl,Hm,g3,H₂,L₂,g4,g2⟩) (fun H' H₂ L₂ j g1 g2=> .inr ⟨rfl,H₂,L₂,j,g1,g2⟩)
  ·rintro v H' ⟨Hv,hle,⟨H₁,L₁,g1,g2⟩|⟨H₁,L₁,j,g1,g2⟩⟩
   ·exact⟨H₁,L₁,Loop.fresh b.fn tmps ts.toArray assign body lpo.defers,g1.mono hle,(fun h=> nomatch h),.inl ⟨rfl,g2⟩⟩
   ·exact⟨H₁,L₁,Loop.ZH (Loop.fresh b.fn tmps ts.toArray assign body lpo.defers) j,g1.mono hle,(fun h=> nomatch h),.inr ⟨j,rfl,g2⟩⟩
 ·rcases hz with ⟨rfl,hz⟩|⟨j',rfl,hz⟩
  ·exact hk H₁ L₁ hz
  ·exact R5 j' H₁ L₁ hz
theorem Tc.m7 {f:Operand}{assign body:Code}{ts:List Nat}{pa:Array Tmp}(I:List α->View->Prop)(Dn:Code->View->Prop)(oX:pa=ts.toArray)(MK:b.rd=none)(hf:GA R f=some fv)(hA:L=A++L₀)(OL:∀H,Cap H->uM M fv xs arg B B' Cap A H)
  (hC:∀H H',H.le H'->Cap H->Cap H') (hI:∀rest H₁,I rest H₁->Cap H₁) (qR:(ts.all fun t=> Nat.blt t n)=true) (hlen:∀x e,ts.length=(arg x e).length) (h0:I xs H₀)
  (round:∀r,UL M n b R arg B B' ts assign body (fun rest H₁ L₁=> L₁=L₀/\I rest H₁) (fun j H₁ L₁=> L₁=L₀/\Dn j H₁) xs r fun L₁=> (r,true,.deferred (some []))::L₁)
  (hk:∀r H₁,I [] H₁->Tc M St n b H₁ cs R ((r,true,.deferred (some []))::L₀) (jD r::ds) k)
  (R5:∀r j H₁,Dn j H₁->Tc M St n b H₁ cs R ((r,true,.deferred (some []))::L₀) (jD r::ds) (.code j::k)):
  Tc M St n b H₀ cs R L ds (.code (.rangeFunc f pa assign body)::k):=
 .tN (fun rest H₁ L₁=> L₁=L₀/\I rest H₁) (fun j H₁ L₁=> L₁=L₀/\Dn j H₁) oX MK hf hA OL hC (fun rest H₁ _ h=> hI rest H₁ h.2) qR hlen ⟨rfl,h0⟩ round (fun r H₁ L₁ h=> by obtain⟨rfl,h⟩:=h;exact hk r H₁ h) (fun r j H₁ L₁ h=> by obtain⟨rfl,h⟩:=h;exact R5 r j H₁ h)
theorem Tc.TK {f:Operand}{assign body:Code}{ts:List Nat}{pa:Array Tmp}{lo i:Nat}{lpo:Loop}(I:List α->View->Prop)(Dn:Code->View->Prop)(oX:pa=ts.toArray)(MK:b.rd=some lo)(hi:L[i]? =some (lo,true,.loop lpo))(hf:GA R f=some fv)(hA:L=A++L₀)(OL:∀H,Cap H->uM M fv xs arg B B' Cap A H)
  (hC:∀H H',H.le H'->Cap H->Cap H') (hI:∀rest H₁,I rest H₁->Cap H₁) (qR:(ts.all fun t=> Nat.blt t n)=true) (hlen:∀x e,ts.length=(arg x e).length) (h0:I xs H₀)
  (round:UL M n b R arg B B' ts assign body (fun rest H₁ L₁=> L₁=L₀/\I rest H₁) (fun j H₁ L₁=> L₁=L₀/\Dn j H₁) xs lpo.defers fun L₁=> L₁)
  (hk:∀H₁,I [] H₁->Tc M St n b H₁ cs R L₀ ds k)
  (R5:∀j H₁,Dn j H₁->Tc M St n b H₁ cs R L₀ ds (.code j::k)):
  Tc M St n b H₀ cs R L ds (.code (.rangeFunc f pa assign body)::k):=
 .uN (fun rest H₁ L₁=> L₁=L₀/\I rest H₁) (fun j H₁ L₁=> L₁=L₀/\Dn j H₁) oX MK hi hf hA OL hC (fun rest H₁ _ h=> hI rest H₁ h.2) qR hlen ⟨rfl,h0⟩ round (fun H₁ L₁ h=> by obtain⟨rfl,h⟩:=h;exact hk H₁ h) (fun j H₁ L₁ h=> by obtain⟨rfl,h⟩:=h;exact R5 j H₁ h)
end
section
variable {P:Program}{M:Md P}{St:View->Goroutine->Prop}{n:Nat}{b:FB}{H₀ H₁:View}{cs:List Frame}{R:Rg}{L L':Bl}{ds:List Deferred}{k:List Item}{S:Array Bool->View->Prop}{md:Region.Mode}{ops:Array Oper}
def S3(H₀:View)(B C:List Nat)(Ls L:Bl):Array Bool->View->Prop:=fun listed H=> (C.all fun j=> !(listed.getD j true))=true->S2 H₀ B Ls L listed H
def MJ(md:Region.Mode)(ops:Array Oper)(i:Nat):Nat->Nat->Bool
 | 0,_=> false
 | f+1,j=> match ops[j]? with
  | some o=> o.after.any fun e=> Region.binds md e&&(e.on==i||MJ md ops i f e.on)
  | none=> false
theorem aL {i:Nat}{listed:Array Bool}(hc:rC md ops listed=true)(hu:listed.getD i true=false):∀(f j:Nat),MJ md ops i f j=true->listed.getD j true=false
 | 0,_,h=> by cases h
 | f + 1,j,h=> by
  unfold MJ at h;cases hl:listed.getD j true with
  | false=> rfl
  | true=>
   split at h
   ·rename_i o ho
    rw[Array.any_eq_true'] at h;obtain⟨e,he,hb⟩:=h;simp only[Bool.and_eq_true,Bool.or_eq_true,beq_iff_eq] at hb;have h1:=XG hc ho hl he hb.1;have h2:listed.getD e.on true=false:=by
     rcases hb.2 with h3|h3
     ·rw[h3];exact hu
     ·exact aL hc hu f e.on h3
    rcases Nat.lt_or_ge e.on listed.size with h'|h'
    ·simp[h'] at h1 h2
     rw[h2] at h1;cases h1
    ·simp[Array.getElem?_eq_none h'] at h2
   ·cases h
theorem S3.same {B C:List Nat}{Ls:Bl}{i:Nat}(hi:B.contains i=false)(hC:C.contains i=false):∀listed H,S3 H₀ B C Ls L (listed.setIfInBounds i true) H<->S3 H₀ B C Ls L listed H:=fun listed H=> by
 have:(C.all fun j=> !((listed.setIfInBounds i true).getD j true))=C.all fun j=> !(listed.getD j true):=by
  rw[Bool.eq_iff_iff,List.all_eq_true,List.all_eq_true];refine forall_congr' fun j=> forall_congr' fun hj=> ?_;have gB:i≠j:=by
   rintro rfl;have:C.contains i=true:=by simpa using hj
   rw[hC] at this;cases this
  rw[getD_set_ne true gB]
 unfold S3;rw[this,S2.same hi]
def TQ(md:Region.Mode)(ops:Array Oper)(B C:List Nat)(listed:Array Bool)(i:Nat):Bool:=
 JD md ops [] listed i && !(B.contains i)&&(B.all fun j=> MJ md ops i ops.size j) && !(C.contains i)&&C.all fun j=> MJ md ops i ops.size j
theorem S2.E7 {B:List Nat}{Ls:Bl}{i:Nat}{listed:Array Bool}{H:View}(h:S2 H₀ B Ls L listed H)(hc:rC md ops listed=true)(hu:listed.getD i true=false)(hB:(B.all fun j=> MJ md ops i ops.size j)=true):eA H₀ L H:=by
 refine h.2 ?_;rw[List.all_eq_true] at hB ⊢;intro j hj;rw[aL hc hu _ j (hB j hj)];rfl
theorem S3.use {B C:List Nat}{Ls:Bl}{i:Nat}{listed:Array Bool}{H:View}(h:S3 H₀ B C Ls L listed H)(hc:rC md ops listed=true)(hu:listed.getD i true=false)(hC:(C.all fun j=> MJ md ops i ops.size j)=true):S2 H₀ B Ls L listed H:=by
 refine h ?_;rw[List.all_eq_true] at hC ⊢;intro j hj;rw[aL hc hu _ j (hC j hj)];rfl
theorem S3.keep {B C:List Nat}{Ls:Bl}{listed:Array Bool}{H H':View}(h:S3 H₀ B C Ls L listed H)(k:H.le H'):S3 H₀ B C Ls L listed H':=fun hh=> ⟨(h hh).1.mono k,fun h2=> ((h hh).2 h2).mono k⟩
theorem Ta.tkC(i:Nat){B C:List Nat}{Ls L₁:Bl}{o:Oper}{d:Nat}{v:Value}{fuel:Nat}{listed:Array Bool}(hc:TQ md ops B C listed i=true)(hi:ops[i]? =some o)(hd:o.dst=some d)(hn:d<n)(nC:AA o.op=false)(hw:JA (ops.toList.map (fun o:Oper=> o.dst)) R o=some true)
  (hv:∀H tmps,eA H₀ L H->PA n R tmps->SD M o tmps H fun u H'=> u=v/\H.le H')
  (h:Ta M St n b H₀ cs (S3 H₀ B C Ls L) md ops fuel (listed.setIfInBounds i true) ((d,v)::R) L₁ ds k):Ta M St n b H₀ cs (S3 H₀ B C Ls L) md ops (fuel+1) listed R L₁ ds k:=by
 simp only[TQ,JD,Bool.and_eq_true,Bool.not_eq_true'] at hc;obtain⟨⟨⟨⟨⟨⟨⟨⟨⟨XI,hr⟩,hf⟩,PB⟩,_⟩,_⟩,lO⟩,hB⟩,hCi⟩,hC⟩:=hc;exact .take i hi XI hr hf hd hn nC PB (S3.same lO hCi) hw (fun _ hc hu H tmps hS hr=> by
  have:=hv H tmps ((hS.use hc hu hC).E7 hc hu hB) hr;unfold SD at this ⊢;have fin:∀u H',(u=v/\H.le H')->u=v/\H.le H'/\S3 H₀ B C Ls L _ H':=fun u H' ⟨h1,h2⟩=> ⟨h1,h2,hS.keep h2⟩
  refine MA _ (fun nx H' hn=> ?_) this;cases nx <;> first
   | exact hn.elim
   | exact fin _ _ hn
   | exact cA.mono hn fin
   | exact IL.mono hn fin) h
theorem Ta.tkP(i:Nat){B C:List Nat}{Ls L₁:Bl}{o:Oper}{d:Nat}{v:Value}{fuel:Nat}{listed:Array Bool}(hc:JD md ops [] listed i=true)(lO:B.contains i=false)(hCi:C.contains i=false)(hi:ops[i]? =some o)(hd:o.dst=some d)(hn:d<n)(nC:AA o.op=false)(hw:JA (ops.toList.map (fun o:Oper=> o.dst)) R o=some true)
  (hv:∀H tmps,eA (fun _=> none) [] H->PA n R tmps->SD M o tmps H fun u H'=> u=v/\H.le H')
  (h:Ta M St n b H₀ cs (S3 H₁ B C Ls L) md ops fuel (listed.setIfInBounds i true) ((d,v)::R) L₁ ds k):Ta M St n b H₀ cs (S3 H₁ B C Ls L) md ops (fuel+1) listed R L₁ ds k:=by
 simp only[JD,Bool.and_eq_true,Bool.not_eq_true'] at hc;obtain⟨⟨⟨⟨⟨XI,hr⟩,hf⟩,PB⟩,_⟩,_⟩:=hc;exact .take i hi XI hr hf hd hn nC PB (S3.same lO hCi) hw (fun _ _ _ H tmps hS hr=> by
  have:=hv H tmps ⟨by simp,by simp,by simp,fun _ _ h=> nomatch h⟩ hr;unfold SD at this ⊢;have fin:∀u H',(u=v/\H.le H')->u=v/\H.le H'/\S3 H₁ B C Ls L _ H':=fun u H' ⟨h1,h2⟩=> ⟨h1,h2,hS.keep h2⟩
  refine MA _ (fun nx H' hn=> ?_) this;cases nx <;> first
   | exact hn.elim
   | exact fin _ _ hn
   | exact cA.mono hn fin
   | exact IL.mono hn fin) h
theorem S3.mk {B C:List Nat}{Ls L₁:Bl}{listed:Array Bool}(h1:Ls.Sublist L₁)(h2:(B.all fun j=> !(listed.getD j true))=false\/L.Sublist L₁):∀H,eA H₀ L₁ H->S3 H₀ B C Ls L listed H:=fun H hs _=> S2.mk h1 h2 H hs
theorem S3.off {B C:List Nat}{Ls L₁:Bl}{listed:Array Bool}{H₁:View}(h:(C.all fun j=> !(listed.getD j true))=false):∀H,eA H₁ L₁ H->S3 H₀ B C Ls L listed H:=fun H _ hh=> by rw[h] at hh;cases hh
theorem Tc.drC {id:Nat}{fuel:Nat}(B C E:List Nat)(hm:P.follows .mixedOrders=true)(hf:ops.size=fuel)(h:Ta M St n b H₀ cs (S3 H₀ B C (KM L E) L) .any ops fuel (Array.replicate fuel false) R L ds k):
  Tc M St n b H₀ cs R L ds (.code (.region id ops true)::k):=fun H tmps hs hr=> by
 subst hf;refine .BL fun t=> ?_;simp only[Region.schedule,hm,Bool.true_or,if_true];have hS:=S3.mk (H₀:=H₀) (B:=B) (C:=C) (listed:=Array.replicate ops.size false) (pJ E L) (.inr (List.Sublist.refl L)) H hs;exact(h H tmps hs hr hS).sound _ t _ _ _ hS
theorem Ta.sF(i:Nat){B C:List Nat}{Hs:View}{Ls Lb:Bl}{o:Oper}{d:Nat}{fuel:Nat}{listed:Array Bool}{cl:Go.Call}{x:Operand}{fv:Value}{az:List Value}(hr:Region.ready md ops listed= [i])(hi:ops[i]? =some o)(hC:(C.all fun j=> !((listed.setIfInBounds i true).getD j true))=false)
  (hw:JA (ops.toList.map (fun o:Oper=> o.dst)) R o=some true) (iA:o.op=.call cl) (PB:cl.callee=.value x) (hx:GA R x=some fv) (has:aE R cl.args.toList=some az) (hd:o.dst=some d) (hn:d<n)
  {Q:Value->View->Prop} (hc:UC M fv az H₀ Q) (hk:∀v H₁,Q v H₁->Ta M St n b H₁ cs (S3 Hs B C Ls Lb) md ops fuel (listed.setIfInBounds i true) ((d,v)::R) L ds k):
  Ta M St n b H₀ cs (S3 Hs B C Ls Lb) md ops (fuel+1) listed R L ds k:=fun H tmps hs vE _ H₂ h2 _=> by
 have hs:=hs.mono h2;refine⟨fun e=> (by rw[hr] at e;cases e),fun j hj o' oO=> ?_⟩;rw[hr] at hj;have:j=i:=by simpa using hj
 subst this;rw[hi] at oO;cases oO
 refine⟨(by rw[iA];rfl),?_⟩;have VN:Region.wanted o (yielded ops tmps)=true:=jB (fun j=> by
  simp only[List.getElem?_map,Array.getElem?_toList];cases ops[j]? <;> rfl) vE hw
 rw[if_pos VN];obtain⟨F,rfl,RN,hF⟩:=hs.split;have e1:=vE.ev hx;have KF:cl.args.map (uB tmps)=az.toArray:=by
  apply Array.ext'
  simpa using vE.evs has
 have hex:execOp (uB tmps) o=(Deferred.ofValue fv az.toArray).bind fun d=> invoke d.target d.args:=by
  have h1:execOp (uB tmps) o=(resolve (uB tmps) cl o.type).bind fun d=> invoke d.target d.args:=by unfold execOp;rw[iA];rfl
  rw[h1];unfold resolve;rw[PB];simp only[e1,KF]
 unfold dF;rw[hex];have fin:∀v H'',eG F Q v H''->S3 Hs B C Ls Lb (listed.setIfInBounds j true) H''/\LH M md ops (S3 Hs B C Ls Lb) (fun tmps H=> T M St H (G (b.at tmps ds k) cs)) fuel (listed.setIfInBounds j true) (KB tmps o.dst v) H'':=by
  rintro v H'' ⟨H₁,rfl,RI,hq⟩;have hS:S3 Hs B C Ls Lb (listed.setIfInBounds j true) (H₁.plus F):=fun hh=> by rw[hC] at hh;cases hh
  refine⟨hS,?_⟩;rw[hd];exact hk v H₁ hq _ _ (.OK hs.nodup hF RI) (vE.put hn v) hS
 refine MA _ (fun nx H' tQ=> ?_) (hc.frame RN);cases nx <;> first
  | exact tQ.elim
  | exact cA.mono tQ fin
  | exact IL.mono tQ fin
theorem Ta.lower {fuel:Nat}{listed:Array Bool}(hle:H₀.le H₁)(h:Ta M St n b H₀ cs S md ops fuel listed R L ds k):Ta M St n b H₁ cs S md ops fuel listed R L ds k:=fun H tmps hs=> h H tmps (hs.lower hle)
theorem T6 {H H' F:View}(h:H.le H')(hd:Dj H' F):(H.plus F).le (H'.plus F):=fun b x hb=> by
 unfold View.plus at hb;split at hb
 ·rename_i y hy
  cases hb
  exact xA (h b _ hy)
 ·rw[KA (hd b x hb)];exact hb
end
section
variable {P:Program}{E:Env P}{M:Md P}{n:Nat}{H₀:View}{R:Rg}{L L':Bl}{K:Rg->Bl->Prop}{o:Oper}{d:Nat}{v:Value}
theorem Or.EY(i:Nat){cl:Go.Call}{x y:Operand}{t xt e:TypeId}{sz m q cap blk:Nat}{yv:Value}{new c c':List Value}{r re rx:wA}{ex:TypeId}(iA:o.op=.call cl)(PB:cl.callee=.builtin .append)(VH:cl.argTypes=#[t,xt])(sJ:cl.args=#[x,y])
  (hx:GA R x=some (.slice (some ⟨blk,0,none⟩) q cap)) (hy:GA R y=some yv) (ht:E.ty t=some r) (LB:r.ds=.slice e) (ZC:E.ty e=some re) (QD:re.size=sz) (yU:E.ty xt=some rx) (hex:rx.ds=.slice ex)
  (hi:L[i]? =some (blk,true,.cells ⟨c⟩ e (0,0))) (nG:∀H,eA H₀ L H->NA H sz yv m new) (hs:new.all single=true) (pE:q+m<=cap) (hl:q*sz+new.length<=c.length) (gB:new≠ []) (hd:o.dst=some d) (hn:d<n) (hc:IE c (q*sz) new=c')
  (hk:K ((d,.slice (some ⟨blk,0,none⟩) (q+m) cap)::R) (L.set i (blk,true,.cells ⟨c'⟩ e (0,0)))):Or M n H₀ R L o K:=
 .val hd hn fun H tmps kB hr=> by
  have RO:=nG H kB;unfold execOp;rw[iA];simp only[resolve,PB,VH,sJ];have pU:Array.map (uB tmps) #[x,y]=#[.slice (some ⟨blk,0,none⟩) q cap,yv]:=by simp[hr.ev hx,hr.ev hy]
  rw[pU];refine aA (Builtin.append_ #[t,xt] o.type #[.slice (some ⟨blk,0,none⟩) q cap,yv]) _ ?_;show yA P ((underlying t).bind fun _=> _) H _;refine aA (underlying t) _ (dA (uC ((E.ok _ _ ht).ds.trans LB)) ?_);show yA P ((sizeOf e).bind fun _=> _) H _;refine aA (sizeOf e) _ (IA (E.ok _ _ ZC).size ?_);refine aA (underlying xt) _ (dA (uC ((E.ok _ _ yU).ds.trans hex)) ?_);refine aA (Builtin.lenOf yv) _ (RO.lenOf ?_);simp only[QD];rw[if_pos pE];show yA P ((Builtin.firstCells sz m yv).bind fun _=> _) H _;refine aA _ _ (yC RO ?_);show yA P ((storeCells (Addr.add ⟨blk,0,none⟩ (q*sz)) new).bind fun _=> Sem.pure (Value.slice (some ⟨blk,0,none⟩) (q+m) cap)) H _;refine aA _ _ ?_;rw[VD _ _ rfl];refine BC blk _ new 0 c (kB.get hi) (by simp only[Nat.zero_add,Nat.add_zero];omega) hs fun H' lR=> ?_;rw[if_neg gB] at lR;rw[lR];refine⟨_,rfl,_,kB.set hi _,?_⟩;have e1:IE c (0+q*sz+0) new=c':=by rw[show 0+q*sz+0=q*sz by omega];exact hc
  rw[e1];exact hk
theorem oA.aAn {t kt et:TypeId}{x:Operand}{m cl₀:Nat}{es:Array MapEntry}{cl:Go.Call}{r:wA}(iA:o.op=.call cl)(PB:cl.callee=.builtin .len)(VH:cl.argTypes=#[t])(sJ:cl.args=#[x])
  (hx:GA R x=some (.map (some m))) (hb:∀H,eA H₀ L H->∃f,H m=some (f,.map es cl₀)) (ht:E.ty t=some r) (LB:r.ds=.map kt et):oA P n H₀ R L o (.int .i64 (es.size:Nat)):=fun H tmps hs hr=> by
 unfold execOp;rw[iA];simp only[resolve,PB,VH,sJ];have hm:Array.map (uB tmps) #[x]=#[.map (some m)]:=by simp[hr.ev hx]
 rw[hm];obtain⟨f,aS⟩:=hb H hs;refine aA (Builtin.len_ #[t] o.type #[.map (some m)]) _ (aA (underlying t) _ (dA (HM ((E.ok _ _ ht).ds.trans LB)) ?_));refine⟨f,.map es cl₀,aS,by simp,rfl,?_⟩;exact⟨rfl,rfl⟩
theorem oA.lookup(dp:Nat){t kt et:TypeId}{x y:Operand}{ok:Bool}{m:Nat}{k:Value}{es:Array MapEntry}{cl:Nat}{r re:wA}(iA:o.op=.lookup t x y ok)(hx:GA R x=some (.map (some m)))(hy:GA R y=some k)
  (hb:∀H,eA H₀ L H->∃f,H m=some (f,.map es cl)) (ht:E.ty t=some r) (LB:r.ds=.map kt et) (ZC:E.ty et=some re) (bS:dp<=10000) (hk:uE E dp kt k) (CH:∀e∈es.toList,uE E dp kt e.key)
  (hq:∀r,fG es.toList k r->cU re.zero r ok=v):oA P n H₀ R L o v:=fun H tmps hs hr=> by
 unfold execOp;rw[iA];simp only[hr.ev hx,hr.ev hy];obtain⟨f,aS⟩:=hb H hs;obtain⟨rk,l,pR,rfl,hf⟩:=hk;obtain⟨_,dd,_,QJ⟩:=YE hf;refine aA (Instr.lookup t _ _ ok) _ ?_;refine aA (underlying t) _ (dA (HM ((E.ok _ _ ht).ds.trans LB)) ?_);refine⟨f,.map es cl,aS,by simp,rfl,?_⟩;show yA P ((Instr.checkKey es.isEmpty 10000 kt (PG rk.agg l)).bind fun _=> _) H _;refine aA _ _ (nE dp 10000 bS pR hf ?_);refine aA (Instr.findKey kt _ es.toList) _ (tI bS ⟨rk,l,pR,rfl,hf⟩ QJ CH fun r vE=> ?_);have fin:=hq r vE;subst fin;cases r with
 | none=>
  refine aA (zeroValue et) _ (AB (E.ok _ _ ZC).zero ?_);cases ok <;> exact⟨rfl,rfl⟩
 | some p=>
  obtain⟨i,v⟩:=p;cases ok <;> exact⟨rfl,rfl⟩
theorem oA.sliceTo {t e:TypeId}{x:Operand}{hi:Option Operand}{len cap off k:Nat}{blk:Nat}{r re:wA}(iA:o.op=.slice t x none hi none)(hx:GA R x=some (.slice (some ⟨blk,off,none⟩) len cap))(ht:E.ty t=some r)(LB:r.ds=.slice e)
  (ZC:E.ty e=some re) (kU:bound R hi len=some (k:Int)) (h2:k<=cap) (h0:0<cap):oA P n H₀ R L o (.slice (some ⟨blk,off,none⟩) k cap):=by
 have:=oA.slice (E:=E) (P:=P) (n:=n) (H₀:=H₀) (L:=L) (off':=off) iA hx ht LB ZC rfl rfl kU oM oM oM (by rw[if_neg oM];simp);simpa using this
end
section
variable {P:Program}{M:Md P}{St:View->Goroutine->Prop}{n:Nat}{b:FB}{H₀ H₁:View}{cs:List Frame}{R:Rg}{L L₁ L₂:Bl}{ds:List Deferred}{k:List Item}{dl:List (Option Tmp)}{l:List Oper}{S:Array Bool->View->Prop}{md:Region.Mode}{ops:Array Oper}{fuel:Nat}{listed:Array Bool}
theorem Tc.lift {todo:List Item}(hL:L=L₂++L₁)(h:∀Hx,eA H₀ L₁ Hx->Tc M St n b Hx cs R L₂ ds todo):Tc M St n b H₀ cs R L ds todo:=fun H tmps hs hr=> by
 subst hL;obtain⟨Hx,h1,h2⟩:=hs.mD;exact h Hx h2 H tmps h1 hr
theorem To.lift(hL:L=L₂++L₁)(h:∀Hx,eA H₀ L₁ Hx->To M St n b Hx cs dl R L₂ ds l k):To M St n b H₀ cs dl R L ds l k:=fun arr ix ha hx=> .lift hL fun Hx hh=> h Hx hh arr ix ha hx
theorem Ta.lift(hL:L=L₂++L₁)(h:∀Hx,eA H₀ L₁ Hx->Ta M St n b Hx cs S md ops fuel listed R L₂ ds k):Ta M St n b H₀ cs S md ops fuel listed R L ds k:=fun H tmps hs hr=> by
 subst hL;obtain⟨Hx,h1,h2⟩:=hs.mD;exact h Hx h2 H tmps h1 hr
theorem Tc.expand {todo:List Item}(hs:eA H₀ L₁ H₁)(h:Tc M St n b H₀ cs R (L₂++L₁) ds todo):Tc M St n b H₁ cs R L₂ ds todo:=fun H tmps hs' hr=> h H tmps (hs.append hs') hr
theorem Ta.expand(hs:eA H₀ L₁ H₁)(h:Ta M St n b H₀ cs S md ops fuel listed R (L₂++L₁) ds k):Ta M St n b H₁ cs S md ops fuel listed R L₂ ds k:=fun H tmps hs' hr=> h H tmps (hs.append hs') hr
theorem Tc.perm {todo:List Item}(p:L₁.Perm L)(h:Tc M St n b H₀ cs R L₁ ds todo):Tc M St n b H₀ cs R L ds todo:=fun H tmps hs hr=> h H tmps (hs.perm p) hr
theorem To.perm(p:L₁.Perm L)(h:To M St n b H₀ cs dl R L₁ ds l k):To M St n b H₀ cs dl R L ds l k:=fun arr ix ha hx=> .perm p (h arr ix ha hx)
theorem Tc.via {x:Item}(F:Rg->Bl->Prop)(hF:∀R L,F R L->Tc M St n b H₀ cs R L ds k)(h:(∀R L,F R L->Tc M St n b H₀ cs R L ds k)->Tc M St n b H₀ cs R L ds (x::k)):Tc M St n b H₀ cs R L ds (x::k):=h hF
end
section
variable {P:Program}{E:Env P}{M:Md P}{n:Nat}{H₀:View}{R:Rg}{L L':Bl}{K:Rg->Bl->Prop}{o:Oper}{d:Nat}{v:Value}
theorem oA.jK {t:TypeId}{x y:Operand}{ik:IntKind}{j:Int}{s:ByteArray}{c:UInt8}(iA:o.op=.index t x y)(hx:GA R x=some (.string s))(hy:GA R y=some (.int ik j))(hu:P.underlying t=some .string)(h0:0<=j)(hb:s[j.toNat]? =some c):
  oA P n H₀ R L o (.int .u8 (c.toNat:Nat)):=fun H tmps _ hr=> by
 unfold execOp;rw[iA];simp only[hr.ev hx,hr.ev hy];refine aA _ _ ?_;show yA P ((underlying t).bind fun d=> _) H _;refine aA (underlying t) _ (dA hu ?_);have e:(if 0<=j then s[j.toNat]? else none)=some c:=by rw[if_pos h0];exact hb
 simp only[e];exact⟨rfl,rfl⟩
theorem Or.copy(i:Nat){cl:Go.Call}{x y:Operand}{t xt e e':TypeId}{m q cap blk:Nat}{yv:Value}{new c c':List Value}{r re:wA}(iA:o.op=.call cl)(PB:cl.callee=.builtin .copy)(VH:cl.argTypes=#[t,xt])(sJ:cl.args=#[x,y])
  (hx:GA R x=some (.slice (some ⟨blk,0,none⟩) q cap)) (hy:GA R y=some yv) (ht:E.ty t=some r) (LB:r.ds=.slice e) (ZC:E.ty e=some re) (QD:re.size=1)
  (hi:L[i]? =some (blk,true,.cells ⟨c⟩ e' (0,0))) (nG:∀H,eA H₀ L H->NA H 1 yv m new) (hs:new.all single=true) (hm:m<=q) (hl:q<=c.length) (gB:new≠ []) (hd:o.dst=some d) (hn:d<n) (hc:IE c 0 new=c')
  (hk:K ((d,.int .i64 (m:Nat))::R) (L.set i (blk,true,.cells ⟨c'⟩ e' (0,0)))):Or M n H₀ R L o K:=
 .val hd hn fun H tmps kB hr=> by
  have RO:=nG H kB;unfold execOp;rw[iA];simp only[resolve,PB,VH,sJ];have pU:Array.map (uB tmps) #[x,y]=#[.slice (some ⟨blk,0,none⟩) q cap,yv]:=by simp[hr.ev hx,hr.ev hy]
  rw[pU];refine aA (Builtin.copy_ #[t,xt] o.type #[.slice (some ⟨blk,0,none⟩) q cap,yv]) _ ?_;show yA P ((underlying t).bind fun _=> _) H _;refine aA (underlying t) _ (dA (uC ((E.ok _ _ ht).ds.trans LB)) ?_);show yA P ((Builtin.lenOf yv).bind fun _=> _) H _;refine aA (Builtin.lenOf yv) _ (RO.lenOf ?_);show yA P ((sizeOf e).bind fun _=> _) H _;refine aA (sizeOf e) _ (IA (E.ok _ _ ZC).size ?_);have aCv:Nat.min m q=m:=Nat.min_eq_left hm;rw[aCv,QD];refine aA (Builtin.firstCells 1 m yv) _ (yC RO ?_);show yA P ((storeCells ⟨blk,0,none⟩ new).bind fun _=> Sem.pure (Value.int .i64 (m:Nat))) H _;refine aA _ _ ?_;have hlen:new.length=m:=by have:=RO.2.1;omega
  refine BC blk _ new 0 c (kB.get hi) (by simp only[Nat.zero_add,Nat.add_zero];omega) hs fun H' lR=> ?_;rw[if_neg gB] at lR;rw[lR];refine⟨_,rfl,_,kB.set hi _,?_⟩;rw[show IE c (0+0) new=c' from hc];exact hk
end
section
variable {P:Program}{M:Md P}{St:View->Goroutine->Prop}{n:Nat}{b:FB}{H₀:View}{cs:List Frame}{R:Rg}{L:Bl}{ds:List Deferred}{k:List Item}
def aAB(dl:List (Option Tmp))(R:Rg)(o:Oper):Bool:=
 match o.guard with
 | none=> false
 | some (j,_)=>
  match (dl[j]?).join with
  | none=> false
  | some d=>
   match lk R d with
   | some (.bool _)=> false
   | some _=> true
   | none=> false
theorem P6 {dl:List (Option Tmp)}{o:Oper}{arr:Array Oper}{tmps:Array Value}(ha:∀j:Nat,(arr[j]?).bind (fun o:Oper=> o.dst)=(dl[j]?).join)(hr:PA n R tmps)(h:aAB dl R o=true):Region.wanted o (yielded arr tmps)=false:=by
 unfold aAB at h;unfold Region.wanted;split at h
 ·cases h
 ·rename_i j w hg
  rw[hg];split at h
  ·cases h
  ·rename_i d hd
   cases hl:lk R d with
   | none=> rw[hl] at h;cases h
   | some v=>
    rw[hl] at h;simp only[yielded,ha j,hd,Option.bind_some,hr.2 d v hl];cases v <;> first|rfl|cases h
theorem To.LA {dl:List (Option Tmp)}{o:Oper}{l:List Oper}{d:Nat}(hd:o.dst=some d)(hn:d<n)(hw:aAB dl R o=true)(h:To M St n b H₀ cs dl ((d,undef)::R) L ds l k):To M St n b H₀ cs dl R L ds (o::l) k:=fun arr ix ha hx=> by
 cases ix with
 | nil=> simp at hx
 | cons i r=>
  simp only[List.map_cons,List.cons.injEq] at hx;intro H tmps hs hr;refine .AJ hx.1 (P6 ha hr hw) ?_;rw[hd];exact h arr r ha hx.2 H _ hs (hr.put hn _)
theorem Tc.label {l:Nat}(h:Tc M St n b H₀ cs R L ds k):Tc M St n b H₀ cs R L ds (.code (.label l)::k):=fun H tmps hs hr=> .OC rfl (fun _=> by simp[G,stepG,stepG.exec,FB.at]) (h H tmps hs hr)
theorem Tc.inScope {c:Code}(h:Tc M St n b H₀ cs R L ds k):Tc M St n b H₀ cs R L ds (.inScope c::k):=fun H tmps hs hr=> .OC rfl (fun _=> by simp[G,stepG,stepG.exec,FB.at]) (h H tmps hs hr)
theorem Tc.scope {c:Code}(h:Tc M St n b H₀ cs R L ds (.code c:: .inScope c::k)):Tc M St n b H₀ cs R L ds (.code (.scope c)::k):=fun H tmps hs hr=> .OC rfl (fun _=> by simp[G,stepG,stepG.exec,FB.at]) (h H tmps hs hr)
end
end Go.RL
