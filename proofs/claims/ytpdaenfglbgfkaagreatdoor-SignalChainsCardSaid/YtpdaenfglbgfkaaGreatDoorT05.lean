/-
  Texts of the proofs over baudot/signal: Main Top R0 B3 D1 D2 D3 MapOk D4 D5 D6 E1.
-/
import Derived.Test.YtpdaenfglbgfkaaGreatDoorT04
import Derived.Test.YtpdaenfglbgfkaaGreatDoorTie
import Derived.Test.YtpdaenfglbgfkaaGreatDoorCards
import Derived.ProofKit
import Derived.LaidMore
import Derived.LaidHandle
import Derived.Laws.IdiomArrays
import Derived.Conc.HoldsTime
import Derived.SevenTiedAt
section
namespace Go.RL
open Go.Conc Go.ConcN Go.RL.Au
open Go.ConcR (stA smA)
open Go.ConcM (muA OsLater)
attribute [local irreducible] mu
structure AI(P:Program)(H:View)(os0:Os0)(gs:Array Goroutine)(w:World)(t:Trace)(q:Nat→Nat):Prop where
 pos:0<gs.size
 sat:Sat H w
 nr:∀said,¬Race said t
 kn:∀i a,touchAt t i=some a→a.kind=.plain→Knows t 0 i
 np:∀i a b,touchAt t i=some a→a.kind≠ .plain→lb a.loc=some b→H b=none
 np2:∀(i:Nat) op a,t[i]? =some op→op.act.touch? =some a→a.kind≠ .plain→(a.kind=.said→op.g=0)∧(a.kind=.atomic→op.g≠0→¬t.heard i)
 bd:∀i a b,touchAt t i=some a→lb a.loc=some b→b<w.heap.size
 rel:∀a,NoRelease a t
 gb:∀(i:Nat) op,t[i]? =some op→op.g<gs.size
 mem:∀i a,touchAt t i=some a→∃b,lb a.loc=some b
 df0:Deaf t 0=0
 leav:∀i,0<i→i<gs.size→∃g,gs[i]? =some g∧QuitsD P (q i) (Deaf t i) g
 os:Kpt os0 w
section
variable {P:Program}{H:View}{os0:Os0}{gs:Array Goroutine}{w w':World}{t:Trace}{q:Nat→Nat}
theorem AI.at(h:AI P H os0 gs w t q)(d:Nat):AI P H os0 gs (w.at d) t q:=⟨h.pos,h.sat,h.nr,h.kn,h.np,h.np2,h.bd,h.rel,h.gb,h.mem,h.df0,h.leav,h.os⟩
theorem AI.walk(h:AI P H os0 gs w t q){g g':Goroutine}{H':View}{es:Array Event}{fn:FuncId}{pos:String}(ht:Trans H w H' w' es):AI P H' os0 (stepd P gs 0 g g' w') w' (t++MemOp.ofEvents 0 fn pos es) q:=by
 obtain⟨hop,hdf⟩:=evOk_op (X:=⟨0,0,0,0,0,0,fun _ _=> True⟩) (g:=0) (fn:=fn) (pos:=pos) (t:=t) ht.ev
 have hd:∀j,Deaf (t++MemOp.ofEvents 0 fn pos es) j=Deaf t j:=fun j=> Deaf_still t j _ hdf
 have htouch:∀op∈MemOp.ofEvents 0 fn pos es,∀x,op.act.touch? =some x→x.kind=.plain∧∃b f o,lb x.loc=some b∧H' b=some (f,o):=by
   rw[ofEvents_eq]
   intro op hopm x hx
   obtain⟨e,he,rfl⟩:=Array.mem_map.1 hopm
   have hk:=ht.ev e he
   obtain⟨loc,wr,sy⟩:=e
   unfold EvOk at hk
   cases loc with
   | cell a=>
     obtain⟨hs,f,o,h1,h2⟩:=hk
     simp only at hs
     subst hs
     cases wr <;> simp[MemAct.ofEvent,MemAct.touch?] at hx <;> subst hx <;> exact⟨rfl,_,f,o,rfl,h1⟩
   | obj r=>
     obtain⟨hs,f,o,h1,h2⟩:=hk
     simp only at hs
     subst hs
     cases wr <;> simp[MemAct.ofEvent,MemAct.touch?] at hx <;> subst hx <;> exact⟨rfl,_,f,o,rfl,h1⟩
   | mark m=>
     cases m <;> first
       | exact hk.elim
       | simp[MemAct.ofEvent,MemAct.touch?] at hx
   | _=> exact hk.elim
 have old:∀i a b f o,touchAt t i=some a→lb a.loc=some b→H' b=some (f,o)→∃o',H b=some (f,o'):=by
   intro i a b f o ha hb hx
   rcases ht.ext b f o hx with h1|⟨_,hle⟩
   · exact h1
   · have:=h.bd i a b ha hb;omega
 have npk:∀i a b,touchAt t i=some a→a.kind≠ .plain→lb a.loc=some b→H' b=none:=fun i a b ha hk hb=> by
   cases hx:H' b with
   | none=> rfl
   | some x=>
     obtain⟨o',h4⟩:=old i a b x.1 x.2 ha hb hx
     rw[h.np i a b ha hk hb] at h4;cases h4
 refine⟨by rw[stepd_size];exact h.pos,ht.sat,fun said=> ?_,fun i a ha hk=> ?_,fun i a b ha hk hb=> ?_,fun i op a hopi ha hk=> ?_,fun i a b ha hb=> ?_,fun a=> (h.rel a).app fun op hopm=> hop.rel op hopm a,fun i op hopi=> ?_,fun i a ha=> ?_,by rw[hd];exact h.df0,fun i h0 hi=> ?_,h.os.trans ⟨by rw[ht.os];exact OsLater.refl _,ht.out⟩⟩
 · refine noRace_append (h.nr said) hop.own fun i a ha op hopm b hb hc=> ?_
   obtain⟨hloc,hmem,_,_⟩:=hc
   obtain⟨_,blk,f,o,h1,h2⟩:=htouch op hopm b hb
   refine h.kn i a ha (Classical.byContradiction fun hne=> ?_)
   rw[npk i a blk ha hne (by rw[hloc];exact h1)] at h2
   cases h2
 · rcases touch_cases ha with ⟨hi,ha'⟩|⟨hi,op,hopm,hop',hx⟩
   · exact(h.kn i a ha' hk).app _
   · have:=knows_own hop'
     rwa [hop.own op hopm] at this
 · rcases touch_cases ha with ⟨hi,ha'⟩|⟨hi,op,hopm,hop',hx⟩
   · exact npk i a b ha' hk hb
   · exact absurd (htouch op hopm a hx).1 hk
 · rcases getElem?_append_cases hopi with ⟨hi,hop'⟩|⟨hi,hopu⟩
   · obtain⟨h1,h2⟩:=h.np2 i op a hop' ha hk
     exact⟨h1,fun e e'=> by rw[heard_old hi];exact h2 e e'⟩
   · exact absurd (htouch op hopu a ha).1 hk
 · rcases touch_cases ha with ⟨hi,ha'⟩|⟨hi,op,hopm,hop',hx⟩
   · exact Nat.lt_of_lt_of_le (h.bd i a b ha' hb) ht.size
   · obtain⟨_,b',f,o,h1,h2⟩:=htouch op hopm a hx
     rw[h1] at hb
     cases hb
     exact ht.sat.lt h2
 · rw[stepd_size]
   rcases getElem?_append_cases hopi with ⟨hi,hop'⟩|⟨hi,hopu⟩
   · exact h.gb i op hop'
   · rw[hop.own op hopu];exact h.pos
 · rcases touch_cases ha with ⟨hi,ha'⟩|⟨hi,op,hopm,hop',hx⟩
   · exact h.mem i a ha'
   · obtain⟨_,b',f,o,h1,h2⟩:=htouch op hopm a hx
     exact⟨b',h1⟩
 · rw[stepd_size] at hi
   obtain⟨g0,h1,h2⟩:=h.leav i h0 hi
   exact⟨_,stepd_other (by omega) h1,by rw[hd,woken_quitsD h2];exact h2⟩
theorem AI.leave(h:AI P H os0 gs w t q){i q':Nat}{g g':Goroutine}{es:Array Event}{fn:FuncId}{pos:String}(h0:0<i)(hi:i<gs.size)(hm:∀e∈es,e.mute=true)(hq:QuitsD P q' (deafBehind (Deaf t i) es) g'):AI P H os0 (stepd P gs i g g' w) w (t++MemOp.ofEvents i fn pos es) (upd q i q'):=by
 have ho:=mute_ops (g:=i) (fn:=fn) (pos:=pos) hm
 have hown:∀op∈MemOp.ofEvents i fn pos es,op.g=i:=fun op hop=> (ho op hop).1
 have old:∀ {j:Nat} {a:Touch},touchAt (t++MemOp.ofEvents i fn pos es) j=some a→touchAt t j=some a:=by
   intro j a ha
   rcases touch_cases ha with ⟨_,ha'⟩|⟨_,op,hop,_,hxx⟩
   · exact ha'
   · rw[(ho op hop).2.1] at hxx;cases hxx
 refine⟨by rw[stepd_size];exact h.pos,h.sat,fun said=> noRace_append (h.nr said) hown fun j a _ op hop b hb _=> (by rw[(ho op hop).2.1] at hb;cases hb),fun j a ha hk=> (h.kn j a (old ha) hk).app _,fun j a b ha hk hb=> h.np j a b (old ha) hk hb,fun j op a hopj ha hk=> ?_,fun j a b ha hb=> h.bd j a b (old ha) hb,fun a=> (h.rel a).app fun op hop=> (ho op hop).2.2 a,fun j op hopj=> ?_,fun j a ha=> h.mem j a (old ha),?_,fun j h0' hj=> ?_,h.os⟩
 · rcases getElem?_append_cases hopj with ⟨hl,hop'⟩|⟨hl,hopu⟩
   · obtain⟨h1,h2⟩:=h.np2 j op a hop' ha hk
     exact⟨h1,fun e e'=> by rw[heard_old hl];exact h2 e e'⟩
   · rw[(ho op hopu).2.1] at ha;cases ha
 · rw[stepd_size]
   rcases getElem?_append_cases hopj with ⟨hl,hop'⟩|⟨hl,hopu⟩
   · exact h.gb j op hop'
   · rw[hown op hopu];exact hi
 · rw[Deaf_other t (g:=0) (g':=i) (by omega) _ hown];exact h.df0
 · rw[stepd_size] at hj
   by_cases e:j=i
   · subst e
     exact⟨g',stepd_self hj,by rw[upd_same,Deaf_own];exact hq⟩
   · obtain⟨g0,h1,h2⟩:=h.leav j h0' hj
     exact⟨_,stepd_other e h1,by rw[upd_ne _ _ e,Deaf_other t (g:=j) (g':=i) (Ne.symm e) _ hown,woken_quitsD h2];exact h2⟩
theorem AI.begin {X:Fk}{Fin:Goroutine→Prop}{H₁ F:View}{o:Obj}{g:Goroutine}(hn0:0<X.n)(hn6:X.n≤6)(ne:X.Mu≠X.Wg∧X.Mu≠X.C∧X.Wg≠X.C)(hnone:H₁ X.Mu=none∧H₁ X.Wg=none∧H₁ X.C=none)
   (hd:Dj (((H₁.put X.C (true,o)).put X.Mu (true,X.muO ⟨0,0,0,0,0⟩)).put X.Wg (true,X.wgO ⟨0,0,0,0,0⟩)) F) (h:AI P ((((H₁.put X.C (true,o)).put X.Mu (true,X.muO ⟨0,0,0,0,0⟩)).put X.Wg (true,X.wgO ⟨0,0,0,0,0⟩)).plus F) os0 gs w t q)
   (hG:X.GI (fun _=> false) o) (hg:gs[0]? =some g) (hT:∀k,T (Mw P true X.ok) (MS P X Fin k .kd 0) (ro H₁) g):
   ∃s H ks rks D,PI P X Fin (H₁.plus F) gs.size os0 gs w t [] .kd s H ks rks q D:=by
 obtain⟨ρ,hρ⟩:=(hT (mu X.n [] .kd ⟨0,0,0,0,0⟩+1)).rank
 have hWg:(((H₁.put X.C (true,o)).put X.Mu (true,X.muO ⟨0,0,0,0,0⟩)).put X.Wg (true,X.wgO ⟨0,0,0,0,0⟩)) X.Wg=some (true,X.wgO ⟨0,0,0,0,0⟩):=View.put_same ..
 have hMu:(((H₁.put X.C (true,o)).put X.Mu (true,X.muO ⟨0,0,0,0,0⟩)).put X.Wg (true,X.wgO ⟨0,0,0,0,0⟩)) X.Mu=some (true,X.muO ⟨0,0,0,0,0⟩):=by rw[View.put_other _ _ ne.1,View.put_same]
 have hC:(((H₁.put X.C (true,o)).put X.Mu (true,X.muO ⟨0,0,0,0,0⟩)).put X.Wg (true,X.wgO ⟨0,0,0,0,0⟩)) X.C=some (true,o):=by rw[View.put_other _ _ (Ne.symm ne.2.2),View.put_other _ _ (Ne.symm ne.2.1),View.put_same]
 have hH:∀b x,H₁ b=some x→(((H₁.put X.C (true,o)).put X.Mu (true,X.muO ⟨0,0,0,0,0⟩)).put X.Wg (true,X.wgO ⟨0,0,0,0,0⟩)) b=some x:=fun b x hb=> by
   rw[View.put_other,View.put_other,View.put_other]
   · exact hb
   · rintro rfl;rw[hnone.2.2] at hb;cases hb
   · rintro rfl;rw[hnone.1] at hb;cases hb
   · rintro rfl;rw[hnone.2.1] at hb;cases hb
 generalize (((H₁.put X.C (true,o)).put X.Mu (true,X.muO ⟨0,0,0,0,0⟩)).put X.Wg (true,X.wgO ⟨0,0,0,0,0⟩))=HH at hd h hWg hMu hC hH
 have hFn:F X.Mu=none∧F X.Wg=none∧F X.C=none:=⟨hd.none hMu,hd.none hWg,hd.none hC⟩
 have hB:∀b x,(H₁.plus F) b=some x→(HH.plus F) b=some x:=fun b x hb=> by
   unfold View.plus at hb
   split at hb
   · rename_i y hy
     cases hb
     exact plus_left (hH b _ hy)
   · rw[plus_right (hd b x hb)];exact hb
 have hBn:∀b,(HH.plus F) b=none→(H₁.plus F) b=none:=fun b hb=> by
   cases hx:(H₁.plus F) b with
   | none=> rfl
   | some x=> rw[hB b x hx] at hb;cases hb
 have hV:∀j b,upd (fun _=> fun _=> none) 0 (ro H₁) j b=if j=0 then ro H₁ b else none:=fun j b=> by
   by_cases e:j=0
   · subst e;rw[upd_same,if_pos rfl]
   · rw[upd_ne _ _ e,if_neg e]
 have hro:∀b f o',ro H₁ b=some (f,o')→∃f',(HH.plus F) b=some (f',o'):=fun b f o' hb=> by
   obtain⟨_,f',h1⟩:=ro_some hb
   exact⟨f',plus_left (hH b _ h1)⟩
 have hact:∀j,Act gs.size gs.size j→j=0:=fun j hj=> hj.elim id fun⟨h1,h2⟩=> by omega
 refine⟨⟨0,0,0,0,0⟩,upd (fun _=> fun _=> none) 0 (ro H₁),fun _=> mu X.n [] .kd ⟨0,0,0,0,0⟩+1,ρ::List.replicate (gs.size-1) .stop,fun _=> false,Inv.start hn0 hn6,h.pos,ne,fun κ=> rfl,fun _ _=> Nat.lt_succ_self _,⟨⟨?_,?_⟩,?_,⟨fun j b f o' hb=> ?_,fun i j hij b o' hi=> ?_,fun j=> ?_,fun b f o' hb=> ?_,fun j b x o' _ hj=> ?_,?_⟩,fun j hj b=> ?_,?_,fun _=> ⟨⟨o,?_,hG⟩,fun j=> ?_,fun i a ha hb=> ?_⟩,fun κ T hκ=> ?_,fun κ T hκ=> ?_,h.df0,fun κ T hκ=> ?_,h.os⟩,⟨rfl,?_,⟨g,ρ,hg,rfl,?_⟩,fun κ T hκ=> ?_,h.leav⟩⟩
 · exact h.sat _ _ _ (plus_left hMu)
 · exact h.sat _ _ _ (plus_left hWg)
 · exact h.sat.lt (plus_left hC)
 · rw[hV] at hb
   split at hb
   · obtain⟨f',h1⟩:=hro b f o' hb
     exact h.sat b f' o' h1
   · cases hb
 · rw[hV] at hi
   split at hi
   · have:=(ro_some hi).1;cases this
   · cases hi
 · rw[hV,hV]
   split
   · exact⟨ro_none hnone.1,ro_none hnone.2.1⟩
   · exact⟨rfl,rfl⟩
 · exact h.sat b f o' (hB b _ hb)
 · rw[hV] at hj
   split at hj
   · have:=(ro_some hj).1;cases this
   · cases hj
 · exact⟨by rw[plus_right hnone.1];exact hFn.1,by rw[plus_right hnone.2.1];exact hFn.2.1,by rw[plus_right hnone.2.2];exact hFn.2.2⟩
 · rw[hV,if_neg fun e=> hj (.inl e)]
 · refine ⟨h.nr,h.bd,fun j hj i a b f o' ha hb hx hw=> ?_,fun i op a hop ha hk _=> h.kn i a (by rw[touchAt_of hop];exact ha) hk,fun i a b ha hk hb=> ?_,h.np2,fun j hj i a b ha hk hb _=> ?_,h.rel,h.gb,h.mem⟩
   · have:=hact j hj
     subst this
     rw[hV,if_pos rfl] at hx
     obtain⟨f',h1⟩:=hro b f o' hx
     refine h.kn i a ha (Classical.byContradiction fun hne=> ?_)
     rw[h.np i a b ha hne hb] at h1
     cases h1
   · have h1:=h.np i a b ha hk hb
     refine⟨fun j=> ?_,hBn b h1,?_⟩
     · rw[hV]
       split
       · cases hx:ro H₁ b with
         | none=> rfl
         | some x=>
           obtain⟨f',h2⟩:=hro b x.1 x.2 hx
           rw[h1] at h2;cases h2
       · rfl
     · rintro rfl
       rw[plus_left hC] at h1
       cases h1
   · have:=hact j hj
     subst this
     exact h.kn i a ha hk
 · exact h.sat _ _ _ (plus_left hC)
 · rw[hV]
   split
   · exact ro_none hnone.2.2
   · rfl
 · refine .inl fun j hj=> ?_
   have:=hact j hj
   subst this
   refine h.kn i a ha (Classical.byContradiction fun hne=> ?_)
   have:=h.np i a _ ha hne hb
   rw[plus_left hC] at this
   cases this
 · simp at hκ
 · simp at hκ
 · simp at hκ
 · simp;have:=h.pos;omega
 · rw[upd_same];exact .walk hρ
 · simp at hκ
theorem PI.ends {X:Fk}{Fin:Goroutine→Prop}{H₁ F:View}{base:Nat}{ths:List Th}{s:Sh}{H:Nat→View}{ks:Nat→Nat}{rks:List Rank}{D:Nat→Bool}{g g':Goroutine}(h:PI P X Fin (H₁.plus F) base os0 gs w t ths .aq s H ks rks q D)(hC:H₁ X.C=none)(fn:FuncId)(pos:String):
   ∃o,X.GI (fun i=> decide (i<X.n)) o∧F X.C=none∧AI P ((H₁.put X.C (true,o)).plus F) os0 (stepd P gs 0 g g' w) w (t++MemOp.ofEvents 0 fn pos #[Go.ConcR.mk (.acquire (stA X.Wg))]) q:=by
 obtain⟨hlen,hquit⟩:=h.inv.done rfl
 have hb:=h.b1
 have hsz:=h.si.size
 have hN:0<gs.size:=by omega
 obtain⟨⟨o,h1,h2⟩,h3,_⟩:=h.wt.free fun κ T hκ=> by rw[hquit κ T hκ];rfl
 have hD:D=fun i=> decide (i<X.n):=by
   funext κ
   rw[h.dd κ]
   by_cases e:κ<ths.length
   · rw[List.getElem?_eq_getElem e,hquit κ _ (List.getElem?_eq_getElem e)]
     simp[Th.did];omega
   · rw[List.getElem?_eq_none (by omega)]
     simp;omega
 subst hD
 have hFC:F X.C=none:=by have:=h.wt.vi.bn.2.2;rw[plus_right hC] at this;exact this
 have hop:=mark_op (X:=X) (H:=H 0) (g:=0) (fn:=fn) (pos:=pos) (m:=.acquire (stA X.Wg)) (t:=t) (fun x hx=> by cases hx) (fun a e=> by cases e)
 have hti:=h.wt.tiOwn h.ne (.inl rfl) hN hop
 have hdd:∀j,Deaf (t++MemOp.ofEvents 0 fn pos #[Go.ConcR.mk (.acquire (stA X.Wg))]) j=Deaf t j:=fun j=> mark_deaf (by simp) (by simp)
 have hj:=h.wt.ti.join (y:= { g:=0,fn,pos,act:=.mark (.acquire (stA X.Wg)) }) ⟨rfl,rfl⟩ h.wt.df0 fun g hge hlt=> by
   have hκ:g-base<ths.length:=by omega
   have hT:=List.getElem?_eq_getElem hκ
   obtain⟨r,hr⟩:=h.wt.muted _ _ hT (by rw[hquit _ _ hT];rfl)
   rw[show base+(g-base)=g by omega] at hr
   exact⟨r,hr⟩
 rw[←one_mark] at hj
 refine⟨o,h2,hFC,by rw[stepd_size];exact hN,fun b f o' hbb=> ?_,hti.nr,hj,fun i a b ha hk hb'=> ?_,hti.np2,hti.bd,hti.rel,fun i op hopi=> by rw[stepd_size];exact hti.gs i op hopi,hti.mem,by rw[hdd];exact h.wt.df0,fun i h0 hi=> ?_,h.wt.os⟩
 · unfold View.plus at hbb
   split at hbb
   · rename_i y hy
     cases hbb
     by_cases e:b=X.C
     · subst e;rw[View.put_same] at hy;cases hy;exact h1
     · rw[View.put_other _ _ e] at hy
       exact h.wt.vi.bs b f o' (plus_left hy)
   · rename_i hy
     have e:b≠X.C:=by rintro rfl;rw[View.put_same] at hy;cases hy
     rw[View.put_other _ _ e] at hy
     exact h.wt.vi.bs b f o' (by rw[plus_right hy];exact hbb)
 · obtain⟨_,g2,g3⟩:=hti.np i a b ha hk hb'
   unfold View.plus at g2 ⊢
   rw[View.put_other _ _ g3]
   exact g2
 · rw[stepd_size] at hi
   rcases Nat.lt_or_ge i base with hlt|hge
   · obtain⟨g0,g1,g2⟩:=h.si.leav i h0 hlt
     exact⟨_,stepd_other (by omega) g1,by rw[hdd,woken_quitsD g2];exact g2⟩
   · have hκ:i-base<ths.length:=by omega
     have hT:=List.getElem?_eq_getElem hκ
     obtain⟨g0,ρ,g1,_,g2⟩:=h.si.work _ _ hT
     rw[show base+(i-base)=i by omega] at g1 g2
     have hq:QuitsD P (q i) (Deaf t i) g0:=by
       cases g2 with
       | quit _ hq=> exact hq
       | quiet n Dw hh _ _=> exact absurd (hquit _ _ hT) hh.1
       | walk Dw hh _ _=> rw[hquit _ _ hT] at hh;cases hh
       | wait c g₀ Dw hh _ _=> have:=hh.1;rw[hquit _ _ hT] at this;cases this
     exact⟨_,stepd_other (by omega) g1,by rw[hdd,woken_quitsD hq];exact hq⟩
def AtRet(P:Program)(Post:Value→World→Prop)(H:View)(g:Goroutine):Prop:=
 g.status=.running∧∀w,Sat H w→∃v es,stepG P true g w=.ended (.done v) w es∧(∀e∈es,EvOk H e)∧Post v w
inductive MI(P:Program)(St:View→Goroutine→Prop)(os0:Os0):Rank×Meas→Machine→Trace→Prop where
 | alone {gs:Array Goroutine} {w:World} {sl:Option (Nat×Nat)} {t:Trace} {q:Nat→Nat} {H:View} {g:Goroutine} {ρ:Rank} (h:AI P H os0 gs w t q) (hg:gs[0]? =some g) (hT:Tr (Mp P) St ρ H g) (hρ:∀f,ρ≠ .phase f):MI P St os0 (ρ,0,[],sumTo gs.size q,0) (crowd gs w sl) t
 | phase {gs:Array Goroutine} {w:World} {sl:Option (Nat×Nat)} {t:Trace} {q:Nat→Nat} {X:Fk} {Fin:Goroutine→Prop} {H₁ F:View} {base:Nat} {ths:List Th} {m:Mn} {s:Sh} {H:Nat→View} {ks:Nat→Nat} {rks:List Rank} {D:Nat→Bool} {f:View→Goroutine→Rank} {μ:Meas}
     (h:PI P X Fin (H₁.plus F) base os0 gs w t ths m s H ks rks q D) (hC:H₁ X.C=none) (hd:Dj H₁ F) (hμ:μ=PI.meas X gs ths m s rks q)
     (hk:∀o g',X.GI (fun i=> decide (i<X.n)) o→Fin g'→F X.C=none→Tr (Mp P) St (f ((H₁.put X.C (true,o)).plus F) g') ((H₁.put X.C (true,o)).plus F) g'):MI P St os0 (.phase f,μ) (crowd gs w sl) t
theorem MI.of {St:View→Goroutine→Prop}{sl:Option (Nat×Nat)}{g:Goroutine}{ρ:Rank}(h:AI P H os0 gs w t q)(hg:gs[0]? =some g)(hT:Tr (Mp P) St ρ H g):∃μ,MI P St os0 (ρ,μ) (crowd gs w sl) t:=by
 cases ρ with
 | stop=> exact⟨_,.alone h hg hT (fun f=> by simp)⟩
 | step f=> exact⟨_,.alone h hg hT (fun f=> by simp)⟩
 | phase f=>
   obtain⟨Po,⟨H₁,F,Po₁,hd,rfl,⟨X,Fin,H₂,o,hn0,hn6,ne,hnone,rfl,hG,hMS,hend⟩,hP⟩,hk⟩:=hT
   obtain⟨s,H',ks,rks,D,hPI⟩:=AI.begin hn0 hn6 ne hnone hd h hG hg hMS
   have hd':Dj H₂ F:=fun b x hb=> by
     have:=hd b x hb
     cases hx:H₂ b with
     | none=> rfl
     | some y=>
       rw[View.put_other,View.put_other,View.put_other] at this
       · rw[hx] at this;cases this
       · rintro rfl;rw[hnone.2.2] at hx;cases hx
       · rintro rfl;rw[hnone.1] at hx;cases hx
       · rintro rfl;rw[hnone.2.1] at hx;cases hx
   exact⟨_,.phase hPI hnone.2.2 hd' rfl fun o g' ho hF hFC=> hk _ _ (hP _ _ (hd'.put hFC) (hend o g' ho hF))⟩
def LtAll:Rank×Meas→Rank×Meas→Prop:=Prod.Lex Rank.Lt LtMeas
theorem LtAll.wf:WellFounded LtAll:=(Prod.lex ⟨Rank.Lt,Rank.wf⟩ ⟨LtMeas,LtMeas.wf⟩).wf
theorem handed(h:AI P H os0 gs w t q):t.HandedOver:=by
 intro i g hgi hne hc
 obtain⟨x,hx,hm,hk⟩:=hc
 obtain⟨op,hop,hopx⟩:=touch_of hx
 have hog:op.g=g:=by simpa [Trace.g?,hop] using hgi
 have hpl:x.kind=.plain:=by
   refine Classical.byContradiction fun hne'=> ?_
   obtain⟨h1,h2⟩:=h.np2 i op x hop hopx hne'
   have hnsaid:x.kind≠ .said:=fun e=> hne (hog▸h1 e)
   have hat:x.kind=.atomic:=by
     cases hkk:x.kind with
     | plain=> exact absurd hkk hne'
     | atomic=> rfl
     | said=> exact absurd hkk hnsaid
   rcases hk with hk|hk
   · exact hk hat
   · exact h2 hat (by rw[hog];exact hne) hk
 obtain⟨j,z,h1,h2,h3⟩:=h.kn i x hx hpl
 refine⟨j,by simp[Trace.g?,h1,h2],?_⟩
 rcases h3 with rfl|h3
 · rw[hop] at h1
   cases h1
   exact absurd (hog.symm.trans h2) hne
 · exact h3
theorem MI.step {Post:Value→World→Prop}(μ:Rank×Meas)(m:Machine)(t:Trace)(h:MI P (AtRet P Post) os0 μ m t):
   (∃o w ops,stepT P m=(.ended o w,ops)∧Go.Conc.Good P (fun v w=> Post v w∧Kpt os0 w) m o w (t++ops))∨(∃m' ops μ',stepT P m=(.next m',ops)∧LtAll μ' μ∧MI P (AtRet P Post) os0 μ' m' (t++ops)):=by
 cases h with
 | phase h hC hd hμ hk=>
   rename_i gs w sl q X Fin H₁ F base ths mn s H ks rks D f μ
   obtain⟨d,hg⟩:=h.step (sl:=sl)
   rcases hg with ⟨gs',w',sl',ops,ths',m',s',H',ks',rks',q',D',hr,hPI,hlt⟩|⟨gs',sl',g,g',ths',s',H',ks',rks',q',D',hg0,hr,rfl,hF,hPI⟩
   · exact .inr ⟨_,ops,(.phase f,_),hr,.right _ (by rw[hμ];exact hlt),.phase hPI hC hd rfl hk⟩
   · obtain⟨o,ho,hFC,hAI⟩:=hPI.ends (g:=g) (g':=g') hC g.frame.fn g.frame.place
     obtain⟨μ',hMI⟩:=MI.of (sl:=sl') hAI (stepd_self (by have:=hPI.si.size;have:=hPI.b1;omega)) (hk o g' ho hF hFC)
     exact .inr ⟨_,_,_,hr,.left _ _ (.phase f _ _),hMI⟩
 | alone h hg hT hρ=>
   rename_i gs w sl q H g ρ
   have hrun:g.status=.running:=by
     cases ρ with
     | stop=> exact hT.1
     | step f=> exact hT.1
     | phase f=> exact absurd rfl (hρ f)
   have haw:∀x∈gs,awake x:=by
     intro x hx tm
     obtain⟨i,hi,rfl⟩:=Array.mem_iff_getElem.1 hx
     have hi':=Array.getElem?_eq_getElem hi
     by_cases e0:i=0
     · subst e0
       rw[hg] at hi'
       cases hi'
       rw[hrun];simp
     · obtain⟨g0,h1,h2⟩:=h.leav i (by omega) hi
       rw[h1] at hi'
       cases hi'
       rcases h2.status with e|e <;> rw[e] <;> simp
   obtain⟨i,g₁,d,sl',hg₁,hr₁,hstep⟩:=crowd_pick (P:=P) (w:=w) (sl:=sl) haw ⟨0,g,hg,hrun⟩
   rw[hstep]
   have h':=h.at d
   by_cases e0:i=0
   · subst e0
     rw[hg] at hg₁
     cases hg₁
     cases ρ with
     | phase f=> exact absurd rfl (hρ f)
     | step f=>
       obtain⟨_,hst⟩:=hT
       obtain⟨g',w',es,H',h3,h4,h5⟩:=hst (w.at d) h'.sat trivial
       have hAI:=h'.walk (g:=g) (g':=g') (fn:=g.frame.fn) (pos:=g.frame.place) h4
       obtain⟨μ',hMI⟩:=MI.of (sl:=sl') hAI (stepd_self h.pos) h5
       exact .inr ⟨_,_,_,runT_crowd_go hg h3,.left _ _ (.step f _),hMI⟩
     | stop=>
       obtain⟨_,hst⟩:=hT
       obtain⟨v,es,h3,h4,h5⟩:=hst (w.at d) h'.sat
       have hAI:=h'.walk (g:=g) (g':=g) (fn:=g.frame.fn) (pos:=g.frame.place) { Trans.refl h'.sat with ev:=h4 }
       have hleaves:∀x∈(crowd gs w sl).gs.toList.drop 1,x.Leaves P:=fun x hx=> by
         obtain⟨j,hj⟩:=List.mem_iff_getElem?.1 hx
         rw[List.getElem?_drop] at hj
         have hj':gs[1+j]? =some x:=by simpa [crowd] using hj
         have hjl:=(Array.getElem?_eq_some_iff.1 hj').1
         obtain⟨g0,g1,g2⟩:=h.leav (1+j) (by omega) hjl
         rw[hj'] at g1
         cases g1
         exact⟨_,g2.leaves⟩
       have hhear:(crowd gs w sl).EndHearing P (t++MemOp.ofEvents 0 g.frame.fn g.frame.place es):=fun j x hj hj0=> by
         have hj':gs[j]? =some x:=hj
         have hjl:j<gs.size:=(Array.getElem?_eq_some_iff.1 hj').1
         obtain⟨g0,g1,g2⟩:=h.leav j (by omega) hjl
         rw[hj'] at g1
         cases g1
         refine⟨q j,?_⟩
         have hdf:Deaf (t++MemOp.ofEvents 0 g.frame.fn g.frame.place es) j=Deaf t j:=Deaf_other t (g:=j) (g':=0) (by omega) _ ofEvents_g
         have e:(t++MemOp.ofEvents 0 g.frame.fn g.frame.place es).deaf j (t++MemOp.ofEvents 0 g.frame.fn g.frame.place es).size=Deaf t j:=hdf
         rw[e]
         exact g2.hears _
       exact .inl ⟨_,_,_,runT_many_ended hg h3,v,rfl,⟨h5,h.os⟩,hAI.nr,handed hAI,⟨hleaves,rfl⟩,hhear⟩
   · have hi:i<gs.size:=(Array.getElem?_eq_some_iff.1 hg₁).1
     obtain⟨g0,g1,g2⟩:=h.leav i (by omega) hi
     rw[g1] at hg₁
     cases hg₁
     have hi0:(i==0)=false:=by simp;omega
     cases hqq:q i with
     | zero=> rw[hqq] at g2;rw[g2.1] at hr₁;cases hr₁
     | succ q'=>
       rw[hqq] at g2
       rcases g2 with ⟨hf,_⟩|⟨_,g',es,hmu,hst,hq'⟩
       · rw[hf] at hr₁;cases hr₁
       · have hAI:=h'.leave (g:=g₁) (fn:=g₁.frame.fn) (pos:=g₁.frame.place) (by omega) hi hmu hq'
         have h0':(stepd P gs i g₁ g' (w.at d))[0]? =some g:=by
           rw[stepd_other (by omega) hg,woken_running (.inl hrun)]
         refine .inr ⟨_,_,_,runT_crowd_go g1 (by rw[hi0];exact hst _),?_,.alone hAI h0' hT hρ⟩
         refine .right _ (lt_q ?_)
         show sumTo (stepd P gs i g₁ g' (w.at d)).size _<_
         rw[stepd_size]
         have:=sumTo_upd (f:=q) q' (fun a=> a) (i:=i) (j:=gs.size) hi
         have e:sumTo gs.size (fun a=> upd q i q' a)=sumTo gs.size (upd q i q'):=rfl
         have e2:sumTo gs.size (fun a=> q a)=sumTo gs.size q:=rfl
         omega
theorem T.runs {Post:Value→World→Prop}{H:View}{g:Goroutine}{W:World}(h:T (Mp P) (AtRet P Post) H g)(hs:Sat H W):
   ∃N last o w' t',runNT P (N+1) (solo g W) #[]=(.ended o w',t')∧runN P N (solo g W)=.next last∧Go.step P last=.ended o w'∧Go.Conc.Good P (fun v w=> Post v w∧Kpt (W.os,W.output) w) last o w' t':=by
 obtain⟨ρ,hρ⟩:=h.rank
 have hAI:AI P H (W.os,W.output) #[g] W #[] (fun _=> 0):=by
   have none:∀(i:Nat) a,touchAt #[] i≠some a:=fun i a=> by simp[touchAt,Trace.act?]
   exact⟨by simp,hs,fun said ⟨i,j,_,⟨a,_,ha,_⟩,_⟩=> by simp[Trace.act?] at ha,fun i a ha=> absurd ha (none i a),fun i a b ha=> absurd ha (none i a),fun i op a hop=> by simp at hop,fun i a b ha=> absurd ha (none i a),fun a i=> by simp[Trace.act?],fun i op hop=> by simp at hop,fun i a ha=> absurd ha (none i a),rfl,fun i h0 hi=> by simp at hi;omega,Kpt.refl _⟩
 obtain⟨μ,hMI⟩:=MI.of (sl:=none) hAI (by simp) hρ
 rw[solo_eq_crowd]
 exact run_of_inv LtAll.wf (MI P (AtRet P Post) (W.os,W.output)) (fun m o w t=> Go.Conc.Good P (fun v w=> Post v w∧Kpt (W.os,W.output) w) m o w t) (fun μ m t hm=> MI.step μ m t hm) _ _ _ hMI
end
end Go.RL
end
section
namespace Go.RL
open Go.Conc Go.ConcN
section
variable {P:Program}{n:Nat}{R:Rg}{L:Bl}{H₀:View}{k:List Item}
theorem T.top {M:Md P}{Post:Value→World→Prop}{H:View}{fn:Func}{b:FB}{tmps:Array Value}{todo:List Item}{v:Value}(hf:P.funcs[b.fn]? =some fn)(hi:P.inits.idxOf? b.fn=none)(hk:b.kind=.normal)(hv:resP fn R v)(hr:RegOk n R tmps)
   (hp:∀w,Sat H w→Post v w):T M (AtRet P Post) H (G (b.back tmps [] todo) []):=by
 refine .stop ⟨rfl,fun w hs=> ⟨v,#[],?_,fun e he=> by simp at he,hp w hs⟩⟩
 have:stepG P true (G (b.back tmps [] todo) []) w=unwind P true (b.back tmps [] todo) [] none w:=by simp[G,stepG,FB.back]
 rw[this]
 unfold unwind
 simp only[FB.back,hf,hv.run (P:=P) hr w,doReturn,hk,hi,GStep.after,seen_none]
 simp
theorem Tc.retTop {Post:Value→World→Prop}{fn:Func}{f:FuncId}{v:Value}(hf:P.funcs[f]? =some fn)(hi:P.inits.idxOf? f=none)(hv:resP fn R v)(hp:∀H w,SymSt H₀ L H→Sat H w→Post v w):
   Tc (Mp P) (AtRet P Post) n ⟨f,.normal,none⟩ H₀ [] R L [] (.code .ret::k):=fun H _ hs hr=> .retCode rfl (T.top hf hi rfl hv hr fun w hw=> hp H w hs hw)
theorem T.enterTop {f:FuncId}{fn:Func}{body:Code}{vs:List Value}{H:View}{St:View→Goroutine→Prop}(hf:P.funcs[f]? =some fn)(hb:fn.body=some body)(hn:fn.ntmps=n)(hv:vs.length≤n)
   (h:Tc (Mp P) St n ⟨f,.normal,none⟩ H [] (argR vs) [] [] [.code body]):T (Mp P) St H (G (Frame.enter P f vs.toArray .normal) []):=by
 have:=h H (vs.toArray++Array.replicate (n-vs.length) undef) (SymSt.nil H) ⟨by simp;omega,fun d v hd=> ?_⟩
 · have e:Frame.enter P f vs.toArray .normal=(⟨f,.normal,none⟩:FB).at (vs.toArray++Array.replicate (n-vs.length) undef) [] [.code body]:=by
     simp[Frame.enter,FB.at,hf,hb,hn]
   rw[e]
   exact this
 · obtain⟨_,h2⟩:=argR_go vs 0 d v hd
   simp only[Nat.sub_zero] at h2
   have hlt:=(List.getElem?_eq_some_iff.1 h2).1
   rw[Array.getElem?_append_left (by simpa using hlt)]
   simpa using h2
end
end Go.RL
end
section
namespace Go.Proofs.YtpdaenfglbgfkaaGreatDoor
open Go.RL Go.ChangeShapes Go.WideShapes Go.ChangeAt Go.RowKit
set_option maxRecDepth 100000
def fullV(W:World):View:=fun b=> (W.heap[b]?).map fun o=> (false,o)
theorem fullV_sat(W:World):Sat (fullV W) W:=fun b f o h=> by
 simp only[fullV,Option.map_eq_some_iff,Prod.mk.injEq] at h
 obtain⟨o',h1,_,rfl⟩:=h
 exact h1
theorem ownK:ownKnob Tryz.prog.godebug=none:=by kernel_rfl
theorem laidOutK:laidOutB Tryz.prog=true:=by kernel_rfl
theorem gChecks:Tryz.prog.globalNamed "baudot/signal.checks"=some 0:=by kernel_rfl
theorem tChecks:(Tryz.prog.globals[0]?).map (·.type)=some 173:=by kernel_rfl
theorem und173:Tryz.prog.underlying 173=some (.array 4 172):=by kernel_rfl
theorem und172:Tryz.prog.underlying 172=some (.func #[109] #[4] false):=by kernel_rfl
theorem cells172:Tryz.prog.cellsOf 172=1:=by kernel_rfl
theorem cells173:Tryz.prog.cellsOf 173=4:=by kernel_rfl
theorem glob_of {W:World}(h:laidMetH Tryz.prog [("baudot/signal.checks",Rows.laid_baudot_signal_checks)] W):Glob (fullV W):=by
 obtain⟨g,t,cs,fuel,p,hg,ht,hv,hd⟩:=h.funcs (List.mem_singleton.2 rfl)
 obtain rfl:=Option.some.inj (gChecks.symm.trans hg)
 obtain rfl:=Option.some.inj (tChecks.symm.trans ht)
 have hh:∃gt gz,W.heap[0]? =some (.cells cs gt gz):=by
   unfold World.var? at hv
   rw[gChecks] at hv
   simp only[Option.bind_some] at hv
   split at hv
   · rename_i cs' t' z e
     obtain rfl:=Option.some.inj hv
     exact⟨_,_,e⟩
   · cases hv
 obtain⟨gt,gz,hh⟩:=hh
 have hlen:cs.toList.length=4:=by
   cases fuel with
   | zero=> simp[DataW.trod] at hd
   | succ n=>
     unfold DataW.trod at hd
     rw[und173] at hd
     simp[cells173] at hd
     simpa using hd.1
 obtain⟨c0,c1,c2,c3,hcs⟩:∃c0 c1 c2 c3,cs.toList= [c0,c1,c2,c3]:=by
   match e:cs.toList,hlen with
   | [c0,c1,c2,c3],_=> exact⟨c0,c1,c2,c3,rfl⟩
 rw[hcs] at hd
 obtain⟨y0,y1,y2,y3,n,hx,r0,r1,r2,r3⟩:=trod_array4 und173 cells172 hd
 have hx':=congrArg Prod.fst hx
 have hx2:(DataW.agg [y0.1,y1.1,y2.1,y3.1]:DataW (List UInt8))=DataW.agg [.held _,.held _,.held _,.held _]:=hx'.symm
 simp only[DataW.agg.injEq,List.cons.injEq,and_true] at hx2
 obtain⟨e0,e1,e2,e3⟩:=hx2
 obtain⟨d0,q0⟩:=y0
 obtain⟨d1,q1⟩:=y1
 obtain⟨d2,q2⟩:=y2
 obtain⟨d3,q3⟩:=y3
 simp only at e0 e1 e2 e3
 subst e0 e1 e2 e3
 obtain rfl:=func_of_trod (f0:=250) und172 (by kernel_rfl) r0
 obtain rfl:=func_of_trod (f0:=251) und172 (by kernel_rfl) r1
 obtain rfl:=func_of_trod (f0:=248) und172 (by kernel_rfl) r2
 obtain rfl:=func_of_trod (f0:=252) und172 (by kernel_rfl) r3
 refine⟨false,gt,gz,?_⟩
 have ec:cs=⟨[chkF 0,chkF 1,chkF 2,chkF 3]⟩:=by
   apply Array.ext'
   rw[hcs]
   rfl
 rw[←ec]
 simp only[fullV,hh,Option.map_some]
section
variable {H:Type}{enc:TypeId×Value→H}{P:Program}{W W':World}
theorem trodAll_stays(hl:laidOutB P=true)(hb:∀x:MemPlace,x.block<W.heap.size→W.sameAt W' x):∀ {ts:List TypeId} {vs:List Value} {ds:List (DataW H)} {p:List MemPlace},ts.all (fun t=> P.readableRec t&&decide (t<P.types.size))=true→
   DataW.TrodAll enc P W 0 (fun _=> true) true ts vs ds p→(∀x∈p,x.block<W.heap.size)→DataW.TrodAll enc P W' 0 (fun b=> decide (b<W.heap.size)) true ts vs ds p
 | [],[],[],_,_,h,_=> h
 | t::ts,v::vs,d::ds,p,hr,h,hlt=> by
   simp only[List.all_cons,Bool.and_eq_true,decide_eq_true_eq] at hr
   obtain⟨a,b,h1,h2,rfl⟩:=h
   exact⟨a,b,WideElems.Trod_stays hl hr.1.1 hr.1.2 h1 (fun x hx=> hb x (hlt x (by simp[hx]))) (fun x hx=> by simpa using hlt x (by simp[hx])),trodAll_stays hl hb hr.2 h2 (fun x hx=> hlt x (by simp[hx])),rfl⟩
 | [],[],_::_,_,_,h,_=> h.elim
 | [],_::_,[],_,_,h,_=> h.elim
 | [],_::_,_::_,_,_,h,_=> h.elim
 | _::_,[],[],_,_,h,_=> h.elim
 | _::_,[],_::_,_,_,h,_=> h.elim
 | _::_,_::_,[],_,_,h,_=> h.elim
theorem trodAll_len {base:Nat}{sp:Nat→Bool}{held:Bool}:∀ {ts:List TypeId} {vs:List Value} {ds:List (DataW H)} {p:List MemPlace},DataW.TrodAll enc P W base sp held ts vs ds p→ds.length=ts.length
 | [],[],[],_,_=> rfl
 | _::_,_::_,_::_,_,h=> by
   obtain⟨_,_,_,h2,_⟩:=h
   simp[trodAll_len h2]
 | [],[],_::_,_,h=> h.elim
 | [],_::_,[],_,h=> h.elim
 | [],_::_,_::_,_,h=> h.elim
 | _::_,[],[],_,h=> h.elim
 | _::_,[],_::_,_,h=> h.elim
 | _::_,_::_,[],_,h=> h.elim
theorem keptBut_of_kept(ho:W'.os=W.os)(hout:W'.output=W.output)(hb:∀b<W.heap.size,W'.heap[b]? =W.heap[b]?)(may:MemPlace→Prop):W.keptBut W' may:=by
 refine⟨ho,hout,fun i hi=> ?_⟩
 rw[hb i hi]
 cases h:W.heap[i]? with
 | none=> exact rfl
 | some o=>
   cases o with
   | cells c t fr=> exact⟨rfl,rfl,rfl,fun _ _=> rfl⟩
   | map es k=> exact .inr ⟨rfl,rfl⟩
   | _=> exact rfl
theorem post_kept {f:Func}{s:ChangeSpec}{args:Array Value}{ds gs:List (DataW H)}{before:List MemPlace}{tb:TypeId}(hl:laidOutB P=true)(hr:f.params.toList.all (fun t=> P.readableRec t&&decide (t<P.types.size))=true)
   (hres:f.resultTypes=#[tb]) (htb:P.underlying tb=some .bool) (hs:s.vars= []) (hW:DataW.Whole enc P f.params.toList s.vars false W args.toList ds gs before) (hfn:s.fn H (ds++gs)= { results:= [.lit (.bool true)],args:=ds })
   (hout:W'.output=W.output) (hsz:W.heap.size≤W'.heap.size) (hb:∀b<W.heap.size,W'.heap[b]? =W.heap[b]?):s.post enc P f false true false false W args (.bool true) { W' with os:=W.os }:=by
 have hlt:=hW.lt
 have hW0:=hW
 obtain⟨p,q,hA,hV,rfl,hfz,hnd⟩:=hW
 rw[hs] at hV
 obtain⟨rfl,rfl⟩:=trodVars_none hV
 have hbel:Below W.heap.size W { W' with os:=W.os,tape:=W.tape }:=⟨rfl,rfl,hout,hsz,hb⟩
 refine⟨ds,[],p++[],[],p,[],hW0,?_,?_,?_,keptBut_of_kept (W:=W) (W':= { W' with os:=W.os }) rfl hout hb _,fun h=> nomatch h⟩
 · rw[hfn,hres]
   exact trodAll_mk1 (shut_bool htb _)
 · rw[hfn]
   exact trodAll_stays (W':= { W' with os:=W.os }) hl (fun x hx=> hbel.same hx) hr hA (fun x hx=> hlt x (by simp[hx]))
 · rw[hfn,hs]
   rfl
end
theorem lifted {f:FuncId}{fn:Func}{s:ChangeSpec}{n:Nat}{body:Code}{a:Assume}{os:Os}{H:Type}{enc:TypeId×Value→H}{conds:List PathCond}{F:Stop.Interp}
   (hfn:Tryz.prog.funcs[f]? =some fn) (hb:fn.body=some body) (hn:fn.ntmps=n) (hi:Tryz.prog.inits.idxOf? f=none) (hpn:fn.params.size≤n)
   (hres:fn.resultTypes=#[4]) (hread:fn.params.toList.all (fun t=> Tryz.prog.readableRec t&&decide (t<Tryz.prog.types.size))=true)
   (hsv:s.vars= []) (hsf:∀ds:List (DataW H),ds.length=fn.params.size→s.fn H (ds++[])= { results:= [.lit (.bool true)],args:=ds })
   (started:os.Started)
   (witness:∃(w:World) (tape:Tape) (i:Input),w.os=os∧(w.forCall tape i).Shaped Tryz.prog∧i.vars= []∧Input.okWide Tryz.prog (w.forCall tape i) .any w.heap.size f i∧
     ((s.pre enc Tryz.prog fn conds false (w.forCall tape i).memory i.args∧laidMetH Tryz.prog [("baudot/signal.checks",Rows.laid_baudot_signal_checks)] (w.forCall tape i).memory)∧sizedMet enc Tryz.prog fn (OpenSpec.ofChange s) false (w.forCall tape i).memory i.args)∧a.holds Tryz.prog (lone (Frame.enter Tryz.prog f i.args .normal) [] (w.forCall tape i)))
   (walk:∀(W:World) (base:Nat) (vs:List Value) (ds:List (DataW H)) (p:List MemPlace),vs.length=fn.params.size→(∀(j:Nat) t v,fn.params[j]? =some t→vs[j]? =some v→Value.okWide Tryz.prog W .any base t v)→
     DataW.TrodAll enc Tryz.prog W 0 (fun _=> true) true fn.params.toList vs ds p→(DataW.weightsEach Tryz.prog fn.params.toList ds).all (· ≤reachBytes)=true→Glob (fullV W)→
     ∀(St:View→Goroutine→Prop),(∀(H₀:View) (R:Rg) (L:Bl) (kk:List Item),resP fn R (.bool true)→(fullV W).le H₀→Tc (Mp Tryz.prog) St n ⟨f,.normal,none⟩ H₀ [] R L [] (.code .ret::kk))→
     Tc (Mp Tryz.prog) St n ⟨f,.normal,none⟩ (fullV W) [] (argR vs) [] [] [.code body]):
   ReturnsInLeavingWide a Tryz.checked os f .any (fun w args=> (s.pre enc Tryz.prog fn conds false w args∧laidMetH Tryz.prog [("baudot/signal.checks",Rows.laid_baudot_signal_checks)] w)∧sizedMet enc Tryz.prog fn (OpenSpec.ofChange s) false w args)
     ((OpenSpec.ofChange s).postWith enc Tryz.prog fn F (outsideKept [.timePasses]) false true false):=by
 refine returnsInLeavingWide_of_good (C:=Tryz.checked) ownK started witness ?_
 intro w tape i _ _ _ hok hpre _
 obtain⟨_,_,_,fn',hfn',_,_,_,hsize,hval⟩:=hok
 have e:fn'=fn:=Option.some.inj (hfn'.symm.trans hfn)
 subst e
 obtain⟨⟨⟨ds,gs,before,hw,hc⟩,hl⟩,hz⟩:=hpre
 generalize hWe:w.forCall tape i=W at *
 have hw':DataW.Whole enc Tryz.prog fn'.params.toList s.vars false W i.args.toList ds gs before:=hw.of_heap (by rfl)
 have hl':laidMetH Tryz.prog [("baudot/signal.checks",Rows.laid_baudot_signal_checks)] W:=hl.of_heap (by rfl)
 have hwt:=hz.weights hw
 have hw0:=hw'
 obtain⟨p,q,hA,hV,rfl,hfz,hnd⟩:=hw'
 rw[hsv] at hV
 obtain⟨rfl,rfl⟩:=trodVars_none hV
 have hlen:ds.length=fn'.params.size:=by
   simpa using trodAll_len hA
 have hwt':(DataW.weightsEach Tryz.prog fn'.params.toList ds).all (· ≤reachBytes)=true:=by
   have e:DataSpec.varTypes Tryz.prog (OpenSpec.ofChange s).bare.plain= []:=by
     show List.filterMap _ s.vars= []
     rw[hsv]
     rfl
   have:=hwt
   rw[e] at this
   simpa using this
 have hT :=T.runs (Post:=fun v w=> v=.bool true∧W.heap.size≤w.heap.size∧∀b<W.heap.size,w.heap[b]? =W.heap[b]?) (H:=fullV W) (T.enterTop hfn hb hn (by simpa [hsize] using hpn)
   (walk W w.heap.size i.args.toList ds p (by simpa using hsize) (fun j t v h1 h2=> hval j t v h1 (by simpa using h2)) hA hwt' (glob_of hl') _
     (fun H₀ R L kk hv hle=> Tc.retTop hfn hi hv (fun H w hs hw=> by
       have hk:∀b<W.heap.size,w.heap[b]? =W.heap[b]? :=fun b hb=> by
         have h1:fullV W b=some (false,W.heap[b]):=by simp[fullV,hb]
         rw[hw b false _ (hs.base _ _ (hle _ _ h1))]
         simp[hb]
       refine⟨rfl,?_,hk⟩
       rcases Nat.eq_zero_or_pos W.heap.size with hz|hz
       · omega
       · have h1:=hk (W.heap.size-1) (by omega)
         have h2:=h1.trans (Array.getElem?_eq_getElem (show W.heap.size-1<W.heap.size by omega))
         have:=(Array.getElem?_eq_some_iff.1 h2).1
         omega)))) (fullV_sat W)
 rw[Array.toArray_toList] at hT
 obtain⟨N,last,o,w',t',h1,h2,h3,v,ho,⟨⟨rfl,hp1,hp2⟩,hk1,hk2⟩,r1,r2,r3,r4⟩:=hT
 exact⟨N,last,o,w',t',h1,h2,h3,.bool true,ho,postWith_blind (postWith_of_post (post_kept laidOutK hread hres (by kernel_rfl) hsv hw0 (hsf ds hlen) hk2 hp1 hp2) hk1),r1,r2,r3,r4⟩
theorem slice_val {W:World}{base:Nat}{t e:TypeId}{v:Value}(ht:Tryz.prog.underlying t=some (.slice e))(hv:Value.okWide Tryz.prog W .any base t v):∃a n c,v=.slice a n c:=by
 unfold Value.okWide Cell.okWide Cell.ok at hv
 rw[ht] at hv
 cases v with
 | slice a n c=> exact⟨a,n,c,rfl⟩
 | _=> exact hv.elim
theorem cells_of {W:World}{a:Addr}{v:Value}(h:W.cell? a=some v):∃c t z,W.heap[a.block]? =some (.cells c t z)∧c[a.off]? =some v:=by
 unfold World.cell? at h
 split at h
 · rename_i c t z e
   split at h
   · cases h
   · exact⟨c,t,z,e,h⟩
 · cases h
theorem door_met(os:Os)(args:Array Value):laidMetH Tryz.prog [("baudot/signal.checks",Rows.laid_baudot_signal_checks)] ((World.doorLaid Tryz.prog 600 os).forCall (fun _ _=> 0) ⟨#[],args,[]⟩).memory:=
 laidMetH_of_parts3 (fuel:=8) (laidMet_of_run' 8 (by kernel_rfl) (by kernel_rfl)) (by kernel_rfl) (by kernel_rfl)
theorem witness_calm {H:Type}{enc:TypeId×Value→H}{C:Checked}{os:Os}{f:FuncId}{fn:Func}{s:ChangeSpec}{conds:List PathCond}{apart:Bool}{X:World→Array Value→Prop}(w0:World)(args:Array Value)(fuel:Nat)(hos:w0.os=os)
   (hsh:(w0.forCall (fun _ _=> 0) ⟨#[],args,[]⟩).Shaped C.prog)
   (hok:Input.okWideB C.prog (w0.forCall (fun _ _=> 0) ⟨#[],args,[]⟩) f ⟨#[],args,[]⟩=true)
   (hpre:s.preB enc C.prog fn conds apart (w0.forCall (fun _ _=> 0) ⟨#[],args,[]⟩).memory args fuel=true)
   (hsz:s.sizedB enc C.prog fn apart (w0.forCall (fun _ _=> 0) ⟨#[],args,[]⟩).memory args fuel=true)
   (hx:X (w0.forCall (fun _ _=> 0) ⟨#[],args,[]⟩).memory args):
   ∃ (w:World) (tape:Tape) (i:Input),w.os=os∧(w.forCall tape i).Shaped C.prog∧i.vars= []∧Input.okWide C.prog (w.forCall tape i) .any w.heap.size f i∧
     ((s.pre enc C.prog fn conds apart (w.forCall tape i).memory i.args∧X (w.forCall tape i).memory i.args)∧sizedMet enc C.prog fn (OpenSpec.ofChange s) apart (w.forCall tape i).memory i.args)∧({ calm:=true }:Assume).holds C.prog (lone (Frame.enter C.prog f i.args .normal) [] (w.forCall tape i)):=
 ⟨w0,fun _ _=> 0,⟨#[],args,[]⟩,hos,hsh,(Input.okWide_of_okWideB (base:=0) hok).1,(Input.okWide_of_okWideB hok).2,⟨⟨ChangeSpec.pre_of_preB hpre,hx⟩,sizedMet_of_sizedB hsz⟩,by
   simp only[Assume.holds]
   exact⟨by simp,fun _ _ _ _=> rfl,by simp,by simp,by simp⟩⟩
theorem holds_tied_goes(Lk:Looks){p:Pinned}{s:OpenSpec}{c:OpenClaim}(kinds:List LaidKind)(tests:Bool)(har:Bool×String)(lk:Bool)
   (hc:c.holds p s) (hw:c.wfByText s=true) (htie:c.laidByTextAt Lk p kinds tests)
   (hst:c.start=.entering) (hnb:c.noBlocks=false∧c.again=false) (hm:p.checked.prog.mainIs=some (har.1,har.2.toList)) (hn:(!har.1&&har.2.isEmpty && !lk)=false)
   (hl:∀f fn,p.checked.prog.funcNamed c.func=some f→p.checked.prog.funcs[f]? =some fn→lk=p.checked.prog.looks []∧∀(j:Nat) t,fn.params[j]? =some t→p.checked.prog.wantsStandIn t=false)
   (hg:true=c.goesBy p.checked.prog):
   Claim7.holds p (.plain s) { stood:= { row:=c,standIns:= [],harness:=har,looks:=lk },kinds:= [],alts:= [],goes:=true,laidByText:=true,laidKinds:=kinds,laidTests:=tests,laidLooks:=Lk }:=by
 have h6:∀r:OpenClaim,Claim7.isSixth { stood:= { row:=r,standIns:= [],harness:=har,looks:=lk },kinds:= [] }=false:=fun r=> by simpa [Claim7.isSixth] using hn
 obtain⟨h1,h2⟩:=Claim7.tied_new_at Lk kinds tests (Claim7.new_of_sixth hc har lk hst hnb hm (h6 c) hl) hw
 exact⟨⟨h1,h2⟩,(fun D hD=> by cases hD),htie,(fun h=> by cases h),hg⟩
theorem no_stand {ps:Array TypeId}(h:ps.toList.all (fun u=> !Tryz.prog.wantsStandIn u)=true):∀(j:Nat) t,ps[j]? =some t→Tryz.prog.wantsStandIn t=false:=fun j t ht=> by
 have hm:t∈ps.toList:=by simpa using Array.mem_of_getElem? ht
 simpa using List.all_eq_true.1 h t hm
end Go.Proofs.YtpdaenfglbgfkaaGreatDoor
end
section
namespace Go.Proofs.YtpdaenfglbgfkaaGreatDoor
open Go.RL
set_option maxRecDepth 10000
def sumI(x:Nat→Int):Nat→Int
 | 0=> 0
 | k+1=> sumI x k+x k
theorem sumI_in {x:Nat→Int}{m:Nat}(h:∀i,i<m→ -1000000≤x i∧x i≤1000000):∀k,k≤m→ -1000000*(k:Int)≤sumI x k∧sumI x k≤1000000*(k:Int)
 | 0,_=> by simp[sumI]
 | k+1,hk=> by
   have h1:=sumI_in h k (by omega)
   have h2:=h k (by omega)
   simp only[sumI]
   omega
def lineV(x y z u:Int):Value:=.agg ⟨[.int .i64 x,.int .i64 y,.int .i64 z,.int .i64 u]⟩
section
variable(M:Md Tryz.prog)(H:View)
theorem join_c(gb off m cc:Nat)(f:Bool)(gs:List Value)(gt:TypeId)(gz:Nat×Nat)(x y z u:Nat→Int)(hm:m≤1000)(hG:H gb=some (f,.cells ⟨gs⟩ gt gz))(hG2:∀i:Nat,i<m→ldL true 4 gs (off+i*4)=some (lineV (x i) (y i) (z i) (u i)))
   (hx:∀i,i<m→ -1000000≤x i∧x i≤1000000) (hy:∀i,i<m→ -1000000≤y i∧y i≤1000000) (hz:∀i,i<m→ -1000000≤z i∧z i≤1000000) (hu:∀i,i<m→ -1000000≤u i∧u i≤1000000):
   CallT M 125 #[.slice (some ⟨gb,off,none⟩) m cc] H (fun v H'=> H.le H'∧v=lineV (sumI x m) (sumI y m) (sumI z m) (sumI u m)):=by
 refine CallT.enter (vs:= [.slice (some ⟨gb,off,none⟩) m cc]) Tryz.func125 rfl Tryz.ntmps125 (Nat.le_of_ble_eq_true rfl) (SymSt.nil _) fun St c cs hK=> ?_
 refine .sr ?_
 refine .e (.al (zz:=fun b2=> ?_))
 refine .done (.sr ?_)
 refine .e (.al (zz:=fun b3=> ?_))
 refine .done (.seq (.sr ?_))
 refine .m ?_
 refine .x .ln ?_
 refine .m ?_
 refine .done (.block ?_)
 refine Tc.db (Tc.loopInv (σ:= { k:Nat//k≤m })
   (fun s=> ([(8,.int .i64 (s.1:Nat)),(7,.int .i64 m),(6,.slice (some ⟨gb,off,none⟩) m cc),(2,.pointer (some ⟨b2,0,none⟩)),(3,.pointer (some ⟨b3,0,none⟩))],
     [(b3,true,.cells ⟨[.int .i64 (sumI x s.1),.int .i64 (sumI y s.1),.int .i64 (sumI z s.1),.int .i64 (sumI u s.1)]⟩ 25 (0,0)),(b2,true,.cells ⟨[.int .i64 0,.int .i64 0,.int .i64 0,.int .i64 0]⟩ 25 (0,0))])) (fun s=> m-s.1) ?_ ⟨0,by simp⟩)
 rintro⟨k,g1⟩ ih
 show Tc M St _ _ _ _ [(8,.int .i64 (k:Nat)),(7,.int .i64 m),(6,.slice (some ⟨gb,off,none⟩) m cc),(2,.pointer (some ⟨b2,0,none⟩)),(3,.pointer (some ⟨b3,0,none⟩))]
     [(b3,true,.cells ⟨[.int .i64 (sumI x k),.int .i64 (sumI y k),.int .i64 (sumI z k),.int .i64 (sumI u k)]⟩ 25 (0,0)),(b2,true,.cells ⟨[.int .i64 0,.int .i64 0,.int .i64 0,.int .i64 0]⟩ 25 (0,0))] _ _
 by_cases c1:k=m
 · subst c1
   refine .sr ?_
   refine .i ?_ (z:=lss_f (by omega))
   refine .done (.seq (.ff rfl (.exit rfl (.sr ?_))))
   refine .x (.ld 0) ?_
   refine .e (.st 1 (zz:=?_))
   refine .done ?_
   refine Tc.retN (E:=en) hK Tryz.func125 Tryz.results125 (vs:= [_]) (by refine⟨⟨1,_,_,_,_,_,_,_,rfl,rfl,rfl,rfl⟩,?_⟩;exact trivial) ?_
   exact fun H' hs=> ⟨hs.base,rfl⟩
 · have c2:k<m:=by omega
   have f1:ldL true 4 gs (off+(k:Int).toNat*4)=some (lineV (x k) (y k) (z k) (u k)):=by rw[show(k:Int).toNat=k by simp];exact hG2 k c2
   have x1:=sumI_in hx k g1
   have x2:=hx k c2
   have y1:=sumI_in hy k g1
   have y2:=hy k c2
   have z1:=sumI_in hz k g1
   have z2:=hz k c2
   have u1:=sumI_in hu k g1
   have u2:=hu k c2
   refine .sr ?_
   refine .i ?_ (z:=lss_t (by omega))
   refine .done (.seq (.tt rfl (.skip (.seq (.block (.sr ?_))))))
   refine .x .ia ?_
   refine .x .l0 ?_
   refine .e (.al (zz:=fun b5=> ?_))
   refine .e (.st 0 (zz:=?_))
   refine .done (.sr ?_)
   refine .x .fa ?_
   refine .x .fa ?_
   refine .x (.ld 1) ?_
   refine .x .fa ?_
   refine .x .fa ?_
   refine .x (.ld 0) ?_
   refine .i ?_ (z:=add_in (by omega) (by omega))
   refine .x .fa ?_
   refine .x .fa ?_
   refine .e (.st 1 (zz:=?_))
   refine .done (.sr ?_)
   refine .x .fa ?_
   refine .x .fa ?_
   refine .x (.ld 1) ?_
   refine .x .fa ?_
   refine .x .fa ?_
   refine .x (.ld 0) ?_
   refine .i ?_ (z:=add_in (by omega) (by omega))
   refine .x .fa ?_
   refine .x .fa ?_
   refine .e (.st 1 (zz:=?_))
   refine .done (.sr ?_)
   refine .x .fa ?_
   refine .x .fa ?_
   refine .x (.ld 1) ?_
   refine .x .fa ?_
   refine .x .fa ?_
   refine .x (.ld 0) ?_
   refine .i ?_ (z:=add_in (by omega) (by omega))
   refine .x .fa ?_
   refine .x .fa ?_
   refine .e (.st 1 (zz:=?_))
   refine .done (.r ?_)
   refine .x .fa ?_
   refine .x .fa ?_
   refine .x (.ld 1) ?_
   refine .x .fa ?_
   refine .x .fa ?_
   refine .x (.ld 0) ?_
   refine .i ?_ (z:=add_in (by omega) (by omega))
   refine .x .fa ?_
   refine .x .fa ?_
   refine .e (.st 1 (zz:=?_))
   refine .done (.inBlock (.r ?_))
   refine .i ?_ (z:=add_in (by omega) (by omega))
   refine .m ?_
   refine .done ?_
   exact Tc.db (ih ⟨k+1,by omega⟩ (by simp only;omega))
end
end Go.Proofs.YtpdaenfglbgfkaaGreatDoor
end
section
namespace Go.Proofs.YtpdaenfglbgfkaaGreatDoor
open Go.RL
set_option maxRecDepth 10000
set_option maxHeartbeats 4000000
def upTo(a b:Int):List Int:=(List.range (b+1-a).toNat).map fun i=> a+(i:Nat)
theorem upTo_nil {a b:Int}(h:b<a):upTo a b= []:=by
 unfold upTo
 rw[show(b+1-a).toNat=0 by omega]
 rfl
theorem upTo_cons {a b:Int}(h:a≤b):upTo a b=a::upTo (a+1) b:=by
 unfold upTo
 rw[show(b+1-a).toNat=(b+1-(a+1)).toNat+1 by omega,List.range_succ_eq_map]
 simp only[List.map_cons,List.map_map,List.cons.injEq]
 refine⟨by simp,List.map_congr_left fun i _=> ?_⟩
 simp only[Function.comp,Nat.succ_eq_add_one]
 omega
theorem mem_upTo {a b x:Int}:x∈upTo a b↔a≤x∧x≤b:=by
 unfold upTo
 simp only[List.mem_map,List.mem_range]
 constructor
 · rintro⟨i,h,rfl⟩;omega
 · rintro⟨h1,h2⟩;exact⟨(x-a).toNat,by omega,by omega⟩
def Lk.stg(k:Lk)(code:Nat)(s r n f:Int):Stg:=⟨code,placesTo code 7,s,r,n,f,k.m0,k.m1⟩
def Lk.stgs₄(k:Lk)(code:Nat)(s r n:Int)(l:List Int):List Stg:=l.map fun f=> k.stg code s r n f
def Lk.stgs₃(k:Lk)(code:Nat)(s r:Int)(l:List Int):List Stg:=l.flatMap fun n=> k.stgs₄ code s r n (upTo k.m0 k.m1)
def Lk.stgs₂(k:Lk)(code:Nat)(s:Int)(l:List Int):List Stg:=l.flatMap fun r=> k.stgs₃ code s r (upTo k.l0 k.l1)
def Lk.stgs₁(k:Lk)(code:Nat)(l:List Int):List Stg:=l.flatMap fun s=> k.stgs₂ code s (upTo k.r0 k.r1)
def Lk.stgs(k:Lk)(code:Nat):List Stg:=k.stgs₁ code (upTo k.s0 k.s1)
theorem Lk.stgs₂_cons(k:Lk)(code:Nat)(s r:Int)(l:List Int)(X:List Stg):k.stgs₂ code s (r::l)++X=k.stgs₃ code s r (upTo k.l0 k.l1)++(k.stgs₂ code s l++X):=by simp[Lk.stgs₂]
theorem Lk.stgs₃_cons(k:Lk)(code:Nat)(s r n:Int)(l:List Int)(X:List Stg):k.stgs₃ code s r (n::l)++X=k.stgs₄ code s r n (upTo k.m0 k.m1)++(k.stgs₃ code s r l++X):=by simp[Lk.stgs₃]
theorem Lk.mem_stgs {k:Lk}{code:Nat}{x:Stg}:x∈k.stgs code↔∃s r n f,(k.s0≤s∧s≤k.s1)∧(k.r0≤r∧r≤k.r1)∧(k.l0≤n∧n≤k.l1)∧(k.m0≤f∧f≤k.m1)∧x=k.stg code s r n f:=by
 simp only[Lk.stgs,Lk.stgs₁,Lk.stgs₂,Lk.stgs₃,Lk.stgs₄,List.mem_flatMap,List.mem_map,mem_upTo]
 constructor
 · rintro⟨s,hs,r,hr,n,hn,f,hf,rfl⟩
   exact⟨s,r,n,f,hs,hr,hn,hf,rfl⟩
 · rintro⟨s,r,n,f,hs,hr,hn,hf,rfl⟩
   exact⟨s,hs,r,hr,n,hn,f,hf,rfl⟩
structure CapS(k:Lk)(code m eb ec b2 b5 b3:Nat)(H:View):Prop where
 l:H b2=some (true,.cells ⟨[.int .i64 k.s0,.int .i64 k.s1,.int .i64 k.r0,.int .i64 k.r1,.int .i64 k.l0,.int .i64 k.l1,.int .i64 k.m0,.int .i64 k.m1]⟩ 109 (0,0))
 mv:H b5=some (true,.cells ⟨[.int .i64 k.m0,.int .i64 k.m1]⟩ 180 (0,0))
 x:H b3=some (true,.cells ⟨[.int .i64 code,.slice (some ⟨eb,0,none⟩) m ec]⟩ 112 (0,0))
theorem CapS.le {k:Lk}{code m eb ec b2 b5 b3:Nat}(H H':View)(h:H.le H')(c:CapS k code m eb ec b2 b5 b3 H):CapS k code m eb ec b2 b5 b3 H':=⟨h _ _ c.l,h _ _ c.mv,h _ _ c.x⟩
def setF(b2 b5 b3:Nat):Value:=.func (.func 174) #[] #[.pointer (some ⟨b2,0,none⟩),.pointer (some ⟨b5,0,none⟩),.pointer (some ⟨b3,0,none⟩)]
section
variable(M:Md Tryz.prog)(H:View)
theorem all_it(a b:Int)(ha: -1000000000≤a)(hb:b≤1000000000):IterT M (.func (.func 156) #[bandV a b] #[]) (upTo a b) (fun i (_:Unit)=> [.int .i64 i]) (fun _ _=> []) (fun _ _=> []) (fun _=> True) [] H:=fun l J D _ h0 hy H₀ hs₀=>
 FnT.of (first:= [bandV a b]) (captured:= []) ca156 rfl (CallT.mono (all_c M H₀ a b (.func (.yield l) #[] #[]) (fun i Hv=> ∃H₂,H₂.le Hv∧J (upTo i b) H₂) D ha hb ⟨H,hs₀.base,h0⟩ (fun i H' h1 h2 ⟨H₂,h3,h4⟩=> by
   rw[upTo_cons h2] at h4
   refine FnT.mono (hy i (upTo (i+1) b) () H₂ H' (mem_upTo.2 ⟨h1,h2⟩) h4 ⟨by simp,by simp,by simp,h3⟩) ?_
   rintro v H3 (⟨rfl,H4,h5,h6⟩|⟨rfl,h5⟩)
   · exact .inl ⟨rfl,H4,h5.base,h6⟩
   · exact .inr ⟨rfl,h5⟩)) (by
   rintro v H' ⟨H₁,h1,⟨i,h2,_,_,H₂,h3,h4⟩|h2⟩
   · rw[upTo_nil h2] at h4
     exact⟨H₂,View.le_trans h3 h1,.inl h4⟩
   · exact⟨H₁,h1,.inr h2⟩))
theorem settings_c(k:Lk)(code m eb ec:Nat):CallT M 146 #[k.val,.agg ⟨[.int .i64 code,.slice (some ⟨eb,0,none⟩) m ec]⟩] H (fun v H'=> H.le H'∧∃b2 b5 b3,v=setF b2 b5 b3∧CapS k code m eb ec b2 b5 b3 H'):=by
 refine CallT.enter (vs:= [k.val,.agg ⟨[.int .i64 code,.slice (some ⟨eb,0,none⟩) m ec]⟩]) Tryz.func146 rfl Tryz.ntmps146 (Nat.le_of_ble_eq_true rfl) (SymSt.nil _) fun St c cs hK=> ?_
 refine .sr ?_
 refine .e (.bx (zz:=fun b2=> ?_))
 refine .e (.bx (zz:=fun b3=> ?_))
 refine .g ?_
 refine .done (.sr ?_)
 refine .x .fa ?_
 refine .x .fa ?_
 refine .x .fa ?_
 refine .x (.ld 1) ?_
 refine .c rfl rfl rfl rfl (fun H hs=> .f ca155 rfl (bandOf_c M H k.m0 k.m1)) ?_
 refine .e (.al (zz:=fun b5=> ?_))
 refine .e (.st 0 (zz:=?_))
 refine .done (.sr ?_)
 refine .x .mf ?_
 refine .g ?_
 refine .done ?_
 refine .rt hK Tryz.func146 Tryz.results146 [_] ?_
 exact fun H' hs=> ⟨hs.base,b2,b5,b3,rfl,hs.get (i:=2) rfl,hs.get (i:=0) rfl,hs.get (i:=1) rfl⟩
theorem settings_it(k:Lk)(code eb ec b2 b5 b3:Nat)(hk:∀z,z∈ [k.s0,k.r0,k.l0,k.m0,k.s1,k.r1,k.l1,k.m1]→ -1000000≤z∧z≤1000000)(hC:CapS k code (placesTo code 7).length eb ec b2 b5 b3 H):
   IterT M (setF b2 b5 b3) (k.stgs code) (fun s mb=> [s.val eb ec mb]) (fun _ mb=> [(mb,true,.map #[] 0)]) (fun _ _=> []) (CapS k code (placesTo code 7).length eb ec b2 b5 b3) [] H:=fun l J D hcap h0 hy H₀ hs₀=> by
 refine FnT.of (first:= []) (captured:= [_,_,_]) ca174 rfl ?_
 simp only[List.mem_cons,List.not_mem_nil,or_false,forall_eq_or_imp,forall_eq] at hk
 obtain⟨k1,k2,k3,k4,k5,k6,k7,k8⟩:=hk
 obtain⟨c1,c2,c3⟩:=hC
 refine CallT.enter (vs:= [.func (.yield l) #[] #[],.pointer (some ⟨b2,0,none⟩),.pointer (some ⟨b5,0,none⟩),.pointer (some ⟨b3,0,none⟩)]) Tryz.func174 rfl Tryz.ntmps174 (Nat.le_of_ble_eq_true rfl) (hs₀) fun St c cs hK=> ?_
 refine .sr ?_
 refine .e (.bx (zz:=fun b4=> ?_))
 refine .done (.sr ?_)
 refine .x .fa ?_
 refine .x .fa ?_
 refine .x .l0 ?_
 refine .c rfl rfl rfl rfl (fun H hs=> .f ca155 rfl (bandOf_c M H k.s0 k.s1)) ?_
 refine .x .mf ?_
 refine .done (.block ?_)
 have itS:=fun H (_:(fun _:View=> True) H)=> all_it M H k.s0 k.s1 (by omega) (by omega)
 have itR:=fun H (_:(fun _:View=> True) H)=> all_it M H k.r0 k.r1 (by omega) (by omega)
 have itL:=fun H (_:(fun _:View=> True) H)=> all_it M H k.l0 k.l1 (by omega) (by omega)
 have itM:=fun H (_:(fun _:View=> True) H)=> all_it M H k.m0 k.m1 (by omega) (by omega)
 refine Tc.rangeLc (A:= []) (ts:= [14]) (fun rest H₁=> J (k.stgs₁ code rest) H₁) (fun j H₁=> j=.ret∧D H₁) rfl rfl rfl rfl itS (fun _ _ _ h=> h) (fun _ _ _=> trivial) rfl (fun _ _=> rfl) h0 ?_ ?_ ?_
 · rintro r s rest1 e l1 tmps1 asg1 bdy1 H₁ _ hs1 ⟨rfl,j1⟩ Q1 St1 cc1 cs1 hK1 q1 q1'
   obtain⟨c1,c2,c3⟩:=hcap _ _ j1
   refine .r ?_
   refine .e (.al (zz:=fun b6=> ?_))
   refine .e (.st 0 (zz:=?_))
   refine .done ?_
   refine Tc.beginRound (i:=1) rfl rfl rfl ?_
   refine .block (.sr ?_)
   refine .x .fa ?_
   refine .x .fa ?_
   refine .x .l0 ?_
   refine .c rfl rfl rfl rfl (fun H hs=> .f ca155 rfl (bandOf_c M H k.r0 k.r1)) ?_
   refine .x .mf ?_
   refine .done (.block ?_)
   refine Tc.rangeLcIn (A:= []) (ts:= [20]) (i:=1) (fun rest H₁=> J (k.stgs₂ code s rest++k.stgs₁ code rest1) H₁) (fun j H₁=> j=.ret∧D H₁) rfl rfl rfl rfl rfl itR (fun _ _ _ h=> h) (fun _ _ _=> trivial) rfl (fun _ _=> rfl) j1 ?_ ?_ ?_
   · rintro r' rest2 e l2 tmps2 asg2 bdy2 H₁ _ hs2 ⟨rfl,j2⟩ Q2 St2 cc2 cs2 hK2 q2 q2'
     obtain⟨c1,c2,c3⟩:=hcap _ _ j2
     refine .r ?_
     refine .e (.al (zz:=fun b7=> ?_))
     refine .e (.st 0 (zz:=?_))
     refine .done ?_
     refine Tc.beginRound (i:=1) rfl rfl rfl ?_
     refine .block (.sr ?_)
     refine .x .fa ?_
     refine .x .fa ?_
     refine .x .fa ?_
     refine .x .l0 ?_
     refine .c rfl rfl rfl rfl (fun H hs=> .f ca155 rfl (bandOf_c M H k.l0 k.l1)) ?_
     refine .x .mf ?_
     refine .done (.block ?_)
     refine Tc.rangeLcIn (A:= []) (ts:= [27]) (i:=1) (fun rest H₁=> J (k.stgs₃ code s r' rest++(k.stgs₂ code s rest2++k.stgs₁ code rest1)) H₁) (fun j H₁=> j=.ret∧D H₁) rfl rfl rfl rfl rfl itL (fun _ _ _ h=> h) (fun _ _ _=> trivial) rfl (fun _ _=> rfl) (k.stgs₂_cons ..▸j2) ?_ ?_ ?_
     · rintro n' rest3 e l3 tmps3 asg3 bdy3 H₁ _ hs3 ⟨rfl,j3⟩ Q3 St3 cc3 cs3 hK3 q3 q3'
       obtain⟨c1,c2,c3⟩:=hcap _ _ j3
       refine .r ?_
       refine .e (.al (zz:=fun b8=> ?_))
       refine .e (.st 0 (zz:=?_))
       refine .done ?_
       refine Tc.beginRound (i:=1) rfl rfl rfl ?_
       refine .block (.sr ?_)
       refine .x .l0 ?_
       refine .x .mf ?_
       refine .done (.block ?_)
       refine Tc.rangeLcIn (A:= []) (ts:= [30]) (i:=1) (fun rest H₁=> J (k.stgs₄ code s r' n' rest++(k.stgs₃ code s r' rest3++(k.stgs₂ code s rest2++k.stgs₁ code rest1))) H₁) (fun j H₁=> j=.ret∧D H₁) rfl rfl rfl rfl rfl itM (fun _ _ _ h=> h) (fun _ _ _=> trivial) rfl (fun _ _=> rfl) (k.stgs₃_cons ..▸j3) ?_ ?_ ?_
       · rintro f' rest4 e l4 tmps4 asg4 bdy4 H₁ _ hs4 ⟨rfl,j4⟩ Q4 St4 cc4 cs4 hK4 q4 q4'
         obtain⟨c1,c2,c3⟩:=hcap _ _ j4
         refine .r ?_
         refine .g ?_
         refine .done ?_
         refine Tc.beginRound (i:=0) rfl rfl rfl ?_
         refine .block (.sr ?_)
         refine .x (.ld 8) ?_
         refine .x .l0 ?_
         refine .x (.ld 5) ?_
         refine .x (.ld 3) ?_
         refine .x (.ld 1) ?_
         refine .m ?_
         refine .x .l0 ?_
         refine .e (Or.makeMap rfl rfl (by decide) (fun mb=> ?_))
         refine .x .bu ?_
         refine To.pushF 0 rfl (fun hmb=> ?_)
         have hy':=hy (k.stg code s r' n' f') (k.stgs₄ code s r' n' rest4++(k.stgs₃ code s r' rest3++(k.stgs₂ code s rest2++k.stgs₁ code rest1))) mb H₁ _ (Lk.mem_stgs.2 ⟨s,r',n',f',mem_upTo.1 hs1,mem_upTo.1 hs2,mem_upTo.1 hs3,mem_upTo.1 hs4,rfl⟩) j4 ((SymSt.nil H₁).cons _ hmb)
         refine To.callF rfl rfl rfl rfl rfl rfl (by decide) (hy') (fun v H3 hv=> ?_)
         rcases hv with ⟨rfl,H4,h5,h6⟩|⟨rfl,h5⟩
         · refine To.lower h5.base ?_
           refine .x .nt ?_
           refine .done (.ff rfl (.skip (.inBlock ?_)))
           refine Tc.leaveRound hK4 (i:=0) rfl (.inl ⟨rfl,rfl⟩) (fun H' hs=> q4 H' _ _ hs ⟨rfl,h6⟩)
         · refine .x .nt ?_
           refine .done (.tt rfl ?_)
           refine Tc.leaveRound hK4 (i:=0) rfl (.inr (.inl ⟨_,rfl,rfl⟩)) (fun H' hs=> q4' H' _ _ _ hs ⟨rfl,rfl,h5⟩)
       · rintro H₁ j4
         refine .inBlock (.inBlock ?_)
         refine Tc.leaveRound hK3 (i:=1) rfl (.inl ⟨rfl,rfl⟩) (fun H' hs=> q3 H' _ _ (hs.less (by apply List.Sublist.cons;exact List.Sublist.refl _)) ⟨rfl,j4⟩)
       · rintro j H₁ ⟨rfl,h5⟩
         refine Tc.leaveRound hK3 (i:=1) rfl (.inr (.inl ⟨_,rfl,rfl⟩)) (fun H' hs=> q3' H' _ _ _ (hs.less (by apply List.Sublist.cons;exact List.Sublist.refl _)) ⟨rfl,rfl,h5⟩)
     · rintro H₁ j3
       refine .inBlock (.inBlock ?_)
       refine Tc.leaveRound hK2 (i:=1) rfl (.inl ⟨rfl,rfl⟩) (fun H' hs=> q2 H' _ _ (hs.less (by apply List.Sublist.cons;exact List.Sublist.refl _)) ⟨rfl,j3⟩)
     · rintro j H₁ ⟨rfl,h5⟩
       refine Tc.leaveRound hK2 (i:=1) rfl (.inr (.inl ⟨_,rfl,rfl⟩)) (fun H' hs=> q2' H' _ _ _ (hs.less (by apply List.Sublist.cons;exact List.Sublist.refl _)) ⟨rfl,rfl,h5⟩)
   · rintro H₁ j2
     refine .inBlock (.inBlock ?_)
     refine Tc.leaveRound hK1 (i:=1) rfl (.inl ⟨rfl,rfl⟩) (fun H' hs=> q1 H' _ _ (hs.less (by apply List.Sublist.cons;exact List.Sublist.refl _)) ⟨rfl,j2⟩)
   · rintro j H₁ ⟨rfl,h5⟩
     refine Tc.leaveRound hK1 (i:=1) rfl (.inr (.inl ⟨_,rfl,rfl⟩)) (fun H' hs=> q1' H' _ _ _ (hs.less (by apply List.Sublist.cons;exact List.Sublist.refl _)) ⟨rfl,rfl,h5⟩)
 · rintro r H₁ j1
   refine .inBlock ?_
   refine Tc.overD (E:=en) (i:=0) hK Tryz.func174 Tryz.results174 (vs:= []) rfl trivial ?_
   exact fun H' hs=> ⟨H₁,hs.base,.inl j1⟩
 · rintro r j H₁ ⟨rfl,h5⟩
   refine Tc.retD (E:=en) (i:=0) hK Tryz.func174 Tryz.results174 (vs:= []) rfl trivial ?_
   exact fun H' hs=> ⟨H₁,hs.base,.inr h5⟩
end
end Go.Proofs.YtpdaenfglbgfkaaGreatDoor
end
section
namespace Go.Proofs.YtpdaenfglbgfkaaGreatDoor
open Go.RL
set_option maxRecDepth 10000
set_option maxHeartbeats 4000000
def Stg.leaves(s:Stg):Nat→Nat→Nat→List Int→List (Nat×List Int)
 | 0,_,v,mv=> [(v,mv)]
 | d+1,i,v,mv=> (s.opts (s.ps[i]?.getD 0) i).flatMap fun o=> s.leaves d (i+1) (turnedN v o.1.toNat) (mv++[o.2])
def Stg.all(s:Stg):List (Nat×List Int):=s.leaves s.ps.length 0 127 []
theorem optGo_in {read mt after:Int}:∀ {f:Nat} {n:Int} {o:Int×Int},o∈optGo read mt after f n→0≤o.1∧o.1≤7
 | 0,_,_,h=> by cases h
 | f + 1,n,o,h=> by
   unfold optGo at h
   split at h
   · rcases List.mem_cons.1 h with rfl|h
     · have:=missedF_in read (after+n)
       exact⟨this.1,this.2.1⟩
     · split at h
       · cases h
       · exact optGo_in h
   · cases h
theorem Stg.opts_in {s:Stg}{p i:Nat}{o:Int×Int}(h:o∈s.opts p i):0≤o.1∧o.1≤7:=by
 unfold Stg.opts at h
 split at h
 · simp at h;subst h;exact⟨by simp,by simp⟩
 · exact optGo_in h
theorem optGo_len {read mt after:Int}:∀(f:Nat) (n:Int),(optGo read mt after f n).length≤f
 | 0,_=> by simp[optGo]
 | f + 1,n=> by
   unfold optGo
   split
   · have:=optGo_len (read:=read) (mt:=mt) (after:=after) f ((2*missedF read (after+n)+1)*read+1-after)
     split <;> simp <;> omega
   · simp
theorem Stg.opts_len {s:Stg}(hok:s.Ok)(p i:Nat):(s.opts p i).length≤3000:=by
 unfold Stg.opts
 split
 · simp
 · have h1:=optGo_len (read:=s.read) (mt:=s.mt) (after:=s.after p i) (s.mt+1-s.mf).toNat s.mf
   have h2:=hok.mf
   have h3:=hok.mt
   omega
theorem turned_lt:∀v:Nat,v<128→∀f:Nat,f<8→turnedN v f<128:=by decide +kernel
def padC(n:Nat)(mv:List Int):List Value:=intsL mv++List.replicate (7-n) (.int .i64 0)
theorem optCells_get {l:List (Int×Int)}{j:Nat}{o:Int×Int}(h:l[j]? =some o):((optCells l).drop (j*2)).take 2= [.int .i64 o.1,.int .i64 o.2]:=by
 induction l generalizing j with
 | nil=> simp at h
 | cons x l ih=>
   rw[optCells_cons]
   cases j with
   | zero=> simp at h;subst h;simp
   | succ j=>
     rw[show(j+1)*2=j*2+2 by omega,List.drop_append]
     simp only[List.length_cons,List.length_nil]
     rw[show j*2+2-(0+1+1)=j*2 by omega,List.drop_eq_nil_of_le (by simp)]
     exact ih (by simpa using h)
theorem optAt {H:View}{s:Stg}{p i j:Nat}{v:Value}{o:Int×Int}(h:SrcAt H 2 v (s.opts p i).length (optCells (s.opts p i)))(hj:(s.opts p i)[j]? =some o):
   ∃b off c f cs e fz,v=.slice (some ⟨b,off,none⟩) (s.opts p i).length c∧H b=some (f,.cells ⟨cs⟩ e fz)∧ldL true 2 cs (off+j*2)=some (.agg ⟨[.int .i64 o.1,.int .i64 o.2]⟩):=by
 have hlt:=(List.getElem?_eq_some_iff.1 hj).1
 obtain⟨_,h2,⟨c,_,h3⟩|⟨b,off,c,f,cs,e,fz,h3,h4,h5,h6⟩⟩:=h
 · have:=optCells_len (s.opts p i)
   rw[h3] at this
   simp at this
   omega
 · refine⟨b,off,c,f,cs,e,fz,h3,h4,?_⟩
   have hl:=optCells_len (s.opts p i)
   have hle:off+j*2+2≤cs.length:=by rw[hl] at h5;omega
   have:Nat.ble (off+j*2+2) cs.length=true:=Nat.ble_eq_true_of_le hle
   unfold ldL
   simp only[this]
   congr 3
   have e1:=optCells_get hj
   rw[←h6,hl,List.drop_take,List.drop_drop] at e1
   rw[←e1,List.take_take]
   congr 1
   omega
theorem optStep {s:Stg}{p i mb:Nat}{Hj Hm H₁:View}{v:Value}{x:Bool×Obj}(hd:Dj Hj (Hm.put mb x))(h:OptQ s p i mb Hm (Hj.plus (Hm.put mb x)) v H₁):
   ∃Hm' es' cl',(Hj.plus (Hm'.put mb (true,.map es' cl'))).le H₁∧Dj Hj (Hm'.put mb (true,.map es' cl'))∧Hm.le Hm'∧Hm' mb=none∧SrcAt Hm' 2 v (s.opts p i).length (optCells (s.opts p i))∧Memo Hm' s es'.toList:=by
 obtain⟨h1,Hm',es',cl',h2,h3,h4,h5,h6,h7,h8⟩:=h
 have hjm:Hj mb=none:=hd mb x (View.put_same ..)
 refine⟨Hm',es',cl',fun c y hc=> ?_,fun c y hc=> ?_,h4,h5,h6,h8⟩
 · unfold View.plus at hc
   split at hc
   · rename_i z hz
     cases hc
     refine h1 c _ ?_ (plus_left hz)
     rintro rfl
     rw[hjm] at hz
     cases hz
   · by_cases e:c=mb
     · subst e
       rw[View.put_same] at hc
       cases hc
       exact h7
     · rw[View.put_other _ _ e] at hc
       exact h2 c y hc
 · by_cases e:c=mb
   · subst e;exact hjm
   · rw[View.put_other _ _ e] at hc
     rcases h3 c y hc with h9|h9
     · exact hd c y (by rw[View.put_other _ _ e];exact h9)
     · exact(plus_none h9).1
structure NSt where
 j:Nat
 Hj:View
 Hm:View
 es:Array MapEntry
 cl:Nat
 q:Nat
 z:List Value
section
variable(M:Md Tryz.prog)(H:View)
def nxV(b2 b3 b4 b5:Nat):Value:=.func (.func 188) #[] #[.pointer (some ⟨b2,0,none⟩),.pointer (some ⟨b3,0,none⟩),.pointer (some ⟨b4,0,none⟩),.pointer (some ⟨b5,0,none⟩)]
def nextL(s:Stg)(l eb ec mb bm b2 b3 b4 b5 q:Nat)(c:List Value):Bl:=
 [(bm,true,.cells ⟨c⟩ 3 (0,0)),(b5,true,.cells ⟨[nxV b2 b3 b4 b5]⟩ 233 (0,0)),(b4,true,.cells ⟨[.slice (some ⟨bm,0,none⟩) q 7]⟩ 28 (0,0)),(b3,true,.cells ⟨[.func (.yield l) #[] #[]]⟩ 232 (0,0)),(b2,true,.cells ⟨(s.val eb ec mb).cells.toList⟩ 183 (0,0))]
theorem next_c(s:Stg)(hok:s.Ok)(l eb ec mb bm b2 b3 b4 b5:Nat)(J:List (Nat×List Int)→View→Prop)(D:View→Prop)(hcap:∀rest H',J rest H'→EdgesAt H' s eb)
   (hy:∀(x:Nat×List Int) rest (e:Nat) H' H'',x∈s.all→J (x::rest) H'→SymSt H' [(e,true,.cells ⟨padC s.ps.length x.2⟩ 3 (0,0))] H''→FnT M (.func (.yield l) #[] #[]) [.int .u8 x.1,.slice (some ⟨e,0,none⟩) s.ps.length 7] H'' fun v H3=> (v=.bool true∧∃H₂,SymSt H₂ [(e,true,.cells ⟨padC s.ps.length x.2⟩ 3 (0,0))] H3∧J rest H₂)∨(v=.bool false∧D H3)):
   ∀ (d i v:Nat) (mv:List Int) (rest:List (Nat×List Int)),i+d=s.ps.length→mv.length=i→v<128→(∀y∈s.leaves d i v mv,y∈s.all)→∀(Hj Hm:View) (es:Array MapEntry) (cl:Nat) (z:List Value) (H:View),
     SymSt (Hj.plus (Hm.put mb (true,.map es cl))) (nextL s l eb ec mb bm b2 b3 b4 b5 i z) H→Dj Hj (Hm.put mb (true,.map es cl))→Hm mb=none→Memo Hm s es.toList→z.length=7→z.take i=intsL mv→z.drop s.ps.length=List.replicate (7-s.ps.length) (.int .i64 0)→J (s.leaves d i v mv++rest) Hj→
     CallT M 188 #[.int .i64 i,.int .u8 v,.pointer (some ⟨b2,0,none⟩),.pointer (some ⟨b3,0,none⟩),.pointer (some ⟨b4,0,none⟩),.pointer (some ⟨b5,0,none⟩)] H fun r H''=>
       (r=.bool true∧∃Hj' Hm' es' cl' q' c',q'≤7∧Hm.le Hm'∧SymSt (Hj'.plus (Hm'.put mb (true,.map es' cl'))) (nextL s l eb ec mb bm b2 b3 b4 b5 q' c') H''∧Dj Hj' (Hm'.put mb (true,.map es' cl'))∧Hm' mb=none∧Memo Hm' s es'.toList∧c'.length=7∧c'.take i=intsL mv∧c'.drop s.ps.length=List.replicate (7-s.ps.length) (.int .i64 0)∧J rest Hj')∨
       (r=.bool false∧∃H₁,H₁.le H''∧D H₁):=by
 intro d
 induction d with
 | zero=>
   intro i v mv rest hid hmv hv hsub Hj Hm es cl z H hs hdj hmb hm hc7 hci hcn hJ
   have hin:i=s.ps.length:=by omega
   have h6:=hok.ps6
   have hcp:z=padC s.ps.length mv:=by
     rw[←List.take_append_drop s.ps.length z,hcn,←hin,hci]
     rfl
   refine CallT.enter (vs:= [.int .i64 i,.int .u8 v,.pointer (some ⟨b2,0,none⟩),.pointer (some ⟨b3,0,none⟩),.pointer (some ⟨b4,0,none⟩),.pointer (some ⟨b5,0,none⟩)]) Tryz.func188 rfl Tryz.ntmps188 (Nat.le_of_ble_eq_true rfl) (hs) fun St c cs hK=> ?_
   refine .sr ?_
   refine .g ?_
   refine .done (.seq (.sr ?_))
   refine .m ?_
   refine .x .fa ?_
   refine .x .fa ?_
   refine .x (.ld 4) ?_
   refine .x .ln ?_
   refine .i ?_ (z:=eql_t (by omega))
   refine .done (.tt rfl (.sr ?_))
   refine .x (.ld 3) ?_
   refine .m ?_
   refine .x (.ld 2) ?_
   refine To.pushF 0 rfl (fun hfr=> ?_)
   obtain⟨hf1,hf2⟩:=plus_none hfr
   rw[←plus_put]
   have hd2:Dj (Hj.put bm (true,.cells ⟨z⟩ 3 (0,0))) (Hm.put mb (true,.map es cl)):=hdj.put hf2
   have hs2:SymSt Hj [(bm,true,.cells ⟨padC s.ps.length mv⟩ 3 (0,0))] (Hj.put bm (true,.cells ⟨z⟩ 3 (0,0))):=by
     rw[hcp]
     exact(SymSt.nil Hj).cons _ hf1
   have hy':=(hy (v,mv) rest bm Hj _ (hsub _ (by simp[Stg.leaves])) hJ hs2).frame hd2
   rw[←hin] at hy'
   refine To.callF rfl rfl rfl rfl rfl rfl (by decide) (hy') (fun r H3 hv=> ?_)
   obtain⟨H4,rfl,hd4,⟨rfl,H2,hs4,hJ2⟩|⟨rfl,hD⟩⟩:=hv
   · have hle:(H2.put bm (true,.cells ⟨z⟩ 3 (0,0))).le H4:=fun b x hb=> by
       by_cases e:b=bm
       · subst e
         rw[View.put_same] at hb
         cases hb
         rw[hcp,←hin]
         exact hs4.get (i:=0) rfl
       · rw[View.put_other _ _ e] at hb
         exact hs4.base b x hb
     have hbm:H2 bm=none:=hs4.fresh (i:=0) rfl
     refine To.lower (plus_le hle hd4) ?_
     rw[plus_put]
     refine To.pop (by rw[plus_right hbm];exact hf2) ?_
     have hd5:Dj H2 (Hm.put mb (true,.map es cl)):=fun b x hb=> by
       cases h:H2 b with
       | none=> rfl
       | some y=>
         have h1:=hd4 b x hb
         rw[hs4.base b y h] at h1
         cases h1
     refine .g ?_
     refine .done ?_
     refine .rt hK Tryz.func188 Tryz.results188 [_] ?_
     exact fun H' hs'=> .inl ⟨rfl,H2,Hm,es,cl,i,z,by omega,View.le_refl _,hs',hd5,hmb,hm,hc7,hci,hcn,hJ2⟩
   · refine .g ?_
     refine .done ?_
     refine .rt hK Tryz.func188 Tryz.results188 [_] ?_
     exact fun H' hs'=> .inr ⟨rfl,H4,fun b x hb=> hs'.base b x (plus_left hb),hD⟩
 | succ d ih=>
   intro i v mv rest hid hmv hv hsub Hj Hm es cl z H hs hdj hmb hm hc7 hci hcn hJ
   have hin:i<s.ps.length:=by omega
   have h6:=hok.ps6
   obtain⟨ef,ees,eet,eez,hE1,hE2⟩:=hcap _ _ hJ
   have hjm:Hj mb=none:=hdj mb _ (View.put_same ..)
   have hEb:(Hj.plus (Hm.put mb (true,.map es cl))) eb=some (ef,.cells ⟨ees⟩ eet eez):=plus_left hE1
   have hMb:(Hj.plus (Hm.put mb (true,.map es cl))) mb=some (true,.map es cl):=by rw[plus_right hjm,View.put_same]
   have hle0:Hm.le (Hj.plus (Hm.put mb (true,.map es cl))):=fun b x hb=> by
     have hne:b≠mb:=by rintro rfl;rw[hmb] at hb;cases hb
     have h1:(Hm.put mb (true,.map es cl)) b=some x:=by rw[View.put_other _ _ hne];exact hb
     rw[plus_right (hdj b x h1)]
     exact h1
   have f1:ldL true 2 ees (0+(i:Int).toNat*2)=some (edgeV (s.ps[i]?.getD 0) i):=by rw[show(i:Int).toNat=i by simp];exact hE2 i hin
   refine CallT.enter (vs:= [.int .i64 i,.int .u8 v,.pointer (some ⟨b2,0,none⟩),.pointer (some ⟨b3,0,none⟩),.pointer (some ⟨b4,0,none⟩),.pointer (some ⟨b5,0,none⟩)]) Tryz.func188 rfl Tryz.ntmps188 (Nat.le_of_ble_eq_true rfl) (hs) fun St c cs hK=> ?_
   refine .sr ?_
   refine .g ?_
   refine .done (.seq (.sr ?_))
   refine .m ?_
   refine .x .fa ?_
   refine .x .fa ?_
   refine .x (.ld 4) ?_
   refine .x .ln ?_
   refine .i ?_ (z:=eql_f (by omega))
   refine .done (.ff rfl (.skip (.seq (.seq ?_))))
   refine Tc.drC [] [7] [] mixed rfl ?_
   refine Ta.tkC 0 (by kernel_rfl) rfl rfl (by decide) rfl rfl (OpV.take (.ld 4)) ?_
   refine Ta.tkC 1 (by kernel_rfl) rfl rfl (by decide) rfl rfl (OpV.take .fa) ?_
   refine Ta.tkC 2 (by kernel_rfl) rfl rfl (by decide) rfl rfl (OpV.take .fa) ?_
   refine Ta.tkC 3 (by kernel_rfl) rfl rfl (by decide) rfl rfl (OpV.take (.ld 4)) ?_
   refine Ta.tkC 4 (by kernel_rfl) rfl rfl (by decide) rfl rfl (OpV.take .mv) ?_
   refine Ta.tkC 5 (by kernel_rfl) rfl rfl (by decide) rfl rfl (OpV.take .ia) ?_
   refine Ta.tkC 6 (by kernel_rfl) rfl rfl (by decide) rfl rfl (OpV.take .l0) ?_
   refine Ta.tkP 9 (by kernel_rfl) rfl rfl rfl rfl (by decide) rfl rfl (OpV.take .mv) ?_
   refine Ta.callF 7 (by kernel_rfl) rfl (by kernel_rfl) rfl rfl rfl rfl rfl rfl (by decide) (FnT.f ca175 rfl (options_c M _ s hok eb ec mb es cl (s.ps[i]?.getD 0) i ⟨ef,ees,eet,eez,hEb,hE2⟩ hMb Hm hm hle0 hmb hin rfl)) (fun w H1 hw=> ?_)
   obtain⟨Hm1,es1,cl1,hle1,hd1,hlm1,hmb1,hsrc,hm1⟩:=optStep hdj hw
   refine Ta.lower hle1 ?_
   have hsrc1:=hsrc
   obtain⟨⟨oa,oc,hw'⟩, -, -⟩:=hsrc
   subst hw'
   refine Ta.each [8] (by kernel_rfl) rfl ⟨TaOp.mk rfl rfl rfl (Or.ofV .ln rfl (by decide) ⟨S3.off (by kernel_rfl),?_⟩),trivial⟩
   refine Ta.done (by kernel_rfl) ?_
   refine .block ?_
   have hJ1:J (((s.opts (s.ps[i]?.getD 0) i).drop 0).flatMap (fun o=> s.leaves d (i+1) (turnedN v o.1.toNat) (mv++[o.2]))++rest) Hj:=hJ
   refine Tc.db (Tc.loopB (σ:= { x:NSt//x.j≤(s.opts (s.ps[i]?.getD 0) i).length∧x.q≤7∧Dj x.Hj (x.Hm.put mb (true,.map x.es x.cl))∧Hm1.le x.Hm∧x.Hm mb=none∧Memo x.Hm s x.es.toList∧x.z.length=7∧x.z.take i=intsL mv∧x.z.drop s.ps.length=List.replicate (7-s.ps.length) (.int .i64 0)∧
       J (((s.opts (s.ps[i]?.getD 0) i).drop x.j).flatMap (fun o=> s.leaves d (i+1) (turnedN v o.1.toNat) (mv++[o.2]))++rest) x.Hj })
     (fun x=> (x.1.Hj.plus (x.1.Hm.put mb (true,.map x.1.es x.1.cl)),[(30,.int .i64 (x.1.j:Nat)),(29,.int .i64 ((s.opts (s.ps[i]?.getD 0) i).length:Nat)),(28,.slice oa (s.opts (s.ps[i]?.getD 0) i).length oc),(0,.int .i64 (i:Nat)),(1,.int .u8 (v:Nat)),(2,.pointer (some ⟨b2,0,none⟩)),(3,.pointer (some ⟨b3,0,none⟩)),(4,.pointer (some ⟨b4,0,none⟩)),(5,.pointer (some ⟨b5,0,none⟩))],
       nextL s l eb ec mb bm b2 b3 b4 b5 x.1.q x.1.z)) (fun x=> (s.opts (s.ps[i]?.getD 0) i).length-x.1.j) ?_ ⟨⟨0,Hj,Hm1,es1,cl1,i,z⟩,Nat.zero_le _,(by show i≤7;omega),hd1,View.le_refl _,hmb1,hm1,hc7,hci,hcn,hJ1⟩)
   rintro⟨⟨j,Hj,Hm',es,cl,q,z⟩,g1,g2,g3,g4,g5,g6,g7,g8,g9,g10⟩ lh
   simp only at g1 g2 g3 g4 g5 g6 g7 g8 g9 g10
   show Tc M St _ _ (Hj.plus (Hm'.put mb (true,.map es cl))) _ [(30,.int .i64 (j:Nat)),(29,.int .i64 ((s.opts (s.ps[i]?.getD 0) i).length:Nat)),(28,.slice oa (s.opts (s.ps[i]?.getD 0) i).length oc),(0,.int .i64 (i:Nat)),(1,.int .u8 (v:Nat)),(2,.pointer (some ⟨b2,0,none⟩)),(3,.pointer (some ⟨b3,0,none⟩)),(4,.pointer (some ⟨b4,0,none⟩)),(5,.pointer (some ⟨b5,0,none⟩))]
       (nextL s l eb ec mb bm b2 b3 b4 b5 q z) _ _
   have hol:=Stg.opts_len hok (s.ps[i]?.getD 0) i
   by_cases cj:j=(s.opts (s.ps[i]?.getD 0) i).length
   · have hJ2:J rest Hj:=by
       rw[cj,List.drop_length] at g10
       exact g10
     refine .sr ?_
     refine .i ?_ (z:=lss_f (by omega))
     refine .done (.seq (.ff rfl (.exit rfl (.sr ?_))))
     refine .g ?_
     refine .done ?_
     refine .rt hK Tryz.func188 Tryz.results188 [_] ?_
     exact fun H' hs'=> .inl ⟨rfl,Hj,Hm',es,cl,q,z,g2,View.le_trans hlm1 g4,hs',g3,g5,g6,g7,g8,g9,hJ2⟩
   · have cj2:j<(s.opts (s.ps[i]?.getD 0) i).length:=by omega
     obtain⟨⟨o1,o2⟩,hoj⟩:∃o,(s.opts (s.ps[i]?.getD 0) i)[j]? =some o:=⟨_,List.getElem?_eq_getElem cj2⟩
     have hoin:=Stg.opts_in (List.mem_of_getElem? hoj)
     simp only at hoin
     obtain⟨on,rfl⟩:=Int.eq_ofNat_of_zero_le hoin.1
     have hon:on<8:=by
       have h7:(on:Int)≤7:=hoin.2
       omega
     obtain⟨ob,off,oc',of,ocs,oe,ofz,ho1,ho2,ho3⟩:=optAt (hsrc1.mono g4) hoj
     cases ho1
     have hobm:ob≠mb:=by rintro rfl;rw[g5] at ho2;cases ho2
     have hob1:(Hm'.put mb (true,.map es cl)) ob=some (of,.cells ⟨ocs⟩ oe ofz):=by rw[View.put_other _ _ hobm];exact ho2
     have hob:(Hj.plus (Hm'.put mb (true,.map es cl))) ob=some (of,.cells ⟨ocs⟩ oe ofz):=by rw[plus_right (g3 _ _ hob1)];exact hob1
     have f2:ldL true 2 ocs (off+(j:Int).toNat*2)=some (.agg ⟨[.int .i64 (on:Nat),.int .i64 o2]⟩):=by rw[show(j:Int).toNat=j by simp];exact ho3
     have f3:stL z (i*1) [.int .i64 o2]=z.set i (.int .i64 o2):=by rw[Nat.mul_one];exact stL_one _ _ _ (by omega)
     have hJ3:J (s.leaves d (i+1) (turnedN v on) (mv++[o2])++(((s.opts (s.ps[i]?.getD 0) i).drop (j+1)).flatMap (fun o=> s.leaves d (i+1) (turnedN v o.1.toNat) (mv++[o.2]))++rest)) Hj:=by
       rw[List.drop_eq_getElem_cons cj2,List.flatMap_cons,List.append_assoc] at g10
       have e1:(s.opts (s.ps[i]?.getD 0) i)[j]=((on:Int),o2):=Option.some.inj ((List.getElem?_eq_getElem cj2).symm.trans hoj)
       rw[e1] at g10
       exact g10
     have hz1:(z.set i (.int .i64 o2)).length=7:=by rw[List.length_set];exact g7
     have hz2:(z.set i (.int .i64 o2)).take (i+1)=intsL (mv++[o2]):=by
       rw[List.take_succ_eq_append_getElem (by omega),List.take_set_of_le (Nat.le_refl i),g8]
       simp[intsL]
     have hz3:(z.set i (.int .i64 o2)).drop s.ps.length=List.replicate (7-s.ps.length) (.int .i64 0):=by rw[List.drop_set_of_lt (by omega)];exact g9
     refine .sr ?_
     refine .i ?_ (z:=lss_t (by omega))
     refine .done (.seq (.tt rfl (.skip (.seq (.block (.sr ?_))))))
     refine .x .ia ?_
     refine .x .l0 ?_
     refine .e (.al (zz:=fun b10=> ?_))
     refine .e (.st 0 (zz:=?_))
     refine .done (.seq ?_)
     refine Tc.drC [6,7] [] [1,3] mixed rfl ?_
     refine Ta.tkC 0 (by kernel_rfl) rfl rfl (by decide) rfl rfl (OpV.take (.ld 3)) ?_
     refine Ta.tkC 1 (by kernel_rfl) rfl rfl (by decide) rfl rfl (OpV.take .mv) ?_
     refine Ta.tkC 2 (by kernel_rfl) rfl rfl (by decide) rfl rfl (OpV.take (OpV.sliceTo (E:=en) rfl rfl rfl rfl rfl rfl (by omega) (by omega))) ?_
     refine Ta.tkC 3 (by kernel_rfl) rfl rfl (by decide) rfl rfl (OpV.take .fa) ?_
     refine Ta.tkC 4 (by kernel_rfl) rfl rfl (by decide) rfl rfl (OpV.take (.ld 0)) ?_
     refine Ta.each [5] (by kernel_rfl) rfl ⟨TaOp.mk rfl rfl rfl (.bs (zz:=fun bs=> ⟨S3.mk (by apply List.Sublist.cons;apply List.Sublist.cons_cons;apply List.Sublist.cons;apply List.Sublist.cons_cons;apply List.Sublist.cons;exact List.Sublist.refl _) (.inr (by apply List.Sublist.cons;exact List.Sublist.refl _)),?_⟩)),trivial⟩
     refine Ta.each [6] (by kernel_rfl) rfl ⟨TaOp.mk rfl rfl rfl (Or.appendIn (E:=en) 2 rfl rfl rfl rfl rfl rfl rfl rfl rfl rfl rfl rfl rfl (fun H hs=> SrcAt.of (hs.get (i:=0) rfl) (Nat.le_of_ble_eq_true rfl)) rfl (by omega) (by show i*1+1≤z.length;omega) (List.cons_ne_nil _ _) rfl (by decide) f3 ⟨S3.mk (by apply List.Sublist.cons;apply List.Sublist.cons_cons;apply List.Sublist.cons;apply List.Sublist.cons_cons;apply List.Sublist.cons;exact List.Sublist.refl _) (.inl (by kernel_rfl)),?_⟩),trivial⟩
     refine Ta.each [7] (by kernel_rfl) rfl ⟨TaOp.mk rfl rfl rfl (.st 4 (zz:=⟨S3.mk (by apply List.Sublist.cons;apply List.Sublist.cons_cons;apply List.Sublist.cons;apply List.Sublist.cons_cons;apply List.Sublist.cons;exact List.Sublist.refl _) (.inl (by kernel_rfl)),?_⟩)),trivial⟩
     refine Ta.done (by kernel_rfl) ?_
     refine .seq ?_
     refine Tc.drC [] [7] [] mixed rfl ?_
     refine Ta.tkC 0 (by kernel_rfl) rfl rfl (by decide) rfl rfl (OpV.take (.ld 3)) ?_
     refine Ta.tkC 1 (by kernel_rfl) rfl rfl (by decide) rfl rfl (OpV.take .mv) ?_
     refine Ta.tkC 2 (by kernel_rfl) rfl rfl (by decide) rfl rfl (OpV.take (.it (zz:=add_in (by omega) (by omega)))) ?_
     refine Ta.tkC 3 (by kernel_rfl) rfl rfl (by decide) rfl rfl (OpV.take .mv) ?_
     refine Ta.tkC 4 (by kernel_rfl) rfl rfl (by decide) rfl rfl (OpV.take .fa) ?_
     refine Ta.tkC 5 (by kernel_rfl) rfl rfl (by decide) rfl rfl (OpV.take (.ld 1)) ?_
     refine Ta.tkC 6 (by kernel_rfl) rfl rfl (by decide) rfl rfl (OpV.takeCall rfl rfl rfl rfl (fun H hs=> .f ca138 rfl (turned_c M H v on hv hon))) ?_
     refine Ta.lift (L₂:= [(bs,_,_),(b10,_,_)]) rfl (fun Hx hx=> ?_)
     refine Ta.callF 7 (by kernel_rfl) rfl (by kernel_rfl) rfl rfl rfl rfl rfl rfl (by decide) (FnT.of (first:= []) (captured:= [_,_,_,_]) ca188 rfl (ih (i+1) (turnedN v on) (mv++[o2]) _ (by omega) (by simp[hmv]) (turned_lt v hv on hon) (fun y hy=> hsub y (by
       unfold Stg.leaves
       exact List.mem_flatMap.2 ⟨_,List.mem_of_getElem? hoj,hy⟩)) Hj Hm' es cl _ Hx hx g3 g5 g6 hz1 hz2 hz3 hJ3)) (fun r H3 hr=> ?_)
     rcases hr with ⟨rfl,Hj',Hm2,es',cl',q',z',g2',g4',hs',g3',g5',g6',g7',g8',g9',hJ4⟩|⟨rfl,H1,hle,hD⟩
     · refine Ta.expand hs' ?_
       refine Ta.each [8] (by kernel_rfl) rfl ⟨TaOp.mk rfl rfl rfl (Or.ofV .nt rfl (by decide) ⟨S3.off (by kernel_rfl),?_⟩),trivial⟩
       refine Ta.done (by kernel_rfl) ?_
       refine .ff rfl (.skip (.inBlock (.r ?_)))
       refine .i ?_ (z:=add_in (by omega) (by omega))
       refine .m ?_
       refine .done ?_
       have hz4:z'.take i=intsL mv:=by
         have h:=congrArg (List.take i) g8'
         rw[List.take_take,Nat.min_eq_left (by omega)] at h
         rw[h]
         unfold intsL
         rw[←List.map_take,List.take_left' hmv]
       have lh':=lh ⟨⟨j+1,Hj',Hm2,es',cl',q',z'⟩,by show j+1≤_;omega,g2',g3',View.le_trans g4 g4',g5',g6',g7',hz4,g9',hJ4⟩ (by show _-(j+1)<_-j;omega)
       exact Tc.db lh'
     · refine Ta.lower hle ?_
       refine Ta.each [8] (by kernel_rfl) rfl ⟨TaOp.mk rfl rfl rfl (Or.ofV .nt rfl (by decide) ⟨S3.off (by kernel_rfl),?_⟩),trivial⟩
       refine Ta.done (by kernel_rfl) ?_
       refine .tt rfl (.sr ?_)
       refine .g ?_
       refine .done ?_
       refine .rt hK Tryz.func188 Tryz.results188 [_] ?_
       exact fun H' hs'=> .inr ⟨rfl,H1,hs'.base,hD⟩
theorem views_it(s:Stg)(hok:s.Ok)(eb ec mb:Nat):IterT M (.func (.func 152) #[s.val eb ec mb] #[]) s.all (fun x vb=> [.int .u8 x.1,.slice (some ⟨vb,0,none⟩) s.ps.length 7]) (fun x vb=> [(vb,true,.cells ⟨padC s.ps.length x.2⟩ 3 (0,0))]) (fun x vb=> [(vb,true,.cells ⟨padC s.ps.length x.2⟩ 3 (0,0))])
   (fun H=> EdgesAt H s eb) [(mb,true,.map #[] 0)] H:=fun l J D hcap h0 hy H' hs'=> by
 refine FnT.of (first:= [_]) (captured:= []) ca152 rfl ?_
 refine CallT.enter (vs:= [s.val eb ec mb,.func (.yield l) #[] #[]]) Tryz.func152 rfl Tryz.ntmps152 (Nat.le_of_ble_eq_true rfl) (hs') fun St c cs hK=> ?_
 refine .sr ?_
 refine .e (.bx (zz:=fun b2=> ?_))
 refine .e (.bx (zz:=fun b3=> ?_))
 refine .done (.sr ?_)
 refine .e (Or.makeSlice (E:=en) (len:=0) (cap:=7) rfl rfl rfl rfl rfl rfl (by decide) (by decide) rfl rfl (by decide) (fun bm=> ?_))
 refine .e (.al (zz:=fun b4=> ?_))
 refine .e (.st 0 (zz:=?_))
 refine .done (.sr ?_)
 refine .e (.al (zz:=fun b5=> ?_))
 refine .done (.sr ?_)
 refine .x .mf ?_
 refine .e (.st 0 (zz:=?_))
 refine .done (.r ?_)
 refine .x (.ld 0) ?_
 refine To.lift (L₂:= []) rfl (fun Hx hx=> ?_)
 have hp:SymSt H (nextL s l eb ec mb bm b2 b3 b4 b5 0 (List.replicate 7 (.int .i64 0))++[(mb,true,.map #[] 0)]) Hx:=hx.perm (by
   unfold nextL
   refine(List.Perm.trans ?_ (List.Perm.cons _ (List.Perm.swap _ _ _)))
   exact List.Perm.swap _ _ _)
 obtain⟨Hy,hy1,hy2⟩:=hp.unappend
 have hmH:H mb=none:=hy2.fresh (i:=0) rfl
 have hle:(H.plus (View.put (fun _=> none) mb (true,.map #[] 0))).le Hy:=fun b x hb=> by
   unfold View.plus at hb
   split at hb
   · rename_i y hyb
     cases hb
     exact hy2.base _ _ hyb
   · by_cases e:b=mb
     · subst e
       rw[View.put_same] at hb
       cases hb
       exact hy2.get (i:=0) rfl
     · rw[View.put_other _ _ e] at hb
       cases hb
 have hdj:Dj H (View.put (fun _=> none) mb (true,.map #[] 0)):=fun b x hb=> by
   by_cases e:b=mb
   · subst e;exact hmH
   · rw[View.put_other _ _ e] at hb
     cases hb
 have hn:=next_c M s hok l eb ec mb bm b2 b3 b4 b5 J D hcap hy s.ps.length 0 127 [] [] (by omega) rfl (by decide) (fun y h=> h) H (fun _=> none) #[] 0 (List.replicate 7 (.int .i64 0)) Hx (hy1.lower hle) hdj rfl (fun e he=> by cases he) (by simp) rfl (by rw[List.drop_replicate]) (by rw[List.append_nil];exact h0)
 refine To.callF rfl rfl rfl rfl rfl rfl (by decide) (FnT.of (first:= []) (captured:= [_,_,_,_]) ca188 rfl hn) (fun r H3 hr=> ?_)
 refine .done ?_
 refine Tc.overN (E:=en) hK Tryz.func152 Tryz.results152 (vs:= []) (by exact trivial) ?_
 intro H4 hs4
 rcases hr with ⟨rfl,Hj',Hm2,es',cl',q',z',g2',g4',hs5,g3',g5',g6',g7',g8',g9',hJ4⟩|⟨rfl,H1,hle1,hD⟩
 · exact⟨Hj',fun b x hb=> hs4.base _ _ (hs5.base _ _ (plus_left hb)),.inl hJ4⟩
 · exact⟨H1,View.le_trans hle1 hs4.base,.inr hD⟩
end
end Go.Proofs.YtpdaenfglbgfkaaGreatDoor
end
section
namespace Go.Proofs.YtpdaenfglbgfkaaGreatDoor
open Go.RL
set_option maxRecDepth 10000
set_option maxHeartbeats 4000000
def rowOf(f:Nat→Bool):List Value:=(List.range 128).map fun i=> .bool (f i)
theorem rowOf_len(f:Nat→Bool):(rowOf f).length=128:=by simp[rowOf]
theorem rowOf_get(f:Nat→Bool){i:Nat}(h:i<128):(rowOf f)[i]? =some (.bool (f i)):=by simp[rowOf,h]
theorem rowOf_congr {f g:Nat→Bool}(h:∀i,i<128→f i=g i):rowOf f=rowOf g:=by
 unfold rowOf
 exact List.map_congr_left fun i hi=> by rw[h i (by simpa using hi)]
theorem rowOf_set {f f':Nat→Bool}{w:Nat}{c:Bool}(hw:w<128)(h1:∀u,u<128→u≠w→f' u=f u)(h2:f' w=c):stL (rowOf f) (0+(w:Int).toNat*1) [.bool c]=rowOf f':=by
 rw[show 0+(w:Int).toNat*1=w by simp,stL_one _ _ _ (by rw[rowOf_len];exact hw)]
 apply List.ext_getElem?
 intro i
 by_cases e:w=i
 · subst e
   rw[List.getElem?_set_self (by rw[rowOf_len];exact hw),rowOf_get f' hw,h2]
 · rw[List.getElem?_set_ne e]
   by_cases hi:i<128
   · rw[rowOf_get f hi,rowOf_get f' hi,h1 i hi (Ne.symm e)]
   · rw[List.getElem?_eq_none (by rw[rowOf_len];omega),List.getElem?_eq_none (by rw[rowOf_len];omega)]
theorem rowOf_ld(f:Nat→Bool):ldL true 128 (rowOf f) 0=some (.agg ⟨rowOf f⟩):=by
 unfold ldL
 rw[show Nat.ble (0+128) (rowOf f).length=true by rw[rowOf_len];rfl]
 simp only[List.drop_zero]
 rw[List.take_of_length_le (by rw[rowOf_len];omega)]
theorem rowOf_st(f:Nat→Bool){c:List Value}(h:c.length=128):stL c 0 (rowOf f)=rowOf f:=by
 unfold stL
 rw[rowOf_len,List.drop_of_length_le (by omega)]
 simp
theorem rowOf_zero {f:Nat→Bool}(h:∀i,i<128→f i=false):List.replicate 128 (Value.bool false)=rowOf f:=by
 apply List.ext_getElem?
 intro i
 by_cases hi:i<128
 · rw[rowOf_get f hi,h i hi,List.getElem?_replicate,if_pos hi]
 · rw[List.getElem?_eq_none (by simp;omega),List.getElem?_eq_none (by rw[rowOf_len];omega)]
theorem rowOf_start:(List.replicate 128 (Value.bool false)).set 127 (.bool true)=rowOf (fun w=> w==127):=by kernel_rfl
theorem rowOf_one(f:Nat→Bool):(rowOf f).all single=true:=by
 rw[List.all_eq_true]
 intro x hx
 obtain⟨i,_,rfl⟩:=List.mem_map.1 hx
 rfl
theorem rowOf_blen(f:Nat→Bool):Nat.beq (rowOf f).length 128=true:=by rw[rowOf_len];rfl
def toV(v:Nat)(o:Int×Int):Nat:=turnedN v o.1.toNat
def nxR(os:List (Int×Int))(R:Nat→Bool)(v j w:Nat):Bool:=((List.range v).any fun u=> (os.any fun o=> toV u o==w)&&R u)||(((os.take j).any fun o=> toV v o==w)&&R v)
def Stg.reachTo(s:Stg):Nat→Nat→Bool
 | 0,w=> w==127
 | k+1,w=> nxR (s.opts (s.ps[k]?.getD 0) k) (s.reachTo k) 128 0 w
def Stg.reach(s:Stg):Nat→Bool:=s.reachTo s.ps.length
theorem nxR_zero(os:List (Int×Int))(R:Nat→Bool)(w:Nat):nxR os R 0 0 w=false:=by simp[nxR]
theorem nxR_step {os:List (Int×Int)}{R:Nat→Bool}{v j:Nat}{o:Int×Int}(h:os[j]? =some o)(w:Nat):nxR os R v (j+1) w=(nxR os R v j w||((toV v o==w)&&R v)):=by
 have hlt:=(List.getElem?_eq_some_iff.1 h).1
 have e:os.take (j+1)=os.take j++[o]:=by
   rw[List.take_succ_eq_append_getElem hlt]
   congr 2
   exact Option.some.inj ((List.getElem?_eq_getElem hlt).symm.trans h)
 unfold nxR
 rw[e,List.any_append]
 simp only[List.any_cons,List.any_nil,Bool.or_false,Bool.or_assoc,Bool.and_or_distrib_right]
theorem nxR_next(os:List (Int×Int))(R:Nat→Bool)(v w:Nat):nxR os R v os.length w=nxR os R (v+1) 0 w:=by
 unfold nxR
 rw[List.take_length,List.range_succ,List.any_append]
 simp
theorem startMem {H:View}{mb:Nat}{x:Bool×Obj}(hM:H mb=some x):((H.without mb).plus (View.put (fun _=> none) mb x)).le H∧Dj (H.without mb) (View.put (fun _=> none) mb x):=by
 refine⟨fun b y hb=> ?_,fun b y hb=> ?_⟩
 · unfold View.plus at hb
   split at hb
   · rename_i z hz
     cases hb
     by_cases e:b=mb
     · subst e;simp[View.without] at hz
     · rw[without_other e] at hz;exact hz
   · by_cases e:b=mb
     · subst e
       rw[View.put_same] at hb
       cases hb
       exact hM
     · rw[View.put_other _ _ e] at hb
       cases hb
 · by_cases e:b=mb
   · subst e;simp[View.without]
   · rw[View.put_other _ _ e] at hb
     cases hb
theorem plus_map {Hj Hm:View}{mb:Nat}{x:Bool×Obj}(hd:Dj Hj (Hm.put mb x)):(Hj.plus (Hm.put mb x)) mb=some x:=by rw[plus_right (hd mb x (View.put_same ..)),View.put_same]
theorem plus_own {Hj Hm:View}{mb:Nat}{x:Bool×Obj}(hd:Dj Hj (Hm.put mb x))(hmb:Hm mb=none):Hm.le (Hj.plus (Hm.put mb x)):=fun b y hb=> by
 have hne:b≠mb:=by rintro rfl;rw[hmb] at hb;cases hb
 have h1:(Hm.put mb x) b=some y:=by rw[View.put_other _ _ hne];exact hb
 rw[plus_right (hd b y h1)]
 exact h1
structure MSt where
 k:Nat
 Hm:View
 es:Array MapEntry
 cl:Nat
 row:List Value
section
variable(M:Md Tryz.prog)(H:View)
theorem reach_c(s:Stg)(hok:s.Ok)(eb ec mb:Nat)(hE:EdgesAt H s eb)(hM:H mb=some (true,.map #[] 0)):
   CallT M 147 #[s.val eb ec mb] H (fun v H'=> (∀b x,b≠mb→H b=some x→H' b=some x)∧v=.agg ⟨rowOf s.reach⟩):=by
 obtain⟨ef,ees,eet,eez,hE1,hE2⟩:=hE
 have hne:eb≠mb:=by rintro rfl;rw[hE1] at hM;cases hM
 obtain⟨hst,hdj⟩:=startMem hM
 have hEj:(H.without mb) eb=some (ef,.cells ⟨ees⟩ eet eez):=by rw[without_other hne];exact hE1
 have h6:=hok.ps6
 refine CallT.enter (vs:= [s.val eb ec mb]) Tryz.func147 rfl Tryz.ntmps147 (Nat.le_of_ble_eq_true rfl) (SymSt.nil _) fun St c cs hK=> ?_
 refine Tc.lower hst ?_
 refine .sr ?_
 refine .e (.bx (zz:=fun b1=> ?_))
 refine .e (.al (zz:=fun b2=> ?_))
 refine .done (.sr ?_)
 refine .x .bu ?_
 refine .e (.al (zz:=fun b3=> ?_))
 have g0:(List.replicate 128 (Value.bool false)).set 127 (.bool true)=rowOf (s.reachTo 0):=rowOf_start
 refine .e (Or.storeT (E:=en) 0 rfl rfl rfl rfl rfl rfl rfl rfl rfl rfl g0 ?_)
 refine .done (.seq (.sr ?_))
 refine .x .fa ?_
 refine .x .fa ?_
 refine .x (.ld 2) ?_
 refine .x .ln ?_
 refine .m ?_
 refine .done (.block ?_)
 have hpl:=hok.places
 refine Tc.db (Tc.loopB (σ:= { x:MSt//x.k≤s.ps.length∧Dj (H.without mb) (x.Hm.put mb (true,.map x.es x.cl))∧x.Hm mb=none∧Memo x.Hm s x.es.toList∧x.row=rowOf (s.reachTo x.k) })
   (fun x=> ((H.without mb).plus (x.1.Hm.put mb (true,.map x.1.es x.1.cl)),[(17,.int .i64 (x.1.k:Nat)),(16,.int .i64 s.ps.length),(15,.slice (some ⟨eb,0,none⟩) s.ps.length ec),(1,.pointer (some ⟨b1,0,none⟩)),(2,.pointer (some ⟨b2,0,none⟩)),(3,.pointer (some ⟨b3,0,none⟩))],
     [(b3,true,.cells ⟨x.1.row⟩ 185 (0,0)),(b2,true,.cells ⟨List.replicate 128 (.bool false)⟩ 185 (0,0)),(b1,true,.cells ⟨(s.val eb ec mb).cells.toList⟩ 183 (0,0))])) (fun x=> s.ps.length-x.1.k) ?_ ⟨⟨0,fun _=> none,#[],0,rowOf (s.reachTo 0)⟩,Nat.zero_le _,hdj,rfl,(fun e he=> by cases he),rfl⟩)
 rintro⟨⟨k,Hm,es,cl,row⟩,g1,g2,g3,g4,g5⟩ lh
 simp only at g1 g2 g3 g4 g5
 subst g5
 show Tc M St _ _ ((H.without mb).plus (Hm.put mb (true,.map es cl))) _ [(17,.int .i64 (k:Nat)),(16,.int .i64 s.ps.length),(15,.slice (some ⟨eb,0,none⟩) s.ps.length ec),(1,.pointer (some ⟨b1,0,none⟩)),(2,.pointer (some ⟨b2,0,none⟩)),(3,.pointer (some ⟨b3,0,none⟩))]
     [(b3,true,.cells ⟨rowOf (s.reachTo k)⟩ 185 (0,0)),(b2,true,.cells ⟨List.replicate 128 (.bool false)⟩ 185 (0,0)),(b1,true,.cells ⟨(s.val eb ec mb).cells.toList⟩ 183 (0,0))] _ _
 have ld0:=rowOf_ld (s.reachTo k)
 by_cases ck:k=s.ps.length
 · have st0:stL (List.replicate 128 (Value.bool false)) 0 (rowOf (s.reachTo k))=rowOf (s.reachTo k):=rowOf_st _ (by simp)
   have ln0:=rowOf_blen (s.reachTo k)
   have on0:=rowOf_one (s.reachTo k)
   refine .sr ?_
   refine .i ?_ (z:=lss_f (by omega))
   refine .done (.seq (.ff rfl (.exit rfl (.sr ?_))))
   refine .x (OpV.load (E:=en) 0 rfl rfl rfl rfl ld0) ?_
   refine .e (Or.storeT (E:=en) 1 rfl rfl rfl rfl rfl ln0 rfl (by decide +kernel) on0 rfl st0 ?_)
   refine .done ?_
   refine Tc.retN (E:=en) hK Tryz.func147 Tryz.results147 (vs:= [.agg ⟨rowOf (s.reachTo k)⟩]) ⟨⟨1,_,_,_,_,_,_,_,rfl,rfl,rfl,ld0⟩,trivial⟩ ?_
   exact fun H' hs=> ⟨fun b x hb hx=> hs.base _ _ (plus_left (by rw[without_other hb];exact hx)),by rw[ck];rfl⟩
 · have ck2:k<s.ps.length:=by omega
   obtain⟨os,hos⟩:∃os,os=s.opts (s.ps[k]?.getD 0) k:=⟨_,rfl⟩
   have f1:ldL true 2 ees (0+(k:Int).toNat*2)=some (edgeV (s.ps[k]?.getD 0) k):=by rw[show(k:Int).toNat=k by simp];exact hE2 k ck2
   have hE3:((H.without mb).plus (Hm.put mb (true,.map es cl))) eb=some (ef,.cells ⟨ees⟩ eet eez):=plus_left hEj
   refine .sr ?_
   refine .i ?_ (z:=lss_t (by omega))
   refine .done (.seq (.tt rfl (.skip (.seq (.block (.sr ?_))))))
   refine .x .ia ?_
   refine .x .l0 ?_
   refine .e (.al (zz:=fun b5=> ?_))
   refine .e (.st 0 (zz:=?_))
   refine .done (.sr ?_)
   refine .e (.al (zz:=fun b6=> ?_))
   refine .done (.seq (.sr ?_))
   refine .x (OpV.load (E:=en) 2 rfl rfl rfl rfl ld0) ?_
   refine .m ?_
   refine .done (.block ?_)
   refine Tc.db (Tc.loopB (σ:= { x:MSt//x.k≤128∧Dj (H.without mb) (x.Hm.put mb (true,.map x.es x.cl))∧x.Hm mb=none∧Memo x.Hm s x.es.toList∧x.row=rowOf (nxR os (s.reachTo k) x.k 0) })
     (fun x=> ((H.without mb).plus (x.1.Hm.put mb (true,.map x.1.es x.1.cl)),[(22,.int .i64 (x.1.k:Nat)),(21,.agg ⟨rowOf (s.reachTo k)⟩),(17,.int .i64 (k:Nat)),(16,.int .i64 s.ps.length),(15,.slice (some ⟨eb,0,none⟩) s.ps.length ec),(1,.pointer (some ⟨b1,0,none⟩)),(2,.pointer (some ⟨b2,0,none⟩)),(3,.pointer (some ⟨b3,0,none⟩)),(5,.pointer (some ⟨b5,0,none⟩)),(6,.pointer (some ⟨b6,0,none⟩))],
       [(b6,true,.cells ⟨x.1.row⟩ 185 (0,0)),(b5,true,.cells ⟨[.int .i64 ((s.ps[k]?.getD 0:Nat):Int),.int .i64 (k:Nat)]⟩ 169 (0,0)),(b3,true,.cells ⟨rowOf (s.reachTo k)⟩ 185 (0,0)),(b2,true,.cells ⟨List.replicate 128 (.bool false)⟩ 185 (0,0)),(b1,true,.cells ⟨(s.val eb ec mb).cells.toList⟩ 183 (0,0))])) (fun x=> 128-x.1.k) ?_ ⟨⟨0,Hm,es,cl,List.replicate 128 (.bool false)⟩,Nat.zero_le _,g2,g3,g4,rowOf_zero (fun i _=> nxR_zero ..)⟩)
   rintro⟨⟨v,Hm,es,cl,row⟩,v1,v2,v3,v4,v5⟩ mh
   simp only at v1 v2 v3 v4 v5
   subst v5
   show Tc M St _ _ ((H.without mb).plus (Hm.put mb (true,.map es cl))) _ [(22,.int .i64 (v:Nat)),(21,.agg ⟨rowOf (s.reachTo k)⟩),(17,.int .i64 (k:Nat)),(16,.int .i64 s.ps.length),(15,.slice (some ⟨eb,0,none⟩) s.ps.length ec),(1,.pointer (some ⟨b1,0,none⟩)),(2,.pointer (some ⟨b2,0,none⟩)),(3,.pointer (some ⟨b3,0,none⟩)),(5,.pointer (some ⟨b5,0,none⟩)),(6,.pointer (some ⟨b6,0,none⟩))]
       [(b6,true,.cells ⟨rowOf (nxR os (s.reachTo k) v 0)⟩ 185 (0,0)),(b5,true,.cells ⟨[.int .i64 ((s.ps[k]?.getD 0:Nat):Int),.int .i64 (k:Nat)]⟩ 169 (0,0)),(b3,true,.cells ⟨rowOf (s.reachTo k)⟩ 185 (0,0)),(b2,true,.cells ⟨List.replicate 128 (.bool false)⟩ 185 (0,0)),(b1,true,.cells ⟨(s.val eb ec mb).cells.toList⟩ 183 (0,0))] _ _
   by_cases cv:v=128
   · subst cv
     have ld1:=rowOf_ld (nxR os (s.reachTo k) 128 0)
     have st1:stL (rowOf (s.reachTo k)) 0 (rowOf (nxR os (s.reachTo k) 128 0))=rowOf (nxR os (s.reachTo k) 128 0):=rowOf_st _ (rowOf_len _)
     have ln1:=rowOf_blen (nxR os (s.reachTo k) 128 0)
     have on1:=rowOf_one (nxR os (s.reachTo k) 128 0)
     have ble:Nat.ble (0+128) (rowOf (s.reachTo k)).length=true:=by rw[rowOf_len];rfl
     have e1:rowOf (nxR os (s.reachTo k) 128 0)=rowOf (s.reachTo (k+1)):=by subst hos;rfl
     refine .sr ?_
     refine .i ?_ (z:=lss_f (by omega))
     refine .done (.seq (.ff rfl (.exit rfl (.r ?_))))
     refine .x (OpV.load (E:=en) 0 rfl rfl rfl rfl ld1) ?_
     refine .e (Or.storeT (E:=en) 2 rfl rfl rfl rfl rfl ln1 rfl ble on1 rfl st1 ?_)
     refine .done (.inBlock (.r ?_))
     refine .i ?_ (z:=add_in (by omega) (by omega))
     refine .m ?_
     refine .done ?_
     have lh':=lh ⟨⟨k+1,Hm,es,cl,rowOf (nxR os (s.reachTo k) 128 0)⟩,by show k+1≤_;omega,v2,v3,v4,e1⟩ (by show _-(k+1)<_-k;omega)
     exact Tc.db lh'
   · have cv2:v<128:=by omega
     have hEb:EdgesAt ((H.without mb).plus (Hm.put mb (true,.map es cl))) s eb:=⟨ef,ees,eet,eez,plus_left hEj,hE2⟩
     have f2:ldL false 1 (rowOf (s.reachTo k)) ((v:Int).toNat*1)=some (.bool (s.reachTo k v)):=by
       show(rowOf (s.reachTo k))[(v:Int).toNat*1]? =_
       rw[show(v:Int).toNat*1=v by simp]
       exact rowOf_get _ cv2
     refine .sr ?_
     refine .i ?_ (z:=lss_t (by omega))
     refine .done (.seq (.tt rfl (.skip (.seq (.block (.sr ?_))))))
     refine .m ?_
     refine .x (OpV.index (E:=en) rfl rfl rfl rfl rfl rfl (by omega) (by omega) f2) ?_
     refine .g ?_
     refine .g ?_
     refine .done (.sr ?_)
     refine .x (.ld 4) ?_
     refine .x (.ld 1) ?_
     refine To.callF rfl rfl rfl rfl rfl rfl (by decide) (FnT.f ca175 rfl (options_c M _ s hok eb ec mb es cl (s.ps[k]?.getD 0) k hEb (plus_map v2) Hm v4 (plus_own v2 v3) v3 ck2 rfl)) (fun w H1 hw=> ?_)
     obtain⟨Hm1,es1,cl1,hle1,hd1,hlm1,hmb1,hsrc,hm1⟩:=optStep v2 hw
     refine To.lower hle1 ?_
     have hsrc1:=hsrc
     obtain⟨⟨oa,oc,hw'⟩, -, -⟩:=hsrc
     subst hw'
     refine .x .ln ?_
     refine .m ?_
     refine .done (.block ?_)
     have hol:=Stg.opts_len hok (s.ps[k]?.getD 0) k
     rw[←hos] at hol hsrc1
     rw[←hos]
     refine Tc.db (Tc.loopInv (σ:= { x:Nat×List Value//x.1≤os.length∧x.2=rowOf (nxR os (s.reachTo k) v x.1) })
       (fun x=> ([(30,.int .i64 (x.1.1:Nat)),(29,.int .i64 (os.length:Nat)),(28,.slice oa os.length oc),(7,.int .i64 (v:Nat)),(8,.bool (s.reachTo k v)),(22,.int .i64 (v:Nat)),(21,.agg ⟨rowOf (s.reachTo k)⟩),(17,.int .i64 (k:Nat)),(16,.int .i64 s.ps.length),(15,.slice (some ⟨eb,0,none⟩) s.ps.length ec),(1,.pointer (some ⟨b1,0,none⟩)),(2,.pointer (some ⟨b2,0,none⟩)),(3,.pointer (some ⟨b3,0,none⟩)),(5,.pointer (some ⟨b5,0,none⟩)),(6,.pointer (some ⟨b6,0,none⟩))],
         [(b6,true,.cells ⟨x.1.2⟩ 185 (0,0)),(b5,true,.cells ⟨[.int .i64 ((s.ps[k]?.getD 0:Nat):Int),.int .i64 (k:Nat)]⟩ 169 (0,0)),(b3,true,.cells ⟨rowOf (s.reachTo k)⟩ 185 (0,0)),(b2,true,.cells ⟨List.replicate 128 (.bool false)⟩ 185 (0,0)),(b1,true,.cells ⟨(s.val eb ec mb).cells.toList⟩ 183 (0,0))])) (fun x=> os.length-x.1.1) ?_ ⟨(0,rowOf (nxR os (s.reachTo k) v 0)),Nat.zero_le _,rfl⟩)
     rintro⟨⟨j,row⟩,j1,j2⟩ jh
     simp only at j1 j2
     subst j2
     show Tc M St _ _ ((H.without mb).plus (Hm1.put mb (true,.map es1 cl1))) _ [(30,.int .i64 (j:Nat)),(29,.int .i64 (os.length:Nat)),(28,.slice oa os.length oc),(7,.int .i64 (v:Nat)),(8,.bool (s.reachTo k v)),(22,.int .i64 (v:Nat)),(21,.agg ⟨rowOf (s.reachTo k)⟩),(17,.int .i64 (k:Nat)),(16,.int .i64 s.ps.length),(15,.slice (some ⟨eb,0,none⟩) s.ps.length ec),(1,.pointer (some ⟨b1,0,none⟩)),(2,.pointer (some ⟨b2,0,none⟩)),(3,.pointer (some ⟨b3,0,none⟩)),(5,.pointer (some ⟨b5,0,none⟩)),(6,.pointer (some ⟨b6,0,none⟩))]
         [(b6,true,.cells ⟨rowOf (nxR os (s.reachTo k) v j)⟩ 185 (0,0)),(b5,true,.cells ⟨[.int .i64 ((s.ps[k]?.getD 0:Nat):Int),.int .i64 (k:Nat)]⟩ 169 (0,0)),(b3,true,.cells ⟨rowOf (s.reachTo k)⟩ 185 (0,0)),(b2,true,.cells ⟨List.replicate 128 (.bool false)⟩ 185 (0,0)),(b1,true,.cells ⟨(s.val eb ec mb).cells.toList⟩ 183 (0,0))] _ _
     by_cases cj:j=os.length
     · have e2:rowOf (nxR os (s.reachTo k) v j)=rowOf (nxR os (s.reachTo k) (v+1) 0):=by rw[cj];exact rowOf_congr fun w _=> nxR_next ..
       refine .sr ?_
       refine .i ?_ (z:=lss_f (by omega))
       refine .done (.seq (.ff rfl (.exit rfl (.inBlock (.r ?_)))))
       refine .i ?_ (z:=add_in (by omega) (by omega))
       refine .m ?_
       refine .done ?_
       have mh':=mh ⟨⟨v+1,Hm1,es1,cl1,rowOf (nxR os (s.reachTo k) v j)⟩,by show v+1≤_;omega,hd1,hmb1,hm1,e2⟩ (by show _-(v+1)<_-v;omega)
       exact Tc.db mh'
     · have cj2:j<os.length:=by omega
       obtain⟨⟨o1,o2⟩,hoj⟩:∃o,os[j]? =some o:=⟨_,List.getElem?_eq_getElem cj2⟩
       have hoj':=hoj
       rw[hos] at hoj'
       have hoin:=Stg.opts_in (List.mem_of_getElem? hoj')
       simp only at hoin
       obtain⟨on,rfl⟩:=Int.eq_ofNat_of_zero_le hoin.1
       have hon:on<8:=by
         have h7:(on:Int)≤7:=hoin.2
         omega
       obtain⟨ob,off,oc',of,ocs,oe,ofz,ho1,ho2,ho3⟩:=optAt (hos▸hsrc1) hoj'
       rw[←hos] at ho1
       cases ho1
       have hobm:ob≠mb:=by rintro rfl;rw[hmb1] at ho2;cases ho2
       have hob:((H.without mb).plus (Hm1.put mb (true,.map es1 cl1))) ob=some (of,.cells ⟨ocs⟩ oe ofz):=plus_own hd1 hmb1 _ _ ho2
       have f3:ldL true 2 ocs (off+(j:Int).toNat*2)=some (.agg ⟨[.int .i64 (on:Nat),.int .i64 o2]⟩):=by rw[show(j:Int).toNat=j by simp];exact ho3
       have hwlt:=turned_lt v cv2 on hon
       have hstep:=nxR_step (R:=s.reachTo k) (v:=v) hoj
       have f4:ldL false 1 (rowOf (nxR os (s.reachTo k) v j)) (0+((turnedN v on:Nat):Int).toNat*1)=some (.bool (nxR os (s.reachTo k) v j (turnedN v on))):=by
         show(rowOf (nxR os (s.reachTo k) v j))[0+((turnedN v on:Nat):Int).toNat*1]? =_
         rw[show 0+((turnedN v on:Nat):Int).toNat*1=turnedN v on by simp]
         exact rowOf_get _ hwlt
       have f5:stL (rowOf (nxR os (s.reachTo k) v j)) (0+((turnedN v on:Nat):Int).toNat*1) [.bool (nxR os (s.reachTo k) v j (turnedN v on)||s.reachTo k v)]=rowOf (nxR os (s.reachTo k) v (j+1)):=by
         refine rowOf_set hwlt (fun u _ hu=> ?_) ?_
         · rw[hstep]
           have:(toV v ((on:Int),o2)==u)=false:=by simpa [toV] using Ne.symm hu
           rw[this]
           simp
         · rw[hstep]
           simp[toV]
       have f6:Nat.ble (0+((turnedN v on:Nat):Int).toNat*1+1) (rowOf (nxR os (s.reachTo k) v j)).length=true:=by
         rw[rowOf_len]
         exact Nat.ble_eq_true_of_le (by simp;omega)
       have f7:IntKind.u8.wrap (v:Int)=(v:Int):=by
         have:∀v:Nat,v<128→IntKind.u8.wrap (v:Int)=(v:Int):=by decide +kernel
         exact this v cv2
       refine .sr ?_
       refine .i ?_ (z:=lss_t (by omega))
       refine .done (.seq (.tt rfl (.skip (.seq (.block (.sr ?_))))))
       refine .x .ia ?_
       refine .x .l0 ?_
       refine .e (.al (zz:=fun b10=> ?_))
       refine .e (.st 0 (zz:=?_))
       refine .done (.sr ?_)
       refine .m ?_
       refine .x .cv ?_
       refine .x .fa ?_
       refine .x (.ld 0) ?_
       refine .c rfl rfl rfl rfl (fun H hs=> .f ca138 rfl (turned_c M H v on cv2 hon)) ?_
       refine .g ?_
       refine .done ?_
       cases hnv:nxR os (s.reachTo k) v j (turnedN v on) with
       | true=>
         rw[hnv] at f4 f5
         refine .r ?_
         refine .m ?_
         refine .m ?_
         refine .x .ib ?_
         refine .x (.ld 1) ?_
         refine .m ?_
         refine .sk ?_
         refine .x .pk ?_
         refine .x .ib ?_
         refine .e (.st 1 (zz:=?_))
         refine .done (.inBlock (.r ?_))
         refine .i ?_ (z:=add_in (by omega) (by omega))
         refine .m ?_
         refine .done ?_
         have jh':=jh ⟨(j+1,rowOf (nxR os (s.reachTo k) v (j+1))),by show j+1≤_;omega,rfl⟩ (by show _-(j+1)<_-j;omega)
         exact Tc.db jh'
       | false=>
         rw[hnv] at f4 f5
         refine .r ?_
         refine .m ?_
         refine .m ?_
         refine .x .ib ?_
         refine .x (.ld 1) ?_
         refine .m ?_
         refine .m ?_
         refine .x .pk ?_
         refine .x .ib ?_
         refine .e (.st 1 (zz:=?_))
         refine .done (.inBlock (.r ?_))
         refine .i ?_ (z:=add_in (by omega) (by omega))
         refine .m ?_
         refine .done ?_
         have jh':=jh ⟨(j+1,rowOf (nxR os (s.reachTo k) v (j+1))),by show j+1≤_;omega,rfl⟩ (by show _-(j+1)<_-j;omega)
         exact Tc.db jh'
end
end Go.Proofs.YtpdaenfglbgfkaaGreatDoor
end
section
namespace Go.RL
open Go.Conc
structure MapOk(es:Array MapEntry)(cl:Nat)(F:Value→Value→Prop):Prop where
 keys:(es.toList.map (·.key)).Nodup
 borns:(es.toList.map (·.born)).Nodup
 lt:∀e∈es.toList,e.born<cl
 mem:∀k v,F k v↔∃e∈es.toList,e.key=k∧e.val=v
theorem MapOk.nil:MapOk #[] 0 fun _ _=> False:=⟨by simp,by simp,by simp,by simp⟩
theorem MapOk.congr {es:Array MapEntry}{cl:Nat}{F F':Value→Value→Prop}(h:MapOk es cl F)(k:∀a b,F' a b↔F a b):MapOk es cl F':=⟨h.keys,h.borns,h.lt,fun a b=> (k a b).trans (h.mem a b)⟩
theorem MapOk.find {es:Array MapEntry}{cl:Nat}{F:Value→Value→Prop}(h:MapOk es cl F){k:Value}{r:Option (Nat×Value)}(hr:FindOk es.toList k r):match r with
   | some (_,v)=> F k v
   | none=> ∀v,¬F k v:=by
 cases r with
 | none=>
   intro v hv
   obtain⟨e,he,h1,_⟩:=(h.mem k v).1 hv
   exact hr e he h1
 | some p=>
   obtain⟨i,v⟩:=p
   obtain⟨e,h1,h2,h3⟩:=hr
   exact(h.mem k v).2 ⟨e,List.mem_of_getElem? h1,h2,h3⟩
theorem MapOk.put {es:Array MapEntry}{cl:Nat}{F:Value→Value→Prop}(h:MapOk es cl F){k:Value}(v:Value){r:Option (Nat×Value)}(hr:FindOk es.toList k r):
   ∃es' cl',mapPut es cl k v r=.map es' cl'∧MapOk es' cl' fun k' v'=> (k'=k∧v'=v)∨(k'≠k∧F k' v'):=by
 cases r with
 | none=>
   refine⟨_,_,rfl,?_,?_,?_,?_⟩
   · simp only[Array.toList_push,List.map_append,List.map_cons,List.map_nil]
     rw[List.nodup_append]
     refine⟨h.keys,by simp,fun a ha b hb=> ?_⟩
     simp only[List.mem_singleton] at hb
     subst hb
     obtain⟨e,he,rfl⟩:=List.mem_map.1 ha
     exact hr e he
   · simp only[Array.toList_push,List.map_append,List.map_cons,List.map_nil]
     rw[List.nodup_append]
     refine⟨h.borns,by simp,fun a ha b hb=> ?_⟩
     simp only[List.mem_singleton] at hb
     subst hb
     obtain⟨e,he,rfl⟩:=List.mem_map.1 ha
     have:=h.lt e he
     omega
   · intro e he
     simp only[Array.toList_push,List.mem_append,List.mem_singleton] at he
     rcases he with he|rfl
     · have:=h.lt e he;omega
     · simp
   · intro k' v'
     simp only[Array.toList_push,List.mem_append,List.mem_singleton]
     constructor
     · rintro(⟨rfl,rfl⟩|⟨_,hf⟩)
       · exact⟨_,.inr rfl,rfl,rfl⟩
       · obtain⟨e,he,h1,h2⟩:=(h.mem k' v').1 hf
         exact⟨e,.inl he,h1,h2⟩
     · rintro⟨e,he|rfl,h1,h2⟩
       · exact .inr ⟨fun e'=> hr e he (h1.trans e'),(h.mem k' v').2 ⟨e,he,h1,h2⟩⟩
       · exact .inl ⟨h1.symm,h2.symm⟩
 | some p=>
   obtain⟨i,u⟩:=p
   obtain⟨e,h1,h2,h3⟩:=hr
   have hi:=(List.getElem?_eq_some_iff.1 h1).1
   have he:es.toList[i]=e:=(List.getElem?_eq_some_iff.1 h1).2
   have hes:es.toList=es.toList.take i++e::es.toList.drop (i+1):=by
     rw[←he,←List.drop_eq_getElem_cons hi,List.take_append_drop]
   have hml:(es.modify i fun e=> { e with key:=k,val:=v }).toList=es.toList.take i++{ e with key:=k,val:=v }::es.toList.drop (i+1):=by
     rw[Array.toList_modify,List.modify_eq_take_cons_drop hi,he]
   have hk:=h.keys
   rw[hes,List.map_append,List.map_cons] at hk
   refine⟨_,_,rfl,?_,?_,?_,?_⟩
   · rw[hml,List.map_append,List.map_cons]
     rw[h2] at hk
     exact hk
   · have hb:=h.borns
     rw[hes,List.map_append,List.map_cons] at hb
     rw[hml,List.map_append,List.map_cons]
     exact hb
   · intro x hx
     rw[hml] at hx
     rcases List.mem_append.1 hx with hx|hx
     · exact h.lt x (by rw[hes];exact List.mem_append_left _ hx)
     · rcases List.mem_cons.1 hx with rfl|hx
       · exact h.lt e (by rw[hes];simp)
       · exact h.lt x (by rw[hes];exact List.mem_append_right _ (List.mem_cons_of_mem _ hx))
   · intro k' v'
     rw[hml]
     rw[List.nodup_append,List.nodup_cons] at hk
     obtain⟨_,⟨hk1,_⟩,hk2⟩:=hk
     constructor
     · rintro(⟨rfl,rfl⟩|⟨hne,hf⟩)
       · exact⟨_,List.mem_append_right _ (List.mem_cons_self ..),rfl,rfl⟩
       · obtain⟨x,hx,g1,g2⟩:=(h.mem k' v').1 hf
         rw[hes] at hx
         rcases List.mem_append.1 hx with hx|hx
         · exact⟨x,List.mem_append_left _ hx,g1,g2⟩
         · rcases List.mem_cons.1 hx with rfl|hx
           · exact absurd (g1.symm.trans h2) hne
           · exact⟨x,List.mem_append_right _ (List.mem_cons_of_mem _ hx),g1,g2⟩
     · rintro⟨x,hx,g1,g2⟩
       rcases List.mem_append.1 hx with hx|hx
       · refine .inr ⟨fun e'=> hk2 _ (List.mem_map_of_mem hx) _ (List.mem_cons_self ..) (g1.trans (e'.trans h2.symm)),(h.mem k' v').2 ⟨x,by rw[hes];exact List.mem_append_left _ hx,g1,g2⟩⟩
       · rcases List.mem_cons.1 hx with rfl|hx
         · exact .inl ⟨g1.symm,g2.symm⟩
         · refine .inr ⟨fun e'=> hk1 ?_,(h.mem k' v').2 ⟨x,by rw[hes];exact List.mem_append_right _ (List.mem_cons_of_mem _ hx),g1,g2⟩⟩
           have:=List.mem_map_of_mem (f:=(·.key)) hx
           rw[g1,e',←h2] at this
           exact this
def unseen(es:Array MapEntry)(seen:Array Nat):List MapEntry:=es.toList.filter fun e=> !seen.contains e.born
theorem unseen_start(es:Array MapEntry):unseen es #[]=es.toList:=by simp[unseen]
theorem unseen_done {es:Array MapEntry}{seen:Array Nat}(h:∀e∈es.toList,seen.contains e.born=true):unseen es seen= []:=by
 unfold unseen
 rw[List.filter_eq_nil_iff]
 intro e he
 rw[h e he]
 simp
theorem unseen_next {es:Array MapEntry}{seen:Array Nat}{e:MapEntry}(hn:(es.toList.map (·.born)).Nodup)(he:e∈es.toList)(hs:seen.contains e.born=false):(unseen es seen).Perm (e::unseen es (seen.push e.born)):=by
 have hme:e∈unseen es seen:=by
   unfold unseen
   rw[List.mem_filter]
   exact⟨he,by rw[hs];rfl⟩
 obtain⟨A,B,hAB⟩:=List.append_of_mem he
 have hb:=hn
 rw[hAB,List.map_append,List.map_cons,List.nodup_append,List.nodup_cons] at hb
 obtain⟨_,⟨h1,_⟩,h2⟩:=hb
 have other:∀x:MapEntry,x.born≠e.born→(!(seen.push e.born).contains x.born)=!seen.contains x.born:=fun x hx=> by
   rw[Array.contains_push]
   have:(x.born==e.born)=false:=by simpa using hx
   simp[this]
 have hA:A.filter (fun x=> !(seen.push e.born).contains x.born)=A.filter fun x=> !seen.contains x.born:=List.filter_congr fun x hx=> other x fun e'=> h2 _ (List.mem_map_of_mem hx) _ (List.mem_cons_self ..) e'
 have hB:B.filter (fun x=> !(seen.push e.born).contains x.born)=B.filter fun x=> !seen.contains x.born:=List.filter_congr fun x hx=> other x fun e'=> h1 (by
   have:=List.mem_map_of_mem (f:=(·.born)) hx
   rw[e'] at this
   exact this)
 unfold unseen
 rw[hAB,List.filter_append,List.filter_append,List.filter_cons_of_pos (by rw[hs];rfl),List.filter_cons_of_neg (by simp),hA,hB]
 exact List.perm_middle
end Go.RL
end
section
namespace Go.Proofs.YtpdaenfglbgfkaaGreatDoor
open Go.RL
set_option maxRecDepth 10000
set_option maxHeartbeats 4000000
def Edg(H:View)(ps:List Nat)(eb:Nat):Prop:=
 ∃f es et ez,H eb=some (f,.cells ⟨es⟩ et ez)∧∀i:Nat,i<ps.length→ldL true 2 es (0+i*2)=some (edgeV (ps[i]?.getD 0) i)
theorem Edg.le {H H':View}{ps:List Nat}{eb:Nat}(h:Edg H ps eb)(k:H.le H'):Edg H' ps eb:=by
 obtain⟨f,es,et,ez,h1,h2⟩:=h
 exact⟨f,es,et,ez,k _ _ h1,h2⟩
theorem places_in:∀c:Nat,c<32→0<(placesTo c 7).length∧(placesTo c 7).length≤6∧∀i:Nat,i<(placesTo c 7).length→(placesTo c 7)[i]?.getD 0≤6:=by decide +kernel
theorem Lk.ok_in {k:Lk}(h:k.ok=true):(1≤k.s0∧k.s0≤k.s1∧k.s1≤40)∧(1≤k.r0∧k.r0≤k.r1∧k.r1≤40)∧(-9≤k.l0∧k.l0≤k.l1∧k.l1≤9)∧(-12≤k.m0∧k.m0≤k.m1∧k.m1≤12):=by
 simp[Lk.ok,allTo,Lk.chk,Lk.sends,Lk.reads,Lk.leans,Lk.moves,paceOk,leanOk,moveOk] at h
 omega
structure Lk.Fine(k:Lk):Prop where
 s:0≤k.s0∧k.s1≤1000
 r:0≤k.r0∧k.r1≤1000
 l: -1000≤k.l0∧k.l1≤1000
 m: -1000≤k.m0∧k.m1≤1000
 o:k.s0≤1000000∧k.r0≤1000000∧k.l0≤1000000∧k.m0≤1000∧ -1000000≤k.s1∧ -1000000≤k.r1∧ -1000000≤k.l1∧ -1000000≤k.m1
theorem Lk.fine {k:Lk}(h:k.ok=true):k.Fine:=by
 obtain⟨h1,h2,h3,h4⟩:=Lk.ok_in h
 exact⟨by omega,by omega,by omega,by omega,by omega⟩
theorem Lk.Fine.stg {k:Lk}(h:k.Fine){code:Nat}(hc:code<32){x:Stg}(hx:x∈k.stgs code):x.Ok∧x.ps=placesTo code 7:=by
 obtain⟨s,r,n,f,h1,h2,h3,h4,rfl⟩:=Lk.mem_stgs.1 hx
 obtain⟨g1,g2,g3,g4,g5⟩:=h
 obtain⟨p1,p2,p3⟩:=places_in code hc
 exact⟨⟨hc,p1,p2,p3,⟨by show 0≤s;omega,by show s≤1000;omega⟩,⟨by show 0≤r;omega,by show r≤1000;omega⟩,⟨by show -1000≤n;omega,by show n≤1000;omega⟩,⟨by show -1000≤f;omega,by show f≤1000;omega⟩,⟨by show -1000≤k.m0;omega,by show k.m0≤1000;omega⟩,by show k.m1≤1000;omega⟩,rfl⟩
theorem Lk.Fine.bounds {k:Lk}(h:k.Fine):∀z,z∈ [k.s0,k.r0,k.l0,k.m0,k.s1,k.r1,k.l1,k.m1]→ -1000000≤z∧z≤1000000:=by
 obtain⟨g1,g2,g3,g4,g5⟩:=h
 simp only[List.mem_cons,List.not_mem_nil,or_false,forall_eq_or_imp,forall_eq]
 omega
def Lk.sees(k:Lk)(code v:Nat):Bool:=(k.stgs code).any fun s=> s.reach v
def vF(K:Nat→Bool)(k v:Value):Prop:=v=.bool true∧∃u:Nat,u<128∧k=.int .u8 (u:Nat)∧K u=true
theorem vF_congr {K K':Nat→Bool}(h:∀u,u<128→K u=K' u)(k v:Value):vF K k v↔vF K' k v:=
 ⟨fun⟨h1,u,h2,h3,h4⟩=> ⟨h1,u,h2,h3,by rw[←h u h2];exact h4⟩,fun⟨h1,u,h2,h3,h4⟩=> ⟨h1,u,h2,h3,by rw[h u h2];exact h4⟩⟩
theorem vF_put {K:Nat→Bool}{w:Nat}(hw:w<128)(k v:Value):vF (fun u=> K u||u==w) k v↔(k=.int .u8 (w:Nat)∧v=.bool true)∨(k≠ .int .u8 (w:Nat)∧vF K k v):=by
 constructor
 · rintro⟨h1,u,h2,h3,h4⟩
   by_cases e:u=w
   · subst e;exact .inl ⟨h3,h1⟩
   · refine .inr ⟨?_,h1,u,h2,h3,?_⟩
     · rw[h3]
       intro h
       simp only[Value.int.injEq,true_and] at h
       omega
     · have:(u==w)=false:=by simpa using e
       have h5:(K u||u==w)=true:=h4
       rw[this,Bool.or_false] at h5
       exact h5
 · rintro(⟨h1,h2⟩|⟨_,h1,u,h2,h3,h4⟩)
   · exact⟨h2,w,hw,h1,by simp⟩
   · exact⟨h1,u,h2,h3,by show(K u||u==w)=true;rw[h4];rfl⟩
theorem view_key(u:Nat):KeyFl en 1 117 (.int .u8 (u:Nat)):=⟨_,[_],rfl,rfl,_,rfl⟩
theorem row_key(f:Nat→Bool):KeyFl en 2 185 (.agg ⟨rowOf f⟩):=by
 refine⟨_,rowOf f,rfl,rfl,?_⟩
 refine⟨_,rfl,rowOf_len f,fun i hi=> ?_⟩
 refine⟨f i,?_⟩
 unfold chunk
 show((rowOf f).drop (i*1)).take 1=_
 have hi':i<(rowOf f).length:=by rw[rowOf_len];exact hi
 rw[Nat.mul_one,List.drop_eq_getElem_cons hi']
 have:(rowOf f)[i]=.bool (f i):=Option.some.inj ((List.getElem?_eq_getElem hi').symm.trans (rowOf_get f hi))
 rw[this]
 rfl
theorem vF_keys {es:Array MapEntry}{cl:Nat}{K:Nat→Bool}(h:MapOk es cl (vF K)):∀e∈es.toList,KeyFl en 1 117 e.key:=fun e he=> by
 obtain⟨_,u,_,h3,_⟩:=(h.mem e.key e.val).2 ⟨e,he,rfl,rfl⟩
 rw[h3]
 exact view_key u
def RowsOk(F:Value→Value→Prop)(K:Nat→Bool):Prop:=∀k v,F k v→v=.bool true∧∃f:Nat→Bool,k=.agg ⟨rowOf f⟩∧∀u,u<128→f u=true→K u=true
theorem RowsOk.keys {es:Array MapEntry}{cl:Nat}{F:Value→Value→Prop}{K:Nat→Bool}(h:MapOk es cl F)(g:RowsOk F K):∀e∈es.toList,KeyFl en 2 185 e.key:=fun e he=> by
 obtain⟨_,f,h3,_⟩:=g _ _ ((h.mem e.key e.val).2 ⟨e,he,rfl,rfl⟩)
 rw[h3]
 exact row_key f
theorem rowOf_inj {f g:Nat→Bool}(h:rowOf f=rowOf g){u:Nat}(hu:u<128):f u=g u:=by
 have h1:=rowOf_get f hu
 rw[h,rowOf_get g hu] at h1
 simpa using h1.symm
def AllQ(k:Lk)(code:Nat)(H:View)(v:Value)(H':View):Prop:=H.le H'∧∃m es cl,v=.map (some m)∧H' m=some (true,.map es cl)∧H m=none∧MapOk es cl (vF (k.sees code))
section
variable(M:Md Tryz.prog)(H:View)
theorem all90_c(k:Lk)(hk:k.Fine)(code eb ec:Nat)(hc:code<32)(hE:Edg H (placesTo code 7) eb):
   CallT M 90 #[k.val,.agg ⟨[.int .i64 code,.slice (some ⟨eb,0,none⟩) (placesTo code 7).length ec]⟩] H (AllQ k code H):=by
 refine CallT.enter (vs:= [k.val,.agg ⟨[.int .i64 code,.slice (some ⟨eb,0,none⟩) (placesTo code 7).length ec]⟩]) Tryz.func90 rfl Tryz.ntmps90 (Nat.le_of_ble_eq_true rfl) (SymSt.nil _) fun St c cs hK=> ?_
 refine .sr ?_
 refine .e (.bx (zz:=fun b2=> ?_))
 refine .e (.bx (zz:=fun b3=> ?_))
 refine .g ?_
 refine .done (.sr ?_)
 refine .e (Or.makeMap rfl rfl (by decide) (fun m1=> ?_))
 refine .e (.al (zz:=fun b5=> ?_))
 refine .e (.st 0 (zz:=?_))
 refine .done (.sr ?_)
 refine .e (Or.makeMap rfl rfl (by decide) (fun m2=> ?_))
 refine .e (.al (zz:=fun b6=> ?_))
 refine .e (.st 0 (zz:=?_))
 refine .done (.seq (.sr ?_))
 refine .x (.ld 5) ?_
 refine .x (.ld 4) ?_
 refine To.callF rfl rfl rfl rfl rfl rfl (by decide) (FnT.f ca146 rfl (settings_c M H k code (placesTo code 7).length eb ec)) (fun w H1 hw=> ?_)
 obtain⟨hle1,c2,c5,c3,rfl,hcap⟩:=hw
 refine .done (.block ?_)
 have hE1:=hE.le hle1
 refine Tc.db (R':= [(15,setF c2 c5 c3),(5,.pointer (some ⟨b5,0,none⟩)),(6,.pointer (some ⟨b6,0,none⟩)),(4,.map none)]) (L':= [(b6,true,.cells ⟨[.map (some m2)]⟩ 176 (0,0)),(m2,true,.map #[] 0),(b5,true,.cells ⟨[.map (some m1)]⟩ 115 (0,0)),(m1,true,.map #[] 0)]) ?_
 have hI0:∀a b,vF (fun _=> false) a b↔False:=fun a b=> ⟨fun⟨_,_,_,_,h⟩=> (by cases h),fun h=> h.elim⟩
 refine Tc.rangeL (A:= []) (xs:=k.stgs code) (ts:= [16]) (fun rest H₁ L₁=> ∃es1 cl1 K1 es2 cl2 F2,L₁= [(b6,true,.cells ⟨[.map (some m2)]⟩ 176 (0,0)),(m2,true,.map es2 cl2),(b5,true,.cells ⟨[.map (some m1)]⟩ 115 (0,0)),(m1,true,.map es1 cl1)]∧H1.le H₁∧
     MapOk es1 cl1 (vF K1)∧MapOk es2 cl2 F2∧RowsOk F2 K1∧∀u,u<128→(K1 u||rest.any fun s=> s.reach u)=k.sees code u) (fun _ _ _=> False) rfl rfl rfl rfl (fun H h=> settings_it M H k code eb ec c2 c5 c3 hk.bounds h) (CapS.le) (fun rest H₁ L₁ ⟨_,_,_,_,_,_,_,h,_⟩=> hcap.le _ _ h) rfl (fun _ _=> rfl)
     ⟨#[],0,fun _=> false,#[],0,fun _ _=> False,rfl,View.le_refl _,MapOk.nil.congr hI0,MapOk.nil,fun _ _ h=> h.elim,fun u _=> by rw[Bool.false_or];rfl⟩ ?_ ?_ ?_
 · rintro r s rest mb l tmps asg bdy H₁ _ hs ⟨es1,cl1,K1,es2,cl2,F2,rfl,hle2,hm1,hm2,hro,hall⟩ Q1 St1 cc1 cs1 hK1 q1 -
   obtain⟨hok,hps⟩:=hk.stg hc hs
   have hE2:EdgesAt H₁ s eb:=by
     have:=hE1.le hle2
     rw[←hps] at this
     exact this
   have hsv:s.val eb ec mb=.agg ⟨[.int .i64 s.code,.slice (some ⟨eb,0,none⟩) s.ps.length ec,.int .i64 s.send,.int .i64 s.read,.int .i64 s.lean,.int .i64 s.first,.int .i64 s.mf,.int .i64 s.mt,.map (some mb)]⟩:=rfl
   refine .r ?_
   refine .e (.al (zz:=fun b7=> ?_))
   refine .e (.st 0 (zz:=?_))
   refine .done ?_
   refine Tc.beginRound (i:=2) rfl rfl rfl ?_
   refine .block (.sr ?_)
   refine .x (.ld 0) ?_
   refine To.pushF 1 rfl (fun hmb=> ?_)
   have hEm:EdgesAt (H₁.put mb (true,.map #[] 0)) s eb:=by
     obtain⟨f,es,et,ez,h1,h2⟩:=hE2
     exact⟨f,es,et,ez,View.le_put _ hmb _ _ h1,h2⟩
   refine To.callF rfl rfl rfl rfl rfl rfl (by decide) (FnT.f ca147 rfl (reach_c M (H₁.put mb (true,.map #[] 0)) s hok eb ec mb hEm (View.put_same ..))) (fun w H2 hw=> ?_)
   obtain⟨hpres,rfl⟩:=hw
   have hle3:H₁.le H2:=fun b x hb=> by
     have hne:b≠mb:=by rintro rfl;rw[hmb] at hb;cases hb
     exact hpres b x hne (by rw[View.put_other _ _ hne];exact hb)
   refine To.lower hle3 ?_
   have ln1:=rowOf_blen s.reach
   have on1:=rowOf_one s.reach
   have st1:stL (List.replicate 128 (Value.bool false)) 0 (rowOf s.reach)=rowOf s.reach:=rowOf_st _ (by simp)
   have ld1:=rowOf_ld s.reach
   refine .e (.al (zz:=fun b8=> ?_))
   refine .e (Or.storeT (E:=en) 0 rfl rfl rfl rfl rfl ln1 rfl (by decide +kernel) on1 rfl st1 ?_)
   refine .done (.seq (.sr ?_))
   refine .x (.ld 4) ?_
   refine .x (OpV.load (E:=en) 0 rfl rfl rfl rfl ld1) ?_
   refine .e (Or.lookup (E:=en) 2 rfl rfl rfl (fun H hs=> ⟨true,hs.get (i:=5) rfl⟩) rfl rfl rfl (by decide) (row_key s.reach) (hro.keys hm2) rfl (by decide) (fun rr hr=> ?_))
   have hfind:=hm2.find hr
   cases rr with
   | some p=>
     obtain⟨pi,pv⟩:=p
     simp only at hfind
     obtain⟨rfl,f,hf1,hf2⟩:=hro _ _ hfind
     have hin:∀u,u<128→s.reach u=true→K1 u=true:=fun u hu h=> hf2 u hu (by
       simp only[Value.agg.injEq,Array.mk.injEq] at hf1
       rw[←rowOf_inj hf1 hu]
       exact h)
     refine .done (.tt rfl (.exit rfl ?_))
     refine Tc.leaveRound hK1 (i:=2) rfl (.inl ⟨rfl,rfl⟩) (fun H' hs=> q1 H' _ _ (hs.less (by apply List.Sublist.cons;apply List.Sublist.cons;exact List.Sublist.refl _)) ⟨es1,cl1,K1,es2,cl2,F2,rfl,hle2,hm1,hm2,hro,fun u hu=> ?_⟩)
     rw[←hall u hu,List.any_cons]
     cases h:s.reach u with
     | true=> rw[hin u hu h];rfl
     | false=> rfl
   | none=>
     simp only at hfind
     refine .done (.ff rfl (.skip (.sr ?_)))
     refine .x (.ld 4) ?_
     refine .x (OpV.load (E:=en) 0 rfl rfl rfl rfl ld1) ?_
     refine .e (Or.mapUpdate (E:=en) 5 2 rfl rfl rfl rfl rfl rfl rfl (by decide) (row_key s.reach) (hro.keys hm2) rfl (fun rr hr=> ?_))
     obtain⟨es2',cl2',hput,hm2'⟩:=hm2.put (.bool true) hr
     rw[hput]
     refine .done (.sr ?_)
     refine .x (OpV.load (E:=en) 0 rfl rfl rfl rfl ld1) ?_
     refine .m ?_
     refine .done (.block ?_)
     refine Tc.db (Tc.loopInv (σ:= { x:Nat×Array MapEntry×Nat//x.1≤128∧MapOk x.2.1 x.2.2 (vF fun u=> K1 u||(decide (u<x.1)&&s.reach u)) })
       (fun x=> ([(25,.int .i64 (x.1.1:Nat)),(24,.agg ⟨rowOf s.reach⟩),(5,.pointer (some ⟨b5,0,none⟩)),(6,.pointer (some ⟨b6,0,none⟩)),(8,.pointer (some ⟨b8,0,none⟩))],
         [(l,true,.loop { Loop.fresh 90 tmps [16].toArray asg bdy r with state:=.busy }),(r,true,.deferred (some [])),(b6,true,.cells ⟨[.map (some m2)]⟩ 176 (0,0)),(m2,true,.map es2' cl2'),(b5,true,.cells ⟨[.map (some m1)]⟩ 115 (0,0)),(m1,true,.map x.1.2.1 x.1.2.2)])) (fun x=> 128-x.1.1) ?_ ⟨(0,es1,cl1),Nat.zero_le _,hm1.congr (vF_congr (fun u _=> by simp))⟩)
     rintro⟨⟨v,es1',cl1'⟩,v1,v2⟩ vh
     simp only at v1 v2
     show Tc M St1 _ _ H₁ _ [(25,.int .i64 (v:Nat)),(24,.agg ⟨rowOf s.reach⟩),(5,.pointer (some ⟨b5,0,none⟩)),(6,.pointer (some ⟨b6,0,none⟩)),(8,.pointer (some ⟨b8,0,none⟩))]
         [(l,true,.loop _),(r,true,.deferred (some [])),(b6,true,.cells ⟨[.map (some m2)]⟩ 176 (0,0)),(m2,true,.map es2' cl2'),(b5,true,.cells ⟨[.map (some m1)]⟩ 115 (0,0)),(m1,true,.map es1' cl1')] _ _
     by_cases cv:v=128
     · subst cv
       refine .sr ?_
       refine .i ?_ (z:=lss_f (by omega))
       refine .done (.seq (.ff rfl (.exit rfl (.inBlock ?_))))
       refine Tc.leaveRound hK1 (i:=0) rfl (.inl ⟨rfl,rfl⟩) (fun H' hs=> q1 H' _ _ (hs.less (by exact List.Sublist.refl _)) ⟨es1',cl1',fun u=> K1 u||s.reach u,es2',cl2',_,rfl,hle2,v2.congr (vF_congr fun u hu=> by simp[hu]),hm2',?_,fun u hu=> ?_⟩)
       · rintro k' v' (⟨rfl,rfl⟩|⟨_,hf⟩)
         · exact⟨rfl,s.reach,rfl,fun u _ h=> by show(K1 u||s.reach u)=true;rw[h];simp⟩
         · obtain⟨h1,f,h2,h3⟩:=hro _ _ hf
           exact⟨h1,f,h2,fun u hu h=> by show(K1 u||s.reach u)=true;rw[h3 u hu h];rfl⟩
       · rw[←hall u hu,List.any_cons,Bool.or_assoc]
     · have cv2:v<128:=by omega
       have f2:ldL false 1 (rowOf s.reach) ((v:Int).toNat*1)=some (.bool (s.reach v)):=by
         show(rowOf s.reach)[(v:Int).toNat*1]? =_
         rw[show(v:Int).toNat*1=v by simp]
         exact rowOf_get _ cv2
       have f7:IntKind.u8.wrap (v:Int)=(v:Int):=by
         have:∀v:Nat,v<128→IntKind.u8.wrap (v:Int)=(v:Int):=by decide +kernel
         exact this v cv2
       cases hsr:s.reach v with
       | true=>
         rw[hsr] at f2
         refine .sr ?_
         refine .i ?_ (z:=lss_t (by omega))
         refine .done (.seq (.tt rfl (.skip (.seq (.block (.sr ?_))))))
         refine .m ?_
         refine .x (OpV.index (E:=en) rfl rfl rfl rfl rfl rfl (by omega) (by omega) f2) ?_
         refine .g ?_
         refine .g ?_
         refine .done (.sr ?_)
         refine .m ?_
         refine .done (.tt rfl (.r ?_))
         refine .x (.ld 4) ?_
         refine .m ?_
         refine .x .cv ?_
         refine .e (Or.mapUpdate (E:=en) 5 1 rfl rfl rfl rfl rfl rfl rfl (by decide) (view_key v) (vF_keys v2) rfl (fun rr hr=> ?_))
         obtain⟨es1'',cl1'',hput,hm1'⟩:=v2.put (.bool true) hr
         rw[hput]
         refine .done (.inBlock (.r ?_))
         refine .i ?_ (z:=add_in (by omega) (by omega))
         refine .m ?_
         refine .done ?_
         have vh':=vh ⟨(v+1,es1'',cl1''),by show v+1≤_;omega,hm1'.congr fun a b=> ((vF_congr (fun u _=> ?_) a b).trans (vF_put cv2 a b))⟩ (by show _-(v+1)<_-v;omega)
         · exact Tc.db vh'
         · by_cases e:u=v
           · subst e
             simp[hsr]
           · have h1:decide (u<v+1)=decide (u<v):=by
               rw[decide_eq_decide]
               omega
             have h2:(u==v)=false:=by simpa using e
             show(K1 u||(decide (u<v+1)&&s.reach u))=((K1 u||(decide (u<v)&&s.reach u))||u==v)
             rw[h1,h2,Bool.or_false]
       | false =>
         rw[hsr] at f2
         refine .sr ?_
         refine .i ?_ (z:=lss_t (by omega))
         refine .done (.seq (.tt rfl (.skip (.seq (.block (.sr ?_))))))
         refine .m ?_
         refine .x (OpV.index (E:=en) rfl rfl rfl rfl rfl rfl (by omega) (by omega) f2) ?_
         refine .g ?_
         refine .g ?_
         refine .done (.sr ?_)
         refine .m ?_
         refine .done (.ff rfl (.skip (.inBlock (.r ?_))))
         refine .i ?_ (z:=add_in (by omega) (by omega))
         refine .m ?_
         refine .done ?_
         have vh':=vh ⟨(v+1,es1',cl1'),by show v+1≤_;omega,v2.congr (vF_congr fun u _=> ?_)⟩ (by show _-(v+1)<_-v;omega)
         · exact Tc.db vh'
         · by_cases e:u=v
           · subst e
             simp[hsr]
           · have h1:decide (u<v+1)=decide (u<v):=by
               rw[decide_eq_decide]
               omega
             show(K1 u||(decide (u<v+1)&&s.reach u))=(K1 u||(decide (u<v)&&s.reach u))
             rw[h1]
 · rintro r H₁ L₁ ⟨es1,cl1,K1,es2,cl2,F2,rfl,hle2,hm1,hm2,hro,hall⟩
   refine .inBlock (.sr ?_)
   refine .x (.ld 3) ?_
   refine .g ?_
   refine .done ?_
   refine Tc.retD (E:=en) (i:=0) hK Tryz.func90 Tryz.results90 (vs:= [_]) rfl ⟨rfl,trivial⟩ ?_
   refine fun H' hs=> ⟨View.le_trans hle1 (View.le_trans hle2 hs.base),m1,es1,cl1,rfl,hs.get (i:=4) rfl,?_,hm1.congr (vF_congr fun u hu=> ?_)⟩
   · have:=hs.fresh (i:=4) rfl
     cases h:H m1 with
     | none=> rfl
     | some y=> rw[hle2 _ _ (hle1 _ _ h)] at this;cases this
   · rw[←hall u hu]
     simp
 · rintro _ _ _ _ h
   exact h.elim
end
end Go.Proofs.YtpdaenfglbgfkaaGreatDoor
end
section
namespace Go.Proofs.YtpdaenfglbgfkaaGreatDoor
open Go.RL
set_option maxRecDepth 10000
set_option maxHeartbeats 4000000
def notRt(rt:Nat)(x:Nat×List Int):Bool:=x.1 !=rt
def Stg.wrong(s:Stg)(rt:Nat):Option (Int×Int×Int×List Int):=(s.all.find? (notRt rt)).map fun x=> (s.send,s.read,s.lean,x.2)
def Lk.wrong(k:Lk)(code:Nat):Option (Int×Int×Int×List Int):=(k.stgs code).findSome? fun s=> s.wrong (rightN code)
theorem Stg.leaves_len(s:Stg):∀(d i v:Nat) (mv:List Int) (x:Nat×List Int),x∈s.leaves d i v mv→x.2.length=mv.length+d
 | 0,_,_,mv,x,h=> by
   simp only[Stg.leaves,List.mem_singleton] at h
   subst h
   rfl
 | d+1,i,v,mv,x,h=> by
   unfold Stg.leaves at h
   obtain⟨o,_,h2⟩:=List.mem_flatMap.1 h
   have:=Stg.leaves_len s d (i+1) _ _ x h2
   rw[this]
   simp
   omega
theorem Stg.leaves_lt(s:Stg):∀(d i v:Nat) (mv:List Int) (x:Nat×List Int),v<128→x∈s.leaves d i v mv→x.1<128
 | 0,_,_,mv,x,hv,h=> by
   simp only[Stg.leaves,List.mem_singleton] at h
   subst h
   exact hv
 | d+1,i,v,mv,x,hv,h=> by
   unfold Stg.leaves at h
   obtain⟨o,h1,h2⟩:=List.mem_flatMap.1 h
   have:=Stg.opts_in h1
   exact Stg.leaves_lt s d (i+1) _ _ x (turned_lt v hv _ (by omega)) h2
theorem Stg.all_len {s:Stg}{x:Nat×List Int}(h:x∈s.all):x.2.length=s.ps.length:=by
 have:=Stg.leaves_len s _ _ _ _ x h
 simpa using this
def pastV(s r n:Int)(g:Gl 3 1):Value:=.agg ⟨[.int .i64 s,.int .i64 r,.int .i64 n,g.val]⟩
def PastQ(o:Option (Int×Int×Int×List Int))(H:View)(v:Value)(H':View):Prop:=
 match o with
 | none=> v=.tuple ⟨[.agg ⟨[.int .i64 0,.int .i64 0,.int .i64 0,.slice none 0 0]⟩,.bool false]⟩
 | some (s,r,n,mv)=> ∃g:Gl 3 1,v=.tuple ⟨[pastV s r n g,.bool true]⟩∧g.l=intsL mv∧∀y∈g.bl,H' y.1=some y.2∧H y.1=none
section
variable(M:Md Tryz.prog)(H:View)
theorem wrong_c(k:Lk)(hk:k.Fine)(code eb ec:Nat)(hc:code<32)(hE:Edg H (placesTo code 7) eb):
   CallT M 100 #[k.val,.agg ⟨[.int .i64 code,.slice (some ⟨eb,0,none⟩) (placesTo code 7).length ec]⟩] H (fun v H'=> H.le H'∧PastQ (k.wrong code) H v H'):=by
 refine CallT.enter (vs:= [k.val,.agg ⟨[.int .i64 code,.slice (some ⟨eb,0,none⟩) (placesTo code 7).length ec]⟩]) Tryz.func100 rfl Tryz.ntmps100 (Nat.le_of_ble_eq_true rfl) (SymSt.nil _) fun St c cs hK=> ?_
 refine .sr ?_
 refine .e (.bx (zz:=fun b2=> ?_))
 refine .e (.bx (zz:=fun b3=> ?_))
 refine .e (.al (zz:=fun b4=> ?_))
 refine .e (.al (zz:=fun b5=> ?_))
 refine .done (.sr ?_)
 refine .x (.ld 2) ?_
 refine .c rfl rfl rfl rfl (fun H hs=> .f ca95 rfl (right_c M H code _ hc)) ?_
 refine .e (.al (zz:=fun b6=> ?_))
 refine .e (.st 0 (zz:=?_))
 refine .done (.seq (.sr ?_))
 refine .x (.ld 4) ?_
 refine .x (.ld 3) ?_
 refine To.callF rfl rfl rfl rfl rfl rfl (by decide) (FnT.f ca146 rfl (settings_c M H k code (placesTo code 7).length eb ec)) (fun w H1 hw=> ?_)
 obtain⟨hle1,c2,c5,c3,rfl,hcap⟩:=hw
 refine .done (.block ?_)
 have hE1:=hE.le hle1
 refine Tc.db (R':= [(14,setF c2 c5 c3),(4,.pointer (some ⟨b4,0,none⟩)),(5,.pointer (some ⟨b5,0,none⟩)),(6,.pointer (some ⟨b6,0,none⟩))]) (L':= [(b6,true,.cells ⟨[.int .u8 (rightN code:Nat)]⟩ 117 (0,0)),(b5,true,.cells ⟨[.bool false]⟩ 4 (0,0)),(b4,true,.cells ⟨[.int .i64 0,.int .i64 0,.int .i64 0,.slice none 0 0]⟩ 39 (0,0))]) ?_
 refine Tc.rangeL (A:= []) (xs:=k.stgs code) (ts:= [15]) (fun rest H₁ L₁=> L₁= [(b6,true,.cells ⟨[.int .u8 (rightN code:Nat)]⟩ 117 (0,0)),(b5,true,.cells ⟨[.bool false]⟩ 4 (0,0)),(b4,true,.cells ⟨[.int .i64 0,.int .i64 0,.int .i64 0,.slice none 0 0]⟩ 39 (0,0))]∧H1.le H₁∧(rest.findSome? fun s=> s.wrong (rightN code))=k.wrong code)
     (fun j H₁ L₁=> j=.ret∧H1.le H₁∧∃(s r n:Int) (mv:List Int) (g:Gl 3 1),k.wrong code=some (s,r,n,mv)∧g.l=intsL mv∧(∀y∈g.bl,H₁ y.1=some y.2∧H y.1=none)∧L₁= [(b6,true,.cells ⟨[.int .u8 (rightN code:Nat)]⟩ 117 (0,0)),(b5,true,.cells ⟨[.bool true]⟩ 4 (0,0)),(b4,true,.cells ⟨[.int .i64 s,.int .i64 r,.int .i64 n,Gl.val g]⟩ 39 (0,0))])
     rfl rfl rfl rfl (fun H h=> settings_it M H k code eb ec c2 c5 c3 hk.bounds h) (CapS.le) (fun rest H₁ L₁ ⟨_,h,_⟩=> hcap.le _ _ h) rfl (fun _ _=> rfl) ⟨rfl,View.le_refl _,rfl⟩ ?_ ?_ ?_
 · rintro r s rest mb l tmps asg bdy H₁ _ hs ⟨rfl,hle2,hfs⟩ Q1 St1 cc1 cs1 hK1 q1 q1'
   obtain⟨hok,hps⟩:=hk.stg hc hs
   have hE2:EdgesAt H₁ s eb:=by
     have:=hE1.le hle2
     rw[←hps] at this
     exact this
   have hcapE:∀H H':View,H.le H'→EdgesAt H s eb→EdgesAt H' s eb:=fun H H' hle he=> Edg.le he hle
   refine .r ?_
   refine .e (.al (zz:=fun b7=> ?_))
   refine .e (.st 0 (zz:=?_))
   refine .done ?_
   refine Tc.beginRound (i:=2) rfl rfl rfl ?_
   refine .block (.sr ?_)
   refine .x (.ld 0) ?_
   refine .x .mf ?_
   refine .done (.block ?_)
   refine Tc.perm (List.Perm.swap _ _ _) ?_
   refine Tc.rangeLIn (A:= [(mb,true,.map #[] 0)]) (i:=2) (xs:=s.all) (ts:= [18,19]) (fun rest2 H₂ L₂=> L₂= [(b7,true,.cells ⟨(s.val eb ec mb).cells.toList⟩ 183 (0,0)),(l,true,.loop { Loop.fresh 100 tmps [15].toArray asg bdy r with state:=.busy }),(r,true,.deferred (some [])),(b6,true,.cells ⟨[.int .u8 (rightN code:Nat)]⟩ 117 (0,0)),(b5,true,.cells ⟨[.bool false]⟩ 4 (0,0)),(b4,true,.cells ⟨[.int .i64 0,.int .i64 0,.int .i64 0,.slice none 0 0]⟩ 39 (0,0))]∧H1.le H₂∧rest2.find? (notRt (rightN code))=s.all.find? (notRt (rightN code)))
     (fun j H₂ L₂=> j=.ret∧H1.le H₂∧∃(s' r' n:Int) (mv:List Int) (g:Gl 3 1),k.wrong code=some (s',r',n,mv)∧g.l=intsL mv∧(∀y∈g.bl,H₂ y.1=some y.2∧H y.1=none)∧L₂= [(b7,true,.cells ⟨(s.val eb ec mb).cells.toList⟩ 183 (0,0)),(l,true,.loop { Loop.fresh 100 tmps [15].toArray asg bdy r with state:=.busy }),(r,true,.deferred (some [])),(b6,true,.cells ⟨[.int .u8 (rightN code:Nat)]⟩ 117 (0,0)),(b5,true,.cells ⟨[.bool true]⟩ 4 (0,0)),(b4,true,.cells ⟨[.int .i64 s',.int .i64 r',.int .i64 n,Gl.val g]⟩ 39 (0,0))])
     rfl rfl rfl rfl rfl (fun H h=> views_it M H s hok eb ec mb) hcapE (fun rest H₁ L₁ ⟨_,h,_⟩=> ?_) rfl (fun _ _=> rfl) ⟨rfl,hle2,rfl⟩ ?_ ?_ ?_
   · have h':=hE1.le h
     rw[←hps] at h'
     exact h'
   · rintro x rest2 vb l2 tmps2 asg2 bdy2 H₂ _ hx ⟨rfl,hle3,hfd⟩ Q2 St2 cc2 cs2 hK2 q2 q2'
     have hxl:=Stg.all_len hx
     have hx1:x.1<128:=Stg.leaves_lt s _ _ _ _ x (by decide) hx
     have h6:=hok.ps6
     refine .sr ?_
     refine .g ?_
     refine .done (.r ?_)
     refine .g ?_
     refine .done ?_
     refine Tc.beginRound (i:=1) rfl rfl rfl ?_
     by_cases cx:x.1=rightN code
     · have hfd':rest2.find? (notRt (rightN code))=s.all.find? (notRt (rightN code)):=by
         rw[←hfd,List.find?_cons_of_neg (by simp[notRt,cx])]
       refine .block (.sr ?_)
       refine .m ?_
       refine .x (.ld 5) ?_
       refine .i ?_ (z:=neq_f (by omega))
       refine .done (.ff rfl (.skip (.inBlock ?_)))
       refine Tc.leaveRound hK2 (i:=1) rfl (.inl ⟨rfl,rfl⟩) (fun H' hs'=> q2 H' _ _ hs' ⟨rfl,hle3,hfd'⟩)
     · have hfd':s.all.find? (notRt (rightN code))=some x:=by
         rw[←hfd,List.find?_cons_of_pos (by simp[notRt,cx])]
       have hw:k.wrong code=some (s.send,s.read,s.lean,x.2):=by
         rw[←hfs]
         have h1:s.wrong (rightN code)=some (s.send,s.read,s.lean,x.2):=by unfold Stg.wrong;rw[hfd'];rfl
         rw[List.findSome?_cons,h1]
       have hpad:((padC s.ps.length x.2).drop 0).take (s.ps.length*1)=intsL x.2:=by
         rw[List.drop_zero,Nat.mul_one]
         unfold padC
         rw[List.take_left' (by rw[intsL_len];exact hxl)]
       have hpl:0+s.ps.length*1≤(padC s.ps.length x.2).length:=by
         unfold padC
         rw[List.length_append,intsL_len,hxl]
         simp
       have hsg:(intsL x.2).all single=true:=by
         rw[List.all_eq_true]
         intro y hy
         obtain⟨z,_,rfl⟩:=List.mem_map.1 hy
         rfl
       have hsrc:∀H:View,H vb=some (true,.cells ⟨padC s.ps.length x.2⟩ 3 (0,0))→SrcAt H 1 (.slice (some ⟨vb,0,none⟩) s.ps.length 7) s.ps.length (intsL x.2):=fun _ h=> hpad▸SrcAt.of h hpl
       refine .block (.sr ?_)
       refine .m ?_
       refine .x (.ld 5) ?_
       refine .i ?_ (z:=neq_t (by omega))
       refine .done (.tt rfl (.seq ?_))
       refine Tc.dr [9,10] [6,7] mixed rfl ?_
       refine .q 0 rfl .fa ?_
       refine .q 1 rfl (.ld 2) ?_
       refine .q 2 rfl .fa ?_
       refine .q 3 rfl (.ld 2) ?_
       refine .q 4 rfl .fa ?_
       refine .q 5 rfl (.ld 2) ?_
       refine .q 6 rfl .mv ?_
       refine Ta.each [7] (by kernel_rfl) rfl ⟨TaOp.mk rfl rfl rfl (Or.callNew Gl.val Gl.bl (fun g:Gl 3 1=> g.l=intsL x.2) rfl rfl rfl rfl rfl (by decide) gl_nodup (fun H hs=> .f ca136 rfl (CallT.mono (clone_c M H _ s.ps.length 7 (intsL x.2) (by omega) (hsrc H (hs.get (i:=0) rfl)) hsg) (by rintro v H' ⟨h1,g,h2,h3,h4⟩;exact⟨h1,g,h2,h3,h4⟩))) (fun g hgl=> ⟨S2.mk (by exact List.sublist_append_left _ _) (.inr (by exact List.sublist_append_left _ _)),?_⟩)),trivial⟩
       refine .q 8 rfl .bu ?_
       refine Ta.each [9] (by kernel_rfl) rfl ⟨TaOp.mk rfl rfl rfl (.st 7 (zz:=⟨S2.mk (by exact List.sublist_append_left _ _) (.inl (by kernel_rfl)),?_⟩)),trivial⟩
       refine Ta.each [10] (by kernel_rfl) rfl ⟨TaOp.mk rfl rfl rfl (.st 6 (zz:=⟨S2.mk (by exact List.sublist_append_left _ _) (.inl (by kernel_rfl)),?_⟩)),trivial⟩
       refine Ta.done (by kernel_rfl) ?_
       refine Tc.lift (L₂:= [_,_,_,_,_,_,_,_]) rfl (fun Hx hx=> ?_)
       refine Tc.leaveRound hK2 (i:=1) rfl (.inr (.inl ⟨_,rfl,rfl⟩)) (fun H' hs'=> q2' H' _ _ _ (hs'.less (by apply List.Sublist.cons;exact List.Sublist.refl _)) ⟨rfl,View.le_trans hle3 hx.base,s.send,s.read,s.lean,x.2,g,hw,hgl,fun y hy=> ⟨hx.at_ y hy,?_⟩,rfl⟩)
       have h1:=hx.out y hy
       cases h2:H y.1 with
       | none=> rfl
       | some z=> rw[hle3 _ _ (hle1 _ _ h2)] at h1;cases h1
   · rintro H₂ _ ⟨rfl,hle3,hnf⟩
     have hfs':(rest.findSome? fun s=> s.wrong (rightN code))=k.wrong code:=by
       rw[←hfs,List.findSome?_cons]
       have h1:s.wrong (rightN code)=none:=by unfold Stg.wrong;rw[←hnf];rfl
       rw[h1]
     refine .inBlock (.inBlock ?_)
     refine Tc.leaveRound hK1 (i:=1) rfl (.inl ⟨rfl,rfl⟩) (fun H' hs'=> q1 H' _ _ (hs'.less (by apply List.Sublist.cons;exact List.Sublist.refl _)) ⟨rfl,hle3,hfs'⟩)
   · rintro j H₂ _ ⟨rfl,hle3,s',r',n',mv,g,hw,hg,hgb,rfl⟩
     refine Tc.leaveRound hK1 (i:=1) rfl (.inr (.inl ⟨_,rfl,rfl⟩)) (fun H' hs'=> q1' H' _ _ _ (hs'.less (by apply List.Sublist.cons;exact List.Sublist.refl _)) ⟨rfl,hle3,s',r',n',mv,g,hw,hg,hgb,rfl⟩)
 · rintro r H₁ _ ⟨rfl,hle2,hfs⟩
   have hnone:k.wrong code=none:=by rw[←hfs];rfl
   refine .inBlock (.sr ?_)
   refine .x .bu ?_
   refine .e (.st 3 (zz:=?_))
   refine .e (.st 2 (zz:=?_))
   refine .done ?_
   refine Tc.retD (E:=en) (i:=0) hK Tryz.func100 Tryz.results100 (vs:= [_,_]) rfl (by refine⟨⟨3,_,_,_,_,_,_,_,rfl,rfl,rfl,rfl⟩,?_⟩;refine⟨⟨2,_,_,_,_,_,_,_,rfl,rfl,rfl,rfl⟩,?_⟩;exact trivial) ?_
   exact fun H' hs=> ⟨View.le_trans hle1 (View.le_trans hle2 hs.base),by rw[hnone];rfl⟩
 · rintro r j H₁ _ ⟨rfl,hle2,s,r',n,mv,g,hw,hg,hgb,rfl⟩
   refine Tc.retD (E:=en) (i:=0) hK Tryz.func100 Tryz.results100 (vs:= [_,_]) rfl (by refine⟨⟨3,_,_,_,_,_,_,_,rfl,rfl,rfl,rfl⟩,?_⟩;refine⟨⟨2,_,_,_,_,_,_,_,rfl,rfl,rfl,rfl⟩,?_⟩;exact trivial) ?_
   exact fun H' hs=> ⟨View.le_trans hle1 (View.le_trans hle2 hs.base),by rw[hw];exact⟨g,rfl,hg,fun y hy=> ⟨hs.base _ _ (hgb y hy).1,(hgb y hy).2⟩⟩⟩
end
end Go.Proofs.YtpdaenfglbgfkaaGreatDoor
end
section
namespace Go.Proofs.YtpdaenfglbgfkaaGreatDoor
open Go.RL
set_option maxRecDepth 10000
set_option maxHeartbeats 4000000
def letN(code:Nat)(x:Nat×Nat×List Value):Value:=.agg ⟨[.int .i64 code,.slice (some ⟨x.1,0,none⟩) (placesTo code 7).length x.2.1]⟩
def letB(code:Nat)(x:Nat×Nat×List Value):Bl:= [(x.1,true,.cells ⟨edgeCells (placesTo code 7)++x.2.2⟩ 169 (0,0))]
theorem letB_nodup(code:Nat)(x:Nat×Nat×List Value):((letB code x).map (·.1)).Nodup:=by simp[letB]
def edgeCellsF(s:Nat)(ps:List Nat):List Value:=((ps.zipIdx s).map fun x=> [Value.int .i64 (x.1:Nat),Value.int .i64 (x.2:Nat)]).flatten
theorem edgeCellsF_get:∀(ps:List Nat) (s i:Nat),i<ps.length→((edgeCellsF s ps).drop (i*2)).take 2= [.int .i64 (ps[i]?.getD 0:Nat),.int .i64 (s+i:Nat)]
 | [],_,_,h=> by simp at h
 | p ::ps,s,i,h=> by
   have e:edgeCellsF s (p::ps)= [.int .i64 (p:Nat),.int .i64 (s:Nat)]++edgeCellsF (s+1) ps:=by simp[edgeCellsF]
   rw[e]
   cases i with
   | zero=> simp
   | succ i=>
     rw[show(i+1)*2=i*2+2 by omega,List.drop_append]
     simp only[List.length_cons,List.length_nil]
     rw[show i*2+2-(0+1+1)=i*2 by omega,List.drop_eq_nil_of_le (by simp),List.nil_append,edgeCellsF_get ps (s+1) i (by simpa using h)]
     simp
     omega
theorem edgeCells_len(ps:List Nat):(edgeCells ps).length=ps.length*2:=by
 have:∀(ps:List Nat) (s:Nat),(edgeCellsF s ps).length=ps.length*2:=by
   intro ps
   induction ps with
   | nil=> intro s;rfl
   | cons p ps ih=>
     intro s
     have e:edgeCellsF s (p::ps)= [.int .i64 (p:Nat),.int .i64 (s:Nat)]++edgeCellsF (s+1) ps:=by simp[edgeCellsF]
     rw[e,List.length_append,ih]
     simp
     omega
 exact this ps 0
theorem edg_of {H:View}{code:Nat}{x:Nat×Nat×List Value}(h:∀y∈letB code x,H y.1=some y.2):Edg H (placesTo code 7) x.1:=by
 refine⟨_,_,_,_,h (x.1,true,.cells ⟨edgeCells (placesTo code 7)++x.2.2⟩ 169 (0,0)) (by simp[letB]),fun i hi=> ?_⟩
 have hl:=edgeCells_len (placesTo code 7)
 have hle:Nat.ble (0+i*2+2) (edgeCells (placesTo code 7)++x.2.2).length=true:=Nat.ble_eq_true_of_le (by rw[List.length_append];omega)
 unfold ldL
 simp only[hle]
 have h1:=edgeCellsF_get (placesTo code 7) 0 i hi
 congr 3
 rw[Nat.zero_add,List.drop_append_of_le_length (by omega),List.take_append_of_le_length (by rw[List.length_drop];omega)]
 have h2:edgeCellsF 0 (placesTo code 7)=edgeCells (placesTo code 7):=rfl
 rw[←h2,h1,Nat.zero_add]
section
variable(M:Md Tryz.prog)(H:View)
theorem gl_some {e:TypeId}{sz:Nat}(g:Gl e sz)(h:0<g.n):∃b,g.blk=some b:=by
 cases hb:g.blk with
 | some b=> exact⟨b,rfl⟩
 | none=>
   have h1:=g.h0 hb
   have h2:=g.hc
   omega
theorem letterOf_n(code:Nat)(h1:code<32):CallT M 113 #[.int .i64 code] H (fun v H'=> H.le H'∧∃x,v=letN code x∧True∧∀y∈letB code x,H' y.1=some y.2∧H y.1=none):=
 CallT.mono (letterOf_c M H code h1) (by
   rintro v H' ⟨h2,g,rfl,h3,h4,h5⟩
   obtain⟨b,hb⟩:=gl_some g (by rw[h3];exact(places_in code h1).1)
   refine⟨h2,(b,g.cap,g.junk),?_,trivial,fun y hy=> h5 y ?_⟩
   · unfold letN Gl.val
     rw[hb,h3]
     rfl
   · unfold Gl.bl
     rw[hb,h4]
     exact hy)
theorem sure_c(k:Lk)(hk:k.Fine)(code:Nat)(hc:code<32):CallT M 98 #[k.val,.int .i64 code] H (fun v H'=> H.le H'∧v=.bool (k.wrong code).isNone):=by
 refine CallT.enter (vs:= [k.val,.int .i64 code]) Tryz.func98 rfl Tryz.ntmps98 (Nat.le_of_ble_eq_true rfl) (SymSt.nil _) fun St c cs hK=> ?_
 cases hw:k.wrong code with
 | none=>
   refine .sr ?_
   refine .e (.bx (zz:=fun b2=> ?_))
   refine .g ?_
   refine .done (.seq ?_)
   refine Tc.via (fun R' L'=> AllIn [(6,.bool false)] R') ?_ (fun fin=> ?_)
   · intro R' L' hR
     refine Tc.dropB (R':= [(6,.bool false)]) (L':= []) ?_ hR (List.nil_sublist _)
     refine .sr ?_
     refine .m ?_
     refine .x .nt ?_
     refine .g ?_
     refine .done ?_
     refine .rt hK Tryz.func98 Tryz.results98 [_] ?_
     exact fun H' hs=> ⟨hs.base,by rw[hw];rfl⟩
   · refine Tc.dr [8] [] mixed rfl ?_
     refine .q 0 rfl (.ld 0) ?_
     refine .q 1 rfl .mv ?_
     refine Ta.each [2,7] (by kernel_rfl) rfl ⟨TaOp.mk rfl rfl rfl (Or.callNew (letN code) (letB code) (fun _=> True) rfl rfl rfl rfl rfl (by decide) (letB_nodup code) (fun H hs=> .f ca113 rfl (letterOf_n M H code hc)) (fun x hx=> ⟨S2.mk (by exact List.sublist_append_left _ _) (.inr (by exact List.sublist_append_left _ _)),?_⟩)),TaOp.mk rfl rfl rfl (.al (zz:=fun nb=> ⟨S2.mk (by apply List.Sublist.cons;exact List.Sublist.refl _) (.inr (by apply List.Sublist.cons;exact List.Sublist.refl _)),?_⟩)),trivial⟩
     · refine Ta.each [3,7] (by kernel_rfl) rfl ⟨TaOp.mk rfl rfl rfl (Or.callNew (σ:=Unit) (fun _=> .tuple ⟨[.agg ⟨[.int .i64 0,.int .i64 0,.int .i64 0,.slice none 0 0]⟩,.bool false]⟩) (fun _=> []) (fun _=> True) rfl rfl rfl rfl rfl (by decide) (fun _=> by simp) (fun H hs=> .f ca100 rfl (CallT.mono (wrong_c M H k hk code x.1 x.2.1 hc (edg_of fun y hy=> hs.at_ y (by simp[hy]))) (by rintro v H' ⟨h1,h2⟩;rw[hw] at h2;exact⟨h1,(),h2,trivial,by simp⟩))) (fun _ _=> ⟨S2.mk (by exact List.sublist_append_left _ _) (.inr (by exact List.sublist_append_left _ _)),?_⟩)),TaOp.mk rfl rfl rfl (.al (zz:=fun nb=> ⟨S2.mk (by apply List.Sublist.cons;exact List.sublist_append_left _ _) (.inr (by apply List.Sublist.cons;exact List.sublist_append_left _ _)),?_⟩)),trivial⟩
       · refine .q 4 rfl .mv ?_
         refine .q 5 rfl .et ?_
         refine Ta.tkw 6 (by kernel_rfl) rfl rfl rfl (by decide) rfl rfl (OpV.take .et) ?_
         refine Ta.each [7] (by kernel_rfl) rfl ⟨TaOp.mk rfl rfl rfl (.al (zz:=fun nb=> ⟨S2.mk (by apply List.Sublist.cons;exact List.sublist_append_left _ _) (.inr (by apply List.Sublist.cons;exact List.sublist_append_left _ _)),?_⟩)),trivial⟩
         refine Ta.each [8] (by kernel_rfl) rfl ⟨TaOp.mk rfl rfl rfl (.st 0 (zz:=⟨S2.mk (by apply List.Sublist.cons;exact List.sublist_append_left _ _) (.inl (by kernel_rfl)),?_⟩)),trivial⟩
         refine Ta.tkw 9 (by kernel_rfl) rfl rfl rfl (by decide) rfl rfl (OpV.take .sg) ?_
         refine Ta.done (by kernel_rfl) ?_
         exact fin _ _ ⟨rfl,trivial⟩
       · refine Ta.each [3] (by kernel_rfl) rfl ⟨TaOp.mk rfl rfl rfl (Or.callNew (σ:=Unit) (fun _=> .tuple ⟨[.agg ⟨[.int .i64 0,.int .i64 0,.int .i64 0,.slice none 0 0]⟩,.bool false]⟩) (fun _=> []) (fun _=> True) rfl rfl rfl rfl rfl (by decide) (fun _=> by simp) (fun H hs=> .f ca100 rfl (CallT.mono (wrong_c M H k hk code x.1 x.2.1 hc (edg_of fun y hy=> hs.at_ y (by simp[hy]))) (by rintro v H' ⟨h1,h2⟩;rw[hw] at h2;exact⟨h1,(),h2,trivial,by simp⟩))) (fun _ _=> ⟨S2.mk (by apply List.Sublist.cons;exact List.sublist_append_left _ _) (.inr (by apply List.Sublist.cons;exact List.sublist_append_left _ _)),?_⟩)),trivial⟩
         refine .q 4 rfl .mv ?_
         refine .q 5 rfl .et ?_
         refine Ta.tkw 6 (by kernel_rfl) rfl rfl rfl (by decide) rfl rfl (OpV.take .et) ?_
         refine Ta.each [8] (by kernel_rfl) rfl ⟨TaOp.mk rfl rfl rfl (.st 0 (zz:=⟨S2.mk (by apply List.Sublist.cons;exact List.sublist_append_left _ _) (.inl (by kernel_rfl)),?_⟩)),trivial⟩
         refine Ta.tkw 9 (by kernel_rfl) rfl rfl rfl (by decide) rfl rfl (OpV.take .sg) ?_
         refine Ta.done (by kernel_rfl) ?_
         exact fin _ _ ⟨rfl,trivial⟩
     · refine Ta.each [2] (by kernel_rfl) rfl ⟨TaOp.mk rfl rfl rfl (Or.callNew (letN code) (letB code) (fun _=> True) rfl rfl rfl rfl rfl (by decide) (letB_nodup code) (fun H hs=> .f ca113 rfl (letterOf_n M H code hc)) (fun x hx=> ⟨S2.mk (by apply List.Sublist.cons;exact List.sublist_append_left _ _) (.inr (by apply List.Sublist.cons;exact List.sublist_append_left _ _)),?_⟩)),trivial⟩
       refine Ta.each [3] (by kernel_rfl) rfl ⟨TaOp.mk rfl rfl rfl (Or.callNew (σ:=Unit) (fun _=> .tuple ⟨[.agg ⟨[.int .i64 0,.int .i64 0,.int .i64 0,.slice none 0 0]⟩,.bool false]⟩) (fun _=> []) (fun _=> True) rfl rfl rfl rfl rfl (by decide) (fun _=> by simp) (fun H hs=> .f ca100 rfl (CallT.mono (wrong_c M H k hk code x.1 x.2.1 hc (edg_of fun y hy=> hs.at_ y (by simp[hy]))) (by rintro v H' ⟨h1,h2⟩;rw[hw] at h2;exact⟨h1,(),h2,trivial,by simp⟩))) (fun _ _=> ⟨S2.mk (by apply List.Sublist.cons;exact List.sublist_append_left _ _) (.inr (by apply List.Sublist.cons;exact List.sublist_append_left _ _)),?_⟩)),trivial⟩
       refine .q 4 rfl .mv ?_
       refine .q 5 rfl .et ?_
       refine Ta.tkw 6 (by kernel_rfl) rfl rfl rfl (by decide) rfl rfl (OpV.take .et) ?_
       refine Ta.each [8] (by kernel_rfl) rfl ⟨TaOp.mk rfl rfl rfl (.st 0 (zz:=⟨S2.mk (by apply List.Sublist.cons;exact List.sublist_append_left _ _) (.inl (by kernel_rfl)),?_⟩)),trivial⟩
       refine Ta.tkw 9 (by kernel_rfl) rfl rfl rfl (by decide) rfl rfl (OpV.take .sg) ?_
       refine Ta.done (by kernel_rfl) ?_
       exact fin _ _ ⟨rfl,trivial⟩
 | some w=>
   obtain⟨s,r,n,mv⟩:=w
   refine .sr ?_
   refine .e (.bx (zz:=fun b2=> ?_))
   refine .g ?_
   refine .done (.seq ?_)
   refine Tc.via (fun R' L'=> AllIn [(6,.bool true)] R') ?_ (fun fin=> ?_)
   · intro R' L' hR
     refine Tc.dropB (R':= [(6,.bool true)]) (L':= []) ?_ hR (List.nil_sublist _)
     refine .sr ?_
     refine .m ?_
     refine .x .nt ?_
     refine .g ?_
     refine .done ?_
     refine .rt hK Tryz.func98 Tryz.results98 [_] ?_
     exact fun H' hs=> ⟨hs.base,by rw[hw];rfl⟩
   · refine Tc.dr [8] [] mixed rfl ?_
     refine .q 0 rfl (.ld 0) ?_
     refine .q 1 rfl .mv ?_
     refine Ta.each [2,7] (by kernel_rfl) rfl ⟨TaOp.mk rfl rfl rfl (Or.callNew (letN code) (letB code) (fun _=> True) rfl rfl rfl rfl rfl (by decide) (letB_nodup code) (fun H hs=> .f ca113 rfl (letterOf_n M H code hc)) (fun x hx=> ⟨S2.mk (by exact List.sublist_append_left _ _) (.inr (by exact List.sublist_append_left _ _)),?_⟩)),TaOp.mk rfl rfl rfl (.al (zz:=fun nb=> ⟨S2.mk (by apply List.Sublist.cons;exact List.Sublist.refl _) (.inr (by apply List.Sublist.cons;exact List.Sublist.refl _)),?_⟩)),trivial⟩
     · refine Ta.each [3,7] (by kernel_rfl) rfl ⟨TaOp.mk rfl rfl rfl (Or.callNew (fun g:Gl 3 1=> .tuple ⟨[pastV s r n g,.bool true]⟩) Gl.bl (fun _=> True) rfl rfl rfl rfl rfl (by decide) gl_nodup (fun H hs=> .f ca100 rfl (CallT.mono (wrong_c M H k hk code x.1 x.2.1 hc (edg_of fun y hy=> hs.at_ y (by simp[hy]))) (by rintro v H' ⟨h1,h2⟩;rw[hw] at h2;obtain⟨g,h3,_,h4⟩:=h2;exact⟨h1,g,h3,trivial,h4⟩))) (fun g _=> ⟨S2.mk (by exact List.sublist_append_left _ _) (.inr (by exact List.sublist_append_left _ _)),?_⟩)),TaOp.mk rfl rfl rfl (.al (zz:=fun nb=> ⟨S2.mk (by apply List.Sublist.cons;exact List.sublist_append_left _ _) (.inr (by apply List.Sublist.cons;exact List.sublist_append_left _ _)),?_⟩)),trivial⟩
       · refine .q 4 rfl .mv ?_
         refine .q 5 rfl .et ?_
         refine Ta.tkw 6 (by kernel_rfl) rfl rfl rfl (by decide) rfl rfl (OpV.take .et) ?_
         refine Ta.each [7] (by kernel_rfl) rfl ⟨TaOp.mk rfl rfl rfl (.al (zz:=fun nb=> ⟨S2.mk (by apply List.Sublist.cons;exact List.sublist_append_left _ _) (.inr (by apply List.Sublist.cons;exact List.sublist_append_left _ _)),?_⟩)),trivial⟩
         refine Ta.each [8] (by kernel_rfl) rfl ⟨TaOp.mk rfl rfl rfl (.st 0 (zz:=⟨S2.mk (by apply List.Sublist.cons;exact List.sublist_append_left _ _) (.inl (by kernel_rfl)),?_⟩)),trivial⟩
         refine Ta.tkw 9 (by kernel_rfl) rfl rfl rfl (by decide) rfl rfl (OpV.take .sg) ?_
         refine Ta.done (by kernel_rfl) ?_
         exact fin _ _ ⟨rfl,trivial⟩
       · refine Ta.each [3] (by kernel_rfl) rfl ⟨TaOp.mk rfl rfl rfl (Or.callNew (fun g:Gl 3 1=> .tuple ⟨[pastV s r n g,.bool true]⟩) Gl.bl (fun _=> True) rfl rfl rfl rfl rfl (by decide) gl_nodup (fun H hs=> .f ca100 rfl (CallT.mono (wrong_c M H k hk code x.1 x.2.1 hc (edg_of fun y hy=> hs.at_ y (by simp[hy]))) (by rintro v H' ⟨h1,h2⟩;rw[hw] at h2;obtain⟨g,h3,_,h4⟩:=h2;exact⟨h1,g,h3,trivial,h4⟩))) (fun g _=> ⟨S2.mk (by apply List.Sublist.cons;exact List.sublist_append_left _ _) (.inr (by apply List.Sublist.cons;exact List.sublist_append_left _ _)),?_⟩)),trivial⟩
         refine .q 4 rfl .mv ?_
         refine .q 5 rfl .et ?_
         refine Ta.tkw 6 (by kernel_rfl) rfl rfl rfl (by decide) rfl rfl (OpV.take .et) ?_
         refine Ta.each [8] (by kernel_rfl) rfl ⟨TaOp.mk rfl rfl rfl (.st 0 (zz:=⟨S2.mk (by apply List.Sublist.cons;exact List.sublist_append_left _ _) (.inl (by kernel_rfl)),?_⟩)),trivial⟩
         refine Ta.tkw 9 (by kernel_rfl) rfl rfl rfl (by decide) rfl rfl (OpV.take .sg) ?_
         refine Ta.done (by kernel_rfl) ?_
         exact fin _ _ ⟨rfl,trivial⟩
     · refine Ta.each [2] (by kernel_rfl) rfl ⟨TaOp.mk rfl rfl rfl (Or.callNew (letN code) (letB code) (fun _=> True) rfl rfl rfl rfl rfl (by decide) (letB_nodup code) (fun H hs=> .f ca113 rfl (letterOf_n M H code hc)) (fun x hx=> ⟨S2.mk (by apply List.Sublist.cons;exact List.sublist_append_left _ _) (.inr (by apply List.Sublist.cons;exact List.sublist_append_left _ _)),?_⟩)),trivial⟩
       refine Ta.each [3] (by kernel_rfl) rfl ⟨TaOp.mk rfl rfl rfl (Or.callNew (fun g:Gl 3 1=> .tuple ⟨[pastV s r n g,.bool true]⟩) Gl.bl (fun _=> True) rfl rfl rfl rfl rfl (by decide) gl_nodup (fun H hs=> .f ca100 rfl (CallT.mono (wrong_c M H k hk code x.1 x.2.1 hc (edg_of fun y hy=> hs.at_ y (by simp[hy]))) (by rintro v H' ⟨h1,h2⟩;rw[hw] at h2;obtain⟨g,h3,_,h4⟩:=h2;exact⟨h1,g,h3,trivial,h4⟩))) (fun g _=> ⟨S2.mk (by apply List.Sublist.cons;exact List.sublist_append_left _ _) (.inr (by apply List.Sublist.cons;exact List.sublist_append_left _ _)),?_⟩)),trivial⟩
       refine .q 4 rfl .mv ?_
       refine .q 5 rfl .et ?_
       refine Ta.tkw 6 (by kernel_rfl) rfl rfl rfl (by decide) rfl rfl (OpV.take .et) ?_
       refine Ta.each [8] (by kernel_rfl) rfl ⟨TaOp.mk rfl rfl rfl (.st 0 (zz:=⟨S2.mk (by apply List.Sublist.cons;exact List.sublist_append_left _ _) (.inl (by kernel_rfl)),?_⟩)),trivial⟩
       refine Ta.tkw 9 (by kernel_rfl) rfl rfl rfl (by decide) rfl rfl (OpV.take .sg) ?_
       refine Ta.done (by kernel_rfl) ?_
       exact fin _ _ ⟨rfl,trivial⟩
def Lk.weakAt(k:Lk)(code:Nat):Bool:=(k.wrong code).isSome
def Lk.weak(k:Lk):Option Nat:=firstTo k.weakAt 32
theorem weak_asks(k:Lk)(hk:k.Fine)(b1:Nat)(hb:H b1=some (true,.cells ⟨k.val.cells.toList⟩ 109 (0,0))):Asks M H (.func (.func 153) #[] #[.pointer (some ⟨b1,0,none⟩)]) 32 k.weakAt:=fun i hi H' hle=> by
 refine FnT.of (first:= []) (captured:= [_]) ca153 rfl ?_
 have hb':=hle _ _ hb
 refine CallT.enter (vs:= [.int .i64 (i:Nat),.pointer (some ⟨b1,0,none⟩)]) Tryz.func153 rfl Tryz.ntmps153 (Nat.le_of_ble_eq_true rfl) (SymSt.nil _) fun St c cs hK=> ?_
 refine .sr ?_
 refine .g ?_
 refine .done (.sr ?_)
 refine .x .l0 ?_
 refine .m ?_
 refine .c rfl rfl rfl rfl (fun H hs=> .f ca98 rfl (sure_c M H k hk i hi)) ?_
 refine .x .nt ?_
 refine .g ?_
 refine .done ?_
 refine .rt hK Tryz.func153 Tryz.results153 [_] ?_
 exact fun H2 hs=> ⟨hs.base,by unfold Lk.weakAt;cases k.wrong i <;> rfl⟩
theorem weak_c(k:Lk)(hk:k.Fine):CallT M 106 #[k.val] H (fun v H'=> H.le H'∧v=.tuple ⟨[.int .i64 (k.weak.getD 0:Nat),.bool k.weak.isSome]⟩):=by
 refine CallT.enter (vs:= [k.val]) Tryz.func106 rfl Tryz.ntmps106 (Nat.le_of_ble_eq_true rfl) (SymSt.nil _) fun St c cs hK=> ?_
 refine .sr ?_
 refine .e (.bx (zz:=fun b1=> ?_))
 refine .g ?_
 refine .g ?_
 refine .done (.sr ?_)
 refine .x .mf ?_
 refine .c rfl rfl rfl rfl (fun H hs=> .f ca104 rfl (first_c M H 32 _ k.weakAt (by decide) (weak_asks M H k hk b1 (hs.get (i:=0) rfl)))) ?_
 refine .x .et ?_
 refine .x .et ?_
 refine .g ?_
 refine .g ?_
 refine .done ?_
 refine .rt hK Tryz.func106 Tryz.results106 [_,_] ?_
 exact fun H' hs=> ⟨hs.base,rfl⟩
end
end Go.Proofs.YtpdaenfglbgfkaaGreatDoor
end
section
namespace Go.Proofs.YtpdaenfglbgfkaaGreatDoor
open Go.RL
set_option maxRecDepth 10000
set_option maxHeartbeats 4000000
theorem firstTo_lt {p:Nat→Bool}{x:Nat}:∀ {k:Nat},firstTo p k=some x→x<k
 | 0,h=> by cases h
 | k + 1,h=> by
   unfold firstTo at h
   cases h1:firstTo p k with
   | some y=> rw[h1] at h;cases h;have:=firstTo_lt h1;omega
   | none=>
     rw[h1] at h
     cases hp:p k with
     | true=> rw[hp] at h;cases h;omega
     | false=> rw[hp] at h;cases h
def Lk.sureOf(k:Lk)(c:Nat):Bool:=(k.wrong c).isNone
def Lk.mv(k:Lk)(n:Int):Lk:= { k with m0:= -n,m1:=n }
def Lk.at(k:Lk)(r:Int):Lk:= { k with r0:=r,r1:=r }
def Lk.unfit(k:Lk)(n:Nat):Bool:=(k.mv n).weak.isSome
def Lk.margin(k:Lk):Int:=match firstTo k.unfit 13 with
 | some n=> (n:Int)-1
 | none=> 12
def Lk.good(k:Lk)(n:Nat):Bool:=decide (0<n)&&(k.at n).weak.isNone
theorem Lk.fine_mv {k:Lk}(h:k.ok=true){n:Int}(h1:0≤n)(h2:n≤1000):(k.mv n).Fine:=by
 obtain⟨g1,g2,g3,g4⟩:=Lk.ok_in h
 exact⟨by show 0≤k.s0∧k.s1≤1000;omega,by show 0≤k.r0∧k.r1≤1000;omega,by show -1000≤k.l0∧k.l1≤1000;omega,by show -1000≤ -n∧n≤1000;omega,by show k.s0≤1000000∧k.r0≤1000000∧k.l0≤1000000∧ -n≤1000∧ -1000000≤k.s1∧ -1000000≤k.r1∧ -1000000≤k.l1∧ -1000000≤n;omega⟩
theorem Lk.fine_at {k:Lk}(h:k.ok=true){n:Int}(h1:0≤n)(h2:n≤1000):(k.at n).Fine:=by
 obtain⟨g1,g2,g3,g4⟩:=Lk.ok_in h
 exact⟨by show 0≤k.s0∧k.s1≤1000;omega,by show 0≤n∧n≤1000;omega,by show -1000≤k.l0∧k.l1≤1000;omega,by show -1000≤k.m0∧k.m1≤1000;omega,by show k.s0≤1000000∧n≤1000000∧k.l0≤1000000∧k.m0≤1000∧ -1000000≤k.s1∧ -1000000≤n∧ -1000000≤k.l1∧ -1000000≤k.m1;omega⟩
def ToldQ(l:List Value)(H:View)(v:Value)(H':View):Prop:=H.le H'∧∃g:Gl 3 1,v=.tuple ⟨[g.val,.int .i64 0]⟩∧g.l=l∧∀y∈g.bl,H' y.1=some y.2∧H y.1=none
section
variable(M:Md Tryz.prog)(H:View)
theorem sure_asks(k:Lk)(hk:k.Fine):Asks M H (.func (.func 98) #[k.val] #[]) 32 k.sureOf:=fun i hi H' _=>
 FnT.of (first:= [k.val]) (captured:= []) ca98 rfl (sure_c M H' k hk i hi)
theorem keep_n(many:Nat)(fv:Value)(p:Nat→Bool)(hm:many≤100000)(hp:Asks M H fv many p):CallT M 97 #[.int .i64 many,fv] H (fun v H'=> H.le H'∧∃g:Gl 3 1,v=g.val∧g.l=keepTo p many∧∀x∈g.bl,H' x.1=some x.2∧H x.1=none):=keep_c M H many fv p hm hp
theorem Sure_c(k:Lk)(hG:Glob H)(hk:k.ok=true):CallT M 26 #[k.val] H (ToldQ (keepTo k.sureOf 32) H):=by
 refine CallT.enter (vs:= [k.val]) Tryz.func26 rfl Tryz.ntmps26 (Nat.le_of_ble_eq_true rfl) (SymSt.nil _) fun St c cs hK=> ?_
 refine .sr ?_
 refine .e (.bx (zz:=fun b1=> ?_))
 refine .g ?_
 refine .g ?_
 refine .done (.seq (.sr ?_))
 refine .x (.ld 0) ?_
 refine .c rfl rfl rfl rfl (fun H hs=> .f ca86 rfl (checkLink_good M H k (glob_le hG hs.base) hk)) ?_
 refine .g ?_
 refine .done (.sr ?_)
 refine .m ?_
 refine .i ?_ (z:=neq_f (by omega))
 refine .done (.ff rfl (.skip (.sr ?_)))
 refine .x (.ld 0) ?_
 refine .x .bu ?_
 refine .x .mf ?_
 refine .e (Or.callNew Gl.val Gl.bl (fun g:Gl 3 1=> g.l=keepTo k.sureOf 32) rfl rfl rfl rfl rfl (by decide) gl_nodup (fun H hs=> .f ca97 rfl (keep_n M H 32 _ k.sureOf (by decide) (sure_asks M H k (Lk.fine hk)))) (fun g hg=> ?_))
 refine .g ?_
 refine .g ?_
 refine .done ?_
 refine .rt hK Tryz.func26 Tryz.results26 [_,_] ?_
 exact fun H' hs=> ⟨hs.base,g,rfl,hg,fun y hy=> ⟨hs.at_ y (by simp[hy]),hs.out y (by simp[hy])⟩⟩
theorem margin_asks(k:Lk)(hk:k.ok=true)(b1:Nat)(hb:H b1=some (true,.cells ⟨k.val.cells.toList⟩ 27 (0,0))):Asks M H (.func (.func 105) #[] #[.pointer (some ⟨b1,0,none⟩)]) 13 k.unfit:=fun i hi H' hle=> by
 refine FnT.of (first:= []) (captured:= [_]) ca105 rfl ?_
 have hb':=hle _ _ hb
 refine CallT.enter (vs:= [.int .i64 (i:Nat),.pointer (some ⟨b1,0,none⟩)]) Tryz.func105 rfl Tryz.ntmps105 (Nat.le_of_ble_eq_true rfl) (SymSt.nil _) fun St c cs hK=> ?_
 refine .sr ?_
 refine .g ?_
 refine .done (.sr ?_)
 refine .x .l0 ?_
 refine .x .bu ?_
 refine .e (.al (zz:=fun b4=> ?_))
 refine .e (.st 0 (zz:=?_))
 refine .done (.sr ?_)
 refine .m ?_
 refine .x .ng ?_
 refine .m ?_
 refine .x .bu ?_
 refine .x .fa ?_
 refine .x .fa ?_
 refine .x .fa ?_
 refine .e (.st 0 (zz:=?_))
 refine .done (.sr ?_)
 refine .x (.ld 0) ?_
 refine .c rfl rfl rfl rfl (fun H hs=> .f ca106 rfl (weak_c M H (k.mv (i:Int)) (Lk.fine_mv hk (by omega) (by omega)))) ?_
 refine .m ?_
 refine .x .et ?_
 refine .x .et ?_
 refine .g ?_
 refine .g ?_
 refine .done (.sr ?_)
 refine .m ?_
 refine .g ?_
 refine .done ?_
 refine .rt hK Tryz.func105 Tryz.results105 [_] ?_
 exact fun H2 hs=> ⟨hs.base,rfl⟩
theorem Margin_c(k:Lk)(hG:Glob H)(hk:k.ok=true):CallT M 32 #[k.val] H (fun v H'=> H.le H'∧v=.tuple ⟨[.int .i64 k.margin,.int .i64 0]⟩):=by
 refine CallT.enter (vs:= [k.val]) Tryz.func32 rfl Tryz.ntmps32 (Nat.le_of_ble_eq_true rfl) (SymSt.nil _) fun St c cs hK=> ?_
 refine .sr ?_
 refine .e (.bx (zz:=fun b1=> ?_))
 refine .g ?_
 refine .g ?_
 refine .done (.seq (.sr ?_))
 refine .x (.ld 0) ?_
 refine .c rfl rfl rfl rfl (fun H hs=> .f ca86 rfl (checkLink_good M H k (glob_le hG hs.base) hk)) ?_
 refine .g ?_
 refine .done (.sr ?_)
 refine .m ?_
 refine .i ?_ (z:=neq_f (by omega))
 refine .done (.ff rfl (.skip (.seq ?_)))
 cases hf:firstTo k.unfit 13 with
 | none=>
   have hm:k.margin=12:=by unfold Lk.margin;rw[hf]
   refine .r ?_
   refine .x .mf ?_
   refine .c rfl rfl rfl rfl (fun H hs=> .f ca104 rfl (CallT.is (.tuple ⟨[.int .i64 0,.bool false]⟩) (by rewrite [hf];rfl) (first_c M H 13 _ k.unfit (by decide) (margin_asks M H k hk b1 (hs.get (i:=0) rfl))))) ?_
   refine .m ?_
   refine .x .et ?_
   refine .x .et ?_
   refine .g ?_
   refine .g ?_
   refine .done (.seq (.sr ?_))
   refine .m ?_
   refine .x .nt ?_
   refine .done (.tt rfl (.sr ?_))
   refine .g ?_
   refine .g ?_
   refine .done ?_
   refine .rt hK Tryz.func32 Tryz.results32 [_,_] ?_
   exact fun H' hs=> ⟨hs.base,by rw[hm];rfl⟩
 | some n=>
   have hm:k.margin=(n:Int)-1:=by unfold Lk.margin;rw[hf]
   have hn:=firstTo_lt hf
   refine .r ?_
   refine .x .mf ?_
   refine .c rfl rfl rfl rfl (fun H hs=> .f ca104 rfl (CallT.is (.tuple ⟨[.int .i64 (n:Nat),.bool true]⟩) (by rewrite [hf];rfl) (first_c M H 13 _ k.unfit (by decide) (margin_asks M H k hk b1 (hs.get (i:=0) rfl))))) ?_
   refine .m ?_
   refine .x .et ?_
   refine .x .et ?_
   refine .g ?_
   refine .g ?_
   refine .done (.seq (.sr ?_))
   refine .m ?_
   refine .x .nt ?_
   refine .done (.ff rfl (.skip (.sr ?_)))
   refine .m ?_
   refine .i ?_ (z:=sub_in (by omega) (by omega))
   refine .g ?_
   refine .g ?_
   refine .done ?_
   refine .rt hK Tryz.func32 Tryz.results32 [_,_] ?_
   exact fun H' hs=> ⟨hs.base,by rw[hm];rfl⟩
theorem paces_asks(k:Lk)(hk:k.ok=true)(b1:Nat)(hb:H b1=some (true,.cells ⟨k.val.cells.toList⟩ 27 (0,0))):Asks M H (.func (.func 108) #[] #[.pointer (some ⟨b1,0,none⟩)]) 41 k.good:=fun i hi H' hle=> by
 refine FnT.of (first:= []) (captured:= [_]) ca108 rfl ?_
 have hb':=hle _ _ hb
 refine CallT.enter (vs:= [.int .i64 (i:Nat),.pointer (some ⟨b1,0,none⟩)]) Tryz.func108 rfl Tryz.ntmps108 (Nat.le_of_ble_eq_true rfl) (SymSt.nil _) fun St c cs hK=> ?_
 refine .sr ?_
 refine .g ?_
 refine .done (.sr ?_)
 refine .x .l0 ?_
 refine .x .bu ?_
 refine .e (.al (zz:=fun b4=> ?_))
 refine .e (.st 0 (zz:=?_))
 refine .done (.sr ?_)
 refine .m ?_
 refine .m ?_
 refine .x .bu ?_
 refine .x .fa ?_
 refine .x .fa ?_
 refine .e (.st 0 (zz:=?_))
 refine .done (.seq ?_)
 cases hw:(k.at (i:Int)).weak with
 | none=>
   refine .r ?_
   refine .x (.ld 0) ?_
   refine .c rfl rfl rfl rfl (fun H hs=> .f ca106 rfl (CallT.is (.tuple ⟨[.int .i64 0,.bool false]⟩) (by rewrite [hw];rfl) (weak_c M H (k.at (i:Int)) (Lk.fine_at hk (by omega) (by omega))))) ?_
   refine .m ?_
   refine .x .et ?_
   refine .x .et ?_
   refine .g ?_
   refine .g ?_
   refine .done (.seq ?_)
   by_cases h0:0<i
   · have hg:k.good i=true:=by unfold Lk.good;rw[hw];simp[h0]
     refine .r ?_
     refine .m ?_
     refine .i ?_ (z:=gtr_t (by omega))
     refine .m ?_
     refine .m ?_
     refine .x .nt ?_
     refine .x .pk ?_
     refine .g ?_
     refine .done ?_
     refine .rt hK Tryz.func108 Tryz.results108 [_] ?_
     exact fun H2 hs=> ⟨hs.base,by rw[hg];rfl⟩
   · have hg:k.good i=false:=by unfold Lk.good;simp[h0]
     refine .r ?_
     refine .m ?_
     refine .i ?_ (z:=gtr_f (by omega))
     refine .m ?_
     refine .sk ?_
     refine .sk ?_
     refine .x .pk ?_
     refine .g ?_
     refine .done ?_
     refine .rt hK Tryz.func108 Tryz.results108 [_] ?_
     exact fun H2 hs=> ⟨hs.base,by rw[hg];rfl⟩
 | some c=>
   have hg:k.good i=false:=by unfold Lk.good;rw[hw];simp
   refine .r ?_
   refine .x (.ld 0) ?_
   refine .c rfl rfl rfl rfl (fun H hs=> .f ca106 rfl (CallT.is (.tuple ⟨[.int .i64 (c:Nat),.bool true]⟩) (by rewrite [hw];rfl) (weak_c M H (k.at (i:Int)) (Lk.fine_at hk (by omega) (by omega))))) ?_
   refine .m ?_
   refine .x .et ?_
   refine .x .et ?_
   refine .g ?_
   refine .g ?_
   refine .done (.seq ?_)
   by_cases h0:0<i
   · refine .r ?_
     refine .m ?_
     refine .i ?_ (z:=gtr_t (by omega))
     refine .m ?_
     refine .m ?_
     refine .x .nt ?_
     refine .x .pk ?_
     refine .g ?_
     refine .done ?_
     refine .rt hK Tryz.func108 Tryz.results108 [_] ?_
     exact fun H2 hs=> ⟨hs.base,by rw[hg];rfl⟩
   · refine .r ?_
     refine .m ?_
     refine .i ?_ (z:=gtr_f (by omega))
     refine .m ?_
     refine .sk ?_
     refine .sk ?_
     refine .x .pk ?_
     refine .g ?_
     refine .done ?_
     refine .rt hK Tryz.func108 Tryz.results108 [_] ?_
     exact fun H2 hs=> ⟨hs.base,by rw[hg];rfl⟩
theorem Paces_c(k:Lk)(hG:Glob H)(hk:k.ok=true):CallT M 34 #[k.val] H (ToldQ (keepTo k.good 41) H):=by
 refine CallT.enter (vs:= [k.val]) Tryz.func34 rfl Tryz.ntmps34 (Nat.le_of_ble_eq_true rfl) (SymSt.nil _) fun St c cs hK=> ?_
 refine .sr ?_
 refine .e (.bx (zz:=fun b1=> ?_))
 refine .g ?_
 refine .g ?_
 refine .done (.seq (.sr ?_))
 refine .x (.ld 0) ?_
 refine .c rfl rfl rfl rfl (fun H hs=> .f ca86 rfl (checkLink_good M H k (glob_le hG hs.base) hk)) ?_
 refine .g ?_
 refine .done (.sr ?_)
 refine .m ?_
 refine .i ?_ (z:=neq_f (by omega))
 refine .done (.ff rfl (.skip (.sr ?_)))
 refine .x .mf ?_
 refine .e (Or.callNew Gl.val Gl.bl (fun g:Gl 3 1=> g.l=keepTo k.good 41) rfl rfl rfl rfl rfl (by decide) gl_nodup (fun H hs=> .f ca97 rfl (keep_n M H 41 _ k.good (by decide) (paces_asks M H k hk b1 (hs.get (i:=0) rfl)))) (fun g hg=> ?_))
 refine .g ?_
 refine .g ?_
 refine .done ?_
 refine .rt hK Tryz.func34 Tryz.results34 [_,_] ?_
 exact fun H' hs=> ⟨hs.base,g,rfl,hg,fun y hy=> ⟨hs.at_ y (by simp[hy]),hs.out y (by simp[hy])⟩⟩
end
end Go.Proofs.YtpdaenfglbgfkaaGreatDoor
end
