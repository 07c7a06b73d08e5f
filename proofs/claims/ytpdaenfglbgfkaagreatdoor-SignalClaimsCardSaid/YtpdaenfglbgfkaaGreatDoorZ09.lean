/-
  Texts of the proofs over baudot/signal: J7 J4 J8 J9 JA JB JC JD JE JF JG JH JI K1 M6 M7 M8.
-/
import Derived.Test.YtpdaenfglbgfkaaGreatDoorZ08
section
namespace Go.Proofs.YtpdaenfglbgfkaaGreatDoor
open Go.RL
set_option maxRecDepth 10000
set_option maxHeartbeats 8000000
theorem heap_less {f hi s:Nat}{u:List Int}(hs:1≤s)(h:Heap f s hi u):HeapBut f (s-1) hi (s-1) u:=
 ⟨fun k c h1 h2 h3 h4=> h k c (by omega) h3 h4,fun k c h1 h2 h3 h4=> by omega⟩
structure HeapTo(f hi s:Nat)(u:List Int):Prop where
 heap:Heap f 0 s u
 srt:Srt (f+s) (f+hi) u
 low:∀p q,p<s→s≤q→q<hi→at0 u (f+p)≤at0 u (f+q)
theorem heap_but {f hi s:Nat}{u:List Int}(hs:1≤s)(hsh:s≤hi)(hl:f+hi≤u.length)(h:HeapTo f hi s u):HeapBut f 0 (s-1) 0 (swapL u f (f+(s-1))):=by
 have hw:=fun q=> swapL_at (l:=u) (p:=f) (q:=f+(s-1)) (by omega) (by omega) q
 refine⟨fun k c h1 h2 h3 h4=> ?_,fun k c h1 h2 h3 h4=> by omega⟩
 rw[hw,hw,if_neg (by omega),if_neg (by omega),if_neg (by omega),if_neg (by omega)]
 exact h.heap k c h1 h3 (by omega)
theorem heap_next {f hi s:Nat}{u m:List Int}(hs:1≤s)(hsh:s≤hi)(hl:f+hi≤u.length)(h:HeapTo f hi s u)(ht:Turned f (f+(s-1)) (swapL u f (f+(s-1))) m)(hm:Heap f 0 (s-1) m):HeapTo f hi (s-1) m:=by
 have hw:=fun q=> swapL_at (l:=u) (p:=f) (q:=f+(s-1)) (by omega) (by omega) q
 have htop:=h.heap.top
 have hlast:at0 m (f+(s-1))=at0 u f:=by
   rw[ht.out _ (.inr (Nat.le_refl _)),hw,if_pos rfl]
 have hback:∀q,s≤q→at0 m (f+q)=at0 u (f+q):=fun q hq=> by
   rw[ht.out _ (.inr (by omega)),hw,if_neg (by omega),if_neg (by omega)]
 have hall:∀X:Int,(∀p,p<s→at0 u (f+p)≤X)→∀p,p<s-1→at0 m (f+p)≤X:=fun X hX p hp=>
   ht.all (by rw[swapL_len];omega) (P:=fun x=> x≤X) (fun p h1 h2=> by
     rw[hw,if_neg (by omega)]
     by_cases e:p=f
     · rw[if_pos e]
       exact hX (s-1) (by omega)
     · rw[if_neg e]
       have:=hX (p-f) (by omega)
       rwa [show f+(p-f)=p by omega] at this) (f+p) (by omega) (by omega)
 refine⟨hm,fun p q h1 h2 h3=> ?_,fun p q h1 h2 h3=> ?_⟩
 · by_cases e:p=f+(s-1)
   · rw[e,hlast]
     have h4:=hback (q-f) (by omega)
     rw[show f+(q-f)=q by omega] at h4
     rw[h4]
     have:=h.low 0 (q-f) (by omega) (by omega) (by omega)
     rwa [show f+(q-f)=q by omega,Nat.add_zero] at this
   · have h4:=hback (q-f) (by omega)
     have h5:=hback (p-f) (by omega)
     rw[show f+(q-f)=q by omega] at h4
     rw[show f+(p-f)=p by omega] at h5
     rw[h4,h5]
     exact h.srt p q (by omega) h2 h3
 · by_cases e:q=s-1
   · subst e
     rw[hlast]
     exact hall _ (fun p hp=> htop p hp) p h1
   · rw[hback q (by omega)]
     exact hall _ (fun p hp=> h.low p q hp (by omega) h3) p h1
section
variable(M:Md Tryz.prog)(H:View)
theorem heapSort_c(sb:Nat)(l:List Int)(jj:List Value)(n cap a b:Nat)(hn:n=l.length)(hb:b≤n)(h1000:n≤1000)(hab:a<b)(hS:H sb=some (true,.cells ⟨intsL l++jj⟩ 3 (0,0))):
   CallT M 177 #[.slice (some ⟨sb,0,none⟩) n cap,.int .i64 (a:Nat),.int .i64 (b:Nat)] H (SortQ H sb jj (fun v m=> v=.tuple ⟨[]⟩∧Turned a b l m∧Srt a b m)):=by
 obtain⟨hi,hhi⟩:∃hi,hi=b-a:=⟨_,rfl⟩
 have e0:((b:Nat):Int)-((a:Nat):Int)=((hi:Nat):Int):=by omega
 have eb:b=a+hi:=by omega
 obtain⟨s0,hs0⟩:∃s0,s0=(hi-1)/2+1:=⟨_,rfl⟩
 have hq:intBin .quo .i64 (((hi:Nat):Int)-1) 2=some (.int .i64 (((s0:Nat):Int)-1)):=by
   rw[quo_in (by omega) (by omega) (by omega)]
   congr 2
   omega
 refine CallT.enter (vs:= [.slice (some ⟨sb,0,none⟩) n cap,.int .i64 (a:Nat),.int .i64 (b:Nat)]) Tryz.func177 rfl Tryz.ntmps177 (Nat.le_of_ble_eq_true rfl) (SymSt.pull hS) fun St c cs hK=> ?_
 refine .sr ?_
 refine .m ?_
 refine .g ?_
 refine .done (.sr ?_)
 refine .g ?_
 refine .done (.sr ?_)
 refine .m ?_
 refine .m ?_
 refine .i ?_ (z:=sub_in (by omega) (by omega))
 refine .g ?_
 refine .done ?_
 rw[e0]
 refine .seq (.sr ?_)
 refine .m ?_
 refine .i ?_ (z:=sub_in (by omega) (by omega))
 refine .i ?_ (z:=by assumption)
 refine .g ?_
 refine .done (.block ?_)
 refine Tc.db (Tc.loopInv (σ:= { s:Nat×List Int//s.1≤hi∧Turned a b l s.2∧Heap a s.1 hi s.2 }) (fun s=> ([(0,.slice (some ⟨sb,0,none⟩) n cap),(6,.int .i64 (a:Nat)),(7,.int .i64 0),(8,.int .i64 (hi:Nat)),(9,.int .i64 ((s.1.1:Nat)-1))],[(sb,true,.cells ⟨intsL s.1.2++jj⟩ 3 (0,0))])) (fun s=> s.1.1) ?_
   ⟨(s0,l),by simp only;omega,Turned.refl ..,fun k c h1 h2 h3=> by simp only at h1;omega⟩)
 rintro⟨⟨s,u⟩,g1,g2,g3⟩ ih
 simp only at g1 g2 g3
 show Tc M St _ _ _ _ [(0,.slice (some ⟨sb,0,none⟩) n cap),(6,.int .i64 (a:Nat)),(7,.int .i64 0),(8,.int .i64 (hi:Nat)),(9,.int .i64 ((s:Nat)-1))] [(sb,true,.cells ⟨intsL u++jj⟩ 3 (0,0))] _ _
 have hul:=g2.len
 by_cases c1:1≤s
 · have e1:((s:Nat):Int)-1=((s-1:Nat):Int):=by omega
   rw[e1]
   refine .seq (.sr ?_)
   refine .m ?_
   refine .i ?_ (z:=geq_t (by omega))
   refine .done (.tt rfl (.skip (.seq (.block (.r ?_)))))
   refine .m ?_
   refine .m ?_
   refine .m ?_
   refine .m ?_
   refine .e (Or.sorts (l:=u) 0 (fun v m=> v=.tuple ⟨[]⟩∧Turned a (a+hi) u m∧Heap a (s-1) hi m) rfl rfl rfl rfl rfl (by decide) rfl (fun H hs=> .f ca211 rfl (siftDown_c M H sb u jj n cap (s-1) hi a (by omega) (by omega) h1000 (by omega) (heap_less c1 g3) (hs.get (i:=0) rfl))) (fun v m ⟨hv,ht,hh⟩=> ?_))
   refine .done (.inBlock (.r ?_))
   refine .m ?_
   refine .i ?_ (z:=sub_in (by omega) (by omega))
   refine .g ?_
   refine .done ?_
   exact Tc.db (ih ⟨(s-1,m),by simp only;omega,g2.trans (ht.wide (Nat.le_refl _) (by omega)),hh⟩ (by simp only;omega))
 · have es:s=0:=by omega
   subst es
   refine .seq (.sr ?_)
   refine .m ?_
   refine .i ?_ (z:=geq_f (by omega))
   refine .done (.ff rfl (.exit rfl (.sr ?_)))
   refine .m ?_
   refine .i ?_ (z:=sub_in (by omega) (by omega))
   refine .g ?_
   refine .done (.block ?_)
   refine Tc.db (Tc.loopInv (σ:= { s:Nat×List Int//s.1≤hi∧Turned a b l s.2∧HeapTo a hi s.1 s.2 }) (fun s=> ([(0,.slice (some ⟨sb,0,none⟩) n cap),(6,.int .i64 (a:Nat)),(7,.int .i64 0),(10,.int .i64 ((s.1.1:Nat)-1))],[(sb,true,.cells ⟨intsL s.1.2++jj⟩ 3 (0,0))])) (fun s=> s.1.1) ?_
     ⟨(hi,u),Nat.le_refl _,g2,⟨g3,fun p q h1 h2 h3=> by omega,fun p q h1 h2 h3=> by omega⟩⟩)
   rintro⟨⟨s,w⟩,f1,f2,f3⟩ ih2
   simp only at f1 f2 f3
   show Tc M St _ _ _ _ [(0,.slice (some ⟨sb,0,none⟩) n cap),(6,.int .i64 (a:Nat)),(7,.int .i64 0),(10,.int .i64 ((s:Nat)-1))] [(sb,true,.cells ⟨intsL w++jj⟩ 3 (0,0))] _ _
   have hwl:=f2.len
   by_cases c2:1≤s
   · have e1:((s:Nat):Int)-1=((s-1:Nat):Int):=by omega
     rw[e1]
     have k1:=cells_ld (m:=w) (j:=jj) (k:=(a:Nat)) (p:=a) rfl (by omega)
     have k2:=cells_ld (m:=w) (j:=jj) (k:=(a:Nat)+((s-1:Nat):Int)) (p:=a+(s-1)) (by omega) (by omega)
     have s1:=cells_st (m:=w) (j:=jj) (k:=(a:Nat)) (x:=at0 w (a+(s-1))) (p:=a) rfl (by omega)
     have s2:=cells_st (m:=w.set a (at0 w (a+(s-1)))) (j:=jj) (k:=(a:Nat)+((s-1:Nat):Int)) (x:=at0 w a) (p:=a+(s-1)) (by omega) (by rw[List.length_set];omega)
     have l1:=cells_le (m:=w) (j:=jj) (k:=(a:Nat)) (p:=a) rfl (by omega)
     have l2:=cells_le (m:=w.set a (at0 w (a+(s-1)))) (j:=jj) (k:=(a:Nat)+((s-1:Nat):Int)) (p:=a+(s-1)) (by omega) (by rw[List.length_set];omega)
     have hsw:=Turned.swap (a:=a) (b:=b) (l:=w) (p:=a) (q:=a+(s-1)) (by omega) (by omega) (by omega) (by omega)
     refine .seq (.sr ?_)
     refine .m ?_
     refine .i ?_ (z:=geq_t (by omega))
     refine .done (.tt rfl (.skip (.seq (.block (.seq ?_)))))
     refine Tc.dr [17,19] [0] mixed rfl ?_
     refine .q 0 rfl .mv ?_
     refine .q 1 rfl .mv ?_
     refine Ta.tkw 2 (by kernel_rfl) rfl rfl rfl (by decide) rfl rfl (OpV.take .mv) ?_
     refine Ta.tkw 3 (by kernel_rfl) rfl rfl rfl (by decide) rfl rfl (OpV.take .mv) ?_
     refine Ta.tkw 4 (by kernel_rfl) rfl rfl rfl (by decide) rfl rfl (OpV.take .mv) ?_
     refine Ta.tkw 5 (by kernel_rfl) rfl rfl rfl (by decide) rfl rfl (OpV.take (.it (zz:=add_in (by omega) (by omega)))) ?_
     refine .q 6 rfl .mv ?_
     refine .q 7 rfl .mv ?_
     refine .q 8 rfl .mv ?_
     refine .q 9 rfl (.it (zz:=add_in (by omega) (by omega))) ?_
     refine .q 10 rfl .ia ?_
     refine .q 11 rfl (.ld 0) ?_
     refine Ta.tkw 12 (by kernel_rfl) rfl rfl rfl (by decide) rfl rfl (OpV.take .mv) ?_
     refine Ta.tkw 13 (by kernel_rfl) rfl rfl rfl (by decide) rfl rfl (OpV.take .mv) ?_
     refine Ta.tkw 14 (by kernel_rfl) rfl rfl rfl (by decide) rfl rfl (OpV.take .ia) ?_
     refine .q 15 rfl (.ld 0) ?_
     refine .q 16 rfl .ia ?_
     refine Ta.each [17] (by kernel_rfl) rfl ⟨TaOp.mk rfl rfl rfl (.st 0 (zz:=⟨S2.mk (by exact List.nil_sublist _) (.inl (by kernel_rfl)),?_⟩)),trivial⟩
     refine Ta.tkw 18 (by kernel_rfl) rfl rfl rfl (by decide) rfl rfl (OpV.take .ia) ?_
     refine Ta.each [19] (by kernel_rfl) rfl ⟨TaOp.mk rfl rfl rfl (.st 0 (zz:=⟨S2.mk (by exact List.nil_sublist _) (.inl (by kernel_rfl)),?_⟩)),trivial⟩
     refine Ta.done (by kernel_rfl) ?_
     refine .r ?_
     refine .m ?_
     refine .m ?_
     refine .m ?_
     refine .m ?_
     refine .e (Or.sorts (l:=swapL w a (a+(s-1))) 0 (fun v m=> v=.tuple ⟨[]⟩∧Turned a (a+(s-1)) (swapL w a (a+(s-1))) m∧Heap a 0 (s-1) m) rfl rfl rfl rfl rfl (by decide) rfl (fun H hs=> .f ca211 rfl (siftDown_c M H sb (swapL w a (a+(s-1))) jj n cap 0 (s-1) a (by rw[swapL_len];omega) (by omega) h1000 (by omega) (heap_but c2 f1 (by omega) f3) (hs.get (i:=0) rfl))) (fun v m ⟨hv,ht,hh⟩=> ?_))
     refine .done (.inBlock (.r ?_))
     refine .m ?_
     refine .i ?_ (z:=sub_in (by omega) (by omega))
     refine .g ?_
     refine .done ?_
     exact Tc.db (ih2 ⟨(s-1,m),by simp only;omega,f2.trans (hsw.trans (ht.wide (Nat.le_refl _) (by omega))),heap_next c2 f1 (by omega) f3 ht hh⟩ (by simp only;omega))
   · have es:s=0:=by omega
     subst es
     refine .seq (.sr ?_)
     refine .m ?_
     refine .i ?_ (z:=geq_f (by omega))
     refine .done (.ff rfl (.exit rfl ?_))
     refine Tc.overN (E:=en) hK Tryz.func177 Tryz.results177 (vs:= []) (by exact trivial) ?_
     exact fun H' hs=> SortQ.of hs (i:=0) rfl ⟨rfl,f2,eb▸f3.srt⟩
end
end Go.Proofs.YtpdaenfglbgfkaaGreatDoor
end
section
namespace Go.Proofs.YtpdaenfglbgfkaaGreatDoor
open Go.RL
set_option maxRecDepth 10000
set_option maxHeartbeats 8000000
section
variable(M:Md Tryz.prog)(H:View)
theorem reverse_c(sb:Nat)(l:List Int)(jj:List Value)(n cap a b:Nat)(hn:n=l.length)(hb:b≤n)(h1000:n≤1000)(ha:a<b)(hS:H sb=some (true,.cells ⟨intsL l++jj⟩ 3 (0,0))):
   CallT M 180 #[.slice (some ⟨sb,0,none⟩) n cap,.int .i64 (a:Nat),.int .i64 (b:Nat)] H (SortQ H sb jj (fun v m=> v=.tuple ⟨[]⟩∧Turned a b l m)):=by
 refine CallT.enter (vs:= [.slice (some ⟨sb,0,none⟩) n cap,.int .i64 (a:Nat),.int .i64 (b:Nat)]) Tryz.func180 rfl Tryz.ntmps180 (Nat.le_of_ble_eq_true rfl) (SymSt.pull hS) fun St c cs hK=> ?_
 have hb1:((b:Nat):Int)-1=((b-1:Nat):Int):=by omega
 refine .sr ?_
 refine .m ?_
 refine .g ?_
 refine .done (.sr ?_)
 refine .m ?_
 refine .i ?_ (z:=sub_in (by omega) (by omega))
 refine .g ?_
 refine .done ?_
 rw[hb1]
 refine .block ?_
 refine Tc.db (Tc.loopInv (σ:= { s:Nat×Nat×List Int//a≤s.1∧s.1≤b∧a≤s.2.1∧s.2.1<b∧Turned a b l s.2.2 }) (fun s=> ([(0,.slice (some ⟨sb,0,none⟩) n cap),(6,.int .i64 (s.1.1:Nat)),(7,.int .i64 (s.1.2.1:Nat))],[(sb,true,.cells ⟨intsL s.1.2.2++jj⟩ 3 (0,0))])) (fun s=> s.1.2.1) ?_
   ⟨(a,b-1,l),by simp,by simp only;omega,by simp only;omega,by simp only;omega,Turned.refl ..⟩)
 rintro⟨⟨i,j,u⟩,g1,g2,g3,g4,g5⟩ ih
 simp only at g1 g2 g3 g4 g5
 show Tc M St _ _ _ _ [(0,.slice (some ⟨sb,0,none⟩) n cap),(6,.int .i64 (i:Nat)),(7,.int .i64 (j:Nat))] [(sb,true,.cells ⟨intsL u++jj⟩ 3 (0,0))] _ _
 have hul:=g5.len
 by_cases c1:i<j
 · have e1:((j:Nat):Int)-1=((j-1:Nat):Int):=by omega
   have k1:=cells_ld (m:=u) (j:=jj) (k:=(i:Nat)) (p:=i) rfl (by omega)
   have k2:=cells_ld (m:=u) (j:=jj) (k:=(j:Nat)) (p:=j) rfl (by omega)
   have s1:=cells_st (m:=u) (j:=jj) (k:=(i:Nat)) (x:=at0 u j) (p:=i) rfl (by omega)
   have s2:=cells_st (m:=u.set i (at0 u j)) (j:=jj) (k:=(j:Nat)) (x:=at0 u i) (p:=j) rfl (by rw[List.length_set];omega)
   have l1:=cells_le (m:=u) (j:=jj) (k:=(i:Nat)) (p:=i) rfl (by omega)
   have l2:=cells_le (m:=u.set i (at0 u j)) (j:=jj) (k:=(j:Nat)) (p:=j) rfl (by rw[List.length_set];omega)
   refine .seq (.sr ?_)
   refine .m ?_
   refine .m ?_
   refine .i ?_ (z:=lss_t (by omega))
   refine .done (.tt rfl (.skip (.block (.seq ?_))))
   refine Tc.dr [13,15] [0] mixed rfl ?_
   refine .q 0 rfl .mv ?_
   refine .q 1 rfl .mv ?_
   refine Ta.tkw 2 (by kernel_rfl) rfl rfl rfl (by decide) rfl rfl (OpV.take .mv) ?_
   refine Ta.tkw 3 (by kernel_rfl) rfl rfl rfl (by decide) rfl rfl (OpV.take .mv) ?_
   refine .q 4 rfl .mv ?_
   refine .q 5 rfl .mv ?_
   refine .q 6 rfl .ia ?_
   refine .q 7 rfl (.ld 0) ?_
   refine Ta.tkw 8 (by kernel_rfl) rfl rfl rfl (by decide) rfl rfl (OpV.take .mv) ?_
   refine Ta.tkw 9 (by kernel_rfl) rfl rfl rfl (by decide) rfl rfl (OpV.take .mv) ?_
   refine Ta.tkw 10 (by kernel_rfl) rfl rfl rfl (by decide) rfl rfl (OpV.take .ia) ?_
   refine .q 11 rfl (.ld 0) ?_
   refine .q 12 rfl .ia ?_
   refine Ta.each [13] (by kernel_rfl) rfl ⟨TaOp.mk rfl rfl rfl (.st 0 (zz:=⟨S2.mk (by exact List.nil_sublist _) (.inl (by kernel_rfl)),?_⟩)),trivial⟩
   refine Ta.tkw 14 (by kernel_rfl) rfl rfl rfl (by decide) rfl rfl (OpV.take .ia) ?_
   refine Ta.each [15] (by kernel_rfl) rfl ⟨TaOp.mk rfl rfl rfl (.st 0 (zz:=⟨S2.mk (by exact List.nil_sublist _) (.inl (by kernel_rfl)),?_⟩)),trivial⟩
   refine Ta.done (by kernel_rfl) ?_
   refine .sr ?_
   refine .m ?_
   refine .i ?_ (z:=add_in (by omega) (by omega))
   refine .g ?_
   refine .done (.r ?_)
   refine .m ?_
   refine .i ?_ (z:=sub_in (by omega) (by omega))
   refine .g ?_
   refine .done ?_
   rw[e1]
   refine .inBlock ?_
   exact Tc.db (ih ⟨(i+1,j-1,swapL u i j),by simp only;omega,by simp only;omega,by simp only;omega,by simp only;omega,g5.trans (Turned.swap (by omega) (by omega) (by omega) (by omega))⟩ (by simp only;omega))
 · refine .seq (.sr ?_)
   refine .m ?_
   refine .m ?_
   refine .i ?_ (z:=lss_f (by omega))
   refine .done (.ff rfl (.exit rfl ?_))
   refine Tc.overN (E:=en) hK Tryz.func180 Tryz.results180 (vs:= []) (by exact trivial) ?_
   exact fun H' hs=> SortQ.of hs (i:=0) rfl ⟨rfl,g5⟩
end
end Go.Proofs.YtpdaenfglbgfkaaGreatDoor
end
section
namespace Go.Proofs.YtpdaenfglbgfkaaGreatDoor
open Go.RL
set_option maxRecDepth 10000
set_option maxHeartbeats 8000000
theorem Or.sortsF {M:Md Tryz.prog}{n:Nat}{H₀:View}{R:Rg}{L:Bl}{o:Oper}{K:Rg→Bl→Prop}{cl:Go.Call}{x:Operand}{fv:Value}{az:List Value}{d:Nat}{σ:Type}(i:Nat){sb:Nat}{l:List Int}{j:List Value}(val:σ→Value)(mm:σ→List Int)(p:σ→Prop)
   (hop:o.op=.call cl) (hcl:cl.callee=.value x) (hx:evR R x=some fv) (has:evRs R cl.args.toList=some az) (hd:o.dst=some d) (hn:d<n) (hi:L[i]? =some (sb,true,.cells ⟨intsL l++j⟩ 3 (0,0)))
   (hc:∀H,SymSt H₀ L H→FnT M fv az H (SortQ H sb j fun v m=> ∃s,v=val s∧m=mm s∧p s)) (hk:∀s,p s→K ((d,val s)::R) (L.set i (sb,true,.cells ⟨intsL (mm s)++j⟩ 3 (0,0)))):Or M n H₀ R L o K:=
 Or.sorts i (fun v m=> ∃s,v=val s∧m=mm s∧p s) hop hcl hx has hd hn hi hc fun v m h=> by
   obtain⟨s,rfl,rfl,h3⟩:=h
   exact hk s h3
def twoV(s:Nat×Nat×Int):Value:=.tuple ⟨[.int .i64 (s.1:Nat),.int .i64 (s.2.1:Nat)]⟩
def twoP(p q:Nat)(z:Int)(s:Nat×Nat×Int):Prop:=(s.1=p∧s.2.1=q∨s.1=q∧s.2.1=p)∧z≤s.2.2∧s.2.2≤z+1
section
variable(M:Md Tryz.prog)(H:View)
theorem order2_c(sb cb:Nat)(f:Bool)(l:List Int)(jj:List Value)(n cap p q:Nat)(z:Int)(hn:n=l.length)(hp:p<n)(hq:q<n)(hz:0≤z∧z≤1000)(hne:sb≠cb)(hS:H sb=some (f,.cells ⟨intsL l++jj⟩ 3 (0,0)))(hC:H cb=some (true,.cells ⟨[.int .i64 z]⟩ 3 (0,0))):
   CallT M 225 #[.slice (some ⟨sb,0,none⟩) n cap,.int .i64 (p:Nat),.int .i64 (q:Nat),.pointer (some ⟨cb,0,none⟩)] H (SortQ H cb [] (fun v m=> ∃s,v=twoV s∧m= [s.2.2]∧twoP p q z s)):=by
 have hS':(H.without cb) sb=some (f,.cells ⟨intsL l++jj⟩ 3 (0,0)):=by rw[without_other hne];exact hS
 have k1:=cells_ld (m:=l) (j:=jj) (k:=(p:Nat)) (p:=p) rfl (by omega)
 have k2:=cells_ld (m:=l) (j:=jj) (k:=(q:Nat)) (p:=q) rfl (by omega)
 refine CallT.enter (vs:= [.slice (some ⟨sb,0,none⟩) n cap,.int .i64 (p:Nat),.int .i64 (q:Nat),.pointer (some ⟨cb,0,none⟩)]) Tryz.func225 rfl Tryz.ntmps225 (Nat.le_of_ble_eq_true rfl) (SymSt.pull hC) fun St c cs hK=> ?_
 by_cases c1:at0 l q<at0 l p
 · refine .sr ?_
   refine .g ?_
   refine .g ?_
   refine .done (.seq (.seq ?_))
   refine Tc.dr [] [] mixed rfl ?_
   refine .q 0 rfl .mv ?_
   refine .q 1 rfl .mv ?_
   refine .q 2 rfl .ia ?_
   refine .q 3 rfl .l0 ?_
   refine .q 4 rfl .mv ?_
   refine .q 5 rfl .mv ?_
   refine .q 6 rfl .ia ?_
   refine .q 7 rfl .l0 ?_
   refine .z 8 rfl (OpV.takeCall rfl rfl rfl rfl (fun H hs=> .f ca182 rfl (CallT.is (.bool true) (by rewrite [decide_eq_true c1];rfl) (Less_c M H (at0 l q) (at0 l p))))) ?_
   refine Ta.done (by kernel_rfl) ?_
   refine .tt rfl (.sr ?_)
   refine .m ?_
   refine .x .nk ?_
   refine .x (.ld 0) ?_
   refine .i ?_ (z:=add_in (by omega) (by omega))
   refine .x .nk ?_
   refine .e (.st 0 (zz:=?_))
   refine .done (.sr ?_)
   refine .m ?_
   refine .m ?_
   refine .g ?_
   refine .g ?_
   refine .done ?_
   refine .rt hK Tryz.func225 Tryz.results225 [_,_] ?_
   exact fun H' hs=> SortQ.of (m:= [z+1]) hs (i:=0) rfl ⟨(q,p,z+1),rfl,rfl,.inr ⟨rfl,rfl⟩,by simp only;omega,by simp only;omega⟩
 · refine .sr ?_
   refine .g ?_
   refine .g ?_
   refine .done (.seq (.seq ?_))
   refine Tc.dr [] [] mixed rfl ?_
   refine .q 0 rfl .mv ?_
   refine .q 1 rfl .mv ?_
   refine .q 2 rfl .ia ?_
   refine .q 3 rfl .l0 ?_
   refine .q 4 rfl .mv ?_
   refine .q 5 rfl .mv ?_
   refine .q 6 rfl .ia ?_
   refine .q 7 rfl .l0 ?_
   refine .z 8 rfl (OpV.takeCall rfl rfl rfl rfl (fun H hs=> .f ca182 rfl (CallT.is (.bool false) (by rewrite [decide_eq_false c1];rfl) (Less_c M H (at0 l q) (at0 l p))))) ?_
   refine Ta.done (by kernel_rfl) ?_
   refine .ff rfl (.skip (.sr ?_))
   refine .m ?_
   refine .m ?_
   refine .g ?_
   refine .g ?_
   refine .done ?_
   refine .rt hK Tryz.func225 Tryz.results225 [_,_] ?_
   exact fun H' hs=> SortQ.of (m:= [z]) hs (i:=0) rfl ⟨(p,q,z),rfl,rfl,.inl ⟨rfl,rfl⟩,by simp only;omega,by simp only;omega⟩
theorem median_c(sb cb:Nat)(f:Bool)(l:List Int)(jj:List Value)(n cap p q r:Nat)(z:Int)(hn:n=l.length)(hp:p<n)(hq:q<n)(hr:r<n)(hz:0≤z∧z≤100)(hne:sb≠cb)(hS:H sb=some (f,.cells ⟨intsL l++jj⟩ 3 (0,0)))(hC:H cb=some (true,.cells ⟨[.int .i64 z]⟩ 3 (0,0))):
   CallT M 215 #[.slice (some ⟨sb,0,none⟩) n cap,.int .i64 (p:Nat),.int .i64 (q:Nat),.int .i64 (r:Nat),.pointer (some ⟨cb,0,none⟩)] H (SortQ H cb [] (fun v m=> ∃s:Nat×Int,v=.int .i64 (s.1:Nat)∧m= [s.2]∧((s.1=p∨s.1=q∨s.1=r)∧z≤s.2∧s.2≤z+3))):=by
 have hS':(H.without cb) sb=some (f,.cells ⟨intsL l++jj⟩ 3 (0,0)):=by rw[without_other hne];exact hS
 refine CallT.enter (vs:= [.slice (some ⟨sb,0,none⟩) n cap,.int .i64 (p:Nat),.int .i64 (q:Nat),.int .i64 (r:Nat),.pointer (some ⟨cb,0,none⟩)]) Tryz.func215 rfl Tryz.ntmps215 (Nat.le_of_ble_eq_true rfl) (SymSt.pull hC) fun St c cs hK=> ?_
 refine .sr ?_
 refine .g ?_
 refine .done (.sr ?_)
 refine .m ?_
 refine .m ?_
 refine .m ?_
 refine .m ?_
 refine .e (Or.sortsF (l:= [z]) (j:= []) 0 twoV (fun s=> [s.2.2]) (twoP p q z) rfl rfl rfl rfl rfl (by decide) rfl (fun H hs=> .f ca225 rfl (order2_c M H sb cb f l jj n cap p q z hn hp hq (by omega) hne (hs.base _ _ hS') (hs.get (i:=0) rfl))) (fun⟨x1,y1,z1⟩ ⟨o1,o2,o3⟩=> ?_))
 refine .m ?_
 refine .x .et ?_
 refine .x .et ?_
 refine .g ?_
 refine .g ?_
 refine .done ?_
 simp only at o1 o2 o3
 refine .sr ?_
 refine .m ?_
 refine .m ?_
 refine .m ?_
 refine .m ?_
 refine .e (Or.sortsF (l:= [z1]) (j:= []) 0 twoV (fun s=> [s.2.2]) (twoP y1 r z1) rfl rfl rfl rfl rfl (by decide) rfl (fun H hs=> .f ca225 rfl (order2_c M H sb cb f l jj n cap y1 r z1 hn (by omega) hr (by omega) hne (hs.base _ _ hS') (hs.get (i:=0) rfl))) (fun⟨x2,y2,z2⟩ ⟨p1,p2,p3⟩=> ?_))
 refine .m ?_
 refine .x .et ?_
 refine .x .et ?_
 refine .g ?_
 refine .g ?_
 refine .done ?_
 simp only at p1 p2 p3
 refine .sr ?_
 refine .m ?_
 refine .m ?_
 refine .m ?_
 refine .m ?_
 refine .e (Or.sortsF (l:= [z2]) (j:= []) 0 twoV (fun s=> [s.2.2]) (twoP x1 x2 z2) rfl rfl rfl rfl rfl (by decide) rfl (fun H hs=> .f ca225 rfl (order2_c M H sb cb f l jj n cap x1 x2 z2 hn (by omega) (by omega) (by omega) hne (hs.base _ _ hS') (hs.get (i:=0) rfl))) (fun⟨x3,y3,z3⟩ ⟨q1,q2,q3⟩=> ?_))
 refine .m ?_
 refine .x .et ?_
 refine .x .et ?_
 refine .g ?_
 refine .g ?_
 refine .done ?_
 simp only at q1 q2 q3
 refine .sr ?_
 refine .m ?_
 refine .g ?_
 refine .done ?_
 refine .rt hK Tryz.func215 Tryz.results215 [_] ?_
 exact fun H' hs=> SortQ.of (m:= [z3]) hs (i:=0) rfl ⟨(y3,z3),rfl,rfl,by simp only;omega,by simp only;omega,by simp only;omega⟩
def pivV(s:Nat×Nat):Value:=.tuple ⟨[.int .i64 (s.1:Nat),.int .i64 (s.2:Nat)]⟩
theorem choosePivot_c(sb:Nat)(f:Bool)(l:List Int)(jj:List Value)(n cap a b:Nat)(hn:n=l.length)(h1000:n≤1000)(hb:b≤n)(h8:a+8≤b)(h50:b<a+50)(hS:H sb=some (f,.cells ⟨intsL l++jj⟩ 3 (0,0))):
   CallT M 179 #[.slice (some ⟨sb,0,none⟩) n cap,.int .i64 (a:Nat),.int .i64 (b:Nat)] H (fun v H'=> H.le H'∧∃s:Nat×Nat,v=pivV s∧(a≤s.1∧s.1<b∧s.2≤2)∧∀y∈([]:Bl),H' y.1=some y.2∧H y.1=none):=by
 obtain⟨m,hm⟩:∃m,m=b-a:=⟨_,rfl⟩
 obtain⟨w,hw⟩:∃w,w=m/4:=⟨_,rfl⟩
 have e0:((b:Nat):Int)-((a:Nat):Int)=((m:Nat):Int):=by omega
 have hq:intBin .quo .i64 ((m:Nat):Int) 4=some (.int .i64 ((w:Nat):Int)):=by
   rw[quo_in (by omega) (by omega) (by omega)]
   congr 2
   omega
 have e1:((a:Nat):Int)+((w:Nat):Int)*1=((a+w:Nat):Int):=by omega
 have e2:((a:Nat):Int)+((w:Nat):Int)*2=((a+w*2:Nat):Int):=by omega
 have e3:((a:Nat):Int)+((w:Nat):Int)*3=((a+w*3:Nat):Int):=by omega
 refine CallT.enter (vs:= [.slice (some ⟨sb,0,none⟩) n cap,.int .i64 (a:Nat),.int .i64 (b:Nat)]) Tryz.func179 rfl Tryz.ntmps179 (Nat.le_of_ble_eq_true rfl) (SymSt.nil _) fun St c cs hK=> ?_
 refine .sr ?_
 refine .g ?_
 refine .g ?_
 refine .done (.sr ?_)
 refine .m ?_
 refine .m ?_
 refine .i ?_ (z:=sub_in (by omega) (by omega))
 refine .g ?_
 refine .done ?_
 rw[e0]
 refine .sr ?_
 refine .e (.al (zz:=fun b9=> ?_))
 refine .done (.sr ?_)
 refine .m ?_
 refine .m ?_
 refine .i ?_ (z:=by assumption)
 refine .i ?_ (z:=mul_in (by omega) (by omega))
 refine .i ?_ (z:=add_in (by omega) (by omega))
 refine .g ?_
 refine .done ?_
 rw[e1]
 refine .sr ?_
 refine .m ?_
 refine .m ?_
 refine .i ?_ (z:=by assumption)
 refine .i ?_ (z:=mul_in (by omega) (by omega))
 refine .i ?_ (z:=add_in (by omega) (by omega))
 refine .g ?_
 refine .done ?_
 rw[e2]
 refine .sr ?_
 refine .m ?_
 refine .m ?_
 refine .i ?_ (z:=by assumption)
 refine .i ?_ (z:=mul_in (by omega) (by omega))
 refine .i ?_ (z:=add_in (by omega) (by omega))
 refine .g ?_
 refine .done ?_
 rw[e3]
 refine .seq (.sr ?_)
 refine .m ?_
 refine .i ?_ (z:=geq_t (by omega))
 refine .done (.tt rfl (.seq (.sr ?_)))
 refine .m ?_
 refine .i ?_ (z:=geq_f (by omega))
 refine .done (.ff rfl (.skip ?_))
 refine Tc.lift (L₂:= [(b9,true,.cells ⟨[.int .i64 0]⟩ 3 (0,0))]) (L₁:= []) rfl (fun Hx hx=> ?_)
 have hne:∀H',SymSt Hx [(b9,true,.cells ⟨[.int .i64 0]⟩ 3 (0,0))] H'→sb≠b9:=fun H' hs e=> by
   have:=hs.out (b9,true,.cells ⟨[.int .i64 0]⟩ 3 (0,0)) (by simp)
   rw[←e,hx.base _ _ hS] at this
   cases this
 refine .r ?_
 refine .m ?_
 refine .m ?_
 refine .m ?_
 refine .m ?_
 refine .e (Or.sortsF (l:= [0]) (j:= []) 0 (fun s:Nat×Int=> .int .i64 (s.1:Nat)) (fun s=> [s.2]) (fun s=> (s.1=a+w∨s.1=a+w*2∨s.1=a+w*3)∧0≤s.2∧s.2≤0+3) rfl rfl rfl rfl rfl (by decide) rfl (fun H hs=> .f ca215 rfl (median_c M H sb b9 f l jj n cap (a+w) (a+w*2) (a+w*3) 0 hn (by omega) (by omega) (by omega) (by omega) (hne H hs) (hs.base _ _ (hx.base _ _ hS)) (hs.get (i:=0) rfl))) (fun⟨x1,z1⟩ ⟨o1,o2,o3⟩=> ?_))
 refine .g ?_
 refine .done ?_
 simp only at o1 o2 o3
 have hle:=hx.base
 clear hx hne
 refine .sr ?_
 refine .x (.ld 0) ?_
 refine .done (.block (.seq ?_))
 by_cases c1:z1=0
 · refine .r ?_
   refine .i ?_ (z:=eql_t (by omega))
   refine .g ?_
   refine .done (.tt rfl (.sr ?_))
   refine .m ?_
   refine .g ?_
   refine .g ?_
   refine .done ?_
   refine .rt hK Tryz.func179 Tryz.results179 [_,_] ?_
   exact fun H' hs=> ⟨View.le_trans hle hs.base,(x1,1),rfl,⟨by simp only;omega,by simp only;omega,by simp⟩,by simp⟩
 · refine .r ?_
   refine .i ?_ (z:=eql_f (by omega))
   refine .g ?_
   refine .done (.ff rfl (.sr ?_))
   refine .i ?_ (z:=eql_f (by omega))
   refine .g ?_
   refine .done (.ff rfl (.sr ?_))
   refine .m ?_
   refine .g ?_
   refine .g ?_
   refine .done ?_
   refine .rt hK Tryz.func179 Tryz.results179 [_,_] ?_
   exact fun H' hs=> ⟨View.le_trans hle hs.base,(x1,0),rfl,⟨by simp only;omega,by simp only;omega,by simp⟩,by simp⟩
end
end Go.Proofs.YtpdaenfglbgfkaaGreatDoor
end
section
namespace Go.Proofs.YtpdaenfglbgfkaaGreatDoor
open Go.RL
set_option maxRecDepth 10000
structure Pti(a b i j:Nat)(u:List Int):Prop where
 ai:a+1≤i
 ij:i≤j+1
 jb:j<b
 aj:a≤j
 lo:∀k,a<k→k<i→at0 u k<at0 u a
 hi:∀k,j<k→k<b→at0 u a≤at0 u k
theorem Pti.start {a b:Nat}{u:List Int}(h:a<b):Pti a b (a+1) (b-1) u:=⟨Nat.le_refl _,by omega,by omega,by omega,fun k h1 h2=> by omega,fun k h1 h2=> by omega⟩
theorem Pti.up {a b i j:Nat}{u:List Int}(h:Pti a b i j u)(hij:i≤j)(hlt:at0 u i<at0 u a):Pti a b (i+1) j u:=
 ⟨by have:=h.ai;omega,by omega,h.jb,h.aj,fun k h1 h2=> by
   by_cases e:k=i
   · rw[e];exact hlt
   · exact h.lo k h1 (by omega),h.hi⟩
theorem Pti.down {a b i j:Nat}{u:List Int}(h:Pti a b i j u)(hij:i≤j)(hge:¬at0 u j<at0 u a):Pti a b i (j-1) u:=
 ⟨h.ai,by omega,by have:=h.jb;omega,by have:=h.ai;omega,h.lo,fun k h1 h2=> by
   by_cases e:k=j
   · rw[e];omega
   · exact h.hi k (by omega) h2⟩
theorem Pti.swap {a b i j:Nat}{u:List Int}(h:Pti a b i j u)(hl:b≤u.length)(hij:i≤j)(h1:¬at0 u i<at0 u a)(h2:at0 u j<at0 u a):i<j∧Pti a b (i+1) (j-1) (swapL u i j):=by
 have ha:=h.ai
 have hb:=h.jb
 have hne:i≠j:=by
   rintro rfl
   omega
 have hs:=fun q=> swapL_at (l:=u) (p:=i) (q:=j) (by omega) (by omega) q
 have h0:at0 (swapL u i j) a=at0 u a:=by rw[hs,if_neg (by omega),if_neg (by omega)]
 refine⟨by omega,⟨by omega,by omega,by omega,by omega,fun k h3 h4=> ?_,fun k h3 h4=> ?_⟩⟩
 · rw[h0,hs,if_neg (by omega)]
   by_cases e:k=i
   · rw[if_pos e];exact h2
   · rw[if_neg e];exact h.lo k h3 (by omega)
 · rw[h0,hs]
   by_cases e:k=j
   · rw[if_pos e];omega
   · rw[if_neg e,if_neg (by omega)];exact h.hi k (by omega) h4
structure Part(a b j:Nat)(u:List Int):Prop where
 aj:a≤j
 jb:j<b
 lo:∀k,a≤k→k<j→at0 u k<at0 u j
 hi:∀k,j<k→k<b→at0 u j≤at0 u k
theorem Pti.fin {a b i j:Nat}{u:List Int}(h:Pti a b i j u)(hl:b≤u.length)(hij:j<i):Part a b j (swapL u j a):=by
 have ha:=h.ai
 have hb:=h.jb
 have hj:=h.aj
 have hi:=h.ij
 have hs:=fun q=> swapL_at (l:=u) (p:=j) (q:=a) (by omega) (by omega) q
 have h0:at0 (swapL u j a) j=at0 u a:=by
   rw[hs]
   by_cases e:j=a
   · rw[if_pos e,e]
   · rw[if_neg e,if_pos rfl]
 refine⟨hj,hb,fun k h3 h4=> ?_,fun k h3 h4=> ?_⟩
 · rw[h0,hs]
   by_cases e:k=a
   · rw[if_pos e];exact h.lo j (by omega) (by omega)
   · rw[if_neg e,if_neg (by omega)];exact h.lo k (by omega) (by omega)
 · rw[h0,hs,if_neg (by omega),if_neg (by omega)]
   exact h.hi k h3 h4
theorem Part.sorted {a b j:Nat}{u m w:List Int}(h:Part a b j u)(hl:b≤u.length)(h1:Turned a j u m)(s1:Srt a j m)(h2:Turned (j+1) b m w)(s2:Srt (j+1) b w):Turned a b u w∧Srt a b w:=by
 have hj:=h.aj
 have hb:=h.jb
 have hml:=h1.len
 refine⟨(h1.wide (Nat.le_refl _) (by omega)).trans (h2.wide (by omega) (Nat.le_refl _)),fun p q g1 g2 g3=> ?_⟩
 have ej:at0 w j=at0 u j:=by rw[h2.out j (.inl (by omega)),h1.out j (.inr (Nat.le_refl _))]
 have lo:∀k,a≤k→k<j→at0 w k≤at0 u j:=fun k c1 c2=> by
   rw[h2.out k (.inl (by omega))]
   exact h1.all (by omega) (P:=fun x=> x≤at0 u j) (fun k c3 c4=> Int.le_of_lt (h.lo k c3 c4)) k c1 c2
 have hi:∀k,j<k→k<b→at0 u j≤at0 w k:=fun k c1 c2=>
   h2.all (by omega) (P:=fun x=> at0 u j≤x) (fun k c3 c4=> by rw[h1.out k (.inr (by omega))];exact h.hi k (by omega) c4) k (by omega) c2
 by_cases c1:q<j
 · rw[h2.out p (.inl (by omega)),h2.out q (.inl (by omega))]
   exact s1 p q g1 g2 c1
 · by_cases c2:q=j
   · rw[c2,ej]
     exact lo p g1 (by omega)
   · by_cases c3:p<j
     · exact Int.le_trans (lo p g1 c3) (hi q (by omega) g3)
     · by_cases c4:p=j
       · rw[c4,ej]
         exact hi q (by omega) g3
       · exact s2 p q (by omega) g2 g3
end Go.Proofs.YtpdaenfglbgfkaaGreatDoor
end
section
namespace Go.Proofs.YtpdaenfglbgfkaaGreatDoor
open Go.RL
set_option maxRecDepth 10000
set_option maxHeartbeats 16000000
section
variable(M:Md Tryz.prog)(H:View)
theorem partition_c(sb:Nat)(l:List Int)(jj:List Value)(n cap a b pv:Nat)(hn:n=l.length)(hb:b≤n)(h1000:n≤1000)(hp:a≤pv∧pv<b)(hS:H sb=some (true,.cells ⟨intsL l++jj⟩ 3 (0,0))):
   CallT M 184 #[.slice (some ⟨sb,0,none⟩) n cap,.int .i64 (a:Nat),.int .i64 (b:Nat),.int .i64 (pv:Nat)] H (SortQ H sb jj (fun v m=> ∃s:Nat×Bool×List Int,v=.tuple ⟨[.int .i64 (s.1:Nat),.bool s.2.1]⟩∧m=s.2.2∧(Turned a b l s.2.2∧Part a b s.1 s.2.2))):=by
 refine CallT.enter (vs:= [.slice (some ⟨sb,0,none⟩) n cap,.int .i64 (a:Nat),.int .i64 (b:Nat),.int .i64 (pv:Nat)]) Tryz.func184 rfl Tryz.ntmps184 (Nat.le_of_ble_eq_true rfl) (SymSt.pull hS) fun St c cs hK=> ?_
 obtain⟨u,hue⟩:∃u,swapL l a pv=u:=⟨_,rfl⟩
 have hu:Turned a b l u:=by rw[←hue];exact Turned.swap (by omega) (by omega) (by omega) (by omega)
 have hul:=hu.len
 have hst:=Pti.start (a:=a) (b:=b) (u:=u) (by omega)
 have eb:((b:Nat):Int)-1=((b-1:Nat):Int):=by omega
 have y1:=cells_ld (m:=l) (j:=jj) (k:=(a:Nat)) (p:=a) rfl (by omega)
 have y2:=cells_ld (m:=l) (j:=jj) (k:=(pv:Nat)) (p:=pv) rfl (by omega)
 have y3:=cells_st (m:=l) (j:=jj) (k:=(a:Nat)) (x:=at0 l (pv)) (p:=a) rfl (by omega)
 have y4:=cells_st (m:=(l).set (a) (at0 l (pv))) (j:=jj) (k:=(pv:Nat)) (x:=at0 l (a)) (p:=pv) rfl (by rw[List.length_set];omega)
 have y5:=cells_le (m:=l) (j:=jj) (k:=(a:Nat)) (p:=a) rfl (by omega)
 have y6:=cells_le (m:=(l).set (a) (at0 l (pv))) (j:=jj) (k:=(pv:Nat)) (p:=pv) rfl (by rw[List.length_set];omega)
 refine .sr ?_
 refine .g ?_
 refine .g ?_
 refine .done (.seq ?_)
 refine Tc.dr [13,15] [0] mixed rfl ?_
 refine .q 0 rfl .mv ?_
 refine .q 1 rfl .mv ?_
 refine Ta.tkw 2 (by kernel_rfl) rfl rfl rfl (by decide) rfl rfl (OpV.take .mv) ?_
 refine Ta.tkw 3 (by kernel_rfl) rfl rfl rfl (by decide) rfl rfl (OpV.take .mv) ?_
 refine .q 4 rfl .mv ?_
 refine .q 5 rfl .mv ?_
 refine .q 6 rfl .ia ?_
 refine .q 7 rfl (.ld 0) ?_
 refine Ta.tkw 8 (by kernel_rfl) rfl rfl rfl (by decide) rfl rfl (OpV.take .mv) ?_
 refine Ta.tkw 9 (by kernel_rfl) rfl rfl rfl (by decide) rfl rfl (OpV.take .mv) ?_
 refine Ta.tkw 10 (by kernel_rfl) rfl rfl rfl (by decide) rfl rfl (OpV.take .ia) ?_
 refine .q 11 rfl (.ld 0) ?_
 refine .q 12 rfl .ia ?_
 refine Ta.each [13] (by kernel_rfl) rfl ⟨TaOp.mk rfl rfl rfl (.st 0 (zz:=⟨S2.mk (by exact List.nil_sublist _) (.inl (by kernel_rfl)),?_⟩)),trivial⟩
 refine Ta.tkw 14 (by kernel_rfl) rfl rfl rfl (by decide) rfl rfl (OpV.take .ia) ?_
 refine Ta.each [15] (by kernel_rfl) rfl ⟨TaOp.mk rfl rfl rfl (.st 0 (zz:=⟨S2.mk (by exact List.nil_sublist _) (.inl (by kernel_rfl)),?_⟩)),trivial⟩
 refine Ta.done (by kernel_rfl) ?_
 refine .sr ?_
 refine .m ?_
 refine .i ?_ (z:=add_in (by omega) (by omega))
 refine .m ?_
 refine .i ?_ (z:=sub_in (by omega) (by omega))
 refine .g ?_
 refine .g ?_
 refine .done ?_
 rw[eb]
 refine Tc.db (R':= [(0,.slice (some ⟨sb,0,none⟩) n cap),(1,.int .i64 (a:Nat)),(10,.int .i64 (a+1:Nat)),(11,.int .i64 (b-1:Nat))]) (L':= [(sb,true,.cells ⟨intsL (swapL l a pv)++jj⟩ 3 (0,0))]) ?_
 rw[hue]
 refine .seq ?_
 refine blockVia (fun R' L'=> ∃s,a+1≤s∧Pti a b s (b-1) u∧(s≤b-1→¬at0 u s<at0 u a)∧AllIn [(0,.slice (some ⟨sb,0,none⟩) n cap),(1,.int .i64 (a:Nat)),(10,.int .i64 (s:Nat)),(11,.int .i64 (b-1:Nat))] R'∧L'= [(sb,true,.cells ⟨intsL u++jj⟩ 3 (0,0))]) ?_ (fun fin=> ?_)
 · rintro R' _ ⟨i1,i1le,o1,y1,hRR,rfl⟩
   refine Tc.dropB ?_ hRR (List.Sublist.refl _)
   have o1a:=o1.ai
   have o1b:=o1.ij
   have o1c:=o1.jb
   refine .seq ?_
   refine blockVia (fun R' L'=> ∃s,s≤b-1∧Pti a b (i1) s u∧(i1≤s→at0 u s<at0 u a)∧AllIn [(0,.slice (some ⟨sb,0,none⟩) n cap),(1,.int .i64 (a:Nat)),(10,.int .i64 (i1:Nat)),(11,.int .i64 (s:Nat))] R'∧L'= [(sb,true,.cells ⟨intsL u++jj⟩ 3 (0,0))]) ?_ (fun fin=> ?_)
   · rintro R' _ ⟨j1,j1le,o2,y2,hRR,rfl⟩
     refine Tc.dropB ?_ hRR (List.Sublist.refl _)
     have o2a:=o2.ai
     have o2b:=o2.ij
     have o2c:=o2.jb
     have o2d:=o2.aj
     by_cases d:j1<i1
     · refine .seq (.sr ?_)
       refine .m ?_
       refine .m ?_
       refine .i ?_ (z:=gtr_t (by omega))
       refine .done (.tt rfl (.seq ?_))
       have z1:=cells_ld (m:=u) (j:=jj) (k:=(j1:Nat)) (p:=j1) rfl (by omega)
       have z2:=cells_ld (m:=u) (j:=jj) (k:=(a:Nat)) (p:=a) rfl (by omega)
       have z3:=cells_st (m:=u) (j:=jj) (k:=(j1:Nat)) (x:=at0 u (a)) (p:=j1) rfl (by omega)
       have z4:=cells_st (m:=(u).set (j1) (at0 u (a))) (j:=jj) (k:=(a:Nat)) (x:=at0 u (j1)) (p:=a) rfl (by rw[List.length_set];omega)
       have z5:=cells_le (m:=u) (j:=jj) (k:=(j1:Nat)) (p:=j1) rfl (by omega)
       have z6:=cells_le (m:=(u).set (j1) (at0 u (a))) (j:=jj) (k:=(a:Nat)) (p:=a) rfl (by rw[List.length_set];omega)
       refine Tc.dr [13,15] [0] mixed rfl ?_
       refine .q 0 rfl .mv ?_
       refine .q 1 rfl .mv ?_
       refine Ta.tkw 2 (by kernel_rfl) rfl rfl rfl (by decide) rfl rfl (OpV.take .mv) ?_
       refine Ta.tkw 3 (by kernel_rfl) rfl rfl rfl (by decide) rfl rfl (OpV.take .mv) ?_
       refine .q 4 rfl .mv ?_
       refine .q 5 rfl .mv ?_
       refine .q 6 rfl .ia ?_
       refine .q 7 rfl (.ld 0) ?_
       refine Ta.tkw 8 (by kernel_rfl) rfl rfl rfl (by decide) rfl rfl (OpV.take .mv) ?_
       refine Ta.tkw 9 (by kernel_rfl) rfl rfl rfl (by decide) rfl rfl (OpV.take .mv) ?_
       refine Ta.tkw 10 (by kernel_rfl) rfl rfl rfl (by decide) rfl rfl (OpV.take .ia) ?_
       refine .q 11 rfl (.ld 0) ?_
       refine .q 12 rfl .ia ?_
       refine Ta.each [13] (by kernel_rfl) rfl ⟨TaOp.mk rfl rfl rfl (.st 0 (zz:=⟨S2.mk (by exact List.nil_sublist _) (.inl (by kernel_rfl)),?_⟩)),trivial⟩
       refine Ta.tkw 14 (by kernel_rfl) rfl rfl rfl (by decide) rfl rfl (OpV.take .ia) ?_
       refine Ta.each [15] (by kernel_rfl) rfl ⟨TaOp.mk rfl rfl rfl (.st 0 (zz:=⟨S2.mk (by exact List.nil_sublist _) (.inl (by kernel_rfl)),?_⟩)),trivial⟩
       refine Ta.done (by kernel_rfl) ?_
       refine .sr ?_
       refine .m ?_
       refine .g ?_
       refine .g ?_
       refine .done ?_
       refine .rt hK Tryz.func184 Tryz.results184 [_,_] ?_
       exact fun H' hs=> SortQ.of hs (i:=0) rfl ⟨(j1,true,swapL u j1 a),rfl,rfl,hu.trans (Turned.swap (by omega) (by omega) (by omega) (by omega)),o2.fin (by omega) d⟩
     · have e2 :((j1:Nat):Int)-1=((j1-1:Nat):Int):=by omega
       have hsw:=o2.swap (by omega) (by omega) (y1 (by omega)) (y2 (by omega))
       refine .seq (.sr ?_)
       refine .m ?_
       refine .m ?_
       refine .i ?_ (z:=gtr_f (by omega))
       refine .done (.ff rfl (.skip (.seq ?_)))
       have z1:=cells_ld (m:=u) (j:=jj) (k:=(i1:Nat)) (p:=i1) rfl (by omega)
       have z2:=cells_ld (m:=u) (j:=jj) (k:=(j1:Nat)) (p:=j1) rfl (by omega)
       have z3:=cells_st (m:=u) (j:=jj) (k:=(i1:Nat)) (x:=at0 u (j1)) (p:=i1) rfl (by omega)
       have z4:=cells_st (m:=(u).set (i1) (at0 u (j1))) (j:=jj) (k:=(j1:Nat)) (x:=at0 u (i1)) (p:=j1) rfl (by rw[List.length_set];omega)
       have z5:=cells_le (m:=u) (j:=jj) (k:=(i1:Nat)) (p:=i1) rfl (by omega)
       have z6:=cells_le (m:=(u).set (i1) (at0 u (j1))) (j:=jj) (k:=(j1:Nat)) (p:=j1) rfl (by rw[List.length_set];omega)
       refine Tc.dr [13,15] [0] mixed rfl ?_
       refine .q 0 rfl .mv ?_
       refine .q 1 rfl .mv ?_
       refine Ta.tkw 2 (by kernel_rfl) rfl rfl rfl (by decide) rfl rfl (OpV.take .mv) ?_
       refine Ta.tkw 3 (by kernel_rfl) rfl rfl rfl (by decide) rfl rfl (OpV.take .mv) ?_
       refine .q 4 rfl .mv ?_
       refine .q 5 rfl .mv ?_
       refine .q 6 rfl .ia ?_
       refine .q 7 rfl (.ld 0) ?_
       refine Ta.tkw 8 (by kernel_rfl) rfl rfl rfl (by decide) rfl rfl (OpV.take .mv) ?_
       refine Ta.tkw 9 (by kernel_rfl) rfl rfl rfl (by decide) rfl rfl (OpV.take .mv) ?_
       refine Ta.tkw 10 (by kernel_rfl) rfl rfl rfl (by decide) rfl rfl (OpV.take .ia) ?_
       refine .q 11 rfl (.ld 0) ?_
       refine .q 12 rfl .ia ?_
       refine Ta.each [13] (by kernel_rfl) rfl ⟨TaOp.mk rfl rfl rfl (.st 0 (zz:=⟨S2.mk (by exact List.nil_sublist _) (.inl (by kernel_rfl)),?_⟩)),trivial⟩
       refine Ta.tkw 14 (by kernel_rfl) rfl rfl rfl (by decide) rfl rfl (OpV.take .ia) ?_
       refine Ta.each [15] (by kernel_rfl) rfl ⟨TaOp.mk rfl rfl rfl (.st 0 (zz:=⟨S2.mk (by exact List.nil_sublist _) (.inl (by kernel_rfl)),?_⟩)),trivial⟩
       refine Ta.done (by kernel_rfl) ?_
       refine .sr ?_
       refine .m ?_
       refine .i ?_ (z:=add_in (by omega) (by omega))
       refine .g ?_
       refine .done (.sr ?_)
       refine .m ?_
       refine .i ?_ (z:=sub_in (by omega) (by omega))
       refine .g ?_
       refine .done ?_
       rw[e2]
       refine .seq (.block ?_)
       refine Tc.db (Tc.loopInv (σ:= { s:Nat×Nat×List Int//Pti a b s.1 s.2.1 s.2.2∧Turned a b l s.2.2 }) (fun s=> ([(0,.slice (some ⟨sb,0,none⟩) n cap),(1,.int .i64 (a:Nat)),(10,.int .i64 (s.1.1:Nat)),(11,.int .i64 (s.1.2.1:Nat))],[(sb,true,.cells ⟨intsL s.1.2.2++jj⟩ 3 (0,0))])) (fun s=> s.1.2.1+1-s.1.1) ?_ ⟨(i1+1,j1-1,swapL u i1 j1),hsw.2,hu.trans (Turned.swap (by omega) (by omega) (by omega) (by omega))⟩)
       rintro⟨⟨i,j,w⟩,g1,g2⟩ ih0
       simp only at g1 g2
       have hwl:=g2.len
       have g1a:=g1.ai
       have g1b:=g1.ij
       have g1c:=g1.jb
       show Tc M St _ _ _ _ [(0,.slice (some ⟨sb,0,none⟩) n cap),(1,.int .i64 (a:Nat)),(10,.int .i64 (i:Nat)),(11,.int .i64 (j:Nat))] [(sb,true,.cells ⟨intsL w++jj⟩ 3 (0,0))] _ _
       refine .block (.seq ?_)
       refine blockVia (fun R' L'=> ∃s,i≤s∧Pti a b s (j) w∧(s≤j→¬at0 w s<at0 w a)∧AllIn [(0,.slice (some ⟨sb,0,none⟩) n cap),(1,.int .i64 (a:Nat)),(10,.int .i64 (s:Nat)),(11,.int .i64 (j:Nat))] R'∧L'= [(sb,true,.cells ⟨intsL w++jj⟩ 3 (0,0))]) ?_ (fun fin=> ?_)
       · rintro R' _ ⟨i2,i2le,p1,x1,hRR,rfl⟩
         refine Tc.dropB ?_ hRR (List.Sublist.refl _)
         have p1a:=p1.ai
         have p1b:=p1.ij
         have p1c:=p1.jb
         refine .seq ?_
         refine blockVia (fun R' L'=> ∃s,s≤j∧Pti a b (i2) s w∧(i2≤s→at0 w s<at0 w a)∧AllIn [(0,.slice (some ⟨sb,0,none⟩) n cap),(1,.int .i64 (a:Nat)),(10,.int .i64 (i2:Nat)),(11,.int .i64 (s:Nat))] R'∧L'= [(sb,true,.cells ⟨intsL w++jj⟩ 3 (0,0))]) ?_ (fun fin=> ?_)
         · rintro R' _ ⟨j2,j2le,p2,x2,hRR,rfl⟩
           refine Tc.dropB ?_ hRR (List.Sublist.refl _)
           have p2a:=p2.ai
           have p2b:=p2.ij
           have p2c:=p2.jb
           have p2d:=p2.aj
           by_cases d:j2<i2
           · refine .seq (.sr ?_)
             refine .m ?_
             refine .m ?_
             refine .i ?_ (z:=gtr_t (by omega))
             refine .done (.tt rfl (.exit rfl (.seq ?_)))
             have z1:=cells_ld (m:=w) (j:=jj) (k:=(j2:Nat)) (p:=j2) rfl (by omega)
             have z2:=cells_ld (m:=w) (j:=jj) (k:=(a:Nat)) (p:=a) rfl (by omega)
             have z3:=cells_st (m:=w) (j:=jj) (k:=(j2:Nat)) (x:=at0 w (a)) (p:=j2) rfl (by omega)
             have z4:=cells_st (m:=(w).set (j2) (at0 w (a))) (j:=jj) (k:=(a:Nat)) (x:=at0 w (j2)) (p:=a) rfl (by rw[List.length_set];omega)
             have z5:=cells_le (m:=w) (j:=jj) (k:=(j2:Nat)) (p:=j2) rfl (by omega)
             have z6:=cells_le (m:=(w).set (j2) (at0 w (a))) (j:=jj) (k:=(a:Nat)) (p:=a) rfl (by rw[List.length_set];omega)
             refine Tc.dr [13,15] [0] mixed rfl ?_
             refine .q 0 rfl .mv ?_
             refine .q 1 rfl .mv ?_
             refine Ta.tkw 2 (by kernel_rfl) rfl rfl rfl (by decide) rfl rfl (OpV.take .mv) ?_
             refine Ta.tkw 3 (by kernel_rfl) rfl rfl rfl (by decide) rfl rfl (OpV.take .mv) ?_
             refine .q 4 rfl .mv ?_
             refine .q 5 rfl .mv ?_
             refine .q 6 rfl .ia ?_
             refine .q 7 rfl (.ld 0) ?_
             refine Ta.tkw 8 (by kernel_rfl) rfl rfl rfl (by decide) rfl rfl (OpV.take .mv) ?_
             refine Ta.tkw 9 (by kernel_rfl) rfl rfl rfl (by decide) rfl rfl (OpV.take .mv) ?_
             refine Ta.tkw 10 (by kernel_rfl) rfl rfl rfl (by decide) rfl rfl (OpV.take .ia) ?_
             refine .q 11 rfl (.ld 0) ?_
             refine .q 12 rfl .ia ?_
             refine Ta.each [13] (by kernel_rfl) rfl ⟨TaOp.mk rfl rfl rfl (.st 0 (zz:=⟨S2.mk (by exact List.nil_sublist _) (.inl (by kernel_rfl)),?_⟩)),trivial⟩
             refine Ta.tkw 14 (by kernel_rfl) rfl rfl rfl (by decide) rfl rfl (OpV.take .ia) ?_
             refine Ta.each [15] (by kernel_rfl) rfl ⟨TaOp.mk rfl rfl rfl (.st 0 (zz:=⟨S2.mk (by exact List.nil_sublist _) (.inl (by kernel_rfl)),?_⟩)),trivial⟩
             refine Ta.done (by kernel_rfl) ?_
             refine .sr ?_
             refine .m ?_
             refine .g ?_
             refine .g ?_
             refine .done ?_
             refine .rt hK Tryz.func184 Tryz.results184 [_,_] ?_
             exact fun H' hs=> SortQ.of hs (i:=0) rfl ⟨(j2,false,swapL w j2 a),rfl,rfl,g2.trans (Turned.swap (by omega) (by omega) (by omega) (by omega)),p2.fin (by omega) d⟩
           · have hsw:=p2.swap (by omega) (by omega) (x1 (by omega)) (x2 (by omega))
             have e2:((j2:Nat):Int)-1=((j2-1:Nat):Int):=by omega
             refine .seq (.sr ?_)
             refine .m ?_
             refine .m ?_
             refine .i ?_ (z:=gtr_f (by omega))
             refine .done (.ff rfl (.skip (.seq ?_)))
             have z1:=cells_ld (m:=w) (j:=jj) (k:=(i2:Nat)) (p:=i2) rfl (by omega)
             have z2:=cells_ld (m:=w) (j:=jj) (k:=(j2:Nat)) (p:=j2) rfl (by omega)
             have z3:=cells_st (m:=w) (j:=jj) (k:=(i2:Nat)) (x:=at0 w (j2)) (p:=i2) rfl (by omega)
             have z4:=cells_st (m:=(w).set (i2) (at0 w (j2))) (j:=jj) (k:=(j2:Nat)) (x:=at0 w (i2)) (p:=j2) rfl (by rw[List.length_set];omega)
             have z5:=cells_le (m:=w) (j:=jj) (k:=(i2:Nat)) (p:=i2) rfl (by omega)
             have z6:=cells_le (m:=(w).set (i2) (at0 w (j2))) (j:=jj) (k:=(j2:Nat)) (p:=j2) rfl (by rw[List.length_set];omega)
             refine Tc.dr [13,15] [0] mixed rfl ?_
             refine .q 0 rfl .mv ?_
             refine .q 1 rfl .mv ?_
             refine Ta.tkw 2 (by kernel_rfl) rfl rfl rfl (by decide) rfl rfl (OpV.take .mv) ?_
             refine Ta.tkw 3 (by kernel_rfl) rfl rfl rfl (by decide) rfl rfl (OpV.take .mv) ?_
             refine .q 4 rfl .mv ?_
             refine .q 5 rfl .mv ?_
             refine .q 6 rfl .ia ?_
             refine .q 7 rfl (.ld 0) ?_
             refine Ta.tkw 8 (by kernel_rfl) rfl rfl rfl (by decide) rfl rfl (OpV.take .mv) ?_
             refine Ta.tkw 9 (by kernel_rfl) rfl rfl rfl (by decide) rfl rfl (OpV.take .mv) ?_
             refine Ta.tkw 10 (by kernel_rfl) rfl rfl rfl (by decide) rfl rfl (OpV.take .ia) ?_
             refine .q 11 rfl (.ld 0) ?_
             refine .q 12 rfl .ia ?_
             refine Ta.each [13] (by kernel_rfl) rfl ⟨TaOp.mk rfl rfl rfl (.st 0 (zz:=⟨S2.mk (by exact List.nil_sublist _) (.inl (by kernel_rfl)),?_⟩)),trivial⟩
             refine Ta.tkw 14 (by kernel_rfl) rfl rfl rfl (by decide) rfl rfl (OpV.take .ia) ?_
             refine Ta.each [15] (by kernel_rfl) rfl ⟨TaOp.mk rfl rfl rfl (.st 0 (zz:=⟨S2.mk (by exact List.nil_sublist _) (.inl (by kernel_rfl)),?_⟩)),trivial⟩
             refine Ta.done (by kernel_rfl) ?_
             refine .sr ?_
             refine .m ?_
             refine .i ?_ (z:=add_in (by omega) (by omega))
             refine .g ?_
             refine .done (.r ?_)
             refine .m ?_
             refine .i ?_ (z:=sub_in (by omega) (by omega))
             refine .g ?_
             refine .done ?_
             rw[e2]
             refine .inBlock ?_
             exact Tc.db (ih0 ⟨(i2+1,j2-1,swapL w i2 j2),hsw.2,g2.trans (Turned.swap (by omega) (by omega) (by omega) (by omega))⟩ (by simp only;omega))
         · refine Tc.db (Tc.loopInv (σ:= { s:Nat//s≤j∧Pti a b (i2) s w }) (fun s=> ([(0,.slice (some ⟨sb,0,none⟩) n cap),(1,.int .i64 (a:Nat)),(10,.int .i64 (i2:Nat)),(11,.int .i64 (s.1:Nat))],[(sb,true,.cells ⟨intsL w++jj⟩ 3 (0,0))])) (fun s=> s.1) ?_ ⟨j,Nat.le_refl _,p1⟩)
           rintro⟨s,q1,q2⟩ ih
           have q3:=q2.ai
           have q4:=q2.ij
           have q5:=q2.jb
           show Tc M St _ _ _ _ [(0,.slice (some ⟨sb,0,none⟩) n cap),(1,.int .i64 (a:Nat)),(10,.int .i64 (i2:Nat)),(11,.int .i64 (s:Nat))] [(sb,true,.cells ⟨intsL w++jj⟩ 3 (0,0))] _ _
           by_cases c1:i2≤s
           · have e1:((s:Nat):Int)-1=((s-1:Nat):Int):=by omega
             have k1:=cells_ld (m:=w) (j:=jj) (k:=(s:Nat)) (p:=s) rfl (by omega)
             have k2:=cells_ld (m:=w) (j:=jj) (k:=(a:Nat)) (p:=a) rfl (by omega)
             by_cases c2:at0 w s<at0 w a
             · refine .seq (.seq ?_)
               refine Tc.dr [] [] mixed rfl ?_
               refine .q 0 rfl .mv ?_
               refine .q 1 rfl .mv ?_
               refine .q 2 rfl (.it (zz:=leq_t (by omega))) ?_
               refine .q 3 rfl .mv ?_
               refine .q 4 rfl .mv ?_
               refine .q 5 rfl .mv ?_
               refine .q 6 rfl .ia ?_
               refine .q 7 rfl (.ld 0) ?_
               refine .q 8 rfl .mv ?_
               refine .q 9 rfl .mv ?_
               refine .q 10 rfl .ia ?_
               refine .q 11 rfl (.ld 0) ?_
               refine .z 12 rfl (OpV.takeCall rfl rfl rfl rfl (fun H hs=> .f ca182 rfl (CallT.is (.bool true) (by rewrite [decide_eq_true c2];rfl) (Less_c M H (at0 w s) (at0 w a))))) ?_
               refine .q 13 rfl .nt ?_
               refine .q 14 rfl .pk ?_
               refine Ta.done (by kernel_rfl) ?_
               refine .ff rfl (.exit rfl ?_)
               exact Tc.db (fin [(0,.slice (some ⟨sb,0,none⟩) n cap),(1,.int .i64 (a:Nat)),(10,.int .i64 (i2:Nat)),(11,.int .i64 (s:Nat))] [(sb,true,.cells ⟨intsL w++jj⟩ 3 (0,0))] ⟨s,q1,q2,fun _=> c2,⟨rfl,rfl,rfl,rfl,trivial⟩,rfl⟩)
             · refine .seq (.seq ?_)
               refine Tc.dr [] [] mixed rfl ?_
               refine .q 0 rfl .mv ?_
               refine .q 1 rfl .mv ?_
               refine .q 2 rfl (.it (zz:=leq_t (by omega))) ?_
               refine .q 3 rfl .mv ?_
               refine .q 4 rfl .mv ?_
               refine .q 5 rfl .mv ?_
               refine .q 6 rfl .ia ?_
               refine .q 7 rfl (.ld 0) ?_
               refine .q 8 rfl .mv ?_
               refine .q 9 rfl .mv ?_
               refine .q 10 rfl .ia ?_
               refine .q 11 rfl (.ld 0) ?_
               refine .z 12 rfl (OpV.takeCall rfl rfl rfl rfl (fun H hs=> .f ca182 rfl (CallT.is (.bool false) (by rewrite [decide_eq_false c2];rfl) (Less_c M H (at0 w s) (at0 w a))))) ?_
               refine .q 13 rfl .nt ?_
               refine .q 14 rfl .pk ?_
               refine Ta.done (by kernel_rfl) ?_
               refine .tt rfl (.skip (.block (.r ?_)))
               refine .m ?_
               refine .i ?_ (z:=sub_in (by omega) (by omega))
               refine .g ?_
               refine .done ?_
               rw[e1]
               refine .inBlock ?_
               exact Tc.db (ih ⟨s-1,by omega,q2.down c1 c2⟩ (by simp only;omega))
           · refine .seq (.seq ?_)
             refine Tc.dr [] [] mixed rfl ?_
             refine .q 0 rfl .mv ?_
             refine .q 1 rfl .mv ?_
             refine .q 2 rfl (.it (zz:=leq_f (by omega))) ?_
             refine .q 3 rfl .mv ?_
             refine Ta.ps 4 (by kernel_rfl) rfl rfl rfl (by decide) rfl rfl ?_
             refine Ta.ps 5 (by kernel_rfl) rfl rfl rfl (by decide) rfl rfl ?_
             refine Ta.ps 6 (by kernel_rfl) rfl rfl rfl (by decide) rfl rfl ?_
             refine Ta.ps 7 (by kernel_rfl) rfl rfl rfl (by decide) rfl rfl ?_
             refine Ta.ps 8 (by kernel_rfl) rfl rfl rfl (by decide) rfl rfl ?_
             refine Ta.ps 9 (by kernel_rfl) rfl rfl rfl (by decide) rfl rfl ?_
             refine Ta.ps 10 (by kernel_rfl) rfl rfl rfl (by decide) rfl rfl ?_
             refine Ta.ps 11 (by kernel_rfl) rfl rfl rfl (by decide) rfl rfl ?_
             refine Ta.ps 12 (by kernel_rfl) rfl rfl rfl (by decide) rfl rfl ?_
             refine Ta.ps 13 (by kernel_rfl) rfl rfl rfl (by decide) rfl rfl ?_
             refine .q 14 rfl .pk ?_
             refine Ta.done (by kernel_rfl) ?_
             refine .ff rfl (.exit rfl ?_)
             exact Tc.db (fin [(0,.slice (some ⟨sb,0,none⟩) n cap),(1,.int .i64 (a:Nat)),(10,.int .i64 (i2:Nat)),(11,.int .i64 (s:Nat))] [(sb,true,.cells ⟨intsL w++jj⟩ 3 (0,0))] ⟨s,q1,q2,fun h=> absurd h c1,⟨rfl,rfl,rfl,rfl,trivial⟩,rfl⟩)
       · refine Tc.db (Tc.loopInv (σ:= { s:Nat//i≤s∧Pti a b s (j) w }) (fun s=> ([(0,.slice (some ⟨sb,0,none⟩) n cap),(1,.int .i64 (a:Nat)),(10,.int .i64 (s.1:Nat)),(11,.int .i64 (j:Nat))],[(sb,true,.cells ⟨intsL w++jj⟩ 3 (0,0))])) (fun s=> j+1-s.1) ?_ ⟨i,Nat.le_refl _,g1⟩)
         rintro⟨s,q1,q2⟩ ih
         have q3:=q2.ai
         have q4:=q2.ij
         have q5:=q2.jb
         show Tc M St _ _ _ _ [(0,.slice (some ⟨sb,0,none⟩) n cap),(1,.int .i64 (a:Nat)),(10,.int .i64 (s:Nat)),(11,.int .i64 (j:Nat))] [(sb,true,.cells ⟨intsL w++jj⟩ 3 (0,0))] _ _
         by_cases c1:s≤j
         · have k1:=cells_ld (m:=w) (j:=jj) (k:=(s:Nat)) (p:=s) rfl (by omega)
           have k2:=cells_ld (m:=w) (j:=jj) (k:=(a:Nat)) (p:=a) rfl (by omega)
           by_cases c2:at0 w s<at0 w a
           · refine .seq (.seq ?_)
             refine Tc.dr [] [] mixed rfl ?_
             refine .q 0 rfl .mv ?_
             refine .q 1 rfl .mv ?_
             refine .q 2 rfl (.it (zz:=leq_t (by omega))) ?_
             refine .q 3 rfl .mv ?_
             refine .q 4 rfl .mv ?_
             refine .q 5 rfl .mv ?_
             refine .q 6 rfl .ia ?_
             refine .q 7 rfl (.ld 0) ?_
             refine .q 8 rfl .mv ?_
             refine .q 9 rfl .mv ?_
             refine .q 10 rfl .ia ?_
             refine .q 11 rfl (.ld 0) ?_
             refine .z 12 rfl (OpV.takeCall rfl rfl rfl rfl (fun H hs=> .f ca182 rfl (CallT.is (.bool true) (by rewrite [decide_eq_true c2];rfl) (Less_c M H (at0 w s) (at0 w a))))) ?_
             refine .q 13 rfl .pk ?_
             refine Ta.done (by kernel_rfl) ?_
             refine .tt rfl (.skip (.block (.r ?_)))
             refine .m ?_
             refine .i ?_ (z:=add_in (by omega) (by omega))
             refine .g ?_
             refine .done (.inBlock ?_)
             exact Tc.db (ih ⟨s+1,by omega,q2.up c1 c2⟩ (by simp only;omega))
           · refine .seq (.seq ?_)
             refine Tc.dr [] [] mixed rfl ?_
             refine .q 0 rfl .mv ?_
             refine .q 1 rfl .mv ?_
             refine .q 2 rfl (.it (zz:=leq_t (by omega))) ?_
             refine .q 3 rfl .mv ?_
             refine .q 4 rfl .mv ?_
             refine .q 5 rfl .mv ?_
             refine .q 6 rfl .ia ?_
             refine .q 7 rfl (.ld 0) ?_
             refine .q 8 rfl .mv ?_
             refine .q 9 rfl .mv ?_
             refine .q 10 rfl .ia ?_
             refine .q 11 rfl (.ld 0) ?_
             refine .z 12 rfl (OpV.takeCall rfl rfl rfl rfl (fun H hs=> .f ca182 rfl (CallT.is (.bool false) (by rewrite [decide_eq_false c2];rfl) (Less_c M H (at0 w s) (at0 w a))))) ?_
             refine .q 13 rfl .pk ?_
             refine Ta.done (by kernel_rfl) ?_
             refine .ff rfl (.exit rfl ?_)
             exact Tc.db (fin [(0,.slice (some ⟨sb,0,none⟩) n cap),(1,.int .i64 (a:Nat)),(10,.int .i64 (s:Nat)),(11,.int .i64 (j:Nat))] [(sb,true,.cells ⟨intsL w++jj⟩ 3 (0,0))] ⟨s,q1,q2,fun _=> c2,⟨rfl,rfl,rfl,rfl,trivial⟩,rfl⟩)
         · refine .seq (.seq ?_)
           refine Tc.dr [] [] mixed rfl ?_
           refine .q 0 rfl .mv ?_
           refine .q 1 rfl .mv ?_
           refine .q 2 rfl (.it (zz:=leq_f (by omega))) ?_
           refine .q 3 rfl .mv ?_
           refine Ta.ps 4 (by kernel_rfl) rfl rfl rfl (by decide) rfl rfl ?_
           refine Ta.ps 5 (by kernel_rfl) rfl rfl rfl (by decide) rfl rfl ?_
           refine Ta.ps 6 (by kernel_rfl) rfl rfl rfl (by decide) rfl rfl ?_
           refine Ta.ps 7 (by kernel_rfl) rfl rfl rfl (by decide) rfl rfl ?_
           refine Ta.ps 8 (by kernel_rfl) rfl rfl rfl (by decide) rfl rfl ?_
           refine Ta.ps 9 (by kernel_rfl) rfl rfl rfl (by decide) rfl rfl ?_
           refine Ta.ps 10 (by kernel_rfl) rfl rfl rfl (by decide) rfl rfl ?_
           refine Ta.ps 11 (by kernel_rfl) rfl rfl rfl (by decide) rfl rfl ?_
           refine Ta.ps 12 (by kernel_rfl) rfl rfl rfl (by decide) rfl rfl ?_
           refine .q 13 rfl .pk ?_
           refine Ta.done (by kernel_rfl) ?_
           refine .ff rfl (.exit rfl ?_)
           exact Tc.db (fin [(0,.slice (some ⟨sb,0,none⟩) n cap),(1,.int .i64 (a:Nat)),(10,.int .i64 (s:Nat)),(11,.int .i64 (j:Nat))] [(sb,true,.cells ⟨intsL w++jj⟩ 3 (0,0))] ⟨s,q1,q2,fun h=> absurd h c1,⟨rfl,rfl,rfl,rfl,trivial⟩,rfl⟩)
   · refine Tc.db (Tc.loopInv (σ:= { s:Nat//s≤b-1∧Pti a b (i1) s u }) (fun s=> ([(0,.slice (some ⟨sb,0,none⟩) n cap),(1,.int .i64 (a:Nat)),(10,.int .i64 (i1:Nat)),(11,.int .i64 (s.1:Nat))],[(sb,true,.cells ⟨intsL u++jj⟩ 3 (0,0))])) (fun s=> s.1) ?_ ⟨b-1,Nat.le_refl _,o1⟩)
     rintro⟨s,q1,q2⟩ ih
     have q3:=q2.ai
     have q4:=q2.ij
     have q5:=q2.jb
     show Tc M St _ _ _ _ [(0,.slice (some ⟨sb,0,none⟩) n cap),(1,.int .i64 (a:Nat)),(10,.int .i64 (i1:Nat)),(11,.int .i64 (s:Nat))] [(sb,true,.cells ⟨intsL u++jj⟩ 3 (0,0))] _ _
     by_cases c1:i1≤s
     · have e1:((s:Nat):Int)-1=((s-1:Nat):Int):=by omega
       have k1:=cells_ld (m:=u) (j:=jj) (k:=(s:Nat)) (p:=s) rfl (by omega)
       have k2:=cells_ld (m:=u) (j:=jj) (k:=(a:Nat)) (p:=a) rfl (by omega)
       by_cases c2:at0 u s<at0 u a
       · refine .seq (.seq ?_)
         refine Tc.dr [] [] mixed rfl ?_
         refine .q 0 rfl .mv ?_
         refine .q 1 rfl .mv ?_
         refine .q 2 rfl (.it (zz:=leq_t (by omega))) ?_
         refine .q 3 rfl .mv ?_
         refine .q 4 rfl .mv ?_
         refine .q 5 rfl .mv ?_
         refine .q 6 rfl .ia ?_
         refine .q 7 rfl (.ld 0) ?_
         refine .q 8 rfl .mv ?_
         refine .q 9 rfl .mv ?_
         refine .q 10 rfl .ia ?_
         refine .q 11 rfl (.ld 0) ?_
         refine .z 12 rfl (OpV.takeCall rfl rfl rfl rfl (fun H hs=> .f ca182 rfl (CallT.is (.bool true) (by rewrite [decide_eq_true c2];rfl) (Less_c M H (at0 u s) (at0 u a))))) ?_
         refine .q 13 rfl .nt ?_
         refine .q 14 rfl .pk ?_
         refine Ta.done (by kernel_rfl) ?_
         refine .ff rfl (.exit rfl ?_)
         exact Tc.db (fin [(0,.slice (some ⟨sb,0,none⟩) n cap),(1,.int .i64 (a:Nat)),(10,.int .i64 (i1:Nat)),(11,.int .i64 (s:Nat))] [(sb,true,.cells ⟨intsL u++jj⟩ 3 (0,0))] ⟨s,q1,q2,fun _=> c2,⟨rfl,rfl,rfl,rfl,trivial⟩,rfl⟩)
       · refine .seq (.seq ?_)
         refine Tc.dr [] [] mixed rfl ?_
         refine .q 0 rfl .mv ?_
         refine .q 1 rfl .mv ?_
         refine .q 2 rfl (.it (zz:=leq_t (by omega))) ?_
         refine .q 3 rfl .mv ?_
         refine .q 4 rfl .mv ?_
         refine .q 5 rfl .mv ?_
         refine .q 6 rfl .ia ?_
         refine .q 7 rfl (.ld 0) ?_
         refine .q 8 rfl .mv ?_
         refine .q 9 rfl .mv ?_
         refine .q 10 rfl .ia ?_
         refine .q 11 rfl (.ld 0) ?_
         refine .z 12 rfl (OpV.takeCall rfl rfl rfl rfl (fun H hs=> .f ca182 rfl (CallT.is (.bool false) (by rewrite [decide_eq_false c2];rfl) (Less_c M H (at0 u s) (at0 u a))))) ?_
         refine .q 13 rfl .nt ?_
         refine .q 14 rfl .pk ?_
         refine Ta.done (by kernel_rfl) ?_
         refine .tt rfl (.skip (.block (.r ?_)))
         refine .m ?_
         refine .i ?_ (z:=sub_in (by omega) (by omega))
         refine .g ?_
         refine .done ?_
         rw[e1]
         refine .inBlock ?_
         exact Tc.db (ih ⟨s-1,by omega,q2.down c1 c2⟩ (by simp only;omega))
     · refine .seq (.seq ?_)
       refine Tc.dr [] [] mixed rfl ?_
       refine .q 0 rfl .mv ?_
       refine .q 1 rfl .mv ?_
       refine .q 2 rfl (.it (zz:=leq_f (by omega))) ?_
       refine .q 3 rfl .mv ?_
       refine Ta.ps 4 (by kernel_rfl) rfl rfl rfl (by decide) rfl rfl ?_
       refine Ta.ps 5 (by kernel_rfl) rfl rfl rfl (by decide) rfl rfl ?_
       refine Ta.ps 6 (by kernel_rfl) rfl rfl rfl (by decide) rfl rfl ?_
       refine Ta.ps 7 (by kernel_rfl) rfl rfl rfl (by decide) rfl rfl ?_
       refine Ta.ps 8 (by kernel_rfl) rfl rfl rfl (by decide) rfl rfl ?_
       refine Ta.ps 9 (by kernel_rfl) rfl rfl rfl (by decide) rfl rfl ?_
       refine Ta.ps 10 (by kernel_rfl) rfl rfl rfl (by decide) rfl rfl ?_
       refine Ta.ps 11 (by kernel_rfl) rfl rfl rfl (by decide) rfl rfl ?_
       refine Ta.ps 12 (by kernel_rfl) rfl rfl rfl (by decide) rfl rfl ?_
       refine Ta.ps 13 (by kernel_rfl) rfl rfl rfl (by decide) rfl rfl ?_
       refine .q 14 rfl .pk ?_
       refine Ta.done (by kernel_rfl) ?_
       refine .ff rfl (.exit rfl ?_)
       exact Tc.db (fin [(0,.slice (some ⟨sb,0,none⟩) n cap),(1,.int .i64 (a:Nat)),(10,.int .i64 (i1:Nat)),(11,.int .i64 (s:Nat))] [(sb,true,.cells ⟨intsL u++jj⟩ 3 (0,0))] ⟨s,q1,q2,fun h=> absurd h c1,⟨rfl,rfl,rfl,rfl,trivial⟩,rfl⟩)
 · refine Tc.db (Tc.loopInv (σ:= { s:Nat//a+1≤s∧Pti a b s (b-1) u }) (fun s=> ([(0,.slice (some ⟨sb,0,none⟩) n cap),(1,.int .i64 (a:Nat)),(10,.int .i64 (s.1:Nat)),(11,.int .i64 (b-1:Nat))],[(sb,true,.cells ⟨intsL u++jj⟩ 3 (0,0))])) (fun s=> b-1+1-s.1) ?_ ⟨a+1,Nat.le_refl _,hst⟩)
   rintro⟨s,q1,q2⟩ ih
   have q3:=q2.ai
   have q4:=q2.ij
   have q5:=q2.jb
   show Tc M St _ _ _ _ [(0,.slice (some ⟨sb,0,none⟩) n cap),(1,.int .i64 (a:Nat)),(10,.int .i64 (s:Nat)),(11,.int .i64 (b-1:Nat))] [(sb,true,.cells ⟨intsL u++jj⟩ 3 (0,0))] _ _
   by_cases c1:s≤b-1
   · have k1:=cells_ld (m:=u) (j:=jj) (k:=(s:Nat)) (p:=s) rfl (by omega)
     have k2:=cells_ld (m:=u) (j:=jj) (k:=(a:Nat)) (p:=a) rfl (by omega)
     by_cases c2:at0 u s<at0 u a
     · refine .seq (.seq ?_)
       refine Tc.dr [] [] mixed rfl ?_
       refine .q 0 rfl .mv ?_
       refine .q 1 rfl .mv ?_
       refine .q 2 rfl (.it (zz:=leq_t (by omega))) ?_
       refine .q 3 rfl .mv ?_
       refine .q 4 rfl .mv ?_
       refine .q 5 rfl .mv ?_
       refine .q 6 rfl .ia ?_
       refine .q 7 rfl (.ld 0) ?_
       refine .q 8 rfl .mv ?_
       refine .q 9 rfl .mv ?_
       refine .q 10 rfl .ia ?_
       refine .q 11 rfl (.ld 0) ?_
       refine .z 12 rfl (OpV.takeCall rfl rfl rfl rfl (fun H hs=> .f ca182 rfl (CallT.is (.bool true) (by rewrite [decide_eq_true c2];rfl) (Less_c M H (at0 u s) (at0 u a))))) ?_
       refine .q 13 rfl .pk ?_
       refine Ta.done (by kernel_rfl) ?_
       refine .tt rfl (.skip (.block (.r ?_)))
       refine .m ?_
       refine .i ?_ (z:=add_in (by omega) (by omega))
       refine .g ?_
       refine .done (.inBlock ?_)
       exact Tc.db (ih ⟨s+1,by omega,q2.up c1 c2⟩ (by simp only;omega))
     · refine .seq (.seq ?_)
       refine Tc.dr [] [] mixed rfl ?_
       refine .q 0 rfl .mv ?_
       refine .q 1 rfl .mv ?_
       refine .q 2 rfl (.it (zz:=leq_t (by omega))) ?_
       refine .q 3 rfl .mv ?_
       refine .q 4 rfl .mv ?_
       refine .q 5 rfl .mv ?_
       refine .q 6 rfl .ia ?_
       refine .q 7 rfl (.ld 0) ?_
       refine .q 8 rfl .mv ?_
       refine .q 9 rfl .mv ?_
       refine .q 10 rfl .ia ?_
       refine .q 11 rfl (.ld 0) ?_
       refine .z 12 rfl (OpV.takeCall rfl rfl rfl rfl (fun H hs=> .f ca182 rfl (CallT.is (.bool false) (by rewrite [decide_eq_false c2];rfl) (Less_c M H (at0 u s) (at0 u a))))) ?_
       refine .q 13 rfl .pk ?_
       refine Ta.done (by kernel_rfl) ?_
       refine .ff rfl (.exit rfl ?_)
       exact Tc.db (fin [(0,.slice (some ⟨sb,0,none⟩) n cap),(1,.int .i64 (a:Nat)),(10,.int .i64 (s:Nat)),(11,.int .i64 (b-1:Nat))] [(sb,true,.cells ⟨intsL u++jj⟩ 3 (0,0))] ⟨s,q1,q2,fun _=> c2,⟨rfl,rfl,rfl,rfl,trivial⟩,rfl⟩)
   · refine .seq (.seq ?_)
     refine Tc.dr [] [] mixed rfl ?_
     refine .q 0 rfl .mv ?_
     refine .q 1 rfl .mv ?_
     refine .q 2 rfl (.it (zz:=leq_f (by omega))) ?_
     refine .q 3 rfl .mv ?_
     refine Ta.ps 4 (by kernel_rfl) rfl rfl rfl (by decide) rfl rfl ?_
     refine Ta.ps 5 (by kernel_rfl) rfl rfl rfl (by decide) rfl rfl ?_
     refine Ta.ps 6 (by kernel_rfl) rfl rfl rfl (by decide) rfl rfl ?_
     refine Ta.ps 7 (by kernel_rfl) rfl rfl rfl (by decide) rfl rfl ?_
     refine Ta.ps 8 (by kernel_rfl) rfl rfl rfl (by decide) rfl rfl ?_
     refine Ta.ps 9 (by kernel_rfl) rfl rfl rfl (by decide) rfl rfl ?_
     refine Ta.ps 10 (by kernel_rfl) rfl rfl rfl (by decide) rfl rfl ?_
     refine Ta.ps 11 (by kernel_rfl) rfl rfl rfl (by decide) rfl rfl ?_
     refine Ta.ps 12 (by kernel_rfl) rfl rfl rfl (by decide) rfl rfl ?_
     refine .q 13 rfl .pk ?_
     refine Ta.done (by kernel_rfl) ?_
     refine .ff rfl (.exit rfl ?_)
     exact Tc.db (fin [(0,.slice (some ⟨sb,0,none⟩) n cap),(1,.int .i64 (a:Nat)),(10,.int .i64 (s:Nat)),(11,.int .i64 (b-1:Nat))] [(sb,true,.cells ⟨intsL u++jj⟩ 3 (0,0))] ⟨s,q1,q2,fun h=> absurd h c1,⟨rfl,rfl,rfl,rfl,trivial⟩,rfl⟩)
end
end Go.Proofs.YtpdaenfglbgfkaaGreatDoor
end
section
namespace Go.Proofs.YtpdaenfglbgfkaaGreatDoor
open Go.RL
set_option maxRecDepth 10000
set_option maxHeartbeats 8000000
theorem adj_srt {a b:Nat}{l:List Int}(h:∀k,a<k→k<b→at0 l (k-1)≤at0 l k):Srt a b l:=fun p q h1 h2 h3=> by
 induction q using Nat.strongRecOn with
 | ind q ih=>
   by_cases e:p=q-1
   · rw[e];exact h q (by omega) h3
   · exact Int.le_trans (ih (q-1) (by omega) (by omega) (by omega)) (h q (by omega) h3)
section
variable(M:Md Tryz.prog)(H:View)
theorem partial_c(sb:Nat)(f:Bool)(l:List Int)(jj:List Value)(n cap a b:Nat)(hn:n=l.length)(hb:b≤n)(h1000:n≤1000)(hab:a<b)(h50:b<a+50)(hS:H sb=some (f,.cells ⟨intsL l++jj⟩ 3 (0,0))):
   CallT M 181 #[.slice (some ⟨sb,0,none⟩) n cap,.int .i64 (a:Nat),.int .i64 (b:Nat)] H (fun v H'=> H.le H'∧∃t:Bool,v=.bool t∧(t=true→Srt a b l)∧∀y∈([]:Bl),H' y.1=some y.2∧H y.1=none):=by
 refine CallT.enter (vs:= [.slice (some ⟨sb,0,none⟩) n cap,.int .i64 (a:Nat),.int .i64 (b:Nat)]) Tryz.func181 rfl Tryz.ntmps181 (Nat.le_of_ble_eq_true rfl) (SymSt.nil _) fun St c cs hK=> ?_
 refine .sr ?_
 refine .g ?_
 refine .done (.sr ?_)
 refine .m ?_
 refine .i ?_ (z:=add_in (by omega) (by omega))
 refine .g ?_
 refine .done (.seq (.sr ?_))
 refine .g ?_
 refine .done (.block (.loop (.seq (.sr ?_))))
 refine .m ?_
 refine .i ?_ (z:=lss_t (by omega))
 refine .done (.tt rfl (.skip (.seq (.block (.seq (.block ?_))))))
 refine Tc.db (Tc.loopInv (σ:= { i:Nat//a+1≤i∧i≤b∧∀k,a<k→k<i→at0 l (k-1)≤at0 l k }) (fun i=> ([(0,.slice (some ⟨sb,0,none⟩) n cap),(1,.int .i64 (a:Nat)),(2,.int .i64 (b:Nat)),(7,.int .i64 (i.1:Nat)),(8,.int .i64 0)],[])) (fun i=> b-i.1) ?_ ⟨a+1,Nat.le_refl _,by omega,fun k h1 h2=> by omega⟩)
 rintro⟨i,g1,g2,g3⟩ ih
 show Tc M St _ _ _ _ [(0,.slice (some ⟨sb,0,none⟩) n cap),(1,.int .i64 (a:Nat)),(2,.int .i64 (b:Nat)),(7,.int .i64 (i:Nat)),(8,.int .i64 0)] [] _ _
 by_cases c1:i<b
 · have e1:((i:Nat):Int)-1=((i-1:Nat):Int):=by omega
   have k1:=cells_ld (m:=l) (j:=jj) (k:=(i:Nat)) (p:=i) rfl (by omega)
   have k2:=cells_ld (m:=l) (j:=jj) (k:=(i:Nat)-1) (p:=i-1) e1 (by omega)
   by_cases c2:at0 l i<at0 l (i-1)
   · refine .seq (.seq ?_)
     refine Tc.dr [] [] mixed rfl ?_
     refine .q 0 rfl .mv ?_
     refine .q 1 rfl .mv ?_
     refine .q 2 rfl (.it (zz:=lss_t (by omega))) ?_
     refine .q 3 rfl .mv ?_
     refine .q 4 rfl .mv ?_
     refine .q 5 rfl .mv ?_
     refine .q 6 rfl .ia ?_
     refine .q 7 rfl .l0 ?_
     refine .q 8 rfl .mv ?_
     refine .q 9 rfl .mv ?_
     refine .q 10 rfl (.it (zz:=sub_in (by omega) (by omega))) ?_
     refine .q 11 rfl .ia ?_
     refine .q 12 rfl .l0 ?_
     refine .z 13 rfl (OpV.takeCall rfl rfl rfl rfl (fun H hs=> .f ca182 rfl (CallT.is (.bool true) (by rewrite [decide_eq_true c2];rfl) (Less_c M H (at0 l i) (at0 l (i-1)))))) ?_
     refine .q 14 rfl .nt ?_
     refine .q 15 rfl .pk ?_
     refine Ta.done (by kernel_rfl) ?_
     refine .ff rfl (.exit rfl (.seq (.sr ?_)))
     refine .m ?_
     refine .m ?_
     refine .i ?_ (z:=eql_f (by omega))
     refine .done (.ff rfl (.skip (.seq (.sr ?_))))
     refine .m ?_
     refine .m ?_
     refine .i ?_ (z:=sub_in (by omega) (by omega))
     refine .i ?_ (z:=lss_t (by omega))
     refine .done (.tt rfl (.sr ?_))
     refine .g ?_
     refine .done ?_
     refine .rt hK Tryz.func181 Tryz.results181 [_] ?_
     exact fun H' hs=> ⟨hs.base,false,rfl,fun h=> (Bool.false_ne_true h).elim,by simp⟩
   · refine .seq (.seq ?_)
     refine Tc.dr [] [] mixed rfl ?_
     refine .q 0 rfl .mv ?_
     refine .q 1 rfl .mv ?_
     refine .q 2 rfl (.it (zz:=lss_t (by omega))) ?_
     refine .q 3 rfl .mv ?_
     refine .q 4 rfl .mv ?_
     refine .q 5 rfl .mv ?_
     refine .q 6 rfl .ia ?_
     refine .q 7 rfl .l0 ?_
     refine .q 8 rfl .mv ?_
     refine .q 9 rfl .mv ?_
     refine .q 10 rfl (.it (zz:=sub_in (by omega) (by omega))) ?_
     refine .q 11 rfl .ia ?_
     refine .q 12 rfl .l0 ?_
     refine .z 13 rfl (OpV.takeCall rfl rfl rfl rfl (fun H hs=> .f ca182 rfl (CallT.is (.bool false) (by rewrite [decide_eq_false c2];rfl) (Less_c M H (at0 l i) (at0 l (i-1)))))) ?_
     refine .q 14 rfl .nt ?_
     refine .q 15 rfl .pk ?_
     refine Ta.done (by kernel_rfl) ?_
     refine .tt rfl (.skip (.block (.r ?_)))
     refine .m ?_
     refine .i ?_ (z:=add_in (by omega) (by omega))
     refine .g ?_
     refine .done (.inBlock ?_)
     exact Tc.db (ih ⟨i+1,by omega,by omega,fun k h1 h2=> by
       by_cases e:k=i
       · rw[e];omega
       · exact g3 k h1 (by omega)⟩ (by simp only;omega))
 · refine .seq (.seq ?_)
   refine Tc.dr [] [] mixed rfl ?_
   refine .q 0 rfl .mv ?_
   refine .q 1 rfl .mv ?_
   refine .q 2 rfl (.it (zz:=lss_f (by omega))) ?_
   refine .q 3 rfl .mv ?_
   refine Ta.ps 4 (by kernel_rfl) rfl rfl rfl (by decide) rfl rfl ?_
   refine Ta.ps 5 (by kernel_rfl) rfl rfl rfl (by decide) rfl rfl ?_
   refine Ta.ps 6 (by kernel_rfl) rfl rfl rfl (by decide) rfl rfl ?_
   refine Ta.ps 7 (by kernel_rfl) rfl rfl rfl (by decide) rfl rfl ?_
   refine Ta.ps 8 (by kernel_rfl) rfl rfl rfl (by decide) rfl rfl ?_
   refine Ta.ps 9 (by kernel_rfl) rfl rfl rfl (by decide) rfl rfl ?_
   refine Ta.ps 10 (by kernel_rfl) rfl rfl rfl (by decide) rfl rfl ?_
   refine Ta.ps 11 (by kernel_rfl) rfl rfl rfl (by decide) rfl rfl ?_
   refine Ta.ps 12 (by kernel_rfl) rfl rfl rfl (by decide) rfl rfl ?_
   refine Ta.ps 13 (by kernel_rfl) rfl rfl rfl (by decide) rfl rfl ?_
   refine Ta.ps 14 (by kernel_rfl) rfl rfl rfl (by decide) rfl rfl ?_
   refine .q 15 rfl .pk ?_
   refine Ta.done (by kernel_rfl) ?_
   refine .ff rfl (.exit rfl (.seq (.sr ?_)))
   refine .m ?_
   refine .m ?_
   refine .i ?_ (z:=eql_t (by omega))
   refine .done (.tt rfl (.sr ?_))
   refine .g ?_
   refine .done ?_
   refine .rt hK Tryz.func181 Tryz.results181 [_] ?_
   exact fun H' hs=> ⟨hs.base,true,rfl,fun _=> adj_srt fun k h1 h2=> g3 k h1 (by omega),by simp⟩
end
end Go.Proofs.YtpdaenfglbgfkaaGreatDoor
end
section
namespace Go.Proofs.YtpdaenfglbgfkaaGreatDoor
open Go.RL
set_option maxRecDepth 10000
set_option maxHeartbeats 8000000
def bl(x:Nat):Nat:=if x=0 then 0 else Nat.log2 x+1
theorem bl_u8:∀x:Nat,x<64→(UInt8.ofNat (bl x)).toNat=bl x∧bl x≤6∧x<2 ^ bl x∧2 ^ bl x≤2*x+1:=by decide +kernel
theorem u8_wrap:∀x:Nat,x<64→IntKind.u8.wrap (x:Int)=(x:Int):=by decide +kernel
section
variable(M:Md Tryz.prog)(H:View)
theorem Len64_c(x:Nat)(hx:x<64):CallT M 186 #[.int .u64 (x:Nat)] H (fun v H'=> H.le H'∧v=.int .i64 (bl x:Nat)):=by
 obtain⟨b1,b2,_,_⟩:=bl_u8 x hx
 have hw:=u8_wrap x hx
 have hw2:IntKind.i64.wrap (((UInt8.ofNat (bl x)).toNat:Nat):Int)=((bl x:Nat):Int):=by rw[b1];exact wrap64 (by omega) (by omega)
 have hadd:intBin .add .i64 0 ((bl x:Nat):Int)=some (.int .i64 ((bl x:Nat):Int)):=by rw[add_in (by omega) (by omega),Int.zero_add]
 refine CallT.enter (vs:= [.int .u64 (x:Nat)]) Tryz.func186 rfl Tryz.ntmps186 (Nat.le_of_ble_eq_true rfl) (SymSt.nil _) fun St c cs hK=> ?_
 refine .sr ?_
 refine .g ?_
 refine .done (.seq (.sr ?_))
 refine .m ?_
 refine .i ?_ (z:=geq_f (by omega))
 refine .done (.ff rfl (.skip (.seq (.sr ?_))))
 refine .m ?_
 refine .i ?_ (z:=geq_f (by omega))
 refine .done (.ff rfl (.skip (.seq (.sr ?_))))
 refine .m ?_
 refine .i ?_ (z:=geq_f (by omega))
 refine .done (.ff rfl (.skip (.sr ?_)))
 refine .m ?_
 refine .m ?_
 refine .x .cv ?_
 refine .x (OpV.indexStr (c:=UInt8.ofNat (bl x)) rfl rfl rfl un_9 (by omega) (by
   rw[Int.toNat_natCast]
   exact(fun(s:ByteArray) (h:∀y:Nat,y<64→s[y]? =some (UInt8.ofNat (bl y)))=> h x hx) _ (by decide +kernel))) ?_
 refine .x (OpV.convE (E:=en) rfl rfl rfl rfl rfl rfl hw2) ?_
 refine .i ?_ (z:=hadd)
 refine .g ?_
 refine .done ?_
 refine .rt hK Tryz.func186 Tryz.results186 [_] ?_
 exact fun H' hs=> ⟨hs.base,rfl⟩
theorem Len_c(x:Nat)(hx:x<64):CallT M 149 #[.int .u64 (x:Nat)] H (fun v H'=> H.le H'∧v=.int .i64 (bl x:Nat)):=by
 refine CallT.enter (vs:= [.int .u64 (x:Nat)]) Tryz.func149 rfl Tryz.ntmps149 (Nat.le_of_ble_eq_true rfl) (SymSt.nil _) fun St c cs hK=> ?_
 refine .sr ?_
 refine .g ?_
 refine .done (.seq (.ff rfl (.skip (.sr ?_))))
 refine .m ?_
 refine .c rfl rfl rfl rfl (fun H hs=> .f ca186 rfl (Len64_c M H x hx)) ?_
 refine .g ?_
 refine .done ?_
 refine .rt hK Tryz.func149 Tryz.results149 [_] ?_
 exact fun H' hs=> ⟨hs.base,rfl⟩
end
end Go.Proofs.YtpdaenfglbgfkaaGreatDoor
end
section
namespace Go.Proofs.YtpdaenfglbgfkaaGreatDoor
open Go.RL
set_option maxRecDepth 10000
set_option maxHeartbeats 8000000
def NextQ(H:View)(cb:Nat)(v:Value)(H':View):Prop:=
 (∀b x,b≠cb→H b=some x→H' b=some x)∧∃z:Int,v=.int .u64 z∧H' cb=some (true,.cells ⟨[.int .u64 z]⟩ 252 (0,0))
section
variable(M:Md Tryz.prog)(H:View)
theorem Next_c(cb:Nat)(z:Int)(hC:H cb=some (true,.cells ⟨[.int .u64 z]⟩ 252 (0,0))):CallT M 213 #[.pointer (some ⟨cb,0,none⟩)] H (NextQ H cb):=by
 obtain⟨z1,h1⟩:∃z1,shiftV .shl .u64 z 13=some (.int .u64 z1):=⟨_,rfl⟩
 obtain⟨z2,h2⟩:∃z2,intBin .xor .u64 z z1=some (.int .u64 z2):=⟨_,rfl⟩
 obtain⟨z3,h3⟩:∃z3,shiftV .shr .u64 z2 7=some (.int .u64 z3):=⟨_,rfl⟩
 obtain⟨z4,h4⟩:∃z4,intBin .xor .u64 z2 z3=some (.int .u64 z4):=⟨_,rfl⟩
 obtain⟨z5,h5⟩:∃z5,shiftV .shl .u64 z4 17=some (.int .u64 z5):=⟨_,rfl⟩
 obtain⟨z6,h6⟩:∃z6,intBin .xor .u64 z4 z5=some (.int .u64 z6):=⟨_,rfl⟩
 refine CallT.enter (vs:= [.pointer (some ⟨cb,0,none⟩)]) Tryz.func213 rfl Tryz.ntmps213 (Nat.le_of_ble_eq_true rfl) (SymSt.pull hC) fun St c cs hK=> ?_
 refine .sr ?_
 refine .g ?_
 refine .done (.seq ?_)
 refine Tc.dr [9] [0] mixed rfl ?_
 refine .q 0 rfl .mv ?_
 refine .q 1 rfl .nk ?_
 refine .q 2 rfl (.ld 0) ?_
 refine .q 3 rfl .mv ?_
 refine .q 4 rfl .nk ?_
 refine .q 5 rfl (.ld 0) ?_
 refine .q 6 rfl .sf ?_
 refine .q 7 rfl (.it (zz:=(by assumption))) ?_
 refine .q 8 rfl .nk ?_
 refine Ta.each [9] (by kernel_rfl) rfl ⟨TaOp.mk rfl rfl rfl (.st 0 (zz:=⟨S2.mk (by exact List.nil_sublist _) (.inl (by kernel_rfl)),?_⟩)),trivial⟩
 refine Ta.done (by kernel_rfl) ?_
 refine .seq ?_
 refine Tc.dr [9] [0] mixed rfl ?_
 refine .q 0 rfl .mv ?_
 refine .q 1 rfl .nk ?_
 refine .q 2 rfl (.ld 0) ?_
 refine .q 3 rfl .mv ?_
 refine .q 4 rfl .nk ?_
 refine .q 5 rfl (.ld 0) ?_
 refine .q 6 rfl .sf ?_
 refine .q 7 rfl (.it (zz:=(by assumption))) ?_
 refine .q 8 rfl .nk ?_
 refine Ta.each [9] (by kernel_rfl) rfl ⟨TaOp.mk rfl rfl rfl (.st 0 (zz:=⟨S2.mk (by exact List.nil_sublist _) (.inl (by kernel_rfl)),?_⟩)),trivial⟩
 refine Ta.done (by kernel_rfl) ?_
 refine .seq ?_
 refine Tc.dr [9] [0] mixed rfl ?_
 refine .q 0 rfl .mv ?_
 refine .q 1 rfl .nk ?_
 refine .q 2 rfl (.ld 0) ?_
 refine .q 3 rfl .mv ?_
 refine .q 4 rfl .nk ?_
 refine .q 5 rfl (.ld 0) ?_
 refine .q 6 rfl .sf ?_
 refine .q 7 rfl (.it (zz:=(by assumption))) ?_
 refine .q 8 rfl .nk ?_
 refine Ta.each [9] (by kernel_rfl) rfl ⟨TaOp.mk rfl rfl rfl (.st 0 (zz:=⟨S2.mk (by exact List.nil_sublist _) (.inl (by kernel_rfl)),?_⟩)),trivial⟩
 refine Ta.done (by kernel_rfl) ?_
 refine .sr ?_
 refine .m ?_
 refine .x .nk ?_
 refine .x (.ld 0) ?_
 refine .g ?_
 refine .done ?_
 refine .rt hK Tryz.func213 Tryz.results213 [_] ?_
 exact fun H' hs=> ⟨fun b x hb hx=> hs.base b x (by rw[without_other hb];exact hx),z6,rfl,hs.get (i:=0) rfl⟩
theorem nextPow_c(x:Nat)(hx:x<64):CallT M 212 #[.int .i64 (x:Nat)] H (fun v H'=> H.le H'∧v=.int .u64 ((2 ^ bl x:Nat):Int)):=by
 have hw:IntKind.u64.wrap ((x:Nat):Int)=((x:Nat):Int):=(by decide +kernel:∀y:Nat,y<64→IntKind.u64.wrap (y:Int)=(y:Int)) x hx
 have hs:shiftV .shl .u64 1 ((bl x:Nat):Int)=some (.int .u64 ((2 ^ bl x:Nat):Int)):=by
   have h:=(by decide +kernel:∀y:Nat,y<64→IntKind.u64.wrap (1*2 ^ (min ((bl y:Nat):Int).toNat IntKind.u64.bits))=((2 ^ bl y:Nat):Int)) x hx
   show some (Value.int .u64 (IntKind.u64.wrap (1*2 ^ (min ((bl x:Nat):Int).toNat IntKind.u64.bits))))=_
   rw[h]
 refine CallT.enter (vs:= [.int .i64 (x:Nat)]) Tryz.func212 rfl Tryz.ntmps212 (Nat.le_of_ble_eq_true rfl) (SymSt.nil _) fun St c cs hK=> ?_
 refine .sr ?_
 refine .g ?_
 refine .done (.sr ?_)
 refine .m ?_
 refine .x .cv ?_
 refine .c rfl rfl rfl rfl (fun H hs=> .f ca149 rfl (Len_c M H x hx)) ?_
 refine .x .sf ?_
 refine .g ?_
 refine .done ?_
 refine .rt hK Tryz.func212 Tryz.results212 [_] ?_
 exact fun H' hs=> ⟨hs.base,rfl⟩
end
end Go.Proofs.YtpdaenfglbgfkaaGreatDoor
end
section
namespace Go.Proofs.YtpdaenfglbgfkaaGreatDoor
open Go.RL
set_option maxRecDepth 10000
set_option maxHeartbeats 8000000
theorem u64_small:∀y:Nat,y<128→IntKind.u64.wrap (y:Int)=(y:Int):=by decide +kernel
theorem bl_two:∀x:Nat,x<64→0<x→2 ^ bl x≤2*x:=by decide +kernel
theorem and_u64(z:Int)(m:Nat)(h:m<64):∃w:Nat,intBin .and .u64 z (m:Nat)=some (.int .u64 (w:Nat))∧w≤m:=by
 have h2:((BitVec.ofInt 64 z) &&& (BitVec.ofInt 64 (m:Int))).toNat≤m:=by
   rw[BitVec.toNat_and]
   refine Nat.le_trans Nat.and_le_right ?_
   rw[BitVec.toNat_ofInt]
   omega
 refine⟨((BitVec.ofInt 64 z) &&& (BitVec.ofInt 64 (m:Int))).toNat,?_,h2⟩
 show some (Value.int .u64 (IntKind.u64.wrap (((BitVec.ofInt 64 z) &&& (BitVec.ofInt 64 (m:Int))).toNat:Int)))=_
 rw[u64_small _ (by omega)]
theorem Or.rnd {M:Md Tryz.prog}{n:Nat}{H₀:View}{R:Rg}{L:Bl}{o:Oper}{K:Rg→Bl→Prop}{cl:Go.Call}{x:Operand}{fv:Value}{az:List Value}{d:Nat}(i:Nat){cb:Nat}{z:Int}
   (hop:o.op=.call cl) (hcl:cl.callee=.value x) (hx:evR R x=some fv) (has:evRs R cl.args.toList=some az) (hd:o.dst=some d) (hn:d<n) (hi:L[i]? =some (cb,true,.cells ⟨[.int .u64 z]⟩ 252 (0,0)))
   (hc:∀H,SymSt H₀ L H→FnT M fv az H (NextQ H cb)) (hk:∀z,K ((d,.int .u64 z)::R) (L.set i (cb,true,.cells ⟨[.int .u64 z]⟩ 252 (0,0)))):Or M n H₀ R L o K:=
 .callV hop hcl hx has (Q:=fun H v H'=> NextQ H cb v H') hc fun H v H' hs ⟨h1,z,h2,h3⟩=>
   ⟨_,_,hs.turn hi h1 h3,by rw[hd];exact⟨hn,by rw[h2]⟩,hk z⟩
section
variable(M:Md Tryz.prog)(H:View)
theorem break_c(sb:Nat)(l:List Int)(jj:List Value)(n cap a b:Nat)(hn:n=l.length)(hb:b≤n)(h1000:n≤1000)(h8:a+8≤b)(h50:b<a+50)(hS:H sb=some (true,.cells ⟨intsL l++jj⟩ 3 (0,0))):
   CallT M 178 #[.slice (some ⟨sb,0,none⟩) n cap,.int .i64 (a:Nat),.int .i64 (b:Nat)] H (SortQ H sb jj (fun v m=> v=.tuple ⟨[]⟩∧Turned a b l m)):=by
 obtain⟨m,hm⟩:∃m,m=b-a:=⟨_,rfl⟩
 obtain⟨w,hw⟩:∃w,w=m/4:=⟨_,rfl⟩
 obtain⟨_,_,b3,b4⟩:=bl_u8 m (by omega)
 obtain⟨P,hP⟩:∃P,2 ^ bl m=P:=⟨_,rfl⟩
 rw[hP] at b3 b4
 have b5:=bl_two m (by omega) (by omega)
 rw[hP] at b5
 have hbl:P≤64:=by
   have h:=(bl_u8 m (by omega)).2.1
   have h2:2 ^ bl m≤2 ^ 6:=Nat.pow_le_pow_right (by decide) h
   omega
 have e0:((b:Nat):Int)-((a:Nat):Int)=((m:Nat):Int):=by omega
 have hwr:IntKind.u64.wrap ((m:Nat):Int)=((m:Nat):Int):=u64_small m (by omega)
 have hq:intBin .quo .i64 ((m:Nat):Int) 4=some (.int .i64 ((w:Nat):Int)):=by
   rw[quo_in (by omega) (by omega) (by omega)]
   congr 2
   omega
 have e1:((a:Nat):Int)+((w:Nat):Int)*2-1=((a+w*2-1:Nat):Int):=by omega
 have hsub:intBin .sub .u64 ((P:Nat):Int) 1=some (.int .u64 ((P-1:Nat):Int)):=by
   have h:=u64_small (P-1) (by omega)
   have h2:((P:Nat):Int)-1=((P-1:Nat):Int):=by omega
   show some (Value.int .u64 (IntKind.u64.wrap (((P:Nat):Int)-1)))=_
   rw[h2,h]
 refine CallT.enter (vs:= [.slice (some ⟨sb,0,none⟩) n cap,.int .i64 (a:Nat),.int .i64 (b:Nat)]) Tryz.func178 rfl Tryz.ntmps178 (Nat.le_of_ble_eq_true rfl) (SymSt.pull hS) fun St c cs hK=> ?_
 refine .sr ?_
 refine .m ?_
 refine .m ?_
 refine .i ?_ (z:=sub_in (by omega) (by omega))
 refine .g ?_
 refine .done ?_
 rw[e0]
 refine .sr ?_
 refine .m ?_
 refine .i ?_ (z:=geq_t (by omega))
 refine .done (.tt rfl (.sr ?_))
 refine .m ?_
 refine .x .cv ?_
 refine .e (.al (zz:=fun b7=> ?_))
 refine .e (.st 0 (zz:=?_))
 refine .done (.sr ?_)
 refine .m ?_
 refine .c rfl rfl rfl rfl (fun H hs=> .f ca212 rfl (CallT.is (.int .u64 (P:Nat)) (by rewrite [hP];rfl) (nextPow_c M H m (by omega)))) ?_
 refine .g ?_
 refine .done (.sr ?_)
 refine .m ?_
 refine .m ?_
 refine .i ?_ (z:=by assumption)
 refine .i ?_ (z:=mul_in (by omega) (by omega))
 refine .i ?_ (z:=add_in (by omega) (by omega))
 refine .i ?_ (z:=sub_in (by omega) (by omega))
 refine .g ?_
 refine .done ?_
 rw[e1]
 refine .block ?_
 refine Tc.db (Tc.loopInv (σ:= { s:Nat×Int×List Int//a+w*2-1≤s.1∧s.1≤a+w*2+2∧Turned a b l s.2.2 }) (fun s=> ([(0,.slice (some ⟨sb,0,none⟩) n cap),(1,.int .i64 (a:Nat)),(6,.int .i64 (m:Nat)),(7,.pointer (some ⟨b7,0,none⟩)),(8,.int .u64 (P:Nat)),(9,.int .i64 (s.1.1:Nat))],[(b7,true,.cells ⟨[.int .u64 s.1.2.1]⟩ 252 (0,0)),(sb,true,.cells ⟨intsL s.1.2.2++jj⟩ 3 (0,0))])) (fun s=> a+w*2+2-s.1.1) ?_
   ⟨(a+w*2-1,m,l),Nat.le_refl _,by simp only;omega,Turned.refl ..⟩)
 rintro⟨⟨i,z0,u⟩,g1,g2,g3⟩ ih
 simp only at g1 g2 g3
 have hul:=g3.len
 show Tc M St _ _ _ _ [(0,.slice (some ⟨sb,0,none⟩) n cap),(1,.int .i64 (a:Nat)),(6,.int .i64 (m:Nat)),(7,.pointer (some ⟨b7,0,none⟩)),(8,.int .u64 (P:Nat)),(9,.int .i64 (i:Nat))] [(b7,true,.cells ⟨[.int .u64 z0]⟩ 252 (0,0)),(sb,true,.cells ⟨intsL u++jj⟩ 3 (0,0))] _ _
 by_cases c1:i≤a+w*2+1
 · refine .seq (.sr ?_)
   refine .m ?_
   refine .m ?_
   refine .m ?_
   refine .i ?_ (z:=by assumption)
   refine .i ?_ (z:=mul_in (by omega) (by omega))
   refine .i ?_ (z:=add_in (by omega) (by omega))
   refine .i ?_ (z:=add_in (by omega) (by omega))
   refine .i ?_ (z:=leq_t (by omega))
   refine .done (.tt rfl (.skip (.seq (.block (.sr ?_)))))
   refine .e (Or.rnd (z:=z0) 0 rfl rfl rfl rfl rfl (by decide) rfl (fun H hs=> .f ca213 rfl (Next_c M H b7 z0 (hs.get (i:=0) rfl))) (fun z=> ?_))
   obtain⟨x,hx,hxle⟩:=and_u64 z (P-1) (by omega)
   have hcv:IntKind.i64.wrap ((x:Nat):Int)=((x:Nat):Int):=wrap64 (by omega) (by omega)
   refine .m ?_
   refine .i ?_ (z:=hsub)
   refine .i ?_ (z:=hx)
   refine .x (OpV.convE (E:=en) rfl rfl rfl rfl rfl rfl hcv) ?_
   refine .g ?_
   refine .done (.seq (.seq ?_))
   by_cases c2:x<m
   · refine .r ?_
     refine .m ?_
     refine .m ?_
     refine .i ?_ (z:=geq_f (by omega))
     refine .done (.ff rfl (.skip ?_))
     have z1:=cells_ld (m:=u) (j:=jj) (k:=(i:Nat)) (p:=i) rfl (by omega)
     have z2:=cells_ld (m:=u) (j:=jj) (k:=(a:Nat)+(x:Nat)) (p:=a+x) (by omega) (by omega)
     have z3:=cells_st (m:=u) (j:=jj) (k:=(i:Nat)) (x:=at0 u (a+x)) (p:=i) rfl (by omega)
     have z4:=cells_st (m:=(u).set (i) (at0 u (a+x))) (j:=jj) (k:=(a:Nat)+(x:Nat)) (x:=at0 u (i)) (p:=a+x) (by omega) (by rw[List.length_set];omega)
     have z5:=cells_le (m:=u) (j:=jj) (k:=(i:Nat)) (p:=i) rfl (by omega)
     have z6:=cells_le (m:=(u).set (i) (at0 u (a+x))) (j:=jj) (k:=(a:Nat)+(x:Nat)) (p:=a+x) (by omega) (by rw[List.length_set];omega)
     refine Tc.dr [17,19] [1] mixed rfl ?_
     refine .q 0 rfl .mv ?_
     refine .q 1 rfl .mv ?_
     refine Ta.tkw 2 (by kernel_rfl) rfl rfl rfl (by decide) rfl rfl (OpV.take .mv) ?_
     refine Ta.tkw 3 (by kernel_rfl) rfl rfl rfl (by decide) rfl rfl (OpV.take .mv) ?_
     refine Ta.tkw 4 (by kernel_rfl) rfl rfl rfl (by decide) rfl rfl (OpV.take .mv) ?_
     refine Ta.tkw 5 (by kernel_rfl) rfl rfl rfl (by decide) rfl rfl (OpV.take (.it (zz:=add_in (by omega) (by omega)))) ?_
     refine .q 6 rfl .mv ?_
     refine .q 7 rfl .mv ?_
     refine .q 8 rfl .mv ?_
     refine .q 9 rfl (.it (zz:=add_in (by omega) (by omega))) ?_
     refine .q 10 rfl .ia ?_
     refine .q 11 rfl (.ld 1) ?_
     refine Ta.tkw 12 (by kernel_rfl) rfl rfl rfl (by decide) rfl rfl (OpV.take .mv) ?_
     refine Ta.tkw 13 (by kernel_rfl) rfl rfl rfl (by decide) rfl rfl (OpV.take .mv) ?_
     refine Ta.tkw 14 (by kernel_rfl) rfl rfl rfl (by decide) rfl rfl (OpV.take .ia) ?_
     refine .q 15 rfl (.ld 1) ?_
     refine .q 16 rfl .ia ?_
     refine Ta.each [17] (by kernel_rfl) rfl ⟨TaOp.mk rfl rfl rfl (.st 1 (zz:=⟨S2.mk (by exact List.sublist_append_left _ _) (.inl (by kernel_rfl)),?_⟩)),trivial⟩
     refine Ta.tkw 18 (by kernel_rfl) rfl rfl rfl (by decide) rfl rfl (OpV.take .ia) ?_
     refine Ta.each [19] (by kernel_rfl) rfl ⟨TaOp.mk rfl rfl rfl (.st 1 (zz:=⟨S2.mk (by exact List.sublist_append_left _ _) (.inl (by kernel_rfl)),?_⟩)),trivial⟩
     refine Ta.done (by kernel_rfl) ?_
     refine .inBlock (.r ?_)
     refine .m ?_
     refine .i ?_ (z:=add_in (by omega) (by omega))
     refine .g ?_
     refine .done ?_
     exact Tc.db (ih ⟨(i+1,z,swapL u i (a+x)),by simp only;omega,by simp only;omega,g3.trans (Turned.swap (by omega) (by omega) (by omega) (by omega))⟩ (by simp only;omega))
   · have e5:((x:Nat):Int)-((m:Nat):Int)=((x-m:Nat):Int):=by omega
     refine .r ?_
     refine .m ?_
     refine .m ?_
     refine .i ?_ (z:=geq_t (by omega))
     refine .done (.tt rfl (.r ?_))
     refine .m ?_
     refine .m ?_
     refine .i ?_ (z:=sub_in (by omega) (by omega))
     refine .g ?_
     refine .done ?_
     rw[e5]
     have z1:=cells_ld (m:=u) (j:=jj) (k:=(i:Nat)) (p:=i) rfl (by omega)
     have z2:=cells_ld (m:=u) (j:=jj) (k:=(a:Nat)+((x-m:Nat):Int)) (p:=a+(x-m)) (by omega) (by omega)
     have z3:=cells_st (m:=u) (j:=jj) (k:=(i:Nat)) (x:=at0 u (a+(x-m))) (p:=i) rfl (by omega)
     have z4:=cells_st (m:=(u).set (i) (at0 u (a+(x-m)))) (j:=jj) (k:=(a:Nat)+((x-m:Nat):Int)) (x:=at0 u (i)) (p:=a+(x-m)) (by omega) (by rw[List.length_set];omega)
     have z5:=cells_le (m:=u) (j:=jj) (k:=(i:Nat)) (p:=i) rfl (by omega)
     have z6:=cells_le (m:=(u).set (i) (at0 u (a+(x-m)))) (j:=jj) (k:=(a:Nat)+((x-m:Nat):Int)) (p:=a+(x-m)) (by omega) (by rw[List.length_set];omega)
     refine Tc.dr [17,19] [1] mixed rfl ?_
     refine .q 0 rfl .mv ?_
     refine .q 1 rfl .mv ?_
     refine Ta.tkw 2 (by kernel_rfl) rfl rfl rfl (by decide) rfl rfl (OpV.take .mv) ?_
     refine Ta.tkw 3 (by kernel_rfl) rfl rfl rfl (by decide) rfl rfl (OpV.take .mv) ?_
     refine Ta.tkw 4 (by kernel_rfl) rfl rfl rfl (by decide) rfl rfl (OpV.take .mv) ?_
     refine Ta.tkw 5 (by kernel_rfl) rfl rfl rfl (by decide) rfl rfl (OpV.take (.it (zz:=add_in (by omega) (by omega)))) ?_
     refine .q 6 rfl .mv ?_
     refine .q 7 rfl .mv ?_
     refine .q 8 rfl .mv ?_
     refine .q 9 rfl (.it (zz:=add_in (by omega) (by omega))) ?_
     refine .q 10 rfl .ia ?_
     refine .q 11 rfl (.ld 1) ?_
     refine Ta.tkw 12 (by kernel_rfl) rfl rfl rfl (by decide) rfl rfl (OpV.take .mv) ?_
     refine Ta.tkw 13 (by kernel_rfl) rfl rfl rfl (by decide) rfl rfl (OpV.take .mv) ?_
     refine Ta.tkw 14 (by kernel_rfl) rfl rfl rfl (by decide) rfl rfl (OpV.take .ia) ?_
     refine .q 15 rfl (.ld 1) ?_
     refine .q 16 rfl .ia ?_
     refine Ta.each [17] (by kernel_rfl) rfl ⟨TaOp.mk rfl rfl rfl (.st 1 (zz:=⟨S2.mk (by exact List.sublist_append_left _ _) (.inl (by kernel_rfl)),?_⟩)),trivial⟩
     refine Ta.tkw 18 (by kernel_rfl) rfl rfl rfl (by decide) rfl rfl (OpV.take .ia) ?_
     refine Ta.each [19] (by kernel_rfl) rfl ⟨TaOp.mk rfl rfl rfl (.st 1 (zz:=⟨S2.mk (by exact List.sublist_append_left _ _) (.inl (by kernel_rfl)),?_⟩)),trivial⟩
     refine Ta.done (by kernel_rfl) ?_
     refine .inBlock (.r ?_)
     refine .m ?_
     refine .i ?_ (z:=add_in (by omega) (by omega))
     refine .g ?_
     refine .done ?_
     exact Tc.db (ih ⟨(i+1,z,swapL u i (a+(x-m))),by simp only;omega,by simp only;omega,g3.trans (Turned.swap (by omega) (by omega) (by omega) (by omega))⟩ (by simp only;omega))
 · refine .seq (.sr ?_)
   refine .m ?_
   refine .m ?_
   refine .m ?_
   refine .i ?_ (z:=by assumption)
   refine .i ?_ (z:=mul_in (by omega) (by omega))
   refine .i ?_ (z:=add_in (by omega) (by omega))
   refine .i ?_ (z:=add_in (by omega) (by omega))
   refine .i ?_ (z:=leq_f (by omega))
   refine .done (.ff rfl (.exit rfl ?_))
   refine Tc.overN (E:=en) hK Tryz.func178 Tryz.results178 (vs:= []) (by exact trivial) ?_
   exact fun H' hs=> SortQ.of hs (i:=1) rfl ⟨rfl,g3⟩
end
end Go.Proofs.YtpdaenfglbgfkaaGreatDoor
end
section
namespace Go.Proofs.YtpdaenfglbgfkaaGreatDoor
open Go.RL
set_option maxRecDepth 10000
def Diff(l:List Int):Prop:=∀x,l.count x≤1
theorem Turned.diff {a b:Nat}{l m:List Int}(h:Turned a b l m)(hd:Diff l):Diff m:=fun x=> by rw[h.cnt];exact hd x
theorem Diff.ne {l:List Int}(h:Diff l){i k:Nat}(hik:i<k)(hk:k<l.length):at0 l i≠at0 l k:=fun e=> by
 have h1:=h (at0 l k)
 have h2:l=l.take k++l.drop k:=(List.take_append_drop k l).symm
 have h3:=congrArg (List.count (at0 l k)) h2
 rw[List.count_append] at h3
 have h4:at0 l k∈l.take k:=by
   rw[←e,List.mem_iff_getElem?]
   exact⟨i,by rw[List.getElem?_take_of_lt hik];exact at0_some (by omega)⟩
 have h5:at0 l k∈l.drop k:=by
   rw[List.mem_iff_getElem?]
   exact⟨0,by rw[List.getElem?_drop,Nat.add_zero];exact at0_some hk⟩
 have h6:=List.count_pos_iff.2 h4
 have h7:=List.count_pos_iff.2 h5
 omega
theorem Part.sorted2 {a b j:Nat}{u m w:List Int}(h:Part a b j u)(hl:b≤u.length)(h1:Turned (j+1) b u m)(s1:Srt (j+1) b m)(h2:Turned a j m w)(s2:Srt a j w):Turned a b u w∧Srt a b w:=by
 have hj:=h.aj
 have hb:=h.jb
 have hml:=h1.len
 refine⟨(h1.wide (by omega) (Nat.le_refl _)).trans (h2.wide (Nat.le_refl _) (by omega)),fun p q g1 g2 g3=> ?_⟩
 have ej:at0 w j=at0 u j:=by rw[h2.out j (.inr (Nat.le_refl _)),h1.out j (.inl (by omega))]
 have lo:∀k,a≤k→k<j→at0 w k≤at0 u j:=fun k c1 c2=>
   h2.all (by omega) (P:=fun x=> x≤at0 u j) (fun k c3 c4=> by rw[h1.out k (.inl (by omega))];exact Int.le_of_lt (h.lo k c3 c4)) k c1 c2
 have hi:∀k,j<k→k<b→at0 u j≤at0 w k:=fun k c1 c2=> by
   rw[h2.out k (.inr (by omega))]
   exact h1.all (by omega) (P:=fun x=> at0 u j≤x) (fun k c3 c4=> h.hi k (by omega) c4) k (by omega) c2
 by_cases c1:q<j
 · exact s2 p q g1 g2 c1
 · by_cases c2:q=j
   · rw[c2,ej]
     exact lo p g1 (by omega)
   · by_cases c3:p<j
     · exact Int.le_trans (lo p g1 c3) (hi q (by omega) g3)
     · by_cases c4:p=j
       · rw[c4,ej]
         exact hi q (by omega) g3
       · rw[h2.out p (.inr (by omega)),h2.out q (.inr (by omega))]
         exact s1 p q (by omega) g2 g3
end Go.Proofs.YtpdaenfglbgfkaaGreatDoor
end
section
namespace Go.Proofs.YtpdaenfglbgfkaaGreatDoor
open Go.RL
set_option maxRecDepth 10000
set_option maxHeartbeats 16000000
def Ahead(a b:Nat)(u:List Int):Prop:=a=0∨∀i,a≤i→i<b→at0 u (a-1)<at0 u i
def Glue(l:List Int)(a b a' b':Nat)(u:List Int):Prop:=∀m,Turned a' b' u m→Srt a' b' m→Turned a b l m∧Srt a b m
theorem Glue.turn {l u w:List Int}{a b a' b':Nat}(h:Glue l a b a' b' u)(k:Turned a' b' u w):Glue l a b a' b' w:=fun m h1 h2=> h m (k.trans h1) h2
theorem Ahead.turn {a b:Nat}{u w:List Int}(h:Ahead a b u)(k:Turned a b u w)(hb:b≤u.length)(_:a≤b):Ahead a b w:=by
 rcases h with h|h
 · exact .inl h
 · by_cases h0:a=0
   · exact .inl h0
   · refine .inr fun i h1 h2=> ?_
     rw[k.out (a-1) (.inl (by omega))]
     exact k.all hb (P:=fun x=> at0 u (a-1)<x) h i h1 h2
theorem Ahead.left {a b c:Nat}{u:List Int}(h:Ahead a b u)(k:c≤b):Ahead a c u:=by
 rcases h with h|h
 · exact .inl h
 · exact .inr fun i h1 h2=> h i h1 (by omega)
theorem Ahead.keep {a c b:Nat}{u w:List Int}(h:Ahead a c u)(k:Turned (c+1) b u w):Ahead a c w:=by
 rcases h with h|h
 · exact .inl h
 · refine .inr fun i h1 h2=> ?_
   rw[k.out (a-1) (.inl (by omega)),k.out i (.inl (by omega))]
   exact h i h1 h2
theorem Glue.right {l u x:List Int}{a b a' b' c:Nat}(h:Glue l a b a' b' u)(k:Part a' b' c u)(hl:b'≤u.length)(h1:Turned a' c u x)(s1:Srt a' c x):Glue l a b (c+1) b' x:=fun m h2 s2=> by
 obtain⟨g1,g2⟩:=k.sorted hl h1 s1 h2 s2
 exact h m g1 g2
theorem Glue.left {l u x:List Int}{a b a' b' c:Nat}(h:Glue l a b a' b' u)(k:Part a' b' c u)(hl:b'≤u.length)(h1:Turned (c+1) b' u x)(s1:Srt (c+1) b' x):Glue l a b a' c x:=fun m h2 s2=> by
 obtain⟨g1,g2⟩:=k.sorted2 hl h1 s1 h2 s2
 exact h m g1 g2
theorem Part.ahead {a b c:Nat}{u x:List Int}(k:Part a b c u)(h1:Turned a c u x)(hd:Diff x)(hl:b≤x.length):Ahead (c+1) b x:=.inr fun i g1 g2=> by
 have e:c+1-1=c:=by omega
 rw[e]
 have h2:=k.hi i (by omega) g2
 have h3:=hd.ne (i:=c) (k:=i) (by omega) (by omega)
 rw[←h1.out c (.inr (Nat.le_refl _)),←h1.out i (.inr (by omega))] at h2
 omega
section
variable(M:Md Tryz.prog)
theorem pdq_c (sb:Nat)(jj:List Value)(n cap:Nat)(h40:n≤40):∀(d:Nat) (H:View) (l:List Int) (a b lim:Nat),b-a<d→n=l.length→a≤b→b≤n→lim≤100→Diff l→Ahead a b l→H sb=some (true,.cells ⟨intsL l++jj⟩ 3 (0,0))→
   CallT M 148 #[.slice (some ⟨sb,0,none⟩) n cap,.int .i64 (a:Nat),.int .i64 (b:Nat),.int .i64 (lim:Nat)] H (SortQ H sb jj (fun v m=> v=.tuple ⟨[]⟩∧Turned a b l m∧Srt a b m)):=by
 intro d
 induction d with
 | zero=> intro H l a b lim hd;omega
 | succ d ihd=>
 intro H l a b lim hd hn hab hb hlim hdf hah hS
 refine CallT.enter (vs:= [.slice (some ⟨sb,0,none⟩) n cap,.int .i64 (a:Nat),.int .i64 (b:Nat),.int .i64 (lim:Nat)]) Tryz.func148 rfl Tryz.ntmps148 (Nat.le_of_ble_eq_true rfl) (SymSt.pull hS) fun St c cs hK=> ?_
 refine .sr ?_
 refine .g ?_
 refine .done (.sr ?_)
 refine .g ?_
 refine .done (.block ?_)
 refine Tc.db (Tc.loopInv (σ:= { s:Nat×Nat×Nat×Bool×Bool×List Int//a≤s.1∧s.1≤s.2.1∧s.2.1≤b∧s.2.2.1≤lim∧Turned a b l s.2.2.2.2.2∧Glue l a b s.1 s.2.1 s.2.2.2.2.2∧Ahead s.1 s.2.1 s.2.2.2.2.2 }) (fun s=> ([(0,.slice (some ⟨sb,0,none⟩) n cap),(1,.int .i64 (s.1.1:Nat)),(2,.int .i64 (s.1.2.1:Nat)),(3,.int .i64 (s.1.2.2.1:Nat)),(8,.bool s.1.2.2.2.1),(9,.bool s.1.2.2.2.2.1)],[(sb,true,.cells ⟨intsL s.1.2.2.2.2.2++jj⟩ 3 (0,0))])) (fun s=> s.1.2.1-s.1.1) ?_
   ⟨(a,b,lim,true,true,l),Nat.le_refl _,hab,Nat.le_refl _,Nat.le_refl _,Turned.refl ..,fun m h1 h2=> ⟨h1,h2⟩,hah⟩)
 rintro⟨⟨a',b',lm,wb,wp,u⟩,g1,g2,g3,g4,g5,g6,g7⟩ ih
 simp only at g1 g2 g3 g4 g5 g6 g7
 have hul:=g5.len
 have hdu:=g5.diff hdf
 obtain⟨m,hm⟩:∃m,m=b'-a':=⟨_,rfl⟩
 have e0:((b':Nat):Int)-((a':Nat):Int)=((m:Nat):Int):=by omega
 show Tc M St _ _ _ _ [(0,.slice (some ⟨sb,0,none⟩) n cap),(1,.int .i64 (a':Nat)),(2,.int .i64 (b':Nat)),(3,.int .i64 (lm:Nat)),(8,.bool wb),(9,.bool wp)] [(sb,true,.cells ⟨intsL u++jj⟩ 3 (0,0))] _ _
 refine .block (.sr ?_)
 refine .m ?_
 refine .m ?_
 refine .i ?_ (z:=sub_in (by omega) (by omega))
 refine .g ?_
 refine .done ?_
 rw[e0]
 refine .seq (.seq ?_)
 by_cases c1:m≤12
 · refine .r ?_
   refine .m ?_
   refine .i ?_ (z:=leq_t (by omega))
   refine .done (.tt rfl (.sr ?_))
   refine .m ?_
   refine .m ?_
   refine .m ?_
   refine .e (Or.sorts (l:=u) 0 (fun v m=> v=.tuple ⟨[]⟩∧Turned a' b' u m∧Srt a' b' m) rfl rfl rfl rfl rfl (by decide) rfl (fun H hs=> .f ca176 rfl (insertion_c M H sb u jj n cap a' b' (by omega) (by omega) (by omega) (by omega) (hs.get (i:=0) rfl))) (fun v w ⟨_,wt,ws⟩=> ?_))
   refine .done ?_
   refine Tc.retN (E:=en) hK Tryz.func148 Tryz.results148 (vs:= []) (by exact trivial) ?_
   exact fun H' hs=> SortQ.of hs (i:=0) rfl ⟨rfl,g6 w wt ws⟩
 · refine .r ?_
   refine .m ?_
   refine .i ?_ (z:=leq_f (by omega))
   refine .done (.ff rfl (.skip (.seq (.seq ?_))))
   by_cases c2:lm=0
   · refine .r ?_
     refine .m ?_
     refine .i ?_ (z:=eql_t (by omega))
     refine .done (.tt rfl (.sr ?_))
     refine .m ?_
     refine .m ?_
     refine .m ?_
     refine .e (Or.sorts (l:=u) 0 (fun v m=> v=.tuple ⟨[]⟩∧Turned a' b' u m∧Srt a' b' m) rfl rfl rfl rfl rfl (by decide) rfl (fun H hs=> .f ca177 rfl (heapSort_c M H sb u jj n cap a' b' (by omega) (by omega) (by omega) (by omega) (hs.get (i:=0) rfl))) (fun v w ⟨_,wt,ws⟩=> ?_))
     refine .done ?_
     refine Tc.retN (E:=en) hK Tryz.func148 Tryz.results148 (vs:= []) (by exact trivial) ?_
     exact fun H' hs=> SortQ.of hs (i:=0) rfl ⟨rfl,g6 w wt ws⟩
   · refine .r ?_
     refine .m ?_
     refine .i ?_ (z:=eql_f (by omega))
     refine .done (.ff rfl (.skip (.seq ?_)))
     refine Tc.via (fun R' L'=> ∃(lm1:Nat) (x:List Int),lm1≤lm∧Turned a' b' u x∧AllIn [(0,.slice (some ⟨sb,0,none⟩) n cap),(1,.int .i64 (a':Nat)),(2,.int .i64 (b':Nat)),(3,.int .i64 (lm1:Nat)),(8,.bool wb),(9,.bool wp),(10,.int .i64 (m:Nat))] R'∧L'= [(sb,true,.cells ⟨intsL x++jj⟩ 3 (0,0))]) ?_ (fun fin=> ?_)
     · rintro R' _ ⟨lm1,x,o1,o2,hRR,rfl⟩
       refine Tc.dropB ?_ hRR (List.Sublist.refl _)
       have hxl:=o2.len
       refine .sr ?_
       refine .m ?_
       refine .m ?_
       refine .m ?_
       refine .e (Or.callNew pivV (fun _=> []) (fun s:Nat×Nat=> a'≤s.1∧s.1<b'∧s.2≤2) rfl rfl rfl rfl rfl (by decide) (fun _=> by simp) (fun H hs=> .f ca179 rfl (choosePivot_c M H sb true x jj n cap a' b' (by omega) (by omega) (by omega) (by omega) (by omega) (hs.get (i:=0) rfl))) (fun⟨p,h⟩ ⟨v1,v2,v3⟩=> ?_))
       refine .m ?_
       refine .x .et ?_
       refine .x .et ?_
       refine .g ?_
       refine .g ?_
       refine .done ?_
       simp only at v1 v2 v3
       refine .seq ?_
       refine Tc.via (fun R' L'=> ∃(p:Nat) (y:List Int),a'≤p∧p<b'∧Turned a' b' x y∧(∃h:Nat,AllIn [(0,.slice (some ⟨sb,0,none⟩) n cap),(1,.int .i64 (a':Nat)),(2,.int .i64 (b':Nat)),(3,.int .i64 (lm1:Nat)),(8,.bool wb),(9,.bool wp),(10,.int .i64 (m:Nat)),(11,.int .i64 (p:Nat)),(12,.int .i64 (h:Nat))] R')∧L'= [(sb,true,.cells ⟨intsL y++jj⟩ 3 (0,0))]) ?_ (fun fin=> ?_)
       · clear v1 v2 v3
         rintro R' _ ⟨p,y,v1,v2,o3,⟨h,hRR⟩,rfl⟩
         refine Tc.dropB ?_ hRR (List.Sublist.refl _)
         have hyl:=o3.len
         refine .seq ?_
         refine Tc.via (fun R' L'=> AllIn [(0,.slice (some ⟨sb,0,none⟩) n cap),(1,.int .i64 (a':Nat)),(2,.int .i64 (b':Nat)),(3,.int .i64 (lm1:Nat)),(8,.bool wb),(9,.bool wp),(10,.int .i64 (m:Nat)),(11,.int .i64 (p:Nat))] R'∧L'= [(sb,true,.cells ⟨intsL y++jj⟩ 3 (0,0))]) ?_ (fun fin=> ?_)
         · rintro R' _ ⟨hRR,rfl⟩
           refine Tc.dropB ?_ hRR (List.Sublist.refl _)
           clear hRR
           refine .seq ?_
           have g5y:=(g5.trans ((o2.trans o3).wide g1 g3))
           have gy:Glue l a b a' b' y:=g6.turn (o2.trans o3)
           have ay:Ahead a' b' y:=g7.turn (o2.trans o3) (by omega) (by omega)
           have hdy:=(o2.trans o3).diff hdu
           refine Tc.via (fun R' L'=> AllIn [(0,.slice (some ⟨sb,0,none⟩) n cap),(1,.int .i64 (a':Nat)),(2,.int .i64 (b':Nat)),(3,.int .i64 (lm1:Nat)),(8,.bool wb),(9,.bool wp),(10,.int .i64 (m:Nat)),(11,.int .i64 (p:Nat))] R'∧L'= [(sb,true,.cells ⟨intsL y++jj⟩ 3 (0,0))]) ?_ (fun fin=> ?_)
           · rintro R' _ ⟨hRR,rfl⟩
             refine Tc.dropB ?_ hRR (List.Sublist.refl _)
             clear hRR
             refine .sr ?_
             refine .m ?_
             refine .m ?_
             refine .m ?_
             refine .m ?_
             refine .e (Or.sortsF (l:=y) 0 (fun s:Nat×Bool×List Int=> .tuple ⟨[.int .i64 (s.1:Nat),.bool s.2.1]⟩) (fun s=> s.2.2) (fun s=> Turned a' b' y s.2.2∧Part a' b' s.1 s.2.2) rfl rfl rfl rfl rfl (by decide) rfl (fun H hs=> .f ca184 rfl (partition_c M H sb y jj n cap a' b' p (by omega) (by omega) (by omega) (by omega) (hs.get (i:=0) rfl))) (fun⟨mid,al,w⟩ ⟨k1,k2⟩=> ?_))
             refine .m ?_
             refine .x .et ?_
             refine .x .et ?_
             refine .g ?_
             refine .g ?_
             refine .done ?_
             simp only at k1 k2
             have k3:=k2.aj
             have k4:=k2.jb
             have hwl:=k1.len
             have hdw:=k1.diff hdy
             have gw:Glue l a b a' b' w:=gy.turn k1
             have aw:Ahead a' b' w:=ay.turn k1 (by omega) (by omega)
             have e1:((mid:Nat):Int)-((a':Nat):Int)=((mid-a':Nat):Int):=by omega
             have e2:((b':Nat):Int)-((mid:Nat):Int)=((b'-mid:Nat):Int):=by omega
             have hq:intBin .quo .i64 ((m:Nat):Int) 8=some (.int .i64 ((m/8:Nat):Int)):=by
               rw[quo_in (by omega) (by omega) (by omega)]
               congr 2
             have hgt:∀x y:Nat,intBin .geq .i64 ((x:Nat):Int) ((y:Nat):Int)=some (.bool (decide (y≤x))):=fun x y=> by
               by_cases c:y≤x
               · rw[decide_eq_true c];exact geq_t (by omega)
               · rw[decide_eq_false c];exact geq_f (by omega)
             have hg1:=hgt (mid-a') (m/8)
             have hg2:=hgt (b'-mid) (m/8)
             refine .sr ?_
             refine .m ?_
             refine .g ?_
             refine .done (.sr ?_)
             refine .m ?_
             refine .m ?_
             refine .i ?_ (z:=sub_in (by omega) (by omega))
             refine .m ?_
             refine .m ?_
             refine .i ?_ (z:=sub_in (by omega) (by omega))
             refine .g ?_
             refine .g ?_
             refine .done ?_
             rw[e1,e2]
             refine .sr ?_
             refine .m ?_
             refine .i ?_ (z:=by assumption)
             refine .g ?_
             refine .done (.seq ?_)
             by_cases c5:mid-a'<b'-mid
             · refine .r ?_
               refine .m ?_
               refine .m ?_
               refine .i ?_ (z:=lss_t (by omega))
               refine .done (.tt rfl (.sr ?_))
               refine .m ?_
               refine .m ?_
               refine .i ?_ (z:=hg1)
               refine .g ?_
               refine .done (.sr ?_)
               refine .m ?_
               refine .m ?_
               refine .m ?_
               refine .m ?_
               refine .e (Or.sorts (l:=w) 0 (fun v m=> v=.tuple ⟨[]⟩∧Turned a' mid w m∧Srt a' mid m) rfl rfl rfl rfl rfl (by decide) rfl (fun H hs=> .f ca148 rfl (ihd H w a' mid lm1 (by omega) (by omega) (by omega) (by omega) (by omega) hdw (aw.left (by omega)) (hs.get (i:=0) rfl))) (fun v x ⟨_,xt,xs⟩=> ?_))
               refine .done (.r ?_)
               refine .m ?_
               refine .i ?_ (z:=add_in (by omega) (by omega))
               refine .g ?_
               refine .done (.inBlock ?_)
               have hxn:=xt.len
               have r1:Turned a b l x:=g5y.trans ((k1.trans (xt.wide (by omega) (by omega))).wide (by omega) (by omega))
               have r2:Glue l a b (mid+1) b' x:=gw.right k2 (by omega) xt xs
               have r3:Ahead (mid+1) b' x:=k2.ahead xt (xt.diff hdw) (by omega)
               have r4:lm1≤lim:=by omega
               have r5:a≤mid+1:=by omega
               have r6:mid+1≤b':=by omega
               exact Tc.db (ih ⟨(mid+1,b',lm1,decide (m/8≤mid-a'),al,x),r5,r6,g3,r4,r1,r2,r3⟩ (by simp only;omega))
             · refine .r ?_
               refine .m ?_
               refine .m ?_
               refine .i ?_ (z:=lss_f (by omega))
               refine .done (.ff rfl (.sr ?_))
               refine .m ?_
               refine .m ?_
               refine .i ?_ (z:=hg2)
               refine .g ?_
               refine .done (.sr ?_)
               refine .m ?_
               refine .m ?_
               refine .i ?_ (z:=add_in (by omega) (by omega))
               refine .m ?_
               refine .m ?_
               refine .e (Or.sorts (l:=w) 0 (fun v m=> v=.tuple ⟨[]⟩∧Turned (mid+1) b' w m∧Srt (mid+1) b' m) rfl rfl rfl rfl rfl (by decide) rfl (fun H hs=> .f ca148 rfl (ihd H w (mid+1) b' lm1 (by omega) (by omega) (by omega) (by omega) (by omega) hdw (k2.ahead (Turned.refl a' mid w) hdw (by omega)) (hs.get (i:=0) rfl))) (fun v x ⟨_,xt,xs⟩=> ?_))
               refine .done (.r ?_)
               refine .m ?_
               refine .g ?_
               refine .done (.inBlock ?_)
               have r1:Turned a b l x:=g5y.trans ((k1.trans (xt.wide (by omega) (by omega))).wide (by omega) (by omega))
               have r2:Glue l a b a' mid x:=gw.left k2 (by omega) xt xs
               have r3:Ahead a' mid x:=(aw.left (by omega)).keep xt
               have r4:lm1≤lim:=by omega
               have r5:a'≤mid:=by omega
               have r6:mid≤b:=by omega
               exact Tc.db (ih ⟨(a',mid,lm1,decide (m/8≤b'-mid),al,x),g1,r5,r6,r4,r1,r2,r3⟩ (by simp only;omega))
           · by_cases c3:a'=0
             · subst c3
               refine .seq ?_
               refine Tc.dr [] [] mixed rfl ?_
               refine .q 0 rfl .mv ?_
               refine .q 1 rfl (.it (zz:=gtr_f (by omega))) ?_
               refine .q 2 rfl .mv ?_
               refine Ta.ps 3 (by kernel_rfl) rfl rfl rfl (by decide) rfl rfl ?_
               refine Ta.ps 4 (by kernel_rfl) rfl rfl rfl (by decide) rfl rfl ?_
               refine Ta.ps 5 (by kernel_rfl) rfl rfl rfl (by decide) rfl rfl ?_
               refine Ta.ps 6 (by kernel_rfl) rfl rfl rfl (by decide) rfl rfl ?_
               refine Ta.ps 7 (by kernel_rfl) rfl rfl rfl (by decide) rfl rfl ?_
               refine Ta.ps 8 (by kernel_rfl) rfl rfl rfl (by decide) rfl rfl ?_
               refine Ta.ps 9 (by kernel_rfl) rfl rfl rfl (by decide) rfl rfl ?_
               refine Ta.ps 10 (by kernel_rfl) rfl rfl rfl (by decide) rfl rfl ?_
               refine Ta.ps 11 (by kernel_rfl) rfl rfl rfl (by decide) rfl rfl ?_
               refine Ta.ps 12 (by kernel_rfl) rfl rfl rfl (by decide) rfl rfl ?_
               refine Ta.ps 13 (by kernel_rfl) rfl rfl rfl (by decide) rfl rfl ?_
               refine .q 14 rfl .pk ?_
               refine Ta.done (by kernel_rfl) ?_
               refine .ff rfl (.skip ?_)
               exact Tc.db (fin [(0,.slice (some ⟨sb,0,none⟩) n cap),(1,.int .i64 (0:Nat)),(2,.int .i64 (b':Nat)),(3,.int .i64 (lm1:Nat)),(8,.bool wb),(9,.bool wp),(10,.int .i64 (m:Nat)),(11,.int .i64 (p:Nat))] [(sb,true,.cells ⟨intsL y++jj⟩ 3 (0,0))] ⟨⟨rfl,rfl,rfl,rfl,rfl,rfl,rfl,rfl,trivial⟩,rfl⟩)
             · have hlt:at0 y (a'-1)<at0 y p:=by
                 rcases ay with h0|h0
                 · exact absurd h0 c3
                 · exact h0 p v1 v2
               have ea:((a':Nat):Int)-1=((a'-1:Nat):Int):=by omega
               have y1:=cells_ld (m:=y) (j:=jj) (k:=((a':Nat):Int)-1) (p:=a'-1) (by omega) (by omega)
               have y2:=cells_ld (m:=y) (j:=jj) (k:=(p:Nat)) (p:=p) rfl (by omega)
               refine .seq ?_
               refine Tc.dr [] [] mixed rfl ?_
               refine .q 0 rfl .mv ?_
               refine .q 1 rfl (.it (zz:=gtr_t (by omega))) ?_
               refine .q 2 rfl .mv ?_
               refine .q 3 rfl .mv ?_
               refine .q 4 rfl .mv ?_
               refine .q 5 rfl (.it (zz:=sub_in (by omega) (by omega))) ?_
               refine .q 6 rfl .ia ?_
               refine .q 7 rfl (.ld 0) ?_
               refine .q 8 rfl .mv ?_
               refine .q 9 rfl .mv ?_
               refine .q 10 rfl .ia ?_
               refine .q 11 rfl (.ld 0) ?_
               refine .z 12 rfl (OpV.takeCall rfl rfl rfl rfl (fun H hs=> .f ca182 rfl (CallT.is (.bool true) (by rewrite [decide_eq_true hlt];rfl) (Less_c M H (at0 y (a'-1)) (at0 y p))))) ?_
               refine .q 13 rfl .nt ?_
               refine .q 14 rfl .pk ?_
               refine Ta.done (by kernel_rfl) ?_
               refine .ff rfl (.skip ?_)
               exact Tc.db (fin [(0,.slice (some ⟨sb,0,none⟩) n cap),(1,.int .i64 (a':Nat)),(2,.int .i64 (b':Nat)),(3,.int .i64 (lm1:Nat)),(8,.bool wb),(9,.bool wp),(10,.int .i64 (m:Nat)),(11,.int .i64 (p:Nat))] [(sb,true,.cells ⟨intsL y++jj⟩ 3 (0,0))] ⟨⟨rfl,rfl,rfl,rfl,rfl,rfl,rfl,rfl,trivial⟩,rfl⟩)
         · refine .seq ?_
           by_cases c4:wb=true∧wp=true∧h=1
           · obtain⟨rfl,rfl,rfl⟩:=c4
             refine .r ?_
             refine .m ?_
             refine .m ?_
             refine .m ?_
             refine .x .pk ?_
             refine .m ?_
             refine .m ?_
             refine .i ?_ (z:=eql_t (by omega))
             refine .x .pk ?_
             refine .done (.tt rfl (.sr ?_))
             refine .m ?_
             refine .m ?_
             refine .m ?_
             refine .e (Or.callNew (fun t:Bool=> .bool t) (fun _=> []) (fun t:Bool=> t=true→Srt a' b' y) rfl rfl rfl rfl rfl (by decide) (fun _=> by simp) (fun H hs=> .f ca181 rfl (partial_c M H sb true y jj n cap a' b' (by omega) (by omega) (by omega) (by omega) (by omega) (hs.get (i:=0) rfl))) (fun t ht=> ?_))
             refine .done ?_
             cases t
             · refine .ff rfl (.skip ?_)
               exact Tc.db (fin [(0,.slice (some ⟨sb,0,none⟩) n cap),(1,.int .i64 (a':Nat)),(2,.int .i64 (b':Nat)),(3,.int .i64 (lm1:Nat)),(8,.bool true),(9,.bool true),(10,.int .i64 (m:Nat)),(11,.int .i64 (p:Nat))] [(sb,true,.cells ⟨intsL y++jj⟩ 3 (0,0))] ⟨⟨rfl,rfl,rfl,rfl,rfl,rfl,rfl,rfl,trivial⟩,rfl⟩)
             · have hall:=(g6.turn (o2.trans o3)) y (Turned.refl ..) (ht rfl)
               refine .tt rfl ?_
               refine Tc.retN (E:=en) hK Tryz.func148 Tryz.results148 (vs:= []) (by exact trivial) ?_
               exact fun H' hs=> SortQ.of hs (i:=0) rfl ⟨rfl,hall⟩
           · have c5:wb=true→wp=true→h≠1:=fun e1 e2 e3=> c4 ⟨e1,e2,e3⟩
             cases wb
             · cases wp
               · refine .r ?_
                 refine .m ?_
                 refine .m ?_
                 refine .sk ?_
                 refine .x .pk ?_
                 refine .m ?_
                 refine .sk ?_
                 refine .sk ?_
                 refine .x .pk ?_
                 refine .done (.ff rfl (.skip ?_))
                 exact Tc.db (fin [(0,.slice (some ⟨sb,0,none⟩) n cap),(1,.int .i64 (a':Nat)),(2,.int .i64 (b':Nat)),(3,.int .i64 (lm1:Nat)),(8,.bool false),(9,.bool false),(10,.int .i64 (m:Nat)),(11,.int .i64 (p:Nat))] [(sb,true,.cells ⟨intsL y++jj⟩ 3 (0,0))] ⟨⟨rfl,rfl,rfl,rfl,rfl,rfl,rfl,rfl,trivial⟩,rfl⟩)
               · refine .r ?_
                 refine .m ?_
                 refine .m ?_
                 refine .sk ?_
                 refine .x .pk ?_
                 refine .m ?_
                 refine .sk ?_
                 refine .sk ?_
                 refine .x .pk ?_
                 refine .done (.ff rfl (.skip ?_))
                 exact Tc.db (fin [(0,.slice (some ⟨sb,0,none⟩) n cap),(1,.int .i64 (a':Nat)),(2,.int .i64 (b':Nat)),(3,.int .i64 (lm1:Nat)),(8,.bool false),(9,.bool true),(10,.int .i64 (m:Nat)),(11,.int .i64 (p:Nat))] [(sb,true,.cells ⟨intsL y++jj⟩ 3 (0,0))] ⟨⟨rfl,rfl,rfl,rfl,rfl,rfl,rfl,rfl,trivial⟩,rfl⟩)
             · cases wp
               · refine .r ?_
                 refine .m ?_
                 refine .m ?_
                 refine .m ?_
                 refine .x .pk ?_
                 refine .m ?_
                 refine .sk ?_
                 refine .sk ?_
                 refine .x .pk ?_
                 refine .done (.ff rfl (.skip ?_))
                 exact Tc.db (fin [(0,.slice (some ⟨sb,0,none⟩) n cap),(1,.int .i64 (a':Nat)),(2,.int .i64 (b':Nat)),(3,.int .i64 (lm1:Nat)),(8,.bool true),(9,.bool false),(10,.int .i64 (m:Nat)),(11,.int .i64 (p:Nat))] [(sb,true,.cells ⟨intsL y++jj⟩ 3 (0,0))] ⟨⟨rfl,rfl,rfl,rfl,rfl,rfl,rfl,rfl,trivial⟩,rfl⟩)
               · have c6:=c5 rfl rfl
                 refine .r ?_
                 refine .m ?_
                 refine .m ?_
                 refine .m ?_
                 refine .x .pk ?_
                 refine .m ?_
                 refine .m ?_
                 refine .i ?_ (z:=eql_f (by omega))
                 refine .x .pk ?_
                 refine .done (.ff rfl (.skip ?_))
                 exact Tc.db (fin [(0,.slice (some ⟨sb,0,none⟩) n cap),(1,.int .i64 (a':Nat)),(2,.int .i64 (b':Nat)),(3,.int .i64 (lm1:Nat)),(8,.bool true),(9,.bool true),(10,.int .i64 (m:Nat)),(11,.int .i64 (p:Nat))] [(sb,true,.cells ⟨intsL y++jj⟩ 3 (0,0))] ⟨⟨rfl,rfl,rfl,rfl,rfl,rfl,rfl,rfl,trivial⟩,rfl⟩)
       · refine .seq ?_
         by_cases c4:h=2
         · have e1:((b':Nat):Int)-1-(((p:Nat):Int)-((a':Nat):Int))=((b'-1-(p-a'):Nat):Int):=by omega
           refine .r ?_
           refine .m ?_
           refine .i ?_ (z:=eql_t (by omega))
           refine .done (.tt rfl (.sr ?_))
           refine .m ?_
           refine .m ?_
           refine .m ?_
           refine .e (Or.sorts (l:=x) 0 (fun v m=> v=.tuple ⟨[]⟩∧Turned a' b' x m) rfl rfl rfl rfl rfl (by decide) rfl (fun H hs=> .f ca180 rfl (reverse_c M H sb x jj n cap a' b' (by omega) (by omega) (by omega) (by omega) (hs.get (i:=0) rfl))) (fun v y ⟨_,yt⟩=> ?_))
           refine .done (.sr ?_)
           refine .m ?_
           refine .i ?_ (z:=sub_in (by omega) (by omega))
           refine .m ?_
           refine .m ?_
           refine .i ?_ (z:=sub_in (by omega) (by omega))
           refine .i ?_ (z:=sub_in (by omega) (by omega))
           refine .g ?_
           refine .done ?_
           rw[e1]
           refine .r ?_
           refine .g ?_
           refine .done ?_
           exact Tc.db (fin [(0,.slice (some ⟨sb,0,none⟩) n cap),(1,.int .i64 (a':Nat)),(2,.int .i64 (b':Nat)),(3,.int .i64 (lm1:Nat)),(8,.bool wb),(9,.bool wp),(10,.int .i64 (m:Nat)),(11,.int .i64 (b'-1-(p-a'):Nat)),(12,.int .i64 (1:Nat))] [(sb,true,.cells ⟨intsL y++jj⟩ 3 (0,0))] ⟨b'-1-(p-a'),y,by omega,by omega,yt,⟨1,rfl,rfl,rfl,rfl,rfl,rfl,rfl,rfl,rfl,trivial⟩,rfl⟩)
         · refine .r ?_
           refine .m ?_
           refine .i ?_ (z:=eql_f (by omega))
           refine .done (.ff rfl (.skip ?_))
           exact Tc.db (fin [(0,.slice (some ⟨sb,0,none⟩) n cap),(1,.int .i64 (a':Nat)),(2,.int .i64 (b':Nat)),(3,.int .i64 (lm1:Nat)),(8,.bool wb),(9,.bool wp),(10,.int .i64 (m:Nat)),(11,.int .i64 (p:Nat)),(12,.int .i64 (h:Nat))] [(sb,true,.cells ⟨intsL x++jj⟩ 3 (0,0))] ⟨p,x,by omega,by omega,Turned.refl ..,⟨h,rfl,rfl,rfl,rfl,rfl,rfl,rfl,rfl,rfl,trivial⟩,rfl⟩)
     · refine .seq ?_
       cases wb
       · have e1:((lm:Nat):Int)-1=((lm-1:Nat):Int):=by omega
         refine .r ?_
         refine .m ?_
         refine .x .nt ?_
         refine .done (.tt rfl (.sr ?_))
         refine .m ?_
         refine .m ?_
         refine .m ?_
         refine .e (Or.sorts (l:=u) 0 (fun v m=> v=.tuple ⟨[]⟩∧Turned a' b' u m) rfl rfl rfl rfl rfl (by decide) rfl (fun H hs=> .f ca178 rfl (break_c M H sb u jj n cap a' b' (by omega) (by omega) (by omega) (by omega) (by omega) (hs.get (i:=0) rfl))) (fun v x ⟨_,xt⟩=> ?_))
         refine .done (.r ?_)
         refine .m ?_
         refine .i ?_ (z:=sub_in (by omega) (by omega))
         refine .g ?_
         refine .done ?_
         rw[e1]
         exact Tc.db (fin [(0,.slice (some ⟨sb,0,none⟩) n cap),(1,.int .i64 (a':Nat)),(2,.int .i64 (b':Nat)),(3,.int .i64 (lm-1:Nat)),(8,.bool false),(9,.bool wp),(10,.int .i64 (m:Nat))] [(sb,true,.cells ⟨intsL x++jj⟩ 3 (0,0))] ⟨lm-1,x,by omega,xt,⟨rfl,rfl,rfl,rfl,rfl,rfl,rfl,trivial⟩,rfl⟩)
       · refine .r ?_
         refine .m ?_
         refine .x .nt ?_
         refine .done (.ff rfl (.skip ?_))
         exact Tc.db (fin [(0,.slice (some ⟨sb,0,none⟩) n cap),(1,.int .i64 (a':Nat)),(2,.int .i64 (b':Nat)),(3,.int .i64 (lm:Nat)),(8,.bool true),(9,.bool wp),(10,.int .i64 (m:Nat))] [(sb,true,.cells ⟨intsL u++jj⟩ 3 (0,0))] ⟨lm,u,Nat.le_refl _,Turned.refl ..,⟨rfl,rfl,rfl,rfl,rfl,rfl,rfl,trivial⟩,rfl⟩)
end
end Go.Proofs.YtpdaenfglbgfkaaGreatDoor
end
section
namespace Go.Proofs.YtpdaenfglbgfkaaGreatDoor
open Go.RL
set_option maxRecDepth 10000
set_option maxHeartbeats 8000000
section
variable(M:Md Tryz.prog)(H:View)
theorem Sort_c(sb:Nat)(l:List Int)(jj:List Value)(n cap:Nat)(hn:n=l.length)(h40:n≤40)(hd:Diff l)(hS:H sb=some (true,.cells ⟨intsL l++jj⟩ 3 (0,0))):
   CallT M 92 #[.slice (some ⟨sb,0,none⟩) n cap] H (SortQ H sb jj (fun v m=> v=.tuple ⟨[]⟩∧Turned 0 n l m∧Srt 0 n m)):=by
 have hw:=u64_small n (by omega)
 have hb:=bl_u8 n (by omega)
 refine CallT.enter (vs:= [.slice (some ⟨sb,0,none⟩) n cap]) Tryz.func92 rfl Tryz.ntmps92 (Nat.le_of_ble_eq_true rfl) (SymSt.pull hS) fun St c cs hK=> ?_
 refine .sr ?_
 refine .m ?_
 refine .x .ln ?_
 refine .g ?_
 refine .done (.r ?_)
 refine .m ?_
 refine .m ?_
 refine .m ?_
 refine .x .cv ?_
 refine .c rfl rfl rfl rfl (fun H hs=> .f ca149 rfl (Len_c M H n (by omega))) ?_
 refine .e (Or.sorts (l:=l) 0 (fun v m=> v=.tuple ⟨[]⟩∧Turned 0 n l m∧Srt 0 n m) rfl rfl rfl rfl rfl (by decide) rfl (fun H hs=> .f ca148 rfl (pdq_c M sb jj n cap h40 (n+1) H l 0 n (bl n) (by omega) hn (by omega) (Nat.le_refl _) (by omega) hd (.inl rfl) (hs.get (i:=0) rfl))) (fun v m ⟨_,ht,hs⟩=> ?_))
 refine .done ?_
 refine Tc.overN (E:=en) hK Tryz.func92 Tryz.results92 (vs:= []) (by exact trivial) ?_
 exact fun H' hs'=> SortQ.of hs' (i:=0) rfl ⟨rfl,ht,hs⟩
end
def intOf:Value→Int
 | .int _ i=> i
 | _=> 0
theorem perm_ints {l:List Value}{k:List Int}(h:l.Perm (intsL k)):∃u:List Int,l=intsL u∧u.Perm k:=by
 refine⟨l.map intOf,?_,?_⟩
 · unfold intsL
   rw[List.map_map]
   symm
   have:∀v∈l,(((fun x=> Value.int .i64 x)∘intOf) v)=v:=fun v hv=> by
     have:=h.subset hv
     unfold intsL at this
     obtain⟨x,_,rfl⟩:=List.mem_map.1 this
     rfl
   rw[List.map_congr_left this,List.map_id']
 · have h2:=h.map intOf
   have:(intsL k).map intOf=k:=by
     unfold intsL
     rw[List.map_map]
     have:∀x∈k,(intOf∘fun x=> Value.int .i64 x) x=x:=fun x _=> rfl
     rw[List.map_congr_left this,List.map_id']
   rwa [this] at h2
theorem Srt.pairwise {m:List Int}(h:Srt 0 m.length m):m.Pairwise (· ≤·):=by
 rw[List.pairwise_iff_getElem]
 intro i j hi hj hij
 have:=h i j (Nat.zero_le _) hij hj
 unfold at0 at this
 rw[List.getElem?_eq_getElem hi,List.getElem?_eq_getElem hj] at this
 exact this
theorem sorted_is {u m k:List Int}(h:u.Perm k)(hk:k.Pairwise (· < ·))(ht:Turned 0 u.length u m)(hs:Srt 0 u.length m):m=k:=by
 have hmu:m.Perm k:=(List.perm_iff_count.2 ht.cnt).trans h
 rw[←ht.len] at hs
 exact List.Perm.eq_of_pairwise (le:=(· ≤·)) (fun a b _ _ h1 h2=> Int.le_antisymm h1 h2) hs.pairwise (hk.imp (fun h=> Int.le_of_lt h)) hmu
theorem diff_of {u k:List Int}(h:u.Perm k)(hk:k.Pairwise (· < ·)):Diff u:=fun x=> by
 rw[h.count_eq]
 exact List.nodup_iff_count.1 (List.nodup_iff_pairwise_ne.2 (hk.imp (fun h=> Int.ne_of_lt h))) x
theorem keepI_lt(p:Nat→Bool)(n:Nat):(keepI p n).Pairwise (· < ·):=by
 unfold keepI
 rw[List.pairwise_map]
 exact(List.Pairwise.filter p List.pairwise_lt_range).imp (fun h=> by exact_mod_cast h)
def Gl.with'(g:Gl 3 1)(m:List Value)(h:m.length=g.n):Gl 3 1:=⟨g.blk,g.n,g.cap,m,g.junk,by rw[h,Nat.mul_one],g.hc,g.hj,g.h0⟩
theorem Or.sortGl {M:Md Tryz.prog}{n:Nat}{H₀:View}{R:Rg}{L1:Bl}{o:Oper}{K:Rg→Bl→Prop}{cl:Go.Call}{x:Operand}{fv:Value}{d:Nat}(g:Gl 3 1)(u k:List Int)(hg:g.l=intsL u)(hp:u.Perm k)(hk:k.Pairwise (· < ·))(h40:k.length≤40)
   (hop:o.op=.call cl) (hcl:cl.callee=.value x) (hx:evR R x=some fv) (has:evRs R cl.args.toList=some [g.val]) (hd:o.dst=some d) (hn:d<n)
   (hc:∀(H:View) (Q:Value→View→Prop),CallT M 92 #[g.val] H Q→FnT M fv [g.val] H Q)
   (hK:∀g':Gl 3 1,g'.val=g.val→g'.n=g.n→g'.l=intsL k→K ((d,.tuple ⟨[]⟩)::R) (L1++g'.bl)):Or M n H₀ R (L1++g.bl) o K:=by
 have hul:u.length=g.n:=by have:=g.hl;rw[hg,intsL_len] at this;omega
 have hkl:k.length=g.n:=by rw[←hul];exact hp.length_eq.symm
 have hdu:=diff_of hp hk
 cases hb:g.blk with
 | none=>
   have hcap:=g.h0 hb
   have hgc:=g.hc
   have h0:g.n=0:=by omega
   have hk0:k= []:=List.eq_nil_of_length_eq_zero (by omega)
   have hu0:u= []:=List.eq_nil_of_length_eq_zero (by omega)
   have hbl:g.bl= []:=by unfold Gl.bl;rw[hb]
   have hv:g.val=.slice (g.blk.map fun b=> ⟨b,0,none⟩) g.n g.cap:=rfl
   refine Or.callNew (fun _:Unit=> .tuple ⟨[]⟩) (fun _=> []) (fun _=> True) hop hcl hx has hd hn (fun _=> by simp) (fun H hs=> hc H _ ?_) (fun _ _=> ?_)
   · rw[hv]
     exact CallT.mono (Sort_one M H _ g.n g.cap (by omega)) (fun v H' ⟨h1,h2⟩=> ⟨h1,(),h2,trivial,by simp⟩)
   · rw[List.append_nil]
     exact hK g rfl rfl (by rw[hg,hu0,hk0])
 | some b=>
   have hbl:g.bl= [(b,true,.cells ⟨intsL u++g.junk⟩ 3 (0,0))]:=by unfold Gl.bl;rw[hb,hg]
   have hv:g.val=.slice (some ⟨b,0,none⟩) g.n g.cap:=by unfold Gl.val;rw[hb];rfl
   rw[hbl]
   refine Or.sorts (l:=u) L1.length (fun v m=> v=.tuple ⟨[]⟩∧Turned 0 g.n u m∧Srt 0 g.n m) hop hcl hx has hd hn (by rw[List.getElem?_append_right (Nat.le_refl _),Nat.sub_self];rfl)
     (fun H hs=> hc H _ ?_) (fun v m ⟨h1,h2,h3⟩=> ?_)
   · rw[hv]
     exact Sort_c M H b u g.junk g.n g.cap hul.symm (by omega) hdu (hs.get (i:=L1.length) (by rw[List.getElem?_append_right (Nat.le_refl _),Nat.sub_self];rfl))
   · subst h1
     rw[←hul] at h2 h3
     have hm:=sorted_is hp hk h2 h3
     subst hm
     have:=hK (Gl.with' g (intsL m) (by rw[intsL_len];exact hkl)) rfl rfl rfl
     have hbl':(Gl.with' g (intsL m) (by rw[intsL_len];exact hkl)).bl= [(b,true,.cells ⟨intsL m++g.junk⟩ 3 (0,0))]:=by
       unfold Gl.bl Gl.with'
       simp only[hb]
     rw[hbl'] at this
     rw[List.set_append_right _ _ (Nat.le_refl _),Nat.sub_self]
     exact this
end Go.Proofs.YtpdaenfglbgfkaaGreatDoor
end
section
namespace Go.Proofs.YtpdaenfglbgfkaaGreatDoor
open Go.RL
set_option maxRecDepth 10000
set_option maxHeartbeats 4000000
section
variable(M:Md Tryz.prog)(H:View)
theorem Reads_c(k:Lk)(code:Nat)(hG:Glob H)(hk:k.ok=true)(hc:code<32):CallT M 21 #[k.val,.int .i64 code] H (ReadsQ (keepTo (k.canRead code) 32) (k.refused code) H):=by
 refine CallT.enter (vs:= [k.val,.int .i64 code]) Tryz.func21 rfl Tryz.ntmps21 (Nat.le_of_ble_eq_true rfl) (SymSt.nil _) fun St c cs hK=> ?_
 refine .sr ?_
 refine .e (.bx (zz:=fun b2=> ?_))
 refine .g ?_
 refine .g ?_
 refine .g ?_
 refine .done (.sr ?_)
 refine .x (.ld 0) ?_
 refine .m ?_
 refine .e (Or.callNew (fun x=> .tuple ⟨[k.val,letN code x,.int .i64 0]⟩) (letB code) (fun _=> True) rfl rfl rfl rfl rfl (by decide) (letB_nodup code) (fun H hs=> .f ca89 rfl (open_n M H k code (glob_le hG hs.base) hk hc)) (fun x hx=> ?_))
 refine .m ?_
 refine .x .et ?_
 refine .x .et ?_
 refine .x .et ?_
 refine .e (.al (zz:=fun b7=> ?_))
 refine .e (.al (zz:=fun b8=> ?_))
 refine .e (.st 1 (zz:=?_))
 refine .e (.st 0 (zz:=?_))
 refine .g ?_
 refine .done (.seq (.sr ?_))
 refine .m ?_
 refine .i ?_ (z:=neq_f (by omega))
 refine .done (.ff rfl (.skip (.sr ?_)))
 refine .g ?_
 refine .done (.seq (.sr ?_))
 refine .x (.ld 1) ?_
 refine .x (.ld 0) ?_
 refine .e (Or.callNew (fun y:Nat×Array MapEntry×Nat=> .map (some y.1)) (fun y=> [(y.1,true,.map y.2.1 y.2.2)]) (fun y=> MapOk y.2.1 y.2.2 (vF (k.sees code))) rfl rfl rfl rfl rfl (by decide) (fun _=> by simp) (fun H hs=> .f ca90 rfl (CallT.mono (all90_c M H k (Lk.fine hk) code x.1 x.2.1 hc (edg_of fun y hy=> hs.at_ y (by simp[hy]))) (by rintro v H' ⟨h1,m,es,cl,h2,h3,h4,h5⟩;exact⟨h1,(m,es,cl),h2,h5,by simp[h3,h4]⟩))) (fun y hm=> ?_))
 have hl32:(keepI (k.canRead code) 32).length≤32:=keepI_len _ _
 have hl33:(keepTo (k.canRead code) 32).length≤32:=by rw[keepI_eq,intsL_len];exact hl32
 obtain⟨m,es,cl⟩:=y
 simp only at hm
 have hperm:=codes_perm hm
 have hbad:=bad_any hm
 refine .e (Or.range (E:=en) (es:=es) (cl:=cl) rfl rfl (fun H hs=> ⟨true,hs.at_ (m,true,.map es cl) (by simp)⟩) rfl rfl rfl (by decide) (fun it=> ?_))
 refine .done ?_
 refine Tc.lift (L₂:= [(it,true,.mapIter (some m) cl #[] cl)]) rfl (fun Hm hsm=> ?_)
 have hmap:Hm m=some (true,.map es cl):=hsm.at_ (m,true,.map es cl) (by simp)
 have hfr:∀b x,Hm b=none→H b=some x→False:=fun b x h2 h3=> by rw[hsm.base _ _ h3] at h2;cases h2
 refine .block ?_
 refine Tc.db (Tc.loopInv (σ:= { s:Array Nat×Gl 3 1×Bool//(s.2.1.l++(unseen es s.1).filterMap codeE).Perm (keepTo (k.canRead code) 32)∧(s.2.2||(unseen es s.1).any badE)=k.bad code })
   (fun s=> ([(26,.pointer (some ⟨it,0,none⟩)),(4,s.1.2.1.val),(9,.bool s.1.2.2)],[(it,true,.mapIter (some m) cl s.1.1 cl)]++s.1.2.1.bl)) (fun s=> (unseen es s.1.1).length) ?_ ⟨(#[],Gl.nil 3 1,false),by rw[unseen_start];exact hperm,by rw[unseen_start,hbad];rfl⟩)
 rintro⟨⟨seen,g,bd⟩,g1,g2⟩ ih
 simp only at g1 g2
 have hgl:=g1.length_eq
 rw[List.length_append] at hgl
 have hgn:=g.hl
 rw[Nat.mul_one] at hgn
 show Tc M St _ _ _ _ [(26,.pointer (some ⟨it,0,none⟩)),(4,g.val),(9,.bool bd)] ([(it,true,.mapIter (some m) cl seen cl)]++g.bl) _ _
 refine .sr ?_
 refine .e (Or.next (es:=es) 0 rfl rfl rfl (fun H hs=> ⟨true,hs.base _ _ hmap⟩) hm.lt rfl (by decide) (fun e he hse=> ?_) (fun hall=> ?_))
 · have hp:=unseen_next hm.borns he hse
   obtain⟨_,u,u1,u2,u3⟩:=(hm.mem e.key e.val).2 ⟨e,he,rfl,rfl⟩
   have hfind:es.find? (fun x=> x.born==e.born)=some e:=by
     rw[←Array.find?_toList]
     cases hf:es.toList.find? (fun x=> x.born==e.born) with
     | none=> have:=List.find?_eq_none.1 hf e he;simp at this
     | some e'=>
       have h3:=List.mem_of_find?_eq_some hf
       have h4:=List.find?_some hf
       simp only[beq_iff_eq] at h4
       rw[born_unique hm.borns e' h3 e he h4]
   refine .x .et ?_
   refine .done (.seq (.tt rfl (.skip (.block (.sr ?_)))))
   refine .e (Or.entry (es:=es) (e:=e) (st:=e.born) rfl rfl (fun H hs=> ⟨true,hs.get (i:=0) rfl⟩) (fun H hs=> ⟨true,hs.base _ _ hmap⟩) (by simp) hfind rfl (by decide) ?_)
   rw[u2]
   refine .x .et ?_
   refine .g ?_
   refine .done (.seq ?_)
   have hc1:=hp.filterMap codeE
   have hb1:=hp.any_eq (f:=badE)
   have hbE:badE e=(readN u).isNone:=by unfold badE keyN;rw[u2];rfl
   have hcE:codeE e=(readN u).map fun n=> .int .i64 (n:Nat):=by unfold codeE keyN;rw[u2];rfl
   cases hu:readN u with
   | none=>
     rw[hu] at hbE hcE
     refine .r ?_
     refine .m ?_
     refine .c rfl rfl rfl rfl (fun H hs=> .f ca91 rfl (CallT.is (.tuple ⟨[.int .i64 0,.bool false]⟩) (by rewrite [hu];rfl) (read_c M H u u1))) ?_
     refine .m ?_
     refine .x .et ?_
     refine .x .et ?_
     refine .g ?_
     refine .g ?_
     refine .done (.sr ?_)
     refine .m ?_
     refine .done (.ff rfl (.r ?_))
     refine .g ?_
     refine .done (.inBlock ?_)
     exact Tc.db (ih ⟨(seen.push e.born,g,true),by simp only;rw[List.filterMap_cons_none hcE] at hc1;exact(List.Perm.append_left _ hc1.symm).trans g1,by simp only;rw[←g2,hb1,List.any_cons,hbE];simp⟩ (by simp only;rw[hp.length_eq];simp))
   | some n=>
     rw[hu] at hbE hcE
     have hn:=readN_lt hu
     have hroom:g.n+1≤32:=by
       rw[←hgn]
       have h5:=hc1.length_eq
       rw[List.filterMap_cons_some hcE,List.length_cons] at h5
       omega
     refine .r ?_
     refine .m ?_
     refine .c rfl rfl rfl rfl (fun H hs=> .f ca91 rfl (CallT.is (.tuple ⟨[.int .i64 (n:Nat),.bool true]⟩) (by rewrite [hu];rfl) (read_c M H u u1))) ?_
     refine .m ?_
     refine .x .et ?_
     refine .x .et ?_
     refine .g ?_
     refine .g ?_
     refine .done (.sr ?_)
     refine .m ?_
     refine .done (.tt rfl (.r ?_))
     refine .m ?_
     refine .m ?_
     refine .e (.bs (zz:=fun bs=> ?_))
     refine .e (Or.append (E:=en) 2 rfl rfl rfl rfl rfl rfl rfl rfl rfl rfl rfl rfl rfl rfl rfl (fun H hs=> SrcAt.of (hs.get (i:=0) rfl) (Nat.le_of_ble_eq_true rfl)) rfl (by omega) rfl (by decide) (fun g' hn' hl=> ?_))
     refine .g ?_
     refine .done (.inBlock ?_)
     exact Tc.db (ih ⟨(seen.push e.born,g',bd),by simp only;rw[hl,List.append_assoc];rw[List.filterMap_cons_some hcE] at hc1;exact(List.Perm.append_left _ hc1.symm).trans g1,by simp only;rw[←g2,hb1,List.any_cons,hbE];simp⟩ (by simp only;rw[hp.length_eq];simp))
 · have hun:=unseen_done hall
   rw[hun] at g1 g2
   simp only[List.filterMap_nil,List.append_nil,List.any_nil,Bool.or_false] at g1 g2
   rw[keepI_eq] at g1
   obtain⟨u,hgu,hup⟩:=perm_ints g1
   subst g2
   refine .x .et ?_
   refine .done (.seq (.ff rfl (.exit rfl (.sr ?_))))
   refine .m ?_
   refine .e (Or.sortGl (L1:= [(it,true,.mapIter (some m) cl seen cl)]) g u (keepI (k.canRead code) 32) hgu hup (keepI_lt _ _) (by have:=hl32;omega) rfl rfl rfl rfl rfl (by decide) (fun H Q h=> .f ca92 rfl h) (fun g' hv' hn' hl'=> ?_))
   refine .done ?_
   have hgl2:g'.l=keepTo (k.canRead code) 32:=by rw[hl',keepI_eq]
   have hgn2:g'.l.length=g.n:=by rw[g'.hl,hn',Nat.mul_one]
   refine .seq (.block (.seq ?_))
   cases hbd:k.bad code with
   | false=>
     have hr:k.refused code=2:=by unfold Lk.refused;rw[hbd];rfl
     refine .r ?_
     refine .m ?_
     refine .x .nt ?_
     refine .g ?_
     refine .done (.tt rfl (.sr ?_))
     refine .m ?_
     refine .g ?_
     refine .g ?_
     refine .g ?_
     refine .done ?_
     refine .rt hK Tryz.func21 Tryz.results21 [_,_,_] ?_
     exact fun H' hs=> ⟨View.le_trans hsm.base hs.base,g',by rw[hr,hv'];rfl,hgl2,fun y hy=> ⟨hs.at_ y (by simp[hy]),by cases h:H y.1 with|none=> rfl|some x=> exact(hfr _ x (hs.out y (by simp[hy])) h).elim⟩⟩
   | true=>
     refine .r ?_
     refine .m ?_
     refine .x .nt ?_
     refine .g ?_
     refine .done (.ff rfl (.seq ?_))
     by_cases h0:g.n=0
     · have hr:k.refused code=1:=by unfold Lk.refused;rw[hbd,←hgl2,hgn2,h0];rfl
       refine .r ?_
       refine .m ?_
       refine .x .ln ?_
       refine .i ?_ (z:=eql_t (by omega))
       refine .g ?_
       refine .done (.tt rfl (.sr ?_))
       refine .g ?_
       refine .g ?_
       refine .g ?_
       refine .done ?_
       refine .rt hK Tryz.func21 Tryz.results21 [_,_,_] ?_
       exact fun H' hs=> ⟨View.le_trans hsm.base hs.base,Gl.nil 3 1,by rw[hr];rfl,by rw[←hgl2];exact(List.eq_nil_of_length_eq_zero (by omega)).symm,by simp[Gl.nil,Gl.bl]⟩
     · have hr:k.refused code=0:=by unfold Lk.refused;rw[hbd,←hgl2,hgn2,if_pos rfl,if_neg h0]
       refine .r ?_
       refine .m ?_
       refine .x .ln ?_
       refine .i ?_ (z:=eql_f (by omega))
       refine .g ?_
       refine .done (.ff rfl (.skip (.inBlock (.sr ?_))))
       refine .m ?_
       refine .g ?_
       refine .g ?_
       refine .g ?_
       refine .done ?_
       refine .rt hK Tryz.func21 Tryz.results21 [_,_,_] ?_
       exact fun H' hs=> ⟨View.le_trans hsm.base hs.base,g',by rw[hr,hv'];rfl,hgl2,fun y hy=> ⟨hs.at_ y (by simp[hy]),by cases h:H y.1 with|none=> rfl|some x=> exact(hfr _ x (hs.out y (by simp[hy])) h).elim⟩⟩
end
end Go.Proofs.YtpdaenfglbgfkaaGreatDoor
end
section
namespace Go.Proofs.YtpdaenfglbgfkaaGreatDoor
open Go.RL
set_option maxRecDepth 10000
set_option maxHeartbeats 4000000
structure Tells(k:Lk)(c:Nat)(rd:Option Nat):Prop where
 always:k.claim c=1→rd=some c∧keepI (k.canRead c) 32= [(c:Int)]∧k.refused c=2
 never:k.claim c=2→rd≠some c
 refused:k.refused c=1→rd=none
 taken:k.refused c=2→rd≠none
 found:∀n,rd=some n→(n:Int)∈keepI (k.canRead c) 32
 sure:k.sureOf c=true↔k.claim c=1
theorem Lk.bad_iff {k:Lk}{c:Nat}:k.bad c=true↔∃v,v<128∧k.sees c v=true∧readN v=none:=by
 unfold Lk.bad
 rw[List.any_eq_true]
 constructor
 · rintro⟨v,h1,h2⟩
   rw[Bool.and_eq_true,Option.isNone_iff_eq_none] at h2
   exact⟨v,List.mem_range.1 h1,h2.1,h2.2⟩
 · rintro⟨v,h1,h2,h3⟩
   exact⟨v,List.mem_range.2 h1,by rw[Bool.and_eq_true,Option.isNone_iff_eq_none];exact⟨h2,h3⟩⟩
theorem readN_see {k:Lk}{c v n:Nat}(hv:v<128)(hs:k.sees c v=true)(h:readN v=some n):n<32∧k.canRead c n=true:=by
 have hn:=readN_lt h
 have:=(readN_iff v hv n hn).1 h
 exact⟨hn,by unfold Lk.canRead;rw[←this];exact hs⟩
theorem keepI_empty {p:Nat→Bool}{n:Nat}:(keepTo p n).length=0↔∀i,i<n→p i=false:=by
 unfold keepTo
 rw[List.length_map,List.length_eq_zero_iff,List.filter_eq_nil_iff]
 constructor
 · intro h i hi
   have:=h i (List.mem_range.2 hi)
   cases hp:p i with
   | false=> rfl
   | true=> exact absurd hp this
 · intro h i hi
   rw[h i (List.mem_range.1 hi)]
   decide
end Go.Proofs.YtpdaenfglbgfkaaGreatDoor
end
section
namespace Go.Proofs.YtpdaenfglbgfkaaGreatDoor
open Go.RL
set_option maxRecDepth 10000
set_option maxHeartbeats 4000000
theorem want_wrong:∀v:Nat,v<128→∀c:Nat,c<32→wantQ (-1) c (readN v)=(v !=rightN c):=by decide +kernel
theorem want_code:∀v:Nat,v<128→∀n:Nat,n<32→∀c:Nat,(wantQ (n:Nat) c (readN v)=true↔v=64+2*n):=fun v hv n hn c=> by
 rw[←readN_iff v hv n hn]
 cases h:readN v with
 | none=>
   show decide ((n:Int)= -1∨(n:Int)=32)=true↔none=some n
   rw[decide_eq_true_iff]
   constructor
   · intro h;omega
   · intro h;cases h
 | some x=>
   show(if(n:Int)= -1 then decide (x≠c) else if(n:Int)=32 then false else decide ((x:Int)=n))=true↔some x=some n
   rw[if_neg (by omega),if_neg (by omega),decide_eq_true_iff,Option.some.injEq]
   omega
theorem want_none(c:Nat)(r:Option Nat):wantQ 32 c r=r.isNone:=by
 cases r with
 | none=> rfl
 | some x=> rfl
theorem right_code:∀c:Nat,c<32→rightN c=64+2*c:=by decide +kernel
theorem find_congr {α:Type}{p q:α→Bool}:∀ {l:List α},(∀x∈l,p x=q x)→l.find? p=l.find? q
 | [],_=> rfl
 | x::l,h=> by
   rw[List.find?_cons,List.find?_cons,h x (List.mem_cons_self ..),find_congr fun y hy=> h y (List.mem_cons_of_mem _ hy)]
theorem findSome_congr {α β:Type}{f g:α→Option β}:∀ {l:List α},(∀x∈l,f x=g x)→l.findSome? f=l.findSome? g
 | [],_=> rfl
 | x::l,h=> by
   rw[List.findSome?_cons,List.findSome?_cons,h x (List.mem_cons_self ..),findSome_congr fun y hy=> h y (List.mem_cons_of_mem _ hy)]
theorem Stg.ask_wrong {s:Stg}(hc:s.code<32):((s.ask (-1)).map fun mv=> (s.send,s.read,s.lean,mv))=s.wrong (rightN s.code):=by
 unfold Stg.ask Stg.wrong leafR
 rw[find_congr (q:=notRt (rightN s.code)) (fun x hx=> want_wrong x.1 (s.leaves_lt _ _ _ _ _ (by decide) hx) s.code hc),Option.map_map]
 rfl
theorem Lk.first_wrong {k:Lk}{c:Nat}(hc:c<32):k.first (-1) c=k.wrong c:=by
 unfold Lk.first firstIn Lk.wrong
 refine findSome_congr fun s hs=> ?_
 obtain⟨a,r,n,f,_,_,_,_,rfl⟩:=Lk.mem_stgs.1 hs
 exact Stg.ask_wrong hc
theorem Stg.ask_some {s:Stg}{want:Int}:(s.ask want).isSome=true↔∃x∈s.all,wantQ want s.code (readN x.1)=true:=by
 unfold Stg.ask leafR
 rw[Option.isSome_map,List.find?_isSome]
 rfl
theorem Lk.first_some {k:Lk}(hk:k.ok=true){c:Nat}{want:Int}:(k.first want c).isSome=true↔∃v,v<128∧k.sees c v=true∧wantQ want c (readN v)=true:=by
 have hr:∀s∈k.stgs c,0<s.read∧s.code=c:=fun s hs=> by
   obtain⟨a,r,n,f,h1,h2,_,_,rfl⟩:=Lk.mem_stgs.1 hs
   have:=(Lk.ok_in hk).2.1
   exact⟨by show 0<r;omega,rfl⟩
 unfold Lk.first firstIn
 rw[List.findSome?_isSome_iff]
 constructor
 · rintro⟨s,hs,h⟩
   rw[Option.isSome_map] at h
   obtain⟨x,hx,hw⟩:=Stg.ask_some.1 h
   refine⟨x.1,s.leaves_lt _ _ _ _ _ (by decide) hx,?_,?_⟩
   · unfold Lk.sees
     rw[List.any_eq_true]
     exact⟨s,hs,(Stg.reach_all (hr s hs).1).2 ⟨x,hx,rfl⟩⟩
   · rw[←(hr s hs).2];exact hw
 · rintro⟨v,_,hv,hw⟩
   unfold Lk.sees at hv
   rw[List.any_eq_true] at hv
   obtain⟨s,hs,h⟩:=hv
   obtain⟨x,hx,rfl⟩:=(Stg.reach_all (hr s hs).1).1 h
   refine⟨s,hs,?_⟩
   rw[Option.isSome_map,Stg.ask_some]
   exact⟨x,hx,by rw[(hr s hs).2];exact hw⟩
theorem Lk.first_code {k:Lk}(hk:k.ok=true){c n:Nat}(hn:n<32):(k.first (n:Nat) c).isSome=k.canRead c n:=by
 rw[Bool.eq_iff_iff,Lk.first_some hk]
 unfold Lk.canRead
 constructor
 · rintro⟨v,h1,h2,h3⟩
   rw[(want_code v h1 n hn c).1 h3] at h2
   exact h2
 · intro h
   exact⟨64+2*n,by omega,h,(want_code _ (by omega) n hn c).2 rfl⟩
theorem Lk.first_bad {k:Lk}(hk:k.ok=true){c:Nat}:(k.first 32 c).isSome=k.bad c:=by
 rw[Bool.eq_iff_iff,Lk.first_some hk,Lk.bad_iff]
 constructor
 · rintro⟨v,h1,h2,h3⟩
   rw[want_none,Option.isNone_iff_eq_none] at h3
   exact⟨v,h1,h2,h3⟩
 · rintro⟨v,h1,h2,h3⟩
   exact⟨v,h1,h2,by rw[want_none,h3];rfl⟩
theorem Lk.some_seen {k:Lk}(hk:k.ok=true){c:Nat}(hc:c<32):∃v,v<128∧k.sees c v=true:=by
 obtain⟨h1,h2,h3,h4⟩:=Lk.ok_in hk
 obtain⟨v,hv⟩:=Lk.sees_some (k:=k) h2.1 h1.2.1 h2.2.1 h3.2.1 h4.2.1 hc
 refine⟨v,?_,hv⟩
 unfold Lk.sees at hv
 rw[List.any_eq_true] at hv
 obtain⟨s,hs,h⟩:=hv
 obtain⟨a,r,n,f,_,g2,_,_,rfl⟩:=Lk.mem_stgs.1 hs
 obtain⟨x,hx,rfl⟩:=(Stg.reach_all (by show 0<r;omega)).1 h
 exact Stg.leaves_lt _ _ _ _ _ _ (by decide) hx
def Lk.refusedR(k:Lk)(c:Nat):Int:=if(keepTo (k.canRead c) 32).length=0 then 1 else if k.bad c then 0 else 2
theorem Lk.refused_ref {k:Lk}(hk:k.ok=true){c:Nat}(hc:c<32):k.refusedR c=k.refused c:=by
 unfold Lk.refusedR Lk.refused
 by_cases h:(keepTo (k.canRead c) 32).length=0
 · obtain⟨v,hv,hs⟩:=Lk.some_seen hk hc
   have hb:k.bad c=true:=by
     rw[Lk.bad_iff]
     cases hr:readN v with
     | none=> exact⟨v,hv,hs,hr⟩
     | some n=>
       have:=readN_see hv hs hr
       rw[keepI_empty.1 h n this.1] at this
       cases this.2
   rw[if_pos h,if_pos hb,if_pos h]
 · rw[if_neg h,if_neg h]
def Lk.claimR(k:Lk)(c:Nat):Int:=if(k.wrong c).isNone then 1 else if k.canRead c c then 0 else 2
theorem Lk.claim_ref {k:Lk}(hk:k.ok=true){c:Nat}(hc:c<32):k.claimR c=k.claim c:=by
 have hr:=right_code c hc
 have hr0:=(Lk.ok_in hk).2.1.1
 obtain⟨v,hv,hs⟩:=Lk.some_seen hk hc
 unfold Lk.claimR Lk.claim Lk.canRead
 rw[←hr]
 have hlt:=rightTo_lt c hc
 by_cases hw:k.wrong c=none
 · have h1:=(Lk.wrong_sees hr0).1 hw
   have hsr:k.sees c (rightN c)=true:=by rw[←h1 v hs];exact hs
   have h2:k.seen c=1:=by
     unfold Lk.seen
     have e:(List.range 128).filter (k.sees c)=(List.range 128).filter (fun w=> w==rightN c):=List.filter_congr fun w hw'=> by
       by_cases e:w=rightN c
       · rw[e,hsr];simp
       · rw[beq_eq_false_iff_ne.2 e]
         cases h:k.sees c w with
         | false=> rfl
         | true=> exact(e (h1 w h)).elim
     rw[e]
     have:∀r:Nat,r<128→((List.range 128).filter fun w=> w==r).length=1:=by decide +kernel
     exact this _ hlt
   rw[hw,hsr,h2]
   rfl
 · rw[if_neg (by rw[Option.isNone_iff_eq_none];exact hw)]
   by_cases hsr:k.sees c (rightN c)=true
   · rw[if_pos hsr,if_pos hsr,if_neg]
     intro h1
     refine hw ((Lk.wrong_sees hr0).2 fun w hws=> ?_)
     have hw128:w<128:=by
       unfold Lk.sees at hws
       rw[List.any_eq_true] at hws
       obtain⟨s,hs,h⟩:=hws
       obtain⟨a,r,n,f,_,g2,_,_,rfl⟩:=Lk.mem_stgs.1 hs
       obtain⟨x,hx,rfl⟩:=(Stg.reach_all (by show 0<r;omega)).1 h
       exact Stg.leaves_lt _ _ _ _ _ _ (by decide) hx
     unfold Lk.seen at h1
     obtain⟨y,hy⟩:=List.length_eq_one_iff.1 h1
     have m1:w∈(List.range 128).filter (k.sees c):=List.mem_filter.2 ⟨List.mem_range.2 hw128,hws⟩
     have m2:rightN c∈(List.range 128).filter (k.sees c):=List.mem_filter.2 ⟨List.mem_range.2 hlt,hsr⟩
     rw[hy,List.mem_singleton] at m1 m2
     rw[m1,m2]
   · rw[if_neg hsr,if_neg hsr]
end Go.Proofs.YtpdaenfglbgfkaaGreatDoor
end
section
namespace Go.Proofs.YtpdaenfglbgfkaaGreatDoor
open Go.RL
set_option maxRecDepth 10000
set_option maxHeartbeats 8000000
section
variable(M:Md Tryz.prog)(H:View)
theorem IsCode_is(x:Int)(t:Bool)(ht:decide (0≤x∧x≤31)=t):CallT M 93 #[.int .i64 x] H (fun v H'=> H.le H'∧v=.bool t):=by
 refine CallT.enter (vs:= [.int .i64 x]) Tryz.func93 rfl Tryz.ntmps93 (Nat.le_of_ble_eq_true rfl) (SymSt.nil _) fun St c cs hK=> ?_
 refine .sr ?_
 refine .g ?_
 refine .done (.sr ?_)
 refine .m ?_
 refine .c rfl rfl rfl rfl (fun H hs=> .f ca59 rfl (CallT.is (.bool t) (by rewrite [ht];rfl) (In_c M H x 0 31))) ?_
 refine .g ?_
 refine .done ?_
 refine .rt hK Tryz.func93 Tryz.results93 [_] ?_
 exact fun H' hs=> ⟨hs.base,rfl⟩
theorem refLink_is(k:Lk)(t:Bool)(ht:k.ok=t)(n:Int)(hn:n=if t then 0 else 1):CallT M 61 #[k.val] H (fun v H'=> H.le H'∧v=.int .i64 n):=
 CallT.mono (refLink_c M H k) (by rintro v H' ⟨h1,h2⟩;rw[ht] at h2;rw[hn];exact⟨h1,h2⟩)
theorem First_any(k:Lk)(hk:k.ok=true)(co:Nat)(hc:co<32)(want:Int)(hw: -1≤want∧want≤32)(t:Bool)(ht:(k.first want co).isSome=t):
   CallT M 94 #[k.val,.int .i64 co,.int .i64 want] H (fun v H'=> H.le H'∧∃x:Int×Int×Int×Gl 3 1,v=.tuple ⟨[pastV x.1 x.2.1 x.2.2.1 x.2.2.2,.bool t]⟩∧True∧∀y∈x.2.2.2.bl,H' y.1=some y.2∧H y.1=none):=
 CallT.mono (First_c M H k hk co hc want hw) (by
   rintro v H' ⟨h1,h2⟩
   refine⟨h1,?_⟩
   cases hf:k.first want co with
   | none=>
     rw[hf] at h2 ht
     simp only[Option.isSome_none] at ht
     subst ht
     exact⟨(0,0,0,Gl.nil 3 1),h2,trivial,by simp[Gl.nil,Gl.bl]⟩
   | some w=>
     obtain⟨a,r,n,mv⟩:=w
     rw[hf] at h2 ht
     simp only[Option.isSome_some] at ht
     subst ht
     obtain⟨g,h3,_,h4⟩:=h2
     exact⟨(a,r,n,g),h3,trivial,h4⟩)
theorem IsSure_is(k:Lk)(hk:k.ok=true)(co:Nat)(hc:co<32)(t:Bool)(ht:k.sureOf co=t):CallT M 96 #[k.val,.int .i64 (co:Nat)] H (fun v H'=> H.le H'∧v=.bool t):=by
 have hf:(k.first (-1) co).isSome=!t:=by
   rw[Lk.first_wrong hc,←ht]
   unfold Lk.sureOf
   cases k.wrong co <;> rfl
 refine CallT.enter (vs:= [k.val,.int .i64 (co:Nat)]) Tryz.func96 rfl Tryz.ntmps96 (Nat.le_of_ble_eq_true rfl) (SymSt.nil _) fun St c cs hK=> ?_
 refine .sr ?_
 refine .e (.bx (zz:=fun b2=> ?_))
 refine .g ?_
 refine .done (.sr ?_)
 refine .x (.ld 0) ?_
 refine .m ?_
 refine .e (Or.callNew (fun x:Int×Int×Int×Gl 3 1=> .tuple ⟨[pastV x.1 x.2.1 x.2.2.1 x.2.2.2,.bool (!t)]⟩) (fun x=> x.2.2.2.bl) (fun _=> True) rfl rfl rfl rfl rfl (by decide) (fun x=> gl_nodup x.2.2.2) (fun H hs=> .f ca94 rfl (First_any M H k hk co hc (-1) ⟨by decide,by decide⟩ (!t) hf)) (fun x hx=> ?_))
 refine .m ?_
 refine .x .et ?_
 refine .x .et ?_
 refine .e (.al (zz:=fun b5=> ?_))
 refine .e (.st 0 (zz:=?_))
 refine .g ?_
 refine .done ?_
 refine Tc.db (R':= [(6,.bool (!t))]) (L':= []) ?_
 cases t
 · refine .sr ?_
   refine .m ?_
   refine .x .nt ?_
   refine .g ?_
   refine .done ?_
   refine .rt hK Tryz.func96 Tryz.results96 [_] ?_
   exact fun H' hs=> ⟨hs.base,rfl⟩
 · refine .sr ?_
   refine .m ?_
   refine .x .nt ?_
   refine .g ?_
   refine .done ?_
   refine .rt hK Tryz.func96 Tryz.results96 [_] ?_
   exact fun H' hs=> ⟨hs.base,rfl⟩
theorem SureOf_c(k:Lk)(hk:k.ok=true):CallT M 99 #[k.val] H (fun v H'=> H.le H'∧∃g:Gl 3 1,v=g.val∧g.l=keepTo k.sureOf 32∧∀x∈g.bl,H' x.1=some x.2∧H x.1=none):=by
 refine CallT.enter (vs:= [k.val]) Tryz.func99 rfl Tryz.ntmps99 (Nat.le_of_ble_eq_true rfl) (SymSt.nil _) fun St c cs hK=> ?_
 refine .sr ?_
 refine .e (.bx (zz:=fun b1=> ?_))
 refine .g ?_
 refine .done (.sr ?_)
 refine .g ?_
 refine .done (.seq (.sr ?_))
 refine .g ?_
 refine .done (.block ?_)
 refine Tc.db (Tc.loopInv (σ:= { s:Nat×Gl 3 1//s.1≤32∧s.2.l=keepTo k.sureOf s.1 })
   (fun s=> ([(1,.pointer (some ⟨b1,0,none⟩)),(3,s.1.2.val),(4,.int .i64 (s.1.1:Nat))],(b1,true,.cells ⟨k.val.cells.toList⟩ 27 (0,0))::s.1.2.bl)) (fun s=> 32-s.1.1) ?_ ⟨(0,Gl.nil 3 1),by decide,rfl⟩)
 rintro⟨⟨i,g⟩,g1,g2⟩ ih
 simp only at g1 g2
 have hgn:g.n≤32:=by
   have h1:=g.hl
   rw[g2] at h1
   have h2:=keepTo_len k.sureOf i
   omega
 show Tc M St _ _ _ _ [(1,.pointer (some ⟨b1,0,none⟩)),(3,g.val),(4,.int .i64 (i:Nat))] ((b1,true,.cells ⟨k.val.cells.toList⟩ 27 (0,0))::g.bl) _ _
 by_cases c1:i=32
 · subst c1
   refine .seq (.sr ?_)
   refine .m ?_
   refine .i ?_ (z:=leq_f (by omega))
   refine .done (.ff rfl (.exit rfl (.sr ?_)))
   refine .m ?_
   refine .g ?_
   refine .done ?_
   refine .rt hK Tryz.func99 Tryz.results99 [_] ?_
   exact fun H' hs=> ⟨hs.base,g,rfl,g2,fun x hx=> ⟨hs.at_ x (by simp[hx]),hs.out x (by simp[hx])⟩⟩
 · cases hso:k.sureOf i with
   | true=>
     refine .seq (.sr ?_)
     refine .m ?_
     refine .i ?_ (z:=leq_t (by omega))
     refine .done (.tt rfl (.skip (.seq (.block (.sr ?_)))))
     refine .x (.ld 0) ?_
     refine .m ?_
     refine .c rfl rfl rfl rfl (fun H hs=> .f ca96 rfl (IsSure_is M H k hk i (by omega) true hso)) ?_
     refine .done (.tt rfl (.r ?_))
     refine .m ?_
     refine .m ?_
     refine .e (.bs (zz:=fun bs=> ?_))
     refine .e (Or.append (E:=en) 2 rfl rfl rfl rfl rfl rfl rfl rfl rfl rfl rfl rfl rfl rfl rfl (fun H hs=> SrcAt.of (hs.get (i:=0) rfl) (Nat.le_of_ble_eq_true rfl)) rfl (by omega) rfl (by decide) (fun g' hn' hl=> ?_))
     refine .g ?_
     refine .done (.inBlock (.r ?_))
     refine .m ?_
     refine .i ?_ (z:=add_in (by omega) (by omega))
     refine .g ?_
     refine .done ?_
     exact Tc.db (ih ⟨(i+1,g'),by simp only;omega,by simp only;rw[hl,g2,keepTo_succ,hso,if_pos rfl];rfl⟩ (by simp only;omega))
   | false=>
     refine .seq (.sr ?_)
     refine .m ?_
     refine .i ?_ (z:=leq_t (by omega))
     refine .done (.tt rfl (.skip (.seq (.block (.sr ?_)))))
     refine .x (.ld 0) ?_
     refine .m ?_
     refine .c rfl rfl rfl rfl (fun H hs=> .f ca96 rfl (IsSure_is M H k hk i (by omega) false hso)) ?_
     refine .done (.ff rfl (.skip (.inBlock (.r ?_))))
     refine .m ?_
     refine .i ?_ (z:=add_in (by omega) (by omega))
     refine .g ?_
     refine .done ?_
     exact Tc.db (ih ⟨(i+1,g),by simp only;omega,by simp only;rw[keepTo_succ,hso];exact g2⟩ (by simp only;omega))
theorem refSure_yes(k:Lk)(hk:k.ok=true):CallT M 27 #[k.val] H (ToldQ (keepTo k.sureOf 32) H):=by
 refine CallT.enter (vs:= [k.val]) Tryz.func27 rfl Tryz.ntmps27 (Nat.le_of_ble_eq_true rfl) (SymSt.nil _) fun St c cs hK=> ?_
 refine .sr ?_
 refine .e (.bx (zz:=fun b1=> ?_))
 refine .g ?_
 refine .g ?_
 refine .done (.seq (.sr ?_))
 refine .x (.ld 0) ?_
 refine .c rfl rfl rfl rfl (fun H hs=> .f ca61 rfl (refLink_is M H k true hk 0 rfl)) ?_
 refine .g ?_
 refine .done (.sr ?_)
 refine .m ?_
 refine .i ?_ (z:=neq_f (by omega))
 refine .done (.ff rfl (.skip (.sr ?_)))
 refine .x (.ld 0) ?_
 refine .e (Or.callNew Gl.val Gl.bl (fun g:Gl 3 1=> g.l=keepTo k.sureOf 32) rfl rfl rfl rfl rfl (by decide) gl_nodup (fun H hs=> .f ca99 rfl (SureOf_c M H k hk)) (fun g hg=> ?_))
 refine .g ?_
 refine .g ?_
 refine .done ?_
 refine .rt hK Tryz.func27 Tryz.results27 [_,_] ?_
 exact fun H' hs=> ⟨hs.base,g,rfl,hg,fun y hy=> ⟨hs.at_ y (by simp[hy]),hs.out y (by simp[hy])⟩⟩
theorem refSure_no(k:Lk)(hk:k.ok=false):CallT M 27 #[k.val] H (fun v H'=> H.le H'∧v=.tuple ⟨[.slice none 0 0,.int .i64 1]⟩):=by
 refine CallT.enter (vs:= [k.val]) Tryz.func27 rfl Tryz.ntmps27 (Nat.le_of_ble_eq_true rfl) (SymSt.nil _) fun St c cs hK=> ?_
 refine .sr ?_
 refine .e (.bx (zz:=fun b1=> ?_))
 refine .g ?_
 refine .g ?_
 refine .done (.seq (.sr ?_))
 refine .x (.ld 0) ?_
 refine .c rfl rfl rfl rfl (fun H hs=> .f ca61 rfl (refLink_is M H k false hk 1 rfl)) ?_
 refine .g ?_
 refine .done (.sr ?_)
 refine .m ?_
 refine .i ?_ (z:=neq_t (by omega))
 refine .done (.tt rfl (.sr ?_))
 refine .m ?_
 refine .g ?_
 refine .g ?_
 refine .done ?_
 refine .rt hK Tryz.func27 Tryz.results27 [_,_] ?_
 exact fun H' hs=> ⟨hs.base,rfl⟩
theorem refWrong_yes(k:Lk)(hk:k.ok=true)(co:Nat)(hc:co<32):CallT M 29 #[k.val,.int .i64 co] H (PastT (k.wrong co) H):=by
 have hF:=fun H'=> First_c M H' k hk co hc (-1) ⟨by decide,by decide⟩
 rw[Lk.first_wrong hc] at hF
 refine CallT.enter (vs:= [k.val,.int .i64 co]) Tryz.func29 rfl Tryz.ntmps29 (Nat.le_of_ble_eq_true rfl) (SymSt.nil _) fun St c cs hK=> ?_
 refine .sr ?_
 refine .e (.bx (zz:=fun b2=> ?_))
 refine .e (.al (zz:=fun b4=> ?_))
 refine .g ?_
 refine .g ?_
 refine .done (.seq (.sr ?_))
 refine .x (.ld 1) ?_
 refine .c rfl rfl rfl rfl (fun H hs=> .f ca61 rfl (refLink_is M H k true hk 0 rfl)) ?_
 refine .g ?_
 refine .done (.sr ?_)
 refine .m ?_
 refine .i ?_ (z:=neq_f (by omega))
 refine .done (.ff rfl (.skip (.seq (.sr ?_))))
 refine .m ?_
 refine .c rfl rfl rfl rfl (fun H hs=> .f ca93 rfl (IsCode_is M H co true (decide_eq_true (by omega)))) ?_
 refine .x .nt ?_
 refine .done (.ff rfl (.skip (.seq ?_)))
 cases hw:k.wrong co with
 | none=>
   rw[hw] at hK hF
   refine .r ?_
   refine .x (.ld 1) ?_
   refine .m ?_
   refine .c rfl rfl rfl rfl (fun H hs=> .f ca94 rfl (hF H)) ?_
   refine .m ?_
   refine .x .et ?_
   refine .x .et ?_
   refine .e (.al (zz:=fun b8=> ?_))
   refine .e (.st 0 (zz:=?_))
   refine .g ?_
   refine .done (.sr ?_)
   refine .x (.ld 0) ?_
   refine .m ?_
   refine .e (.st 1 (zz:=?_))
   refine .g ?_
   refine .g ?_
   refine .done ?_
   refine Tc.retN (E:=en) hK Tryz.func29 Tryz.results29 (vs:= [_,_,_]) (by refine⟨⟨1,_,_,_,_,_,_,_,rfl,rfl,rfl,rfl⟩,?_⟩;refine⟨rfl,?_⟩;refine⟨rfl,?_⟩;exact trivial) ?_
   exact fun H' hs=> ⟨hs.base,rfl⟩
 | some w=>
   obtain⟨s,r,n,mv⟩:=w
   rw[hw] at hK hF
   refine .r ?_
   refine .x (.ld 1) ?_
   refine .m ?_
   refine .e (Or.callNew (fun g:Gl 3 1=> .tuple ⟨[pastV s r n g,.bool true]⟩) Gl.bl (fun g=> g.l=intsL mv) rfl rfl rfl rfl rfl (by decide) gl_nodup (fun H hs=> .f ca94 rfl (hF H)) (fun g hg=> ?_))
   refine .m ?_
   refine .x .et ?_
   refine .x .et ?_
   refine .e (.al (zz:=fun b8=> ?_))
   refine .e (.st 0 (zz:=?_))
   refine .g ?_
   refine .done (.sr ?_)
   refine .x (.ld 0) ?_
   refine .m ?_
   refine .e (.st 1 (zz:=?_))
   refine .g ?_
   refine .g ?_
   refine .done ?_
   refine Tc.retN (E:=en) hK Tryz.func29 Tryz.results29 (vs:= [_,_,_]) (by refine⟨⟨1,_,_,_,_,_,_,_,rfl,rfl,rfl,rfl⟩,?_⟩;refine⟨rfl,?_⟩;refine⟨rfl,?_⟩;exact trivial) ?_
   exact fun H' hs=> ⟨hs.base,g,rfl,hg,fun y hy=> ⟨hs.at_ y (by simp[hy]),hs.out y (by simp[hy])⟩⟩
def Bad(k:Lk)(co:Int):Prop:=k.ok=false∨¬(0≤co∧co≤31)
theorem Bad.no {k:Lk}{co:Int}(h:Bad k co):¬(k.ok=true∧0≤co∧co≤31):=fun⟨h1,h2⟩=> h.elim (fun h=> by rw[h1] at h;cases h) (fun h=> h h2)
theorem refWrong_no(k:Lk)(co:Int)(h:Bad k co):CallT M 29 #[k.val,.int .i64 co] H (fun v H'=> H.le H'∧v=.tuple ⟨[.agg ⟨[.int .i64 0,.int .i64 0,.int .i64 0,.slice none 0 0]⟩,.bool false,.int .i64 1]⟩):=by
 refine CallT.enter (vs:= [k.val,.int .i64 co]) Tryz.func29 rfl Tryz.ntmps29 (Nat.le_of_ble_eq_true rfl) (SymSt.nil _) fun St c cs hK=> ?_
 refine .sr ?_
 refine .e (.bx (zz:=fun b2=> ?_))
 refine .e (.al (zz:=fun b4=> ?_))
 refine .g ?_
 refine .g ?_
 refine .done (.seq (.seq ?_))
 cases hk:k.ok with
 | false=>
   refine .r ?_
   refine .x (.ld 1) ?_
   refine .c rfl rfl rfl rfl (fun H hs=> .f ca61 rfl (refLink_is M H k false hk 1 rfl)) ?_
   refine .g ?_
   refine .done (.sr ?_)
   refine .m ?_
   refine .i ?_ (z:=neq_t (by omega))
   refine .done (.tt rfl (.sr ?_))
   refine .x .bu ?_
   refine .m ?_
   refine .e (.st 0 (zz:=?_))
   refine .g ?_
   refine .g ?_
   refine .done ?_
   refine Tc.retN (E:=en) hK Tryz.func29 Tryz.results29 (vs:= [_,_,_]) (by refine⟨⟨0,_,_,_,_,_,_,_,rfl,rfl,rfl,rfl⟩,?_⟩;refine⟨rfl,?_⟩;refine⟨rfl,?_⟩;exact trivial) ?_
   exact fun H' hs=> ⟨hs.base,rfl⟩
 | true=>
   refine .r ?_
   refine .x (.ld 1) ?_
   refine .c rfl rfl rfl rfl (fun H hs=> .f ca61 rfl (refLink_is M H k true hk 0 rfl)) ?_
   refine .g ?_
   refine .done (.sr ?_)
   refine .m ?_
   refine .i ?_ (z:=neq_f (by omega))
   refine .done (.ff rfl (.skip (.seq (.sr ?_))))
   refine .m ?_
   refine .c rfl rfl rfl rfl (fun H hs=> .f ca93 rfl (IsCode_is M H co false (decide_eq_false fun h'=> h.no ⟨hk,h'⟩))) ?_
   refine .x .nt ?_
   refine .done (.tt rfl (.sr ?_))
   refine .x .bu ?_
   refine .e (.st 0 (zz:=?_))
   refine .g ?_
   refine .g ?_
   refine .done ?_
   refine Tc.retN (E:=en) hK Tryz.func29 Tryz.results29 (vs:= [_,_,_]) (by refine⟨⟨0,_,_,_,_,_,_,_,rfl,rfl,rfl,rfl⟩,?_⟩;refine⟨rfl,?_⟩;refine⟨rfl,?_⟩;exact trivial) ?_
   exact fun H' hs=> ⟨hs.base,rfl⟩
theorem refRight_no(k:Lk)(co:Int)(h:Bad k co):CallT M 25 #[k.val,.int .i64 co] H (fun v H'=> H.le H'∧v=.tuple ⟨[.int .i64 0,.int .i64 1]⟩):=by
 refine CallT.enter (vs:= [k.val,.int .i64 co]) Tryz.func25 rfl Tryz.ntmps25 (Nat.le_of_ble_eq_true rfl) (SymSt.nil _) fun St c cs hK=> ?_
 refine .sr ?_
 refine .e (.bx (zz:=fun b2=> ?_))
 refine .g ?_
 refine .g ?_
 refine .done (.seq (.seq ?_))
 cases hk:k.ok with
 | false=>
   refine .r ?_
   refine .x (.ld 0) ?_
   refine .c rfl rfl rfl rfl (fun H hs=> .f ca61 rfl (refLink_is M H k false hk 1 rfl)) ?_
   refine .g ?_
   refine .done (.sr ?_)
   refine .m ?_
   refine .i ?_ (z:=neq_t (by omega))
   refine .done (.tt rfl (.sr ?_))
   refine .m ?_
   refine .g ?_
   refine .g ?_
   refine .done ?_
   refine .rt hK Tryz.func25 Tryz.results25 [_,_] ?_
   exact fun H' hs=> ⟨hs.base,rfl⟩
 | true=>
   refine .r ?_
   refine .x (.ld 0) ?_
   refine .c rfl rfl rfl rfl (fun H hs=> .f ca61 rfl (refLink_is M H k true hk 0 rfl)) ?_
   refine .g ?_
   refine .done (.sr ?_)
   refine .m ?_
   refine .i ?_ (z:=neq_f (by omega))
   refine .done (.ff rfl (.skip (.seq (.sr ?_))))
   refine .m ?_
   refine .c rfl rfl rfl rfl (fun H hs=> .f ca93 rfl (IsCode_is M H co false (decide_eq_false fun h'=> h.no ⟨hk,h'⟩))) ?_
   refine .x .nt ?_
   refine .done (.tt rfl (.sr ?_))
   refine .g ?_
   refine .g ?_
   refine .done ?_
   refine .rt hK Tryz.func25 Tryz.results25 [_,_] ?_
   exact fun H' hs=> ⟨hs.base,rfl⟩
theorem refRight_yes(k:Lk)(hk:k.ok=true)(co:Nat)(hc:co<32):CallT M 25 #[k.val,.int .i64 co] H (fun v H'=> H.le H'∧v=.tuple ⟨[.int .i64 (k.claim co),.int .i64 0]⟩):=by
 rw[←Lk.claim_ref hk hc]
 refine CallT.enter (vs:= [k.val,.int .i64 co]) Tryz.func25 rfl Tryz.ntmps25 (Nat.le_of_ble_eq_true rfl) (SymSt.nil _) fun St c cs hK=> ?_
 refine .sr ?_
 refine .e (.bx (zz:=fun b2=> ?_))
 refine .g ?_
 refine .g ?_
 refine .done (.seq (.sr ?_))
 refine .x (.ld 0) ?_
 refine .c rfl rfl rfl rfl (fun H hs=> .f ca61 rfl (refLink_is M H k true hk 0 rfl)) ?_
 refine .g ?_
 refine .done (.sr ?_)
 refine .m ?_
 refine .i ?_ (z:=neq_f (by omega))
 refine .done (.ff rfl (.skip (.seq (.sr ?_))))
 refine .m ?_
 refine .c rfl rfl rfl rfl (fun H hs=> .f ca93 rfl (IsCode_is M H co true (decide_eq_true (by omega)))) ?_
 refine .x .nt ?_
 refine .done (.ff rfl (.skip (.seq (.seq ?_))))
 cases hso:k.sureOf co with
 | true=>
   have hcl:k.claimR co=1:=by unfold Lk.claimR;exact if_pos hso
   rw[hcl] at hK
   refine .r ?_
   refine .x (.ld 0) ?_
   refine .m ?_
   refine .c rfl rfl rfl rfl (fun H hs=> .f ca96 rfl (IsSure_is M H k hk co hc true hso)) ?_
   refine .done (.tt rfl (.sr ?_))
   refine .g ?_
   refine .g ?_
   refine .done ?_
   refine .rt hK Tryz.func25 Tryz.results25 [_,_] ?_
   exact fun H' hs=> ⟨hs.base,rfl⟩
 | false=>
   have hcl:k.claimR co=if k.canRead co co then 0 else 2:=by unfold Lk.claimR;exact if_neg (by intro h;have:k.sureOf co=true:=h;rw[hso] at this;cases this)
   rw[hcl] at hK
   obtain⟨t,hr⟩:∃t,k.canRead co co=t:=⟨_,rfl⟩
   rw[hr] at hK
   refine .r ?_
   refine .x (.ld 0) ?_
   refine .m ?_
   refine .c rfl rfl rfl rfl (fun H hs=> .f ca96 rfl (IsSure_is M H k hk co hc false hso)) ?_
   refine .done (.ff rfl (.skip (.seq (.sr ?_))))
   refine .x (.ld 0) ?_
   refine .m ?_
   refine .m ?_
   refine .e (Or.callNew (fun x:Int×Int×Int×Gl 3 1=> .tuple ⟨[pastV x.1 x.2.1 x.2.2.1 x.2.2.2,.bool t]⟩) (fun x=> x.2.2.2.bl) (fun _=> True) rfl rfl rfl rfl rfl (by decide) (fun x=> gl_nodup x.2.2.2) (fun H hs=> .f ca94 rfl (First_any M H k hk co hc (co:Nat) ⟨by omega,by omega⟩ t (by rw[Lk.first_code hk hc];exact hr))) (fun x hx=> ?_))
   refine .m ?_
   refine .x .et ?_
   refine .x .et ?_
   refine .e (.al (zz:=fun b7=> ?_))
   refine .e (.st 0 (zz:=?_))
   refine .g ?_
   refine .done ?_
   refine Tc.db (R':= [(8,.bool t)]) (L':= []) ?_
   cases t
   · refine .sr ?_
     refine .m ?_
     refine .x .nt ?_
     refine .done (.tt rfl (.sr ?_))
     refine .g ?_
     refine .g ?_
     refine .done ?_
     refine .rt hK Tryz.func25 Tryz.results25 [_,_] ?_
     exact fun H' hs=> ⟨hs.base,rfl⟩
   · refine .sr ?_
     refine .m ?_
     refine .x .nt ?_
     refine .done (.ff rfl (.skip (.sr ?_)))
     refine .g ?_
     refine .g ?_
     refine .done ?_
     refine .rt hK Tryz.func25 Tryz.results25 [_,_] ?_
     exact fun H' hs=> ⟨hs.base,rfl⟩
end
end Go.Proofs.YtpdaenfglbgfkaaGreatDoor
end
section
namespace Go.Proofs.YtpdaenfglbgfkaaGreatDoor
open Go.RL
set_option maxRecDepth 10000
set_option maxHeartbeats 8000000
section
variable(M:Md Tryz.prog)(H:View)
theorem Sure_no(k:Lk)(hG:Glob H)(hk:k.ok=false):CallT M 26 #[k.val] H (fun v H'=> H.le H'∧v=.tuple ⟨[.slice none 0 0,.int .i64 1]⟩):=by
 refine CallT.enter (vs:= [k.val]) Tryz.func26 rfl Tryz.ntmps26 (Nat.le_of_ble_eq_true rfl) (SymSt.nil _) fun St c cs hK=> ?_
 refine .sr ?_
 refine .e (.bx (zz:=fun b1=> ?_))
 refine .g ?_
 refine .g ?_
 refine .done (.seq (.sr ?_))
 refine .x (.ld 0) ?_
 refine .c rfl rfl rfl rfl (fun H hs=> .f ca86 rfl (checkLink_bad M H k (glob_le hG hs.base) hk)) ?_
 refine .g ?_
 refine .done (.sr ?_)
 refine .m ?_
 refine .i ?_ (z:=neq_t (by omega))
 refine .done (.tt rfl (.sr ?_))
 refine .m ?_
 refine .g ?_
 refine .g ?_
 refine .done ?_
 refine .rt hK Tryz.func26 Tryz.results26 [_,_] ?_
 exact fun H' hs=> ⟨hs.base,rfl⟩
theorem Reads_no(k:Lk)(co:Int)(hG:Glob H)(h:Bad k co):CallT M 21 #[k.val,.int .i64 co] H (fun v H'=> H.le H'∧v=.tuple ⟨[.slice none 0 0,.int .i64 0,.int .i64 1]⟩):=by
 refine CallT.enter (vs:= [k.val,.int .i64 co]) Tryz.func21 rfl Tryz.ntmps21 (Nat.le_of_ble_eq_true rfl) (SymSt.nil _) fun St c cs hK=> ?_
 refine .sr ?_
 refine .e (.bx (zz:=fun b2=> ?_))
 refine .g ?_
 refine .g ?_
 refine .g ?_
 refine .done (.sr ?_)
 refine .x (.ld 0) ?_
 refine .m ?_
 refine .c rfl rfl rfl rfl (fun H hs=> .f ca89 rfl (open_no M H k co (glob_le hG hs.base) h.no)) ?_
 refine .m ?_
 refine .x .et ?_
 refine .x .et ?_
 refine .x .et ?_
 refine .e (.al (zz:=fun b7=> ?_))
 refine .e (.al (zz:=fun b8=> ?_))
 refine .e (.st 1 (zz:=?_))
 refine .e (.st 0 (zz:=?_))
 refine .g ?_
 refine .done (.seq (.sr ?_))
 refine .m ?_
 refine .i ?_ (z:=neq_t (by omega))
 refine .done (.tt rfl (.sr ?_))
 refine .m ?_
 refine .g ?_
 refine .g ?_
 refine .g ?_
 refine .done ?_
 refine .rt hK Tryz.func21 Tryz.results21 [_,_,_] ?_
 exact fun H' hs=> ⟨hs.base,rfl⟩
theorem Right_no(k:Lk)(co:Int)(hG:Glob H)(h:Bad k co):CallT M 24 #[k.val,.int .i64 co] H (fun v H'=> H.le H'∧v=.tuple ⟨[.int .i64 0,.int .i64 1]⟩):=by
 refine CallT.enter (vs:= [k.val,.int .i64 co]) Tryz.func24 rfl Tryz.ntmps24 (Nat.le_of_ble_eq_true rfl) (SymSt.nil _) fun St c cs hK=> ?_
 refine .sr ?_
 refine .e (.bx (zz:=fun b2=> ?_))
 refine .g ?_
 refine .g ?_
 refine .done (.sr ?_)
 refine .x (.ld 0) ?_
 refine .m ?_
 refine .c rfl rfl rfl rfl (fun H hs=> .f ca89 rfl (open_no M H k co (glob_le hG hs.base) h.no)) ?_
 refine .m ?_
 refine .x .et ?_
 refine .x .et ?_
 refine .x .et ?_
 refine .e (.al (zz:=fun b6=> ?_))
 refine .e (.al (zz:=fun b7=> ?_))
 refine .e (.st 1 (zz:=?_))
 refine .e (.st 0 (zz:=?_))
 refine .g ?_
 refine .done (.seq (.sr ?_))
 refine .m ?_
 refine .i ?_ (z:=neq_t (by omega))
 refine .done (.tt rfl (.sr ?_))
 refine .m ?_
 refine .g ?_
 refine .g ?_
 refine .done ?_
 refine .rt hK Tryz.func24 Tryz.results24 [_,_] ?_
 exact fun H' hs=> ⟨hs.base,rfl⟩
theorem Wrong_no(k:Lk)(co:Int)(hG:Glob H)(h:Bad k co):CallT M 28 #[k.val,.int .i64 co] H (fun v H'=> H.le H'∧v=.tuple ⟨[.agg ⟨[.int .i64 0,.int .i64 0,.int .i64 0,.slice none 0 0]⟩,.bool false,.int .i64 1]⟩):=by
 refine CallT.enter (vs:= [k.val,.int .i64 co]) Tryz.func28 rfl Tryz.ntmps28 (Nat.le_of_ble_eq_true rfl) (SymSt.nil _) fun St c cs hK=> ?_
 refine .sr ?_
 refine .e (.bx (zz:=fun b2=> ?_))
 refine .e (.al (zz:=fun b4=> ?_))
 refine .g ?_
 refine .g ?_
 refine .done (.sr ?_)
 refine .x (.ld 1) ?_
 refine .m ?_
 refine .c rfl rfl rfl rfl (fun H hs=> .f ca89 rfl (open_no M H k co (glob_le hG hs.base) h.no)) ?_
 refine .m ?_
 refine .x .et ?_
 refine .x .et ?_
 refine .x .et ?_
 refine .e (.al (zz:=fun b7=> ?_))
 refine .e (.al (zz:=fun b8=> ?_))
 refine .e (.st 1 (zz:=?_))
 refine .e (.st 0 (zz:=?_))
 refine .g ?_
 refine .done (.seq (.sr ?_))
 refine .m ?_
 refine .i ?_ (z:=neq_t (by omega))
 refine .done (.tt rfl (.sr ?_))
 refine .x .bu ?_
 refine .m ?_
 refine .e (.st 2 (zz:=?_))
 refine .g ?_
 refine .g ?_
 refine .done ?_
 refine Tc.retN (E:=en) hK Tryz.func28 Tryz.results28 (vs:= [_,_,_]) (by refine⟨⟨2,_,_,_,_,_,_,_,rfl,rfl,rfl,rfl⟩,?_⟩;refine⟨rfl,?_⟩;refine⟨rfl,?_⟩;exact trivial) ?_
 exact fun H' hs=> ⟨hs.base,rfl⟩
theorem refReads_no(k:Lk)(co:Int)(h:Bad k co):CallT M 22 #[k.val,.int .i64 co] H (fun v H'=> H.le H'∧v=.tuple ⟨[.slice none 0 0,.int .i64 0,.int .i64 1]⟩):=by
 refine CallT.enter (vs:= [k.val,.int .i64 co]) Tryz.func22 rfl Tryz.ntmps22 (Nat.le_of_ble_eq_true rfl) (SymSt.nil _) fun St c cs hK=> ?_
 refine .sr ?_
 refine .e (.bx (zz:=fun b2=> ?_))
 refine .g ?_
 refine .g ?_
 refine .g ?_
 refine .done (.seq (.seq ?_))
 cases hk:k.ok with
 | false=>
   refine .r ?_
   refine .x (.ld 0) ?_
   refine .c rfl rfl rfl rfl (fun H hs=> .f ca61 rfl (refLink_is M H k false hk 1 rfl)) ?_
   refine .g ?_
   refine .done (.sr ?_)
   refine .m ?_
   refine .i ?_ (z:=neq_t (by omega))
   refine .done (.tt rfl (.sr ?_))
   refine .m ?_
   refine .g ?_
   refine .g ?_
   refine .g ?_
   refine .done ?_
   refine .rt hK Tryz.func22 Tryz.results22 [_,_,_] ?_
   exact fun H' hs=> ⟨hs.base,rfl⟩
 | true=>
   refine .r ?_
   refine .x (.ld 0) ?_
   refine .c rfl rfl rfl rfl (fun H hs=> .f ca61 rfl (refLink_is M H k true hk 0 rfl)) ?_
   refine .g ?_
   refine .done (.sr ?_)
   refine .m ?_
   refine .i ?_ (z:=neq_f (by omega))
   refine .done (.ff rfl (.skip (.seq (.sr ?_))))
   refine .m ?_
   refine .c rfl rfl rfl rfl (fun H hs=> .f ca93 rfl (IsCode_is M H co false (decide_eq_false fun h'=> h.no ⟨hk,h'⟩))) ?_
   refine .x .nt ?_
   refine .done (.tt rfl (.sr ?_))
   refine .g ?_
   refine .g ?_
   refine .g ?_
   refine .done ?_
   refine .rt hK Tryz.func22 Tryz.results22 [_,_,_] ?_
   exact fun H' hs=> ⟨hs.base,rfl⟩
theorem refReads_yes(k:Lk)(hk:k.ok=true)(co:Nat)(hc:co<32):CallT M 22 #[k.val,.int .i64 co] H (fun v H'=> H.le H'∧∃g:Gl 3 1,v=.tuple ⟨[g.val,.int .i64 (k.refused co),.int .i64 0]⟩∧g.l=keepTo (k.canRead co) 32∧∀x∈g.bl,H' x.1=some x.2∧H x.1=none):=by
 rw[←Lk.refused_ref hk hc]
 obtain⟨F,hF⟩:∃F,k.refusedR co=F:=⟨_,rfl⟩
 rw[hF]
 refine CallT.enter (vs:= [k.val,.int .i64 co]) Tryz.func22 rfl Tryz.ntmps22 (Nat.le_of_ble_eq_true rfl) (SymSt.nil _) fun St c cs hK=> ?_
 refine .sr ?_
 refine .e (.bx (zz:=fun b2=> ?_))
 refine .g ?_
 refine .g ?_
 refine .g ?_
 refine .done (.seq (.sr ?_))
 refine .x (.ld 0) ?_
 refine .c rfl rfl rfl rfl (fun H hs=> .f ca61 rfl (refLink_is M H k true hk 0 rfl)) ?_
 refine .g ?_
 refine .done (.sr ?_)
 refine .m ?_
 refine .i ?_ (z:=neq_f (by omega))
 refine .done (.ff rfl (.skip (.seq (.sr ?_))))
 refine .m ?_
 refine .c rfl rfl rfl rfl (fun H hs=> .f ca93 rfl (IsCode_is M H co true (decide_eq_true (by omega)))) ?_
 refine .x .nt ?_
 refine .done (.ff rfl (.skip (.sr ?_)))
 refine .g ?_
 refine .done (.seq (.sr ?_))
 refine .g ?_
 refine .done (.block ?_)
 refine Tc.db (Tc.loopInv (σ:= { s:Nat×Gl 3 1//s.1≤32∧s.2.l=keepTo (k.canRead co) s.1 })
   (fun s=> ([(1,.int .i64 co),(2,.pointer (some ⟨b2,0,none⟩)),(8,s.1.2.val),(9,.int .i64 (s.1.1:Nat))],(b2,true,.cells ⟨k.val.cells.toList⟩ 27 (0,0))::s.1.2.bl)) (fun s=> 32-s.1.1) ?_ ⟨(0,Gl.nil 3 1),by decide,rfl⟩)
 rintro⟨⟨i,g⟩,g1,g2⟩ ih
 simp only at g1 g2
 have hlen:g.n=(keepTo (k.canRead co) i).length:=by
   have h1:=g.hl
   rw[g2] at h1
   omega
 have hgn:g.n≤32:=by
   have h2:=keepTo_len (k.canRead co) i
   omega
 show Tc M St _ _ _ _ [(1,.int .i64 co),(2,.pointer (some ⟨b2,0,none⟩)),(8,g.val),(9,.int .i64 (i:Nat))] ((b2,true,.cells ⟨k.val.cells.toList⟩ 27 (0,0))::g.bl) _ _
 by_cases c1:i=32
 · subst c1
   clear ih
   refine .seq (.sr ?_)
   refine .m ?_
   refine .i ?_ (z:=leq_f (by omega))
   refine .done (.ff rfl (.exit rfl (.seq (.seq ?_))))
   by_cases h0:g.n=0
   · have hr:F=1:=by rw[←hF];unfold Lk.refusedR;rw[if_pos (by omega)]
     rw[hr] at hK
     refine .r ?_
     refine .m ?_
     refine .x .ln ?_
     refine .i ?_ (z:=eql_t (by omega))
     refine .done (.tt rfl (.sr ?_))
     refine .g ?_
     refine .g ?_
     refine .g ?_
     refine .done ?_
     refine .rt hK Tryz.func22 Tryz.results22 [_,_,_] ?_
     exact fun H' hs=> ⟨hs.base,Gl.nil 3 1,rfl,(List.eq_nil_of_length_eq_zero (by omega)).symm,by simp[Gl.nil,Gl.bl]⟩
   · obtain⟨t,hb⟩:∃t,k.bad co=t:=⟨_,rfl⟩
     have hr:F=if t then 0 else 2:=by rw[←hF,←hb];unfold Lk.refusedR;rw[if_neg (by omega)]
     rw[hr] at hK
     refine .r ?_
     refine .m ?_
     refine .x .ln ?_
     refine .i ?_ (z:=eql_f (by omega))
     refine .done (.ff rfl (.skip (.seq (.sr ?_))))
     refine .x (.ld 0) ?_
     refine .m ?_
     refine .e (Or.callNew (fun x:Int×Int×Int×Gl 3 1=> .tuple ⟨[pastV x.1 x.2.1 x.2.2.1 x.2.2.2,.bool t]⟩) (fun x=> x.2.2.2.bl) (fun _=> True) rfl rfl rfl rfl rfl (by decide) (fun x=> gl_nodup x.2.2.2) (fun H hs=> .f ca94 rfl (First_any M H k hk co hc 32 ⟨by omega,by omega⟩ t (by rw[Lk.first_bad hk];exact hb))) (fun x hx=> ?_))
     refine .m ?_
     refine .x .et ?_
     refine .x .et ?_
     refine .e (.al (zz:=fun b12=> ?_))
     refine .e (.st 0 (zz:=?_))
     refine .g ?_
     refine .done ?_
     refine Tc.db (R':= [(8,g.val),(13,.bool t)]) (L':=(b2,true,.cells ⟨k.val.cells.toList⟩ 27 (0,0))::g.bl) ?_
     cases t
     · refine .sr ?_
       refine .m ?_
       refine .done (.ff rfl (.skip (.sr ?_)))
       refine .m ?_
       refine .g ?_
       refine .g ?_
       refine .g ?_
       refine .done ?_
       refine .rt hK Tryz.func22 Tryz.results22 [_,_,_] ?_
       exact fun H' hs=> ⟨hs.base,g,rfl,g2,fun x hx=> ⟨hs.at_ x (by simp[hx]),hs.out x (by simp[hx])⟩⟩
     · refine .sr ?_
       refine .m ?_
       refine .done (.tt rfl (.sr ?_))
       refine .m ?_
       refine .g ?_
       refine .g ?_
       refine .g ?_
       refine .done ?_
       refine .rt hK Tryz.func22 Tryz.results22 [_,_,_] ?_
       exact fun H' hs=> ⟨hs.base,g,rfl,g2,fun x hx=> ⟨hs.at_ x (by simp[hx]),hs.out x (by simp[hx])⟩⟩
 · obtain⟨t,hr⟩:∃t,k.canRead co i=t:=⟨_,rfl⟩
   refine .seq (.sr ?_)
   refine .m ?_
   refine .i ?_ (z:=leq_t (by omega))
   refine .done (.tt rfl (.skip (.seq (.block (.sr ?_)))))
   refine .x (.ld 0) ?_
   refine .m ?_
   refine .m ?_
   refine .e (Or.callNew (fun x:Int×Int×Int×Gl 3 1=> .tuple ⟨[pastV x.1 x.2.1 x.2.2.1 x.2.2.2,.bool t]⟩) (fun x=> x.2.2.2.bl) (fun _=> True) rfl rfl rfl rfl rfl (by decide) (fun x=> gl_nodup x.2.2.2) (fun H hs=> .f ca94 rfl (First_any M H k hk co hc (i:Nat) ⟨by omega,by omega⟩ t (by rw[Lk.first_code hk (by omega)];exact hr))) (fun x hx=> ?_))
   refine .m ?_
   refine .x .et ?_
   refine .x .et ?_
   refine .e (.al (zz:=fun b10=> ?_))
   refine .e (.st 0 (zz:=?_))
   refine .g ?_
   refine .done ?_
   refine Tc.db (R':= [(1,.int .i64 co),(2,.pointer (some ⟨b2,0,none⟩)),(8,g.val),(9,.int .i64 (i:Nat)),(11,.bool t)]) (L':=(b2,true,.cells ⟨k.val.cells.toList⟩ 27 (0,0))::g.bl) ?_
   cases t
   · refine .sr ?_
     refine .m ?_
     refine .done (.ff rfl (.skip (.inBlock (.r ?_))))
     refine .m ?_
     refine .i ?_ (z:=add_in (by omega) (by omega))
     refine .g ?_
     refine .done ?_
     exact Tc.db (ih ⟨(i+1,g),by simp only;omega,by simp only;rw[keepTo_succ,hr];exact g2⟩ (by simp only;omega))
   · refine .sr ?_
     refine .m ?_
     refine .done (.tt rfl (.r ?_))
     refine .m ?_
     refine .m ?_
     refine .e (.bs (zz:=fun bs=> ?_))
     refine .e (Or.append (E:=en) 2 rfl rfl rfl rfl rfl rfl rfl rfl rfl rfl rfl rfl rfl rfl rfl (fun H hs=> SrcAt.of (hs.get (i:=0) rfl) (Nat.le_of_ble_eq_true rfl)) rfl (by omega) rfl (by decide) (fun g' hn' hl=> ?_))
     refine .g ?_
     refine .done (.inBlock (.r ?_))
     refine .m ?_
     refine .i ?_ (z:=add_in (by omega) (by omega))
     refine .g ?_
     refine .done ?_
     exact Tc.db (ih ⟨(i+1,g'),by simp only;omega,by simp only;rw[hl,g2,keepTo_succ,hr,if_pos rfl];rfl⟩ (by simp only;omega))
end
end Go.Proofs.YtpdaenfglbgfkaaGreatDoor
end
