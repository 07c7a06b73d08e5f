/-
  Texts of the proofs over baudot/signal: F3 F4 E3 E4 F5 F6 Draw3 H1 R2 L1 L2 L3 H2 L4 Perm H4 H6 R3 R6 M1 M2 M3.
-/
import Derived.Test.YtpdaenfglbgfkaaGreatDoorT06
import Derived.Deep.Slices
section
namespace Go.Proofs.YtpdaenfglbgfkaaGreatDoor
open Go.RL Go.Conc Go.ConcN Go.RL.Au
open Go.ConcR (stA smA)
open Go.ConcM (muA msA)
set_option maxRecDepth 10000
set_option maxHeartbeats 4000000
theorem ro_some {H:View}{b:Nat}{f:Bool}{o:Obj}(h:H b=some (f,o)):ro H b=some (false,o):=by simp[ro,h]
theorem ro_none {H:View}{b:Nat}(h:H b=none):ro H b=none:=by simp[ro,h]
theorem ChAt.of {H H':View}{c:Ch}{lb lo lc:Nat}{A:Option Addr}(h:ChAt H c lb lo lc A)(k:∀b f o,H b=some (f,o)→∃f',H' b=some (f',o)):ChAt H' c lb lo lc A:=by
 obtain⟨⟨f,gs,gt,gz,h1,h2⟩,h3,h4⟩:=h
 obtain⟨f',h1'⟩:=k _ _ _ h1
 refine⟨⟨f',gs,gt,gz,h1',h2⟩,h3,fun hm=> ?_⟩
 obtain⟨ab,ao,f,gs,gt,gz,h5,h6,h7⟩:=h4 hm
 obtain⟨f',h6'⟩:=k _ _ _ h6
 exact⟨ab,ao,f',gs,gt,gz,h5,h6',h7⟩
theorem Glob.of {H H':View}(h:Glob H)(k:∀b f o,H b=some (f,o)→∃f',H' b=some (f',o)):Glob H':=by
 obtain⟨f,gt,gz,h⟩:=h
 obtain⟨f',h'⟩:=k _ _ _ h
 exact⟨f',gt,gz,h'⟩
structure StAt(X:Fk)(c:Ch)(H:View)(b1 b7 lb lo lc ac:Nat)(A:Option Addr):Prop where
 ne:X.Mu≠X.Wg
 good:c.Good
 n:X.n=c.m+1
 ch:ChAt H c lb lo lc A
 h1:∃f,H b1=some (f,.cells ⟨(c.val lb lo lc ac A).cells.toList⟩ 146 (0,0))
 h7:∃f,H b7=some (f,.cells ⟨[.map (some X.C)]⟩ 212 (0,0))
 glob:Glob H
 C0:H X.C=none
 GI:X.GI=GIc c
theorem StAt.of {X:Fk}{c:Ch}{H H':View}{b1 b7 lb lo lc ac:Nat}{A:Option Addr}(h:StAt X c H b1 b7 lb lo lc ac A)(k:∀b f o,H b=some (f,o)→∃f',H' b=some (f',o))(h0:H' X.C=none):StAt X c H' b1 b7 lb lo lc ac A:=
 ⟨h.ne,h.good,h.n,h.ch.of k,let ⟨_,g⟩:=h.h1;k _ _ _ g,let ⟨_,g⟩:=h.h7;k _ _ _ g,h.glob.of k,h0,h.GI⟩
abbrev b120:FB:=⟨120,.normal,none⟩
noncomputable def L120:Code:=cR (cL (cR (cR (cR (cR (bodyOf Tryz.f120))))))
noncomputable def B120:Code:=cB (cB L120)
noncomputable def T120:Code:=cR (cR (cR (cR (cR (bodyOf Tryz.f120)))))
section
variable {X:Fk}{c:Ch}{b1 b7 lb lo lc ac:Nat}{A:Option Addr}{Fin:Goroutine→Prop}{cs:List Frame}
def rgS(X:Fk)(c:Ch)(b1 b7 j:Nat):Rg:= [(1,.pointer (some ⟨b1,0,none⟩)),(2,.int .i64 0),(3,.int .i64 0),(4,.bool false),(5,.pointer (some ⟨X.Mu,0,none⟩)),(6,.pointer (some ⟨X.Wg,0,none⟩)),(7,.pointer (some ⟨b7,0,none⟩)),(13,.int .i64 ((c.m:Nat)+1)),(14,.int .i64 (j:Nat))]
theorem start_loop(hfin:∀(R:Rg),AllIn (rgS X c b1 b7 (c.m+1)) R→∀k (H:View),Sc (Jm Tryz.prog X Fin k .wd (c.m+1) H) 35 b120 cs R [] [.code T120]):∀(d j k:Nat) (H:View),j+d=c.m+1→StAt X c H b1 b7 lb lo lc ac A→∀(R:Rg),AllIn (rgS X c b1 b7 j) R→
   Sc (Jm Tryz.prog X Fin k (if j<X.n then .kd else .wd) j H) 35 b120 cs R [] [.code B120,.inLoop B120,.inBlock 0,.code T120]
 | 0,j,k,H,hj,hst,R,hR=> by
   have e:j=c.m+1:=by omega
   subst e
   rw[if_neg (by rw[hst.n];omega)]
   refine Sc.drop hR ?_
   unfold rgS
   refine .sq (.rg rfl rfl ?_)
   refine .i ?_ (z:=lss_f (by omega))
   refine .dn ?_
   refine Sc.seq Jm.cl (Sc.cond Jm.cl (t:=false) rfl (fun h=> nomatch h) (fun _=> ?_))
   refine .xt rfl ?_
   exact hfin _ ⟨rfl,rfl,rfl,rfl,rfl,rfl,rfl,rfl,rfl,trivial⟩ k H
 | d + 1,j,k,H,hj,hst,R,hR=> by
   rw[if_pos (by rw[hst.n];omega)]
   refine Sc.drop hR ?_
   unfold rgS
   have hmn:=hst.good.ok.m_lt
   have hn4:=hst.good.ok.n4
   refine .sq (.rg rfl rfl ?_)
   refine .i ?_ (z:=lss_t (by omega))
   refine .dn ?_
   refine Sc.seq Jm.cl (Sc.cond Jm.cl (t:=true) rfl (fun _=> ?_) (fun h=> nomatch h))
   refine .sp (.sq (.bl (.sq ?_)))
   refine Sc.none hst.C0 ?_
   refine Sc.ofTc (SymSt.nil H) ?_
   refine .r ?_
   refine .m ?_
   refine .e (.al (zz:=fun b8=> ?_))
   refine .e (.st 0 (zz:=?_))
   refine .done ?_
   refine Tc.ofSc (fun H1 hs=> Sc.stopNone (fun hC1=> ?_))
   have hst1:StAt X c H1 b1 b7 lb lo lc ac A:=hst.of (fun b f o h=> ⟨f,hs.base _ _ h⟩) hC1
   have h8:=hs.get (i:=0) rfl
   show Sc (Jm Tryz.prog X Fin k .kd j H1) 35 b120 cs _ [] _
   refine .sq (.rg rfl rfl ?_)
   refine So.callD rfl rfl rfl nofun rfl (.mk' rfl) rfl (addone_c hst.ne) ?_
   rintro v J' ⟨rfl,k',rfl⟩
   refine .dn (.rg rfl rfl ?_)
   refine So.opD Jm.cl rfl rfl rfl rfl (OpP.makeFunc rfl rfl rfl) ?_
   have hst2:StAt X c (ro H1) b1 b7 lb lo lc ac A:=hst1.of (fun b f o h=> ⟨false,ro_some h⟩) (ro_none hC1)
   refine Jm.go (f:=161) (fn:=#[]) (caps:=(wkVs X b1 b8 b7).toArray) rfl nofun rfl rfl rfl rfl rfl rfl rfl (fun k1 _=> ?_) (fun k1 _=> ?_)
   · refine .dn (.ib (.rg rfl rfl ?_))
     refine .i ?_ (z:=add_in (by omega) (by omega))
     refine .m ?_
     refine .dn ?_
     refine Sc.inLoop (by exact Jm.cl) ?_
     exact start_loop hfin d (j+1) k1 (ro H1) (by omega) hst2 _ ⟨rfl,rfl,rfl,rfl,rfl,rfl,rfl,rfl,rfl,trivial⟩
   · refine worker_c (A:=A) (lb:=lb) (lo:=lo) (lc:=lc) (ac:=ac) ⟨hst.ne,hst.good.ok,hst2.ch,hst2.h1,⟨false,ro_some h8⟩,hst2.h7,fun i hi hf=> Lk.fine (hst.good.fine i hf),by omega,hst2.glob,hst2.C0,hst.GI⟩ (fun H' D k n b cs R ds hb h=> done_d hb hst.ne h) k1
end
theorem Ph.of₁ {P:Program}{H:View}{g:Goroutine}{Po:View→Goroutine→Prop}(h:Ph₁ P H g Po):Ph P H g Po:=
 ⟨H,fun _=> none,Po,fun _ _ h=> (nomatch h),(by funext b;unfold View.plus;cases H b <;> rfl),h,fun H' g' _ hp=> by
   have e:H'.plus (fun _=> none)=H':=by funext b;unfold View.plus;cases H' b <;> rfl
   rwa [e]⟩
def View.beside(X:Fk)(H:View):View:=((H.without X.C).without X.Mu).without X.Wg
theorem beside_none {X:Fk}{H:View}:View.beside X H X.Mu=none∧View.beside X H X.Wg=none∧View.beside X H X.C=none:=by
 refine⟨?_,?_,?_⟩ <;> unfold View.beside View.without <;> simp
theorem beside_some {X:Fk}{H:View}{b:Nat}(h1:b≠X.C)(h2:b≠X.Mu)(h3:b≠X.Wg):View.beside X H b=H b:=by
 unfold View.beside
 rw[without_other h3,without_other h2,without_other h1]
theorem Ph.begin {P:Program}{H:View}{g:Goroutine}{Po:View→Goroutine→Prop}(X:Fk)(Fin:Goroutine→Prop)(o:Obj)(hn:0<X.n∧X.n≤6)(ne:X.Mu≠X.Wg∧X.Mu≠X.C∧X.Wg≠X.C)
   (hC:H X.C=some (true,o)) (hMu:H X.Mu=some (true,X.muO ⟨0,0,0,0,0⟩)) (hWg:H X.Wg=some (true,X.wgO ⟨0,0,0,0,0⟩)) (hGI:X.GI (fun _=> false) o)
   (hg:∀k,T (Mw P true X.ok) (MS P X Fin k .kd 0) (ro (View.beside X H)) g) (hPo:∀o' g',X.GI (fun i=> decide (i<X.n)) o'→Fin g'→Po ((View.beside X H).put X.C (true,o')) g'):Ph P H g Po:=by
 refine Ph.of₁ ⟨X,Fin,View.beside X H,o,hn.1,hn.2,ne,beside_none,?_,hGI,hg,hPo⟩
 funext b
 by_cases e1:b=X.Wg
 · subst e1;rw[View.put_same,hWg]
 · rw[View.put_other _ _ e1]
   by_cases e2:b=X.Mu
   · subst e2;rw[View.put_same,hMu]
   · rw[View.put_other _ _ e2]
     by_cases e3:b=X.C
     · subst e3;rw[View.put_same,hC]
     · rw[View.put_other _ _ e3,beside_some e3 e2 e1]
theorem So.all {J:Obj→Goroutine→Prop}{p:Obj→Prop}{n:Nat}{b:FB}{cs:List Frame}{dl:List (Option Tmp)}{R:Rg}{ds:List Deferred}{l:List Oper}{kk:List Item}(h:∀o,p o→So (J o) n b cs dl R ds l kk):So (fun g=> ∀o,p o→J o g) n b cs dl R ds l kk:=
 fun arr ix ha hx tmps hr o ho=> h o ho arr ix ha hx tmps hr
def Ch.isBad(c:Ch)(i:Nat):Bool:=(c.bad i).isSome
def Ch.first(c:Ch):Option Nat:=firstTo c.isBad (c.m+1)
def Ch.sec(c:Ch):Nat:=c.first.getD 0
theorem Ch.sec_le(c:Ch):c.sec≤c.m:=by
 unfold Ch.sec Ch.first
 cases h:firstTo c.isBad (c.m+1) with
 | none=> simp
 | some x=> have:=firstTo_lt h;simp;omega
theorem wF_full {c:Ch}{es:Array MapEntry}{cl:Nat}{n:Nat}(hn:n=c.m+1)(h:MapOk es cl (wF c fun i=> decide (i<n))){i:Nat}(hi:i≤c.m){r:Option (Nat×Value)}(hr:FindOk es.toList (.int .i64 (i:Nat)) r):
   (match c.bad i with|some z=> ∃j,r=some (j,.int .i64 z)|none=> r=none):=by
 have hf:=h.find hr
 cases hb:c.bad i with
 | none=>
   cases r with
   | none=> rfl
   | some p=>
     obtain⟨j,v⟩:=p
     obtain⟨i',z,h1,h2,h3,h4,h5⟩:=hf
     simp only[Value.int.injEq,true_and,Int.natCast_inj] at h4
     subst h4
     rw[hb] at h3
     cases h3
 | some z=>
   cases r with
   | none=> exact(hf (.int .i64 z) ⟨i,z,hi,by simp;omega,hb,rfl,rfl⟩).elim
   | some p=>
     obtain⟨j,v⟩:=p
     obtain⟨i',z',h1,h2,h3,h4,h5⟩:=hf
     simp only[Value.int.injEq,true_and,Int.natCast_inj] at h4
     subst h4
     rw[hb] at h3
     cases h3
     exact⟨j,by rw[h5]⟩
section
theorem bad_asks(M:Md Tryz.prog)(H:View)(ch:Ch)(b7 bC:Nat)(es:Array MapEntry)(cl n:Nat)(f7 fC:Bool)(hn:n=ch.m+1)(h7:H b7=some (f7,.cells ⟨[.map (some bC)]⟩ 212 (0,0)))(hC:H bC=some (fC,.map es cl))(hm:MapOk es cl (wF ch fun i=> decide (i<n))):
   Asks M H (.func (.func 166) #[] #[.pointer (some ⟨b7,0,none⟩)]) (ch.m+1) ch.isBad:=fun i hi H' hle=> by
 refine FnT.of (first:= []) (captured:= [_]) ca166 rfl ?_
 have h7':=hle _ _ h7
 have hC':=hle _ _ hC
 have hfull:=fun r (hr:FindOk es.toList (.int .i64 (i:Nat)) r)=> wF_full hn hm (by omega) hr
 refine CallT.enter (vs:= [.int .i64 (i:Nat),.pointer (some ⟨b7,0,none⟩)]) Tryz.func166 rfl Tryz.ntmps166 (Nat.le_of_ble_eq_true rfl) (SymSt.nil _) fun St c cs hK=> ?_
 cases hb:ch.bad i with
 | none=>
   refine .sr ?_
   refine .g ?_
   refine .done (.sr ?_)
   refine .x .l0 ?_
   refine .m ?_
   refine .x (OpV.lookup (E:=en) (v:=.tuple #[.int .i64 0,.bool false]) 1 rfl rfl rfl (fun H hs=> ⟨_,hs.base _ _ hC'⟩) rfl rfl rfl (by decide) (int_key _) (wF_keys hm) (fun r hr=> by have:=hfull r hr;rw[hb] at this;subst this;rfl)) ?_
   refine .m ?_
   refine .x .et ?_
   refine .x .et ?_
   refine .g ?_
   refine .g ?_
   refine .done (.sr ?_)
   refine .m ?_
   refine .g ?_
   refine .done ?_
   refine .rt hK Tryz.func166 Tryz.results166 [_] ?_
   exact fun H2 hs=> ⟨hs.base,by unfold Ch.isBad;rw[hb];rfl⟩
 | some z=>
   refine .sr ?_
   refine .g ?_
   refine .done (.sr ?_)
   refine .x .l0 ?_
   refine .m ?_
   refine .x (OpV.lookup (E:=en) (v:=.tuple #[.int .i64 z,.bool true]) 1 rfl rfl rfl (fun H hs=> ⟨_,hs.base _ _ hC'⟩) rfl rfl rfl (by decide) (int_key _) (wF_keys hm) (fun r hr=> by have:=hfull r hr;rw[hb] at this;obtain⟨j,rfl⟩:=this;rfl)) ?_
   refine .m ?_
   refine .x .et ?_
   refine .x .et ?_
   refine .g ?_
   refine .g ?_
   refine .done (.sr ?_)
   refine .m ?_
   refine .g ?_
   refine .done ?_
   refine .rt hK Tryz.func166 Tryz.results166 [_] ?_
   exact fun H2 hs=> ⟨hs.base,by unfold Ch.isBad;rw[hb];rfl⟩
theorem chainWeak_c(H:View)(ch:Ch)(lb lo lc ac:Nat)(A:Option Addr)(hA:ChAt H ch lb lo lc A)(hg:ch.Good)(hG:Glob H):
   CallT (Mp Tryz.prog) 120 #[ch.val lb lo lc ac A] H (fun v H'=> H.le H'∧v=.tuple ⟨[.int .i64 (ch.sec:Nat),.int .i64 ((ch.bad ch.sec).getD 0),.bool ch.first.isSome]⟩):=by
 refine CallT.enter (vs:= [ch.val lb lo lc ac A]) Tryz.func120 rfl Tryz.ntmps120 (Nat.le_of_ble_eq_true rfl) (SymSt.nil _) fun St c cs hK=> ?_
 have hmn:=hg.ok.m_lt
 have hn4:=hg.ok.n4
 refine .sr ?_
 refine .e (.bx (zz:=fun b1=> ?_))
 refine .g ?_
 refine .g ?_
 refine .g ?_
 refine .done (.sr ?_)
 refine .e (.al (zz:=fun b5=> ?_))
 refine .done (.sr ?_)
 refine .e (.al (zz:=fun b6=> ?_))
 refine .done (.sr ?_)
 refine .e (Or.makeMap rfl rfl (by decide) (fun bC=> ?_))
 refine .e (.al (zz:=fun b7=> ?_))
 refine .e (.st 0 (zz:=?_))
 refine .done (.seq (.sr ?_))
 refine .x .fa ?_
 refine .x (.ld 4) ?_
 refine .x .ln ?_
 refine .i ?_ (z:=add_in (by omega) (by omega))
 refine .m ?_
 refine .done ?_
 refine Tc.ofSc (fun Hx hs tmps hr=> ?_)
 obtain⟨X,hX⟩:∃X:Fk,X=⟨ch.m+1,b5,b6,bC,204,211,GIc ch⟩:=⟨_,rfl⟩
 have x1:=hs.get (i:=0) rfl
 have x2:=hs.get (i:=1) rfl
 have x3:=hs.get (i:=2) rfl
 have x4:=hs.get (i:=3) rfl
 have x5:=hs.get (i:=4) rfl
 have hnd: [b7,bC,b6,b5,b1].Nodup:=hs.nodup
 simp only[List.nodup_cons,List.mem_cons,List.not_mem_nil,or_false,not_or,not_false_eq_true,List.nodup_nil,and_true] at hnd
 obtain⟨⟨n1,n2,n3,n4⟩,⟨n5,n6,n7⟩,⟨n8,n9⟩,n10⟩:=hnd
 have o1:=hs.out _ (List.mem_cons_self)
 have hout:∀y,y=bC∨y=b5∨y=b6→H y=none:=by
   rintro y (rfl|rfl|rfl)
   · exact hs.out _ (List.mem_cons_of_mem _ List.mem_cons_self)
   · exact hs.out _ (List.mem_cons_of_mem _ (List.mem_cons_of_mem _ (List.mem_cons_of_mem _ List.mem_cons_self)))
   · exact hs.out _ (List.mem_cons_of_mem _ (List.mem_cons_of_mem _ List.mem_cons_self))
 have hle:H.le (View.beside X Hx):=fun b y hb=> by
   have e:∀z,z=bC∨z=b5∨z=b6→b≠z:=fun z hz e=> by subst e;rw[hout b hz] at hb;cases hb
   rw[beside_some (by subst hX;exact e _ (.inl rfl)) (by subst hX;exact e _ (.inr (.inl rfl))) (by subst hX;exact e _ (.inr (.inr rfl)))]
   exact hs.base _ _ hb
 have y1:View.beside X Hx b1=some (true,.cells ⟨(ch.val lb lo lc ac A).cells.toList⟩ 146 (0,0)):=by
   subst hX;rw[beside_some (by exact Ne.symm n7) (by exact Ne.symm n10) (by exact Ne.symm n9)];exact x5
 have y7:View.beside X Hx b7=some (true,.cells ⟨[.map (some bC)]⟩ 212 (0,0)):=by
   subst hX;rw[beside_some n1 n3 n2];exact x1
 obtain⟨Fin,hF⟩:∃Fin:Goroutine→Prop,Fin=fun g=> ∀o',X.GI (fun i=> decide (i<X.n)) o'→T (Mp Tryz.prog) St ((View.beside X Hx).put X.C (true,o')) g:=⟨_,rfl⟩
 have hcF:Cl Tryz.prog true noSh Fin:=⟨fun g g' hs h hf=> by
   subst hF
   exact fun o' ho=> .step ⟨hs,fun w hw hok=> ⟨g',w,#[],_,h w (fun _ _ e=> by cases e),.refl hw,hf o' ho⟩⟩⟩
 have hne:X.Mu≠X.Wg:=by subst hX;exact Ne.symm n8
 refine T.phase (Po:=fun H' g'=> T (Mp Tryz.prog) St H' g') (Ph.begin X Fin (.map #[] 0) (by subst hX;exact⟨by show 0<ch.m+1;omega,by show ch.m+1≤6;omega⟩) ⟨hne,by subst hX;exact Ne.symm n6,by subst hX;exact Ne.symm n5⟩ (by subst hX;exact x2) (by subst hX;exact x4) (by subst hX;exact x3) (by subst hX;exact⟨_,_,rfl,MapOk.nil.congr fun a b=> by unfold wF;simp⟩) (fun k=> ?_) (fun o' g' ho hf=> by subst hF;exact hf o' ho)) (fun H' g' hp=> hp)
 have hst:StAt X ch (ro (View.beside X Hx)) b1 b7 lb lo lc ac A:=
   ⟨hne,hg,by subst hX;rfl,hA.of (fun b f o h=> ⟨false,ro_some (hle _ _ h)⟩),⟨false,ro_some y1⟩,by subst hX;exact⟨false,ro_some y7⟩,hG.of (fun b f o h=> ⟨false,ro_some (hle _ _ h)⟩),ro_none beside_none.2.2,by subst hX;rfl⟩
 have hfin:∀(R:Rg),AllIn (rgS X ch b1 b7 (ch.m+1)) R→∀k (H:View),Sc (Jm Tryz.prog X Fin k .wd (ch.m+1) H) 35 b120 (c::cs) R [] [.code T120]:=by
   intro R hR k Hk
   refine Sc.drop hR ?_
   unfold rgS
   refine .sq (.rg rfl rfl ?_)
   refine So.callD rfl rfl rfl nofun rfl (.mk' rfl) rfl (wait_c hcF hne) ?_
   rintro v J' ⟨rfl,rfl⟩
   subst hF
   refine So.all (fun o' ho'=> ?_)
   have hGI:X.GI=GIc ch:=by subst hX;rfl
   rw[hGI] at ho'
   obtain⟨es,cl,rfl,hm⟩:=ho'
   have hX2:X.n=ch.m+1:=by subst hX;rfl
   have z1:(View.beside X Hx).put X.C (true,.map es cl) b1=some (true,.cells ⟨(ch.val lb lo lc ac A).cells.toList⟩ 146 (0,0)):=by
     rw[View.put_other _ _ (by subst hX;exact Ne.symm n7)];exact y1
   have z7:(View.beside X Hx).put X.C (true,.map es cl) b7=some (true,.cells ⟨[.map (some X.C)]⟩ 212 (0,0)):=by
     rw[View.put_other _ _ (by subst hX;exact n1)];subst hX;exact y7
   have zC:(View.beside X Hx).put X.C (true,.map es cl) X.C=some (true,.map es cl):=View.put_same ..
   have zle:H.le ((View.beside X Hx).put X.C (true,.map es cl)):=fun b y hb=> by
     rw[View.put_other _ _ (by rintro rfl;subst hX;rw[hout bC (.inl rfl)] at hb;cases hb)]
     exact hle _ _ hb
   generalize (View.beside X Hx).put X.C (true,.map es cl)=H2 at z1 z7 zC zle
   refine So.ofTo (SymSt.nil H2) ?_
   refine .done (.sr ?_)
   refine .x .fa ?_
   refine .x .l0 ?_
   refine .x .ln ?_
   refine .i ?_ (z:=add_in (by omega) (by omega))
   refine .x .mf ?_
   refine .c rfl rfl rfl rfl (fun H hs=> .f ca104 rfl (first_c _ H (ch.m+1) _ ch.isBad (by omega) (bad_asks _ H ch b7 X.C es cl X.n true true hX2 (hs.base _ _ z7) (hs.base _ _ zC) hm))) ?_
   refine .m ?_
   refine .x .et ?_
   refine .x .et ?_
   refine .g ?_
   refine .g ?_
   refine .done (.seq ?_)
   have hsec:=ch.sec_le
   have hfull:=fun r (hr:FindOk es.toList (.int .i64 (ch.sec:Nat)) r)=> wF_full hX2 hm hsec hr
   refine Tc.dr [] [] mixed rfl ?_
   refine .q 0 rfl .mv ?_
   refine .q 1 rfl .l0 ?_
   refine .q 2 rfl .mv ?_
   refine .q 3 rfl (OpV.lookup (E:=en) (v:=.int .i64 ((ch.bad ch.sec).getD 0)) 1 rfl rfl rfl (fun H hs=> ⟨_,hs.base _ _ zC⟩) rfl rfl rfl (by decide) (int_key _) (wF_keys hm) (fun r hr=> by have:=hfull r hr;cases hb:ch.bad ch.sec with|none=> rw[hb] at this;subst this;rfl|some z=> rw[hb] at this;obtain⟨j,rfl⟩:=this;rfl)) ?_
   refine .q 4 rfl .mv ?_
   refine .q 5 rfl .sg ?_
   refine .q 6 rfl .sg ?_
   refine .q 7 rfl .sg ?_
   refine Ta.done (by kernel_rfl) ?_
   refine .rt hK Tryz.func120 Tryz.results120 [_,_,_] ?_
   exact fun H' hs=> ⟨View.le_trans zle hs.base,rfl⟩
 refine Sc.block Jm.cl (Sc.loop Jm.cl ?_) tmps hr
 have h0:0<X.n:=by subst hX;show 0<ch.m+1;omega
 have hgo:=start_loop hfin (ch.m+1) 0 k (ro (View.beside X Hx)) (by omega) hst
 simp only[if_pos h0] at hgo
 subst hX
 exact hgo _ (by unfold rgS;refine⟨rfl,?_⟩;refine⟨rfl,?_⟩;refine⟨rfl,?_⟩;refine⟨rfl,?_⟩;refine⟨rfl,?_⟩;refine⟨rfl,?_⟩;refine⟨rfl,?_⟩;refine⟨rfl,?_⟩;refine⟨rfl,?_⟩;exact trivial)
end
end Go.Proofs.YtpdaenfglbgfkaaGreatDoor
end
section
namespace Go.Proofs.YtpdaenfglbgfkaaGreatDoor
open Go.RL
set_option maxRecDepth 10000
set_option maxHeartbeats 4000000
def cmpI(a b:Int):Int:=if a<b then -1 else if b<a then 1 else 0
def cmpL:List Int→List Int→Int
 | [],[]=> 0
 | [],_::_=> -1
 | _::_,[]=> 1
 | a::l,b::m=> if cmpI a b=0 then cmpL l m else cmpI a b
theorem cmpL_step {l m:List Int}{j:Nat}(h1:j<l.length)(h2:j<m.length):cmpL (l.drop j) (m.drop j)=if cmpI (l[j]?.getD 0) (m[j]?.getD 0)=0 then cmpL (l.drop (j+1)) (m.drop (j+1)) else cmpI (l[j]?.getD 0) (m[j]?.getD 0):=by
 rw[List.drop_eq_getElem_cons h1,List.drop_eq_getElem_cons h2,List.getElem?_eq_getElem h1,List.getElem?_eq_getElem h2]
 rfl
section
variable(M:Md Tryz.prog)(H:View)
theorem isNaN_c(x:Int):CallT M 189 #[.int .i64 x] H (fun v H'=> H.le H'∧v=.bool false):=by
 refine CallT.enter (vs:= [.int .i64 x]) Tryz.func189 rfl Tryz.ntmps189 (Nat.le_of_ble_eq_true rfl) (SymSt.nil _) fun St c cs hK=> ?_
 refine .sr ?_
 refine .g ?_
 refine .done (.sr ?_)
 refine .m ?_
 refine .m ?_
 refine .i ?_ (z:=neq_f (by omega))
 refine .g ?_
 refine .done ?_
 refine .rt hK Tryz.func189 Tryz.results189 [_] ?_
 exact fun H' hs=> ⟨hs.base,rfl⟩
theorem cmp_c(a b:Int):CallT M 159 #[.int .i64 a,.int .i64 b] H (fun v H'=> H.le H'∧v=.int .i64 (cmpI a b)):=by
 refine CallT.enter (vs:= [.int .i64 a,.int .i64 b]) Tryz.func159 rfl Tryz.ntmps159 (Nat.le_of_ble_eq_true rfl) (SymSt.nil _) fun St c cs hK=> ?_
 refine .sr ?_
 refine .g ?_
 refine .done (.sr ?_)
 refine .m ?_
 refine .c rfl rfl rfl rfl (fun H hs=> .f ca189 rfl (isNaN_c M H a)) ?_
 refine .g ?_
 refine .done (.sr ?_)
 refine .m ?_
 refine .c rfl rfl rfl rfl (fun H hs=> .f ca189 rfl (isNaN_c M H b)) ?_
 refine .g ?_
 refine .done (.seq (.sr ?_))
 refine .m ?_
 refine .done (.ff rfl (.skip (.seq (.sr ?_))))
 refine .m ?_
 refine .done (.ff rfl (.skip (.seq (.seq ?_))))
 by_cases c1:a<b
 · have e:cmpI a b= -1:=if_pos c1
   refine .r ?_
   refine .m ?_
   refine .m ?_
   refine .i ?_ (z:=lss_t (by omega))
   refine .done (.tt rfl (.sr ?_))
   refine .g ?_
   refine .done ?_
   refine .rt hK Tryz.func159 Tryz.results159 [_] ?_
   exact fun H' hs=> ⟨hs.base,by rw[e];rfl⟩
 · by_cases c2:b<a
   · have e:cmpI a b=1:=by unfold cmpI;rw[if_neg c1,if_pos c2]
     refine .r ?_
     refine .m ?_
     refine .m ?_
     refine .i ?_ (z:=lss_f (by omega))
     refine .done (.ff rfl (.skip (.seq (.sr ?_))))
     refine .m ?_
     refine .m ?_
     refine .i ?_ (z:=gtr_t (by omega))
     refine .done (.tt rfl (.sr ?_))
     refine .g ?_
     refine .done ?_
     refine .rt hK Tryz.func159 Tryz.results159 [_] ?_
     exact fun H' hs=> ⟨hs.base,by rw[e];rfl⟩
   · have e:cmpI a b=0:=by unfold cmpI;rw[if_neg c1,if_neg c2]
     refine .r ?_
     refine .m ?_
     refine .m ?_
     refine .i ?_ (z:=lss_f (by omega))
     refine .done (.ff rfl (.skip (.seq (.sr ?_))))
     refine .m ?_
     refine .m ?_
     refine .i ?_ (z:=gtr_f (by omega))
     refine .done (.ff rfl (.skip (.sr ?_)))
     refine .g ?_
     refine .done ?_
     refine .rt hK Tryz.func159 Tryz.results159 [_] ?_
     exact fun H' hs=> ⟨hs.base,by rw[e];rfl⟩
theorem Compare_c(A B:Option Addr)(l m:List Int)(n k ca cb:Nat)(hn:n=l.length)(hk:k=m.length)(h6:n≤1000)(hk6:k≤1000)(hA:Nums H A l)(hB:Nums H B m):CallT M 119 #[.slice A n ca,.slice B k cb] H (fun v H'=> H.le H'∧v=.int .i64 (cmpL l m)):=by
 refine CallT.enter (vs:= [.slice A n ca,.slice B k cb]) Tryz.func119 rfl Tryz.ntmps119 (Nat.le_of_ble_eq_true rfl) (SymSt.nil _) fun St c cs hK=> ?_
 refine .sr ?_
 refine .g ?_
 refine .done (.seq (.sr ?_))
 refine .m ?_
 refine .x .ln ?_
 refine .m ?_
 refine .done (.block ?_)
 refine Tc.db (Tc.loopInv (σ:= { j:Nat//j≤n∧j≤k∧cmpL (l.drop j) (m.drop j)=cmpL l m }) (fun j=> ([(0,.slice A n ca),(1,.slice B k cb),(4,.int .i64 0),(9,.slice A n ca),(10,.int .i64 (n:Nat)),(11,.int .i64 (j.1:Nat))],[])) (fun j=> n-j.1) ?_ ⟨0,by omega,by omega,rfl⟩)
 rintro⟨j,hj,hjk,hcm⟩ ih
 show Tc M St _ _ _ _ [(0,.slice A n ca),(1,.slice B k cb),(4,.int .i64 0),(9,.slice A n ca),(10,.int .i64 (n:Nat)),(11,.int .i64 (j:Nat))] [] _ _
 by_cases c1:j=n
 · subst c1
   rw[List.drop_eq_nil_of_le (by omega)] at hcm
   by_cases c2:j<k
   · have e:cmpL l m= -1:=by
       rw[←hcm,List.drop_eq_getElem_cons (by omega)]
       rfl
     refine .sr ?_
     refine .i ?_ (z:=lss_f (by omega))
     refine .done (.seq (.ff rfl (.exit rfl (.seq (.sr ?_)))))
     refine .m ?_
     refine .x .ln ?_
     refine .m ?_
     refine .x .ln ?_
     refine .i ?_ (z:=lss_t (by omega))
     refine .done (.tt rfl (.sr ?_))
     refine .g ?_
     refine .done ?_
     refine .rt hK Tryz.func119 Tryz.results119 [_] ?_
     exact fun H' hs=> ⟨hs.base,by rw[e];rfl⟩
   · have e:cmpL l m=0:=by
       rw[←hcm,List.drop_eq_nil_of_le (by omega)]
       rfl
     refine .sr ?_
     refine .i ?_ (z:=lss_f (by omega))
     refine .done (.seq (.ff rfl (.exit rfl (.seq (.sr ?_)))))
     refine .m ?_
     refine .x .ln ?_
     refine .m ?_
     refine .x .ln ?_
     refine .i ?_ (z:=lss_f (by omega))
     refine .done (.ff rfl (.skip (.sr ?_)))
     refine .g ?_
     refine .done ?_
     refine .rt hK Tryz.func119 Tryz.results119 [_] ?_
     exact fun H' hs=> ⟨hs.base,by rw[e];rfl⟩
 · have c2:j<n:=by omega
   rcases hA with hA|⟨a1,a2,a3,a4,a5,a6,rfl,a7,a8⟩
   · rw[hA] at hn;simp at hn;omega
   have f1:=a8 j (by omega)
   by_cases c3:j=k
   · have e:cmpL l m=1:=by
       have em:m.drop j= []:=List.drop_eq_nil_of_le (by omega)
       rw[←hcm,em,List.drop_eq_getElem_cons (by omega)]
       rfl
     refine .sr ?_
     refine .i ?_ (z:=lss_t (by omega))
     refine .done (.seq (.tt rfl (.skip (.seq (.block (.sr ?_))))))
     refine .m ?_
     refine .x .ia ?_
     refine .x .l0 ?_
     refine .g ?_
     refine .g ?_
     refine .done (.seq (.sr ?_))
     refine .m ?_
     refine .m ?_
     refine .x .ln ?_
     refine .i ?_ (z:=geq_t (by omega))
     refine .done (.tt rfl (.sr ?_))
     refine .g ?_
     refine .done ?_
     refine .rt hK Tryz.func119 Tryz.results119 [_] ?_
     exact fun H' hs=> ⟨hs.base,by rw[e];rfl⟩
   · have c4:j<k:=by omega
     rcases hB with hB|⟨b1,b2,b3,b4,b5,b6,rfl,b7,b8⟩
     · rw[hB] at hk;simp at hk;omega
     have f2:=b8 j (by omega)
     have hst:=cmpL_step (l:=l) (m:=m) (j:=j) (by omega) (by omega)
     rw[hcm] at hst
     by_cases c5:cmpI (l[j]?.getD 0) (m[j]?.getD 0)=0
     · rw[if_pos c5] at hst
       refine .sr ?_
       refine .i ?_ (z:=lss_t (by omega))
       refine .done (.seq (.tt rfl (.skip (.seq (.block (.sr ?_))))))
       refine .m ?_
       refine .x .ia ?_
       refine .x .l0 ?_
       refine .g ?_
       refine .g ?_
       refine .done (.seq (.sr ?_))
       refine .m ?_
       refine .m ?_
       refine .x .ln ?_
       refine .i ?_ (z:=geq_f (by omega))
       refine .done (.ff rfl (.skip (.sr ?_)))
       refine .m ?_
       refine .m ?_
       refine .x .ia ?_
       refine .x .l0 ?_
       refine .g ?_
       refine .done (.sr ?_)
       refine .m ?_
       refine .m ?_
       refine .c rfl rfl rfl rfl (fun H hs=> .f ca159 rfl (CallT.is (.int .i64 0) (by rewrite [c5];rfl) (cmp_c M H (l[j]?.getD 0) (m[j]?.getD 0)))) ?_
       refine .g ?_
       refine .done (.sr ?_)
       refine .m ?_
       refine .i ?_ (z:=neq_f (by omega))
       refine .done (.ff rfl (.skip (.inBlock (.r ?_))))
       refine .i ?_ (z:=add_in (by omega) (by omega))
       refine .m ?_
       refine .done ?_
       exact Tc.db (ih ⟨j+1,by omega,by omega,hst.symm⟩ (by simp only;omega))
     · rw[if_neg c5] at hst
       refine .sr ?_
       refine .i ?_ (z:=lss_t (by omega))
       refine .done (.seq (.tt rfl (.skip (.seq (.block (.sr ?_))))))
       refine .m ?_
       refine .x .ia ?_
       refine .x .l0 ?_
       refine .g ?_
       refine .g ?_
       refine .done (.seq (.sr ?_))
       refine .m ?_
       refine .m ?_
       refine .x .ln ?_
       refine .i ?_ (z:=geq_f (by omega))
       refine .done (.ff rfl (.skip (.sr ?_)))
       refine .m ?_
       refine .m ?_
       refine .x .ia ?_
       refine .x .l0 ?_
       refine .g ?_
       refine .done (.sr ?_)
       refine .m ?_
       refine .m ?_
       refine .c rfl rfl rfl rfl (fun H hs=> .f ca159 rfl (cmp_c M H (l[j]?.getD 0) (m[j]?.getD 0))) ?_
       refine .g ?_
       refine .done (.sr ?_)
       refine .m ?_
       refine .i ?_ (z:=neq_t (by omega))
       refine .done (.tt rfl (.sr ?_))
       refine .m ?_
       refine .g ?_
       refine .done ?_
       refine .rt hK Tryz.func119 Tryz.results119 [_] ?_
       exact fun H' hs=> ⟨hs.base,by rw[hst];rfl⟩
end
theorem Weak_c(H:View)(ch:Ch)(lb lo lc ac:Nat)(A:Option Addr)(hA:ChAt H ch lb lo lc A)(hg:ch.Good)(hG:Glob H):
   CallT (Mp Tryz.prog) 58 #[ch.val7 lb lo lc,.slice A ch.m ac] H (fun v H'=> H.le H'∧v=.tuple ⟨[.int .i64 (ch.sec:Nat),.int .i64 ((ch.bad ch.sec).getD 0),.bool ch.first.isSome,.int .i64 0]⟩):=by
 refine CallT.enter (vs:= [ch.val7 lb lo lc,.slice A ch.m ac]) Tryz.func58 rfl Tryz.ntmps58 (Nat.le_of_ble_eq_true rfl) (SymSt.nil _) fun St c cs hK=> ?_
 refine .sr ?_
 refine .e (.bx (zz:=fun b2=> ?_))
 refine .g ?_
 refine .g ?_
 refine .g ?_
 refine .g ?_
 refine .done (.sr ?_)
 refine .x (.ld 0) ?_
 refine .m ?_
 refine .c rfl rfl rfl rfl (fun H hs=> .f ca121 rfl (openChain_good _ H ch lb lo lc ac A (hA.le hs.base) hg (glob_le hG hs.base))) ?_
 refine .m ?_
 refine .x .et ?_
 refine .x .et ?_
 refine .e (.al (zz:=fun b8=> ?_))
 refine .e (.st 0 (zz:=?_))
 refine .g ?_
 refine .done (.seq (.sr ?_))
 refine .m ?_
 refine .i ?_ (z:=neq_f (by omega))
 refine .done (.ff rfl (.skip (.sr ?_)))
 refine .x (.ld 0) ?_
 refine .c rfl rfl rfl rfl (fun H hs=> .f ca120 rfl (chainWeak_c H ch lb lo lc ac A (hA.le hs.base) hg (glob_le hG hs.base))) ?_
 refine .m ?_
 refine .x .et ?_
 refine .x .et ?_
 refine .x .et ?_
 refine .g ?_
 refine .g ?_
 refine .g ?_
 refine .done (.sr ?_)
 refine .m ?_
 refine .m ?_
 refine .m ?_
 refine .g ?_
 refine .g ?_
 refine .g ?_
 refine .g ?_
 refine .done ?_
 refine .rt hK Tryz.func58 Tryz.results58 [_,_,_,_] ?_
 exact fun H' hs=> ⟨hs.base,rfl⟩
end Go.Proofs.YtpdaenfglbgfkaaGreatDoor
end
section
namespace Go.Proofs.YtpdaenfglbgfkaaGreatDoor
open Go.RL
set_option maxRecDepth 10000
set_option maxHeartbeats 4000000
def Lk.seen(k:Lk)(c:Nat):Nat:=((List.range 128).filter (k.sees c)).length
def Lk.claim(k:Lk)(c:Nat):Int:=if k.sees c (rightN c) then(if k.seen c=1 then 1 else 0) else 2
theorem rightTo_lt:∀c:Nat,c<32→rightN c<128:=by decide +kernel
theorem nodup_le {α:Type} [DecidableEq α]:∀ {l m:List α},l.Nodup→(∀x∈l,x∈m)→l.length≤m.length
 | [],_,_,_=> by simp
 | x::l,m,h1,h2=> by
   obtain⟨h3,h4⟩:=List.nodup_cons.1 h1
   have hx:=h2 x List.mem_cons_self
   have h5:=nodup_le (m:=m.erase x) h4 fun y hy=> (List.mem_erase_of_ne (by rintro rfl;exact h3 hy)).2 (h2 y (List.mem_cons_of_mem _ hy))
   have h6:=List.length_erase_of_mem hx
   have h7:=List.length_pos_of_mem hx
   simp only[List.length_cons]
   omega
theorem seen_size {K:Nat→Bool}{es:Array MapEntry}{cl:Nat}(h:MapOk es cl (vF K)):es.size=((List.range 128).filter K).length:=by
 classical
 have e1:es.size=(es.toList.map (·.key)).length:=by simp
 have e2:((List.range 128).filter K).length=(((List.range 128).filter K).map fun u=> Value.int .u8 (u:Nat)).length:=by simp
 rw[e1,e2]
 refine Nat.le_antisymm (nodup_le h.keys fun x hx=> ?_) (nodup_le ?_ fun x hx=> ?_)
 · obtain⟨e,he,rfl⟩:=List.mem_map.1 hx
   obtain⟨_,u,h1,h2,h3⟩:=(h.mem e.key e.val).2 ⟨e,he,rfl,rfl⟩
   exact List.mem_map.2 ⟨u,List.mem_filter.2 ⟨List.mem_range.2 h1,h3⟩,h2.symm⟩
 · rw[List.nodup_iff_pairwise_ne,List.pairwise_map]
   refine List.Pairwise.imp ?_ (List.Pairwise.filter K (List.nodup_iff_pairwise_ne.1 List.nodup_range))
   intro a b hab e
   simp only[Value.int.injEq,true_and,Int.natCast_inj] at e
   exact hab e
 · obtain⟨u,hu,rfl⟩:=List.mem_map.1 hx
   obtain⟨h1,h2⟩:=List.mem_filter.1 hu
   obtain⟨e,he,h3,_⟩:=(h.mem (.int .u8 (u:Nat)) (.bool true)).1 ⟨rfl,u,List.mem_range.1 h1,rfl,h2⟩
   exact List.mem_map.2 ⟨e,he,h3⟩
def PastT(o:Option (Int×Int×Int×List Int))(H:View)(v:Value)(H':View):Prop:=H.le H'∧
 match o with
 | none=> v=.tuple ⟨[.agg ⟨[.int .i64 0,.int .i64 0,.int .i64 0,.slice none 0 0]⟩,.bool false,.int .i64 0]⟩
 | some (s,r,n,mv)=> ∃g:Gl 3 1,v=.tuple ⟨[pastV s r n g,.bool true,.int .i64 0]⟩∧g.l=intsL mv∧∀y∈g.bl,H' y.1=some y.2∧H y.1=none
section
variable(M:Md Tryz.prog)(H:View)
theorem open_n(k:Lk)(code:Nat)(hG:Glob H)(hk:k.ok=true)(hc:code<32):CallT M 89 #[k.val,.int .i64 code] H (fun v H'=> H.le H'∧∃x:Nat×Nat×List Value,v=.tuple ⟨[k.val,letN code x,.int .i64 0]⟩∧True∧∀y∈letB code x,H' y.1=some y.2∧H y.1=none):=
 CallT.mono (open_yes M H k code hG hk hc) (by
   rintro v H' ⟨h2,g,rfl,⟨h3,h4⟩,h5⟩
   obtain⟨b,hb⟩:=gl_some g (by rw[h3];exact(places_in code hc).1)
   refine⟨h2,(b,g.cap,g.junk),?_,trivial,fun y hy=> h5 y ?_⟩
   · unfold letterV letN Gl.val
     rw[hb,h3]
     rfl
   · unfold Gl.bl
     rw[hb,h4]
     exact hy)
theorem Wrong_c(k:Lk)(code:Nat)(hG:Glob H)(hk:k.ok=true)(hc:code<32):CallT M 28 #[k.val,.int .i64 code] H (PastT (k.wrong code) H):=by
 refine CallT.enter (vs:= [k.val,.int .i64 code]) Tryz.func28 rfl Tryz.ntmps28 (Nat.le_of_ble_eq_true rfl) (SymSt.nil _) fun St c cs hK=> ?_
 refine .sr ?_
 refine .e (.bx (zz:=fun b2=> ?_))
 refine .e (.al (zz:=fun b4=> ?_))
 refine .g ?_
 refine .g ?_
 refine .done (.sr ?_)
 refine .x (.ld 1) ?_
 refine .m ?_
 refine .e (Or.callNew (fun x=> .tuple ⟨[k.val,letN code x,.int .i64 0]⟩) (letB code) (fun _=> True) rfl rfl rfl rfl rfl (by decide) (letB_nodup code) (fun H hs=> .f ca89 rfl (open_n M H k code (glob_le hG hs.base) hk hc)) (fun x hx=> ?_))
 refine .m ?_
 refine .x .et ?_
 refine .x .et ?_
 refine .x .et ?_
 refine .e (.al (zz:=fun b7=> ?_))
 refine .e (.al (zz:=fun b8=> ?_))
 refine .e (.st 1 (zz:=?_))
 refine .e (.st 0 (zz:=?_))
 refine .g ?_
 refine .done (.seq (.sr ?_))
 refine .m ?_
 refine .i ?_ (z:=neq_f (by omega))
 refine .done (.ff rfl (.skip (.seq ?_)))
 cases hw:k.wrong code with
 | none=>
   refine .r ?_
   refine .x (.ld 1) ?_
   refine .x (.ld 0) ?_
   refine .c rfl rfl rfl rfl (fun H hs=> .f ca100 rfl (CallT.mono (wrong_c M H k (Lk.fine hk) code x.1 x.2.1 hc (edg_of fun y hy=> hs.at_ y (by simp[hy]))) (Q':=fun v H'=> H.le H'∧v=.tuple ⟨[.agg ⟨[.int .i64 0,.int .i64 0,.int .i64 0,.slice none 0 0]⟩,.bool false]⟩) (by rintro v H' ⟨h1,h2⟩;rw[hw] at h2;exact⟨h1,h2⟩))) ?_
   refine .m ?_
   refine .x .et ?_
   refine .x .et ?_
   refine .e (.st 2 (zz:=?_))
   refine .g ?_
   refine .done (.sr ?_)
   refine .x (.ld 2) ?_
   refine .m ?_
   refine .e (.st 2 (zz:=?_))
   refine .g ?_
   refine .g ?_
   refine .done ?_
   refine Tc.retN (E:=en) hK Tryz.func28 Tryz.results28 (vs:= [_,_,_]) (by refine⟨⟨2,_,_,_,_,_,_,_,rfl,rfl,rfl,rfl⟩,?_⟩;refine⟨rfl,?_⟩;refine⟨rfl,?_⟩;exact trivial) ?_
   exact fun H' hs=> ⟨hs.base,by rw[hw];rfl⟩
 | some w=>
   obtain⟨s,r,n,mv⟩:=w
   refine .r ?_
   refine .x (.ld 1) ?_
   refine .x (.ld 0) ?_
   refine .e (Or.callNew (fun g:Gl 3 1=> .tuple ⟨[pastV s r n g,.bool true]⟩) Gl.bl (fun g=> g.l=intsL mv) rfl rfl rfl rfl rfl (by decide) gl_nodup (fun H hs=> .f ca100 rfl (CallT.mono (wrong_c M H k (Lk.fine hk) code x.1 x.2.1 hc (edg_of fun y hy=> hs.at_ y (by simp[hy]))) (by rintro v H' ⟨h1,h2⟩;rw[hw] at h2;obtain⟨g,h3,h4,h5⟩:=h2;exact⟨h1,g,h3,h4,h5⟩))) (fun g hg=> ?_))
   refine .m ?_
   refine .x .et ?_
   refine .x .et ?_
   refine .e (.st 2 (zz:=?_))
   refine .g ?_
   refine .done (.sr ?_)
   refine .x (.ld 2) ?_
   refine .m ?_
   refine .e (.st 2 (zz:=?_))
   refine .g ?_
   refine .g ?_
   refine .done ?_
   refine Tc.retN (E:=en) hK Tryz.func28 Tryz.results28 (vs:= [_,_,_]) (by refine⟨⟨2,_,_,_,_,_,_,_,rfl,rfl,rfl,rfl⟩,?_⟩;refine⟨rfl,?_⟩;refine⟨rfl,?_⟩;exact trivial) ?_
   exact fun H' hs=> ⟨hs.base,by rw[hw];exact⟨g,rfl,hg,fun y hy=> ⟨hs.at_ y (by simp[hy]),hs.out y (by simp[hy])⟩⟩⟩
theorem Right_c(k:Lk)(code:Nat)(hG:Glob H)(hk:k.ok=true)(hc:code<32):CallT M 24 #[k.val,.int .i64 code] H (fun v H'=> H.le H'∧v=.tuple ⟨[.int .i64 (k.claim code),.int .i64 0]⟩):=by
 refine CallT.enter (vs:= [k.val,.int .i64 code]) Tryz.func24 rfl Tryz.ntmps24 (Nat.le_of_ble_eq_true rfl) (SymSt.nil _) fun St c cs hK=> ?_
 refine .sr ?_
 refine .e (.bx (zz:=fun b2=> ?_))
 refine .g ?_
 refine .g ?_
 refine .done (.sr ?_)
 refine .x (.ld 0) ?_
 refine .m ?_
 refine .e (Or.callNew (fun x=> .tuple ⟨[k.val,letN code x,.int .i64 0]⟩) (letB code) (fun _=> True) rfl rfl rfl rfl rfl (by decide) (letB_nodup code) (fun H hs=> .f ca89 rfl (open_n M H k code (glob_le hG hs.base) hk hc)) (fun x hx=> ?_))
 refine .m ?_
 refine .x .et ?_
 refine .x .et ?_
 refine .x .et ?_
 refine .e (.al (zz:=fun b6=> ?_))
 refine .e (.al (zz:=fun b7=> ?_))
 refine .e (.st 1 (zz:=?_))
 refine .e (.st 0 (zz:=?_))
 refine .g ?_
 refine .done (.seq (.sr ?_))
 refine .m ?_
 refine .i ?_ (z:=neq_f (by omega))
 refine .done (.ff rfl (.skip (.seq (.sr ?_))))
 refine .x (.ld 1) ?_
 refine .x (.ld 0) ?_
 refine .e (Or.callNew (fun y:Nat×Array MapEntry×Nat=> .map (some y.1)) (fun y=> [(y.1,true,.map y.2.1 y.2.2)]) (fun y=> MapOk y.2.1 y.2.2 (vF (k.sees code))) rfl rfl rfl rfl rfl (by decide) (fun _=> by simp) (fun H hs=> .f ca90 rfl (CallT.mono (all90_c M H k (Lk.fine hk) code x.1 x.2.1 hc (edg_of fun y hy=> hs.at_ y (by simp[hy]))) (by rintro v H' ⟨h1,m,es,cl,h2,h3,h4,h5⟩;exact⟨h1,(m,es,cl),h2,h5,by simp[h3,h4]⟩))) (fun y hm=> ?_))
 refine .g ?_
 refine .done ?_
 obtain⟨m,es,cl⟩:=y
 have hrt:=rightTo_lt code hc
 have hfind:∀r,FindOk es.toList (.int .u8 (rightN code:Nat)) r→foundV (.bool false) r false=.bool (k.sees code (rightN code)):=by
   intro r hr
   have hf:=MapOk.find hm hr
   cases r with
   | none=>
     simp only at hf
     cases hse:k.sees code (rightN code) with
     | false=> rfl
     | true=> exact(hf (.bool true) ⟨rfl,rightN code,hrt,rfl,hse⟩).elim
   | some p=>
     obtain⟨j,v⟩:=p
     obtain⟨rfl,u,h1,h2,h3⟩:=hf
     simp only[Value.int.injEq,true_and,Int.natCast_inj] at h2
     subst h2
     rw[h3]
     rfl
 have hsz:=seen_size hm
 refine .block (.seq ?_)
 cases hse:k.sees code (rightN code) with
 | false=>
   rw[hse] at hfind
   have hcl:k.claim code=2:=by unfold Lk.claim;rw[hse];rfl
   refine .r ?_
   refine .m ?_
   refine .x (.ld 0) ?_
   refine .c rfl rfl rfl rfl (fun H hs=> .f ca95 rfl (right_c M H code _ hc)) ?_
   refine .x (OpV.lookup (E:=en) (v:=.bool false) 1 rfl rfl rfl (fun H hs=> ⟨true,hs.at_ (m,true,.map es cl) (by simp)⟩) rfl rfl rfl (by decide) (view_key _) (vF_keys hm) hfind) ?_
   refine .x .nt ?_
   refine .g ?_
   refine .done (.tt rfl (.sr ?_))
   refine .g ?_
   refine .g ?_
   refine .done ?_
   refine .rt hK Tryz.func24 Tryz.results24 [_,_] ?_
   exact fun H' hs=> ⟨hs.base,by rw[hcl];rfl⟩
 | true=>
   rw[hse] at hfind
   refine .r ?_
   refine .m ?_
   refine .x (.ld 0) ?_
   refine .c rfl rfl rfl rfl (fun H hs=> .f ca95 rfl (right_c M H code _ hc)) ?_
   refine .x (OpV.lookup (E:=en) (v:=.bool true) 1 rfl rfl rfl (fun H hs=> ⟨true,hs.at_ (m,true,.map es cl) (by simp)⟩) rfl rfl rfl (by decide) (view_key _) (vF_keys hm) hfind) ?_
   refine .x .nt ?_
   refine .g ?_
   refine .done (.ff rfl (.sr ?_))
   refine .m ?_
   refine .x (OpV.lenMap (E:=en) (es:=es) (cl₀:=cl) rfl rfl rfl rfl rfl (fun H hs=> ⟨true,hs.at_ (m,true,.map es cl) (by simp)⟩) rfl rfl) ?_
   by_cases h1:es.size=1
   · have hcl:k.claim code=1:=by unfold Lk.claim Lk.seen;rw[hse,←hsz,h1];rfl
     refine .i ?_ (z:=eql_t (by omega))
     refine .g ?_
     refine .done (.tt rfl (.sr ?_))
     refine .g ?_
     refine .g ?_
     refine .done ?_
     refine .rt hK Tryz.func24 Tryz.results24 [_,_] ?_
     exact fun H' hs=> ⟨hs.base,by rw[hcl];rfl⟩
   · have hcl:k.claim code=0:=by unfold Lk.claim Lk.seen;rw[hse,←hsz,if_pos rfl,if_neg h1]
     refine .i ?_ (z:=eql_f (by omega))
     refine .g ?_
     refine .done (.ff rfl (.skip (.inBlock (.sr ?_))))
     refine .g ?_
     refine .g ?_
     refine .done ?_
     refine .rt hK Tryz.func24 Tryz.results24 [_,_] ?_
     exact fun H' hs=> ⟨hs.base,by rw[hcl];rfl⟩
end
end Go.Proofs.YtpdaenfglbgfkaaGreatDoor
end
section
namespace Go.Proofs.YtpdaenfglbgfkaaGreatDoor
open Go.RL
set_option maxRecDepth 10000
set_option maxHeartbeats 4000000
theorem edge_ld(code:Nat)(x:Nat×Nat×List Value)(j:Nat)(hj:j<(placesTo code 7).length):ldL true 2 (edgeCells (placesTo code 7)++x.2.2) (0+j*2)=some (edgeV ((placesTo code 7)[j]?.getD 0) j):=by
 obtain⟨f,es,et,ez,h1,h2⟩:=edg_of (H:=View.put (fun _=> none) x.1 (true,.cells ⟨edgeCells (placesTo code 7)++x.2.2⟩ 169 (0,0))) (code:=code) (x:=x) (fun y hy=> by
   simp only[letB,List.mem_singleton] at hy
   subst hy
   exact View.put_same ..)
 rw[View.put_same] at h1
 simp only[Option.some.injEq,Prod.mk.injEq,Obj.cells.injEq,Array.mk.injEq] at h1
 obtain⟨_,rfl,_⟩:=h1
 exact h2 j hj
def placesV(l:List Nat):List Value:=l.map fun p=> .int .i64 (p:Nat)
theorem placesV_succ(l:List Nat)(j:Nat)(h:j<l.length):placesV (l.take (j+1))=placesV (l.take j)++[.int .i64 ((l[j]?.getD 0:Nat):Int)]:=by
 unfold placesV
 rw[List.take_succ_eq_append_getElem h,List.map_append,List.getElem?_eq_getElem h]
 rfl
section
variable(M:Md Tryz.prog)(H:View)
theorem Edges_c(code:Nat)(hc:code<32):CallT M 84 #[.int .i64 code] H (ToldQ (placesV (placesTo code 7)) H):=by
 refine CallT.enter (vs:= [.int .i64 code]) Tryz.func84 rfl Tryz.ntmps84 (Nat.le_of_ble_eq_true rfl) (SymSt.nil _) fun St c cs hK=> ?_
 have hp6:=(places_in code hc).2.1
 refine .sr ?_
 refine .g ?_
 refine .g ?_
 refine .done (.seq (.sr ?_))
 refine .m ?_
 refine .c rfl rfl rfl rfl (fun H hs=> .f ca141 rfl (isCode_yes M H code (by omega))) ?_
 refine .x .nt ?_
 refine .done (.ff rfl (.skip (.sr ?_)))
 refine .g ?_
 refine .done (.seq (.sr ?_))
 refine .m ?_
 refine .e (Or.callNew (letN code) (letB code) (fun _=> True) rfl rfl rfl rfl rfl (by decide) (letB_nodup code) (fun H hs=> .f ca113 rfl (letterOf_n M H code hc)) (fun x hx=> ?_))
 refine .x .fd ?_
 refine .x .ln ?_
 refine .m ?_
 refine .done (.block ?_)
 refine Tc.db (Tc.loopInv (σ:= { s:Nat×Gl 3 1//s.1≤(placesTo code 7).length∧s.2.l=placesV ((placesTo code 7).take s.1) })
   (fun s=> ([(14,.int .i64 (s.1.1:Nat)),(13,.int .i64 ((placesTo code 7).length:Nat)),(12,.slice (some ⟨x.1,0,none⟩) (placesTo code 7).length x.2.1),(4,s.1.2.val)],letB code x++s.1.2.bl)) (fun s=> (placesTo code 7).length-s.1.1) ?_ ⟨(0,Gl.nil 3 1),by simp,rfl⟩)
 rintro⟨⟨j,g⟩,g1,g2⟩ ih
 simp only at g1 g2
 have hlen:g.n=j:=by
   have h1:=g.hl
   rw[g2] at h1
   unfold placesV at h1
   rw[List.length_map,List.length_take] at h1
   omega
 show Tc M St _ _ _ _ [(14,.int .i64 (j:Nat)),(13,.int .i64 ((placesTo code 7).length:Nat)),(12,.slice (some ⟨x.1,0,none⟩) (placesTo code 7).length x.2.1),(4,g.val)] (letB code x++g.bl) _ _
 by_cases c1:j=(placesTo code 7).length
 · subst c1
   refine .sr ?_
   refine .i ?_ (z:=lss_f (by omega))
   refine .done (.seq (.ff rfl (.exit rfl (.sr ?_))))
   refine .m ?_
   refine .g ?_
   refine .g ?_
   refine .done ?_
   refine .rt hK Tryz.func84 Tryz.results84 [_,_] ?_
   exact fun H' hs=> ⟨hs.base,g,rfl,by rw[g2,List.take_length],fun y hy=> ⟨hs.at_ y (by simp[hy]),hs.out y (by simp[hy])⟩⟩
 · have c2:j<(placesTo code 7).length:=by omega
   have f1:ldL true 2 (edgeCells (placesTo code 7)++x.2.2) (0+(j:Int).toNat*2)=some (edgeV ((placesTo code 7)[j]?.getD 0) j):=by rw[show(j:Int).toNat=j by simp];exact edge_ld code x j c2
   refine .sr ?_
   refine .i ?_ (z:=lss_t (by omega))
   refine .done (.seq (.tt rfl (.skip (.seq (.block (.sr ?_))))))
   refine .x .ia ?_
   refine .x (.ld 0) ?_
   refine .e (.al (zz:=fun b6=> ?_))
   refine .e (.st 0 (zz:=?_))
   refine .done (.r ?_)
   refine .m ?_
   refine .x .fa ?_
   refine .x (.ld 0) ?_
   refine .e (.bs (zz:=fun bs=> ?_))
   refine .e (Or.append (E:=en) 3 rfl rfl rfl rfl rfl rfl rfl rfl rfl rfl rfl rfl rfl rfl rfl (fun H hs=> SrcAt.of (hs.get (i:=0) rfl) (Nat.le_of_ble_eq_true rfl)) rfl (by omega) rfl (by decide) (fun g' hn hl=> ?_))
   refine .g ?_
   refine .done (.inBlock (.r ?_))
   refine .i ?_ (z:=add_in (by omega) (by omega))
   refine .m ?_
   refine .done ?_
   exact Tc.db (ih ⟨(j+1,g'),by simp only;omega,by simp only;rw[hl,g2,placesV_succ _ _ c2];rfl⟩ (by simp only;omega))
theorem un_9:Tryz.prog.underlying 9=some .string:=by kernel_rfl
theorem Len64_0:CallT M 186 #[.int .u64 0] H (fun v H'=> H.le H'∧v=.int .i64 0):=by
 refine CallT.enter (vs:= [.int .u64 0]) Tryz.func186 rfl Tryz.ntmps186 (Nat.le_of_ble_eq_true rfl) (SymSt.nil _) fun St c cs hK=> ?_
 refine .sr ?_
 refine .g ?_
 refine .done (.seq (.sr ?_))
 refine .m ?_
 refine .i ?_ (z:=geq_f (by omega))
 refine .done (.ff rfl (.skip (.seq (.sr ?_))))
 refine .m ?_
 refine .i ?_ (z:=geq_f (by omega))
 refine .done (.ff rfl (.skip (.seq (.sr ?_))))
 refine .m ?_
 refine .i ?_ (z:=geq_f (by omega))
 refine .done (.ff rfl (.skip (.sr ?_)))
 refine .m ?_
 refine .m ?_
 refine .x .cv ?_
 refine .x (OpV.indexStr (c:=0) rfl rfl rfl un_9 (by decide) (by decide +kernel)) ?_
 refine .x .cv ?_
 refine .i ?_ (z:=by exact rfl)
 refine .g ?_
 refine .done ?_
 refine .rt hK Tryz.func186 Tryz.results186 [_] ?_
 exact fun H' hs=> ⟨hs.base,rfl⟩
theorem Len64_1:CallT M 186 #[.int .u64 1] H (fun v H'=> H.le H'∧v=.int .i64 1):=by
 refine CallT.enter (vs:= [.int .u64 1]) Tryz.func186 rfl Tryz.ntmps186 (Nat.le_of_ble_eq_true rfl) (SymSt.nil _) fun St c cs hK=> ?_
 refine .sr ?_
 refine .g ?_
 refine .done (.seq (.sr ?_))
 refine .m ?_
 refine .i ?_ (z:=geq_f (by omega))
 refine .done (.ff rfl (.skip (.seq (.sr ?_))))
 refine .m ?_
 refine .i ?_ (z:=geq_f (by omega))
 refine .done (.ff rfl (.skip (.seq (.sr ?_))))
 refine .m ?_
 refine .i ?_ (z:=geq_f (by omega))
 refine .done (.ff rfl (.skip (.sr ?_)))
 refine .m ?_
 refine .m ?_
 refine .x .cv ?_
 refine .x (OpV.indexStr (c:=1) rfl rfl rfl un_9 (by decide) (by decide +kernel)) ?_
 refine .x .cv ?_
 refine .i ?_ (z:=by exact rfl)
 refine .g ?_
 refine .done ?_
 refine .rt hK Tryz.func186 Tryz.results186 [_] ?_
 exact fun H' hs=> ⟨hs.base,rfl⟩
theorem insert_one(sv:Option Addr)(n cap:Nat)(hn:n≤1):CallT M 176 #[.slice sv n cap,.int .i64 0,.int .i64 n] H (fun v H'=> H.le H'∧v=.tuple ⟨[]⟩):=by
 refine CallT.enter (vs:= [.slice sv n cap,.int .i64 0,.int .i64 n]) Tryz.func176 rfl Tryz.ntmps176 (Nat.le_of_ble_eq_true rfl) (SymSt.nil _) fun St c cs hK=> ?_
 refine .sr ?_
 refine .m ?_
 refine .i ?_ (z:=add_in (by omega) (by omega))
 refine .g ?_
 refine .done (.block (.loop (.seq (.sr ?_))))
 refine .m ?_
 refine .m ?_
 refine .i ?_ (z:=lss_f (by omega))
 refine .done (.ff rfl (.exit rfl ?_))
 refine Tc.overN (E:=en) hK Tryz.func176 Tryz.results176 (vs:= []) (by exact trivial) ?_
 exact fun H' hs=> ⟨hs.base,rfl⟩
theorem pdq_one(sv:Option Addr)(n cap:Nat)(li:Int)(hn:n≤1):CallT M 148 #[.slice sv n cap,.int .i64 0,.int .i64 n,.int .i64 li] H (fun v H'=> H.le H'∧v=.tuple ⟨[]⟩):=by
 refine CallT.enter (vs:= [.slice sv n cap,.int .i64 0,.int .i64 n,.int .i64 li]) Tryz.func148 rfl Tryz.ntmps148 (Nat.le_of_ble_eq_true rfl) (SymSt.nil _) fun St c cs hK=> ?_
 refine .sr ?_
 refine .g ?_
 refine .done (.sr ?_)
 refine .g ?_
 refine .done (.block (.loop (.block (.sr ?_))))
 refine .m ?_
 refine .m ?_
 refine .i ?_ (z:=sub_in (by omega) (by omega))
 refine .g ?_
 refine .done (.seq (.sr ?_))
 refine .m ?_
 refine .i ?_ (z:=leq_t (by omega))
 refine .done (.tt rfl (.sr ?_))
 refine .m ?_
 refine .m ?_
 refine .m ?_
 refine .c rfl rfl rfl rfl (fun H hs=> .f ca176 rfl (insert_one M H sv n cap hn)) ?_
 refine .done ?_
 refine Tc.retN (E:=en) hK Tryz.func148 Tryz.results148 (vs:= []) (by exact trivial) ?_
 exact fun H' hs=> ⟨hs.base,rfl⟩
theorem Sort_one(sv:Option Addr)(n cap:Nat)(hn:n≤1):CallT M 92 #[.slice sv n cap] H (fun v H'=> H.le H'∧v=.tuple ⟨[]⟩):=by
 rcases(by omega:n=0∨n=1) with rfl|rfl
 · have hlen:∀H,CallT M 149 #[.int .u64 0] H (fun v H'=> H.le H'∧v=.int .i64 0):=fun H=> by
     refine CallT.enter (vs:= [.int .u64 0]) Tryz.func149 rfl Tryz.ntmps149 (Nat.le_of_ble_eq_true rfl) (SymSt.nil _) fun St c cs hK=> ?_
     refine .sr ?_
     refine .g ?_
     refine .done (.seq (.ff rfl (.skip (.sr ?_))))
     refine .m ?_
     refine .c rfl rfl rfl rfl (fun H hs=> .f ca186 rfl (Len64_0 M H)) ?_
     refine .g ?_
     refine .done ?_
     refine .rt hK Tryz.func149 Tryz.results149 [_] ?_
     exact fun H' hs=> ⟨hs.base,rfl⟩
   refine CallT.enter (vs:= [.slice sv 0 cap]) Tryz.func92 rfl Tryz.ntmps92 (Nat.le_of_ble_eq_true rfl) (SymSt.nil _) fun St c cs hK=> ?_
   refine .sr ?_
   refine .m ?_
   refine .x .ln ?_
   refine .g ?_
   refine .done (.r ?_)
   refine .m ?_
   refine .m ?_
   refine .m ?_
   refine .x .cv ?_
   refine .c rfl rfl rfl rfl (fun H hs=> .f ca149 rfl (hlen H)) ?_
   refine .c rfl rfl rfl rfl (fun H hs=> .f ca148 rfl (pdq_one M H sv 0 cap 0 (by omega))) ?_
   refine .done ?_
   refine Tc.overN (E:=en) hK Tryz.func92 Tryz.results92 (vs:= []) (by exact trivial) ?_
   exact fun H' hs=> ⟨hs.base,rfl⟩
 · have hlen:∀H,CallT M 149 #[.int .u64 1] H (fun v H'=> H.le H'∧v=.int .i64 1):=fun H=> by
     refine CallT.enter (vs:= [.int .u64 1]) Tryz.func149 rfl Tryz.ntmps149 (Nat.le_of_ble_eq_true rfl) (SymSt.nil _) fun St c cs hK=> ?_
     refine .sr ?_
     refine .g ?_
     refine .done (.seq (.ff rfl (.skip (.sr ?_))))
     refine .m ?_
     refine .c rfl rfl rfl rfl (fun H hs=> .f ca186 rfl (Len64_1 M H)) ?_
     refine .g ?_
     refine .done ?_
     refine .rt hK Tryz.func149 Tryz.results149 [_] ?_
     exact fun H' hs=> ⟨hs.base,rfl⟩
   refine CallT.enter (vs:= [.slice sv 1 cap]) Tryz.func92 rfl Tryz.ntmps92 (Nat.le_of_ble_eq_true rfl) (SymSt.nil _) fun St c cs hK=> ?_
   refine .sr ?_
   refine .m ?_
   refine .x .ln ?_
   refine .g ?_
   refine .done (.r ?_)
   refine .m ?_
   refine .m ?_
   refine .m ?_
   refine .x .cv ?_
   refine .c rfl rfl rfl rfl (fun H hs=> .f ca149 rfl (hlen H)) ?_
   refine .c rfl rfl rfl rfl (fun H hs=> .f ca148 rfl (pdq_one M H sv 1 cap 1 (by omega))) ?_
   refine .done ?_
   refine Tc.overN (E:=en) hK Tryz.func92 Tryz.results92 (vs:= []) (by exact trivial) ?_
   exact fun H' hs=> ⟨hs.base,rfl⟩
end
end Go.Proofs.YtpdaenfglbgfkaaGreatDoor
end
section
namespace Go.Proofs.YtpdaenfglbgfkaaGreatDoor
open Go.RL
set_option maxRecDepth 10000
set_option maxHeartbeats 4000000
def bitM(mask i:Nat):Bool:=mask/2 ^ i%2==1
def bitsL(mask k:Nat):List Nat:=(List.range k).filter (bitM mask)
def Ch.on(c:Ch)(l:List Nat):Ch:= { c with m:=l.length,at_:=fun i=> l[i]?.getD 0 }
def numsL(l:List Nat):List Int:=l.map fun i:Nat=> (i:Int)
def skips(l:List Nat)(best:Option (List Nat)):Bool:=match best with
 | none=> false
 | some b=> decide (b.length<l.length)||(decide (l.length=b.length)&&decide (0<cmpL (numsL l) (numsL b)))
def Ch.spotStep(c:Ch)(best:Option (List Nat))(mask:Nat):Option (List Nat):=
 if skips (bitsL mask (c.n-1)) best then best else if(c.on (bitsL mask (c.n-1))).first.isSome then best else some (bitsL mask (c.n-1))
def Ch.spotsTo(c:Ch):Nat→Option (List Nat)
 | 0=> none
 | k+1=> c.spotStep (c.spotsTo k) k
def Ch.spots(c:Ch):Option (List Nat):=c.spotsTo (2 ^ (c.n-1))
theorem bits_get {mask k i:Nat}(h:i<(bitsL mask k).length):(bitsL mask k)[i]?.getD 0<k:=by
 rw[List.getElem?_eq_getElem h]
 have:=List.getElem_mem h
 unfold bitsL at this
 exact List.mem_range.1 (List.mem_filter.1 this).1
theorem bits_mono {mask k i:Nat}(h:i+1<(bitsL mask k).length):(bitsL mask k)[i]?.getD 0<(bitsL mask k)[i+1]?.getD 0:=by
 rw[List.getElem?_eq_getElem h,List.getElem?_eq_getElem (show i<(bitsL mask k).length by omega)]
 have hp:(bitsL mask k).Pairwise (· < ·):=List.Pairwise.filter _ List.pairwise_lt_range
 exact List.pairwise_iff_getElem.1 hp i (i+1) (by omega) h (by omega)
theorem Ch.Good.on {c:Ch}(h:c.Good)(mask:Nat):(c.on (bitsL mask (c.n-1))).Good:=by
 refine⟨⟨h.ok.n0,h.ok.n4,h.ok.x,h.ok.y,h.ok.z,h.ok.u,fun i hi=> ?_,fun i hi=> bits_mono hi⟩,h.s,h.a,h.r,h.ln⟩
 have:=bits_get (mask:=mask) (k:=c.n-1) hi
 have h0:=h.ok.n0
 show(bitsL mask (c.n-1))[i]?.getD 0+1<c.n
 omega
theorem keep_bits(mask k:Nat):keepTo (bitM mask) k=placesV (bitsL mask k):=rfl
theorem places_nums(l:List Nat):placesV l=intsL (numsL l):=by
 unfold placesV intsL numsL
 rw[List.map_map]
 rfl
theorem mask_sh:∀mask:Nat,mask<8→∀i:Nat,i<3→((mask:Int)).fdiv (2 ^ (min (i:Int).toNat IntKind.i64.bits))=((mask/2 ^ i:Nat):Int)∧bitI .and .i64 ((mask/2 ^ i:Nat):Int) 1=((mask/2 ^ i%2:Nat):Int):=by decide +kernel
def SpotsQ(o:Option (List Nat))(H:View)(v:Value)(H':View):Prop:=H.le H'∧∃g:Gl 3 1,v=.tuple ⟨[g.val,.bool o.isSome,.int .i64 0]⟩∧g.l=placesV (o.getD [])∧∀y∈g.bl,H' y.1=some y.2∧H y.1=none
theorem spots_asks(M:Md Tryz.prog)(H:View)(mask k b7:Nat)(hm:mask<8)(hk:k≤3)(hb:H b7=some (true,.cells ⟨[.int .i64 (mask:Nat)]⟩ 3 (0,0))):Asks M H (.func (.func 118) #[] #[.pointer (some ⟨b7,0,none⟩)]) k (bitM mask):=fun i hi H' hle=> by
 refine FnT.of (first:= []) (captured:= [_]) ca118 rfl ?_
 have h7:=hle _ _ hb
 obtain⟨e1,e2⟩:=mask_sh mask hm i (by omega)
 have g1:shiftV .shr .i64 (mask:Int) (i:Int)=some (.int .i64 ((mask/2 ^ i:Nat):Int)):=congrArg (fun x=> some (Value.int .i64 x)) e1
 have g2:intBin .and .i64 ((mask/2 ^ i:Nat):Int) 1=some (.int .i64 ((mask/2 ^ i%2:Nat):Int)):=congrArg (fun x=> some (Value.int .i64 x)) e2
 refine CallT.enter (vs:= [.int .i64 (i:Nat),.pointer (some ⟨b7,0,none⟩)]) Tryz.func118 rfl Tryz.ntmps118 (Nat.le_of_ble_eq_true rfl) (SymSt.nil _) fun St c cs hK=> ?_
 refine .seq ?_
 by_cases h:mask/2 ^ i%2=1
 · have hb:bitM mask i=true:=by unfold bitM;rw[h];rfl
   refine .r ?_
   refine .g ?_
   refine .done (.sr ?_)
   refine .x .l0 ?_
   refine .m ?_
   refine .x .sf ?_
   refine .i ?_ (z:=by assumption)
   refine .i ?_ (z:=eql_t (by omega))
   refine .g ?_
   refine .done ?_
   refine .rt hK Tryz.func118 Tryz.results118 [_] ?_
   exact fun H2 hs=> ⟨hs.base,by rw[hb];rfl⟩
 · have hb:bitM mask i=false:=by unfold bitM;exact beq_false_of_ne h
   refine .r ?_
   refine .g ?_
   refine .done (.sr ?_)
   refine .x .l0 ?_
   refine .m ?_
   refine .x .sf ?_
   refine .i ?_ (z:=by assumption)
   refine .i ?_ (z:=eql_f (by omega))
   refine .g ?_
   refine .done ?_
   refine .rt hK Tryz.func118 Tryz.results118 [_] ?_
   exact fun H2 hs=> ⟨hs.base,by rw[hb];rfl⟩
end Go.Proofs.YtpdaenfglbgfkaaGreatDoor
end
section
namespace Go.Proofs.YtpdaenfglbgfkaaGreatDoor
open Go.RL
set_option maxRecDepth 10000
set_option maxHeartbeats 4000000
theorem gl_len {g:Gl 3 1}{l:List Nat}(h:g.l=placesV l):g.n=l.length:=by
 have:=g.hl
 rw[h] at this
 unfold placesV at this
 rw[List.length_map] at this
 omega
theorem ChAt.on {H:View}{ch:Ch}{lb lo lc:Nat}{A0:Option Addr}(h:ChAt H ch lb lo lc A0){g:Gl 3 1}{l:List Nat}(hg:g.l=placesV l)(hb:∀y∈g.bl,H y.1=some y.2):ChAt H (ch.on l) lb lo lc (g.blk.map fun b=> ⟨b,0,none⟩):=by
 refine⟨h.ln,h.lc,fun hm=> ?_⟩
 have hn:=gl_len hg
 have hm':0<l.length:=hm
 obtain⟨_|b,n,cap,gl,gj,h1,h2,h3,h4⟩:=g
 · have:=h4 rfl
   simp only at hn h2
   omega
 · refine⟨b,0,true,gl++gj,3,(0,0),rfl,hb (b,true,.cells ⟨gl++gj⟩ 3 (0,0)) (by simp[Gl.bl]),fun j hj=> ?_⟩
   simp only at hg
   subst hg
   have hj':j<l.length:=hj
   show(placesV l++gj)[0+j*1]? =_
   rw[Nat.zero_add,Nat.mul_one,List.getElem?_append_left (by unfold placesV;rw[List.length_map];exact hj')]
   unfold placesV
   rw[List.getElem?_map,List.getElem?_eq_getElem hj']
   show _=some (Value.int .i64 ((l[j]?.getD 0:Nat):Int))
   rw[List.getElem?_eq_getElem hj']
   rfl
theorem sub2(a b:Nat×Bool×Obj)(x y:Bl):([b]++y).Sublist ([a,b]++x++y):=.cons _ (.cons_cons _ (List.sublist_append_right x y))
theorem pow_bound {n:Nat}(h0:0<n)(h4:n≤4):shiftV .shl .i64 1 ((n-1:Nat):Int)=some (.int .i64 ((2 ^ (n-1):Nat):Int))∧2 ^ (n-1)≤8:=by
 rcases(by omega:n=1∨n=2∨n=3∨n=4) with rfl|rfl|rfl|rfl <;> exact⟨rfl,by decide⟩
theorem bits_len(mask k:Nat):(bitsL mask k).length≤k:=by
 have:=List.length_filter_le (bitM mask) (List.range k)
 rw[List.length_range] at this
 exact this
theorem spots_le(c:Ch):∀(k:Nat) (b:List Nat),c.spotsTo k=some b→b.length≤c.n
 | 0,b,h=> by cases h
 | k + 1,b,h=> by
   unfold Ch.spotsTo Ch.spotStep at h
   split at h
   · exact spots_le c k b h
   · split at h
     · exact spots_le c k b h
     · cases h
       have:=bits_len k (c.n-1)
       omega
theorem Spots_c(H:View)(ch:Ch)(lb lo lc:Nat)(A0:Option Addr)(hA:ChAt H ch lb lo lc A0)(hg:ch.Good)(hG:Glob H):
   CallT (Mp Tryz.prog) 54 #[ch.val7 lb lo lc] H (SpotsQ ch.spots H):=by
 refine CallT.enter (vs:= [ch.val7 lb lo lc]) Tryz.func54 rfl Tryz.ntmps54 (Nat.le_of_ble_eq_true rfl) (SymSt.nil _) fun St c cs hK=> ?_
 have hn0:=hg.ok.n0
 have hn4:=hg.ok.n4
 obtain⟨hsh,hp8⟩:=pow_bound hn0 hn4
 refine .sr ?_
 refine .e (.bx (zz:=fun b1=> ?_))
 refine .g ?_
 refine .g ?_
 refine .g ?_
 refine .done ?_
 refine Tc.scope ?_
 refine .seq (.sr ?_)
 refine .x (.ld 0) ?_
 refine .c rfl rfl rfl rfl (fun H hs=> .f ca66 rfl (CheckChain_good _ H ch lb lo lc A0 (hA.le hs.base) hg (glob_le hG hs.base))) ?_
 refine .g ?_
 refine .done (.sr ?_)
 refine .m ?_
 refine .i ?_ (z:=neq_f (by omega))
 refine .done (.ff rfl (.skip (.sr ?_)))
 refine .x .fa ?_
 refine .x (.ld 0) ?_
 refine .x .ln ?_
 refine .i ?_ (z:=sub_in (by omega) (by omega))
 refine .g ?_
 refine .done ?_
 rw[show(ch.n:Int)-1=((ch.n-1:Nat):Int) by omega]
 refine .seq ?_
 refine Tc.label ?_
 refine .seq (.sr ?_)
 refine .m ?_
 refine .x .sf ?_
 refine .m ?_
 refine .done (.block ?_)
 refine Tc.db (Tc.loopInv (σ:= { s:Nat×Gl 3 1//s.1≤2 ^ (ch.n-1)∧s.2.l=placesV ((ch.spotsTo s.1).getD []) })
   (fun s=> ([(1,.pointer (some ⟨b1,0,none⟩)),(2,s.1.2.val),(3,.bool (ch.spotsTo s.1.1).isSome),(6,.int .i64 ((ch.n-1:Nat):Int)),(22,.int .i64 ((2 ^ (ch.n-1):Nat):Int)),(23,.int .i64 (s.1.1:Nat))],[(b1,true,.cells ⟨(ch.val7 lb lo lc).cells.toList⟩ 73 (0,0))]++s.1.2.bl)) (fun s=> 2 ^ (ch.n-1)-s.1.1) ?_ ⟨(0,Gl.nil 3 1),Nat.zero_le _,rfl⟩)
 rintro⟨⟨mask,g⟩,g1,g2⟩ ih
 simp only at g1 g2
 show Tc (Mp Tryz.prog) St _ _ _ _ [(1,.pointer (some ⟨b1,0,none⟩)),(2,g.val),(3,.bool (ch.spotsTo mask).isSome),(6,.int .i64 ((ch.n-1:Nat):Int)),(22,.int .i64 ((2 ^ (ch.n-1):Nat):Int)),(23,.int .i64 (mask:Nat))] ([(b1,true,.cells ⟨(ch.val7 lb lo lc).cells.toList⟩ 73 (0,0))]++g.bl) _ _
 by_cases c1:mask=2 ^ (ch.n-1)
 · subst c1
   refine .sr ?_
   refine .i ?_ (z:=lss_f (by omega))
   refine .done (.seq (.ff rfl (.exit rfl (.sr ?_))))
   refine .m ?_
   refine .m ?_
   refine .g ?_
   refine .g ?_
   refine .g ?_
   refine .done ?_
   refine .rt hK Tryz.func54 Tryz.results54 [_,_,_] ?_
   exact fun H' hs=> ⟨hs.base,g,rfl,g2,fun y hy=> ⟨hs.at_ y (by simp[hy]),hs.out y (by simp[hy])⟩⟩
 · have c2 : mask<2 ^ (ch.n-1):=by omega
   have hgn:=gl_len g2
   refine .sr ?_
   refine .i ?_ (z:=lss_t (by omega))
   refine .done (.seq (.tt rfl (.skip (.seq (.block (.sr ?_))))))
   refine .m ?_
   refine .e (.al (zz:=fun b7=> ?_))
   refine .e (.st 0 (zz:=?_))
   refine .done (.sr ?_)
   refine .m ?_
   refine .x .mf ?_
   refine .e (Or.callNew Gl.val Gl.bl (fun g':Gl 3 1=> g'.l=keepTo (bitM mask) (ch.n-1)) rfl rfl rfl rfl rfl (by decide) gl_nodup (fun H hs=> .f ca97 rfl (keep_n _ H (ch.n-1) _ (bitM mask) (by omega) (spots_asks _ H mask (ch.n-1) b7 (by omega) (by omega) (hs.get (i:=0) rfl)))) (fun g' hg'=> ?_))
   refine .g ?_
   refine .done ?_
   rw[keep_bits] at hg'
   have hgn':=gl_len hg'
   have hbl:=bits_len mask (ch.n-1)
   have hgood:=hg.on mask
   refine .seq (.seq ?_)
   refine Tc.via2 (fun R' L'=> skips (bitsL mask (ch.n-1)) (ch.spotsTo mask)=false∧AllIn [(1,.pointer (some ⟨b1,0,none⟩)),(2,g.val),(3,.bool (ch.spotsTo mask).isSome),(6,.int .i64 ((ch.n-1:Nat):Int)),(8,g'.val),(22,.int .i64 ((2 ^ (ch.n-1):Nat):Int)),(23,.int .i64 (mask:Nat))] R'∧L'= [(b7,true,.cells ⟨[.int .i64 (mask:Nat)]⟩ 3 (0,0)),(b1,true,.cells ⟨(ch.val7 lb lo lc).cells.toList⟩ 73 (0,0))]++g.bl++g'.bl) ?_ (fun fin=> ?_)
   · rintro R' L' ⟨hsk,hR,rfl⟩
     refine Tc.dropB ?_ hR (List.Sublist.refl _)
     cases hw:(ch.on (bitsL mask (ch.n-1))).first with
     | some s=>
       have hst:ch.spotsTo (mask+1)=ch.spotsTo mask:=by
         show ch.spotStep _ mask=_
         unfold Ch.spotStep
         rw[hsk,hw]
         rfl
       refine .sr ?_
       refine .x (.ld 1) ?_
       refine .m ?_
       refine .x .bu ?_
       refine .c rfl rfl rfl rfl (fun H hs=> .f ca120 rfl (show CallT (Mp Tryz.prog) 120 #[.agg ⟨[.int .i64 ch.s0,.int .i64 ch.s1,.slice (some ⟨lb,lo,none⟩) ch.n lc,.int .i64 ch.a0,.int .i64 ch.a1,.int .i64 ch.r0,.int .i64 ch.r1,.slice (g'.blk.map fun b=> ⟨b,0,none⟩) g'.n g'.cap]⟩] H _ from by rw[hgn'];exact CallT.is (.tuple ⟨[.int .i64 ((ch.on (bitsL mask (ch.n-1))).sec:Nat),.int .i64 (((ch.on (bitsL mask (ch.n-1))).bad (ch.on (bitsL mask (ch.n-1))).sec).getD 0),.bool true]⟩) (by rewrite [hw];rfl) (chainWeak_c H (ch.on (bitsL mask (ch.n-1))) lb lo lc g'.cap _ ((hA.le hs.base).on hg' (fun y hy=> hs.at_ y (by simp[hy]))) hgood (glob_le hG hs.base)))) ?_
       refine .m ?_
       refine .x .et ?_
       refine .x .et ?_
       refine .x .et ?_
       refine .g ?_
       refine .g ?_
       refine .g ?_
       refine .done (.sr ?_)
       refine .m ?_
       refine .x .nt ?_
       refine .done (.ff rfl (.skip (.inBlock (.r ?_))))
       refine .i ?_ (z:=add_in (by omega) (by omega))
       refine .m ?_
       refine .done ?_
       have hfin:=ih ⟨(mask+1,g),by simp only;omega,by simp only[hst];exact g2⟩ (by simp only;omega)
       simp only[hst] at hfin
       exact Tc.db hfin
     | none=>
       have hst:ch.spotsTo (mask+1)=some (bitsL mask (ch.n-1)):=by
         show ch.spotStep _ mask=_
         unfold Ch.spotStep
         rw[hsk,hw]
         rfl
       refine .sr ?_
       refine .x (.ld 1) ?_
       refine .m ?_
       refine .x .bu ?_
       refine .c rfl rfl rfl rfl (fun H hs=> .f ca120 rfl (show CallT (Mp Tryz.prog) 120 #[.agg ⟨[.int .i64 ch.s0,.int .i64 ch.s1,.slice (some ⟨lb,lo,none⟩) ch.n lc,.int .i64 ch.a0,.int .i64 ch.a1,.int .i64 ch.r0,.int .i64 ch.r1,.slice (g'.blk.map fun b=> ⟨b,0,none⟩) g'.n g'.cap]⟩] H _ from by rw[hgn'];exact CallT.is (.tuple ⟨[.int .i64 ((ch.on (bitsL mask (ch.n-1))).sec:Nat),.int .i64 (((ch.on (bitsL mask (ch.n-1))).bad (ch.on (bitsL mask (ch.n-1))).sec).getD 0),.bool false]⟩) (by rewrite [hw];rfl) (chainWeak_c H (ch.on (bitsL mask (ch.n-1))) lb lo lc g'.cap _ ((hA.le hs.base).on hg' (fun y hy=> hs.at_ y (by simp[hy]))) hgood (glob_le hG hs.base)))) ?_
       refine .m ?_
       refine .x .et ?_
       refine .x .et ?_
       refine .x .et ?_
       refine .g ?_
       refine .g ?_
       refine .g ?_
       refine .done (.sr ?_)
       refine .m ?_
       refine .x .nt ?_
       refine .done (.tt rfl (.r ?_))
       refine .m ?_
       refine .g ?_
       refine .g ?_
       refine .done (.inBlock (.r ?_))
       refine .i ?_ (z:=add_in (by omega) (by omega))
       refine .m ?_
       refine .done ?_
       have hfin:=ih ⟨(mask+1,g'),by simp only;omega,by simp only[hst];exact hg'⟩ (by simp only;omega)
       simp only[hst] at hfin
       exact Tc.dropB hfin ⟨rfl,rfl,rfl,rfl,rfl,rfl,trivial⟩ (sub2 _ _ _ _)
   · have hskip:skips (bitsL mask (ch.n-1)) (ch.spotsTo mask)=true→ch.spotsTo (mask+1)=ch.spotsTo mask:=fun h=> by
       show ch.spotStep _ mask=_
       unfold Ch.spotStep
       rw[h]
       rfl
     cases hb:ch.spotsTo mask with
     | none=>
       rw[hb] at fin
       refine .r ?_
       refine .m ?_
       refine .m ?_
       refine .sk ?_
       refine .sk ?_
       refine .sk ?_
       refine .sk ?_
       refine .sk ?_
       refine .sk ?_
       refine To.skippedU rfl (by decide) rfl ?_
       refine To.skippedU rfl (by decide) rfl ?_
       refine To.skippedU rfl (by decide) rfl ?_
       refine To.skippedU rfl (by decide) rfl ?_
       refine To.skippedU rfl (by decide) rfl ?_
       refine To.skippedU rfl (by decide) rfl ?_
       refine To.skippedU rfl (by decide) rfl ?_
       refine To.skippedU rfl (by decide) rfl ?_
       refine To.skippedU rfl (by decide) rfl ?_
       refine To.skippedU rfl (by decide) rfl ?_
       refine To.skippedU rfl (by decide) rfl ?_
       refine .sk ?_
       refine .x .pk ?_
       refine .done (.ff rfl (.skip ?_))
       exact fin _ _ ⟨rfl,⟨rfl,rfl,rfl,rfl,rfl,rfl,rfl,trivial⟩,rfl⟩
     | some b=>
       rw[hb] at fin hskip g2 hgn
       have hbn:=spots_le ch mask b hb
       simp only[Option.getD_some] at g2 hgn
       rw[places_nums] at g2
       rw[places_nums] at hg'
       have hcmp:∀H',SymSt H ([(b7,true,.cells ⟨[.int .i64 (mask:Nat)]⟩ 3 (0,0)),(b1,true,.cells ⟨(ch.val7 lb lo lc).cells.toList⟩ 73 (0,0))]++g.bl++g'.bl) H'→CallT (Mp Tryz.prog) 119 #[g'.val,g.val] H' (fun v H''=> H'.le H''∧v=.int .i64 (cmpL (numsL (bitsL mask (ch.n-1))) (numsL b))):=fun H' hs=>
         Compare_c _ H' _ _ _ _ g'.n g.n g'.cap g.cap (by rw[hgn'];simp[numsL]) (by rw[hgn];simp[numsL]) (by omega) (by omega) (Nums.of hg' (fun y hy=> hs.at_ y (by simp[hy]))).2 (Nums.of g2 (fun y hy=> hs.at_ y (by simp[hy]))).2
       by_cases d1:b.length<(bitsL mask (ch.n-1)).length
       · have hst:=hskip (by unfold skips;simp[d1])
         refine .r ?_
         refine .m ?_
         refine .m ?_
         refine .m ?_
         refine .x .ln ?_
         refine .m ?_
         refine .x .ln ?_
         refine .i ?_ (z:=gtr_t (by omega))
         refine .m ?_
         refine .sk ?_
         refine .sk ?_
         refine .sk ?_
         refine .sk ?_
         refine .sk ?_
         refine .sk ?_
         refine To.skippedU rfl (by decide) rfl ?_
         refine To.skippedU rfl (by decide) rfl ?_
         refine To.skippedU rfl (by decide) rfl ?_
         refine To.skippedU rfl (by decide) rfl ?_
         refine .sk ?_
         refine .x .pk ?_
         refine .x .pk ?_
         refine .done (.tt rfl (.exit rfl (.r ?_)))
         refine .i ?_ (z:=add_in (by omega) (by omega))
         refine .m ?_
         refine .done ?_
         have hfin:=ih ⟨(mask+1,g),by simp only;omega,by simp only[hst];rw[places_nums];exact g2⟩ (by simp only;omega)
         simp only[hst] at hfin
         exact Tc.db hfin
       · by_cases d2:(bitsL mask (ch.n-1)).length=b.length
         · by_cases d3:0<cmpL (numsL (bitsL mask (ch.n-1))) (numsL b)
           · have hst:=hskip (by unfold skips;simp[d2,d3])
             refine .r ?_
             refine .m ?_
             refine .m ?_
             refine .m ?_
             refine .x .ln ?_
             refine .m ?_
             refine .x .ln ?_
             refine .i ?_ (z:=gtr_f (by omega))
             refine .m ?_
             refine .m ?_
             refine .x .ln ?_
             refine .m ?_
             refine .x .ln ?_
             refine .i ?_ (z:=eql_t (by omega))
             refine .m ?_
             refine .m ?_
             refine .m ?_
             refine .c rfl rfl rfl rfl (fun H hs=> .f ca119 rfl (hcmp H hs)) ?_
             refine .i ?_ (z:=gtr_t (by omega))
             refine .x .pk ?_
             refine .x .pk ?_
             refine .x .pk ?_
             refine .done (.tt rfl (.exit rfl (.r ?_)))
             refine .i ?_ (z:=add_in (by omega) (by omega))
             refine .m ?_
             refine .done ?_
             have hfin:=ih ⟨(mask+1,g),by simp only;omega,by simp only[hst];rw[places_nums];exact g2⟩ (by simp only;omega)
             simp only[hst] at hfin
             exact Tc.db hfin
           · have hns:skips (bitsL mask (ch.n-1)) (some b)=false:=by unfold skips;simp[d2,d3]
             refine .r ?_
             refine .m ?_
             refine .m ?_
             refine .m ?_
             refine .x .ln ?_
             refine .m ?_
             refine .x .ln ?_
             refine .i ?_ (z:=gtr_f (by omega))
             refine .m ?_
             refine .m ?_
             refine .x .ln ?_
             refine .m ?_
             refine .x .ln ?_
             refine .i ?_ (z:=eql_t (by omega))
             refine .m ?_
             refine .m ?_
             refine .m ?_
             refine .c rfl rfl rfl rfl (fun H hs=> .f ca119 rfl (hcmp H hs)) ?_
             refine .i ?_ (z:=gtr_f (by omega))
             refine .x .pk ?_
             refine .x .pk ?_
             refine .x .pk ?_
             refine .done (.ff rfl (.skip ?_))
             exact fin _ _ ⟨hns,⟨rfl,rfl,rfl,rfl,rfl,rfl,rfl,trivial⟩,rfl⟩
         · have hns:skips (bitsL mask (ch.n-1)) (some b)=false:=by unfold skips;simp[d1,d2]
           refine .r ?_
           refine .m ?_
           refine .m ?_
           refine .m ?_
           refine .x .ln ?_
           refine .m ?_
           refine .x .ln ?_
           refine .i ?_ (z:=gtr_f (by omega))
           refine .m ?_
           refine .m ?_
           refine .x .ln ?_
           refine .m ?_
           refine .x .ln ?_
           refine .i ?_ (z:=eql_f (by omega))
           refine .m ?_
           refine .sk ?_
           refine .sk ?_
           refine .sk ?_
           refine .sk ?_
           refine .x .pk ?_
           refine .x .pk ?_
           refine .x .pk ?_
           refine .done (.ff rfl (.skip ?_))
           exact fin _ _ ⟨hns,⟨rfl,rfl,rfl,rfl,rfl,rfl,rfl,trivial⟩,rfl⟩
end Go.Proofs.YtpdaenfglbgfkaaGreatDoor
end
section
namespace Go.RL
open Go.Conc
section
variable {P:Program}{M:Md P}{St:View→Goroutine→Prop}{n:Nat}{b:FB}{H₀:View}{cs:List Frame}{R:Rg}{L:Bl}{ds:List Deferred}{k:List Item}{ops:Array Oper}
theorem Tc.drT {id:Nat}{fuel:Nat}(B C E:List Nat)(m:Nat)(hm:P.follows .mixedOrders=true)(hf:ops.size=fuel)(h:Ta M St n b H₀ cs (S3 H₀ B C (eraseL (L.take m) E) L) .any ops fuel (Array.replicate fuel false) R L ds k):
   Tc M St n b H₀ cs R L ds (.code (.region id ops true)::k):=fun H tmps hs hr=> by
 subst hf
 refine .region_draw fun t=> ?_
 simp only[Region.schedule,hm,Bool.true_or,if_true]
 have hS:=S3.mk (H₀:=H₀) (B:=B) (C:=C) (listed:=Array.replicate ops.size false) ((eraseL_sub E (L.take m)).trans (List.take_sublist m L)) (.inr (List.Sublist.refl L)) H hs
 exact(h H tmps hs hr hS).sound _ t _ _ _ hS
end
end Go.RL
end
section
namespace Go.Proofs.YtpdaenfglbgfkaaGreatDoor
open Go.RL
set_option maxRecDepth 10000
set_option maxHeartbeats 4000000
section
variable(M:Md Tryz.prog)(H:View)
theorem elementR_c(code p:Nat)(h1:code<32)(h2:p<7):CallT M 117 #[.int .i64 code,.int .i64 (p:Nat)] H (fun v H'=> H.le H'∧v=.int .i64 (elementN code p:Nat)):=by
 refine CallT.enter (vs:= [.int .i64 code,.int .i64 (p:Nat)]) Tryz.func117 rfl Tryz.ntmps117 (Nat.le_of_ble_eq_true rfl) (SymSt.nil _) fun St c cs hK=> ?_
 by_cases c2:p=6
 · subst c2
   refine .sr ?_
   refine .g ?_
   refine .done (.seq (.sr ?_))
   refine .m ?_
   refine .i ?_ (z:=lss_f (by omega))
   refine .m ?_
   refine .m ?_
   refine .i ?_ (z:=eql_t (by omega))
   refine .x .pk ?_
   refine .done (.tt rfl (.sr ?_))
   refine .g ?_
   refine .done ?_
   refine .rt hK Tryz.func117 Tryz.results117 [_] ?_
   exact fun H' hs=> ⟨hs.base,rfl⟩
 · by_cases c1:p=0
   · subst c1
     refine .sr ?_
     refine .g ?_
     refine .done (.seq (.sr ?_))
     refine .m ?_
     refine .i ?_ (z:=lss_f (by omega))
     refine .m ?_
     refine .m ?_
     refine .i ?_ (z:=eql_f (by omega))
     refine .x .pk ?_
     refine .done (.ff rfl (.skip (.seq (.sr ?_))))
     refine .m ?_
     refine .i ?_ (z:=eql_t (by omega))
     refine .done (.tt rfl (.sr ?_))
     refine .g ?_
     refine .done ?_
     refine .rt hK Tryz.func117 Tryz.results117 [_] ?_
     exact fun H' hs=> ⟨hs.base,rfl⟩
   · have hb:=element_bits code h1 p h2 c1 c2
     have g1:shiftV .shr .i64 (code:Int) ((p:Int)-1)=some (.int .i64 (Int.fdiv (code:Int) (2 ^ (min ((p:Int)-1).toNat 64)))):=rfl
     have g2:intBin .and .i64 (Int.fdiv (code:Int) (2 ^ (min ((p:Int)-1).toNat 64))) 1=some (.int .i64 (elementN code p:Nat)):=congrArg (fun x=> some (Value.int .i64 x)) hb
     refine .sr ?_
     refine .g ?_
     refine .done (.seq (.sr ?_))
     refine .m ?_
     refine .i ?_ (z:=lss_f (by omega))
     refine .m ?_
     refine .m ?_
     refine .i ?_ (z:=eql_f (by omega))
     refine .x .pk ?_
     refine .done (.ff rfl (.skip (.seq (.sr ?_))))
     refine .m ?_
     refine .i ?_ (z:=eql_f (by omega))
     refine .done (.ff rfl (.skip (.sr ?_)))
     refine .m ?_
     refine .m ?_
     refine .i ?_ (z:=sub_in (by omega) (by omega))
     refine .x .sf ?_
     refine .i ?_ (z:=by assumption)
     refine .g ?_
     refine .done ?_
     refine .rt hK Tryz.func117 Tryz.results117 [_] ?_
     exact fun H' hs=> ⟨hs.base,rfl⟩
theorem elementB_c(code p:Nat)(h1:code<32)(h2:p<7):CallT M 117 #[.int .i64 code,.int .i64 ((p:Int)-1)] H (fun v H'=> H.le H'∧v=.int .i64 (beforeN code p:Nat)):=by
 cases p with
 | zero=>
   refine CallT.enter (vs:= [.int .i64 code,.int .i64 (((0:Nat):Int)-1)]) Tryz.func117 rfl Tryz.ntmps117 (Nat.le_of_ble_eq_true rfl) (SymSt.nil _) fun St c cs hK=> ?_
   refine .sr ?_
   refine .g ?_
   refine .done (.seq (.sr ?_))
   refine .m ?_
   refine .i ?_ (z:=lss_t (by omega))
   refine .m ?_
   refine .sk ?_
   refine .sk ?_
   refine .x .pk ?_
   refine .done (.tt rfl (.sr ?_))
   refine .g ?_
   refine .done ?_
   refine .rt hK Tryz.func117 Tryz.results117 [_] ?_
   exact fun H' hs=> ⟨hs.base,rfl⟩
 | succ q=>
   rw[show((q+1:Nat):Int)-1=(q:Nat) by omega]
   exact elementR_c M H code q h1 (by omega)
theorem EdgesOf_c(code:Nat)(hc:code<32):CallT M 52 #[.int .i64 code] H (fun v H'=> H.le H'∧∃g:Gl 3 1,v=g.val∧g.l=placesV (placesTo code 7)∧∀x∈g.bl,H' x.1=some x.2∧H x.1=none):=by
 refine CallT.enter (vs:= [.int .i64 code]) Tryz.func52 rfl Tryz.ntmps52 (Nat.le_of_ble_eq_true rfl) (SymSt.nil _) fun St c cs hK=> ?_
 refine .sr ?_
 refine .g ?_
 refine .done (.sr ?_)
 refine .g ?_
 refine .done (.seq (.sr ?_))
 refine .g ?_
 refine .done (.block ?_)
 refine Tc.db (Tc.loopInv (σ:= { s:Nat×Gl 3 1//s.1≤7∧s.2.l=placesV (placesTo code s.1) })
   (fun s=> ([(0,.int .i64 code),(3,s.1.2.val),(4,.int .i64 (s.1.1:Nat))],s.1.2.bl)) (fun s=> 7-s.1.1) ?_ ⟨(0,Gl.nil 3 1),by simp,rfl⟩)
 rintro⟨⟨p,g⟩,g1,g2⟩ ih
 simp only at g1 g2
 have hlen:g.n≤7:=by
   have h1:=g.hl
   have h2:=placesTo_len code p
   rw[g2] at h1
   unfold placesV at h1
   rw[List.length_map] at h1
   omega
 show Tc M St _ _ _ _ [(0,.int .i64 code),(3,g.val),(4,.int .i64 (p:Nat))] g.bl _ _
 by_cases c7:p=7
 · subst c7
   refine .seq (.sr ?_)
   refine .m ?_
   refine .i ?_ (z:=leq_f (by omega))
   refine .done (.ff rfl (.exit rfl (.sr ?_)))
   refine .m ?_
   refine .g ?_
   refine .done ?_
   refine .rt hK Tryz.func52 Tryz.results52 [_] ?_
   exact fun H' hs=> ⟨hs.base,g,rfl,g2,fun x hx=> ⟨hs.at_ x hx,hs.out x hx⟩⟩
 · have c8:p<7:=by omega
   refine .seq (.sr ?_)
   refine .m ?_
   refine .i ?_ (z:=leq_t (by omega))
   refine .done (.tt rfl (.skip (.seq (.block (.seq ?_)))))
   by_cases he:elementN code p=beforeN code p
   · refine .r ?_
     refine .m ?_
     refine .m ?_
     refine .c rfl rfl rfl rfl (fun H hs=> .f ca117 rfl (elementR_c M H code p hc c8)) ?_
     refine .m ?_
     refine .m ?_
     refine .i ?_ (z:=sub_in (by omega) (by omega))
     refine .c rfl rfl rfl rfl (fun H hs=> .f ca117 rfl (elementB_c M H code p hc c8)) ?_
     refine .i ?_ (z:=neq_f (by omega))
     refine .done (.ff rfl (.skip (.inBlock (.r ?_))))
     refine .m ?_
     refine .i ?_ (z:=add_in (by omega) (by omega))
     refine .g ?_
     refine .done ?_
     exact Tc.db (ih ⟨(p+1,g),by simp only;omega,by simp only[placesTo,he,if_true];exact g2⟩ (by simp only;omega))
   · refine .r ?_
     refine .m ?_
     refine .m ?_
     refine .c rfl rfl rfl rfl (fun H hs=> .f ca117 rfl (elementR_c M H code p hc c8)) ?_
     refine .m ?_
     refine .m ?_
     refine .i ?_ (z:=sub_in (by omega) (by omega))
     refine .c rfl rfl rfl rfl (fun H hs=> .f ca117 rfl (elementB_c M H code p hc c8)) ?_
     refine .i ?_ (z:=neq_t (by omega))
     refine .done (.tt rfl (.r ?_))
     refine .m ?_
     refine .m ?_
     refine .e (.bs (zz:=fun bs=> ?_))
     refine .e (Or.append (E:=en) 1 rfl rfl rfl rfl rfl rfl rfl rfl rfl rfl rfl rfl rfl rfl rfl (fun H hs=> SrcAt.of (hs.get (i:=0) rfl) (Nat.le_of_ble_eq_true rfl)) rfl (by omega) rfl (by decide) (fun g' hn hl=> ?_))
     refine .g ?_
     refine .done (.inBlock (.r ?_))
     refine .m ?_
     refine .i ?_ (z:=add_in (by omega) (by omega))
     refine .g ?_
     refine .done ?_
     exact Tc.db (ih ⟨(p+1,g'),by simp only;omega,by simp only[placesTo,he,if_false];rw[hl,g2];unfold placesV;rw[List.map_append];rfl⟩ (by simp only;omega))
end
end Go.Proofs.YtpdaenfglbgfkaaGreatDoor
end
section
namespace Go.Proofs.YtpdaenfglbgfkaaGreatDoor
open Go.RL Go.ChangeShapes Go.WideShapes Go.ChangeAt Go.RowKit
set_option maxRecDepth 100000
section
variable {H:Type}{enc:TypeId×Value→H}{P:Program}{W:World}{base:Nat}{sp:Nat→Bool}{held:Bool}
theorem trodAll_at:∀ {ts:List TypeId} {vs:List Value} {ds:List (DataW H)} {p:List MemPlace},DataW.TrodAll enc P W base sp held ts vs ds p→∀(j:Nat) t v,ts[j]? =some t→vs[j]? =some v→∃d q,DataW.Trod enc P W base sp held t v d q
 | [],_,_,_,_,_,_,_,h,_=> by simp at h
 | t ::ts,v::vs,d::ds,p,⟨a,b,h1,h2,_⟩,j,t',v',ht,hv=> by
   cases j with
   | zero=>
     simp only[List.getElem?_cons_zero,Option.some.injEq] at ht hv
     subst ht hv
     exact⟨_,_,h1⟩
   | succ j=>
     simp only[List.getElem?_cons_succ] at ht hv
     exact trodAll_at h2 j t' v' ht hv
 | _::_,[],_,_,h,_,_,_,_,_=> by cases h
 | _::_,_::_,[],_,h,_,_,_,_,_=> by cases h
end
end Go.Proofs.YtpdaenfglbgfkaaGreatDoor
end
section
namespace Go.Proofs.YtpdaenfglbgfkaaGreatDoor
open Go.RL
set_option maxRecDepth 10000
theorem firstTo_none {p:Nat→Bool}:∀k:Nat,firstTo p k=none↔∀i,i<k→p i=false
 | 0=> by simp[firstTo]
 | k + 1=> by
   unfold firstTo
   rw[Option.or_eq_none_iff,firstTo_none k]
   constructor
   · rintro⟨h1,h2⟩ i hi
     rcases Nat.lt_succ_iff_lt_or_eq.1 hi with h|rfl
     · exact h1 i h
     · cases hp:p i with
       | false=> rfl
       | true=> rw[hp] at h2;cases h2
   · intro h
     refine⟨fun i hi=> h i (by omega),?_⟩
     rw[h k (by omega)]
     rfl
end Go.Proofs.YtpdaenfglbgfkaaGreatDoor
end
section
namespace Go.Proofs.YtpdaenfglbgfkaaGreatDoor
open Go.RL
set_option maxRecDepth 10000
theorem missedGo_to(pace after:Int):∀(f:Nat) (n j:Int),n≤j→j<missedGo pace after f n→(2*j+1)*pace<after
 | 0,n,j,h1,h2=> by simp[missedGo] at h2;omega
 | f + 1,n,j,h1,h2=> by
   unfold missedGo at h2
   split at h2
   · rename_i hlt
     by_cases e:j=n
     · subst e;exact hlt
     · exact missedGo_to pace after f (n+1) j (by omega) h2
   · omega
theorem missedF_to {pace after j:Int}(h0:0≤j)(h:j<missedF pace after):(2*j+1)*pace<after:=missedGo_to pace after 7 0 j h0 h
theorem missedF_iff {pace after:Int}(hp:0<pace){m:Int}(h0:0≤m)(h7:m<7):m<missedF pace after↔(2*m+1)*pace<after:=by
 constructor
 · exact missedF_to h0
 · intro h
   obtain⟨h1,h2,h3⟩:=missedF_in pace after
   by_cases e:m<missedF pace after
   · exact e
   · have h4:=h3 (by omega)
     have h5:(2*missedF pace after+1)*pace≤(2*m+1)*pace:=Int.mul_le_mul_of_nonneg_right (by omega) (by omega)
     omega
theorem missedF_mono {pace a b:Int}(hp:0<pace)(h:a≤b):missedF pace a≤missedF pace b:=by
 obtain⟨h1,h2,_⟩:=missedF_in pace a
 obtain⟨g1,g2,_⟩:=missedF_in pace b
 by_cases e:missedF pace a≤missedF pace b
 · exact e
 · have h4:=missedF_to (pace:=pace) (after:=a) g1 (by omega)
   have:=(missedF_iff (after:=b) hp g1 (by omega)).2 (by omega)
   omega
theorem optGo_all {read mt after:Int}(hr:0<read):∀(f:Nat) (n m:Int),n≤m→m≤mt→(mt+1-n).toNat≤f→∃o∈optGo read mt after f n,o.1=missedF read (after+m)∧n≤o.2∧o.2≤m
 | 0,n,m,h1,h2,h3=> by omega
 | f + 1,n,m,h1,h2,h3=> by
   unfold optGo
   rw[if_pos (by omega)]
   by_cases e:missedF read (after+m)=missedF read (after+n)
   · exact⟨_,List.mem_cons_self,e.symm,Int.le_refl _,h1⟩
   · have h4:=missedF_mono (pace:=read) hr (show after+n≤after+m by omega)
     have h5:=missedF_in read (after+n)
     have h6:=missedF_in read (after+m)
     rw[if_neg (by omega)]
     have h7:=h5.2.2 (by omega)
     have h8:=missedF_to (pace:=read) (after:=after+m) h5.1 (by omega)
     obtain⟨o,ho,h9,h10,h11⟩:=optGo_all (after:=after) hr f ((2*missedF read (after+n)+1)*read+1-after) m (by omega) h2 (by omega)
     exact⟨o,List.mem_cons_of_mem _ ho,h9,by omega,h11⟩
theorem optGo_is {read mt after:Int}:∀(f:Nat) (n:Int) (o:Int×Int),o∈optGo read mt after f n→n≤o.2∧o.2≤mt∧o.1=missedF read (after+o.2)
 | 0,n,o,h=> by cases h
 | f + 1,n,o,h=> by
   unfold optGo at h
   split at h
   · rename_i hn
     rcases List.mem_cons.1 h with rfl|h
     · exact⟨Int.le_refl _,hn,rfl⟩
     · split at h
       · cases h
       · rename_i h7
         have h5:=missedF_in read (after+n)
         obtain⟨h1,h2,h3⟩:=optGo_is f _ o h
         have:=h5.2.2 h7
         exact⟨by omega,h2,h3⟩
   · cases h
def Stg.miss(s:Stg)(i:Nat)(m:Int):Int:=if i=0 then 0 else missedF s.read (s.after (s.ps[i]?.getD 0) i+m)
def Stg.may(s:Stg)(i:Nat)(m:Int):Prop:=if i=0 then m=s.first else s.mf≤m∧m≤s.mt
theorem Stg.opts_all {s:Stg}(hr:0<s.read){i:Nat}{m:Int}(h:s.may i m):∃o∈s.opts (s.ps[i]?.getD 0) i,o.1=s.miss i m∧o.2≤m:=by
 unfold Stg.may at h
 unfold Stg.opts Stg.miss
 split at h
 · rename_i hi
   subst hi
   rw[if_pos rfl,if_pos rfl]
   exact⟨_,List.mem_cons_self,rfl,by omega⟩
 · rename_i hi
   rw[if_neg hi,if_neg hi]
   obtain⟨o,h1,h2,h3,h4⟩:=optGo_all (read:=s.read) (mt:=s.mt) (after:=s.after (s.ps[i]?.getD 0) i) hr (s.mt+1-s.mf).toNat s.mf m h.1 h.2 (Nat.le_refl _)
   exact⟨o,h1,h2,h4⟩
theorem Stg.opts_is {s:Stg}{i:Nat}{o:Int×Int}(h:o∈s.opts (s.ps[i]?.getD 0) i):s.may i o.2∧o.1=s.miss i o.2:=by
 unfold Stg.opts at h
 unfold Stg.may Stg.miss
 split at h
 · rename_i hi
   simp only[List.mem_singleton] at h
   subst h
   subst hi
   exact⟨by simp,by simp⟩
 · rename_i hi
   obtain⟨h1,h2,h3⟩:=optGo_is _ _ _ h
   rw[if_neg hi,if_neg hi]
   exact⟨⟨h1,h2⟩,h3⟩
def Stg.viewFrom(s:Stg)(i v:Nat):List Int→Nat
 | []=> v
 | m::l=> s.viewFrom (i+1) (turnedN v (s.miss i m).toNat) l
def Stg.mayAll(s:Stg)(i:Nat):List Int→Prop
 | []=> True
 | m::l=> s.may i m∧s.mayAll (i+1) l
def Stg.view(s:Stg)(mv:List Int):Nat:=s.viewFrom 0 127 mv
theorem Stg.leaves_all {s:Stg}(hr:0<s.read):∀(l:List Int) (i v:Nat) (pre:List Int),s.mayAll i l→∃x∈s.leaves l.length i v pre,x.1=s.viewFrom i v l
 | [],i,v,pre,_=> ⟨(v,pre),by simp[Stg.leaves],rfl⟩
 | m ::l,i,v,pre,h=> by
   obtain⟨o,h1,h2,_⟩:=Stg.opts_all hr h.1
   obtain⟨x,h3,h4⟩:=Stg.leaves_all hr l (i+1) (turnedN v o.1.toNat) (pre++[o.2]) h.2
   refine⟨x,?_,?_⟩
   · simp only[List.length_cons,Stg.leaves]
     exact List.mem_flatMap.2 ⟨o,h1,h3⟩
   · rw[h4,h2]
     rfl
theorem Stg.leaves_is {s:Stg}:∀(d i v:Nat) (pre:List Int) (x:Nat×List Int),x∈s.leaves d i v pre→∃l:List Int,l.length=d∧x.2=pre++l∧s.mayAll i l∧x.1=s.viewFrom i v l
 | 0,i,v,pre,x,h=> by
   simp only[Stg.leaves,List.mem_singleton] at h
   subst h
   exact⟨[],rfl,by simp,trivial,rfl⟩
 | d+1,i,v,pre,x,h=> by
   unfold Stg.leaves at h
   obtain⟨o,h1,h2⟩:=List.mem_flatMap.1 h
   obtain⟨h3,h4⟩:=Stg.opts_is h1
   obtain⟨l,h5,h6,h7,h8⟩:=Stg.leaves_is d (i+1) _ _ x h2
   refine⟨o.2::l,by simp[h5],by rw[h6];simp,⟨h3,h7⟩,?_⟩
   rw[h8,h4]
   rfl
theorem Stg.all_mem {s:Stg}(hr:0<s.read){v:Nat}:(∃x∈s.all,x.1=v)↔∃mv:List Int,mv.length=s.ps.length∧s.mayAll 0 mv∧s.view mv=v:=by
 constructor
 · rintro⟨x,hx,rfl⟩
   obtain⟨l,h1,h2,h3,h4⟩:=Stg.leaves_is _ _ _ _ _ hx
   exact⟨l,h1,h3,h4.symm⟩
 · rintro⟨mv,h1,h2,rfl⟩
   obtain⟨x,h3,h4⟩:=Stg.leaves_all hr mv 0 127 [] h2
   exact⟨x,by unfold Stg.all;rw[←h1];exact h3,h4⟩
theorem nxR_true {os:List (Int×Int)}{R:Nat→Bool}{w:Nat}:nxR os R 128 0 w=true↔∃u,u<128∧R u=true∧∃o∈os,toV u o=w:=by
 unfold nxR
 simp only[List.take_zero,List.any_nil,Bool.false_and,Bool.or_false,List.any_eq_true,List.mem_range,Bool.and_eq_true,beq_iff_eq]
 constructor
 · rintro⟨u,h1,⟨o,h2,h3⟩,h4⟩
   exact⟨u,h1,h4,o,h2,h3⟩
 · rintro⟨u,h1,h4,o,h2,h3⟩
   exact⟨u,h1,⟨o,h2,h3⟩,h4⟩
theorem Stg.viewFrom_snoc(s:Stg):∀(l:List Int) (i v:Nat) (m:Int),s.viewFrom i v (l++[m])=turnedN (s.viewFrom i v l) (s.miss (i+l.length) m).toNat
 | [],i,v,m=> rfl
 | a::l,i,v,m=> by
   show s.viewFrom (i+1) _ (l++[m])=_
   rw[Stg.viewFrom_snoc s l]
   simp only[List.length_cons]
   rw[show i+1+l.length=i+(l.length+1) by omega]
   rfl
theorem Stg.mayAll_snoc(s:Stg):∀(l:List Int) (i:Nat) (m:Int),s.mayAll i (l++[m])↔s.mayAll i l∧s.may (i+l.length) m
 | [],i,m=> by simp[Stg.mayAll]
 | a::l,i,m=> by
   simp only[List.cons_append,Stg.mayAll,List.length_cons]
   rw[Stg.mayAll_snoc s l,show i+1+l.length=i+(l.length+1) by omega,and_assoc]
theorem Stg.miss_in {s:Stg}(i:Nat)(m:Int):0≤s.miss i m∧s.miss i m≤7:=by
 unfold Stg.miss
 split
 · omega
 · have:=missedF_in s.read (s.after (s.ps[i]?.getD 0) i+m);omega
theorem Stg.viewFrom_lt(s:Stg):∀(l:List Int) (i v:Nat),v<128→s.viewFrom i v l<128
 | [],_,_,h=> h
 | m::l,i,v,h=> by
   have:=Stg.miss_in (s:=s) i m
   exact Stg.viewFrom_lt s l (i+1) _ (turned_lt v h _ (by omega))
theorem Stg.reachTo_iff {s:Stg}(hr:0<s.read):∀(k:Nat) (w:Nat),s.reachTo k w=true↔∃mv:List Int,mv.length=k∧s.mayAll 0 mv∧s.view mv=w
 | 0,w=> by
   constructor
   · intro h
     simp only[Stg.reachTo,beq_iff_eq] at h
     exact⟨[],rfl,trivial,h.symm⟩
   · rintro⟨mv,h1,_,h3⟩
     cases List.eq_nil_of_length_eq_zero h1
     simp only[Stg.reachTo,beq_iff_eq]
     exact h3.symm
 | k + 1,w=> by
   unfold Stg.reachTo
   rw[nxR_true]
   constructor
   · rintro⟨u,h1,h2,o,h3,h4⟩
     obtain⟨mv,h5,h6,h7⟩:=(Stg.reachTo_iff hr k u).1 h2
     obtain⟨h8,h9⟩:=Stg.opts_is h3
     refine⟨mv++[o.2],by simp[h5],(Stg.mayAll_snoc s mv 0 o.2).2 ⟨h6,by rw[Nat.zero_add,h5];exact h8⟩,?_⟩
     unfold Stg.view at h7 ⊢
     rw[Stg.viewFrom_snoc,h7,Nat.zero_add,h5,←h9]
     exact h4
   · rintro⟨mv,h1,h2,h3⟩
     obtain⟨mv',m,rfl⟩:∃mv' m,mv=mv'++[m]:=by
       refine⟨mv.dropLast,mv.getLast (by intro e;rw[e] at h1;cases h1),?_⟩
       exact(List.dropLast_concat_getLast _).symm
     simp only[List.length_append,List.length_cons,List.length_nil,Nat.zero_add,Nat.add_right_cancel_iff] at h1
     obtain⟨h4,h5⟩:=(Stg.mayAll_snoc s mv' 0 m).1 h2
     rw[Nat.zero_add,h1] at h5
     obtain⟨o,h6,h7,_⟩:=Stg.opts_all hr h5
     refine⟨s.view mv',Stg.viewFrom_lt s mv' 0 127 (by decide),(Stg.reachTo_iff hr k _).2 ⟨mv',h1,h4,rfl⟩,o,h6,?_⟩
     unfold Stg.view at h3
     rw[Stg.viewFrom_snoc,Nat.zero_add,h1,←h7] at h3
     exact h3
theorem Stg.reach_iff {s:Stg}(hr:0<s.read){w:Nat}:s.reach w=true↔∃mv:List Int,mv.length=s.ps.length∧s.mayAll 0 mv∧s.view mv=w:=Stg.reachTo_iff hr _ _
theorem Stg.reach_all {s:Stg}(hr:0<s.read){w:Nat}:s.reach w=true↔∃x∈s.all,x.1=w:=(Stg.reach_iff hr).trans (Stg.all_mem hr).symm
end Go.Proofs.YtpdaenfglbgfkaaGreatDoor
end
section
namespace Go.Proofs.YtpdaenfglbgfkaaGreatDoor
open Go.RL
set_option maxRecDepth 10000
structure Lk.Past(k:Lk)(c:Nat)(a r n:Int)(mv:List Int):Prop where
 send:k.s0≤a∧a≤k.s1
 read:k.r0≤r∧r≤k.r1
 lean:k.l0≤n∧n≤k.l1
 len:mv.length=(placesTo c 7).length
 moves:∀m∈mv,k.m0≤m∧m≤k.m1
def pastView(c:Nat)(a r n:Int)(mv:List Int):Nat:=(⟨c,placesTo c 7,a,r,n,mv.headD 0,0,0⟩:Stg).view mv
structure Lk.Within(o k:Lk):Prop where
 s:k.s0≤o.s0∧o.s1≤k.s1
 r:k.r0≤o.r0∧o.r1≤k.r1
 l:k.l0≤o.l0∧o.l1≤k.l1
 m:k.m0≤o.m0∧o.m1≤k.m1
end Go.Proofs.YtpdaenfglbgfkaaGreatDoor
end
section
namespace Go.Proofs.YtpdaenfglbgfkaaGreatDoor
open Go.RL
set_option maxRecDepth 10000
set_option maxHeartbeats 4000000
def readV(o:Option Nat):Value:=match o with
 | some m=> .tuple ⟨[.int .i64 (m:Nat),.bool true,.int .i64 0]⟩
 | none=> .tuple ⟨[.int .i64 0,.bool false,.int .i64 0]⟩
section
variable(M:Md Tryz.prog)(H:View)
variable(k:Lk)(hG:Glob H)(hk:k.ok=true)(code:Nat)(hc:code<32)(a r n:Int)(mv:List Int)(hP:k.Past code a r n mv)(A:Option Addr)(m ca:Nat)(hm:m=(placesTo code 7).length)(hA:Nums H A mv)
include hG hk hc hP hm hA
end
end Go.Proofs.YtpdaenfglbgfkaaGreatDoor
end
section
namespace Go.Proofs.YtpdaenfglbgfkaaGreatDoor
open Go.RL
set_option maxRecDepth 10000
end Go.Proofs.YtpdaenfglbgfkaaGreatDoor
end
section
namespace Go.RL
def Gl.full(e:TypeId)(b:Nat)(l:List Value):Gl e 1:=⟨some b,l.length,l.length,l,[],by simp,Nat.le_refl _,by simp,fun h=> nomatch h⟩
end Go.RL
end
section
namespace Go.Proofs.YtpdaenfglbgfkaaGreatDoor
open Go.RL
set_option maxRecDepth 10000
set_option maxHeartbeats 4000000
theorem intsL_single(l:List Int):(intsL l).all single=true:=by
 rw[List.all_eq_true]
 intro v hv
 unfold intsL at hv
 obtain⟨x,_,rfl⟩:=List.mem_map.1 hv
 rfl
theorem Nums.src {H:View}{A:Option Addr}{l:List Int}(h:Nums H A l)(hne:l≠ []){m:Nat}(hm:m=l.length)(ca:Nat):SrcAt H 1 (.slice A m ca) m (intsL l):=by
 subst hm
 rcases h with h|⟨ab,ao,f,gs,gt,gz,rfl,h2,h3⟩
 · exact absurd h hne
 · have hlen:0<l.length:=List.length_pos_iff.2 hne
   have hle:ao+l.length≤gs.length:=by
     have h4:=h3 (l.length-1) (by omega)
     have h5:=(List.getElem?_eq_some_iff.1 (show gs[ao+((l.length-1:Nat):Int).toNat*1]? =_ from h4)).1
     rw[Int.toNat_natCast] at h5
     omega
   refine⟨⟨_,_,rfl⟩,by rw[intsL_len];omega,.inr ⟨ab,ao,ca,f,gs,gt,gz,rfl,h2,by rw[intsL_len];exact hle,?_⟩⟩
   rw[intsL_len]
   apply List.ext_getElem?
   intro i
   by_cases hi:i<l.length
   · rw[List.getElem?_take_of_lt hi,List.getElem?_drop]
     have h4:=h3 i hi
     have h5:gs[ao+(i:Int).toNat*1]? =some (.int .i64 (l[i]?.getD 0)):=h4
     rw[Int.toNat_natCast,Nat.mul_one] at h5
     rw[h5]
     unfold intsL
     rw[List.getElem?_map,List.getElem?_eq_getElem hi]
     rfl
   · rw[List.getElem?_eq_none (by rw[List.length_take,List.length_drop];omega),List.getElem?_eq_none (by rw[intsL_len];omega)]
section
variable(M:Md Tryz.prog)(H:View)
def pastA(s r e:Int)(A:Option Addr)(m ca:Nat):Value:=.agg ⟨[.int .i64 s,.int .i64 r,.int .i64 e,.slice A m ca]⟩
end
end Go.Proofs.YtpdaenfglbgfkaaGreatDoor
end
section
namespace Go.Proofs.YtpdaenfglbgfkaaGreatDoor
open Go.RL
set_option maxRecDepth 10000
set_option maxHeartbeats 4000000
def Ch.valA(c:Ch)(A:Option Addr)(lc:Nat):Value:=.agg ⟨[.int .i64 c.s0,.int .i64 c.s1,.slice A c.n lc,.int .i64 c.a0,.int .i64 c.a1,.int .i64 c.r0,.int .i64 c.r1]⟩
def LinesAt(H:View)(c:Ch)(A:Option Addr)(lc:Nat):Prop:=
 c.n≤lc∧(c.n=0∨∃lb lo f gs gt gz,A=some ⟨lb,lo,none⟩∧H lb=some (f,.cells ⟨gs⟩ gt gz)∧∀i:Nat,i<c.n→ldL true 4 gs (lo+i*4)=some (lineV (c.x i) (c.y i) (c.z i) (c.u i)))
theorem LinesAt.le {H H':View}{c:Ch}{A:Option Addr}{lc:Nat}(h:LinesAt H c A lc)(k:H.le H'):LinesAt H' c A lc:=by
 obtain⟨h0,h|⟨lb,lo,f,gs,gt,gz,h1,h2,h3⟩⟩:=h
 · exact⟨h0,.inl h⟩
 · exact⟨h0,.inr ⟨lb,lo,f,gs,gt,gz,h1,k _ _ h2,h3⟩⟩
def Ch.lineAt(c:Ch)(i:Nat):Bool:=leanOk (c.x i) (c.y i)&&moveOk (c.z i) (c.u i)
def Ch.paces(c:Ch):Bool:=paceOk c.s0 c.s1&&(paceOk c.a0 c.a1&&paceOk c.r0 c.r1)
def Ch.linesAlarm(c:Ch):Int:=if 1≤c.n∧c.n≤4 then(if allTo c.lineAt c.n then 0 else 1) else 2
def Ch.alarm(c:Ch):Int:=if c.paces then c.linesAlarm else 1
def Ch.fair(c:Ch):Bool:=c.paces&&(decide (1≤c.n∧c.n≤4)&&allTo c.lineAt c.n)
theorem Ch.alarm_zero {c:Ch}:c.alarm=0↔c.fair=true:=by
 unfold Ch.alarm Ch.linesAlarm Ch.fair
 cases c.paces <;> by_cases h:1≤c.n∧c.n≤4 <;> cases allTo c.lineAt c.n <;> simp[h]
theorem allTo_iff {p:Nat→Bool}:∀ {k:Nat},allTo p k=true↔∀i,i<k→p i=true
 | 0=> by simp[allTo]
 | k + 1=> by
   unfold allTo
   rw[Bool.and_eq_true,allTo_iff]
   constructor
   · rintro⟨h1,h2⟩ i hi
     rcases Nat.lt_succ_iff_lt_or_eq.1 hi with h|rfl
     · exact h1 i h
     · exact h2
   · intro h
     exact⟨fun i hi=> h i (by omega),h k (by omega)⟩
theorem line_ok(x y z u:Int):(⟨0,0,0,0,x,y,z,u⟩:Lk).lineOk=(leanOk x y&&moveOk z u):=by
 simp[Lk.lineOk,allTo,Lk.chk,Lk.leans,Lk.moves]
theorem Ch.fair_good {c:Ch}(h:c.fair=true)(hm:c.m=0):c.Good:=by
 unfold Ch.fair Ch.paces at h
 simp only[Bool.and_eq_true,decide_eq_true_eq] at h
 obtain⟨⟨h1,h2,h3⟩,h4,h5⟩:=h
 rw[allTo_iff] at h5
 have hb:∀i,i<c.n→(-9≤c.x i∧c.x i≤c.y i∧c.y i≤9)∧(-12≤c.z i∧c.z i≤c.u i∧c.u i≤12):=fun i hi=> by
   have:=h5 i hi
   unfold Ch.lineAt leanOk moveOk at this
   simp only[Bool.and_eq_true,decide_eq_true_eq] at this
   omega
 refine⟨⟨by omega,h4.2,fun i hi=> ?_,fun i hi=> ?_,fun i hi=> ?_,fun i hi=> ?_,fun i hi=> by omega,fun i hi=> by omega⟩,h1,h2,h3,fun i hi=> ?_⟩
 · have:=hb i hi;omega
 · have:=hb i hi;omega
 · have:=hb i hi;omega
 · have:=hb i hi;omega
 · rw[line_ok];exact h5 i hi
section
variable(M:Md Tryz.prog)(H:View)
theorem refLines_c(ch:Ch)(A:Option Addr)(lc:Nat)(hA:LinesAt H ch A lc):CallT M 127 #[.slice A ch.n lc] H (fun v H'=> H.le H'∧v=.int .i64 ch.linesAlarm):=by
 refine CallT.enter (vs:= [.slice A ch.n lc]) Tryz.func127 rfl Tryz.ntmps127 (Nat.le_of_ble_eq_true rfl) (SymSt.nil _) fun St c cs hK=> ?_
 by_cases h:1≤ch.n∧ch.n≤4
 · have hin:∀H,CallT M 59 #[.int .i64 (ch.n:Nat),.int .i64 1,.int .i64 4] H (fun v H'=> H.le H'∧v=.bool true):=fun H=>
     CallT.mono (In_c M H _ 1 4) (by rintro v H' ⟨h1,h2⟩;rw[decide_eq_true (show(1:Int)≤(ch.n:Nat)∧((ch.n:Nat):Int)≤4 by omega)] at h2;exact⟨h1,h2⟩)
   obtain⟨hlc,h0|⟨lb,lo,f,gs,gt,gz,rfl,hA1,hA2⟩⟩:=hA
   · omega
   refine .sr ?_
   refine .g ?_
   refine .done (.seq (.sr ?_))
   refine .m ?_
   refine .x .ln ?_
   refine .c rfl rfl rfl rfl (fun H hs=> .f ca59 rfl (hin H)) ?_
   refine .x .nt ?_
   refine .done (.ff rfl (.skip (.seq (.sr ?_))))
   refine .g ?_
   refine .done (.block ?_)
   refine Tc.db (Tc.loopInv (σ:= { j:Nat//j≤ch.n∧allTo ch.lineAt j=true }) (fun j=> ([(0,.slice (some ⟨lb,lo,none⟩) ch.n lc),(3,.int .i64 (j.1:Nat))],[])) (fun j=> ch.n-j.1) ?_ ⟨0,by omega,rfl⟩)
   rintro⟨j,hj,hall⟩ ih
   show Tc M St _ _ _ _ [(0,.slice (some ⟨lb,lo,none⟩) ch.n lc),(3,.int .i64 (j:Nat))] [] _ _
   by_cases c1:j=ch.n
   · have e:ch.linesAlarm=0:=by unfold Ch.linesAlarm;rw[if_pos h,←c1,if_pos hall]
     subst c1
     refine .seq (.sr ?_)
     refine .m ?_
     refine .m ?_
     refine .x .ln ?_
     refine .i ?_ (z:=lss_f (by omega))
     refine .done (.ff rfl (.exit rfl (.sr ?_)))
     refine .g ?_
     refine .done ?_
     refine .rt hK Tryz.func127 Tryz.results127 [_] ?_
     exact fun H' hs=> ⟨hs.base,by rw[e];rfl⟩
   · have c2:j<ch.n:=by omega
     have f1:ldL true 4 gs (lo+(j:Int).toNat*4)=some (lineV (ch.x j) (ch.y j) (ch.z j) (ch.u j)):=by rw[show(j:Int).toNat=j by simp];exact hA2 j c2
     cases hl:ch.lineAt j with
     | true=>
       refine .seq (.sr ?_)
       refine .m ?_
       refine .m ?_
       refine .x .ln ?_
       refine .i ?_ (z:=lss_t (by omega))
       refine .done (.tt rfl (.skip (.seq (.block (.sr ?_)))))
       refine .m ?_
       refine .m ?_
       refine .x .ia ?_
       refine .x .l0 ?_
       refine .c rfl rfl rfl rfl (fun H hs=> .f ca82 rfl (CallT.mono (refLine_c M H (ch.x j) (ch.y j) (ch.z j) (ch.u j)) (Q':=fun v H'=> H.le H'∧v=.int .i64 0) (by rintro v H' ⟨h1,h2⟩;unfold Ch.lineAt at hl;rw[hl] at h2;exact⟨h1,h2⟩))) ?_
       refine .g ?_
       refine .done (.sr ?_)
       refine .m ?_
       refine .i ?_ (z:=neq_f (by omega))
       refine .done (.ff rfl (.skip (.inBlock (.r ?_))))
       refine .m ?_
       refine .i ?_ (z:=add_in (by omega) (by omega))
       refine .g ?_
       refine .done ?_
       exact Tc.db (ih ⟨j+1,by omega,by unfold allTo;rw[hall,hl];rfl⟩ (by simp only;omega))
     | false=>
       have e:ch.linesAlarm=1:=by
         unfold Ch.linesAlarm
         rw[if_pos h,if_neg]
         intro h5
         rw[allTo_iff.1 h5 j c2] at hl
         cases hl
       refine .seq (.sr ?_)
       refine .m ?_
       refine .m ?_
       refine .x .ln ?_
       refine .i ?_ (z:=lss_t (by omega))
       refine .done (.tt rfl (.skip (.seq (.block (.sr ?_)))))
       refine .m ?_
       refine .m ?_
       refine .x .ia ?_
       refine .x .l0 ?_
       refine .c rfl rfl rfl rfl (fun H hs=> .f ca82 rfl (CallT.mono (refLine_c M H (ch.x j) (ch.y j) (ch.z j) (ch.u j)) (Q':=fun v H'=> H.le H'∧v=.int .i64 1) (by rintro v H' ⟨h1,h2⟩;unfold Ch.lineAt at hl;rw[hl] at h2;exact⟨h1,h2⟩))) ?_
       refine .g ?_
       refine .done (.sr ?_)
       refine .m ?_
       refine .i ?_ (z:=neq_t (by omega))
       refine .done (.tt rfl (.sr ?_))
       refine .m ?_
       refine .g ?_
       refine .done ?_
       refine .rt hK Tryz.func127 Tryz.results127 [_] ?_
       exact fun H' hs=> ⟨hs.base,by rw[e];rfl⟩
 · have e:ch.linesAlarm=2:=by unfold Ch.linesAlarm;rw[if_neg h]
   have hin:∀H,CallT M 59 #[.int .i64 (ch.n:Nat),.int .i64 1,.int .i64 4] H (fun v H'=> H.le H'∧v=.bool false):=fun H=>
     CallT.mono (In_c M H _ 1 4) (by rintro v H' ⟨h1,h2⟩;rw[decide_eq_false (show ¬((1:Int)≤(ch.n:Nat)∧((ch.n:Nat):Int)≤4) by omega)] at h2;exact⟨h1,h2⟩)
   refine .sr ?_
   refine .g ?_
   refine .done (.seq (.sr ?_))
   refine .m ?_
   refine .x .ln ?_
   refine .c rfl rfl rfl rfl (fun H hs=> .f ca59 rfl (hin H)) ?_
   refine .x .nt ?_
   refine .done (.tt rfl (.sr ?_))
   refine .g ?_
   refine .done ?_
   refine .rt hK Tryz.func127 Tryz.results127 [_] ?_
   exact fun H' hs=> ⟨hs.base,by rw[e];rfl⟩
theorem refPaces_is(a b:Int)(t:Bool)(h:paceOk a b=t):CallT M 123 #[bandV a b] H (fun v H'=> H.le H'∧v=.bool t):=
 CallT.mono (refPaces_c M H a b) (by rintro v H' ⟨h1,h2⟩;exact⟨h1,h2.trans (congrArg Value.bool h)⟩)
theorem refChain_c(ch:Ch)(A:Option Addr)(lc:Nat)(hA:LinesAt H ch A lc):CallT M 67 #[ch.valA A lc] H (fun v H'=> H.le H'∧v=.int .i64 ch.alarm):=by
 refine CallT.enter (vs:= [ch.valA A lc]) Tryz.func67 rfl Tryz.ntmps67 (Nat.le_of_ble_eq_true rfl) (SymSt.nil _) fun St c cs hK=> ?_
 cases h1:paceOk ch.s0 ch.s1 with
 | false=>
   have e:ch.alarm=1:=by unfold Ch.alarm Ch.paces;rw[h1];rfl
   refine .sr ?_
   refine .e (.bx (zz:=fun b1=> ?_))
   refine .g ?_
   refine .done (.seq (.sr ?_))
   refine .x .fa ?_
   refine .x (.ld 0) ?_
   refine .c rfl rfl rfl rfl (fun H hs=> .f ca123 rfl (refPaces_is M H ch.s0 ch.s1 false h1)) ?_
   refine .x .nt ?_
   refine .m ?_
   refine .sk ?_
   refine .sk ?_
   refine .sk ?_
   refine .sk ?_
   refine .x .pk ?_
   refine .m ?_
   refine .sk ?_
   refine .sk ?_
   refine .sk ?_
   refine .sk ?_
   refine .x .pk ?_
   refine .done (.tt rfl (.sr ?_))
   refine .g ?_
   refine .done ?_
   refine .rt hK Tryz.func67 Tryz.results67 [_] ?_
   exact fun H' hs=> ⟨hs.base,by rw[e];rfl⟩
 | true=>
   cases h2:paceOk ch.a0 ch.a1 with
   | false=>
     have e:ch.alarm=1:=by unfold Ch.alarm Ch.paces;rw[h1,h2];rfl
     refine .sr ?_
     refine .e (.bx (zz:=fun b1=> ?_))
     refine .g ?_
     refine .done (.seq (.sr ?_))
     refine .x .fa ?_
     refine .x (.ld 0) ?_
     refine .c rfl rfl rfl rfl (fun H hs=> .f ca123 rfl (refPaces_is M H ch.s0 ch.s1 true h1)) ?_
     refine .x .nt ?_
     refine .m ?_
     refine .x .fa ?_
     refine .x (.ld 0) ?_
     refine .c rfl rfl rfl rfl (fun H hs=> .f ca123 rfl (refPaces_is M H ch.a0 ch.a1 false h2)) ?_
     refine .x .nt ?_
     refine .x .pk ?_
     refine .m ?_
     refine .sk ?_
     refine .sk ?_
     refine .sk ?_
     refine .sk ?_
     refine .x .pk ?_
     refine .done (.tt rfl (.sr ?_))
     refine .g ?_
     refine .done ?_
     refine .rt hK Tryz.func67 Tryz.results67 [_] ?_
     exact fun H' hs=> ⟨hs.base,by rw[e];rfl⟩
   | true=>
     cases h3:paceOk ch.r0 ch.r1 with
     | false=>
       have e:ch.alarm=1:=by unfold Ch.alarm Ch.paces;rw[h1,h2,h3];rfl
       refine .sr ?_
       refine .e (.bx (zz:=fun b1=> ?_))
       refine .g ?_
       refine .done (.seq (.sr ?_))
       refine .x .fa ?_
       refine .x (.ld 0) ?_
       refine .c rfl rfl rfl rfl (fun H hs=> .f ca123 rfl (refPaces_is M H ch.s0 ch.s1 true h1)) ?_
       refine .x .nt ?_
       refine .m ?_
       refine .x .fa ?_
       refine .x (.ld 0) ?_
       refine .c rfl rfl rfl rfl (fun H hs=> .f ca123 rfl (refPaces_is M H ch.a0 ch.a1 true h2)) ?_
       refine .x .nt ?_
       refine .x .pk ?_
       refine .m ?_
       refine .x .fa ?_
       refine .x (.ld 0) ?_
       refine .c rfl rfl rfl rfl (fun H hs=> .f ca123 rfl (refPaces_is M H ch.r0 ch.r1 false h3)) ?_
       refine .x .nt ?_
       refine .x .pk ?_
       refine .done (.tt rfl (.sr ?_))
       refine .g ?_
       refine .done ?_
       refine .rt hK Tryz.func67 Tryz.results67 [_] ?_
       exact fun H' hs=> ⟨hs.base,by rw[e];rfl⟩
     | true=>
       have e:ch.alarm=ch.linesAlarm:=by unfold Ch.alarm Ch.paces;rw[h1,h2,h3];rfl
       refine .sr ?_
       refine .e (.bx (zz:=fun b1=> ?_))
       refine .g ?_
       refine .done (.seq (.sr ?_))
       refine .x .fa ?_
       refine .x (.ld 0) ?_
       refine .c rfl rfl rfl rfl (fun H hs=> .f ca123 rfl (refPaces_is M H ch.s0 ch.s1 true h1)) ?_
       refine .x .nt ?_
       refine .m ?_
       refine .x .fa ?_
       refine .x (.ld 0) ?_
       refine .c rfl rfl rfl rfl (fun H hs=> .f ca123 rfl (refPaces_is M H ch.a0 ch.a1 true h2)) ?_
       refine .x .nt ?_
       refine .x .pk ?_
       refine .m ?_
       refine .x .fa ?_
       refine .x (.ld 0) ?_
       refine .c rfl rfl rfl rfl (fun H hs=> .f ca123 rfl (refPaces_is M H ch.r0 ch.r1 true h3)) ?_
       refine .x .nt ?_
       refine .x .pk ?_
       refine .done (.ff rfl (.skip (.sr ?_)))
       refine .x .fa ?_
       refine .x (.ld 0) ?_
       refine .c rfl rfl rfl rfl (fun H hs=> .f ca127 rfl (refLines_c M H ch A lc (hA.le hs.base))) ?_
       refine .g ?_
       refine .done ?_
       refine .rt hK Tryz.func67 Tryz.results67 [_] ?_
       exact fun H' hs=> ⟨hs.base,by rw[e];rfl⟩
theorem Great_c(ch:Ch)(A:Option Addr)(lc:Nat)(t:Bool)(ht:t=decide (20<ch.n)):CallT M 63 #[ch.valA A lc] H (fun v H'=> H.le H'∧v=.bool t):=by
 refine CallT.enter (vs:= [ch.valA A lc]) Tryz.func63 rfl Tryz.ntmps63 (Nat.le_of_ble_eq_true rfl) (SymSt.nil _) fun St c cs hK=> ?_
 by_cases h:20<ch.n
 · rw[decide_eq_true h] at ht
   subst ht
   refine .sr ?_
   refine .e (.bx (zz:=fun b1=> ?_))
   refine .g ?_
   refine .done (.sr ?_)
   refine .x .fa ?_
   refine .x (.ld 0) ?_
   refine .x .ln ?_
   refine .i ?_ (z:=gtr_t (by omega))
   refine .g ?_
   refine .done ?_
   refine .rt hK Tryz.func63 Tryz.results63 [_] ?_
   exact fun H' hs=> ⟨hs.base,rfl⟩
 · rw[decide_eq_false h] at ht
   subst ht
   refine .sr ?_
   refine .e (.bx (zz:=fun b1=> ?_))
   refine .g ?_
   refine .done (.sr ?_)
   refine .x .fa ?_
   refine .x (.ld 0) ?_
   refine .x .ln ?_
   refine .i ?_ (z:=gtr_f (by omega))
   refine .g ?_
   refine .done ?_
   refine .rt hK Tryz.func63 Tryz.results63 [_] ?_
   exact fun H' hs=> ⟨hs.base,rfl⟩
theorem UpTo_c(k:Nat)(hk:k≤1000):CallT M 62 #[.int .i64 (k:Nat)] H (fun v H'=> H.le H'∧∃g:Gl 3 1,v=g.val∧(g.l=placesV (List.range k)∧g.n=k)∧∀x∈g.bl,H' x.1=some x.2∧H x.1=none):=by
 refine CallT.enter (vs:= [.int .i64 (k:Nat)]) Tryz.func62 rfl Tryz.ntmps62 (Nat.le_of_ble_eq_true rfl) (SymSt.nil _) fun St c cs hK=> ?_
 refine .sr ?_
 refine .g ?_
 refine .done (.sr ?_)
 refine .g ?_
 refine .done (.seq (.sr ?_))
 refine .g ?_
 refine .done (.block ?_)
 refine Tc.db (Tc.loopInv (σ:= { s:Nat×Gl 3 1//s.1≤k∧s.2.l=placesV (List.range s.1) })
   (fun s=> ([(0,.int .i64 (k:Nat)),(3,s.1.2.val),(4,.int .i64 (s.1.1:Nat))],s.1.2.bl)) (fun s=> k-s.1.1) ?_ ⟨(0,Gl.nil 3 1),Nat.zero_le _,rfl⟩)
 rintro⟨⟨i,g⟩,g1,g2⟩ ih
 simp only at g1 g2
 have hgn:=gl_len g2
 rw[List.length_range] at hgn
 show Tc M St _ _ _ _ [(0,.int .i64 (k:Nat)),(3,g.val),(4,.int .i64 (i:Nat))] g.bl _ _
 by_cases c1:i=k
 · subst c1
   refine .seq (.sr ?_)
   refine .m ?_
   refine .m ?_
   refine .i ?_ (z:=lss_f (by omega))
   refine .done (.ff rfl (.exit rfl (.sr ?_)))
   refine .m ?_
   refine .g ?_
   refine .done ?_
   refine .rt hK Tryz.func62 Tryz.results62 [_] ?_
   exact fun H' hs=> ⟨hs.base,g,rfl,⟨g2,hgn⟩,fun x hx=> ⟨hs.at_ x hx,hs.out x hx⟩⟩
 · refine .seq (.sr ?_)
   refine .m ?_
   refine .m ?_
   refine .i ?_ (z:=lss_t (by omega))
   refine .done (.tt rfl (.skip (.seq (.block (.r ?_)))))
   refine .m ?_
   refine .m ?_
   refine .e (.bs (zz:=fun bs=> ?_))
   refine .e (Or.append (E:=en) 1 rfl rfl rfl rfl rfl rfl rfl rfl rfl rfl rfl rfl rfl rfl rfl (fun H hs=> SrcAt.of (hs.get (i:=0) rfl) (Nat.le_of_ble_eq_true rfl)) rfl (by omega) rfl (by decide) (fun g' hn' hl=> ?_))
   refine .g ?_
   refine .done (.inBlock (.r ?_))
   refine .m ?_
   refine .i ?_ (z:=add_in (by omega) (by omega))
   refine .g ?_
   refine .done ?_
   exact Tc.db (ih ⟨(i+1,g'),by simp only;omega,by simp only;rw[hl,g2,List.range_succ];unfold placesV;rw[List.map_append];rfl⟩ (by simp only;omega))
end
theorem Holds_c(H:View)(ch:Ch)(lb lo lc ac:Nat)(A:Option Addr)(hA:ChAt H ch lb lo lc A)(hg:ch.Good)(hG:Glob H)(n:Nat)(hn:n=ch.m)(t:Bool)(ht:ch.first.isSome=t):
   CallT (Mp Tryz.prog) 56 #[ch.val7 lb lo lc,.slice A n ac] H (fun v H'=> H.le H'∧v=.tuple ⟨[.bool (!t),.int .i64 0]⟩):=by
 subst hn
 have hw:∀H',H.le H'→CallT (Mp Tryz.prog) 120 #[ch.val lb lo lc ac A] H' (fun v H''=> H'.le H''∧v=.tuple ⟨[.int .i64 (ch.sec:Nat),.int .i64 ((ch.bad ch.sec).getD 0),.bool t]⟩):=fun H' hle=>
   CallT.mono (chainWeak_c H' ch lb lo lc ac A (hA.le hle) hg (glob_le hG hle)) (by rintro v H'' ⟨h1,h2⟩;rw[ht] at h2;exact⟨h1,h2⟩)
 refine CallT.enter (vs:= [ch.val7 lb lo lc,.slice A ch.m ac]) Tryz.func56 rfl Tryz.ntmps56 (Nat.le_of_ble_eq_true rfl) (SymSt.nil _) fun St c cs hK=> ?_
 refine .sr ?_
 refine .e (.bx (zz:=fun b2=> ?_))
 refine .g ?_
 refine .g ?_
 refine .done (.sr ?_)
 refine .x (.ld 0) ?_
 refine .m ?_
 refine .c rfl rfl rfl rfl (fun H hs=> .f ca121 rfl (openChain_good _ H ch lb lo lc ac A (hA.le hs.base) hg (glob_le hG hs.base))) ?_
 refine .m ?_
 refine .x .et ?_
 refine .x .et ?_
 refine .e (.al (zz:=fun b6=> ?_))
 refine .e (.st 0 (zz:=?_))
 refine .g ?_
 refine .done (.seq (.sr ?_))
 refine .m ?_
 refine .i ?_ (z:=neq_f (by omega))
 refine .done (.ff rfl (.skip (.sr ?_)))
 refine .x (.ld 0) ?_
 refine .c rfl rfl rfl rfl (fun H hs=> .f ca120 rfl (hw H hs.base)) ?_
 refine .m ?_
 refine .x .et ?_
 refine .x .et ?_
 refine .x .et ?_
 refine .g ?_
 refine .g ?_
 refine .g ?_
 refine .done (.sr ?_)
 refine .m ?_
 refine .x .nt ?_
 refine .g ?_
 refine .g ?_
 refine .done ?_
 refine .rt hK Tryz.func56 Tryz.results56 [_,_] ?_
 exact fun H' hs=> ⟨hs.base,rfl⟩
section
variable(M:Md Tryz.prog)(H:View)
theorem Section_yes(ch:Ch)(lb lo lc ac:Nat)(A:Option Addr)(hA:ChAt H ch lb lo lc A)(hg:ch.Good)(hG:Glob H)(n:Nat)(hn:n=ch.m)(i:Nat)(hi:i≤ch.m)(hf:ch.fits i=true):
   CallT M 60 #[ch.val7 lb lo lc,.slice A n ac,.int .i64 (i:Nat)] H (fun v H'=> H.le H'∧v=.tuple ⟨[(ch.lk i).val,.int .i64 0]⟩):=by
 subst hn
 refine CallT.enter (vs:= [ch.val7 lb lo lc,.slice A ch.m ac,.int .i64 (i:Nat)]) Tryz.func60 rfl Tryz.ntmps60 (Nat.le_of_ble_eq_true rfl) (SymSt.nil _) fun St c cs hK=> ?_
 refine .sr ?_
 refine .e (.bx (zz:=fun b3=> ?_))
 refine .e (.al (zz:=fun b6=> ?_))
 refine .g ?_
 refine .done (.sr ?_)
 refine .x (.ld 1) ?_
 refine .m ?_
 refine .c rfl rfl rfl rfl (fun H hs=> .f ca121 rfl (openChain_good _ H ch lb lo lc ac A (hA.le hs.base) hg (glob_le hG hs.base))) ?_
 refine .m ?_
 refine .x .et ?_
 refine .x .et ?_
 refine .e (.al (zz:=fun b8=> ?_))
 refine .e (.st 0 (zz:=?_))
 refine .g ?_
 refine .done (.seq (.sr ?_))
 refine .m ?_
 refine .i ?_ (z:=neq_f (by omega))
 refine .done (.ff rfl (.skip (.seq (.sr ?_))))
 refine .m ?_
 refine .i ?_ (z:=lss_f (by omega))
 refine .m ?_
 refine .m ?_
 refine .m ?_
 refine .x .ln ?_
 refine .i ?_ (z:=gtr_f (by omega))
 refine .x .pk ?_
 refine .done (.ff rfl (.skip (.sr ?_)))
 refine .x (.ld 0) ?_
 refine .m ?_
 refine .c rfl rfl rfl rfl (fun H hs=> .f ca122 rfl (CallT.is (.tuple ⟨[(ch.lk i).val,.bool true]⟩) (by rewrite [hf];rfl) (section_c M H ch i lb lo lc ac A hg.ok (hA.le hs.base) hi (glob_le hG hs.base)))) ?_
 refine .m ?_
 refine .x .et ?_
 refine .x .et ?_
 refine .e (.al (zz:=fun b10=> ?_))
 refine .e (.st 0 (zz:=?_))
 refine .g ?_
 refine .done (.seq (.sr ?_))
 refine .m ?_
 refine .x .nt ?_
 refine .done (.ff rfl (.skip (.sr ?_)))
 refine .x .fa ?_
 refine .x (.ld 0) ?_
 refine .e (.st 2 (zz:=?_))
 refine .g ?_
 refine .done ?_
 refine Tc.retN (E:=en) hK Tryz.func60 Tryz.results60 (vs:= [_,_]) (by refine⟨⟨2,_,_,_,_,_,_,_,rfl,rfl,rfl,rfl⟩,?_⟩;refine⟨rfl,?_⟩;exact trivial) ?_
 exact fun H' hs=> ⟨hs.base,rfl⟩
theorem Section_no(ch:Ch)(lb lo lc ac:Nat)(A:Option Addr)(hA:ChAt H ch lb lo lc A)(hg:ch.Good)(hG:Glob H)(n:Nat)(hn:n=ch.m)(i:Nat)(hi:i≤ch.m)(hf:ch.fits i=false):
   CallT M 60 #[ch.val7 lb lo lc,.slice A n ac,.int .i64 (i:Nat)] H (fun v H'=> H.le H'∧v=.tuple ⟨[lk0.val,.int .i64 1]⟩):=by
 subst hn
 refine CallT.enter (vs:= [ch.val7 lb lo lc,.slice A ch.m ac,.int .i64 (i:Nat)]) Tryz.func60 rfl Tryz.ntmps60 (Nat.le_of_ble_eq_true rfl) (SymSt.nil _) fun St c cs hK=> ?_
 refine .sr ?_
 refine .e (.bx (zz:=fun b3=> ?_))
 refine .e (.al (zz:=fun b6=> ?_))
 refine .g ?_
 refine .done (.sr ?_)
 refine .x (.ld 1) ?_
 refine .m ?_
 refine .c rfl rfl rfl rfl (fun H hs=> .f ca121 rfl (openChain_good _ H ch lb lo lc ac A (hA.le hs.base) hg (glob_le hG hs.base))) ?_
 refine .m ?_
 refine .x .et ?_
 refine .x .et ?_
 refine .e (.al (zz:=fun b8=> ?_))
 refine .e (.st 0 (zz:=?_))
 refine .g ?_
 refine .done (.seq (.sr ?_))
 refine .m ?_
 refine .i ?_ (z:=neq_f (by omega))
 refine .done (.ff rfl (.skip (.seq (.sr ?_))))
 refine .m ?_
 refine .i ?_ (z:=lss_f (by omega))
 refine .m ?_
 refine .m ?_
 refine .m ?_
 refine .x .ln ?_
 refine .i ?_ (z:=gtr_f (by omega))
 refine .x .pk ?_
 refine .done (.ff rfl (.skip (.sr ?_)))
 refine .x (.ld 0) ?_
 refine .m ?_
 refine .c rfl rfl rfl rfl (fun H hs=> .f ca122 rfl (CallT.is (.tuple ⟨[(ch.lk i).val,.bool false]⟩) (by rewrite [hf];rfl) (section_c M H ch i lb lo lc ac A hg.ok (hA.le hs.base) hi (glob_le hG hs.base)))) ?_
 refine .m ?_
 refine .x .et ?_
 refine .x .et ?_
 refine .e (.al (zz:=fun b10=> ?_))
 refine .e (.st 0 (zz:=?_))
 refine .g ?_
 refine .done (.seq (.sr ?_))
 refine .m ?_
 refine .x .nt ?_
 refine .done (.tt rfl (.sr ?_))
 refine .x .bu ?_
 refine .e (.st 2 (zz:=?_))
 refine .g ?_
 refine .done ?_
 refine Tc.retN (E:=en) hK Tryz.func60 Tryz.results60 (vs:= [_,_]) (by refine⟨⟨2,_,_,_,_,_,_,_,rfl,rfl,rfl,rfl⟩,?_⟩;refine⟨rfl,?_⟩;exact trivial) ?_
 exact fun H' hs=> ⟨hs.base,rfl⟩
end
end Go.Proofs.YtpdaenfglbgfkaaGreatDoor
end
section
namespace Go.Proofs.YtpdaenfglbgfkaaGreatDoor
open Go.RL Go.ChangeShapes Go.WideShapes Go.ChangeAt Go.RowKit
set_option maxRecDepth 100000
theorem cells3:Tryz.prog.cellsOf 3=1:=by kernel_rfl
theorem cells23:Tryz.prog.cellsOf 23=2:=by kernel_rfl
theorem cells25:Tryz.prog.cellsOf 25=4:=by kernel_rfl
theorem cells71:Tryz.prog.cellsOf 71=1:=by kernel_rfl
theorem cells73:Tryz.prog.cellsOf 73=7:=by kernel_rfl
section
variable {H:Type}{enc:TypeId×Value→H}{W:World}{sp:Nat→Bool}{held:Bool}
theorem trod_i {n:Nat}{cs:List Value}{y:DataW H×List MemPlace}(h:DataW.trod enc Tryz.prog W 0 sp held n 3 cs=some y):∃z,cs= [.int .i64 z]:=by
 obtain⟨z,h,_⟩:=DataW.trod_int Tryz.underlying3 h
 exact⟨z,h⟩
theorem trod_band {n:Nat}{cs:List Value}{y:DataW H×List MemPlace}(h:DataW.trod enc Tryz.prog W 0 sp held n 23 cs=some y):∃a b,cs= [.int .i64 a,.int .i64 b]:=by
 obtain⟨y0,y1,m,_,hl,t0,t1⟩:=trod_struct2 Tryz.underlying23 h
 rw[cells23] at hl
 obtain⟨c0,c1,rfl⟩:∃a b,cs= [a,b]:=by
   match cs,hl with
   | [a,b],_=> exact⟨a,b,rfl⟩
 simp only[cells3,List.drop_zero,List.drop_succ_cons,List.take_succ_cons,List.take_zero] at t0 t1
 obtain⟨a,ha⟩:=trod_i t0
 obtain⟨b,hb⟩:=trod_i t1
 simp only[List.cons.injEq,and_true] at ha hb
 exact⟨a,b,by rw[ha,hb]⟩
theorem trod_line {n:Nat}{cs:List Value}{y:DataW H×List MemPlace}(h:DataW.trod enc Tryz.prog W 0 sp held n 25 cs=some y):∃x:Int×Int×Int×Int,cs= [.int .i64 x.1,.int .i64 x.2.1,.int .i64 x.2.2.1,.int .i64 x.2.2.2]:=by
 obtain⟨y0,y1,m,_,hl,t0,t1⟩:=trod_struct2 Tryz.underlying25 h
 rw[cells25] at hl
 obtain⟨c0,c1,c2,c3,rfl⟩:∃a b c d,cs= [a,b,c,d]:=by
   match cs,hl with
   | [a,b,c,d],_=> exact⟨a,b,c,d,rfl⟩
 simp only[cells23,List.drop_zero,List.drop_succ_cons,List.take_succ_cons,List.take_zero] at t0 t1
 obtain⟨a,b,h1⟩:=trod_band t0
 obtain⟨c,d,h2⟩:=trod_band t1
 simp only[List.cons.injEq,and_true] at h1 h2
 exact⟨(a,b,c,d),by rw[h1.1,h1.2,h2.1,h2.2]⟩
theorem four_at {gs:List Value}{o:Nat}{a b c d:Value}(h0:gs[o]? =some a)(h1:gs[o+1]? =some b)(h2:gs[o+2]? =some c)(h3:gs[o+3]? =some d):ldL true 4 gs o=some (.agg ⟨[a,b,c,d]⟩):=by
 have hlt:=(List.getElem?_eq_some_iff.1 h3).1
 have e:(gs.drop o).take 4= [a,b,c,d]:=by
   apply List.ext_getElem?
   intro i
   rcases i with _|_|_|_|i
   · simpa using h0
   · simpa using h1
   · simpa using h2
   · simpa using h3
   · simp
     omega
 unfold ldL
 rw[show Nat.ble (o+4) gs.length=true from Nat.ble_eq_true_of_le (by omega)]
 simp only[e]
theorem add_at(ab ao j:Nat):(⟨ab,ao,none⟩:Addr).add j=⟨ab,ao+j,none⟩:=by
 unfold Addr.add
 split
 · rename_i h;subst h;rfl
 · rfl
theorem open_chain {base:Nat}{v:Value}(hv:Value.okWide Tryz.prog W .any base 73 v)(h:∃d q,DataW.Trod enc Tryz.prog W 0 (fun _=> true) true 73 v d q):∃(ch:Ch) (A:Option Addr) (lc:Nat),v=ch.valA A lc∧ch.m=0∧LinesAt (fullV W) ch A lc:=by
 have hv':∃cs,v=.agg cs:=by
   unfold Value.okWide at hv
   rw[Tryz.underlying73] at hv
   obtain⟨cs,h,_⟩:=hv
   exact⟨cs,h⟩
 obtain⟨⟨cs⟩,rfl⟩:=hv'
 obtain⟨d,q,n,h⟩:=h
 obtain⟨xs,m,_,_,hl,hxl,hf⟩:=DataW.trod_struct Tryz.underlying73 h
 have hcs:(Value.agg ⟨cs⟩).cells.toList=cs:=rfl
 rw[hcs] at hl hf
 rw[cells73] at hl
 obtain⟨c0,c1,c2,c3,c4,c5,c6,rfl⟩:∃a b c d e f g,cs= [a,b,c,d,e,f,g]:=by
   match cs,hl with
   | [a,b,c,d,e,f,g],_=> exact⟨a,b,c,d,e,f,g,rfl⟩
 obtain⟨x0,x1,x2,x3,rfl⟩:∃a b c d,xs= [a,b,c,d]:=by
   match xs,hxl with
   | [a,b,c,d],_=> exact⟨a,b,c,d,rfl⟩
 have f0:=hf 0 { name:= "Send",type:=23,offset:=0,embedded:=false,tag:= "",pkgPath:= "",byteOffset:=0 } rfl
 have f1:=hf 1 { name:= "Lines",type:=71,offset:=2,embedded:=false,tag:= "",pkgPath:= "",byteOffset:=16 } rfl
 have f2:=hf 2 { name:= "Again",type:=23,offset:=3,embedded:=false,tag:= "",pkgPath:= "",byteOffset:=40 } rfl
 have f3:=hf 3 { name:= "Read",type:=23,offset:=5,embedded:=false,tag:= "",pkgPath:= "",byteOffset:=56 } rfl
 simp only[cells23,cells71,List.drop_zero,List.drop_succ_cons,List.take_succ_cons,List.take_zero,List.getElem?_cons_zero,List.getElem?_cons_succ] at f0 f1 f2 f3
 obtain⟨s0,s1,e0⟩:=trod_band f0
 obtain⟨a0,a1,e2⟩:=trod_band f2
 obtain⟨r0,r1,e3⟩:=trod_band f3
 simp only[List.cons.injEq,and_true] at e0 e2 e3
 obtain⟨rfl,rfl⟩:=e0
 obtain⟨rfl,rfl⟩:=e2
 obtain⟨rfl,rfl⟩:=e3
 rcases Go.Deep.open_slice Tryz.underlying71 f1 with ⟨h1,_⟩|⟨a,len,cap,mm,nn,D,Pl,h1,_,h3,_,h5,_,h7⟩
 · simp only[List.cons.injEq,and_true] at h1
   subst h1
   exact⟨⟨s0,s1,a0,a1,r0,r1,0,fun _=> 0,fun _=> 0,fun _=> 0,fun _=> 0,0,fun _=> 0⟩,none,0,rfl,rfl,Nat.le_refl _,.inl rfl⟩
 · simp only[List.cons.injEq,and_true] at h1
   subst h1
   simp only[if_true] at h5
   have hex:∀i,i<len→∃x:Int×Int×Int×Int,W.cells? 0 (a.add (i*4)) 4=some [.int .i64 x.1,.int .i64 x.2.1,.int .i64 x.2.2.1,.int .i64 x.2.2.2]:=fun i hi=> by
     obtain⟨cs',g1,g2⟩:=h7 i (by omega)
     rw[cells25] at g1
     obtain⟨x,hx⟩:=trod_line g2
     exact⟨x,by rw[g1,hx]⟩
   obtain⟨f,hfx⟩:=Go.Deep.choose_lt hex
   refine⟨⟨s0,s1,a0,a1,r0,r1,len,fun i=> (f i).1,fun i=> (f i).2.1,fun i=> (f i).2.2.1,fun i=> (f i).2.2.2,0,fun _=> 0⟩,some a,cap,rfl,rfl,h3,?_⟩
   cases len with
   | zero=> exact .inl rfl
   | succ k=>
     obtain⟨ab,ao,spt⟩:=a
     have hat:∀i,i<k+1→∀j,j<4→W.cell? (((⟨ab,ao,spt⟩:Addr).add (i*4)).add j)=([Value.int .i64 (f i).1,.int .i64 (f i).2.1,.int .i64 (f i).2.2.1,.int .i64 (f i).2.2.2]:List Value)[j]? :=fun i hi j hj=> (World.cells?_some (hfx i hi)).2.2 j hj
     have h00:=hat 0 (by omega) 0 (by decide)
     have hsp:spt=none:=by simpa [Addr.add] using World.cell?_spot h00
     subst hsp
     obtain⟨gs,gt,gz,g1,_⟩:=cells_of h00
     have g1':W.heap[ab]? =some (.cells gs gt gz):=by simpa [Addr.add] using g1
     refine .inr ⟨ab,ao,false,gs.toList,gt,gz,rfl,by simp only[fullV,g1',Option.map_some],fun i hi=> ?_⟩
     have hone:∀j,j<4→gs.toList[ao+i*4+j]? =([Value.int .i64 (f i).1,.int .i64 (f i).2.1,.int .i64 (f i).2.2.1,.int .i64 (f i).2.2.2]:List Value)[j]? :=fun j hj=> by
       have h8:=hat i hi j hj
       rw[add_at,add_at] at h8
       have hsome:∃z,([Value.int .i64 (f i).1,.int .i64 (f i).2.1,.int .i64 (f i).2.2.1,.int .i64 (f i).2.2.2]:List Value)[j]? =some z:=⟨_,List.getElem?_eq_getElem (by simpa using hj)⟩
       obtain⟨z,hz⟩:=hsome
       rw[hz] at h8 ⊢
       obtain⟨gs',gt',gz',g2,g3⟩:=cells_of h8
       rw[g1'] at g2
       cases g2
       rw[Array.getElem?_toList]
       exact g3
     exact four_at (hone 0 (by decide)) (hone 1 (by decide)) (hone 2 (by decide)) (hone 3 (by decide))
end
end Go.Proofs.YtpdaenfglbgfkaaGreatDoor
end
section
namespace Go.Proofs.YtpdaenfglbgfkaaGreatDoor
open Go.RL Go.ChangeShapes Go.WideShapes Go.ChangeAt Go.RowKit
set_option maxRecDepth 100000
theorem cells3p:Tryz.prog.cellsOf 3=1:=by kernel_rfl
theorem open_i64 {W:World}{base:Nat}{v:Value}(h:Value.okWide Tryz.prog W .any base 3 v):∃x,v=.int .i64 x:=by
 unfold Value.okWide Cell.okWide Cell.ok at h
 rw[show Tryz.prog.underlying 3=some (.int .i64) by kernel_rfl] at h
 cases v with
 | int k n=>
   obtain⟨rfl,_,_⟩:=h
   exact⟨n,rfl⟩
 | _=> exact h.elim
section
variable {H:Type}{enc:TypeId×Value→H}{W:World}
theorem open_cells28 {fuel:Nat}{cs:List Value}{y:DataW H×List MemPlace}(h:DataW.trod enc Tryz.prog W 0 (fun _=> true) true fuel 28 cs=some y):
   ∃(A:Option Addr) (l:List Int) (ca:Nat),cs= [.slice A l.length ca]∧Nums (fullV W) A l:=by
 rcases open_ints (k:=.i64) Tryz.underlying28 (by kernel_rfl) cells3p h with ⟨h1,_⟩|⟨a',n,c,zs,h1,_,h3,h4,h5,_,h7,h8⟩
 · exact⟨none,[],0,h1,.inl rfl⟩
 · simp only[if_true] at h5
   have hl:(zs.take n).length=n:=by rw[List.length_take,h5];omega
   refine⟨some a',zs.take n,c,by rw[hl];exact h1,?_⟩
   cases n with
   | zero=> exact .inl (by simp)
   | succ m=>
     obtain⟨ab,ao,sp⟩:=a'
     have h0:=h7 0 (by omega)
     have hsp:sp=none:=by simpa [Addr.add] using World.cell?_spot h0
     subst hsp
     obtain⟨cs,gt,gz,e1,_⟩:=cells_of h0
     have e1':W.heap[ab]? =some (.cells cs gt gz):=by simpa [Addr.add] using e1
     refine .inr ⟨ab,ao,false,cs.toList,gt,gz,rfl,by simp only[fullV,e1',Option.map_some],fun j hj=> ?_⟩
     have hj':j<zs.length:=by omega
     have h9:=h7 j hj'
     obtain⟨cs',gt',gz',e2,e3⟩:=cells_of h9
     have eb:((⟨ab,ao,none⟩:Addr).add j).block=ab:=by unfold Addr.add;split <;> rfl
     have eo:((⟨ab,ao,none⟩:Addr).add j).off=ao+j:=by
       unfold Addr.add
       split
       · rename_i h;subst h;rfl
       · rfl
     rw[eb,e1'] at e2
     cases e2
     rw[eo] at e3
     show cs.toList[ao+(j:Int).toNat*1]? =_
     rw[Int.toNat_natCast,Nat.mul_one,Array.getElem?_toList,e3]
     have hjn:j<m+1:=by omega
     rw[List.getElem?_take_of_lt hjn,List.getD_eq_getElem?_getD]
theorem open_nums {base:Nat}{v:Value}(hv:Value.okWide Tryz.prog W .any base 28 v)(h:∃d q,DataW.Trod enc Tryz.prog W 0 (fun _=> true) true 28 v d q):
   ∃(A:Option Addr) (l:List Int) (ca:Nat),v=.slice A l.length ca∧Nums (fullV W) A l:=by
 obtain⟨a,n,c,rfl⟩:=slice_val Tryz.underlying28 hv
 obtain⟨d,q,fuel,h⟩:=h
 obtain⟨A,l,ca,h1,h2⟩:=open_cells28 h
 have hcs:(Value.slice a n c).cells.toList= [.slice a n c]:=rfl
 rw[hcs] at h1
 simp only[List.cons.injEq,and_true] at h1
 exact⟨A,l,ca,h1,h2⟩
end
end Go.Proofs.YtpdaenfglbgfkaaGreatDoor
end
section
namespace Go.Proofs.YtpdaenfglbgfkaaGreatDoor
open Go.RL
set_option maxRecDepth 10000
set_option maxHeartbeats 8000000
def lookR(p:Int→Bool):List Int→Nat→Nat
 | [],x=> x
 | t::l,x=> lookR p l (if p t then 1-x else x)
def lookP(pace first:Int)(m:Nat)(t:Int):Bool:=decide (t≤first+(2*(m:Int)+1)*pace)
def bitR(pace:Int)(l:List Int)(m:Nat):Nat:=lookR (lookP pace (l.headD 0) m) l 1
def refRead(pace:Int)(l:List Int):Option Nat:=if bitR pace l 0=0∧bitR pace l 6=1 then some (bitR pace l 1+bitR pace l 2*2+bitR pace l 3*4+bitR pace l 4*8+bitR pace l 5*16) else none
theorem lookR_le(p:Int→Bool):∀(l:List Int) (x:Nat),x≤1→lookR p l x≤1
 | [],_,h=> h
 | t::l,x,h=> lookR_le p l _ (by split <;> omega)
theorem lookR_snoc(p:Int→Bool)(t:Int):∀(l:List Int) (x:Nat),lookR p (l++[t]) x=if p t then 1-lookR p l x else lookR p l x
 | [],_=> rfl
 | _::l,_=> lookR_snoc p t l _
theorem bitR_le(pace:Int)(l:List Int)(m:Nat):bitR pace l m≤1:=lookR_le _ _ _ (Nat.le_refl _)
theorem turned_look:∀v:Nat,v<128→∀f:Nat,f<8→∀m:Nat,m<7→turnedN v f/2 ^ m%2=if f≤m then 1-v/2 ^ m%2 else v/2 ^ m%2:=by decide +kernel
theorem read_looks:∀v:Nat,v<128→readN v=if v/2 ^ 0%2=0∧v/2 ^ 6%2=1 then some (v/2 ^ 1%2+v/2 ^ 2%2*2+v/2 ^ 3%2*4+v/2 ^ 4%2*8+v/2 ^ 5%2*16) else none:=by decide +kernel
def timesFrom(ps:List Nat)(a n:Int):Nat→List Int→List Int
 | _,[]=> []
 | i,m::l=> (stillF ((ps[i]?.getD 0:Nat):Int) i a n+m)::timesFrom ps a n (i+1) l
theorem timesFrom_len(ps:List Nat)(a n:Int):∀(l:List Int) (i:Nat),(timesFrom ps a n i l).length=l.length
 | [],_=> rfl
 | _::l,i=> by simp[timesFrom,timesFrom_len ps a n l (i+1)]
theorem timesFrom_snoc(ps:List Nat)(a n:Int)(m:Int):∀(l:List Int) (i:Nat),timesFrom ps a n i (l++[m])=timesFrom ps a n i l++[stillF ((ps[i+l.length]?.getD 0:Nat):Int) ((i+l.length:Nat):Int) a n+m]
 | [],_=> rfl
 | x::l,i=> by
   show _::timesFrom ps a n (i+1) (l++[m])=_::(_++_)
   rw[timesFrom_snoc ps a n m l (i+1),List.length_cons,show i+1+l.length=i+(l.length+1) by omega]
theorem timesFrom_get {ps:List Nat}{a n:Int}:∀ {l:List Int} {i j:Nat},j<l.length→(timesFrom ps a n i l)[j]? =some (stillF ((ps[i+j]?.getD 0:Nat):Int) ((i+j:Nat):Int) a n+l[j]?.getD 0)
 | [],_,_,h=> by simp at h
 | _::_,_,0,_=> rfl
 | x::l,i,j+1,h=> by
   have:=timesFrom_get (ps:=ps) (a:=a) (n:=n) (l:=l) (i:=i+1) (j:=j) (by simpa using h)
   show(timesFrom ps a n (i+1) l)[j]? =_
   rw[this,show i+1+j=i+(j+1) by omega]
   rfl
theorem miss_look {s:Stg}(hr:0<s.read)(i m:Nat)(hm:m<7)(x t0:Int)(h0:i=0→stillF ((s.ps[0]?.getD 0:Nat):Int) 0 s.send s.lean+x=t0)(hx:stillF ((s.ps[0]?.getD 0:Nat):Int) 0 s.send s.lean+s.first=t0):
   ((s.miss i x).toNat≤m)↔lookP s.read t0 m (stillF ((s.ps[i]?.getD 0:Nat):Int) i s.send s.lean+x)=true:=by
 have hb:=Stg.miss_in (s:=s) i x
 unfold lookP
 rw[decide_eq_true_iff]
 have hp:0<(2*(m:Int)+1)*s.read:=Int.mul_pos (by omega) hr
 unfold Stg.miss
 by_cases h:i=0
 · subst h
   rw[if_pos rfl]
   have:=h0 rfl
   have e:((0:Nat):Int)=0:=rfl
   rw[e]
   constructor
   · intro _;omega
   · intro _;exact Nat.zero_le _
 · rw[if_neg h]
   have hi:=missedF_iff (pace:=s.read) (after:=s.after (s.ps[i]?.getD 0) i+x) hr (m:=(m:Int)) (by omega) (by omega)
   unfold Stg.miss at hb
   rw[if_neg h] at hb
   have he:s.after (s.ps[i]?.getD 0) i+x=stillF ((s.ps[i]?.getD 0:Nat):Int) i s.send s.lean+x-t0:=by unfold Stg.after;omega
   rw[he] at hi hb ⊢
   constructor
   · intro h1
     have:¬((m:Int)<missedF s.read (stillF ((s.ps[i]?.getD 0:Nat):Int) i s.send s.lean+x-t0)):=by omega
     rw[hi] at this
     omega
   · intro h1
     have:¬((m:Int)<missedF s.read (stillF ((s.ps[i]?.getD 0:Nat):Int) i s.send s.lean+x-t0)):=by
       rw[hi]
       omega
     omega
theorem look_view {s:Stg}(hr:0<s.read)(t0:Int)(hx:stillF ((s.ps[0]?.getD 0:Nat):Int) 0 s.send s.lean+s.first=t0)(m:Nat)(hm:m<7):∀(l:List Int) (i v:Nat),v<128→(i=0→l.headD s.first=s.first)→
   s.viewFrom i v l/2 ^ m%2=lookR (lookP s.read t0 m) (timesFrom s.ps s.send s.lean i l) (v/2 ^ m%2)
 | [],_,_,_,_=> rfl
 | x::l,i,v,hv,h0=> by
   have hb:=Stg.miss_in (s:=s) i x
   show s.viewFrom (i+1) (turnedN v (s.miss i x).toNat) l/2 ^ m%2=lookR _ (timesFrom s.ps s.send s.lean (i+1) l) (if lookP s.read t0 m _ then 1-v/2 ^ m%2 else v/2 ^ m%2)
   rw[look_view hr t0 hx m hm l (i+1) _ (turned_lt v hv _ (by omega)) (fun h=> by omega),turned_look v hv _ (by omega) m hm]
   have hml:=miss_look hr i m hm x t0 (fun h=> by rw[←hx];have:=h0 h;simp only[List.headD_cons] at this;omega) hx
   by_cases h:(s.miss i x).toNat≤m
   · rw[if_pos h,if_pos (hml.1 h)]
   · rw[if_neg h,if_neg (fun h'=> h (hml.2 h'))]
theorem refRead_view {s:Stg}(hr:0<s.read){l:List Int}(hl:l≠ [])(hf:l.headD s.first=s.first):refRead s.read (timesFrom s.ps s.send s.lean 0 l)=readN (s.viewFrom 0 127 l):=by
 have hlt:=Stg.viewFrom_lt s l 0 127 (by decide)
 have hh:(timesFrom s.ps s.send s.lean 0 l).headD 0=stillF ((s.ps[0]?.getD 0:Nat):Int) 0 s.send s.lean+s.first:=by
   match l,hl with
   | x::l,_=>
     simp only[List.headD_cons] at hf
     rw[←hf]
     rfl
 have hb:∀m,m<7→bitR s.read (timesFrom s.ps s.send s.lean 0 l) m=s.viewFrom 0 127 l/2 ^ m%2:=fun m hm=> by
   unfold bitR
   rw[look_view hr _ rfl m hm l 0 127 (by decide) (fun _=> hf),hh]
   congr 1
   rcases(by omega:m=0∨m=1∨m=2∨m=3∨m=4∨m=5∨m=6) with rfl|rfl|rfl|rfl|rfl|rfl|rfl <;> rfl
 rw[read_looks _ hlt]
 unfold refRead
 rw[hb 0 (by decide),hb 1 (by decide),hb 2 (by decide),hb 3 (by decide),hb 4 (by decide),hb 5 (by decide),hb 6 (by decide)]
section
variable(M:Md Tryz.prog)(H:View)
theorem early_c(pace after:Int)(h1:0≤pace)(h2:pace≤1000000):CallT M 187 #[.int .i64 pace,.int .i64 after] H (fun v H'=> H.le H'∧v=.int .i64 (missedF pace after)):=by
 refine CallT.enter (vs:= [.int .i64 pace,.int .i64 after]) Tryz.func187 rfl Tryz.ntmps187 (Nat.le_of_ble_eq_true rfl) (SymSt.nil _) fun St c cs hK=> ?_
 refine .sr ?_
 refine .g ?_
 refine .done (.sr ?_)
 refine .g ?_
 refine .done (.seq (.block ?_))
 refine Tc.dropR (R':= [(5,.int .i64 0),(0,.int .i64 pace),(1,.int .i64 after)]) ⟨rfl,rfl,rfl,trivial⟩ ?_
 refine Tc.loopInv (σ:= { s:Int×Nat//0≤s.1∧s.1+s.2=7∧missedGo pace after s.2 s.1=missedF pace after })
   (fun s=> ([(5,.int .i64 s.1.1),(0,.int .i64 pace),(1,.int .i64 after)],[])) (fun s=> s.1.2) ?_ ⟨(0,7),by simp,by simp,rfl⟩
 rintro⟨⟨s,f⟩,g1,g2,g3⟩ ih
 simp only at g1 g2 g3
 have m1:0≤(2*s+1)*pace:=Int.mul_nonneg (by omega) h1
 have m2:(2*s+1)*pace≤15*1000000:=Int.mul_le_mul (by omega) h2 h1 (by omega)
 show Tc M St _ _ _ _ [(5,.int .i64 s),(0,.int .i64 pace),(1,.int .i64 after)] [] _ _
 match f,g2,g3,ih with
 | 0,g2,g3,_=>
   refine .seq (.sr ?_)
   refine .m ?_
   refine .i ?_ (z:=lss_f (by omega))
   refine .m ?_
   refine .sk ?_
   refine .sk ?_
   refine .sk ?_
   refine .sk ?_
   refine .sk ?_
   refine .sk ?_
   refine .sk ?_
   refine .x .pk ?_
   refine .done (.ff rfl (.exit rfl (.sr ?_)))
   refine .m ?_
   refine .g ?_
   refine .done ?_
   refine .rt hK Tryz.func187 Tryz.results187 [_] ?_
   exact fun H' hs=> ⟨hs.base,by simp only[packV];rw[←g3];rfl⟩
 | f + 1,g2,g3,ih=>
   simp only[missedGo] at g3
   by_cases c:(2*s+1)*pace<after
   · rw[if_pos c] at g3
     refine .seq (.sr ?_)
     refine .m ?_
     refine .i ?_ (z:=lss_t (by omega))
     refine .m ?_
     refine .m ?_
     refine .i ?_ (z:=mul_in (by omega) (by omega))
     refine .i ?_ (z:=add_in (by omega) (by omega))
     refine .m ?_
     refine .i ?_ (z:=mul_in (by omega) (by omega))
     refine .m ?_
     refine .i ?_ (z:=lss_t (by omega))
     refine .x .pk ?_
     refine .done (.tt rfl (.skip (.block (.r ?_))))
     refine .m ?_
     refine .i ?_ (z:=add_in (by omega) (by omega))
     refine .g ?_
     refine .done (.inBlock ?_)
     exact Tc.db (ih ⟨(s+1,f),by simp only;omega,by simp only;omega,g3⟩ (by simp))
   · rw[if_neg c] at g3
     refine .seq (.sr ?_)
     refine .m ?_
     refine .i ?_ (z:=lss_t (by omega))
     refine .m ?_
     refine .m ?_
     refine .i ?_ (z:=mul_in (by omega) (by omega))
     refine .i ?_ (z:=add_in (by omega) (by omega))
     refine .m ?_
     refine .i ?_ (z:=mul_in (by omega) (by omega))
     refine .m ?_
     refine .i ?_ (z:=lss_f (by omega))
     refine .x .pk ?_
     refine .done (.ff rfl (.exit rfl (.sr ?_)))
     refine .m ?_
     refine .g ?_
     refine .done ?_
     refine .rt hK Tryz.func187 Tryz.results187 [_] ?_
     exact fun H' hs=> ⟨hs.base,by simp only[packV];rw[←g3]⟩
theorem Still_c(send lean number place:Int)(h1:0≤place)(h2:place≤6)(h3:0≤number∧number≤1000)(h4:0≤send)(h5:send≤1000)(h6: -1000≤lean)(h7:lean≤1000):
   CallT M 173 #[.int .i64 send,.int .i64 lean,.int .i64 number,.int .i64 place] H (fun v H'=> H.le H'∧v=.int .i64 (stillF place number send lean)):=by
 have h8:0≤2*place*send:=Int.mul_nonneg (by omega) h4
 have h9:2*place*send≤12*1000:=Int.mul_le_mul (by omega) h5 h4 (by omega)
 have hq:intBin .rem .i64 number 2=some (.int .i64 (number%2)):=by rw[rem_in (by omega) (by omega)]
 refine CallT.enter (vs:= [.int .i64 send,.int .i64 lean,.int .i64 number,.int .i64 place]) Tryz.func173 rfl Tryz.ntmps173 (Nat.le_of_ble_eq_true rfl) (SymSt.nil _) fun St c cs hK=> ?_
 by_cases h:number%2=1
 · refine .sr ?_
   refine .g ?_
   refine .done (.seq (.sr ?_))
   refine .m ?_
   refine .i ?_ (z:=by assumption)
   refine .i ?_ (z:=eql_t (by omega))
   refine .done (.tt rfl (.sr ?_))
   refine .m ?_
   refine .i ?_ (z:=mul_in (by omega) (by omega))
   refine .m ?_
   refine .i ?_ (z:=mul_in (by omega) (by omega))
   refine .m ?_
   refine .i ?_ (z:=add_in (by omega) (by omega))
   refine .g ?_
   refine .done ?_
   refine .rt hK Tryz.func173 Tryz.results173 [_] ?_
   exact fun H' hs=> ⟨hs.base,by
     unfold stillF
     rw[if_neg (by omega)]
     rfl⟩
 · refine .sr ?_
   refine .g ?_
   refine .done (.seq (.sr ?_))
   refine .m ?_
   refine .i ?_ (z:=by assumption)
   refine .i ?_ (z:=eql_f (by omega))
   refine .done (.ff rfl (.skip (.sr ?_)))
   refine .m ?_
   refine .i ?_ (z:=mul_in (by omega) (by omega))
   refine .m ?_
   refine .i ?_ (z:=mul_in (by omega) (by omega))
   refine .m ?_
   refine .i ?_ (z:=sub_in (by omega) (by omega))
   refine .g ?_
   refine .done ?_
   refine .rt hK Tryz.func173 Tryz.results173 [_] ?_
   exact fun H' hs=> ⟨hs.base,by
     unfold stillF
     rw[if_pos (by omega),←Int.sub_eq_add_neg]
     rfl⟩
end
end Go.Proofs.YtpdaenfglbgfkaaGreatDoor
end
section
namespace Go.Proofs.YtpdaenfglbgfkaaGreatDoor
open Go.RL
set_option maxRecDepth 10000
set_option maxHeartbeats 16000000
def codeAt(b:Nat→Nat)(m:Nat):Nat:=(if 1<m then b 1 else 0)+(if 2<m then b 2*2 else 0)+(if 3<m then b 3*4 else 0)+(if 4<m then b 4*8 else 0)+(if 5<m then b 5*16 else 0)
def okAt(b:Nat→Nat)(m:Nat):Bool:=decide (0<m→b 0=0)&&decide (6<m→b 6=1)
def readT(r:Option Nat):Value:=.tuple ⟨[.int .i64 ((r.getD 0:Nat):Int),.bool r.isSome]⟩
theorem codeAt_le {b:Nat→Nat}(hb:∀m,b m≤1)(m:Nat):codeAt b m≤31:=by
 have h1:=hb 1
 have h2:=hb 2
 have h3:=hb 3
 have h4:=hb 4
 have h5:=hb 5
 unfold codeAt
 split <;> split <;> split <;> split <;> split <;> omega
theorem codeAt_succ(b:Nat→Nat)(m:Nat)(h:m<7):codeAt b (m+1)=codeAt b m+if 1≤m∧m≤5 then b m*2 ^ (m-1) else 0:=by
 rcases(by omega:m=0∨m=1∨m=2∨m=3∨m=4∨m=5∨m=6) with rfl|rfl|rfl|rfl|rfl|rfl|rfl <;> simp[codeAt]
theorem okAt_zero(b:Nat→Nat):okAt b 0=true:=by simp[okAt]
theorem okAt_one(b:Nat→Nat):okAt b 1=decide (b 0=0):=by simp[okAt]
theorem okAt_mid(b:Nat→Nat)(m:Nat)(h:1≤m∧m≤5):okAt b (m+1)=okAt b m:=by
 rcases(by omega:m=1∨m=2∨m=3∨m=4∨m=5) with rfl|rfl|rfl|rfl|rfl <;> simp[okAt]
theorem okAt_last(b:Nat→Nat):okAt b 7=(okAt b 6&&decide (b 6=1)):=by simp[okAt]
theorem shl_look:∀x:Nat,x<2→∀m:Nat,m<7→IntKind.i64.wrap ((x:Int)*2 ^ (min ((m:Int)-1).toNat 64))=((x*2 ^ (m-1):Nat):Int):=by decide +kernel
section
variable(M:Md Tryz.prog)(H:View)
theorem ReadOf_c(pace:Int)(l:List Int)(A:Option Addr)(n ca:Nat)(hn:n=l.length)(hn6:n≤1000)(hp:0≤pace∧pace≤1000)(hb:∀t∈l, -100000≤t∧t≤100000)(hA:Nums H A l):
   CallT M 145 #[.int .i64 pace,.slice A n ca] H (fun v H'=> H.le H'∧v=readT (refRead pace l)):=by
 obtain⟨b,hbd⟩:∃b,bitR pace l=b:=⟨_,rfl⟩
 have hb1:∀m,b m≤1:=fun m=> hbd▸bitR_le pace l m
 have hcl:=codeAt_le hb1
 refine CallT.enter (vs:= [.int .i64 pace,.slice A n ca]) Tryz.func145 rfl Tryz.ntmps145 (Nat.le_of_ble_eq_true rfl) (SymSt.nil _) fun St c cs hK=> ?_
 refine .sr ?_
 refine .g ?_
 refine .g ?_
 refine .done (.sr ?_)
 refine .g ?_
 refine .g ?_
 refine .done (.seq (.sr ?_))
 refine .g ?_
 refine .done (.block ?_)
 refine Tc.db (Tc.loopInv (σ:= { m:Nat//m≤7 }) (fun m=> ([(0,.int .i64 pace),(1,.slice A n ca),(6,.int .i64 (codeAt b m.1:Nat)),(7,.bool (okAt b m.1)),(8,.int .i64 (m.1:Nat))],[])) (fun m=> 7-m.1) ?_ ⟨0,by decide⟩)
 rintro⟨m,hm⟩ ih
 show Tc M St _ _ _ _ [(0,.int .i64 pace),(1,.slice A n ca),(6,.int .i64 (codeAt b m:Nat)),(7,.bool (okAt b m)),(8,.int .i64 (m:Nat))] [] _ _
 have hcm:=hcl m
 by_cases c7:m=7
 · subst c7
   clear ih
   have hrd:refRead pace l=if b 0=0∧b 6=1 then some (codeAt b 7) else none:=by
     unfold refRead codeAt
     rw[hbd]
     rfl
   refine .seq (.sr ?_)
   refine .m ?_
   refine .i ?_ (z:=lss_f (by omega))
   refine .done (.ff rfl (.exit rfl (.seq (.seq ?_))))
   by_cases hok:b 0=0∧b 6=1
   · have e:okAt b 7=true:=by unfold okAt;rw[decide_eq_true (fun _=> hok.1),decide_eq_true (fun _=> hok.2)];rfl
     rw[if_pos hok] at hrd
     rw[e]
     refine .r ?_
     refine .m ?_
     refine .x .nt ?_
     refine .done (.ff rfl (.skip (.sr ?_)))
     refine .m ?_
     refine .g ?_
     refine .g ?_
     refine .done ?_
     refine .rt hK Tryz.func145 Tryz.results145 [_,_] ?_
     exact fun H' hs=> ⟨hs.base,by rw[hrd];rfl⟩
   · have e:okAt b 7=false:=by
       unfold okAt
       rw[Bool.and_eq_false_iff,decide_eq_false_iff_not,decide_eq_false_iff_not]
       by_cases h0:b 0=0
       · exact .inr fun h=> hok ⟨h0,h (by decide)⟩
       · exact .inl fun h=> h0 (h (by decide))
     rw[if_neg hok] at hrd
     rw[e]
     refine .r ?_
     refine .m ?_
     refine .x .nt ?_
     refine .done (.tt rfl (.sr ?_))
     refine .g ?_
     refine .g ?_
     refine .done ?_
     refine .rt hK Tryz.func145 Tryz.results145 [_,_] ?_
     exact fun H' hs=> ⟨hs.base,by rw[hrd];rfl⟩
 · have c8 : m<7:=by omega
   have m1:0≤(2*((m:Nat):Int)+1)*pace:=Int.mul_nonneg (by omega) hp.1
   have m2:(2*((m:Nat):Int)+1)*pace≤15*1000:=Int.mul_le_mul (by omega) hp.2 hp.1 (by omega)
   refine .seq (.sr ?_)
   refine .m ?_
   refine .i ?_ (z:=lss_t (by omega))
   refine .done (.tt rfl (.skip (.seq (.block (.sr ?_)))))
   refine .g ?_
   refine .done (.seq (.sr ?_))
   refine .g ?_
   refine .done ?_
   refine Tc.via (fun R' L'=> AllIn [(0,.int .i64 pace),(1,.slice A n ca),(6,.int .i64 (codeAt b m:Nat)),(7,.bool (okAt b m)),(8,.int .i64 (m:Nat)),(9,.int .i64 (b m:Nat))] R'∧L'= []) ?_ (fun fin=> ?_)
   · rintro R' _ ⟨hRR,rfl⟩
     refine Tc.dropB ?_ hRR (List.Sublist.refl _)
     clear hRR
     have hx:=hb1 m
     have hgo:∀c' o',codeAt b (m+1)=c'→okAt b (m+1)=o'→Tc M St _ _ _ _ [(0,.int .i64 pace),(1,.slice A n ca),(6,.int .i64 (c':Nat)),(7,.bool o'),(8,.int .i64 (m+1:Nat))] [] _ _:=fun c' o' e1 e2=> by
       rw[←e1,←e2]
       exact ih ⟨m+1,by omega⟩ (by simp only;omega)
     clear ih
     obtain⟨x,hxe⟩:∃x,b m=x:=⟨_,rfl⟩
     rw[hxe] at hx ⊢
     obtain⟨c,hce⟩:∃c,codeAt b m=c:=⟨_,rfl⟩
     obtain⟨o,hoe⟩:∃o,okAt b m=o:=⟨_,rfl⟩
     rw[hce] at hcm ⊢
     rw[hoe]
     by_cases hm5:1≤m∧m≤5
     · have hs:=codeAt_succ b m c8
       rw[if_pos hm5,hxe,hce] at hs
       have hsh:shiftV .shl .i64 ((x:Nat):Int) (((m:Nat):Int)-1)=some (.int .i64 ((x*2 ^ (m-1):Nat):Int)):=by
         simp only[shiftV]
         exact congrArg (fun z=> some (Value.int .i64 z)) (shl_look x (by omega) m c8)
       have hc2:=hcl (m+1)
       obtain⟨z,hz⟩:∃z,x*2 ^ (m-1)=z:=⟨_,rfl⟩
       rw[hz] at hs hsh
       refine .sr ?_
       refine .m ?_
       refine .i ?_ (z:=eql_f (by omega))
       refine .m ?_
       refine .m ?_
       refine .i ?_ (z:=eql_f (by omega))
       refine .x .pk ?_
       refine .done (.ff rfl (.r ?_))
       refine .m ?_
       refine .m ?_
       refine .m ?_
       refine .i ?_ (z:=sub_in (by omega) (by omega))
       refine .x .sf ?_
       refine .i ?_ (z:=add_in (by omega) (by omega))
       refine .g ?_
       refine .done (.inBlock (.r ?_))
       refine .m ?_
       refine .i ?_ (z:=add_in (by omega) (by omega))
       refine .g ?_
       refine .done ?_
       exact Tc.db (hgo (c+z) o hs (by rw[okAt_mid b m hm5,hoe]))
     · have hc':=codeAt_succ b m c8
       rw[if_neg hm5,hce,Nat.add_zero] at hc'
       rcases(by omega:m=0∨m=6) with rfl|rfl
       · have ho:o=true:=hoe.symm.trans (okAt_zero b)
         subst ho
         rcases(by omega:x=0∨x=1) with rfl|rfl
         · refine .sr ?_
           refine .m ?_
           refine .i ?_ (z:=eql_t (by omega))
           refine .m ?_
           refine .sk ?_
           refine .sk ?_
           refine .x .pk ?_
           refine .done (.tt rfl (.r ?_))
           refine .m ?_
           refine .m ?_
           refine .m ?_
           refine .m ?_
           refine .i ?_ (z:=quo_in (by omega) (by omega) (by omega))
           refine .i ?_ (z:=eql_t (by omega))
           refine .x .pk ?_
           refine .g ?_
           refine .done (.inBlock (.r ?_))
           refine .m ?_
           refine .i ?_ (z:=add_in (by omega) (by omega))
           refine .g ?_
           refine .done ?_
           exact Tc.db (hgo c true hc' (by rw[okAt_one,hxe];rfl))
         · refine .sr ?_
           refine .m ?_
           refine .i ?_ (z:=eql_t (by omega))
           refine .m ?_
           refine .sk ?_
           refine .sk ?_
           refine .x .pk ?_
           refine .done (.tt rfl (.r ?_))
           refine .m ?_
           refine .m ?_
           refine .m ?_
           refine .m ?_
           refine .i ?_ (z:=quo_in (by omega) (by omega) (by omega))
           refine .i ?_ (z:=eql_f (by omega))
           refine .x .pk ?_
           refine .g ?_
           refine .done (.inBlock (.r ?_))
           refine .m ?_
           refine .i ?_ (z:=add_in (by omega) (by omega))
           refine .g ?_
           refine .done ?_
           exact Tc.db (hgo c false hc' (by rw[okAt_one,hxe];rfl))
       · rcases(by omega:x=0∨x=1) with rfl|rfl
         · cases o
           · refine .sr ?_
             refine .m ?_
             refine .i ?_ (z:=eql_f (by omega))
             refine .m ?_
             refine .m ?_
             refine .i ?_ (z:=eql_t (by omega))
             refine .x .pk ?_
             refine .done (.tt rfl (.r ?_))
             refine .m ?_
             refine .m ?_
             refine .sk ?_
             refine .sk ?_
             refine .sk ?_
             refine .sk ?_
             refine .x .pk ?_
             refine .g ?_
             refine .done (.inBlock (.r ?_))
             refine .m ?_
             refine .i ?_ (z:=add_in (by omega) (by omega))
             refine .g ?_
             refine .done ?_
             exact Tc.db (hgo c false hc' (by rw[okAt_last,hxe,hoe];rfl))
           · refine .sr ?_
             refine .m ?_
             refine .i ?_ (z:=eql_f (by omega))
             refine .m ?_
             refine .m ?_
             refine .i ?_ (z:=eql_t (by omega))
             refine .x .pk ?_
             refine .done (.tt rfl (.r ?_))
             refine .m ?_
             refine .m ?_
             refine .m ?_
             refine .m ?_
             refine .i ?_ (z:=quo_in (by omega) (by omega) (by omega))
             refine .i ?_ (z:=eql_f (by omega))
             refine .x .pk ?_
             refine .g ?_
             refine .done (.inBlock (.r ?_))
             refine .m ?_
             refine .i ?_ (z:=add_in (by omega) (by omega))
             refine .g ?_
             refine .done ?_
             exact Tc.db (hgo c false hc' (by rw[okAt_last,hxe,hoe];rfl))
         · cases o
           · refine .sr ?_
             refine .m ?_
             refine .i ?_ (z:=eql_f (by omega))
             refine .m ?_
             refine .m ?_
             refine .i ?_ (z:=eql_t (by omega))
             refine .x .pk ?_
             refine .done (.tt rfl (.r ?_))
             refine .m ?_
             refine .m ?_
             refine .sk ?_
             refine .sk ?_
             refine .sk ?_
             refine .sk ?_
             refine .x .pk ?_
             refine .g ?_
             refine .done (.inBlock (.r ?_))
             refine .m ?_
             refine .i ?_ (z:=add_in (by omega) (by omega))
             refine .g ?_
             refine .done ?_
             exact Tc.db (hgo c false hc' (by rw[okAt_last,hxe,hoe];rfl))
           · refine .sr ?_
             refine .m ?_
             refine .i ?_ (z:=eql_f (by omega))
             refine .m ?_
             refine .m ?_
             refine .i ?_ (z:=eql_t (by omega))
             refine .x .pk ?_
             refine .done (.tt rfl (.r ?_))
             refine .m ?_
             refine .m ?_
             refine .m ?_
             refine .m ?_
             refine .i ?_ (z:=quo_in (by omega) (by omega) (by omega))
             refine .i ?_ (z:=eql_t (by omega))
             refine .x .pk ?_
             refine .g ?_
             refine .done (.inBlock (.r ?_))
             refine .m ?_
             refine .i ?_ (z:=add_in (by omega) (by omega))
             refine .g ?_
             refine .done ?_
             exact Tc.db (hgo c true hc' (by rw[okAt_last,hxe,hoe];rfl))
   · refine .block ?_
     refine Tc.db (Tc.loopInv (σ:= { j:Nat//j≤n }) (fun j=> ([(0,.int .i64 pace),(1,.slice A n ca),(6,.int .i64 (codeAt b m:Nat)),(7,.bool (okAt b m)),(8,.int .i64 (m:Nat)),(9,.int .i64 ((lookR (lookP pace (l.headD 0) m) (l.take j.1) 1:Nat):Int)),(10,.int .i64 (j.1:Nat))],[])) (fun j=> n-j.1) ?_ ⟨0,Nat.zero_le _⟩)
     rintro⟨j,hj⟩ ihj
     have hxl:=lookR_le (lookP pace (l.headD 0) m) (l.take j) 1 (Nat.le_refl _)
     have hsn:j<n→lookR (lookP pace (l.headD 0) m) (l.take (j+1)) 1=if lookP pace (l.headD 0) m (l[j]?.getD 0) then 1-lookR (lookP pace (l.headD 0) m) (l.take j) 1 else lookR (lookP pace (l.headD 0) m) (l.take j) 1:=fun h=> by
       rw[List.take_succ_eq_append_getElem (by omega),lookR_snoc,List.getElem?_eq_getElem (by omega)]
       rfl
     obtain⟨x,hxe⟩:∃x,lookR (lookP pace (l.headD 0) m) (l.take j) 1=x:=⟨_,rfl⟩
     show Tc M St _ _ _ _ [(0,.int .i64 pace),(1,.slice A n ca),(6,.int .i64 (codeAt b m:Nat)),(7,.bool (okAt b m)),(8,.int .i64 (m:Nat)),(9,.int .i64 ((lookR (lookP pace (l.headD 0) m) (l.take j) 1:Nat):Int)),(10,.int .i64 (j:Nat))] [] _ _
     rw[hxe] at hxl hsn ⊢
     by_cases d1:j<n
     · have hsn:=hsn d1
       rcases hA with hA|⟨a1,a2,a3,a4,a5,a6,rfl,a7,a8⟩
       · rw[hA] at hn;simp at hn;omega
       have f1:=a8 j (by omega)
       have f0:ldL false 1 a4 (a2+(0:Int).toNat*1)=some (.int .i64 (l.headD 0)):=by
         have:=a8 0 (by omega)
         rw[List.headD_eq_head?_getD,List.head?_eq_getElem?]
         exact this
       have hh:l.headD 0∈l:=by
         match l,(show 0<l.length by omega) with
         | y::l,_=> exact List.mem_cons_self
       have b0:=hb _ hh
       have b1:=hb (l[j]?.getD 0) (by rw[List.getElem?_eq_getElem (by omega)];exact List.getElem_mem _)
       have e1:(1:Int)-((x:Nat):Int)=((1-x:Nat):Int):=by omega
       have hnx:∀y,lookR (lookP pace (l.headD 0) m) (l.take (j+1)) 1=y→Tc M St _ _ _ _ [(0,.int .i64 pace),(1,.slice (some ⟨a1,a2,none⟩) n ca),(6,.int .i64 (codeAt b m:Nat)),(7,.bool (okAt b m)),(8,.int .i64 (m:Nat)),(9,.int .i64 (y:Nat)),(10,.int .i64 ((j+1:Nat):Int))] [] _ _:=fun y hy=> by
         rw[←hy]
         exact ihj ⟨j+1,d1⟩ (by simp only;omega)
       cases hlk:lookP pace (l.headD 0) m (l[j]?.getD 0) with
       | true=>
         rw[hlk,if_pos rfl] at hsn
         have hle:=of_decide_eq_true hlk
         refine .seq (.sr ?_)
         refine .m ?_
         refine .m ?_
         refine .x .ln ?_
         refine .i ?_ (z:=lss_t (by omega))
         refine .done (.tt rfl (.skip (.seq (.block (.seq ?_)))))
         refine Tc.dr [] [] mixed rfl ?_
         refine .q 0 rfl .mv ?_
         refine .q 1 rfl .mv ?_
         refine .q 2 rfl .ia ?_
         refine .q 3 rfl .l0 ?_
         refine .q 4 rfl .mv ?_
         refine .q 5 rfl .ia ?_
         refine .q 6 rfl .l0 ?_
         refine .q 7 rfl .mv ?_
         refine .q 8 rfl (.it (zz:=mul_in (by omega) (by omega))) ?_
         refine .q 9 rfl (.it (zz:=add_in (by omega) (by omega))) ?_
         refine .q 10 rfl .mv ?_
         refine .q 11 rfl (.it (zz:=mul_in (by omega) (by omega))) ?_
         refine .q 12 rfl (.it (zz:=add_in (by omega) (by omega))) ?_
         refine .q 13 rfl (.it (zz:=leq_t (by omega))) ?_
         refine Ta.done (by kernel_rfl) ?_
         refine .tt rfl (.r ?_)
         refine .m ?_
         refine .i ?_ (z:=sub_in (by omega) (by omega))
         refine .g ?_
         refine .done ?_
         rw[e1]
         refine .inBlock (.r ?_)
         refine .m ?_
         refine .i ?_ (z:=add_in (by omega) (by omega))
         refine .g ?_
         refine .done ?_
         exact Tc.db (hnx _ hsn)
       | false=>
         rw[hlk] at hsn
         have hle:=of_decide_eq_false hlk
         refine .seq (.sr ?_)
         refine .m ?_
         refine .m ?_
         refine .x .ln ?_
         refine .i ?_ (z:=lss_t (by omega))
         refine .done (.tt rfl (.skip (.seq (.block (.seq ?_)))))
         refine Tc.dr [] [] mixed rfl ?_
         refine .q 0 rfl .mv ?_
         refine .q 1 rfl .mv ?_
         refine .q 2 rfl .ia ?_
         refine .q 3 rfl .l0 ?_
         refine .q 4 rfl .mv ?_
         refine .q 5 rfl .ia ?_
         refine .q 6 rfl .l0 ?_
         refine .q 7 rfl .mv ?_
         refine .q 8 rfl (.it (zz:=mul_in (by omega) (by omega))) ?_
         refine .q 9 rfl (.it (zz:=add_in (by omega) (by omega))) ?_
         refine .q 10 rfl .mv ?_
         refine .q 11 rfl (.it (zz:=mul_in (by omega) (by omega))) ?_
         refine .q 12 rfl (.it (zz:=add_in (by omega) (by omega))) ?_
         refine .q 13 rfl (.it (zz:=leq_f (by omega))) ?_
         refine Ta.done (by kernel_rfl) ?_
         refine .ff rfl (.skip (.inBlock (.r ?_)))
         refine .m ?_
         refine .i ?_ (z:=add_in (by omega) (by omega))
         refine .g ?_
         refine .done ?_
         exact Tc.db (hnx _ hsn)
     · have ej:j=n:=by omega
       have hbx:b m=x:=by rw[←hbd,←hxe,ej,hn,List.take_length];rfl
       subst ej
       refine .seq (.sr ?_)
       refine .m ?_
       refine .m ?_
       refine .x .ln ?_
       refine .i ?_ (z:=lss_f (by omega))
       refine .done (.ff rfl (.exit rfl ?_))
       exact Tc.dropB (fin [(0,.int .i64 pace),(1,.slice A j ca),(6,.int .i64 (codeAt b m:Nat)),(7,.bool (okAt b m)),(8,.int .i64 (m:Nat)),(9,.int .i64 (b m:Nat))] [] ⟨⟨rfl,rfl,rfl,rfl,rfl,rfl,trivial⟩,rfl⟩) (by exact⟨rfl,rfl,rfl,rfl,rfl,by rw[hbx];rfl,trivial⟩) (by exact List.Sublist.refl _)
end
end Go.Proofs.YtpdaenfglbgfkaaGreatDoor
end
section
namespace Go.Proofs.YtpdaenfglbgfkaaGreatDoor
open Go.RL
set_option maxRecDepth 10000
set_option maxHeartbeats 16000000
def wantQ(want:Int)(c:Nat):Option Nat→Bool
 | none=> decide (want= -1∨want=32)
 | some x=> if want= -1 then decide (x≠c) else if want=32 then false else decide ((x:Int)=want)
theorem refRead_lt {pace:Int}{l:List Int}{x:Nat}(h:refRead pace l=some x):x<32:=by
 unfold refRead at h
 have h1:=bitR_le pace l 1
 have h2:=bitR_le pace l 2
 have h3:=bitR_le pace l 3
 have h4:=bitR_le pace l 4
 have h5:=bitR_le pace l 5
 split at h
 · have:=Option.some.inj h
   omega
 · cases h
theorem numsL_get {l:List Nat}{i:Nat}(h:i<l.length):(numsL l)[i]?.getD 0=((l[i]?.getD 0:Nat):Int):=by
 unfold numsL
 rw[List.getElem?_map,List.getElem?_eq_getElem h]
 rfl
theorem numsL_len(l:List Nat):(numsL l).length=l.length:=by simp[numsL]
section
variable(M:Md Tryz.prog)(H:View)
theorem moved_leaf(s:Stg)(hok:s.Ok)(K:Option Addr)(kc:Nat)(want:Int)(hw: -1≤want∧want≤32)(pre:List Int)(A:Option Addr)(n ca:Nat)(hn:n=pre.length)(hd:n=s.ps.length)(hb:∀x∈pre, -1000≤x∧x≤1000)(hA:Nums H A pre)(hKs:Nums H K (numsL s.ps)):
   CallT M 150 #[bandV s.mf s.mt,.int .i64 s.code,.slice K s.ps.length kc,pastA s.send s.read s.lean A n ca,.int .i64 want] H (fun v H'=> H.le H'∧v=if wantQ want s.code (refRead s.read (timesFrom s.ps s.send s.lean 0 pre)) then .tuple ⟨[.slice A n ca,.bool true]⟩ else .tuple ⟨[.slice none 0 0,.bool false]⟩):=by
 have o1:=hok.send
 have o2:=hok.read
 have o3:=hok.lean
 have o4:=hok.ps0
 have o5:=hok.ps6
 have o6:=hok.code
 refine CallT.enter (vs:= [bandV s.mf s.mt,.int .i64 s.code,.slice K s.ps.length kc,pastA s.send s.read s.lean A n ca,.int .i64 want]) Tryz.func150 rfl Tryz.ntmps150 (Nat.le_of_ble_eq_true rfl) (SymSt.nil _) fun St c cs hK=> ?_
 refine .sr ?_
 refine .e (.bx (zz:=fun b5=> ?_))
 refine .e (.bx (zz:=fun b8=> ?_))
 refine .g ?_
 refine .g ?_
 refine .done (.sr ?_)
 refine .x .fa ?_
 refine .x (.ld 0) ?_
 refine .x .ln ?_
 refine .g ?_
 refine .done (.seq (.sr ?_))
 refine .m ?_
 refine .m ?_
 refine .x .ln ?_
 refine .i ?_ (z:=eql_t (by omega))
 refine .done (.tt rfl (.sr ?_))
 refine .g ?_
 refine .done (.seq (.sr ?_))
 refine .g ?_
 refine .done (.block ?_)
 refine Tc.db (Tc.loopInv (σ:= { x:Nat×Gl 3 1//x.1≤n∧x.2.l=intsL (timesFrom s.ps s.send s.lean 0 (pre.take x.1)) })
   (fun x=> ([(1,.int .i64 s.code),(2,.slice K s.ps.length kc),(4,.int .i64 want),(5,.pointer (some ⟨b5,0,none⟩)),(8,.pointer (some ⟨b8,0,none⟩)),(13,x.1.2.val),(14,.int .i64 (x.1.1:Nat))],(b8,true,.cells ⟨[.int .i64 s.send,.int .i64 s.read,.int .i64 s.lean,.slice A n ca]⟩ 39 (0,0))::(b5,true,.cells ⟨[.int .i64 s.mf,.int .i64 s.mt]⟩ 23 (0,0))::x.1.2.bl)) (fun x=> n-x.1.1) ?_ ⟨(0,Gl.nil 3 1),Nat.zero_le _,rfl⟩)
 rintro⟨⟨j,u⟩,q1,q2⟩ ih
 simp only at q1 q2
 have hun:u.n=j:=by
   have:=u.hl
   rw[q2,intsL_len,timesFrom_len,List.length_take] at this
   omega
 show Tc M St _ _ _ _ [(1,.int .i64 s.code),(2,.slice K s.ps.length kc),(4,.int .i64 want),(5,.pointer (some ⟨b5,0,none⟩)),(8,.pointer (some ⟨b8,0,none⟩)),(13,u.val),(14,.int .i64 (j:Nat))] ((b8,true,.cells ⟨[.int .i64 s.send,.int .i64 s.read,.int .i64 s.lean,.slice A n ca]⟩ 39 (0,0))::(b5,true,.cells ⟨[.int .i64 s.mf,.int .i64 s.mt]⟩ 23 (0,0))::u.bl) _ _
 by_cases d1:j<n
 · rcases hA with hA|⟨a1,a2,a3,a4,a5,a6,rfl,a7,a8⟩
   · rw[hA] at hn;simp at hn;omega
   rcases hKs with hK|⟨k1,k2,k3,k4,k5,k6,rfl,k7,k8⟩
   · have:=congrArg List.length hK;rw[numsL_len] at this;simp only[List.length_nil] at this;omega
   have f1:=a8 j (by omega)
   have f2:=k8 j (by rw[numsL_len];omega)
   rw[numsL_get (by omega)] at f2
   have hp:=hok.places j (by omega)
   have b1:=hb (pre[j]?.getD 0) (by rw[List.getElem?_eq_getElem (by omega)];exact List.getElem_mem _)
   have hst:=still_in (place:=((s.ps[j]?.getD 0:Nat):Int)) (number:=(j:Nat)) (send:=s.send) (lean:=s.lean) (by omega) (by omega) o1.1 o1.2 o3.1 o3.2
   refine .seq (.sr ?_)
   refine .m ?_
   refine .m ?_
   refine .x .ln ?_
   refine .i ?_ (z:=lss_t (by omega))
   refine .done (.tt rfl (.skip (.seq (.block ?_))))
   refine Tc.drT [18] [] [] 2 mixed rfl ?_
   refine Ta.tkC 0 (by kernel_rfl) rfl rfl (by decide) rfl rfl (OpV.take .mv) ?_
   refine Ta.tkC 1 (by kernel_rfl) rfl rfl (by decide) rfl rfl (OpV.take .fa) ?_
   refine Ta.tkC 2 (by kernel_rfl) rfl rfl (by decide) rfl rfl (OpV.take (.ld 0)) ?_
   refine Ta.tkC 3 (by kernel_rfl) rfl rfl (by decide) rfl rfl (OpV.take .fa) ?_
   refine Ta.tkC 4 (by kernel_rfl) rfl rfl (by decide) rfl rfl (OpV.take (.ld 0)) ?_
   refine Ta.tkC 5 (by kernel_rfl) rfl rfl (by decide) rfl rfl (OpV.take .mv) ?_
   refine Ta.tkC 6 (by kernel_rfl) rfl rfl (by decide) rfl rfl (OpV.take .mv) ?_
   refine Ta.tkC 7 (by kernel_rfl) rfl rfl (by decide) rfl rfl (OpV.take .mv) ?_
   refine Ta.tkC 8 (by kernel_rfl) rfl rfl (by decide) rfl rfl (OpV.take .ia) ?_
   refine Ta.tkC 9 (by kernel_rfl) rfl rfl (by decide) rfl rfl (OpV.take .l0) ?_
   refine Ta.tkC 10 (by kernel_rfl) rfl rfl (by decide) rfl rfl (OpV.takeCall rfl rfl rfl rfl (fun H hs=> .f ca173 rfl (Still_c M H s.send s.lean (j:Nat) ((s.ps[j]?.getD 0:Nat):Int) (by omega) (by omega) (by omega) o1.1 o1.2 o3.1 o3.2))) ?_
   refine Ta.tkC 11 (by kernel_rfl) rfl rfl (by decide) rfl rfl (OpV.take .fa) ?_
   refine Ta.tkC 12 (by kernel_rfl) rfl rfl (by decide) rfl rfl (OpV.take (.ld 0)) ?_
   refine Ta.tkC 13 (by kernel_rfl) rfl rfl (by decide) rfl rfl (OpV.take .mv) ?_
   refine Ta.tkC 14 (by kernel_rfl) rfl rfl (by decide) rfl rfl (OpV.take .ia) ?_
   refine Ta.tkC 15 (by kernel_rfl) rfl rfl (by decide) rfl rfl (OpV.take .l0) ?_
   refine Ta.tkC 16 (by kernel_rfl) rfl rfl (by decide) rfl rfl (OpV.take (.it (zz:=add_in (by omega) (by omega)))) ?_
   refine Ta.each [17] (by kernel_rfl) rfl ⟨TaOp.mk rfl rfl rfl (.bs (zz:=fun bs=> ⟨S3.mk (by apply List.Sublist.cons;exact List.sublist_append_left _ _) (.inr (by apply List.Sublist.cons;exact List.Sublist.refl _)),?_⟩)),trivial⟩
   refine Ta.each [18] (by kernel_rfl) rfl ⟨TaOp.mk rfl rfl rfl (Or.append (E:=en) 3 rfl rfl rfl rfl rfl rfl rfl rfl rfl rfl rfl rfl rfl rfl rfl (fun H hs=> SrcAt.of (hs.get (i:=0) rfl) (Nat.le_of_ble_eq_true rfl)) rfl (by omega) rfl (by decide) (fun u' hn' hl=> ⟨S3.mk (by apply List.Sublist.cons;exact List.sublist_append_left _ _) (.inl (by kernel_rfl)),?_⟩)),trivial⟩
   refine Ta.tkwC 19 (by kernel_rfl) rfl rfl rfl (by decide) rfl rfl (OpV.take .sg) ?_
   refine Ta.done (by kernel_rfl) ?_
   refine .inBlock (.r ?_)
   refine .m ?_
   refine .i ?_ (z:=add_in (by omega) (by omega))
   refine .g ?_
   refine .done ?_
   have hjl:j<pre.length:=by omega
   have hl':u'.l=intsL (timesFrom s.ps s.send s.lean 0 (pre.take (j+1))):=by
     rw[hl,q2,List.take_succ_eq_append_getElem hjl,timesFrom_snoc,List.length_take,show min j pre.length=j by omega,Nat.zero_add]
     unfold intsL
     rw[List.map_append,List.getElem?_eq_getElem hjl]
     rfl
   exact Tc.db (ih ⟨(j+1,u'),d1,hl'⟩ (by simp only;omega))
 · have ej:j=n:=by omega
   clear ih
   rw[ej,hn,List.take_length] at q2
   have hut:∀t∈timesFrom s.ps s.send s.lean 0 pre, -100000≤t∧t≤100000:=fun t ht=> by
     obtain⟨i,hi⟩:=List.mem_iff_getElem?.1 ht
     have hil:=(List.getElem?_eq_some_iff.1 hi).1
     rw[timesFrom_len] at hil
     rw[timesFrom_get hil,Nat.zero_add] at hi
     have hp:=hok.places i (by omega)
     have b1:=hb (pre[i]?.getD 0) (by rw[List.getElem?_eq_getElem hil];exact List.getElem_mem _)
     have hst:=still_in (place:=((s.ps[i]?.getD 0:Nat):Int)) (number:=(i:Nat)) (send:=s.send) (lean:=s.lean) (by omega) (by omega) o1.1 o1.2 o3.1 o3.2
     have:=Option.some.inj hi
     omega
   have hul:u.n=(timesFrom s.ps s.send s.lean 0 pre).length:=by rw[timesFrom_len];omega
   refine .seq (.sr ?_)
   refine .m ?_
   refine .m ?_
   refine .x .ln ?_
   refine .i ?_ (z:=lss_f (by omega))
   refine .done (.ff rfl (.exit rfl (.seq ?_)))
   obtain⟨rd,hrd⟩:∃rd,refRead s.read (timesFrom s.ps s.send s.lean 0 pre)=rd:=⟨_,rfl⟩
   have hrl:∀x,rd=some x→x<32:=fun x h=> refRead_lt (hrd.trans h)
   have hro:=fun(H':View) (h:Nums H' (u.blk.map fun b=> ⟨b,0,none⟩) (timesFrom s.ps s.send s.lean 0 pre))=> ReadOf_c M H' s.read (timesFrom s.ps s.send s.lean 0 pre) _ u.n u.cap hul (by omega) (by omega) hut h
   rw[hrd] at hro
   have hq:∀t,wantQ want s.code rd=t→wantQ want s.code (refRead s.read (timesFrom s.ps s.send s.lean 0 pre))=t:=fun t h=> by rw[hrd];exact h
   cases rd with
   | none=>
     refine .r ?_
     refine .x .fa ?_
     refine .x (.ld 0) ?_
     refine .m ?_
     refine .c rfl rfl rfl rfl (fun H hs=> .f ca145 rfl (CallT.mono (hro H (Nums.of q2 (fun y hy=> hs.at_ y (by simp[hy]))).2) (Q':=fun v H'=> H.le H'∧v=.tuple ⟨[.int .i64 0,.bool false]⟩) (fun v H' h=> h))) ?_
     refine .m ?_
     refine .x .et ?_
     refine .x .et ?_
     refine .g ?_
     refine .g ?_
     refine .done (.seq (.seq ?_))
     rcases(by omega:want= -1∨want=32∨(0≤want∧want<32)) with rfl|rfl|hw2
     · have hz:=hq true rfl
       refine .r ?_
       refine .m ?_
       refine .i ?_ (z:=eql_t (by omega))
       refine .m ?_
       refine .m ?_
       refine .x .nt ?_
       refine .m ?_
       refine .sk ?_
       refine .sk ?_
       refine .sk ?_
       refine .x .pk ?_
       refine .x .pk ?_
       refine .m ?_
       refine .sk ?_
       refine .sk ?_
       refine .sk ?_
       refine To.skippedU rfl (by decide) rfl ?_
       refine To.skippedU rfl (by decide) rfl ?_
       refine .sk ?_
       refine .x .pk ?_
       refine .m ?_
       refine .sk ?_
       refine .sk ?_
       refine To.skippedU rfl (by decide) rfl ?_
       refine To.skippedU rfl (by decide) rfl ?_
       refine To.skippedU rfl (by decide) rfl ?_
       refine .sk ?_
       refine .x .pk ?_
       refine .done (.tt rfl (.sr ?_))
       refine .x .fa ?_
       refine .x (.ld 0) ?_
       refine .g ?_
       refine .g ?_
       refine .done ?_
       refine .rt hK Tryz.func150 Tryz.results150 [_,_] ?_
       exact fun H' hs=> ⟨hs.base,by rw[hz];rfl⟩
     · have hz:=hq true rfl
       refine .r ?_
       refine .m ?_
       refine .i ?_ (z:=eql_f (by omega))
       refine .m ?_
       refine .sk ?_
       refine .sk ?_
       refine .sk ?_
       refine To.skippedU rfl (by decide) rfl ?_
       refine To.skippedU rfl (by decide) rfl ?_
       refine To.skippedU rfl (by decide) rfl ?_
       refine .sk ?_
       refine .x .pk ?_
       refine .m ?_
       refine .m ?_
       refine .i ?_ (z:=eql_t (by omega))
       refine .m ?_
       refine .m ?_
       refine .x .nt ?_
       refine .x .pk ?_
       refine .x .pk ?_
       refine .m ?_
       refine .sk ?_
       refine .sk ?_
       refine To.skippedU rfl (by decide) rfl ?_
       refine To.skippedU rfl (by decide) rfl ?_
       refine To.skippedU rfl (by decide) rfl ?_
       refine .sk ?_
       refine .x .pk ?_
       refine .done (.tt rfl (.sr ?_))
       refine .x .fa ?_
       refine .x (.ld 0) ?_
       refine .g ?_
       refine .g ?_
       refine .done ?_
       refine .rt hK Tryz.func150 Tryz.results150 [_,_] ?_
       exact fun H' hs=> ⟨hs.base,by rw[hz];rfl⟩
     · have hz:=hq false (by show decide (want= -1∨want=32)=false;exact decide_eq_false (by omega))
       refine .r ?_
       refine .m ?_
       refine .i ?_ (z:=eql_f (by omega))
       refine .m ?_
       refine .sk ?_
       refine .sk ?_
       refine .sk ?_
       refine To.skippedU rfl (by decide) rfl ?_
       refine To.skippedU rfl (by decide) rfl ?_
       refine To.skippedU rfl (by decide) rfl ?_
       refine .sk ?_
       refine .x .pk ?_
       refine .m ?_
       refine .m ?_
       refine .i ?_ (z:=eql_f (by omega))
       refine .m ?_
       refine .sk ?_
       refine .sk ?_
       refine .x .pk ?_
       refine .x .pk ?_
       refine .m ?_
       refine .m ?_
       refine .m ?_
       refine .sk ?_
       refine .sk ?_
       refine .sk ?_
       refine .x .pk ?_
       refine .x .pk ?_
       refine .done (.ff rfl (.skip (.sr ?_)))
       refine .g ?_
       refine .g ?_
       refine .done ?_
       refine .rt hK Tryz.func150 Tryz.results150 [_,_] ?_
       exact fun H' hs=> ⟨hs.base,by rw[hz];rfl⟩
   | some x=>
     have hx:=hrl x rfl
     refine .r ?_
     refine .x .fa ?_
     refine .x (.ld 0) ?_
     refine .m ?_
     refine .c rfl rfl rfl rfl (fun H hs=> .f ca145 rfl (CallT.mono (hro H (Nums.of q2 (fun y hy=> hs.at_ y (by simp[hy]))).2) (Q':=fun v H'=> H.le H'∧v=.tuple ⟨[.int .i64 (x:Nat),.bool true]⟩) (fun v H' h=> h))) ?_
     refine .m ?_
     refine .x .et ?_
     refine .x .et ?_
     refine .g ?_
     refine .g ?_
     refine .done (.seq (.seq ?_))
     rcases(by omega:want= -1∨want=32∨(0≤want∧want<32)) with rfl|rfl|hw2
     · by_cases hxc:x=s.code
       · have hz:=hq false (by show decide (x≠s.code)=false;exact decide_eq_false (by omega))
         refine .r ?_
         refine .m ?_
         refine .i ?_ (z:=eql_t (by omega))
         refine .m ?_
         refine .m ?_
         refine .x .nt ?_
         refine .m ?_
         refine .m ?_
         refine .m ?_
         refine .i ?_ (z:=neq_f (by omega))
         refine .x .pk ?_
         refine .x .pk ?_
         refine .m ?_
         refine .m ?_
         refine .i ?_ (z:=eql_f (by omega))
         refine .m ?_
         refine .sk ?_
         refine .sk ?_
         refine .x .pk ?_
         refine .x .pk ?_
         refine .m ?_
         refine .m ?_
         refine .m ?_
         refine .m ?_
         refine .m ?_
         refine .i ?_ (z:=eql_f (by omega))
         refine .x .pk ?_
         refine .x .pk ?_
         refine .done (.ff rfl (.skip (.sr ?_)))
         refine .g ?_
         refine .g ?_
         refine .done ?_
         refine .rt hK Tryz.func150 Tryz.results150 [_,_] ?_
         exact fun H' hs=> ⟨hs.base,by rw[hz];rfl⟩
       · have hz:=hq true (by show decide (x≠s.code)=true;exact decide_eq_true hxc)
         refine .r ?_
         refine .m ?_
         refine .i ?_ (z:=eql_t (by omega))
         refine .m ?_
         refine .m ?_
         refine .x .nt ?_
         refine .m ?_
         refine .m ?_
         refine .m ?_
         refine .i ?_ (z:=neq_t (by omega))
         refine .x .pk ?_
         refine .x .pk ?_
         refine .m ?_
         refine .sk ?_
         refine .sk ?_
         refine .sk ?_
         refine To.skippedU rfl (by decide) rfl ?_
         refine To.skippedU rfl (by decide) rfl ?_
         refine .sk ?_
         refine .x .pk ?_
         refine .m ?_
         refine .sk ?_
         refine .sk ?_
         refine To.skippedU rfl (by decide) rfl ?_
         refine To.skippedU rfl (by decide) rfl ?_
         refine To.skippedU rfl (by decide) rfl ?_
         refine .sk ?_
         refine .x .pk ?_
         refine .done (.tt rfl (.sr ?_))
         refine .x .fa ?_
         refine .x (.ld 0) ?_
         refine .g ?_
         refine .g ?_
         refine .done ?_
         refine .rt hK Tryz.func150 Tryz.results150 [_,_] ?_
         exact fun H' hs=> ⟨hs.base,by rw[hz];rfl⟩
     · have hz:=hq false rfl
       refine .r ?_
       refine .m ?_
       refine .i ?_ (z:=eql_f (by omega))
       refine .m ?_
       refine .sk ?_
       refine .sk ?_
       refine .sk ?_
       refine To.skippedU rfl (by decide) rfl ?_
       refine To.skippedU rfl (by decide) rfl ?_
       refine To.skippedU rfl (by decide) rfl ?_
       refine .sk ?_
       refine .x .pk ?_
       refine .m ?_
       refine .m ?_
       refine .i ?_ (z:=eql_t (by omega))
       refine .m ?_
       refine .m ?_
       refine .x .nt ?_
       refine .x .pk ?_
       refine .x .pk ?_
       refine .m ?_
       refine .m ?_
       refine .m ?_
       refine .m ?_
       refine .m ?_
       refine .i ?_ (z:=eql_f (by omega))
       refine .x .pk ?_
       refine .x .pk ?_
       refine .done (.ff rfl (.skip (.sr ?_)))
       refine .g ?_
       refine .g ?_
       refine .done ?_
       refine .rt hK Tryz.func150 Tryz.results150 [_,_] ?_
       exact fun H' hs=> ⟨hs.base,by rw[hz];rfl⟩
     · have hz0:wantQ want s.code (some x)=decide ((x:Int)=want):=by
         show(if want= -1 then decide (x≠s.code) else if want=32 then false else decide ((x:Int)=want))=_
         rw[if_neg (by omega),if_neg (by omega)]
       by_cases hxw:((x:Nat):Int)=want
       · have hz:=hq true (hz0.trans (decide_eq_true hxw))
         refine .r ?_
         refine .m ?_
         refine .i ?_ (z:=eql_f (by omega))
         refine .m ?_
         refine .sk ?_
         refine .sk ?_
         refine .sk ?_
         refine To.skippedU rfl (by decide) rfl ?_
         refine To.skippedU rfl (by decide) rfl ?_
         refine To.skippedU rfl (by decide) rfl ?_
         refine .sk ?_
         refine .x .pk ?_
         refine .m ?_
         refine .m ?_
         refine .i ?_ (z:=eql_f (by omega))
         refine .m ?_
         refine .sk ?_
         refine .sk ?_
         refine .x .pk ?_
         refine .x .pk ?_
         refine .m ?_
         refine .m ?_
         refine .m ?_
         refine .m ?_
         refine .m ?_
         refine .i ?_ (z:=eql_t (by omega))
         refine .x .pk ?_
         refine .x .pk ?_
         refine .done (.tt rfl (.sr ?_))
         refine .x .fa ?_
         refine .x (.ld 0) ?_
         refine .g ?_
         refine .g ?_
         refine .done ?_
         refine .rt hK Tryz.func150 Tryz.results150 [_,_] ?_
         exact fun H' hs=> ⟨hs.base,by rw[hz];rfl⟩
       · have hz:=hq false (hz0.trans (decide_eq_false hxw))
         refine .r ?_
         refine .m ?_
         refine .i ?_ (z:=eql_f (by omega))
         refine .m ?_
         refine .sk ?_
         refine .sk ?_
         refine .sk ?_
         refine To.skippedU rfl (by decide) rfl ?_
         refine To.skippedU rfl (by decide) rfl ?_
         refine To.skippedU rfl (by decide) rfl ?_
         refine .sk ?_
         refine .x .pk ?_
         refine .m ?_
         refine .m ?_
         refine .i ?_ (z:=eql_f (by omega))
         refine .m ?_
         refine .sk ?_
         refine .sk ?_
         refine .x .pk ?_
         refine .x .pk ?_
         refine .m ?_
         refine .m ?_
         refine .m ?_
         refine .m ?_
         refine .m ?_
         refine .i ?_ (z:=eql_f (by omega))
         refine .x .pk ?_
         refine .x .pk ?_
         refine .done (.ff rfl (.skip (.sr ?_)))
         refine .g ?_
         refine .g ?_
         refine .done ?_
         refine .rt hK Tryz.func150 Tryz.results150 [_,_] ?_
         exact fun H' hs=> ⟨hs.base,by rw[hz];rfl⟩
end
end Go.Proofs.YtpdaenfglbgfkaaGreatDoor
end
