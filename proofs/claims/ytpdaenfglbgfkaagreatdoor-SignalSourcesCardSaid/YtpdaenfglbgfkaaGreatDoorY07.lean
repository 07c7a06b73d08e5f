/-
  Texts of the proofs over baudot/signal: F3 F4 E3 E4 F5 F6 Draw3 H1 R2 R6 L1 L2 M1 M2 L3 H2 L4 Perm H4 M3 M4 M5 E5 E6 E7 E8 E9 G3.
-/
import Derived.Test.YtpdaenfglbgfkaaGreatDoorY06
import Derived.Deep.Slices
section
namespace Go.Proofs.YtpdaenfglbgfkaaGreatDoor
open Go.RL Go.Conc Go.ConcN Go.RL.Au
open Go.ConcR (stA smA)
open Go.ConcM (muA msA)
set_option maxRecDepth 10000
set_option maxHeartbeats 4000000
theorem ro_some {H:View}{b:Nat}{f:Bool}{o:Obj}(h:H b=some (f,o)):ro H b=some (false,o):=by simp[ro,h]
theorem ro_none {H:View}{b:Nat}(h:H b=none):ro H b=none:=by simp[ro,h]
theorem ChAt.of {H H':View}{c:Ch}{lb lo lc:Nat}{A:Option Addr}(h:ChAt H c lb lo lc A)(k:∀b f o,H b=some (f,o)→∃f',H' b=some (f',o)):ChAt H' c lb lo lc A:=by
 obtain⟨⟨f,gs,gt,gz,h1,h2⟩,h3,h4⟩:=h
 obtain⟨f',h1'⟩:=k _ _ _ h1
 refine⟨⟨f',gs,gt,gz,h1',h2⟩,h3,fun hm=> ?_⟩
 obtain⟨ab,ao,f,gs,gt,gz,h5,h6,h7⟩:=h4 hm
 obtain⟨f',h6'⟩:=k _ _ _ h6
 exact⟨ab,ao,f',gs,gt,gz,h5,h6',h7⟩
theorem Glob.of {H H':View}(h:Glob H)(k:∀b f o,H b=some (f,o)→∃f',H' b=some (f',o)):Glob H':=by
 obtain⟨f,gt,gz,h⟩:=h
 obtain⟨f',h'⟩:=k _ _ _ h
 exact⟨f',gt,gz,h'⟩
structure StAt(X:Fk)(c:Ch)(H:View)(b1 b7 lb lo lc ac:Nat)(A:Option Addr):Prop where
 ne:X.Mu≠X.Wg
 good:c.Good
 n:X.n=c.m+1
 ch:ChAt H c lb lo lc A
 h1:∃f,H b1=some (f,.cells ⟨(c.val lb lo lc ac A).cells.toList⟩ 146 (0,0))
 h7:∃f,H b7=some (f,.cells ⟨[.map (some X.C)]⟩ 212 (0,0))
 glob:Glob H
 C0:H X.C=none
 GI:X.GI=GIc c
theorem StAt.of {X:Fk}{c:Ch}{H H':View}{b1 b7 lb lo lc ac:Nat}{A:Option Addr}(h:StAt X c H b1 b7 lb lo lc ac A)(k:∀b f o,H b=some (f,o)→∃f',H' b=some (f',o))(h0:H' X.C=none):StAt X c H' b1 b7 lb lo lc ac A:=
 ⟨h.ne,h.good,h.n,h.ch.of k,let ⟨_,g⟩:=h.h1;k _ _ _ g,let ⟨_,g⟩:=h.h7;k _ _ _ g,h.glob.of k,h0,h.GI⟩
abbrev b120:FB:=⟨120,.normal,none⟩
noncomputable def L120:Code:=cR (cL (cR (cR (cR (cR (bodyOf Tryz.f120))))))
noncomputable def B120:Code:=cB (cB L120)
noncomputable def T120:Code:=cR (cR (cR (cR (cR (bodyOf Tryz.f120)))))
section
variable {X:Fk}{c:Ch}{b1 b7 lb lo lc ac:Nat}{A:Option Addr}{Fin:Goroutine→Prop}{cs:List Frame}
def rgS(X:Fk)(c:Ch)(b1 b7 j:Nat):Rg:= [(1,.pointer (some ⟨b1,0,none⟩)),(2,.int .i64 0),(3,.int .i64 0),(4,.bool false),(5,.pointer (some ⟨X.Mu,0,none⟩)),(6,.pointer (some ⟨X.Wg,0,none⟩)),(7,.pointer (some ⟨b7,0,none⟩)),(13,.int .i64 ((c.m:Nat)+1)),(14,.int .i64 (j:Nat))]
theorem start_loop(hfin:∀(R:Rg),AllIn (rgS X c b1 b7 (c.m+1)) R→∀k (H:View),Sc (Jm Tryz.prog X Fin k .wd (c.m+1) H) 35 b120 cs R [] [.code T120]):∀(d j k:Nat) (H:View),j+d=c.m+1→StAt X c H b1 b7 lb lo lc ac A→∀(R:Rg),AllIn (rgS X c b1 b7 j) R→
   Sc (Jm Tryz.prog X Fin k (if j<X.n then .kd else .wd) j H) 35 b120 cs R [] [.code B120,.inLoop B120,.inBlock 0,.code T120]
 | 0,j,k,H,hj,hst,R,hR=> by
   have e:j=c.m+1:=by omega
   subst e
   rw[if_neg (by rw[hst.n];omega)]
   refine Sc.drop hR ?_
   unfold rgS
   refine .sq (.rg rfl rfl ?_)
   refine .i ?_ (z:=lss_f (by omega))
   refine .dn ?_
   refine Sc.seq Jm.cl (Sc.cond Jm.cl (t:=false) rfl (fun h=> nomatch h) (fun _=> ?_))
   refine .xt rfl ?_
   exact hfin _ ⟨rfl,rfl,rfl,rfl,rfl,rfl,rfl,rfl,rfl,trivial⟩ k H
 | d + 1,j,k,H,hj,hst,R,hR=> by
   rw[if_pos (by rw[hst.n];omega)]
   refine Sc.drop hR ?_
   unfold rgS
   have hmn:=hst.good.ok.m_lt
   have hn4:=hst.good.ok.n4
   refine .sq (.rg rfl rfl ?_)
   refine .i ?_ (z:=lss_t (by omega))
   refine .dn ?_
   refine Sc.seq Jm.cl (Sc.cond Jm.cl (t:=true) rfl (fun _=> ?_) (fun h=> nomatch h))
   refine .sp (.sq (.bl (.sq ?_)))
   refine Sc.none hst.C0 ?_
   refine Sc.ofTc (SymSt.nil H) ?_
   refine .r ?_
   refine .m ?_
   refine .e (.al (zz:=fun b8=> ?_))
   refine .e (.st 0 (zz:=?_))
   refine .done ?_
   refine Tc.ofSc (fun H1 hs=> Sc.stopNone (fun hC1=> ?_))
   have hst1:StAt X c H1 b1 b7 lb lo lc ac A:=hst.of (fun b f o h=> ⟨f,hs.base _ _ h⟩) hC1
   have h8:=hs.get (i:=0) rfl
   show Sc (Jm Tryz.prog X Fin k .kd j H1) 35 b120 cs _ [] _
   refine .sq (.rg rfl rfl ?_)
   refine So.callD rfl rfl rfl nofun rfl (.mk' rfl) rfl (addone_c hst.ne) ?_
   rintro v J' ⟨rfl,k',rfl⟩
   refine .dn (.rg rfl rfl ?_)
   refine So.opD Jm.cl rfl rfl rfl rfl (OpP.makeFunc rfl rfl rfl) ?_
   have hst2:StAt X c (ro H1) b1 b7 lb lo lc ac A:=hst1.of (fun b f o h=> ⟨false,ro_some h⟩) (ro_none hC1)
   refine Jm.go (f:=161) (fn:=#[]) (caps:=(wkVs X b1 b8 b7).toArray) rfl nofun rfl rfl rfl rfl rfl rfl rfl (fun k1 _=> ?_) (fun k1 _=> ?_)
   · refine .dn (.ib (.rg rfl rfl ?_))
     refine .i ?_ (z:=add_in (by omega) (by omega))
     refine .m ?_
     refine .dn ?_
     refine Sc.inLoop (by exact Jm.cl) ?_
     exact start_loop hfin d (j+1) k1 (ro H1) (by omega) hst2 _ ⟨rfl,rfl,rfl,rfl,rfl,rfl,rfl,rfl,rfl,trivial⟩
   · refine worker_c (A:=A) (lb:=lb) (lo:=lo) (lc:=lc) (ac:=ac) ⟨hst.ne,hst.good.ok,hst2.ch,hst2.h1,⟨false,ro_some h8⟩,hst2.h7,fun i hi hf=> Lk.fine (hst.good.fine i hf),by omega,hst2.glob,hst2.C0,hst.GI⟩ (fun H' D k n b cs R ds hb h=> done_d hb hst.ne h) k1
end
theorem Ph.of₁ {P:Program}{H:View}{g:Goroutine}{Po:View→Goroutine→Prop}(h:Ph₁ P H g Po):Ph P H g Po:=
 ⟨H,fun _=> none,Po,fun _ _ h=> (nomatch h),(by funext b;unfold View.plus;cases H b <;> rfl),h,fun H' g' _ hp=> by
   have e:H'.plus (fun _=> none)=H':=by funext b;unfold View.plus;cases H' b <;> rfl
   rwa [e]⟩
def View.beside(X:Fk)(H:View):View:=((H.without X.C).without X.Mu).without X.Wg
theorem beside_none {X:Fk}{H:View}:View.beside X H X.Mu=none∧View.beside X H X.Wg=none∧View.beside X H X.C=none:=by
 refine⟨?_,?_,?_⟩ <;> unfold View.beside View.without <;> simp
theorem beside_some {X:Fk}{H:View}{b:Nat}(h1:b≠X.C)(h2:b≠X.Mu)(h3:b≠X.Wg):View.beside X H b=H b:=by
 unfold View.beside
 rw[without_other h3,without_other h2,without_other h1]
theorem Ph.begin {P:Program}{H:View}{g:Goroutine}{Po:View→Goroutine→Prop}(X:Fk)(Fin:Goroutine→Prop)(o:Obj)(hn:0<X.n∧X.n≤6)(ne:X.Mu≠X.Wg∧X.Mu≠X.C∧X.Wg≠X.C)
   (hC:H X.C=some (true,o)) (hMu:H X.Mu=some (true,X.muO ⟨0,0,0,0,0⟩)) (hWg:H X.Wg=some (true,X.wgO ⟨0,0,0,0,0⟩)) (hGI:X.GI (fun _=> false) o)
   (hg:∀k,T (Mw P true X.ok) (MS P X Fin k .kd 0) (ro (View.beside X H)) g) (hPo:∀o' g',X.GI (fun i=> decide (i<X.n)) o'→Fin g'→Po ((View.beside X H).put X.C (true,o')) g'):Ph P H g Po:=by
 refine Ph.of₁ ⟨X,Fin,View.beside X H,o,hn.1,hn.2,ne,beside_none,?_,hGI,hg,hPo⟩
 funext b
 by_cases e1:b=X.Wg
 · subst e1;rw[View.put_same,hWg]
 · rw[View.put_other _ _ e1]
   by_cases e2:b=X.Mu
   · subst e2;rw[View.put_same,hMu]
   · rw[View.put_other _ _ e2]
     by_cases e3:b=X.C
     · subst e3;rw[View.put_same,hC]
     · rw[View.put_other _ _ e3,beside_some e3 e2 e1]
theorem So.all {J:Obj→Goroutine→Prop}{p:Obj→Prop}{n:Nat}{b:FB}{cs:List Frame}{dl:List (Option Tmp)}{R:Rg}{ds:List Deferred}{l:List Oper}{kk:List Item}(h:∀o,p o→So (J o) n b cs dl R ds l kk):So (fun g=> ∀o,p o→J o g) n b cs dl R ds l kk:=
 fun arr ix ha hx tmps hr o ho=> h o ho arr ix ha hx tmps hr
def Ch.isBad(c:Ch)(i:Nat):Bool:=(c.bad i).isSome
def Ch.first(c:Ch):Option Nat:=firstTo c.isBad (c.m+1)
def Ch.sec(c:Ch):Nat:=c.first.getD 0
theorem Ch.sec_le(c:Ch):c.sec≤c.m:=by
 unfold Ch.sec Ch.first
 cases h:firstTo c.isBad (c.m+1) with
 | none=> simp
 | some x=> have:=firstTo_lt h;simp;omega
theorem wF_full {c:Ch}{es:Array MapEntry}{cl:Nat}{n:Nat}(hn:n=c.m+1)(h:MapOk es cl (wF c fun i=> decide (i<n))){i:Nat}(hi:i≤c.m){r:Option (Nat×Value)}(hr:FindOk es.toList (.int .i64 (i:Nat)) r):
   (match c.bad i with|some z=> ∃j,r=some (j,.int .i64 z)|none=> r=none):=by
 have hf:=h.find hr
 cases hb:c.bad i with
 | none=>
   cases r with
   | none=> rfl
   | some p=>
     obtain⟨j,v⟩:=p
     obtain⟨i',z,h1,h2,h3,h4,h5⟩:=hf
     simp only[Value.int.injEq,true_and,Int.natCast_inj] at h4
     subst h4
     rw[hb] at h3
     cases h3
 | some z=>
   cases r with
   | none=> exact(hf (.int .i64 z) ⟨i,z,hi,by simp;omega,hb,rfl,rfl⟩).elim
   | some p=>
     obtain⟨j,v⟩:=p
     obtain⟨i',z',h1,h2,h3,h4,h5⟩:=hf
     simp only[Value.int.injEq,true_and,Int.natCast_inj] at h4
     subst h4
     rw[hb] at h3
     cases h3
     exact⟨j,by rw[h5]⟩
section
theorem bad_asks(M:Md Tryz.prog)(H:View)(ch:Ch)(b7 bC:Nat)(es:Array MapEntry)(cl n:Nat)(f7 fC:Bool)(hn:n=ch.m+1)(h7:H b7=some (f7,.cells ⟨[.map (some bC)]⟩ 212 (0,0)))(hC:H bC=some (fC,.map es cl))(hm:MapOk es cl (wF ch fun i=> decide (i<n))):
   Asks M H (.func (.func 166) #[] #[.pointer (some ⟨b7,0,none⟩)]) (ch.m+1) ch.isBad:=fun i hi H' hle=> by
 refine FnT.of (first:= []) (captured:= [_]) ca166 rfl ?_
 have h7':=hle _ _ h7
 have hC':=hle _ _ hC
 have hfull:=fun r (hr:FindOk es.toList (.int .i64 (i:Nat)) r)=> wF_full hn hm (by omega) hr
 refine CallT.enter (vs:= [.int .i64 (i:Nat),.pointer (some ⟨b7,0,none⟩)]) Tryz.func166 rfl Tryz.ntmps166 (Nat.le_of_ble_eq_true rfl) (SymSt.nil _) fun St c cs hK=> ?_
 cases hb:ch.bad i with
 | none=>
   refine .sr ?_
   refine .g ?_
   refine .done (.sr ?_)
   refine .x .l0 ?_
   refine .m ?_
   refine .x (OpV.lookup (E:=en) (v:=.tuple #[.int .i64 0,.bool false]) 1 rfl rfl rfl (fun H hs=> ⟨_,hs.base _ _ hC'⟩) rfl rfl rfl (by decide) (int_key _) (wF_keys hm) (fun r hr=> by have:=hfull r hr;rw[hb] at this;subst this;rfl)) ?_
   refine .m ?_
   refine .x .et ?_
   refine .x .et ?_
   refine .g ?_
   refine .g ?_
   refine .done (.sr ?_)
   refine .m ?_
   refine .g ?_
   refine .done ?_
   refine .rt hK Tryz.func166 Tryz.results166 [_] ?_
   exact fun H2 hs=> ⟨hs.base,by unfold Ch.isBad;rw[hb];rfl⟩
 | some z=>
   refine .sr ?_
   refine .g ?_
   refine .done (.sr ?_)
   refine .x .l0 ?_
   refine .m ?_
   refine .x (OpV.lookup (E:=en) (v:=.tuple #[.int .i64 z,.bool true]) 1 rfl rfl rfl (fun H hs=> ⟨_,hs.base _ _ hC'⟩) rfl rfl rfl (by decide) (int_key _) (wF_keys hm) (fun r hr=> by have:=hfull r hr;rw[hb] at this;obtain⟨j,rfl⟩:=this;rfl)) ?_
   refine .m ?_
   refine .x .et ?_
   refine .x .et ?_
   refine .g ?_
   refine .g ?_
   refine .done (.sr ?_)
   refine .m ?_
   refine .g ?_
   refine .done ?_
   refine .rt hK Tryz.func166 Tryz.results166 [_] ?_
   exact fun H2 hs=> ⟨hs.base,by unfold Ch.isBad;rw[hb];rfl⟩
theorem chainWeak_c(H:View)(ch:Ch)(lb lo lc ac:Nat)(A:Option Addr)(hA:ChAt H ch lb lo lc A)(hg:ch.Good)(hG:Glob H):
   CallT (Mp Tryz.prog) 120 #[ch.val lb lo lc ac A] H (fun v H'=> H.le H'∧v=.tuple ⟨[.int .i64 (ch.sec:Nat),.int .i64 ((ch.bad ch.sec).getD 0),.bool ch.first.isSome]⟩):=by
 refine CallT.enter (vs:= [ch.val lb lo lc ac A]) Tryz.func120 rfl Tryz.ntmps120 (Nat.le_of_ble_eq_true rfl) (SymSt.nil _) fun St c cs hK=> ?_
 have hmn:=hg.ok.m_lt
 have hn4:=hg.ok.n4
 refine .sr ?_
 refine .e (.bx (zz:=fun b1=> ?_))
 refine .g ?_
 refine .g ?_
 refine .g ?_
 refine .done (.sr ?_)
 refine .e (.al (zz:=fun b5=> ?_))
 refine .done (.sr ?_)
 refine .e (.al (zz:=fun b6=> ?_))
 refine .done (.sr ?_)
 refine .e (Or.makeMap rfl rfl (by decide) (fun bC=> ?_))
 refine .e (.al (zz:=fun b7=> ?_))
 refine .e (.st 0 (zz:=?_))
 refine .done (.seq (.sr ?_))
 refine .x .fa ?_
 refine .x (.ld 4) ?_
 refine .x .ln ?_
 refine .i ?_ (z:=add_in (by omega) (by omega))
 refine .m ?_
 refine .done ?_
 refine Tc.ofSc (fun Hx hs tmps hr=> ?_)
 obtain⟨X,hX⟩:∃X:Fk,X=⟨ch.m+1,b5,b6,bC,204,211,GIc ch⟩:=⟨_,rfl⟩
 have x1:=hs.get (i:=0) rfl
 have x2:=hs.get (i:=1) rfl
 have x3:=hs.get (i:=2) rfl
 have x4:=hs.get (i:=3) rfl
 have x5:=hs.get (i:=4) rfl
 have hnd: [b7,bC,b6,b5,b1].Nodup:=hs.nodup
 simp only[List.nodup_cons,List.mem_cons,List.not_mem_nil,or_false,not_or,not_false_eq_true,List.nodup_nil,and_true] at hnd
 obtain⟨⟨n1,n2,n3,n4⟩,⟨n5,n6,n7⟩,⟨n8,n9⟩,n10⟩:=hnd
 have o1:=hs.out _ (List.mem_cons_self)
 have hout:∀y,y=bC∨y=b5∨y=b6→H y=none:=by
   rintro y (rfl|rfl|rfl)
   · exact hs.out _ (List.mem_cons_of_mem _ List.mem_cons_self)
   · exact hs.out _ (List.mem_cons_of_mem _ (List.mem_cons_of_mem _ (List.mem_cons_of_mem _ List.mem_cons_self)))
   · exact hs.out _ (List.mem_cons_of_mem _ (List.mem_cons_of_mem _ List.mem_cons_self))
 have hle:H.le (View.beside X Hx):=fun b y hb=> by
   have e:∀z,z=bC∨z=b5∨z=b6→b≠z:=fun z hz e=> by subst e;rw[hout b hz] at hb;cases hb
   rw[beside_some (by subst hX;exact e _ (.inl rfl)) (by subst hX;exact e _ (.inr (.inl rfl))) (by subst hX;exact e _ (.inr (.inr rfl)))]
   exact hs.base _ _ hb
 have y1:View.beside X Hx b1=some (true,.cells ⟨(ch.val lb lo lc ac A).cells.toList⟩ 146 (0,0)):=by
   subst hX;rw[beside_some (by exact Ne.symm n7) (by exact Ne.symm n10) (by exact Ne.symm n9)];exact x5
 have y7:View.beside X Hx b7=some (true,.cells ⟨[.map (some bC)]⟩ 212 (0,0)):=by
   subst hX;rw[beside_some n1 n3 n2];exact x1
 obtain⟨Fin,hF⟩:∃Fin:Goroutine→Prop,Fin=fun g=> ∀o',X.GI (fun i=> decide (i<X.n)) o'→T (Mp Tryz.prog) St ((View.beside X Hx).put X.C (true,o')) g:=⟨_,rfl⟩
 have hcF:Cl Tryz.prog true noSh Fin:=⟨fun g g' hs h hf=> by
   subst hF
   exact fun o' ho=> .step ⟨hs,fun w hw hok=> ⟨g',w,#[],_,h w (fun _ _ e=> by cases e),.refl hw,hf o' ho⟩⟩⟩
 have hne:X.Mu≠X.Wg:=by subst hX;exact Ne.symm n8
 refine T.phase (Po:=fun H' g'=> T (Mp Tryz.prog) St H' g') (Ph.begin X Fin (.map #[] 0) (by subst hX;exact⟨by show 0<ch.m+1;omega,by show ch.m+1≤6;omega⟩) ⟨hne,by subst hX;exact Ne.symm n6,by subst hX;exact Ne.symm n5⟩ (by subst hX;exact x2) (by subst hX;exact x4) (by subst hX;exact x3) (by subst hX;exact⟨_,_,rfl,MapOk.nil.congr fun a b=> by unfold wF;simp⟩) (fun k=> ?_) (fun o' g' ho hf=> by subst hF;exact hf o' ho)) (fun H' g' hp=> hp)
 have hst:StAt X ch (ro (View.beside X Hx)) b1 b7 lb lo lc ac A:=
   ⟨hne,hg,by subst hX;rfl,hA.of (fun b f o h=> ⟨false,ro_some (hle _ _ h)⟩),⟨false,ro_some y1⟩,by subst hX;exact⟨false,ro_some y7⟩,hG.of (fun b f o h=> ⟨false,ro_some (hle _ _ h)⟩),ro_none beside_none.2.2,by subst hX;rfl⟩
 have hfin:∀(R:Rg),AllIn (rgS X ch b1 b7 (ch.m+1)) R→∀k (H:View),Sc (Jm Tryz.prog X Fin k .wd (ch.m+1) H) 35 b120 (c::cs) R [] [.code T120]:=by
   intro R hR k Hk
   refine Sc.drop hR ?_
   unfold rgS
   refine .sq (.rg rfl rfl ?_)
   refine So.callD rfl rfl rfl nofun rfl (.mk' rfl) rfl (wait_c hcF hne) ?_
   rintro v J' ⟨rfl,rfl⟩
   subst hF
   refine So.all (fun o' ho'=> ?_)
   have hGI:X.GI=GIc ch:=by subst hX;rfl
   rw[hGI] at ho'
   obtain⟨es,cl,rfl,hm⟩:=ho'
   have hX2:X.n=ch.m+1:=by subst hX;rfl
   have z1:(View.beside X Hx).put X.C (true,.map es cl) b1=some (true,.cells ⟨(ch.val lb lo lc ac A).cells.toList⟩ 146 (0,0)):=by
     rw[View.put_other _ _ (by subst hX;exact Ne.symm n7)];exact y1
   have z7:(View.beside X Hx).put X.C (true,.map es cl) b7=some (true,.cells ⟨[.map (some X.C)]⟩ 212 (0,0)):=by
     rw[View.put_other _ _ (by subst hX;exact n1)];subst hX;exact y7
   have zC:(View.beside X Hx).put X.C (true,.map es cl) X.C=some (true,.map es cl):=View.put_same ..
   have zle:H.le ((View.beside X Hx).put X.C (true,.map es cl)):=fun b y hb=> by
     rw[View.put_other _ _ (by rintro rfl;subst hX;rw[hout bC (.inl rfl)] at hb;cases hb)]
     exact hle _ _ hb
   generalize (View.beside X Hx).put X.C (true,.map es cl)=H2 at z1 z7 zC zle
   refine So.ofTo (SymSt.nil H2) ?_
   refine .done (.sr ?_)
   refine .x .fa ?_
   refine .x .l0 ?_
   refine .x .ln ?_
   refine .i ?_ (z:=add_in (by omega) (by omega))
   refine .x .mf ?_
   refine .c rfl rfl rfl rfl (fun H hs=> .f ca104 rfl (first_c _ H (ch.m+1) _ ch.isBad (by omega) (bad_asks _ H ch b7 X.C es cl X.n true true hX2 (hs.base _ _ z7) (hs.base _ _ zC) hm))) ?_
   refine .m ?_
   refine .x .et ?_
   refine .x .et ?_
   refine .g ?_
   refine .g ?_
   refine .done (.seq ?_)
   have hsec:=ch.sec_le
   have hfull:=fun r (hr:FindOk es.toList (.int .i64 (ch.sec:Nat)) r)=> wF_full hX2 hm hsec hr
   refine Tc.dr [] [] mixed rfl ?_
   refine .q 0 rfl .mv ?_
   refine .q 1 rfl .l0 ?_
   refine .q 2 rfl .mv ?_
   refine .q 3 rfl (OpV.lookup (E:=en) (v:=.int .i64 ((ch.bad ch.sec).getD 0)) 1 rfl rfl rfl (fun H hs=> ⟨_,hs.base _ _ zC⟩) rfl rfl rfl (by decide) (int_key _) (wF_keys hm) (fun r hr=> by have:=hfull r hr;cases hb:ch.bad ch.sec with|none=> rw[hb] at this;subst this;rfl|some z=> rw[hb] at this;obtain⟨j,rfl⟩:=this;rfl)) ?_
   refine .q 4 rfl .mv ?_
   refine .q 5 rfl .sg ?_
   refine .q 6 rfl .sg ?_
   refine .q 7 rfl .sg ?_
   refine Ta.done (by kernel_rfl) ?_
   refine .rt hK Tryz.func120 Tryz.results120 [_,_,_] ?_
   exact fun H' hs=> ⟨View.le_trans zle hs.base,rfl⟩
 refine Sc.block Jm.cl (Sc.loop Jm.cl ?_) tmps hr
 have h0:0<X.n:=by subst hX;show 0<ch.m+1;omega
 have hgo:=start_loop hfin (ch.m+1) 0 k (ro (View.beside X Hx)) (by omega) hst
 simp only[if_pos h0] at hgo
 subst hX
 exact hgo _ (by unfold rgS;refine⟨rfl,?_⟩;refine⟨rfl,?_⟩;refine⟨rfl,?_⟩;refine⟨rfl,?_⟩;refine⟨rfl,?_⟩;refine⟨rfl,?_⟩;refine⟨rfl,?_⟩;refine⟨rfl,?_⟩;refine⟨rfl,?_⟩;exact trivial)
end
end Go.Proofs.YtpdaenfglbgfkaaGreatDoor
end
section
namespace Go.Proofs.YtpdaenfglbgfkaaGreatDoor
open Go.RL
set_option maxRecDepth 10000
set_option maxHeartbeats 4000000
def cmpI(a b:Int):Int:=if a<b then -1 else if b<a then 1 else 0
def cmpL:List Int→List Int→Int
 | [],[]=> 0
 | [],_::_=> -1
 | _::_,[]=> 1
 | a::l,b::m=> if cmpI a b=0 then cmpL l m else cmpI a b
theorem cmpL_step {l m:List Int}{j:Nat}(h1:j<l.length)(h2:j<m.length):cmpL (l.drop j) (m.drop j)=if cmpI (l[j]?.getD 0) (m[j]?.getD 0)=0 then cmpL (l.drop (j+1)) (m.drop (j+1)) else cmpI (l[j]?.getD 0) (m[j]?.getD 0):=by
 rw[List.drop_eq_getElem_cons h1,List.drop_eq_getElem_cons h2,List.getElem?_eq_getElem h1,List.getElem?_eq_getElem h2]
 rfl
section
variable(M:Md Tryz.prog)(H:View)
theorem isNaN_c(x:Int):CallT M 189 #[.int .i64 x] H (fun v H'=> H.le H'∧v=.bool false):=by
 refine CallT.enter (vs:= [.int .i64 x]) Tryz.func189 rfl Tryz.ntmps189 (Nat.le_of_ble_eq_true rfl) (SymSt.nil _) fun St c cs hK=> ?_
 refine .sr ?_
 refine .g ?_
 refine .done (.sr ?_)
 refine .m ?_
 refine .m ?_
 refine .i ?_ (z:=neq_f (by omega))
 refine .g ?_
 refine .done ?_
 refine .rt hK Tryz.func189 Tryz.results189 [_] ?_
 exact fun H' hs=> ⟨hs.base,rfl⟩
theorem cmp_c(a b:Int):CallT M 159 #[.int .i64 a,.int .i64 b] H (fun v H'=> H.le H'∧v=.int .i64 (cmpI a b)):=by
 refine CallT.enter (vs:= [.int .i64 a,.int .i64 b]) Tryz.func159 rfl Tryz.ntmps159 (Nat.le_of_ble_eq_true rfl) (SymSt.nil _) fun St c cs hK=> ?_
 refine .sr ?_
 refine .g ?_
 refine .done (.sr ?_)
 refine .m ?_
 refine .c rfl rfl rfl rfl (fun H hs=> .f ca189 rfl (isNaN_c M H a)) ?_
 refine .g ?_
 refine .done (.sr ?_)
 refine .m ?_
 refine .c rfl rfl rfl rfl (fun H hs=> .f ca189 rfl (isNaN_c M H b)) ?_
 refine .g ?_
 refine .done (.seq (.sr ?_))
 refine .m ?_
 refine .done (.ff rfl (.skip (.seq (.sr ?_))))
 refine .m ?_
 refine .done (.ff rfl (.skip (.seq (.seq ?_))))
 by_cases c1:a<b
 · have e:cmpI a b= -1:=if_pos c1
   refine .r ?_
   refine .m ?_
   refine .m ?_
   refine .i ?_ (z:=lss_t (by omega))
   refine .done (.tt rfl (.sr ?_))
   refine .g ?_
   refine .done ?_
   refine .rt hK Tryz.func159 Tryz.results159 [_] ?_
   exact fun H' hs=> ⟨hs.base,by rw[e];rfl⟩
 · by_cases c2:b<a
   · have e:cmpI a b=1:=by unfold cmpI;rw[if_neg c1,if_pos c2]
     refine .r ?_
     refine .m ?_
     refine .m ?_
     refine .i ?_ (z:=lss_f (by omega))
     refine .done (.ff rfl (.skip (.seq (.sr ?_))))
     refine .m ?_
     refine .m ?_
     refine .i ?_ (z:=gtr_t (by omega))
     refine .done (.tt rfl (.sr ?_))
     refine .g ?_
     refine .done ?_
     refine .rt hK Tryz.func159 Tryz.results159 [_] ?_
     exact fun H' hs=> ⟨hs.base,by rw[e];rfl⟩
   · have e:cmpI a b=0:=by unfold cmpI;rw[if_neg c1,if_neg c2]
     refine .r ?_
     refine .m ?_
     refine .m ?_
     refine .i ?_ (z:=lss_f (by omega))
     refine .done (.ff rfl (.skip (.seq (.sr ?_))))
     refine .m ?_
     refine .m ?_
     refine .i ?_ (z:=gtr_f (by omega))
     refine .done (.ff rfl (.skip (.sr ?_)))
     refine .g ?_
     refine .done ?_
     refine .rt hK Tryz.func159 Tryz.results159 [_] ?_
     exact fun H' hs=> ⟨hs.base,by rw[e];rfl⟩
theorem Compare_c(A B:Option Addr)(l m:List Int)(n k ca cb:Nat)(hn:n=l.length)(hk:k=m.length)(h6:n≤1000)(hk6:k≤1000)(hA:Nums H A l)(hB:Nums H B m):CallT M 119 #[.slice A n ca,.slice B k cb] H (fun v H'=> H.le H'∧v=.int .i64 (cmpL l m)):=by
 refine CallT.enter (vs:= [.slice A n ca,.slice B k cb]) Tryz.func119 rfl Tryz.ntmps119 (Nat.le_of_ble_eq_true rfl) (SymSt.nil _) fun St c cs hK=> ?_
 refine .sr ?_
 refine .g ?_
 refine .done (.seq (.sr ?_))
 refine .m ?_
 refine .x .ln ?_
 refine .m ?_
 refine .done (.block ?_)
 refine Tc.db (Tc.loopInv (σ:= { j:Nat//j≤n∧j≤k∧cmpL (l.drop j) (m.drop j)=cmpL l m }) (fun j=> ([(0,.slice A n ca),(1,.slice B k cb),(4,.int .i64 0),(9,.slice A n ca),(10,.int .i64 (n:Nat)),(11,.int .i64 (j.1:Nat))],[])) (fun j=> n-j.1) ?_ ⟨0,by omega,by omega,rfl⟩)
 rintro⟨j,hj,hjk,hcm⟩ ih
 show Tc M St _ _ _ _ [(0,.slice A n ca),(1,.slice B k cb),(4,.int .i64 0),(9,.slice A n ca),(10,.int .i64 (n:Nat)),(11,.int .i64 (j:Nat))] [] _ _
 by_cases c1:j=n
 · subst c1
   rw[List.drop_eq_nil_of_le (by omega)] at hcm
   by_cases c2:j<k
   · have e:cmpL l m= -1:=by
       rw[←hcm,List.drop_eq_getElem_cons (by omega)]
       rfl
     refine .sr ?_
     refine .i ?_ (z:=lss_f (by omega))
     refine .done (.seq (.ff rfl (.exit rfl (.seq (.sr ?_)))))
     refine .m ?_
     refine .x .ln ?_
     refine .m ?_
     refine .x .ln ?_
     refine .i ?_ (z:=lss_t (by omega))
     refine .done (.tt rfl (.sr ?_))
     refine .g ?_
     refine .done ?_
     refine .rt hK Tryz.func119 Tryz.results119 [_] ?_
     exact fun H' hs=> ⟨hs.base,by rw[e];rfl⟩
   · have e:cmpL l m=0:=by
       rw[←hcm,List.drop_eq_nil_of_le (by omega)]
       rfl
     refine .sr ?_
     refine .i ?_ (z:=lss_f (by omega))
     refine .done (.seq (.ff rfl (.exit rfl (.seq (.sr ?_)))))
     refine .m ?_
     refine .x .ln ?_
     refine .m ?_
     refine .x .ln ?_
     refine .i ?_ (z:=lss_f (by omega))
     refine .done (.ff rfl (.skip (.sr ?_)))
     refine .g ?_
     refine .done ?_
     refine .rt hK Tryz.func119 Tryz.results119 [_] ?_
     exact fun H' hs=> ⟨hs.base,by rw[e];rfl⟩
 · have c2:j<n:=by omega
   rcases hA with hA|⟨a1,a2,a3,a4,a5,a6,rfl,a7,a8⟩
   · rw[hA] at hn;simp at hn;omega
   have f1:=a8 j (by omega)
   by_cases c3:j=k
   · have e:cmpL l m=1:=by
       have em:m.drop j= []:=List.drop_eq_nil_of_le (by omega)
       rw[←hcm,em,List.drop_eq_getElem_cons (by omega)]
       rfl
     refine .sr ?_
     refine .i ?_ (z:=lss_t (by omega))
     refine .done (.seq (.tt rfl (.skip (.seq (.block (.sr ?_))))))
     refine .m ?_
     refine .x .ia ?_
     refine .x .l0 ?_
     refine .g ?_
     refine .g ?_
     refine .done (.seq (.sr ?_))
     refine .m ?_
     refine .m ?_
     refine .x .ln ?_
     refine .i ?_ (z:=geq_t (by omega))
     refine .done (.tt rfl (.sr ?_))
     refine .g ?_
     refine .done ?_
     refine .rt hK Tryz.func119 Tryz.results119 [_] ?_
     exact fun H' hs=> ⟨hs.base,by rw[e];rfl⟩
   · have c4:j<k:=by omega
     rcases hB with hB|⟨b1,b2,b3,b4,b5,b6,rfl,b7,b8⟩
     · rw[hB] at hk;simp at hk;omega
     have f2:=b8 j (by omega)
     have hst:=cmpL_step (l:=l) (m:=m) (j:=j) (by omega) (by omega)
     rw[hcm] at hst
     by_cases c5:cmpI (l[j]?.getD 0) (m[j]?.getD 0)=0
     · rw[if_pos c5] at hst
       refine .sr ?_
       refine .i ?_ (z:=lss_t (by omega))
       refine .done (.seq (.tt rfl (.skip (.seq (.block (.sr ?_))))))
       refine .m ?_
       refine .x .ia ?_
       refine .x .l0 ?_
       refine .g ?_
       refine .g ?_
       refine .done (.seq (.sr ?_))
       refine .m ?_
       refine .m ?_
       refine .x .ln ?_
       refine .i ?_ (z:=geq_f (by omega))
       refine .done (.ff rfl (.skip (.sr ?_)))
       refine .m ?_
       refine .m ?_
       refine .x .ia ?_
       refine .x .l0 ?_
       refine .g ?_
       refine .done (.sr ?_)
       refine .m ?_
       refine .m ?_
       refine .c rfl rfl rfl rfl (fun H hs=> .f ca159 rfl (CallT.is (.int .i64 0) (by rewrite [c5];rfl) (cmp_c M H (l[j]?.getD 0) (m[j]?.getD 0)))) ?_
       refine .g ?_
       refine .done (.sr ?_)
       refine .m ?_
       refine .i ?_ (z:=neq_f (by omega))
       refine .done (.ff rfl (.skip (.inBlock (.r ?_))))
       refine .i ?_ (z:=add_in (by omega) (by omega))
       refine .m ?_
       refine .done ?_
       exact Tc.db (ih ⟨j+1,by omega,by omega,hst.symm⟩ (by simp only;omega))
     · rw[if_neg c5] at hst
       refine .sr ?_
       refine .i ?_ (z:=lss_t (by omega))
       refine .done (.seq (.tt rfl (.skip (.seq (.block (.sr ?_))))))
       refine .m ?_
       refine .x .ia ?_
       refine .x .l0 ?_
       refine .g ?_
       refine .g ?_
       refine .done (.seq (.sr ?_))
       refine .m ?_
       refine .m ?_
       refine .x .ln ?_
       refine .i ?_ (z:=geq_f (by omega))
       refine .done (.ff rfl (.skip (.sr ?_)))
       refine .m ?_
       refine .m ?_
       refine .x .ia ?_
       refine .x .l0 ?_
       refine .g ?_
       refine .done (.sr ?_)
       refine .m ?_
       refine .m ?_
       refine .c rfl rfl rfl rfl (fun H hs=> .f ca159 rfl (cmp_c M H (l[j]?.getD 0) (m[j]?.getD 0))) ?_
       refine .g ?_
       refine .done (.sr ?_)
       refine .m ?_
       refine .i ?_ (z:=neq_t (by omega))
       refine .done (.tt rfl (.sr ?_))
       refine .m ?_
       refine .g ?_
       refine .done ?_
       refine .rt hK Tryz.func119 Tryz.results119 [_] ?_
       exact fun H' hs=> ⟨hs.base,by rw[hst];rfl⟩
end
theorem Weak_c(H:View)(ch:Ch)(lb lo lc ac:Nat)(A:Option Addr)(hA:ChAt H ch lb lo lc A)(hg:ch.Good)(hG:Glob H):
   CallT (Mp Tryz.prog) 58 #[ch.val7 lb lo lc,.slice A ch.m ac] H (fun v H'=> H.le H'∧v=.tuple ⟨[.int .i64 (ch.sec:Nat),.int .i64 ((ch.bad ch.sec).getD 0),.bool ch.first.isSome,.int .i64 0]⟩):=by
 refine CallT.enter (vs:= [ch.val7 lb lo lc,.slice A ch.m ac]) Tryz.func58 rfl Tryz.ntmps58 (Nat.le_of_ble_eq_true rfl) (SymSt.nil _) fun St c cs hK=> ?_
 refine .sr ?_
 refine .e (.bx (zz:=fun b2=> ?_))
 refine .g ?_
 refine .g ?_
 refine .g ?_
 refine .g ?_
 refine .done (.sr ?_)
 refine .x (.ld 0) ?_
 refine .m ?_
 refine .c rfl rfl rfl rfl (fun H hs=> .f ca121 rfl (openChain_good _ H ch lb lo lc ac A (hA.le hs.base) hg (glob_le hG hs.base))) ?_
 refine .m ?_
 refine .x .et ?_
 refine .x .et ?_
 refine .e (.al (zz:=fun b8=> ?_))
 refine .e (.st 0 (zz:=?_))
 refine .g ?_
 refine .done (.seq (.sr ?_))
 refine .m ?_
 refine .i ?_ (z:=neq_f (by omega))
 refine .done (.ff rfl (.skip (.sr ?_)))
 refine .x (.ld 0) ?_
 refine .c rfl rfl rfl rfl (fun H hs=> .f ca120 rfl (chainWeak_c H ch lb lo lc ac A (hA.le hs.base) hg (glob_le hG hs.base))) ?_
 refine .m ?_
 refine .x .et ?_
 refine .x .et ?_
 refine .x .et ?_
 refine .g ?_
 refine .g ?_
 refine .g ?_
 refine .done (.sr ?_)
 refine .m ?_
 refine .m ?_
 refine .m ?_
 refine .g ?_
 refine .g ?_
 refine .g ?_
 refine .g ?_
 refine .done ?_
 refine .rt hK Tryz.func58 Tryz.results58 [_,_,_,_] ?_
 exact fun H' hs=> ⟨hs.base,rfl⟩
end Go.Proofs.YtpdaenfglbgfkaaGreatDoor
end
section
namespace Go.Proofs.YtpdaenfglbgfkaaGreatDoor
open Go.RL
set_option maxRecDepth 10000
set_option maxHeartbeats 4000000
def Lk.seen(k:Lk)(c:Nat):Nat:=((List.range 128).filter (k.sees c)).length
def Lk.claim(k:Lk)(c:Nat):Int:=if k.sees c (rightN c) then(if k.seen c=1 then 1 else 0) else 2
theorem rightTo_lt:∀c:Nat,c<32→rightN c<128:=by decide +kernel
theorem nodup_le {α:Type} [DecidableEq α]:∀ {l m:List α},l.Nodup→(∀x∈l,x∈m)→l.length≤m.length
 | [],_,_,_=> by simp
 | x::l,m,h1,h2=> by
   obtain⟨h3,h4⟩:=List.nodup_cons.1 h1
   have hx:=h2 x List.mem_cons_self
   have h5:=nodup_le (m:=m.erase x) h4 fun y hy=> (List.mem_erase_of_ne (by rintro rfl;exact h3 hy)).2 (h2 y (List.mem_cons_of_mem _ hy))
   have h6:=List.length_erase_of_mem hx
   have h7:=List.length_pos_of_mem hx
   simp only[List.length_cons]
   omega
theorem seen_size {K:Nat→Bool}{es:Array MapEntry}{cl:Nat}(h:MapOk es cl (vF K)):es.size=((List.range 128).filter K).length:=by
 classical
 have e1:es.size=(es.toList.map (·.key)).length:=by simp
 have e2:((List.range 128).filter K).length=(((List.range 128).filter K).map fun u=> Value.int .u8 (u:Nat)).length:=by simp
 rw[e1,e2]
 refine Nat.le_antisymm (nodup_le h.keys fun x hx=> ?_) (nodup_le ?_ fun x hx=> ?_)
 · obtain⟨e,he,rfl⟩:=List.mem_map.1 hx
   obtain⟨_,u,h1,h2,h3⟩:=(h.mem e.key e.val).2 ⟨e,he,rfl,rfl⟩
   exact List.mem_map.2 ⟨u,List.mem_filter.2 ⟨List.mem_range.2 h1,h3⟩,h2.symm⟩
 · rw[List.nodup_iff_pairwise_ne,List.pairwise_map]
   refine List.Pairwise.imp ?_ (List.Pairwise.filter K (List.nodup_iff_pairwise_ne.1 List.nodup_range))
   intro a b hab e
   simp only[Value.int.injEq,true_and,Int.natCast_inj] at e
   exact hab e
 · obtain⟨u,hu,rfl⟩:=List.mem_map.1 hx
   obtain⟨h1,h2⟩:=List.mem_filter.1 hu
   obtain⟨e,he,h3,_⟩:=(h.mem (.int .u8 (u:Nat)) (.bool true)).1 ⟨rfl,u,List.mem_range.1 h1,rfl,h2⟩
   exact List.mem_map.2 ⟨e,he,h3⟩
def PastT(o:Option (Int×Int×Int×List Int))(H:View)(v:Value)(H':View):Prop:=H.le H'∧
 match o with
 | none=> v=.tuple ⟨[.agg ⟨[.int .i64 0,.int .i64 0,.int .i64 0,.slice none 0 0]⟩,.bool false,.int .i64 0]⟩
 | some (s,r,n,mv)=> ∃g:Gl 3 1,v=.tuple ⟨[pastV s r n g,.bool true,.int .i64 0]⟩∧g.l=intsL mv∧∀y∈g.bl,H' y.1=some y.2∧H y.1=none
section
variable(M:Md Tryz.prog)(H:View)
theorem open_n(k:Lk)(code:Nat)(hG:Glob H)(hk:k.ok=true)(hc:code<32):CallT M 89 #[k.val,.int .i64 code] H (fun v H'=> H.le H'∧∃x:Nat×Nat×List Value,v=.tuple ⟨[k.val,letN code x,.int .i64 0]⟩∧True∧∀y∈letB code x,H' y.1=some y.2∧H y.1=none):=
 CallT.mono (open_yes M H k code hG hk hc) (by
   rintro v H' ⟨h2,g,rfl,⟨h3,h4⟩,h5⟩
   obtain⟨b,hb⟩:=gl_some g (by rw[h3];exact(places_in code hc).1)
   refine⟨h2,(b,g.cap,g.junk),?_,trivial,fun y hy=> h5 y ?_⟩
   · unfold letterV letN Gl.val
     rw[hb,h3]
     rfl
   · unfold Gl.bl
     rw[hb,h4]
     exact hy)
theorem Wrong_c(k:Lk)(code:Nat)(hG:Glob H)(hk:k.ok=true)(hc:code<32):CallT M 28 #[k.val,.int .i64 code] H (PastT (k.wrong code) H):=by
 refine CallT.enter (vs:= [k.val,.int .i64 code]) Tryz.func28 rfl Tryz.ntmps28 (Nat.le_of_ble_eq_true rfl) (SymSt.nil _) fun St c cs hK=> ?_
 refine .sr ?_
 refine .e (.bx (zz:=fun b2=> ?_))
 refine .e (.al (zz:=fun b4=> ?_))
 refine .g ?_
 refine .g ?_
 refine .done (.sr ?_)
 refine .x (.ld 1) ?_
 refine .m ?_
 refine .e (Or.callNew (fun x=> .tuple ⟨[k.val,letN code x,.int .i64 0]⟩) (letB code) (fun _=> True) rfl rfl rfl rfl rfl (by decide) (letB_nodup code) (fun H hs=> .f ca89 rfl (open_n M H k code (glob_le hG hs.base) hk hc)) (fun x hx=> ?_))
 refine .m ?_
 refine .x .et ?_
 refine .x .et ?_
 refine .x .et ?_
 refine .e (.al (zz:=fun b7=> ?_))
 refine .e (.al (zz:=fun b8=> ?_))
 refine .e (.st 1 (zz:=?_))
 refine .e (.st 0 (zz:=?_))
 refine .g ?_
 refine .done (.seq (.sr ?_))
 refine .m ?_
 refine .i ?_ (z:=neq_f (by omega))
 refine .done (.ff rfl (.skip (.seq ?_)))
 cases hw:k.wrong code with
 | none=>
   refine .r ?_
   refine .x (.ld 1) ?_
   refine .x (.ld 0) ?_
   refine .c rfl rfl rfl rfl (fun H hs=> .f ca100 rfl (CallT.mono (wrong_c M H k (Lk.fine hk) code x.1 x.2.1 hc (edg_of fun y hy=> hs.at_ y (by simp[hy]))) (Q':=fun v H'=> H.le H'∧v=.tuple ⟨[.agg ⟨[.int .i64 0,.int .i64 0,.int .i64 0,.slice none 0 0]⟩,.bool false]⟩) (by rintro v H' ⟨h1,h2⟩;rw[hw] at h2;exact⟨h1,h2⟩))) ?_
   refine .m ?_
   refine .x .et ?_
   refine .x .et ?_
   refine .e (.st 2 (zz:=?_))
   refine .g ?_
   refine .done (.sr ?_)
   refine .x (.ld 2) ?_
   refine .m ?_
   refine .e (.st 2 (zz:=?_))
   refine .g ?_
   refine .g ?_
   refine .done ?_
   refine Tc.retN (E:=en) hK Tryz.func28 Tryz.results28 (vs:= [_,_,_]) (by refine⟨⟨2,_,_,_,_,_,_,_,rfl,rfl,rfl,rfl⟩,?_⟩;refine⟨rfl,?_⟩;refine⟨rfl,?_⟩;exact trivial) ?_
   exact fun H' hs=> ⟨hs.base,by rw[hw];rfl⟩
 | some w=>
   obtain⟨s,r,n,mv⟩:=w
   refine .r ?_
   refine .x (.ld 1) ?_
   refine .x (.ld 0) ?_
   refine .e (Or.callNew (fun g:Gl 3 1=> .tuple ⟨[pastV s r n g,.bool true]⟩) Gl.bl (fun g=> g.l=intsL mv) rfl rfl rfl rfl rfl (by decide) gl_nodup (fun H hs=> .f ca100 rfl (CallT.mono (wrong_c M H k (Lk.fine hk) code x.1 x.2.1 hc (edg_of fun y hy=> hs.at_ y (by simp[hy]))) (by rintro v H' ⟨h1,h2⟩;rw[hw] at h2;obtain⟨g,h3,h4,h5⟩:=h2;exact⟨h1,g,h3,h4,h5⟩))) (fun g hg=> ?_))
   refine .m ?_
   refine .x .et ?_
   refine .x .et ?_
   refine .e (.st 2 (zz:=?_))
   refine .g ?_
   refine .done (.sr ?_)
   refine .x (.ld 2) ?_
   refine .m ?_
   refine .e (.st 2 (zz:=?_))
   refine .g ?_
   refine .g ?_
   refine .done ?_
   refine Tc.retN (E:=en) hK Tryz.func28 Tryz.results28 (vs:= [_,_,_]) (by refine⟨⟨2,_,_,_,_,_,_,_,rfl,rfl,rfl,rfl⟩,?_⟩;refine⟨rfl,?_⟩;refine⟨rfl,?_⟩;exact trivial) ?_
   exact fun H' hs=> ⟨hs.base,by rw[hw];exact⟨g,rfl,hg,fun y hy=> ⟨hs.at_ y (by simp[hy]),hs.out y (by simp[hy])⟩⟩⟩
theorem Right_c(k:Lk)(code:Nat)(hG:Glob H)(hk:k.ok=true)(hc:code<32):CallT M 24 #[k.val,.int .i64 code] H (fun v H'=> H.le H'∧v=.tuple ⟨[.int .i64 (k.claim code),.int .i64 0]⟩):=by
 refine CallT.enter (vs:= [k.val,.int .i64 code]) Tryz.func24 rfl Tryz.ntmps24 (Nat.le_of_ble_eq_true rfl) (SymSt.nil _) fun St c cs hK=> ?_
 refine .sr ?_
 refine .e (.bx (zz:=fun b2=> ?_))
 refine .g ?_
 refine .g ?_
 refine .done (.sr ?_)
 refine .x (.ld 0) ?_
 refine .m ?_
 refine .e (Or.callNew (fun x=> .tuple ⟨[k.val,letN code x,.int .i64 0]⟩) (letB code) (fun _=> True) rfl rfl rfl rfl rfl (by decide) (letB_nodup code) (fun H hs=> .f ca89 rfl (open_n M H k code (glob_le hG hs.base) hk hc)) (fun x hx=> ?_))
 refine .m ?_
 refine .x .et ?_
 refine .x .et ?_
 refine .x .et ?_
 refine .e (.al (zz:=fun b6=> ?_))
 refine .e (.al (zz:=fun b7=> ?_))
 refine .e (.st 1 (zz:=?_))
 refine .e (.st 0 (zz:=?_))
 refine .g ?_
 refine .done (.seq (.sr ?_))
 refine .m ?_
 refine .i ?_ (z:=neq_f (by omega))
 refine .done (.ff rfl (.skip (.seq (.sr ?_))))
 refine .x (.ld 1) ?_
 refine .x (.ld 0) ?_
 refine .e (Or.callNew (fun y:Nat×Array MapEntry×Nat=> .map (some y.1)) (fun y=> [(y.1,true,.map y.2.1 y.2.2)]) (fun y=> MapOk y.2.1 y.2.2 (vF (k.sees code))) rfl rfl rfl rfl rfl (by decide) (fun _=> by simp) (fun H hs=> .f ca90 rfl (CallT.mono (all90_c M H k (Lk.fine hk) code x.1 x.2.1 hc (edg_of fun y hy=> hs.at_ y (by simp[hy]))) (by rintro v H' ⟨h1,m,es,cl,h2,h3,h4,h5⟩;exact⟨h1,(m,es,cl),h2,h5,by simp[h3,h4]⟩))) (fun y hm=> ?_))
 refine .g ?_
 refine .done ?_
 obtain⟨m,es,cl⟩:=y
 have hrt:=rightTo_lt code hc
 have hfind:∀r,FindOk es.toList (.int .u8 (rightN code:Nat)) r→foundV (.bool false) r false=.bool (k.sees code (rightN code)):=by
   intro r hr
   have hf:=MapOk.find hm hr
   cases r with
   | none=>
     simp only at hf
     cases hse:k.sees code (rightN code) with
     | false=> rfl
     | true=> exact(hf (.bool true) ⟨rfl,rightN code,hrt,rfl,hse⟩).elim
   | some p=>
     obtain⟨j,v⟩:=p
     obtain⟨rfl,u,h1,h2,h3⟩:=hf
     simp only[Value.int.injEq,true_and,Int.natCast_inj] at h2
     subst h2
     rw[h3]
     rfl
 have hsz:=seen_size hm
 refine .block (.seq ?_)
 cases hse:k.sees code (rightN code) with
 | false=>
   rw[hse] at hfind
   have hcl:k.claim code=2:=by unfold Lk.claim;rw[hse];rfl
   refine .r ?_
   refine .m ?_
   refine .x (.ld 0) ?_
   refine .c rfl rfl rfl rfl (fun H hs=> .f ca95 rfl (right_c M H code _ hc)) ?_
   refine .x (OpV.lookup (E:=en) (v:=.bool false) 1 rfl rfl rfl (fun H hs=> ⟨true,hs.at_ (m,true,.map es cl) (by simp)⟩) rfl rfl rfl (by decide) (view_key _) (vF_keys hm) hfind) ?_
   refine .x .nt ?_
   refine .g ?_
   refine .done (.tt rfl (.sr ?_))
   refine .g ?_
   refine .g ?_
   refine .done ?_
   refine .rt hK Tryz.func24 Tryz.results24 [_,_] ?_
   exact fun H' hs=> ⟨hs.base,by rw[hcl];rfl⟩
 | true=>
   rw[hse] at hfind
   refine .r ?_
   refine .m ?_
   refine .x (.ld 0) ?_
   refine .c rfl rfl rfl rfl (fun H hs=> .f ca95 rfl (right_c M H code _ hc)) ?_
   refine .x (OpV.lookup (E:=en) (v:=.bool true) 1 rfl rfl rfl (fun H hs=> ⟨true,hs.at_ (m,true,.map es cl) (by simp)⟩) rfl rfl rfl (by decide) (view_key _) (vF_keys hm) hfind) ?_
   refine .x .nt ?_
   refine .g ?_
   refine .done (.ff rfl (.sr ?_))
   refine .m ?_
   refine .x (OpV.lenMap (E:=en) (es:=es) (cl₀:=cl) rfl rfl rfl rfl rfl (fun H hs=> ⟨true,hs.at_ (m,true,.map es cl) (by simp)⟩) rfl rfl) ?_
   by_cases h1:es.size=1
   · have hcl:k.claim code=1:=by unfold Lk.claim Lk.seen;rw[hse,←hsz,h1];rfl
     refine .i ?_ (z:=eql_t (by omega))
     refine .g ?_
     refine .done (.tt rfl (.sr ?_))
     refine .g ?_
     refine .g ?_
     refine .done ?_
     refine .rt hK Tryz.func24 Tryz.results24 [_,_] ?_
     exact fun H' hs=> ⟨hs.base,by rw[hcl];rfl⟩
   · have hcl:k.claim code=0:=by unfold Lk.claim Lk.seen;rw[hse,←hsz,if_pos rfl,if_neg h1]
     refine .i ?_ (z:=eql_f (by omega))
     refine .g ?_
     refine .done (.ff rfl (.skip (.inBlock (.sr ?_))))
     refine .g ?_
     refine .g ?_
     refine .done ?_
     refine .rt hK Tryz.func24 Tryz.results24 [_,_] ?_
     exact fun H' hs=> ⟨hs.base,by rw[hcl];rfl⟩
end
end Go.Proofs.YtpdaenfglbgfkaaGreatDoor
end
section
namespace Go.Proofs.YtpdaenfglbgfkaaGreatDoor
open Go.RL
set_option maxRecDepth 10000
set_option maxHeartbeats 4000000
theorem edge_ld(code:Nat)(x:Nat×Nat×List Value)(j:Nat)(hj:j<(placesTo code 7).length):ldL true 2 (edgeCells (placesTo code 7)++x.2.2) (0+j*2)=some (edgeV ((placesTo code 7)[j]?.getD 0) j):=by
 obtain⟨f,es,et,ez,h1,h2⟩:=edg_of (H:=View.put (fun _=> none) x.1 (true,.cells ⟨edgeCells (placesTo code 7)++x.2.2⟩ 169 (0,0))) (code:=code) (x:=x) (fun y hy=> by
   simp only[letB,List.mem_singleton] at hy
   subst hy
   exact View.put_same ..)
 rw[View.put_same] at h1
 simp only[Option.some.injEq,Prod.mk.injEq,Obj.cells.injEq,Array.mk.injEq] at h1
 obtain⟨_,rfl,_⟩:=h1
 exact h2 j hj
def placesV(l:List Nat):List Value:=l.map fun p=> .int .i64 (p:Nat)
theorem placesV_succ(l:List Nat)(j:Nat)(h:j<l.length):placesV (l.take (j+1))=placesV (l.take j)++[.int .i64 ((l[j]?.getD 0:Nat):Int)]:=by
 unfold placesV
 rw[List.take_succ_eq_append_getElem h,List.map_append,List.getElem?_eq_getElem h]
 rfl
section
variable(M:Md Tryz.prog)(H:View)
theorem Edges_c(code:Nat)(hc:code<32):CallT M 84 #[.int .i64 code] H (ToldQ (placesV (placesTo code 7)) H):=by
 refine CallT.enter (vs:= [.int .i64 code]) Tryz.func84 rfl Tryz.ntmps84 (Nat.le_of_ble_eq_true rfl) (SymSt.nil _) fun St c cs hK=> ?_
 have hp6:=(places_in code hc).2.1
 refine .sr ?_
 refine .g ?_
 refine .g ?_
 refine .done (.seq (.sr ?_))
 refine .m ?_
 refine .c rfl rfl rfl rfl (fun H hs=> .f ca141 rfl (isCode_yes M H code (by omega))) ?_
 refine .x .nt ?_
 refine .done (.ff rfl (.skip (.sr ?_)))
 refine .g ?_
 refine .done (.seq (.sr ?_))
 refine .m ?_
 refine .e (Or.callNew (letN code) (letB code) (fun _=> True) rfl rfl rfl rfl rfl (by decide) (letB_nodup code) (fun H hs=> .f ca113 rfl (letterOf_n M H code hc)) (fun x hx=> ?_))
 refine .x .fd ?_
 refine .x .ln ?_
 refine .m ?_
 refine .done (.block ?_)
 refine Tc.db (Tc.loopInv (σ:= { s:Nat×Gl 3 1//s.1≤(placesTo code 7).length∧s.2.l=placesV ((placesTo code 7).take s.1) })
   (fun s=> ([(14,.int .i64 (s.1.1:Nat)),(13,.int .i64 ((placesTo code 7).length:Nat)),(12,.slice (some ⟨x.1,0,none⟩) (placesTo code 7).length x.2.1),(4,s.1.2.val)],letB code x++s.1.2.bl)) (fun s=> (placesTo code 7).length-s.1.1) ?_ ⟨(0,Gl.nil 3 1),by simp,rfl⟩)
 rintro⟨⟨j,g⟩,g1,g2⟩ ih
 simp only at g1 g2
 have hlen:g.n=j:=by
   have h1:=g.hl
   rw[g2] at h1
   unfold placesV at h1
   rw[List.length_map,List.length_take] at h1
   omega
 show Tc M St _ _ _ _ [(14,.int .i64 (j:Nat)),(13,.int .i64 ((placesTo code 7).length:Nat)),(12,.slice (some ⟨x.1,0,none⟩) (placesTo code 7).length x.2.1),(4,g.val)] (letB code x++g.bl) _ _
 by_cases c1:j=(placesTo code 7).length
 · subst c1
   refine .sr ?_
   refine .i ?_ (z:=lss_f (by omega))
   refine .done (.seq (.ff rfl (.exit rfl (.sr ?_))))
   refine .m ?_
   refine .g ?_
   refine .g ?_
   refine .done ?_
   refine .rt hK Tryz.func84 Tryz.results84 [_,_] ?_
   exact fun H' hs=> ⟨hs.base,g,rfl,by rw[g2,List.take_length],fun y hy=> ⟨hs.at_ y (by simp[hy]),hs.out y (by simp[hy])⟩⟩
 · have c2:j<(placesTo code 7).length:=by omega
   have f1:ldL true 2 (edgeCells (placesTo code 7)++x.2.2) (0+(j:Int).toNat*2)=some (edgeV ((placesTo code 7)[j]?.getD 0) j):=by rw[show(j:Int).toNat=j by simp];exact edge_ld code x j c2
   refine .sr ?_
   refine .i ?_ (z:=lss_t (by omega))
   refine .done (.seq (.tt rfl (.skip (.seq (.block (.sr ?_))))))
   refine .x .ia ?_
   refine .x (.ld 0) ?_
   refine .e (.al (zz:=fun b6=> ?_))
   refine .e (.st 0 (zz:=?_))
   refine .done (.r ?_)
   refine .m ?_
   refine .x .fa ?_
   refine .x (.ld 0) ?_
   refine .e (.bs (zz:=fun bs=> ?_))
   refine .e (Or.append (E:=en) 3 rfl rfl rfl rfl rfl rfl rfl rfl rfl rfl rfl rfl rfl rfl rfl (fun H hs=> SrcAt.of (hs.get (i:=0) rfl) (Nat.le_of_ble_eq_true rfl)) rfl (by omega) rfl (by decide) (fun g' hn hl=> ?_))
   refine .g ?_
   refine .done (.inBlock (.r ?_))
   refine .i ?_ (z:=add_in (by omega) (by omega))
   refine .m ?_
   refine .done ?_
   exact Tc.db (ih ⟨(j+1,g'),by simp only;omega,by simp only;rw[hl,g2,placesV_succ _ _ c2];rfl⟩ (by simp only;omega))
theorem un_9:Tryz.prog.underlying 9=some .string:=by kernel_rfl
theorem Len64_0:CallT M 186 #[.int .u64 0] H (fun v H'=> H.le H'∧v=.int .i64 0):=by
 refine CallT.enter (vs:= [.int .u64 0]) Tryz.func186 rfl Tryz.ntmps186 (Nat.le_of_ble_eq_true rfl) (SymSt.nil _) fun St c cs hK=> ?_
 refine .sr ?_
 refine .g ?_
 refine .done (.seq (.sr ?_))
 refine .m ?_
 refine .i ?_ (z:=geq_f (by omega))
 refine .done (.ff rfl (.skip (.seq (.sr ?_))))
 refine .m ?_
 refine .i ?_ (z:=geq_f (by omega))
 refine .done (.ff rfl (.skip (.seq (.sr ?_))))
 refine .m ?_
 refine .i ?_ (z:=geq_f (by omega))
 refine .done (.ff rfl (.skip (.sr ?_)))
 refine .m ?_
 refine .m ?_
 refine .x .cv ?_
 refine .x (OpV.indexStr (c:=0) rfl rfl rfl un_9 (by decide) (by decide +kernel)) ?_
 refine .x .cv ?_
 refine .i ?_ (z:=by exact rfl)
 refine .g ?_
 refine .done ?_
 refine .rt hK Tryz.func186 Tryz.results186 [_] ?_
 exact fun H' hs=> ⟨hs.base,rfl⟩
theorem Len64_1:CallT M 186 #[.int .u64 1] H (fun v H'=> H.le H'∧v=.int .i64 1):=by
 refine CallT.enter (vs:= [.int .u64 1]) Tryz.func186 rfl Tryz.ntmps186 (Nat.le_of_ble_eq_true rfl) (SymSt.nil _) fun St c cs hK=> ?_
 refine .sr ?_
 refine .g ?_
 refine .done (.seq (.sr ?_))
 refine .m ?_
 refine .i ?_ (z:=geq_f (by omega))
 refine .done (.ff rfl (.skip (.seq (.sr ?_))))
 refine .m ?_
 refine .i ?_ (z:=geq_f (by omega))
 refine .done (.ff rfl (.skip (.seq (.sr ?_))))
 refine .m ?_
 refine .i ?_ (z:=geq_f (by omega))
 refine .done (.ff rfl (.skip (.sr ?_)))
 refine .m ?_
 refine .m ?_
 refine .x .cv ?_
 refine .x (OpV.indexStr (c:=1) rfl rfl rfl un_9 (by decide) (by decide +kernel)) ?_
 refine .x .cv ?_
 refine .i ?_ (z:=by exact rfl)
 refine .g ?_
 refine .done ?_
 refine .rt hK Tryz.func186 Tryz.results186 [_] ?_
 exact fun H' hs=> ⟨hs.base,rfl⟩
theorem insert_one(sv:Option Addr)(n cap:Nat)(hn:n≤1):CallT M 176 #[.slice sv n cap,.int .i64 0,.int .i64 n] H (fun v H'=> H.le H'∧v=.tuple ⟨[]⟩):=by
 refine CallT.enter (vs:= [.slice sv n cap,.int .i64 0,.int .i64 n]) Tryz.func176 rfl Tryz.ntmps176 (Nat.le_of_ble_eq_true rfl) (SymSt.nil _) fun St c cs hK=> ?_
 refine .sr ?_
 refine .m ?_
 refine .i ?_ (z:=add_in (by omega) (by omega))
 refine .g ?_
 refine .done (.block (.loop (.seq (.sr ?_))))
 refine .m ?_
 refine .m ?_
 refine .i ?_ (z:=lss_f (by omega))
 refine .done (.ff rfl (.exit rfl ?_))
 refine Tc.overN (E:=en) hK Tryz.func176 Tryz.results176 (vs:= []) (by exact trivial) ?_
 exact fun H' hs=> ⟨hs.base,rfl⟩
theorem pdq_one(sv:Option Addr)(n cap:Nat)(li:Int)(hn:n≤1):CallT M 148 #[.slice sv n cap,.int .i64 0,.int .i64 n,.int .i64 li] H (fun v H'=> H.le H'∧v=.tuple ⟨[]⟩):=by
 refine CallT.enter (vs:= [.slice sv n cap,.int .i64 0,.int .i64 n,.int .i64 li]) Tryz.func148 rfl Tryz.ntmps148 (Nat.le_of_ble_eq_true rfl) (SymSt.nil _) fun St c cs hK=> ?_
 refine .sr ?_
 refine .g ?_
 refine .done (.sr ?_)
 refine .g ?_
 refine .done (.block (.loop (.block (.sr ?_))))
 refine .m ?_
 refine .m ?_
 refine .i ?_ (z:=sub_in (by omega) (by omega))
 refine .g ?_
 refine .done (.seq (.sr ?_))
 refine .m ?_
 refine .i ?_ (z:=leq_t (by omega))
 refine .done (.tt rfl (.sr ?_))
 refine .m ?_
 refine .m ?_
 refine .m ?_
 refine .c rfl rfl rfl rfl (fun H hs=> .f ca176 rfl (insert_one M H sv n cap hn)) ?_
 refine .done ?_
 refine Tc.retN (E:=en) hK Tryz.func148 Tryz.results148 (vs:= []) (by exact trivial) ?_
 exact fun H' hs=> ⟨hs.base,rfl⟩
theorem Sort_one(sv:Option Addr)(n cap:Nat)(hn:n≤1):CallT M 92 #[.slice sv n cap] H (fun v H'=> H.le H'∧v=.tuple ⟨[]⟩):=by
 rcases(by omega:n=0∨n=1) with rfl|rfl
 · have hlen:∀H,CallT M 149 #[.int .u64 0] H (fun v H'=> H.le H'∧v=.int .i64 0):=fun H=> by
     refine CallT.enter (vs:= [.int .u64 0]) Tryz.func149 rfl Tryz.ntmps149 (Nat.le_of_ble_eq_true rfl) (SymSt.nil _) fun St c cs hK=> ?_
     refine .sr ?_
     refine .g ?_
     refine .done (.seq (.ff rfl (.skip (.sr ?_))))
     refine .m ?_
     refine .c rfl rfl rfl rfl (fun H hs=> .f ca186 rfl (Len64_0 M H)) ?_
     refine .g ?_
     refine .done ?_
     refine .rt hK Tryz.func149 Tryz.results149 [_] ?_
     exact fun H' hs=> ⟨hs.base,rfl⟩
   refine CallT.enter (vs:= [.slice sv 0 cap]) Tryz.func92 rfl Tryz.ntmps92 (Nat.le_of_ble_eq_true rfl) (SymSt.nil _) fun St c cs hK=> ?_
   refine .sr ?_
   refine .m ?_
   refine .x .ln ?_
   refine .g ?_
   refine .done (.r ?_)
   refine .m ?_
   refine .m ?_
   refine .m ?_
   refine .x .cv ?_
   refine .c rfl rfl rfl rfl (fun H hs=> .f ca149 rfl (hlen H)) ?_
   refine .c rfl rfl rfl rfl (fun H hs=> .f ca148 rfl (pdq_one M H sv 0 cap 0 (by omega))) ?_
   refine .done ?_
   refine Tc.overN (E:=en) hK Tryz.func92 Tryz.results92 (vs:= []) (by exact trivial) ?_
   exact fun H' hs=> ⟨hs.base,rfl⟩
 · have hlen:∀H,CallT M 149 #[.int .u64 1] H (fun v H'=> H.le H'∧v=.int .i64 1):=fun H=> by
     refine CallT.enter (vs:= [.int .u64 1]) Tryz.func149 rfl Tryz.ntmps149 (Nat.le_of_ble_eq_true rfl) (SymSt.nil _) fun St c cs hK=> ?_
     refine .sr ?_
     refine .g ?_
     refine .done (.seq (.ff rfl (.skip (.sr ?_))))
     refine .m ?_
     refine .c rfl rfl rfl rfl (fun H hs=> .f ca186 rfl (Len64_1 M H)) ?_
     refine .g ?_
     refine .done ?_
     refine .rt hK Tryz.func149 Tryz.results149 [_] ?_
     exact fun H' hs=> ⟨hs.base,rfl⟩
   refine CallT.enter (vs:= [.slice sv 1 cap]) Tryz.func92 rfl Tryz.ntmps92 (Nat.le_of_ble_eq_true rfl) (SymSt.nil _) fun St c cs hK=> ?_
   refine .sr ?_
   refine .m ?_
   refine .x .ln ?_
   refine .g ?_
   refine .done (.r ?_)
   refine .m ?_
   refine .m ?_
   refine .m ?_
   refine .x .cv ?_
   refine .c rfl rfl rfl rfl (fun H hs=> .f ca149 rfl (hlen H)) ?_
   refine .c rfl rfl rfl rfl (fun H hs=> .f ca148 rfl (pdq_one M H sv 1 cap 1 (by omega))) ?_
   refine .done ?_
   refine Tc.overN (E:=en) hK Tryz.func92 Tryz.results92 (vs:= []) (by exact trivial) ?_
   exact fun H' hs=> ⟨hs.base,rfl⟩
end
end Go.Proofs.YtpdaenfglbgfkaaGreatDoor
end
section
namespace Go.Proofs.YtpdaenfglbgfkaaGreatDoor
open Go.RL
set_option maxRecDepth 10000
set_option maxHeartbeats 4000000
def bitM(mask i:Nat):Bool:=mask/2 ^ i%2==1
def bitsL(mask k:Nat):List Nat:=(List.range k).filter (bitM mask)
def Ch.on(c:Ch)(l:List Nat):Ch:= { c with m:=l.length,at_:=fun i=> l[i]?.getD 0 }
def numsL(l:List Nat):List Int:=l.map fun i:Nat=> (i:Int)
def skips(l:List Nat)(best:Option (List Nat)):Bool:=match best with
 | none=> false
 | some b=> decide (b.length<l.length)||(decide (l.length=b.length)&&decide (0<cmpL (numsL l) (numsL b)))
def Ch.spotStep(c:Ch)(best:Option (List Nat))(mask:Nat):Option (List Nat):=
 if skips (bitsL mask (c.n-1)) best then best else if(c.on (bitsL mask (c.n-1))).first.isSome then best else some (bitsL mask (c.n-1))
def Ch.spotsTo(c:Ch):Nat→Option (List Nat)
 | 0=> none
 | k+1=> c.spotStep (c.spotsTo k) k
def Ch.spots(c:Ch):Option (List Nat):=c.spotsTo (2 ^ (c.n-1))
theorem bits_get {mask k i:Nat}(h:i<(bitsL mask k).length):(bitsL mask k)[i]?.getD 0<k:=by
 rw[List.getElem?_eq_getElem h]
 have:=List.getElem_mem h
 unfold bitsL at this
 exact List.mem_range.1 (List.mem_filter.1 this).1
theorem bits_mono {mask k i:Nat}(h:i+1<(bitsL mask k).length):(bitsL mask k)[i]?.getD 0<(bitsL mask k)[i+1]?.getD 0:=by
 rw[List.getElem?_eq_getElem h,List.getElem?_eq_getElem (show i<(bitsL mask k).length by omega)]
 have hp:(bitsL mask k).Pairwise (· < ·):=List.Pairwise.filter _ List.pairwise_lt_range
 exact List.pairwise_iff_getElem.1 hp i (i+1) (by omega) h (by omega)
theorem Ch.Good.on {c:Ch}(h:c.Good)(mask:Nat):(c.on (bitsL mask (c.n-1))).Good:=by
 refine⟨⟨h.ok.n0,h.ok.n4,h.ok.x,h.ok.y,h.ok.z,h.ok.u,fun i hi=> ?_,fun i hi=> bits_mono hi⟩,h.s,h.a,h.r,h.ln⟩
 have:=bits_get (mask:=mask) (k:=c.n-1) hi
 have h0:=h.ok.n0
 show(bitsL mask (c.n-1))[i]?.getD 0+1<c.n
 omega
theorem keep_bits(mask k:Nat):keepTo (bitM mask) k=placesV (bitsL mask k):=rfl
theorem places_nums(l:List Nat):placesV l=intsL (numsL l):=by
 unfold placesV intsL numsL
 rw[List.map_map]
 rfl
theorem mask_sh:∀mask:Nat,mask<8→∀i:Nat,i<3→((mask:Int)).fdiv (2 ^ (min (i:Int).toNat IntKind.i64.bits))=((mask/2 ^ i:Nat):Int)∧bitI .and .i64 ((mask/2 ^ i:Nat):Int) 1=((mask/2 ^ i%2:Nat):Int):=by decide +kernel
def SpotsQ(o:Option (List Nat))(H:View)(v:Value)(H':View):Prop:=H.le H'∧∃g:Gl 3 1,v=.tuple ⟨[g.val,.bool o.isSome,.int .i64 0]⟩∧g.l=placesV (o.getD [])∧∀y∈g.bl,H' y.1=some y.2∧H y.1=none
theorem spots_asks(M:Md Tryz.prog)(H:View)(mask k b7:Nat)(hm:mask<8)(hk:k≤3)(hb:H b7=some (true,.cells ⟨[.int .i64 (mask:Nat)]⟩ 3 (0,0))):Asks M H (.func (.func 118) #[] #[.pointer (some ⟨b7,0,none⟩)]) k (bitM mask):=fun i hi H' hle=> by
 refine FnT.of (first:= []) (captured:= [_]) ca118 rfl ?_
 have h7:=hle _ _ hb
 obtain⟨e1,e2⟩:=mask_sh mask hm i (by omega)
 have g1:shiftV .shr .i64 (mask:Int) (i:Int)=some (.int .i64 ((mask/2 ^ i:Nat):Int)):=congrArg (fun x=> some (Value.int .i64 x)) e1
 have g2:intBin .and .i64 ((mask/2 ^ i:Nat):Int) 1=some (.int .i64 ((mask/2 ^ i%2:Nat):Int)):=congrArg (fun x=> some (Value.int .i64 x)) e2
 refine CallT.enter (vs:= [.int .i64 (i:Nat),.pointer (some ⟨b7,0,none⟩)]) Tryz.func118 rfl Tryz.ntmps118 (Nat.le_of_ble_eq_true rfl) (SymSt.nil _) fun St c cs hK=> ?_
 refine .seq ?_
 by_cases h:mask/2 ^ i%2=1
 · have hb:bitM mask i=true:=by unfold bitM;rw[h];rfl
   refine .r ?_
   refine .g ?_
   refine .done (.sr ?_)
   refine .x .l0 ?_
   refine .m ?_
   refine .x .sf ?_
   refine .i ?_ (z:=by assumption)
   refine .i ?_ (z:=eql_t (by omega))
   refine .g ?_
   refine .done ?_
   refine .rt hK Tryz.func118 Tryz.results118 [_] ?_
   exact fun H2 hs=> ⟨hs.base,by rw[hb];rfl⟩
 · have hb:bitM mask i=false:=by unfold bitM;exact beq_false_of_ne h
   refine .r ?_
   refine .g ?_
   refine .done (.sr ?_)
   refine .x .l0 ?_
   refine .m ?_
   refine .x .sf ?_
   refine .i ?_ (z:=by assumption)
   refine .i ?_ (z:=eql_f (by omega))
   refine .g ?_
   refine .done ?_
   refine .rt hK Tryz.func118 Tryz.results118 [_] ?_
   exact fun H2 hs=> ⟨hs.base,by rw[hb];rfl⟩
end Go.Proofs.YtpdaenfglbgfkaaGreatDoor
end
section
namespace Go.Proofs.YtpdaenfglbgfkaaGreatDoor
open Go.RL
set_option maxRecDepth 10000
set_option maxHeartbeats 4000000
theorem gl_len {g:Gl 3 1}{l:List Nat}(h:g.l=placesV l):g.n=l.length:=by
 have:=g.hl
 rw[h] at this
 unfold placesV at this
 rw[List.length_map] at this
 omega
theorem ChAt.on {H:View}{ch:Ch}{lb lo lc:Nat}{A0:Option Addr}(h:ChAt H ch lb lo lc A0){g:Gl 3 1}{l:List Nat}(hg:g.l=placesV l)(hb:∀y∈g.bl,H y.1=some y.2):ChAt H (ch.on l) lb lo lc (g.blk.map fun b=> ⟨b,0,none⟩):=by
 refine⟨h.ln,h.lc,fun hm=> ?_⟩
 have hn:=gl_len hg
 have hm':0<l.length:=hm
 obtain⟨_|b,n,cap,gl,gj,h1,h2,h3,h4⟩:=g
 · have:=h4 rfl
   simp only at hn h2
   omega
 · refine⟨b,0,true,gl++gj,3,(0,0),rfl,hb (b,true,.cells ⟨gl++gj⟩ 3 (0,0)) (by simp[Gl.bl]),fun j hj=> ?_⟩
   simp only at hg
   subst hg
   have hj':j<l.length:=hj
   show(placesV l++gj)[0+j*1]? =_
   rw[Nat.zero_add,Nat.mul_one,List.getElem?_append_left (by unfold placesV;rw[List.length_map];exact hj')]
   unfold placesV
   rw[List.getElem?_map,List.getElem?_eq_getElem hj']
   show _=some (Value.int .i64 ((l[j]?.getD 0:Nat):Int))
   rw[List.getElem?_eq_getElem hj']
   rfl
theorem sub2(a b:Nat×Bool×Obj)(x y:Bl):([b]++y).Sublist ([a,b]++x++y):=.cons _ (.cons_cons _ (List.sublist_append_right x y))
theorem pow_bound {n:Nat}(h0:0<n)(h4:n≤4):shiftV .shl .i64 1 ((n-1:Nat):Int)=some (.int .i64 ((2 ^ (n-1):Nat):Int))∧2 ^ (n-1)≤8:=by
 rcases(by omega:n=1∨n=2∨n=3∨n=4) with rfl|rfl|rfl|rfl <;> exact⟨rfl,by decide⟩
theorem bits_len(mask k:Nat):(bitsL mask k).length≤k:=by
 have:=List.length_filter_le (bitM mask) (List.range k)
 rw[List.length_range] at this
 exact this
theorem spots_le(c:Ch):∀(k:Nat) (b:List Nat),c.spotsTo k=some b→b.length≤c.n
 | 0,b,h=> by cases h
 | k + 1,b,h=> by
   unfold Ch.spotsTo Ch.spotStep at h
   split at h
   · exact spots_le c k b h
   · split at h
     · exact spots_le c k b h
     · cases h
       have:=bits_len k (c.n-1)
       omega
theorem Spots_c(H:View)(ch:Ch)(lb lo lc:Nat)(A0:Option Addr)(hA:ChAt H ch lb lo lc A0)(hg:ch.Good)(hG:Glob H):
   CallT (Mp Tryz.prog) 54 #[ch.val7 lb lo lc] H (SpotsQ ch.spots H):=by
 refine CallT.enter (vs:= [ch.val7 lb lo lc]) Tryz.func54 rfl Tryz.ntmps54 (Nat.le_of_ble_eq_true rfl) (SymSt.nil _) fun St c cs hK=> ?_
 have hn0:=hg.ok.n0
 have hn4:=hg.ok.n4
 obtain⟨hsh,hp8⟩:=pow_bound hn0 hn4
 refine .sr ?_
 refine .e (.bx (zz:=fun b1=> ?_))
 refine .g ?_
 refine .g ?_
 refine .g ?_
 refine .done ?_
 refine Tc.scope ?_
 refine .seq (.sr ?_)
 refine .x (.ld 0) ?_
 refine .c rfl rfl rfl rfl (fun H hs=> .f ca66 rfl (CheckChain_good _ H ch lb lo lc A0 (hA.le hs.base) hg (glob_le hG hs.base))) ?_
 refine .g ?_
 refine .done (.sr ?_)
 refine .m ?_
 refine .i ?_ (z:=neq_f (by omega))
 refine .done (.ff rfl (.skip (.sr ?_)))
 refine .x .fa ?_
 refine .x (.ld 0) ?_
 refine .x .ln ?_
 refine .i ?_ (z:=sub_in (by omega) (by omega))
 refine .g ?_
 refine .done ?_
 rw[show(ch.n:Int)-1=((ch.n-1:Nat):Int) by omega]
 refine .seq ?_
 refine Tc.label ?_
 refine .seq (.sr ?_)
 refine .m ?_
 refine .x .sf ?_
 refine .m ?_
 refine .done (.block ?_)
 refine Tc.db (Tc.loopInv (σ:= { s:Nat×Gl 3 1//s.1≤2 ^ (ch.n-1)∧s.2.l=placesV ((ch.spotsTo s.1).getD []) })
   (fun s=> ([(1,.pointer (some ⟨b1,0,none⟩)),(2,s.1.2.val),(3,.bool (ch.spotsTo s.1.1).isSome),(6,.int .i64 ((ch.n-1:Nat):Int)),(22,.int .i64 ((2 ^ (ch.n-1):Nat):Int)),(23,.int .i64 (s.1.1:Nat))],[(b1,true,.cells ⟨(ch.val7 lb lo lc).cells.toList⟩ 73 (0,0))]++s.1.2.bl)) (fun s=> 2 ^ (ch.n-1)-s.1.1) ?_ ⟨(0,Gl.nil 3 1),Nat.zero_le _,rfl⟩)
 rintro⟨⟨mask,g⟩,g1,g2⟩ ih
 simp only at g1 g2
 show Tc (Mp Tryz.prog) St _ _ _ _ [(1,.pointer (some ⟨b1,0,none⟩)),(2,g.val),(3,.bool (ch.spotsTo mask).isSome),(6,.int .i64 ((ch.n-1:Nat):Int)),(22,.int .i64 ((2 ^ (ch.n-1):Nat):Int)),(23,.int .i64 (mask:Nat))] ([(b1,true,.cells ⟨(ch.val7 lb lo lc).cells.toList⟩ 73 (0,0))]++g.bl) _ _
 by_cases c1:mask=2 ^ (ch.n-1)
 · subst c1
   refine .sr ?_
   refine .i ?_ (z:=lss_f (by omega))
   refine .done (.seq (.ff rfl (.exit rfl (.sr ?_))))
   refine .m ?_
   refine .m ?_
   refine .g ?_
   refine .g ?_
   refine .g ?_
   refine .done ?_
   refine .rt hK Tryz.func54 Tryz.results54 [_,_,_] ?_
   exact fun H' hs=> ⟨hs.base,g,rfl,g2,fun y hy=> ⟨hs.at_ y (by simp[hy]),hs.out y (by simp[hy])⟩⟩
 · have c2 : mask<2 ^ (ch.n-1):=by omega
   have hgn:=gl_len g2
   refine .sr ?_
   refine .i ?_ (z:=lss_t (by omega))
   refine .done (.seq (.tt rfl (.skip (.seq (.block (.sr ?_))))))
   refine .m ?_
   refine .e (.al (zz:=fun b7=> ?_))
   refine .e (.st 0 (zz:=?_))
   refine .done (.sr ?_)
   refine .m ?_
   refine .x .mf ?_
   refine .e (Or.callNew Gl.val Gl.bl (fun g':Gl 3 1=> g'.l=keepTo (bitM mask) (ch.n-1)) rfl rfl rfl rfl rfl (by decide) gl_nodup (fun H hs=> .f ca97 rfl (keep_n _ H (ch.n-1) _ (bitM mask) (by omega) (spots_asks _ H mask (ch.n-1) b7 (by omega) (by omega) (hs.get (i:=0) rfl)))) (fun g' hg'=> ?_))
   refine .g ?_
   refine .done ?_
   rw[keep_bits] at hg'
   have hgn':=gl_len hg'
   have hbl:=bits_len mask (ch.n-1)
   have hgood:=hg.on mask
   refine .seq (.seq ?_)
   refine Tc.via2 (fun R' L'=> skips (bitsL mask (ch.n-1)) (ch.spotsTo mask)=false∧AllIn [(1,.pointer (some ⟨b1,0,none⟩)),(2,g.val),(3,.bool (ch.spotsTo mask).isSome),(6,.int .i64 ((ch.n-1:Nat):Int)),(8,g'.val),(22,.int .i64 ((2 ^ (ch.n-1):Nat):Int)),(23,.int .i64 (mask:Nat))] R'∧L'= [(b7,true,.cells ⟨[.int .i64 (mask:Nat)]⟩ 3 (0,0)),(b1,true,.cells ⟨(ch.val7 lb lo lc).cells.toList⟩ 73 (0,0))]++g.bl++g'.bl) ?_ (fun fin=> ?_)
   · rintro R' L' ⟨hsk,hR,rfl⟩
     refine Tc.dropB ?_ hR (List.Sublist.refl _)
     cases hw:(ch.on (bitsL mask (ch.n-1))).first with
     | some s=>
       have hst:ch.spotsTo (mask+1)=ch.spotsTo mask:=by
         show ch.spotStep _ mask=_
         unfold Ch.spotStep
         rw[hsk,hw]
         rfl
       refine .sr ?_
       refine .x (.ld 1) ?_
       refine .m ?_
       refine .x .bu ?_
       refine .c rfl rfl rfl rfl (fun H hs=> .f ca120 rfl (show CallT (Mp Tryz.prog) 120 #[.agg ⟨[.int .i64 ch.s0,.int .i64 ch.s1,.slice (some ⟨lb,lo,none⟩) ch.n lc,.int .i64 ch.a0,.int .i64 ch.a1,.int .i64 ch.r0,.int .i64 ch.r1,.slice (g'.blk.map fun b=> ⟨b,0,none⟩) g'.n g'.cap]⟩] H _ from by rw[hgn'];exact CallT.is (.tuple ⟨[.int .i64 ((ch.on (bitsL mask (ch.n-1))).sec:Nat),.int .i64 (((ch.on (bitsL mask (ch.n-1))).bad (ch.on (bitsL mask (ch.n-1))).sec).getD 0),.bool true]⟩) (by rewrite [hw];rfl) (chainWeak_c H (ch.on (bitsL mask (ch.n-1))) lb lo lc g'.cap _ ((hA.le hs.base).on hg' (fun y hy=> hs.at_ y (by simp[hy]))) hgood (glob_le hG hs.base)))) ?_
       refine .m ?_
       refine .x .et ?_
       refine .x .et ?_
       refine .x .et ?_
       refine .g ?_
       refine .g ?_
       refine .g ?_
       refine .done (.sr ?_)
       refine .m ?_
       refine .x .nt ?_
       refine .done (.ff rfl (.skip (.inBlock (.r ?_))))
       refine .i ?_ (z:=add_in (by omega) (by omega))
       refine .m ?_
       refine .done ?_
       have hfin:=ih ⟨(mask+1,g),by simp only;omega,by simp only[hst];exact g2⟩ (by simp only;omega)
       simp only[hst] at hfin
       exact Tc.db hfin
     | none=>
       have hst:ch.spotsTo (mask+1)=some (bitsL mask (ch.n-1)):=by
         show ch.spotStep _ mask=_
         unfold Ch.spotStep
         rw[hsk,hw]
         rfl
       refine .sr ?_
       refine .x (.ld 1) ?_
       refine .m ?_
       refine .x .bu ?_
       refine .c rfl rfl rfl rfl (fun H hs=> .f ca120 rfl (show CallT (Mp Tryz.prog) 120 #[.agg ⟨[.int .i64 ch.s0,.int .i64 ch.s1,.slice (some ⟨lb,lo,none⟩) ch.n lc,.int .i64 ch.a0,.int .i64 ch.a1,.int .i64 ch.r0,.int .i64 ch.r1,.slice (g'.blk.map fun b=> ⟨b,0,none⟩) g'.n g'.cap]⟩] H _ from by rw[hgn'];exact CallT.is (.tuple ⟨[.int .i64 ((ch.on (bitsL mask (ch.n-1))).sec:Nat),.int .i64 (((ch.on (bitsL mask (ch.n-1))).bad (ch.on (bitsL mask (ch.n-1))).sec).getD 0),.bool false]⟩) (by rewrite [hw];rfl) (chainWeak_c H (ch.on (bitsL mask (ch.n-1))) lb lo lc g'.cap _ ((hA.le hs.base).on hg' (fun y hy=> hs.at_ y (by simp[hy]))) hgood (glob_le hG hs.base)))) ?_
       refine .m ?_
       refine .x .et ?_
       refine .x .et ?_
       refine .x .et ?_
       refine .g ?_
       refine .g ?_
       refine .g ?_
       refine .done (.sr ?_)
       refine .m ?_
       refine .x .nt ?_
       refine .done (.tt rfl (.r ?_))
       refine .m ?_
       refine .g ?_
       refine .g ?_
       refine .done (.inBlock (.r ?_))
       refine .i ?_ (z:=add_in (by omega) (by omega))
       refine .m ?_
       refine .done ?_
       have hfin:=ih ⟨(mask+1,g'),by simp only;omega,by simp only[hst];exact hg'⟩ (by simp only;omega)
       simp only[hst] at hfin
       exact Tc.dropB hfin ⟨rfl,rfl,rfl,rfl,rfl,rfl,trivial⟩ (sub2 _ _ _ _)
   · have hskip:skips (bitsL mask (ch.n-1)) (ch.spotsTo mask)=true→ch.spotsTo (mask+1)=ch.spotsTo mask:=fun h=> by
       show ch.spotStep _ mask=_
       unfold Ch.spotStep
       rw[h]
       rfl
     cases hb:ch.spotsTo mask with
     | none=>
       rw[hb] at fin
       refine .r ?_
       refine .m ?_
       refine .m ?_
       refine .sk ?_
       refine .sk ?_
       refine .sk ?_
       refine .sk ?_
       refine .sk ?_
       refine .sk ?_
       refine To.skippedU rfl (by decide) rfl ?_
       refine To.skippedU rfl (by decide) rfl ?_
       refine To.skippedU rfl (by decide) rfl ?_
       refine To.skippedU rfl (by decide) rfl ?_
       refine To.skippedU rfl (by decide) rfl ?_
       refine To.skippedU rfl (by decide) rfl ?_
       refine To.skippedU rfl (by decide) rfl ?_
       refine To.skippedU rfl (by decide) rfl ?_
       refine To.skippedU rfl (by decide) rfl ?_
       refine To.skippedU rfl (by decide) rfl ?_
       refine To.skippedU rfl (by decide) rfl ?_
       refine .sk ?_
       refine .x .pk ?_
       refine .done (.ff rfl (.skip ?_))
       exact fin _ _ ⟨rfl,⟨rfl,rfl,rfl,rfl,rfl,rfl,rfl,trivial⟩,rfl⟩
     | some b=>
       rw[hb] at fin hskip g2 hgn
       have hbn:=spots_le ch mask b hb
       simp only[Option.getD_some] at g2 hgn
       rw[places_nums] at g2
       rw[places_nums] at hg'
       have hcmp:∀H',SymSt H ([(b7,true,.cells ⟨[.int .i64 (mask:Nat)]⟩ 3 (0,0)),(b1,true,.cells ⟨(ch.val7 lb lo lc).cells.toList⟩ 73 (0,0))]++g.bl++g'.bl) H'→CallT (Mp Tryz.prog) 119 #[g'.val,g.val] H' (fun v H''=> H'.le H''∧v=.int .i64 (cmpL (numsL (bitsL mask (ch.n-1))) (numsL b))):=fun H' hs=>
         Compare_c _ H' _ _ _ _ g'.n g.n g'.cap g.cap (by rw[hgn'];simp[numsL]) (by rw[hgn];simp[numsL]) (by omega) (by omega) (Nums.of hg' (fun y hy=> hs.at_ y (by simp[hy]))).2 (Nums.of g2 (fun y hy=> hs.at_ y (by simp[hy]))).2
       by_cases d1:b.length<(bitsL mask (ch.n-1)).length
       · have hst:=hskip (by unfold skips;simp[d1])
         refine .r ?_
         refine .m ?_
         refine .m ?_
         refine .m ?_
         refine .x .ln ?_
         refine .m ?_
         refine .x .ln ?_
         refine .i ?_ (z:=gtr_t (by omega))
         refine .m ?_
         refine .sk ?_
         refine .sk ?_
         refine .sk ?_
         refine .sk ?_
         refine .sk ?_
         refine .sk ?_
         refine To.skippedU rfl (by decide) rfl ?_
         refine To.skippedU rfl (by decide) rfl ?_
         refine To.skippedU rfl (by decide) rfl ?_
         refine To.skippedU rfl (by decide) rfl ?_
         refine .sk ?_
         refine .x .pk ?_
         refine .x .pk ?_
         refine .done (.tt rfl (.exit rfl (.r ?_)))
         refine .i ?_ (z:=add_in (by omega) (by omega))
         refine .m ?_
         refine .done ?_
         have hfin:=ih ⟨(mask+1,g),by simp only;omega,by simp only[hst];rw[places_nums];exact g2⟩ (by simp only;omega)
         simp only[hst] at hfin
         exact Tc.db hfin
       · by_cases d2:(bitsL mask (ch.n-1)).length=b.length
         · by_cases d3:0<cmpL (numsL (bitsL mask (ch.n-1))) (numsL b)
           · have hst:=hskip (by unfold skips;simp[d2,d3])
             refine .r ?_
             refine .m ?_
             refine .m ?_
             refine .m ?_
             refine .x .ln ?_
             refine .m ?_
             refine .x .ln ?_
             refine .i ?_ (z:=gtr_f (by omega))
             refine .m ?_
             refine .m ?_
             refine .x .ln ?_
             refine .m ?_
             refine .x .ln ?_
             refine .i ?_ (z:=eql_t (by omega))
             refine .m ?_
             refine .m ?_
             refine .m ?_
             refine .c rfl rfl rfl rfl (fun H hs=> .f ca119 rfl (hcmp H hs)) ?_
             refine .i ?_ (z:=gtr_t (by omega))
             refine .x .pk ?_
             refine .x .pk ?_
             refine .x .pk ?_
             refine .done (.tt rfl (.exit rfl (.r ?_)))
             refine .i ?_ (z:=add_in (by omega) (by omega))
             refine .m ?_
             refine .done ?_
             have hfin:=ih ⟨(mask+1,g),by simp only;omega,by simp only[hst];rw[places_nums];exact g2⟩ (by simp only;omega)
             simp only[hst] at hfin
             exact Tc.db hfin
           · have hns:skips (bitsL mask (ch.n-1)) (some b)=false:=by unfold skips;simp[d2,d3]
             refine .r ?_
             refine .m ?_
             refine .m ?_
             refine .m ?_
             refine .x .ln ?_
             refine .m ?_
             refine .x .ln ?_
             refine .i ?_ (z:=gtr_f (by omega))
             refine .m ?_
             refine .m ?_
             refine .x .ln ?_
             refine .m ?_
             refine .x .ln ?_
             refine .i ?_ (z:=eql_t (by omega))
             refine .m ?_
             refine .m ?_
             refine .m ?_
             refine .c rfl rfl rfl rfl (fun H hs=> .f ca119 rfl (hcmp H hs)) ?_
             refine .i ?_ (z:=gtr_f (by omega))
             refine .x .pk ?_
             refine .x .pk ?_
             refine .x .pk ?_
             refine .done (.ff rfl (.skip ?_))
             exact fin _ _ ⟨hns,⟨rfl,rfl,rfl,rfl,rfl,rfl,rfl,trivial⟩,rfl⟩
         · have hns:skips (bitsL mask (ch.n-1)) (some b)=false:=by unfold skips;simp[d1,d2]
           refine .r ?_
           refine .m ?_
           refine .m ?_
           refine .m ?_
           refine .x .ln ?_
           refine .m ?_
           refine .x .ln ?_
           refine .i ?_ (z:=gtr_f (by omega))
           refine .m ?_
           refine .m ?_
           refine .x .ln ?_
           refine .m ?_
           refine .x .ln ?_
           refine .i ?_ (z:=eql_f (by omega))
           refine .m ?_
           refine .sk ?_
           refine .sk ?_
           refine .sk ?_
           refine .sk ?_
           refine .x .pk ?_
           refine .x .pk ?_
           refine .x .pk ?_
           refine .done (.ff rfl (.skip ?_))
           exact fin _ _ ⟨hns,⟨rfl,rfl,rfl,rfl,rfl,rfl,rfl,trivial⟩,rfl⟩
end Go.Proofs.YtpdaenfglbgfkaaGreatDoor
end
section
namespace Go.RL
open Go.Conc
section
variable {P:Program}{M:Md P}{St:View→Goroutine→Prop}{n:Nat}{b:FB}{H₀:View}{cs:List Frame}{R:Rg}{L:Bl}{ds:List Deferred}{k:List Item}{ops:Array Oper}
end
end Go.RL
end
section
namespace Go.Proofs.YtpdaenfglbgfkaaGreatDoor
open Go.RL
set_option maxRecDepth 10000
set_option maxHeartbeats 4000000
section
variable(M:Md Tryz.prog)(H:View)
theorem elementR_c(code p:Nat)(h1:code<32)(h2:p<7):CallT M 117 #[.int .i64 code,.int .i64 (p:Nat)] H (fun v H'=> H.le H'∧v=.int .i64 (elementN code p:Nat)):=by
 refine CallT.enter (vs:= [.int .i64 code,.int .i64 (p:Nat)]) Tryz.func117 rfl Tryz.ntmps117 (Nat.le_of_ble_eq_true rfl) (SymSt.nil _) fun St c cs hK=> ?_
 by_cases c2:p=6
 · subst c2
   refine .sr ?_
   refine .g ?_
   refine .done (.seq (.sr ?_))
   refine .m ?_
   refine .i ?_ (z:=lss_f (by omega))
   refine .m ?_
   refine .m ?_
   refine .i ?_ (z:=eql_t (by omega))
   refine .x .pk ?_
   refine .done (.tt rfl (.sr ?_))
   refine .g ?_
   refine .done ?_
   refine .rt hK Tryz.func117 Tryz.results117 [_] ?_
   exact fun H' hs=> ⟨hs.base,rfl⟩
 · by_cases c1:p=0
   · subst c1
     refine .sr ?_
     refine .g ?_
     refine .done (.seq (.sr ?_))
     refine .m ?_
     refine .i ?_ (z:=lss_f (by omega))
     refine .m ?_
     refine .m ?_
     refine .i ?_ (z:=eql_f (by omega))
     refine .x .pk ?_
     refine .done (.ff rfl (.skip (.seq (.sr ?_))))
     refine .m ?_
     refine .i ?_ (z:=eql_t (by omega))
     refine .done (.tt rfl (.sr ?_))
     refine .g ?_
     refine .done ?_
     refine .rt hK Tryz.func117 Tryz.results117 [_] ?_
     exact fun H' hs=> ⟨hs.base,rfl⟩
   · have hb:=element_bits code h1 p h2 c1 c2
     have g1:shiftV .shr .i64 (code:Int) ((p:Int)-1)=some (.int .i64 (Int.fdiv (code:Int) (2 ^ (min ((p:Int)-1).toNat 64)))):=rfl
     have g2:intBin .and .i64 (Int.fdiv (code:Int) (2 ^ (min ((p:Int)-1).toNat 64))) 1=some (.int .i64 (elementN code p:Nat)):=congrArg (fun x=> some (Value.int .i64 x)) hb
     refine .sr ?_
     refine .g ?_
     refine .done (.seq (.sr ?_))
     refine .m ?_
     refine .i ?_ (z:=lss_f (by omega))
     refine .m ?_
     refine .m ?_
     refine .i ?_ (z:=eql_f (by omega))
     refine .x .pk ?_
     refine .done (.ff rfl (.skip (.seq (.sr ?_))))
     refine .m ?_
     refine .i ?_ (z:=eql_f (by omega))
     refine .done (.ff rfl (.skip (.sr ?_)))
     refine .m ?_
     refine .m ?_
     refine .i ?_ (z:=sub_in (by omega) (by omega))
     refine .x .sf ?_
     refine .i ?_ (z:=by assumption)
     refine .g ?_
     refine .done ?_
     refine .rt hK Tryz.func117 Tryz.results117 [_] ?_
     exact fun H' hs=> ⟨hs.base,rfl⟩
theorem elementB_c(code p:Nat)(h1:code<32)(h2:p<7):CallT M 117 #[.int .i64 code,.int .i64 ((p:Int)-1)] H (fun v H'=> H.le H'∧v=.int .i64 (beforeN code p:Nat)):=by
 cases p with
 | zero=>
   refine CallT.enter (vs:= [.int .i64 code,.int .i64 (((0:Nat):Int)-1)]) Tryz.func117 rfl Tryz.ntmps117 (Nat.le_of_ble_eq_true rfl) (SymSt.nil _) fun St c cs hK=> ?_
   refine .sr ?_
   refine .g ?_
   refine .done (.seq (.sr ?_))
   refine .m ?_
   refine .i ?_ (z:=lss_t (by omega))
   refine .m ?_
   refine .sk ?_
   refine .sk ?_
   refine .x .pk ?_
   refine .done (.tt rfl (.sr ?_))
   refine .g ?_
   refine .done ?_
   refine .rt hK Tryz.func117 Tryz.results117 [_] ?_
   exact fun H' hs=> ⟨hs.base,rfl⟩
 | succ q=>
   rw[show((q+1:Nat):Int)-1=(q:Nat) by omega]
   exact elementR_c M H code q h1 (by omega)
theorem EdgesOf_c(code:Nat)(hc:code<32):CallT M 52 #[.int .i64 code] H (fun v H'=> H.le H'∧∃g:Gl 3 1,v=g.val∧g.l=placesV (placesTo code 7)∧∀x∈g.bl,H' x.1=some x.2∧H x.1=none):=by
 refine CallT.enter (vs:= [.int .i64 code]) Tryz.func52 rfl Tryz.ntmps52 (Nat.le_of_ble_eq_true rfl) (SymSt.nil _) fun St c cs hK=> ?_
 refine .sr ?_
 refine .g ?_
 refine .done (.sr ?_)
 refine .g ?_
 refine .done (.seq (.sr ?_))
 refine .g ?_
 refine .done (.block ?_)
 refine Tc.db (Tc.loopInv (σ:= { s:Nat×Gl 3 1//s.1≤7∧s.2.l=placesV (placesTo code s.1) })
   (fun s=> ([(0,.int .i64 code),(3,s.1.2.val),(4,.int .i64 (s.1.1:Nat))],s.1.2.bl)) (fun s=> 7-s.1.1) ?_ ⟨(0,Gl.nil 3 1),by simp,rfl⟩)
 rintro⟨⟨p,g⟩,g1,g2⟩ ih
 simp only at g1 g2
 have hlen:g.n≤7:=by
   have h1:=g.hl
   have h2:=placesTo_len code p
   rw[g2] at h1
   unfold placesV at h1
   rw[List.length_map] at h1
   omega
 show Tc M St _ _ _ _ [(0,.int .i64 code),(3,g.val),(4,.int .i64 (p:Nat))] g.bl _ _
 by_cases c7:p=7
 · subst c7
   refine .seq (.sr ?_)
   refine .m ?_
   refine .i ?_ (z:=leq_f (by omega))
   refine .done (.ff rfl (.exit rfl (.sr ?_)))
   refine .m ?_
   refine .g ?_
   refine .done ?_
   refine .rt hK Tryz.func52 Tryz.results52 [_] ?_
   exact fun H' hs=> ⟨hs.base,g,rfl,g2,fun x hx=> ⟨hs.at_ x hx,hs.out x hx⟩⟩
 · have c8:p<7:=by omega
   refine .seq (.sr ?_)
   refine .m ?_
   refine .i ?_ (z:=leq_t (by omega))
   refine .done (.tt rfl (.skip (.seq (.block (.seq ?_)))))
   by_cases he:elementN code p=beforeN code p
   · refine .r ?_
     refine .m ?_
     refine .m ?_
     refine .c rfl rfl rfl rfl (fun H hs=> .f ca117 rfl (elementR_c M H code p hc c8)) ?_
     refine .m ?_
     refine .m ?_
     refine .i ?_ (z:=sub_in (by omega) (by omega))
     refine .c rfl rfl rfl rfl (fun H hs=> .f ca117 rfl (elementB_c M H code p hc c8)) ?_
     refine .i ?_ (z:=neq_f (by omega))
     refine .done (.ff rfl (.skip (.inBlock (.r ?_))))
     refine .m ?_
     refine .i ?_ (z:=add_in (by omega) (by omega))
     refine .g ?_
     refine .done ?_
     exact Tc.db (ih ⟨(p+1,g),by simp only;omega,by simp only[placesTo,he,if_true];exact g2⟩ (by simp only;omega))
   · refine .r ?_
     refine .m ?_
     refine .m ?_
     refine .c rfl rfl rfl rfl (fun H hs=> .f ca117 rfl (elementR_c M H code p hc c8)) ?_
     refine .m ?_
     refine .m ?_
     refine .i ?_ (z:=sub_in (by omega) (by omega))
     refine .c rfl rfl rfl rfl (fun H hs=> .f ca117 rfl (elementB_c M H code p hc c8)) ?_
     refine .i ?_ (z:=neq_t (by omega))
     refine .done (.tt rfl (.r ?_))
     refine .m ?_
     refine .m ?_
     refine .e (.bs (zz:=fun bs=> ?_))
     refine .e (Or.append (E:=en) 1 rfl rfl rfl rfl rfl rfl rfl rfl rfl rfl rfl rfl rfl rfl rfl (fun H hs=> SrcAt.of (hs.get (i:=0) rfl) (Nat.le_of_ble_eq_true rfl)) rfl (by omega) rfl (by decide) (fun g' hn hl=> ?_))
     refine .g ?_
     refine .done (.inBlock (.r ?_))
     refine .m ?_
     refine .i ?_ (z:=add_in (by omega) (by omega))
     refine .g ?_
     refine .done ?_
     exact Tc.db (ih ⟨(p+1,g'),by simp only;omega,by simp only[placesTo,he,if_false];rw[hl,g2];unfold placesV;rw[List.map_append];rfl⟩ (by simp only;omega))
end
end Go.Proofs.YtpdaenfglbgfkaaGreatDoor
end
section
namespace Go.Proofs.YtpdaenfglbgfkaaGreatDoor
open Go.RL Go.ChangeShapes Go.WideShapes Go.ChangeAt Go.RowKit
set_option maxRecDepth 100000
section
variable {H:Type}{enc:TypeId×Value→H}{P:Program}{W:World}{base:Nat}{sp:Nat→Bool}{held:Bool}
theorem trodAll_at:∀ {ts:List TypeId} {vs:List Value} {ds:List (DataW H)} {p:List MemPlace},DataW.TrodAll enc P W base sp held ts vs ds p→∀(j:Nat) t v,ts[j]? =some t→vs[j]? =some v→∃d q,DataW.Trod enc P W base sp held t v d q
 | [],_,_,_,_,_,_,_,h,_=> by simp at h
 | t ::ts,v::vs,d::ds,p,⟨a,b,h1,h2,_⟩,j,t',v',ht,hv=> by
   cases j with
   | zero=>
     simp only[List.getElem?_cons_zero,Option.some.injEq] at ht hv
     subst ht hv
     exact⟨_,_,h1⟩
   | succ j=>
     simp only[List.getElem?_cons_succ] at ht hv
     exact trodAll_at h2 j t' v' ht hv
 | _::_,[],_,_,h,_,_,_,_,_=> by cases h
 | _::_,_::_,[],_,h,_,_,_,_,_=> by cases h
end
end Go.Proofs.YtpdaenfglbgfkaaGreatDoor
end
section
namespace Go.Proofs.YtpdaenfglbgfkaaGreatDoor
open Go.RL Go.ChangeShapes Go.WideShapes Go.ChangeAt Go.RowKit
set_option maxRecDepth 100000
theorem cells3p:Tryz.prog.cellsOf 3=1:=by kernel_rfl
theorem open_i64 {W:World}{base:Nat}{v:Value}(h:Value.okWide Tryz.prog W .any base 3 v):∃x,v=.int .i64 x:=by
 unfold Value.okWide Cell.okWide Cell.ok at h
 rw[show Tryz.prog.underlying 3=some (.int .i64) by kernel_rfl] at h
 cases v with
 | int k n=>
   obtain⟨rfl,_,_⟩:=h
   exact⟨n,rfl⟩
 | _=> exact h.elim
section
variable {H:Type}{enc:TypeId×Value→H}{W:World}
theorem open_cells28 {fuel:Nat}{cs:List Value}{y:DataW H×List MemPlace}(h:DataW.trod enc Tryz.prog W 0 (fun _=> true) true fuel 28 cs=some y):
   ∃(A:Option Addr) (l:List Int) (ca:Nat),cs= [.slice A l.length ca]∧Nums (fullV W) A l:=by
 rcases open_ints (k:=.i64) Tryz.underlying28 (by kernel_rfl) cells3p h with ⟨h1,_⟩|⟨a',n,c,zs,h1,_,h3,h4,h5,_,h7,h8⟩
 · exact⟨none,[],0,h1,.inl rfl⟩
 · simp only[if_true] at h5
   have hl:(zs.take n).length=n:=by rw[List.length_take,h5];omega
   refine⟨some a',zs.take n,c,by rw[hl];exact h1,?_⟩
   cases n with
   | zero=> exact .inl (by simp)
   | succ m=>
     obtain⟨ab,ao,sp⟩:=a'
     have h0:=h7 0 (by omega)
     have hsp:sp=none:=by simpa [Addr.add] using World.cell?_spot h0
     subst hsp
     obtain⟨cs,gt,gz,e1,_⟩:=cells_of h0
     have e1':W.heap[ab]? =some (.cells cs gt gz):=by simpa [Addr.add] using e1
     refine .inr ⟨ab,ao,false,cs.toList,gt,gz,rfl,by simp only[fullV,e1',Option.map_some],fun j hj=> ?_⟩
     have hj':j<zs.length:=by omega
     have h9:=h7 j hj'
     obtain⟨cs',gt',gz',e2,e3⟩:=cells_of h9
     have eb:((⟨ab,ao,none⟩:Addr).add j).block=ab:=by unfold Addr.add;split <;> rfl
     have eo:((⟨ab,ao,none⟩:Addr).add j).off=ao+j:=by
       unfold Addr.add
       split
       · rename_i h;subst h;rfl
       · rfl
     rw[eb,e1'] at e2
     cases e2
     rw[eo] at e3
     show cs.toList[ao+(j:Int).toNat*1]? =_
     rw[Int.toNat_natCast,Nat.mul_one,Array.getElem?_toList,e3]
     have hjn:j<m+1:=by omega
     rw[List.getElem?_take_of_lt hjn,List.getD_eq_getElem?_getD]
theorem open_nums {base:Nat}{v:Value}(hv:Value.okWide Tryz.prog W .any base 28 v)(h:∃d q,DataW.Trod enc Tryz.prog W 0 (fun _=> true) true 28 v d q):
   ∃(A:Option Addr) (l:List Int) (ca:Nat),v=.slice A l.length ca∧Nums (fullV W) A l:=by
 obtain⟨a,n,c,rfl⟩:=slice_val Tryz.underlying28 hv
 obtain⟨d,q,fuel,h⟩:=h
 obtain⟨A,l,ca,h1,h2⟩:=open_cells28 h
 have hcs:(Value.slice a n c).cells.toList= [.slice a n c]:=rfl
 rw[hcs] at h1
 simp only[List.cons.injEq,and_true] at h1
 exact⟨A,l,ca,h1,h2⟩
end
end Go.Proofs.YtpdaenfglbgfkaaGreatDoor
end
section
namespace Go.Proofs.YtpdaenfglbgfkaaGreatDoor
open Go.RL
set_option maxRecDepth 10000
end Go.Proofs.YtpdaenfglbgfkaaGreatDoor
end
section
namespace Go.Proofs.YtpdaenfglbgfkaaGreatDoor
open Go.RL
set_option maxRecDepth 10000
theorem missedGo_to(pace after:Int):∀(f:Nat) (n j:Int),n≤j→j<missedGo pace after f n→(2*j+1)*pace<after
 | 0,n,j,h1,h2=> by simp[missedGo] at h2;omega
 | f + 1,n,j,h1,h2=> by
   unfold missedGo at h2
   split at h2
   · rename_i hlt
     by_cases e:j=n
     · subst e;exact hlt
     · exact missedGo_to pace after f (n+1) j (by omega) h2
   · omega
theorem missedF_to {pace after j:Int}(h0:0≤j)(h:j<missedF pace after):(2*j+1)*pace<after:=missedGo_to pace after 7 0 j h0 h
theorem missedF_iff {pace after:Int}(hp:0<pace){m:Int}(h0:0≤m)(h7:m<7):m<missedF pace after↔(2*m+1)*pace<after:=by
 constructor
 · exact missedF_to h0
 · intro h
   obtain⟨h1,h2,h3⟩:=missedF_in pace after
   by_cases e:m<missedF pace after
   · exact e
   · have h4:=h3 (by omega)
     have h5:(2*missedF pace after+1)*pace≤(2*m+1)*pace:=Int.mul_le_mul_of_nonneg_right (by omega) (by omega)
     omega
theorem missedF_mono {pace a b:Int}(hp:0<pace)(h:a≤b):missedF pace a≤missedF pace b:=by
 obtain⟨h1,h2,_⟩:=missedF_in pace a
 obtain⟨g1,g2,_⟩:=missedF_in pace b
 by_cases e:missedF pace a≤missedF pace b
 · exact e
 · have h4:=missedF_to (pace:=pace) (after:=a) g1 (by omega)
   have:=(missedF_iff (after:=b) hp g1 (by omega)).2 (by omega)
   omega
theorem optGo_all {read mt after:Int}(hr:0<read):∀(f:Nat) (n m:Int),n≤m→m≤mt→(mt+1-n).toNat≤f→∃o∈optGo read mt after f n,o.1=missedF read (after+m)∧n≤o.2∧o.2≤m
 | 0,n,m,h1,h2,h3=> by omega
 | f + 1,n,m,h1,h2,h3=> by
   unfold optGo
   rw[if_pos (by omega)]
   by_cases e:missedF read (after+m)=missedF read (after+n)
   · exact⟨_,List.mem_cons_self,e.symm,Int.le_refl _,h1⟩
   · have h4:=missedF_mono (pace:=read) hr (show after+n≤after+m by omega)
     have h5:=missedF_in read (after+n)
     have h6:=missedF_in read (after+m)
     rw[if_neg (by omega)]
     have h7:=h5.2.2 (by omega)
     have h8:=missedF_to (pace:=read) (after:=after+m) h5.1 (by omega)
     obtain⟨o,ho,h9,h10,h11⟩:=optGo_all (after:=after) hr f ((2*missedF read (after+n)+1)*read+1-after) m (by omega) h2 (by omega)
     exact⟨o,List.mem_cons_of_mem _ ho,h9,by omega,h11⟩
theorem optGo_is {read mt after:Int}:∀(f:Nat) (n:Int) (o:Int×Int),o∈optGo read mt after f n→n≤o.2∧o.2≤mt∧o.1=missedF read (after+o.2)
 | 0,n,o,h=> by cases h
 | f + 1,n,o,h=> by
   unfold optGo at h
   split at h
   · rename_i hn
     rcases List.mem_cons.1 h with rfl|h
     · exact⟨Int.le_refl _,hn,rfl⟩
     · split at h
       · cases h
       · rename_i h7
         have h5:=missedF_in read (after+n)
         obtain⟨h1,h2,h3⟩:=optGo_is f _ o h
         have:=h5.2.2 h7
         exact⟨by omega,h2,h3⟩
   · cases h
def Stg.miss(s:Stg)(i:Nat)(m:Int):Int:=if i=0 then 0 else missedF s.read (s.after (s.ps[i]?.getD 0) i+m)
def Stg.may(s:Stg)(i:Nat)(m:Int):Prop:=if i=0 then m=s.first else s.mf≤m∧m≤s.mt
theorem Stg.opts_all {s:Stg}(hr:0<s.read){i:Nat}{m:Int}(h:s.may i m):∃o∈s.opts (s.ps[i]?.getD 0) i,o.1=s.miss i m∧o.2≤m:=by
 unfold Stg.may at h
 unfold Stg.opts Stg.miss
 split at h
 · rename_i hi
   subst hi
   rw[if_pos rfl,if_pos rfl]
   exact⟨_,List.mem_cons_self,rfl,by omega⟩
 · rename_i hi
   rw[if_neg hi,if_neg hi]
   obtain⟨o,h1,h2,h3,h4⟩:=optGo_all (read:=s.read) (mt:=s.mt) (after:=s.after (s.ps[i]?.getD 0) i) hr (s.mt+1-s.mf).toNat s.mf m h.1 h.2 (Nat.le_refl _)
   exact⟨o,h1,h2,h4⟩
theorem Stg.opts_is {s:Stg}{i:Nat}{o:Int×Int}(h:o∈s.opts (s.ps[i]?.getD 0) i):s.may i o.2∧o.1=s.miss i o.2:=by
 unfold Stg.opts at h
 unfold Stg.may Stg.miss
 split at h
 · rename_i hi
   simp only[List.mem_singleton] at h
   subst h
   subst hi
   exact⟨by simp,by simp⟩
 · rename_i hi
   obtain⟨h1,h2,h3⟩:=optGo_is _ _ _ h
   rw[if_neg hi,if_neg hi]
   exact⟨⟨h1,h2⟩,h3⟩
def Stg.viewFrom(s:Stg)(i v:Nat):List Int→Nat
 | []=> v
 | m::l=> s.viewFrom (i+1) (turnedN v (s.miss i m).toNat) l
def Stg.mayAll(s:Stg)(i:Nat):List Int→Prop
 | []=> True
 | m::l=> s.may i m∧s.mayAll (i+1) l
def Stg.view(s:Stg)(mv:List Int):Nat:=s.viewFrom 0 127 mv
theorem Stg.leaves_all {s:Stg}(hr:0<s.read):∀(l:List Int) (i v:Nat) (pre:List Int),s.mayAll i l→∃x∈s.leaves l.length i v pre,x.1=s.viewFrom i v l
 | [],i,v,pre,_=> ⟨(v,pre),by simp[Stg.leaves],rfl⟩
 | m ::l,i,v,pre,h=> by
   obtain⟨o,h1,h2,_⟩:=Stg.opts_all hr h.1
   obtain⟨x,h3,h4⟩:=Stg.leaves_all hr l (i+1) (turnedN v o.1.toNat) (pre++[o.2]) h.2
   refine⟨x,?_,?_⟩
   · simp only[List.length_cons,Stg.leaves]
     exact List.mem_flatMap.2 ⟨o,h1,h3⟩
   · rw[h4,h2]
     rfl
theorem Stg.leaves_is {s:Stg}:∀(d i v:Nat) (pre:List Int) (x:Nat×List Int),x∈s.leaves d i v pre→∃l:List Int,l.length=d∧x.2=pre++l∧s.mayAll i l∧x.1=s.viewFrom i v l
 | 0,i,v,pre,x,h=> by
   simp only[Stg.leaves,List.mem_singleton] at h
   subst h
   exact⟨[],rfl,by simp,trivial,rfl⟩
 | d+1,i,v,pre,x,h=> by
   unfold Stg.leaves at h
   obtain⟨o,h1,h2⟩:=List.mem_flatMap.1 h
   obtain⟨h3,h4⟩:=Stg.opts_is h1
   obtain⟨l,h5,h6,h7,h8⟩:=Stg.leaves_is d (i+1) _ _ x h2
   refine⟨o.2::l,by simp[h5],by rw[h6];simp,⟨h3,h7⟩,?_⟩
   rw[h8,h4]
   rfl
theorem Stg.all_mem {s:Stg}(hr:0<s.read){v:Nat}:(∃x∈s.all,x.1=v)↔∃mv:List Int,mv.length=s.ps.length∧s.mayAll 0 mv∧s.view mv=v:=by
 constructor
 · rintro⟨x,hx,rfl⟩
   obtain⟨l,h1,h2,h3,h4⟩:=Stg.leaves_is _ _ _ _ _ hx
   exact⟨l,h1,h3,h4.symm⟩
 · rintro⟨mv,h1,h2,rfl⟩
   obtain⟨x,h3,h4⟩:=Stg.leaves_all hr mv 0 127 [] h2
   exact⟨x,by unfold Stg.all;rw[←h1];exact h3,h4⟩
theorem nxR_true {os:List (Int×Int)}{R:Nat→Bool}{w:Nat}:nxR os R 128 0 w=true↔∃u,u<128∧R u=true∧∃o∈os,toV u o=w:=by
 unfold nxR
 simp only[List.take_zero,List.any_nil,Bool.false_and,Bool.or_false,List.any_eq_true,List.mem_range,Bool.and_eq_true,beq_iff_eq]
 constructor
 · rintro⟨u,h1,⟨o,h2,h3⟩,h4⟩
   exact⟨u,h1,h4,o,h2,h3⟩
 · rintro⟨u,h1,h4,o,h2,h3⟩
   exact⟨u,h1,⟨o,h2,h3⟩,h4⟩
theorem Stg.viewFrom_snoc(s:Stg):∀(l:List Int) (i v:Nat) (m:Int),s.viewFrom i v (l++[m])=turnedN (s.viewFrom i v l) (s.miss (i+l.length) m).toNat
 | [],i,v,m=> rfl
 | a::l,i,v,m=> by
   show s.viewFrom (i+1) _ (l++[m])=_
   rw[Stg.viewFrom_snoc s l]
   simp only[List.length_cons]
   rw[show i+1+l.length=i+(l.length+1) by omega]
   rfl
theorem Stg.mayAll_snoc(s:Stg):∀(l:List Int) (i:Nat) (m:Int),s.mayAll i (l++[m])↔s.mayAll i l∧s.may (i+l.length) m
 | [],i,m=> by simp[Stg.mayAll]
 | a::l,i,m=> by
   simp only[List.cons_append,Stg.mayAll,List.length_cons]
   rw[Stg.mayAll_snoc s l,show i+1+l.length=i+(l.length+1) by omega,and_assoc]
theorem Stg.miss_in {s:Stg}(i:Nat)(m:Int):0≤s.miss i m∧s.miss i m≤7:=by
 unfold Stg.miss
 split
 · omega
 · have:=missedF_in s.read (s.after (s.ps[i]?.getD 0) i+m);omega
theorem Stg.viewFrom_lt(s:Stg):∀(l:List Int) (i v:Nat),v<128→s.viewFrom i v l<128
 | [],_,_,h=> h
 | m::l,i,v,h=> by
   have:=Stg.miss_in (s:=s) i m
   exact Stg.viewFrom_lt s l (i+1) _ (turned_lt v h _ (by omega))
theorem Stg.reachTo_iff {s:Stg}(hr:0<s.read):∀(k:Nat) (w:Nat),s.reachTo k w=true↔∃mv:List Int,mv.length=k∧s.mayAll 0 mv∧s.view mv=w
 | 0,w=> by
   constructor
   · intro h
     simp only[Stg.reachTo,beq_iff_eq] at h
     exact⟨[],rfl,trivial,h.symm⟩
   · rintro⟨mv,h1,_,h3⟩
     cases List.eq_nil_of_length_eq_zero h1
     simp only[Stg.reachTo,beq_iff_eq]
     exact h3.symm
 | k + 1,w=> by
   unfold Stg.reachTo
   rw[nxR_true]
   constructor
   · rintro⟨u,h1,h2,o,h3,h4⟩
     obtain⟨mv,h5,h6,h7⟩:=(Stg.reachTo_iff hr k u).1 h2
     obtain⟨h8,h9⟩:=Stg.opts_is h3
     refine⟨mv++[o.2],by simp[h5],(Stg.mayAll_snoc s mv 0 o.2).2 ⟨h6,by rw[Nat.zero_add,h5];exact h8⟩,?_⟩
     unfold Stg.view at h7 ⊢
     rw[Stg.viewFrom_snoc,h7,Nat.zero_add,h5,←h9]
     exact h4
   · rintro⟨mv,h1,h2,h3⟩
     obtain⟨mv',m,rfl⟩:∃mv' m,mv=mv'++[m]:=by
       refine⟨mv.dropLast,mv.getLast (by intro e;rw[e] at h1;cases h1),?_⟩
       exact(List.dropLast_concat_getLast _).symm
     simp only[List.length_append,List.length_cons,List.length_nil,Nat.zero_add,Nat.add_right_cancel_iff] at h1
     obtain⟨h4,h5⟩:=(Stg.mayAll_snoc s mv' 0 m).1 h2
     rw[Nat.zero_add,h1] at h5
     obtain⟨o,h6,h7,_⟩:=Stg.opts_all hr h5
     refine⟨s.view mv',Stg.viewFrom_lt s mv' 0 127 (by decide),(Stg.reachTo_iff hr k _).2 ⟨mv',h1,h4,rfl⟩,o,h6,?_⟩
     unfold Stg.view at h3
     rw[Stg.viewFrom_snoc,Nat.zero_add,h1,←h7] at h3
     exact h3
theorem Stg.reach_iff {s:Stg}(hr:0<s.read){w:Nat}:s.reach w=true↔∃mv:List Int,mv.length=s.ps.length∧s.mayAll 0 mv∧s.view mv=w:=Stg.reachTo_iff hr _ _
theorem Stg.reach_all {s:Stg}(hr:0<s.read){w:Nat}:s.reach w=true↔∃x∈s.all,x.1=w:=(Stg.reach_iff hr).trans (Stg.all_mem hr).symm
end Go.Proofs.YtpdaenfglbgfkaaGreatDoor
end
section
namespace Go.Proofs.YtpdaenfglbgfkaaGreatDoor
open Go.RL
set_option maxRecDepth 10000
set_option maxHeartbeats 8000000
section
variable(M:Md Tryz.prog)(H:View)
theorem Still_c(send lean number place:Int)(h1:0≤place)(h2:place≤6)(h3:0≤number∧number≤1000)(h4:0≤send)(h5:send≤1000)(h6: -1000≤lean)(h7:lean≤1000):
   CallT M 173 #[.int .i64 send,.int .i64 lean,.int .i64 number,.int .i64 place] H (fun v H'=> H.le H'∧v=.int .i64 (stillF place number send lean)):=by
 have h8:0≤2*place*send:=Int.mul_nonneg (by omega) h4
 have h9:2*place*send≤12*1000:=Int.mul_le_mul (by omega) h5 h4 (by omega)
 have hq:intBin .rem .i64 number 2=some (.int .i64 (number%2)):=by rw[rem_in (by omega) (by omega)]
 refine CallT.enter (vs:= [.int .i64 send,.int .i64 lean,.int .i64 number,.int .i64 place]) Tryz.func173 rfl Tryz.ntmps173 (Nat.le_of_ble_eq_true rfl) (SymSt.nil _) fun St c cs hK=> ?_
 by_cases h:number%2=1
 · refine .sr ?_
   refine .g ?_
   refine .done (.seq (.sr ?_))
   refine .m ?_
   refine .i ?_ (z:=by assumption)
   refine .i ?_ (z:=eql_t (by omega))
   refine .done (.tt rfl (.sr ?_))
   refine .m ?_
   refine .i ?_ (z:=mul_in (by omega) (by omega))
   refine .m ?_
   refine .i ?_ (z:=mul_in (by omega) (by omega))
   refine .m ?_
   refine .i ?_ (z:=add_in (by omega) (by omega))
   refine .g ?_
   refine .done ?_
   refine .rt hK Tryz.func173 Tryz.results173 [_] ?_
   exact fun H' hs=> ⟨hs.base,by
     unfold stillF
     rw[if_neg (by omega)]
     rfl⟩
 · refine .sr ?_
   refine .g ?_
   refine .done (.seq (.sr ?_))
   refine .m ?_
   refine .i ?_ (z:=by assumption)
   refine .i ?_ (z:=eql_f (by omega))
   refine .done (.ff rfl (.skip (.sr ?_)))
   refine .m ?_
   refine .i ?_ (z:=mul_in (by omega) (by omega))
   refine .m ?_
   refine .i ?_ (z:=mul_in (by omega) (by omega))
   refine .m ?_
   refine .i ?_ (z:=sub_in (by omega) (by omega))
   refine .g ?_
   refine .done ?_
   refine .rt hK Tryz.func173 Tryz.results173 [_] ?_
   exact fun H' hs=> ⟨hs.base,by
     unfold stillF
     rw[if_pos (by omega),←Int.sub_eq_add_neg]
     rfl⟩
end
end Go.Proofs.YtpdaenfglbgfkaaGreatDoor
end
section
namespace Go.Proofs.YtpdaenfglbgfkaaGreatDoor
open Go.RL
set_option maxRecDepth 10000
set_option maxHeartbeats 16000000
section
variable(M:Md Tryz.prog)(H:View)
end
end Go.Proofs.YtpdaenfglbgfkaaGreatDoor
end
section
namespace Go.Proofs.YtpdaenfglbgfkaaGreatDoor
open Go.RL
set_option maxRecDepth 10000
structure Lk.Past(k:Lk)(c:Nat)(a r n:Int)(mv:List Int):Prop where
 send:k.s0≤a∧a≤k.s1
 read:k.r0≤r∧r≤k.r1
 lean:k.l0≤n∧n≤k.l1
 len:mv.length=(placesTo c 7).length
 moves:∀m∈mv,k.m0≤m∧m≤k.m1
def pastView(c:Nat)(a r n:Int)(mv:List Int):Nat:=(⟨c,placesTo c 7,a,r,n,mv.headD 0,0,0⟩:Stg).view mv
structure Lk.Within(o k:Lk):Prop where
 s:k.s0≤o.s0∧o.s1≤k.s1
 r:k.r0≤o.r0∧o.r1≤k.r1
 l:k.l0≤o.l0∧o.l1≤k.l1
 m:k.m0≤o.m0∧o.m1≤k.m1
end Go.Proofs.YtpdaenfglbgfkaaGreatDoor
end
section
namespace Go.Proofs.YtpdaenfglbgfkaaGreatDoor
open Go.RL
set_option maxRecDepth 10000
set_option maxHeartbeats 4000000
def readV(o:Option Nat):Value:=match o with
 | some m=> .tuple ⟨[.int .i64 (m:Nat),.bool true,.int .i64 0]⟩
 | none=> .tuple ⟨[.int .i64 0,.bool false,.int .i64 0]⟩
section
variable(M:Md Tryz.prog)(H:View)
variable(k:Lk)(hG:Glob H)(hk:k.ok=true)(code:Nat)(hc:code<32)(a r n:Int)(mv:List Int)(hP:k.Past code a r n mv)(A:Option Addr)(m ca:Nat)(hm:m=(placesTo code 7).length)(hA:Nums H A mv)
include hG hk hc hP hm hA
end
end Go.Proofs.YtpdaenfglbgfkaaGreatDoor
end
section
namespace Go.Proofs.YtpdaenfglbgfkaaGreatDoor
open Go.RL
set_option maxRecDepth 10000
end Go.Proofs.YtpdaenfglbgfkaaGreatDoor
end
section
namespace Go.RL
end Go.RL
end
section
namespace Go.Proofs.YtpdaenfglbgfkaaGreatDoor
open Go.RL
set_option maxRecDepth 10000
set_option maxHeartbeats 4000000
section
variable(M:Md Tryz.prog)(H:View)
theorem hasR_yes(a b x:Int)(h:a≤x∧x≤b):CallT M 140 #[bandV a b,.int .i64 x] H (fun v H'=> H.le H'∧v=.bool true):=by
 refine CallT.enter (vs:= [bandV a b,.int .i64 x]) Tryz.func140 rfl Tryz.ntmps140 (Nat.le_of_ble_eq_true rfl) (SymSt.nil _) fun St c cs hK=> ?_
 refine .sr ?_
 refine .e (.bx (zz:=fun b2=> ?_))
 refine .g ?_
 refine .done (.sr ?_)
 refine .m ?_
 refine .x .fa ?_
 refine .x (.ld 0) ?_
 refine .x .fa ?_
 refine .x (.ld 0) ?_
 refine .c rfl rfl rfl rfl (fun H hs=> .f ca59 rfl (CallT.is (.bool true) (by rewrite [decide_eq_true h];rfl) (In_c M H x a b))) ?_
 refine .g ?_
 refine .done ?_
 refine .rt hK Tryz.func140 Tryz.results140 [_] ?_
 exact fun H' hs=> ⟨hs.base,rfl⟩
theorem EdgesOf_n(code:Nat)(hc:code<32):CallT M 52 #[.int .i64 code] H (fun v H'=> H.le H'∧∃g:Gl 3 1,v=g.val∧(g.l=placesV (placesTo code 7)∧g.n=(placesTo code 7).length)∧∀x∈g.bl,H' x.1=some x.2∧H x.1=none):=
 CallT.mono (EdgesOf_c M H code hc) (by rintro v H' ⟨h1,g,h2,h3,h4⟩;exact⟨h1,g,h2,⟨h3,gl_len h3⟩,h4⟩)
end
end Go.Proofs.YtpdaenfglbgfkaaGreatDoor
end
section
namespace Go.Proofs.YtpdaenfglbgfkaaGreatDoor
open Go.RL
set_option maxRecDepth 10000
set_option maxHeartbeats 16000000
theorem numsL_get {l:List Nat}{i:Nat}(h:i<l.length):(numsL l)[i]?.getD 0=((l[i]?.getD 0:Nat):Int):=by
 unfold numsL
 rw[List.getElem?_map,List.getElem?_eq_getElem h]
 rfl
theorem numsL_len(l:List Nat):(numsL l).length=l.length:=by simp[numsL]
section
variable(M:Md Tryz.prog)(H:View)
end
end Go.Proofs.YtpdaenfglbgfkaaGreatDoor
end
section
namespace Go.Proofs.YtpdaenfglbgfkaaGreatDoor
open Go.RL
set_option maxRecDepth 10000
set_option maxHeartbeats 16000000
section
variable(M:Md Tryz.prog)
end
end Go.Proofs.YtpdaenfglbgfkaaGreatDoor
end
section
namespace Go.Proofs.YtpdaenfglbgfkaaGreatDoor
open Go.RL
set_option maxRecDepth 10000
set_option maxHeartbeats 16000000
theorem places_first:∀co:Nat,co<32→(placesTo co 7)[0]?.getD 0=0∧2≤(placesTo co 7).length:=by decide +kernel
section
variable(M:Md Tryz.prog)(H:View)
end
end Go.Proofs.YtpdaenfglbgfkaaGreatDoor
end
section
namespace Go.Proofs.YtpdaenfglbgfkaaGreatDoor
open Go.RL
set_option maxRecDepth 10000
set_option maxHeartbeats 4000000
theorem readN_iff:∀v:Nat,v<128→∀n:Nat,n<32→(readN v=some n↔v=64+2*n):=by decide +kernel
theorem readN_lt {v n:Nat}(h:readN v=some n):n<32:=by
 unfold readN at h
 split at h
 · cases h
   omega
 · cases h
theorem born_unique:∀ {l:List MapEntry},(l.map (·.born)).Nodup→∀a∈l,∀b∈l,a.born=b.born→a=b
 | [],_,a,ha,_,_,_=> by cases ha
 | x ::l,h,a,ha,b,hb,e=> by
   rw[List.map_cons,List.nodup_cons] at h
   rcases List.mem_cons.1 ha with h1|h1
   · rcases List.mem_cons.1 hb with h2|h2
     · rw[h1,h2]
     · subst h1
       exact(h.1 (e▸List.mem_map_of_mem h2)).elim
   · rcases List.mem_cons.1 hb with h2|h2
     · subst h2
       exact(h.1 (e▸List.mem_map_of_mem h1)).elim
     · exact born_unique h.2 a h1 b h2 e
def keyN(v:Value):Nat:=match v with
 | .int _ i=> i.toNat
 | _=> 0
def codeE(e:MapEntry):Option Value:=(readN (keyN e.key)).map fun n=> .int .i64 (n:Nat)
def badE(e:MapEntry):Bool:=(readN (keyN e.key)).isNone
def Lk.canRead(k:Lk)(c n:Nat):Bool:=k.sees c (64+2*n)
def Lk.bad(k:Lk)(c:Nat):Bool:=(List.range 128).any fun v=> k.sees c v&&(readN v).isNone
theorem codes_perm {k:Lk}{c:Nat}{es:Array MapEntry}{cl:Nat}(h:MapOk es cl (vF (k.sees c))):(es.toList.filterMap codeE).Perm (keepTo (k.canRead c) 32):=by
 have hkey:∀e∈es.toList,∃u:Nat,u<128∧e.key=.int .u8 (u:Nat)∧k.sees c u=true:=fun e he=> by
   obtain⟨_,u,h1,h2,h3⟩:=(h.mem e.key e.val).2 ⟨e,he,rfl,rfl⟩
   exact⟨u,h1,h2,h3⟩
 have nd1:(es.toList.filterMap codeE).Nodup:=by
   have hk:=h.keys
   rw[List.nodup_iff_pairwise_ne,List.pairwise_map] at hk
   rw[List.nodup_iff_pairwise_ne]
   rw[List.pairwise_filterMap]
   refine List.Pairwise.imp_of_mem ?_ hk
   intro a b ha hb hab x hx y hy e
   subst e
   obtain⟨u,u1,u2,_⟩:=hkey a ha
   obtain⟨w,w1,w2,_⟩:=hkey b hb
   unfold codeE keyN at hx hy
   rw[u2] at hx
   rw[w2] at hy
   simp only[Int.toNat_natCast] at hx hy
   cases hu:readN u with
   | none=> rw[hu] at hx;cases hx
   | some n=>
     cases hw:readN w with
     | none=> rw[hw] at hy;cases hy
     | some m=>
       rw[hu] at hx
       rw[hw] at hy
       simp only[Option.map_some,Option.some.injEq] at hx hy
       rw[←hx] at hy
       simp only[Value.int.injEq,true_and,Int.natCast_inj] at hy
       subst hy
       have hm:=readN_lt hu
       have e1:=(readN_iff u u1 m hm).1 hu
       have e2:=(readN_iff w w1 m hm).1 hw
       exact hab (by rw[u2,w2,e1,e2])
 have nd2:(keepTo (k.canRead c) 32).Nodup:=by
   unfold keepTo
   rw[List.nodup_iff_pairwise_ne,List.pairwise_map]
   refine List.Pairwise.imp ?_ (List.Pairwise.filter _ (List.nodup_iff_pairwise_ne.1 List.nodup_range))
   intro a b hab e
   simp only[Value.int.injEq,true_and,Int.natCast_inj] at e
   exact hab e
 refine(List.perm_ext_iff_of_nodup nd1 nd2).2 fun v=> ?_
 unfold keepTo
 simp only[List.mem_filterMap,List.mem_map,List.mem_filter,List.mem_range]
 constructor
 · rintro⟨e,he,h1⟩
   obtain⟨u,u1,u2,u3⟩:=hkey e he
   unfold codeE keyN at h1
   rw[u2] at h1
   simp only[Int.toNat_natCast] at h1
   cases hu:readN u with
   | none=> rw[hu] at h1;cases h1
   | some n=>
     rw[hu] at h1
     simp only[Option.map_some,Option.some.injEq] at h1
     have hn:=readN_lt hu
     have e1:=(readN_iff u u1 n hn).1 hu
     exact⟨n,⟨hn,by unfold Lk.canRead;rw[←e1];exact u3⟩,h1⟩
 · rintro⟨n,⟨h1,h2⟩,rfl⟩
   obtain⟨e,he,h3,_⟩:=(h.mem (.int .u8 ((64+2*n:Nat):Int)) (.bool true)).1 ⟨rfl,64+2*n,by omega,rfl,h2⟩
   refine⟨e,he,?_⟩
   unfold codeE keyN
   rw[h3]
   simp only[Int.toNat_natCast]
   rw[(readN_iff (64+2*n) (by omega) n h1).2 rfl]
   rfl
theorem bad_any {k:Lk}{c:Nat}{es:Array MapEntry}{cl:Nat}(h:MapOk es cl (vF (k.sees c))):es.toList.any badE=k.bad c:=by
 unfold Lk.bad
 rw[Bool.eq_iff_iff,List.any_eq_true,List.any_eq_true]
 constructor
 · rintro⟨e,he,h1⟩
   obtain⟨_,u,u1,u2,u3⟩:=(h.mem e.key e.val).2 ⟨e,he,rfl,rfl⟩
   refine⟨u,List.mem_range.2 u1,?_⟩
   unfold badE keyN at h1
   rw[u2] at h1
   rw[u3]
   exact h1
 · rintro⟨u,hu,h1⟩
   rw[Bool.and_eq_true] at h1
   obtain⟨e,he,h3,_⟩:=(h.mem (.int .u8 (u:Nat)) (.bool true)).1 ⟨rfl,u,List.mem_range.1 hu,rfl,h1.1⟩
   refine⟨e,he,?_⟩
   unfold badE keyN
   rw[h3]
   exact h1.2
def Lk.refused(k:Lk)(c:Nat):Int:=if k.bad c then(if(keepTo (k.canRead c) 32).length=0 then 1 else 0) else 2
def ReadsQ(l:List Value)(r:Int)(H:View)(v:Value)(H':View):Prop:=H.le H'∧∃g:Gl 3 1,v=.tuple ⟨[g.val,.int .i64 r,.int .i64 0]⟩∧g.l=l∧∀y∈g.bl,H' y.1=some y.2∧H y.1=none
section
variable(M:Md Tryz.prog)(H:View)
theorem Reads_one(k:Lk)(code:Nat)(hG:Glob H)(hk:k.ok=true)(hc:code<32)(h1:(keepTo (k.canRead code) 32).length≤1):CallT M 21 #[k.val,.int .i64 code] H (ReadsQ (keepTo (k.canRead code) 32) (k.refused code) H):=by
 refine CallT.enter (vs:= [k.val,.int .i64 code]) Tryz.func21 rfl Tryz.ntmps21 (Nat.le_of_ble_eq_true rfl) (SymSt.nil _) fun St c cs hK=> ?_
 refine .sr ?_
 refine .e (.bx (zz:=fun b2=> ?_))
 refine .g ?_
 refine .g ?_
 refine .g ?_
 refine .done (.sr ?_)
 refine .x (.ld 0) ?_
 refine .m ?_
 refine .e (Or.callNew (fun x=> .tuple ⟨[k.val,letN code x,.int .i64 0]⟩) (letB code) (fun _=> True) rfl rfl rfl rfl rfl (by decide) (letB_nodup code) (fun H hs=> .f ca89 rfl (open_n M H k code (glob_le hG hs.base) hk hc)) (fun x hx=> ?_))
 refine .m ?_
 refine .x .et ?_
 refine .x .et ?_
 refine .x .et ?_
 refine .e (.al (zz:=fun b7=> ?_))
 refine .e (.al (zz:=fun b8=> ?_))
 refine .e (.st 1 (zz:=?_))
 refine .e (.st 0 (zz:=?_))
 refine .g ?_
 refine .done (.seq (.sr ?_))
 refine .m ?_
 refine .i ?_ (z:=neq_f (by omega))
 refine .done (.ff rfl (.skip (.sr ?_)))
 refine .g ?_
 refine .done (.seq (.sr ?_))
 refine .x (.ld 1) ?_
 refine .x (.ld 0) ?_
 refine .e (Or.callNew (fun y:Nat×Array MapEntry×Nat=> .map (some y.1)) (fun y=> [(y.1,true,.map y.2.1 y.2.2)]) (fun y=> MapOk y.2.1 y.2.2 (vF (k.sees code))) rfl rfl rfl rfl rfl (by decide) (fun _=> by simp) (fun H hs=> .f ca90 rfl (CallT.mono (all90_c M H k (Lk.fine hk) code x.1 x.2.1 hc (edg_of fun y hy=> hs.at_ y (by simp[hy]))) (by rintro v H' ⟨h1,m,es,cl,h2,h3,h4,h5⟩;exact⟨h1,(m,es,cl),h2,h5,by simp[h3,h4]⟩))) (fun y hm=> ?_))
 obtain⟨m,es,cl⟩:=y
 simp only at hm
 have hperm:=codes_perm hm
 have hbad:=bad_any hm
 refine .e (Or.range (E:=en) (es:=es) (cl:=cl) rfl rfl (fun H hs=> ⟨true,hs.at_ (m,true,.map es cl) (by simp)⟩) rfl rfl rfl (by decide) (fun it=> ?_))
 refine .done ?_
 refine Tc.lift (L₂:= [(it,true,.mapIter (some m) cl #[] cl)]) rfl (fun Hm hsm=> ?_)
 have hmap:Hm m=some (true,.map es cl):=hsm.at_ (m,true,.map es cl) (by simp)
 have hfr:∀b x,Hm b=none→H b=some x→False:=fun b x h2 h3=> by rw[hsm.base _ _ h3] at h2;cases h2
 refine .block ?_
 refine Tc.db (Tc.loopInv (σ:= { s:Array Nat×Gl 3 1×Bool//(s.2.1.l++(unseen es s.1).filterMap codeE).Perm (keepTo (k.canRead code) 32)∧(s.2.2||(unseen es s.1).any badE)=k.bad code })
   (fun s=> ([(26,.pointer (some ⟨it,0,none⟩)),(4,s.1.2.1.val),(9,.bool s.1.2.2)],[(it,true,.mapIter (some m) cl s.1.1 cl)]++s.1.2.1.bl)) (fun s=> (unseen es s.1.1).length) ?_ ⟨(#[],Gl.nil 3 1,false),by rw[unseen_start];exact hperm,by rw[unseen_start,hbad];rfl⟩)
 rintro⟨⟨seen,g,bd⟩,g1,g2⟩ ih
 simp only at g1 g2
 have hgl:=g1.length_eq
 rw[List.length_append] at hgl
 have hgn:=g.hl
 rw[Nat.mul_one] at hgn
 show Tc M St _ _ _ _ [(26,.pointer (some ⟨it,0,none⟩)),(4,g.val),(9,.bool bd)] ([(it,true,.mapIter (some m) cl seen cl)]++g.bl) _ _
 refine .sr ?_
 refine .e (Or.next (es:=es) 0 rfl rfl rfl (fun H hs=> ⟨true,hs.base _ _ hmap⟩) hm.lt rfl (by decide) (fun e he hse=> ?_) (fun hall=> ?_))
 · have hp:=unseen_next hm.borns he hse
   obtain⟨_,u,u1,u2,u3⟩:=(hm.mem e.key e.val).2 ⟨e,he,rfl,rfl⟩
   have hfind:es.find? (fun x=> x.born==e.born)=some e:=by
     rw[←Array.find?_toList]
     cases hf:es.toList.find? (fun x=> x.born==e.born) with
     | none=> have:=List.find?_eq_none.1 hf e he;simp at this
     | some e'=>
       have h3:=List.mem_of_find?_eq_some hf
       have h4:=List.find?_some hf
       simp only[beq_iff_eq] at h4
       rw[born_unique hm.borns e' h3 e he h4]
   refine .x .et ?_
   refine .done (.seq (.tt rfl (.skip (.block (.sr ?_)))))
   refine .e (Or.entry (es:=es) (e:=e) (st:=e.born) rfl rfl (fun H hs=> ⟨true,hs.get (i:=0) rfl⟩) (fun H hs=> ⟨true,hs.base _ _ hmap⟩) (by simp) hfind rfl (by decide) ?_)
   rw[u2]
   refine .x .et ?_
   refine .g ?_
   refine .done (.seq ?_)
   have hc1:=hp.filterMap codeE
   have hb1:=hp.any_eq (f:=badE)
   have hbE:badE e=(readN u).isNone:=by unfold badE keyN;rw[u2];rfl
   have hcE:codeE e=(readN u).map fun n=> .int .i64 (n:Nat):=by unfold codeE keyN;rw[u2];rfl
   cases hu:readN u with
   | none=>
     rw[hu] at hbE hcE
     refine .r ?_
     refine .m ?_
     refine .c rfl rfl rfl rfl (fun H hs=> .f ca91 rfl (CallT.is (.tuple ⟨[.int .i64 0,.bool false]⟩) (by rewrite [hu];rfl) (read_c M H u u1))) ?_
     refine .m ?_
     refine .x .et ?_
     refine .x .et ?_
     refine .g ?_
     refine .g ?_
     refine .done (.sr ?_)
     refine .m ?_
     refine .done (.ff rfl (.r ?_))
     refine .g ?_
     refine .done (.inBlock ?_)
     exact Tc.db (ih ⟨(seen.push e.born,g,true),by simp only;rw[List.filterMap_cons_none hcE] at hc1;exact(List.Perm.append_left _ hc1.symm).trans g1,by simp only;rw[←g2,hb1,List.any_cons,hbE];simp⟩ (by simp only;rw[hp.length_eq];simp))
   | some n=>
     rw[hu] at hbE hcE
     have hn:=readN_lt hu
     have hroom:g.n+1≤1:=by
       rw[←hgn]
       have h5:=hc1.length_eq
       rw[List.filterMap_cons_some hcE,List.length_cons] at h5
       omega
     refine .r ?_
     refine .m ?_
     refine .c rfl rfl rfl rfl (fun H hs=> .f ca91 rfl (CallT.is (.tuple ⟨[.int .i64 (n:Nat),.bool true]⟩) (by rewrite [hu];rfl) (read_c M H u u1))) ?_
     refine .m ?_
     refine .x .et ?_
     refine .x .et ?_
     refine .g ?_
     refine .g ?_
     refine .done (.sr ?_)
     refine .m ?_
     refine .done (.tt rfl (.r ?_))
     refine .m ?_
     refine .m ?_
     refine .e (.bs (zz:=fun bs=> ?_))
     refine .e (Or.append (E:=en) 2 rfl rfl rfl rfl rfl rfl rfl rfl rfl rfl rfl rfl rfl rfl rfl (fun H hs=> SrcAt.of (hs.get (i:=0) rfl) (Nat.le_of_ble_eq_true rfl)) rfl (by omega) rfl (by decide) (fun g' hn' hl=> ?_))
     refine .g ?_
     refine .done (.inBlock ?_)
     exact Tc.db (ih ⟨(seen.push e.born,g',bd),by simp only;rw[hl,List.append_assoc];rw[List.filterMap_cons_some hcE] at hc1;exact(List.Perm.append_left _ hc1.symm).trans g1,by simp only;rw[←g2,hb1,List.any_cons,hbE];simp⟩ (by simp only;rw[hp.length_eq];simp))
 · have hun:=unseen_done hall
   rw[hun] at g1 g2
   simp only[List.filterMap_nil,List.append_nil,List.any_nil,Bool.or_false] at g1 g2
   have hle1:g.n≤1:=by have:=g1.length_eq;omega
   have hgl2:g.l=keepTo (k.canRead code) 32:=by
     have h3:=g1.length_eq
     match hx:g.l,hy:keepTo (k.canRead code) 32 with
     | [],[]=> rfl
     | [a],[b]=> rw[hx,hy] at g1;exact List.perm_singleton.1 g1.symm▸rfl
     | [],_::_=> rw[hx,hy] at h3;simp at h3
     | _::_,[]=> rw[hx,hy] at h3;simp at h3
     | _::_::_,_=> rw[hx] at hgn;simp at hgn;omega
     | _,_::_::_=> rw[hy] at h1;simp at h1
   subst g2
   refine .x .et ?_
   refine .done (.seq (.ff rfl (.exit rfl (.sr ?_))))
   refine .m ?_
   refine .c rfl rfl rfl rfl (fun H hs=> .f ca92 rfl (Sort_one M H _ g.n g.cap hle1)) ?_
   refine .done (.seq (.block (.seq ?_)))
   cases hbd:k.bad code with
   | false=>
     have hr:k.refused code=2:=by unfold Lk.refused;rw[hbd];rfl
     refine .r ?_
     refine .m ?_
     refine .x .nt ?_
     refine .g ?_
     refine .done (.tt rfl (.sr ?_))
     refine .m ?_
     refine .g ?_
     refine .g ?_
     refine .g ?_
     refine .done ?_
     refine .rt hK Tryz.func21 Tryz.results21 [_,_,_] ?_
     exact fun H' hs=> ⟨View.le_trans hsm.base hs.base,g,by rw[hr];rfl,hgl2,fun y hy=> ⟨hs.at_ y (by simp[hy]),by cases h:H y.1 with|none=> rfl|some x=> exact(hfr _ x (hs.out y (by simp[hy])) h).elim⟩⟩
   | true=>
     refine .r ?_
     refine .m ?_
     refine .x .nt ?_
     refine .g ?_
     refine .done (.ff rfl (.seq ?_))
     by_cases h0:g.n=0
     · have hr:k.refused code=1:=by unfold Lk.refused;rw[hbd,←hgl2,hgn,h0];rfl
       refine .r ?_
       refine .m ?_
       refine .x .ln ?_
       refine .i ?_ (z:=eql_t (by omega))
       refine .g ?_
       refine .done (.tt rfl (.sr ?_))
       refine .g ?_
       refine .g ?_
       refine .g ?_
       refine .done ?_
       refine .rt hK Tryz.func21 Tryz.results21 [_,_,_] ?_
       exact fun H' hs=> ⟨View.le_trans hsm.base hs.base,Gl.nil 3 1,by rw[hr];rfl,by rw[←hgl2];exact(List.eq_nil_of_length_eq_zero (by omega)).symm,by simp[Gl.nil,Gl.bl]⟩
     · have hr:k.refused code=0:=by unfold Lk.refused;rw[hbd,←hgl2,hgn,if_pos rfl,if_neg h0]
       refine .r ?_
       refine .m ?_
       refine .x .ln ?_
       refine .i ?_ (z:=eql_f (by omega))
       refine .g ?_
       refine .done (.ff rfl (.skip (.inBlock (.sr ?_))))
       refine .m ?_
       refine .g ?_
       refine .g ?_
       refine .g ?_
       refine .done ?_
       refine .rt hK Tryz.func21 Tryz.results21 [_,_,_] ?_
       exact fun H' hs=> ⟨View.le_trans hsm.base hs.base,g,by rw[hr];rfl,hgl2,fun y hy=> ⟨hs.at_ y (by simp[hy]),by cases h:H y.1 with|none=> rfl|some x=> exact(hfr _ x (hs.out y (by simp[hy])) h).elim⟩⟩
end
end Go.Proofs.YtpdaenfglbgfkaaGreatDoor
end
section
namespace Go.Proofs.YtpdaenfglbgfkaaGreatDoor
open Go.RL
set_option maxRecDepth 10000
set_option maxHeartbeats 4000000
theorem letterOf_m(M:Md Tryz.prog)(H:View)(code:Nat)(h1:code<32):CallT M 113 #[.int .i64 code] H (fun v H'=> H.le H'∧∃x,v=letN code x∧(placesTo code 7).length≤x.2.1∧∀y∈letB code x,H' y.1=some y.2∧H y.1=none):=
 CallT.mono (letterOf_c M H code h1) (by
   rintro v H' ⟨h2,g,rfl,h3,h4,h5⟩
   obtain⟨b,hb⟩:=gl_some g (by rw[h3];exact(places_in code h1).1)
   refine⟨h2,(b,g.cap,g.junk),?_,by rw[←h3];exact g.hc,fun y hy=> h5 y ?_⟩
   · unfold letN Gl.val
     rw[hb,h3]
     rfl
   · unfold Gl.bl
     rw[hb,h4]
     exact hy)
theorem open_m(M:Md Tryz.prog)(H:View)(k:Lk)(code:Nat)(hG:Glob H)(hk:k.ok=true)(hc:code<32):CallT M 89 #[k.val,.int .i64 code] H (fun v H'=> H.le H'∧∃x:Nat×Nat×List Value,v=.tuple ⟨[k.val,letN code x,.int .i64 0]⟩∧(placesTo code 7).length≤x.2.1∧∀y∈letB code x,H' y.1=some y.2∧H y.1=none):=
 CallT.mono (open_yes M H k code hG hk hc) (by
   rintro v H' ⟨h2,g,rfl,⟨h3,h4⟩,h5⟩
   obtain⟨b,hb⟩:=gl_some g (by rw[h3];exact(places_in code hc).1)
   refine⟨h2,(b,g.cap,g.junk),?_,by rw[←h3];exact g.hc,fun y hy=> h5 y ?_⟩
   · unfold letterV letN Gl.val
     rw[hb,h3]
     rfl
   · unfold Gl.bl
     rw[hb,h4]
     exact hy)
theorem eg135:Tryz.prog.eqGuardType Tryz.prog.depth 135=false:=by kernel_rfl
theorem ints_flat(l:List Int)(h:l.length=6):flat en 2 135 (intsL l):=by
 refine⟨_,rfl,by rw[intsL_len,h];rfl,fun i hi=> ⟨l[i]?.getD 0,?_⟩⟩
 have h3:i<l.length:=by rw[h];exact hi
 unfold chunk
 show((intsL l).drop (i*1)).take 1=_
 rw[Nat.mul_one]
 unfold intsL
 have h4:i<(l.map fun x=> Value.int .i64 x).length:=by rw[List.length_map];exact h3
 rw[List.drop_eq_getElem_cons h4,List.getElem_map,List.getElem?_eq_getElem h3]
 rfl
def gMove(ps:List Nat)(send lean n:Int)(af:List Int)(i:Nat):Int:=stillF (ps[0]?.getD 0:Nat) 0 send lean+n+af[i+1]?.getD 0-stillF (ps[i+1]?.getD 0:Nat) (i+1:Nat) send lean
def gMoves(ps:List Nat)(send lean n:Int)(af:List Int)(d:Nat):List Int:=n::(List.range d).map (gMove ps send lean n af)
def Lk.inMove(k:Lk)(x:Int):Bool:=decide (k.m0≤x∧x≤k.m1)
def Lk.gives₂(k:Lk)(ps:List Nat)(send lean n:Int)(af:List Int):Bool:=
 ((List.range (ps.length-1)).all fun i=> k.inMove (gMove ps send lean n af i))&&(afterTo (seenTo ps (gMoves ps send lean n af (ps.length-1)) send lean ps.length) ps.length==af)
def Lk.gives₁(k:Lk)(ps:List Nat)(send lean:Int)(af:List Int)(l:List Int):Bool:=l.any fun n=> k.gives₂ ps send lean n af
def Lk.gives(k:Lk)(ps:List Nat)(send:Int)(af:List Int):Bool:=(upTo k.l0 k.l1).any fun lean=> k.gives₁ ps send lean af (upTo k.m0 k.m1)
theorem intsL_ld {l:List Int}{i:Nat}(h:i<l.length):ldL false 1 (intsL l) (0+i*1)=some (.int .i64 (l[i]?.getD 0)):=by
 show(intsL l)[0+i*1]? =_
 rw[Nat.zero_add,Nat.mul_one]
 unfold intsL
 rw[List.getElem?_map,List.getElem?_eq_getElem h]
 rfl
theorem gMoves_succ(ps:List Nat)(send lean n:Int)(af:List Int)(d:Nat):gMoves ps send lean n af (d+1)=gMoves ps send lean n af d++[gMove ps send lean n af d]:=by
 unfold gMoves
 rw[List.range_succ,List.map_append]
 rfl
theorem gMoves_len(ps:List Nat)(send lean n:Int)(af:List Int)(d:Nat):(gMoves ps send lean n af d).length=d+1:=by simp[gMoves]
theorem gMoves_in {k:Lk}{ps:List Nat}{send lean n:Int}{af:List Int}{d:Nat}(hm: -1000≤k.m0∧k.m1≤1000)(hn:k.m0≤n∧n≤k.m1)(h:∀i,i<d→k.inMove (gMove ps send lean n af i)=true)(i:Nat): -1000≤(gMoves ps send lean n af d)[i]?.getD 0∧(gMoves ps send lean n af d)[i]?.getD 0≤1000:=by
 by_cases e:i<(gMoves ps send lean n af d).length
 · rw[List.getElem?_eq_getElem e]
   have hmem:=List.getElem_mem e
   simp only[Option.getD_some]
   generalize (gMoves ps send lean n af d)[i]=z at hmem
   unfold gMoves at hmem
   rcases List.mem_cons.1 hmem with rfl|hmem
   · omega
   · obtain⟨j,hj,rfl⟩:=List.mem_map.1 hmem
     have:=h j (List.mem_range.1 hj)
     unfold Lk.inMove at this
     rw[decide_eq_true_iff] at this
     omega
 · rw[List.getElem?_eq_none (by omega)]
   simp
theorem intsL_inj:∀ {l m:List Int},intsL l=intsL m→l=m
 | [],[],_=> rfl
 | [],_::_,h=> by cases h
 | _::_,[],h=> by cases h
 | a::l,b::m,h=> by
   have h1:Value.int .i64 a::intsL l=Value.int .i64 b::intsL m:=h
   injection h1 with h2 h3
   injection h2 with _ h4
   rw[h4,intsL_inj h3]
section
variable(M:Md Tryz.prog)(H:View)
def gL(code eb ec:Nat)(k:Lk)(send:Int)(af:List Int)(found:Bool)(b4 b5 b6 b7 b8 b9:Nat):Bl:=
 [(b9,true,.cells ⟨[.int .i64 k.m0,.int .i64 k.m1]⟩ 180 (0,0)),(b8,true,.cells ⟨[.bool found]⟩ 4 (0,0)),(b7,true,.cells ⟨intsL af⟩ 135 (0,0)),(b6,true,.cells ⟨[.int .i64 send]⟩ 3 (0,0)),(b5,true,.cells ⟨[.int .i64 code,.slice (some ⟨eb,0,none⟩) (placesTo code 7).length ec]⟩ 112 (0,0)),
   (b4,true,.cells ⟨k.val.cells.toList⟩ 109 (0,0))]
theorem gives_c(k:Lk)(hk:k.Fine)(code eb ec:Nat)(send:Int)(af:List Int)(hc:code<32)(hE:Edg H (placesTo code 7) eb)(hec:(placesTo code 7).length≤ec)(h2:2≤(placesTo code 7).length)(h6:af.length=6)(hb:∀x∈af, -100000≤x∧x≤100000)(hs0:0≤send∧send≤1000):
   CallT M 157 #[k.val,.agg ⟨[.int .i64 code,.slice (some ⟨eb,0,none⟩) (placesTo code 7).length ec]⟩,.int .i64 send,timesV af] H (fun v H'=> H.le H'∧v=.bool (k.gives (placesTo code 7) send af)):=by
 obtain⟨hp0,hp6,hpl⟩:=places_in code hc
 have hbd:=hk.bounds
 simp only[List.mem_cons,List.not_mem_nil,or_false,forall_eq_or_imp,forall_eq] at hbd
 obtain⟨k1,k2,k3,k4,k5,k6,k7,k8⟩:=hbd
 have hkl:=hk.l
 have hkm:=hk.m
 refine CallT.enter (vs:= [k.val,.agg ⟨[.int .i64 code,.slice (some ⟨eb,0,none⟩) (placesTo code 7).length ec]⟩,.int .i64 send,timesV af]) Tryz.func157 rfl Tryz.ntmps157 (Nat.le_of_ble_eq_true rfl) (SymSt.nil _) fun St c cs hK=> ?_
 refine .sr ?_
 refine .e (.bx (zz:=fun b4=> ?_))
 refine .e (.bx (zz:=fun b5=> ?_))
 refine .e (.bx (zz:=fun b6=> ?_))
 refine .e (.bx (zz:=fun b7=> ?_))
 refine .e (.al (zz:=fun b8=> ?_))
 refine .done (.sr ?_)
 refine .x .fa ?_
 refine .x .fa ?_
 refine .x .fa ?_
 refine .x (.ld 4) ?_
 refine .c rfl rfl rfl rfl (fun H hs=> .f ca155 rfl (bandOf_c M H k.m0 k.m1)) ?_
 refine .e (.al (zz:=fun b9=> ?_))
 refine .e (.st 0 (zz:=?_))
 refine .done (.seq (.sr ?_))
 refine .x .fa ?_
 refine .x .fa ?_
 refine .x .fa ?_
 refine .x (.ld 5) ?_
 refine .c rfl rfl rfl rfl (fun H hs=> .f ca155 rfl (bandOf_c M H k.l0 k.l1)) ?_
 refine .x .mf ?_
 refine .done (.block ?_)
 have itL:=fun H (_:(fun _:View=> True) H)=> all_it M H k.l0 k.l1 (by omega) (by omega)
 have itM:=fun H (_:(fun _:View=> True) H)=> all_it M H k.m0 k.m1 (by omega) (by omega)
 refine Tc.db (R':= [(27,.func (.func 156) #[bandV k.l0 k.l1] #[]),(5,.pointer (some ⟨b5,0,none⟩)),(6,.pointer (some ⟨b6,0,none⟩)),(7,.pointer (some ⟨b7,0,none⟩)),(8,.pointer (some ⟨b8,0,none⟩)),(9,.pointer (some ⟨b9,0,none⟩))]) (L':=gL code eb ec k send af false b4 b5 b6 b7 b8 b9) ?_
 refine Tc.rangeL (A:= []) (xs:=upTo k.l0 k.l1) (ts:= [28]) (fun rest H₁ L₁=> L₁=gL code eb ec k send af false b4 b5 b6 b7 b8 b9∧H.le H₁∧(rest.any fun lean=> k.gives₁ (placesTo code 7) send lean af (upTo k.m0 k.m1))=k.gives (placesTo code 7) send af)
   (fun j H₁ L₁=> j=.ret∧H.le H₁∧k.gives (placesTo code 7) send af=true∧L₁=gL code eb ec k send af true b4 b5 b6 b7 b8 b9) rfl rfl rfl rfl itL (fun _ _ _ h=> h) (fun _ _ _ _=> trivial) rfl (fun _ _=> rfl) ⟨rfl,View.le_refl _,rfl⟩ ?_ ?_ ?_
 · rintro r lean rest e l tmps asg bdy H₁ _ hl ⟨rfl,hle1,hany⟩ Q1 St1 cc1 cs1 hK1 q1 q1'
   have hl':=mem_upTo.1 hl
   unfold gL
   refine .r ?_
   refine .e (.al (zz:=fun b10=> ?_))
   refine .e (.st 0 (zz:=?_))
   refine .done ?_
   refine Tc.beginRound (i:=1) rfl rfl rfl ?_
   refine .block ?_
   refine Tc.scope ?_
   refine .seq ?_
   refine Tc.label ?_
   refine .sr ?_
   refine .x (.ld 3) ?_
   refine .x .mf ?_
   refine .done (.block ?_)
   refine Tc.rangeLIn (A:= []) (i:=1) (xs:=upTo k.m0 k.m1) (ts:= [31]) (fun rest2 H₂ L₂=> L₂=(b10,true,.cells ⟨[.int .i64 lean]⟩ 3 (0,0))::(l,true,.loop { Loop.fresh 157 tmps [28].toArray asg bdy r with state:=.busy })::(r,true,.deferred (some []))::gL code eb ec k send af false b4 b5 b6 b7 b8 b9∧H.le H₂∧k.gives₁ (placesTo code 7) send lean af rest2=k.gives₁ (placesTo code 7) send lean af (upTo k.m0 k.m1))
     (fun j H₂ L₂=> j=.ret∧H.le H₂∧k.gives (placesTo code 7) send af=true∧L₂=(b10,true,.cells ⟨[.int .i64 lean]⟩ 3 (0,0))::(l,true,.loop { Loop.fresh 157 tmps [28].toArray asg bdy r with state:=.busy })::(r,true,.deferred (some []))::gL code eb ec k send af true b4 b5 b6 b7 b8 b9)
     rfl rfl rfl rfl rfl itM (fun _ _ _ h=> h) (fun _ _ _ _=> trivial) rfl (fun _ _=> rfl) ⟨rfl,hle1,rfl⟩ ?_ ?_ ?_
   · rintro n rest2 e2 l2 tmps2 asg2 bdy2 H₂ _ hn ⟨rfl,hle2,hany2⟩ Q2 St2 cc2 cs2 hK2 q2 q2'
     have hn':=mem_upTo.1 hn
     unfold gL
     refine .r ?_
     refine .g ?_
     refine .done ?_
     refine Tc.beginRound (i:=0) rfl rfl rfl ?_
     refine .block (.sr ?_)
     refine .x (.ld 7) ?_
     refine .x (.ld 1) ?_
     refine .m ?_
     refine .e (.bs (zz:=fun bs=> ?_))
     refine .x .bu ?_
     refine .e (.al (zz:=fun b12=> ?_))
     refine .e (.st 0 (zz:=?_))
     refine .done ?_
     refine Tc.lift (L₂:= [_,_]) rfl (fun Hx hx=> ?_)
     have x10:=hx.get (i:=1) rfl
     have x9:=hx.get (i:=4) rfl
     have x8:=hx.get (i:=5) rfl
     have x7:=hx.get (i:=6) rfl
     have x6:=hx.get (i:=7) rfl
     have x5:=hx.get (i:=8) rfl
     obtain⟨fe,es,et,ez,hE1,hE2⟩:=hE.le (View.le_trans hle2 hx.base)
     have f0:ldL true 2 es (0+(0:Int).toNat*2)=some (edgeV ((placesTo code 7)[0]?.getD 0) 0):=hE2 0 hp0
     have b0:=hpl 0 hp0
     have st0:=still_in (place:=((placesTo code 7)[0]?.getD 0:Nat)) (number:=((0:Nat):Int)) (send:=send) (lean:=lean) (by omega) (by omega) hs0.1 hs0.2 (by omega) (by omega)
     have st0':=still_in (place:=((placesTo code 7)[0]?.getD 0:Nat)) (number:=0) (send:=send) (lean:=lean) (by omega) (by omega) hs0.1 hs0.2 (by omega) (by omega)
     have f7:ldL true 6 (intsL af) 0=some (.agg ⟨intsL af⟩):=by
       unfold ldL
       have e1:Nat.ble (0+6) (intsL af).length=true:=by rw[intsL_len,h6];rfl
       simp only[e1]
       rw[List.drop_zero,List.take_of_length_le (by rw[intsL_len,h6];exact Nat.le_refl _)]
     refine .seq ?_
     refine Tc.dr [] [] mixed rfl ?_
     refine .q 0 rfl .fa ?_
     refine .q 1 rfl .l0 ?_
     refine .q 2 rfl .ia ?_
     refine .q 3 rfl .l0 ?_
     refine .q 4 rfl .l0 ?_
     refine .q 5 rfl .l0 ?_
     refine .z 6 rfl (OpV.takeCall rfl rfl rfl rfl (fun H hs=> .f ca172 rfl (still_c M H ((placesTo code 7)[0]?.getD 0:Nat) ((0:Nat):Int) send lean (by omega) (by omega) (by omega) hs0.1 hs0.2 (by omega) (by omega)))) ?_
     refine .q 7 rfl .mv ?_
     refine .q 8 rfl (.it (zz:=add_in (by omega) (by omega))) ?_
     refine .q 9 rfl .sg ?_
     refine Ta.done (by kernel_rfl) ?_
     refine .seq (.sr ?_)
     refine .x .fa ?_
     refine .x .l0 ?_
     refine .x (OpV.slice (E:=en) (l:=1) (h:=((placesTo code 7).length:Nat)) (off':=0+1*2) rfl rfl rfl rfl rfl rfl rfl rfl (by omega) (by omega) (by omega) (by rw[if_neg (by omega)];rfl)) ?_
     refine .x .ln ?_
     refine .m ?_
     refine .done (.block ?_)
     refine Tc.dropB (Tc.loopInv (σ:= { s:Nat×Gl 3 1//s.1≤(placesTo code 7).length-1∧s.2.l=intsL (gMoves (placesTo code 7) send lean n af s.1)∧∀i,i<s.1→k.inMove (gMove (placesTo code 7) send lean n af i)=true })
       (fun s=> ([(50,.int .i64 (s.1.1:Nat)),(49,.int .i64 (((placesTo code 7).length-1:Nat):Int)),(48,.slice (some ⟨eb,0+1*2,none⟩) ((placesTo code 7).length-1) (ec-1)),(13,.int .i64 (stillF ((placesTo code 7)[0]?.getD 0:Nat) 0 send lean+n)),(12,.pointer (some ⟨b12,0,none⟩)),(10,.pointer (some ⟨b10,0,none⟩)),(5,.pointer (some ⟨b5,0,none⟩)),(6,.pointer (some ⟨b6,0,none⟩)),(7,.pointer (some ⟨b7,0,none⟩)),(8,.pointer (some ⟨b8,0,none⟩)),(9,.pointer (some ⟨b9,0,none⟩))],(b12,true,.cells ⟨[.int .i64 send,.int .i64 0,.int .i64 lean,s.1.2.val]⟩ 39 (0,0))::s.1.2.bl)) (fun s=> (placesTo code 7).length-1-s.1.1) ?_
       ⟨(0,⟨some bs,1,1,[.int .i64 n],[],rfl,Nat.le_refl _,rfl,nofun⟩),by simp,rfl,nofun⟩) ⟨rfl,rfl,rfl,rfl,rfl,rfl,rfl,rfl,rfl,rfl,rfl,trivial⟩ (List.Sublist.refl _)
     rintro⟨⟨j,g⟩,g1,g2,g3⟩ ih
     simp only at g1 g2 g3
     show Tc _ _ _ _ _ _ [(50,.int .i64 (j:Nat)),(49,.int .i64 (((placesTo code 7).length-1:Nat):Int)),(48,.slice (some ⟨eb,0+1*2,none⟩) ((placesTo code 7).length-1) (ec-1)),(13,.int .i64 (stillF ((placesTo code 7)[0]?.getD 0:Nat) 0 send lean+n)),(12,.pointer (some ⟨b12,0,none⟩)),(10,.pointer (some ⟨b10,0,none⟩)),(5,.pointer (some ⟨b5,0,none⟩)),(6,.pointer (some ⟨b6,0,none⟩)),(7,.pointer (some ⟨b7,0,none⟩)),(8,.pointer (some ⟨b8,0,none⟩)),(9,.pointer (some ⟨b9,0,none⟩))] ((b12,true,.cells ⟨[.int .i64 send,.int .i64 0,.int .i64 lean,g.val]⟩ 39 (0,0))::g.bl) _ _
     by_cases c1:j=(placesTo code 7).length-1
     · have hgn:g.n=(placesTo code 7).length:=by
         have h1:=g.hl
         rw[g2,intsL_len,gMoves_len] at h1
         omega
       obtain⟨_|vb,gn,gc,gll,gj,e1,e2,e3,e4⟩:=g
       · have:=e4 rfl
         simp only at hgn
         omega
       simp only at hgn g2
       subst hgn
       subst g2
       have hmv:=gMoves_in (ps:=placesTo code 7) (send:=send) (lean:=lean) (n:=n) (af:=af) hkm hn' g3
       rw[c1] at hmv g3
       have hV2:∀i:Nat,i<(placesTo code 7).length→ldL false 1 (intsL (gMoves (placesTo code 7) send lean n af ((placesTo code 7).length-1))++gj) (0+i*1)=some (.int .i64 ((gMoves (placesTo code 7) send lean n af ((placesTo code 7).length-1))[i]?.getD 0)):=fun i hi=> by
         have hi':i<(gMoves (placesTo code 7) send lean n af ((placesTo code 7).length-1)).length:=by rw[gMoves_len];omega
         have:=intsL_ld hi'
         unfold ldL at this ⊢
         simp only at this ⊢
         rw[List.getElem?_append_left (by rw[intsL_len];omega)]
         exact this
       have hsl:=afterTo_len (seenTo (placesTo code 7) (gMoves (placesTo code 7) send lean n af ((placesTo code 7).length-1)) send lean (placesTo code 7).length) (placesTo code 7).length
       rw[seenTo_len] at hsl
       have hsb:∀z∈seenTo (placesTo code 7) (gMoves (placesTo code 7) send lean n af ((placesTo code 7).length-1)) send lean (placesTo code 7).length, -1000000000≤z∧z≤1000000000:=by
         intro z hz
         unfold seenTo at hz
         obtain⟨i,hi,rfl⟩:=List.mem_map.1 hz
         split
         · rename_i hi2
           unfold seenAt
           have h1:=hmv i
           have h2:=hpl i hi2
           have h3:=still_in (place:=((placesTo code 7)[i]?.getD 0:Nat)) (number:=(i:Nat)) (send:=send) (lean:=lean) (by omega) (by omega) hs0.1 hs0.2 (by omega) (by omega)
           omega
         · omega
       subst c1
       have hall:((List.range ((placesTo code 7).length-1)).all fun i=> k.inMove (gMove (placesTo code 7) send lean n af i))=true:=by
         rw[List.all_eq_true]
         intro i hi
         exact g3 i (List.mem_range.1 hi)
       by_cases hq:afterTo (seenTo (placesTo code 7) (gMoves (placesTo code 7) send lean n af ((placesTo code 7).length-1)) send lean (placesTo code 7).length) (placesTo code 7).length=af
       · have hg2:k.gives₂ (placesTo code 7) send lean n af=true:=by
           unfold Lk.gives₂
           rw[hall,hq]
           simp
         have htot:k.gives (placesTo code 7) send af=true:=by
           rw[←hany,List.any_cons,←hany2]
           unfold Lk.gives₁
           rw[List.any_cons,hg2]
           rfl
         refine .sr ?_
         refine .i ?_ (z:=lss_f (by omega))
         refine .done (.seq (.ff rfl (.exit rfl (.seq ?_))))
         refine Tc.dr [] [] mixed rfl ?_
         refine .q 0 rfl .l0 ?_
         refine .q 1 rfl (.ld 0) ?_
         refine .z 2 rfl (OpV.takeCall rfl rfl rfl rfl (fun H hs=> .f ca135 rfl (seen_c M H (code:Int) send 0 lean (placesTo code 7) (gMoves (placesTo code 7) send lean n af ((placesTo code 7).length-1)) eb 0 ec vb 0 gc fe true es _ et 3 ez (0,0) (hs.base _ _ hE1) hE2 (hs.get (i:=1) rfl) hV2 hp6 hpl hmv hs0.1 hs0.2 (by omega) (by omega) _ (Nat.le_refl _)))) ?_
         refine .q 3 rfl .fa ?_
         refine .q 4 rfl .l0 ?_
         refine .q 5 rfl .ln ?_
         refine .z 6 rfl (OpV.takeCall rfl rfl rfl rfl (fun H hs=> .f ca137 rfl (after_c M H _ (placesTo code 7).length (seenTo_len ..) hp6 hsb))) ?_
         refine .q 7 rfl .l0 ?_
         refine .q 8 rfl (OpV.eqA (E:=en) true 2 rfl rfl rfl rfl rfl eg135 (by decide) (ints_flat _ hsl) (ints_flat af h6) ⟨fun _=> by rw[hq],fun _=> rfl⟩) ?_
         refine Ta.done (by kernel_rfl) ?_
         refine Tc.expand hx ?_
         refine .tt rfl (.sr ?_)
         refine .e (.st 7 (zz:=?_))
         refine .done ?_
         refine Tc.leaveRound hK2 (i:=2) rfl (.inr (.inl ⟨_,rfl,rfl⟩)) (fun H' hs'=> q2' H' _ _ _ (hs'.less (by apply List.Sublist.cons;apply List.Sublist.cons;exact List.Sublist.refl _)) ⟨rfl,hle2,htot,rfl⟩)
       · have hg2:k.gives₂ (placesTo code 7) send lean n af=false:=by
           unfold Lk.gives₂
           rw[hall]
           simp[hq]
         have hany3:k.gives₁ (placesTo code 7) send lean af rest2=k.gives₁ (placesTo code 7) send lean af (upTo k.m0 k.m1):=by
           rw[←hany2]
           unfold Lk.gives₁
           rw[List.any_cons,hg2]
           rfl
         refine .sr ?_
         refine .i ?_ (z:=lss_f (by omega))
         refine .done (.seq (.ff rfl (.exit rfl (.seq ?_))))
         refine Tc.dr [] [] mixed rfl ?_
         refine .q 0 rfl .l0 ?_
         refine .q 1 rfl (.ld 0) ?_
         refine .z 2 rfl (OpV.takeCall rfl rfl rfl rfl (fun H hs=> .f ca135 rfl (seen_c M H (code:Int) send 0 lean (placesTo code 7) (gMoves (placesTo code 7) send lean n af ((placesTo code 7).length-1)) eb 0 ec vb 0 gc fe true es _ et 3 ez (0,0) (hs.base _ _ hE1) hE2 (hs.get (i:=1) rfl) hV2 hp6 hpl hmv hs0.1 hs0.2 (by omega) (by omega) _ (Nat.le_refl _)))) ?_
         refine .q 3 rfl .fa ?_
         refine .q 4 rfl .l0 ?_
         refine .q 5 rfl .ln ?_
         refine .z 6 rfl (OpV.takeCall rfl rfl rfl rfl (fun H hs=> .f ca137 rfl (after_c M H _ (placesTo code 7).length (seenTo_len ..) hp6 hsb))) ?_
         refine .q 7 rfl .l0 ?_
         refine .q 8 rfl (OpV.eqA (E:=en) false 2 rfl rfl rfl rfl rfl eg135 (by decide) (ints_flat _ hsl) (ints_flat af h6) ⟨(fun h=> nomatch h),fun h=> (hq (intsL_inj h)).elim⟩) ?_
         refine Ta.done (by kernel_rfl) ?_
         refine Tc.expand hx ?_
         refine .ff rfl (.skip (.inBlock ?_))
         refine Tc.leaveRound hK2 (i:=2) rfl (.inl ⟨rfl,rfl⟩) (fun H' hs'=> q2 H' _ _ (hs'.less (by apply List.Sublist.cons;apply List.Sublist.cons;exact List.Sublist.refl _)) ⟨rfl,hle2,hany3⟩)
     · have c2:j<(placesTo code 7).length-1:=by omega
       have hgn:g.n=j+1:=by
         have h1:=g.hl
         rw[g2,intsL_len,gMoves_len] at h1
         omega
       have f1:ldL true 2 es ((0+1*2)+(j:Int).toNat*2)=some (edgeV ((placesTo code 7)[j+1]?.getD 0) (j+1)):=by
         rw[show(0+1*2)+(j:Int).toNat*2=0+(j+1)*2 by simp;omega]
         exact hE2 (j+1) (by omega)
       have f2:ldL false 1 (intsL af) (0+((j:Int)+1).toNat*1)=some (.int .i64 (af[j+1]?.getD 0)):=by
         rw[show((j:Int)+1).toNat=j+1 by omega]
         exact intsL_ld (by omega)
       have hb1:=hpl (j+1) (by omega)
       have st1:=still_in (place:=((placesTo code 7)[j+1]?.getD 0:Nat)) (number:=((j+1:Nat):Int)) (send:=send) (lean:=lean) (by omega) (by omega) hs0.1 hs0.2 (by omega) (by omega)
       have hbf: -100000≤af[j+1]?.getD 0∧af[j+1]?.getD 0≤100000:=by
         have hlt:j+1<af.length:=by omega
         rw[List.getElem?_eq_getElem hlt]
         exact hb _ (List.getElem_mem hlt)
       cases hin:k.inMove (gMove (placesTo code 7) send lean n af j) with
       | true=>
         refine .sr ?_
         refine .i ?_ (z:=lss_t (by omega))
         refine .done (.seq (.tt rfl (.skip (.seq (.block (.sr ?_))))))
         refine .m ?_
         refine .x .ia ?_
         refine .x .l0 ?_
         refine .e (.al (zz:=fun b15=> ?_))
         refine .g ?_
         refine .e (.st 0 (zz:=?_))
         refine .done (.seq ?_)
         refine Tc.dr [] [] mixed rfl ?_
         refine .q 0 rfl .mv ?_
         refine .q 1 rfl .mv ?_
         refine .q 2 rfl (.it (zz:=add_in (by omega) (by omega))) ?_
         refine .q 3 rfl .ib ?_
         refine .q 4 rfl .l0 ?_
         refine .q 5 rfl (.it (zz:=add_in (by omega) (by omega))) ?_
         refine .q 6 rfl (.ld 0) ?_
         refine .q 7 rfl .l0 ?_
         refine .q 8 rfl .l0 ?_
         refine .z 9 rfl (OpV.takeCall rfl rfl rfl rfl (fun H hs=> .f ca172 rfl (still_c M H ((placesTo code 7)[j+1]?.getD 0:Nat) ((j+1:Nat):Int) send lean (by omega) (by omega) (by omega) hs0.1 hs0.2 (by omega) (by omega)))) ?_
         refine .q 10 rfl (.it (zz:=sub_in (by omega) (by omega))) ?_
         refine .q 11 rfl .sg ?_
         refine Ta.done (by kernel_rfl) ?_
         refine .seq (.sr ?_)
         refine .x .l0 ?_
         refine .m ?_
         refine .c rfl rfl rfl rfl (fun H hs=> .f ca169 rfl (CallT.mono (has_c M H k.m0 k.m1 (gMove (placesTo code 7) send lean n af j)) (Q':=fun v H'=> H.le H'∧v=.bool true) (by rintro v H' ⟨h1,h2⟩;unfold Lk.inMove at hin;rw[hin] at h2;exact⟨h1,h2⟩))) ?_
         refine .x .nt ?_
         refine .done (.ff rfl (.skip (.r ?_)))
         refine .x .fa ?_
         refine .x (.ld 1) ?_
         refine .m ?_
         refine .e (.bs (zz:=fun bs2=> ?_))
         refine .e (Or.append (E:=en) 3 rfl rfl rfl rfl rfl rfl rfl rfl rfl rfl rfl rfl rfl rfl rfl (fun H hs=> SrcAt.of (hs.get (i:=0) rfl) (Nat.le_of_ble_eq_true rfl)) rfl (by omega) rfl (by decide) (fun g' hn2 hl2=> ?_))
         refine .x .fa ?_
         refine .e (.st 2 (zz:=?_))
         refine .done (.inBlock (.r ?_))
         refine .i ?_ (z:=add_in (by omega) (by omega))
         refine .m ?_
         refine .done ?_
         exact Tc.db (ih ⟨(j+1,g'),by simp only;omega,by simp only;rw[hl2,g2,gMoves_succ];unfold intsL;rw[List.map_append];rfl,by simp only;intro i hi;rcases Nat.lt_succ_iff_lt_or_eq.1 hi with h|rfl;exact g3 i h;exact hin⟩ (by simp only;omega))
       | false=>
         have hg2:k.gives₂ (placesTo code 7) send lean n af=false:=by
           unfold Lk.gives₂
           rw[Bool.and_eq_false_iff]
           refine .inl ?_
           rw[List.all_eq_false]
           exact⟨j,List.mem_range.2 c2,by rw[hin];simp⟩
         have hany3:k.gives₁ (placesTo code 7) send lean af rest2=k.gives₁ (placesTo code 7) send lean af (upTo k.m0 k.m1):=by
           rw[←hany2]
           unfold Lk.gives₁
           rw[List.any_cons,hg2]
           rfl
         refine .sr ?_
         refine .i ?_ (z:=lss_t (by omega))
         refine .done (.seq (.tt rfl (.skip (.seq (.block (.sr ?_))))))
         refine .m ?_
         refine .x .ia ?_
         refine .x .l0 ?_
         refine .e (.al (zz:=fun b15=> ?_))
         refine .g ?_
         refine .e (.st 0 (zz:=?_))
         refine .done (.seq ?_)
         refine Tc.dr [] [] mixed rfl ?_
         refine .q 0 rfl .mv ?_
         refine .q 1 rfl .mv ?_
         refine .q 2 rfl (.it (zz:=add_in (by omega) (by omega))) ?_
         refine .q 3 rfl .ib ?_
         refine .q 4 rfl .l0 ?_
         refine .q 5 rfl (.it (zz:=add_in (by omega) (by omega))) ?_
         refine .q 6 rfl (.ld 0) ?_
         refine .q 7 rfl .l0 ?_
         refine .q 8 rfl .l0 ?_
         refine .z 9 rfl (OpV.takeCall rfl rfl rfl rfl (fun H hs=> .f ca172 rfl (still_c M H ((placesTo code 7)[j+1]?.getD 0:Nat) ((j+1:Nat):Int) send lean (by omega) (by omega) (by omega) hs0.1 hs0.2 (by omega) (by omega)))) ?_
         refine .q 10 rfl (.it (zz:=sub_in (by omega) (by omega))) ?_
         refine .q 11 rfl .sg ?_
         refine Ta.done (by kernel_rfl) ?_
         refine .seq (.sr ?_)
         refine .x .l0 ?_
         refine .m ?_
         refine .c rfl rfl rfl rfl (fun H hs=> .f ca169 rfl (CallT.mono (has_c M H k.m0 k.m1 (gMove (placesTo code 7) send lean n af j)) (Q':=fun v H'=> H.le H'∧v=.bool false) (by rintro v H' ⟨h1,h2⟩;unfold Lk.inMove at hin;rw[hin] at h2;exact⟨h1,h2⟩))) ?_
         refine .x .nt ?_
         refine .done ?_
         refine Tc.dropB (R':= [(69,.bool true)]) (L':= []) ?_ ⟨rfl,trivial⟩ (List.nil_sublist _)
         refine Tc.expand hx ?_
         refine .tt rfl (.exit rfl ?_)
         refine Tc.leaveRound hK2 (i:=0) rfl (.inl ⟨rfl,rfl⟩) (fun H' hs'=> q2 H' _ _ (hs'.less (by exact List.Sublist.refl _)) ⟨rfl,hle2,hany3⟩)
   · rintro H₂ _ ⟨rfl,hle2,hany2⟩
     have hno:k.gives₁ (placesTo code 7) send lean af (upTo k.m0 k.m1)=false:=hany2.symm
     have hany3:(rest.any fun lean=> k.gives₁ (placesTo code 7) send lean af (upTo k.m0 k.m1))=k.gives (placesTo code 7) send af:=by
       rw[←hany,List.any_cons,hno]
       rfl
     refine .inBlock ?_
     refine Tc.inScope ?_
     refine .inBlock ?_
     refine Tc.leaveRound hK1 (i:=1) rfl (.inl ⟨rfl,rfl⟩) (fun H' hs'=> q1 H' _ _ (hs'.less (by apply List.Sublist.cons;exact List.Sublist.refl _)) ⟨rfl,hle2,hany3⟩)
   · rintro j H₂ _ ⟨rfl,hle2,htot,rfl⟩
     refine Tc.leaveRound hK1 (i:=1) rfl (.inr (.inl ⟨_,rfl,rfl⟩)) (fun H' hs'=> q1' H' _ _ _ (hs'.less (by apply List.Sublist.cons;exact List.Sublist.refl _)) ⟨rfl,hle2,htot,rfl⟩)
 · rintro r H₁ _ ⟨rfl,hle1,hany⟩
   have hno:k.gives (placesTo code 7) send af=false:=hany.symm
   unfold gL
   refine .inBlock (.sr ?_)
   refine .e (.st 2 (zz:=?_))
   refine .done ?_
   refine Tc.retD (E:=en) (i:=0) hK Tryz.func157 Tryz.results157 (vs:= [_]) rfl (by refine⟨⟨2,_,_,_,_,_,_,_,rfl,rfl,rfl,rfl⟩,?_⟩;exact trivial) ?_
   exact fun H' hs=> ⟨View.le_trans hle1 hs.base,by rw[hno];rfl⟩
 · rintro r j H₁ _ ⟨rfl,hle1,htot,rfl⟩
   unfold gL
   refine Tc.retD (E:=en) (i:=0) hK Tryz.func157 Tryz.results157 (vs:= [_]) rfl (by refine⟨⟨2,_,_,_,_,_,_,_,rfl,rfl,rfl,rfl⟩,?_⟩;exact trivial) ?_
   exact fun H' hs=> ⟨View.le_trans hle1 hs.base,by rw[htot];rfl⟩
end
end Go.Proofs.YtpdaenfglbgfkaaGreatDoor
end
section
namespace Go.Proofs.YtpdaenfglbgfkaaGreatDoor
open Go.RL
set_option maxRecDepth 10000
set_option maxHeartbeats 4000000
def pad6(l:List Int):List Int:=l++List.replicate (6-l.length) 0
theorem pad6_len {l:List Int}(h:l.length≤6):(pad6 l).length=6:=by simp[pad6];omega
def tuneTo(p:Int→Bool):List Int→Option (Int×Int)→Option (Int×Int)
 | [],o=> o
 | n::l,o=> tuneTo p l (if p n then some (match o with|some (a,_)=> (a,n)|none=> (n,n)) else o)
def Lk.tune(k:Lk)(ps:List Nat)(t:List Int):Option (Int×Int):=tuneTo (fun n=> k.gives ps n (afterTo t ps.length)) (upTo k.s0 k.s1) none
def bandO(o:Option (Int×Int)):Value:=match o with|some (a,b)=> bandV a b|none=> bandV 0 0
def bandCells(o:Option (Int×Int)):List Value:=match o with|some (a,b)=> [.int .i64 a,.int .i64 b] | none=> [.int .i64 0,.int .i64 0]
section
variable(M:Md Tryz.prog)(H:View)
def tL(code eb ec:Nat)(k:Lk)(t:List Int)(o:Option (Int×Int))(b3 b4 b5 b6 b7 b8 n:Nat):Bl:=
 [(b8,true,.cells ⟨intsL (afterTo t n)⟩ 135 (0,0)),(b7,true,.cells ⟨[.bool o.isSome]⟩ 4 (0,0)),(b6,true,.cells ⟨bandCells o⟩ 23 (0,0)),(b5,true,.cells ⟨intsL t⟩ 135 (0,0)),
   (b4,true,.cells ⟨[.int .i64 code,.slice (some ⟨eb,0,none⟩) n ec]⟩ 112 (0,0)),(b3,true,.cells ⟨k.val.cells.toList⟩ 109 (0,0))]
theorem tune_c(k:Lk)(hk:k.Fine)(code eb ec:Nat)(t:List Int)(hc:code<32)(hE:Edg H (placesTo code 7) eb)(hec:(placesTo code 7).length≤ec)(h2:2≤(placesTo code 7).length)(h6:t.length=6)(hb:∀x∈t, -10000≤x∧x≤10000):
   CallT M 114 #[k.val,.agg ⟨[.int .i64 code,.slice (some ⟨eb,0,none⟩) (placesTo code 7).length ec]⟩,timesV t] H (fun v H'=> H.le H'∧v=.tuple ⟨[bandO (k.tune (placesTo code 7) t),.bool (k.tune (placesTo code 7) t).isSome]⟩):=by
 obtain⟨hp0,hp6,hpl⟩:=places_in code hc
 have hbd:=hk.bounds
 simp only[List.mem_cons,List.not_mem_nil,or_false,forall_eq_or_imp,forall_eq] at hbd
 obtain⟨k1,k2,k3,k4,k5,k6,k7,k8⟩:=hbd
 have hks:=hk.s
 have hal:(afterTo t (placesTo code 7).length).length=6:=by rw[afterTo_len,h6]
 have hab:∀x∈afterTo t (placesTo code 7).length, -100000≤x∧x≤100000:=by
   intro x hx
   unfold afterTo at hx
   obtain⟨y,hy,rfl⟩:=List.mem_map.1 hx
   have h3:=hb y.1 (by
     have:=List.mem_zipIdx_iff_getElem?.1 hy
     exact List.mem_of_getElem? this)
   have h4: -10000≤t.headD 0∧t.headD 0≤10000:=by
     cases t with
     | nil=> cases h6
     | cons a l=> exact hb a List.mem_cons_self
   split <;> omega
 have fT:ldL true 6 (intsL t) 0=some (.agg ⟨intsL t⟩):=by
   unfold ldL
   have e1:Nat.ble (0+6) (intsL t).length=true:=by rw[intsL_len,h6];rfl
   simp only[e1]
   rw[List.drop_zero,List.take_of_length_le (by rw[intsL_len,h6];exact Nat.le_refl _)]
 have fA:ldL true 6 (intsL (afterTo t (placesTo code 7).length)) 0=some (.agg ⟨intsL (afterTo t (placesTo code 7).length)⟩):=by
   unfold ldL
   have e1:Nat.ble (0+6) (intsL (afterTo t (placesTo code 7).length)).length=true:=by rw[intsL_len,hal];rfl
   simp only[e1]
   rw[List.drop_zero,List.take_of_length_le (by rw[intsL_len,hal];exact Nat.le_refl _)]
 have lA:Nat.beq (intsL (afterTo t (placesTo code 7).length)).length 6=true:=by rw[intsL_len,hal];rfl
 have lB:(intsL (afterTo t (placesTo code 7).length)).all single=true:=by
   rw[List.all_eq_true]
   intro y hy
   obtain⟨z,_,rfl⟩:=List.mem_map.1 hy
   rfl
 have lC:stL [Value.int .i64 0,.int .i64 0,.int .i64 0,.int .i64 0,.int .i64 0,.int .i64 0] 0 (intsL (afterTo t (placesTo code 7).length))=intsL (afterTo t (placesTo code 7).length):=by
   unfold stL
   rw[List.take_zero,List.nil_append,List.drop_eq_nil_of_le (by rw[intsL_len,hal];simp),List.append_nil]
 refine CallT.enter (vs:= [k.val,.agg ⟨[.int .i64 code,.slice (some ⟨eb,0,none⟩) (placesTo code 7).length ec]⟩,timesV t]) Tryz.func114 rfl Tryz.ntmps114 (Nat.le_of_ble_eq_true rfl) (SymSt.nil _) fun St c cs hK=> ?_
 refine .sr ?_
 refine .e (.bx (zz:=fun b3=> ?_))
 refine .e (.bx (zz:=fun b4=> ?_))
 refine .e (.bx (zz:=fun b5=> ?_))
 refine .e (.al (zz:=fun b6=> ?_))
 refine .e (.al (zz:=fun b7=> ?_))
 refine .done (.sr ?_)
 refine .x (.ld 2) ?_
 refine .x .fa ?_
 refine .x (.ld 3) ?_
 refine .x .ln ?_
 refine .c rfl rfl rfl rfl (fun H hs=> .f ca137 rfl (after_c M H t (placesTo code 7).length h6 hp6 (fun x hx=> by have:=hb x hx;omega))) ?_
 refine .e (.al (zz:=fun b8=> ?_))
 refine .e (Or.storeT (E:=en) 0 rfl rfl rfl rfl rfl lA rfl (by exact rfl) lB rfl lC ?_)
 refine .done (.seq (.sr ?_))
 refine .x .fa ?_
 refine .x .fa ?_
 refine .x (.ld 5) ?_
 refine .c rfl rfl rfl rfl (fun H hs=> .f ca155 rfl (bandOf_c M H k.s0 k.s1)) ?_
 refine .x .mf ?_
 refine .done (.block ?_)
 have itS:=fun H (_:(fun _:View=> True) H)=> all_it M H k.s0 k.s1 (by omega) (by omega)
 refine Tc.db (R':= [(19,.func (.func 156) #[bandV k.s0 k.s1] #[]),(3,.pointer (some ⟨b3,0,none⟩)),(4,.pointer (some ⟨b4,0,none⟩)),(6,.pointer (some ⟨b6,0,none⟩)),(7,.pointer (some ⟨b7,0,none⟩)),(8,.pointer (some ⟨b8,0,none⟩))]) (L':=tL code eb ec k t none b3 b4 b5 b6 b7 b8 (placesTo code 7).length) ?_
 refine Tc.rangeL (A:= []) (xs:=upTo k.s0 k.s1) (ts:= [20]) (fun rest H₁ L₁=> ∃o,L₁=tL code eb ec k t o b3 b4 b5 b6 b7 b8 (placesTo code 7).length∧H.le H₁∧tuneTo (fun n=> k.gives (placesTo code 7) n (afterTo t (placesTo code 7).length)) rest o=k.tune (placesTo code 7) t)
   (fun _ _ _=> False) rfl rfl rfl rfl itS (fun _ _ _ h=> h) (fun _ _ _ _=> trivial) rfl (fun _ _=> rfl) ⟨none,rfl,View.le_refl _,rfl⟩ ?_ ?_ ?_
 · rintro r n rest e l tmps asg bdy H₁ _ hn ⟨o,rfl,hle1,hto⟩ Q1 St1 cc1 cs1 hK1 q1 q1'
   have hn':=mem_upTo.1 hn
   unfold tL
   refine .r ?_
   refine .g ?_
   refine .done ?_
   refine Tc.beginRound (i:=0) rfl rfl rfl ?_
   refine .block (.seq (.seq ?_))
   cases hg:k.gives (placesTo code 7) n (afterTo t (placesTo code 7).length) with
   | false=>
     have hto2:tuneTo (fun n=> k.gives (placesTo code 7) n (afterTo t (placesTo code 7).length)) rest o=k.tune (placesTo code 7) t:=by
       rw[←hto]
       unfold tuneTo
       simp only[hg]
       cases rest <;> rfl
     refine .r ?_
     refine .x (.ld 7) ?_
     refine .x (.ld 6) ?_
     refine .m ?_
     refine .x (.ld 2) ?_
     refine .c rfl rfl rfl rfl (fun H hs=> .f ca157 rfl (CallT.is (.bool false) (by rewrite [hg];rfl) (gives_c M H k hk code eb ec n (afterTo t (placesTo code 7).length) hc ((hE.le hle1).le hs.base) hec h2 hal hab (by omega)))) ?_
     refine .x .nt ?_
     refine .done (.tt rfl (.exit rfl ?_))
     refine Tc.leaveRound hK1 (i:=0) rfl (.inl ⟨rfl,rfl⟩) (fun H' hs'=> q1 H' _ _ (hs'.less (by exact List.Sublist.refl _)) ⟨o,rfl,hle1,hto2⟩)
   | true=>
     refine .r ?_
     refine .x (.ld 7) ?_
     refine .x (.ld 6) ?_
     refine .m ?_
     refine .x (.ld 2) ?_
     refine .c rfl rfl rfl rfl (fun H hs=> .f ca157 rfl (CallT.is (.bool true) (by rewrite [hg];rfl) (gives_c M H k hk code eb ec n (afterTo t (placesTo code 7).length) hc ((hE.le hle1).le hs.base) hec h2 hal hab (by omega)))) ?_
     refine .x .nt ?_
     refine .done ?_
     cases o with
     | none=>
       have hto2:tuneTo (fun n=> k.gives (placesTo code 7) n (afterTo t (placesTo code 7).length)) rest (some (n,n))=k.tune (placesTo code 7) t:=by
         rw[←hto]
         show _=tuneTo _ rest _
         simp only[hg]
         rfl
       refine .ff rfl (.skip (.seq (.sr ?_)))
       refine .x (.ld 3) ?_
       refine .x .nt ?_
       refine .done (.tt rfl (.r ?_))
       refine .m ?_
       refine .x .fa ?_
       refine .e (.st 4 (zz:=?_))
       refine .done (.r ?_)
       refine .m ?_
       refine .x .fa ?_
       refine .e (.st 4 (zz:=?_))
       refine .e (.st 3 (zz:=?_))
       refine .done (.inBlock ?_)
       refine Tc.leaveRound hK1 (i:=0) rfl (.inl ⟨rfl,rfl⟩) (fun H' hs'=> q1 H' _ _ (hs'.less (by exact List.Sublist.refl _)) ⟨some (n,n),rfl,hle1,hto2⟩)
     | some ab=>
       obtain⟨a,b⟩:=ab
       have hto2:tuneTo (fun n=> k.gives (placesTo code 7) n (afterTo t (placesTo code 7).length)) rest (some (a,n))=k.tune (placesTo code 7) t:=by
         rw[←hto]
         show _=tuneTo _ rest _
         simp only[hg]
         rfl
       refine .ff rfl (.skip (.seq (.sr ?_)))
       refine .x (.ld 3) ?_
       refine .x .nt ?_
       refine .done (.ff rfl (.skip (.r ?_)))
       refine .m ?_
       refine .x .fa ?_
       refine .e (.st 4 (zz:=?_))
       refine .e (.st 3 (zz:=?_))
       refine .done (.inBlock ?_)
       refine Tc.leaveRound hK1 (i:=0) rfl (.inl ⟨rfl,rfl⟩) (fun H' hs'=> q1 H' _ _ (hs'.less (by exact List.Sublist.refl _)) ⟨some (a,n),rfl,hle1,hto2⟩)
 · rintro r H₁ _ ⟨o,rfl,hle1,hto⟩
   have hto2:o=k.tune (placesTo code 7) t:=hto
   unfold tL
   refine .inBlock (.seq ?_)
   cases o with
   | none=>
     refine Tc.dr [2,3] [3] mixed rfl ?_
     refine .q 0 rfl (.ld 3) ?_
     refine Ta.tkw 1 (by kernel_rfl) rfl rfl rfl (by decide) rfl rfl (OpV.take (.ld 2)) ?_
     refine Ta.each [2] (by kernel_rfl) rfl ⟨TaOp.mk rfl rfl rfl (.st 3 (zz:=⟨S2.mk (by apply List.Sublist.cons_cons;apply List.Sublist.cons_cons;apply List.Sublist.cons_cons;apply List.Sublist.cons;exact List.Sublist.refl _) (.inl (by kernel_rfl)),?_⟩)),trivial⟩
     refine Ta.each [3] (by kernel_rfl) rfl ⟨TaOp.mk rfl rfl rfl (.st 2 (zz:=⟨S2.mk (by apply List.Sublist.cons_cons;apply List.Sublist.cons_cons;apply List.Sublist.cons_cons;apply List.Sublist.cons;exact List.Sublist.refl _) (.inl (by kernel_rfl)),?_⟩)),trivial⟩
     refine Ta.done (by kernel_rfl) ?_
     refine Tc.retD (E:=en) (i:=0) hK Tryz.func114 Tryz.results114 (vs:= [_,_]) rfl (by refine⟨⟨3,_,_,_,_,_,_,_,rfl,rfl,rfl,rfl⟩,?_⟩;refine⟨⟨2,_,_,_,_,_,_,_,rfl,rfl,rfl,rfl⟩,?_⟩;exact trivial) ?_
     exact fun H' hs=> ⟨View.le_trans hle1 hs.base,by rw[←hto2];rfl⟩
   | some ab=>
     obtain⟨a,b⟩:=ab
     refine Tc.dr [2,3] [3] mixed rfl ?_
     refine .q 0 rfl (.ld 3) ?_
     refine Ta.tkw 1 (by kernel_rfl) rfl rfl rfl (by decide) rfl rfl (OpV.take (.ld 2)) ?_
     refine Ta.each [2] (by kernel_rfl) rfl ⟨TaOp.mk rfl rfl rfl (.st 3 (zz:=⟨S2.mk (by apply List.Sublist.cons_cons;apply List.Sublist.cons_cons;apply List.Sublist.cons_cons;apply List.Sublist.cons;exact List.Sublist.refl _) (.inl (by kernel_rfl)),?_⟩)),trivial⟩
     refine Ta.each [3] (by kernel_rfl) rfl ⟨TaOp.mk rfl rfl rfl (.st 2 (zz:=⟨S2.mk (by apply List.Sublist.cons_cons;apply List.Sublist.cons_cons;apply List.Sublist.cons_cons;apply List.Sublist.cons;exact List.Sublist.refl _) (.inl (by kernel_rfl)),?_⟩)),trivial⟩
     refine Ta.done (by kernel_rfl) ?_
     refine Tc.retD (E:=en) (i:=0) hK Tryz.func114 Tryz.results114 (vs:= [_,_]) rfl (by refine⟨⟨3,_,_,_,_,_,_,_,rfl,rfl,rfl,rfl⟩,?_⟩;refine⟨⟨2,_,_,_,_,_,_,_,rfl,rfl,rfl,rfl⟩,?_⟩;exact trivial) ?_
     exact fun H' hs=> ⟨View.le_trans hle1 hs.base,by rw[←hto2];rfl⟩
 · rintro r j H₁ _ h
   exact h.elim
end
end Go.Proofs.YtpdaenfglbgfkaaGreatDoor
end
section
namespace Go.Proofs.YtpdaenfglbgfkaaGreatDoor
open Go.RL
set_option maxRecDepth 10000
set_option maxHeartbeats 4000000
structure Told(l:List Int):Prop where
 len:l.length≤6
 pos:l≠ []
 max:∀x∈l, -999≤x∧x≤999
structure TimesAt(H:View)(A:Option Addr)(l:List Int):Prop where
 ex:∃ab ao f gs gt gz,A=some ⟨ab,ao,none⟩∧H ab=some (f,.cells ⟨gs⟩ gt gz)∧ao+l.length*1≤gs.length∧(gs.drop ao).take (l.length*1)=intsL l
theorem TimesAt.le {H H':View}{A:Option Addr}{l:List Int}(h:TimesAt H A l)(k:H.le H'):TimesAt H' A l:=by
 obtain⟨ab,ao,f,gs,gt,gz,h1,h2,h3,h4⟩:=h.ex
 exact⟨ab,ao,f,gs,gt,gz,h1,k _ _ h2,h3,h4⟩
theorem times_ld {gs:List Value}{ao:Nat}{l:List Int}(h:(gs.drop ao).take (l.length*1)=intsL l){j:Nat}(hj:j<l.length):ldL false 1 gs (ao+(j:Int).toNat*1)=some (.int .i64 (l[j]?.getD 0)):=by
 show gs[ao+(j:Int).toNat*1]? =_
 rw[Nat.mul_one,Int.toNat_natCast]
 have h1:((gs.drop ao).take (l.length*1))[j]? =(intsL l)[j]? :=by rw[h]
 rw[List.getElem?_take_of_lt (by omega),List.getElem?_drop] at h1
 rw[h1]
 unfold intsL
 rw[List.getElem?_map,List.getElem?_eq_getElem hj]
 rfl
section
variable(M:Md Tryz.prog)(H:View)
theorem told_c(l:List Int)(hl:Told l)(A:Option Addr)(cap:Nat)(hT:TimesAt H A l):CallT M 111 #[.slice A l.length cap] H (fun v H'=> H.le H'∧v=.tuple ⟨[timesV (pad6 l),.int .i64 0]⟩):=by
 obtain⟨ab,ao,f,gs,gt,gz,rfl,hA1,hA2,hA3⟩:=hT.ex
 obtain⟨hl6,hne,hmax⟩:=hl
 have hn0:intsL l≠ []:=by
   cases l with
   | nil=> exact(hne rfl).elim
   | cons a l=> intro e;cases e
 have hsg:(intsL l).all single=true:=by
   rw[List.all_eq_true]
   intro y hy
   obtain⟨z,_,rfl⟩:=List.mem_map.1 hy
   rfl
 have hst:stL [Value.int .i64 0,.int .i64 0,.int .i64 0,.int .i64 0,.int .i64 0,.int .i64 0] 0 (intsL l)=intsL (pad6 l):=by
   unfold stL pad6
   rw[List.take_zero,List.nil_append,Nat.zero_add,intsL_len]
   have e1:intsL (l++List.replicate (6-l.length) 0)=intsL l++intsL (List.replicate (6-l.length) 0):=by unfold intsL;rw[List.map_append]
   rw[e1]
   congr 1
   have:l.length=0∨l.length=1∨l.length=2∨l.length=3∨l.length=4∨l.length=5∨l.length=6:=by omega
   rcases this with h|h|h|h|h|h|h <;> rw[h] <;> rfl
 have hp6:=pad6_len hl6
 have fP:ldL true 6 (intsL (pad6 l)) 0=some (.agg ⟨intsL (pad6 l)⟩):=by
   unfold ldL
   have e1:Nat.ble (0+6) (intsL (pad6 l)).length=true:=by rw[intsL_len,hp6];rfl
   simp only[e1]
   rw[List.drop_zero,List.take_of_length_le (by rw[intsL_len,hp6];exact Nat.le_refl _)]
 have lA:Nat.beq (intsL (pad6 l)).length 6=true:=by rw[intsL_len,hp6];rfl
 have lB:(intsL (pad6 l)).all single=true:=by
   rw[List.all_eq_true]
   intro y hy
   obtain⟨z,_,rfl⟩:=List.mem_map.1 hy
   rfl
 have lC:stL [Value.int .i64 0,.int .i64 0,.int .i64 0,.int .i64 0,.int .i64 0,.int .i64 0] 0 (intsL (pad6 l))=intsL (pad6 l):=by
   unfold stL
   rw[List.take_zero,List.nil_append,List.drop_eq_nil_of_le (by rw[intsL_len,hp6];simp),List.append_nil]
 refine CallT.enter (vs:= [.slice (some ⟨ab,ao,none⟩) l.length cap]) Tryz.func111 rfl Tryz.ntmps111 (Nat.le_of_ble_eq_true rfl) (SymSt.nil _) fun St c cs hK=> ?_
 refine .sr ?_
 refine .e (.al (zz:=fun b2=> ?_))
 refine .g ?_
 refine .done (.sr ?_)
 refine .e (.al (zz:=fun b4=> ?_))
 refine .done (.seq (.sr ?_))
 refine .m ?_
 refine .x .ln ?_
 refine .m ?_
 refine .done (.block ?_)
 refine Tc.db (Tc.loopInv (σ:= { j:Nat//j≤l.length }) (fun j=> ([(0,.slice (some ⟨ab,ao,none⟩) l.length cap),(2,.pointer (some ⟨b2,0,none⟩)),(4,.pointer (some ⟨b4,0,none⟩)),(7,.slice (some ⟨ab,ao,none⟩) l.length cap),(8,.int .i64 (l.length:Nat)),(9,.int .i64 (j.1:Nat))],
   [(b4,true,.cells ⟨[.int .i64 0,.int .i64 0,.int .i64 0,.int .i64 0,.int .i64 0,.int .i64 0]⟩ 135 (0,0)),(b2,true,.cells ⟨[.int .i64 0,.int .i64 0,.int .i64 0,.int .i64 0,.int .i64 0,.int .i64 0]⟩ 135 (0,0))])) (fun j=> l.length-j.1) ?_ ⟨0,by omega⟩)
 rintro⟨j,hj⟩ ih
 show Tc M St _ _ _ _ [(0,.slice (some ⟨ab,ao,none⟩) l.length cap),(2,.pointer (some ⟨b2,0,none⟩)),(4,.pointer (some ⟨b4,0,none⟩)),(7,.slice (some ⟨ab,ao,none⟩) l.length cap),(8,.int .i64 (l.length:Nat)),(9,.int .i64 (j:Nat))]
   [(b4,true,.cells ⟨[.int .i64 0,.int .i64 0,.int .i64 0,.int .i64 0,.int .i64 0,.int .i64 0]⟩ 135 (0,0)),(b2,true,.cells ⟨[.int .i64 0,.int .i64 0,.int .i64 0,.int .i64 0,.int .i64 0,.int .i64 0]⟩ 135 (0,0))] _ _
 by_cases c1:j=l.length
 · refine .sr ?_
   refine .i ?_ (z:=lss_f (by omega))
   refine .done (.seq (.ff rfl (.exit rfl (.sr ?_))))
   refine .x (OpV.sliceA (E:=en) (off':=0) rfl rfl rfl rfl rfl rfl rfl rfl (by decide) (by decide) (by decide) (by rw[if_neg (by decide)];rfl)) ?_
   refine .m ?_
   refine .e (Or.copy (E:=en) (m:=l.length) 0 rfl rfl rfl rfl rfl rfl rfl rfl rfl rfl rfl (fun H hs=> hA3▸SrcAt.of (hs.base _ _ hA1) hA2) hsg hl6 (by decide) hn0 rfl (by decide) hst ?_)
   refine .done (.sr ?_)
   refine .x (.ld 0) ?_
   refine .e (Or.storeT (E:=en) 1 rfl rfl rfl rfl rfl lA rfl (by exact rfl) lB rfl lC ?_)
   refine .g ?_
   refine .done ?_
   refine Tc.retN (E:=en) hK Tryz.func111 Tryz.results111 (vs:= [.agg ⟨intsL (pad6 l)⟩,_]) (by refine⟨⟨1,_,_,_,_,_,_,_,rfl,rfl,rfl,fP⟩,⟨rfl,trivial⟩⟩) ?_
   exact fun H' hs=> ⟨hs.base,rfl⟩
 · have c2:j<l.length:=by omega
   have f1:=times_ld hA3 c2
   have hm:=hmax (l[j]?.getD 0) (by rw[List.getElem?_eq_getElem c2];exact List.getElem_mem c2)
   refine .sr ?_
   refine .i ?_ (z:=lss_t (by omega))
   refine .done (.seq (.tt rfl (.skip (.seq (.block (.sr ?_))))))
   refine .x .ia ?_
   refine .x .l0 ?_
   refine .g ?_
   refine .done (.sr ?_)
   refine .m ?_
   refine .i ?_ (z:=lss_f (by omega))
   refine .m ?_
   refine .m ?_
   refine .i ?_ (z:=gtr_f (by omega))
   refine .x .pk ?_
   refine .done (.ff rfl (.skip (.inBlock (.r ?_))))
   refine .i ?_ (z:=add_in (by omega) (by omega))
   refine .m ?_
   refine .done ?_
   exact Tc.db (ih ⟨j+1,by omega⟩ (by simp only;omega))
theorem Index_2(b cap:Nat)(hb:H b=some (true,.cells ⟨[.int .i64 2,.int .i64 4,.int .i64 6]⟩ 3 (0,0))):CallT M 154 #[.slice (some ⟨b,0,none⟩) 3 cap,.int .i64 2] H (fun v H'=> H.le H'∧v=.int .i64 0):=by
 refine CallT.enter (vs:= [.slice (some ⟨b,0,none⟩) 3 cap,.int .i64 2]) Tryz.func154 rfl Tryz.ntmps154 (Nat.le_of_ble_eq_true rfl) (SymSt.nil _) fun St c cs hK=> ?_
 refine .sr ?_
 refine .g ?_
 refine .done (.seq (.sr ?_))
 refine .m ?_
 refine .x .ln ?_
 refine .m ?_
 refine .done (.block (.loop (.sr ?_)))
 refine .i ?_ (z:=lss_t (by omega))
 refine .done (.seq (.tt rfl (.skip (.seq (.block (.sr ?_))))))
 refine .m ?_
 refine .g ?_
 refine .done (.sr ?_)
 refine .m ?_
 refine .m ?_
 refine .m ?_
 refine .x .ia ?_
 refine .x .l0 ?_
 refine .i ?_ (z:=eql_t (by omega))
 refine .done (.tt rfl (.sr ?_))
 refine .m ?_
 refine .g ?_
 refine .done ?_
 refine .rt hK Tryz.func154 Tryz.results154 [_] ?_
 exact fun H' hs=> ⟨hs.base,rfl⟩
theorem Contains_2(b cap:Nat)(hb:H b=some (true,.cells ⟨[.int .i64 2,.int .i64 4,.int .i64 6]⟩ 3 (0,0))):CallT M 110 #[.slice (some ⟨b,0,none⟩) 3 cap,.int .i64 2] H (fun v H'=> H.le H'∧v=.bool true):=by
 refine CallT.enter (vs:= [.slice (some ⟨b,0,none⟩) 3 cap,.int .i64 2]) Tryz.func110 rfl Tryz.ntmps110 (Nat.le_of_ble_eq_true rfl) (SymSt.nil _) fun St c cs hK=> ?_
 refine .sr ?_
 refine .g ?_
 refine .done (.sr ?_)
 refine .m ?_
 refine .m ?_
 refine .c rfl rfl rfl rfl (fun H hs=> .f ca154 rfl (Index_2 M H b cap (hs.base _ _ hb))) ?_
 refine .i ?_ (z:=geq_t (by omega))
 refine .g ?_
 refine .done ?_
 refine .rt hK Tryz.func110 Tryz.results110 [_] ?_
 exact fun H' hs=> ⟨hs.base,rfl⟩
end
end Go.Proofs.YtpdaenfglbgfkaaGreatDoor
end
section
namespace Go.Proofs.YtpdaenfglbgfkaaGreatDoor
open Go.RL
set_option maxRecDepth 10000
set_option maxHeartbeats 4000000
theorem pad6_in {l:List Int}(h:Told l):∀x∈pad6 l, -10000≤x∧x≤10000:=by
 intro x hx
 unfold pad6 at hx
 rcases List.mem_append.1 hx with h1|h1
 · have:=h.max x h1;omega
 · have:=(List.mem_replicate.1 h1).2;omega
theorem pad6_ld {l:List Int}(h:l.length≤6):ldL true 6 (intsL (pad6 l)) 0=some (.agg ⟨intsL (pad6 l)⟩):=by
 have hp6:=pad6_len h
 unfold ldL
 have e1:Nat.ble (0+6) (intsL (pad6 l)).length=true:=by rw[intsL_len,hp6];rfl
 simp only[e1]
 rw[List.drop_zero,List.take_of_length_le (by rw[intsL_len,hp6];exact Nat.le_refl _)]
def Lk.sentOf(k:Lk)(l:List Int)(c:Nat):Bool:=decide ((placesTo c 7).length=l.length)&&(k.tune (placesTo c 7) (pad6 l)).isSome
def TuneQ(o:Option (Int×Int))(H:View)(v:Value)(H':View):Prop:=H.le H'∧v=(match o with|some (a,b)=> .tuple ⟨[bandV a b,.int .i64 0]⟩|none=> .tuple ⟨[bandV 0 0,.int .i64 10]⟩)
section
variable(M:Md Tryz.prog)(H:View)
theorem Contains_two(m:Nat)(h:m=2)(b cap:Nat)(hb:H b=some (true,.cells ⟨[.int .i64 2,.int .i64 4,.int .i64 6]⟩ 3 (0,0))):CallT M 110 #[.slice (some ⟨b,0,none⟩) 3 cap,.int .i64 (m:Nat)] H (fun v H'=> H.le H'∧v=.bool true):=by
 subst h
 exact Contains_2 M H b cap hb
theorem sent_asks(k:Lk)(hk:k.Fine)(l:List Int)(hl:Told l)(h2:2≤l.length)(A:Option Addr)(cap b3 b2 b7:Nat)(hb3:H b3=some (true,.cells ⟨[.slice A l.length cap]⟩ 28 (0,0)))(hb2:H b2=some (true,.cells ⟨k.val.cells.toList⟩ 27 (0,0)))
   (hb7:H b7=some (true,.cells ⟨intsL (pad6 l)⟩ 135 (0,0))):Asks M H (.func (.func 112) #[] #[.pointer (some ⟨b3,0,none⟩),.pointer (some ⟨b2,0,none⟩),.pointer (some ⟨b7,0,none⟩)]) 32 (k.sentOf l):=fun i hi H' hle=> by
 refine FnT.of (first:= []) (captured:= [_,_,_]) ca112 rfl ?_
 have h3:=hle _ _ hb3
 have h2':=hle _ _ hb2
 have h7:=hle _ _ hb7
 have fP:=pad6_ld hl.len
 refine CallT.enter (vs:= [.int .i64 (i:Nat),.pointer (some ⟨b3,0,none⟩),.pointer (some ⟨b2,0,none⟩),.pointer (some ⟨b7,0,none⟩)]) Tryz.func112 rfl Tryz.ntmps112 (Nat.le_of_ble_eq_true rfl) (SymSt.nil _) fun St c cs hK=> ?_
 refine .sr ?_
 refine .g ?_
 refine .done (.sr ?_)
 refine .m ?_
 refine .e (Or.callNew (letN i) (letB i) (fun x=> (placesTo i 7).length≤x.2.1) rfl rfl rfl rfl rfl (by decide) (letB_nodup i) (fun H hs=> .f ca113 rfl (letterOf_m M H i hi)) (fun x hx=> ?_))
 refine .e (.al (zz:=fun b6=> ?_))
 refine .e (.st 0 (zz:=?_))
 refine .done (.seq (.seq ?_))
 by_cases hlen:(placesTo i 7).length=l.length
 · refine .r ?_
   refine .x .fa ?_
   refine .x (.ld 0) ?_
   refine .x .ln ?_
   refine .x .l0 ?_
   refine .x .ln ?_
   refine .i ?_ (z:=neq_f (by omega))
   refine .done (.ff rfl (.skip (.seq ?_)))
   cases ht:k.tune (placesTo i 7) (pad6 l) with
   | none=>
     have hso:k.sentOf l i=false:=by unfold Lk.sentOf;rw[ht];simp
     refine .r ?_
     refine .x .l0 ?_
     refine .x .bu ?_
     refine .x (.ld 0) ?_
     refine .x .l0 ?_
     refine .c rfl rfl rfl rfl (fun H hs=> .f ca114 rfl (CallT.is (.tuple ⟨[bandV 0 0,.bool false]⟩) (by rewrite [ht];rfl) (tune_c M H k hk i x.1 x.2.1 (pad6 l) hi (edg_of fun y hy=> hs.at_ y (by simp[hy])) hx (by omega) (pad6_len hl.len) (pad6_in hl)))) ?_
     refine .m ?_
     refine .x .et ?_
     refine .x .et ?_
     refine .e (.al (zz:=fun b8=> ?_))
     refine .e (.st 0 (zz:=?_))
     refine .g ?_
     refine .done (.sr ?_)
     refine .m ?_
     refine .g ?_
     refine .done ?_
     refine .rt hK Tryz.func112 Tryz.results112 [_] ?_
     exact fun H2 hs=> ⟨hs.base,by rw[hso];rfl⟩
   | some ab=>
     obtain⟨a,b⟩:=ab
     have hso:k.sentOf l i=true:=by unfold Lk.sentOf;rw[ht,decide_eq_true hlen];rfl
     refine .r ?_
     refine .x .l0 ?_
     refine .x .bu ?_
     refine .x (.ld 0) ?_
     refine .x .l0 ?_
     refine .c rfl rfl rfl rfl (fun H hs=> .f ca114 rfl (CallT.is (.tuple ⟨[bandV a b,.bool true]⟩) (by rewrite [ht];rfl) (tune_c M H k hk i x.1 x.2.1 (pad6 l) hi (edg_of fun y hy=> hs.at_ y (by simp[hy])) hx (by omega) (pad6_len hl.len) (pad6_in hl)))) ?_
     refine .m ?_
     refine .x .et ?_
     refine .x .et ?_
     refine .e (.al (zz:=fun b8=> ?_))
     refine .e (.st 0 (zz:=?_))
     refine .g ?_
     refine .done (.sr ?_)
     refine .m ?_
     refine .g ?_
     refine .done ?_
     refine .rt hK Tryz.func112 Tryz.results112 [_] ?_
     exact fun H2 hs=> ⟨hs.base,by rw[hso];rfl⟩
 · have hso:k.sentOf l i=false:=by unfold Lk.sentOf;rw[decide_eq_false hlen];rfl
   refine .r ?_
   refine .x .fa ?_
   refine .x (.ld 0) ?_
   refine .x .ln ?_
   refine .x .l0 ?_
   refine .x .ln ?_
   refine .i ?_ (z:=neq_t (by omega))
   refine .done (.tt rfl (.sr ?_))
   refine .g ?_
   refine .done ?_
   refine .rt hK Tryz.func112 Tryz.results112 [_] ?_
   exact fun H2 hs=> ⟨hs.base,by rw[hso];rfl⟩
theorem Sent_two(k:Lk)(hG:Glob H)(hk:k.ok=true)(l:List Int)(hl:Told l)(h2:l.length=2)(A:Option Addr)(cap:Nat)(hT:TimesAt H A l):CallT M 46 #[k.val,.slice A l.length cap] H (ToldQ (keepTo (k.sentOf l) 32) H):=by
 refine CallT.enter (vs:= [k.val,.slice A l.length cap]) Tryz.func46 rfl Tryz.ntmps46 (Nat.le_of_ble_eq_true rfl) (SymSt.nil _) fun St c cs hK=> ?_
 have hp6:=pad6_len hl.len
 have lA:Nat.beq (intsL (pad6 l)).length 6=true:=by rw[intsL_len,hp6];rfl
 have lB:(intsL (pad6 l)).all single=true:=by
   rw[List.all_eq_true]
   intro y hy
   obtain⟨z,_,rfl⟩:=List.mem_map.1 hy
   rfl
 have lC:stL [Value.int .i64 0,.int .i64 0,.int .i64 0,.int .i64 0,.int .i64 0,.int .i64 0] 0 (intsL (pad6 l))=intsL (pad6 l):=by
   unfold stL
   rw[List.take_zero,List.nil_append,List.drop_eq_nil_of_le (by rw[intsL_len,hp6];simp),List.append_nil]
 refine .sr ?_
 refine .e (.bx (zz:=fun b2=> ?_))
 refine .e (.bx (zz:=fun b3=> ?_))
 refine .g ?_
 refine .g ?_
 refine .done (.seq (.sr ?_))
 refine .x (.ld 1) ?_
 refine .c rfl rfl rfl rfl (fun H hs=> .f ca86 rfl (checkLink_good M H k (glob_le hG hs.base) hk)) ?_
 refine .g ?_
 refine .done (.sr ?_)
 refine .m ?_
 refine .i ?_ (z:=neq_f (by omega))
 refine .done (.ff rfl (.skip (.seq (.sr ?_))))
 refine .e (.bs (zz:=fun b4=> ?_))
 refine .x (.ld 1) ?_
 refine .x .ln ?_
 refine .c rfl rfl rfl rfl (fun H hs=> .f ca110 rfl (Contains_two M H l.length h2 b4 3 (hs.get (i:=0) rfl))) ?_
 refine .x .nt ?_
 refine .done (.ff rfl (.skip (.sr ?_)))
 refine .x (.ld 1) ?_
 refine .c rfl rfl rfl rfl (fun H hs=> .f ca111 rfl (told_c M H l hl A cap (hT.le hs.base))) ?_
 refine .m ?_
 refine .x .et ?_
 refine .x .et ?_
 refine .e (.al (zz:=fun b7=> ?_))
 refine .e (Or.storeT (E:=en) 0 rfl rfl rfl rfl rfl lA rfl (by exact rfl) lB rfl lC ?_)
 refine .g ?_
 refine .done (.seq (.sr ?_))
 refine .m ?_
 refine .i ?_ (z:=neq_f (by omega))
 refine .done (.ff rfl (.skip (.sr ?_)))
 refine .x .mf ?_
 refine .e (Or.callNew Gl.val Gl.bl (fun g:Gl 3 1=> g.l=keepTo (k.sentOf l) 32) rfl rfl rfl rfl rfl (by decide) gl_nodup (fun H hs=> .f ca97 rfl (keep_n M H 32 _ (k.sentOf l) (by decide) (sent_asks M H k (Lk.fine hk) l hl (by omega) A cap b3 b2 b7 (hs.get (i:=2) rfl) (hs.get (i:=3) rfl) (hs.get (i:=0) rfl)))) (fun g hg=> ?_))
 refine .g ?_
 refine .g ?_
 refine .done ?_
 refine .rt hK Tryz.func46 Tryz.results46 [_,_] ?_
 exact fun H' hs=> ⟨hs.base,g,rfl,hg,fun y hy=> ⟨hs.at_ y (by simp[hy]),hs.out y (by simp[hy])⟩⟩
theorem Tune_c(k:Lk)(code:Nat)(hG:Glob H)(hk:k.ok=true)(hc:code<32)(l:List Int)(hl:Told l)(h2:2≤l.length)(hlen:l.length=(placesTo code 7).length)(A:Option Addr)(cap:Nat)(hT:TimesAt H A l):
   CallT M 48 #[k.val,.int .i64 code,.slice A l.length cap] H (TuneQ (k.tune (placesTo code 7) (pad6 l)) H):=by
 refine CallT.enter (vs:= [k.val,.int .i64 code,.slice A l.length cap]) Tryz.func48 rfl Tryz.ntmps48 (Nat.le_of_ble_eq_true rfl) (SymSt.nil _) fun St c cs hK=> ?_
 have hp6:=pad6_len hl.len
 have fP:=pad6_ld hl.len
 have lA:Nat.beq (intsL (pad6 l)).length 6=true:=by rw[intsL_len,hp6];rfl
 have lB:(intsL (pad6 l)).all single=true:=by
   rw[List.all_eq_true]
   intro y hy
   obtain⟨z,_,rfl⟩:=List.mem_map.1 hy
   rfl
 have lC:stL [Value.int .i64 0,.int .i64 0,.int .i64 0,.int .i64 0,.int .i64 0,.int .i64 0] 0 (intsL (pad6 l))=intsL (pad6 l):=by
   unfold stL
   rw[List.take_zero,List.nil_append,List.drop_eq_nil_of_le (by rw[intsL_len,hp6];simp),List.append_nil]
 refine .sr ?_
 refine .e (.bx (zz:=fun b3=> ?_))
 refine .e (.al (zz:=fun b6=> ?_))
 refine .g ?_
 refine .done (.sr ?_)
 refine .x (.ld 1) ?_
 refine .m ?_
 refine .e (Or.callNew (fun x=> .tuple ⟨[k.val,letN code x,.int .i64 0]⟩) (letB code) (fun x=> (placesTo code 7).length≤x.2.1) rfl rfl rfl rfl rfl (by decide) (letB_nodup code) (fun H hs=> .f ca89 rfl (open_m M H k code (glob_le hG hs.base) hk hc)) (fun x hx=> ?_))
 refine .m ?_
 refine .x .et ?_
 refine .x .et ?_
 refine .x .et ?_
 refine .e (.al (zz:=fun b8=> ?_))
 refine .e (.al (zz:=fun b9=> ?_))
 refine .e (.st 1 (zz:=?_))
 refine .e (.st 0 (zz:=?_))
 refine .g ?_
 refine .done (.seq (.sr ?_))
 refine .m ?_
 refine .i ?_ (z:=neq_f (by omega))
 refine .done (.ff rfl (.skip (.seq (.sr ?_))))
 refine .m ?_
 refine .x .ln ?_
 refine .x .fa ?_
 refine .x (.ld 0) ?_
 refine .x .ln ?_
 refine .i ?_ (z:=neq_f (by omega))
 refine .done (.ff rfl (.skip (.sr ?_)))
 refine .m ?_
 refine .c rfl rfl rfl rfl (fun H hs=> .f ca111 rfl (told_c M H l hl A cap (hT.le hs.base))) ?_
 refine .m ?_
 refine .x .et ?_
 refine .x .et ?_
 refine .e (.al (zz:=fun b11=> ?_))
 refine .e (Or.storeT (E:=en) 0 rfl rfl rfl rfl rfl lA rfl (by exact rfl) lB rfl lC ?_)
 refine .g ?_
 refine .done (.seq (.sr ?_))
 refine .m ?_
 refine .i ?_ (z:=neq_f (by omega))
 refine .done (.ff rfl (.skip (.seq ?_)))
 cases ht:k.tune (placesTo code 7) (pad6 l) with
 | none=>
   refine .r ?_
   refine .x (.ld 2) ?_
   refine .x (.ld 1) ?_
   refine .x (.ld 0) ?_
   refine .c rfl rfl rfl rfl (fun H hs=> .f ca114 rfl (CallT.is (.tuple ⟨[bandV 0 0,.bool false]⟩) (by rewrite [ht];rfl) (tune_c M H k (Lk.fine hk) code x.1 x.2.1 (pad6 l) hc (edg_of fun y hy=> hs.at_ y (by simp[hy])) hx (by omega) (pad6_len hl.len) (pad6_in hl)))) ?_
   refine .m ?_
   refine .x .et ?_
   refine .x .et ?_
   refine .e (.al (zz:=fun b12=> ?_))
   refine .e (.st 0 (zz:=?_))
   refine .g ?_
   refine .done (.seq (.sr ?_))
   refine .m ?_
   refine .x .nt ?_
   refine .done (.tt rfl (.sr ?_))
   refine .x .bu ?_
   refine .e (.st 4 (zz:=?_))
   refine .g ?_
   refine .done ?_
   refine Tc.retN (E:=en) hK Tryz.func48 Tryz.results48 (vs:= [_,_]) (by refine⟨⟨4,_,_,_,_,_,_,_,rfl,rfl,rfl,rfl⟩,?_⟩;refine⟨rfl,?_⟩;exact trivial) ?_
   exact fun H2 hs=> ⟨hs.base,by rw[ht];rfl⟩
 | some ab=>
   obtain⟨a,b⟩:=ab
   refine .r ?_
   refine .x (.ld 2) ?_
   refine .x (.ld 1) ?_
   refine .x (.ld 0) ?_
   refine .c rfl rfl rfl rfl (fun H hs=> .f ca114 rfl (CallT.is (.tuple ⟨[bandV a b,.bool true]⟩) (by rewrite [ht];rfl) (tune_c M H k (Lk.fine hk) code x.1 x.2.1 (pad6 l) hc (edg_of fun y hy=> hs.at_ y (by simp[hy])) hx (by omega) (pad6_len hl.len) (pad6_in hl)))) ?_
   refine .m ?_
   refine .x .et ?_
   refine .x .et ?_
   refine .e (.al (zz:=fun b12=> ?_))
   refine .e (.st 0 (zz:=?_))
   refine .g ?_
   refine .done (.seq (.sr ?_))
   refine .m ?_
   refine .x .nt ?_
   refine .done (.ff rfl (.skip (.sr ?_)))
   refine .x (.ld 0) ?_
   refine .e (.st 4 (zz:=?_))
   refine .g ?_
   refine .done ?_
   refine Tc.retN (E:=en) hK Tryz.func48 Tryz.results48 (vs:= [_,_]) (by refine⟨⟨4,_,_,_,_,_,_,_,rfl,rfl,rfl,rfl⟩,?_⟩;refine⟨rfl,?_⟩;exact trivial) ?_
   exact fun H2 hs=> ⟨hs.base,by rw[ht];rfl⟩
end
end Go.Proofs.YtpdaenfglbgfkaaGreatDoor
end
section
namespace Go.Proofs.YtpdaenfglbgfkaaGreatDoor
open Go.RL
set_option maxRecDepth 100000
def exL:Lk:=⟨20,20,19,21,0,0, -3,3⟩
def exK:Lk:=⟨20,20,19,21,0,1, -3,3⟩
def exM:Lk:=⟨19,21,19,21,0,0, -3,3⟩
def exC:Ch:=⟨20,20,20,20,19,21,3,fun _=> 0,fun _=> 0,fun _=> -2,fun _=> 2,0,fun _=> 0⟩
theorem exL_ok:exL.ok=true:=by decide +kernel
theorem exK_ok:exK.ok=true:=by decide +kernel
theorem exM_ok:exM.ok=true:=by decide +kernel
theorem ex_edges:placesTo 16 7= [0,5]:=by decide +kernel
theorem ex_edges0:placesTo 0 7= [0,6]:=by decide +kernel
def Lk.views(k:Lk)(c:Nat):List Nat:=((k.stgs c).flatMap fun s=> s.all).map fun x=> x.1
theorem Lk.sees_views {k:Lk}(hk:1≤k.r0){c v:Nat}:k.sees c v=true↔v∈k.views c:=by
 have hr:∀s∈k.stgs c,0<s.read:=fun s hs=> by
   obtain⟨a,r,n,f,h1,h2,h3,h4,rfl⟩:=Lk.mem_stgs.1 hs
   show 0<r
   omega
 unfold Lk.sees Lk.views
 rw[List.any_eq_true,List.mem_map]
 constructor
 · rintro⟨s,hs,hv⟩
   obtain⟨x,hx,e⟩:=(Stg.reach_all (hr s hs)).1 hv
   exact⟨x,List.mem_flatMap.2 ⟨s,hs,hx⟩,e⟩
 · rintro⟨x,hx,e⟩
   obtain⟨s,hs,hx⟩:=List.mem_flatMap.1 hx
   exact⟨s,hs,(Stg.reach_all (hr s hs)).2 ⟨x,hx,e⟩⟩
theorem ex_views:((exK.views 0).any (fun v=> v==64)&&(exK.views 0).any (fun v=> decide (v<128)&&(readN v).isNone)&&(exK.views 0).all (fun v=> v==64||(readN v).isNone))=true:=by decide +kernel
theorem ex_v1:exK.sees 0 64=true:=by
 have h:=ex_views
 simp only[Bool.and_eq_true,List.any_eq_true] at h
 obtain⟨⟨⟨v,hv,e⟩,_⟩,_⟩:=h
 rw[beq_iff_eq] at e
 subst e
 exact(Lk.sees_views (by decide)).2 hv
theorem ex_v2:∃v,v<128∧exK.sees 0 v=true∧(readN v).isNone=true:=by
 have h:=ex_views
 simp only[Bool.and_eq_true,List.any_eq_true,decide_eq_true_eq] at h
 obtain⟨⟨_,v,hv,e1,e2⟩,_⟩:=h
 exact⟨v,e1,(Lk.sees_views (by decide)).2 hv,e2⟩
theorem ex_v3 {v:Nat}(hv:exK.sees 0 v=true):v=64∨(readN v).isNone=true:=by
 have h:=ex_views
 simp only[Bool.and_eq_true,List.all_eq_true,Bool.or_eq_true,beq_iff_eq] at h
 exact h.2 v ((Lk.sees_views (by decide)).1 hv)
theorem ex_right:exK.claim 0=0:=by
 have hr:rightN 0=64:=by decide +kernel
 obtain⟨w,h1,h2,h3⟩:=ex_v2
 have hne:¬exK.seen 0=1:=by
   intro e
   unfold Lk.seen at e
   obtain⟨a,ha⟩:=List.length_eq_one_iff.1 e
   have m1:64∈(List.range 128).filter (exK.sees 0):=List.mem_filter.2 ⟨List.mem_range.2 (by decide),ex_v1⟩
   have m2:w∈(List.range 128).filter (exK.sees 0):=List.mem_filter.2 ⟨List.mem_range.2 h1,h2⟩
   rw[ha,List.mem_singleton] at m1 m2
   rw[m2,←m1] at h3
   exact absurd h3 (by decide)
 unfold Lk.claim
 rw[hr,ex_v1,if_pos rfl,if_neg hne]
theorem ex_reads:(List.range 32).filter (exK.canRead 0)= [0]:=by
 have h:∀n,n<32→exK.canRead 0 n=decide (n=0):=by
   intro n hn
   unfold Lk.canRead
   by_cases e:n=0
   · subst e
     exact ex_v1
   · rw[decide_eq_false e]
     cases hs:exK.sees 0 (64+2*n) with
     | false=> rfl
     | true=>
       rcases ex_v3 hs with h1|h1
       · omega
       · rw[(readN_iff (64+2*n) (by omega) n hn).2 rfl] at h1
         cases h1
 rw[List.filter_congr fun n hn=> h n (List.mem_range.1 hn)]
 decide
theorem ex_refused:exK.refused 0=0:=by
 obtain⟨w,h1,h2,h3⟩:=ex_v2
 have hb:exK.bad 0=true:=by
   unfold Lk.bad
   rw[List.any_eq_true]
   exact⟨w,List.mem_range.2 h1,by rw[h2,h3];rfl⟩
 have hk:(keepTo (exK.canRead 0) 32).length=1:=by
   unfold keepTo
   rw[ex_reads]
   rfl
 unfold Lk.refused
 rw[hb,hk]
 rfl
theorem ex_wrong:exK.wrong 0=some (20,19,1,[-3,3]):=by decide +kernel
theorem ex_sure:((List.range 32).filter exK.sureOf).length=16∧((List.range 32).filter exK.sureOf)[0]? =some 16:=by decide +kernel
theorem ex_tune:exM.tune (placesTo 0 7) (pad6 [0,243])=some (20,20):=by decide +kernel
theorem ex_sent:(List.range 32).filter (exL.sentOf [0,243])= [0]:=by decide +kernel
theorem ex_margin:exL.margin=3:=by decide +kernel
theorem ex_paces:(List.range 41).filter exL.good= [19,20,21]:=by decide +kernel
theorem ex_weak:exC.first=some 0∧exC.bad 0=some 0:=by decide +kernel
theorem ex_spots:exC.spots=some [1]:=by decide +kernel
end Go.Proofs.YtpdaenfglbgfkaaGreatDoor
end
