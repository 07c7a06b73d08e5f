/-
  Texts of the proofs over baudot/dial: W2 X3 Draw6 X4 Z1 Z2.
-/
import Derived.Test.YtldmfjcgjdchcaaGreatDoorQ11
namespace Go.Proofs.YtldmfjcgjdchcaaGreatDoor
open Go.RL Go.Proofs.Tryz Go.Conc Go.ConcN Go.RL.Au
open Go.ConcR (stA smA)
set_option maxRecDepth 10000
set_option maxHeartbeats 16000000
theorem ro_some {H:View}{b:Nat}{f:Bool}{o:Obj}(h:H b=some (f,o)):ro H b=some (false,o):=by simp[ro,h]
theorem ro_none {H:View}{b:Nat}(h:H b=none):ro H b=none:=by simp[ro,h]
def Keeps(H H':View):Prop:=∀b f o,H b=some (f,o)→∃f',H' b=some (f',o)
theorem src_of {H H':View}{sz m:Nat}{y:Value}{l:List Value}(h:SrcAt H sz y m l)(k:Keeps H H'):SrcAt H' sz y m l:=by
 obtain⟨h1,h2,h3⟩:=h;refine⟨h1,h2,h3.imp id ?_⟩;rintro⟨b,off,c,f,cs,e,fz,h4,h5,h6,h7⟩;obtain⟨f',h5'⟩:=k _ _ _ h5;exact⟨b,off,c,f',cs,e,fz,h4,h5',h6,h7⟩
theorem BookAt.of {H H':View}{k:Bk}{A:Option Addr}{lc:Nat}{B:Option Addr}{tc:Nat}{F:Nat→Option Addr}{fc:Nat→Nat}(h:BookAt H k A lc B tc F fc)(hk:Keeps H H'):BookAt H' k A lc B tc F fc:=
 ⟨h.hlc,h.htc,src_of h.rows hk,src_of h.trains hk,h.hfc,fun i hi=> src_of (h.free i hi) hk⟩
structure StAt(X:Fk)(k:Bk)(H:View)(b5 b6:Nat)(A:Option Addr)(lc:Nat)(B:Option Addr)(tc:Nat)(F:Nat→Option Addr)(fc:Nat→Nat):Prop where
 bk:BookAt H k A lc B tc F fc
 sm:k.small
 al:k.alarm=0
 n:X.n=k.nt
 h5:∃f,H b5=some (f,.cells ⟨(k.val A lc B tc).cells.toList⟩ 166 (0,0))
 h6:∃f,H b6=some (f,.cells ⟨[.slice (some ⟨X.C,0,none⟩) k.nt k.nt]⟩ 24 (0,0))
 C0:H X.C=none
 GI:X.GI=GIl k
theorem StAt.of {X:Fk}{k:Bk}{H H':View}{b5 b6:Nat}{A:Option Addr}{lc:Nat}{B:Option Addr}{tc:Nat}{F:Nat→Option Addr}{fc:Nat→Nat}(h:StAt X k H b5 b6 A lc B tc F fc)(hk:Keeps H H')(h0:H' X.C=none):StAt X k H' b5 b6 A lc B tc F fc:=
 ⟨h.bk.of hk,h.sm,h.al,h.n,let ⟨_,g⟩:=h.h5;hk _ _ _ g,let ⟨_,g⟩:=h.h6;hk _ _ _ g,h0,h.GI⟩
abbrev b33:FB:=⟨51,.normal,none⟩
noncomputable def L33:Code:=cR (cL (cR (cR (cR (cR (cR (bodyOf Tryz.f51)))))))
noncomputable def B33:Code:=cB (cB L33)
noncomputable def T33:Code:=cR (cR (cR (cR (cR (cR (bodyOf Tryz.f51))))))
section
variable {X:Fk}{k:Bk}{b1 b5 b6:Nat}{A:Option Addr}{lc:Nat}{B:Option Addr}{tc:Nat}{F:Nat→Option Addr}{fc:Nat→Nat}{Fin:Goroutine→Prop}{cs:List Frame}
def rgS(X:Fk)(k:Bk)(b1 b5 b6 j:Nat):Rg:= [(1,.pointer (some ⟨b1,0,none⟩)),(5,.pointer (some ⟨b5,0,none⟩)),(6,.pointer (some ⟨b6,0,none⟩)),(7,.pointer (some ⟨X.Wg,0,none⟩)),(24,.int .i64 (k.nt:Nat)),(25,.int .i64 (j:Nat))]
theorem start_loop(hfin:∀(R:Rg),AllIn (rgS X k b1 b5 b6 k.nt) R→∀κ (H:View),Sc (Jm prog X Fin κ .wd k.nt H) 50 b33 cs R [] [.code T33]):∀(d j κ:Nat) (H:View),j+d=k.nt→StAt X k H b5 b6 A lc B tc F fc→∀(R:Rg),AllIn (rgS X k b1 b5 b6 j) R→
   Sc (Jm prog X Fin κ (if j<X.n then .kd else .wd) j H) 50 b33 cs R [] [.code B33,.inLoop B33,.inBlock 0,.code T33]
 | 0,j,κ,H,hj,hst,R,hR=> by
   have e:j=k.nt:=by omega
   subst e;rw[if_neg (by rw[hst.n];omega)];refine Sc.drop hR ?_;unfold rgS;refine .sq (.rg rfl rfl ?_);refine .i ?_ (z:=lss_f (by omega));refine .dn ?_;refine Sc.seq Jm.cl (Sc.cond Jm.cl (t:=false) rfl (fun h=> nomatch h) (fun _=> ?_));refine .xt rfl ?_;exact hfin _ ⟨rfl,rfl,rfl,rfl,rfl,rfl,trivial⟩ κ H
 | d + 1,j,κ,H,hj,hst,R,hR=> by
   rw[if_pos (by rw[hst.n];omega)];refine Sc.drop hR ?_;unfold rgS;obtain⟨hg,hnl,hnt,hok⟩:=Bk.valid hst.al;refine .sq (.rg rfl rfl ?_);refine .i ?_ (z:=lss_t (by omega));refine .dn ?_;refine Sc.seq Jm.cl (Sc.cond Jm.cl (t:=true) rfl (fun _=> ?_) (fun h=> nomatch h));refine .sp (.sq (.bl (.sq ?_)));refine Sc.none hst.C0 ?_;refine Sc.ofTc (SymSt.nil H) ?_;refine .r ?_;refine .m ?_;refine .e (.al (zz:=fun b8=> ?_));refine .e (.st 0 (zz:=?_));refine .done ?_;refine Tc.ofSc (fun H1 hs=> Sc.stopNone (fun hC1=> ?_));have hst1:StAt X k H1 b5 b6 A lc B tc F fc:=hst.of (fun b f o h=> ⟨f,hs.base _ _ h⟩) hC1;have h8:=hs.get (i:=0) rfl;show Sc (Jm prog X Fin κ .kd j H1) 50 b33 cs _ [] _;refine .sq (.rg rfl rfl ?_);refine So.callD rfl rfl rfl nofun rfl (.mk' rfl) rfl (addone_c) ?_;rintro v J' ⟨rfl,κ',rfl⟩;refine .dn (.rg rfl rfl ?_);refine So.opD Jm.cl rfl rfl rfl rfl (OpP.makeFunc rfl rfl rfl) ?_;have hst2:StAt X k (ro H1) b5 b6 A lc B tc F fc:=hst1.of (fun b f o h=> ⟨false,ro_some h⟩) (ro_none hC1);refine Jm.go (f:=125) (fn:=#[]) (caps:=(wkVs X b5 b8 b6).toArray) rfl nofun rfl rfl rfl rfl rfl rfl rfl (fun k1 _=> ?_) (fun k1 _=> ?_)
   · refine .dn (.ib (.rg rfl rfl ?_));refine .i ?_ (z:=add_in (by omega) (by omega));refine .m ?_;refine .dn ?_;refine Sc.inLoop (by exact Jm.cl) ?_;exact start_loop hfin d (j+1) k1 (ro H1) (by omega) hst2 _ ⟨rfl,rfl,rfl,rfl,rfl,rfl,trivial⟩
   · exact worker_c ⟨hst2.bk,hst.sm.nl,fun i hi=> (hst.sm.num i hi).2,hok,hnt,by omega,by omega,hst2.h5,⟨false,ro_some h8⟩,hst2.h6,by omega,hst.GI⟩ k1
end
theorem Ph.of₁ {P:Program}{H:View}{g:Goroutine}{Po:View→Goroutine→Prop}(h:Ph₁ P H g Po):Ph P H g Po:=
 ⟨H,fun _=> none,Po,fun _ _ h=> (nomatch h),(by funext b;unfold View.plus;cases H b <;> rfl),h,fun H' g' _ hp=> by
   have e:H'.plus (fun _=> none)=H':=by funext b;unfold View.plus;cases H' b <;> rfl
   rwa [e]⟩
def View.beside(X:Fk)(H:View):View:=(H.without X.C).without X.Wg
theorem beside_none {X:Fk}{H:View}:View.beside X H X.Wg=none∧View.beside X H X.C=none:=by
 refine⟨?_,?_⟩ <;> unfold View.beside View.without <;> simp
theorem beside_some {X:Fk}{H:View}{b:Nat}(h1:b≠X.C)(h3:b≠X.Wg):View.beside X H b=H b:=by
 unfold View.beside;rw[without_other h3,without_other h1]
theorem Ph.begin {P:Program}{H:View}{g:Goroutine}{Po:View→Goroutine→Prop}(X:Fk)(Fin:Goroutine→Prop)(o:Obj)(hn:X.n≤6)(ne:X.Wg≠X.C)
   (hC:H X.C=some (true,o)) (hWg:H X.Wg=some (true,X.wgO ⟨0,0,0⟩)) (hGI:X.GI (fun _=> false) o)
   (hg:∀k,T (Mw P true X.ok) (MS P X Fin k (if 0<X.n then .kd else .wd) 0) (ro (View.beside X H)) g) (hPo:∀o' g',X.GI (fun i=> decide (i<X.n)) o'→Fin g'→Po ((View.beside X H).put X.C (true,o')) g'):Ph P H g Po:=by
 refine Ph.of₁ ⟨X,Fin,View.beside X H,o,hn,ne,beside_none,?_,hGI,hg,hPo⟩
 funext b
 by_cases e1:b=X.Wg
 · subst e1;rw[View.put_same,hWg]
 · rw[View.put_other _ _ e1];by_cases e3:b=X.C
   · subst e3;rw[View.put_same,hC]
   · rw[View.put_other _ _ e3,beside_some e3 e1]
theorem So.all {J:Obj→Goroutine→Prop}{p:Obj→Prop}{n:Nat}{b:FB}{cs:List Frame}{dl:List (Option Tmp)}{R:Rg}{ds:List Deferred}{l:List Oper}{kk:List Item}(h:∀o,p o→So (J o) n b cs dl R ds l kk):So (fun g=> ∀o,p o→J o g) n b cs dl R ds l kk:=
 fun arr ix ha hx tmps hr o ho=> h o ho arr ix ha hx tmps hr
def Bk.lookTo(k:Bk):Nat→Int×Int
 | 0=> (-1,(k.resL.length:Nat))
 | j+1=> if((k.left j:Nat):Int)<(k.lookTo j).2 then((j:Nat),((k.left j:Nat):Int)) else k.lookTo j
def Bk.look(k:Bk):Int×Int:=k.lookTo k.nt
def lookV(p:Int×Int):Value:=.tuple ⟨[.int .i64 p.1,.int .i64 p.2,.int .i64 0]⟩
section
theorem Look_c(H:View)(k:Bk)(A:Option Addr)(lc:Nat)(B:Option Addr)(tc:Nat)(F:Nat→Option Addr)(fc:Nat→Nat)(hB:BookAt H k A lc B tc F fc)(hn:k.small)(hG:Glob H)(ha:k.alarm=0):
   CallT (Mp prog) 51 #[k.val A lc B tc] H (fun v H'=> H.le H'∧v=lookV k.look):=by
 obtain⟨hgg,hnl,hnt,hok⟩:=Bk.valid ha;have hop:=fun(H':View) (h':H.le H')=> open_yes (Mp prog) H' k A lc B tc (hB.bk.le h') hn (glob_le hG h') ha;refine .en func51 ntmps51 fun St c cs hK=> ?_;refine .sr ?_;refine .e (.bx (zz:=fun b1=> ?_));refine .g ?_;refine .g ?_;refine .g ?_;refine .done (.sr ?_);refine .x (.ld 0) ?_;refine .c rfl rfl rfl rfl (fun H hs=> .f ca85 rfl (hop H hs.base)) ?_;refine .m ?_;refine .x .et ?_;refine .x .et ?_;refine .e (.al (zz:=fun b5=> ?_));refine .e (.st 0 (zz:=?_));refine .g ?_;refine .done (.seq (.sr ?_));refine .m ?_;refine .i ?_ (z:=neq_f (by omega));refine .done (.ff rfl (.skip (.sr ?_)));refine .x .fa ?_;refine .x (.ld 1) ?_;refine .x .ln ?_;refine .e (Or.makeSlice (E:=en) (len:=k.nt) (cap:=k.nt) rfl rfl rfl rfl rfl rfl (Nat.le_refl _) (by omega) rfl rfl (by decide) (fun bC=> ?_));refine .e (.al (zz:=fun b6=> ?_));refine .e (.st 0 (zz:=?_));refine .done (.sr ?_);refine .e (.al (zz:=fun b7=> ?_));refine .done (.seq (.sr ?_));refine .x (.ld 1) ?_;refine .x .ln ?_;refine .m ?_;refine .done ?_;refine Tc.ofSc (fun Hx hs tmps hr=> ?_);obtain⟨X,hX⟩:∃X:Fk,X=⟨k.nt,b7,bC,233,GIl k⟩:=⟨_,rfl⟩
 have x1:=hs.get (i:=0) rfl;have x2:=hs.get (i:=1) rfl;have x3:=hs.get (i:=2) rfl;have x4:=hs.get (i:=3) rfl;have x5:=hs.get (i:=4) rfl;have hnd: [b7,b6,bC,b5,b1].Nodup:=hs.nodup;simp only[List.nodup_cons,List.mem_cons,List.not_mem_nil,or_false,not_or,not_false_eq_true,List.nodup_nil,and_true] at hnd;obtain⟨⟨n1,n2,n3,n4⟩,⟨n5,n6,n7⟩,⟨n8,n9⟩,n10⟩:=hnd;have hout:∀y,y=bC∨y=b7→H y=none:=by
   rintro y (rfl|rfl)
   · exact hs.out _ (List.mem_cons_of_mem _ (List.mem_cons_of_mem _ List.mem_cons_self))
   · exact hs.out _ List.mem_cons_self
 have hle:H.le (View.beside X Hx):=fun b y hb=> by
   have e:∀z,z=bC∨z=b7→b≠z:=fun z hz e=> by subst e;rw[hout b hz] at hb;cases hb
   rw[beside_some (by subst hX;exact e _ (.inl rfl)) (by subst hX;exact e _ (.inr rfl))];exact hs.base _ _ hb
 have y5:View.beside X Hx b5=some (true,.cells ⟨(k.val A lc B tc).cells.toList⟩ 166 (0,0)):=by
   subst hX;rw[beside_some (by exact Ne.symm n8) (by exact Ne.symm n3)];exact x4
 have y6:View.beside X Hx b6=some (true,.cells ⟨[.slice (some ⟨bC,0,none⟩) k.nt k.nt]⟩ 24 (0,0)):=by
   subst hX;rw[beside_some n5 (by exact Ne.symm n1)];exact x2
 obtain⟨Fin,hF⟩:∃Fin:Goroutine→Prop,Fin=fun g=> ∀o',X.GI (fun i=> decide (i<X.n)) o'→T (Mp prog) St ((View.beside X Hx).put X.C (true,o')) g:=⟨_,rfl⟩
 have hcF:Cl prog true noSh Fin:=⟨fun g g' hs h hf=> by
   subst hF;exact fun o' ho=> .step ⟨hs,fun w hw hok=> ⟨g',w,#[],_,h w (fun _ _ e=> by cases e),.refl hw,hf o' ho⟩⟩⟩
 have hz:zeroRow [Value.int .i64 0] (k.nt*1)=leftL k (fun _=> false):=by
   rw[zeroRow_one,Nat.mul_one];unfold leftL;simp[List.map_const']
 refine T.phase (Po:=fun H' g'=> T (Mp prog) St H' g') (Ph.begin X Fin (.cells ⟨leftL k (fun _=> false)⟩ 3 (0,0)) (by subst hX;exact hnt) (by subst hX;exact n2) (by subst hX;rw[←hz];exact x3) (by subst hX;exact x1) (by subst hX;exact rfl) (fun κ=> ?_) (fun o' g' ho hg=> by subst hF;exact hg o' ho)) (fun H' g' h=> h);have hst:StAt X k (ro (View.beside X Hx)) b5 b6 A lc B tc F fc:=
   ⟨hB.of (fun b f o h=> ⟨false,ro_some (hle _ _ h)⟩),hn,ha,by subst hX;rfl,⟨false,ro_some y5⟩,by subst hX;exact⟨false,ro_some y6⟩,ro_none beside_none.2,by subst hX;rfl⟩
 have hfin:∀(R:Rg),AllIn (rgS X k b1 b5 b6 k.nt) R→∀κ (H:View),Sc (Jm prog X Fin κ .wd k.nt H) 50 b33 (c::cs) R [] [.code T33]:=by
   intro R hR κ Hk;refine Sc.drop hR ?_;unfold rgS;refine .sq (.rg rfl rfl ?_);refine So.callD rfl rfl rfl nofun rfl (.mk' rfl) rfl (wait_c hcF) ?_;rintro v J' ⟨rfl,rfl⟩;subst hF;refine So.all (fun o' ho'=> ?_);have hGI:X.GI=GIl k:=by subst hX;rfl
   rw[hGI] at ho';have ho2:o'=.cells ⟨leftL k (fun i=> decide (i<X.n))⟩ 3 (0,0):=ho';subst ho2;have hX2:X.n=k.nt:=by subst hX;rfl
   have z5:(View.beside X Hx).put X.C (true,.cells ⟨leftL k (fun i=> decide (i<X.n))⟩ 3 (0,0)) b5=some (true,.cells ⟨(k.val A lc B tc).cells.toList⟩ 166 (0,0)):=by
     rw[View.put_other _ _ (by subst hX;exact Ne.symm n8)];exact y5
   have z6:(View.beside X Hx).put X.C (true,.cells ⟨leftL k (fun i=> decide (i<X.n))⟩ 3 (0,0)) b6=some (true,.cells ⟨[.slice (some ⟨X.C,0,none⟩) k.nt k.nt]⟩ 24 (0,0)):=by
     rw[View.put_other _ _ (by subst hX;exact n5)];subst hX;exact y6
   have zC:(View.beside X Hx).put X.C (true,.cells ⟨leftL k (fun i=> decide (i<X.n))⟩ 3 (0,0)) X.C=some (true,.cells ⟨leftL k (fun i=> decide (i<X.n))⟩ 3 (0,0)):=View.put_same ..;have zle:H.le ((View.beside X Hx).put X.C (true,.cells ⟨leftL k (fun i=> decide (i<X.n))⟩ 3 (0,0))):=fun b y hb=> by
     rw[View.put_other _ _ (by rintro rfl;subst hX;rw[hout bC (.inl rfl)] at hb;cases hb)];exact hle _ _ hb
   generalize (View.beside X Hx).put X.C (true,.cells ⟨leftL k (fun i=> decide (i<X.n))⟩ 3 (0,0))=H2 at z5 z6 zC zle;refine So.ofTo (SymSt.nil H2) ?_;refine .done (.sr ?_);refine .x .l0 ?_;refine To.callF rfl rfl rfl rfl rfl rfl (by decide) (FnT.f ca122 rfl (results_c _ H2 k A lc B tc (hB.bk.le zle).rows hn.nl (hB.bk.le zle).trains hok hnt)) (fun v H₃ hv=> ?_);obtain⟨hle3,m,es,cl,rfl,⟨fm,q3⟩,q4⟩:=hv;have hsz:=Bk.res_size q4;have z6':=hle3 _ _ z6;have zC':=hle3 _ _ zC;refine .x (OpV.lenMap (E:=en) (es:=es) rfl rfl rfl rfl rfl (fun H hs=> ⟨fm,hs.base _ _ q3⟩) rfl rfl) ?_;refine .g ?_;refine .g ?_;refine .done ?_;rw[hsz];refine .seq (.sr ?_);refine .x .l0 ?_;refine .x .ln ?_;refine .m ?_;refine .done (.block ?_);refine Tc.db (Tc.loopInv (σ:= { j:Nat//j≤k.nt }) (fun j=> ([(2,.int .i64 (k.lookTo j.1).1),(3,.int .i64 (k.lookTo j.1).2),(35,.slice (some ⟨X.C,0,none⟩) k.nt k.nt),(36,.int .i64 (k.nt:Nat)),(37,.int .i64 (j.1:Nat))],[])) (fun j=> k.nt-j.1) ?_ ⟨0,Nat.zero_le _⟩);rintro⟨j,hj⟩ ih;show Tc (Mp prog) St _ _ _ _ [(2,.int .i64 (k.lookTo j).1),(3,.int .i64 (k.lookTo j).2),(35,.slice (some ⟨X.C,0,none⟩) k.nt k.nt),(36,.int .i64 (k.nt:Nat)),(37,.int .i64 (j:Nat))] [] _ _;by_cases c1:j=k.nt
   · subst c1;refine .sr ?_;refine .i ?_ (z:=lss_f (by omega));refine .done (.seq (.ff rfl (.exit rfl (.sr ?_))));refine .m ?_;refine .m ?_;refine .g ?_;refine .g ?_;refine .g ?_;refine .done ?_;refine .rt hK func51 results51 [_,_,_] ?_;exact fun H' hs=> ⟨View.le_trans zle (View.le_trans hle3 hs.base),rfl⟩
   · have c2:j<k.nt:=by omega
     have f1:ldL false 1 (leftL k (fun i=> decide (i<X.n))) (0+((j:Nat):Int).toNat*1)=some (.int .i64 ((k.left j:Nat):Int)):=by
       show _[_]? =_;rw[Nat.zero_add,Int.toNat_natCast,Nat.mul_one];unfold leftL;rw[List.getElem?_map,List.getElem?_range c2];simp[hX2,c2]
     by_cases c3:((k.left j:Nat):Int)<(k.lookTo j).2
     · have e:k.lookTo (j+1)=(((j:Nat):Int),((k.left j:Nat):Int)):=by rw[Bk.lookTo,if_pos c3]
       refine .sr ?_;refine .i ?_ (z:=lss_t (by omega));refine .done (.seq (.tt rfl (.skip (.seq (.block (.sr ?_))))));refine .m ?_;refine .x .ia ?_;refine .x .l0 ?_;refine .g ?_;refine .g ?_;refine .done (.sr ?_);refine .m ?_;refine .m ?_;refine .i ?_ (z:=lss_t (by omega));refine .done (.tt rfl (.r ?_));refine .m ?_;refine .m ?_;refine .g ?_;refine .g ?_;refine .done (.inBlock (.r ?_));refine .i ?_ (z:=add_in (by omega) (by omega));refine .m ?_;refine .done ?_;refine Tc.dropB (ih ⟨j+1,c2⟩ (by simp only;omega)) ?_ (by exact List.Sublist.refl _);simp only[e];exact⟨rfl,rfl,rfl,rfl,rfl,trivial⟩
     · have e:k.lookTo (j+1)=k.lookTo j:=by rw[Bk.lookTo,if_neg c3]
       refine .sr ?_;refine .i ?_ (z:=lss_t (by omega));refine .done (.seq (.tt rfl (.skip (.seq (.block (.sr ?_))))));refine .m ?_;refine .x .ia ?_;refine .x .l0 ?_;refine .g ?_;refine .g ?_;refine .done (.sr ?_);refine .m ?_;refine .m ?_;refine .i ?_ (z:=lss_f (by omega));refine .done (.ff rfl (.skip (.inBlock (.r ?_))));refine .i ?_ (z:=add_in (by omega) (by omega));refine .m ?_;refine .done ?_;refine Tc.dropB (ih ⟨j+1,c2⟩ (by simp only;omega)) ?_ (by exact List.Sublist.refl _);simp only[e];exact⟨rfl,rfl,rfl,rfl,rfl,trivial⟩
 refine Sc.block Jm.cl (Sc.loop Jm.cl ?_) tmps hr;have hgo:=start_loop hfin k.nt 0 κ (ro (View.beside X Hx)) (by omega) hst;subst hX;exact hgo _ (by unfold rgS;refine⟨rfl,?_⟩;refine⟨rfl,?_⟩;refine⟨rfl,?_⟩;refine⟨rfl,?_⟩;refine⟨rfl,?_⟩;refine⟨rfl,?_⟩;exact trivial)
end
end Go.Proofs.YtldmfjcgjdchcaaGreatDoor
namespace Go.Proofs.YtldmfjcgjdchcaaGreatDoor
open Go.RL Go.Proofs.Tryz
set_option maxRecDepth 100000
theorem ex_heardD:bkD.heardL= [[49,50],[49,51]]:=by decide +kernel
theorem ex_heardE:bkE.heardL= [[49,49,50],[50,50]]:=by decide +kernel
theorem ex_clD:(bkD.claimOf 0=0∧bkD.claimOf 1=0∧bkD.claimOf 2=2)∧bkD.claimOf (-1)=2:=by decide +kernel
theorem ex_clE:(bkE.claimOf 0=2∧bkE.claimOf 1=2∧bkE.claimOf 2=0)∧bkE.claimOf (-1)=0:=by decide +kernel
theorem ex_in1:(firstTo (fun i=> !bkE.inAt (exAt [1,1,2]) (exAt [3,9,9]) i) 3).isSome=false∧bkE.earTo (exAt [1,1,2]) (exAt [3,9,9]) 3=⟨[50,50],0,false⟩∧bkE.line [50,50]=some 2:=by decide +kernel
theorem ex_in2:(firstTo (fun i=> !bkE.inAt (exAt [1,1,2]) (exAt [5,9,9]) i) 3).isSome=false∧bkE.earTo (exAt [1,1,2]) (exAt [5,9,9]) 3=⟨[49,49,50],0,false⟩∧bkE.line [49,49,50]=none:=by decide +kernel
theorem ex_look:bkD.look=(1,1):=by decide +kernel
theorem ex_setD:bkD.settled=none:=by decide +kernel
theorem ex_know:trainOk 2 2 6 6=true∧bkD.nowOk 1 2 2 6 6=true:=by decide +kernel
theorem ex_setO:bkO.settled=some (2,0):=by decide +kernel
theorem ex_taken:(bkD.takenAt 1 0=2∧bkD.takenAt 1 1=0)∧bkD.needTo 1 2=2:=by decide +kernel
theorem ex_slips:ascI (bkD.hits 0)= [1,2]:=by decide +kernel
theorem ex_safe3:bkD.safeV [51]=.tuple ⟨[.bool false,.int .i64 0]⟩:=by
 have h:isNum [51]=true∧bkD.clash [51]=false∧bkD.safe [51]=false:=by decide +kernel
 unfold Bk.safeV;rw[if_neg (by rw[bkD_al];decide),if_neg (by rw[h.1];decide),if_neg (by rw[h.2.1];decide),h.2.2]
theorem ex_safe5:bkD.safeV [53]=.tuple ⟨[.bool true,.int .i64 0]⟩:=by
 have h:isNum [53]=true∧bkD.clash [53]=false∧bkD.safe [53]=true:=by decide +kernel
 unfold Bk.safeV;rw[if_neg (by rw[bkD_al];decide),if_neg (by rw[h.1];decide),if_neg (by rw[h.2.1];decide),h.2.2]
theorem ex_spare:bkD.spareV 1 true=spare3 [48] true 0:=by
 have h:bkD.spare 1 true=some [48]:=by decide +kernel
 unfold Bk.spareV;rw[if_neg (by rw[bkD_al];decide),if_neg (by decide)];show(match bkD.spare 1 true with|some x=> spare3 x true 0|none=> spare3 [] false 0)=_;rw[h]
theorem ex_pulses:pulsesV [49,50,48]=.tuple ⟨[.int .i64 13,.int .i64 0]⟩:=by
 have h:isNum [49,50,48]=true∧takenN [49,50,48]=13:=by decide +kernel
 unfold pulsesV;rw[if_neg (by rw[h.1];decide),h.2];rfl
theorem ex_cheap:(canTo 2 2).length≤12∧(firstTo (fun j=> !weightOk (exAt [5,3,1] j)) 3).isSome=false∧(cheap (exAt [5,3,1]) 3 2 2).total=18∧(cheap (exAt [5,3,1]) 3 2 2).done=true∧(cheap (exAt [5,3,1]) 3 2 2).best= [[49],[50,49],[50,50]]:=by decide +kernel
theorem ex_follow1:bkE.followV 3 3 (exAt [1,1,2]) (exAt [3,9,9])=follow3 [50,50] 2 0:=by
 obtain⟨h1,h2,h3⟩:=ex_in1;unfold Bk.followV;rw[if_neg (by rw[bkE_al];decide),if_neg (by decide)];show(if(firstTo (fun i=> !bkE.inAt (exAt [1,1,2]) (exAt [3,9,9]) i) 3).isSome=true then _ else follow3 (bkE.earTo (exAt [1,1,2]) (exAt [3,9,9]) 3).heard (firstI (bkE.line (bkE.earTo (exAt [1,1,2]) (exAt [3,9,9]) 3).heard)) 0)=_;rw[h1,h2];simp only[Bool.false_eq_true,if_false];rw[h3];rfl
theorem ex_follow2:bkE.followV 3 3 (exAt [1,1,2]) (exAt [5,9,9])=follow3 [49,49,50] (-1) 0:=by
 obtain⟨h1,h2,h3⟩:=ex_in2;unfold Bk.followV;rw[if_neg (by rw[bkE_al];decide),if_neg (by decide)];show(if(firstTo (fun i=> !bkE.inAt (exAt [1,1,2]) (exAt [5,9,9]) i) 3).isSome=true then _ else follow3 (bkE.earTo (exAt [1,1,2]) (exAt [5,9,9]) 3).heard (firstI (bkE.line (bkE.earTo (exAt [1,1,2]) (exAt [5,9,9]) 3).heard)) 0)=_;rw[h1,h2];simp only[Bool.false_eq_true,if_false];rw[h3];rfl
end Go.Proofs.YtldmfjcgjdchcaaGreatDoor
namespace Go.RL
open Go.Conc
section
variable {P:Program}{M:Md P}{St:View→Goroutine→Prop}{n:Nat}{b:FB}{H₀:View}{cs:List Frame}{R:Rg}{L:Bl}{ds:List Deferred}{k:List Item}{md:Region.Mode}{ops:Array Oper}
theorem Ta.callL2(i j:Nat){B:List Nat}{Hs:View}{Ls Lb:Bl}{o:Oper}{d:Nat}{fuel:Nat}{listed:Array Bool}{cl:Go.Call}{x:Operand}{fv:Value}{az:List Value}(hr:Region.ready md ops listed= [i,j])(hi:ops[i]? =some o)
   (hw:wantB (ops.toList.map (fun o:Oper=> o.dst)) R o=some true) (hop:o.op=.call cl) (hcl:cl.callee=.value x) (hx:evR R x=some fv) (has:evRs R cl.args.toList=some az) (hd:o.dst=some d) (hn:d<n)
   {Q:Value→View→Prop} (hc:FnT M fv az H₀ Q) (hle:∀v H₁,Q v H₁→Hs.le H₁) (h1:Ls.Sublist L) (h2:(B.all fun j=> !((listed.setIfInBounds i true).getD j true))=false∨Lb.Sublist L)
   (hk:∀v H₁,Q v H₁→Ta M St n b H₁ cs (S2 Hs B Ls Lb) md ops fuel (listed.setIfInBounds i true) ((d,v)::R) L ds k)
   (hj:TaOp M St n b H₀ cs (S2 Hs B Ls Lb) md ops fuel listed R L ds k j):
   Ta M St n b H₀ cs (S2 Hs B Ls Lb) md ops (fuel+1) listed R L ds k:=fun H tmps hs hr' _ H₂ h2' _=> by
 have hs:=hs.mono h2';refine⟨fun e=> (by rw[hr] at e;cases e),fun j' hj' o' ho'=> ?_⟩;rw[hr] at hj';have hcase:j'=i∨j'=j:=by simpa using hj'
 rcases hcase with rfl|rfl
 · rw[hi] at ho';cases ho'
   refine⟨(by rw[hop];rfl),?_⟩;have hw':Region.wanted o (yielded ops tmps)=true:=wantB_ok (fun j=> by
     simp only[List.getElem?_map,Array.getElem?_toList];cases ops[j]? <;> rfl) hr' hw
   rw[if_pos hw'];obtain⟨F,rfl,hdj,hF⟩:=hs.split;have e1:=hr'.ev hx;have hmap:cl.args.map (evT tmps)=az.toArray:=by
     apply Array.ext'
     simpa using hr'.evs has
   have hex:execOp (evT tmps) o=(Deferred.ofValue fv az.toArray).bind fun d=> invoke d.target d.args:=by
     have h1:execOp (evT tmps) o=(resolve (evT tmps) cl o.type).bind fun d=> invoke d.target d.args:=by unfold execOp;rw[hop];rfl
     rw[h1];unfold resolve;rw[hcl];simp only[e1,hmap]
   unfold OpRun;rw[hex];have fin:∀v H'',Beside F Q v H''→S2 Hs B Ls Lb (listed.setIfInBounds j' true) H''∧AnyT M md ops (S2 Hs B Ls Lb) (fun tmps H=> T M St H (G (b.at tmps ds k) cs)) fuel (listed.setIfInBounds j' true) (putT tmps o.dst v) H'':=by
     rintro v H'' ⟨H₁,rfl,hd',hq⟩;have hsy:SymSt H₁ L (H₁.plus F):=.joined hs.nodup hF hd';have hS:S2 Hs B Ls Lb (listed.setIfInBounds j' true) (H₁.plus F):=S2.mkL (hle v H₁ hq) h1 h2 _ hsy;refine⟨hS,?_⟩;rw[hd];exact hk v H₁ hq _ _ hsy (hr'.put hn v) hS
   refine vwp_mono _ (fun nx H' hn'=> ?_) (hc.frame hdj);cases nx <;> first
     | exact hn'.elim
     | exact CallT.mono hn' fin
     | exact GoT.mono hn' fin
 · obtain⟨o2,ho2,hd2,hw2,h'⟩:=hj;rw[ho'] at ho2;cases ho2
   refine⟨hd2,?_⟩;have hw':Region.wanted o' (yielded ops tmps)=true:=wantB_ok (fun j=> by
     simp only[List.getElem?_map,Array.getElem?_toList];cases ops[j]? <;> rfl) hr' hw2
   rw[if_pos hw'];refine(h' H₂ tmps hs hr').mono ?_;rintro t H' ⟨R',L',h1,h2,h3,h4⟩;exact⟨h3 H' h2,h4 H' t h2 h1 (h3 H' h2)⟩
theorem Tc.viaB {x:Item}(F:View→Rg→Bl→Prop)(hF:∀H R L,F H R L→Tc M St n b H cs R L ds k)(h:(∀H R L,F H R L→Tc M St n b H cs R L ds k)→Tc M St n b H₀ cs R L ds (x::k)):Tc M St n b H₀ cs R L ds (x::k):=h hF
end
end Go.RL
namespace Go.Proofs.YtldmfjcgjdchcaaGreatDoor
open Go.RL Go.Proofs.Tryz
set_option maxRecDepth 10000
set_option maxHeartbeats 32000000
theorem strs_lit {H:View}{b:Nat}{f:Bool}{gt:TypeId}{gz:Nat×Nat}(m:List (List UInt8))(h:H b=some (f,.cells ⟨strsV m⟩ gt gz)):StrsAt H (some ⟨b,0,none⟩) m.length (fun j=> m[j]?.getD []):=
 .inr ⟨b,0,f,_,gt,gz,rfl,h,fun j hj=> by
   show(strsV m)[_]? =_;rw[Nat.zero_add,Int.toNat_natCast,Nat.mul_one];unfold strsV;rw[List.getElem?_map];simp only[List.getElem?_eq_getElem hj];rfl⟩
theorem words_true(l:List (List UInt8)){n:Nat}(hn:n=l.length):(decide (n=l.length)&&allB (fun i=> decide ((fun j=> l[j]?.getD []) i=(fun j=> l[j]?.getD []) i)) n)=true:=by
 rw[decide_eq_true hn,(allB_iff n).2 (fun i _=> decide_eq_true rfl)];rfl
theorem ints_lit {H:View}{b:Nat}{f:Bool}{gt:TypeId}{gz:Nat×Nat}(m:List Int)(h:H b=some (f,.cells ⟨intsL m⟩ gt gz)):FreeAt H (some ⟨b,0,none⟩) m.length (exAt m):=
 .inr ⟨b,0,f,_,gt,gz,rfl,h,fun j hj=> by
   show(intsL m)[_]? =_;rw[Nat.zero_add,Int.toNat_natCast,Nat.mul_one];unfold intsL exAt;rw[List.getElem?_map];simp only[List.getElem?_eq_getElem hj];rfl⟩
theorem cl_at {e:TypeId}(g:Gl e 1){H:View}(h:∀x∈g.bl,H x.1=some x.2){f:Nat→Int}{n:Nat}(hl:g.l=clL f n)(hn:g.n=n):FreeAt H (g.blk.map fun b=> ⟨b,0,none⟩) n f:=by
 cases hb:g.blk with
 | none=>
   have:=g.h0 hb;have:=g.hc;exact .inl (by omega)
 | some b=>
   have hbl:g.bl= [(b,true,.cells ⟨g.l++g.junk⟩ e (0,0))]:=by unfold Gl.bl;rw[hb]
   refine .inr ⟨b,0,true,_,e,(0,0),rfl,h (b,true,.cells ⟨g.l++g.junk⟩ e (0,0)) (by rw[hbl];simp),fun j hj=> ?_⟩;show(g.l++g.junk)[_]? =_;rw[Nat.zero_add,Int.toNat_natCast,Nat.mul_one,List.getElem?_append_left (by rw[hl,clL_len];exact hj),hl];unfold clL;rw[List.getElem?_map,List.getElem?_range hj];rfl
theorem clL_ints(m:List Int):intsL m=clL (exAt m) m.length:=by
 apply List.ext_getElem?
 intro i;unfold intsL clL exAt;rw[List.getElem?_map,List.getElem?_map];by_cases h:i<m.length
 · rw[List.getElem?_range h,List.getElem?_eq_getElem h];simp[h]
 · rw[List.getElem?_eq_none (by omega),List.getElem?_eq_none (by simp;omega)];rfl
theorem three {p:Nat→Prop}(h0:p 0)(h1:p 1)(h2:p 2):∀i,i<3→p i:=fun i hi=> by
 rcases(by omega:i=0∨i=1∨i=2) with rfl|rfl|rfl
 · exact h0
 · exact h1
 · exact h2
theorem two {p:Nat→Prop}(h0:p 0)(h1:p 1):∀i,i<2→p i:=fun i hi=> by
 rcases(by omega:i=0∨i=1) with rfl|rfl
 · exact h0
 · exact h1
theorem strs_src {H:View}{a:Option Addr}{n c:Nat}{l:List (List UInt8)}(h:SrcAt H 1 (.slice a n c) n (strsV l))(hn:n=l.length):StrsAt H a n (fun j=> l[j]?.getD []):=by
 obtain⟨_,_,⟨_,_,h1,h2⟩|⟨b,off,c',f,cs,e,fz,h1,h2,h3,h4⟩⟩:=h
 · have:l= []:=by simpa [strsV] using h2
   exact .inl (by rw[hn,this];rfl)
 · simp only[Value.slice.injEq] at h1;refine .inr ⟨b,off,f,cs,e,fz,h1.1,h2,fun j hj=> ?_⟩;show cs[_]? =_;have hjl:j<l.length:=by omega
   have h5:=congrArg (fun x=> x[j]?) h4;simp only[List.getElem?_take,List.getElem?_drop] at h5;rw[if_pos (by rw[strsV_len];exact hjl)] at h5;rw[Int.toNat_natCast,Nat.mul_one,h5];unfold strsV;rw[List.getElem?_map];simp only[List.getElem?_eq_getElem hjl];rfl
theorem To.permL2 {P:Program}{M:Md P}{St:View→Goroutine→Prop}{n:Nat}{b:FB}{H₀:View}{cs:List Frame}{R:Rg}{L L₁:Bl}{ds:List Deferred}{k:List Item}{dl:List (Option Tmp)}{l:List Oper}(p:L₁.Perm L)(h:To M St n b H₀ cs dl R L₁ ds l k):To M St n b H₀ cs dl R L ds l k:=To.perm p h
theorem lives_c(H:View)(hG:Glob H):CallT (Mp prog) 15 #[] H (fun v H'=> H.le H'∧v=.bool true):=by
 have sD:bkD.small:=ex_small rfl (by decide) rfl rfl;have sE:bkE.small:=ex_small rfl (by decide) rfl rfl;have sO:bkO.small:=ex_small rfl (by decide) rfl rfl;refine .en func15 ntmps15 fun St c cs hK=> ?_;refine U6 ?_;refine To.callF rfl rfl rfl rfl rfl rfl (by decide) (FnT.h (Example_c _ H)) (fun v H1 hv=> ?_);obtain⟨tl1,dA,dlc,dB,dtc,dF,dfc,rfl,hD1⟩:=hv;refine To.callF rfl rfl rfl rfl rfl rfl (by decide) (FnT.h (joined_c _ H1)) (fun v H2 hv=> ?_);obtain⟨le2,eA,elc,eB,etc,eF,efc,rfl,hE2⟩:=hv;have tl2:=View.le_trans tl1 le2;have hD2:=hD1.le le2;have hG2:=glob_le hG tl2;refine .al fun b1=> ?_;refine .al fun b2=> ?_;refine U4 ?_;refine Tc.db (R':= [(1,.pointer (some ⟨b1,0,none⟩)),(2,.pointer (some ⟨b2,0,none⟩))]) (L':= [(b2,true,.cells ⟨(bkE.val eA elc eB etc).cells.toList⟩ 45 (0,0)),(b1,true,.cells ⟨(bkD.val dA dlc dB dtc).cells.toList⟩ 45 (0,0))]) ?_;refine U2 ?_;refine To.callF rfl rfl rfl rfl rfl rfl (by decide) (FnT.h (HeardG_c _ H2 bkD dA dlc dB dtc hD2.bk sD hG2 bkD_al)) (fun v H3 hv=> ?_);obtain⟨le3,g3,rfl,⟨ng3,lg3⟩,mg3⟩:=hv;rw[ex_heardD] at ng3 lg3;refine U6 ?_;have tl3:=View.le_trans tl2 le3;have hD3:=hD2.le le3;have hE3:=hE2.le le3;have hG3:=glob_le hG tl3;refine U ?_;refine Tc.db (R':= [(1,.pointer (some ⟨b1,0,none⟩)),(2,.pointer (some ⟨b2,0,none⟩)),(3,g3.val),(4,.int .i64 0)]) (L':= [(b2,true,.cells ⟨(bkE.val eA elc eB etc).cells.toList⟩ 45 (0,0)),(b1,true,.cells ⟨(bkD.val dA dlc dB dtc).cells.toList⟩ 45 (0,0))]) ?_;refine U2 ?_;refine To.callF rfl rfl rfl rfl rfl rfl (by decide) (FnT.h (Reaches_c _ H3 bkD dA dlc dB dtc hD3.bk sD hG3 bkD_al)) (fun v H4 hv=> ?_);obtain⟨le4,g5,rfl,⟨ng5,lg5⟩,mg5⟩:=hv;rw[ex_clD.2];refine U8 ?_;have tl4:=View.le_trans tl3 le4;have hD4:=hD3.le le4;have hE4:=hE3.le le4;have hG4:=glob_le hG tl4;refine U ?_;refine Tc.db (R':= [(1,.pointer (some ⟨b1,0,none⟩)),(2,.pointer (some ⟨b2,0,none⟩)),(3,g3.val),(4,.int .i64 0),(5,g5.val),(6,.int .i64 2),(7,.int .i64 0)]) (L':= [(b2,true,.cells ⟨(bkE.val eA elc eB etc).cells.toList⟩ 45 (0,0)),(b1,true,.cells ⟨(bkD.val dA dlc dB dtc).cells.toList⟩ 45 (0,0))]) ?_;refine U2 ?_;refine To.callF rfl rfl rfl rfl rfl rfl (by decide) (FnT.h (HeardG_c _ H4 bkE eA elc eB etc hE4.bk sE hG4 bkE_al)) (fun v H5 hv=> ?_);obtain⟨le5,g8,rfl,⟨ng8,lg8⟩,mg8⟩:=hv;rw[ex_heardE] at ng8 lg8;refine U6 ?_;have tl5:=View.le_trans tl4 le5;have hD5:=hD4.le le5;have hE5:=hE4.le le5;have hG5:=glob_le hG tl5;refine U ?_;refine Tc.db (R':= [(1,.pointer (some ⟨b1,0,none⟩)),(2,.pointer (some ⟨b2,0,none⟩)),(3,g3.val),(4,.int .i64 0),(5,g5.val),(6,.int .i64 2),(7,.int .i64 0),(8,g8.val),(9,.int .i64 0)]) (L':= [(b2,true,.cells ⟨(bkE.val eA elc eB etc).cells.toList⟩ 45 (0,0)),(b1,true,.cells ⟨(bkD.val dA dlc dB dtc).cells.toList⟩ 45 (0,0))]) ?_;refine U2 ?_;refine To.callF rfl rfl rfl rfl rfl rfl (by decide) (FnT.h (Reaches_c _ H5 bkE eA elc eB etc hE5.bk sE hG5 bkE_al)) (fun v H6 hv=> ?_);obtain⟨le6,g10,rfl,⟨ng10,lg10⟩,mg10⟩:=hv;rw[ex_clE.2];refine U8 ?_;have tl6:=View.le_trans tl5 le6;have hD6:=hD5.le le6;have hE6:=hE5.le le6;have hG6:=glob_le hG tl6;refine U ?_;refine Tc.db (R':= [(1,.pointer (some ⟨b1,0,none⟩)),(2,.pointer (some ⟨b2,0,none⟩)),(3,g3.val),(4,.int .i64 0),(5,g5.val),(6,.int .i64 2),(7,.int .i64 0),(8,g8.val),(9,.int .i64 0),(10,g10.val),(11,.int .i64 0),(12,.int .i64 0)]) (L':= [(b2,true,.cells ⟨(bkE.val eA elc eB etc).cells.toList⟩ 45 (0,0)),(b1,true,.cells ⟨(bkD.val dA dlc dB dtc).cells.toList⟩ 45 (0,0))]) ?_;have fl6:=fun(H':View) (p1 p2:Nat) (h':H6.le H') (k1:H' p1=some (true,.cells ⟨intsL [1,1,2]⟩ 3 (0,0))) (k2:H' p2=some (true,.cells ⟨intsL [3,9,9]⟩ 3 (0,0)))=> isV (Follow_c (Mp prog) H' bkE eA elc eB etc (hE6.bk.le h') sE (glob_le hG6 h') (some ⟨p1,0,none⟩) (some ⟨p2,0,none⟩) 3 3 3 3 (exAt [1,1,2]) (exAt [3,9,9]) (ints_lit [1,1,2] k1) (ints_lit [3,9,9] k2)) ex_follow1;refine U2 ?_;refine .e (.bs (zz:=fun p1=> ?_));refine .e (.bs (zz:=fun p2=> ?_));refine .c rfl rfl rfl rfl (fun H hs=> .h (fl6 H p1 p2 hs.base (hs.get (i:=1) rfl) (hs.get (i:=0) rfl))) ?_;refine U9 ?_;refine Tc.db (R':= [(1,.pointer (some ⟨b1,0,none⟩)),(2,.pointer (some ⟨b2,0,none⟩)),(3,g3.val),(4,.int .i64 0),(5,g5.val),(6,.int .i64 2),(7,.int .i64 0),(8,g8.val),(9,.int .i64 0),(10,g10.val),(11,.int .i64 0),(12,.int .i64 0),(13,strV [50,50]),(14,.int .i64 2),(15,.int .i64 0)]) (L':= [(b2,true,.cells ⟨(bkE.val eA elc eB etc).cells.toList⟩ 45 (0,0)),(b1,true,.cells ⟨(bkD.val dA dlc dB dtc).cells.toList⟩ 45 (0,0))]) ?_;have fl7:=fun(H':View) (p1 p2:Nat) (h':H6.le H') (k1:H' p1=some (true,.cells ⟨intsL [1,1,2]⟩ 3 (0,0))) (k2:H' p2=some (true,.cells ⟨intsL [5,9,9]⟩ 3 (0,0)))=> isV (Follow_c (Mp prog) H' bkE eA elc eB etc (hE6.bk.le h') sE (glob_le hG6 h') (some ⟨p1,0,none⟩) (some ⟨p2,0,none⟩) 3 3 3 3 (exAt [1,1,2]) (exAt [5,9,9]) (ints_lit [1,1,2] k1) (ints_lit [5,9,9] k2)) ex_follow2;refine U2 ?_;refine .e (.bs (zz:=fun p1=> ?_));refine .e (.bs (zz:=fun p2=> ?_));refine .c rfl rfl rfl rfl (fun H hs=> .h (fl7 H p1 p2 hs.base (hs.get (i:=1) rfl) (hs.get (i:=0) rfl))) ?_;refine U9 ?_;refine Tc.db (R':= [(1,.pointer (some ⟨b1,0,none⟩)),(2,.pointer (some ⟨b2,0,none⟩)),(3,g3.val),(4,.int .i64 0),(5,g5.val),(6,.int .i64 2),(7,.int .i64 0),(8,g8.val),(9,.int .i64 0),(10,g10.val),(11,.int .i64 0),(12,.int .i64 0),(13,strV [50,50]),(14,.int .i64 2),(15,.int .i64 0),(16,strV [49,49,50]),(17,.int .i64 (-1)),(18,.int .i64 0)]) (L':= [(b2,true,.cells ⟨(bkE.val eA elc eB etc).cells.toList⟩ 45 (0,0)),(b1,true,.cells ⟨(bkD.val dA dlc dB dtc).cells.toList⟩ 45 (0,0))]) ?_;refine U2 ?_;refine .c rfl rfl rfl rfl (fun H hs=> .h (isV (Look_c H bkD dA dlc dB dtc dF dfc (hD6.le hs.base) sD (glob_le hG6 hs.base) bkD_al) (congrArg lookV ex_look))) ?_;refine U9 ?_;refine Tc.db (R':= [(1,.pointer (some ⟨b1,0,none⟩)),(2,.pointer (some ⟨b2,0,none⟩)),(3,g3.val),(4,.int .i64 0),(5,g5.val),(6,.int .i64 2),(7,.int .i64 0),(8,g8.val),(9,.int .i64 0),(10,g10.val),(11,.int .i64 0),(12,.int .i64 0),(13,strV [50,50]),(14,.int .i64 2),(15,.int .i64 0),(16,strV [49,49,50]),(17,.int .i64 (-1)),(18,.int .i64 0),(19,.int .i64 1),(20,.int .i64 1),(21,.int .i64 0)]) (L':= [(b2,true,.cells ⟨(bkE.val eA elc eB etc).cells.toList⟩ 45 (0,0)),(b1,true,.cells ⟨(bkD.val dA dlc dB dtc).cells.toList⟩ 45 (0,0))]) ?_;refine U2 ?_;refine .c rfl rfl rfl rfl (fun H hs=> .h (isV (Settled_c _ H bkD dA dlc dB dtc (hD6.bk.le hs.base) sD (glob_le hG6 hs.base) bkD_al) (congrArg settledV ex_setD))) ?_;refine U11 ?_;refine Tc.db (R':= [(1,.pointer (some ⟨b1,0,none⟩)),(2,.pointer (some ⟨b2,0,none⟩)),(3,g3.val),(4,.int .i64 0),(5,g5.val),(6,.int .i64 2),(7,.int .i64 0),(8,g8.val),(9,.int .i64 0),(10,g10.val),(11,.int .i64 0),(12,.int .i64 0),(13,strV [50,50]),(14,.int .i64 2),(15,.int .i64 0),(16,strV [49,49,50]),(17,.int .i64 (-1)),(18,.int .i64 0),(19,.int .i64 1),(20,.int .i64 1),(21,.int .i64 0),(22,.int .i64 0),(23,.int .i64 0),(24,.bool false),(25,.int .i64 0)]) (L':= [(b2,true,.cells ⟨(bkE.val eA elc eB etc).cells.toList⟩ 45 (0,0)),(b1,true,.cells ⟨(bkD.val dA dlc dB dtc).cells.toList⟩ 45 (0,0))]) ?_;refine Tc.viaB (fun H' R' L'=> ∃oA olc oB otc oF ofc b26,H6.le H'∧BookAt H' bkO oA olc oB otc oF ofc∧AllIn [(1,.pointer (some ⟨b1,0,none⟩)),(2,.pointer (some ⟨b2,0,none⟩)),(3,g3.val),(4,.int .i64 0),(5,g5.val),(6,.int .i64 2),(7,.int .i64 0),(8,g8.val),(9,.int .i64 0),(10,g10.val),(11,.int .i64 0),(12,.int .i64 0),(13,strV [50,50]),(14,.int .i64 2),(15,.int .i64 0),(16,strV [49,49,50]),(17,.int .i64 (-1)),(18,.int .i64 0),(19,.int .i64 1),(20,.int .i64 1),(21,.int .i64 0),(22,.int .i64 0),(23,.int .i64 0),(24,.bool false),(25,.int .i64 0),(26,.pointer (some ⟨b26,0,none⟩)),(27,.int .i64 0)] R'∧List.Sublist [(b26,true,.cells ⟨(bkO.val oA olc oB otc).cells.toList⟩ 45 (0,0)),(b2,true,.cells ⟨(bkE.val eA elc eB etc).cells.toList⟩ 45 (0,0)),(b1,true,.cells ⟨(bkD.val dA dlc dB dtc).cells.toList⟩ 45 (0,0))] L') ?_ (fun fin=> ?_)
 rotate_left
 · refine Tc.dr [7] [] mixed rfl ?_;refine .q 0 rfl (OpV.load (E:=en) 1 rfl rfl rfl rfl rfl) ?_;refine .z 1 rfl (OpV.takeCall rfl rfl rfl rfl (fun H hs=> .h (train_c _ H 2 6))) ?_;refine Ta.callL2 2 6 (by kernel_rfl) rfl rfl rfl rfl rfl rfl rfl (by decide) (FnT.h (Know_c _ H6 bkD dA dlc dB dtc dF dfc hD6 sD hG6 bkD_al 1 (by decide) 2 2 6 6 ex_know.1 ex_know.2)) (by intro _ _ hh;exact hh.1) (by exact List.Sublist.refl _) (.inr (by exact List.Sublist.refl _)) (fun v Hk hv=> ?_) (TaOp.mk rfl rfl rfl (.al (zz:=fun b26=> ⟨S2.mk (by apply List.Sublist.cons;exact List.Sublist.refl _) (.inr (by apply List.Sublist.cons;exact List.Sublist.refl _)),?_⟩)))
   · obtain⟨lek,oA,olc,oB,otc,oF,ofc,rfl,hO⟩:=hv;refine .nn 3 ?_;refine .nn 4 ?_;refine .nw 5 ?_;refine Ta.each [6] (by kernel_rfl) rfl ⟨TaOp.mk rfl rfl rfl (.al (zz:=fun b26=> ⟨S2.mkL lek (by apply List.Sublist.cons;exact List.Sublist.refl _) (.inr (by apply List.Sublist.cons;exact List.Sublist.refl _)),?_⟩)),trivial⟩;refine Ta.each [7] (by kernel_rfl) rfl ⟨TaOp.mk rfl rfl rfl (Or.storeT (E:=en) 0 rfl rfl rfl rfl rfl rfl rfl rfl rfl rfl rfl ⟨S2.mkL lek (by apply List.Sublist.cons;exact List.Sublist.refl _) (.inl (by kernel_rfl)),?_⟩),trivial⟩;refine .nw 8 ?_;refine .dn ?_;exact fin _ _ _ ⟨oA,olc,oB,otc,oF,ofc,b26,lek,hO,⟨rfl,rfl,rfl,rfl,rfl,rfl,rfl,rfl,rfl,rfl,rfl,rfl,rfl,rfl,rfl,rfl,rfl,rfl,rfl,rfl,rfl,rfl,rfl,rfl,rfl,rfl,rfl,trivial⟩,(by exact List.Sublist.refl _)⟩
   · refine Ta.callL 2 (by kernel_rfl) rfl rfl rfl rfl rfl rfl rfl (by decide) (FnT.h (Know_c _ H6 bkD dA dlc dB dtc dF dfc hD6 sD hG6 bkD_al 1 (by decide) 2 2 6 6 ex_know.1 ex_know.2)) (by intro _ _ hh;exact hh.1) (by apply List.Sublist.cons;exact List.Sublist.refl _) (.inr (by apply List.Sublist.cons;exact List.Sublist.refl _)) (fun v Hk hv=> ?_);obtain⟨lek,oA,olc,oB,otc,oF,ofc,rfl,hO⟩:=hv;refine .nn 3 ?_;refine .nn 4 ?_;refine .nw 5 ?_;refine Ta.each [7] (by kernel_rfl) rfl ⟨TaOp.mk rfl rfl rfl (Or.storeT (E:=en) 0 rfl rfl rfl rfl rfl rfl rfl rfl rfl rfl rfl ⟨S2.mkL lek (by apply List.Sublist.cons;exact List.Sublist.refl _) (.inl (by kernel_rfl)),?_⟩),trivial⟩;refine .nw 8 ?_;refine .dn ?_;exact fin _ _ _ ⟨oA,olc,oB,otc,oF,ofc,b26,lek,hO,⟨rfl,rfl,rfl,rfl,rfl,rfl,rfl,rfl,rfl,rfl,rfl,rfl,rfl,rfl,rfl,rfl,rfl,rfl,rfl,rfl,rfl,rfl,rfl,rfl,rfl,rfl,rfl,trivial⟩,(by exact List.Sublist.refl _)⟩
 rintro H7 R' L' ⟨oA,olc,oB,otc,oF,ofc,b26,le7,hO7,hR,hL⟩;have tl7:=View.le_trans tl6 le7;have hD7:=hD6.le le7;have hE7:=hE6.le le7;have hG7:=glob_le hG tl7;refine Tc.dropB (R':= [(1,.pointer (some ⟨b1,0,none⟩)),(2,.pointer (some ⟨b2,0,none⟩)),(3,g3.val),(4,.int .i64 0),(5,g5.val),(6,.int .i64 2),(7,.int .i64 0),(8,g8.val),(9,.int .i64 0),(10,g10.val),(11,.int .i64 0),(12,.int .i64 0),(13,strV [50,50]),(14,.int .i64 2),(15,.int .i64 0),(16,strV [49,49,50]),(17,.int .i64 (-1)),(18,.int .i64 0),(19,.int .i64 1),(20,.int .i64 1),(21,.int .i64 0),(22,.int .i64 0),(23,.int .i64 0),(24,.bool false),(25,.int .i64 0),(26,.pointer (some ⟨b26,0,none⟩)),(27,.int .i64 0)]) (L':= [(b26,true,.cells ⟨(bkO.val oA olc oB otc).cells.toList⟩ 45 (0,0)),(b2,true,.cells ⟨(bkE.val eA elc eB etc).cells.toList⟩ 45 (0,0)),(b1,true,.cells ⟨(bkD.val dA dlc dB dtc).cells.toList⟩ 45 (0,0))]) ?_ hR hL;refine U3 ?_;refine .c rfl rfl rfl rfl (fun H hs=> .h (isV (Settled_c _ H bkO oA olc oB otc (hO7.bk.le hs.base) sO (glob_le hG7 hs.base) bkO_al) (congrArg settledV ex_setO))) ?_;refine U11 ?_;refine Tc.db (R':= [(1,.pointer (some ⟨b1,0,none⟩)),(2,.pointer (some ⟨b2,0,none⟩)),(3,g3.val),(4,.int .i64 0),(5,g5.val),(6,.int .i64 2),(7,.int .i64 0),(8,g8.val),(9,.int .i64 0),(10,g10.val),(11,.int .i64 0),(12,.int .i64 0),(13,strV [50,50]),(14,.int .i64 2),(15,.int .i64 0),(16,strV [49,49,50]),(17,.int .i64 (-1)),(18,.int .i64 0),(19,.int .i64 1),(20,.int .i64 1),(21,.int .i64 0),(22,.int .i64 0),(23,.int .i64 0),(24,.bool false),(25,.int .i64 0),(26,.pointer (some ⟨b26,0,none⟩)),(27,.int .i64 0),(28,.int .i64 2),(29,.int .i64 0),(30,.bool true),(31,.int .i64 0)]) (L':= [(b26,true,.cells ⟨(bkO.val oA olc oB otc).cells.toList⟩ 45 (0,0)),(b2,true,.cells ⟨(bkE.val eA elc eB etc).cells.toList⟩ 45 (0,0)),(b1,true,.cells ⟨(bkD.val dA dlc dB dtc).cells.toList⟩ 45 (0,0))]) ?_;have e2:bkD.needTo 1 (bkD.nf 1)=2:=ex_taken.2;refine U2 ?_;refine To.callF rfl rfl rfl rfl rfl rfl (by decide) (FnT.h (Taken_c _ H7 bkD dA dlc dB dtc hD7.bk sD hG7 bkD_al 1 (by decide))) (fun v H8 hv=> ?_);obtain⟨le8,g32,rfl,⟨ng32,lg32⟩,mg32⟩:=hv;rw[e2];refine U8 ?_;have tl8:=View.le_trans tl7 le8;have hD8:=hD7.le le8;have hE8:=hE7.le le8;have hO8:=hO7.le le8;have hG8:=glob_le hG tl8;refine U ?_;refine Tc.db (R':= [(1,.pointer (some ⟨b1,0,none⟩)),(2,.pointer (some ⟨b2,0,none⟩)),(3,g3.val),(4,.int .i64 0),(5,g5.val),(6,.int .i64 2),(7,.int .i64 0),(8,g8.val),(9,.int .i64 0),(10,g10.val),(11,.int .i64 0),(12,.int .i64 0),(13,strV [50,50]),(14,.int .i64 2),(15,.int .i64 0),(16,strV [49,49,50]),(17,.int .i64 (-1)),(18,.int .i64 0),(19,.int .i64 1),(20,.int .i64 1),(21,.int .i64 0),(22,.int .i64 0),(23,.int .i64 0),(24,.bool false),(25,.int .i64 0),(26,.pointer (some ⟨b26,0,none⟩)),(27,.int .i64 0),(28,.int .i64 2),(29,.int .i64 0),(30,.bool true),(31,.int .i64 0),(32,g32.val),(33,.int .i64 2),(34,.int .i64 0)]) (L':= [(b26,true,.cells ⟨(bkO.val oA olc oB otc).cells.toList⟩ 45 (0,0)),(b2,true,.cells ⟨(bkE.val eA elc eB etc).cells.toList⟩ 45 (0,0)),(b1,true,.cells ⟨(bkD.val dA dlc dB dtc).cells.toList⟩ 45 (0,0))]) ?_;refine U2 ?_;refine To.callF rfl rfl rfl rfl rfl rfl (by decide) (FnT.h (Slips_c _ H8 bkD dA dlc dB dtc hD8.bk sD hG8 bkD_al 0 (by decide))) (fun v H9 hv=> ?_);obtain⟨le9,g35,sm,rfl,⟨st1,st2⟩,⟨ng35,lg35⟩,mg35⟩:=hv;have e35:ddTo sm sm.length= [1,2]:=by rw[st1.len,ints_asc rfl st1 st2];exact ex_slips
 rw[e35] at ng35 lg35;refine U6 ?_;have tl9:=View.le_trans tl8 le9;have hD9:=hD8.le le9;have hE9:=hE8.le le9;have hO9:=hO8.le le9;have hG9:=glob_le hG tl9;refine U ?_;refine Tc.db (R':= [(1,.pointer (some ⟨b1,0,none⟩)),(2,.pointer (some ⟨b2,0,none⟩)),(3,g3.val),(4,.int .i64 0),(5,g5.val),(6,.int .i64 2),(7,.int .i64 0),(8,g8.val),(9,.int .i64 0),(10,g10.val),(11,.int .i64 0),(12,.int .i64 0),(13,strV [50,50]),(14,.int .i64 2),(15,.int .i64 0),(16,strV [49,49,50]),(17,.int .i64 (-1)),(18,.int .i64 0),(19,.int .i64 1),(20,.int .i64 1),(21,.int .i64 0),(22,.int .i64 0),(23,.int .i64 0),(24,.bool false),(25,.int .i64 0),(26,.pointer (some ⟨b26,0,none⟩)),(27,.int .i64 0),(28,.int .i64 2),(29,.int .i64 0),(30,.bool true),(31,.int .i64 0),(32,g32.val),(33,.int .i64 2),(34,.int .i64 0),(35,g35.val),(36,.int .i64 0)]) (L':= [(b26,true,.cells ⟨(bkO.val oA olc oB otc).cells.toList⟩ 45 (0,0)),(b2,true,.cells ⟨(bkE.val eA elc eB etc).cells.toList⟩ 45 (0,0)),(b1,true,.cells ⟨(bkD.val dA dlc dB dtc).cells.toList⟩ 45 (0,0))]) ?_;refine U2 ?_;refine .c rfl rfl rfl rfl (fun H hs=> .h (isV (Safe_c _ H bkD dA dlc dB dtc (hD9.bk.le hs.base) sD (glob_le hG9 hs.base) [51] (by decide)) ex_safe3)) ?_;refine U7 ?_;refine Tc.db (R':= [(1,.pointer (some ⟨b1,0,none⟩)),(2,.pointer (some ⟨b2,0,none⟩)),(3,g3.val),(4,.int .i64 0),(5,g5.val),(6,.int .i64 2),(7,.int .i64 0),(8,g8.val),(9,.int .i64 0),(10,g10.val),(11,.int .i64 0),(12,.int .i64 0),(13,strV [50,50]),(14,.int .i64 2),(15,.int .i64 0),(16,strV [49,49,50]),(17,.int .i64 (-1)),(18,.int .i64 0),(19,.int .i64 1),(20,.int .i64 1),(21,.int .i64 0),(22,.int .i64 0),(23,.int .i64 0),(24,.bool false),(25,.int .i64 0),(26,.pointer (some ⟨b26,0,none⟩)),(27,.int .i64 0),(28,.int .i64 2),(29,.int .i64 0),(30,.bool true),(31,.int .i64 0),(32,g32.val),(33,.int .i64 2),(34,.int .i64 0),(35,g35.val),(36,.int .i64 0),(37,.bool false),(38,.int .i64 0)]) (L':= [(b26,true,.cells ⟨(bkO.val oA olc oB otc).cells.toList⟩ 45 (0,0)),(b2,true,.cells ⟨(bkE.val eA elc eB etc).cells.toList⟩ 45 (0,0)),(b1,true,.cells ⟨(bkD.val dA dlc dB dtc).cells.toList⟩ 45 (0,0))]) ?_;refine U2 ?_;refine .c rfl rfl rfl rfl (fun H hs=> .h (isV (Safe_c _ H bkD dA dlc dB dtc (hD9.bk.le hs.base) sD (glob_le hG9 hs.base) [53] (by decide)) ex_safe5)) ?_;refine U7 ?_;refine Tc.db (R':= [(1,.pointer (some ⟨b1,0,none⟩)),(2,.pointer (some ⟨b2,0,none⟩)),(3,g3.val),(4,.int .i64 0),(5,g5.val),(6,.int .i64 2),(7,.int .i64 0),(8,g8.val),(9,.int .i64 0),(10,g10.val),(11,.int .i64 0),(12,.int .i64 0),(13,strV [50,50]),(14,.int .i64 2),(15,.int .i64 0),(16,strV [49,49,50]),(17,.int .i64 (-1)),(18,.int .i64 0),(19,.int .i64 1),(20,.int .i64 1),(21,.int .i64 0),(22,.int .i64 0),(23,.int .i64 0),(24,.bool false),(25,.int .i64 0),(26,.pointer (some ⟨b26,0,none⟩)),(27,.int .i64 0),(28,.int .i64 2),(29,.int .i64 0),(30,.bool true),(31,.int .i64 0),(32,g32.val),(33,.int .i64 2),(34,.int .i64 0),(35,g35.val),(36,.int .i64 0),(37,.bool false),(38,.int .i64 0),(39,.bool true),(40,.int .i64 0)]) (L':= [(b26,true,.cells ⟨(bkO.val oA olc oB otc).cells.toList⟩ 45 (0,0)),(b2,true,.cells ⟨(bkE.val eA elc eB etc).cells.toList⟩ 45 (0,0)),(b1,true,.cells ⟨(bkD.val dA dlc dB dtc).cells.toList⟩ 45 (0,0))]) ?_;refine U2 ?_;refine .c rfl rfl rfl rfl (fun H hs=> .h (isV (Spare_c _ H bkD dA dlc dB dtc (hD9.bk.le hs.base) sD (glob_le hG9 hs.base) 1 true) ex_spare)) ?_;refine U9 ?_;refine Tc.db (R':= [(1,.pointer (some ⟨b1,0,none⟩)),(2,.pointer (some ⟨b2,0,none⟩)),(3,g3.val),(4,.int .i64 0),(5,g5.val),(6,.int .i64 2),(7,.int .i64 0),(8,g8.val),(9,.int .i64 0),(10,g10.val),(11,.int .i64 0),(12,.int .i64 0),(13,strV [50,50]),(14,.int .i64 2),(15,.int .i64 0),(16,strV [49,49,50]),(17,.int .i64 (-1)),(18,.int .i64 0),(19,.int .i64 1),(20,.int .i64 1),(21,.int .i64 0),(22,.int .i64 0),(23,.int .i64 0),(24,.bool false),(25,.int .i64 0),(26,.pointer (some ⟨b26,0,none⟩)),(27,.int .i64 0),(28,.int .i64 2),(29,.int .i64 0),(30,.bool true),(31,.int .i64 0),(32,g32.val),(33,.int .i64 2),(34,.int .i64 0),(35,g35.val),(36,.int .i64 0),(37,.bool false),(38,.int .i64 0),(39,.bool true),(40,.int .i64 0),(41,strV [48]),(42,.bool true),(43,.int .i64 0)]) (L':= [(b26,true,.cells ⟨(bkO.val oA olc oB otc).cells.toList⟩ 45 (0,0)),(b2,true,.cells ⟨(bkE.val eA elc eB etc).cells.toList⟩ 45 (0,0)),(b1,true,.cells ⟨(bkD.val dA dlc dB dtc).cells.toList⟩ 45 (0,0))]) ?_;refine U ?_;refine .c rfl rfl rfl rfl (fun H hs=> .h (isV (Pulses_c _ H [49,50,48] (by decide)) ex_pulses)) ?_;refine U7 ?_;refine Tc.db (R':= [(1,.pointer (some ⟨b1,0,none⟩)),(2,.pointer (some ⟨b2,0,none⟩)),(3,g3.val),(4,.int .i64 0),(5,g5.val),(6,.int .i64 2),(7,.int .i64 0),(8,g8.val),(9,.int .i64 0),(10,g10.val),(11,.int .i64 0),(12,.int .i64 0),(13,strV [50,50]),(14,.int .i64 2),(15,.int .i64 0),(16,strV [49,49,50]),(17,.int .i64 (-1)),(18,.int .i64 0),(19,.int .i64 1),(20,.int .i64 1),(21,.int .i64 0),(22,.int .i64 0),(23,.int .i64 0),(24,.bool false),(25,.int .i64 0),(26,.pointer (some ⟨b26,0,none⟩)),(27,.int .i64 0),(28,.int .i64 2),(29,.int .i64 0),(30,.bool true),(31,.int .i64 0),(32,g32.val),(33,.int .i64 2),(34,.int .i64 0),(35,g35.val),(36,.int .i64 0),(37,.bool false),(38,.int .i64 0),(39,.bool true),(40,.int .i64 0),(41,strV [48]),(42,.bool true),(43,.int .i64 0),(44,.int .i64 13),(45,.int .i64 0)]) (L':= [(b26,true,.cells ⟨(bkO.val oA olc oB otc).cells.toList⟩ 45 (0,0)),(b2,true,.cells ⟨(bkE.val eA elc eB etc).cells.toList⟩ 45 (0,0)),(b1,true,.cells ⟨(bkD.val dA dlc dB dtc).cells.toList⟩ 45 (0,0))]) ?_;refine U ?_;refine .e (.bs (zz:=fun bw=> ?_));refine To.permL2 (L₁:= [(b26,true,.cells ⟨(bkO.val oA olc oB otc).cells.toList⟩ 45 (0,0)),(b2,true,.cells ⟨(bkE.val eA elc eB etc).cells.toList⟩ 45 (0,0)),(b1,true,.cells ⟨(bkD.val dA dlc dB dtc).cells.toList⟩ 45 (0,0))]++[(bw,true,.cells ⟨intsL [5,3,1]⟩ 3 (0,0))]) (by exact List.perm_append_comm) ?_;refine To.lift (L₂:= [(b26,true,.cells ⟨(bkO.val oA olc oB otc).cells.toList⟩ 45 (0,0)),(b2,true,.cells ⟨(bkE.val eA elc eB etc).cells.toList⟩ 45 (0,0)),(b1,true,.cells ⟨(bkD.val dA dlc dB dtc).cells.toList⟩ 45 (0,0))]) (L₁:= [(bw,true,.cells ⟨intsL [5,3,1]⟩ 3 (0,0))]) rfl (fun H10 hw=> ?_);have le10:=hw.base;have tl10:=View.le_trans tl9 le10;have hD10:=hD9.le le10;have hE10:=hE9.le le10;have hO10:=hO9.le le10;have hG10:=glob_le hG tl10;obtain⟨xc1,xc2,xc3,xc4,xc5⟩:=ex_cheap;have al5:(cheap (exAt [5,3,1]) 3 2 2).al=0:=by unfold ChSt.al;rw[xc4];rfl
 refine To.callF rfl rfl rfl rfl rfl rfl (by decide) (FnT.h (Cheapest_c _ H10 (some ⟨bw,0,none⟩) 3 3 (exAt [5,3,1]) (ints_lit [5,3,1] (hw.get (i:=0) rfl)) 2 2 (by decide) xc2 (by decide) (by decide))) (fun v H11 hv=> ?_);obtain⟨le11,ca,cn,cc,rfl,cn1,cs1⟩:=hv;rw[xc5] at cn1 cs1;rw[xc3,al5];refine U8 ?_;have tl11:=View.le_trans tl10 le11;have hD11:=hD10.le le11;have hE11:=hE10.le le11;have hO11:=hO10.le le11;have hG11:=glob_le hG tl11;refine U2 ?_;refine Tc.dropB (R':= [(1,.pointer (some ⟨b1,0,none⟩)),(2,.pointer (some ⟨b2,0,none⟩)),(3,g3.val),(4,.int .i64 0),(5,g5.val),(6,.int .i64 2),(7,.int .i64 0),(8,g8.val),(9,.int .i64 0),(10,g10.val),(11,.int .i64 0),(12,.int .i64 0),(13,strV [50,50]),(14,.int .i64 2),(15,.int .i64 0),(16,strV [49,49,50]),(17,.int .i64 (-1)),(18,.int .i64 0),(19,.int .i64 1),(20,.int .i64 1),(21,.int .i64 0),(22,.int .i64 0),(23,.int .i64 0),(24,.bool false),(25,.int .i64 0),(26,.pointer (some ⟨b26,0,none⟩)),(27,.int .i64 0),(28,.int .i64 2),(29,.int .i64 0),(30,.bool true),(31,.int .i64 0),(32,g32.val),(33,.int .i64 2),(34,.int .i64 0),(35,g35.val),(36,.int .i64 0),(37,.bool false),(38,.int .i64 0),(39,.bool true),(40,.int .i64 0),(41,strV [48]),(42,.bool true),(43,.int .i64 0),(44,.int .i64 13),(45,.int .i64 0),(46,.slice ca cn cc),(47,.int .i64 18),(48,.int .i64 0)]) (L':= [(b26,true,.cells ⟨(bkO.val oA olc oB otc).cells.toList⟩ 45 (0,0)),(b2,true,.cells ⟨(bkE.val eA elc eB etc).cells.toList⟩ 45 (0,0)),(b1,true,.cells ⟨(bkD.val dA dlc dB dtc).cells.toList⟩ 45 (0,0))]) ?_ ⟨rfl,rfl,rfl,rfl,rfl,rfl,rfl,rfl,rfl,rfl,rfl,rfl,rfl,rfl,rfl,rfl,rfl,rfl,rfl,rfl,rfl,rfl,rfl,rfl,rfl,rfl,rfl,rfl,rfl,rfl,rfl,rfl,rfl,rfl,rfl,rfl,rfl,rfl,rfl,rfl,rfl,rfl,rfl,rfl,rfl,rfl,rfl,rfl,trivial⟩ (by exact List.Sublist.refl _);(iterate 72 refine U ?_);refine Tc.db (R':= [(1,.pointer (some ⟨b1,0,none⟩)),(2,.pointer (some ⟨b2,0,none⟩)),(3,g3.val),(4,.int .i64 0),(5,g5.val),(6,.int .i64 2),(7,.int .i64 0),(8,g8.val),(9,.int .i64 0),(10,g10.val),(11,.int .i64 0),(12,.int .i64 0),(13,strV [50,50]),(14,.int .i64 2),(15,.int .i64 0),(16,strV [49,49,50]),(17,.int .i64 (-1)),(18,.int .i64 0),(19,.int .i64 1),(20,.int .i64 1),(21,.int .i64 0),(22,.int .i64 0),(23,.int .i64 0),(24,.bool false),(25,.int .i64 0),(26,.pointer (some ⟨b26,0,none⟩)),(27,.int .i64 0),(28,.int .i64 2),(29,.int .i64 0),(30,.bool true),(31,.int .i64 0),(32,g32.val),(33,.int .i64 2),(34,.int .i64 0),(35,g35.val),(36,.int .i64 0),(37,.bool false),(38,.int .i64 0),(39,.bool true),(40,.int .i64 0),(41,strV [48]),(42,.bool true),(43,.int .i64 0),(44,.int .i64 13),(45,.int .i64 0),(46,.slice ca cn cc),(47,.int .i64 18),(48,.int .i64 0)]) (L':= [(b26,true,.cells ⟨(bkO.val oA olc oB otc).cells.toList⟩ 45 (0,0)),(b2,true,.cells ⟨(bkE.val eA elc eB etc).cells.toList⟩ 45 (0,0)),(b1,true,.cells ⟨(bkD.val dA dlc dB dtc).cells.toList⟩ 45 (0,0))]) ?_;have up:∀ {A B C:View},A.le B→B.le C→A.le C:=View.le_trans;have w3:=fun(H':View) (h':H11.le H') (bs:Nat) (k1:H' bs=some (true,.cells ⟨strsV [[49,50],[49,51]]⟩ 9 (0,0)))=> SameWords_c (Mp prog) H' (g3.blk.map fun b=> ⟨b,0,none⟩) (some ⟨bs,0,none⟩) g3.n ([[49,50],[49,51]]:List (List UInt8)).length g3.cap ([[49,50],[49,51]]:List (List UInt8)).length _ _ (strs_of (g0:=g3) g3 (fun x hx=> h' _ _ ((up (up (up (up (up (up (up le4 le5) le6) le7) le8) le9) le10) le11) _ _ (mg3 x hx).1)) lg3 rfl rfl) (strs_lit [[49,50],[49,51]] k1) (by rw[ng3];decide) (by decide) true (words_true [[49,50],[49,51]] ng3);have w8:=fun(H':View) (h':H11.le H') (bs:Nat) (k1:H' bs=some (true,.cells ⟨strsV [[49,49,50],[50,50]]⟩ 9 (0,0)))=> SameWords_c (Mp prog) H' (g8.blk.map fun b=> ⟨b,0,none⟩) (some ⟨bs,0,none⟩) g8.n ([[49,49,50],[50,50]]:List (List UInt8)).length g8.cap ([[49,49,50],[50,50]]:List (List UInt8)).length _ _ (strs_of (g0:=g8) g8 (fun x hx=> h' _ _ ((up (up (up (up (up le6 le7) le8) le9) le10) le11) _ _ (mg8 x hx).1)) lg8 rfl rfl) (strs_lit [[49,49,50],[50,50]] k1) (by rw[ng8];decide) (by decide) true (words_true [[49,49,50],[50,50]] ng8);have c5:=fun(H':View) (h':H11.le H') (bs:Nat) (k1:H' bs=some (true,.cells ⟨intsL [0,0,2]⟩ 110 (0,0)))=> claims_c (Mp prog) H' (g5.blk.map fun b=> ⟨b,0,none⟩) (some ⟨bs,0,none⟩) g5.n ([0,0,2]:List Int).length g5.cap ([0,0,2]:List Int).length (fun i=> bkD.claimOf (i:Nat)) _ (by rw[ng5];exact cl_at g5 (fun x hx=> h' _ _ ((up (up (up (up (up (up le5 le6) le7) le8) le9) le10) le11) _ _ (mg5 x hx).1)) lg5 ng5) (ints_lit [0,0,2] k1) (by rw[ng5];decide) (by decide) true (by rw[ng5];rw[decide_eq_true (by rfl)];show(true&&allB _ 3)=true;rw[(allB_iff _).2 (three (decide_eq_true ex_clD.1.1) (decide_eq_true ex_clD.1.2.1) (decide_eq_true ex_clD.1.2.2))];rfl);have c10:=fun(H':View) (h':H11.le H') (bs:Nat) (k1:H' bs=some (true,.cells ⟨intsL [2,2,0]⟩ 110 (0,0)))=> claims_c (Mp prog) H' (g10.blk.map fun b=> ⟨b,0,none⟩) (some ⟨bs,0,none⟩) g10.n ([2,2,0]:List Int).length g10.cap ([2,2,0]:List Int).length (fun i=> bkE.claimOf (i:Nat)) _ (by rw[ng10];exact cl_at g10 (fun x hx=> h' _ _ ((up (up (up (up le7 le8) le9) le10) le11) _ _ (mg10 x hx).1)) lg10 ng10) (ints_lit [2,2,0] k1) (by rw[ng10];decide) (by decide) true (by rw[ng10];rw[decide_eq_true (by rfl)];show(true&&allB _ 3)=true;rw[(allB_iff _).2 (three (decide_eq_true ex_clE.1.1) (decide_eq_true ex_clE.1.2.1) (decide_eq_true ex_clE.1.2.2))];rfl);refine U2 ?_;refine .e (.bs (zz:=fun x1=> ?_));refine .c rfl rfl rfl rfl (fun H hs=> .h (w3 H hs.base x1 (hs.get (i:=0) rfl))) ?_;refine U3 ?_;refine .e (.bs (zz:=fun x2=> ?_));refine .c rfl rfl rfl rfl (fun H hs=> .h (c5 H hs.base x2 (hs.get (i:=0) rfl))) ?_;refine U8 ?_;refine .e (.bs (zz:=fun x3=> ?_));refine .c rfl rfl rfl rfl (fun H hs=> .h (w8 H hs.base x3 (hs.get (i:=0) rfl))) ?_;refine U4 ?_;refine .e (.bs (zz:=fun x4=> ?_));refine .c rfl rfl rfl rfl (fun H hs=> .h (c10 H hs.base x4 (hs.get (i:=0) rfl))) ?_;refine U37 ?_;refine Tc.db (R':= [(1,.pointer (some ⟨b1,0,none⟩)),(2,.pointer (some ⟨b2,0,none⟩)),(3,g3.val),(4,.int .i64 0),(5,g5.val),(6,.int .i64 2),(7,.int .i64 0),(8,g8.val),(9,.int .i64 0),(10,g10.val),(11,.int .i64 0),(12,.int .i64 0),(13,strV [50,50]),(14,.int .i64 2),(15,.int .i64 0),(16,strV [49,49,50]),(17,.int .i64 (-1)),(18,.int .i64 0),(19,.int .i64 1),(20,.int .i64 1),(21,.int .i64 0),(22,.int .i64 0),(23,.int .i64 0),(24,.bool false),(25,.int .i64 0),(26,.pointer (some ⟨b26,0,none⟩)),(27,.int .i64 0),(28,.int .i64 2),(29,.int .i64 0),(30,.bool true),(31,.int .i64 0),(32,g32.val),(33,.int .i64 2),(34,.int .i64 0),(35,g35.val),(36,.int .i64 0),(37,.bool false),(38,.int .i64 0),(39,.bool true),(40,.int .i64 0),(41,strV [48]),(42,.bool true),(43,.int .i64 0),(44,.int .i64 13),(45,.int .i64 0),(46,.slice ca cn cc),(47,.int .i64 18),(48,.int .i64 0)]) (L':= [(b26,true,.cells ⟨(bkO.val oA olc oB otc).cells.toList⟩ 45 (0,0)),(b2,true,.cells ⟨(bkE.val eA elc eB etc).cells.toList⟩ 45 (0,0)),(b1,true,.cells ⟨(bkD.val dA dlc dB dtc).cells.toList⟩ 45 (0,0))]) ?_;have c32:=fun(H':View) (h':H11.le H') (bs:Nat) (k1:H' bs=some (true,.cells ⟨intsL [2,0]⟩ 110 (0,0)))=> claims_c (Mp prog) H' (g32.blk.map fun b=> ⟨b,0,none⟩) (some ⟨bs,0,none⟩) g32.n ([2,0]:List Int).length g32.cap ([2,0]:List Int).length (bkD.takenAt 1) _ (by rw[ng32];exact cl_at g32 (fun x hx=> h' _ _ ((up (up le9 le10) le11) _ _ (mg32 x hx).1)) lg32 ng32) (ints_lit [2,0] k1) (by rw[ng32];decide) (by decide) true (by rw[ng32];rw[decide_eq_true (by rfl)];show(true&&allB _ 2)=true;rw[(allB_iff _).2 (two (decide_eq_true ex_taken.1.1) (decide_eq_true ex_taken.1.2))];rfl);have n35:=fun(H':View) (h':H11.le H') (bs:Nat) (k1:H' bs=some (true,.cells ⟨intsL [1,2]⟩ 3 (0,0)))=> SameNums_eq (Mp prog) H' (g35.blk.map fun b=> ⟨b,0,none⟩) (some ⟨bs,0,none⟩) 2 g35.cap 2 (exAt [1,2]) (exAt [1,2]) (cl_at g35 (fun x hx=> h' _ _ ((up le10 le11) _ _ (mg35 x hx).1)) (lg35.trans (clL_ints _)) ng35) (ints_lit [1,2] k1) (by decide) (fun _ _=> rfl);have w46:=fun(H':View) (h':H11.le H') (bs:Nat) (k1:H' bs=some (true,.cells ⟨strsV [[49],[50,49],[50,50]]⟩ 9 (0,0)))=> SameWords_c (Mp prog) H' ca (some ⟨bs,0,none⟩) cn ([[49],[50,49],[50,50]]:List (List UInt8)).length cc ([[49],[50,49],[50,50]]:List (List UInt8)).length _ _ (strs_src (cs1.mono (View.le_trans (View.le_refl H11) h')) cn1) (strs_lit [[49],[50,49],[50,50]] k1) (by rw[cn1];decide) (by decide) true (words_true [[49],[50,49],[50,50]] cn1);rw[show g35.val=.slice (g35.blk.map fun b=> ⟨b,0,none⟩) 2 g35.cap by unfold Gl.val;rw[ng35];rfl];refine U12 ?_;refine .e (.bs (zz:=fun y1=> ?_));refine .c rfl rfl rfl rfl (fun H hs=> .h (c32 H hs.base y1 (hs.get (i:=0) rfl))) ?_;refine U7 ?_;refine .e (.bs (zz:=fun y2=> ?_));refine .c rfl rfl rfl rfl (fun H hs=> .h (n35 H hs.base y2 (hs.get (i:=0) rfl))) ?_;refine U18 ?_;refine .e (.bs (zz:=fun y3=> ?_));refine .c rfl rfl rfl rfl (fun H hs=> .h (w46 H hs.base y3 (hs.get (i:=0) rfl))) ?_;refine U7 ?_;refine .rt hK func15 results15 [_] ?_;exact fun H' hs=> ⟨View.le_trans tl11 hs.base,rfl⟩
set_option maxHeartbeats 8000000
section
variable(M:Md prog)(H:View)
theorem In_c(x lo hi:Int)(t:Bool)(ht:decide (lo≤x∧x≤hi)=t):CallT M 24 #[.int .i64 x,.int .i64 lo,.int .i64 hi] H (fun v H'=> H.le H'∧v=.bool t):=by
 rw[←ht];refine .en func24 ntmps24 fun St c cs hK=> ?_;by_cases c1:lo≤x
 all_goals by_cases c2:x≤hi
 all_goals
   refine U8 ?_;refine .i ?_ (z:=by first|exact geq_t (by omega)|exact geq_f (by omega));refine U ?_;first|(refine .sk ?_)|(refine .m ?_)
   first|(refine .sk ?_)|(refine .m ?_)
   first|(refine .sk ?_)|(refine .x (.it (zz:=(by first|exact leq_t (by omega)|exact leq_f (by omega)))) ?_)
   refine U3 ?_;refine .rt hK func24 results24 [_] ?_;exact fun H' hs=> ⟨hs.base,by simp[packV,c1,c2]⟩
theorem Inside_c(a b lo hi:Int)(t:Bool)(ht:decide (lo≤a∧a≤b∧b≤hi)=t):CallT M 168 #[bandV a b,.int .i64 lo,.int .i64 hi] H (fun v H'=> H.le H'∧v=.bool t):=by
 rw[←ht];refine .en func168 ntmps168 fun St c cs hK=> ?_;by_cases c1:lo≤a
 all_goals by_cases c2:a≤b
 all_goals by_cases c3:b≤hi
 all_goals
   refine U2 ?_;refine .bo fun b1=> ?_;refine U8 ?_;refine .i ?_ (z:=by first|exact leq_t (by omega)|exact leq_f (by omega));refine U ?_;first|(refine .sk ?_)|(refine .x .fa ?_)
   first|(refine .sk ?_)|((refine .x (.ld 0) ?_))
   first|(refine .sk ?_)|(refine .m ?_)
   first|(refine .sk ?_)|(refine .x (.it (zz:=(by first|exact geq_t (by omega)|exact geq_f (by omega)))) ?_)
   refine U2 ?_;first|(refine .sk ?_)|(refine .x .fa ?_)
   first|(refine .sk ?_)|((refine .x (.ld 0) ?_))
   first|(refine .sk ?_)|(refine .m ?_)
   first|(refine .sk ?_)|(refine .x (.it (zz:=(by first|exact leq_t (by omega)|exact leq_f (by omega)))) ?_)
   refine U3 ?_;refine .rt hK func168 results168 [_] ?_;exact fun H' hs=> ⟨hs.base,by simp[packV,c1,c2,c3]⟩
theorem IsClaim_c(x:Int)(t:Bool)(ht:claimOk x=t):CallT M 167 #[.int .i64 x] H (fun v H'=> H.le H'∧v=.bool t):=by
 rw[←ht];unfold claimOk;refine .en func167 ntmps167 fun St c cs hK=> ?_;by_cases c1:0≤x
 all_goals by_cases c2:x≤2
 all_goals try omega
 all_goals
   refine U7 ?_;refine .i ?_ (z:=by first|exact geq_t (by omega)|exact geq_f (by omega));refine U ?_;first|(refine .sk ?_)|(refine .m ?_)
   first|(refine .sk ?_)|(refine .x (.it (zz:=(by first|exact leq_t (by omega)|exact leq_f (by omega)))) ?_)
   refine U3 ?_;refine .rt hK func167 results167 [_] ?_;exact fun H' hs=> ⟨hs.base,by simp[packV,c1,c2]⟩
theorem smallR_c(x:UInt8)(t:Bool)(ht:low x=t):CallT M 235 #[.int .u8 (x.toNat:Nat)] H (fun v H'=> H.le H'∧v=.bool t):=by
 rw[←ht];unfold low;refine .en func235 ntmps235 fun St c cs hK=> ?_;by_cases c1:97≤x.toNat
 all_goals by_cases c2:x.toNat≤122
 all_goals try omega
 all_goals
   refine U7 ?_;refine .i ?_ (z:=by first|exact geq_t (by omega)|exact geq_f (by omega));refine U ?_;first|(refine .sk ?_)|(refine .m ?_)
   first|(refine .sk ?_)|(refine .x (.it (zz:=(by first|exact leq_t (by omega)|exact leq_f (by omega)))) ?_)
   refine U3 ?_;refine .rt hK func235 results235 [_] ?_;exact fun H' hs=> ⟨hs.base,by simp[packV,c1,c2]⟩
theorem digitR_c(x:UInt8)(t:Bool)(ht:dig x=t):CallT M 236 #[.int .u8 (x.toNat:Nat)] H (fun v H'=> H.le H'∧v=.bool t):=by
 have e:dig x=decide (48≤x.toNat∧x.toNat≤57):=by unfold dig;exact decide_eq_decide.2 (by omega)
 rw[←ht,e];refine .en func236 ntmps236 fun St c cs hK=> ?_;by_cases c1:48≤x.toNat
 all_goals by_cases c2:x.toNat≤57
 all_goals try omega
 all_goals
   refine U7 ?_;refine .i ?_ (z:=by first|exact geq_t (by omega)|exact geq_f (by omega));refine U ?_;first|(refine .sk ?_)|(refine .m ?_)
   first|(refine .sk ?_)|(refine .x (.it (zz:=(by first|exact leq_t (by omega)|exact leq_f (by omega)))) ?_)
   refine U3 ?_;refine .rt hK func236 results236 [_] ?_;exact fun H' hs=> ⟨hs.base,by simp[packV,c1,c2]⟩
theorem Begins_c(s p:List UInt8)(t:Bool)(ht:begins s p=t):CallT M 237 #[strV s,strV p] H (fun v H'=> H.le H'∧v=.bool t):=by
 rw[←ht];refine .en func237 ntmps237 fun St c cs hK=> ?_;by_cases c1:p.length≤s.length
 · have e:begins s p=(s.take p.length==p):=by unfold begins;simp[c1]
   rw[e] at hK;refine U15 ?_;refine .x (OpV.sliceS (E:=en) rfl rfl rfl rfl rfl rfl (by omega) (by omega) (by omega)) ?_;refine U5 ?_;refine .rt hK func237 results237 [_] ?_;exact fun H' hs=> ⟨hs.base,by simp[packV]⟩
 · have e:begins s p=false:=by unfold begins;simp[c1]
   rw[e] at hK;refine U21 ?_;refine .rt hK func237 results237 [_] ?_;exact okB
theorem all_not {s:List UInt8}{j:Nat}{x:UInt8}(h:s[j]? =some x)(hx:dig x=false):s.all dig=false:=by
 rw[List.all_eq_false];exact⟨x,List.mem_of_getElem? h,by rw[hx];decide⟩
theorem IsNumberR_c(s:List UInt8)(hl:s.length≤1000000)(t:Bool)(ht:isNum s=t):CallT M 165 #[strV s] H (fun v H'=> H.le H'∧v=.bool t):=by
 rw[←ht];clear ht;refine .en func165 ntmps165 fun St c cs hK=> ?_;refine U10 ?_;refine Tc.db (Tc.loopInv (σ:= { j:Nat//j≤s.length∧∀i x,i<j→s[i]? =some x→dig x=true }) (fun j=> ([(0,strV s),(3,.int .i64 (j.1:Nat))],[])) (fun j=> s.length-j.1) ?_ ⟨0,Nat.zero_le _,fun i x hi=> by omega⟩);rintro⟨j,hj,hall⟩ ih;show Tc M St _ _ _ _ [(0,strV s),(3,.int .i64 (j:Nat))] [] _ _;by_cases c1:j=s.length
 · have e:s.all dig=true:=List.all_eq_true.2 fun x hx=> by
     obtain⟨i,hi,rfl⟩:=List.mem_iff_getElem.1 hx;exact hall i _ (by omega) (List.getElem?_eq_getElem hi)
   have e2:isNum s=decide (1≤((s.length:Nat):Int)∧((s.length:Nat):Int)≤3):=by
     unfold isNum;rw[e,Bool.and_true];exact decide_eq_decide.2 (by omega)
   rw[e2] at hK;subst c1;refine U14 ?_;refine .c rfl rfl rfl rfl (fun H hs=> .h (In_c M H (s.length:Nat) 1 3 _ rfl)) ?_;refine U2 ?_;refine .rt hK func165 results165 [_] ?_;exact okB
 · have c2:j<s.length:=by omega
   obtain⟨x,hx⟩:∃x,s[j]? =some x:=⟨_,List.getElem?_eq_getElem c2⟩
   have f1:s[((j:Nat):Int).toNat]? =some x:=by rw[Int.toNat_natCast];exact hx
   cases hd:dig x with
   | true=>
     have:=of_decide_eq_true hd;refine U33 ?_;exact Tc.db (ih ⟨j+1,by omega,fun i y hi hy=> by
       by_cases e:i=j
       · subst e;rw[hx] at hy;cases hy;exact hd
       · exact hall i y (by omega) hy⟩ (by simp only;omega))
   | false=>
     have e:isNum s=false:=by unfold isNum;rw[all_not hx hd];simp
     have hnd:=of_decide_eq_false hd;rw[e] at hK;by_cases c3:x.toNat<48
     · refine U30 ?_;refine .rt hK func165 results165 [_] ?_;exact okB
     · have c4:57<x.toNat:=by omega
       refine U30 ?_;refine .rt hK func165 results165 [_] ?_;exact okB
theorem IsNameR_c(s:List UInt8)(hl:s.length≤1000000)(t:Bool)(ht:isNm s=t):CallT M 164 #[strV s] H (fun v H'=> H.le H'∧v=.bool t):=by
 rw[←ht];clear ht;refine .en func164 ntmps164 fun St c cs hK=> ?_;refine U10 ?_;refine Tc.db (Tc.loopInv (σ:= { j:Nat//j≤s.length∧∀i,i<j→nmAt s i=true }) (fun j=> ([(0,strV s),(3,.int .i64 (j.1:Nat))],[])) (fun j=> s.length-j.1) ?_ ⟨0,Nat.zero_le _,fun i hi=> by omega⟩);rintro⟨j,hj,hall⟩ ih;show Tc M St _ _ _ _ [(0,strV s),(3,.int .i64 (j:Nat))] [] _ _;by_cases c1:j=s.length
 · have e:allB (nmAt s) s.length=true:=(allB_iff _).2 (by rw[←c1];exact hall);have e2:isNm s=decide (1≤((s.length:Nat):Int)∧((s.length:Nat):Int)≤9):=by
     unfold isNm;rw[e,Bool.and_true];exact decide_eq_decide.2 (by omega)
   rw[e2] at hK;subst c1;refine U14 ?_;refine .c rfl rfl rfl rfl (fun H hs=> .h (In_c M H (s.length:Nat) 1 9 _ rfl)) ?_;refine U2 ?_;refine .rt hK func164 results164 [_] ?_;exact okB
 · have c2:j<s.length:=by omega
   obtain⟨x,hx⟩:∃x,s[j]? =some x:=⟨_,List.getElem?_eq_getElem c2⟩
   have f1:s[((j:Nat):Int).toNat]? =some x:=by rw[Int.toNat_natCast];exact hx
   cases hlw:low x with
   | true=>
     have hn:nmAt s j=true:=by unfold nmAt;rw[hx];simp[hlw]
     refine U17 ?_;refine .c rfl rfl rfl rfl (fun H hs=> .h (smallR_c M H x true hlw)) ?_;refine U5 ?_;refine To.skippedU rfl (by decide) rfl ?_;refine To.skippedU rfl (by decide) rfl ?_;refine To.skippedU rfl (by decide) rfl ?_;refine To.skippedU rfl (by decide) rfl ?_;refine To.skippedU rfl (by decide) rfl ?_;refine U11 ?_;exact Tc.db (ih ⟨j+1,by omega,fun i hi=> by by_cases e:i=j;exact e▸hn;exact hall i (by omega)⟩ (by simp only;omega))
   | false=>
     by_cases c3:j=0
     · subst c3;have e:isNm s=false:=by unfold isNm;rw[allB_not c2 (by unfold nmAt;rw[hx];simp[hlw])];simp
       rw[e] at hK;refine U17 ?_;refine .c rfl rfl rfl rfl (fun H hs=> .h (smallR_c M H x false hlw)) ?_;refine U18 ?_;refine .rt hK func164 results164 [_] ?_;exact okB
     · have c4:(j:Int)≠0:=by omega
       cases hd:dig x with
       | true=>
         have hn:nmAt s j=true:=by unfold nmAt;rw[hx];simp[hd];omega
         refine U17 ?_;refine .c rfl rfl rfl rfl (fun H hs=> .h (smallR_c M H x false hlw)) ?_;refine U8 ?_;refine .c rfl rfl rfl rfl (fun H hs=> .h (digitR_c M H x true hd)) ?_;refine U12 ?_;exact Tc.db (ih ⟨j+1,by omega,fun i hi=> by by_cases e:i=j;exact e▸hn;exact hall i (by omega)⟩ (by simp only;omega))
       | false=>
         have e:isNm s=false:=by unfold isNm;rw[allB_not c2 (by unfold nmAt;rw[hx];simp[hlw,hd])];simp
         rw[e] at hK;refine U17 ?_;refine .c rfl rfl rfl rfl (fun H hs=> .h (smallR_c M H x false hlw)) ?_;refine U8 ?_;refine .c rfl rfl rfl rfl (fun H hs=> .h (digitR_c M H x false hd)) ?_;refine U9 ?_;refine .rt hK func164 results164 [_] ?_;exact okB
theorem IndexOf_c(A:Option Addr)(n ac:Nat)(x:Nat→List UInt8)(hA:StrsAt H A n x)(hn:n≤100000000)(s:List UInt8):CallT M 156 #[.slice A n ac,strV s] H (fun v H'=> H.le H'∧v=.int .i64 (firstI (firstTo (fun j=> x j==s) n))):=by
 refine .en func156 ntmps156 fun St c cs hK=> ?_;refine U10 ?_;refine Tc.db (Tc.loopInv (σ:= { j:Nat//j≤n∧firstTo (fun j=> x j==s) j=none }) (fun j=> ([(0,.slice A n ac),(1,strV s),(5,.int .i64 (j.1:Nat))],[])) (fun j=> n-j.1) ?_ ⟨0,Nat.zero_le _,rfl⟩);rintro⟨j,hj,hno⟩ ih;show Tc M St _ _ _ _ [(0,.slice A n ac),(1,strV s),(5,.int .i64 (j:Nat))] [] _ _;by_cases c1:j=n
 · subst c1;rw[hno] at hK;refine U14 ?_;refine .rt hK func156 results156 [_] ?_;exact okB
 · have c2:j<n:=by omega
   obtain h0|⟨ab,ao,f,gs,gt,gz,rfl,hb,hl⟩:=hA
   · omega
   have f1:=hl j c2;cases hpp:x j==s with
   | true=>
     have f3:RL.strB .eql (x j) s=some (.bool true):=by rw[←hpp];rfl
     have e:firstTo (fun j=> x j==s) n=some j:=firstTo_stays (j:=j+1) (by simp[firstTo,hno,hpp]) _ (by omega);rw[e] at hK;refine U27 ?_;refine .rt hK func156 results156 [_] ?_;exact okB
   | false=>
     have f3:RL.strB .eql (x j) s=some (.bool false):=by rw[←hpp];rfl
     refine U29 ?_;exact Tc.db (ih ⟨j+1,by omega,by simp[firstTo,hno,hpp]⟩ (by simp only;omega))
theorem clashesR_c(k:Bk)(A:Option Addr)(lc:Nat)(hA:RowsAt H k A lc)(hn:k.nl≤1000)(s:List UInt8)(t:Bool)(ht:k.clash s=t):
   CallT M 166 #[.slice A k.nl lc,strV s] H (fun v H'=> H.le H'∧v=.bool t):=by
 rw[←ht];clear ht;refine .en func166 ntmps166 fun St c cs hK=> ?_;refine U10 ?_;refine Tc.db (Tc.loopInv (σ:= { j:Nat//j≤k.nl∧firstTo (fun i=> clash1 (k.num i) s) j=none }) (fun j=> ([(0,.slice A k.nl lc),(1,strV s),(5,.int .i64 (j.1:Nat))],[])) (fun j=> k.nl-j.1) ?_ ⟨0,Nat.zero_le _,rfl⟩);rintro⟨j,hj,hno⟩ ih;show Tc M St _ _ _ _ [(0,.slice A k.nl lc),(1,strV s),(5,.int .i64 (j:Nat))] [] _ _;by_cases c1:j=k.nl
 · have e:k.clash s=false:=by unfold Bk.clash;rw[←c1,hno];rfl
   subst c1;rw[e] at hK;refine U14 ?_;refine .rt hK func166 results166 [_] ?_;exact okB
 · have c2:j<k.nl:=by omega
   obtain⟨_,h0|⟨ab,ao,f,gs,gt,gz,rfl,hb,hl⟩⟩:=hA
   · omega
   obtain⟨F,fc,f1,_,_⟩:=hl j c2;have f2:ldL false 1 gs (ao+((j:Nat):Int).toNat*3+1)=some (strV (k.num j)):=ldL_cell f1 (by decide);cases hpp:clash1 (k.num j) s with
   | true=>
     have e:k.clash s=true:=by
       unfold Bk.clash;rw[firstTo_stays (j:=j+1) (x:=j) (by simp[firstTo,hno,hpp]) _ (by omega)];rfl
     rw[e] at hK;cases hb1:begins s (k.num j) with
     | true=>
       refine U20 ?_;refine .c rfl rfl rfl rfl (fun H hs=> .h (Begins_c M H s (k.num j) true hb1)) ?_;refine U15 ?_;refine .rt hK func166 results166 [_] ?_;exact okB
     | false=>
       have hb2:begins (k.num j) s=true:=by unfold clash1 at hpp;rw[hb1,Bool.or_false] at hpp;exact hpp
       refine U20 ?_;refine .c rfl rfl rfl rfl (fun H hs=> .h (Begins_c M H s (k.num j) false hb1)) ?_;refine U7 ?_;refine .c rfl rfl rfl rfl (fun H hs=> .h (Begins_c M H (k.num j) s true hb2)) ?_;refine U7 ?_;refine .rt hK func166 results166 [_] ?_;exact okB
   | false=>
     have hb12:begins s (k.num j)=false∧begins (k.num j) s=false:=by unfold clash1 at hpp;rw[Bool.or_eq_false_iff] at hpp;exact⟨hpp.2,hpp.1⟩
     refine U20 ?_;refine .c rfl rfl rfl rfl (fun H hs=> .h (Begins_c M H s (k.num j) false hb12.1)) ?_;refine U7 ?_;refine .c rfl rfl rfl rfl (fun H hs=> .h (Begins_c M H (k.num j) s false hb12.2)) ?_;refine U10 ?_;exact Tc.db (ih ⟨j+1,by omega,by simp[firstTo,hno,hpp]⟩ (by simp only;omega))
theorem checkTrain_c(a b p q:Int)(z:Int)(hz:(if trainOk a b p q then 0 else 1:Int)=z):CallT M 84 #[trainV a b p q] H (fun v H'=> H.le H'∧v=.int .i64 z):=by
 rw[←hz];clear hz;by_cases c1:1≤a∧a≤b∧b≤12
 · by_cases c2:b-a<4
   · by_cases c3:0≤p∧p≤q∧q≤99
     · have e:trainOk a b p q=true:=by unfold trainOk;simp[c1,c2,c3]
       rw[e];refine .en func84 ntmps84 fun St c cs hK=> ?_;refine U2 ?_;refine .bo fun b1=> ?_;refine U7 ?_;refine .c rfl rfl rfl rfl (fun H hs=> .h (Inside_c M H a b 1 12 true (decide_eq_true c1))) ?_;refine U14 ?_;refine .c rfl rfl rfl rfl (fun H hs=> .h (Inside_c M H p q 0 99 true (decide_eq_true c3))) ?_;refine U9 ?_;refine .rt hK func84 results84 [_] ?_;exact okB
     · have e:trainOk a b p q=false:=by unfold trainOk;simp[c3]
       rw[e];refine .en func84 ntmps84 fun St c cs hK=> ?_;refine U2 ?_;refine .bo fun b1=> ?_;refine U7 ?_;refine .c rfl rfl rfl rfl (fun H hs=> .h (Inside_c M H a b 1 12 true (decide_eq_true c1))) ?_;refine U14 ?_;refine .c rfl rfl rfl rfl (fun H hs=> .h (Inside_c M H p q 0 99 false (decide_eq_false c3))) ?_;refine U8 ?_;refine .rt hK func84 results84 [_] ?_;exact okB
   · have e:trainOk a b p q=false:=by unfold trainOk;simp[c2]
     rw[e];refine .en func84 ntmps84 fun St c cs hK=> ?_;refine U2 ?_;refine .bo fun b1=> ?_;refine U7 ?_;refine .c rfl rfl rfl rfl (fun H hs=> .h (Inside_c M H a b 1 12 true (decide_eq_true c1))) ?_;refine U23 ?_;refine .rt hK func84 results84 [_] ?_;exact okB
 · have e:trainOk a b p q=false:=by unfold trainOk;simp[c1]
   rw[e];refine .en func84 ntmps84 fun St c cs hK=> ?_;refine U2 ?_;refine .bo fun b1=> ?_;refine U7 ?_;refine .c rfl rfl rfl rfl (fun H hs=> .h (Inside_c M H a b 1 12 false (decide_eq_false c1))) ?_;refine U23 ?_;refine .rt hK func84 results84 [_] ?_;exact okB
end
def Bk.namesTo(k:Bk)(j:Nat):List (List UInt8):=(List.range j).map k.name
theorem namesTo_snoc(k:Bk)(j:Nat):k.namesTo (j+1)=k.namesTo j++[k.name j]:=by unfold Bk.namesTo;rw[List.range_succ,List.map_append];rfl
theorem namesTo_len(k:Bk)(j:Nat):(k.namesTo j).length=j:=by unfold Bk.namesTo;simp
theorem firstTo_cong {p q:Nat→Bool}:∀n,(∀i,i<n→p i=q i)→firstTo p n=firstTo q n
 | 0,_=> rfl
 | n+1,h=> by rw[firstTo,firstTo,firstTo_cong n (fun i hi=> h i (by omega)),h n (by omega)]
theorem names_first(k:Bk)(j n:Nat)(hn:n=j)(s:List UInt8):firstTo (fun i=> (k.namesTo j)[i]?.getD []==s) n=firstTo (fun i=> k.name i==s) j:=by
 subst hn;refine firstTo_cong _ fun i hi=> ?_;unfold Bk.namesTo;rw[List.getElem?_map,List.getElem?_eq_getElem (by simpa using hi)];simp
section
variable(M:Md prog)(H:View)
theorem checkLines_c (k:Bk)(A:Option Addr)(lc:Nat)(hA:RowsAt H k A lc)(hn:k.nl≤1000)(hs0:∀i,i<k.nl→(k.name i).length≤1000000∧(k.num i).length≤1000000∧k.nf i≤1000):
   CallT M 83 #[.slice A k.nl lc] H (fun v H'=> H.le H'∧v=.int .i64 k.linesA):=by
 by_cases c1:6<k.nl
 · have e:k.linesA=2:=if_pos c1;rw[e];refine .en func83 ntmps83 fun St c cs hK=> ?_;refine U16 ?_;refine .rt hK func83 results83 [_] ?_;exact okB
 · have e : k.linesA =firstA k.lineA k.nl:=if_neg c1;rw[e];clear e;refine .en func83 ntmps83 fun St c cs hK=> ?_;refine U23 ?_;refine Tc.db (Tc.loopInv (σ:= { x:Nat×Gl 9 1//x.1≤k.nl∧firstA k.lineA x.1=0∧x.2.l=strsV (k.namesTo x.1) }) (fun x=> ([(0,.slice A k.nl lc),(3,x.1.2.val),(4,.int .i64 (x.1.1:Nat))],x.1.2.bl)) (fun x=> k.nl-x.1.1) ?_ ⟨(0,Gl.nil 9 1),Nat.zero_le _,rfl,rfl⟩);rintro⟨⟨j,g⟩,hj,hno,hgl⟩ ih;simp only at hj hno hgl;show Tc M St _ _ _ _ [(0,.slice A k.nl lc),(3,g.val),(4,.int .i64 (j:Nat))] g.bl _ _;have hgn:g.n=j:=by
     have:=g.hl;rw[hgl,strsV_len,namesTo_len] at this;omega
   by_cases c2:j=k.nl
   · subst c2;rw[hno] at hK;refine U14 ?_;refine .rt hK func83 results83 [_] ?_;exact okB
   · have c3 : j < k.nl:=by omega
     have hA':=hA;obtain⟨hlc,h0|⟨ab,ao,f,gs,gt,gz,rfl,hb,hl⟩⟩:=hA
     · omega
     obtain⟨F,fc,f1,_,hF⟩:=hl j c3;obtain⟨s0,s1,s2⟩:=hs0 j c3;have f20:ldL false 1 gs (ao+((j:Nat):Int).toNat*3+0)=some (strV (k.name j)):=ldL_cell f1 (by decide);have f21:ldL false 1 gs (ao+((j:Nat):Int).toNat*3+1)=some (strV (k.num j)):=ldL_cell f1 (by decide);have f22:ldL false 1 gs (ao+((j:Nat):Int).toNat*3+2)=some (.slice F (k.nf j) fc):=ldL_cell f1 (by decide);have hA2:RowsAt H (k.pre j) (some ⟨ab,ao,none⟩) lc:=hA'.pre hj;have hix:=fun(H':View) (hg:∀x∈g.bl,H' x.1=some x.2)=> IndexOf_c M H' (g.blk.map fun b=> ⟨b,0,none⟩) g.n g.cap (fun i=> (k.namesTo j)[i]?.getD []) (strs_of g hg hgl rfl rfl) (by omega) (k.name j);rw[names_first k j g.n hgn] at hix;cases q0:isNm (k.name j) with
     | false=>
       have eA:k.lineA j=4:=by unfold Bk.lineA;simp only[q0];simp
       rw[firstA_at hno eA (by decide) c3] at hK;refine U20 ?_;refine .c rfl rfl rfl rfl (fun H hs=> .h (IsNameR_c M H (k.name j) s0 _ q0)) ?_;refine U7 ?_;refine .rt hK func83 results83 [_] ?_;exact okB
     | true=>
       cases q1:k.again j with
       | true=>
         obtain⟨i0,hi0⟩:∃i,firstTo (fun i=> k.name i==k.name j) j=some i:=Option.isSome_iff_exists.1 q1;rw[hi0] at hix;have hix:=fun(H':View) (hg:∀x∈g.bl,H' x.1=some x.2)=> isV (w':=.int .i64 (i0:Nat)) (hix H' hg) rfl;have eA:k.lineA j=5:=by unfold Bk.lineA;simp only[q0,q1];simp
         rw[firstA_at hno eA (by decide) c3] at hK;refine U20 ?_;refine .c rfl rfl rfl rfl (fun H hs=> .h (IsNameR_c M H (k.name j) s0 _ q0)) ?_;refine U13 ?_;refine .c rfl rfl rfl rfl (fun H hs=> .h (hix H (fun x hx=> hs.at_ x hx))) ?_;refine U7 ?_;refine .rt hK func83 results83 [_] ?_;exact okB
       | false =>
         have hi0:firstTo (fun i=> k.name i==k.name j) j=none:=Option.isNone_iff_eq_none.1 (by have:=q1;unfold Bk.again at this;rw[←Option.not_isSome,this];rfl);rw[hi0] at hix;have hix:=fun(H':View) (hg:∀x∈g.bl,H' x.1=some x.2)=> isV (w':=.int .i64 (-1)) (hix H' hg) rfl;cases q2:isNum (k.num j) with
         | false=>
           have eA:k.lineA j=3:=by unfold Bk.lineA;simp only[q0,q1,q2];simp
           rw[firstA_at hno eA (by decide) c3] at hK;refine U20 ?_;refine .c rfl rfl rfl rfl (fun H hs=> .h (IsNameR_c M H (k.name j) s0 _ q0)) ?_;refine U13 ?_;refine .c rfl rfl rfl rfl (fun H hs=> .h (hix H (fun x hx=> hs.at_ x hx))) ?_;refine U12 ?_;refine .e (.bs (zz:=fun bs=> ?_));refine .e (Or.append (E:=en) (g:=g) (m:=1) (new:= [strV (k.name j)]) (yv:=.slice (some ⟨bs,0,none⟩) 1 1) 1 rfl rfl rfl rfl rfl rfl rfl rfl rfl rfl rfl rfl rfl rfl rfl (fun H hs=> SrcAt.of (hs.get (i:=0) rfl) (Nat.le_of_ble_eq_true rfl)) rfl (by omega) rfl (by decide) (fun g2 hn2 hl2=> ?_));refine U10 ?_;refine .c rfl rfl rfl rfl (fun H hs=> .h (IsNumberR_c M H (k.num j) s1 _ q2)) ?_;refine U7 ?_;refine .rt hK func83 results83 [_] ?_;exact okB
         | true=>
           cases q3:(k.pre j).clash (k.num j) with
           | true=>
             have eA:k.lineA j=10:=by unfold Bk.lineA;simp only[q0,q1,q2,q3];simp
             rw[firstA_at hno eA (by decide) c3] at hK;refine U20 ?_;refine .c rfl rfl rfl rfl (fun H hs=> .h (IsNameR_c M H (k.name j) s0 _ q0)) ?_;refine U13 ?_;refine .c rfl rfl rfl rfl (fun H hs=> .h (hix H (fun x hx=> hs.at_ x hx))) ?_;refine U12 ?_;refine .e (.bs (zz:=fun bs=> ?_));refine .e (Or.append (E:=en) (g:=g) (m:=1) (new:= [strV (k.name j)]) (yv:=.slice (some ⟨bs,0,none⟩) 1 1) 1 rfl rfl rfl rfl rfl rfl rfl rfl rfl rfl rfl rfl rfl rfl rfl (fun H hs=> SrcAt.of (hs.get (i:=0) rfl) (Nat.le_of_ble_eq_true rfl)) rfl (by omega) rfl (by decide) (fun g2 hn2 hl2=> ?_));refine U10 ?_;refine .c rfl rfl rfl rfl (fun H hs=> .h (IsNumberR_c M H (k.num j) s1 _ q2)) ?_;refine U6 ?_;refine Tc.dr [] [] mixed rfl ?_;refine .nn 0 ?_;refine .nn 1 ?_;refine .q 2 rfl (OpV.sliceTo (E:=en) (k:=j) rfl rfl rfl rfl rfl rfl (by omega) (by omega)) ?_;refine .nn 3 ?_;refine .nn 4 ?_;refine .nn 5 ?_;refine .nn 6 ?_;refine .nn 7 ?_;refine .z 8 rfl (OpV.takeCall rfl rfl rfl rfl (fun H hs=> .h (clashesR_c M H (k.pre j) (some ⟨ab,ao,none⟩) lc (hA2.le hs.base) (by show j≤1000;omega) (k.num j) _ q3))) ?_;refine .dn ?_;refine U5 ?_;refine .rt hK func83 results83 [_] ?_;exact okB
           | false =>
             cases q4:decide (1≤((k.nf j:Nat):Int)∧((k.nf j:Nat):Int)≤4) with
             | false=>
               have eA:k.lineA j=2:=by unfold Bk.lineA;simp only[q0,q1,q2,q3,q4];simp
               rw[firstA_at hno eA (by decide) c3] at hK;refine U20 ?_;refine .c rfl rfl rfl rfl (fun H hs=> .h (IsNameR_c M H (k.name j) s0 _ q0)) ?_;refine U13 ?_;refine .c rfl rfl rfl rfl (fun H hs=> .h (hix H (fun x hx=> hs.at_ x hx))) ?_;refine U12 ?_;refine .e (.bs (zz:=fun bs=> ?_));refine .e (Or.append (E:=en) (g:=g) (m:=1) (new:= [strV (k.name j)]) (yv:=.slice (some ⟨bs,0,none⟩) 1 1) 1 rfl rfl rfl rfl rfl rfl rfl rfl rfl rfl rfl rfl rfl rfl rfl (fun H hs=> SrcAt.of (hs.get (i:=0) rfl) (Nat.le_of_ble_eq_true rfl)) rfl (by omega) rfl (by decide) (fun g2 hn2 hl2=> ?_));refine U10 ?_;refine .c rfl rfl rfl rfl (fun H hs=> .h (IsNumberR_c M H (k.num j) s1 _ q2)) ?_;refine U6 ?_;refine Tc.dr [] [] mixed rfl ?_;refine .nn 0 ?_;refine .nn 1 ?_;refine .q 2 rfl (OpV.sliceTo (E:=en) (k:=j) rfl rfl rfl rfl rfl rfl (by omega) (by omega)) ?_;refine .nn 3 ?_;refine .nn 4 ?_;refine .nn 5 ?_;refine .nn 6 ?_;refine .nn 7 ?_;refine .z 8 rfl (OpV.takeCall rfl rfl rfl rfl (fun H hs=> .h (clashesR_c M H (k.pre j) (some ⟨ab,ao,none⟩) lc (hA2.le hs.base) (by show j≤1000;omega) (k.num j) _ q3))) ?_;refine .dn ?_;refine U11 ?_;refine .c rfl rfl rfl rfl (fun H hs=> .h (In_c M H ((k.nf j:Nat):Int) 1 4 _ q4)) ?_;refine U7 ?_;refine .rt hK func83 results83 [_] ?_;exact okB
             | true=>
               refine U20 ?_;refine .c rfl rfl rfl rfl (fun H hs=> .h (IsNameR_c M H (k.name j) s0 _ q0)) ?_;refine U13 ?_;refine .c rfl rfl rfl rfl (fun H hs=> .h (hix H (fun x hx=> hs.at_ x hx))) ?_;refine U12 ?_;refine .e (.bs (zz:=fun bs=> ?_));refine .e (Or.append (E:=en) (g:=g) (m:=1) (new:= [strV (k.name j)]) (yv:=.slice (some ⟨bs,0,none⟩) 1 1) 1 rfl rfl rfl rfl rfl rfl rfl rfl rfl rfl rfl rfl rfl rfl rfl (fun H hs=> SrcAt.of (hs.get (i:=0) rfl) (Nat.le_of_ble_eq_true rfl)) rfl (by omega) rfl (by decide) (fun g2 hn2 hl2=> ?_));refine U10 ?_;refine .c rfl rfl rfl rfl (fun H hs=> .h (IsNumberR_c M H (k.num j) s1 _ q2)) ?_;refine U6 ?_;refine Tc.dr [] [] mixed rfl ?_;refine .nn 0 ?_;refine .nn 1 ?_;refine .q 2 rfl (OpV.sliceTo (E:=en) (k:=j) rfl rfl rfl rfl rfl rfl (by omega) (by omega)) ?_;refine .nn 3 ?_;refine .nn 4 ?_;refine .nn 5 ?_;refine .nn 6 ?_;refine .nn 7 ?_;refine .z 8 rfl (OpV.takeCall rfl rfl rfl rfl (fun H hs=> .h (clashesR_c M H (k.pre j) (some ⟨ab,ao,none⟩) lc (hA2.le hs.base) (by show j≤1000;omega) (k.num j) _ q3))) ?_;refine .dn ?_;refine U11 ?_;refine .c rfl rfl rfl rfl (fun H hs=> .h (In_c M H ((k.nf j:Nat):Int) 1 4 _ q4)) ?_;refine U9 ?_;refine Tc.db (Tc.loopInv (σ:= { i:Nat//i≤k.nf j∧firstTo (fun i=> !claimOk (k.free j i)) i=none }) (fun i=> ([(0,.slice (some ⟨ab,ao,none⟩) k.nl lc),(3,g2.val),(4,.int .i64 (j:Nat)),(5,.int .i64 (i.1:Nat))],g2.bl)) (fun i=> k.nf j-i.1) ?_ ⟨0,Nat.zero_le _,rfl⟩);rintro⟨i,hi,hin⟩ ih2;show Tc M St _ _ _ _ [(0,.slice (some ⟨ab,ao,none⟩) k.nl lc),(3,g2.val),(4,.int .i64 (j:Nat)),(5,.int .i64 (i:Nat))] g2.bl _ _;by_cases d1:i=k.nf j
               · have eA:k.lineA j=0:=by
                   have q5:k.freeBad j=false:=by unfold Bk.freeBad;rw[←d1,hin];rfl
                   unfold Bk.lineA;simp only[q0,q1,q2,q3,q4,q5];simp
                 clear ih2 hin;subst d1;refine U20 ?_;exact Tc.db (ih ⟨(j+1,g2),by simp only;omega,by simp only;rw[firstA,if_pos hno];exact eA,by simp only;rw[namesTo_snoc,strsV_app,hl2,hgl];rfl⟩ (by simp only;omega))
               · have d2:i<k.nf j:=by omega
                 obtain h0|⟨fb,fo,ff,fgs,fgt,fgz,rfl,hfb,hfl⟩:=hF
                 · omega
                 have f3:=hfl i d2;cases q5:claimOk (k.free j i) with
                 | true=>
                   refine U26 ?_;refine .c rfl rfl rfl rfl (fun H hs=> .h (IsClaim_c M H (k.free j i) _ q5)) ?_;refine U10 ?_;exact Tc.db (ih2 ⟨i+1,by omega,by simp[firstTo,hin,q5]⟩ (by simp only;omega))
                 | false=>
                   have q6:k.freeBad j=true:=by
                     unfold Bk.freeBad;rw[firstTo_stays (j:=i+1) (x:=i) (by simp[firstTo,hin,q5]) _ (by omega)];rfl
                   have eA:k.lineA j=1:=by unfold Bk.lineA;simp only[q0,q1,q2,q3,q4,q6];simp
                   rw[firstA_at hno eA (by decide) c3] at hK;refine U26 ?_;refine .c rfl rfl rfl rfl (fun H hs=> .h (IsClaim_c M H (k.free j i) _ q5)) ?_;refine U7 ?_;refine .rt hK func83 results83 [_] ?_;exact okB
end
end Go.Proofs.YtldmfjcgjdchcaaGreatDoor
