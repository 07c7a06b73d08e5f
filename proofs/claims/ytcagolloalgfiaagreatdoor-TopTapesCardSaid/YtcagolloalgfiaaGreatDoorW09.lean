/-
 Texts of the proofs over baudot/dial.
-/
import Derived.Test.YtcagolloalgfiaaGreatDoorW08
namespace Go.Proofs.YtcagolloalgfiaaGreatDoor
open Go.RL Go.Proofs.Tryz
set_option maxRecDepth 10000
set_option maxHeartbeats 16000000
def grpL(m:Nat)(g d:Nat):List (Int×Int):=(upFrom g d).map fun k:Nat=> ((m:Int),((k:Nat):Int))
def Sb.grpsFrom(b:Sb)(m:Nat):Nat->List (Int×Int)
 | 0=> []
 | d+1=> grpL m 0 (b.gr m).toNat++b.grpsFrom (m+1) d
def Sb.grps(b:Sb):List (Int×Int):=b.grpsFrom 0 b.nm
section
variable(M:Md prog)(H:View)
theorem often_c(b:Sb)(a:Sa)(hb:SbAt H b a)(hf:b.few)(l:List (Nat->Nat))(hl:∀x∈l,∀i,i<b.ns->x i<=b.np i)(hn:l.length<=1296)(F:Option Addr)(fc:Nat)(hF:HisAt H F l)(p:Int×Int):
  CallT M 78 #[b.val a,.slice F l.length fc,prtP p] H (fun v H'=> H.le H'/\∃g:Gl 3 1,v=g.val/\(g.l=oftenL b p l/\g.n=l.length)/\∀x∈g.bl,H' x.1=some x.2/\H x.1=none):=by
 refine .en func78 ntmps78 fun St c cs hK=> ?_;refine U2 ?_;refine .bo fun b3=> ?_;refine .bo fun b5=> ?_;refine U14 ?_;refine Tc.db (Tc.loopB (σ:= { s:Nat×Gl 3 1×View//s.1<=l.length/\s.2.1.l=oftenL b p (l.take s.1)/\s.2.1.n=s.1/\H.le s.2.2 })
  (fun s=> (s.1.2.2,[(3,.pointer (some ⟨b3,0,none⟩)),(5,.pointer (some ⟨b5,0,none⟩)),(7,s.1.2.1.val),(10,.slice F l.length fc),(11,.int .i64 (l.length:Nat)),(12,.int .i64 (s.1.1:Nat))],[(b5,true,.cells ⟨(prtP p).cells.toList⟩ 56 (0,0)),(b3,true,.cells ⟨(b.val a).cells.toList⟩ 98 (0,0))]++s.1.2.1.bl)) (fun s=> l.length-s.1.1) ?_ ⟨(0,Gl.nil 3 1,H),Nat.zero_le _,rfl,rfl,View.le_refl _⟩)
 rintro⟨⟨j,g,H₁⟩,g1,g2,g3,g4⟩ ih;simp only at g1 g2 g3 g4;show Tc M St _ _ H₁ _ [(3,.pointer (some ⟨b3,0,none⟩)),(5,.pointer (some ⟨b5,0,none⟩)),(7,g.val),(10,.slice F l.length fc),(11,.int .i64 (l.length:Nat)),(12,.int .i64 (j:Nat))] ([(b5,true,.cells ⟨(prtP p).cells.toList⟩ 56 (0,0)),(b3,true,.cells ⟨(b.val a).cells.toList⟩ 98 (0,0))]++g.bl) _ _;by_cases c0:j=l.length
 ·subst c0;rw[List.take_length] at g2;refine U12 ?_;refine .rt hK func78 results78 [_] ?_;intro H' hs;refine⟨View.le_trans g4 hs.base,g,rfl,⟨g2,g3⟩,fun y hy=> ?_⟩;have hy':y∈([(b5,true,Obj.cells ⟨(prtP p).cells.toList⟩ 56 (0,0)),(b3,true,Obj.cells ⟨(b.val a).cells.toList⟩ 98 (0,0))]++g.bl:Bl):=List.mem_append_right _ hy;refine⟨hs.at_ y hy',?_⟩;have:=hs.out y hy';cases h0:H y.1 with
  | none=> rfl
  | some z=> rw[g4 _ _ h0] at this;cases this
 ·have c1:j<l.length:=by omega
  rcases hF.le g4 with h0|⟨fb,fo,ff,fgs,fgt,fgz,rfl,hfb,hfl⟩
  ·rw[h0] at c1;cases c1
  obtain⟨x,hx⟩:∃x,l[j]? =some x:=⟨_,List.getElem?_eq_getElem c1⟩
  have f1:=hfl j x hx;have hu:=hl x (List.mem_of_getElem? hx);have hcp:=fun(H':View) (h':H₁.le H')=> copies_c M H' b a (hb.le (View.le_trans g4 h')) hf x hu;refine U13 ?_;refine .al fun b9=> ?_;refine U2 ?_;refine Tc.drK [7] 3 mixed rfl ?_;refine .nn 0 ?_;refine .nw 1 ?_;refine .nw 2 ?_;refine .nw 4 ?_;refine Ta.callL 3 kR rfl rfl rfl rfl rfl rfl rfl dE (FnT.h (copies_c M H₁ b a (hb.le g4) hf x hu)) (by intro _ _ hh;exact hh.1) sL (.inr sL) (fun v H₂ hv=> ?_);obtain⟨hle,mm,es,cl,rfl,⟨fm,q3⟩,hnone,q4⟩:=hv;refine .ea 5 rfl (Or.ofV (OpV.lookup (E:=en) 2 (es:=es) (v:=.int .i64 (cntS b x p b.ns:Nat)) rfl rfl rfl (fun H hs=> ⟨fm,hs.base _ _ q3⟩) rfl rfl rfl dE (prt_key p) (cnt_flat q4) (fun r hr=> cnt_found q4 hr)) rfl dE ⟨S2.mkL (by assumption) sL (.inr sL),?_⟩);refine .ea 6 rfl (.bs (zz:=fun bs=> ⟨S2.mkL (by assumption) sL (.inr sL),?_⟩));refine .ea 7 rfl (Or.append (E:=en) (g:=g) (m:=1) (new:= [.int .i64 (cntS b x p b.ns:Nat)]) (yv:=.slice (some ⟨bs,0,none⟩) 1 1) 4 rfl rfl rfl rfl rfl rfl rfl rfl rfl rfl rfl rfl rfl rfl rfl (fun H hs=> SrcAt.of (hs.get (i:=0) rfl) (Nat.le_of_ble_eq_true rfl)) rfl oM rfl dE (fun g5 hn5 hl5=> ⟨S2.mkL (by assumption) sL (.inl kR),?_⟩));refine .ea 8 rfl (Or.ofV .sg rfl dE ⟨S2.mkL (by assumption) sL (.inl kR),?_⟩);refine .dn ?_;refine U5 ?_;refine Tc.db (L':= [(b5,true,.cells ⟨(prtP p).cells.toList⟩ 56 (0,0)),(b3,true,.cells ⟨(b.val a).cells.toList⟩ 98 (0,0))]++g5.bl) (R':= [(3,.pointer (some ⟨b3,0,none⟩)),(5,.pointer (some ⟨b5,0,none⟩)),(7,g5.val),(10,.slice (some ⟨fb,fo,none⟩) l.length fc),(11,.int .i64 (l.length:Nat)),(12,.int .i64 ((j:Nat)+1))]) ?_;exact ih ⟨(j+1,g5,H₂),by simp only;omega,by simp only;rw[hl5,g2,List.take_add_one,hx];unfold oftenL;rw[List.map_append];rfl,by simp only;rw[hn5,g3],View.le_trans g4 hle⟩ (by simp only;omega)
theorem parts_it(b:Sb)(a:Sa)(ho:b.Ok):
  IterT M (.func (.func 76) #[b.val a] #[]) b.grps (fun p (_:Unit)=> [prtP p]) (fun _ _=> []) (fun _ _=> []) (fun H'=> SbAt H' b a) [] H:=fun l J D hcap h0 hy H₀ hs₀=> by
 have hnm:=ho.nm;refine FnT.of (first:= [_]) (captured:= []) ca76 rfl ?_;refine CallT.enter (vs:= [b.val a,.func (.yield l) #[] #[]]) func76 rfl ntmps76 (Nat.le_of_ble_eq_true rfl) (hs₀) fun St c cs hK=> ?_;refine U2 ?_;refine .bo fun b2=> ?_;refine U10 ?_;refine Tc.db (Tc.loopB (σ:= { s:Nat×View//s.1<=b.nm/\J (b.grpsFrom s.1 (b.nm-s.1)) s.2 })
  (fun s=> (s.1.2,[(1,.func (.yield l) #[] #[]),(9,.slice a.A b.nm a.mc),(10,.int .i64 (b.nm:Nat)),(11,.int .i64 (s.1.1:Nat))],[])) (fun s=> b.nm-s.1.1) ?_ ⟨(0,H),Nat.zero_le _,h0⟩)
 rintro⟨⟨m,H₁⟩,g1,j1⟩ ih₁;simp only at g1 j1;show Tc M St _ _ H₁ _ [(1,.func (.yield l) #[] #[]),(9,.slice a.A b.nm a.mc),(10,.int .i64 (b.nm:Nat)),(11,.int .i64 (m:Nat))] [] _ _;by_cases c0:m=b.nm
 ·subst c0;rw[Nat.sub_self] at j1;refine U7 ?_;refine .ov hK func76 results76 [] ?_;exact fun H' hs=> ⟨H₁,hs.base,.inl j1⟩
 ·have c1 : m<b.nm:=by omega
  have hgr:=ho.gr m c1;obtain⟨_,h0|⟨k,o,f,gs,gt,gz,e1,e2,e3⟩⟩:=(hcap _ _ j1).msgs
  ·omega
  have f1:=e3 m c1;obtain⟨G,hG⟩:∃G:Nat,b.gr m=G:=⟨(b.gr m).toNat,oM⟩
  rw[hG] at f1 hgr;have e4:b.nm-m=(b.nm-(m+1))+1:=by omega
  rw[e4] at j1;have j2:J (grpL m 0 G++b.grpsFrom (m+1) (b.nm-(m+1))) H₁:=by
   have:b.grpsFrom m (b.nm-(m+1)+1)=grpL m 0 (b.gr m).toNat++b.grpsFrom (m+1) (b.nm-(m+1)):=rfl;rw[this,hG,Int.toNat_natCast] at j1;exact j1
  rw[e1] at ih₁ ⊢;refine U14 ?_;refine .al fun b5=> ?_;refine U10 ?_;refine Tc.db (Tc.loopB (σ:= { s:Nat×View//s.1<=G/\J (grpL m s.1 (G-s.1)++b.grpsFrom (m+1) (b.nm-(m+1))) s.2 })
   (fun s=> (s.1.2,[(1,.func (.yield l) #[] #[]),(4,.int .i64 (m:Nat)),(9,.slice (some ⟨k,o,none⟩) b.nm a.mc),(10,.int .i64 (b.nm:Nat)),(11,.int .i64 (m:Nat)),(17,.int .i64 (G:Nat)),(18,.int .i64 (s.1.1:Nat))],[])) (fun s=> G-s.1.1) ?_ ⟨(0,H₁),Nat.zero_le _,j2⟩)
  rintro⟨⟨q,H₂⟩,q1,j3⟩ ih₂;simp only at q1 j3;show Tc M St _ _ H₂ _ [(1,.func (.yield l) #[] #[]),(4,.int .i64 (m:Nat)),(9,.slice (some ⟨k,o,none⟩) b.nm a.mc),(10,.int .i64 (b.nm:Nat)),(11,.int .i64 (m:Nat)),(17,.int .i64 (G:Nat)),(18,.int .i64 (q:Nat))] [] _ _;by_cases d0:q=G
  ·subst d0;rw[Nat.sub_self] at j3;refine U12 ?_;exact Tc.db (ih₁ ⟨(m+1,H₂),by simp only;omega,j3⟩ (by simp only;omega))
  ·have d1 :q<G:=by omega
   have e5:G-q=(G-(q+1))+1:=by omega
   rw[e5] at j3;have hmem:((m:Int),(q:Int))∈b.grps:=by
    have h1:∀(d n x:Nat),n<=x->x<n+d->x∈upFrom n d:=by
     intro d;induction d with
     | zero=> intro n x h1 h2;omega
     | succ d ih=>
      intro n x h1 h2;rw[upFrom_cons];by_cases e:x=n
      ·subst e;exact List.mem_cons_self ..
      ·exact List.mem_cons_of_mem _ (ih _ _ oM oM)
    have h2:∀(d n:Nat),n<=m->m<n+d->((m:Int),(q:Int))∈b.grpsFrom n d:=by
     intro d;induction d with
     | zero=> intro n h1 h2;omega
     | succ d ih=>
      intro n h3 h4;by_cases e:n=m
      ·subst e;refine List.mem_append_left _ (List.mem_map.2 ⟨q,h1 (b.gr n).toNat 0 q (Nat.zero_le _) (by rw[hG,Int.toNat_natCast];omega),rfl⟩)
      ·exact List.mem_append_right _ (ih _ oM oM)
    exact h2 b.nm 0 (Nat.zero_le _) oM
   refine U20 ?_;refine To.callF rfl rfl rfl rfl rfl rfl dE (hy ((m:Int),(q:Int)) (grpL m (q+1) (G-(q+1))++b.grpsFrom (m+1) (b.nm-(m+1))) () H₂ H₂ hmem j3 (SymSt.nil H₂)) (fun v H₃ hv=> ?_);rcases hv with ⟨rfl,H4,h8,j4⟩|⟨rfl,hD⟩
   ·refine To.lower h8.base ?_;refine U9 ?_;exact Tc.db (ih₂ ⟨(q+1,H4),by simp only;omega,j4⟩ (by simp only;omega))
   ·refine U3 ?_;refine .rt hK func76 results76 [] ?_;exact fun H' hs=> ⟨H₃,hs.base,.inr hD⟩
end
theorem free_of(g:Gl 3 1){H:View}(h:∀x∈g.bl,H x.1=some x.2){n:Nat}{x:Nat->Int}(hn:g.n=n)(hl:∀j,j<n->g.l[j]? =some (.int .i64 (x j))):FreeAt H (g.blk.map fun b=> ⟨b,0,none⟩) n x:=by
 have hgl:=g.hl;cases hbb:g.blk with
 | none=>
  have:=g.h0 hbb;have:=g.hc;exact .inl oM
 | some b=>
  have hbl:g.bl= [(b,true,.cells ⟨g.l++g.junk⟩ 3 (0,0))]:=by unfold Gl.bl;rw[hbb]
  refine .inr ⟨b,0,true,_,3,(0,0),rfl,h (b,true,.cells ⟨g.l++g.junk⟩ 3 (0,0)) (by rw[hbl];simp),fun j hj=> ?_⟩;show(g.l++g.junk)[0+((j:Nat):Int).toNat*1]? =_;rw[Int.toNat_natCast,Nat.zero_add,Nat.mul_one,List.getElem?_append_left oM];exact hl j hj
def Sb.mis(b:Sb)(l:List (Nat->Nat))(p:Int×Int):Bool:=decide (cntGe (fun i=> (cntS b (l[i]?.getD zeroW) p b.ns:Int)) 1 l.length<l.length)
def Sb.missL(b:Sb)(l:List (Nat->Nat)):List (Int×Int):=b.grps.filter (b.mis l)
def prtsV(l:List (Int×Int)):List Value:=l.flatMap fun p=> [.int .i64 p.1,.int .i64 p.2]
theorem prtsV_app(l m:List (Int×Int)):prtsV (l++m)=prtsV l++prtsV m:=by unfold prtsV;rw[List.flatMap_append]
theorem prtsV_one(p:Int×Int):prtsV [p]= [.int .i64 p.1,.int .i64 p.2]:=by unfold prtsV;simp
theorem grps_len {b:Sb}(ho:b.Ok):b.grps.length<=20:=by
 have h1:∀(d n:Nat),(upFrom n d).length=d:=by
  intro d;induction d with
  | zero=> intro n;rfl
  | succ d ih=> intro n;rw[upFrom_cons,List.length_cons,ih]
 have h2:∀(d n:Nat),n+d<=b.nm->(b.grpsFrom n d).length<=4*d:=by
  intro d;induction d with
  | zero=> intro n _;exact Nat.le_refl _
  | succ d ih=>
   intro n hn;have h3:=ho.gr n oM;have h4:=ih (n+1) oM;show(grpL n 0 (b.gr n).toNat++b.grpsFrom (n+1) d).length<=_;rw[List.length_append];have h5:(grpL n 0 (b.gr n).toNat).length=(b.gr n).toNat:=by unfold grpL;rw[List.length_map,h1]
   omega
 have:=h2 b.nm 0 oM;have:=ho.nm;unfold Sb.grps;omega
section
variable(M:Md prog)(H:View)
theorem missing_c(b:Sb)(a:Sa)(hb:SbAt H b a)(ho:b.Ok)(l:List (Nat->Nat))(hl:∀x∈l,∀i,i<b.ns->x i<=b.np i)(hn:l.length<=1296)(F:Option Addr)(fc:Nat)(hF:HisAt H F l):
  CallT M 40 #[b.val a,.slice F l.length fc] H (fun v H'=> H.le H'/\∃g:Gl 56 2,v=g.val/\(g.l=prtsV (b.missL l)/\g.n=(b.missL l).length)/\∀x∈g.bl,H' x.1=some x.2/\H x.1=none):=by
 have hit:=fun(H':View) (_:SbAt H' b a)=> parts_it M H' b a ho;have hgl:=grps_len ho;refine .en func40 ntmps40 fun St c cs hK=> ?_;refine U2 ?_;refine .bo fun b2=> ?_;refine .bo fun b3=> ?_;refine U4 ?_;refine .al fun b5=> ?_;refine U8 ?_;refine Tc.db (R':= [(2,.pointer (some ⟨b2,0,none⟩)),(3,.pointer (some ⟨b3,0,none⟩)),(5,.pointer (some ⟨b5,0,none⟩)),(8,.func (.func 76) #[b.val a] #[])]) (L':= [(b5,true,.cells ⟨[(Gl.nil 56 2).val]⟩ 48 (0,0)),(b3,true,.cells ⟨[.slice F l.length fc]⟩ 99 (0,0)),(b2,true,.cells ⟨(b.val a).cells.toList⟩ 98 (0,0))]++(Gl.nil 56 2).bl) ?_;refine Tc.rangeL (A:= []) (ts:= [9]) (xs:=b.grps) (fun rest H₄ L₄=> ∃(g':Gl 56 2) (dn:List (Int×Int)),L₄= [(b5,true,.cells ⟨[g'.val]⟩ 48 (0,0)),(b3,true,.cells ⟨[.slice F l.length fc]⟩ 99 (0,0)),(b2,true,.cells ⟨(b.val a).cells.toList⟩ 98 (0,0))]++g'.bl/\g'.l=prtsV (dn.filter (b.mis l))/\g'.n=(dn.filter (b.mis l)).length/\dn++rest=b.grps/\SbAt H₄ b a/\H.le H₄) (fun _ _ _=> False) rfl rfl rfl rfl hit (fun _ _ h c=> c.le h) (fun _ _ _ ⟨_,_,_,_,_,_,h,_⟩=> h) rfl (fun _ _=> rfl)
   ⟨Gl.nil 56 2,[],rfl,rfl,rfl,rfl,hb,View.le_refl _⟩ ?_ ?_ (fun _ _ _ _ h=> h.elim)
 ·rintro r p rest _ lp tmps asg bdy H₄ _ hx ⟨g',dn,rfl,q1,q2,q3,q4,q5⟩ Q St1 cc1 cs1 hK1 q q';have hdl2:(dn.filter (b.mis l)).length<=20:=by
   have h1:=congrArg List.length q3;have h2:=List.length_filter_le (b.mis l) dn;rw[List.length_append] at h1;omega
  have hof:=often_c M H₄ b a q4 ho.few l hl hn F fc (hF.le q5) p;obtain⟨w,hw⟩:∃w,cntGe (fun i=> (cntS b (l[i]?.getD zeroW) p b.ns:Int)) 1 l.length=w:=⟨_,rfl⟩
  have hct:=fun(H':View) (g:Gl 3 1) (h1:g.l=oftenL b p l) (h2:g.n=l.length) (h3:∀x∈g.bl,H' x.1=some x.2)=> count_c M H' (g.blk.map fun b=> ⟨b,0,none⟩) l.length g.cap (fun i=> (cntS b (l[i]?.getD zeroW) p b.ns:Int)) (free_of g h3 h2 (fun j hj=> by
   rw[h1];unfold oftenL;rw[List.getElem?_map,List.getElem?_eq_getElem hj];rfl)) oM 1
  have hm:b.mis l p=decide (w<l.length):=by unfold Sb.mis;rw[hw]
  have hfl:(dn++[p]).filter (b.mis l)=dn.filter (b.mis l)++if w<l.length then [p] else []:=by
   rw[List.filter_append]
   congr 1
   by_cases c:w<l.length
   ·rw[if_pos c,List.filter_cons_of_pos (by rw[hm];exact decide_eq_true c)];rfl
   ·rw[if_neg c,List.filter_cons_of_neg (by rw[hm];exact fun h=> c (of_decide_eq_true h))];rfl
  refine U ?_;refine .al fun b6=> ?_;refine U2 ?_;refine Tc.beginRound (i:=1) rfl rfl rfl ?_;refine U2 ?_;by_cases c0:w<l.length
  ·rw[if_pos c0] at hfl;refine Tc.dr [] [] mixed rfl ?_;refine V3 0 ?_;refine V2 5 ?_;refine Ta.callL 3 kR rfl rfl rfl rfl rfl rfl rfl dE (FnT.h hof) (by intro _ _ hh;exact hh.1) sL (.inr sL) (fun v H₅ hv=> ?_);obtain⟨hle,g,rfl,⟨k1,k2⟩,k3⟩:=hv;have hct':∀(H':View),H₅.le H'->CallT M 77 #[g.val,.int .i64 1] H' (fun v H''=> H'.le H''/\v=.int .i64 (w:Nat)):=fun H' h'=> by
    have:=hct H' g k1 k2 (fun x hx=> h' _ _ (k3 x hx).1);rw[hw,<-k2] at this;exact this
   refine .ea 4 rfl (Or.ofT (OpV.tk fun H hs=> hct' H hs.base) rfl dE ⟨S2.mkL (by assumption) sL (.inr sL),?_⟩);refine .ea 7 rfl (Or.ofV (.it (zz:=lss_t oM)) rfl dE ⟨S2.mkL (by assumption) sL (.inr sL),?_⟩);refine .dn ?_;refine U4 ?_;refine .e (.bs (zz:=fun bs=> ?_));refine .e (Or.append (E:=en) 7 rfl rfl rfl rfl rfl rfl rfl rfl rfl rfl rfl rfl rfl rfl rfl (fun H hs=> SrcAt.of (hs.get (i:=0) rfl) (Nat.le_of_ble_eq_true rfl)) rfl oM rfl dE (fun g2 hn2 hl2=> ?_));refine U3 ?_;refine Tc.leaveRound hK1 (i:=2) rfl (.inl ⟨rfl,rfl⟩) (fun H' hs=> q H' H₅ _ (hs.less sL) ⟨g2,dn++[p],rfl,by rw[hl2,q1,hfl,prtsV_app,prtsV_one];rfl,by rw[hn2,q2,hfl,List.length_append];rfl,by rw[List.append_assoc];exact q3,q4.le hle,View.le_trans q5 hle⟩)
  ·rw[if_neg c0,List.append_nil] at hfl;refine Tc.dr [] [] mixed rfl ?_;refine V3 0 ?_;refine V2 5 ?_;refine Ta.callL 3 kR rfl rfl rfl rfl rfl rfl rfl dE (FnT.h hof) (by intro _ _ hh;exact hh.1) sL (.inr sL) (fun v H₅ hv=> ?_);obtain⟨hle,g,rfl,⟨k1,k2⟩,k3⟩:=hv;have hct':∀(H':View),H₅.le H'->CallT M 77 #[g.val,.int .i64 1] H' (fun v H''=> H'.le H''/\v=.int .i64 (w:Nat)):=fun H' h'=> by
    have:=hct H' g k1 k2 (fun x hx=> h' _ _ (k3 x hx).1);rw[hw,<-k2] at this;exact this
   refine .ea 4 rfl (Or.ofT (OpV.tk fun H hs=> hct' H hs.base) rfl dE ⟨S2.mkL (by assumption) sL (.inr sL),?_⟩);refine .ea 7 rfl (Or.ofV (.it (zz:=lss_f oM)) rfl dE ⟨S2.mkL (by assumption) sL (.inr sL),?_⟩);refine .dn ?_;refine U3 ?_;refine Tc.leaveRound hK1 (i:=1) rfl (.inl ⟨rfl,rfl⟩) (fun H' hs=> q H' H₅ _ (hs.less sL) ⟨g',dn++[p],rfl,by rw[q1,hfl],by rw[q2,hfl],by rw[List.append_assoc];exact q3,q4.le hle,View.le_trans q5 hle⟩)
 ·rintro r H₄ _ ⟨g',dn,rfl,q1,q2,q3,q4,q5⟩;rw[List.append_nil] at q3;subst q3;refine U6 ?_;refine Tc.retD (E:=en) (i:=0) hK func40 results40 (vs:= [_]) rfl ⟨rfl,trivial⟩ ?_;intro H' hs;refine⟨View.le_trans q5 hs.base,g',rfl,⟨q1,q2⟩,fun y hy=> ?_⟩;have hy':y∈((r,true,Obj.deferred none)::([(b5,true,Obj.cells ⟨[g'.val]⟩ 48 (0,0)),(b3,true,Obj.cells ⟨[.slice F l.length fc]⟩ 99 (0,0)),(b2,true,Obj.cells ⟨(b.val a).cells.toList⟩ 98 (0,0))]++g'.bl):Bl):=List.mem_cons_of_mem _ (List.mem_append_right _ hy);refine⟨hs.at_ y hy',?_⟩;have:=hs.out y hy';cases h0:H y.1 with
  | none=> rfl
  | some z=> rw[q5 _ _ h0] at this;cases this
end
def cellsN(f:Nat->Nat)(n:Nat):List Value:=(List.range n).map fun i=> .int .i64 (f i:Nat)
theorem cellsN_len(f:Nat->Nat)(n:Nat):(cellsN f n).length=n:=by simp[cellsN]
theorem cellsN_ld(f:Nat->Nat){n i:Nat}(hi:i<n):ldL false 1 (cellsN f n) (0+(i:Int).toNat*1)=some (.int .i64 (f i:Nat)):=by
 show(cellsN f n)[0+(i:Int).toNat*1]? =_;rw[Int.toNat_natCast,Nat.zero_add,Nat.mul_one];unfold cellsN;rw[List.getElem?_map,List.getElem?_range hi];rfl
theorem cellsN_ble(f:Nat->Nat){n i:Nat}(hi:i<n):Nat.ble (0+(i:Int).toNat*1+1) (cellsN f n).length=true:=by
 rw[cellsN_len];exact Nat.ble_eq_true_of_le oM
theorem cellsN_st(f:Nat->Nat){n i:Nat}(hi:i<n)(x:Nat):stL (cellsN f n) (0+(i:Int).toNat*1) [.int .i64 (x:Nat)]=cellsN (upd f i x) n:=by
 apply List.ext_getElem?
 intro j;unfold stL;rw[Int.toNat_natCast,Nat.zero_add,Nat.mul_one];have hl:((cellsN f n).take i++[Value.int .i64 ((x:Nat):Int)]).length=i+1:=by
  rw[List.length_append,List.length_take,cellsN_len];simp
  omega
 by_cases h1:j<i
 ·rw[List.append_assoc,List.getElem?_append_left (by rw[List.length_take,cellsN_len];omega),List.getElem?_take_of_lt h1];unfold cellsN;rw[List.getElem?_map,List.getElem?_map,List.getElem?_range oM];simp[upd,Nat.ne_of_lt h1]
 ·by_cases h2:j=i
  ·subst h2;rw[List.getElem?_append_left (by rw[hl];omega),List.getElem?_append_right (by rw[List.length_take,cellsN_len];omega)];unfold cellsN;rw[List.length_take,List.length_map,List.length_range,Nat.min_eq_left oM,Nat.sub_self,List.getElem?_map,List.getElem?_range hi];simp[upd]
  ·rw[List.getElem?_append_right (by rw[hl];omega),hl,List.getElem?_drop];simp only[List.length_cons,List.length_nil];rw[show i+(0+1)+(j-(i+1))=j by omega];unfold cellsN;rw[List.getElem?_map,List.getElem?_map];by_cases h3:j<n
   ·rw[List.getElem?_range h3];simp[upd,h2]
   ·rw[List.getElem?_eq_none (by simp;omega)];rfl
theorem cellsN_zero(n:Nat):zeroRow [.int .i64 0] (n*1)=cellsN (fun _=> 0) n:=by
 unfold cellsN zeroRow;simp
 intro a _;rw[Nat.mod_one];rfl
def loN(l:List (Int×Int))(i:Nat):Nat:=l.countP fun p=> p.1==(i:Int)
theorem loN_snoc(l:List (Int×Int))(p:Int×Int){m:Nat}(hm:p.1=m):loN (l++[p])=upd (loN l) m (loN l m+1):=by
 funext i
 unfold loN upd;rw[List.countP_append,List.countP_singleton,hm];by_cases e:i=m
 ·subst e;simp
 ·rw[if_neg e,if_neg (by simp;omega)];rfl
def nightV(b:Sb)(a:Sa)(bs:Nat):Value:=.agg ⟨[.int .i64 b.room,.int .i64 b.gap,.slice a.A b.nm a.mc,.slice a.S b.ns a.sc,.slice a.R b.nr a.rc,.slice (some ⟨bs,0,none⟩) b.nm b.nm]⟩
theorem mem_grps {b:Sb}{p:Int×Int}(hp:p∈b.grps):0<=p.1/\p.1<b.nm:=by
 have h:∀(d n:Nat),p∈b.grpsFrom n d->(n:Int)<=p.1/\p.1<n+d:=by
  intro d;induction d with
  | zero=> intro n h;cases h
  | succ d ih=>
   intro n h;rcases List.mem_append.1 h with h|h
   ·obtain⟨k,_,rfl⟩:=List.mem_map.1 h;simp only;omega
   ·have:=ih _ h;omega
 have:=h b.nm 0 hp;omega
theorem prts_drop:∀(l:List (Int×Int)) (j:Nat) x (rest:List Value),l[j]? =some x->((prtsV l++rest).drop (j*2)).take 2= [.int .i64 x.1,.int .i64 x.2]
 | [],_,_,_,h=> by cases h
 | y::t,0,x,rest,h=> by
  cases h
  rfl
 | y::t,j+1,x,rest,h=> by
  have:=prts_drop t j x rest h;show(([Value.int .i64 y.1,Value.int .i64 y.2]++prtsV t++rest).drop ((j+1)*2)).take 2=_;rw[List.append_assoc,show(j+1)*2=2+j*2 by omega,<-List.drop_drop];exact this
theorem prts_len:∀l,(prtsV l).length=l.length*2
 | []=> rfl
 | x::t=> by
  have:=prts_len t;show([Value.int .i64 x.1,Value.int .i64 x.2]++prtsV t).length=_;rw[List.length_append,this];show 2+t.length*2=(t.length+1)*2;omega
def GrpsAt(H:View)(A:Option Addr)(l:List (Int×Int)):Prop:=
 l= []\/∃b o f gs gt gz,A=some ⟨b,o,none⟩/\H b=some (f,.cells ⟨gs⟩ gt gz)/\∀(j:Nat) x,l[j]? =some x->ldL true 2 gs (o+(j:Int).toNat*2)=some (prtP x)
theorem GrpsAt.le {H H':View}{A:Option Addr}{l:List (Int×Int)}(h:GrpsAt H A l)(k:H.le H'):GrpsAt H' A l:=
 h.imp id fun⟨b,o,f,gs,gt,gz,h1,h2,h3⟩=> ⟨b,o,f,gs,gt,gz,h1,k _ _ h2,h3⟩
theorem grps_of(g:Gl 56 2){H:View}(h:∀x∈g.bl,H x.1=some x.2){l:List (Int×Int)}(hl:g.l=prtsV l):GrpsAt H (g.blk.map fun b=> ⟨b,0,none⟩) l:=by
 have hgl:=g.hl;rw[hl,prts_len] at hgl;cases hbb:g.blk with
 | none=>
  have:=g.h0 hbb;have:=g.hc;exact .inl (List.eq_nil_of_length_eq_zero oM)
 | some b=>
  have hbl:g.bl= [(b,true,.cells ⟨g.l++g.junk⟩ 56 (0,0))]:=by unfold Gl.bl;rw[hbb]
  refine .inr ⟨b,0,true,_,56,(0,0),rfl,h (b,true,.cells ⟨g.l++g.junk⟩ 56 (0,0)) (by rw[hbl];simp),fun j x hx=> ?_⟩;have hjl:=(List.getElem?_eq_some_iff.1 hx).1;rw[Nat.zero_add,Int.toNat_natCast];unfold ldL;have hlen:j*2+2<=(g.l++g.junk).length:=by rw[List.length_append,hl,prts_len];omega
  rw[show Nat.ble (j*2+2) (g.l++g.junk).length=true from Nat.ble_eq_true_of_le hlen,hl];simp only[prts_drop l j x g.junk hx];rfl
section
variable(M:Md prog)(H:View)
theorem Missing_c(b:Sb)(a:Sa)(hb:SbAt H b a)(hk:Knd H)(ho:b.Ok)(hne:b.histories≠ [])(hhl:∀x∈b.histories,∀i,i<b.ns->x i<=b.np i):
  CallT M 11 #[b.val a] H (fun v H'=> H.le H'/\∃g:Gl 56 2,v=.tuple ⟨[g.val,.int .i64 0]⟩/\(g.l=prtsV (b.missL b.histories)/\g.n=(b.missL b.histories).length)/\∀x∈g.bl,H' x.1=some x.2/\H x.1=none):=by
 have hop:=open_c M H b a hb hk ho hne (.func (.func 39) #[] #[]) (fun H' _=> .h (nothing_c M H' b a));refine .en func11 ntmps11 fun St c cs hK=> ?_;refine U2 ?_;refine .bo fun b1=> ?_;refine U6 ?_;refine To.callF rfl rfl rfl rfl rfl rfl dE (FnT.h hop) (fun v H₁ hv=> ?_);obtain⟨hle,g,rfl,g1,g2,g3⟩:=hv;have hhis:=his_of g (fun x hx=> (g3 x hx).1) g1;have hms:=fun(H':View) (h':H₁.le H')=> missing_c M H' b a (hb.le (View.le_trans hle h')) ho b.histories hhl (histories_len ho) (g.blk.map fun b=> ⟨b,0,none⟩) g.cap (hhis.le h');have ms:=missing_c M H₁ b a (hb.le hle) ho b.histories hhl (histories_len ho) (g.blk.map fun b=> ⟨b,0,none⟩) g.cap hhis;rw[<-g2] at ms;refine U4 ?_;refine .al fun b4=> ?_;refine U16 ?_;refine To.callF rfl rfl rfl rfl rfl rfl dE (FnT.h ms) (fun w H₂ hw=> ?_);obtain⟨hle2,g',rfl,k1,k2⟩:=hw;refine U3 ?_;refine .rt hK func11 results11 [_,_] ?_;exact fun H' hs=> ⟨View.le_trans hle (View.le_trans hle2 hs.base),g',rfl,k1,fun x hx=> ⟨hs.base _ _ (k2 x hx).1,by
  have:=(k2 x hx).2;cases h0:H x.1 with
  | none=> rfl
  | some z=> rw[hle _ _ h0] at this;cases this⟩⟩
theorem nightOf_c(b:Sb)(a:Sa)(hb:SbAt H b a)(ho:b.Ok)(l:List (Nat->Nat))(hl:∀x∈l,∀i,i<b.ns->x i<=b.np i)(hn:l.length<=1296)(F:Option Addr)(fc:Nat)(hF:HisAt H F l):
  CallT M 42 #[b.val a,.slice F l.length fc] H (fun v H'=> H.le H'/\∃bs,v=nightV b a bs/\H bs=none/\H' bs=some (true,.cells ⟨cellsN (loN (b.missL l)) b.nm⟩ 3 (0,0))):=by
 have hnm:=ho.nm;have hml:(b.missL l).length<=20:=Nat.le_trans (List.length_filter_le _ _) (grps_len ho);have hmg:∀p∈b.missL l,0<=p.1/\p.1<b.nm:=fun p hp=> mem_grps (List.mem_filter.1 hp).1;refine .en func42 ntmps42 fun St c cs hK=> ?_;refine U2 ?_;refine .bo fun b2=> ?_;refine .al fun b4=> ?_;refine U2 ?_;refine Tc.via (fun R' L'=> ∃bs b5,AllIn [(1,.slice F l.length fc),(2,.pointer (some ⟨b2,0,none⟩)),(4,.pointer (some ⟨b4,0,none⟩)),(5,.pointer (some ⟨b5,0,none⟩))] R'/\([(b5,true,.cells ⟨(nightV b a bs).cells.toList⟩ 106 (0,0)),(bs,true,.cells ⟨cellsN (fun _=> 0) b.nm⟩ 3 (0,0)),(b4,true,.cells ⟨[.int .i64 0,.int .i64 0,.slice none 0 0,.slice none 0 0,.slice none 0 0,.slice none 0 0]⟩ 106 (0,0)),(b2,true,.cells ⟨(b.val a).cells.toList⟩ 98 (0,0))]=L'\/ [(bs,true,.cells ⟨cellsN (fun _=> 0) b.nm⟩ 3 (0,0)),(b5,true,.cells ⟨(nightV b a bs).cells.toList⟩ 106 (0,0)),(b4,true,.cells ⟨[.int .i64 0,.int .i64 0,.slice none 0 0,.slice none 0 0,.slice none 0 0,.slice none 0 0]⟩ 106 (0,0)),(b2,true,.cells ⟨(b.val a).cells.toList⟩ 98 (0,0))]=L')) ?_ (fun fin=> ?_)
 ·rintro R' L' ⟨bs,b5,hR',hL'⟩;have main:∀todo,Tc M St 33 ⟨42,.normal,none⟩ H (c::cs) [(1,.slice F l.length fc),(2,.pointer (some ⟨b2,0,none⟩)),(4,.pointer (some ⟨b4,0,none⟩)),(5,.pointer (some ⟨b5,0,none⟩))] [(b5,true,.cells ⟨(nightV b a bs).cells.toList⟩ 106 (0,0)),(bs,true,.cells ⟨cellsN (fun _=> 0) b.nm⟩ 3 (0,0)),(b4,true,.cells ⟨[.int .i64 0,.int .i64 0,.slice none 0 0,.slice none 0 0,.slice none 0 0,.slice none 0 0]⟩ 106 (0,0)),(b2,true,.cells ⟨(b.val a).cells.toList⟩ 98 (0,0))] [] todo->Tc M St 33 ⟨42,.normal,none⟩ H (c::cs) R' L' [] todo:=fun todo h=> by
   rcases hL' with rfl|rfl
   ·exact Tc.dropB h hR' (List.Sublist.refl _)
   ·exact Tc.perm (List.Perm.swap _ _ _) (Tc.dropB h hR' (List.Sublist.refl _))
  refine main _ ?_;refine U5 ?_;refine To.callF rfl rfl rfl rfl rfl rfl dE (FnT.h (missing_c M H b a hb ho l hl hn F fc hF)) (fun v H₁ hv=> ?_);obtain⟨hle,g,rfl,⟨k1,k2⟩,k3⟩:=hv;have hg:=grps_of g (fun x hx=> (k3 x hx).1) k1;have hgn:g.n<=20:=by omega
  obtain⟨gA,hgA⟩:∃gA:Option Addr,g.blk.map (fun b=> (⟨b,0,none⟩:Addr))=gA:=⟨_,rfl⟩
  have hgv:g.val=.slice gA g.n g.cap:=by rw[<-hgA];rfl
  rw[hgA] at hg;rw[hgv,k2];refine U4 ?_;refine Tc.db (Tc.loopInv (σ:= { j:Nat//j<=(b.missL l).length })
   (fun j=> ([(4,.pointer (some ⟨b4,0,none⟩)),(5,.pointer (some ⟨b5,0,none⟩)),(17,.slice gA (b.missL l).length g.cap),(18,.int .i64 ((b.missL l).length:Nat)),(19,.int .i64 (j.1:Nat))],[(b5,true,.cells ⟨(nightV b a bs).cells.toList⟩ 106 (0,0)),(bs,true,.cells ⟨cellsN (loN ((b.missL l).take j.1)) b.nm⟩ 3 (0,0)),(b4,true,.cells ⟨[.int .i64 0,.int .i64 0,.slice none 0 0,.slice none 0 0,.slice none 0 0,.slice none 0 0]⟩ 106 (0,0)),(b2,true,.cells ⟨(b.val a).cells.toList⟩ 98 (0,0))])) (fun j=> (b.missL l).length-j.1) ?_ ⟨0,Nat.zero_le _⟩)
  rintro⟨j,hj⟩ ih;show Tc M St _ _ H₁ _ [(4,.pointer (some ⟨b4,0,none⟩)),(5,.pointer (some ⟨b5,0,none⟩)),(17,.slice gA (b.missL l).length g.cap),(18,.int .i64 ((b.missL l).length:Nat)),(19,.int .i64 (j:Nat))] [(b5,true,.cells ⟨(nightV b a bs).cells.toList⟩ 106 (0,0)),(bs,true,.cells ⟨cellsN (loN ((b.missL l).take j)) b.nm⟩ 3 (0,0)),(b4,true,.cells ⟨[.int .i64 0,.int .i64 0,.slice none 0 0,.slice none 0 0,.slice none 0 0,.slice none 0 0]⟩ 106 (0,0)),(b2,true,.cells ⟨(b.val a).cells.toList⟩ 98 (0,0))] _ _;by_cases c0:j=(b.missL l).length
  ·clear ih;have e0:(b.missL l).take j=b.missL l:=by rw[c0];exact List.take_length
   rw[e0,c0];refine U12 ?_;refine .rt hK func42 results42 [_] ?_;intro H' hs;have hnone:H bs=none:=by
    have:=hs.fresh (i:=1) rfl;cases h0:H bs with
    | none=> rfl
    | some z=> rw[hle _ _ h0] at this;cases this
   exact⟨View.le_trans hle hs.base,bs,rfl,hnone,hs.get (i:=1) rfl⟩
  ·have c1:j<(b.missL l).length:=by omega
   rcases hg with h0|⟨fb,fo,ff,fgs,fgt,fgz,rfl,hfb,hfl⟩
   ·rw[h0] at c1;cases c1
   obtain⟨p,hp⟩:∃p,(b.missL l)[j]? =some p:=⟨_,List.getElem?_eq_getElem c1⟩
   have f1:=hfl j p hp;obtain⟨m0,m1⟩:=hmg p (List.mem_of_getElem? hp);obtain⟨pa,pb⟩:=p;simp only at m0 m1;obtain⟨m,rfl⟩:∃m:Nat,pa=m:=⟨pa.toNat,oM⟩
   have hm:m<b.nm:=by omega
   have f2:=cellsN_ld (loN ((b.missL l).take j)) hm;have t2:=cellsN_ble (loN ((b.missL l).take j)) hm;have s2:=cellsN_st (loN ((b.missL l).take j)) hm (loN ((b.missL l).take j) m+1);have hsn:=loN_snoc ((b.missL l).take j) ((m:Int),pb) (m:=m) rfl;rw[<-hsn] at s2;have htk:(b.missL l).take j++[((m:Int),pb)]=(b.missL l).take (j+1):=by rw[List.take_add_one,hp];rfl
   rw[htk] at s2;have hlo:loN ((b.missL l).take j) m<=20:=Nat.le_trans List.countP_le_length (by rw[List.length_take];omega);obtain⟨w,hw⟩:∃w,loN ((b.missL l).take j) m=w:=⟨_,rfl⟩
   rw[hw] at f2 s2 hlo;have hadd:intBin .add .i64 ((w:Nat):Int) 1=some (.int .i64 ((w+1:Nat):Int)):=by
    rw[add_in oM oM];rfl
   refine U13 ?_;refine .al fun b7=> ?_;refine U18 ?_;exact Tc.db (ih ⟨j+1,oM⟩ (by simp only;omega))
 ·refine Tc.dr [8] [0] mixed rfl ?_;refine V5 0 ?_;refine Ta.each [5,7] kR rfl ⟨TaOp.mk rfl rfl rfl (Or.makeSlice (E:=en) (len:=b.nm) (cap:=b.nm) rfl rfl rfl rfl rfl rfl (Nat.le_refl _) oM rfl rfl dE (fun bs=> ⟨S2.mk sL (.inr sL),?_⟩)),TaOp.mk rfl rfl rfl (.al (zz:=fun b5=> ⟨S2.mk sL (.inr sL),?_⟩)),trivial⟩
  ·refine .nn 6 ?_;refine .ea 7 rfl (.al (zz:=fun b5=> ⟨S2.mk sL (.inr sL),?_⟩));refine .e 8 0 ?_;refine .dn ?_;exact fin _ _ ⟨bs,b5,⟨rfl,rfl,rfl,rfl,trivial⟩,by rw[<-cellsN_zero];exact .inl rfl⟩
  ·refine .ea 5 rfl (Or.makeSlice (E:=en) (len:=b.nm) (cap:=b.nm) rfl rfl rfl rfl rfl rfl (Nat.le_refl _) oM rfl rfl dE (fun bs=> ⟨S2.mk sL (.inr sL),?_⟩));refine .nn 6 ?_;refine .e 8 1 ?_;refine .dn ?_;exact fin _ _ ⟨bs,b5,⟨rfl,rfl,rfl,rfl,trivial⟩,by rw[<-cellsN_zero];exact .inr rfl⟩
end
def endN(gap:Int)(x:Nat->Int)(now:Int):Nat->Int
 | 0=> now
 | j+1=> endN gap x now j+(gap+x j)
theorem endN_in {gap:Int}{x:Nat->Int}{now:Int}(hg:0<=gap/\gap<=99)(hw:0<=now/\now<=999):∀j,(∀i,i<j->0<=x i/\x i<=1000)->0<=endN gap x now j/\endN gap x now j<=999+j*1099
 | 0,_=> by unfold endN;omega
 | j+1,h=> by
  have h1:=endN_in hg hw j fun i hi=> h i oM;have h2:=h j oM;unfold endN;omega
def endsL(gap:Int)(x:Nat->Int)(now:Int)(n:Nat):List Value:=(List.range n).map fun j=> .int .i64 (endN gap x now (j+1))
section
variable(M:Md prog)(H:View)
theorem IndexN_c(F:Option Addr)(n fc:Nat)(x:Nat->Int)(hF:FreeAt H F n x)(hn:n<=1000000)(z:Int):
  CallT M 167 #[.slice F n fc,.int .i64 z] H (fun v H'=> H.le H'/\v=.int .i64 (firstI (firstTo (fun i=> decide (z=x i)) n))):=by
 refine .en func167 ntmps167 fun St c cs hK=> ?_;refine U12 ?_;refine Tc.db (Tc.loopInv (σ:= { j:Nat//j<=n/\firstTo (fun i=> decide (z=x i)) j=none }) (fun j=> ([(0,.slice F n fc),(1,.int .i64 z),(7,.int .i64 (n:Nat)),(8,.int .i64 (j.1:Nat))],[])) (fun j=> n-j.1) ?_ ⟨0,Nat.zero_le _,rfl⟩);rintro⟨j,hj,hno⟩ ih;show Tc M St _ _ _ _ [(0,.slice F n fc),(1,.int .i64 z),(7,.int .i64 (n:Nat)),(8,.int .i64 (j:Nat))] [] _ _;by_cases c1:j=n
 ·subst c1;rw[hno] at hK;refine U11 ?_;refine .rt hK func167 results167 [_] ?_;exact okB
 ·have c2:j<n:=by omega
  rcases hF with h0|⟨fb,fo,ff,fgs,fgt,fgz,rfl,hfb,hfl⟩
  ·omega
  have f1:=hfl j c2;by_cases c3:z=x j
  ·have e:firstTo (fun i=> decide (z=x i)) n=some j:=firstTo_stays (j:=j+1) (by
    show(firstTo (fun i=> decide (z=x i)) j).or (if decide (z=x j)=true then some j else none)=some j;rw[hno,decide_eq_true c3];rfl) _ oM
   rw[e] at hK;refine U29 ?_;refine .rt hK func167 results167 [_] ?_;exact okB
  ·refine U30 ?_;exact Tc.db (ih ⟨j+1,oM,by simp[firstTo,hno,c3]⟩ (by simp only;omega))
theorem ContainsN_c(F:Option Addr)(n fc:Nat)(x:Nat->Int)(hF:FreeAt H F n x)(hn:n<=1000000)(z:Int):
  CallT M 132 #[.slice F n fc,.int .i64 z] H (fun v H'=> H.le H'/\v=.bool (firstTo (fun i=> decide (z=x i)) n).isSome):=by
 have hi:=fun(H':View) (h':H.le H')=> IndexN_c M H' F n fc x (hF.le h') hn z;cases hq:firstTo (fun i=> decide (z=x i)) n with
 | none=>
  rw[hq] at hi;have e:firstI none= -1:=rfl;rw[e] at hi;refine .en func132 ntmps132 fun St c cs hK=> ?_;refine U8 ?_;refine .cl (fun H hs=> hi H hs.base) ?_;refine U3 ?_;refine .rt hK func132 results132 [_] ?_;exact okB
 | some j=>
  rw[hq] at hi;have e:firstI (some j)=(j:Nat):=rfl;rw[e] at hi;refine .en func132 ntmps132 fun St c cs hK=> ?_;refine U8 ?_;refine .cl (fun H hs=> hi H hs.base) ?_;refine U3 ?_;refine .rt hK func132 results132 [_] ?_;exact okB
theorem ends_c(b:Sb)(a:Sa)(bs:Nat)(ho:b.Ok)(F:Option Addr)(n fc:Nat)(x:Nat->Int)(hF:FreeAt H F n x)(hn:n<=5)(hx:∀i,i<n->0<=x i/\x i<=1000)(now:Int)(hw:0<=now/\now<=999):
  CallT M 133 #[nightV b a bs,.slice F n fc,.int .i64 now] H (fun v H'=> H.le H'/\∃g:Gl 3 1,v=g.val/\(g.l=endsL b.gap x now n/\g.n=n)/\∀y∈g.bl,H' y.1=some y.2/\H y.1=none):=by
 have hgap:=ho.gap;refine .en func133 ntmps133 fun St c cs hK=> ?_;refine U2 ?_;refine .bo fun b3=> ?_;refine U14 ?_;refine Tc.db (Tc.loopInv (σ:= { s:Nat×Gl 3 1//s.1<=n/\s.2.l=endsL b.gap x now s.1/\s.2.n=s.1 })
  (fun s=> ([(2,.int .i64 (endN b.gap x now s.1.1)),(3,.pointer (some ⟨b3,0,none⟩)),(7,s.1.2.val),(10,.slice F n fc),(11,.int .i64 (n:Nat)),(12,.int .i64 (s.1.1:Nat))],[(b3,true,.cells ⟨(nightV b a bs).cells.toList⟩ 106 (0,0))]++s.1.2.bl)) (fun s=> n-s.1.1) ?_ ⟨(0,Gl.nil 3 1),Nat.zero_le _,rfl,rfl⟩)
 rintro⟨⟨j,g⟩,g1,g2,g3⟩ ih;simp only at g1 g2 g3;show Tc M St _ _ H _ [(2,.int .i64 (endN b.gap x now j)),(3,.pointer (some ⟨b3,0,none⟩)),(7,g.val),(10,.slice F n fc),(11,.int .i64 (n:Nat)),(12,.int .i64 (j:Nat))] ([(b3,true,.cells ⟨(nightV b a bs).cells.toList⟩ 106 (0,0))]++g.bl) _ _;by_cases c1:j=n
 ·subst c1;refine U12 ?_;refine .rt hK func133 results133 [_] ?_;exact fun H' hs=> ⟨hs.base,g,rfl,⟨g2,g3⟩,fun y hy=> ⟨hs.at_ y (List.mem_append_right _ hy),hs.out y (List.mem_append_right _ hy)⟩⟩
 ·have c2:j<n:=by omega
  rcases hF with h0|⟨fb,fo,ff,fgs,fgt,fgz,rfl,hfb,hfl⟩
  ·omega
  have f1:=hfl j c2;have hxj:=hx j c2;have hb1:=endN_in hgap hw j fun i hi=> hx i oM;have e1:endN b.gap x now (j+1)=endN b.gap x now j+(b.gap+x j):=rfl;obtain⟨w,hww⟩:∃w,endN b.gap x now j=w:=⟨_,rfl⟩
  have e2:endsL b.gap x now (j+1)=endsL b.gap x now j++[.int .i64 (w+(b.gap+x j))]:=by
   unfold endsL;rw[List.range_succ,List.map_append,List.map_cons,List.map_nil,e1,hww]
  rw[hww] at hb1 e1 ⊢;refine U30 ?_;refine .e (.bs (zz:=fun bs2=> ?_));refine .e (Or.append (E:=en) 2 rfl rfl rfl rfl rfl rfl rfl rfl rfl rfl rfl rfl rfl rfl rfl (fun H hs=> SrcAt.of (hs.get (i:=0) rfl) (Nat.le_of_ble_eq_true rfl)) rfl oM rfl dE (fun g5 hn5 hl5=> ?_));refine U7 ?_;rw[<-e1];exact Tc.db (ih ⟨(j+1,g5),by simp only;omega,by simp only;rw[hl5,g2,e2];rfl,by simp only;rw[hn5,g3]⟩ (by simp only;omega))
end
def natsL(l:List Nat):List Value:=l.map fun v=> .int .i64 (v:Nat)
theorem natsL_len(l:List Nat):(natsL l).length=l.length:=by simp[natsL]
theorem natsL_app(l m:List Nat):natsL (l++m)=natsL l++natsL m:=by simp[natsL]
def padTo(out:List Nat)(k:Nat):List Nat:=out++List.replicate (k-out.length) 0
theorem padTo_len(out:List Nat)(k:Nat):(padTo out k).length=max out.length k:=by
 unfold padTo;rw[List.length_append,List.length_replicate];omega
def addAt(out:List Nat)(k x:Nat):List Nat:=out.set k (out[k]?.getD 0+x)
def tapS(lo:Nat->Nat)(pl:Nat->Int):Nat->List Nat
 | 0=> []
 | i+1=> if pl i<0 then tapS lo pl i else addAt (padTo (tapS lo pl i) ((pl i).toNat+1)) (pl i).toNat (lo i)
def okAt(n:Nat)(lo:Nat->Nat)(pl:Nat->Int)(i:Nat):Prop:= -1<=pl i/\pl i<n/\(pl i= -1<->lo i=0)
theorem tapS_len {n:Nat}{lo:Nat->Nat}{pl:Nat->Int}:∀i,(∀j,j<i->okAt n lo pl j)->(tapS lo pl i).length<=n/\∀j,j<i->pl j<(tapS lo pl i).length
 | 0,_=> ⟨Nat.zero_le _,fun j hj=> by omega⟩
 | i + 1,h=> by
  obtain⟨h1,h2⟩:=tapS_len (n:=n) i fun j hj=> h j oM;obtain⟨h3,h4,_⟩:=h i oM;unfold tapS;by_cases c:pl i<0
  ·rw[if_pos c];refine⟨h1,fun j hj=> ?_⟩;by_cases e:j=i
   ·subst e;omega
   ·exact h2 j oM
  ·rw[if_neg c];unfold addAt;rw[List.length_set,padTo_len];refine⟨oM,fun j hj=> ?_⟩;by_cases e:j=i
   ·subst e;omega
   ·have:=h2 j oM;omega
theorem tapS_le {lo:Nat->Nat}{pl:Nat->Int}(hlo:∀i,lo i<=20):∀i,∀v∈tapS lo pl i,v<=20*i
 | 0,v,h=> by cases h
 | i + 1,v,h=> by
  have ih:=tapS_le (pl:=pl) hlo i;unfold tapS at h;split at h
  ·have:=ih v h;omega
  ·unfold addAt at h;have hpad:∀v∈padTo (tapS lo pl i) ((pl i).toNat+1),v<=20*i:=by
    intro v hv;unfold padTo at hv;rcases List.mem_append.1 hv with hv|hv
    ·exact ih v hv
    ·rw[List.eq_of_mem_replicate hv];omega
   rcases List.mem_or_eq_of_mem_set h with h|h
   ·have:=hpad v h;omega
   ·have h1:(padTo (tapS lo pl i) ((pl i).toNat+1))[(pl i).toNat]?.getD 0<=20*i:=by
     cases hq:(padTo (tapS lo pl i) ((pl i).toNat+1))[(pl i).toNat]? with
     | none=> simp
     | some w=> exact hpad w (List.mem_of_getElem? hq)
    have:=hlo i;omega
def withL {e:TypeId}{sz:Nat}(g:Gl e sz)(l:List Value)(h:l.length=g.l.length):Gl e sz:= { g with l:=l,hl:=h.trans g.hl }
def Sb.came(b:Sb)(l:List Int)(i:Nat):Nat:=(l[i]?.getD 0).toNat%(b.np i+1)
def cameOfL(b:Sb)(l:List Int)(n:Nat):List Value:=(List.range n).map fun i=> .int .i64 (b.came l i:Nat)
section
variable(M:Md prog)(H:View)
theorem Choice6_c(A:Option Addr)(l:List Int)(n ca:Nat)(k:Int)(j:Nat)(hj:k=(j:Nat))(hn:n=l.length)(hA:Sg.Picks H A l):CallT M 32 #[.slice A n ca,.int .i64 k] H (fun v H'=> H.le H'/\v=.int .i64 (l[j]?.getD 0)):=by
 refine .en func32 ntmps32 fun St c cs hK=> ?_;have hx:=hA.in j;by_cases c1:j<n
 ·rcases hA.2 with hA|⟨a1,a2,a3,a4,a5,a6,rfl,a7,a8⟩
  ·rw[hA] at hn;simp at hn;omega
  have f1:ldL false 1 a4 (a2+k.toNat*1)=some (.int .u16 (l[j]?.getD 0)):=by rw[hj];exact a8 j oM
  have hw:IntKind.i64.wrap (l[j]?.getD 0)=l[j]?.getD 0:=wrap64 oM oM;refine U22 ?_;refine .rt hK func32 results32 [_] ?_;exact okB
 ·have e:l[j]?.getD 0=0:=by rw[List.getElem?_eq_none oM];rfl
  refine U18 ?_;refine .rt hK func32 results32 [_] ?_;exact fun H' hs=> ⟨hs.base,by rw[e];rfl⟩
theorem Came_c(b:Sb)(a:Sa)(hb:SbAt H b a)(hf:b.few)(A:Option Addr)(l:List Int)(n ca:Nat)(hn:n=l.length)(hA:Sg.Picks H A l):
  CallT M 8 #[b.val a,.slice A n ca] H (fun v H'=> H.le H'/\∃g:Gl 3 1,v=g.val/\(g.l=cameOfL b l b.ns/\g.n=b.ns)/\∀x∈g.bl,H' x.1=some x.2/\H x.1=none):=by
 obtain⟨hns,hnp⟩:=hf;refine .en func8 ntmps8 fun St c cs hK=> ?_;refine U2 ?_;refine .bo fun b2=> ?_;refine U12 ?_;refine Tc.db (Tc.loopInv (σ:= { s:Nat×Gl 3 1//s.1<=b.ns/\s.2.l=cameOfL b l s.1/\s.2.n=s.1 })
  (fun s=> ([(1,.slice A n ca),(2,.pointer (some ⟨b2,0,none⟩)),(5,s.1.2.val),(6,.int .i64 (s.1.1:Nat))],[(b2,true,.cells ⟨(b.val a).cells.toList⟩ 26 (0,0))]++s.1.2.bl)) (fun s=> b.ns-s.1.1) ?_ ⟨(0,Gl.nil 3 1),Nat.zero_le _,rfl,rfl⟩)
 rintro⟨⟨i,g⟩,g1,g2,g3⟩ ih;simp only at g1 g2 g3;show Tc M St _ _ H _ [(1,.slice A n ca),(2,.pointer (some ⟨b2,0,none⟩)),(5,g.val),(6,.int .i64 (i:Nat))] ([(b2,true,.cells ⟨(b.val a).cells.toList⟩ 26 (0,0))]++g.bl) _ _;by_cases c0:i=b.ns
 ·subst c0;refine U16 ?_;refine .rt hK func8 results8 [_] ?_;exact fun H' hs=> ⟨hs.base,g,rfl,⟨g2,g3⟩,fun x hx=> ⟨hs.at_ x (List.mem_append_right _ hx),hs.out x (List.mem_append_right _ hx)⟩⟩
 ·have c1:i<b.ns:=by omega
  obtain⟨_,h0|⟨k,o,f,gs,gt,gz,e1,e2,e3⟩⟩:=hb.sess
  ·omega
  obtain⟨P,pc,f1,hpc,hP⟩:=e3 i c1;have f3:ldL false 1 gs (o+((i:Nat):Int).toNat*1+0)=some (.slice P (b.np i) pc):=ldL_cell f1 dE;have hnpi:=hnp i c1;have hx:=hA.in i;have hch:=fun(H':View) (h':H.le H')=> Choice6_c M H' A l n ca (i:Nat) i rfl hn (hA.le h');obtain⟨w,hw⟩:∃w:Nat,l[i]?.getD 0=w:=⟨(l[i]?.getD 0).toNat,oM⟩
  have hcm:b.came l i=w%(b.np i+1):=by unfold Sb.came;rw[hw,Int.toNat_natCast]
  rw[hw] at hch hx;have hrem:intBin .rem .i64 ((w:Nat):Int) (((b.np i:Nat):Int)+1)=some (.int .i64 ((b.came l i:Nat):Int)):=by
   rw[rem_in oM oM,hcm];rfl
  have e4:cameOfL b l (i+1)=cameOfL b l i++[.int .i64 (b.came l i:Nat)]:=by
   unfold cameOfL;rw[List.range_succ,List.map_append,List.map_cons,List.map_nil]
  obtain⟨aA,mc,aS,sc,aR,rc⟩:=a;simp only at e1;subst e1;refine U13 ?_;refine Tc.drK [14] 1 mixed rfl ?_;refine .nn 0 ?_;refine .nw 1 ?_;refine .nw 2 ?_;refine .z 3 rfl (OpV.tk fun H hs=> hch H hs.base) ?_;refine .nw 4 ?_;refine .nw 5 ?_;refine .nw 6 ?_;refine .nw 7 ?_;refine .nw 8 ?_;refine .nw 9 ?_;refine .nw 10 ?_;refine .nw 11 ?_;refine .nw 12 ?_;refine .ea 13 rfl (.bs (zz:=fun bs=> ⟨S2.mk sL (.inr sL),?_⟩));refine .ea 14 rfl (Or.append (E:=en) (g:=g) (m:=1) (new:= [.int .i64 (b.came l i:Nat)]) (yv:=.slice (some ⟨bs,0,none⟩) 1 1) 2 rfl rfl rfl rfl rfl rfl rfl rfl rfl rfl rfl rfl rfl rfl rfl (fun H hs=> SrcAt.of (hs.get (i:=0) rfl) (Nat.le_of_ble_eq_true rfl)) rfl oM rfl dE (fun g5 hn5 hl5=> ⟨S2.mk sL (.inl kR),?_⟩));refine .nw 15 ?_;refine .dn ?_;refine U6 ?_;exact Tc.db (ih ⟨(i+1,g5),by simp only;omega,by simp only;rw[hl5,g2,e4],by simp only;rw[hn5,g3]⟩ (by simp only;omega))
end
theorem eg56:prog.eqGuardType prog.depth 56=false:=by kernel_rfl
def copN(b:Sb)(c:Nat->Nat)(p:Int×Int):Nat->Nat
 | 0=> 0
 | i+1=> copN b c p i+if 0<cntP (b.pm i) (b.pg i) p (c i) then 1 else 0
theorem copN_le(b:Sb)(c:Nat->Nat)(p:Int×Int):∀i,copN b c p i<=i
 | 0=> Nat.le_refl _
 | i+1=> by
  have:=copN_le b c p i;unfold copN;split <;> omega
theorem copN_zero {b:Sb}{c:Nat->Nat}{p:Int×Int}:∀i,copN b c p i=0<->cntS b c p i=0
 | 0=> Iff.rfl
 | i+1=> by
  have:=copN_zero (b:=b) (c:=c) (p:=p) i;unfold copN cntS;split <;> omega
section
variable(M:Md prog)(H:View)
theorem has_c(F:Option Addr)(n fc:Nat)(x y:Nat->Int)(hF:PartsAt H F n x y)(hn:n<=1000)(p:Int×Int):CallT M 46 #[.slice F n fc,prtP p] H (fun v H'=> H.le H'/\v=.bool (decide (0<cntP x y p n))):=by
 refine .en func46 ntmps46 fun St c cs hK=> ?_;refine U2 ?_;refine .bo fun b3=> ?_;refine U8 ?_;refine Tc.db (Tc.loopInv (σ:= { j:Nat//j<=n/\cntP x y p j=0 }) (fun j=> ([(0,.slice F n fc),(3,.pointer (some ⟨b3,0,none⟩)),(5,.int .i64 (j.1:Nat))],[(b3,true,.cells ⟨(prtP p).cells.toList⟩ 56 (0,0))])) (fun j=> n-j.1) ?_ ⟨0,Nat.zero_le _,rfl⟩);rintro⟨j,hj,hno⟩ ih;show Tc M St _ _ _ _ [(0,.slice F n fc),(3,.pointer (some ⟨b3,0,none⟩)),(5,.int .i64 (j:Nat))] [(b3,true,.cells ⟨(prtP p).cells.toList⟩ 56 (0,0))] _ _;by_cases c1:j=n
 ·subst c1;rw[hno,decide_eq_false (Nat.lt_irrefl 0)] at hK;refine U14 ?_;refine .rt hK func46 results46 [_] ?_;exact okB
 ·have c2 : j<n:=by omega
  rcases hF with h0|⟨fb,fo,ff,fgs,fgt,fgz,rfl,hfb,hfl⟩
  ·omega
  have f1:=hfl j c2;by_cases c3:x j=p.1/\y j=p.2
  ·have hq :true=true<-> [Value.int .i64 (x j),Value.int .i64 (y j)]= [Value.int .i64 p.1,Value.int .i64 p.2]:=⟨fun _=> by rw[c3.1,c3.2],fun _=> rfl⟩
   have hpos:0<cntP x y p n:=by
    have h1:0<cntP x y p (j+1):=by unfold cntP;rw[if_pos c3];omega
    have h2:∀m,j+1<=m->0<cntP x y p m:=by
     intro m;induction m with
     | zero=> intro h;omega
     | succ m ih=>
      intro h;by_cases e:j=m
      ·subst e;exact h1
      ·have:=ih oM;unfold cntP;omega
    exact h2 n oM
   rw[decide_eq_true hpos] at hK;refine U13 ?_;refine Tc.dr [] [] mixed rfl ?_;refine V5 0 ?_;refine .q 5 rfl (OpV.eqA (E:=en) true 2 rfl rfl rfl rfl rfl eg56 dE (prt_flat (x j) (y j)) (prt_flat p.1 p.2) hq) ?_;refine .dn ?_;refine U5 ?_;refine .rt hK func46 results46 [_] ?_;exact okB
  ·have hq:false=true<-> [Value.int .i64 (x j),Value.int .i64 (y j)]= [Value.int .i64 p.1,Value.int .i64 p.2]:=⟨fun h=> (by cases h),fun h=> (c3 (by simpa using h)).elim⟩
   refine U13 ?_;refine Tc.dr [] [] mixed rfl ?_;refine V5 0 ?_;refine .q 5 rfl (OpV.eqA (E:=en) false 2 rfl rfl rfl rfl rfl eg56 dE (prt_flat (x j) (y j)) (prt_flat p.1 p.2) hq) ?_;refine .dn ?_;refine U8 ?_;exact Tc.db (ih ⟨j+1,oM,by unfold cntP;rw[if_neg c3,hno]⟩ (by simp only;omega))
theorem CopiesOf_c(b:Sb)(a:Sa)(hb:SbAt H b a)(hf:b.few)(F:Option Addr)(fc:Nat)(u:Nat->Nat)(hF:FreeAt H F b.ns (fun i=> (u i:Int)))(hu:∀i,i<b.ns->u i<=b.np i)(p:Int×Int):
  CallT M 15 #[b.val a,.slice F b.ns fc,prtP p] H (fun v H'=> H.le H'/\v=.int .i64 (copN b u p b.ns:Nat)):=by
 obtain⟨hns,hnp⟩:=hf;refine .en func15 ntmps15 fun St c cs hK=> ?_;refine U2 ?_;refine .bo fun b3=> ?_;refine .bo fun b5=> ?_;refine U12 ?_;refine Tc.db (Tc.loopInv (σ:= { i:Nat//i<=b.ns }) (fun i=> ([(1,.slice F b.ns fc),(3,.pointer (some ⟨b3,0,none⟩)),(5,.pointer (some ⟨b5,0,none⟩)),(7,.int .i64 (copN b u p i.1:Nat)),(8,.int .i64 (i.1:Nat))],[(b5,true,.cells ⟨(prtP p).cells.toList⟩ 56 (0,0)),(b3,true,.cells ⟨(b.val a).cells.toList⟩ 26 (0,0))])) (fun i=> b.ns-i.1) ?_ ⟨0,Nat.zero_le _⟩);rintro⟨i,hi⟩ ih;show Tc M St _ _ _ _ [(1,.slice F b.ns fc),(3,.pointer (some ⟨b3,0,none⟩)),(5,.pointer (some ⟨b5,0,none⟩)),(7,.int .i64 (copN b u p i:Nat)),(8,.int .i64 (i:Nat))] [(b5,true,.cells ⟨(prtP p).cells.toList⟩ 56 (0,0)),(b3,true,.cells ⟨(b.val a).cells.toList⟩ 26 (0,0))] _ _;by_cases c0:i=b.ns
 ·subst c0;refine U15 ?_;refine .rt hK func15 results15 [_] ?_;exact okB
 ·have c1:i<b.ns:=by omega
  obtain⟨_,h0|⟨k,o,f,gs,gt,gz,e1,e2,e3⟩⟩:=hb.sess
  ·omega
  obtain⟨P,pc,f1,hpc,hP⟩:=e3 i c1;have f3:ldL false 1 gs (o+((i:Nat):Int).toNat*1+0)=some (.slice P (b.np i) pc):=ldL_cell f1 dE;have hui:=hu i c1;have hnpi:=hnp i c1;rcases hF with h0|⟨fb,fo,ff,fgs,fgt,fgz,rfl,hfb,hfl⟩
  ·omega
  have f2:=hfl i c1;have hcl:=copN_le b u p i;have hh:=fun(H':View) (h':H.le H')=> has_c M H' P (u i) pc (b.pm i) (b.pg i) ((hP.pre hui).le h') oM p;obtain⟨w,hw⟩:∃w,copN b u p i=w:=⟨_,rfl⟩
  have e4:copN b u p (i+1)=w+if 0<cntP (b.pm i) (b.pg i) p (u i) then 1 else 0:=by rw[<-hw];rfl
  obtain⟨aA,mc,aS,sc,aR,rc⟩:=a;simp only at e1;subst e1;rw[hw] at hcl ⊢;by_cases c2:0<cntP (b.pm i) (b.pg i) p (u i)
  ·rw[if_pos c2] at e4;rw[decide_eq_true c2] at hh;have hadd:intBin .add .i64 ((w:Nat):Int) 1=some (.int .i64 ((w+1:Nat):Int)):=by
    rw[add_in oM oM];rfl
   refine U13 ?_;refine Tc.dr [] [] mixed rfl ?_;refine V10 0 ?_;refine .q 10 rfl (OpV.sliceH (E:=en) rfl rfl rfl rfl rfl rfl oM) ?_;refine .nn 11 ?_;refine .z 12 rfl (OpV.tk fun H hs=> hh H hs.base) ?_;refine .dn ?_;refine U12 ?_;rw[<-e4];exact Tc.db (ih ⟨i+1,oM⟩ (by simp only;omega))
  ·rw[if_neg c2] at e4;rw[decide_eq_false c2] at hh;refine U13 ?_;refine Tc.dr [] [] mixed rfl ?_;refine V10 0 ?_;refine .q 10 rfl (OpV.sliceH (E:=en) rfl rfl rfl rfl rfl rfl oM) ?_;refine .nn 11 ?_;refine .z 12 rfl (OpV.tk fun H hs=> hh H hs.base) ?_;refine .dn ?_;refine U8 ?_;rw[show w=copN b u p (i+1) by omega];exact Tc.db (ih ⟨i+1,oM⟩ (by simp only;omega))
end
section
variable(M:Md prog)(H:View)
theorem PartsOf_c(b:Sb)(a:Sa)(hb:SbAt H b a)(ho:b.Ok):CallT M 14 #[b.val a] H (fun v H'=> H.le H'/\∃g:Gl 56 2,v=g.val/\(g.l=prtsV b.grps/\g.n=b.grps.length)/\∀x∈g.bl,H' x.1=some x.2/\H x.1=none):=by
 have hnm:=ho.nm;have hgl:=grps_len ho;refine .en func14 ntmps14 fun St c cs hK=> ?_;refine U2 ?_;refine .bo fun b1=> ?_;refine U12 ?_;refine Tc.db (Tc.loopInv (σ:= { s:Nat×Gl 56 2//s.1<=b.nm/\∃dn,dn++b.grpsFrom s.1 (b.nm-s.1)=b.grps/\s.2.l=prtsV dn/\s.2.n=dn.length })
  (fun s=> ([(1,.pointer (some ⟨b1,0,none⟩)),(3,s.1.2.val),(4,.int .i64 (s.1.1:Nat))],[(b1,true,.cells ⟨(b.val a).cells.toList⟩ 26 (0,0))]++s.1.2.bl)) (fun s=> b.nm-s.1.1) ?_ ⟨(0,Gl.nil 56 2),Nat.zero_le _,[],rfl,rfl,rfl⟩)
 rintro⟨⟨m,g⟩,g1,dn,g2,g3,g4⟩ ih₁;simp only at g1 g2 g3 g4;show Tc M St _ _ H _ [(1,.pointer (some ⟨b1,0,none⟩)),(3,g.val),(4,.int .i64 (m:Nat))] ([(b1,true,.cells ⟨(b.val a).cells.toList⟩ 26 (0,0))]++g.bl) _ _;by_cases c0:m=b.nm
 ·subst c0;have e0:dn=b.grps:=by
   rw[Nat.sub_self] at g2;rw[<-g2];exact(List.append_nil _).symm
  subst e0;refine U16 ?_;refine .rt hK func14 results14 [_] ?_;exact fun H' hs=> ⟨hs.base,g,rfl,⟨g3,g4⟩,fun x hx=> ⟨hs.at_ x (List.mem_append_right _ hx),hs.out x (List.mem_append_right _ hx)⟩⟩
 ·have c1:m<b.nm:=by omega
  have hgr:=ho.gr m c1;obtain⟨_,h0|⟨k,o,f,gs,gt,gz,e1,e2,e3⟩⟩:=hb.msgs
  ·omega
  have f1:=e3 m c1;have f3:ldL false 1 gs (o+((m:Nat):Int).toNat*3+1)=some (.int .i64 (b.gr m)):=ldL_cell f1 dE;obtain⟨G,hG⟩:∃G:Nat,b.gr m=G:=⟨(b.gr m).toNat,oM⟩
  rw[hG] at f3 hgr;have e4:b.nm-m=(b.nm-(m+1))+1:=by omega
  have g5:dn++(grpL m 0 (G-0)++b.grpsFrom (m+1) (b.nm-(m+1)))=b.grps:=by
   rw[e4] at g2;have:b.grpsFrom m (b.nm-(m+1)+1)=grpL m 0 (b.gr m).toNat++b.grpsFrom (m+1) (b.nm-(m+1)):=rfl;rw[this,hG,Int.toNat_natCast] at g2;exact g2
  obtain⟨aA,mc,aS,sc,aR,rc⟩:=a;simp only at e1;subst e1;refine U18 ?_;refine Tc.db (Tc.loopInv (σ:= { s:Nat×Gl 56 2//s.1<=G/\∃dn,dn++(grpL m s.1 (G-s.1)++b.grpsFrom (m+1) (b.nm-(m+1)))=b.grps/\s.2.l=prtsV dn/\s.2.n=dn.length })
   (fun s=> ([(1,.pointer (some ⟨b1,0,none⟩)),(3,s.1.2.val),(4,.int .i64 (m:Nat)),(5,.int .i64 (s.1.1:Nat))],[(b1,true,.cells ⟨(b.val ⟨some ⟨k,o,none⟩,mc,aS,sc,aR,rc⟩).cells.toList⟩ 26 (0,0))]++s.1.2.bl)) (fun s=> G-s.1.1) ?_ ⟨(0,g),Nat.zero_le _,dn,g5,g3,g4⟩)
  rintro⟨⟨q,g6⟩,q1,dn2,q2,q3,q4⟩ ih₂;simp only at q1 q2 q3 q4;show Tc M St _ _ H _ [(1,.pointer (some ⟨b1,0,none⟩)),(3,g6.val),(4,.int .i64 (m:Nat)),(5,.int .i64 (q:Nat))] ([(b1,true,.cells ⟨(b.val ⟨some ⟨k,o,none⟩,mc,aS,sc,aR,rc⟩).cells.toList⟩ 26 (0,0))]++g6.bl) _ _;have hd2:dn2.length<=20:=by
   have:=congrArg List.length q2;rw[List.length_append] at this;omega
  by_cases d0:q=G
  ·subst d0;rw[Nat.sub_self] at q2;refine U20 ?_;exact Tc.db (ih₁ ⟨(m+1,g6),by simp only;omega,dn2,q2,q3,q4⟩ (by simp only;omega))
  ·have d1:q<G:=by omega
   have e5:G-q=(G-(q+1))+1:=by omega
   rw[e5] at q2;refine U21 ?_;refine .e (.bs (zz:=fun bs=> ?_));refine .e (Or.append (E:=en) 2 rfl rfl rfl rfl rfl rfl rfl rfl rfl rfl rfl rfl rfl rfl rfl (fun H hs=> SrcAt.of (hs.get (i:=0) rfl) (Nat.le_of_ble_eq_true rfl)) rfl oM rfl dE (fun g7 hn7 hl7=> ?_));refine U8 ?_;exact Tc.db (ih₂ ⟨(q+1,g7),by simp only;omega,dn2++[((m:Int),(q:Int))],by rw[List.append_assoc];exact q2,by simp only;rw[hl7,q3,prtsV_app,prtsV_one];rfl,by simp only;rw[hn7,q4,List.length_append];rfl⟩ (by simp only;omega))
end
section
variable(M:Md prog)(H:View)
theorem TopA_w {St:View->Goroutine->Prop}{cs:List Frame}(hR:∀(H₀:View) (R:Rg) (L:Bl) (kk:List Item),lk R 16=some (.bool true)->H.le H₀->Tc M St 349 ⟨3,.normal,none⟩ H₀ cs R L [] (.code .ret::kk))(hG:Glob H)(hS:Sig H)(hC:Sg.Glob H)(k:Bk)(A:Option Addr)(lc:Nat)(B:Option Addr)(tc:Nat)(hk:BkAt H k A lc B tc)(hfit:k.fit=true)(hnl:k.nl≠0)(q:Sg.Lk)(hq:q.ok=true)(p0 p:Int)(hp0:0<=p0/\p0<256)(hp:0<=p/\p<256)(Y:Option Addr)(l:List Int)(n yc:Nat)(hn:n=l.length)(hc:n<=yc)(hY:Sg.Picks H Y l)
  (H₆:View) (h6:H.le H₆) (b9 b10 b18:Nat) (o:Sb) (a:Sa) (hb:SbAt H₆ o a) (ho:o.Ok) (u:Nat->Nat) (hu:∀i,i<o.ns->u i<=o.np i) (gA:Option Addr) (gc:Nat) (hF:FreeAt H₆ gA o.ns (fun i=> (u i:Int))) (ml:List (Int×Int)) (Fm:Option Addr) (mc:Nat) (hM:GrpsAt H₆ Fm ml) (hml:ml.length<=20) (Q:Option Addr) (qc:Nat) (pl:Nat->Int) (hQ:FreeAt H₆ Q o.nm pl) (hpl:∀i,i<o.nm-> -1<=pl i/\pl i<o.nm)
  (hlost:∀x∈o.grps,copN o u x o.ns=0->x∈ml) (hpos:∀x∈ml,∀m:Nat,x.1=m->0<=pl m):
  Tc M St 349 ⟨3,.normal,none⟩ H₆ cs [(4,.slice Y n yc),(6,.int .u8 p0),(7,.int .u8 p),(9,.pointer (some ⟨b9,0,none⟩)),(10,.pointer (some ⟨b10,0,none⟩)),(17,.slice gA o.ns gc),(18,.pointer (some ⟨b18,0,none⟩)),(19,.slice Fm ml.length mc),(21,.slice Q o.nm qc)] [(b18,true,.cells ⟨(o.val a).cells.toList⟩ 26 (0,0)),(b10,true,.cells ⟨(k.val A lc B tc).cells.toList⟩ 36 (0,0)),(b9,true,.cells ⟨q.val.cells.toList⟩ 32 (0,0))] [] [.code (headS (dropS 10 (bodyOf Tryz.f3))),.code (dropS 11 (bodyOf Tryz.f3))]:=by
 have hnm:=ho.nm;have hend:=TopB_w M H hR hG hS hC k A lc B tc hk hfit hnl q hq p0 p hp0 hp Y l n yc hn hc hY;have hgl:=grps_len ho;refine U9 ?_;refine Tc.db (Tc.loopInv (σ:= { x:Nat×Int//x.1<=o.nm/\0<=x.2/\x.2<=5 }) (fun x=> ([(4,.slice Y n yc),(6,.int .u8 p0),(7,.int .u8 p),(9,.pointer (some ⟨b9,0,none⟩)),(10,.pointer (some ⟨b10,0,none⟩)),(17,.slice gA o.ns gc),(18,.pointer (some ⟨b18,0,none⟩)),(19,.slice Fm ml.length mc),(21,.slice Q o.nm qc),(24,.int .i64 x.1.2),(25,.int .i64 (x.1.1:Nat))],[(b18,true,.cells ⟨(o.val a).cells.toList⟩ 26 (0,0)),(b10,true,.cells ⟨(k.val A lc B tc).cells.toList⟩ 36 (0,0)),(b9,true,.cells ⟨q.val.cells.toList⟩ 32 (0,0))])) (fun x=> o.nm-x.1.1) ?_ ⟨(0,0),Nat.zero_le _,by decide,by decide⟩);rintro⟨⟨i,mx⟩,g1,g2,g3⟩ ih;simp only at g1 g2 g3;show Tc M St _ _ H₆ _ [(4,.slice Y n yc),(6,.int .u8 p0),(7,.int .u8 p),(9,.pointer (some ⟨b9,0,none⟩)),(10,.pointer (some ⟨b10,0,none⟩)),(17,.slice gA o.ns gc),(18,.pointer (some ⟨b18,0,none⟩)),(19,.slice Fm ml.length mc),(21,.slice Q o.nm qc),(24,.int .i64 mx),(25,.int .i64 (i:Nat))] [(b18,true,.cells ⟨(o.val a).cells.toList⟩ 26 (0,0)),(b10,true,.cells ⟨(k.val A lc B tc).cells.toList⟩ 36 (0,0)),(b9,true,.cells ⟨q.val.cells.toList⟩ 32 (0,0))] _ _;by_cases c0:i=o.nm
 ·clear ih;subst c0;obtain⟨t,rfl⟩:∃t:Nat,mx=t:=⟨mx.toNat,oM⟩
  refine U13 ?_;refine To.callF rfl rfl rfl rfl rfl rfl dE (FnT.h (PartsOf_c M H₆ o a hb ho)) (fun v H₇ hv=> ?_);obtain⟨hle,g,rfl,⟨k1,k2⟩,k3⟩:=hv;have hP:=grps_of g (fun x hx=> (k3 x hx).1) k1;have h7:=View.le_trans h6 hle;obtain⟨G,hG'⟩:∃G:Option Addr,(g.blk.map fun b=> (⟨b,0,none⟩:Addr))=G:=⟨_,rfl⟩
  have hgv:g.val=.slice G o.grps.length g.cap:=by rw[<-hG',<-k2];rfl
  rw[hG'] at hP;rw[hgv];have hcp:=fun(H':View) (h':H₇.le H') (x:Int×Int)=> CopiesOf_c M H' o a (hb.le (View.le_trans hle h')) ho.few gA gc u (hF.le (View.le_trans hle h')) hu x;have hM7:=hM.le hle;have hQ7:=hQ.le hle;clear hF hM hQ;refine U8 ?_;refine Tc.db (Tc.loopInv (σ:= { x:Nat//x<=o.grps.length }) (fun x=> ([(4,.slice Y n yc),(6,.int .u8 p0),(7,.int .u8 p),(9,.pointer (some ⟨b9,0,none⟩)),(10,.pointer (some ⟨b10,0,none⟩)),(17,.slice gA o.ns gc),(18,.pointer (some ⟨b18,0,none⟩)),(19,.slice Fm ml.length mc),(21,.slice Q o.nm qc),(24,.int .i64 (t:Nat)),(26,.slice G o.grps.length g.cap),(27,.int .i64 (x.1:Nat))],[(b18,true,.cells ⟨(o.val a).cells.toList⟩ 26 (0,0)),(b10,true,.cells ⟨(k.val A lc B tc).cells.toList⟩ 36 (0,0)),(b9,true,.cells ⟨q.val.cells.toList⟩ 32 (0,0))])) (fun x=> o.grps.length-x.1) ?_ ⟨0,Nat.zero_le _⟩);rintro⟨r,r1⟩ ih;show Tc M St _ _ H₇ _ [(4,.slice Y n yc),(6,.int .u8 p0),(7,.int .u8 p),(9,.pointer (some ⟨b9,0,none⟩)),(10,.pointer (some ⟨b10,0,none⟩)),(17,.slice gA o.ns gc),(18,.pointer (some ⟨b18,0,none⟩)),(19,.slice Fm ml.length mc),(21,.slice Q o.nm qc),(24,.int .i64 (t:Nat)),(26,.slice G o.grps.length g.cap),(27,.int .i64 (r:Nat))] [(b18,true,.cells ⟨(o.val a).cells.toList⟩ 26 (0,0)),(b10,true,.cells ⟨(k.val A lc B tc).cells.toList⟩ 36 (0,0)),(b9,true,.cells ⟨q.val.cells.toList⟩ 32 (0,0))] _ _;by_cases d0:r=o.grps.length
  ·subst d0;refine U11 ?_;exact Tc.db (hend H₇ h7 b9 b10 t oM)
  ·have d1 :r<o.grps.length:=by omega
   obtain⟨x,hx⟩:∃x,o.grps[r]? =some x:=⟨_,List.getElem?_eq_getElem d1⟩
   have hxg:x∈o.grps:=List.mem_of_getElem? hx;have hxr:=mem_grps hxg;rcases hP with h0|⟨pb,po,pf,pgs,pgt,pgz,rfl,hpb,hpa⟩
   ·rw[h0] at d1;cases d1
   have f1:=hpa r x hx;have hlx:=hlost x hxg;have hcx:=fun(H':View) (h':H₇.le H')=> hcp H' h' x;generalize copN o u x o.ns=cn at hlx hcx;refine U22 ?_;refine Tc.db (Tc.loopInv (σ:= { y:Nat×Bool//y.1<=ml.length/\(y.2=true<->x∈ml.take y.1) }) (fun y=> ([(4,.slice Y n yc),(6,.int .u8 p0),(7,.int .u8 p),(9,.pointer (some ⟨b9,0,none⟩)),(10,.pointer (some ⟨b10,0,none⟩)),(17,.slice gA o.ns gc),(18,.pointer (some ⟨b18,0,none⟩)),(19,.slice Fm ml.length mc),(21,.slice Q o.nm qc),(24,.int .i64 (t:Nat)),(26,.slice (some ⟨pb,po,none⟩) o.grps.length g.cap),(27,.int .i64 (r:Nat)),(28,.bool y.1.2),(29,.int .i64 (y.1.1:Nat))],[(b18,true,.cells ⟨(o.val a).cells.toList⟩ 26 (0,0)),(b10,true,.cells ⟨(k.val A lc B tc).cells.toList⟩ 36 (0,0)),(b9,true,.cells ⟨q.val.cells.toList⟩ 32 (0,0))])) (fun y=> ml.length-y.1.1) ?_ ⟨(0,false),Nat.zero_le _,by simp⟩);rintro⟨⟨j,lt⟩,j1,j2⟩ ih2;simp only at j1 j2;show Tc M St _ _ H₇ _ [(4,.slice Y n yc),(6,.int .u8 p0),(7,.int .u8 p),(9,.pointer (some ⟨b9,0,none⟩)),(10,.pointer (some ⟨b10,0,none⟩)),(17,.slice gA o.ns gc),(18,.pointer (some ⟨b18,0,none⟩)),(19,.slice Fm ml.length mc),(21,.slice Q o.nm qc),(24,.int .i64 (t:Nat)),(26,.slice (some ⟨pb,po,none⟩) o.grps.length g.cap),(27,.int .i64 (r:Nat)),(28,.bool lt),(29,.int .i64 (j:Nat))] [(b18,true,.cells ⟨(o.val a).cells.toList⟩ 26 (0,0)),(b10,true,.cells ⟨(k.val A lc B tc).cells.toList⟩ 36 (0,0)),(b9,true,.cells ⟨q.val.cells.toList⟩ 32 (0,0))] _ _;by_cases e0:j=ml.length
   ·clear ih2;subst e0;rw[List.take_length] at j2;cases lt with
    | false=>
     have hcn:cn≠0:=fun h=> by have:=j2.2 (hlx h);cases this
     have hcn':((cn:Nat):Int)≠0:=by omega
     refine U11 ?_;refine Tc.dr [] [] mixed rfl ?_;refine V6 0 ?_;refine .z 6 rfl (OpV.tk fun H hs=> hcx H hs.base) ?_;refine V2 7 ?_;refine .nw 9 ?_;refine .nw 10 ?_;refine V4 11 ?_;refine .nw 15 ?_;refine .nw 16 ?_;refine .nw 17 ?_;refine .nw 18 ?_;refine .nw 19 ?_;refine .nw 20 ?_;refine .nw 21 ?_;refine .nw 22 ?_;refine .nw 23 ?_;refine V2 24 ?_;refine .dn ?_;refine U8 ?_;exact Tc.db (ih ⟨r+1,oM⟩ (by simp only;omega))
    | true=>
     obtain⟨m,hm⟩:∃m:Nat,x.1=m:=⟨x.1.toNat,oM⟩
     have hm2:m<o.nm:=by omega
     have hpm:=hpos x (j2.1 rfl) m hm;rcases hQ7 with h0|⟨qb,qo,qf,qgs,qgt,qgz,rfl,hqb,hqa⟩
     ·omega
     have f2:ldL false 1 qgs (qo+(x.1).toNat*1)=some (.int .i64 (pl m)):=by rw[hm];exact hqa m hm2
     have f3:ldL false 1 pgs (po+((r:Nat):Int).toNat*2+0)=some (.int .i64 x.1):=ldL_cell f1 dE;obtain⟨x1,x2⟩:=x;simp only at hm hxr f2 f3;by_cases hcn:((cn:Nat):Int)=0
     ·refine U11 ?_;refine Tc.dr [] [] mixed rfl ?_;refine V6 0 ?_;refine .z 6 rfl (OpV.tk fun H hs=> hcx H hs.base) ?_;refine V18 7 ?_;refine .nn 25 ?_;refine .dn ?_;refine U8 ?_;exact Tc.db (ih ⟨r+1,oM⟩ (by simp only;omega))
     ·refine U11 ?_;refine Tc.dr [] [] mixed rfl ?_;refine V6 0 ?_;refine .z 6 rfl (OpV.tk fun H hs=> hcx H hs.base) ?_;refine V2 7 ?_;refine .nw 9 ?_;refine .nw 10 ?_;refine V15 11 ?_;refine .dn ?_;refine U8 ?_;exact Tc.db (ih ⟨r+1,oM⟩ (by simp only;omega))
   ·have e1:j<ml.length:=by omega
    obtain⟨y,hy⟩:∃y,ml[j]? =some y:=⟨_,List.getElem?_eq_getElem e1⟩
    have htk:ml.take (j+1)=ml.take j++[y]:=by rw[List.take_add_one,hy];rfl
    rcases hM7 with h0|⟨mb,mo,mf,mgs,mgt,mgz,rfl,hmb,hma⟩
    ·rw[h0] at e1;cases e1
    have f2:=hma j y hy;cases lt with
    | true=>
     refine U12 ?_;refine Tc.dr [] [] mixed rfl ?_;refine V2 0 ?_;refine .nw 2 ?_;refine .nw 3 ?_;refine .nw 4 ?_;refine .nw 5 ?_;refine .nw 6 ?_;refine .nw 7 ?_;refine .nw 8 ?_;refine .nw 9 ?_;refine .nw 10 ?_;refine V2 11 ?_;refine .dn ?_;refine U6 ?_;exact Tc.db (ih2 ⟨(j+1,true),by simp only;omega,⟨fun _=> by simp only;rw[htk];exact List.mem_append_left _ (j2.1 rfl),fun _=> rfl⟩⟩ (by simp only;omega))
    | false=>
     have hnot:x ∉ ml.take j:=fun h=> by have:=j2.2 h;cases this
     by_cases e2:y=x
     ·subst e2;have hq2:true=true<-> [Value.int .i64 y.1,Value.int .i64 y.2]= [Value.int .i64 y.1,Value.int .i64 y.2]:=⟨fun _=> rfl,fun _=> rfl⟩
      refine U12 ?_;refine Tc.dr [] [] mixed rfl ?_;refine V10 0 ?_;refine .q 10 rfl (OpV.eqA (E:=en) true 2 rfl rfl rfl rfl rfl eg56 dE (prt_flat y.1 y.2) (prt_flat y.1 y.2) hq2) ?_;refine V2 11 ?_;refine .dn ?_;refine U6 ?_;exact Tc.db (ih2 ⟨(j+1,true),by simp only;omega,⟨fun _=> by simp only;rw[htk];exact List.mem_append_right _ (List.mem_singleton.2 rfl),fun _=> rfl⟩⟩ (by simp only;omega))
     ·have hq2:false=true<-> [Value.int .i64 y.1,Value.int .i64 y.2]= [Value.int .i64 x.1,Value.int .i64 x.2]:=⟨fun h=> (by cases h),fun h=> (e2 (by
       simp only[List.cons.injEq,Value.int.injEq,and_true,true_and] at h;exact Prod.ext h.1 h.2)).elim⟩
      refine U12 ?_;refine Tc.dr [] [] mixed rfl ?_;refine V10 0 ?_;refine .q 10 rfl (OpV.eqA (E:=en) false 2 rfl rfl rfl rfl rfl eg56 dE (prt_flat y.1 y.2) (prt_flat x.1 x.2) hq2) ?_;refine V2 11 ?_;refine .dn ?_;refine U6 ?_;exact Tc.db (ih2 ⟨(j+1,false),by simp only;omega,⟨fun h=> (by cases h),fun h=> by
       simp only at h;rw[htk,List.mem_append,List.mem_singleton] at h;rcases h with h|h
       ·exact(hnot h).elim
       ·exact(e2 h.symm).elim⟩⟩ (by simp only;omega))
 ·have c1:i<o.nm:=by omega
  rcases hQ with h0|⟨qb,qo,qf,qgs,qgt,qgz,rfl,hqb,hqa⟩
  ·omega
  have f1:=hqa i c1;obtain⟨l1,l2⟩:=hpl i c1;refine U22 ?_;refine .cl (fun H hs=> In_c M H (pl i) (-1) ((o.nm:Nat)-1:Int) true (decide_eq_true oM)) ?_;refine U11 ?_;refine .x (OpV.max rfl rfl rfl rfl rfl rfl (by exact rfl)) ?_;refine U8 ?_;exact Tc.db (ih ⟨(i+1,if pl i+1>mx then pl i+1 else mx),by simp only;omega,by simp only;split <;> omega,by simp only;split <;> omega⟩ (by simp only;omega))
end
structure Sb.small(b:Sb):Prop where
 nm:b.nm<=20
 ns:b.ns<=20
 nr:b.nr<=20
 name:∀i,i<b.nm->(b.name i).length<=100
 np:∀i,i<b.ns->b.np i<=20
section
variable(M:Md prog)(H:View)
theorem Great6_c(b:Sb)(a:Sa)(hb:SbAt H b a):CallT M 24 #[b.val a] H (fun v H'=> H.le H'/\∃t:Bool,v=.bool t/\(t=false->b.small)):=by
 refine .en func24 ntmps24 fun St c cs hK=> ?_;refine U2 ?_;refine .bo fun b1=> ?_;refine U2 ?_;by_cases s1:20<b.nm
 ·refine U25 ?_;refine .rt hK func24 results24 [_] ?_;exact fun H' hs=> ⟨hs.base,true,rfl,fun h=> nomatch h⟩
 by_cases s2:20<b.ns
 ·refine U25 ?_;refine .rt hK func24 results24 [_] ?_;exact fun H' hs=> ⟨hs.base,true,rfl,fun h=> nomatch h⟩
 by_cases s3:20<b.nr
 ·refine U25 ?_;refine .rt hK func24 results24 [_] ?_;exact fun H' hs=> ⟨hs.base,true,rfl,fun h=> nomatch h⟩
 refine U28 ?_;refine Tc.db (Tc.loopInv (σ:= { i:Nat//i<=b.nm/\∀j,j<i->(b.name j).length<=100 }) (fun i=> ([(1,.pointer (some ⟨b1,0,none⟩)),(3,.int .i64 (i.1:Nat))],[(b1,true,.cells ⟨(b.val a).cells.toList⟩ 26 (0,0))])) (fun i=> b.nm-i.1) ?_ ⟨0,Nat.zero_le _,fun j hj=> by omega⟩);rintro⟨i,hi,hall⟩ ih;show Tc M St _ _ _ _ [(1,.pointer (some ⟨b1,0,none⟩)),(3,.int .i64 (i:Nat))] [(b1,true,.cells ⟨(b.val a).cells.toList⟩ 26 (0,0))] _ _;by_cases c0:i=b.nm
 ·clear ih;subst c0;refine U17 ?_;refine Tc.db (Tc.loopInv (σ:= { i:Nat//i<=b.ns/\∀j,j<i->b.np j<=20 }) (fun i=> ([(1,.pointer (some ⟨b1,0,none⟩)),(4,.int .i64 (i.1:Nat))],[(b1,true,.cells ⟨(b.val a).cells.toList⟩ 26 (0,0))])) (fun i=> b.ns-i.1) ?_ ⟨0,Nat.zero_le _,fun j hj=> by omega⟩);rintro⟨j,hj,hal2⟩ ih;show Tc M St _ _ _ _ [(1,.pointer (some ⟨b1,0,none⟩)),(4,.int .i64 (j:Nat))] [(b1,true,.cells ⟨(b.val a).cells.toList⟩ 26 (0,0))] _ _;by_cases d0:j=b.ns
  ·subst d0;refine U15 ?_;refine .rt hK func24 results24 [_] ?_;exact fun H' hs=> ⟨hs.base,false,rfl,fun _=> ⟨oM,oM,oM,hall,hal2⟩⟩
  ·have d1:j<b.ns:=by omega
   obtain⟨_,h0|⟨k,o,f,gs,gt,gz,e1,e2,e3⟩⟩:=hb.sess
   ·omega
   obtain⟨P,pc,f1,hpc,hP⟩:=e3 j d1;have f3:ldL false 1 gs (o+((j:Nat):Int).toNat*1+0)=some (.slice P (b.np j) pc):=ldL_cell f1 dE;obtain⟨aA,mc,aS,sc,aR,rc⟩:=a;simp only at e1;subst e1;by_cases d2:20<b.np j
   ·refine U29 ?_;refine .rt hK func24 results24 [_] ?_;exact fun H' hs=> ⟨hs.base,true,rfl,fun h=> nomatch h⟩
   ·refine U32 ?_;exact Tc.db (ih ⟨j+1,oM,fun q hq=> by by_cases e:q=j;exact e▸oM;exact hal2 q oM⟩ (by simp only;omega))
 ·have c1:i<b.nm:=by omega
  obtain⟨_,h0|⟨k,o,f,gs,gt,gz,e1,e2,e3⟩⟩:=hb.msgs
  ·omega
  have f1:=e3 i c1;have f3:ldL false 1 gs (o+((i:Nat):Int).toNat*3+0)=some (strV (b.name i)):=ldL_cell f1 dE;obtain⟨aA,mc,aS,sc,aR,rc⟩:=a;simp only at e1;subst e1;by_cases d2:100<(b.name i).length
  ·refine U29 ?_;refine .rt hK func24 results24 [_] ?_;exact fun H' hs=> ⟨hs.base,true,rfl,fun h=> nomatch h⟩
  ·refine U32 ?_;exact Tc.db (ih ⟨i+1,oM,fun q hq=> by by_cases e:q=i;exact e▸oM;exact hall q oM⟩ (by simp only;omega))
end
section
variable(M:Md prog)(H:View)
theorem there_c(n many:Int)(hm: -1000000<=many/\many<=1000000):CallT M 73 #[.int .i64 n,.int .i64 many] H (fun v H'=> H.le H'/\v=.bool (decide (0<=n/\n<many))):=by
 have hin:=fun(H':View)=> In_c M H' n 0 (many-1) (decide (0<=n/\n<many)) (by rw[decide_eq_decide];omega);refine .en func73 ntmps73 fun St c cs hK=> ?_;refine U9 ?_;refine .cl (fun H hs=> hin H) ?_;refine U2 ?_;refine .rt hK func73 results73 [_] ?_;exact okB
theorem Is_c(b:Sb)(a:Sa)(hb:SbAt H b a)(hnm:b.nm<=1000)(hgr:∀i,i<b.nm-> -1000000<=b.gr i/\b.gr i<=1000000)(m g:Int):CallT M 72 #[b.val a,prtV m g] H (fun v H'=> H.le H'/\v=.bool (b.isPart m g)):=by
 by_cases c0:0<=m/\m<b.nm
 ·obtain⟨n,rfl⟩:∃n:Nat,m=n:=⟨m.toNat,oM⟩
  have c1:n<b.nm:=by omega
  obtain⟨_,h0|⟨k,o,f,gs,gt,gz,e1,e2,e3⟩⟩:=hb.msgs
  ·omega
  have f1:=e3 n c1;have f2:ldL false 1 gs (o+((n:Nat):Int).toNat*3+1)=some (.int .i64 (b.gr n)):=ldL_cell f1 dE;have hg:=hgr n c1;have hv:b.isPart (n:Nat) g=decide (0<=g/\g<b.gr n):=by
   unfold Sb.isPart;rw[decide_eq_true c0,Bool.true_and,Int.toNat_natCast]
  rw[hv];have h1:=fun(H':View)=> isV (there_c M H' (n:Nat) b.nm oM) (w':=.bool true) (by rw[decide_eq_true c0]);obtain⟨aA,mc,aS,sc,aR,rc⟩:=a;simp only at e1;subst e1;refine .en func72 ntmps72 fun St c cs hK=> ?_;refine U2 ?_;refine .bo fun b2=> ?_;refine .bo fun b3=> ?_;refine U3 ?_;refine Tc.dr [] [] mixed rfl ?_;refine V5 0 ?_;refine .z 5 rfl (OpV.tk fun H hs=> h1 H) ?_;refine V10 6 ?_;refine .z 16 rfl (OpV.tk fun H hs=> there_c M H g (b.gr n) oM) ?_;refine V2 17 ?_;refine .dn ?_;refine .rt hK func72 results72 [_] ?_;exact okB
 ·have hv:b.isPart m g=false:=by
   unfold Sb.isPart;rw[decide_eq_false c0];rfl
  rw[hv];have h1:=fun(H':View)=> isV (there_c M H' m b.nm oM) (w':=.bool false) (by rw[decide_eq_false c0]);refine .en func72 ntmps72 fun St c cs hK=> ?_;refine U2 ?_;refine .bo fun b2=> ?_;refine .bo fun b3=> ?_;refine U3 ?_;refine Tc.dr [] [] mixed rfl ?_;refine V5 0 ?_;refine .z 5 rfl (OpV.tk fun H hs=> h1 H) ?_;refine .nn 6 ?_;refine .nw 7 ?_;refine .nw 8 ?_;refine .nw 9 ?_;refine .nw 10 ?_;refine .nw 11 ?_;refine .nw 12 ?_;refine .nw 13 ?_;refine .nw 14 ?_;refine .nw 15 ?_;refine .nw 16 ?_;refine V2 17 ?_;refine .dn ?_;refine .rt hK func72 results72 [_] ?_;exact okB
end
def Sb.msgOk(b:Sb)(i:Nat):Prop:=isNm (b.name i)=true/\(∀j,j<i->b.name j≠b.name i)/\(1<=b.gr i/\b.gr i<=4)/\(0<=b.due i/\b.due i<=999)
def Sb.prtOk(b:Sb)(i k:Nat):Prop:=b.isPart (b.pm i k) (b.pg i k)=true/\∀j,j<k->¬(b.pm i j=b.pm i k/\b.pg i j=b.pg i k)
def Sb.sesOk(b:Sb)(i:Nat):Prop:=b.np i<=5/\∀k,k<b.np i->b.prtOk i k
theorem cntP_none {x y:Nat->Int}{p:Int×Int}:∀n,¬0<cntP x y p n->∀j,j<n->¬(x j=p.1/\y j=p.2)
 | 0,_,j,hj=> by omega
 | n + 1,h,j,hj=> by
  unfold cntP at h;by_cases e:x n=p.1/\y n=p.2
  ·rw[if_pos e] at h;omega
  ·rw[if_neg e] at h;by_cases e2:j=n
   ·subst e2;exact e
   ·exact cntP_none n oM j oM
section
variable(M:Md prog)(H:View)
theorem messages6_c(b:Sb)(a:Sa)(hb:SbAt H b a)(hs0:b.small):CallT M 35 #[b.val a] H (fun v H'=> H.le H'/\∃z,v=.int .i64 z/\(z=0->b.nm<=5/\∀i,i<b.nm->b.msgOk i)):=by
 have hbad:∀z:Int,z≠0->∀H',H.le H'->H.le H'/\∃z',Value.int .i64 z=.int .i64 z'/\(z'=0->b.nm<=5/\∀i,i<b.nm->b.msgOk i):=fun z hz H' h=> ⟨h,z,rfl,fun e=> (hz e).elim⟩
 refine .en func35 ntmps35 fun St c cs hK=> ?_;by_cases c0:5<b.nm
 ·refine U2 ?_;refine .bo fun b1=> ?_;refine U15 ?_;refine .rt hK func35 results35 [_] ?_;exact fun H' hs=> hbad 2 dE H' hs.base
 ·refine U2 ?_;refine .bo fun b1=> ?_;refine U18 ?_;refine Tc.db (Tc.loopInv (σ:= { i:Nat//i<=b.nm/\∀j,j<i->b.msgOk j }) (fun i=> ([(1,.pointer (some ⟨b1,0,none⟩)),(3,.int .i64 (i.1:Nat))],[(b1,true,.cells ⟨(b.val a).cells.toList⟩ 26 (0,0))])) (fun i=> b.nm-i.1) ?_ ⟨0,Nat.zero_le _,fun j hj=> by omega⟩);rintro⟨i,g1,g2⟩ ih;show Tc M St _ _ H _ [(1,.pointer (some ⟨b1,0,none⟩)),(3,.int .i64 (i:Nat))] [(b1,true,.cells ⟨(b.val a).cells.toList⟩ 26 (0,0))] _ _;by_cases c1:i=b.nm
  ·subst c1;refine U15 ?_;refine .rt hK func35 results35 [_] ?_;exact fun H' hs=> ⟨hs.base,0,rfl,fun _=> ⟨oM,g2⟩⟩
  ·have c2 : i<b.nm:=by omega
   obtain⟨_,h0|⟨k,o,f,gs,gt,gz,e1,e2,e3⟩⟩:=hb.msgs
   ·omega
   have f1:=e3 i c2;have hl:=hs0.name i c2;obtain⟨aA,mc,aS,sc,aR,rc⟩:=a;simp only at e1;subst e1;cases q0:isNm (b.name i) with
   | false=>
    refine U20 ?_;refine .al fun b4=> ?_;refine U7 ?_;refine .cl (fun H hs=> IsNameR_c M H (b.name i) oM _ q0) ?_;refine U7 ?_;refine .rt hK func35 results35 [_] ?_;exact fun H' hs=> hbad 4 dE H' hs.base
   | true=>
    refine U20 ?_;refine .al fun b4=> ?_;refine U7 ?_;refine .cl (fun H hs=> IsNameR_c M H (b.name i) oM _ q0) ?_;refine U10 ?_;refine Tc.db (Tc.loopInv (σ:= { q:Nat//q<=i/\∀j,j<q->b.name j≠b.name i }) (fun q=> ([(1,.pointer (some ⟨b1,0,none⟩)),(3,.int .i64 (i:Nat)),(4,.pointer (some ⟨b4,0,none⟩)),(5,.int .i64 (q.1:Nat))],[(b4,true,.cells ⟨(msgV (b.name i) (b.gr i) (b.due i)).cells.toList⟩ 112 (0,0)),(b1,true,.cells ⟨(b.val ⟨some ⟨k,o,none⟩,mc,aS,sc,aR,rc⟩).cells.toList⟩ 26 (0,0))])) (fun q=> i-q.1) ?_ ⟨0,Nat.zero_le _,fun j hj=> by omega⟩);rintro⟨q,p1,p2⟩ ih2;show Tc M St _ _ H _ [(1,.pointer (some ⟨b1,0,none⟩)),(3,.int .i64 (i:Nat)),(4,.pointer (some ⟨b4,0,none⟩)),(5,.int .i64 (q:Nat))] [(b4,true,.cells ⟨(msgV (b.name i) (b.gr i) (b.due i)).cells.toList⟩ 112 (0,0)),(b1,true,.cells ⟨(b.val ⟨some ⟨k,o,none⟩,mc,aS,sc,aR,rc⟩).cells.toList⟩ 26 (0,0))] _ _;by_cases c3:q=i
    ·clear ih2;subst c3;by_cases d1:1<=b.gr q/\b.gr q<=4
     ·by_cases d2:0<=b.due q/\b.due q<=999
      ·refine U13 ?_;refine .cl (fun H hs=> In_c M H (b.gr q) 1 4 true (decide_eq_true d1)) ?_;refine U4 ?_;refine .cl (fun H hs=> In_c M H (b.due q) 0 999 true (decide_eq_true d2)) ?_;refine U11 ?_;exact Tc.db (ih ⟨q+1,oM,fun j hj=> by
        by_cases e:j=q
        ·subst e;exact⟨q0,p2,d1,d2⟩
        ·exact g2 j oM⟩ (by simp only;omega))
      ·refine U13 ?_;refine .cl (fun H hs=> In_c M H (b.gr q) 1 4 true (decide_eq_true d1)) ?_;refine U4 ?_;refine .cl (fun H hs=> In_c M H (b.due q) 0 999 false (decide_eq_false d2)) ?_;refine U8 ?_;refine .rt hK func35 results35 [_] ?_;exact fun H' hs=> hbad 1 dE H' hs.base
     ·refine U13 ?_;refine .cl (fun H hs=> In_c M H (b.gr q) 1 4 false (decide_eq_false d1)) ?_;refine U13 ?_;refine .rt hK func35 results35 [_] ?_;exact fun H' hs=> hbad 1 dE H' hs.base
    ·have c4:q<i:=by omega
     have f2:=e3 q oM;have f5:ldL false 1 gs (o+((q:Nat):Int).toNat*3+0)=some (strV (b.name q)):=ldL_cell f2 dE;cases hpp:b.name q==b.name i with
     | true=>
      have f3:RL.strB .eql (b.name q) (b.name i)=some (.bool true):=by rw[<-hpp];rfl
      refine U12 ?_;refine Tc.dr [] [] mixed rfl ?_;refine V9 0 ?_;refine .dn ?_;refine U5 ?_;refine .rt hK func35 results35 [_] ?_;exact fun H' hs=> hbad 5 dE H' hs.base
     | false=>
      have f3:RL.strB .eql (b.name q) (b.name i)=some (.bool false):=by rw[<-hpp];rfl
      refine U12 ?_;refine Tc.dr [] [] mixed rfl ?_;refine V9 0 ?_;refine .dn ?_;refine U8 ?_;exact Tc.db (ih2 ⟨q+1,oM,fun j hj=> by
       by_cases e:j=q
       ·subst e;intro h;rw[h] at hpp;simp at hpp
       ·exact p2 j oM⟩ (by simp only;omega))
theorem sessions6_c(b:Sb)(a:Sa)(hb:SbAt H b a)(hs0:b.small)(hgr:∀i,i<b.nm-> -1000000<=b.gr i/\b.gr i<=1000000):CallT M 36 #[b.val a] H (fun v H'=> H.le H'/\∃z,v=.int .i64 z/\(z=0->b.ns<=4/\∀i,i<b.ns->b.sesOk i)):=by
 have hbad:∀z:Int,z≠0->∀H',H.le H'->H.le H'/\∃z',Value.int .i64 z=.int .i64 z'/\(z'=0->b.ns<=4/\∀i,i<b.ns->b.sesOk i):=fun z hz H' h=> ⟨h,z,rfl,fun e=> (hz e).elim⟩
 have hnm:=hs0.nm;refine .en func36 ntmps36 fun St c cs hK=> ?_;by_cases c0:4<b.ns
 ·refine U2 ?_;refine .bo fun b1=> ?_;refine U15 ?_;refine .rt hK func36 results36 [_] ?_;exact fun H' hs=> hbad 2 dE H' hs.base
 ·refine U2 ?_;refine .bo fun b1=> ?_;refine U18 ?_;refine Tc.db (Tc.loopInv (σ:= { i:Nat//i<=b.ns/\∀j,j<i->b.sesOk j }) (fun i=> ([(1,.pointer (some ⟨b1,0,none⟩)),(3,.int .i64 (i.1:Nat))],[(b1,true,.cells ⟨(b.val a).cells.toList⟩ 26 (0,0))])) (fun i=> b.ns-i.1) ?_ ⟨0,Nat.zero_le _,fun j hj=> by omega⟩);rintro⟨i,g1,g2⟩ ih;show Tc M St _ _ H _ [(1,.pointer (some ⟨b1,0,none⟩)),(3,.int .i64 (i:Nat))] [(b1,true,.cells ⟨(b.val a).cells.toList⟩ 26 (0,0))] _ _;by_cases c1:i=b.ns
  ·subst c1;refine U15 ?_;refine .rt hK func36 results36 [_] ?_;exact fun H' hs=> ⟨hs.base,0,rfl,fun _=> ⟨oM,g2⟩⟩
  ·have c2 : i<b.ns:=by omega
   obtain⟨_,h0|⟨k,o,f,gs,gt,gz,e1,e2,e3⟩⟩:=hb.sess
   ·omega
   obtain⟨P,pc,f1,hpc,hP⟩:=e3 i c2;have f2:ldL false 1 gs (o+((i:Nat):Int).toNat*1+0)=some (.slice P (b.np i) pc):=ldL_cell f1 dE;have hnp:=hs0.np i c2;obtain⟨aA,mc,aS,sc,aR,rc⟩:=a;simp only at e1;subst e1;by_cases d0:5<b.np i
   ·refine U35 ?_;refine .rt hK func36 results36 [_] ?_;exact fun H' hs=> hbad 2 dE H' hs.base
   ·refine U37 ?_;refine Tc.db (Tc.loopInv (σ:= { q:Nat//q<=b.np i/\∀j,j<q->b.prtOk i j }) (fun q=> ([(1,.pointer (some ⟨b1,0,none⟩)),(3,.int .i64 (i:Nat)),(4,.slice P (b.np i) pc),(5,.int .i64 (q.1:Nat))],[(b1,true,.cells ⟨(b.val ⟨aA,mc,some ⟨k,o,none⟩,sc,aR,rc⟩).cells.toList⟩ 26 (0,0))])) (fun q=> b.np i-q.1) ?_ ⟨0,Nat.zero_le _,fun j hj=> by omega⟩);rintro⟨q,p1,p2⟩ ih2;show Tc M St _ _ H _ [(1,.pointer (some ⟨b1,0,none⟩)),(3,.int .i64 (i:Nat)),(4,.slice P (b.np i) pc),(5,.int .i64 (q:Nat))] [(b1,true,.cells ⟨(b.val ⟨aA,mc,some ⟨k,o,none⟩,sc,aR,rc⟩).cells.toList⟩ 26 (0,0))] _ _;by_cases c3:q=b.np i
    ·clear ih2;subst c3;refine U16 ?_;exact Tc.db (ih ⟨i+1,oM,fun j hj=> by
      by_cases e:j=i
      ·subst e;exact⟨oM,p2⟩
      ·exact g2 j oM⟩ (by simp only;omega))
    ·have c4:q<b.np i:=by omega
     have hP':=hP.pre p1;rcases hP with h0|⟨pb,po,pf,pgs,pgt,pgz,rfl,hpb,hpl⟩
     ·omega
     have f4:=hpl q c4;have hIs:=fun(H':View) (h':H.le H')=> Is_c M H' b ⟨aA,mc,some ⟨k,o,none⟩,sc,aR,rc⟩ (hb.le h') oM hgr (b.pm i q) (b.pg i q);have hhas:=fun(H':View) (h':H.le H')=> has_c M H' (some ⟨pb,po,none⟩) q pc (b.pm i) (b.pg i) (hP'.le h') oM (b.pm i q,b.pg i q);cases t0:b.isPart (b.pm i q) (b.pg i q) with
     | false=>
      rw[t0] at hIs;refine U14 ?_;refine Tc.dr [] [] mixed rfl ?_;refine V5 0 ?_;refine .z 5 rfl (OpV.tk fun H hs=> hIs H hs.base) ?_;refine .nn 6 ?_;refine .dn ?_;refine U5 ?_;refine .rt hK func36 results36 [_] ?_;exact fun H' hs=> hbad 6 dE H' hs.base
     | true=>
      rw[t0] at hIs;by_cases t1:0<cntP (b.pm i) (b.pg i) (b.pm i q,b.pg i q) q
      ·rw[decide_eq_true t1] at hhas;refine U14 ?_;refine Tc.dr [] [] mixed rfl ?_;refine V5 0 ?_;refine .z 5 rfl (OpV.tk fun H hs=> hIs H hs.base) ?_;refine .nn 6 ?_;refine .dn ?_;refine U3 ?_;refine Tc.dr [] [] mixed rfl ?_;refine V2 0 ?_;refine .q 2 rfl (OpV.sliceH (E:=en) rfl rfl rfl rfl rfl rfl oM) ?_;refine V4 3 ?_;refine .z 7 rfl (OpV.tk fun H hs=> hhas H hs.base) ?_;refine .dn ?_;refine U5 ?_;refine .rt hK func36 results36 [_] ?_;exact fun H' hs=> hbad 5 dE H' hs.base
      ·rw[decide_eq_false t1] at hhas;have hnone:=cntP_none q t1;refine U14 ?_;refine Tc.dr [] [] mixed rfl ?_;refine V5 0 ?_;refine .z 5 rfl (OpV.tk fun H hs=> hIs H hs.base) ?_;refine .nn 6 ?_;refine .dn ?_;refine U3 ?_;refine Tc.dr [] [] mixed rfl ?_;refine V2 0 ?_;refine .q 2 rfl (OpV.sliceH (E:=en) rfl rfl rfl rfl rfl rfl oM) ?_;refine V4 3 ?_;refine .z 7 rfl (OpV.tk fun H hs=> hhas H hs.base) ?_;refine .dn ?_;refine U8 ?_;exact Tc.db (ih2 ⟨q+1,oM,fun j hj=> by
        by_cases e:j=q
        ·subst e;exact⟨t0,hnone⟩
        ·exact p2 j oM⟩ (by simp only;omega))
end
end Go.Proofs.YtcagolloalgfiaaGreatDoor
