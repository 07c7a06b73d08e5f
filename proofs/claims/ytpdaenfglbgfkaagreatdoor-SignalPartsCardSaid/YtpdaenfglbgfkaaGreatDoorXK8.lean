/-
  What can be read is what can be read with single paces and single leans, together: the walk.
-/
import Derived.Test.YtpdaenfglbgfkaaGreatDoorX09
import Derived.Test.YtpdaenfglbgfkaaGreatDoorXK7
namespace Go.Proofs.YtpdaenfglbgfkaaGreatDoor
open Go.RL
set_option maxRecDepth 10000
set_option maxHeartbeats 16000000
theorem gl_some'(g:Gl 3 1)(h:0<g.n):∃b,g.blk=some b:=by
 cases hb:g.blk with
 | none=> have:=g.h0 hb;have:=g.hc;omega
 | some b=> exact⟨b,rfl⟩
theorem Parts_w {St:View→Goroutine→Prop}{cs:List Frame}(H:View)(hG:Glob H)(k:Lk)(p:Int)(hp:0≤p∧p<256)
   (hR:∀(H₀:View) (R:Rg) (L:Bl) (kk:List Item),lk R 4=some (.bool true)→H.le H₀→Tc (Mp Tryz.prog) St 132 ⟨5,.normal,none⟩ H₀ cs R L [] (.code .ret::kk)):
   Tc (Mp Tryz.prog) St 132 ⟨5,.normal,none⟩ H cs (argR [k.val,.int .u8 p]) [] [] [.code (bodyOf Tryz.f5)]:=by
 cases hk:k.ok with
 | false=>
   refine .sr ?_
   refine .e (.bx (zz:=fun b2=> ?_))
   refine .g ?_
   refine .done (.seq (.sr ?_))
   refine .x (.ld 0) ?_
   refine .c rfl rfl rfl rfl (fun H hs=> .f ca36 rfl (CallT.is (.bool false) (by rewrite [hk];rfl) (Fit_c _ H k))) ?_
   refine .x .nt ?_
   refine .done (.tt rfl (.sr ?_))
   refine .c rfl rfl rfl rfl (fun H hs=> .f ca31 rfl (signalled_c H (glob_le hG hs.base))) ?_
   refine .g ?_
   refine .done ?_
   exact hR _ _ _ _ rfl (View.le_refl _)
 | true=>
   obtain⟨hks,hkr,hkl,hkm⟩:=Lk.ok_in hk
   obtain⟨code,hcode⟩:∃c:Nat,p%32=(c:Int):=⟨(p%32).toNat,by omega⟩
   have hc:code<32:=by omega
   have hw1:IntKind.i64.wrap p=p:=wrap64 (by omega) (by omega)
   have hr1:intBin .rem .i64 p 32=some (.int .i64 (code:Nat)):=by rw[rem_in (by omega) (by omega),hcode]
   obtain⟨F0,hF0⟩:∃F,k.refused code=F:=⟨_,rfl⟩
   refine .sr ?_
   refine .e (.bx (zz:=fun b2=> ?_))
   refine .g ?_
   refine .done (.seq (.sr ?_))
   refine .x (.ld 0) ?_
   refine .c rfl rfl rfl rfl (fun H hs=> .f ca36 rfl (CallT.is (.bool true) (by rewrite [hk];rfl) (Fit_c _ H k))) ?_
   refine .x .nt ?_
   refine .done (.ff rfl (.skip (.sr ?_)))
   refine .m ?_
   refine .x .cv ?_
   refine .i ?_ (z:=by assumption)
   refine .g ?_
   refine .done (.sr ?_)
   refine .x (.ld 0) ?_
   refine .m ?_
   refine .e (Or.callNew (fun g:Gl 3 1=> .tuple ⟨[g.val,.int .i64 (k.refused code),.int .i64 0]⟩) Gl.bl (fun g:Gl 3 1=> g.l=keepTo (k.canRead code) 32) rfl rfl rfl rfl rfl (by decide) gl_nodup (fun H hs=> .f ca21 rfl (Reads_c _ H k code (glob_le hG hs.base) hk hc)) (fun g0 hg0=> ?_))
   refine .m ?_
   refine .x .et ?_
   refine .x .et ?_
   refine .x .et ?_
   refine .g ?_
   refine .g ?_
   refine .g ?_
   refine .done ?_
   refine Tc.lift (L₂:= [(b2,true,.cells ⟨k.val.cells.toList⟩ 27 (0,0))]) (L₁:=g0.bl) rfl (fun Hx hx=> ?_)
   have hle:=hx.base
   obtain⟨n0,N0⟩:=Nums.of (H:=Hx) (hg0.trans (keepI_eq _ _)) (fun y hy=> hx.at_ y hy)
   have hl0:=keepI_len (k.canRead code) 32
   clear hx
   rw[hF0]
   refine .seq (.sr ?_)
   refine .m ?_
   refine .i ?_ (z:=neq_f (by omega))
   refine .done (.ff rfl (.skip (.sr ?_)))
   refine .e (.al (zz:=fun b9=> ?_))
   refine .done (.sr ?_)
   refine .g ?_
   refine .g ?_
   refine .done (.seq (.sr ?_))
   refine .x .fa ?_
   refine .x .fa ?_
   refine .x (.ld 1) ?_
   refine .g ?_
   refine .done (.block ?_)
   refine Tc.db (Tc.loopB (σ:= { x:View×Int×List Lk//(k.s0≤x.2.1∧x.2.1≤k.s1+1)∧Ones k x.2.2∧Covs k x.2.2 (fun s' _ _=> s'<x.2.1)∧Hx.le x.1 })
     (fun x=> (x.1.1,[(2,.pointer (some ⟨b2,0,none⟩)),(5,.int .i64 (code:Nat)),(6,g0.val),(7,.int .i64 F0),(9,.pointer (some ⟨b9,0,none⟩)),(10,.bool (x.1.2.2.any fun o=> decide (o.refused code≠2))),(11,.bool (x.1.2.2.all fun o=> decide (o.refused code=1))),(12,.int .i64 x.1.2.1)],[(b9,true,.cells ⟨rowB (fun i=> x.1.2.2.any fun o=> o.canRead code i)⟩ 48 (0,0)),(b2,true,.cells ⟨k.val.cells.toList⟩ 27 (0,0))])) (fun x=> (k.s1+1-x.1.2.1).toNat) ?_ ⟨(Hx,k.s0,[]),by simp only;omega,Ones.nil k,fun s _ _ h1 _ _ h2=> by simp only at h2;omega,View.le_refl _⟩)
   rintro⟨⟨Hs,s,X₁⟩,h1,h3₁,h4₁,h5₁⟩ ih₁
   simp only at h1 h3₁ h4₁ h5₁
   show Tc (Mp Tryz.prog) St _ _ Hs _ [(2,.pointer (some ⟨b2,0,none⟩)),(5,.int .i64 (code:Nat)),(6,g0.val),(7,.int .i64 F0),(9,.pointer (some ⟨b9,0,none⟩)),(10,.bool (X₁.any fun o=> decide (o.refused code≠2))),(11,.bool (X₁.all fun o=> decide (o.refused code=1))),(12,.int .i64 s)] [(b9,true,.cells ⟨rowB (fun i=> X₁.any fun o=> o.canRead code i)⟩ 48 (0,0)),(b2,true,.cells ⟨k.val.cells.toList⟩ 27 (0,0))] _ _
   by_cases hs1:s≤k.s1
   · have hs12 : k.s0≤s∧s≤k.s1:=⟨h1.1,hs1⟩
     refine .seq (.sr ?_)
     refine .m ?_
     refine .x .fa ?_
     refine .x .fa ?_
     refine .x (.ld 1) ?_
     refine .i ?_ (z:=leq_t (by omega))
     refine .done (.tt rfl (.skip (.seq (.block (.sr ?_)))))
     refine .x .fa ?_
     refine .x .fa ?_
     refine .x (.ld 1) ?_
     refine .g ?_
     refine .done (.block ?_)
     refine Tc.db (Tc.loopB (σ:= { x:View×Int×List Lk//(k.r0≤x.2.1∧x.2.1≤k.r1+1)∧Ones k x.2.2∧Covs k x.2.2 (fun s' r' _=> s'<s∨s'=s∧r'<x.2.1)∧Hx.le x.1 })
       (fun x=> (x.1.1,[(2,.pointer (some ⟨b2,0,none⟩)),(5,.int .i64 (code:Nat)),(6,g0.val),(7,.int .i64 F0),(9,.pointer (some ⟨b9,0,none⟩)),(10,.bool (x.1.2.2.any fun o=> decide (o.refused code≠2))),(11,.bool (x.1.2.2.all fun o=> decide (o.refused code=1))),(12,.int .i64 s),(13,.int .i64 x.1.2.1)],[(b9,true,.cells ⟨rowB (fun i=> x.1.2.2.any fun o=> o.canRead code i)⟩ 48 (0,0)),(b2,true,.cells ⟨k.val.cells.toList⟩ 27 (0,0))])) (fun x=> (k.r1+1-x.1.2.1).toNat) ?_ ⟨(Hs,k.r0,X₁),by simp only;omega,h3₁,h4₁.to fun s' r' n' _ h2 _ h3=> by simp only at h3;omega,h5₁⟩)
     rintro⟨⟨Hr,r,X₂⟩,h1₂,h3₂,h4₂,h5₂⟩ ih₂
     simp only at h1₂ h3₂ h4₂ h5₂
     show Tc (Mp Tryz.prog) St _ _ Hr _ [(2,.pointer (some ⟨b2,0,none⟩)),(5,.int .i64 (code:Nat)),(6,g0.val),(7,.int .i64 F0),(9,.pointer (some ⟨b9,0,none⟩)),(10,.bool (X₂.any fun o=> decide (o.refused code≠2))),(11,.bool (X₂.all fun o=> decide (o.refused code=1))),(12,.int .i64 s),(13,.int .i64 r)] [(b9,true,.cells ⟨rowB (fun i=> X₂.any fun o=> o.canRead code i)⟩ 48 (0,0)),(b2,true,.cells ⟨k.val.cells.toList⟩ 27 (0,0))] _ _
     by_cases hr1:r≤k.r1
     · have hr12 : k.r0≤r∧r≤k.r1:=⟨h1₂.1,hr1⟩
       refine .seq (.sr ?_)
       refine .m ?_
       refine .x .fa ?_
       refine .x .fa ?_
       refine .x (.ld 1) ?_
       refine .i ?_ (z:=leq_t (by omega))
       refine .done (.tt rfl (.skip (.seq (.block (.sr ?_)))))
       refine .x .fa ?_
       refine .x .fa ?_
       refine .x .fa ?_
       refine .x (.ld 1) ?_
       refine .g ?_
       refine .done (.block ?_)
       refine Tc.db (Tc.loopB (σ:= { x:View×Int×List Lk//(k.l0≤x.2.1∧x.2.1≤k.l1+1)∧Ones k x.2.2∧Covs k x.2.2 (fun s' r' n'=> s'<s∨s'=s∧r'<r∨s'=s∧r'=r∧n'<x.2.1)∧Hx.le x.1 })
         (fun x=> (x.1.1,[(2,.pointer (some ⟨b2,0,none⟩)),(5,.int .i64 (code:Nat)),(6,g0.val),(7,.int .i64 F0),(9,.pointer (some ⟨b9,0,none⟩)),(10,.bool (x.1.2.2.any fun o=> decide (o.refused code≠2))),(11,.bool (x.1.2.2.all fun o=> decide (o.refused code=1))),(12,.int .i64 s),(13,.int .i64 r),(14,.int .i64 x.1.2.1)],[(b9,true,.cells ⟨rowB (fun i=> x.1.2.2.any fun o=> o.canRead code i)⟩ 48 (0,0)),(b2,true,.cells ⟨k.val.cells.toList⟩ 27 (0,0))])) (fun x=> (k.l1+1-x.1.2.1).toNat) ?_ ⟨(Hr,k.l0,X₂),by simp only;omega,h3₂,h4₂.to fun s' r' n' _ _ h2 h3=> by simp only at h3;omega,h5₂⟩)
       rintro⟨⟨Hn,n,X⟩,hn1,h3,h4,h5'⟩ ih₃
       simp only at hn1 h3 h4 h5'
       have h5:=View.le_trans hle h5'
       have n1:=hn1.1
       show Tc (Mp Tryz.prog) St _ _ Hn _ [(2,.pointer (some ⟨b2,0,none⟩)),(5,.int .i64 (code:Nat)),(6,g0.val),(7,.int .i64 F0),(9,.pointer (some ⟨b9,0,none⟩)),(10,.bool (X.any fun o=> decide (o.refused code≠2))),(11,.bool (X.all fun o=> decide (o.refused code=1))),(12,.int .i64 s),(13,.int .i64 r),(14,.int .i64 n)] [(b9,true,.cells ⟨rowB (fun i=> X.any fun o=> o.canRead code i)⟩ 48 (0,0)),(b2,true,.cells ⟨k.val.cells.toList⟩ 27 (0,0))] _ _
       by_cases hnn:n≤k.l1
       · -- a single link
         refine .seq (.sr ?_)
         refine .m ?_
         refine .x .fa ?_
         refine .x .fa ?_
         refine .x .fa ?_
         refine .x (.ld 1) ?_
         refine .i ?_ (z:=leq_t (by omega))
         refine .done (.tt rfl (.skip (.seq (.block (.seq ?_)))))
         have hon:=h3.add hs12 hr12 ⟨n1,hnn⟩
         have hok:=Lk.ok_single hk hs12 hr12 ⟨n1,hnn⟩
         have hcv:Covs k (k.single s r n::X) (fun s' r' n'=> s'<s∨s'=s∧r'<r∨s'=s∧r'=r∧n'<n+1):=h4.add s r n fun s' r' n' _ _ _ h=> by omega
         obtain⟨o,ho⟩:∃o,k.single s r n=o:=⟨_,rfl⟩
         rw[ho] at hok hon hcv
         refine .r ?_
         refine .x (.ld 1) ?_
         refine .m ?_
         refine .m ?_
         refine .m ?_
         refine .c rfl rfl rfl rfl (fun H hs=> .f ca37 rfl (single_c _ H k s r n)) ?_
         rw[ho]
         refine .m ?_
         refine .e (Or.callNew (fun g:Gl 3 1=> .tuple ⟨[g.val,.int .i64 (o.refused code),.int .i64 0]⟩) Gl.bl (fun g:Gl 3 1=> g.l=keepTo (o.canRead code) 32) rfl rfl rfl rfl rfl (by decide) gl_nodup (fun H hs=> .f ca21 rfl (Reads_c _ H o code (glob_le hG (View.le_trans h5 hs.base)) hok hc)) (fun g hg=> ?_))
         refine .m ?_
         refine .x .et ?_
         refine .x .et ?_
         refine .x .et ?_
         refine .g ?_
         refine .g ?_
         refine .g ?_
         refine .done ?_
         have hgn:g.n=(keepI (o.canRead code) 32).length:=by have:=g.hl;rw[hg,keepI_eq,intsL_len] at this;omega
         obtain⟨F,hF⟩:∃F,o.refused code=F:=⟨_,rfl⟩
         have hF3:F=0∨F=1∨F=2:=hF▸Lk.refused_in
         rw[hF]
         refine .seq (.sr ?_)
         refine .m ?_
         refine .i ?_ (z:=neq_f (by omega))
         refine .m ?_
         refine .m ?_
         refine .c rfl rfl rfl rfl (fun H hs=> .f ca38 rfl (Ascending_k _ H _ (o.canRead code) 32 g.n g.cap (by decide) hgn (Nums.of (hg.trans (keepI_eq _ _)) (fun y hy=> hs.at_ y (by simp[hy]))).2)) ?_
         refine .i ?_ (z:=neq_f (by omega))
         refine .x .pk ?_
         refine .done (.ff rfl (.skip (.seq (.sr ?_))))
         refine .g ?_
         refine .done ?_
         obtain⟨y,hye⟩:∃y,keepI (o.canRead code) 32=y:=⟨_,rfl⟩
         have hyc:∀i,i<32→(o.canRead code i=true↔(i:Int)∈y):=fun i hi=> by rw[←hye,keepI_mem];exact⟨fun h=> ⟨hi,h⟩,fun h=> h.2⟩
         have hy:∀j,j<y.length→0≤at0 y j∧at0 y j<32:=fun j hj=> by
           rw[←hye] at hj ⊢
           have:=keepI_get hj
           unfold at0
           omega
         have hyl:y.length≤32:=by rw[←hye];exact keepI_len _ _
         have hgl:g.l=intsL y:=by rw[hg,keepI_eq,hye]
         rw[hye] at hgn
         -- what is found of this link
         refine Tc.via (fun R' L'=> ∃f,(∀i,i<32→f i=((o::X).any fun o=> o.canRead code i))∧AllIn [(2,.pointer (some ⟨b2,0,none⟩)),(5,.int .i64 (code:Nat)),(6,g0.val),(7,.int .i64 F0),(9,.pointer (some ⟨b9,0,none⟩)),(10,.bool (X.any fun o=> decide (o.refused code≠2))),(11,.bool (X.all fun o=> decide (o.refused code=1))),(12,.int .i64 s),(13,.int .i64 r),(14,.int .i64 n),(16,.int .i64 F)] R'∧L'= [(b9,true,.cells ⟨rowB f⟩ 48 (0,0)),(b2,true,.cells ⟨k.val.cells.toList⟩ 27 (0,0))]) ?_ (fun fin0=> ?_)
         · rintro R' _ ⟨f,hf,hRR,rfl⟩
           refine Tc.dropB ?_ hRR (List.Sublist.refl _)
           rw[rowB_congr hf]
           clear hRR hf
           refine Tc.via (fun R' L'=> AllIn [(2,.pointer (some ⟨b2,0,none⟩)),(5,.int .i64 (code:Nat)),(6,g0.val),(7,.int .i64 F0),(9,.pointer (some ⟨b9,0,none⟩)),(10,.bool ((o::X).any fun o=> decide (o.refused code≠2))),(11,.bool ((o::X).all fun o=> decide (o.refused code=1))),(12,.int .i64 s),(13,.int .i64 r),(14,.int .i64 n)] R'∧L'= [(b9,true,.cells ⟨rowB (fun i=> (o::X).any fun o=> o.canRead code i)⟩ 48 (0,0)),(b2,true,.cells ⟨k.val.cells.toList⟩ 27 (0,0))]) ?_ (fun fin1=> ?_)
           · rintro R' _ ⟨hRR,rfl⟩
             refine Tc.dropB ?_ hRR (List.Sublist.refl _)
             clear hRR
             refine .inBlock (.r ?_)
             refine .m ?_
             refine .i ?_ (z:=add_in (by omega) (by omega))
             refine .g ?_
             refine .done ?_
             exact Tc.db (ih₃ ⟨(Hn,n+1,o::X),by simp only;omega,hon,hcv,h5'⟩ (by simp only;omega))
           · have e10:((o::X).any fun o=> decide (o.refused code≠2))=(decide (F≠2)||X.any fun o=> decide (o.refused code≠2)):=by rw[List.any_cons,hF]
             have e11:((o::X).all fun o=> decide (o.refused code=1))=(decide (F=1)&&X.all fun o=> decide (o.refused code=1)):=by rw[List.all_cons,hF]
             rw[e10,e11] at fin1
             clear ih₁ ih₂ ih₃ e10 e11
             revert fin1
             generalize (X.any fun o=> decide (o.refused code≠2))=u1
             generalize (X.all fun o=> decide (o.refused code=1))=u2
             intro fin1
             have fin2:=fin1 [(2,.pointer (some ⟨b2,0,none⟩)),(5,.int .i64 (code:Nat)),(6,g0.val),(7,.int .i64 F0),(9,.pointer (some ⟨b9,0,none⟩)),(10,.bool (decide (F≠2)||u1)),(11,.bool (decide (F=1)&&u2)),(12,.int .i64 s),(13,.int .i64 r),(14,.int .i64 n)] [(b9,true,.cells ⟨rowB (fun i=> (o::X).any fun o=> o.canRead code i)⟩ 48 (0,0)),(b2,true,.cells ⟨k.val.cells.toList⟩ 27 (0,0))] ⟨⟨rfl,rfl,rfl,rfl,rfl,rfl,rfl,rfl,rfl,rfl,trivial⟩,rfl⟩
             clear fin1
             rcases hF3 with rfl|rfl|rfl
             all_goals cases u1
             all_goals cases u2
             all_goals
               refine .r ?_
               refine .m ?_
               refine .m ?_
               first|(refine .sk ?_)|(refine .m ?_)
               first|(refine .sk ?_)|((refine .x (.it (zz:=(by first|exact neq_t (by omega)|exact neq_f (by omega)))) ?_))
               refine .x .pk ?_
               refine .m ?_
               refine .m ?_
               first|(refine .sk ?_)|(refine .m ?_)
               first|(refine .sk ?_)|((refine .x (.it (zz:=(by first|exact eql_t (by omega)|exact eql_f (by omega)))) ?_))
               refine .x .pk ?_
               refine .g ?_
               refine .g ?_
               refine .done ?_
               exact Tc.db fin2
         · refine .block ?_
           by_cases hy0:y.length=0
           · have hyn:y= []:=List.eq_nil_of_length_eq_zero hy0
             have hgn0:g.n=0:=by omega
             have hv:g.val=.slice (g.blk.map fun b=> ⟨b,0,none⟩) 0 g.cap:=by unfold Gl.val;rw[hgn0]
             rw[hv]
             clear ih₁ ih₂ ih₃
             refine .loop (.seq (.sr ?_))
             refine .m ?_
             refine .m ?_
             refine .x .ln ?_
             refine .i ?_ (z:=lss_f (by omega))
             refine .done (.ff rfl (.exit rfl ?_))
             exact Tc.db (fin0 [(2,.pointer (some ⟨b2,0,none⟩)),(5,.int .i64 (code:Nat)),(6,g0.val),(7,.int .i64 F0),(9,.pointer (some ⟨b9,0,none⟩)),(10,.bool (X.any fun o=> decide (o.refused code≠2))),(11,.bool (X.all fun o=> decide (o.refused code=1))),(12,.int .i64 s),(13,.int .i64 r),(14,.int .i64 n),(16,.int .i64 F)] [(b9,true,.cells ⟨rowB (fun i=> X.any fun o=> o.canRead code i)⟩ 48 (0,0)),(b2,true,.cells ⟨k.val.cells.toList⟩ 27 (0,0))] ⟨(fun i=> X.any fun o=> o.canRead code i),fun i hi=> by
               have:o.canRead code i=false:=by
                 cases h:o.canRead code i with
                 | false=> rfl
                 | true=> have:=(hyc i hi).1 h;rw[hyn] at this;cases this
               rw[List.any_cons,this,Bool.false_or],⟨rfl,rfl,rfl,rfl,rfl,rfl,rfl,rfl,rfl,rfl,rfl,trivial⟩,rfl⟩)
           · obtain⟨yb,hyb⟩:=gl_some' g (by omega)
             have hbl:g.bl= [(yb,true,.cells ⟨intsL y++g.junk⟩ 3 (0,0))]:=by unfold Gl.bl;rw[hyb,hgl]
             have hgv:g.val=.slice (some ⟨yb,0,none⟩) y.length g.cap:=by unfold Gl.val;rw[hyb,hgn];rfl
             rw[hbl,hgv]
             obtain⟨yj,hyj⟩:∃yj,g.junk=yj:=⟨_,rfl⟩
             obtain⟨yc,hyc2⟩:∃yc,g.cap=yc:=⟨_,rfl⟩
             rw[hyj,hyc2]
             clear ih₁ ih₂ ih₃
             refine Tc.db (Tc.loopInv (σ:= { x:Nat×(Nat→Bool)//x.1≤y.length∧∀i,i<32→(x.2 i=true↔(X.any fun o=> o.canRead code i)=true∨(i:Int)∈y.take x.1) })
               (fun x=> ([(2,.pointer (some ⟨b2,0,none⟩)),(5,.int .i64 (code:Nat)),(6,g0.val),(7,.int .i64 F0),(9,.pointer (some ⟨b9,0,none⟩)),(10,.bool (X.any fun o=> decide (o.refused code≠2))),(11,.bool (X.all fun o=> decide (o.refused code=1))),(12,.int .i64 s),(13,.int .i64 r),(14,.int .i64 n),(15,.slice (some ⟨yb,0,none⟩) y.length yc),(16,.int .i64 F),(18,.int .i64 (x.1.1:Nat))],[(b9,true,.cells ⟨rowB x.1.2⟩ 48 (0,0)),(b2,true,.cells ⟨k.val.cells.toList⟩ 27 (0,0)),(yb,true,.cells ⟨intsL y++yj⟩ 3 (0,0))])) (fun x=> y.length-x.1.1) ?_ ⟨(0,(fun i=> X.any fun o=> o.canRead code i)),Nat.zero_le _,fun i _=> by simp⟩)
             rintro⟨⟨j,f⟩,q1,q2⟩ ihj
             simp only at q1 q2
             show Tc (Mp Tryz.prog) St _ _ Hn _ [(2,.pointer (some ⟨b2,0,none⟩)),(5,.int .i64 (code:Nat)),(6,g0.val),(7,.int .i64 F0),(9,.pointer (some ⟨b9,0,none⟩)),(10,.bool (X.any fun o=> decide (o.refused code≠2))),(11,.bool (X.all fun o=> decide (o.refused code=1))),(12,.int .i64 s),(13,.int .i64 r),(14,.int .i64 n),(15,.slice (some ⟨yb,0,none⟩) y.length yc),(16,.int .i64 F),(18,.int .i64 (j:Nat))] [(b9,true,.cells ⟨rowB f⟩ 48 (0,0)),(b2,true,.cells ⟨k.val.cells.toList⟩ 27 (0,0)),(yb,true,.cells ⟨intsL y++yj⟩ 3 (0,0))] _ _
             by_cases d1:j<y.length
             · clear fin0
               have k1:=cells_ld (m:=y) (j:=yj) (k:=(j:Nat)) (p:=j) rfl d1
               obtain⟨i0,hi0,hi32⟩:∃i0:Nat,at0 y j=(i0:Nat)∧i0<32:=by
                 have:=hy j d1
                 exact⟨(at0 y j).toNat,by omega,by omega⟩
               have k2:=rowB_st f (x:=at0 y j) hi0 hi32
               have k3:=rowB_le f (x:=at0 y j) hi0 hi32
               refine .seq (.sr ?_)
               refine .m ?_
               refine .m ?_
               refine .x .ln ?_
               refine .i ?_ (z:=lss_t (by omega))
               refine .done (.tt rfl (.skip (.seq (.block (.r ?_)))))
               refine .m ?_
               refine .m ?_
               refine .x .ia ?_
               refine .x (.ld 2) ?_
               refine .x .ib ?_
               refine .e (.st 0 (zz:=?_))
               refine .done (.inBlock (.r ?_))
               refine .m ?_
               refine .i ?_ (z:=add_in (by omega) (by omega))
               refine .g ?_
               refine .done ?_
               have q3:∀i,i<32→((f i||decide (i=i0))=true↔(X.any fun o=> o.canRead code i)=true∨(i:Int)∈y.take (j+1)):=fun i hi=> by
                 have hj:y[j]? =some ((i0:Nat):Int):=by
                   rw[←hi0]
                   unfold at0
                   rw[List.getElem?_eq_getElem d1]
                   rfl
                 rw[Bool.or_eq_true,q2 i hi,List.take_add_one,hj,Option.toList_some,List.mem_append,List.mem_singleton,decide_eq_true_iff,or_assoc]
                 have:i=i0↔((i:Nat):Int)=((i0:Nat):Int):=by omega
                 rw[this]
               exact Tc.db (ihj ⟨(j+1,fun i=> f i||decide (i=i0)),d1,q3⟩ (by simp only;omega))
             · have e1:j=y.length:=by omega
               subst e1
               rw[List.take_length] at q2
               refine .seq (.sr ?_)
               refine .m ?_
               refine .m ?_
               refine .x .ln ?_
               refine .i ?_ (z:=lss_f (by omega))
               refine .done (.ff rfl (.exit rfl ?_))
               exact Tc.db (fin0 [(2,.pointer (some ⟨b2,0,none⟩)),(5,.int .i64 (code:Nat)),(6,g0.val),(7,.int .i64 F0),(9,.pointer (some ⟨b9,0,none⟩)),(10,.bool (X.any fun o=> decide (o.refused code≠2))),(11,.bool (X.all fun o=> decide (o.refused code=1))),(12,.int .i64 s),(13,.int .i64 r),(14,.int .i64 n),(16,.int .i64 F)] [(b9,true,.cells ⟨rowB f⟩ 48 (0,0)),(b2,true,.cells ⟨k.val.cells.toList⟩ 27 (0,0))] ⟨f,fun i hi=> by rw[Bool.eq_iff_iff,q2 i hi,List.any_cons,Bool.or_eq_true,hyc i hi];exact Or.comm,⟨rfl,rfl,rfl,rfl,rfl,rfl,rfl,rfl,rfl,rfl,rfl,trivial⟩,rfl⟩)
       · clear ih₁
         refine .seq (.sr ?_)
         refine .m ?_
         refine .x .fa ?_
         refine .x .fa ?_
         refine .x .fa ?_
         refine .x (.ld 1) ?_
         refine .i ?_ (z:=leq_f (by omega))
         refine .done (.ff rfl (.exit rfl (.inBlock (.r ?_))))
         refine .m ?_
         refine .i ?_ (z:=add_in (by omega) (by omega))
         refine .g ?_
         refine .done ?_
         exact Tc.db (ih₂ ⟨(Hn,r+1,X),by simp only;omega,h3,h4.to fun s' r' n' _ _ h h'=> by simp only at h';omega,h5'⟩ (by simp only;omega))
     · refine .seq (.sr ?_)
       refine .m ?_
       refine .x .fa ?_
       refine .x .fa ?_
       refine .x (.ld 1) ?_
       refine .i ?_ (z:=leq_f (by omega))
       refine .done (.ff rfl (.exit rfl (.inBlock (.r ?_))))
       refine .m ?_
       refine .i ?_ (z:=add_in (by omega) (by omega))
       refine .g ?_
       refine .done ?_
       exact Tc.db (ih₁ ⟨(Hr,s+1,X₂),by simp only;omega,h3₂,h4₂.to fun s' r' n' _ h _ h'=> by simp only at h';omega,h5₂⟩ (by simp only;omega))
   · have hcv:Covs k X₁ fun _ _ _=> True:=h4₁.to fun s' r' n' h _ _ _=> by omega
     have hGs:=glob_le hG (View.le_trans hle h5₁)
     have N0s:=N0.le h5₁
     clear ih₁
     rw[parts_some hk hc h3₁ hcv,parts_every hk hc h3₁ hcv,rowB_congr (fun i _=> parts_read hk hc h3₁ hcv i),hF0]
     refine .seq (.sr ?_)
     refine .m ?_
     refine .x .fa ?_
     refine .x .fa ?_
     refine .x (.ld 1) ?_
     refine .i ?_ (z:=leq_f (by omega))
     refine .done (.ff rfl (.exit rfl (.seq (.sr ?_))))
     refine .g ?_
     refine .done (.block ?_)
     refine Tc.db (Tc.loopInv (σ:= { j:Nat//j≤32 }) (fun j=> ([(2,.pointer (some ⟨b2,0,none⟩)),(5,.int .i64 (code:Nat)),(6,g0.val),(7,.int .i64 F0),(9,.pointer (some ⟨b9,0,none⟩)),(10,.bool (decide (F0≠2))),(11,.bool (decide (F0=1))),(19,.int .i64 (j.1:Nat))],[(b9,true,.cells ⟨rowB (k.canRead code)⟩ 48 (0,0)),(b2,true,.cells ⟨k.val.cells.toList⟩ 27 (0,0))])) (fun j=> 32-j.1) ?_ ⟨0,by decide⟩)
     rintro⟨j,hj⟩ ih
     show Tc (Mp Tryz.prog) St _ _ Hs _ [(2,.pointer (some ⟨b2,0,none⟩)),(5,.int .i64 (code:Nat)),(6,g0.val),(7,.int .i64 F0),(9,.pointer (some ⟨b9,0,none⟩)),(10,.bool (decide (F0≠2))),(11,.bool (decide (F0=1))),(19,.int .i64 (j:Nat))] [(b9,true,.cells ⟨rowB (k.canRead code)⟩ 48 (0,0)),(b2,true,.cells ⟨k.val.cells.toList⟩ 27 (0,0))] _ _
     by_cases d1:j<32
     · have f1:=rowB_ld (k.canRead code) d1
       have hH:∀b,k.canRead code j=b→∀H',Hs.le H'→CallT (Mp Tryz.prog) 39 #[g0.val,.int .i64 (j:Nat)] H' (fun v H''=> H'.le H''∧v=.bool b):=fun b hb H' h=>
         CallT.mono (HasNum_c _ H' _ (keepI (k.canRead code) 32) g0.n g0.cap (j:Nat) n0 (by omega) (N0s.le h)) (by
           rintro v H'' ⟨h1,h2⟩
           have:decide (((j:Nat):Int)∈keepI (k.canRead code) 32)=b:=by
             rw[Bool.eq_iff_iff,decide_eq_true_iff,←hb]
             exact keepI_mem.trans ⟨fun h=> h.2,fun h=> ⟨d1,h⟩⟩
           rw[this] at h2
           exact⟨h1,h2⟩)
       cases hb:k.canRead code j with
       | false=>
         rw[hb] at f1
         refine .seq (.sr ?_)
         refine .m ?_
         refine .i ?_ (z:=leq_t (by omega))
         refine .done (.tt rfl (.skip (.seq (.block (.seq ?_)))))
         refine Tc.dr [] [] mixed rfl ?_
         refine .q 0 rfl .mv ?_
         refine .q 1 rfl .ib ?_
         refine .q 2 rfl (.ld 0) ?_
         refine .q 3 rfl .mv ?_
         refine .q 4 rfl .mv ?_
         refine .z 5 rfl (OpV.takeCall rfl rfl rfl rfl (fun H hs=> .f ca39 rfl (hH false hb H hs.base))) ?_
         refine .q 6 rfl .nb ?_
         refine Ta.done (by kernel_rfl) ?_
         refine .ff rfl (.skip (.inBlock (.r ?_)))
         refine .m ?_
         refine .i ?_ (z:=add_in (by omega) (by omega))
         refine .g ?_
         refine .done ?_
         exact Tc.db (ih ⟨j+1,d1⟩ (by simp only;omega))
       | true=>
         rw[hb] at f1
         refine .seq (.sr ?_)
         refine .m ?_
         refine .i ?_ (z:=leq_t (by omega))
         refine .done (.tt rfl (.skip (.seq (.block (.seq ?_)))))
         refine Tc.dr [] [] mixed rfl ?_
         refine .q 0 rfl .mv ?_
         refine .q 1 rfl .ib ?_
         refine .q 2 rfl (.ld 0) ?_
         refine .q 3 rfl .mv ?_
         refine .q 4 rfl .mv ?_
         refine .z 5 rfl (OpV.takeCall rfl rfl rfl rfl (fun H hs=> .f ca39 rfl (hH true hb H hs.base))) ?_
         refine .q 6 rfl .nb ?_
         refine Ta.done (by kernel_rfl) ?_
         refine .ff rfl (.skip (.inBlock (.r ?_)))
         refine .m ?_
         refine .i ?_ (z:=add_in (by omega) (by omega))
         refine .g ?_
         refine .done ?_
         exact Tc.db (ih ⟨j+1,d1⟩ (by simp only;omega))
     · have hF3:F0=0∨F0=1∨F0=2:=hF0▸Lk.refused_in
       clear ih hF0
       refine .seq (.sr ?_)
       refine .m ?_
       refine .i ?_ (z:=leq_f (by omega))
       refine .done (.ff rfl (.exit rfl (.seq ?_)))
       rcases hF3 with rfl|rfl|rfl
       · rw[show decide ((0:Int)≠2)=true from rfl,show decide ((0:Int)=1)=false from rfl]
         refine .r ?_
         refine .m ?_
         refine .i ?_ (z:=eql_f (by omega))
         refine .m ?_
         refine .x .eb ?_
         refine .m ?_
         refine .m ?_
         refine .i ?_ (z:=eql_f (by omega))
         refine .m ?_
         refine .x .nt ?_
         refine .x .eb ?_
         refine .x .pk ?_
         refine .m ?_
         refine .c rfl rfl rfl rfl (fun H hs=> .f ca31 rfl (signalled_c H (glob_le hGs hs.base))) ?_
         refine .x .pk ?_
         refine .g ?_
         refine .done ?_
         exact hR _ _ _ _ rfl (View.le_trans hle h5₁)
       · rw[show decide ((1:Int)≠2)=true from rfl,show decide ((1:Int)=1)=true from rfl]
         refine .r ?_
         refine .m ?_
         refine .i ?_ (z:=eql_t (by omega))
         refine .m ?_
         refine .x .eb ?_
         refine .m ?_
         refine .m ?_
         refine .i ?_ (z:=eql_f (by omega))
         refine .m ?_
         refine .x .nt ?_
         refine .x .eb ?_
         refine .x .pk ?_
         refine .m ?_
         refine .c rfl rfl rfl rfl (fun H hs=> .f ca31 rfl (signalled_c H (glob_le hGs hs.base))) ?_
         refine .x .pk ?_
         refine .g ?_
         refine .done ?_
         exact hR _ _ _ _ rfl (View.le_trans hle h5₁)
       · rw[show decide ((2:Int)≠2)=false from rfl,show decide ((2:Int)=1)=false from rfl]
         refine .r ?_
         refine .m ?_
         refine .i ?_ (z:=eql_f (by omega))
         refine .m ?_
         refine .x .eb ?_
         refine .m ?_
         refine .m ?_
         refine .i ?_ (z:=eql_t (by omega))
         refine .m ?_
         refine .x .nt ?_
         refine .x .eb ?_
         refine .x .pk ?_
         refine .m ?_
         refine .c rfl rfl rfl rfl (fun H hs=> .f ca31 rfl (signalled_c H (glob_le hGs hs.base))) ?_
         refine .x .pk ?_
         refine .g ?_
         refine .done ?_
         exact hR _ _ _ _ rfl (View.le_trans hle h5₁)
end Go.Proofs.YtpdaenfglbgfkaaGreatDoor
