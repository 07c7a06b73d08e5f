/-
  A line that moves all edges by the same more changes nothing but when they are seen: the walk.
-/
import Derived.Test.YtpdaenfglbgfkaaGreatDoorX09
import Derived.Test.YtpdaenfglbgfkaaGreatDoorXK5
import Derived.Test.YtpdaenfglbgfkaaGreatDoorXI5
namespace Go.Proofs.YtpdaenfglbgfkaaGreatDoor
open Go.RL
set_option maxRecDepth 10000
set_option maxHeartbeats 16000000
theorem row90:RowOk Tryz.prog 90 ⟨false,1,1,.int .i8 (0),[],none,.int .i8⟩:=by constructor <;> kernel_rfl
def tys90:List (Nat×TyRow):= [(90,⟨false,1,1,.int .i8 (0),[],none,.int .i8⟩),(3,⟨false,1,8,.int .i64 (0),[],none,.int .i64⟩)]
theorem tys90_ok:AllOk Tryz.prog tys90:=⟨row90,row3,trivial⟩
def en90:Env Tryz.prog:=Env.of tys90 tys90_ok
theorem Shifted_w {St:View→Goroutine→Prop}{cs:List Frame}(H:View)(hG:Glob H)(k:Lk)(p q:Int)(hp:0≤p∧p<256)(hq: -128≤q∧q<128)(A:Option Addr)(l:List Int)(n ca:Nat)(hn:n=l.length)(hA:Picks H A l)
   (hR:∀(H₀:View) (R:Rg) (L:Bl) (kk:List Item),lk R 8=some (.bool true)→H.le H₀→Tc (Mp Tryz.prog) St 151 ⟨13,.normal,none⟩ H₀ cs R L [] (.code .ret::kk)):
   Tc (Mp Tryz.prog) St 151 ⟨13,.normal,none⟩ H cs (argR [k.val,.int .u8 p,.int .i8 q,.slice A n ca]) [] [] [.code (bodyOf Tryz.f13)]:=by
 obtain⟨code,hcode⟩:∃c:Nat,p%32=(c:Int):=⟨(p%32).toNat,by omega⟩
 have hc:code<32:=by omega
 have hw1:IntKind.i64.wrap p=p:=wrap64 (by omega) (by omega)
 have hw2:IntKind.i64.wrap q=q:=wrap64 (by omega) (by omega)
 have hr1:intBin .rem .i64 p 32=some (.int .i64 (code:Nat)):=by rw[rem_in (by omega) (by omega),hcode]
 obtain⟨z0,hz0⟩:∃z,intBin .add .i64 k.m0 q=some (.int .i64 z):=⟨_,rfl⟩
 obtain⟨z1,hz1⟩:∃z,intBin .add .i64 k.m1 q=some (.int .i64 z):=⟨_,rfl⟩
 obtain⟨k2,ek2⟩:∃k2:Lk,(⟨k.s0,k.s1,k.r0,k.r1,k.l0,k.l1,z0,z1⟩:Lk)=k2:=⟨_,rfl⟩
 refine .sr ?_
 refine .e (.bx (zz:=fun b4=> ?_))
 refine .g ?_
 refine .done (.seq ?_)
 refine Tc.dr [8] [] mixed rfl ?_
 refine .q 0 rfl .mv ?_
 refine .q 1 rfl .cv ?_
 refine .q 2 rfl (.it (zz:=(by assumption))) ?_
 refine .q 3 rfl (.ld 0) ?_
 refine Ta.tkw 4 (by kernel_rfl) rfl rfl rfl (by decide) rfl rfl (OpV.take .mv) ?_
 refine Ta.tkw 5 (by kernel_rfl) rfl rfl rfl (by decide) rfl rfl (OpV.take (OpV.convE (E:=en90) rfl rfl rfl rfl rfl rfl (by assumption))) ?_
 refine Ta.each [6] (by kernel_rfl) rfl ⟨TaOp.mk rfl rfl rfl (.al (zz:=fun b10=> ⟨S2.mk (by apply List.Sublist.cons;exact List.Sublist.refl _) (.inr (by apply List.Sublist.cons;exact List.Sublist.refl _)),?_⟩)),trivial⟩
 refine .q 7 rfl .sg ?_
 refine Ta.each [8] (by kernel_rfl) rfl ⟨TaOp.mk rfl rfl rfl (.st 0 (zz:=⟨S2.mk (by apply List.Sublist.cons;exact List.Sublist.refl _) (.inl (by kernel_rfl)),?_⟩)),trivial⟩
 refine Ta.tkw 9 (by kernel_rfl) rfl rfl rfl (by decide) rfl rfl (OpV.take .sg) ?_
 refine Ta.done (by kernel_rfl) ?_
 refine .sr ?_
 refine .x .fa ?_
 refine .x .fa ?_
 refine .x .fa ?_
 refine .x (.ld 1) ?_
 refine .m ?_
 refine .i ?_ (z:=hz0)
 refine .x .fa ?_
 refine .x .fa ?_
 refine .x .fa ?_
 refine .x (.ld 1) ?_
 refine .m ?_
 refine .i ?_ (z:=hz1)
 refine .c rfl rfl rfl rfl (fun H hs=> .f ca40 rfl (to_c _ H z0 z1)) ?_
 refine .x .fa ?_
 refine .x .fa ?_
 refine .e (.st 0 (zz:=?_))
 refine .done ?_
 refine Tc.db (R':= [(3,.slice A n ca),(4,.pointer (some ⟨b4,0,none⟩)),(9,.int .i64 (code:Nat)),(10,.pointer (some ⟨b10,0,none⟩))]) (L':= [(b10,true,.cells ⟨(⟨k.s0,k.s1,k.r0,k.r1,k.l0,k.l1,z0,z1⟩:Lk).val.cells.toList⟩ 27 (0,0)),(b4,true,.cells ⟨k.val.cells.toList⟩ 27 (0,0))]) ?_
 rw[ek2]
 refine .seq (.seq ?_)
 cases hk:k.ok with
 | false=>
   refine .r ?_
   refine .x (.ld 1) ?_
   refine .c rfl rfl rfl rfl (fun H hs=> .f ca36 rfl (CallT.is (.bool false) (by rewrite [hk];rfl) (Fit_c _ H k))) ?_
   refine .x .nt ?_
   refine .m ?_
   refine .sk ?_
   refine .sk ?_
   refine .sk ?_
   refine .x .pk ?_
   refine .done (.tt rfl (.sr ?_))
   refine .c rfl rfl rfl rfl (fun H hs=> .f ca31 rfl (signalled_c H (glob_le hG hs.base))) ?_
   refine .g ?_
   refine .done ?_
   exact hR _ _ _ _ rfl (View.le_refl _)
 | true=>
   cases hk2:k2.ok with
   | false=>
     refine .r ?_
     refine .x (.ld 1) ?_
     refine .c rfl rfl rfl rfl (fun H hs=> .f ca36 rfl (CallT.is (.bool true) (by rewrite [hk];rfl) (Fit_c _ H k))) ?_
     refine .x .nt ?_
     refine .m ?_
     refine .x (.ld 0) ?_
     refine .c rfl rfl rfl rfl (fun H hs=> .f ca36 rfl (CallT.is (.bool false) (by rewrite [hk2];rfl) (Fit_c _ H k2))) ?_
     refine .x .nt ?_
     refine .x .pk ?_
     refine .done (.tt rfl (.sr ?_))
     refine .c rfl rfl rfl rfl (fun H hs=> .f ca31 rfl (signalled_c H (glob_le hG hs.base))) ?_
     refine .g ?_
     refine .done ?_
     exact hR _ _ _ _ rfl (View.le_refl _)
   | true=>
     obtain⟨hks,hkr,hkl,hkm⟩:=Lk.ok_in hk
     have e0:z0=k.m0+q:=by
       rw[add_in (by omega) (by omega)] at hz0
       cases hz0
       rfl
     have e1:z1=k.m1+q:=by
       rw[add_in (by omega) (by omega)] at hz1
       cases hz1
       rfl
     have esh:k.shift q=k2:=by rw[←ek2,e0,e1];rfl
     have hcr:k2.canRead code=k.canRead code:=by rw[←esh];exact Lk.canRead_shift hkr.1 q hc
     have hrf:k2.refused code=k.refused code:=by rw[←esh];exact Lk.refused_shift hkr.1 q hc
     have hgd:k2.good=k.good:=by rw[←esh];exact Lk.good_shift k q
     have hP:=Lk.past_of hk code l
     obtain⟨hp0,hp6,_⟩:=places_in code hc
     have hps:=places_six code hc
     obtain⟨s,hs⟩:∃s,k.pSend l=s:=⟨_,rfl⟩
     obtain⟨r,hr⟩:∃s,k.pRead l=s:=⟨_,rfl⟩
     obtain⟨e,he⟩:∃s,k.pLean l=s:=⟨_,rfl⟩
     obtain⟨mv,hmv⟩:∃s,k.pMoves l (placesTo code 7).length=s:=⟨_,rfl⟩
     have hpast:∀H',H.le H'→CallT (Mp Tryz.prog) 73 #[k.val,.int .i64 code,.slice A n ca] H' (fun v H''=> H'.le H''∧∃g:Gl 3 1,v=pastV s r e g∧g.l=intsL mv∧∀x∈g.bl,H'' x.1=some x.2∧H' x.1=none):=fun H' h=> by
       rw[←hs,←hr,←he,←hmv]
       exact Past_c _ H' k hk code hc A l n ca hn (hA.le h)
     rw[hs,hr,he,hmv] at hP
     obtain⟨t,hsl⟩:∃w,seenL (placesTo code 7) mv s e=w:=⟨_,rfl⟩
     have htl:t.length=(placesTo code 7).length:=by rw[←hsl,seenL_len]
     have htb:∀x∈t, -21≤x∧x≤501:=by rw[←hsl];exact seenL_in hk hc hP
     have hne:t≠ []:=by
       intro e0
       rw[e0] at htl
       simp at htl
       omega
     have hTold:Told t:=⟨by omega,hne,fun x hx=> by have:=htb x hx;omega⟩
     have hst:keepI (k2.sentOf t) 32=keepI (k.sentOf t) 32:=keepI_congr fun c h=> by rw[←esh];exact Lk.sentOf_shift k q t c h
     clear hz0 hz1 ek2 esh
     refine .r ?_
     refine .x (.ld 1) ?_
     refine .c rfl rfl rfl rfl (fun H hs=> .f ca36 rfl (CallT.is (.bool true) (by rewrite [hk];rfl) (Fit_c _ H k))) ?_
     refine .x .nt ?_
     refine .m ?_
     refine .x (.ld 0) ?_
     refine .c rfl rfl rfl rfl (fun H hs=> .f ca36 rfl (CallT.is (.bool true) (by rewrite [hk2];rfl) (Fit_c _ H k2))) ?_
     refine .x .nt ?_
     refine .x .pk ?_
     refine .done (.ff rfl (.skip (.seq ?_)))
     refine Tc.dr [] [] mixed rfl ?_
     refine .q 0 rfl (.ld 1) ?_
     refine .q 1 rfl .mv ?_
     refine .q 2 rfl (.ld 1) ?_
     refine .q 3 rfl .mv ?_
     refine .q 4 rfl .mv ?_
     refine Ta.each [5] (by kernel_rfl) rfl ⟨TaOp.mk rfl rfl rfl (Or.callNew (fun g:Gl 3 1=> pastV s r e g) Gl.bl (fun g:Gl 3 1=> g.l=intsL mv) rfl rfl rfl rfl rfl (by decide) gl_nodup (fun H hs=> .f ca73 rfl (hpast H hs.base)) (fun g hg=> ⟨S2.mk (by exact List.sublist_append_left _ _) (.inr (by exact List.sublist_append_left _ _)),?_⟩)),trivial⟩
     refine Ta.each [6] (by kernel_rfl) rfl ⟨TaOp.mk rfl rfl rfl (Or.callNew (fun g:Gl 3 1=> .tuple ⟨[g.val,.int .i64 0]⟩) Gl.bl (fun g:Gl 3 1=> g.l=intsL (seenL (placesTo code 7) mv s e)) rfl rfl rfl rfl rfl (by decide) gl_nodup (fun H hs=> .f ca72 rfl (Seen_c _ H k (glob_le hG hs.base) hk code hc s r e mv hP _ g.n g.cap (by rw[←hP.len];exact(Nums.of hg (fun y hy=> hs.at_ y (by simp[hy]))).1) (Nums.of hg (fun y hy=> hs.at_ y (by simp[hy]))).2)) (fun gt hgt=> ⟨S2.mk (by exact List.sublist_append_left _ _) (.inr (by exact List.sublist_append_left _ _)),?_⟩)),trivial⟩
     refine .q 7 rfl .mv ?_
     refine .q 8 rfl .et ?_
     refine .q 9 rfl .et ?_
     refine .q 10 rfl .sg ?_
     refine .q 11 rfl .sg ?_
     refine Ta.done (by kernel_rfl) ?_
     rw[hsl] at hgt
     refine Tc.lift (L₂:= [(b10,true,.cells ⟨k2.val.cells.toList⟩ 27 (0,0)),(b4,true,.cells ⟨k.val.cells.toList⟩ 27 (0,0))]++g.bl) (L₁:=gt.bl) rfl (fun Hw hw=> ?_)
     have hGw:=glob_le hG hw.base
     have hlew:=hw.base
     obtain⟨n0,_⟩:=Nums.of (H:=Hw) hgt (fun y hy=> hw.at_ y hy)
     have hT:=TimesAt.of_gl (H:=Hw) hgt hne (fun y hy=> hw.at_ y hy)
     clear hw
     refine Tc.db (R':= [(4,.pointer (some ⟨b4,0,none⟩)),(9,.int .i64 (code:Nat)),(10,.pointer (some ⟨b10,0,none⟩)),(12,gt.val),(13,.int .i64 0)]) (L':= [(b10,true,.cells ⟨k2.val.cells.toList⟩ 27 (0,0)),(b4,true,.cells ⟨k.val.cells.toList⟩ 27 (0,0))]) ?_
     refine .sr ?_
     refine .x (.ld 1) ?_
     refine .m ?_
     refine .e (Or.callNew (fun g:Gl 3 1=> .tuple ⟨[g.val,.int .i64 (k.refused code),.int .i64 0]⟩) Gl.bl (fun g:Gl 3 1=> g.l=keepTo (k.canRead code) 32) rfl rfl rfl rfl rfl (by decide) gl_nodup (fun H hs=> .f ca21 rfl (Reads_c _ H k code (glob_le hGw hs.base) hk hc)) (fun g1 hg1=> ?_))
     refine .m ?_
     refine .x .et ?_
     refine .x .et ?_
     refine .x .et ?_
     refine .g ?_
     refine .g ?_
     refine .g ?_
     refine .done ?_
     refine Tc.lift (L₂:= [(b10,true,.cells ⟨k2.val.cells.toList⟩ 27 (0,0)),(b4,true,.cells ⟨k.val.cells.toList⟩ 27 (0,0))]) (L₁:=g1.bl) rfl (fun Hx hx=> ?_)
     have hGx:=glob_le hGw hx.base
     have hle:=View.le_trans hlew hx.base
     have hTx:=hT.le hx.base
     obtain⟨n1,N1⟩:=Nums.of (H:=Hx) (hg1.trans (keepI_eq _ _)) (fun y hy=> hx.at_ y hy)
     clear hx
     refine .sr ?_
     refine .x (.ld 0) ?_
     refine .m ?_
     refine .e (Or.callNew (fun g:Gl 3 1=> .tuple ⟨[g.val,.int .i64 (k2.refused code),.int .i64 0]⟩) Gl.bl (fun g:Gl 3 1=> g.l=keepTo (k2.canRead code) 32) rfl rfl rfl rfl rfl (by decide) gl_nodup (fun H hs=> .f ca21 rfl (Reads_c _ H k2 code (glob_le hGx hs.base) hk2 hc)) (fun g2 hg2=> ?_))
     refine .m ?_
     refine .x .et ?_
     refine .x .et ?_
     refine .x .et ?_
     refine .g ?_
     refine .g ?_
     refine .g ?_
     refine .done ?_
     refine Tc.lift (L₂:= [(b10,true,.cells ⟨k2.val.cells.toList⟩ 27 (0,0)),(b4,true,.cells ⟨k.val.cells.toList⟩ 27 (0,0))]) (L₁:=g2.bl) rfl (fun Hy hy=> ?_)
     have hGy:=glob_le hGx hy.base
     have hle2:=View.le_trans hle hy.base
     have hTy:=hTx.le hy.base
     have N1y:=N1.le hy.base
     obtain⟨n2,N2⟩:=Nums.of (H:=Hy) (hg2.trans (keepI_eq _ _)) (fun y hy'=> hy.at_ y hy')
     rw[hcr] at n2 N2
     clear hy
     rw[hrf]
     obtain⟨F,hF⟩:∃F,k.refused code=F:=⟨_,rfl⟩
     rw[hF]
     refine .sr ?_
     refine .x (.ld 1) ?_
     refine .e (Or.callNew (fun g:Gl 3 1=> .tuple ⟨[g.val,.int .i64 0]⟩) Gl.bl (fun g:Gl 3 1=> g.l=keepTo k.good 41) rfl rfl rfl rfl rfl (by decide) gl_nodup (fun H hs=> .f ca34 rfl (Paces_c _ H k (glob_le hGy hs.base) hk)) (fun g3 hg3=> ?_))
     refine .m ?_
     refine .x .et ?_
     refine .x .et ?_
     refine .g ?_
     refine .g ?_
     refine .done ?_
     refine Tc.lift (L₂:= [(b10,true,.cells ⟨k2.val.cells.toList⟩ 27 (0,0)),(b4,true,.cells ⟨k.val.cells.toList⟩ 27 (0,0))]) (L₁:=g3.bl) rfl (fun Hz hz=> ?_)
     have hGz:=glob_le hGy hz.base
     have hle3:=View.le_trans hle2 hz.base
     have hTz:=hTy.le hz.base
     have N1z:=N1y.le hz.base
     have N2z:=N2.le hz.base
     obtain⟨n3,N3⟩:=Nums.of (H:=Hz) (hg3.trans (keepI_eq _ _)) (fun y hy'=> hz.at_ y hy')
     clear hz
     refine .sr ?_
     refine .x (.ld 0) ?_
     refine .e (Or.callNew (fun g:Gl 3 1=> .tuple ⟨[g.val,.int .i64 0]⟩) Gl.bl (fun g:Gl 3 1=> g.l=keepTo k2.good 41) rfl rfl rfl rfl rfl (by decide) gl_nodup (fun H hs=> .f ca34 rfl (Paces_c _ H k2 (glob_le hGz hs.base) hk2)) (fun g4 hg4=> ?_))
     refine .m ?_
     refine .x .et ?_
     refine .x .et ?_
     refine .g ?_
     refine .g ?_
     refine .done ?_
     refine Tc.lift (L₂:= [(b10,true,.cells ⟨k2.val.cells.toList⟩ 27 (0,0)),(b4,true,.cells ⟨k.val.cells.toList⟩ 27 (0,0))]) (L₁:=g4.bl) rfl (fun Hv hv=> ?_)
     have hGv:=glob_le hGz hv.base
     have hle4:=View.le_trans hle3 hv.base
     have hTv:=hTz.le hv.base
     have N1v:=N1z.le hv.base
     have N2v:=N2z.le hv.base
     have N3v:=N3.le hv.base
     obtain⟨n4,N4⟩:=Nums.of (H:=Hv) (hg4.trans (keepI_eq _ _)) (fun y hy'=> hv.at_ y hy')
     rw[hgd] at n4 N4
     clear hv
     have l1:=keepI_len (k.canRead code) 32
     have l3:=keepI_len k.good 41
     have q1:g2.n=g1.n:=by omega
     have q2:g4.n=g3.n:=by omega
     have hsm1:∀H',Hv.le H'→CallT (Mp Tryz.prog) 23 #[g1.val,g2.val] H' (fun v H''=> H'.le H''∧v=.bool true):=fun H' h=> by
       unfold Gl.val
       rw[q1]
       exact SameNums_same _ H' _ _ (keepI (k.canRead code) 32) g1.n g1.cap g2.cap n1 (by omega) (N1v.le h) (N2v.le h)
     have hsm2:∀H',Hv.le H'→CallT (Mp Tryz.prog) 23 #[g3.val,g4.val] H' (fun v H''=> H'.le H''∧v=.bool true):=fun H' h=> by
       unfold Gl.val
       rw[q2]
       exact SameNums_same _ H' _ _ (keepI k.good 41) g3.n g3.cap g4.cap n3 (by omega) (N3v.le h) (N4.le h)
     refine Tc.db (R':= [(4,.pointer (some ⟨b4,0,none⟩)),(10,.pointer (some ⟨b10,0,none⟩)),(12,gt.val),(13,.int .i64 0),(14,g1.val),(15,.int .i64 F),(16,.int .i64 0),(17,g2.val),(18,.int .i64 F),(19,.int .i64 0),(20,g3.val),(21,.int .i64 0),(22,g4.val),(23,.int .i64 0)]) (L':= [(b10,true,.cells ⟨k2.val.cells.toList⟩ 27 (0,0)),(b4,true,.cells ⟨k.val.cells.toList⟩ 27 (0,0))]) ?_
     refine .seq (.sr ?_)
     refine .m ?_
     refine .i ?_ (z:=neq_f (by omega))
     refine .m ?_
     refine .m ?_
     refine .i ?_ (z:=neq_f (by omega))
     refine .x .pk ?_
     refine .m ?_
     refine .m ?_
     refine .i ?_ (z:=neq_f (by omega))
     refine .x .pk ?_
     refine .m ?_
     refine .m ?_
     refine .i ?_ (z:=neq_f (by omega))
     refine .x .pk ?_
     refine .m ?_
     refine .m ?_
     refine .i ?_ (z:=neq_f (by omega))
     refine .x .pk ?_
     refine .m ?_
     refine .m ?_
     refine .m ?_
     refine .c rfl rfl rfl rfl (fun H hs=> .f ca23 rfl (hsm1 H hs.base)) ?_
     refine .x .nt ?_
     refine .x .pk ?_
     refine .m ?_
     refine .m ?_
     refine .m ?_
     refine .i ?_ (z:=neq_f (by omega))
     refine .x .pk ?_
     refine .m ?_
     refine .m ?_
     refine .m ?_
     refine .c rfl rfl rfl rfl (fun H hs=> .f ca23 rfl (hsm2 H hs.base)) ?_
     refine .x .nt ?_
     refine .x .pk ?_
     refine .done ?_
     refine Tc.db (R':= [(4,.pointer (some ⟨b4,0,none⟩)),(10,.pointer (some ⟨b10,0,none⟩)),(12,gt.val),(124,.bool false)]) (L':= [(b10,true,.cells ⟨k2.val.cells.toList⟩ 27 (0,0)),(b4,true,.cells ⟨k.val.cells.toList⟩ 27 (0,0))]) ?_
     refine .ff rfl (.skip (.sr ?_))
     refine .x (.ld 1) ?_
     refine .m ?_
     refine .e (Or.callNew (fun g:Gl 3 1=> .tuple ⟨[g.val,.int .i64 0]⟩) Gl.bl (fun g:Gl 3 1=> g.l=keepTo (k.sentOf t) 32) rfl rfl rfl rfl rfl (by decide) gl_nodup (fun H hs=> .f ca46 rfl (Sent_c _ H k (glob_le hGv hs.base) hk t hTold (by omega) _ gt.n gt.cap n0 (hTv.le hs.base))) (fun g5 hg5=> ?_))
     refine .m ?_
     refine .x .et ?_
     refine .x .et ?_
     refine .g ?_
     refine .g ?_
     refine .done ?_
     refine Tc.lift (L₂:= [(b10,true,.cells ⟨k2.val.cells.toList⟩ 27 (0,0)),(b4,true,.cells ⟨k.val.cells.toList⟩ 27 (0,0))]) (L₁:=g5.bl) rfl (fun Hu hu=> ?_)
     have hGu:=glob_le hGv hu.base
     have hle5:=View.le_trans hle4 hu.base
     have hTu:=hTv.le hu.base
     obtain⟨n5,N5⟩:=Nums.of (H:=Hu) (hg5.trans (keepI_eq _ _)) (fun y hy'=> hu.at_ y hy')
     clear hu
     refine .sr ?_
     refine .x (.ld 0) ?_
     refine .m ?_
     refine .e (Or.callNew (fun g:Gl 3 1=> .tuple ⟨[g.val,.int .i64 0]⟩) Gl.bl (fun g:Gl 3 1=> g.l=keepTo (k2.sentOf t) 32) rfl rfl rfl rfl rfl (by decide) gl_nodup (fun H hs=> .f ca46 rfl (Sent_c _ H k2 (glob_le hGu hs.base) hk2 t hTold (by omega) _ gt.n gt.cap n0 (hTu.le hs.base))) (fun g6 hg6=> ?_))
     refine .m ?_
     refine .x .et ?_
     refine .x .et ?_
     refine .g ?_
     refine .g ?_
     refine .done ?_
     refine Tc.lift (L₂:= [(b10,true,.cells ⟨k2.val.cells.toList⟩ 27 (0,0)),(b4,true,.cells ⟨k.val.cells.toList⟩ 27 (0,0))]) (L₁:=g6.bl) rfl (fun Ht ht=> ?_)
     have hGt:=glob_le hGu ht.base
     have hle6:=View.le_trans hle5 ht.base
     have N5t:=N5.le ht.base
     obtain⟨n6,N6⟩:=Nums.of (H:=Ht) (hg6.trans (keepI_eq _ _)) (fun y hy'=> ht.at_ y hy')
     rw[hst] at n6 N6
     clear ht
     have l5:=keepI_len (k.sentOf t) 32
     have q3:g6.n=g5.n:=by omega
     have hsm3:∀H',Ht.le H'→CallT (Mp Tryz.prog) 23 #[g5.val,g6.val] H' (fun v H''=> H'.le H''∧v=.bool true):=fun H' h=> by
       unfold Gl.val
       rw[q3]
       exact SameNums_same _ H' _ _ (keepI (k.sentOf t) 32) g5.n g5.cap g6.cap n5 (by omega) (N5t.le h) (N6.le h)
     refine .sr ?_
     refine .m ?_
     refine .i ?_ (z:=eql_t (by omega))
     refine .m ?_
     refine .m ?_
     refine .i ?_ (z:=eql_t (by omega))
     refine .x .pk ?_
     refine .m ?_
     refine .m ?_
     refine .m ?_
     refine .c rfl rfl rfl rfl (fun H hs=> .f ca23 rfl (hsm3 H hs.base)) ?_
     refine .x .pk ?_
     refine .m ?_
     refine .c rfl rfl rfl rfl (fun H hs=> .f ca31 rfl (signalled_c H (glob_le hGt hs.base))) ?_
     refine .x .pk ?_
     refine .g ?_
     refine .done ?_
     exact hR _ _ _ _ rfl hle6
end Go.Proofs.YtpdaenfglbgfkaaGreatDoor
