/-
  Narrower bands never add what can be read, and never take back what was sure: the walk.
-/
import Derived.Test.YtpdaenfglbgfkaaGreatDoorX09
import Derived.Test.YtpdaenfglbgfkaaGreatDoorXK3
namespace Go.Proofs.YtpdaenfglbgfkaaGreatDoor
open Go.RL
set_option maxRecDepth 10000
set_option maxHeartbeats 16000000
theorem Narrower_w {St:View→Goroutine→Prop}{cs:List Frame}(H:View)(hG:Glob H)(k:Lk)(p:Int)(hp:0≤p∧p<256)(A:Option Addr)(l:List Int)(n ca:Nat)(hn:n=l.length)(hA:Picks H A l)
   (hR:∀(H₀:View) (R:Rg) (L:Bl) (kk:List Item),lk R 6=some (.bool true)→H.le H₀→Tc (Mp Tryz.prog) St 146 ⟨7,.normal,none⟩ H₀ cs R L [] (.code .ret::kk)):
   Tc (Mp Tryz.prog) St 146 ⟨7,.normal,none⟩ H cs (argR [k.val,.int .u8 p,.slice A n ca]) [] [] [.code (bodyOf Tryz.f7)]:=by
 cases hk:k.ok with
 | false=>
   refine .sr ?_
   refine .e (.bx (zz:=fun b3=> ?_))
   refine .g ?_
   refine .done (.seq (.sr ?_))
   refine .x (.ld 0) ?_
   refine .c rfl rfl rfl rfl (fun H hs=> .f ca36 rfl (CallT.is (.bool false) (by rewrite [hk];rfl) (Fit_c _ H k))) ?_
   refine .x .nt ?_
   refine .done (.tt rfl (.sr ?_))
   refine .c rfl rfl rfl rfl (fun H hs=> .f ca31 rfl (signalled_c H (glob_le hG hs.base))) ?_
   refine .g ?_
   refine .done ?_
   exact hR _ _ _ _ rfl (View.le_refl _)
 | true=>
   obtain⟨hks,hkr,hkl,hkm⟩:=Lk.ok_in hk
   obtain⟨code,hcode⟩:∃c:Nat,p%32=(c:Int):=⟨(p%32).toNat,by omega⟩
   have hc:code<32:=by omega
   have hw1:IntKind.i64.wrap p=p:=wrap64 (by omega) (by omega)
   have hr1:intBin .rem .i64 p 32=some (.int .i64 (code:Nat)):=by rw[rem_in (by omega) (by omega),hcode]
   obtain⟨hW,hk2⟩:=Lk.part_within hk l
   obtain⟨k2,ek2⟩:∃k2,k.part l=k2:=⟨_,rfl⟩
   rw[ek2] at hW hk2
   have hmar:=Lk.margin_within hk2 hk hW
   have hsub1:=keepI_sub (n:=32) (p:=k2.canRead code) (q:=k.canRead code) fun i _ h=> Lk.canRead_within hk2 hk hW hc h
   have hsub2:=keepI_sub (n:=41) (p:=k.good) (q:=k2.good) fun i _ h=> Lk.good_within hW h
   have hF:k.refused code=0∨k2.refused code=k.refused code:=by
     by_cases h:k.refused code=0
     · exact .inl h
     · exact .inr (Lk.refused_within hk2 hk hW hc h)
   obtain⟨F1,hF1⟩:∃F,k.refused code=F:=⟨_,rfl⟩
   obtain⟨F2,hF2⟩:∃F,k2.refused code=F:=⟨_,rfl⟩
   obtain⟨m1,hm1⟩:∃F,k.margin=F:=⟨_,rfl⟩
   obtain⟨m2,hm2⟩:∃F,k2.margin=F:=⟨_,rfl⟩
   rw[hF1,hF2] at hF
   rw[hm1,hm2] at hmar
   have hch:∀(j:Nat) (H':View),H.le H'→CallT (Mp Tryz.prog) 43 #[.slice A n ca,.int .i64 (j:Nat)] H' (fun v H''=> H'.le H''∧v=.int .i64 (l[j]?.getD 0)):=fun j H' h=> Choice_c _ H' A l n ca j j rfl hn (hA.le h)
   refine .sr ?_
   refine .e (.bx (zz:=fun b3=> ?_))
   refine .g ?_
   refine .done (.seq (.sr ?_))
   refine .x (.ld 0) ?_
   refine .c rfl rfl rfl rfl (fun H hs=> .f ca36 rfl (CallT.is (.bool true) (by rewrite [hk];rfl) (Fit_c _ H k))) ?_
   refine .x .nt ?_
   refine .done (.ff rfl (.skip (.seq ?_)))
   refine Tc.dr [6] [] mixed rfl ?_
   refine .q 0 rfl .mv ?_
   refine .q 1 rfl .cv ?_
   refine .q 2 rfl (.it (zz:=(by assumption))) ?_
   refine .q 3 rfl (.ld 0) ?_
   refine Ta.each [4] (by kernel_rfl) rfl ⟨TaOp.mk rfl rfl rfl (.al (zz:=fun b8=> ⟨S2.mk (by apply List.Sublist.cons;exact List.Sublist.refl _) (.inr (by apply List.Sublist.cons;exact List.Sublist.refl _)),?_⟩)),trivial⟩
   refine .q 5 rfl .sg ?_
   refine Ta.each [6] (by kernel_rfl) rfl ⟨TaOp.mk rfl rfl rfl (.st 0 (zz:=⟨S2.mk (by apply List.Sublist.cons;exact List.Sublist.refl _) (.inl (by kernel_rfl)),?_⟩)),trivial⟩
   refine Ta.done (by kernel_rfl) ?_
   refine .seq ?_
   refine Tc.dr [15,17] [0] mixed rfl ?_
   refine .q 0 rfl .fa ?_
   refine .q 1 rfl (.ld 1) ?_
   refine .q 2 rfl .mv ?_
   refine .z 3 rfl (OpV.takeCall rfl rfl rfl rfl (fun H hs=> .f ca43 rfl (hch 0 H hs.base))) ?_
   refine .q 4 rfl .mv ?_
   refine .z 5 rfl (OpV.takeCall rfl rfl rfl rfl (fun H hs=> .f ca43 rfl (hch 1 H hs.base))) ?_
   refine .z 6 rfl (OpV.takeCall rfl rfl rfl rfl (fun H hs=> .f ca42 rfl (part_c _ H k.s0 k.s1 (l[0]?.getD 0) (l[1]?.getD 0) (by omega) (by omega) (by omega) (hA.in 0) (hA.in 1)))) ?_
   refine Ta.tkw 7 (by kernel_rfl) rfl rfl rfl (by decide) rfl rfl (OpV.take .fa) ?_
   refine Ta.tkw 8 (by kernel_rfl) rfl rfl rfl (by decide) rfl rfl (OpV.take (.ld 0)) ?_
   refine Ta.tkw 9 (by kernel_rfl) rfl rfl rfl (by decide) rfl rfl (OpV.take .mv) ?_
   refine Ta.tkw 10 (by kernel_rfl) rfl rfl rfl (by decide) rfl rfl (OpV.takeCall rfl rfl rfl rfl (fun H hs=> .f ca43 rfl (hch 2 H hs.base))) ?_
   refine Ta.tkw 11 (by kernel_rfl) rfl rfl rfl (by decide) rfl rfl (OpV.take .mv) ?_
   refine Ta.tkw 12 (by kernel_rfl) rfl rfl rfl (by decide) rfl rfl (OpV.takeCall rfl rfl rfl rfl (fun H hs=> .f ca43 rfl (hch 3 H hs.base))) ?_
   refine .z 13 rfl (OpV.takeCall rfl rfl rfl rfl (fun H hs=> .f ca42 rfl (part_c _ H k.r0 k.r1 (l[2]?.getD 0) (l[3]?.getD 0) (by omega) (by omega) (by omega) (hA.in 2) (hA.in 3)))) ?_
   refine .q 14 rfl .fa ?_
   refine Ta.each [15] (by kernel_rfl) rfl ⟨TaOp.mk rfl rfl rfl (.st 0 (zz:=⟨S2.mk (by apply List.Sublist.cons;exact List.Sublist.refl _) (.inl (by kernel_rfl)),?_⟩)),trivial⟩
   refine Ta.tkw 16 (by kernel_rfl) rfl rfl rfl (by decide) rfl rfl (OpV.take .fa) ?_
   refine Ta.each [17] (by kernel_rfl) rfl ⟨TaOp.mk rfl rfl rfl (.st 0 (zz:=⟨S2.mk (by apply List.Sublist.cons;exact List.Sublist.refl _) (.inl (by kernel_rfl)),?_⟩)),trivial⟩
   refine Ta.done (by kernel_rfl) ?_
   refine .seq ?_
   refine Tc.dr [18] [0] mixed rfl ?_
   refine .q 0 rfl .fa ?_
   refine .q 1 rfl .fa ?_
   refine .q 2 rfl (.ld 1) ?_
   refine .q 3 rfl .mv ?_
   refine .z 4 rfl (OpV.takeCall rfl rfl rfl rfl (fun H hs=> .f ca43 rfl (hch 4 H hs.base))) ?_
   refine .q 5 rfl .mv ?_
   refine .z 6 rfl (OpV.takeCall rfl rfl rfl rfl (fun H hs=> .f ca43 rfl (hch 5 H hs.base))) ?_
   refine .z 7 rfl (OpV.takeCall rfl rfl rfl rfl (fun H hs=> .f ca42 rfl (part_c _ H k.l0 k.l1 (l[4]?.getD 0) (l[5]?.getD 0) (by omega) (by omega) (by omega) (hA.in 4) (hA.in 5)))) ?_
   refine .q 8 rfl .fa ?_
   refine .q 9 rfl .fa ?_
   refine .q 10 rfl (.ld 1) ?_
   refine .q 11 rfl .mv ?_
   refine .z 12 rfl (OpV.takeCall rfl rfl rfl rfl (fun H hs=> .f ca43 rfl (hch 6 H hs.base))) ?_
   refine .q 13 rfl .mv ?_
   refine .z 14 rfl (OpV.takeCall rfl rfl rfl rfl (fun H hs=> .f ca43 rfl (hch 7 H hs.base))) ?_
   refine .z 15 rfl (OpV.takeCall rfl rfl rfl rfl (fun H hs=> .f ca42 rfl (part_c _ H k.m0 k.m1 (l[6]?.getD 0) (l[7]?.getD 0) (by omega) (by omega) (by omega) (hA.in 6) (hA.in 7)))) ?_
   refine .q 16 rfl .bu ?_
   refine .q 17 rfl .fa ?_
   refine Ta.each [18] (by kernel_rfl) rfl ⟨TaOp.mk rfl rfl rfl (.st 0 (zz:=⟨S2.mk (by apply List.Sublist.cons;exact List.Sublist.refl _) (.inl (by kernel_rfl)),?_⟩)),trivial⟩
   refine Ta.done (by kernel_rfl) ?_
   refine Tc.db (R':= [(3,.pointer (some ⟨b3,0,none⟩)),(7,.int .i64 (code:Nat)),(8,.pointer (some ⟨b8,0,none⟩))]) (L':= [(b8,true,.cells ⟨(k.part l).val.cells.toList⟩ 27 (0,0)),(b3,true,.cells ⟨k.val.cells.toList⟩ 27 (0,0))]) ?_
   rw[ek2]
   refine .sr ?_
   refine .x (.ld 1) ?_
   refine .m ?_
   refine .e (Or.callNew (fun g:Gl 3 1=> .tuple ⟨[g.val,.int .i64 (k.refused code),.int .i64 0]⟩) Gl.bl (fun g:Gl 3 1=> g.l=keepTo (k.canRead code) 32) rfl rfl rfl rfl rfl (by decide) gl_nodup (fun H hs=> .f ca21 rfl (Reads_c _ H k code (glob_le hG hs.base) hk hc)) (fun g hg=> ?_))
   refine .m ?_
   refine .x .et ?_
   refine .x .et ?_
   refine .x .et ?_
   refine .g ?_
   refine .g ?_
   refine .g ?_
   refine .done ?_
   refine Tc.lift (L₂:= [(b8,true,.cells ⟨k2.val.cells.toList⟩ 27 (0,0)),(b3,true,.cells ⟨k.val.cells.toList⟩ 27 (0,0))]) (L₁:=g.bl) rfl (fun Hx hx=> ?_)
   have hGx:=glob_le hG hx.base
   have hle:=hx.base
   obtain⟨n1,N1⟩:=Nums.of (H:=Hx) (hg.trans (keepI_eq _ _)) (fun y hy=> hx.at_ y hy)
   clear hx
   rw[hF1]
   refine .sr ?_
   refine .x (.ld 0) ?_
   refine .m ?_
   refine .e (Or.callNew (fun g:Gl 3 1=> .tuple ⟨[g.val,.int .i64 (k2.refused code),.int .i64 0]⟩) Gl.bl (fun g:Gl 3 1=> g.l=keepTo (k2.canRead code) 32) rfl rfl rfl rfl rfl (by decide) gl_nodup (fun H hs=> .f ca21 rfl (Reads_c _ H k2 code (glob_le hGx hs.base) hk2 hc)) (fun g2 hg2=> ?_))
   refine .m ?_
   refine .x .et ?_
   refine .x .et ?_
   refine .x .et ?_
   refine .g ?_
   refine .g ?_
   refine .g ?_
   refine .done ?_
   refine Tc.lift (L₂:= [(b8,true,.cells ⟨k2.val.cells.toList⟩ 27 (0,0)),(b3,true,.cells ⟨k.val.cells.toList⟩ 27 (0,0))]) (L₁:=g2.bl) rfl (fun Hy hy=> ?_)
   have hGy:=glob_le hGx hy.base
   have hle2:=View.le_trans hle hy.base
   have N1y:=N1.le hy.base
   obtain⟨n2,N2⟩:=Nums.of (H:=Hy) (hg2.trans (keepI_eq _ _)) (fun y hy'=> hy.at_ y hy')
   clear hy
   rw[hF2]
   refine .sr ?_
   refine .x (.ld 1) ?_
   refine .c rfl rfl rfl rfl (fun H hs=> .f ca32 rfl (Margin_c _ H k (glob_le hGy hs.base) hk)) ?_
   refine .m ?_
   refine .x .et ?_
   refine .x .et ?_
   refine .g ?_
   refine .g ?_
   refine .done (.sr ?_)
   refine .x (.ld 0) ?_
   refine .c rfl rfl rfl rfl (fun H hs=> .f ca32 rfl (Margin_c _ H k2 (glob_le hGy hs.base) hk2)) ?_
   refine .m ?_
   refine .x .et ?_
   refine .x .et ?_
   refine .g ?_
   refine .g ?_
   refine .done ?_
   rw[hm1,hm2]
   refine .sr ?_
   refine .x (.ld 1) ?_
   refine .e (Or.callNew (fun g:Gl 3 1=> .tuple ⟨[g.val,.int .i64 0]⟩) Gl.bl (fun g:Gl 3 1=> g.l=keepTo k.good 41) rfl rfl rfl rfl rfl (by decide) gl_nodup (fun H hs=> .f ca34 rfl (Paces_c _ H k (glob_le hGy hs.base) hk)) (fun g3 hg3=> ?_))
   refine .m ?_
   refine .x .et ?_
   refine .x .et ?_
   refine .g ?_
   refine .g ?_
   refine .done ?_
   refine Tc.lift (L₂:= [(b8,true,.cells ⟨k2.val.cells.toList⟩ 27 (0,0)),(b3,true,.cells ⟨k.val.cells.toList⟩ 27 (0,0))]) (L₁:=g3.bl) rfl (fun Hz hz=> ?_)
   have hGz:=glob_le hGy hz.base
   have hle3:=View.le_trans hle2 hz.base
   have N1z:=N1y.le hz.base
   have N2z:=N2.le hz.base
   obtain⟨n3,N3⟩:=Nums.of (H:=Hz) (hg3.trans (keepI_eq _ _)) (fun y hy'=> hz.at_ y hy')
   clear hz
   refine .sr ?_
   refine .x (.ld 0) ?_
   refine .e (Or.callNew (fun g:Gl 3 1=> .tuple ⟨[g.val,.int .i64 0]⟩) Gl.bl (fun g:Gl 3 1=> g.l=keepTo k2.good 41) rfl rfl rfl rfl rfl (by decide) gl_nodup (fun H hs=> .f ca34 rfl (Paces_c _ H k2 (glob_le hGz hs.base) hk2)) (fun g4 hg4=> ?_))
   refine .m ?_
   refine .x .et ?_
   refine .x .et ?_
   refine .g ?_
   refine .g ?_
   refine .done ?_
   refine Tc.lift (L₂:= [(b8,true,.cells ⟨k2.val.cells.toList⟩ 27 (0,0)),(b3,true,.cells ⟨k.val.cells.toList⟩ 27 (0,0))]) (L₁:=g4.bl) rfl (fun Hv hv=> ?_)
   have hGv:=glob_le hGz hv.base
   have hle4:=View.le_trans hle3 hv.base
   have N1v:=N1z.le hv.base
   have N2v:=N2z.le hv.base
   have N3v:=N3.le hv.base
   obtain⟨n4,N4⟩:=Nums.of (H:=Hv) (hg4.trans (keepI_eq _ _)) (fun y hy'=> hv.at_ y hy')
   clear hv
   have l1:=keepI_len (k.canRead code) 32
   have l2:=keepI_len (k2.canRead code) 32
   have l3:=keepI_len k.good 41
   have l4:=keepI_len k2.good 41
   refine Tc.db (R':= [(9,g.val),(10,.int .i64 F1),(11,.int .i64 0),(12,g2.val),(13,.int .i64 F2),(14,.int .i64 0),(15,.int .i64 m1),(16,.int .i64 0),(17,.int .i64 m2),(18,.int .i64 0),(19,g3.val),(20,.int .i64 0),(21,g4.val),(22,.int .i64 0)]) (L':= []) ?_
   have hin1:∀H',Hv.le H'→CallT (Mp Tryz.prog) 44 #[g2.val,g.val] H' (fun v H''=> H'.le H''∧v=.bool true):=fun H' h=>
     inside_c _ H' _ _ _ _ g2.n g.n g2.cap g.cap n2 n1 (by omega) (by omega) (N2v.le h) (N1v.le h) hsub1
   have hin2:∀H',Hv.le H'→CallT (Mp Tryz.prog) 44 #[g3.val,g4.val] H' (fun v H''=> H'.le H''∧v=.bool true):=fun H' h=>
     inside_c _ H' _ _ _ _ g3.n g4.n g3.cap g4.cap n3 n4 (by omega) (by omega) (N3v.le h) (N4.le h) hsub2
   by_cases h0:F1=0
   · refine .seq (.sr ?_)
     refine .m ?_
     refine .i ?_ (z:=neq_f (by omega))
     refine .m ?_
     refine .m ?_
     refine .i ?_ (z:=neq_f (by omega))
     refine .x .pk ?_
     refine .m ?_
     refine .m ?_
     refine .i ?_ (z:=neq_f (by omega))
     refine .x .pk ?_
     refine .m ?_
     refine .m ?_
     refine .i ?_ (z:=neq_f (by omega))
     refine .x .pk ?_
     refine .m ?_
     refine .m ?_
     refine .i ?_ (z:=neq_f (by omega))
     refine .x .pk ?_
     refine .m ?_
     refine .m ?_
     refine .i ?_ (z:=neq_f (by omega))
     refine .x .pk ?_
     refine .m ?_
     refine .m ?_
     refine .m ?_
     refine .i ?_ (z:=lss_f (by omega))
     refine .x .pk ?_
     refine .m ?_
     refine .m ?_
     refine .i ?_ (z:=neq_f (by omega))
     refine .m ?_
     refine .sk ?_
     refine .sk ?_
     refine .sk ?_
     refine .x .pk ?_
     refine .x .pk ?_
     refine .done (.ff rfl (.skip (.sr ?_)))
     refine .m ?_
     refine .m ?_
     refine .c rfl rfl rfl rfl (fun H hs=> .f ca44 rfl (hin1 H hs.base)) ?_
     refine .m ?_
     refine .m ?_
     refine .m ?_
     refine .c rfl rfl rfl rfl (fun H hs=> .f ca44 rfl (hin2 H hs.base)) ?_
     refine .x .pk ?_
     refine .m ?_
     refine .c rfl rfl rfl rfl (fun H hs=> .f ca31 rfl (signalled_c H (glob_le hGv hs.base))) ?_
     refine .x .pk ?_
     refine .g ?_
     refine .done ?_
     exact hR _ _ _ _ rfl hle4
   · have h1:F1=F2:=(hF.resolve_left h0).symm
     refine .seq (.sr ?_)
     refine .m ?_
     refine .i ?_ (z:=neq_f (by omega))
     refine .m ?_
     refine .m ?_
     refine .i ?_ (z:=neq_f (by omega))
     refine .x .pk ?_
     refine .m ?_
     refine .m ?_
     refine .i ?_ (z:=neq_f (by omega))
     refine .x .pk ?_
     refine .m ?_
     refine .m ?_
     refine .i ?_ (z:=neq_f (by omega))
     refine .x .pk ?_
     refine .m ?_
     refine .m ?_
     refine .i ?_ (z:=neq_f (by omega))
     refine .x .pk ?_
     refine .m ?_
     refine .m ?_
     refine .i ?_ (z:=neq_f (by omega))
     refine .x .pk ?_
     refine .m ?_
     refine .m ?_
     refine .m ?_
     refine .i ?_ (z:=lss_f (by omega))
     refine .x .pk ?_
     refine .m ?_
     refine .m ?_
     refine .i ?_ (z:=neq_t (by omega))
     refine .m ?_
     refine .m ?_
     refine .m ?_
     refine .i ?_ (z:=neq_f (by omega))
     refine .x .pk ?_
     refine .x .pk ?_
     refine .done (.ff rfl (.skip (.sr ?_)))
     refine .m ?_
     refine .m ?_
     refine .c rfl rfl rfl rfl (fun H hs=> .f ca44 rfl (hin1 H hs.base)) ?_
     refine .m ?_
     refine .m ?_
     refine .m ?_
     refine .c rfl rfl rfl rfl (fun H hs=> .f ca44 rfl (hin2 H hs.base)) ?_
     refine .x .pk ?_
     refine .m ?_
     refine .c rfl rfl rfl rfl (fun H hs=> .f ca31 rfl (signalled_c H (glob_le hGv hs.base))) ?_
     refine .x .pk ?_
     refine .g ?_
     refine .done ?_
     exact hR _ _ _ _ rfl hle4
end Go.Proofs.YtpdaenfglbgfkaaGreatDoor
