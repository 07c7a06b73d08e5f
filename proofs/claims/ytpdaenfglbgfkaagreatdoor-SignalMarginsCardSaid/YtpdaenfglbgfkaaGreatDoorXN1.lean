/-
  Margin and Paces are as the reference says: the walk.
-/
import Derived.Test.YtpdaenfglbgfkaaGreatDoorX08
namespace Go.Proofs.YtpdaenfglbgfkaaGreatDoor
open Go.RL
set_option maxRecDepth 10000
set_option maxHeartbeats 8000000
theorem Margins_w {St:View→Goroutine→Prop}{cs:List Frame}(H:View)(hG:Glob H)(k:Lk)
   (hR:∀(H₀:View) (R:Rg) (L:Bl) (kk:List Item),lk R 2=some (.bool true)→H.le H₀→Tc (Mp Tryz.prog) St 48 ⟨4,.normal,none⟩ H₀ cs R L [] (.code .ret::kk)):
   Tc (Mp Tryz.prog) St 48 ⟨4,.normal,none⟩ H cs (argR [k.val]) [] [] [.code (bodyOf Tryz.f4)]:=by
 cases hk:k.ok with
 | false=>
   refine .sr ?_
   refine .e (.bx (zz:=fun b1=> ?_))
   refine .g ?_
   refine .done (.sr ?_)
   refine .x (.ld 0) ?_
   refine .c rfl rfl rfl rfl (fun H hs=> .f ca32 rfl (Margin_no _ H k (glob_le hG hs.base) hk)) ?_
   refine .m ?_
   refine .x .et ?_
   refine .x .et ?_
   refine .g ?_
   refine .g ?_
   refine .done (.sr ?_)
   refine .x (.ld 0) ?_
   refine .c rfl rfl rfl rfl (fun H hs=> .f ca33 rfl (refMargin_no _ H k hk)) ?_
   refine .m ?_
   refine .x .et ?_
   refine .x .et ?_
   refine .g ?_
   refine .g ?_
   refine .done (.seq (.sr ?_))
   refine .m ?_
   refine .m ?_
   refine .i ?_ (z:=neq_f (by omega))
   refine .m ?_
   refine .m ?_
   refine .m ?_
   refine .i ?_ (z:=neq_f (by omega))
   refine .x .pk ?_
   refine .done (.ff rfl (.skip (.sr ?_)))
   refine .x (.ld 0) ?_
   refine .c rfl rfl rfl rfl (fun H hs=> .f ca34 rfl (Paces_no _ H k (glob_le hG hs.base) hk)) ?_
   refine .m ?_
   refine .x .et ?_
   refine .x .et ?_
   refine .g ?_
   refine .g ?_
   refine .done (.sr ?_)
   refine .x (.ld 0) ?_
   refine .c rfl rfl rfl rfl (fun H hs=> .f ca35 rfl (refPaces_no _ H k hk)) ?_
   refine .m ?_
   refine .x .et ?_
   refine .x .et ?_
   refine .g ?_
   refine .g ?_
   refine .done (.sr ?_)
   refine .m ?_
   refine .m ?_
   refine .c rfl rfl rfl rfl (fun H hs=> .f ca23 rfl (SameNums_two _ H none none [] 0 0 0 0 rfl rfl (by decide) (.inl rfl) (.inl rfl))) ?_
   refine .m ?_
   refine .m ?_
   refine .m ?_
   refine .i ?_ (z:=eql_t (by omega))
   refine .x .pk ?_
   refine .m ?_
   refine .c rfl rfl rfl rfl (fun H hs=> .f ca31 rfl (signalled_c H (glob_le hG hs.base))) ?_
   refine .x .pk ?_
   refine .g ?_
   refine .done ?_
   exact hR _ _ _ _ rfl (View.le_refl _)
 | true=>
   obtain⟨mg,hmg⟩:∃x,k.margin=x:=⟨_,rfl⟩
   refine .sr ?_
   refine .e (.bx (zz:=fun b1=> ?_))
   refine .g ?_
   refine .done (.sr ?_)
   refine .x (.ld 0) ?_
   refine .c rfl rfl rfl rfl (fun H hs=> .f ca32 rfl (CallT.is (.tuple ⟨[.int .i64 mg,.int .i64 0]⟩) (by rewrite [hmg];rfl) (Margin_c _ H k (glob_le hG hs.base) hk))) ?_
   refine .m ?_
   refine .x .et ?_
   refine .x .et ?_
   refine .g ?_
   refine .g ?_
   refine .done (.sr ?_)
   refine .x (.ld 0) ?_
   refine .c rfl rfl rfl rfl (fun H hs=> .f ca33 rfl (CallT.is (.tuple ⟨[.int .i64 mg,.int .i64 0]⟩) (by rewrite [hmg];rfl) (refMargin_yes _ H k hk))) ?_
   refine .m ?_
   refine .x .et ?_
   refine .x .et ?_
   refine .g ?_
   refine .g ?_
   refine .done (.seq (.sr ?_))
   refine .m ?_
   refine .m ?_
   refine .i ?_ (z:=neq_f (by omega))
   refine .m ?_
   refine .m ?_
   refine .m ?_
   refine .i ?_ (z:=neq_f (by omega))
   refine .x .pk ?_
   refine .done (.ff rfl (.skip (.seq ?_)))
   refine Tc.db (R':= [(1,.pointer (some ⟨b1,0,none⟩))]) (L':= [(b1,true,.cells ⟨k.val.cells.toList⟩ 27 (0,0))]) ?_
   refine .r ?_
   refine .x (.ld 0) ?_
   refine .e (Or.callNew (fun g:Gl 3 1=> .tuple ⟨[g.val,.int .i64 0]⟩) Gl.bl (fun g:Gl 3 1=> g.l=keepTo k.good 41) rfl rfl rfl rfl rfl (by decide) gl_nodup (fun H hs=> .f ca34 rfl (Paces_c _ H k (glob_le hG hs.base) hk)) (fun g1 hg1=> ?_))
   refine .m ?_
   refine .x .et ?_
   refine .x .et ?_
   refine .g ?_
   refine .g ?_
   refine .done (.sr ?_)
   refine .x (.ld 0) ?_
   refine .e (Or.callNew (fun g:Gl 3 1=> .tuple ⟨[g.val,.int .i64 0]⟩) Gl.bl (fun g:Gl 3 1=> g.l=keepTo k.good 41) rfl rfl rfl rfl rfl (by decide) gl_nodup (fun H hs=> .f ca35 rfl (refPaces_yes _ H k hk)) (fun g2 hg2=> ?_))
   refine .m ?_
   refine .x .et ?_
   refine .x .et ?_
   refine .g ?_
   refine .g ?_
   refine .done (.sr ?_)
   refine .m ?_
   refine .m ?_
   refine .c rfl rfl rfl rfl (fun H hs=> .f ca23 rfl (SameNums_two _ H _ _ (keepI k.good 41) g1.n g2.n g1.cap g2.cap (Nums.of (hg1.trans (keepI_eq _ _)) (fun y hy=> hs.at_ y (by simp[hy]))).1 (Nums.of (hg2.trans (keepI_eq _ _)) (fun y hy=> hs.at_ y (by simp[hy]))).1 (by have:=keepI_len k.good 41;omega) (Nums.of (hg1.trans (keepI_eq _ _)) (fun y hy=> hs.at_ y (by simp[hy]))).2 (Nums.of (hg2.trans (keepI_eq _ _)) (fun y hy=> hs.at_ y (by simp[hy]))).2)) ?_
   refine .m ?_
   refine .m ?_
   refine .m ?_
   refine .i ?_ (z:=eql_t (by omega))
   refine .x .pk ?_
   refine .m ?_
   refine .c rfl rfl rfl rfl (fun H hs=> .f ca31 rfl (signalled_c H (glob_le hG hs.base))) ?_
   refine .x .pk ?_
   refine .g ?_
   refine .done ?_
   exact hR _ _ _ _ rfl (View.le_refl _)
end Go.Proofs.YtpdaenfglbgfkaaGreatDoor
