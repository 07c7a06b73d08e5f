/-
  worst(47) of the law: the walk.
-/
import Derived.Test.YtdnfdeplcjaonaaGreatDoorF09
namespace Go.Proofs.YtdnfdeplcjaonaaGreatDoor
open Go.RL
set_option maxRecDepth 10000
set_option maxHeartbeats 16000000
section
variable(M:Md Tryz.prog)(H:View)
theorem worst_c(k:Bk)(A:Option Addr)(lc:Nat)(B:Option Addr)(tc:Nat)(F:Nat→Option Addr)(fc:Nat→Nat)(hB:BookAt H k A lc B tc F fc)(hn:k.small)(hG:Glob H)(ha:k.alarm=0)(t:Nat)(ht:t<k.nt):
   CallT M 47 #[(k.val A lc B tc),.int .i64 (t:Nat)] H (fun v H'=> H.le H'∧v=.int .i64 (k.worst t:Nat)):=by
 obtain⟨_,_,hnt,hok⟩:=Bk.valid ha
 have hbd:(k.partsL t).length≤36:=by
   have h1:=partsTo_le k t (k.pt t-k.pf t+1).toNat
   have h2:=hok t ht
   unfold trainOk at h2
   simp only[Bool.and_eq_true,decide_eq_true_eq] at h2
   unfold Bk.partsL
   omega
 refine CallT.enter (vs:= [(k.val A lc B tc),.int .i64 (t:Nat)]) Tryz.func47 rfl Tryz.ntmps47 (Nat.le_of_ble_eq_true rfl) (SymSt.nil _) fun St c cs hK=> ?_
 refine .sr ?_
 refine .e (.bx (zz:=fun b2=> ?_))
 refine .g ?_
 refine .done (.sr ?_)
 refine .g ?_
 refine .done (.sr ?_)
 refine .x (.ld 0) ?_
 refine .m ?_
 refine To.callF rfl rfl rfl rfl rfl rfl (by decide) (FnT.f ca115 rfl (parts_c M H k A lc B tc hB.bk.trains ha t ht)) (fun v H₂ hv=> ?_)
 obtain⟨hle,g,rfl,⟨hgn,hgl⟩,hgb⟩:=hv
 have hQ:=quads_of g (fun x hx=> (hgb x hx).1) hgl
 have hgv:g.val=.slice (g.blk.map fun b=> ⟨b,0,none⟩) (k.partsL t).length g.cap:=by unfold Gl.val Bk.partsL;rw[hgn]
 have hB2:=hB.le hle
 rw[hgv]
 generalize hG0:(g.blk.map fun b=> (⟨b,0,none⟩:Addr))=G at hQ
 clear hgb hgv hG0
 change QuadsAt H₂ G (k.partsL t) at hQ
 refine .g ?_
 refine .done (.seq (.sr ?_))
 refine .g ?_
 refine .done (.block ?_)
 refine Tc.db (Tc.loopInv (σ:= { j:Nat//j≤(k.partsL t).length }) (fun j=> ([(1,.int .i64 (t:Nat)),(2,.pointer (some ⟨b2,0,none⟩)),(5,.int .i64 (k.worstTo t j.1:Nat)),(6,.slice G (k.partsL t).length g.cap),(7,.int .i64 (j.1:Nat))],[(b2,true,.cells ⟨(k.val A lc B tc).cells.toList⟩ 25 (0,0))])) (fun j=> (k.partsL t).length-j.1) ?_ ⟨0,Nat.zero_le _⟩)
 rintro⟨j,hj⟩ ih
 show Tc M St _ _ _ _ [(1,.int .i64 (t:Nat)),(2,.pointer (some ⟨b2,0,none⟩)),(5,.int .i64 (k.worstTo t j:Nat)),(6,.slice G (k.partsL t).length g.cap),(7,.int .i64 (j:Nat))] [(b2,true,.cells ⟨(k.val A lc B tc).cells.toList⟩ 25 (0,0))] _ _
 by_cases c1:j=(k.partsL t).length
 · have e:k.worst t=k.worstTo t j:=by unfold Bk.worst;rw[c1]
   rw[e] at hK
   clear ih e
   have c1':((j:Nat):Int)=((k.partsL t).length:Nat):=by rw[c1]
   refine .seq (.sr ?_)
   refine .m ?_
   refine .m ?_
   refine .x .ln ?_
   refine .i ?_ (z:=lss_f (by omega))
   refine .done (.ff rfl (.exit rfl (.sr ?_)))
   refine .m ?_
   refine .g ?_
   refine .done ?_
   refine .rt hK Tryz.func47 Tryz.results47 [_] ?_
   exact fun H' hs=> ⟨View.le_trans hle hs.base,rfl⟩
 · have c2:j<(k.partsL t).length:=by omega
   obtain⟨x,hx⟩:∃x,(k.partsL t)[j]? =some x:=⟨_,List.getElem?_eq_getElem c2⟩
   have hp:=part_ok (hok t ht) (List.mem_of_getElem? hx)
   have hv0:=now_valid ha hp.2
   have hw:k.worstTo t (j+1)=max (k.worstTo t j) (k.nowQ t x).resL.length:=by rw[Bk.worstTo,hx];rfl
   obtain h0|⟨ab,ao,f,gs,gt,gz,rfl,hb,hl⟩:=hQ
   · rw[h0] at c2;simp at c2
   have f1:=hl j x hx
   refine .seq (.sr ?_)
   refine .m ?_
   refine .m ?_
   refine .x .ln ?_
   refine .i ?_ (z:=lss_t (by omega))
   refine .done (.tt rfl (.skip (.seq (.block (.seq ?_)))))
   refine Tc.viaB (fun H' R' L'=> ∃A2 lc2 B2 tc2 F2 fc2 b8,H₂.le H'∧BookAt H' (k.nowQ t x) A2 lc2 B2 tc2 F2 fc2∧AllIn [(1,.int .i64 (t:Nat)),(2,.pointer (some ⟨b2,0,none⟩)),(5,.int .i64 (k.worstTo t j:Nat)),(6,.slice (some ⟨ab,ao,none⟩) (k.partsL t).length g.cap),(7,.int .i64 (j:Nat)),(8,.pointer (some ⟨b8,0,none⟩)),(9,.int .i64 0)] R'∧List.Sublist [(b8,true,.cells ⟨((k.nowQ t x).val A2 lc2 B2 tc2).cells.toList⟩ 25 (0,0)),(b2,true,.cells ⟨(k.val A lc B tc).cells.toList⟩ 25 (0,0))] L') ?_ (fun fin=> ?_)
   rotate_left
   · refine Tc.dr [11] [] mixed rfl ?_
     refine .q 0 rfl (OpV.load (E:=en) 0 rfl rfl rfl rfl rfl) ?_
     refine .q 1 rfl .mv ?_
     refine .q 2 rfl .mv ?_
     refine .q 3 rfl .mv ?_
     refine .q 4 rfl .ia ?_
     refine .q 5 rfl (OpV.load₀ (E:=en) rfl rfl hb rfl f1) ?_
     refine Ta.callL2 6 10 (by kernel_rfl) rfl rfl rfl rfl rfl rfl rfl (by decide) (FnT.f ca35 rfl (Know_c M H₂ k A lc B tc F fc hB2 hn (glob_le hG hle) ha t ht x.1 x.2.1 x.2.2.1 x.2.2.2 hp.1 hp.2)) (by intro _ _ hh;exact hh.1) (by exact List.Sublist.refl _) (.inr (by exact List.Sublist.refl _)) (fun v Hk hv=> ?_) (TaOp.mk rfl rfl rfl (.al (zz:=fun b8=> ⟨S2.mk (by apply List.Sublist.cons;exact List.Sublist.refl _) (.inr (by apply List.Sublist.cons;exact List.Sublist.refl _)),?_⟩)))
     · obtain⟨lek,A2,lc2,B2,tc2,F2,fc2,rfl,hO⟩:=hv
       refine .q 7 rfl .mv ?_
       refine .q 8 rfl .et ?_
       refine Ta.tkw 9 (by kernel_rfl) rfl rfl rfl (by decide) rfl rfl (OpV.take .et) ?_
       refine Ta.each [10] (by kernel_rfl) rfl ⟨TaOp.mk rfl rfl rfl (.al (zz:=fun b8=> ⟨S2.mkL lek (by apply List.Sublist.cons;exact List.Sublist.refl _) (.inr (by apply List.Sublist.cons;exact List.Sublist.refl _)),?_⟩)),trivial⟩
       refine Ta.each [11] (by kernel_rfl) rfl ⟨TaOp.mk rfl rfl rfl (Or.storeT (E:=en) 0 rfl rfl rfl rfl rfl rfl rfl rfl rfl rfl rfl ⟨S2.mkL lek (by apply List.Sublist.cons;exact List.Sublist.refl _) (.inl (by kernel_rfl)),?_⟩),trivial⟩
       refine Ta.tkw 12 (by kernel_rfl) rfl rfl rfl (by decide) rfl rfl (OpV.take .sg) ?_
       refine Ta.done (by kernel_rfl) ?_
       exact fin _ _ _ ⟨A2,lc2,B2,tc2,F2,fc2,b8,lek,hO,⟨rfl,rfl,rfl,rfl,rfl,rfl,rfl,trivial⟩,(by exact List.Sublist.refl _)⟩
     · refine Ta.callL 6 (by kernel_rfl) rfl rfl rfl rfl rfl rfl rfl (by decide) (FnT.f ca35 rfl (Know_c M H₂ k A lc B tc F fc hB2 hn (glob_le hG hle) ha t ht x.1 x.2.1 x.2.2.1 x.2.2.2 hp.1 hp.2)) (by intro _ _ hh;exact hh.1) (by apply List.Sublist.cons;exact List.Sublist.refl _) (.inr (by apply List.Sublist.cons;exact List.Sublist.refl _)) (fun v Hk hv=> ?_)
       obtain⟨lek,A2,lc2,B2,tc2,F2,fc2,rfl,hO⟩:=hv
       refine .q 7 rfl .mv ?_
       refine .q 8 rfl .et ?_
       refine Ta.tkw 9 (by kernel_rfl) rfl rfl rfl (by decide) rfl rfl (OpV.take .et) ?_
       refine Ta.each [11] (by kernel_rfl) rfl ⟨TaOp.mk rfl rfl rfl (Or.storeT (E:=en) 0 rfl rfl rfl rfl rfl rfl rfl rfl rfl rfl rfl ⟨S2.mkL lek (by apply List.Sublist.cons;exact List.Sublist.refl _) (.inl (by kernel_rfl)),?_⟩),trivial⟩
       refine Ta.tkw 12 (by kernel_rfl) rfl rfl rfl (by decide) rfl rfl (OpV.take .sg) ?_
       refine Ta.done (by kernel_rfl) ?_
       exact fin _ _ _ ⟨A2,lc2,B2,tc2,F2,fc2,b8,lek,hO,⟨rfl,rfl,rfl,rfl,rfl,rfl,rfl,trivial⟩,(by exact List.Sublist.refl _)⟩
   rintro H3 R' L' ⟨A2,lc2,B2,tc2,F2,fc2,b8,le3,hO,hR,hL⟩
   have hsm:(k.nowQ t x).small:=⟨hn.nl,hn.nt,hn.num⟩
   have hG3:=glob_le hG (View.le_trans hle le3)
   have hres:=fun(H':View) (h:H3.le H')=> isV (lawResults_c M H' (k.nowQ t x) A2 lc2 B2 tc2 (hO.le h).bk hsm (glob_le hG3 h)) (w':=.int .i64 ((k.nowQ t x).resL.length:Nat)) (by unfold Bk.resN;rw[if_pos hv0,resTo_len])
   have hmax:(if(((k.nowQ t x).resL.length:Nat):Int)>((k.worstTo t j:Nat):Int) then(((k.nowQ t x).resL.length:Nat):Int) else((k.worstTo t j:Nat):Int))=((k.worstTo t (j+1):Nat):Int):=by rw[hw];split <;> omega
   refine Tc.dropB (R':= [(1,.int .i64 (t:Nat)),(2,.pointer (some ⟨b2,0,none⟩)),(5,.int .i64 (k.worstTo t j:Nat)),(6,.slice (some ⟨ab,ao,none⟩) (k.partsL t).length g.cap),(7,.int .i64 (j:Nat)),(8,.pointer (some ⟨b8,0,none⟩)),(9,.int .i64 0)]) (L':= [(b8,true,.cells ⟨((k.nowQ t x).val A2 lc2 B2 tc2).cells.toList⟩ 25 (0,0)),(b2,true,.cells ⟨(k.val A lc B tc).cells.toList⟩ 25 (0,0))]) ?_ hR hL
   refine .sr ?_
   refine .x (.ld 0) ?_
   refine .c rfl rfl rfl rfl (fun H hs=> .f ca46 rfl (hres H hs.base)) ?_
   refine .g ?_
   refine .done (.seq (.sr ?_))
   refine .m ?_
   refine .i ?_ (z:=neq_f (by omega))
   refine .m ?_
   refine .m ?_
   refine .i ?_ (z:=lss_f (by omega))
   refine .x .pk ?_
   refine .done (.ff rfl (.skip (.r ?_)))
   refine .m ?_
   refine .m ?_
   refine .x (OpV.max rfl rfl rfl rfl rfl rfl (by assumption)) ?_
   refine .g ?_
   refine .done (.inBlock (.r ?_))
   refine .m ?_
   refine .i ?_ (z:=add_in (by omega) (by omega))
   refine .g ?_
   refine .done ?_
   refine Tc.lower le3 ?_
   exact Tc.db (ih ⟨j+1,c2⟩ (by simp only;omega))
end
end Go.Proofs.YtdnfdeplcjaonaaGreatDoor
