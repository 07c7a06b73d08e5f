/-
  Texts of the proofs over baudot/dial: X4 Z5.
-/
import Derived.Test.YtdnfdeplcjaonaaGreatDoorA08
section
namespace Go.Proofs.YtdnfdeplcjaonaaGreatDoor
open Go.RL
set_option maxRecDepth 10000
set_option maxHeartbeats 32000000
theorem strs_lit {H:View}{b:Nat}{f:Bool}{gt:TypeId}{gz:Nat×Nat}(m:List (List UInt8))(h:H b=some (f,.cells ⟨strsV m⟩ gt gz)):StrsAt H (some ⟨b,0,none⟩) m.length (fun j=> m[j]?.getD []):=
 .inr ⟨b,0,f,_,gt,gz,rfl,h,fun j hj=> by
   show(strsV m)[_]? =_
   rw[Nat.zero_add,Int.toNat_natCast,Nat.mul_one]
   unfold strsV
   rw[List.getElem?_map]
   simp only[List.getElem?_eq_getElem hj]
   rfl⟩
theorem words_true(l:List (List UInt8)){n:Nat}(hn:n=l.length):(decide (n=l.length)&&allB (fun i=> decide ((fun j=> l[j]?.getD []) i=(fun j=> l[j]?.getD []) i)) n)=true:=by
 rw[decide_eq_true hn,(allB_iff n).2 (fun i _=> decide_eq_true rfl)]
 rfl
theorem ints_lit {H:View}{b:Nat}{f:Bool}{gt:TypeId}{gz:Nat×Nat}(m:List Int)(h:H b=some (f,.cells ⟨intsL m⟩ gt gz)):FreeAt H (some ⟨b,0,none⟩) m.length (exAt m):=
 .inr ⟨b,0,f,_,gt,gz,rfl,h,fun j hj=> by
   show(intsL m)[_]? =_
   rw[Nat.zero_add,Int.toNat_natCast,Nat.mul_one]
   unfold intsL exAt
   rw[List.getElem?_map]
   simp only[List.getElem?_eq_getElem hj]
   rfl⟩
theorem cl_at {e:TypeId}(g:Gl e 1){H:View}(h:∀x∈g.bl,H x.1=some x.2){f:Nat→Int}{n:Nat}(hl:g.l=clL f n)(hn:g.n=n):FreeAt H (g.blk.map fun b=> ⟨b,0,none⟩) n f:=by
 cases hb:g.blk with
 | none=>
   have:=g.h0 hb
   have:=g.hc
   exact .inl (by omega)
 | some b=>
   have hbl:g.bl= [(b,true,.cells ⟨g.l++g.junk⟩ e (0,0))]:=by unfold Gl.bl;rw[hb]
   refine .inr ⟨b,0,true,_,e,(0,0),rfl,h (b,true,.cells ⟨g.l++g.junk⟩ e (0,0)) (by rw[hbl];simp),fun j hj=> ?_⟩
   show(g.l++g.junk)[_]? =_
   rw[Nat.zero_add,Int.toNat_natCast,Nat.mul_one,List.getElem?_append_left (by rw[hl,clL_len];exact hj),hl]
   unfold clL
   rw[List.getElem?_map,List.getElem?_range hj]
   rfl
theorem clL_ints(m:List Int):intsL m=clL (exAt m) m.length:=by
 apply List.ext_getElem?
 intro i
 unfold intsL clL exAt
 rw[List.getElem?_map,List.getElem?_map]
 by_cases h:i<m.length
 · rw[List.getElem?_range h,List.getElem?_eq_getElem h]
   simp[h]
 · rw[List.getElem?_eq_none (by omega),List.getElem?_eq_none (by simp;omega)]
   rfl
theorem three {p:Nat→Prop}(h0:p 0)(h1:p 1)(h2:p 2):∀i,i<3→p i:=fun i hi=> by
 rcases(by omega:i=0∨i=1∨i=2) with rfl|rfl|rfl
 · exact h0
 · exact h1
 · exact h2
theorem two {p:Nat→Prop}(h0:p 0)(h1:p 1):∀i,i<2→p i:=fun i hi=> by
 rcases(by omega:i=0∨i=1) with rfl|rfl
 · exact h0
 · exact h1
theorem strs_src {H:View}{a:Option Addr}{n c:Nat}{l:List (List UInt8)}(h:SrcAt H 1 (.slice a n c) n (strsV l))(hn:n=l.length):StrsAt H a n (fun j=> l[j]?.getD []):=by
 obtain⟨_,_,⟨_,h1,h2⟩|⟨b,off,c',f,cs,e,fz,h1,h2,h3,h4⟩⟩:=h
 · have:l= []:=by simpa [strsV] using h2
   exact .inl (by rw[hn,this];rfl)
 · simp only[Value.slice.injEq] at h1
   refine .inr ⟨b,off,f,cs,e,fz,h1.1,h2,fun j hj=> ?_⟩
   show cs[_]? =_
   have hjl:j<l.length:=by omega
   have h5:=congrArg (fun x=> x[j]?) h4
   simp only[List.getElem?_take,List.getElem?_drop] at h5
   rw[if_pos (by rw[strsV_len];exact hjl)] at h5
   rw[Int.toNat_natCast,Nat.mul_one,h5]
   unfold strsV
   rw[List.getElem?_map]
   simp only[List.getElem?_eq_getElem hjl]
   rfl
theorem To.permL2 {P:Program}{M:Md P}{St:View→Goroutine→Prop}{n:Nat}{b:FB}{H₀:View}{cs:List Frame}{R:Rg}{L L₁:Bl}{ds:List Deferred}{k:List Item}{dl:List (Option Tmp)}{l:List Oper}(p:L₁.Perm L)(h:To M St n b H₀ cs dl R L₁ ds l k):To M St n b H₀ cs dl R L ds l k:=To.perm p h
theorem lives_c(H:View)(hG:Glob H):CallT (Mp Tryz.prog) 18 #[] H (fun v H'=> H.le H'∧v=.bool true):=by
 have sD:bkD.small:=ex_small rfl (by decide) rfl rfl
 have sE:bkE.small:=ex_small rfl (by decide) rfl rfl
 have sO:bkO.small:=ex_small rfl (by decide) rfl rfl
 refine CallT.enter (vs:= []) Tryz.func18 rfl Tryz.ntmps18 (Nat.le_of_ble_eq_true rfl) (SymSt.nil _) fun St c cs hK=> ?_
 refine .sr ?_
 refine .g ?_
 refine .done (.sr ?_)
 refine To.callF rfl rfl rfl rfl rfl rfl (by decide) (FnT.f ca77 rfl (Example_c _ H)) (fun v H1 hv=> ?_)
 obtain⟨tl1,dA,dlc,dB,dtc,dF,dfc,rfl,hD1⟩:=hv
 refine To.callF rfl rfl rfl rfl rfl rfl (by decide) (FnT.f ca78 rfl (joined_c _ H1)) (fun v H2 hv=> ?_)
 obtain⟨le2,eA,elc,eB,etc,eF,efc,rfl,hE2⟩:=hv
 have tl2:=View.le_trans tl1 le2
 have hD2:=hD1.le le2
 have hG2:=glob_le hG tl2
 refine .e (.al (zz:=fun b1=> ?_))
 refine .e (.al (zz:=fun b2=> ?_))
 refine .e (.st 1 (zz:=?_))
 refine .e (.st 0 (zz:=?_))
 refine .done (.seq ?_)
 refine Tc.db (R':= [(1,.pointer (some ⟨b1,0,none⟩)),(2,.pointer (some ⟨b2,0,none⟩))]) (L':= [(b2,true,.cells ⟨(bkE.val eA elc eB etc).cells.toList⟩ 25 (0,0)),(b1,true,.cells ⟨(bkD.val dA dlc dB dtc).cells.toList⟩ 25 (0,0))]) ?_
 refine .r ?_
 refine .x (.ld 1) ?_
 refine To.callF rfl rfl rfl rfl rfl rfl (by decide) (FnT.f ca23 rfl (Heard_c _ H2 bkD dA dlc dB dtc hD2.bk sD hG2 bkD_al ex_lenD)) (fun v H3 hv=> ?_)
 obtain⟨le3,g3,rfl,⟨ng3,lg3⟩,mg3⟩:=hv
 rw[ex_heardD] at ng3 lg3
 refine .m ?_
 refine .x .et ?_
 refine .x .et ?_
 refine .g ?_
 refine .g ?_
 refine .done ?_
 have tl3:=View.le_trans tl2 le3
 have hD3:=hD2.le le3
 have hE3:=hE2.le le3
 have hG3:=glob_le hG tl3
 refine .seq ?_
 refine Tc.db (R':= [(1,.pointer (some ⟨b1,0,none⟩)),(2,.pointer (some ⟨b2,0,none⟩)),(3,g3.val),(4,.int .i64 0)]) (L':= [(b2,true,.cells ⟨(bkE.val eA elc eB etc).cells.toList⟩ 25 (0,0)),(b1,true,.cells ⟨(bkD.val dA dlc dB dtc).cells.toList⟩ 25 (0,0))]) ?_
 refine .r ?_
 refine .x (.ld 1) ?_
 refine To.callF rfl rfl rfl rfl rfl rfl (by decide) (FnT.f ca26 rfl (Reaches_c _ H3 bkD dA dlc dB dtc hD3.bk sD hG3 bkD_al)) (fun v H4 hv=> ?_)
 obtain⟨le4,g5,rfl,⟨ng5,lg5⟩,mg5⟩:=hv
 rw[ex_clD.2]
 refine .m ?_
 refine .x .et ?_
 refine .x .et ?_
 refine .x .et ?_
 refine .g ?_
 refine .g ?_
 refine .g ?_
 refine .done ?_
 have tl4:=View.le_trans tl3 le4
 have hD4:=hD3.le le4
 have hE4:=hE3.le le4
 have hG4:=glob_le hG tl4
 refine .seq ?_
 refine Tc.db (R':= [(1,.pointer (some ⟨b1,0,none⟩)),(2,.pointer (some ⟨b2,0,none⟩)),(3,g3.val),(4,.int .i64 0),(5,g5.val),(6,.int .i64 2),(7,.int .i64 0)]) (L':= [(b2,true,.cells ⟨(bkE.val eA elc eB etc).cells.toList⟩ 25 (0,0)),(b1,true,.cells ⟨(bkD.val dA dlc dB dtc).cells.toList⟩ 25 (0,0))]) ?_
 refine .r ?_
 refine .x (.ld 0) ?_
 refine To.callF rfl rfl rfl rfl rfl rfl (by decide) (FnT.f ca23 rfl (Heard_c _ H4 bkE eA elc eB etc hE4.bk sE hG4 bkE_al ex_lenE)) (fun v H5 hv=> ?_)
 obtain⟨le5,g8,rfl,⟨ng8,lg8⟩,mg8⟩:=hv
 rw[ex_heardE] at ng8 lg8
 refine .m ?_
 refine .x .et ?_
 refine .x .et ?_
 refine .g ?_
 refine .g ?_
 refine .done ?_
 have tl5:=View.le_trans tl4 le5
 have hD5:=hD4.le le5
 have hE5:=hE4.le le5
 have hG5:=glob_le hG tl5
 refine .seq ?_
 refine Tc.db (R':= [(1,.pointer (some ⟨b1,0,none⟩)),(2,.pointer (some ⟨b2,0,none⟩)),(3,g3.val),(4,.int .i64 0),(5,g5.val),(6,.int .i64 2),(7,.int .i64 0),(8,g8.val),(9,.int .i64 0)]) (L':= [(b2,true,.cells ⟨(bkE.val eA elc eB etc).cells.toList⟩ 25 (0,0)),(b1,true,.cells ⟨(bkD.val dA dlc dB dtc).cells.toList⟩ 25 (0,0))]) ?_
 refine .r ?_
 refine .x (.ld 0) ?_
 refine To.callF rfl rfl rfl rfl rfl rfl (by decide) (FnT.f ca26 rfl (Reaches_c _ H5 bkE eA elc eB etc hE5.bk sE hG5 bkE_al)) (fun v H6 hv=> ?_)
 obtain⟨le6,g10,rfl,⟨ng10,lg10⟩,mg10⟩:=hv
 rw[ex_clE.2]
 refine .m ?_
 refine .x .et ?_
 refine .x .et ?_
 refine .x .et ?_
 refine .g ?_
 refine .g ?_
 refine .g ?_
 refine .done ?_
 have tl6:=View.le_trans tl5 le6
 have hD6:=hD5.le le6
 have hE6:=hE5.le le6
 have hG6:=glob_le hG tl6
 refine .seq ?_
 refine Tc.db (R':= [(1,.pointer (some ⟨b1,0,none⟩)),(2,.pointer (some ⟨b2,0,none⟩)),(3,g3.val),(4,.int .i64 0),(5,g5.val),(6,.int .i64 2),(7,.int .i64 0),(8,g8.val),(9,.int .i64 0),(10,g10.val),(11,.int .i64 0),(12,.int .i64 0)]) (L':= [(b2,true,.cells ⟨(bkE.val eA elc eB etc).cells.toList⟩ 25 (0,0)),(b1,true,.cells ⟨(bkD.val dA dlc dB dtc).cells.toList⟩ 25 (0,0))]) ?_
 have fl6:=fun(H':View) (p1 p2:Nat) (h':H6.le H') (k1:H' p1=some (true,.cells ⟨intsL [1,1,2]⟩ 3 (0,0))) (k2:H' p2=some (true,.cells ⟨intsL [3,9,9]⟩ 3 (0,0)))=> isV (Follow_c (Mp Tryz.prog) H' bkE eA elc eB etc (hE6.bk.le h') sE (glob_le hG6 h') (some ⟨p1,0,none⟩) (some ⟨p2,0,none⟩) 3 3 3 3 (exAt [1,1,2]) (exAt [3,9,9]) (ints_lit [1,1,2] k1) (ints_lit [3,9,9] k2)) ex_follow1
 refine .r ?_
 refine .x (.ld 0) ?_
 refine .e (.bs (zz:=fun p1=> ?_))
 refine .e (.bs (zz:=fun p2=> ?_))
 refine .c rfl rfl rfl rfl (fun H hs=> .f ca19 rfl (fl6 H p1 p2 hs.base (hs.get (i:=1) rfl) (hs.get (i:=0) rfl))) ?_
 refine .m ?_
 refine .x .et ?_
 refine .x .et ?_
 refine .x .et ?_
 refine .g ?_
 refine .g ?_
 refine .g ?_
 refine .done (.seq ?_)
 refine Tc.db (R':= [(1,.pointer (some ⟨b1,0,none⟩)),(2,.pointer (some ⟨b2,0,none⟩)),(3,g3.val),(4,.int .i64 0),(5,g5.val),(6,.int .i64 2),(7,.int .i64 0),(8,g8.val),(9,.int .i64 0),(10,g10.val),(11,.int .i64 0),(12,.int .i64 0),(13,strV [50,50]),(14,.int .i64 2),(15,.int .i64 0)]) (L':= [(b2,true,.cells ⟨(bkE.val eA elc eB etc).cells.toList⟩ 25 (0,0)),(b1,true,.cells ⟨(bkD.val dA dlc dB dtc).cells.toList⟩ 25 (0,0))]) ?_
 have fl7:=fun(H':View) (p1 p2:Nat) (h':H6.le H') (k1:H' p1=some (true,.cells ⟨intsL [1,1,2]⟩ 3 (0,0))) (k2:H' p2=some (true,.cells ⟨intsL [5,9,9]⟩ 3 (0,0)))=> isV (Follow_c (Mp Tryz.prog) H' bkE eA elc eB etc (hE6.bk.le h') sE (glob_le hG6 h') (some ⟨p1,0,none⟩) (some ⟨p2,0,none⟩) 3 3 3 3 (exAt [1,1,2]) (exAt [5,9,9]) (ints_lit [1,1,2] k1) (ints_lit [5,9,9] k2)) ex_follow2
 refine .r ?_
 refine .x (.ld 0) ?_
 refine .e (.bs (zz:=fun p1=> ?_))
 refine .e (.bs (zz:=fun p2=> ?_))
 refine .c rfl rfl rfl rfl (fun H hs=> .f ca19 rfl (fl7 H p1 p2 hs.base (hs.get (i:=1) rfl) (hs.get (i:=0) rfl))) ?_
 refine .m ?_
 refine .x .et ?_
 refine .x .et ?_
 refine .x .et ?_
 refine .g ?_
 refine .g ?_
 refine .g ?_
 refine .done (.seq ?_)
 refine Tc.db (R':= [(1,.pointer (some ⟨b1,0,none⟩)),(2,.pointer (some ⟨b2,0,none⟩)),(3,g3.val),(4,.int .i64 0),(5,g5.val),(6,.int .i64 2),(7,.int .i64 0),(8,g8.val),(9,.int .i64 0),(10,g10.val),(11,.int .i64 0),(12,.int .i64 0),(13,strV [50,50]),(14,.int .i64 2),(15,.int .i64 0),(16,strV [49,49,50]),(17,.int .i64 (-1)),(18,.int .i64 0)]) (L':= [(b2,true,.cells ⟨(bkE.val eA elc eB etc).cells.toList⟩ 25 (0,0)),(b1,true,.cells ⟨(bkD.val dA dlc dB dtc).cells.toList⟩ 25 (0,0))]) ?_
 refine .r ?_
 refine .x (.ld 1) ?_
 refine .c rfl rfl rfl rfl (fun H hs=> .f ca33 rfl (isV (Look_c H bkD dA dlc dB dtc dF dfc (hD6.le hs.base) sD (glob_le hG6 hs.base) bkD_al (by decide)) (congrArg lookV ex_look))) ?_
 refine .m ?_
 refine .x .et ?_
 refine .x .et ?_
 refine .x .et ?_
 refine .g ?_
 refine .g ?_
 refine .g ?_
 refine .done (.seq ?_)
 refine Tc.db (R':= [(1,.pointer (some ⟨b1,0,none⟩)),(2,.pointer (some ⟨b2,0,none⟩)),(3,g3.val),(4,.int .i64 0),(5,g5.val),(6,.int .i64 2),(7,.int .i64 0),(8,g8.val),(9,.int .i64 0),(10,g10.val),(11,.int .i64 0),(12,.int .i64 0),(13,strV [50,50]),(14,.int .i64 2),(15,.int .i64 0),(16,strV [49,49,50]),(17,.int .i64 (-1)),(18,.int .i64 0),(19,.int .i64 1),(20,.int .i64 1),(21,.int .i64 0)]) (L':= [(b2,true,.cells ⟨(bkE.val eA elc eB etc).cells.toList⟩ 25 (0,0)),(b1,true,.cells ⟨(bkD.val dA dlc dB dtc).cells.toList⟩ 25 (0,0))]) ?_
 refine .r ?_
 refine .x (.ld 1) ?_
 refine .c rfl rfl rfl rfl (fun H hs=> .f ca31 rfl (isV (Settled_c _ H bkD dA dlc dB dtc (hD6.bk.le hs.base) sD (glob_le hG6 hs.base) bkD_al) (congrArg settledV ex_setD))) ?_
 refine .m ?_
 refine .x .et ?_
 refine .x .et ?_
 refine .x .et ?_
 refine .x .et ?_
 refine .g ?_
 refine .g ?_
 refine .g ?_
 refine .g ?_
 refine .done (.seq ?_)
 refine Tc.db (R':= [(1,.pointer (some ⟨b1,0,none⟩)),(2,.pointer (some ⟨b2,0,none⟩)),(3,g3.val),(4,.int .i64 0),(5,g5.val),(6,.int .i64 2),(7,.int .i64 0),(8,g8.val),(9,.int .i64 0),(10,g10.val),(11,.int .i64 0),(12,.int .i64 0),(13,strV [50,50]),(14,.int .i64 2),(15,.int .i64 0),(16,strV [49,49,50]),(17,.int .i64 (-1)),(18,.int .i64 0),(19,.int .i64 1),(20,.int .i64 1),(21,.int .i64 0),(22,.int .i64 0),(23,.int .i64 0),(24,.bool false),(25,.int .i64 0)]) (L':= [(b2,true,.cells ⟨(bkE.val eA elc eB etc).cells.toList⟩ 25 (0,0)),(b1,true,.cells ⟨(bkD.val dA dlc dB dtc).cells.toList⟩ 25 (0,0))]) ?_
 refine Tc.viaB (fun H' R' L'=> ∃oA olc oB otc oF ofc b26,H6.le H'∧BookAt H' bkO oA olc oB otc oF ofc∧AllIn [(1,.pointer (some ⟨b1,0,none⟩)),(2,.pointer (some ⟨b2,0,none⟩)),(3,g3.val),(4,.int .i64 0),(5,g5.val),(6,.int .i64 2),(7,.int .i64 0),(8,g8.val),(9,.int .i64 0),(10,g10.val),(11,.int .i64 0),(12,.int .i64 0),(13,strV [50,50]),(14,.int .i64 2),(15,.int .i64 0),(16,strV [49,49,50]),(17,.int .i64 (-1)),(18,.int .i64 0),(19,.int .i64 1),(20,.int .i64 1),(21,.int .i64 0),(22,.int .i64 0),(23,.int .i64 0),(24,.bool false),(25,.int .i64 0),(26,.pointer (some ⟨b26,0,none⟩)),(27,.int .i64 0)] R'∧List.Sublist [(b26,true,.cells ⟨(bkO.val oA olc oB otc).cells.toList⟩ 25 (0,0)),(b2,true,.cells ⟨(bkE.val eA elc eB etc).cells.toList⟩ 25 (0,0)),(b1,true,.cells ⟨(bkD.val dA dlc dB dtc).cells.toList⟩ 25 (0,0))] L') ?_ (fun fin=> ?_)
 rotate_left
 · refine Tc.dr [7] [] mixed rfl ?_
   refine .q 0 rfl (OpV.load (E:=en) 1 rfl rfl rfl rfl rfl) ?_
   refine .z 1 rfl (OpV.takeCall rfl rfl rfl rfl (fun H hs=> .f ca79 rfl (train_c _ H 2 6))) ?_
   refine Ta.callL2 2 6 (by kernel_rfl) rfl rfl rfl rfl rfl rfl rfl (by decide) (FnT.f ca35 rfl (Know_c _ H6 bkD dA dlc dB dtc dF dfc hD6 sD hG6 bkD_al 1 (by decide) 2 2 6 6 ex_know.1 ex_know.2)) (by intro _ _ hh;exact hh.1) (by exact List.Sublist.refl _) (.inr (by exact List.Sublist.refl _)) (fun v Hk hv=> ?_) (TaOp.mk rfl rfl rfl (.al (zz:=fun b26=> ⟨S2.mk (by apply List.Sublist.cons;exact List.Sublist.refl _) (.inr (by apply List.Sublist.cons;exact List.Sublist.refl _)),?_⟩)))
   · obtain⟨lek,oA,olc,oB,otc,oF,ofc,rfl,hO⟩:=hv
     refine Ta.tk 3 (by kernel_rfl) rfl rfl (by decide) rfl rfl (OpV.take .mv) ?_
     refine Ta.tk 4 (by kernel_rfl) rfl rfl (by decide) rfl rfl (OpV.take .et) ?_
     refine Ta.tkw 5 (by kernel_rfl) rfl rfl rfl (by decide) rfl rfl (OpV.take .et) ?_
     refine Ta.each [6] (by kernel_rfl) rfl ⟨TaOp.mk rfl rfl rfl (.al (zz:=fun b26=> ⟨S2.mkL lek (by apply List.Sublist.cons;exact List.Sublist.refl _) (.inr (by apply List.Sublist.cons;exact List.Sublist.refl _)),?_⟩)),trivial⟩
     refine Ta.each [7] (by kernel_rfl) rfl ⟨TaOp.mk rfl rfl rfl (Or.storeT (E:=en) 0 rfl rfl rfl rfl rfl rfl rfl rfl rfl rfl rfl ⟨S2.mkL lek (by apply List.Sublist.cons;exact List.Sublist.refl _) (.inl (by kernel_rfl)),?_⟩),trivial⟩
     refine Ta.tkw 8 (by kernel_rfl) rfl rfl rfl (by decide) rfl rfl (OpV.take .sg) ?_
     refine Ta.done (by kernel_rfl) ?_
     exact fin _ _ _ ⟨oA,olc,oB,otc,oF,ofc,b26,lek,hO,⟨rfl,rfl,rfl,rfl,rfl,rfl,rfl,rfl,rfl,rfl,rfl,rfl,rfl,rfl,rfl,rfl,rfl,rfl,rfl,rfl,rfl,rfl,rfl,rfl,rfl,rfl,rfl,trivial⟩,(by exact List.Sublist.refl _)⟩
   · refine Ta.callL 2 (by kernel_rfl) rfl rfl rfl rfl rfl rfl rfl (by decide) (FnT.f ca35 rfl (Know_c _ H6 bkD dA dlc dB dtc dF dfc hD6 sD hG6 bkD_al 1 (by decide) 2 2 6 6 ex_know.1 ex_know.2)) (by intro _ _ hh;exact hh.1) (by apply List.Sublist.cons;exact List.Sublist.refl _) (.inr (by apply List.Sublist.cons;exact List.Sublist.refl _)) (fun v Hk hv=> ?_)
     obtain⟨lek,oA,olc,oB,otc,oF,ofc,rfl,hO⟩:=hv
     refine Ta.tk 3 (by kernel_rfl) rfl rfl (by decide) rfl rfl (OpV.take .mv) ?_
     refine Ta.tk 4 (by kernel_rfl) rfl rfl (by decide) rfl rfl (OpV.take .et) ?_
     refine Ta.tkw 5 (by kernel_rfl) rfl rfl rfl (by decide) rfl rfl (OpV.take .et) ?_
     refine Ta.each [7] (by kernel_rfl) rfl ⟨TaOp.mk rfl rfl rfl (Or.storeT (E:=en) 0 rfl rfl rfl rfl rfl rfl rfl rfl rfl rfl rfl ⟨S2.mkL lek (by apply List.Sublist.cons;exact List.Sublist.refl _) (.inl (by kernel_rfl)),?_⟩),trivial⟩
     refine Ta.tkw 8 (by kernel_rfl) rfl rfl rfl (by decide) rfl rfl (OpV.take .sg) ?_
     refine Ta.done (by kernel_rfl) ?_
     exact fin _ _ _ ⟨oA,olc,oB,otc,oF,ofc,b26,lek,hO,⟨rfl,rfl,rfl,rfl,rfl,rfl,rfl,rfl,rfl,rfl,rfl,rfl,rfl,rfl,rfl,rfl,rfl,rfl,rfl,rfl,rfl,rfl,rfl,rfl,rfl,rfl,rfl,trivial⟩,(by exact List.Sublist.refl _)⟩
 rintro H7 R' L' ⟨oA,olc,oB,otc,oF,ofc,b26,le7,hO7,hR,hL⟩
 have tl7:=View.le_trans tl6 le7
 have hD7:=hD6.le le7
 have hE7:=hE6.le le7
 have hG7:=glob_le hG tl7
 refine Tc.dropB (R':= [(1,.pointer (some ⟨b1,0,none⟩)),(2,.pointer (some ⟨b2,0,none⟩)),(3,g3.val),(4,.int .i64 0),(5,g5.val),(6,.int .i64 2),(7,.int .i64 0),(8,g8.val),(9,.int .i64 0),(10,g10.val),(11,.int .i64 0),(12,.int .i64 0),(13,strV [50,50]),(14,.int .i64 2),(15,.int .i64 0),(16,strV [49,49,50]),(17,.int .i64 (-1)),(18,.int .i64 0),(19,.int .i64 1),(20,.int .i64 1),(21,.int .i64 0),(22,.int .i64 0),(23,.int .i64 0),(24,.bool false),(25,.int .i64 0),(26,.pointer (some ⟨b26,0,none⟩)),(27,.int .i64 0)]) (L':= [(b26,true,.cells ⟨(bkO.val oA olc oB otc).cells.toList⟩ 25 (0,0)),(b2,true,.cells ⟨(bkE.val eA elc eB etc).cells.toList⟩ 25 (0,0)),(b1,true,.cells ⟨(bkD.val dA dlc dB dtc).cells.toList⟩ 25 (0,0))]) ?_ hR hL
 refine .sr ?_
 refine .x (.ld 0) ?_
 refine .c rfl rfl rfl rfl (fun H hs=> .f ca31 rfl (isV (Settled_c _ H bkO oA olc oB otc (hO7.bk.le hs.base) sO (glob_le hG7 hs.base) bkO_al) (congrArg settledV ex_setO))) ?_
 refine .m ?_
 refine .x .et ?_
 refine .x .et ?_
 refine .x .et ?_
 refine .x .et ?_
 refine .g ?_
 refine .g ?_
 refine .g ?_
 refine .g ?_
 refine .done (.seq ?_)
 refine Tc.db (R':= [(1,.pointer (some ⟨b1,0,none⟩)),(2,.pointer (some ⟨b2,0,none⟩)),(3,g3.val),(4,.int .i64 0),(5,g5.val),(6,.int .i64 2),(7,.int .i64 0),(8,g8.val),(9,.int .i64 0),(10,g10.val),(11,.int .i64 0),(12,.int .i64 0),(13,strV [50,50]),(14,.int .i64 2),(15,.int .i64 0),(16,strV [49,49,50]),(17,.int .i64 (-1)),(18,.int .i64 0),(19,.int .i64 1),(20,.int .i64 1),(21,.int .i64 0),(22,.int .i64 0),(23,.int .i64 0),(24,.bool false),(25,.int .i64 0),(26,.pointer (some ⟨b26,0,none⟩)),(27,.int .i64 0),(28,.int .i64 2),(29,.int .i64 0),(30,.bool true),(31,.int .i64 0)]) (L':= [(b26,true,.cells ⟨(bkO.val oA olc oB otc).cells.toList⟩ 25 (0,0)),(b2,true,.cells ⟨(bkE.val eA elc eB etc).cells.toList⟩ 25 (0,0)),(b1,true,.cells ⟨(bkD.val dA dlc dB dtc).cells.toList⟩ 25 (0,0))]) ?_
 have e2:bkD.needTo 1 (bkD.nf 1)=2:=ex_taken.2
 refine .r ?_
 refine .x (.ld 2) ?_
 refine To.callF rfl rfl rfl rfl rfl rfl (by decide) (FnT.f ca29 rfl (Taken_c _ H7 bkD dA dlc dB dtc hD7.bk sD hG7 bkD_al 1 (by decide))) (fun v H8 hv=> ?_)
 obtain⟨le8,g32,rfl,⟨ng32,lg32⟩,mg32⟩:=hv
 rw[e2]
 refine .m ?_
 refine .x .et ?_
 refine .x .et ?_
 refine .x .et ?_
 refine .g ?_
 refine .g ?_
 refine .g ?_
 refine .done ?_
 have tl8:=View.le_trans tl7 le8
 have hD8:=hD7.le le8
 have hE8:=hE7.le le8
 have hO8:=hO7.le le8
 have hG8:=glob_le hG tl8
 refine .seq ?_
 refine Tc.db (R':= [(1,.pointer (some ⟨b1,0,none⟩)),(2,.pointer (some ⟨b2,0,none⟩)),(3,g3.val),(4,.int .i64 0),(5,g5.val),(6,.int .i64 2),(7,.int .i64 0),(8,g8.val),(9,.int .i64 0),(10,g10.val),(11,.int .i64 0),(12,.int .i64 0),(13,strV [50,50]),(14,.int .i64 2),(15,.int .i64 0),(16,strV [49,49,50]),(17,.int .i64 (-1)),(18,.int .i64 0),(19,.int .i64 1),(20,.int .i64 1),(21,.int .i64 0),(22,.int .i64 0),(23,.int .i64 0),(24,.bool false),(25,.int .i64 0),(26,.pointer (some ⟨b26,0,none⟩)),(27,.int .i64 0),(28,.int .i64 2),(29,.int .i64 0),(30,.bool true),(31,.int .i64 0),(32,g32.val),(33,.int .i64 2),(34,.int .i64 0)]) (L':= [(b26,true,.cells ⟨(bkO.val oA olc oB otc).cells.toList⟩ 25 (0,0)),(b2,true,.cells ⟨(bkE.val eA elc eB etc).cells.toList⟩ 25 (0,0)),(b1,true,.cells ⟨(bkD.val dA dlc dB dtc).cells.toList⟩ 25 (0,0))]) ?_
 refine .r ?_
 refine .x (.ld 2) ?_
 refine To.callF rfl rfl rfl rfl rfl rfl (by decide) (FnT.f ca58 rfl (Slips_c _ H8 bkD dA dlc dB dtc hD8.bk sD hG8 bkD_al 0 (by decide))) (fun v H9 hv=> ?_)
 obtain⟨le9,g35,sm,rfl,⟨st1,st2⟩,⟨ng35,lg35⟩,mg35⟩:=hv
 have e35:ddTo sm sm.length= [1,2]:=by rw[st1.len,ints_asc rfl st1 st2];exact ex_slips
 rw[e35] at ng35 lg35
 refine .m ?_
 refine .x .et ?_
 refine .x .et ?_
 refine .g ?_
 refine .g ?_
 refine .done ?_
 have tl9:=View.le_trans tl8 le9
 have hD9:=hD8.le le9
 have hE9:=hE8.le le9
 have hO9:=hO8.le le9
 have hG9:=glob_le hG tl9
 refine .seq ?_
 refine Tc.db (R':= [(1,.pointer (some ⟨b1,0,none⟩)),(2,.pointer (some ⟨b2,0,none⟩)),(3,g3.val),(4,.int .i64 0),(5,g5.val),(6,.int .i64 2),(7,.int .i64 0),(8,g8.val),(9,.int .i64 0),(10,g10.val),(11,.int .i64 0),(12,.int .i64 0),(13,strV [50,50]),(14,.int .i64 2),(15,.int .i64 0),(16,strV [49,49,50]),(17,.int .i64 (-1)),(18,.int .i64 0),(19,.int .i64 1),(20,.int .i64 1),(21,.int .i64 0),(22,.int .i64 0),(23,.int .i64 0),(24,.bool false),(25,.int .i64 0),(26,.pointer (some ⟨b26,0,none⟩)),(27,.int .i64 0),(28,.int .i64 2),(29,.int .i64 0),(30,.bool true),(31,.int .i64 0),(32,g32.val),(33,.int .i64 2),(34,.int .i64 0),(35,g35.val),(36,.int .i64 0)]) (L':= [(b26,true,.cells ⟨(bkO.val oA olc oB otc).cells.toList⟩ 25 (0,0)),(b2,true,.cells ⟨(bkE.val eA elc eB etc).cells.toList⟩ 25 (0,0)),(b1,true,.cells ⟨(bkD.val dA dlc dB dtc).cells.toList⟩ 25 (0,0))]) ?_
 refine .r ?_
 refine .x (.ld 2) ?_
 refine .c rfl rfl rfl rfl (fun H hs=> .f ca52 rfl (isV (Safe_c _ H bkD dA dlc dB dtc (hD9.bk.le hs.base) sD (glob_le hG9 hs.base) [51] (by decide)) ex_safe3)) ?_
 refine .m ?_
 refine .x .et ?_
 refine .x .et ?_
 refine .g ?_
 refine .g ?_
 refine .done (.seq ?_)
 refine Tc.db (R':= [(1,.pointer (some ⟨b1,0,none⟩)),(2,.pointer (some ⟨b2,0,none⟩)),(3,g3.val),(4,.int .i64 0),(5,g5.val),(6,.int .i64 2),(7,.int .i64 0),(8,g8.val),(9,.int .i64 0),(10,g10.val),(11,.int .i64 0),(12,.int .i64 0),(13,strV [50,50]),(14,.int .i64 2),(15,.int .i64 0),(16,strV [49,49,50]),(17,.int .i64 (-1)),(18,.int .i64 0),(19,.int .i64 1),(20,.int .i64 1),(21,.int .i64 0),(22,.int .i64 0),(23,.int .i64 0),(24,.bool false),(25,.int .i64 0),(26,.pointer (some ⟨b26,0,none⟩)),(27,.int .i64 0),(28,.int .i64 2),(29,.int .i64 0),(30,.bool true),(31,.int .i64 0),(32,g32.val),(33,.int .i64 2),(34,.int .i64 0),(35,g35.val),(36,.int .i64 0),(37,.bool false),(38,.int .i64 0)]) (L':= [(b26,true,.cells ⟨(bkO.val oA olc oB otc).cells.toList⟩ 25 (0,0)),(b2,true,.cells ⟨(bkE.val eA elc eB etc).cells.toList⟩ 25 (0,0)),(b1,true,.cells ⟨(bkD.val dA dlc dB dtc).cells.toList⟩ 25 (0,0))]) ?_
 refine .r ?_
 refine .x (.ld 2) ?_
 refine .c rfl rfl rfl rfl (fun H hs=> .f ca52 rfl (isV (Safe_c _ H bkD dA dlc dB dtc (hD9.bk.le hs.base) sD (glob_le hG9 hs.base) [53] (by decide)) ex_safe5)) ?_
 refine .m ?_
 refine .x .et ?_
 refine .x .et ?_
 refine .g ?_
 refine .g ?_
 refine .done (.seq ?_)
 refine Tc.db (R':= [(1,.pointer (some ⟨b1,0,none⟩)),(2,.pointer (some ⟨b2,0,none⟩)),(3,g3.val),(4,.int .i64 0),(5,g5.val),(6,.int .i64 2),(7,.int .i64 0),(8,g8.val),(9,.int .i64 0),(10,g10.val),(11,.int .i64 0),(12,.int .i64 0),(13,strV [50,50]),(14,.int .i64 2),(15,.int .i64 0),(16,strV [49,49,50]),(17,.int .i64 (-1)),(18,.int .i64 0),(19,.int .i64 1),(20,.int .i64 1),(21,.int .i64 0),(22,.int .i64 0),(23,.int .i64 0),(24,.bool false),(25,.int .i64 0),(26,.pointer (some ⟨b26,0,none⟩)),(27,.int .i64 0),(28,.int .i64 2),(29,.int .i64 0),(30,.bool true),(31,.int .i64 0),(32,g32.val),(33,.int .i64 2),(34,.int .i64 0),(35,g35.val),(36,.int .i64 0),(37,.bool false),(38,.int .i64 0),(39,.bool true),(40,.int .i64 0)]) (L':= [(b26,true,.cells ⟨(bkO.val oA olc oB otc).cells.toList⟩ 25 (0,0)),(b2,true,.cells ⟨(bkE.val eA elc eB etc).cells.toList⟩ 25 (0,0)),(b1,true,.cells ⟨(bkD.val dA dlc dB dtc).cells.toList⟩ 25 (0,0))]) ?_
 refine .r ?_
 refine .x (.ld 2) ?_
 refine .c rfl rfl rfl rfl (fun H hs=> .f ca50 rfl (isV (Spare_c _ H bkD dA dlc dB dtc (hD9.bk.le hs.base) sD (glob_le hG9 hs.base) 1 true) ex_spare)) ?_
 refine .m ?_
 refine .x .et ?_
 refine .x .et ?_
 refine .x .et ?_
 refine .g ?_
 refine .g ?_
 refine .g ?_
 refine .done (.seq ?_)
 refine Tc.db (R':= [(1,.pointer (some ⟨b1,0,none⟩)),(2,.pointer (some ⟨b2,0,none⟩)),(3,g3.val),(4,.int .i64 0),(5,g5.val),(6,.int .i64 2),(7,.int .i64 0),(8,g8.val),(9,.int .i64 0),(10,g10.val),(11,.int .i64 0),(12,.int .i64 0),(13,strV [50,50]),(14,.int .i64 2),(15,.int .i64 0),(16,strV [49,49,50]),(17,.int .i64 (-1)),(18,.int .i64 0),(19,.int .i64 1),(20,.int .i64 1),(21,.int .i64 0),(22,.int .i64 0),(23,.int .i64 0),(24,.bool false),(25,.int .i64 0),(26,.pointer (some ⟨b26,0,none⟩)),(27,.int .i64 0),(28,.int .i64 2),(29,.int .i64 0),(30,.bool true),(31,.int .i64 0),(32,g32.val),(33,.int .i64 2),(34,.int .i64 0),(35,g35.val),(36,.int .i64 0),(37,.bool false),(38,.int .i64 0),(39,.bool true),(40,.int .i64 0),(41,strV [48]),(42,.bool true),(43,.int .i64 0)]) (L':= [(b26,true,.cells ⟨(bkO.val oA olc oB otc).cells.toList⟩ 25 (0,0)),(b2,true,.cells ⟨(bkE.val eA elc eB etc).cells.toList⟩ 25 (0,0)),(b1,true,.cells ⟨(bkD.val dA dlc dB dtc).cells.toList⟩ 25 (0,0))]) ?_
 refine .r ?_
 refine .c rfl rfl rfl rfl (fun H hs=> .f ca67 rfl (isV (Pulses_c _ H [49,50,48] (by decide)) ex_pulses)) ?_
 refine .m ?_
 refine .x .et ?_
 refine .x .et ?_
 refine .g ?_
 refine .g ?_
 refine .done (.seq ?_)
 refine Tc.db (R':= [(1,.pointer (some ⟨b1,0,none⟩)),(2,.pointer (some ⟨b2,0,none⟩)),(3,g3.val),(4,.int .i64 0),(5,g5.val),(6,.int .i64 2),(7,.int .i64 0),(8,g8.val),(9,.int .i64 0),(10,g10.val),(11,.int .i64 0),(12,.int .i64 0),(13,strV [50,50]),(14,.int .i64 2),(15,.int .i64 0),(16,strV [49,49,50]),(17,.int .i64 (-1)),(18,.int .i64 0),(19,.int .i64 1),(20,.int .i64 1),(21,.int .i64 0),(22,.int .i64 0),(23,.int .i64 0),(24,.bool false),(25,.int .i64 0),(26,.pointer (some ⟨b26,0,none⟩)),(27,.int .i64 0),(28,.int .i64 2),(29,.int .i64 0),(30,.bool true),(31,.int .i64 0),(32,g32.val),(33,.int .i64 2),(34,.int .i64 0),(35,g35.val),(36,.int .i64 0),(37,.bool false),(38,.int .i64 0),(39,.bool true),(40,.int .i64 0),(41,strV [48]),(42,.bool true),(43,.int .i64 0),(44,.int .i64 13),(45,.int .i64 0)]) (L':= [(b26,true,.cells ⟨(bkO.val oA olc oB otc).cells.toList⟩ 25 (0,0)),(b2,true,.cells ⟨(bkE.val eA elc eB etc).cells.toList⟩ 25 (0,0)),(b1,true,.cells ⟨(bkD.val dA dlc dB dtc).cells.toList⟩ 25 (0,0))]) ?_
 refine .r ?_
 refine .e (.bs (zz:=fun bw=> ?_))
 refine To.permL2 (L₁:= [(b26,true,.cells ⟨(bkO.val oA olc oB otc).cells.toList⟩ 25 (0,0)),(b2,true,.cells ⟨(bkE.val eA elc eB etc).cells.toList⟩ 25 (0,0)),(b1,true,.cells ⟨(bkD.val dA dlc dB dtc).cells.toList⟩ 25 (0,0))]++[(bw,true,.cells ⟨intsL [5,3,1]⟩ 3 (0,0))]) (by exact List.perm_append_comm) ?_
 refine To.lift (L₂:= [(b26,true,.cells ⟨(bkO.val oA olc oB otc).cells.toList⟩ 25 (0,0)),(b2,true,.cells ⟨(bkE.val eA elc eB etc).cells.toList⟩ 25 (0,0)),(b1,true,.cells ⟨(bkD.val dA dlc dB dtc).cells.toList⟩ 25 (0,0))]) (L₁:= [(bw,true,.cells ⟨intsL [5,3,1]⟩ 3 (0,0))]) rfl (fun H10 hw=> ?_)
 have le10:=hw.base
 have tl10:=View.le_trans tl9 le10
 have hD10:=hD9.le le10
 have hE10:=hE9.le le10
 have hO10:=hO9.le le10
 have hG10:=glob_le hG tl10
 obtain⟨xc1,xc2,xc3,xc4,xc5⟩:=ex_cheap
 have al5:(cheap (exAt [5,3,1]) 3 2 2).al=0:=by unfold ChSt.al;rw[xc4];rfl
 refine To.callF rfl rfl rfl rfl rfl rfl (by decide) (FnT.f ca53 rfl (Cheapest_c _ H10 (some ⟨bw,0,none⟩) 3 3 (exAt [5,3,1]) (ints_lit [5,3,1] (hw.get (i:=0) rfl)) 2 2 (by decide) xc2 (by decide) (by decide) xc1)) (fun v H11 hv=> ?_)
 obtain⟨le11,ca,cn,cc,rfl,cn1,cs1⟩:=hv
 rw[xc5] at cn1 cs1
 rw[xc3,al5]
 refine .m ?_
 refine .x .et ?_
 refine .x .et ?_
 refine .x .et ?_
 refine .g ?_
 refine .g ?_
 refine .g ?_
 refine .done ?_
 have tl11:=View.le_trans tl10 le11
 have hD11:=hD10.le le11
 have hE11:=hE10.le le11
 have hO11:=hO10.le le11
 have hG11:=glob_le hG tl11
 refine .seq (.seq ?_)
 refine Tc.db (R':= [(1,.pointer (some ⟨b1,0,none⟩)),(2,.pointer (some ⟨b2,0,none⟩)),(3,g3.val),(4,.int .i64 0),(5,g5.val),(6,.int .i64 2),(7,.int .i64 0),(8,g8.val),(9,.int .i64 0),(10,g10.val),(11,.int .i64 0),(12,.int .i64 0),(13,strV [50,50]),(14,.int .i64 2),(15,.int .i64 0),(16,strV [49,49,50]),(17,.int .i64 (-1)),(18,.int .i64 0),(19,.int .i64 1),(20,.int .i64 1),(21,.int .i64 0),(22,.int .i64 0),(23,.int .i64 0),(24,.bool false),(25,.int .i64 0),(26,.pointer (some ⟨b26,0,none⟩)),(27,.int .i64 0),(28,.int .i64 2),(29,.int .i64 0),(30,.bool true),(31,.int .i64 0),(32,g32.val),(33,.int .i64 2),(34,.int .i64 0),(35,g35.val),(36,.int .i64 0),(37,.bool false),(38,.int .i64 0),(39,.bool true),(40,.int .i64 0),(41,strV [48]),(42,.bool true),(43,.int .i64 0),(44,.int .i64 13),(45,.int .i64 0),(46,.slice ca cn cc),(47,.int .i64 18),(48,.int .i64 0)]) (L':= [(b26,true,.cells ⟨(bkO.val oA olc oB otc).cells.toList⟩ 25 (0,0)),(b2,true,.cells ⟨(bkE.val eA elc eB etc).cells.toList⟩ 25 (0,0)),(b1,true,.cells ⟨(bkD.val dA dlc dB dtc).cells.toList⟩ 25 (0,0))]) ?_
 refine .r ?_
 refine .m ?_
 refine .i ?_ (z:=neq_f (by omega))
 refine .m ?_
 refine .m ?_
 refine .i ?_ (z:=neq_f (by omega))
 refine .x .pk ?_
 refine .m ?_
 refine .m ?_
 refine .i ?_ (z:=neq_f (by omega))
 refine .x .pk ?_
 refine .m ?_
 refine .m ?_
 refine .i ?_ (z:=neq_f (by omega))
 refine .x .pk ?_
 refine .m ?_
 refine .m ?_
 refine .i ?_ (z:=neq_f (by omega))
 refine .x .pk ?_
 refine .m ?_
 refine .m ?_
 refine .i ?_ (z:=neq_f (by omega))
 refine .x .pk ?_
 refine .m ?_
 refine .m ?_
 refine .i ?_ (z:=neq_f (by omega))
 refine .x .pk ?_
 refine .m ?_
 refine .m ?_
 refine .i ?_ (z:=neq_f (by omega))
 refine .x .pk ?_
 refine .m ?_
 refine .m ?_
 refine .i ?_ (z:=neq_f (by omega))
 refine .x .pk ?_
 refine .m ?_
 refine .m ?_
 refine .i ?_ (z:=neq_f (by omega))
 refine .x .pk ?_
 refine .m ?_
 refine .m ?_
 refine .i ?_ (z:=neq_f (by omega))
 refine .x .pk ?_
 refine .m ?_
 refine .m ?_
 refine .i ?_ (z:=neq_f (by omega))
 refine .x .pk ?_
 refine .m ?_
 refine .m ?_
 refine .i ?_ (z:=neq_f (by omega))
 refine .x .pk ?_
 refine .m ?_
 refine .m ?_
 refine .i ?_ (z:=neq_f (by omega))
 refine .x .pk ?_
 refine .m ?_
 refine .m ?_
 refine .i ?_ (z:=neq_f (by omega))
 refine .x .pk ?_
 refine .m ?_
 refine .m ?_
 refine .i ?_ (z:=neq_f (by omega))
 refine .x .pk ?_
 refine .m ?_
 refine .m ?_
 refine .i ?_ (z:=neq_f (by omega))
 refine .x .pk ?_
 refine .done (.ff rfl (.skip (.seq (.seq ?_))))
 refine Tc.db (R':= [(1,.pointer (some ⟨b1,0,none⟩)),(2,.pointer (some ⟨b2,0,none⟩)),(3,g3.val),(4,.int .i64 0),(5,g5.val),(6,.int .i64 2),(7,.int .i64 0),(8,g8.val),(9,.int .i64 0),(10,g10.val),(11,.int .i64 0),(12,.int .i64 0),(13,strV [50,50]),(14,.int .i64 2),(15,.int .i64 0),(16,strV [49,49,50]),(17,.int .i64 (-1)),(18,.int .i64 0),(19,.int .i64 1),(20,.int .i64 1),(21,.int .i64 0),(22,.int .i64 0),(23,.int .i64 0),(24,.bool false),(25,.int .i64 0),(26,.pointer (some ⟨b26,0,none⟩)),(27,.int .i64 0),(28,.int .i64 2),(29,.int .i64 0),(30,.bool true),(31,.int .i64 0),(32,g32.val),(33,.int .i64 2),(34,.int .i64 0),(35,g35.val),(36,.int .i64 0),(37,.bool false),(38,.int .i64 0),(39,.bool true),(40,.int .i64 0),(41,strV [48]),(42,.bool true),(43,.int .i64 0),(44,.int .i64 13),(45,.int .i64 0),(46,.slice ca cn cc),(47,.int .i64 18),(48,.int .i64 0)]) (L':= [(b26,true,.cells ⟨(bkO.val oA olc oB otc).cells.toList⟩ 25 (0,0)),(b2,true,.cells ⟨(bkE.val eA elc eB etc).cells.toList⟩ 25 (0,0)),(b1,true,.cells ⟨(bkD.val dA dlc dB dtc).cells.toList⟩ 25 (0,0))]) ?_
 have up:∀ {A B C:View},A.le B→B.le C→A.le C:=View.le_trans
 have w3:=fun(H':View) (h':H11.le H') (bs:Nat) (k1:H' bs=some (true,.cells ⟨strsV [[49,50],[49,51]]⟩ 9 (0,0)))=> SameWords_c (Mp Tryz.prog) H' (g3.blk.map fun b=> ⟨b,0,none⟩) (some ⟨bs,0,none⟩) g3.n ([[49,50],[49,51]]:List (List UInt8)).length g3.cap ([[49,50],[49,51]]:List (List UInt8)).length _ _ (strs_of (g0:=g3) g3 (fun x hx=> h' _ _ ((up (up (up (up (up (up (up le4 le5) le6) le7) le8) le9) le10) le11) _ _ (mg3 x hx).1)) lg3 rfl rfl) (strs_lit [[49,50],[49,51]] k1) (by rw[ng3];decide) (by decide) true (words_true [[49,50],[49,51]] ng3)
 have w8:=fun(H':View) (h':H11.le H') (bs:Nat) (k1:H' bs=some (true,.cells ⟨strsV [[49,49,50],[50,50]]⟩ 9 (0,0)))=> SameWords_c (Mp Tryz.prog) H' (g8.blk.map fun b=> ⟨b,0,none⟩) (some ⟨bs,0,none⟩) g8.n ([[49,49,50],[50,50]]:List (List UInt8)).length g8.cap ([[49,49,50],[50,50]]:List (List UInt8)).length _ _ (strs_of (g0:=g8) g8 (fun x hx=> h' _ _ ((up (up (up (up (up le6 le7) le8) le9) le10) le11) _ _ (mg8 x hx).1)) lg8 rfl rfl) (strs_lit [[49,49,50],[50,50]] k1) (by rw[ng8];decide) (by decide) true (words_true [[49,49,50],[50,50]] ng8)
 have c5:=fun(H':View) (h':H11.le H') (bs:Nat) (k1:H' bs=some (true,.cells ⟨intsL [0,0,2]⟩ 38 (0,0)))=> claims_c (Mp Tryz.prog) H' (g5.blk.map fun b=> ⟨b,0,none⟩) (some ⟨bs,0,none⟩) g5.n ([0,0,2]:List Int).length g5.cap ([0,0,2]:List Int).length (fun i=> bkD.claimOf (i:Nat)) _ (by rw[ng5];exact cl_at g5 (fun x hx=> h' _ _ ((up (up (up (up (up (up le5 le6) le7) le8) le9) le10) le11) _ _ (mg5 x hx).1)) lg5 ng5) (ints_lit [0,0,2] k1) (by rw[ng5];decide) (by decide) true (by rw[ng5];rw[decide_eq_true (by rfl)];show(true&&allB _ 3)=true;rw[(allB_iff _).2 (three (decide_eq_true ex_clD.1.1) (decide_eq_true ex_clD.1.2.1) (decide_eq_true ex_clD.1.2.2))];rfl)
 have c10:=fun(H':View) (h':H11.le H') (bs:Nat) (k1:H' bs=some (true,.cells ⟨intsL [2,2,0]⟩ 38 (0,0)))=> claims_c (Mp Tryz.prog) H' (g10.blk.map fun b=> ⟨b,0,none⟩) (some ⟨bs,0,none⟩) g10.n ([2,2,0]:List Int).length g10.cap ([2,2,0]:List Int).length (fun i=> bkE.claimOf (i:Nat)) _ (by rw[ng10];exact cl_at g10 (fun x hx=> h' _ _ ((up (up (up (up le7 le8) le9) le10) le11) _ _ (mg10 x hx).1)) lg10 ng10) (ints_lit [2,2,0] k1) (by rw[ng10];decide) (by decide) true (by rw[ng10];rw[decide_eq_true (by rfl)];show(true&&allB _ 3)=true;rw[(allB_iff _).2 (three (decide_eq_true ex_clE.1.1) (decide_eq_true ex_clE.1.2.1) (decide_eq_true ex_clE.1.2.2))];rfl)
 refine .r ?_
 refine .m ?_
 refine .e (.bs (zz:=fun x1=> ?_))
 refine .c rfl rfl rfl rfl (fun H hs=> .f ca25 rfl (w3 H hs.base x1 (hs.get (i:=0) rfl))) ?_
 refine .x .nt ?_
 refine .m ?_
 refine .m ?_
 refine .e (.bs (zz:=fun x2=> ?_))
 refine .c rfl rfl rfl rfl (fun H hs=> .f ca80 rfl (c5 H hs.base x2 (hs.get (i:=0) rfl))) ?_
 refine .x .nt ?_
 refine .x .pk ?_
 refine .m ?_
 refine .m ?_
 refine .i ?_ (z:=neq_f (by omega))
 refine .x .pk ?_
 refine .m ?_
 refine .m ?_
 refine .e (.bs (zz:=fun x3=> ?_))
 refine .c rfl rfl rfl rfl (fun H hs=> .f ca25 rfl (w8 H hs.base x3 (hs.get (i:=0) rfl))) ?_
 refine .x .nt ?_
 refine .x .pk ?_
 refine .m ?_
 refine .m ?_
 refine .e (.bs (zz:=fun x4=> ?_))
 refine .c rfl rfl rfl rfl (fun H hs=> .f ca80 rfl (c10 H hs.base x4 (hs.get (i:=0) rfl))) ?_
 refine .x .nt ?_
 refine .x .pk ?_
 refine .m ?_
 refine .m ?_
 refine .i ?_ (z:=neq_f (by omega))
 refine .x .pk ?_
 refine .m ?_
 refine .m ?_
 refine .x (OpV.strB rfl rfl rfl (by exact rfl)) ?_
 refine .x .pk ?_
 refine .m ?_
 refine .m ?_
 refine .i ?_ (z:=neq_f (by omega))
 refine .x .pk ?_
 refine .m ?_
 refine .m ?_
 refine .x (OpV.strB rfl rfl rfl (by exact rfl)) ?_
 refine .x .pk ?_
 refine .m ?_
 refine .m ?_
 refine .i ?_ (z:=neq_f (by omega))
 refine .x .pk ?_
 refine .m ?_
 refine .m ?_
 refine .i ?_ (z:=neq_f (by omega))
 refine .x .pk ?_
 refine .m ?_
 refine .m ?_
 refine .i ?_ (z:=neq_f (by omega))
 refine .x .pk ?_
 refine .m ?_
 refine .m ?_
 refine .x .pk ?_
 refine .done (.ff rfl (.skip (.seq ?_)))
 refine Tc.db (R':= [(1,.pointer (some ⟨b1,0,none⟩)),(2,.pointer (some ⟨b2,0,none⟩)),(3,g3.val),(4,.int .i64 0),(5,g5.val),(6,.int .i64 2),(7,.int .i64 0),(8,g8.val),(9,.int .i64 0),(10,g10.val),(11,.int .i64 0),(12,.int .i64 0),(13,strV [50,50]),(14,.int .i64 2),(15,.int .i64 0),(16,strV [49,49,50]),(17,.int .i64 (-1)),(18,.int .i64 0),(19,.int .i64 1),(20,.int .i64 1),(21,.int .i64 0),(22,.int .i64 0),(23,.int .i64 0),(24,.bool false),(25,.int .i64 0),(26,.pointer (some ⟨b26,0,none⟩)),(27,.int .i64 0),(28,.int .i64 2),(29,.int .i64 0),(30,.bool true),(31,.int .i64 0),(32,g32.val),(33,.int .i64 2),(34,.int .i64 0),(35,g35.val),(36,.int .i64 0),(37,.bool false),(38,.int .i64 0),(39,.bool true),(40,.int .i64 0),(41,strV [48]),(42,.bool true),(43,.int .i64 0),(44,.int .i64 13),(45,.int .i64 0),(46,.slice ca cn cc),(47,.int .i64 18),(48,.int .i64 0)]) (L':= [(b26,true,.cells ⟨(bkO.val oA olc oB otc).cells.toList⟩ 25 (0,0)),(b2,true,.cells ⟨(bkE.val eA elc eB etc).cells.toList⟩ 25 (0,0)),(b1,true,.cells ⟨(bkD.val dA dlc dB dtc).cells.toList⟩ 25 (0,0))]) ?_
 have c32:=fun(H':View) (h':H11.le H') (bs:Nat) (k1:H' bs=some (true,.cells ⟨intsL [2,0]⟩ 38 (0,0)))=> claims_c (Mp Tryz.prog) H' (g32.blk.map fun b=> ⟨b,0,none⟩) (some ⟨bs,0,none⟩) g32.n ([2,0]:List Int).length g32.cap ([2,0]:List Int).length (bkD.takenAt 1) _ (by rw[ng32];exact cl_at g32 (fun x hx=> h' _ _ ((up (up le9 le10) le11) _ _ (mg32 x hx).1)) lg32 ng32) (ints_lit [2,0] k1) (by rw[ng32];decide) (by decide) true (by rw[ng32];rw[decide_eq_true (by rfl)];show(true&&allB _ 2)=true;rw[(allB_iff _).2 (two (decide_eq_true ex_taken.1.1) (decide_eq_true ex_taken.1.2))];rfl)
 have n35:=fun(H':View) (h':H11.le H') (bs:Nat) (k1:H' bs=some (true,.cells ⟨intsL [1,2]⟩ 3 (0,0)))=> SameNums_eq (Mp Tryz.prog) H' (g35.blk.map fun b=> ⟨b,0,none⟩) (some ⟨bs,0,none⟩) 2 g35.cap 2 (exAt [1,2]) (exAt [1,2]) (cl_at g35 (fun x hx=> h' _ _ ((up le10 le11) _ _ (mg35 x hx).1)) (lg35.trans (clL_ints _)) ng35) (ints_lit [1,2] k1) (by decide) (fun _ _=> rfl)
 have w46:=fun(H':View) (h':H11.le H') (bs:Nat) (k1:H' bs=some (true,.cells ⟨strsV [[49],[50,49],[50,50]]⟩ 9 (0,0)))=> SameWords_c (Mp Tryz.prog) H' ca (some ⟨bs,0,none⟩) cn ([[49],[50,49],[50,50]]:List (List UInt8)).length cc ([[49],[50,49],[50,50]]:List (List UInt8)).length _ _ (strs_src (cs1.mono (View.le_trans (View.le_refl H11) h')) cn1) (strs_lit [[49],[50,49],[50,50]] k1) (by rw[cn1];decide) (by decide) true (words_true [[49],[50,49],[50,50]] cn1)
 rw[show g35.val=.slice (g35.blk.map fun b=> ⟨b,0,none⟩) 2 g35.cap by unfold Gl.val;rw[ng35];rfl]
 refine .r ?_
 refine .m ?_
 refine .m ?_
 refine .m ?_
 refine .i ?_ (z:=eql_t (by omega))
 refine .x .pk ?_
 refine .m ?_
 refine .m ?_
 refine .i ?_ (z:=eql_t (by omega))
 refine .x .pk ?_
 refine .m ?_
 refine .m ?_
 refine .e (.bs (zz:=fun y1=> ?_))
 refine .c rfl rfl rfl rfl (fun H hs=> .f ca80 rfl (c32 H hs.base y1 (hs.get (i:=0) rfl))) ?_
 refine .x .pk ?_
 refine .m ?_
 refine .m ?_
 refine .i ?_ (z:=eql_t (by omega))
 refine .x .pk ?_
 refine .m ?_
 refine .m ?_
 refine .e (.bs (zz:=fun y2=> ?_))
 refine .c rfl rfl rfl rfl (fun H hs=> .f ca62 rfl (n35 H hs.base y2 (hs.get (i:=0) rfl))) ?_
 refine .x .pk ?_
 refine .m ?_
 refine .m ?_
 refine .x .nt ?_
 refine .x .pk ?_
 refine .m ?_
 refine .m ?_
 refine .x .pk ?_
 refine .m ?_
 refine .m ?_
 refine .x (OpV.strB rfl rfl rfl (by exact rfl)) ?_
 refine .x .pk ?_
 refine .m ?_
 refine .m ?_
 refine .i ?_ (z:=eql_t (by omega))
 refine .x .pk ?_
 refine .m ?_
 refine .m ?_
 refine .e (.bs (zz:=fun y3=> ?_))
 refine .c rfl rfl rfl rfl (fun H hs=> .f ca25 rfl (w46 H hs.base y3 (hs.get (i:=0) rfl))) ?_
 refine .x .pk ?_
 refine .m ?_
 refine .m ?_
 refine .i ?_ (z:=eql_t (by omega))
 refine .x .pk ?_
 refine .g ?_
 refine .done ?_
 refine .rt hK Tryz.func18 Tryz.results18 [_] ?_
 exact fun H' hs=> ⟨View.le_trans tl11 hs.base,rfl⟩
end Go.Proofs.YtdnfdeplcjaonaaGreatDoor
end
section
namespace Go.Proofs.YtdnfdeplcjaonaaGreatDoor
open Go.RL
set_option maxRecDepth 10000
set_option maxHeartbeats 16000000
def safe2(x:Bool)(a:Int):Value:=.tuple ⟨[.bool x,.int .i64 a]⟩
section
variable(H:View)
theorem Spare_w {St:View→Goroutine→Prop}{cs:List Frame}(hG:Glob H)(k:Bk)(A:Option Addr)(lc:Nat)(B:Option Addr)(tc:Nat)(hk:BkAt H k A lc B tc)(p:Int)(hp:0≤p∧p≤255)(sf:Bool)(q:Int)(hq:0≤q∧q≤65535)
   (hR:∀(H₀:View) (R:Rg) (L:Bl) (kk:List Item),lk R 8=some (.bool true)→H.le H₀→Tc (Mp Tryz.prog) St 106 ⟨9,.normal,none⟩ H₀ cs R L [] (.code .ret::kk)):
   Tc (Mp Tryz.prog) St 106 ⟨9,.normal,none⟩ H cs (argR [k.val A lc B tc,.int .u8 p,.bool sf,.int .u16 q]) [] [] [.code (bodyOf Tryz.f9)]:=by
 have hlives:=fun(H':View) (h:H.le H')=> lives_c H' (glob_le hG h)
 have hfitc:=fun(H':View) (h:H.le H')=> Fit_c (Mp Tryz.prog) H' k A lc B tc (hk.le h)
 cases hfit:k.fit with
 | false=>
   refine .sr ?_
   refine .e (.bx (zz:=fun b4=> ?_))
   refine .g ?_
   refine .done (.seq (.sr ?_))
   refine .x (.ld 0) ?_
   refine .c rfl rfl rfl rfl (fun H hs=> .f ca38 rfl (hfitc H hs.base false hfit)) ?_
   refine .x .nt ?_
   refine .done (.tt rfl (.sr ?_))
   refine .c rfl rfl rfl rfl (fun H hs=> .f ca18 rfl (hlives H hs.base)) ?_
   refine .g ?_
   refine .done ?_
   exact hR _ _ _ _ rfl (View.le_refl _)
 | true=>
   obtain⟨hgr,hal⟩:k.great=false∧k.alarm=0:=by
     unfold Bk.fit at hfit
     rw[Bool.and_eq_true] at hfit
     exact⟨by simpa using hfit.1,of_decide_eq_true hfit.2⟩
   have hsm:k.small:=Bk.ungreat_small hgr
   obtain⟨z,hz,hzp⟩:∃z:Nat,(1≤z∧z≤3)∧1+p%3=(z:Nat):=⟨(1+p%3).toNat,by omega,by omega⟩
   obtain⟨qn,hqn⟩:∃qn:Nat,q=(qn:Nat):=⟨q.toNat,by omega⟩
   subst hqn
   have w1:IntKind.i64.wrap p=p:=wrap64 (by omega) (by omega)
   have w2:IntKind.i64.wrap (qn:Nat)=(qn:Nat):=wrap64 (by omega) (by omega)
   have e1:intBin .rem .i64 p 3=some (.int .i64 (p%3)):=rem_in (by omega) (by omega)
   have e2:intBin .add .i64 1 (p%3)=some (.int .i64 (z:Nat)):=by rw[add_in (by omega) (by omega),hzp]
   obtain⟨dn,hdn⟩:∃d,digitsL qn z=d:=⟨_,rfl⟩
   have hdnum:=dig_num hz qn
   rw[hdn] at hdnum
   have hdig:=fun(H':View)=> isV (digitsOf_c (Mp Tryz.prog) H' qn z (by omega) (by omega)) (w':=strV dn) (by rw[hdn])
   have hspare:=fun(H':View) (h:H.le H')=> Spare_c (Mp Tryz.prog) H' k A lc B tc (hk.le h) hsm (glob_le hG h) (z:Nat) sf
   have hsafe:=fun(H':View) (h:H.le H') (s:List UInt8) (hs:s.length≤1000)=> Safe_c (Mp Tryz.prog) H' k A lc B tc (hk.le h) hsm (glob_le hG h) s hs
   -- what Safe tells of the digits
   obtain⟨f2,a2,hs2,hok⟩:∃(f2:Bool) (a2:Int),k.safeV dn=safe2 f2 a2∧((a2=10∧f2=false∧k.spareOk sf dn=false)∨(a2=0∧k.spareOk sf dn=(f2 || !sf))):=by
     unfold Bk.safeV Bk.spareOk
     rw[if_neg (by simp[hal]),hdnum.1,if_neg (by decide)]
     cases hc:k.clash dn with
     | true=> exact⟨false,10,by rw[if_pos rfl];rfl,.inl ⟨rfl,rfl,rfl⟩⟩
     | false=> exact⟨k.safe dn,0,by rw[if_neg (by decide)];rfl,.inr ⟨rfl,by cases k.safe dn <;> cases sf <;> rfl⟩⟩
   have hsafeD:=fun(H':View) (h:H.le H')=> isV (hsafe H' h dn (by omega)) (w':=safe2 f2 a2) hs2
   have hsp:k.spareV (z:Nat) sf=match k.spare z sf with
       | some x=> spare3 x true 0
       | none=> spare3 [] false 0:=by
     unfold Bk.spareV
     rw[if_neg (by simp[hal]),if_neg (by omega),Int.toNat_natCast]
     cases k.spare z sf <;> rfl
   rw[hsp] at hspare
   clear hsp hs2
   have hmem:=dig_mem hz qn
   rw[hdn] at hmem
   cases hfind:k.spare z sf with
   | none=>
     rw[hfind] at hspare
     have hno:k.spareOk sf dn=false:=by
       have:=List.find?_eq_none.1 hfind dn hmem
       simpa using this
     rw[hno] at hok
     have hall:(a2=10∧f2=false)∨(a2=0∧f2=false∧sf=true):=by
       rcases hok with ⟨h1,h2,_⟩|⟨h1,h2⟩
       · exact .inl ⟨h1,h2⟩
       · refine .inr ⟨h1,?_⟩
         revert h2
         cases f2 <;> cases sf <;> decide
     clear hok hno
     rcases hall with ⟨rfl,rfl⟩|⟨rfl,rfl,rfl⟩
     all_goals
       refine .sr ?_
       refine .e (.bx (zz:=fun b4=> ?_))
       refine .g ?_
       refine .done (.seq (.sr ?_))
       refine .x (.ld 0) ?_
       refine .c rfl rfl rfl rfl (fun H hs=> .f ca38 rfl (hfitc H hs.base true hfit)) ?_
       refine .x .nt ?_
       refine .done (.ff rfl (.skip (.sr ?_)))
       refine .m ?_
       refine .x .cv ?_
       refine .i ?_ (z:=by assumption)
       refine .i ?_ (z:=by assumption)
       refine .g ?_
       refine .done (.sr ?_)
       refine .x (.ld 0) ?_
       refine .m ?_
       refine .m ?_
       refine .c rfl rfl rfl rfl (fun H hs=> .f ca50 rfl (hspare H hs.base)) ?_
       refine .m ?_
       refine .x .et ?_
       refine .x .et ?_
       refine .x .et ?_
       refine .g ?_
       refine .g ?_
       refine .g ?_
       refine .done (.sr ?_)
       refine .m ?_
       refine .x .cv ?_
       refine .m ?_
       refine .c rfl rfl rfl rfl (fun H hs=> .f ca51 rfl (hdig H)) ?_
       refine .g ?_
       refine .done (.sr ?_)
       refine .x (.ld 0) ?_
       refine .m ?_
       refine .c rfl rfl rfl rfl (fun H hs=> .f ca52 rfl (hsafeD H hs.base)) ?_
       refine .m ?_
       refine .x .et ?_
       refine .x .et ?_
       refine .g ?_
       refine .g ?_
       refine .done (.seq (.sr ?_))
       refine .m ?_
       refine .i ?_ (z:=neq_f (by omega))
       refine .m ?_
       refine .m ?_
       refine .i ?_ (z:=by first|exact neq_t (by omega)|exact neq_f (by omega))
       refine .m ?_
       first|(refine .sk ?_)|(refine .m ?_)
       first|(refine .sk ?_)|((refine .x (.it (zz:=neq_f (by omega))) ?_))
       refine .x .pk ?_
       refine .x .pk ?_
       refine .done (.ff rfl (.skip (.sr ?_)))
       refine .m ?_
       refine .i ?_ (z:=by first|exact eql_t (by omega)|exact eql_f (by omega))
       refine .m ?_
       first|(refine .sk ?_)|(refine .m ?_)
       first|(refine .sk ?_)|(refine .m ?_)
       first|(refine To.skippedU rfl (by decide) rfl ?_)|(refine .m ?_)
       first|(refine To.skippedU rfl (by decide) rfl ?_)|(refine .x .nt ?_)
       first|(refine .sk ?_)|(refine .x .pk ?_)
       refine .x .pk ?_
       refine .g ?_
       refine .done (.seq (.sr ?_))
       refine .m ?_
       refine .x .nt ?_
       refine .done (.tt rfl (.sr ?_))
       refine .m ?_
       refine .x (OpV.strB rfl rfl rfl (by exact rfl)) ?_
       refine .m ?_
       refine .m ?_
       refine .x .nt ?_
       refine .x .pk ?_
       refine .m ?_
       refine .c rfl rfl rfl rfl (fun H hs=> .f ca18 rfl (hlives H hs.base)) ?_
       refine .x .pk ?_
       refine .g ?_
       refine .done ?_
       exact hR _ _ _ _ rfl (View.le_refl _)
   | some x=>
     rw[hfind] at hspare
     have hxok:k.spareOk sf x=true:=List.find?_some hfind
     have hxm:=List.mem_of_find?_eq_some hfind
     rw[all_map z hz] at hxm
     obtain⟨xn,_,hxe⟩:=List.mem_map.1 hxm
     have hxnum:=dig_num hz xn
     rw[hxe] at hxnum
     have hxl:x.length=z:=hxnum.2
     obtain⟨f3,hs3,hf3⟩:∃f3,k.safeV x=safe2 f3 0∧(f3 || !sf)=true:=by
       unfold Bk.spareOk at hxok
       rw[Bool.and_eq_true] at hxok
       unfold Bk.safeV
       rw[if_neg (by simp[hal]),hxnum.1,if_neg (by decide),if_neg (by have:=hxok.1;simpa using this)]
       exact⟨k.safe x,rfl,by rw[Bool.or_comm];exact hxok.2⟩
     have hsafeX:=fun(H':View) (h:H.le H')=> isV (hsafe H' h x (by omega)) (w':=safe2 f3 0) hs3
     have hge:k.spareOk sf dn=true→RL.strB .geq dn x=some (.bool true):=fun h=> by
       have:=dig_first hz hfind qn (by rw[hdn];exact h)
       rw[hdn] at this
       show some (Value.bool (!(Op.bytesLess dn x)))=_
       rw[this]
       rfl
     clear hs3 hxm hxe hxok hxnum
     have hall:(a2=10∧f2=false)∨(a2=0∧f2=false∧sf=true)∨(a2=0∧(f2 || !sf)=true∧RL.strB .geq dn x=some (.bool true)):=by
       rcases hok with ⟨h1,h2,_⟩|⟨h1,h2⟩
       · exact .inl ⟨h1,h2⟩
       · by_cases h3:(f2 || !sf)=true
         · exact .inr (.inr ⟨h1,h3,hge (h2.trans h3)⟩)
         · refine .inr (.inl ⟨h1,?_⟩)
           revert h3
           cases f2 <;> cases sf <;> decide
     clear hok hge
     have hfs:(f3=true∧sf=true)∨(f3=true∧sf=false)∨(f3=false∧sf=false):=by
       revert hf3
       cases f3 <;> cases sf <;> decide
     clear hf3
     rcases hall with ⟨rfl,rfl⟩|⟨rfl,rfl,h6⟩|⟨rfl,h4,h5⟩
     all_goals rcases hfs with ⟨rfl,rfl⟩|⟨rfl,rfl⟩|⟨rfl,rfl⟩
     all_goals try (exfalso;revert h6;decide)
     all_goals try cases f2
     all_goals try (exfalso;revert h4;decide)
     all_goals
       refine .sr ?_
       refine .e (.bx (zz:=fun b4=> ?_))
       refine .g ?_
       refine .done (.seq (.sr ?_))
       refine .x (.ld 0) ?_
       refine .c rfl rfl rfl rfl (fun H hs=> .f ca38 rfl (hfitc H hs.base true hfit)) ?_
       refine .x .nt ?_
       refine .done (.ff rfl (.skip (.sr ?_)))
       refine .m ?_
       refine .x .cv ?_
       refine .i ?_ (z:=by assumption)
       refine .i ?_ (z:=by assumption)
       refine .g ?_
       refine .done (.sr ?_)
       refine .x (.ld 0) ?_
       refine .m ?_
       refine .m ?_
       refine .c rfl rfl rfl rfl (fun H hs=> .f ca50 rfl (hspare H hs.base)) ?_
       refine .m ?_
       refine .x .et ?_
       refine .x .et ?_
       refine .x .et ?_
       refine .g ?_
       refine .g ?_
       refine .g ?_
       refine .done (.sr ?_)
       refine .m ?_
       refine .x .cv ?_
       refine .m ?_
       refine .c rfl rfl rfl rfl (fun H hs=> .f ca51 rfl (hdig H)) ?_
       refine .g ?_
       refine .done (.sr ?_)
       refine .x (.ld 0) ?_
       refine .m ?_
       refine .c rfl rfl rfl rfl (fun H hs=> .f ca52 rfl (hsafeD H hs.base)) ?_
       refine .m ?_
       refine .x .et ?_
       refine .x .et ?_
       refine .g ?_
       refine .g ?_
       refine .done (.seq (.sr ?_))
       refine .m ?_
       refine .i ?_ (z:=neq_f (by omega))
       refine .m ?_
       refine .m ?_
       refine .i ?_ (z:=by first|exact neq_t (by omega)|exact neq_f (by omega))
       refine .m ?_
       first|(refine .sk ?_)|(refine .m ?_)
       first|(refine .sk ?_)|((refine .x (.it (zz:=neq_f (by omega))) ?_))
       refine .x .pk ?_
       refine .x .pk ?_
       refine .done (.ff rfl (.skip (.sr ?_)))
       refine .m ?_
       refine .i ?_ (z:=by first|exact eql_t (by omega)|exact eql_f (by omega))
       refine .m ?_
       first|(refine .sk ?_)|(refine .m ?_)
       first|(refine .sk ?_)|(refine .m ?_)
       first|(refine .sk ?_)|(refine To.skippedU rfl (by decide) rfl ?_)|(refine .m ?_)
       first|(refine .sk ?_)|(refine To.skippedU rfl (by decide) rfl ?_)|(refine .x .nt ?_)
       first|(refine .sk ?_)|(refine .x .pk ?_)
       refine .x .pk ?_
       refine .g ?_
       refine .done (.seq (.sr ?_))
       refine .m ?_
       refine .x .nt ?_
       refine .done (.ff rfl (.skip (.sr ?_)))
       refine .x (.ld 0) ?_
       refine .m ?_
       refine .c rfl rfl rfl rfl (fun H hs=> .f ca52 rfl (hsafeX H hs.base)) ?_
       refine .m ?_
       refine .x .et ?_
       refine .x .et ?_
       refine .g ?_
       refine .g ?_
       refine .done (.sr ?_)
       refine .m ?_
       refine .x (OpV.lenS (E:=en) rfl rfl rfl rfl rfl rfl rfl) ?_
       refine .m ?_
       refine .i ?_ (z:=eql_t (by omega))
       refine .m ?_
       refine .m ?_
       refine .i ?_ (z:=eql_t (by omega))
       refine .x .pk ?_
       refine .m ?_
       refine .m ?_
       refine .m ?_
       first|(refine .sk ?_)|(refine .m ?_)
       first|(refine .sk ?_)|(refine .x .nt ?_)
       refine .x .pk ?_
       refine .x .pk ?_
       refine .m ?_
       refine .m ?_
       refine .x .nt ?_
       refine .m ?_
       first|(refine .sk ?_)|(refine .m ?_)
       first|(refine .sk ?_)|(refine .m ?_)
       first|(refine .sk ?_)|(refine .x (OpV.strB rfl rfl rfl (by assumption)) ?_)
       refine .x .pk ?_
       refine .x .pk ?_
       refine .m ?_
       refine .c rfl rfl rfl rfl (fun H hs=> .f ca18 rfl (hlives H hs.base)) ?_
       refine .x .pk ?_
       refine .g ?_
       refine .done ?_
       exact hR _ _ _ _ rfl (View.le_refl _)
end
end Go.Proofs.YtdnfdeplcjaonaaGreatDoor
end
