/-
  Texts of the proofs over baudot/dial: X4 ZF Z6 ZG ZL Abs Bytes ZM.
-/
import Derived.Test.YtdnfdeplcjaonaaGreatDoorD08
section
namespace Go.Proofs.YtdnfdeplcjaonaaGreatDoor
open Go.RL
set_option maxRecDepth 10000
set_option maxHeartbeats 32000000
theorem strs_lit {H:View}{b:Nat}{f:Bool}{gt:TypeId}{gz:Nat×Nat}(m:List (List UInt8))(h:H b=some (f,.cells ⟨strsV m⟩ gt gz)):StrsAt H (some ⟨b,0,none⟩) m.length (fun j=> m[j]?.getD []):=
 .inr ⟨b,0,f,_,gt,gz,rfl,h,fun j hj=> by
   show(strsV m)[_]? =_
   rw[Nat.zero_add,Int.toNat_natCast,Nat.mul_one]
   unfold strsV
   rw[List.getElem?_map]
   simp only[List.getElem?_eq_getElem hj]
   rfl⟩
theorem words_true(l:List (List UInt8)){n:Nat}(hn:n=l.length):(decide (n=l.length)&&allB (fun i=> decide ((fun j=> l[j]?.getD []) i=(fun j=> l[j]?.getD []) i)) n)=true:=by
 rw[decide_eq_true hn,(allB_iff n).2 (fun i _=> decide_eq_true rfl)]
 rfl
theorem ints_lit {H:View}{b:Nat}{f:Bool}{gt:TypeId}{gz:Nat×Nat}(m:List Int)(h:H b=some (f,.cells ⟨intsL m⟩ gt gz)):FreeAt H (some ⟨b,0,none⟩) m.length (exAt m):=
 .inr ⟨b,0,f,_,gt,gz,rfl,h,fun j hj=> by
   show(intsL m)[_]? =_
   rw[Nat.zero_add,Int.toNat_natCast,Nat.mul_one]
   unfold intsL exAt
   rw[List.getElem?_map]
   simp only[List.getElem?_eq_getElem hj]
   rfl⟩
theorem cl_at {e:TypeId}(g:Gl e 1){H:View}(h:∀x∈g.bl,H x.1=some x.2){f:Nat→Int}{n:Nat}(hl:g.l=clL f n)(hn:g.n=n):FreeAt H (g.blk.map fun b=> ⟨b,0,none⟩) n f:=by
 cases hb:g.blk with
 | none=>
   have:=g.h0 hb
   have:=g.hc
   exact .inl (by omega)
 | some b=>
   have hbl:g.bl= [(b,true,.cells ⟨g.l++g.junk⟩ e (0,0))]:=by unfold Gl.bl;rw[hb]
   refine .inr ⟨b,0,true,_,e,(0,0),rfl,h (b,true,.cells ⟨g.l++g.junk⟩ e (0,0)) (by rw[hbl];simp),fun j hj=> ?_⟩
   show(g.l++g.junk)[_]? =_
   rw[Nat.zero_add,Int.toNat_natCast,Nat.mul_one,List.getElem?_append_left (by rw[hl,clL_len];exact hj),hl]
   unfold clL
   rw[List.getElem?_map,List.getElem?_range hj]
   rfl
theorem clL_ints(m:List Int):intsL m=clL (exAt m) m.length:=by
 apply List.ext_getElem?
 intro i
 unfold intsL clL exAt
 rw[List.getElem?_map,List.getElem?_map]
 by_cases h:i<m.length
 · rw[List.getElem?_range h,List.getElem?_eq_getElem h]
   simp[h]
 · rw[List.getElem?_eq_none (by omega),List.getElem?_eq_none (by simp;omega)]
   rfl
theorem three {p:Nat→Prop}(h0:p 0)(h1:p 1)(h2:p 2):∀i,i<3→p i:=fun i hi=> by
 rcases(by omega:i=0∨i=1∨i=2) with rfl|rfl|rfl
 · exact h0
 · exact h1
 · exact h2
theorem two {p:Nat→Prop}(h0:p 0)(h1:p 1):∀i,i<2→p i:=fun i hi=> by
 rcases(by omega:i=0∨i=1) with rfl|rfl
 · exact h0
 · exact h1
theorem strs_src {H:View}{a:Option Addr}{n c:Nat}{l:List (List UInt8)}(h:SrcAt H 1 (.slice a n c) n (strsV l))(hn:n=l.length):StrsAt H a n (fun j=> l[j]?.getD []):=by
 obtain⟨_,_,⟨_,_,h1,h2⟩|⟨b,off,c',f,cs,e,fz,h1,h2,h3,h4⟩⟩:=h
 · have:l= []:=by simpa [strsV] using h2
   exact .inl (by rw[hn,this];rfl)
 · simp only[Value.slice.injEq] at h1
   refine .inr ⟨b,off,f,cs,e,fz,h1.1,h2,fun j hj=> ?_⟩
   show cs[_]? =_
   have hjl:j<l.length:=by omega
   have h5:=congrArg (fun x=> x[j]?) h4
   simp only[List.getElem?_take,List.getElem?_drop] at h5
   rw[if_pos (by rw[strsV_len];exact hjl)] at h5
   rw[Int.toNat_natCast,Nat.mul_one,h5]
   unfold strsV
   rw[List.getElem?_map]
   simp only[List.getElem?_eq_getElem hjl]
   rfl
theorem To.permL2 {P:Program}{M:Md P}{St:View→Goroutine→Prop}{n:Nat}{b:FB}{H₀:View}{cs:List Frame}{R:Rg}{L L₁:Bl}{ds:List Deferred}{k:List Item}{dl:List (Option Tmp)}{l:List Oper}(p:L₁.Perm L)(h:To M St n b H₀ cs dl R L₁ ds l k):To M St n b H₀ cs dl R L ds l k:=To.perm p h
theorem lives_c(H:View)(hG:Glob H):CallT (Mp Tryz.prog) 18 #[] H (fun v H'=> H.le H'∧v=.bool true):=by
 have sD:bkD.small:=ex_small rfl (by decide) rfl rfl
 have sE:bkE.small:=ex_small rfl (by decide) rfl rfl
 have sO:bkO.small:=ex_small rfl (by decide) rfl rfl
 refine CallT.enter (vs:= []) Tryz.func18 rfl Tryz.ntmps18 (Nat.le_of_ble_eq_true rfl) (SymSt.nil _) fun St c cs hK=> ?_
 refine .sr ?_
 refine .g ?_
 refine .done (.sr ?_)
 refine To.callF rfl rfl rfl rfl rfl rfl (by decide) (FnT.f ca77 rfl (Example_c _ H)) (fun v H1 hv=> ?_)
 obtain⟨tl1,dA,dlc,dB,dtc,dF,dfc,rfl,hD1⟩:=hv
 refine To.callF rfl rfl rfl rfl rfl rfl (by decide) (FnT.f ca78 rfl (joined_c _ H1)) (fun v H2 hv=> ?_)
 obtain⟨le2,eA,elc,eB,etc,eF,efc,rfl,hE2⟩:=hv
 have tl2:=View.le_trans tl1 le2
 have hD2:=hD1.le le2
 have hG2:=glob_le hG tl2
 refine .e (.al (zz:=fun b1=> ?_))
 refine .e (.al (zz:=fun b2=> ?_))
 refine .e (.st 1 (zz:=?_))
 refine .e (.st 0 (zz:=?_))
 refine .done (.seq ?_)
 refine Tc.db (R':= [(1,.pointer (some ⟨b1,0,none⟩)),(2,.pointer (some ⟨b2,0,none⟩))]) (L':= [(b2,true,.cells ⟨(bkE.val eA elc eB etc).cells.toList⟩ 25 (0,0)),(b1,true,.cells ⟨(bkD.val dA dlc dB dtc).cells.toList⟩ 25 (0,0))]) ?_
 refine .r ?_
 refine .x (.ld 1) ?_
 refine To.callF rfl rfl rfl rfl rfl rfl (by decide) (FnT.f ca23 rfl (Heard_c _ H2 bkD dA dlc dB dtc hD2.bk sD hG2 bkD_al ex_lenD)) (fun v H3 hv=> ?_)
 obtain⟨le3,g3,rfl,⟨ng3,lg3⟩,mg3⟩:=hv
 rw[ex_heardD] at ng3 lg3
 refine .m ?_
 refine .x .et ?_
 refine .x .et ?_
 refine .g ?_
 refine .g ?_
 refine .done ?_
 have tl3:=View.le_trans tl2 le3
 have hD3:=hD2.le le3
 have hE3:=hE2.le le3
 have hG3:=glob_le hG tl3
 refine .seq ?_
 refine Tc.db (R':= [(1,.pointer (some ⟨b1,0,none⟩)),(2,.pointer (some ⟨b2,0,none⟩)),(3,g3.val),(4,.int .i64 0)]) (L':= [(b2,true,.cells ⟨(bkE.val eA elc eB etc).cells.toList⟩ 25 (0,0)),(b1,true,.cells ⟨(bkD.val dA dlc dB dtc).cells.toList⟩ 25 (0,0))]) ?_
 refine .r ?_
 refine .x (.ld 1) ?_
 refine To.callF rfl rfl rfl rfl rfl rfl (by decide) (FnT.f ca26 rfl (Reaches_c _ H3 bkD dA dlc dB dtc hD3.bk sD hG3 bkD_al)) (fun v H4 hv=> ?_)
 obtain⟨le4,g5,rfl,⟨ng5,lg5⟩,mg5⟩:=hv
 rw[ex_clD.2]
 refine .m ?_
 refine .x .et ?_
 refine .x .et ?_
 refine .x .et ?_
 refine .g ?_
 refine .g ?_
 refine .g ?_
 refine .done ?_
 have tl4:=View.le_trans tl3 le4
 have hD4:=hD3.le le4
 have hE4:=hE3.le le4
 have hG4:=glob_le hG tl4
 refine .seq ?_
 refine Tc.db (R':= [(1,.pointer (some ⟨b1,0,none⟩)),(2,.pointer (some ⟨b2,0,none⟩)),(3,g3.val),(4,.int .i64 0),(5,g5.val),(6,.int .i64 2),(7,.int .i64 0)]) (L':= [(b2,true,.cells ⟨(bkE.val eA elc eB etc).cells.toList⟩ 25 (0,0)),(b1,true,.cells ⟨(bkD.val dA dlc dB dtc).cells.toList⟩ 25 (0,0))]) ?_
 refine .r ?_
 refine .x (.ld 0) ?_
 refine To.callF rfl rfl rfl rfl rfl rfl (by decide) (FnT.f ca23 rfl (Heard_c _ H4 bkE eA elc eB etc hE4.bk sE hG4 bkE_al ex_lenE)) (fun v H5 hv=> ?_)
 obtain⟨le5,g8,rfl,⟨ng8,lg8⟩,mg8⟩:=hv
 rw[ex_heardE] at ng8 lg8
 refine .m ?_
 refine .x .et ?_
 refine .x .et ?_
 refine .g ?_
 refine .g ?_
 refine .done ?_
 have tl5:=View.le_trans tl4 le5
 have hD5:=hD4.le le5
 have hE5:=hE4.le le5
 have hG5:=glob_le hG tl5
 refine .seq ?_
 refine Tc.db (R':= [(1,.pointer (some ⟨b1,0,none⟩)),(2,.pointer (some ⟨b2,0,none⟩)),(3,g3.val),(4,.int .i64 0),(5,g5.val),(6,.int .i64 2),(7,.int .i64 0),(8,g8.val),(9,.int .i64 0)]) (L':= [(b2,true,.cells ⟨(bkE.val eA elc eB etc).cells.toList⟩ 25 (0,0)),(b1,true,.cells ⟨(bkD.val dA dlc dB dtc).cells.toList⟩ 25 (0,0))]) ?_
 refine .r ?_
 refine .x (.ld 0) ?_
 refine To.callF rfl rfl rfl rfl rfl rfl (by decide) (FnT.f ca26 rfl (Reaches_c _ H5 bkE eA elc eB etc hE5.bk sE hG5 bkE_al)) (fun v H6 hv=> ?_)
 obtain⟨le6,g10,rfl,⟨ng10,lg10⟩,mg10⟩:=hv
 rw[ex_clE.2]
 refine .m ?_
 refine .x .et ?_
 refine .x .et ?_
 refine .x .et ?_
 refine .g ?_
 refine .g ?_
 refine .g ?_
 refine .done ?_
 have tl6:=View.le_trans tl5 le6
 have hD6:=hD5.le le6
 have hE6:=hE5.le le6
 have hG6:=glob_le hG tl6
 refine .seq ?_
 refine Tc.db (R':= [(1,.pointer (some ⟨b1,0,none⟩)),(2,.pointer (some ⟨b2,0,none⟩)),(3,g3.val),(4,.int .i64 0),(5,g5.val),(6,.int .i64 2),(7,.int .i64 0),(8,g8.val),(9,.int .i64 0),(10,g10.val),(11,.int .i64 0),(12,.int .i64 0)]) (L':= [(b2,true,.cells ⟨(bkE.val eA elc eB etc).cells.toList⟩ 25 (0,0)),(b1,true,.cells ⟨(bkD.val dA dlc dB dtc).cells.toList⟩ 25 (0,0))]) ?_
 have fl6:=fun(H':View) (p1 p2:Nat) (h':H6.le H') (k1:H' p1=some (true,.cells ⟨intsL [1,1,2]⟩ 3 (0,0))) (k2:H' p2=some (true,.cells ⟨intsL [3,9,9]⟩ 3 (0,0)))=> isV (Follow_c (Mp Tryz.prog) H' bkE eA elc eB etc (hE6.bk.le h') sE (glob_le hG6 h') (some ⟨p1,0,none⟩) (some ⟨p2,0,none⟩) 3 3 3 3 (exAt [1,1,2]) (exAt [3,9,9]) (ints_lit [1,1,2] k1) (ints_lit [3,9,9] k2)) ex_follow1
 refine .r ?_
 refine .x (.ld 0) ?_
 refine .e (.bs (zz:=fun p1=> ?_))
 refine .e (.bs (zz:=fun p2=> ?_))
 refine .c rfl rfl rfl rfl (fun H hs=> .f ca19 rfl (fl6 H p1 p2 hs.base (hs.get (i:=1) rfl) (hs.get (i:=0) rfl))) ?_
 refine .m ?_
 refine .x .et ?_
 refine .x .et ?_
 refine .x .et ?_
 refine .g ?_
 refine .g ?_
 refine .g ?_
 refine .done (.seq ?_)
 refine Tc.db (R':= [(1,.pointer (some ⟨b1,0,none⟩)),(2,.pointer (some ⟨b2,0,none⟩)),(3,g3.val),(4,.int .i64 0),(5,g5.val),(6,.int .i64 2),(7,.int .i64 0),(8,g8.val),(9,.int .i64 0),(10,g10.val),(11,.int .i64 0),(12,.int .i64 0),(13,strV [50,50]),(14,.int .i64 2),(15,.int .i64 0)]) (L':= [(b2,true,.cells ⟨(bkE.val eA elc eB etc).cells.toList⟩ 25 (0,0)),(b1,true,.cells ⟨(bkD.val dA dlc dB dtc).cells.toList⟩ 25 (0,0))]) ?_
 have fl7:=fun(H':View) (p1 p2:Nat) (h':H6.le H') (k1:H' p1=some (true,.cells ⟨intsL [1,1,2]⟩ 3 (0,0))) (k2:H' p2=some (true,.cells ⟨intsL [5,9,9]⟩ 3 (0,0)))=> isV (Follow_c (Mp Tryz.prog) H' bkE eA elc eB etc (hE6.bk.le h') sE (glob_le hG6 h') (some ⟨p1,0,none⟩) (some ⟨p2,0,none⟩) 3 3 3 3 (exAt [1,1,2]) (exAt [5,9,9]) (ints_lit [1,1,2] k1) (ints_lit [5,9,9] k2)) ex_follow2
 refine .r ?_
 refine .x (.ld 0) ?_
 refine .e (.bs (zz:=fun p1=> ?_))
 refine .e (.bs (zz:=fun p2=> ?_))
 refine .c rfl rfl rfl rfl (fun H hs=> .f ca19 rfl (fl7 H p1 p2 hs.base (hs.get (i:=1) rfl) (hs.get (i:=0) rfl))) ?_
 refine .m ?_
 refine .x .et ?_
 refine .x .et ?_
 refine .x .et ?_
 refine .g ?_
 refine .g ?_
 refine .g ?_
 refine .done (.seq ?_)
 refine Tc.db (R':= [(1,.pointer (some ⟨b1,0,none⟩)),(2,.pointer (some ⟨b2,0,none⟩)),(3,g3.val),(4,.int .i64 0),(5,g5.val),(6,.int .i64 2),(7,.int .i64 0),(8,g8.val),(9,.int .i64 0),(10,g10.val),(11,.int .i64 0),(12,.int .i64 0),(13,strV [50,50]),(14,.int .i64 2),(15,.int .i64 0),(16,strV [49,49,50]),(17,.int .i64 (-1)),(18,.int .i64 0)]) (L':= [(b2,true,.cells ⟨(bkE.val eA elc eB etc).cells.toList⟩ 25 (0,0)),(b1,true,.cells ⟨(bkD.val dA dlc dB dtc).cells.toList⟩ 25 (0,0))]) ?_
 refine .r ?_
 refine .x (.ld 1) ?_
 refine .c rfl rfl rfl rfl (fun H hs=> .f ca33 rfl (isV (Look_c H bkD dA dlc dB dtc dF dfc (hD6.le hs.base) sD (glob_le hG6 hs.base) bkD_al) (congrArg lookV ex_look))) ?_
 refine .m ?_
 refine .x .et ?_
 refine .x .et ?_
 refine .x .et ?_
 refine .g ?_
 refine .g ?_
 refine .g ?_
 refine .done (.seq ?_)
 refine Tc.db (R':= [(1,.pointer (some ⟨b1,0,none⟩)),(2,.pointer (some ⟨b2,0,none⟩)),(3,g3.val),(4,.int .i64 0),(5,g5.val),(6,.int .i64 2),(7,.int .i64 0),(8,g8.val),(9,.int .i64 0),(10,g10.val),(11,.int .i64 0),(12,.int .i64 0),(13,strV [50,50]),(14,.int .i64 2),(15,.int .i64 0),(16,strV [49,49,50]),(17,.int .i64 (-1)),(18,.int .i64 0),(19,.int .i64 1),(20,.int .i64 1),(21,.int .i64 0)]) (L':= [(b2,true,.cells ⟨(bkE.val eA elc eB etc).cells.toList⟩ 25 (0,0)),(b1,true,.cells ⟨(bkD.val dA dlc dB dtc).cells.toList⟩ 25 (0,0))]) ?_
 refine .r ?_
 refine .x (.ld 1) ?_
 refine .c rfl rfl rfl rfl (fun H hs=> .f ca31 rfl (isV (Settled_c _ H bkD dA dlc dB dtc (hD6.bk.le hs.base) sD (glob_le hG6 hs.base) bkD_al) (congrArg settledV ex_setD))) ?_
 refine .m ?_
 refine .x .et ?_
 refine .x .et ?_
 refine .x .et ?_
 refine .x .et ?_
 refine .g ?_
 refine .g ?_
 refine .g ?_
 refine .g ?_
 refine .done (.seq ?_)
 refine Tc.db (R':= [(1,.pointer (some ⟨b1,0,none⟩)),(2,.pointer (some ⟨b2,0,none⟩)),(3,g3.val),(4,.int .i64 0),(5,g5.val),(6,.int .i64 2),(7,.int .i64 0),(8,g8.val),(9,.int .i64 0),(10,g10.val),(11,.int .i64 0),(12,.int .i64 0),(13,strV [50,50]),(14,.int .i64 2),(15,.int .i64 0),(16,strV [49,49,50]),(17,.int .i64 (-1)),(18,.int .i64 0),(19,.int .i64 1),(20,.int .i64 1),(21,.int .i64 0),(22,.int .i64 0),(23,.int .i64 0),(24,.bool false),(25,.int .i64 0)]) (L':= [(b2,true,.cells ⟨(bkE.val eA elc eB etc).cells.toList⟩ 25 (0,0)),(b1,true,.cells ⟨(bkD.val dA dlc dB dtc).cells.toList⟩ 25 (0,0))]) ?_
 refine Tc.viaB (fun H' R' L'=> ∃oA olc oB otc oF ofc b26,H6.le H'∧BookAt H' bkO oA olc oB otc oF ofc∧AllIn [(1,.pointer (some ⟨b1,0,none⟩)),(2,.pointer (some ⟨b2,0,none⟩)),(3,g3.val),(4,.int .i64 0),(5,g5.val),(6,.int .i64 2),(7,.int .i64 0),(8,g8.val),(9,.int .i64 0),(10,g10.val),(11,.int .i64 0),(12,.int .i64 0),(13,strV [50,50]),(14,.int .i64 2),(15,.int .i64 0),(16,strV [49,49,50]),(17,.int .i64 (-1)),(18,.int .i64 0),(19,.int .i64 1),(20,.int .i64 1),(21,.int .i64 0),(22,.int .i64 0),(23,.int .i64 0),(24,.bool false),(25,.int .i64 0),(26,.pointer (some ⟨b26,0,none⟩)),(27,.int .i64 0)] R'∧List.Sublist [(b26,true,.cells ⟨(bkO.val oA olc oB otc).cells.toList⟩ 25 (0,0)),(b2,true,.cells ⟨(bkE.val eA elc eB etc).cells.toList⟩ 25 (0,0)),(b1,true,.cells ⟨(bkD.val dA dlc dB dtc).cells.toList⟩ 25 (0,0))] L') ?_ (fun fin=> ?_)
 rotate_left
 · refine Tc.dr [7] [] mixed rfl ?_
   refine .q 0 rfl (OpV.load (E:=en) 1 rfl rfl rfl rfl rfl) ?_
   refine .z 1 rfl (OpV.takeCall rfl rfl rfl rfl (fun H hs=> .f ca79 rfl (train_c _ H 2 6))) ?_
   refine Ta.callL2 2 6 (by kernel_rfl) rfl rfl rfl rfl rfl rfl rfl (by decide) (FnT.f ca35 rfl (Know_c _ H6 bkD dA dlc dB dtc dF dfc hD6 sD hG6 bkD_al 1 (by decide) 2 2 6 6 ex_know.1 ex_know.2)) (by intro _ _ hh;exact hh.1) (by exact List.Sublist.refl _) (.inr (by exact List.Sublist.refl _)) (fun v Hk hv=> ?_) (TaOp.mk rfl rfl rfl (.al (zz:=fun b26=> ⟨S2.mk (by apply List.Sublist.cons;exact List.Sublist.refl _) (.inr (by apply List.Sublist.cons;exact List.Sublist.refl _)),?_⟩)))
   · obtain⟨lek,oA,olc,oB,otc,oF,ofc,rfl,hO⟩:=hv
     refine .q 3 rfl .mv ?_
     refine .q 4 rfl .et ?_
     refine Ta.tkw 5 (by kernel_rfl) rfl rfl rfl (by decide) rfl rfl (OpV.take .et) ?_
     refine Ta.each [6] (by kernel_rfl) rfl ⟨TaOp.mk rfl rfl rfl (.al (zz:=fun b26=> ⟨S2.mkL lek (by apply List.Sublist.cons;exact List.Sublist.refl _) (.inr (by apply List.Sublist.cons;exact List.Sublist.refl _)),?_⟩)),trivial⟩
     refine Ta.each [7] (by kernel_rfl) rfl ⟨TaOp.mk rfl rfl rfl (Or.storeT (E:=en) 0 rfl rfl rfl rfl rfl rfl rfl rfl rfl rfl rfl ⟨S2.mkL lek (by apply List.Sublist.cons;exact List.Sublist.refl _) (.inl (by kernel_rfl)),?_⟩),trivial⟩
     refine Ta.tkw 8 (by kernel_rfl) rfl rfl rfl (by decide) rfl rfl (OpV.take .sg) ?_
     refine Ta.done (by kernel_rfl) ?_
     exact fin _ _ _ ⟨oA,olc,oB,otc,oF,ofc,b26,lek,hO,⟨rfl,rfl,rfl,rfl,rfl,rfl,rfl,rfl,rfl,rfl,rfl,rfl,rfl,rfl,rfl,rfl,rfl,rfl,rfl,rfl,rfl,rfl,rfl,rfl,rfl,rfl,rfl,trivial⟩,(by exact List.Sublist.refl _)⟩
   · refine Ta.callL 2 (by kernel_rfl) rfl rfl rfl rfl rfl rfl rfl (by decide) (FnT.f ca35 rfl (Know_c _ H6 bkD dA dlc dB dtc dF dfc hD6 sD hG6 bkD_al 1 (by decide) 2 2 6 6 ex_know.1 ex_know.2)) (by intro _ _ hh;exact hh.1) (by apply List.Sublist.cons;exact List.Sublist.refl _) (.inr (by apply List.Sublist.cons;exact List.Sublist.refl _)) (fun v Hk hv=> ?_)
     obtain⟨lek,oA,olc,oB,otc,oF,ofc,rfl,hO⟩:=hv
     refine .q 3 rfl .mv ?_
     refine .q 4 rfl .et ?_
     refine Ta.tkw 5 (by kernel_rfl) rfl rfl rfl (by decide) rfl rfl (OpV.take .et) ?_
     refine Ta.each [7] (by kernel_rfl) rfl ⟨TaOp.mk rfl rfl rfl (Or.storeT (E:=en) 0 rfl rfl rfl rfl rfl rfl rfl rfl rfl rfl rfl ⟨S2.mkL lek (by apply List.Sublist.cons;exact List.Sublist.refl _) (.inl (by kernel_rfl)),?_⟩),trivial⟩
     refine Ta.tkw 8 (by kernel_rfl) rfl rfl rfl (by decide) rfl rfl (OpV.take .sg) ?_
     refine Ta.done (by kernel_rfl) ?_
     exact fin _ _ _ ⟨oA,olc,oB,otc,oF,ofc,b26,lek,hO,⟨rfl,rfl,rfl,rfl,rfl,rfl,rfl,rfl,rfl,rfl,rfl,rfl,rfl,rfl,rfl,rfl,rfl,rfl,rfl,rfl,rfl,rfl,rfl,rfl,rfl,rfl,rfl,trivial⟩,(by exact List.Sublist.refl _)⟩
 rintro H7 R' L' ⟨oA,olc,oB,otc,oF,ofc,b26,le7,hO7,hR,hL⟩
 have tl7:=View.le_trans tl6 le7
 have hD7:=hD6.le le7
 have hE7:=hE6.le le7
 have hG7:=glob_le hG tl7
 refine Tc.dropB (R':= [(1,.pointer (some ⟨b1,0,none⟩)),(2,.pointer (some ⟨b2,0,none⟩)),(3,g3.val),(4,.int .i64 0),(5,g5.val),(6,.int .i64 2),(7,.int .i64 0),(8,g8.val),(9,.int .i64 0),(10,g10.val),(11,.int .i64 0),(12,.int .i64 0),(13,strV [50,50]),(14,.int .i64 2),(15,.int .i64 0),(16,strV [49,49,50]),(17,.int .i64 (-1)),(18,.int .i64 0),(19,.int .i64 1),(20,.int .i64 1),(21,.int .i64 0),(22,.int .i64 0),(23,.int .i64 0),(24,.bool false),(25,.int .i64 0),(26,.pointer (some ⟨b26,0,none⟩)),(27,.int .i64 0)]) (L':= [(b26,true,.cells ⟨(bkO.val oA olc oB otc).cells.toList⟩ 25 (0,0)),(b2,true,.cells ⟨(bkE.val eA elc eB etc).cells.toList⟩ 25 (0,0)),(b1,true,.cells ⟨(bkD.val dA dlc dB dtc).cells.toList⟩ 25 (0,0))]) ?_ hR hL
 refine .sr ?_
 refine .x (.ld 0) ?_
 refine .c rfl rfl rfl rfl (fun H hs=> .f ca31 rfl (isV (Settled_c _ H bkO oA olc oB otc (hO7.bk.le hs.base) sO (glob_le hG7 hs.base) bkO_al) (congrArg settledV ex_setO))) ?_
 refine .m ?_
 refine .x .et ?_
 refine .x .et ?_
 refine .x .et ?_
 refine .x .et ?_
 refine .g ?_
 refine .g ?_
 refine .g ?_
 refine .g ?_
 refine .done (.seq ?_)
 refine Tc.db (R':= [(1,.pointer (some ⟨b1,0,none⟩)),(2,.pointer (some ⟨b2,0,none⟩)),(3,g3.val),(4,.int .i64 0),(5,g5.val),(6,.int .i64 2),(7,.int .i64 0),(8,g8.val),(9,.int .i64 0),(10,g10.val),(11,.int .i64 0),(12,.int .i64 0),(13,strV [50,50]),(14,.int .i64 2),(15,.int .i64 0),(16,strV [49,49,50]),(17,.int .i64 (-1)),(18,.int .i64 0),(19,.int .i64 1),(20,.int .i64 1),(21,.int .i64 0),(22,.int .i64 0),(23,.int .i64 0),(24,.bool false),(25,.int .i64 0),(26,.pointer (some ⟨b26,0,none⟩)),(27,.int .i64 0),(28,.int .i64 2),(29,.int .i64 0),(30,.bool true),(31,.int .i64 0)]) (L':= [(b26,true,.cells ⟨(bkO.val oA olc oB otc).cells.toList⟩ 25 (0,0)),(b2,true,.cells ⟨(bkE.val eA elc eB etc).cells.toList⟩ 25 (0,0)),(b1,true,.cells ⟨(bkD.val dA dlc dB dtc).cells.toList⟩ 25 (0,0))]) ?_
 have e2:bkD.needTo 1 (bkD.nf 1)=2:=ex_taken.2
 refine .r ?_
 refine .x (.ld 2) ?_
 refine To.callF rfl rfl rfl rfl rfl rfl (by decide) (FnT.f ca29 rfl (Taken_c _ H7 bkD dA dlc dB dtc hD7.bk sD hG7 bkD_al 1 (by decide))) (fun v H8 hv=> ?_)
 obtain⟨le8,g32,rfl,⟨ng32,lg32⟩,mg32⟩:=hv
 rw[e2]
 refine .m ?_
 refine .x .et ?_
 refine .x .et ?_
 refine .x .et ?_
 refine .g ?_
 refine .g ?_
 refine .g ?_
 refine .done ?_
 have tl8:=View.le_trans tl7 le8
 have hD8:=hD7.le le8
 have hE8:=hE7.le le8
 have hO8:=hO7.le le8
 have hG8:=glob_le hG tl8
 refine .seq ?_
 refine Tc.db (R':= [(1,.pointer (some ⟨b1,0,none⟩)),(2,.pointer (some ⟨b2,0,none⟩)),(3,g3.val),(4,.int .i64 0),(5,g5.val),(6,.int .i64 2),(7,.int .i64 0),(8,g8.val),(9,.int .i64 0),(10,g10.val),(11,.int .i64 0),(12,.int .i64 0),(13,strV [50,50]),(14,.int .i64 2),(15,.int .i64 0),(16,strV [49,49,50]),(17,.int .i64 (-1)),(18,.int .i64 0),(19,.int .i64 1),(20,.int .i64 1),(21,.int .i64 0),(22,.int .i64 0),(23,.int .i64 0),(24,.bool false),(25,.int .i64 0),(26,.pointer (some ⟨b26,0,none⟩)),(27,.int .i64 0),(28,.int .i64 2),(29,.int .i64 0),(30,.bool true),(31,.int .i64 0),(32,g32.val),(33,.int .i64 2),(34,.int .i64 0)]) (L':= [(b26,true,.cells ⟨(bkO.val oA olc oB otc).cells.toList⟩ 25 (0,0)),(b2,true,.cells ⟨(bkE.val eA elc eB etc).cells.toList⟩ 25 (0,0)),(b1,true,.cells ⟨(bkD.val dA dlc dB dtc).cells.toList⟩ 25 (0,0))]) ?_
 refine .r ?_
 refine .x (.ld 2) ?_
 refine To.callF rfl rfl rfl rfl rfl rfl (by decide) (FnT.f ca58 rfl (Slips_c _ H8 bkD dA dlc dB dtc hD8.bk sD hG8 bkD_al 0 (by decide))) (fun v H9 hv=> ?_)
 obtain⟨le9,g35,sm,rfl,⟨st1,st2⟩,⟨ng35,lg35⟩,mg35⟩:=hv
 have e35:ddTo sm sm.length= [1,2]:=by rw[st1.len,ints_asc rfl st1 st2];exact ex_slips
 rw[e35] at ng35 lg35
 refine .m ?_
 refine .x .et ?_
 refine .x .et ?_
 refine .g ?_
 refine .g ?_
 refine .done ?_
 have tl9:=View.le_trans tl8 le9
 have hD9:=hD8.le le9
 have hE9:=hE8.le le9
 have hO9:=hO8.le le9
 have hG9:=glob_le hG tl9
 refine .seq ?_
 refine Tc.db (R':= [(1,.pointer (some ⟨b1,0,none⟩)),(2,.pointer (some ⟨b2,0,none⟩)),(3,g3.val),(4,.int .i64 0),(5,g5.val),(6,.int .i64 2),(7,.int .i64 0),(8,g8.val),(9,.int .i64 0),(10,g10.val),(11,.int .i64 0),(12,.int .i64 0),(13,strV [50,50]),(14,.int .i64 2),(15,.int .i64 0),(16,strV [49,49,50]),(17,.int .i64 (-1)),(18,.int .i64 0),(19,.int .i64 1),(20,.int .i64 1),(21,.int .i64 0),(22,.int .i64 0),(23,.int .i64 0),(24,.bool false),(25,.int .i64 0),(26,.pointer (some ⟨b26,0,none⟩)),(27,.int .i64 0),(28,.int .i64 2),(29,.int .i64 0),(30,.bool true),(31,.int .i64 0),(32,g32.val),(33,.int .i64 2),(34,.int .i64 0),(35,g35.val),(36,.int .i64 0)]) (L':= [(b26,true,.cells ⟨(bkO.val oA olc oB otc).cells.toList⟩ 25 (0,0)),(b2,true,.cells ⟨(bkE.val eA elc eB etc).cells.toList⟩ 25 (0,0)),(b1,true,.cells ⟨(bkD.val dA dlc dB dtc).cells.toList⟩ 25 (0,0))]) ?_
 refine .r ?_
 refine .x (.ld 2) ?_
 refine .c rfl rfl rfl rfl (fun H hs=> .f ca52 rfl (isV (Safe_c _ H bkD dA dlc dB dtc (hD9.bk.le hs.base) sD (glob_le hG9 hs.base) [51] (by decide)) ex_safe3)) ?_
 refine .m ?_
 refine .x .et ?_
 refine .x .et ?_
 refine .g ?_
 refine .g ?_
 refine .done (.seq ?_)
 refine Tc.db (R':= [(1,.pointer (some ⟨b1,0,none⟩)),(2,.pointer (some ⟨b2,0,none⟩)),(3,g3.val),(4,.int .i64 0),(5,g5.val),(6,.int .i64 2),(7,.int .i64 0),(8,g8.val),(9,.int .i64 0),(10,g10.val),(11,.int .i64 0),(12,.int .i64 0),(13,strV [50,50]),(14,.int .i64 2),(15,.int .i64 0),(16,strV [49,49,50]),(17,.int .i64 (-1)),(18,.int .i64 0),(19,.int .i64 1),(20,.int .i64 1),(21,.int .i64 0),(22,.int .i64 0),(23,.int .i64 0),(24,.bool false),(25,.int .i64 0),(26,.pointer (some ⟨b26,0,none⟩)),(27,.int .i64 0),(28,.int .i64 2),(29,.int .i64 0),(30,.bool true),(31,.int .i64 0),(32,g32.val),(33,.int .i64 2),(34,.int .i64 0),(35,g35.val),(36,.int .i64 0),(37,.bool false),(38,.int .i64 0)]) (L':= [(b26,true,.cells ⟨(bkO.val oA olc oB otc).cells.toList⟩ 25 (0,0)),(b2,true,.cells ⟨(bkE.val eA elc eB etc).cells.toList⟩ 25 (0,0)),(b1,true,.cells ⟨(bkD.val dA dlc dB dtc).cells.toList⟩ 25 (0,0))]) ?_
 refine .r ?_
 refine .x (.ld 2) ?_
 refine .c rfl rfl rfl rfl (fun H hs=> .f ca52 rfl (isV (Safe_c _ H bkD dA dlc dB dtc (hD9.bk.le hs.base) sD (glob_le hG9 hs.base) [53] (by decide)) ex_safe5)) ?_
 refine .m ?_
 refine .x .et ?_
 refine .x .et ?_
 refine .g ?_
 refine .g ?_
 refine .done (.seq ?_)
 refine Tc.db (R':= [(1,.pointer (some ⟨b1,0,none⟩)),(2,.pointer (some ⟨b2,0,none⟩)),(3,g3.val),(4,.int .i64 0),(5,g5.val),(6,.int .i64 2),(7,.int .i64 0),(8,g8.val),(9,.int .i64 0),(10,g10.val),(11,.int .i64 0),(12,.int .i64 0),(13,strV [50,50]),(14,.int .i64 2),(15,.int .i64 0),(16,strV [49,49,50]),(17,.int .i64 (-1)),(18,.int .i64 0),(19,.int .i64 1),(20,.int .i64 1),(21,.int .i64 0),(22,.int .i64 0),(23,.int .i64 0),(24,.bool false),(25,.int .i64 0),(26,.pointer (some ⟨b26,0,none⟩)),(27,.int .i64 0),(28,.int .i64 2),(29,.int .i64 0),(30,.bool true),(31,.int .i64 0),(32,g32.val),(33,.int .i64 2),(34,.int .i64 0),(35,g35.val),(36,.int .i64 0),(37,.bool false),(38,.int .i64 0),(39,.bool true),(40,.int .i64 0)]) (L':= [(b26,true,.cells ⟨(bkO.val oA olc oB otc).cells.toList⟩ 25 (0,0)),(b2,true,.cells ⟨(bkE.val eA elc eB etc).cells.toList⟩ 25 (0,0)),(b1,true,.cells ⟨(bkD.val dA dlc dB dtc).cells.toList⟩ 25 (0,0))]) ?_
 refine .r ?_
 refine .x (.ld 2) ?_
 refine .c rfl rfl rfl rfl (fun H hs=> .f ca50 rfl (isV (Spare_c _ H bkD dA dlc dB dtc (hD9.bk.le hs.base) sD (glob_le hG9 hs.base) 1 true) ex_spare)) ?_
 refine .m ?_
 refine .x .et ?_
 refine .x .et ?_
 refine .x .et ?_
 refine .g ?_
 refine .g ?_
 refine .g ?_
 refine .done (.seq ?_)
 refine Tc.db (R':= [(1,.pointer (some ⟨b1,0,none⟩)),(2,.pointer (some ⟨b2,0,none⟩)),(3,g3.val),(4,.int .i64 0),(5,g5.val),(6,.int .i64 2),(7,.int .i64 0),(8,g8.val),(9,.int .i64 0),(10,g10.val),(11,.int .i64 0),(12,.int .i64 0),(13,strV [50,50]),(14,.int .i64 2),(15,.int .i64 0),(16,strV [49,49,50]),(17,.int .i64 (-1)),(18,.int .i64 0),(19,.int .i64 1),(20,.int .i64 1),(21,.int .i64 0),(22,.int .i64 0),(23,.int .i64 0),(24,.bool false),(25,.int .i64 0),(26,.pointer (some ⟨b26,0,none⟩)),(27,.int .i64 0),(28,.int .i64 2),(29,.int .i64 0),(30,.bool true),(31,.int .i64 0),(32,g32.val),(33,.int .i64 2),(34,.int .i64 0),(35,g35.val),(36,.int .i64 0),(37,.bool false),(38,.int .i64 0),(39,.bool true),(40,.int .i64 0),(41,strV [48]),(42,.bool true),(43,.int .i64 0)]) (L':= [(b26,true,.cells ⟨(bkO.val oA olc oB otc).cells.toList⟩ 25 (0,0)),(b2,true,.cells ⟨(bkE.val eA elc eB etc).cells.toList⟩ 25 (0,0)),(b1,true,.cells ⟨(bkD.val dA dlc dB dtc).cells.toList⟩ 25 (0,0))]) ?_
 refine .r ?_
 refine .c rfl rfl rfl rfl (fun H hs=> .f ca67 rfl (isV (Pulses_c _ H [49,50,48] (by decide)) ex_pulses)) ?_
 refine .m ?_
 refine .x .et ?_
 refine .x .et ?_
 refine .g ?_
 refine .g ?_
 refine .done (.seq ?_)
 refine Tc.db (R':= [(1,.pointer (some ⟨b1,0,none⟩)),(2,.pointer (some ⟨b2,0,none⟩)),(3,g3.val),(4,.int .i64 0),(5,g5.val),(6,.int .i64 2),(7,.int .i64 0),(8,g8.val),(9,.int .i64 0),(10,g10.val),(11,.int .i64 0),(12,.int .i64 0),(13,strV [50,50]),(14,.int .i64 2),(15,.int .i64 0),(16,strV [49,49,50]),(17,.int .i64 (-1)),(18,.int .i64 0),(19,.int .i64 1),(20,.int .i64 1),(21,.int .i64 0),(22,.int .i64 0),(23,.int .i64 0),(24,.bool false),(25,.int .i64 0),(26,.pointer (some ⟨b26,0,none⟩)),(27,.int .i64 0),(28,.int .i64 2),(29,.int .i64 0),(30,.bool true),(31,.int .i64 0),(32,g32.val),(33,.int .i64 2),(34,.int .i64 0),(35,g35.val),(36,.int .i64 0),(37,.bool false),(38,.int .i64 0),(39,.bool true),(40,.int .i64 0),(41,strV [48]),(42,.bool true),(43,.int .i64 0),(44,.int .i64 13),(45,.int .i64 0)]) (L':= [(b26,true,.cells ⟨(bkO.val oA olc oB otc).cells.toList⟩ 25 (0,0)),(b2,true,.cells ⟨(bkE.val eA elc eB etc).cells.toList⟩ 25 (0,0)),(b1,true,.cells ⟨(bkD.val dA dlc dB dtc).cells.toList⟩ 25 (0,0))]) ?_
 refine .r ?_
 refine .e (.bs (zz:=fun bw=> ?_))
 refine To.permL2 (L₁:= [(b26,true,.cells ⟨(bkO.val oA olc oB otc).cells.toList⟩ 25 (0,0)),(b2,true,.cells ⟨(bkE.val eA elc eB etc).cells.toList⟩ 25 (0,0)),(b1,true,.cells ⟨(bkD.val dA dlc dB dtc).cells.toList⟩ 25 (0,0))]++[(bw,true,.cells ⟨intsL [5,3,1]⟩ 3 (0,0))]) (by exact List.perm_append_comm) ?_
 refine To.lift (L₂:= [(b26,true,.cells ⟨(bkO.val oA olc oB otc).cells.toList⟩ 25 (0,0)),(b2,true,.cells ⟨(bkE.val eA elc eB etc).cells.toList⟩ 25 (0,0)),(b1,true,.cells ⟨(bkD.val dA dlc dB dtc).cells.toList⟩ 25 (0,0))]) (L₁:= [(bw,true,.cells ⟨intsL [5,3,1]⟩ 3 (0,0))]) rfl (fun H10 hw=> ?_)
 have le10:=hw.base
 have tl10:=View.le_trans tl9 le10
 have hD10:=hD9.le le10
 have hE10:=hE9.le le10
 have hO10:=hO9.le le10
 have hG10:=glob_le hG tl10
 obtain⟨xc1,xc2,xc3,xc4,xc5⟩:=ex_cheap
 have al5:(cheap (exAt [5,3,1]) 3 2 2).al=0:=by unfold ChSt.al;rw[xc4];rfl
 refine To.callF rfl rfl rfl rfl rfl rfl (by decide) (FnT.f ca53 rfl (Cheapest_c _ H10 (some ⟨bw,0,none⟩) 3 3 (exAt [5,3,1]) (ints_lit [5,3,1] (hw.get (i:=0) rfl)) 2 2 (by decide) xc2 (by decide) (by decide) xc1)) (fun v H11 hv=> ?_)
 obtain⟨le11,ca,cn,cc,rfl,cn1,cs1⟩:=hv
 rw[xc5] at cn1 cs1
 rw[xc3,al5]
 refine .m ?_
 refine .x .et ?_
 refine .x .et ?_
 refine .x .et ?_
 refine .g ?_
 refine .g ?_
 refine .g ?_
 refine .done ?_
 have tl11:=View.le_trans tl10 le11
 have hD11:=hD10.le le11
 have hE11:=hE10.le le11
 have hO11:=hO10.le le11
 have hG11:=glob_le hG tl11
 refine .seq (.seq ?_)
 refine Tc.db (R':= [(1,.pointer (some ⟨b1,0,none⟩)),(2,.pointer (some ⟨b2,0,none⟩)),(3,g3.val),(4,.int .i64 0),(5,g5.val),(6,.int .i64 2),(7,.int .i64 0),(8,g8.val),(9,.int .i64 0),(10,g10.val),(11,.int .i64 0),(12,.int .i64 0),(13,strV [50,50]),(14,.int .i64 2),(15,.int .i64 0),(16,strV [49,49,50]),(17,.int .i64 (-1)),(18,.int .i64 0),(19,.int .i64 1),(20,.int .i64 1),(21,.int .i64 0),(22,.int .i64 0),(23,.int .i64 0),(24,.bool false),(25,.int .i64 0),(26,.pointer (some ⟨b26,0,none⟩)),(27,.int .i64 0),(28,.int .i64 2),(29,.int .i64 0),(30,.bool true),(31,.int .i64 0),(32,g32.val),(33,.int .i64 2),(34,.int .i64 0),(35,g35.val),(36,.int .i64 0),(37,.bool false),(38,.int .i64 0),(39,.bool true),(40,.int .i64 0),(41,strV [48]),(42,.bool true),(43,.int .i64 0),(44,.int .i64 13),(45,.int .i64 0),(46,.slice ca cn cc),(47,.int .i64 18),(48,.int .i64 0)]) (L':= [(b26,true,.cells ⟨(bkO.val oA olc oB otc).cells.toList⟩ 25 (0,0)),(b2,true,.cells ⟨(bkE.val eA elc eB etc).cells.toList⟩ 25 (0,0)),(b1,true,.cells ⟨(bkD.val dA dlc dB dtc).cells.toList⟩ 25 (0,0))]) ?_
 refine .r ?_
 refine .m ?_
 refine .i ?_ (z:=neq_f (by omega))
 refine .m ?_
 refine .m ?_
 refine .i ?_ (z:=neq_f (by omega))
 refine .x .pk ?_
 refine .m ?_
 refine .m ?_
 refine .i ?_ (z:=neq_f (by omega))
 refine .x .pk ?_
 refine .m ?_
 refine .m ?_
 refine .i ?_ (z:=neq_f (by omega))
 refine .x .pk ?_
 refine .m ?_
 refine .m ?_
 refine .i ?_ (z:=neq_f (by omega))
 refine .x .pk ?_
 refine .m ?_
 refine .m ?_
 refine .i ?_ (z:=neq_f (by omega))
 refine .x .pk ?_
 refine .m ?_
 refine .m ?_
 refine .i ?_ (z:=neq_f (by omega))
 refine .x .pk ?_
 refine .m ?_
 refine .m ?_
 refine .i ?_ (z:=neq_f (by omega))
 refine .x .pk ?_
 refine .m ?_
 refine .m ?_
 refine .i ?_ (z:=neq_f (by omega))
 refine .x .pk ?_
 refine .m ?_
 refine .m ?_
 refine .i ?_ (z:=neq_f (by omega))
 refine .x .pk ?_
 refine .m ?_
 refine .m ?_
 refine .i ?_ (z:=neq_f (by omega))
 refine .x .pk ?_
 refine .m ?_
 refine .m ?_
 refine .i ?_ (z:=neq_f (by omega))
 refine .x .pk ?_
 refine .m ?_
 refine .m ?_
 refine .i ?_ (z:=neq_f (by omega))
 refine .x .pk ?_
 refine .m ?_
 refine .m ?_
 refine .i ?_ (z:=neq_f (by omega))
 refine .x .pk ?_
 refine .m ?_
 refine .m ?_
 refine .i ?_ (z:=neq_f (by omega))
 refine .x .pk ?_
 refine .m ?_
 refine .m ?_
 refine .i ?_ (z:=neq_f (by omega))
 refine .x .pk ?_
 refine .m ?_
 refine .m ?_
 refine .i ?_ (z:=neq_f (by omega))
 refine .x .pk ?_
 refine .done (.ff rfl (.skip (.seq (.seq ?_))))
 refine Tc.db (R':= [(1,.pointer (some ⟨b1,0,none⟩)),(2,.pointer (some ⟨b2,0,none⟩)),(3,g3.val),(4,.int .i64 0),(5,g5.val),(6,.int .i64 2),(7,.int .i64 0),(8,g8.val),(9,.int .i64 0),(10,g10.val),(11,.int .i64 0),(12,.int .i64 0),(13,strV [50,50]),(14,.int .i64 2),(15,.int .i64 0),(16,strV [49,49,50]),(17,.int .i64 (-1)),(18,.int .i64 0),(19,.int .i64 1),(20,.int .i64 1),(21,.int .i64 0),(22,.int .i64 0),(23,.int .i64 0),(24,.bool false),(25,.int .i64 0),(26,.pointer (some ⟨b26,0,none⟩)),(27,.int .i64 0),(28,.int .i64 2),(29,.int .i64 0),(30,.bool true),(31,.int .i64 0),(32,g32.val),(33,.int .i64 2),(34,.int .i64 0),(35,g35.val),(36,.int .i64 0),(37,.bool false),(38,.int .i64 0),(39,.bool true),(40,.int .i64 0),(41,strV [48]),(42,.bool true),(43,.int .i64 0),(44,.int .i64 13),(45,.int .i64 0),(46,.slice ca cn cc),(47,.int .i64 18),(48,.int .i64 0)]) (L':= [(b26,true,.cells ⟨(bkO.val oA olc oB otc).cells.toList⟩ 25 (0,0)),(b2,true,.cells ⟨(bkE.val eA elc eB etc).cells.toList⟩ 25 (0,0)),(b1,true,.cells ⟨(bkD.val dA dlc dB dtc).cells.toList⟩ 25 (0,0))]) ?_
 have up:∀ {A B C:View},A.le B→B.le C→A.le C:=View.le_trans
 have w3:=fun(H':View) (h':H11.le H') (bs:Nat) (k1:H' bs=some (true,.cells ⟨strsV [[49,50],[49,51]]⟩ 9 (0,0)))=> SameWords_c (Mp Tryz.prog) H' (g3.blk.map fun b=> ⟨b,0,none⟩) (some ⟨bs,0,none⟩) g3.n ([[49,50],[49,51]]:List (List UInt8)).length g3.cap ([[49,50],[49,51]]:List (List UInt8)).length _ _ (strs_of (g0:=g3) g3 (fun x hx=> h' _ _ ((up (up (up (up (up (up (up le4 le5) le6) le7) le8) le9) le10) le11) _ _ (mg3 x hx).1)) lg3 rfl rfl) (strs_lit [[49,50],[49,51]] k1) (by rw[ng3];decide) (by decide) true (words_true [[49,50],[49,51]] ng3)
 have w8:=fun(H':View) (h':H11.le H') (bs:Nat) (k1:H' bs=some (true,.cells ⟨strsV [[49,49,50],[50,50]]⟩ 9 (0,0)))=> SameWords_c (Mp Tryz.prog) H' (g8.blk.map fun b=> ⟨b,0,none⟩) (some ⟨bs,0,none⟩) g8.n ([[49,49,50],[50,50]]:List (List UInt8)).length g8.cap ([[49,49,50],[50,50]]:List (List UInt8)).length _ _ (strs_of (g0:=g8) g8 (fun x hx=> h' _ _ ((up (up (up (up (up le6 le7) le8) le9) le10) le11) _ _ (mg8 x hx).1)) lg8 rfl rfl) (strs_lit [[49,49,50],[50,50]] k1) (by rw[ng8];decide) (by decide) true (words_true [[49,49,50],[50,50]] ng8)
 have c5:=fun(H':View) (h':H11.le H') (bs:Nat) (k1:H' bs=some (true,.cells ⟨intsL [0,0,2]⟩ 38 (0,0)))=> claims_c (Mp Tryz.prog) H' (g5.blk.map fun b=> ⟨b,0,none⟩) (some ⟨bs,0,none⟩) g5.n ([0,0,2]:List Int).length g5.cap ([0,0,2]:List Int).length (fun i=> bkD.claimOf (i:Nat)) _ (by rw[ng5];exact cl_at g5 (fun x hx=> h' _ _ ((up (up (up (up (up (up le5 le6) le7) le8) le9) le10) le11) _ _ (mg5 x hx).1)) lg5 ng5) (ints_lit [0,0,2] k1) (by rw[ng5];decide) (by decide) true (by rw[ng5];rw[decide_eq_true (by rfl)];show(true&&allB _ 3)=true;rw[(allB_iff _).2 (three (decide_eq_true ex_clD.1.1) (decide_eq_true ex_clD.1.2.1) (decide_eq_true ex_clD.1.2.2))];rfl)
 have c10:=fun(H':View) (h':H11.le H') (bs:Nat) (k1:H' bs=some (true,.cells ⟨intsL [2,2,0]⟩ 38 (0,0)))=> claims_c (Mp Tryz.prog) H' (g10.blk.map fun b=> ⟨b,0,none⟩) (some ⟨bs,0,none⟩) g10.n ([2,2,0]:List Int).length g10.cap ([2,2,0]:List Int).length (fun i=> bkE.claimOf (i:Nat)) _ (by rw[ng10];exact cl_at g10 (fun x hx=> h' _ _ ((up (up (up (up le7 le8) le9) le10) le11) _ _ (mg10 x hx).1)) lg10 ng10) (ints_lit [2,2,0] k1) (by rw[ng10];decide) (by decide) true (by rw[ng10];rw[decide_eq_true (by rfl)];show(true&&allB _ 3)=true;rw[(allB_iff _).2 (three (decide_eq_true ex_clE.1.1) (decide_eq_true ex_clE.1.2.1) (decide_eq_true ex_clE.1.2.2))];rfl)
 refine .r ?_
 refine .m ?_
 refine .e (.bs (zz:=fun x1=> ?_))
 refine .c rfl rfl rfl rfl (fun H hs=> .f ca25 rfl (w3 H hs.base x1 (hs.get (i:=0) rfl))) ?_
 refine .x .nt ?_
 refine .m ?_
 refine .m ?_
 refine .e (.bs (zz:=fun x2=> ?_))
 refine .c rfl rfl rfl rfl (fun H hs=> .f ca80 rfl (c5 H hs.base x2 (hs.get (i:=0) rfl))) ?_
 refine .x .nt ?_
 refine .x .pk ?_
 refine .m ?_
 refine .m ?_
 refine .i ?_ (z:=neq_f (by omega))
 refine .x .pk ?_
 refine .m ?_
 refine .m ?_
 refine .e (.bs (zz:=fun x3=> ?_))
 refine .c rfl rfl rfl rfl (fun H hs=> .f ca25 rfl (w8 H hs.base x3 (hs.get (i:=0) rfl))) ?_
 refine .x .nt ?_
 refine .x .pk ?_
 refine .m ?_
 refine .m ?_
 refine .e (.bs (zz:=fun x4=> ?_))
 refine .c rfl rfl rfl rfl (fun H hs=> .f ca80 rfl (c10 H hs.base x4 (hs.get (i:=0) rfl))) ?_
 refine .x .nt ?_
 refine .x .pk ?_
 refine .m ?_
 refine .m ?_
 refine .i ?_ (z:=neq_f (by omega))
 refine .x .pk ?_
 refine .m ?_
 refine .m ?_
 refine .x (OpV.strB rfl rfl rfl (by exact rfl)) ?_
 refine .x .pk ?_
 refine .m ?_
 refine .m ?_
 refine .i ?_ (z:=neq_f (by omega))
 refine .x .pk ?_
 refine .m ?_
 refine .m ?_
 refine .x (OpV.strB rfl rfl rfl (by exact rfl)) ?_
 refine .x .pk ?_
 refine .m ?_
 refine .m ?_
 refine .i ?_ (z:=neq_f (by omega))
 refine .x .pk ?_
 refine .m ?_
 refine .m ?_
 refine .i ?_ (z:=neq_f (by omega))
 refine .x .pk ?_
 refine .m ?_
 refine .m ?_
 refine .i ?_ (z:=neq_f (by omega))
 refine .x .pk ?_
 refine .m ?_
 refine .m ?_
 refine .x .pk ?_
 refine .done (.ff rfl (.skip (.seq ?_)))
 refine Tc.db (R':= [(1,.pointer (some ⟨b1,0,none⟩)),(2,.pointer (some ⟨b2,0,none⟩)),(3,g3.val),(4,.int .i64 0),(5,g5.val),(6,.int .i64 2),(7,.int .i64 0),(8,g8.val),(9,.int .i64 0),(10,g10.val),(11,.int .i64 0),(12,.int .i64 0),(13,strV [50,50]),(14,.int .i64 2),(15,.int .i64 0),(16,strV [49,49,50]),(17,.int .i64 (-1)),(18,.int .i64 0),(19,.int .i64 1),(20,.int .i64 1),(21,.int .i64 0),(22,.int .i64 0),(23,.int .i64 0),(24,.bool false),(25,.int .i64 0),(26,.pointer (some ⟨b26,0,none⟩)),(27,.int .i64 0),(28,.int .i64 2),(29,.int .i64 0),(30,.bool true),(31,.int .i64 0),(32,g32.val),(33,.int .i64 2),(34,.int .i64 0),(35,g35.val),(36,.int .i64 0),(37,.bool false),(38,.int .i64 0),(39,.bool true),(40,.int .i64 0),(41,strV [48]),(42,.bool true),(43,.int .i64 0),(44,.int .i64 13),(45,.int .i64 0),(46,.slice ca cn cc),(47,.int .i64 18),(48,.int .i64 0)]) (L':= [(b26,true,.cells ⟨(bkO.val oA olc oB otc).cells.toList⟩ 25 (0,0)),(b2,true,.cells ⟨(bkE.val eA elc eB etc).cells.toList⟩ 25 (0,0)),(b1,true,.cells ⟨(bkD.val dA dlc dB dtc).cells.toList⟩ 25 (0,0))]) ?_
 have c32:=fun(H':View) (h':H11.le H') (bs:Nat) (k1:H' bs=some (true,.cells ⟨intsL [2,0]⟩ 38 (0,0)))=> claims_c (Mp Tryz.prog) H' (g32.blk.map fun b=> ⟨b,0,none⟩) (some ⟨bs,0,none⟩) g32.n ([2,0]:List Int).length g32.cap ([2,0]:List Int).length (bkD.takenAt 1) _ (by rw[ng32];exact cl_at g32 (fun x hx=> h' _ _ ((up (up le9 le10) le11) _ _ (mg32 x hx).1)) lg32 ng32) (ints_lit [2,0] k1) (by rw[ng32];decide) (by decide) true (by rw[ng32];rw[decide_eq_true (by rfl)];show(true&&allB _ 2)=true;rw[(allB_iff _).2 (two (decide_eq_true ex_taken.1.1) (decide_eq_true ex_taken.1.2))];rfl)
 have n35:=fun(H':View) (h':H11.le H') (bs:Nat) (k1:H' bs=some (true,.cells ⟨intsL [1,2]⟩ 3 (0,0)))=> SameNums_eq (Mp Tryz.prog) H' (g35.blk.map fun b=> ⟨b,0,none⟩) (some ⟨bs,0,none⟩) 2 g35.cap 2 (exAt [1,2]) (exAt [1,2]) (cl_at g35 (fun x hx=> h' _ _ ((up le10 le11) _ _ (mg35 x hx).1)) (lg35.trans (clL_ints _)) ng35) (ints_lit [1,2] k1) (by decide) (fun _ _=> rfl)
 have w46:=fun(H':View) (h':H11.le H') (bs:Nat) (k1:H' bs=some (true,.cells ⟨strsV [[49],[50,49],[50,50]]⟩ 9 (0,0)))=> SameWords_c (Mp Tryz.prog) H' ca (some ⟨bs,0,none⟩) cn ([[49],[50,49],[50,50]]:List (List UInt8)).length cc ([[49],[50,49],[50,50]]:List (List UInt8)).length _ _ (strs_src (cs1.mono (View.le_trans (View.le_refl H11) h')) cn1) (strs_lit [[49],[50,49],[50,50]] k1) (by rw[cn1];decide) (by decide) true (words_true [[49],[50,49],[50,50]] cn1)
 rw[show g35.val=.slice (g35.blk.map fun b=> ⟨b,0,none⟩) 2 g35.cap by unfold Gl.val;rw[ng35];rfl]
 refine .r ?_
 refine .m ?_
 refine .m ?_
 refine .m ?_
 refine .i ?_ (z:=eql_t (by omega))
 refine .x .pk ?_
 refine .m ?_
 refine .m ?_
 refine .i ?_ (z:=eql_t (by omega))
 refine .x .pk ?_
 refine .m ?_
 refine .m ?_
 refine .e (.bs (zz:=fun y1=> ?_))
 refine .c rfl rfl rfl rfl (fun H hs=> .f ca80 rfl (c32 H hs.base y1 (hs.get (i:=0) rfl))) ?_
 refine .x .pk ?_
 refine .m ?_
 refine .m ?_
 refine .i ?_ (z:=eql_t (by omega))
 refine .x .pk ?_
 refine .m ?_
 refine .m ?_
 refine .e (.bs (zz:=fun y2=> ?_))
 refine .c rfl rfl rfl rfl (fun H hs=> .f ca62 rfl (n35 H hs.base y2 (hs.get (i:=0) rfl))) ?_
 refine .x .pk ?_
 refine .m ?_
 refine .m ?_
 refine .x .nt ?_
 refine .x .pk ?_
 refine .m ?_
 refine .m ?_
 refine .x .pk ?_
 refine .m ?_
 refine .m ?_
 refine .x (OpV.strB rfl rfl rfl (by exact rfl)) ?_
 refine .x .pk ?_
 refine .m ?_
 refine .m ?_
 refine .i ?_ (z:=eql_t (by omega))
 refine .x .pk ?_
 refine .m ?_
 refine .m ?_
 refine .e (.bs (zz:=fun y3=> ?_))
 refine .c rfl rfl rfl rfl (fun H hs=> .f ca25 rfl (w46 H hs.base y3 (hs.get (i:=0) rfl))) ?_
 refine .x .pk ?_
 refine .m ?_
 refine .m ?_
 refine .i ?_ (z:=eql_t (by omega))
 refine .x .pk ?_
 refine .g ?_
 refine .done ?_
 refine .rt hK Tryz.func18 Tryz.results18 [_] ?_
 exact fun H' hs=> ⟨View.le_trans tl11 hs.base,rfl⟩
end Go.Proofs.YtdnfdeplcjaonaaGreatDoor
end
section
namespace Go.Proofs.YtdnfdeplcjaonaaGreatDoor
open Go.RL
set_option maxRecDepth 10000
set_option maxHeartbeats 16000000
section
variable(M:Md Tryz.prog)(H:View)
end
end Go.Proofs.YtdnfdeplcjaonaaGreatDoor
end
section
namespace Go.Proofs.YtdnfdeplcjaonaaGreatDoor
open Go.RL
set_option maxRecDepth 10000
set_option maxHeartbeats 8000000
def hasTo(x:Nat→Int)(n:Nat)(z:Int):Bool:=(firstTo (fun j=> decide (x j=z)) n).isSome
section
variable(M:Md Tryz.prog)(H:View)
theorem HasNum_c(F:Option Addr)(n fc:Nat)(x:Nat→Int)(hF:FreeAt H F n x)(hn:n≤1000000)(z:Int)(t:Bool)(ht:hasTo x n z=t):CallT M 59 #[.slice F n fc,.int .i64 z] H (fun v H'=> H.le H'∧v=.bool t):=by
 rw[←ht]
 clear ht
 refine CallT.enter (vs:= [.slice F n fc,.int .i64 z]) Tryz.func59 rfl Tryz.ntmps59 (Nat.le_of_ble_eq_true rfl) (SymSt.nil _) fun St c cs hK=> ?_
 refine .sr ?_
 refine .g ?_
 refine .done (.seq (.sr ?_))
 refine .g ?_
 refine .done (.block ?_)
 refine Tc.db (Tc.loopInv (σ:= { j:Nat//j≤n∧firstTo (fun j=> decide (x j=z)) j=none }) (fun j=> ([(0,.slice F n fc),(1,.int .i64 z),(5,.int .i64 (j.1:Nat))],[])) (fun j=> n-j.1) ?_ ⟨0,Nat.zero_le _,rfl⟩)
 rintro⟨j,hj,hno⟩ ih
 show Tc M St _ _ _ _ [(0,.slice F n fc),(1,.int .i64 z),(5,.int .i64 (j:Nat))] [] _ _
 by_cases c1:j=n
 · have e:hasTo x n z=false:=by unfold hasTo;rw[←c1,hno];rfl
   rw[e] at hK
   clear e ih hno
   subst c1
   refine .seq (.sr ?_)
   refine .m ?_
   refine .m ?_
   refine .x .ln ?_
   refine .i ?_ (z:=lss_f (by omega))
   refine .done (.ff rfl (.exit rfl (.sr ?_)))
   refine .g ?_
   refine .done ?_
   refine .rt hK Tryz.func59 Tryz.results59 [_] ?_
   exact fun H' hs=> ⟨hs.base,rfl⟩
 · have c2:j<n:=by omega
   obtain h0|⟨ab,ao,f,gs,gt,gz,rfl,hb,hl⟩:=hF
   · omega
   have f1:=hl j c2
   by_cases c3:x j=z
   · have e:hasTo x n z=true:=by
       unfold hasTo
       rw[firstTo_stays (j:=j+1) (x:=j) (by simp[firstTo,hno,c3]) _ (by omega)]
       rfl
     rw[e] at hK
     refine .seq (.sr ?_)
     refine .m ?_
     refine .m ?_
     refine .x .ln ?_
     refine .i ?_ (z:=lss_t (by omega))
     refine .done (.tt rfl (.skip (.seq (.block (.sr ?_)))))
     refine .m ?_
     refine .m ?_
     refine .x .ia ?_
     refine .x .l0 ?_
     refine .m ?_
     refine .i ?_ (z:=eql_t (by omega))
     refine .done (.tt rfl (.sr ?_))
     refine .g ?_
     refine .done ?_
     refine .rt hK Tryz.func59 Tryz.results59 [_] ?_
     exact fun H' hs=> ⟨hs.base,rfl⟩
   · refine .seq (.sr ?_)
     refine .m ?_
     refine .m ?_
     refine .x .ln ?_
     refine .i ?_ (z:=lss_t (by omega))
     refine .done (.tt rfl (.skip (.seq (.block (.sr ?_)))))
     refine .m ?_
     refine .m ?_
     refine .x .ia ?_
     refine .x .l0 ?_
     refine .m ?_
     refine .i ?_ (z:=eql_f (by omega))
     refine .done (.ff rfl (.skip (.inBlock (.r ?_))))
     refine .m ?_
     refine .i ?_ (z:=add_in (by omega) (by omega))
     refine .g ?_
     refine .done ?_
     exact Tc.db (ih ⟨j+1,by omega,by simp[firstTo,hno,c3]⟩ (by simp only;omega))
end
end Go.Proofs.YtdnfdeplcjaonaaGreatDoor
end
section
namespace Go.Proofs.YtdnfdeplcjaonaaGreatDoor
open Go.RL
set_option maxRecDepth 10000
set_option maxHeartbeats 1000000
theorem Bk.mem_hits {k:Bk}{w:Nat}{z:Int}:z∈k.hits w↔∃x∈slipsL (k.num w),∃j,k.line x=some j∧j≠w∧z=(j:Nat):=by
 unfold Bk.hits
 rw[List.mem_filterMap]
 constructor
 · rintro⟨x,hx,h⟩
   refine⟨x,hx,?_⟩
   unfold Bk.hit at h
   cases e:k.line x with
   | none=> rw[e] at h;cases h
   | some j=>
     rw[e] at h
     by_cases c:j=w
     · simp[c] at h
     · simp only[if_neg c,Option.some.injEq] at h
       exact⟨j,rfl,c,h.symm⟩
 · rintro⟨x,hx,j,h1,h2,rfl⟩
   refine⟨x,hx,?_⟩
   unfold Bk.hit
   rw[h1]
   exact if_neg h2
theorem hasTo_mem(l:List Int){n:Nat}(hn:n=l.length)(z:Int)(t:Bool)(ht:t=true↔z∈l):hasTo (exAt l) n z=t:=by
 unfold hasTo
 subst hn
 cases e:firstTo (fun j=> decide (exAt l j=z)) l.length with
 | some i=>
   have h1:=of_decide_eq_true (firstTo_true _ e)
   have h2:=firstTo_in _ e
   unfold exAt at h1
   rw[List.getElem?_eq_getElem h2] at h1
   have h3:z∈l:=by rw[←h1];exact List.getElem_mem _
   rw[ht.2 h3]
   rfl
 | none=>
   have h1:=(firstTo_none _).1 e
   cases t with
   | false=> rfl
   | true=>
     obtain⟨i,hi,h2⟩:=List.getElem_of_mem (ht.1 rfl)
     have:=h1 i hi
     unfold exAt at this
     rw[List.getElem?_eq_getElem hi] at this
     simp[h2] at this
theorem firstA_none {f:Nat→Int}:∀n,(∀i,i<n→f i=0)→firstA f n=0
 | 0,_=> rfl
 | n+1,h=> by rw[firstA,if_pos (firstA_none n fun i hi=> h i (by omega))];exact h n (by omega)
section
variable(M:Md Tryz.prog)(H:View)
theorem Slips_l(k:Bk)(A:Option Addr)(lc:Nat)(B:Option Addr)(tc:Nat)(hk:BkAt H k A lc B tc)(hn:k.small)(hG:Glob H)(ha:k.alarm=0)(line:Nat)(hl:line<k.nl):
   CallT M 58 #[k.val A lc B tc,.int .i64 (line:Nat)] H (fun v H'=> H.le H'∧∃(G:Option Addr) (n c:Nat),n=(ascI (k.hits line)).length∧v=.tuple ⟨[.slice G n c,.int .i64 0]⟩∧FreeAt H' G n (exAt (ascI (k.hits line)))):=
 CallT.mono (Slips_c M H k A lc B tc hk hn hG ha line hl) (by
   rintro v H' ⟨h1,g,m,rfl,⟨h2,h3⟩,⟨h4,h5⟩,h6⟩
   have e:ddTo m m.length=ascI (k.hits line):=by
     have hml:m.length=(k.hits line).length:=h2.len
     rw[hml]
     exact ints_asc rfl h2 h3
   rw[e] at h4 h5
   refine⟨h1,g.blk.map (fun b=> ⟨b,0,none⟩),g.n,g.cap,h4,rfl,?_⟩
   rw[h4]
   exact cl_at g (fun x hx=> (h6 x hx).1) (h5.trans (clL_ints _)) h4)
end
end Go.Proofs.YtdnfdeplcjaonaaGreatDoor
end
section
namespace Go.Proofs.YtdnfdeplcjaonaaGreatDoor
open Go.RL
set_option maxRecDepth 10000
set_option maxHeartbeats 1000000
section
variable(k:Bk)(nm s:List UInt8)(nf:Nat)(fr:Nat→Int)
theorem add_name {i:Nat}(hi:i<k.nl):(k.add nm s nf fr).name i=k.name i:=if_neg (by omega)
theorem add_num {i:Nat}(hi:i<k.nl):(k.add nm s nf fr).num i=k.num i:=if_neg (by omega)
theorem add_nf {i:Nat}(hi:i<k.nl):(k.add nm s nf fr).nf i=k.nf i:=if_neg (by omega)
theorem add_free {i:Nat}(hi:i<k.nl):(k.add nm s nf fr).free i=k.free i:=if_neg (by omega)
theorem add_lineA {i:Nat}(hi:i<k.nl):(k.add nm s nf fr).lineA i=k.lineA i:=by
 have e1:(k.add nm s nf fr).again i=k.again i:=by
   unfold Bk.again
   rw[firstTo_cong i fun j hj=> by rw[add_name k nm s nf fr (show j<k.nl by omega),add_name k nm s nf fr hi]]
 have e2:((k.add nm s nf fr).pre i).clash ((k.add nm s nf fr).num i)=(k.pre i).clash (k.num i):=by
   show(firstTo (fun j=> clash1 ((k.add nm s nf fr).num j) ((k.add nm s nf fr).num i)) i).isSome=(firstTo (fun j=> clash1 (k.num j) (k.num i)) i).isSome
   rw[firstTo_cong i fun j hj=> by rw[add_num k nm s nf fr (show j<k.nl by omega),add_num k nm s nf fr hi]]
 have e3:(k.add nm s nf fr).freeBad i=k.freeBad i:=by
   unfold Bk.freeBad
   rw[add_nf k nm s nf fr hi,add_free k nm s nf fr hi]
 unfold Bk.lineA
 rw[e1,e2,e3,add_name k nm s nf fr hi,add_num k nm s nf fr hi,add_nf k nm s nf fr hi]
theorem add_alarm {k:Bk}(ha:k.alarm=0)(hn:k.nl<6):(k.add nm s nf fr).alarm=(k.add nm s nf fr).lineA k.nl:=by
 obtain⟨h1,h2,h3⟩:=Bk.alarm0 ha
 have e1:(k.add nm s nf fr).pausesA=0:=h1
 have e3:(k.add nm s nf fr).trainsA=0:=h3
 have hl:firstA k.lineA k.nl=0:=by
   unfold Bk.linesA at h2
   rwa [if_neg (by omega)] at h2
 have e2:(k.add nm s nf fr).linesA=(k.add nm s nf fr).lineA k.nl:=by
   unfold Bk.linesA
   have:¬6<(k.add nm s nf fr).nl:=by show ¬6<k.nl+1;omega
   rw[if_neg this]
   show firstA (k.add nm s nf fr).lineA (k.nl+1)=_
   rw[firstA,if_pos (firstA_none _ fun i hi=> by rw[add_lineA k nm s nf fr hi];exact firstA_zero _ hl i hi)]
 unfold Bk.alarm
 rw[if_pos e1,e2,e3]
 by_cases c:(k.add nm s nf fr).lineA k.nl=0
 · rw[if_pos c,c]
 · rw[if_neg c]
theorem add_clash:((k.add nm s nf fr).pre k.nl).clash s=k.clash s:=by
 show(firstTo (fun j=> clash1 ((k.add nm s nf fr).num j) s) k.nl).isSome=(firstTo (fun j=> clash1 (k.num j) s) k.nl).isSome
 rw[firstTo_cong k.nl fun j hj=> by rw[add_num k nm s nf fr hj]]
theorem add_says {k:Bk}(ha:k.alarm=0)(hn:k.nl<6)(hnm:isNm nm=true):(k.add nm s 1 (fun _=> 1)).alarm=if(k.add nm s 1 (fun _=> 1)).again k.nl=true then 5 else if isNum s=false then 3 else if k.clash s=true then 10 else 0:=by
 rw[add_alarm nm s 1 _ ha hn]
 unfold Bk.lineA
 have e1:(k.add nm s 1 (fun _=> 1)).name k.nl=nm:=if_pos rfl
 have e2:(k.add nm s 1 (fun _=> 1)).num k.nl=s:=if_pos rfl
 have e3:(k.add nm s 1 (fun _=> 1)).nf k.nl=1:=if_pos rfl
 have e4:(k.add nm s 1 (fun _=> 1)).free k.nl=fun _=> 1:=if_pos rfl
 have e5:(k.add nm s 1 (fun _=> 1)).freeBad k.nl=false:=by
   unfold Bk.freeBad
   rw[e3,e4]
   rfl
 rw[e1,e2,e3,e5,add_clash,if_neg (by rw[hnm];decide)]
 by_cases c1:(k.add nm s 1 (fun _=> 1)).again k.nl=true
 · rw[if_pos c1,if_pos c1]
 · rw[if_neg c1,if_neg c1]
   by_cases c2:isNum s=false
   · rw[if_pos c2,if_pos c2]
   · rw[if_neg c2,if_neg c2]
     by_cases c3:k.clash s=true
     · rw[if_pos c3,if_pos c3]
     · rw[if_neg c3,if_neg c3,if_neg (by decide),if_neg (by decide)]
end
def Bk.svTo(k:Bk)(n:Nat):Nat→Bool
 | 0=> decide ((ascI (k.hits n)).length=0)
 | j+1=> k.svTo n j && !decide ((n:Int)∈ascI (k.hits j))
theorem add_line(k:Bk)(nm s:List UInt8)(nf:Nat)(fr:Nat→Int)(x:List UInt8):(k.add nm s nf fr).line x=(k.line x).or (if begins x s then some k.nl else none):=by
 unfold Bk.line
 show firstTo (fun i=> begins x ((k.add nm s nf fr).num i)) (k.nl+1)=_
 rw[firstTo,firstTo_cong k.nl fun j hj=> by rw[add_num k nm s nf fr hj]]
 have e:(k.add nm s nf fr).num k.nl=s:=if_pos rfl
 rw[e]
theorem Bk.svTo_all {k:Bk}{n:Nat}:∀j,k.svTo n j=true↔(ascI (k.hits n)).length=0∧∀i,i<j→(n:Int) ∉ ascI (k.hits i)
 | 0=> by
   unfold Bk.svTo
   rw[decide_eq_true_eq]
   exact⟨fun h=> ⟨h,fun i hi=> by omega⟩,fun h=> h.1⟩
 | j + 1=> by
   unfold Bk.svTo
   rw[Bool.and_eq_true,Bk.svTo_all j]
   simp only[Bool.not_eq_true',decide_eq_false_iff_not]
   constructor
   · rintro⟨⟨h1,h2⟩,h3⟩
     refine⟨h1,fun i hi=> ?_⟩
     by_cases c:i=j
     · subst c;exact h3
     · exact h2 i (by omega)
   · rintro⟨h1,h2⟩
     exact⟨⟨h1,fun i hi=> h2 i (by omega)⟩,h2 j (by omega)⟩
theorem safe_law {k:Bk}(nm s:List UInt8)(nf:Nat)(fr:Nat→Int)(ha2:(k.add nm s nf fr).alarm=0):(k.add nm s nf fr).svTo k.nl k.nl=k.safe s:=by
 rw[Bool.eq_iff_iff,Bk.svTo_all]
 have e2:(k.add nm s nf fr).num k.nl=s:=if_pos rfl
 have hnl:(k.add nm s nf fr).nl=k.nl+1:=rfl
 unfold Bk.safe
 rw[Bool.and_eq_true,allB_iff]
 refine and_congr ?_ ?_
 · rw[List.length_eq_zero_iff]
   have h1:ascI ((k.add nm s nf fr).hits k.nl)= []↔(k.add nm s nf fr).hits k.nl= []:=by
     simp only[List.eq_nil_iff_forall_not_mem,mem_ascI]
   rw[h1]
   unfold Bk.safe1
   rw[List.all_eq_true,List.eq_nil_iff_forall_not_mem]
   constructor
   · intro h x hx
     cases e:k.line x with
     | none=> rfl
     | some j=>
       have h3:=firstTo_in _ e
       refine(h (j:Nat) (Bk.mem_hits.2 ⟨x,by rw[e2];exact hx,j,by rw[add_line,e];rfl,by omega,rfl⟩)).elim
   · intro h z hz
     obtain⟨x,hx,j,h3,h4,_⟩:=Bk.mem_hits.1 hz
     rw[e2] at hx
     have h5:=h x hx
     rw[add_line] at h3
     cases e:k.line x with
     | some j=> rw[e] at h5;cases h5
     | none=>
       rw[e] at h3
       by_cases c:begins x s=true
       · rw[if_pos c] at h3
         exact h4 (Option.some.inj h3).symm
       · rw[if_neg c] at h3
         cases h3
 · refine forall_congr' fun i=> forall_congr' fun hi=> ?_
   rw[mem_ascI]
   unfold Bk.safeAt
   rw[List.all_eq_true]
   constructor
   · intro h x hx
     cases e:begins x s with
     | false=> rfl
     | true=>
       have h3:=Bk.line_is (k:=k.add nm s nf fr) ha2 (w:=k.nl) (by rw[hnl];omega) (s:=x) (by rw[e2];exact begins_iff.1 e)
       exact(h (Bk.mem_hits.2 ⟨x,by rw[add_num k nm s nf fr hi];exact hx,k.nl,h3,by omega,rfl⟩)).elim
   · intro h hz
     obtain⟨x,hx,j,h3,_,h5⟩:=Bk.mem_hits.1 hz
     rw[add_num k nm s nf fr hi] at hx
     have hj:j=k.nl:=by omega
     subst hj
     have h6:=(Bk.line_at h3).2
     rw[e2] at h6
     have h7:=h x hx
     rw[begins_iff.2 h6] at h7
     cases h7
end Go.Proofs.YtdnfdeplcjaonaaGreatDoor
end
section
namespace Go.RL
section
variable {P:Program}{M:Md P}{St:View→Goroutine→Prop}{n:Nat}{b:FB}{H₀:View}{cs:List Frame}{R:Rg}{L:Bl}{ds:List Deferred}{todo:List Item}
theorem Tc.absorb(A B:Bl)(p:(A++B).Perm L)(h:∀H₁:View,H₀.le H₁→(∀x∈B,H₁ x.1=some x.2)→Tc M St n b H₁ cs R A ds todo):Tc M St n b H₀ cs R L ds todo:=fun H tmps hs hr=> by
 obtain⟨H₂,h1,h2⟩:=(hs.perm p).unappend
 exact h H₂ h2.base h2.at_ H tmps h1 hr
end
end Go.RL
end
section
namespace Go.RL
open Go.Conc
def bytesV(s:List UInt8):List Value:=s.map fun b=> .int .u8 (b.toNat:Nat)
section
variable {P:Program}{E:Env P}{M:Md P}{n:Nat}{H₀:View}{R:Rg}{L L':Bl}{K:Rg→Bl→Prop}{o:Oper}{d:Nat}{v:Value}
theorem bytes_push(a:List UInt8)(b:UInt8):(ByteArray.mk ⟨a⟩).push b=ByteArray.mk ⟨a++[b]⟩:=by
 apply ByteArray.ext
 apply Array.ext'
 simp
theorem vwp_bytesLoop {H:View}{Q:ByteArray→View→Prop}(F:Value→ByteArray→Sem (ForInStep ByteArray))(hF:∀(b:UInt8) acc,F (.int .u8 (b.toNat:Nat)) acc=Sem.pure (.yield (acc.push b))):∀(s a:List UInt8),Q ⟨⟨a++s⟩⟩ H→vwp P (forIn (bytesV s) (ByteArray.mk ⟨a⟩) F) H Q
 | [],a,h=> by
   rw[List.append_nil] at h
   exact h
 | b::s,a,h=> by
   show vwp P (forIn (Value.int .u8 (b.toNat:Nat)::bytesV s) (ByteArray.mk ⟨a⟩) F) H Q
   rw[List.forIn_cons]
   refine vwp_bind _ _ ?_
   rw[hF]
   show vwp P (forIn (bytesV s) ((ByteArray.mk ⟨a⟩).push b) F) H Q
   rw[bytes_push]
   refine vwp_bytesLoop F hF s (a++[b]) ?_
   rw[List.append_assoc]
   exact h
theorem vwp_bytesToString {H:View}{Q:Value→View→Prop}{y:Value}{m:Nat}{s:List UInt8}(h:SrcAt H 1 y m (bytesV s))(hq:Q (strV s) H):vwp P (Conv.bytesToString y) H Q:=by
 obtain⟨_,hl,⟨a,c,rfl,he⟩|⟨b,off,c,f,cs,e,fz,rfl,hb,hle,ht⟩⟩:=h
 · have:s= []:=by cases s with
     | nil=> rfl
     | cons _ _=> cases he
   subst this
   have hm:m=0:=by simpa [bytesV] using hl.symm
   subst hm
   cases a with
   | none=> exact hq
   | some a=> exact hq
 · have hm:m=(bytesV s).length:=by rw[hl,Nat.mul_one]
   unfold Conv.bytesToString
   show vwp P ((loadCellsFrom ⟨b,off,none⟩ 0 m #[]).bind _) H Q
   refine vwp_bind _ _ (vwp_loadCells b off hb m 0 #[] (by rw[hm];omega) ?_)
   rw[hm,Nat.add_zero,ht]
   refine vwp_bind _ _ ?_
   simp only[Array.empty_append,List.forIn_toArray]
   exact vwp_bytesLoop _ (fun b acc=> by
     show(pure (ForInStep.yield (acc.push (UInt8.ofNat ((b.toNat:Nat):Int).toNat))):Sem (ForInStep ByteArray))=Sem.pure (ForInStep.yield (acc.push b))
     rw[Int.toNat_natCast,UInt8.ofNat_toNat]
     rfl) s [] hq
theorem OpV.convB {t u e:TypeId}{x:Operand}{yv:Value}{m:Nat}{s:List UInt8}{r re r':TyRow}(hop:o.op=.convert t u x)(hx:evR R x=some yv)(hsrc:∀H,SymSt H₀ L H→SrcAt H 1 yv m (bytesV s))(ht:E.ty t=some r)(hr:r.ds=.slice e)(hte:E.ty e=some re)(hre:re.ds=.int .u8)(ht':E.ty u=some r')(hr':r'.ds=.str):
   OpV P n H₀ R L o (strV s):=fun H tmps hs hrr=> by
 unfold execOp;rw[hop]
 simp only[hrr.ev hx]
 have h1:=hsrc H hs
 obtain⟨⟨a,c,rfl⟩,_⟩:=h1
 refine vwp_bind (convert t u (.slice a m c)) _ ?_
 unfold convert
 refine vwp_bind (underlying t) _ (vwp_underlying (ds_slice ((E.ok _ _ ht).ds.trans hr)) (vwp_bind (underlying u) _ (vwp_underlying (ds_str ((E.ok _ _ ht').ds.trans hr')) ?_)))
 refine vwp_bind (underlying e) _ (vwp_underlying (ds_int ((E.ok _ _ hte).ds.trans hre)) ?_)
 exact vwp_bytesToString (hsrc H hs) ⟨rfl,rfl⟩
end
end Go.RL
end
section
namespace Go.Proofs.YtdnfdeplcjaonaaGreatDoor
open Go.RL
set_option maxRecDepth 10000
set_option maxHeartbeats 16000000
def safeP(x:Bool)(a:Int):Value:=.tuple ⟨[.bool x,.int .i64 a]⟩
def zzB(i:Nat):List UInt8:= [122,122,UInt8.ofNat (48+i)]
theorem zz_ok:∀i,i<6→isNm (zzB i)=true:=by decide +kernel
section
variable(H:View)
theorem Safe_w {St:View→Goroutine→Prop}{cs:List Frame}(hG:Glob H)(k:Bk)(A:Option Addr)(lc:Nat)(B:Option Addr)(tc:Nat)(F:Nat→Option Addr)(fc:Nat→Nat)(hB:BookAt H k A lc B tc F fc)(s:List UInt8)
   (hR:∀(H₀:View) (R:Rg) (L:Bl) (kk:List Item),lk R 4=some (.bool true)→H.le H₀→Tc (Mp Tryz.prog) St 148 ⟨16,.normal,none⟩ H₀ cs R L [] (.code .ret::kk)):
   Tc (Mp Tryz.prog) St 148 ⟨16,.normal,none⟩ H cs (argR [k.val A lc B tc,strV s]) [] [] [.code (bodyOf Tryz.f16)]:=by
 have hk:=hB.bk
 have hlives:=fun(H':View) (h:H.le H')=> lives_c H' (glob_le hG h)
 have hfitc:=fun(H':View) (h:H.le H')=> Fit_c (Mp Tryz.prog) H' k A lc B tc (hk.le h)
 cases hfit:k.fit with
 | false=>
   refine .sr ?_
   refine .e (.bx (zz:=fun b2=> ?_))
   refine .g ?_
   refine .done (.seq (.sr ?_))
   refine .x (.ld 0) ?_
   refine .c rfl rfl rfl rfl (fun H hs=> .f ca38 rfl (hfitc H hs.base false hfit)) ?_
   refine .x .nt ?_
   refine .m ?_
   refine .sk ?_
   refine .sk ?_
   refine .sk ?_
   refine .sk ?_
   refine .x .pk ?_
   refine .m ?_
   refine .sk ?_
   refine .sk ?_
   refine .sk ?_
   refine .x .pk ?_
   refine .done (.tt rfl (.sr ?_))
   refine .c rfl rfl rfl rfl (fun H hs=> .f ca18 rfl (hlives H hs.base)) ?_
   refine .g ?_
   refine .done ?_
   exact hR _ _ _ _ rfl (View.le_refl _)
 | true=>
   obtain⟨hgr,hal⟩:k.great=false∧k.alarm=0:=by
     unfold Bk.fit at hfit
     rw[Bool.and_eq_true] at hfit
     exact⟨by simpa using hfit.1,of_decide_eq_true hfit.2⟩
   have hsm:k.small:=Bk.ungreat_small hgr
   obtain⟨hgg,hnl6,hnt6,hok⟩:=Bk.valid hal
   by_cases c0:6≤k.nl
   · refine .sr ?_
     refine .e (.bx (zz:=fun b2=> ?_))
     refine .g ?_
     refine .done (.seq (.sr ?_))
     refine .x (.ld 0) ?_
     refine .c rfl rfl rfl rfl (fun H hs=> .f ca38 rfl (hfitc H hs.base true hfit)) ?_
     refine .x .nt ?_
     refine .m ?_
     refine .x .fa ?_
     refine .x (.ld 0) ?_
     refine .x .ln ?_
     refine .i ?_ (z:=geq_t (by omega))
     refine .x .pk ?_
     refine .m ?_
     refine .sk ?_
     refine .sk ?_
     refine .sk ?_
     refine .x .pk ?_
     refine .done (.tt rfl (.sr ?_))
     refine .c rfl rfl rfl rfl (fun H hs=> .f ca18 rfl (hlives H hs.base)) ?_
     refine .g ?_
     refine .done ?_
     exact hR _ _ _ _ rfl (View.le_refl _)
   by_cases c1:100<s.length
   · refine .sr ?_
     refine .e (.bx (zz:=fun b2=> ?_))
     refine .g ?_
     refine .done (.seq (.sr ?_))
     refine .x (.ld 0) ?_
     refine .c rfl rfl rfl rfl (fun H hs=> .f ca38 rfl (hfitc H hs.base true hfit)) ?_
     refine .x .nt ?_
     refine .m ?_
     refine .x .fa ?_
     refine .x (.ld 0) ?_
     refine .x .ln ?_
     refine .i ?_ (z:=geq_f (by omega))
     refine .x .pk ?_
     refine .m ?_
     refine .m ?_
     refine .x (OpV.lenS (E:=en) rfl rfl rfl rfl rfl rfl rfl) ?_
     refine .i ?_ (z:=gtr_t (by omega))
     refine .x .pk ?_
     refine .done (.tt rfl (.sr ?_))
     refine .c rfl rfl rfl rfl (fun H hs=> .f ca18 rfl (hlives H hs.base)) ?_
     refine .g ?_
     refine .done ?_
     exact hR _ _ _ _ rfl (View.le_refl _)
   have c2:k.nl<6:=by omega
   have c3:s.length≤100:=by omega
   clear c0 c1
   have hdet:=Safe_c (Mp Tryz.prog)
   refine .sr ?_
   refine .e (.bx (zz:=fun b2=> ?_))
   refine .g ?_
   refine .done (.seq (.sr ?_))
   refine .x (.ld 0) ?_
   refine .c rfl rfl rfl rfl (fun H hs=> .f ca38 rfl (hfitc H hs.base true hfit)) ?_
   refine .x .nt ?_
   refine .m ?_
   refine .x .fa ?_
   refine .x (.ld 0) ?_
   refine .x .ln ?_
   refine .i ?_ (z:=geq_f (by omega))
   refine .x .pk ?_
   refine .m ?_
   refine .m ?_
   refine .x (OpV.lenS (E:=en) rfl rfl rfl rfl rfl rfl rfl) ?_
   refine .i ?_ (z:=gtr_f (by omega))
   refine .x .pk ?_
   refine .done (.ff rfl (.skip (.sr ?_)))
   refine .m ?_
   refine .e (.bs (zz:=fun bf=> ?_))
   refine .x .bu ?_
   refine .e (.al (zz:=fun b5=> ?_))
   refine .e (.st 0 (zz:=?_))
   refine .done (.seq (.sr ?_))
   refine .g ?_
   refine .done ?_
   refine Tc.db (R':= [(1,strV s),(2,.pointer (some ⟨b2,0,none⟩)),(5,.pointer (some ⟨b5,0,none⟩)),(6,.int .i64 0)]) (L':= [(b5,true,.cells ⟨[strV [122],strV s,.slice (some ⟨bf,0,none⟩) 1 1]⟩ 64 (0,0)),(bf,true,.cells ⟨[.int .i64 1]⟩ 38 (0,0)),(b2,true,.cells ⟨(k.val A lc B tc).cells.toList⟩ 25 (0,0))]) ?_
   refine Tc.absorb [(b5,true,.cells ⟨[strV [122],strV s,.slice (some ⟨bf,0,none⟩) 1 1]⟩ 64 (0,0)),(b2,true,.cells ⟨(k.val A lc B tc).cells.toList⟩ 25 (0,0))] [(bf,true,.cells ⟨[.int .i64 1]⟩ 38 (0,0))] (.cons _ (.swap ..)) (fun H₁ hle1 hbf=> ?_)
   have hbf1:H₁ bf=some (true,.cells ⟨[.int .i64 1]⟩ 38 (0,0)):=hbf (bf,true,.cells ⟨[.int .i64 1]⟩ 38 (0,0)) (by simp)
   clear hbf
   have hFa:SrcAt H₁ 1 (.slice (some ⟨bf,0,none⟩) 1 1) 1 (flatR 1 (freeL fun _=> 1)):=SrcAt.of hbf1 (Nat.le_of_ble_eq_true rfl)
   have hrow:=hk.rows
   refine .block ?_
   refine Tc.db (Tc.loopInv (σ:= { x:Nat×List UInt8//x.1≤k.nl∧isNm x.2=true }) (fun x=> ([(1,strV s),(2,.pointer (some ⟨b2,0,none⟩)),(5,.pointer (some ⟨b5,0,none⟩)),(6,.int .i64 (x.1.1:Nat))],[(b5,true,.cells ⟨[strV x.1.2,strV s,.slice (some ⟨bf,0,none⟩) 1 1]⟩ 64 (0,0)),(b2,true,.cells ⟨(k.val A lc B tc).cells.toList⟩ 25 (0,0))])) (fun x=> k.nl-x.1.1) ?_ ⟨(0,[122]),Nat.zero_le _,by decide +kernel⟩)
   rintro⟨⟨i,nm⟩,hi,hnm⟩ ih
   simp only at hi hnm
   show Tc (Mp Tryz.prog) St _ _ _ _ [(1,strV s),(2,.pointer (some ⟨b2,0,none⟩)),(5,.pointer (some ⟨b5,0,none⟩)),(6,.int .i64 (i:Nat))] [(b5,true,.cells ⟨[strV nm,strV s,.slice (some ⟨bf,0,none⟩) 1 1]⟩ 64 (0,0)),(b2,true,.cells ⟨(k.val A lc B tc).cells.toList⟩ 25 (0,0))] _ _
   by_cases c4:i=k.nl
   · clear ih hrow
     obtain ⟨f2,a2,hsv,hak⟩:∃(f2:Bool) (a2:Int),k.safeV s=safeP f2 a2∧((k.add nm s 1 (fun _=> 1)).alarm=5∨((k.add nm s 1 (fun _=> 1)).alarm=a2∧((f2=false∧(a2=3∨a2=10))∨(a2=0∧f2=k.safe s)))):=by
       rw[add_says nm s hal c2 hnm]
       unfold Bk.safeV
       rw[if_neg (by simp[hal])]
       by_cases d1:isNum s=false
       · rw[if_pos d1]
         refine⟨false,3,rfl,?_⟩
         by_cases d0:(k.add nm s 1 (fun _=> 1)).again k.nl=true
         · exact .inl (if_pos d0)
         · rw[if_neg d0,if_pos d1]
           exact .inr ⟨rfl,.inl ⟨rfl,.inl rfl⟩⟩
       · rw[if_neg d1]
         by_cases d2:k.clash s=true
         · rw[if_pos d2]
           refine⟨false,10,rfl,?_⟩
           by_cases d0:(k.add nm s 1 (fun _=> 1)).again k.nl=true
           · exact .inl (if_pos d0)
           · rw[if_neg d0,if_neg d1,if_pos d2]
             exact .inr ⟨rfl,.inl ⟨rfl,.inr rfl⟩⟩
         · rw[if_neg d2]
           refine⟨k.safe s,0,rfl,?_⟩
           by_cases d0:(k.add nm s 1 (fun _=> 1)).again k.nl=true
           · exact .inl (if_pos d0)
           · rw[if_neg d0,if_neg d1,if_neg d2]
             exact .inr ⟨rfl,.inr ⟨rfl,rfl⟩⟩
     have hsafe:=fun(H':View) (h:H₁.le H')=> isV (hdet H' k A lc B tc (hk.le (View.le_trans hle1 h)) hsm (glob_le hG (View.le_trans hle1 h)) s (by omega)) (w':=safeP f2 a2) hsv
     unfold safeP at hsafe
     clear hsv
     have hadd:=Add_c (Mp Tryz.prog) H₁ k A lc B tc F fc (hB.le hle1) hsm (glob_le hG hle1) hal nm s (some ⟨bf,0,none⟩) 1 1 (fun _=> 1) (by omega) (by decide) hFa
     have hlaw:=safe_law (k:=k) nm s 1 (fun _=> 1)
     have hnum2:(k.add nm s 1 (fun _=> 1)).nl=k.nl+1:=rfl
     have hsm2:(k.add nm s 1 (fun _=> 1)).small:=⟨by show k.nl+1≤1000;omega,hsm.nt,fun i _=> by
       show(if i=k.nl then s else k.num i).length≤1000000∧(if i=k.nl then 1 else k.nf i)≤1000
       by_cases c:i=k.nl
       · rw[if_pos c,if_pos c];omega
       · rw[if_neg c,if_neg c];exact hsm.num i (by omega)⟩
     have hnm2:∀i,i<(k.add nm s 1 (fun _=> 1)).nl→((k.add nm s 1 (fun _=> 1)).name i).length≤1000000:=fun i _=> by
       show(if i=k.nl then nm else k.name i).length≤1000000
       by_cases c:i=k.nl
       · rw[if_pos c]
         unfold isNm at hnm
         simp only[Bool.and_eq_true,decide_eq_true_eq] at hnm
         omega
       · rw[if_neg c];have:=(Bk.ungreat hgr).2.2 i (by omega);omega
     generalize k.add nm s 1 (fun _=> 1)=k2 at hadd hak hlaw hnum2 hsm2 hnm2
     have c4':((i:Nat):Int)=(k.nl:Nat):=by rw[c4]
     refine .seq (.sr ?_)
     refine .m ?_
     refine .x .fa ?_
     refine .x (.ld 1) ?_
     refine .x .ln ?_
     refine .i ?_ (z:=lss_f (by omega))
     refine .done (.ff rfl (.exit rfl (.sr ?_)))
     refine .x (.ld 1) ?_
     refine .m ?_
     refine .c rfl rfl rfl rfl (fun H hs=> .f ca52 rfl (hsafe H hs.base)) ?_
     refine .m ?_
     refine .x .et ?_
     refine .x .et ?_
     refine .g ?_
     refine .g ?_
     refine .done (.sr ?_)
     refine .x (.ld 1) ?_
     refine .x (.ld 0) ?_
     refine To.callF rfl rfl rfl rfl rfl rfl (by decide) (FnT.f ca65 rfl hadd) (fun v H₂ hv=> ?_)
     obtain⟨hle2,hv⟩:=hv
     have hH2:=View.le_trans hle1 hle2
     rcases hv with ⟨hne,rfl⟩|⟨h20,A2,lc2,B2,tc2,F2,fc2,rfl,hO⟩
     · rcases hak with hak|⟨hak,⟨rfl,h5⟩|⟨rfl,_⟩⟩
       · rw[hak]
         refine .m ?_
         refine .x .et ?_
         refine .x .et ?_
         refine .e (.al (zz:=fun b9=> ?_))
         refine .e (.st 0 (zz:=?_))
         refine .g ?_
         refine .done (.seq (.sr ?_))
         refine .m ?_
         refine .i ?_ (z:=eql_t (by omega))
         refine .done (.tt rfl (.sr ?_))
         refine .c rfl rfl rfl rfl (fun H hs=> .f ca18 rfl (hlives H (View.le_trans hH2 hs.base))) ?_
         refine .g ?_
         refine .done ?_
         exact hR _ _ _ _ rfl hH2
       · rw[hak]
         have n5:a2≠5:=by omega
         rcases h5 with rfl|rfl
         · refine .m ?_
           refine .x .et ?_
           refine .x .et ?_
           refine .e (.al (zz:=fun b9=> ?_))
           refine .e (.st 0 (zz:=?_))
           refine .g ?_
           refine .done (.seq (.sr ?_))
           refine .m ?_
           refine .i ?_ (z:=eql_f (by omega))
           refine .done (.ff rfl (.skip (.seq (.sr ?_))))
           refine .m ?_
           refine .m ?_
           refine .i ?_ (z:=neq_f (by omega))
           refine .done (.ff rfl (.skip (.seq (.sr ?_))))
           refine .m ?_
           refine .i ?_ (z:=neq_t (by omega))
           refine .done (.tt rfl (.sr ?_))
           refine .m ?_
           refine .i ?_ (z:=eql_t (by omega))
           refine .m ?_
           refine .sk ?_
           refine .sk ?_
           refine .x .pk ?_
           refine .m ?_
           refine .m ?_
           refine .x .nt ?_
           refine .x .pk ?_
           refine .m ?_
           refine .x .fa ?_
           refine .x (.ld 0) ?_
           refine .x .ln ?_
           refine .i ?_ (z:=by exact rfl)
           refine .x .pk ?_
           refine .m ?_
           refine .c rfl rfl rfl rfl (fun H hs=> .f ca18 rfl (hlives H (View.le_trans hH2 hs.base))) ?_
           refine .x .pk ?_
           refine .g ?_
           refine .done ?_
           exact hR _ _ _ _ rfl hH2
         · refine .m ?_
           refine .x .et ?_
           refine .x .et ?_
           refine .e (.al (zz:=fun b9=> ?_))
           refine .e (.st 0 (zz:=?_))
           refine .g ?_
           refine .done (.seq (.sr ?_))
           refine .m ?_
           refine .i ?_ (z:=eql_f (by omega))
           refine .done (.ff rfl (.skip (.seq (.sr ?_))))
           refine .m ?_
           refine .m ?_
           refine .i ?_ (z:=neq_f (by omega))
           refine .done (.ff rfl (.skip (.seq (.sr ?_))))
           refine .m ?_
           refine .i ?_ (z:=neq_t (by omega))
           refine .done (.tt rfl (.sr ?_))
           refine .m ?_
           refine .i ?_ (z:=eql_f (by omega))
           refine .m ?_
           refine .m ?_
           refine .i ?_ (z:=eql_t (by omega))
           refine .x .pk ?_
           refine .m ?_
           refine .m ?_
           refine .x .nt ?_
           refine .x .pk ?_
           refine .m ?_
           refine .x .fa ?_
           refine .x (.ld 0) ?_
           refine .x .ln ?_
           refine .i ?_ (z:=by exact rfl)
           refine .x .pk ?_
           refine .m ?_
           refine .c rfl rfl rfl rfl (fun H hs=> .f ca18 rfl (hlives H (View.le_trans hH2 hs.base))) ?_
           refine .x .pk ?_
           refine .g ?_
           refine .done ?_
           exact hR _ _ _ _ rfl hH2
       · exact(hne hak).elim
     · obtain⟨rfl,rfl⟩:a2=0∧f2=k.safe s:=by
         rcases hak with hak|⟨hak,⟨_,h5⟩|h5⟩
         · rw[h20] at hak;cases hak
         · rw[h20] at hak;omega
         · exact h5
       clear hak
       rw[←hlaw h20] at *
       have hO2:=hO.bk
       have hgl2:=glob_le hG hH2
       have hchk:=fun(H':View) (h:H₂.le H')=> isV (refCheckBook_c (Mp Tryz.prog) H' k2 A2 lc2 B2 tc2 (hO2.le h) hsm2 hnm2) (w':=.int .i64 0) (by rw[h20])
       have hsl2:=fun(H':View) (h:H₂.le H') (j:Nat) (hj:j<k2.nl)=> Slips_l (Mp Tryz.prog) H' k2 A2 lc2 B2 tc2 (hO2.le h) hsm2 (glob_le hgl2 h) h20 j hj
       have hasn:∀j,j<k2.nl→(ascI (k2.hits j)).length≤1000:=fun j hj=> by
         have h1:=nodup_le (l:=ascI (k2.hits j)) (m:=k2.hits j) ((ascI_asc _).imp fun h=> by omega) (fun x hx=> (mem_ascI _).1 hx)
         have h2:=Bk.hits_len h20 hj
         omega
       clear hlaw hadd hsafe
       refine .m ?_
       refine .x .et ?_
       refine .x .et ?_
       refine .e (.al (zz:=fun b9=> ?_))
       refine .e (.st 0 (zz:=?_))
       refine .g ?_
       refine .done (.seq (.sr ?_))
       refine .m ?_
       refine .i ?_ (z:=eql_f (by omega))
       refine .done (.ff rfl (.skip (.seq (.sr ?_))))
       refine .m ?_
       refine .m ?_
       refine .i ?_ (z:=neq_f (by omega))
       refine .done (.ff rfl (.skip (.seq (.sr ?_))))
       refine .m ?_
       refine .i ?_ (z:=neq_f (by omega))
       refine .done (.ff rfl (.skip (.sr ?_)))
       refine .x .fa ?_
       refine .x (.ld 2) ?_
       refine .x .ln ?_
       refine .g ?_
       refine .done (.seq (.sr ?_))
       refine .x (.ld 0) ?_
       refine .c rfl rfl rfl rfl (fun H hs=> .f ca22 rfl (hchk H hs.base)) ?_
       refine .i ?_ (z:=neq_f (by omega))
       refine .m ?_
       refine .x .fa ?_
       refine .x (.ld 0) ?_
       refine .x .ln ?_
       refine .m ?_
       refine .i ?_ (z:=add_in (by omega) (by omega))
       refine .i ?_ (z:=neq_f (by omega))
       refine .x .pk ?_
       refine .done (.ff rfl (.skip (.sr ?_)))
       refine .x (.ld 0) ?_
       refine .m ?_
       refine To.callF rfl rfl rfl rfl rfl rfl (by decide) (FnT.f ca58 rfl (hsl2 H₂ (View.le_refl _) k.nl (by omega))) (fun v H₃ hv=> ?_)
       obtain⟨hle3,G3,n3,c3',hn3,rfl,hF3⟩:=hv
       have e3:intBin .eql .i64 (n3:Nat) 0=some (.bool (k2.svTo k.nl 0)):=by
         unfold Bk.svTo
         rw[←hn3]
         by_cases d:n3=0
         · rw[decide_eq_true d];exact eql_t (by omega)
         · rw[decide_eq_false d];exact eql_f (by omega)
       refine .m ?_
       refine .x .et ?_
       refine .x .et ?_
       refine .g ?_
       refine .g ?_
       refine .done (.sr ?_)
       refine .m ?_
       refine .x .ln ?_
       refine .i ?_ (z:=by assumption)
       refine .g ?_
       refine .done (.seq (.sr ?_))
       refine .m ?_
       refine .i ?_ (z:=neq_f (by omega))
       refine .done (.ff rfl (.skip (.seq (.sr ?_))))
       refine .g ?_
       refine .done (.block ?_)
       refine Tc.db (Tc.loopInv (σ:= { j:Nat//j≤k.nl }) (fun j=> ([(7,.bool (k2.svTo k.nl k.nl)),(9,.pointer (some ⟨b9,0,none⟩)),(11,.int .i64 (k.nl:Nat)),(13,.bool (k2.svTo k.nl j.1)),(14,.int .i64 (j.1:Nat))],[(b9,true,.cells ⟨(k2.val A2 lc2 B2 tc2).cells.toList⟩ 25 (0,0))])) (fun j=> k.nl-j.1) ?_ ⟨0,Nat.zero_le _⟩)
       rintro⟨j,hj⟩ ih
       show Tc (Mp Tryz.prog) St _ _ _ _ [(7,.bool (k2.svTo k.nl k.nl)),(9,.pointer (some ⟨b9,0,none⟩)),(11,.int .i64 (k.nl:Nat)),(13,.bool (k2.svTo k.nl j)),(14,.int .i64 (j:Nat))] [(b9,true,.cells ⟨(k2.val A2 lc2 B2 tc2).cells.toList⟩ 25 (0,0))] _ _
       by_cases d1:j=k.nl
       · clear ih
         rw[d1]
         cases k2.svTo k.nl k.nl with
         | true=>
           refine .seq (.sr ?_)
           refine .m ?_
           refine .m ?_
           refine .i ?_ (z:=lss_f (by omega))
           refine .done (.ff rfl (.exit rfl (.sr ?_)))
           refine .m ?_
           refine .m ?_
           refine .x .eb ?_
           refine .m ?_
           refine .c rfl rfl rfl rfl (fun H hs=> .f ca18 rfl (hlives H (View.le_trans hH2 (View.le_trans hle3 hs.base)))) ?_
           refine .x .pk ?_
           refine .g ?_
           refine .done ?_
           exact hR _ _ _ _ rfl (View.le_trans hH2 hle3)
         | false=>
           refine .seq (.sr ?_)
           refine .m ?_
           refine .m ?_
           refine .i ?_ (z:=lss_f (by omega))
           refine .done (.ff rfl (.exit rfl (.sr ?_)))
           refine .m ?_
           refine .m ?_
           refine .x .eb ?_
           refine .m ?_
           refine .c rfl rfl rfl rfl (fun H hs=> .f ca18 rfl (hlives H (View.le_trans hH2 (View.le_trans hle3 hs.base)))) ?_
           refine .x .pk ?_
           refine .g ?_
           refine .done ?_
           exact hR _ _ _ _ rfl (View.le_trans hH2 hle3)
       · have d2:j<k.nl:=by omega
         have hsv:k2.svTo k.nl (j+1)=(k2.svTo k.nl j && !decide (((k.nl:Nat):Int)∈ascI (k2.hits j))):=rfl
         refine .seq (.sr ?_)
         refine .m ?_
         refine .m ?_
         refine .i ?_ (z:=lss_t (by omega))
         refine .done (.tt rfl (.skip (.seq (.block (.sr ?_)))))
         refine .x (.ld 0) ?_
         refine .m ?_
         refine To.callF rfl rfl rfl rfl rfl rfl (by decide) (FnT.f ca58 rfl (hsl2 H₃ hle3 j (by omega))) (fun v H₄ hv=> ?_)
         obtain⟨hle4,G4,n4,c4',hn4,rfl,hF4⟩:=hv
         have hhas:=fun(H':View) (h:H₄.le H')=> HasNum_c (Mp Tryz.prog) H' G4 n4 c4' (exAt (ascI (k2.hits j))) (hF4.le h) (by have:=hasn j (by omega);omega) (k.nl:Nat) _ (hasTo_mem _ hn4 (k.nl:Nat) (decide (((k.nl:Nat):Int)∈ascI (k2.hits j))) (by simp))
         generalize decide (((k.nl:Nat):Int)∈ascI (k2.hits j))=hb at hsv hhas
         cases hb0:k2.svTo k.nl j with
         | false=>
           rw[hb0] at hsv
           refine .m ?_
           refine .x .et ?_
           refine .x .et ?_
           refine .g ?_
           refine .g ?_
           refine .done (.seq (.sr ?_))
           refine .m ?_
           refine .i ?_ (z:=neq_f (by omega))
           refine .done (.ff rfl (.skip (.r ?_)))
           refine .m ?_
           refine .m ?_
           refine .sk ?_
           refine .sk ?_
           refine .sk ?_
           refine .sk ?_
           refine .x .pk ?_
           refine .g ?_
           refine .done (.inBlock (.r ?_))
           refine .m ?_
           refine .i ?_ (z:=add_in (by omega) (by omega))
           refine .g ?_
           refine .done ?_
           refine Tc.lower hle4 ?_
           refine Tc.dropB (ih ⟨j+1,by omega⟩ (by simp only;omega)) ?_ (by exact List.Sublist.refl _)
           simp only[hsv]
           exact⟨rfl,rfl,rfl,rfl,rfl,trivial⟩
         | true=>
           rw[hb0] at hsv
           refine .m ?_
           refine .x .et ?_
           refine .x .et ?_
           refine .g ?_
           refine .g ?_
           refine .done (.seq (.sr ?_))
           refine .m ?_
           refine .i ?_ (z:=neq_f (by omega))
           refine .done (.ff rfl (.skip (.r ?_)))
           refine .m ?_
           refine .m ?_
           refine .m ?_
           refine .m ?_
           refine .c rfl rfl rfl rfl (fun H hs=> .f ca59 rfl (hhas H hs.base)) ?_
           refine .x .nt ?_
           refine .x .pk ?_
           refine .g ?_
           refine .done (.inBlock (.r ?_))
           refine .m ?_
           refine .i ?_ (z:=add_in (by omega) (by omega))
           refine .g ?_
           refine .done ?_
           refine Tc.lower hle4 ?_
           refine Tc.dropB (ih ⟨j+1,by omega⟩ (by simp only;omega)) ?_ (by exact List.Sublist.refl _)
           simp only[hsv]
           exact⟨rfl,rfl,rfl,rfl,rfl,trivial⟩
   · have c5:i<k.nl:=by omega
     obtain⟨_,hz|⟨ab,ao,fa,gs,gt,gz,rfl,hab,hrow⟩⟩:=hrow
     · omega
     obtain⟨F0,fc0,f1,_,_⟩:=hrow i c5
     have f2:ldL false 1 gs (ao+((i:Nat):Int).toNat*3)=some (strV (k.name i)):=ldL_cell (d:=0) f1 (by decide)
     have hab1:=hle1 _ _ hab
     cases hq:(k.name i==nm) with
     | false=>
       have e1:RL.strB .eql (k.name i) nm=some (.bool false):=by show some (Value.bool (k.name i==nm))=_;rw[hq]
       refine .seq (.sr ?_)
       refine .m ?_
       refine .x .fa ?_
       refine .x (.ld 1) ?_
       refine .x .ln ?_
       refine .i ?_ (z:=lss_t (by omega))
       refine .done (.tt rfl (.skip (.seq (.block (.seq ?_)))))
       refine Tc.dr [] [] mixed rfl ?_
       refine .q 0 rfl .fa ?_
       refine .q 1 rfl (.ld 1) ?_
       refine .q 2 rfl .mv ?_
       refine .q 3 rfl .ia ?_
       refine .q 4 rfl .fa ?_
       refine .q 5 rfl .l0 ?_
       refine .q 6 rfl .fa ?_
       refine .q 7 rfl (.ld 0) ?_
       refine .q 8 rfl (OpV.strB rfl rfl rfl (by assumption)) ?_
       refine Ta.done (by kernel_rfl) ?_
       refine .ff rfl (.skip (.inBlock (.r ?_)))
       refine .m ?_
       refine .i ?_ (z:=add_in (by omega) (by omega))
       refine .g ?_
       refine .done ?_
       exact Tc.db (ih ⟨(i+1,nm),by simp only;omega,hnm⟩ (by simp only;omega))
     | true=>
       have e1:RL.strB .eql (k.name i) nm=some (.bool true):=by show some (Value.bool (k.name i==nm))=_;rw[hq]
       have hu:(UInt8.ofNat (48+i)).toNat=48+i:=by rw[UInt8.toNat_ofNat'];omega
       have hw:IntKind.u8.wrap (48+((i:Nat):Int))=(((UInt8.ofNat (48+i)).toNat:Nat):Int):=by
         rw[hu]
         rcases(by omega:i=0∨i=1∨i=2∨i=3∨i=4∨i=5) with h|h|h|h|h|h <;> rw[h] <;> rfl
       have e2:intBin .add .i64 48 ((i:Nat):Int)=some (.int .i64 (48+((i:Nat):Int))):=add_in (by omega) (by omega)
       have e3:RL.strB .add [122,122] [UInt8.ofNat (48+i)]=some (strV (zzB i)):=strB_add (by simp only[List.length_cons,List.length_nil];omega)
       refine .seq (.sr ?_)
       refine .m ?_
       refine .x .fa ?_
       refine .x (.ld 1) ?_
       refine .x .ln ?_
       refine .i ?_ (z:=lss_t (by omega))
       refine .done (.tt rfl (.skip (.seq (.block (.seq ?_)))))
       refine Tc.dr [] [] mixed rfl ?_
       refine .q 0 rfl .fa ?_
       refine .q 1 rfl (.ld 1) ?_
       refine .q 2 rfl .mv ?_
       refine .q 3 rfl .ia ?_
       refine .q 4 rfl .fa ?_
       refine .q 5 rfl .l0 ?_
       refine .q 6 rfl .fa ?_
       refine .q 7 rfl (.ld 0) ?_
       refine .q 8 rfl (OpV.strB rfl rfl rfl (by assumption)) ?_
       refine Ta.done (by kernel_rfl) ?_
       refine .tt rfl (.r ?_)
       refine .m ?_
       refine .i ?_ (z:=by assumption)
       refine .x .cv ?_
       refine .e (.bs (zz:=fun bs=> ?_))
       refine .x (OpV.convB (E:=en) (m:=1) (s:= [UInt8.ofNat (48+i)]) rfl rfl (fun H hs=> SrcAt.of (hs.get (i:=0) rfl) (Nat.le_of_ble_eq_true rfl)) rfl rfl rfl rfl rfl rfl) ?_
       refine .x (OpV.strB rfl rfl rfl (by assumption)) ?_
       refine .x .fa ?_
       refine .e (.st 1 (zz:=?_))
       refine .done (.inBlock (.r ?_))
       refine .m ?_
       refine .i ?_ (z:=add_in (by omega) (by omega))
       refine .g ?_
       refine .done ?_
       exact Tc.db (ih ⟨(i+1,zzB i),by simp only;omega,zz_ok i (by omega)⟩ (by simp only;omega))
end
end Go.Proofs.YtdnfdeplcjaonaaGreatDoor
end
