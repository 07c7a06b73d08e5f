/-
  Texts of the proofs over baudot/dial: X4 App3 ZF Z6 ZG ZH.
-/
import Derived.Test.YtdnfdeplcjaonaaGreatDoorE08
section
namespace Go.Proofs.YtdnfdeplcjaonaaGreatDoor
open Go.RL
set_option maxRecDepth 10000
set_option maxHeartbeats 32000000
theorem strs_lit {H:View}{b:Nat}{f:Bool}{gt:TypeId}{gz:Nat×Nat}(m:List (List UInt8))(h:H b=some (f,.cells ⟨strsV m⟩ gt gz)):StrsAt H (some ⟨b,0,none⟩) m.length (fun j=> m[j]?.getD []):=
 .inr ⟨b,0,f,_,gt,gz,rfl,h,fun j hj=> by
   show(strsV m)[_]? =_
   rw[Nat.zero_add,Int.toNat_natCast,Nat.mul_one]
   unfold strsV
   rw[List.getElem?_map]
   simp only[List.getElem?_eq_getElem hj]
   rfl⟩
theorem words_true(l:List (List UInt8)){n:Nat}(hn:n=l.length):(decide (n=l.length)&&allB (fun i=> decide ((fun j=> l[j]?.getD []) i=(fun j=> l[j]?.getD []) i)) n)=true:=by
 rw[decide_eq_true hn,(allB_iff n).2 (fun i _=> decide_eq_true rfl)]
 rfl
theorem ints_lit {H:View}{b:Nat}{f:Bool}{gt:TypeId}{gz:Nat×Nat}(m:List Int)(h:H b=some (f,.cells ⟨intsL m⟩ gt gz)):FreeAt H (some ⟨b,0,none⟩) m.length (exAt m):=
 .inr ⟨b,0,f,_,gt,gz,rfl,h,fun j hj=> by
   show(intsL m)[_]? =_
   rw[Nat.zero_add,Int.toNat_natCast,Nat.mul_one]
   unfold intsL exAt
   rw[List.getElem?_map]
   simp only[List.getElem?_eq_getElem hj]
   rfl⟩
theorem cl_at {e:TypeId}(g:Gl e 1){H:View}(h:∀x∈g.bl,H x.1=some x.2){f:Nat→Int}{n:Nat}(hl:g.l=clL f n)(hn:g.n=n):FreeAt H (g.blk.map fun b=> ⟨b,0,none⟩) n f:=by
 cases hb:g.blk with
 | none=>
   have:=g.h0 hb
   have:=g.hc
   exact .inl (by omega)
 | some b=>
   have hbl:g.bl= [(b,true,.cells ⟨g.l++g.junk⟩ e (0,0))]:=by unfold Gl.bl;rw[hb]
   refine .inr ⟨b,0,true,_,e,(0,0),rfl,h (b,true,.cells ⟨g.l++g.junk⟩ e (0,0)) (by rw[hbl];simp),fun j hj=> ?_⟩
   show(g.l++g.junk)[_]? =_
   rw[Nat.zero_add,Int.toNat_natCast,Nat.mul_one,List.getElem?_append_left (by rw[hl,clL_len];exact hj),hl]
   unfold clL
   rw[List.getElem?_map,List.getElem?_range hj]
   rfl
theorem clL_ints(m:List Int):intsL m=clL (exAt m) m.length:=by
 apply List.ext_getElem?
 intro i
 unfold intsL clL exAt
 rw[List.getElem?_map,List.getElem?_map]
 by_cases h:i<m.length
 · rw[List.getElem?_range h,List.getElem?_eq_getElem h]
   simp[h]
 · rw[List.getElem?_eq_none (by omega),List.getElem?_eq_none (by simp;omega)]
   rfl
theorem three {p:Nat→Prop}(h0:p 0)(h1:p 1)(h2:p 2):∀i,i<3→p i:=fun i hi=> by
 rcases(by omega:i=0∨i=1∨i=2) with rfl|rfl|rfl
 · exact h0
 · exact h1
 · exact h2
theorem two {p:Nat→Prop}(h0:p 0)(h1:p 1):∀i,i<2→p i:=fun i hi=> by
 rcases(by omega:i=0∨i=1) with rfl|rfl
 · exact h0
 · exact h1
theorem strs_src {H:View}{a:Option Addr}{n c:Nat}{l:List (List UInt8)}(h:SrcAt H 1 (.slice a n c) n (strsV l))(hn:n=l.length):StrsAt H a n (fun j=> l[j]?.getD []):=by
 obtain⟨_,_,⟨_,_,h1,h2⟩|⟨b,off,c',f,cs,e,fz,h1,h2,h3,h4⟩⟩:=h
 · have:l= []:=by simpa [strsV] using h2
   exact .inl (by rw[hn,this];rfl)
 · simp only[Value.slice.injEq] at h1
   refine .inr ⟨b,off,f,cs,e,fz,h1.1,h2,fun j hj=> ?_⟩
   show cs[_]? =_
   have hjl:j<l.length:=by omega
   have h5:=congrArg (fun x=> x[j]?) h4
   simp only[List.getElem?_take,List.getElem?_drop] at h5
   rw[if_pos (by rw[strsV_len];exact hjl)] at h5
   rw[Int.toNat_natCast,Nat.mul_one,h5]
   unfold strsV
   rw[List.getElem?_map]
   simp only[List.getElem?_eq_getElem hjl]
   rfl
theorem To.permL2 {P:Program}{M:Md P}{St:View→Goroutine→Prop}{n:Nat}{b:FB}{H₀:View}{cs:List Frame}{R:Rg}{L L₁:Bl}{ds:List Deferred}{k:List Item}{dl:List (Option Tmp)}{l:List Oper}(p:L₁.Perm L)(h:To M St n b H₀ cs dl R L₁ ds l k):To M St n b H₀ cs dl R L ds l k:=To.perm p h
theorem lives_c(H:View)(hG:Glob H):CallT (Mp Tryz.prog) 18 #[] H (fun v H'=> H.le H'∧v=.bool true):=by
 have sD:bkD.small:=ex_small rfl (by decide) rfl rfl
 have sE:bkE.small:=ex_small rfl (by decide) rfl rfl
 have sO:bkO.small:=ex_small rfl (by decide) rfl rfl
 refine CallT.enter (vs:= []) Tryz.func18 rfl Tryz.ntmps18 (Nat.le_of_ble_eq_true rfl) (SymSt.nil _) fun St c cs hK=> ?_
 refine .sr ?_
 refine .g ?_
 refine .done (.sr ?_)
 refine To.callF rfl rfl rfl rfl rfl rfl (by decide) (FnT.f ca77 rfl (Example_c _ H)) (fun v H1 hv=> ?_)
 obtain⟨tl1,dA,dlc,dB,dtc,dF,dfc,rfl,hD1⟩:=hv
 refine To.callF rfl rfl rfl rfl rfl rfl (by decide) (FnT.f ca78 rfl (joined_c _ H1)) (fun v H2 hv=> ?_)
 obtain⟨le2,eA,elc,eB,etc,eF,efc,rfl,hE2⟩:=hv
 have tl2:=View.le_trans tl1 le2
 have hD2:=hD1.le le2
 have hG2:=glob_le hG tl2
 refine .e (.al (zz:=fun b1=> ?_))
 refine .e (.al (zz:=fun b2=> ?_))
 refine .e (.st 1 (zz:=?_))
 refine .e (.st 0 (zz:=?_))
 refine .done (.seq ?_)
 refine Tc.db (R':= [(1,.pointer (some ⟨b1,0,none⟩)),(2,.pointer (some ⟨b2,0,none⟩))]) (L':= [(b2,true,.cells ⟨(bkE.val eA elc eB etc).cells.toList⟩ 25 (0,0)),(b1,true,.cells ⟨(bkD.val dA dlc dB dtc).cells.toList⟩ 25 (0,0))]) ?_
 refine .r ?_
 refine .x (.ld 1) ?_
 refine To.callF rfl rfl rfl rfl rfl rfl (by decide) (FnT.f ca23 rfl (Heard_c _ H2 bkD dA dlc dB dtc hD2.bk sD hG2 bkD_al ex_lenD)) (fun v H3 hv=> ?_)
 obtain⟨le3,g3,rfl,⟨ng3,lg3⟩,mg3⟩:=hv
 rw[ex_heardD] at ng3 lg3
 refine .m ?_
 refine .x .et ?_
 refine .x .et ?_
 refine .g ?_
 refine .g ?_
 refine .done ?_
 have tl3:=View.le_trans tl2 le3
 have hD3:=hD2.le le3
 have hE3:=hE2.le le3
 have hG3:=glob_le hG tl3
 refine .seq ?_
 refine Tc.db (R':= [(1,.pointer (some ⟨b1,0,none⟩)),(2,.pointer (some ⟨b2,0,none⟩)),(3,g3.val),(4,.int .i64 0)]) (L':= [(b2,true,.cells ⟨(bkE.val eA elc eB etc).cells.toList⟩ 25 (0,0)),(b1,true,.cells ⟨(bkD.val dA dlc dB dtc).cells.toList⟩ 25 (0,0))]) ?_
 refine .r ?_
 refine .x (.ld 1) ?_
 refine To.callF rfl rfl rfl rfl rfl rfl (by decide) (FnT.f ca26 rfl (Reaches_c _ H3 bkD dA dlc dB dtc hD3.bk sD hG3 bkD_al)) (fun v H4 hv=> ?_)
 obtain⟨le4,g5,rfl,⟨ng5,lg5⟩,mg5⟩:=hv
 rw[ex_clD.2]
 refine .m ?_
 refine .x .et ?_
 refine .x .et ?_
 refine .x .et ?_
 refine .g ?_
 refine .g ?_
 refine .g ?_
 refine .done ?_
 have tl4:=View.le_trans tl3 le4
 have hD4:=hD3.le le4
 have hE4:=hE3.le le4
 have hG4:=glob_le hG tl4
 refine .seq ?_
 refine Tc.db (R':= [(1,.pointer (some ⟨b1,0,none⟩)),(2,.pointer (some ⟨b2,0,none⟩)),(3,g3.val),(4,.int .i64 0),(5,g5.val),(6,.int .i64 2),(7,.int .i64 0)]) (L':= [(b2,true,.cells ⟨(bkE.val eA elc eB etc).cells.toList⟩ 25 (0,0)),(b1,true,.cells ⟨(bkD.val dA dlc dB dtc).cells.toList⟩ 25 (0,0))]) ?_
 refine .r ?_
 refine .x (.ld 0) ?_
 refine To.callF rfl rfl rfl rfl rfl rfl (by decide) (FnT.f ca23 rfl (Heard_c _ H4 bkE eA elc eB etc hE4.bk sE hG4 bkE_al ex_lenE)) (fun v H5 hv=> ?_)
 obtain⟨le5,g8,rfl,⟨ng8,lg8⟩,mg8⟩:=hv
 rw[ex_heardE] at ng8 lg8
 refine .m ?_
 refine .x .et ?_
 refine .x .et ?_
 refine .g ?_
 refine .g ?_
 refine .done ?_
 have tl5:=View.le_trans tl4 le5
 have hD5:=hD4.le le5
 have hE5:=hE4.le le5
 have hG5:=glob_le hG tl5
 refine .seq ?_
 refine Tc.db (R':= [(1,.pointer (some ⟨b1,0,none⟩)),(2,.pointer (some ⟨b2,0,none⟩)),(3,g3.val),(4,.int .i64 0),(5,g5.val),(6,.int .i64 2),(7,.int .i64 0),(8,g8.val),(9,.int .i64 0)]) (L':= [(b2,true,.cells ⟨(bkE.val eA elc eB etc).cells.toList⟩ 25 (0,0)),(b1,true,.cells ⟨(bkD.val dA dlc dB dtc).cells.toList⟩ 25 (0,0))]) ?_
 refine .r ?_
 refine .x (.ld 0) ?_
 refine To.callF rfl rfl rfl rfl rfl rfl (by decide) (FnT.f ca26 rfl (Reaches_c _ H5 bkE eA elc eB etc hE5.bk sE hG5 bkE_al)) (fun v H6 hv=> ?_)
 obtain⟨le6,g10,rfl,⟨ng10,lg10⟩,mg10⟩:=hv
 rw[ex_clE.2]
 refine .m ?_
 refine .x .et ?_
 refine .x .et ?_
 refine .x .et ?_
 refine .g ?_
 refine .g ?_
 refine .g ?_
 refine .done ?_
 have tl6:=View.le_trans tl5 le6
 have hD6:=hD5.le le6
 have hE6:=hE5.le le6
 have hG6:=glob_le hG tl6
 refine .seq ?_
 refine Tc.db (R':= [(1,.pointer (some ⟨b1,0,none⟩)),(2,.pointer (some ⟨b2,0,none⟩)),(3,g3.val),(4,.int .i64 0),(5,g5.val),(6,.int .i64 2),(7,.int .i64 0),(8,g8.val),(9,.int .i64 0),(10,g10.val),(11,.int .i64 0),(12,.int .i64 0)]) (L':= [(b2,true,.cells ⟨(bkE.val eA elc eB etc).cells.toList⟩ 25 (0,0)),(b1,true,.cells ⟨(bkD.val dA dlc dB dtc).cells.toList⟩ 25 (0,0))]) ?_
 have fl6:=fun(H':View) (p1 p2:Nat) (h':H6.le H') (k1:H' p1=some (true,.cells ⟨intsL [1,1,2]⟩ 3 (0,0))) (k2:H' p2=some (true,.cells ⟨intsL [3,9,9]⟩ 3 (0,0)))=> isV (Follow_c (Mp Tryz.prog) H' bkE eA elc eB etc (hE6.bk.le h') sE (glob_le hG6 h') (some ⟨p1,0,none⟩) (some ⟨p2,0,none⟩) 3 3 3 3 (exAt [1,1,2]) (exAt [3,9,9]) (ints_lit [1,1,2] k1) (ints_lit [3,9,9] k2)) ex_follow1
 refine .r ?_
 refine .x (.ld 0) ?_
 refine .e (.bs (zz:=fun p1=> ?_))
 refine .e (.bs (zz:=fun p2=> ?_))
 refine .c rfl rfl rfl rfl (fun H hs=> .f ca19 rfl (fl6 H p1 p2 hs.base (hs.get (i:=1) rfl) (hs.get (i:=0) rfl))) ?_
 refine .m ?_
 refine .x .et ?_
 refine .x .et ?_
 refine .x .et ?_
 refine .g ?_
 refine .g ?_
 refine .g ?_
 refine .done (.seq ?_)
 refine Tc.db (R':= [(1,.pointer (some ⟨b1,0,none⟩)),(2,.pointer (some ⟨b2,0,none⟩)),(3,g3.val),(4,.int .i64 0),(5,g5.val),(6,.int .i64 2),(7,.int .i64 0),(8,g8.val),(9,.int .i64 0),(10,g10.val),(11,.int .i64 0),(12,.int .i64 0),(13,strV [50,50]),(14,.int .i64 2),(15,.int .i64 0)]) (L':= [(b2,true,.cells ⟨(bkE.val eA elc eB etc).cells.toList⟩ 25 (0,0)),(b1,true,.cells ⟨(bkD.val dA dlc dB dtc).cells.toList⟩ 25 (0,0))]) ?_
 have fl7:=fun(H':View) (p1 p2:Nat) (h':H6.le H') (k1:H' p1=some (true,.cells ⟨intsL [1,1,2]⟩ 3 (0,0))) (k2:H' p2=some (true,.cells ⟨intsL [5,9,9]⟩ 3 (0,0)))=> isV (Follow_c (Mp Tryz.prog) H' bkE eA elc eB etc (hE6.bk.le h') sE (glob_le hG6 h') (some ⟨p1,0,none⟩) (some ⟨p2,0,none⟩) 3 3 3 3 (exAt [1,1,2]) (exAt [5,9,9]) (ints_lit [1,1,2] k1) (ints_lit [5,9,9] k2)) ex_follow2
 refine .r ?_
 refine .x (.ld 0) ?_
 refine .e (.bs (zz:=fun p1=> ?_))
 refine .e (.bs (zz:=fun p2=> ?_))
 refine .c rfl rfl rfl rfl (fun H hs=> .f ca19 rfl (fl7 H p1 p2 hs.base (hs.get (i:=1) rfl) (hs.get (i:=0) rfl))) ?_
 refine .m ?_
 refine .x .et ?_
 refine .x .et ?_
 refine .x .et ?_
 refine .g ?_
 refine .g ?_
 refine .g ?_
 refine .done (.seq ?_)
 refine Tc.db (R':= [(1,.pointer (some ⟨b1,0,none⟩)),(2,.pointer (some ⟨b2,0,none⟩)),(3,g3.val),(4,.int .i64 0),(5,g5.val),(6,.int .i64 2),(7,.int .i64 0),(8,g8.val),(9,.int .i64 0),(10,g10.val),(11,.int .i64 0),(12,.int .i64 0),(13,strV [50,50]),(14,.int .i64 2),(15,.int .i64 0),(16,strV [49,49,50]),(17,.int .i64 (-1)),(18,.int .i64 0)]) (L':= [(b2,true,.cells ⟨(bkE.val eA elc eB etc).cells.toList⟩ 25 (0,0)),(b1,true,.cells ⟨(bkD.val dA dlc dB dtc).cells.toList⟩ 25 (0,0))]) ?_
 refine .r ?_
 refine .x (.ld 1) ?_
 refine .c rfl rfl rfl rfl (fun H hs=> .f ca33 rfl (isV (Look_c H bkD dA dlc dB dtc dF dfc (hD6.le hs.base) sD (glob_le hG6 hs.base) bkD_al) (congrArg lookV ex_look))) ?_
 refine .m ?_
 refine .x .et ?_
 refine .x .et ?_
 refine .x .et ?_
 refine .g ?_
 refine .g ?_
 refine .g ?_
 refine .done (.seq ?_)
 refine Tc.db (R':= [(1,.pointer (some ⟨b1,0,none⟩)),(2,.pointer (some ⟨b2,0,none⟩)),(3,g3.val),(4,.int .i64 0),(5,g5.val),(6,.int .i64 2),(7,.int .i64 0),(8,g8.val),(9,.int .i64 0),(10,g10.val),(11,.int .i64 0),(12,.int .i64 0),(13,strV [50,50]),(14,.int .i64 2),(15,.int .i64 0),(16,strV [49,49,50]),(17,.int .i64 (-1)),(18,.int .i64 0),(19,.int .i64 1),(20,.int .i64 1),(21,.int .i64 0)]) (L':= [(b2,true,.cells ⟨(bkE.val eA elc eB etc).cells.toList⟩ 25 (0,0)),(b1,true,.cells ⟨(bkD.val dA dlc dB dtc).cells.toList⟩ 25 (0,0))]) ?_
 refine .r ?_
 refine .x (.ld 1) ?_
 refine .c rfl rfl rfl rfl (fun H hs=> .f ca31 rfl (isV (Settled_c _ H bkD dA dlc dB dtc (hD6.bk.le hs.base) sD (glob_le hG6 hs.base) bkD_al) (congrArg settledV ex_setD))) ?_
 refine .m ?_
 refine .x .et ?_
 refine .x .et ?_
 refine .x .et ?_
 refine .x .et ?_
 refine .g ?_
 refine .g ?_
 refine .g ?_
 refine .g ?_
 refine .done (.seq ?_)
 refine Tc.db (R':= [(1,.pointer (some ⟨b1,0,none⟩)),(2,.pointer (some ⟨b2,0,none⟩)),(3,g3.val),(4,.int .i64 0),(5,g5.val),(6,.int .i64 2),(7,.int .i64 0),(8,g8.val),(9,.int .i64 0),(10,g10.val),(11,.int .i64 0),(12,.int .i64 0),(13,strV [50,50]),(14,.int .i64 2),(15,.int .i64 0),(16,strV [49,49,50]),(17,.int .i64 (-1)),(18,.int .i64 0),(19,.int .i64 1),(20,.int .i64 1),(21,.int .i64 0),(22,.int .i64 0),(23,.int .i64 0),(24,.bool false),(25,.int .i64 0)]) (L':= [(b2,true,.cells ⟨(bkE.val eA elc eB etc).cells.toList⟩ 25 (0,0)),(b1,true,.cells ⟨(bkD.val dA dlc dB dtc).cells.toList⟩ 25 (0,0))]) ?_
 refine Tc.viaB (fun H' R' L'=> ∃oA olc oB otc oF ofc b26,H6.le H'∧BookAt H' bkO oA olc oB otc oF ofc∧AllIn [(1,.pointer (some ⟨b1,0,none⟩)),(2,.pointer (some ⟨b2,0,none⟩)),(3,g3.val),(4,.int .i64 0),(5,g5.val),(6,.int .i64 2),(7,.int .i64 0),(8,g8.val),(9,.int .i64 0),(10,g10.val),(11,.int .i64 0),(12,.int .i64 0),(13,strV [50,50]),(14,.int .i64 2),(15,.int .i64 0),(16,strV [49,49,50]),(17,.int .i64 (-1)),(18,.int .i64 0),(19,.int .i64 1),(20,.int .i64 1),(21,.int .i64 0),(22,.int .i64 0),(23,.int .i64 0),(24,.bool false),(25,.int .i64 0),(26,.pointer (some ⟨b26,0,none⟩)),(27,.int .i64 0)] R'∧List.Sublist [(b26,true,.cells ⟨(bkO.val oA olc oB otc).cells.toList⟩ 25 (0,0)),(b2,true,.cells ⟨(bkE.val eA elc eB etc).cells.toList⟩ 25 (0,0)),(b1,true,.cells ⟨(bkD.val dA dlc dB dtc).cells.toList⟩ 25 (0,0))] L') ?_ (fun fin=> ?_)
 rotate_left
 · refine Tc.dr [7] [] mixed rfl ?_
   refine .q 0 rfl (OpV.load (E:=en) 1 rfl rfl rfl rfl rfl) ?_
   refine .z 1 rfl (OpV.takeCall rfl rfl rfl rfl (fun H hs=> .f ca79 rfl (train_c _ H 2 6))) ?_
   refine Ta.callL2 2 6 (by kernel_rfl) rfl rfl rfl rfl rfl rfl rfl (by decide) (FnT.f ca35 rfl (Know_c _ H6 bkD dA dlc dB dtc dF dfc hD6 sD hG6 bkD_al 1 (by decide) 2 2 6 6 ex_know.1 ex_know.2)) (by intro _ _ hh;exact hh.1) (by exact List.Sublist.refl _) (.inr (by exact List.Sublist.refl _)) (fun v Hk hv=> ?_) (TaOp.mk rfl rfl rfl (.al (zz:=fun b26=> ⟨S2.mk (by apply List.Sublist.cons;exact List.Sublist.refl _) (.inr (by apply List.Sublist.cons;exact List.Sublist.refl _)),?_⟩)))
   · obtain⟨lek,oA,olc,oB,otc,oF,ofc,rfl,hO⟩:=hv
     refine .q 3 rfl .mv ?_
     refine .q 4 rfl .et ?_
     refine Ta.tkw 5 (by kernel_rfl) rfl rfl rfl (by decide) rfl rfl (OpV.take .et) ?_
     refine Ta.each [6] (by kernel_rfl) rfl ⟨TaOp.mk rfl rfl rfl (.al (zz:=fun b26=> ⟨S2.mkL lek (by apply List.Sublist.cons;exact List.Sublist.refl _) (.inr (by apply List.Sublist.cons;exact List.Sublist.refl _)),?_⟩)),trivial⟩
     refine Ta.each [7] (by kernel_rfl) rfl ⟨TaOp.mk rfl rfl rfl (Or.storeT (E:=en) 0 rfl rfl rfl rfl rfl rfl rfl rfl rfl rfl rfl ⟨S2.mkL lek (by apply List.Sublist.cons;exact List.Sublist.refl _) (.inl (by kernel_rfl)),?_⟩),trivial⟩
     refine Ta.tkw 8 (by kernel_rfl) rfl rfl rfl (by decide) rfl rfl (OpV.take .sg) ?_
     refine Ta.done (by kernel_rfl) ?_
     exact fin _ _ _ ⟨oA,olc,oB,otc,oF,ofc,b26,lek,hO,⟨rfl,rfl,rfl,rfl,rfl,rfl,rfl,rfl,rfl,rfl,rfl,rfl,rfl,rfl,rfl,rfl,rfl,rfl,rfl,rfl,rfl,rfl,rfl,rfl,rfl,rfl,rfl,trivial⟩,(by exact List.Sublist.refl _)⟩
   · refine Ta.callL 2 (by kernel_rfl) rfl rfl rfl rfl rfl rfl rfl (by decide) (FnT.f ca35 rfl (Know_c _ H6 bkD dA dlc dB dtc dF dfc hD6 sD hG6 bkD_al 1 (by decide) 2 2 6 6 ex_know.1 ex_know.2)) (by intro _ _ hh;exact hh.1) (by apply List.Sublist.cons;exact List.Sublist.refl _) (.inr (by apply List.Sublist.cons;exact List.Sublist.refl _)) (fun v Hk hv=> ?_)
     obtain⟨lek,oA,olc,oB,otc,oF,ofc,rfl,hO⟩:=hv
     refine .q 3 rfl .mv ?_
     refine .q 4 rfl .et ?_
     refine Ta.tkw 5 (by kernel_rfl) rfl rfl rfl (by decide) rfl rfl (OpV.take .et) ?_
     refine Ta.each [7] (by kernel_rfl) rfl ⟨TaOp.mk rfl rfl rfl (Or.storeT (E:=en) 0 rfl rfl rfl rfl rfl rfl rfl rfl rfl rfl rfl ⟨S2.mkL lek (by apply List.Sublist.cons;exact List.Sublist.refl _) (.inl (by kernel_rfl)),?_⟩),trivial⟩
     refine Ta.tkw 8 (by kernel_rfl) rfl rfl rfl (by decide) rfl rfl (OpV.take .sg) ?_
     refine Ta.done (by kernel_rfl) ?_
     exact fin _ _ _ ⟨oA,olc,oB,otc,oF,ofc,b26,lek,hO,⟨rfl,rfl,rfl,rfl,rfl,rfl,rfl,rfl,rfl,rfl,rfl,rfl,rfl,rfl,rfl,rfl,rfl,rfl,rfl,rfl,rfl,rfl,rfl,rfl,rfl,rfl,rfl,trivial⟩,(by exact List.Sublist.refl _)⟩
 rintro H7 R' L' ⟨oA,olc,oB,otc,oF,ofc,b26,le7,hO7,hR,hL⟩
 have tl7:=View.le_trans tl6 le7
 have hD7:=hD6.le le7
 have hE7:=hE6.le le7
 have hG7:=glob_le hG tl7
 refine Tc.dropB (R':= [(1,.pointer (some ⟨b1,0,none⟩)),(2,.pointer (some ⟨b2,0,none⟩)),(3,g3.val),(4,.int .i64 0),(5,g5.val),(6,.int .i64 2),(7,.int .i64 0),(8,g8.val),(9,.int .i64 0),(10,g10.val),(11,.int .i64 0),(12,.int .i64 0),(13,strV [50,50]),(14,.int .i64 2),(15,.int .i64 0),(16,strV [49,49,50]),(17,.int .i64 (-1)),(18,.int .i64 0),(19,.int .i64 1),(20,.int .i64 1),(21,.int .i64 0),(22,.int .i64 0),(23,.int .i64 0),(24,.bool false),(25,.int .i64 0),(26,.pointer (some ⟨b26,0,none⟩)),(27,.int .i64 0)]) (L':= [(b26,true,.cells ⟨(bkO.val oA olc oB otc).cells.toList⟩ 25 (0,0)),(b2,true,.cells ⟨(bkE.val eA elc eB etc).cells.toList⟩ 25 (0,0)),(b1,true,.cells ⟨(bkD.val dA dlc dB dtc).cells.toList⟩ 25 (0,0))]) ?_ hR hL
 refine .sr ?_
 refine .x (.ld 0) ?_
 refine .c rfl rfl rfl rfl (fun H hs=> .f ca31 rfl (isV (Settled_c _ H bkO oA olc oB otc (hO7.bk.le hs.base) sO (glob_le hG7 hs.base) bkO_al) (congrArg settledV ex_setO))) ?_
 refine .m ?_
 refine .x .et ?_
 refine .x .et ?_
 refine .x .et ?_
 refine .x .et ?_
 refine .g ?_
 refine .g ?_
 refine .g ?_
 refine .g ?_
 refine .done (.seq ?_)
 refine Tc.db (R':= [(1,.pointer (some ⟨b1,0,none⟩)),(2,.pointer (some ⟨b2,0,none⟩)),(3,g3.val),(4,.int .i64 0),(5,g5.val),(6,.int .i64 2),(7,.int .i64 0),(8,g8.val),(9,.int .i64 0),(10,g10.val),(11,.int .i64 0),(12,.int .i64 0),(13,strV [50,50]),(14,.int .i64 2),(15,.int .i64 0),(16,strV [49,49,50]),(17,.int .i64 (-1)),(18,.int .i64 0),(19,.int .i64 1),(20,.int .i64 1),(21,.int .i64 0),(22,.int .i64 0),(23,.int .i64 0),(24,.bool false),(25,.int .i64 0),(26,.pointer (some ⟨b26,0,none⟩)),(27,.int .i64 0),(28,.int .i64 2),(29,.int .i64 0),(30,.bool true),(31,.int .i64 0)]) (L':= [(b26,true,.cells ⟨(bkO.val oA olc oB otc).cells.toList⟩ 25 (0,0)),(b2,true,.cells ⟨(bkE.val eA elc eB etc).cells.toList⟩ 25 (0,0)),(b1,true,.cells ⟨(bkD.val dA dlc dB dtc).cells.toList⟩ 25 (0,0))]) ?_
 have e2:bkD.needTo 1 (bkD.nf 1)=2:=ex_taken.2
 refine .r ?_
 refine .x (.ld 2) ?_
 refine To.callF rfl rfl rfl rfl rfl rfl (by decide) (FnT.f ca29 rfl (Taken_c _ H7 bkD dA dlc dB dtc hD7.bk sD hG7 bkD_al 1 (by decide))) (fun v H8 hv=> ?_)
 obtain⟨le8,g32,rfl,⟨ng32,lg32⟩,mg32⟩:=hv
 rw[e2]
 refine .m ?_
 refine .x .et ?_
 refine .x .et ?_
 refine .x .et ?_
 refine .g ?_
 refine .g ?_
 refine .g ?_
 refine .done ?_
 have tl8:=View.le_trans tl7 le8
 have hD8:=hD7.le le8
 have hE8:=hE7.le le8
 have hO8:=hO7.le le8
 have hG8:=glob_le hG tl8
 refine .seq ?_
 refine Tc.db (R':= [(1,.pointer (some ⟨b1,0,none⟩)),(2,.pointer (some ⟨b2,0,none⟩)),(3,g3.val),(4,.int .i64 0),(5,g5.val),(6,.int .i64 2),(7,.int .i64 0),(8,g8.val),(9,.int .i64 0),(10,g10.val),(11,.int .i64 0),(12,.int .i64 0),(13,strV [50,50]),(14,.int .i64 2),(15,.int .i64 0),(16,strV [49,49,50]),(17,.int .i64 (-1)),(18,.int .i64 0),(19,.int .i64 1),(20,.int .i64 1),(21,.int .i64 0),(22,.int .i64 0),(23,.int .i64 0),(24,.bool false),(25,.int .i64 0),(26,.pointer (some ⟨b26,0,none⟩)),(27,.int .i64 0),(28,.int .i64 2),(29,.int .i64 0),(30,.bool true),(31,.int .i64 0),(32,g32.val),(33,.int .i64 2),(34,.int .i64 0)]) (L':= [(b26,true,.cells ⟨(bkO.val oA olc oB otc).cells.toList⟩ 25 (0,0)),(b2,true,.cells ⟨(bkE.val eA elc eB etc).cells.toList⟩ 25 (0,0)),(b1,true,.cells ⟨(bkD.val dA dlc dB dtc).cells.toList⟩ 25 (0,0))]) ?_
 refine .r ?_
 refine .x (.ld 2) ?_
 refine To.callF rfl rfl rfl rfl rfl rfl (by decide) (FnT.f ca58 rfl (Slips_c _ H8 bkD dA dlc dB dtc hD8.bk sD hG8 bkD_al 0 (by decide))) (fun v H9 hv=> ?_)
 obtain⟨le9,g35,sm,rfl,⟨st1,st2⟩,⟨ng35,lg35⟩,mg35⟩:=hv
 have e35:ddTo sm sm.length= [1,2]:=by rw[st1.len,ints_asc rfl st1 st2];exact ex_slips
 rw[e35] at ng35 lg35
 refine .m ?_
 refine .x .et ?_
 refine .x .et ?_
 refine .g ?_
 refine .g ?_
 refine .done ?_
 have tl9:=View.le_trans tl8 le9
 have hD9:=hD8.le le9
 have hE9:=hE8.le le9
 have hO9:=hO8.le le9
 have hG9:=glob_le hG tl9
 refine .seq ?_
 refine Tc.db (R':= [(1,.pointer (some ⟨b1,0,none⟩)),(2,.pointer (some ⟨b2,0,none⟩)),(3,g3.val),(4,.int .i64 0),(5,g5.val),(6,.int .i64 2),(7,.int .i64 0),(8,g8.val),(9,.int .i64 0),(10,g10.val),(11,.int .i64 0),(12,.int .i64 0),(13,strV [50,50]),(14,.int .i64 2),(15,.int .i64 0),(16,strV [49,49,50]),(17,.int .i64 (-1)),(18,.int .i64 0),(19,.int .i64 1),(20,.int .i64 1),(21,.int .i64 0),(22,.int .i64 0),(23,.int .i64 0),(24,.bool false),(25,.int .i64 0),(26,.pointer (some ⟨b26,0,none⟩)),(27,.int .i64 0),(28,.int .i64 2),(29,.int .i64 0),(30,.bool true),(31,.int .i64 0),(32,g32.val),(33,.int .i64 2),(34,.int .i64 0),(35,g35.val),(36,.int .i64 0)]) (L':= [(b26,true,.cells ⟨(bkO.val oA olc oB otc).cells.toList⟩ 25 (0,0)),(b2,true,.cells ⟨(bkE.val eA elc eB etc).cells.toList⟩ 25 (0,0)),(b1,true,.cells ⟨(bkD.val dA dlc dB dtc).cells.toList⟩ 25 (0,0))]) ?_
 refine .r ?_
 refine .x (.ld 2) ?_
 refine .c rfl rfl rfl rfl (fun H hs=> .f ca52 rfl (isV (Safe_c _ H bkD dA dlc dB dtc (hD9.bk.le hs.base) sD (glob_le hG9 hs.base) [51] (by decide)) ex_safe3)) ?_
 refine .m ?_
 refine .x .et ?_
 refine .x .et ?_
 refine .g ?_
 refine .g ?_
 refine .done (.seq ?_)
 refine Tc.db (R':= [(1,.pointer (some ⟨b1,0,none⟩)),(2,.pointer (some ⟨b2,0,none⟩)),(3,g3.val),(4,.int .i64 0),(5,g5.val),(6,.int .i64 2),(7,.int .i64 0),(8,g8.val),(9,.int .i64 0),(10,g10.val),(11,.int .i64 0),(12,.int .i64 0),(13,strV [50,50]),(14,.int .i64 2),(15,.int .i64 0),(16,strV [49,49,50]),(17,.int .i64 (-1)),(18,.int .i64 0),(19,.int .i64 1),(20,.int .i64 1),(21,.int .i64 0),(22,.int .i64 0),(23,.int .i64 0),(24,.bool false),(25,.int .i64 0),(26,.pointer (some ⟨b26,0,none⟩)),(27,.int .i64 0),(28,.int .i64 2),(29,.int .i64 0),(30,.bool true),(31,.int .i64 0),(32,g32.val),(33,.int .i64 2),(34,.int .i64 0),(35,g35.val),(36,.int .i64 0),(37,.bool false),(38,.int .i64 0)]) (L':= [(b26,true,.cells ⟨(bkO.val oA olc oB otc).cells.toList⟩ 25 (0,0)),(b2,true,.cells ⟨(bkE.val eA elc eB etc).cells.toList⟩ 25 (0,0)),(b1,true,.cells ⟨(bkD.val dA dlc dB dtc).cells.toList⟩ 25 (0,0))]) ?_
 refine .r ?_
 refine .x (.ld 2) ?_
 refine .c rfl rfl rfl rfl (fun H hs=> .f ca52 rfl (isV (Safe_c _ H bkD dA dlc dB dtc (hD9.bk.le hs.base) sD (glob_le hG9 hs.base) [53] (by decide)) ex_safe5)) ?_
 refine .m ?_
 refine .x .et ?_
 refine .x .et ?_
 refine .g ?_
 refine .g ?_
 refine .done (.seq ?_)
 refine Tc.db (R':= [(1,.pointer (some ⟨b1,0,none⟩)),(2,.pointer (some ⟨b2,0,none⟩)),(3,g3.val),(4,.int .i64 0),(5,g5.val),(6,.int .i64 2),(7,.int .i64 0),(8,g8.val),(9,.int .i64 0),(10,g10.val),(11,.int .i64 0),(12,.int .i64 0),(13,strV [50,50]),(14,.int .i64 2),(15,.int .i64 0),(16,strV [49,49,50]),(17,.int .i64 (-1)),(18,.int .i64 0),(19,.int .i64 1),(20,.int .i64 1),(21,.int .i64 0),(22,.int .i64 0),(23,.int .i64 0),(24,.bool false),(25,.int .i64 0),(26,.pointer (some ⟨b26,0,none⟩)),(27,.int .i64 0),(28,.int .i64 2),(29,.int .i64 0),(30,.bool true),(31,.int .i64 0),(32,g32.val),(33,.int .i64 2),(34,.int .i64 0),(35,g35.val),(36,.int .i64 0),(37,.bool false),(38,.int .i64 0),(39,.bool true),(40,.int .i64 0)]) (L':= [(b26,true,.cells ⟨(bkO.val oA olc oB otc).cells.toList⟩ 25 (0,0)),(b2,true,.cells ⟨(bkE.val eA elc eB etc).cells.toList⟩ 25 (0,0)),(b1,true,.cells ⟨(bkD.val dA dlc dB dtc).cells.toList⟩ 25 (0,0))]) ?_
 refine .r ?_
 refine .x (.ld 2) ?_
 refine .c rfl rfl rfl rfl (fun H hs=> .f ca50 rfl (isV (Spare_c _ H bkD dA dlc dB dtc (hD9.bk.le hs.base) sD (glob_le hG9 hs.base) 1 true) ex_spare)) ?_
 refine .m ?_
 refine .x .et ?_
 refine .x .et ?_
 refine .x .et ?_
 refine .g ?_
 refine .g ?_
 refine .g ?_
 refine .done (.seq ?_)
 refine Tc.db (R':= [(1,.pointer (some ⟨b1,0,none⟩)),(2,.pointer (some ⟨b2,0,none⟩)),(3,g3.val),(4,.int .i64 0),(5,g5.val),(6,.int .i64 2),(7,.int .i64 0),(8,g8.val),(9,.int .i64 0),(10,g10.val),(11,.int .i64 0),(12,.int .i64 0),(13,strV [50,50]),(14,.int .i64 2),(15,.int .i64 0),(16,strV [49,49,50]),(17,.int .i64 (-1)),(18,.int .i64 0),(19,.int .i64 1),(20,.int .i64 1),(21,.int .i64 0),(22,.int .i64 0),(23,.int .i64 0),(24,.bool false),(25,.int .i64 0),(26,.pointer (some ⟨b26,0,none⟩)),(27,.int .i64 0),(28,.int .i64 2),(29,.int .i64 0),(30,.bool true),(31,.int .i64 0),(32,g32.val),(33,.int .i64 2),(34,.int .i64 0),(35,g35.val),(36,.int .i64 0),(37,.bool false),(38,.int .i64 0),(39,.bool true),(40,.int .i64 0),(41,strV [48]),(42,.bool true),(43,.int .i64 0)]) (L':= [(b26,true,.cells ⟨(bkO.val oA olc oB otc).cells.toList⟩ 25 (0,0)),(b2,true,.cells ⟨(bkE.val eA elc eB etc).cells.toList⟩ 25 (0,0)),(b1,true,.cells ⟨(bkD.val dA dlc dB dtc).cells.toList⟩ 25 (0,0))]) ?_
 refine .r ?_
 refine .c rfl rfl rfl rfl (fun H hs=> .f ca67 rfl (isV (Pulses_c _ H [49,50,48] (by decide)) ex_pulses)) ?_
 refine .m ?_
 refine .x .et ?_
 refine .x .et ?_
 refine .g ?_
 refine .g ?_
 refine .done (.seq ?_)
 refine Tc.db (R':= [(1,.pointer (some ⟨b1,0,none⟩)),(2,.pointer (some ⟨b2,0,none⟩)),(3,g3.val),(4,.int .i64 0),(5,g5.val),(6,.int .i64 2),(7,.int .i64 0),(8,g8.val),(9,.int .i64 0),(10,g10.val),(11,.int .i64 0),(12,.int .i64 0),(13,strV [50,50]),(14,.int .i64 2),(15,.int .i64 0),(16,strV [49,49,50]),(17,.int .i64 (-1)),(18,.int .i64 0),(19,.int .i64 1),(20,.int .i64 1),(21,.int .i64 0),(22,.int .i64 0),(23,.int .i64 0),(24,.bool false),(25,.int .i64 0),(26,.pointer (some ⟨b26,0,none⟩)),(27,.int .i64 0),(28,.int .i64 2),(29,.int .i64 0),(30,.bool true),(31,.int .i64 0),(32,g32.val),(33,.int .i64 2),(34,.int .i64 0),(35,g35.val),(36,.int .i64 0),(37,.bool false),(38,.int .i64 0),(39,.bool true),(40,.int .i64 0),(41,strV [48]),(42,.bool true),(43,.int .i64 0),(44,.int .i64 13),(45,.int .i64 0)]) (L':= [(b26,true,.cells ⟨(bkO.val oA olc oB otc).cells.toList⟩ 25 (0,0)),(b2,true,.cells ⟨(bkE.val eA elc eB etc).cells.toList⟩ 25 (0,0)),(b1,true,.cells ⟨(bkD.val dA dlc dB dtc).cells.toList⟩ 25 (0,0))]) ?_
 refine .r ?_
 refine .e (.bs (zz:=fun bw=> ?_))
 refine To.permL2 (L₁:= [(b26,true,.cells ⟨(bkO.val oA olc oB otc).cells.toList⟩ 25 (0,0)),(b2,true,.cells ⟨(bkE.val eA elc eB etc).cells.toList⟩ 25 (0,0)),(b1,true,.cells ⟨(bkD.val dA dlc dB dtc).cells.toList⟩ 25 (0,0))]++[(bw,true,.cells ⟨intsL [5,3,1]⟩ 3 (0,0))]) (by exact List.perm_append_comm) ?_
 refine To.lift (L₂:= [(b26,true,.cells ⟨(bkO.val oA olc oB otc).cells.toList⟩ 25 (0,0)),(b2,true,.cells ⟨(bkE.val eA elc eB etc).cells.toList⟩ 25 (0,0)),(b1,true,.cells ⟨(bkD.val dA dlc dB dtc).cells.toList⟩ 25 (0,0))]) (L₁:= [(bw,true,.cells ⟨intsL [5,3,1]⟩ 3 (0,0))]) rfl (fun H10 hw=> ?_)
 have le10:=hw.base
 have tl10:=View.le_trans tl9 le10
 have hD10:=hD9.le le10
 have hE10:=hE9.le le10
 have hO10:=hO9.le le10
 have hG10:=glob_le hG tl10
 obtain⟨xc1,xc2,xc3,xc4,xc5⟩:=ex_cheap
 have al5:(cheap (exAt [5,3,1]) 3 2 2).al=0:=by unfold ChSt.al;rw[xc4];rfl
 refine To.callF rfl rfl rfl rfl rfl rfl (by decide) (FnT.f ca53 rfl (Cheapest_c _ H10 (some ⟨bw,0,none⟩) 3 3 (exAt [5,3,1]) (ints_lit [5,3,1] (hw.get (i:=0) rfl)) 2 2 (by decide) xc2 (by decide) (by decide) xc1)) (fun v H11 hv=> ?_)
 obtain⟨le11,ca,cn,cc,rfl,cn1,cs1⟩:=hv
 rw[xc5] at cn1 cs1
 rw[xc3,al5]
 refine .m ?_
 refine .x .et ?_
 refine .x .et ?_
 refine .x .et ?_
 refine .g ?_
 refine .g ?_
 refine .g ?_
 refine .done ?_
 have tl11:=View.le_trans tl10 le11
 have hD11:=hD10.le le11
 have hE11:=hE10.le le11
 have hO11:=hO10.le le11
 have hG11:=glob_le hG tl11
 refine .seq (.seq ?_)
 refine Tc.db (R':= [(1,.pointer (some ⟨b1,0,none⟩)),(2,.pointer (some ⟨b2,0,none⟩)),(3,g3.val),(4,.int .i64 0),(5,g5.val),(6,.int .i64 2),(7,.int .i64 0),(8,g8.val),(9,.int .i64 0),(10,g10.val),(11,.int .i64 0),(12,.int .i64 0),(13,strV [50,50]),(14,.int .i64 2),(15,.int .i64 0),(16,strV [49,49,50]),(17,.int .i64 (-1)),(18,.int .i64 0),(19,.int .i64 1),(20,.int .i64 1),(21,.int .i64 0),(22,.int .i64 0),(23,.int .i64 0),(24,.bool false),(25,.int .i64 0),(26,.pointer (some ⟨b26,0,none⟩)),(27,.int .i64 0),(28,.int .i64 2),(29,.int .i64 0),(30,.bool true),(31,.int .i64 0),(32,g32.val),(33,.int .i64 2),(34,.int .i64 0),(35,g35.val),(36,.int .i64 0),(37,.bool false),(38,.int .i64 0),(39,.bool true),(40,.int .i64 0),(41,strV [48]),(42,.bool true),(43,.int .i64 0),(44,.int .i64 13),(45,.int .i64 0),(46,.slice ca cn cc),(47,.int .i64 18),(48,.int .i64 0)]) (L':= [(b26,true,.cells ⟨(bkO.val oA olc oB otc).cells.toList⟩ 25 (0,0)),(b2,true,.cells ⟨(bkE.val eA elc eB etc).cells.toList⟩ 25 (0,0)),(b1,true,.cells ⟨(bkD.val dA dlc dB dtc).cells.toList⟩ 25 (0,0))]) ?_
 refine .r ?_
 refine .m ?_
 refine .i ?_ (z:=neq_f (by omega))
 refine .m ?_
 refine .m ?_
 refine .i ?_ (z:=neq_f (by omega))
 refine .x .pk ?_
 refine .m ?_
 refine .m ?_
 refine .i ?_ (z:=neq_f (by omega))
 refine .x .pk ?_
 refine .m ?_
 refine .m ?_
 refine .i ?_ (z:=neq_f (by omega))
 refine .x .pk ?_
 refine .m ?_
 refine .m ?_
 refine .i ?_ (z:=neq_f (by omega))
 refine .x .pk ?_
 refine .m ?_
 refine .m ?_
 refine .i ?_ (z:=neq_f (by omega))
 refine .x .pk ?_
 refine .m ?_
 refine .m ?_
 refine .i ?_ (z:=neq_f (by omega))
 refine .x .pk ?_
 refine .m ?_
 refine .m ?_
 refine .i ?_ (z:=neq_f (by omega))
 refine .x .pk ?_
 refine .m ?_
 refine .m ?_
 refine .i ?_ (z:=neq_f (by omega))
 refine .x .pk ?_
 refine .m ?_
 refine .m ?_
 refine .i ?_ (z:=neq_f (by omega))
 refine .x .pk ?_
 refine .m ?_
 refine .m ?_
 refine .i ?_ (z:=neq_f (by omega))
 refine .x .pk ?_
 refine .m ?_
 refine .m ?_
 refine .i ?_ (z:=neq_f (by omega))
 refine .x .pk ?_
 refine .m ?_
 refine .m ?_
 refine .i ?_ (z:=neq_f (by omega))
 refine .x .pk ?_
 refine .m ?_
 refine .m ?_
 refine .i ?_ (z:=neq_f (by omega))
 refine .x .pk ?_
 refine .m ?_
 refine .m ?_
 refine .i ?_ (z:=neq_f (by omega))
 refine .x .pk ?_
 refine .m ?_
 refine .m ?_
 refine .i ?_ (z:=neq_f (by omega))
 refine .x .pk ?_
 refine .m ?_
 refine .m ?_
 refine .i ?_ (z:=neq_f (by omega))
 refine .x .pk ?_
 refine .done (.ff rfl (.skip (.seq (.seq ?_))))
 refine Tc.db (R':= [(1,.pointer (some ⟨b1,0,none⟩)),(2,.pointer (some ⟨b2,0,none⟩)),(3,g3.val),(4,.int .i64 0),(5,g5.val),(6,.int .i64 2),(7,.int .i64 0),(8,g8.val),(9,.int .i64 0),(10,g10.val),(11,.int .i64 0),(12,.int .i64 0),(13,strV [50,50]),(14,.int .i64 2),(15,.int .i64 0),(16,strV [49,49,50]),(17,.int .i64 (-1)),(18,.int .i64 0),(19,.int .i64 1),(20,.int .i64 1),(21,.int .i64 0),(22,.int .i64 0),(23,.int .i64 0),(24,.bool false),(25,.int .i64 0),(26,.pointer (some ⟨b26,0,none⟩)),(27,.int .i64 0),(28,.int .i64 2),(29,.int .i64 0),(30,.bool true),(31,.int .i64 0),(32,g32.val),(33,.int .i64 2),(34,.int .i64 0),(35,g35.val),(36,.int .i64 0),(37,.bool false),(38,.int .i64 0),(39,.bool true),(40,.int .i64 0),(41,strV [48]),(42,.bool true),(43,.int .i64 0),(44,.int .i64 13),(45,.int .i64 0),(46,.slice ca cn cc),(47,.int .i64 18),(48,.int .i64 0)]) (L':= [(b26,true,.cells ⟨(bkO.val oA olc oB otc).cells.toList⟩ 25 (0,0)),(b2,true,.cells ⟨(bkE.val eA elc eB etc).cells.toList⟩ 25 (0,0)),(b1,true,.cells ⟨(bkD.val dA dlc dB dtc).cells.toList⟩ 25 (0,0))]) ?_
 have up:∀ {A B C:View},A.le B→B.le C→A.le C:=View.le_trans
 have w3:=fun(H':View) (h':H11.le H') (bs:Nat) (k1:H' bs=some (true,.cells ⟨strsV [[49,50],[49,51]]⟩ 9 (0,0)))=> SameWords_c (Mp Tryz.prog) H' (g3.blk.map fun b=> ⟨b,0,none⟩) (some ⟨bs,0,none⟩) g3.n ([[49,50],[49,51]]:List (List UInt8)).length g3.cap ([[49,50],[49,51]]:List (List UInt8)).length _ _ (strs_of (g0:=g3) g3 (fun x hx=> h' _ _ ((up (up (up (up (up (up (up le4 le5) le6) le7) le8) le9) le10) le11) _ _ (mg3 x hx).1)) lg3 rfl rfl) (strs_lit [[49,50],[49,51]] k1) (by rw[ng3];decide) (by decide) true (words_true [[49,50],[49,51]] ng3)
 have w8:=fun(H':View) (h':H11.le H') (bs:Nat) (k1:H' bs=some (true,.cells ⟨strsV [[49,49,50],[50,50]]⟩ 9 (0,0)))=> SameWords_c (Mp Tryz.prog) H' (g8.blk.map fun b=> ⟨b,0,none⟩) (some ⟨bs,0,none⟩) g8.n ([[49,49,50],[50,50]]:List (List UInt8)).length g8.cap ([[49,49,50],[50,50]]:List (List UInt8)).length _ _ (strs_of (g0:=g8) g8 (fun x hx=> h' _ _ ((up (up (up (up (up le6 le7) le8) le9) le10) le11) _ _ (mg8 x hx).1)) lg8 rfl rfl) (strs_lit [[49,49,50],[50,50]] k1) (by rw[ng8];decide) (by decide) true (words_true [[49,49,50],[50,50]] ng8)
 have c5:=fun(H':View) (h':H11.le H') (bs:Nat) (k1:H' bs=some (true,.cells ⟨intsL [0,0,2]⟩ 38 (0,0)))=> claims_c (Mp Tryz.prog) H' (g5.blk.map fun b=> ⟨b,0,none⟩) (some ⟨bs,0,none⟩) g5.n ([0,0,2]:List Int).length g5.cap ([0,0,2]:List Int).length (fun i=> bkD.claimOf (i:Nat)) _ (by rw[ng5];exact cl_at g5 (fun x hx=> h' _ _ ((up (up (up (up (up (up le5 le6) le7) le8) le9) le10) le11) _ _ (mg5 x hx).1)) lg5 ng5) (ints_lit [0,0,2] k1) (by rw[ng5];decide) (by decide) true (by rw[ng5];rw[decide_eq_true (by rfl)];show(true&&allB _ 3)=true;rw[(allB_iff _).2 (three (decide_eq_true ex_clD.1.1) (decide_eq_true ex_clD.1.2.1) (decide_eq_true ex_clD.1.2.2))];rfl)
 have c10:=fun(H':View) (h':H11.le H') (bs:Nat) (k1:H' bs=some (true,.cells ⟨intsL [2,2,0]⟩ 38 (0,0)))=> claims_c (Mp Tryz.prog) H' (g10.blk.map fun b=> ⟨b,0,none⟩) (some ⟨bs,0,none⟩) g10.n ([2,2,0]:List Int).length g10.cap ([2,2,0]:List Int).length (fun i=> bkE.claimOf (i:Nat)) _ (by rw[ng10];exact cl_at g10 (fun x hx=> h' _ _ ((up (up (up (up le7 le8) le9) le10) le11) _ _ (mg10 x hx).1)) lg10 ng10) (ints_lit [2,2,0] k1) (by rw[ng10];decide) (by decide) true (by rw[ng10];rw[decide_eq_true (by rfl)];show(true&&allB _ 3)=true;rw[(allB_iff _).2 (three (decide_eq_true ex_clE.1.1) (decide_eq_true ex_clE.1.2.1) (decide_eq_true ex_clE.1.2.2))];rfl)
 refine .r ?_
 refine .m ?_
 refine .e (.bs (zz:=fun x1=> ?_))
 refine .c rfl rfl rfl rfl (fun H hs=> .f ca25 rfl (w3 H hs.base x1 (hs.get (i:=0) rfl))) ?_
 refine .x .nt ?_
 refine .m ?_
 refine .m ?_
 refine .e (.bs (zz:=fun x2=> ?_))
 refine .c rfl rfl rfl rfl (fun H hs=> .f ca80 rfl (c5 H hs.base x2 (hs.get (i:=0) rfl))) ?_
 refine .x .nt ?_
 refine .x .pk ?_
 refine .m ?_
 refine .m ?_
 refine .i ?_ (z:=neq_f (by omega))
 refine .x .pk ?_
 refine .m ?_
 refine .m ?_
 refine .e (.bs (zz:=fun x3=> ?_))
 refine .c rfl rfl rfl rfl (fun H hs=> .f ca25 rfl (w8 H hs.base x3 (hs.get (i:=0) rfl))) ?_
 refine .x .nt ?_
 refine .x .pk ?_
 refine .m ?_
 refine .m ?_
 refine .e (.bs (zz:=fun x4=> ?_))
 refine .c rfl rfl rfl rfl (fun H hs=> .f ca80 rfl (c10 H hs.base x4 (hs.get (i:=0) rfl))) ?_
 refine .x .nt ?_
 refine .x .pk ?_
 refine .m ?_
 refine .m ?_
 refine .i ?_ (z:=neq_f (by omega))
 refine .x .pk ?_
 refine .m ?_
 refine .m ?_
 refine .x (OpV.strB rfl rfl rfl (by exact rfl)) ?_
 refine .x .pk ?_
 refine .m ?_
 refine .m ?_
 refine .i ?_ (z:=neq_f (by omega))
 refine .x .pk ?_
 refine .m ?_
 refine .m ?_
 refine .x (OpV.strB rfl rfl rfl (by exact rfl)) ?_
 refine .x .pk ?_
 refine .m ?_
 refine .m ?_
 refine .i ?_ (z:=neq_f (by omega))
 refine .x .pk ?_
 refine .m ?_
 refine .m ?_
 refine .i ?_ (z:=neq_f (by omega))
 refine .x .pk ?_
 refine .m ?_
 refine .m ?_
 refine .i ?_ (z:=neq_f (by omega))
 refine .x .pk ?_
 refine .m ?_
 refine .m ?_
 refine .x .pk ?_
 refine .done (.ff rfl (.skip (.seq ?_)))
 refine Tc.db (R':= [(1,.pointer (some ⟨b1,0,none⟩)),(2,.pointer (some ⟨b2,0,none⟩)),(3,g3.val),(4,.int .i64 0),(5,g5.val),(6,.int .i64 2),(7,.int .i64 0),(8,g8.val),(9,.int .i64 0),(10,g10.val),(11,.int .i64 0),(12,.int .i64 0),(13,strV [50,50]),(14,.int .i64 2),(15,.int .i64 0),(16,strV [49,49,50]),(17,.int .i64 (-1)),(18,.int .i64 0),(19,.int .i64 1),(20,.int .i64 1),(21,.int .i64 0),(22,.int .i64 0),(23,.int .i64 0),(24,.bool false),(25,.int .i64 0),(26,.pointer (some ⟨b26,0,none⟩)),(27,.int .i64 0),(28,.int .i64 2),(29,.int .i64 0),(30,.bool true),(31,.int .i64 0),(32,g32.val),(33,.int .i64 2),(34,.int .i64 0),(35,g35.val),(36,.int .i64 0),(37,.bool false),(38,.int .i64 0),(39,.bool true),(40,.int .i64 0),(41,strV [48]),(42,.bool true),(43,.int .i64 0),(44,.int .i64 13),(45,.int .i64 0),(46,.slice ca cn cc),(47,.int .i64 18),(48,.int .i64 0)]) (L':= [(b26,true,.cells ⟨(bkO.val oA olc oB otc).cells.toList⟩ 25 (0,0)),(b2,true,.cells ⟨(bkE.val eA elc eB etc).cells.toList⟩ 25 (0,0)),(b1,true,.cells ⟨(bkD.val dA dlc dB dtc).cells.toList⟩ 25 (0,0))]) ?_
 have c32:=fun(H':View) (h':H11.le H') (bs:Nat) (k1:H' bs=some (true,.cells ⟨intsL [2,0]⟩ 38 (0,0)))=> claims_c (Mp Tryz.prog) H' (g32.blk.map fun b=> ⟨b,0,none⟩) (some ⟨bs,0,none⟩) g32.n ([2,0]:List Int).length g32.cap ([2,0]:List Int).length (bkD.takenAt 1) _ (by rw[ng32];exact cl_at g32 (fun x hx=> h' _ _ ((up (up le9 le10) le11) _ _ (mg32 x hx).1)) lg32 ng32) (ints_lit [2,0] k1) (by rw[ng32];decide) (by decide) true (by rw[ng32];rw[decide_eq_true (by rfl)];show(true&&allB _ 2)=true;rw[(allB_iff _).2 (two (decide_eq_true ex_taken.1.1) (decide_eq_true ex_taken.1.2))];rfl)
 have n35:=fun(H':View) (h':H11.le H') (bs:Nat) (k1:H' bs=some (true,.cells ⟨intsL [1,2]⟩ 3 (0,0)))=> SameNums_eq (Mp Tryz.prog) H' (g35.blk.map fun b=> ⟨b,0,none⟩) (some ⟨bs,0,none⟩) 2 g35.cap 2 (exAt [1,2]) (exAt [1,2]) (cl_at g35 (fun x hx=> h' _ _ ((up le10 le11) _ _ (mg35 x hx).1)) (lg35.trans (clL_ints _)) ng35) (ints_lit [1,2] k1) (by decide) (fun _ _=> rfl)
 have w46:=fun(H':View) (h':H11.le H') (bs:Nat) (k1:H' bs=some (true,.cells ⟨strsV [[49],[50,49],[50,50]]⟩ 9 (0,0)))=> SameWords_c (Mp Tryz.prog) H' ca (some ⟨bs,0,none⟩) cn ([[49],[50,49],[50,50]]:List (List UInt8)).length cc ([[49],[50,49],[50,50]]:List (List UInt8)).length _ _ (strs_src (cs1.mono (View.le_trans (View.le_refl H11) h')) cn1) (strs_lit [[49],[50,49],[50,50]] k1) (by rw[cn1];decide) (by decide) true (words_true [[49],[50,49],[50,50]] cn1)
 rw[show g35.val=.slice (g35.blk.map fun b=> ⟨b,0,none⟩) 2 g35.cap by unfold Gl.val;rw[ng35];rfl]
 refine .r ?_
 refine .m ?_
 refine .m ?_
 refine .m ?_
 refine .i ?_ (z:=eql_t (by omega))
 refine .x .pk ?_
 refine .m ?_
 refine .m ?_
 refine .i ?_ (z:=eql_t (by omega))
 refine .x .pk ?_
 refine .m ?_
 refine .m ?_
 refine .e (.bs (zz:=fun y1=> ?_))
 refine .c rfl rfl rfl rfl (fun H hs=> .f ca80 rfl (c32 H hs.base y1 (hs.get (i:=0) rfl))) ?_
 refine .x .pk ?_
 refine .m ?_
 refine .m ?_
 refine .i ?_ (z:=eql_t (by omega))
 refine .x .pk ?_
 refine .m ?_
 refine .m ?_
 refine .e (.bs (zz:=fun y2=> ?_))
 refine .c rfl rfl rfl rfl (fun H hs=> .f ca62 rfl (n35 H hs.base y2 (hs.get (i:=0) rfl))) ?_
 refine .x .pk ?_
 refine .m ?_
 refine .m ?_
 refine .x .nt ?_
 refine .x .pk ?_
 refine .m ?_
 refine .m ?_
 refine .x .pk ?_
 refine .m ?_
 refine .m ?_
 refine .x (OpV.strB rfl rfl rfl (by exact rfl)) ?_
 refine .x .pk ?_
 refine .m ?_
 refine .m ?_
 refine .i ?_ (z:=eql_t (by omega))
 refine .x .pk ?_
 refine .m ?_
 refine .m ?_
 refine .e (.bs (zz:=fun y3=> ?_))
 refine .c rfl rfl rfl rfl (fun H hs=> .f ca25 rfl (w46 H hs.base y3 (hs.get (i:=0) rfl))) ?_
 refine .x .pk ?_
 refine .m ?_
 refine .m ?_
 refine .i ?_ (z:=eql_t (by omega))
 refine .x .pk ?_
 refine .g ?_
 refine .done ?_
 refine .rt hK Tryz.func18 Tryz.results18 [_] ?_
 exact fun H' hs=> ⟨View.le_trans tl11 hs.base,rfl⟩
end Go.Proofs.YtdnfdeplcjaonaaGreatDoor
end
section
namespace Go.RL
section
variable {P:Program}{E:Env P}{M:Md P}{n:Nat}{H₀:View}{R:Rg}{L:Bl}{K:Rg→Bl→Prop}{o:Oper}{d:Nat}
theorem mid_perm(X B Y:Bl):((X++Y)++B).Perm (X++(B++Y)):=by
 rw[List.append_assoc]
 exact(List.Perm.refl X).append List.perm_append_comm
theorem Or.appendAmid(k:Nat)(T:Bl→Bl){Y:Bl}(hT:∀B,(T B).Perm (Y++B)){cl:Go.Call}{x y:Operand}{t xt e:TypeId}{sz m:Nat}{yv:Value}{new:List Value}{g:Gl e sz}{r re rx:TyRow}{ex:TypeId}(hop:o.op=.call cl)(hcl:cl.callee=.builtin .append)(hat:cl.argTypes=#[t,xt])(har:cl.args=#[x,y])
   (hx:evR R x=some g.val) (hy:evR R y=some yv) (ht:E.ty t=some r) (hds:r.ds=.slice e) (hre:E.ty e=some re) (hsz:re.size=sz) (hzs:Nat.beq re.zero.cells.toList.length sz=true) (hxt:E.ty xt=some rx) (hex:rx.ds=.slice ex) (hby:Nat.ble re.bytes 1000=true)
   (hL:L.drop k=T g.bl) (hsrc:∀H,SymSt H₀ L H→SrcAt H sz yv m new) (hs:new.all single=true) (hm:g.n+m≤1000000000) (hd:o.dst=some d) (hn:d<n)
   (hk:∀g':Gl e sz,g'.n=g.n+m→g'.l=g.l++new→K ((d,g'.val)::R) (L.take k++T g'.bl)):Or M n H₀ R L o K:=
 .val hd hn fun H tmps hst hr=> by
   have hLe:L=L.take k++T g.bl:=by rw[←hL,List.take_append_drop]
   unfold execOp;rw[hop]
   simp only[resolve,hcl,hat,har]
   have hm':Array.map (evT tmps) #[x,y]=#[g.val,yv]:=by simp[hr.ev hx,hr.ev hy]
   rw[hm']
   have hp:∀B,((L.take k++Y)++B).Perm (L.take k++T B):=fun B=> by rw[List.append_assoc];exact(List.Perm.refl _).append (hT B).symm
   have hst0:=hst
   rw[hLe] at hst0
   have hst2:SymSt H₀ ((L.take k++Y)++g.bl) H:=hst0.perm (hp g.bl)
   refine vwp_bind (Builtin.append_ #[t,xt] o.type #[g.val,yv]) _ ?_
   refine vwp_append ht hds hre hsz (Nat.eq_of_beq_eq_true hzs) ⟨rx,ex,hxt,hex⟩ (Nat.le_of_ble_eq_true hby) hm (fun z hz=> hst2.at_ z (by simp[hz])) (hsrc H hst) hs fun g' H' h1 h2 h3 h4 h5=> ?_
   exact⟨_,rfl,_,(hst2.grown h3 h4 h5).perm (hp g'.bl).symm,hk g' h1 h2⟩
theorem in_one(Y:Bl):∀B:Bl,(B++Y).Perm (Y++B):=fun _=> List.perm_append_comm
theorem in_mid(X Y:Bl):∀B:Bl,(X++(B++Y)).Perm ((X++Y)++B):=fun B=> (mid_perm X B Y).symm
theorem in_last(X Y:Bl):∀B:Bl,(X++(Y++B)).Perm ((X++Y)++B):=fun B=> by rw[List.append_assoc]
end
end Go.RL
end
section
namespace Go.Proofs.YtdnfdeplcjaonaaGreatDoor
open Go.RL
set_option maxRecDepth 10000
set_option maxHeartbeats 16000000
def dialP(k:Bk)(n:Nat)(pu:Nat→Nat)(P:Int):Bk:= { k with nt:=n,pf:=fun i=> (pu i:Nat),pt:=fun i=> (pu i:Nat),qf:=fun _=> P,qt:=fun _=> P }
theorem dialP_alarm {k:Bk}(ha:k.alarm=0){n:Nat}(hn:n≤6){pu:Nat→Nat}(hpu:∀i,i<n→1≤pu i∧pu i≤10){P:Int}(hP:0≤P∧P≤99):(dialP k n pu P).alarm=0:=by
 obtain⟨h1,h2,_⟩:=Bk.alarm0 ha
 have e1:(dialP k n pu P).pausesA=0:=h1
 have e2:(dialP k n pu P).linesA=0:=h2
 have e3:(dialP k n pu P).trainsA=0:=by
   unfold Bk.trainsA
   have hn':¬6<(dialP k n pu P).nt:=by show ¬6<n;omega
   rw[if_neg hn']
   have:firstTo (dialP k n pu P).trainBad (dialP k n pu P).nt=none:=(firstTo_none _).2 fun i hi=> by
     unfold Bk.trainBad
     have hp:=hpu i hi
     have:trainOk ((dialP k n pu P).pf i) ((dialP k n pu P).pt i) ((dialP k n pu P).qf i) ((dialP k n pu P).qt i)=true:=by
       show trainOk (pu i:Nat) (pu i:Nat) P P=true
       unfold trainOk
       simp only[Bool.and_eq_true,decide_eq_true_eq]
       omega
     rw[this]
     rfl
   rw[this]
   rfl
 unfold Bk.alarm
 rw[if_pos e1,if_pos e2,e3]
theorem dialP_to {k:Bk}{n:Nat}{pu:Nat→Nat}(hpu:∀i,i<n→1≤pu i∧pu i≤10){P:Int}(hP:k.gap≤P∧P<k.give):∀j,j≤n→(dialP k n pu P).earTo (fun i=> (pu i:Nat)) (fun _=> P) j=⟨(List.range j).map fun i=> digB (pu i),0,false⟩
 | 0,_=> rfl
 | j + 1,hj=> by
   have ih:=dialP_to hpu hP j (by omega)
   have hkd:(dialP k n pu P).kind P=1:=by
     show(if P<k.gap then 0 else if P<k.give then 1 else 2)=1
     rw[if_neg (by omega),if_pos hP.2]
   have hp:=hpu j (by omega)
   unfold Bk.earTo
   rw[ih,hkd,Int.toNat_natCast]
   unfold Ear.hear
   rw[if_neg (fun h=> nomatch h),if_neg (by decide),if_neg (by simp only;omega)]
   simp only[Nat.zero_add]
   rw[List.range_succ,List.map_append]
   rfl
theorem dialP_follow {k:Bk}(ha:k.alarm=0){n:Nat}(hn:n≤6){pu:Nat→Nat}(hpu:∀i,i<n→1≤pu i∧pu i≤10){P:Int}(hP:k.gap≤P∧P<k.give)(hP2:0≤P∧P≤99):
   (dialP k n pu P).followV n n (fun i=> (pu i:Nat)) (fun _=> P)=follow3 ((List.range n).map fun i=> digB (pu i)) (firstI (k.line ((List.range n).map fun i=> digB (pu i)))) 0:=by
 unfold Bk.followV
 rw[if_neg (by rw[dialP_alarm ha hn hpu hP2];decide),if_neg (by show ¬(n≠n∨n≠n);simp)]
 have hin:(firstTo (fun i=> !(dialP k n pu P).inAt (fun i=> (pu i:Nat)) (fun _=> P) i) (dialP k n pu P).nt)=none:=(firstTo_none _).2 fun i hi=> by
   have:(dialP k n pu P).inAt (fun i=> (pu i:Nat)) (fun _=> P) i=true:=by
     show(decide (((pu i:Nat):Int)≤(pu i:Nat)∧((pu i:Nat):Int)≤(pu i:Nat))&&decide (P≤P∧P≤P))=true
     rw[decide_eq_true ⟨Int.le_refl _,Int.le_refl _⟩,decide_eq_true ⟨Int.le_refl _,Int.le_refl _⟩]
     rfl
   simp[this]
 rw[hin,if_neg (by decide)]
 have e:(dialP k n pu P).nt=n:=rfl
 rw[e,dialP_to hpu hP n (Nat.le_refl _)]
 rfl
def slipPu(s:List UInt8)(i m:Nat)(j:Nat):Nat:=if j=i then m else pnAt s j
theorem slipPu_map {s:List UInt8}(hs:s.all dig=true){i:Nat}(hi:i<s.length)(m:Nat):(List.range s.length).map (fun j=> digB (slipPu s i m j))=slip s i m:=by
 unfold slip
 apply List.ext_getElem
 · simp only[List.length_map,List.length_range,List.length_append,List.length_take,List.length_drop,List.length_cons,List.length_nil]
   omega
 · intro j h1 h2
   have hj:j<s.length:=by simpa using h1
   simp only[List.getElem_map,List.getElem_range]
   unfold slipPu
   have hpn:digB (pnAt s j)=s[j]:=by
     unfold pnAt
     rw[List.getElem?_eq_getElem hj]
     exact dig_pn (List.all_eq_true.1 hs _ (List.getElem_mem _))
   rcases Nat.lt_trichotomy j i with c|c|c
   · rw[if_neg (by omega),hpn,List.getElem_append_left (by simp;omega),List.getElem_append_left (by simp;omega),List.getElem_take]
   · subst c
     rw[if_pos rfl,List.getElem_append_left (by simp;omega),List.getElem_append_right (by simp;omega)]
     simp
   · rw[if_neg (by omega),hpn,List.getElem_append_right (by simp;omega)]
     simp only[List.length_append,List.length_take,List.length_cons,List.length_nil,List.getElem_drop]
     congr 1
     omega
def Bk.slipTo(k:Bk)(w i:Nat)(more:Bool):Int:=
 if 1≤(if more then pnAt (k.num w) i+1 else pnAt (k.num w) i-1)∧(if more then pnAt (k.num w) i+1 else pnAt (k.num w) i-1)≤10 then firstI (k.line (slip (k.num w) i (if more then pnAt (k.num w) i+1 else pnAt (k.num w) i-1))) else -1
def quadP(pu:Nat→Nat)(P:Int)(i:Nat):Int×Int×Int×Int:=((pu i:Nat),(pu i:Nat),P,P)
def quadsP(pu:Nat→Nat)(P:Int)(n:Nat):List Value:=quadsV ((List.range n).map (quadP pu P))
theorem quadsP_succ(pu:Nat→Nat)(P:Int)(n:Nat):quadsP pu P (n+1)=quadsP pu P n++quadV ((pu n:Nat),(pu n:Nat),P,P):=by
 unfold quadsP
 rw[List.range_succ,List.map_append,quadsV_app]
 rfl
theorem dialP_trains(k:Bk){n:Nat}{pu:Nat→Nat}{P:Int}{H:View}(g:Gl 47 4)(h:∀x∈g.bl,H x.1=some x.2)(hn:g.n=n)(hl:g.l=quadsP pu P n):TrainsAt H (dialP k n pu P) (g.blk.map fun b=> ⟨b,0,none⟩) g.cap:=by
 have hQ:=quads_of g h (l:=(List.range n).map (quadP pu P)) hl
 refine⟨by have:=g.hc;show n≤_;omega,?_⟩
 rcases hQ with h0|⟨b,o,f,gs,gt,gz,h1,h2,h3⟩
 · exact .inl (by show n=0;have:=congrArg List.length h0;simpa using this)
 · refine .inr ⟨b,o,f,gs,gt,gz,h1,h2,fun i hi=> ?_⟩
   have hi':i<n:=hi
   exact h3 i (quadP pu P i) (by rw[List.getElem?_map,List.getElem?_range hi'];rfl)
section
variable(M:Md Tryz.prog)(H:View)
theorem slipped_c(k:Bk)(A:Option Addr)(lc:Nat)(B:Option Addr)(tc:Nat)(hk:BkAt H k A lc B tc)(hsm:k.small)(hG:Glob H)(hal:k.alarm=0)(w:Nat)(hw:w<k.nl)(i:Nat)(hi:i<(k.num w).length)(more:Bool):
   CallT M 76 #[k.val A lc B tc,.int .i64 (w:Nat),.int .i64 (i:Nat),.bool more] H (fun v H'=> H.le H'∧v=.int .i64 (k.slipTo w i more)):=by
 obtain⟨hgg,hnl6,_,_⟩:=Bk.valid hal
 have hnum:isNum (k.num w)=true:=(Bk.line_ok hal hw).2.2.1
 obtain⟨hdg,hl1,hl3⟩:=Bk.isNum_of hal hw
 obtain⟨hlc,hz|⟨ab,ao,fa,gs,gt,gz,rfl,hab,hrow⟩⟩:=id hk.rows
 · omega
 obtain⟨F,fc,f1,_,_⟩:=hrow w hw
 have f2:ldL false 1 gs (ao+((w:Nat):Int).toNat*3+1)=some (strV (k.num w)):=ldL_cell f1 (by decide)
 have hpa:=pnAt_in hdg i
 refine CallT.enter (vs:= [k.val (some ⟨ab,ao,none⟩) lc B tc,.int .i64 (w:Nat),.int .i64 (i:Nat),.bool more]) Tryz.func76 rfl Tryz.ntmps76 (Nat.le_of_ble_eq_true rfl) (SymSt.nil _) fun St c cs hK=> ?_
 refine .sr ?_
 refine .e (.bx (zz:=fun b4=> ?_))
 refine .g ?_
 refine .done (.seq ?_)
 refine Tc.dr [] [] mixed rfl ?_
 refine .q 0 rfl .fa ?_
 refine .q 1 rfl (.ld 0) ?_
 refine .q 2 rfl .mv ?_
 refine .q 3 rfl .ia ?_
 refine .q 4 rfl .fa ?_
 refine .q 5 rfl .l0 ?_
 refine .q 6 rfl .fa ?_
 refine .q 7 rfl (.ld 0) ?_
 refine Ta.callL 8 (by kernel_rfl) rfl rfl rfl rfl rfl rfl rfl (by decide) (FnT.f ca69 rfl (Trains_yes M H (k.num w) hnum k.gap (by omega))) (by intro _ _ hh;exact hh.1) (by exact List.Sublist.refl _) (.inr (by exact List.Sublist.refl _)) (fun v H₂ hv=> ?_)
 obtain⟨hle,g,rfl,⟨hgn,hgl⟩,hgb⟩:=hv
 have hT:=dial_trains k g (fun x hx=> (hgb x hx).1) hgn hgl
 have hgv:g.val=.slice (g.blk.map fun b=> ⟨b,0,none⟩) (k.num w).length g.cap:=by unfold Gl.val;rw[hgn]
 rw[hgv]
 generalize hG0:(g.blk.map fun b=> (⟨b,0,none⟩:Addr))=G at hT
 clear hgb hgv hG0
 generalize g.cap=gc at hT
 have hb2:=hle _ _ hab
 refine Ta.each [9] (by kernel_rfl) rfl ⟨TaOp.mk rfl rfl rfl (Or.ofV .mv rfl (by decide) ⟨S2.mkL (by assumption) (by exact List.Sublist.refl _) (.inr (by exact List.Sublist.refl _)),?_⟩),trivial⟩
 refine .q 10 rfl .et ?_
 refine .q 11 rfl .et ?_
 refine Ta.each [12] (by kernel_rfl) rfl ⟨TaOp.mk rfl rfl rfl (Or.ofV .sg rfl (by decide) ⟨S2.mkL (by assumption) (by exact List.Sublist.refl _) (.inr (by exact List.Sublist.refl _)),?_⟩),trivial⟩
 refine Ta.each [13] (by kernel_rfl) rfl ⟨TaOp.mk rfl rfl rfl (Or.ofV .sg rfl (by decide) ⟨S2.mkL (by assumption) (by exact List.Sublist.refl _) (.inr (by exact List.Sublist.refl _)),?_⟩),trivial⟩
 refine Ta.done (by kernel_rfl) ?_
 obtain⟨_,hz|⟨tb,to,tf,ts,tt,tz,rfl,htb,htrow⟩⟩:=hT
 · have:(k.num w).length=0:=hz
   omega
 have ft:∀j,j<(k.num w).length→ldL false 1 ts (to+((j:Nat):Int).toNat*4)=some (.int .i64 (pnAt (k.num w) j:Nat)):=fun j hj=> ldL_cell (d:=0) (htrow j hj) (by decide)
 have fi:=ft i hi
 obtain⟨m,hm⟩:∃m:Nat,(if more then pnAt (k.num w) i+1 else pnAt (k.num w) i-1)=m:=⟨_,rfl⟩
 have e0:k.slipTo w i more=if 1≤m∧m≤10 then firstI (k.line (slip (k.num w) i m)) else -1:=by unfold Bk.slipTo;rw[hm]
 rw[e0] at hK
 clear e0
 have e1:intBin .sub .i64 (pnAt (k.num w) i:Nat) 1=some (.int .i64 ((pnAt (k.num w) i-1:Nat):Int)):=by rw[sub_in (by omega) (by omega)];congr 2;omega
 refine .seq (.sr ?_)
 refine .m ?_
 refine .i ?_ (z:=neq_f (by omega))
 refine .m ?_
 refine .m ?_
 refine .x .ln ?_
 refine .x .fa ?_
 refine .x (.ld 0) ?_
 refine .m ?_
 refine .x .ia ?_
 refine .x .fa ?_
 refine .x .l0 ?_
 refine .x (OpV.lenS (E:=en) rfl rfl rfl rfl rfl rfl rfl) ?_
 refine .i ?_ (z:=neq_f (by omega))
 refine .x .pk ?_
 refine .done (.ff rfl (.skip (.sr ?_)))
 refine .m ?_
 refine .m ?_
 refine .x .ia ?_
 refine .x .fa ?_
 refine .x .fa ?_
 refine .x .l0 ?_
 refine .i ?_ (z:=by assumption)
 refine .g ?_
 refine .done (.seq ?_)
 refine Tc.via (fun R' L'=> AllIn [(2,.int .i64 (i:Nat)),(4,.pointer (some ⟨b4,0,none⟩)),(9,.slice (some ⟨tb,to,none⟩) (k.num w).length gc),(11,.int .i64 (m:Nat))] R'∧List.Sublist [(b4,true,.cells ⟨(k.val (some ⟨ab,ao,none⟩) lc B tc).cells.toList⟩ 25 (0,0))] L') ?_ (fun fin=> ?_)
 rotate_left
 · cases more with
   | false=>
     obtain rfl:pnAt (k.num w) i-1=m:=hm
     refine .sr ?_
     refine .m ?_
     refine .done (.ff rfl (.skip ?_))
     exact fin _ _ ⟨⟨rfl,rfl,rfl,rfl,trivial⟩,(by exact List.Sublist.refl _)⟩
   | true=>
     have e2:intBin .add .i64 ((pnAt (k.num w) i-1:Nat):Int) 2=some (.int .i64 (m:Nat)):=by rw[add_in (by omega) (by omega),←hm];congr 2;simp only[if_true];omega
     refine .sr ?_
     refine .m ?_
     refine .done (.tt rfl (.r ?_))
     refine .m ?_
     refine .i ?_ (z:=by assumption)
     refine .g ?_
     refine .done ?_
     exact fin _ _ ⟨⟨rfl,rfl,rfl,rfl,trivial⟩,(by exact List.Sublist.refl _)⟩
 rintro R' L' ⟨hR,hL⟩
 refine Tc.dropB (R':= [(2,.int .i64 (i:Nat)),(4,.pointer (some ⟨b4,0,none⟩)),(9,.slice (some ⟨tb,to,none⟩) (k.num w).length gc),(11,.int .i64 (m:Nat))]) (L':= [(b4,true,.cells ⟨(k.val (some ⟨ab,ao,none⟩) lc B tc).cells.toList⟩ 25 (0,0))]) ?_ hR hL
 clear hR hL hm e1
 by_cases c1:1≤m∧m≤10
 · rw[if_pos c1] at hK
   refine .seq (.sr ?_)
   refine .m ?_
   refine .c rfl rfl rfl rfl (fun H hs=> .f ca44 rfl (In_c M H (m:Nat) 1 10 true (decide_eq_true (by omega)))) ?_
   refine .x .nt ?_
   refine .done (.ff rfl (.skip (.sr ?_)))
   refine .g ?_
   refine .g ?_
   refine .done (.sr ?_)
   refine .x (.ld 0) ?_
   refine .e (.al (zz:=fun b14=> ?_))
   refine .e (.st 0 (zz:=?_))
   refine .done (.sr ?_)
   refine .x .fa ?_
   refine .e (.st 0 (zz:=?_))
   refine .done (.seq (.sr ?_))
   refine .g ?_
   refine .done (.block ?_)
   obtain⟨pu,hpu⟩:∃pu,slipPu (k.num w) i m=pu:=⟨_,rfl⟩
   have hpin:∀j,j<(k.num w).length→1≤pu j∧pu j≤10:=fun j hj=> by
     have:=pnAt_in hdg j
     rw[←hpu]
     unfold slipPu
     split <;> omega
   refine Tc.db (Tc.loopInv (σ:= { x:Nat×Gl 47 4×Gl 3 1×Gl 3 1//x.1≤(k.num w).length∧(x.2.1.n=x.1∧x.2.1.l=quadsP pu k.gap x.1)∧(x.2.2.1.n=x.1∧x.2.2.1.l=clL (fun j=> (pu j:Nat)) x.1)∧(x.2.2.2.n=x.1∧x.2.2.2.l=clL (fun _=> k.gap) x.1) }) (fun x=> ([(2,.int .i64 (i:Nat)),(4,.pointer (some ⟨b4,0,none⟩)),(9,.slice (some ⟨tb,to,none⟩) (k.num w).length gc),(11,.int .i64 (m:Nat)),(12,x.1.2.2.1.val),(13,x.1.2.2.2.val),(14,.pointer (some ⟨b14,0,none⟩)),(15,.int .i64 (x.1.1:Nat))],((b14,true,.cells ⟨[.int .i64 k.gap,.int .i64 k.give,.slice (some ⟨ab,ao,none⟩) k.nl lc,x.1.2.1.val]⟩ 25 (0,0))::(b4,true,.cells ⟨(k.val (some ⟨ab,ao,none⟩) lc B tc).cells.toList⟩ 25 (0,0))::(x.1.2.1.bl++(x.1.2.2.1.bl++x.1.2.2.2.bl))))) (fun x=> (k.num w).length-x.1.1) ?_ ⟨(0,Gl.nil 47 4,Gl.nil 3 1,Gl.nil 3 1),Nat.zero_le _,⟨rfl,rfl⟩,⟨rfl,rfl⟩,⟨rfl,rfl⟩⟩)
   rintro⟨⟨j,g1,g2,g3⟩,hj,⟨n1,l1⟩,⟨n2,l2⟩,⟨n3,l3⟩⟩ ih
   simp only at hj n1 l1 n2 l2 n3 l3
   show Tc M St _ _ _ _ [(2,.int .i64 (i:Nat)),(4,.pointer (some ⟨b4,0,none⟩)),(9,.slice (some ⟨tb,to,none⟩) (k.num w).length gc),(11,.int .i64 (m:Nat)),(12,g2.val),(13,g3.val),(14,.pointer (some ⟨b14,0,none⟩)),(15,.int .i64 (j:Nat))] ((b14,true,.cells ⟨[.int .i64 k.gap,.int .i64 k.give,.slice (some ⟨ab,ao,none⟩) k.nl lc,g1.val]⟩ 25 (0,0))::(b4,true,.cells ⟨(k.val (some ⟨ab,ao,none⟩) lc B tc).cells.toList⟩ 25 (0,0))::(g1.bl++(g2.bl++g3.bl))) _ _
   by_cases d1:j=(k.num w).length
   · clear ih
     subst d1
     have hgv1:g1.val=.slice (g1.blk.map fun b=> ⟨b,0,none⟩) (k.num w).length g1.cap:=by unfold Gl.val;rw[n1]
     have hgv2:g2.val=.slice (g2.blk.map fun b=> ⟨b,0,none⟩) (k.num w).length g2.cap:=by unfold Gl.val;rw[n2]
     have hgv3:g3.val=.slice (g3.blk.map fun b=> ⟨b,0,none⟩) (k.num w).length g3.cap:=by unfold Gl.val;rw[n3]
     have hs1:(List.range (k.num w).length).map (fun j=> digB (pu j))=slip (k.num w) i m:=by rw[←hpu];exact slipPu_map hdg hi m
     have hfw:(dialP k (k.num w).length pu k.gap).followV (k.num w).length (k.num w).length (fun i=> (pu i:Nat)) (fun _=> k.gap)=follow3 (slip (k.num w) i m) (firstI (k.line (slip (k.num w) i m))) 0:=by
       rw[dialP_follow hal (by omega) hpin (by omega) (by omega),hs1]
     have hfol:=fun(H':View) (h1:H₂.le H') (hT:TrainsAt H' (dialP k (k.num w).length pu k.gap) (g1.blk.map fun b=> ⟨b,0,none⟩) g1.cap) (h2:FreeAt H' (g2.blk.map fun b=> ⟨b,0,none⟩) (k.num w).length (fun i=> (pu i:Nat))) (h3:FreeAt H' (g3.blk.map fun b=> ⟨b,0,none⟩) (k.num w).length (fun _=> k.gap))=>
       isV (Follow_c M H' (dialP k (k.num w).length pu k.gap) (some ⟨ab,ao,none⟩) lc (g1.blk.map fun b=> ⟨b,0,none⟩) g1.cap ⟨hk.rows.le (View.le_trans hle h1),hT⟩ ⟨hsm.nl,by show(k.num w).length≤1000;omega,hsm.num⟩ (glob_le hG (View.le_trans hle h1)) _ _ _ _ g2.cap g3.cap _ _ h2 h3) hfw
     have hz1: -1≤firstI (k.line (slip (k.num w) i m)):=by cases k.line (slip (k.num w) i m) with|none=> exact Int.le_refl _|some x=> show(-1:Int)≤(x:Nat);omega
     generalize firstI (k.line (slip (k.num w) i m))=z at hfol hK hz1
     clear hfw
     have hm1:∀x∈g1.bl,x∈((b14,true,.cells ⟨[.int .i64 k.gap,.int .i64 k.give,.slice (some ⟨ab,ao,none⟩) k.nl lc,g1.val]⟩ 25 (0,0))::(b4,true,.cells ⟨(k.val (some ⟨ab,ao,none⟩) lc B tc).cells.toList⟩ 25 (0,0))::(g1.bl++(g2.bl++g3.bl)):Bl):=fun x hx=> by simp[hx]
     have hm2:∀x∈g2.bl,x∈((b14,true,.cells ⟨[.int .i64 k.gap,.int .i64 k.give,.slice (some ⟨ab,ao,none⟩) k.nl lc,g1.val]⟩ 25 (0,0))::(b4,true,.cells ⟨(k.val (some ⟨ab,ao,none⟩) lc B tc).cells.toList⟩ 25 (0,0))::(g1.bl++(g2.bl++g3.bl)):Bl):=fun x hx=> by simp[hx]
     have hm3:∀x∈g3.bl,x∈((b14,true,.cells ⟨[.int .i64 k.gap,.int .i64 k.give,.slice (some ⟨ab,ao,none⟩) k.nl lc,g1.val]⟩ 25 (0,0))::(b4,true,.cells ⟨(k.val (some ⟨ab,ao,none⟩) lc B tc).cells.toList⟩ 25 (0,0))::(g1.bl++(g2.bl++g3.bl)):Bl):=fun x hx=> by simp[hx]
     rw[hgv1] at hm1 hm2 hm3
     rw[hgv1,hgv2,hgv3]
     refine .seq (.sr ?_)
     refine .m ?_
     refine .m ?_
     refine .x .ln ?_
     refine .i ?_ (z:=lss_f (by omega))
     refine .done (.ff rfl (.exit rfl (.sr ?_)))
     refine .x (.ld 0) ?_
     refine .m ?_
     refine .m ?_
     refine .c rfl rfl rfl rfl (fun H hs=> .f ca19 rfl (hfol H hs.base (dialP_trains k g1 (fun x hx=> hs.at_ x (hm1 x hx)) n1 l1) (cl_at g2 (fun x hx=> hs.at_ x (hm2 x hx)) l2 n2) (cl_at g3 (fun x hx=> hs.at_ x (hm3 x hx)) l3 n3))) ?_
     refine .m ?_
     refine .x .et ?_
     refine .x .et ?_
     refine .x .et ?_
     refine .g ?_
     refine .g ?_
     refine .g ?_
     refine .done (.seq (.sr ?_))
     refine .m ?_
     refine .i ?_ (z:=neq_f (by omega))
     refine .m ?_
     refine .m ?_
     refine .i ?_ (z:=lss_f (by omega))
     refine .x .pk ?_
     refine .done (.ff rfl (.skip (.sr ?_)))
     refine .m ?_
     refine .g ?_
     refine .done ?_
     refine .rt hK Tryz.func76 Tryz.results76 [_] ?_
     exact fun H' hs=> ⟨View.le_trans hle hs.base,rfl⟩
   · have d2 : j<(k.num w).length:=by omega
     have fj:=ft j d2
     refine .seq (.sr ?_)
     refine .m ?_
     refine .m ?_
     refine .x .ln ?_
     refine .i ?_ (z:=lss_t (by omega))
     refine .done (.tt rfl (.skip (.seq (.block (.sr ?_)))))
     refine .m ?_
     refine .m ?_
     refine .x .ia ?_
     refine .x .fa ?_
     refine .x .fa ?_
     refine .x .l0 ?_
     refine .g ?_
     refine .done (.seq ?_)
     refine Tc.via (fun R' L'=> AllIn [(2,.int .i64 (i:Nat)),(4,.pointer (some ⟨b4,0,none⟩)),(9,.slice (some ⟨tb,to,none⟩) (k.num w).length gc),(11,.int .i64 (m:Nat)),(12,g2.val),(13,g3.val),(14,.pointer (some ⟨b14,0,none⟩)),(15,.int .i64 (j:Nat)),(16,.int .i64 (pu j:Nat))] R'∧List.Sublist ((b14,true,.cells ⟨[.int .i64 k.gap,.int .i64 k.give,.slice (some ⟨ab,ao,none⟩) k.nl lc,g1.val]⟩ 25 (0,0))::(b4,true,.cells ⟨(k.val (some ⟨ab,ao,none⟩) lc B tc).cells.toList⟩ 25 (0,0))::(g1.bl++(g2.bl++g3.bl))) L') ?_ (fun fin=> ?_)
     rotate_left
     · by_cases d3:j=i
       · have e3:pu j=m:=by rw[←hpu];exact if_pos d3
         rw[e3] at fin
         refine .sr ?_
         refine .m ?_
         refine .m ?_
         refine .i ?_ (z:=eql_t (by omega))
         refine .done (.tt rfl (.r ?_))
         refine .m ?_
         refine .g ?_
         refine .done ?_
         exact fin _ _ ⟨⟨rfl,rfl,rfl,rfl,rfl,rfl,rfl,rfl,rfl,trivial⟩,(by exact List.Sublist.refl _)⟩
       · have e3:pu j=pnAt (k.num w) j:=by rw[←hpu];exact if_neg d3
         rw[e3] at fin
         refine .sr ?_
         refine .m ?_
         refine .m ?_
         refine .i ?_ (z:=eql_f (by omega))
         refine .done (.ff rfl (.skip ?_))
         exact fin _ _ ⟨⟨rfl,rfl,rfl,rfl,rfl,rfl,rfl,rfl,rfl,trivial⟩,(by exact List.Sublist.refl _)⟩
     rintro R' L' ⟨hR,hL⟩
     refine Tc.dropB (R':= [(2,.int .i64 (i:Nat)),(4,.pointer (some ⟨b4,0,none⟩)),(9,.slice (some ⟨tb,to,none⟩) (k.num w).length gc),(11,.int .i64 (m:Nat)),(12,g2.val),(13,g3.val),(14,.pointer (some ⟨b14,0,none⟩)),(15,.int .i64 (j:Nat)),(16,.int .i64 (pu j:Nat))]) (L':=((b14,true,.cells ⟨[.int .i64 k.gap,.int .i64 k.give,.slice (some ⟨ab,ao,none⟩) k.nl lc,g1.val]⟩ 25 (0,0))::(b4,true,.cells ⟨(k.val (some ⟨ab,ao,none⟩) lc B tc).cells.toList⟩ 25 (0,0))::(g1.bl++(g2.bl++g3.bl)))) ?_ hR hL
     clear hR hL
     refine Tc.via (fun R' L'=> ∃(a1:Gl 47 4) (a2 a3:Gl 3 1),((a1.n=j+1∧a1.l=quadsP pu k.gap (j+1))∧(a2.n=j+1∧a2.l=clL (fun j=> (pu j:Nat)) (j+1))∧(a3.n=j+1∧a3.l=clL (fun _=> k.gap) (j+1)))∧AllIn [(2,.int .i64 (i:Nat)),(4,.pointer (some ⟨b4,0,none⟩)),(9,.slice (some ⟨tb,to,none⟩) (k.num w).length gc),(11,.int .i64 (m:Nat)),(12,a2.val),(13,a3.val),(14,.pointer (some ⟨b14,0,none⟩)),(15,.int .i64 (j:Nat))] R'∧List.Sublist ((b14,true,.cells ⟨[.int .i64 k.gap,.int .i64 k.give,.slice (some ⟨ab,ao,none⟩) k.nl lc,a1.val]⟩ 25 (0,0))::(b4,true,.cells ⟨(k.val (some ⟨ab,ao,none⟩) lc B tc).cells.toList⟩ 25 (0,0))::(a1.bl++(a2.bl++a3.bl))) L') ?_ (fun fin=> ?_)
     · rintro R' L' ⟨a1,a2,a3,⟨p1,p2,p3⟩,hR,hL⟩
       refine Tc.dropB (R':= [(2,.int .i64 (i:Nat)),(4,.pointer (some ⟨b4,0,none⟩)),(9,.slice (some ⟨tb,to,none⟩) (k.num w).length gc),(11,.int .i64 (m:Nat)),(12,a2.val),(13,a3.val),(14,.pointer (some ⟨b14,0,none⟩)),(15,.int .i64 (j:Nat))]) (L':=((b14,true,.cells ⟨[.int .i64 k.gap,.int .i64 k.give,.slice (some ⟨ab,ao,none⟩) k.nl lc,a1.val]⟩ 25 (0,0))::(b4,true,.cells ⟨(k.val (some ⟨ab,ao,none⟩) lc B tc).cells.toList⟩ 25 (0,0))::(a1.bl++(a2.bl++a3.bl)))) ?_ hR hL
       refine .inBlock (.r ?_)
       refine .m ?_
       refine .i ?_ (z:=add_in (by omega) (by omega))
       refine .g ?_
       refine .done ?_
       exact Tc.db (ih ⟨(j+1,a1,a2,a3),by simp only;omega,p1,p2,p3⟩ (by simp only;omega))
     · refine Tc.drT [7,11,16,18] [] [0] 2 mixed rfl ?_
       refine Ta.tkC 0 (by kernel_rfl) rfl rfl (by decide) rfl rfl (OpV.take .fa) ?_
       refine Ta.tkC 1 (by kernel_rfl) rfl rfl (by decide) rfl rfl (OpV.take (.ld 0)) ?_
       refine Ta.tkC 2 (by kernel_rfl) rfl rfl (by decide) rfl rfl (OpV.take .mv) ?_
       refine Ta.tkC 3 (by kernel_rfl) rfl rfl (by decide) rfl rfl (OpV.take .fa) ?_
       refine Ta.tkC 4 (by kernel_rfl) rfl rfl (by decide) rfl rfl (OpV.take (.ld 1)) ?_
       refine Ta.tkC 5 (by kernel_rfl) rfl rfl (by decide) rfl rfl (OpV.takeCall rfl rfl rfl rfl (fun H hs=> .f ca79 rfl (train_c M H (pu j:Nat) k.gap))) ?_
       refine Ta.tkwC 8 (by kernel_rfl) rfl rfl rfl (by decide) rfl rfl (OpV.take .mv) ?_
       refine Ta.tkwC 9 (by kernel_rfl) rfl rfl rfl (by decide) rfl rfl (OpV.take .mv) ?_
       refine Ta.tkwC 12 (by kernel_rfl) rfl rfl rfl (by decide) rfl rfl (OpV.take .mv) ?_
       refine Ta.tkwC 13 (by kernel_rfl) rfl rfl rfl (by decide) rfl rfl (OpV.take .fa) ?_
       refine Ta.tkwC 14 (by kernel_rfl) rfl rfl rfl (by decide) rfl rfl (OpV.take (.ld 0)) ?_
       refine Ta.each [6,10,15] (by kernel_rfl) rfl ⟨TaOp.mk rfl rfl rfl (.bs (zz:=fun bs1=> ⟨S3.mk (by apply List.Sublist.cons;apply List.Sublist.cons;exact List.sublist_append_left _ _) (.inr (by apply List.Sublist.cons;exact List.Sublist.refl _)),?_⟩)),TaOp.mk rfl rfl rfl (.bs (zz:=fun bs2=> ⟨S3.mk (by apply List.Sublist.cons;apply List.Sublist.cons;exact List.sublist_append_left _ _) (.inr (by apply List.Sublist.cons;exact List.Sublist.refl _)),?_⟩)),TaOp.mk rfl rfl rfl (.bs (zz:=fun bs3=> ⟨S3.mk (by apply List.Sublist.cons;apply List.Sublist.cons;exact List.sublist_append_left _ _) (.inr (by apply List.Sublist.cons;exact List.Sublist.refl _)),?_⟩)),trivial⟩
       · refine Ta.each [7,10,15] (by kernel_rfl) rfl ⟨TaOp.mk rfl rfl rfl (Or.appendAmid (E:=en) (g:=g1) (m:=1) (new:= [.int .i64 (pu j:Nat),.int .i64 (pu j:Nat),.int .i64 k.gap,.int .i64 k.gap]) (yv:=.slice (some ⟨bs1,0,none⟩) 1 1) 3 (fun B=> B++(g2.bl++g3.bl)) (in_one _) rfl rfl rfl rfl rfl rfl rfl rfl rfl rfl rfl rfl rfl rfl rfl (fun H hs=> SrcAt.of (show H bs1=some (true,.cells ⟨[.int .i64 (pu j:Nat),.int .i64 (pu j:Nat),.int .i64 k.gap,.int .i64 k.gap]⟩ 47 (0,0)) from by exact hs.get (i:=0) rfl) (Nat.le_of_ble_eq_true rfl)) rfl (by omega) rfl (by decide) (fun a1 m1 q1=> ⟨S3.mk (by apply List.Sublist.cons;apply List.Sublist.cons;exact List.sublist_append_left _ _) (.inl (by kernel_rfl)),?_⟩)),TaOp.mk rfl rfl rfl (.bs (zz:=fun bs2=> ⟨S3.mk (by apply List.Sublist.cons;apply List.Sublist.cons;apply List.Sublist.cons;exact List.sublist_append_left _ _) (.inr (by apply List.Sublist.cons;apply List.Sublist.cons;exact List.Sublist.refl _)),?_⟩)),TaOp.mk rfl rfl rfl (.bs (zz:=fun bs3=> ⟨S3.mk (by apply List.Sublist.cons;apply List.Sublist.cons;apply List.Sublist.cons;exact List.sublist_append_left _ _) (.inr (by apply List.Sublist.cons;apply List.Sublist.cons;exact List.Sublist.refl _)),?_⟩)),trivial⟩
         · refine Ta.tkwC 17 (by kernel_rfl) rfl rfl rfl (by decide) rfl rfl (OpV.take .fa) ?_
           refine Ta.each [10,15] (by kernel_rfl) rfl ⟨TaOp.mk rfl rfl rfl (.bs (zz:=fun bs2=> ⟨S3.mk (by apply List.Sublist.cons;apply List.Sublist.cons;apply List.Sublist.cons;exact List.sublist_append_left _ _) (.inl (by kernel_rfl)),?_⟩)),TaOp.mk rfl rfl rfl (.bs (zz:=fun bs3=> ⟨S3.mk (by apply List.Sublist.cons;apply List.Sublist.cons;apply List.Sublist.cons;exact List.sublist_append_left _ _) (.inl (by kernel_rfl)),?_⟩)),trivial⟩
           · refine Ta.each [11,15] (by kernel_rfl) rfl ⟨TaOp.mk rfl rfl rfl (Or.appendAmid (E:=en) (g:=g2) (m:=1) (new:= [.int .i64 (pu j:Nat)]) (yv:=.slice (some ⟨bs2,0,none⟩) 1 1) 4 (fun B=> a1.bl++(B++g3.bl)) (in_mid _ _) rfl rfl rfl rfl rfl rfl rfl rfl rfl rfl rfl rfl rfl rfl rfl (fun H hs=> SrcAt.of (show H bs2=some (true,.cells ⟨[.int .i64 (pu j:Nat)]⟩ 3 (0,0)) from by exact hs.get (i:=0) rfl) (Nat.le_of_ble_eq_true rfl)) rfl (by omega) rfl (by decide) (fun a2 m2 q2=> ⟨S3.mk (by apply List.Sublist.cons;apply List.Sublist.cons;apply List.Sublist.cons;exact List.sublist_append_left _ _) (.inl (by kernel_rfl)),?_⟩)),TaOp.mk rfl rfl rfl (.bs (zz:=fun bs3=> ⟨S3.mk (by apply List.Sublist.cons;apply List.Sublist.cons;apply List.Sublist.cons;apply List.Sublist.cons;exact List.sublist_append_left _ _) (.inl (by kernel_rfl)),?_⟩)),trivial⟩
             · refine Ta.each [15] (by kernel_rfl) rfl ⟨TaOp.mk rfl rfl rfl (.bs (zz:=fun bs3=> ⟨S3.mk (by apply List.Sublist.cons;apply List.Sublist.cons;apply List.Sublist.cons;apply List.Sublist.cons;exact List.sublist_append_left _ _) (.inl (by kernel_rfl)),?_⟩)),trivial⟩
               refine Ta.each [16] (by kernel_rfl) rfl ⟨TaOp.mk rfl rfl rfl (Or.appendAmid (E:=en) (g:=g3) (m:=1) (new:= [.int .i64 k.gap]) (yv:=.slice (some ⟨bs3,0,none⟩) 1 1) 5 (fun B=> a1.bl++(a2.bl++B)) (in_last _ _) rfl rfl rfl rfl rfl rfl rfl rfl rfl rfl rfl rfl rfl rfl rfl (fun H hs=> SrcAt.of (show H bs3=some (true,.cells ⟨[.int .i64 k.gap]⟩ 3 (0,0)) from by exact hs.get (i:=0) rfl) (Nat.le_of_ble_eq_true rfl)) rfl (by omega) rfl (by decide) (fun a3 m3 q3=> ⟨S3.mk (by apply List.Sublist.cons;apply List.Sublist.cons;apply List.Sublist.cons;apply List.Sublist.cons;exact List.sublist_append_left _ _) (.inl (by kernel_rfl)),?_⟩)),trivial⟩
               refine Ta.each [18] (by kernel_rfl) rfl ⟨TaOp.mk rfl rfl rfl (.st 3 (zz:=⟨S3.mk (by apply List.Sublist.cons;apply List.Sublist.cons;apply List.Sublist.cons;apply List.Sublist.cons;exact List.sublist_append_left _ _) (.inl (by kernel_rfl)),?_⟩)),trivial⟩
               refine Ta.tkwC 19 (by kernel_rfl) rfl rfl rfl (by decide) rfl rfl (OpV.take .sg) ?_
               refine Ta.tkwC 20 (by kernel_rfl) rfl rfl rfl (by decide) rfl rfl (OpV.take .sg) ?_
               refine Ta.done (by kernel_rfl) ?_
               exact fin _ _ ⟨a1,a2,a3,⟨⟨by rw[m1,n1],by rw[q1,l1,quadsP_succ];rfl⟩,⟨by rw[m2,n2],by rw[q2,l2,clL_succ]⟩,⟨by rw[m3,n3],by rw[q3,l3,clL_succ]⟩⟩,⟨rfl,rfl,rfl,rfl,rfl,rfl,rfl,rfl,trivial⟩,(by apply List.Sublist.cons;apply List.Sublist.cons;apply List.Sublist.cons;exact List.Sublist.refl _)⟩
             · refine Ta.each [11] (by kernel_rfl) rfl ⟨TaOp.mk rfl rfl rfl (Or.appendAmid (E:=en) (g:=g2) (m:=1) (new:= [.int .i64 (pu j:Nat)]) (yv:=.slice (some ⟨bs2,0,none⟩) 1 1) 5 (fun B=> a1.bl++(B++g3.bl)) (in_mid _ _) rfl rfl rfl rfl rfl rfl rfl rfl rfl rfl rfl rfl rfl rfl rfl (fun H hs=> SrcAt.of (show H bs2=some (true,.cells ⟨[.int .i64 (pu j:Nat)]⟩ 3 (0,0)) from by exact hs.get (i:=1) rfl) (Nat.le_of_ble_eq_true rfl)) rfl (by omega) rfl (by decide) (fun a2 m2 q2=> ⟨S3.mk (by apply List.Sublist.cons;apply List.Sublist.cons;apply List.Sublist.cons;apply List.Sublist.cons;exact List.sublist_append_left _ _) (.inl (by kernel_rfl)),?_⟩)),trivial⟩
               refine Ta.each [16] (by kernel_rfl) rfl ⟨TaOp.mk rfl rfl rfl (Or.appendAmid (E:=en) (g:=g3) (m:=1) (new:= [.int .i64 k.gap]) (yv:=.slice (some ⟨bs3,0,none⟩) 1 1) 5 (fun B=> a1.bl++(a2.bl++B)) (in_last _ _) rfl rfl rfl rfl rfl rfl rfl rfl rfl rfl rfl rfl rfl rfl rfl (fun H hs=> SrcAt.of (show H bs3=some (true,.cells ⟨[.int .i64 k.gap]⟩ 3 (0,0)) from by exact hs.get (i:=0) rfl) (Nat.le_of_ble_eq_true rfl)) rfl (by omega) rfl (by decide) (fun a3 m3 q3=> ⟨S3.mk (by apply List.Sublist.cons;apply List.Sublist.cons;apply List.Sublist.cons;apply List.Sublist.cons;exact List.sublist_append_left _ _) (.inl (by kernel_rfl)),?_⟩)),trivial⟩
               refine Ta.each [18] (by kernel_rfl) rfl ⟨TaOp.mk rfl rfl rfl (.st 3 (zz:=⟨S3.mk (by apply List.Sublist.cons;apply List.Sublist.cons;apply List.Sublist.cons;apply List.Sublist.cons;exact List.sublist_append_left _ _) (.inl (by kernel_rfl)),?_⟩)),trivial⟩
               refine Ta.tkwC 19 (by kernel_rfl) rfl rfl rfl (by decide) rfl rfl (OpV.take .sg) ?_
               refine Ta.tkwC 20 (by kernel_rfl) rfl rfl rfl (by decide) rfl rfl (OpV.take .sg) ?_
               refine Ta.done (by kernel_rfl) ?_
               exact fin _ _ ⟨a1,a2,a3,⟨⟨by rw[m1,n1],by rw[q1,l1,quadsP_succ];rfl⟩,⟨by rw[m2,n2],by rw[q2,l2,clL_succ]⟩,⟨by rw[m3,n3],by rw[q3,l3,clL_succ]⟩⟩,⟨rfl,rfl,rfl,rfl,rfl,rfl,rfl,rfl,trivial⟩,(by apply List.Sublist.cons;apply List.Sublist.cons;apply List.Sublist.cons;exact List.Sublist.refl _)⟩
           · refine Ta.each [10] (by kernel_rfl) rfl ⟨TaOp.mk rfl rfl rfl (.bs (zz:=fun bs2=> ⟨S3.mk (by apply List.Sublist.cons;apply List.Sublist.cons;apply List.Sublist.cons;apply List.Sublist.cons;exact List.sublist_append_left _ _) (.inl (by kernel_rfl)),?_⟩)),trivial⟩
             refine Ta.each [11] (by kernel_rfl) rfl ⟨TaOp.mk rfl rfl rfl (Or.appendAmid (E:=en) (g:=g2) (m:=1) (new:= [.int .i64 (pu j:Nat)]) (yv:=.slice (some ⟨bs2,0,none⟩) 1 1) 5 (fun B=> a1.bl++(B++g3.bl)) (in_mid _ _) rfl rfl rfl rfl rfl rfl rfl rfl rfl rfl rfl rfl rfl rfl rfl (fun H hs=> SrcAt.of (show H bs2=some (true,.cells ⟨[.int .i64 (pu j:Nat)]⟩ 3 (0,0)) from by exact hs.get (i:=0) rfl) (Nat.le_of_ble_eq_true rfl)) rfl (by omega) rfl (by decide) (fun a2 m2 q2=> ⟨S3.mk (by apply List.Sublist.cons;apply List.Sublist.cons;apply List.Sublist.cons;apply List.Sublist.cons;exact List.sublist_append_left _ _) (.inl (by kernel_rfl)),?_⟩)),trivial⟩
             refine Ta.each [16] (by kernel_rfl) rfl ⟨TaOp.mk rfl rfl rfl (Or.appendAmid (E:=en) (g:=g3) (m:=1) (new:= [.int .i64 k.gap]) (yv:=.slice (some ⟨bs3,0,none⟩) 1 1) 5 (fun B=> a1.bl++(a2.bl++B)) (in_last _ _) rfl rfl rfl rfl rfl rfl rfl rfl rfl rfl rfl rfl rfl rfl rfl (fun H hs=> SrcAt.of (show H bs3=some (true,.cells ⟨[.int .i64 k.gap]⟩ 3 (0,0)) from by exact hs.get (i:=1) rfl) (Nat.le_of_ble_eq_true rfl)) rfl (by omega) rfl (by decide) (fun a3 m3 q3=> ⟨S3.mk (by apply List.Sublist.cons;apply List.Sublist.cons;apply List.Sublist.cons;apply List.Sublist.cons;exact List.sublist_append_left _ _) (.inl (by kernel_rfl)),?_⟩)),trivial⟩
             refine Ta.each [18] (by kernel_rfl) rfl ⟨TaOp.mk rfl rfl rfl (.st 3 (zz:=⟨S3.mk (by apply List.Sublist.cons;apply List.Sublist.cons;apply List.Sublist.cons;apply List.Sublist.cons;exact List.sublist_append_left _ _) (.inl (by kernel_rfl)),?_⟩)),trivial⟩
             refine Ta.tkwC 19 (by kernel_rfl) rfl rfl rfl (by decide) rfl rfl (OpV.take .sg) ?_
             refine Ta.tkwC 20 (by kernel_rfl) rfl rfl rfl (by decide) rfl rfl (OpV.take .sg) ?_
             refine Ta.done (by kernel_rfl) ?_
             exact fin _ _ ⟨a1,a2,a3,⟨⟨by rw[m1,n1],by rw[q1,l1,quadsP_succ];rfl⟩,⟨by rw[m2,n2],by rw[q2,l2,clL_succ]⟩,⟨by rw[m3,n3],by rw[q3,l3,clL_succ]⟩⟩,⟨rfl,rfl,rfl,rfl,rfl,rfl,rfl,rfl,trivial⟩,(by apply List.Sublist.cons;apply List.Sublist.cons;apply List.Sublist.cons;exact List.Sublist.refl _)⟩
         · refine Ta.each [7,15] (by kernel_rfl) rfl ⟨TaOp.mk rfl rfl rfl (Or.appendAmid (E:=en) (g:=g1) (m:=1) (new:= [.int .i64 (pu j:Nat),.int .i64 (pu j:Nat),.int .i64 k.gap,.int .i64 k.gap]) (yv:=.slice (some ⟨bs1,0,none⟩) 1 1) 4 (fun B=> B++(g2.bl++g3.bl)) (in_one _) rfl rfl rfl rfl rfl rfl rfl rfl rfl rfl rfl rfl rfl rfl rfl (fun H hs=> SrcAt.of (show H bs1=some (true,.cells ⟨[.int .i64 (pu j:Nat),.int .i64 (pu j:Nat),.int .i64 k.gap,.int .i64 k.gap]⟩ 47 (0,0)) from by exact hs.get (i:=1) rfl) (Nat.le_of_ble_eq_true rfl)) rfl (by omega) rfl (by decide) (fun a1 m1 q1=> ⟨S3.mk (by apply List.Sublist.cons;apply List.Sublist.cons;apply List.Sublist.cons;exact List.sublist_append_left _ _) (.inl (by kernel_rfl)),?_⟩)),TaOp.mk rfl rfl rfl (.bs (zz:=fun bs3=> ⟨S3.mk (by apply List.Sublist.cons;apply List.Sublist.cons;apply List.Sublist.cons;apply List.Sublist.cons;exact List.sublist_append_left _ _) (.inr (by apply List.Sublist.cons;apply List.Sublist.cons;apply List.Sublist.cons;exact List.Sublist.refl _)),?_⟩)),trivial⟩
           · refine Ta.tkwC 17 (by kernel_rfl) rfl rfl rfl (by decide) rfl rfl (OpV.take .fa) ?_
             refine Ta.each [11,15] (by kernel_rfl) rfl ⟨TaOp.mk rfl rfl rfl (Or.appendAmid (E:=en) (g:=g2) (m:=1) (new:= [.int .i64 (pu j:Nat)]) (yv:=.slice (some ⟨bs2,0,none⟩) 1 1) 4 (fun B=> a1.bl++(B++g3.bl)) (in_mid _ _) rfl rfl rfl rfl rfl rfl rfl rfl rfl rfl rfl rfl rfl rfl rfl (fun H hs=> SrcAt.of (show H bs2=some (true,.cells ⟨[.int .i64 (pu j:Nat)]⟩ 3 (0,0)) from by exact hs.get (i:=0) rfl) (Nat.le_of_ble_eq_true rfl)) rfl (by omega) rfl (by decide) (fun a2 m2 q2=> ⟨S3.mk (by apply List.Sublist.cons;apply List.Sublist.cons;apply List.Sublist.cons;exact List.sublist_append_left _ _) (.inl (by kernel_rfl)),?_⟩)),TaOp.mk rfl rfl rfl (.bs (zz:=fun bs3=> ⟨S3.mk (by apply List.Sublist.cons;apply List.Sublist.cons;apply List.Sublist.cons;apply List.Sublist.cons;exact List.sublist_append_left _ _) (.inl (by kernel_rfl)),?_⟩)),trivial⟩
             · refine Ta.each [15] (by kernel_rfl) rfl ⟨TaOp.mk rfl rfl rfl (.bs (zz:=fun bs3=> ⟨S3.mk (by apply List.Sublist.cons;apply List.Sublist.cons;apply List.Sublist.cons;apply List.Sublist.cons;exact List.sublist_append_left _ _) (.inl (by kernel_rfl)),?_⟩)),trivial⟩
               refine Ta.each [16] (by kernel_rfl) rfl ⟨TaOp.mk rfl rfl rfl (Or.appendAmid (E:=en) (g:=g3) (m:=1) (new:= [.int .i64 k.gap]) (yv:=.slice (some ⟨bs3,0,none⟩) 1 1) 5 (fun B=> a1.bl++(a2.bl++B)) (in_last _ _) rfl rfl rfl rfl rfl rfl rfl rfl rfl rfl rfl rfl rfl rfl rfl (fun H hs=> SrcAt.of (show H bs3=some (true,.cells ⟨[.int .i64 k.gap]⟩ 3 (0,0)) from by exact hs.get (i:=0) rfl) (Nat.le_of_ble_eq_true rfl)) rfl (by omega) rfl (by decide) (fun a3 m3 q3=> ⟨S3.mk (by apply List.Sublist.cons;apply List.Sublist.cons;apply List.Sublist.cons;apply List.Sublist.cons;exact List.sublist_append_left _ _) (.inl (by kernel_rfl)),?_⟩)),trivial⟩
               refine Ta.each [18] (by kernel_rfl) rfl ⟨TaOp.mk rfl rfl rfl (.st 3 (zz:=⟨S3.mk (by apply List.Sublist.cons;apply List.Sublist.cons;apply List.Sublist.cons;apply List.Sublist.cons;exact List.sublist_append_left _ _) (.inl (by kernel_rfl)),?_⟩)),trivial⟩
               refine Ta.tkwC 19 (by kernel_rfl) rfl rfl rfl (by decide) rfl rfl (OpV.take .sg) ?_
               refine Ta.tkwC 20 (by kernel_rfl) rfl rfl rfl (by decide) rfl rfl (OpV.take .sg) ?_
               refine Ta.done (by kernel_rfl) ?_
               exact fin _ _ ⟨a1,a2,a3,⟨⟨by rw[m1,n1],by rw[q1,l1,quadsP_succ];rfl⟩,⟨by rw[m2,n2],by rw[q2,l2,clL_succ]⟩,⟨by rw[m3,n3],by rw[q3,l3,clL_succ]⟩⟩,⟨rfl,rfl,rfl,rfl,rfl,rfl,rfl,rfl,trivial⟩,(by apply List.Sublist.cons;apply List.Sublist.cons;apply List.Sublist.cons;exact List.Sublist.refl _)⟩
             · refine Ta.each [11] (by kernel_rfl) rfl ⟨TaOp.mk rfl rfl rfl (Or.appendAmid (E:=en) (g:=g2) (m:=1) (new:= [.int .i64 (pu j:Nat)]) (yv:=.slice (some ⟨bs2,0,none⟩) 1 1) 5 (fun B=> a1.bl++(B++g3.bl)) (in_mid _ _) rfl rfl rfl rfl rfl rfl rfl rfl rfl rfl rfl rfl rfl rfl rfl (fun H hs=> SrcAt.of (show H bs2=some (true,.cells ⟨[.int .i64 (pu j:Nat)]⟩ 3 (0,0)) from by exact hs.get (i:=1) rfl) (Nat.le_of_ble_eq_true rfl)) rfl (by omega) rfl (by decide) (fun a2 m2 q2=> ⟨S3.mk (by apply List.Sublist.cons;apply List.Sublist.cons;apply List.Sublist.cons;apply List.Sublist.cons;exact List.sublist_append_left _ _) (.inl (by kernel_rfl)),?_⟩)),trivial⟩
               refine Ta.each [16] (by kernel_rfl) rfl ⟨TaOp.mk rfl rfl rfl (Or.appendAmid (E:=en) (g:=g3) (m:=1) (new:= [.int .i64 k.gap]) (yv:=.slice (some ⟨bs3,0,none⟩) 1 1) 5 (fun B=> a1.bl++(a2.bl++B)) (in_last _ _) rfl rfl rfl rfl rfl rfl rfl rfl rfl rfl rfl rfl rfl rfl rfl (fun H hs=> SrcAt.of (show H bs3=some (true,.cells ⟨[.int .i64 k.gap]⟩ 3 (0,0)) from by exact hs.get (i:=0) rfl) (Nat.le_of_ble_eq_true rfl)) rfl (by omega) rfl (by decide) (fun a3 m3 q3=> ⟨S3.mk (by apply List.Sublist.cons;apply List.Sublist.cons;apply List.Sublist.cons;apply List.Sublist.cons;exact List.sublist_append_left _ _) (.inl (by kernel_rfl)),?_⟩)),trivial⟩
               refine Ta.each [18] (by kernel_rfl) rfl ⟨TaOp.mk rfl rfl rfl (.st 3 (zz:=⟨S3.mk (by apply List.Sublist.cons;apply List.Sublist.cons;apply List.Sublist.cons;apply List.Sublist.cons;exact List.sublist_append_left _ _) (.inl (by kernel_rfl)),?_⟩)),trivial⟩
               refine Ta.tkwC 19 (by kernel_rfl) rfl rfl rfl (by decide) rfl rfl (OpV.take .sg) ?_
               refine Ta.tkwC 20 (by kernel_rfl) rfl rfl rfl (by decide) rfl rfl (OpV.take .sg) ?_
               refine Ta.done (by kernel_rfl) ?_
               exact fin _ _ ⟨a1,a2,a3,⟨⟨by rw[m1,n1],by rw[q1,l1,quadsP_succ];rfl⟩,⟨by rw[m2,n2],by rw[q2,l2,clL_succ]⟩,⟨by rw[m3,n3],by rw[q3,l3,clL_succ]⟩⟩,⟨rfl,rfl,rfl,rfl,rfl,rfl,rfl,rfl,trivial⟩,(by apply List.Sublist.cons;apply List.Sublist.cons;apply List.Sublist.cons;exact List.Sublist.refl _)⟩
           · refine Ta.each [7] (by kernel_rfl) rfl ⟨TaOp.mk rfl rfl rfl (Or.appendAmid (E:=en) (g:=g1) (m:=1) (new:= [.int .i64 (pu j:Nat),.int .i64 (pu j:Nat),.int .i64 k.gap,.int .i64 k.gap]) (yv:=.slice (some ⟨bs1,0,none⟩) 1 1) 5 (fun B=> B++(g2.bl++g3.bl)) (in_one _) rfl rfl rfl rfl rfl rfl rfl rfl rfl rfl rfl rfl rfl rfl rfl (fun H hs=> SrcAt.of (show H bs1=some (true,.cells ⟨[.int .i64 (pu j:Nat),.int .i64 (pu j:Nat),.int .i64 k.gap,.int .i64 k.gap]⟩ 47 (0,0)) from by exact hs.get (i:=2) rfl) (Nat.le_of_ble_eq_true rfl)) rfl (by omega) rfl (by decide) (fun a1 m1 q1=> ⟨S3.mk (by apply List.Sublist.cons;apply List.Sublist.cons;apply List.Sublist.cons;apply List.Sublist.cons;exact List.sublist_append_left _ _) (.inl (by kernel_rfl)),?_⟩)),trivial⟩
             refine Ta.tkwC 17 (by kernel_rfl) rfl rfl rfl (by decide) rfl rfl (OpV.take .fa) ?_
             refine Ta.each [11] (by kernel_rfl) rfl ⟨TaOp.mk rfl rfl rfl (Or.appendAmid (E:=en) (g:=g2) (m:=1) (new:= [.int .i64 (pu j:Nat)]) (yv:=.slice (some ⟨bs2,0,none⟩) 1 1) 5 (fun B=> a1.bl++(B++g3.bl)) (in_mid _ _) rfl rfl rfl rfl rfl rfl rfl rfl rfl rfl rfl rfl rfl rfl rfl (fun H hs=> SrcAt.of (show H bs2=some (true,.cells ⟨[.int .i64 (pu j:Nat)]⟩ 3 (0,0)) from by exact hs.get (i:=1) rfl) (Nat.le_of_ble_eq_true rfl)) rfl (by omega) rfl (by decide) (fun a2 m2 q2=> ⟨S3.mk (by apply List.Sublist.cons;apply List.Sublist.cons;apply List.Sublist.cons;apply List.Sublist.cons;exact List.sublist_append_left _ _) (.inl (by kernel_rfl)),?_⟩)),trivial⟩
             refine Ta.each [16] (by kernel_rfl) rfl ⟨TaOp.mk rfl rfl rfl (Or.appendAmid (E:=en) (g:=g3) (m:=1) (new:= [.int .i64 k.gap]) (yv:=.slice (some ⟨bs3,0,none⟩) 1 1) 5 (fun B=> a1.bl++(a2.bl++B)) (in_last _ _) rfl rfl rfl rfl rfl rfl rfl rfl rfl rfl rfl rfl rfl rfl rfl (fun H hs=> SrcAt.of (show H bs3=some (true,.cells ⟨[.int .i64 k.gap]⟩ 3 (0,0)) from by exact hs.get (i:=0) rfl) (Nat.le_of_ble_eq_true rfl)) rfl (by omega) rfl (by decide) (fun a3 m3 q3=> ⟨S3.mk (by apply List.Sublist.cons;apply List.Sublist.cons;apply List.Sublist.cons;apply List.Sublist.cons;exact List.sublist_append_left _ _) (.inl (by kernel_rfl)),?_⟩)),trivial⟩
             refine Ta.each [18] (by kernel_rfl) rfl ⟨TaOp.mk rfl rfl rfl (.st 3 (zz:=⟨S3.mk (by apply List.Sublist.cons;apply List.Sublist.cons;apply List.Sublist.cons;apply List.Sublist.cons;exact List.sublist_append_left _ _) (.inl (by kernel_rfl)),?_⟩)),trivial⟩
             refine Ta.tkwC 19 (by kernel_rfl) rfl rfl rfl (by decide) rfl rfl (OpV.take .sg) ?_
             refine Ta.tkwC 20 (by kernel_rfl) rfl rfl rfl (by decide) rfl rfl (OpV.take .sg) ?_
             refine Ta.done (by kernel_rfl) ?_
             exact fin _ _ ⟨a1,a2,a3,⟨⟨by rw[m1,n1],by rw[q1,l1,quadsP_succ];rfl⟩,⟨by rw[m2,n2],by rw[q2,l2,clL_succ]⟩,⟨by rw[m3,n3],by rw[q3,l3,clL_succ]⟩⟩,⟨rfl,rfl,rfl,rfl,rfl,rfl,rfl,rfl,trivial⟩,(by apply List.Sublist.cons;apply List.Sublist.cons;apply List.Sublist.cons;exact List.Sublist.refl _)⟩
         · refine Ta.each [7,10] (by kernel_rfl) rfl ⟨TaOp.mk rfl rfl rfl (Or.appendAmid (E:=en) (g:=g1) (m:=1) (new:= [.int .i64 (pu j:Nat),.int .i64 (pu j:Nat),.int .i64 k.gap,.int .i64 k.gap]) (yv:=.slice (some ⟨bs1,0,none⟩) 1 1) 4 (fun B=> B++(g2.bl++g3.bl)) (in_one _) rfl rfl rfl rfl rfl rfl rfl rfl rfl rfl rfl rfl rfl rfl rfl (fun H hs=> SrcAt.of (show H bs1=some (true,.cells ⟨[.int .i64 (pu j:Nat),.int .i64 (pu j:Nat),.int .i64 k.gap,.int .i64 k.gap]⟩ 47 (0,0)) from by exact hs.get (i:=1) rfl) (Nat.le_of_ble_eq_true rfl)) rfl (by omega) rfl (by decide) (fun a1 m1 q1=> ⟨S3.mk (by apply List.Sublist.cons;apply List.Sublist.cons;apply List.Sublist.cons;exact List.sublist_append_left _ _) (.inl (by kernel_rfl)),?_⟩)),TaOp.mk rfl rfl rfl (.bs (zz:=fun bs2=> ⟨S3.mk (by apply List.Sublist.cons;apply List.Sublist.cons;apply List.Sublist.cons;apply List.Sublist.cons;exact List.sublist_append_left _ _) (.inr (by apply List.Sublist.cons;apply List.Sublist.cons;apply List.Sublist.cons;exact List.Sublist.refl _)),?_⟩)),trivial⟩
           · refine Ta.tkwC 17 (by kernel_rfl) rfl rfl rfl (by decide) rfl rfl (OpV.take .fa) ?_
             refine Ta.each [10] (by kernel_rfl) rfl ⟨TaOp.mk rfl rfl rfl (.bs (zz:=fun bs2=> ⟨S3.mk (by apply List.Sublist.cons;apply List.Sublist.cons;apply List.Sublist.cons;apply List.Sublist.cons;exact List.sublist_append_left _ _) (.inl (by kernel_rfl)),?_⟩)),trivial⟩
             refine Ta.each [11] (by kernel_rfl) rfl ⟨TaOp.mk rfl rfl rfl (Or.appendAmid (E:=en) (g:=g2) (m:=1) (new:= [.int .i64 (pu j:Nat)]) (yv:=.slice (some ⟨bs2,0,none⟩) 1 1) 5 (fun B=> a1.bl++(B++g3.bl)) (in_mid _ _) rfl rfl rfl rfl rfl rfl rfl rfl rfl rfl rfl rfl rfl rfl rfl (fun H hs=> SrcAt.of (show H bs2=some (true,.cells ⟨[.int .i64 (pu j:Nat)]⟩ 3 (0,0)) from by exact hs.get (i:=0) rfl) (Nat.le_of_ble_eq_true rfl)) rfl (by omega) rfl (by decide) (fun a2 m2 q2=> ⟨S3.mk (by apply List.Sublist.cons;apply List.Sublist.cons;apply List.Sublist.cons;apply List.Sublist.cons;exact List.sublist_append_left _ _) (.inl (by kernel_rfl)),?_⟩)),trivial⟩
             refine Ta.each [16] (by kernel_rfl) rfl ⟨TaOp.mk rfl rfl rfl (Or.appendAmid (E:=en) (g:=g3) (m:=1) (new:= [.int .i64 k.gap]) (yv:=.slice (some ⟨bs3,0,none⟩) 1 1) 5 (fun B=> a1.bl++(a2.bl++B)) (in_last _ _) rfl rfl rfl rfl rfl rfl rfl rfl rfl rfl rfl rfl rfl rfl rfl (fun H hs=> SrcAt.of (show H bs3=some (true,.cells ⟨[.int .i64 k.gap]⟩ 3 (0,0)) from by exact hs.get (i:=1) rfl) (Nat.le_of_ble_eq_true rfl)) rfl (by omega) rfl (by decide) (fun a3 m3 q3=> ⟨S3.mk (by apply List.Sublist.cons;apply List.Sublist.cons;apply List.Sublist.cons;apply List.Sublist.cons;exact List.sublist_append_left _ _) (.inl (by kernel_rfl)),?_⟩)),trivial⟩
             refine Ta.each [18] (by kernel_rfl) rfl ⟨TaOp.mk rfl rfl rfl (.st 3 (zz:=⟨S3.mk (by apply List.Sublist.cons;apply List.Sublist.cons;apply List.Sublist.cons;apply List.Sublist.cons;exact List.sublist_append_left _ _) (.inl (by kernel_rfl)),?_⟩)),trivial⟩
             refine Ta.tkwC 19 (by kernel_rfl) rfl rfl rfl (by decide) rfl rfl (OpV.take .sg) ?_
             refine Ta.tkwC 20 (by kernel_rfl) rfl rfl rfl (by decide) rfl rfl (OpV.take .sg) ?_
             refine Ta.done (by kernel_rfl) ?_
             exact fin _ _ ⟨a1,a2,a3,⟨⟨by rw[m1,n1],by rw[q1,l1,quadsP_succ];rfl⟩,⟨by rw[m2,n2],by rw[q2,l2,clL_succ]⟩,⟨by rw[m3,n3],by rw[q3,l3,clL_succ]⟩⟩,⟨rfl,rfl,rfl,rfl,rfl,rfl,rfl,rfl,trivial⟩,(by apply List.Sublist.cons;apply List.Sublist.cons;apply List.Sublist.cons;exact List.Sublist.refl _)⟩
           · refine Ta.each [7] (by kernel_rfl) rfl ⟨TaOp.mk rfl rfl rfl (Or.appendAmid (E:=en) (g:=g1) (m:=1) (new:= [.int .i64 (pu j:Nat),.int .i64 (pu j:Nat),.int .i64 k.gap,.int .i64 k.gap]) (yv:=.slice (some ⟨bs1,0,none⟩) 1 1) 5 (fun B=> B++(g2.bl++g3.bl)) (in_one _) rfl rfl rfl rfl rfl rfl rfl rfl rfl rfl rfl rfl rfl rfl rfl (fun H hs=> SrcAt.of (show H bs1=some (true,.cells ⟨[.int .i64 (pu j:Nat),.int .i64 (pu j:Nat),.int .i64 k.gap,.int .i64 k.gap]⟩ 47 (0,0)) from by exact hs.get (i:=2) rfl) (Nat.le_of_ble_eq_true rfl)) rfl (by omega) rfl (by decide) (fun a1 m1 q1=> ⟨S3.mk (by apply List.Sublist.cons;apply List.Sublist.cons;apply List.Sublist.cons;apply List.Sublist.cons;exact List.sublist_append_left _ _) (.inl (by kernel_rfl)),?_⟩)),trivial⟩
             refine Ta.tkwC 17 (by kernel_rfl) rfl rfl rfl (by decide) rfl rfl (OpV.take .fa) ?_
             refine Ta.each [11] (by kernel_rfl) rfl ⟨TaOp.mk rfl rfl rfl (Or.appendAmid (E:=en) (g:=g2) (m:=1) (new:= [.int .i64 (pu j:Nat)]) (yv:=.slice (some ⟨bs2,0,none⟩) 1 1) 5 (fun B=> a1.bl++(B++g3.bl)) (in_mid _ _) rfl rfl rfl rfl rfl rfl rfl rfl rfl rfl rfl rfl rfl rfl rfl (fun H hs=> SrcAt.of (show H bs2=some (true,.cells ⟨[.int .i64 (pu j:Nat)]⟩ 3 (0,0)) from by exact hs.get (i:=0) rfl) (Nat.le_of_ble_eq_true rfl)) rfl (by omega) rfl (by decide) (fun a2 m2 q2=> ⟨S3.mk (by apply List.Sublist.cons;apply List.Sublist.cons;apply List.Sublist.cons;apply List.Sublist.cons;exact List.sublist_append_left _ _) (.inl (by kernel_rfl)),?_⟩)),trivial⟩
             refine Ta.each [16] (by kernel_rfl) rfl ⟨TaOp.mk rfl rfl rfl (Or.appendAmid (E:=en) (g:=g3) (m:=1) (new:= [.int .i64 k.gap]) (yv:=.slice (some ⟨bs3,0,none⟩) 1 1) 5 (fun B=> a1.bl++(a2.bl++B)) (in_last _ _) rfl rfl rfl rfl rfl rfl rfl rfl rfl rfl rfl rfl rfl rfl rfl (fun H hs=> SrcAt.of (show H bs3=some (true,.cells ⟨[.int .i64 k.gap]⟩ 3 (0,0)) from by exact hs.get (i:=1) rfl) (Nat.le_of_ble_eq_true rfl)) rfl (by omega) rfl (by decide) (fun a3 m3 q3=> ⟨S3.mk (by apply List.Sublist.cons;apply List.Sublist.cons;apply List.Sublist.cons;apply List.Sublist.cons;exact List.sublist_append_left _ _) (.inl (by kernel_rfl)),?_⟩)),trivial⟩
             refine Ta.each [18] (by kernel_rfl) rfl ⟨TaOp.mk rfl rfl rfl (.st 3 (zz:=⟨S3.mk (by apply List.Sublist.cons;apply List.Sublist.cons;apply List.Sublist.cons;apply List.Sublist.cons;exact List.sublist_append_left _ _) (.inl (by kernel_rfl)),?_⟩)),trivial⟩
             refine Ta.tkwC 19 (by kernel_rfl) rfl rfl rfl (by decide) rfl rfl (OpV.take .sg) ?_
             refine Ta.tkwC 20 (by kernel_rfl) rfl rfl rfl (by decide) rfl rfl (OpV.take .sg) ?_
             refine Ta.done (by kernel_rfl) ?_
             exact fin _ _ ⟨a1,a2,a3,⟨⟨by rw[m1,n1],by rw[q1,l1,quadsP_succ];rfl⟩,⟨by rw[m2,n2],by rw[q2,l2,clL_succ]⟩,⟨by rw[m3,n3],by rw[q3,l3,clL_succ]⟩⟩,⟨rfl,rfl,rfl,rfl,rfl,rfl,rfl,rfl,trivial⟩,(by apply List.Sublist.cons;apply List.Sublist.cons;apply List.Sublist.cons;exact List.Sublist.refl _)⟩
       · refine Ta.each [6,15] (by kernel_rfl) rfl ⟨TaOp.mk rfl rfl rfl (.bs (zz:=fun bs1=> ⟨S3.mk (by apply List.Sublist.cons;apply List.Sublist.cons;apply List.Sublist.cons;exact List.sublist_append_left _ _) (.inr (by apply List.Sublist.cons;apply List.Sublist.cons;exact List.Sublist.refl _)),?_⟩)),TaOp.mk rfl rfl rfl (.bs (zz:=fun bs3=> ⟨S3.mk (by apply List.Sublist.cons;apply List.Sublist.cons;apply List.Sublist.cons;exact List.sublist_append_left _ _) (.inr (by apply List.Sublist.cons;apply List.Sublist.cons;exact List.Sublist.refl _)),?_⟩)),trivial⟩
         · refine Ta.each [7,15] (by kernel_rfl) rfl ⟨TaOp.mk rfl rfl rfl (Or.appendAmid (E:=en) (g:=g1) (m:=1) (new:= [.int .i64 (pu j:Nat),.int .i64 (pu j:Nat),.int .i64 k.gap,.int .i64 k.gap]) (yv:=.slice (some ⟨bs1,0,none⟩) 1 1) 4 (fun B=> B++(g2.bl++g3.bl)) (in_one _) rfl rfl rfl rfl rfl rfl rfl rfl rfl rfl rfl rfl rfl rfl rfl (fun H hs=> SrcAt.of (show H bs1=some (true,.cells ⟨[.int .i64 (pu j:Nat),.int .i64 (pu j:Nat),.int .i64 k.gap,.int .i64 k.gap]⟩ 47 (0,0)) from by exact hs.get (i:=0) rfl) (Nat.le_of_ble_eq_true rfl)) rfl (by omega) rfl (by decide) (fun a1 m1 q1=> ⟨S3.mk (by apply List.Sublist.cons;apply List.Sublist.cons;apply List.Sublist.cons;exact List.sublist_append_left _ _) (.inl (by kernel_rfl)),?_⟩)),TaOp.mk rfl rfl rfl (.bs (zz:=fun bs3=> ⟨S3.mk (by apply List.Sublist.cons;apply List.Sublist.cons;apply List.Sublist.cons;apply List.Sublist.cons;exact List.sublist_append_left _ _) (.inr (by apply List.Sublist.cons;apply List.Sublist.cons;apply List.Sublist.cons;exact List.Sublist.refl _)),?_⟩)),trivial⟩
           · refine Ta.tkwC 17 (by kernel_rfl) rfl rfl rfl (by decide) rfl rfl (OpV.take .fa) ?_
             refine Ta.each [11,15] (by kernel_rfl) rfl ⟨TaOp.mk rfl rfl rfl (Or.appendAmid (E:=en) (g:=g2) (m:=1) (new:= [.int .i64 (pu j:Nat)]) (yv:=.slice (some ⟨bs2,0,none⟩) 1 1) 4 (fun B=> a1.bl++(B++g3.bl)) (in_mid _ _) rfl rfl rfl rfl rfl rfl rfl rfl rfl rfl rfl rfl rfl rfl rfl (fun H hs=> SrcAt.of (show H bs2=some (true,.cells ⟨[.int .i64 (pu j:Nat)]⟩ 3 (0,0)) from by exact hs.get (i:=1) rfl) (Nat.le_of_ble_eq_true rfl)) rfl (by omega) rfl (by decide) (fun a2 m2 q2=> ⟨S3.mk (by apply List.Sublist.cons;apply List.Sublist.cons;apply List.Sublist.cons;exact List.sublist_append_left _ _) (.inl (by kernel_rfl)),?_⟩)),TaOp.mk rfl rfl rfl (.bs (zz:=fun bs3=> ⟨S3.mk (by apply List.Sublist.cons;apply List.Sublist.cons;apply List.Sublist.cons;apply List.Sublist.cons;exact List.sublist_append_left _ _) (.inl (by kernel_rfl)),?_⟩)),trivial⟩
             · refine Ta.each [15] (by kernel_rfl) rfl ⟨TaOp.mk rfl rfl rfl (.bs (zz:=fun bs3=> ⟨S3.mk (by apply List.Sublist.cons;apply List.Sublist.cons;apply List.Sublist.cons;apply List.Sublist.cons;exact List.sublist_append_left _ _) (.inl (by kernel_rfl)),?_⟩)),trivial⟩
               refine Ta.each [16] (by kernel_rfl) rfl ⟨TaOp.mk rfl rfl rfl (Or.appendAmid (E:=en) (g:=g3) (m:=1) (new:= [.int .i64 k.gap]) (yv:=.slice (some ⟨bs3,0,none⟩) 1 1) 5 (fun B=> a1.bl++(a2.bl++B)) (in_last _ _) rfl rfl rfl rfl rfl rfl rfl rfl rfl rfl rfl rfl rfl rfl rfl (fun H hs=> SrcAt.of (show H bs3=some (true,.cells ⟨[.int .i64 k.gap]⟩ 3 (0,0)) from by exact hs.get (i:=0) rfl) (Nat.le_of_ble_eq_true rfl)) rfl (by omega) rfl (by decide) (fun a3 m3 q3=> ⟨S3.mk (by apply List.Sublist.cons;apply List.Sublist.cons;apply List.Sublist.cons;apply List.Sublist.cons;exact List.sublist_append_left _ _) (.inl (by kernel_rfl)),?_⟩)),trivial⟩
               refine Ta.each [18] (by kernel_rfl) rfl ⟨TaOp.mk rfl rfl rfl (.st 3 (zz:=⟨S3.mk (by apply List.Sublist.cons;apply List.Sublist.cons;apply List.Sublist.cons;apply List.Sublist.cons;exact List.sublist_append_left _ _) (.inl (by kernel_rfl)),?_⟩)),trivial⟩
               refine Ta.tkwC 19 (by kernel_rfl) rfl rfl rfl (by decide) rfl rfl (OpV.take .sg) ?_
               refine Ta.tkwC 20 (by kernel_rfl) rfl rfl rfl (by decide) rfl rfl (OpV.take .sg) ?_
               refine Ta.done (by kernel_rfl) ?_
               exact fin _ _ ⟨a1,a2,a3,⟨⟨by rw[m1,n1],by rw[q1,l1,quadsP_succ];rfl⟩,⟨by rw[m2,n2],by rw[q2,l2,clL_succ]⟩,⟨by rw[m3,n3],by rw[q3,l3,clL_succ]⟩⟩,⟨rfl,rfl,rfl,rfl,rfl,rfl,rfl,rfl,trivial⟩,(by apply List.Sublist.cons;apply List.Sublist.cons;apply List.Sublist.cons;exact List.Sublist.refl _)⟩
             · refine Ta.each [11] (by kernel_rfl) rfl ⟨TaOp.mk rfl rfl rfl (Or.appendAmid (E:=en) (g:=g2) (m:=1) (new:= [.int .i64 (pu j:Nat)]) (yv:=.slice (some ⟨bs2,0,none⟩) 1 1) 5 (fun B=> a1.bl++(B++g3.bl)) (in_mid _ _) rfl rfl rfl rfl rfl rfl rfl rfl rfl rfl rfl rfl rfl rfl rfl (fun H hs=> SrcAt.of (show H bs2=some (true,.cells ⟨[.int .i64 (pu j:Nat)]⟩ 3 (0,0)) from by exact hs.get (i:=2) rfl) (Nat.le_of_ble_eq_true rfl)) rfl (by omega) rfl (by decide) (fun a2 m2 q2=> ⟨S3.mk (by apply List.Sublist.cons;apply List.Sublist.cons;apply List.Sublist.cons;apply List.Sublist.cons;exact List.sublist_append_left _ _) (.inl (by kernel_rfl)),?_⟩)),trivial⟩
               refine Ta.each [16] (by kernel_rfl) rfl ⟨TaOp.mk rfl rfl rfl (Or.appendAmid (E:=en) (g:=g3) (m:=1) (new:= [.int .i64 k.gap]) (yv:=.slice (some ⟨bs3,0,none⟩) 1 1) 5 (fun B=> a1.bl++(a2.bl++B)) (in_last _ _) rfl rfl rfl rfl rfl rfl rfl rfl rfl rfl rfl rfl rfl rfl rfl (fun H hs=> SrcAt.of (show H bs3=some (true,.cells ⟨[.int .i64 k.gap]⟩ 3 (0,0)) from by exact hs.get (i:=0) rfl) (Nat.le_of_ble_eq_true rfl)) rfl (by omega) rfl (by decide) (fun a3 m3 q3=> ⟨S3.mk (by apply List.Sublist.cons;apply List.Sublist.cons;apply List.Sublist.cons;apply List.Sublist.cons;exact List.sublist_append_left _ _) (.inl (by kernel_rfl)),?_⟩)),trivial⟩
               refine Ta.each [18] (by kernel_rfl) rfl ⟨TaOp.mk rfl rfl rfl (.st 3 (zz:=⟨S3.mk (by apply List.Sublist.cons;apply List.Sublist.cons;apply List.Sublist.cons;apply List.Sublist.cons;exact List.sublist_append_left _ _) (.inl (by kernel_rfl)),?_⟩)),trivial⟩
               refine Ta.tkwC 19 (by kernel_rfl) rfl rfl rfl (by decide) rfl rfl (OpV.take .sg) ?_
               refine Ta.tkwC 20 (by kernel_rfl) rfl rfl rfl (by decide) rfl rfl (OpV.take .sg) ?_
               refine Ta.done (by kernel_rfl) ?_
               exact fin _ _ ⟨a1,a2,a3,⟨⟨by rw[m1,n1],by rw[q1,l1,quadsP_succ];rfl⟩,⟨by rw[m2,n2],by rw[q2,l2,clL_succ]⟩,⟨by rw[m3,n3],by rw[q3,l3,clL_succ]⟩⟩,⟨rfl,rfl,rfl,rfl,rfl,rfl,rfl,rfl,trivial⟩,(by apply List.Sublist.cons;apply List.Sublist.cons;apply List.Sublist.cons;exact List.Sublist.refl _)⟩
           · refine Ta.each [7] (by kernel_rfl) rfl ⟨TaOp.mk rfl rfl rfl (Or.appendAmid (E:=en) (g:=g1) (m:=1) (new:= [.int .i64 (pu j:Nat),.int .i64 (pu j:Nat),.int .i64 k.gap,.int .i64 k.gap]) (yv:=.slice (some ⟨bs1,0,none⟩) 1 1) 5 (fun B=> B++(g2.bl++g3.bl)) (in_one _) rfl rfl rfl rfl rfl rfl rfl rfl rfl rfl rfl rfl rfl rfl rfl (fun H hs=> SrcAt.of (show H bs1=some (true,.cells ⟨[.int .i64 (pu j:Nat),.int .i64 (pu j:Nat),.int .i64 k.gap,.int .i64 k.gap]⟩ 47 (0,0)) from by exact hs.get (i:=1) rfl) (Nat.le_of_ble_eq_true rfl)) rfl (by omega) rfl (by decide) (fun a1 m1 q1=> ⟨S3.mk (by apply List.Sublist.cons;apply List.Sublist.cons;apply List.Sublist.cons;apply List.Sublist.cons;exact List.sublist_append_left _ _) (.inl (by kernel_rfl)),?_⟩)),trivial⟩
             refine Ta.tkwC 17 (by kernel_rfl) rfl rfl rfl (by decide) rfl rfl (OpV.take .fa) ?_
             refine Ta.each [11] (by kernel_rfl) rfl ⟨TaOp.mk rfl rfl rfl (Or.appendAmid (E:=en) (g:=g2) (m:=1) (new:= [.int .i64 (pu j:Nat)]) (yv:=.slice (some ⟨bs2,0,none⟩) 1 1) 5 (fun B=> a1.bl++(B++g3.bl)) (in_mid _ _) rfl rfl rfl rfl rfl rfl rfl rfl rfl rfl rfl rfl rfl rfl rfl (fun H hs=> SrcAt.of (show H bs2=some (true,.cells ⟨[.int .i64 (pu j:Nat)]⟩ 3 (0,0)) from by exact hs.get (i:=2) rfl) (Nat.le_of_ble_eq_true rfl)) rfl (by omega) rfl (by decide) (fun a2 m2 q2=> ⟨S3.mk (by apply List.Sublist.cons;apply List.Sublist.cons;apply List.Sublist.cons;apply List.Sublist.cons;exact List.sublist_append_left _ _) (.inl (by kernel_rfl)),?_⟩)),trivial⟩
             refine Ta.each [16] (by kernel_rfl) rfl ⟨TaOp.mk rfl rfl rfl (Or.appendAmid (E:=en) (g:=g3) (m:=1) (new:= [.int .i64 k.gap]) (yv:=.slice (some ⟨bs3,0,none⟩) 1 1) 5 (fun B=> a1.bl++(a2.bl++B)) (in_last _ _) rfl rfl rfl rfl rfl rfl rfl rfl rfl rfl rfl rfl rfl rfl rfl (fun H hs=> SrcAt.of (show H bs3=some (true,.cells ⟨[.int .i64 k.gap]⟩ 3 (0,0)) from by exact hs.get (i:=0) rfl) (Nat.le_of_ble_eq_true rfl)) rfl (by omega) rfl (by decide) (fun a3 m3 q3=> ⟨S3.mk (by apply List.Sublist.cons;apply List.Sublist.cons;apply List.Sublist.cons;apply List.Sublist.cons;exact List.sublist_append_left _ _) (.inl (by kernel_rfl)),?_⟩)),trivial⟩
             refine Ta.each [18] (by kernel_rfl) rfl ⟨TaOp.mk rfl rfl rfl (.st 3 (zz:=⟨S3.mk (by apply List.Sublist.cons;apply List.Sublist.cons;apply List.Sublist.cons;apply List.Sublist.cons;exact List.sublist_append_left _ _) (.inl (by kernel_rfl)),?_⟩)),trivial⟩
             refine Ta.tkwC 19 (by kernel_rfl) rfl rfl rfl (by decide) rfl rfl (OpV.take .sg) ?_
             refine Ta.tkwC 20 (by kernel_rfl) rfl rfl rfl (by decide) rfl rfl (OpV.take .sg) ?_
             refine Ta.done (by kernel_rfl) ?_
             exact fin _ _ ⟨a1,a2,a3,⟨⟨by rw[m1,n1],by rw[q1,l1,quadsP_succ];rfl⟩,⟨by rw[m2,n2],by rw[q2,l2,clL_succ]⟩,⟨by rw[m3,n3],by rw[q3,l3,clL_succ]⟩⟩,⟨rfl,rfl,rfl,rfl,rfl,rfl,rfl,rfl,trivial⟩,(by apply List.Sublist.cons;apply List.Sublist.cons;apply List.Sublist.cons;exact List.Sublist.refl _)⟩
         · refine Ta.each [6] (by kernel_rfl) rfl ⟨TaOp.mk rfl rfl rfl (.bs (zz:=fun bs1=> ⟨S3.mk (by apply List.Sublist.cons;apply List.Sublist.cons;apply List.Sublist.cons;apply List.Sublist.cons;exact List.sublist_append_left _ _) (.inr (by apply List.Sublist.cons;apply List.Sublist.cons;apply List.Sublist.cons;exact List.Sublist.refl _)),?_⟩)),trivial⟩
           refine Ta.each [7] (by kernel_rfl) rfl ⟨TaOp.mk rfl rfl rfl (Or.appendAmid (E:=en) (g:=g1) (m:=1) (new:= [.int .i64 (pu j:Nat),.int .i64 (pu j:Nat),.int .i64 k.gap,.int .i64 k.gap]) (yv:=.slice (some ⟨bs1,0,none⟩) 1 1) 5 (fun B=> B++(g2.bl++g3.bl)) (in_one _) rfl rfl rfl rfl rfl rfl rfl rfl rfl rfl rfl rfl rfl rfl rfl (fun H hs=> SrcAt.of (show H bs1=some (true,.cells ⟨[.int .i64 (pu j:Nat),.int .i64 (pu j:Nat),.int .i64 k.gap,.int .i64 k.gap]⟩ 47 (0,0)) from by exact hs.get (i:=0) rfl) (Nat.le_of_ble_eq_true rfl)) rfl (by omega) rfl (by decide) (fun a1 m1 q1=> ⟨S3.mk (by apply List.Sublist.cons;apply List.Sublist.cons;apply List.Sublist.cons;apply List.Sublist.cons;exact List.sublist_append_left _ _) (.inl (by kernel_rfl)),?_⟩)),trivial⟩
           refine Ta.tkwC 17 (by kernel_rfl) rfl rfl rfl (by decide) rfl rfl (OpV.take .fa) ?_
           refine Ta.each [11] (by kernel_rfl) rfl ⟨TaOp.mk rfl rfl rfl (Or.appendAmid (E:=en) (g:=g2) (m:=1) (new:= [.int .i64 (pu j:Nat)]) (yv:=.slice (some ⟨bs2,0,none⟩) 1 1) 5 (fun B=> a1.bl++(B++g3.bl)) (in_mid _ _) rfl rfl rfl rfl rfl rfl rfl rfl rfl rfl rfl rfl rfl rfl rfl (fun H hs=> SrcAt.of (show H bs2=some (true,.cells ⟨[.int .i64 (pu j:Nat)]⟩ 3 (0,0)) from by exact hs.get (i:=2) rfl) (Nat.le_of_ble_eq_true rfl)) rfl (by omega) rfl (by decide) (fun a2 m2 q2=> ⟨S3.mk (by apply List.Sublist.cons;apply List.Sublist.cons;apply List.Sublist.cons;apply List.Sublist.cons;exact List.sublist_append_left _ _) (.inl (by kernel_rfl)),?_⟩)),trivial⟩
           refine Ta.each [16] (by kernel_rfl) rfl ⟨TaOp.mk rfl rfl rfl (Or.appendAmid (E:=en) (g:=g3) (m:=1) (new:= [.int .i64 k.gap]) (yv:=.slice (some ⟨bs3,0,none⟩) 1 1) 5 (fun B=> a1.bl++(a2.bl++B)) (in_last _ _) rfl rfl rfl rfl rfl rfl rfl rfl rfl rfl rfl rfl rfl rfl rfl (fun H hs=> SrcAt.of (show H bs3=some (true,.cells ⟨[.int .i64 k.gap]⟩ 3 (0,0)) from by exact hs.get (i:=1) rfl) (Nat.le_of_ble_eq_true rfl)) rfl (by omega) rfl (by decide) (fun a3 m3 q3=> ⟨S3.mk (by apply List.Sublist.cons;apply List.Sublist.cons;apply List.Sublist.cons;apply List.Sublist.cons;exact List.sublist_append_left _ _) (.inl (by kernel_rfl)),?_⟩)),trivial⟩
           refine Ta.each [18] (by kernel_rfl) rfl ⟨TaOp.mk rfl rfl rfl (.st 3 (zz:=⟨S3.mk (by apply List.Sublist.cons;apply List.Sublist.cons;apply List.Sublist.cons;apply List.Sublist.cons;exact List.sublist_append_left _ _) (.inl (by kernel_rfl)),?_⟩)),trivial⟩
           refine Ta.tkwC 19 (by kernel_rfl) rfl rfl rfl (by decide) rfl rfl (OpV.take .sg) ?_
           refine Ta.tkwC 20 (by kernel_rfl) rfl rfl rfl (by decide) rfl rfl (OpV.take .sg) ?_
           refine Ta.done (by kernel_rfl) ?_
           exact fin _ _ ⟨a1,a2,a3,⟨⟨by rw[m1,n1],by rw[q1,l1,quadsP_succ];rfl⟩,⟨by rw[m2,n2],by rw[q2,l2,clL_succ]⟩,⟨by rw[m3,n3],by rw[q3,l3,clL_succ]⟩⟩,⟨rfl,rfl,rfl,rfl,rfl,rfl,rfl,rfl,trivial⟩,(by apply List.Sublist.cons;apply List.Sublist.cons;apply List.Sublist.cons;exact List.Sublist.refl _)⟩
       · refine Ta.each [6,10] (by kernel_rfl) rfl ⟨TaOp.mk rfl rfl rfl (.bs (zz:=fun bs1=> ⟨S3.mk (by apply List.Sublist.cons;apply List.Sublist.cons;apply List.Sublist.cons;exact List.sublist_append_left _ _) (.inr (by apply List.Sublist.cons;apply List.Sublist.cons;exact List.Sublist.refl _)),?_⟩)),TaOp.mk rfl rfl rfl (.bs (zz:=fun bs2=> ⟨S3.mk (by apply List.Sublist.cons;apply List.Sublist.cons;apply List.Sublist.cons;exact List.sublist_append_left _ _) (.inr (by apply List.Sublist.cons;apply List.Sublist.cons;exact List.Sublist.refl _)),?_⟩)),trivial⟩
         · refine Ta.each [7,10] (by kernel_rfl) rfl ⟨TaOp.mk rfl rfl rfl (Or.appendAmid (E:=en) (g:=g1) (m:=1) (new:= [.int .i64 (pu j:Nat),.int .i64 (pu j:Nat),.int .i64 k.gap,.int .i64 k.gap]) (yv:=.slice (some ⟨bs1,0,none⟩) 1 1) 4 (fun B=> B++(g2.bl++g3.bl)) (in_one _) rfl rfl rfl rfl rfl rfl rfl rfl rfl rfl rfl rfl rfl rfl rfl (fun H hs=> SrcAt.of (show H bs1=some (true,.cells ⟨[.int .i64 (pu j:Nat),.int .i64 (pu j:Nat),.int .i64 k.gap,.int .i64 k.gap]⟩ 47 (0,0)) from by exact hs.get (i:=0) rfl) (Nat.le_of_ble_eq_true rfl)) rfl (by omega) rfl (by decide) (fun a1 m1 q1=> ⟨S3.mk (by apply List.Sublist.cons;apply List.Sublist.cons;apply List.Sublist.cons;exact List.sublist_append_left _ _) (.inl (by kernel_rfl)),?_⟩)),TaOp.mk rfl rfl rfl (.bs (zz:=fun bs2=> ⟨S3.mk (by apply List.Sublist.cons;apply List.Sublist.cons;apply List.Sublist.cons;apply List.Sublist.cons;exact List.sublist_append_left _ _) (.inr (by apply List.Sublist.cons;apply List.Sublist.cons;apply List.Sublist.cons;exact List.Sublist.refl _)),?_⟩)),trivial⟩
           · refine Ta.tkwC 17 (by kernel_rfl) rfl rfl rfl (by decide) rfl rfl (OpV.take .fa) ?_
             refine Ta.each [10] (by kernel_rfl) rfl ⟨TaOp.mk rfl rfl rfl (.bs (zz:=fun bs2=> ⟨S3.mk (by apply List.Sublist.cons;apply List.Sublist.cons;apply List.Sublist.cons;apply List.Sublist.cons;exact List.sublist_append_left _ _) (.inl (by kernel_rfl)),?_⟩)),trivial⟩
             refine Ta.each [11] (by kernel_rfl) rfl ⟨TaOp.mk rfl rfl rfl (Or.appendAmid (E:=en) (g:=g2) (m:=1) (new:= [.int .i64 (pu j:Nat)]) (yv:=.slice (some ⟨bs2,0,none⟩) 1 1) 5 (fun B=> a1.bl++(B++g3.bl)) (in_mid _ _) rfl rfl rfl rfl rfl rfl rfl rfl rfl rfl rfl rfl rfl rfl rfl (fun H hs=> SrcAt.of (show H bs2=some (true,.cells ⟨[.int .i64 (pu j:Nat)]⟩ 3 (0,0)) from by exact hs.get (i:=0) rfl) (Nat.le_of_ble_eq_true rfl)) rfl (by omega) rfl (by decide) (fun a2 m2 q2=> ⟨S3.mk (by apply List.Sublist.cons;apply List.Sublist.cons;apply List.Sublist.cons;apply List.Sublist.cons;exact List.sublist_append_left _ _) (.inl (by kernel_rfl)),?_⟩)),trivial⟩
             refine Ta.each [16] (by kernel_rfl) rfl ⟨TaOp.mk rfl rfl rfl (Or.appendAmid (E:=en) (g:=g3) (m:=1) (new:= [.int .i64 k.gap]) (yv:=.slice (some ⟨bs3,0,none⟩) 1 1) 5 (fun B=> a1.bl++(a2.bl++B)) (in_last _ _) rfl rfl rfl rfl rfl rfl rfl rfl rfl rfl rfl rfl rfl rfl rfl (fun H hs=> SrcAt.of (show H bs3=some (true,.cells ⟨[.int .i64 k.gap]⟩ 3 (0,0)) from by exact hs.get (i:=2) rfl) (Nat.le_of_ble_eq_true rfl)) rfl (by omega) rfl (by decide) (fun a3 m3 q3=> ⟨S3.mk (by apply List.Sublist.cons;apply List.Sublist.cons;apply List.Sublist.cons;apply List.Sublist.cons;exact List.sublist_append_left _ _) (.inl (by kernel_rfl)),?_⟩)),trivial⟩
             refine Ta.each [18] (by kernel_rfl) rfl ⟨TaOp.mk rfl rfl rfl (.st 3 (zz:=⟨S3.mk (by apply List.Sublist.cons;apply List.Sublist.cons;apply List.Sublist.cons;apply List.Sublist.cons;exact List.sublist_append_left _ _) (.inl (by kernel_rfl)),?_⟩)),trivial⟩
             refine Ta.tkwC 19 (by kernel_rfl) rfl rfl rfl (by decide) rfl rfl (OpV.take .sg) ?_
             refine Ta.tkwC 20 (by kernel_rfl) rfl rfl rfl (by decide) rfl rfl (OpV.take .sg) ?_
             refine Ta.done (by kernel_rfl) ?_
             exact fin _ _ ⟨a1,a2,a3,⟨⟨by rw[m1,n1],by rw[q1,l1,quadsP_succ];rfl⟩,⟨by rw[m2,n2],by rw[q2,l2,clL_succ]⟩,⟨by rw[m3,n3],by rw[q3,l3,clL_succ]⟩⟩,⟨rfl,rfl,rfl,rfl,rfl,rfl,rfl,rfl,trivial⟩,(by apply List.Sublist.cons;apply List.Sublist.cons;apply List.Sublist.cons;exact List.Sublist.refl _)⟩
           · refine Ta.each [7] (by kernel_rfl) rfl ⟨TaOp.mk rfl rfl rfl (Or.appendAmid (E:=en) (g:=g1) (m:=1) (new:= [.int .i64 (pu j:Nat),.int .i64 (pu j:Nat),.int .i64 k.gap,.int .i64 k.gap]) (yv:=.slice (some ⟨bs1,0,none⟩) 1 1) 5 (fun B=> B++(g2.bl++g3.bl)) (in_one _) rfl rfl rfl rfl rfl rfl rfl rfl rfl rfl rfl rfl rfl rfl rfl (fun H hs=> SrcAt.of (show H bs1=some (true,.cells ⟨[.int .i64 (pu j:Nat),.int .i64 (pu j:Nat),.int .i64 k.gap,.int .i64 k.gap]⟩ 47 (0,0)) from by exact hs.get (i:=1) rfl) (Nat.le_of_ble_eq_true rfl)) rfl (by omega) rfl (by decide) (fun a1 m1 q1=> ⟨S3.mk (by apply List.Sublist.cons;apply List.Sublist.cons;apply List.Sublist.cons;apply List.Sublist.cons;exact List.sublist_append_left _ _) (.inl (by kernel_rfl)),?_⟩)),trivial⟩
             refine Ta.tkwC 17 (by kernel_rfl) rfl rfl rfl (by decide) rfl rfl (OpV.take .fa) ?_
             refine Ta.each [11] (by kernel_rfl) rfl ⟨TaOp.mk rfl rfl rfl (Or.appendAmid (E:=en) (g:=g2) (m:=1) (new:= [.int .i64 (pu j:Nat)]) (yv:=.slice (some ⟨bs2,0,none⟩) 1 1) 5 (fun B=> a1.bl++(B++g3.bl)) (in_mid _ _) rfl rfl rfl rfl rfl rfl rfl rfl rfl rfl rfl rfl rfl rfl rfl (fun H hs=> SrcAt.of (show H bs2=some (true,.cells ⟨[.int .i64 (pu j:Nat)]⟩ 3 (0,0)) from by exact hs.get (i:=0) rfl) (Nat.le_of_ble_eq_true rfl)) rfl (by omega) rfl (by decide) (fun a2 m2 q2=> ⟨S3.mk (by apply List.Sublist.cons;apply List.Sublist.cons;apply List.Sublist.cons;apply List.Sublist.cons;exact List.sublist_append_left _ _) (.inl (by kernel_rfl)),?_⟩)),trivial⟩
             refine Ta.each [16] (by kernel_rfl) rfl ⟨TaOp.mk rfl rfl rfl (Or.appendAmid (E:=en) (g:=g3) (m:=1) (new:= [.int .i64 k.gap]) (yv:=.slice (some ⟨bs3,0,none⟩) 1 1) 5 (fun B=> a1.bl++(a2.bl++B)) (in_last _ _) rfl rfl rfl rfl rfl rfl rfl rfl rfl rfl rfl rfl rfl rfl rfl (fun H hs=> SrcAt.of (show H bs3=some (true,.cells ⟨[.int .i64 k.gap]⟩ 3 (0,0)) from by exact hs.get (i:=2) rfl) (Nat.le_of_ble_eq_true rfl)) rfl (by omega) rfl (by decide) (fun a3 m3 q3=> ⟨S3.mk (by apply List.Sublist.cons;apply List.Sublist.cons;apply List.Sublist.cons;apply List.Sublist.cons;exact List.sublist_append_left _ _) (.inl (by kernel_rfl)),?_⟩)),trivial⟩
             refine Ta.each [18] (by kernel_rfl) rfl ⟨TaOp.mk rfl rfl rfl (.st 3 (zz:=⟨S3.mk (by apply List.Sublist.cons;apply List.Sublist.cons;apply List.Sublist.cons;apply List.Sublist.cons;exact List.sublist_append_left _ _) (.inl (by kernel_rfl)),?_⟩)),trivial⟩
             refine Ta.tkwC 19 (by kernel_rfl) rfl rfl rfl (by decide) rfl rfl (OpV.take .sg) ?_
             refine Ta.tkwC 20 (by kernel_rfl) rfl rfl rfl (by decide) rfl rfl (OpV.take .sg) ?_
             refine Ta.done (by kernel_rfl) ?_
             exact fin _ _ ⟨a1,a2,a3,⟨⟨by rw[m1,n1],by rw[q1,l1,quadsP_succ];rfl⟩,⟨by rw[m2,n2],by rw[q2,l2,clL_succ]⟩,⟨by rw[m3,n3],by rw[q3,l3,clL_succ]⟩⟩,⟨rfl,rfl,rfl,rfl,rfl,rfl,rfl,rfl,trivial⟩,(by apply List.Sublist.cons;apply List.Sublist.cons;apply List.Sublist.cons;exact List.Sublist.refl _)⟩
         · refine Ta.each [6] (by kernel_rfl) rfl ⟨TaOp.mk rfl rfl rfl (.bs (zz:=fun bs1=> ⟨S3.mk (by apply List.Sublist.cons;apply List.Sublist.cons;apply List.Sublist.cons;apply List.Sublist.cons;exact List.sublist_append_left _ _) (.inr (by apply List.Sublist.cons;apply List.Sublist.cons;apply List.Sublist.cons;exact List.Sublist.refl _)),?_⟩)),trivial⟩
           refine Ta.each [7] (by kernel_rfl) rfl ⟨TaOp.mk rfl rfl rfl (Or.appendAmid (E:=en) (g:=g1) (m:=1) (new:= [.int .i64 (pu j:Nat),.int .i64 (pu j:Nat),.int .i64 k.gap,.int .i64 k.gap]) (yv:=.slice (some ⟨bs1,0,none⟩) 1 1) 5 (fun B=> B++(g2.bl++g3.bl)) (in_one _) rfl rfl rfl rfl rfl rfl rfl rfl rfl rfl rfl rfl rfl rfl rfl (fun H hs=> SrcAt.of (show H bs1=some (true,.cells ⟨[.int .i64 (pu j:Nat),.int .i64 (pu j:Nat),.int .i64 k.gap,.int .i64 k.gap]⟩ 47 (0,0)) from by exact hs.get (i:=0) rfl) (Nat.le_of_ble_eq_true rfl)) rfl (by omega) rfl (by decide) (fun a1 m1 q1=> ⟨S3.mk (by apply List.Sublist.cons;apply List.Sublist.cons;apply List.Sublist.cons;apply List.Sublist.cons;exact List.sublist_append_left _ _) (.inl (by kernel_rfl)),?_⟩)),trivial⟩
           refine Ta.tkwC 17 (by kernel_rfl) rfl rfl rfl (by decide) rfl rfl (OpV.take .fa) ?_
           refine Ta.each [11] (by kernel_rfl) rfl ⟨TaOp.mk rfl rfl rfl (Or.appendAmid (E:=en) (g:=g2) (m:=1) (new:= [.int .i64 (pu j:Nat)]) (yv:=.slice (some ⟨bs2,0,none⟩) 1 1) 5 (fun B=> a1.bl++(B++g3.bl)) (in_mid _ _) rfl rfl rfl rfl rfl rfl rfl rfl rfl rfl rfl rfl rfl rfl rfl (fun H hs=> SrcAt.of (show H bs2=some (true,.cells ⟨[.int .i64 (pu j:Nat)]⟩ 3 (0,0)) from by exact hs.get (i:=1) rfl) (Nat.le_of_ble_eq_true rfl)) rfl (by omega) rfl (by decide) (fun a2 m2 q2=> ⟨S3.mk (by apply List.Sublist.cons;apply List.Sublist.cons;apply List.Sublist.cons;apply List.Sublist.cons;exact List.sublist_append_left _ _) (.inl (by kernel_rfl)),?_⟩)),trivial⟩
           refine Ta.each [16] (by kernel_rfl) rfl ⟨TaOp.mk rfl rfl rfl (Or.appendAmid (E:=en) (g:=g3) (m:=1) (new:= [.int .i64 k.gap]) (yv:=.slice (some ⟨bs3,0,none⟩) 1 1) 5 (fun B=> a1.bl++(a2.bl++B)) (in_last _ _) rfl rfl rfl rfl rfl rfl rfl rfl rfl rfl rfl rfl rfl rfl rfl (fun H hs=> SrcAt.of (show H bs3=some (true,.cells ⟨[.int .i64 k.gap]⟩ 3 (0,0)) from by exact hs.get (i:=2) rfl) (Nat.le_of_ble_eq_true rfl)) rfl (by omega) rfl (by decide) (fun a3 m3 q3=> ⟨S3.mk (by apply List.Sublist.cons;apply List.Sublist.cons;apply List.Sublist.cons;apply List.Sublist.cons;exact List.sublist_append_left _ _) (.inl (by kernel_rfl)),?_⟩)),trivial⟩
           refine Ta.each [18] (by kernel_rfl) rfl ⟨TaOp.mk rfl rfl rfl (.st 3 (zz:=⟨S3.mk (by apply List.Sublist.cons;apply List.Sublist.cons;apply List.Sublist.cons;apply List.Sublist.cons;exact List.sublist_append_left _ _) (.inl (by kernel_rfl)),?_⟩)),trivial⟩
           refine Ta.tkwC 19 (by kernel_rfl) rfl rfl rfl (by decide) rfl rfl (OpV.take .sg) ?_
           refine Ta.tkwC 20 (by kernel_rfl) rfl rfl rfl (by decide) rfl rfl (OpV.take .sg) ?_
           refine Ta.done (by kernel_rfl) ?_
           exact fin _ _ ⟨a1,a2,a3,⟨⟨by rw[m1,n1],by rw[q1,l1,quadsP_succ];rfl⟩,⟨by rw[m2,n2],by rw[q2,l2,clL_succ]⟩,⟨by rw[m3,n3],by rw[q3,l3,clL_succ]⟩⟩,⟨rfl,rfl,rfl,rfl,rfl,rfl,rfl,rfl,trivial⟩,(by apply List.Sublist.cons;apply List.Sublist.cons;apply List.Sublist.cons;exact List.Sublist.refl _)⟩
 · rw[if_neg c1] at hK
   refine .seq (.sr ?_)
   refine .m ?_
   refine .c rfl rfl rfl rfl (fun H hs=> .f ca44 rfl (In_c M H (m:Nat) 1 10 false (decide_eq_false (by omega)))) ?_
   refine .x .nt ?_
   refine .done (.tt rfl (.sr ?_))
   refine .g ?_
   refine .done ?_
   refine .rt hK Tryz.func76 Tryz.results76 [_] ?_
   exact fun H' hs=> ⟨View.le_trans hle hs.base,rfl⟩
end
end Go.Proofs.YtdnfdeplcjaonaaGreatDoor
end
section
namespace Go.Proofs.YtdnfdeplcjaonaaGreatDoor
open Go.RL
set_option maxRecDepth 10000
set_option maxHeartbeats 8000000
def hasTo(x:Nat→Int)(n:Nat)(z:Int):Bool:=(firstTo (fun j=> decide (x j=z)) n).isSome
def ascA(x:Nat→Int)(m:Int)(i:Nat):Int:=if decide (0≤x i∧x i≤m-1)=false then 6 else if 0<i∧x (i-1)≥x i then 7 else 0
section
variable(M:Md Tryz.prog)(H:View)
theorem HasNum_c(F:Option Addr)(n fc:Nat)(x:Nat→Int)(hF:FreeAt H F n x)(hn:n≤1000000)(z:Int)(t:Bool)(ht:hasTo x n z=t):CallT M 59 #[.slice F n fc,.int .i64 z] H (fun v H'=> H.le H'∧v=.bool t):=by
 rw[←ht]
 clear ht
 refine CallT.enter (vs:= [.slice F n fc,.int .i64 z]) Tryz.func59 rfl Tryz.ntmps59 (Nat.le_of_ble_eq_true rfl) (SymSt.nil _) fun St c cs hK=> ?_
 refine .sr ?_
 refine .g ?_
 refine .done (.seq (.sr ?_))
 refine .g ?_
 refine .done (.block ?_)
 refine Tc.db (Tc.loopInv (σ:= { j:Nat//j≤n∧firstTo (fun j=> decide (x j=z)) j=none }) (fun j=> ([(0,.slice F n fc),(1,.int .i64 z),(5,.int .i64 (j.1:Nat))],[])) (fun j=> n-j.1) ?_ ⟨0,Nat.zero_le _,rfl⟩)
 rintro⟨j,hj,hno⟩ ih
 show Tc M St _ _ _ _ [(0,.slice F n fc),(1,.int .i64 z),(5,.int .i64 (j:Nat))] [] _ _
 by_cases c1:j=n
 · have e:hasTo x n z=false:=by unfold hasTo;rw[←c1,hno];rfl
   rw[e] at hK
   clear e ih hno
   subst c1
   refine .seq (.sr ?_)
   refine .m ?_
   refine .m ?_
   refine .x .ln ?_
   refine .i ?_ (z:=lss_f (by omega))
   refine .done (.ff rfl (.exit rfl (.sr ?_)))
   refine .g ?_
   refine .done ?_
   refine .rt hK Tryz.func59 Tryz.results59 [_] ?_
   exact fun H' hs=> ⟨hs.base,rfl⟩
 · have c2:j<n:=by omega
   obtain h0|⟨ab,ao,f,gs,gt,gz,rfl,hb,hl⟩:=hF
   · omega
   have f1:=hl j c2
   by_cases c3:x j=z
   · have e:hasTo x n z=true:=by
       unfold hasTo
       rw[firstTo_stays (j:=j+1) (x:=j) (by simp[firstTo,hno,c3]) _ (by omega)]
       rfl
     rw[e] at hK
     refine .seq (.sr ?_)
     refine .m ?_
     refine .m ?_
     refine .x .ln ?_
     refine .i ?_ (z:=lss_t (by omega))
     refine .done (.tt rfl (.skip (.seq (.block (.sr ?_)))))
     refine .m ?_
     refine .m ?_
     refine .x .ia ?_
     refine .x .l0 ?_
     refine .m ?_
     refine .i ?_ (z:=eql_t (by omega))
     refine .done (.tt rfl (.sr ?_))
     refine .g ?_
     refine .done ?_
     refine .rt hK Tryz.func59 Tryz.results59 [_] ?_
     exact fun H' hs=> ⟨hs.base,rfl⟩
   · refine .seq (.sr ?_)
     refine .m ?_
     refine .m ?_
     refine .x .ln ?_
     refine .i ?_ (z:=lss_t (by omega))
     refine .done (.tt rfl (.skip (.seq (.block (.sr ?_)))))
     refine .m ?_
     refine .m ?_
     refine .x .ia ?_
     refine .x .l0 ?_
     refine .m ?_
     refine .i ?_ (z:=eql_f (by omega))
     refine .done (.ff rfl (.skip (.inBlock (.r ?_))))
     refine .m ?_
     refine .i ?_ (z:=add_in (by omega) (by omega))
     refine .g ?_
     refine .done ?_
     exact Tc.db (ih ⟨j+1,by omega,by simp[firstTo,hno,c3]⟩ (by simp only;omega))
theorem AscendingN_c(F:Option Addr)(n fc:Nat)(x:Nat→Int)(hF:FreeAt H F n x)(hn:n≤1000000)(m:Int)(hm:0≤m∧m≤1000000):CallT M 75 #[.slice F n fc,.int .i64 m] H (fun v H'=> H.le H'∧v=.int .i64 (firstA (ascA x m) n)):=by
 refine CallT.enter (vs:= [.slice F n fc,.int .i64 m]) Tryz.func75 rfl Tryz.ntmps75 (Nat.le_of_ble_eq_true rfl) (SymSt.nil _) fun St c cs hK=> ?_
 refine .sr ?_
 refine .g ?_
 refine .done (.seq (.sr ?_))
 refine .g ?_
 refine .done (.block ?_)
 refine Tc.db (Tc.loopInv (σ:= { j:Nat//j≤n∧firstA (ascA x m) j=0 }) (fun j=> ([(0,.slice F n fc),(1,.int .i64 m),(5,.int .i64 (j.1:Nat))],[])) (fun j=> n-j.1) ?_ ⟨0,Nat.zero_le _,rfl⟩)
 rintro⟨j,hj,hno⟩ ih
 show Tc M St _ _ _ _ [(0,.slice F n fc),(1,.int .i64 m),(5,.int .i64 (j:Nat))] [] _ _
 by_cases c1:j=n
 · clear ih
   subst c1
   rw[hno] at hK
   refine .seq (.sr ?_)
   refine .m ?_
   refine .m ?_
   refine .x .ln ?_
   refine .i ?_ (z:=lss_f (by omega))
   refine .done (.ff rfl (.exit rfl (.sr ?_)))
   refine .g ?_
   refine .done ?_
   refine .rt hK Tryz.func75 Tryz.results75 [_] ?_
   exact fun H' hs=> ⟨hs.base,rfl⟩
 · have c2:j<n:=by omega
   obtain h0|⟨ab,ao,f,gs,gt,gz,rfl,hb,hl⟩:=hF
   · omega
   have f1:=hl j c2
   cases q0:decide (0≤x j∧x j≤m-1) with
   | false=>
     rw[firstA_at hno (a:=6) (by unfold ascA;rw[if_pos q0]) (by decide) c2] at hK
     refine .seq (.sr ?_)
     refine .m ?_
     refine .m ?_
     refine .x .ln ?_
     refine .i ?_ (z:=lss_t (by omega))
     refine .done (.tt rfl (.skip (.seq (.block (.seq (.sr ?_))))))
     refine .m ?_
     refine .m ?_
     refine .x .ia ?_
     refine .x .l0 ?_
     refine .m ?_
     refine .i ?_ (z:=sub_in (by omega) (by omega))
     refine .c rfl rfl rfl rfl (fun H hs=> .f ca44 rfl (In_c M H (x j) 0 (m-1) _ q0)) ?_
     refine .x .nt ?_
     refine .done (.tt rfl (.sr ?_))
     refine .g ?_
     refine .done ?_
     refine .rt hK Tryz.func75 Tryz.results75 [_] ?_
     exact fun H' hs=> ⟨hs.base,rfl⟩
   | true=>
     by_cases c3:j=0
     · have eA:ascA x m j=0:=by unfold ascA;rw[if_neg (by rw[q0];decide),if_neg (by omega)]
       refine .seq (.sr ?_)
       refine .m ?_
       refine .m ?_
       refine .x .ln ?_
       refine .i ?_ (z:=lss_t (by omega))
       refine .done (.tt rfl (.skip (.seq (.block (.seq (.sr ?_))))))
       refine .m ?_
       refine .m ?_
       refine .x .ia ?_
       refine .x .l0 ?_
       refine .m ?_
       refine .i ?_ (z:=sub_in (by omega) (by omega))
       refine .c rfl rfl rfl rfl (fun H hs=> .f ca44 rfl (In_c M H (x j) 0 (m-1) _ q0)) ?_
       refine .x .nt ?_
       refine .done (.ff rfl (.skip (.seq ?_)))
       refine Tc.dr [] [] mixed rfl ?_
       refine .q 0 rfl .mv ?_
       refine .q 1 rfl (.it (zz:=gtr_f (by omega))) ?_
       refine .q 2 rfl .mv ?_
       refine Ta.ps 3 (by kernel_rfl) rfl rfl rfl (by decide) rfl rfl ?_
       refine Ta.ps 4 (by kernel_rfl) rfl rfl rfl (by decide) rfl rfl ?_
       refine Ta.ps 5 (by kernel_rfl) rfl rfl rfl (by decide) rfl rfl ?_
       refine Ta.ps 6 (by kernel_rfl) rfl rfl rfl (by decide) rfl rfl ?_
       refine Ta.ps 7 (by kernel_rfl) rfl rfl rfl (by decide) rfl rfl ?_
       refine Ta.ps 8 (by kernel_rfl) rfl rfl rfl (by decide) rfl rfl ?_
       refine Ta.ps 9 (by kernel_rfl) rfl rfl rfl (by decide) rfl rfl ?_
       refine Ta.ps 10 (by kernel_rfl) rfl rfl rfl (by decide) rfl rfl ?_
       refine Ta.ps 11 (by kernel_rfl) rfl rfl rfl (by decide) rfl rfl ?_
       refine Ta.ps 12 (by kernel_rfl) rfl rfl rfl (by decide) rfl rfl ?_
       refine .q 13 rfl .pk ?_
       refine Ta.done (by kernel_rfl) ?_
       refine .ff rfl (.skip (.inBlock (.r ?_)))
       refine .m ?_
       refine .i ?_ (z:=add_in (by omega) (by omega))
       refine .g ?_
       refine .done ?_
       exact Tc.db (ih ⟨j+1,by omega,by rw[firstA,if_pos hno];exact eA⟩ (by simp only;omega))
     · have f2:ldL false 1 gs (ao+(((j:Nat):Int)-1).toNat*1)=some (.int .i64 (x (j-1))):=by
         have:=hl (j-1) (by omega)
         rw[show(((j-1:Nat):Int)).toNat=(((j:Nat):Int)-1).toNat by omega] at this
         exact this
       by_cases c4:x (j-1)≥x j
       · rw[firstA_at hno (a:=7) (by unfold ascA;rw[if_neg (by rw[q0];decide),if_pos ⟨by omega,c4⟩]) (by decide) c2] at hK
         refine .seq (.sr ?_)
         refine .m ?_
         refine .m ?_
         refine .x .ln ?_
         refine .i ?_ (z:=lss_t (by omega))
         refine .done (.tt rfl (.skip (.seq (.block (.seq (.sr ?_))))))
         refine .m ?_
         refine .m ?_
         refine .x .ia ?_
         refine .x .l0 ?_
         refine .m ?_
         refine .i ?_ (z:=sub_in (by omega) (by omega))
         refine .c rfl rfl rfl rfl (fun H hs=> .f ca44 rfl (In_c M H (x j) 0 (m-1) _ q0)) ?_
         refine .x .nt ?_
         refine .done (.ff rfl (.skip (.seq ?_)))
         refine Tc.dr [] [] mixed rfl ?_
         refine .q 0 rfl .mv ?_
         refine .q 1 rfl (.it (zz:=gtr_t (by omega))) ?_
         refine .q 2 rfl .mv ?_
         refine .q 3 rfl .mv ?_
         refine .q 4 rfl .mv ?_
         refine .q 5 rfl (.it (zz:=sub_in (by omega) (by omega))) ?_
         refine .q 6 rfl .ia ?_
         refine .q 7 rfl .l0 ?_
         refine .q 8 rfl .mv ?_
         refine .q 9 rfl .mv ?_
         refine .q 10 rfl .ia ?_
         refine .q 11 rfl .l0 ?_
         refine .q 12 rfl (.it (zz:=geq_t (by omega))) ?_
         refine .q 13 rfl .pk ?_
         refine Ta.done (by kernel_rfl) ?_
         refine .tt rfl (.sr ?_)
         refine .g ?_
         refine .done ?_
         refine .rt hK Tryz.func75 Tryz.results75 [_] ?_
         exact fun H' hs=> ⟨hs.base,rfl⟩
       · have eA:ascA x m j=0:=by unfold ascA;rw[if_neg (by rw[q0];decide),if_neg (by omega)]
         refine .seq (.sr ?_)
         refine .m ?_
         refine .m ?_
         refine .x .ln ?_
         refine .i ?_ (z:=lss_t (by omega))
         refine .done (.tt rfl (.skip (.seq (.block (.seq (.sr ?_))))))
         refine .m ?_
         refine .m ?_
         refine .x .ia ?_
         refine .x .l0 ?_
         refine .m ?_
         refine .i ?_ (z:=sub_in (by omega) (by omega))
         refine .c rfl rfl rfl rfl (fun H hs=> .f ca44 rfl (In_c M H (x j) 0 (m-1) _ q0)) ?_
         refine .x .nt ?_
         refine .done (.ff rfl (.skip (.seq ?_)))
         refine Tc.dr [] [] mixed rfl ?_
         refine .q 0 rfl .mv ?_
         refine .q 1 rfl (.it (zz:=gtr_t (by omega))) ?_
         refine .q 2 rfl .mv ?_
         refine .q 3 rfl .mv ?_
         refine .q 4 rfl .mv ?_
         refine .q 5 rfl (.it (zz:=sub_in (by omega) (by omega))) ?_
         refine .q 6 rfl .ia ?_
         refine .q 7 rfl .l0 ?_
         refine .q 8 rfl .mv ?_
         refine .q 9 rfl .mv ?_
         refine .q 10 rfl .ia ?_
         refine .q 11 rfl .l0 ?_
         refine .q 12 rfl (.it (zz:=geq_f (by omega))) ?_
         refine .q 13 rfl .pk ?_
         refine Ta.done (by kernel_rfl) ?_
         refine .ff rfl (.skip (.inBlock (.r ?_)))
         refine .m ?_
         refine .i ?_ (z:=add_in (by omega) (by omega))
         refine .g ?_
         refine .done ?_
         exact Tc.db (ih ⟨j+1,by omega,by rw[firstA,if_pos hno];exact eA⟩ (by simp only;omega))
end
end Go.Proofs.YtdnfdeplcjaonaaGreatDoor
end
section
namespace Go.Proofs.YtdnfdeplcjaonaaGreatDoor
open Go.RL
set_option maxRecDepth 10000
set_option maxHeartbeats 1000000
theorem Bk.mem_hits {k:Bk}{w:Nat}{z:Int}:z∈k.hits w↔∃x∈slipsL (k.num w),∃j,k.line x=some j∧j≠w∧z=(j:Nat):=by
 unfold Bk.hits
 rw[List.mem_filterMap]
 constructor
 · rintro⟨x,hx,h⟩
   refine⟨x,hx,?_⟩
   unfold Bk.hit at h
   cases e:k.line x with
   | none=> rw[e] at h;cases h
   | some j=>
     rw[e] at h
     by_cases c:j=w
     · simp[c] at h
     · simp only[if_neg c,Option.some.injEq] at h
       exact⟨j,rfl,c,h.symm⟩
 · rintro⟨x,hx,j,h1,h2,rfl⟩
   refine⟨x,hx,?_⟩
   unfold Bk.hit
   rw[h1]
   exact if_neg h2
theorem mem_slipsL {s x:List UInt8}:x∈slipsL s↔∃j,j<s.length∧∃more:Bool,(1≤(if more then pnAt s j+1 else pnAt s j-1)∧(if more then pnAt s j+1 else pnAt s j-1)≤10)∧x=slip s j (if more then pnAt s j+1 else pnAt s j-1):=by
 unfold slipsL
 rw[mem_slipsFrom]
 have h:∀j m,x∈slipAt s j m↔(1≤m∧m≤10)∧x=slip s j m:=by
   intro j m
   unfold slipAt
   split
   · rename_i h;simp[h]
   · rename_i h;simp[h]
 constructor
 · rintro⟨j,_,hj,hx⟩
   unfold slipsAt at hx
   rcases List.mem_append.1 hx with hx|hx
   · exact⟨j,hj,false,(h _ _).1 hx⟩
   · exact⟨j,hj,true,(h _ _).1 hx⟩
 · rintro⟨j,hj,more,hx⟩
   refine⟨j,Nat.zero_le _,hj,?_⟩
   unfold slipsAt
   cases more with
   | false=> exact List.mem_append_left _ ((h _ _).2 hx)
   | true=> exact List.mem_append_right _ ((h _ _).2 hx)
theorem Bk.hits_in {k:Bk}{w:Nat}{z:Int}(h:z∈k.hits w):0≤z∧z<(k.nl:Nat)∧z≠(w:Nat):=by
 obtain⟨x,_,j,h1,h2,rfl⟩:=Bk.mem_hits.1 h
 have:=(Bk.line_at h1).1
 omega
theorem slipTo_hit {k:Bk}(ha:k.alarm=0){w:Nat}(hw:w<k.nl){i:Nat}(hi:i<(k.num w).length)(more:Bool)(h:0≤k.slipTo w i more):k.slipTo w i more∈k.hits w:=by
 obtain⟨hdg,hl1,hl3⟩:=Bk.isNum_of ha hw
 unfold Bk.slipTo at h ⊢
 generalize hm:(if more then pnAt (k.num w) i+1 else pnAt (k.num w) i-1)=m at h ⊢
 by_cases c:1≤m∧m≤10
 · rw[if_pos c] at h ⊢
   cases e:k.line (slip (k.num w) i m) with
   | none=> rw[e] at h;exact absurd h (by decide)
   | some j=>
     refine Bk.mem_hits.2 ⟨slip (k.num w) i m,mem_slipsL.2 ⟨i,hi,more,by rw[hm];exact c,by rw[hm]⟩,j,e,fun hj=> ?_,rfl⟩
     subst hj
     have hp:=(Bk.line_at e).2
     have hlen:(slip (k.num j) i m).length=(k.num j).length:=by
       unfold slip
       simp only[List.length_append,List.length_take,List.length_drop,List.length_cons,List.length_nil]
       omega
     have heq:=hp.eq_of_length hlen.symm
     have hpa:=pnAt_in hdg i
     have h5:digB m=(k.num j)[i]:=by
       have h6:(slip (k.num j) i m)[i]? =some (digB m):=by
         unfold slip
         rw[List.getElem?_append_left (by simp;omega),List.getElem?_append_right (by simp;omega)]
         simp[Nat.min_eq_left (Nat.le_of_lt hi)]
       rw[←heq,List.getElem?_eq_getElem hi] at h6
       exact(Option.some.inj h6).symm
     have h7:digB (pnAt (k.num j) i)=(k.num j)[i]:=by
       unfold pnAt
       rw[List.getElem?_eq_getElem hi]
       exact dig_pn (List.all_eq_true.1 hdg _ (List.getElem_mem _))
     have h8:=digB_inj c hpa (h5.trans h7.symm)
     cases more <;> simp at hm <;> omega
 · rw[if_neg c] at h
   exact absurd h (by decide)
def slipAll(k:Bk)(w:Nat)(n:Nat):List Int:=(List.range n).flatMap fun j=> [k.slipTo w j true,k.slipTo w j false]
theorem slipAll_succ(k:Bk)(w n:Nat):slipAll k w (n+1)=slipAll k w n++[k.slipTo w n true,k.slipTo w n false]:=by
 unfold slipAll
 rw[List.range_succ,List.flatMap_append]
 rfl
theorem slipAll_len(k:Bk)(w:Nat):∀n,(slipAll k w n).length=2*n
 | 0=> rfl
 | n+1=> by rw[slipAll_succ,List.length_append,slipAll_len k w n];show 2*n+2=_;omega
theorem hit_all {k:Bk}{w:Nat}{z:Int}(h:z∈k.hits w):z∈slipAll k w (k.num w).length:=by
 obtain⟨x,hx,j,h1,_,rfl⟩:=Bk.mem_hits.1 h
 obtain⟨i,hi,more,hm,rfl⟩:=mem_slipsL.1 hx
 unfold slipAll
 rw[List.mem_flatMap]
 refine⟨i,List.mem_range.2 hi,?_⟩
 have e:k.slipTo w i more=((j:Nat):Int):=by
   unfold Bk.slipTo
   rw[if_pos hm,h1]
   rfl
 rw[←e]
 cases more <;> simp
theorem hasTo_mem(l:List Int){n:Nat}(hn:n=l.length)(z:Int)(t:Bool)(ht:t=true↔z∈l):hasTo (exAt l) n z=t:=by
 unfold hasTo
 subst hn
 cases e:firstTo (fun j=> decide (exAt l j=z)) l.length with
 | some i=>
   have h1:=of_decide_eq_true (firstTo_true _ e)
   have h2:=firstTo_in _ e
   unfold exAt at h1
   rw[List.getElem?_eq_getElem h2] at h1
   have h3:z∈l:=by rw[←h1];exact List.getElem_mem _
   rw[ht.2 h3]
   rfl
 | none=>
   have h1:=(firstTo_none _).1 e
   cases t with
   | false=> rfl
   | true=>
     obtain⟨i,hi,h2⟩:=List.getElem_of_mem (ht.1 rfl)
     have:=h1 i hi
     unfold exAt at this
     rw[List.getElem?_eq_getElem hi] at this
     simp[h2] at this
theorem firstA_none {f:Nat→Int}:∀n,(∀i,i<n→f i=0)→firstA f n=0
 | 0,_=> rfl
 | n+1,h=> by rw[firstA,if_pos (firstA_none n fun i hi=> h i (by omega))];exact h n (by omega)
theorem asc_fine {l:List Int}(h:l.Pairwise (· < ·)){m:Int}(hin:∀z∈l,0≤z∧z<m){n:Nat}(hn:n=l.length):firstA (ascA (exAt l) m) n=0:=by
 subst hn
 refine firstA_none _ fun i hi=> ?_
 have e:∀j,j<l.length→exAt l j=l[j]?.getD 0:=fun j _=> rfl
 have h1:=hin (exAt l i) (by rw[e i hi,List.getElem?_eq_getElem hi];exact List.getElem_mem _)
 unfold ascA
 rw[if_neg (by simp;omega),if_neg]
 rintro⟨h2,h3⟩
 have h4:=List.pairwise_iff_getElem.1 h (i-1) i (by omega) hi (by omega)
 rw[e i hi,e (i-1) (by omega),List.getElem?_eq_getElem hi,List.getElem?_eq_getElem (show i-1<l.length by omega)] at h3
 simp only[Option.getD_some] at h3
 omega
section
variable(M:Md Tryz.prog)(H:View)
theorem Slips_l(k:Bk)(A:Option Addr)(lc:Nat)(B:Option Addr)(tc:Nat)(hk:BkAt H k A lc B tc)(hn:k.small)(hG:Glob H)(ha:k.alarm=0)(line:Nat)(hl:line<k.nl):
   CallT M 58 #[k.val A lc B tc,.int .i64 (line:Nat)] H (fun v H'=> H.le H'∧∃(G:Option Addr) (n c:Nat),n=(ascI (k.hits line)).length∧v=.tuple ⟨[.slice G n c,.int .i64 0]⟩∧FreeAt H' G n (exAt (ascI (k.hits line)))):=
 CallT.mono (Slips_c M H k A lc B tc hk hn hG ha line hl) (by
   rintro v H' ⟨h1,g,m,rfl,⟨h2,h3⟩,⟨h4,h5⟩,h6⟩
   have e:ddTo m m.length=ascI (k.hits line):=by
     have hml:m.length=(k.hits line).length:=h2.len
     rw[hml]
     exact ints_asc rfl h2 h3
   rw[e] at h4 h5
   refine⟨h1,g.blk.map (fun b=> ⟨b,0,none⟩),g.n,g.cap,h4,rfl,?_⟩
   rw[h4]
   exact cl_at g (fun x hx=> (h6 x hx).1) (h5.trans (clL_ints _)) h4)
end
end Go.Proofs.YtdnfdeplcjaonaaGreatDoor
end
section
namespace Go.Proofs.YtdnfdeplcjaonaaGreatDoor
open Go.RL
set_option maxRecDepth 10000
set_option maxHeartbeats 16000000
section
variable(H:View)
theorem Slipped_w {St:View→Goroutine→Prop}{cs:List Frame}(hG:Glob H)(k:Bk)(A:Option Addr)(lc:Nat)(B:Option Addr)(tc:Nat)(hk:BkAt H k A lc B tc)(p:Int)(hp:0≤p∧p≤255)(q:Int)(hq:0≤q∧q≤255)(more:Bool)
   (hR:∀(H₀:View) (R:Rg) (L:Bl) (kk:List Item),lk R 8=some (.bool true)→H.le H₀→Tc (Mp Tryz.prog) St 117 ⟨15,.normal,none⟩ H₀ cs R L [] (.code .ret::kk)):
   Tc (Mp Tryz.prog) St 117 ⟨15,.normal,none⟩ H cs (argR [k.val A lc B tc,.int .u8 p,.int .u8 q,.bool more]) [] [] [.code (bodyOf Tryz.f15)]:=by
 have hlives:=fun(H':View) (h:H.le H')=> lives_c H' (glob_le hG h)
 have hfitc:=fun(H':View) (h:H.le H')=> Fit_c (Mp Tryz.prog) H' k A lc B tc (hk.le h)
 cases hfit:k.fit with
 | false=>
   refine .sr ?_
   refine .e (.bx (zz:=fun b4=> ?_))
   refine .g ?_
   refine .done (.seq (.sr ?_))
   refine .x (.ld 0) ?_
   refine .c rfl rfl rfl rfl (fun H hs=> .f ca38 rfl (hfitc H hs.base false hfit)) ?_
   refine .x .nt ?_
   refine .m ?_
   refine .sk ?_
   refine .sk ?_
   refine .sk ?_
   refine .sk ?_
   refine .x .pk ?_
   refine .done (.tt rfl (.sr ?_))
   refine .c rfl rfl rfl rfl (fun H hs=> .f ca18 rfl (hlives H hs.base)) ?_
   refine .g ?_
   refine .done ?_
   exact hR _ _ _ _ rfl (View.le_refl _)
 | true=>
   obtain⟨hgr,hal⟩:k.great=false∧k.alarm=0:=by
     unfold Bk.fit at hfit
     rw[Bool.and_eq_true] at hfit
     exact⟨by simpa using hfit.1,of_decide_eq_true hfit.2⟩
   have hsm:k.small:=Bk.ungreat_small hgr
   obtain⟨hgg,hnl6,_,_⟩:=Bk.valid hal
   rcases Nat.eq_zero_or_pos k.nl with h0|h0
   · refine .sr ?_
     refine .e (.bx (zz:=fun b4=> ?_))
     refine .g ?_
     refine .done (.seq (.sr ?_))
     refine .x (.ld 0) ?_
     refine .c rfl rfl rfl rfl (fun H hs=> .f ca38 rfl (hfitc H hs.base true hfit)) ?_
     refine .x .nt ?_
     refine .m ?_
     refine .x .fa ?_
     refine .x (.ld 0) ?_
     refine .x .ln ?_
     refine .i ?_ (z:=eql_t (by omega))
     refine .x .pk ?_
     refine .done (.tt rfl (.sr ?_))
     refine .c rfl rfl rfl rfl (fun H hs=> .f ca18 rfl (hlives H hs.base)) ?_
     refine .g ?_
     refine .done ?_
     exact hR _ _ _ _ rfl (View.le_refl _)
   obtain⟨w,hw,hwp⟩:∃w:Nat,w<k.nl∧p%(k.nl:Nat)=(w:Nat):=by
     have h1:=Int.emod_nonneg p (show((k.nl:Nat):Int)≠0 by omega)
     have h2:=Int.emod_lt_of_pos p (show(0:Int)<(k.nl:Nat) by omega)
     exact⟨(p%(k.nl:Nat)).toNat,by omega,by omega⟩
   obtain⟨hdg,hl1,hl3⟩:=Bk.isNum_of hal hw
   obtain⟨i,hi,hiq⟩:∃i:Nat,i<(k.num w).length∧q%((k.num w).length:Nat)=(i:Nat):=by
     have h1:=Int.emod_nonneg q (show(((k.num w).length:Nat):Int)≠0 by omega)
     have h2:=Int.emod_lt_of_pos q (show(0:Int)<((k.num w).length:Nat) by omega)
     exact⟨(q%((k.num w).length:Nat)).toNat,by omega,by omega⟩
   have w1:IntKind.i64.wrap p=p:=wrap64 (by omega) (by omega)
   have w2:IntKind.i64.wrap q=q:=wrap64 (by omega) (by omega)
   have e1:intBin .rem .i64 p (k.nl:Nat)=some (.int .i64 (w:Nat)):=by rw[rem_in (by omega) (by omega),hwp]
   have e2:intBin .rem .i64 q ((k.num w).length:Nat)=some (.int .i64 (i:Nat)):=by rw[rem_in (by omega) (by omega),hiq]
   have hsl:=fun(H':View) (h:H.le H') (j:Nat) (hj:j<(k.num w).length) (b:Bool)=> slipped_c (Mp Tryz.prog) H' k A lc B tc (hk.le h) hsm (glob_le hG h) hal w hw j hj b
   have hasc0:(ascI (k.hits w)).Pairwise (· < ·):=ascI_asc _
   have hin0:∀z∈ascI (k.hits w),0≤z∧z<(k.nl:Nat):=fun z hz=> by have:=Bk.hits_in ((mem_ascI _).1 hz);omega
   have hnw0:¬((w:Nat):Int)∈ascI (k.hits w):=fun hz=> (Bk.hits_in ((mem_ascI _).1 hz)).2.2 rfl
   have hz0:0≤k.slipTo w i more→k.slipTo w i more∈ascI (k.hits w):=fun h=> (mem_ascI _).2 (slipTo_hit hal hw hi more h)
   have hall0:∀z∈ascI (k.hits w),z∈slipAll k w (k.num w).length:=fun z hz=> hit_all ((mem_ascI _).1 hz)
   have hz1: -1≤k.slipTo w i more:=by
     unfold Bk.slipTo
     generalize (if more then pnAt (k.num w) i+1 else pnAt (k.num w) i-1)=m
     split
     · cases k.line (slip (k.num w) i m) with
       | none=> exact Int.le_refl _
       | some x=> show(-1:Int)≤(x:Nat);omega
     · exact Int.le_refl _
   have hll0:(ascI (k.hits w)).length≤1000:=by
     have h1:=nodup_le (l:=ascI (k.hits w)) (m:=k.hits w) (hasc0.imp fun h=> by omega) (fun x hx=> (mem_ascI _).1 hx)
     have h2:=Bk.hits_len hal hw
     omega
   have hslips:=Slips_l (Mp Tryz.prog) H k A lc B tc hk hsm hG hal w hw
   obtain⟨hlc,hz|⟨ab,ao,fa,gs,gt,gz,rfl,hab,hrow⟩⟩:=id hk.rows
   · omega
   obtain⟨F,fc,f1,_,_⟩:=hrow w hw
   have f2:ldL false 1 gs (ao+((w:Nat):Int).toNat*3+1)=some (strV (k.num w)):=ldL_cell f1 (by decide)
   generalize hLe:ascI (k.hits w)=Ls at *
   refine .sr ?_
   refine .e (.bx (zz:=fun b4=> ?_))
   refine .g ?_
   refine .done (.seq (.sr ?_))
   refine .x (.ld 0) ?_
   refine .c rfl rfl rfl rfl (fun H hs=> .f ca38 rfl (hfitc H hs.base true hfit)) ?_
   refine .x .nt ?_
   refine .m ?_
   refine .x .fa ?_
   refine .x (.ld 0) ?_
   refine .x .ln ?_
   refine .i ?_ (z:=eql_f (by omega))
   refine .x .pk ?_
   refine .done (.ff rfl (.skip (.sr ?_)))
   refine .m ?_
   refine .x .cv ?_
   refine .x .fa ?_
   refine .x (.ld 0) ?_
   refine .x .ln ?_
   refine .i ?_ (z:=by assumption)
   refine .g ?_
   refine .done (.sr ?_)
   refine .x (.ld 0) ?_
   refine .m ?_
   refine To.callF rfl rfl rfl rfl rfl rfl (by decide) (FnT.f ca58 rfl hslips) (fun v H₂ hv=> ?_)
   obtain⟨hle,G,n,gc,hn,rfl,hF⟩:=hv
   have hb2:=hle _ _ hab
   have hasc:=fun(H':View) (h:H₂.le H')=> isV (AscendingN_c (Mp Tryz.prog) H' G n gc (exAt Ls) (hF.le h) (by omega) (k.nl:Nat) (by omega)) (w':=.int .i64 0) (by rw[asc_fine hasc0 hin0 hn])
   have hhas:=fun(H':View) (h:H₂.le H') (z:Int) (t:Bool) (ht:t=true↔z∈Ls)=> HasNum_c (Mp Tryz.prog) H' G n gc (exAt Ls) (hF.le h) (by omega) z t (hasTo_mem Ls hn z t ht)
   generalize hzz:k.slipTo w i more=z at hz0 hz1
   have hsl0:=fun(H':View) (h:H.le H')=> isV (hsl H' h i hi more) (w':=.int .i64 z) (by rw[hzz])
   refine .m ?_
   refine .x .et ?_
   refine .x .et ?_
   refine .g ?_
   refine .g ?_
   refine .done (.seq (.sr ?_))
   refine .m ?_
   refine .i ?_ (z:=neq_f (by omega))
   refine .m ?_
   refine .m ?_
   refine .x .fa ?_
   refine .x (.ld 0) ?_
   refine .x .ln ?_
   refine .c rfl rfl rfl rfl (fun H hs=> .f ca75 rfl (hasc H hs.base)) ?_
   refine .i ?_ (z:=neq_f (by omega))
   refine .x .pk ?_
   refine .m ?_
   refine .m ?_
   refine .m ?_
   refine .c rfl rfl rfl rfl (fun H hs=> .f ca59 rfl (hhas H hs.base (w:Nat) false (by simp[hnw0]))) ?_
   refine .x .pk ?_
   refine .done (.ff rfl (.skip (.sr ?_)))
   refine .m ?_
   refine .x .cv ?_
   refine .x .fa ?_
   refine .x (.ld 0) ?_
   refine .m ?_
   refine .x .ia ?_
   refine .x .fa ?_
   refine .x .l0 ?_
   refine .x (OpV.lenS (E:=en) rfl rfl rfl rfl rfl rfl rfl) ?_
   refine .i ?_ (z:=by assumption)
   refine .g ?_
   refine .done (.seq ?_)
   refine Tc.via (fun R' L'=> AllIn [(4,.pointer (some ⟨b4,0,none⟩)),(9,.int .i64 (w:Nat)),(10,.slice G n gc)] R'∧List.Sublist [(b4,true,.cells ⟨(k.val (some ⟨ab,ao,none⟩) lc B tc).cells.toList⟩ 25 (0,0))] L') ?_ (fun fin=> ?_)
   rotate_left
   · rcases(by omega:z= -1∨0≤z) with c1|c1
     · refine .sr ?_
       refine .x (.ld 0) ?_
       refine .m ?_
       refine .m ?_
       refine .m ?_
       refine .c rfl rfl rfl rfl (fun H hs=> .f ca76 rfl (hsl0 H (View.le_trans hle hs.base))) ?_
       refine .g ?_
       refine .done (.sr ?_)
       refine .m ?_
       refine .i ?_ (z:=eql_f (by omega))
       refine .m ?_
       refine .m ?_
       refine .i ?_ (z:=geq_f (by omega))
       refine .m ?_
       refine .sk ?_
       refine .sk ?_
       refine .sk ?_
       refine .sk ?_
       refine .x .pk ?_
       refine .x .pk ?_
       refine .done (.ff rfl (.skip ?_))
       exact fin _ _ ⟨⟨rfl,rfl,rfl,trivial⟩,(by exact List.Sublist.refl _)⟩
     · refine .sr ?_
       refine .x (.ld 0) ?_
       refine .m ?_
       refine .m ?_
       refine .m ?_
       refine .c rfl rfl rfl rfl (fun H hs=> .f ca76 rfl (hsl0 H (View.le_trans hle hs.base))) ?_
       refine .g ?_
       refine .done (.sr ?_)
       refine .m ?_
       refine .i ?_ (z:=eql_f (by omega))
       refine .m ?_
       refine .m ?_
       refine .i ?_ (z:=geq_t (by omega))
       refine .m ?_
       refine .m ?_
       refine .m ?_
       refine .c rfl rfl rfl rfl (fun H hs=> .f ca59 rfl (hhas H hs.base z true (by simp[hz0 c1]))) ?_
       refine .x .nt ?_
       refine .x .pk ?_
       refine .x .pk ?_
       refine .done (.ff rfl (.skip ?_))
       exact fin _ _ ⟨⟨rfl,rfl,rfl,trivial⟩,(by exact List.Sublist.refl _)⟩
   rintro R' L' ⟨hR1,hL1⟩
   refine Tc.dropB (R':= [(4,.pointer (some ⟨b4,0,none⟩)),(9,.int .i64 (w:Nat)),(10,.slice G n gc)]) (L':= [(b4,true,.cells ⟨(k.val (some ⟨ab,ao,none⟩) lc B tc).cells.toList⟩ 25 (0,0))]) ?_ hR1 hL1
   clear hR1 hL1 hsl0 hz0 hz1 hzz e2 hiq
   refine .sr ?_
   refine .g ?_
   refine .done (.seq (.sr ?_))
   refine .g ?_
   refine .done (.block ?_)
   refine Tc.db (Tc.loopInv (σ:= { x:Nat×Gl 3 1//x.1≤(k.num w).length∧x.2.l=intsL (slipAll k w x.1) }) (fun x=> ([(4,.pointer (some ⟨b4,0,none⟩)),(9,.int .i64 (w:Nat)),(10,.slice G n gc),(14,x.1.2.val),(15,.int .i64 (x.1.1:Nat))],([(b4,true,.cells ⟨(k.val (some ⟨ab,ao,none⟩) lc B tc).cells.toList⟩ 25 (0,0))]++x.1.2.bl))) (fun x=> (k.num w).length-x.1.1) ?_ ⟨(0,Gl.nil 3 1),Nat.zero_le _,rfl⟩)
   rintro⟨⟨j,g⟩,hj,hgl⟩ ih
   simp only at hj hgl
   show Tc (Mp Tryz.prog) St _ _ _ _ [(4,.pointer (some ⟨b4,0,none⟩)),(9,.int .i64 (w:Nat)),(10,.slice G n gc),(14,g.val),(15,.int .i64 (j:Nat))] ([(b4,true,.cells ⟨(k.val (some ⟨ab,ao,none⟩) lc B tc).cells.toList⟩ 25 (0,0))]++g.bl) _ _
   have hgn:g.n=(slipAll k w j).length:=by have:=g.hl;rw[hgl,intsL_len] at this;omega
   have hal2:=slipAll_len k w j
   by_cases d1:j=(k.num w).length
   · clear ih
     subst d1
     have hgF:=fun(H':View) (h:∀x∈g.bl,H' x.1=some x.2)=> cl_at g h (hgl.trans (clL_ints _)) hgn
     have hgv:g.val=.slice (g.blk.map fun b=> ⟨b,0,none⟩) (slipAll k w (k.num w).length).length g.cap:=by unfold Gl.val;rw[hgn]
     have hha:=fun(H':View) (h:∀x∈g.bl,H' x.1=some x.2) (y:Int) (hy:y∈Ls)=> HasNum_c (Mp Tryz.prog) H' (g.blk.map fun b=> ⟨b,0,none⟩) _ g.cap _ (hgF H' h) (by omega) y true (hasTo_mem _ rfl y true (by simp[hall0 y hy]))
     refine .seq (.sr ?_)
     refine .m ?_
     refine .x .fa ?_
     refine .x (.ld 0) ?_
     refine .m ?_
     refine .x .ia ?_
     refine .x .fa ?_
     refine .x .l0 ?_
     refine .x (OpV.lenS (E:=en) rfl rfl rfl rfl rfl rfl rfl) ?_
     refine .i ?_ (z:=lss_f (by omega))
     refine .done (.ff rfl (.exit rfl (.seq (.sr ?_))))
     refine .g ?_
     refine .done (.block ?_)
     refine Tc.db (Tc.loopInv (σ:= { j:Nat//j≤n }) (fun j=> ([(10,.slice G n gc),(14,g.val),(16,.int .i64 (j.1:Nat))],g.bl)) (fun j=> n-j.1) ?_ ⟨0,Nat.zero_le _⟩)
     rintro⟨j,hj⟩ ih
     show Tc (Mp Tryz.prog) St _ _ _ _ [(10,.slice G n gc),(14,g.val),(16,.int .i64 (j:Nat))] g.bl _ _
     by_cases d2:j=n
     · clear ih
       refine .seq (.sr ?_)
       refine .m ?_
       refine .m ?_
       refine .x .ln ?_
       refine .i ?_ (z:=lss_f (by omega))
       refine .done (.ff rfl (.exit rfl (.sr ?_)))
       refine .c rfl rfl rfl rfl (fun H hs=> .f ca18 rfl (hlives H (View.le_trans hle hs.base))) ?_
       refine .g ?_
       refine .done ?_
       exact hR _ _ _ _ rfl hle
     · have d3:j<n:=by omega
       obtain hz|⟨xb,xo,f,xs,xt,xz,rfl,hxb,hxl⟩:=hF
       · omega
       have f4:=hxl j d3
       have hjm:exAt Ls j∈Ls:=by
         unfold exAt
         rw[List.getElem?_eq_getElem (by omega)]
         exact List.getElem_mem _
       rw[hgv]
       refine .seq (.sr ?_)
       refine .m ?_
       refine .m ?_
       refine .x .ln ?_
       refine .i ?_ (z:=lss_t (by omega))
       refine .done (.tt rfl (.skip (.seq (.block (.sr ?_)))))
       refine .m ?_
       refine .m ?_
       refine .m ?_
       refine .x .ia ?_
       refine .x .l0 ?_
       refine .c rfl rfl rfl rfl (fun H hs=> .f ca59 rfl (hha H (fun x hx=> hs.at_ x hx) _ hjm)) ?_
       refine .x .nt ?_
       refine .done (.ff rfl (.skip (.inBlock (.r ?_))))
       refine .m ?_
       refine .i ?_ (z:=add_in (by omega) (by omega))
       refine .g ?_
       refine .done ?_
       rw[←hgv]
       exact Tc.db (ih ⟨j+1,by omega⟩ (by simp only;omega))
   · have d2:j<(k.num w).length:=by omega
     refine .seq (.sr ?_)
     refine .m ?_
     refine .x .fa ?_
     refine .x (.ld 0) ?_
     refine .m ?_
     refine .x .ia ?_
     refine .x .fa ?_
     refine .x .l0 ?_
     refine .x (OpV.lenS (E:=en) rfl rfl rfl rfl rfl rfl rfl) ?_
     refine .i ?_ (z:=lss_t (by omega))
     refine .done (.tt rfl (.skip (.seq (.block ?_))))
     refine Tc.drT [10] [] [] 1 mixed rfl ?_
     refine Ta.tkC 0 (by kernel_rfl) rfl rfl (by decide) rfl rfl (OpV.take .mv) ?_
     refine Ta.tkC 1 (by kernel_rfl) rfl rfl (by decide) rfl rfl (OpV.take (.ld 0)) ?_
     refine Ta.tkC 2 (by kernel_rfl) rfl rfl (by decide) rfl rfl (OpV.take .mv) ?_
     refine Ta.tkC 3 (by kernel_rfl) rfl rfl (by decide) rfl rfl (OpV.take .mv) ?_
     refine Ta.tkC 4 (by kernel_rfl) rfl rfl (by decide) rfl rfl (OpV.takeCall rfl rfl rfl rfl (fun H hs=> .f ca76 rfl (hsl H (View.le_trans hle hs.base) j d2 true))) ?_
     refine Ta.tkC 5 (by kernel_rfl) rfl rfl (by decide) rfl rfl (OpV.take (.ld 0)) ?_
     refine Ta.tkC 6 (by kernel_rfl) rfl rfl (by decide) rfl rfl (OpV.take .mv) ?_
     refine Ta.tkC 7 (by kernel_rfl) rfl rfl (by decide) rfl rfl (OpV.take .mv) ?_
     refine Ta.tkC 8 (by kernel_rfl) rfl rfl (by decide) rfl rfl (OpV.takeCall rfl rfl rfl rfl (fun H hs=> .f ca76 rfl (hsl H (View.le_trans hle hs.base) j d2 false))) ?_
     refine Ta.each [9] (by kernel_rfl) rfl ⟨TaOp.mk rfl rfl rfl (.bs (zz:=fun bs=> ⟨S3.mk (by apply List.Sublist.cons;exact List.sublist_append_left _ _) (.inr (by apply List.Sublist.cons;exact List.Sublist.refl _)),?_⟩)),trivial⟩
     refine Ta.each [10] (by kernel_rfl) rfl ⟨TaOp.mk rfl rfl rfl (Or.append (E:=en) (g:=g) (m:=2) (new:= [.int .i64 (k.slipTo w j true),.int .i64 (k.slipTo w j false)]) (yv:=.slice (some ⟨bs,0,none⟩) 2 2) 2 rfl rfl rfl rfl rfl rfl rfl rfl rfl rfl rfl rfl rfl rfl rfl (fun H hs=> SrcAt.of (hs.get (i:=0) rfl) (Nat.le_of_ble_eq_true rfl)) rfl (by omega) rfl (by decide) (fun g2 hn2 hl2=> ⟨S3.mk (by apply List.Sublist.cons;exact List.sublist_append_left _ _) (.inl (by kernel_rfl)),?_⟩)),trivial⟩
     refine Ta.tkwC 11 (by kernel_rfl) rfl rfl rfl (by decide) rfl rfl (OpV.take .sg) ?_
     refine Ta.done (by kernel_rfl) ?_
     refine .inBlock (.r ?_)
     refine .m ?_
     refine .i ?_ (z:=add_in (by omega) (by omega))
     refine .g ?_
     refine .done ?_
     exact Tc.db (ih ⟨(j+1,g2),by simp only;omega,by simp only;rw[hl2,hgl,slipAll_succ];unfold intsL;rw[List.map_append];rfl⟩ (by simp only;omega))
end
end Go.Proofs.YtdnfdeplcjaonaaGreatDoor
end
