/-
  Texts of the proofs over baudot/dial: ZI S8 C9 S9 H1 Z7 Z8 Z9 X2 ZA Draw6 ZB ZD Y1 Y2 Y3 Y4 Y5 Y6 DrawL VLess W1 W2 X3.
-/
import Derived.Test.YtdnfdeplcjaonaaGreatDoorD07
section
namespace Go.Proofs.YtdnfdeplcjaonaaGreatDoor
open Go.RL
set_option maxRecDepth 10000
set_option maxHeartbeats 16000000
def Bk.add(k:Bk)(nm num:List UInt8)(nf:Nat)(fr:Nat→Int):Bk:=
 { k with nl:=k.nl+1,name:=fun i=> if i=k.nl then nm else k.name i,num:=fun i=> if i=k.nl then num else k.num i,nf:=fun i=> if i=k.nl then nf else k.nf i,free:=fun i=> if i=k.nl then fr else k.free i }
theorem book_of {H':View}(k:Bk)(F:Nat→Option Addr)(fc:Nat→Nat)(l:List (Gl 38 1))(lb:Nat)(gj:List Value)(gc:Nat)(B2:Option Addr)(tc2:Nat)(hlb:H' lb=some (true,.cells ⟨flatR k.nl (rowL k (addrOf l F) (capOf l fc))++gj⟩ 64 (0,0)))(hgc:k.nl≤gc)
   (hT:SrcAt H' 4 (.slice B2 k.nt tc2) k.nt (flatR k.nt (trainL k))) (htc:k.nt≤tc2) (hl:l.length=k.nl) (hlg:∀i g,l[i]? =some g→g.l=flatR (k.nf i) (freeL (k.free i))∧g.n=k.nf i) (hbl:∀x∈blsOf l,H' x.1=some x.2):
   BookAt H' k (some ⟨lb,0,none⟩) gc B2 tc2 (addrOf l F) (capOf l fc):=by
 refine⟨hgc,htc,?_,hT,fun i hi=> ?_,fun i hi=> ?_⟩
 · exact src_flat (f:=rowL k (addrOf l F) (capOf l fc)) (sz:=3) (n:=k.nl) (c:=gc) (b:=lb) (fun _=> rfl) hlb
 · have h1:l[i]? =some l[i]:=List.getElem?_eq_getElem (by omega)
   have h2:=hlg i _ h1
   unfold capOf
   rw[h1]
   have:=(l[i]).hc
   simp only
   omega
 · have hil:i<l.length:=by omega
   have h1:l[i]? =some l[i]:=List.getElem?_eq_getElem hil
   have h2:=hlg i _ h1
   have h3:=(l[i]).src (H:=H') (fun y hy=> hbl y (List.mem_flatMap.2 ⟨_,List.getElem_mem hil,hy⟩))
   rw[h2.1,h2.2] at h3
   have h4:Gl.val l[i]=.slice (addrOf l F i) (k.nf i) (capOf l fc i):=by
     unfold addrOf capOf
     rw[h1,←h2.2]
     rfl
   rw[←h4]
   exact h3
section
variable(M:Md Tryz.prog)(H:View)
theorem Add_c(k:Bk)(A:Option Addr)(lc:Nat)(B:Option Addr)(tc:Nat)(F:Nat→Option Addr)(fc:Nat→Nat)(hB:BookAt H k A lc B tc F fc)(hn:k.small)(hG:Glob H)(ha:k.alarm=0)(nm num:List UInt8)(Fa:Option Addr)(nf fca:Nat)(fr:Nat→Int)(hnum:num.length≤1000000)(hnf:nf≤1000)(hFa:SrcAt H 1 (.slice Fa nf fca) nf (flatR nf (freeL fr))):
   CallT M 65 #[k.val A lc B tc,lineV nm num Fa nf fca] H (fun v H'=> H.le H'∧(((k.add nm num nf fr).alarm≠0∧v=noBook (k.add nm num nf fr).alarm)∨((k.add nm num nf fr).alarm=0∧∃A' lc' B' tc' F' fc',v=bookV ((k.add nm num nf fr).val A' lc' B' tc') 0∧BookAt H' (k.add nm num nf fr) A' lc' B' tc' F' fc'))):=by
 have hk:=hB.bk
 obtain⟨_,hnl6,hnt6,_⟩:=Bk.valid ha
 generalize h2:k.add nm num nf fr=k2
 have e_nl:k2.nl=k.nl+1:=by rw[←h2];rfl
 have e_nt:k2.nt=k.nt:=by rw[←h2];rfl
 have e_gap:k2.gap=k.gap:=by rw[←h2];rfl
 have e_give:k2.give=k.give:=by rw[←h2];rfl
 have e_tr:trainL k2=trainL k:=by rw[←h2];rfl
 obtain⟨F2,hF2⟩:∃F2:Nat→Option Addr,F2=fun i=> if i=k.nl then Fa else F i:=⟨_,rfl⟩
 obtain⟨fc2,hfc2⟩:∃fc2:Nat→Nat,fc2=fun i=> if i=k.nl then fca else fc i:=⟨_,rfl⟩
 have e_row:flatR k.nl (rowL k F fc)++[strV nm,strV num,.slice Fa nf fca]=flatR (k.nl+1) (rowL k2 F2 fc2):=by
   rw[flatR_succ]
   congr 1
   · refine flatR_congr _ fun i hi=> ?_
     have:i≠k.nl:=by omega
     simp only[rowL,←h2,Bk.add,hF2,hfc2,if_neg this]
   · rw[←h2,hF2,hfc2]
     simp[rowL,Bk.add]
 have e_nf:∀i,i<k.nl+1→k2.nf i≤1000:=by
   intro i hi
   rw[←h2]
   show(if i=k.nl then nf else k.nf i)≤1000
   split
   · exact hnf
   · exact(hn.num i (by omega)).2
 have e_free:∀i,i<k.nl+1→SrcAt H 1 (.slice (F2 i) (k2.nf i) (fc2 i)) (k2.nf i) (flatR (k2.nf i) (freeL (k2.free i))):=by
   intro i hi
   rw[←h2,hF2,hfc2]
   by_cases c:i=k.nl
   · simp only[Bk.add,if_pos c]
     exact hFa
   · simp only[Bk.add,if_neg c]
     exact hB.free i (by omega)
 have hsm2:k2.small:=⟨by omega,by rw[e_nt];exact hn.nt,fun i hi=> ⟨by
   rw[←h2]
   show(if i=k.nl then num else k.num i).length≤_
   split
   · exact hnum
   · exact(hn.num i (by omega)).1,e_nf i (by omega)⟩⟩
 clear hF2 hfc2 h2
 refine CallT.enter (vs:= [k.val A lc B tc,lineV nm num Fa nf fca]) Tryz.func65 rfl Tryz.ntmps65 (Nat.le_of_ble_eq_true rfl) (SymSt.nil _) fun St c cs hK=> ?_
 refine .sr ?_
 refine .e (.bx (zz:=fun b2=> ?_))
 refine .e (.bx (zz:=fun b3=> ?_))
 refine .e (.al (zz:=fun b4=> ?_))
 refine .g ?_
 refine .done (.seq (.sr ?_))
 refine .x (.ld 2) ?_
 refine .c rfl rfl rfl rfl (fun H hs=> .f ca81 rfl (open_yes M H k A lc B tc (hk.le hs.base) hn (glob_le hG hs.base) ha)) ?_
 refine .m ?_
 refine .x .et ?_
 refine .x .et ?_
 refine .e (.al (zz:=fun b6=> ?_))
 refine .e (.st 0 (zz:=?_))
 refine .g ?_
 refine .done (.sr ?_)
 refine .m ?_
 refine .i ?_ (z:=neq_f (by omega))
 refine .done (.ff rfl (.skip (.seq ?_)))
 refine Tc.via (fun R' L'=> ∃(g1:Gl 64 3) (g2:Gl 47 4),((g1.n=k.nl+1∧g1.l=flatR (k.nl+1) (rowL k2 F2 fc2))∧(g2.n=k.nt∧g2.l=flatR k.nt (trainL k)))∧AllIn [(2,.pointer (some ⟨b2,0,none⟩)),(4,.pointer (some ⟨b4,0,none⟩))] R'∧List.Sublist ([(b4,true,.cells ⟨[.int .i64 0,.int .i64 0,.slice none 0 0,.slice none 0 0]⟩ 25 (0,0)),(b2,true,.cells ⟨[.int .i64 k.gap,.int .i64 k.give,g1.val,g2.val]⟩ 25 (0,0))]++(g1.bl++g2.bl)) L') ?_ (fun fin=> ?_)
 rotate_left
 · refine Tc.dr [10,12] [3] mixed rfl ?_
   refine .q 0 rfl .fa ?_
   refine .q 1 rfl (.ld 3) ?_
   refine .q 3 rfl (.ld 2) ?_
   refine .q 6 rfl .fa ?_
   refine .q 7 rfl (.ld 3) ?_
   refine Ta.each [2,4] (by kernel_rfl) rfl ⟨TaOp.mk rfl rfl rfl (Or.callNew Gl.val Gl.bl (fun g:Gl 64 3=> g.l=flatR k.nl (rowL k F fc)∧g.n=k.nl) rfl rfl rfl rfl rfl (by decide) gl_nodup (fun H₁ hs₁=> .f ca138 rfl (clone138_c M H₁ A k.nl lc _ (by omega) (hB.rows.mono hs₁.base) (flatR_single (rowL_single k F fc) _))) (fun g hg=> ⟨S2.mk (by exact List.sublist_append_left _ _) (.inr (by exact List.sublist_append_left _ _)),?_⟩)),TaOp.mk rfl rfl rfl (.bs (zz:=fun bs=> ⟨S2.mk (by apply List.Sublist.cons;exact List.sublist_append_left _ _) (.inr (by apply List.Sublist.cons;exact List.Sublist.refl _)),?_⟩)),trivial⟩
   · refine Ta.each [4] (by kernel_rfl) rfl ⟨TaOp.mk rfl rfl rfl (.bs (zz:=fun bs=> ⟨S2.mk (by apply List.Sublist.cons;exact List.sublist_append_left _ _) (.inr (by apply List.Sublist.cons;exact List.sublist_append_left _ _)),?_⟩)),trivial⟩
     refine Ta.each [5] (by kernel_rfl) rfl ⟨TaOp.mk rfl rfl rfl (Or.append (E:=en) (g:=g) (m:=1) (new:= [strV nm,strV num,.slice Fa nf fca]) (yv:=.slice (some ⟨bs,0,none⟩) 1 1) 5 rfl rfl rfl rfl rfl rfl rfl rfl rfl rfl rfl rfl rfl rfl rfl (fun H hs=> SrcAt.of (hs.get (i:=0) rfl) (Nat.le_of_ble_eq_true rfl)) rfl (by omega) rfl (by decide) (fun g1 hn1 hl1=> ⟨S2.mk (by apply List.Sublist.cons;exact List.sublist_append_left _ _) (.inr (by apply List.Sublist.cons;exact List.sublist_append_left _ _)),?_⟩)),trivial⟩
     refine .q 9 rfl .fa ?_
     refine Ta.each [8] (by kernel_rfl) rfl ⟨TaOp.mk rfl rfl rfl (Or.callNew Gl.val Gl.bl (fun g:Gl 47 4=> g.l=flatR k.nt (trainL k)∧g.n=k.nt) rfl rfl rfl rfl rfl (by decide) gl_nodup (fun H₁ hs₁=> .f ca139 rfl (clone139_c M H₁ B k.nt tc _ (by omega) (hB.trains.mono hs₁.base) (flatR_single (trainL_single k) _))) (fun g2 hg2=> ⟨S2.mk (by apply List.Sublist.cons;exact List.sublist_append_left _ _) (.inr (by apply List.Sublist.cons;exact List.sublist_append_left _ _)),?_⟩)),trivial⟩
     refine Ta.each [10] (by kernel_rfl) rfl ⟨TaOp.mk rfl rfl rfl (.st 4 (zz:=⟨S2.mk (by apply List.Sublist.cons;exact List.sublist_append_left _ _) (.inl (by kernel_rfl)),?_⟩)),trivial⟩
     refine Ta.tkw 11 (by kernel_rfl) rfl rfl rfl (by decide) rfl rfl (OpV.take .fa) ?_
     refine Ta.each [12] (by kernel_rfl) rfl ⟨TaOp.mk rfl rfl rfl (.st 4 (zz:=⟨S2.mk (by apply List.Sublist.cons;exact List.sublist_append_left _ _) (.inl (by kernel_rfl)),?_⟩)),trivial⟩
     refine Ta.done (by kernel_rfl) ?_
     exact fin _ _ ⟨g1,g2,⟨⟨by omega,by rw[hl1,hg.1,e_row]⟩,hg2.2,hg2.1⟩,⟨rfl,rfl,trivial⟩,(by apply List.Sublist.cons;apply List.Sublist.cons;apply List.Sublist.cons_cons;apply List.Sublist.cons;exact List.Sublist.refl _)⟩
   · refine Ta.each [2] (by kernel_rfl) rfl ⟨TaOp.mk rfl rfl rfl (Or.callNew Gl.val Gl.bl (fun g:Gl 64 3=> g.l=flatR k.nl (rowL k F fc)∧g.n=k.nl) rfl rfl rfl rfl rfl (by decide) gl_nodup (fun H₁ hs₁=> .f ca138 rfl (clone138_c M H₁ A k.nl lc _ (by omega) (hB.rows.mono hs₁.base) (flatR_single (rowL_single k F fc) _))) (fun g hg=> ⟨S2.mk (by apply List.Sublist.cons;exact List.sublist_append_left _ _) (.inr (by apply List.Sublist.cons;exact List.sublist_append_left _ _)),?_⟩)),trivial⟩
     refine Ta.each [5] (by kernel_rfl) rfl ⟨TaOp.mk rfl rfl rfl (Or.append (E:=en) (g:=g) (m:=1) (new:= [strV nm,strV num,.slice Fa nf fca]) (yv:=.slice (some ⟨bs,0,none⟩) 1 1) 5 rfl rfl rfl rfl rfl rfl rfl rfl rfl rfl rfl rfl rfl rfl rfl (fun H hs=> SrcAt.of (hs.get (i:=0) rfl) (Nat.le_of_ble_eq_true rfl)) rfl (by omega) rfl (by decide) (fun g1 hn1 hl1=> ⟨S2.mk (by apply List.Sublist.cons;exact List.sublist_append_left _ _) (.inr (by apply List.Sublist.cons;exact List.sublist_append_left _ _)),?_⟩)),trivial⟩
     refine .q 9 rfl .fa ?_
     refine Ta.each [8] (by kernel_rfl) rfl ⟨TaOp.mk rfl rfl rfl (Or.callNew Gl.val Gl.bl (fun g:Gl 47 4=> g.l=flatR k.nt (trainL k)∧g.n=k.nt) rfl rfl rfl rfl rfl (by decide) gl_nodup (fun H₁ hs₁=> .f ca139 rfl (clone139_c M H₁ B k.nt tc _ (by omega) (hB.trains.mono hs₁.base) (flatR_single (trainL_single k) _))) (fun g2 hg2=> ⟨S2.mk (by apply List.Sublist.cons;exact List.sublist_append_left _ _) (.inr (by apply List.Sublist.cons;exact List.sublist_append_left _ _)),?_⟩)),trivial⟩
     refine Ta.each [10] (by kernel_rfl) rfl ⟨TaOp.mk rfl rfl rfl (.st 4 (zz:=⟨S2.mk (by apply List.Sublist.cons;exact List.sublist_append_left _ _) (.inl (by kernel_rfl)),?_⟩)),trivial⟩
     refine Ta.tkw 11 (by kernel_rfl) rfl rfl rfl (by decide) rfl rfl (OpV.take .fa) ?_
     refine Ta.each [12] (by kernel_rfl) rfl ⟨TaOp.mk rfl rfl rfl (.st 4 (zz:=⟨S2.mk (by apply List.Sublist.cons;exact List.sublist_append_left _ _) (.inl (by kernel_rfl)),?_⟩)),trivial⟩
     refine Ta.done (by kernel_rfl) ?_
     exact fin _ _ ⟨g1,g2,⟨⟨by omega,by rw[hl1,hg.1,e_row]⟩,hg2.2,hg2.1⟩,⟨rfl,rfl,trivial⟩,(by apply List.Sublist.cons;apply List.Sublist.cons;apply List.Sublist.cons_cons;apply List.Sublist.cons;exact List.Sublist.refl _)⟩
 rintro R' L' ⟨g1,g2,⟨⟨n1,l1⟩,n2,l2⟩,hR,hL⟩
 refine Tc.dropB (R':= [(2,.pointer (some ⟨b2,0,none⟩)),(4,.pointer (some ⟨b4,0,none⟩))]) (L':= [(b4,true,.cells ⟨[.int .i64 0,.int .i64 0,.slice none 0 0,.slice none 0 0]⟩ 25 (0,0)),(b2,true,.cells ⟨[.int .i64 k.gap,.int .i64 k.give,g1.val,g2.val]⟩ 25 (0,0))]++(g1.bl++g2.bl)) ?_ hR hL
 clear hR hL
 have hT2:∀H':View,(∀x∈g2.bl,H' x.1=some x.2)→SrcAt H' 4 (.slice (g2.blk.map fun b=> ⟨b,0,none⟩) k2.nt g2.cap) k2.nt (flatR k2.nt (trainL k2)):=fun H' h=> by
   have:=g2.src h
   rw[e_tr,e_nt]
   rw[l2,n2] at this
   unfold Gl.val at this
   rw[n2] at this
   exact this
 have hgv2:g2.val=.slice (g2.blk.map fun b=> ⟨b,0,none⟩) k2.nt g2.cap:=by unfold Gl.val;rw[n2,e_nt]
 have htc2:k2.nt≤g2.cap:=by have:=g2.hc;omega
 rw[hgv2]
 generalize (g2.blk.map fun b=> (⟨b,0,none⟩:Addr))=B2 at hT2
 generalize g2.cap=tc2 at hT2 htc2
 generalize g2.bl=T2 at hT2
 clear hgv2 n2 l2
 obtain⟨gb,gn,gc,gl,gj,hgl,hgc,hgj,hg0⟩:=g1
 simp only at n1 l1
 rw[←e_nl] at n1 l1
 subst n1
 subst l1
 cases gb with
 | none=>
   have:=hg0 rfl
   omega
 | some lb=>
 rw[←e_nl] at e_nf e_free
 have hout:∀(l:List (Gl 38 1)),l.length=k2.nl→(∀i g,l[i]? =some g→g.l=flatR (k2.nf i) (freeL (k2.free i))∧g.n=k2.nf i)→∀H':View,(∀x∈([(b2,true,.cells ⟨[.int .i64 k.gap,.int .i64 k.give,.slice (some ⟨lb,0,none⟩) k2.nl gc,.slice B2 k2.nt tc2]⟩ 25 (0,0)),(lb,true,.cells ⟨flatR k2.nl (rowL k2 (addrOf l F2) (capOf l fc2))++gj⟩ 64 (0,0))]++(T2++blsOf l):Bl),H' x.1=some x.2)→
     BookAt H' k2 (some ⟨lb,0,none⟩) gc B2 tc2 (addrOf l F2) (capOf l fc2):=fun l h1 h2 H' h=> book_of k2 F2 fc2 l lb gj gc B2 tc2 (h (lb,true,_) (by simp)) hgc (hT2 H' fun x hx=> h x (by simp[hx])) htc2 h1 h2 (fun x hx=> h x (by simp[hx]))
 refine .seq (.sr ?_)
 refine .x .fa ?_
 refine .x (.ld 1) ?_
 refine .x .ln ?_
 refine .m ?_
 refine .done (.block ?_)
 refine Tc.dropB (Tc.loopInv (σ:= { l:List (Gl 38 1)//l.length≤k2.nl∧∀i g,l[i]? =some g→g.l=flatR (k2.nf i) (freeL (k2.free i))∧g.n=k2.nf i })
   (fun l=> ([(2,.pointer (some ⟨b2,0,none⟩)),(4,.pointer (some ⟨b4,0,none⟩)),(32,.int .i64 (k2.nl:Nat)),(33,.int .i64 (l.1.length:Nat))],
     [(b4,true,.cells ⟨[.int .i64 0,.int .i64 0,.slice none 0 0,.slice none 0 0]⟩ 25 (0,0)),(b2,true,.cells ⟨[.int .i64 k.gap,.int .i64 k.give,.slice (some ⟨lb,0,none⟩) k2.nl gc,.slice B2 k2.nt tc2]⟩ 25 (0,0)),(lb,true,.cells ⟨flatR k2.nl (rowL k2 (addrOf l.1 F2) (capOf l.1 fc2))++gj⟩ 64 (0,0))]++(T2++blsOf l.1))) (fun l=> k2.nl-l.1.length) ?_ ⟨[],Nat.zero_le _,by simp⟩) ⟨rfl,rfl,rfl,rfl,trivial⟩ (by show List.Sublist (_::_::_::(T2++[])) _;rw[List.append_nil];exact List.Sublist.refl _)
 rintro⟨l,hll,hlg⟩ ih
 show Tc M St _ _ _ _ [(2,.pointer (some ⟨b2,0,none⟩)),(4,.pointer (some ⟨b4,0,none⟩)),(32,.int .i64 (k2.nl:Nat)),(33,.int .i64 (l.length:Nat))]
     ([(b4,true,.cells ⟨[.int .i64 0,.int .i64 0,.slice none 0 0,.slice none 0 0]⟩ 25 (0,0)),(b2,true,.cells ⟨[.int .i64 k.gap,.int .i64 k.give,.slice (some ⟨lb,0,none⟩) k2.nl gc,.slice B2 k2.nt tc2]⟩ 25 (0,0)),(lb,true,.cells ⟨flatR k2.nl (rowL k2 (addrOf l F2) (capOf l fc2))++gj⟩ 64 (0,0))]++(T2++blsOf l)) _ _
 by_cases c1:l.length=k2.nl
 · have hout1:=hout l c1 hlg
   have hval:k2.val (some ⟨lb,0,none⟩) gc B2 tc2=.agg ⟨[.int .i64 k.gap,.int .i64 k.give,.slice (some ⟨lb,0,none⟩) k2.nl gc,.slice B2 k2.nt tc2]⟩:=by unfold Bk.val;rw[e_gap,e_give]
   have hchk:=fun(H':View) (h:H.le H') (hb:BookAt H' k2 (some ⟨lb,0,none⟩) gc B2 tc2 (addrOf l F2) (capOf l fc2))=> CheckBook_c M H' k2 (some ⟨lb,0,none⟩) gc B2 tc2 hb.bk hsm2 (glob_le hG h)
   rw[hval] at hchk
   rw[c1]
   by_cases c2:k2.alarm=0
   · rw[c2] at hchk
     refine .sr ?_
     refine .i ?_ (z:=lss_f (by omega))
     refine .done (.seq (.ff rfl (.exit rfl (.seq (.sr ?_)))))
     refine .x (.ld 1) ?_
     refine .c rfl rfl rfl rfl (fun H hs=> .f ca21 rfl (hchk H hs.base (hout1 H (fun x hx=> hs.at_ x (List.mem_cons_of_mem _ hx))))) ?_
     refine .g ?_
     refine .done (.sr ?_)
     refine .m ?_
     refine .i ?_ (z:=neq_f (by omega))
     refine .done (.ff rfl (.skip (.sr ?_)))
     refine .x (.ld 1) ?_
     refine .e (.st 0 (zz:=?_))
     refine .g ?_
     refine .done ?_
     refine Tc.retN (E:=en) hK Tryz.func65 Tryz.results65 (vs:= [_,_]) (by refine⟨⟨0,_,_,_,_,_,_,_,rfl,rfl,rfl,rfl⟩,?_⟩;refine⟨rfl,?_⟩;exact trivial) ?_
     refine fun H' hs=> ⟨hs.base,.inr ⟨c2,some ⟨lb,0,none⟩,gc,B2,tc2,addrOf l F2,capOf l fc2,by unfold bookV;rw[hval];rfl,hout1 H' (fun x hx=> hs.at_ x (List.mem_cons_of_mem _ hx))⟩⟩
   · refine .sr ?_
     refine .i ?_ (z:=lss_f (by omega))
     refine .done (.seq (.ff rfl (.exit rfl (.seq (.sr ?_)))))
     refine .x (.ld 1) ?_
     refine .c rfl rfl rfl rfl (fun H hs=> .f ca21 rfl (hchk H hs.base (hout1 H (fun x hx=> hs.at_ x (List.mem_cons_of_mem _ hx))))) ?_
     refine .g ?_
     refine .done (.sr ?_)
     refine .m ?_
     refine .i ?_ (z:=neq_t (by omega))
     refine .done (.tt rfl (.sr ?_))
     refine .x .bu ?_
     refine .m ?_
     refine .e (.st 0 (zz:=?_))
     refine .g ?_
     refine .done ?_
     refine Tc.retN (E:=en) hK Tryz.func65 Tryz.results65 (vs:= [_,_]) (by refine⟨⟨0,_,_,_,_,_,_,_,rfl,rfl,rfl,rfl⟩,?_⟩;refine⟨rfl,?_⟩;exact trivial) ?_
     exact fun H' hs=> ⟨hs.base,.inl ⟨c2,rfl⟩⟩
 · have c2:l.length<k2.nl:=by omega
   have f1:ldL false 1 (flatR k2.nl (rowL k2 (addrOf l F2) (capOf l fc2))++gj) (0+((l.length:Nat):Int).toNat*3+2)=some (.slice (F2 l.length) (k2.nf l.length) (fc2 l.length)):=by
     show _[_]? =_
     rw[Nat.zero_add,Int.toNat_natCast,flatR_cell (f:=rowL k2 (addrOf l F2) (capOf l fc2)) (sz:=3) (d:=2) (fun _=> rfl) c2 (by decide)]
     simp[rowL,addrOf,capOf]
   have f2:Nat.ble (0+((l.length:Nat):Int).toNat*3+2+1) (flatR k2.nl (rowL k2 (addrOf l F2) (capOf l fc2))++gj).length=true:=by
     refine Nat.ble_eq_true_of_le ?_
     rw[List.length_append,flatR_len (f:=rowL k2 (addrOf l F2) (capOf l fc2)) (sz:=3) (fun _=> rfl),Int.toNat_natCast]
     omega
   refine .sr ?_
   refine .i ?_ (z:=lss_t (by omega))
   refine .done (.seq (.tt rfl (.skip (.seq (.block (.sr ?_))))))
   refine .m ?_
   refine .g ?_
   refine .done ?_
   refine Tc.dr [12] [2] mixed rfl ?_
   refine .q 0 rfl .fa ?_
   refine .q 1 rfl (.ld 1) ?_
   refine .q 2 rfl .mv ?_
   refine .q 3 rfl .fa ?_
   refine .q 4 rfl (.ld 1) ?_
   refine .q 5 rfl .mv ?_
   refine .q 6 rfl .ia ?_
   refine .q 7 rfl .fa ?_
   refine .q 8 rfl (.ld 2) ?_
   refine Ta.each [9] (by kernel_rfl) rfl ⟨TaOp.mk rfl rfl rfl (Or.callNew Gl.val Gl.bl (fun g:Gl 38 1=> g.l=flatR (k2.nf l.length) (freeL (k2.free l.length))∧g.n=k2.nf l.length) rfl rfl rfl rfl rfl (by decide) gl_nodup (fun H₁ hs₁=> .f ca140 rfl (clone140_c M H₁ (F2 l.length) (k2.nf l.length) (fc2 l.length) _ (by have:=e_nf _ c2;omega) ((e_free _ c2).mono hs₁.base) (flatR_single (freeL_single (k2.free l.length)) _))) (fun g hg=> ⟨S2.mk (by apply List.Sublist.cons_cons;apply List.Sublist.cons_cons;apply List.Sublist.cons;exact List.sublist_append_left _ _) (.inr (by exact List.sublist_append_left _ _)),?_⟩)),trivial⟩
   refine Ta.tkw 10 (by kernel_rfl) rfl rfl rfl (by decide) rfl rfl (OpV.take .ia) ?_
   refine .q 11 rfl .fa ?_
   refine Ta.each [12] (by kernel_rfl) rfl ⟨TaOp.mk rfl rfl rfl (.st 2 (zz:=⟨S2.mk (by apply List.Sublist.cons_cons;apply List.Sublist.cons_cons;apply List.Sublist.cons;exact List.sublist_append_left _ _) (.inl (by kernel_rfl)),?_⟩)),trivial⟩
   refine Ta.done (by kernel_rfl) ?_
   refine .inBlock (.r ?_)
   refine .i ?_ (z:=add_in (by omega) (by omega))
   refine .m ?_
   refine .done ?_
   have hst:stL (flatR k2.nl (rowL k2 (addrOf l F2) (capOf l fc2))++gj) (0+((l.length:Nat):Int).toNat*3+2) (Gl.val g).cells.toList=flatR k2.nl (rowL k2 (addrOf (l++[g]) F2) (capOf (l++[g]) fc2))++gj:=by
     rw[Nat.zero_add,Int.toNat_natCast]
     refine flatR_st (f:=rowL k2 (addrOf l F2) (capOf l fc2)) (sz:=3) (d:=2) (fun _=> rfl) c2 (by decide) gj (Gl.val g) (fun i _ hi=> ?_) ?_
     · by_cases h1:i<l.length
       · simp only[rowL,addrOf,capOf,List.getElem?_append_left h1]
       · simp only[rowL,addrOf,capOf]
         rw[List.getElem?_eq_none (by simp;omega),List.getElem?_eq_none (by omega)]
     · simp only[rowL,addrOf,capOf,List.getElem?_concat_length]
       rw[←hg.2]
       rfl
   have hbl:blsOf (l++[g])=blsOf l++g.bl:=by simp[blsOf]
   refine Tc.dropB (ih ⟨l++[g],by simp;omega,fun i g' hi=> ?_⟩ (by simp;omega)) ?_ ?_
   · by_cases h1:i<l.length
     · rw[List.getElem?_append_left h1] at hi
       exact hlg i g' hi
     · by_cases h2:i=l.length
       · subst h2
         rw[List.getElem?_concat_length] at hi
         cases hi
         exact hg
       · rw[List.getElem?_eq_none (by simp;omega)] at hi
         cases hi
   · refine⟨rfl,rfl,rfl,?_,trivial⟩
     have hlen:(((l++[g]).length:Nat):Int)=(l.length:Nat)+1:=by simp
     show _=some (Value.int .i64 (((l++[g]).length:Nat):Int))
     rw[hlen]
     rfl
   · show List.Sublist (_++(T2++blsOf (l++[g]))) _
     rw[hbl,←hst,←List.append_assoc T2,←List.append_assoc]
     exact List.Sublist.refl _
end
end Go.Proofs.YtdnfdeplcjaonaaGreatDoor
end
section
namespace Go.Proofs.YtdnfdeplcjaonaaGreatDoor
open Go.RL
set_option maxRecDepth 10000
theorem less_cons(a b:UInt8)(x y:List UInt8):Op.bytesLess (a::x) (b::y)=(decide (a<b)||(a==b&&Op.bytesLess x y)):=rfl
theorem less_nil(s:List UInt8):Op.bytesLess s []=false:=by cases s <;> rfl
theorem u8_lt {a b:UInt8}:a<b↔a.toNat<b.toNat:=UInt8.lt_iff_toNat_lt
theorem less_trans:∀ {a b c:List UInt8},Op.bytesLess a b=true→Op.bytesLess b c=true→Op.bytesLess a c=true
 | _,[],_,h,_=> by rw[less_nil] at h;cases h
 | _,_::_,[],_,h=> by rw[less_nil] at h;cases h
 | [],_::_,_::_,_,_=> rfl
 | p ::a,q::b,r::c,h,k=> by
   rw[less_cons] at h k ⊢
   simp only[Bool.or_eq_true,Bool.and_eq_true,decide_eq_true_eq,beq_iff_eq] at h k ⊢
   rcases h with h|⟨rfl,h⟩
   · rcases k with k|⟨rfl,_⟩
     · exact .inl (UInt8.lt_trans h k)
     · exact .inl h
   · rcases k with k|⟨rfl,k⟩
     · exact .inl k
     · exact .inr ⟨rfl,less_trans h k⟩
theorem less_tri:∀ {a b:List UInt8},Op.bytesLess a b=false→Op.bytesLess b a=false→a=b
 | [],[],_,_=> rfl
 | [],_::_,h,_=> by cases h
 | _::_,[],_,h=> by cases h
 | p ::a,q::b,h,k=> by
   rw[less_cons] at h k
   simp only[Bool.or_eq_false_iff,decide_eq_false_iff_not,Bool.and_eq_false_iff,beq_eq_false_iff_ne] at h k
   have e:p=q:=by
     have h1:=h.1
     have k1:=k.1
     rw[u8_lt] at h1 k1
     exact UInt8.toNat_inj.1 (by omega)
   subst e
   have h2:=h.2.resolve_left (fun h=> h rfl)
   have k2:=k.2.resolve_left (fun h=> h rfl)
   rw[less_tri h2 k2]
theorem less_asym {a b:List UInt8}(h:Op.bytesLess a b=true):Op.bytesLess b a=false:=by
 cases k:Op.bytesLess b a with
 | false=> rfl
 | true=>
   have:=less_trans h k
   rw[less_irr] at this
   cases this
def rankS(S:List (List UInt8))(s:List UInt8):Nat:=S.countP fun t=> Op.bytesLess t s
theorem rank_le {a b:List UInt8}(h:Op.bytesLess a b=true):∀S:List (List UInt8),rankS S a≤rankS S b
 | []=> Nat.le_refl _
 | t ::S=> by
   have:=rank_le h S
   unfold rankS at this ⊢
   rw[List.countP_cons,List.countP_cons]
   by_cases k:Op.bytesLess t a=true
   · rw[if_pos k,if_pos (less_trans k h)];omega
   · rw[if_neg k]
     split <;> omega
theorem rank_lt {a b:List UInt8}(h:Op.bytesLess a b=true):∀S:List (List UInt8),a∈S→rankS S a<rankS S b
 | t ::S,hm=> by
   have hle:=rank_le h S
   rcases List.mem_cons.1 hm with rfl|hm
   · unfold rankS at hle ⊢
     rw[List.countP_cons,List.countP_cons,if_neg (by rw[less_irr];decide),if_pos h]
     omega
   · have:=rank_lt h S hm
     unfold rankS at this ⊢
     rw[List.countP_cons,List.countP_cons]
     by_cases k:Op.bytesLess t a=true
     · rw[if_pos k,if_pos (less_trans k h)];omega
     · rw[if_neg k]
       split <;> omega
def decS(S:List (List UInt8))(z:Int):List UInt8:=(S.find? fun s=> decide ((rankS S s:Int)=z)).getD []
theorem dec_rank {S:List (List UInt8)}{s:List UInt8}(h:s∈S):decS S (rankS S s:Nat)=s:=by
 unfold decS
 cases hf:S.find? (fun t=> decide ((rankS S t:Int)=(rankS S s:Nat))) with
 | none=>
   have:=List.find?_eq_none.1 hf s h
   simp at this
 | some t=>
   have h1:=List.mem_of_find?_eq_some hf
   have h2:=List.find?_some hf
   simp only[decide_eq_true_eq,Int.natCast_inj] at h2
   show t=s
   cases k:Op.bytesLess t s with
   | true=> have:=rank_lt k S h1;omega
   | false=>
     cases k2:Op.bytesLess s t with
     | true=> have:=rank_lt k2 S h;omega
     | false=> exact less_tri k k2
def codesS(S:List (List UInt8)):List Int:=S.map fun s=> ((rankS S s:Nat):Int)
theorem codes_dec(S:List (List UInt8)):(codesS S).map (decS S)=S:=by
 unfold codesS
 rw[List.map_map]
 have:∀s∈S,(decS S∘fun s=> ((rankS S s:Nat):Int)) s=s:=fun s hs=> dec_rank hs
 rw[List.map_congr_left this,List.map_id']
theorem codes_enc(S:List (List UInt8)):Enc (decS S) (codesS S):=by
 intro x hx y hy
 obtain⟨s,hs,rfl⟩:=List.mem_map.1 hx
 obtain⟨t,ht,rfl⟩:=List.mem_map.1 hy
 rw[dec_rank hs,dec_rank ht]
 cases k:Op.bytesLess s t with
 | true=> exact(decide_eq_true (by have:=rank_lt k S hs;omega)).symm
 | false=>
   refine(decide_eq_false ?_).symm
   intro hlt
   cases k2:Op.bytesLess t s with
   | true=> have:=rank_lt k2 S ht;omega
   | false=>
     have:=less_tri k k2
     subst this
     omega
def leS(a b:List UInt8):Bool:=!Op.bytesLess b a
def insS(x:List UInt8):List (List UInt8)→List (List UInt8)
 | []=> [x]
 | y::t=> if leS x y then x::y::t else y::insS x t
def sortS:List (List UInt8)→List (List UInt8)
 | []=> []
 | x::t=> insS x (sortS t)
theorem insS_perm(x:List UInt8):∀l,(insS x l).Perm (x::l)
 | []=> .refl _
 | y::t=> by
   unfold insS
   split
   · exact .refl _
   · exact(List.Perm.cons y (insS_perm x t)).trans (.swap ..)
theorem sortS_perm:∀l,(sortS l).Perm l
 | []=> .refl _
 | x::t=> (insS_perm x _).trans (.cons x (sortS_perm t))
theorem leS_trans {a b c:List UInt8}(h:leS a b=true)(k:leS b c=true):leS a c=true:=by
 unfold leS at *
 simp only[Bool.not_eq_true'] at *
 cases e:Op.bytesLess c a with
 | false=> rfl
 | true=>
   cases e2:Op.bytesLess b c with
   | true=> rw[less_trans e2 e] at h;cases h
   | false=>
     have:=less_tri e2 k
     subst this
     rw[e] at h
     cases h
theorem leS_total {a b:List UInt8}(h:leS a b=false):leS b a=true:=by
 unfold leS at *
 simp only[Bool.not_eq_true',Bool.not_eq_false'] at *
 exact less_asym h
theorem insS_sorted(x:List UInt8):∀l:List (List UInt8),l.Pairwise (fun a b=> leS a b=true)→(insS x l).Pairwise (fun a b=> leS a b=true)
 | [],_=> List.pairwise_singleton _ _
 | y ::t,h=> by
   obtain⟨h1,h2⟩:=List.pairwise_cons.1 h
   unfold insS
   split
   · rename_i hx
     refine List.pairwise_cons.2 ⟨fun z hz=> ?_,h⟩
     rcases List.mem_cons.1 hz with rfl|hz
     · exact hx
     · exact leS_trans hx (h1 z hz)
   · rename_i hx
     refine List.pairwise_cons.2 ⟨fun z hz=> ?_,insS_sorted x t h2⟩
     rcases List.mem_cons.1 ((insS_perm x t).mem_iff.1 hz) with rfl|hz
     · exact leS_total (by simpa using hx)
     · exact h1 z hz
theorem sortS_sorted:∀l:List (List UInt8),(sortS l).Pairwise (fun a b=> leS a b=true)
 | []=> List.Pairwise.nil
 | x::t=> insS_sorted x _ (sortS_sorted t)
theorem sorted_uniq {l m:List (List UInt8)}(h:l.Perm m)(hl:l.Pairwise (fun a b=> leS a b=true))(hm:m.Pairwise (fun a b=> leS a b=true)):l=m:=
 List.Perm.eq_of_pairwise (le:=fun a b=> leS a b=true) (fun a b _ _ h1 h2=> by
   unfold leS at h1 h2
   simp only[Bool.not_eq_true'] at h1 h2
   exact less_tri h2 h1) hl hm h
theorem codes_sorted {S:List (List UInt8)}{m:List Int}{n:Nat}(hn:n=S.length)(ht:Turned 0 n (codesS S) m)(hs:Srt 0 n m):m.map (decS S)=sortS S:=by
 have hpm:m.Perm (codesS S):=List.perm_iff_count.2 ht.cnt
 have hp:(m.map (decS S)).Perm S:=by
   have:=hpm.map (decS S)
   rwa [codes_dec] at this
 refine sorted_uniq (hp.trans (sortS_perm S).symm) ?_ (sortS_sorted S)
 rw[List.pairwise_map,List.pairwise_iff_getElem]
 intro i j hi hj hij
 have hml:m.length=n:=by rw[ht.len,hn];simp[codesS]
 have h1:=hs i j (Nat.zero_le _) hij (by omega)
 unfold at0 at h1
 rw[List.getElem?_eq_getElem hi,List.getElem?_eq_getElem hj] at h1
 simp only[Option.getD_some] at h1
 have h2:=(codes_enc S).turned ht m[j] (List.getElem_mem hj) m[i] (List.getElem_mem hi)
 unfold leS
 rw[h2,decide_eq_false (by omega)]
 rfl
theorem strsL_codes(S:List (List UInt8)):strsL (decS S) (codesS S)=S.map strV:=by
 have:=congrArg (List.map strV) (codes_dec S)
 rw[List.map_map] at this
 exact this
theorem strsL_map(dec:Int→List UInt8)(m:List Int):strsL dec m=(m.map dec).map strV:=by
 rw[List.map_map]
 rfl
end Go.Proofs.YtdnfdeplcjaonaaGreatDoor
end
section
namespace Go.Proofs.YtdnfdeplcjaonaaGreatDoor
open Go.RL
set_option maxRecDepth 10000
set_option maxHeartbeats 16000000
def digs1:List UInt8:= [49,50,51,52,53,54,55,56,57]
def canTo(most n:Nat):List (List UInt8):=(List.range n).flatMap fun i=> allL (digs1.take most) (i+1)
theorem canTo_succ(most n:Nat):canTo most (n+1)=canTo most n++allL (digs1.take most) (n+1):=by
 unfold canTo
 rw[List.range_succ,List.flatMap_append]
 simp
theorem allFrom_len(dg:List UInt8):∀(d:Nat) (s:List UInt8),(allFrom dg d s).length=dg.length ^ d
 | 0,_=> rfl
 | d+1,s=> by
   unfold allFrom
   rw[List.length_flatMap]
   have:∀x∈dg,(fun x=> (allFrom dg d (s++[x])).length) x=(fun _=> dg.length ^ d) x:=fun x _=> allFrom_len dg d _
   rw[List.map_congr_left this,List.map_const',List.sum_replicate_nat,Nat.pow_succ,Nat.mul_comm]
theorem allL_len {most n:Nat}(hm:most≤3)(hn:n≤3):(allL (digs1.take most) n).length≤27:=by
 unfold allL
 rw[allFrom_len]
 have hl:(digs1.take most).length≤3:=by rw[List.length_take];omega
 calc (digs1.take most).length ^ n≤3 ^ n:=Nat.pow_le_pow_left hl n
   _≤3 ^ 3:=Nat.pow_le_pow_right (by decide) hn
   _=27:=by decide
theorem canTo_len {most:Nat}(hm:most≤3):∀n,n≤3→(canTo most n).length≤27*n
 | 0,_=> Nat.le_refl _
 | n+1,h=> by
   rw[canTo_succ,List.length_append]
   have h1:=canTo_len hm n (by omega)
   have h2:=allL_len hm h
   omega
theorem digs1_dig(most:Nat):(digs1.take most).all dig=true:=by
 have h:digs1.all dig=true:=by decide +kernel
 exact List.all_eq_true.2 fun x hx=> List.all_eq_true.1 h x (List.mem_of_mem_take hx)
theorem mem_canTo {most n:Nat}{s:List UInt8}(h:s∈canTo most n)(hn:n≤3):s.all dig=true∧s.length≤3:=by
 obtain⟨i,hi,h2⟩:=List.mem_flatMap.1 h
 obtain⟨h3,h4⟩:=mem_allL h2
 have:=List.mem_range.1 hi
 exact⟨List.all_eq_true.2 fun y hy=> List.all_eq_true.1 (digs1_dig most) y (h4 y hy),by omega⟩
theorem perm5(a b c d e f:Nat×Bool×Obj)(B:Bl):(a::b::c::d::e::f::B).Perm (c::d::e::a::b::f::B):=by
 have h1:([a,b]++c::(d::e::f::B)).Perm (c::([a,b]++d::e::f::B)):=List.perm_middle
 have h2:([a,b]++d::(e::f::B)).Perm (d::([a,b]++e::f::B)):=List.perm_middle
 have h3:([a,b]++e::(f::B)).Perm (e::([a,b]++f::B)):=List.perm_middle
 exact h1.trans (.cons _ (h2.trans (.cons _ h3)))
def cheap(w:Nat→Int)(nw digits most:Nat):ChSt:=cheapGo (sortS (canTo most digits)) w nw [] 0 ⟨false,0,[]⟩
def cheapV(num:Value)(t a:Int):Value:=.tuple ⟨[num,.int .i64 t,.int .i64 a]⟩
section
variable(M:Md Tryz.prog)(H:View)
theorem Cheapest_c(A:Option Addr)(nw wc:Nat)(w:Nat→Int)(hA:FreeAt H A nw w)(digits most:Nat)(h0:1≤(nw:Int)∧(nw:Int)≤3)(hw:(firstTo (fun j=> !weightOk (w j)) nw).isSome=false)(hd:1≤((digits:Nat):Int)∧((digits:Nat):Int)≤3)(hm:1≤((most:Nat):Int)∧((most:Nat):Int)≤3)(h12:(canTo most digits).length≤12):
   CallT M 53 #[.slice A nw wc,.int .i64 (digits:Nat),.int .i64 (most:Nat)] H (fun v H'=> H.le H'∧∃a n c',v=cheapV (.slice a n c') (cheap w nw digits most).total (cheap w nw digits most).al∧n=(cheap w nw digits most).best.length∧SrcAt H' 1 (.slice a n c') n (strsV (cheap w nw digits most).best)):=by
 have hc:=fun(H':View) (h':H.le H')=> ContainsI_c M H' A nw wc w (hA.le h') (by omega) (.func (.func 121) #[] #[]) (fun j=> !weightOk (w j)) (fun j _ H'' _=> .f ca121 rfl (weightBad_c M H'' (w j)))
 have hwok:∀i,i<nw→0≤w i∧w i≤99:=fun i hi=> by
   have h1:firstTo (fun j=> !weightOk (w j)) nw=none:=by
     cases hz:firstTo (fun j=> !weightOk (w j)) nw with
     | none=> rfl
     | some y=> rw[hz] at hw;cases hw
   have h2:=(firstTo_none _).1 h1 i hi
   unfold weightOk at h2
   simpa using h2
 refine CallT.enter (vs:= [.slice A nw wc,.int .i64 (digits:Nat),.int .i64 (most:Nat)]) Tryz.func53 rfl Tryz.ntmps53 (Nat.le_of_ble_eq_true rfl) (SymSt.nil _) fun St c cs hK=> ?_
 refine .sr ?_
 refine .e (.bx (zz:=fun b3=> ?_))
 refine .e (.al (zz:=fun b6=> ?_))
 refine .e (.al (zz:=fun b7=> ?_))
 refine .e (.al (zz:=fun b8=> ?_))
 refine .done (.seq (.block (.sr ?_)))
 refine .x (.ld 3) ?_
 refine .x .ln ?_
 refine .c rfl rfl rfl rfl (fun H hs=> .f ca82 rfl (between_is M H (nw:Nat) 1 3 true (decide_eq_true h0))) ?_
 refine .x .nt ?_
 refine .g ?_
 refine .done (.ff rfl (.seq (.sr ?_)))
 refine .x (.ld 3) ?_
 refine .c rfl rfl rfl rfl (fun H hs=> .f ca120 rfl (isB (hc H hs.base) hw)) ?_
 refine .g ?_
 refine .done (.ff rfl (.sr ?_))
 refine .m ?_
 refine .c rfl rfl rfl rfl (fun H hs=> .f ca82 rfl (between_is M H (digits:Nat) 1 3 true (decide_eq_true hd))) ?_
 refine .x .nt ?_
 refine .g ?_
 refine .done (.ff rfl (.r ?_))
 refine .m ?_
 refine .c rfl rfl rfl rfl (fun H hs=> .f ca82 rfl (between_is M H (most:Nat) 1 3 true (decide_eq_true hm))) ?_
 refine .x .nt ?_
 refine .g ?_
 refine .done (.ff rfl (.skip (.inBlock (.sr ?_))))
 refine .e (.al (zz:=fun b9=> ?_))
 refine .done (.seq (.sr ?_))
 refine .m ?_
 refine .m ?_
 refine .done (.block ?_)
 refine Tc.db (Tc.loopB (σ:= { y:View×Nat×Gl 9 1//H.le y.1∧y.2.1≤digits∧y.2.2.l=strsV (canTo most y.2.1)∧y.2.2.n=(canTo most y.2.1).length })
   (fun y=> (y.1.1,[(2,.int .i64 (most:Nat)),(3,.pointer (some ⟨b3,0,none⟩)),(6,.pointer (some ⟨b6,0,none⟩)),(7,.pointer (some ⟨b7,0,none⟩)),(8,.pointer (some ⟨b8,0,none⟩)),(9,.pointer (some ⟨b9,0,none⟩)),(26,.int .i64 (digits:Nat)),(27,.int .i64 (y.1.2.1:Nat))],
     [(b9,true,.cells ⟨[y.1.2.2.val]⟩ 33 (0,0)),(b8,true,.cells ⟨[.int .i64 0]⟩ 29 (0,0)),(b7,true,.cells ⟨[.int .i64 0]⟩ 3 (0,0)),(b6,true,.cells ⟨[.slice none 0 0]⟩ 33 (0,0)),(b3,true,.cells ⟨[.slice A nw wc]⟩ 26 (0,0))]++y.1.2.2.bl)) (fun y=> digits-y.1.2.1) ?_ ⟨(H,0,Gl.nil 9 1),View.le_refl _,Nat.zero_le _,rfl,rfl⟩)
 rintro⟨⟨H₁,i,g⟩,g1,g2,g3,g4⟩ ih
 simp only at g1 g2 g3 g4
 show Tc M St _ _ H₁ _ [(2,.int .i64 (most:Nat)),(3,.pointer (some ⟨b3,0,none⟩)),(6,.pointer (some ⟨b6,0,none⟩)),(7,.pointer (some ⟨b7,0,none⟩)),(8,.pointer (some ⟨b8,0,none⟩)),(9,.pointer (some ⟨b9,0,none⟩)),(26,.int .i64 (digits:Nat)),(27,.int .i64 (i:Nat))]
     ([(b9,true,.cells ⟨[g.val]⟩ 33 (0,0)),(b8,true,.cells ⟨[.int .i64 0]⟩ 29 (0,0)),(b7,true,.cells ⟨[.int .i64 0]⟩ 3 (0,0)),(b6,true,.cells ⟨[.slice none 0 0]⟩ 33 (0,0)),(b3,true,.cells ⟨[.slice A nw wc]⟩ 26 (0,0))]++g.bl) _ _
 have hcl:=canTo_len (most:=most) (by omega) i (by omega)
 by_cases c1:i=digits
 · subst c1
   refine .sr ?_
   refine .i ?_ (z:=lss_f (by omega))
   refine .done (.seq (.ff rfl (.exit rfl (.sr ?_))))
   refine .x (.ld 0) ?_
   refine .e (Or.sortSGl (dec:=decS (canTo most i)) (L1:= [(b9,true,.cells ⟨[g.val]⟩ 33 (0,0)),(b8,true,.cells ⟨[.int .i64 0]⟩ 29 (0,0)),(b7,true,.cells ⟨[.int .i64 0]⟩ 3 (0,0)),(b6,true,.cells ⟨[.slice none 0 0]⟩ 33 (0,0)),(b3,true,.cells ⟨[.slice A nw wc]⟩ 26 (0,0))]) g (codesS (canTo most i)) (g3.trans (strsL_codes _).symm) (codes_enc _) (by omega) rfl rfl rfl rfl rfl (by decide) (fun H Q h=> .f ca91 rfl h) (fun g' m hv' hn' hb' hl' ht hs'=> ?_))
   rw[←hv']
   have hso:=codes_sorted g4 ht hs'
   have hl2:g'.l=strsV (sortS (canTo most i)):=by rw[hl',strsL_map,hso];rfl
   have hslen:(sortS (canTo most i)).length=(canTo most i).length:=(sortS_perm _).length_eq
   clear hl' ht hs' hso hv'
   refine .done (.sr ?_)
   refine .e (.st 1 (zz:=?_))
   refine .done (.sr ?_)
   refine .e (.al (zz:=fun b11=> ?_))
   refine .done (.sr ?_)
   refine .x .mf ?_
   refine .e (.st 0 (zz:=?_))
   refine .done (.sr ?_)
   refine .x (.ld 0) ?_
   refine To.lift (L₂:= []) (L₁:= [(b11,true,.cells ⟨[cheapF b8 b7 b3 b6 b9 b11]⟩ 171 (0,0)),(b9,true,.cells ⟨[g'.val]⟩ 33 (0,0)),(b8,true,.cells ⟨[.int .i64 9]⟩ 29 (0,0)),(b7,true,.cells ⟨[.int .i64 0]⟩ 3 (0,0)),(b6,true,.cells ⟨[.slice none 0 0]⟩ 33 (0,0)),(b3,true,.cells ⟨[.slice A nw wc]⟩ 26 (0,0))]++g'.bl) rfl (fun Hx hx=> ?_)
   obtain⟨H',h1,h2⟩:=SymSt.unappend (B:= [(b8,true,.cells ⟨[.int .i64 9]⟩ 29 (0,0)),(b7,true,.cells ⟨[.int .i64 0]⟩ 3 (0,0)),(b6,true,.cells ⟨[.slice none 0 0]⟩ 33 (0,0))]) (L:= [(b11,true,.cells ⟨[cheapF b8 b7 b3 b6 b9 b11]⟩ 171 (0,0)),(b9,true,.cells ⟨[g'.val]⟩ 33 (0,0)),(b3,true,.cells ⟨[.slice A nw wc]⟩ 26 (0,0))]++g'.bl) (hx.perm (by
     simp only[List.cons_append,List.nil_append]
     exact(perm5 _ _ _ _ _ _ _).symm))
   have hcap:ChCap (sortS (canTo most i)) w nw b8 b7 b3 b6 b9 b11 (g'.blk.map fun b=> ⟨b,0,none⟩) A g'.cap wc H':=
     ⟨⟨true,h2.get (i:=0) rfl⟩,⟨true,by have h3:=h2.get (i:=1) rfl;rw[hslen,←g4,←hn'];exact h3⟩,⟨true,h2.get (i:=2) rfl⟩,by
       have h3:=strs_of (g0:=g') g' (H:=H') (fun x hx=> h2.at_ x (List.mem_append_right _ hx)) hl2 rfl rfl
       rw[hn',g4,←hslen] at h3
       exact h3,(hA.le g1).le h2.base⟩
   refine To.callF rfl rfl rfl rfl rfl rfl (by decide) (FnT.of (first:= []) (captured:= [_,_,_,_,_,_]) ca123 rfl (more2_c M (sortS (canTo most i)) w nw b8 b7 b3 b6 b9 b11 (g'.blk.map fun b=> ⟨b,0,none⟩) A g'.cap wc (by omega) (by rw[hslen];omega) (fun s hs=> mem_canTo ((sortS_perm _).mem_iff.1 hs) (by omega)) hwok nw (Gl.nil 9 1) [] 0 ⟨false,0,[]⟩ none 0 0 H' Hx rfl (Nat.zero_add _) (by decide) hcap rfl ⟨⟨_,_,rfl⟩,rfl,.inl ⟨none,0,rfl,rfl⟩⟩ h1)) (fun v H₃ hv=> ?_)
   obtain⟨_,H₄,g4',a4,n4,c4,r1,r2,r3,r4,r5⟩:=hv
   refine To.expand r2 ?_
   unfold stB
   refine .done (.seq ?_)
   refine Tc.dr [] [] mixed rfl ?_
   refine .q 0 rfl (.ld 2) ?_
   refine .q 1 rfl (.ld 1) ?_
   refine .q 2 rfl (.ld 0) ?_
   refine Ta.each [3] (by kernel_rfl) rfl ⟨TaOp.mk rfl rfl rfl (.st 2 (zz:=⟨S2.mk (by exact List.Sublist.refl _) (.inr (by exact List.Sublist.refl _)),?_⟩)),trivial⟩
   refine Ta.each [4] (by kernel_rfl) rfl ⟨TaOp.mk rfl rfl rfl (.st 1 (zz:=⟨S2.mk (by exact List.Sublist.refl _) (.inr (by exact List.Sublist.refl _)),?_⟩)),trivial⟩
   refine Ta.each [5] (by kernel_rfl) rfl ⟨TaOp.mk rfl rfl rfl (.st 0 (zz:=⟨S2.mk (by exact List.Sublist.refl _) (.inr (by exact List.Sublist.refl _)),?_⟩)),trivial⟩
   refine Ta.done (by kernel_rfl) ?_
   refine Tc.retN (E:=en) hK Tryz.func53 Tryz.results53 (vs:= [_,_,_]) (by refine⟨⟨2,_,_,_,_,_,_,_,rfl,rfl,rfl,rfl⟩,?_⟩;refine⟨⟨1,_,_,_,_,_,_,_,rfl,rfl,rfl,rfl⟩,?_⟩;refine⟨⟨0,_,_,_,_,_,_,_,rfl,rfl,rfl,rfl⟩,?_⟩;exact trivial) ?_
   exact fun H' hs=> ⟨View.le_trans g1 (View.le_trans h2.base (View.le_trans r1 hs.base)),a4,n4,c4,rfl,r4,r5.mono hs.base⟩
 · have c2:i<digits:=by omega
   have hal:=allL_len (most:=most) (n:=i+1) (by omega) (by omega)
   have hlc:([49,50,51,52,53,54,55,56,57]:List UInt8).length=9:=rfl
   have hdl:(digs1.take most).length≤1000:=by rw[List.length_take];omega
   refine .sr ?_
   refine .i ?_ (z:=lss_t (by omega))
   refine .done (.seq (.tt rfl (.skip (.seq (.block (.sr ?_))))))
   refine .m ?_
   refine .g ?_
   refine .done ?_
   refine Tc.drT [7] [6] [0] 5 mixed rfl ?_
   refine Ta.tkC 0 (by kernel_rfl) rfl rfl (by decide) rfl rfl (OpV.take (.ld 0)) ?_
   refine Ta.tkC 1 (by kernel_rfl) rfl rfl (by decide) rfl rfl (OpV.take .mv) ?_
   refine Ta.tkC 2 (by kernel_rfl) rfl rfl (by decide) rfl rfl (OpV.take (.it (zz:=add_in (by omega) (by omega)))) ?_
   refine Ta.tkC 3 (by kernel_rfl) rfl rfl (by decide) rfl rfl (OpV.take .mv) ?_
   refine Ta.tkC 4 (by kernel_rfl) rfl rfl (by decide) rfl rfl (OpV.take (OpV.sliceS (E:=en) rfl rfl rfl rfl rfl rfl (by omega) (by omega) (by omega))) ?_
   refine Ta.each [5] (by kernel_rfl) rfl ⟨TaOp.mk rfl rfl rfl (Or.callNew (fun s=> allF s.1.1 s.1.2) (allB2 (i+1) (digs1.take most)) (fun _=> True) rfl rfl rfl rfl rfl (by decide) (allB2_nodup _ _) (fun H hs=> .f ca116 rfl (all_n M H (i+1) (digs1.take most))) (fun s _=> ⟨S3.mk (by apply List.Sublist.cons;exact List.sublist_append_left _ _) (.inr (by exact List.sublist_append_left _ _)),?_⟩)),trivial⟩
   refine Ta.lift (L₂:= [(b9,true,.cells ⟨[g.val]⟩ 33 (0,0)),(b8,true,.cells ⟨[.int .i64 0]⟩ 29 (0,0)),(b7,true,.cells ⟨[.int .i64 0]⟩ 3 (0,0)),(b6,true,.cells ⟨[.slice none 0 0]⟩ 33 (0,0)),(b3,true,.cells ⟨[.slice A nw wc]⟩ 26 (0,0))]) (L₁:=g.bl++allB2 (i+1) (digs1.take most) s) rfl (fun Hx hx=> ?_);obtain⟨H',h1,h2⟩:=hx.unappend
   refine Ta.callF 6 (by kernel_rfl) rfl (by kernel_rfl) rfl rfl rfl rfl rfl rfl (by decide) (FnT.f ca122 rfl (AppendSeq_c M g (canTo most i) g3 (by omega) (i+1) (digs1.take most) (by omega) (digs1_dig most) hdl (by omega) s.1.1 s.1.2 H' Hx ⟨⟨true,h2.get (i:=0) rfl⟩,⟨true,h2.get (i:=1) rfl⟩⟩ h1)) (fun v H₃ hv=> ?_)
   obtain⟨g',H₂,rfl,q1,q2,q3,q4⟩:=hv
   refine Ta.expand q2 ?_
   refine Ta.each [7] (by kernel_rfl) rfl ⟨TaOp.mk rfl rfl rfl (.st 0 (zz:=⟨S3.off (by kernel_rfl),?_⟩)),trivial⟩
   refine Ta.done (by kernel_rfl) ?_
   refine .inBlock (.r ?_)
   refine .i ?_ (z:=add_in (by omega) (by omega))
   refine .m ?_
   refine .done ?_
   exact Tc.db (ih ⟨(H₂,i+1,g'),View.le_trans g1 (View.le_trans h2.base q1),by simp only;omega,by simp only;rw[canTo_succ];exact q3,by simp only;rw[canTo_succ,List.length_append,q4,g4]⟩ (by simp only;omega))
end
end Go.Proofs.YtdnfdeplcjaonaaGreatDoor
end
section
namespace Go.Proofs.YtdnfdeplcjaonaaGreatDoor
open Go.RL
set_option maxRecDepth 10000
theorem ddTo_mem {l:List Int}{x:Int}:∀k,k≤l.length→(x∈ddTo l k↔∃i,i<k∧at0 l i=x)
 | 0,_=> by simp[ddTo]
 | k + 1,hk=> by
   have ih:=ddTo_mem (l:=l) (x:=x) k (by omega)
   unfold ddTo
   split
   · rename_i h
     rw[ih]
     constructor
     · rintro⟨i,h1,h2⟩
       exact⟨i,by omega,h2⟩
     · rintro⟨i,h1,h2⟩
       by_cases e:i=k
       · subst e
         exact⟨i-1,by omega,by rw[←h.2];exact h2⟩
       · exact⟨i,by omega,h2⟩
   · rw[List.mem_append,ih,List.mem_singleton]
     constructor
     · rintro(⟨i,h1,h2⟩|rfl)
       · exact⟨i,by omega,h2⟩
       · exact⟨k,by omega,rfl⟩
     · rintro⟨i,h1,h2⟩
       by_cases e:i=k
       · subst e;exact .inr h2.symm
       · exact .inl ⟨i,by omega,h2⟩
theorem ddTo_asc {l:List Int}{n:Nat}(hs:Srt 0 n l)(hn:n≤l.length):∀k,k≤n→(ddTo l k).Pairwise (· < ·)
 | 0,_=> List.Pairwise.nil
 | k + 1,hk=> by
   have ih:=ddTo_asc hs hn k (by omega)
   unfold ddTo
   split
   · exact ih
   · rename_i h
     rw[List.pairwise_append]
     refine⟨ih,List.pairwise_singleton _ _,fun a ha b hb=> ?_⟩
     have hb':b=at0 l k:=by simpa using hb
     subst hb'
     obtain⟨i,h1,rfl⟩:=(ddTo_mem k (by omega)).1 ha
     have h2:=hs i (k-1) (Nat.zero_le _)
     have h3:=hs (k-1) k (Nat.zero_le _) (by omega) (by omega)
     have h4:at0 l k≠at0 l (k-1):=fun e=> h ⟨by omega,e⟩
     by_cases e:i=k-1
     · subst e;omega
     · have:=h2 (by omega) (by omega);omega
theorem Srt.at_mem {l:List Int}{x:Int}:x∈l↔∃i,i<l.length∧at0 l i=x:=by
 rw[List.mem_iff_getElem]
 constructor
 · rintro⟨i,h,rfl⟩
   exact⟨i,h,by unfold at0;rw[List.getElem?_eq_getElem h];rfl⟩
 · rintro⟨i,h,e⟩
   refine⟨i,h,?_⟩
   unfold at0 at e
   rw[List.getElem?_eq_getElem h] at e
   exact e
theorem asc_uniq {l m:List Int}(hl:l.Pairwise (· < ·))(hm:m.Pairwise (· < ·))(h:∀x,x∈l↔x∈m):l=m:=by
 have hp:l.Perm m:=(List.perm_ext_iff_of_nodup (List.nodup_iff_pairwise_ne.2 (hl.imp (fun h=> Int.ne_of_lt h))) (List.nodup_iff_pairwise_ne.2 (hm.imp (fun h=> Int.ne_of_lt h)))).2 h
 exact List.Perm.eq_of_pairwise (le:=(· ≤·)) (fun a b _ _ h1 h2=> Int.le_antisymm h1 h2) (hl.imp (fun h=> Int.le_of_lt h)) (hm.imp (fun h=> Int.le_of_lt h)) hp
def AscS(l:List (List UInt8)):Prop:=l.Pairwise fun a b=> Op.bytesLess a b=true
theorem ascS_uniq {l m:List (List UInt8)}(hl:AscS l)(hm:AscS m)(h:∀x,x∈l↔x∈m):l=m:=by
 have ne:∀ {a b:List UInt8},Op.bytesLess a b=true→a≠b:=fun h e=> by rw[e,less_irr] at h;cases h
 have hp:l.Perm m:=(List.perm_ext_iff_of_nodup (List.nodup_iff_pairwise_ne.2 (hl.imp ne)) (List.nodup_iff_pairwise_ne.2 (hm.imp ne))).2 h
 have le:∀ {a b:List UInt8},Op.bytesLess a b=true→leS a b=true:=fun h=> by unfold leS;rw[less_asym h];rfl
 exact sorted_uniq hp (hl.imp le) (hm.imp le)
def putS(x:List UInt8):List (List UInt8)→List (List UInt8)
 | []=> [x]
 | y::t=> if Op.bytesLess x y then x::y::t else if x=y then y::t else y::putS x t
def ascOf:List (List UInt8)→List (List UInt8)
 | []=> []
 | x::t=> putS x (ascOf t)
theorem mem_putS {x z:List UInt8}:∀l,z∈putS x l↔z=x∨z∈l
 | []=> by simp[putS]
 | y ::t=> by
   unfold putS
   split
   · simp
   · split
     · rename_i e
       subst e
       simp
     · rw[List.mem_cons,mem_putS t,List.mem_cons]
       constructor
       · rintro(h|h|h)
         · exact .inr (.inl h)
         · exact .inl h
         · exact .inr (.inr h)
       · rintro(h|h|h)
         · exact .inr (.inl h)
         · exact .inl h
         · exact .inr (.inr h)
theorem putS_asc(x:List UInt8):∀l,AscS l→AscS (putS x l)
 | [],_=> List.pairwise_singleton _ _
 | y ::t,h=> by
   obtain⟨h1,h2⟩:=List.pairwise_cons.1 h
   unfold putS
   split
   · rename_i hx
     refine List.pairwise_cons.2 ⟨fun z hz=> ?_,h⟩
     rcases List.mem_cons.1 hz with rfl|hz
     · exact hx
     · exact less_trans hx (h1 z hz)
   · rename_i hx
     split
     · exact h
     · rename_i hne
       refine List.pairwise_cons.2 ⟨fun z hz=> ?_,putS_asc x t h2⟩
       rcases(mem_putS t).1 hz with rfl|hz
       · cases e:Op.bytesLess y z with
         | true=> rfl
         | false=> exact(hne (less_tri (by simpa using hx) e)).elim
       · exact h1 z hz
theorem mem_ascOf {z:List UInt8}:∀l,z∈ascOf l↔z∈l
 | []=> Iff.rfl
 | x::t=> by
   unfold ascOf
   rw[mem_putS,mem_ascOf t,List.mem_cons]
theorem ascOf_asc:∀l,AscS (ascOf l)
 | []=> List.Pairwise.nil
 | x::t=> putS_asc x _ (ascOf_asc t)
theorem codes_asc {S:List (List UInt8)}{m:List Int}{n:Nat}(hn:n=S.length)(ht:Turned 0 n (codesS S) m)(hs:Srt 0 n m):(ddTo m n).map (decS S)=ascOf S:=by
 have hml:m.length=n:=by rw[ht.len,hn];simp[codesS]
 have hmem:∀x∈ddTo m n,x∈codesS S:=fun x hx=> by
   obtain⟨i,h1,rfl⟩:=(ddTo_mem n (by omega)).1 hx
   exact(ht.mem _).1 (at0_mem (by omega))
 refine ascS_uniq ?_ (ascOf_asc S) (fun z=> ?_)
 · unfold AscS
   rw[List.pairwise_map]
   have h1:=ddTo_asc hs (by omega) n (Nat.le_refl _)
   refine List.Pairwise.imp_of_mem (fun {a b} ha hb h3=> ?_) h1
   rw[codes_enc S a (hmem a ha) b (hmem b hb)]
   exact decide_eq_true h3
 · rw[mem_ascOf,List.mem_map]
   constructor
   · rintro⟨x,hx,rfl⟩
     obtain⟨s,h1,h2⟩:=List.mem_map.1 (hmem x hx)
     rw[←h2,dec_rank h1]
     exact h1
   · intro hz
     refine⟨((rankS S z:Nat):Int),?_,dec_rank hz⟩
     have h1:((rankS S z:Nat):Int)∈m:=(ht.mem _).2 (List.mem_map.2 ⟨z,hz,rfl⟩)
     obtain⟨i,h2,h3⟩:=Srt.at_mem.1 h1
     exact(ddTo_mem n (by omega)).2 ⟨i,by omega,h3⟩
theorem ascOf_congr {l m:List (List UInt8)}(h:∀x,x∈l↔x∈m):ascOf l=ascOf m:=
 ascS_uniq (ascOf_asc l) (ascOf_asc m) fun x=> by rw[mem_ascOf,mem_ascOf,h]
def putI(x:Int):List Int→List Int
 | []=> [x]
 | y::t=> if x<y then x::y::t else if x=y then y::t else y::putI x t
def ascI:List Int→List Int
 | []=> []
 | x::t=> putI x (ascI t)
theorem mem_putI {x z:Int}:∀l,z∈putI x l↔z=x∨z∈l
 | []=> by simp[putI]
 | y ::t=> by
   unfold putI
   split
   · simp
   · split
     · rename_i e
       subst e
       simp
     · rw[List.mem_cons,mem_putI t,List.mem_cons]
       constructor
       · rintro(h|h|h)
         · exact .inr (.inl h)
         · exact .inl h
         · exact .inr (.inr h)
       · rintro(h|h|h)
         · exact .inr (.inl h)
         · exact .inl h
         · exact .inr (.inr h)
theorem putI_asc(x:Int):∀l:List Int,l.Pairwise (· < ·)→(putI x l).Pairwise (· < ·)
 | [],_=> List.pairwise_singleton _ _
 | y ::t,h=> by
   obtain⟨h1,h2⟩:=List.pairwise_cons.1 h
   unfold putI
   split
   · rename_i hx
     refine List.pairwise_cons.2 ⟨fun z hz=> ?_,h⟩
     rcases List.mem_cons.1 hz with rfl|hz
     · exact hx
     · have:=h1 z hz;omega
   · rename_i hx
     split
     · exact h
     · rename_i hne
       refine List.pairwise_cons.2 ⟨fun z hz=> ?_,putI_asc x t h2⟩
       rcases(mem_putI t).1 hz with rfl|hz
       · omega
       · exact h1 z hz
theorem mem_ascI {z:Int}:∀l,z∈ascI l↔z∈l
 | []=> Iff.rfl
 | x::t=> by
   unfold ascI
   rw[mem_putI,mem_ascI t,List.mem_cons]
theorem ascI_asc:∀l,(ascI l).Pairwise (· < ·)
 | []=> List.Pairwise.nil
 | x::t=> putI_asc x _ (ascI_asc t)
theorem ints_asc {S m:List Int}{n:Nat}(hn:n=S.length)(ht:Turned 0 n S m)(hs:Srt 0 n m):ddTo m n=ascI S:=by
 have hml:m.length=n:=by rw[ht.len,hn]
 refine asc_uniq (ddTo_asc hs (by omega) n (Nat.le_refl _)) (ascI_asc S) (fun z=> ?_)
 rw[mem_ascI,ddTo_mem n (by omega),←ht.mem z,Srt.at_mem,hml]
end Go.Proofs.YtdnfdeplcjaonaaGreatDoor
end
section
namespace Go.Proofs.YtdnfdeplcjaonaaGreatDoor
open Go.RL
set_option maxRecDepth 10000
set_option maxHeartbeats 16000000
def Bk.heardL(k:Bk):List (List UInt8):=ascOf ((k.earsL k.nt).map (·.heard))
def wordsV(g:Gl 9 1)(a:Int):Value:=.tuple ⟨[g.val,.int .i64 a]⟩
theorem nodup_le {α:Type}:∀ {l m:List α},l.Nodup→(∀x∈l,x∈m)→l.length≤m.length
 | [],_,_,_=> Nat.zero_le _
 | x ::t,m,hn,hs=> by
   obtain⟨h1,h2⟩:=List.nodup_cons.1 hn
   obtain⟨a,b,rfl⟩:=List.append_of_mem (hs x (List.mem_cons_self ..))
   have:=nodup_le (l:=t) (m:=a++b) h2 (fun y hy=> by
     have:=hs y (List.mem_cons_of_mem _ hy)
     rcases List.mem_append.1 this with h|h
     · exact List.mem_append_left _ h
     · rcases List.mem_cons.1 h with rfl|h
       · exact(h1 hy).elim
       · exact List.mem_append_right _ h)
   simp only[List.length_append,List.length_cons] at this ⊢
   omega
theorem ears_size {k:Bk}{es:Array MapEntry}{cl n:Nat}(h:MapOk es cl (earF (k.earsS n))):es.size≤(k.earsL n).length:=by
 have hsub:∀x∈es.toList.map (·.key),x∈(k.earsL n).map Ear.val:=by
   intro x hx
   obtain⟨e,he,rfl⟩:=List.mem_map.1 hx
   obtain⟨y,h1,h2,_⟩:=earF_keys h e he
   exact List.mem_map.2 ⟨y,(k.mem_earsL n y).2 h1,h2.symm⟩
 have:=nodup_le h.keys hsub
 simpa using this
section
variable(M:Md Tryz.prog)(H:View)
theorem Heard_c(k:Bk)(A:Option Addr)(lc:Nat)(B:Option Addr)(tc:Nat)(hk:BkAt H k A lc B tc)(hn:k.small)(hG:Glob H)(ha:k.alarm=0)(h12:(k.earsL k.nt).length≤12):
   CallT M 23 #[k.val A lc B tc] H (fun v H'=> H.le H'∧∃g:Gl 9 1,v=wordsV g 0∧(g.n=k.heardL.length∧g.l=strsV k.heardL)∧∀x∈g.bl,H' x.1=some x.2∧H x.1=none):=by
 obtain⟨_,hnl,hnt,hok⟩:=Bk.valid ha
 have hop:=fun(H':View) (h':H.le H')=> open_yes M H' k A lc B tc (hk.le h') hn (glob_le hG h') ha
 refine CallT.enter (vs:= [k.val A lc B tc]) Tryz.func23 rfl Tryz.ntmps23 (Nat.le_of_ble_eq_true rfl) (SymSt.nil _) fun St c cs hK=> ?_
 refine .sr ?_
 refine .e (.bx (zz:=fun b1=> ?_))
 refine .g ?_
 refine .g ?_
 refine .done (.sr ?_)
 refine .x (.ld 0) ?_
 refine .c rfl rfl rfl rfl (fun H hs=> .f ca81 rfl (hop H hs.base)) ?_
 refine .m ?_
 refine .x .et ?_
 refine .x .et ?_
 refine .e (.al (zz:=fun b4=> ?_))
 refine .e (.st 0 (zz:=?_))
 refine .g ?_
 refine .done (.seq (.sr ?_))
 refine .m ?_
 refine .i ?_ (z:=neq_f (by omega))
 refine .done (.ff rfl (.skip (.sr ?_)))
 refine .g ?_
 refine .done (.seq (.sr ?_))
 refine .x (.ld 0) ?_
 refine .x .fa ?_
 refine .x (.ld 1) ?_
 refine .x .ln ?_
 refine To.callF rfl rfl rfl rfl rfl rfl (by decide) (FnT.f ca90 rfl (ears_c M H k A lc B tc hk.trains hok hnt k.nt (Nat.le_refl _))) (fun v H₂ hv=> ?_)
 obtain⟨hle,m,es,cl,rfl,⟨fm,q3⟩,q4⟩:=hv
 have hsz:=ears_size q4
 refine .e (Or.range (E:=en) (es:=es) (cl:=cl) rfl rfl (fun H hs=> ⟨fm,hs.base _ _ q3⟩) rfl rfl rfl (by decide) (fun it=> ?_))
 refine .done (.block ?_)
 refine Tc.db (Tc.loopInv (σ:= { s:Array Nat×List (List UInt8)×Gl 9 1//s.2.2.l=strsV s.2.1∧(unseen es s.1).length+s.2.1.length=es.size∧∀x,x∈(k.earsL k.nt).map (·.heard)↔(x∈s.2.1∨∃me∈unseen es s.1,∃e:Ear,me.key=e.val∧x=e.heard) })
   (fun s=> ([(1,.pointer (some ⟨b1,0,none⟩)),(4,.pointer (some ⟨b4,0,none⟩)),(6,s.1.2.2.val),(21,.pointer (some ⟨it,0,none⟩))],[(it,true,.mapIter (some m) cl s.1.1 cl),(b4,true,.cells ⟨(k.val A lc B tc).cells.toList⟩ 113 (0,0)),(b1,true,.cells ⟨(k.val A lc B tc).cells.toList⟩ 25 (0,0))]++s.1.2.2.bl)) (fun s=> (unseen es s.1.1).length) ?_ ⟨(#[],[],Gl.nil 9 1),rfl,by rw[unseen_start];simp,fun x=> by
     rw[unseen_start,List.mem_map]
     constructor
     · rintro⟨e,he,rfl⟩
       obtain⟨me,h1,h2,_⟩:=(q4.mem e.val (.bool true)).1 ⟨e,(k.mem_earsL _ e).1 he,rfl,rfl⟩
       exact .inr ⟨me,h1,e,h2,rfl⟩
     · rintro(h|⟨me,h1,e,h2,rfl⟩)
       · cases h
       · obtain⟨y,h3,h4,_⟩:=earF_keys q4 me h1
         rw[ear_inj (h2.symm.trans h4)]
         exact⟨y,(k.mem_earsL _ y).2 h3,rfl⟩⟩)
 rintro⟨⟨seen,dn,g⟩,p2,p3,p4⟩ ih
 simp only at p2 p3 p4
 show Tc M St _ _ H₂ _ [(1,.pointer (some ⟨b1,0,none⟩)),(4,.pointer (some ⟨b4,0,none⟩)),(6,g.val),(21,.pointer (some ⟨it,0,none⟩))] ([(it,true,.mapIter (some m) cl seen cl),(b4,true,.cells ⟨(k.val A lc B tc).cells.toList⟩ 113 (0,0)),(b1,true,.cells ⟨(k.val A lc B tc).cells.toList⟩ 25 (0,0))]++g.bl) _ _
 have hgn:g.n=dn.length:=by have:=g.hl;rw[p2,strsV_len] at this;omega
 refine .sr ?_
 refine .e (Or.next (es:=es) 0 rfl rfl rfl (fun H hs=> ⟨fm,hs.base _ _ q3⟩) q4.lt rfl (by decide) (fun me he hse=> ?_) (fun hall=> ?_))
 · have hp :=unseen_next q4.borns he hse
   obtain⟨e0,u1,u2,_⟩:=earF_keys q4 me he
   have hfind:=earF_find q4 he
   have hpl:=hp.length_eq
   rw[List.length_cons] at hpl
   refine .x .et ?_
   refine .done (.seq (.tt rfl (.skip (.block (.sr ?_)))))
   refine .e (Or.entry (es:=es) (e:=me) (st:=me.born) rfl rfl (fun H hs=> ⟨true,hs.get (i:=0) rfl⟩) (fun H hs=> ⟨fm,hs.base _ _ q3⟩) (by simp) hfind rfl (by decide) ?_)
   rw[u2]
   refine .x .et ?_
   refine .e (.al (zz:=fun b7=> ?_))
   refine .e (.st 0 (zz:=?_))
   refine .done (.r ?_)
   refine .m ?_
   refine .x .fa ?_
   refine .x (.ld 0) ?_
   refine .e (.bs (zz:=fun bs=> ?_))
   refine .e (Or.append (E:=en) 5 rfl rfl rfl rfl rfl rfl rfl rfl rfl rfl rfl rfl rfl rfl rfl (fun H hs=> SrcAt.of (hs.get (i:=0) rfl) (Nat.le_of_ble_eq_true rfl)) rfl (by omega) rfl (by decide) (fun g' hn2 hl2=> ?_))
   refine .g ?_
   refine .done (.inBlock ?_)
   exact Tc.db (ih ⟨(seen.push me.born,dn++[e0.heard],g'),by simp only;rw[hl2,p2,strsV_app];rfl,by simp only;rw[List.length_append,List.length_singleton];omega,fun x=> by
     rw[p4 x,List.mem_append,List.mem_singleton]
     constructor
     · rintro(h|⟨me',h1,e',h2,h5⟩)
       · exact .inl (.inl h)
       · rcases List.mem_cons.1 (hp.mem_iff.1 h1) with rfl|h6
         · rw[ear_inj (h2.symm.trans u2)] at h5
           exact .inl (.inr h5)
         · exact .inr ⟨me',h6,e',h2,h5⟩
     · rintro((h|h)|⟨me',h6,h7⟩)
       · exact .inl h
       · exact .inr ⟨me,hp.mem_iff.2 (List.mem_cons_self ..),e0,u2,h⟩
       · exact .inr ⟨me',hp.mem_iff.2 (List.mem_cons_of_mem _ h6),h7⟩⟩ (by simp only;omega))
 · have hnil:=unseen_done hall
   rw[hnil] at p3 p4
   simp only[List.not_mem_nil,false_and,exists_false,or_false] at p4
   rw[List.length_nil,Nat.zero_add] at p3
   have hheard:k.heardL=ascOf dn:=ascOf_congr p4
   refine .x .et ?_
   refine .done (.seq (.ff rfl (.exit rfl (.sr ?_))))
   refine .m ?_
   refine .e (Or.sortSGl (dec:=decS dn) (L1:= [(it,true,.mapIter (some m) cl seen cl),(b4,true,.cells ⟨(k.val A lc B tc).cells.toList⟩ 113 (0,0)),(b1,true,.cells ⟨(k.val A lc B tc).cells.toList⟩ 25 (0,0))]) g (codesS dn) (p2.trans (strsL_codes _).symm) (codes_enc _) (by omega) rfl rfl rfl rfl rfl (by decide) (fun H Q h=> .f ca91 rfl h) (fun g' mm hv' hn' hb' hl' ht hs'=> ?_))
   rw[←hv']
   rw[hgn] at ht hs' hn'
   have hfin:(ddTo mm dn.length).map (decS dn)=k.heardL:=by rw[hheard];exact codes_asc rfl ht hs'
   have hE':=(codes_enc dn).turned ht
   refine .done (.sr ?_)
   refine .m ?_
   refine .e (Or.compSGl (dec:=decS dn) (L1:= [(it,true,.mapIter (some m) cl seen cl),(b4,true,.cells ⟨(k.val A lc B tc).cells.toList⟩ 113 (0,0)),(b1,true,.cells ⟨(k.val A lc B tc).cells.toList⟩ 25 (0,0))]) g' mm hl' hE' (by omega) rfl rfl rfl rfl rfl (by decide) (fun H Q h=> .f ca92 rfl h) (fun g2 hn3 hl3=> ?_))
   rw[hn'] at hn3 hl3
   have hl4:g2.l=strsV k.heardL:=by rw[hl3,strsL_map,hfin];rfl
   have hn4:g2.n=k.heardL.length:=by rw[hn3,←hfin,List.length_map]
   refine .g ?_
   refine .g ?_
   refine .done ?_
   refine .rt hK Tryz.func23 Tryz.results23 [_,_] ?_
   exact fun H' hs=> ⟨View.le_trans hle hs.base,g2,rfl,⟨hn4,hl4⟩,fun x hx=> ⟨hs.at_ x (by simp[hx]),none_le hle (hs.out x (by simp[hx]))⟩⟩
end
end Go.Proofs.YtdnfdeplcjaonaaGreatDoor
end
section
namespace Go.Proofs.YtdnfdeplcjaonaaGreatDoor
open Go.RL
set_option maxRecDepth 10000
set_option maxHeartbeats 8000000
section
variable(M:Md Tryz.prog)(H:View)
end
end Go.Proofs.YtdnfdeplcjaonaaGreatDoor
end
section
namespace Go.Proofs.YtdnfdeplcjaonaaGreatDoor
open Go.RL
set_option maxRecDepth 10000
set_option maxHeartbeats 8000000
section
variable(M:Md Tryz.prog)(H:View)
end
end Go.Proofs.YtdnfdeplcjaonaaGreatDoor
end
section
namespace Go.Proofs.YtdnfdeplcjaonaaGreatDoor
open Go.RL
set_option maxRecDepth 10000
theorem firstTo_in {p:Nat→Bool}:∀n {i:Nat},firstTo p n=some i→i<n
 | 0,_,h=> by cases h
 | n + 1,i,h=> by
   rw[firstTo] at h
   cases e:firstTo p n with
   | some j=>
     rw[e] at h
     have:=firstTo_in n e
     cases h
     omega
   | none=>
     rw[e] at h
     by_cases hp:p n=true
     · rw[if_pos hp] at h
       cases h
       omega
     · rw[if_neg hp] at h
       cases h
end Go.Proofs.YtdnfdeplcjaonaaGreatDoor
end
section
namespace Go.Proofs.YtdnfdeplcjaonaaGreatDoor
open Go.RL
set_option maxRecDepth 10000
set_option maxHeartbeats 16000000
section
variable(M:Md Tryz.prog)(H:View)
theorem Lesser_eq(A B:Option Addr)(n ac bc:Nat)(x y:Nat→Int)(hA:FreeAt H A n x)(hB:FreeAt H B n y)(hn:n≤1000000)(he:∀i,i<n→x i=y i):
   CallT M 134 #[.slice A n ac,.slice B n bc] H (fun v H'=> H.le H'∧v=.bool false):=by
 refine CallT.enter (vs:= [.slice A n ac,.slice B n bc]) Tryz.func134 rfl Tryz.ntmps134 (Nat.le_of_ble_eq_true rfl) (SymSt.nil _) fun St c cs hK=> ?_
 refine .sr ?_
 refine .g ?_
 refine .done (.seq (.sr ?_))
 refine .g ?_
 refine .done (.block ?_)
 refine Tc.db (Tc.loopInv (σ:= { j:Nat//j≤n }) (fun j=> ([(0,.slice A n ac),(1,.slice B n bc),(5,.int .i64 (j.1:Nat))],[])) (fun j=> n-j.1) ?_ ⟨0,Nat.zero_le _⟩)
 rintro⟨j,hj⟩ ih
 show Tc M St _ _ _ _ [(0,.slice A n ac),(1,.slice B n bc),(5,.int .i64 (j:Nat))] [] _ _
 by_cases c1:j=n
 · subst c1
   refine .seq (.sr ?_)
   refine .m ?_
   refine .m ?_
   refine .x .ln ?_
   refine .i ?_ (z:=lss_f (by omega))
   refine .m ?_
   refine .sk ?_
   refine .sk ?_
   refine .sk ?_
   refine .sk ?_
   refine .x .pk ?_
   refine .done (.ff rfl (.exit rfl (.sr ?_)))
   refine .m ?_
   refine .x .ln ?_
   refine .m ?_
   refine .x .ln ?_
   refine .i ?_ (z:=lss_f (by omega))
   refine .g ?_
   refine .done ?_
   refine .rt hK Tryz.func134 Tryz.results134 [_] ?_
   exact fun H' hs=> ⟨hs.base,rfl⟩
 · have c2:j<n:=by omega
   obtain h0|⟨ab,ao,fa,gs,gt,gz,rfl,hab,hal⟩:=hA
   · omega
   obtain h0|⟨bb,bo,fb,ks,kt,kz,rfl,hbb,hbl⟩:=hB
   · omega
   have f1:=hal j c2
   have f2:=hbl j c2
   have f3:=he j c2
   refine .seq (.sr ?_)
   refine .m ?_
   refine .m ?_
   refine .x .ln ?_
   refine .i ?_ (z:=lss_t (by omega))
   refine .m ?_
   refine .m ?_
   refine .m ?_
   refine .x .ln ?_
   refine .i ?_ (z:=lss_t (by omega))
   refine .x .pk ?_
   refine .done (.tt rfl (.skip (.seq (.block (.seq ?_)))))
   refine Tc.dr [] [] mixed rfl ?_
   refine .q 0 rfl .mv ?_
   refine .q 1 rfl .mv ?_
   refine .q 2 rfl .ia ?_
   refine .q 3 rfl .l0 ?_
   refine .q 4 rfl .mv ?_
   refine .q 5 rfl .mv ?_
   refine .q 6 rfl .ia ?_
   refine .q 7 rfl .l0 ?_
   refine .q 8 rfl (.it (zz:=neq_f (by omega))) ?_
   refine Ta.done (by kernel_rfl) ?_
   refine .ff rfl (.skip (.inBlock (.r ?_)))
   refine .m ?_
   refine .i ?_ (z:=add_in (by omega) (by omega))
   refine .g ?_
   refine .done ?_
   exact Tc.db (ih ⟨j+1,by omega⟩ (by simp only;omega))
theorem SameNums_eq(A B:Option Addr)(n ac bc:Nat)(x y:Nat→Int)(hA:FreeAt H A n x)(hB:FreeAt H B n y)(hn:n≤1000000)(he:∀i,i<n→x i=y i):
   CallT M 62 #[.slice A n ac,.slice B n bc] H (fun v H'=> H.le H'∧v=.bool true):=by
 refine CallT.enter (vs:= [.slice A n ac,.slice B n bc]) Tryz.func62 rfl Tryz.ntmps62 (Nat.le_of_ble_eq_true rfl) (SymSt.nil _) fun St c cs hK=> ?_
 refine .sr ?_
 refine .g ?_
 refine .done (.sr ?_)
 refine .m ?_
 refine .m ?_
 refine .c rfl rfl rfl rfl (fun H hs=> .f ca134 rfl (Lesser_eq M H A B n ac bc x y (hA.le hs.base) (hB.le hs.base) hn he)) ?_
 refine .x .nt ?_
 refine .m ?_
 refine .m ?_
 refine .m ?_
 refine .c rfl rfl rfl rfl (fun H hs=> .f ca134 rfl (Lesser_eq M H B A n bc ac y x (hB.le hs.base) (hA.le hs.base) hn (fun i hi=> (he i hi).symm))) ?_
 refine .x .nt ?_
 refine .x .pk ?_
 refine .g ?_
 refine .done ?_
 refine .rt hK Tryz.func62 Tryz.results62 [_] ?_
 exact fun H' hs=> ⟨hs.base,rfl⟩
theorem to_c(a b:Int):CallT M 74 #[.int .i64 a,.int .i64 b] H (fun v H'=> H.le H'∧v=bandV a b):=by
 refine CallT.enter (vs:= [.int .i64 a,.int .i64 b]) Tryz.func74 rfl Tryz.ntmps74 (Nat.le_of_ble_eq_true rfl) (SymSt.nil _) fun St c cs hK=> ?_
 refine .sr ?_
 refine .e (.al (zz:=fun b4=> ?_))
 refine .done (.sr ?_)
 refine .m ?_
 refine .m ?_
 refine .x .bu ?_
 refine .e (.st 0 (zz:=?_))
 refine .done ?_
 refine Tc.retN (E:=en) hK Tryz.func74 Tryz.results74 (vs:= [_]) (by refine⟨⟨0,_,_,_,_,_,_,_,rfl,rfl,rfl,rfl⟩,?_⟩;exact trivial) ?_
 exact fun H' hs=> ⟨hs.base,rfl⟩
theorem train_c(p q:Int):CallT M 79 #[.int .i64 p,.int .i64 q] H (fun v H'=> H.le H'∧v=trainV p p q q):=by
 refine CallT.enter (vs:= [.int .i64 p,.int .i64 q]) Tryz.func79 rfl Tryz.ntmps79 (Nat.le_of_ble_eq_true rfl) (SymSt.nil _) fun St c cs hK=> ?_
 refine .sr ?_
 refine .e (.al (zz:=fun b4=> ?_))
 refine .done (.sr ?_)
 refine .m ?_
 refine .m ?_
 refine .c rfl rfl rfl rfl (fun H hs=> .f ca74 rfl (to_c M H p p)) ?_
 refine .m ?_
 refine .m ?_
 refine .c rfl rfl rfl rfl (fun H hs=> .f ca74 rfl (to_c M H q q)) ?_
 refine .x .bu ?_
 refine .e (.st 0 (zz:=?_))
 refine .done ?_
 refine Tc.retN (E:=en) hK Tryz.func79 Tryz.results79 (vs:= [_]) (by refine⟨⟨0,_,_,_,_,_,_,_,rfl,rfl,rfl,rfl⟩,?_⟩;exact trivial) ?_
 exact fun H' hs=> ⟨hs.base,rfl⟩
end
def exName(i:Nat):List UInt8:= [[97,110,110],[98,111,98],[101,118,101]][i]?.getD []
def exNum(i:Nat):List UInt8:= [[49,50],[49,51],[50]][i]?.getD []
def exNf(i:Nat):Nat:= [1,2,1][i]?.getD 0
def exFree(i j:Nat):Int:=([[1],[2,1],[0]][i]?.getD [])[j]?.getD 0
def exAt(l:List Int)(i:Nat):Int:=l[i]?.getD 0
def bkD:Bk:=⟨5,20,3,exName,exNum,exNf,exFree,2,exAt [1,2],exAt [1,3],exAt [8,6],exAt [8,6]⟩
def bkE:Bk:=⟨5,20,3,exName,exNum,exNf,exFree,3,exAt [1,1,2],exAt [1,1,2],exAt [3,9,9],exAt [6,9,9]⟩
def bkO:Bk:=bkD.now 1 2 2 6 6
def exF(b0 b1 b2:Nat)(i:Nat):Option Addr:=match i with
 | 0=> some ⟨b0,0,none⟩
 | 1=> some ⟨b1,0,none⟩
 | _=> some ⟨b2,0,none⟩
structure LinesAt(H:View)(bl b0 b1 b2:Nat):Prop where
 h:∃f gt gz,H bl=some (f,.cells ⟨[strV [97,110,110],strV [49,50],.slice (some ⟨b0,0,none⟩) 1 1,strV [98,111,98],strV [49,51],.slice (some ⟨b1,0,none⟩) 2 2,strV [101,118,101],strV [50],.slice (some ⟨b2,0,none⟩) 1 1]⟩ gt gz)
 h0:∃f gt gz,H b0=some (f,.cells ⟨[.int .i64 1]⟩ gt gz)
 h1:∃f gt gz,H b1=some (f,.cells ⟨[.int .i64 2,.int .i64 1]⟩ gt gz)
 h2:∃f gt gz,H b2=some (f,.cells ⟨[.int .i64 0]⟩ gt gz)
theorem LinesAt.le {H H':View}{bl b0 b1 b2:Nat}(h:LinesAt H bl b0 b1 b2)(k:H.le H'):LinesAt H' bl b0 b1 b2:=
 ⟨h.h.imp fun _ ⟨gt,gz,e⟩=> ⟨gt,gz,k _ _ e⟩,h.h0.imp fun _ ⟨gt,gz,e⟩=> ⟨gt,gz,k _ _ e⟩,h.h1.imp fun _ ⟨gt,gz,e⟩=> ⟨gt,gz,k _ _ e⟩,h.h2.imp fun _ ⟨gt,gz,e⟩=> ⟨gt,gz,k _ _ e⟩⟩
theorem src_of_cells {H:View}{sz m c b:Nat}{f:Bool}{cs:List Value}{e:TypeId}{fz:Nat×Nat}(hb:H b=some (f,.cells ⟨cs⟩ e fz))(h:cs.length=m*sz):SrcAt H sz (.slice (some ⟨b,0,none⟩) m c) m cs:=
 ⟨⟨_,_,rfl⟩,h,.inr ⟨b,0,c,f,cs,e,fz,rfl,hb,by simp,by simp⟩⟩
theorem ex_book {H:View}{k:Bk}{bl b0 b1 b2 bt:Nat}(hl:LinesAt H bl b0 b1 b2)(hn:k.nl=3)(hname:k.name=exName)(hnum:k.num=exNum)(hnf:k.nf=exNf)(hfr:k.free=exFree){f:Bool}{gt:TypeId}{gz:Nat×Nat}(ht:H bt=some (f,.cells ⟨flatR k.nt (trainL k)⟩ gt gz)):
   BookAt H k (some ⟨bl,0,none⟩) 3 (some ⟨bt,0,none⟩) k.nt (exF b0 b1 b2) exNf:=by
 obtain⟨⟨f1,t1,z1,g1⟩,⟨f2,t2,z2,g2⟩,⟨f3,t3,z3,g3⟩,⟨f4,t4,z4,g4⟩⟩:=hl
 refine⟨by omega,Nat.le_refl _,?_,src_of_cells ht (flatR_len (f:=trainL k) (sz:=4) (fun _=> rfl) k.nt),fun i hi=> by rw[hnf];exact Nat.le_refl _,fun i hi=> ?_⟩
 · rw[hn]
   have e:flatR 3 (rowL k (exF b0 b1 b2) exNf)= [strV [97,110,110],strV [49,50],.slice (some ⟨b0,0,none⟩) 1 1,strV [98,111,98],strV [49,51],.slice (some ⟨b1,0,none⟩) 2 2,strV [101,118,101],strV [50],.slice (some ⟨b2,0,none⟩) 1 1]:=by
     unfold rowL
     rw[hname,hnum,hnf]
     rfl
   rw[e]
   exact src_of_cells g1 rfl
 · rw[hn] at hi
   rw[hnf,hfr]
   rcases(by omega:i=0∨i=1∨i=2) with rfl|rfl|rfl
   · exact src_of_cells g2 rfl
   · exact src_of_cells g3 rfl
   · exact src_of_cells g4 rfl
section
variable(M:Md Tryz.prog)(H:View)
theorem lines_ex:CallT M 149 #[] H (fun v H'=> H.le H'∧∃bl b0 b1 b2,v=.slice (some ⟨bl,0,none⟩) 3 3∧LinesAt H' bl b0 b1 b2):=by
 refine CallT.enter (vs:= []) Tryz.func149 rfl Tryz.ntmps149 (Nat.le_of_ble_eq_true rfl) (SymSt.nil _) fun St c cs hK=> ?_
 refine .sr ?_
 refine .g ?_
 refine .done (.sr ?_)
 refine .e (.bs (zz:=fun b0=> ?_))
 refine .x .bu ?_
 refine .e (.bs (zz:=fun b1=> ?_))
 refine .x .bu ?_
 refine .e (.bs (zz:=fun b2=> ?_))
 refine .x .bu ?_
 refine .e (.bs (zz:=fun bl=> ?_))
 refine .g ?_
 refine .done ?_
 refine .rt hK Tryz.func149 Tryz.results149 [_] ?_
 exact fun H' hs=> ⟨hs.base,bl,b0,b1,b2,rfl,⟨_,_,_,hs.get (i:=0) rfl⟩,⟨_,_,_,hs.get (i:=3) rfl⟩,⟨_,_,_,hs.get (i:=2) rfl⟩,⟨_,_,_,hs.get (i:=1) rfl⟩⟩
theorem Example_c:CallT M 77 #[] H (fun v H'=> H.le H'∧∃A lc B tc F fc,v=bkD.val A lc B tc∧BookAt H' bkD A lc B tc F fc):=by
 refine CallT.enter (vs:= []) Tryz.func77 rfl Tryz.ntmps77 (Nat.le_of_ble_eq_true rfl) (SymSt.nil _) fun St c cs hK=> ?_
 refine .sr ?_
 refine .e (.al (zz:=fun b0=> ?_))
 refine .done (.sr ?_)
 refine To.callF rfl rfl rfl rfl rfl rfl (by decide) (FnT.f ca149 rfl (lines_ex M H)) (fun v H₁ hv=> ?_)
 obtain⟨hle,bl,c0,c1,c2,rfl,hl⟩:=hv
 refine .c rfl rfl rfl rfl (fun H hs=> .f ca79 rfl (train_c M H 1 8)) ?_
 refine .c rfl rfl rfl rfl (fun H hs=> .f ca74 rfl (to_c M H 2 3)) ?_
 refine .c rfl rfl rfl rfl (fun H hs=> .f ca74 rfl (to_c M H 6 6)) ?_
 refine .x .bu ?_
 refine .e (.bs (zz:=fun bt=> ?_))
 refine .x .bu ?_
 refine .e (.st 1 (zz:=?_))
 refine .done ?_
 refine Tc.retN (E:=en) hK Tryz.func77 Tryz.results77 (vs:= [_]) (by refine⟨⟨1,_,_,_,_,_,_,_,rfl,rfl,rfl,rfl⟩,?_⟩;exact trivial) ?_
 exact fun H' hs=> ⟨View.le_trans hle hs.base,_,_,some ⟨bt,0,none⟩,_,_,_,rfl,ex_book (hl.le hs.base) rfl rfl rfl rfl rfl (hs.get (i:=0) rfl)⟩
theorem joined_c:CallT M 78 #[] H (fun v H'=> H.le H'∧∃A lc B tc F fc,v=bkE.val A lc B tc∧BookAt H' bkE A lc B tc F fc):=by
 refine CallT.enter (vs:= []) Tryz.func78 rfl Tryz.ntmps78 (Nat.le_of_ble_eq_true rfl) (SymSt.nil _) fun St c cs hK=> ?_
 refine .sr ?_
 refine .e (.al (zz:=fun b0=> ?_))
 refine .done (.sr ?_)
 refine To.callF rfl rfl rfl rfl rfl rfl (by decide) (FnT.f ca149 rfl (lines_ex M H)) (fun v H₁ hv=> ?_)
 obtain⟨hle,bl,c0,c1,c2,rfl,hl⟩:=hv
 refine .c rfl rfl rfl rfl (fun H hs=> .f ca74 rfl (to_c M H 1 1)) ?_
 refine .c rfl rfl rfl rfl (fun H hs=> .f ca74 rfl (to_c M H 3 6)) ?_
 refine .x .bu ?_
 refine .c rfl rfl rfl rfl (fun H hs=> .f ca79 rfl (train_c M H 1 9)) ?_
 refine .c rfl rfl rfl rfl (fun H hs=> .f ca79 rfl (train_c M H 2 9)) ?_
 refine .e (.bs (zz:=fun bt=> ?_))
 refine .x .bu ?_
 refine .e (.st 1 (zz:=?_))
 refine .done ?_
 refine Tc.retN (E:=en) hK Tryz.func78 Tryz.results78 (vs:= [_]) (by refine⟨⟨1,_,_,_,_,_,_,_,rfl,rfl,rfl,rfl⟩,?_⟩;exact trivial) ?_
 exact fun H' hs=> ⟨View.le_trans hle hs.base,_,_,some ⟨bt,0,none⟩,_,_,_,rfl,ex_book (hl.le hs.base) rfl rfl rfl rfl rfl (hs.get (i:=0) rfl)⟩
end
theorem bkD_al:bkD.alarm=0:=by decide +kernel
theorem bkE_al:bkE.alarm=0:=by decide +kernel
theorem bkO_al:bkO.alarm=0:=by decide +kernel
theorem ex_small {k:Bk}(hn:k.nl=3)(ht:k.nt≤1000)(hnum:k.num=exNum)(hnf:k.nf=exNf):k.small:=⟨by omega,ht,fun i hi=> by
 rw[hn] at hi
 rw[hnum,hnf]
 rcases(by omega:i=0∨i=1∨i=2) with rfl|rfl|rfl <;> decide⟩
end Go.Proofs.YtdnfdeplcjaonaaGreatDoor
end
section
namespace Go.Proofs.YtdnfdeplcjaonaaGreatDoor
open Go.RL
set_option maxRecDepth 10000
set_option maxHeartbeats 8000000
section
variable(M:Md Tryz.prog)(H:View)
end
end Go.Proofs.YtdnfdeplcjaonaaGreatDoor
end
section
namespace Go.RL
open Go.Conc
section
variable {P:Program}{M:Md P}{St:View→Goroutine→Prop}{n:Nat}{b:FB}{H₀:View}{cs:List Frame}{R:Rg}{L:Bl}{ds:List Deferred}{k:List Item}{md:Region.Mode}{ops:Array Oper}
theorem Ta.callL2(i j:Nat){B:List Nat}{Hs:View}{Ls Lb:Bl}{o:Oper}{d:Nat}{fuel:Nat}{listed:Array Bool}{cl:Go.Call}{x:Operand}{fv:Value}{az:List Value}(hr:Region.ready md ops listed= [i,j])(hi:ops[i]? =some o)
   (hw:wantB (ops.toList.map (fun o:Oper=> o.dst)) R o=some true) (hop:o.op=.call cl) (hcl:cl.callee=.value x) (hx:evR R x=some fv) (has:evRs R cl.args.toList=some az) (hd:o.dst=some d) (hn:d<n)
   {Q:Value→View→Prop} (hc:FnT M fv az H₀ Q) (hle:∀v H₁,Q v H₁→Hs.le H₁) (h1:Ls.Sublist L) (h2:(B.all fun j=> !((listed.setIfInBounds i true).getD j true))=false∨Lb.Sublist L)
   (hk:∀v H₁,Q v H₁→Ta M St n b H₁ cs (S2 Hs B Ls Lb) md ops fuel (listed.setIfInBounds i true) ((d,v)::R) L ds k)
   (hj:TaOp M St n b H₀ cs (S2 Hs B Ls Lb) md ops fuel listed R L ds k j):
   Ta M St n b H₀ cs (S2 Hs B Ls Lb) md ops (fuel+1) listed R L ds k:=fun H tmps hs hr' _ H₂ h2' _=> by
 have hs:=hs.mono h2'
 refine⟨fun e=> (by rw[hr] at e;cases e),fun j' hj' o' ho'=> ?_⟩
 rw[hr] at hj'
 have hcase:j'=i∨j'=j:=by simpa using hj'
 rcases hcase with rfl|rfl
 · rw[hi] at ho'
   cases ho'
   refine⟨(by rw[hop];rfl),?_⟩
   have hw':Region.wanted o (yielded ops tmps)=true:=wantB_ok (fun j=> by
     simp only[List.getElem?_map,Array.getElem?_toList]
     cases ops[j]? <;> rfl) hr' hw
   rw[if_pos hw']
   obtain⟨F,rfl,hdj,hF⟩:=hs.split
   have e1:=hr'.ev hx
   have hmap:cl.args.map (evT tmps)=az.toArray:=by
     apply Array.ext'
     simpa using hr'.evs has
   have hex:execOp (evT tmps) o=(Deferred.ofValue fv az.toArray).bind fun d=> invoke d.target d.args:=by
     have h1:execOp (evT tmps) o=(resolve (evT tmps) cl o.type).bind fun d=> invoke d.target d.args:=by unfold execOp;rw[hop];rfl
     rw[h1]
     unfold resolve
     rw[hcl]
     simp only[e1,hmap]
   unfold OpRun
   rw[hex]
   have fin:∀v H'',Beside F Q v H''→S2 Hs B Ls Lb (listed.setIfInBounds j' true) H''∧AnyT M md ops (S2 Hs B Ls Lb) (fun tmps H=> T M St H (G (b.at tmps ds k) cs)) fuel (listed.setIfInBounds j' true) (putT tmps o.dst v) H'':=by
     rintro v H'' ⟨H₁,rfl,hd',hq⟩
     have hsy:SymSt H₁ L (H₁.plus F):=.joined hs.nodup hF hd'
     have hS:S2 Hs B Ls Lb (listed.setIfInBounds j' true) (H₁.plus F):=S2.mkL (hle v H₁ hq) h1 h2 _ hsy
     refine⟨hS,?_⟩
     rw[hd]
     exact hk v H₁ hq _ _ hsy (hr'.put hn v) hS
   refine vwp_mono _ (fun nx H' hn'=> ?_) (hc.frame hdj)
   cases nx <;> first
     | exact hn'.elim
     | exact CallT.mono hn' fin
     | exact GoT.mono hn' fin
 · obtain⟨o2,ho2,hd2,hw2,h'⟩:=hj
   rw[ho'] at ho2
   cases ho2
   refine⟨hd2,?_⟩
   have hw':Region.wanted o' (yielded ops tmps)=true:=wantB_ok (fun j=> by
     simp only[List.getElem?_map,Array.getElem?_toList]
     cases ops[j]? <;> rfl) hr' hw2
   rw[if_pos hw']
   refine(h' H₂ tmps hs hr').mono ?_
   rintro t H' ⟨R',L',h1,h2,h3,h4⟩
   exact⟨h3 H' h2,h4 H' t h2 h1 (h3 H' h2)⟩
theorem Tc.viaB {x:Item}(F:View→Rg→Bl→Prop)(hF:∀H R L,F H R L→Tc M St n b H cs R L ds k)(h:(∀H R L,F H R L→Tc M St n b H cs R L ds k)→Tc M St n b H₀ cs R L ds (x::k)):Tc M St n b H₀ cs R L ds (x::k):=h hF
end
end Go.RL
end
section
namespace Go.Proofs.YtdnfdeplcjaonaaGreatDoor
open Go.RL
set_option maxRecDepth 10000
set_option maxHeartbeats 16000000
end Go.Proofs.YtdnfdeplcjaonaaGreatDoor
end
section
namespace Go.Proofs.YtdnfdeplcjaonaaGreatDoor
open Go.RL
set_option maxRecDepth 10000
set_option maxHeartbeats 1000000
theorem firstTo_true {p:Nat→Bool}:∀n {i:Nat},firstTo p n=some i→p i=true
 | 0,_,h=> by cases h
 | n + 1,i,h=> by
   rw[firstTo] at h
   cases e:firstTo p n with
   | some j=>
     rw[e] at h
     have:=firstTo_true n e
     cases h
     exact this
   | none=>
     rw[e] at h
     by_cases hp:p n=true
     · rw[if_pos hp] at h
       cases h
       exact hp
     · rw[if_neg hp] at h
       cases h
theorem firstTo_only {p:Nat→Bool}{n w:Nat}(hw:w<n)(h:p w=true)(h2:∀i,i<n→p i=true→i=w):firstTo p n=some w:=by
 cases e:firstTo p n with
 | none=> have:=(firstTo_none n).1 e w hw;rw[h] at this;cases this
 | some j=> rw[h2 j (firstTo_in n e) (firstTo_true n e)]
theorem begins_iff {s p:List UInt8}:begins s p=true↔p <+:s:=by
 unfold begins
 rw[Bool.and_eq_true,decide_eq_true_eq,beq_iff_eq,List.prefix_iff_eq_take]
 constructor
 · exact fun h=> h.2.symm
 · intro h
   refine⟨?_,h.symm⟩
   have:=congrArg List.length h
   rw[List.length_take] at this
   omega
theorem Bk.apart {k:Bk}(ha:k.alarm=0){i j:Nat}(hi:i<k.nl)(hj:j<k.nl)(h:k.num i <+:k.num j):i=j:=by
 have hc:∀a b,a<k.nl→b<a→¬k.num a <+:k.num b∧¬k.num b <+:k.num a:=by
   intro a b hak hba
   obtain⟨_,_,_,h4,_⟩:=Bk.line_ok ha hak
   unfold Bk.clash at h4
   have h5:firstTo (fun i=> clash1 (k.num i) (k.num a)) a=none:=by
     cases e:firstTo (fun i=> clash1 (k.num i) (k.num a)) a with
     | none=> rfl
     | some x=> exact absurd h4 (by show ¬(firstTo (fun i=> clash1 (k.num i) (k.num a)) a).isSome=false;rw[e];exact fun h=> nomatch h)
   have h6:=(firstTo_none a).1 h5 b hba
   unfold clash1 at h6
   rw[Bool.or_eq_false_iff] at h6
   refine⟨fun h=> ?_,fun h=> ?_⟩
   · rw[begins_iff.2 h] at h6;cases h6.1
   · rw[begins_iff.2 h] at h6;cases h6.2
 rcases Nat.lt_trichotomy i j with h1|h1|h1
 · exact((hc j i hj h1).2 h).elim
 · exact h1
 · exact((hc i j hi h1).1 h).elim
theorem Bk.line_is {k:Bk}(ha:k.alarm=0){w:Nat}(hw:w<k.nl){s:List UInt8}(h:k.num w <+:s):k.line s=some w:=by
 unfold Bk.line
 refine firstTo_only hw (begins_iff.2 h) fun i hi h2=> ?_
 rcases List.prefix_or_prefix_of_prefix h (begins_iff.1 h2) with h3|h3
 · exact(Bk.apart ha hw hi h3).symm
 · exact Bk.apart ha hi hw h3
theorem Bk.line_at {k:Bk}{s:List UInt8}{w:Nat}(h:k.line s=some w):w<k.nl∧k.num w <+:s:=⟨firstTo_in _ h,begins_iff.1 (firstTo_true _ h)⟩
end Go.Proofs.YtdnfdeplcjaonaaGreatDoor
end
section
namespace Go.Proofs.YtdnfdeplcjaonaaGreatDoor
open Go.RL Go.Conc
set_option maxRecDepth 10000
theorem e163:Ent Tryz.prog 163 (Extern.Race.marked .releaseMerge):=⟨Tryz.f163,Tryz.func163,by kernel_rfl,by kernel_rfl,by kernel_rfl,by kernel_rfl⟩
theorem e164:Ent Tryz.prog 164 disE:=⟨Tryz.f164,Tryz.func164,by kernel_rfl,by kernel_rfl,by kernel_rfl,by kernel_rfl⟩
theorem e165:Ent Tryz.prog 165 enE:=⟨Tryz.f165,Tryz.func165,by kernel_rfl,by kernel_rfl,by kernel_rfl,by kernel_rfl⟩
theorem e166:Ent Tryz.prog 166 (fun _=> pure (.bool false)):=⟨Tryz.f166,Tryz.func166,by kernel_rfl,by kernel_rfl,by kernel_rfl,by kernel_rfl⟩
theorem e171:Ent Tryz.prog 171 (Extern.Race.marked .read):=⟨Tryz.f171,Tryz.func171,by kernel_rfl,by kernel_rfl,by kernel_rfl,by kernel_rfl⟩
theorem e175:Ent Tryz.prog 175 Extern.Sync.semrelease:=⟨Tryz.f175,Tryz.func175,by kernel_rfl,by kernel_rfl,by kernel_rfl,by kernel_rfl⟩
theorem e176:Ent Tryz.prog 176 (Extern.Race.marked .acquire):=⟨Tryz.f176,Tryz.func176,by kernel_rfl,by kernel_rfl,by kernel_rfl,by kernel_rfl⟩
theorem e179:Ent Tryz.prog 179 (Extern.Race.marked .write):=⟨Tryz.f179,Tryz.func179,by kernel_rfl,by kernel_rfl,by kernel_rfl,by kernel_rfl⟩
theorem e180:Ent Tryz.prog 180 Extern.Sync.semacquire:=⟨Tryz.f180,Tryz.func180,by kernel_rfl,by kernel_rfl,by kernel_rfl,by kernel_rfl⟩
theorem e210:Ent Tryz.prog 210 (Extern.Atomic.update (Op.intArith .add) .u64 true):=⟨Tryz.f210,Tryz.func210,by kernel_rfl,by kernel_rfl,by kernel_rfl,by kernel_rfl⟩
theorem e211:Ent Tryz.prog 211 (Extern.Atomic.loadT (.int .u64)):=⟨Tryz.f211,Tryz.func211,by kernel_rfl,by kernel_rfl,by kernel_rfl,by kernel_rfl⟩
theorem e212:Ent Tryz.prog 212 Extern.Atomic.storeT:=⟨Tryz.f212,Tryz.func212,by kernel_rfl,by kernel_rfl,by kernel_rfl,by kernel_rfl⟩
theorem e213:Ent Tryz.prog 213 (Extern.Atomic.casT (.int .u64)):=⟨Tryz.f213,Tryz.func213,by kernel_rfl,by kernel_rfl,by kernel_rfl,by kernel_rfl⟩
theorem fo_156_1:fldOff Tryz.prog 156 1=some 0:=by kernel_rfl
theorem fo_156_2:fldOff Tryz.prog 156 2=some 1:=by kernel_rfl
theorem fo_153_2:fldOff Tryz.prog 153 2=some 0:=by kernel_rfl
theorem un_201:Tryz.prog.underlying 201=some (.pointer 156):=by kernel_rfl
theorem un_203:Tryz.prog.underlying 203=some .unsafePointer:=by kernel_rfl
theorem un_208:Tryz.prog.underlying 208=some (.pointer 154):=by kernel_rfl
theorem un_3:Tryz.prog.underlying 3=some (.int .i64):=by kernel_rfl
theorem un_21:Tryz.prog.underlying 21=some (.int .i32):=by kernel_rfl
theorem un_154:Tryz.prog.underlying 154=some (.int .u32):=by kernel_rfl
theorem un_151:Tryz.prog.underlying 151=some (.int .u64):=by kernel_rfl
theorem sz_156:(Tryz.prog.info? 156).map (·.size)=some (1+1):=by kernel_rfl
theorem sz_154:(Tryz.prog.info? 154).map (·.size)=some (0+1):=by kernel_rfl
end Go.Proofs.YtdnfdeplcjaonaaGreatDoor
end
section
namespace Go.Proofs.YtdnfdeplcjaonaaGreatDoor
open Go.RL Go.Conc Go.ConcN Go.RL.Au
open Go.ConcR (stA smA)
open Go.ConcM (OsLater)
set_option maxRecDepth 10000
section
variable {main:Bool}{sh:Shp}{J:Goroutine→Prop}{K:Value→(Goroutine→Prop)→Prop}{blk off:Nat}
def KC(main:Bool)(K:Value→(Goroutine→Prop)→Prop):Prop:=∀v J',K v J'→∃sh',Cl Tryz.prog main sh' J'
theorem add64 {d:Int}(hc:Cl Tryz.prog main sh J)(hk:KC main K)(h:AtC J 210 [.pointer (some ⟨blk,off,none⟩),.int .u64 d] K):AtC J 170 [.pointer (some ⟨blk,off,none⟩),.int .u64 d] K:=by
 refine InC.at (by exact hc) ca170 (InC.enter (vs:= [.pointer (some ⟨blk,off,none⟩),.int .u64 d]) Tryz.func170 rfl Tryz.ntmps170 (Nat.le_of_ble_eq_true rfl) fun c cs hK=> ?_)
 refine .sq (.rg rfl rfl ?_)
 refine .g ?_
 refine .dn (.sq (.rg rfl rfl ?_))
 refine .m ?_
 refine .x .nk ?_
 refine .x (.fa (zz:=fo_153_2)) ?_
 refine .m ?_
 refine So.callD rfl rfl rfl nofun rfl (.mk' rfl) rfl (h) ?_
 intro v J' hv
 obtain⟨sh',hc⟩:=hk v J' hv
 refine .g ?_
 refine .dn ?_
 refine Sc.retCode (by exact hc) rfl (Sb.leave (by exact hc) Tryz.func170 rfl (by exact .inr ⟨_,Tryz.results170,rfl⟩) ?_)
 exact hK v J' hv
theorem load64(hc:Cl Tryz.prog main sh J)(hk:KC main K)(h:AtC J 211 [.pointer (some ⟨blk,off,none⟩)] K):AtC J 172 [.pointer (some ⟨blk,off,none⟩)] K:=by
 refine InC.at (by exact hc) ca172 (InC.enter (vs:= [.pointer (some ⟨blk,off,none⟩)]) Tryz.func172 rfl Tryz.ntmps172 (Nat.le_of_ble_eq_true rfl) fun c cs hK=> ?_)
 refine .sq (.rg rfl rfl ?_)
 refine .g ?_
 refine .dn (.sq (.rg rfl rfl ?_))
 refine .m ?_
 refine .x .nk ?_
 refine .x (.fa (zz:=fo_153_2)) ?_
 refine So.callD rfl rfl rfl nofun rfl (.mk' rfl) rfl (h) ?_
 intro v J' hv
 obtain⟨sh',hc⟩:=hk v J' hv
 refine .g ?_
 refine .dn ?_
 refine Sc.retCode (by exact hc) rfl (Sb.leave (by exact hc) Tryz.func172 rfl (by exact .inr ⟨_,Tryz.results172,rfl⟩) ?_)
 exact hK v J' hv
theorem store64 {d:Int}(hc:Cl Tryz.prog main sh J)(hk:KC main K)(hu:∀v J',K v J'→v=.tuple #[])(h:AtC J 212 [.pointer (some ⟨blk,off,none⟩),.int .u64 d] K):AtC J 173 [.pointer (some ⟨blk,off,none⟩),.int .u64 d] K:=by
 refine InC.at (by exact hc) ca173 (InC.enter (vs:= [.pointer (some ⟨blk,off,none⟩),.int .u64 d]) Tryz.func173 rfl Tryz.ntmps173 (Nat.le_of_ble_eq_true rfl) fun c cs hK=> ?_)
 refine .rg rfl rfl ?_
 refine .m ?_
 refine .x .nk ?_
 refine .x (.fa (zz:=fo_153_2)) ?_
 refine .m ?_
 refine So.callD rfl rfl rfl nofun rfl (.mk' rfl) rfl (h) ?_
 intro v J' hv
 obtain⟨sh',hc⟩:=hk v J' hv
 refine .dn ?_
 refine Sc.over (by exact hc) rfl (Sb.leave (by exact hc) Tryz.func173 rfl (by exact .inl ⟨Tryz.results173,rfl⟩) ?_)
 exact hu v J' hv▸hK v J' hv
theorem cas64 {d e:Int}(hc:Cl Tryz.prog main sh J)(hk:KC main K)(h:AtC J 213 [.pointer (some ⟨blk,off,none⟩),.int .u64 d,.int .u64 e] K):AtC J 178 [.pointer (some ⟨blk,off,none⟩),.int .u64 d,.int .u64 e] K:=by
 refine InC.at (by exact hc) ca178 (InC.enter (vs:= [.pointer (some ⟨blk,off,none⟩),.int .u64 d,.int .u64 e]) Tryz.func178 rfl Tryz.ntmps178 (Nat.le_of_ble_eq_true rfl) fun c cs hK=> ?_)
 refine .sq (.rg rfl rfl ?_)
 refine .g ?_
 refine .dn (.sq (.rg rfl rfl ?_))
 refine .m ?_
 refine .x .nk ?_
 refine .x (.fa (zz:=fo_153_2)) ?_
 refine .m ?_
 refine .m ?_
 refine So.callD rfl rfl rfl nofun rfl (.mk' rfl) rfl (h) ?_
 intro v J' hv
 obtain⟨sh',hc⟩:=hk v J' hv
 refine .g ?_
 refine .dn ?_
 refine Sc.retCode (by exact hc) rfl (Sb.leave (by exact hc) Tryz.func178 rfl (by exact .inr ⟨_,Tryz.results178,rfl⟩) ?_)
 exact hK v J' hv
end
end Go.Proofs.YtdnfdeplcjaonaaGreatDoor
end
section
namespace Go.Proofs.YtdnfdeplcjaonaaGreatDoor
open Go.RL Go.Conc Go.ConcN Go.RL.Au
open Go.ConcR (stA smA)
open Go.ConcM (OsLater)
set_option maxRecDepth 10000
set_option maxHeartbeats 1000000
theorem g64_hi:∀a:Nat,a<8→∀b:Nat,b<2→bitI .and .u64 ((a*4294967296+b:Nat):Int) 2147483648=0:=by decide +kernel
theorem g64_lo:∀a:Nat,a<8→∀b:Nat,b<2→bitI .and .u64 ((a*4294967296+b:Nat):Int) 2147483647=(b:Int):=by decide +kernel
theorem g64_sh:∀a:Nat,a<8→∀b:Nat,b<2→((a*4294967296+b:Nat):Int).fdiv (2 ^ (min (32:Int).toNat IntKind.u64.bits))=(a:Int):=by decide +kernel
theorem w64_m1:IntKind.u64.wrap (-1)=18446744073709551615:=by decide +kernel
theorem sh64_m1:shiftV .shl .u64 18446744073709551615 32=some (.int .u64 18446744069414584320):=by
 show some (Value.int .u64 (IntKind.u64.wrap (18446744073709551615*2 ^ (min (32:Int).toNat IntKind.u64.bits))))=_
 rw[show IntKind.u64.wrap (18446744073709551615*2 ^ (min (32:Int).toNat IntKind.u64.bits))=18446744069414584320 by decide +kernel]
theorem w64_1:IntKind.u64.wrap 1=1:=by decide +kernel
theorem sh64_1:shiftV .shl .u64 1 32=some (.int .u64 4294967296):=by
 show some (Value.int .u64 (IntKind.u64.wrap (1*2 ^ (min (32:Int).toNat IntKind.u64.bits))))=_
 rw[show IntKind.u64.wrap (1*2 ^ (min (32:Int).toNat IntKind.u64.bits))=4294967296 by decide +kernel]
theorem w32_m1:IntKind.i32.wrap (-1)= -1:=by decide +kernel
theorem w32_s:∀a:Nat,a<8→IntKind.i32.wrap (a:Int)=(a:Int):=by decide +kernel
theorem wu32_s:∀a:Nat,a<8→IntKind.u32.wrap (a:Int)=(a:Int):=by decide +kernel
end Go.Proofs.YtdnfdeplcjaonaaGreatDoor
end
section
namespace Go.Proofs.YtdnfdeplcjaonaaGreatDoor
open Go.RL Go.Conc Go.ConcN Go.RL.Au
open Go.ConcR (stA smA)
open Go.ConcM (OsLater)
set_option maxRecDepth 10000
set_option maxHeartbeats 1000000
section
variable {X:Fk}{κ:Nat}{H:View}{cc:Frame}{cs:List Frame}
theorem shp_wg(X:Fk):∃e c,X.shp X.Wg=some (e,c)∧0<c:=⟨X.tW,2,by simp[Fk.shp],by decide⟩
theorem shp_wg1(X:Fk):∃e c,X.shp X.Wg=some (e,c)∧0+1<c:=⟨X.tW,2,by simp[Fk.shp],by decide⟩
theorem kw {K:Value→Th→Prop}{k:Nat}:KC false (fun v J'=> ∃k' t',k'<k∧K v t'∧J'=Jw Tryz.prog X κ k' t' H):=fun _ _ ⟨_,_,_,_,h⟩=> ⟨_,h▸Jw.cl0⟩
noncomputable def X103:Code:=cR (cR (cR (cR (bodyOf Tryz.f103))))
abbrev b103:FB:=⟨103,.normal,none⟩
attribute [local irreducible] IntKind.wrap bitI Int.fdiv in
theorem dn_two {a b:Nat}(ha:a<8)(hb:b<2)(hq:¬(a=0∧b=1))(hK:Jq Tryz.prog 0 (G (cc.finish (.tuple #[])) cs)){R:Rg}
   (hR:AllIn [(0,.pointer (some ⟨X.Wg,0,none⟩)),(1,.int .i64 (-1)),(4,.bool false),(6,.int .u64 ((a*4294967296+b:Nat):Int))] R):
   Sc (Jq Tryz.prog 1) 117 b103 (cc::cs) R [dcall 165 #[]] [.code X103]:=by
 refine Sc.drop hR ?_
 have hsh:=shp_wg X
 have f3:=w32_m1
 have g1:intBin .and .u64 ((a*4294967296+b:Nat):Int) 2147483648=some (.int .u64 0):=by rw[←g64_hi a (by omega) b (by omega)];rfl
 have g2:intBin .and .u64 ((a*4294967296+b:Nat):Int) 2147483647=some (.int .u64 (b:Int)):=by rw[←g64_lo a (by omega) b (by omega)];rfl
 have g3:shiftV .shr .u64 ((a*4294967296+b:Nat):Int) 32=some (.int .u64 (a:Int)):=by rw[←g64_sh a (by omega) b (by omega)];rfl
 have g4:=w32_s a (by omega)
 have g5:=wu32_s b (by omega)
 rcases Nat.eq_zero_or_pos a with hpos|hpos
 all_goals rcases Nat.eq_zero_or_pos b with hposb|hposb
 all_goals first
   | (exfalso;omega)
   | (
     refine .sq (.sq (.rg rfl rfl ?_))
     refine .m ?_
     refine .i ?_ (z:=by assumption)
     refine .i ?_ (z:=neq_f (by omega))
     refine .m ?_
     refine .sk ?_
     refine .sk ?_
     refine .x .pk ?_
     refine .dn (.ff rfl (.sp (.sq ?_)))
     refine Sc.drop (R':= [(0,.pointer (some ⟨X.Wg,0,none⟩)),(1,.int .i64 (-1)),(4,.bool false),(6,.int .u64 ((a*4294967296+b:Nat):Int))]) ⟨rfl,rfl,rfl,rfl,trivial⟩ ?_
     refine .rg rfl rfl ?_
     refine .m ?_
     refine .x (OpP.shift rfl rfl rfl (by omega) (by assumption)) ?_
     refine .x (OpP.conv rfl rfl un_151 un_21 (by assumption)) ?_
     refine .g ?_
     refine .dn (.sq ?_)
     refine Sc.drop (R':= [(0,.pointer (some ⟨X.Wg,0,none⟩)),(1,.int .i64 (-1)),(6,.int .u64 ((a*4294967296+b:Nat):Int)),(7,.int .i32 (a:Int))]) ⟨rfl,rfl,rfl,rfl,trivial⟩ ?_
     refine .rg rfl rfl ?_
     refine .m ?_
     refine .i ?_ (z:=by assumption)
     refine .x (OpP.conv rfl rfl un_151 un_154 (by assumption)) ?_
     refine .g ?_
     refine .dn (.sq (.sq ?_))
     refine Sc.drop (R':= [(0,.pointer (some ⟨X.Wg,0,none⟩)),(1,.int .i64 (-1)),(7,.int .i32 (a:Int)),(8,.int .u32 (b:Int))]) ⟨rfl,rfl,rfl,rfl,trivial⟩ ?_
     refine .rg rfl rfl ?_
     refine .m ?_
     refine .m ?_
     refine .i ?_ (z:=gtr_f (by omega))
     refine .x .pk ?_
     refine .m ?_
     refine .sk ?_
     refine .sk ?_
     refine .sk ?_
     refine .sk ?_
     refine .x .pk ?_
     refine .dn (.ff rfl (.sp (.sq (.sq ?_))))
     refine Sc.drop (R':= [(0,.pointer (some ⟨X.Wg,0,none⟩)),(1,.int .i64 (-1)),(7,.int .i32 (a:Int)),(8,.int .u32 (b:Int))]) ⟨rfl,rfl,rfl,rfl,trivial⟩ ?_
     refine .rg rfl rfl ?_
     refine .m ?_
     refine .i ?_ (z:=lss_f (by omega))
     refine .dn (.ff rfl (.sp (.sq (.sq ?_))))
     refine Sc.drop (R':= [(0,.pointer (some ⟨X.Wg,0,none⟩)),(1,.int .i64 (-1)),(7,.int .i32 (a:Int)),(8,.int .u32 (b:Int))]) ⟨rfl,rfl,rfl,rfl,trivial⟩ ?_
     refine .rg rfl rfl ?_
     refine .m ?_
     refine .i ?_ (z:=by first|exact neq_t (by omega)|exact neq_f (by omega))
     refine .m ?_
     first|(refine .sk ?_)|(refine .m ?_)
     first|(refine .sk ?_)|(refine .x (.it (zz:=gtr_f (by omega))) ?_)
     refine .x .pk ?_
     refine .m ?_
     refine .sk ?_
     refine .sk ?_
     refine .sk ?_
     refine .sk ?_
     refine .x .pk ?_
     refine .dn (.ff rfl (.sp (.sq (.sq ?_))))
     refine Sc.drop (R':= [(0,.pointer (some ⟨X.Wg,0,none⟩)),(1,.int .i64 (-1)),(7,.int .i32 (a:Int)),(8,.int .u32 (b:Int))]) ⟨rfl,rfl,rfl,rfl,trivial⟩ ?_
     refine .rg rfl rfl ?_
     refine .m ?_
     refine .i ?_ (z:=by first|exact gtr_t (by omega)|exact gtr_f (by omega))
     refine .m ?_
     first|(refine .sk ?_)|(refine .m ?_)
     first|(refine .sk ?_)|(refine .x (.it (zz:=eql_t (by omega))) ?_)
     refine .x .pk ?_
     refine .dn (.tt rfl ?_)
     refine Sc.retCode Jq.cl rfl (Jq.en e165 rfl (Sb.leave Jq.cl Tryz.func103 rfl (.inl ⟨Tryz.results103,rfl⟩) hK)))
noncomputable def Y103:Code:=cR (cR (cR (cR (cR (cR (cR X103))))))
attribute [local irreducible] IntKind.wrap bitI Int.fdiv in
theorem dn_last {a b k:Nat}(a0:a=0)(b1:b=1)(hK:Jq Tryz.prog 0 (G (cc.finish (.tuple #[])) cs)){R:Rg}
   (hR:AllIn [(0,.pointer (some ⟨X.Wg,0,none⟩)),(4,.bool false),(6,.int .u64 ((a*4294967296+b:Nat):Int)),(8,.int .u32 (b:Int))] R):Sc (Jw Tryz.prog X κ k .d2 H) 117 b103 (cc::cs) R [dcall 165 #[]] [.code Y103]:=by
 refine Sc.drop hR ?_
 have hsh:=shp_wg X
 have g6:intBin .sub .u32 (b:Int) 1=some (.int .u32 0):=by
   rw[b1]
   exact congrArg (fun x=> some (Value.int .u32 x)) (show IntKind.u32.wrap (((1:Nat):Int)-1)=0 by decide +kernel)
 have g7:intBin .neq .u64 1 ((a*4294967296+b:Nat):Int)=some (.bool false):=neq_f (by omega)
 refine .sq (.sq (.rg rfl rfl ?_))
 refine .m ?_
 refine .x .nk ?_
 refine .x (.fa (zz:=fo_156_1)) ?_
 refine So.callD rfl rfl rfl nofun rfl (.mk' rfl) rfl (load64 Jw.cl0 kw (Jw.d2 e211)) ?_
 rintro v J' ⟨k5,t,hk5,⟨rfl,rfl⟩,rfl⟩
 refine .m ?_
 refine .i ?_ (z:=by assumption)
 refine .dn (.ff rfl (.sp (.sq ?_)))
 refine Sc.drop (R':= [(0,.pointer (some ⟨X.Wg,0,none⟩)),(4,.bool false),(6,.int .u64 ((a*4294967296+b:Nat):Int)),(8,.int .u32 (b:Int))]) ⟨rfl,rfl,rfl,rfl,trivial⟩ ?_
 refine .rg rfl rfl ?_
 refine .m ?_
 refine .x .nk ?_
 refine .x (.fa (zz:=fo_156_1)) ?_
 refine So.callD rfl rfl rfl nofun rfl (.mk' rfl) rfl (store64 Jw.cl0 kw (fun v J' ⟨_,_,_,h,_⟩=> h.1) (Jw.d3 e212)) ?_
 rintro v J' ⟨k6,t,hk6,⟨rfl,rfl⟩,rfl⟩
 refine .dn (.sq (.sq ?_))
 refine Sc.drop (R':= [(0,.pointer (some ⟨X.Wg,0,none⟩)),(4,.bool false),(6,.int .u64 ((a*4294967296+b:Nat):Int)),(8,.int .u32 (b:Int))]) ⟨rfl,rfl,rfl,rfl,trivial⟩ ?_
 refine .rg rfl rfl ?_
 refine .m ?_
 refine .dn (.ff rfl (.sp (.bl ?_)))
 refine Sc.loop (by exact Jw.cl0) ?_
 refine .sq (.sq (.rg rfl rfl ?_))
 refine .m ?_
 refine .i ?_ (z:=neq_t (by omega))
 refine .dn (.tt rfl (.sp (.sq (.bl ?_))))
 refine Sc.drop (R':= [(0,.pointer (some ⟨X.Wg,0,none⟩)),(4,.bool false),(6,.int .u64 ((a*4294967296+b:Nat):Int)),(8,.int .u32 (b:Int))]) ⟨rfl,rfl,rfl,rfl,trivial⟩ ?_
 refine .rg rfl rfl ?_
 refine .m ?_
 refine .x .nk ?_
 refine .x (.fa (zz:=fo_156_2)) ?_
 refine So.callD rfl rfl rfl nofun rfl (.mk' rfl) rfl (Jw.d4 (vs:= [.pointer (some ⟨X.Wg,1,none⟩),.bool false,.int .i64 0]) e175 rfl) ?_
 rintro v J' ⟨k7,t,hk7,⟨rfl,rfl⟩,rfl⟩
 refine So.mono ?_ (fun g=> Jq.jw)
 refine .dn (.ib ?_)
 refine Sc.drop (R':= [(0,.pointer (some ⟨X.Wg,0,none⟩)),(4,.bool false),(6,.int .u64 ((a*4294967296+b:Nat):Int)),(8,.int .u32 (b:Int))]) ⟨rfl,rfl,rfl,rfl,trivial⟩ ?_
 refine .rg rfl rfl ?_
 refine .m ?_
 refine .i ?_ (z:=by assumption)
 refine .g ?_
 refine .dn ?_
 refine Sc.inLoop (by exact Jq.cl) ?_
 refine Sc.drop (R':= [(8,.int .u32 0)]) ⟨rfl,trivial⟩ ?_
 refine .sq (.sq (.rg rfl rfl ?_))
 refine .m ?_
 refine .i ?_ (z:=neq_f (by omega))
 refine .dn (.ff rfl (.xt rfl ?_))
 refine Sc.over Jq.cl rfl (Jq.en e165 rfl (Sb.leave Jq.cl Tryz.func103 rfl (.inl ⟨Tryz.results103,rfl⟩) hK))
attribute [local irreducible] IntKind.wrap bitI Int.fdiv in
theorem dn_one {a b k:Nat}(a0:a=0)(b1:b=1)(hK:Jq Tryz.prog 0 (G (cc.finish (.tuple #[])) cs)){R:Rg}
   (hR:AllIn [(0,.pointer (some ⟨X.Wg,0,none⟩)),(1,.int .i64 (-1)),(4,.bool false),(6,.int .u64 ((a*4294967296+b:Nat):Int))] R):Sc (Jw Tryz.prog X κ k .d2 H) 117 b103 (cc::cs) R [dcall 165 #[]] [.code X103]:=by
 refine Sc.drop hR ?_
 have hsh:=shp_wg X
 have f3:=w32_m1
 have g1:intBin .and .u64 ((a*4294967296+b:Nat):Int) 2147483648=some (.int .u64 0):=by rw[←g64_hi a (by omega) b (by omega)];rfl
 have g2:intBin .and .u64 ((a*4294967296+b:Nat):Int) 2147483647=some (.int .u64 (b:Int)):=by rw[←g64_lo a (by omega) b (by omega)];rfl
 have g3:shiftV .shr .u64 ((a*4294967296+b:Nat):Int) 32=some (.int .u64 (a:Int)):=by rw[←g64_sh a (by omega) b (by omega)];rfl
 have g4:=w32_s a (by omega)
 have g5:=wu32_s b (by omega)
 refine .sq (.sq (.rg rfl rfl ?_))
 refine .m ?_
 refine .i ?_ (z:=by assumption)
 refine .i ?_ (z:=neq_f (by omega))
 refine .m ?_
 refine .sk ?_
 refine .sk ?_
 refine .x .pk ?_
 refine .dn (.ff rfl (.sp (.sq ?_)))
 refine Sc.drop (R':= [(0,.pointer (some ⟨X.Wg,0,none⟩)),(1,.int .i64 (-1)),(4,.bool false),(6,.int .u64 ((a*4294967296+b:Nat):Int))]) ⟨rfl,rfl,rfl,rfl,trivial⟩ ?_
 refine .rg rfl rfl ?_
 refine .m ?_
 refine .x (OpP.shift rfl rfl rfl (by omega) (by assumption)) ?_
 refine .x (OpP.conv rfl rfl un_151 un_21 (by assumption)) ?_
 refine .g ?_
 refine .dn (.sq ?_)
 refine Sc.drop (R':= [(0,.pointer (some ⟨X.Wg,0,none⟩)),(1,.int .i64 (-1)),(4,.bool false),(6,.int .u64 ((a*4294967296+b:Nat):Int)),(7,.int .i32 (a:Int))]) ⟨rfl,rfl,rfl,rfl,rfl,trivial⟩ ?_
 refine .rg rfl rfl ?_
 refine .m ?_
 refine .i ?_ (z:=by assumption)
 refine .x (OpP.conv rfl rfl un_151 un_154 (by assumption)) ?_
 refine .g ?_
 refine .dn (.sq (.sq ?_))
 refine Sc.drop (R':= [(0,.pointer (some ⟨X.Wg,0,none⟩)),(1,.int .i64 (-1)),(4,.bool false),(6,.int .u64 ((a*4294967296+b:Nat):Int)),(7,.int .i32 (a:Int)),(8,.int .u32 (b:Int))]) ⟨rfl,rfl,rfl,rfl,rfl,rfl,trivial⟩ ?_
 refine .rg rfl rfl ?_
 refine .m ?_
 refine .m ?_
 refine .i ?_ (z:=gtr_f (by omega))
 refine .x .pk ?_
 refine .m ?_
 refine .sk ?_
 refine .sk ?_
 refine .sk ?_
 refine .sk ?_
 refine .x .pk ?_
 refine .dn (.ff rfl (.sp (.sq (.sq ?_))))
 refine Sc.drop (R':= [(0,.pointer (some ⟨X.Wg,0,none⟩)),(1,.int .i64 (-1)),(4,.bool false),(6,.int .u64 ((a*4294967296+b:Nat):Int)),(7,.int .i32 (a:Int)),(8,.int .u32 (b:Int))]) ⟨rfl,rfl,rfl,rfl,rfl,rfl,trivial⟩ ?_
 refine .rg rfl rfl ?_
 refine .m ?_
 refine .i ?_ (z:=lss_f (by omega))
 refine .dn (.ff rfl (.sp (.sq (.sq ?_))))
 refine Sc.drop (R':= [(0,.pointer (some ⟨X.Wg,0,none⟩)),(1,.int .i64 (-1)),(4,.bool false),(6,.int .u64 ((a*4294967296+b:Nat):Int)),(7,.int .i32 (a:Int)),(8,.int .u32 (b:Int))]) ⟨rfl,rfl,rfl,rfl,rfl,rfl,trivial⟩ ?_
 refine .rg rfl rfl ?_
 refine .m ?_
 refine .i ?_ (z:=neq_t (by omega))
 refine .m ?_
 refine .m ?_
 refine .i ?_ (z:=gtr_f (by omega))
 refine .x .pk ?_
 refine .m ?_
 refine .sk ?_
 refine .sk ?_
 refine .sk ?_
 refine .sk ?_
 refine .x .pk ?_
 refine .dn (.ff rfl (.sp (.sq (.sq ?_))))
 refine Sc.drop (R':= [(0,.pointer (some ⟨X.Wg,0,none⟩)),(1,.int .i64 (-1)),(4,.bool false),(6,.int .u64 ((a*4294967296+b:Nat):Int)),(7,.int .i32 (a:Int)),(8,.int .u32 (b:Int))]) ⟨rfl,rfl,rfl,rfl,rfl,rfl,trivial⟩ ?_
 refine .rg rfl rfl ?_
 refine .m ?_
 refine .i ?_ (z:=gtr_f (by omega))
 refine .m ?_
 refine .m ?_
 refine .i ?_ (z:=eql_f (by omega))
 refine .x .pk ?_
 refine .dn (.ff rfl (.sp ?_))
 exact dn_last a0 b1 hK ⟨rfl,rfl,rfl,rfl,trivial⟩
attribute [local irreducible] IntKind.wrap bitI Int.fdiv in
theorem donew_c {k:Nat}:AtC (Jw Tryz.prog X κ k .wr H) 103 [.pointer (some ⟨X.Wg,0,none⟩),.int .i64 (-1)] fun v J'=> v=.tuple #[]∧J'=Jq Tryz.prog 0:=by
 refine InC.at (by exact Jw.clX rfl) ca103 (InC.enter (vs:= [.pointer (some ⟨X.Wg,0,none⟩),.int .i64 (-1)]) Tryz.func103 rfl Tryz.ntmps103 (Nat.le_of_ble_eq_true rfl) fun c cs hK=> ?_)
 have hsh:=shp_wg X
 have f1:=w64_m1
 have f2:=sh64_m1
 have f3:=w32_m1
 refine .sq (.tt rfl (.sq (.sq (.rg rfl rfl ?_))))
 refine .m ?_
 refine .i ?_ (z:=lss_t (by omega))
 refine .dn (.tt rfl (.rg rfl rfl ?_))
 refine .m ?_
 refine .x (OpP.raw rfl rfl un_201 un_203 sz_156 (by assumption)) ?_
 refine So.callD rfl rfl rfl nofun rfl (.mk' rfl) rfl (Jw.wr e163) ?_
 rintro v J' ⟨rfl,k1,hk1,rfl⟩
 refine .dn (.sq (.rg rfl rfl ?_))
 refine So.callD rfl rfl rfl nofun rfl (.mk' rfl) rfl (Jw.wk e164) ?_
 rintro v J' ⟨k2,t,hk2,⟨rfl,rfl⟩,rfl⟩
 refine .dn (.rg rfl rfl ?_)
 refine So.defer Jw.cl0 (f:=165) (vs:= []) rfl nofun rfl rfl ⟨_,rfl⟩ rfl ?_
 refine .dn (.sq ?_)
 refine Sc.drop (R':= [(0,.pointer (some ⟨X.Wg,0,none⟩)),(1,.int .i64 (-1))]) ⟨rfl,rfl,trivial⟩ ?_
 refine .rg rfl rfl ?_
 refine .g ?_
 refine .dn (.sq (.sq (.rg rfl rfl ?_)))
 refine So.callD rfl rfl rfl nofun rfl (.mk' rfl) rfl (Jw.wi e166) ?_
 rintro v J' ⟨k3,t,hk3,⟨rfl,rfl⟩,rfl⟩
 refine .dn (.ff rfl (.sp (.sq ?_)))
 refine Sc.drop (R':= [(0,.pointer (some ⟨X.Wg,0,none⟩)),(1,.int .i64 (-1)),(4,.bool false)]) ⟨rfl,rfl,rfl,trivial⟩ ?_
 refine .rg rfl rfl ?_
 refine .m ?_
 refine .x .nk ?_
 refine .x (.fa (zz:=fo_156_1)) ?_
 refine .m ?_
 refine .x (OpP.conv rfl rfl un_3 un_151 (by assumption)) ?_
 refine .x (OpP.shift rfl rfl rfl (by omega) (by assumption)) ?_
 refine So.callD rfl rfl rfl nofun rfl (.mk' rfl) rfl (add64 Jw.cl0 kw (Jw.d1 e210)) ?_
 rintro v J' ⟨k4,t,hk4,⟨a,b,ha,hb,rfl,rfl⟩,rfl⟩
 by_cases hq:a=0∧b=1
 · rw[if_pos hq]
   refine .g ?_
   refine .dn ?_
   exact dn_one hq.1 hq.2 (hK _ _ ⟨rfl,rfl⟩) ⟨rfl,rfl,rfl,rfl,trivial⟩
 · rw[if_neg hq]
   refine So.mono ?_ (fun g=> Jq.jw)
   refine .g ?_
   refine .dn ?_
   exact dn_two (by omega) (by omega) hq (hK _ _ ⟨rfl,rfl⟩) ⟨rfl,rfl,rfl,rfl,trivial⟩
theorem done_d {k n:Nat}{b:FB}{R:Rg}{ds:List Deferred}(hb:b.rd=none)
   (h:Sb (Jq Tryz.prog 0) n b cs R ds):Sb (Jw Tryz.prog X κ k .wr H) n b cs R (dcall 105 #[.pointer (some ⟨X.Wg,0,none⟩)]::ds):=by
 refine Sb.enterD (vs:= [.pointer (some ⟨X.Wg,0,none⟩)]) Jw.cl0 hb Tryz.func105 (by kernel_rfl) rfl Tryz.ntmps105 (Nat.le_of_ble_eq_true rfl) fun c hm hc=> ?_
 refine .rg rfl rfl ?_
 refine .m ?_
 refine So.callD rfl rfl rfl nofun rfl (.mk' rfl) rfl (donew_c) ?_
 rintro v J' ⟨rfl,rfl⟩
 refine .dn ?_
 refine Sc.over Jq.cl rfl (Sb.leaveD Jq.cl Tryz.func105 rfl Tryz.results105 (.inl hm) (hc _ h))
end
end Go.Proofs.YtdnfdeplcjaonaaGreatDoor
end
section
namespace Go.Proofs.YtdnfdeplcjaonaaGreatDoor
open Go.RL Go.Conc Go.ConcN Go.RL.Au
open Go.ConcR (stA smA)
open Go.ConcM (OsLater)
set_option maxRecDepth 10000
set_option maxHeartbeats 1000000
section
variable {X:Fk}{H:View}{Fin:Goroutine→Prop}{j:Nat}{cc:Frame}{cs:List Frame}
theorem km {K:Value→Mn→Prop}{k:Nat}:KC true (fun v J'=> ∃k' m',k'<k∧K v m'∧J'=Jm Tryz.prog X Fin k' m' j H):=fun _ _ ⟨_,_,_,_,h⟩=> ⟨_,h▸Jm.cl⟩
theorem w32_1:IntKind.i32.wrap 1=1:=by decide +kernel
attribute [local irreducible] IntKind.wrap bitI Int.fdiv in
theorem addone_c {k:Nat}:AtC (Jm Tryz.prog X Fin k .kd j H) 103 [.pointer (some ⟨X.Wg,0,none⟩),.int .i64 1] fun v J'=> v=.tuple #[]∧∃k',J'=Jm Tryz.prog X Fin k' .go j H:=by
 refine InC.at (by exact Jm.cl) ca103 (InC.enter (vs:= [.pointer (some ⟨X.Wg,0,none⟩),.int .i64 1]) Tryz.func103 rfl Tryz.ntmps103 (Nat.le_of_ble_eq_true rfl) fun c cs hK=> ?_)
 have hsh:=shp_wg1 X
 have f1:=w64_1
 have f2:=sh64_1
 have f3:=w32_1
 refine .sq (.tt rfl (.sq (.sq (.rg rfl rfl ?_))))
 refine .m ?_
 refine .i ?_ (z:=lss_f (by omega))
 refine .dn (.ff rfl (.sp (.sq (.rg rfl rfl ?_))))
 refine So.callD rfl rfl rfl nofun rfl (.mk' rfl) rfl (Jm.kd e164) ?_
 rintro v J' ⟨k2,t,hk2,⟨rfl,rfl⟩,rfl⟩
 refine .dn (.rg rfl rfl ?_)
 refine So.defer Jm.cl (f:=165) (vs:= []) rfl nofun rfl rfl ⟨_,rfl⟩ rfl ?_
 refine .dn (.sq (.rg rfl rfl ?_))
 refine .g ?_
 refine .dn (.sq (.sq (.rg rfl rfl ?_)))
 refine So.callD rfl rfl rfl nofun rfl (.mk' rfl) rfl (Jm.ki e166) ?_
 rintro v J' ⟨k3,t,hk3,⟨rfl,rfl⟩,rfl⟩
 refine .dn (.ff rfl (.sp (.sq (.rg rfl rfl ?_))))
 refine .m ?_
 refine .x .nk ?_
 refine .x (.fa (zz:=fo_156_1)) ?_
 refine .m ?_
 refine .x (OpP.conv rfl rfl un_3 un_151 (by assumption)) ?_
 refine .x (OpP.shift rfl rfl rfl (by omega) (by assumption)) ?_
 refine So.callD rfl rfl rfl nofun rfl (.mk' rfl) rfl (add64 Jm.cl km (Jm.ka e210)) ?_
 rintro v J' ⟨k4,t,hk4,⟨a,ha,rfl,rfl⟩,rfl⟩
 have e0:(((a+1)*4294967296:Nat):Int)=(((a+1)*4294967296+0:Nat):Int):=(congrArg (fun x:Nat=> (x:Int)) (Nat.add_zero _)).symm
 have g1:intBin .and .u64 (((a+1)*4294967296:Nat):Int) 2147483648=some (.int .u64 0):=by rw[e0,←g64_hi (a+1) (by omega) 0 (by omega)];rfl
 have g2:intBin .and .u64 (((a+1)*4294967296:Nat):Int) 2147483647=some (.int .u64 0):=by
   have:=g64_lo (a+1) (by omega) 0 (by omega)
   rw[e0]
   exact congrArg (fun x=> some (Value.int .u64 x)) this
 have g3:shiftV .shr .u64 (((a+1)*4294967296:Nat):Int) 32=some (.int .u64 ((a+1:Nat):Int)):=by rw[e0,←g64_sh (a+1) (by omega) 0 (by omega)];rfl
 have g4:=w32_s (a+1) (by omega)
 have g5:IntKind.u32.wrap 0=0:=wu32_s 0 (by omega)
 have gg:(0:Int)<((a+1:Nat):Int):=by omega
 refine .g ?_
 refine .dn ?_
 refine Sc.drop (R':= [(0,.pointer (some ⟨X.Wg,0,none⟩)),(1,.int .i64 1),(4,.bool false),(6,.int .u64 (((a+1)*4294967296:Nat):Int))]) ⟨rfl,rfl,rfl,rfl,trivial⟩ ?_
 refine .sq (.sq (.rg rfl rfl ?_))
 refine .m ?_
 refine .i ?_ (z:=by assumption)
 refine .i ?_ (z:=neq_f (by omega))
 refine .m ?_
 refine .sk ?_
 refine .sk ?_
 refine .x .pk ?_
 refine .dn (.ff rfl (.sp (.sq ?_)))
 refine Sc.drop (R':= [(0,.pointer (some ⟨X.Wg,0,none⟩)),(1,.int .i64 1),(4,.bool false),(6,.int .u64 (((a+1)*4294967296:Nat):Int))]) ⟨rfl,rfl,rfl,rfl,trivial⟩ ?_
 refine .rg rfl rfl ?_
 refine .m ?_
 refine .x (OpP.shift rfl rfl rfl (by omega) (by assumption)) ?_
 refine .x (OpP.conv rfl rfl un_151 un_21 (by assumption)) ?_
 refine .g ?_
 refine .dn ?_
 refine Sc.drop (R':= [(0,.pointer (some ⟨X.Wg,0,none⟩)),(1,.int .i64 1),(4,.bool false),(6,.int .u64 (((a+1)*4294967296:Nat):Int)),(7,.int .i32 ((a+1:Nat):Int))]) ⟨rfl,rfl,rfl,rfl,rfl,trivial⟩ ?_
 refine .sq (.rg rfl rfl ?_)
 refine .m ?_
 refine .i ?_ (z:=by assumption)
 refine .x (OpP.conv rfl rfl un_151 un_154 (by assumption)) ?_
 refine .g ?_
 refine .dn ?_
 refine Sc.drop (R':= [(0,.pointer (some ⟨X.Wg,0,none⟩)),(1,.int .i64 1),(4,.bool false),(7,.int .i32 ((a+1:Nat):Int)),(8,.int .u32 0)]) ⟨rfl,rfl,rfl,rfl,rfl,trivial⟩ ?_
 refine .sq (.sq ?_)
 by_cases hz:a=0
 · rw[if_pos hz]
   have q1:intBin .eql .i32 ((a+1:Nat):Int) 1=some (.bool true):=eql_t (by omega)
   refine .rg rfl rfl ?_
   refine .m ?_
   refine .m ?_
   refine .i ?_ (z:=gtr_t (by omega))
   refine .x .pk ?_
   refine .m ?_
   refine .m ?_
   refine .m ?_
   refine .x (OpP.conv rfl rfl un_3 un_21 (by assumption)) ?_
   refine .i ?_ (z:=by assumption)
   refine .x .pk ?_
   refine .dn (.tt rfl ?_)
   refine Sc.drop (R':= [(0,.pointer (some ⟨X.Wg,0,none⟩)),(1,.int .i64 1),(4,.bool false),(7,.int .i32 ((a+1:Nat):Int)),(8,.int .u32 0)]) ⟨rfl,rfl,rfl,rfl,rfl,trivial⟩ ?_
   refine .rg rfl rfl ?_
   refine .m ?_
   refine .x .nk ?_
   refine .x (.fa (zz:=fo_156_2)) ?_
   refine .x (OpP.raw rfl rfl un_208 un_203 sz_154 (by assumption)) ?_
   refine So.callD rfl rfl rfl nofun rfl (.mk' rfl) rfl (Jm.kr e171) ?_
   rintro v J' ⟨rfl,k5,hk5,rfl⟩
   refine .dn ?_
   refine Sc.drop (R':= [(0,.pointer (some ⟨X.Wg,0,none⟩)),(1,.int .i64 1),(4,.bool false),(7,.int .i32 ((a+1:Nat):Int)),(8,.int .u32 0)]) ⟨rfl,rfl,rfl,rfl,rfl,trivial⟩ ?_
   refine .sq (.sq (.rg rfl rfl ?_))
   refine .m ?_
   refine .i ?_ (z:=lss_f (by omega))
   refine .dn (.ff rfl (.sp (.sq (.sq (.rg rfl rfl ?_)))))
   refine .m ?_
   refine .i ?_ (z:=neq_f (by omega))
   refine .m ?_
   refine .sk ?_
   refine .sk ?_
   refine .x .pk ?_
   refine .m ?_
   refine .sk ?_
   refine .sk ?_
   refine .sk ?_
   refine .sk ?_
   refine .x .pk ?_
   refine .dn (.ff rfl (.sp (.sq (.sq ?_))))
   refine Sc.drop (R':= [(0,.pointer (some ⟨X.Wg,0,none⟩)),(1,.int .i64 1),(4,.bool false),(7,.int .i32 ((a+1:Nat):Int)),(8,.int .u32 0)]) ⟨rfl,rfl,rfl,rfl,rfl,trivial⟩ ?_
   refine .rg rfl rfl ?_
   refine .m ?_
   refine .i ?_ (z:=gtr_t (by omega))
   refine .m ?_
   refine .sk ?_
   refine .sk ?_
   refine .x .pk ?_
   refine .dn (.tt rfl ?_)
   refine Sc.retCode Jm.cl rfl (Jm.ke e165 rfl (fun k' _=> Sb.leave Jm.cl Tryz.func103 rfl (.inl ⟨Tryz.results103,rfl⟩) (hK _ _ ⟨rfl,k',rfl⟩)))
 · rw[if_neg hz]
   have q1:intBin .eql .i32 ((a+1:Nat):Int) 1=some (.bool false):=eql_f (by omega)
   refine .rg rfl rfl ?_
   refine .m ?_
   refine .m ?_
   refine .i ?_ (z:=gtr_t (by omega))
   refine .x .pk ?_
   refine .m ?_
   refine .m ?_
   refine .m ?_
   refine .x (OpP.conv rfl rfl un_3 un_21 (by assumption)) ?_
   refine .i ?_ (z:=by assumption)
   refine .x .pk ?_
   refine .dn (.ff rfl (.sp (.sq (.sq ?_))))
   refine Sc.drop (R':= [(0,.pointer (some ⟨X.Wg,0,none⟩)),(1,.int .i64 1),(4,.bool false),(7,.int .i32 ((a+1:Nat):Int)),(8,.int .u32 0)]) ⟨rfl,rfl,rfl,rfl,rfl,trivial⟩ ?_
   refine .rg rfl rfl ?_
   refine .m ?_
   refine .i ?_ (z:=lss_f (by omega))
   refine .dn (.ff rfl (.sp (.sq (.sq (.rg rfl rfl ?_)))))
   refine .m ?_
   refine .i ?_ (z:=neq_f (by omega))
   refine .m ?_
   refine .sk ?_
   refine .sk ?_
   refine .x .pk ?_
   refine .m ?_
   refine .sk ?_
   refine .sk ?_
   refine .sk ?_
   refine .sk ?_
   refine .x .pk ?_
   refine .dn (.ff rfl (.sp (.sq (.sq ?_))))
   refine Sc.drop (R':= [(0,.pointer (some ⟨X.Wg,0,none⟩)),(1,.int .i64 1),(4,.bool false),(7,.int .i32 ((a+1:Nat):Int)),(8,.int .u32 0)]) ⟨rfl,rfl,rfl,rfl,rfl,trivial⟩ ?_
   refine .rg rfl rfl ?_
   refine .m ?_
   refine .i ?_ (z:=gtr_t (by omega))
   refine .m ?_
   refine .sk ?_
   refine .sk ?_
   refine .x .pk ?_
   refine .dn (.tt rfl ?_)
   refine Sc.retCode Jm.cl rfl (Jm.ke e165 rfl (fun k' _=> Sb.leave Jm.cl Tryz.func103 rfl (.inl ⟨Tryz.results103,rfl⟩) (hK _ _ ⟨rfl,k',rfl⟩)))
end
end Go.Proofs.YtdnfdeplcjaonaaGreatDoor
end
section
namespace Go.Proofs.YtdnfdeplcjaonaaGreatDoor
open Go.RL Go.Conc Go.ConcN Go.RL.Au
open Go.ConcR (stA smA)
open Go.ConcM (OsLater)
set_option maxRecDepth 10000
set_option maxHeartbeats 1000000
section
variable {X:Fk}{H:View}{Fin:Goroutine→Prop}{j:Nat}{cc:Frame}{cs:List Frame}
noncomputable def B165:Code:=cB (cB (cR (bodyOf Tryz.f107)))
abbrev b107:FB:=⟨107,.normal,none⟩
attribute [local irreducible] IntKind.wrap bitI Int.fdiv in
theorem wait_head(hc:Cl Tryz.prog true noSh Fin)(hK:Fin (G (cc.finish (.tuple #[])) cs))(k:Nat):∀R:Rg,AllIn [(0,.pointer (some ⟨X.Wg,0,none⟩))] R→Sc (Jm Tryz.prog X Fin k .w1 j H) 84 b107 (cc::cs) R [] [.code B165,.inLoop B165,.inBlock 0]:=by
 induction k using Nat.strongRecOn with
 | ind k IH=>
   intro R hR
   refine Sc.drop hR ?_
   have hsh:=shp_wg X
   have hsh1:=shp_wg1 X
   refine Sc.block (by first|exact Jm.cl|exact hc) ?_;refine Sc.seq (by first|exact Jm.cl|exact hc) ?_
   refine .rg rfl rfl ?_
   refine .m ?_
   refine .x .nk ?_
   refine .x (.fa (zz:=fo_156_1)) ?_
   refine So.callD rfl rfl rfl nofun rfl (.mk' rfl) rfl (load64 Jm.cl km (Jm.w1 e211)) ?_
   rintro v J' ⟨k1,t,hk1,⟨a,ha,rfl,rfl⟩,rfl⟩
   have e0:((a*4294967296:Nat):Int)=((a*4294967296+0:Nat):Int):=(congrArg (fun x:Nat=> (x:Int)) (Nat.add_zero _)).symm
   have g1:intBin .and .u64 ((a*4294967296:Nat):Int) 2147483648=some (.int .u64 0):=by rw[e0,←g64_hi a (by omega) 0 (by omega)];rfl
   have g2:intBin .and .u64 ((a*4294967296:Nat):Int) 2147483647=some (.int .u64 0):=by
     have:=g64_lo a (by omega) 0 (by omega)
     rw[e0]
     exact congrArg (fun x=> some (Value.int .u64 x)) this
   have g3:shiftV .shr .u64 ((a*4294967296:Nat):Int) 32=some (.int .u64 (a:Int)):=by rw[e0,←g64_sh a (by omega) 0 (by omega)];rfl
   have g4:=w32_s a (by omega)
   have g5:IntKind.u32.wrap 0=0:=wu32_s 0 (by omega)
   have g6:intBin .add .u64 ((a*4294967296:Nat):Int) 1=some (.int .u64 ((a*4294967296+1:Nat):Int)):=by
     have h:∀a:Nat,a<8→IntKind.u64.wrap (((a*4294967296:Nat):Int)+1)=((a*4294967296+1:Nat):Int):=by decide +kernel
     exact congrArg (fun x=> some (Value.int .u64 x)) (h a (by omega))
   refine .g ?_
   refine .dn ?_
   refine Sc.drop (R':= [(0,.pointer (some ⟨X.Wg,0,none⟩)),(2,.int .u64 ((a*4294967296:Nat):Int))]) ⟨rfl,rfl,trivial⟩ ?_
   refine Sc.seq (by first|exact Jm.cl|exact hc) ?_
   refine .rg rfl rfl ?_
   refine .m ?_
   refine .x (OpP.shift rfl rfl rfl (by omega) (by assumption)) ?_
   refine .x (OpP.conv rfl rfl un_151 un_21 (by assumption)) ?_
   refine .g ?_
   refine .dn ?_
   refine Sc.drop (R':= [(0,.pointer (some ⟨X.Wg,0,none⟩)),(2,.int .u64 ((a*4294967296:Nat):Int)),(3,.int .i32 (a:Int))]) ⟨rfl,rfl,rfl,trivial⟩ ?_
   refine Sc.seq (by first|exact Jm.cl|exact hc) ?_
   refine .rg rfl rfl ?_
   refine .m ?_
   refine .i ?_ (z:=by assumption)
   refine .x (OpP.conv rfl rfl un_151 un_154 (by assumption)) ?_
   refine .g ?_
   refine .dn ?_
   refine Sc.drop (R':= [(0,.pointer (some ⟨X.Wg,0,none⟩)),(2,.int .u64 ((a*4294967296:Nat):Int)),(3,.int .i32 (a:Int)),(4,.int .u32 0)]) ⟨rfl,rfl,rfl,rfl,trivial⟩ ?_
   refine Sc.seq (by first|exact Jm.cl|exact hc) ?_;refine Sc.seq (by first|exact Jm.cl|exact hc) ?_
   by_cases hz:a=0
   · rw[if_pos hz]
     have q1:intBin .eql .i32 (a:Int) 0=some (.bool true):=eql_t (by omega)
     refine .rg rfl rfl ?_
     refine .m ?_
     refine .i ?_ (z:=by assumption)
     refine .dn ?_
     refine Sc.cond (by first|exact Jm.cl|exact hc) (t:=true) rfl (fun _=> ?_) (fun h=> nomatch h);refine Sc.seq (by first|exact Jm.cl|exact hc) ?_;refine Sc.cond (by first|exact Jm.cl|exact hc) (t:=true) rfl (fun _=> ?_) (fun h=> nomatch h);refine Sc.seq (by first|exact Jm.cl|exact hc) ?_
     refine .rg rfl rfl ?_
     refine So.callD rfl rfl rfl nofun rfl (.mk' rfl) rfl (Jm.we e165) ?_
     rintro v J' ⟨k2,t,hk2,⟨rfl,rfl⟩,rfl⟩
     refine .dn (.rg rfl rfl ?_)
     refine .m ?_
     refine .x (OpP.raw rfl rfl un_201 un_203 sz_156 (by assumption)) ?_
     refine So.callD rfl rfl rfl nofun rfl (.mk' rfl) rfl (Jm.aq e176) ?_
     rintro v J' ⟨rfl,rfl⟩
     refine .dn (.sq (.sq (.rg rfl rfl ?_)))
     refine .m ?_
     refine .i ?_ (z:=eql_t (by omega))
     refine .m ?_
     refine .m ?_
     refine .i ?_ (z:=by assumption)
     refine .i ?_ (z:=neq_f (by omega))
     refine .x .pk ?_
     refine .m ?_
     refine .sk ?_
     refine .sk ?_
     refine .x .pk ?_
     refine .dn (.ff rfl (.sp ?_))
     refine Sc.retCode (by exact hc) rfl (Sb.leave (by exact hc) Tryz.func107 rfl (by exact .inl ⟨Tryz.results107,rfl⟩) ?_)
     exact hK
   · rw[if_neg hz]
     have q1:intBin .eql .i32 (a:Int) 0=some (.bool false):=eql_f (by omega)
     refine .rg rfl rfl ?_
     refine .m ?_
     refine .i ?_ (z:=by assumption)
     refine .dn ?_
     refine Sc.cond (by first|exact Jm.cl|exact hc) (t:=false) rfl (fun h=> nomatch h) (fun _=> ?_);refine Sc.skip (by first|exact Jm.cl|exact hc) ?_;refine Sc.seq (by first|exact Jm.cl|exact hc) ?_
     refine .rg rfl rfl ?_
     refine .m ?_
     refine .x .nk ?_
     refine .x (.fa (zz:=fo_156_1)) ?_
     refine .m ?_
     refine .m ?_
     refine .i ?_ (z:=by assumption)
     refine So.callD rfl rfl rfl nofun rfl (.mk' rfl) rfl (cas64 Jm.cl km (Jm.w2 e213)) ?_
     rintro v J' ⟨k2,t,hk2,⟨rfl,rfl⟩|⟨rfl,rfl⟩,rfl⟩
     · refine .dn ?_
       refine Sc.cond (by first|exact Jm.cl|exact hc) (t:=true) rfl (fun _=> ?_) (fun h=> nomatch h);refine Sc.seq (by first|exact Jm.cl|exact hc) ?_;refine Sc.seq (by first|exact Jm.cl|exact hc) ?_
       refine Sc.drop (R':= [(0,.pointer (some ⟨X.Wg,0,none⟩)),(2,.int .u64 ((a*4294967296:Nat):Int)),(4,.int .u32 0)]) ⟨rfl,rfl,rfl,trivial⟩ ?_
       refine .rg rfl rfl ?_
       refine .m ?_
       refine .m ?_
       refine .i ?_ (z:=eql_t (by omega))
       refine .x .pk ?_
       refine .dn ?_
       refine Sc.cond (by first|exact Jm.cl|exact hc) (t:=true) rfl (fun _=> ?_) (fun h=> nomatch h)
       refine .rg rfl rfl ?_
       refine .m ?_
       refine .x .nk ?_
       refine .x (.fa (zz:=fo_156_2)) ?_
       refine .x (OpP.raw rfl rfl un_208 un_203 sz_154 (by assumption)) ?_
       refine So.callD rfl rfl rfl nofun rfl (.mk' rfl) rfl (Jm.wm e179) ?_
       rintro v J' ⟨rfl,k3,hk3,rfl⟩
       refine .dn ?_
       refine Sc.drop (R':= [(0,.pointer (some ⟨X.Wg,0,none⟩)),(2,.int .u64 ((a*4294967296:Nat):Int)),(4,.int .u32 0)]) ⟨rfl,rfl,rfl,trivial⟩ ?_
       refine Sc.seq (by first|exact Jm.cl|exact hc) ?_
       refine .rg rfl rfl ?_
       refine .g ?_
       refine .dn ?_
       refine Sc.seq (by first|exact Jm.cl|exact hc) ?_;refine Sc.seq (by first|exact Jm.cl|exact hc) ?_
       refine .rg rfl rfl ?_
       refine .m ?_
       refine .i ?_ (z:=by assumption)
       refine .i ?_ (z:=neq_f (by omega))
       refine .m ?_
       refine .sk ?_
       refine .x .pk ?_
       refine .dn ?_
       refine Sc.cond (by first|exact Jm.cl|exact hc) (t:=false) rfl (fun h=> nomatch h) (fun _=> ?_);refine Sc.skip (by first|exact Jm.cl|exact hc) ?_;refine Sc.seq (by first|exact Jm.cl|exact hc) ?_
       refine .rg rfl rfl ?_
       refine .m ?_
       refine .x .nk ?_
       refine .x (.fa (zz:=fo_156_2)) ?_
       refine .m ?_
       refine So.callD rfl rfl rfl nofun rfl (.mk' rfl) rfl (Jm.ws (vs:= [.pointer (some ⟨X.Wg,1,none⟩),.bool false]) e180 rfl) ?_
       rintro v J' ⟨k4,t,hk4,⟨rfl,rfl⟩,rfl⟩
       refine .dn ?_
       refine Sc.drop (R':= [(0,.pointer (some ⟨X.Wg,0,none⟩))]) ⟨rfl,trivial⟩ ?_
       refine Sc.seq (by first|exact Jm.cl|exact hc) ?_
       refine .rg rfl rfl ?_
       refine .m ?_
       refine .x .nk ?_
       refine .x (.fa (zz:=fo_156_1)) ?_
       refine So.callD rfl rfl rfl nofun rfl (.mk' rfl) rfl (load64 Jm.cl km (Jm.w4 e211)) ?_
       rintro v J' ⟨k5,t,hk5,⟨rfl,rfl⟩,rfl⟩
       refine .i ?_ (z:=neq_f (by omega))
       refine .g ?_
       refine .dn ?_
       refine Sc.seq (by first|exact Jm.cl|exact hc) ?_;refine Sc.cond (by first|exact Jm.cl|exact hc) (t:=true) rfl (fun _=> ?_) (fun h=> nomatch h);refine Sc.seq (by first|exact Jm.cl|exact hc) ?_
       refine .rg rfl rfl ?_
       refine So.callD rfl rfl rfl nofun rfl (.mk' rfl) rfl (Jm.we e165) ?_
       rintro v J' ⟨k6,t,hk6,⟨rfl,rfl⟩,rfl⟩
       refine .dn (.rg rfl rfl ?_)
       refine .m ?_
       refine .x (OpP.raw rfl rfl un_201 un_203 sz_156 (by assumption)) ?_
       refine So.callD rfl rfl rfl nofun rfl (.mk' rfl) rfl (Jm.aq e176) ?_
       rintro v J' ⟨rfl,rfl⟩
       refine .dn (.sq (.sq (.rg rfl rfl ?_)))
       refine .m ?_
       refine .dn (.ff rfl (.sp ?_))
       refine Sc.retCode (by exact hc) rfl (Sb.leave (by exact hc) Tryz.func107 rfl (by exact .inl ⟨Tryz.results107,rfl⟩) ?_)
       exact hK
     · refine .dn ?_
       refine Sc.cond (by first|exact Jm.cl|exact hc) (t:=false) rfl (fun h=> nomatch h) (fun _=> ?_);refine Sc.skip (by first|exact Jm.cl|exact hc) ?_;refine Sc.inBlock (by first|exact Jm.cl|exact hc) ?_
       refine Sc.inLoop (by exact Jm.cl) ?_
       exact IH k2 (by omega) _ ⟨rfl,trivial⟩
theorem wait_c {k:Nat}(hc:Cl Tryz.prog true noSh Fin):AtC (Jm Tryz.prog X Fin k .wd j H) 107 [.pointer (some ⟨X.Wg,0,none⟩)] fun v J'=> v=.tuple #[]∧J'=Fin:=by
 refine InC.at (by exact Jm.cl) ca107 (InC.enter (vs:= [.pointer (some ⟨X.Wg,0,none⟩)]) Tryz.func107 rfl Tryz.ntmps107 (Nat.le_of_ble_eq_true rfl) fun c cs hK=> ?_)
 refine Sc.seq (by first|exact Jm.cl|exact hc) ?_;refine Sc.cond (by first|exact Jm.cl|exact hc) (t:=true) rfl (fun _=> ?_) (fun h=> nomatch h)
 refine .rg rfl rfl ?_
 refine So.callD rfl rfl rfl nofun rfl (.mk' rfl) rfl (Jm.wd e164) ?_
 rintro v J' ⟨k2,t,hk2,⟨rfl,rfl⟩,rfl⟩
 refine .dn ?_
 refine Sc.block (by first|exact Jm.cl|exact hc) ?_
 refine Sc.loop (by exact Jm.cl) ?_
 exact wait_head hc (hK _ _ ⟨rfl,rfl⟩) k2 _ ⟨rfl,trivial⟩
end
end Go.Proofs.YtdnfdeplcjaonaaGreatDoor
end
section
namespace Go.RL
open Go.Conc
section
variable {P:Program}{M:Md P}{md:Region.Mode}{ops:Array Oper}{S:Array Bool→View→Prop}{Fin:Array Value→View→Prop}{z:Nat}
theorem waits_not {i j:Nat}{listed:Array Bool}(h:waits md ops i j=true)(hi:i∈Region.ready md ops listed)(hj:j∈Region.ready md ops listed):False:=by
 unfold waits at h
 obtain⟨_,o,ho,hall⟩:=mem_ready.1 hj
 rw[ho] at h
 simp only at h
 rw[Array.any_eq_true'] at h
 obtain⟨e,he,hb⟩:=h
 simp only[Bool.and_eq_true,beq_iff_eq] at hb
 have h1:=hall e he hb.1
 have h0:=(mem_ready.1 hi).1
 rw[hb.2] at h1
 rcases Nat.lt_or_ge i listed.size with h'|h'
 · simp[h'] at h0 h1;rw[h0] at h1;cases h1
 · simp[Array.getElem?_eq_none h'] at h1
def AnyL(M:Md P)(md:Region.Mode)(ops:Array Oper)(S:Array Bool→View→Prop)(z:Nat)(Fin:Array Value→View→Prop):Nat→Array Bool→Array Value→View→Prop
 | 0,listed,tmps,H=> ∀H₂,H.le H₂→S listed H₂→Region.ready md ops listed= [z]∧Fin tmps H₂
 | fuel+1,listed,tmps,H=> ∀H₂,H.le H₂→S listed H₂→
   (Region.ready md ops listed≠ [])∧
   ∀i∈Region.ready md ops listed,∀o,ops[i]? =some o→OneT M ops o tmps H₂ fun tmps' H'=> S (listed.setIfInBounds i true) H'∧AnyL M md ops S z Fin fuel (listed.setIfInBounds i true) tmps' H'
theorem AnyL.mono {fuel:Nat}{listed:Array Bool}{tmps:Array Value}{H H':View}(h:AnyL M md ops S z Fin fuel listed tmps H)(k:H.le H'):AnyL M md ops S z Fin fuel listed tmps H':=by
 cases fuel with
 | zero=> exact fun H₂ h2 hS=> h H₂ (View.le_trans k h2) hS
 | succ fuel=> exact fun H₂ h2 hS=> h H₂ (View.le_trans k h2) hS
theorem go_step(fuel t:Nat)(listed:Array Bool):Region.linearise.go md ops (fuel+1) t listed []=match (Region.ready md ops listed)[t%(Region.ready md ops listed).length]? with
   | some i=> i::Region.linearise.go md ops fuel (t/(Region.ready md ops listed).length) (listed.setIfInBounds i true) []
   | none=> []:=by
 rw[Region.linearise.go]
 show(match (Region.ready md ops listed)[t%(Region.ready md ops listed).length]? with
   | some i=> Region.linearise.go md ops fuel (t/(Region.ready md ops listed).length) (listed.setIfInBounds i true) [i]
   | none=> List.reverse [])=_
 split
 · rename_i i _
   rw[linearise_go_acc]
   rfl
 · rfl
theorem AnyL.sound {St:View→Goroutine→Prop}{b:FB}{ds:List Deferred}{k:List Item}{cs:List Frame}:∀(fuel t:Nat) (listed:Array Bool) (tmps:Array Value) (H:View),S listed H→
   AnyL M md ops S z (fun tmps H=> T M St H (G (b.at tmps ds (.inRegion ops [z]::k)) cs)) fuel listed tmps H→T M St H (G (b.at tmps ds (.inRegion ops (Region.linearise.go md ops (fuel+1) t listed [])::k)) cs):=by
 intro fuel
 induction fuel with
 | zero=>
   intro t listed tmps H hS h
   obtain⟨h1,h2⟩:=h H (View.le_refl H) hS
   rw[go_step,h1]
   simp only[List.length_singleton,Nat.mod_one,List.getElem?_cons_zero,Region.linearise.go,List.reverse_nil]
   exact h2
 | succ fuel ih=>
   intro t listed tmps H hS h
   have h:=h H (View.le_refl H) hS
   rw[go_step]
   split
   · rename_i i hi
     have hmem:=List.mem_of_getElem? hi
     obtain⟨_,o,ho,_⟩:=mem_ready.1 hmem
     exact OneT.sound ho ((h.2 i hmem o ho).mono fun t' H' hk=> ih _ _ _ _ hk.1 hk.2)
   · rename_i hi
     exfalso
     cases hr:Region.ready md ops listed with
     | nil=> exact h.1 hr
     | cons a l=>
       rw[hr] at hi
       have:t%(a::l).length<(a::l).length:=Nat.mod_lt _ (by simp)
       rw[List.getElem?_eq_getElem this] at hi
       cases hi
theorem AnyL.first {i:Nat}{oi:Oper}{v:Value}(hi:ops[i]? =some oi)(hsel:∀(j:Nat) (o:Oper) cs b,ops[j]? =some o→o.op≠ .select cs b)(hdi:isDefer oi.op=false)(hz:waits md ops i z=true)(hSi:∀listed H,S (listed.setIfInBounds i true) H↔S listed H):
   ∀ (fuel:Nat) (listed:Array Bool) (tmps:Array Value) (H:View),
     (∀j oj,ops[j]? =some oj→j≠i→listed.getD j true=false→(∀e∈oj.after,Region.binds md e=true→e.on≠i)→oi.apart ops oj=true)→
     closedL md ops listed=true→i∈Region.ready md ops listed→YieldsT M md ops S i oi v tmps→
     AnyL M md ops S z Fin fuel (listed.setIfInBounds i true) (putT tmps oi.dst v) H→AnyL M md ops S z Fin (fuel+1) listed tmps H:=by
 have own:∀(fuel:Nat) (listed:Array Bool) (tmps:Array Value) (H:View),closedL md ops listed=true→i∈Region.ready md ops listed→YieldsT M md ops S i oi v tmps→S listed H→AnyL M md ops S z Fin fuel (listed.setIfInBounds i true) (putT tmps oi.dst v) H→
     OneT M ops oi tmps H fun t H'=> S (listed.setIfInBounds i true) H'∧AnyL M md ops S z Fin fuel (listed.setIfInBounds i true) t H':=by
   intro fuel listed tmps H hcl hrd hy hS h
   refine⟨hdi,?_⟩
   rcases hy with ⟨hw,hv⟩|⟨hw,rfl⟩
   · rw[if_pos hw]
     refine(hv listed hcl (mem_ready.1 hrd).1 H hS).run ?_
     rintro u H' ⟨rfl,hle,hS'⟩
     exact⟨(hSi listed H').2 hS',h.mono hle⟩
   · rw[if_neg (by simp[hw])]
     exact⟨(hSi listed H).2 hS,h⟩
 intro fuel
 induction fuel with
 | zero=>
   intro listed tmps H _ hcl hr hy h H₂ h2 hS
   refine⟨fun e=> (by rw[e] at hr;cases hr),fun j hj o ho=> ?_⟩
   by_cases hji:j=i
   · subst hji
     rw[hi] at ho
     cases ho
     exact own 0 listed tmps H₂ hcl hr hy hS (h.mono h2)
   · have:=ready_mono hj hji
     rw[(h H₂ h2 ((hSi listed H₂).2 hS)).1,List.mem_singleton] at this
     subst this
     exact(waits_not hz hr hj).elim
 | succ fuel ih=>
   intro listed tmps H hfree hcl hr hy h H₂ h2 hS
   refine⟨fun e=> (by rw[e] at hr;cases hr),fun j hj oj hoj=> ?_⟩
   by_cases hji:j=i
   · subst hji
     rw[hi] at hoj
     cases hoj
     exact own (fuel+1) listed tmps H₂ hcl hr hy hS (h.mono h2)
   · have h1:=(h H₂ h2 ((hSi listed H₂).2 hS)).2 j (ready_mono hj hji) oj hoj
     have hcl':=closedL_ready hcl hj
     obtain⟨hjun,oj',hoj',hall⟩:=mem_ready.1 hj
     rw[hoj] at hoj'
     cases hoj'
     have hnot:∀e∈oj.after,Region.binds md e=true→e.on≠i:=fun e he hb heq=> by
       have h1:=hall e he hb
       have h0:=(mem_ready.1 hr).1
       rw[heq] at h1
       rcases Nat.lt_or_ge i listed.size with h'|h'
       · simp[h'] at h0 h1;rw[h0] at h1;cases h1
       · simp[Array.getElem?_eq_none h'] at h1
     have hap:=hfree j oj hoj hji hjun hnot
     have hfree':∀k ok,ops[k]? =some ok→k≠i→(listed.setIfInBounds j true).getD k true=false→
         (∀e∈ok.after,Region.binds md e=true→e.on≠i)→oi.apart ops ok=true:=fun k ok hk hki hun hno=> by
       refine hfree k ok hk hki ?_ hno
       by_cases hjk:j=k
       · subst hjk;exact hjun
       · rw[getD_set_ne true hjk] at hun;exact hun
     refine(h1.back hap (fun cs b=> hsel j oj cs b hoj)).mono ?_
     rintro t H' ⟨⟨u,rfl⟩,hS',h3⟩
     rw[Array.setIfInBounds_comm _ _ (Ne.symm hji)] at hS'
     refine⟨(hSi _ H').1 hS',ih (listed.setIfInBounds j true) _ H' hfree' hcl' (ready_mono hr (Ne.symm hji)) (hy.put (fun cs b=> hsel i oi cs b hi) (Oper.apart_spec hap).2.2) ?_⟩
     rw[Array.setIfInBounds_comm _ _ hji]
     exact h3
end
section
variable {P:Program}{M:Md P}{St:View→Goroutine→Prop}{n:Nat}{b:FB}{H₀:View}{cs:List Frame}{R:Rg}{L L':Bl}{ds:List Deferred}{k:List Item}{S:Array Bool→View→Prop}{md:Region.Mode}{ops:Array Oper}{z:Nat}
def Tl(M:Md P)(St:View→Goroutine→Prop)(n:Nat)(b:FB)(H₀:View)(cs:List Frame)(S:Array Bool→View→Prop)(md:Region.Mode)(ops:Array Oper)(z:Nat)(fuel:Nat)(listed:Array Bool)(R:Rg)(L:Bl)(ds:List Deferred)(k:List Item):Prop:=
 ∀H tmps,SymSt H₀ L H→RegOk n R tmps→S listed H→AnyL M md ops S z (fun tmps H=> T M St H (G (b.at tmps ds (.inRegion ops [z]::k)) cs)) fuel listed tmps H
theorem Tl.done {listed:Array Bool}{o:Oper}(hr:Region.ready md ops listed= [z])(ho:ops[z]? =some o)(h:To M St n b H₀ cs (ops.toList.map (fun o:Oper=> o.dst)) R L ds [o] k):Tl M St n b H₀ cs S md ops z 0 listed R L ds k:=fun H tmps hs hr' _ H₂ h2 _=>
 ⟨hr,h ops [z] (fun j=> by
   simp only[List.getElem?_map,Array.getElem?_toList]
   cases ops[j]? <;> rfl) (by simp[ho]) H₂ tmps (hs.mono h2) hr'⟩
theorem Tl.take(i:Nat){o:Oper}{d:Nat}{v:Value}{fuel:Nat}{listed:Array Bool}(hi:ops[i]? =some o)(hsel:Region.noSelect ops=true)(hr:(Region.ready md ops listed).contains i=true)(hf:Region.free md ops listed i=true)
   (hd:o.dst=some d) (hn:d<n) (hnd:isDefer o.op=false) (hz:waits md ops i z=true) (hcl:closedL md ops listed=true) (hSi:∀listed H,S (listed.setIfInBounds i true) H↔S listed H) (hw:wantB (ops.toList.map (fun o:Oper=> o.dst)) R o=some true)
   (hv:∀listed,closedL md ops listed=true→listed.getD i true=false→∀H tmps,S listed H→RegOk n R tmps→OpVal M o tmps H fun u H'=> u=v∧H.le H'∧S listed H')
   (h:Tl M St n b H₀ cs S md ops z fuel (listed.setIfInBounds i true) ((d,v)::R) L ds k):Tl M St n b H₀ cs S md ops z (fuel+1) listed R L ds k:=fun H tmps hs hr' hS=> by
 refine AnyL.first hi (Region.noSelect_spec hsel) hnd hz hSi fuel listed tmps H (fun j oj hj hne hun hno=> Region.free_spec hi hf j oj hj hne hun hno) hcl (by simpa using hr) (.inl ⟨wantB_ok (fun j=> ?_) hr' hw,fun l hcl hu H hSH=> hv l hcl hu H tmps hSH hr'⟩) ?_
 · simp only[List.getElem?_map,Array.getElem?_toList]
   cases ops[j]? <;> rfl
 · rw[hd]
   exact h H _ hs (hr'.put hn v) ((hSi _ H).2 hS)
theorem Tl.tk(i:Nat){o:Oper}{d:Nat}{v:Value}{fuel:Nat}{listed:Array Bool}(hc:takeOk md ops [] listed i=true)(hz:waits md ops i z=true)(hi:ops[i]? =some o)(hd:o.dst=some d)(hn:d<n)(hnd:isDefer o.op=false)(hw:wantB (ops.toList.map (fun o:Oper=> o.dst)) R o=some true)
   (hv:∀H tmps,SymSt H₀ L H→RegOk n R tmps→OpVal M o tmps H fun u H'=> u=v∧H.le H')
   (h:Tl M St n b H₀ cs (fun _=> SymSt H₀ L) md ops z fuel (listed.setIfInBounds i true) ((d,v)::R) L ds k):Tl M St n b H₀ cs (fun _=> SymSt H₀ L) md ops z (fuel+1) listed R L ds k:=by
 simp only[takeOk,Bool.and_eq_true,Bool.not_eq_true'] at hc
 obtain⟨⟨⟨⟨⟨hsel,hr⟩,hf⟩,hcl⟩,_⟩,_⟩:=hc
 exact .take i hi hsel hr hf hd hn hnd hz hcl (fun _ _=> Iff.rfl) hw (fun _ _ _ H tmps hS hr=> by
   have:=hv H tmps hS hr
   unfold OpVal at this ⊢
   have fin:∀u H',(u=v∧H.le H')→u=v∧H.le H'∧SymSt H₀ L H':=fun u H' ⟨h1,h2⟩=> ⟨h1,h2,hS.mono h2⟩
   refine vwp_mono _ (fun nx H' hn=> ?_) this
   cases nx <;> first
     | exact hn.elim
     | exact fin _ _ hn
     | exact CallT.mono hn fin
     | exact GoT.mono hn fin) h
theorem Tc.dl(z:Nat){id:Nat}{fuel:Nat}(hm:P.follows .mixedOrders=true)(hf:ops.size=fuel+1)(h:Tl M St n b H₀ cs (fun _=> SymSt H₀ L) .any ops z fuel (Array.replicate (fuel+1) false) R L ds k):
   Tc M St n b H₀ cs R L ds (.code (.region id ops true)::k):=fun H tmps hs hr=> by
 refine .region_draw fun t=> ?_
 simp only[Region.schedule,hm,Bool.true_or,if_true]
 have h1:=(h H tmps hs hr hs).sound _ t _ _ _ hs
 unfold Region.linearise
 rw[hf]
 exact h1
end
end Go.RL
end
section
namespace Go.RL
open Go.Conc Go.ConcN Go.RL.Au
open Go.ConcR (stA smA mk)
open Go.ConcM (muA msA OsLater)
section
variable {P:Program}{X:Fk}{κ:Nat}
theorem OpP.makeFunc {n:Nat}{sh:Shp}{R:Rg}{o:Oper}{f:Fn}{first caps:Array Operand}{vs ws:List Value}(hop:o.op=.makeFunc f first caps)(h1:evRs R first.toList=some vs)(h2:evRs R caps.toList=some ws):OpP P sh n R o (.func f vs.toArray ws.toArray):=fun tmps hr=> by
 unfold execOp;rw[hop]
 show Next.value _=_
 have e1:first.map (evT tmps)=vs.toArray:=by
   rw[←hr.evs h1,List.map_toArray.symm]
 have e2:caps.map (evT tmps)=ws.toArray:=by
   rw[←hr.evs h2,List.map_toArray.symm]
 rw[e1,e2]
theorem T.none {M:Md P}{St:View→Goroutine→Prop}{C:Nat}{H:View}{g:Goroutine}(hok:∀w,M.ok w→C<w.heap.size)(hph:∀H g Po,¬M.Ph H g Po)(h:T M St H g):H C=Option.none→T M (fun H' g'=> H' C=Option.none∧St H' g') H g:=
 h (fun H g=> H C=Option.none→T M (fun H' g'=> H' C=Option.none∧St H' g') H g) (fun _ _ hs hc=> .stop ⟨hc,hs⟩) (fun H g hs hc=> .step ⟨hs.1,fun w hw ho=> by
   obtain⟨g',w',es,H',h1,h2,h3⟩:=hs.2 w hw ho
   refine⟨g',w',es,H',h1,h2,h3 ?_⟩
   cases hx:H' C with
   | none=> rfl
   | some x=>
     obtain⟨f,o⟩:=x
     rcases h2.ext _ _ _ hx with ⟨o',ho'⟩|⟨_,hle⟩
     · rw[hc] at ho';cases ho'
     · have:=hok w ho;omega⟩) (fun _ _ _ hp=> (hph _ _ _ hp).elim)
theorem T.none' {main:Bool}{St:View→Goroutine→Prop}{H:View}{g:Goroutine}(hc:H X.C=Option.none)(h:T (Mw P main X.ok) (fun H' g'=> H' X.C=Option.none→T (Mw P main X.ok) St H' g') H g):T (Mw P main X.ok) St H g:=
 (T.none (M:=Mw P main X.ok) (C:=X.C) (fun _ (h:X.ok _)=> h.1) (fun _ _ _ h=> h) h hc).bind fun _ _ ⟨h1,h2⟩=> h2 h1
theorem Sc.none {main:Bool}{St:View→Goroutine→Prop}{H:View}{n:Nat}{b:FB}{cs:List Frame}{R:Rg}{ds:List Deferred}{kk:List Item}(hc:H X.C=Option.none)
   (h:Sc (T (Mw P main X.ok) (fun H' g'=> H' X.C=Option.none→T (Mw P main X.ok) St H' g') H) n b cs R ds kk):Sc (T (Mw P main X.ok) St H) n b cs R ds kk:=fun tmps hr=> T.none' hc (h tmps hr)
theorem Sc.stopNone {main:Bool}{St:View→Goroutine→Prop}{H:View}{n:Nat}{b:FB}{cs:List Frame}{R:Rg}{ds:List Deferred}{kk:List Item}
   (h:H X.C=Option.none→Sc (T (Mw P main X.ok) St H) n b cs R ds kk):Sc (T (Mw P main X.ok) (fun H' g'=> H' X.C=Option.none→T (Mw P main X.ok) St H' g') H) n b cs R ds kk:=fun tmps hr=> .stop fun hc=> h hc tmps hr
theorem Sc.mono {J J':Goroutine→Prop}{n:Nat}{b:FB}{cs:List Frame}{R:Rg}{ds:List Deferred}{kk:List Item}(h:Sc J n b cs R ds kk)(hj:∀g,J g→J' g):Sc J' n b cs R ds kk:=fun tmps hr=> hj _ (h tmps hr)
end
end Go.RL
end
section
namespace Go.Proofs.YtdnfdeplcjaonaaGreatDoor
open Go.RL Go.Conc Go.ConcN Go.RL.Au
open Go.ConcR (stA smA)
set_option maxRecDepth 10000
set_option maxHeartbeats 4000000
def leftL(k:Bk)(D:Nat→Bool):List Value:=(List.range k.nt).map fun i=> .int .i64 (if D i then((k.left i:Nat):Int) else 0)
def GIl(k:Bk)(D:Nat→Bool)(o:Obj):Prop:=o=.cells ⟨leftL k D⟩ 3 (0,0)
theorem leftL_len(k:Bk)(D:Nat→Bool):(leftL k D).length=k.nt:=by simp[leftL]
theorem leftL_set(k:Bk)(D:Nat→Bool)(κ:Nat):(leftL k D).set κ (.int .i64 ((k.left κ:Nat):Int))=leftL k (also D κ):=by
 apply List.ext_getElem?
 intro i
 unfold leftL also
 rw[List.getElem?_set]
 by_cases e:κ=i
 · subst e
   rw[if_pos rfl]
   by_cases h:κ<k.nt
   · rw[if_pos (by simpa using h),List.getElem?_map,List.getElem?_range h]
     simp
   · rw[if_neg (by simpa using h),List.getElem?_eq_none (by simp;omega)]
 · rw[if_neg e,List.getElem?_map,List.getElem?_map]
   by_cases h:i<k.nt
   · rw[List.getElem?_range h]
     have h2:¬i=κ:=fun h=> e h.symm
     simp[h2]
   · rw[List.getElem?_eq_none (by simp;omega)]
     rfl
structure WkAt(X:Fk)(k:Bk)(H:View)(κ b5 b8 b6:Nat)(A:Option Addr)(lc:Nat)(B:Option Addr)(tc:Nat)(F:Nat→Option Addr)(fc:Nat→Nat):Prop where
 bk:BookAt H k A lc B tc F fc
 nl:k.nl≤1000
 nf:∀i,i<k.nl→k.nf i≤1000
 ok:k.trainsOk
 nt:k.nt≤6
 gap:0≤k.gap∧k.gap≤99
 give:0≤k.give∧k.give≤99
 h5:∃f,H b5=some (f,.cells ⟨(k.val A lc B tc).cells.toList⟩ 113 (0,0))
 h8:∃f,H b8=some (f,.cells ⟨[.int .i64 (κ:Nat)]⟩ 3 (0,0))
 h6:∃f,H b6=some (f,.cells ⟨[.slice (some ⟨X.C,0,none⟩) k.nt k.nt]⟩ 26 (0,0))
 kn:κ<k.nt
 GI:X.GI=GIl k
def wkVs(X:Fk)(b5 b8 b6:Nat):List Value:= [.pointer (some ⟨X.Wg,0,none⟩),.pointer (some ⟨b5,0,none⟩),.pointer (some ⟨b8,0,none⟩),.pointer (some ⟨b6,0,none⟩)]
section
variable {X:Fk}{bk:Bk}{H:View}{κ b5 b8 b6:Nat}{A:Option Addr}{lc:Nat}{B:Option Addr}{tc:Nat}{F:Nat→Option Addr}{fc:Nat→Nat}
theorem worker_c(w:WkAt X bk H κ b5 b8 b6 A lc B tc F fc)(k:Nat):
   Jw Tryz.prog X κ k .pw H (Go.Conc.born Tryz.prog { target:=.fn (.func 104) (wkVs X b5 b8 b6).toArray,args:=#[] }):=by
 obtain⟨hbk,hnl,hnf,hok,hnt,hgap,hgive,⟨f5,h5⟩,⟨f8,h8⟩,⟨f6,h6⟩,hκ,hGI⟩:=w
 refine Cl.born (vs:=wkVs X b5 b8 b6) Jw.cl0 Tryz.func104 (by kernel_rfl) rfl Tryz.ntmps104 (Nat.le_of_ble_eq_true rfl) (by simp) ?_
 unfold wkVs
 refine .sq (.rg rfl rfl ?_)
 refine So.defer Jw.cl0 (f:=105) (vs:= [.pointer (some ⟨X.Wg,0,none⟩)]) rfl nofun rfl rfl ⟨_,rfl⟩ rfl ?_
 refine .dn ?_
 refine Sc.mono ?_ (fun g hg=> Jw.ofT rfl hg)
 refine Sc.ofTc (SymSt.nil H) ?_
 refine Tc.dl 6 mixed rfl ?_
 refine Tl.tk 0 (by kernel_rfl) (by kernel_rfl) rfl rfl (by decide) rfl rfl (OpV.take (OpV.load₀ (E:=en) rfl rfl h6 rfl rfl)) ?_
 refine Tl.tk 1 (by kernel_rfl) (by kernel_rfl) rfl rfl (by decide) rfl rfl (OpV.take (OpV.load₀ (E:=en) rfl rfl h8 rfl rfl)) ?_
 refine Tl.tk 2 (by kernel_rfl) (by kernel_rfl) rfl rfl (by decide) rfl rfl (OpV.take (OpV.load₀ (E:=en) rfl rfl h5 rfl rfl)) ?_
 refine Tl.tk 3 (by kernel_rfl) (by kernel_rfl) rfl rfl (by decide) rfl rfl (OpV.take (OpV.load₀ (E:=en) rfl rfl h8 rfl rfl)) ?_
 refine Tl.tk 4 (by kernel_rfl) (by kernel_rfl) rfl rfl (by decide) rfl rfl (OpV.takeCall rfl rfl rfl rfl (fun H hs=> .f ca106 rfl (left_c _ H bk A lc B tc F fc (hbk.le hs.base) hnl hnf hok hnt hgap hgive κ hκ))) ?_
 refine Tl.tk 5 (by kernel_rfl) (by kernel_rfl) rfl rfl (by decide) rfl rfl (OpV.take .ia) ?_
 refine Tl.done (by kernel_rfl) rfl ?_
 refine To.ofSo (fun H1 hs=> ?_)
 refine So.mono ?_ (fun g hg=> Jw.toT rfl hg)
 have eoff:0+((κ:Nat):Int).toNat*1=κ:=by rw[Int.toNat_natCast];omega
 refine So.own (z:=((bk.left κ:Nat):Int)) (ik:=.i64) rfl rfl rfl ?_ rfl (by kernel_rfl) ?_ ?_
 · show some (Value.pointer (some ⟨X.C,0+((κ:Nat):Int).toNat*1,none⟩))=_
   rw[eoff]
 · intro D o _ hGo
   rw[hGI] at hGo ⊢
   have hGo':o=.cells ⟨leftL bk D⟩ 3 (0,0):=hGo
   subst hGo'
   refine⟨⟨leftL bk D⟩,3,rfl,by simp only[List.size_toArray,leftL_len];exact hκ,?_⟩
   show Obj.cells _ 3 (0,0)=.cells ⟨leftL bk (also D κ)⟩ 3 (0,0)
   rw[←leftL_set]
   simp
 · exact fun k' _=> So.done Jw.cl0 (Sc.over Jw.cl0 rfl (done_d rfl (Sb.leaveD Jq.cl Tryz.func104 rfl Tryz.results104 (.inr rfl) Jq.bot)))
end
end Go.Proofs.YtdnfdeplcjaonaaGreatDoor
end
section
namespace Go.Proofs.YtdnfdeplcjaonaaGreatDoor
open Go.RL Go.Conc Go.ConcN Go.RL.Au
open Go.ConcR (stA smA)
set_option maxRecDepth 10000
set_option maxHeartbeats 16000000
theorem ro_some {H:View}{b:Nat}{f:Bool}{o:Obj}(h:H b=some (f,o)):ro H b=some (false,o):=by simp[ro,h]
theorem ro_none {H:View}{b:Nat}(h:H b=none):ro H b=none:=by simp[ro,h]
def Keeps(H H':View):Prop:=∀b f o,H b=some (f,o)→∃f',H' b=some (f',o)
theorem src_of {H H':View}{sz m:Nat}{y:Value}{l:List Value}(h:SrcAt H sz y m l)(k:Keeps H H'):SrcAt H' sz y m l:=by
 obtain⟨h1,h2,h3⟩:=h
 refine⟨h1,h2,h3.imp id ?_⟩
 rintro⟨b,off,c,f,cs,e,fz,h4,h5,h6,h7⟩
 obtain⟨f',h5'⟩:=k _ _ _ h5
 exact⟨b,off,c,f',cs,e,fz,h4,h5',h6,h7⟩
theorem BookAt.of {H H':View}{k:Bk}{A:Option Addr}{lc:Nat}{B:Option Addr}{tc:Nat}{F:Nat→Option Addr}{fc:Nat→Nat}(h:BookAt H k A lc B tc F fc)(hk:Keeps H H'):BookAt H' k A lc B tc F fc:=
 ⟨h.hlc,h.htc,src_of h.rows hk,src_of h.trains hk,h.hfc,fun i hi=> src_of (h.free i hi) hk⟩
structure StAt(X:Fk)(k:Bk)(H:View)(b5 b6:Nat)(A:Option Addr)(lc:Nat)(B:Option Addr)(tc:Nat)(F:Nat→Option Addr)(fc:Nat→Nat):Prop where
 bk:BookAt H k A lc B tc F fc
 sm:k.small
 al:k.alarm=0
 n:X.n=k.nt
 h5:∃f,H b5=some (f,.cells ⟨(k.val A lc B tc).cells.toList⟩ 113 (0,0))
 h6:∃f,H b6=some (f,.cells ⟨[.slice (some ⟨X.C,0,none⟩) k.nt k.nt]⟩ 26 (0,0))
 C0:H X.C=none
 GI:X.GI=GIl k
theorem StAt.of {X:Fk}{k:Bk}{H H':View}{b5 b6:Nat}{A:Option Addr}{lc:Nat}{B:Option Addr}{tc:Nat}{F:Nat→Option Addr}{fc:Nat→Nat}(h:StAt X k H b5 b6 A lc B tc F fc)(hk:Keeps H H')(h0:H' X.C=none):StAt X k H' b5 b6 A lc B tc F fc:=
 ⟨h.bk.of hk,h.sm,h.al,h.n,let ⟨_,g⟩:=h.h5;hk _ _ _ g,let ⟨_,g⟩:=h.h6;hk _ _ _ g,h0,h.GI⟩
abbrev b33:FB:=⟨33,.normal,none⟩
noncomputable def L33:Code:=cR (cL (cR (cR (cR (cR (cR (bodyOf Tryz.f33)))))))
noncomputable def B33:Code:=cB (cB L33)
noncomputable def T33:Code:=cR (cR (cR (cR (cR (cR (bodyOf Tryz.f33))))))
section
variable {X:Fk}{k:Bk}{b1 b5 b6:Nat}{A:Option Addr}{lc:Nat}{B:Option Addr}{tc:Nat}{F:Nat→Option Addr}{fc:Nat→Nat}{Fin:Goroutine→Prop}{cs:List Frame}
def rgS(X:Fk)(k:Bk)(b1 b5 b6 j:Nat):Rg:= [(1,.pointer (some ⟨b1,0,none⟩)),(5,.pointer (some ⟨b5,0,none⟩)),(6,.pointer (some ⟨b6,0,none⟩)),(7,.pointer (some ⟨X.Wg,0,none⟩)),(24,.int .i64 (k.nt:Nat)),(25,.int .i64 (j:Nat))]
theorem start_loop(hfin:∀(R:Rg),AllIn (rgS X k b1 b5 b6 k.nt) R→∀κ (H:View),Sc (Jm Tryz.prog X Fin κ .wd k.nt H) 50 b33 cs R [] [.code T33]):∀(d j κ:Nat) (H:View),j+d=k.nt→StAt X k H b5 b6 A lc B tc F fc→∀(R:Rg),AllIn (rgS X k b1 b5 b6 j) R→
   Sc (Jm Tryz.prog X Fin κ (if j<X.n then .kd else .wd) j H) 50 b33 cs R [] [.code B33,.inLoop B33,.inBlock 0,.code T33]
 | 0,j,κ,H,hj,hst,R,hR=> by
   have e:j=k.nt:=by omega
   subst e
   rw[if_neg (by rw[hst.n];omega)]
   refine Sc.drop hR ?_
   unfold rgS
   refine .sq (.rg rfl rfl ?_)
   refine .i ?_ (z:=lss_f (by omega))
   refine .dn ?_
   refine Sc.seq Jm.cl (Sc.cond Jm.cl (t:=false) rfl (fun h=> nomatch h) (fun _=> ?_))
   refine .xt rfl ?_
   exact hfin _ ⟨rfl,rfl,rfl,rfl,rfl,rfl,trivial⟩ κ H
 | d + 1,j,κ,H,hj,hst,R,hR=> by
   rw[if_pos (by rw[hst.n];omega)]
   refine Sc.drop hR ?_
   unfold rgS
   obtain⟨hg,hnl,hnt,hok⟩:=Bk.valid hst.al
   refine .sq (.rg rfl rfl ?_)
   refine .i ?_ (z:=lss_t (by omega))
   refine .dn ?_
   refine Sc.seq Jm.cl (Sc.cond Jm.cl (t:=true) rfl (fun _=> ?_) (fun h=> nomatch h))
   refine .sp (.sq (.bl (.sq ?_)))
   refine Sc.none hst.C0 ?_
   refine Sc.ofTc (SymSt.nil H) ?_
   refine .r ?_
   refine .m ?_
   refine .e (.al (zz:=fun b8=> ?_))
   refine .e (.st 0 (zz:=?_))
   refine .done ?_
   refine Tc.ofSc (fun H1 hs=> Sc.stopNone (fun hC1=> ?_))
   have hst1:StAt X k H1 b5 b6 A lc B tc F fc:=hst.of (fun b f o h=> ⟨f,hs.base _ _ h⟩) hC1
   have h8:=hs.get (i:=0) rfl
   show Sc (Jm Tryz.prog X Fin κ .kd j H1) 50 b33 cs _ [] _
   refine .sq (.rg rfl rfl ?_)
   refine So.callD rfl rfl rfl nofun rfl (.mk' rfl) rfl (addone_c) ?_
   rintro v J' ⟨rfl,κ',rfl⟩
   refine .dn (.rg rfl rfl ?_)
   refine So.opD Jm.cl rfl rfl rfl rfl (OpP.makeFunc rfl rfl rfl) ?_
   have hst2:StAt X k (ro H1) b5 b6 A lc B tc F fc:=hst1.of (fun b f o h=> ⟨false,ro_some h⟩) (ro_none hC1)
   refine Jm.go (f:=104) (fn:=#[]) (caps:=(wkVs X b5 b8 b6).toArray) rfl nofun rfl rfl rfl rfl rfl rfl rfl (fun k1 _=> ?_) (fun k1 _=> ?_)
   · refine .dn (.ib (.rg rfl rfl ?_))
     refine .i ?_ (z:=add_in (by omega) (by omega))
     refine .m ?_
     refine .dn ?_
     refine Sc.inLoop (by exact Jm.cl) ?_
     exact start_loop hfin d (j+1) k1 (ro H1) (by omega) hst2 _ ⟨rfl,rfl,rfl,rfl,rfl,rfl,trivial⟩
   · exact worker_c ⟨hst2.bk,hst.sm.nl,fun i hi=> (hst.sm.num i hi).2,hok,hnt,by omega,by omega,hst2.h5,⟨false,ro_some h8⟩,hst2.h6,by omega,hst.GI⟩ k1
end
theorem Ph.of₁ {P:Program}{H:View}{g:Goroutine}{Po:View→Goroutine→Prop}(h:Ph₁ P H g Po):Ph P H g Po:=
 ⟨H,fun _=> none,Po,fun _ _ h=> (nomatch h),(by funext b;unfold View.plus;cases H b <;> rfl),h,fun H' g' _ hp=> by
   have e:H'.plus (fun _=> none)=H':=by funext b;unfold View.plus;cases H' b <;> rfl
   rwa [e]⟩
def View.beside(X:Fk)(H:View):View:=(H.without X.C).without X.Wg
theorem beside_none {X:Fk}{H:View}:View.beside X H X.Wg=none∧View.beside X H X.C=none:=by
 refine⟨?_,?_⟩ <;> unfold View.beside View.without <;> simp
theorem beside_some {X:Fk}{H:View}{b:Nat}(h1:b≠X.C)(h3:b≠X.Wg):View.beside X H b=H b:=by
 unfold View.beside
 rw[without_other h3,without_other h1]
theorem Ph.begin {P:Program}{H:View}{g:Goroutine}{Po:View→Goroutine→Prop}(X:Fk)(Fin:Goroutine→Prop)(o:Obj)(hn:X.n≤6)(ne:X.Wg≠X.C)
   (hC:H X.C=some (true,o)) (hWg:H X.Wg=some (true,X.wgO ⟨0,0,0⟩)) (hGI:X.GI (fun _=> false) o)
   (hg:∀k,T (Mw P true X.ok) (MS P X Fin k (if 0<X.n then .kd else .wd) 0) (ro (View.beside X H)) g) (hPo:∀o' g',X.GI (fun i=> decide (i<X.n)) o'→Fin g'→Po ((View.beside X H).put X.C (true,o')) g'):Ph P H g Po:=by
 refine Ph.of₁ ⟨X,Fin,View.beside X H,o,hn,ne,beside_none,?_,hGI,hg,hPo⟩
 funext b
 by_cases e1:b=X.Wg
 · subst e1;rw[View.put_same,hWg]
 · rw[View.put_other _ _ e1]
   by_cases e3:b=X.C
   · subst e3;rw[View.put_same,hC]
   · rw[View.put_other _ _ e3,beside_some e3 e1]
theorem So.all {J:Obj→Goroutine→Prop}{p:Obj→Prop}{n:Nat}{b:FB}{cs:List Frame}{dl:List (Option Tmp)}{R:Rg}{ds:List Deferred}{l:List Oper}{kk:List Item}(h:∀o,p o→So (J o) n b cs dl R ds l kk):So (fun g=> ∀o,p o→J o g) n b cs dl R ds l kk:=
 fun arr ix ha hx tmps hr o ho=> h o ho arr ix ha hx tmps hr
def Bk.lookTo(k:Bk):Nat→Int×Int
 | 0=> (-1,(k.resL.length:Nat))
 | j+1=> if((k.left j:Nat):Int)<(k.lookTo j).2 then((j:Nat),((k.left j:Nat):Int)) else k.lookTo j
def Bk.look(k:Bk):Int×Int:=k.lookTo k.nt
def lookV(p:Int×Int):Value:=.tuple ⟨[.int .i64 p.1,.int .i64 p.2,.int .i64 0]⟩
section
theorem Look_c(H:View)(k:Bk)(A:Option Addr)(lc:Nat)(B:Option Addr)(tc:Nat)(F:Nat→Option Addr)(fc:Nat→Nat)(hB:BookAt H k A lc B tc F fc)(hn:k.small)(hG:Glob H)(ha:k.alarm=0):
   CallT (Mp Tryz.prog) 33 #[k.val A lc B tc] H (fun v H'=> H.le H'∧v=lookV k.look):=by
 obtain⟨hgg,hnl,hnt,hok⟩:=Bk.valid ha
 have hop:=fun(H':View) (h':H.le H')=> open_yes (Mp Tryz.prog) H' k A lc B tc (hB.bk.le h') hn (glob_le hG h') ha
 refine CallT.enter (vs:= [k.val A lc B tc]) Tryz.func33 rfl Tryz.ntmps33 (Nat.le_of_ble_eq_true rfl) (SymSt.nil _) fun St c cs hK=> ?_
 refine .sr ?_
 refine .e (.bx (zz:=fun b1=> ?_))
 refine .g ?_
 refine .g ?_
 refine .g ?_
 refine .done (.sr ?_)
 refine .x (.ld 0) ?_
 refine .c rfl rfl rfl rfl (fun H hs=> .f ca81 rfl (hop H hs.base)) ?_
 refine .m ?_
 refine .x .et ?_
 refine .x .et ?_
 refine .e (.al (zz:=fun b5=> ?_))
 refine .e (.st 0 (zz:=?_))
 refine .g ?_
 refine .done (.seq (.sr ?_))
 refine .m ?_
 refine .i ?_ (z:=neq_f (by omega))
 refine .done (.ff rfl (.skip (.sr ?_)))
 refine .x .fa ?_
 refine .x (.ld 1) ?_
 refine .x .ln ?_
 refine .e (Or.makeSlice (E:=en) (len:=k.nt) (cap:=k.nt) rfl rfl rfl rfl rfl rfl (Nat.le_refl _) (by omega) rfl rfl (by decide) (fun bC=> ?_))
 refine .e (.al (zz:=fun b6=> ?_))
 refine .e (.st 0 (zz:=?_))
 refine .done (.sr ?_)
 refine .e (.al (zz:=fun b7=> ?_))
 refine .done (.seq (.sr ?_))
 refine .x (.ld 1) ?_
 refine .x .ln ?_
 refine .m ?_
 refine .done ?_
 refine Tc.ofSc (fun Hx hs tmps hr=> ?_)
 obtain⟨X,hX⟩:∃X:Fk,X=⟨k.nt,b7,bC,156,GIl k⟩:=⟨_,rfl⟩
 have x1:=hs.get (i:=0) rfl
 have x2:=hs.get (i:=1) rfl
 have x3:=hs.get (i:=2) rfl
 have x4:=hs.get (i:=3) rfl
 have x5:=hs.get (i:=4) rfl
 have hnd: [b7,b6,bC,b5,b1].Nodup:=hs.nodup
 simp only[List.nodup_cons,List.mem_cons,List.not_mem_nil,or_false,not_or,not_false_eq_true,List.nodup_nil,and_true] at hnd
 obtain⟨⟨n1,n2,n3,n4⟩,⟨n5,n6,n7⟩,⟨n8,n9⟩,n10⟩:=hnd
 have hout:∀y,y=bC∨y=b7→H y=none:=by
   rintro y (rfl|rfl)
   · exact hs.out _ (List.mem_cons_of_mem _ (List.mem_cons_of_mem _ List.mem_cons_self))
   · exact hs.out _ List.mem_cons_self
 have hle:H.le (View.beside X Hx):=fun b y hb=> by
   have e:∀z,z=bC∨z=b7→b≠z:=fun z hz e=> by subst e;rw[hout b hz] at hb;cases hb
   rw[beside_some (by subst hX;exact e _ (.inl rfl)) (by subst hX;exact e _ (.inr rfl))]
   exact hs.base _ _ hb
 have y5:View.beside X Hx b5=some (true,.cells ⟨(k.val A lc B tc).cells.toList⟩ 113 (0,0)):=by
   subst hX;rw[beside_some (by exact Ne.symm n8) (by exact Ne.symm n3)];exact x4
 have y6:View.beside X Hx b6=some (true,.cells ⟨[.slice (some ⟨bC,0,none⟩) k.nt k.nt]⟩ 26 (0,0)):=by
   subst hX;rw[beside_some n5 (by exact Ne.symm n1)];exact x2
 obtain⟨Fin,hF⟩:∃Fin:Goroutine→Prop,Fin=fun g=> ∀o',X.GI (fun i=> decide (i<X.n)) o'→T (Mp Tryz.prog) St ((View.beside X Hx).put X.C (true,o')) g:=⟨_,rfl⟩
 have hcF:Cl Tryz.prog true noSh Fin:=⟨fun g g' hs h hf=> by
   subst hF
   exact fun o' ho=> .step ⟨hs,fun w hw hok=> ⟨g',w,#[],_,h w (fun _ _ e=> by cases e),.refl hw,hf o' ho⟩⟩⟩
 have hz:zeroRow [Value.int .i64 0] (k.nt*1)=leftL k (fun _=> false):=by
   rw[zeroRow_one,Nat.mul_one]
   unfold leftL
   simp[List.map_const']
 refine T.phase (Po:=fun H' g'=> T (Mp Tryz.prog) St H' g') (Ph.begin X Fin (.cells ⟨leftL k (fun _=> false)⟩ 3 (0,0)) (by subst hX;exact hnt) (by subst hX;exact n2) (by subst hX;rw[←hz];exact x3) (by subst hX;exact x1) (by subst hX;exact rfl) (fun κ=> ?_) (fun o' g' ho hg=> by subst hF;exact hg o' ho)) (fun H' g' h=> h)
 have hst:StAt X k (ro (View.beside X Hx)) b5 b6 A lc B tc F fc:=
   ⟨hB.of (fun b f o h=> ⟨false,ro_some (hle _ _ h)⟩),hn,ha,by subst hX;rfl,⟨false,ro_some y5⟩,by subst hX;exact⟨false,ro_some y6⟩,ro_none beside_none.2,by subst hX;rfl⟩
 have hfin:∀(R:Rg),AllIn (rgS X k b1 b5 b6 k.nt) R→∀κ (H:View),Sc (Jm Tryz.prog X Fin κ .wd k.nt H) 50 b33 (c::cs) R [] [.code T33]:=by
   intro R hR κ Hk
   refine Sc.drop hR ?_
   unfold rgS
   refine .sq (.rg rfl rfl ?_)
   refine So.callD rfl rfl rfl nofun rfl (.mk' rfl) rfl (wait_c hcF) ?_
   rintro v J' ⟨rfl,rfl⟩
   subst hF
   refine So.all (fun o' ho'=> ?_)
   have hGI:X.GI=GIl k:=by subst hX;rfl
   rw[hGI] at ho'
   have ho2:o'=.cells ⟨leftL k (fun i=> decide (i<X.n))⟩ 3 (0,0):=ho'
   subst ho2
   have hX2:X.n=k.nt:=by subst hX;rfl
   have z5:(View.beside X Hx).put X.C (true,.cells ⟨leftL k (fun i=> decide (i<X.n))⟩ 3 (0,0)) b5=some (true,.cells ⟨(k.val A lc B tc).cells.toList⟩ 113 (0,0)):=by
     rw[View.put_other _ _ (by subst hX;exact Ne.symm n8)];exact y5
   have z6:(View.beside X Hx).put X.C (true,.cells ⟨leftL k (fun i=> decide (i<X.n))⟩ 3 (0,0)) b6=some (true,.cells ⟨[.slice (some ⟨X.C,0,none⟩) k.nt k.nt]⟩ 26 (0,0)):=by
     rw[View.put_other _ _ (by subst hX;exact n5)];subst hX;exact y6
   have zC:(View.beside X Hx).put X.C (true,.cells ⟨leftL k (fun i=> decide (i<X.n))⟩ 3 (0,0)) X.C=some (true,.cells ⟨leftL k (fun i=> decide (i<X.n))⟩ 3 (0,0)):=View.put_same ..
   have zle:H.le ((View.beside X Hx).put X.C (true,.cells ⟨leftL k (fun i=> decide (i<X.n))⟩ 3 (0,0))):=fun b y hb=> by
     rw[View.put_other _ _ (by rintro rfl;subst hX;rw[hout bC (.inl rfl)] at hb;cases hb)]
     exact hle _ _ hb
   generalize (View.beside X Hx).put X.C (true,.cells ⟨leftL k (fun i=> decide (i<X.n))⟩ 3 (0,0))=H2 at z5 z6 zC zle
   refine So.ofTo (SymSt.nil H2) ?_
   refine .done (.sr ?_)
   refine .x .l0 ?_
   refine To.callF rfl rfl rfl rfl rfl rfl (by decide) (FnT.f ca94 rfl (results_c _ H2 k A lc B tc (hB.bk.le zle).rows hn.nl (hB.bk.le zle).trains hok hnt)) (fun v H₃ hv=> ?_)
   obtain⟨hle3,m,es,cl,rfl,⟨fm,q3⟩,q4⟩:=hv
   have hsz:=Bk.res_size q4
   have z6':=hle3 _ _ z6
   have zC':=hle3 _ _ zC
   refine .x (OpV.lenMap (E:=en) (es:=es) rfl rfl rfl rfl rfl (fun H hs=> ⟨fm,hs.base _ _ q3⟩) rfl rfl) ?_
   refine .g ?_
   refine .g ?_
   refine .done ?_
   rw[hsz]
   refine .seq (.sr ?_)
   refine .x .l0 ?_
   refine .x .ln ?_
   refine .m ?_
   refine .done (.block ?_)
   refine Tc.db (Tc.loopInv (σ:= { j:Nat//j≤k.nt }) (fun j=> ([(2,.int .i64 (k.lookTo j.1).1),(3,.int .i64 (k.lookTo j.1).2),(35,.slice (some ⟨X.C,0,none⟩) k.nt k.nt),(36,.int .i64 (k.nt:Nat)),(37,.int .i64 (j.1:Nat))],[])) (fun j=> k.nt-j.1) ?_ ⟨0,Nat.zero_le _⟩)
   rintro⟨j,hj⟩ ih
   show Tc (Mp Tryz.prog) St _ _ _ _ [(2,.int .i64 (k.lookTo j).1),(3,.int .i64 (k.lookTo j).2),(35,.slice (some ⟨X.C,0,none⟩) k.nt k.nt),(36,.int .i64 (k.nt:Nat)),(37,.int .i64 (j:Nat))] [] _ _
   by_cases c1:j=k.nt
   · subst c1
     refine .sr ?_
     refine .i ?_ (z:=lss_f (by omega))
     refine .done (.seq (.ff rfl (.exit rfl (.sr ?_))))
     refine .m ?_
     refine .m ?_
     refine .g ?_
     refine .g ?_
     refine .g ?_
     refine .done ?_
     refine .rt hK Tryz.func33 Tryz.results33 [_,_,_] ?_
     exact fun H' hs=> ⟨View.le_trans zle (View.le_trans hle3 hs.base),rfl⟩
   · have c2:j<k.nt:=by omega
     have f1:ldL false 1 (leftL k (fun i=> decide (i<X.n))) (0+((j:Nat):Int).toNat*1)=some (.int .i64 ((k.left j:Nat):Int)):=by
       show _[_]? =_
       rw[Nat.zero_add,Int.toNat_natCast,Nat.mul_one]
       unfold leftL
       rw[List.getElem?_map,List.getElem?_range c2]
       simp[hX2,c2]
     by_cases c3:((k.left j:Nat):Int)<(k.lookTo j).2
     · have e:k.lookTo (j+1)=(((j:Nat):Int),((k.left j:Nat):Int)):=by rw[Bk.lookTo,if_pos c3]
       refine .sr ?_
       refine .i ?_ (z:=lss_t (by omega))
       refine .done (.seq (.tt rfl (.skip (.seq (.block (.sr ?_))))))
       refine .m ?_
       refine .x .ia ?_
       refine .x .l0 ?_
       refine .g ?_
       refine .g ?_
       refine .done (.sr ?_)
       refine .m ?_
       refine .m ?_
       refine .i ?_ (z:=lss_t (by omega))
       refine .done (.tt rfl (.r ?_))
       refine .m ?_
       refine .m ?_
       refine .g ?_
       refine .g ?_
       refine .done (.inBlock (.r ?_))
       refine .i ?_ (z:=add_in (by omega) (by omega))
       refine .m ?_
       refine .done ?_
       refine Tc.dropB (ih ⟨j+1,c2⟩ (by simp only;omega)) ?_ (by exact List.Sublist.refl _)
       simp only[e]
       exact⟨rfl,rfl,rfl,rfl,rfl,trivial⟩
     · have e:k.lookTo (j+1)=k.lookTo j:=by rw[Bk.lookTo,if_neg c3]
       refine .sr ?_
       refine .i ?_ (z:=lss_t (by omega))
       refine .done (.seq (.tt rfl (.skip (.seq (.block (.sr ?_))))))
       refine .m ?_
       refine .x .ia ?_
       refine .x .l0 ?_
       refine .g ?_
       refine .g ?_
       refine .done (.sr ?_)
       refine .m ?_
       refine .m ?_
       refine .i ?_ (z:=lss_f (by omega))
       refine .done (.ff rfl (.skip (.inBlock (.r ?_))))
       refine .i ?_ (z:=add_in (by omega) (by omega))
       refine .m ?_
       refine .done ?_
       refine Tc.dropB (ih ⟨j+1,c2⟩ (by simp only;omega)) ?_ (by exact List.Sublist.refl _)
       simp only[e]
       exact⟨rfl,rfl,rfl,rfl,rfl,trivial⟩
 refine Sc.block Jm.cl (Sc.loop Jm.cl ?_) tmps hr
 have hgo:=start_loop hfin k.nt 0 κ (ro (View.beside X Hx)) (by omega) hst
 subst hX
 exact hgo _ (by unfold rgS;refine⟨rfl,?_⟩;refine⟨rfl,?_⟩;refine⟨rfl,?_⟩;refine⟨rfl,?_⟩;refine⟨rfl,?_⟩;refine⟨rfl,?_⟩;exact trivial)
end
end Go.Proofs.YtdnfdeplcjaonaaGreatDoor
end
section
namespace Go.Proofs.YtdnfdeplcjaonaaGreatDoor
open Go.RL
set_option maxRecDepth 100000
theorem ex_heardD:bkD.heardL= [[49,50],[49,51]]:=by decide +kernel
theorem ex_heardE:bkE.heardL= [[49,49,50],[50,50]]:=by decide +kernel
theorem ex_lenD:(bkD.earsL bkD.nt).length≤12:=by decide +kernel
theorem ex_lenE:(bkE.earsL bkE.nt).length≤12:=by decide +kernel
theorem ex_clD:(bkD.claimOf 0=0∧bkD.claimOf 1=0∧bkD.claimOf 2=2)∧bkD.claimOf (-1)=2:=by decide +kernel
theorem ex_clE:(bkE.claimOf 0=2∧bkE.claimOf 1=2∧bkE.claimOf 2=0)∧bkE.claimOf (-1)=0:=by decide +kernel
theorem ex_in1:(firstTo (fun i=> !bkE.inAt (exAt [1,1,2]) (exAt [3,9,9]) i) 3).isSome=false∧bkE.earTo (exAt [1,1,2]) (exAt [3,9,9]) 3=⟨[50,50],0,false⟩∧bkE.line [50,50]=some 2:=by decide +kernel
theorem ex_in2:(firstTo (fun i=> !bkE.inAt (exAt [1,1,2]) (exAt [5,9,9]) i) 3).isSome=false∧bkE.earTo (exAt [1,1,2]) (exAt [5,9,9]) 3=⟨[49,49,50],0,false⟩∧bkE.line [49,49,50]=none:=by decide +kernel
theorem ex_look:bkD.look=(1,1):=by decide +kernel
theorem ex_setD:bkD.settled=none:=by decide +kernel
theorem ex_know:trainOk 2 2 6 6=true∧bkD.nowOk 1 2 2 6 6=true:=by decide +kernel
theorem ex_setO:bkO.settled=some (2,0):=by decide +kernel
theorem ex_taken:(bkD.takenAt 1 0=2∧bkD.takenAt 1 1=0)∧bkD.needTo 1 2=2:=by decide +kernel
theorem ex_slips:ascI (bkD.hits 0)= [1,2]:=by decide +kernel
theorem ex_safe3:bkD.safeV [51]=.tuple ⟨[.bool false,.int .i64 0]⟩:=by
 have h:isNum [51]=true∧bkD.clash [51]=false∧bkD.safe [51]=false:=by decide +kernel
 unfold Bk.safeV
 rw[if_neg (by rw[bkD_al];decide),if_neg (by rw[h.1];decide),if_neg (by rw[h.2.1];decide),h.2.2]
theorem ex_safe5:bkD.safeV [53]=.tuple ⟨[.bool true,.int .i64 0]⟩:=by
 have h:isNum [53]=true∧bkD.clash [53]=false∧bkD.safe [53]=true:=by decide +kernel
 unfold Bk.safeV
 rw[if_neg (by rw[bkD_al];decide),if_neg (by rw[h.1];decide),if_neg (by rw[h.2.1];decide),h.2.2]
theorem ex_spare:bkD.spareV 1 true=spare3 [48] true 0:=by
 have h:bkD.spare 1 true=some [48]:=by decide +kernel
 unfold Bk.spareV
 rw[if_neg (by rw[bkD_al];decide),if_neg (by decide)]
 show(match bkD.spare 1 true with|some x=> spare3 x true 0|none=> spare3 [] false 0)=_
 rw[h]
theorem ex_pulses:pulsesV [49,50,48]=.tuple ⟨[.int .i64 13,.int .i64 0]⟩:=by
 have h:isNum [49,50,48]=true∧takenN [49,50,48]=13:=by decide +kernel
 unfold pulsesV
 rw[if_neg (by rw[h.1];decide),h.2]
 rfl
theorem ex_cheap:(canTo 2 2).length≤12∧(firstTo (fun j=> !weightOk (exAt [5,3,1] j)) 3).isSome=false∧(cheap (exAt [5,3,1]) 3 2 2).total=18∧(cheap (exAt [5,3,1]) 3 2 2).done=true∧(cheap (exAt [5,3,1]) 3 2 2).best= [[49],[50,49],[50,50]]:=by decide +kernel
theorem ex_follow1:bkE.followV 3 3 (exAt [1,1,2]) (exAt [3,9,9])=follow3 [50,50] 2 0:=by
 obtain⟨h1,h2,h3⟩:=ex_in1
 unfold Bk.followV
 rw[if_neg (by rw[bkE_al];decide),if_neg (by decide)]
 show(if(firstTo (fun i=> !bkE.inAt (exAt [1,1,2]) (exAt [3,9,9]) i) 3).isSome=true then _ else follow3 (bkE.earTo (exAt [1,1,2]) (exAt [3,9,9]) 3).heard (firstI (bkE.line (bkE.earTo (exAt [1,1,2]) (exAt [3,9,9]) 3).heard)) 0)=_
 rw[h1,h2]
 simp only[Bool.false_eq_true,if_false]
 rw[h3]
 rfl
theorem ex_follow2:bkE.followV 3 3 (exAt [1,1,2]) (exAt [5,9,9])=follow3 [49,49,50] (-1) 0:=by
 obtain⟨h1,h2,h3⟩:=ex_in2
 unfold Bk.followV
 rw[if_neg (by rw[bkE_al];decide),if_neg (by decide)]
 show(if(firstTo (fun i=> !bkE.inAt (exAt [1,1,2]) (exAt [5,9,9]) i) 3).isSome=true then _ else follow3 (bkE.earTo (exAt [1,1,2]) (exAt [5,9,9]) 3).heard (firstI (bkE.line (bkE.earTo (exAt [1,1,2]) (exAt [5,9,9]) 3).heard)) 0)=_
 rw[h1,h2]
 simp only[Bool.false_eq_true,if_false]
 rw[h3]
 rfl
end Go.Proofs.YtdnfdeplcjaonaaGreatDoor
end
