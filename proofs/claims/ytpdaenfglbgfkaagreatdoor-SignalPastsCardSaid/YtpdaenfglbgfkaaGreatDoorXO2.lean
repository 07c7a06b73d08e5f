/-
  The reference's Seen and Read; pasts of any kind.
-/
import Derived.Test.YtpdaenfglbgfkaaGreatDoorX08
import Derived.Test.YtpdaenfglbgfkaaGreatDoorXO1
namespace Go.Proofs.YtpdaenfglbgfkaaGreatDoor
open Go.RL
set_option maxRecDepth 10000
set_option maxHeartbeats 8000000
theorem timesFrom_seenL {ps:List Nat}{a n:Int}{mv:List Int}(h:mv.length=ps.length):timesFrom ps a n 0 mv=seenL ps mv a n:=by
 refine List.ext_getElem? fun i=> ?_
 by_cases hi:i<mv.length
 · rw[timesFrom_get hi,seenL_get (by omega),Nat.zero_add]
   rfl
 · rw[List.getElem?_eq_none (by rw[timesFrom_len];omega),List.getElem?_eq_none (by rw[seenL_len];omega)]
theorem Lk.Past.refRead {k:Lk}(hk:k.ok=true){co:Nat}(hc:co<32){a r n:Int}{mv:List Int}(h:k.Past co a r n mv):refRead r (seenL (placesTo co 7) mv a n)=readN (pastView co a r n mv):=by
 rw[←timesFrom_seenL h.len]
 have h0:=(places_in co hc).1
 have hl:=h.len
 have hr:=h.read
 have hk2:=(Lk.ok_in hk).2.1
 exact refRead_view (s:=(⟨co,placesTo co 7,a,r,n,mv.headD 0,0,0⟩:Stg)) (by show 0<r;omega) (l:=mv) (fun e=> by rw[e] at hl;simp only[List.length_nil] at hl;omega) (by cases mv <;> rfl)
theorem Lk.Past.seen_in {k:Lk}(hk:k.ok=true){co:Nat}(hc:co<32){a r n:Int}{mv:List Int}(h:k.Past co a r n mv):∀t∈seenL (placesTo co 7) mv a n, -100000≤t∧t≤100000:=fun t ht=> by
 obtain⟨hks,hkr,hkl,hkm⟩:=Lk.ok_in hk
 obtain⟨hp0,hp6,hpl⟩:=places_in co hc
 obtain⟨i,hi,rfl⟩:=List.mem_map.1 ht
 have hi:=List.mem_range.1 hi
 have hl:=h.len
 have h1:=h.send
 have h2:=h.lean
 have h3:=h.at_ (j:=i) (by omega)
 have h4:=hpl i hi
 have h5:=still_in (place:=(((placesTo co 7)[i]?.getD 0:Nat):Int)) (number:=(i:Nat)) (send:=a) (lean:=n) (by omega) (by omega) (by omega) (by omega) (by omega) (by omega)
 unfold seenAt
 omega
section
variable(M:Md Tryz.prog)(H:View)
theorem CheckPast_err(k:Lk)(code:Nat)(hk:k.ok=true)(hc:code<32)(a r n:Int)(mv:List Int)(e:Int)(h:PErr k code a r n mv e)(A:Option Addr)(m ca:Nat)(hm:m=mv.length)(hm6:m≤20)(hA:Nums H A mv):
   CallT M 76 #[k.val,.int .i64 code,pastA a r n A m ca] H (fun v H'=> H.le H'∧v=.int .i64 e):=by
 have hp6:=(places_in code hc).2.1
 obtain⟨co,hcc⟩:∃co:Int,((code:Nat):Int)=co:=⟨_,rfl⟩
 rw[hcc] at h
 refine CallT.enter (vs:= [k.val,.int .i64 code,pastA a r n A m ca]) Tryz.func76 rfl Tryz.ntmps76 (Nat.le_of_ble_eq_true rfl) (SymSt.nil _) fun St c cs hK=> ?_
 refine .sr ?_
 refine .e (.bx (zz:=fun b3=> ?_))
 refine .e (.bx (zz:=fun b5=> ?_))
 refine .g ?_
 refine .done (.seq (.seq ?_))
 cases h with
 | bad h=> exact(h.no ⟨hk,by omega,by omega⟩).elim
 | send _ _ h1=>
   refine .r ?_
   refine .x .fa ?_
   refine .x (.ld 1) ?_
   refine .x .fa ?_
   refine .x (.ld 0) ?_
   refine .c rfl rfl rfl rfl (fun H hs=> .f ca140 rfl (hasR_no M H k.s0 k.s1 a h1)) ?_
   refine .x .nt ?_
   refine .m ?_
   refine .sk ?_
   refine .sk ?_
   refine .sk ?_
   refine .sk ?_
   refine .sk ?_
   refine .sk ?_
   refine .x .pk ?_
   refine .m ?_
   refine .sk ?_
   refine .sk ?_
   refine .sk ?_
   refine .sk ?_
   refine .sk ?_
   refine .sk ?_
   refine .sk ?_
   refine .x .pk ?_
   refine .done (.tt rfl (.sr ?_))
   refine .g ?_
   refine .done ?_
   refine .rt hK Tryz.func76 Tryz.results76 [_] ?_
   exact fun H' hs=> ⟨hs.base,rfl⟩
 | read _ _ h1 h2=>
   refine .r ?_
   refine .x .fa ?_
   refine .x (.ld 1) ?_
   refine .x .fa ?_
   refine .x (.ld 0) ?_
   refine .c rfl rfl rfl rfl (fun H hs=> .f ca140 rfl (hasR_yes M H k.s0 k.s1 a h1)) ?_
   refine .x .nt ?_
   refine .m ?_
   refine .x .fa ?_
   refine .x (.ld 1) ?_
   refine .x .fa ?_
   refine .x (.ld 0) ?_
   refine .c rfl rfl rfl rfl (fun H hs=> .f ca140 rfl (hasR_no M H k.r0 k.r1 r h2)) ?_
   refine .x .nt ?_
   refine .x .pk ?_
   refine .m ?_
   refine .sk ?_
   refine .sk ?_
   refine .sk ?_
   refine .sk ?_
   refine .sk ?_
   refine .sk ?_
   refine .sk ?_
   refine .x .pk ?_
   refine .done (.tt rfl (.sr ?_))
   refine .g ?_
   refine .done ?_
   refine .rt hK Tryz.func76 Tryz.results76 [_] ?_
   exact fun H' hs=> ⟨hs.base,rfl⟩
 | lean _ _ h1 h2 h3=>
   refine .r ?_
   refine .x .fa ?_
   refine .x (.ld 1) ?_
   refine .x .fa ?_
   refine .x (.ld 0) ?_
   refine .c rfl rfl rfl rfl (fun H hs=> .f ca140 rfl (hasR_yes M H k.s0 k.s1 a h1)) ?_
   refine .x .nt ?_
   refine .m ?_
   refine .x .fa ?_
   refine .x (.ld 1) ?_
   refine .x .fa ?_
   refine .x (.ld 0) ?_
   refine .c rfl rfl rfl rfl (fun H hs=> .f ca140 rfl (hasR_yes M H k.r0 k.r1 r h2)) ?_
   refine .x .nt ?_
   refine .x .pk ?_
   refine .m ?_
   refine .x .fa ?_
   refine .x .fa ?_
   refine .x (.ld 1) ?_
   refine .x .fa ?_
   refine .x (.ld 0) ?_
   refine .c rfl rfl rfl rfl (fun H hs=> .f ca140 rfl (hasR_no M H k.l0 k.l1 n h3)) ?_
   refine .x .nt ?_
   refine .x .pk ?_
   refine .done (.tt rfl (.sr ?_))
   refine .g ?_
   refine .done ?_
   refine .rt hK Tryz.func76 Tryz.results76 [_] ?_
   exact fun H' hs=> ⟨hs.base,rfl⟩
 | @tally c' _ _ _ _ _ _ h1 h2 h3 h4=>
   obtain rfl:c'=code:=by omega
   refine .r ?_
   refine .x .fa ?_
   refine .x (.ld 1) ?_
   refine .x .fa ?_
   refine .x (.ld 0) ?_
   refine .c rfl rfl rfl rfl (fun H hs=> .f ca140 rfl (hasR_yes M H k.s0 k.s1 a h1)) ?_
   refine .x .nt ?_
   refine .m ?_
   refine .x .fa ?_
   refine .x (.ld 1) ?_
   refine .x .fa ?_
   refine .x (.ld 0) ?_
   refine .c rfl rfl rfl rfl (fun H hs=> .f ca140 rfl (hasR_yes M H k.r0 k.r1 r h2)) ?_
   refine .x .nt ?_
   refine .x .pk ?_
   refine .m ?_
   refine .x .fa ?_
   refine .x .fa ?_
   refine .x (.ld 1) ?_
   refine .x .fa ?_
   refine .x (.ld 0) ?_
   refine .c rfl rfl rfl rfl (fun H hs=> .f ca140 rfl (hasR_yes M H k.l0 k.l1 n h3)) ?_
   refine .x .nt ?_
   refine .x .pk ?_
   refine .done (.ff rfl (.skip (.seq (.seq ?_))))
   refine Tc.dr [] [] mixed rfl ?_
   refine .q 0 rfl .fa ?_
   refine .q 1 rfl (.ld 0) ?_
   refine .q 2 rfl .ln ?_
   refine .q 3 rfl .mv ?_
   refine Ta.each [4] (by kernel_rfl) rfl ⟨TaOp.mk rfl rfl rfl (Or.callNew Gl.val Gl.bl (fun g:Gl 3 1=> g.l=placesV (placesTo c' 7)∧g.n=(placesTo c' 7).length) rfl rfl rfl rfl rfl (by decide) gl_nodup (fun H hs=> .f ca52 rfl (EdgesOf_n M H c' hc)) (fun g2 ⟨hg2,hn2⟩=> ⟨S2.mk (by exact List.sublist_append_left _ _) (.inr (by exact List.sublist_append_left _ _)),?_⟩)),trivial⟩
   refine .q 5 rfl .ln ?_
   refine .q 6 rfl (.it (zz:=neq_t (by omega))) ?_
   refine Ta.done (by kernel_rfl) ?_
   refine .tt rfl (.sr ?_)
   refine .g ?_
   refine .done ?_
   refine .rt hK Tryz.func76 Tryz.results76 [_] ?_
   exact fun H' hs=> ⟨hs.base,rfl⟩
 | @move c' _ _ _ _ j _ _ h1 h2 h3 h4 h5 h6 h7=>
   obtain rfl:c'=code:=by omega
   refine .r ?_
   refine .x .fa ?_
   refine .x (.ld 1) ?_
   refine .x .fa ?_
   refine .x (.ld 0) ?_
   refine .c rfl rfl rfl rfl (fun H hs=> .f ca140 rfl (hasR_yes M H k.s0 k.s1 a h1)) ?_
   refine .x .nt ?_
   refine .m ?_
   refine .x .fa ?_
   refine .x (.ld 1) ?_
   refine .x .fa ?_
   refine .x (.ld 0) ?_
   refine .c rfl rfl rfl rfl (fun H hs=> .f ca140 rfl (hasR_yes M H k.r0 k.r1 r h2)) ?_
   refine .x .nt ?_
   refine .x .pk ?_
   refine .m ?_
   refine .x .fa ?_
   refine .x .fa ?_
   refine .x (.ld 1) ?_
   refine .x .fa ?_
   refine .x (.ld 0) ?_
   refine .c rfl rfl rfl rfl (fun H hs=> .f ca140 rfl (hasR_yes M H k.l0 k.l1 n h3)) ?_
   refine .x .nt ?_
   refine .x .pk ?_
   refine .done (.ff rfl (.skip (.seq (.seq ?_))))
   refine Tc.dr [] [] mixed rfl ?_
   refine .q 0 rfl .fa ?_
   refine .q 1 rfl (.ld 0) ?_
   refine .q 2 rfl .ln ?_
   refine .q 3 rfl .mv ?_
   refine Ta.each [4] (by kernel_rfl) rfl ⟨TaOp.mk rfl rfl rfl (Or.callNew Gl.val Gl.bl (fun g:Gl 3 1=> g.l=placesV (placesTo c' 7)∧g.n=(placesTo c' 7).length) rfl rfl rfl rfl rfl (by decide) gl_nodup (fun H hs=> .f ca52 rfl (EdgesOf_n M H c' hc)) (fun g2 ⟨hg2,hn2⟩=> ⟨S2.mk (by exact List.sublist_append_left _ _) (.inr (by exact List.sublist_append_left _ _)),?_⟩)),trivial⟩
   refine .q 5 rfl .ln ?_
   refine .q 6 rfl (.it (zz:=neq_f (by omega))) ?_
   refine Ta.done (by kernel_rfl) ?_
   refine .ff rfl (.skip (.seq (.sr ?_)))
   refine .g ?_
   refine .done ?_
   refine Tc.dropB (R':= [(3,.pointer (some ⟨b3,0,none⟩)),(5,.pointer (some ⟨b5,0,none⟩)),(7,.int .i64 0)]) (L':= [(b5,true,.cells ⟨[.int .i64 a,.int .i64 r,.int .i64 n,.slice A m ca]⟩ 39 (0,0)),(b3,true,.cells ⟨k.val.cells.toList⟩ 27 (0,0))]) ?_ ⟨rfl,rfl,rfl,trivial⟩ (List.sublist_append_left _ _)
   refine .block ?_
   refine Tc.db (Tc.loopInv (σ:= { i:Nat//i≤j }) (fun i=> ([(3,.pointer (some ⟨b3,0,none⟩)),(5,.pointer (some ⟨b5,0,none⟩)),(7,.int .i64 (i.1:Nat))],[(b5,true,.cells ⟨[.int .i64 a,.int .i64 r,.int .i64 n,.slice A m ca]⟩ 39 (0,0)),(b3,true,.cells ⟨k.val.cells.toList⟩ 27 (0,0))])) (fun i=> j-i.1) ?_ ⟨0,by omega⟩)
   rintro⟨i,hi⟩ ih
   show Tc M St _ _ _ _ [(3,.pointer (some ⟨b3,0,none⟩)),(5,.pointer (some ⟨b5,0,none⟩)),(7,.int .i64 (i:Nat))] [(b5,true,.cells ⟨[.int .i64 a,.int .i64 r,.int .i64 n,.slice A m ca]⟩ 39 (0,0)),(b3,true,.cells ⟨k.val.cells.toList⟩ 27 (0,0))] _ _
   rcases hA with hA|⟨a1,a2,a3,a4,a5,a6,rfl,a7,a8⟩
   · rw[hA] at h5;simp at h5
   have f1:=a8 i (by omega)
   by_cases c1:i=j
   · subst c1
     refine .seq (.sr ?_)
     refine .m ?_
     refine .x .fa ?_
     refine .x (.ld 0) ?_
     refine .x .ln ?_
     refine .i ?_ (z:=lss_t (by omega))
     refine .done (.tt rfl (.skip (.seq (.block (.seq ?_)))))
     refine Tc.dr [] [] mixed rfl ?_
     refine .q 0 rfl .fa ?_
     refine .q 1 rfl .fa ?_
     refine .q 2 rfl (.ld 1) ?_
     refine .q 3 rfl .fa ?_
     refine .q 4 rfl (.ld 0) ?_
     refine .q 5 rfl .mv ?_
     refine .q 6 rfl .ia ?_
     refine .q 7 rfl .l0 ?_
     refine .z 8 rfl (OpV.takeCall rfl rfl rfl rfl (fun H hs=> .f ca140 rfl (hasR_no M H k.m0 k.m1 _ h7))) ?_
     refine .q 9 rfl .nt ?_
     refine Ta.done (by kernel_rfl) ?_
     refine .tt rfl (.sr ?_)
     refine .g ?_
     refine .done ?_
     refine .rt hK Tryz.func76 Tryz.results76 [_] ?_
     exact fun H' hs=> ⟨hs.base,rfl⟩
   · refine .seq (.sr ?_)
     refine .m ?_
     refine .x .fa ?_
     refine .x (.ld 0) ?_
     refine .x .ln ?_
     refine .i ?_ (z:=lss_t (by omega))
     refine .done (.tt rfl (.skip (.seq (.block (.seq ?_)))))
     refine Tc.dr [] [] mixed rfl ?_
     refine .q 0 rfl .fa ?_
     refine .q 1 rfl .fa ?_
     refine .q 2 rfl (.ld 1) ?_
     refine .q 3 rfl .fa ?_
     refine .q 4 rfl (.ld 0) ?_
     refine .q 5 rfl .mv ?_
     refine .q 6 rfl .ia ?_
     refine .q 7 rfl .l0 ?_
     refine .z 8 rfl (OpV.takeCall rfl rfl rfl rfl (fun H hs=> .f ca140 rfl (hasR_yes M H k.m0 k.m1 _ (h6 i (by omega))))) ?_
     refine .q 9 rfl .nt ?_
     refine Ta.done (by kernel_rfl) ?_
     refine .ff rfl (.skip (.inBlock (.r ?_)))
     refine .m ?_
     refine .i ?_ (z:=add_in (by omega) (by omega))
     refine .g ?_
     refine .done ?_
     exact Tc.db (ih ⟨i+1,by omega⟩ (by simp only;omega))
theorem checkOf_good(k:Lk)(hk:k.ok=true)(code:Nat)(hc:code<32)(a r n:Int)(mv:List Int)(hP:k.Past code a r n mv)(A:Option Addr)(m ca:Nat)(hm:m=(placesTo code 7).length)(hA:Nums H A mv):
   CallT M 143 #[k.val,.int .i64 code,pastA a r n A m ca] H (fun v H'=> H.le H'∧v=.int .i64 0):=by
 refine CallT.enter (vs:= [k.val,.int .i64 code,pastA a r n A m ca]) Tryz.func143 rfl Tryz.ntmps143 (Nat.le_of_ble_eq_true rfl) (SymSt.nil _) fun St c cs hK=> ?_
 refine .sr ?_
 refine .e (.bx (zz:=fun b3=> ?_))
 refine .e (.bx (zz:=fun b5=> ?_))
 refine .g ?_
 refine .done (.seq (.sr ?_))
 refine .x (.ld 1) ?_
 refine .c rfl rfl rfl rfl (fun H hs=> .f ca61 rfl (refLink_is M H k true hk 0 rfl)) ?_
 refine .g ?_
 refine .done (.sr ?_)
 refine .m ?_
 refine .i ?_ (z:=neq_f (by omega))
 refine .done (.ff rfl (.skip (.seq (.sr ?_))))
 refine .m ?_
 refine .c rfl rfl rfl rfl (fun H hs=> .f ca93 rfl (IsCode_is M H code true (decide_eq_true (by omega)))) ?_
 refine .x .nt ?_
 refine .done (.ff rfl (.skip (.sr ?_)))
 refine .x (.ld 1) ?_
 refine .m ?_
 refine .x (.ld 0) ?_
 refine .c rfl rfl rfl rfl (fun H hs=> .f ca76 rfl (CheckPast_good M H k code hc a r n mv hP A m ca hm (hA.le hs.base))) ?_
 refine .g ?_
 refine .done ?_
 refine .rt hK Tryz.func143 Tryz.results143 [_] ?_
 exact fun H' hs=> ⟨hs.base,rfl⟩
theorem checkOf_err(k:Lk)(co a r n:Int)(mv:List Int)(e:Int)(h:PErr k co a r n mv e)(A:Option Addr)(m ca:Nat)(hm:m=mv.length)(hm6:m≤20)(hA:Nums H A mv):
   CallT M 143 #[k.val,.int .i64 co,pastA a r n A m ca] H (fun v H'=> H.le H'∧v=.int .i64 e):=by
 refine CallT.enter (vs:= [k.val,.int .i64 co,pastA a r n A m ca]) Tryz.func143 rfl Tryz.ntmps143 (Nat.le_of_ble_eq_true rfl) (SymSt.nil _) fun St c cs hK=> ?_
 refine .sr ?_
 refine .e (.bx (zz:=fun b3=> ?_))
 refine .e (.bx (zz:=fun b5=> ?_))
 refine .g ?_
 refine .done (.seq (.seq ?_))
 cases hk:k.ok with
 | false=>
   have he:e=1:=by cases h <;> simp_all
   subst he
   refine .r ?_
   refine .x (.ld 1) ?_
   refine .c rfl rfl rfl rfl (fun H hs=> .f ca61 rfl (refLink_is M H k false hk 1 rfl)) ?_
   refine .g ?_
   refine .done (.sr ?_)
   refine .m ?_
   refine .i ?_ (z:=neq_t (by omega))
   refine .done (.tt rfl (.sr ?_))
   refine .m ?_
   refine .g ?_
   refine .done ?_
   refine .rt hK Tryz.func143 Tryz.results143 [_] ?_
   exact fun H' hs=> ⟨hs.base,rfl⟩
 | true=>
   by_cases hcr:0≤co∧co≤31
   · obtain⟨code,rfl⟩:∃n:Nat,co=(n:Int):=⟨co.toNat,by omega⟩
     refine .r ?_
     refine .x (.ld 1) ?_
     refine .c rfl rfl rfl rfl (fun H hs=> .f ca61 rfl (refLink_is M H k true hk 0 rfl)) ?_
     refine .g ?_
     refine .done (.sr ?_)
     refine .m ?_
     refine .i ?_ (z:=neq_f (by omega))
     refine .done (.ff rfl (.skip (.seq (.sr ?_))))
     refine .m ?_
     refine .c rfl rfl rfl rfl (fun H hs=> .f ca93 rfl (IsCode_is M H code true (decide_eq_true hcr))) ?_
     refine .x .nt ?_
     refine .done (.ff rfl (.skip (.sr ?_)))
     refine .x (.ld 1) ?_
     refine .m ?_
     refine .x (.ld 0) ?_
     refine .c rfl rfl rfl rfl (fun H hs=> .f ca76 rfl (CheckPast_err M H k code hk (by omega) a r n mv e h A m ca hm hm6 (hA.le hs.base))) ?_
     refine .g ?_
     refine .done ?_
     refine .rt hK Tryz.func143 Tryz.results143 [_] ?_
     exact fun H' hs=> ⟨hs.base,rfl⟩
   · have he:e=1:=by
       cases h with
       | tally _ _ _ _ _ _=> exact(hcr ⟨by omega,by omega⟩).elim
       | _=> rfl
     subst he
     refine .r ?_
     refine .x (.ld 1) ?_
     refine .c rfl rfl rfl rfl (fun H hs=> .f ca61 rfl (refLink_is M H k true hk 0 rfl)) ?_
     refine .g ?_
     refine .done (.sr ?_)
     refine .m ?_
     refine .i ?_ (z:=neq_f (by omega))
     refine .done (.ff rfl (.skip (.seq (.sr ?_))))
     refine .m ?_
     refine .c rfl rfl rfl rfl (fun H hs=> .f ca93 rfl (IsCode_is M H co false (decide_eq_false hcr))) ?_
     refine .x .nt ?_
     refine .done (.tt rfl (.sr ?_))
     refine .g ?_
     refine .done ?_
     refine .rt hK Tryz.func143 Tryz.results143 [_] ?_
     exact fun H' hs=> ⟨hs.base,rfl⟩
theorem SeenOf_c(k:Lk)(hk:k.ok=true)(code:Nat)(hc:code<32)(a r n:Int)(mv:List Int)(hP:k.Past code a r n mv)(A:Option Addr)(m ca:Nat)(hm:m=(placesTo code 7).length)(hA:Nums H A mv):
   CallT M 144 #[.int .i64 code,pastA a r n A m ca] H (fun v H'=> H.le H'∧∃g:Gl 3 1,v=g.val∧g.l=intsL (seenL (placesTo code 7) mv a n)∧∀x∈g.bl,H' x.1=some x.2∧H x.1=none):=by
 obtain⟨hks,hkr,hkl,hkm⟩:=Lk.ok_in hk
 obtain⟨hp0,hp6,hpl⟩:=places_in code hc
 have hml:=hP.len
 have h1:=hP.send
 have h2:=hP.lean
 refine CallT.enter (vs:= [.int .i64 code,pastA a r n A m ca]) Tryz.func144 rfl Tryz.ntmps144 (Nat.le_of_ble_eq_true rfl) (SymSt.nil _) fun St c cs hK=> ?_
 refine .sr ?_
 refine .e (.bx (zz:=fun b3=> ?_))
 refine .g ?_
 refine .done (.sr ?_)
 refine .m ?_
 refine .e (Or.callNew Gl.val Gl.bl (fun g:Gl 3 1=> g.l=placesV (placesTo code 7)∧g.n=(placesTo code 7).length) rfl rfl rfl rfl rfl (by decide) gl_nodup (fun H hs=> .f ca52 rfl (EdgesOf_n M H code hc)) (fun g ⟨hg,hgn⟩=> ?_))
 refine .g ?_
 refine .done ?_
 refine Tc.lift (L₂:= [(b3,true,.cells ⟨[.int .i64 a,.int .i64 r,.int .i64 n,.slice A m ca]⟩ 39 (0,0))]) (L₁:=g.bl) rfl (fun Hx hx=> ?_)
 have hle:=hx.base
 have hgp:g.l=intsL (numsL (placesTo code 7)):=by
   rw[hg]
   unfold placesV intsL numsL
   rw[List.map_map]
   rfl
 obtain⟨n0,N0⟩:=Nums.of (H:=Hx) hgp (fun y hy=> hx.at_ y hy)
 rw[numsL_len] at n0
 have hfr:∀b x,Hx b=none→H b=some x→False:=fun b x h2 h3=> by rw[hle _ _ h3] at h2;cases h2
 have hnew:∀y:Nat×Bool×Obj,Hx y.1=none→H y.1=none:=fun y h=> by
   cases h2:H y.1 with
   | none=> rfl
   | some x=> exact(hfr _ x h h2).elim
 clear hx
 have hv:g.val=.slice (g.blk.map fun b=> ⟨b,0,none⟩) (placesTo code 7).length g.cap:=by unfold Gl.val;rw[n0]
 obtain⟨K,hKe⟩:∃K:Option Addr,(g.blk.map fun b=> ⟨b,0,none⟩)=K:=⟨_,rfl⟩
 obtain⟨kc,hkc⟩:∃kc,g.cap=kc:=⟨_,rfl⟩
 rw[hKe,hkc] at hv
 rw[hKe] at N0
 rw[hv]
 have N1:=hA.le hle
 refine .sr ?_
 refine .g ?_
 refine .done (.seq (.sr ?_))
 refine .g ?_
 refine .done (.block ?_)
 refine Tc.db (Tc.loopInv (σ:= { x:Nat×Gl 3 1//x.1≤(placesTo code 7).length∧x.2.l=intsL ((seenL (placesTo code 7) mv a n).take x.1) })
   (fun x=> ([(3,.pointer (some ⟨b3,0,none⟩)),(5,.slice K (placesTo code 7).length kc),(6,x.1.2.val),(7,.int .i64 (x.1.1:Nat))],(b3,true,.cells ⟨[.int .i64 a,.int .i64 r,.int .i64 n,.slice A m ca]⟩ 39 (0,0))::x.1.2.bl)) (fun x=> (placesTo code 7).length-x.1.1) ?_ ⟨(0,Gl.nil 3 1),Nat.zero_le _,rfl⟩)
 rintro⟨⟨j,u⟩,q1,q2⟩ ih
 simp only at q1 q2
 have hun:u.n=j:=by
   have:=u.hl
   rw[q2,intsL_len,List.length_take,seenL_len] at this
   omega
 show Tc M St _ _ _ _ [(3,.pointer (some ⟨b3,0,none⟩)),(5,.slice K (placesTo code 7).length kc),(6,u.val),(7,.int .i64 (j:Nat))] ((b3,true,.cells ⟨[.int .i64 a,.int .i64 r,.int .i64 n,.slice A m ca]⟩ 39 (0,0))::u.bl) _ _
 by_cases d1:j<(placesTo code 7).length
 · rcases N1 with hA'|⟨a1,a2,a3,a4,a5,a6,rfl,a7,a8⟩
   · rw[hA'] at hml;simp at hml;omega
   rcases N0 with hK'|⟨k1,k2,k3,k4,k5,k6,rfl,k7,k8⟩
   · have:=congrArg List.length hK';rw[numsL_len] at this;simp only[List.length_nil] at this;omega
   have f1:=a8 j (by omega)
   have f2:=k8 j (by rw[numsL_len];omega)
   rw[numsL_get (by omega)] at f2
   have hp:=hpl j d1
   have b1:=hP.at_ (j:=j) (by omega)
   have hst:=still_in (place:=(((placesTo code 7)[j]?.getD 0:Nat):Int)) (number:=(j:Nat)) (send:=a) (lean:=n) (by omega) (by omega) (by omega) (by omega) (by omega) (by omega)
   refine .seq (.sr ?_)
   refine .m ?_
   refine .m ?_
   refine .x .ln ?_
   refine .i ?_ (z:=lss_t (by omega))
   refine .done (.tt rfl (.skip (.seq (.block ?_))))
   refine Tc.drT [18] [] [] 1 mixed rfl ?_
   refine Ta.tkC 0 (by kernel_rfl) rfl rfl (by decide) rfl rfl (OpV.take .mv) ?_
   refine Ta.tkC 1 (by kernel_rfl) rfl rfl (by decide) rfl rfl (OpV.take .fa) ?_
   refine Ta.tkC 2 (by kernel_rfl) rfl rfl (by decide) rfl rfl (OpV.take (.ld 0)) ?_
   refine Ta.tkC 3 (by kernel_rfl) rfl rfl (by decide) rfl rfl (OpV.take .fa) ?_
   refine Ta.tkC 4 (by kernel_rfl) rfl rfl (by decide) rfl rfl (OpV.take (.ld 0)) ?_
   refine Ta.tkC 5 (by kernel_rfl) rfl rfl (by decide) rfl rfl (OpV.take .mv) ?_
   refine Ta.tkC 6 (by kernel_rfl) rfl rfl (by decide) rfl rfl (OpV.take .mv) ?_
   refine Ta.tkC 7 (by kernel_rfl) rfl rfl (by decide) rfl rfl (OpV.take .mv) ?_
   refine Ta.tkC 8 (by kernel_rfl) rfl rfl (by decide) rfl rfl (OpV.take .ia) ?_
   refine Ta.tkC 9 (by kernel_rfl) rfl rfl (by decide) rfl rfl (OpV.take .l0) ?_
   refine Ta.tkC 10 (by kernel_rfl) rfl rfl (by decide) rfl rfl (OpV.takeCall rfl rfl rfl rfl (fun H hs=> .f ca173 rfl (Still_c M H a n (j:Nat) (((placesTo code 7)[j]?.getD 0:Nat):Int) (by omega) (by omega) (by omega) (by omega) (by omega) (by omega) (by omega)))) ?_
   refine Ta.tkC 11 (by kernel_rfl) rfl rfl (by decide) rfl rfl (OpV.take .fa) ?_
   refine Ta.tkC 12 (by kernel_rfl) rfl rfl (by decide) rfl rfl (OpV.take (.ld 0)) ?_
   refine Ta.tkC 13 (by kernel_rfl) rfl rfl (by decide) rfl rfl (OpV.take .mv) ?_
   refine Ta.tkC 14 (by kernel_rfl) rfl rfl (by decide) rfl rfl (OpV.take .ia) ?_
   refine Ta.tkC 15 (by kernel_rfl) rfl rfl (by decide) rfl rfl (OpV.take .l0) ?_
   refine Ta.tkC 16 (by kernel_rfl) rfl rfl (by decide) rfl rfl (OpV.take (.it (zz:=add_in (by omega) (by omega)))) ?_
   refine Ta.each [17] (by kernel_rfl) rfl ⟨TaOp.mk rfl rfl rfl (.bs (zz:=fun bs=> ⟨S3.mk (by apply List.Sublist.cons;exact List.sublist_append_left _ _) (.inr (by apply List.Sublist.cons;exact List.Sublist.refl _)),?_⟩)),trivial⟩
   refine Ta.each [18] (by kernel_rfl) rfl ⟨TaOp.mk rfl rfl rfl (Or.append (E:=en) 2 rfl rfl rfl rfl rfl rfl rfl rfl rfl rfl rfl rfl rfl rfl rfl (fun H hs=> SrcAt.of (hs.get (i:=0) rfl) (Nat.le_of_ble_eq_true rfl)) rfl (by omega) rfl (by decide) (fun u' hn' hl=> ⟨S3.mk (by apply List.Sublist.cons;exact List.sublist_append_left _ _) (.inl (by kernel_rfl)),?_⟩)),trivial⟩
   refine Ta.tkwC 19 (by kernel_rfl) rfl rfl rfl (by decide) rfl rfl (OpV.take .sg) ?_
   refine Ta.done (by kernel_rfl) ?_
   refine .inBlock (.r ?_)
   refine .m ?_
   refine .i ?_ (z:=add_in (by omega) (by omega))
   refine .g ?_
   refine .done ?_
   have hl':u'.l=intsL ((seenL (placesTo code 7) mv a n).take (j+1)):=by
     have e1:(seenL (placesTo code 7) mv a n).take (j+1)=(seenL (placesTo code 7) mv a n).take j++[seenAt (placesTo code 7) mv a n j]:=by rw[List.take_add_one,seenL_get d1];rfl
     rw[hl,q2,e1]
     unfold intsL
     rw[List.map_append]
     rfl
   exact Tc.db (ih ⟨(j+1,u'),d1,hl'⟩ (by simp only;omega))
 · have ej:j=(placesTo code 7).length:=by omega
   clear ih
   rw[ej,List.take_of_length_le (by rw[seenL_len];exact Nat.le_refl _)] at q2
   refine .seq (.sr ?_)
   refine .m ?_
   refine .m ?_
   refine .x .ln ?_
   refine .i ?_ (z:=lss_f (by omega))
   refine .done (.ff rfl (.exit rfl (.sr ?_)))
   refine .m ?_
   refine .g ?_
   refine .done ?_
   refine .rt hK Tryz.func144 Tryz.results144 [_] ?_
   exact fun H' hs=> ⟨View.le_trans hle hs.base,u,rfl,q2,fun y hy=> ⟨hs.at_ y (by simp[hy]),hnew y (hs.out y (by simp[hy]))⟩⟩
theorem refSeen_good(k:Lk)(hk:k.ok=true)(code:Nat)(hc:code<32)(a r n:Int)(mv:List Int)(hP:k.Past code a r n mv)(A:Option Addr)(m ca:Nat)(hm:m=(placesTo code 7).length)(hA:Nums H A mv):
   CallT M 87 #[k.val,.int .i64 code,pastA a r n A m ca] H (ToldQ (intsL (seenL (placesTo code 7) mv a n)) H):=by
 refine CallT.enter (vs:= [k.val,.int .i64 code,pastA a r n A m ca]) Tryz.func87 rfl Tryz.ntmps87 (Nat.le_of_ble_eq_true rfl) (SymSt.nil _) fun St c cs hK=> ?_
 refine .sr ?_
 refine .e (.bx (zz:=fun b3=> ?_))
 refine .e (.bx (zz:=fun b5=> ?_))
 refine .g ?_
 refine .g ?_
 refine .done (.seq (.sr ?_))
 refine .x (.ld 1) ?_
 refine .m ?_
 refine .x (.ld 0) ?_
 refine .c rfl rfl rfl rfl (fun H hs=> .f ca143 rfl (checkOf_good M H k hk code hc a r n mv hP A m ca hm (hA.le hs.base))) ?_
 refine .g ?_
 refine .done (.sr ?_)
 refine .m ?_
 refine .i ?_ (z:=neq_f (by omega))
 refine .done (.ff rfl (.skip (.sr ?_)))
 refine .m ?_
 refine .x (.ld 0) ?_
 refine .e (Or.callNew Gl.val Gl.bl (fun g:Gl 3 1=> g.l=intsL (seenL (placesTo code 7) mv a n)) rfl rfl rfl rfl rfl (by decide) gl_nodup (fun H hs=> .f ca144 rfl (SeenOf_c M H k hk code hc a r n mv hP A m ca hm (hA.le hs.base))) (fun g hg=> ?_))
 refine .g ?_
 refine .g ?_
 refine .done ?_
 refine .rt hK Tryz.func87 Tryz.results87 [_,_] ?_
 exact fun H' hs=> ⟨hs.base,g,rfl,hg,fun y hy=> ⟨hs.at_ y (by simp[hy]),hs.out y (by simp[hy])⟩⟩
theorem refSeen_err(k:Lk)(co a r n:Int)(mv:List Int)(e:Int)(h:PErr k co a r n mv e)(A:Option Addr)(m ca:Nat)(hm:m=mv.length)(hm6:m≤20)(hA:Nums H A mv):
   CallT M 87 #[k.val,.int .i64 co,pastA a r n A m ca] H (fun v H'=> H.le H'∧v=.tuple ⟨[.slice none 0 0,.int .i64 e]⟩):=by
 have he:=h.pos
 refine CallT.enter (vs:= [k.val,.int .i64 co,pastA a r n A m ca]) Tryz.func87 rfl Tryz.ntmps87 (Nat.le_of_ble_eq_true rfl) (SymSt.nil _) fun St c cs hK=> ?_
 refine .sr ?_
 refine .e (.bx (zz:=fun b3=> ?_))
 refine .e (.bx (zz:=fun b5=> ?_))
 refine .g ?_
 refine .g ?_
 refine .done (.seq (.sr ?_))
 refine .x (.ld 1) ?_
 refine .m ?_
 refine .x (.ld 0) ?_
 refine .c rfl rfl rfl rfl (fun H hs=> .f ca143 rfl (checkOf_err M H k co a r n mv e h A m ca hm hm6 (hA.le hs.base))) ?_
 refine .g ?_
 refine .done (.sr ?_)
 refine .m ?_
 refine .i ?_ (z:=neq_t (by omega))
 refine .done (.tt rfl (.sr ?_))
 refine .m ?_
 refine .g ?_
 refine .g ?_
 refine .done ?_
 refine .rt hK Tryz.func87 Tryz.results87 [_,_] ?_
 exact fun H' hs=> ⟨hs.base,rfl⟩
theorem refRead_err(k:Lk)(co a r n:Int)(mv:List Int)(e:Int)(h:PErr k co a r n mv e)(A:Option Addr)(m ca:Nat)(hm:m=mv.length)(hm6:m≤20)(hA:Nums H A mv):
   CallT M 88 #[k.val,.int .i64 co,pastA a r n A m ca] H (fun v H'=> H.le H'∧v=.tuple ⟨[.int .i64 0,.bool false,.int .i64 e]⟩):=by
 have he:=h.pos
 refine CallT.enter (vs:= [k.val,.int .i64 co,pastA a r n A m ca]) Tryz.func88 rfl Tryz.ntmps88 (Nat.le_of_ble_eq_true rfl) (SymSt.nil _) fun St c cs hK=> ?_
 refine .sr ?_
 refine .e (.bx (zz:=fun b3=> ?_))
 refine .e (.bx (zz:=fun b5=> ?_))
 refine .g ?_
 refine .g ?_
 refine .g ?_
 refine .done (.seq (.sr ?_))
 refine .x (.ld 1) ?_
 refine .m ?_
 refine .x (.ld 0) ?_
 refine .c rfl rfl rfl rfl (fun H hs=> .f ca143 rfl (checkOf_err M H k co a r n mv e h A m ca hm hm6 (hA.le hs.base))) ?_
 refine .g ?_
 refine .done (.sr ?_)
 refine .m ?_
 refine .i ?_ (z:=neq_t (by omega))
 refine .done (.tt rfl (.sr ?_))
 refine .m ?_
 refine .g ?_
 refine .g ?_
 refine .g ?_
 refine .done ?_
 refine .rt hK Tryz.func88 Tryz.results88 [_,_,_] ?_
 exact fun H' hs=> ⟨hs.base,rfl⟩
theorem refRead_good(k:Lk)(hk:k.ok=true)(code:Nat)(hc:code<32)(a r n:Int)(mv:List Int)(hP:k.Past code a r n mv)(A:Option Addr)(m ca:Nat)(hm:m=(placesTo code 7).length)(hA:Nums H A mv):
   CallT M 88 #[k.val,.int .i64 code,pastA a r n A m ca] H (fun v H'=> H.le H'∧v=readV (readN (pastView code a r n mv))):=by
 obtain⟨hks,hkr,hkl,hkm⟩:=Lk.ok_in hk
 have hp6:=(places_in code hc).2.1
 have hr:=hP.read
 have hlen:=seenL_len (placesTo code 7) mv a n
 have hsb:=hP.seen_in hk hc
 have hrd:=hP.refRead hk hc
 obtain⟨w,o,e1,e2⟩:∃(w:Int) (o:Bool),readT (refRead r (seenL (placesTo code 7) mv a n))=.tuple ⟨[.int .i64 w,.bool o]⟩∧readV (readN (pastView code a r n mv))=.tuple ⟨[.int .i64 w,.bool o,.int .i64 0]⟩:=by
   rw[hrd]
   cases readN (pastView code a r n mv) with
   | none=> exact⟨0,false,rfl,rfl⟩
   | some x=> exact⟨(x:Nat),true,rfl,rfl⟩
 rw[e2]
 refine CallT.enter (vs:= [k.val,.int .i64 code,pastA a r n A m ca]) Tryz.func88 rfl Tryz.ntmps88 (Nat.le_of_ble_eq_true rfl) (SymSt.nil _) fun St c cs hK=> ?_
 refine .sr ?_
 refine .e (.bx (zz:=fun b3=> ?_))
 refine .e (.bx (zz:=fun b5=> ?_))
 refine .g ?_
 refine .g ?_
 refine .g ?_
 refine .done (.seq (.sr ?_))
 refine .x (.ld 1) ?_
 refine .m ?_
 refine .x (.ld 0) ?_
 refine .c rfl rfl rfl rfl (fun H hs=> .f ca143 rfl (checkOf_good M H k hk code hc a r n mv hP A m ca hm (hA.le hs.base))) ?_
 refine .g ?_
 refine .done (.sr ?_)
 refine .m ?_
 refine .i ?_ (z:=neq_f (by omega))
 refine .done (.ff rfl (.skip (.seq ?_)))
 refine Tc.dr [] [] mixed rfl ?_
 refine .q 0 rfl .fa ?_
 refine .q 1 rfl (.ld 0) ?_
 refine .q 2 rfl .mv ?_
 refine .q 3 rfl (.ld 0) ?_
 refine Ta.each [4] (by kernel_rfl) rfl ⟨TaOp.mk rfl rfl rfl (Or.callNew Gl.val Gl.bl (fun g:Gl 3 1=> g.l=intsL (seenL (placesTo code 7) mv a n)) rfl rfl rfl rfl rfl (by decide) gl_nodup (fun H hs=> .f ca144 rfl (SeenOf_c M H k hk code hc a r n mv hP A m ca hm (hA.le hs.base))) (fun g hg=> ⟨S2.mk (by exact List.sublist_append_left _ _) (.inr (by exact List.sublist_append_left _ _)),?_⟩)),trivial⟩
 refine Ta.each [5] (by kernel_rfl) rfl ⟨TaOp.mk rfl rfl rfl (Or.ofT (OpV.takeCall rfl rfl rfl rfl (fun H hs=> .f ca145 rfl (CallT.is (.tuple ⟨[.int .i64 w,.bool o]⟩) (by rewrite [e1];rfl) (ReadOf_c M H r (seenL (placesTo code 7) mv a n) _ g.n g.cap (Nums.of hg (fun y hy=> hs.at_ y (by simp[hy]))).1 (by have:=(Nums.of hg (fun y hy=> hs.at_ y (by simp[hy]))).1;omega) (by omega) hsb (Nums.of hg (fun y hy=> hs.at_ y (by simp[hy]))).2)))) rfl (by decide) ⟨S2.mk (by exact List.sublist_append_left _ _) (.inr (by exact List.sublist_append_left _ _)),?_⟩),trivial⟩
 refine .q 6 rfl .mv ?_
 refine .q 7 rfl .et ?_
 refine .q 8 rfl .et ?_
 refine .q 9 rfl .sg ?_
 refine .q 10 rfl .sg ?_
 refine Ta.done (by kernel_rfl) ?_
 refine .sr ?_
 refine .m ?_
 refine .m ?_
 refine .g ?_
 refine .g ?_
 refine .g ?_
 refine .done ?_
 refine .rt hK Tryz.func88 Tryz.results88 [_,_,_] ?_
 exact fun H' hs=> ⟨hs.base,rfl⟩
end
end Go.Proofs.YtpdaenfglbgfkaaGreatDoor
