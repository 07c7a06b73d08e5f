/-
  Texts of the proofs over baudot/signal: G4 G6 G5 G7 H3 H5 J1 J2 J3 J5 J6 J7 J4 J8 J9 JA JB JC JD JE JF JG JH JI K1 M6 M7 M8 I1 I2 I4 O1 P1 P2 P3 O2 O3 P4 P5.
-/
import Derived.Test.YtpdaenfglbgfkaaGreatDoorY07
section
namespace Go.Proofs.YtpdaenfglbgfkaaGreatDoor
open Go.RL
set_option maxRecDepth 10000
set_option maxHeartbeats 4000000
def lineC:List Value:= [.int .i64 0,.int .i64 0,.int .i64 (-2),.int .i64 2,.int .i64 0,.int .i64 0,.int .i64 (-2),.int .i64 2,.int .i64 0,.int .i64 0,.int .i64 (-2),.int .i64 2]
theorem exC_at {H:View}{b:Nat}(h:H b=some (true,.cells ⟨lineC⟩ 25 (0,0))):ChAt H exC b 0 3 none:=by
 refine⟨⟨true,lineC,25,(0,0),h,fun i hi=> ?_⟩,Nat.le_refl _,fun hm=> absurd hm (Nat.lt_irrefl 0)⟩
 have hi':i<3:=hi
 rcases(by omega:i=0∨i=1∨i=2) with rfl|rfl|rfl <;> rfl
theorem exC_good:exC.Good:=by
 have z:(-1000000:Int)≤0∧(0:Int)≤1000000:=by decide
 have a:(-1000000:Int)≤ -2∧(-2:Int)≤1000000:=by decide
 have b:(-1000000:Int)≤2∧(2:Int)≤1000000:=by decide
 have l:(⟨0,0,0,0,0,0, -2,2⟩:Lk).lineOk=true:=by decide +kernel
 exact⟨⟨by decide,by decide,fun _ _=> z,fun _ _=> z,fun _ _=> a,fun _ _=> b,fun i hi=> absurd hi (Nat.not_lt_zero i),fun i hi=> absurd hi (Nat.not_lt_zero _)⟩,by decide,by decide,by decide,fun _ _=> l⟩
section
variable(M:Md Tryz.prog)(H:View)
theorem Example_c:CallT M 101 #[] H (fun v H'=> H.le H'∧v=exL.val):=by
 refine CallT.enter (vs:= []) Tryz.func101 rfl Tryz.ntmps101 (Nat.le_of_ble_eq_true rfl) (SymSt.nil _) fun St c cs hK=> ?_
 refine .sr ?_
 refine .e (.al (zz:=fun b0=> ?_))
 refine .done (.sr ?_)
 refine .c rfl rfl rfl rfl (fun H hs=> .f ca40 rfl (to_c M H 20 20)) ?_
 refine .c rfl rfl rfl rfl (fun H hs=> .f ca40 rfl (to_c M H 19 21)) ?_
 refine .c rfl rfl rfl rfl (fun H hs=> .f ca40 rfl (to_c M H (-3) 3)) ?_
 refine .x .bu ?_
 refine .x .bu ?_
 refine .e (.st 0 (zz:=?_))
 refine .done ?_
 refine Tc.retN (E:=en) hK Tryz.func101 Tryz.results101 (vs:= [_]) (by refine⟨⟨0,_,_,_,_,_,_,_,rfl,rfl,rfl,rfl⟩,?_⟩;exact trivial) ?_
 exact fun H' hs=> ⟨hs.base,rfl⟩
theorem Leaning_c:CallT M 102 #[] H (fun v H'=> H.le H'∧v=exK.val):=by
 refine CallT.enter (vs:= []) Tryz.func102 rfl Tryz.ntmps102 (Nat.le_of_ble_eq_true rfl) (SymSt.nil _) fun St c cs hK=> ?_
 refine .sr ?_
 refine .e (.al (zz:=fun b0=> ?_))
 refine .done (.sr ?_)
 refine .c rfl rfl rfl rfl (fun H hs=> .f ca101 rfl (Example_c M H)) ?_
 refine .e (.al (zz:=fun b1=> ?_))
 refine .e (.st 0 (zz:=?_))
 refine .done (.sr ?_)
 refine .c rfl rfl rfl rfl (fun H hs=> .f ca40 rfl (to_c M H 0 1)) ?_
 refine .x .fa ?_
 refine .x .fa ?_
 refine .e (.st 0 (zz:=?_))
 refine .done (.sr ?_)
 refine .x (.ld 0) ?_
 refine .e (.st 1 (zz:=?_))
 refine .done ?_
 refine Tc.retN (E:=en) hK Tryz.func102 Tryz.results102 (vs:= [_]) (by refine⟨⟨1,_,_,_,_,_,_,_,rfl,rfl,rfl,rfl⟩,?_⟩;exact trivial) ?_
 exact fun H' hs=> ⟨hs.base,rfl⟩
theorem Chained_c:CallT M 103 #[] H (fun v H'=> H.le H'∧∃b:Nat,v=exC.val7 b 0 3∧True∧∀y∈ [(b,true,Obj.cells ⟨lineC⟩ 25 (0,0))],H' y.1=some y.2∧H y.1=none):=by
 refine CallT.enter (vs:= []) Tryz.func103 rfl Tryz.ntmps103 (Nat.le_of_ble_eq_true rfl) (SymSt.nil _) fun St c cs hK=> ?_
 refine .sr ?_
 refine .e (.al (zz:=fun b0=> ?_))
 refine .done (.sr ?_)
 refine .c rfl rfl rfl rfl (fun H hs=> .f ca40 rfl (to_c M H (-2) 2)) ?_
 refine .x .bu ?_
 refine .e (.al (zz:=fun b1=> ?_))
 refine .e (.st 0 (zz:=?_))
 refine .done (.seq ?_)
 refine Tc.dr [8] [1] mixed rfl ?_
 refine .z 0 rfl (OpV.takeCall rfl rfl rfl rfl (fun H hs=> .f ca40 rfl (to_c M H 20 20))) ?_
 refine .z 1 rfl (OpV.takeCall rfl rfl rfl rfl (fun H hs=> .f ca40 rfl (to_c M H 20 20))) ?_
 refine .z 2 rfl (OpV.takeCall rfl rfl rfl rfl (fun H hs=> .f ca40 rfl (to_c M H 19 21))) ?_
 refine .q 3 rfl (.ld 0) ?_
 refine .q 4 rfl (.ld 0) ?_
 refine .q 5 rfl (.ld 0) ?_
 refine Ta.each [6] (by kernel_rfl) rfl ⟨TaOp.mk rfl rfl rfl (.bs (zz:=fun bl=> ⟨S2.mk (by apply List.Sublist.cons;exact List.sublist_append_left _ _) (.inr (by apply List.Sublist.cons;exact List.Sublist.refl _)),?_⟩)),trivial⟩
 refine .q 7 rfl .bu ?_
 refine Ta.each [8] (by kernel_rfl) rfl ⟨TaOp.mk rfl rfl rfl (.st 2 (zz:=⟨S2.mk (by apply List.Sublist.cons;exact List.sublist_append_left _ _) (.inl (by kernel_rfl)),?_⟩)),trivial⟩
 refine Ta.done (by kernel_rfl) ?_
 refine Tc.retN (E:=en) hK Tryz.func103 Tryz.results103 (vs:= [_]) (by refine⟨⟨2,_,_,_,_,_,_,_,rfl,rfl,rfl,rfl⟩,?_⟩;exact trivial) ?_
 exact fun H' hs=> ⟨hs.base,bl,rfl,trivial,fun y hy=> by
   simp only[List.mem_singleton] at hy
   subst hy
   exact⟨hs.get (i:=0) rfl,hs.fresh (i:=0) (x:=(true,.cells ⟨lineC⟩ 25 (0,0))) rfl⟩⟩
end
theorem SameNums_two(M:Md Tryz.prog)(H:View)(A B:Option Addr)(l:List Int)(n m ca cb:Nat)(hn:n=l.length)(hm:m=l.length)(h6:l.length≤1000)(hA:Nums H A l)(hB:Nums H B l):CallT M 23 #[.slice A n ca,.slice B m cb] H (fun v H'=> H.le H'∧v=.bool true):=by
 subst hn
 subst hm
 exact SameNums_same M H A B l _ ca cb rfl h6 hA hB
theorem SamePasts_two(M:Md Tryz.prog)(H:View)(s r e:Int)(A B:Option Addr)(l:List Int)(n m ca cb:Nat)(hn:n=l.length)(hm:m=l.length)(h6:l.length≤1000)(hA:Nums H A l)(hB:Nums H B l):
   CallT M 30 #[.agg ⟨[.int .i64 s,.int .i64 r,.int .i64 e,.slice A n ca]⟩,.agg ⟨[.int .i64 s,.int .i64 r,.int .i64 e,.slice B m cb]⟩] H (fun v H'=> H.le H'∧v=.bool true):=by
 subst hn
 subst hm
 exact SamePasts_same M H s r e A B l _ ca cb rfl h6 hA hB
theorem Nums.lit {H:View}{b:Nat}{l:List Int}(h:H b=some (true,.cells ⟨intsL l⟩ 3 (0,0))):Nums H (some ⟨b,0,none⟩) l:=
 .inr ⟨b,0,true,intsL l,3,(0,0),rfl,h,fun j hj=> by
   show(intsL l)[0+(j:Int).toNat*1]? =_
   rw[Nat.zero_add,Nat.mul_one,Int.toNat_natCast]
   unfold intsL
   rw[List.getElem?_map,List.getElem?_eq_getElem hj]
   rfl⟩
end Go.Proofs.YtpdaenfglbgfkaaGreatDoor
end
section
namespace Go.Proofs.YtpdaenfglbgfkaaGreatDoor
open Go.RL
set_option maxRecDepth 10000
set_option maxHeartbeats 4000000
theorem keepI_len(p:Nat→Bool)(k:Nat):(keepI p k).length≤k:=by
 unfold keepI
 rw[List.length_map]
 have:=List.length_filter_le p (List.range k)
 rw[List.length_range] at this
 exact this
section
variable(M:Md Tryz.prog)(H:View)
end
end Go.Proofs.YtpdaenfglbgfkaaGreatDoor
end
section
namespace Go.Proofs.YtpdaenfglbgfkaaGreatDoor
open Go.RL
set_option maxRecDepth 10000
set_option maxHeartbeats 8000000
theorem t243:Told [0,243]:=⟨by decide,by decide,by decide⟩
theorem t243_at {H:View}{b:Nat}(h:H b=some (true,.cells ⟨[.int .i64 0,.int .i64 243]⟩ 3 (0,0))):TimesAt H (some ⟨b,0,none⟩) [0,243]:=⟨b,0,true,_,3,(0,0),rfl,h,by decide,rfl⟩
theorem keep_eq {p:Nat→Bool}{k:Nat}{l:List Nat}(h:(List.range k).filter p=l):keepTo p k=intsL (numsL l):=by
 rw[←places_nums,←h]
 rfl
theorem ex_sec:exC.sec=0:=by unfold Ch.sec;simp[ex_weak.1]
theorem eg23:Tryz.prog.eqGuardType Tryz.prog.depth 23=false:=by kernel_rfl
theorem band_flat(a b:Int):flat en 2 23 [.int .i64 a,.int .i64 b]:=by
 refine⟨rfl,?_⟩
 intro f hf
 simp only[List.mem_cons,List.not_mem_nil,or_false] at hf
 rcases hf with rfl|rfl
 · exact⟨⟨_,rfl⟩,_,rfl,rfl,Nat.le_of_ble_eq_true rfl⟩
 · exact⟨⟨_,rfl⟩,_,rfl,rfl,Nat.le_of_ble_eq_true rfl⟩
theorem signalled_c(H:View)(hG:Glob H):CallT (Mp Tryz.prog) 31 #[] H (fun v H'=> H.le H'∧v=.bool true):=by
 refine CallT.enter (vs:= []) Tryz.func31 rfl Tryz.ntmps31 (Nat.le_of_ble_eq_true rfl) (SymSt.nil _) fun St c cs hK=> ?_
 refine .sr ?_
 refine .g ?_
 refine .done (.sr ?_)
 refine .c rfl rfl rfl rfl (fun H hs=> .f ca101 rfl (Example_c _ H)) ?_
 refine .c rfl rfl rfl rfl (fun H hs=> .f ca102 rfl (Leaning_c _ H)) ?_
 refine .e (.al (zz:=fun b1=> ?_))
 refine .e (.al (zz:=fun b2=> ?_))
 refine .e (.st 1 (zz:=?_))
 refine .e (.st 0 (zz:=?_))
 refine .done (.sr ?_)
 refine .x (.ld 1) ?_
 refine .e (.al (zz:=fun b3=> ?_))
 refine .e (.st 0 (zz:=?_))
 refine .done (.sr ?_)
 refine .c rfl rfl rfl rfl (fun H hs=> .f ca40 rfl (to_c _ H 19 21)) ?_
 refine .x .fa ?_
 refine .e (.st 0 (zz:=?_))
 refine .done ?_
 refine Tc.lift (L₂:= []) rfl (fun Hx hx=> ?_)
 have hGx:=glob_le hG hx.base
 have hle:=hx.base
 have x1:Hx b1=some (true,.cells ⟨exL.val.cells.toList⟩ 27 (0,0)):=hx.get (i:=2) rfl
 have x2:Hx b2=some (true,.cells ⟨exK.val.cells.toList⟩ 27 (0,0)):=hx.get (i:=1) rfl
 have x3:Hx b3=some (true,.cells ⟨exM.val.cells.toList⟩ 27 (0,0)):=hx.get (i:=0) rfl
 refine Tc.dropB (R':= [(1,.pointer (some ⟨b1,0,none⟩)),(2,.pointer (some ⟨b2,0,none⟩)),(3,.pointer (some ⟨b3,0,none⟩))]) (L':= []) ?_ ⟨rfl,rfl,rfl,trivial⟩ (List.Sublist.refl _)
 refine .sr ?_
 refine .e (Or.callNew (fun g:Gl 3 1=> .tuple ⟨[g.val,.int .i64 0]⟩) Gl.bl (fun g:Gl 3 1=> g.l=placesV (placesTo 16 7)) rfl rfl rfl rfl rfl (by decide) gl_nodup (fun H hs=> .f ca84 rfl (Edges_c _ H 16 (by decide))) (fun g1 hg1=> ?_))
 refine .m ?_
 refine .x .et ?_
 refine .x .et ?_
 refine .g ?_
 refine .g ?_
 refine .done (.sr ?_)
 refine .x .l0 ?_
 refine .e (Or.callNew (fun g:Gl 3 1=> .tuple ⟨[g.val,.int .i64 0]⟩) Gl.bl (fun g:Gl 3 1=> g.l=keepTo exK.sureOf 32) rfl rfl rfl rfl rfl (by decide) gl_nodup (fun H hs=> .f ca26 rfl (Sure_c _ H exK (glob_le hGx hs.base) exK_ok)) (fun g2 hg2=> ?_))
 refine .m ?_
 refine .x .et ?_
 refine .x .et ?_
 refine .g ?_
 refine .g ?_
 refine .done (.sr ?_)
 refine .x .l0 ?_
 refine .c rfl rfl rfl rfl (fun H hs=> .f ca24 rfl (CallT.is (.tuple ⟨[.int .i64 0,.int .i64 0]⟩) (by rewrite [ex_right];rfl) (Right_c _ H exK 0 (glob_le hGx hs.base) exK_ok (by decide)))) ?_
 refine .m ?_
 refine .x .et ?_
 refine .x .et ?_
 refine .g ?_
 refine .g ?_
 refine .done (.sr ?_)
 refine .x .l0 ?_
 refine .e (Or.callNew (fun g:Gl 3 1=> .tuple ⟨[g.val,.int .i64 0,.int .i64 0]⟩) Gl.bl (fun g:Gl 3 1=> g.l=keepTo (exK.canRead 0) 32) rfl rfl rfl rfl rfl (by decide) gl_nodup (fun H hs=> .f ca21 rfl (CallT.mono (Reads_one _ H exK 0 (glob_le hGx hs.base) exK_ok (by decide) (by rw[keep_eq ex_reads];decide)) (by rintro v H' ⟨h1,g,h2,h3,h4⟩;rw[ex_refused] at h2;exact⟨h1,g,h2,h3,h4⟩))) (fun g3 hg3=> ?_))
 refine .m ?_
 refine .x .et ?_
 refine .x .et ?_
 refine .x .et ?_
 refine .g ?_
 refine .g ?_
 refine .g ?_
 refine .done (.sr ?_)
 refine .x .l0 ?_
 refine .e (Or.callNew (fun g:Gl 3 1=> .tuple ⟨[pastV 20 19 1 g,.bool true,.int .i64 0]⟩) Gl.bl (fun g:Gl 3 1=> g.l=intsL [-3,3]) rfl rfl rfl rfl rfl (by decide) gl_nodup (fun H hs=> .f ca28 rfl (CallT.mono (Wrong_c _ H exK 0 (glob_le hGx hs.base) exK_ok (by decide)) (by rintro v H' ⟨h1,h2⟩;rw[ex_wrong] at h2;obtain⟨g,h3,h4,h5⟩:=h2;exact⟨h1,g,h3,h4,h5⟩))) (fun g4 hg4=> ?_))
 refine .m ?_
 refine .x .et ?_
 refine .x .et ?_
 refine .x .et ?_
 refine .e (.al (zz:=fun b13=> ?_))
 refine .e (.st 0 (zz:=?_))
 refine .g ?_
 refine .g ?_
 refine .done (.sr ?_)
 refine .x .l0 ?_
 refine .c rfl rfl rfl rfl (fun H hs=> .f ca32 rfl (CallT.is (.tuple ⟨[.int .i64 3,.int .i64 0]⟩) (by rewrite [ex_margin];rfl) (Margin_c _ H exL (glob_le hGx hs.base) exL_ok))) ?_
 refine .m ?_
 refine .x .et ?_
 refine .x .et ?_
 refine .g ?_
 refine .g ?_
 refine .done (.sr ?_)
 refine .x .l0 ?_
 refine .e (Or.callNew (fun g:Gl 3 1=> .tuple ⟨[g.val,.int .i64 0]⟩) Gl.bl (fun g:Gl 3 1=> g.l=keepTo exL.good 41) rfl rfl rfl rfl rfl (by decide) gl_nodup (fun H hs=> .f ca34 rfl (Paces_c _ H exL (glob_le hGx hs.base) exL_ok)) (fun g5 hg5=> ?_))
 refine .m ?_
 refine .x .et ?_
 refine .x .et ?_
 refine .g ?_
 refine .g ?_
 refine .done (.sr ?_)
 refine .x .l0 ?_
 refine .e (.bs (zz:=fun bt1=> ?_))
 refine .e (Or.callNew (fun g:Gl 3 1=> .tuple ⟨[g.val,.int .i64 0]⟩) Gl.bl (fun g:Gl 3 1=> g.l=keepTo (exL.sentOf [0,243]) 32) rfl rfl rfl rfl rfl (by decide) gl_nodup (fun H hs=> .f ca46 rfl (Sent_two _ H exL (glob_le hGx hs.base) exL_ok [0,243] t243 rfl (some ⟨bt1,0,none⟩) 2 (t243_at (hs.get (i:=0) rfl)))) (fun g6 hg6=> ?_))
 refine .m ?_
 refine .x .et ?_
 refine .x .et ?_
 refine .g ?_
 refine .g ?_
 refine .done (.sr ?_)
 refine .x .l0 ?_
 refine .e (.bs (zz:=fun bt2=> ?_))
 refine .c rfl rfl rfl rfl (fun H hs=> .f ca48 rfl (CallT.is (.tuple ⟨[bandV 20 20,.int .i64 0]⟩) (by rewrite [ex_tune];rfl) (Tune_c _ H exM 0 (glob_le hGx hs.base) exM_ok (by decide) [0,243] t243 (by decide) (by rw[ex_edges0];rfl) (some ⟨bt2,0,none⟩) 2 (t243_at (hs.get (i:=0) rfl))))) ?_
 refine .m ?_
 refine .x .et ?_
 refine .x .et ?_
 refine .e (.al (zz:=fun b22=> ?_))
 refine .e (.st 0 (zz:=?_))
 refine .g ?_
 refine .done (.sr ?_)
 refine .e (Or.callNew (fun b:Nat=> exC.val7 b 0 3) (fun b=> [(b,true,Obj.cells ⟨lineC⟩ 25 (0,0))]) (fun _=> True) rfl rfl rfl rfl rfl (by decide) (fun _=> by simp) (fun H hs=> .f ca103 rfl (Chained_c _ H)) (fun lb1 _=> ?_))
 refine .c rfl rfl rfl rfl (fun H hs=> .f ca58 rfl (CallT.is (.tuple ⟨[.int .i64 0,.int .i64 0,.bool true,.int .i64 0]⟩) (by rewrite [ex_sec,ex_weak.1,ex_weak.2];rfl) (Weak_c H exC lb1 0 3 0 none (exC_at (hs.at_ (lb1,true,.cells ⟨lineC⟩ 25 (0,0)) (by simp))) exC_good (glob_le hGx hs.base)))) ?_
 refine .m ?_
 refine .x .et ?_
 refine .x .et ?_
 refine .x .et ?_
 refine .x .et ?_
 refine .g ?_
 refine .g ?_
 refine .g ?_
 refine .g ?_
 refine .done (.sr ?_)
 refine .e (Or.callNew (fun b:Nat=> exC.val7 b 0 3) (fun b=> [(b,true,Obj.cells ⟨lineC⟩ 25 (0,0))]) (fun _=> True) rfl rfl rfl rfl rfl (by decide) (fun _=> by simp) (fun H hs=> .f ca103 rfl (Chained_c _ H)) (fun lb2 _=> ?_))
 refine .e (Or.callNew (fun g:Gl 3 1=> .tuple ⟨[g.val,.bool true,.int .i64 0]⟩) Gl.bl (fun g:Gl 3 1=> g.l=placesV [1]) rfl rfl rfl rfl rfl (by decide) gl_nodup (fun H hs=> .f ca54 rfl (CallT.mono (Spots_c H exC lb2 0 3 none (exC_at (hs.at_ (lb2,true,.cells ⟨lineC⟩ 25 (0,0)) (by simp))) exC_good (glob_le hGx hs.base)) (by rintro v H' ⟨h1,g,h2,h3,h4⟩;rw[ex_spots] at h2 h3;exact⟨h1,g,h2,h3,h4⟩))) (fun g7 hg7=> ?_))
 refine .m ?_
 refine .x .et ?_
 refine .x .et ?_
 refine .x .et ?_
 refine .g ?_
 refine .g ?_
 refine .g ?_
 refine .done ?_
 refine Tc.lift (L₂:= []) rfl (fun Hy hy=> ?_)
 have y22:Hy b22=some (true,.cells ⟨[.int .i64 20,.int .i64 20]⟩ 23 (0,0)):=hy.get (i:=0) rfl
 have y13:Hy b13=some (true,.cells ⟨[.int .i64 20,.int .i64 19,.int .i64 1,g4.val]⟩ 39 (0,0)):=hy.get (i:=3) rfl
 obtain⟨n1,N1⟩:=Nums.of (H:=Hy) (l:= [0,5]) (hg1.trans (by rw[ex_edges];rfl)) (fun y hy'=> hy.at_ y (by simp[hy']))
 obtain⟨n2,N2⟩:=Nums.of (H:=Hy) (hg2.trans (keepI_eq _ _)) (fun y hy'=> hy.at_ y (by simp[hy']))
 obtain⟨n3,N3⟩:=Nums.of (H:=Hy) (l:= [0]) (hg3.trans (keep_eq ex_reads)) (fun y hy'=> hy.at_ y (by simp[hy']))
 obtain⟨n4,N4⟩:=Nums.of (H:=Hy) (l:= [-3,3]) hg4 (fun y hy'=> hy.at_ y (by simp[hy']))
 obtain⟨n5,N5⟩:=Nums.of (H:=Hy) (l:= [19,20,21]) (hg5.trans (keep_eq ex_paces)) (fun y hy'=> hy.at_ y (by simp[hy']))
 obtain⟨n6,N6⟩:=Nums.of (H:=Hy) (l:= [0]) (hg6.trans (keep_eq ex_sent)) (fun y hy'=> hy.at_ y (by simp[hy']))
 obtain⟨n7,N7⟩:=Nums.of (H:=Hy) (l:= [1]) hg7 (fun y hy'=> hy.at_ y (by simp[hy']))
 have hle2:=View.le_trans hle hy.base
 clear hy x1 x2 x3
 have l2:(keepI exK.sureOf 32).length=16:=by unfold keepI;rw[List.length_map];exact ex_sure.1
 have e2:(keepI exK.sureOf 32)[0]?.getD 0=16:=by unfold keepI;rw[List.getElem?_map,ex_sure.2];rfl
 rw[l2] at n2
 obtain⟨gb2,gn2,gc2,gl2,gj2,q1,q2,q3,q4⟩:=g2
 simp only at n2 N2
 subst n2
 rcases N2 with N2|⟨ab,ao,f2,gs2,gt2,gz2,hA,hB,hC⟩
 · rw[N2] at l2;cases l2
 have hC0:=hC 0 (by omega)
 rw[e2] at hC0
 cases gb2 with
 | none=> cases hA
 | some vb=>
 simp only[Option.map_some,Option.some.injEq,Addr.mk.injEq,and_true] at hA
 obtain⟨rfl,rfl⟩:=hA
 refine Tc.dropB (R':= [(4,g1.val),(5,.int .i64 0),(6,.slice (some ⟨vb,0,none⟩) 16 gc2),(7,.int .i64 0),(8,.int .i64 0),(9,.int .i64 0),(10,g3.val),(11,.int .i64 0),(12,.int .i64 0),(13,.pointer (some ⟨b13,0,none⟩)),(14,.bool true),(15,.int .i64 0),(16,.int .i64 3),(17,.int .i64 0),(18,g5.val),(19,.int .i64 0),(20,g6.val),(21,.int .i64 0),
   (22,.pointer (some ⟨b22,0,none⟩)),(23,.int .i64 0),(24,.int .i64 0),(25,.int .i64 0),(26,.bool true),(27,.int .i64 0),(28,g7.val),(29,.bool true),(30,.int .i64 0)]) (L':= []) ?_ ⟨rfl,rfl,rfl,rfl,rfl,rfl,rfl,rfl,rfl,rfl,rfl,rfl,rfl,rfl,rfl,rfl,rfl,rfl,rfl,rfl,rfl,rfl,rfl,rfl,rfl,rfl,rfl,trivial⟩ (List.Sublist.refl _)
 refine .seq (.sr ?_)
 refine .m ?_
 refine .i ?_ (z:=neq_f (by omega))
 refine .m ?_
 refine .m ?_
 refine .i ?_ (z:=neq_f (by omega))
 refine .x .pk ?_
 refine .m ?_
 refine .m ?_
 refine .i ?_ (z:=neq_f (by omega))
 refine .x .pk ?_
 refine .m ?_
 refine .m ?_
 refine .i ?_ (z:=neq_f (by omega))
 refine .x .pk ?_
 refine .m ?_
 refine .m ?_
 refine .i ?_ (z:=neq_f (by omega))
 refine .x .pk ?_
 refine .m ?_
 refine .m ?_
 refine .i ?_ (z:=neq_f (by omega))
 refine .x .pk ?_
 refine .m ?_
 refine .m ?_
 refine .i ?_ (z:=neq_f (by omega))
 refine .x .pk ?_
 refine .m ?_
 refine .m ?_
 refine .i ?_ (z:=neq_f (by omega))
 refine .x .pk ?_
 refine .m ?_
 refine .m ?_
 refine .i ?_ (z:=neq_f (by omega))
 refine .x .pk ?_
 refine .m ?_
 refine .m ?_
 refine .i ?_ (z:=neq_f (by omega))
 refine .x .pk ?_
 refine .m ?_
 refine .m ?_
 refine .i ?_ (z:=neq_f (by omega))
 refine .x .pk ?_
 refine .done (.ff rfl (.skip (.seq (.seq ?_))))
 refine Tc.dropB (R':= [(4,g1.val),(6,.slice (some ⟨vb,0,none⟩) 16 gc2),(8,.int .i64 0),(10,g3.val),(11,.int .i64 0),(13,.pointer (some ⟨b13,0,none⟩)),(14,.bool true),(16,.int .i64 3),(18,g5.val),(20,g6.val),
   (22,.pointer (some ⟨b22,0,none⟩)),(24,.int .i64 0),(25,.int .i64 0),(26,.bool true),(28,g7.val),(29,.bool true)]) (L':= []) ?_ ⟨rfl,rfl,rfl,rfl,rfl,rfl,rfl,rfl,rfl,rfl,rfl,rfl,rfl,rfl,rfl,rfl,trivial⟩ (List.Sublist.refl _)
 refine Tc.dr [] [] mixed rfl ?_
 refine .q 0 rfl .mv ?_
 refine .q 1 rfl (.it (zz:=neq_f (by omega))) ?_
 refine .q 2 rfl .mv ?_
 refine .q 3 rfl .mv ?_
 refine .q 4 rfl (.it (zz:=neq_f (by omega))) ?_
 refine .q 5 rfl .pk ?_
 refine .q 6 rfl .mv ?_
 refine .q 7 rfl .mv ?_
 refine .q 8 rfl .nt ?_
 refine .q 9 rfl .pk ?_
 refine .q 10 rfl .mv ?_
 refine .q 11 rfl .l0 ?_
 refine Ta.each [12] (by kernel_rfl) rfl ⟨TaOp.mk rfl rfl rfl (.bs (zz:=fun bp=> ⟨S2.mk (by exact List.nil_sublist _) (.inr (by exact List.nil_sublist _)),?_⟩)),trivial⟩
 refine .q 13 rfl .bu ?_
 refine Ta.each [14] (by kernel_rfl) rfl ⟨TaOp.mk rfl rfl rfl (Or.callNew (σ:=Unit) (fun _=> .bool true) (fun _=> []) (fun _=> True) rfl rfl rfl rfl rfl (by decide) (fun _=> by simp) (fun H hs=> .f ca30 rfl (CallT.mono (SamePasts_two _ H 20 19 1 _ (some ⟨bp,0,none⟩) [-3,3] g4.n 2 g4.cap 2 n4 rfl (by decide) (N4.le hs.base) (Nums.lit (hs.get (i:=0) rfl))) (by rintro v H' ⟨h1,h2⟩;exact⟨h1,(),h2,trivial,by simp⟩))) (fun _ _=> ⟨S2.mk (by exact List.nil_sublist _) (.inr (by exact List.nil_sublist _)),?_⟩)),trivial⟩
 refine .q 15 rfl .nt ?_
 refine .q 16 rfl .pk ?_
 refine .q 17 rfl .mv ?_
 refine .q 18 rfl .mv ?_
 refine .q 19 rfl (.it (zz:=neq_f (by omega))) ?_
 refine .q 20 rfl .pk ?_
 refine .q 21 rfl .mv ?_
 refine .q 22 rfl .l0 ?_
 refine .z 23 rfl (OpV.takeCall rfl rfl rfl rfl (fun H hs=> .f ca40 rfl (to_c _ H 20 20))) ?_
 refine .q 24 rfl (OpV.neA (E:=en) true 2 rfl rfl rfl rfl rfl eg23 (by decide) (band_flat 20 20) (band_flat 20 20) ⟨fun _=> rfl,fun _=> rfl⟩) ?_
 refine .q 25 rfl .pk ?_
 refine .q 26 rfl .mv ?_
 refine .q 27 rfl .mv ?_
 refine .q 28 rfl (.it (zz:=neq_f (by omega))) ?_
 refine .q 29 rfl .pk ?_
 refine .q 30 rfl .mv ?_
 refine .q 31 rfl .mv ?_
 refine .q 32 rfl (.it (zz:=neq_f (by omega))) ?_
 refine .q 33 rfl .pk ?_
 refine .q 34 rfl .mv ?_
 refine .q 35 rfl .mv ?_
 refine .q 36 rfl .nt ?_
 refine .q 37 rfl .pk ?_
 refine .q 38 rfl .mv ?_
 refine .q 39 rfl .mv ?_
 refine .q 40 rfl .nt ?_
 refine .q 41 rfl .pk ?_
 refine Ta.done (by kernel_rfl) ?_
 refine .ff rfl (.skip (.seq ?_))
 refine Tc.dropB (R':= [(4,g1.val),(6,.slice (some ⟨vb,0,none⟩) 16 gc2),(10,g3.val),(18,g5.val),(20,g6.val),(28,g7.val)]) (L':= []) ?_ ⟨rfl,rfl,rfl,rfl,rfl,rfl,trivial⟩ (List.nil_sublist _)
 refine .r ?_
 refine .m ?_
 refine .e (.bs (zz:=fun c1=> ?_))
 refine .c rfl rfl rfl rfl (fun H hs=> .f ca23 rfl (SameNums_two _ H _ (some ⟨c1,0,none⟩) [0,5] g1.n 2 g1.cap 2 n1 rfl (by decide) (N1.le hs.base) (Nums.lit (hs.get (i:=0) rfl)))) ?_
 refine .m ?_
 refine .m ?_
 refine .x .ln ?_
 refine .i ?_ (z:=eql_t (by omega))
 refine .x .pk ?_
 refine .m ?_
 refine .m ?_
 refine .x .ia ?_
 refine .x .l0 ?_
 refine .i ?_ (z:=eql_t (by omega))
 refine .x .pk ?_
 refine .m ?_
 refine .m ?_
 refine .e (.bs (zz:=fun c2=> ?_))
 refine .c rfl rfl rfl rfl (fun H hs=> .f ca23 rfl (SameNums_two _ H _ (some ⟨c2,0,none⟩) [0] g3.n 1 g3.cap 1 n3 rfl (by decide) (N3.le hs.base) (Nums.lit (hs.get (i:=0) rfl)))) ?_
 refine .x .pk ?_
 refine .m ?_
 refine .m ?_
 refine .e (.bs (zz:=fun c3=> ?_))
 refine .c rfl rfl rfl rfl (fun H hs=> .f ca23 rfl (SameNums_two _ H _ (some ⟨c3,0,none⟩) [19,20,21] g5.n 3 g5.cap 3 n5 rfl (by decide) (N5.le hs.base) (Nums.lit (hs.get (i:=0) rfl)))) ?_
 refine .x .pk ?_
 refine .m ?_
 refine .m ?_
 refine .e (.bs (zz:=fun c4=> ?_))
 refine .c rfl rfl rfl rfl (fun H hs=> .f ca23 rfl (SameNums_two _ H _ (some ⟨c4,0,none⟩) [0] g6.n 1 g6.cap 1 n6 rfl (by decide) (N6.le hs.base) (Nums.lit (hs.get (i:=0) rfl)))) ?_
 refine .x .pk ?_
 refine .m ?_
 refine .m ?_
 refine .e (.bs (zz:=fun c5=> ?_))
 refine .c rfl rfl rfl rfl (fun H hs=> .f ca23 rfl (SameNums_two _ H _ (some ⟨c5,0,none⟩) [1] g7.n 1 g7.cap 1 n7 rfl (by decide) (N7.le hs.base) (Nums.lit (hs.get (i:=0) rfl)))) ?_
 refine .x .pk ?_
 refine .g ?_
 refine .done ?_
 refine .rt hK Tryz.func31 Tryz.results31 [_] ?_
 exact fun H' hs=> ⟨View.le_trans hle2 hs.base,rfl⟩
end Go.Proofs.YtpdaenfglbgfkaaGreatDoor
end
section
namespace Go.Proofs.YtpdaenfglbgfkaaGreatDoor
open Go.RL
set_option maxRecDepth 10000
set_option maxHeartbeats 8000000
end Go.Proofs.YtpdaenfglbgfkaaGreatDoor
end
section
namespace Go.Proofs.YtpdaenfglbgfkaaGreatDoor
open Go.RL
set_option maxRecDepth 10000
set_option maxHeartbeats 8000000
section
variable(M:Md Tryz.prog)(H:View)
end
end Go.Proofs.YtpdaenfglbgfkaaGreatDoor
end
section
namespace Go.Proofs.YtpdaenfglbgfkaaGreatDoor
open Go.RL
set_option maxRecDepth 10000
set_option maxHeartbeats 8000000
end Go.Proofs.YtpdaenfglbgfkaaGreatDoor
end
section
namespace Go.Proofs.YtpdaenfglbgfkaaGreatDoor
open Go.RL
set_option maxRecDepth 10000
def at0(l:List Int)(i:Nat):Int:=l[i]?.getD 0
structure Turned(a b:Nat)(l m:List Int):Prop where
 len:m.length=l.length
 cnt:∀x,m.count x=l.count x
 out:∀i,i<a∨b≤i→at0 m i=at0 l i
def Srt(a b:Nat)(l:List Int):Prop:=∀p q,a≤p→p<q→q<b→at0 l p≤at0 l q
end Go.Proofs.YtpdaenfglbgfkaaGreatDoor
end
section
namespace Go.RL
open Go.Conc
end Go.RL
namespace Go.Proofs.YtpdaenfglbgfkaaGreatDoor
open Go.RL
set_option maxRecDepth 10000
set_option maxHeartbeats 4000000
section
variable(M:Md Tryz.prog)(H:View)
end
end Go.Proofs.YtpdaenfglbgfkaaGreatDoor
end
section
namespace Go.Proofs.YtpdaenfglbgfkaaGreatDoor
open Go.RL
set_option maxRecDepth 10000
set_option maxHeartbeats 8000000
section
variable(M:Md Tryz.prog)(H:View)
end
end Go.Proofs.YtpdaenfglbgfkaaGreatDoor
end
section
namespace Go.Proofs.YtpdaenfglbgfkaaGreatDoor
open Go.RL
set_option maxRecDepth 10000
def Heap(f lo hi:Nat)(l:List Int):Prop:=∀k c,lo≤k→(c=2*k+1∨c=2*k+2)→c<hi→at0 l (f+c)≤at0 l (f+k)
end Go.Proofs.YtpdaenfglbgfkaaGreatDoor
end
section
namespace Go.Proofs.YtpdaenfglbgfkaaGreatDoor
open Go.RL
set_option maxRecDepth 10000
set_option maxHeartbeats 8000000
section
variable(M:Md Tryz.prog)(H:View)
end
end Go.Proofs.YtpdaenfglbgfkaaGreatDoor
end
section
namespace Go.Proofs.YtpdaenfglbgfkaaGreatDoor
open Go.RL
set_option maxRecDepth 10000
set_option maxHeartbeats 8000000
structure HeapTo(f hi s:Nat)(u:List Int):Prop where
 heap:Heap f 0 s u
 srt:Srt (f+s) (f+hi) u
 low:∀p q,p<s→s≤q→q<hi→at0 u (f+p)≤at0 u (f+q)
section
variable(M:Md Tryz.prog)(H:View)
end
end Go.Proofs.YtpdaenfglbgfkaaGreatDoor
end
section
namespace Go.Proofs.YtpdaenfglbgfkaaGreatDoor
open Go.RL
set_option maxRecDepth 10000
set_option maxHeartbeats 8000000
section
variable(M:Md Tryz.prog)(H:View)
end
end Go.Proofs.YtpdaenfglbgfkaaGreatDoor
end
section
namespace Go.Proofs.YtpdaenfglbgfkaaGreatDoor
open Go.RL
set_option maxRecDepth 10000
set_option maxHeartbeats 8000000
section
variable(M:Md Tryz.prog)(H:View)
end
end Go.Proofs.YtpdaenfglbgfkaaGreatDoor
end
section
namespace Go.Proofs.YtpdaenfglbgfkaaGreatDoor
open Go.RL
set_option maxRecDepth 10000
structure Pti(a b i j:Nat)(u:List Int):Prop where
 ai:a+1≤i
 ij:i≤j+1
 jb:j<b
 aj:a≤j
 lo:∀k,a<k→k<i→at0 u k<at0 u a
 hi:∀k,j<k→k<b→at0 u a≤at0 u k
structure Part(a b j:Nat)(u:List Int):Prop where
 aj:a≤j
 jb:j<b
 lo:∀k,a≤k→k<j→at0 u k<at0 u j
 hi:∀k,j<k→k<b→at0 u j≤at0 u k
end Go.Proofs.YtpdaenfglbgfkaaGreatDoor
end
section
namespace Go.Proofs.YtpdaenfglbgfkaaGreatDoor
open Go.RL
set_option maxRecDepth 10000
set_option maxHeartbeats 16000000
section
variable(M:Md Tryz.prog)(H:View)
end
end Go.Proofs.YtpdaenfglbgfkaaGreatDoor
end
section
namespace Go.Proofs.YtpdaenfglbgfkaaGreatDoor
open Go.RL
set_option maxRecDepth 10000
set_option maxHeartbeats 8000000
section
variable(M:Md Tryz.prog)(H:View)
end
end Go.Proofs.YtpdaenfglbgfkaaGreatDoor
end
section
namespace Go.Proofs.YtpdaenfglbgfkaaGreatDoor
open Go.RL
set_option maxRecDepth 10000
set_option maxHeartbeats 8000000
def bl(x:Nat):Nat:=if x=0 then 0 else Nat.log2 x+1
section
variable(M:Md Tryz.prog)(H:View)
end
end Go.Proofs.YtpdaenfglbgfkaaGreatDoor
end
section
namespace Go.Proofs.YtpdaenfglbgfkaaGreatDoor
open Go.RL
set_option maxRecDepth 10000
set_option maxHeartbeats 8000000
section
variable(M:Md Tryz.prog)(H:View)
end
end Go.Proofs.YtpdaenfglbgfkaaGreatDoor
end
section
namespace Go.Proofs.YtpdaenfglbgfkaaGreatDoor
open Go.RL
set_option maxRecDepth 10000
set_option maxHeartbeats 8000000
section
variable(M:Md Tryz.prog)(H:View)
end
end Go.Proofs.YtpdaenfglbgfkaaGreatDoor
end
section
namespace Go.Proofs.YtpdaenfglbgfkaaGreatDoor
open Go.RL
set_option maxRecDepth 10000
end Go.Proofs.YtpdaenfglbgfkaaGreatDoor
end
section
namespace Go.Proofs.YtpdaenfglbgfkaaGreatDoor
open Go.RL
set_option maxRecDepth 10000
set_option maxHeartbeats 16000000
section
variable(M:Md Tryz.prog)
end
end Go.Proofs.YtpdaenfglbgfkaaGreatDoor
end
section
namespace Go.Proofs.YtpdaenfglbgfkaaGreatDoor
open Go.RL
set_option maxRecDepth 10000
set_option maxHeartbeats 8000000
section
variable(M:Md Tryz.prog)(H:View)
end
end Go.Proofs.YtpdaenfglbgfkaaGreatDoor
end
section
namespace Go.Proofs.YtpdaenfglbgfkaaGreatDoor
open Go.RL
set_option maxRecDepth 10000
set_option maxHeartbeats 4000000
section
variable(M:Md Tryz.prog)(H:View)
end
end Go.Proofs.YtpdaenfglbgfkaaGreatDoor
end
section
namespace Go.Proofs.YtpdaenfglbgfkaaGreatDoor
open Go.RL
set_option maxRecDepth 10000
set_option maxHeartbeats 4000000
structure Tells(k:Lk)(c:Nat)(rd:Option Nat):Prop where
 always:k.claim c=1→rd=some c∧keepI (k.canRead c) 32= [(c:Int)]∧k.refused c=2
 never:k.claim c=2→rd≠some c
 refused:k.refused c=1→rd=none
 taken:k.refused c=2→rd≠none
 found:∀n,rd=some n→(n:Int)∈keepI (k.canRead c) 32
 sure:k.sureOf c=true↔k.claim c=1
end Go.Proofs.YtpdaenfglbgfkaaGreatDoor
end
section
namespace Go.Proofs.YtpdaenfglbgfkaaGreatDoor
open Go.RL
set_option maxRecDepth 10000
set_option maxHeartbeats 4000000
end Go.Proofs.YtpdaenfglbgfkaaGreatDoor
end
section
namespace Go.Proofs.YtpdaenfglbgfkaaGreatDoor
open Go.RL
set_option maxRecDepth 10000
set_option maxHeartbeats 8000000
section
variable(M:Md Tryz.prog)(H:View)
theorem IsCode_is(x:Int)(t:Bool)(ht:decide (0≤x∧x≤31)=t):CallT M 93 #[.int .i64 x] H (fun v H'=> H.le H'∧v=.bool t):=by
 refine CallT.enter (vs:= [.int .i64 x]) Tryz.func93 rfl Tryz.ntmps93 (Nat.le_of_ble_eq_true rfl) (SymSt.nil _) fun St c cs hK=> ?_
 refine .sr ?_
 refine .g ?_
 refine .done (.sr ?_)
 refine .m ?_
 refine .c rfl rfl rfl rfl (fun H hs=> .f ca59 rfl (CallT.is (.bool t) (by rewrite [ht];rfl) (In_c M H x 0 31))) ?_
 refine .g ?_
 refine .done ?_
 refine .rt hK Tryz.func93 Tryz.results93 [_] ?_
 exact fun H' hs=> ⟨hs.base,rfl⟩
theorem refLink_is(k:Lk)(t:Bool)(ht:k.ok=t)(n:Int)(hn:n=if t then 0 else 1):CallT M 61 #[k.val] H (fun v H'=> H.le H'∧v=.int .i64 n):=
 CallT.mono (refLink_c M H k) (by rintro v H' ⟨h1,h2⟩;rw[ht] at h2;rw[hn];exact⟨h1,h2⟩)
def Bad(k:Lk)(co:Int):Prop:=k.ok=false∨¬(0≤co∧co≤31)
theorem Bad.no {k:Lk}{co:Int}(h:Bad k co):¬(k.ok=true∧0≤co∧co≤31):=fun⟨h1,h2⟩=> h.elim (fun h=> by rw[h1] at h;cases h) (fun h=> h h2)
end
end Go.Proofs.YtpdaenfglbgfkaaGreatDoor
end
section
namespace Go.Proofs.YtpdaenfglbgfkaaGreatDoor
open Go.RL
set_option maxRecDepth 10000
set_option maxHeartbeats 8000000
section
variable(M:Md Tryz.prog)(H:View)
end
end Go.Proofs.YtpdaenfglbgfkaaGreatDoor
end
section
namespace Go.Proofs.YtpdaenfglbgfkaaGreatDoor
open Go.RL
set_option maxRecDepth 10000
set_option maxHeartbeats 4000000
def Lk.sent(k:Lk)(a b:Int):Lk:=⟨a,b,k.r0,k.r1,k.l0,k.l1,k.m0,k.m1⟩
section
variable(M:Md Tryz.prog)(H:View)
theorem Index_4(b cap:Nat)(hb:H b=some (true,.cells ⟨[.int .i64 2,.int .i64 4,.int .i64 6]⟩ 3 (0,0))):CallT M 154 #[.slice (some ⟨b,0,none⟩) 3 cap,.int .i64 4] H (fun v H'=> H.le H'∧v=.int .i64 1):=by
 refine CallT.enter (vs:= [.slice (some ⟨b,0,none⟩) 3 cap,.int .i64 4]) Tryz.func154 rfl Tryz.ntmps154 (Nat.le_of_ble_eq_true rfl) (SymSt.nil _) fun St c cs hK=> ?_
 refine .sr ?_
 refine .g ?_
 refine .done (.seq (.sr ?_))
 refine .m ?_
 refine .x .ln ?_
 refine .m ?_
 refine .done (.block (.loop (.sr ?_)))
 refine .i ?_ (z:=lss_t (by omega))
 refine .done (.seq (.tt rfl (.skip (.seq (.block (.sr ?_))))))
 refine .m ?_
 refine .g ?_
 refine .done (.sr ?_)
 refine .m ?_
 refine .m ?_
 refine .m ?_
 refine .x .ia ?_
 refine .x .l0 ?_
 refine .i ?_ (z:=eql_f (by omega))
 refine .done (.ff rfl (.skip (.inBlock (.r ?_))))
 refine .i ?_ (z:=add_in (by omega) (by omega))
 refine .m ?_
 refine .done ?_
 refine Tc.inLoop ?_
 refine .sr ?_
 refine .i ?_ (z:=lss_t (by omega))
 refine .done (.seq (.tt rfl (.skip (.seq (.block (.sr ?_))))))
 refine .m ?_
 refine .g ?_
 refine .done (.sr ?_)
 refine .m ?_
 refine .m ?_
 refine .m ?_
 refine .x .ia ?_
 refine .x .l0 ?_
 refine .i ?_ (z:=eql_t (by omega))
 refine .done (.tt rfl (.sr ?_))
 refine .m ?_
 refine .g ?_
 refine .done ?_
 refine .rt hK Tryz.func154 Tryz.results154 [_] ?_
 exact fun H' hs=> ⟨hs.base,rfl⟩
theorem Index_6(b cap:Nat)(hb:H b=some (true,.cells ⟨[.int .i64 2,.int .i64 4,.int .i64 6]⟩ 3 (0,0))):CallT M 154 #[.slice (some ⟨b,0,none⟩) 3 cap,.int .i64 6] H (fun v H'=> H.le H'∧v=.int .i64 2):=by
 refine CallT.enter (vs:= [.slice (some ⟨b,0,none⟩) 3 cap,.int .i64 6]) Tryz.func154 rfl Tryz.ntmps154 (Nat.le_of_ble_eq_true rfl) (SymSt.nil _) fun St c cs hK=> ?_
 refine .sr ?_
 refine .g ?_
 refine .done (.seq (.sr ?_))
 refine .m ?_
 refine .x .ln ?_
 refine .m ?_
 refine .done (.block (.loop (.sr ?_)))
 refine .i ?_ (z:=lss_t (by omega))
 refine .done (.seq (.tt rfl (.skip (.seq (.block (.sr ?_))))))
 refine .m ?_
 refine .g ?_
 refine .done (.sr ?_)
 refine .m ?_
 refine .m ?_
 refine .m ?_
 refine .x .ia ?_
 refine .x .l0 ?_
 refine .i ?_ (z:=eql_f (by omega))
 refine .done (.ff rfl (.skip (.inBlock (.r ?_))))
 refine .i ?_ (z:=add_in (by omega) (by omega))
 refine .m ?_
 refine .done ?_
 refine Tc.inLoop ?_
 refine .sr ?_
 refine .i ?_ (z:=lss_t (by omega))
 refine .done (.seq (.tt rfl (.skip (.seq (.block (.sr ?_))))))
 refine .m ?_
 refine .g ?_
 refine .done (.sr ?_)
 refine .m ?_
 refine .m ?_
 refine .m ?_
 refine .x .ia ?_
 refine .x .l0 ?_
 refine .i ?_ (z:=eql_f (by omega))
 refine .done (.ff rfl (.skip (.inBlock (.r ?_))))
 refine .i ?_ (z:=add_in (by omega) (by omega))
 refine .m ?_
 refine .done ?_
 refine Tc.inLoop ?_
 refine .sr ?_
 refine .i ?_ (z:=lss_t (by omega))
 refine .done (.seq (.tt rfl (.skip (.seq (.block (.sr ?_))))))
 refine .m ?_
 refine .g ?_
 refine .done (.sr ?_)
 refine .m ?_
 refine .m ?_
 refine .m ?_
 refine .x .ia ?_
 refine .x .l0 ?_
 refine .i ?_ (z:=eql_t (by omega))
 refine .done (.tt rfl (.sr ?_))
 refine .m ?_
 refine .g ?_
 refine .done ?_
 refine .rt hK Tryz.func154 Tryz.results154 [_] ?_
 exact fun H' hs=> ⟨hs.base,rfl⟩
theorem Contains_of(x i:Int)(hi:0≤i)(b cap:Nat)(h:∀H',H.le H'→CallT M 154 #[.slice (some ⟨b,0,none⟩) 3 cap,.int .i64 x] H' (fun v H''=> H'.le H''∧v=.int .i64 i)):CallT M 110 #[.slice (some ⟨b,0,none⟩) 3 cap,.int .i64 x] H (fun v H'=> H.le H'∧v=.bool true):=by
 refine CallT.enter (vs:= [.slice (some ⟨b,0,none⟩) 3 cap,.int .i64 x]) Tryz.func110 rfl Tryz.ntmps110 (Nat.le_of_ble_eq_true rfl) (SymSt.nil _) fun St c cs hK=> ?_
 refine .sr ?_
 refine .g ?_
 refine .done (.sr ?_)
 refine .m ?_
 refine .m ?_
 refine .c rfl rfl rfl rfl (fun H hs=> .f ca154 rfl (h H hs.base)) ?_
 refine .i ?_ (z:=geq_t (by omega))
 refine .g ?_
 refine .done ?_
 refine .rt hK Tryz.func110 Tryz.results110 [_] ?_
 exact fun H' hs=> ⟨hs.base,rfl⟩
theorem Contains_any(m:Nat)(h:m=2∨m=4∨m=6)(b cap:Nat)(hb:H b=some (true,.cells ⟨[.int .i64 2,.int .i64 4,.int .i64 6]⟩ 3 (0,0))):CallT M 110 #[.slice (some ⟨b,0,none⟩) 3 cap,.int .i64 (m:Nat)] H (fun v H'=> H.le H'∧v=.bool true):=by
 rcases h with rfl|rfl|rfl
 · exact Contains_2 M H b cap hb
 · exact Contains_of M H 4 1 (by decide) b cap fun H' h=> Index_4 M H' b cap (h _ _ hb)
 · exact Contains_of M H 6 2 (by decide) b cap fun H' h=> Index_6 M H' b cap (h _ _ hb)
theorem Sent_c(k:Lk)(hG:Glob H)(hk:k.ok=true)(l:List Int)(hl:Told l)(h2:l.length=2∨l.length=4∨l.length=6)(A:Option Addr)(n cap:Nat)(hn:n=l.length)(hT:TimesAt H A l):CallT M 46 #[k.val,.slice A n cap] H (ToldQ (keepTo (k.sentOf l) 32) H):=by
 subst hn
 refine CallT.enter (vs:= [k.val,.slice A l.length cap]) Tryz.func46 rfl Tryz.ntmps46 (Nat.le_of_ble_eq_true rfl) (SymSt.nil _) fun St c cs hK=> ?_
 have hp6:=pad6_len hl.len
 have lA:Nat.beq (intsL (pad6 l)).length 6=true:=by rw[intsL_len,hp6];rfl
 have lB:(intsL (pad6 l)).all single=true:=by
   rw[List.all_eq_true]
   intro y hy
   obtain⟨z,_,rfl⟩:=List.mem_map.1 hy
   rfl
 have lC:stL [Value.int .i64 0,.int .i64 0,.int .i64 0,.int .i64 0,.int .i64 0,.int .i64 0] 0 (intsL (pad6 l))=intsL (pad6 l):=by
   unfold stL
   rw[List.take_zero,List.nil_append,List.drop_eq_nil_of_le (by rw[intsL_len,hp6];simp),List.append_nil]
 refine .sr ?_
 refine .e (.bx (zz:=fun b2=> ?_))
 refine .e (.bx (zz:=fun b3=> ?_))
 refine .g ?_
 refine .g ?_
 refine .done (.seq (.sr ?_))
 refine .x (.ld 1) ?_
 refine .c rfl rfl rfl rfl (fun H hs=> .f ca86 rfl (checkLink_good M H k (glob_le hG hs.base) hk)) ?_
 refine .g ?_
 refine .done (.sr ?_)
 refine .m ?_
 refine .i ?_ (z:=neq_f (by omega))
 refine .done (.ff rfl (.skip (.seq (.sr ?_))))
 refine .e (.bs (zz:=fun b4=> ?_))
 refine .x (.ld 1) ?_
 refine .x .ln ?_
 refine .c rfl rfl rfl rfl (fun H hs=> .f ca110 rfl (Contains_any M H l.length h2 b4 3 (hs.get (i:=0) rfl))) ?_
 refine .x .nt ?_
 refine .done (.ff rfl (.skip (.sr ?_)))
 refine .x (.ld 1) ?_
 refine .c rfl rfl rfl rfl (fun H hs=> .f ca111 rfl (told_c M H l hl A cap (hT.le hs.base))) ?_
 refine .m ?_
 refine .x .et ?_
 refine .x .et ?_
 refine .e (.al (zz:=fun b7=> ?_))
 refine .e (Or.storeT (E:=en) 0 rfl rfl rfl rfl rfl lA rfl (by exact rfl) lB rfl lC ?_)
 refine .g ?_
 refine .done (.seq (.sr ?_))
 refine .m ?_
 refine .i ?_ (z:=neq_f (by omega))
 refine .done (.ff rfl (.skip (.sr ?_)))
 refine .x .mf ?_
 refine .e (Or.callNew Gl.val Gl.bl (fun g:Gl 3 1=> g.l=keepTo (k.sentOf l) 32) rfl rfl rfl rfl rfl (by decide) gl_nodup (fun H hs=> .f ca97 rfl (keep_n M H 32 _ (k.sentOf l) (by decide) (sent_asks M H k (Lk.fine hk) l hl (by omega) A cap b3 b2 b7 (hs.get (i:=2) rfl) (hs.get (i:=3) rfl) (hs.get (i:=0) rfl)))) (fun g hg=> ?_))
 refine .g ?_
 refine .g ?_
 refine .done ?_
 refine .rt hK Tryz.func46 Tryz.results46 [_,_] ?_
 exact fun H' hs=> ⟨hs.base,g,rfl,hg,fun y hy=> ⟨hs.at_ y (by simp[hy]),hs.out y (by simp[hy])⟩⟩
theorem Tune_tally(k:Lk)(code:Nat)(hG:Glob H)(hk:k.ok=true)(hc:code<32)(A:Option Addr)(n cap:Nat)(hn:n≠(placesTo code 7).length):
   CallT M 48 #[k.val,.int .i64 code,.slice A n cap] H (fun v H'=> H.le H'∧v=.tuple ⟨[bandV 0 0,.int .i64 2]⟩):=by
 refine CallT.enter (vs:= [k.val,.int .i64 code,.slice A n cap]) Tryz.func48 rfl Tryz.ntmps48 (Nat.le_of_ble_eq_true rfl) (SymSt.nil _) fun St c cs hK=> ?_
 refine .sr ?_
 refine .e (.bx (zz:=fun b3=> ?_))
 refine .e (.al (zz:=fun b6=> ?_))
 refine .g ?_
 refine .done (.sr ?_)
 refine .x (.ld 1) ?_
 refine .m ?_
 refine .e (Or.callNew (fun x=> .tuple ⟨[k.val,letN code x,.int .i64 0]⟩) (letB code) (fun x=> (placesTo code 7).length≤x.2.1) rfl rfl rfl rfl rfl (by decide) (letB_nodup code) (fun H hs=> .f ca89 rfl (open_m M H k code (glob_le hG hs.base) hk hc)) (fun x hx=> ?_))
 refine .m ?_
 refine .x .et ?_
 refine .x .et ?_
 refine .x .et ?_
 refine .e (.al (zz:=fun b8=> ?_))
 refine .e (.al (zz:=fun b9=> ?_))
 refine .e (.st 1 (zz:=?_))
 refine .e (.st 0 (zz:=?_))
 refine .g ?_
 refine .done (.seq (.sr ?_))
 refine .m ?_
 refine .i ?_ (z:=neq_f (by omega))
 refine .done (.ff rfl (.skip (.seq (.sr ?_))))
 refine .m ?_
 refine .x .ln ?_
 refine .x .fa ?_
 refine .x (.ld 0) ?_
 refine .x .ln ?_
 refine .i ?_ (z:=neq_t (by omega))
 refine .done (.tt rfl (.sr ?_))
 refine .x .bu ?_
 refine .e (.st 2 (zz:=?_))
 refine .g ?_
 refine .done ?_
 refine Tc.retN (E:=en) hK Tryz.func48 Tryz.results48 (vs:= [_,_]) (by refine⟨⟨2,_,_,_,_,_,_,_,rfl,rfl,rfl,rfl⟩,?_⟩;refine⟨rfl,?_⟩;exact trivial) ?_
 exact fun H2 hs=> ⟨hs.base,rfl⟩
theorem Learn_yes(k:Lk)(code a b:Int)(A:Option Addr)(n cap:Nat)(hT:∀H',H.le H'→CallT M 48 #[k.val,.int .i64 code,.slice A n cap] H' (fun v H''=> H'.le H''∧v=.tuple ⟨[bandV a b,.int .i64 0]⟩)):
   CallT M 50 #[k.val,.int .i64 code,.slice A n cap] H (fun v H'=> H.le H'∧v=.tuple ⟨[(k.sent a b).val,.int .i64 0]⟩):=by
 refine CallT.enter (vs:= [k.val,.int .i64 code,.slice A n cap]) Tryz.func50 rfl Tryz.ntmps50 (Nat.le_of_ble_eq_true rfl) (SymSt.nil _) fun St c cs hK=> ?_
 refine .sr ?_
 refine .e (.bx (zz:=fun b3=> ?_))
 refine .e (.al (zz:=fun b6=> ?_))
 refine .g ?_
 refine .done (.sr ?_)
 refine .x (.ld 1) ?_
 refine .m ?_
 refine .m ?_
 refine .c rfl rfl rfl rfl (fun H hs=> .f ca48 rfl (hT H hs.base)) ?_
 refine .m ?_
 refine .x .et ?_
 refine .x .et ?_
 refine .e (.al (zz:=fun b8=> ?_))
 refine .e (.st 0 (zz:=?_))
 refine .g ?_
 refine .done (.seq (.sr ?_))
 refine .m ?_
 refine .i ?_ (z:=neq_f (by omega))
 refine .done (.ff rfl (.skip (.sr ?_)))
 refine .x (.ld 0) ?_
 refine .x .fa ?_
 refine .e (.st 2 (zz:=?_))
 refine .done (.sr ?_)
 refine .x (.ld 2) ?_
 refine .e (.st 1 (zz:=?_))
 refine .g ?_
 refine .done ?_
 refine Tc.retN (E:=en) hK Tryz.func50 Tryz.results50 (vs:= [_,_]) (by refine⟨⟨1,_,_,_,_,_,_,_,rfl,rfl,rfl,rfl⟩,?_⟩;refine⟨rfl,?_⟩;exact trivial) ?_
 exact fun H' hs=> ⟨hs.base,rfl⟩
theorem Learn_no(k:Lk)(code e:Int)(he:e≠0)(A:Option Addr)(n cap:Nat)(hT:∀H',H.le H'→CallT M 48 #[k.val,.int .i64 code,.slice A n cap] H' (fun v H''=> H'.le H''∧v=.tuple ⟨[bandV 0 0,.int .i64 e]⟩)):
   CallT M 50 #[k.val,.int .i64 code,.slice A n cap] H (fun v H'=> H.le H'∧v=.tuple ⟨[lk0.val,.int .i64 e]⟩):=by
 refine CallT.enter (vs:= [k.val,.int .i64 code,.slice A n cap]) Tryz.func50 rfl Tryz.ntmps50 (Nat.le_of_ble_eq_true rfl) (SymSt.nil _) fun St c cs hK=> ?_
 refine .sr ?_
 refine .e (.bx (zz:=fun b3=> ?_))
 refine .e (.al (zz:=fun b6=> ?_))
 refine .g ?_
 refine .done (.sr ?_)
 refine .x (.ld 1) ?_
 refine .m ?_
 refine .m ?_
 refine .c rfl rfl rfl rfl (fun H hs=> .f ca48 rfl (hT H hs.base)) ?_
 refine .m ?_
 refine .x .et ?_
 refine .x .et ?_
 refine .e (.al (zz:=fun b8=> ?_))
 refine .e (.st 0 (zz:=?_))
 refine .g ?_
 refine .done (.seq (.sr ?_))
 refine .m ?_
 refine .i ?_ (z:=neq_t (by omega))
 refine .done (.tt rfl (.sr ?_))
 refine .x .bu ?_
 refine .m ?_
 refine .e (.st 1 (zz:=?_))
 refine .g ?_
 refine .done ?_
 refine Tc.retN (E:=en) hK Tryz.func50 Tryz.results50 (vs:= [_,_]) (by refine⟨⟨1,_,_,_,_,_,_,_,rfl,rfl,rfl,rfl⟩,?_⟩;refine⟨rfl,?_⟩;exact trivial) ?_
 exact fun H' hs=> ⟨hs.base,rfl⟩
end
end Go.Proofs.YtpdaenfglbgfkaaGreatDoor
end
section
namespace Go.Proofs.YtpdaenfglbgfkaaGreatDoor
open Go.RL
set_option maxRecDepth 10000
set_option maxHeartbeats 8000000
theorem eg27:Tryz.prog.eqGuardType Tryz.prog.depth 27=false:=by kernel_rfl
theorem line_flat(a b c d:Int):flat en 3 25 [.int .i64 a,.int .i64 b,.int .i64 c,.int .i64 d]:=by
 refine⟨rfl,?_⟩
 intro f hf
 simp only[List.mem_cons,List.not_mem_nil,or_false] at hf
 rcases hf with rfl|rfl
 · exact⟨band_flat a b,_,rfl,rfl,Nat.le_of_ble_eq_true rfl⟩
 · exact⟨band_flat c d,_,rfl,rfl,Nat.le_of_ble_eq_true rfl⟩
theorem band_flat3(a b:Int):flat en 3 23 [.int .i64 a,.int .i64 b]:=by
 refine⟨rfl,?_⟩
 intro f hf
 simp only[List.mem_cons,List.not_mem_nil,or_false] at hf
 rcases hf with rfl|rfl
 · exact⟨⟨_,rfl⟩,_,rfl,rfl,Nat.le_of_ble_eq_true rfl⟩
 · exact⟨⟨_,rfl⟩,_,rfl,rfl,Nat.le_of_ble_eq_true rfl⟩
theorem link_flat(k:Lk):flat en 4 27 [.int .i64 k.s0,.int .i64 k.s1,.int .i64 k.r0,.int .i64 k.r1,.int .i64 k.l0,.int .i64 k.l1,.int .i64 k.m0,.int .i64 k.m1]:=by
 refine⟨rfl,?_⟩
 intro f hf
 simp only[List.mem_cons,List.not_mem_nil,or_false] at hf
 rcases hf with rfl|rfl|rfl
 · exact⟨band_flat3 k.s0 k.s1,_,rfl,rfl,Nat.le_of_ble_eq_true rfl⟩
 · exact⟨band_flat3 k.r0 k.r1,_,rfl,rfl,Nat.le_of_ble_eq_true rfl⟩
 · exact⟨line_flat k.l0 k.l1 k.m0 k.m1,_,rfl,rfl,Nat.le_of_ble_eq_true rfl⟩
end Go.Proofs.YtpdaenfglbgfkaaGreatDoor
end
section
namespace Go.Proofs.YtpdaenfglbgfkaaGreatDoor
open Go.RL
set_option maxRecDepth 10000
set_option maxHeartbeats 8000000
def seenL(ps:List Nat)(mv:List Int)(a n:Int):List Int:=(List.range ps.length).map (seenAt ps mv a n)
theorem after_seen {ps:List Nat}{mv:List Int}{a n:Int}{i:Nat}(hi:i<ps.length)(h6:ps.length≤6):(afterTo (seenTo ps mv a n ps.length) ps.length)[i]?.getD 0=seenAt ps mv a n i-seenAt ps mv a n 0:=by
 have f1:(seenTo ps mv a n ps.length)[i]? =some (seenAt ps mv a n i):=by
   unfold seenTo
   rw[List.getElem?_map,List.getElem?_range (by omega)]
   simp[hi]
 have e1:(seenTo ps mv a n ps.length)[0]? =some (seenAt ps mv a n 0):=by
   unfold seenTo
   rw[List.getElem?_map,List.getElem?_range (by omega)]
   simp[show 0<ps.length by omega]
 have g1:(seenTo ps mv a n ps.length).headD 0=seenAt ps mv a n 0:=by
   rw[List.headD_eq_head?_getD,List.head?_eq_getElem?,e1]
   rfl
 rw[afterTo_get f1,if_pos hi,g1]
 rfl
section
variable(M:Md Tryz.prog)(H:View)
end
end Go.Proofs.YtpdaenfglbgfkaaGreatDoor
end
section
namespace Go.Proofs.YtpdaenfglbgfkaaGreatDoor
open Go.RL
set_option maxRecDepth 10000
set_option maxHeartbeats 8000000
inductive PErr(k:Lk):Int→Int→Int→Int→List Int→Int→Prop
 | bad {co a r n:Int} {mv:List Int}:Bad k co→PErr k co a r n mv 1
 | send {co:Nat} {a r n:Int} {mv:List Int}:k.ok=true→co<32→¬(k.s0≤a∧a≤k.s1)→PErr k co a r n mv 1
 | read {co:Nat} {a r n:Int} {mv:List Int}:k.ok=true→co<32→(k.s0≤a∧a≤k.s1)→¬(k.r0≤r∧r≤k.r1)→PErr k co a r n mv 1
 | lean {co:Nat} {a r n:Int} {mv:List Int}:k.ok=true→co<32→(k.s0≤a∧a≤k.s1)→(k.r0≤r∧r≤k.r1)→¬(k.l0≤n∧n≤k.l1)→PErr k co a r n mv 1
 | tally {co:Nat} {a r n:Int} {mv:List Int}:k.ok=true→co<32→(k.s0≤a∧a≤k.s1)→(k.r0≤r∧r≤k.r1)→(k.l0≤n∧n≤k.l1)→mv.length≠(placesTo co 7).length→PErr k co a r n mv 2
 | move {co:Nat} {a r n:Int} {mv:List Int} {j:Nat}:k.ok=true→co<32→(k.s0≤a∧a≤k.s1)→(k.r0≤r∧r≤k.r1)→(k.l0≤n∧n≤k.l1)→mv.length=(placesTo co 7).length→j<mv.length→(∀i,i<j→k.m0≤mv[i]?.getD 0∧mv[i]?.getD 0≤k.m1)→¬(k.m0≤mv[j]?.getD 0∧mv[j]?.getD 0≤k.m1)→PErr k co a r n mv 1
theorem firstBad {p:Nat→Prop} [DecidablePred p]:∀n:Nat,(∀i,i<n→p i)∨∃j,j<n∧(∀i,i<j→p i)∧¬p j
 | 0=> .inl fun i h=> absurd h (Nat.not_lt_zero i)
 | n + 1 => by
   rcases firstBad n (p:=p) with h|⟨j,h1,h2,h3⟩
   · by_cases hn:p n
     · exact .inl fun i hi=> by
         rcases Nat.lt_succ_iff_lt_or_eq.1 hi with h'|rfl
         · exact h i h'
         · exact hn
     · exact .inr ⟨n,Nat.lt_succ_self n,h,hn⟩
   · exact .inr ⟨j,by omega,h2,h3⟩
section
variable(M:Md Tryz.prog)(H:View)
theorem hasR_no(a b x:Int)(h:¬(a≤x∧x≤b)):CallT M 140 #[bandV a b,.int .i64 x] H (fun v H'=> H.le H'∧v=.bool false):=by
 refine CallT.enter (vs:= [bandV a b,.int .i64 x]) Tryz.func140 rfl Tryz.ntmps140 (Nat.le_of_ble_eq_true rfl) (SymSt.nil _) fun St c cs hK=> ?_
 refine .sr ?_
 refine .e (.bx (zz:=fun b2=> ?_))
 refine .g ?_
 refine .done (.sr ?_)
 refine .m ?_
 refine .x .fa ?_
 refine .x (.ld 0) ?_
 refine .x .fa ?_
 refine .x (.ld 0) ?_
 refine .c rfl rfl rfl rfl (fun H hs=> .f ca59 rfl (CallT.is (.bool false) (by rewrite [decide_eq_false h];rfl) (In_c M H x a b))) ?_
 refine .g ?_
 refine .done ?_
 refine .rt hK Tryz.func140 Tryz.results140 [_] ?_
 exact fun H' hs=> ⟨hs.base,rfl⟩
end
end Go.Proofs.YtpdaenfglbgfkaaGreatDoor
end
section
namespace Go.Proofs.YtpdaenfglbgfkaaGreatDoor
open Go.RL
set_option maxRecDepth 10000
set_option maxHeartbeats 8000000
def Lk.askAt(k:Lk)(ps:List Nat)(send lean n:Int)(l:List Int)(i:Nat):Bool:=
 k.inMove (l[i+1]?.getD 0-l[0]?.getD 0+n-lean-stillF ((ps[i+1]?.getD 0:Nat):Int) ((i+1:Nat):Int) send lean)
def Lk.askTo(k:Lk)(ps:List Nat)(send lean n:Int)(l:List Int)(d:Nat):Bool:=(List.range d).all (k.askAt ps send lean n l)
def Lk.ask₁(k:Lk)(ps:List Nat)(send lean:Int)(l:List Int)(xs:List Int):Bool:=xs.any fun n=> k.askTo ps send lean n l (ps.length-1)
def Lk.ask(k:Lk)(ps:List Nat)(send:Int)(l:List Int)(xs:List Int):Bool:=xs.any fun lean=> k.ask₁ ps send lean l (upTo k.m0 k.m1)
theorem Lk.askTo_succ {k:Lk}{ps:List Nat}{send lean n:Int}{l:List Int}{d:Nat}:k.askTo ps send lean n l (d+1)=(k.askTo ps send lean n l d&&k.askAt ps send lean n l d):=by
 unfold Lk.askTo
 rw[List.range_succ,List.all_append,List.all_cons,List.all_nil,Bool.and_true]
theorem pad6_get {l:List Int}{i:Nat}(hi:i<l.length):(pad6 l)[i]? =some (l[i]?.getD 0):=by
 unfold pad6
 rw[List.getElem?_append_left hi,List.getElem?_eq_getElem hi]
 rfl
theorem pad6_out {l:List Int}{i:Nat}(hi:l.length≤i)(h6:i<6):(pad6 l)[i]? =some 0:=by
 unfold pad6
 rw[List.getElem?_append_right hi,List.getElem?_replicate,if_pos (by omega)]
theorem pad6_head {l:List Int}(h:0<l.length):(pad6 l).headD 0=l[0]?.getD 0:=by
 rw[List.headD_eq_head?_getD,List.head?_eq_getElem?,pad6_get h]
 rfl
theorem after_pad {l:List Int}{i:Nat}(hi:i<l.length):(afterTo (pad6 l) l.length)[i]?.getD 0=l[i]?.getD 0-l[0]?.getD 0:=by
 rw[afterTo_get (pad6_get hi),if_pos hi,pad6_head (by omega)]
 rfl
theorem gMoves_get {ps:List Nat}{send lean n:Int}{af:List Int}{d i:Nat}(hi:i<d):(gMoves ps send lean n af d)[i+1]?.getD 0=gMove ps send lean n af i:=by
 unfold gMoves
 rw[List.getElem?_cons_succ,List.getElem?_map,List.getElem?_range hi]
 rfl
theorem seen_gives {ps:List Nat}{send lean n:Int}{l:List Int}(h0:0<ps.length)(h6:ps.length≤6)(hl:l.length=ps.length):
   afterTo (seenTo ps (gMoves ps send lean n (afterTo (pad6 l) ps.length) (ps.length-1)) send lean ps.length) ps.length=afterTo (pad6 l) ps.length:=by
 apply List.ext_getElem?
 intro i
 have hp:=pad6_len (l:=l) (by omega)
 obtain⟨mv,hmv⟩:∃mv,gMoves ps send lean n (afterTo (pad6 l) ps.length) (ps.length-1)=mv:=⟨_,rfl⟩
 rw[hmv]
 have hsl:=seenTo_len ps mv send lean ps.length
 by_cases hi:i<ps.length
 · have e1:(afterTo (seenTo ps mv send lean ps.length) ps.length)[i]?.getD 0=seenAt ps mv send lean i-seenAt ps mv send lean 0:=after_seen hi h6
   have e2:=after_pad (l:=l) (i:=i) (by omega)
   rw[hl] at e2
   have e3:seenAt ps mv send lean i-seenAt ps mv send lean 0=(afterTo (pad6 l) ps.length)[i]?.getD 0:=by
     cases i with
     | zero=> rw[e2];omega
     | succ i=>
       have e4:mv[i+1]?.getD 0=gMove ps send lean n (afterTo (pad6 l) ps.length) i:=by rw[←hmv];exact gMoves_get (by omega)
       have e5:mv[0]?.getD 0=n:=by rw[←hmv];rfl
       unfold seenAt
       rw[e4,e5]
       unfold gMove
       simp only[Int.natCast_zero]
       omega
   have g1:i<(afterTo (seenTo ps mv send lean ps.length) ps.length).length:=by rw[afterTo_len,hsl];omega
   have g2:i<(afterTo (pad6 l) ps.length).length:=by rw[afterTo_len,hp];omega
   rw[List.getElem?_eq_getElem g1,Option.getD_some] at e1
   rw[List.getElem?_eq_getElem g2,Option.getD_some] at e3
   rw[List.getElem?_eq_getElem g1,List.getElem?_eq_getElem g2,e1,e3]
 · by_cases h7:i<6
   · have f1:(seenTo ps mv send lean ps.length)[i]? =some 0:=by
       unfold seenTo
       rw[List.getElem?_map,List.getElem?_range (by omega)]
       simp[hi]
     rw[afterTo_get (pad6_out (by omega) h7),afterTo_get f1,if_neg hi,if_neg hi]
   · rw[List.getElem?_eq_none (by rw[afterTo_len,hsl];omega),List.getElem?_eq_none (by rw[afterTo_len,hp];omega)]
theorem gMove_ask {ps:List Nat}{send lean n:Int}{l:List Int}{i:Nat}(hi:i+1<ps.length)(hp0:ps[0]?.getD 0=0)(hl:l.length=ps.length):
   gMove ps send lean n (afterTo (pad6 l) ps.length) i=l[i+1]?.getD 0-l[0]?.getD 0+n-lean-stillF ((ps[i+1]?.getD 0:Nat):Int) ((i+1:Nat):Int) send lean:=by
 have e2:=after_pad (l:=l) (i:=i+1) (by omega)
 rw[hl] at e2
 unfold gMove
 rw[e2,hp0]
 have:stillF ((0:Nat):Int) 0 send lean= -lean:=by
   unfold stillF
   rw[if_pos (by decide)]
   simp
 rw[this]
 omega
theorem gives_ask {k:Lk}{ps:List Nat}{send:Int}{l:List Int}(h0:0<ps.length)(h6:ps.length≤6)(hp0:ps[0]?.getD 0=0)(hl:l.length=ps.length):
   k.gives ps send (afterTo (pad6 l) ps.length)=k.ask ps send l (upTo k.l0 k.l1):=by
 have e2:∀lean n,k.gives₂ ps send lean n (afterTo (pad6 l) ps.length)=k.askTo ps send lean n l (ps.length-1):=fun lean n=> by
   unfold Lk.gives₂ Lk.askTo
   rw[seen_gives h0 h6 hl,beq_self_eq_true,Bool.and_true,Bool.eq_iff_iff,List.all_eq_true,List.all_eq_true]
   constructor
   · intro h i hi
     have:=h i hi
     rw[gMove_ask (by have:=List.mem_range.1 hi;omega) hp0 hl] at this
     exact this
   · intro h i hi
     rw[gMove_ask (by have:=List.mem_range.1 hi;omega) hp0 hl]
     exact h i hi
 unfold Lk.gives Lk.ask
 have e1:∀lean,k.gives₁ ps send lean (afterTo (pad6 l) ps.length) (upTo k.m0 k.m1)=k.ask₁ ps send lean l (upTo k.m0 k.m1):=fun lean=> by
   unfold Lk.gives₁ Lk.ask₁
   congr 1
   funext n
   exact e2 lean n
 congr 1
 funext lean
 exact e1 lean
theorem Nums.times {H:View}{A:Option Addr}{l:List Int}(h:Nums H A l)(hne:l≠ []):TimesAt H A l:=by
 rcases h with h|⟨ab,ao,f,gs,gt,gz,h1,h2,h3⟩
 · exact(hne h).elim
 · have hg:∀j,j<l.length→gs[ao+j]? =some (.int .i64 (l[j]?.getD 0)):=fun j hj=> by
     have:=h3 j hj
     rw[Int.toNat_natCast,Nat.mul_one] at this
     exact this
   have hlen:ao+l.length≤gs.length:=by
     have hp:0<l.length:=List.length_pos_iff.2 hne
     have:=hg (l.length-1) (by omega)
     have:=(List.getElem?_eq_some_iff.1 this).1
     omega
   refine⟨ab,ao,f,gs,gt,gz,h1,h2,by omega,?_⟩
   rw[Nat.mul_one]
   apply List.ext_getElem?
   intro j
   by_cases hj:j<l.length
   · rw[List.getElem?_take_of_lt hj,List.getElem?_drop,hg j hj]
     unfold intsL
     rw[List.getElem?_map,List.getElem?_eq_getElem hj]
     rfl
   · rw[List.getElem?_eq_none (by rw[List.length_take];omega),List.getElem?_eq_none (by rw[intsL_len];omega)]
section
variable(M:Md Tryz.prog)(H:View)
theorem isTimes_yes(l:List Int)(A:Option Addr)(n ca:Nat)(hn:n=l.length)(h6:n≤20)(hA:Nums H A l)(hb:∀x∈l, -999≤x∧x≤999):CallT M 115 #[.slice A n ca] H (fun v H'=> H.le H'∧v=.bool true):=by
 refine CallT.enter (vs:= [.slice A n ca]) Tryz.func115 rfl Tryz.ntmps115 (Nat.le_of_ble_eq_true rfl) (SymSt.nil _) fun St c cs hK=> ?_
 refine .sr ?_
 refine .g ?_
 refine .done (.seq (.sr ?_))
 refine .g ?_
 refine .done (.block ?_)
 refine Tc.db (Tc.loopInv (σ:= { i:Nat//i≤n }) (fun i=> ([(0,.slice A n ca),(3,.int .i64 (i.1:Nat))],[])) (fun i=> n-i.1) ?_ ⟨0,Nat.zero_le _⟩)
 rintro⟨i,hi⟩ ih
 show Tc M St _ _ _ _ [(0,.slice A n ca),(3,.int .i64 (i:Nat))] [] _ _
 by_cases c1:i=n
 · subst c1
   refine .seq (.sr ?_)
   refine .m ?_
   refine .m ?_
   refine .x .ln ?_
   refine .i ?_ (z:=lss_f (by omega))
   refine .done (.ff rfl (.exit rfl (.sr ?_)))
   refine .g ?_
   refine .done ?_
   refine .rt hK Tryz.func115 Tryz.results115 [_] ?_
   exact fun H' hs=> ⟨hs.base,rfl⟩
 · have c2:i<n:=by omega
   rcases hA with hA|⟨a1,a2,a3,a4,a5,a6,rfl,a7,a8⟩
   · rw[hA] at hn;simp at hn;omega
   have f1:=a8 i (by omega)
   have f2:=hb (l[i]?.getD 0) (by rw[List.getElem?_eq_getElem (by omega)];exact List.getElem_mem _)
   refine .seq (.sr ?_)
   refine .m ?_
   refine .m ?_
   refine .x .ln ?_
   refine .i ?_ (z:=lss_t (by omega))
   refine .done (.tt rfl (.skip (.seq (.block (.sr ?_)))))
   refine .m ?_
   refine .m ?_
   refine .x .ia ?_
   refine .x .l0 ?_
   refine .c rfl rfl rfl rfl (fun H hs=> .f ca59 rfl (CallT.is (.bool true) (by rewrite [decide_eq_true f2];rfl) (In_c M H (l[i]?.getD 0) (-999) 999))) ?_
   refine .x .nt ?_
   refine .done (.ff rfl (.skip (.inBlock (.r ?_))))
   refine .m ?_
   refine .i ?_ (z:=add_in (by omega) (by omega))
   refine .g ?_
   refine .done ?_
   exact Tc.db (ih ⟨i+1,by omega⟩ (by simp only;omega))
theorem isTimes_no(l:List Int)(A:Option Addr)(n ca:Nat)(hn:n=l.length)(h6:n≤20)(hA:Nums H A l)(j:Nat)(hj:j<n)(hb:∀i,i<j→ -999≤l[i]?.getD 0∧l[i]?.getD 0≤999)(hx:¬(-999≤l[j]?.getD 0∧l[j]?.getD 0≤999)):CallT M 115 #[.slice A n ca] H (fun v H'=> H.le H'∧v=.bool false):=by
 refine CallT.enter (vs:= [.slice A n ca]) Tryz.func115 rfl Tryz.ntmps115 (Nat.le_of_ble_eq_true rfl) (SymSt.nil _) fun St c cs hK=> ?_
 refine .sr ?_
 refine .g ?_
 refine .done (.seq (.sr ?_))
 refine .g ?_
 refine .done (.block ?_)
 refine Tc.db (Tc.loopInv (σ:= { i:Nat//i≤j }) (fun i=> ([(0,.slice A n ca),(3,.int .i64 (i.1:Nat))],[])) (fun i=> j-i.1) ?_ ⟨0,Nat.zero_le _⟩)
 rintro⟨i,hi⟩ ih
 show Tc M St _ _ _ _ [(0,.slice A n ca),(3,.int .i64 (i:Nat))] [] _ _
 have c2:i<n:=by omega
 rcases hA with hA|⟨a1,a2,a3,a4,a5,a6,rfl,a7,a8⟩
 · rw[hA] at hn;simp at hn;omega
 have f1:=a8 i (by omega)
 by_cases c1:i=j
 · subst c1
   refine .seq (.sr ?_)
   refine .m ?_
   refine .m ?_
   refine .x .ln ?_
   refine .i ?_ (z:=lss_t (by omega))
   refine .done (.tt rfl (.skip (.seq (.block (.sr ?_)))))
   refine .m ?_
   refine .m ?_
   refine .x .ia ?_
   refine .x .l0 ?_
   refine .c rfl rfl rfl rfl (fun H hs=> .f ca59 rfl (CallT.is (.bool false) (by rewrite [decide_eq_false hx];rfl) (In_c M H (l[i]?.getD 0) (-999) 999))) ?_
   refine .x .nt ?_
   refine .done (.tt rfl (.sr ?_))
   refine .g ?_
   refine .done ?_
   refine .rt hK Tryz.func115 Tryz.results115 [_] ?_
   exact fun H' hs=> ⟨hs.base,rfl⟩
 · have f2:=hb i (by omega)
   refine .seq (.sr ?_)
   refine .m ?_
   refine .m ?_
   refine .x .ln ?_
   refine .i ?_ (z:=lss_t (by omega))
   refine .done (.tt rfl (.skip (.seq (.block (.sr ?_)))))
   refine .m ?_
   refine .m ?_
   refine .x .ia ?_
   refine .x .l0 ?_
   refine .c rfl rfl rfl rfl (fun H hs=> .f ca59 rfl (CallT.is (.bool true) (by rewrite [decide_eq_true f2];rfl) (In_c M H (l[i]?.getD 0) (-999) 999))) ?_
   refine .x .nt ?_
   refine .done (.ff rfl (.skip (.inBlock (.r ?_))))
   refine .m ?_
   refine .i ?_ (z:=add_in (by omega) (by omega))
   refine .g ?_
   refine .done ?_
   exact Tc.db (ih ⟨i+1,by omega⟩ (by simp only;omega))
theorem told_err(l:List Int)(A:Option Addr)(n ca:Nat)(hn:n=l.length)(h6:n≤20)(hA:Nums H A l)(j:Nat)(hj:j<n)(hb:∀i,i<j→ -999≤l[i]?.getD 0∧l[i]?.getD 0≤999)(hx:¬(-999≤l[j]?.getD 0∧l[j]?.getD 0≤999)):
   CallT M 111 #[.slice A n ca] H (fun v H'=> H.le H'∧v=.tuple ⟨[timesV [0,0,0,0,0,0],.int .i64 1]⟩):=by
 refine CallT.enter (vs:= [.slice A n ca]) Tryz.func111 rfl Tryz.ntmps111 (Nat.le_of_ble_eq_true rfl) (SymSt.nil _) fun St c cs hK=> ?_
 refine .sr ?_
 refine .e (.al (zz:=fun b2=> ?_))
 refine .g ?_
 refine .done (.sr ?_)
 refine .e (.al (zz:=fun b4=> ?_))
 refine .done (.seq (.sr ?_))
 refine .m ?_
 refine .x .ln ?_
 refine .m ?_
 refine .done (.block ?_)
 refine Tc.db (Tc.loopInv (σ:= { i:Nat//i≤j }) (fun i=> ([(2,.pointer (some ⟨b2,0,none⟩)),(4,.pointer (some ⟨b4,0,none⟩)),(7,.slice A n ca),(8,.int .i64 (n:Nat)),(9,.int .i64 (i.1:Nat))],
   [(b4,true,.cells ⟨[.int .i64 0,.int .i64 0,.int .i64 0,.int .i64 0,.int .i64 0,.int .i64 0]⟩ 135 (0,0)),(b2,true,.cells ⟨[.int .i64 0,.int .i64 0,.int .i64 0,.int .i64 0,.int .i64 0,.int .i64 0]⟩ 135 (0,0))])) (fun i=> j-i.1) ?_ ⟨0,Nat.zero_le _⟩)
 rintro⟨i,hi⟩ ih
 show Tc M St _ _ _ _ [(2,.pointer (some ⟨b2,0,none⟩)),(4,.pointer (some ⟨b4,0,none⟩)),(7,.slice A n ca),(8,.int .i64 (n:Nat)),(9,.int .i64 (i:Nat))]
   [(b4,true,.cells ⟨[.int .i64 0,.int .i64 0,.int .i64 0,.int .i64 0,.int .i64 0,.int .i64 0]⟩ 135 (0,0)),(b2,true,.cells ⟨[.int .i64 0,.int .i64 0,.int .i64 0,.int .i64 0,.int .i64 0,.int .i64 0]⟩ 135 (0,0))] _ _
 have c2:i<n:=by omega
 rcases hA with hA|⟨a1,a2,a3,a4,a5,a6,rfl,a7,a8⟩
 · rw[hA] at hn;simp at hn;omega
 have f1:=a8 i (by omega)
 by_cases c1:i=j
 · subst c1
   by_cases c3:l[i]?.getD 0 < -999
   · refine .sr ?_
     refine .i ?_ (z:=lss_t (by omega))
     refine .done (.seq (.tt rfl (.skip (.seq (.block (.sr ?_))))))
     refine .x .ia ?_
     refine .x .l0 ?_
     refine .g ?_
     refine .done (.sr ?_)
     refine .m ?_
     refine .i ?_ (z:=lss_t (by omega))
     refine .m ?_
     refine .sk ?_
     refine .sk ?_
     refine .x .pk ?_
     refine .done (.tt rfl (.sr ?_))
     refine .x .bu ?_
     refine .e (.st 1 (zz:=?_))
     refine .g ?_
     refine .done ?_
     refine Tc.retN (E:=en) hK Tryz.func111 Tryz.results111 (vs:= [_,_]) (by refine⟨⟨1,_,_,_,_,_,_,_,rfl,rfl,rfl,rfl⟩,?_⟩;refine⟨rfl,?_⟩;exact trivial) ?_
     exact fun H' hs=> ⟨hs.base,rfl⟩
   · refine .sr ?_
     refine .i ?_ (z:=lss_t (by omega))
     refine .done (.seq (.tt rfl (.skip (.seq (.block (.sr ?_))))))
     refine .x .ia ?_
     refine .x .l0 ?_
     refine .g ?_
     refine .done (.sr ?_)
     refine .m ?_
     refine .i ?_ (z:=lss_f (by omega))
     refine .m ?_
     refine .m ?_
     refine .i ?_ (z:=gtr_t (by omega))
     refine .x .pk ?_
     refine .done (.tt rfl (.sr ?_))
     refine .x .bu ?_
     refine .e (.st 1 (zz:=?_))
     refine .g ?_
     refine .done ?_
     refine Tc.retN (E:=en) hK Tryz.func111 Tryz.results111 (vs:= [_,_]) (by refine⟨⟨1,_,_,_,_,_,_,_,rfl,rfl,rfl,rfl⟩,?_⟩;refine⟨rfl,?_⟩;exact trivial) ?_
     exact fun H' hs=> ⟨hs.base,rfl⟩
 · have f2:=hb i (by omega)
   refine .sr ?_
   refine .i ?_ (z:=lss_t (by omega))
   refine .done (.seq (.tt rfl (.skip (.seq (.block (.sr ?_))))))
   refine .x .ia ?_
   refine .x .l0 ?_
   refine .g ?_
   refine .done (.sr ?_)
   refine .m ?_
   refine .i ?_ (z:=lss_f (by omega))
   refine .m ?_
   refine .m ?_
   refine .i ?_ (z:=gtr_f (by omega))
   refine .x .pk ?_
   refine .done (.ff rfl (.skip (.inBlock (.r ?_))))
   refine .i ?_ (z:=add_in (by omega) (by omega))
   refine .m ?_
   refine .done ?_
   exact Tc.db (ih ⟨i+1,by omega⟩ (by simp only;omega))
end
end Go.Proofs.YtpdaenfglbgfkaaGreatDoor
end
section
namespace Go.Proofs.YtpdaenfglbgfkaaGreatDoor
open Go.RL
set_option maxRecDepth 10000
set_option maxHeartbeats 16000000
section
variable(M:Md Tryz.prog)(H:View)
theorem Gives_c(k:Lk)(hk:k.ok=true)(code:Nat)(hc:code<32)(send:Int)(hsd:k.s0≤send∧send≤k.s1)(l:List Int)(A:Option Addr)(n ca:Nat)(hn:n=l.length)(hlen:l.length=(placesTo code 7).length)(hb:∀x∈l, -999≤x∧x≤999)(hA:Nums H A l):
   CallT M 158 #[k.val,.int .i64 code,.int .i64 send,.slice A n ca] H (fun v H'=> H.le H'∧v=.bool (k.ask (placesTo code 7) send l (upTo k.l0 k.l1))):=by
 obtain⟨hks,hkr,hkl,hkm⟩:=Lk.ok_in hk
 obtain⟨hp0,hp6,hpl⟩:=places_in code hc
 obtain⟨T,hT⟩:∃T,k.ask (placesTo code 7) send l (upTo k.l0 k.l1)=T:=⟨_,rfl⟩
 rw[hT]
 refine CallT.enter (vs:= [k.val,.int .i64 code,.int .i64 send,.slice A n ca]) Tryz.func158 rfl Tryz.ntmps158 (Nat.le_of_ble_eq_true rfl) (SymSt.nil _) fun St c cs hK=> ?_
 refine .sr ?_
 refine .e (.bx (zz:=fun b4=> ?_))
 refine .g ?_
 refine .done (.sr ?_)
 refine .m ?_
 refine .e (Or.callNew Gl.val Gl.bl (fun g:Gl 3 1=> g.l=placesV (placesTo code 7)∧g.n=(placesTo code 7).length) rfl rfl rfl rfl rfl (by decide) gl_nodup (fun H hs=> .f ca52 rfl (EdgesOf_n M H code hc)) (fun g ⟨hg,hgn⟩=> ?_))
 refine .g ?_
 refine .done ?_
 refine Tc.lift (L₂:= [(b4,true,.cells ⟨k.val.cells.toList⟩ 27 (0,0))]) (L₁:=g.bl) rfl (fun Hx hx=> ?_)
 have hle:=hx.base
 have hgp:g.l=intsL (numsL (placesTo code 7)):=by
   rw[hg]
   unfold placesV intsL numsL
   rw[List.map_map]
   rfl
 obtain⟨n0,N0⟩:=Nums.of (H:=Hx) hgp (fun y hy=> hx.at_ y hy)
 rw[numsL_len] at n0
 clear hx
 have hv:g.val=.slice (g.blk.map fun b=> ⟨b,0,none⟩) (placesTo code 7).length g.cap:=by unfold Gl.val;rw[n0]
 obtain⟨K,hKe⟩:∃K:Option Addr,(g.blk.map fun b=> ⟨b,0,none⟩)=K:=⟨_,rfl⟩
 obtain⟨kc,hkc⟩:∃kc,g.cap=kc:=⟨_,rfl⟩
 rw[hKe,hkc] at hv
 rw[hKe] at N0
 rw[hv]
 have N1:=hA.le hle
 clear hg hgn hgp n0 hA
 rcases N1 with hA'|⟨a1,a2,a3,a4,a5,a6,rfl,a7,a8⟩
 · rw[hA'] at hlen;simp at hlen;omega
 rcases N0 with hK'|⟨k1,k2,k3,k4,k5,k6,rfl,k7,k8⟩
 · have:=congrArg List.length hK';rw[numsL_len] at this;simp only[List.length_nil] at this;omega
 have hT':T=k.ask (placesTo code 7) send l (upTo k.l0 k.l1):=hT.symm
 clear hT
 have f0:ldL false 1 a4 (a2+(0:Int).toNat*1)=some (.int .i64 (l[0]?.getD 0)):=a8 0 (by omega)
 have b0:=hb (l[0]?.getD 0) (by rw[List.getElem?_eq_getElem (by omega)];exact List.getElem_mem _)
 refine .seq (.sr ?_)
 refine .x .fa ?_
 refine .x .fa ?_
 refine .x .fa ?_
 refine .x (.ld 0) ?_
 refine .g ?_
 refine .done (.block ?_)
 refine Tc.db (Tc.loopInv (σ:= { x:Int//k.l0≤x∧x≤k.l1+1∧T=k.ask (placesTo code 7) send l (upTo x k.l1) })
   (fun x=> ([(2,.int .i64 send),(3,.slice (some ⟨a1,a2,none⟩) n ca),(4,.pointer (some ⟨b4,0,none⟩)),(9,.slice (some ⟨k1,k2,none⟩) (placesTo code 7).length kc),(10,.int .i64 x.1)],[(b4,true,.cells ⟨k.val.cells.toList⟩ 27 (0,0))])) (fun x=> (k.l1+1-x.1).toNat) ?_ ⟨k.l0,Int.le_refl _,by omega,hT'⟩)
 rintro⟨lean,u1,u2,u3⟩ ih₁
 show Tc M St _ _ _ _ [(2,.int .i64 send),(3,.slice (some ⟨a1,a2,none⟩) n ca),(4,.pointer (some ⟨b4,0,none⟩)),(9,.slice (some ⟨k1,k2,none⟩) (placesTo code 7).length kc),(10,.int .i64 lean)] [(b4,true,.cells ⟨k.val.cells.toList⟩ 27 (0,0))] _ _
 by_cases cl:lean≤k.l1
 · have u4 :T=(k.ask₁ (placesTo code 7) send lean l (upTo k.m0 k.m1)||(k.ask (placesTo code 7) send l (upTo (lean+1) k.l1))):=by rw[u3,upTo_cons cl];rfl
   refine .seq (.sr ?_)
   refine .m ?_
   refine .x .fa ?_
   refine .x .fa ?_
   refine .x .fa ?_
   refine .x (.ld 0) ?_
   refine .i ?_ (z:=leq_t (by omega))
   refine .done (.tt rfl (.skip (.seq (.block (.sr ?_)))))
   refine .x .fa ?_
   refine .x .fa ?_
   refine .x .fa ?_
   refine .x (.ld 0) ?_
   refine .g ?_
   refine .done (.block ?_)
   refine Tc.db (Tc.loopInv (σ:= { x:Int//k.m0≤x∧x≤k.m1+1∧T=(k.ask₁ (placesTo code 7) send lean l (upTo x k.m1)||(k.ask (placesTo code 7) send l (upTo (lean+1) k.l1))) })
     (fun x=> ([(2,.int .i64 send),(3,.slice (some ⟨a1,a2,none⟩) n ca),(4,.pointer (some ⟨b4,0,none⟩)),(9,.slice (some ⟨k1,k2,none⟩) (placesTo code 7).length kc),(10,.int .i64 lean),(11,.int .i64 x.1)],[(b4,true,.cells ⟨k.val.cells.toList⟩ 27 (0,0))])) (fun x=> (k.m1+1-x.1).toNat) ?_ ⟨k.m0,Int.le_refl _,by omega,u4⟩)
   rintro⟨n1,v1,v2,v3⟩ ih₂
   show Tc M St _ _ _ _ [(2,.int .i64 send),(3,.slice (some ⟨a1,a2,none⟩) n ca),(4,.pointer (some ⟨b4,0,none⟩)),(9,.slice (some ⟨k1,k2,none⟩) (placesTo code 7).length kc),(10,.int .i64 lean),(11,.int .i64 n1)] [(b4,true,.cells ⟨k.val.cells.toList⟩ 27 (0,0))] _ _
   by_cases cm:n1≤k.m1
   · have v4:T=(k.askTo (placesTo code 7) send lean n1 l ((placesTo code 7).length-1)||(k.ask₁ (placesTo code 7) send lean l (upTo (n1+1) k.m1)||(k.ask (placesTo code 7) send l (upTo (lean+1) k.l1)))):=by
       rw[v3,upTo_cons cm]
       show((k.askTo (placesTo code 7) send lean n1 l ((placesTo code 7).length-1)||k.ask₁ (placesTo code 7) send lean l (upTo (n1+1) k.m1))||_)=_
       rw[Bool.or_assoc]
     refine .seq (.sr ?_)
     refine .m ?_
     refine .x .fa ?_
     refine .x .fa ?_
     refine .x .fa ?_
     refine .x (.ld 0) ?_
     refine .i ?_ (z:=leq_t (by omega))
     refine .done (.tt rfl (.skip (.seq (.block (.sr ?_)))))
     refine .g ?_
     refine .done (.seq (.sr ?_))
     refine .g ?_
     refine .done (.block ?_)
     refine Tc.db (Tc.loopInv (σ:= { d:Nat//d+1≤(placesTo code 7).length })
       (fun d=> ([(2,.int .i64 send),(3,.slice (some ⟨a1,a2,none⟩) n ca),(4,.pointer (some ⟨b4,0,none⟩)),(9,.slice (some ⟨k1,k2,none⟩) (placesTo code 7).length kc),(10,.int .i64 lean),(11,.int .i64 n1),(12,.bool (k.askTo (placesTo code 7) send lean n1 l d.1)),(13,.int .i64 ((d.1+1:Nat):Int))],[(b4,true,.cells ⟨k.val.cells.toList⟩ 27 (0,0))])) (fun d=> (placesTo code 7).length-d.1) ?_ ⟨0,hp0⟩)
     rintro⟨d,w1⟩ ih₃
     show Tc M St _ _ _ _ [(2,.int .i64 send),(3,.slice (some ⟨a1,a2,none⟩) n ca),(4,.pointer (some ⟨b4,0,none⟩)),(9,.slice (some ⟨k1,k2,none⟩) (placesTo code 7).length kc),(10,.int .i64 lean),(11,.int .i64 n1),(12,.bool (k.askTo (placesTo code 7) send lean n1 l d)),(13,.int .i64 ((d+1:Nat):Int))] [(b4,true,.cells ⟨k.val.cells.toList⟩ 27 (0,0))] _ _
     by_cases cd:d+1=(placesTo code 7).length
     · have ed:(placesTo code 7).length-1=d:=by omega
       rw[ed] at v4
       clear ih₃
       cases hq:k.askTo (placesTo code 7) send lean n1 l d with
       | true=>
         have hTt:T=true:=by rw[v4,hq];rfl
         subst hTt
         refine .seq (.sr ?_)
         refine .m ?_
         refine .m ?_
         refine .x .ln ?_
         refine .i ?_ (z:=lss_f (by omega))
         refine .done (.ff rfl (.exit rfl (.sr ?_)))
         refine .m ?_
         refine .done (.tt rfl (.sr ?_))
         refine .g ?_
         refine .done ?_
         refine .rt hK Tryz.func158 Tryz.results158 [_] ?_
         exact fun H' hs=> ⟨View.le_trans hle hs.base,rfl⟩
       | false=>
         rw[hq,Bool.false_or] at v4
         refine .seq (.sr ?_)
         refine .m ?_
         refine .m ?_
         refine .x .ln ?_
         refine .i ?_ (z:=lss_f (by omega))
         refine .done (.ff rfl (.exit rfl (.sr ?_)))
         refine .m ?_
         refine .done (.ff rfl (.skip (.inBlock (.r ?_))))
         refine .m ?_
         refine .i ?_ (z:=add_in (by omega) (by omega))
         refine .g ?_
         refine .done ?_
         exact Tc.db (ih₂ ⟨n1+1,by omega,by omega,v4⟩ (by simp only;omega))
     · have f1:=a8 (d+1) (by omega)
       have f2:=k8 (d+1) (by rw[numsL_len];omega)
       rw[numsL_get (by omega)] at f2
       have b1:=hb (l[d+1]?.getD 0) (by rw[List.getElem?_eq_getElem (by omega)];exact List.getElem_mem _)
       have hp:=hpl (d+1) (by omega)
       have hst:=still_in (place:=((((placesTo code 7)[d+1]?.getD 0:Nat)):Int)) (number:=((d+1:Nat):Int)) (send:=send) (lean:=lean) (by omega) (by omega) (by omega) (by omega) (by omega) (by omega)
       have hsc:=fun(H':View)=> Still_c M H' send lean ((d+1:Nat):Int) (((placesTo code 7)[d+1]?.getD 0:Nat):Int) (by omega) (by omega) (by omega) (by omega) (by omega) (by omega) (by omega)
       have hsucc:=Lk.askTo_succ (k:=k) (ps:=(placesTo code 7)) (send:=send) (lean:=lean) (n:=n1) (l:=l) (d:=d)
       cases hq:k.askTo (placesTo code 7) send lean n1 l d with
       | false=>
         rw[hq,Bool.false_and] at hsucc
         have ih₄:=ih₃ ⟨d+1,by omega⟩ (by simp only;omega)
         simp only[hsucc] at ih₄
         refine .seq (.sr ?_)
         refine .m ?_
         refine .m ?_
         refine .x .ln ?_
         refine .i ?_ (z:=lss_t (by omega))
         refine .done (.tt rfl (.skip (.seq (.block ?_))))
         refine Tc.dr [] [] mixed rfl ?_
         refine .q 0 rfl .mv ?_
         refine .q 1 rfl .mv ?_
         refine Ta.ps 2 (by kernel_rfl) rfl rfl rfl (by decide) rfl rfl ?_
         refine Ta.ps 3 (by kernel_rfl) rfl rfl rfl (by decide) rfl rfl ?_
         refine Ta.ps 4 (by kernel_rfl) rfl rfl rfl (by decide) rfl rfl ?_
         refine Ta.ps 5 (by kernel_rfl) rfl rfl rfl (by decide) rfl rfl ?_
         refine Ta.ps 6 (by kernel_rfl) rfl rfl rfl (by decide) rfl rfl ?_
         refine Ta.ps 7 (by kernel_rfl) rfl rfl rfl (by decide) rfl rfl ?_
         refine Ta.ps 8 (by kernel_rfl) rfl rfl rfl (by decide) rfl rfl ?_
         refine Ta.ps 9 (by kernel_rfl) rfl rfl rfl (by decide) rfl rfl ?_
         refine Ta.ps 10 (by kernel_rfl) rfl rfl rfl (by decide) rfl rfl ?_
         refine Ta.ps 11 (by kernel_rfl) rfl rfl rfl (by decide) rfl rfl ?_
         refine Ta.ps 12 (by kernel_rfl) rfl rfl rfl (by decide) rfl rfl ?_
         refine Ta.ps 13 (by kernel_rfl) rfl rfl rfl (by decide) rfl rfl ?_
         refine Ta.ps 14 (by kernel_rfl) rfl rfl rfl (by decide) rfl rfl ?_
         refine Ta.ps 15 (by kernel_rfl) rfl rfl rfl (by decide) rfl rfl ?_
         refine Ta.ps 16 (by kernel_rfl) rfl rfl rfl (by decide) rfl rfl ?_
         refine Ta.ps 17 (by kernel_rfl) rfl rfl rfl (by decide) rfl rfl ?_
         refine Ta.ps 18 (by kernel_rfl) rfl rfl rfl (by decide) rfl rfl ?_
         refine Ta.ps 19 (by kernel_rfl) rfl rfl rfl (by decide) rfl rfl ?_
         refine Ta.ps 20 (by kernel_rfl) rfl rfl rfl (by decide) rfl rfl ?_
         refine Ta.ps 21 (by kernel_rfl) rfl rfl rfl (by decide) rfl rfl ?_
         refine Ta.ps 22 (by kernel_rfl) rfl rfl rfl (by decide) rfl rfl ?_
         refine Ta.ps 23 (by kernel_rfl) rfl rfl rfl (by decide) rfl rfl ?_
         refine Ta.ps 24 (by kernel_rfl) rfl rfl rfl (by decide) rfl rfl ?_
         refine Ta.ps 25 (by kernel_rfl) rfl rfl rfl (by decide) rfl rfl ?_
         refine Ta.ps 26 (by kernel_rfl) rfl rfl rfl (by decide) rfl rfl ?_
         refine .q 27 rfl .pk ?_
         refine .q 28 rfl .sg ?_
         refine Ta.done (by kernel_rfl) ?_
         refine .inBlock (.r ?_)
         refine .m ?_
         refine .i ?_ (z:=add_in (by omega) (by omega))
         refine .g ?_
         refine .done ?_
         exact Tc.db (ih₄)
       | true=>
         rw[hq,Bool.true_and] at hsucc
         have ih₄:=ih₃ ⟨d+1,by omega⟩ (by simp only;omega)
         simp only[hsucc] at ih₄
         cases ha:k.askAt (placesTo code 7) send lean n1 l d with
         | true=>
           rw[ha] at ih₄
           have hx:=of_decide_eq_true ha
           refine .seq (.sr ?_)
           refine .m ?_
           refine .m ?_
           refine .x .ln ?_
           refine .i ?_ (z:=lss_t (by omega))
           refine .done (.tt rfl (.skip (.seq (.block ?_))))
           refine Tc.dr [] [] mixed rfl ?_
           refine .q 0 rfl .mv ?_
           refine .q 1 rfl .mv ?_
           refine .q 2 rfl .fa ?_
           refine .q 3 rfl .fa ?_
           refine .q 4 rfl (.ld 0) ?_
           refine .q 5 rfl .mv ?_
           refine .q 6 rfl .mv ?_
           refine .q 7 rfl .ia ?_
           refine .q 8 rfl .l0 ?_
           refine .q 9 rfl .mv ?_
           refine .q 10 rfl .ia ?_
           refine .q 11 rfl .l0 ?_
           refine .q 12 rfl (.it (zz:=sub_in (by omega) (by omega))) ?_
           refine .q 13 rfl .mv ?_
           refine .q 14 rfl (.it (zz:=add_in (by omega) (by omega))) ?_
           refine .q 15 rfl .mv ?_
           refine .q 16 rfl (.it (zz:=sub_in (by omega) (by omega))) ?_
           refine .q 17 rfl .mv ?_
           refine .q 18 rfl .mv ?_
           refine .q 19 rfl .mv ?_
           refine .q 20 rfl .mv ?_
           refine .q 21 rfl .mv ?_
           refine .q 22 rfl .ia ?_
           refine .q 23 rfl .l0 ?_
           refine .z 24 rfl (OpV.takeCall rfl rfl rfl rfl (fun H hs=> .f ca173 rfl (hsc H))) ?_
           refine .q 25 rfl (.it (zz:=sub_in (by omega) (by omega))) ?_
           refine .z 26 rfl (OpV.takeCall rfl rfl rfl rfl (fun H hs=> .f ca140 rfl (hasR_yes M H k.m0 k.m1 _ hx))) ?_
           refine .q 27 rfl .pk ?_
           refine .q 28 rfl .sg ?_
           refine Ta.done (by kernel_rfl) ?_
           refine .inBlock (.r ?_)
           refine .m ?_
           refine .i ?_ (z:=add_in (by omega) (by omega))
           refine .g ?_
           refine .done ?_
           exact Tc.db (ih₄)
         | false=>
           rw[ha] at ih₄
           have hx:=of_decide_eq_false ha
           refine .seq (.sr ?_)
           refine .m ?_
           refine .m ?_
           refine .x .ln ?_
           refine .i ?_ (z:=lss_t (by omega))
           refine .done (.tt rfl (.skip (.seq (.block ?_))))
           refine Tc.dr [] [] mixed rfl ?_
           refine .q 0 rfl .mv ?_
           refine .q 1 rfl .mv ?_
           refine .q 2 rfl .fa ?_
           refine .q 3 rfl .fa ?_
           refine .q 4 rfl (.ld 0) ?_
           refine .q 5 rfl .mv ?_
           refine .q 6 rfl .mv ?_
           refine .q 7 rfl .ia ?_
           refine .q 8 rfl .l0 ?_
           refine .q 9 rfl .mv ?_
           refine .q 10 rfl .ia ?_
           refine .q 11 rfl .l0 ?_
           refine .q 12 rfl (.it (zz:=sub_in (by omega) (by omega))) ?_
           refine .q 13 rfl .mv ?_
           refine .q 14 rfl (.it (zz:=add_in (by omega) (by omega))) ?_
           refine .q 15 rfl .mv ?_
           refine .q 16 rfl (.it (zz:=sub_in (by omega) (by omega))) ?_
           refine .q 17 rfl .mv ?_
           refine .q 18 rfl .mv ?_
           refine .q 19 rfl .mv ?_
           refine .q 20 rfl .mv ?_
           refine .q 21 rfl .mv ?_
           refine .q 22 rfl .ia ?_
           refine .q 23 rfl .l0 ?_
           refine .z 24 rfl (OpV.takeCall rfl rfl rfl rfl (fun H hs=> .f ca173 rfl (hsc H))) ?_
           refine .q 25 rfl (.it (zz:=sub_in (by omega) (by omega))) ?_
           refine .z 26 rfl (OpV.takeCall rfl rfl rfl rfl (fun H hs=> .f ca140 rfl (hasR_no M H k.m0 k.m1 _ hx))) ?_
           refine .q 27 rfl .pk ?_
           refine .q 28 rfl .sg ?_
           refine Ta.done (by kernel_rfl) ?_
           refine .inBlock (.r ?_)
           refine .m ?_
           refine .i ?_ (z:=add_in (by omega) (by omega))
           refine .g ?_
           refine .done ?_
           exact Tc.db (ih₄)
   · have v4:T=(k.ask (placesTo code 7) send l (upTo (lean+1) k.l1)):=by rw[v3,upTo_nil (by omega)];rfl
     clear ih₂
     refine .seq (.sr ?_)
     refine .m ?_
     refine .x .fa ?_
     refine .x .fa ?_
     refine .x .fa ?_
     refine .x (.ld 0) ?_
     refine .i ?_ (z:=leq_f (by omega))
     refine .done (.ff rfl (.exit rfl (.inBlock (.r ?_))))
     refine .m ?_
     refine .i ?_ (z:=add_in (by omega) (by omega))
     refine .g ?_
     refine .done ?_
     exact Tc.db (ih₁ ⟨lean+1,by omega,by omega,v4⟩ (by simp only;omega))
 · have hTf:T=false:=by rw[u3,upTo_nil (by omega)];rfl
   subst hTf
   clear ih₁
   refine .seq (.sr ?_)
   refine .m ?_
   refine .x .fa ?_
   refine .x .fa ?_
   refine .x .fa ?_
   refine .x (.ld 0) ?_
   refine .i ?_ (z:=leq_f (by omega))
   refine .done (.ff rfl (.exit rfl (.sr ?_)))
   refine .g ?_
   refine .done ?_
   refine .rt hK Tryz.func158 Tryz.results158 [_] ?_
   exact fun H' hs=> ⟨View.le_trans hle hs.base,rfl⟩
theorem Gives_is(k:Lk)(hk:k.ok=true)(code:Nat)(hc:code<32)(send:Int)(hsd:k.s0≤send∧send≤k.s1)(l:List Int)(A:Option Addr)(n ca:Nat)(hn:n=l.length)(hlen:l.length=(placesTo code 7).length)(hb:∀x∈l, -999≤x∧x≤999)(hA:Nums H A l)(t:Bool)(ht:k.gives (placesTo code 7) send (afterTo (pad6 l) (placesTo code 7).length)=t):
   CallT M 158 #[k.val,.int .i64 code,.int .i64 send,.slice A n ca] H (fun v H'=> H.le H'∧v=.bool t):=by
 obtain⟨hp0,hp6,hpl⟩:=places_in code hc
 rw[gives_ask hp0 hp6 (places_first code hc).1 hlen] at ht
 subst ht
 exact Gives_c M H k hk code hc send hsd l A n ca hn hlen hb hA
theorem TuneOf_c(k:Lk)(hk:k.ok=true)(code:Nat)(hc:code<32)(l:List Int)(A:Option Addr)(n ca:Nat)(hn:n=l.length)(hlen:l.length=(placesTo code 7).length)(hb:∀x∈l, -999≤x∧x≤999)(hA:Nums H A l):
   CallT M 116 #[k.val,.int .i64 code,.slice A n ca] H (fun v H'=> H.le H'∧v=.tuple ⟨[bandO (k.tune (placesTo code 7) (pad6 l)),.bool (k.tune (placesTo code 7) (pad6 l)).isSome]⟩):=by
 obtain⟨hks,hkr,hkl,hkm⟩:=Lk.ok_in hk
 obtain⟨T,hT⟩:∃T,k.tune (placesTo code 7) (pad6 l)=T:=⟨_,rfl⟩
 rw[hT]
 refine CallT.enter (vs:= [k.val,.int .i64 code,.slice A n ca]) Tryz.func116 rfl Tryz.ntmps116 (Nat.le_of_ble_eq_true rfl) (SymSt.nil _) fun St c cs hK=> ?_
 refine .sr ?_
 refine .e (.bx (zz:=fun b3=> ?_))
 refine .e (.al (zz:=fun b6=> ?_))
 refine .g ?_
 refine .done (.sr ?_)
 refine .e (.al (zz:=fun b8=> ?_))
 refine .done (.sr ?_)
 refine .g ?_
 refine .done (.seq (.sr ?_))
 refine .x .fa ?_
 refine .x .fa ?_
 refine .x (.ld 2) ?_
 refine .g ?_
 refine .done (.block ?_)
 refine Tc.db (Tc.loopInv (σ:= { x:Int×Option (Int×Int)//k.s0≤x.1∧x.1≤k.s1+1∧tuneTo (fun n=> k.gives (placesTo code 7) n (afterTo (pad6 l) (placesTo code 7).length)) (upTo x.1 k.s1) x.2=T })
   (fun x=> ([(1,.int .i64 code),(2,.slice A n ca),(3,.pointer (some ⟨b3,0,none⟩)),(6,.pointer (some ⟨b6,0,none⟩)),(8,.pointer (some ⟨b8,0,none⟩)),(9,.bool x.1.2.isSome),(10,.int .i64 x.1.1)],[(b8,true,.cells ⟨bandCells x.1.2⟩ 23 (0,0)),(b6,true,.cells ⟨[.int .i64 0,.int .i64 0]⟩ 23 (0,0)),(b3,true,.cells ⟨k.val.cells.toList⟩ 27 (0,0))])) (fun x=> (k.s1+1-x.1.1).toNat) ?_ ⟨(k.s0,none),Int.le_refl _,by show k.s0≤_;omega,hT⟩)
 rintro⟨⟨x,o⟩,u1,u2,u3⟩ ih
 simp only at u1 u2 u3
 show Tc M St _ _ _ _ [(1,.int .i64 code),(2,.slice A n ca),(3,.pointer (some ⟨b3,0,none⟩)),(6,.pointer (some ⟨b6,0,none⟩)),(8,.pointer (some ⟨b8,0,none⟩)),(9,.bool o.isSome),(10,.int .i64 x)] [(b8,true,.cells ⟨bandCells o⟩ 23 (0,0)),(b6,true,.cells ⟨[.int .i64 0,.int .i64 0]⟩ 23 (0,0)),(b3,true,.cells ⟨k.val.cells.toList⟩ 27 (0,0))] _ _
 by_cases cx:x≤k.s1
 · rw[upTo_cons cx] at u3
   have hG:=fun(H':View) (h:H.le H') (t:Bool) (ht:k.gives (placesTo code 7) x (afterTo (pad6 l) (placesTo code 7).length)=t)=> Gives_is M H' k hk code hc x ⟨u1,cx⟩ l A n ca hn hlen hb (hA.le h) t ht
   cases hg:k.gives (placesTo code 7) x (afterTo (pad6 l) (placesTo code 7).length) with
   | false=>
     have u4:tuneTo (fun n=> k.gives (placesTo code 7) n (afterTo (pad6 l) (placesTo code 7).length)) (upTo (x+1) k.s1) o=T:=by
       rw[←u3]
       conv=> rhs;unfold tuneTo
       simp only[hg]
       rfl
     refine .seq (.sr ?_)
     refine .m ?_
     refine .x .fa ?_
     refine .x .fa ?_
     refine .x (.ld 2) ?_
     refine .i ?_ (z:=leq_t (by omega))
     refine .done (.tt rfl (.skip (.seq (.block (.seq (.sr ?_))))))
     refine .x (.ld 2) ?_
     refine .m ?_
     refine .m ?_
     refine .m ?_
     refine .c rfl rfl rfl rfl (fun H hs=> .f ca158 rfl (hG H hs.base false hg)) ?_
     refine .x .nt ?_
     refine .done (.tt rfl (.exit rfl (.r ?_)))
     refine .m ?_
     refine .i ?_ (z:=add_in (by omega) (by omega))
     refine .g ?_
     refine .done ?_
     exact Tc.db (ih ⟨(x+1,o),by show k.s0≤x+1;omega,by show x+1≤_;omega,u4⟩ (by show(k.s1+1-(x+1)).toNat<(k.s1+1-x).toNat;omega))
   | true=>
     cases o with
     | none=>
       have u4:tuneTo (fun n=> k.gives (placesTo code 7) n (afterTo (pad6 l) (placesTo code 7).length)) (upTo (x+1) k.s1) (some (x,x))=T:=by
         rw[←u3]
         conv=> rhs;unfold tuneTo
         simp only[hg]
         rfl
       refine .seq (.sr ?_)
       refine .m ?_
       refine .x .fa ?_
       refine .x .fa ?_
       refine .x (.ld 2) ?_
       refine .i ?_ (z:=leq_t (by omega))
       refine .done (.tt rfl (.skip (.seq (.block (.seq (.sr ?_))))))
       refine .x (.ld 2) ?_
       refine .m ?_
       refine .m ?_
       refine .m ?_
       refine .c rfl rfl rfl rfl (fun H hs=> .f ca158 rfl (hG H hs.base true hg)) ?_
       refine .x .nt ?_
       refine .done (.ff rfl (.skip (.seq (.sr ?_))))
       refine .m ?_
       refine .x .nt ?_
       refine .done (.tt rfl (.r ?_))
       refine .m ?_
       refine .x .fa ?_
       refine .e (.st 0 (zz:=?_))
       refine .done (.r ?_)
       refine .m ?_
       refine .x .fa ?_
       refine .e (.st 0 (zz:=?_))
       refine .g ?_
       refine .done (.inBlock (.r ?_))
       refine .m ?_
       refine .i ?_ (z:=add_in (by omega) (by omega))
       refine .g ?_
       refine .done ?_
       exact Tc.db (ih ⟨(x+1,some (x,x)),by show k.s0≤x+1;omega,by show x+1≤_;omega,u4⟩ (by show(k.s1+1-(x+1)).toNat<(k.s1+1-x).toNat;omega))
     | some ab=>
       obtain⟨a,b⟩:=ab
       have u4:tuneTo (fun n=> k.gives (placesTo code 7) n (afterTo (pad6 l) (placesTo code 7).length)) (upTo (x+1) k.s1) (some (a,x))=T:=by
         rw[←u3]
         conv=> rhs;unfold tuneTo
         simp only[hg]
         rfl
       refine .seq (.sr ?_)
       refine .m ?_
       refine .x .fa ?_
       refine .x .fa ?_
       refine .x (.ld 2) ?_
       refine .i ?_ (z:=leq_t (by omega))
       refine .done (.tt rfl (.skip (.seq (.block (.seq (.sr ?_))))))
       refine .x (.ld 2) ?_
       refine .m ?_
       refine .m ?_
       refine .m ?_
       refine .c rfl rfl rfl rfl (fun H hs=> .f ca158 rfl (hG H hs.base true hg)) ?_
       refine .x .nt ?_
       refine .done (.ff rfl (.skip (.seq (.sr ?_))))
       refine .m ?_
       refine .x .nt ?_
       refine .done (.ff rfl (.skip (.r ?_)))
       refine .m ?_
       refine .x .fa ?_
       refine .e (.st 0 (zz:=?_))
       refine .g ?_
       refine .done (.inBlock (.r ?_))
       refine .m ?_
       refine .i ?_ (z:=add_in (by omega) (by omega))
       refine .g ?_
       refine .done ?_
       exact Tc.db (ih ⟨(x+1,some (a,x)),by show k.s0≤x+1;omega,by show x+1≤_;omega,u4⟩ (by show(k.s1+1-(x+1)).toNat<(k.s1+1-x).toNat;omega))
 · rw[upTo_nil (by omega)] at u3
   have u4:o=T:=u3
   subst u4
   clear ih
   cases o with
   | none=>
     refine .seq (.sr ?_)
     refine .m ?_
     refine .x .fa ?_
     refine .x .fa ?_
     refine .x (.ld 2) ?_
     refine .i ?_ (z:=leq_f (by omega))
     refine .done (.ff rfl (.exit rfl (.sr ?_)))
     refine .x (.ld 0) ?_
     refine .m ?_
     refine .e (.st 1 (zz:=?_))
     refine .g ?_
     refine .done ?_
     refine Tc.retN (E:=en) hK Tryz.func116 Tryz.results116 (vs:= [_,_]) (by refine⟨⟨1,_,_,_,_,_,_,_,rfl,rfl,rfl,rfl⟩,?_⟩;refine⟨rfl,?_⟩;exact trivial) ?_
     exact fun H' hs=> ⟨hs.base,rfl⟩
   | some ab=>
     obtain⟨a,b⟩:=ab
     refine .seq (.sr ?_)
     refine .m ?_
     refine .x .fa ?_
     refine .x .fa ?_
     refine .x (.ld 2) ?_
     refine .i ?_ (z:=leq_f (by omega))
     refine .done (.ff rfl (.exit rfl (.sr ?_)))
     refine .x (.ld 0) ?_
     refine .m ?_
     refine .e (.st 1 (zz:=?_))
     refine .g ?_
     refine .done ?_
     refine Tc.retN (E:=en) hK Tryz.func116 Tryz.results116 (vs:= [_,_]) (by refine⟨⟨1,_,_,_,_,_,_,_,rfl,rfl,rfl,rfl⟩,?_⟩;refine⟨rfl,?_⟩;exact trivial) ?_
     exact fun H' hs=> ⟨hs.base,rfl⟩
end
end Go.Proofs.YtpdaenfglbgfkaaGreatDoor
end
section
namespace Go.Proofs.YtpdaenfglbgfkaaGreatDoor
open Go.RL
set_option maxRecDepth 10000
set_option maxHeartbeats 8000000
def Far(l:List Int):Prop:=∃j,j<l.length∧(∀i,i<j→ -999≤l[i]?.getD 0∧l[i]?.getD 0≤999)∧¬(-999≤l[j]?.getD 0∧l[j]?.getD 0≤999)
theorem Far.or(l:List Int):Far l∨∀x∈l, -999≤x∧x≤999:=by
 rcases firstBad (p:=fun i=> -999≤l[i]?.getD 0∧l[i]?.getD 0≤999) l.length with h|⟨j,g1,g2,g3⟩
 · refine .inr fun m hm=> ?_
   obtain⟨i,hi,rfl⟩:=List.getElem_of_mem hm
   have:=h i hi
   rw[List.getElem?_eq_getElem hi] at this
   exact this
 · exact .inl ⟨j,g1,g2,g3⟩
inductive TErr(k:Lk):Int→List Int→Int→Prop
 | bad {co:Int} {l:List Int}:Bad k co→TErr k co l 1
 | tally {co:Nat} {l:List Int}:k.ok=true→co<32→l.length≠(placesTo co 7).length→TErr k co l 2
 | limit {co:Nat} {l:List Int}:k.ok=true→co<32→l.length=(placesTo co 7).length→Far l→TErr k co l 1
 | conflict {co:Nat} {l:List Int}:k.ok=true→co<32→l.length=(placesTo co 7).length→(∀x∈l, -999≤x∧x≤999)→k.tune (placesTo co 7) (pad6 l)=none→TErr k co l 10
def TAns(k:Lk)(co:Int)(l:List Int)(a b e:Int):Prop:=
 TErr k co l e∧a=0∧b=0∨k.ok=true∧∃code:Nat,co=(code:Int)∧code<32∧l.length=(placesTo code 7).length∧(∀x∈l, -999≤x∧x≤999)∧k.tune (placesTo code 7) (pad6 l)=some (a,b)∧e=0
theorem TAns.some(k:Lk)(co:Int)(l:List Int):∃a b e,TAns k co l a b e:=by
 by_cases hb:Bad k co
 · exact⟨0,0,1,.inl ⟨.bad hb,rfl,rfl⟩⟩
 · have hk:k.ok=true:=by
     cases h:k.ok with
     | true=> rfl
     | false=> exact(hb (.inl h)).elim
   have hcr:0≤co∧co≤31:=Classical.byContradiction fun h=> hb (.inr h)
   obtain⟨code,rfl⟩:∃n:Nat,co=(n:Int):=⟨co.toNat,by omega⟩
   have hc:code<32:=by omega
   by_cases h1:l.length=(placesTo code 7).length
   · rcases Far.or l with h2|h2
     · exact⟨0,0,1,.inl ⟨.limit hk hc h1 h2,rfl,rfl⟩⟩
     · cases h3:k.tune (placesTo code 7) (pad6 l) with
       | none=> exact⟨0,0,10,.inl ⟨.conflict hk hc h1 h2 h3,rfl,rfl⟩⟩
       | some ab=> exact⟨ab.1,ab.2,0,.inr ⟨hk,code,rfl,hc,h1,h2,h3,rfl⟩⟩
   · exact⟨0,0,2,.inl ⟨.tally hk hc h1,rfl,rfl⟩⟩
theorem told_of {l:List Int}{code:Nat}(hc:code<32)(h:l.length=(placesTo code 7).length)(hb:∀x∈l, -999≤x∧x≤999):Told l:=by
 obtain⟨hp0,hp6,_⟩:=places_in code hc
 exact⟨by omega,fun e=> by rw[e] at h;simp at h;omega,hb⟩
section
variable(M:Md Tryz.prog)(H:View)
theorem Tune_no(k:Lk)(co:Int)(hG:Glob H)(h:Bad k co)(A:Option Addr)(n ca:Nat):CallT M 48 #[k.val,.int .i64 co,.slice A n ca] H (fun v H'=> H.le H'∧v=.tuple ⟨[bandV 0 0,.int .i64 1]⟩):=by
 refine CallT.enter (vs:= [k.val,.int .i64 co,.slice A n ca]) Tryz.func48 rfl Tryz.ntmps48 (Nat.le_of_ble_eq_true rfl) (SymSt.nil _) fun St c cs hK=> ?_
 refine .sr ?_
 refine .e (.bx (zz:=fun b3=> ?_))
 refine .e (.al (zz:=fun b6=> ?_))
 refine .g ?_
 refine .done (.sr ?_)
 refine .x (.ld 1) ?_
 refine .m ?_
 refine .c rfl rfl rfl rfl (fun H hs=> .f ca89 rfl (open_no M H k co (glob_le hG hs.base) h.no)) ?_
 refine .m ?_
 refine .x .et ?_
 refine .x .et ?_
 refine .x .et ?_
 refine .e (.al (zz:=fun b8=> ?_))
 refine .e (.al (zz:=fun b9=> ?_))
 refine .e (.st 1 (zz:=?_))
 refine .e (.st 0 (zz:=?_))
 refine .g ?_
 refine .done (.seq (.sr ?_))
 refine .m ?_
 refine .i ?_ (z:=neq_t (by omega))
 refine .done (.tt rfl (.sr ?_))
 refine .x .bu ?_
 refine .m ?_
 refine .e (.st 2 (zz:=?_))
 refine .g ?_
 refine .done ?_
 refine Tc.retN (E:=en) hK Tryz.func48 Tryz.results48 (vs:= [_,_]) (by refine⟨⟨2,_,_,_,_,_,_,_,rfl,rfl,rfl,rfl⟩,?_⟩;refine⟨rfl,?_⟩;exact trivial) ?_
 exact fun H2 hs=> ⟨hs.base,rfl⟩
theorem Tune_far(k:Lk)(code:Nat)(hG:Glob H)(hk:k.ok=true)(hc:code<32)(l:List Int)(A:Option Addr)(n ca:Nat)(hn:n=l.length)(hlen:l.length=(placesTo code 7).length)(hA:Nums H A l)(hf:Far l):CallT M 48 #[k.val,.int .i64 code,.slice A n ca] H (fun v H'=> H.le H'∧v=.tuple ⟨[bandV 0 0,.int .i64 1]⟩):=by
 obtain⟨j,g1,g2,g3⟩:=hf
 have hp6:=(places_in code hc).2.1
 refine CallT.enter (vs:= [k.val,.int .i64 code,.slice A n ca]) Tryz.func48 rfl Tryz.ntmps48 (Nat.le_of_ble_eq_true rfl) (SymSt.nil _) fun St c cs hK=> ?_
 refine .sr ?_
 refine .e (.bx (zz:=fun b3=> ?_))
 refine .e (.al (zz:=fun b6=> ?_))
 refine .g ?_
 refine .done (.sr ?_)
 refine .x (.ld 1) ?_
 refine .m ?_
 refine .e (Or.callNew (fun x=> .tuple ⟨[k.val,letN code x,.int .i64 0]⟩) (letB code) (fun x=> (placesTo code 7).length≤x.2.1) rfl rfl rfl rfl rfl (by decide) (letB_nodup code) (fun H hs=> .f ca89 rfl (open_m M H k code (glob_le hG hs.base) hk hc)) (fun x hx=> ?_))
 refine .m ?_
 refine .x .et ?_
 refine .x .et ?_
 refine .x .et ?_
 refine .e (.al (zz:=fun b8=> ?_))
 refine .e (.al (zz:=fun b9=> ?_))
 refine .e (.st 1 (zz:=?_))
 refine .e (.st 0 (zz:=?_))
 refine .g ?_
 refine .done (.seq (.sr ?_))
 refine .m ?_
 refine .i ?_ (z:=neq_f (by omega))
 refine .done (.ff rfl (.skip (.seq (.sr ?_))))
 refine .m ?_
 refine .x .ln ?_
 refine .x .fa ?_
 refine .x (.ld 0) ?_
 refine .x .ln ?_
 refine .i ?_ (z:=neq_f (by omega))
 refine .done (.ff rfl (.skip (.sr ?_)))
 refine .m ?_
 refine .c rfl rfl rfl rfl (fun H hs=> .f ca111 rfl (told_err M H l A n ca hn (by omega) (hA.le hs.base) j (by omega) g2 g3)) ?_
 refine .m ?_
 refine .x .et ?_
 refine .x .et ?_
 refine .e (.al (zz:=fun b11=> ?_))
 refine .e (.st 0 (zz:=?_))
 refine .g ?_
 refine .done (.seq (.sr ?_))
 refine .m ?_
 refine .i ?_ (z:=neq_t (by omega))
 refine .done (.tt rfl (.sr ?_))
 refine .x .bu ?_
 refine .m ?_
 refine .e (.st 3 (zz:=?_))
 refine .g ?_
 refine .done ?_
 refine Tc.retN (E:=en) hK Tryz.func48 Tryz.results48 (vs:= [_,_]) (by refine⟨⟨3,_,_,_,_,_,_,_,rfl,rfl,rfl,rfl⟩,?_⟩;refine⟨rfl,?_⟩;exact trivial) ?_
 exact fun H2 hs=> ⟨hs.base,rfl⟩
theorem Tune_any(k:Lk)(co:Int)(l:List Int)(a b e:Int)(h:TAns k co l a b e)(hG:Glob H)(A:Option Addr)(n ca:Nat)(hn:n=l.length)(hA:Nums H A l):CallT M 48 #[k.val,.int .i64 co,.slice A n ca] H (fun v H'=> H.le H'∧v=.tuple ⟨[bandV a b,.int .i64 e]⟩):=by
 rcases h with ⟨h,rfl,rfl⟩|⟨hk,code,rfl,hc,h1,h2,h3,rfl⟩
 · cases h with
   | bad h=> exact Tune_no M H k co hG h A n ca
   | @tally code _ hk hc h1=> exact Tune_tally M H k code hG hk hc A n ca (by omega)
   | @limit code _ hk hc h1 h2=> exact Tune_far M H k code hG hk hc l A n ca hn h1 hA h2
   | @conflict code _ hk hc h1 h2 h3=>
     subst hn
     have hT:=told_of hc h1 h2
     have h9:=(places_first code hc).2
     exact CallT.mono (Tune_c M H k code hG hk hc l hT (by omega) h1 A ca (hA.times hT.pos)) (by rintro v H' ⟨g1,g2⟩;rw[h3] at g2;exact⟨g1,g2⟩)
 · subst hn
   have hT:=told_of hc h1 h2
   have h9:=(places_first code hc).2
   exact CallT.mono (Tune_c M H k code hG hk hc l hT (by omega) h1 A ca (hA.times hT.pos)) (by rintro v H' ⟨g1,g2⟩;rw[h3] at g2;exact⟨g1,g2⟩)
theorem refTune_any(k:Lk)(co:Int)(l:List Int)(a b e:Int)(h:TAns k co l a b e)(A:Option Addr)(n ca:Nat)(hn:n=l.length)(h20:n≤20)(hA:Nums H A l):CallT M 49 #[k.val,.int .i64 co,.slice A n ca] H (fun v H'=> H.le H'∧v=.tuple ⟨[bandV a b,.int .i64 e]⟩):=by
 refine CallT.enter (vs:= [k.val,.int .i64 co,.slice A n ca]) Tryz.func49 rfl Tryz.ntmps49 (Nat.le_of_ble_eq_true rfl) (SymSt.nil _) fun St c cs hK=> ?_
 refine .sr ?_
 refine .e (.bx (zz:=fun b3=> ?_))
 refine .e (.al (zz:=fun b6=> ?_))
 refine .g ?_
 refine .done (.seq (.seq ?_))
 by_cases hbd:Bad k co
 · have hx:e=1∧a=0∧b=0:=by
     rcases h with ⟨h,rfl,rfl⟩|⟨hk,code,rfl,hc,_,_,_,_⟩
     · cases h with
       | tally h1 h2 _=> exact(hbd.no ⟨h1,by omega,by omega⟩).elim
       | conflict h1 h2 _ _ _=> exact(hbd.no ⟨h1,by omega,by omega⟩).elim
       | _=> exact⟨rfl,rfl,rfl⟩
     · exact(hbd.no ⟨hk,by omega,by omega⟩).elim
   obtain⟨rfl,rfl,rfl⟩:=hx
   cases hk:k.ok with
   | false=>
     refine .r ?_
     refine .x (.ld 1) ?_
     refine .c rfl rfl rfl rfl (fun H hs=> .f ca61 rfl (refLink_is M H k false hk 1 rfl)) ?_
     refine .g ?_
     refine .done (.sr ?_)
     refine .m ?_
     refine .i ?_ (z:=neq_t (by omega))
     refine .done (.tt rfl (.sr ?_))
     refine .x .bu ?_
     refine .m ?_
     refine .e (.st 0 (zz:=?_))
     refine .g ?_
     refine .done ?_
     refine Tc.retN (E:=en) hK Tryz.func49 Tryz.results49 (vs:= [_,_]) (by refine⟨⟨0,_,_,_,_,_,_,_,rfl,rfl,rfl,rfl⟩,?_⟩;refine⟨rfl,?_⟩;exact trivial) ?_
     exact fun H2 hs=> ⟨hs.base,rfl⟩
   | true=>
     refine .r ?_
     refine .x (.ld 1) ?_
     refine .c rfl rfl rfl rfl (fun H hs=> .f ca61 rfl (refLink_is M H k true hk 0 rfl)) ?_
     refine .g ?_
     refine .done (.sr ?_)
     refine .m ?_
     refine .i ?_ (z:=neq_f (by omega))
     refine .done (.ff rfl (.skip (.seq (.sr ?_))))
     refine .m ?_
     refine .c rfl rfl rfl rfl (fun H hs=> .f ca93 rfl (IsCode_is M H co false (decide_eq_false fun h'=> hbd.no ⟨hk,h'⟩))) ?_
     refine .x .nt ?_
     refine .done (.tt rfl (.sr ?_))
     refine .x .bu ?_
     refine .e (.st 0 (zz:=?_))
     refine .g ?_
     refine .done ?_
     refine Tc.retN (E:=en) hK Tryz.func49 Tryz.results49 (vs:= [_,_]) (by refine⟨⟨0,_,_,_,_,_,_,_,rfl,rfl,rfl,rfl⟩,?_⟩;refine⟨rfl,?_⟩;exact trivial) ?_
     exact fun H2 hs=> ⟨hs.base,rfl⟩
 · have hk : k.ok=true:=by
     cases h:k.ok with
     | true=> rfl
     | false=> exact(hbd (.inl h)).elim
   have hcr:0≤co∧co≤31:=Classical.byContradiction fun h=> hbd (.inr h)
   obtain⟨code,rfl⟩:∃n:Nat,co=(n:Int):=⟨co.toNat,by omega⟩
   have hc:code<32:=by omega
   obtain⟨hp0,hp6,hpl⟩:=places_in code hc
   refine .r ?_
   refine .x (.ld 1) ?_
   refine .c rfl rfl rfl rfl (fun H hs=> .f ca61 rfl (refLink_is M H k true hk 0 rfl)) ?_
   refine .g ?_
   refine .done (.sr ?_)
   refine .m ?_
   refine .i ?_ (z:=neq_f (by omega))
   refine .done (.ff rfl (.skip (.seq (.sr ?_))))
   refine .m ?_
   refine .c rfl rfl rfl rfl (fun H hs=> .f ca93 rfl (IsCode_is M H code true (decide_eq_true hcr))) ?_
   refine .x .nt ?_
   refine .done (.ff rfl (.skip (.seq (.seq ?_))))
   by_cases h1:l.length=(placesTo code 7).length
   · refine .r ?_
     refine .m ?_
     refine .x .ln ?_
     refine .m ?_
     refine .e (Or.callNew Gl.val Gl.bl (fun g:Gl 3 1=> g.l=placesV (placesTo code 7)∧g.n=(placesTo code 7).length) rfl rfl rfl rfl rfl (by decide) gl_nodup (fun H hs=> .f ca52 rfl (EdgesOf_n M H code hc)) (fun g2 ⟨hg2,hn2⟩=> ?_))
     refine .x .ln ?_
     refine .i ?_ (z:=neq_f (by omega))
     refine .done ?_
     refine Tc.db (R':= [(1,.int .i64 code),(2,.slice A n ca),(3,.pointer (some ⟨b3,0,none⟩)),(6,.pointer (some ⟨b6,0,none⟩)),(26,.bool false)]) (L':= [(b6,true,.cells ⟨[.int .i64 0,.int .i64 0]⟩ 23 (0,0)),(b3,true,.cells ⟨k.val.cells.toList⟩ 27 (0,0))]) ?_
     refine .ff rfl (.skip (.seq (.seq ?_)))
     rcases Far.or l with h2|h2
     · have hx:e=1∧a=0∧b=0:=by
         rcases h with ⟨h,rfl,rfl⟩|⟨_,code',_,_,_,h5,_,_⟩
         · cases h with
           | bad h=> exact⟨rfl,rfl,rfl⟩
           | tally _ _ h5=> exact(h5 h1).elim
           | limit _ _ _ _=> exact⟨rfl,rfl,rfl⟩
           | conflict _ _ _ h5 _=>
             obtain⟨j,g1,g2,g3⟩:=h2
             exact(g3 (h5 _ (by rw[List.getElem?_eq_getElem g1];exact List.getElem_mem _))).elim
         · obtain⟨j,g1,g2,g3⟩:=h2
           exact(g3 (h5 _ (by rw[List.getElem?_eq_getElem g1];exact List.getElem_mem _))).elim
       obtain⟨rfl,rfl,rfl⟩:=hx
       obtain⟨j,g1,g2,g3⟩:=h2
       refine .r ?_
       refine .m ?_
       refine .c rfl rfl rfl rfl (fun H hs=> .f ca115 rfl (isTimes_no M H l A n ca hn h20 (hA.le hs.base) j (by omega) g2 g3)) ?_
       refine .x .nt ?_
       refine .done (.tt rfl (.sr ?_))
       refine .x .bu ?_
       refine .e (.st 0 (zz:=?_))
       refine .g ?_
       refine .done ?_
       refine Tc.retN (E:=en) hK Tryz.func49 Tryz.results49 (vs:= [_,_]) (by refine⟨⟨0,_,_,_,_,_,_,_,rfl,rfl,rfl,rfl⟩,?_⟩;refine⟨rfl,?_⟩;exact trivial) ?_
       exact fun H2 hs=> ⟨hs.base,rfl⟩
     · have hTu:=fun(H':View) (h':H.le H')=> TuneOf_c M H' k hk code hc l A n ca hn h1 h2 (hA.le h')
       cases ht:k.tune (placesTo code 7) (pad6 l) with
       | none=>
         have hx:e=10∧a=0∧b=0:=by
           rcases h with ⟨h,rfl,rfl⟩|⟨_,code',h4,_,_,_,h5,_⟩
           · generalize hcc:((code:Nat):Int)=cc at h hbd
             cases h with
             | bad h=> exact(hbd h).elim
             | @tally c' _ _ _ h5=> exact(h5 (by rw[h1,show c'=code by omega])).elim
             | limit _ _ _ h5=>
               obtain⟨j,g1,g2,g3⟩:=h5
               exact(g3 (h2 _ (by rw[List.getElem?_eq_getElem g1];exact List.getElem_mem _))).elim
             | conflict _ _ _ _ _=> exact⟨rfl,rfl,rfl⟩
           · obtain rfl:code'=code:=by omega
             rw[ht] at h5
             cases h5
         obtain⟨rfl,rfl,rfl⟩:=hx
         rw[ht] at hTu
         refine .r ?_
         refine .m ?_
         refine .c rfl rfl rfl rfl (fun H hs=> .f ca115 rfl (isTimes_yes M H l A n ca hn h20 (hA.le hs.base) h2)) ?_
         refine .x .nt ?_
         refine .done (.ff rfl (.skip (.sr ?_)))
         refine .x (.ld 1) ?_
         refine .m ?_
         refine .m ?_
         refine .c rfl rfl rfl rfl (fun H hs=> .f ca116 rfl (hTu H hs.base)) ?_
         refine .m ?_
         refine .x .et ?_
         refine .x .et ?_
         refine .e (.al (zz:=fun b9=> ?_))
         refine .e (.st 0 (zz:=?_))
         refine .g ?_
         refine .done (.seq (.sr ?_))
         refine .m ?_
         refine .x .nt ?_
         refine .done (.tt rfl (.sr ?_))
         refine .x .bu ?_
         refine .e (.st 1 (zz:=?_))
         refine .g ?_
         refine .done ?_
         refine Tc.retN (E:=en) hK Tryz.func49 Tryz.results49 (vs:= [_,_]) (by refine⟨⟨1,_,_,_,_,_,_,_,rfl,rfl,rfl,rfl⟩,?_⟩;refine⟨rfl,?_⟩;exact trivial) ?_
         exact fun H2 hs=> ⟨hs.base,rfl⟩
       | some ab=>
         obtain⟨a',b'⟩:=ab
         have hx:e=0∧a=a'∧b=b':=by
           rcases h with ⟨h,rfl,rfl⟩|⟨_,code',h4,_,_,_,h5,h6⟩
           · generalize hcc:((code:Nat):Int)=cc at h hbd
             cases h with
             | bad h=> exact(hbd h).elim
             | @tally c' _ _ _ h5=> exact(h5 (by rw[h1,show c'=code by omega])).elim
             | limit _ _ _ h5=>
               obtain⟨j,g1,g2,g3⟩:=h5
               exact(g3 (h2 _ (by rw[List.getElem?_eq_getElem g1];exact List.getElem_mem _))).elim
             | @conflict c' _ _ _ _ _ h5=>
               obtain rfl:c'=code:=by omega
               rw[ht] at h5
               cases h5
           · obtain rfl:code'=code:=by omega
             rw[ht] at h5
             cases h5
             exact⟨h6,rfl,rfl⟩
         obtain⟨rfl,rfl,rfl⟩:=hx
         rw[ht] at hTu
         refine .r ?_
         refine .m ?_
         refine .c rfl rfl rfl rfl (fun H hs=> .f ca115 rfl (isTimes_yes M H l A n ca hn h20 (hA.le hs.base) h2)) ?_
         refine .x .nt ?_
         refine .done (.ff rfl (.skip (.sr ?_)))
         refine .x (.ld 1) ?_
         refine .m ?_
         refine .m ?_
         refine .c rfl rfl rfl rfl (fun H hs=> .f ca116 rfl (hTu H hs.base)) ?_
         refine .m ?_
         refine .x .et ?_
         refine .x .et ?_
         refine .e (.al (zz:=fun b9=> ?_))
         refine .e (.st 0 (zz:=?_))
         refine .g ?_
         refine .done (.seq (.sr ?_))
         refine .m ?_
         refine .x .nt ?_
         refine .done (.ff rfl (.skip (.sr ?_)))
         refine .x (.ld 0) ?_
         refine .e (.st 1 (zz:=?_))
         refine .g ?_
         refine .done ?_
         refine Tc.retN (E:=en) hK Tryz.func49 Tryz.results49 (vs:= [_,_]) (by refine⟨⟨1,_,_,_,_,_,_,_,rfl,rfl,rfl,rfl⟩,?_⟩;refine⟨rfl,?_⟩;exact trivial) ?_
         exact fun H2 hs=> ⟨hs.base,rfl⟩
   · have hx:e=2∧a=0∧b=0:=by
       rcases h with ⟨h,rfl,rfl⟩|⟨_,code',h4,_,h5,_,_,_⟩
       · generalize hcc:((code:Nat):Int)=cc at h hbd
         cases h with
         | bad h=> exact(hbd h).elim
         | tally _ _ _=> exact⟨rfl,rfl,rfl⟩
         | @limit c' _ _ _ h5 _=> exact(h1 (by rw[h5];congr;omega)).elim
         | @conflict c' _ _ _ h5 _ _=> exact(h1 (by rw[h5];congr;omega)).elim
       · exact(h1 (by rw[h5];congr;omega)).elim
     obtain⟨rfl,rfl,rfl⟩:=hx
     refine .r ?_
     refine .m ?_
     refine .x .ln ?_
     refine .m ?_
     refine .e (Or.callNew Gl.val Gl.bl (fun g:Gl 3 1=> g.l=placesV (placesTo code 7)∧g.n=(placesTo code 7).length) rfl rfl rfl rfl rfl (by decide) gl_nodup (fun H hs=> .f ca52 rfl (EdgesOf_n M H code hc)) (fun g2 ⟨hg2,hn2⟩=> ?_))
     refine .x .ln ?_
     refine .i ?_ (z:=neq_t (by omega))
     refine .done (.tt rfl (.sr ?_))
     refine .x .bu ?_
     refine .e (.st 0 (zz:=?_))
     refine .g ?_
     refine .done ?_
     refine Tc.retN (E:=en) hK Tryz.func49 Tryz.results49 (vs:= [_,_]) (by refine⟨⟨0,_,_,_,_,_,_,_,rfl,rfl,rfl,rfl⟩,?_⟩;refine⟨rfl,?_⟩;exact trivial) ?_
     exact fun H2 hs=> ⟨hs.base,rfl⟩
theorem refLearn_no(k:Lk)(co e:Int)(he:e≠0)(A:Option Addr)(n cap:Nat)(hT:∀H',H.le H'→CallT M 49 #[k.val,.int .i64 co,.slice A n cap] H' (fun v H''=> H'.le H''∧v=.tuple ⟨[bandV 0 0,.int .i64 e]⟩)):
   CallT M 51 #[k.val,.int .i64 co,.slice A n cap] H (fun v H'=> H.le H'∧v=.tuple ⟨[lk0.val,.int .i64 e]⟩):=by
 refine CallT.enter (vs:= [k.val,.int .i64 co,.slice A n cap]) Tryz.func51 rfl Tryz.ntmps51 (Nat.le_of_ble_eq_true rfl) (SymSt.nil _) fun St c cs hK=> ?_
 refine .sr ?_
 refine .e (.bx (zz:=fun b3=> ?_))
 refine .e (.al (zz:=fun b6=> ?_))
 refine .g ?_
 refine .done (.sr ?_)
 refine .x (.ld 1) ?_
 refine .m ?_
 refine .m ?_
 refine .c rfl rfl rfl rfl (fun H hs=> .f ca49 rfl (hT H hs.base)) ?_
 refine .m ?_
 refine .x .et ?_
 refine .x .et ?_
 refine .e (.al (zz:=fun b8=> ?_))
 refine .e (.st 0 (zz:=?_))
 refine .g ?_
 refine .done (.seq (.sr ?_))
 refine .m ?_
 refine .i ?_ (z:=neq_t (by omega))
 refine .done (.tt rfl (.sr ?_))
 refine .x .bu ?_
 refine .m ?_
 refine .e (.st 1 (zz:=?_))
 refine .g ?_
 refine .done ?_
 refine Tc.retN (E:=en) hK Tryz.func51 Tryz.results51 (vs:= [_,_]) (by refine⟨⟨1,_,_,_,_,_,_,_,rfl,rfl,rfl,rfl⟩,?_⟩;refine⟨rfl,?_⟩;exact trivial) ?_
 exact fun H' hs=> ⟨hs.base,rfl⟩
theorem refLearn_yes(k:Lk)(co a b:Int)(A:Option Addr)(n cap:Nat)(hT:∀H',H.le H'→CallT M 49 #[k.val,.int .i64 co,.slice A n cap] H' (fun v H''=> H'.le H''∧v=.tuple ⟨[bandV a b,.int .i64 0]⟩)):
   CallT M 51 #[k.val,.int .i64 co,.slice A n cap] H (fun v H'=> H.le H'∧v=.tuple ⟨[(k.sent a b).val,.int .i64 0]⟩):=by
 refine CallT.enter (vs:= [k.val,.int .i64 co,.slice A n cap]) Tryz.func51 rfl Tryz.ntmps51 (Nat.le_of_ble_eq_true rfl) (SymSt.nil _) fun St c cs hK=> ?_
 refine .sr ?_
 refine .e (.bx (zz:=fun b3=> ?_))
 refine .e (.al (zz:=fun b6=> ?_))
 refine .g ?_
 refine .done (.sr ?_)
 refine .x (.ld 1) ?_
 refine .m ?_
 refine .m ?_
 refine .c rfl rfl rfl rfl (fun H hs=> .f ca49 rfl (hT H hs.base)) ?_
 refine .m ?_
 refine .x .et ?_
 refine .x .et ?_
 refine .e (.al (zz:=fun b8=> ?_))
 refine .e (.st 0 (zz:=?_))
 refine .g ?_
 refine .done (.seq (.sr ?_))
 refine .m ?_
 refine .i ?_ (z:=neq_f (by omega))
 refine .done (.ff rfl (.skip (.sr ?_)))
 refine .x (.ld 0) ?_
 refine .x .fa ?_
 refine .e (.st 2 (zz:=?_))
 refine .done (.sr ?_)
 refine .x (.ld 2) ?_
 refine .e (.st 1 (zz:=?_))
 refine .g ?_
 refine .done ?_
 refine Tc.retN (E:=en) hK Tryz.func51 Tryz.results51 (vs:= [_,_]) (by refine⟨⟨1,_,_,_,_,_,_,_,rfl,rfl,rfl,rfl⟩,?_⟩;refine⟨rfl,?_⟩;exact trivial) ?_
 exact fun H' hs=> ⟨hs.base,rfl⟩
def learnt(k:Lk)(a b e:Int):Lk:=if e=0 then k.sent a b else lk0
theorem TAns.zero {k:Lk}{co:Int}{l:List Int}{a b e:Int}(h:TAns k co l a b e)(he:e≠0):a=0∧b=0:=by
 rcases h with ⟨_,h1,h2⟩|⟨_,_,_,_,_,_,_,h⟩
 · exact⟨h1,h2⟩
 · exact(he h).elim
theorem Learn_any(k:Lk)(co:Int)(l:List Int)(a b e:Int)(h:TAns k co l a b e)(hG:Glob H)(A:Option Addr)(n ca:Nat)(hn:n=l.length)(hA:Nums H A l):CallT M 50 #[k.val,.int .i64 co,.slice A n ca] H (fun v H'=> H.le H'∧v=.tuple ⟨[(learnt k a b e).val,.int .i64 e]⟩):=by
 by_cases he:e=0
 · subst he
   exact Learn_yes M H k co a b A n ca fun H' h'=> Tune_any M H' k co l a b 0 h (glob_le hG h') A n ca hn (hA.le h')
 · obtain⟨rfl,rfl⟩:=h.zero he
   unfold learnt
   rw[if_neg he]
   exact Learn_no M H k co e he A n ca fun H' h'=> Tune_any M H' k co l 0 0 e h (glob_le hG h') A n ca hn (hA.le h')
theorem refLearn_any(k:Lk)(co:Int)(l:List Int)(a b e:Int)(h:TAns k co l a b e)(A:Option Addr)(n ca:Nat)(hn:n=l.length)(h20:n≤20)(hA:Nums H A l):CallT M 51 #[k.val,.int .i64 co,.slice A n ca] H (fun v H'=> H.le H'∧v=.tuple ⟨[(learnt k a b e).val,.int .i64 e]⟩):=by
 by_cases he:e=0
 · subst he
   exact refLearn_yes M H k co a b A n ca fun H' h'=> refTune_any M H' k co l a b 0 h A n ca hn h20 (hA.le h')
 · obtain⟨rfl,rfl⟩:=h.zero he
   unfold learnt
   rw[if_neg he]
   exact refLearn_no M H k co e he A n ca fun H' h'=> refTune_any M H' k co l 0 0 e h A n ca hn h20 (hA.le h')
end
end Go.Proofs.YtpdaenfglbgfkaaGreatDoor
end
section
namespace Go.Proofs.YtpdaenfglbgfkaaGreatDoor
open Go.RL
set_option maxRecDepth 10000
set_option maxHeartbeats 8000000
section
variable(M:Md Tryz.prog)(H:View)
end
end Go.Proofs.YtpdaenfglbgfkaaGreatDoor
end
section
namespace Go.Proofs.YtpdaenfglbgfkaaGreatDoor
open Go.RL
set_option maxRecDepth 10000
set_option maxHeartbeats 16000000
def ToldA(l:List Int)(e:Int)(H:View)(v:Value)(H':View):Prop:=H.le H'∧∃g:Gl 3 1,v=.tuple ⟨[g.val,.int .i64 e]⟩∧g.l=intsL l∧∀y∈g.bl,H' y.1=some y.2∧H y.1=none
theorem ToldA.nil {e:Int}{H:View}{v:Value}{H':View}(h:H.le H'∧v=.tuple ⟨[.slice none 0 0,.int .i64 e]⟩):ToldA [] e H v H':=⟨h.1,Gl.nil 3 1,h.2,rfl,by simp[Gl.nil,Gl.bl]⟩
def PAns(k:Lk)(c a r n:Int)(mv:List Int)(sl:List Int)(w:Int)(o:Bool)(e:Int):Prop:=
 PErr k c a r n mv e∧sl= []∧w=0∧o=false∨k.ok=true∧∃code:Nat,c=(code:Int)∧code<32∧k.Past code a r n mv∧sl=seenL (placesTo code 7) mv a n∧readV (readN (pastView code a r n mv))=.tuple ⟨[.int .i64 w,.bool o,.int .i64 0]⟩∧e=0
section
variable(M:Md Tryz.prog)(H:View)
theorem long_c(A:Option Addr)(m ca:Nat)(t:Bool)(ht:decide (20<m)=t):CallT M 45 #[.slice A m ca] H (fun v H'=> H.le H'∧v=.bool t):=by
 by_cases h:20<m
 · rw[decide_eq_true h] at ht
   subst ht
   refine CallT.enter (vs:= [.slice A m ca]) Tryz.func45 rfl Tryz.ntmps45 (Nat.le_of_ble_eq_true rfl) (SymSt.nil _) fun St c cs hK=> ?_
   refine .sr ?_
   refine .g ?_
   refine .done (.sr ?_)
   refine .m ?_
   refine .x .ln ?_
   refine .i ?_ (z:=gtr_t (by omega))
   refine .g ?_
   refine .done ?_
   refine .rt hK Tryz.func45 Tryz.results45 [_] ?_
   exact fun H' hs=> ⟨hs.base,rfl⟩
 · rw[decide_eq_false h] at ht
   subst ht
   refine CallT.enter (vs:= [.slice A m ca]) Tryz.func45 rfl Tryz.ntmps45 (Nat.le_of_ble_eq_true rfl) (SymSt.nil _) fun St c cs hK=> ?_
   refine .sr ?_
   refine .g ?_
   refine .done (.sr ?_)
   refine .m ?_
   refine .x .ln ?_
   refine .i ?_ (z:=gtr_f (by omega))
   refine .g ?_
   refine .done ?_
   refine .rt hK Tryz.func45 Tryz.results45 [_] ?_
   exact fun H' hs=> ⟨hs.base,rfl⟩
variable(k:Lk)(c a r n:Int)(mv sl:List Int)(w:Int)(o:Bool)(e:Int)(h:PAns k c a r n mv sl w o e)(A:Option Addr)(m ca:Nat)(hm:m=mv.length)(hm6:m≤20)(hA:Nums H A mv)
include h hm hm6 hA
end
end Go.Proofs.YtpdaenfglbgfkaaGreatDoor
end
section
namespace Go.Proofs.YtpdaenfglbgfkaaGreatDoor
open Go.RL
set_option maxRecDepth 10000
set_option maxHeartbeats 8000000
def SAns(k:Lk)(l sl:List Int)(e:Int):Prop:=
 k.ok=false∧sl= []∧e=1∨k.ok=true∧(¬(l.length=2∨l.length=4∨l.length=6)∧sl= []∧e=2∨(l.length=2∨l.length=4∨l.length=6)∧(Far l∧sl= []∧e=1∨(∀x∈l, -999≤x∧x≤999)∧sl=keepI (k.sentOf l) 32∧e=0))
theorem SAns.some(k:Lk)(l:List Int):∃sl e,SAns k l sl e∧sl.length≤32:=by
 cases hk:k.ok with
 | false=> exact⟨[],1,.inl ⟨hk,rfl,rfl⟩,by simp⟩
 | true=>
   by_cases h:l.length=2∨l.length=4∨l.length=6
   · rcases Far.or l with h2|h2
     · exact⟨[],1,.inr ⟨hk,.inr ⟨h,.inl ⟨h2,rfl,rfl⟩⟩⟩,by simp⟩
     · exact⟨_,0,.inr ⟨hk,.inr ⟨h,.inr ⟨h2,rfl,rfl⟩⟩⟩,keepI_len _ _⟩
   · exact⟨[],2,.inr ⟨hk,.inl ⟨h,rfl,rfl⟩⟩,by simp⟩
section
variable(M:Md Tryz.prog)(H:View)
theorem Index_none(x:Int)(h1:x≠2)(h2:x≠4)(h3:x≠6)(b cap:Nat)(hb:H b=some (true,.cells ⟨[.int .i64 2,.int .i64 4,.int .i64 6]⟩ 3 (0,0))):CallT M 154 #[.slice (some ⟨b,0,none⟩) 3 cap,.int .i64 x] H (fun v H'=> H.le H'∧v=.int .i64 (-1)):=by
 refine CallT.enter (vs:= [.slice (some ⟨b,0,none⟩) 3 cap,.int .i64 x]) Tryz.func154 rfl Tryz.ntmps154 (Nat.le_of_ble_eq_true rfl) (SymSt.nil _) fun St c cs hK=> ?_
 refine .sr ?_
 refine .g ?_
 refine .done (.seq (.sr ?_))
 refine .m ?_
 refine .x .ln ?_
 refine .m ?_
 refine .done (.block (.loop (.sr ?_)))
 refine .i ?_ (z:=lss_t (by omega))
 refine .done (.seq (.tt rfl (.skip (.seq (.block (.sr ?_))))))
 refine .m ?_
 refine .g ?_
 refine .done (.sr ?_)
 refine .m ?_
 refine .m ?_
 refine .m ?_
 refine .x .ia ?_
 refine .x .l0 ?_
 refine .i ?_ (z:=eql_f (by omega))
 refine .done (.ff rfl (.skip (.inBlock (.r ?_))))
 refine .i ?_ (z:=add_in (by omega) (by omega))
 refine .m ?_
 refine .done ?_
 refine Tc.inLoop ?_
 refine .sr ?_
 refine .i ?_ (z:=lss_t (by omega))
 refine .done (.seq (.tt rfl (.skip (.seq (.block (.sr ?_))))))
 refine .m ?_
 refine .g ?_
 refine .done (.sr ?_)
 refine .m ?_
 refine .m ?_
 refine .m ?_
 refine .x .ia ?_
 refine .x .l0 ?_
 refine .i ?_ (z:=eql_f (by omega))
 refine .done (.ff rfl (.skip (.inBlock (.r ?_))))
 refine .i ?_ (z:=add_in (by omega) (by omega))
 refine .m ?_
 refine .done ?_
 refine Tc.inLoop ?_
 refine .sr ?_
 refine .i ?_ (z:=lss_t (by omega))
 refine .done (.seq (.tt rfl (.skip (.seq (.block (.sr ?_))))))
 refine .m ?_
 refine .g ?_
 refine .done (.sr ?_)
 refine .m ?_
 refine .m ?_
 refine .m ?_
 refine .x .ia ?_
 refine .x .l0 ?_
 refine .i ?_ (z:=eql_f (by omega))
 refine .done (.ff rfl (.skip (.inBlock (.r ?_))))
 refine .i ?_ (z:=add_in (by omega) (by omega))
 refine .m ?_
 refine .done ?_
 refine Tc.inLoop ?_
 refine .sr ?_
 refine .i ?_ (z:=lss_f (by omega))
 refine .done (.seq (.ff rfl (.exit rfl (.sr ?_))))
 refine .g ?_
 refine .done ?_
 refine .rt hK Tryz.func154 Tryz.results154 [_] ?_
 exact fun H' hs=> ⟨hs.base,rfl⟩
theorem Contains_none(m:Nat)(h:¬(m=2∨m=4∨m=6))(b cap:Nat)(hb:H b=some (true,.cells ⟨[.int .i64 2,.int .i64 4,.int .i64 6]⟩ 3 (0,0))):CallT M 110 #[.slice (some ⟨b,0,none⟩) 3 cap,.int .i64 (m:Nat)] H (fun v H'=> H.le H'∧v=.bool false):=by
 refine CallT.enter (vs:= [.slice (some ⟨b,0,none⟩) 3 cap,.int .i64 (m:Nat)]) Tryz.func110 rfl Tryz.ntmps110 (Nat.le_of_ble_eq_true rfl) (SymSt.nil _) fun St c cs hK=> ?_
 refine .sr ?_
 refine .g ?_
 refine .done (.sr ?_)
 refine .m ?_
 refine .m ?_
 refine .c rfl rfl rfl rfl (fun H hs=> .f ca154 rfl (Index_none M H (m:Nat) (by omega) (by omega) (by omega) b cap (hs.base _ _ hb))) ?_
 refine .i ?_ (z:=geq_f (by omega))
 refine .g ?_
 refine .done ?_
 refine .rt hK Tryz.func110 Tryz.results110 [_] ?_
 exact fun H' hs=> ⟨hs.base,rfl⟩
theorem Sent_any(k:Lk)(l sl:List Int)(e:Int)(h:SAns k l sl e)(hG:Glob H)(A:Option Addr)(n ca:Nat)(hn:n=l.length)(h20:n≤20)(hA:Nums H A l):CallT M 46 #[k.val,.slice A n ca] H (ToldA sl e H):=by
 rcases h with ⟨hk,rfl,rfl⟩|⟨hk,⟨h1,rfl,rfl⟩|⟨h1,⟨h2,rfl,rfl⟩|⟨h2,rfl,rfl⟩⟩⟩
 · refine CallT.mono (Q:=fun v H'=> H.le H'∧v=.tuple ⟨[.slice none 0 0,.int .i64 1]⟩) ?_ fun v H'=> ToldA.nil
   refine CallT.enter (vs:= [k.val,.slice A n ca]) Tryz.func46 rfl Tryz.ntmps46 (Nat.le_of_ble_eq_true rfl) (SymSt.nil _) fun St c cs hK=> ?_
   refine .sr ?_
   refine .e (.bx (zz:=fun b2=> ?_))
   refine .e (.bx (zz:=fun b3=> ?_))
   refine .g ?_
   refine .g ?_
   refine .done (.seq (.sr ?_))
   refine .x (.ld 1) ?_
   refine .c rfl rfl rfl rfl (fun H hs=> .f ca86 rfl (checkLink_bad M H k (glob_le hG hs.base) hk)) ?_
   refine .g ?_
   refine .done (.sr ?_)
   refine .m ?_
   refine .i ?_ (z:=neq_t (by omega))
   refine .done (.tt rfl (.sr ?_))
   refine .m ?_
   refine .g ?_
   refine .g ?_
   refine .done ?_
   refine .rt hK Tryz.func46 Tryz.results46 [_,_] ?_
   exact fun H' hs=> ⟨hs.base,rfl⟩
 · refine CallT.mono (Q:=fun v H'=> H.le H'∧v=.tuple ⟨[.slice none 0 0,.int .i64 2]⟩) ?_ fun v H'=> ToldA.nil
   refine CallT.enter (vs:= [k.val,.slice A n ca]) Tryz.func46 rfl Tryz.ntmps46 (Nat.le_of_ble_eq_true rfl) (SymSt.nil _) fun St c cs hK=> ?_
   refine .sr ?_
   refine .e (.bx (zz:=fun b2=> ?_))
   refine .e (.bx (zz:=fun b3=> ?_))
   refine .g ?_
   refine .g ?_
   refine .done (.seq (.sr ?_))
   refine .x (.ld 1) ?_
   refine .c rfl rfl rfl rfl (fun H hs=> .f ca86 rfl (checkLink_good M H k (glob_le hG hs.base) hk)) ?_
   refine .g ?_
   refine .done (.sr ?_)
   refine .m ?_
   refine .i ?_ (z:=neq_f (by omega))
   refine .done (.ff rfl (.skip (.seq (.sr ?_))))
   refine .e (.bs (zz:=fun b4=> ?_))
   refine .x (.ld 1) ?_
   refine .x .ln ?_
   refine .c rfl rfl rfl rfl (fun H hs=> .f ca110 rfl (Contains_none M H n (by omega) b4 3 (hs.get (i:=0) rfl))) ?_
   refine .x .nt ?_
   refine .done (.tt rfl (.sr ?_))
   refine .g ?_
   refine .g ?_
   refine .done ?_
   refine .rt hK Tryz.func46 Tryz.results46 [_,_] ?_
   exact fun H' hs=> ⟨hs.base,rfl⟩
 · refine CallT.mono (Q:=fun v H'=> H.le H'∧v=.tuple ⟨[.slice none 0 0,.int .i64 1]⟩) ?_ fun v H'=> ToldA.nil
   obtain⟨j,g1,g2,g3⟩:=h2
   refine CallT.enter (vs:= [k.val,.slice A n ca]) Tryz.func46 rfl Tryz.ntmps46 (Nat.le_of_ble_eq_true rfl) (SymSt.nil _) fun St c cs hK=> ?_
   refine .sr ?_
   refine .e (.bx (zz:=fun b2=> ?_))
   refine .e (.bx (zz:=fun b3=> ?_))
   refine .g ?_
   refine .g ?_
   refine .done (.seq (.sr ?_))
   refine .x (.ld 1) ?_
   refine .c rfl rfl rfl rfl (fun H hs=> .f ca86 rfl (checkLink_good M H k (glob_le hG hs.base) hk)) ?_
   refine .g ?_
   refine .done (.sr ?_)
   refine .m ?_
   refine .i ?_ (z:=neq_f (by omega))
   refine .done (.ff rfl (.skip (.seq (.sr ?_))))
   refine .e (.bs (zz:=fun b4=> ?_))
   refine .x (.ld 1) ?_
   refine .x .ln ?_
   refine .c rfl rfl rfl rfl (fun H hs=> .f ca110 rfl (Contains_any M H n (by omega) b4 3 (hs.get (i:=0) rfl))) ?_
   refine .x .nt ?_
   refine .done (.ff rfl (.skip (.sr ?_)))
   refine .x (.ld 1) ?_
   refine .c rfl rfl rfl rfl (fun H hs=> .f ca111 rfl (told_err M H l A n ca hn h20 (hA.le hs.base) j (by omega) g2 g3)) ?_
   refine .m ?_
   refine .x .et ?_
   refine .x .et ?_
   refine .e (.al (zz:=fun b7=> ?_))
   refine .e (.st 0 (zz:=?_))
   refine .g ?_
   refine .done (.seq (.sr ?_))
   refine .m ?_
   refine .i ?_ (z:=neq_t (by omega))
   refine .done (.tt rfl (.sr ?_))
   refine .m ?_
   refine .g ?_
   refine .g ?_
   refine .done ?_
   refine .rt hK Tryz.func46 Tryz.results46 [_,_] ?_
   exact fun H' hs=> ⟨hs.base,rfl⟩
 · have hne:l≠ []:=fun e=> by rw[e] at h1;simp at h1
   refine CallT.mono (Sent_c M H k hG hk l ⟨by omega,hne,h2⟩ h1 A n ca hn (hA.times hne)) ?_
   rintro v H' ⟨g1,g,g2,g3,g4⟩
   exact⟨g1,g,g2,g3.trans (keepI_eq _ _),g4⟩
theorem refSent_loop(k:Lk)(hk:k.ok=true)(l:List Int)(A:Option Addr)(n ca:Nat)(hn:n=l.length)(h20:n≤20)(hA:Nums H A l)(h1:l.length=2∨l.length=4∨l.length=6)(h2:∀x∈l, -999≤x∧x≤999):CallT M 47 #[k.val,.slice A n ca] H (ToldQ (keepTo (k.sentOf l) 32) H):=by
 have hc4:n=2∨n=4∨n=6:=by omega
 refine CallT.enter (vs:= [k.val,.slice A n ca]) Tryz.func47 rfl Tryz.ntmps47 (Nat.le_of_ble_eq_true rfl) (SymSt.nil _) fun St c cs hK=> ?_
 refine .sr ?_
 refine .e (.bx (zz:=fun b2=> ?_))
 refine .g ?_
 refine .g ?_
 refine .done (.seq (.sr ?_))
 refine .x (.ld 0) ?_
 refine .c rfl rfl rfl rfl (fun H hs=> .f ca61 rfl (refLink_is M H k true hk 0 rfl)) ?_
 refine .g ?_
 refine .done (.sr ?_)
 refine .m ?_
 refine .i ?_ (z:=neq_f (by omega))
 refine .done (.ff rfl (.skip (.seq (.seq ?_))))
 have go:n=2∨n=4∨n=6:=hc4
 rcases hc4 with hc4|hc4|hc4
 all_goals (
   refine .r ?_
   refine .m ?_
   refine .x .ln ?_
   refine .i ?_ (z:=by first|exact neq_t (by omega)|exact neq_f (by omega))
   refine .m ?_
   first|(refine .sk ?_)|(refine .m ?_)
   first|(refine .sk ?_)|(refine .x .ln ?_)
   first|(refine .sk ?_)|((refine .x (.it (zz:=(by first|exact neq_t (by omega)|exact neq_f (by omega)))) ?_))
   refine .x .pk ?_
   refine .m ?_
   first|(refine .sk ?_)|(refine .m ?_)
   first|(refine .sk ?_)|(refine .x .ln ?_)
   first|(refine .sk ?_)|((refine .x (.it (zz:=neq_f (by omega))) ?_))
   refine .x .pk ?_
   refine .done (.ff rfl (.skip (.seq (.seq ?_))))
   refine Tc.db (R':= [(1,.slice A n ca),(2,.pointer (some ⟨b2,0,none⟩))]) (L':= [(b2,true,.cells ⟨k.val.cells.toList⟩ 27 (0,0))]) ?_
   clear hc4 go
   refine .r ?_
   refine .m ?_
   refine .c rfl rfl rfl rfl (fun H hs=> .f ca115 rfl (isTimes_yes M H l A n ca hn h20 (hA.le hs.base) h2)) ?_
   refine .x .nt ?_
   refine .done (.ff rfl (.skip (.sr ?_)))
   refine .g ?_
   refine .done (.seq (.sr ?_))
   refine .g ?_
   refine .done (.block ?_)
   refine Tc.db (Tc.loopInv (σ:= { s:Nat×Gl 3 1//s.1≤32∧s.2.l=keepTo (k.sentOf l) s.1 })
     (fun s=> ([(1,.slice A n ca),(2,.pointer (some ⟨b2,0,none⟩)),(7,s.1.2.val),(8,.int .i64 (s.1.1:Nat))],(b2,true,.cells ⟨k.val.cells.toList⟩ 27 (0,0))::s.1.2.bl)) (fun s=> 32-s.1.1) ?_ ⟨(0,Gl.nil 3 1),by decide,rfl⟩)
   rintro⟨⟨i,g⟩,g1,g2⟩ ih
   simp only at g1 g2
   have hgn:g.n≤32:=by
     have h1:=g.hl
     rw[g2] at h1
     have h2:=keepTo_len (k.sentOf l) i
     omega
   show Tc M St _ _ _ _ [(1,.slice A n ca),(2,.pointer (some ⟨b2,0,none⟩)),(7,g.val),(8,.int .i64 (i:Nat))] ((b2,true,.cells ⟨k.val.cells.toList⟩ 27 (0,0))::g.bl) _ _
   by_cases c1:i=32
   · subst c1
     refine .seq (.sr ?_)
     refine .m ?_
     refine .i ?_ (z:=leq_f (by omega))
     refine .done (.ff rfl (.exit rfl (.sr ?_)))
     refine .m ?_
     refine .g ?_
     refine .g ?_
     refine .done ?_
     refine .rt hK Tryz.func47 Tryz.results47 [_,_] ?_
     exact fun H' hs=> ⟨hs.base,g,rfl,g2,fun x hx=> ⟨hs.at_ x (by simp[hx]),hs.out x (by simp[hx])⟩⟩
   · have hi:i<32:=by omega
     by_cases hlen:(placesTo i 7).length=l.length
     · have hTu:=fun(H':View) (h':H.le H')=> TuneOf_c M H' k hk i hi l A n ca hn hlen.symm h2 (hA.le h')
       cases ht:k.tune (placesTo i 7) (pad6 l) with
       | none=>
         rw[ht] at hTu
         have hso:k.sentOf l i=false:=by unfold Lk.sentOf;rw[ht];simp
         refine .seq (.sr ?_)
         refine .m ?_
         refine .i ?_ (z:=leq_t (by omega))
         refine .done (.tt rfl (.skip (.seq (.block (.seq (.sr ?_))))))
         refine .m ?_
         refine .e (Or.callNew Gl.val Gl.bl (fun g:Gl 3 1=> g.l=placesV (placesTo i 7)∧g.n=(placesTo i 7).length) rfl rfl rfl rfl rfl (by decide) gl_nodup (fun H hs=> .f ca52 rfl (EdgesOf_n M H i hi)) (fun g3 ⟨hg3,hn3⟩=> ?_))
         refine .x .ln ?_
         refine .m ?_
         refine .x .ln ?_
         refine .i ?_ (z:=neq_f (by omega))
         refine .done ?_
         refine Tc.db (R':= [(1,.slice A n ca),(2,.pointer (some ⟨b2,0,none⟩)),(7,g.val),(8,.int .i64 (i:Nat)),(41,.bool false)]) (L':=(b2,true,.cells ⟨k.val.cells.toList⟩ 27 (0,0))::g.bl) ?_
         refine .ff rfl (.skip (.sr ?_))
         refine .x (.ld 0) ?_
         refine .m ?_
         refine .m ?_
         refine .c rfl rfl rfl rfl (fun H hs=> .f ca116 rfl (hTu H hs.base)) ?_
         refine .m ?_
         refine .x .et ?_
         refine .x .et ?_
         refine .e (.al (zz:=fun b9=> ?_))
         refine .e (.st 0 (zz:=?_))
         refine .g ?_
         refine .done (.sr ?_)
         refine .m ?_
         refine .done (.ff rfl (.skip (.inBlock (.r ?_))))
         refine .m ?_
         refine .i ?_ (z:=add_in (by omega) (by omega))
         refine .g ?_
         refine .done ?_
         exact Tc.db (ih ⟨(i+1,g),by simp only;omega,by simp only;rw[keepTo_succ,hso];exact g2⟩ (by simp only;omega))
       | some ab=>
         obtain⟨a,b⟩:=ab
         rw[ht] at hTu
         have hso:k.sentOf l i=true:=by unfold Lk.sentOf;rw[ht,decide_eq_true hlen];rfl
         refine .seq (.sr ?_)
         refine .m ?_
         refine .i ?_ (z:=leq_t (by omega))
         refine .done (.tt rfl (.skip (.seq (.block (.seq (.sr ?_))))))
         refine .m ?_
         refine .e (Or.callNew Gl.val Gl.bl (fun g:Gl 3 1=> g.l=placesV (placesTo i 7)∧g.n=(placesTo i 7).length) rfl rfl rfl rfl rfl (by decide) gl_nodup (fun H hs=> .f ca52 rfl (EdgesOf_n M H i hi)) (fun g3 ⟨hg3,hn3⟩=> ?_))
         refine .x .ln ?_
         refine .m ?_
         refine .x .ln ?_
         refine .i ?_ (z:=neq_f (by omega))
         refine .done ?_
         refine Tc.db (R':= [(1,.slice A n ca),(2,.pointer (some ⟨b2,0,none⟩)),(7,g.val),(8,.int .i64 (i:Nat)),(41,.bool false)]) (L':=(b2,true,.cells ⟨k.val.cells.toList⟩ 27 (0,0))::g.bl) ?_
         refine .ff rfl (.skip (.sr ?_))
         refine .x (.ld 0) ?_
         refine .m ?_
         refine .m ?_
         refine .c rfl rfl rfl rfl (fun H hs=> .f ca116 rfl (hTu H hs.base)) ?_
         refine .m ?_
         refine .x .et ?_
         refine .x .et ?_
         refine .e (.al (zz:=fun b9=> ?_))
         refine .e (.st 0 (zz:=?_))
         refine .g ?_
         refine .done (.sr ?_)
         refine .m ?_
         refine .done (.tt rfl (.r ?_))
         refine .m ?_
         refine .m ?_
         refine .e (.bs (zz:=fun bs=> ?_))
         refine .e (Or.append (E:=en) 3 rfl rfl rfl rfl rfl rfl rfl rfl rfl rfl rfl rfl rfl rfl rfl (fun H hs=> SrcAt.of (hs.get (i:=0) rfl) (Nat.le_of_ble_eq_true rfl)) rfl (by omega) rfl (by decide) (fun g' hn' hl=> ?_))
         refine .g ?_
         refine .done (.inBlock (.r ?_))
         refine .m ?_
         refine .i ?_ (z:=add_in (by omega) (by omega))
         refine .g ?_
         refine .done ?_
         exact Tc.db (ih ⟨(i+1,g'),by simp only;omega,by simp only;rw[hl,g2,keepTo_succ,hso,if_pos rfl];rfl⟩ (by simp only;omega))
     · have hso:k.sentOf l i=false:=by unfold Lk.sentOf;rw[decide_eq_false hlen];rfl
       refine .seq (.sr ?_)
       refine .m ?_
       refine .i ?_ (z:=leq_t (by omega))
       refine .done (.tt rfl (.skip (.seq (.block (.seq (.sr ?_))))))
       refine .m ?_
       refine .e (Or.callNew Gl.val Gl.bl (fun g:Gl 3 1=> g.l=placesV (placesTo i 7)∧g.n=(placesTo i 7).length) rfl rfl rfl rfl rfl (by decide) gl_nodup (fun H hs=> .f ca52 rfl (EdgesOf_n M H i hi)) (fun g3 ⟨hg3,hn3⟩=> ?_))
       refine .x .ln ?_
       refine .m ?_
       refine .x .ln ?_
       refine .i ?_ (z:=neq_t (by omega))
       refine .done ?_
       refine Tc.db (R':= [(1,.slice A n ca),(2,.pointer (some ⟨b2,0,none⟩)),(7,g.val),(8,.int .i64 (i:Nat)),(41,.bool true)]) (L':=(b2,true,.cells ⟨k.val.cells.toList⟩ 27 (0,0))::g.bl) ?_
       refine .tt rfl (.exit rfl (.r ?_))
       refine .m ?_
       refine .i ?_ (z:=add_in (by omega) (by omega))
       refine .g ?_
       refine .done ?_
       exact Tc.db (ih ⟨(i+1,g),by simp only;omega,by simp only;rw[keepTo_succ,hso];exact g2⟩ (by simp only;omega)))
theorem refSent_any(k:Lk)(l sl:List Int)(e:Int)(h:SAns k l sl e)(A:Option Addr)(n ca:Nat)(hn:n=l.length)(h20:n≤20)(hA:Nums H A l):CallT M 47 #[k.val,.slice A n ca] H (ToldA sl e H):=by
 rcases h with ⟨hk,rfl,rfl⟩|⟨hk,⟨h1,rfl,rfl⟩|⟨h1,⟨h2,rfl,rfl⟩|⟨h2,rfl,rfl⟩⟩⟩
 · refine CallT.mono (Q:=fun v H'=> H.le H'∧v=.tuple ⟨[.slice none 0 0,.int .i64 1]⟩) ?_ fun v H'=> ToldA.nil
   refine CallT.enter (vs:= [k.val,.slice A n ca]) Tryz.func47 rfl Tryz.ntmps47 (Nat.le_of_ble_eq_true rfl) (SymSt.nil _) fun St c cs hK=> ?_
   refine .sr ?_
   refine .e (.bx (zz:=fun b2=> ?_))
   refine .g ?_
   refine .g ?_
   refine .done (.seq (.sr ?_))
   refine .x (.ld 0) ?_
   refine .c rfl rfl rfl rfl (fun H hs=> .f ca61 rfl (refLink_is M H k false hk 1 rfl)) ?_
   refine .g ?_
   refine .done (.sr ?_)
   refine .m ?_
   refine .i ?_ (z:=neq_t (by omega))
   refine .done (.tt rfl (.sr ?_))
   refine .m ?_
   refine .g ?_
   refine .g ?_
   refine .done ?_
   refine .rt hK Tryz.func47 Tryz.results47 [_,_] ?_
   exact fun H' hs=> ⟨hs.base,rfl⟩
 · refine CallT.mono (Q:=fun v H'=> H.le H'∧v=.tuple ⟨[.slice none 0 0,.int .i64 2]⟩) ?_ fun v H'=> ToldA.nil
   have e1:n≠2:=by omega
   have e2:n≠4:=by omega
   have e3:n≠6:=by omega
   refine CallT.enter (vs:= [k.val,.slice A n ca]) Tryz.func47 rfl Tryz.ntmps47 (Nat.le_of_ble_eq_true rfl) (SymSt.nil _) fun St c cs hK=> ?_
   refine .sr ?_
   refine .e (.bx (zz:=fun b2=> ?_))
   refine .g ?_
   refine .g ?_
   refine .done (.seq (.sr ?_))
   refine .x (.ld 0) ?_
   refine .c rfl rfl rfl rfl (fun H hs=> .f ca61 rfl (refLink_is M H k true hk 0 rfl)) ?_
   refine .g ?_
   refine .done (.sr ?_)
   refine .m ?_
   refine .i ?_ (z:=neq_f (by omega))
   refine .done (.ff rfl (.skip (.seq (.sr ?_))))
   refine .m ?_
   refine .x .ln ?_
   refine .i ?_ (z:=neq_t (by omega))
   refine .m ?_
   refine .m ?_
   refine .x .ln ?_
   refine .i ?_ (z:=neq_t (by omega))
   refine .x .pk ?_
   refine .m ?_
   refine .m ?_
   refine .x .ln ?_
   refine .i ?_ (z:=neq_t (by omega))
   refine .x .pk ?_
   refine .done (.tt rfl (.sr ?_))
   refine .g ?_
   refine .g ?_
   refine .done ?_
   refine .rt hK Tryz.func47 Tryz.results47 [_,_] ?_
   exact fun H' hs=> ⟨hs.base,rfl⟩
 · refine CallT.mono (Q:=fun v H'=> H.le H'∧v=.tuple ⟨[.slice none 0 0,.int .i64 1]⟩) ?_ fun v H'=> ToldA.nil
   obtain⟨j,g1,g2,g3⟩:=h2
   have hc4:n=2∨n=4∨n=6:=by omega
   refine CallT.enter (vs:= [k.val,.slice A n ca]) Tryz.func47 rfl Tryz.ntmps47 (Nat.le_of_ble_eq_true rfl) (SymSt.nil _) fun St c cs hK=> ?_
   refine .sr ?_
   refine .e (.bx (zz:=fun b2=> ?_))
   refine .g ?_
   refine .g ?_
   refine .done (.seq (.sr ?_))
   refine .x (.ld 0) ?_
   refine .c rfl rfl rfl rfl (fun H hs=> .f ca61 rfl (refLink_is M H k true hk 0 rfl)) ?_
   refine .g ?_
   refine .done (.sr ?_)
   refine .m ?_
   refine .i ?_ (z:=neq_f (by omega))
   refine .done (.ff rfl (.skip (.seq (.seq ?_))))
   rcases hc4 with hc4|hc4|hc4
   all_goals (
     refine .r ?_
     refine .m ?_
     refine .x .ln ?_
     refine .i ?_ (z:=by first|exact neq_t (by omega)|exact neq_f (by omega))
     refine .m ?_
     first|(refine .sk ?_)|(refine .m ?_)
     first|(refine .sk ?_)|(refine .x .ln ?_)
     first|(refine .sk ?_)|((refine .x (.it (zz:=(by first|exact neq_t (by omega)|exact neq_f (by omega)))) ?_))
     refine .x .pk ?_
     refine .m ?_
     first|(refine .sk ?_)|(refine .m ?_)
     first|(refine .sk ?_)|(refine .x .ln ?_)
     first|(refine .sk ?_)|((refine .x (.it (zz:=neq_f (by omega))) ?_))
     refine .x .pk ?_
     refine .done (.ff rfl (.skip (.seq (.sr ?_))))
     refine .m ?_
     refine .c rfl rfl rfl rfl (fun H hs=> .f ca115 rfl (isTimes_no M H l A n ca hn h20 (hA.le hs.base) j (by omega) g2 g3)) ?_
     refine .x .nt ?_
     refine .done (.tt rfl (.sr ?_))
     refine .g ?_
     refine .g ?_
     refine .done ?_
     refine .rt hK Tryz.func47 Tryz.results47 [_,_] ?_
     exact fun H' hs=> ⟨hs.base,rfl⟩)
 · refine CallT.mono (refSent_loop M H k hk l A n ca hn h20 hA h1 h2) ?_
   rintro v H' ⟨g1,g,g2,g3,g4⟩
   exact⟨g1,g,g2,g3.trans (keepI_eq _ _),g4⟩
end
end Go.Proofs.YtpdaenfglbgfkaaGreatDoor
end
section
namespace Go.Proofs.YtpdaenfglbgfkaaGreatDoor
open Go.RL
set_option maxRecDepth 10000
set_option maxHeartbeats 16000000
theorem Sources_w {St:View→Goroutine→Prop}{cs:List Frame}(H:View)(hG:Glob H)(k:Lk)(c:Int)(A:Option Addr)(l:List Int)(n ca:Nat)(hn:n=l.length)(hA:Nums H A l)
   (hR:∀(H₀:View) (R:Rg) (L:Bl) (kk:List Item),lk R 6=some (.bool true)→H.le H₀→Tc (Mp Tryz.prog) St 86 ⟨8,.normal,none⟩ H₀ cs R L [] (.code .ret::kk)):
   Tc (Mp Tryz.prog) St 86 ⟨8,.normal,none⟩ H cs (argR [k.val,.int .i64 c,.slice A n ca]) [] [] [.code (bodyOf Tryz.f8)]:=by
 by_cases h20:20<n
 · refine .sr ?_
   refine .e (.bx (zz:=fun b3=> ?_))
   refine .g ?_
   refine .done (.seq (.sr ?_))
   refine .m ?_
   refine .c rfl rfl rfl rfl (fun H hs=> .f ca45 rfl (long_c _ H A n ca true (decide_eq_true h20))) ?_
   refine .done (.tt rfl (.sr ?_))
   refine .c rfl rfl rfl rfl (fun H hs=> .f ca31 rfl (signalled_c H (glob_le hG hs.base))) ?_
   refine .g ?_
   refine .done ?_
   exact hR _ _ _ _ rfl (View.le_refl _)
 · have hn20:n≤20:=by omega
   obtain⟨sl,se,hS,hS32⟩:=SAns.some k l
   obtain⟨a,b,e,hT⟩:=TAns.some k c l
   obtain⟨kl,hkl⟩:∃x,learnt k a b e=x:=⟨_,rfl⟩
   have hL1:=fun(H':View) (h:Glob H') (h':H.le H')=> Learn_any (Mp Tryz.prog) H' k c l a b e hT h A n ca hn (hA.le h')
   have hL2:=fun(H':View) (h':H.le H')=> refLearn_any (Mp Tryz.prog) H' k c l a b e hT A n ca hn hn20 (hA.le h')
   rw[hkl] at hL1 hL2
   refine .sr ?_
   refine .e (.bx (zz:=fun b3=> ?_))
   refine .g ?_
   refine .done (.seq (.sr ?_))
   refine .m ?_
   refine .c rfl rfl rfl rfl (fun H hs=> .f ca45 rfl (long_c _ H A n ca false (decide_eq_false h20))) ?_
   refine .done (.ff rfl (.skip (.sr ?_)))
   refine .x (.ld 0) ?_
   refine .m ?_
   refine .e (Or.callNew (fun g:Gl 3 1=> .tuple ⟨[g.val,.int .i64 se]⟩) Gl.bl (fun g:Gl 3 1=> g.l=intsL sl) rfl rfl rfl rfl rfl (by decide) gl_nodup (fun H hs=> .f ca46 rfl (Sent_any _ H k l sl se hS (glob_le hG hs.base) A n ca hn hn20 (hA.le hs.base))) (fun g1 hg1=> ?_))
   refine .m ?_
   refine .x .et ?_
   refine .x .et ?_
   refine .g ?_
   refine .g ?_
   refine .done (.sr ?_)
   refine .x (.ld 0) ?_
   refine .m ?_
   refine .e (Or.callNew (fun g:Gl 3 1=> .tuple ⟨[g.val,.int .i64 se]⟩) Gl.bl (fun g:Gl 3 1=> g.l=intsL sl) rfl rfl rfl rfl rfl (by decide) gl_nodup (fun H hs=> .f ca47 rfl (refSent_any _ H k l sl se hS A n ca hn hn20 (hA.le hs.base))) (fun g2 hg2=> ?_))
   refine .m ?_
   refine .x .et ?_
   refine .x .et ?_
   refine .g ?_
   refine .g ?_
   refine .done (.seq (.sr ?_))
   refine .m ?_
   refine .m ?_
   refine .c rfl rfl rfl rfl (fun H hs=> .f ca23 rfl (SameNums_two _ H _ _ sl g1.n g2.n g1.cap g2.cap (Nums.of hg1 (fun y hy=> hs.at_ y (by simp[hy]))).1 (Nums.of hg2 (fun y hy=> hs.at_ y (by simp[hy]))).1 (by omega) (Nums.of hg1 (fun y hy=> hs.at_ y (by simp[hy]))).2 (Nums.of hg2 (fun y hy=> hs.at_ y (by simp[hy]))).2)) ?_
   refine .x .nt ?_
   refine .m ?_
   refine .m ?_
   refine .m ?_
   refine .i ?_ (z:=neq_f (by omega))
   refine .x .pk ?_
   refine .done (.ff rfl (.skip (.seq ?_)))
   refine Tc.db (R':= [(1,.int .i64 c),(2,.slice A n ca),(3,.pointer (some ⟨b3,0,none⟩))]) (L':= [(b3,true,.cells ⟨k.val.cells.toList⟩ 27 (0,0))]) ?_
   refine .r ?_
   refine .x (.ld 0) ?_
   refine .m ?_
   refine .m ?_
   refine .c rfl rfl rfl rfl (fun H hs=> .f ca48 rfl (Tune_any _ H k c l a b e hT (glob_le hG hs.base) A n ca hn (hA.le hs.base))) ?_
   refine .m ?_
   refine .x .et ?_
   refine .x .et ?_
   refine .e (.al (zz:=fun b11=> ?_))
   refine .e (.st 0 (zz:=?_))
   refine .g ?_
   refine .done (.sr ?_)
   refine .x (.ld 1) ?_
   refine .m ?_
   refine .m ?_
   refine .c rfl rfl rfl rfl (fun H hs=> .f ca49 rfl (refTune_any _ H k c l a b e hT A n ca hn hn20 (hA.le hs.base))) ?_
   refine .m ?_
   refine .x .et ?_
   refine .x .et ?_
   refine .e (.al (zz:=fun b12=> ?_))
   refine .e (.st 0 (zz:=?_))
   refine .g ?_
   refine .done (.seq (.sr ?_))
   refine .x (.ld 1) ?_
   refine .x (.ld 0) ?_
   refine .x (OpV.neA (E:=en) true 2 rfl rfl rfl rfl rfl eg23 (by decide) (band_flat a b) (band_flat a b) (by simp)) ?_
   refine .m ?_
   refine .m ?_
   refine .m ?_
   refine .i ?_ (z:=neq_f (by omega))
   refine .x .pk ?_
   refine .done (.ff rfl (.skip (.seq ?_)))
   refine Tc.db (R':= [(1,.int .i64 c),(2,.slice A n ca),(3,.pointer (some ⟨b3,0,none⟩))]) (L':= [(b3,true,.cells ⟨k.val.cells.toList⟩ 27 (0,0))]) ?_
   refine .r ?_
   refine .x (.ld 0) ?_
   refine .m ?_
   refine .m ?_
   refine .c rfl rfl rfl rfl (fun H hs=> .f ca50 rfl (hL1 H (glob_le hG hs.base) hs.base)) ?_
   refine .m ?_
   refine .x .et ?_
   refine .x .et ?_
   refine .e (.al (zz:=fun b13=> ?_))
   refine .e (.st 0 (zz:=?_))
   refine .g ?_
   refine .done (.sr ?_)
   refine .x (.ld 1) ?_
   refine .m ?_
   refine .m ?_
   refine .c rfl rfl rfl rfl (fun H hs=> .f ca51 rfl (hL2 H hs.base)) ?_
   refine .m ?_
   refine .x .et ?_
   refine .x .et ?_
   refine .e (.al (zz:=fun b14=> ?_))
   refine .e (.st 0 (zz:=?_))
   refine .g ?_
   refine .done (.sr ?_)
   refine .x (.ld 1) ?_
   refine .x (.ld 0) ?_
   refine .x (OpV.eqA (E:=en) true 4 rfl rfl rfl rfl rfl eg27 (by decide) (link_flat kl) (link_flat kl) (by simp)) ?_
   refine .m ?_
   refine .m ?_
   refine .m ?_
   refine .i ?_ (z:=eql_t (by omega))
   refine .x .pk ?_
   refine .m ?_
   refine .c rfl rfl rfl rfl (fun H hs=> .f ca31 rfl (signalled_c H (glob_le hG hs.base))) ?_
   refine .x .pk ?_
   refine .g ?_
   refine .done ?_
   exact hR _ _ _ _ rfl (View.le_refl _)
end Go.Proofs.YtpdaenfglbgfkaaGreatDoor
end
