/-
  Texts of the proofs over baudot/signal: G3 G4 G6 G5 G7 L3 H2 H3 L4 Perm H4 H5 J1 J2 J3 J5 J6 J7 J4 J8 J9 JA JB.
-/
import Derived.Test.YtpdaenfglbgfkaaGreatDoorX07
section
namespace Go.Proofs.YtpdaenfglbgfkaaGreatDoor
open Go.RL
set_option maxRecDepth 100000
def exL:Lk:=⟨20,20,19,21,0,0, -3,3⟩
def exK:Lk:=⟨20,20,19,21,0,1, -3,3⟩
def exM:Lk:=⟨19,21,19,21,0,0, -3,3⟩
def exC:Ch:=⟨20,20,20,20,19,21,3,fun _=> 0,fun _=> 0,fun _=> -2,fun _=> 2,0,fun _=> 0⟩
theorem exL_ok:exL.ok=true:=by decide +kernel
theorem exK_ok:exK.ok=true:=by decide +kernel
theorem exM_ok:exM.ok=true:=by decide +kernel
theorem ex_edges:placesTo 16 7= [0,5]:=by decide +kernel
theorem ex_edges0:placesTo 0 7= [0,6]:=by decide +kernel
def Lk.views(k:Lk)(c:Nat):List Nat:=((k.stgs c).flatMap fun s=> s.all).map fun x=> x.1
theorem Lk.sees_views {k:Lk}(hk:1≤k.r0){c v:Nat}:k.sees c v=true↔v∈k.views c:=by
 have hr:∀s∈k.stgs c,0<s.read:=fun s hs=> by
   obtain⟨a,r,n,f,h1,h2,h3,h4,rfl⟩:=Lk.mem_stgs.1 hs
   show 0<r
   omega
 unfold Lk.sees Lk.views
 rw[List.any_eq_true,List.mem_map]
 constructor
 · rintro⟨s,hs,hv⟩
   obtain⟨x,hx,e⟩:=(Stg.reach_all (hr s hs)).1 hv
   exact⟨x,List.mem_flatMap.2 ⟨s,hs,hx⟩,e⟩
 · rintro⟨x,hx,e⟩
   obtain⟨s,hs,hx⟩:=List.mem_flatMap.1 hx
   exact⟨s,hs,(Stg.reach_all (hr s hs)).2 ⟨x,hx,e⟩⟩
theorem ex_views:((exK.views 0).any (fun v=> v==64)&&(exK.views 0).any (fun v=> decide (v<128)&&(readN v).isNone)&&(exK.views 0).all (fun v=> v==64||(readN v).isNone))=true:=by decide +kernel
theorem ex_v1:exK.sees 0 64=true:=by
 have h:=ex_views
 simp only[Bool.and_eq_true,List.any_eq_true] at h
 obtain⟨⟨⟨v,hv,e⟩,_⟩,_⟩:=h
 rw[beq_iff_eq] at e
 subst e
 exact(Lk.sees_views (by decide)).2 hv
theorem ex_v2:∃v,v<128∧exK.sees 0 v=true∧(readN v).isNone=true:=by
 have h:=ex_views
 simp only[Bool.and_eq_true,List.any_eq_true,decide_eq_true_eq] at h
 obtain⟨⟨_,v,hv,e1,e2⟩,_⟩:=h
 exact⟨v,e1,(Lk.sees_views (by decide)).2 hv,e2⟩
theorem ex_v3 {v:Nat}(hv:exK.sees 0 v=true):v=64∨(readN v).isNone=true:=by
 have h:=ex_views
 simp only[Bool.and_eq_true,List.all_eq_true,Bool.or_eq_true,beq_iff_eq] at h
 exact h.2 v ((Lk.sees_views (by decide)).1 hv)
theorem ex_right:exK.claim 0=0:=by
 have hr:rightN 0=64:=by decide +kernel
 obtain⟨w,h1,h2,h3⟩:=ex_v2
 have hne:¬exK.seen 0=1:=by
   intro e
   unfold Lk.seen at e
   obtain⟨a,ha⟩:=List.length_eq_one_iff.1 e
   have m1:64∈(List.range 128).filter (exK.sees 0):=List.mem_filter.2 ⟨List.mem_range.2 (by decide),ex_v1⟩
   have m2:w∈(List.range 128).filter (exK.sees 0):=List.mem_filter.2 ⟨List.mem_range.2 h1,h2⟩
   rw[ha,List.mem_singleton] at m1 m2
   rw[m2,←m1] at h3
   exact absurd h3 (by decide)
 unfold Lk.claim
 rw[hr,ex_v1,if_pos rfl,if_neg hne]
theorem ex_reads:(List.range 32).filter (exK.canRead 0)= [0]:=by
 have h:∀n,n<32→exK.canRead 0 n=decide (n=0):=by
   intro n hn
   unfold Lk.canRead
   by_cases e:n=0
   · subst e
     exact ex_v1
   · rw[decide_eq_false e]
     cases hs:exK.sees 0 (64+2*n) with
     | false=> rfl
     | true=>
       rcases ex_v3 hs with h1|h1
       · omega
       · rw[(readN_iff (64+2*n) (by omega) n hn).2 rfl] at h1
         cases h1
 rw[List.filter_congr fun n hn=> h n (List.mem_range.1 hn)]
 decide
theorem ex_refused:exK.refused 0=0:=by
 obtain⟨w,h1,h2,h3⟩:=ex_v2
 have hb:exK.bad 0=true:=by
   unfold Lk.bad
   rw[List.any_eq_true]
   exact⟨w,List.mem_range.2 h1,by rw[h2,h3];rfl⟩
 have hk:(keepTo (exK.canRead 0) 32).length=1:=by
   unfold keepTo
   rw[ex_reads]
   rfl
 unfold Lk.refused
 rw[hb,hk]
 rfl
theorem ex_wrong:exK.wrong 0=some (20,19,1,[-3,3]):=by decide +kernel
theorem ex_sure:((List.range 32).filter exK.sureOf).length=16∧((List.range 32).filter exK.sureOf)[0]? =some 16:=by decide +kernel
theorem ex_tune:exM.tune (placesTo 0 7) (pad6 [0,243])=some (20,20):=by decide +kernel
theorem ex_sent:(List.range 32).filter (exL.sentOf [0,243])= [0]:=by decide +kernel
theorem ex_margin:exL.margin=3:=by decide +kernel
theorem ex_paces:(List.range 41).filter exL.good= [19,20,21]:=by decide +kernel
theorem ex_weak:exC.first=some 0∧exC.bad 0=some 0:=by decide +kernel
theorem ex_spots:exC.spots=some [1]:=by decide +kernel
end Go.Proofs.YtpdaenfglbgfkaaGreatDoor
end
section
namespace Go.Proofs.YtpdaenfglbgfkaaGreatDoor
open Go.RL
set_option maxRecDepth 10000
set_option maxHeartbeats 4000000
def lineC:List Value:= [.int .i64 0,.int .i64 0,.int .i64 (-2),.int .i64 2,.int .i64 0,.int .i64 0,.int .i64 (-2),.int .i64 2,.int .i64 0,.int .i64 0,.int .i64 (-2),.int .i64 2]
theorem exC_at {H:View}{b:Nat}(h:H b=some (true,.cells ⟨lineC⟩ 25 (0,0))):ChAt H exC b 0 3 none:=by
 refine⟨⟨true,lineC,25,(0,0),h,fun i hi=> ?_⟩,Nat.le_refl _,fun hm=> absurd hm (Nat.lt_irrefl 0)⟩
 have hi':i<3:=hi
 rcases(by omega:i=0∨i=1∨i=2) with rfl|rfl|rfl <;> rfl
theorem exC_good:exC.Good:=by
 have z:(-1000000:Int)≤0∧(0:Int)≤1000000:=by decide
 have a:(-1000000:Int)≤ -2∧(-2:Int)≤1000000:=by decide
 have b:(-1000000:Int)≤2∧(2:Int)≤1000000:=by decide
 have l:(⟨0,0,0,0,0,0, -2,2⟩:Lk).lineOk=true:=by decide +kernel
 exact⟨⟨by decide,by decide,fun _ _=> z,fun _ _=> z,fun _ _=> a,fun _ _=> b,fun i hi=> absurd hi (Nat.not_lt_zero i),fun i hi=> absurd hi (Nat.not_lt_zero _)⟩,by decide,by decide,by decide,fun _ _=> l⟩
section
variable(M:Md Tryz.prog)(H:View)
theorem Example_c:CallT M 101 #[] H (fun v H'=> H.le H'∧v=exL.val):=by
 refine CallT.enter (vs:= []) Tryz.func101 rfl Tryz.ntmps101 (Nat.le_of_ble_eq_true rfl) (SymSt.nil _) fun St c cs hK=> ?_
 refine .sr ?_
 refine .e (.al (zz:=fun b0=> ?_))
 refine .done (.sr ?_)
 refine .c rfl rfl rfl rfl (fun H hs=> .f ca40 rfl (to_c M H 20 20)) ?_
 refine .c rfl rfl rfl rfl (fun H hs=> .f ca40 rfl (to_c M H 19 21)) ?_
 refine .c rfl rfl rfl rfl (fun H hs=> .f ca40 rfl (to_c M H (-3) 3)) ?_
 refine .x .bu ?_
 refine .x .bu ?_
 refine .e (.st 0 (zz:=?_))
 refine .done ?_
 refine Tc.retN (E:=en) hK Tryz.func101 Tryz.results101 (vs:= [_]) (by refine⟨⟨0,_,_,_,_,_,_,_,rfl,rfl,rfl,rfl⟩,?_⟩;exact trivial) ?_
 exact fun H' hs=> ⟨hs.base,rfl⟩
theorem Leaning_c:CallT M 102 #[] H (fun v H'=> H.le H'∧v=exK.val):=by
 refine CallT.enter (vs:= []) Tryz.func102 rfl Tryz.ntmps102 (Nat.le_of_ble_eq_true rfl) (SymSt.nil _) fun St c cs hK=> ?_
 refine .sr ?_
 refine .e (.al (zz:=fun b0=> ?_))
 refine .done (.sr ?_)
 refine .c rfl rfl rfl rfl (fun H hs=> .f ca101 rfl (Example_c M H)) ?_
 refine .e (.al (zz:=fun b1=> ?_))
 refine .e (.st 0 (zz:=?_))
 refine .done (.sr ?_)
 refine .c rfl rfl rfl rfl (fun H hs=> .f ca40 rfl (to_c M H 0 1)) ?_
 refine .x .fa ?_
 refine .x .fa ?_
 refine .e (.st 0 (zz:=?_))
 refine .done (.sr ?_)
 refine .x (.ld 0) ?_
 refine .e (.st 1 (zz:=?_))
 refine .done ?_
 refine Tc.retN (E:=en) hK Tryz.func102 Tryz.results102 (vs:= [_]) (by refine⟨⟨1,_,_,_,_,_,_,_,rfl,rfl,rfl,rfl⟩,?_⟩;exact trivial) ?_
 exact fun H' hs=> ⟨hs.base,rfl⟩
theorem Chained_c:CallT M 103 #[] H (fun v H'=> H.le H'∧∃b:Nat,v=exC.val7 b 0 3∧True∧∀y∈ [(b,true,Obj.cells ⟨lineC⟩ 25 (0,0))],H' y.1=some y.2∧H y.1=none):=by
 refine CallT.enter (vs:= []) Tryz.func103 rfl Tryz.ntmps103 (Nat.le_of_ble_eq_true rfl) (SymSt.nil _) fun St c cs hK=> ?_
 refine .sr ?_
 refine .e (.al (zz:=fun b0=> ?_))
 refine .done (.sr ?_)
 refine .c rfl rfl rfl rfl (fun H hs=> .f ca40 rfl (to_c M H (-2) 2)) ?_
 refine .x .bu ?_
 refine .e (.al (zz:=fun b1=> ?_))
 refine .e (.st 0 (zz:=?_))
 refine .done (.seq ?_)
 refine Tc.dr [8] [1] mixed rfl ?_
 refine .z 0 rfl (OpV.takeCall rfl rfl rfl rfl (fun H hs=> .f ca40 rfl (to_c M H 20 20))) ?_
 refine .z 1 rfl (OpV.takeCall rfl rfl rfl rfl (fun H hs=> .f ca40 rfl (to_c M H 20 20))) ?_
 refine .z 2 rfl (OpV.takeCall rfl rfl rfl rfl (fun H hs=> .f ca40 rfl (to_c M H 19 21))) ?_
 refine .q 3 rfl (.ld 0) ?_
 refine .q 4 rfl (.ld 0) ?_
 refine .q 5 rfl (.ld 0) ?_
 refine Ta.each [6] (by kernel_rfl) rfl ⟨TaOp.mk rfl rfl rfl (.bs (zz:=fun bl=> ⟨S2.mk (by apply List.Sublist.cons;exact List.sublist_append_left _ _) (.inr (by apply List.Sublist.cons;exact List.Sublist.refl _)),?_⟩)),trivial⟩
 refine .q 7 rfl .bu ?_
 refine Ta.each [8] (by kernel_rfl) rfl ⟨TaOp.mk rfl rfl rfl (.st 2 (zz:=⟨S2.mk (by apply List.Sublist.cons;exact List.sublist_append_left _ _) (.inl (by kernel_rfl)),?_⟩)),trivial⟩
 refine Ta.done (by kernel_rfl) ?_
 refine Tc.retN (E:=en) hK Tryz.func103 Tryz.results103 (vs:= [_]) (by refine⟨⟨2,_,_,_,_,_,_,_,rfl,rfl,rfl,rfl⟩,?_⟩;exact trivial) ?_
 exact fun H' hs=> ⟨hs.base,bl,rfl,trivial,fun y hy=> by
   simp only[List.mem_singleton] at hy
   subst hy
   exact⟨hs.get (i:=0) rfl,hs.fresh (i:=0) (x:=(true,.cells ⟨lineC⟩ 25 (0,0))) rfl⟩⟩
end
theorem SameNums_two(M:Md Tryz.prog)(H:View)(A B:Option Addr)(l:List Int)(n m ca cb:Nat)(hn:n=l.length)(hm:m=l.length)(h6:l.length≤1000)(hA:Nums H A l)(hB:Nums H B l):CallT M 23 #[.slice A n ca,.slice B m cb] H (fun v H'=> H.le H'∧v=.bool true):=by
 subst hn
 subst hm
 exact SameNums_same M H A B l _ ca cb rfl h6 hA hB
theorem SamePasts_two(M:Md Tryz.prog)(H:View)(s r e:Int)(A B:Option Addr)(l:List Int)(n m ca cb:Nat)(hn:n=l.length)(hm:m=l.length)(h6:l.length≤1000)(hA:Nums H A l)(hB:Nums H B l):
   CallT M 30 #[.agg ⟨[.int .i64 s,.int .i64 r,.int .i64 e,.slice A n ca]⟩,.agg ⟨[.int .i64 s,.int .i64 r,.int .i64 e,.slice B m cb]⟩] H (fun v H'=> H.le H'∧v=.bool true):=by
 subst hn
 subst hm
 exact SamePasts_same M H s r e A B l _ ca cb rfl h6 hA hB
theorem Nums.lit {H:View}{b:Nat}{l:List Int}(h:H b=some (true,.cells ⟨intsL l⟩ 3 (0,0))):Nums H (some ⟨b,0,none⟩) l:=
 .inr ⟨b,0,true,intsL l,3,(0,0),rfl,h,fun j hj=> by
   show(intsL l)[0+(j:Int).toNat*1]? =_
   rw[Nat.zero_add,Nat.mul_one,Int.toNat_natCast]
   unfold intsL
   rw[List.getElem?_map,List.getElem?_eq_getElem hj]
   rfl⟩
end Go.Proofs.YtpdaenfglbgfkaaGreatDoor
end
section
namespace Go.Proofs.YtpdaenfglbgfkaaGreatDoor
open Go.RL
set_option maxRecDepth 10000
set_option maxHeartbeats 4000000
theorem keepI_get {p:Nat→Bool}{k i:Nat}(h:i<(keepI p k).length):0≤(keepI p k)[i]?.getD 0∧(keepI p k)[i]?.getD 0≤(k:Int)-1:=by
 rw[List.getElem?_eq_getElem h]
 have hm:=List.getElem_mem h
 simp only[Option.getD_some]
 generalize (keepI p k)[i]=z at hm
 unfold keepI at hm
 obtain⟨n,hn,rfl⟩:=List.mem_map.1 hm
 have:=List.mem_range.1 (List.mem_filter.1 hn).1
 omega
theorem keepI_mono {p:Nat→Bool}{k i:Nat}(h0:0<i)(h:i<(keepI p k).length):(keepI p k)[i-1]?.getD 0<(keepI p k)[i]?.getD 0:=by
 rw[List.getElem?_eq_getElem h,List.getElem?_eq_getElem (show i-1<(keepI p k).length by omega)]
 have hp:(keepI p k).Pairwise (· < ·):=by
   unfold keepI
   rw[List.pairwise_map]
   exact(List.Pairwise.filter p List.pairwise_lt_range).imp (fun h=> by exact_mod_cast h)
 exact List.pairwise_iff_getElem.1 hp (i-1) i (by omega) h (by omega)
theorem keepI_len(p:Nat→Bool)(k:Nat):(keepI p k).length≤k:=by
 unfold keepI
 rw[List.length_map]
 have:=List.length_filter_le p (List.range k)
 rw[List.length_range] at this
 exact this
theorem keepI_mem {p:Nat→Bool}{k n:Nat}:(n:Int)∈keepI p k↔n<k∧p n=true:=by
 unfold keepI
 rw[List.mem_map]
 constructor
 · rintro⟨m,hm,e⟩
   have e':m=n:=by exact_mod_cast e
   subst e'
   obtain⟨h1,h2⟩:=List.mem_filter.1 hm
   exact⟨List.mem_range.1 h1,h2⟩
 · rintro⟨h1,h2⟩
   exact⟨n,List.mem_filter.2 ⟨List.mem_range.2 h1,h2⟩,rfl⟩
section
variable(M:Md Tryz.prog)(H:View)
end
end Go.Proofs.YtpdaenfglbgfkaaGreatDoor
end
section
namespace Go.Proofs.YtpdaenfglbgfkaaGreatDoor
open Go.RL
set_option maxRecDepth 10000
set_option maxHeartbeats 8000000
theorem t243:Told [0,243]:=⟨by decide,by decide,by decide⟩
theorem t243_at {H:View}{b:Nat}(h:H b=some (true,.cells ⟨[.int .i64 0,.int .i64 243]⟩ 3 (0,0))):TimesAt H (some ⟨b,0,none⟩) [0,243]:=⟨b,0,true,_,3,(0,0),rfl,h,by decide,rfl⟩
theorem keep_eq {p:Nat→Bool}{k:Nat}{l:List Nat}(h:(List.range k).filter p=l):keepTo p k=intsL (numsL l):=by
 rw[←places_nums,←h]
 rfl
theorem ex_sec:exC.sec=0:=by unfold Ch.sec;simp[ex_weak.1]
theorem eg23:Tryz.prog.eqGuardType Tryz.prog.depth 23=false:=by kernel_rfl
theorem band_flat(a b:Int):flat en 2 23 [.int .i64 a,.int .i64 b]:=by
 refine⟨rfl,?_⟩
 intro f hf
 simp only[List.mem_cons,List.not_mem_nil,or_false] at hf
 rcases hf with rfl|rfl
 · exact⟨⟨_,rfl⟩,_,rfl,rfl,Nat.le_of_ble_eq_true rfl⟩
 · exact⟨⟨_,rfl⟩,_,rfl,rfl,Nat.le_of_ble_eq_true rfl⟩
theorem signalled_c(H:View)(hG:Glob H):CallT (Mp Tryz.prog) 31 #[] H (fun v H'=> H.le H'∧v=.bool true):=by
 refine CallT.enter (vs:= []) Tryz.func31 rfl Tryz.ntmps31 (Nat.le_of_ble_eq_true rfl) (SymSt.nil _) fun St c cs hK=> ?_
 refine .sr ?_
 refine .g ?_
 refine .done (.sr ?_)
 refine .c rfl rfl rfl rfl (fun H hs=> .f ca101 rfl (Example_c _ H)) ?_
 refine .c rfl rfl rfl rfl (fun H hs=> .f ca102 rfl (Leaning_c _ H)) ?_
 refine .e (.al (zz:=fun b1=> ?_))
 refine .e (.al (zz:=fun b2=> ?_))
 refine .e (.st 1 (zz:=?_))
 refine .e (.st 0 (zz:=?_))
 refine .done (.sr ?_)
 refine .x (.ld 1) ?_
 refine .e (.al (zz:=fun b3=> ?_))
 refine .e (.st 0 (zz:=?_))
 refine .done (.sr ?_)
 refine .c rfl rfl rfl rfl (fun H hs=> .f ca40 rfl (to_c _ H 19 21)) ?_
 refine .x .fa ?_
 refine .e (.st 0 (zz:=?_))
 refine .done ?_
 refine Tc.lift (L₂:= []) rfl (fun Hx hx=> ?_)
 have hGx:=glob_le hG hx.base
 have hle:=hx.base
 have x1:Hx b1=some (true,.cells ⟨exL.val.cells.toList⟩ 27 (0,0)):=hx.get (i:=2) rfl
 have x2:Hx b2=some (true,.cells ⟨exK.val.cells.toList⟩ 27 (0,0)):=hx.get (i:=1) rfl
 have x3:Hx b3=some (true,.cells ⟨exM.val.cells.toList⟩ 27 (0,0)):=hx.get (i:=0) rfl
 refine Tc.dropB (R':= [(1,.pointer (some ⟨b1,0,none⟩)),(2,.pointer (some ⟨b2,0,none⟩)),(3,.pointer (some ⟨b3,0,none⟩))]) (L':= []) ?_ ⟨rfl,rfl,rfl,trivial⟩ (List.Sublist.refl _)
 refine .sr ?_
 refine .e (Or.callNew (fun g:Gl 3 1=> .tuple ⟨[g.val,.int .i64 0]⟩) Gl.bl (fun g:Gl 3 1=> g.l=placesV (placesTo 16 7)) rfl rfl rfl rfl rfl (by decide) gl_nodup (fun H hs=> .f ca84 rfl (Edges_c _ H 16 (by decide))) (fun g1 hg1=> ?_))
 refine .m ?_
 refine .x .et ?_
 refine .x .et ?_
 refine .g ?_
 refine .g ?_
 refine .done (.sr ?_)
 refine .x .l0 ?_
 refine .e (Or.callNew (fun g:Gl 3 1=> .tuple ⟨[g.val,.int .i64 0]⟩) Gl.bl (fun g:Gl 3 1=> g.l=keepTo exK.sureOf 32) rfl rfl rfl rfl rfl (by decide) gl_nodup (fun H hs=> .f ca26 rfl (Sure_c _ H exK (glob_le hGx hs.base) exK_ok)) (fun g2 hg2=> ?_))
 refine .m ?_
 refine .x .et ?_
 refine .x .et ?_
 refine .g ?_
 refine .g ?_
 refine .done (.sr ?_)
 refine .x .l0 ?_
 refine .c rfl rfl rfl rfl (fun H hs=> .f ca24 rfl (CallT.is (.tuple ⟨[.int .i64 0,.int .i64 0]⟩) (by rewrite [ex_right];rfl) (Right_c _ H exK 0 (glob_le hGx hs.base) exK_ok (by decide)))) ?_
 refine .m ?_
 refine .x .et ?_
 refine .x .et ?_
 refine .g ?_
 refine .g ?_
 refine .done (.sr ?_)
 refine .x .l0 ?_
 refine .e (Or.callNew (fun g:Gl 3 1=> .tuple ⟨[g.val,.int .i64 0,.int .i64 0]⟩) Gl.bl (fun g:Gl 3 1=> g.l=keepTo (exK.canRead 0) 32) rfl rfl rfl rfl rfl (by decide) gl_nodup (fun H hs=> .f ca21 rfl (CallT.mono (Reads_one _ H exK 0 (glob_le hGx hs.base) exK_ok (by decide) (by rw[keep_eq ex_reads];decide)) (by rintro v H' ⟨h1,g,h2,h3,h4⟩;rw[ex_refused] at h2;exact⟨h1,g,h2,h3,h4⟩))) (fun g3 hg3=> ?_))
 refine .m ?_
 refine .x .et ?_
 refine .x .et ?_
 refine .x .et ?_
 refine .g ?_
 refine .g ?_
 refine .g ?_
 refine .done (.sr ?_)
 refine .x .l0 ?_
 refine .e (Or.callNew (fun g:Gl 3 1=> .tuple ⟨[pastV 20 19 1 g,.bool true,.int .i64 0]⟩) Gl.bl (fun g:Gl 3 1=> g.l=intsL [-3,3]) rfl rfl rfl rfl rfl (by decide) gl_nodup (fun H hs=> .f ca28 rfl (CallT.mono (Wrong_c _ H exK 0 (glob_le hGx hs.base) exK_ok (by decide)) (by rintro v H' ⟨h1,h2⟩;rw[ex_wrong] at h2;obtain⟨g,h3,h4,h5⟩:=h2;exact⟨h1,g,h3,h4,h5⟩))) (fun g4 hg4=> ?_))
 refine .m ?_
 refine .x .et ?_
 refine .x .et ?_
 refine .x .et ?_
 refine .e (.al (zz:=fun b13=> ?_))
 refine .e (.st 0 (zz:=?_))
 refine .g ?_
 refine .g ?_
 refine .done (.sr ?_)
 refine .x .l0 ?_
 refine .c rfl rfl rfl rfl (fun H hs=> .f ca32 rfl (CallT.is (.tuple ⟨[.int .i64 3,.int .i64 0]⟩) (by rewrite [ex_margin];rfl) (Margin_c _ H exL (glob_le hGx hs.base) exL_ok))) ?_
 refine .m ?_
 refine .x .et ?_
 refine .x .et ?_
 refine .g ?_
 refine .g ?_
 refine .done (.sr ?_)
 refine .x .l0 ?_
 refine .e (Or.callNew (fun g:Gl 3 1=> .tuple ⟨[g.val,.int .i64 0]⟩) Gl.bl (fun g:Gl 3 1=> g.l=keepTo exL.good 41) rfl rfl rfl rfl rfl (by decide) gl_nodup (fun H hs=> .f ca34 rfl (Paces_c _ H exL (glob_le hGx hs.base) exL_ok)) (fun g5 hg5=> ?_))
 refine .m ?_
 refine .x .et ?_
 refine .x .et ?_
 refine .g ?_
 refine .g ?_
 refine .done (.sr ?_)
 refine .x .l0 ?_
 refine .e (.bs (zz:=fun bt1=> ?_))
 refine .e (Or.callNew (fun g:Gl 3 1=> .tuple ⟨[g.val,.int .i64 0]⟩) Gl.bl (fun g:Gl 3 1=> g.l=keepTo (exL.sentOf [0,243]) 32) rfl rfl rfl rfl rfl (by decide) gl_nodup (fun H hs=> .f ca46 rfl (Sent_two _ H exL (glob_le hGx hs.base) exL_ok [0,243] t243 rfl (some ⟨bt1,0,none⟩) 2 (t243_at (hs.get (i:=0) rfl)))) (fun g6 hg6=> ?_))
 refine .m ?_
 refine .x .et ?_
 refine .x .et ?_
 refine .g ?_
 refine .g ?_
 refine .done (.sr ?_)
 refine .x .l0 ?_
 refine .e (.bs (zz:=fun bt2=> ?_))
 refine .c rfl rfl rfl rfl (fun H hs=> .f ca48 rfl (CallT.is (.tuple ⟨[bandV 20 20,.int .i64 0]⟩) (by rewrite [ex_tune];rfl) (Tune_c _ H exM 0 (glob_le hGx hs.base) exM_ok (by decide) [0,243] t243 (by decide) (by rw[ex_edges0];rfl) (some ⟨bt2,0,none⟩) 2 (t243_at (hs.get (i:=0) rfl))))) ?_
 refine .m ?_
 refine .x .et ?_
 refine .x .et ?_
 refine .e (.al (zz:=fun b22=> ?_))
 refine .e (.st 0 (zz:=?_))
 refine .g ?_
 refine .done (.sr ?_)
 refine .e (Or.callNew (fun b:Nat=> exC.val7 b 0 3) (fun b=> [(b,true,Obj.cells ⟨lineC⟩ 25 (0,0))]) (fun _=> True) rfl rfl rfl rfl rfl (by decide) (fun _=> by simp) (fun H hs=> .f ca103 rfl (Chained_c _ H)) (fun lb1 _=> ?_))
 refine .c rfl rfl rfl rfl (fun H hs=> .f ca58 rfl (CallT.is (.tuple ⟨[.int .i64 0,.int .i64 0,.bool true,.int .i64 0]⟩) (by rewrite [ex_sec,ex_weak.1,ex_weak.2];rfl) (Weak_c H exC lb1 0 3 0 none (exC_at (hs.at_ (lb1,true,.cells ⟨lineC⟩ 25 (0,0)) (by simp))) exC_good (glob_le hGx hs.base)))) ?_
 refine .m ?_
 refine .x .et ?_
 refine .x .et ?_
 refine .x .et ?_
 refine .x .et ?_
 refine .g ?_
 refine .g ?_
 refine .g ?_
 refine .g ?_
 refine .done (.sr ?_)
 refine .e (Or.callNew (fun b:Nat=> exC.val7 b 0 3) (fun b=> [(b,true,Obj.cells ⟨lineC⟩ 25 (0,0))]) (fun _=> True) rfl rfl rfl rfl rfl (by decide) (fun _=> by simp) (fun H hs=> .f ca103 rfl (Chained_c _ H)) (fun lb2 _=> ?_))
 refine .e (Or.callNew (fun g:Gl 3 1=> .tuple ⟨[g.val,.bool true,.int .i64 0]⟩) Gl.bl (fun g:Gl 3 1=> g.l=placesV [1]) rfl rfl rfl rfl rfl (by decide) gl_nodup (fun H hs=> .f ca54 rfl (CallT.mono (Spots_c H exC lb2 0 3 none (exC_at (hs.at_ (lb2,true,.cells ⟨lineC⟩ 25 (0,0)) (by simp))) exC_good (glob_le hGx hs.base)) (by rintro v H' ⟨h1,g,h2,h3,h4⟩;rw[ex_spots] at h2 h3;exact⟨h1,g,h2,h3,h4⟩))) (fun g7 hg7=> ?_))
 refine .m ?_
 refine .x .et ?_
 refine .x .et ?_
 refine .x .et ?_
 refine .g ?_
 refine .g ?_
 refine .g ?_
 refine .done ?_
 refine Tc.lift (L₂:= []) rfl (fun Hy hy=> ?_)
 have y22:Hy b22=some (true,.cells ⟨[.int .i64 20,.int .i64 20]⟩ 23 (0,0)):=hy.get (i:=0) rfl
 have y13:Hy b13=some (true,.cells ⟨[.int .i64 20,.int .i64 19,.int .i64 1,g4.val]⟩ 39 (0,0)):=hy.get (i:=3) rfl
 obtain⟨n1,N1⟩:=Nums.of (H:=Hy) (l:= [0,5]) (hg1.trans (by rw[ex_edges];rfl)) (fun y hy'=> hy.at_ y (by simp[hy']))
 obtain⟨n2,N2⟩:=Nums.of (H:=Hy) (hg2.trans (keepI_eq _ _)) (fun y hy'=> hy.at_ y (by simp[hy']))
 obtain⟨n3,N3⟩:=Nums.of (H:=Hy) (l:= [0]) (hg3.trans (keep_eq ex_reads)) (fun y hy'=> hy.at_ y (by simp[hy']))
 obtain⟨n4,N4⟩:=Nums.of (H:=Hy) (l:= [-3,3]) hg4 (fun y hy'=> hy.at_ y (by simp[hy']))
 obtain⟨n5,N5⟩:=Nums.of (H:=Hy) (l:= [19,20,21]) (hg5.trans (keep_eq ex_paces)) (fun y hy'=> hy.at_ y (by simp[hy']))
 obtain⟨n6,N6⟩:=Nums.of (H:=Hy) (l:= [0]) (hg6.trans (keep_eq ex_sent)) (fun y hy'=> hy.at_ y (by simp[hy']))
 obtain⟨n7,N7⟩:=Nums.of (H:=Hy) (l:= [1]) hg7 (fun y hy'=> hy.at_ y (by simp[hy']))
 have hle2:=View.le_trans hle hy.base
 clear hy x1 x2 x3
 have l2:(keepI exK.sureOf 32).length=16:=by unfold keepI;rw[List.length_map];exact ex_sure.1
 have e2:(keepI exK.sureOf 32)[0]?.getD 0=16:=by unfold keepI;rw[List.getElem?_map,ex_sure.2];rfl
 rw[l2] at n2
 obtain⟨gb2,gn2,gc2,gl2,gj2,q1,q2,q3,q4⟩:=g2
 simp only at n2 N2
 subst n2
 rcases N2 with N2|⟨ab,ao,f2,gs2,gt2,gz2,hA,hB,hC⟩
 · rw[N2] at l2;cases l2
 have hC0:=hC 0 (by omega)
 rw[e2] at hC0
 cases gb2 with
 | none=> cases hA
 | some vb=>
 simp only[Option.map_some,Option.some.injEq,Addr.mk.injEq,and_true] at hA
 obtain⟨rfl,rfl⟩:=hA
 refine Tc.dropB (R':= [(4,g1.val),(5,.int .i64 0),(6,.slice (some ⟨vb,0,none⟩) 16 gc2),(7,.int .i64 0),(8,.int .i64 0),(9,.int .i64 0),(10,g3.val),(11,.int .i64 0),(12,.int .i64 0),(13,.pointer (some ⟨b13,0,none⟩)),(14,.bool true),(15,.int .i64 0),(16,.int .i64 3),(17,.int .i64 0),(18,g5.val),(19,.int .i64 0),(20,g6.val),(21,.int .i64 0),
   (22,.pointer (some ⟨b22,0,none⟩)),(23,.int .i64 0),(24,.int .i64 0),(25,.int .i64 0),(26,.bool true),(27,.int .i64 0),(28,g7.val),(29,.bool true),(30,.int .i64 0)]) (L':= []) ?_ ⟨rfl,rfl,rfl,rfl,rfl,rfl,rfl,rfl,rfl,rfl,rfl,rfl,rfl,rfl,rfl,rfl,rfl,rfl,rfl,rfl,rfl,rfl,rfl,rfl,rfl,rfl,rfl,trivial⟩ (List.Sublist.refl _)
 refine .seq (.sr ?_)
 refine .m ?_
 refine .i ?_ (z:=neq_f (by omega))
 refine .m ?_
 refine .m ?_
 refine .i ?_ (z:=neq_f (by omega))
 refine .x .pk ?_
 refine .m ?_
 refine .m ?_
 refine .i ?_ (z:=neq_f (by omega))
 refine .x .pk ?_
 refine .m ?_
 refine .m ?_
 refine .i ?_ (z:=neq_f (by omega))
 refine .x .pk ?_
 refine .m ?_
 refine .m ?_
 refine .i ?_ (z:=neq_f (by omega))
 refine .x .pk ?_
 refine .m ?_
 refine .m ?_
 refine .i ?_ (z:=neq_f (by omega))
 refine .x .pk ?_
 refine .m ?_
 refine .m ?_
 refine .i ?_ (z:=neq_f (by omega))
 refine .x .pk ?_
 refine .m ?_
 refine .m ?_
 refine .i ?_ (z:=neq_f (by omega))
 refine .x .pk ?_
 refine .m ?_
 refine .m ?_
 refine .i ?_ (z:=neq_f (by omega))
 refine .x .pk ?_
 refine .m ?_
 refine .m ?_
 refine .i ?_ (z:=neq_f (by omega))
 refine .x .pk ?_
 refine .m ?_
 refine .m ?_
 refine .i ?_ (z:=neq_f (by omega))
 refine .x .pk ?_
 refine .done (.ff rfl (.skip (.seq (.seq ?_))))
 refine Tc.dropB (R':= [(4,g1.val),(6,.slice (some ⟨vb,0,none⟩) 16 gc2),(8,.int .i64 0),(10,g3.val),(11,.int .i64 0),(13,.pointer (some ⟨b13,0,none⟩)),(14,.bool true),(16,.int .i64 3),(18,g5.val),(20,g6.val),
   (22,.pointer (some ⟨b22,0,none⟩)),(24,.int .i64 0),(25,.int .i64 0),(26,.bool true),(28,g7.val),(29,.bool true)]) (L':= []) ?_ ⟨rfl,rfl,rfl,rfl,rfl,rfl,rfl,rfl,rfl,rfl,rfl,rfl,rfl,rfl,rfl,rfl,trivial⟩ (List.Sublist.refl _)
 refine Tc.dr [] [] mixed rfl ?_
 refine .q 0 rfl .mv ?_
 refine .q 1 rfl (.it (zz:=neq_f (by omega))) ?_
 refine .q 2 rfl .mv ?_
 refine .q 3 rfl .mv ?_
 refine .q 4 rfl (.it (zz:=neq_f (by omega))) ?_
 refine .q 5 rfl .pk ?_
 refine .q 6 rfl .mv ?_
 refine .q 7 rfl .mv ?_
 refine .q 8 rfl .nt ?_
 refine .q 9 rfl .pk ?_
 refine .q 10 rfl .mv ?_
 refine .q 11 rfl .l0 ?_
 refine Ta.each [12] (by kernel_rfl) rfl ⟨TaOp.mk rfl rfl rfl (.bs (zz:=fun bp=> ⟨S2.mk (by exact List.nil_sublist _) (.inr (by exact List.nil_sublist _)),?_⟩)),trivial⟩
 refine .q 13 rfl .bu ?_
 refine Ta.each [14] (by kernel_rfl) rfl ⟨TaOp.mk rfl rfl rfl (Or.callNew (σ:=Unit) (fun _=> .bool true) (fun _=> []) (fun _=> True) rfl rfl rfl rfl rfl (by decide) (fun _=> by simp) (fun H hs=> .f ca30 rfl (CallT.mono (SamePasts_two _ H 20 19 1 _ (some ⟨bp,0,none⟩) [-3,3] g4.n 2 g4.cap 2 n4 rfl (by decide) (N4.le hs.base) (Nums.lit (hs.get (i:=0) rfl))) (by rintro v H' ⟨h1,h2⟩;exact⟨h1,(),h2,trivial,by simp⟩))) (fun _ _=> ⟨S2.mk (by exact List.nil_sublist _) (.inr (by exact List.nil_sublist _)),?_⟩)),trivial⟩
 refine .q 15 rfl .nt ?_
 refine .q 16 rfl .pk ?_
 refine .q 17 rfl .mv ?_
 refine .q 18 rfl .mv ?_
 refine .q 19 rfl (.it (zz:=neq_f (by omega))) ?_
 refine .q 20 rfl .pk ?_
 refine .q 21 rfl .mv ?_
 refine .q 22 rfl .l0 ?_
 refine .z 23 rfl (OpV.takeCall rfl rfl rfl rfl (fun H hs=> .f ca40 rfl (to_c _ H 20 20))) ?_
 refine .q 24 rfl (OpV.neA (E:=en) true 2 rfl rfl rfl rfl rfl eg23 (by decide) (band_flat 20 20) (band_flat 20 20) ⟨fun _=> rfl,fun _=> rfl⟩) ?_
 refine .q 25 rfl .pk ?_
 refine .q 26 rfl .mv ?_
 refine .q 27 rfl .mv ?_
 refine .q 28 rfl (.it (zz:=neq_f (by omega))) ?_
 refine .q 29 rfl .pk ?_
 refine .q 30 rfl .mv ?_
 refine .q 31 rfl .mv ?_
 refine .q 32 rfl (.it (zz:=neq_f (by omega))) ?_
 refine .q 33 rfl .pk ?_
 refine .q 34 rfl .mv ?_
 refine .q 35 rfl .mv ?_
 refine .q 36 rfl .nt ?_
 refine .q 37 rfl .pk ?_
 refine .q 38 rfl .mv ?_
 refine .q 39 rfl .mv ?_
 refine .q 40 rfl .nt ?_
 refine .q 41 rfl .pk ?_
 refine Ta.done (by kernel_rfl) ?_
 refine .ff rfl (.skip (.seq ?_))
 refine Tc.dropB (R':= [(4,g1.val),(6,.slice (some ⟨vb,0,none⟩) 16 gc2),(10,g3.val),(18,g5.val),(20,g6.val),(28,g7.val)]) (L':= []) ?_ ⟨rfl,rfl,rfl,rfl,rfl,rfl,trivial⟩ (List.nil_sublist _)
 refine .r ?_
 refine .m ?_
 refine .e (.bs (zz:=fun c1=> ?_))
 refine .c rfl rfl rfl rfl (fun H hs=> .f ca23 rfl (SameNums_two _ H _ (some ⟨c1,0,none⟩) [0,5] g1.n 2 g1.cap 2 n1 rfl (by decide) (N1.le hs.base) (Nums.lit (hs.get (i:=0) rfl)))) ?_
 refine .m ?_
 refine .m ?_
 refine .x .ln ?_
 refine .i ?_ (z:=eql_t (by omega))
 refine .x .pk ?_
 refine .m ?_
 refine .m ?_
 refine .x .ia ?_
 refine .x .l0 ?_
 refine .i ?_ (z:=eql_t (by omega))
 refine .x .pk ?_
 refine .m ?_
 refine .m ?_
 refine .e (.bs (zz:=fun c2=> ?_))
 refine .c rfl rfl rfl rfl (fun H hs=> .f ca23 rfl (SameNums_two _ H _ (some ⟨c2,0,none⟩) [0] g3.n 1 g3.cap 1 n3 rfl (by decide) (N3.le hs.base) (Nums.lit (hs.get (i:=0) rfl)))) ?_
 refine .x .pk ?_
 refine .m ?_
 refine .m ?_
 refine .e (.bs (zz:=fun c3=> ?_))
 refine .c rfl rfl rfl rfl (fun H hs=> .f ca23 rfl (SameNums_two _ H _ (some ⟨c3,0,none⟩) [19,20,21] g5.n 3 g5.cap 3 n5 rfl (by decide) (N5.le hs.base) (Nums.lit (hs.get (i:=0) rfl)))) ?_
 refine .x .pk ?_
 refine .m ?_
 refine .m ?_
 refine .e (.bs (zz:=fun c4=> ?_))
 refine .c rfl rfl rfl rfl (fun H hs=> .f ca23 rfl (SameNums_two _ H _ (some ⟨c4,0,none⟩) [0] g6.n 1 g6.cap 1 n6 rfl (by decide) (N6.le hs.base) (Nums.lit (hs.get (i:=0) rfl)))) ?_
 refine .x .pk ?_
 refine .m ?_
 refine .m ?_
 refine .e (.bs (zz:=fun c5=> ?_))
 refine .c rfl rfl rfl rfl (fun H hs=> .f ca23 rfl (SameNums_two _ H _ (some ⟨c5,0,none⟩) [1] g7.n 1 g7.cap 1 n7 rfl (by decide) (N7.le hs.base) (Nums.lit (hs.get (i:=0) rfl)))) ?_
 refine .x .pk ?_
 refine .g ?_
 refine .done ?_
 refine .rt hK Tryz.func31 Tryz.results31 [_] ?_
 exact fun H' hs=> ⟨View.le_trans hle2 hs.base,rfl⟩
end Go.Proofs.YtpdaenfglbgfkaaGreatDoor
end
section
namespace Go.Proofs.YtpdaenfglbgfkaaGreatDoor
open Go.RL
set_option maxRecDepth 10000
set_option maxHeartbeats 8000000
end Go.Proofs.YtpdaenfglbgfkaaGreatDoor
end
section
namespace Go.Proofs.YtpdaenfglbgfkaaGreatDoor
open Go.RL
set_option maxRecDepth 10000
structure Lk.Past(k:Lk)(c:Nat)(a r n:Int)(mv:List Int):Prop where
 send:k.s0≤a∧a≤k.s1
 read:k.r0≤r∧r≤k.r1
 lean:k.l0≤n∧n≤k.l1
 len:mv.length=(placesTo c 7).length
 moves:∀m∈mv,k.m0≤m∧m≤k.m1
def pastView(c:Nat)(a r n:Int)(mv:List Int):Nat:=(⟨c,placesTo c 7,a,r,n,mv.headD 0,0,0⟩:Stg).view mv
theorem Stg.viewFrom_eq {s s':Stg}(h1:s.ps=s'.ps)(h2:s.send=s'.send)(h3:s.read=s'.read)(h4:s.lean=s'.lean)(h5:s.first=s'.first):∀(l:List Int) (i v:Nat),s.viewFrom i v l=s'.viewFrom i v l
 | [],_,_=> rfl
 | m::l,i,v=> by
   have:s.miss i m=s'.miss i m:=by unfold Stg.miss Stg.after;rw[h1,h2,h3,h4,h5]
   show s.viewFrom _ _ l=s'.viewFrom _ _ l
   rw[this]
   exact Stg.viewFrom_eq h1 h2 h3 h4 h5 l _ _
theorem Stg.mayAll_tail {s:Stg}:∀(l:List Int) (i:Nat),0<i→(s.mayAll i l↔∀m∈l,s.mf≤m∧m≤s.mt)
 | [],_,_=> by simp[Stg.mayAll]
 | m::l,i,h=> by
   simp only[Stg.mayAll,Stg.mayAll_tail l (i+1) (by omega),List.mem_cons,forall_eq_or_imp]
   unfold Stg.may
   rw[if_neg (by omega)]
theorem Lk.sees_iff {k:Lk}(hk:1≤k.r0){c v:Nat}(hc:c<32):k.sees c v=true↔∃a r n mv,k.Past c a r n mv∧pastView c a r n mv=v:=by
 have h0:=(places_in c hc).1
 unfold Lk.sees
 rw[List.any_eq_true]
 constructor
 · rintro⟨s,hs,hv⟩
   obtain⟨a,r,n,f,h1,h2,h3,h4,rfl⟩:=Lk.mem_stgs.1 hs
   have hr:0<(k.stg c a r n f).read:=by show 0<r;omega
   obtain⟨mv,h5,h6,h7⟩:=(Stg.reach_iff hr).1 hv
   cases mv with
   | nil=> change 0=(placesTo c 7).length at h5;omega
   | cons m l=>
     obtain⟨h8,h9⟩:=h6
     have hm:m=f:=h8
     subst hm
     rw[Stg.mayAll_tail l 1 (by omega)] at h9
     refine⟨a,r,n,m::l,⟨h1,h2,h3,h5,fun x hx=> ?_⟩,?_⟩
     · rcases List.mem_cons.1 hx with rfl|hx
       · exact h4
       · exact h9 x hx
     · rw[←h7]
       exact Stg.viewFrom_eq (s:=⟨c,placesTo c 7,a,r,n,m,0,0⟩) (s':=k.stg c a r n m) rfl rfl rfl rfl rfl (m::l) 0 127
 · rintro⟨a,r,n,mv,hp,rfl⟩
   cases mv with
   | nil=> have:=hp.len;change 0=(placesTo c 7).length at this;omega
   | cons m l=>
     refine⟨k.stg c a r n m,Lk.mem_stgs.2 ⟨a,r,n,m,hp.send,hp.read,hp.lean,hp.moves m List.mem_cons_self,rfl⟩,?_⟩
     have hr:0<(k.stg c a r n m).read:=by have h2:=hp.read;show 0<r;omega
     refine(Stg.reach_iff hr).2 ⟨m::l,hp.len,⟨rfl,(Stg.mayAll_tail l 1 (by omega)).2 fun x hx=> hp.moves x (List.mem_cons_of_mem _ hx)⟩,?_⟩
     exact Stg.viewFrom_eq (s:=k.stg c a r n m) (s':=⟨c,placesTo c 7,a,r,n,m,0,0⟩) rfl rfl rfl rfl rfl (m::l) 0 127
structure Lk.Within(o k:Lk):Prop where
 s:k.s0≤o.s0∧o.s1≤k.s1
 r:k.r0≤o.r0∧o.r1≤k.r1
 l:k.l0≤o.l0∧o.l1≤k.l1
 m:k.m0≤o.m0∧o.m1≤k.m1
theorem Lk.Past.within {o k:Lk}(h:o.Within k){c:Nat}{a r n:Int}{mv:List Int}(p:o.Past c a r n mv):k.Past c a r n mv:=by
 obtain⟨h1,h2,h3,h4⟩:=h
 obtain⟨p1,p2,p3,p4,p5⟩:=p
 exact⟨by omega,by omega,by omega,p4,fun m hm=> by have:=p5 m hm;omega⟩
theorem Lk.sees_within {o k:Lk}(ho:1≤o.r0)(hk:1≤k.r0)(h:o.Within k){c v:Nat}(hc:c<32)(hv:o.sees c v=true):k.sees c v=true:=by
 obtain⟨a,r,n,mv,hp,rfl⟩:=(Lk.sees_iff ho hc).1 hv
 exact(Lk.sees_iff hk hc).2 ⟨a,r,n,mv,hp.within h,rfl⟩
theorem Lk.sure_sees {k:Lk}(hk:1≤k.r0):k.Sure↔∀c,c<32→∀w,k.sees c w=true→w=rightN c:=by
 unfold Lk.Sure
 refine forall_congr' fun c=> forall_congr' fun hc=> ?_
 rw[←Lk.wrong_none,Lk.wrong_sees hk]
theorem Lk.sure_within {o k:Lk}(ho:1≤o.r0)(hk:1≤k.r0)(h:o.Within k)(hs:k.Sure):o.Sure:=
 (Lk.sure_sees ho).2 fun c hc w hw=> (Lk.sure_sees hk).1 hs c hc w (Lk.sees_within ho hk h hc hw)
theorem Lk.sees_some {k:Lk}(hk:1≤k.r0)(h1:k.s0≤k.s1)(h2:k.r0≤k.r1)(h3:k.l0≤k.l1)(h4:k.m0≤k.m1){c:Nat}(hc:c<32):∃v,k.sees c v=true:=
 ⟨_,(Lk.sees_iff hk hc).2 ⟨k.s0,k.r0,k.l0,List.replicate (placesTo c 7).length k.m0,⟨⟨Int.le_refl _,h1⟩,⟨Int.le_refl _,h2⟩,⟨Int.le_refl _,h3⟩,by simp,fun m hm=> by rw[(List.mem_replicate.1 hm).2];exact⟨Int.le_refl _,h4⟩⟩,rfl⟩⟩
end Go.Proofs.YtpdaenfglbgfkaaGreatDoor
end
section
namespace Go.Proofs.YtpdaenfglbgfkaaGreatDoor
open Go.RL
set_option maxRecDepth 10000
set_option maxHeartbeats 4000000
def Refuses(M:Md Tryz.prog)(H:View)(fv:Value)(l:List Int):Prop:=
 ∀j:Nat,j<l.length→∀H',H.le H'→FnT M fv [.int .i64 (l[j]?.getD 0)] H' fun v H''=> H'.le H''∧v=.bool false
theorem Lk.past_of {k:Lk}(hk:k.ok=true)(c:Nat)(l:List Int):k.Past c (k.pSend l) (k.pRead l) (k.pLean l) (k.pMoves l (placesTo c 7).length):=by
 obtain⟨hks,hkr,hkl,hkm⟩:=Lk.ok_in hk
 refine⟨pick_in (by omega),pick_in (by omega),pick_in (by omega),Lk.pMoves_len ..,fun m hm=> ?_⟩
 obtain⟨i,_,rfl⟩:=List.mem_map.1 hm
 exact pick_in (by omega)
theorem Lk.Past.at_ {k:Lk}{c:Nat}{a r n:Int}{mv:List Int}(h:k.Past c a r n mv){j:Nat}(hj:j<mv.length):k.m0≤mv[j]?.getD 0∧mv[j]?.getD 0≤k.m1:=by
 rw[List.getElem?_eq_getElem hj]
 exact h.moves _ (List.getElem_mem hj)
def viewTo(c:Nat)(a r n:Int)(mv:List Int)(i:Nat):Nat:=(⟨c,placesTo c 7,a,r,n,mv.headD 0,0,0⟩:Stg).viewFrom 0 127 (mv.take i)
theorem viewTo_lt(c:Nat)(a r n:Int)(mv:List Int)(i:Nat):viewTo c a r n mv i<128:=Stg.viewFrom_lt _ _ _ _ (by decide)
theorem viewTo_step {c:Nat}{a r n:Int}{mv:List Int}{i:Nat}(hr:0≤r)(hi:i<mv.length):
   viewTo c a r n mv (i+1)=turnedN (viewTo c a r n mv i) (missedF r (seenAt (placesTo c 7) mv a n i-seenAt (placesTo c 7) mv a n 0)).toNat:=by
 unfold viewTo
 rw[List.take_succ_eq_append_getElem hi,Stg.viewFrom_snoc,List.length_take,Nat.min_eq_left (by omega),Nat.zero_add]
 congr 2
 have hg:mv[i]?.getD 0=mv[i]:=by rw[List.getElem?_eq_getElem hi];rfl
 unfold Stg.miss Stg.after seenAt
 have h0:mv[0]?.getD 0=mv.headD 0:=by cases mv <;> rfl
 by_cases e:i=0
 · subst e
   rw[if_pos rfl,Int.sub_self]
   have h1:=missedF_in r 0
   have h2:¬(0<missedF r 0):=fun h=> by
     have:=missedF_to (pace:=r) (after:=0) (Int.le_refl 0) h
     omega
   omega
 · rw[if_neg e]
   congr 1
   rw[hg,h0]
   simp only[Int.natCast_zero]
   omega
theorem viewTo_all {c:Nat}{a r n:Int}{mv:List Int}:viewTo c a r n mv mv.length=pastView c a r n mv:=by
 unfold viewTo pastView Stg.view
 rw[List.take_length]
def readV(o:Option Nat):Value:=match o with
 | some m=> .tuple ⟨[.int .i64 (m:Nat),.bool true,.int .i64 0]⟩
 | none=> .tuple ⟨[.int .i64 0,.bool false,.int .i64 0]⟩
section
variable(M:Md Tryz.prog)(H:View)
theorem IndexFunc_no(A:Option Addr)(l:List Int)(n ca:Nat)(fv:Value)(hn:n=l.length)(h6:n≤1000)(hA:Nums H A l)(hf:Refuses M H fv l):CallT M 210 #[.slice A n ca,fv] H (fun v H'=> H.le H'∧v=.int .i64 (-1)):=by
 refine CallT.enter (vs:= [.slice A n ca,fv]) Tryz.func210 rfl Tryz.ntmps210 (Nat.le_of_ble_eq_true rfl) (SymSt.nil _) fun St c cs hK=> ?_
 refine .sr ?_
 refine .g ?_
 refine .done (.seq (.sr ?_))
 refine .m ?_
 refine .x .ln ?_
 refine .m ?_
 refine .done (.block ?_)
 refine Tc.db (Tc.loopInv (σ:= { j:Nat//j≤n }) (fun j=> ([(0,.slice A n ca),(1,fv),(7,.int .i64 (n:Nat)),(8,.int .i64 (j.1:Nat))],[])) (fun j=> n-j.1) ?_ ⟨0,by omega⟩)
 rintro⟨j,hj⟩ ih
 show Tc M St _ _ _ _ [(0,.slice A n ca),(1,fv),(7,.int .i64 (n:Nat)),(8,.int .i64 (j:Nat))] [] _ _
 by_cases c1:j=n
 · subst c1
   refine .sr ?_
   refine .i ?_ (z:=lss_f (by omega))
   refine .done (.seq (.ff rfl (.exit rfl (.sr ?_))))
   refine .g ?_
   refine .done ?_
   refine .rt hK Tryz.func210 Tryz.results210 [_] ?_
   exact fun H' hs=> ⟨hs.base,rfl⟩
 · have c2:j<n:=by omega
   rcases hA with hA|⟨a1,a2,a3,a4,a5,a6,rfl,a7,a8⟩
   · rw[hA] at hn;simp at hn;omega
   have f1:=a8 j (by omega)
   refine .sr ?_
   refine .i ?_ (z:=lss_t (by omega))
   refine .done (.seq (.tt rfl (.skip (.seq (.block (.sr ?_))))))
   refine .m ?_
   refine .g ?_
   refine .done (.sr ?_)
   refine .m ?_
   refine .m ?_
   refine .m ?_
   refine .x .ia ?_
   refine .x .l0 ?_
   refine .c rfl rfl rfl rfl (fun H hs=> hf j (by omega) H hs.base) ?_
   refine .done (.ff rfl (.skip (.inBlock (.r ?_))))
   refine .i ?_ (z:=add_in (by omega) (by omega))
   refine .m ?_
   refine .done ?_
   exact Tc.db (ih ⟨j+1,by omega⟩ (by simp only;omega))
theorem ContainsFunc_no(A:Option Addr)(l:List Int)(n ca:Nat)(fv:Value)(hn:n=l.length)(h6:n≤1000)(hA:Nums H A l)(hf:Refuses M H fv l):CallT M 170 #[.slice A n ca,fv] H (fun v H'=> H.le H'∧v=.bool false):=by
 refine CallT.enter (vs:= [.slice A n ca,fv]) Tryz.func170 rfl Tryz.ntmps170 (Nat.le_of_ble_eq_true rfl) (SymSt.nil _) fun St c cs hK=> ?_
 refine .sr ?_
 refine .g ?_
 refine .done (.sr ?_)
 refine .m ?_
 refine .m ?_
 refine .c rfl rfl rfl rfl (fun H hs=> .f ca210 rfl (IndexFunc_no M H A l n ca fv hn h6 (hA.le hs.base) (fun j hj H' hle=> hf j hj H' (View.le_trans hs.base hle)))) ?_
 refine .i ?_ (z:=geq_f (by omega))
 refine .g ?_
 refine .done ?_
 refine .rt hK Tryz.func170 Tryz.results170 [_] ?_
 exact fun H' hs=> ⟨hs.base,rfl⟩
theorem has_yes(a b x:Int)(h:a≤x∧x≤b):CallT M 169 #[bandV a b,.int .i64 x] H (fun v H'=> H.le H'∧v=.bool true):=
 CallT.mono (has_c M H a b x) (by rintro v H' ⟨h1,h2⟩;rw[decide_eq_true h] at h2;exact⟨h1,h2⟩)
theorem past_refuses(a b:Int)(b11:Nat)(l:List Int)(hb:H b11=some (true,.cells ⟨[.int .i64 a,.int .i64 b]⟩ 180 (0,0)))(hl:∀j:Nat,j<l.length→a≤l[j]?.getD 0∧l[j]?.getD 0≤b):Refuses M H (.func (.func 171) #[] #[.pointer (some ⟨b11,0,none⟩)]) l:=fun j hj H' hle=> by
 refine FnT.of (first:= []) (captured:= [_]) ca171 rfl ?_
 have h11:=hle _ _ hb
 refine CallT.enter (vs:= [.int .i64 (l[j]?.getD 0),.pointer (some ⟨b11,0,none⟩)]) Tryz.func171 rfl Tryz.ntmps171 (Nat.le_of_ble_eq_true rfl) (SymSt.nil _) fun St c cs hK=> ?_
 refine .sr ?_
 refine .g ?_
 refine .done (.sr ?_)
 refine .x .l0 ?_
 refine .m ?_
 refine .c rfl rfl rfl rfl (fun H hs=> .f ca169 rfl (has_yes M H a b _ (hl j hj))) ?_
 refine .x .nt ?_
 refine .g ?_
 refine .done ?_
 refine .rt hK Tryz.func171 Tryz.results171 [_] ?_
 exact fun H2 hs=> ⟨hs.base,rfl⟩
variable(k:Lk)(hG:Glob H)(hk:k.ok=true)(code:Nat)(hc:code<32)(a r n:Int)(mv:List Int)(hP:k.Past code a r n mv)(A:Option Addr)(m ca:Nat)(hm:m=(placesTo code 7).length)(hA:Nums H A mv)
include hG hk hc hP hm hA
theorem past_good:CallT M 134 #[k.val,.int .i64 code,.agg ⟨[.int .i64 a,.int .i64 r,.int .i64 n,.slice A m ca]⟩] H (fun v H'=> H.le H'∧∃x:Nat×Nat×List Value,v=.tuple ⟨[letN code x,.int .i64 0]⟩∧True∧∀y∈letB code x,H' y.1=some y.2∧H y.1=none):=by
 have hp6:=(places_in code hc).2.1
 have hml:=hP.len
 refine CallT.enter (vs:= [k.val,.int .i64 code,.agg ⟨[.int .i64 a,.int .i64 r,.int .i64 n,.slice A m ca]⟩]) Tryz.func134 rfl Tryz.ntmps134 (Nat.le_of_ble_eq_true rfl) (SymSt.nil _) fun St c cs hK=> ?_
 refine .sr ?_
 refine .e (.bx (zz:=fun b3=> ?_))
 refine .e (.bx (zz:=fun b5=> ?_))
 refine .e (.al (zz:=fun b6=> ?_))
 refine .g ?_
 refine .done (.sr ?_)
 refine .x (.ld 2) ?_
 refine .m ?_
 refine .e (Or.callNew (fun x=> .tuple ⟨[k.val,letN code x,.int .i64 0]⟩) (letB code) (fun _=> True) rfl rfl rfl rfl rfl (by decide) (letB_nodup code) (fun H hs=> .f ca89 rfl (open_n M H k code (glob_le hG hs.base) hk hc)) (fun x hx=> ?_))
 refine .m ?_
 refine .x .et ?_
 refine .x .et ?_
 refine .x .et ?_
 refine .e (.al (zz:=fun b8=> ?_))
 refine .e (.al (zz:=fun b9=> ?_))
 refine .e (.st 1 (zz:=?_))
 refine .e (.st 0 (zz:=?_))
 refine .g ?_
 refine .done (.seq (.sr ?_))
 refine .m ?_
 refine .i ?_ (z:=neq_f (by omega))
 refine .done (.ff rfl (.skip (.sr ?_)))
 refine .x .fa ?_
 refine .x .fa ?_
 refine .x .fa ?_
 refine .x (.ld 1) ?_
 refine .c rfl rfl rfl rfl (fun H hs=> .f ca155 rfl (bandOf_c M H k.m0 k.m1)) ?_
 refine .e (.al (zz:=fun b11=> ?_))
 refine .e (.st 0 (zz:=?_))
 refine .done (.seq (.block (.seq (.seq ?_))))
 refine Tc.dr [] [] mixed rfl ?_
 refine .q 0 rfl .fa ?_
 refine .q 1 rfl .fa ?_
 refine .q 2 rfl (.ld 2) ?_
 refine .z 3 rfl (OpV.takeCall rfl rfl rfl rfl (fun H hs=> .f ca155 rfl (bandOf_c M H k.s0 k.s1))) ?_
 refine .q 4 rfl .fa ?_
 refine .q 5 rfl (.ld 4) ?_
 refine .z 6 rfl (OpV.takeCall rfl rfl rfl rfl (fun H hs=> .f ca169 rfl (has_yes M H k.s0 k.s1 a hP.send))) ?_
 refine .q 7 rfl .nt ?_
 refine .q 8 rfl .sg ?_
 refine Ta.done (by kernel_rfl) ?_
 refine .ff rfl (.seq ?_)
 refine Tc.dr [] [] mixed rfl ?_
 refine .q 0 rfl .fa ?_
 refine .q 1 rfl .fa ?_
 refine .q 2 rfl (.ld 2) ?_
 refine .z 3 rfl (OpV.takeCall rfl rfl rfl rfl (fun H hs=> .f ca155 rfl (bandOf_c M H k.r0 k.r1))) ?_
 refine .q 4 rfl .fa ?_
 refine .q 5 rfl (.ld 4) ?_
 refine .z 6 rfl (OpV.takeCall rfl rfl rfl rfl (fun H hs=> .f ca169 rfl (has_yes M H k.r0 k.r1 r hP.read))) ?_
 refine .q 7 rfl .nt ?_
 refine .q 8 rfl .sg ?_
 refine Ta.done (by kernel_rfl) ?_
 refine .ff rfl ?_
 refine Tc.dr [] [] mixed rfl ?_
 refine .q 0 rfl .fa ?_
 refine .q 1 rfl .fa ?_
 refine .q 2 rfl .fa ?_
 refine .q 3 rfl (.ld 2) ?_
 refine .z 4 rfl (OpV.takeCall rfl rfl rfl rfl (fun H hs=> .f ca155 rfl (bandOf_c M H k.l0 k.l1))) ?_
 refine .q 5 rfl .fa ?_
 refine .q 6 rfl (.ld 4) ?_
 refine .z 7 rfl (OpV.takeCall rfl rfl rfl rfl (fun H hs=> .f ca169 rfl (has_yes M H k.l0 k.l1 n hP.lean))) ?_
 refine .q 8 rfl .nt ?_
 refine .q 9 rfl .sg ?_
 refine Ta.done (by kernel_rfl) ?_
 refine .ff rfl (.sr ?_)
 refine .x .fa ?_
 refine .x (.ld 4) ?_
 refine .x .ln ?_
 refine .x .fa ?_
 refine .x (.ld 1) ?_
 refine .x .ln ?_
 refine .i ?_ (z:=neq_f (by omega))
 refine .g ?_
 refine .done (.ff rfl (.sr ?_))
 refine .x .fa ?_
 refine .x (.ld 4) ?_
 refine .x .mf ?_
 refine .c rfl rfl rfl rfl (fun H hs=> .f ca170 rfl (ContainsFunc_no M H A mv m ca _ (by omega) (by omega) (hA.le hs.base) (past_refuses M H k.m0 k.m1 b11 mv (hs.get (i:=0) rfl) (fun j hj=> hP.at_ hj)))) ?_
 refine .g ?_
 refine .done (.ff rfl (.skip (.inBlock (.sr ?_))))
 refine .x (.ld 1) ?_
 refine .e (.st 3 (zz:=?_))
 refine .g ?_
 refine .done ?_
 refine Tc.retN (E:=en) hK Tryz.func134 Tryz.results134 (vs:= [_,_]) (by refine⟨⟨3,_,_,_,_,_,_,_,rfl,rfl,rfl,rfl⟩,?_⟩;refine⟨rfl,?_⟩;exact trivial) ?_
 exact fun H' hs=> ⟨hs.base,x,rfl,trivial,fun y hy=> ⟨hs.at_ y (by simp[hy]),hs.out y (by simp[hy])⟩⟩
omit hG in
theorem seen_good(x:Nat×Nat×List Value)(hx:∀y∈letB code x,H y.1=some y.2):CallT M 135 #[letN code x,.agg ⟨[.int .i64 a,.int .i64 r,.int .i64 n,.slice A m ca]⟩] H (fun v H'=> H.le H'∧v=timesV (seenTo (placesTo code 7) mv a n (placesTo code 7).length)):=by
  obtain⟨hks,hkr,hkl,hkm⟩:=Lk.ok_in hk
  obtain⟨hp0,hp6,hpl⟩:=places_in code hc
  have hml:=hP.len
  have h1:=hP.send
  have h2:=hP.lean
  obtain⟨f,es,et,ez,hE1,hE2⟩:=edg_of hx
  rcases hA with hA|⟨a1,a2,a3,a4,a5,a6,rfl,a7,a8⟩
  · rw[hA] at hml;simp at hml;omega
  exact seen_c M H (code:Int) a r n (placesTo code 7) mv x.1 0 x.2.1 a1 a2 ca f a3 es a4 et a5 ez a6 hE1 hE2 a7 (fun i hi=> by have:=a8 i (by omega);rwa [Int.toNat_natCast] at this) hp6 hpl
    (fun i=> by
      by_cases hi:i<mv.length
      · have:=hP.at_ hi;omega
      · rw[List.getElem?_eq_none (by omega)];decide) (by omega) (by omega) (by omega) (by omega) m (by omega)
theorem Read_good:CallT M 74 #[k.val,.int .i64 code,.agg ⟨[.int .i64 a,.int .i64 r,.int .i64 n,.slice A m ca]⟩] H (fun v H'=> H.le H'∧v=readV (readN (pastView code a r n mv))):=by
 obtain⟨hks,hkr,hkl,hkm⟩:=Lk.ok_in hk
 obtain⟨hp0,hp6,hpl⟩:=places_in code hc
 have hml:=hP.len
 have hr:=hP.read
 have h1:=hP.send
 have h2:=hP.lean
 have hsb:∀i:Nat,i<(placesTo code 7).length→ -100000≤seenAt (placesTo code 7) mv a n i∧seenAt (placesTo code 7) mv a n i≤100000:=fun i hi=> by
   have h3:=hP.at_ (j:=i) (by omega)
   have h4:=hpl i hi
   have h5:=still_in (place:=(((placesTo code 7)[i]?.getD 0:Nat):Int)) (number:=(i:Nat)) (send:=a) (lean:=n) (by omega) (by omega) (by omega) (by omega) (by omega) (by omega)
   unfold seenAt
   omega
 have hsl:=seenTo_len (placesTo code 7) mv a n (placesTo code 7).length
 have hsm:∀z∈seenTo (placesTo code 7) mv a n (placesTo code 7).length, -1000000000≤z∧z≤1000000000:=fun z hz=> by
   unfold seenTo at hz
   obtain⟨i,hi,rfl⟩:=List.mem_map.1 hz
   split
   · rename_i hlt
     have:=hsb i hlt
     omega
   · decide
 have hget:∀i:Nat,i<(placesTo code 7).length→ldL false 1 (intsL (afterTo (seenTo (placesTo code 7) mv a n (placesTo code 7).length) (placesTo code 7).length)) (0+(i:Int).toNat*1)=some (.int .i64 (seenAt (placesTo code 7) mv a n i-seenAt (placesTo code 7) mv a n 0)):=fun i hi=> by
   show(intsL _)[0+(i:Int).toNat*1]? =_
   rw[Nat.zero_add,Nat.mul_one,Int.toNat_natCast]
   have h3:(seenTo (placesTo code 7) mv a n (placesTo code 7).length)[i]? =some (seenAt (placesTo code 7) mv a n i):=by
     unfold seenTo
     rw[List.getElem?_map,List.getElem?_range (by omega)]
     simp[hi]
   have h4:(seenTo (placesTo code 7) mv a n (placesTo code 7).length).headD 0=seenAt (placesTo code 7) mv a n 0:=by
     unfold seenTo
     simp[List.range_succ_eq_map,hp0]
   rw[intsL_get (afterTo_get h3),if_pos hi,h4]
 refine CallT.enter (vs:= [k.val,.int .i64 code,.agg ⟨[.int .i64 a,.int .i64 r,.int .i64 n,.slice A m ca]⟩]) Tryz.func74 rfl Tryz.ntmps74 (Nat.le_of_ble_eq_true rfl) (SymSt.nil _) fun St c cs hK=> ?_
 refine .sr ?_
 refine .e (.bx (zz:=fun b3=> ?_))
 refine .e (.bx (zz:=fun b5=> ?_))
 refine .g ?_
 refine .g ?_
 refine .g ?_
 refine .done (.sr ?_)
 refine .x (.ld 1) ?_
 refine .m ?_
 refine .x (.ld 0) ?_
 refine .e (Or.callNew (fun x=> .tuple ⟨[letN code x,.int .i64 0]⟩) (letB code) (fun _=> True) rfl rfl rfl rfl rfl (by decide) (letB_nodup code) (fun H hs=> .f ca134 rfl (past_good M H k (glob_le hG hs.base) hk code hc a r n mv hP A m ca hm (hA.le hs.base))) (fun x hx=> ?_))
 refine .m ?_
 refine .x .et ?_
 refine .x .et ?_
 refine .e (.al (zz:=fun b9=> ?_))
 refine .e (.st 0 (zz:=?_))
 refine .g ?_
 refine .done (.seq (.sr ?_))
 refine .m ?_
 refine .i ?_ (z:=neq_f (by omega))
 refine .done (.ff rfl (.skip (.sr ?_)))
 refine .g ?_
 refine .done (.seq ?_)
 refine Tc.dr [8] [] mixed rfl ?_
 refine .q 0 rfl (.ld 0) ?_
 refine .q 1 rfl (.ld 1) ?_
 refine .z 2 rfl (OpV.takeCall rfl rfl rfl rfl (fun H hs=> .f ca135 rfl (seen_good M H k hk code hc a r n mv hP A m ca hm (hA.le hs.base) x (fun y hy=> hs.at_ y (by simp[hy]))))) ?_
 refine .q 3 rfl .fa ?_
 refine .q 4 rfl (.ld 0) ?_
 refine .q 5 rfl .ln ?_
 refine .z 6 rfl (OpV.takeCall rfl rfl rfl rfl (fun H hs=> .f ca137 rfl (after_c M H _ (placesTo code 7).length hsl hp6 hsm))) ?_
 refine Ta.each [7] (by kernel_rfl) rfl ⟨TaOp.mk rfl rfl rfl (.al (zz:=fun b11=> ⟨S2.mk (by apply List.Sublist.cons;exact List.Sublist.refl _) (.inr (by apply List.Sublist.cons;exact List.Sublist.refl _)),?_⟩)),trivial⟩
 refine Ta.each [8] (by kernel_rfl) rfl ⟨TaOp.mk rfl rfl rfl (.st 0 (zz:=⟨S2.mk (by apply List.Sublist.cons;exact List.Sublist.refl _) (.inl (by kernel_rfl)),?_⟩)),trivial⟩
 refine Ta.done (by kernel_rfl) ?_
 refine .seq (.sr ?_)
 refine .x .fa ?_
 refine .x (.ld 1) ?_
 refine .x .ln ?_
 refine .m ?_
 refine .done (.block ?_)
 refine Tc.db (Tc.loopInv (σ:= { i:Nat//i≤(placesTo code 7).length }) (fun i=> ([(5,.pointer (some ⟨b5,0,none⟩)),(10,.int .u8 (viewTo code a r n mv i.1:Nat)),(11,.pointer (some ⟨b11,0,none⟩)),(32,.int .i64 ((placesTo code 7).length:Nat)),(33,.int .i64 (i.1:Nat))],
   [(b11,true,.cells ⟨intsL (afterTo (seenTo (placesTo code 7) mv a n (placesTo code 7).length) (placesTo code 7).length)⟩ 135 (0,0)),(b5,true,.cells ⟨[.int .i64 a,.int .i64 r,.int .i64 n,.slice A m ca]⟩ 39 (0,0))])) (fun i=> (placesTo code 7).length-i.1) ?_ ⟨0,Nat.zero_le _⟩)
 rintro⟨i,hi⟩ ih
 show Tc M St _ _ _ _ [(5,.pointer (some ⟨b5,0,none⟩)),(10,.int .u8 (viewTo code a r n mv i:Nat)),(11,.pointer (some ⟨b11,0,none⟩)),(32,.int .i64 ((placesTo code 7).length:Nat)),(33,.int .i64 (i:Nat))]
   [(b11,true,.cells ⟨intsL (afterTo (seenTo (placesTo code 7) mv a n (placesTo code 7).length) (placesTo code 7).length)⟩ 135 (0,0)),(b5,true,.cells ⟨[.int .i64 a,.int .i64 r,.int .i64 n,.slice A m ca]⟩ 39 (0,0))] _ _
 by_cases c1:i=(placesTo code 7).length
 · have hv:viewTo code a r n mv i=pastView code a r n mv:=by rw[c1,←hml];exact viewTo_all
   have hlt:=viewTo_lt code a r n mv i
   rw[hv] at hlt
   rw[hv]
   cases hrd:readN (pastView code a r n mv) with
   | none=>
     refine .sr ?_
     refine .i ?_ (z:=lss_f (by omega))
     refine .done (.seq (.ff rfl (.exit rfl (.sr ?_))))
     refine .m ?_
     refine .c rfl rfl rfl rfl (fun H hs=> .f ca91 rfl (CallT.is (.tuple ⟨[.int .i64 0,.bool false]⟩) (by rewrite [hrd];rfl) (read_c M H (pastView code a r n mv) hlt))) ?_
     refine .m ?_
     refine .x .et ?_
     refine .x .et ?_
     refine .g ?_
     refine .g ?_
     refine .done (.sr ?_)
     refine .m ?_
     refine .m ?_
     refine .g ?_
     refine .g ?_
     refine .g ?_
     refine .done ?_
     refine .rt hK Tryz.func74 Tryz.results74 [_,_,_] ?_
     exact fun H' hs=> ⟨hs.base,by rw[hrd];rfl⟩
   | some w=>
     refine .sr ?_
     refine .i ?_ (z:=lss_f (by omega))
     refine .done (.seq (.ff rfl (.exit rfl (.sr ?_))))
     refine .m ?_
     refine .c rfl rfl rfl rfl (fun H hs=> .f ca91 rfl (CallT.is (.tuple ⟨[.int .i64 (w:Nat),.bool true]⟩) (by rewrite [hrd];rfl) (read_c M H (pastView code a r n mv) hlt))) ?_
     refine .m ?_
     refine .x .et ?_
     refine .x .et ?_
     refine .g ?_
     refine .g ?_
     refine .done (.sr ?_)
     refine .m ?_
     refine .m ?_
     refine .g ?_
     refine .g ?_
     refine .g ?_
     refine .done ?_
     refine .rt hK Tryz.func74 Tryz.results74 [_,_,_] ?_
     exact fun H' hs=> ⟨hs.base,by rw[hrd];rfl⟩
 · have c2:i<(placesTo code 7).length:=by omega
   have f1:=hget i c2
   have hmi:=missedF_in r (seenAt (placesTo code 7) mv a n i-seenAt (placesTo code 7) mv a n 0)
   have hst:=viewTo_step (c:=code) (a:=a) (r:=r) (n:=n) (mv:=mv) (i:=i) (by omega) (by omega)
   obtain⟨w,hw⟩:∃w:Nat,missedF r (seenAt (placesTo code 7) mv a n i-seenAt (placesTo code 7) mv a n 0)=(w:Int):=⟨_,(Int.toNat_of_nonneg hmi.1).symm⟩
   rw[hw,Int.toNat_natCast] at hst
   have hw8:w<8:=by omega
   refine .sr ?_
   refine .i ?_ (z:=lss_t (by omega))
   refine .done (.seq (.tt rfl (.skip (.seq (.block (.sr ?_))))))
   refine .m ?_
   refine .g ?_
   refine .done ?_
   refine Tc.dr [] [] mixed rfl ?_
   refine .q 0 rfl .mv ?_
   refine .q 1 rfl .fa ?_
   refine .q 2 rfl (.ld 1) ?_
   refine .q 3 rfl .mv ?_
   refine .q 4 rfl .ib ?_
   refine .q 5 rfl (.ld 0) ?_
   refine .z 6 rfl (OpV.takeCall rfl rfl rfl rfl (fun H hs=> .f ca139 rfl (CallT.is (.int .i64 (w:Nat)) (by rewrite [hw];rfl) (missed_c M H r (seenAt (placesTo code 7) mv a n i-seenAt (placesTo code 7) mv a n 0) (by omega) (by omega))))) ?_
   refine .z 7 rfl (OpV.takeCall rfl rfl rfl rfl (fun H hs=> .f ca138 rfl (CallT.mono (turned_c M H (viewTo code a r n mv i) w (viewTo_lt ..) hw8) (Q':=fun v H'=> H.le H'∧v=.int .u8 (viewTo code a r n mv (i+1):Nat)) (by rintro v H' ⟨h1,h2⟩;rw[hst];exact⟨h1,h2⟩)))) ?_
   refine .q 8 rfl .sg ?_
   refine Ta.done (by kernel_rfl) ?_
   refine .inBlock (.r ?_)
   refine .i ?_ (z:=add_in (by omega) (by omega))
   refine .m ?_
   refine .done ?_
   exact Tc.db (ih ⟨i+1,by omega⟩ (by simp only;omega))
end
end Go.Proofs.YtpdaenfglbgfkaaGreatDoor
end
section
namespace Go.Proofs.YtpdaenfglbgfkaaGreatDoor
open Go.RL
set_option maxRecDepth 10000
set_option maxHeartbeats 8000000
theorem read_right:∀c:Nat,c<32→readN (rightN c)=some c:=by decide +kernel
theorem firstTo_spec {p:Nat→Bool}:∀ {k n:Nat},firstTo p k=some n→p n=true∧n<k∧∀i,i<n→p i=false
 | 0,n,h=> by cases h
 | k + 1,n,h=> by
   unfold firstTo at h
   cases hf:firstTo p k with
   | some x=>
     rw[hf] at h
     have e:x=n:=Option.some.inj h
     subst e
     obtain⟨h1,h2,h3⟩:=firstTo_spec hf
     exact⟨h1,by omega,h3⟩
   | none=>
     rw[hf] at h
     have h':(if p k then some k else none)=some n:=h
     split at h'
     · rename_i hp
       cases h'
       exact⟨hp,by omega,(firstTo_none k).1 hf⟩
     · cases h'
theorem Lk.unfit_iff {k:Lk}{i:Nat}:k.unfit i=false↔(k.mv (i:Int)).Sure:=by
 unfold Lk.unfit
 rw[←Lk.weak_none]
 cases (k.mv (i:Int)).weak <;> simp
theorem Lk.margin_iff {k:Lk}(hk:k.ok=true){m:Int}(h0:0≤m)(h1:m≤12):m≤k.margin↔(k.mv m).Sure:=by
 obtain⟨_,hkr,_,_⟩:=Lk.ok_in hk
 obtain⟨i,rfl⟩:∃i:Nat,m=(i:Int):=⟨m.toNat,by omega⟩
 unfold Lk.margin
 cases hf:firstTo k.unfit 13 with
 | none=>
   have:=(firstTo_none 13).1 hf i (by omega)
   simp only
   exact⟨fun _=> Lk.unfit_iff.1 this,fun _=> by omega⟩
 | some n=>
   obtain⟨h2,h3,h4⟩:=firstTo_spec hf
   simp only
   constructor
   · intro h
     exact Lk.unfit_iff.1 (h4 i (by omega))
   · intro h
     rcases Nat.lt_or_ge i n with h5|h5
     · omega
     · have h6:(k.mv (n:Int)).Sure:=Lk.sure_within (k:=k.mv (i:Int)) hkr.1 hkr.1 ⟨⟨Int.le_refl _,Int.le_refl _⟩,⟨Int.le_refl _,Int.le_refl _⟩,⟨Int.le_refl _,Int.le_refl _⟩,by show -(i:Int)≤ -(n:Int)∧(n:Int)≤(i:Int);omega⟩ h
       rw[Lk.unfit_iff.2 h6] at h2
       cases h2
theorem Lk.margin_in {k:Lk}: -1≤k.margin∧k.margin≤12:=by
 unfold Lk.margin
 cases hf:firstTo k.unfit 13 with
 | none=> simp
 | some n=>
   have:=(firstTo_spec hf).2.1
   simp only
   omega
section
variable(M:Md Tryz.prog)(H:View)
end
end Go.Proofs.YtpdaenfglbgfkaaGreatDoor
end
section
namespace Go.Proofs.YtpdaenfglbgfkaaGreatDoor
open Go.RL
set_option maxRecDepth 10000
theorem Lk.claim_one {k:Lk}(hk:k.ok=true){c:Nat}(hc:c<32):k.claim c=1↔k.wrong c=none:=by
 obtain⟨hks,hkr,hkl,hkm⟩:=Lk.ok_in hk
 rw[Lk.wrong_sees hkr.1]
 obtain⟨v,hv⟩:=Lk.sees_some (k:=k) hkr.1 hks.2.1 hkr.2.1 hkl.2.1 hkm.2.1 hc
 have hlt:∀w,k.sees c w=true→w<128:=fun w hw=> by
   obtain⟨a,r,n,mv,_,rfl⟩:=(Lk.sees_iff hkr.1 hc).1 hw
   exact Stg.viewFrom_lt _ _ _ _ (by decide)
 unfold Lk.claim
 constructor
 · intro h w hw
   split at h
   · rename_i hr
     split at h
     · rename_i h1
       unfold Lk.seen at h1
       obtain⟨z,hz⟩:=List.length_eq_one_iff.1 h1
       have m1:w∈(List.range 128).filter (k.sees c):=List.mem_filter.2 ⟨List.mem_range.2 (hlt w hw),hw⟩
       have m2:rightN c∈(List.range 128).filter (k.sees c):=List.mem_filter.2 ⟨List.mem_range.2 (hlt _ hr),hr⟩
       rw[hz,List.mem_singleton] at m1 m2
       rw[m1,m2]
     · cases h
   · cases h
 · intro h
   have hr:k.sees c (rightN c)=true:=by rw[←h v hv];exact hv
   rw[if_pos hr,if_pos]
   unfold Lk.seen
   have e:(List.range 128).filter (k.sees c)= [rightN c]:=by
     have nd:((List.range 128).filter (k.sees c)).Nodup:=List.Pairwise.filter _ List.nodup_range
     have hall:∀x∈(List.range 128).filter (k.sees c),x=rightN c:=fun x hx=> h x (List.mem_filter.1 hx).2
     have hm:rightN c∈(List.range 128).filter (k.sees c):=List.mem_filter.2 ⟨List.mem_range.2 (hlt _ hr),hr⟩
     match hL:(List.range 128).filter (k.sees c),nd,hall,hm with
     | [],_,_,hm=> cases hm
     | [x],_,hall,_=> rw[hall x (by simp)]
     | x::y::l,nd,hall,_=>
       have h1:=hall x (by simp)
       have h2:=hall y (by simp)
       rw[List.nodup_cons] at nd
       exact absurd (by rw[h1,←h2];simp) nd.1
   rw[e]
   rfl
end Go.Proofs.YtpdaenfglbgfkaaGreatDoor
end
section
namespace Go.RL
end Go.RL
end
section
namespace Go.Proofs.YtpdaenfglbgfkaaGreatDoor
open Go.RL
set_option maxRecDepth 10000
set_option maxHeartbeats 4000000
section
variable(M:Md Tryz.prog)(H:View)
end
end Go.Proofs.YtpdaenfglbgfkaaGreatDoor
end
section
namespace Go.Proofs.YtpdaenfglbgfkaaGreatDoor
open Go.RL
set_option maxRecDepth 10000
set_option maxHeartbeats 8000000
theorem right_val:∀c:Nat,c<32→rightN c=64+2*c:=by decide +kernel
theorem read_only {v c:Nat}(hv:v<128)(h:readN v=some c):v=rightN c:=by
 have hc:=readN_lt h
 rw[right_val c hc]
 exact(readN_iff v hv c hc).1 h
theorem pastView_lt(c:Nat)(a r n:Int)(mv:List Int):pastView c a r n mv<128:=Stg.viewFrom_lt _ _ _ _ (by decide)
theorem readV_eq(o:Option Nat):readV o=.tuple ⟨[.int .i64 ((o.getD 0:Nat):Int),.bool o.isSome,.int .i64 0]⟩:=by cases o <;> rfl
end Go.Proofs.YtpdaenfglbgfkaaGreatDoor
end
section
namespace Go.Proofs.YtpdaenfglbgfkaaGreatDoor
open Go.RL
set_option maxRecDepth 10000
def at0(l:List Int)(i:Nat):Int:=l[i]?.getD 0
def swapL(l:List Int)(p q:Nat):List Int:=(l.set p (at0 l q)).set q (at0 l p)
theorem swapL_len(l:List Int)(p q:Nat):(swapL l p q).length=l.length:=by simp[swapL]
theorem swapL_at {l:List Int}{p q:Nat}(hp:p<l.length)(hq:q<l.length)(r:Nat):at0 (swapL l p q) r=if r=q then at0 l p else if r=p then at0 l q else at0 l r:=by
 unfold swapL at0
 rw[List.getElem?_set]
 by_cases h1:q=r
 · subst h1
   rw[if_pos rfl,if_pos (by rw[List.length_set];exact hq),if_pos rfl]
   rfl
 · rw[if_neg h1,if_neg (fun h=> h1 h.symm),List.getElem?_set]
   by_cases h2:p=r
   · subst h2
     rw[if_pos rfl,if_pos hp,if_pos rfl]
     rfl
   · rw[if_neg h2,if_neg (fun h=> h2 h.symm)]
theorem swapL_count {l:List Int}{p q:Nat}(hp:p<l.length)(hq:q<l.length)(x:Int):(swapL l p q).count x=l.count x:=by
 unfold swapL at0
 rw[List.getElem?_eq_getElem hp,List.getElem?_eq_getElem hq]
 simp only[Option.getD_some]
 rw[List.count_set (by rw[List.length_set];exact hq),List.count_set hp,List.getElem_set]
 have h1:∀ {i:Nat} (h:i<l.length),l[i]=x→0<l.count x:=fun h e=> List.count_pos_iff.2 (e▸List.getElem_mem h)
 by_cases e:p=q
 · subst e
   simp only[if_true]
   by_cases e2:l[p]=x
   · have:=h1 hp e2
     simp only[e2,beq_self_eq_true,if_true]
     omega
   · have e3:(l[p]==x)=false:=by simpa using e2
     simp only[e3,Bool.false_eq_true,if_false]
     omega
 · simp only[if_neg e]
   by_cases e2:l[p]=x <;> by_cases e3:l[q]=x
   · have:=h1 hp e2
     simp only[e2,e3,beq_self_eq_true,if_true]
     omega
   · have e4:(l[q]==x)=false:=by simpa using e3
     have:=h1 hp e2
     simp only[e2,e4,beq_self_eq_true,if_true,Bool.false_eq_true,if_false]
     omega
   · have e4:(l[p]==x)=false:=by simpa using e2
     have:=h1 hq e3
     simp only[e3,e4,beq_self_eq_true,if_true,Bool.false_eq_true,if_false]
     omega
   · have e4:(l[p]==x)=false:=by simpa using e2
     have e5:(l[q]==x)=false:=by simpa using e3
     simp only[e4,e5,Bool.false_eq_true,if_false]
     omega
structure Turned(a b:Nat)(l m:List Int):Prop where
 len:m.length=l.length
 cnt:∀x,m.count x=l.count x
 out:∀i,i<a∨b≤i→at0 m i=at0 l i
theorem Turned.refl(a b:Nat)(l:List Int):Turned a b l l:=⟨rfl,fun _=> rfl,fun _ _=> rfl⟩
theorem Turned.trans {a b:Nat}{l m n:List Int}(h:Turned a b l m)(k:Turned a b m n):Turned a b l n:=⟨k.len.trans h.len,fun x=> (k.cnt x).trans (h.cnt x),fun i hi=> (k.out i hi).trans (h.out i hi)⟩
theorem Turned.wide {a b a' b':Nat}{l m:List Int}(h:Turned a b l m)(h1:a'≤a)(h2:b≤b'):Turned a' b' l m:=⟨h.len,h.cnt,fun i hi=> h.out i (by omega)⟩
theorem Turned.swap {a b:Nat}{l:List Int}{p q:Nat}(hp:p<l.length)(hq:q<l.length)(h1:a≤p∧p<b)(h2:a≤q∧q<b):Turned a b l (swapL l p q):=
 ⟨swapL_len ..,swapL_count hp hq,fun i hi=> by rw[swapL_at hp hq,if_neg (by omega),if_neg (by omega)]⟩
def Srt(a b:Nat)(l:List Int):Prop:=∀p q,a≤p→p<q→q<b→at0 l p≤at0 l q
end Go.Proofs.YtpdaenfglbgfkaaGreatDoor
end
section
namespace Go.RL
open Go.Conc
theorem SymSt.turn {H₀ H H':View}{L:Bl}(h:SymSt H₀ L H){i sb:Nat}{x y:Bool×Obj}(hi:L[i]? =some (sb,x))(h1:∀b z,b≠sb→H b=some z→H' b=some z)(h2:H' sb=some y):SymSt H₀ (L.set i (sb,y)) H':=
 (h.set hi y).mono fun b z hb=> by
   by_cases e:b=sb
   · subst e
     rw[View.put_same] at hb
     rw[h2,hb]
   · rw[View.put_other _ _ e] at hb
     exact h1 b z e hb
end Go.RL
namespace Go.Proofs.YtpdaenfglbgfkaaGreatDoor
open Go.RL
set_option maxRecDepth 10000
set_option maxHeartbeats 4000000
def SortQ(H:View)(sb:Nat)(j:List Value)(P:Value→List Int→Prop)(v:Value)(H':View):Prop:=
 (∀b x,b≠sb→H b=some x→H' b=some x)∧∃m,P v m∧H' sb=some (true,.cells ⟨intsL m++j⟩ 3 (0,0))
theorem SortQ.of {H H':View}{sb:Nat}{j:List Value}{P:Value→List Int→Prop}{v:Value}{L:Bl}{m:List Int}(hs:SymSt (H.without sb) L H'){i:Nat}(hi:L[i]? =some (sb,true,.cells ⟨intsL m++j⟩ 3 (0,0)))(hP:P v m):SortQ H sb j P v H':=
 ⟨fun b x hb hx=> hs.base b x (by rw[without_other hb];exact hx),m,hP,hs.get hi⟩
theorem Or.sorts {M:Md Tryz.prog}{n:Nat}{H₀:View}{R:Rg}{L:Bl}{o:Oper}{K:Rg→Bl→Prop}{cl:Go.Call}{x:Operand}{fv:Value}{az:List Value}{d:Nat}(i:Nat){sb:Nat}{l:List Int}{j:List Value}(P:Value→List Int→Prop)
   (hop:o.op=.call cl) (hcl:cl.callee=.value x) (hx:evR R x=some fv) (has:evRs R cl.args.toList=some az) (hd:o.dst=some d) (hn:d<n) (hi:L[i]? =some (sb,true,.cells ⟨intsL l++j⟩ 3 (0,0)))
   (hc:∀H,SymSt H₀ L H→FnT M fv az H (SortQ H sb j P)) (hk:∀v m,P v m→K ((d,v)::R) (L.set i (sb,true,.cells ⟨intsL m++j⟩ 3 (0,0)))):Or M n H₀ R L o K:=
 .callV hop hcl hx has (Q:=fun H v H'=> SortQ H sb j P v H') hc fun H v H' hs ⟨h1,m,h2,h3⟩=>
   ⟨_,_,hs.turn hi h1 h3,by rw[hd];exact⟨hn,rfl⟩,hk v m h2⟩
theorem cells_ld {m:List Int}{j:List Value}{k:Int}{p:Nat}(hk:k=(p:Nat))(hp:p<m.length):ldL false 1 (intsL m++j) (0+k.toNat*1)=some (.int .i64 (at0 m p)):=by
 subst hk
 show(intsL m++j)[0+(p:Int).toNat*1]? =_
 rw[Nat.zero_add,Nat.mul_one,Int.toNat_natCast,List.getElem?_append_left (by rw[intsL_len];exact hp)]
 unfold intsL at0
 rw[List.getElem?_map,List.getElem?_eq_getElem hp]
 rfl
theorem cells_st {m:List Int}{j:List Value}{k x:Int}{p:Nat}(hk:k=(p:Nat))(hp:p<m.length):stL (intsL m++j) (0+k.toNat*1) [.int .i64 x]=intsL (m.set p x)++j:=by
 subst hk
 rw[Nat.zero_add,Nat.mul_one,Int.toNat_natCast,stL_one _ _ _ (by rw[List.length_append,intsL_len];omega),List.set_append_left _ _ (by rw[intsL_len];exact hp)]
 unfold intsL
 rw[List.map_set]
theorem cells_le {m:List Int}{j:List Value}{k:Int}{p:Nat}(hk:k=(p:Nat))(hp:p<m.length):Nat.ble (0+k.toNat*1+1) (intsL m++j).length=true:=by
 subst hk
 rw[Nat.ble_eq,List.length_append,intsL_len,Int.toNat_natCast]
 omega
section
variable(M:Md Tryz.prog)(H:View)
theorem Less_c(a b:Int):CallT M 182 #[.int .i64 a,.int .i64 b] H (fun v H'=> H.le H'∧v=.bool (decide (a<b))):=by
 refine CallT.enter (vs:= [.int .i64 a,.int .i64 b]) Tryz.func182 rfl Tryz.ntmps182 (Nat.le_of_ble_eq_true rfl) (SymSt.nil _) fun St c cs hK=> ?_
 by_cases c1:a<b
 · have e:decide (a<b)=true:=decide_eq_true c1
   refine .sr ?_
   refine .g ?_
   refine .done (.sr ?_)
   refine .m ?_
   refine .c rfl rfl rfl rfl (fun H hs=> .f ca189 rfl (isNaN_c M H a)) ?_
   refine .m ?_
   refine .sk ?_
   refine .sk ?_
   refine .sk ?_
   refine .x .pk ?_
   refine .m ?_
   refine .m ?_
   refine .m ?_
   refine .i ?_ (z:=lss_t (by omega))
   refine .x .pk ?_
   refine .g ?_
   refine .done ?_
   refine .rt hK Tryz.func182 Tryz.results182 [_] ?_
   exact fun H' hs=> ⟨hs.base,by rw[e];rfl⟩
 · have e:decide (a<b)=false:=decide_eq_false c1
   refine .sr ?_
   refine .g ?_
   refine .done (.sr ?_)
   refine .m ?_
   refine .c rfl rfl rfl rfl (fun H hs=> .f ca189 rfl (isNaN_c M H a)) ?_
   refine .m ?_
   refine .sk ?_
   refine .sk ?_
   refine .sk ?_
   refine .x .pk ?_
   refine .m ?_
   refine .m ?_
   refine .m ?_
   refine .i ?_ (z:=lss_f (by omega))
   refine .x .pk ?_
   refine .g ?_
   refine .done ?_
   refine .rt hK Tryz.func182 Tryz.results182 [_] ?_
   exact fun H' hs=> ⟨hs.base,by rw[e];rfl⟩
end
end Go.Proofs.YtpdaenfglbgfkaaGreatDoor
end
section
namespace Go.Proofs.YtpdaenfglbgfkaaGreatDoor
open Go.RL
set_option maxRecDepth 10000
set_option maxHeartbeats 8000000
theorem ins_out {m:List Int}{a i j:Nat}(hg:∀p q,a≤p→p<q→q≤i→q≠j→at0 m p≤at0 m q)(hj:a<j)(hle:¬at0 m j<at0 m (j-1)):Srt a (i+1) m:=fun p q h1 h2 h3=> by
 by_cases e:q=j
 · subst e
   have h4:at0 m p≤at0 m (q-1):=by
     by_cases e2:p=q-1
     · rw[e2];exact Int.le_refl _
     · exact hg p (q-1) h1 (by omega) (by omega) (by omega)
   omega
 · exact hg p q h1 h2 (by omega) e
theorem ins_step {m:List Int}{a i j:Nat}(hi:i<m.length)(hji:j≤i)(hg:∀p q,a≤p→p<q→q≤i→q≠j→at0 m p≤at0 m q)(hj:a<j)(hlt:at0 m j<at0 m (j-1)):
   ∀p q,a≤p→p<q→q≤i→q≠j-1→at0 (swapL m j (j-1)) p≤at0 (swapL m j (j-1)) q:=fun p q h1 h2 h3 h4=> by
 rw[swapL_at (by omega) (by omega),swapL_at (by omega) (by omega),if_neg h4]
 by_cases e:q=j
 · rw[if_pos e]
   by_cases e2:p=j-1
   · rw[if_pos e2];omega
   · rw[if_neg e2,if_neg (by omega)]
     exact hg p (j-1) h1 (by omega) (by omega) (by omega)
 · rw[if_neg e]
   by_cases e2:p=j-1
   · rw[if_pos e2]
     exact hg j q (by omega) (by omega) h3 e
   · rw[if_neg e2]
     by_cases e3:p=j
     · rw[if_pos e3]
       exact hg (j-1) q (by omega) (by omega) h3 e
     · rw[if_neg e3]
       exact hg p q h1 h2 h3 e
section
variable(M:Md Tryz.prog)(H:View)
theorem insertion_c(sb:Nat)(l:List Int)(jj:List Value)(n cap a b:Nat)(hn:n=l.length)(hb:b≤n)(h1000:n≤1000)(ha:a≤n)(hS:H sb=some (true,.cells ⟨intsL l++jj⟩ 3 (0,0))):
   CallT M 176 #[.slice (some ⟨sb,0,none⟩) n cap,.int .i64 (a:Nat),.int .i64 (b:Nat)] H (SortQ H sb jj (fun v m=> v=.tuple ⟨[]⟩∧Turned a b l m∧Srt a b m)):=by
 refine CallT.enter (vs:= [.slice (some ⟨sb,0,none⟩) n cap,.int .i64 (a:Nat),.int .i64 (b:Nat)]) Tryz.func176 rfl Tryz.ntmps176 (Nat.le_of_ble_eq_true rfl) (SymSt.pull hS) fun St c cs hK=> ?_
 have ha1:intBin .add .i64 (a:Nat) 1=some (.int .i64 ((a+1:Nat):Int)):=by rw[add_in (by omega) (by omega)];rfl
 refine .sr ?_
 refine .m ?_
 refine .i ?_ (z:=add_in (by omega) (by omega))
 refine .g ?_
 refine .done (.block ?_)
 refine Tc.db (Tc.loopInv (σ:= { s:Nat×List Int//a+1≤s.1∧(s.1≤b∨s.1=a+1)∧Turned a b l s.2∧Srt a s.1 s.2 }) (fun s=> ([(0,.slice (some ⟨sb,0,none⟩) n cap),(1,.int .i64 (a:Nat)),(2,.int .i64 (b:Nat)),(6,.int .i64 (s.1.1:Nat))],[(sb,true,.cells ⟨intsL s.1.2++jj⟩ 3 (0,0))])) (fun s=> b-s.1.1) ?_
   ⟨(a+1,l),by simp,by simp,Turned.refl ..,fun p q h1 h2 h3=> by omega⟩)
 rintro⟨⟨i,m⟩,g1,g2,g3,g4⟩ ih
 simp only at g1 g2 g3 g4
 show Tc M St _ _ _ _ [(0,.slice (some ⟨sb,0,none⟩) n cap),(1,.int .i64 (a:Nat)),(2,.int .i64 (b:Nat)),(6,.int .i64 (i:Nat))] [(sb,true,.cells ⟨intsL m++jj⟩ 3 (0,0))] _ _
 by_cases c1:i<b
 · have hml:=g3.len
   have hi1:intBin .add .i64 (i:Nat) 1=some (.int .i64 ((i+1:Nat):Int)):=by rw[add_in (by omega) (by omega)];rfl
   refine .seq (.sr ?_)
   refine .m ?_
   refine .m ?_
   refine .i ?_ (z:=lss_t (by omega))
   refine .done (.tt rfl (.skip (.seq (.block (.sr ?_)))))
   refine .m ?_
   refine .g ?_
   refine .done (.block ?_)
   refine Tc.db (Tc.loopInv (σ:= { s:Nat×List Int//a≤s.1∧s.1≤i∧Turned a b l s.2∧∀p q,a≤p→p<q→q≤i→q≠s.1→at0 s.2 p≤at0 s.2 q }) (fun s=> ([(0,.slice (some ⟨sb,0,none⟩) n cap),(1,.int .i64 (a:Nat)),(2,.int .i64 (b:Nat)),(6,.int .i64 (i:Nat)),(7,.int .i64 (s.1.1:Nat))],[(sb,true,.cells ⟨intsL s.1.2++jj⟩ 3 (0,0))])) (fun s=> s.1.1) ?_
     ⟨(i,m),by simp only;omega,by simp only;omega,g3,fun p q h1 h2 h3 h4=> g4 p q h1 h2 (by simp only at h4;omega)⟩)
   rintro⟨⟨j,u⟩,f1,f2,f3,f4⟩ ih2
   simp only at f1 f2 f3 f4
   have hul:=f3.len
   show Tc M St _ _ _ _ [(0,.slice (some ⟨sb,0,none⟩) n cap),(1,.int .i64 (a:Nat)),(2,.int .i64 (b:Nat)),(6,.int .i64 (i:Nat)),(7,.int .i64 (j:Nat))] [(sb,true,.cells ⟨intsL u++jj⟩ 3 (0,0))] _ _
   by_cases c2:a<j
   · have e1:((j:Nat):Int)-1=((j-1:Nat):Int):=by omega
     have k1:=cells_ld (m:=u) (j:=jj) (k:=(j:Nat)) (p:=j) rfl (by omega)
     have k2:=cells_ld (m:=u) (j:=jj) (k:=(j:Nat)-1) (p:=j-1) e1 (by omega)
     by_cases c3:at0 u j<at0 u (j-1)
     · have s1:=cells_st (m:=u) (j:=jj) (k:=(j:Nat)) (x:=at0 u (j-1)) (p:=j) rfl (by omega)
       have s2:=cells_st (m:=u.set j (at0 u (j-1))) (j:=jj) (k:=(j:Nat)-1) (x:=at0 u j) (p:=j-1) e1 (by rw[List.length_set];omega)
       have l1:=cells_le (m:=u) (j:=jj) (k:=(j:Nat)) (p:=j) rfl (by omega)
       have l2:=cells_le (m:=u.set j (at0 u (j-1))) (j:=jj) (k:=(j:Nat)-1) (p:=j-1) e1 (by rw[List.length_set];omega)
       refine .seq (.seq ?_)
       refine Tc.dr [] [] mixed rfl ?_
       refine .q 0 rfl .mv ?_
       refine .q 1 rfl .mv ?_
       refine .q 2 rfl (.it (zz:=gtr_t (by omega))) ?_
       refine .q 3 rfl .mv ?_
       refine .q 4 rfl .mv ?_
       refine .q 5 rfl .mv ?_
       refine .q 6 rfl .ia ?_
       refine .q 7 rfl (.ld 0) ?_
       refine .q 8 rfl .mv ?_
       refine .q 9 rfl .mv ?_
       refine .q 10 rfl (.it (zz:=sub_in (by omega) (by omega))) ?_
       refine .q 11 rfl .ia ?_
       refine .q 12 rfl (.ld 0) ?_
       refine .z 13 rfl (OpV.takeCall rfl rfl rfl rfl (fun H hs=> .f ca182 rfl (CallT.is (.bool true) (by rewrite [decide_eq_true c3];rfl) (Less_c M H (at0 u j) (at0 u (j-1)))))) ?_
       refine .q 14 rfl .pk ?_
       refine Ta.done (by kernel_rfl) ?_
       refine .tt rfl (.skip (.seq (.block ?_)))
       refine Tc.dr [15,17] [0] mixed rfl ?_
       refine .q 0 rfl .mv ?_
       refine .q 1 rfl .mv ?_
       refine Ta.tkw 2 (by kernel_rfl) rfl rfl rfl (by decide) rfl rfl (OpV.take .mv) ?_
       refine Ta.tkw 3 (by kernel_rfl) rfl rfl rfl (by decide) rfl rfl (OpV.take .mv) ?_
       refine Ta.tkw 4 (by kernel_rfl) rfl rfl rfl (by decide) rfl rfl (OpV.take (.it (zz:=sub_in (by omega) (by omega)))) ?_
       refine .q 5 rfl .mv ?_
       refine .q 6 rfl .mv ?_
       refine .q 7 rfl (.it (zz:=sub_in (by omega) (by omega))) ?_
       refine .q 8 rfl .ia ?_
       refine .q 9 rfl (.ld 0) ?_
       refine Ta.tkw 10 (by kernel_rfl) rfl rfl rfl (by decide) rfl rfl (OpV.take .mv) ?_
       refine Ta.tkw 11 (by kernel_rfl) rfl rfl rfl (by decide) rfl rfl (OpV.take .mv) ?_
       refine Ta.tkw 12 (by kernel_rfl) rfl rfl rfl (by decide) rfl rfl (OpV.take .ia) ?_
       refine .q 13 rfl (.ld 0) ?_
       refine .q 14 rfl .ia ?_
       refine Ta.each [15] (by kernel_rfl) rfl ⟨TaOp.mk rfl rfl rfl (.st 0 (zz:=⟨S2.mk (by exact List.nil_sublist _) (.inl (by kernel_rfl)),?_⟩)),trivial⟩
       refine Ta.tkw 16 (by kernel_rfl) rfl rfl rfl (by decide) rfl rfl (OpV.take .ia) ?_
       refine Ta.each [17] (by kernel_rfl) rfl ⟨TaOp.mk rfl rfl rfl (.st 0 (zz:=⟨S2.mk (by exact List.nil_sublist _) (.inl (by kernel_rfl)),?_⟩)),trivial⟩
       refine Ta.done (by kernel_rfl) ?_
       refine .inBlock (.r ?_)
       refine .m ?_
       refine .i ?_ (z:=sub_in (by omega) (by omega))
       refine .g ?_
       refine .done ?_
       rw[e1]
       exact Tc.db (ih2 ⟨(j-1,swapL u j (j-1)),by simp only;omega,by simp only;omega,f3.trans (Turned.swap (by omega) (by omega) (by omega) (by omega)),ins_step (by omega) f2 f4 c2 c3⟩ (by simp only;omega))
     · refine .seq (.seq ?_)
       refine Tc.dr [] [] mixed rfl ?_
       refine .q 0 rfl .mv ?_
       refine .q 1 rfl .mv ?_
       refine .q 2 rfl (.it (zz:=gtr_t (by omega))) ?_
       refine .q 3 rfl .mv ?_
       refine .q 4 rfl .mv ?_
       refine .q 5 rfl .mv ?_
       refine .q 6 rfl .ia ?_
       refine .q 7 rfl (.ld 0) ?_
       refine .q 8 rfl .mv ?_
       refine .q 9 rfl .mv ?_
       refine .q 10 rfl (.it (zz:=sub_in (by omega) (by omega))) ?_
       refine .q 11 rfl .ia ?_
       refine .q 12 rfl (.ld 0) ?_
       refine .z 13 rfl (OpV.takeCall rfl rfl rfl rfl (fun H hs=> .f ca182 rfl (CallT.is (.bool false) (by rewrite [decide_eq_false c3];rfl) (Less_c M H (at0 u j) (at0 u (j-1)))))) ?_
       refine .q 14 rfl .pk ?_
       refine Ta.done (by kernel_rfl) ?_
       refine .ff rfl (.exit rfl (.inBlock (.r ?_)))
       refine .m ?_
       refine .i ?_ (z:=add_in (by omega) (by omega))
       refine .g ?_
       refine .done ?_
       exact Tc.db (ih ⟨(i+1,u),by simp only;omega,by simp only;omega,f3,ins_out f4 c2 c3⟩ (by simp only;omega))
   · refine .seq (.seq ?_)
     refine Tc.dr [] [] mixed rfl ?_
     refine .q 0 rfl .mv ?_
     refine .q 1 rfl .mv ?_
     refine .q 2 rfl (.it (zz:=gtr_f (by omega))) ?_
     refine .q 3 rfl .mv ?_
     refine Ta.ps 4 (by kernel_rfl) rfl rfl rfl (by decide) rfl rfl ?_
     refine Ta.ps 5 (by kernel_rfl) rfl rfl rfl (by decide) rfl rfl ?_
     refine Ta.ps 6 (by kernel_rfl) rfl rfl rfl (by decide) rfl rfl ?_
     refine Ta.ps 7 (by kernel_rfl) rfl rfl rfl (by decide) rfl rfl ?_
     refine Ta.ps 8 (by kernel_rfl) rfl rfl rfl (by decide) rfl rfl ?_
     refine Ta.ps 9 (by kernel_rfl) rfl rfl rfl (by decide) rfl rfl ?_
     refine Ta.ps 10 (by kernel_rfl) rfl rfl rfl (by decide) rfl rfl ?_
     refine Ta.ps 11 (by kernel_rfl) rfl rfl rfl (by decide) rfl rfl ?_
     refine Ta.ps 12 (by kernel_rfl) rfl rfl rfl (by decide) rfl rfl ?_
     refine Ta.ps 13 (by kernel_rfl) rfl rfl rfl (by decide) rfl rfl ?_
     refine .q 14 rfl .pk ?_
     refine Ta.done (by kernel_rfl) ?_
     refine .ff rfl (.exit rfl (.inBlock (.r ?_)))
     refine .m ?_
     refine .i ?_ (z:=add_in (by omega) (by omega))
     refine .g ?_
     refine .done ?_
     exact Tc.db (ih ⟨(i+1,u),by simp only;omega,by simp only;omega,f3,fun p q h1 h2 h3=> f4 p q h1 h2 (by omega) (by omega)⟩ (by simp only;omega))
 · refine .seq (.sr ?_)
   refine .m ?_
   refine .m ?_
   refine .i ?_ (z:=lss_f (by omega))
   refine .done (.ff rfl (.exit rfl ?_))
   refine Tc.overN (E:=en) hK Tryz.func176 Tryz.results176 (vs:= []) (by exact trivial) ?_
   exact fun H' hs=> SortQ.of hs (i:=0) rfl ⟨rfl,g3,fun p q h1 h2 h3=> g4 p q h1 h2 (by omega)⟩
end
end Go.Proofs.YtpdaenfglbgfkaaGreatDoor
end
section
namespace Go.Proofs.YtpdaenfglbgfkaaGreatDoor
open Go.RL
set_option maxRecDepth 10000
theorem at0_some {l:List Int}{i:Nat}(h:i<l.length):l[i]? =some (at0 l i):=by
 unfold at0
 rw[List.getElem?_eq_getElem h]
 rfl
theorem Turned.get {a b:Nat}{l m:List Int}(h:Turned a b l m){i:Nat}(hi:i<a∨b≤i):m[i]? =l[i]? :=by
 by_cases c:i<l.length
 · rw[at0_some c,at0_some (by rw[h.len];exact c),h.out i hi]
 · have hl:=h.len
   rw[List.getElem?_eq_none (by omega),List.getElem?_eq_none (by omega)]
theorem parts_eq(l:List Int){a b:Nat}(hab:a≤b):l=l.take a++((l.drop a).take (b-a)++l.drop b):=by
 have h1:l.drop b=(l.drop a).drop (b-a):=by rw[List.drop_drop];congr 1;omega
 rw[h1,List.take_append_drop,List.take_append_drop]
theorem Turned.mid {a b:Nat}{l m:List Int}(h:Turned a b l m)(hab:a≤b)(x:Int):((m.drop a).take (b-a)).count x=((l.drop a).take (b-a)).count x:=by
 have e1:m.take a=l.take a:=by
   apply List.ext_getElem?
   intro i
   by_cases c:i<a
   · rw[List.getElem?_take_of_lt c,List.getElem?_take_of_lt c]
     exact h.get (.inl c)
   · rw[List.getElem?_eq_none (by rw[List.length_take];omega),List.getElem?_eq_none (by rw[List.length_take];omega)]
 have e2:m.drop b=l.drop b:=by
   apply List.ext_getElem?
   intro i
   rw[List.getElem?_drop,List.getElem?_drop]
   exact h.get (.inr (by omega))
 have h1:=h.cnt x
 have h2:=congrArg (List.count x) (parts_eq m hab)
 have h3:=congrArg (List.count x) (parts_eq l hab)
 simp only[List.count_append] at h2 h3
 rw[e1,e2] at h2
 omega
theorem Turned.all {a b:Nat}{l m:List Int}(h:Turned a b l m)(hb:b≤l.length){P:Int→Prop}(hP:∀p,a≤p→p<b→P (at0 l p)):∀p,a≤p→p<b→P (at0 m p):=fun p h1 h2=> by
 have g1:at0 m p∈(m.drop a).take (b-a):=by
   rw[List.mem_iff_getElem?]
   refine⟨p-a,?_⟩
   rw[List.getElem?_take_of_lt (by omega),List.getElem?_drop,show a+(p-a)=p by omega]
   exact at0_some (by rw[h.len];omega)
 have g2:at0 m p∈(l.drop a).take (b-a):=by
   rw[←List.count_pos_iff,←h.mid (by omega)]
   exact List.count_pos_iff.2 g1
 obtain⟨i,hi⟩:=List.mem_iff_getElem?.1 g2
 have hlt:i<b-a:=by
   have:=(List.getElem?_eq_some_iff.1 hi).1
   rw[List.length_take] at this
   omega
 rw[List.getElem?_take_of_lt hlt,List.getElem?_drop,at0_some (by omega)] at hi
 have:=Option.some.inj hi
 rw[←this]
 exact hP (a+i) (by omega) (by omega)
def Heap(f lo hi:Nat)(l:List Int):Prop:=∀k c,lo≤k→(c=2*k+1∨c=2*k+2)→c<hi→at0 l (f+c)≤at0 l (f+k)
def HeapBut(f lo hi r:Nat)(l:List Int):Prop:=
 (∀k c,lo≤k→k≠r→(c=2*k+1∨c=2*k+2)→c<hi→at0 l (f+c)≤at0 l (f+k))∧
 (∀k c,lo≤k→(r=2*k+1∨r=2*k+2)→(c=2*r+1∨c=2*r+2)→c<hi→at0 l (f+c)≤at0 l (f+k))
theorem Heap.top {f hi:Nat}{l:List Int}(h:Heap f 0 hi l):∀k,k<hi→at0 l (f+k)≤at0 l f:=by
 intro k
 induction k using Nat.strongRecOn with
 | ind k ih=>
   intro hk
   by_cases h0:k=0
   · subst h0;exact Int.le_refl _
   · have h1:=h ((k-1)/2) k (Nat.zero_le _) (by omega) hk
     have h2:=ih ((k-1)/2) (by omega) (by omega)
     omega
theorem HeapBut.fin {f lo hi r:Nat}{l:List Int}(h:HeapBut f lo hi r l)(hr:∀c,(c=2*r+1∨c=2*r+2)→c<hi→at0 l (f+c)≤at0 l (f+r)):Heap f lo hi l:=fun k c h1 h2 h3=> by
 by_cases e:k=r
 · subst e;exact hr c h2 h3
 · exact h.1 k c h1 e h2 h3
theorem HeapBut.step {f lo hi r c:Nat}{l:List Int}(h:HeapBut f lo hi r l)(hl:f+hi≤l.length)(hlr:lo≤r)(hc:c=2*r+1∨c=2*r+2)(hch:c<hi)(hlt:at0 l (f+r)<at0 l (f+c))
   (hmax:∀d,(d=2*r+1∨d=2*r+2)→d<hi→at0 l (f+d)≤at0 l (f+c)):HeapBut f lo hi c (swapL l (f+r) (f+c)):=by
 have hs:=fun q=> swapL_at (l:=l) (p:=f+r) (q:=f+c) (by omega) (by omega) q
 refine⟨fun k d h1 h2 h3 h4=> ?_,fun k d h1 h2 h3 h4=> ?_⟩
 · rw[hs,hs,if_neg (show ¬f+k=f+c by omega)]
   by_cases e:k=r
   · subst e
     rw[if_pos rfl]
     by_cases e2:d=c
     · subst e2;rw[if_pos rfl];omega
     · rw[if_neg (by omega),if_neg (by omega)]
       exact hmax d h3 h4
   · rw[if_neg (show ¬f+k=f+r by omega)]
     by_cases e2:d=c
     · omega
     · rw[if_neg (by omega)]
       by_cases e3:d=r
       · subst e3
         rw[if_pos rfl]
         exact h.2 k c h1 h3 hc hch
       · rw[if_neg (by omega)]
         exact h.1 k d h1 e h3 h4
 · have e:k=r:=by omega
   subst e
   rw[hs,hs,if_neg (by omega),if_neg (by omega),if_neg (by omega),if_pos rfl]
   exact h.1 c d (by omega) (by omega) h3 h4
end Go.Proofs.YtpdaenfglbgfkaaGreatDoor
end
section
namespace Go.Proofs.YtpdaenfglbgfkaaGreatDoor
open Go.RL
set_option maxRecDepth 10000
set_option maxHeartbeats 8000000
section
variable(M:Md Tryz.prog)(H:View)
theorem siftDown_c(sb:Nat)(l:List Int)(jj:List Value)(n cap lo hi f:Nat)(hn:n=l.length)(hf:f+hi≤n)(h1000:n≤1000)(hlo:lo≤hi)(hH:HeapBut f lo hi lo l)(hS:H sb=some (true,.cells ⟨intsL l++jj⟩ 3 (0,0))):
   CallT M 211 #[.slice (some ⟨sb,0,none⟩) n cap,.int .i64 (lo:Nat),.int .i64 (hi:Nat),.int .i64 (f:Nat)] H (SortQ H sb jj (fun v m=> v=.tuple ⟨[]⟩∧Turned f (f+hi) l m∧Heap f lo hi m)):=by
 refine CallT.enter (vs:= [.slice (some ⟨sb,0,none⟩) n cap,.int .i64 (lo:Nat),.int .i64 (hi:Nat),.int .i64 (f:Nat)]) Tryz.func211 rfl Tryz.ntmps211 (Nat.le_of_ble_eq_true rfl) (SymSt.pull hS) fun St c cs hK=> ?_
 refine .sr ?_
 refine .m ?_
 refine .g ?_
 refine .done (.block ?_)
 refine Tc.db (Tc.loopInv (σ:= { s:Nat×List Int//lo≤s.1∧s.1≤hi∧Turned f (f+hi) l s.2∧HeapBut f lo hi s.1 s.2 }) (fun s=> ([(0,.slice (some ⟨sb,0,none⟩) n cap),(2,.int .i64 (hi:Nat)),(3,.int .i64 (f:Nat)),(8,.int .i64 (s.1.1:Nat))],[(sb,true,.cells ⟨intsL s.1.2++jj⟩ 3 (0,0))])) (fun s=> hi-s.1.1) ?_
   ⟨(lo,l),Nat.le_refl _,hlo,Turned.refl ..,hH⟩)
 rintro⟨⟨r,u⟩,g1,g2,g3,g4⟩ ih
 simp only at g1 g2 g3 g4
 have hul:=g3.len
 have e1:2*((r:Nat):Int)+1=((2*r+1:Nat):Int):=by omega
 have e2:((2*r+1:Nat):Int)+1=((2*r+2:Nat):Int):=by omega
 show Tc M St _ _ _ _ [(0,.slice (some ⟨sb,0,none⟩) n cap),(2,.int .i64 (hi:Nat)),(3,.int .i64 (f:Nat)),(8,.int .i64 (r:Nat))] [(sb,true,.cells ⟨intsL u++jj⟩ 3 (0,0))] _ _
 refine .block (.sr ?_)
 refine .m ?_
 refine .i ?_ (z:=mul_in (by omega) (by omega))
 refine .i ?_ (z:=add_in (by omega) (by omega))
 refine .g ?_
 refine .done ?_
 rw[e1]
 by_cases c0:2*r+1<hi
 · by_cases d1:2*r+2<hi
   · have k1:=cells_ld (m:=u) (j:=jj) (k:=(f:Nat)+((2*r+1:Nat):Int)) (p:=f+(2*r+1)) (by omega) (by omega)
     have k2:=cells_ld (m:=u) (j:=jj) (k:=(f:Nat)+((2*r+1:Nat):Int)+1) (p:=f+(2*r+2)) (by omega) (by omega)
     by_cases d2:at0 u (f+(2*r+1))<at0 u (f+(2*r+2))
     · have hmax:∀d,(d=2*r+1∨d=2*r+2)→d<hi→at0 u (f+d)≤at0 u (f+(2*r+2)):=by rintro d (rfl|rfl) _ <;> omega
       refine .seq (.sr ?_)
       refine .m ?_
       refine .m ?_
       refine .i ?_ (z:=geq_f (by omega))
       refine .done (.ff rfl (.skip (.seq (.seq ?_))))
       refine Tc.dr [] [] mixed rfl ?_
       refine .q 0 rfl .mv ?_
       refine .q 1 rfl (.it (zz:=add_in (by omega) (by omega))) ?_
       refine .q 2 rfl .mv ?_
       refine .q 3 rfl (.it (zz:=lss_t (by omega))) ?_
       refine .q 4 rfl .mv ?_
       refine .q 5 rfl .mv ?_
       refine .q 6 rfl .mv ?_
       refine .q 7 rfl .mv ?_
       refine .q 8 rfl (.it (zz:=add_in (by omega) (by omega))) ?_
       refine .q 9 rfl .ia ?_
       refine .q 10 rfl (.ld 0) ?_
       refine .q 11 rfl .mv ?_
       refine .q 12 rfl .mv ?_
       refine .q 13 rfl .mv ?_
       refine .q 14 rfl (.it (zz:=add_in (by omega) (by omega))) ?_
       refine .q 15 rfl (.it (zz:=add_in (by omega) (by omega))) ?_
       refine .q 16 rfl .ia ?_
       refine .q 17 rfl (.ld 0) ?_
       refine .z 18 rfl (OpV.takeCall rfl rfl rfl rfl (fun H hs=> .f ca182 rfl (CallT.is (.bool true) (by rewrite [decide_eq_true d2];rfl) (Less_c M H (at0 u (f+(2*r+1))) (at0 u (f+(2*r+2))))))) ?_
       refine .q 19 rfl .pk ?_
       refine Ta.done (by kernel_rfl) ?_
       refine .tt rfl (.r ?_)
       refine .m ?_
       refine .i ?_ (z:=add_in (by omega) (by omega))
       refine .g ?_
       refine .done ?_
       rw[e2]
       refine .seq (.seq ?_)
       have hcv:2*r+2<hi:=by omega
       have k3:=cells_ld (m:=u) (j:=jj) (k:=(f:Nat)+(r:Nat)) (p:=f+r) (by omega) (by omega)
       have k4:=cells_ld (m:=u) (j:=jj) (k:=(f:Nat)+((2*r+2:Nat):Int)) (p:=f+(2*r+2)) (by omega) (by omega)
       by_cases d3:at0 u (f+r)<at0 u (f+(2*r+2))
       · have s1:=cells_st (m:=u) (j:=jj) (k:=(f:Nat)+(r:Nat)) (x:=at0 u (f+(2*r+2))) (p:=f+r) (by omega) (by omega)
         have s2:=cells_st (m:=u.set (f+r) (at0 u (f+(2*r+2)))) (j:=jj) (k:=(f:Nat)+((2*r+2:Nat):Int)) (x:=at0 u (f+r)) (p:=f+(2*r+2)) (by omega) (by rw[List.length_set];omega)
         have l1:=cells_le (m:=u) (j:=jj) (k:=(f:Nat)+(r:Nat)) (p:=f+r) (by omega) (by omega)
         have l2:=cells_le (m:=u.set (f+r) (at0 u (f+(2*r+2)))) (j:=jj) (k:=(f:Nat)+((2*r+2:Nat):Int)) (p:=f+(2*r+2)) (by omega) (by rw[List.length_set];omega)
         refine Tc.dr [] [] mixed rfl ?_
         refine .q 0 rfl .mv ?_
         refine .q 1 rfl .mv ?_
         refine .q 2 rfl .mv ?_
         refine .q 3 rfl (.it (zz:=add_in (by omega) (by omega))) ?_
         refine .q 4 rfl .ia ?_
         refine .q 5 rfl (.ld 0) ?_
         refine .q 6 rfl .mv ?_
         refine .q 7 rfl .mv ?_
         refine .q 8 rfl .mv ?_
         refine .q 9 rfl (.it (zz:=add_in (by omega) (by omega))) ?_
         refine .q 10 rfl .ia ?_
         refine .q 11 rfl (.ld 0) ?_
         refine .z 12 rfl (OpV.takeCall rfl rfl rfl rfl (fun H hs=> .f ca182 rfl (CallT.is (.bool true) (by rewrite [decide_eq_true d3];rfl) (Less_c M H (at0 u (f+r)) (at0 u (f+(2*r+2))))))) ?_
         refine .q 13 rfl .nt ?_
         refine Ta.done (by kernel_rfl) ?_
         refine .ff rfl (.skip (.seq ?_))
         refine Tc.dr [21,23] [0] mixed rfl ?_
         refine .q 0 rfl .mv ?_
         refine .q 1 rfl .mv ?_
         refine .q 2 rfl .mv ?_
         refine .q 3 rfl (.it (zz:=add_in (by omega) (by omega))) ?_
         refine Ta.tkw 4 (by kernel_rfl) rfl rfl rfl (by decide) rfl rfl (OpV.take .mv) ?_
         refine Ta.tkw 5 (by kernel_rfl) rfl rfl rfl (by decide) rfl rfl (OpV.take .mv) ?_
         refine Ta.tkw 6 (by kernel_rfl) rfl rfl rfl (by decide) rfl rfl (OpV.take .mv) ?_
         refine Ta.tkw 7 (by kernel_rfl) rfl rfl rfl (by decide) rfl rfl (OpV.take (.it (zz:=add_in (by omega) (by omega)))) ?_
         refine .q 8 rfl .mv ?_
         refine .q 9 rfl .mv ?_
         refine .q 10 rfl .mv ?_
         refine .q 11 rfl (.it (zz:=add_in (by omega) (by omega))) ?_
         refine .q 12 rfl .ia ?_
         refine .q 13 rfl (.ld 0) ?_
         refine Ta.tkw 14 (by kernel_rfl) rfl rfl rfl (by decide) rfl rfl (OpV.take .mv) ?_
         refine Ta.tkw 15 (by kernel_rfl) rfl rfl rfl (by decide) rfl rfl (OpV.take .mv) ?_
         refine Ta.tkw 16 (by kernel_rfl) rfl rfl rfl (by decide) rfl rfl (OpV.take .mv) ?_
         refine Ta.tkw 17 (by kernel_rfl) rfl rfl rfl (by decide) rfl rfl (OpV.take (.it (zz:=add_in (by omega) (by omega)))) ?_
         refine Ta.tkw 18 (by kernel_rfl) rfl rfl rfl (by decide) rfl rfl (OpV.take .ia) ?_
         refine .q 19 rfl (.ld 0) ?_
         refine .q 20 rfl .ia ?_
         refine Ta.each [21] (by kernel_rfl) rfl ⟨TaOp.mk rfl rfl rfl (.st 0 (zz:=⟨S2.mk (by exact List.nil_sublist _) (.inl (by kernel_rfl)),?_⟩)),trivial⟩
         refine Ta.tkw 22 (by kernel_rfl) rfl rfl rfl (by decide) rfl rfl (OpV.take .ia) ?_
         refine Ta.each [23] (by kernel_rfl) rfl ⟨TaOp.mk rfl rfl rfl (.st 0 (zz:=⟨S2.mk (by exact List.nil_sublist _) (.inl (by kernel_rfl)),?_⟩)),trivial⟩
         refine Ta.done (by kernel_rfl) ?_
         refine .r ?_
         refine .m ?_
         refine .g ?_
         refine .done (.inBlock ?_)
         exact Tc.db (ih ⟨(2*r+2,swapL u (f+r) (f+(2*r+2))),by simp only;omega,by simp only;omega,g3.trans (Turned.swap (by omega) (by omega) (by omega) (by omega)),g4.step (by omega) g1 (by omega) hcv d3 hmax⟩ (by simp only;omega))
       · refine Tc.dr [] [] mixed rfl ?_
         refine .q 0 rfl .mv ?_
         refine .q 1 rfl .mv ?_
         refine .q 2 rfl .mv ?_
         refine .q 3 rfl (.it (zz:=add_in (by omega) (by omega))) ?_
         refine .q 4 rfl .ia ?_
         refine .q 5 rfl (.ld 0) ?_
         refine .q 6 rfl .mv ?_
         refine .q 7 rfl .mv ?_
         refine .q 8 rfl .mv ?_
         refine .q 9 rfl (.it (zz:=add_in (by omega) (by omega))) ?_
         refine .q 10 rfl .ia ?_
         refine .q 11 rfl (.ld 0) ?_
         refine .z 12 rfl (OpV.takeCall rfl rfl rfl rfl (fun H hs=> .f ca182 rfl (CallT.is (.bool false) (by rewrite [decide_eq_false d3];rfl) (Less_c M H (at0 u (f+r)) (at0 u (f+(2*r+2))))))) ?_
         refine .q 13 rfl .nt ?_
         refine Ta.done (by kernel_rfl) ?_
         refine .tt rfl ?_
         refine Tc.retN (E:=en) hK Tryz.func211 Tryz.results211 (vs:= []) (by exact trivial) ?_
         exact fun H' hs=> SortQ.of hs (i:=0) rfl ⟨rfl,g3,g4.fin (fun d h1 h2=> by have:=hmax d h1 h2;omega)⟩
     · have hmax:∀d,(d=2*r+1∨d=2*r+2)→d<hi→at0 u (f+d)≤at0 u (f+(2*r+1)):=by rintro d (rfl|rfl) _ <;> omega
       refine .seq (.sr ?_)
       refine .m ?_
       refine .m ?_
       refine .i ?_ (z:=geq_f (by omega))
       refine .done (.ff rfl (.skip (.seq (.seq ?_))))
       refine Tc.dr [] [] mixed rfl ?_
       refine .q 0 rfl .mv ?_
       refine .q 1 rfl (.it (zz:=add_in (by omega) (by omega))) ?_
       refine .q 2 rfl .mv ?_
       refine .q 3 rfl (.it (zz:=lss_t (by omega))) ?_
       refine .q 4 rfl .mv ?_
       refine .q 5 rfl .mv ?_
       refine .q 6 rfl .mv ?_
       refine .q 7 rfl .mv ?_
       refine .q 8 rfl (.it (zz:=add_in (by omega) (by omega))) ?_
       refine .q 9 rfl .ia ?_
       refine .q 10 rfl (.ld 0) ?_
       refine .q 11 rfl .mv ?_
       refine .q 12 rfl .mv ?_
       refine .q 13 rfl .mv ?_
       refine .q 14 rfl (.it (zz:=add_in (by omega) (by omega))) ?_
       refine .q 15 rfl (.it (zz:=add_in (by omega) (by omega))) ?_
       refine .q 16 rfl .ia ?_
       refine .q 17 rfl (.ld 0) ?_
       refine .z 18 rfl (OpV.takeCall rfl rfl rfl rfl (fun H hs=> .f ca182 rfl (CallT.is (.bool false) (by rewrite [decide_eq_false d2];rfl) (Less_c M H (at0 u (f+(2*r+1))) (at0 u (f+(2*r+2))))))) ?_
       refine .q 19 rfl .pk ?_
       refine Ta.done (by kernel_rfl) ?_
       refine .ff rfl (.skip (.seq (.seq ?_)))
       have hcv:2*r+1<hi:=by omega
       have k3:=cells_ld (m:=u) (j:=jj) (k:=(f:Nat)+(r:Nat)) (p:=f+r) (by omega) (by omega)
       have k4:=cells_ld (m:=u) (j:=jj) (k:=(f:Nat)+((2*r+1:Nat):Int)) (p:=f+(2*r+1)) (by omega) (by omega)
       by_cases d3:at0 u (f+r)<at0 u (f+(2*r+1))
       · have s1:=cells_st (m:=u) (j:=jj) (k:=(f:Nat)+(r:Nat)) (x:=at0 u (f+(2*r+1))) (p:=f+r) (by omega) (by omega)
         have s2:=cells_st (m:=u.set (f+r) (at0 u (f+(2*r+1)))) (j:=jj) (k:=(f:Nat)+((2*r+1:Nat):Int)) (x:=at0 u (f+r)) (p:=f+(2*r+1)) (by omega) (by rw[List.length_set];omega)
         have l1:=cells_le (m:=u) (j:=jj) (k:=(f:Nat)+(r:Nat)) (p:=f+r) (by omega) (by omega)
         have l2:=cells_le (m:=u.set (f+r) (at0 u (f+(2*r+1)))) (j:=jj) (k:=(f:Nat)+((2*r+1:Nat):Int)) (p:=f+(2*r+1)) (by omega) (by rw[List.length_set];omega)
         refine Tc.dr [] [] mixed rfl ?_
         refine .q 0 rfl .mv ?_
         refine .q 1 rfl .mv ?_
         refine .q 2 rfl .mv ?_
         refine .q 3 rfl (.it (zz:=add_in (by omega) (by omega))) ?_
         refine .q 4 rfl .ia ?_
         refine .q 5 rfl (.ld 0) ?_
         refine .q 6 rfl .mv ?_
         refine .q 7 rfl .mv ?_
         refine .q 8 rfl .mv ?_
         refine .q 9 rfl (.it (zz:=add_in (by omega) (by omega))) ?_
         refine .q 10 rfl .ia ?_
         refine .q 11 rfl (.ld 0) ?_
         refine .z 12 rfl (OpV.takeCall rfl rfl rfl rfl (fun H hs=> .f ca182 rfl (CallT.is (.bool true) (by rewrite [decide_eq_true d3];rfl) (Less_c M H (at0 u (f+r)) (at0 u (f+(2*r+1))))))) ?_
         refine .q 13 rfl .nt ?_
         refine Ta.done (by kernel_rfl) ?_
         refine .ff rfl (.skip (.seq ?_))
         refine Tc.dr [21,23] [0] mixed rfl ?_
         refine .q 0 rfl .mv ?_
         refine .q 1 rfl .mv ?_
         refine .q 2 rfl .mv ?_
         refine .q 3 rfl (.it (zz:=add_in (by omega) (by omega))) ?_
         refine Ta.tkw 4 (by kernel_rfl) rfl rfl rfl (by decide) rfl rfl (OpV.take .mv) ?_
         refine Ta.tkw 5 (by kernel_rfl) rfl rfl rfl (by decide) rfl rfl (OpV.take .mv) ?_
         refine Ta.tkw 6 (by kernel_rfl) rfl rfl rfl (by decide) rfl rfl (OpV.take .mv) ?_
         refine Ta.tkw 7 (by kernel_rfl) rfl rfl rfl (by decide) rfl rfl (OpV.take (.it (zz:=add_in (by omega) (by omega)))) ?_
         refine .q 8 rfl .mv ?_
         refine .q 9 rfl .mv ?_
         refine .q 10 rfl .mv ?_
         refine .q 11 rfl (.it (zz:=add_in (by omega) (by omega))) ?_
         refine .q 12 rfl .ia ?_
         refine .q 13 rfl (.ld 0) ?_
         refine Ta.tkw 14 (by kernel_rfl) rfl rfl rfl (by decide) rfl rfl (OpV.take .mv) ?_
         refine Ta.tkw 15 (by kernel_rfl) rfl rfl rfl (by decide) rfl rfl (OpV.take .mv) ?_
         refine Ta.tkw 16 (by kernel_rfl) rfl rfl rfl (by decide) rfl rfl (OpV.take .mv) ?_
         refine Ta.tkw 17 (by kernel_rfl) rfl rfl rfl (by decide) rfl rfl (OpV.take (.it (zz:=add_in (by omega) (by omega)))) ?_
         refine Ta.tkw 18 (by kernel_rfl) rfl rfl rfl (by decide) rfl rfl (OpV.take .ia) ?_
         refine .q 19 rfl (.ld 0) ?_
         refine .q 20 rfl .ia ?_
         refine Ta.each [21] (by kernel_rfl) rfl ⟨TaOp.mk rfl rfl rfl (.st 0 (zz:=⟨S2.mk (by exact List.nil_sublist _) (.inl (by kernel_rfl)),?_⟩)),trivial⟩
         refine Ta.tkw 22 (by kernel_rfl) rfl rfl rfl (by decide) rfl rfl (OpV.take .ia) ?_
         refine Ta.each [23] (by kernel_rfl) rfl ⟨TaOp.mk rfl rfl rfl (.st 0 (zz:=⟨S2.mk (by exact List.nil_sublist _) (.inl (by kernel_rfl)),?_⟩)),trivial⟩
         refine Ta.done (by kernel_rfl) ?_
         refine .r ?_
         refine .m ?_
         refine .g ?_
         refine .done (.inBlock ?_)
         exact Tc.db (ih ⟨(2*r+1,swapL u (f+r) (f+(2*r+1))),by simp only;omega,by simp only;omega,g3.trans (Turned.swap (by omega) (by omega) (by omega) (by omega)),g4.step (by omega) g1 (by omega) hcv d3 hmax⟩ (by simp only;omega))
       · refine Tc.dr [] [] mixed rfl ?_
         refine .q 0 rfl .mv ?_
         refine .q 1 rfl .mv ?_
         refine .q 2 rfl .mv ?_
         refine .q 3 rfl (.it (zz:=add_in (by omega) (by omega))) ?_
         refine .q 4 rfl .ia ?_
         refine .q 5 rfl (.ld 0) ?_
         refine .q 6 rfl .mv ?_
         refine .q 7 rfl .mv ?_
         refine .q 8 rfl .mv ?_
         refine .q 9 rfl (.it (zz:=add_in (by omega) (by omega))) ?_
         refine .q 10 rfl .ia ?_
         refine .q 11 rfl (.ld 0) ?_
         refine .z 12 rfl (OpV.takeCall rfl rfl rfl rfl (fun H hs=> .f ca182 rfl (CallT.is (.bool false) (by rewrite [decide_eq_false d3];rfl) (Less_c M H (at0 u (f+r)) (at0 u (f+(2*r+1))))))) ?_
         refine .q 13 rfl .nt ?_
         refine Ta.done (by kernel_rfl) ?_
         refine .tt rfl ?_
         refine Tc.retN (E:=en) hK Tryz.func211 Tryz.results211 (vs:= []) (by exact trivial) ?_
         exact fun H' hs=> SortQ.of hs (i:=0) rfl ⟨rfl,g3,g4.fin (fun d h1 h2=> by have:=hmax d h1 h2;omega)⟩
   · have hmax:∀d,(d=2*r+1∨d=2*r+2)→d<hi→at0 u (f+d)≤at0 u (f+(2*r+1)):=by rintro d (rfl|rfl) _ <;> omega
     refine .seq (.sr ?_)
     refine .m ?_
     refine .m ?_
     refine .i ?_ (z:=geq_f (by omega))
     refine .done (.ff rfl (.skip (.seq (.seq ?_))))
     refine Tc.dr [] [] mixed rfl ?_
     refine .q 0 rfl .mv ?_
     refine .q 1 rfl (.it (zz:=add_in (by omega) (by omega))) ?_
     refine .q 2 rfl .mv ?_
     refine .q 3 rfl (.it (zz:=lss_f (by omega))) ?_
     refine .q 4 rfl .mv ?_
     refine Ta.ps 5 (by kernel_rfl) rfl rfl rfl (by decide) rfl rfl ?_
     refine Ta.ps 6 (by kernel_rfl) rfl rfl rfl (by decide) rfl rfl ?_
     refine Ta.ps 7 (by kernel_rfl) rfl rfl rfl (by decide) rfl rfl ?_
     refine Ta.ps 8 (by kernel_rfl) rfl rfl rfl (by decide) rfl rfl ?_
     refine Ta.ps 9 (by kernel_rfl) rfl rfl rfl (by decide) rfl rfl ?_
     refine Ta.ps 10 (by kernel_rfl) rfl rfl rfl (by decide) rfl rfl ?_
     refine Ta.ps 11 (by kernel_rfl) rfl rfl rfl (by decide) rfl rfl ?_
     refine Ta.ps 12 (by kernel_rfl) rfl rfl rfl (by decide) rfl rfl ?_
     refine Ta.ps 13 (by kernel_rfl) rfl rfl rfl (by decide) rfl rfl ?_
     refine Ta.ps 14 (by kernel_rfl) rfl rfl rfl (by decide) rfl rfl ?_
     refine Ta.ps 15 (by kernel_rfl) rfl rfl rfl (by decide) rfl rfl ?_
     refine Ta.ps 16 (by kernel_rfl) rfl rfl rfl (by decide) rfl rfl ?_
     refine Ta.ps 17 (by kernel_rfl) rfl rfl rfl (by decide) rfl rfl ?_
     refine Ta.ps 18 (by kernel_rfl) rfl rfl rfl (by decide) rfl rfl ?_
     refine .q 19 rfl .pk ?_
     refine Ta.done (by kernel_rfl) ?_
     refine .ff rfl (.skip (.seq (.seq ?_)))
     have hcv:2*r+1<hi:=by omega
     have k3:=cells_ld (m:=u) (j:=jj) (k:=(f:Nat)+(r:Nat)) (p:=f+r) (by omega) (by omega)
     have k4:=cells_ld (m:=u) (j:=jj) (k:=(f:Nat)+((2*r+1:Nat):Int)) (p:=f+(2*r+1)) (by omega) (by omega)
     by_cases d3:at0 u (f+r)<at0 u (f+(2*r+1))
     · have s1:=cells_st (m:=u) (j:=jj) (k:=(f:Nat)+(r:Nat)) (x:=at0 u (f+(2*r+1))) (p:=f+r) (by omega) (by omega)
       have s2:=cells_st (m:=u.set (f+r) (at0 u (f+(2*r+1)))) (j:=jj) (k:=(f:Nat)+((2*r+1:Nat):Int)) (x:=at0 u (f+r)) (p:=f+(2*r+1)) (by omega) (by rw[List.length_set];omega)
       have l1:=cells_le (m:=u) (j:=jj) (k:=(f:Nat)+(r:Nat)) (p:=f+r) (by omega) (by omega)
       have l2:=cells_le (m:=u.set (f+r) (at0 u (f+(2*r+1)))) (j:=jj) (k:=(f:Nat)+((2*r+1:Nat):Int)) (p:=f+(2*r+1)) (by omega) (by rw[List.length_set];omega)
       refine Tc.dr [] [] mixed rfl ?_
       refine .q 0 rfl .mv ?_
       refine .q 1 rfl .mv ?_
       refine .q 2 rfl .mv ?_
       refine .q 3 rfl (.it (zz:=add_in (by omega) (by omega))) ?_
       refine .q 4 rfl .ia ?_
       refine .q 5 rfl (.ld 0) ?_
       refine .q 6 rfl .mv ?_
       refine .q 7 rfl .mv ?_
       refine .q 8 rfl .mv ?_
       refine .q 9 rfl (.it (zz:=add_in (by omega) (by omega))) ?_
       refine .q 10 rfl .ia ?_
       refine .q 11 rfl (.ld 0) ?_
       refine .z 12 rfl (OpV.takeCall rfl rfl rfl rfl (fun H hs=> .f ca182 rfl (CallT.is (.bool true) (by rewrite [decide_eq_true d3];rfl) (Less_c M H (at0 u (f+r)) (at0 u (f+(2*r+1))))))) ?_
       refine .q 13 rfl .nt ?_
       refine Ta.done (by kernel_rfl) ?_
       refine .ff rfl (.skip (.seq ?_))
       refine Tc.dr [21,23] [0] mixed rfl ?_
       refine .q 0 rfl .mv ?_
       refine .q 1 rfl .mv ?_
       refine .q 2 rfl .mv ?_
       refine .q 3 rfl (.it (zz:=add_in (by omega) (by omega))) ?_
       refine Ta.tkw 4 (by kernel_rfl) rfl rfl rfl (by decide) rfl rfl (OpV.take .mv) ?_
       refine Ta.tkw 5 (by kernel_rfl) rfl rfl rfl (by decide) rfl rfl (OpV.take .mv) ?_
       refine Ta.tkw 6 (by kernel_rfl) rfl rfl rfl (by decide) rfl rfl (OpV.take .mv) ?_
       refine Ta.tkw 7 (by kernel_rfl) rfl rfl rfl (by decide) rfl rfl (OpV.take (.it (zz:=add_in (by omega) (by omega)))) ?_
       refine .q 8 rfl .mv ?_
       refine .q 9 rfl .mv ?_
       refine .q 10 rfl .mv ?_
       refine .q 11 rfl (.it (zz:=add_in (by omega) (by omega))) ?_
       refine .q 12 rfl .ia ?_
       refine .q 13 rfl (.ld 0) ?_
       refine Ta.tkw 14 (by kernel_rfl) rfl rfl rfl (by decide) rfl rfl (OpV.take .mv) ?_
       refine Ta.tkw 15 (by kernel_rfl) rfl rfl rfl (by decide) rfl rfl (OpV.take .mv) ?_
       refine Ta.tkw 16 (by kernel_rfl) rfl rfl rfl (by decide) rfl rfl (OpV.take .mv) ?_
       refine Ta.tkw 17 (by kernel_rfl) rfl rfl rfl (by decide) rfl rfl (OpV.take (.it (zz:=add_in (by omega) (by omega)))) ?_
       refine Ta.tkw 18 (by kernel_rfl) rfl rfl rfl (by decide) rfl rfl (OpV.take .ia) ?_
       refine .q 19 rfl (.ld 0) ?_
       refine .q 20 rfl .ia ?_
       refine Ta.each [21] (by kernel_rfl) rfl ⟨TaOp.mk rfl rfl rfl (.st 0 (zz:=⟨S2.mk (by exact List.nil_sublist _) (.inl (by kernel_rfl)),?_⟩)),trivial⟩
       refine Ta.tkw 22 (by kernel_rfl) rfl rfl rfl (by decide) rfl rfl (OpV.take .ia) ?_
       refine Ta.each [23] (by kernel_rfl) rfl ⟨TaOp.mk rfl rfl rfl (.st 0 (zz:=⟨S2.mk (by exact List.nil_sublist _) (.inl (by kernel_rfl)),?_⟩)),trivial⟩
       refine Ta.done (by kernel_rfl) ?_
       refine .r ?_
       refine .m ?_
       refine .g ?_
       refine .done (.inBlock ?_)
       exact Tc.db (ih ⟨(2*r+1,swapL u (f+r) (f+(2*r+1))),by simp only;omega,by simp only;omega,g3.trans (Turned.swap (by omega) (by omega) (by omega) (by omega)),g4.step (by omega) g1 (by omega) hcv d3 hmax⟩ (by simp only;omega))
     · refine Tc.dr [] [] mixed rfl ?_
       refine .q 0 rfl .mv ?_
       refine .q 1 rfl .mv ?_
       refine .q 2 rfl .mv ?_
       refine .q 3 rfl (.it (zz:=add_in (by omega) (by omega))) ?_
       refine .q 4 rfl .ia ?_
       refine .q 5 rfl (.ld 0) ?_
       refine .q 6 rfl .mv ?_
       refine .q 7 rfl .mv ?_
       refine .q 8 rfl .mv ?_
       refine .q 9 rfl (.it (zz:=add_in (by omega) (by omega))) ?_
       refine .q 10 rfl .ia ?_
       refine .q 11 rfl (.ld 0) ?_
       refine .z 12 rfl (OpV.takeCall rfl rfl rfl rfl (fun H hs=> .f ca182 rfl (CallT.is (.bool false) (by rewrite [decide_eq_false d3];rfl) (Less_c M H (at0 u (f+r)) (at0 u (f+(2*r+1))))))) ?_
       refine .q 13 rfl .nt ?_
       refine Ta.done (by kernel_rfl) ?_
       refine .tt rfl ?_
       refine Tc.retN (E:=en) hK Tryz.func211 Tryz.results211 (vs:= []) (by exact trivial) ?_
       exact fun H' hs=> SortQ.of hs (i:=0) rfl ⟨rfl,g3,g4.fin (fun d h1 h2=> by have:=hmax d h1 h2;omega)⟩
 · refine .seq (.sr ?_)
   refine .m ?_
   refine .m ?_
   refine .i ?_ (z:=geq_t (by omega))
   refine .done (.tt rfl (.exit rfl ?_))
   refine Tc.overN (E:=en) hK Tryz.func211 Tryz.results211 (vs:= []) (by exact trivial) ?_
   exact fun H' hs=> SortQ.of hs (i:=0) rfl ⟨rfl,g3,g4.fin (fun d h1 h2=> by omega)⟩
end
end Go.Proofs.YtpdaenfglbgfkaaGreatDoor
end
section
namespace Go.Proofs.YtpdaenfglbgfkaaGreatDoor
open Go.RL
set_option maxRecDepth 10000
set_option maxHeartbeats 8000000
theorem heap_less {f hi s:Nat}{u:List Int}(hs:1≤s)(h:Heap f s hi u):HeapBut f (s-1) hi (s-1) u:=
 ⟨fun k c h1 h2 h3 h4=> h k c (by omega) h3 h4,fun k c h1 h2 h3 h4=> by omega⟩
structure HeapTo(f hi s:Nat)(u:List Int):Prop where
 heap:Heap f 0 s u
 srt:Srt (f+s) (f+hi) u
 low:∀p q,p<s→s≤q→q<hi→at0 u (f+p)≤at0 u (f+q)
theorem heap_but {f hi s:Nat}{u:List Int}(hs:1≤s)(hsh:s≤hi)(hl:f+hi≤u.length)(h:HeapTo f hi s u):HeapBut f 0 (s-1) 0 (swapL u f (f+(s-1))):=by
 have hw:=fun q=> swapL_at (l:=u) (p:=f) (q:=f+(s-1)) (by omega) (by omega) q
 refine⟨fun k c h1 h2 h3 h4=> ?_,fun k c h1 h2 h3 h4=> by omega⟩
 rw[hw,hw,if_neg (by omega),if_neg (by omega),if_neg (by omega),if_neg (by omega)]
 exact h.heap k c h1 h3 (by omega)
theorem heap_next {f hi s:Nat}{u m:List Int}(hs:1≤s)(hsh:s≤hi)(hl:f+hi≤u.length)(h:HeapTo f hi s u)(ht:Turned f (f+(s-1)) (swapL u f (f+(s-1))) m)(hm:Heap f 0 (s-1) m):HeapTo f hi (s-1) m:=by
 have hw:=fun q=> swapL_at (l:=u) (p:=f) (q:=f+(s-1)) (by omega) (by omega) q
 have htop:=h.heap.top
 have hlast:at0 m (f+(s-1))=at0 u f:=by
   rw[ht.out _ (.inr (Nat.le_refl _)),hw,if_pos rfl]
 have hback:∀q,s≤q→at0 m (f+q)=at0 u (f+q):=fun q hq=> by
   rw[ht.out _ (.inr (by omega)),hw,if_neg (by omega),if_neg (by omega)]
 have hall:∀X:Int,(∀p,p<s→at0 u (f+p)≤X)→∀p,p<s-1→at0 m (f+p)≤X:=fun X hX p hp=>
   ht.all (by rw[swapL_len];omega) (P:=fun x=> x≤X) (fun p h1 h2=> by
     rw[hw,if_neg (by omega)]
     by_cases e:p=f
     · rw[if_pos e]
       exact hX (s-1) (by omega)
     · rw[if_neg e]
       have:=hX (p-f) (by omega)
       rwa [show f+(p-f)=p by omega] at this) (f+p) (by omega) (by omega)
 refine⟨hm,fun p q h1 h2 h3=> ?_,fun p q h1 h2 h3=> ?_⟩
 · by_cases e:p=f+(s-1)
   · rw[e,hlast]
     have h4:=hback (q-f) (by omega)
     rw[show f+(q-f)=q by omega] at h4
     rw[h4]
     have:=h.low 0 (q-f) (by omega) (by omega) (by omega)
     rwa [show f+(q-f)=q by omega,Nat.add_zero] at this
   · have h4:=hback (q-f) (by omega)
     have h5:=hback (p-f) (by omega)
     rw[show f+(q-f)=q by omega] at h4
     rw[show f+(p-f)=p by omega] at h5
     rw[h4,h5]
     exact h.srt p q (by omega) h2 h3
 · by_cases e:q=s-1
   · subst e
     rw[hlast]
     exact hall _ (fun p hp=> htop p hp) p h1
   · rw[hback q (by omega)]
     exact hall _ (fun p hp=> h.low p q hp (by omega) h3) p h1
section
variable(M:Md Tryz.prog)(H:View)
theorem heapSort_c(sb:Nat)(l:List Int)(jj:List Value)(n cap a b:Nat)(hn:n=l.length)(hb:b≤n)(h1000:n≤1000)(hab:a<b)(hS:H sb=some (true,.cells ⟨intsL l++jj⟩ 3 (0,0))):
   CallT M 177 #[.slice (some ⟨sb,0,none⟩) n cap,.int .i64 (a:Nat),.int .i64 (b:Nat)] H (SortQ H sb jj (fun v m=> v=.tuple ⟨[]⟩∧Turned a b l m∧Srt a b m)):=by
 obtain⟨hi,hhi⟩:∃hi,hi=b-a:=⟨_,rfl⟩
 have e0:((b:Nat):Int)-((a:Nat):Int)=((hi:Nat):Int):=by omega
 have eb:b=a+hi:=by omega
 obtain⟨s0,hs0⟩:∃s0,s0=(hi-1)/2+1:=⟨_,rfl⟩
 have hq:intBin .quo .i64 (((hi:Nat):Int)-1) 2=some (.int .i64 (((s0:Nat):Int)-1)):=by
   rw[quo_in (by omega) (by omega) (by omega)]
   congr 2
   omega
 refine CallT.enter (vs:= [.slice (some ⟨sb,0,none⟩) n cap,.int .i64 (a:Nat),.int .i64 (b:Nat)]) Tryz.func177 rfl Tryz.ntmps177 (Nat.le_of_ble_eq_true rfl) (SymSt.pull hS) fun St c cs hK=> ?_
 refine .sr ?_
 refine .m ?_
 refine .g ?_
 refine .done (.sr ?_)
 refine .g ?_
 refine .done (.sr ?_)
 refine .m ?_
 refine .m ?_
 refine .i ?_ (z:=sub_in (by omega) (by omega))
 refine .g ?_
 refine .done ?_
 rw[e0]
 refine .seq (.sr ?_)
 refine .m ?_
 refine .i ?_ (z:=sub_in (by omega) (by omega))
 refine .i ?_ (z:=by assumption)
 refine .g ?_
 refine .done (.block ?_)
 refine Tc.db (Tc.loopInv (σ:= { s:Nat×List Int//s.1≤hi∧Turned a b l s.2∧Heap a s.1 hi s.2 }) (fun s=> ([(0,.slice (some ⟨sb,0,none⟩) n cap),(6,.int .i64 (a:Nat)),(7,.int .i64 0),(8,.int .i64 (hi:Nat)),(9,.int .i64 ((s.1.1:Nat)-1))],[(sb,true,.cells ⟨intsL s.1.2++jj⟩ 3 (0,0))])) (fun s=> s.1.1) ?_
   ⟨(s0,l),by simp only;omega,Turned.refl ..,fun k c h1 h2 h3=> by simp only at h1;omega⟩)
 rintro⟨⟨s,u⟩,g1,g2,g3⟩ ih
 simp only at g1 g2 g3
 show Tc M St _ _ _ _ [(0,.slice (some ⟨sb,0,none⟩) n cap),(6,.int .i64 (a:Nat)),(7,.int .i64 0),(8,.int .i64 (hi:Nat)),(9,.int .i64 ((s:Nat)-1))] [(sb,true,.cells ⟨intsL u++jj⟩ 3 (0,0))] _ _
 have hul:=g2.len
 by_cases c1:1≤s
 · have e1:((s:Nat):Int)-1=((s-1:Nat):Int):=by omega
   rw[e1]
   refine .seq (.sr ?_)
   refine .m ?_
   refine .i ?_ (z:=geq_t (by omega))
   refine .done (.tt rfl (.skip (.seq (.block (.r ?_)))))
   refine .m ?_
   refine .m ?_
   refine .m ?_
   refine .m ?_
   refine .e (Or.sorts (l:=u) 0 (fun v m=> v=.tuple ⟨[]⟩∧Turned a (a+hi) u m∧Heap a (s-1) hi m) rfl rfl rfl rfl rfl (by decide) rfl (fun H hs=> .f ca211 rfl (siftDown_c M H sb u jj n cap (s-1) hi a (by omega) (by omega) h1000 (by omega) (heap_less c1 g3) (hs.get (i:=0) rfl))) (fun v m ⟨hv,ht,hh⟩=> ?_))
   refine .done (.inBlock (.r ?_))
   refine .m ?_
   refine .i ?_ (z:=sub_in (by omega) (by omega))
   refine .g ?_
   refine .done ?_
   exact Tc.db (ih ⟨(s-1,m),by simp only;omega,g2.trans (ht.wide (Nat.le_refl _) (by omega)),hh⟩ (by simp only;omega))
 · have es:s=0:=by omega
   subst es
   refine .seq (.sr ?_)
   refine .m ?_
   refine .i ?_ (z:=geq_f (by omega))
   refine .done (.ff rfl (.exit rfl (.sr ?_)))
   refine .m ?_
   refine .i ?_ (z:=sub_in (by omega) (by omega))
   refine .g ?_
   refine .done (.block ?_)
   refine Tc.db (Tc.loopInv (σ:= { s:Nat×List Int//s.1≤hi∧Turned a b l s.2∧HeapTo a hi s.1 s.2 }) (fun s=> ([(0,.slice (some ⟨sb,0,none⟩) n cap),(6,.int .i64 (a:Nat)),(7,.int .i64 0),(10,.int .i64 ((s.1.1:Nat)-1))],[(sb,true,.cells ⟨intsL s.1.2++jj⟩ 3 (0,0))])) (fun s=> s.1.1) ?_
     ⟨(hi,u),Nat.le_refl _,g2,⟨g3,fun p q h1 h2 h3=> by omega,fun p q h1 h2 h3=> by omega⟩⟩)
   rintro⟨⟨s,w⟩,f1,f2,f3⟩ ih2
   simp only at f1 f2 f3
   show Tc M St _ _ _ _ [(0,.slice (some ⟨sb,0,none⟩) n cap),(6,.int .i64 (a:Nat)),(7,.int .i64 0),(10,.int .i64 ((s:Nat)-1))] [(sb,true,.cells ⟨intsL w++jj⟩ 3 (0,0))] _ _
   have hwl:=f2.len
   by_cases c2:1≤s
   · have e1:((s:Nat):Int)-1=((s-1:Nat):Int):=by omega
     rw[e1]
     have k1:=cells_ld (m:=w) (j:=jj) (k:=(a:Nat)) (p:=a) rfl (by omega)
     have k2:=cells_ld (m:=w) (j:=jj) (k:=(a:Nat)+((s-1:Nat):Int)) (p:=a+(s-1)) (by omega) (by omega)
     have s1:=cells_st (m:=w) (j:=jj) (k:=(a:Nat)) (x:=at0 w (a+(s-1))) (p:=a) rfl (by omega)
     have s2:=cells_st (m:=w.set a (at0 w (a+(s-1)))) (j:=jj) (k:=(a:Nat)+((s-1:Nat):Int)) (x:=at0 w a) (p:=a+(s-1)) (by omega) (by rw[List.length_set];omega)
     have l1:=cells_le (m:=w) (j:=jj) (k:=(a:Nat)) (p:=a) rfl (by omega)
     have l2:=cells_le (m:=w.set a (at0 w (a+(s-1)))) (j:=jj) (k:=(a:Nat)+((s-1:Nat):Int)) (p:=a+(s-1)) (by omega) (by rw[List.length_set];omega)
     have hsw:=Turned.swap (a:=a) (b:=b) (l:=w) (p:=a) (q:=a+(s-1)) (by omega) (by omega) (by omega) (by omega)
     refine .seq (.sr ?_)
     refine .m ?_
     refine .i ?_ (z:=geq_t (by omega))
     refine .done (.tt rfl (.skip (.seq (.block (.seq ?_)))))
     refine Tc.dr [17,19] [0] mixed rfl ?_
     refine .q 0 rfl .mv ?_
     refine .q 1 rfl .mv ?_
     refine Ta.tkw 2 (by kernel_rfl) rfl rfl rfl (by decide) rfl rfl (OpV.take .mv) ?_
     refine Ta.tkw 3 (by kernel_rfl) rfl rfl rfl (by decide) rfl rfl (OpV.take .mv) ?_
     refine Ta.tkw 4 (by kernel_rfl) rfl rfl rfl (by decide) rfl rfl (OpV.take .mv) ?_
     refine Ta.tkw 5 (by kernel_rfl) rfl rfl rfl (by decide) rfl rfl (OpV.take (.it (zz:=add_in (by omega) (by omega)))) ?_
     refine .q 6 rfl .mv ?_
     refine .q 7 rfl .mv ?_
     refine .q 8 rfl .mv ?_
     refine .q 9 rfl (.it (zz:=add_in (by omega) (by omega))) ?_
     refine .q 10 rfl .ia ?_
     refine .q 11 rfl (.ld 0) ?_
     refine Ta.tkw 12 (by kernel_rfl) rfl rfl rfl (by decide) rfl rfl (OpV.take .mv) ?_
     refine Ta.tkw 13 (by kernel_rfl) rfl rfl rfl (by decide) rfl rfl (OpV.take .mv) ?_
     refine Ta.tkw 14 (by kernel_rfl) rfl rfl rfl (by decide) rfl rfl (OpV.take .ia) ?_
     refine .q 15 rfl (.ld 0) ?_
     refine .q 16 rfl .ia ?_
     refine Ta.each [17] (by kernel_rfl) rfl ⟨TaOp.mk rfl rfl rfl (.st 0 (zz:=⟨S2.mk (by exact List.nil_sublist _) (.inl (by kernel_rfl)),?_⟩)),trivial⟩
     refine Ta.tkw 18 (by kernel_rfl) rfl rfl rfl (by decide) rfl rfl (OpV.take .ia) ?_
     refine Ta.each [19] (by kernel_rfl) rfl ⟨TaOp.mk rfl rfl rfl (.st 0 (zz:=⟨S2.mk (by exact List.nil_sublist _) (.inl (by kernel_rfl)),?_⟩)),trivial⟩
     refine Ta.done (by kernel_rfl) ?_
     refine .r ?_
     refine .m ?_
     refine .m ?_
     refine .m ?_
     refine .m ?_
     refine .e (Or.sorts (l:=swapL w a (a+(s-1))) 0 (fun v m=> v=.tuple ⟨[]⟩∧Turned a (a+(s-1)) (swapL w a (a+(s-1))) m∧Heap a 0 (s-1) m) rfl rfl rfl rfl rfl (by decide) rfl (fun H hs=> .f ca211 rfl (siftDown_c M H sb (swapL w a (a+(s-1))) jj n cap 0 (s-1) a (by rw[swapL_len];omega) (by omega) h1000 (by omega) (heap_but c2 f1 (by omega) f3) (hs.get (i:=0) rfl))) (fun v m ⟨hv,ht,hh⟩=> ?_))
     refine .done (.inBlock (.r ?_))
     refine .m ?_
     refine .i ?_ (z:=sub_in (by omega) (by omega))
     refine .g ?_
     refine .done ?_
     exact Tc.db (ih2 ⟨(s-1,m),by simp only;omega,f2.trans (hsw.trans (ht.wide (Nat.le_refl _) (by omega))),heap_next c2 f1 (by omega) f3 ht hh⟩ (by simp only;omega))
   · have es:s=0:=by omega
     subst es
     refine .seq (.sr ?_)
     refine .m ?_
     refine .i ?_ (z:=geq_f (by omega))
     refine .done (.ff rfl (.exit rfl ?_))
     refine Tc.overN (E:=en) hK Tryz.func177 Tryz.results177 (vs:= []) (by exact trivial) ?_
     exact fun H' hs=> SortQ.of hs (i:=0) rfl ⟨rfl,f2,eb▸f3.srt⟩
end
end Go.Proofs.YtpdaenfglbgfkaaGreatDoor
end
section
namespace Go.Proofs.YtpdaenfglbgfkaaGreatDoor
open Go.RL
set_option maxRecDepth 10000
set_option maxHeartbeats 8000000
section
variable(M:Md Tryz.prog)(H:View)
theorem reverse_c(sb:Nat)(l:List Int)(jj:List Value)(n cap a b:Nat)(hn:n=l.length)(hb:b≤n)(h1000:n≤1000)(ha:a<b)(hS:H sb=some (true,.cells ⟨intsL l++jj⟩ 3 (0,0))):
   CallT M 180 #[.slice (some ⟨sb,0,none⟩) n cap,.int .i64 (a:Nat),.int .i64 (b:Nat)] H (SortQ H sb jj (fun v m=> v=.tuple ⟨[]⟩∧Turned a b l m)):=by
 refine CallT.enter (vs:= [.slice (some ⟨sb,0,none⟩) n cap,.int .i64 (a:Nat),.int .i64 (b:Nat)]) Tryz.func180 rfl Tryz.ntmps180 (Nat.le_of_ble_eq_true rfl) (SymSt.pull hS) fun St c cs hK=> ?_
 have hb1:((b:Nat):Int)-1=((b-1:Nat):Int):=by omega
 refine .sr ?_
 refine .m ?_
 refine .g ?_
 refine .done (.sr ?_)
 refine .m ?_
 refine .i ?_ (z:=sub_in (by omega) (by omega))
 refine .g ?_
 refine .done ?_
 rw[hb1]
 refine .block ?_
 refine Tc.db (Tc.loopInv (σ:= { s:Nat×Nat×List Int//a≤s.1∧s.1≤b∧a≤s.2.1∧s.2.1<b∧Turned a b l s.2.2 }) (fun s=> ([(0,.slice (some ⟨sb,0,none⟩) n cap),(6,.int .i64 (s.1.1:Nat)),(7,.int .i64 (s.1.2.1:Nat))],[(sb,true,.cells ⟨intsL s.1.2.2++jj⟩ 3 (0,0))])) (fun s=> s.1.2.1) ?_
   ⟨(a,b-1,l),by simp,by simp only;omega,by simp only;omega,by simp only;omega,Turned.refl ..⟩)
 rintro⟨⟨i,j,u⟩,g1,g2,g3,g4,g5⟩ ih
 simp only at g1 g2 g3 g4 g5
 show Tc M St _ _ _ _ [(0,.slice (some ⟨sb,0,none⟩) n cap),(6,.int .i64 (i:Nat)),(7,.int .i64 (j:Nat))] [(sb,true,.cells ⟨intsL u++jj⟩ 3 (0,0))] _ _
 have hul:=g5.len
 by_cases c1:i<j
 · have e1:((j:Nat):Int)-1=((j-1:Nat):Int):=by omega
   have k1:=cells_ld (m:=u) (j:=jj) (k:=(i:Nat)) (p:=i) rfl (by omega)
   have k2:=cells_ld (m:=u) (j:=jj) (k:=(j:Nat)) (p:=j) rfl (by omega)
   have s1:=cells_st (m:=u) (j:=jj) (k:=(i:Nat)) (x:=at0 u j) (p:=i) rfl (by omega)
   have s2:=cells_st (m:=u.set i (at0 u j)) (j:=jj) (k:=(j:Nat)) (x:=at0 u i) (p:=j) rfl (by rw[List.length_set];omega)
   have l1:=cells_le (m:=u) (j:=jj) (k:=(i:Nat)) (p:=i) rfl (by omega)
   have l2:=cells_le (m:=u.set i (at0 u j)) (j:=jj) (k:=(j:Nat)) (p:=j) rfl (by rw[List.length_set];omega)
   refine .seq (.sr ?_)
   refine .m ?_
   refine .m ?_
   refine .i ?_ (z:=lss_t (by omega))
   refine .done (.tt rfl (.skip (.block (.seq ?_))))
   refine Tc.dr [13,15] [0] mixed rfl ?_
   refine .q 0 rfl .mv ?_
   refine .q 1 rfl .mv ?_
   refine Ta.tkw 2 (by kernel_rfl) rfl rfl rfl (by decide) rfl rfl (OpV.take .mv) ?_
   refine Ta.tkw 3 (by kernel_rfl) rfl rfl rfl (by decide) rfl rfl (OpV.take .mv) ?_
   refine .q 4 rfl .mv ?_
   refine .q 5 rfl .mv ?_
   refine .q 6 rfl .ia ?_
   refine .q 7 rfl (.ld 0) ?_
   refine Ta.tkw 8 (by kernel_rfl) rfl rfl rfl (by decide) rfl rfl (OpV.take .mv) ?_
   refine Ta.tkw 9 (by kernel_rfl) rfl rfl rfl (by decide) rfl rfl (OpV.take .mv) ?_
   refine Ta.tkw 10 (by kernel_rfl) rfl rfl rfl (by decide) rfl rfl (OpV.take .ia) ?_
   refine .q 11 rfl (.ld 0) ?_
   refine .q 12 rfl .ia ?_
   refine Ta.each [13] (by kernel_rfl) rfl ⟨TaOp.mk rfl rfl rfl (.st 0 (zz:=⟨S2.mk (by exact List.nil_sublist _) (.inl (by kernel_rfl)),?_⟩)),trivial⟩
   refine Ta.tkw 14 (by kernel_rfl) rfl rfl rfl (by decide) rfl rfl (OpV.take .ia) ?_
   refine Ta.each [15] (by kernel_rfl) rfl ⟨TaOp.mk rfl rfl rfl (.st 0 (zz:=⟨S2.mk (by exact List.nil_sublist _) (.inl (by kernel_rfl)),?_⟩)),trivial⟩
   refine Ta.done (by kernel_rfl) ?_
   refine .sr ?_
   refine .m ?_
   refine .i ?_ (z:=add_in (by omega) (by omega))
   refine .g ?_
   refine .done (.r ?_)
   refine .m ?_
   refine .i ?_ (z:=sub_in (by omega) (by omega))
   refine .g ?_
   refine .done ?_
   rw[e1]
   refine .inBlock ?_
   exact Tc.db (ih ⟨(i+1,j-1,swapL u i j),by simp only;omega,by simp only;omega,by simp only;omega,by simp only;omega,g5.trans (Turned.swap (by omega) (by omega) (by omega) (by omega))⟩ (by simp only;omega))
 · refine .seq (.sr ?_)
   refine .m ?_
   refine .m ?_
   refine .i ?_ (z:=lss_f (by omega))
   refine .done (.ff rfl (.exit rfl ?_))
   refine Tc.overN (E:=en) hK Tryz.func180 Tryz.results180 (vs:= []) (by exact trivial) ?_
   exact fun H' hs=> SortQ.of hs (i:=0) rfl ⟨rfl,g5⟩
end
end Go.Proofs.YtpdaenfglbgfkaaGreatDoor
end
section
namespace Go.Proofs.YtpdaenfglbgfkaaGreatDoor
open Go.RL
set_option maxRecDepth 10000
set_option maxHeartbeats 8000000
theorem Or.sortsF {M:Md Tryz.prog}{n:Nat}{H₀:View}{R:Rg}{L:Bl}{o:Oper}{K:Rg→Bl→Prop}{cl:Go.Call}{x:Operand}{fv:Value}{az:List Value}{d:Nat}{σ:Type}(i:Nat){sb:Nat}{l:List Int}{j:List Value}(val:σ→Value)(mm:σ→List Int)(p:σ→Prop)
   (hop:o.op=.call cl) (hcl:cl.callee=.value x) (hx:evR R x=some fv) (has:evRs R cl.args.toList=some az) (hd:o.dst=some d) (hn:d<n) (hi:L[i]? =some (sb,true,.cells ⟨intsL l++j⟩ 3 (0,0)))
   (hc:∀H,SymSt H₀ L H→FnT M fv az H (SortQ H sb j fun v m=> ∃s,v=val s∧m=mm s∧p s)) (hk:∀s,p s→K ((d,val s)::R) (L.set i (sb,true,.cells ⟨intsL (mm s)++j⟩ 3 (0,0)))):Or M n H₀ R L o K:=
 Or.sorts i (fun v m=> ∃s,v=val s∧m=mm s∧p s) hop hcl hx has hd hn hi hc fun v m h=> by
   obtain⟨s,rfl,rfl,h3⟩:=h
   exact hk s h3
def twoV(s:Nat×Nat×Int):Value:=.tuple ⟨[.int .i64 (s.1:Nat),.int .i64 (s.2.1:Nat)]⟩
def twoP(p q:Nat)(z:Int)(s:Nat×Nat×Int):Prop:=(s.1=p∧s.2.1=q∨s.1=q∧s.2.1=p)∧z≤s.2.2∧s.2.2≤z+1
section
variable(M:Md Tryz.prog)(H:View)
theorem order2_c(sb cb:Nat)(f:Bool)(l:List Int)(jj:List Value)(n cap p q:Nat)(z:Int)(hn:n=l.length)(hp:p<n)(hq:q<n)(hz:0≤z∧z≤1000)(hne:sb≠cb)(hS:H sb=some (f,.cells ⟨intsL l++jj⟩ 3 (0,0)))(hC:H cb=some (true,.cells ⟨[.int .i64 z]⟩ 3 (0,0))):
   CallT M 225 #[.slice (some ⟨sb,0,none⟩) n cap,.int .i64 (p:Nat),.int .i64 (q:Nat),.pointer (some ⟨cb,0,none⟩)] H (SortQ H cb [] (fun v m=> ∃s,v=twoV s∧m= [s.2.2]∧twoP p q z s)):=by
 have hS':(H.without cb) sb=some (f,.cells ⟨intsL l++jj⟩ 3 (0,0)):=by rw[without_other hne];exact hS
 have k1:=cells_ld (m:=l) (j:=jj) (k:=(p:Nat)) (p:=p) rfl (by omega)
 have k2:=cells_ld (m:=l) (j:=jj) (k:=(q:Nat)) (p:=q) rfl (by omega)
 refine CallT.enter (vs:= [.slice (some ⟨sb,0,none⟩) n cap,.int .i64 (p:Nat),.int .i64 (q:Nat),.pointer (some ⟨cb,0,none⟩)]) Tryz.func225 rfl Tryz.ntmps225 (Nat.le_of_ble_eq_true rfl) (SymSt.pull hC) fun St c cs hK=> ?_
 by_cases c1:at0 l q<at0 l p
 · refine .sr ?_
   refine .g ?_
   refine .g ?_
   refine .done (.seq (.seq ?_))
   refine Tc.dr [] [] mixed rfl ?_
   refine .q 0 rfl .mv ?_
   refine .q 1 rfl .mv ?_
   refine .q 2 rfl .ia ?_
   refine .q 3 rfl .l0 ?_
   refine .q 4 rfl .mv ?_
   refine .q 5 rfl .mv ?_
   refine .q 6 rfl .ia ?_
   refine .q 7 rfl .l0 ?_
   refine .z 8 rfl (OpV.takeCall rfl rfl rfl rfl (fun H hs=> .f ca182 rfl (CallT.is (.bool true) (by rewrite [decide_eq_true c1];rfl) (Less_c M H (at0 l q) (at0 l p))))) ?_
   refine Ta.done (by kernel_rfl) ?_
   refine .tt rfl (.sr ?_)
   refine .m ?_
   refine .x .nk ?_
   refine .x (.ld 0) ?_
   refine .i ?_ (z:=add_in (by omega) (by omega))
   refine .x .nk ?_
   refine .e (.st 0 (zz:=?_))
   refine .done (.sr ?_)
   refine .m ?_
   refine .m ?_
   refine .g ?_
   refine .g ?_
   refine .done ?_
   refine .rt hK Tryz.func225 Tryz.results225 [_,_] ?_
   exact fun H' hs=> SortQ.of (m:= [z+1]) hs (i:=0) rfl ⟨(q,p,z+1),rfl,rfl,.inr ⟨rfl,rfl⟩,by simp only;omega,by simp only;omega⟩
 · refine .sr ?_
   refine .g ?_
   refine .g ?_
   refine .done (.seq (.seq ?_))
   refine Tc.dr [] [] mixed rfl ?_
   refine .q 0 rfl .mv ?_
   refine .q 1 rfl .mv ?_
   refine .q 2 rfl .ia ?_
   refine .q 3 rfl .l0 ?_
   refine .q 4 rfl .mv ?_
   refine .q 5 rfl .mv ?_
   refine .q 6 rfl .ia ?_
   refine .q 7 rfl .l0 ?_
   refine .z 8 rfl (OpV.takeCall rfl rfl rfl rfl (fun H hs=> .f ca182 rfl (CallT.is (.bool false) (by rewrite [decide_eq_false c1];rfl) (Less_c M H (at0 l q) (at0 l p))))) ?_
   refine Ta.done (by kernel_rfl) ?_
   refine .ff rfl (.skip (.sr ?_))
   refine .m ?_
   refine .m ?_
   refine .g ?_
   refine .g ?_
   refine .done ?_
   refine .rt hK Tryz.func225 Tryz.results225 [_,_] ?_
   exact fun H' hs=> SortQ.of (m:= [z]) hs (i:=0) rfl ⟨(p,q,z),rfl,rfl,.inl ⟨rfl,rfl⟩,by simp only;omega,by simp only;omega⟩
theorem median_c(sb cb:Nat)(f:Bool)(l:List Int)(jj:List Value)(n cap p q r:Nat)(z:Int)(hn:n=l.length)(hp:p<n)(hq:q<n)(hr:r<n)(hz:0≤z∧z≤100)(hne:sb≠cb)(hS:H sb=some (f,.cells ⟨intsL l++jj⟩ 3 (0,0)))(hC:H cb=some (true,.cells ⟨[.int .i64 z]⟩ 3 (0,0))):
   CallT M 215 #[.slice (some ⟨sb,0,none⟩) n cap,.int .i64 (p:Nat),.int .i64 (q:Nat),.int .i64 (r:Nat),.pointer (some ⟨cb,0,none⟩)] H (SortQ H cb [] (fun v m=> ∃s:Nat×Int,v=.int .i64 (s.1:Nat)∧m= [s.2]∧((s.1=p∨s.1=q∨s.1=r)∧z≤s.2∧s.2≤z+3))):=by
 have hS':(H.without cb) sb=some (f,.cells ⟨intsL l++jj⟩ 3 (0,0)):=by rw[without_other hne];exact hS
 refine CallT.enter (vs:= [.slice (some ⟨sb,0,none⟩) n cap,.int .i64 (p:Nat),.int .i64 (q:Nat),.int .i64 (r:Nat),.pointer (some ⟨cb,0,none⟩)]) Tryz.func215 rfl Tryz.ntmps215 (Nat.le_of_ble_eq_true rfl) (SymSt.pull hC) fun St c cs hK=> ?_
 refine .sr ?_
 refine .g ?_
 refine .done (.sr ?_)
 refine .m ?_
 refine .m ?_
 refine .m ?_
 refine .m ?_
 refine .e (Or.sortsF (l:= [z]) (j:= []) 0 twoV (fun s=> [s.2.2]) (twoP p q z) rfl rfl rfl rfl rfl (by decide) rfl (fun H hs=> .f ca225 rfl (order2_c M H sb cb f l jj n cap p q z hn hp hq (by omega) hne (hs.base _ _ hS') (hs.get (i:=0) rfl))) (fun⟨x1,y1,z1⟩ ⟨o1,o2,o3⟩=> ?_))
 refine .m ?_
 refine .x .et ?_
 refine .x .et ?_
 refine .g ?_
 refine .g ?_
 refine .done ?_
 simp only at o1 o2 o3
 refine .sr ?_
 refine .m ?_
 refine .m ?_
 refine .m ?_
 refine .m ?_
 refine .e (Or.sortsF (l:= [z1]) (j:= []) 0 twoV (fun s=> [s.2.2]) (twoP y1 r z1) rfl rfl rfl rfl rfl (by decide) rfl (fun H hs=> .f ca225 rfl (order2_c M H sb cb f l jj n cap y1 r z1 hn (by omega) hr (by omega) hne (hs.base _ _ hS') (hs.get (i:=0) rfl))) (fun⟨x2,y2,z2⟩ ⟨p1,p2,p3⟩=> ?_))
 refine .m ?_
 refine .x .et ?_
 refine .x .et ?_
 refine .g ?_
 refine .g ?_
 refine .done ?_
 simp only at p1 p2 p3
 refine .sr ?_
 refine .m ?_
 refine .m ?_
 refine .m ?_
 refine .m ?_
 refine .e (Or.sortsF (l:= [z2]) (j:= []) 0 twoV (fun s=> [s.2.2]) (twoP x1 x2 z2) rfl rfl rfl rfl rfl (by decide) rfl (fun H hs=> .f ca225 rfl (order2_c M H sb cb f l jj n cap x1 x2 z2 hn (by omega) (by omega) (by omega) hne (hs.base _ _ hS') (hs.get (i:=0) rfl))) (fun⟨x3,y3,z3⟩ ⟨q1,q2,q3⟩=> ?_))
 refine .m ?_
 refine .x .et ?_
 refine .x .et ?_
 refine .g ?_
 refine .g ?_
 refine .done ?_
 simp only at q1 q2 q3
 refine .sr ?_
 refine .m ?_
 refine .g ?_
 refine .done ?_
 refine .rt hK Tryz.func215 Tryz.results215 [_] ?_
 exact fun H' hs=> SortQ.of (m:= [z3]) hs (i:=0) rfl ⟨(y3,z3),rfl,rfl,by simp only;omega,by simp only;omega,by simp only;omega⟩
def pivV(s:Nat×Nat):Value:=.tuple ⟨[.int .i64 (s.1:Nat),.int .i64 (s.2:Nat)]⟩
theorem choosePivot_c(sb:Nat)(f:Bool)(l:List Int)(jj:List Value)(n cap a b:Nat)(hn:n=l.length)(h1000:n≤1000)(hb:b≤n)(h8:a+8≤b)(h50:b<a+50)(hS:H sb=some (f,.cells ⟨intsL l++jj⟩ 3 (0,0))):
   CallT M 179 #[.slice (some ⟨sb,0,none⟩) n cap,.int .i64 (a:Nat),.int .i64 (b:Nat)] H (fun v H'=> H.le H'∧∃s:Nat×Nat,v=pivV s∧(a≤s.1∧s.1<b∧s.2≤2)∧∀y∈([]:Bl),H' y.1=some y.2∧H y.1=none):=by
 obtain⟨m,hm⟩:∃m,m=b-a:=⟨_,rfl⟩
 obtain⟨w,hw⟩:∃w,w=m/4:=⟨_,rfl⟩
 have e0:((b:Nat):Int)-((a:Nat):Int)=((m:Nat):Int):=by omega
 have hq:intBin .quo .i64 ((m:Nat):Int) 4=some (.int .i64 ((w:Nat):Int)):=by
   rw[quo_in (by omega) (by omega) (by omega)]
   congr 2
   omega
 have e1:((a:Nat):Int)+((w:Nat):Int)*1=((a+w:Nat):Int):=by omega
 have e2:((a:Nat):Int)+((w:Nat):Int)*2=((a+w*2:Nat):Int):=by omega
 have e3:((a:Nat):Int)+((w:Nat):Int)*3=((a+w*3:Nat):Int):=by omega
 refine CallT.enter (vs:= [.slice (some ⟨sb,0,none⟩) n cap,.int .i64 (a:Nat),.int .i64 (b:Nat)]) Tryz.func179 rfl Tryz.ntmps179 (Nat.le_of_ble_eq_true rfl) (SymSt.nil _) fun St c cs hK=> ?_
 refine .sr ?_
 refine .g ?_
 refine .g ?_
 refine .done (.sr ?_)
 refine .m ?_
 refine .m ?_
 refine .i ?_ (z:=sub_in (by omega) (by omega))
 refine .g ?_
 refine .done ?_
 rw[e0]
 refine .sr ?_
 refine .e (.al (zz:=fun b9=> ?_))
 refine .done (.sr ?_)
 refine .m ?_
 refine .m ?_
 refine .i ?_ (z:=by assumption)
 refine .i ?_ (z:=mul_in (by omega) (by omega))
 refine .i ?_ (z:=add_in (by omega) (by omega))
 refine .g ?_
 refine .done ?_
 rw[e1]
 refine .sr ?_
 refine .m ?_
 refine .m ?_
 refine .i ?_ (z:=by assumption)
 refine .i ?_ (z:=mul_in (by omega) (by omega))
 refine .i ?_ (z:=add_in (by omega) (by omega))
 refine .g ?_
 refine .done ?_
 rw[e2]
 refine .sr ?_
 refine .m ?_
 refine .m ?_
 refine .i ?_ (z:=by assumption)
 refine .i ?_ (z:=mul_in (by omega) (by omega))
 refine .i ?_ (z:=add_in (by omega) (by omega))
 refine .g ?_
 refine .done ?_
 rw[e3]
 refine .seq (.sr ?_)
 refine .m ?_
 refine .i ?_ (z:=geq_t (by omega))
 refine .done (.tt rfl (.seq (.sr ?_)))
 refine .m ?_
 refine .i ?_ (z:=geq_f (by omega))
 refine .done (.ff rfl (.skip ?_))
 refine Tc.lift (L₂:= [(b9,true,.cells ⟨[.int .i64 0]⟩ 3 (0,0))]) (L₁:= []) rfl (fun Hx hx=> ?_)
 have hne:∀H',SymSt Hx [(b9,true,.cells ⟨[.int .i64 0]⟩ 3 (0,0))] H'→sb≠b9:=fun H' hs e=> by
   have:=hs.out (b9,true,.cells ⟨[.int .i64 0]⟩ 3 (0,0)) (by simp)
   rw[←e,hx.base _ _ hS] at this
   cases this
 refine .r ?_
 refine .m ?_
 refine .m ?_
 refine .m ?_
 refine .m ?_
 refine .e (Or.sortsF (l:= [0]) (j:= []) 0 (fun s:Nat×Int=> .int .i64 (s.1:Nat)) (fun s=> [s.2]) (fun s=> (s.1=a+w∨s.1=a+w*2∨s.1=a+w*3)∧0≤s.2∧s.2≤0+3) rfl rfl rfl rfl rfl (by decide) rfl (fun H hs=> .f ca215 rfl (median_c M H sb b9 f l jj n cap (a+w) (a+w*2) (a+w*3) 0 hn (by omega) (by omega) (by omega) (by omega) (hne H hs) (hs.base _ _ (hx.base _ _ hS)) (hs.get (i:=0) rfl))) (fun⟨x1,z1⟩ ⟨o1,o2,o3⟩=> ?_))
 refine .g ?_
 refine .done ?_
 simp only at o1 o2 o3
 have hle:=hx.base
 clear hx hne
 refine .sr ?_
 refine .x (.ld 0) ?_
 refine .done (.block (.seq ?_))
 by_cases c1:z1=0
 · refine .r ?_
   refine .i ?_ (z:=eql_t (by omega))
   refine .g ?_
   refine .done (.tt rfl (.sr ?_))
   refine .m ?_
   refine .g ?_
   refine .g ?_
   refine .done ?_
   refine .rt hK Tryz.func179 Tryz.results179 [_,_] ?_
   exact fun H' hs=> ⟨View.le_trans hle hs.base,(x1,1),rfl,⟨by simp only;omega,by simp only;omega,by simp⟩,by simp⟩
 · refine .r ?_
   refine .i ?_ (z:=eql_f (by omega))
   refine .g ?_
   refine .done (.ff rfl (.sr ?_))
   refine .i ?_ (z:=eql_f (by omega))
   refine .g ?_
   refine .done (.ff rfl (.sr ?_))
   refine .m ?_
   refine .g ?_
   refine .g ?_
   refine .done ?_
   refine .rt hK Tryz.func179 Tryz.results179 [_,_] ?_
   exact fun H' hs=> ⟨View.le_trans hle hs.base,(x1,0),rfl,⟨by simp only;omega,by simp only;omega,by simp⟩,by simp⟩
end
end Go.Proofs.YtpdaenfglbgfkaaGreatDoor
end
section
namespace Go.Proofs.YtpdaenfglbgfkaaGreatDoor
open Go.RL
set_option maxRecDepth 10000
structure Pti(a b i j:Nat)(u:List Int):Prop where
 ai:a+1≤i
 ij:i≤j+1
 jb:j<b
 aj:a≤j
 lo:∀k,a<k→k<i→at0 u k<at0 u a
 hi:∀k,j<k→k<b→at0 u a≤at0 u k
theorem Pti.start {a b:Nat}{u:List Int}(h:a<b):Pti a b (a+1) (b-1) u:=⟨Nat.le_refl _,by omega,by omega,by omega,fun k h1 h2=> by omega,fun k h1 h2=> by omega⟩
theorem Pti.up {a b i j:Nat}{u:List Int}(h:Pti a b i j u)(hij:i≤j)(hlt:at0 u i<at0 u a):Pti a b (i+1) j u:=
 ⟨by have:=h.ai;omega,by omega,h.jb,h.aj,fun k h1 h2=> by
   by_cases e:k=i
   · rw[e];exact hlt
   · exact h.lo k h1 (by omega),h.hi⟩
theorem Pti.down {a b i j:Nat}{u:List Int}(h:Pti a b i j u)(hij:i≤j)(hge:¬at0 u j<at0 u a):Pti a b i (j-1) u:=
 ⟨h.ai,by omega,by have:=h.jb;omega,by have:=h.ai;omega,h.lo,fun k h1 h2=> by
   by_cases e:k=j
   · rw[e];omega
   · exact h.hi k (by omega) h2⟩
theorem Pti.swap {a b i j:Nat}{u:List Int}(h:Pti a b i j u)(hl:b≤u.length)(hij:i≤j)(h1:¬at0 u i<at0 u a)(h2:at0 u j<at0 u a):i<j∧Pti a b (i+1) (j-1) (swapL u i j):=by
 have ha:=h.ai
 have hb:=h.jb
 have hne:i≠j:=by
   rintro rfl
   omega
 have hs:=fun q=> swapL_at (l:=u) (p:=i) (q:=j) (by omega) (by omega) q
 have h0:at0 (swapL u i j) a=at0 u a:=by rw[hs,if_neg (by omega),if_neg (by omega)]
 refine⟨by omega,⟨by omega,by omega,by omega,by omega,fun k h3 h4=> ?_,fun k h3 h4=> ?_⟩⟩
 · rw[h0,hs,if_neg (by omega)]
   by_cases e:k=i
   · rw[if_pos e];exact h2
   · rw[if_neg e];exact h.lo k h3 (by omega)
 · rw[h0,hs]
   by_cases e:k=j
   · rw[if_pos e];omega
   · rw[if_neg e,if_neg (by omega)];exact h.hi k (by omega) h4
structure Part(a b j:Nat)(u:List Int):Prop where
 aj:a≤j
 jb:j<b
 lo:∀k,a≤k→k<j→at0 u k<at0 u j
 hi:∀k,j<k→k<b→at0 u j≤at0 u k
theorem Pti.fin {a b i j:Nat}{u:List Int}(h:Pti a b i j u)(hl:b≤u.length)(hij:j<i):Part a b j (swapL u j a):=by
 have ha:=h.ai
 have hb:=h.jb
 have hj:=h.aj
 have hi:=h.ij
 have hs:=fun q=> swapL_at (l:=u) (p:=j) (q:=a) (by omega) (by omega) q
 have h0:at0 (swapL u j a) j=at0 u a:=by
   rw[hs]
   by_cases e:j=a
   · rw[if_pos e,e]
   · rw[if_neg e,if_pos rfl]
 refine⟨hj,hb,fun k h3 h4=> ?_,fun k h3 h4=> ?_⟩
 · rw[h0,hs]
   by_cases e:k=a
   · rw[if_pos e];exact h.lo j (by omega) (by omega)
   · rw[if_neg e,if_neg (by omega)];exact h.lo k (by omega) (by omega)
 · rw[h0,hs,if_neg (by omega),if_neg (by omega)]
   exact h.hi k h3 h4
theorem Part.sorted {a b j:Nat}{u m w:List Int}(h:Part a b j u)(hl:b≤u.length)(h1:Turned a j u m)(s1:Srt a j m)(h2:Turned (j+1) b m w)(s2:Srt (j+1) b w):Turned a b u w∧Srt a b w:=by
 have hj:=h.aj
 have hb:=h.jb
 have hml:=h1.len
 refine⟨(h1.wide (Nat.le_refl _) (by omega)).trans (h2.wide (by omega) (Nat.le_refl _)),fun p q g1 g2 g3=> ?_⟩
 have ej:at0 w j=at0 u j:=by rw[h2.out j (.inl (by omega)),h1.out j (.inr (Nat.le_refl _))]
 have lo:∀k,a≤k→k<j→at0 w k≤at0 u j:=fun k c1 c2=> by
   rw[h2.out k (.inl (by omega))]
   exact h1.all (by omega) (P:=fun x=> x≤at0 u j) (fun k c3 c4=> Int.le_of_lt (h.lo k c3 c4)) k c1 c2
 have hi:∀k,j<k→k<b→at0 u j≤at0 w k:=fun k c1 c2=>
   h2.all (by omega) (P:=fun x=> at0 u j≤x) (fun k c3 c4=> by rw[h1.out k (.inr (by omega))];exact h.hi k (by omega) c4) k (by omega) c2
 by_cases c1:q<j
 · rw[h2.out p (.inl (by omega)),h2.out q (.inl (by omega))]
   exact s1 p q g1 g2 c1
 · by_cases c2:q=j
   · rw[c2,ej]
     exact lo p g1 (by omega)
   · by_cases c3:p<j
     · exact Int.le_trans (lo p g1 c3) (hi q (by omega) g3)
     · by_cases c4:p=j
       · rw[c4,ej]
         exact hi q (by omega) g3
       · exact s2 p q (by omega) g2 g3
end Go.Proofs.YtpdaenfglbgfkaaGreatDoor
end
section
namespace Go.Proofs.YtpdaenfglbgfkaaGreatDoor
open Go.RL
set_option maxRecDepth 10000
set_option maxHeartbeats 16000000
section
variable(M:Md Tryz.prog)(H:View)
theorem partition_c(sb:Nat)(l:List Int)(jj:List Value)(n cap a b pv:Nat)(hn:n=l.length)(hb:b≤n)(h1000:n≤1000)(hp:a≤pv∧pv<b)(hS:H sb=some (true,.cells ⟨intsL l++jj⟩ 3 (0,0))):
   CallT M 184 #[.slice (some ⟨sb,0,none⟩) n cap,.int .i64 (a:Nat),.int .i64 (b:Nat),.int .i64 (pv:Nat)] H (SortQ H sb jj (fun v m=> ∃s:Nat×Bool×List Int,v=.tuple ⟨[.int .i64 (s.1:Nat),.bool s.2.1]⟩∧m=s.2.2∧(Turned a b l s.2.2∧Part a b s.1 s.2.2))):=by
 refine CallT.enter (vs:= [.slice (some ⟨sb,0,none⟩) n cap,.int .i64 (a:Nat),.int .i64 (b:Nat),.int .i64 (pv:Nat)]) Tryz.func184 rfl Tryz.ntmps184 (Nat.le_of_ble_eq_true rfl) (SymSt.pull hS) fun St c cs hK=> ?_
 obtain⟨u,hue⟩:∃u,swapL l a pv=u:=⟨_,rfl⟩
 have hu:Turned a b l u:=by rw[←hue];exact Turned.swap (by omega) (by omega) (by omega) (by omega)
 have hul:=hu.len
 have hst:=Pti.start (a:=a) (b:=b) (u:=u) (by omega)
 have eb:((b:Nat):Int)-1=((b-1:Nat):Int):=by omega
 have y1:=cells_ld (m:=l) (j:=jj) (k:=(a:Nat)) (p:=a) rfl (by omega)
 have y2:=cells_ld (m:=l) (j:=jj) (k:=(pv:Nat)) (p:=pv) rfl (by omega)
 have y3:=cells_st (m:=l) (j:=jj) (k:=(a:Nat)) (x:=at0 l (pv)) (p:=a) rfl (by omega)
 have y4:=cells_st (m:=(l).set (a) (at0 l (pv))) (j:=jj) (k:=(pv:Nat)) (x:=at0 l (a)) (p:=pv) rfl (by rw[List.length_set];omega)
 have y5:=cells_le (m:=l) (j:=jj) (k:=(a:Nat)) (p:=a) rfl (by omega)
 have y6:=cells_le (m:=(l).set (a) (at0 l (pv))) (j:=jj) (k:=(pv:Nat)) (p:=pv) rfl (by rw[List.length_set];omega)
 refine .sr ?_
 refine .g ?_
 refine .g ?_
 refine .done (.seq ?_)
 refine Tc.dr [13,15] [0] mixed rfl ?_
 refine .q 0 rfl .mv ?_
 refine .q 1 rfl .mv ?_
 refine Ta.tkw 2 (by kernel_rfl) rfl rfl rfl (by decide) rfl rfl (OpV.take .mv) ?_
 refine Ta.tkw 3 (by kernel_rfl) rfl rfl rfl (by decide) rfl rfl (OpV.take .mv) ?_
 refine .q 4 rfl .mv ?_
 refine .q 5 rfl .mv ?_
 refine .q 6 rfl .ia ?_
 refine .q 7 rfl (.ld 0) ?_
 refine Ta.tkw 8 (by kernel_rfl) rfl rfl rfl (by decide) rfl rfl (OpV.take .mv) ?_
 refine Ta.tkw 9 (by kernel_rfl) rfl rfl rfl (by decide) rfl rfl (OpV.take .mv) ?_
 refine Ta.tkw 10 (by kernel_rfl) rfl rfl rfl (by decide) rfl rfl (OpV.take .ia) ?_
 refine .q 11 rfl (.ld 0) ?_
 refine .q 12 rfl .ia ?_
 refine Ta.each [13] (by kernel_rfl) rfl ⟨TaOp.mk rfl rfl rfl (.st 0 (zz:=⟨S2.mk (by exact List.nil_sublist _) (.inl (by kernel_rfl)),?_⟩)),trivial⟩
 refine Ta.tkw 14 (by kernel_rfl) rfl rfl rfl (by decide) rfl rfl (OpV.take .ia) ?_
 refine Ta.each [15] (by kernel_rfl) rfl ⟨TaOp.mk rfl rfl rfl (.st 0 (zz:=⟨S2.mk (by exact List.nil_sublist _) (.inl (by kernel_rfl)),?_⟩)),trivial⟩
 refine Ta.done (by kernel_rfl) ?_
 refine .sr ?_
 refine .m ?_
 refine .i ?_ (z:=add_in (by omega) (by omega))
 refine .m ?_
 refine .i ?_ (z:=sub_in (by omega) (by omega))
 refine .g ?_
 refine .g ?_
 refine .done ?_
 rw[eb]
 refine Tc.db (R':= [(0,.slice (some ⟨sb,0,none⟩) n cap),(1,.int .i64 (a:Nat)),(10,.int .i64 (a+1:Nat)),(11,.int .i64 (b-1:Nat))]) (L':= [(sb,true,.cells ⟨intsL (swapL l a pv)++jj⟩ 3 (0,0))]) ?_
 rw[hue]
 refine .seq ?_
 refine blockVia (fun R' L'=> ∃s,a+1≤s∧Pti a b s (b-1) u∧(s≤b-1→¬at0 u s<at0 u a)∧AllIn [(0,.slice (some ⟨sb,0,none⟩) n cap),(1,.int .i64 (a:Nat)),(10,.int .i64 (s:Nat)),(11,.int .i64 (b-1:Nat))] R'∧L'= [(sb,true,.cells ⟨intsL u++jj⟩ 3 (0,0))]) ?_ (fun fin=> ?_)
 · rintro R' _ ⟨i1,i1le,o1,y1,hRR,rfl⟩
   refine Tc.dropB ?_ hRR (List.Sublist.refl _)
   have o1a:=o1.ai
   have o1b:=o1.ij
   have o1c:=o1.jb
   refine .seq ?_
   refine blockVia (fun R' L'=> ∃s,s≤b-1∧Pti a b (i1) s u∧(i1≤s→at0 u s<at0 u a)∧AllIn [(0,.slice (some ⟨sb,0,none⟩) n cap),(1,.int .i64 (a:Nat)),(10,.int .i64 (i1:Nat)),(11,.int .i64 (s:Nat))] R'∧L'= [(sb,true,.cells ⟨intsL u++jj⟩ 3 (0,0))]) ?_ (fun fin=> ?_)
   · rintro R' _ ⟨j1,j1le,o2,y2,hRR,rfl⟩
     refine Tc.dropB ?_ hRR (List.Sublist.refl _)
     have o2a:=o2.ai
     have o2b:=o2.ij
     have o2c:=o2.jb
     have o2d:=o2.aj
     by_cases d:j1<i1
     · refine .seq (.sr ?_)
       refine .m ?_
       refine .m ?_
       refine .i ?_ (z:=gtr_t (by omega))
       refine .done (.tt rfl (.seq ?_))
       have z1:=cells_ld (m:=u) (j:=jj) (k:=(j1:Nat)) (p:=j1) rfl (by omega)
       have z2:=cells_ld (m:=u) (j:=jj) (k:=(a:Nat)) (p:=a) rfl (by omega)
       have z3:=cells_st (m:=u) (j:=jj) (k:=(j1:Nat)) (x:=at0 u (a)) (p:=j1) rfl (by omega)
       have z4:=cells_st (m:=(u).set (j1) (at0 u (a))) (j:=jj) (k:=(a:Nat)) (x:=at0 u (j1)) (p:=a) rfl (by rw[List.length_set];omega)
       have z5:=cells_le (m:=u) (j:=jj) (k:=(j1:Nat)) (p:=j1) rfl (by omega)
       have z6:=cells_le (m:=(u).set (j1) (at0 u (a))) (j:=jj) (k:=(a:Nat)) (p:=a) rfl (by rw[List.length_set];omega)
       refine Tc.dr [13,15] [0] mixed rfl ?_
       refine .q 0 rfl .mv ?_
       refine .q 1 rfl .mv ?_
       refine Ta.tkw 2 (by kernel_rfl) rfl rfl rfl (by decide) rfl rfl (OpV.take .mv) ?_
       refine Ta.tkw 3 (by kernel_rfl) rfl rfl rfl (by decide) rfl rfl (OpV.take .mv) ?_
       refine .q 4 rfl .mv ?_
       refine .q 5 rfl .mv ?_
       refine .q 6 rfl .ia ?_
       refine .q 7 rfl (.ld 0) ?_
       refine Ta.tkw 8 (by kernel_rfl) rfl rfl rfl (by decide) rfl rfl (OpV.take .mv) ?_
       refine Ta.tkw 9 (by kernel_rfl) rfl rfl rfl (by decide) rfl rfl (OpV.take .mv) ?_
       refine Ta.tkw 10 (by kernel_rfl) rfl rfl rfl (by decide) rfl rfl (OpV.take .ia) ?_
       refine .q 11 rfl (.ld 0) ?_
       refine .q 12 rfl .ia ?_
       refine Ta.each [13] (by kernel_rfl) rfl ⟨TaOp.mk rfl rfl rfl (.st 0 (zz:=⟨S2.mk (by exact List.nil_sublist _) (.inl (by kernel_rfl)),?_⟩)),trivial⟩
       refine Ta.tkw 14 (by kernel_rfl) rfl rfl rfl (by decide) rfl rfl (OpV.take .ia) ?_
       refine Ta.each [15] (by kernel_rfl) rfl ⟨TaOp.mk rfl rfl rfl (.st 0 (zz:=⟨S2.mk (by exact List.nil_sublist _) (.inl (by kernel_rfl)),?_⟩)),trivial⟩
       refine Ta.done (by kernel_rfl) ?_
       refine .sr ?_
       refine .m ?_
       refine .g ?_
       refine .g ?_
       refine .done ?_
       refine .rt hK Tryz.func184 Tryz.results184 [_,_] ?_
       exact fun H' hs=> SortQ.of hs (i:=0) rfl ⟨(j1,true,swapL u j1 a),rfl,rfl,hu.trans (Turned.swap (by omega) (by omega) (by omega) (by omega)),o2.fin (by omega) d⟩
     · have e2 :((j1:Nat):Int)-1=((j1-1:Nat):Int):=by omega
       have hsw:=o2.swap (by omega) (by omega) (y1 (by omega)) (y2 (by omega))
       refine .seq (.sr ?_)
       refine .m ?_
       refine .m ?_
       refine .i ?_ (z:=gtr_f (by omega))
       refine .done (.ff rfl (.skip (.seq ?_)))
       have z1:=cells_ld (m:=u) (j:=jj) (k:=(i1:Nat)) (p:=i1) rfl (by omega)
       have z2:=cells_ld (m:=u) (j:=jj) (k:=(j1:Nat)) (p:=j1) rfl (by omega)
       have z3:=cells_st (m:=u) (j:=jj) (k:=(i1:Nat)) (x:=at0 u (j1)) (p:=i1) rfl (by omega)
       have z4:=cells_st (m:=(u).set (i1) (at0 u (j1))) (j:=jj) (k:=(j1:Nat)) (x:=at0 u (i1)) (p:=j1) rfl (by rw[List.length_set];omega)
       have z5:=cells_le (m:=u) (j:=jj) (k:=(i1:Nat)) (p:=i1) rfl (by omega)
       have z6:=cells_le (m:=(u).set (i1) (at0 u (j1))) (j:=jj) (k:=(j1:Nat)) (p:=j1) rfl (by rw[List.length_set];omega)
       refine Tc.dr [13,15] [0] mixed rfl ?_
       refine .q 0 rfl .mv ?_
       refine .q 1 rfl .mv ?_
       refine Ta.tkw 2 (by kernel_rfl) rfl rfl rfl (by decide) rfl rfl (OpV.take .mv) ?_
       refine Ta.tkw 3 (by kernel_rfl) rfl rfl rfl (by decide) rfl rfl (OpV.take .mv) ?_
       refine .q 4 rfl .mv ?_
       refine .q 5 rfl .mv ?_
       refine .q 6 rfl .ia ?_
       refine .q 7 rfl (.ld 0) ?_
       refine Ta.tkw 8 (by kernel_rfl) rfl rfl rfl (by decide) rfl rfl (OpV.take .mv) ?_
       refine Ta.tkw 9 (by kernel_rfl) rfl rfl rfl (by decide) rfl rfl (OpV.take .mv) ?_
       refine Ta.tkw 10 (by kernel_rfl) rfl rfl rfl (by decide) rfl rfl (OpV.take .ia) ?_
       refine .q 11 rfl (.ld 0) ?_
       refine .q 12 rfl .ia ?_
       refine Ta.each [13] (by kernel_rfl) rfl ⟨TaOp.mk rfl rfl rfl (.st 0 (zz:=⟨S2.mk (by exact List.nil_sublist _) (.inl (by kernel_rfl)),?_⟩)),trivial⟩
       refine Ta.tkw 14 (by kernel_rfl) rfl rfl rfl (by decide) rfl rfl (OpV.take .ia) ?_
       refine Ta.each [15] (by kernel_rfl) rfl ⟨TaOp.mk rfl rfl rfl (.st 0 (zz:=⟨S2.mk (by exact List.nil_sublist _) (.inl (by kernel_rfl)),?_⟩)),trivial⟩
       refine Ta.done (by kernel_rfl) ?_
       refine .sr ?_
       refine .m ?_
       refine .i ?_ (z:=add_in (by omega) (by omega))
       refine .g ?_
       refine .done (.sr ?_)
       refine .m ?_
       refine .i ?_ (z:=sub_in (by omega) (by omega))
       refine .g ?_
       refine .done ?_
       rw[e2]
       refine .seq (.block ?_)
       refine Tc.db (Tc.loopInv (σ:= { s:Nat×Nat×List Int//Pti a b s.1 s.2.1 s.2.2∧Turned a b l s.2.2 }) (fun s=> ([(0,.slice (some ⟨sb,0,none⟩) n cap),(1,.int .i64 (a:Nat)),(10,.int .i64 (s.1.1:Nat)),(11,.int .i64 (s.1.2.1:Nat))],[(sb,true,.cells ⟨intsL s.1.2.2++jj⟩ 3 (0,0))])) (fun s=> s.1.2.1+1-s.1.1) ?_ ⟨(i1+1,j1-1,swapL u i1 j1),hsw.2,hu.trans (Turned.swap (by omega) (by omega) (by omega) (by omega))⟩)
       rintro⟨⟨i,j,w⟩,g1,g2⟩ ih0
       simp only at g1 g2
       have hwl:=g2.len
       have g1a:=g1.ai
       have g1b:=g1.ij
       have g1c:=g1.jb
       show Tc M St _ _ _ _ [(0,.slice (some ⟨sb,0,none⟩) n cap),(1,.int .i64 (a:Nat)),(10,.int .i64 (i:Nat)),(11,.int .i64 (j:Nat))] [(sb,true,.cells ⟨intsL w++jj⟩ 3 (0,0))] _ _
       refine .block (.seq ?_)
       refine blockVia (fun R' L'=> ∃s,i≤s∧Pti a b s (j) w∧(s≤j→¬at0 w s<at0 w a)∧AllIn [(0,.slice (some ⟨sb,0,none⟩) n cap),(1,.int .i64 (a:Nat)),(10,.int .i64 (s:Nat)),(11,.int .i64 (j:Nat))] R'∧L'= [(sb,true,.cells ⟨intsL w++jj⟩ 3 (0,0))]) ?_ (fun fin=> ?_)
       · rintro R' _ ⟨i2,i2le,p1,x1,hRR,rfl⟩
         refine Tc.dropB ?_ hRR (List.Sublist.refl _)
         have p1a:=p1.ai
         have p1b:=p1.ij
         have p1c:=p1.jb
         refine .seq ?_
         refine blockVia (fun R' L'=> ∃s,s≤j∧Pti a b (i2) s w∧(i2≤s→at0 w s<at0 w a)∧AllIn [(0,.slice (some ⟨sb,0,none⟩) n cap),(1,.int .i64 (a:Nat)),(10,.int .i64 (i2:Nat)),(11,.int .i64 (s:Nat))] R'∧L'= [(sb,true,.cells ⟨intsL w++jj⟩ 3 (0,0))]) ?_ (fun fin=> ?_)
         · rintro R' _ ⟨j2,j2le,p2,x2,hRR,rfl⟩
           refine Tc.dropB ?_ hRR (List.Sublist.refl _)
           have p2a:=p2.ai
           have p2b:=p2.ij
           have p2c:=p2.jb
           have p2d:=p2.aj
           by_cases d:j2<i2
           · refine .seq (.sr ?_)
             refine .m ?_
             refine .m ?_
             refine .i ?_ (z:=gtr_t (by omega))
             refine .done (.tt rfl (.exit rfl (.seq ?_)))
             have z1:=cells_ld (m:=w) (j:=jj) (k:=(j2:Nat)) (p:=j2) rfl (by omega)
             have z2:=cells_ld (m:=w) (j:=jj) (k:=(a:Nat)) (p:=a) rfl (by omega)
             have z3:=cells_st (m:=w) (j:=jj) (k:=(j2:Nat)) (x:=at0 w (a)) (p:=j2) rfl (by omega)
             have z4:=cells_st (m:=(w).set (j2) (at0 w (a))) (j:=jj) (k:=(a:Nat)) (x:=at0 w (j2)) (p:=a) rfl (by rw[List.length_set];omega)
             have z5:=cells_le (m:=w) (j:=jj) (k:=(j2:Nat)) (p:=j2) rfl (by omega)
             have z6:=cells_le (m:=(w).set (j2) (at0 w (a))) (j:=jj) (k:=(a:Nat)) (p:=a) rfl (by rw[List.length_set];omega)
             refine Tc.dr [13,15] [0] mixed rfl ?_
             refine .q 0 rfl .mv ?_
             refine .q 1 rfl .mv ?_
             refine Ta.tkw 2 (by kernel_rfl) rfl rfl rfl (by decide) rfl rfl (OpV.take .mv) ?_
             refine Ta.tkw 3 (by kernel_rfl) rfl rfl rfl (by decide) rfl rfl (OpV.take .mv) ?_
             refine .q 4 rfl .mv ?_
             refine .q 5 rfl .mv ?_
             refine .q 6 rfl .ia ?_
             refine .q 7 rfl (.ld 0) ?_
             refine Ta.tkw 8 (by kernel_rfl) rfl rfl rfl (by decide) rfl rfl (OpV.take .mv) ?_
             refine Ta.tkw 9 (by kernel_rfl) rfl rfl rfl (by decide) rfl rfl (OpV.take .mv) ?_
             refine Ta.tkw 10 (by kernel_rfl) rfl rfl rfl (by decide) rfl rfl (OpV.take .ia) ?_
             refine .q 11 rfl (.ld 0) ?_
             refine .q 12 rfl .ia ?_
             refine Ta.each [13] (by kernel_rfl) rfl ⟨TaOp.mk rfl rfl rfl (.st 0 (zz:=⟨S2.mk (by exact List.nil_sublist _) (.inl (by kernel_rfl)),?_⟩)),trivial⟩
             refine Ta.tkw 14 (by kernel_rfl) rfl rfl rfl (by decide) rfl rfl (OpV.take .ia) ?_
             refine Ta.each [15] (by kernel_rfl) rfl ⟨TaOp.mk rfl rfl rfl (.st 0 (zz:=⟨S2.mk (by exact List.nil_sublist _) (.inl (by kernel_rfl)),?_⟩)),trivial⟩
             refine Ta.done (by kernel_rfl) ?_
             refine .sr ?_
             refine .m ?_
             refine .g ?_
             refine .g ?_
             refine .done ?_
             refine .rt hK Tryz.func184 Tryz.results184 [_,_] ?_
             exact fun H' hs=> SortQ.of hs (i:=0) rfl ⟨(j2,false,swapL w j2 a),rfl,rfl,g2.trans (Turned.swap (by omega) (by omega) (by omega) (by omega)),p2.fin (by omega) d⟩
           · have hsw:=p2.swap (by omega) (by omega) (x1 (by omega)) (x2 (by omega))
             have e2:((j2:Nat):Int)-1=((j2-1:Nat):Int):=by omega
             refine .seq (.sr ?_)
             refine .m ?_
             refine .m ?_
             refine .i ?_ (z:=gtr_f (by omega))
             refine .done (.ff rfl (.skip (.seq ?_)))
             have z1:=cells_ld (m:=w) (j:=jj) (k:=(i2:Nat)) (p:=i2) rfl (by omega)
             have z2:=cells_ld (m:=w) (j:=jj) (k:=(j2:Nat)) (p:=j2) rfl (by omega)
             have z3:=cells_st (m:=w) (j:=jj) (k:=(i2:Nat)) (x:=at0 w (j2)) (p:=i2) rfl (by omega)
             have z4:=cells_st (m:=(w).set (i2) (at0 w (j2))) (j:=jj) (k:=(j2:Nat)) (x:=at0 w (i2)) (p:=j2) rfl (by rw[List.length_set];omega)
             have z5:=cells_le (m:=w) (j:=jj) (k:=(i2:Nat)) (p:=i2) rfl (by omega)
             have z6:=cells_le (m:=(w).set (i2) (at0 w (j2))) (j:=jj) (k:=(j2:Nat)) (p:=j2) rfl (by rw[List.length_set];omega)
             refine Tc.dr [13,15] [0] mixed rfl ?_
             refine .q 0 rfl .mv ?_
             refine .q 1 rfl .mv ?_
             refine Ta.tkw 2 (by kernel_rfl) rfl rfl rfl (by decide) rfl rfl (OpV.take .mv) ?_
             refine Ta.tkw 3 (by kernel_rfl) rfl rfl rfl (by decide) rfl rfl (OpV.take .mv) ?_
             refine .q 4 rfl .mv ?_
             refine .q 5 rfl .mv ?_
             refine .q 6 rfl .ia ?_
             refine .q 7 rfl (.ld 0) ?_
             refine Ta.tkw 8 (by kernel_rfl) rfl rfl rfl (by decide) rfl rfl (OpV.take .mv) ?_
             refine Ta.tkw 9 (by kernel_rfl) rfl rfl rfl (by decide) rfl rfl (OpV.take .mv) ?_
             refine Ta.tkw 10 (by kernel_rfl) rfl rfl rfl (by decide) rfl rfl (OpV.take .ia) ?_
             refine .q 11 rfl (.ld 0) ?_
             refine .q 12 rfl .ia ?_
             refine Ta.each [13] (by kernel_rfl) rfl ⟨TaOp.mk rfl rfl rfl (.st 0 (zz:=⟨S2.mk (by exact List.nil_sublist _) (.inl (by kernel_rfl)),?_⟩)),trivial⟩
             refine Ta.tkw 14 (by kernel_rfl) rfl rfl rfl (by decide) rfl rfl (OpV.take .ia) ?_
             refine Ta.each [15] (by kernel_rfl) rfl ⟨TaOp.mk rfl rfl rfl (.st 0 (zz:=⟨S2.mk (by exact List.nil_sublist _) (.inl (by kernel_rfl)),?_⟩)),trivial⟩
             refine Ta.done (by kernel_rfl) ?_
             refine .sr ?_
             refine .m ?_
             refine .i ?_ (z:=add_in (by omega) (by omega))
             refine .g ?_
             refine .done (.r ?_)
             refine .m ?_
             refine .i ?_ (z:=sub_in (by omega) (by omega))
             refine .g ?_
             refine .done ?_
             rw[e2]
             refine .inBlock ?_
             exact Tc.db (ih0 ⟨(i2+1,j2-1,swapL w i2 j2),hsw.2,g2.trans (Turned.swap (by omega) (by omega) (by omega) (by omega))⟩ (by simp only;omega))
         · refine Tc.db (Tc.loopInv (σ:= { s:Nat//s≤j∧Pti a b (i2) s w }) (fun s=> ([(0,.slice (some ⟨sb,0,none⟩) n cap),(1,.int .i64 (a:Nat)),(10,.int .i64 (i2:Nat)),(11,.int .i64 (s.1:Nat))],[(sb,true,.cells ⟨intsL w++jj⟩ 3 (0,0))])) (fun s=> s.1) ?_ ⟨j,Nat.le_refl _,p1⟩)
           rintro⟨s,q1,q2⟩ ih
           have q3:=q2.ai
           have q4:=q2.ij
           have q5:=q2.jb
           show Tc M St _ _ _ _ [(0,.slice (some ⟨sb,0,none⟩) n cap),(1,.int .i64 (a:Nat)),(10,.int .i64 (i2:Nat)),(11,.int .i64 (s:Nat))] [(sb,true,.cells ⟨intsL w++jj⟩ 3 (0,0))] _ _
           by_cases c1:i2≤s
           · have e1:((s:Nat):Int)-1=((s-1:Nat):Int):=by omega
             have k1:=cells_ld (m:=w) (j:=jj) (k:=(s:Nat)) (p:=s) rfl (by omega)
             have k2:=cells_ld (m:=w) (j:=jj) (k:=(a:Nat)) (p:=a) rfl (by omega)
             by_cases c2:at0 w s<at0 w a
             · refine .seq (.seq ?_)
               refine Tc.dr [] [] mixed rfl ?_
               refine .q 0 rfl .mv ?_
               refine .q 1 rfl .mv ?_
               refine .q 2 rfl (.it (zz:=leq_t (by omega))) ?_
               refine .q 3 rfl .mv ?_
               refine .q 4 rfl .mv ?_
               refine .q 5 rfl .mv ?_
               refine .q 6 rfl .ia ?_
               refine .q 7 rfl (.ld 0) ?_
               refine .q 8 rfl .mv ?_
               refine .q 9 rfl .mv ?_
               refine .q 10 rfl .ia ?_
               refine .q 11 rfl (.ld 0) ?_
               refine .z 12 rfl (OpV.takeCall rfl rfl rfl rfl (fun H hs=> .f ca182 rfl (CallT.is (.bool true) (by rewrite [decide_eq_true c2];rfl) (Less_c M H (at0 w s) (at0 w a))))) ?_
               refine .q 13 rfl .nt ?_
               refine .q 14 rfl .pk ?_
               refine Ta.done (by kernel_rfl) ?_
               refine .ff rfl (.exit rfl ?_)
               exact Tc.db (fin [(0,.slice (some ⟨sb,0,none⟩) n cap),(1,.int .i64 (a:Nat)),(10,.int .i64 (i2:Nat)),(11,.int .i64 (s:Nat))] [(sb,true,.cells ⟨intsL w++jj⟩ 3 (0,0))] ⟨s,q1,q2,fun _=> c2,⟨rfl,rfl,rfl,rfl,trivial⟩,rfl⟩)
             · refine .seq (.seq ?_)
               refine Tc.dr [] [] mixed rfl ?_
               refine .q 0 rfl .mv ?_
               refine .q 1 rfl .mv ?_
               refine .q 2 rfl (.it (zz:=leq_t (by omega))) ?_
               refine .q 3 rfl .mv ?_
               refine .q 4 rfl .mv ?_
               refine .q 5 rfl .mv ?_
               refine .q 6 rfl .ia ?_
               refine .q 7 rfl (.ld 0) ?_
               refine .q 8 rfl .mv ?_
               refine .q 9 rfl .mv ?_
               refine .q 10 rfl .ia ?_
               refine .q 11 rfl (.ld 0) ?_
               refine .z 12 rfl (OpV.takeCall rfl rfl rfl rfl (fun H hs=> .f ca182 rfl (CallT.is (.bool false) (by rewrite [decide_eq_false c2];rfl) (Less_c M H (at0 w s) (at0 w a))))) ?_
               refine .q 13 rfl .nt ?_
               refine .q 14 rfl .pk ?_
               refine Ta.done (by kernel_rfl) ?_
               refine .tt rfl (.skip (.block (.r ?_)))
               refine .m ?_
               refine .i ?_ (z:=sub_in (by omega) (by omega))
               refine .g ?_
               refine .done ?_
               rw[e1]
               refine .inBlock ?_
               exact Tc.db (ih ⟨s-1,by omega,q2.down c1 c2⟩ (by simp only;omega))
           · refine .seq (.seq ?_)
             refine Tc.dr [] [] mixed rfl ?_
             refine .q 0 rfl .mv ?_
             refine .q 1 rfl .mv ?_
             refine .q 2 rfl (.it (zz:=leq_f (by omega))) ?_
             refine .q 3 rfl .mv ?_
             refine Ta.ps 4 (by kernel_rfl) rfl rfl rfl (by decide) rfl rfl ?_
             refine Ta.ps 5 (by kernel_rfl) rfl rfl rfl (by decide) rfl rfl ?_
             refine Ta.ps 6 (by kernel_rfl) rfl rfl rfl (by decide) rfl rfl ?_
             refine Ta.ps 7 (by kernel_rfl) rfl rfl rfl (by decide) rfl rfl ?_
             refine Ta.ps 8 (by kernel_rfl) rfl rfl rfl (by decide) rfl rfl ?_
             refine Ta.ps 9 (by kernel_rfl) rfl rfl rfl (by decide) rfl rfl ?_
             refine Ta.ps 10 (by kernel_rfl) rfl rfl rfl (by decide) rfl rfl ?_
             refine Ta.ps 11 (by kernel_rfl) rfl rfl rfl (by decide) rfl rfl ?_
             refine Ta.ps 12 (by kernel_rfl) rfl rfl rfl (by decide) rfl rfl ?_
             refine Ta.ps 13 (by kernel_rfl) rfl rfl rfl (by decide) rfl rfl ?_
             refine .q 14 rfl .pk ?_
             refine Ta.done (by kernel_rfl) ?_
             refine .ff rfl (.exit rfl ?_)
             exact Tc.db (fin [(0,.slice (some ⟨sb,0,none⟩) n cap),(1,.int .i64 (a:Nat)),(10,.int .i64 (i2:Nat)),(11,.int .i64 (s:Nat))] [(sb,true,.cells ⟨intsL w++jj⟩ 3 (0,0))] ⟨s,q1,q2,fun h=> absurd h c1,⟨rfl,rfl,rfl,rfl,trivial⟩,rfl⟩)
       · refine Tc.db (Tc.loopInv (σ:= { s:Nat//i≤s∧Pti a b s (j) w }) (fun s=> ([(0,.slice (some ⟨sb,0,none⟩) n cap),(1,.int .i64 (a:Nat)),(10,.int .i64 (s.1:Nat)),(11,.int .i64 (j:Nat))],[(sb,true,.cells ⟨intsL w++jj⟩ 3 (0,0))])) (fun s=> j+1-s.1) ?_ ⟨i,Nat.le_refl _,g1⟩)
         rintro⟨s,q1,q2⟩ ih
         have q3:=q2.ai
         have q4:=q2.ij
         have q5:=q2.jb
         show Tc M St _ _ _ _ [(0,.slice (some ⟨sb,0,none⟩) n cap),(1,.int .i64 (a:Nat)),(10,.int .i64 (s:Nat)),(11,.int .i64 (j:Nat))] [(sb,true,.cells ⟨intsL w++jj⟩ 3 (0,0))] _ _
         by_cases c1:s≤j
         · have k1:=cells_ld (m:=w) (j:=jj) (k:=(s:Nat)) (p:=s) rfl (by omega)
           have k2:=cells_ld (m:=w) (j:=jj) (k:=(a:Nat)) (p:=a) rfl (by omega)
           by_cases c2:at0 w s<at0 w a
           · refine .seq (.seq ?_)
             refine Tc.dr [] [] mixed rfl ?_
             refine .q 0 rfl .mv ?_
             refine .q 1 rfl .mv ?_
             refine .q 2 rfl (.it (zz:=leq_t (by omega))) ?_
             refine .q 3 rfl .mv ?_
             refine .q 4 rfl .mv ?_
             refine .q 5 rfl .mv ?_
             refine .q 6 rfl .ia ?_
             refine .q 7 rfl (.ld 0) ?_
             refine .q 8 rfl .mv ?_
             refine .q 9 rfl .mv ?_
             refine .q 10 rfl .ia ?_
             refine .q 11 rfl (.ld 0) ?_
             refine .z 12 rfl (OpV.takeCall rfl rfl rfl rfl (fun H hs=> .f ca182 rfl (CallT.is (.bool true) (by rewrite [decide_eq_true c2];rfl) (Less_c M H (at0 w s) (at0 w a))))) ?_
             refine .q 13 rfl .pk ?_
             refine Ta.done (by kernel_rfl) ?_
             refine .tt rfl (.skip (.block (.r ?_)))
             refine .m ?_
             refine .i ?_ (z:=add_in (by omega) (by omega))
             refine .g ?_
             refine .done (.inBlock ?_)
             exact Tc.db (ih ⟨s+1,by omega,q2.up c1 c2⟩ (by simp only;omega))
           · refine .seq (.seq ?_)
             refine Tc.dr [] [] mixed rfl ?_
             refine .q 0 rfl .mv ?_
             refine .q 1 rfl .mv ?_
             refine .q 2 rfl (.it (zz:=leq_t (by omega))) ?_
             refine .q 3 rfl .mv ?_
             refine .q 4 rfl .mv ?_
             refine .q 5 rfl .mv ?_
             refine .q 6 rfl .ia ?_
             refine .q 7 rfl (.ld 0) ?_
             refine .q 8 rfl .mv ?_
             refine .q 9 rfl .mv ?_
             refine .q 10 rfl .ia ?_
             refine .q 11 rfl (.ld 0) ?_
             refine .z 12 rfl (OpV.takeCall rfl rfl rfl rfl (fun H hs=> .f ca182 rfl (CallT.is (.bool false) (by rewrite [decide_eq_false c2];rfl) (Less_c M H (at0 w s) (at0 w a))))) ?_
             refine .q 13 rfl .pk ?_
             refine Ta.done (by kernel_rfl) ?_
             refine .ff rfl (.exit rfl ?_)
             exact Tc.db (fin [(0,.slice (some ⟨sb,0,none⟩) n cap),(1,.int .i64 (a:Nat)),(10,.int .i64 (s:Nat)),(11,.int .i64 (j:Nat))] [(sb,true,.cells ⟨intsL w++jj⟩ 3 (0,0))] ⟨s,q1,q2,fun _=> c2,⟨rfl,rfl,rfl,rfl,trivial⟩,rfl⟩)
         · refine .seq (.seq ?_)
           refine Tc.dr [] [] mixed rfl ?_
           refine .q 0 rfl .mv ?_
           refine .q 1 rfl .mv ?_
           refine .q 2 rfl (.it (zz:=leq_f (by omega))) ?_
           refine .q 3 rfl .mv ?_
           refine Ta.ps 4 (by kernel_rfl) rfl rfl rfl (by decide) rfl rfl ?_
           refine Ta.ps 5 (by kernel_rfl) rfl rfl rfl (by decide) rfl rfl ?_
           refine Ta.ps 6 (by kernel_rfl) rfl rfl rfl (by decide) rfl rfl ?_
           refine Ta.ps 7 (by kernel_rfl) rfl rfl rfl (by decide) rfl rfl ?_
           refine Ta.ps 8 (by kernel_rfl) rfl rfl rfl (by decide) rfl rfl ?_
           refine Ta.ps 9 (by kernel_rfl) rfl rfl rfl (by decide) rfl rfl ?_
           refine Ta.ps 10 (by kernel_rfl) rfl rfl rfl (by decide) rfl rfl ?_
           refine Ta.ps 11 (by kernel_rfl) rfl rfl rfl (by decide) rfl rfl ?_
           refine Ta.ps 12 (by kernel_rfl) rfl rfl rfl (by decide) rfl rfl ?_
           refine .q 13 rfl .pk ?_
           refine Ta.done (by kernel_rfl) ?_
           refine .ff rfl (.exit rfl ?_)
           exact Tc.db (fin [(0,.slice (some ⟨sb,0,none⟩) n cap),(1,.int .i64 (a:Nat)),(10,.int .i64 (s:Nat)),(11,.int .i64 (j:Nat))] [(sb,true,.cells ⟨intsL w++jj⟩ 3 (0,0))] ⟨s,q1,q2,fun h=> absurd h c1,⟨rfl,rfl,rfl,rfl,trivial⟩,rfl⟩)
   · refine Tc.db (Tc.loopInv (σ:= { s:Nat//s≤b-1∧Pti a b (i1) s u }) (fun s=> ([(0,.slice (some ⟨sb,0,none⟩) n cap),(1,.int .i64 (a:Nat)),(10,.int .i64 (i1:Nat)),(11,.int .i64 (s.1:Nat))],[(sb,true,.cells ⟨intsL u++jj⟩ 3 (0,0))])) (fun s=> s.1) ?_ ⟨b-1,Nat.le_refl _,o1⟩)
     rintro⟨s,q1,q2⟩ ih
     have q3:=q2.ai
     have q4:=q2.ij
     have q5:=q2.jb
     show Tc M St _ _ _ _ [(0,.slice (some ⟨sb,0,none⟩) n cap),(1,.int .i64 (a:Nat)),(10,.int .i64 (i1:Nat)),(11,.int .i64 (s:Nat))] [(sb,true,.cells ⟨intsL u++jj⟩ 3 (0,0))] _ _
     by_cases c1:i1≤s
     · have e1:((s:Nat):Int)-1=((s-1:Nat):Int):=by omega
       have k1:=cells_ld (m:=u) (j:=jj) (k:=(s:Nat)) (p:=s) rfl (by omega)
       have k2:=cells_ld (m:=u) (j:=jj) (k:=(a:Nat)) (p:=a) rfl (by omega)
       by_cases c2:at0 u s<at0 u a
       · refine .seq (.seq ?_)
         refine Tc.dr [] [] mixed rfl ?_
         refine .q 0 rfl .mv ?_
         refine .q 1 rfl .mv ?_
         refine .q 2 rfl (.it (zz:=leq_t (by omega))) ?_
         refine .q 3 rfl .mv ?_
         refine .q 4 rfl .mv ?_
         refine .q 5 rfl .mv ?_
         refine .q 6 rfl .ia ?_
         refine .q 7 rfl (.ld 0) ?_
         refine .q 8 rfl .mv ?_
         refine .q 9 rfl .mv ?_
         refine .q 10 rfl .ia ?_
         refine .q 11 rfl (.ld 0) ?_
         refine .z 12 rfl (OpV.takeCall rfl rfl rfl rfl (fun H hs=> .f ca182 rfl (CallT.is (.bool true) (by rewrite [decide_eq_true c2];rfl) (Less_c M H (at0 u s) (at0 u a))))) ?_
         refine .q 13 rfl .nt ?_
         refine .q 14 rfl .pk ?_
         refine Ta.done (by kernel_rfl) ?_
         refine .ff rfl (.exit rfl ?_)
         exact Tc.db (fin [(0,.slice (some ⟨sb,0,none⟩) n cap),(1,.int .i64 (a:Nat)),(10,.int .i64 (i1:Nat)),(11,.int .i64 (s:Nat))] [(sb,true,.cells ⟨intsL u++jj⟩ 3 (0,0))] ⟨s,q1,q2,fun _=> c2,⟨rfl,rfl,rfl,rfl,trivial⟩,rfl⟩)
       · refine .seq (.seq ?_)
         refine Tc.dr [] [] mixed rfl ?_
         refine .q 0 rfl .mv ?_
         refine .q 1 rfl .mv ?_
         refine .q 2 rfl (.it (zz:=leq_t (by omega))) ?_
         refine .q 3 rfl .mv ?_
         refine .q 4 rfl .mv ?_
         refine .q 5 rfl .mv ?_
         refine .q 6 rfl .ia ?_
         refine .q 7 rfl (.ld 0) ?_
         refine .q 8 rfl .mv ?_
         refine .q 9 rfl .mv ?_
         refine .q 10 rfl .ia ?_
         refine .q 11 rfl (.ld 0) ?_
         refine .z 12 rfl (OpV.takeCall rfl rfl rfl rfl (fun H hs=> .f ca182 rfl (CallT.is (.bool false) (by rewrite [decide_eq_false c2];rfl) (Less_c M H (at0 u s) (at0 u a))))) ?_
         refine .q 13 rfl .nt ?_
         refine .q 14 rfl .pk ?_
         refine Ta.done (by kernel_rfl) ?_
         refine .tt rfl (.skip (.block (.r ?_)))
         refine .m ?_
         refine .i ?_ (z:=sub_in (by omega) (by omega))
         refine .g ?_
         refine .done ?_
         rw[e1]
         refine .inBlock ?_
         exact Tc.db (ih ⟨s-1,by omega,q2.down c1 c2⟩ (by simp only;omega))
     · refine .seq (.seq ?_)
       refine Tc.dr [] [] mixed rfl ?_
       refine .q 0 rfl .mv ?_
       refine .q 1 rfl .mv ?_
       refine .q 2 rfl (.it (zz:=leq_f (by omega))) ?_
       refine .q 3 rfl .mv ?_
       refine Ta.ps 4 (by kernel_rfl) rfl rfl rfl (by decide) rfl rfl ?_
       refine Ta.ps 5 (by kernel_rfl) rfl rfl rfl (by decide) rfl rfl ?_
       refine Ta.ps 6 (by kernel_rfl) rfl rfl rfl (by decide) rfl rfl ?_
       refine Ta.ps 7 (by kernel_rfl) rfl rfl rfl (by decide) rfl rfl ?_
       refine Ta.ps 8 (by kernel_rfl) rfl rfl rfl (by decide) rfl rfl ?_
       refine Ta.ps 9 (by kernel_rfl) rfl rfl rfl (by decide) rfl rfl ?_
       refine Ta.ps 10 (by kernel_rfl) rfl rfl rfl (by decide) rfl rfl ?_
       refine Ta.ps 11 (by kernel_rfl) rfl rfl rfl (by decide) rfl rfl ?_
       refine Ta.ps 12 (by kernel_rfl) rfl rfl rfl (by decide) rfl rfl ?_
       refine Ta.ps 13 (by kernel_rfl) rfl rfl rfl (by decide) rfl rfl ?_
       refine .q 14 rfl .pk ?_
       refine Ta.done (by kernel_rfl) ?_
       refine .ff rfl (.exit rfl ?_)
       exact Tc.db (fin [(0,.slice (some ⟨sb,0,none⟩) n cap),(1,.int .i64 (a:Nat)),(10,.int .i64 (i1:Nat)),(11,.int .i64 (s:Nat))] [(sb,true,.cells ⟨intsL u++jj⟩ 3 (0,0))] ⟨s,q1,q2,fun h=> absurd h c1,⟨rfl,rfl,rfl,rfl,trivial⟩,rfl⟩)
 · refine Tc.db (Tc.loopInv (σ:= { s:Nat//a+1≤s∧Pti a b s (b-1) u }) (fun s=> ([(0,.slice (some ⟨sb,0,none⟩) n cap),(1,.int .i64 (a:Nat)),(10,.int .i64 (s.1:Nat)),(11,.int .i64 (b-1:Nat))],[(sb,true,.cells ⟨intsL u++jj⟩ 3 (0,0))])) (fun s=> b-1+1-s.1) ?_ ⟨a+1,Nat.le_refl _,hst⟩)
   rintro⟨s,q1,q2⟩ ih
   have q3:=q2.ai
   have q4:=q2.ij
   have q5:=q2.jb
   show Tc M St _ _ _ _ [(0,.slice (some ⟨sb,0,none⟩) n cap),(1,.int .i64 (a:Nat)),(10,.int .i64 (s:Nat)),(11,.int .i64 (b-1:Nat))] [(sb,true,.cells ⟨intsL u++jj⟩ 3 (0,0))] _ _
   by_cases c1:s≤b-1
   · have k1:=cells_ld (m:=u) (j:=jj) (k:=(s:Nat)) (p:=s) rfl (by omega)
     have k2:=cells_ld (m:=u) (j:=jj) (k:=(a:Nat)) (p:=a) rfl (by omega)
     by_cases c2:at0 u s<at0 u a
     · refine .seq (.seq ?_)
       refine Tc.dr [] [] mixed rfl ?_
       refine .q 0 rfl .mv ?_
       refine .q 1 rfl .mv ?_
       refine .q 2 rfl (.it (zz:=leq_t (by omega))) ?_
       refine .q 3 rfl .mv ?_
       refine .q 4 rfl .mv ?_
       refine .q 5 rfl .mv ?_
       refine .q 6 rfl .ia ?_
       refine .q 7 rfl (.ld 0) ?_
       refine .q 8 rfl .mv ?_
       refine .q 9 rfl .mv ?_
       refine .q 10 rfl .ia ?_
       refine .q 11 rfl (.ld 0) ?_
       refine .z 12 rfl (OpV.takeCall rfl rfl rfl rfl (fun H hs=> .f ca182 rfl (CallT.is (.bool true) (by rewrite [decide_eq_true c2];rfl) (Less_c M H (at0 u s) (at0 u a))))) ?_
       refine .q 13 rfl .pk ?_
       refine Ta.done (by kernel_rfl) ?_
       refine .tt rfl (.skip (.block (.r ?_)))
       refine .m ?_
       refine .i ?_ (z:=add_in (by omega) (by omega))
       refine .g ?_
       refine .done (.inBlock ?_)
       exact Tc.db (ih ⟨s+1,by omega,q2.up c1 c2⟩ (by simp only;omega))
     · refine .seq (.seq ?_)
       refine Tc.dr [] [] mixed rfl ?_
       refine .q 0 rfl .mv ?_
       refine .q 1 rfl .mv ?_
       refine .q 2 rfl (.it (zz:=leq_t (by omega))) ?_
       refine .q 3 rfl .mv ?_
       refine .q 4 rfl .mv ?_
       refine .q 5 rfl .mv ?_
       refine .q 6 rfl .ia ?_
       refine .q 7 rfl (.ld 0) ?_
       refine .q 8 rfl .mv ?_
       refine .q 9 rfl .mv ?_
       refine .q 10 rfl .ia ?_
       refine .q 11 rfl (.ld 0) ?_
       refine .z 12 rfl (OpV.takeCall rfl rfl rfl rfl (fun H hs=> .f ca182 rfl (CallT.is (.bool false) (by rewrite [decide_eq_false c2];rfl) (Less_c M H (at0 u s) (at0 u a))))) ?_
       refine .q 13 rfl .pk ?_
       refine Ta.done (by kernel_rfl) ?_
       refine .ff rfl (.exit rfl ?_)
       exact Tc.db (fin [(0,.slice (some ⟨sb,0,none⟩) n cap),(1,.int .i64 (a:Nat)),(10,.int .i64 (s:Nat)),(11,.int .i64 (b-1:Nat))] [(sb,true,.cells ⟨intsL u++jj⟩ 3 (0,0))] ⟨s,q1,q2,fun _=> c2,⟨rfl,rfl,rfl,rfl,trivial⟩,rfl⟩)
   · refine .seq (.seq ?_)
     refine Tc.dr [] [] mixed rfl ?_
     refine .q 0 rfl .mv ?_
     refine .q 1 rfl .mv ?_
     refine .q 2 rfl (.it (zz:=leq_f (by omega))) ?_
     refine .q 3 rfl .mv ?_
     refine Ta.ps 4 (by kernel_rfl) rfl rfl rfl (by decide) rfl rfl ?_
     refine Ta.ps 5 (by kernel_rfl) rfl rfl rfl (by decide) rfl rfl ?_
     refine Ta.ps 6 (by kernel_rfl) rfl rfl rfl (by decide) rfl rfl ?_
     refine Ta.ps 7 (by kernel_rfl) rfl rfl rfl (by decide) rfl rfl ?_
     refine Ta.ps 8 (by kernel_rfl) rfl rfl rfl (by decide) rfl rfl ?_
     refine Ta.ps 9 (by kernel_rfl) rfl rfl rfl (by decide) rfl rfl ?_
     refine Ta.ps 10 (by kernel_rfl) rfl rfl rfl (by decide) rfl rfl ?_
     refine Ta.ps 11 (by kernel_rfl) rfl rfl rfl (by decide) rfl rfl ?_
     refine Ta.ps 12 (by kernel_rfl) rfl rfl rfl (by decide) rfl rfl ?_
     refine .q 13 rfl .pk ?_
     refine Ta.done (by kernel_rfl) ?_
     refine .ff rfl (.exit rfl ?_)
     exact Tc.db (fin [(0,.slice (some ⟨sb,0,none⟩) n cap),(1,.int .i64 (a:Nat)),(10,.int .i64 (s:Nat)),(11,.int .i64 (b-1:Nat))] [(sb,true,.cells ⟨intsL u++jj⟩ 3 (0,0))] ⟨s,q1,q2,fun h=> absurd h c1,⟨rfl,rfl,rfl,rfl,trivial⟩,rfl⟩)
end
end Go.Proofs.YtpdaenfglbgfkaaGreatDoor
end
section
namespace Go.Proofs.YtpdaenfglbgfkaaGreatDoor
open Go.RL
set_option maxRecDepth 10000
set_option maxHeartbeats 8000000
theorem adj_srt {a b:Nat}{l:List Int}(h:∀k,a<k→k<b→at0 l (k-1)≤at0 l k):Srt a b l:=fun p q h1 h2 h3=> by
 induction q using Nat.strongRecOn with
 | ind q ih=>
   by_cases e:p=q-1
   · rw[e];exact h q (by omega) h3
   · exact Int.le_trans (ih (q-1) (by omega) (by omega) (by omega)) (h q (by omega) h3)
section
variable(M:Md Tryz.prog)(H:View)
theorem partial_c(sb:Nat)(f:Bool)(l:List Int)(jj:List Value)(n cap a b:Nat)(hn:n=l.length)(hb:b≤n)(h1000:n≤1000)(hab:a<b)(h50:b<a+50)(hS:H sb=some (f,.cells ⟨intsL l++jj⟩ 3 (0,0))):
   CallT M 181 #[.slice (some ⟨sb,0,none⟩) n cap,.int .i64 (a:Nat),.int .i64 (b:Nat)] H (fun v H'=> H.le H'∧∃t:Bool,v=.bool t∧(t=true→Srt a b l)∧∀y∈([]:Bl),H' y.1=some y.2∧H y.1=none):=by
 refine CallT.enter (vs:= [.slice (some ⟨sb,0,none⟩) n cap,.int .i64 (a:Nat),.int .i64 (b:Nat)]) Tryz.func181 rfl Tryz.ntmps181 (Nat.le_of_ble_eq_true rfl) (SymSt.nil _) fun St c cs hK=> ?_
 refine .sr ?_
 refine .g ?_
 refine .done (.sr ?_)
 refine .m ?_
 refine .i ?_ (z:=add_in (by omega) (by omega))
 refine .g ?_
 refine .done (.seq (.sr ?_))
 refine .g ?_
 refine .done (.block (.loop (.seq (.sr ?_))))
 refine .m ?_
 refine .i ?_ (z:=lss_t (by omega))
 refine .done (.tt rfl (.skip (.seq (.block (.seq (.block ?_))))))
 refine Tc.db (Tc.loopInv (σ:= { i:Nat//a+1≤i∧i≤b∧∀k,a<k→k<i→at0 l (k-1)≤at0 l k }) (fun i=> ([(0,.slice (some ⟨sb,0,none⟩) n cap),(1,.int .i64 (a:Nat)),(2,.int .i64 (b:Nat)),(7,.int .i64 (i.1:Nat)),(8,.int .i64 0)],[])) (fun i=> b-i.1) ?_ ⟨a+1,Nat.le_refl _,by omega,fun k h1 h2=> by omega⟩)
 rintro⟨i,g1,g2,g3⟩ ih
 show Tc M St _ _ _ _ [(0,.slice (some ⟨sb,0,none⟩) n cap),(1,.int .i64 (a:Nat)),(2,.int .i64 (b:Nat)),(7,.int .i64 (i:Nat)),(8,.int .i64 0)] [] _ _
 by_cases c1:i<b
 · have e1:((i:Nat):Int)-1=((i-1:Nat):Int):=by omega
   have k1:=cells_ld (m:=l) (j:=jj) (k:=(i:Nat)) (p:=i) rfl (by omega)
   have k2:=cells_ld (m:=l) (j:=jj) (k:=(i:Nat)-1) (p:=i-1) e1 (by omega)
   by_cases c2:at0 l i<at0 l (i-1)
   · refine .seq (.seq ?_)
     refine Tc.dr [] [] mixed rfl ?_
     refine .q 0 rfl .mv ?_
     refine .q 1 rfl .mv ?_
     refine .q 2 rfl (.it (zz:=lss_t (by omega))) ?_
     refine .q 3 rfl .mv ?_
     refine .q 4 rfl .mv ?_
     refine .q 5 rfl .mv ?_
     refine .q 6 rfl .ia ?_
     refine .q 7 rfl .l0 ?_
     refine .q 8 rfl .mv ?_
     refine .q 9 rfl .mv ?_
     refine .q 10 rfl (.it (zz:=sub_in (by omega) (by omega))) ?_
     refine .q 11 rfl .ia ?_
     refine .q 12 rfl .l0 ?_
     refine .z 13 rfl (OpV.takeCall rfl rfl rfl rfl (fun H hs=> .f ca182 rfl (CallT.is (.bool true) (by rewrite [decide_eq_true c2];rfl) (Less_c M H (at0 l i) (at0 l (i-1)))))) ?_
     refine .q 14 rfl .nt ?_
     refine .q 15 rfl .pk ?_
     refine Ta.done (by kernel_rfl) ?_
     refine .ff rfl (.exit rfl (.seq (.sr ?_)))
     refine .m ?_
     refine .m ?_
     refine .i ?_ (z:=eql_f (by omega))
     refine .done (.ff rfl (.skip (.seq (.sr ?_))))
     refine .m ?_
     refine .m ?_
     refine .i ?_ (z:=sub_in (by omega) (by omega))
     refine .i ?_ (z:=lss_t (by omega))
     refine .done (.tt rfl (.sr ?_))
     refine .g ?_
     refine .done ?_
     refine .rt hK Tryz.func181 Tryz.results181 [_] ?_
     exact fun H' hs=> ⟨hs.base,false,rfl,fun h=> (Bool.false_ne_true h).elim,by simp⟩
   · refine .seq (.seq ?_)
     refine Tc.dr [] [] mixed rfl ?_
     refine .q 0 rfl .mv ?_
     refine .q 1 rfl .mv ?_
     refine .q 2 rfl (.it (zz:=lss_t (by omega))) ?_
     refine .q 3 rfl .mv ?_
     refine .q 4 rfl .mv ?_
     refine .q 5 rfl .mv ?_
     refine .q 6 rfl .ia ?_
     refine .q 7 rfl .l0 ?_
     refine .q 8 rfl .mv ?_
     refine .q 9 rfl .mv ?_
     refine .q 10 rfl (.it (zz:=sub_in (by omega) (by omega))) ?_
     refine .q 11 rfl .ia ?_
     refine .q 12 rfl .l0 ?_
     refine .z 13 rfl (OpV.takeCall rfl rfl rfl rfl (fun H hs=> .f ca182 rfl (CallT.is (.bool false) (by rewrite [decide_eq_false c2];rfl) (Less_c M H (at0 l i) (at0 l (i-1)))))) ?_
     refine .q 14 rfl .nt ?_
     refine .q 15 rfl .pk ?_
     refine Ta.done (by kernel_rfl) ?_
     refine .tt rfl (.skip (.block (.r ?_)))
     refine .m ?_
     refine .i ?_ (z:=add_in (by omega) (by omega))
     refine .g ?_
     refine .done (.inBlock ?_)
     exact Tc.db (ih ⟨i+1,by omega,by omega,fun k h1 h2=> by
       by_cases e:k=i
       · rw[e];omega
       · exact g3 k h1 (by omega)⟩ (by simp only;omega))
 · refine .seq (.seq ?_)
   refine Tc.dr [] [] mixed rfl ?_
   refine .q 0 rfl .mv ?_
   refine .q 1 rfl .mv ?_
   refine .q 2 rfl (.it (zz:=lss_f (by omega))) ?_
   refine .q 3 rfl .mv ?_
   refine Ta.ps 4 (by kernel_rfl) rfl rfl rfl (by decide) rfl rfl ?_
   refine Ta.ps 5 (by kernel_rfl) rfl rfl rfl (by decide) rfl rfl ?_
   refine Ta.ps 6 (by kernel_rfl) rfl rfl rfl (by decide) rfl rfl ?_
   refine Ta.ps 7 (by kernel_rfl) rfl rfl rfl (by decide) rfl rfl ?_
   refine Ta.ps 8 (by kernel_rfl) rfl rfl rfl (by decide) rfl rfl ?_
   refine Ta.ps 9 (by kernel_rfl) rfl rfl rfl (by decide) rfl rfl ?_
   refine Ta.ps 10 (by kernel_rfl) rfl rfl rfl (by decide) rfl rfl ?_
   refine Ta.ps 11 (by kernel_rfl) rfl rfl rfl (by decide) rfl rfl ?_
   refine Ta.ps 12 (by kernel_rfl) rfl rfl rfl (by decide) rfl rfl ?_
   refine Ta.ps 13 (by kernel_rfl) rfl rfl rfl (by decide) rfl rfl ?_
   refine Ta.ps 14 (by kernel_rfl) rfl rfl rfl (by decide) rfl rfl ?_
   refine .q 15 rfl .pk ?_
   refine Ta.done (by kernel_rfl) ?_
   refine .ff rfl (.exit rfl (.seq (.sr ?_)))
   refine .m ?_
   refine .m ?_
   refine .i ?_ (z:=eql_t (by omega))
   refine .done (.tt rfl (.sr ?_))
   refine .g ?_
   refine .done ?_
   refine .rt hK Tryz.func181 Tryz.results181 [_] ?_
   exact fun H' hs=> ⟨hs.base,true,rfl,fun _=> adj_srt fun k h1 h2=> g3 k h1 (by omega),by simp⟩
end
end Go.Proofs.YtpdaenfglbgfkaaGreatDoor
end
