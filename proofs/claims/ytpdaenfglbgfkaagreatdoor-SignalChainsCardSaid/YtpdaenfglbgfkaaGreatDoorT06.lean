/-
  Texts of the proofs over baudot/signal: G1 G2 E2 Less C1 C2 C3 C4 C5 C6 C6b F1 F2 C7 C8 C9.
-/
import Derived.Test.YtpdaenfglbgfkaaGreatDoorT05
section
namespace Go.Proofs.YtpdaenfglbgfkaaGreatDoor
open Go.RL
set_option maxRecDepth 10000
set_option maxHeartbeats 4000000
def Nums(H:View)(A:Option Addr)(l:List Int):Prop:=
 l= []∨∃ab ao f gs gt gz,A=some ⟨ab,ao,none⟩∧H ab=some (f,.cells ⟨gs⟩ gt gz)∧∀j:Nat,j<l.length→ldL false 1 gs (ao+(j:Int).toNat*1)=some (.int .i64 (l[j]?.getD 0))
theorem Nums.le {H H':View}{A:Option Addr}{l:List Int}(h:Nums H A l)(k:H.le H'):Nums H' A l:=by
 rcases h with h|⟨ab,ao,f,gs,gt,gz,h1,h2,h3⟩
 · exact .inl h
 · exact .inr ⟨ab,ao,f,gs,gt,gz,h1,k _ _ h2,h3⟩
theorem Nums.of {H:View}{g:Gl 3 1}{l:List Int}(hl:g.l=intsL l)(h:∀y∈g.bl,H y.1=some y.2):g.n=l.length∧Nums H (g.blk.map fun b=> ⟨b,0,none⟩) l:=by
 have hn:g.n=l.length:=by
   have:=g.hl
   rw[hl,intsL_len] at this
   omega
 refine⟨hn,?_⟩
 obtain⟨_|b,n,cap,gl,gj,h1,h2,h3,h4⟩:=g
 · have:=h4 rfl
   simp only at hn h2
   refine .inl (List.eq_nil_of_length_eq_zero (by omega))
 · refine .inr ⟨b,0,true,gl++gj,3,(0,0),rfl,h (b,true,.cells ⟨gl++gj⟩ 3 (0,0)) (by simp[Gl.bl]),fun j hj=> ?_⟩
   simp only at hl
   subst hl
   show(intsL l++gj)[0+(j:Int).toNat*1]? =_
   rw[Nat.zero_add,Nat.mul_one,Int.toNat_natCast,List.getElem?_append_left (by rw[intsL_len];exact hj)]
   unfold intsL
   rw[List.getElem?_map,List.getElem?_eq_getElem hj]
   rfl
def keepI(p:Nat→Bool)(k:Nat):List Int:=((List.range k).filter p).map fun i:Nat=> (i:Int)
theorem keepI_eq(p:Nat→Bool)(k:Nat):keepTo p k=intsL (keepI p k):=by
 unfold keepTo keepI intsL
 rw[List.map_map]
 rfl
section
variable(M:Md Tryz.prog)(H:View)
theorem to_c(a b:Int):CallT M 40 #[.int .i64 a,.int .i64 b] H (fun v H'=> H.le H'∧v=bandV a b):=by
 refine CallT.enter (vs:= [.int .i64 a,.int .i64 b]) Tryz.func40 rfl Tryz.ntmps40 (Nat.le_of_ble_eq_true rfl) (SymSt.nil _) fun St c cs hK=> ?_
 refine .sr ?_
 refine .e (.al (zz:=fun b4=> ?_))
 refine .done (.sr ?_)
 refine .m ?_
 refine .m ?_
 refine .x .bu ?_
 refine .e (.st 0 (zz:=?_))
 refine .done ?_
 refine Tc.retN (E:=en) hK Tryz.func40 Tryz.results40 (vs:= [_]) (by refine⟨⟨0,_,_,_,_,_,_,_,rfl,rfl,rfl,rfl⟩,?_⟩;exact trivial) ?_
 exact fun H' hs=> ⟨hs.base,rfl⟩
theorem In_c(x a b:Int):CallT M 59 #[.int .i64 x,.int .i64 a,.int .i64 b] H (fun v H'=> H.le H'∧v=.bool (decide (a≤x∧x≤b))):=by
 refine CallT.enter (vs:= [.int .i64 x,.int .i64 a,.int .i64 b]) Tryz.func59 rfl Tryz.ntmps59 (Nat.le_of_ble_eq_true rfl) (SymSt.nil _) fun St c cs hK=> ?_
 by_cases c1:a≤x
 all_goals by_cases c2:x≤b
 all_goals (
   refine .sr ?_
   refine .g ?_
   refine .done (.sr ?_)
   refine .m ?_
   refine .m ?_
   refine .i ?_ (z:=by first|exact geq_t (by omega)|exact geq_f (by omega))
   refine .m ?_
   first|(refine .sk ?_)|(refine .m ?_)
   first|(refine .sk ?_)|(refine .m ?_)
   first|(refine .sk ?_)|(refine .x (.it (zz:=(by first|exact leq_t (by omega)|exact leq_f (by omega)))) ?_)
   refine .x .pk ?_
   refine .g ?_
   refine .done ?_
   refine .rt hK Tryz.func59 Tryz.results59 [_] ?_
   exact fun H' hs=> ⟨hs.base,by simp[c1,c2];rfl⟩)
theorem Inside_c(a b low high:Int):CallT M 81 #[bandV a b,.int .i64 low,.int .i64 high] H (fun v H'=> H.le H'∧v=.bool (decide (a≤b∧low≤a∧b≤high))):=by
 refine CallT.enter (vs:= [bandV a b,.int .i64 low,.int .i64 high]) Tryz.func81 rfl Tryz.ntmps81 (Nat.le_of_ble_eq_true rfl) (SymSt.nil _) fun St c cs hK=> ?_
 by_cases c1:a≤b
 all_goals by_cases c2:low≤a
 all_goals by_cases c3:b≤high
 all_goals (
   refine .sr ?_
   refine .e (.bx (zz:=fun b3=> ?_))
   refine .g ?_
   refine .done (.sr ?_)
   refine .x .fa ?_
   refine .x (.ld 0) ?_
   refine .x .fa ?_
   refine .x (.ld 0) ?_
   refine .i ?_ (z:=by first|exact leq_t (by omega)|exact leq_f (by omega))
   refine .m ?_
   first|(refine .sk ?_)|(refine .x .fa ?_)
   first|(refine .sk ?_)|((refine .x (.ld 0) ?_))
   first|(refine .sk ?_)|(refine .m ?_)
   first|(refine .sk ?_)|(refine .x (.it (zz:=(by first|exact geq_t (by omega)|exact geq_f (by omega)))) ?_)
   refine .x .pk ?_
   refine .m ?_
   first|(refine .sk ?_)|(refine .x .fa ?_)
   first|(refine .sk ?_)|((refine .x (.ld 0) ?_))
   first|(refine .sk ?_)|(refine .m ?_)
   first|(refine .sk ?_)|(refine .x (.it (zz:=(by first|exact leq_t (by omega)|exact leq_f (by omega)))) ?_)
   refine .x .pk ?_
   refine .g ?_
   refine .done ?_
   refine .rt hK Tryz.func81 Tryz.results81 [_] ?_
   exact fun H' hs=> ⟨hs.base,by simp[c1,c2,c3];rfl⟩)
theorem refPaces_c(a b:Int):CallT M 123 #[bandV a b] H (fun v H'=> H.le H'∧v=.bool (paceOk a b)):=by
 refine CallT.enter (vs:= [bandV a b]) Tryz.func123 rfl Tryz.ntmps123 (Nat.le_of_ble_eq_true rfl) (SymSt.nil _) fun St c cs hK=> ?_
 by_cases c1:a≤b∧1≤a∧b≤40
 · by_cases c2:b-a<3
   · have e:paceOk a b=true:=decide_eq_true (by omega)
     refine .sr ?_
     refine .e (.bx (zz:=fun b1=> ?_))
     refine .g ?_
     refine .done (.sr ?_)
     refine .x (.ld 0) ?_
     refine .c rfl rfl rfl rfl (fun H hs=> .f ca81 rfl (CallT.is (.bool true) (by rewrite [decide_eq_true c1];rfl) (Inside_c M H a b 1 40))) ?_
     refine .m ?_
     refine .x .fa ?_
     refine .x (.ld 0) ?_
     refine .x .fa ?_
     refine .x (.ld 0) ?_
     refine .i ?_ (z:=sub_in (by omega) (by omega))
     refine .i ?_ (z:=lss_t (by omega))
     refine .x .pk ?_
     refine .g ?_
     refine .done ?_
     refine .rt hK Tryz.func123 Tryz.results123 [_] ?_
     exact fun H' hs=> ⟨hs.base,by rw[e];rfl⟩
   · have e:paceOk a b=false:=decide_eq_false (by omega)
     refine .sr ?_
     refine .e (.bx (zz:=fun b1=> ?_))
     refine .g ?_
     refine .done (.sr ?_)
     refine .x (.ld 0) ?_
     refine .c rfl rfl rfl rfl (fun H hs=> .f ca81 rfl (CallT.is (.bool true) (by rewrite [decide_eq_true c1];rfl) (Inside_c M H a b 1 40))) ?_
     refine .m ?_
     refine .x .fa ?_
     refine .x (.ld 0) ?_
     refine .x .fa ?_
     refine .x (.ld 0) ?_
     refine .i ?_ (z:=sub_in (by omega) (by omega))
     refine .i ?_ (z:=lss_f (by omega))
     refine .x .pk ?_
     refine .g ?_
     refine .done ?_
     refine .rt hK Tryz.func123 Tryz.results123 [_] ?_
     exact fun H' hs=> ⟨hs.base,by rw[e];rfl⟩
 · have e:paceOk a b=false:=decide_eq_false (by omega)
   refine .sr ?_
   refine .e (.bx (zz:=fun b1=> ?_))
   refine .g ?_
   refine .done (.sr ?_)
   refine .x (.ld 0) ?_
   refine .c rfl rfl rfl rfl (fun H hs=> .f ca81 rfl (CallT.is (.bool false) (by rewrite [decide_eq_false c1];rfl) (Inside_c M H a b 1 40))) ?_
   refine .m ?_
   refine .sk ?_
   refine .sk ?_
   refine .sk ?_
   refine .sk ?_
   refine .sk ?_
   refine .sk ?_
   refine .x .pk ?_
   refine .g ?_
   refine .done ?_
   refine .rt hK Tryz.func123 Tryz.results123 [_] ?_
   exact fun H' hs=> ⟨hs.base,by rw[e];rfl⟩
theorem refLine_c(a b x y:Int):CallT M 82 #[.agg ⟨[.int .i64 a,.int .i64 b,.int .i64 x,.int .i64 y]⟩] H (fun v H'=> H.le H'∧v=.int .i64 (if leanOk a b&&moveOk x y then 0 else 1)):=by
 refine CallT.enter (vs:= [.agg ⟨[.int .i64 a,.int .i64 b,.int .i64 x,.int .i64 y]⟩]) Tryz.func82 rfl Tryz.ntmps82 (Nat.le_of_ble_eq_true rfl) (SymSt.nil _) fun St c cs hK=> ?_
 by_cases c1:a≤b∧ -9≤a∧b≤9
 · by_cases c2:b-a≥3
   · have e:(leanOk a b&&moveOk x y)=false:=by unfold leanOk;rw[decide_eq_false (by omega)];rfl
     refine .sr ?_
     refine .e (.bx (zz:=fun b1=> ?_))
     refine .g ?_
     refine .done (.seq (.sr ?_))
     refine .x .fa ?_
     refine .x (.ld 0) ?_
     refine .c rfl rfl rfl rfl (fun H hs=> .f ca81 rfl (CallT.is (.bool true) (by rewrite [decide_eq_true c1];rfl) (Inside_c M H a b (-9) 9))) ?_
     refine .x .nt ?_
     refine .m ?_
     refine .x .fa ?_
     refine .x .fa ?_
     refine .x (.ld 0) ?_
     refine .x .fa ?_
     refine .x .fa ?_
     refine .x (.ld 0) ?_
     refine .i ?_ (z:=sub_in (by omega) (by omega))
     refine .i ?_ (z:=geq_t (by omega))
     refine .x .pk ?_
     refine .m ?_
     refine .sk ?_
     refine .sk ?_
     refine .sk ?_
     refine .sk ?_
     refine .x .pk ?_
     refine .done (.tt rfl (.sr ?_))
     refine .g ?_
     refine .done ?_
     refine .rt hK Tryz.func82 Tryz.results82 [_] ?_
     exact fun H' hs=> ⟨hs.base,by rw[e];rfl⟩
   · by_cases c3:x≤y∧ -12≤x∧y≤12
     · have e:(leanOk a b&&moveOk x y)=true:=by unfold leanOk moveOk;rw[decide_eq_true (by omega),decide_eq_true (by omega)];rfl
       refine .sr ?_
       refine .e (.bx (zz:=fun b1=> ?_))
       refine .g ?_
       refine .done (.seq (.sr ?_))
       refine .x .fa ?_
       refine .x (.ld 0) ?_
       refine .c rfl rfl rfl rfl (fun H hs=> .f ca81 rfl (CallT.is (.bool true) (by rewrite [decide_eq_true c1];rfl) (Inside_c M H a b (-9) 9))) ?_
       refine .x .nt ?_
       refine .m ?_
       refine .x .fa ?_
       refine .x .fa ?_
       refine .x (.ld 0) ?_
       refine .x .fa ?_
       refine .x .fa ?_
       refine .x (.ld 0) ?_
       refine .i ?_ (z:=sub_in (by omega) (by omega))
       refine .i ?_ (z:=geq_f (by omega))
       refine .x .pk ?_
       refine .m ?_
       refine .x .fa ?_
       refine .x (.ld 0) ?_
       refine .c rfl rfl rfl rfl (fun H hs=> .f ca81 rfl (CallT.is (.bool true) (by rewrite [decide_eq_true c3];rfl) (Inside_c M H x y (-12) 12))) ?_
       refine .x .nt ?_
       refine .x .pk ?_
       refine .done (.ff rfl (.skip (.sr ?_)))
       refine .g ?_
       refine .done ?_
       refine .rt hK Tryz.func82 Tryz.results82 [_] ?_
       exact fun H' hs=> ⟨hs.base,by rw[e];rfl⟩
     · have e:(leanOk a b&&moveOk x y)=false:=by unfold moveOk;rw[decide_eq_false (p:= -12≤x∧x≤y∧y≤12∧y-x<25) (by omega)];simp
       refine .sr ?_
       refine .e (.bx (zz:=fun b1=> ?_))
       refine .g ?_
       refine .done (.seq (.sr ?_))
       refine .x .fa ?_
       refine .x (.ld 0) ?_
       refine .c rfl rfl rfl rfl (fun H hs=> .f ca81 rfl (CallT.is (.bool true) (by rewrite [decide_eq_true c1];rfl) (Inside_c M H a b (-9) 9))) ?_
       refine .x .nt ?_
       refine .m ?_
       refine .x .fa ?_
       refine .x .fa ?_
       refine .x (.ld 0) ?_
       refine .x .fa ?_
       refine .x .fa ?_
       refine .x (.ld 0) ?_
       refine .i ?_ (z:=sub_in (by omega) (by omega))
       refine .i ?_ (z:=geq_f (by omega))
       refine .x .pk ?_
       refine .m ?_
       refine .x .fa ?_
       refine .x (.ld 0) ?_
       refine .c rfl rfl rfl rfl (fun H hs=> .f ca81 rfl (CallT.is (.bool false) (by rewrite [decide_eq_false c3];rfl) (Inside_c M H x y (-12) 12))) ?_
       refine .x .nt ?_
       refine .x .pk ?_
       refine .done (.tt rfl (.sr ?_))
       refine .g ?_
       refine .done ?_
       refine .rt hK Tryz.func82 Tryz.results82 [_] ?_
       exact fun H' hs=> ⟨hs.base,by rw[e];rfl⟩
 · have e:(leanOk a b&&moveOk x y)=false:=by unfold leanOk;rw[decide_eq_false (by omega)];rfl
   refine .sr ?_
   refine .e (.bx (zz:=fun b1=> ?_))
   refine .g ?_
   refine .done (.seq (.sr ?_))
   refine .x .fa ?_
   refine .x (.ld 0) ?_
   refine .c rfl rfl rfl rfl (fun H hs=> .f ca81 rfl (CallT.is (.bool false) (by rewrite [decide_eq_false c1];rfl) (Inside_c M H a b (-9) 9))) ?_
   refine .x .nt ?_
   refine .m ?_
   refine .sk ?_
   refine .sk ?_
   refine .sk ?_
   refine .sk ?_
   refine .sk ?_
   refine .sk ?_
   refine .sk ?_
   refine .sk ?_
   refine .x .pk ?_
   refine .m ?_
   refine .sk ?_
   refine .sk ?_
   refine .sk ?_
   refine .sk ?_
   refine .x .pk ?_
   refine .done (.tt rfl (.sr ?_))
   refine .g ?_
   refine .done ?_
   refine .rt hK Tryz.func82 Tryz.results82 [_] ?_
   exact fun H' hs=> ⟨hs.base,by rw[e];rfl⟩
theorem Lk.ok_eq(k:Lk):k.ok=(k.sends&&k.reads&&(k.leans&&k.moves)):=by
 simp[Lk.ok,allTo,Lk.chk,Bool.and_assoc]
theorem refLink_c(k:Lk):CallT M 61 #[k.val] H (fun v H'=> H.le H'∧v=.int .i64 (if k.ok then 0 else 1)):=by
 refine CallT.enter (vs:= [k.val]) Tryz.func61 rfl Tryz.ntmps61 (Nat.le_of_ble_eq_true rfl) (SymSt.nil _) fun St c cs hK=> ?_
 cases h1:k.sends with
 | false=>
   have e:k.ok=false:=by rw[Lk.ok_eq,h1];rfl
   refine .sr ?_
   refine .e (.bx (zz:=fun b1=> ?_))
   refine .g ?_
   refine .done (.seq (.sr ?_))
   refine .x .fa ?_
   refine .x (.ld 0) ?_
   refine .c rfl rfl rfl rfl (fun H hs=> .f ca123 rfl (CallT.mono (refPaces_c M H k.s0 k.s1) (Q':=fun v H'=> H.le H'∧v=.bool false) (by rintro v H' ⟨h2,h3⟩;exact⟨h2,h3.trans (congrArg Value.bool h1)⟩))) ?_
   refine .x .nt ?_
   refine .m ?_
   refine .sk ?_
   refine .sk ?_
   refine .sk ?_
   refine .sk ?_
   refine .x .pk ?_
   refine .done (.tt rfl (.sr ?_))
   refine .g ?_
   refine .done ?_
   refine .rt hK Tryz.func61 Tryz.results61 [_] ?_
   exact fun H' hs=> ⟨hs.base,by rw[e];rfl⟩
 | true=>
   cases h2:k.reads with
   | false=>
     have e:k.ok=false:=by rw[Lk.ok_eq,h1,h2];rfl
     refine .sr ?_
     refine .e (.bx (zz:=fun b1=> ?_))
     refine .g ?_
     refine .done (.seq (.sr ?_))
     refine .x .fa ?_
     refine .x (.ld 0) ?_
     refine .c rfl rfl rfl rfl (fun H hs=> .f ca123 rfl (CallT.mono (refPaces_c M H k.s0 k.s1) (Q':=fun v H'=> H.le H'∧v=.bool true) (by rintro v H' ⟨h2,h3⟩;exact⟨h2,h3.trans (congrArg Value.bool h1)⟩))) ?_
     refine .x .nt ?_
     refine .m ?_
     refine .x .fa ?_
     refine .x (.ld 0) ?_
     refine .c rfl rfl rfl rfl (fun H hs=> .f ca123 rfl (CallT.mono (refPaces_c M H k.r0 k.r1) (Q':=fun v H'=> H.le H'∧v=.bool false) (by rintro v H' ⟨h4,h3⟩;exact⟨h4,h3.trans (congrArg Value.bool h2)⟩))) ?_
     refine .x .nt ?_
     refine .x .pk ?_
     refine .done (.tt rfl (.sr ?_))
     refine .g ?_
     refine .done ?_
     refine .rt hK Tryz.func61 Tryz.results61 [_] ?_
     exact fun H' hs=> ⟨hs.base,by rw[e];rfl⟩
   | true=>
     have e:k.ok=(leanOk k.l0 k.l1&&moveOk k.m0 k.m1):=by rw[Lk.ok_eq,h1,h2];rfl
     refine .sr ?_
     refine .e (.bx (zz:=fun b1=> ?_))
     refine .g ?_
     refine .done (.seq (.sr ?_))
     refine .x .fa ?_
     refine .x (.ld 0) ?_
     refine .c rfl rfl rfl rfl (fun H hs=> .f ca123 rfl (CallT.mono (refPaces_c M H k.s0 k.s1) (Q':=fun v H'=> H.le H'∧v=.bool true) (by rintro v H' ⟨h2,h3⟩;exact⟨h2,h3.trans (congrArg Value.bool h1)⟩))) ?_
     refine .x .nt ?_
     refine .m ?_
     refine .x .fa ?_
     refine .x (.ld 0) ?_
     refine .c rfl rfl rfl rfl (fun H hs=> .f ca123 rfl (CallT.mono (refPaces_c M H k.r0 k.r1) (Q':=fun v H'=> H.le H'∧v=.bool true) (by rintro v H' ⟨h4,h3⟩;exact⟨h4,h3.trans (congrArg Value.bool h2)⟩))) ?_
     refine .x .nt ?_
     refine .x .pk ?_
     refine .done (.ff rfl (.skip (.sr ?_)))
     refine .x .fa ?_
     refine .x (.ld 0) ?_
     refine .c rfl rfl rfl rfl (fun H hs=> .f ca82 rfl (refLine_c M H k.l0 k.l1 k.m0 k.m1)) ?_
     refine .g ?_
     refine .done ?_
     refine .rt hK Tryz.func61 Tryz.results61 [_] ?_
     exact fun H' hs=> ⟨hs.base,by rw[e];rfl⟩
end
end Go.Proofs.YtpdaenfglbgfkaaGreatDoor
end
section
namespace Go.Proofs.YtpdaenfglbgfkaaGreatDoor
open Go.RL
set_option maxRecDepth 10000
set_option maxHeartbeats 4000000
section
variable(M:Md Tryz.prog)(H:View)
theorem Lesser_same(A B:Option Addr)(l:List Int)(n ca cb:Nat)(hn:n=l.length)(h6:n≤1000)(hA:Nums H A l)(hB:Nums H B l):CallT M 57 #[.slice A n ca,.slice B n cb] H (fun v H'=> H.le H'∧v=.bool false):=by
 refine CallT.enter (vs:= [.slice A n ca,.slice B n cb]) Tryz.func57 rfl Tryz.ntmps57 (Nat.le_of_ble_eq_true rfl) (SymSt.nil _) fun St c cs hK=> ?_
 refine .sr ?_
 refine .g ?_
 refine .done (.seq (.sr ?_))
 refine .g ?_
 refine .done (.block ?_)
 refine Tc.db (Tc.loopInv (σ:= { j:Nat//j≤n }) (fun j=> ([(0,.slice A n ca),(1,.slice B n cb),(4,.bool false),(5,.int .i64 (j.1:Nat))],[])) (fun j=> n-j.1) ?_ ⟨0,by omega⟩)
 rintro⟨j,hj⟩ ih
 show Tc M St _ _ _ _ [(0,.slice A n ca),(1,.slice B n cb),(4,.bool false),(5,.int .i64 (j:Nat))] [] _ _
 by_cases c1:j=n
 · subst c1
   refine .seq (.sr ?_)
   refine .m ?_
   refine .m ?_
   refine .x .ln ?_
   refine .i ?_ (z:=lss_f (by omega))
   refine .m ?_
   refine .sk ?_
   refine .sk ?_
   refine .sk ?_
   refine .sk ?_
   refine .x .pk ?_
   refine .done (.ff rfl (.exit rfl (.sr ?_)))
   refine .m ?_
   refine .x .ln ?_
   refine .m ?_
   refine .x .ln ?_
   refine .i ?_ (z:=lss_f (by omega))
   refine .g ?_
   refine .done ?_
   refine .rt hK Tryz.func57 Tryz.results57 [_] ?_
   exact fun H' hs=> ⟨hs.base,rfl⟩
 · have c2:j<n:=by omega
   rcases hA with hA|⟨a1,a2,a3,a4,a5,a6,rfl,a7,a8⟩
   · rw[hA] at hn;simp at hn;omega
   rcases hB with hB|⟨b1,b2,b3,b4,b5,b6,rfl,b7,b8⟩
   · rw[hB] at hn;simp at hn;omega
   have f1:=a8 j (by omega)
   have f2:=b8 j (by omega)
   refine .seq (.sr ?_)
   refine .m ?_
   refine .m ?_
   refine .x .ln ?_
   refine .i ?_ (z:=lss_t (by omega))
   refine .m ?_
   refine .m ?_
   refine .m ?_
   refine .x .ln ?_
   refine .i ?_ (z:=lss_t (by omega))
   refine .x .pk ?_
   refine .done (.tt rfl (.skip (.seq (.block (.seq ?_)))))
   refine Tc.dr [] [] mixed rfl ?_
   refine .q 0 rfl .mv ?_
   refine .q 1 rfl .mv ?_
   refine .q 2 rfl .ia ?_
   refine .q 3 rfl .l0 ?_
   refine .q 4 rfl .mv ?_
   refine .q 5 rfl .mv ?_
   refine .q 6 rfl .ia ?_
   refine .q 7 rfl .l0 ?_
   refine .q 8 rfl (.it (zz:=neq_f (by omega))) ?_
   refine Ta.done (by kernel_rfl) ?_
   refine .ff rfl (.skip (.inBlock (.r ?_)))
   refine .m ?_
   refine .i ?_ (z:=add_in (by omega) (by omega))
   refine .g ?_
   refine .done ?_
   exact Tc.db (ih ⟨j+1,by omega⟩ (by simp only;omega))
theorem SameNums_same(A B:Option Addr)(l:List Int)(n ca cb:Nat)(hn:n=l.length)(h6:n≤1000)(hA:Nums H A l)(hB:Nums H B l):CallT M 23 #[.slice A n ca,.slice B n cb] H (fun v H'=> H.le H'∧v=.bool true):=by
 refine CallT.enter (vs:= [.slice A n ca,.slice B n cb]) Tryz.func23 rfl Tryz.ntmps23 (Nat.le_of_ble_eq_true rfl) (SymSt.nil _) fun St c cs hK=> ?_
 refine .sr ?_
 refine .g ?_
 refine .done (.sr ?_)
 refine .m ?_
 refine .m ?_
 refine .c rfl rfl rfl rfl (fun H hs=> .f ca57 rfl (Lesser_same M H A B l n ca cb hn h6 (hA.le hs.base) (hB.le hs.base))) ?_
 refine .x .nt ?_
 refine .m ?_
 refine .m ?_
 refine .m ?_
 refine .c rfl rfl rfl rfl (fun H hs=> .f ca57 rfl (Lesser_same M H B A l n cb ca hn h6 (hB.le hs.base) (hA.le hs.base))) ?_
 refine .x .nt ?_
 refine .x .pk ?_
 refine .g ?_
 refine .done ?_
 refine .rt hK Tryz.func23 Tryz.results23 [_] ?_
 exact fun H' hs=> ⟨hs.base,rfl⟩
theorem SamePasts_same(s r e:Int)(A B:Option Addr)(l:List Int)(n ca cb:Nat)(hn:n=l.length)(h6:n≤1000)(hA:Nums H A l)(hB:Nums H B l):
   CallT M 30 #[.agg ⟨[.int .i64 s,.int .i64 r,.int .i64 e,.slice A n ca]⟩,.agg ⟨[.int .i64 s,.int .i64 r,.int .i64 e,.slice B n cb]⟩] H (fun v H'=> H.le H'∧v=.bool true):=by
 refine CallT.enter (vs:= [.agg ⟨[.int .i64 s,.int .i64 r,.int .i64 e,.slice A n ca]⟩,.agg ⟨[.int .i64 s,.int .i64 r,.int .i64 e,.slice B n cb]⟩]) Tryz.func30 rfl Tryz.ntmps30 (Nat.le_of_ble_eq_true rfl) (SymSt.nil _) fun St c cs hK=> ?_
 refine .sr ?_
 refine .e (.bx (zz:=fun b2=> ?_))
 refine .e (.bx (zz:=fun b3=> ?_))
 refine .g ?_
 refine .done (.sr ?_)
 refine .x .fa ?_
 refine .x (.ld 1) ?_
 refine .x .fa ?_
 refine .x (.ld 0) ?_
 refine .i ?_ (z:=eql_t (by omega))
 refine .m ?_
 refine .x .fa ?_
 refine .x (.ld 1) ?_
 refine .x .fa ?_
 refine .x (.ld 0) ?_
 refine .i ?_ (z:=eql_t (by omega))
 refine .x .pk ?_
 refine .m ?_
 refine .x .fa ?_
 refine .x (.ld 1) ?_
 refine .x .fa ?_
 refine .x (.ld 0) ?_
 refine .i ?_ (z:=eql_t (by omega))
 refine .x .pk ?_
 refine .m ?_
 refine .x .fa ?_
 refine .x (.ld 1) ?_
 refine .x .fa ?_
 refine .x (.ld 0) ?_
 refine .c rfl rfl rfl rfl (fun H hs=> .f ca23 rfl (SameNums_same M H A B l n ca cb hn h6 (hA.le hs.base) (hB.le hs.base))) ?_
 refine .x .pk ?_
 refine .g ?_
 refine .done ?_
 refine .rt hK Tryz.func30 Tryz.results30 [_] ?_
 exact fun H' hs=> ⟨hs.base,rfl⟩
theorem HasNum_c(A:Option Addr)(l:List Int)(n ca:Nat)(x:Int)(hn:n=l.length)(h6:n≤1000)(hA:Nums H A l):CallT M 39 #[.slice A n ca,.int .i64 x] H (fun v H'=> H.le H'∧v=.bool (decide (x∈l))):=by
 refine CallT.enter (vs:= [.slice A n ca,.int .i64 x]) Tryz.func39 rfl Tryz.ntmps39 (Nat.le_of_ble_eq_true rfl) (SymSt.nil _) fun St c cs hK=> ?_
 refine .sr ?_
 refine .g ?_
 refine .done (.seq (.sr ?_))
 refine .g ?_
 refine .done (.block ?_)
 refine Tc.db (Tc.loopInv (σ:= { j:Nat//j≤n∧∀i,i<j→l[i]?.getD 0≠x }) (fun j=> ([(0,.slice A n ca),(1,.int .i64 x),(4,.bool false),(5,.int .i64 (j.1:Nat))],[])) (fun j=> n-j.1) ?_ ⟨0,by omega,by omega⟩)
 rintro⟨j,hj,hno⟩ ih
 show Tc M St _ _ _ _ [(0,.slice A n ca),(1,.int .i64 x),(4,.bool false),(5,.int .i64 (j:Nat))] [] _ _
 by_cases c1:j=n
 · have hx:¬x∈l:=fun hm=> by
     obtain⟨i,hi,he⟩:=List.mem_iff_getElem.1 hm
     have:=hno i (by omega)
     rw[List.getElem?_eq_getElem hi] at this
     exact this he
   subst c1
   refine .seq (.sr ?_)
   refine .m ?_
   refine .m ?_
   refine .x .ln ?_
   refine .i ?_ (z:=lss_f (by omega))
   refine .done (.ff rfl (.exit rfl (.sr ?_)))
   refine .g ?_
   refine .done ?_
   refine .rt hK Tryz.func39 Tryz.results39 [_] ?_
   exact fun H' hs=> ⟨hs.base,by rw[decide_eq_false hx];rfl⟩
 · have c2:j<n:=by omega
   rcases hA with hA|⟨a1,a2,a3,a4,a5,a6,rfl,a7,a8⟩
   · rw[hA] at hn;simp at hn;omega
   have f1:=a8 j (by omega)
   by_cases c3:l[j]?.getD 0=x
   · have hx:x∈l:=by
       rw[List.getElem?_eq_getElem (show j<l.length by omega)] at c3
       rw[←c3]
       exact List.getElem_mem _
     refine .seq (.sr ?_)
     refine .m ?_
     refine .m ?_
     refine .x .ln ?_
     refine .i ?_ (z:=lss_t (by omega))
     refine .done (.tt rfl (.skip (.seq (.block (.sr ?_)))))
     refine .m ?_
     refine .m ?_
     refine .x .ia ?_
     refine .x .l0 ?_
     refine .m ?_
     refine .i ?_ (z:=eql_t (by omega))
     refine .done (.tt rfl (.sr ?_))
     refine .g ?_
     refine .done ?_
     refine .rt hK Tryz.func39 Tryz.results39 [_] ?_
     exact fun H' hs=> ⟨hs.base,by rw[decide_eq_true hx];rfl⟩
   · refine .seq (.sr ?_)
     refine .m ?_
     refine .m ?_
     refine .x .ln ?_
     refine .i ?_ (z:=lss_t (by omega))
     refine .done (.tt rfl (.skip (.seq (.block (.sr ?_)))))
     refine .m ?_
     refine .m ?_
     refine .x .ia ?_
     refine .x .l0 ?_
     refine .m ?_
     refine .i ?_ (z:=eql_f (by omega))
     refine .done (.ff rfl (.skip (.inBlock (.r ?_))))
     refine .m ?_
     refine .i ?_ (z:=add_in (by omega) (by omega))
     refine .g ?_
     refine .done ?_
     exact Tc.db (ih ⟨j+1,by omega,by intro i hi;rcases Nat.lt_succ_iff_lt_or_eq.1 hi with h|rfl;exact hno i h;exact c3⟩ (by simp only;omega))
theorem Ascending_good(A:Option Addr)(l:List Int)(n ca:Nat)(m:Int)(hn:n=l.length)(h6:n≤1000)(hm:0≤m∧m≤100000)(hA:Nums H A l)(h1:∀i,i<n→0≤l[i]?.getD 0∧l[i]?.getD 0≤m-1)(h2:∀i,0<i→i<n→l[i-1]?.getD 0<l[i]?.getD 0):
   CallT M 38 #[.slice A n ca,.int .i64 m] H (fun v H'=> H.le H'∧v=.int .i64 0):=by
 refine CallT.enter (vs:= [.slice A n ca,.int .i64 m]) Tryz.func38 rfl Tryz.ntmps38 (Nat.le_of_ble_eq_true rfl) (SymSt.nil _) fun St c cs hK=> ?_
 refine .sr ?_
 refine .g ?_
 refine .done (.seq (.sr ?_))
 refine .g ?_
 refine .done (.block ?_)
 refine Tc.db (Tc.loopInv (σ:= { j:Nat//j≤n }) (fun j=> ([(0,.slice A n ca),(1,.int .i64 m),(4,.int .i64 0),(5,.int .i64 (j.1:Nat))],[])) (fun j=> n-j.1) ?_ ⟨0,by omega⟩)
 rintro⟨j,hj⟩ ih
 show Tc M St _ _ _ _ [(0,.slice A n ca),(1,.int .i64 m),(4,.int .i64 0),(5,.int .i64 (j:Nat))] [] _ _
 by_cases c1:j=n
 · subst c1
   refine .seq (.sr ?_)
   refine .m ?_
   refine .m ?_
   refine .x .ln ?_
   refine .i ?_ (z:=lss_f (by omega))
   refine .done (.ff rfl (.exit rfl (.sr ?_)))
   refine .g ?_
   refine .done ?_
   refine .rt hK Tryz.func38 Tryz.results38 [_] ?_
   exact fun H' hs=> ⟨hs.base,rfl⟩
 · have c2:j<n:=by omega
   rcases hA with hA|⟨a1,a2,a3,a4,a5,a6,rfl,a7,a8⟩
   · rw[hA] at hn;simp at hn;omega
   have f1:=a8 j (by omega)
   have g1:=h1 j c2
   have hin:∀H,CallT M 59 #[.int .i64 (l[j]?.getD 0),.int .i64 0,.int .i64 (m-1)] H (fun v H'=> H.le H'∧v=.bool true):=fun H=>
     CallT.mono (In_c M H _ 0 (m-1)) (by rintro v H' ⟨h1,h2⟩;rw[decide_eq_true g1] at h2;exact⟨h1,h2⟩)
   by_cases c0:j=0
   · subst c0
     refine .seq (.sr ?_)
     refine .m ?_
     refine .m ?_
     refine .x .ln ?_
     refine .i ?_ (z:=lss_t (by omega))
     refine .done (.tt rfl (.skip (.seq (.block (.seq (.sr ?_))))))
     refine .m ?_
     refine .m ?_
     refine .x .ia ?_
     refine .x .l0 ?_
     refine .m ?_
     refine .i ?_ (z:=sub_in (by omega) (by omega))
     refine .c rfl rfl rfl rfl (fun H hs=> .f ca59 rfl (hin H)) ?_
     refine .x .nt ?_
     refine .done (.ff rfl (.skip (.seq ?_)))
     refine Tc.dr [] [] mixed rfl ?_
     refine .q 0 rfl .mv ?_
     refine .q 1 rfl (.it (zz:=gtr_f (by omega))) ?_
     refine .q 2 rfl .mv ?_
     refine Ta.ps 3 (by kernel_rfl) rfl rfl rfl (by decide) rfl rfl ?_
     refine Ta.ps 4 (by kernel_rfl) rfl rfl rfl (by decide) rfl rfl ?_
     refine Ta.ps 5 (by kernel_rfl) rfl rfl rfl (by decide) rfl rfl ?_
     refine Ta.ps 6 (by kernel_rfl) rfl rfl rfl (by decide) rfl rfl ?_
     refine Ta.ps 7 (by kernel_rfl) rfl rfl rfl (by decide) rfl rfl ?_
     refine Ta.ps 8 (by kernel_rfl) rfl rfl rfl (by decide) rfl rfl ?_
     refine Ta.ps 9 (by kernel_rfl) rfl rfl rfl (by decide) rfl rfl ?_
     refine Ta.ps 10 (by kernel_rfl) rfl rfl rfl (by decide) rfl rfl ?_
     refine Ta.ps 11 (by kernel_rfl) rfl rfl rfl (by decide) rfl rfl ?_
     refine Ta.ps 12 (by kernel_rfl) rfl rfl rfl (by decide) rfl rfl ?_
     refine .q 13 rfl .pk ?_
     refine Ta.done (by kernel_rfl) ?_
     refine .ff rfl (.skip (.inBlock (.r ?_)))
     refine .m ?_
     refine .i ?_ (z:=add_in (by omega) (by omega))
     refine .g ?_
     refine .done ?_
     exact Tc.db (ih ⟨1,by omega⟩ (by simp only;omega))
   · have f2:ldL false 1 a4 (a2+((j:Int)-1).toNat*1)=some (.int .i64 (l[j-1]?.getD 0)):=by
       have:=a8 (j-1) (by omega)
       rwa [show(((j-1:Nat):Int)).toNat=((j:Int)-1).toNat by omega] at this
     have g2:=h2 j (by omega) c2
     refine .seq (.sr ?_)
     refine .m ?_
     refine .m ?_
     refine .x .ln ?_
     refine .i ?_ (z:=lss_t (by omega))
     refine .done (.tt rfl (.skip (.seq (.block (.seq (.sr ?_))))))
     refine .m ?_
     refine .m ?_
     refine .x .ia ?_
     refine .x .l0 ?_
     refine .m ?_
     refine .i ?_ (z:=sub_in (by omega) (by omega))
     refine .c rfl rfl rfl rfl (fun H hs=> .f ca59 rfl (hin H)) ?_
     refine .x .nt ?_
     refine .done (.ff rfl (.skip (.seq ?_)))
     refine Tc.dr [] [] mixed rfl ?_
     refine .q 0 rfl .mv ?_
     refine .q 1 rfl (.it (zz:=gtr_t (by omega))) ?_
     refine .q 2 rfl .mv ?_
     refine .q 3 rfl .mv ?_
     refine .q 4 rfl .mv ?_
     refine .q 5 rfl (.it (zz:=sub_in (by omega) (by omega))) ?_
     refine .q 6 rfl .ia ?_
     refine .q 7 rfl .l0 ?_
     refine .q 8 rfl .mv ?_
     refine .q 9 rfl .mv ?_
     refine .q 10 rfl .ia ?_
     refine .q 11 rfl .l0 ?_
     refine .q 12 rfl (.it (zz:=geq_f (by omega))) ?_
     refine .q 13 rfl .pk ?_
     refine Ta.done (by kernel_rfl) ?_
     refine .ff rfl (.skip (.inBlock (.r ?_)))
     refine .m ?_
     refine .i ?_ (z:=add_in (by omega) (by omega))
     refine .g ?_
     refine .done ?_
     exact Tc.db (ih ⟨j+1,by omega⟩ (by simp only;omega))
end
end Go.Proofs.YtpdaenfglbgfkaaGreatDoor
end
section
namespace Go.Proofs.YtpdaenfglbgfkaaGreatDoor
open Go.RL
set_option maxRecDepth 10000
set_option maxHeartbeats 4000000
structure Ch where
 s0:Int
 s1:Int
 a0:Int
 a1:Int
 r0:Int
 r1:Int
 n:Nat
 x:Nat→Int
 y:Nat→Int
 z:Nat→Int
 u:Nat→Int
 m:Nat
 at_:Nat→Nat
def Ch.val(c:Ch)(lb lo lc ac:Nat)(A:Option Addr):Value:=
 .agg ⟨[.int .i64 c.s0,.int .i64 c.s1,.slice (some ⟨lb,lo,none⟩) c.n lc,.int .i64 c.a0,.int .i64 c.a1,.int .i64 c.r0,.int .i64 c.r1,.slice A c.m ac]⟩
structure Ch.Ok(c:Ch):Prop where
 n0:0<c.n
 n4:c.n≤4
 x:∀i,i<c.n→ -1000000≤c.x i∧c.x i≤1000000
 y:∀i,i<c.n→ -1000000≤c.y i∧c.y i≤1000000
 z:∀i,i<c.n→ -1000000≤c.z i∧c.z i≤1000000
 u:∀i,i<c.n→ -1000000≤c.u i∧c.u i≤1000000
 lt:∀i,i<c.m→c.at_ i+1<c.n
 mono:∀i,i+1<c.m→c.at_ i<c.at_ (i+1)
structure ChAt(H:View)(c:Ch)(lb lo lc:Nat)(A:Option Addr):Prop where
 ln:∃f gs gt gz,H lb=some (f,.cells ⟨gs⟩ gt gz)∧∀i:Nat,i<c.n→ldL true 4 gs (lo+i*4)=some (lineV (c.x i) (c.y i) (c.z i) (c.u i))
 lc:c.n≤lc
 at_:0<c.m→∃ab ao f gs gt gz,A=some ⟨ab,ao,none⟩∧H ab=some (f,.cells ⟨gs⟩ gt gz)∧∀i:Nat,i<c.m→ldL false 1 gs (ao+i*1)=some (.int .i64 (c.at_ i:Nat))
theorem ChAt.le {H H':View}{c:Ch}{lb lo lc:Nat}{A:Option Addr}(h:ChAt H c lb lo lc A)(k:H.le H'):ChAt H' c lb lo lc A:=by
 obtain⟨⟨f,gs,gt,gz,h1,h2⟩,h3,h4⟩:=h
 refine⟨⟨f,gs,gt,gz,k _ _ h1,h2⟩,h3,fun hm=> ?_⟩
 obtain⟨ab,ao,f,gs,gt,gz,h5,h6,h7⟩:=h4 hm
 exact⟨ab,ao,f,gs,gt,gz,h5,k _ _ h6,h7⟩
def Ch.fr(c:Ch)(i:Nat):Nat:=if i=0 then 0 else c.at_ (i-1)+1
def Ch.to(c:Ch)(i:Nat):Nat:=if i<c.m then c.at_ i+1 else c.n
def Ch.lk(c:Ch)(i:Nat):Lk:=
 ⟨if i=0 then c.s0 else c.a0,if i=0 then c.s1 else c.a1,if i<c.m then c.a0 else c.r0,if i<c.m then c.a1 else c.r1,
   sumI (fun j=> c.x (c.fr i+j)) (c.to i-c.fr i),sumI (fun j=> c.y (c.fr i+j)) (c.to i-c.fr i),sumI (fun j=> c.z (c.fr i+j)) (c.to i-c.fr i),sumI (fun j=> c.u (c.fr i+j)) (c.to i-c.fr i)⟩
def Ch.fits(c:Ch)(i:Nat):Bool:=(⟨0,0,0,0,(c.lk i).l0,(c.lk i).l1,(c.lk i).m0,(c.lk i).m1⟩:Lk).lineOk
theorem Ch.Ok.mono' {c:Ch}(h:c.Ok):∀j i:Nat,i<j→j<c.m→c.at_ i<c.at_ j
 | 0,i,h1,_=> by omega
 | j+1,i,h1,h2=> by
   have h3:=h.mono j h2
   by_cases e:i=j
   · subst e;exact h3
   · have:=h.mono' j i (by omega) (by omega);omega
theorem Ch.Ok.up {c:Ch}(h:c.Ok):∀j:Nat,j<c.m→j≤c.at_ j
 | 0,_=> by omega
 | j+1,h2=> by
   have h3:=h.mono j h2
   have:=h.up j (by omega)
   omega
theorem Ch.Ok.m_lt {c:Ch}(h:c.Ok):c.m<c.n:=by
 have h0:=h.n0
 by_cases e:c.m=0
 · omega
 · have h1:=h.up (c.m-1) (by omega)
   have h2:=h.lt (c.m-1) (by omega)
   omega
theorem Ch.Ok.ends {c:Ch}(h:c.Ok){i:Nat}(hi:i≤c.m):c.fr i<c.to i∧c.to i≤c.n:=by
 unfold Ch.fr Ch.to
 have h0:=h.n0
 by_cases e:i=0
 · rw[if_pos e]
   split
   · have:=h.lt i (by omega);omega
   · omega
 · rw[if_neg e]
   have h1:=h.lt (i-1) (by omega)
   split
   · have h2:=h.lt i (by omega)
     have:=h.mono' i (i-1) (by omega) (by omega)
     omega
   · omega
section
variable {M:Md Tryz.prog}{St:View→Goroutine→Prop}{n:Nat}{b:FB}{H₀:View}{cs:List Frame}{R:Rg}{L:Bl}{ds:List Deferred}{k:List Item}
theorem Tc.via2 {x y:Item}(F:Rg→Bl→Prop)(hF:∀R L,F R L→Tc M St n b H₀ cs R L ds k)(h:(∀R L,F R L→Tc M St n b H₀ cs R L ds k)→Tc M St n b H₀ cs R L ds (x::y::k)):Tc M St n b H₀ cs R L ds (x::y::k):=h hF
end
section
variable(M:Md Tryz.prog)(H:View)
theorem section_c(ch:Ch)(i lb lo lc ac:Nat)(A:Option Addr)(hc:ch.Ok)(hA:ChAt H ch lb lo lc A)(hi:i≤ch.m)(hG:Glob H):
   CallT M 122 #[ch.val lb lo lc ac A,.int .i64 i] H (fun v H'=> H.le H'∧v=.tuple ⟨[(ch.lk i).val,.bool (ch.fits i)]⟩):=by
 refine CallT.enter (vs:= [ch.val lb lo lc ac A,.int .i64 i]) Tryz.func122 rfl Tryz.ntmps122 (Nat.le_of_ble_eq_true rfl) (SymSt.nil _) fun St c cs hK=> ?_
 have hend:=hc.ends hi
 have hm3:ch.at_ i+1<ch.n∨ch.m≤i:=by
   by_cases e:i<ch.m
   · exact .inl (hc.lt i e)
   · exact .inr (by omega)
 have hn4:=hc.n4
 have hmn:=hc.m_lt
 refine .sr ?_
 refine .e (.bx (zz:=fun b2=> ?_))
 refine .e (.al (zz:=fun b4=> ?_))
 refine .g ?_
 refine .done (.sr ?_)
 refine .x .fa ?_
 refine .x .fa ?_
 refine .x (.ld 1) ?_
 refine .x .fa ?_
 refine .x .fa ?_
 refine .x (.ld 1) ?_
 refine .x .bu ?_
 refine .x .bu ?_
 refine .e (.al (zz:=fun b6=> ?_))
 refine .e (.st 0 (zz:=?_))
 refine .done (.seq ?_)
 refine Tc.dr [] [] mixed rfl ?_
 refine .q 0 rfl .fa ?_
 refine .q 1 rfl .fa ?_
 refine .q 2 rfl (.ld 2) ?_
 refine .q 3 rfl .ln ?_
 refine .q 4 rfl .sg ?_
 refine .q 5 rfl .sg ?_
 refine Ta.done (by kernel_rfl) ?_
 refine .seq (.seq ?_)
 refine Tc.via2 (fun R' L'=> AllIn [(1,.int .i64 (i:Nat)),(2,.pointer (some ⟨b2,0,none⟩)),(4,.pointer (some ⟨b4,0,none⟩)),(6,.pointer (some ⟨b6,0,none⟩)),(7,.int .i64 (ch.fr i:Nat)),(8,.int .i64 (ch.n:Nat))] R'∧
   L'= [(b6,true,.cells ⟨[.int .i64 (ch.lk i).s0,.int .i64 (ch.lk i).s1,.int .i64 ch.r0,.int .i64 ch.r1,.int .i64 0,.int .i64 0,.int .i64 0,.int .i64 0]⟩ 109 (0,0)),(b4,true,.cells ⟨[.int .i64 0,.int .i64 0,.int .i64 0,.int .i64 0,.int .i64 0,.int .i64 0,.int .i64 0,.int .i64 0]⟩ 109 (0,0)),(b2,true,.cells ⟨(ch.val lb lo lc ac A).cells.toList⟩ 146 (0,0))]) ?_ (fun fin=> ?_)
 · rintro R' L' ⟨hR,rfl⟩
   refine Tc.dropB ?_ hR (List.Sublist.refl _)
   refine .seq (.seq ?_)
   refine Tc.via2 (fun R' L'=> AllIn [(2,.pointer (some ⟨b2,0,none⟩)),(4,.pointer (some ⟨b4,0,none⟩)),(6,.pointer (some ⟨b6,0,none⟩)),(7,.int .i64 (ch.fr i:Nat)),(8,.int .i64 (ch.to i:Nat))] R'∧
     L'= [(b6,true,.cells ⟨[.int .i64 (ch.lk i).s0,.int .i64 (ch.lk i).s1,.int .i64 (ch.lk i).r0,.int .i64 (ch.lk i).r1,.int .i64 0,.int .i64 0,.int .i64 0,.int .i64 0]⟩ 109 (0,0)),(b4,true,.cells ⟨[.int .i64 0,.int .i64 0,.int .i64 0,.int .i64 0,.int .i64 0,.int .i64 0,.int .i64 0,.int .i64 0]⟩ 109 (0,0)),(b2,true,.cells ⟨(ch.val lb lo lc ac A).cells.toList⟩ 146 (0,0))]) ?_ (fun fin=> ?_)
   · rintro R' L' ⟨hR,rfl⟩
     refine Tc.dropB ?_ hR (List.Sublist.refl _)
     obtain⟨f,gs,gt,gz,hA1,hA2⟩:=hA.ln
     have hlc:=hA.lc
     have hj:∀j:Nat,j<ch.to i-ch.fr i→ldL true 4 gs ((lo+ch.fr i*4)+j*4)=some (lineV (ch.x (ch.fr i+j)) (ch.y (ch.fr i+j)) (ch.z (ch.fr i+j)) (ch.u (ch.fr i+j))):=fun j hj=> by
       rw[show lo+ch.fr i*4+j*4=lo+(ch.fr i+j)*4 by omega]
       exact hA2 _ (by omega)
     refine .sr ?_
     refine .x .fa ?_
     refine .x .fa ?_
     refine .x (.ld 2) ?_
     refine .m ?_
     refine .m ?_
     refine .x (OpV.slice (E:=en) (l:=(ch.fr i:Nat)) (h:=(ch.to i:Nat)) (off':=lo+ch.fr i*4) rfl rfl rfl rfl rfl rfl rfl rfl (by omega) (by omega) (by omega) (by rw[if_neg (by omega)];rfl)) ?_
     refine .c rfl rfl rfl rfl (fun H hs=> .f ca125 rfl (join_c M H lb (lo+ch.fr i*4) (ch.to i-ch.fr i) (lc-ch.fr i) f gs gt gz (fun j=> ch.x (ch.fr i+j)) (fun j=> ch.y (ch.fr i+j)) (fun j=> ch.z (ch.fr i+j)) (fun j=> ch.u (ch.fr i+j)) (by omega) (hs.base _ _ hA1) hj (fun j hj=> hc.x _ (by omega)) (fun j hj=> hc.y _ (by omega)) (fun j hj=> hc.z _ (by omega)) (fun j hj=> hc.u _ (by omega)))) ?_
     refine .x .fa ?_
     refine .x .fa ?_
     refine .e (.st 0 (zz:=?_))
     refine .done (.seq ?_)
     cases hf:ch.fits i with
     | true=>
       refine Tc.dr [6] [1] mixed rfl ?_
       refine .q 0 rfl (.ld 0) ?_
       refine Ta.tkw 1 (by kernel_rfl) rfl rfl rfl (by decide) rfl rfl (OpV.take .fa) ?_
       refine Ta.tkw 2 (by kernel_rfl) rfl rfl rfl (by decide) rfl rfl (OpV.take .fa) ?_
       refine Ta.tkw 3 (by kernel_rfl) rfl rfl rfl (by decide) rfl rfl (OpV.take (.ld 0)) ?_
       refine .z 4 rfl (OpV.takeCall rfl rfl rfl rfl (fun H hs=> .f ca126 rfl (CallT.mono (checkLine_c M H (ch.lk i).l0 (ch.lk i).l1 (ch.lk i).m0 (ch.lk i).m1 (glob_le hG hs.base)) (Q':=fun v H'=> H.le H'∧v=.int .i64 0) (by rintro v H' ⟨h1,h2⟩;unfold Ch.fits at hf;rw[hf] at h2;exact⟨h1,h2⟩)))) ?_
       refine Ta.tkw 5 (by kernel_rfl) rfl rfl rfl (by decide) rfl rfl (OpV.take (.it (zz:=eql_t (by omega)))) ?_
       refine Ta.each [6] (by kernel_rfl) rfl ⟨TaOp.mk rfl rfl rfl (.st 1 (zz:=⟨S2.mk (by apply List.Sublist.cons_cons;apply List.Sublist.cons;exact List.Sublist.refl _) (.inl (by kernel_rfl)),?_⟩)),trivial⟩
       refine Ta.tkw 7 (by kernel_rfl) rfl rfl rfl (by decide) rfl rfl (OpV.take .sg) ?_
       refine Ta.done (by kernel_rfl) ?_
       refine Tc.retN (E:=en) hK Tryz.func122 Tryz.results122 (vs:= [_,_]) (by refine⟨⟨1,_,_,_,_,_,_,_,rfl,rfl,rfl,rfl⟩,?_⟩;refine⟨rfl,?_⟩;exact trivial) ?_
       exact fun H' hs=> ⟨hs.base,by rw[hf];rfl⟩
     | false=>
       refine Tc.dr [6] [1] mixed rfl ?_
       refine .q 0 rfl (.ld 0) ?_
       refine Ta.tkw 1 (by kernel_rfl) rfl rfl rfl (by decide) rfl rfl (OpV.take .fa) ?_
       refine Ta.tkw 2 (by kernel_rfl) rfl rfl rfl (by decide) rfl rfl (OpV.take .fa) ?_
       refine Ta.tkw 3 (by kernel_rfl) rfl rfl rfl (by decide) rfl rfl (OpV.take (.ld 0)) ?_
       refine .z 4 rfl (OpV.takeCall rfl rfl rfl rfl (fun H hs=> .f ca126 rfl (CallT.mono (checkLine_c M H (ch.lk i).l0 (ch.lk i).l1 (ch.lk i).m0 (ch.lk i).m1 (glob_le hG hs.base)) (Q':=fun v H'=> H.le H'∧v=.int .i64 1) (by rintro v H' ⟨h1,h2⟩;unfold Ch.fits at hf;rw[hf] at h2;exact⟨h1,h2⟩)))) ?_
       refine Ta.tkw 5 (by kernel_rfl) rfl rfl rfl (by decide) rfl rfl (OpV.take (.it (zz:=eql_f (by omega)))) ?_
       refine Ta.each [6] (by kernel_rfl) rfl ⟨TaOp.mk rfl rfl rfl (.st 1 (zz:=⟨S2.mk (by apply List.Sublist.cons_cons;apply List.Sublist.cons;exact List.Sublist.refl _) (.inl (by kernel_rfl)),?_⟩)),trivial⟩
       refine Ta.tkw 7 (by kernel_rfl) rfl rfl rfl (by decide) rfl rfl (OpV.take .sg) ?_
       refine Ta.done (by kernel_rfl) ?_
       refine Tc.retN (E:=en) hK Tryz.func122 Tryz.results122 (vs:= [_,_]) (by refine⟨⟨1,_,_,_,_,_,_,_,rfl,rfl,rfl,rfl⟩,?_⟩;refine⟨rfl,?_⟩;exact trivial) ?_
       exact fun H' hs=> ⟨hs.base,by rw[hf];rfl⟩
   · by_cases h0:i<ch.m
     · have e1:ch.to i=ch.at_ i+1:=if_pos h0
       have e2:(ch.lk i).r0=ch.a0:=if_pos h0
       have e3:(ch.lk i).r1=ch.a1:=if_pos h0
       obtain⟨ab,ao,f,gs,gt,gz,rfl,hA3,hA4⟩:=hA.at_ (by omega)
       have hld:ldL false 1 gs (ao+((i:Nat):Int).toNat*1)=some (.int .i64 (ch.at_ i:Nat)):=hA4 i h0
       have hlt:=hc.lt i h0
       refine .r ?_
       refine .m ?_
       refine .x .fa ?_
       refine .x (.ld 2) ?_
       refine .x .ln ?_
       refine .i ?_ (z:=lss_t (by omega))
       refine .done (.tt rfl ?_)
       refine Tc.dr [11] [0] mixed rfl ?_
       refine .q 0 rfl .fa ?_
       refine .q 1 rfl .fa ?_
       refine .q 2 rfl (.ld 2) ?_
       refine Ta.tkw 3 (by kernel_rfl) rfl rfl rfl (by decide) rfl rfl (OpV.take .fa) ?_
       refine Ta.tkw 4 (by kernel_rfl) rfl rfl rfl (by decide) rfl rfl (OpV.take (.ld 1)) ?_
       refine Ta.tkw 5 (by kernel_rfl) rfl rfl rfl (by decide) rfl rfl (OpV.take .mv) ?_
       refine Ta.tkw 6 (by kernel_rfl) rfl rfl rfl (by decide) rfl rfl (OpV.take .ia) ?_
       refine Ta.tkw 7 (by kernel_rfl) rfl rfl rfl (by decide) rfl rfl (OpV.take .l0) ?_
       refine Ta.tkw 8 (by kernel_rfl) rfl rfl rfl (by decide) rfl rfl (OpV.take (.it (zz:=add_in (by omega) (by omega)))) ?_
       refine Ta.tkw 9 (by kernel_rfl) rfl rfl rfl (by decide) rfl rfl (OpV.take .fa) ?_
       refine .q 10 rfl .fa ?_
       refine Ta.each [11] (by kernel_rfl) rfl ⟨TaOp.mk rfl rfl rfl (.st 0 (zz:=⟨S2.mk (by apply List.Sublist.cons;exact List.Sublist.refl _) (.inl (by kernel_rfl)),?_⟩)),trivial⟩
       refine Ta.tkw 12 (by kernel_rfl) rfl rfl rfl (by decide) rfl rfl (OpV.take .sg) ?_
       refine Ta.done (by kernel_rfl) ?_
       refine fin _ _ ⟨?_,?_⟩
       · rw[e1]
         refine⟨rfl,?_⟩;refine⟨rfl,?_⟩;refine⟨rfl,?_⟩;refine⟨rfl,?_⟩;refine⟨rfl,?_⟩;exact trivial
       · rw[e2,e3]
         rfl
     · have e1:ch.to i=ch.n:=if_neg h0
       have e2:(ch.lk i).r0=ch.r0:=if_neg h0
       have e3:(ch.lk i).r1=ch.r1:=if_neg h0
       refine .r ?_
       refine .m ?_
       refine .x .fa ?_
       refine .x (.ld 2) ?_
       refine .x .ln ?_
       refine .i ?_ (z:=lss_f (by omega))
       refine .done (.ff rfl (.skip ?_))
       refine fin _ _ ⟨?_,?_⟩
       · rw[e1]
         refine⟨rfl,?_⟩;refine⟨rfl,?_⟩;refine⟨rfl,?_⟩;refine⟨rfl,?_⟩;refine⟨rfl,?_⟩;exact trivial
       · rw[e2,e3]
 · by_cases h0:i=0
   · subst h0
     refine .r ?_
     refine .m ?_
     refine .i ?_ (z:=gtr_f (by omega))
     refine .done (.ff rfl (.skip ?_))
     exact fin _ _ ⟨⟨rfl,rfl,rfl,rfl,rfl,rfl,trivial⟩,rfl⟩
   · have e1:ch.fr i=ch.at_ (i-1)+1:=if_neg h0
     have e2:(ch.lk i).s0=ch.a0:=if_neg h0
     have e3:(ch.lk i).s1=ch.a1:=if_neg h0
     obtain⟨ab,ao,f,gs,gt,gz,rfl,hA3,hA4⟩:=hA.at_ (by omega)
     have hld:ldL false 1 gs (ao+(((i:Nat):Int)-1).toNat*1)=some (.int .i64 (ch.at_ (i-1):Nat)):=by
       rw[show(((i:Nat):Int)-1).toNat=i-1 by omega]
       exact hA4 (i-1) (by omega)
     have hlt:=hc.lt (i-1) (by omega)
     refine .r ?_
     refine .m ?_
     refine .i ?_ (z:=gtr_t (by omega))
     refine .done (.tt rfl ?_)
     refine Tc.dr [12] [0] mixed rfl ?_
     refine .q 0 rfl .fa ?_
     refine .q 1 rfl .fa ?_
     refine .q 2 rfl (.ld 2) ?_
     refine Ta.tkw 3 (by kernel_rfl) rfl rfl rfl (by decide) rfl rfl (OpV.take .fa) ?_
     refine Ta.tkw 4 (by kernel_rfl) rfl rfl rfl (by decide) rfl rfl (OpV.take (.ld 1)) ?_
     refine Ta.tkw 5 (by kernel_rfl) rfl rfl rfl (by decide) rfl rfl (OpV.take .mv) ?_
     refine Ta.tkw 6 (by kernel_rfl) rfl rfl rfl (by decide) rfl rfl (OpV.take (.it (zz:=sub_in (by omega) (by omega)))) ?_
     refine Ta.tkw 7 (by kernel_rfl) rfl rfl rfl (by decide) rfl rfl (OpV.take .ia) ?_
     refine Ta.tkw 8 (by kernel_rfl) rfl rfl rfl (by decide) rfl rfl (OpV.take .l0) ?_
     refine Ta.tkw 9 (by kernel_rfl) rfl rfl rfl (by decide) rfl rfl (OpV.take (.it (zz:=add_in (by omega) (by omega)))) ?_
     refine Ta.tkw 10 (by kernel_rfl) rfl rfl rfl (by decide) rfl rfl (OpV.take .fa) ?_
     refine .q 11 rfl .fa ?_
     refine Ta.each [12] (by kernel_rfl) rfl ⟨TaOp.mk rfl rfl rfl (.st 0 (zz:=⟨S2.mk (by apply List.Sublist.cons;exact List.Sublist.refl _) (.inl (by kernel_rfl)),?_⟩)),trivial⟩
     refine Ta.tkw 13 (by kernel_rfl) rfl rfl rfl (by decide) rfl rfl (OpV.take .sg) ?_
     refine Ta.done (by kernel_rfl) ?_
     refine fin _ _ ⟨?_,?_⟩
     · rw[e1]
       refine⟨rfl,?_⟩;refine⟨rfl,?_⟩;refine⟨rfl,?_⟩;refine⟨rfl,?_⟩;refine⟨rfl,?_⟩;refine⟨rfl,?_⟩;exact trivial
     · rw[e2,e3]
       rfl
end
end Go.Proofs.YtpdaenfglbgfkaaGreatDoor
end
section
namespace Go.RL
open Go.Conc Go.ConcN Go.RL.Au
open Go.ConcR (stA smA mk)
open Go.ConcM (muA msA OsLater)
section
variable {P:Program}{X:Fk}{κ:Nat}
theorem Sat.left {H F:View}{w:World}(h:Sat (H.plus F) w):Sat H w:=fun b f o hb=> h b f o (plus_left hb)
theorem Qt.mono {K K':Goroutine→Prop}(hk:∀g,K g→K' g):∀ {n:Nat} {g:Goroutine},Qt P K n g→Qt P K' n g
 | 0,_,h=> hk _ h
 | _+1,_,⟨h1,g',h2,h3⟩=> ⟨h1,g',h2,Qt.mono hk h3⟩
theorem plus_putW {H F:View}{c:Nat}{x:Bool×Obj}:(H.plus F).put c x=(H.put c x).plus (F.without c):=by
 funext b
 by_cases e:b=c
 · subst e
   rw[View.put_same,plus_left (View.put_same ..)]
 · rw[View.put_other _ _ e]
   unfold View.plus
   rw[View.put_other _ _ e,without_other e]
theorem Dj.putW {H F:View}(h:Dj H F){c:Nat}{x:Bool×Obj}:Dj (H.put c x) (F.without c):=fun b y hb=> by
 by_cases e:b=c
 · subst e;simp[View.without] at hb
 · rw[without_other e] at hb
   rw[View.put_other _ _ e]
   exact h b y hb
theorem T.less {M:Md P}{St:View→Goroutine→Prop}{H F:View}{g:Goroutine}(hc:∀H g F,Dj H F→St H g→St (H.plus F) g)(h:T M St H g)(hd:Dj H F):T M St (H.plus F) g:=
 (h.frame F hd).bind fun _ _ ⟨H',e,h1,h2⟩=> .stop (e▸hc H' _ F h1 h2)
theorem WS.less:∀(k:Nat) (t:Th) (D:Nat→Bool) (H:View) (g:Goroutine) (F:View),Dj H F→WS P X κ k t D H g→WS P X κ k t D (H.plus F) g
 | 0,_,_,_,_,_,_,_=> trivial
 | k + 1,t,D,H,g,F,hd,⟨h1,h2,h3,h4,h5,h6⟩=> by
   have hT:∀(t:Th) (D:Nat→Bool) (H F:View) (g:Goroutine),Dj H F→T (Mw P false X.ok) (WS P X κ k t D) H g→T (Mw P false X.ok) (WS P X κ k t D) (H.plus F) g:=fun t D H F g hd h=> T.less (fun H g F hd h=> WS.less k t D H g F hd h) h hd
   refine⟨h1,fun e D' o hD ho w hw=> ?_,fun e=> ?_,fun e w hw=> ?_,h5,fun e w s hw hs ho hl hf=> ?_⟩
   · obtain⟨g',h7,h8⟩:=h2 e D' o hD ho w hw.left
     refine⟨g',h7,?_⟩
     rw[plus_putW]
     exact hT _ _ _ _ _ hd.putW h8
   · obtain⟨o,H',rfl,h7,h8,h9⟩:=h3 e
     have hF:F X.C=none:=by
       cases hx:F X.C with
       | none=> rfl
       | some y=> have:=hd _ _ hx;rw[View.put_same] at this;cases this
     have hd':Dj H' F:=fun b x hb=> by
       have:=hd b x hb
       have hne:b≠X.C:=by rintro rfl;rw[hF] at hb;cases hb
       rwa [View.put_other _ _ hne] at this
     refine⟨o,H'.plus F,?_,?_,h8,fun w hw=> ?_⟩
     · rw[plus_putW]
       congr 1
       funext b
       by_cases e:b=X.C
       · subst e;simp[View.without,hF]
       · rw[without_other e]
     · rw[plus_right h7,hF]
     · obtain⟨g',h10,h11⟩:=h9 w hw.left
       exact⟨g',h10,hT _ _ _ _ _ hd' h11⟩
   · obtain⟨g',h7,n,h8⟩:=h4 e w hw.left
     exact⟨g',h7,n,h8.mono fun g hg=> WS.less k _ _ _ _ _ hd hg⟩
   · rcases h6 e w s hw.left hs ho hl hf with h7|⟨t',s',g',w',es,a1,a2,a3,a4,a5,a6,a7,a8,a9⟩
     · exact .inl h7
     · refine .inr ⟨t',s',g',w',es,a1,a2,a3,a4,a5,a6,a7,fun b1 b2=> ?_,fun b=> hT _ _ _ _ _ hd (a9 b)⟩
       obtain⟨n,hn⟩:=a8 b1 b2
       exact⟨n,hn.mono fun g hg=> WS.less k _ _ _ _ _ hd hg⟩
theorem Jw.less {k:Nat}{t:Th}{D:Nat→Bool}{H F:View}{g:Goroutine}(h:Jw P X κ k t D H g)(hd:Dj H F):Jw P X κ k t D (H.plus F) g:=
 ⟨h.1,fun e hm=> let ⟨n,hn⟩:=h.2.1 e hm;⟨n,hn.mono fun _ hg=> WS.less k _ _ _ _ _ hd hg⟩,fun hm=> T.less (fun H g F hd h=> WS.less k t D H g F hd h) (h.2.2 hm) hd⟩
theorem without_plus {H:View}{b:Nat}:∃F,Dj (H.without b) F∧(H.without b).plus F=H:=by
 refine⟨fun c=> if c=b then H c else none,fun c x hc=> ?_,?_⟩
 · by_cases e:c=b
   · subst e;simp[View.without]
   · simp[e] at hc
 · funext c
   by_cases e:c=b
   · subst e;simp[View.plus,View.without]
   · simp[View.plus,View.without,e]
     cases H c <;> rfl
theorem Jw.forget {k:Nat}{t:Th}{D:Nat→Bool}{H:View}(b:Nat){g:Goroutine}(h:Jw P X κ k t D (H.without b) g):Jw P X κ k t D H g:=by
 obtain⟨F,h1,h2⟩:=without_plus (H:=H) (b:=b)
 have:=h.less h1
 rwa [h2] at this
theorem OpP.makeFunc {n:Nat}{sh:Shp}{R:Rg}{o:Oper}{f:Fn}{first caps:Array Operand}{vs ws:List Value}(hop:o.op=.makeFunc f first caps)(h1:evRs R first.toList=some vs)(h2:evRs R caps.toList=some ws):OpP P sh n R o (.func f vs.toArray ws.toArray):=fun tmps hr=> by
 unfold execOp;rw[hop]
 show Next.value _=_
 have e1:first.map (evT tmps)=vs.toArray:=by
   rw[←hr.evs h1,List.map_toArray.symm]
 have e2:caps.map (evT tmps)=ws.toArray:=by
   rw[←hr.evs h2,List.map_toArray.symm]
 rw[e1,e2]
theorem T.none {M:Md P}{St:View→Goroutine→Prop}{C:Nat}{H:View}{g:Goroutine}(hok:∀w,M.ok w→C<w.heap.size)(hph:∀H g Po,¬M.Ph H g Po)(h:T M St H g):H C=Option.none→T M (fun H' g'=> H' C=Option.none∧St H' g') H g:=
 h (fun H g=> H C=Option.none→T M (fun H' g'=> H' C=Option.none∧St H' g') H g) (fun _ _ hs hc=> .stop ⟨hc,hs⟩) (fun H g hs hc=> .step ⟨hs.1,fun w hw ho=> by
   obtain⟨g',w',es,H',h1,h2,h3⟩:=hs.2 w hw ho
   refine⟨g',w',es,H',h1,h2,h3 ?_⟩
   cases hx:H' C with
   | none=> rfl
   | some x=>
     obtain⟨f,o⟩:=x
     rcases h2.ext _ _ _ hx with ⟨o',ho'⟩|⟨_,hle⟩
     · rw[hc] at ho';cases ho'
     · have:=hok w ho;omega⟩) (fun _ _ _ hp=> (hph _ _ _ hp).elim)
theorem T.none' {main:Bool}{St:View→Goroutine→Prop}{H:View}{g:Goroutine}(hc:H X.C=Option.none)(h:T (Mw P main X.ok) (fun H' g'=> H' X.C=Option.none→T (Mw P main X.ok) St H' g') H g):T (Mw P main X.ok) St H g:=
 (T.none (M:=Mw P main X.ok) (C:=X.C) (fun _ (h:X.ok _)=> h.1) (fun _ _ _ h=> h) h hc).bind fun _ _ ⟨h1,h2⟩=> h2 h1
theorem Sc.none {main:Bool}{St:View→Goroutine→Prop}{H:View}{n:Nat}{b:FB}{cs:List Frame}{R:Rg}{ds:List Deferred}{kk:List Item}(hc:H X.C=Option.none)
   (h:Sc (T (Mw P main X.ok) (fun H' g'=> H' X.C=Option.none→T (Mw P main X.ok) St H' g') H) n b cs R ds kk):Sc (T (Mw P main X.ok) St H) n b cs R ds kk:=fun tmps hr=> T.none' hc (h tmps hr)
theorem Sc.stopNone {main:Bool}{St:View→Goroutine→Prop}{H:View}{n:Nat}{b:FB}{cs:List Frame}{R:Rg}{ds:List Deferred}{kk:List Item}
   (h:H X.C=Option.none→Sc (T (Mw P main X.ok) St H) n b cs R ds kk):Sc (T (Mw P main X.ok) (fun H' g'=> H' X.C=Option.none→T (Mw P main X.ok) St H' g') H) n b cs R ds kk:=fun tmps hr=> .stop fun hc=> h hc tmps hr
theorem Sc.mono {J J':Goroutine→Prop}{n:Nat}{b:FB}{cs:List Frame}{R:Rg}{ds:List Deferred}{kk:List Item}(h:Sc J n b cs R ds kk)(hj:∀g,J g→J' g):Sc J' n b cs R ds kk:=fun tmps hr=> hj _ (h tmps hr)
end
end Go.RL
end
section
namespace Go.Proofs.YtpdaenfglbgfkaaGreatDoor
open Go.RL Go.Conc
set_option maxRecDepth 10000
theorem e190:Ent Tryz.prog 190 (Extern.Race.marked .releaseMerge):=⟨Tryz.f190,Tryz.func190,by kernel_rfl,by kernel_rfl,by kernel_rfl,by kernel_rfl⟩
theorem e191:Ent Tryz.prog 191 disE:=⟨Tryz.f191,Tryz.func191,by kernel_rfl,by kernel_rfl,by kernel_rfl,by kernel_rfl⟩
theorem e192:Ent Tryz.prog 192 enE:=⟨Tryz.f192,Tryz.func192,by kernel_rfl,by kernel_rfl,by kernel_rfl,by kernel_rfl⟩
theorem e193:Ent Tryz.prog 193 (fun _=> pure (.bool false)):=⟨Tryz.f193,Tryz.func193,by kernel_rfl,by kernel_rfl,by kernel_rfl,by kernel_rfl⟩
theorem e198:Ent Tryz.prog 198 (Extern.Race.marked .read):=⟨Tryz.f198,Tryz.func198,by kernel_rfl,by kernel_rfl,by kernel_rfl,by kernel_rfl⟩
theorem e202:Ent Tryz.prog 202 Extern.Sync.semrelease:=⟨Tryz.f202,Tryz.func202,by kernel_rfl,by kernel_rfl,by kernel_rfl,by kernel_rfl⟩
theorem e205:Ent Tryz.prog 205 (Extern.Race.marked .acquire):=⟨Tryz.f205,Tryz.func205,by kernel_rfl,by kernel_rfl,by kernel_rfl,by kernel_rfl⟩
theorem e208:Ent Tryz.prog 208 (Extern.Race.marked .write):=⟨Tryz.f208,Tryz.func208,by kernel_rfl,by kernel_rfl,by kernel_rfl,by kernel_rfl⟩
theorem e209:Ent Tryz.prog 209 Extern.Sync.semacquire:=⟨Tryz.f209,Tryz.func209,by kernel_rfl,by kernel_rfl,by kernel_rfl,by kernel_rfl⟩
theorem e217:Ent Tryz.prog 217 (Extern.Atomic.update (Op.intArith .add) .u64 true):=⟨Tryz.f217,Tryz.func217,by kernel_rfl,by kernel_rfl,by kernel_rfl,by kernel_rfl⟩
theorem e218:Ent Tryz.prog 218 (Extern.Atomic.loadT (.int .u64)):=⟨Tryz.f218,Tryz.func218,by kernel_rfl,by kernel_rfl,by kernel_rfl,by kernel_rfl⟩
theorem e219:Ent Tryz.prog 219 Extern.Atomic.storeT:=⟨Tryz.f219,Tryz.func219,by kernel_rfl,by kernel_rfl,by kernel_rfl,by kernel_rfl⟩
theorem e220:Ent Tryz.prog 220 (Extern.Atomic.casT (.int .i32)):=⟨Tryz.f220,Tryz.func220,by kernel_rfl,by kernel_rfl,by kernel_rfl,by kernel_rfl⟩
theorem e222:Ent Tryz.prog 222 (Extern.Atomic.update (Op.intArith .add) .i32 true):=⟨Tryz.f222,Tryz.func222,by kernel_rfl,by kernel_rfl,by kernel_rfl,by kernel_rfl⟩
theorem e224:Ent Tryz.prog 224 (Extern.Atomic.casT (.int .u64)):=⟨Tryz.f224,Tryz.func224,by kernel_rfl,by kernel_rfl,by kernel_rfl,by kernel_rfl⟩
theorem e226:Ent Tryz.prog 226 Extern.Sync.canSpin:=⟨Tryz.f226,Tryz.func226,by kernel_rfl,by kernel_rfl,by kernel_rfl,by kernel_rfl⟩
theorem e227:Ent Tryz.prog 227 Extern.Sync.nothing:=⟨Tryz.f227,Tryz.func227,by kernel_rfl,by kernel_rfl,by kernel_rfl,by kernel_rfl⟩
theorem e229:EntN Tryz.prog 229:=⟨Tryz.f229,Tryz.func229,by kernel_rfl,by kernel_rfl,by kernel_rfl,by kernel_rfl,by kernel_rfl⟩
theorem e230:Ent Tryz.prog 230 Extern.Sync.semacquire:=⟨Tryz.f230,Tryz.func230,by kernel_rfl,by kernel_rfl,by kernel_rfl,by kernel_rfl⟩
theorem e232:Ent Tryz.prog 232 Extern.Sync.semrelease:=⟨Tryz.f232,Tryz.func232,by kernel_rfl,by kernel_rfl,by kernel_rfl,by kernel_rfl⟩
theorem fo_202_0:fldOff Tryz.prog 202 0=some 0:=by kernel_rfl
theorem fo_202_1:fldOff Tryz.prog 202 1=some 1:=by kernel_rfl
theorem fo_204_1:fldOff Tryz.prog 204 1=some 0:=by kernel_rfl
theorem fo_209_2:fldOff Tryz.prog 209 2=some 0:=by kernel_rfl
theorem fo_211_1:fldOff Tryz.prog 211 1=some 0:=by kernel_rfl
theorem fo_211_2:fldOff Tryz.prog 211 2=some 1:=by kernel_rfl
theorem un_234:Tryz.prog.underlying 234=some (.pointer 211):=by kernel_rfl
theorem un_236:Tryz.prog.underlying 236=some .unsafePointer:=by kernel_rfl
theorem un_241:Tryz.prog.underlying 241=some (.pointer 200):=by kernel_rfl
theorem un_262:Tryz.prog.underlying 262=some (.pointer 202):=by kernel_rfl
theorem un_3:Tryz.prog.underlying 3=some (.int .i64):=by kernel_rfl
theorem un_21:Tryz.prog.underlying 21=some (.int .i32):=by kernel_rfl
theorem un_200:Tryz.prog.underlying 200=some (.int .u32):=by kernel_rfl
theorem un_207:Tryz.prog.underlying 207=some (.int .u64):=by kernel_rfl
theorem sz_211:(Tryz.prog.info? 211).map (·.size)=some (1+1):=by kernel_rfl
theorem sz_200:(Tryz.prog.info? 200).map (·.size)=some (0+1):=by kernel_rfl
theorem sz_202:(Tryz.prog.info? 202).map (·.size)=some (1+1):=by kernel_rfl
theorem ag_21:tyAgg Tryz.prog 21=some false:=by kernel_rfl
end Go.Proofs.YtpdaenfglbgfkaaGreatDoor
end
section
namespace Go.Proofs.YtpdaenfglbgfkaaGreatDoor
open Go.RL Go.Conc Go.ConcN Go.RL.Au
open Go.ConcR (stA smA)
open Go.ConcM (muA msA)
set_option maxRecDepth 10000
section
variable {main:Bool}{sh:Shp}{J:Goroutine→Prop}{K:Value→(Goroutine→Prop)→Prop}{blk off:Nat}
def KC(main:Bool)(K:Value→(Goroutine→Prop)→Prop):Prop:=∀v J',K v J'→∃sh',Cl Tryz.prog main sh' J'
theorem add64 {d:Int}(hc:Cl Tryz.prog main sh J)(hk:KC main K)(h:AtC J 217 [.pointer (some ⟨blk,off,none⟩),.int .u64 d] K):AtC J 197 [.pointer (some ⟨blk,off,none⟩),.int .u64 d] K:=by
 refine InC.at (by exact hc) ca197 (InC.enter (vs:= [.pointer (some ⟨blk,off,none⟩),.int .u64 d]) Tryz.func197 rfl Tryz.ntmps197 (Nat.le_of_ble_eq_true rfl) fun c cs hK=> ?_)
 refine .sq (.rg rfl rfl ?_)
 refine .g ?_
 refine .dn (.sq (.rg rfl rfl ?_))
 refine .m ?_
 refine .x .nk ?_
 refine .x (.fa (zz:=fo_209_2)) ?_
 refine .m ?_
 refine So.callD rfl rfl rfl nofun rfl (.mk' rfl) rfl (h) ?_
 intro v J' hv
 obtain⟨sh',hc⟩:=hk v J' hv
 refine .g ?_
 refine .dn ?_
 refine Sc.retCode (by exact hc) rfl (Sb.leave (by exact hc) Tryz.func197 rfl (by exact .inr ⟨_,Tryz.results197,rfl⟩) ?_)
 exact hK v J' hv
theorem load64(hc:Cl Tryz.prog main sh J)(hk:KC main K)(h:AtC J 218 [.pointer (some ⟨blk,off,none⟩)] K):AtC J 199 [.pointer (some ⟨blk,off,none⟩)] K:=by
 refine InC.at (by exact hc) ca199 (InC.enter (vs:= [.pointer (some ⟨blk,off,none⟩)]) Tryz.func199 rfl Tryz.ntmps199 (Nat.le_of_ble_eq_true rfl) fun c cs hK=> ?_)
 refine .sq (.rg rfl rfl ?_)
 refine .g ?_
 refine .dn (.sq (.rg rfl rfl ?_))
 refine .m ?_
 refine .x .nk ?_
 refine .x (.fa (zz:=fo_209_2)) ?_
 refine So.callD rfl rfl rfl nofun rfl (.mk' rfl) rfl (h) ?_
 intro v J' hv
 obtain⟨sh',hc⟩:=hk v J' hv
 refine .g ?_
 refine .dn ?_
 refine Sc.retCode (by exact hc) rfl (Sb.leave (by exact hc) Tryz.func199 rfl (by exact .inr ⟨_,Tryz.results199,rfl⟩) ?_)
 exact hK v J' hv
theorem store64 {d:Int}(hc:Cl Tryz.prog main sh J)(hk:KC main K)(hu:∀v J',K v J'→v=.tuple #[])(h:AtC J 219 [.pointer (some ⟨blk,off,none⟩),.int .u64 d] K):AtC J 200 [.pointer (some ⟨blk,off,none⟩),.int .u64 d] K:=by
 refine InC.at (by exact hc) ca200 (InC.enter (vs:= [.pointer (some ⟨blk,off,none⟩),.int .u64 d]) Tryz.func200 rfl Tryz.ntmps200 (Nat.le_of_ble_eq_true rfl) fun c cs hK=> ?_)
 refine .rg rfl rfl ?_
 refine .m ?_
 refine .x .nk ?_
 refine .x (.fa (zz:=fo_209_2)) ?_
 refine .m ?_
 refine So.callD rfl rfl rfl nofun rfl (.mk' rfl) rfl (h) ?_
 intro v J' hv
 obtain⟨sh',hc⟩:=hk v J' hv
 refine .dn ?_
 refine Sc.over (by exact hc) rfl (Sb.leave (by exact hc) Tryz.func200 rfl (by exact .inl ⟨Tryz.results200,rfl⟩) ?_)
 exact hu v J' hv▸hK v J' hv
theorem cas64 {d e:Int}(hc:Cl Tryz.prog main sh J)(hk:KC main K)(h:AtC J 224 [.pointer (some ⟨blk,off,none⟩),.int .u64 d,.int .u64 e] K):AtC J 207 [.pointer (some ⟨blk,off,none⟩),.int .u64 d,.int .u64 e] K:=by
 refine InC.at (by exact hc) ca207 (InC.enter (vs:= [.pointer (some ⟨blk,off,none⟩),.int .u64 d,.int .u64 e]) Tryz.func207 rfl Tryz.ntmps207 (Nat.le_of_ble_eq_true rfl) fun c cs hK=> ?_)
 refine .sq (.rg rfl rfl ?_)
 refine .g ?_
 refine .dn (.sq (.rg rfl rfl ?_))
 refine .m ?_
 refine .x .nk ?_
 refine .x (.fa (zz:=fo_209_2)) ?_
 refine .m ?_
 refine .m ?_
 refine So.callD rfl rfl rfl nofun rfl (.mk' rfl) rfl (h) ?_
 intro v J' hv
 obtain⟨sh',hc⟩:=hk v J' hv
 refine .g ?_
 refine .dn ?_
 refine Sc.retCode (by exact hc) rfl (Sb.leave (by exact hc) Tryz.func207 rfl (by exact .inr ⟨_,Tryz.results207,rfl⟩) ?_)
 exact hK v J' hv
end
end Go.Proofs.YtpdaenfglbgfkaaGreatDoor
end
section
namespace Go.Proofs.YtpdaenfglbgfkaaGreatDoor
open Go.RL Go.Conc Go.ConcN Go.RL.Au
open Go.ConcR (stA smA)
open Go.ConcM (muA msA)
set_option maxRecDepth 10000
set_option maxHeartbeats 4000000
theorem and5:∀x:Nat,x<128→bitI .and .i32 (x:Int) 5=((x%2+x/4%2*4:Nat):Int):=by decide +kernel
theorem and4:∀x:Nat,x<128→bitI .and .i32 (x:Int) 4=((x/4%2*4:Nat):Int):=by decide +kernel
theorem and3:∀x:Nat,x<128→bitI .and .i32 (x:Int) 3=((x%4:Nat):Int):=by decide +kernel
theorem and2:∀x:Nat,x<128→bitI .and .i32 (x:Int) 2=((x/2%2*2:Nat):Int):=by decide +kernel
theorem and1:∀x:Nat,x<128→bitI .and .i32 (x:Int) 1=((x%2:Nat):Int):=by decide +kernel
theorem and7:∀x:Nat,x<128→bitI .and .i32 (x:Int) 7=((x%8:Nat):Int):=by decide +kernel
theorem or1:∀x:Nat,x<128→bitI .or .i32 (x:Int) 1=((x+1-x%2:Nat):Int):=by decide +kernel
theorem or2:∀x:Nat,x<128→bitI .or .i32 (x:Int) 2=((x+2-x/2%2*2:Nat):Int):=by decide +kernel
theorem or4:∀x:Nat,x<128→bitI .or .i32 (x:Int) 4=((x+4-x/4%2*4:Nat):Int):=by decide +kernel
theorem andNot2:∀x:Nat,x<128→bitI .andNot .i32 (x:Int) 2=((x-x/2%2*2:Nat):Int):=by decide +kernel
theorem shr3:∀x:Nat,x<128→(x:Int).fdiv (2 ^ (min (3:Int).toNat IntKind.i32.bits))=((x/8:Nat):Int):=by decide +kernel
theorem and5_(x:Nat)(h:x<128):intBin .and .i32 (x:Int) 5=some (.int .i32 ((x%2+x/4%2*4:Nat):Int)):=by rw[←and5 x h];rfl
theorem and4_(x:Nat)(h:x<128):intBin .and .i32 (x:Int) 4=some (.int .i32 ((x/4%2*4:Nat):Int)):=by rw[←and4 x h];rfl
theorem and3_(x:Nat)(h:x<128):intBin .and .i32 (x:Int) 3=some (.int .i32 ((x%4:Nat):Int)):=by rw[←and3 x h];rfl
theorem and2_(x:Nat)(h:x<128):intBin .and .i32 (x:Int) 2=some (.int .i32 ((x/2%2*2:Nat):Int)):=by rw[←and2 x h];rfl
theorem and1_(x:Nat)(h:x<128):intBin .and .i32 (x:Int) 1=some (.int .i32 ((x%2:Nat):Int)):=by rw[←and1 x h];rfl
theorem and7_(x:Nat)(h:x<128):intBin .and .i32 (x:Int) 7=some (.int .i32 ((x%8:Nat):Int)):=by rw[←and7 x h];rfl
theorem or1_(x:Nat)(h:x<128):intBin .or .i32 (x:Int) 1=some (.int .i32 ((x+1-x%2:Nat):Int)):=by rw[←or1 x h];rfl
theorem or2_(x:Nat)(h:x<128):intBin .or .i32 (x:Int) 2=some (.int .i32 ((x+2-x/2%2*2:Nat):Int)):=by rw[←or2 x h];rfl
theorem or4_(x:Nat)(h:x<128):intBin .or .i32 (x:Int) 4=some (.int .i32 ((x+4-x/4%2*4:Nat):Int)):=by rw[←or4 x h];rfl
theorem andNot2_(x:Nat)(h:x<128):intBin .andNot .i32 (x:Int) 2=some (.int .i32 ((x-x/2%2*2:Nat):Int)):=by rw[←andNot2 x h];rfl
theorem shr3_(x:Nat)(h:x<128):shiftV .shr .i32 (x:Int) 3=some (.int .i32 ((x/8:Nat):Int)):=by rw[←shr3 x h];rfl
theorem add8_(x:Nat)(h:x<1000):intBin .add .i32 (x:Int) 8=some (.int .i32 ((x+8:Nat):Int)):=by
 show some (Value.int .i32 (IntKind.i32.wrap ((x:Int)+8)))=_
 rw[wrap_i32 (by omega) (by omega)];rfl
theorem add1_(x:Nat)(h:x<1000):intBin .add .i32 (x:Int) 1=some (.int .i32 ((x+1:Nat):Int)):=by
 show some (Value.int .i32 (IntKind.i32.wrap ((x:Int)+1)))=_
 rw[wrap_i32 (by omega) (by omega)];rfl
theorem sub8_(x:Nat)(h:8≤x∧x<1000):intBin .sub .i32 (x:Int) 8=some (.int .i32 ((x-8:Nat):Int)):=by
 show some (Value.int .i32 (IntKind.i32.wrap ((x:Int)-8)))=_
 rw[wrap_i32 (by omega) (by omega)]
 congr 2
 omega
theorem nr221:(Tryz.prog.funcs[221]?).any (·.norace)=true:=by kernel_rfl
noncomputable def code221:Code:=bodyOf Tryz.f221
noncomputable def at221:Code:=cR (cR (cR (cR (cR code221))))
noncomputable def B221:Code:=cB (cB (cL at221))
noncomputable def tail221:Code:=cR at221
abbrev b221:FB:=⟨221,.normal,none⟩
section
variable {X:Fk}{κ:Nat}{D:Nat→Bool}{H:View}{cc:Frame}{cs:List Frame}
def LockK(X:Fk)(κ:Nat)(H:View)(v:Value)(J':Goroutine→Prop):Prop:=v=.tuple #[]∧∃k' D' o,D' κ=false∧X.GI D' o∧J'=Jw Tryz.prog X κ k' .up D' (H.put X.C (true,o))
theorem shp_mu(X:Fk):∃e c,X.shp X.Mu=some (e,c)∧0<c:=⟨X.tM,2,by simp[Fk.shp],by decide⟩
theorem slow_tail {k:Nat}{R:Rg}(hK:∀v J',LockK X κ H v J'→J' (G (cc.finish v) cs))(h0:lk R 0=some (.pointer (some ⟨X.Mu,0,none⟩))):Sc (Jw Tryz.prog X κ k .le D H) 139 b221 (cc::cs) R [] [.code tail221]:=by
 refine Sc.drop (R':= [(0,.pointer (some ⟨X.Mu,0,none⟩))]) ⟨h0,trivial⟩ ?_
 refine .tt rfl (.sq (.rg rfl rfl ?_))
 refine So.callD rfl rfl rfl nofun rfl (.mk' rfl) rfl (Jw.le e192) ?_
 rintro v J' ⟨k,t, -,⟨rfl,rfl⟩,rfl⟩
 refine .dn ?_
 have hsh:=shp_mu X
 refine .rg rfl rfl ?_
 refine .m ?_
 refine .x (OpP.raw rfl rfl un_262 un_236 sz_202 (by assumption)) ?_
 refine So.callD rfl rfl rfl nofun rfl (.mk' rfl) rfl (Jw.la e205) ?_
 rintro v J' ⟨rfl,k',D',o, -,h1,h2,rfl⟩
 refine .dn ?_
 refine Sc.over (by exact Jw.clX rfl) rfl (Sb.leave (by exact Jw.clX rfl) Tryz.func221 rfl (by exact .inl ⟨Tryz.results221,rfl⟩) ?_)
 exact hK _ _ ⟨rfl,k',D',o,h1,h2,rfl⟩
abbrev RH(X:Fk)(o:Nat)(c:Lc)(z:Int):Rg:= [(0,.pointer (some ⟨X.Mu,0,none⟩)),(2,.int .i64 z),(3,.bool c.sv),(4,.bool c.aw),(5,.int .i64 (c.it:Int)),(6,.int .i32 (o:Int))]
def Head(X:Fk)(κ:Nat)(D:Nat→Bool)(H:View)(cc:Frame)(cs:List Frame)(k:Nat):Prop:=
 ∀ (o:Nat) (c:Lc) (z:Int),o<64→(c.aw=true→o/2%2=1∧o/4%2=0)→(c.sv=true→c.aw=true)→c.ws=decide (z≠0)→
   Sc (Jw Tryz.prog X κ k (hd o c) D H) 139 b221 (cc::cs) (RH X o c z) [] [.code B221,.inLoop B221,.inBlock 0,.code tail221]
noncomputable def BB:Code:=cB B221
noncomputable def if221:Code:=cR (cR (cR (cR (cR (cR (cR BB))))))
noncomputable def XX:Code:=cT if221
theorem slow_back {k2:Nat}(hK:∀v J',LockK X κ H v J'→J' (G (cc.finish v) cs))(IH:∀k'<k2,Head X κ D H cc cs k')(ne:X.Mu≠X.Wg){R':Rg}{aw sv' ws:Bool}{it:Nat}{z:Int}(hw:ws=decide (z≠0))
   (hR':AllIn [(0,.pointer (some ⟨X.Mu,0,none⟩)),(2,.int .i64 z),(3,.bool sv'),(5,.int .i64 (it:Int)),(4,.bool aw)] R'):Sc (Jw Tryz.prog X κ k2 (.r2 ⟨aw,sv',ws,it⟩) D H) 139 b221 (cc::cs) R' [] [.code (cR (cR (cR (cR (cR XX))))),.inBlock 1,.inLoop B221,.inBlock 0,.code tail221]:=by
 refine Sc.drop hR' ?_
 refine .sq (.rg rfl rfl ?_)
 refine .m ?_
 refine .x .nk ?_
 refine .x (.fa (zz:=fo_202_0)) ?_
 refine Jw.ldM rfl rfl rfl rfl rfl rfl rfl ag_21 nr221 (fun s hok hloc hf=> ?_)
 obtain⟨g1,g2⟩:=hok
 have h64:=hf.1
 by_cases h4:s.m/4%2=1
 · obtain⟨m1,m2,m8⟩:=g1 h4
   cases sv' with
   | false=>
     refine⟨.a1 true,by simp[Th.mv,h4],rfl,fun k3 hk3=> ?_⟩
     refine .g ?_
     refine .dn (.sq (.sq (.rg rfl rfl ?_)))
     refine .m ?_
     refine .i ?_ (z:=and4_ _ (by omega))
     refine .i ?_ (z:=neq_t (by omega))
     refine .dn (.tt rfl (.sq (.sq (.rg rfl rfl ?_))))
     refine .m ?_
     refine .i ?_ (z:=and3_ _ (by omega))
     refine .i ?_ (z:=neq_f (by omega))
     refine .m ?_
     refine .m ?_
     refine .x (OpP.shift rfl rfl rfl (by omega) (by exact shr3_ _ (by omega))) ?_
     refine .i ?_ (z:=eql_f (by omega))
     refine .x .pk ?_
     refine .dn (.ff rfl (.sp (.sq (.rg rfl rfl ?_))))
     refine .g ?_
     refine .dn (.sq (.sq (.rg rfl rfl ?_)))
     refine .m ?_
     refine .x .nt ?_
     refine .m ?_
     refine .sk ?_
     refine .sk ?_
     refine .sk ?_
     refine .x .pk ?_
     refine .dn (.tt rfl (.rg rfl rfl ?_))
     refine .m ?_
     refine .i ?_ (z:=by exact rfl)
     refine .g ?_
     refine .dn (.sq (.rg rfl rfl ?_))
     refine .m ?_
     refine .x .nk ?_
     refine .x (.fa (zz:=fo_202_0)) ?_
     refine .m ?_
     refine So.callD rfl rfl rfl nofun rfl (.mk' rfl) rfl (Jw.a1 (bb:=true) ne e222) ?_
     rintro v J' ⟨k4,t, -,⟨⟨y,rfl⟩,rfl⟩,rfl⟩
     refine .dn (.xt rfl ?_)
     exact slow_tail hK rfl
   | true=>
     by_cases e:s.m/8=1
     · refine⟨.a1 true,by simp[Th.mv,h4,e],rfl,fun k3 hk3=> ?_⟩
       refine .g ?_
       refine .dn (.sq (.sq (.rg rfl rfl ?_)))
       refine .m ?_
       refine .i ?_ (z:=and4_ _ (by omega))
       refine .i ?_ (z:=neq_t (by omega))
       refine .dn (.tt rfl (.sq (.sq (.rg rfl rfl ?_))))
       refine .m ?_
       refine .i ?_ (z:=and3_ _ (by omega))
       refine .i ?_ (z:=neq_f (by omega))
       refine .m ?_
       refine .m ?_
       refine .x (OpP.shift rfl rfl rfl (by omega) (by exact shr3_ _ (by omega))) ?_
       refine .i ?_ (z:=eql_f (by omega))
       refine .x .pk ?_
       refine .dn (.ff rfl (.sp (.sq (.rg rfl rfl ?_))))
       refine .g ?_
       refine .dn (.sq (.sq (.rg rfl rfl ?_)))
       refine .m ?_
       refine .x .nt ?_
       refine .m ?_
       refine .m ?_
       refine .x (OpP.shift rfl rfl rfl (by omega) (by exact shr3_ _ (by omega))) ?_
       refine .i ?_ (z:=eql_t (by omega))
       refine .x .pk ?_
       refine .dn (.tt rfl (.rg rfl rfl ?_))
       refine .m ?_
       refine .i ?_ (z:=by exact rfl)
       refine .g ?_
       refine .dn (.sq (.rg rfl rfl ?_))
       refine .m ?_
       refine .x .nk ?_
       refine .x (.fa (zz:=fo_202_0)) ?_
       refine .m ?_
       refine So.callD rfl rfl rfl nofun rfl (.mk' rfl) rfl (Jw.a1 (bb:=true) ne e222) ?_
       rintro v J' ⟨k4,t, -,⟨⟨y,rfl⟩,rfl⟩,rfl⟩
       refine .dn (.xt rfl ?_)
       exact slow_tail hK rfl
     · refine⟨.a1 false,by simp[Th.mv,h4,e],rfl,fun k3 hk3=> ?_⟩
       refine .g ?_
       refine .dn (.sq (.sq (.rg rfl rfl ?_)))
       refine .m ?_
       refine .i ?_ (z:=and4_ _ (by omega))
       refine .i ?_ (z:=neq_t (by omega))
       refine .dn (.tt rfl (.sq (.sq (.rg rfl rfl ?_))))
       refine .m ?_
       refine .i ?_ (z:=and3_ _ (by omega))
       refine .i ?_ (z:=neq_f (by omega))
       refine .m ?_
       refine .m ?_
       refine .x (OpP.shift rfl rfl rfl (by omega) (by exact shr3_ _ (by omega))) ?_
       refine .i ?_ (z:=eql_f (by omega))
       refine .x .pk ?_
       refine .dn (.ff rfl (.sp (.sq (.rg rfl rfl ?_))))
       refine .g ?_
       refine .dn (.sq (.sq (.rg rfl rfl ?_)))
       refine .m ?_
       refine .x .nt ?_
       refine .m ?_
       refine .m ?_
       refine .x (OpP.shift rfl rfl rfl (by omega) (by exact shr3_ _ (by omega))) ?_
       refine .i ?_ (z:=eql_f (by omega))
       refine .x .pk ?_
       refine .dn (.ff rfl (.sp (.sq (.rg rfl rfl ?_))))
       refine .m ?_
       refine .x .nk ?_
       refine .x (.fa (zz:=fo_202_0)) ?_
       refine .m ?_
       refine So.callD rfl rfl rfl nofun rfl (.mk' rfl) rfl (Jw.a1 (bb:=false) ne e222) ?_
       rintro v J' ⟨k4,t, -,⟨⟨y,rfl⟩,rfl⟩,rfl⟩
       refine .dn (.xt rfl ?_)
       exact slow_tail hK rfl
 · have h2:=g2 (by omega)
   refine⟨hd s.m ⟨true,sv',ws,0⟩,by simp[Th.mv,h4],(by unfold hd;split <;> rfl),fun k3 hk3=> ?_⟩
   refine .g ?_
   refine .dn (.sq (.sq (.rg rfl rfl ?_)))
   refine .m ?_
   refine .i ?_ (z:=and4_ _ (by omega))
   refine .i ?_ (z:=neq_f (by omega))
   refine .dn (.ff rfl (.sp (.sq (.rg rfl rfl ?_))))
   refine .g ?_
   refine .dn (.rg rfl rfl ?_)
   refine .g ?_
   refine .dn (.ib ?_)
   refine Sc.inLoop (by exact Jw.cl0) ?_
   exact Sc.drop (by exact⟨rfl,rfl,rfl,rfl,rfl,rfl,trivial⟩) (IH k3 (by omega) s.m ⟨true,sv',ws,0⟩ z h64 (fun _=> ⟨h2,by omega⟩) (fun _=> rfl) hw)
theorem slow_wait {k:Nat}(hK:∀v J',LockK X κ H v J'→J' (G (cc.finish v) cs))(IH:∀k'<k,Head X κ D H cc cs k')(ne:X.Mu≠X.Wg){R:Rg}{o:Nat}{aw sv ws q:Bool}{it:Nat}{z:Int}(hw:ws=decide (z≠0))
   (hR:AllIn ((8,.bool q)::RH X o ⟨aw,sv,ws,it⟩ z) R):Sc (Jw Tryz.prog X κ k (.s1 ⟨aw,sv,ws,it⟩) D H) 139 b221 (cc::cs) R [] [.code (cR (cR (cR XX))),.inBlock 1,.inLoop B221,.inBlock 0,.code tail221]:=by
 refine Sc.drop hR ?_
 refine .sq (.rg rfl rfl ?_)
 refine .m ?_
 refine .x .nk ?_
 refine .x (.fa (zz:=fo_202_1)) ?_
 refine .m ?_
 refine So.callD rfl rfl rfl nofun rfl (.mk' rfl) rfl (Jw.s1 ne (vs:= [.pointer (some ⟨X.Mu,1,none⟩),.bool q,.int .i64 2]) e230 rfl) ?_
 rintro v J' ⟨k1,t,hk1,⟨rfl,rfl⟩,rfl⟩
 refine .dn (.sq ?_)
 cases sv with
 | true=>
   refine .rg rfl rfl ?_
   refine Jw.t2' rfl rfl rfl .mv (fun k2 hk2=> ?_)
   refine .m ?_
   refine .sk ?_
   refine .sk ?_
   refine .sk ?_
   refine .sk ?_
   refine .x .pk ?_
   refine .g ?_
   refine .dn ?_
   exact slow_back hK (fun k' h=> IH k' (by omega)) ne hw ⟨rfl,rfl,rfl,rfl,rfl,trivial⟩
 | false=>
   refine .rg rfl rfl ?_
   refine .m ?_
   refine .m ?_
   skip
   refine So.callD rfl rfl rfl nofun rfl (.mk' rfl) rfl (Jw.t2 e229 (fun z1=> decide (IntKind.i64.wrap (z1-z)>1000000)) (fun z1=> by cases decide (IntKind.i64.wrap (z1-z)>1000000) <;> simp)) ?_
   rintro v J' ⟨k2,z1,hk2,rfl,rfl⟩
   refine .m ?_
   refine .i ?_ (z:=by exact rfl)
   refine .i ?_ (z:=by exact rfl)
   refine .x .pk ?_
   refine .g ?_
   refine .dn ?_
   exact slow_back hK (fun k' h=> IH k' (by omega)) ne hw ⟨rfl,rfl,rfl,rfl,rfl,trivial⟩
end
end Go.Proofs.YtpdaenfglbgfkaaGreatDoor
end
section
namespace Go.Proofs.YtpdaenfglbgfkaaGreatDoor
open Go.RL Go.Conc Go.ConcN Go.RL.Au
open Go.ConcR (stA smA)
open Go.ConcM (muA msA)
set_option maxRecDepth 10000
set_option maxHeartbeats 4000000
section
variable {X:Fk}{κ:Nat}{D:Nat→Bool}{H:View}{cc:Frame}{cs:List Frame}
theorem slow_sleep {k:Nat}(hK:∀v J',LockK X κ H v J'→J' (G (cc.finish v) cs))(IH:∀k'<k,Head X κ D H cc cs k')(ne:X.Mu≠X.Wg){R:Rg}{o:Nat}{aw sv ws:Bool}{it:Nat}{z:Int}(hw:ws=decide (z≠0))
   (hR:AllIn (RH X o ⟨aw,sv,ws,it⟩ z) R):Sc (Jw Tryz.prog X κ k (if ws then .s1 ⟨aw,sv,ws,it⟩ else .t1 ⟨aw,sv,ws,it⟩) D H) 139 b221 (cc::cs) R [] [.code (cR XX),.inBlock 1,.inLoop B221,.inBlock 0,.code tail221]:=by
 refine Sc.drop hR ?_
 by_cases hz:z=0
 · subst hz
   have hw':ws=false:=by rw[hw];rfl
   subst hw'
   simp only[Bool.false_eq_true,if_false]
   refine .sq (.rg rfl rfl ?_)
   refine .m ?_
   refine .i ?_ (z:=neq_f (by omega))
   refine .g ?_
   refine .dn (.sq (.sq (.rg rfl rfl ?_)))
   refine .m ?_
   refine .i ?_ (z:=eql_t (by omega))
   refine .dn (.tt rfl (.rg rfl rfl ?_))
   refine So.callD rfl rfl rfl nofun rfl (.mk' rfl) rfl (Jw.t1 e229) ?_
   rintro v J' ⟨k1,z1,hk1,rfl,rfl⟩
   refine .g ?_
   refine .dn ?_
   exact slow_wait (o:=o) (q:=false) hK (fun k' h=> IH k' (by omega)) ne rfl ⟨rfl,rfl,rfl,rfl,rfl,rfl,rfl,trivial⟩
 · have hw':ws=true:=by rw[hw];exact decide_eq_true hz
   subst hw'
   simp only[if_true]
   refine .sq (.rg rfl rfl ?_)
   refine .m ?_
   refine .i ?_ (z:=neq_t (by omega))
   refine .g ?_
   refine .dn (.sq (.sq (.rg rfl rfl ?_)))
   refine .m ?_
   refine .i ?_ (z:=eql_f (by omega))
   refine .dn (.ff rfl (.sp ?_))
   exact slow_wait (o:=o) (q:=true) hK (fun k' h=> IH k' (by omega)) ne hw ⟨rfl,rfl,rfl,rfl,rfl,rfl,rfl,trivial⟩
theorem newW_eq {o:Nat}{c:Lc}{x:Int}(hx:x=((newW o c:Nat):Int)){k:Nat}(ne:X.Mu≠X.Wg):AtC (Jw Tryz.prog X κ k (.c2 o c) D H) 220 [.pointer (some (muA X.Mu)),.int .i32 (o:Int),.int .i32 x] fun v J'=> ∃k' t',k'<k∧((v=.bool true∧t'=(if o%2=0∧o/4%2=0 then Th.le else if c.ws then .s1 c else .t1 c))∨(v=.bool false∧t'=Th.r3 c))∧J'=Jw Tryz.prog X κ k' t' D H:=
 hx▸Jw.c2 ne e220
theorem slow_c2 {k:Nat}(hK:∀v J',LockK X κ H v J'→J' (G (cc.finish v) cs))(IH:∀k'<k,Head X κ D H cc cs k')(ne:X.Mu≠X.Wg){R:Rg}{o:Nat}{aw sv ws:Bool}{it:Nat}{z:Int}(ho:o<64)(ha:aw=true→o/2%2=1∧o/4%2=0)(hs:sv=true→aw=true)(hw:ws=decide (z≠0))
   (hR:AllIn (RH X o ⟨aw,sv,ws,it⟩ z) R):Sc (Jw Tryz.prog X κ k (.c2 o ⟨aw,sv,ws,it⟩) D H) 139 b221 (cc::cs) R [] [.code (cR BB),.inBlock 1,.inLoop B221,.inBlock 0,.code tail221]:=by
 refine Sc.drop hR ?_
 have key:∀(x:Int) (R':Rg),x=((newW o ⟨aw,sv,ws,it⟩:Nat):Int)→AllIn ((7,.int .i32 x)::RH X o ⟨aw,sv,ws,it⟩ z) R'→Sc (Jw Tryz.prog X κ k (.c2 o ⟨aw,sv,ws,it⟩) D H) 139 b221 (cc::cs) R' [] [.code (cR (cR (cR (cR (cR (cR BB)))))),.inBlock 1,.inLoop B221,.inBlock 0,.code tail221]:=by
   intro x R' hx hR'
   refine Sc.drop hR' ?_
   refine .sq (.rg rfl rfl ?_)
   refine .m ?_
   refine .x .nk ?_
   refine .x (.fa (zz:=fo_202_0)) ?_
   refine .m ?_
   refine .m ?_
   refine So.callD rfl rfl rfl nofun rfl (.mk' rfl) rfl (newW_eq hx ne) ?_
   rintro v J' ⟨k1,t,hk1,hv,rfl⟩
   rcases hv with ⟨rfl,rfl⟩|⟨rfl,rfl⟩
   · by_cases h0:o%2=0∧o/4%2=0
     · rw[if_pos h0]
       obtain⟨h1,h4⟩:=h0
       refine .dn (.tt rfl (.sq (.sq (.rg rfl rfl ?_))))
       refine .m ?_
       refine .i ?_ (z:=and5_ _ (by omega))
       refine .i ?_ (z:=eql_t (by omega))
       refine .dn (.tt rfl (.xt rfl ?_))
       exact slow_tail hK rfl
     · rw[if_neg h0]
       refine .dn (.tt rfl (.sq (.sq (.rg rfl rfl ?_))))
       refine .m ?_
       refine .i ?_ (z:=and5_ _ (by omega))
       refine .i ?_ (z:=eql_f (by omega))
       refine .dn (.ff rfl (.sp ?_))
       exact slow_sleep (o:=o) hK (fun k' h=> IH k' (by omega)) ne hw ⟨rfl,rfl,rfl,rfl,rfl,rfl,trivial⟩
   · refine .dn (.ff rfl (.rg rfl rfl ?_))
     refine .m ?_
     refine .x .nk ?_
     refine .x (.fa (zz:=fo_202_0)) ?_
     refine Jw.ldM rfl rfl rfl rfl rfl rfl rfl ag_21 nr221 (fun s hok hloc hf=> ⟨hd s.m ⟨aw,sv,ws,it⟩,by simp[Th.mv],(by unfold hd;split <;> rfl),fun k2 hk2=> ?_⟩)
     refine .g ?_
     refine .dn (.ib ?_)
     refine Sc.inLoop (by exact Jw.cl0) ?_
     exact Sc.drop (by exact⟨rfl,rfl,rfl,rfl,rfl,rfl,trivial⟩) (IH k2 (by omega) s.m ⟨aw,sv,ws,it⟩ z hf.1 hok hs hw)
 rcases Nat.mod_two_eq_zero_or_one o with h1|h1
 · rcases Nat.mod_two_eq_zero_or_one (o/4) with h4|h4
   · cases aw with
     | false=>
       cases sv with
       | true=> exact nomatch hs rfl
       | false=>
         refine .sq (.rg rfl rfl ?_)
         refine .m ?_
         refine .g ?_
         refine .dn (.sq (.sq (.rg rfl rfl ?_)))
         refine .m ?_
         refine .i ?_ (z:=and4_ _ (by omega))
         refine .i ?_ (z:=eql_t (by omega))
         refine .dn (.tt rfl (.rg rfl rfl ?_))
         refine .m ?_
         refine .i ?_ (z:=or1_ _ (by omega))
         refine .g ?_
         refine .dn (.sq (.sq (.rg rfl rfl ?_)))
         refine .m ?_
         refine .i ?_ (z:=and5_ _ (by omega))
         refine .i ?_ (z:=neq_f (by omega))
         refine .dn (.ff rfl (.sp (.sq (.sq (.rg rfl rfl ?_)))))
         refine .m ?_
         refine .m ?_
         refine .sk ?_
         refine .sk ?_
         refine .sk ?_
         refine .x .pk ?_
         refine .dn (.ff rfl (.sp (.sq (.sq (.rg rfl rfl ?_)))))
         refine .m ?_
         refine .dn (.ff rfl (.sp ?_))
         refine key _ _ ?_ ⟨rfl,rfl,rfl,rfl,rfl,rfl,rfl,trivial⟩
         simp[newW,h1,h4] <;> omega
     | true=>
       cases sv with
       | true=>
         refine .sq (.rg rfl rfl ?_)
         refine .m ?_
         refine .g ?_
         refine .dn (.sq (.sq (.rg rfl rfl ?_)))
         refine .m ?_
         refine .i ?_ (z:=and4_ _ (by omega))
         refine .i ?_ (z:=eql_t (by omega))
         refine .dn (.tt rfl (.rg rfl rfl ?_))
         refine .m ?_
         refine .i ?_ (z:=or1_ _ (by omega))
         refine .g ?_
         refine .dn (.sq (.sq (.rg rfl rfl ?_)))
         refine .m ?_
         refine .i ?_ (z:=and5_ _ (by omega))
         refine .i ?_ (z:=neq_f (by omega))
         refine .dn (.ff rfl (.sp (.sq (.sq (.rg rfl rfl ?_)))))
         refine .m ?_
         refine .m ?_
         refine .m ?_
         refine .i ?_ (z:=and1_ _ (by omega))
         refine .i ?_ (z:=neq_f (by omega))
         refine .x .pk ?_
         refine .dn (.ff rfl (.sp (.sq (.sq (.rg rfl rfl ?_)))))
         refine .m ?_
         refine .dn ?_
         obtain⟨g2, -⟩:=ha rfl
         refine .tt rfl (.sq (.sq (.rg rfl rfl ?_)))
         refine .m ?_
         refine .i ?_ (z:=and2_ _ (by omega))
         refine .i ?_ (z:=eql_f (by omega))
         refine .dn (.ff rfl (.sp (.rg rfl rfl ?_)))
         refine .m ?_
         refine .i ?_ (z:=andNot2_ _ (by omega))
         refine .g ?_
         refine .dn ?_
         refine key _ _ ?_ ⟨rfl,rfl,rfl,rfl,rfl,rfl,rfl,trivial⟩
         simp[newW,h1,h4] <;> omega
       | false=>
         refine .sq (.rg rfl rfl ?_)
         refine .m ?_
         refine .g ?_
         refine .dn (.sq (.sq (.rg rfl rfl ?_)))
         refine .m ?_
         refine .i ?_ (z:=and4_ _ (by omega))
         refine .i ?_ (z:=eql_t (by omega))
         refine .dn (.tt rfl (.rg rfl rfl ?_))
         refine .m ?_
         refine .i ?_ (z:=or1_ _ (by omega))
         refine .g ?_
         refine .dn (.sq (.sq (.rg rfl rfl ?_)))
         refine .m ?_
         refine .i ?_ (z:=and5_ _ (by omega))
         refine .i ?_ (z:=neq_f (by omega))
         refine .dn (.ff rfl (.sp (.sq (.sq (.rg rfl rfl ?_)))))
         refine .m ?_
         refine .m ?_
         refine .sk ?_
         refine .sk ?_
         refine .sk ?_
         refine .x .pk ?_
         refine .dn (.ff rfl (.sp (.sq (.sq (.rg rfl rfl ?_)))))
         refine .m ?_
         refine .dn ?_
         obtain⟨g2, -⟩:=ha rfl
         refine .tt rfl (.sq (.sq (.rg rfl rfl ?_)))
         refine .m ?_
         refine .i ?_ (z:=and2_ _ (by omega))
         refine .i ?_ (z:=eql_f (by omega))
         refine .dn (.ff rfl (.sp (.rg rfl rfl ?_)))
         refine .m ?_
         refine .i ?_ (z:=andNot2_ _ (by omega))
         refine .g ?_
         refine .dn ?_
         refine key _ _ ?_ ⟨rfl,rfl,rfl,rfl,rfl,rfl,rfl,trivial⟩
         simp[newW,h1,h4] <;> omega
   · cases aw with
     | true=> exact absurd (ha rfl).2 (by omega)
     | false=>
       cases sv with
       | true=> exact nomatch hs rfl
       | false=>
         refine .sq (.rg rfl rfl ?_)
         refine .m ?_
         refine .g ?_
         refine .dn (.sq (.sq (.rg rfl rfl ?_)))
         refine .m ?_
         refine .i ?_ (z:=and4_ _ (by omega))
         refine .i ?_ (z:=eql_f (by omega))
         refine .dn (.ff rfl (.sp (.sq (.sq (.rg rfl rfl ?_)))))
         refine .m ?_
         refine .i ?_ (z:=and5_ _ (by omega))
         refine .i ?_ (z:=neq_t (by omega))
         refine .dn (.tt rfl (.rg rfl rfl ?_))
         refine .m ?_
         refine .i ?_ (z:=add8_ _ (by omega))
         refine .g ?_
         refine .dn (.sq (.sq (.rg rfl rfl ?_)))
         refine .m ?_
         refine .m ?_
         refine .sk ?_
         refine .sk ?_
         refine .sk ?_
         refine .x .pk ?_
         refine .dn (.ff rfl (.sp (.sq (.sq (.rg rfl rfl ?_)))))
         refine .m ?_
         refine .dn (.ff rfl (.sp ?_))
         refine key _ _ ?_ ⟨rfl,rfl,rfl,rfl,rfl,rfl,rfl,trivial⟩
         simp[newW,h1,h4] <;> omega
 · rcases Nat.mod_two_eq_zero_or_one (o/4) with h4|h4
   · cases aw with
     | false=>
       cases sv with
       | true=> exact nomatch hs rfl
       | false=>
         refine .sq (.rg rfl rfl ?_)
         refine .m ?_
         refine .g ?_
         refine .dn (.sq (.sq (.rg rfl rfl ?_)))
         refine .m ?_
         refine .i ?_ (z:=and4_ _ (by omega))
         refine .i ?_ (z:=eql_t (by omega))
         refine .dn (.tt rfl (.rg rfl rfl ?_))
         refine .m ?_
         refine .i ?_ (z:=or1_ _ (by omega))
         refine .g ?_
         refine .dn (.sq (.sq (.rg rfl rfl ?_)))
         refine .m ?_
         refine .i ?_ (z:=and5_ _ (by omega))
         refine .i ?_ (z:=neq_t (by omega))
         refine .dn (.tt rfl (.rg rfl rfl ?_))
         refine .m ?_
         refine .i ?_ (z:=add8_ _ (by omega))
         refine .g ?_
         refine .dn (.sq (.sq (.rg rfl rfl ?_)))
         refine .m ?_
         refine .m ?_
         refine .sk ?_
         refine .sk ?_
         refine .sk ?_
         refine .x .pk ?_
         refine .dn (.ff rfl (.sp (.sq (.sq (.rg rfl rfl ?_)))))
         refine .m ?_
         refine .dn (.ff rfl (.sp ?_))
         refine key _ _ ?_ ⟨rfl,rfl,rfl,rfl,rfl,rfl,rfl,trivial⟩
         simp[newW,h1,h4] <;> omega
     | true=>
       cases sv with
       | true=>
         refine .sq (.rg rfl rfl ?_)
         refine .m ?_
         refine .g ?_
         refine .dn (.sq (.sq (.rg rfl rfl ?_)))
         refine .m ?_
         refine .i ?_ (z:=and4_ _ (by omega))
         refine .i ?_ (z:=eql_t (by omega))
         refine .dn (.tt rfl (.rg rfl rfl ?_))
         refine .m ?_
         refine .i ?_ (z:=or1_ _ (by omega))
         refine .g ?_
         refine .dn (.sq (.sq (.rg rfl rfl ?_)))
         refine .m ?_
         refine .i ?_ (z:=and5_ _ (by omega))
         refine .i ?_ (z:=neq_t (by omega))
         refine .dn (.tt rfl (.rg rfl rfl ?_))
         refine .m ?_
         refine .i ?_ (z:=add8_ _ (by omega))
         refine .g ?_
         refine .dn (.sq (.sq (.rg rfl rfl ?_)))
         refine .m ?_
         refine .m ?_
         refine .m ?_
         refine .i ?_ (z:=and1_ _ (by omega))
         refine .i ?_ (z:=neq_t (by omega))
         refine .x .pk ?_
         refine .dn (.tt rfl (.rg rfl rfl ?_))
         refine .m ?_
         refine .i ?_ (z:=or4_ _ (by omega))
         refine .g ?_
         refine .dn (.sq (.sq (.rg rfl rfl ?_)))
         refine .m ?_
         refine .dn ?_
         obtain⟨g2, -⟩:=ha rfl
         refine .tt rfl (.sq (.sq (.rg rfl rfl ?_)))
         refine .m ?_
         refine .i ?_ (z:=and2_ _ (by omega))
         refine .i ?_ (z:=eql_f (by omega))
         refine .dn (.ff rfl (.sp (.rg rfl rfl ?_)))
         refine .m ?_
         refine .i ?_ (z:=andNot2_ _ (by omega))
         refine .g ?_
         refine .dn ?_
         refine key _ _ ?_ ⟨rfl,rfl,rfl,rfl,rfl,rfl,rfl,trivial⟩
         simp[newW,h1,h4] <;> omega
       | false=>
         refine .sq (.rg rfl rfl ?_)
         refine .m ?_
         refine .g ?_
         refine .dn (.sq (.sq (.rg rfl rfl ?_)))
         refine .m ?_
         refine .i ?_ (z:=and4_ _ (by omega))
         refine .i ?_ (z:=eql_t (by omega))
         refine .dn (.tt rfl (.rg rfl rfl ?_))
         refine .m ?_
         refine .i ?_ (z:=or1_ _ (by omega))
         refine .g ?_
         refine .dn (.sq (.sq (.rg rfl rfl ?_)))
         refine .m ?_
         refine .i ?_ (z:=and5_ _ (by omega))
         refine .i ?_ (z:=neq_t (by omega))
         refine .dn (.tt rfl (.rg rfl rfl ?_))
         refine .m ?_
         refine .i ?_ (z:=add8_ _ (by omega))
         refine .g ?_
         refine .dn (.sq (.sq (.rg rfl rfl ?_)))
         refine .m ?_
         refine .m ?_
         refine .sk ?_
         refine .sk ?_
         refine .sk ?_
         refine .x .pk ?_
         refine .dn (.ff rfl (.sp (.sq (.sq (.rg rfl rfl ?_)))))
         refine .m ?_
         refine .dn ?_
         obtain⟨g2, -⟩:=ha rfl
         refine .tt rfl (.sq (.sq (.rg rfl rfl ?_)))
         refine .m ?_
         refine .i ?_ (z:=and2_ _ (by omega))
         refine .i ?_ (z:=eql_f (by omega))
         refine .dn (.ff rfl (.sp (.rg rfl rfl ?_)))
         refine .m ?_
         refine .i ?_ (z:=andNot2_ _ (by omega))
         refine .g ?_
         refine .dn ?_
         refine key _ _ ?_ ⟨rfl,rfl,rfl,rfl,rfl,rfl,rfl,trivial⟩
         simp[newW,h1,h4] <;> omega
   · cases aw with
     | true=> exact absurd (ha rfl).2 (by omega)
     | false=>
       cases sv with
       | true=> exact nomatch hs rfl
       | false=>
         refine .sq (.rg rfl rfl ?_)
         refine .m ?_
         refine .g ?_
         refine .dn (.sq (.sq (.rg rfl rfl ?_)))
         refine .m ?_
         refine .i ?_ (z:=and4_ _ (by omega))
         refine .i ?_ (z:=eql_f (by omega))
         refine .dn (.ff rfl (.sp (.sq (.sq (.rg rfl rfl ?_)))))
         refine .m ?_
         refine .i ?_ (z:=and5_ _ (by omega))
         refine .i ?_ (z:=neq_t (by omega))
         refine .dn (.tt rfl (.rg rfl rfl ?_))
         refine .m ?_
         refine .i ?_ (z:=add8_ _ (by omega))
         refine .g ?_
         refine .dn (.sq (.sq (.rg rfl rfl ?_)))
         refine .m ?_
         refine .m ?_
         refine .sk ?_
         refine .sk ?_
         refine .sk ?_
         refine .x .pk ?_
         refine .dn (.ff rfl (.sp (.sq (.sq (.rg rfl rfl ?_)))))
         refine .m ?_
         refine .dn (.ff rfl (.sp ?_))
         refine key _ _ ?_ ⟨rfl,rfl,rfl,rfl,rfl,rfl,rfl,trivial⟩
         simp[newW,h1,h4] <;> omega
end
end Go.Proofs.YtpdaenfglbgfkaaGreatDoor
end
section
namespace Go.Proofs.YtpdaenfglbgfkaaGreatDoor
open Go.RL Go.Conc Go.ConcN Go.RL.Au
open Go.ConcR (stA smA)
open Go.ConcM (muA msA)
set_option maxRecDepth 10000
set_option maxHeartbeats 4000000
section
variable {X:Fk}{κ:Nat}{D:Nat→Bool}{H:View}{cc:Frame}{cs:List Frame}
noncomputable def spin221:Code:=cT (cR (cL BB))
theorem slow_spin {k:Nat}(IH:∀k'<k,Head X κ D H cc cs k'){R:Rg}{o:Nat}{aw sv ws:Bool}{it:Nat}{z:Int}(hw:ws=decide (z≠0))(hit:it<4)
   (hR:AllIn (RH X o ⟨aw,sv,ws,it⟩ z) R):Sc (Jw Tryz.prog X κ k (.ds ⟨aw,sv,ws,it⟩) D H) 139 b221 (cc::cs) R [] [.code (cR spin221),.code (cR BB),.inBlock 1,.inLoop B221,.inBlock 0,.code tail221]:=by
 refine Sc.drop hR ?_
 refine .sq (.rg rfl rfl ?_)
 refine So.callD rfl rfl rfl nofun rfl (.mk' rfl) rfl (Jw.ds e227 rfl) ?_
 rintro v J' ⟨k1,t,hk1,⟨rfl,rfl⟩,rfl⟩
 have hadd:intBin .add .i64 (it:Int) 1=some (.int .i64 ((it+1:Nat):Int)):=by
   rw[add_in (by omega) (by omega)]
   congr 2
 refine .dn (.sq (.rg rfl rfl ?_))
 refine .m ?_
 refine .i ?_ (z:=by assumption)
 refine .g ?_
 refine .dn (.sq (.rg rfl rfl ?_))
 refine .m ?_
 refine .x .nk ?_
 refine .x (.fa (zz:=fo_202_0)) ?_
 refine Jw.ldM rfl rfl rfl rfl rfl rfl rfl ag_21 nr221 (fun s hok hloc hf=> ⟨hd s.m ⟨aw,sv,ws,it+1⟩,by simp[Th.mv],(by unfold hd;split <;> rfl),fun k2 hk2=> ?_⟩)
 refine .g ?_
 refine .dn (.xt rfl ?_)
 refine Sc.inLoop (by exact Jw.cl0) ?_
 exact Sc.drop (by exact⟨rfl,rfl,rfl,rfl,rfl,rfl,trivial⟩) (IH k2 (by omega) s.m ⟨aw,sv,ws,it+1⟩ z hf.1 hok hloc.1 hw)
theorem c1_eq {o:Nat}{c:Lc}{x:Int}(hx:x=((o+2:Nat):Int)){k:Nat}(ne:X.Mu≠X.Wg):AtC (Jw Tryz.prog X κ k (.c1 o c) D H) 220 [.pointer (some (muA X.Mu)),.int .i32 (o:Int),.int .i32 x] fun v J'=> ∃k' t',k'<k∧((v=.bool true∧t'=Th.ds { c with aw:=true })∨(v=.bool false∧t'=Th.ds c))∧J'=Jw Tryz.prog X κ k' t' D H:=
 hx▸Jw.c1 ne e220
theorem slow_head(hK:∀v J',LockK X κ H v J'→J' (G (cc.finish v) cs))(ne:X.Mu≠X.Wg)(k:Nat):Head X κ D H cc cs k:=by
 induction k using Nat.strongRecOn with
 | ind k IH=>
   rintro o ⟨aw,sv,ws,it⟩ z ho ha hs hw
   simp only at ha hs hw
   by_cases h5:o%2=1∧o/4%2=0
   · have hh : hd o ⟨aw,sv,ws,it⟩=.sq o ⟨aw,sv,ws,it⟩:=if_pos h5
     obtain⟨h1,h4⟩:=h5
     rw[hh]
     refine Sc.block Jw.cl0 (Sc.seq Jw.cl0 ?_)
     refine .sq (.rg rfl rfl ?_)
     refine .m ?_
     refine .i ?_ (z:=and5_ _ (by omega))
     refine .i ?_ (z:=eql_t (by omega))
     refine .m ?_
     refine .m ?_
     skip
     refine So.callD rfl rfl rfl nofun rfl (.mk' rfl) rfl (Jw.sq e226) ?_
     rintro v J' ⟨k1,t,hk1,⟨rfl,hit,rfl⟩|⟨rfl,rfl⟩,rfl⟩
     · refine .x .pk ?_
       refine .dn (.tt rfl ?_)
       rcases Nat.mod_two_eq_zero_or_one (o/2) with h2|h2
       · cases aw with
         | true=> exact absurd (ha rfl).1 (by omega)
         | false=>
           by_cases h8:o/8=0
           · rw[if_neg (by omega)]
             refine .sq (.sq (.rg rfl rfl ?_))
             refine .m ?_
             refine .x .nt ?_
             refine .m ?_
             refine .m ?_
             refine .i ?_ (z:=and2_ _ (by omega))
             refine .i ?_ (z:=eql_t (by omega))
             refine .x .pk ?_
             refine .m ?_
             refine .m ?_
             refine .x (OpP.shift rfl rfl rfl (by omega) (by exact shr3_ _ (by omega))) ?_
             refine .i ?_ (z:=neq_f (by omega))
             refine .x .pk ?_
             refine .m ?_
             refine .sk ?_
             refine .sk ?_
             refine .sk ?_
             refine .sk ?_
             refine .sk ?_
             refine .sk ?_
             refine .sk ?_
             refine .x .pk ?_
             refine .dn (.ff rfl (.sp ?_))
             exact slow_spin (o:=o) (fun k' h=> IH k' (by omega)) hw hit ⟨rfl,rfl,rfl,rfl,rfl,rfl,trivial⟩
           · rw[if_pos ⟨rfl,h2,h8⟩]
             refine .sq (.sq (.rg rfl rfl ?_))
             refine .m ?_
             refine .x .nt ?_
             refine .m ?_
             refine .m ?_
             refine .i ?_ (z:=and2_ _ (by omega))
             refine .i ?_ (z:=eql_t (by omega))
             refine .x .pk ?_
             refine .m ?_
             refine .m ?_
             refine .x (OpP.shift rfl rfl rfl (by omega) (by exact shr3_ _ (by omega))) ?_
             refine .i ?_ (z:=neq_t (by omega))
             refine .x .pk ?_
             refine .m ?_
             refine .m ?_
             refine .x .nk ?_
             refine .x (.fa (zz:=fo_202_0)) ?_
             refine .m ?_
             refine .m ?_
             refine .i ?_ (z:=or2_ _ (by omega))
             skip
             refine So.callD rfl rfl rfl nofun rfl (.mk' rfl) rfl (c1_eq (by congr 1;omega) ne) ?_
             rintro v J' ⟨k2,t,hk2,⟨rfl,rfl⟩|⟨rfl,rfl⟩,rfl⟩
             · refine .x .pk ?_
               refine .dn (.tt rfl (.rg rfl rfl ?_))
               refine .g ?_
               refine .dn ?_
               exact slow_spin (o:=o) (fun k' h=> IH k' (by omega)) hw hit ⟨rfl,rfl,rfl,rfl,rfl,rfl,trivial⟩
             · refine .x .pk ?_
               refine .dn (.ff rfl (.sp ?_))
               exact slow_spin (o:=o) (fun k' h=> IH k' (by omega)) hw hit ⟨rfl,rfl,rfl,rfl,rfl,rfl,trivial⟩
       · rw[if_neg (by omega)]
         cases aw with
         | true=>
           refine .sq (.sq (.rg rfl rfl ?_))
           refine .m ?_
           refine .x .nt ?_
           refine .m ?_
           refine .sk ?_
           refine .sk ?_
           refine .sk ?_
           refine .x .pk ?_
           refine .m ?_
           refine .sk ?_
           refine .sk ?_
           refine .sk ?_
           refine .x .pk ?_
           refine .m ?_
           refine .sk ?_
           refine .sk ?_
           refine .sk ?_
           refine .sk ?_
           refine .sk ?_
           refine .sk ?_
           refine .sk ?_
           refine .x .pk ?_
           refine .dn (.ff rfl (.sp ?_))
           exact slow_spin (o:=o) (fun k' h=> IH k' (by omega)) hw hit ⟨rfl,rfl,rfl,rfl,rfl,rfl,trivial⟩
         | false=>
           refine .sq (.sq (.rg rfl rfl ?_))
           refine .m ?_
           refine .x .nt ?_
           refine .m ?_
           refine .m ?_
           refine .i ?_ (z:=and2_ _ (by omega))
           refine .i ?_ (z:=eql_f (by omega))
           refine .x .pk ?_
           refine .m ?_
           refine .sk ?_
           refine .sk ?_
           refine .sk ?_
           refine .x .pk ?_
           refine .m ?_
           refine .sk ?_
           refine .sk ?_
           refine .sk ?_
           refine .sk ?_
           refine .sk ?_
           refine .sk ?_
           refine .sk ?_
           refine .x .pk ?_
           refine .dn (.ff rfl (.sp ?_))
           exact slow_spin (o:=o) (fun k' h=> IH k' (by omega)) hw hit ⟨rfl,rfl,rfl,rfl,rfl,rfl,trivial⟩
     · refine .x .pk ?_
       refine .dn (.ff rfl (.sp ?_))
       exact slow_c2 hK (fun k' h=> IH k' (by omega)) ne ho ha hs hw ⟨rfl,rfl,rfl,rfl,rfl,rfl,trivial⟩
   · have hh:hd o ⟨aw,sv,ws,it⟩=.c2 o ⟨aw,sv,ws,it⟩:=if_neg h5
     rw[hh]
     refine Sc.block Jw.cl0 (Sc.seq Jw.cl0 ?_)
     refine .sq (.rg rfl rfl ?_)
     refine .m ?_
     refine .i ?_ (z:=and5_ _ (by omega))
     refine .i ?_ (z:=eql_f (by omega))
     refine .m ?_
     refine .sk ?_
     refine .sk ?_
     refine .x .pk ?_
     refine .dn (.ff rfl (.sp ?_))
     exact slow_c2 hK (fun k' h=> IH k' (by omega)) ne ho ha hs hw ⟨rfl,rfl,rfl,rfl,rfl,rfl,trivial⟩
theorem slow_c {k:Nat}(ne:X.Mu≠X.Wg):AtC (Jw Tryz.prog X κ k .r0 D H) 221 [.pointer (some ⟨X.Mu,0,none⟩)] (LockK X κ H):=by
 refine InC.at (by exact Jw.clX rfl) ca221 (InC.enter (vs:= [.pointer (some ⟨X.Mu,0,none⟩)]) Tryz.func221 rfl Tryz.ntmps221 (Nat.le_of_ble_eq_true rfl) fun c cs hK=> ?_)
 refine .sq (.rg rfl rfl ?_)
 refine .g ?_
 refine .dn (.sq (.rg rfl rfl ?_))
 refine .g ?_
 refine .dn (.sq (.rg rfl rfl ?_))
 refine .g ?_
 refine .dn (.sq (.rg rfl rfl ?_))
 refine .g ?_
 refine .dn (.sq (.rg rfl rfl ?_))
 refine .m ?_
 refine .x .nk ?_
 refine .x (.fa (zz:=fo_202_0)) ?_
 refine Jw.ldM rfl rfl rfl rfl rfl rfl rfl ag_21 nr221 (fun s hok hloc hf=> ⟨hd s.m ⟨false,false,false,0⟩,by simp[Th.mv],(by unfold hd;split <;> rfl),fun k2 hk2=> ?_⟩)
 refine .g ?_
 refine .dn (.sq (.bl ?_))
 refine Sc.loop (by exact Jw.cl0) ?_
 exact Sc.drop (by exact⟨rfl,rfl,rfl,rfl,rfl,rfl,trivial⟩) (slow_head hK ne k2 s.m ⟨false,false,false,0⟩ 0 hf.1 (fun h=> nomatch h) (fun h=> nomatch h) rfl)
theorem ilock_c {k:Nat}(ne:X.Mu≠X.Wg):AtC (Jw Tryz.prog X κ k .ld D H) 203 [.pointer (some ⟨X.Mu,0,none⟩)] (LockK X κ H):=by
 refine InC.at (by exact Jw.clX rfl) ca203 (InC.enter (vs:= [.pointer (some ⟨X.Mu,0,none⟩)]) Tryz.func203 rfl Tryz.ntmps203 (Nat.le_of_ble_eq_true rfl) fun c cs hK=> ?_)
 refine .sq (.rg rfl rfl ?_)
 refine So.callD rfl rfl rfl nofun rfl (.mk' rfl) rfl (Jw.ld e191) ?_
 rintro v J' ⟨k1,t,hk1,⟨rfl,rfl⟩,rfl⟩
 refine .dn (.sq (.sq (.rg rfl rfl ?_)))
 refine .m ?_
 refine .x .nk ?_
 refine .x (.fa (zz:=fo_202_0)) ?_
 refine So.callD rfl rfl rfl nofun rfl (.mk' rfl) rfl (Jw.l0 ne e220) ?_
 rintro v J' ⟨k2,t,hk2,⟨rfl,rfl⟩|⟨rfl,rfl⟩,rfl⟩
 · refine .dn (.tt rfl (.sq (.tt rfl (.sq (.rg rfl rfl ?_)))))
   refine So.callD rfl rfl rfl nofun rfl (.mk' rfl) rfl (Jw.le e192) ?_
   rintro v J' ⟨k3,t,hk3,⟨rfl,rfl⟩,rfl⟩
   refine .dn ?_
   have hsh:=shp_mu X
   refine .rg rfl rfl ?_
   refine .m ?_
   refine .x (OpP.raw rfl rfl un_262 un_236 sz_202 (by assumption)) ?_
   refine So.callD rfl rfl rfl nofun rfl (.mk' rfl) rfl (Jw.la e205) ?_
   rintro v J' ⟨rfl,k',D',o, -,h1,h2,rfl⟩
   refine .dn ?_
   refine Sc.retCode (by exact Jw.clX rfl) rfl (Sb.leave (by exact Jw.clX rfl) Tryz.func203 rfl (by exact .inl ⟨Tryz.results203,rfl⟩) ?_)
   exact hK _ _ ⟨rfl,k',D',o,h1,h2,rfl⟩
 · refine .dn (.ff rfl (.sp (.rg rfl rfl ?_)))
   refine .m ?_
   refine So.callD rfl rfl rfl nofun rfl (.mk' rfl) rfl (slow_c ne) ?_
   rintro v J' ⟨rfl,k',D',o,h1,h2,rfl⟩
   refine .dn ?_
   refine Sc.over (by exact Jw.clX rfl) rfl (Sb.leave (by exact Jw.clX rfl) Tryz.func203 rfl (by exact .inl ⟨Tryz.results203,rfl⟩) ?_)
   exact hK _ _ ⟨rfl,k',D',o,h1,h2,rfl⟩
theorem lock_c {k:Nat}(ne:X.Mu≠X.Wg):AtC (Jw Tryz.prog X κ k .ld D H) 163 [.pointer (some ⟨X.Mu,0,none⟩)] (LockK X κ H):=by
 refine InC.at (by exact Jw.clX rfl) ca163 (InC.enter (vs:= [.pointer (some ⟨X.Mu,0,none⟩)]) Tryz.func163 rfl Tryz.ntmps163 (Nat.le_of_ble_eq_true rfl) fun c cs hK=> ?_)
 refine .rg rfl rfl ?_
 refine .m ?_
 refine .x .nk ?_
 refine .x (.fa (zz:=fo_204_1)) ?_
 refine So.callD rfl rfl rfl nofun rfl (.mk' rfl) rfl (ilock_c ne) ?_
 rintro v J' ⟨rfl,k',D',o,h1,h2,rfl⟩
 refine .dn ?_
 refine Sc.over (by exact Jw.clX rfl) rfl (Sb.leave (by exact Jw.clX rfl) Tryz.func163 rfl (by exact .inl ⟨Tryz.results163,rfl⟩) ?_)
 exact hK _ _ ⟨rfl,k',D',o,h1,h2,rfl⟩
end
end Go.Proofs.YtpdaenfglbgfkaaGreatDoor
end
section
namespace Go.Proofs.YtpdaenfglbgfkaaGreatDoor
open Go.RL Go.Conc Go.ConcN Go.RL.Au
open Go.ConcR (stA smA)
open Go.ConcM (muA msA)
set_option maxRecDepth 10000
set_option maxHeartbeats 4000000
section
variable {X:Fk}{κ:Nat}{D:Nat→Bool}{H:View}{cc:Frame}{cs:List Frame}
def UslK(X:Fk)(κ:Nat)(D:Nat→Bool)(H:View)(v:Value)(J':Goroutine→Prop):Prop:=v=.tuple #[]∧∃k',J'=Jw Tryz.prog X κ k' .ue D H
noncomputable def loop223:Code:=cR (cT (cR (cR (bodyOf Tryz.f223))))
noncomputable def B223:Code:=cB (cB loop223)
abbrev b223:FB:=⟨223,.normal,none⟩
theorem nr223:(Tryz.prog.funcs[223]?).any (·.norace)=true:=by kernel_rfl
theorem nr204:(Tryz.prog.funcs[204]?).any (·.norace)=true:=by kernel_rfl
def ulT(n:Nat):Th:=if n/8=0∨n%8≠0 then .ue else .uc n
def HeadU(X:Fk)(κ:Nat)(D:Nat→Bool)(H:View)(cc:Frame)(cs:List Frame)(k:Nat):Prop:=
 ∀(n:Nat) (R:Rg),n<64→AllIn [(0,.pointer (some ⟨X.Mu,0,none⟩)),(4,.int .i32 (n:Int))] R→Sc (Jw Tryz.prog X κ k (ulT n) D H) 43 b223 (cc::cs) R [] [.code B223,.inLoop B223,.inBlock 0]
theorem uc_eq {o:Nat}{x:Int}(hx:x=((o-6:Nat):Int)){k:Nat}(ne:X.Mu≠X.Wg):AtC (Jw Tryz.prog X κ k (.uc o) D H) 220 [.pointer (some (muA X.Mu)),.int .i32 (o:Int),.int .i32 x] fun v J'=> ∃k' t',k'<k∧((v=.bool true∧t'=Th.us false)∨(v=.bool false∧t'=Th.ux))∧J'=Jw Tryz.prog X κ k' t' D H:=
 hx▸Jw.uc ne e220
theorem usl_head(hK:∀v J',UslK X κ D H v J'→J' (G (cc.finish v) cs))(ne:X.Mu≠X.Wg)(k:Nat):HeadU X κ D H cc cs k:=by
 induction k using Nat.strongRecOn with
 | ind k IH=>
   intro n R hn hR
   refine Sc.drop hR ?_
   by_cases h0:n/8=0
   · have ht:ulT n=.ue:=if_pos (.inl h0)
     rw[ht]
     refine .bl (.sq (.sq (.rg rfl rfl ?_)))
     refine .m ?_
     refine .x (OpP.shift rfl rfl rfl (by omega) (by exact shr3_ _ (by omega))) ?_
     refine .i ?_ (z:=eql_t (by omega))
     refine .m ?_
     refine .sk ?_
     refine .sk ?_
     refine .sk ?_
     refine .x .pk ?_
     refine .dn (.tt rfl ?_)
     refine Sc.retCode (by exact Jw.clX rfl) rfl (Sb.leave (by exact Jw.clX rfl) Tryz.func223 rfl (by exact .inl ⟨Tryz.results223,rfl⟩) ?_)
     exact hK _ _ ⟨rfl,k,rfl⟩
   · by_cases h8:n%8=0
     · have ht:ulT n=.uc n:=if_neg (by omega)
       rw[ht]
       refine .bl (.sq (.sq (.rg rfl rfl ?_)))
       refine .m ?_
       refine .x (OpP.shift rfl rfl rfl (by omega) (by exact shr3_ _ (by omega))) ?_
       refine .i ?_ (z:=eql_f (by omega))
       refine .m ?_
       refine .m ?_
       refine .i ?_ (z:=and7_ _ (by omega))
       refine .i ?_ (z:=neq_f (by omega))
       refine .x .pk ?_
       refine .dn (.ff rfl (.sp (.sq (.rg rfl rfl ?_))))
       refine .m ?_
       refine .i ?_ (z:=sub8_ _ (by omega))
       refine .i ?_ (z:=or2_ _ (by omega))
       refine .g ?_
       refine .dn (.sq (.sq (.rg rfl rfl ?_)))
       refine .m ?_
       refine .x .nk ?_
       refine .x (.fa (zz:=fo_202_0)) ?_
       refine .m ?_
       refine .m ?_
       refine So.callD rfl rfl rfl nofun rfl (.mk' rfl) rfl (uc_eq (by congr 1;omega) ne) ?_
       rintro v J' ⟨k1,t,hk1,⟨rfl,rfl⟩|⟨rfl,rfl⟩,rfl⟩
       · refine .dn (.tt rfl (.sq (.rg rfl rfl ?_)))
         refine .m ?_
         refine .x .nk ?_
         refine .x (.fa (zz:=fo_202_1)) ?_
         refine So.callD rfl rfl rfl nofun rfl (.mk' rfl) rfl (Jw.us (vs:= [.pointer (some ⟨X.Mu,1,none⟩),.bool false,.int .i64 2]) ne e232 rfl) ?_
         rintro v J' ⟨k2,t,hk2,⟨rfl,rfl⟩,rfl⟩
         refine .dn ?_
         refine Sc.retCode (by exact Jw.clX rfl) rfl (Sb.leave (by exact Jw.clX rfl) Tryz.func223 rfl (by exact .inl ⟨Tryz.results223,rfl⟩) ?_)
         exact hK _ _ ⟨rfl,k2,rfl⟩
       · refine .dn (.ff rfl (.sp (.rg rfl rfl ?_)))
         refine .m ?_
         refine .x .nk ?_
         refine .x (.fa (zz:=fo_202_0)) ?_
         refine Jw.ldM rfl rfl rfl rfl rfl rfl rfl ag_21 nr223 (fun s hok hloc hf=> ⟨ulT s.m,by simp[Th.mv,ulT],(by unfold ulT;split <;> rfl),fun k2 hk2=> ?_⟩)
         refine .g ?_
         refine .dn (.ib ?_)
         refine Sc.inLoop (by exact Jw.cl0) ?_
         exact IH k2 (by omega) s.m _ hf.1 ⟨rfl,rfl,trivial⟩
     · have ht:ulT n=.ue:=if_pos (.inr h8)
       rw[ht]
       refine .bl (.sq (.sq (.rg rfl rfl ?_)))
       refine .m ?_
       refine .x (OpP.shift rfl rfl rfl (by omega) (by exact shr3_ _ (by omega))) ?_
       refine .i ?_ (z:=eql_f (by omega))
       refine .m ?_
       refine .m ?_
       refine .i ?_ (z:=and7_ _ (by omega))
       refine .i ?_ (z:=neq_t (by omega))
       refine .x .pk ?_
       refine .dn (.tt rfl ?_)
       refine Sc.retCode (by exact Jw.clX rfl) rfl (Sb.leave (by exact Jw.clX rfl) Tryz.func223 rfl (by exact .inl ⟨Tryz.results223,rfl⟩) ?_)
       exact hK _ _ ⟨rfl,k,rfl⟩
theorem usl_c {k n:Nat}(hn:n<64)(h1:n%2=0)(ne:X.Mu≠X.Wg):AtC (Jw Tryz.prog X κ k (if n/4%2=1 then .us true else ulT n) D H) 223 [.pointer (some ⟨X.Mu,0,none⟩),.int .i32 (n:Int)] (UslK X κ D H):=by
 by_cases h4:n/4%2=1
 · rw[if_pos h4]
   refine InC.at (by exact Jw.clX rfl) ca223 (InC.enter (vs:= [.pointer (some ⟨X.Mu,0,none⟩),.int .i32 (n:Int)]) Tryz.func223 rfl Tryz.ntmps223 (Nat.le_of_ble_eq_true rfl) fun c cs hK=> ?_)
   refine .sq (.sq (.rg rfl rfl ?_))
   refine .m ?_
   refine .i ?_ (z:=add1_ _ (by omega))
   refine .i ?_ (z:=and1_ _ (by omega))
   refine .i ?_ (z:=eql_f (by omega))
   refine .dn (.ff rfl (.sp (.sq (.rg rfl rfl ?_))))
   refine .m ?_
   refine .i ?_ (z:=and4_ _ (by omega))
   refine .i ?_ (z:=eql_f (by omega))
   refine .dn (.ff rfl (.rg rfl rfl ?_))
   refine .m ?_
   refine .x .nk ?_
   refine .x (.fa (zz:=fo_202_1)) ?_
   refine So.callD rfl rfl rfl nofun rfl (.mk' rfl) rfl (Jw.us (vs:= [.pointer (some ⟨X.Mu,1,none⟩),.bool true,.int .i64 2]) ne e232 rfl) ?_
   rintro v J' ⟨k2,t,hk2,⟨rfl,rfl⟩,rfl⟩
   refine .dn ?_
   refine Sc.over (by exact Jw.clX rfl) rfl (Sb.leave (by exact Jw.clX rfl) Tryz.func223 rfl (by exact .inl ⟨Tryz.results223,rfl⟩) ?_)
   exact hK _ _ ⟨rfl,k2,rfl⟩
 · rw[if_neg h4]
   refine InC.at (by exact Jw.cl0) ca223 (InC.enter (vs:= [.pointer (some ⟨X.Mu,0,none⟩),.int .i32 (n:Int)]) Tryz.func223 rfl Tryz.ntmps223 (Nat.le_of_ble_eq_true rfl) fun c cs hK=> ?_)
   refine .sq (.sq (.rg rfl rfl ?_))
   refine .m ?_
   refine .i ?_ (z:=add1_ _ (by omega))
   refine .i ?_ (z:=and1_ _ (by omega))
   refine .i ?_ (z:=eql_f (by omega))
   refine .dn (.ff rfl (.sp (.sq (.rg rfl rfl ?_))))
   refine .m ?_
   refine .i ?_ (z:=and4_ _ (by omega))
   refine .i ?_ (z:=eql_t (by omega))
   refine .dn (.tt rfl (.sq (.rg rfl rfl ?_)))
   refine .m ?_
   refine .g ?_
   refine .dn (.bl ?_)
   refine Sc.loop (by exact Jw.cl0) ?_
   exact usl_head hK ne k n _ hn ⟨rfl,rfl,trivial⟩
def UnlockK(X:Fk)(κ:Nat)(D:Nat→Bool)(H:View)(v:Value)(J':Goroutine→Prop):Prop:=v=.tuple #[]∧∃k',J'=Jw Tryz.prog X κ k' .wr D H
theorem iunlock_c {k:Nat}{o:Obj}(ne:X.Mu≠X.Wg)(hC:H X.C=none)(hG:X.GI (also D κ) o):AtC (Jw Tryz.prog X κ k .up D (H.put X.C (true,o))) 204 [.pointer (some ⟨X.Mu,0,none⟩)] (UnlockK X κ D H):=by
 refine InC.at (by exact Jw.clX rfl) ca204 (InC.enter (vs:= [.pointer (some ⟨X.Mu,0,none⟩)]) Tryz.func204 rfl Tryz.ntmps204 (Nat.le_of_ble_eq_true rfl) fun c cs hK=> ?_)
 refine .sq (.tt rfl (.sq (.rg rfl rfl ?_)))
 refine .m ?_
 refine .x .nk ?_
 refine .x (.fa (zz:=fo_202_0)) ?_
 refine Jw.ldM rfl rfl rfl rfl rfl rfl rfl ag_21 nr204 (fun s hok hloc hf=> ⟨.ur,by simp[Th.mv],rfl,fun k1 hk1=> ?_⟩)
 refine .dn ?_
 have hsh:=shp_mu X
 refine .sq (.rg rfl rfl ?_)
 refine .m ?_
 refine .x (OpP.raw rfl rfl un_262 un_236 sz_202 (by assumption)) ?_
 refine So.callD rfl rfl rfl nofun rfl (.mk' rfl) rfl (Jw.ur e190 hC hG) ?_
 rintro v J' ⟨rfl,k2,hk2,rfl⟩
 refine .dn (.rg rfl rfl ?_)
 refine So.callD rfl rfl rfl nofun rfl (.mk' rfl) rfl (Jw.ud e191) ?_
 rintro v J' ⟨k3,t,hk3,⟨rfl,rfl⟩,rfl⟩
 refine .dn (.sq (.rg rfl rfl ?_))
 refine .m ?_
 refine .x .nk ?_
 refine .x (.fa (zz:=fo_202_0)) ?_
 refine So.callD rfl rfl rfl nofun rfl (.mk' rfl) rfl (Jw.u0 ne e222) ?_
 rintro v J' ⟨k4,t,hk4,⟨m,hm,h1,rfl,rfl⟩,rfl⟩
 by_cases e:m=1
 · rw[if_pos e]
   refine .g ?_
   refine .dn (.sq (.sq (.rg rfl rfl ?_)))
   refine .m ?_
   refine .i ?_ (z:=neq_f (by omega))
   refine .dn (.ff rfl (.sp (.rg rfl rfl ?_)))
   refine So.callD rfl rfl rfl nofun rfl (.mk' rfl) rfl (Jw.ue e192) ?_
   rintro v J' ⟨k5,t,hk5,⟨rfl,rfl⟩,rfl⟩
   refine .dn ?_
   refine Sc.over (by exact Jw.clX rfl) rfl (Sb.leave (by exact Jw.clX rfl) Tryz.func204 rfl (by exact .inl ⟨Tryz.results204,rfl⟩) ?_)
   exact hK _ _ ⟨rfl,k5,rfl⟩
 · rw[if_neg e]
   refine .g ?_
   refine .dn (.sq (.sq (.rg rfl rfl ?_)))
   refine .m ?_
   refine .i ?_ (z:=neq_t (by omega))
   refine .dn (.tt rfl (.rg rfl rfl ?_))
   refine .m ?_
   refine .m ?_
   refine So.callD rfl rfl rfl nofun rfl (.mk' rfl) rfl (usl_c (n:=m-1) (by omega) (by omega) ne) ?_
   rintro v J' ⟨rfl,k5,rfl⟩
   refine .dn (.rg rfl rfl ?_)
   refine So.callD rfl rfl rfl nofun rfl (.mk' rfl) rfl (Jw.ue e192) ?_
   rintro v J' ⟨k6,t,hk6,⟨rfl,rfl⟩,rfl⟩
   refine .dn ?_
   refine Sc.over (by exact Jw.clX rfl) rfl (Sb.leave (by exact Jw.clX rfl) Tryz.func204 rfl (by exact .inl ⟨Tryz.results204,rfl⟩) ?_)
   exact hK _ _ ⟨rfl,k6,rfl⟩
theorem unlock_d {k n:Nat}{b:FB}{R:Rg}{ds:List Deferred}{o:Obj}(hb:b.rd=none)(ne:X.Mu≠X.Wg)(hC:H X.C=none)(hG:X.GI (also D κ) o)
   (h:∀k',Sb (Jw Tryz.prog X κ k' .wr D H) n b cs R ds):Sb (Jw Tryz.prog X κ k .up D (H.put X.C (true,o))) n b cs R (dcall 164 #[.pointer (some ⟨X.Mu,0,none⟩)]::ds):=by
 refine Sb.enterD (vs:= [.pointer (some ⟨X.Mu,0,none⟩)]) Jw.cl0 hb Tryz.func164 (by kernel_rfl) rfl Tryz.ntmps164 (Nat.le_of_ble_eq_true rfl) fun c hm hc=> ?_
 refine .rg rfl rfl ?_
 refine .m ?_
 refine .x .nk ?_
 refine .x (.fa (zz:=fo_204_1)) ?_
 refine So.callD rfl rfl rfl nofun rfl (.mk' rfl) rfl (iunlock_c ne hC hG) ?_
 rintro v J' ⟨rfl,k',rfl⟩
 refine .dn ?_
 refine Sc.over Jw.cl0 rfl (Sb.leaveD Jw.cl0 Tryz.func164 rfl Tryz.results164 (.inl hm) (hc _ (h k')))
end
end Go.Proofs.YtpdaenfglbgfkaaGreatDoor
end
section
namespace Go.Proofs.YtpdaenfglbgfkaaGreatDoor
open Go.RL Go.Conc Go.ConcN Go.RL.Au
open Go.ConcR (stA smA)
open Go.ConcM (muA msA)
set_option maxRecDepth 10000
set_option maxHeartbeats 1000000
theorem g64_hi:∀a:Nat,a<8→∀b:Nat,b<2→bitI .and .u64 ((a*4294967296+b:Nat):Int) 2147483648=0:=by decide +kernel
theorem g64_lo:∀a:Nat,a<8→∀b:Nat,b<2→bitI .and .u64 ((a*4294967296+b:Nat):Int) 2147483647=(b:Int):=by decide +kernel
theorem g64_sh:∀a:Nat,a<8→∀b:Nat,b<2→((a*4294967296+b:Nat):Int).fdiv (2 ^ (min (32:Int).toNat IntKind.u64.bits))=(a:Int):=by decide +kernel
theorem w64_m1:IntKind.u64.wrap (-1)=18446744073709551615:=by decide +kernel
theorem sh64_m1:shiftV .shl .u64 18446744073709551615 32=some (.int .u64 18446744069414584320):=by
 show some (Value.int .u64 (IntKind.u64.wrap (18446744073709551615*2 ^ (min (32:Int).toNat IntKind.u64.bits))))=_
 rw[show IntKind.u64.wrap (18446744073709551615*2 ^ (min (32:Int).toNat IntKind.u64.bits))=18446744069414584320 by decide +kernel]
theorem w64_1:IntKind.u64.wrap 1=1:=by decide +kernel
theorem sh64_1:shiftV .shl .u64 1 32=some (.int .u64 4294967296):=by
 show some (Value.int .u64 (IntKind.u64.wrap (1*2 ^ (min (32:Int).toNat IntKind.u64.bits))))=_
 rw[show IntKind.u64.wrap (1*2 ^ (min (32:Int).toNat IntKind.u64.bits))=4294967296 by decide +kernel]
theorem w32_m1:IntKind.i32.wrap (-1)= -1:=by decide +kernel
theorem w32_s:∀a:Nat,a<8→IntKind.i32.wrap (a:Int)=(a:Int):=by decide +kernel
theorem wu32_s:∀a:Nat,a<8→IntKind.u32.wrap (a:Int)=(a:Int):=by decide +kernel
end Go.Proofs.YtpdaenfglbgfkaaGreatDoor
end
section
namespace Go.Proofs.YtpdaenfglbgfkaaGreatDoor
open Go.RL Go.Conc Go.ConcN Go.RL.Au
open Go.ConcR (stA smA)
open Go.ConcM (muA msA)
set_option maxRecDepth 10000
set_option maxHeartbeats 4000000
def Ch.bad(c:Ch)(i:Nat):Option Int:=if c.fits i then(c.lk i).weak.map (fun n=> (n:Int)) else some (-1)
def wF(c:Ch)(D:Nat→Bool)(k v:Value):Prop:=∃(i:Nat) (z:Int),i≤c.m∧D i=true∧c.bad i=some z∧k=.int .i64 (i:Nat)∧v=.int .i64 z
def GIc(c:Ch)(D:Nat→Bool)(o:Obj):Prop:=∃es cl,o=.map es cl∧MapOk es cl (wF c D)
theorem int_key(i:Int):KeyFl en 1 3 (.int .i64 i):=⟨_,[_],rfl,rfl,_,rfl⟩
theorem wF_keys {c:Ch}{D:Nat→Bool}{es:Array MapEntry}{cl:Nat}(h:MapOk es cl (wF c D)):∀e∈es.toList,KeyFl en 1 3 e.key:=fun e he=> by
 obtain⟨i,z,_,_,_,hk,_⟩:=(h.mem e.key e.val).2 ⟨e,he,rfl,rfl⟩
 rw[hk]
 exact int_key _
theorem wF_none {c:Ch}{D:Nat→Bool}{κ:Nat}(h:c.bad κ=none)(k v:Value):wF c (also D κ) k v↔wF c D k v:=by
 unfold wF also
 constructor
 · rintro⟨i,z,h1,h2,h3,h4,h5⟩
   refine⟨i,z,h1,?_,h3,h4,h5⟩
   by_cases e:i=κ
   · subst e;rw[h] at h3;cases h3
   · simpa [e] using h2
 · rintro⟨i,z,h1,h2,h3,h4,h5⟩
   exact⟨i,z,h1,by simp[h2],h3,h4,h5⟩
theorem wF_some {c:Ch}{D:Nat→Bool}{κ:Nat}{z:Int}(hκ:κ≤c.m)(h:c.bad κ=some z)(k v:Value):
   wF c (also D κ) k v↔(k=.int .i64 (κ:Nat)∧v=.int .i64 z)∨(k≠ .int .i64 (κ:Nat)∧wF c D k v):=by
 unfold wF also
 constructor
 · rintro⟨i,z',h1,h2,h3,h4,h5⟩
   by_cases e:i=κ
   · subst e
     rw[h] at h3
     cases h3
     exact .inl ⟨h4,h5⟩
   · refine .inr ⟨?_,i,z',h1,by simpa [e] using h2,h3,h4,h5⟩
     rw[h4]
     intro hh
     simp only[Value.int.injEq,true_and,Int.natCast_inj] at hh
     exact e hh
 · rintro(⟨rfl,rfl⟩|⟨_,i,z',h1,h2,h3,h4,h5⟩)
   · exact⟨κ,z,hκ,by simp,h,rfl,rfl⟩
   · exact⟨i,z',h1,by simp[h2],h3,h4,h5⟩
theorem put_without {H:View}{b:Nat}{x:Bool×Obj}(h:H b=some x):(H.without b).put b x=H:=by
 funext c
 by_cases e:c=b
 · subst e;rw[View.put_same,h]
 · rw[View.put_other _ _ e,without_other e]
structure WkAt(X:Fk)(c:Ch)(H:View)(κ b1 b8 b7 lb lo lc ac:Nat)(A:Option Addr):Prop where
 ne:X.Mu≠X.Wg
 ok:c.Ok
 ch:ChAt H c lb lo lc A
 h1:∃f,H b1=some (f,.cells ⟨(c.val lb lo lc ac A).cells.toList⟩ 146 (0,0))
 h8:∃f,H b8=some (f,.cells ⟨[.int .i64 (κ:Nat)]⟩ 3 (0,0))
 h7:∃f,H b7=some (f,.cells ⟨[.map (some X.C)]⟩ 212 (0,0))
 fine:∀i,i≤c.m→c.fits i=true→(c.lk i).Fine
 kn:κ≤c.m
 glob:Glob H
 C0:H X.C=none
 GI:X.GI=GIc c
def wkVs(X:Fk)(b1 b8 b7:Nat):List Value:= [.pointer (some ⟨X.Wg,0,none⟩),.pointer (some ⟨b1,0,none⟩),.pointer (some ⟨b8,0,none⟩),.pointer (some ⟨X.Mu,0,none⟩),.pointer (some ⟨b7,0,none⟩)]
section
variable {X:Fk}{c:Ch}{H:View}{κ b1 b8 b7 lb lo lc ac:Nat}{A:Option Addr}
theorem worker_c(w:WkAt X c H κ b1 b8 b7 lb lo lc ac A)
   (done:∀(H':View) (D:Nat→Bool) (k n:Nat) (b:FB) (cs:List Frame) (R:Rg) (ds:List Deferred),b.rd=none→Sb (Jq Tryz.prog 0) n b cs R ds→Sb (Jw Tryz.prog X κ k .wr D H') n b cs R (dcall 162 #[.pointer (some ⟨X.Wg,0,none⟩)]::ds)) (k:Nat):
   Jw Tryz.prog X κ k .ld (fun _=> false) H (Go.Conc.born Tryz.prog { target:=.fn (.func 161) (wkVs X b1 b8 b7).toArray,args:=#[] }):=by
 obtain⟨ne,hok,hch,⟨f1,h1⟩,⟨f8,h8⟩,⟨f7,h7⟩,hfine,hκ,hG,hC0,hGI⟩:=w
 have l8:ldL false 1 [Value.int .i64 (κ:Nat)] 0=some (.int .i64 (κ:Nat)):=rfl
 refine Cl.born (vs:=wkVs X b1 b8 b7) Jw.cl0 Tryz.func161 (by kernel_rfl) rfl Tryz.ntmps161 (Nat.le_of_ble_eq_true rfl) (by simp) ?_
 have fin:∀(z:Int) (is:Bool) (H1:View),c.bad κ=(if is then some z else none)→H.le H1→Sc (Jw Tryz.prog X κ k .ld (fun _=> false) (H1.without X.C)) 26 ⟨161,.deferred,none⟩ [botF Tryz.prog]
     [(0,.pointer (some ⟨X.Wg,0,none⟩)),(2,.pointer (some ⟨b8,0,none⟩)),(3,.pointer (some ⟨X.Mu,0,none⟩)),(4,.pointer (some ⟨b7,0,none⟩)),(5,.int .i64 z),(6,.bool is)] [dcall 162 #[.pointer (some ⟨X.Wg,0,none⟩)]] [.code (cR (cR (cR (bodyOf Tryz.f161))))]:=by
   intro z is H1 hb hle
   have hC:H1.without X.C X.C=none:=by simp[View.without]
   have g8:H1.without X.C b8=some (f8,.cells ⟨[.int .i64 (κ:Nat)]⟩ 3 (0,0)):=by
     rw[without_other (by rintro rfl;rw[hC0] at h8;cases h8)];exact hle _ _ h8
   have g7:H1.without X.C b7=some (f7,.cells ⟨[.map (some X.C)]⟩ 212 (0,0)):=by
     rw[without_other (by rintro rfl;rw[hC0] at h7;cases h7)];exact hle _ _ h7
   generalize H1.without X.C=H2 at hC g8 g7
   refine .sq (.rg rfl rfl ?_)
   refine So.callD rfl rfl rfl nofun rfl (.mk' rfl) rfl (lock_c ne) ?_
   rintro v' J' ⟨rfl,k',D',o,hD,hGo,rfl⟩
   rw[hGI] at hGo
   refine .dn (.sq (.rg rfl rfl ?_))
   refine So.defer Jw.cl0 (f:=164) (vs:= [.pointer (some ⟨X.Mu,0,none⟩)]) rfl nofun rfl rfl ⟨_,rfl⟩ rfl ?_
   refine .dn (.sq (.rg rfl rfl ?_))
   refine .m ?_
   refine .dn ?_
   have bot:∀(H':View) (R:Rg) (k':Nat),Sb (Jw Tryz.prog X κ k' .wr D' H') 26 ⟨161,.deferred,none⟩ [botF Tryz.prog] R [dcall 162 #[.pointer (some ⟨X.Wg,0,none⟩)]]:=fun H' R k'=>
     done H' D' k' 26 _ _ R [] rfl (Sb.leaveD Jq.cl Tryz.func161 rfl Tryz.results161 (.inr rfl) Jq.bot)
   cases is with
   | false=>
     have hG2:X.GI (also D' κ) o:=by
       rw[hGI]
       obtain⟨es,cl,h2,h3⟩:=hGo
       exact⟨es,cl,h2,h3.congr (wF_none hb)⟩
     refine .ff rfl (.sp ?_)
     exact Sc.over Jw.cl0 rfl (unlock_d rfl ne hC hG2 fun k''=> bot _ _ k'')
   | true=>
     obtain⟨es,cl,rfl,hm⟩:=hGo
     refine Sc.mono ?_ (fun g hg=> Jw.ofT rfl hg)
     refine Sc.ofTc (SymSt.pop hC (SymSt.nil _)) ?_
     refine .tt rfl (.r ?_)
     refine .x .l0 ?_
     refine .x .l0 ?_
     refine .m ?_
     refine .e (Or.mapUpdate (E:=en) 0 1 rfl rfl rfl rfl rfl rfl rfl (by decide) (int_key _) (wF_keys hm) rfl (fun rr hr=> ?_))
     obtain⟨es',cl',hput,hm'⟩:=hm.put (.int .i64 z) hr
     rw[hput]
     refine .done ?_
     refine Tc.ofSc (fun H3 hs=> ?_)
     have hc3:=hs.get (i:=0) rfl
     refine Sc.mono ?_ (fun g hg=> Jw.toT rfl hg)
     rw[←put_without hc3]
     have hG2:X.GI (also D' κ) (.map es' cl'):=by
       rw[hGI]
       exact⟨es',cl',rfl,hm'.congr (wF_some hκ hb)⟩
     exact Sc.over Jw.cl0 rfl (unlock_d rfl ne (by simp[View.without]) hG2 fun k''=> bot _ _ k'')
 refine .sq (.rg rfl rfl ?_)
 refine So.defer Jw.cl0 (f:=162) (vs:= [.pointer (some ⟨X.Wg,0,none⟩)]) rfl nofun rfl rfl ⟨_,rfl⟩ rfl ?_
 refine .dn ?_
 refine Sc.mono ?_ (fun g hg=> Jw.ofT rfl hg)
 refine Sc.ofTc (SymSt.nil H) ?_
 refine .sr ?_
 refine .g ?_
 refine .g ?_
 refine .done (.seq ?_)
 refine Tc.via (fun R' _=> ∃z is,c.bad κ=(if is then some z else none)∧AllIn [(0,.pointer (some ⟨X.Wg,0,none⟩)),(2,.pointer (some ⟨b8,0,none⟩)),(3,.pointer (some ⟨X.Mu,0,none⟩)),(4,.pointer (some ⟨b7,0,none⟩)),(5,.int .i64 z),(6,.bool is)] R') ?_ (fun fin'=> ?_)
 · rintro R' L' ⟨z,is,hb,hR⟩
   refine Tc.dropB (L':= []) ?_ hR (List.nil_sublist _)
   refine Tc.ofSc (fun H1 hs=> ?_)
   exact Sc.mono (fin z is H1 hb hs.base) (fun g hg=> Jw.toT rfl (Jw.forget X.C hg))
 · cases hf:c.fits κ with
   | false=>
     refine .sr ?_
     refine .x .l0 ?_
     refine .x .l0 ?_
     refine .c rfl rfl rfl rfl (fun H hs=> .f ca122 rfl (CallT.is (.tuple ⟨[(c.lk κ).val,.bool false]⟩) (by rewrite [hf];rfl) (section_c _ H c κ lb lo lc ac A hok (hch.le hs.base) hκ (glob_le hG hs.base)))) ?_
     refine .m ?_
     refine .x .et ?_
     refine .x .et ?_
     refine .e (.al (zz:=fun _=> ?_))
     refine .e (.st 0 (zz:=?_))
     refine .g ?_
     refine .done (.sr ?_)
     refine .m ?_
     refine .done (.ff rfl (.skip ?_))
     exact fin' _ _ ⟨-1,true,by unfold Ch.bad;rw[hf];rfl,⟨rfl,rfl,rfl,rfl,rfl,rfl,trivial⟩⟩
   | true=>
     refine .sr ?_
     refine .x .l0 ?_
     refine .x .l0 ?_
     refine .c rfl rfl rfl rfl (fun H hs=> .f ca122 rfl (CallT.is (.tuple ⟨[(c.lk κ).val,.bool true]⟩) (by rewrite [hf];rfl) (section_c _ H c κ lb lo lc ac A hok (hch.le hs.base) hκ (glob_le hG hs.base)))) ?_
     refine .m ?_
     refine .x .et ?_
     refine .x .et ?_
     refine .e (.al (zz:=fun _=> ?_))
     refine .e (.st 0 (zz:=?_))
     refine .g ?_
     refine .done (.sr ?_)
     refine .m ?_
     refine .done (.tt rfl ?_)
     cases hw:(c.lk κ).weak with
     | none=>
       refine .r ?_
       refine .x (.ld 0) ?_
       refine .c rfl rfl rfl rfl (fun H hs=> .f ca106 rfl (CallT.is (.tuple ⟨[.int .i64 0,.bool false]⟩) (by rewrite [hw];rfl) (weak_c _ H (c.lk κ) (hfine κ hκ hf)))) ?_
       refine .m ?_
       refine .x .et ?_
       refine .x .et ?_
       refine .g ?_
       refine .g ?_
       refine .done ?_
       exact fin' _ _ ⟨0,false,by unfold Ch.bad;rw[hf,hw];rfl,⟨rfl,rfl,rfl,rfl,rfl,rfl,trivial⟩⟩
     | some n=>
       refine .r ?_
       refine .x (.ld 0) ?_
       refine .c rfl rfl rfl rfl (fun H hs=> .f ca106 rfl (CallT.is (.tuple ⟨[.int .i64 (n:Nat),.bool true]⟩) (by rewrite [hw];rfl) (weak_c _ H (c.lk κ) (hfine κ hκ hf)))) ?_
       refine .m ?_
       refine .x .et ?_
       refine .x .et ?_
       refine .g ?_
       refine .g ?_
       refine .done ?_
       exact fin' _ _ ⟨n,true,by unfold Ch.bad;rw[hf,hw];rfl,⟨rfl,rfl,rfl,rfl,rfl,rfl,trivial⟩⟩
end
end Go.Proofs.YtpdaenfglbgfkaaGreatDoor
end
section
namespace Go.Proofs.YtpdaenfglbgfkaaGreatDoor
open Go.RL
set_option maxRecDepth 10000
set_option maxHeartbeats 4000000
structure Ch.Good(c:Ch):Prop where
 ok:c.Ok
 s:paceOk c.s0 c.s1=true
 a:paceOk c.a0 c.a1=true
 r:paceOk c.r0 c.r1=true
 ln:∀i,i<c.n→(⟨0,0,0,0,c.x i,c.y i,c.z i,c.u i⟩:Lk).lineOk=true
theorem Ch.Good.fine {c:Ch}(h:c.Good)(i:Nat)(hf:c.fits i=true):(c.lk i).ok=true:=by
 have hs:(c.lk i).sends=true:=by
   show paceOk (if i=0 then c.s0 else c.a0) (if i=0 then c.s1 else c.a1)=true
   by_cases e:i=0
   · rw[if_pos e,if_pos e];exact h.s
   · rw[if_neg e,if_neg e];exact h.a
 have hr:(c.lk i).reads=true:=by
   show paceOk (if i<c.m then c.a0 else c.r0) (if i<c.m then c.a1 else c.r1)=true
   by_cases e:i<c.m
   · rw[if_pos e,if_pos e];exact h.a
   · rw[if_neg e,if_neg e];exact h.r
 unfold Ch.fits at hf
 simp only[Lk.lineOk,allTo,Lk.chk,Bool.true_and,Bool.and_eq_true] at hf
 obtain⟨h1,h2⟩:=hf
 have h1':(c.lk i).leans=true:=h1
 have h2':(c.lk i).moves=true:=h2
 simp[Lk.ok,allTo,Lk.chk,hs,hr,h1',h2']
def Ch.val7(c:Ch)(lb lo lc:Nat):Value:=.agg ⟨[.int .i64 c.s0,.int .i64 c.s1,.slice (some ⟨lb,lo,none⟩) c.n lc,.int .i64 c.a0,.int .i64 c.a1,.int .i64 c.r0,.int .i64 c.r1]⟩
section
variable(M:Md Tryz.prog)(H:View)
theorem isPaces_good(a b:Int)(h:paceOk a b=true):CallT M 129 #[bandV a b] H (fun v H'=> H.le H'∧v=.bool true):=
 CallT.mono (isPaces_c M H a b) (by rintro v H' ⟨h1,h2⟩;exact⟨h1,h2.trans (congrArg Value.bool h)⟩)
theorem checkLine_good(x y z u:Int)(hG:Glob H)(h:(⟨0,0,0,0,x,y,z,u⟩:Lk).lineOk=true):CallT M 126 #[lineV x y z u] H (fun v H'=> H.le H'∧v=.int .i64 0):=
 CallT.mono (checkLine_c M H x y z u hG) (by rintro v H' ⟨h1,h2⟩;rw[h] at h2;exact⟨h1,h2⟩)
theorem checkLines_good(ch:Ch)(lb lo lc:Nat)(A:Option Addr)(hA:ChAt H ch lb lo lc A)(hg:ch.Good)(hG:Glob H):
   CallT M 124 #[.slice (some ⟨lb,lo,none⟩) ch.n lc] H (fun v H'=> H.le H'∧v=.int .i64 0):=by
 refine CallT.enter (vs:= [.slice (some ⟨lb,lo,none⟩) ch.n lc]) Tryz.func124 rfl Tryz.ntmps124 (Nat.le_of_ble_eq_true rfl) (SymSt.nil _) fun St c cs hK=> ?_
 obtain⟨f,gs,gt,gz,hA1,hA2⟩:=hA.ln
 have hn0:=hg.ok.n0
 have hn4:=hg.ok.n4
 refine .sr ?_
 refine .g ?_
 refine .done (.seq (.sr ?_))
 refine .m ?_
 refine .x .ln ?_
 refine .i ?_ (z:=lss_f (by omega))
 refine .m ?_
 refine .m ?_
 refine .x .ln ?_
 refine .i ?_ (z:=gtr_f (by omega))
 refine .x .pk ?_
 refine .done (.ff rfl (.skip (.seq (.sr ?_))))
 refine .m ?_
 refine .x .ln ?_
 refine .m ?_
 refine .done (.block ?_)
 refine Tc.db (Tc.loopInv (σ:= { j:Nat//j≤ch.n }) (fun j=> ([(14,.slice (some ⟨lb,lo,none⟩) ch.n lc),(15,.int .i64 (ch.n:Nat)),(16,.int .i64 (j.1:Nat)),(2,.int .i64 0)],[])) (fun j=> ch.n-j.1) ?_ ⟨0,by omega⟩)
 rintro⟨j,hj⟩ ih
 show Tc M St _ _ _ _ [(14,.slice (some ⟨lb,lo,none⟩) ch.n lc),(15,.int .i64 (ch.n:Nat)),(16,.int .i64 (j:Nat)),(2,.int .i64 0)] [] _ _
 by_cases c1:j=ch.n
 · subst c1
   refine .sr ?_
   refine .i ?_ (z:=lss_f (by omega))
   refine .done (.seq (.ff rfl (.exit rfl (.sr ?_))))
   refine .g ?_
   refine .done ?_
   refine .rt hK Tryz.func124 Tryz.results124 [_] ?_
   exact fun H' hs=> ⟨hs.base,rfl⟩
 · have c2:j<ch.n:=by omega
   have f1:ldL true 4 gs (lo+(j:Int).toNat*4)=some (lineV (ch.x j) (ch.y j) (ch.z j) (ch.u j)):=by rw[show(j:Int).toNat=j by simp];exact hA2 j c2
   refine .sr ?_
   refine .i ?_ (z:=lss_t (by omega))
   refine .done (.seq (.tt rfl (.skip (.seq (.block (.sr ?_))))))
   refine .x .ia ?_
   refine .x .l0 ?_
   refine .e (.al (zz:=fun b4=> ?_))
   refine .e (.st 0 (zz:=?_))
   refine .done (.sr ?_)
   refine .x (.ld 0) ?_
   refine .c rfl rfl rfl rfl (fun H hs=> .f ca126 rfl (checkLine_good M H (ch.x j) (ch.y j) (ch.z j) (ch.u j) (glob_le hG hs.base) (hg.ln j c2))) ?_
   refine .g ?_
   refine .done (.sr ?_)
   refine .m ?_
   refine .i ?_ (z:=neq_f (by omega))
   refine .done (.ff rfl (.skip (.inBlock (.r ?_))))
   refine .i ?_ (z:=add_in (by omega) (by omega))
   refine .m ?_
   refine .done ?_
   exact Tc.db (ih ⟨j+1,by omega⟩ (by simp only;omega))
theorem CheckChain_good(ch:Ch)(lb lo lc:Nat)(A:Option Addr)(hA:ChAt H ch lb lo lc A)(hg:ch.Good)(hG:Glob H):
   CallT M 66 #[ch.val7 lb lo lc] H (fun v H'=> H.le H'∧v=.int .i64 0):=by
 refine CallT.enter (vs:= [ch.val7 lb lo lc]) Tryz.func66 rfl Tryz.ntmps66 (Nat.le_of_ble_eq_true rfl) (SymSt.nil _) fun St c cs hK=> ?_
 refine .sr ?_
 refine .e (.bx (zz:=fun b1=> ?_))
 refine .g ?_
 refine .done (.seq (.sr ?_))
 refine .x .fa ?_
 refine .x (.ld 0) ?_
 refine .x .fa ?_
 refine .x (.ld 0) ?_
 refine .x .fa ?_
 refine .x (.ld 0) ?_
 refine .x .bu ?_
 refine .m ?_
 refine .done (.block ?_)
 refine Tc.db (Tc.loopInv (σ:= { j:Nat//j≤3 }) (fun j=> ([(11,.agg ⟨[.int .i64 ch.s0,.int .i64 ch.s1,.int .i64 ch.a0,.int .i64 ch.a1,.int .i64 ch.r0,.int .i64 ch.r1]⟩),(1,.pointer (some ⟨b1,0,none⟩)),(12,.int .i64 (j.1:Nat)),(2,.int .i64 0)],[(b1,true,.cells ⟨(ch.val7 lb lo lc).cells.toList⟩ 73 (0,0))])) (fun j=> 3-j.1) ?_ ⟨0,by omega⟩)
 rintro⟨j,hj⟩ ih
 show Tc M St _ _ _ _ [(11,.agg ⟨[.int .i64 ch.s0,.int .i64 ch.s1,.int .i64 ch.a0,.int .i64 ch.a1,.int .i64 ch.r0,.int .i64 ch.r1]⟩),(1,.pointer (some ⟨b1,0,none⟩)),(12,.int .i64 (j:Nat)),(2,.int .i64 0)] [(b1,true,.cells ⟨(ch.val7 lb lo lc).cells.toList⟩ 73 (0,0))] _ _
 rcases(by omega:j=0∨j=1∨j=2∨j=3) with rfl|rfl|rfl|rfl
 · refine .sr ?_
   refine .i ?_ (z:=lss_t (by omega))
   refine .done (.seq (.tt rfl (.skip (.seq (.block (.sr ?_))))))
   refine .x .ix ?_
   refine .e (.al (zz:=fun b4=> ?_))
   refine .e (.st 0 (zz:=?_))
   refine .done (.sr ?_)
   refine .x (.ld 0) ?_
   refine .c rfl rfl rfl rfl (fun H hs=> .f ca129 rfl (isPaces_good M H ch.s0 ch.s1 hg.s)) ?_
   refine .x .nt ?_
   refine .done (.ff rfl (.skip (.inBlock (.r ?_))))
   refine .i ?_ (z:=add_in (by omega) (by omega))
   refine .m ?_
   refine .done ?_
   exact Tc.db (ih ⟨1,by omega⟩ (by simp))
 · refine .sr ?_
   refine .i ?_ (z:=lss_t (by omega))
   refine .done (.seq (.tt rfl (.skip (.seq (.block (.sr ?_))))))
   refine .x .ix ?_
   refine .e (.al (zz:=fun b4=> ?_))
   refine .e (.st 0 (zz:=?_))
   refine .done (.sr ?_)
   refine .x (.ld 0) ?_
   refine .c rfl rfl rfl rfl (fun H hs=> .f ca129 rfl (isPaces_good M H ch.a0 ch.a1 hg.a)) ?_
   refine .x .nt ?_
   refine .done (.ff rfl (.skip (.inBlock (.r ?_))))
   refine .i ?_ (z:=add_in (by omega) (by omega))
   refine .m ?_
   refine .done ?_
   exact Tc.db (ih ⟨2,by omega⟩ (by simp))
 · refine .sr ?_
   refine .i ?_ (z:=lss_t (by omega))
   refine .done (.seq (.tt rfl (.skip (.seq (.block (.sr ?_))))))
   refine .x .ix ?_
   refine .e (.al (zz:=fun b4=> ?_))
   refine .e (.st 0 (zz:=?_))
   refine .done (.sr ?_)
   refine .x (.ld 0) ?_
   refine .c rfl rfl rfl rfl (fun H hs=> .f ca129 rfl (isPaces_good M H ch.r0 ch.r1 hg.r)) ?_
   refine .x .nt ?_
   refine .done (.ff rfl (.skip (.inBlock (.r ?_))))
   refine .i ?_ (z:=add_in (by omega) (by omega))
   refine .m ?_
   refine .done ?_
   exact Tc.db (ih ⟨3,by omega⟩ (by simp))
 · refine .sr ?_
   refine .i ?_ (z:=lss_f (by omega))
   refine .done (.seq (.ff rfl (.exit rfl (.sr ?_))))
   refine .x .fa ?_
   refine .x (.ld 0) ?_
   refine .c rfl rfl rfl rfl (fun H hs=> .f ca124 rfl (checkLines_good M H ch lb lo lc A (hA.le hs.base) hg (glob_le hG hs.base))) ?_
   refine .g ?_
   refine .done ?_
   refine .rt hK Tryz.func66 Tryz.results66 [_] ?_
   exact fun H' hs=> ⟨hs.base,rfl⟩
theorem openChain_good(ch:Ch)(lb lo lc ac:Nat)(A:Option Addr)(hA:ChAt H ch lb lo lc A)(hg:ch.Good)(hG:Glob H):
   CallT M 121 #[ch.val7 lb lo lc,.slice A ch.m ac] H (fun v H'=> H.le H'∧v=.tuple ⟨[ch.val lb lo lc ac A,.int .i64 0]⟩):=by
 refine CallT.enter (vs:= [ch.val7 lb lo lc,.slice A ch.m ac]) Tryz.func121 rfl Tryz.ntmps121 (Nat.le_of_ble_eq_true rfl) (SymSt.nil _) fun St c cs hK=> ?_
 have hn0:=hg.ok.n0
 have hn4:=hg.ok.n4
 have hmn:=hg.ok.m_lt
 refine .sr ?_
 refine .e (.bx (zz:=fun b2=> ?_))
 refine .e (.al (zz:=fun b4=> ?_))
 refine .g ?_
 refine .done (.seq (.sr ?_))
 refine .x (.ld 1) ?_
 refine .c rfl rfl rfl rfl (fun H hs=> .f ca66 rfl (CheckChain_good M H ch lb lo lc A (hA.le hs.base) hg (glob_le hG hs.base))) ?_
 refine .g ?_
 refine .done (.sr ?_)
 refine .m ?_
 refine .i ?_ (z:=neq_f (by omega))
 refine .done (.ff rfl (.skip (.seq (.sr ?_))))
 refine .m ?_
 refine .x .ln ?_
 refine .m ?_
 refine .done (.block ?_)
 refine Tc.db (Tc.loopInv (σ:= { j:Nat//j≤ch.m }) (fun j=> ([(1,.slice A ch.m ac),(2,.pointer (some ⟨b2,0,none⟩)),(4,.pointer (some ⟨b4,0,none⟩)),(15,.slice A ch.m ac),(16,.int .i64 (ch.m:Nat)),(17,.int .i64 (j.1:Nat))],
   [(b4,true,.cells ⟨[.int .i64 0,.int .i64 0,.slice none 0 0,.int .i64 0,.int .i64 0,.int .i64 0,.int .i64 0,.slice none 0 0]⟩ 146 (0,0)),(b2,true,.cells ⟨(ch.val7 lb lo lc).cells.toList⟩ 73 (0,0))])) (fun j=> ch.m-j.1) ?_ ⟨0,by omega⟩)
 rintro⟨j,hj⟩ ih
 show Tc M St _ _ _ _ [(1,.slice A ch.m ac),(2,.pointer (some ⟨b2,0,none⟩)),(4,.pointer (some ⟨b4,0,none⟩)),(15,.slice A ch.m ac),(16,.int .i64 (ch.m:Nat)),(17,.int .i64 (j:Nat))]
   [(b4,true,.cells ⟨[.int .i64 0,.int .i64 0,.slice none 0 0,.int .i64 0,.int .i64 0,.int .i64 0,.int .i64 0,.slice none 0 0]⟩ 146 (0,0)),(b2,true,.cells ⟨(ch.val7 lb lo lc).cells.toList⟩ 73 (0,0))] _ _
 by_cases c1:j=ch.m
 · subst c1
   refine .sr ?_
   refine .i ?_ (z:=lss_f (by omega))
   refine .done (.seq (.ff rfl (.exit rfl (.sr ?_))))
   refine .x (.ld 1) ?_
   refine .m ?_
   refine .x .bu ?_
   refine .e (.st 0 (zz:=?_))
   refine .g ?_
   refine .done ?_
   refine Tc.retN (E:=en) hK Tryz.func121 Tryz.results121 (vs:= [_,_]) (by refine⟨⟨0,_,_,_,_,_,_,_,rfl,rfl,rfl,rfl⟩,?_⟩;refine⟨rfl,?_⟩;exact trivial) ?_
   exact fun H' hs=> ⟨hs.base,rfl⟩
 · have c2:j<ch.m:=by omega
   obtain⟨ab,ao,f,gs,gt,gz,rfl,hA3,hA4⟩:=hA.at_ (by omega)
   have f1:ldL false 1 gs (ao+(j:Int).toNat*1)=some (.int .i64 (ch.at_ j:Nat)):=by rw[show(j:Int).toNat=j by simp];exact hA4 j c2
   have hlt:=hg.ok.lt j c2
   by_cases c0:j=0
   · subst c0
     refine .sr ?_
     refine .i ?_ (z:=lss_t (by omega))
     refine .done (.seq (.tt rfl (.skip (.seq (.block (.sr ?_))))))
     refine .m ?_
     refine .x .ia ?_
     refine .x .l0 ?_
     refine .g ?_
     refine .g ?_
     refine .done (.block (.sr ?_))
     refine .m ?_
     refine .i ?_ (z:=lss_f (by omega))
     refine .m ?_
     refine .m ?_
     refine .x .fa ?_
     refine .x (.ld 1) ?_
     refine .x .ln ?_
     refine .i ?_ (z:=sub_in (by omega) (by omega))
     refine .i ?_ (z:=gtr_f (by omega))
     refine .x .pk ?_
     refine .g ?_
     refine .done (.ff rfl (.sr ?_))
     refine .m ?_
     refine .i ?_ (z:=gtr_f (by omega))
     refine .m ?_
     refine .sk ?_
     refine .sk ?_
     refine .sk ?_
     refine .sk ?_
     refine .sk ?_
     refine .sk ?_
     refine .sk ?_
     refine .x .pk ?_
     refine .g ?_
     refine .done (.ff rfl (.skip (.inBlock (.inBlock (.r ?_)))))
     refine .i ?_ (z:=add_in (by omega) (by omega))
     refine .m ?_
     refine .done ?_
     exact Tc.db (ih ⟨1,by omega⟩ (by simp only;omega))
   · have f2:ldL false 1 gs (ao+((j:Int)-1).toNat*1)=some (.int .i64 (ch.at_ (j-1):Nat)):=by rw[show((j:Int)-1).toNat=j-1 by omega];exact hA4 (j-1) (by omega)
     have hmo:=hg.ok.mono' j (j-1) (by omega) c2
     refine .sr ?_
     refine .i ?_ (z:=lss_t (by omega))
     refine .done (.seq (.tt rfl (.skip (.seq (.block (.sr ?_))))))
     refine .m ?_
     refine .x .ia ?_
     refine .x .l0 ?_
     refine .g ?_
     refine .g ?_
     refine .done (.block (.sr ?_))
     refine .m ?_
     refine .i ?_ (z:=lss_f (by omega))
     refine .m ?_
     refine .m ?_
     refine .x .fa ?_
     refine .x (.ld 1) ?_
     refine .x .ln ?_
     refine .i ?_ (z:=sub_in (by omega) (by omega))
     refine .i ?_ (z:=gtr_f (by omega))
     refine .x .pk ?_
     refine .g ?_
     refine .done (.ff rfl (.sr ?_))
     refine .m ?_
     refine .i ?_ (z:=gtr_t (by omega))
     refine .m ?_
     refine .m ?_
     refine .m ?_
     refine .m ?_
     refine .i ?_ (z:=sub_in (by omega) (by omega))
     refine .x .ia ?_
     refine .x .l0 ?_
     refine .i ?_ (z:=leq_f (by omega))
     refine .x .pk ?_
     refine .g ?_
     refine .done (.ff rfl (.skip (.inBlock (.inBlock (.r ?_)))))
     refine .i ?_ (z:=add_in (by omega) (by omega))
     refine .m ?_
     refine .done ?_
     exact Tc.db (ih ⟨j+1,by omega⟩ (by simp only;omega))
end
end Go.Proofs.YtpdaenfglbgfkaaGreatDoor
end
section
namespace Go.Proofs.YtpdaenfglbgfkaaGreatDoor
open Go.RL Go.Conc Go.ConcN Go.RL.Au
open Go.ConcR (stA smA)
open Go.ConcM (muA msA)
set_option maxRecDepth 10000
set_option maxHeartbeats 1000000
section
variable {X:Fk}{κ:Nat}{D:Nat→Bool}{H:View}{cc:Frame}{cs:List Frame}
theorem shp_wg(X:Fk):∃e c,X.shp X.Wg=some (e,c)∧0<c:=by
 unfold Fk.shp
 by_cases h:X.Wg=X.Mu
 · exact⟨X.tM,2,by simp[h],by decide⟩
 · exact⟨X.tW,2,by simp[h],by decide⟩
theorem shp_wg1(X:Fk):∃e c,X.shp X.Wg=some (e,c)∧0+1<c:=by
 unfold Fk.shp
 by_cases h:X.Wg=X.Mu
 · exact⟨X.tM,2,by simp[h],by decide⟩
 · exact⟨X.tW,2,by simp[h],by decide⟩
theorem kw {K:Value→Th→Prop}{k:Nat}:KC false (fun v J'=> ∃k' t',k'<k∧K v t'∧J'=Jw Tryz.prog X κ k' t' D H):=fun _ _ ⟨_,_,_,_,h⟩=> ⟨_,h▸Jw.cl0⟩
noncomputable def X160:Code:=cR (cR (cR (cR (bodyOf Tryz.f160))))
abbrev b160:FB:=⟨160,.normal,none⟩
attribute [local irreducible] IntKind.wrap bitI Int.fdiv in
theorem dn_two {a b:Nat}(ha:a<8)(hb:b<2)(hq:¬(a=0∧b=1))(hK:Jq Tryz.prog 0 (G (cc.finish (.tuple #[])) cs)){R:Rg}
   (hR:AllIn [(0,.pointer (some ⟨X.Wg,0,none⟩)),(1,.int .i64 (-1)),(4,.bool false),(6,.int .u64 ((a*4294967296+b:Nat):Int))] R):
   Sc (Jq Tryz.prog 1) 117 b160 (cc::cs) R [dcall 192 #[]] [.code X160]:=by
 refine Sc.drop hR ?_
 have hsh:=shp_wg X
 have f3:=w32_m1
 have g1:intBin .and .u64 ((a*4294967296+b:Nat):Int) 2147483648=some (.int .u64 0):=by rw[←g64_hi a (by omega) b (by omega)];rfl
 have g2:intBin .and .u64 ((a*4294967296+b:Nat):Int) 2147483647=some (.int .u64 (b:Int)):=by rw[←g64_lo a (by omega) b (by omega)];rfl
 have g3:shiftV .shr .u64 ((a*4294967296+b:Nat):Int) 32=some (.int .u64 (a:Int)):=by rw[←g64_sh a (by omega) b (by omega)];rfl
 have g4:=w32_s a (by omega)
 have g5:=wu32_s b (by omega)
 rcases Nat.eq_zero_or_pos a with hpos|hpos
 all_goals rcases Nat.eq_zero_or_pos b with hposb|hposb
 all_goals first
   | (exfalso;omega)
   | (
     refine .sq (.sq (.rg rfl rfl ?_))
     refine .m ?_
     refine .i ?_ (z:=by assumption)
     refine .i ?_ (z:=neq_f (by omega))
     refine .m ?_
     refine .sk ?_
     refine .sk ?_
     refine .x .pk ?_
     refine .dn (.ff rfl (.sp (.sq ?_)))
     refine Sc.drop (R':= [(0,.pointer (some ⟨X.Wg,0,none⟩)),(1,.int .i64 (-1)),(4,.bool false),(6,.int .u64 ((a*4294967296+b:Nat):Int))]) ⟨rfl,rfl,rfl,rfl,trivial⟩ ?_
     refine .rg rfl rfl ?_
     refine .m ?_
     refine .x (OpP.shift rfl rfl rfl (by omega) (by assumption)) ?_
     refine .x (OpP.conv rfl rfl un_207 un_21 (by assumption)) ?_
     refine .g ?_
     refine .dn (.sq ?_)
     refine Sc.drop (R':= [(0,.pointer (some ⟨X.Wg,0,none⟩)),(1,.int .i64 (-1)),(6,.int .u64 ((a*4294967296+b:Nat):Int)),(7,.int .i32 (a:Int))]) ⟨rfl,rfl,rfl,rfl,trivial⟩ ?_
     refine .rg rfl rfl ?_
     refine .m ?_
     refine .i ?_ (z:=by assumption)
     refine .x (OpP.conv rfl rfl un_207 un_200 (by assumption)) ?_
     refine .g ?_
     refine .dn (.sq (.sq ?_))
     refine Sc.drop (R':= [(0,.pointer (some ⟨X.Wg,0,none⟩)),(1,.int .i64 (-1)),(7,.int .i32 (a:Int)),(8,.int .u32 (b:Int))]) ⟨rfl,rfl,rfl,rfl,trivial⟩ ?_
     refine .rg rfl rfl ?_
     refine .m ?_
     refine .m ?_
     refine .i ?_ (z:=gtr_f (by omega))
     refine .x .pk ?_
     refine .m ?_
     refine .sk ?_
     refine .sk ?_
     refine .sk ?_
     refine .sk ?_
     refine .x .pk ?_
     refine .dn (.ff rfl (.sp (.sq (.sq ?_))))
     refine Sc.drop (R':= [(0,.pointer (some ⟨X.Wg,0,none⟩)),(1,.int .i64 (-1)),(7,.int .i32 (a:Int)),(8,.int .u32 (b:Int))]) ⟨rfl,rfl,rfl,rfl,trivial⟩ ?_
     refine .rg rfl rfl ?_
     refine .m ?_
     refine .i ?_ (z:=lss_f (by omega))
     refine .dn (.ff rfl (.sp (.sq (.sq ?_))))
     refine Sc.drop (R':= [(0,.pointer (some ⟨X.Wg,0,none⟩)),(1,.int .i64 (-1)),(7,.int .i32 (a:Int)),(8,.int .u32 (b:Int))]) ⟨rfl,rfl,rfl,rfl,trivial⟩ ?_
     refine .rg rfl rfl ?_
     refine .m ?_
     refine .i ?_ (z:=by first|exact neq_t (by omega)|exact neq_f (by omega))
     refine .m ?_
     first|(refine .sk ?_)|(refine .m ?_)
     first|(refine .sk ?_)|(refine .x (.it (zz:=gtr_f (by omega))) ?_)
     refine .x .pk ?_
     refine .m ?_
     refine .sk ?_
     refine .sk ?_
     refine .sk ?_
     refine .sk ?_
     refine .x .pk ?_
     refine .dn (.ff rfl (.sp (.sq (.sq ?_))))
     refine Sc.drop (R':= [(0,.pointer (some ⟨X.Wg,0,none⟩)),(1,.int .i64 (-1)),(7,.int .i32 (a:Int)),(8,.int .u32 (b:Int))]) ⟨rfl,rfl,rfl,rfl,trivial⟩ ?_
     refine .rg rfl rfl ?_
     refine .m ?_
     refine .i ?_ (z:=by first|exact gtr_t (by omega)|exact gtr_f (by omega))
     refine .m ?_
     first|(refine .sk ?_)|(refine .m ?_)
     first|(refine .sk ?_)|(refine .x (.it (zz:=eql_t (by omega))) ?_)
     refine .x .pk ?_
     refine .dn (.tt rfl ?_)
     refine Sc.retCode Jq.cl rfl (Jq.en e192 rfl (Sb.leave Jq.cl Tryz.func160 rfl (.inl ⟨Tryz.results160,rfl⟩) hK)))
noncomputable def Y160:Code:=cR (cR (cR (cR (cR (cR (cR X160))))))
attribute [local irreducible] IntKind.wrap bitI Int.fdiv in
theorem dn_last {a b k:Nat}(ne:X.Mu≠X.Wg)(a0:a=0)(b1:b=1)(hK:Jq Tryz.prog 0 (G (cc.finish (.tuple #[])) cs)){R:Rg}
   (hR:AllIn [(0,.pointer (some ⟨X.Wg,0,none⟩)),(4,.bool false),(6,.int .u64 ((a*4294967296+b:Nat):Int)),(8,.int .u32 (b:Int))] R):Sc (Jw Tryz.prog X κ k .d2 D H) 117 b160 (cc::cs) R [dcall 192 #[]] [.code Y160]:=by
 refine Sc.drop hR ?_
 have hsh:=shp_wg X
 have g6:intBin .sub .u32 (b:Int) 1=some (.int .u32 0):=by
   rw[b1]
   exact congrArg (fun x=> some (Value.int .u32 x)) (show IntKind.u32.wrap (((1:Nat):Int)-1)=0 by decide +kernel)
 have g7:intBin .neq .u64 1 ((a*4294967296+b:Nat):Int)=some (.bool false):=neq_f (by omega)
 refine .sq (.sq (.rg rfl rfl ?_))
 refine .m ?_
 refine .x .nk ?_
 refine .x (.fa (zz:=fo_211_1)) ?_
 refine So.callD rfl rfl rfl nofun rfl (.mk' rfl) rfl (load64 Jw.cl0 kw (Jw.d2 e218)) ?_
 rintro v J' ⟨k5,t,hk5,⟨rfl,rfl⟩,rfl⟩
 refine .m ?_
 refine .i ?_ (z:=by assumption)
 refine .dn (.ff rfl (.sp (.sq ?_)))
 refine Sc.drop (R':= [(0,.pointer (some ⟨X.Wg,0,none⟩)),(4,.bool false),(6,.int .u64 ((a*4294967296+b:Nat):Int)),(8,.int .u32 (b:Int))]) ⟨rfl,rfl,rfl,rfl,trivial⟩ ?_
 refine .rg rfl rfl ?_
 refine .m ?_
 refine .x .nk ?_
 refine .x (.fa (zz:=fo_211_1)) ?_
 refine So.callD rfl rfl rfl nofun rfl (.mk' rfl) rfl (store64 Jw.cl0 kw (fun v J' ⟨_,_,_,h,_⟩=> h.1) (Jw.d3 ne e219)) ?_
 rintro v J' ⟨k6,t,hk6,⟨rfl,rfl⟩,rfl⟩
 refine .dn (.sq (.sq ?_))
 refine Sc.drop (R':= [(0,.pointer (some ⟨X.Wg,0,none⟩)),(4,.bool false),(6,.int .u64 ((a*4294967296+b:Nat):Int)),(8,.int .u32 (b:Int))]) ⟨rfl,rfl,rfl,rfl,trivial⟩ ?_
 refine .rg rfl rfl ?_
 refine .m ?_
 refine .dn (.ff rfl (.sp (.bl ?_)))
 refine Sc.loop (by exact Jw.cl0) ?_
 refine .sq (.sq (.rg rfl rfl ?_))
 refine .m ?_
 refine .i ?_ (z:=neq_t (by omega))
 refine .dn (.tt rfl (.sp (.sq (.bl ?_))))
 refine Sc.drop (R':= [(0,.pointer (some ⟨X.Wg,0,none⟩)),(4,.bool false),(6,.int .u64 ((a*4294967296+b:Nat):Int)),(8,.int .u32 (b:Int))]) ⟨rfl,rfl,rfl,rfl,trivial⟩ ?_
 refine .rg rfl rfl ?_
 refine .m ?_
 refine .x .nk ?_
 refine .x (.fa (zz:=fo_211_2)) ?_
 refine So.callD rfl rfl rfl nofun rfl (.mk' rfl) rfl (Jw.d4 (vs:= [.pointer (some ⟨X.Wg,1,none⟩),.bool false,.int .i64 0]) ne e202 rfl) ?_
 rintro v J' ⟨k7,t,hk7,⟨rfl,rfl⟩,rfl⟩
 refine So.mono ?_ (fun g=> Jq.jw)
 refine .dn (.ib ?_)
 refine Sc.drop (R':= [(0,.pointer (some ⟨X.Wg,0,none⟩)),(4,.bool false),(6,.int .u64 ((a*4294967296+b:Nat):Int)),(8,.int .u32 (b:Int))]) ⟨rfl,rfl,rfl,rfl,trivial⟩ ?_
 refine .rg rfl rfl ?_
 refine .m ?_
 refine .i ?_ (z:=by assumption)
 refine .g ?_
 refine .dn ?_
 refine Sc.inLoop (by exact Jq.cl) ?_
 refine Sc.drop (R':= [(8,.int .u32 0)]) ⟨rfl,trivial⟩ ?_
 refine .sq (.sq (.rg rfl rfl ?_))
 refine .m ?_
 refine .i ?_ (z:=neq_f (by omega))
 refine .dn (.ff rfl (.xt rfl ?_))
 refine Sc.over Jq.cl rfl (Jq.en e192 rfl (Sb.leave Jq.cl Tryz.func160 rfl (.inl ⟨Tryz.results160,rfl⟩) hK))
attribute [local irreducible] IntKind.wrap bitI Int.fdiv in
theorem dn_one {a b k:Nat}(ne:X.Mu≠X.Wg)(a0:a=0)(b1:b=1)(hK:Jq Tryz.prog 0 (G (cc.finish (.tuple #[])) cs)){R:Rg}
   (hR:AllIn [(0,.pointer (some ⟨X.Wg,0,none⟩)),(1,.int .i64 (-1)),(4,.bool false),(6,.int .u64 ((a*4294967296+b:Nat):Int))] R):Sc (Jw Tryz.prog X κ k .d2 D H) 117 b160 (cc::cs) R [dcall 192 #[]] [.code X160]:=by
 refine Sc.drop hR ?_
 have hsh:=shp_wg X
 have f3:=w32_m1
 have g1:intBin .and .u64 ((a*4294967296+b:Nat):Int) 2147483648=some (.int .u64 0):=by rw[←g64_hi a (by omega) b (by omega)];rfl
 have g2:intBin .and .u64 ((a*4294967296+b:Nat):Int) 2147483647=some (.int .u64 (b:Int)):=by rw[←g64_lo a (by omega) b (by omega)];rfl
 have g3:shiftV .shr .u64 ((a*4294967296+b:Nat):Int) 32=some (.int .u64 (a:Int)):=by rw[←g64_sh a (by omega) b (by omega)];rfl
 have g4:=w32_s a (by omega)
 have g5:=wu32_s b (by omega)
 refine .sq (.sq (.rg rfl rfl ?_))
 refine .m ?_
 refine .i ?_ (z:=by assumption)
 refine .i ?_ (z:=neq_f (by omega))
 refine .m ?_
 refine .sk ?_
 refine .sk ?_
 refine .x .pk ?_
 refine .dn (.ff rfl (.sp (.sq ?_)))
 refine Sc.drop (R':= [(0,.pointer (some ⟨X.Wg,0,none⟩)),(1,.int .i64 (-1)),(4,.bool false),(6,.int .u64 ((a*4294967296+b:Nat):Int))]) ⟨rfl,rfl,rfl,rfl,trivial⟩ ?_
 refine .rg rfl rfl ?_
 refine .m ?_
 refine .x (OpP.shift rfl rfl rfl (by omega) (by assumption)) ?_
 refine .x (OpP.conv rfl rfl un_207 un_21 (by assumption)) ?_
 refine .g ?_
 refine .dn (.sq ?_)
 refine Sc.drop (R':= [(0,.pointer (some ⟨X.Wg,0,none⟩)),(1,.int .i64 (-1)),(4,.bool false),(6,.int .u64 ((a*4294967296+b:Nat):Int)),(7,.int .i32 (a:Int))]) ⟨rfl,rfl,rfl,rfl,rfl,trivial⟩ ?_
 refine .rg rfl rfl ?_
 refine .m ?_
 refine .i ?_ (z:=by assumption)
 refine .x (OpP.conv rfl rfl un_207 un_200 (by assumption)) ?_
 refine .g ?_
 refine .dn (.sq (.sq ?_))
 refine Sc.drop (R':= [(0,.pointer (some ⟨X.Wg,0,none⟩)),(1,.int .i64 (-1)),(4,.bool false),(6,.int .u64 ((a*4294967296+b:Nat):Int)),(7,.int .i32 (a:Int)),(8,.int .u32 (b:Int))]) ⟨rfl,rfl,rfl,rfl,rfl,rfl,trivial⟩ ?_
 refine .rg rfl rfl ?_
 refine .m ?_
 refine .m ?_
 refine .i ?_ (z:=gtr_f (by omega))
 refine .x .pk ?_
 refine .m ?_
 refine .sk ?_
 refine .sk ?_
 refine .sk ?_
 refine .sk ?_
 refine .x .pk ?_
 refine .dn (.ff rfl (.sp (.sq (.sq ?_))))
 refine Sc.drop (R':= [(0,.pointer (some ⟨X.Wg,0,none⟩)),(1,.int .i64 (-1)),(4,.bool false),(6,.int .u64 ((a*4294967296+b:Nat):Int)),(7,.int .i32 (a:Int)),(8,.int .u32 (b:Int))]) ⟨rfl,rfl,rfl,rfl,rfl,rfl,trivial⟩ ?_
 refine .rg rfl rfl ?_
 refine .m ?_
 refine .i ?_ (z:=lss_f (by omega))
 refine .dn (.ff rfl (.sp (.sq (.sq ?_))))
 refine Sc.drop (R':= [(0,.pointer (some ⟨X.Wg,0,none⟩)),(1,.int .i64 (-1)),(4,.bool false),(6,.int .u64 ((a*4294967296+b:Nat):Int)),(7,.int .i32 (a:Int)),(8,.int .u32 (b:Int))]) ⟨rfl,rfl,rfl,rfl,rfl,rfl,trivial⟩ ?_
 refine .rg rfl rfl ?_
 refine .m ?_
 refine .i ?_ (z:=neq_t (by omega))
 refine .m ?_
 refine .m ?_
 refine .i ?_ (z:=gtr_f (by omega))
 refine .x .pk ?_
 refine .m ?_
 refine .sk ?_
 refine .sk ?_
 refine .sk ?_
 refine .sk ?_
 refine .x .pk ?_
 refine .dn (.ff rfl (.sp (.sq (.sq ?_))))
 refine Sc.drop (R':= [(0,.pointer (some ⟨X.Wg,0,none⟩)),(1,.int .i64 (-1)),(4,.bool false),(6,.int .u64 ((a*4294967296+b:Nat):Int)),(7,.int .i32 (a:Int)),(8,.int .u32 (b:Int))]) ⟨rfl,rfl,rfl,rfl,rfl,rfl,trivial⟩ ?_
 refine .rg rfl rfl ?_
 refine .m ?_
 refine .i ?_ (z:=gtr_f (by omega))
 refine .m ?_
 refine .m ?_
 refine .i ?_ (z:=eql_f (by omega))
 refine .x .pk ?_
 refine .dn (.ff rfl (.sp ?_))
 exact dn_last ne a0 b1 hK ⟨rfl,rfl,rfl,rfl,trivial⟩
attribute [local irreducible] IntKind.wrap bitI Int.fdiv in
theorem donew_c {k:Nat}(ne:X.Mu≠X.Wg):AtC (Jw Tryz.prog X κ k .wr D H) 160 [.pointer (some ⟨X.Wg,0,none⟩),.int .i64 (-1)] fun v J'=> v=.tuple #[]∧J'=Jq Tryz.prog 0:=by
 refine InC.at (by exact Jw.clX rfl) ca160 (InC.enter (vs:= [.pointer (some ⟨X.Wg,0,none⟩),.int .i64 (-1)]) Tryz.func160 rfl Tryz.ntmps160 (Nat.le_of_ble_eq_true rfl) fun c cs hK=> ?_)
 have hsh:=shp_wg X
 have f1:=w64_m1
 have f2:=sh64_m1
 have f3:=w32_m1
 refine .sq (.tt rfl (.sq (.sq (.rg rfl rfl ?_))))
 refine .m ?_
 refine .i ?_ (z:=lss_t (by omega))
 refine .dn (.tt rfl (.rg rfl rfl ?_))
 refine .m ?_
 refine .x (OpP.raw rfl rfl un_234 un_236 sz_211 (by assumption)) ?_
 refine So.callD rfl rfl rfl nofun rfl (.mk' rfl) rfl (Jw.wr e190) ?_
 rintro v J' ⟨rfl,k1,hk1,rfl⟩
 refine .dn (.sq (.rg rfl rfl ?_))
 refine So.callD rfl rfl rfl nofun rfl (.mk' rfl) rfl (Jw.wk e191) ?_
 rintro v J' ⟨k2,t,hk2,⟨rfl,rfl⟩,rfl⟩
 refine .dn (.rg rfl rfl ?_)
 refine So.defer Jw.cl0 (f:=192) (vs:= []) rfl nofun rfl rfl ⟨_,rfl⟩ rfl ?_
 refine .dn (.sq ?_)
 refine Sc.drop (R':= [(0,.pointer (some ⟨X.Wg,0,none⟩)),(1,.int .i64 (-1))]) ⟨rfl,rfl,trivial⟩ ?_
 refine .rg rfl rfl ?_
 refine .g ?_
 refine .dn (.sq (.sq (.rg rfl rfl ?_)))
 refine So.callD rfl rfl rfl nofun rfl (.mk' rfl) rfl (Jw.wi e193) ?_
 rintro v J' ⟨k3,t,hk3,⟨rfl,rfl⟩,rfl⟩
 refine .dn (.ff rfl (.sp (.sq ?_)))
 refine Sc.drop (R':= [(0,.pointer (some ⟨X.Wg,0,none⟩)),(1,.int .i64 (-1)),(4,.bool false)]) ⟨rfl,rfl,rfl,trivial⟩ ?_
 refine .rg rfl rfl ?_
 refine .m ?_
 refine .x .nk ?_
 refine .x (.fa (zz:=fo_211_1)) ?_
 refine .m ?_
 refine .x (OpP.conv rfl rfl un_3 un_207 (by assumption)) ?_
 refine .x (OpP.shift rfl rfl rfl (by omega) (by assumption)) ?_
 refine So.callD rfl rfl rfl nofun rfl (.mk' rfl) rfl (add64 Jw.cl0 kw (Jw.d1 ne e217)) ?_
 rintro v J' ⟨k4,t,hk4,⟨a,b,ha,hb,rfl,rfl⟩,rfl⟩
 by_cases hq:a=0∧b=1
 · rw[if_pos hq]
   refine .g ?_
   refine .dn ?_
   exact dn_one ne hq.1 hq.2 (hK _ _ ⟨rfl,rfl⟩) ⟨rfl,rfl,rfl,rfl,trivial⟩
 · rw[if_neg hq]
   refine So.mono ?_ (fun g=> Jq.jw)
   refine .g ?_
   refine .dn ?_
   exact dn_two (by omega) (by omega) hq (hK _ _ ⟨rfl,rfl⟩) ⟨rfl,rfl,rfl,rfl,trivial⟩
theorem done_d {k n:Nat}{b:FB}{R:Rg}{ds:List Deferred}(hb:b.rd=none)(ne:X.Mu≠X.Wg)
   (h:Sb (Jq Tryz.prog 0) n b cs R ds):Sb (Jw Tryz.prog X κ k .wr D H) n b cs R (dcall 162 #[.pointer (some ⟨X.Wg,0,none⟩)]::ds):=by
 refine Sb.enterD (vs:= [.pointer (some ⟨X.Wg,0,none⟩)]) Jw.cl0 hb Tryz.func162 (by kernel_rfl) rfl Tryz.ntmps162 (Nat.le_of_ble_eq_true rfl) fun c hm hc=> ?_
 refine .rg rfl rfl ?_
 refine .m ?_
 refine So.callD rfl rfl rfl nofun rfl (.mk' rfl) rfl (donew_c ne) ?_
 rintro v J' ⟨rfl,rfl⟩
 refine .dn ?_
 refine Sc.over Jq.cl rfl (Sb.leaveD Jq.cl Tryz.func162 rfl Tryz.results162 (.inl hm) (hc _ h))
end
end Go.Proofs.YtpdaenfglbgfkaaGreatDoor
end
section
namespace Go.Proofs.YtpdaenfglbgfkaaGreatDoor
open Go.RL Go.Conc Go.ConcN Go.RL.Au
open Go.ConcR (stA smA)
open Go.ConcM (muA msA)
set_option maxRecDepth 10000
set_option maxHeartbeats 1000000
section
variable {X:Fk}{H:View}{Fin:Goroutine→Prop}{j:Nat}{cc:Frame}{cs:List Frame}
theorem km {K:Value→Mn→Prop}{k:Nat}:KC true (fun v J'=> ∃k' m',k'<k∧K v m'∧J'=Jm Tryz.prog X Fin k' m' j H):=fun _ _ ⟨_,_,_,_,h⟩=> ⟨_,h▸Jm.cl⟩
theorem w32_1:IntKind.i32.wrap 1=1:=by decide +kernel
attribute [local irreducible] IntKind.wrap bitI Int.fdiv in
theorem addone_c {k:Nat}(ne:X.Mu≠X.Wg):AtC (Jm Tryz.prog X Fin k .kd j H) 160 [.pointer (some ⟨X.Wg,0,none⟩),.int .i64 1] fun v J'=> v=.tuple #[]∧∃k',J'=Jm Tryz.prog X Fin k' .go j H:=by
 refine InC.at (by exact Jm.cl) ca160 (InC.enter (vs:= [.pointer (some ⟨X.Wg,0,none⟩),.int .i64 1]) Tryz.func160 rfl Tryz.ntmps160 (Nat.le_of_ble_eq_true rfl) fun c cs hK=> ?_)
 have hsh:=shp_wg1 X
 have f1:=w64_1
 have f2:=sh64_1
 have f3:=w32_1
 refine .sq (.tt rfl (.sq (.sq (.rg rfl rfl ?_))))
 refine .m ?_
 refine .i ?_ (z:=lss_f (by omega))
 refine .dn (.ff rfl (.sp (.sq (.rg rfl rfl ?_))))
 refine So.callD rfl rfl rfl nofun rfl (.mk' rfl) rfl (Jm.kd e191) ?_
 rintro v J' ⟨k2,t,hk2,⟨rfl,rfl⟩,rfl⟩
 refine .dn (.rg rfl rfl ?_)
 refine So.defer Jm.cl (f:=192) (vs:= []) rfl nofun rfl rfl ⟨_,rfl⟩ rfl ?_
 refine .dn (.sq (.rg rfl rfl ?_))
 refine .g ?_
 refine .dn (.sq (.sq (.rg rfl rfl ?_)))
 refine So.callD rfl rfl rfl nofun rfl (.mk' rfl) rfl (Jm.ki e193) ?_
 rintro v J' ⟨k3,t,hk3,⟨rfl,rfl⟩,rfl⟩
 refine .dn (.ff rfl (.sp (.sq (.rg rfl rfl ?_))))
 refine .m ?_
 refine .x .nk ?_
 refine .x (.fa (zz:=fo_211_1)) ?_
 refine .m ?_
 refine .x (OpP.conv rfl rfl un_3 un_207 (by assumption)) ?_
 refine .x (OpP.shift rfl rfl rfl (by omega) (by assumption)) ?_
 refine So.callD rfl rfl rfl nofun rfl (.mk' rfl) rfl (add64 Jm.cl km (Jm.ka ne e217)) ?_
 rintro v J' ⟨k4,t,hk4,⟨a,ha,rfl,rfl⟩,rfl⟩
 have e0:(((a+1)*4294967296:Nat):Int)=(((a+1)*4294967296+0:Nat):Int):=(congrArg (fun x:Nat=> (x:Int)) (Nat.add_zero _)).symm
 have g1:intBin .and .u64 (((a+1)*4294967296:Nat):Int) 2147483648=some (.int .u64 0):=by rw[e0,←g64_hi (a+1) (by omega) 0 (by omega)];rfl
 have g2:intBin .and .u64 (((a+1)*4294967296:Nat):Int) 2147483647=some (.int .u64 0):=by
   have:=g64_lo (a+1) (by omega) 0 (by omega)
   rw[e0]
   exact congrArg (fun x=> some (Value.int .u64 x)) this
 have g3:shiftV .shr .u64 (((a+1)*4294967296:Nat):Int) 32=some (.int .u64 ((a+1:Nat):Int)):=by rw[e0,←g64_sh (a+1) (by omega) 0 (by omega)];rfl
 have g4:=w32_s (a+1) (by omega)
 have g5:IntKind.u32.wrap 0=0:=wu32_s 0 (by omega)
 have gg:(0:Int)<((a+1:Nat):Int):=by omega
 refine .g ?_
 refine .dn ?_
 refine Sc.drop (R':= [(0,.pointer (some ⟨X.Wg,0,none⟩)),(1,.int .i64 1),(4,.bool false),(6,.int .u64 (((a+1)*4294967296:Nat):Int))]) ⟨rfl,rfl,rfl,rfl,trivial⟩ ?_
 refine .sq (.sq (.rg rfl rfl ?_))
 refine .m ?_
 refine .i ?_ (z:=by assumption)
 refine .i ?_ (z:=neq_f (by omega))
 refine .m ?_
 refine .sk ?_
 refine .sk ?_
 refine .x .pk ?_
 refine .dn (.ff rfl (.sp (.sq ?_)))
 refine Sc.drop (R':= [(0,.pointer (some ⟨X.Wg,0,none⟩)),(1,.int .i64 1),(4,.bool false),(6,.int .u64 (((a+1)*4294967296:Nat):Int))]) ⟨rfl,rfl,rfl,rfl,trivial⟩ ?_
 refine .rg rfl rfl ?_
 refine .m ?_
 refine .x (OpP.shift rfl rfl rfl (by omega) (by assumption)) ?_
 refine .x (OpP.conv rfl rfl un_207 un_21 (by assumption)) ?_
 refine .g ?_
 refine .dn ?_
 refine Sc.drop (R':= [(0,.pointer (some ⟨X.Wg,0,none⟩)),(1,.int .i64 1),(4,.bool false),(6,.int .u64 (((a+1)*4294967296:Nat):Int)),(7,.int .i32 ((a+1:Nat):Int))]) ⟨rfl,rfl,rfl,rfl,rfl,trivial⟩ ?_
 refine .sq (.rg rfl rfl ?_)
 refine .m ?_
 refine .i ?_ (z:=by assumption)
 refine .x (OpP.conv rfl rfl un_207 un_200 (by assumption)) ?_
 refine .g ?_
 refine .dn ?_
 refine Sc.drop (R':= [(0,.pointer (some ⟨X.Wg,0,none⟩)),(1,.int .i64 1),(4,.bool false),(7,.int .i32 ((a+1:Nat):Int)),(8,.int .u32 0)]) ⟨rfl,rfl,rfl,rfl,rfl,trivial⟩ ?_
 refine .sq (.sq ?_)
 by_cases hz:a=0
 · rw[if_pos hz]
   have q1:intBin .eql .i32 ((a+1:Nat):Int) 1=some (.bool true):=eql_t (by omega)
   refine .rg rfl rfl ?_
   refine .m ?_
   refine .m ?_
   refine .i ?_ (z:=gtr_t (by omega))
   refine .x .pk ?_
   refine .m ?_
   refine .m ?_
   refine .m ?_
   refine .x (OpP.conv rfl rfl un_3 un_21 (by assumption)) ?_
   refine .i ?_ (z:=by assumption)
   refine .x .pk ?_
   refine .dn (.tt rfl ?_)
   refine Sc.drop (R':= [(0,.pointer (some ⟨X.Wg,0,none⟩)),(1,.int .i64 1),(4,.bool false),(7,.int .i32 ((a+1:Nat):Int)),(8,.int .u32 0)]) ⟨rfl,rfl,rfl,rfl,rfl,trivial⟩ ?_
   refine .rg rfl rfl ?_
   refine .m ?_
   refine .x .nk ?_
   refine .x (.fa (zz:=fo_211_2)) ?_
   refine .x (OpP.raw rfl rfl un_241 un_236 sz_200 (by assumption)) ?_
   refine So.callD rfl rfl rfl nofun rfl (.mk' rfl) rfl (Jm.kr e198) ?_
   rintro v J' ⟨rfl,k5,hk5,rfl⟩
   refine .dn ?_
   refine Sc.drop (R':= [(0,.pointer (some ⟨X.Wg,0,none⟩)),(1,.int .i64 1),(4,.bool false),(7,.int .i32 ((a+1:Nat):Int)),(8,.int .u32 0)]) ⟨rfl,rfl,rfl,rfl,rfl,trivial⟩ ?_
   refine .sq (.sq (.rg rfl rfl ?_))
   refine .m ?_
   refine .i ?_ (z:=lss_f (by omega))
   refine .dn (.ff rfl (.sp (.sq (.sq (.rg rfl rfl ?_)))))
   refine .m ?_
   refine .i ?_ (z:=neq_f (by omega))
   refine .m ?_
   refine .sk ?_
   refine .sk ?_
   refine .x .pk ?_
   refine .m ?_
   refine .sk ?_
   refine .sk ?_
   refine .sk ?_
   refine .sk ?_
   refine .x .pk ?_
   refine .dn (.ff rfl (.sp (.sq (.sq ?_))))
   refine Sc.drop (R':= [(0,.pointer (some ⟨X.Wg,0,none⟩)),(1,.int .i64 1),(4,.bool false),(7,.int .i32 ((a+1:Nat):Int)),(8,.int .u32 0)]) ⟨rfl,rfl,rfl,rfl,rfl,trivial⟩ ?_
   refine .rg rfl rfl ?_
   refine .m ?_
   refine .i ?_ (z:=gtr_t (by omega))
   refine .m ?_
   refine .sk ?_
   refine .sk ?_
   refine .x .pk ?_
   refine .dn (.tt rfl ?_)
   refine Sc.retCode Jm.cl rfl (Jm.ke e192 rfl (fun k' _=> Sb.leave Jm.cl Tryz.func160 rfl (.inl ⟨Tryz.results160,rfl⟩) (hK _ _ ⟨rfl,k',rfl⟩)))
 · rw[if_neg hz]
   have q1:intBin .eql .i32 ((a+1:Nat):Int) 1=some (.bool false):=eql_f (by omega)
   refine .rg rfl rfl ?_
   refine .m ?_
   refine .m ?_
   refine .i ?_ (z:=gtr_t (by omega))
   refine .x .pk ?_
   refine .m ?_
   refine .m ?_
   refine .m ?_
   refine .x (OpP.conv rfl rfl un_3 un_21 (by assumption)) ?_
   refine .i ?_ (z:=by assumption)
   refine .x .pk ?_
   refine .dn (.ff rfl (.sp (.sq (.sq ?_))))
   refine Sc.drop (R':= [(0,.pointer (some ⟨X.Wg,0,none⟩)),(1,.int .i64 1),(4,.bool false),(7,.int .i32 ((a+1:Nat):Int)),(8,.int .u32 0)]) ⟨rfl,rfl,rfl,rfl,rfl,trivial⟩ ?_
   refine .rg rfl rfl ?_
   refine .m ?_
   refine .i ?_ (z:=lss_f (by omega))
   refine .dn (.ff rfl (.sp (.sq (.sq (.rg rfl rfl ?_)))))
   refine .m ?_
   refine .i ?_ (z:=neq_f (by omega))
   refine .m ?_
   refine .sk ?_
   refine .sk ?_
   refine .x .pk ?_
   refine .m ?_
   refine .sk ?_
   refine .sk ?_
   refine .sk ?_
   refine .sk ?_
   refine .x .pk ?_
   refine .dn (.ff rfl (.sp (.sq (.sq ?_))))
   refine Sc.drop (R':= [(0,.pointer (some ⟨X.Wg,0,none⟩)),(1,.int .i64 1),(4,.bool false),(7,.int .i32 ((a+1:Nat):Int)),(8,.int .u32 0)]) ⟨rfl,rfl,rfl,rfl,rfl,trivial⟩ ?_
   refine .rg rfl rfl ?_
   refine .m ?_
   refine .i ?_ (z:=gtr_t (by omega))
   refine .m ?_
   refine .sk ?_
   refine .sk ?_
   refine .x .pk ?_
   refine .dn (.tt rfl ?_)
   refine Sc.retCode Jm.cl rfl (Jm.ke e192 rfl (fun k' _=> Sb.leave Jm.cl Tryz.func160 rfl (.inl ⟨Tryz.results160,rfl⟩) (hK _ _ ⟨rfl,k',rfl⟩)))
end
end Go.Proofs.YtpdaenfglbgfkaaGreatDoor
end
section
namespace Go.Proofs.YtpdaenfglbgfkaaGreatDoor
open Go.RL Go.Conc Go.ConcN Go.RL.Au
open Go.ConcR (stA smA)
open Go.ConcM (muA msA)
set_option maxRecDepth 10000
set_option maxHeartbeats 1000000
section
variable {X:Fk}{H:View}{Fin:Goroutine→Prop}{j:Nat}{cc:Frame}{cs:List Frame}
noncomputable def B165:Code:=cB (cB (cR (bodyOf Tryz.f165)))
abbrev b165:FB:=⟨165,.normal,none⟩
attribute [local irreducible] IntKind.wrap bitI Int.fdiv in
theorem wait_head(hc:Cl Tryz.prog true noSh Fin)(ne:X.Mu≠X.Wg)(hK:Fin (G (cc.finish (.tuple #[])) cs))(k:Nat):∀R:Rg,AllIn [(0,.pointer (some ⟨X.Wg,0,none⟩))] R→Sc (Jm Tryz.prog X Fin k .w1 j H) 84 b165 (cc::cs) R [] [.code B165,.inLoop B165,.inBlock 0]:=by
 induction k using Nat.strongRecOn with
 | ind k IH=>
   intro R hR
   refine Sc.drop hR ?_
   have hsh:=shp_wg X
   have hsh1:=shp_wg1 X
   refine Sc.block (by first|exact Jm.cl|exact hc) ?_;refine Sc.seq (by first|exact Jm.cl|exact hc) ?_
   refine .rg rfl rfl ?_
   refine .m ?_
   refine .x .nk ?_
   refine .x (.fa (zz:=fo_211_1)) ?_
   refine So.callD rfl rfl rfl nofun rfl (.mk' rfl) rfl (load64 Jm.cl km (Jm.w1 e218)) ?_
   rintro v J' ⟨k1,t,hk1,⟨a,ha,rfl,rfl⟩,rfl⟩
   have e0:((a*4294967296:Nat):Int)=((a*4294967296+0:Nat):Int):=(congrArg (fun x:Nat=> (x:Int)) (Nat.add_zero _)).symm
   have g1:intBin .and .u64 ((a*4294967296:Nat):Int) 2147483648=some (.int .u64 0):=by rw[e0,←g64_hi a (by omega) 0 (by omega)];rfl
   have g2:intBin .and .u64 ((a*4294967296:Nat):Int) 2147483647=some (.int .u64 0):=by
     have:=g64_lo a (by omega) 0 (by omega)
     rw[e0]
     exact congrArg (fun x=> some (Value.int .u64 x)) this
   have g3:shiftV .shr .u64 ((a*4294967296:Nat):Int) 32=some (.int .u64 (a:Int)):=by rw[e0,←g64_sh a (by omega) 0 (by omega)];rfl
   have g4:=w32_s a (by omega)
   have g5:IntKind.u32.wrap 0=0:=wu32_s 0 (by omega)
   have g6:intBin .add .u64 ((a*4294967296:Nat):Int) 1=some (.int .u64 ((a*4294967296+1:Nat):Int)):=by
     have h:∀a:Nat,a<8→IntKind.u64.wrap (((a*4294967296:Nat):Int)+1)=((a*4294967296+1:Nat):Int):=by decide +kernel
     exact congrArg (fun x=> some (Value.int .u64 x)) (h a (by omega))
   refine .g ?_
   refine .dn ?_
   refine Sc.drop (R':= [(0,.pointer (some ⟨X.Wg,0,none⟩)),(2,.int .u64 ((a*4294967296:Nat):Int))]) ⟨rfl,rfl,trivial⟩ ?_
   refine Sc.seq (by first|exact Jm.cl|exact hc) ?_
   refine .rg rfl rfl ?_
   refine .m ?_
   refine .x (OpP.shift rfl rfl rfl (by omega) (by assumption)) ?_
   refine .x (OpP.conv rfl rfl un_207 un_21 (by assumption)) ?_
   refine .g ?_
   refine .dn ?_
   refine Sc.drop (R':= [(0,.pointer (some ⟨X.Wg,0,none⟩)),(2,.int .u64 ((a*4294967296:Nat):Int)),(3,.int .i32 (a:Int))]) ⟨rfl,rfl,rfl,trivial⟩ ?_
   refine Sc.seq (by first|exact Jm.cl|exact hc) ?_
   refine .rg rfl rfl ?_
   refine .m ?_
   refine .i ?_ (z:=by assumption)
   refine .x (OpP.conv rfl rfl un_207 un_200 (by assumption)) ?_
   refine .g ?_
   refine .dn ?_
   refine Sc.drop (R':= [(0,.pointer (some ⟨X.Wg,0,none⟩)),(2,.int .u64 ((a*4294967296:Nat):Int)),(3,.int .i32 (a:Int)),(4,.int .u32 0)]) ⟨rfl,rfl,rfl,rfl,trivial⟩ ?_
   refine Sc.seq (by first|exact Jm.cl|exact hc) ?_;refine Sc.seq (by first|exact Jm.cl|exact hc) ?_
   by_cases hz:a=0
   · rw[if_pos hz]
     have q1:intBin .eql .i32 (a:Int) 0=some (.bool true):=eql_t (by omega)
     refine .rg rfl rfl ?_
     refine .m ?_
     refine .i ?_ (z:=by assumption)
     refine .dn ?_
     refine Sc.cond (by first|exact Jm.cl|exact hc) (t:=true) rfl (fun _=> ?_) (fun h=> nomatch h);refine Sc.seq (by first|exact Jm.cl|exact hc) ?_;refine Sc.cond (by first|exact Jm.cl|exact hc) (t:=true) rfl (fun _=> ?_) (fun h=> nomatch h);refine Sc.seq (by first|exact Jm.cl|exact hc) ?_
     refine .rg rfl rfl ?_
     refine So.callD rfl rfl rfl nofun rfl (.mk' rfl) rfl (Jm.we e192) ?_
     rintro v J' ⟨k2,t,hk2,⟨rfl,rfl⟩,rfl⟩
     refine .dn (.rg rfl rfl ?_)
     refine .m ?_
     refine .x (OpP.raw rfl rfl un_234 un_236 sz_211 (by assumption)) ?_
     refine So.callD rfl rfl rfl nofun rfl (.mk' rfl) rfl (Jm.aq e205) ?_
     rintro v J' ⟨rfl,rfl⟩
     refine .dn (.sq (.sq (.rg rfl rfl ?_)))
     refine .m ?_
     refine .i ?_ (z:=eql_t (by omega))
     refine .m ?_
     refine .m ?_
     refine .i ?_ (z:=by assumption)
     refine .i ?_ (z:=neq_f (by omega))
     refine .x .pk ?_
     refine .m ?_
     refine .sk ?_
     refine .sk ?_
     refine .x .pk ?_
     refine .dn (.ff rfl (.sp ?_))
     refine Sc.retCode (by exact hc) rfl (Sb.leave (by exact hc) Tryz.func165 rfl (by exact .inl ⟨Tryz.results165,rfl⟩) ?_)
     exact hK
   · rw[if_neg hz]
     have q1:intBin .eql .i32 (a:Int) 0=some (.bool false):=eql_f (by omega)
     refine .rg rfl rfl ?_
     refine .m ?_
     refine .i ?_ (z:=by assumption)
     refine .dn ?_
     refine Sc.cond (by first|exact Jm.cl|exact hc) (t:=false) rfl (fun h=> nomatch h) (fun _=> ?_);refine Sc.skip (by first|exact Jm.cl|exact hc) ?_;refine Sc.seq (by first|exact Jm.cl|exact hc) ?_
     refine .rg rfl rfl ?_
     refine .m ?_
     refine .x .nk ?_
     refine .x (.fa (zz:=fo_211_1)) ?_
     refine .m ?_
     refine .m ?_
     refine .i ?_ (z:=by assumption)
     refine So.callD rfl rfl rfl nofun rfl (.mk' rfl) rfl (cas64 Jm.cl km (Jm.w2 ne e224)) ?_
     rintro v J' ⟨k2,t,hk2,⟨rfl,rfl⟩|⟨rfl,rfl⟩,rfl⟩
     · refine .dn ?_
       refine Sc.cond (by first|exact Jm.cl|exact hc) (t:=true) rfl (fun _=> ?_) (fun h=> nomatch h);refine Sc.seq (by first|exact Jm.cl|exact hc) ?_;refine Sc.seq (by first|exact Jm.cl|exact hc) ?_
       refine Sc.drop (R':= [(0,.pointer (some ⟨X.Wg,0,none⟩)),(2,.int .u64 ((a*4294967296:Nat):Int)),(4,.int .u32 0)]) ⟨rfl,rfl,rfl,trivial⟩ ?_
       refine .rg rfl rfl ?_
       refine .m ?_
       refine .m ?_
       refine .i ?_ (z:=eql_t (by omega))
       refine .x .pk ?_
       refine .dn ?_
       refine Sc.cond (by first|exact Jm.cl|exact hc) (t:=true) rfl (fun _=> ?_) (fun h=> nomatch h)
       refine .rg rfl rfl ?_
       refine .m ?_
       refine .x .nk ?_
       refine .x (.fa (zz:=fo_211_2)) ?_
       refine .x (OpP.raw rfl rfl un_241 un_236 sz_200 (by assumption)) ?_
       refine So.callD rfl rfl rfl nofun rfl (.mk' rfl) rfl (Jm.wm e208) ?_
       rintro v J' ⟨rfl,k3,hk3,rfl⟩
       refine .dn ?_
       refine Sc.drop (R':= [(0,.pointer (some ⟨X.Wg,0,none⟩)),(2,.int .u64 ((a*4294967296:Nat):Int)),(4,.int .u32 0)]) ⟨rfl,rfl,rfl,trivial⟩ ?_
       refine Sc.seq (by first|exact Jm.cl|exact hc) ?_
       refine .rg rfl rfl ?_
       refine .g ?_
       refine .dn ?_
       refine Sc.seq (by first|exact Jm.cl|exact hc) ?_;refine Sc.seq (by first|exact Jm.cl|exact hc) ?_
       refine .rg rfl rfl ?_
       refine .m ?_
       refine .i ?_ (z:=by assumption)
       refine .i ?_ (z:=neq_f (by omega))
       refine .m ?_
       refine .sk ?_
       refine .x .pk ?_
       refine .dn ?_
       refine Sc.cond (by first|exact Jm.cl|exact hc) (t:=false) rfl (fun h=> nomatch h) (fun _=> ?_);refine Sc.skip (by first|exact Jm.cl|exact hc) ?_;refine Sc.seq (by first|exact Jm.cl|exact hc) ?_
       refine .rg rfl rfl ?_
       refine .m ?_
       refine .x .nk ?_
       refine .x (.fa (zz:=fo_211_2)) ?_
       refine .m ?_
       refine So.callD rfl rfl rfl nofun rfl (.mk' rfl) rfl (Jm.ws (vs:= [.pointer (some ⟨X.Wg,1,none⟩),.bool false]) ne e209 rfl) ?_
       rintro v J' ⟨k4,t,hk4,⟨rfl,rfl⟩,rfl⟩
       refine .dn ?_
       refine Sc.drop (R':= [(0,.pointer (some ⟨X.Wg,0,none⟩))]) ⟨rfl,trivial⟩ ?_
       refine Sc.seq (by first|exact Jm.cl|exact hc) ?_
       refine .rg rfl rfl ?_
       refine .m ?_
       refine .x .nk ?_
       refine .x (.fa (zz:=fo_211_1)) ?_
       refine So.callD rfl rfl rfl nofun rfl (.mk' rfl) rfl (load64 Jm.cl km (Jm.w4 e218)) ?_
       rintro v J' ⟨k5,t,hk5,⟨rfl,rfl⟩,rfl⟩
       refine .i ?_ (z:=neq_f (by omega))
       refine .g ?_
       refine .dn ?_
       refine Sc.seq (by first|exact Jm.cl|exact hc) ?_;refine Sc.cond (by first|exact Jm.cl|exact hc) (t:=true) rfl (fun _=> ?_) (fun h=> nomatch h);refine Sc.seq (by first|exact Jm.cl|exact hc) ?_
       refine .rg rfl rfl ?_
       refine So.callD rfl rfl rfl nofun rfl (.mk' rfl) rfl (Jm.we e192) ?_
       rintro v J' ⟨k6,t,hk6,⟨rfl,rfl⟩,rfl⟩
       refine .dn (.rg rfl rfl ?_)
       refine .m ?_
       refine .x (OpP.raw rfl rfl un_234 un_236 sz_211 (by assumption)) ?_
       refine So.callD rfl rfl rfl nofun rfl (.mk' rfl) rfl (Jm.aq e205) ?_
       rintro v J' ⟨rfl,rfl⟩
       refine .dn (.sq (.sq (.rg rfl rfl ?_)))
       refine .m ?_
       refine .dn (.ff rfl (.sp ?_))
       refine Sc.retCode (by exact hc) rfl (Sb.leave (by exact hc) Tryz.func165 rfl (by exact .inl ⟨Tryz.results165,rfl⟩) ?_)
       exact hK
     · refine .dn ?_
       refine Sc.cond (by first|exact Jm.cl|exact hc) (t:=false) rfl (fun h=> nomatch h) (fun _=> ?_);refine Sc.skip (by first|exact Jm.cl|exact hc) ?_;refine Sc.inBlock (by first|exact Jm.cl|exact hc) ?_
       refine Sc.inLoop (by exact Jm.cl) ?_
       exact IH k2 (by omega) _ ⟨rfl,trivial⟩
theorem wait_c {k:Nat}(hc:Cl Tryz.prog true noSh Fin)(ne:X.Mu≠X.Wg):AtC (Jm Tryz.prog X Fin k .wd j H) 165 [.pointer (some ⟨X.Wg,0,none⟩)] fun v J'=> v=.tuple #[]∧J'=Fin:=by
 refine InC.at (by exact Jm.cl) ca165 (InC.enter (vs:= [.pointer (some ⟨X.Wg,0,none⟩)]) Tryz.func165 rfl Tryz.ntmps165 (Nat.le_of_ble_eq_true rfl) fun c cs hK=> ?_)
 refine Sc.seq (by first|exact Jm.cl|exact hc) ?_;refine Sc.cond (by first|exact Jm.cl|exact hc) (t:=true) rfl (fun _=> ?_) (fun h=> nomatch h)
 refine .rg rfl rfl ?_
 refine So.callD rfl rfl rfl nofun rfl (.mk' rfl) rfl (Jm.wd e191) ?_
 rintro v J' ⟨k2,t,hk2,⟨rfl,rfl⟩,rfl⟩
 refine .dn ?_
 refine Sc.block (by first|exact Jm.cl|exact hc) ?_
 refine Sc.loop (by exact Jm.cl) ?_
 exact wait_head hc ne (hK _ _ ⟨rfl,rfl⟩) k2 _ ⟨rfl,trivial⟩
end
end Go.Proofs.YtpdaenfglbgfkaaGreatDoor
end
