/-
  Paces, leans and moves that are all so many times as great are read alike: the walk.
-/
import Derived.Test.YtpdaenfglbgfkaaGreatDoorX09
namespace Go.Proofs.YtpdaenfglbgfkaaGreatDoor
open Go.RL
set_option maxRecDepth 10000
set_option maxHeartbeats 8000000
def Lk.single(k:Lk)(s r n:Int):Lk:=⟨s,s,r,r,n,n,k.m0,k.m1⟩
theorem Lk.ok_single {k:Lk}(h:k.ok=true){s r n:Int}(hs:k.s0≤s∧s≤k.s1)(hr:k.r0≤r∧r≤k.r1)(hn:k.l0≤n∧n≤k.l1):(k.single s r n).ok=true:=by
 obtain⟨h1,h2,h3,_⟩:=Lk.ok_in h
 rw[Lk.ok_eq] at h ⊢
 simp only[Bool.and_eq_true] at h ⊢
 obtain⟨_,_,h4⟩:=h
 exact⟨⟨decide_eq_true (by show 1≤s∧s≤s∧s≤40∧s-s<3;omega),decide_eq_true (by show 1≤r∧r≤r∧r≤40∧r-r<3;omega)⟩,decide_eq_true (by show -9≤n∧n≤n∧n≤9∧n-n<3;omega),h4⟩
theorem Lk.Past.single {k:Lk}{c:Nat}{a r n:Int}{mv:List Int}(h:k.Past c a r n mv):(k.single a r n).Past c a r n mv:=
 ⟨⟨Int.le_refl _,Int.le_refl _⟩,⟨Int.le_refl _,Int.le_refl _⟩,⟨Int.le_refl _,Int.le_refl _⟩,h.len,h.moves⟩
section
variable(M:Md Tryz.prog)(H:View)
theorem single_c(k:Lk)(s r n:Int):CallT M 37 #[k.val,.int .i64 s,.int .i64 r,.int .i64 n] H (fun v H'=> H.le H'∧v=(k.single s r n).val):=by
 refine CallT.enter (vs:= [k.val,.int .i64 s,.int .i64 r,.int .i64 n]) Tryz.func37 rfl Tryz.ntmps37 (Nat.le_of_ble_eq_true rfl) (SymSt.nil _) fun St c cs hK=> ?_
 refine .sr ?_
 refine .e (.bx (zz:=fun b4=> ?_))
 refine .e (.al (zz:=fun b8=> ?_))
 refine .done (.sr ?_)
 refine .m ?_
 refine .m ?_
 refine .c rfl rfl rfl rfl (fun H hs=> .f ca40 rfl (to_c M H s s)) ?_
 refine .m ?_
 refine .m ?_
 refine .c rfl rfl rfl rfl (fun H hs=> .f ca40 rfl (to_c M H r r)) ?_
 refine .m ?_
 refine .m ?_
 refine .c rfl rfl rfl rfl (fun H hs=> .f ca40 rfl (to_c M H n n)) ?_
 refine .x .fa ?_
 refine .e (.st 1 (zz:=?_))
 refine .x .fa ?_
 refine .e (.st 1 (zz:=?_))
 refine .x .fa ?_
 refine .x .fa ?_
 refine .e (.st 1 (zz:=?_))
 refine .done (.sr ?_)
 refine .x (.ld 1) ?_
 refine .e (.st 0 (zz:=?_))
 refine .done ?_
 refine Tc.retN (E:=en) hK Tryz.func37 Tryz.results37 (vs:= [_]) (by refine⟨⟨0,_,_,_,_,_,_,_,rfl,rfl,rfl,rfl⟩,?_⟩;exact trivial) ?_
 exact fun H' hs=> ⟨hs.base,rfl⟩
end
end Go.Proofs.YtpdaenfglbgfkaaGreatDoor
