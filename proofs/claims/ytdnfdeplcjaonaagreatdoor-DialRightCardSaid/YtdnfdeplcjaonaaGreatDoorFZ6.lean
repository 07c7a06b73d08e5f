/-
  Small functions of the reference and the law: HasNum, Pick, Ascending.
-/
import Derived.Test.YtdnfdeplcjaonaaGreatDoorF09
namespace Go.Proofs.YtdnfdeplcjaonaaGreatDoor
open Go.RL
set_option maxRecDepth 10000
set_option maxHeartbeats 8000000
section
variable(M:Md Tryz.prog)(H:View)
theorem Pick_c(a b:Int)(ha:0≤a∧a≤b∧b≤1000000)(p:Int)(hp:0≤p∧p≤1000000):CallT M 73 #[bandV a b,.int .i64 p] H (fun v H'=> H.le H'∧v=.int .i64 (a+p%(b-a+1))):=by
 have e1:intBin .rem .i64 p (b-a+1)=some (.int .i64 (p%(b-a+1))):=rem_in (by omega) (by omega)
 have h1:=Int.emod_nonneg p (show b-a+1≠0 by omega)
 have h2:=Int.emod_lt_of_pos p (show 0<b-a+1 by omega)
 refine CallT.enter (vs:= [bandV a b,.int .i64 p]) Tryz.func73 rfl Tryz.ntmps73 (Nat.le_of_ble_eq_true rfl) (SymSt.nil _) fun St c cs hK=> ?_
 refine .sr ?_
 refine .e (.bx (zz:=fun b1=> ?_))
 refine .g ?_
 refine .done (.seq ?_)
 refine Tc.dr [] [] mixed rfl ?_
 refine .q 0 rfl .fa ?_
 refine .q 1 rfl (.ld 0) ?_
 refine .q 2 rfl .mv ?_
 refine .q 3 rfl .fa ?_
 refine .q 4 rfl (.ld 0) ?_
 refine .q 5 rfl .fa ?_
 refine .q 6 rfl (.ld 0) ?_
 refine .q 7 rfl (.it (zz:=sub_in (by omega) (by omega))) ?_
 refine .q 8 rfl (.it (zz:=add_in (by omega) (by omega))) ?_
 refine .q 9 rfl (.it (zz:=(by assumption))) ?_
 refine .q 10 rfl (.it (zz:=add_in (by omega) (by omega))) ?_
 refine .q 11 rfl .sg ?_
 refine Ta.done (by kernel_rfl) ?_
 refine .rt hK Tryz.func73 Tryz.results73 [_] ?_
 exact fun H' hs=> ⟨hs.base,rfl⟩
end
end Go.Proofs.YtdnfdeplcjaonaaGreatDoor
