/-
  Arguments: small numbers with a sign.
-/
import Derived.Test.YtpdaenfglbgfkaaGreatDoorX09
import Derived.Test.YtpdaenfglbgfkaaGreatDoorXR2
namespace Go.Proofs.YtpdaenfglbgfkaaGreatDoor
open Go.RL Go.ChangeShapes Go.WideShapes Go.ChangeAt Go.RowKit
set_option maxRecDepth 100000
theorem open_i8 {W:World}{base:Nat}{v:Value}(h:Value.okWide Tryz.prog W .any base 90 v):∃x,v=.int .i8 x∧ -128≤x∧x<128:=by
 unfold Value.okWide Cell.okWide Cell.ok at h
 rw[show Tryz.prog.underlying 90=some (.int .i8) by kernel_rfl] at h
 cases v with
 | int k n=>
   obtain⟨rfl,h1,h2⟩:=h
   have e1:IntKind.i8.min= -128:=by kernel_rfl
   have e2:IntKind.i8.max=127:=by kernel_rfl
   exact⟨n,rfl,by omega,by omega⟩
 | _=> exact h.elim
end Go.Proofs.YtpdaenfglbgfkaaGreatDoor
