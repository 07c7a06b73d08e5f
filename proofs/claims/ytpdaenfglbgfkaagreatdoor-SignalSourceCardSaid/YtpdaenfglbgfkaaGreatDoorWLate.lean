/-
  What some walks want beside the rest.
-/
import Derived.Test.YtpdaenfglbgfkaaGreatDoorW08
namespace Go.Proofs.YtpdaenfglbgfkaaGreatDoor
open Go.RL
set_option maxRecDepth 10000
theorem ca50 : callable Tryz.prog 50 = true := by kernel_rfl
theorem ca72 : callable Tryz.prog 72 = true := by kernel_rfl
theorem ca80 : callable Tryz.prog 80 = true := by kernel_rfl
end Go.Proofs.YtpdaenfglbgfkaaGreatDoor
