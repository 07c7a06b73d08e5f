/-
  Sent of two, four or six times; Tune of too few or too many; Learn.
-/
import Derived.Test.YtpdaenfglbgfkaaGreatDoorX08
namespace Go.Proofs.YtpdaenfglbgfkaaGreatDoor
open Go.RL
set_option maxRecDepth 10000
set_option maxHeartbeats 4000000
section
variable(M:Md Tryz.prog)(H:View)
end
end Go.Proofs.YtpdaenfglbgfkaaGreatDoor
