/-
  What Sent returns is what Tune has a band of; what is learnt once is learnt: the walk.
-/
import Derived.Test.YtpdaenfglbgfkaaGreatDoorX08
import Derived.Test.YtpdaenfglbgfkaaGreatDoorXI1
namespace Go.Proofs.YtpdaenfglbgfkaaGreatDoor
open Go.RL
set_option maxRecDepth 10000
set_option maxHeartbeats 8000000
end Go.Proofs.YtpdaenfglbgfkaaGreatDoor
