/-
  A list just built, as one that may grow.
-/
import Derived.Test.YtpdaenfglbgfkaaGreatDoorW08
import Derived.Test.YtpdaenfglbgfkaaGreatDoorWDraw3
namespace Go.RL
def Gl.full (e : TypeId) (b : Nat) (l : List Value) : Gl e 1 := ⟨some b, l.length, l.length, l, [], by simp, Nat.le_refl _, by simp, fun h => nomatch h⟩
end Go.RL
