/-
  Arguments: lists of short times.
-/
import Derived.Test.YtpdaenfglbgfkaaGreatDoorW08
import Derived.Test.YtpdaenfglbgfkaaGreatDoorWLate
import Derived.Test.YtpdaenfglbgfkaaGreatDoorWR2
import Derived.Test.YtpdaenfglbgfkaaGreatDoorWI3
namespace Go.Proofs.YtpdaenfglbgfkaaGreatDoor
open Go.RL Go.ChangeShapes Go.WideShapes Go.ChangeAt Go.RowKit
set_option maxRecDepth 100000
theorem open_shorts {H : Type} {enc : TypeId × Value → H} {W : World} {base : Nat} {v : Value} (hv : Value.okWide Tryz.prog W .any base 67 v) (h : ∃ d q, DataW.Trod enc Tryz.prog W 0 (fun _ => true) true 67 v d q) :
   ∃ (A : Option Addr) (l : List Int) (ca : Nat), v = .slice A l.length ca ∧ Shorts (fullV W) A l := by
 obtain ⟨d, q, h⟩ := h
 obtain ⟨A, l, ca, rfl, _, _, h1, h2⟩ := open_list (k := .i16) Tryz.underlying67 (by kernel_rfl) (by kernel_rfl) hv h
 refine ⟨A, l, ca, rfl, fun x hx => ?_, ?_⟩
 · have h3 := h1 x hx
   rw [show IntKind.i16.min = -32768 by kernel_rfl, show IntKind.i16.max = 32767 by kernel_rfl] at h3
   omega
 · rcases h2 with h2 | ⟨ab, ao, gs, gt, gz, e1, e2, e3⟩
   · exact .inl h2
   · exact .inr ⟨ab, ao, false, gs, gt, gz, e1, e2, e3⟩
end Go.Proofs.YtpdaenfglbgfkaaGreatDoor
