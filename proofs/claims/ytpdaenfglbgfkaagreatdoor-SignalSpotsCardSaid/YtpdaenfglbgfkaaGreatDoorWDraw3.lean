/-
  Regions that draw their order and let a list grow.
-/
import Derived.Test.YtpdaenfglbgfkaaGreatDoorW08
namespace Go.RL
open Go.Conc
section
variable {P : Program} {M : Md P} {St : View → Goroutine → Prop} {n : Nat} {b : FB} {H₀ : View} {cs : List Frame} {R : Rg} {L : Bl} {ds : List Deferred} {k : List Item} {ops : Array Oper}
theorem Tc.drT {id : Nat} {fuel : Nat} (B C E : List Nat) (m : Nat) (hm : P.follows .mixedOrders = true) (hf : ops.size = fuel) (h : Ta M St n b H₀ cs (S3 H₀ B C (eraseL (L.take m) E) L) .any ops fuel (Array.replicate fuel false) R L ds k) :
   Tc M St n b H₀ cs R L ds (.code (.region id ops true) :: k) := fun H tmps hs hr => by
 subst hf
 refine .region_draw fun t => ?_
 simp only [Region.schedule, hm, Bool.true_or, if_true]
 have hS := S3.mk (H₀ := H₀) (B := B) (C := C) (listed := Array.replicate ops.size false) ((eraseL_sub E (L.take m)).trans (List.take_sublist m L)) (.inr (List.Sublist.refl L)) H hs
 exact (h H tmps hs hr hS).sound _ t _ _ _ hS
end
end Go.RL
