/-
  Whatever the past is, of what is seen Sent returns the code, and Tune's band has its pace; what is learnt of that still has the past: the walk.
-/
import Derived.Test.YtpdaenfglbgfkaaGreatDoorX09
import Derived.Test.YtpdaenfglbgfkaaGreatDoorXI3
import Derived.Test.YtpdaenfglbgfkaaGreatDoorXI4
namespace Go.Proofs.YtpdaenfglbgfkaaGreatDoor
open Go.RL
set_option maxRecDepth 10000
set_option maxHeartbeats 16000000
theorem places_six:∀c:Nat,c<32→(placesTo c 7).length=2∨(placesTo c 7).length=4∨(placesTo c 7).length=6:=by decide +kernel
theorem still_40 {place number send lean:Int}(h1:0≤place)(h2:place≤6)(h4:0≤send)(h5:send≤40)(h6: -9≤lean)(h7:lean≤9): -9≤stillF place number send lean∧stillF place number send lean≤489:=by
 have h8:0≤2*place*send:=Int.mul_nonneg (by omega) h4
 have h9:2*place*send≤12*40:=Int.mul_le_mul (by omega) h5 h4 (by omega)
 unfold stillF
 split <;> omega
theorem seenL_in {k:Lk}(hk:k.ok=true){c:Nat}(hc:c<32){a r n:Int}{mv:List Int}(h:k.Past c a r n mv):∀x∈seenL (placesTo c 7) mv a n, -21≤x∧x≤501:=by
 obtain⟨hks,hkr,hkl,hkm⟩:=Lk.ok_in hk
 obtain⟨hp0,hp6,hpl⟩:=places_in c hc
 have h1:=h.send
 have h2:=h.lean
 have h3:=h.len
 intro x hx
 unfold seenL at hx
 obtain⟨i,hi,rfl⟩:=List.mem_map.1 hx
 have hi:=List.mem_range.1 hi
 have h4:=hpl i hi
 have h5:=h.at_ (j:=i) (by omega)
 have h6:=still_40 (place:=(((placesTo c 7)[i]?.getD 0:Nat):Int)) (number:=(i:Nat)) (send:=a) (lean:=n) (by omega) (by omega) (by omega) (by omega) (by omega) (by omega)
 unfold seenAt
 omega
end Go.Proofs.YtpdaenfglbgfkaaGreatDoor
