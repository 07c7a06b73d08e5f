/-
  Arguments: lists of choices.
-/
import Derived.Test.YtpdaenfglbgfkaaGreatDoorX08
namespace Go.Proofs.YtpdaenfglbgfkaaGreatDoor
open Go.RL Go.ChangeShapes Go.WideShapes Go.ChangeAt Go.RowKit
set_option maxRecDepth 100000
section
variable {H:Type}{enc:TypeId×Value→H}{P:Program}{W:World}{base:Nat}{sp:Nat→Bool}{held:Bool}
theorem trodAll_at:∀ {ts:List TypeId} {vs:List Value} {ds:List (DataW H)} {p:List MemPlace},DataW.TrodAll enc P W base sp held ts vs ds p→∀(j:Nat) t v,ts[j]? =some t→vs[j]? =some v→∃d q,DataW.Trod enc P W base sp held t v d q
 | [],_,_,_,_,_,_,_,h,_=> by simp at h
 | t ::ts,v::vs,d::ds,p,⟨a,b,h1,h2,_⟩,j,t',v',ht,hv=> by
   cases j with
   | zero=>
     simp only[List.getElem?_cons_zero,Option.some.injEq] at ht hv
     subst ht hv
     exact⟨_,_,h1⟩
   | succ j=>
     simp only[List.getElem?_cons_succ] at ht hv
     exact trodAll_at h2 j t' v' ht hv
 | _::_,[],_,_,h,_,_,_,_,_=> by cases h
 | _::_,_::_,[],_,h,_,_,_,_,_=> by cases h
end
end Go.Proofs.YtpdaenfglbgfkaaGreatDoor
