/-
  Arguments: lists of choices.
-/
import Derived.Test.YtpdaenfglbgfkaaGreatDoorX09
namespace Go.Proofs.YtpdaenfglbgfkaaGreatDoor
open Go.RL Go.ChangeShapes Go.WideShapes Go.ChangeAt Go.RowKit
set_option maxRecDepth 100000
section
variable {H:Type}{enc:TypeId×Value→H}{P:Program}{W:World}{base:Nat}{sp:Nat→Bool}{held:Bool}
theorem trodAll_at:∀ {ts:List TypeId} {vs:List Value} {ds:List (DataW H)} {p:List MemPlace},DataW.TrodAll enc P W base sp held ts vs ds p→∀(j:Nat) t v,ts[j]? =some t→vs[j]? =some v→∃d q,DataW.Trod enc P W base sp held t v d q
 | [],_,_,_,_,_,_,_,h,_=> by simp at h
 | t ::ts,v::vs,d::ds,p,⟨a,b,h1,h2,_⟩,j,t',v',ht,hv=> by
   cases j with
   | zero=>
     simp only[List.getElem?_cons_zero,Option.some.injEq] at ht hv
     subst ht hv
     exact⟨_,_,h1⟩
   | succ j=>
     simp only[List.getElem?_cons_succ] at ht hv
     exact trodAll_at h2 j t' v' ht hv
 | _::_,[],_,_,h,_,_,_,_,_=> by cases h
 | _::_,_::_,[],_,h,_,_,_,_,_=> by cases h
end
theorem open_picks {H:Type}{enc:TypeId×Value→H}{W:World}{base:Nat}{v:Value}(hv:Value.okWide Tryz.prog W .any base 56 v)(h:∃d q,DataW.Trod enc Tryz.prog W 0 (fun _=> true) true 56 v d q):
   ∃(A:Option Addr) (l:List Int) (ca:Nat),v=.slice A l.length ca∧Picks (fullV W) A l:=by
 obtain⟨d,q,h⟩:=h
 obtain⟨A,l,ca,rfl,_,_,h1,h2⟩:=open_list (k:=.u16) Tryz.underlying56 (by kernel_rfl) (by kernel_rfl) hv h
 refine⟨A,l,ca,rfl,fun x hx=> ?_,?_⟩
 · have h3:=h1 x hx
   rw[show IntKind.u16.min=0 by kernel_rfl,show IntKind.u16.max=65535 by kernel_rfl] at h3
   omega
 · rcases h2 with h2|⟨ab,ao,gs,gt,gz,e1,e2,e3⟩
   · exact .inl h2
   · exact .inr ⟨ab,ao,false,gs,gt,gz,e1,e2,e3⟩
end Go.Proofs.YtpdaenfglbgfkaaGreatDoor
