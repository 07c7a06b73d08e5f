/-
  What Sent returns is what Tune has a band of; what is learnt once is learnt: the walk.
-/
import Derived.Test.YtpdaenfglbgfkaaGreatDoorX09
import Derived.Test.YtpdaenfglbgfkaaGreatDoorXI1
namespace Go.Proofs.YtpdaenfglbgfkaaGreatDoor
open Go.RL
set_option maxRecDepth 10000
set_option maxHeartbeats 8000000
theorem TimesAt.of_gl {H:View}{g:Gl 3 1}{l:List Int}(hl:g.l=intsL l)(hne:l≠ [])(h:∀y∈g.bl,H y.1=some y.2):TimesAt H (g.blk.map fun b=> ⟨b,0,none⟩) l:=by
 have hn:g.n=l.length:=by
   have:=g.hl
   rw[hl,intsL_len] at this
   omega
 obtain⟨_|b,n,cap,gl,gj,h1,h2,h3,h4⟩:=g
 · have:=h4 rfl
   simp only at hn h2
   exact(hne (List.eq_nil_of_length_eq_zero (by omega))).elim
 · simp only at hl
   subst hl
   refine⟨b,0,true,intsL l++gj,3,(0,0),rfl,h (b,true,.cells ⟨intsL l++gj⟩ 3 (0,0)) (by simp[Gl.bl]),?_,?_⟩
   · rw[List.length_append,intsL_len]
     omega
   · rw[List.drop_zero,Nat.mul_one,List.take_append_of_le_length (by rw[intsL_len];exact Nat.le_refl _),List.take_of_length_le (by rw[intsL_len];exact Nat.le_refl _)]
end Go.Proofs.YtpdaenfglbgfkaaGreatDoor
