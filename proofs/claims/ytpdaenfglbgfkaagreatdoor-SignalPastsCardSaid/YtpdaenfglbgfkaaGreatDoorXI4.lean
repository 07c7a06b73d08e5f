/-
  Of what is seen of a past the past is tuned: Seen, later times, the laws.
-/
import Derived.Test.YtpdaenfglbgfkaaGreatDoorX08
import Derived.Test.YtpdaenfglbgfkaaGreatDoorXI2
namespace Go.Proofs.YtpdaenfglbgfkaaGreatDoor
open Go.RL
set_option maxRecDepth 10000
set_option maxHeartbeats 8000000
def seenL(ps:List Nat)(mv:List Int)(a n:Int):List Int:=(List.range ps.length).map (seenAt ps mv a n)
theorem seenL_len(ps:List Nat)(mv:List Int)(a n:Int):(seenL ps mv a n).length=ps.length:=by simp[seenL]
theorem seenL_get {ps:List Nat}{mv:List Int}{a n:Int}{i:Nat}(h:i<ps.length):(seenL ps mv a n)[i]? =some (seenAt ps mv a n i):=by
 unfold seenL
 rw[List.getElem?_map,List.getElem?_range h]
 rfl
theorem seenTo_take {ps:List Nat}{mv:List Int}{a n:Int}(h:ps.length≤6):(seenTo ps mv a n ps.length).take ps.length=seenL ps mv a n:=by
 apply List.ext_getElem?
 intro i
 by_cases hi:i<ps.length
 · rw[List.getElem?_take_of_lt hi,seenL_get hi]
   unfold seenTo
   rw[List.getElem?_map,List.getElem?_range (by omega)]
   simp[hi]
 · rw[List.getElem?_eq_none (by rw[List.length_take];omega),List.getElem?_eq_none (by rw[seenL_len];omega)]
section
variable(M:Md Tryz.prog)(H:View)
theorem Seen_c(k:Lk)(hG:Glob H)(hk:k.ok=true)(code:Nat)(hc:code<32)(a r n:Int)(mv:List Int)(hP:k.Past code a r n mv)(A:Option Addr)(m ca:Nat)(hm:m=(placesTo code 7).length)(hA:Nums H A mv):
   CallT M 72 #[k.val,.int .i64 code,.agg ⟨[.int .i64 a,.int .i64 r,.int .i64 n,.slice A m ca]⟩] H (ToldQ (intsL (seenL (placesTo code 7) mv a n)) H):=by
 obtain⟨hp0,hp6,hpl⟩:=places_in code hc
 have hml:=hP.len
 have hsl:=seenTo_len (placesTo code 7) mv a n (placesTo code 7).length
 have lA:Nat.beq (intsL (seenTo (placesTo code 7) mv a n (placesTo code 7).length)).length 6=true:=by rw[intsL_len,hsl];rfl
 have lB:(intsL (seenTo (placesTo code 7) mv a n (placesTo code 7).length)).all single=true:=by
   rw[List.all_eq_true]
   intro y hy
   obtain⟨z,_,rfl⟩:=List.mem_map.1 hy
   rfl
 have lC:stL [Value.int .i64 0,.int .i64 0,.int .i64 0,.int .i64 0,.int .i64 0,.int .i64 0] 0 (intsL (seenTo (placesTo code 7) mv a n (placesTo code 7).length))=intsL (seenTo (placesTo code 7) mv a n (placesTo code 7).length):=by
   unfold stL
   rw[List.take_zero,List.nil_append,List.drop_eq_nil_of_le (by rw[intsL_len,hsl];simp),List.append_nil]
 have hcl:((intsL (seenTo (placesTo code 7) mv a n (placesTo code 7).length)).drop 0).take ((placesTo code 7).length*1)=intsL (seenL (placesTo code 7) mv a n):=by
   rw[List.drop_zero,Nat.mul_one,←seenTo_take hp6]
   unfold intsL
   rw[List.map_take]
 refine CallT.enter (vs:= [k.val,.int .i64 code,.agg ⟨[.int .i64 a,.int .i64 r,.int .i64 n,.slice A m ca]⟩]) Tryz.func72 rfl Tryz.ntmps72 (Nat.le_of_ble_eq_true rfl) (SymSt.nil _) fun St c cs hK=> ?_
 refine .sr ?_
 refine .e (.bx (zz:=fun b3=> ?_))
 refine .e (.bx (zz:=fun b5=> ?_))
 refine .g ?_
 refine .g ?_
 refine .done (.sr ?_)
 refine .x (.ld 1) ?_
 refine .m ?_
 refine .x (.ld 0) ?_
 refine .e (Or.callNew (fun x=> .tuple ⟨[letN code x,.int .i64 0]⟩) (letB code) (fun _=> True) rfl rfl rfl rfl rfl (by decide) (letB_nodup code) (fun H hs=> .f ca134 rfl (past_good M H k (glob_le hG hs.base) hk code hc a r n mv hP A m ca hm (hA.le hs.base))) (fun x hx=> ?_))
 refine .m ?_
 refine .x .et ?_
 refine .x .et ?_
 refine .e (.al (zz:=fun b8=> ?_))
 refine .e (.st 0 (zz:=?_))
 refine .g ?_
 refine .done (.seq (.sr ?_))
 refine .m ?_
 refine .i ?_ (z:=neq_f (by omega))
 refine .done (.ff rfl (.skip (.sr ?_)))
 refine .x (.ld 0) ?_
 refine .x (.ld 1) ?_
 refine .c rfl rfl rfl rfl (fun H hs=> .f ca135 rfl (seen_good M H k hk code hc a r n mv hP A m ca hm (hA.le hs.base) x (fun y hy=> hs.at_ y (by simp[hy])))) ?_
 refine .e (.al (zz:=fun b10=> ?_))
 refine .e (Or.storeT (E:=en) 0 rfl rfl rfl rfl rfl lA rfl (by exact rfl) lB rfl lC ?_)
 refine .done (.sr ?_)
 refine .x .fa ?_
 refine .x (.ld 1) ?_
 refine .x .ln ?_
 refine .x (OpV.sliceA (E:=en) (off':=0) (l:=0) (h:=((placesTo code 7).length:Nat)) rfl rfl rfl rfl rfl rfl rfl rfl (by omega) (by omega) (by omega) (by rw[if_neg (by omega)];rfl)) ?_
 refine .e (Or.callNew Gl.val Gl.bl (fun g:Gl 3 1=> g.l=intsL (seenL (placesTo code 7) mv a n)) rfl rfl rfl rfl rfl (by decide) gl_nodup (fun H hs=> .f ca136 rfl (clone_c M H _ (placesTo code 7).length _ _ (by omega) (hcl▸SrcAt.of (hs.get (i:=0) rfl) (by rw[intsL_len,hsl];omega)) (by
   rw[List.all_eq_true]
   intro y hy
   obtain⟨z,_,rfl⟩:=List.mem_map.1 hy
   rfl))) (fun g hg=> ?_))
 refine .g ?_
 refine .g ?_
 refine .done ?_
 refine .rt hK Tryz.func72 Tryz.results72 [_,_] ?_
 exact fun H' hs=> ⟨hs.base,g,rfl,hg,fun y hy=> ⟨hs.at_ y (by simp[hy]),hs.out y (by simp[hy])⟩⟩
end
end Go.Proofs.YtpdaenfglbgfkaaGreatDoor
