/-
  A line that moves all edges by the same more: the laws.
-/
import Derived.Test.YtpdaenfglbgfkaaGreatDoorX09
import Derived.Test.YtpdaenfglbgfkaaGreatDoorXK3
import Derived.Test.YtpdaenfglbgfkaaGreatDoorXI4
import Derived.Test.YtpdaenfglbgfkaaGreatDoorXI1
namespace Go.Proofs.YtpdaenfglbgfkaaGreatDoor
open Go.RL
set_option maxRecDepth 10000
set_option maxHeartbeats 4000000
def Lk.shift(k:Lk)(y:Int):Lk:=⟨k.s0,k.s1,k.r0,k.r1,k.l0,k.l1,k.m0+y,k.m1+y⟩
theorem viewFrom_shift(c:Nat)(ps:List Nat)(a r n f y:Int):∀(l:List Int) (i v:Nat),(⟨c,ps,a,r,n,f+y,0,0⟩:Stg).viewFrom i v (l.map (· + y))=(⟨c,ps,a,r,n,f,0,0⟩:Stg).viewFrom i v l
 | [],_,_=> rfl
 | m ::l,i,v=> by
   have e:(⟨c,ps,a,r,n,f+y,0,0⟩:Stg).miss i (m+y)=(⟨c,ps,a,r,n,f,0,0⟩:Stg).miss i m:=by
     unfold Stg.miss Stg.after
     by_cases h:i=0
     · rw[if_pos h,if_pos h]
     · rw[if_neg h,if_neg h]
       simp only
       congr 1
       omega
   show(⟨c,ps,a,r,n,f+y,0,0⟩:Stg).viewFrom (i+1) _ (l.map (· + y))=(⟨c,ps,a,r,n,f,0,0⟩:Stg).viewFrom (i+1) _ l
   rw[e]
   exact viewFrom_shift c ps a r n f y l (i+1) _
theorem pastView_shift(c:Nat)(a r n y:Int)(mv:List Int):pastView c a r n (mv.map (· + y))=pastView c a r n mv:=by
 cases mv with
 | nil=> rfl
 | cons m l=> exact viewFrom_shift c _ a r n m y (m::l) 0 127
theorem Lk.Past.shift {k:Lk}{c:Nat}{a r n:Int}{mv:List Int}(h:k.Past c a r n mv)(y:Int):(k.shift y).Past c a r n (mv.map (· + y)):=
 ⟨h.send,h.read,h.lean,by rw[List.length_map];exact h.len,fun m hm=> by
   obtain⟨x,hx,rfl⟩:=List.mem_map.1 hm
   have:=h.moves x hx
   show k.m0+y≤x+y∧x+y≤k.m1+y
   omega⟩
theorem Lk.shift_back(k:Lk)(y:Int):(k.shift y).shift (-y)=k:=by
 cases k
 simp only[Lk.shift,Lk.mk.injEq,true_and]
 omega
theorem Lk.sees_shift {k:Lk}(hk:1≤k.r0)(y:Int){c:Nat}(hc:c<32)(v:Nat):(k.shift y).sees c v=k.sees c v:=by
 have one:∀(k:Lk) (_:1≤k.r0) (y:Int),k.sees c v=true→(k.shift y).sees c v=true:=fun k hk y h=> by
   obtain⟨a,r,n,mv,hP,e⟩:=(Lk.sees_iff hk hc).1 h
   exact(Lk.sees_iff (k:=k.shift y) hk hc).2 ⟨a,r,n,_,hP.shift y,by rw[pastView_shift];exact e⟩
 rw[Bool.eq_iff_iff]
 refine⟨fun h=> ?_,one k hk y⟩
 have:=one (k.shift y) hk (-y) h
 rwa [Lk.shift_back] at this
theorem Lk.canRead_shift {k:Lk}(hk:1≤k.r0)(y:Int){c:Nat}(hc:c<32):(k.shift y).canRead c=k.canRead c:=funext fun _=> Lk.sees_shift hk y hc _
theorem Lk.refused_shift {k:Lk}(hk:1≤k.r0)(y:Int){c:Nat}(hc:c<32):(k.shift y).refused c=k.refused c:=by
 have hb:(k.shift y).bad c=k.bad c:=by
   unfold Lk.bad
   congr 1
   exact funext fun v=> by rw[Lk.sees_shift hk y hc]
 unfold Lk.refused
 rw[hb,Lk.canRead_shift hk y hc]
theorem Lk.good_shift(k:Lk)(y:Int):(k.shift y).good=k.good:=funext fun r=> by
 unfold Lk.good
 by_cases h:0<r
 · have h1:(1:Int)≤(k.at r).r0:=by show(1:Int)≤(r:Nat);omega
   have h2:((k.shift y).at r).Sure↔(k.at r).Sure:=by
     rw[Lk.sure_sees (k:=(k.shift y).at r) h1,Lk.sure_sees h1]
     have e:(k.shift y).at r=(k.at r).shift y:=rfl
     rw[e]
     constructor
     · intro g c hc w hw
       exact g c hc w (by rw[Lk.sees_shift h1 y hc];exact hw)
     · intro g c hc w hw
       rw[Lk.sees_shift h1 y hc] at hw
       exact g c hc w hw
   congr 1
   rw[Bool.eq_iff_iff,Option.isNone_iff_eq_none,Option.isNone_iff_eq_none,Lk.weak_none,Lk.weak_none]
   exact h2
 · rw[decide_eq_false h,Bool.false_and,Bool.false_and]
theorem upTo_shift(a b y:Int):upTo (a+y) (b+y)=(upTo a b).map (· + y):=by
 unfold upTo
 rw[List.map_map,show b+y+1-(a+y)=b+1-a by omega]
 refine List.map_congr_left fun i _=> ?_
 show a+y+(i:Int)=a+(i:Int)+y
 omega
theorem seenTo_get(ps:List Nat)(mv:List Int)(a n:Int)(k:Nat){i:Nat}(h:i<6):(seenTo ps mv a n k)[i]? =some (if i<k then seenAt ps mv a n i else 0):=by
 unfold seenTo
 rw[List.getElem?_map,List.getElem?_range h]
 rfl
theorem after_shift {ps:List Nat}{mv:List Int}{a n y:Int}(hm:mv.length=ps.length):afterTo (seenTo ps (mv.map (· + y)) a n ps.length) ps.length=afterTo (seenTo ps mv a n ps.length) ps.length:=by
 have hs:∀i,i<ps.length→seenAt ps (mv.map (· + y)) a n i=seenAt ps mv a n i+y:=fun i hi=> by
   unfold seenAt
   rw[List.getElem?_map,List.getElem?_eq_getElem (show i<mv.length by omega)]
   simp only[Option.map_some,Option.getD_some]
   omega
 apply List.ext_getElem?
 intro i
 by_cases h:i<6
 · rw[afterTo_get (seenTo_get ps _ a n ps.length h),afterTo_get (seenTo_get ps mv a n ps.length h)]
   by_cases hi:i<ps.length
   · rw[if_pos hi,if_pos hi,if_pos hi,if_pos hi,List.headD_eq_head?_getD,List.headD_eq_head?_getD,List.head?_eq_getElem?,List.head?_eq_getElem?,seenTo_get _ _ _ _ _ (by decide),seenTo_get _ _ _ _ _ (by decide),if_pos (by omega),if_pos (by omega),hs i hi,hs 0 (by omega)]
     simp only[Option.getD_some]
     congr 1
     omega
   · simp only[if_neg hi]
 · rw[List.getElem?_eq_none (by rw[afterTo_len,seenTo_len];omega),List.getElem?_eq_none (by rw[afterTo_len,seenTo_len];omega)]
theorem Lk.gives_shift(k:Lk)(y:Int)(ps:List Nat)(a:Int)(af:List Int)(h0:0<ps.length):(k.shift y).gives ps a af=k.gives ps a af:=by
 unfold Lk.gives
 show(upTo k.l0 k.l1).any _=_
 congr 1
 funext lean
 unfold Lk.gives₁
 show(upTo (k.m0+y) (k.m1+y)).any _=_
 rw[upTo_shift,List.any_map]
 congr 1
 funext f
 show(k.shift y).gives₂ ps a lean (f+y) af=k.gives₂ ps a lean f af
 have hg:∀i,gMove ps a lean (f+y) af i=gMove ps a lean f af i+y:=fun i=> by unfold gMove;omega
 have hmv:gMoves ps a lean (f+y) af (ps.length-1)=(gMoves ps a lean f af (ps.length-1)).map (· + y):=by
   unfold gMoves
   rw[List.map_cons,List.map_map]
   congr 1
   exact List.map_congr_left fun i _=> hg i
 unfold Lk.gives₂
 rw[hmv,after_shift (by unfold gMoves;rw[List.length_cons,List.length_map,List.length_range];omega)]
 congr 1
 congr 1
 funext i
 rw[hg]
 unfold Lk.inMove
 rw[decide_eq_decide]
 show k.m0+y≤_∧_≤k.m1+y↔_
 omega
theorem Lk.sentOf_shift(k:Lk)(y:Int)(l:List Int):∀c,c<32→(k.shift y).sentOf l c=k.sentOf l c:=fun c hc=> by
 have h0:=(places_in c hc).1
 unfold Lk.sentOf Lk.tune
 have:(fun n=> (k.shift y).gives (placesTo c 7) n (afterTo (pad6 l) (placesTo c 7).length))=fun n=> k.gives (placesTo c 7) n (afterTo (pad6 l) (placesTo c 7).length):=funext fun n=> Lk.gives_shift k y _ n _ h0
 rw[this]
 rfl
theorem keepI_congr {p q:Nat→Bool}{n:Nat}(h:∀i,i<n→p i=q i):keepI p n=keepI q n:=by
 unfold keepI
 rw[List.filter_congr (fun i hi=> h i (List.mem_range.1 hi))]
end Go.Proofs.YtpdaenfglbgfkaaGreatDoor
