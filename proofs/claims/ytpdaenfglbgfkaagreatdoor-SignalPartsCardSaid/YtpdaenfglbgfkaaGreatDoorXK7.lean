/-
  What can be read is what can be read with single paces and single leans, together: the laws.
-/
import Derived.Test.YtpdaenfglbgfkaaGreatDoorX09
import Derived.Test.YtpdaenfglbgfkaaGreatDoorXK3
import Derived.Test.YtpdaenfglbgfkaaGreatDoorXH9
namespace Go.Proofs.YtpdaenfglbgfkaaGreatDoor
open Go.RL
set_option maxRecDepth 10000
set_option maxHeartbeats 4000000
def Ones(k:Lk)(X:List Lk):Prop:=∀o∈X,∃s r n,(k.s0≤s∧s≤k.s1)∧(k.r0≤r∧r≤k.r1)∧(k.l0≤n∧n≤k.l1)∧o=k.single s r n
def Covs(k:Lk)(X:List Lk)(p:Int→Int→Int→Prop):Prop:=∀s r n,(k.s0≤s∧s≤k.s1)→(k.r0≤r∧r≤k.r1)→(k.l0≤n∧n≤k.l1)→p s r n→k.single s r n∈X
theorem Ones.nil(k:Lk):Ones k []:=fun _ h=> by cases h
theorem Ones.add {k:Lk}{X:List Lk}(h:Ones k X){s r n:Int}(hs:k.s0≤s∧s≤k.s1)(hr:k.r0≤r∧r≤k.r1)(hn:k.l0≤n∧n≤k.l1):Ones k (k.single s r n::X):=fun o ho=> by
 rcases List.mem_cons.1 ho with rfl|ho
 · exact⟨s,r,n,hs,hr,hn,rfl⟩
 · exact h o ho
theorem Covs.add {k:Lk}{X:List Lk}{p q:Int→Int→Int→Prop}(h:Covs k X p)(s r n:Int)(hq:∀s' r' n',(k.s0≤s'∧s'≤k.s1)→(k.r0≤r'∧r'≤k.r1)→(k.l0≤n'∧n'≤k.l1)→q s' r' n'→p s' r' n'∨s'=s∧r'=r∧n'=n):Covs k (k.single s r n::X) q:=fun s' r' n' h1 h2 h3 h4=> by
 rcases hq s' r' n' h1 h2 h3 h4 with h5|⟨rfl,rfl,rfl⟩
 · exact List.mem_cons_of_mem _ (h s' r' n' h1 h2 h3 h5)
 · exact List.mem_cons_self
theorem Covs.to {k:Lk}{X:List Lk}{p q:Int→Int→Int→Prop}(h:Covs k X p)(hq:∀s' r' n',(k.s0≤s'∧s'≤k.s1)→(k.r0≤r'∧r'≤k.r1)→(k.l0≤n'∧n'≤k.l1)→q s' r' n'→p s' r' n'):Covs k X q:=fun s' r' n' h1 h2 h3 h4=> h s' r' n' h1 h2 h3 (hq s' r' n' h1 h2 h3 h4)
section
variable {k:Lk}{X:List Lk}{c:Nat}
theorem ones_ok(hk:k.ok=true)(h1:Ones k X):∀o∈X,o.ok=true∧o.Within k:=fun o ho=> by
 obtain⟨s,r,n,hs,hr,hn,rfl⟩:=h1 o ho
 exact⟨Lk.ok_single hk hs hr hn,⟨hs,hr,hn,⟨Int.le_refl _,Int.le_refl _⟩⟩⟩
theorem parts_sees(hk:k.ok=true)(hc:c<32)(h1:Ones k X)(h2:Covs k X fun _ _ _=> True)(v:Nat):k.sees c v=true↔∃o∈X,o.sees c v=true:=by
 have hkr:=(Lk.ok_in hk).2.1.1
 constructor
 · intro h
   obtain⟨a,r,n,mv,hP,e⟩:=(Lk.sees_iff hkr hc).1 h
   exact⟨_,h2 a r n hP.send hP.read hP.lean trivial,(Lk.sees_iff (k:=k.single a r n) (Int.le_trans hkr hP.read.1) hc).2 ⟨a,r,n,mv,hP.single,e⟩⟩
 · rintro⟨o,ho,h⟩
   obtain⟨g1,g2⟩:=ones_ok hk h1 o ho
   exact Lk.sees_within (Lk.ok_in g1).2.1.1 hkr g2 hc h
theorem parts_read(hk:k.ok=true)(hc:c<32)(h1:Ones k X)(h2:Covs k X fun _ _ _=> True)(i:Nat):(X.any fun o=> o.canRead c i)=k.canRead c i:=by
 rw[Bool.eq_iff_iff,List.any_eq_true]
 exact(parts_sees hk hc h1 h2 _).symm
theorem parts_some(hk:k.ok=true)(hc:c<32)(h1:Ones k X)(h2:Covs k X fun _ _ _=> True):(X.any fun o=> decide (o.refused c≠2))=decide (k.refused c≠2):=by
 have hb:∀o:Lk,(o.refused c≠2)↔o.bad c=true:=fun o=> by
   rw[Ne,Lk.refused_two]
   cases o.bad c <;> simp
 rw[Bool.eq_iff_iff,List.any_eq_true,decide_eq_true_iff,hb,Lk.bad_iff]
 constructor
 · rintro⟨o,ho,h⟩
   rw[decide_eq_true_iff,hb,Lk.bad_iff] at h
   obtain⟨v,g1,g2,g3⟩:=h
   exact⟨v,g1,(parts_sees hk hc h1 h2 v).2 ⟨o,ho,g2⟩,g3⟩
 · rintro⟨v,g1,g2,g3⟩
   obtain⟨o,ho,h⟩:=(parts_sees hk hc h1 h2 v).1 g2
   refine⟨o,ho,?_⟩
   rw[decide_eq_true_iff,hb,Lk.bad_iff]
   exact⟨v,g1,h,g3⟩
theorem parts_every(hk:k.ok=true)(hc:c<32)(h1:Ones k X)(h2:Covs k X fun _ _ _=> True):(X.all fun o=> decide (o.refused c=1))=decide (k.refused c=1):=by
 rw[Bool.eq_iff_iff,List.all_eq_true,decide_eq_true_iff]
 constructor
 · intro h
   refine Lk.refused_of hk hc fun n hn=> ?_
   cases hr:k.canRead c n with
   | false=> rfl
   | true=>
     obtain⟨o,ho,h3⟩:=(parts_sees hk hc h1 h2 _).1 hr
     have h4:=Lk.refused_one (of_decide_eq_true (h o ho)) n hn
     unfold Lk.canRead at h4
     rw[h4] at h3
     cases h3
 · intro h o ho
   obtain⟨g1,g2⟩:=ones_ok hk h1 o ho
   refine decide_eq_true (Lk.refused_of g1 hc fun n hn=> ?_)
   cases hr:o.canRead c n with
   | false=> rfl
   | true=>
     have h4:=Lk.refused_one h n hn
     rw[Lk.canRead_within g1 hk g2 hc hr] at h4
     cases h4
end
def rowB(f:Nat→Bool):List Value:=(List.range 32).map fun i=> .bool (f i)
theorem rowB_len(f:Nat→Bool):(rowB f).length=32:=by simp[rowB]
theorem rowB_get(f:Nat→Bool){i:Nat}(h:i<32):(rowB f)[i]? =some (.bool (f i)):=by simp[rowB,h]
theorem rowB_congr {f g:Nat→Bool}(h:∀i,i<32→f i=g i):rowB f=rowB g:=by
 unfold rowB
 exact List.map_congr_left fun i hi=> by rw[h i (by simpa using hi)]
theorem rowB_ld(f:Nat→Bool){i:Nat}(h:i<32):ldL false 1 (rowB f) (0+(i:Int).toNat*1)=some (.bool (f i)):=by
 show(rowB f)[0+(i:Int).toNat*1]? =_
 rw[Nat.zero_add,Nat.mul_one,Int.toNat_natCast,rowB_get f h]
theorem rowB_st(f:Nat→Bool){x:Int}{i:Nat}(hx:x=(i:Nat))(h:i<32):stL (rowB f) (0+x.toNat*1) [.bool true]=rowB fun j=> f j||decide (j=i):=by
 subst hx
 rw[Nat.zero_add,Nat.mul_one,Int.toNat_natCast,stL_one _ _ _ (by rw[rowB_len];exact h)]
 apply List.ext_getElem?
 intro j
 by_cases e:i=j
 · subst e
   rw[List.getElem?_set_self (by rw[rowB_len];exact h),rowB_get _ h]
   simp
 · rw[List.getElem?_set_ne e]
   by_cases hj:j<32
   · rw[rowB_get _ hj,rowB_get _ hj,decide_eq_false (fun e'=> e e'.symm),Bool.or_false]
   · rw[List.getElem?_eq_none (by rw[rowB_len];omega),List.getElem?_eq_none (by rw[rowB_len];omega)]
theorem rowB_le(f:Nat→Bool){x:Int}{i:Nat}(hx:x=(i:Nat))(h:i<32):Nat.ble (0+x.toNat*1+1) (rowB f).length=true:=by
 subst hx
 rw[Nat.ble_eq,rowB_len,Int.toNat_natCast]
 omega
end Go.Proofs.YtpdaenfglbgfkaaGreatDoor
