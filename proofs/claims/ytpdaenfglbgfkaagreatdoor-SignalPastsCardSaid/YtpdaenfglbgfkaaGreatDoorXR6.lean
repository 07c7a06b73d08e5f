/-
  Arguments: whole numbers, lists of them, pasts.
-/
import Derived.Test.YtpdaenfglbgfkaaGreatDoorX08
import Derived.Test.YtpdaenfglbgfkaaGreatDoorXR2
import Derived.Deep.Slices
namespace Go.Proofs.YtpdaenfglbgfkaaGreatDoor
open Go.RL Go.ChangeShapes Go.WideShapes Go.ChangeAt Go.RowKit
set_option maxRecDepth 100000
theorem cells3p:Tryz.prog.cellsOf 3=1:=by kernel_rfl
theorem cells28p:Tryz.prog.cellsOf 28=1:=by kernel_rfl
theorem cells39p:Tryz.prog.cellsOf 39=4:=by kernel_rfl
theorem open_i64 {W:World}{base:Nat}{v:Value}(h:Value.okWide Tryz.prog W .any base 3 v):∃x,v=.int .i64 x:=by
 unfold Value.okWide Cell.okWide Cell.ok at h
 rw[show Tryz.prog.underlying 3=some (.int .i64) by kernel_rfl] at h
 cases v with
 | int k n=>
   obtain⟨rfl,_,_⟩:=h
   exact⟨n,rfl⟩
 | _=> exact h.elim
section
variable {H:Type}{enc:TypeId×Value→H}{W:World}
theorem open_cells28 {fuel:Nat}{cs:List Value}{y:DataW H×List MemPlace}(h:DataW.trod enc Tryz.prog W 0 (fun _=> true) true fuel 28 cs=some y):
   ∃(A:Option Addr) (l:List Int) (ca:Nat),cs= [.slice A l.length ca]∧Nums (fullV W) A l:=by
 rcases open_ints (k:=.i64) Tryz.underlying28 (by kernel_rfl) cells3p h with ⟨h1,_⟩|⟨a',n,c,zs,h1,_,h3,h4,h5,_,h7,h8⟩
 · exact⟨none,[],0,h1,.inl rfl⟩
 · simp only[if_true] at h5
   have hl:(zs.take n).length=n:=by rw[List.length_take,h5];omega
   refine⟨some a',zs.take n,c,by rw[hl];exact h1,?_⟩
   cases n with
   | zero=> exact .inl (by simp)
   | succ m=>
     obtain⟨ab,ao,sp⟩:=a'
     have h0:=h7 0 (by omega)
     have hsp:sp=none:=by simpa [Addr.add] using World.cell?_spot h0
     subst hsp
     obtain⟨cs,gt,gz,e1,_⟩:=cells_of h0
     have e1':W.heap[ab]? =some (.cells cs gt gz):=by simpa [Addr.add] using e1
     refine .inr ⟨ab,ao,false,cs.toList,gt,gz,rfl,by simp only[fullV,e1',Option.map_some],fun j hj=> ?_⟩
     have hj':j<zs.length:=by omega
     have h9:=h7 j hj'
     obtain⟨cs',gt',gz',e2,e3⟩:=cells_of h9
     have eb:((⟨ab,ao,none⟩:Addr).add j).block=ab:=by unfold Addr.add;split <;> rfl
     have eo:((⟨ab,ao,none⟩:Addr).add j).off=ao+j:=by
       unfold Addr.add
       split
       · rename_i h;subst h;rfl
       · rfl
     rw[eb,e1'] at e2
     cases e2
     rw[eo] at e3
     show cs.toList[ao+(j:Int).toNat*1]? =_
     rw[Int.toNat_natCast,Nat.mul_one,Array.getElem?_toList,e3]
     have hjn:j<m+1:=by omega
     rw[List.getElem?_take_of_lt hjn,List.getD_eq_getElem?_getD]
theorem open_past {base:Nat}{v:Value}(hv:Value.okWide Tryz.prog W .any base 39 v)(h:∃d q,DataW.Trod enc Tryz.prog W 0 (fun _=> true) true 39 v d q):
   ∃(a r n:Int) (A:Option Addr) (l:List Int) (ca:Nat),v=.agg ⟨[.int .i64 a,.int .i64 r,.int .i64 n,.slice A l.length ca]⟩∧Nums (fullV W) A l:=by
 have hv':∃cs,v=.agg cs:=by
   unfold Value.okWide at hv
   rw[Tryz.underlying39] at hv
   obtain⟨cs,h,_⟩:=hv
   exact⟨cs,h⟩
 obtain⟨⟨cs⟩,rfl⟩:=hv'
 obtain⟨d,q,n,h⟩:=h
 obtain⟨xs,m,_,_,hl,hxl,hf⟩:=DataW.trod_struct Tryz.underlying39 h
 have hcs:(Value.agg ⟨cs⟩).cells.toList=cs:=rfl
 rw[hcs] at hl hf
 rw[cells39p] at hl
 obtain⟨c0,c1,c2,c3,rfl⟩:∃a b c d,cs= [a,b,c,d]:=by
   match cs,hl with
   | [a,b,c,d],_=> exact⟨a,b,c,d,rfl⟩
 obtain⟨x0,x1,x2,x3,rfl⟩:∃a b c d,xs= [a,b,c,d]:=by
   match xs,hxl with
   | [a,b,c,d],_=> exact⟨a,b,c,d,rfl⟩
 have f0:=hf 0 { name:= "Send",type:=3,offset:=0,embedded:=false,tag:= "",pkgPath:= "",byteOffset:=0 } rfl
 have f1:=hf 1 { name:= "Read",type:=3,offset:=1,embedded:=false,tag:= "",pkgPath:= "",byteOffset:=8 } rfl
 have f2:=hf 2 { name:= "Lean",type:=3,offset:=2,embedded:=false,tag:= "",pkgPath:= "",byteOffset:=16 } rfl
 have f3:=hf 3 { name:= "Moves",type:=28,offset:=3,embedded:=false,tag:= "",pkgPath:= "",byteOffset:=24 } rfl
 simp only[cells3p,cells28p,List.drop_zero,List.drop_succ_cons,List.take_succ_cons,List.take_zero,List.getElem?_cons_zero,List.getElem?_cons_succ] at f0 f1 f2 f3
 obtain⟨a,e0,_⟩:=DataW.trod_int Tryz.underlying3 f0
 obtain⟨r,e1,_⟩:=DataW.trod_int Tryz.underlying3 f1
 obtain⟨z,e2,_⟩:=DataW.trod_int Tryz.underlying3 f2
 obtain⟨A,l,ca,e3,hN⟩:=open_cells28 f3
 simp only[List.cons.injEq,and_true] at e0 e1 e2 e3
 subst e0
 subst e1
 subst e2
 subst e3
 exact⟨a,r,z,A,l,ca,rfl,hN⟩
end
end Go.Proofs.YtpdaenfglbgfkaaGreatDoor
