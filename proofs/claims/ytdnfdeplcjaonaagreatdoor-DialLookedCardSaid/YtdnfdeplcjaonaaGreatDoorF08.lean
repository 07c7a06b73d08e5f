/-
  Texts of the proofs over baudot/dial: Z2 Z3 Z7 Z8 Z9 X2 ZA Draw6 ZB ZD Y1 Y2 Y3 Y4 Y5 Y6 DrawL VLess W1.
-/
import Derived.Test.YtdnfdeplcjaonaaGreatDoorF07
section
namespace Go.Proofs.YtdnfdeplcjaonaaGreatDoor
open Go.RL
set_option maxRecDepth 10000
set_option maxHeartbeats 8000000
def Bk.namesTo(k:Bk)(j:Nat):List (List UInt8):=(List.range j).map k.name
theorem namesTo_snoc(k:Bk)(j:Nat):k.namesTo (j+1)=k.namesTo j++[k.name j]:=by unfold Bk.namesTo;rw[List.range_succ,List.map_append];rfl
theorem namesTo_len(k:Bk)(j:Nat):(k.namesTo j).length=j:=by unfold Bk.namesTo;simp
theorem firstTo_cong {p q:Nat→Bool}:∀n,(∀i,i<n→p i=q i)→firstTo p n=firstTo q n
 | 0,_=> rfl
 | n+1,h=> by rw[firstTo,firstTo,firstTo_cong n (fun i hi=> h i (by omega)),h n (by omega)]
theorem names_first(k:Bk)(j n:Nat)(hn:n=j)(s:List UInt8):firstTo (fun i=> (k.namesTo j)[i]?.getD []==s) n=firstTo (fun i=> k.name i==s) j:=by
 subst hn
 refine firstTo_cong _ fun i hi=> ?_
 unfold Bk.namesTo
 rw[List.getElem?_map,List.getElem?_eq_getElem (by simpa using hi)]
 simp
section
variable(M:Md Tryz.prog)(H:View)
theorem checkLines_c(k:Bk)(A:Option Addr)(lc:Nat)(hA:RowsAt H k A lc)(hn:k.nl≤1000)(hs0:∀i,i<k.nl→(k.name i).length≤1000000∧(k.num i).length≤1000000∧k.nf i≤1000):
   CallT M 88 #[.slice A k.nl lc] H (fun v H'=> H.le H'∧v=.int .i64 k.linesA):=by
 by_cases c1:6<k.nl
 · have e:k.linesA=2:=if_pos c1
   rw[e]
   refine CallT.enter (vs:= [.slice A k.nl lc]) Tryz.func88 rfl Tryz.ntmps88 (Nat.le_of_ble_eq_true rfl) (SymSt.nil _) fun St c cs hK=> ?_
   refine .sr ?_
   refine .g ?_
   refine .done (.seq (.sr ?_))
   refine .m ?_
   refine .x .ln ?_
   refine .i ?_ (z:=gtr_t (by omega))
   refine .done (.tt rfl (.sr ?_))
   refine .g ?_
   refine .done ?_
   refine .rt hK Tryz.func88 Tryz.results88 [_] ?_
   exact fun H' hs=> ⟨hs.base,rfl⟩
 · have e:k.linesA=firstA k.lineA k.nl:=if_neg c1
   rw[e]
   clear e
   refine CallT.enter (vs:= [.slice A k.nl lc]) Tryz.func88 rfl Tryz.ntmps88 (Nat.le_of_ble_eq_true rfl) (SymSt.nil _) fun St c cs hK=> ?_
   refine .sr ?_
   refine .g ?_
   refine .done (.seq (.sr ?_))
   refine .m ?_
   refine .x .ln ?_
   refine .i ?_ (z:=gtr_f (by omega))
   refine .done (.ff rfl (.skip (.sr ?_)))
   refine .g ?_
   refine .done (.seq (.sr ?_))
   refine .g ?_
   refine .done (.block ?_)
   refine Tc.db (Tc.loopInv (σ:= { x:Nat×Gl 9 1//x.1≤k.nl∧firstA k.lineA x.1=0∧x.2.l=strsV (k.namesTo x.1) }) (fun x=> ([(0,.slice A k.nl lc),(3,x.1.2.val),(4,.int .i64 (x.1.1:Nat))],x.1.2.bl)) (fun x=> k.nl-x.1.1) ?_ ⟨(0,Gl.nil 9 1),Nat.zero_le _,rfl,rfl⟩)
   rintro⟨⟨j,g⟩,hj,hno,hgl⟩ ih
   simp only at hj hno hgl
   show Tc M St _ _ _ _ [(0,.slice A k.nl lc),(3,g.val),(4,.int .i64 (j:Nat))] g.bl _ _
   have hgn:g.n=j:=by
     have:=g.hl
     rw[hgl,strsV_len,namesTo_len] at this
     omega
   by_cases c2:j=k.nl
   · subst c2
     rw[hno] at hK
     refine .seq (.sr ?_)
     refine .m ?_
     refine .m ?_
     refine .x .ln ?_
     refine .i ?_ (z:=lss_f (by omega))
     refine .done (.ff rfl (.exit rfl (.sr ?_)))
     refine .g ?_
     refine .done ?_
     refine .rt hK Tryz.func88 Tryz.results88 [_] ?_
     exact fun H' hs=> ⟨hs.base,rfl⟩
   · have c3 : j < k.nl:=by omega
     have hA':=hA
     obtain⟨hlc,h0|⟨ab,ao,f,gs,gt,gz,rfl,hb,hl⟩⟩:=hA
     · omega
     obtain⟨F,fc,f1,_,hF⟩:=hl j c3
     obtain⟨s0,s1,s2⟩:=hs0 j c3
     have f20:ldL false 1 gs (ao+((j:Nat):Int).toNat*3+0)=some (strV (k.name j)):=ldL_cell f1 (by decide)
     have f21:ldL false 1 gs (ao+((j:Nat):Int).toNat*3+1)=some (strV (k.num j)):=ldL_cell f1 (by decide)
     have f22:ldL false 1 gs (ao+((j:Nat):Int).toNat*3+2)=some (.slice F (k.nf j) fc):=ldL_cell f1 (by decide)
     have hA2:RowsAt H (k.pre j) (some ⟨ab,ao,none⟩) lc:=hA'.pre hj
     have hix:=fun(H':View) (hg:∀x∈g.bl,H' x.1=some x.2)=> IndexOf_c M H' (g.blk.map fun b=> ⟨b,0,none⟩) g.n g.cap (fun i=> (k.namesTo j)[i]?.getD []) (strs_of g hg hgl rfl rfl) (by omega) (k.name j)
     rw[names_first k j g.n hgn] at hix
     cases q0:isNm (k.name j) with
     | false=>
       have eA:k.lineA j=4:=by unfold Bk.lineA;simp only[q0];simp
       rw[firstA_at hno eA (by decide) c3] at hK
       refine .seq (.sr ?_)
       refine .m ?_
       refine .m ?_
       refine .x .ln ?_
       refine .i ?_ (z:=lss_t (by omega))
       refine .done (.tt rfl (.skip (.seq (.block (.seq (.sr ?_))))))
       refine .m ?_
       refine .m ?_
       refine .x .ia ?_
       refine .x .fa ?_
       refine .x .l0 ?_
       refine .c rfl rfl rfl rfl (fun H hs=> .f ca153 rfl (IsNameR_c M H (k.name j) s0 _ q0)) ?_
       refine .x .nt ?_
       refine .done (.tt rfl (.sr ?_))
       refine .g ?_
       refine .done ?_
       refine .rt hK Tryz.func88 Tryz.results88 [_] ?_
       exact fun H' hs=> ⟨hs.base,rfl⟩
     | true=>
       cases q1:k.again j with
       | true=>
         obtain⟨i0,hi0⟩:∃i,firstTo (fun i=> k.name i==k.name j) j=some i:=Option.isSome_iff_exists.1 q1
         rw[hi0] at hix
         have hix:=fun(H':View) (hg:∀x∈g.bl,H' x.1=some x.2)=> isV (w':=.int .i64 (i0:Nat)) (hix H' hg) rfl
         have eA:k.lineA j=5:=by unfold Bk.lineA;simp only[q0,q1];simp
         rw[firstA_at hno eA (by decide) c3] at hK
         refine .seq (.sr ?_)
         refine .m ?_
         refine .m ?_
         refine .x .ln ?_
         refine .i ?_ (z:=lss_t (by omega))
         refine .done (.tt rfl (.skip (.seq (.block (.seq (.sr ?_))))))
         refine .m ?_
         refine .m ?_
         refine .x .ia ?_
         refine .x .fa ?_
         refine .x .l0 ?_
         refine .c rfl rfl rfl rfl (fun H hs=> .f ca153 rfl (IsNameR_c M H (k.name j) s0 _ q0)) ?_
         refine .x .nt ?_
         refine .done (.ff rfl (.skip (.seq (.sr ?_))))
         refine .m ?_
         refine .m ?_
         refine .m ?_
         refine .x .ia ?_
         refine .x .fa ?_
         refine .x .l0 ?_
         refine .c rfl rfl rfl rfl (fun H hs=> .f ca42 rfl (hix H (fun x hx=> hs.at_ x hx))) ?_
         refine .i ?_ (z:=geq_t (by omega))
         refine .done (.tt rfl (.sr ?_))
         refine .g ?_
         refine .done ?_
         refine .rt hK Tryz.func88 Tryz.results88 [_] ?_
         exact fun H' hs=> ⟨hs.base,rfl⟩
       | false =>
         have hi0:firstTo (fun i=> k.name i==k.name j) j=none:=Option.isNone_iff_eq_none.1 (by have:=q1;unfold Bk.again at this;rw[←Option.not_isSome,this];rfl)
         rw[hi0] at hix
         have hix:=fun(H':View) (hg:∀x∈g.bl,H' x.1=some x.2)=> isV (w':=.int .i64 (-1)) (hix H' hg) rfl
         cases q2:isNum (k.num j) with
         | false=>
           have eA:k.lineA j=3:=by unfold Bk.lineA;simp only[q0,q1,q2];simp
           rw[firstA_at hno eA (by decide) c3] at hK
           refine .seq (.sr ?_)
           refine .m ?_
           refine .m ?_
           refine .x .ln ?_
           refine .i ?_ (z:=lss_t (by omega))
           refine .done (.tt rfl (.skip (.seq (.block (.seq (.sr ?_))))))
           refine .m ?_
           refine .m ?_
           refine .x .ia ?_
           refine .x .fa ?_
           refine .x .l0 ?_
           refine .c rfl rfl rfl rfl (fun H hs=> .f ca153 rfl (IsNameR_c M H (k.name j) s0 _ q0)) ?_
           refine .x .nt ?_
           refine .done (.ff rfl (.skip (.seq (.sr ?_))))
           refine .m ?_
           refine .m ?_
           refine .m ?_
           refine .x .ia ?_
           refine .x .fa ?_
           refine .x .l0 ?_
           refine .c rfl rfl rfl rfl (fun H hs=> .f ca42 rfl (hix H (fun x hx=> hs.at_ x hx))) ?_
           refine .i ?_ (z:=geq_f (by omega))
           refine .done (.ff rfl (.skip (.sr ?_)))
           refine .m ?_
           refine .m ?_
           refine .m ?_
           refine .x .ia ?_
           refine .x .fa ?_
           refine .x .l0 ?_
           refine .e (.bs (zz:=fun bs=> ?_))
           refine .e (Or.append (E:=en) (g:=g) (m:=1) (new:= [strV (k.name j)]) (yv:=.slice (some ⟨bs,0,none⟩) 1 1) 1 rfl rfl rfl rfl rfl rfl rfl rfl rfl rfl rfl rfl rfl rfl rfl (fun H hs=> SrcAt.of (hs.get (i:=0) rfl) (Nat.le_of_ble_eq_true rfl)) rfl (by omega) rfl (by decide) (fun g2 hn2 hl2=> ?_))
           refine .g ?_
           refine .done (.seq (.sr ?_))
           refine .m ?_
           refine .m ?_
           refine .x .ia ?_
           refine .x .fa ?_
           refine .x .l0 ?_
           refine .c rfl rfl rfl rfl (fun H hs=> .f ca135 rfl (IsNumberR_c M H (k.num j) s1 _ q2)) ?_
           refine .x .nt ?_
           refine .done (.tt rfl (.sr ?_))
           refine .g ?_
           refine .done ?_
           refine .rt hK Tryz.func88 Tryz.results88 [_] ?_
           exact fun H' hs=> ⟨hs.base,rfl⟩
         | true=>
           cases q3:(k.pre j).clash (k.num j) with
           | true=>
             have eA:k.lineA j=10:=by unfold Bk.lineA;simp only[q0,q1,q2,q3];simp
             rw[firstA_at hno eA (by decide) c3] at hK
             refine .seq (.sr ?_)
             refine .m ?_
             refine .m ?_
             refine .x .ln ?_
             refine .i ?_ (z:=lss_t (by omega))
             refine .done (.tt rfl (.skip (.seq (.block (.seq (.sr ?_))))))
             refine .m ?_
             refine .m ?_
             refine .x .ia ?_
             refine .x .fa ?_
             refine .x .l0 ?_
             refine .c rfl rfl rfl rfl (fun H hs=> .f ca153 rfl (IsNameR_c M H (k.name j) s0 _ q0)) ?_
             refine .x .nt ?_
             refine .done (.ff rfl (.skip (.seq (.sr ?_))))
             refine .m ?_
             refine .m ?_
             refine .m ?_
             refine .x .ia ?_
             refine .x .fa ?_
             refine .x .l0 ?_
             refine .c rfl rfl rfl rfl (fun H hs=> .f ca42 rfl (hix H (fun x hx=> hs.at_ x hx))) ?_
             refine .i ?_ (z:=geq_f (by omega))
             refine .done (.ff rfl (.skip (.sr ?_)))
             refine .m ?_
             refine .m ?_
             refine .m ?_
             refine .x .ia ?_
             refine .x .fa ?_
             refine .x .l0 ?_
             refine .e (.bs (zz:=fun bs=> ?_))
             refine .e (Or.append (E:=en) (g:=g) (m:=1) (new:= [strV (k.name j)]) (yv:=.slice (some ⟨bs,0,none⟩) 1 1) 1 rfl rfl rfl rfl rfl rfl rfl rfl rfl rfl rfl rfl rfl rfl rfl (fun H hs=> SrcAt.of (hs.get (i:=0) rfl) (Nat.le_of_ble_eq_true rfl)) rfl (by omega) rfl (by decide) (fun g2 hn2 hl2=> ?_))
             refine .g ?_
             refine .done (.seq (.sr ?_))
             refine .m ?_
             refine .m ?_
             refine .x .ia ?_
             refine .x .fa ?_
             refine .x .l0 ?_
             refine .c rfl rfl rfl rfl (fun H hs=> .f ca135 rfl (IsNumberR_c M H (k.num j) s1 _ q2)) ?_
             refine .x .nt ?_
             refine .done (.ff rfl (.skip (.seq (.seq ?_))))
             refine Tc.dr [] [] mixed rfl ?_
             refine .q 0 rfl .mv ?_
             refine .q 1 rfl .mv ?_
             refine .q 2 rfl (OpV.sliceTo (E:=en) (k:=j) rfl rfl rfl rfl rfl rfl (by omega) (by omega)) ?_
             refine .q 3 rfl .mv ?_
             refine .q 4 rfl .mv ?_
             refine .q 5 rfl .ia ?_
             refine .q 6 rfl .fa ?_
             refine .q 7 rfl .l0 ?_
             refine .z 8 rfl (OpV.takeCall rfl rfl rfl rfl (fun H hs=> .f ca136 rfl (clashesR_c M H (k.pre j) (some ⟨ab,ao,none⟩) lc (hA2.le hs.base) (by show j≤1000;omega) (k.num j) _ q3))) ?_
             refine Ta.done (by kernel_rfl) ?_
             refine .tt rfl (.sr ?_)
             refine .g ?_
             refine .done ?_
             refine .rt hK Tryz.func88 Tryz.results88 [_] ?_
             exact fun H' hs=> ⟨hs.base,rfl⟩
           | false =>
             cases q4:decide (1≤((k.nf j:Nat):Int)∧((k.nf j:Nat):Int)≤4) with
             | false=>
               have eA:k.lineA j=2:=by unfold Bk.lineA;simp only[q0,q1,q2,q3,q4];simp
               rw[firstA_at hno eA (by decide) c3] at hK
               refine .seq (.sr ?_)
               refine .m ?_
               refine .m ?_
               refine .x .ln ?_
               refine .i ?_ (z:=lss_t (by omega))
               refine .done (.tt rfl (.skip (.seq (.block (.seq (.sr ?_))))))
               refine .m ?_
               refine .m ?_
               refine .x .ia ?_
               refine .x .fa ?_
               refine .x .l0 ?_
               refine .c rfl rfl rfl rfl (fun H hs=> .f ca153 rfl (IsNameR_c M H (k.name j) s0 _ q0)) ?_
               refine .x .nt ?_
               refine .done (.ff rfl (.skip (.seq (.sr ?_))))
               refine .m ?_
               refine .m ?_
               refine .m ?_
               refine .x .ia ?_
               refine .x .fa ?_
               refine .x .l0 ?_
               refine .c rfl rfl rfl rfl (fun H hs=> .f ca42 rfl (hix H (fun x hx=> hs.at_ x hx))) ?_
               refine .i ?_ (z:=geq_f (by omega))
               refine .done (.ff rfl (.skip (.sr ?_)))
               refine .m ?_
               refine .m ?_
               refine .m ?_
               refine .x .ia ?_
               refine .x .fa ?_
               refine .x .l0 ?_
               refine .e (.bs (zz:=fun bs=> ?_))
               refine .e (Or.append (E:=en) (g:=g) (m:=1) (new:= [strV (k.name j)]) (yv:=.slice (some ⟨bs,0,none⟩) 1 1) 1 rfl rfl rfl rfl rfl rfl rfl rfl rfl rfl rfl rfl rfl rfl rfl (fun H hs=> SrcAt.of (hs.get (i:=0) rfl) (Nat.le_of_ble_eq_true rfl)) rfl (by omega) rfl (by decide) (fun g2 hn2 hl2=> ?_))
               refine .g ?_
               refine .done (.seq (.sr ?_))
               refine .m ?_
               refine .m ?_
               refine .x .ia ?_
               refine .x .fa ?_
               refine .x .l0 ?_
               refine .c rfl rfl rfl rfl (fun H hs=> .f ca135 rfl (IsNumberR_c M H (k.num j) s1 _ q2)) ?_
               refine .x .nt ?_
               refine .done (.ff rfl (.skip (.seq (.seq ?_))))
               refine Tc.dr [] [] mixed rfl ?_
               refine .q 0 rfl .mv ?_
               refine .q 1 rfl .mv ?_
               refine .q 2 rfl (OpV.sliceTo (E:=en) (k:=j) rfl rfl rfl rfl rfl rfl (by omega) (by omega)) ?_
               refine .q 3 rfl .mv ?_
               refine .q 4 rfl .mv ?_
               refine .q 5 rfl .ia ?_
               refine .q 6 rfl .fa ?_
               refine .q 7 rfl .l0 ?_
               refine .z 8 rfl (OpV.takeCall rfl rfl rfl rfl (fun H hs=> .f ca136 rfl (clashesR_c M H (k.pre j) (some ⟨ab,ao,none⟩) lc (hA2.le hs.base) (by show j≤1000;omega) (k.num j) _ q3))) ?_
               refine Ta.done (by kernel_rfl) ?_
               refine .ff rfl (.skip (.seq (.sr ?_)))
               refine .m ?_
               refine .m ?_
               refine .x .ia ?_
               refine .x .fa ?_
               refine .x .l0 ?_
               refine .x .ln ?_
               refine .c rfl rfl rfl rfl (fun H hs=> .f ca44 rfl (In_c M H ((k.nf j:Nat):Int) 1 4 _ q4)) ?_
               refine .x .nt ?_
               refine .done (.tt rfl (.sr ?_))
               refine .g ?_
               refine .done ?_
               refine .rt hK Tryz.func88 Tryz.results88 [_] ?_
               exact fun H' hs=> ⟨hs.base,rfl⟩
             | true=>
               refine .seq (.sr ?_)
               refine .m ?_
               refine .m ?_
               refine .x .ln ?_
               refine .i ?_ (z:=lss_t (by omega))
               refine .done (.tt rfl (.skip (.seq (.block (.seq (.sr ?_))))))
               refine .m ?_
               refine .m ?_
               refine .x .ia ?_
               refine .x .fa ?_
               refine .x .l0 ?_
               refine .c rfl rfl rfl rfl (fun H hs=> .f ca153 rfl (IsNameR_c M H (k.name j) s0 _ q0)) ?_
               refine .x .nt ?_
               refine .done (.ff rfl (.skip (.seq (.sr ?_))))
               refine .m ?_
               refine .m ?_
               refine .m ?_
               refine .x .ia ?_
               refine .x .fa ?_
               refine .x .l0 ?_
               refine .c rfl rfl rfl rfl (fun H hs=> .f ca42 rfl (hix H (fun x hx=> hs.at_ x hx))) ?_
               refine .i ?_ (z:=geq_f (by omega))
               refine .done (.ff rfl (.skip (.sr ?_)))
               refine .m ?_
               refine .m ?_
               refine .m ?_
               refine .x .ia ?_
               refine .x .fa ?_
               refine .x .l0 ?_
               refine .e (.bs (zz:=fun bs=> ?_))
               refine .e (Or.append (E:=en) (g:=g) (m:=1) (new:= [strV (k.name j)]) (yv:=.slice (some ⟨bs,0,none⟩) 1 1) 1 rfl rfl rfl rfl rfl rfl rfl rfl rfl rfl rfl rfl rfl rfl rfl (fun H hs=> SrcAt.of (hs.get (i:=0) rfl) (Nat.le_of_ble_eq_true rfl)) rfl (by omega) rfl (by decide) (fun g2 hn2 hl2=> ?_))
               refine .g ?_
               refine .done (.seq (.sr ?_))
               refine .m ?_
               refine .m ?_
               refine .x .ia ?_
               refine .x .fa ?_
               refine .x .l0 ?_
               refine .c rfl rfl rfl rfl (fun H hs=> .f ca135 rfl (IsNumberR_c M H (k.num j) s1 _ q2)) ?_
               refine .x .nt ?_
               refine .done (.ff rfl (.skip (.seq (.seq ?_))))
               refine Tc.dr [] [] mixed rfl ?_
               refine .q 0 rfl .mv ?_
               refine .q 1 rfl .mv ?_
               refine .q 2 rfl (OpV.sliceTo (E:=en) (k:=j) rfl rfl rfl rfl rfl rfl (by omega) (by omega)) ?_
               refine .q 3 rfl .mv ?_
               refine .q 4 rfl .mv ?_
               refine .q 5 rfl .ia ?_
               refine .q 6 rfl .fa ?_
               refine .q 7 rfl .l0 ?_
               refine .z 8 rfl (OpV.takeCall rfl rfl rfl rfl (fun H hs=> .f ca136 rfl (clashesR_c M H (k.pre j) (some ⟨ab,ao,none⟩) lc (hA2.le hs.base) (by show j≤1000;omega) (k.num j) _ q3))) ?_
               refine Ta.done (by kernel_rfl) ?_
               refine .ff rfl (.skip (.seq (.sr ?_)))
               refine .m ?_
               refine .m ?_
               refine .x .ia ?_
               refine .x .fa ?_
               refine .x .l0 ?_
               refine .x .ln ?_
               refine .c rfl rfl rfl rfl (fun H hs=> .f ca44 rfl (In_c M H ((k.nf j:Nat):Int) 1 4 _ q4)) ?_
               refine .x .nt ?_
               refine .done (.ff rfl (.skip (.sr ?_)))
               refine .g ?_
               refine .done (.block ?_)
               refine Tc.db (Tc.loopInv (σ:= { i:Nat//i≤k.nf j∧firstTo (fun i=> !claimOk (k.free j i)) i=none }) (fun i=> ([(0,.slice (some ⟨ab,ao,none⟩) k.nl lc),(3,g2.val),(4,.int .i64 (j:Nat)),(5,.int .i64 (i.1:Nat))],g2.bl)) (fun i=> k.nf j-i.1) ?_ ⟨0,Nat.zero_le _,rfl⟩)
               rintro⟨i,hi,hin⟩ ih2
               show Tc M St _ _ _ _ [(0,.slice (some ⟨ab,ao,none⟩) k.nl lc),(3,g2.val),(4,.int .i64 (j:Nat)),(5,.int .i64 (i:Nat))] g2.bl _ _
               by_cases d1:i=k.nf j
               · have eA:k.lineA j=0:=by
                   have q5:k.freeBad j=false:=by unfold Bk.freeBad;rw[←d1,hin];rfl
                   unfold Bk.lineA;simp only[q0,q1,q2,q3,q4,q5];simp
                 clear ih2 hin
                 subst d1
                 refine .seq (.sr ?_)
                 refine .m ?_
                 refine .m ?_
                 refine .m ?_
                 refine .x .ia ?_
                 refine .x .fa ?_
                 refine .x .l0 ?_
                 refine .x .ln ?_
                 refine .i ?_ (z:=lss_f (by omega))
                 refine .done (.ff rfl (.exit rfl (.inBlock (.r ?_))))
                 refine .m ?_
                 refine .i ?_ (z:=add_in (by omega) (by omega))
                 refine .g ?_
                 refine .done ?_
                 exact Tc.db (ih ⟨(j+1,g2),by simp only;omega,by simp only;rw[firstA,if_pos hno];exact eA,by simp only;rw[namesTo_snoc,strsV_app,hl2,hgl];rfl⟩ (by simp only;omega))
               · have d2:i<k.nf j:=by omega
                 obtain h0|⟨fb,fo,ff,fgs,fgt,fgz,rfl,hfb,hfl⟩:=hF
                 · omega
                 have f3:=hfl i d2
                 cases q5:claimOk (k.free j i) with
                 | true=>
                   refine .seq (.sr ?_)
                   refine .m ?_
                   refine .m ?_
                   refine .m ?_
                   refine .x .ia ?_
                   refine .x .fa ?_
                   refine .x .l0 ?_
                   refine .x .ln ?_
                   refine .i ?_ (z:=lss_t (by omega))
                   refine .done (.tt rfl (.skip (.seq (.block (.sr ?_)))))
                   refine .m ?_
                   refine .m ?_
                   refine .x .ia ?_
                   refine .x .fa ?_
                   refine .x .l0 ?_
                   refine .m ?_
                   refine .x .ia ?_
                   refine .x .l0 ?_
                   refine .c rfl rfl rfl rfl (fun H hs=> .f ca154 rfl (IsClaim_c M H (k.free j i) _ q5)) ?_
                   refine .x .nt ?_
                   refine .done (.ff rfl (.skip (.inBlock (.r ?_))))
                   refine .m ?_
                   refine .i ?_ (z:=add_in (by omega) (by omega))
                   refine .g ?_
                   refine .done ?_
                   exact Tc.db (ih2 ⟨i+1,by omega,by simp[firstTo,hin,q5]⟩ (by simp only;omega))
                 | false=>
                   have q6:k.freeBad j=true:=by
                     unfold Bk.freeBad
                     rw[firstTo_stays (j:=i+1) (x:=i) (by simp[firstTo,hin,q5]) _ (by omega)]
                     rfl
                   have eA:k.lineA j=1:=by unfold Bk.lineA;simp only[q0,q1,q2,q3,q4,q6];simp
                   rw[firstA_at hno eA (by decide) c3] at hK
                   refine .seq (.sr ?_)
                   refine .m ?_
                   refine .m ?_
                   refine .m ?_
                   refine .x .ia ?_
                   refine .x .fa ?_
                   refine .x .l0 ?_
                   refine .x .ln ?_
                   refine .i ?_ (z:=lss_t (by omega))
                   refine .done (.tt rfl (.skip (.seq (.block (.sr ?_)))))
                   refine .m ?_
                   refine .m ?_
                   refine .x .ia ?_
                   refine .x .fa ?_
                   refine .x .l0 ?_
                   refine .m ?_
                   refine .x .ia ?_
                   refine .x .l0 ?_
                   refine .c rfl rfl rfl rfl (fun H hs=> .f ca154 rfl (IsClaim_c M H (k.free j i) _ q5)) ?_
                   refine .x .nt ?_
                   refine .done (.tt rfl (.sr ?_))
                   refine .g ?_
                   refine .done ?_
                   refine .rt hK Tryz.func88 Tryz.results88 [_] ?_
                   exact fun H' hs=> ⟨hs.base,rfl⟩
end
end Go.Proofs.YtdnfdeplcjaonaaGreatDoor
end
section
namespace Go.Proofs.YtdnfdeplcjaonaaGreatDoor
open Go.RL
set_option maxRecDepth 10000
set_option maxHeartbeats 8000000
def Bk.wide(k:Bk)(i:Nat):Bool:=decide (100<(k.name i).length)||decide (100<(k.num i).length)||decide (20<k.nf i)
def Bk.great(k:Bk):Bool:=decide (20<k.nl)||decide (20<k.nt)||(firstTo k.wide k.nl).isSome
def Bk.fit(k:Bk):Bool:=!k.great&&decide (k.alarm=0)
theorem Bk.ungreat {k:Bk}(h:k.great=false):k.nl≤20∧k.nt≤20∧∀i,i<k.nl→(k.name i).length≤100∧(k.num i).length≤100∧k.nf i≤20:=by
 unfold Bk.great at h
 rw[Bool.or_eq_false_iff,Bool.or_eq_false_iff] at h
 have h1:=of_decide_eq_false h.1.1
 have h2:=of_decide_eq_false h.1.2
 refine⟨by omega,by omega,fun i hi=> ?_⟩
 have h3:k.wide i=false:=(firstTo_none _).1 (by rw[←Option.not_isSome_iff_eq_none,h.2];decide) i hi
 unfold Bk.wide at h3
 rw[Bool.or_eq_false_iff,Bool.or_eq_false_iff] at h3
 have h4:=of_decide_eq_false h3.1.1
 have h5:=of_decide_eq_false h3.1.2
 have h6:=of_decide_eq_false h3.2
 omega
theorem Bk.ungreat_small {k:Bk}(h:k.great=false):k.small:=by
 obtain⟨h1,h2,h3⟩:=Bk.ungreat h
 exact⟨by omega,by omega,fun i hi=> by have:=h3 i hi;omega⟩
section
variable(M:Md Tryz.prog)(H:View)
theorem refCheckBook_c(k:Bk)(A:Option Addr)(lc:Nat)(B:Option Addr)(tc:Nat)(hk:BkAt H k A lc B tc)(hn:k.small)(hnm:∀i,i<k.nl→(k.name i).length≤1000000):
   CallT M 22 #[k.val A lc B tc] H (fun v H'=> H.le H'∧v=.int .i64 k.alarm):=by
 have hlines:=fun(H':View) (h':H.le H')=> checkLines_c M H' k A lc (hk.le h').rows hn.nl (fun i hi=> ⟨hnm i hi,hn.num i hi⟩)
 have hng:=hn.nt
 by_cases c1:1≤k.gap∧k.gap≤99
 · by_cases c2:k.gap+1≤k.give∧k.give≤99
   · have e:k.alarm=if k.linesA=0 then k.trainsA else k.linesA:=by unfold Bk.alarm;rw[if_pos (by unfold Bk.pausesA;rw[if_pos ⟨c1,c2⟩])]
     rw[e]
     clear e
     by_cases c3:k.linesA=0
     · rw[if_pos c3]
       rw[c3] at hlines
       by_cases c4:6<k.nt
       · have e:k.trainsA=2:=by unfold Bk.trainsA;rw[if_pos c4]
         rw[e]
         refine CallT.enter (vs:= [k.val A lc B tc]) Tryz.func22 rfl Tryz.ntmps22 (Nat.le_of_ble_eq_true rfl) (SymSt.nil _) fun St c cs hK=> ?_
         refine .sr ?_
         refine .e (.bx (zz:=fun b1=> ?_))
         refine .g ?_
         refine .done (.seq (.sr ?_))
         refine .x .fa ?_
         refine .x (.ld 0) ?_
         refine .c rfl rfl rfl rfl (fun H hs=> .f ca44 rfl (In_c M H k.gap 1 99 true (decide_eq_true c1))) ?_
         refine .x .nt ?_
         refine .m ?_
         refine .x .fa ?_
         refine .x (.ld 0) ?_
         refine .x .fa ?_
         refine .x (.ld 0) ?_
         refine .i ?_ (z:=add_in (by omega) (by omega))
         refine .c rfl rfl rfl rfl (fun H hs=> .f ca44 rfl (In_c M H k.give (k.gap+1) 99 true (decide_eq_true c2))) ?_
         refine .x .nt ?_
         refine .x .pk ?_
         refine .done (.ff rfl (.skip (.seq (.sr ?_))))
         refine .x .fa ?_
         refine .x (.ld 0) ?_
         refine .c rfl rfl rfl rfl (fun H hs=> .f ca88 rfl (hlines H hs.base)) ?_
         refine .g ?_
         refine .done (.sr ?_)
         refine .m ?_
         refine .i ?_ (z:=neq_f (by omega))
         refine .done (.ff rfl (.skip (.seq (.sr ?_))))
         refine .x .fa ?_
         refine .x (.ld 0) ?_
         refine .x .ln ?_
         refine .i ?_ (z:=gtr_t (by omega))
         refine .done (.tt rfl (.sr ?_))
         refine .g ?_
         refine .done ?_
         refine .rt hK Tryz.func22 Tryz.results22 [_] ?_
         exact fun H' hs=> ⟨hs.base,rfl⟩
       · have e:k.trainsA=if(firstTo k.trainBad k.nt).isSome then 1 else 0:=by unfold Bk.trainsA;rw[if_neg c4]
         rw[e]
         clear e
         refine CallT.enter (vs:= [k.val A lc B tc]) Tryz.func22 rfl Tryz.ntmps22 (Nat.le_of_ble_eq_true rfl) (SymSt.nil _) fun St c cs hK=> ?_
         refine .sr ?_
         refine .e (.bx (zz:=fun b1=> ?_))
         refine .g ?_
         refine .done (.seq (.sr ?_))
         refine .x .fa ?_
         refine .x (.ld 0) ?_
         refine .c rfl rfl rfl rfl (fun H hs=> .f ca44 rfl (In_c M H k.gap 1 99 true (decide_eq_true c1))) ?_
         refine .x .nt ?_
         refine .m ?_
         refine .x .fa ?_
         refine .x (.ld 0) ?_
         refine .x .fa ?_
         refine .x (.ld 0) ?_
         refine .i ?_ (z:=add_in (by omega) (by omega))
         refine .c rfl rfl rfl rfl (fun H hs=> .f ca44 rfl (In_c M H k.give (k.gap+1) 99 true (decide_eq_true c2))) ?_
         refine .x .nt ?_
         refine .x .pk ?_
         refine .done (.ff rfl (.skip (.seq (.sr ?_))))
         refine .x .fa ?_
         refine .x (.ld 0) ?_
         refine .c rfl rfl rfl rfl (fun H hs=> .f ca88 rfl (hlines H hs.base)) ?_
         refine .g ?_
         refine .done (.sr ?_)
         refine .m ?_
         refine .i ?_ (z:=neq_f (by omega))
         refine .done (.ff rfl (.skip (.seq (.sr ?_))))
         refine .x .fa ?_
         refine .x (.ld 0) ?_
         refine .x .ln ?_
         refine .i ?_ (z:=gtr_f (by omega))
         refine .done (.ff rfl (.skip (.seq (.sr ?_))))
         refine .g ?_
         refine .done (.block ?_)
         refine Tc.db (Tc.loopInv (σ:= { i:Nat//i≤k.nt∧firstTo k.trainBad i=none }) (fun i=> ([(1,.pointer (some ⟨b1,0,none⟩)),(4,.int .i64 (i.1:Nat))],[(b1,true,.cells ⟨(k.val A lc B tc).cells.toList⟩ 25 (0,0))])) (fun i=> k.nt-i.1) ?_ ⟨0,Nat.zero_le _,rfl⟩)
         rintro⟨i,hi,hno⟩ ih
         show Tc M St _ _ _ _ [(1,.pointer (some ⟨b1,0,none⟩)),(4,.int .i64 (i:Nat))] [(b1,true,.cells ⟨(k.val A lc B tc).cells.toList⟩ 25 (0,0))] _ _
         by_cases c5:i=k.nt
         · clear ih
           subst c5
           rw[hno] at hK
           refine .seq (.sr ?_)
           refine .m ?_
           refine .x .fa ?_
           refine .x (.ld 0) ?_
           refine .x .ln ?_
           refine .i ?_ (z:=lss_f (by omega))
           refine .done (.ff rfl (.exit rfl (.sr ?_)))
           refine .g ?_
           refine .done ?_
           refine .rt hK Tryz.func22 Tryz.results22 [_] ?_
           exact fun H' hs=> ⟨hs.base,rfl⟩
         · have c6:i<k.nt:=by omega
           obtain⟨_,htc,h0|⟨tb,to,f,gs,gt,gz,rfl,hb,hl⟩⟩:=hk
           · omega
           have f1:=hl i c6
           cases q:trainOk (k.pf i) (k.pt i) (k.qf i) (k.qt i) with
           | true=>
             refine .seq (.sr ?_)
             refine .m ?_
             refine .x .fa ?_
             refine .x (.ld 0) ?_
             refine .x .ln ?_
             refine .i ?_ (z:=lss_t (by omega))
             refine .done (.tt rfl (.skip (.seq (.block (.sr ?_)))))
             refine .x .fa ?_
             refine .x (.ld 0) ?_
             refine .m ?_
             refine .x .ia ?_
             refine .x .l0 ?_
             refine .c rfl rfl rfl rfl (fun H hs=> .f ca89 rfl (checkTrain_c M H (k.pf i) (k.pt i) (k.qf i) (k.qt i) 0 (by rw[q];rfl))) ?_
             refine .g ?_
             refine .done (.sr ?_)
             refine .m ?_
             refine .i ?_ (z:=neq_f (by omega))
             refine .done (.ff rfl (.skip (.inBlock (.r ?_))))
             refine .m ?_
             refine .i ?_ (z:=add_in (by omega) (by omega))
             refine .g ?_
             refine .done ?_
             exact Tc.db (ih ⟨i+1,by omega,by simp[firstTo,hno,Bk.trainBad,q]⟩ (by simp only;omega))
           | false=>
             rw[firstTo_stays (j:=i+1) (x:=i) (by simp[firstTo,hno,Bk.trainBad,q]) _ (by omega)] at hK
             refine .seq (.sr ?_)
             refine .m ?_
             refine .x .fa ?_
             refine .x (.ld 0) ?_
             refine .x .ln ?_
             refine .i ?_ (z:=lss_t (by omega))
             refine .done (.tt rfl (.skip (.seq (.block (.sr ?_)))))
             refine .x .fa ?_
             refine .x (.ld 0) ?_
             refine .m ?_
             refine .x .ia ?_
             refine .x .l0 ?_
             refine .c rfl rfl rfl rfl (fun H hs=> .f ca89 rfl (checkTrain_c M H (k.pf i) (k.pt i) (k.qf i) (k.qt i) 1 (by rw[q];rfl))) ?_
             refine .g ?_
             refine .done (.sr ?_)
             refine .m ?_
             refine .i ?_ (z:=neq_t (by omega))
             refine .done (.tt rfl (.sr ?_))
             refine .m ?_
             refine .g ?_
             refine .done ?_
             refine .rt hK Tryz.func22 Tryz.results22 [_] ?_
             exact fun H' hs=> ⟨hs.base,rfl⟩
     · rw[if_neg c3]
       refine CallT.enter (vs:= [k.val A lc B tc]) Tryz.func22 rfl Tryz.ntmps22 (Nat.le_of_ble_eq_true rfl) (SymSt.nil _) fun St c cs hK=> ?_
       refine .sr ?_
       refine .e (.bx (zz:=fun b1=> ?_))
       refine .g ?_
       refine .done (.seq (.sr ?_))
       refine .x .fa ?_
       refine .x (.ld 0) ?_
       refine .c rfl rfl rfl rfl (fun H hs=> .f ca44 rfl (In_c M H k.gap 1 99 true (decide_eq_true c1))) ?_
       refine .x .nt ?_
       refine .m ?_
       refine .x .fa ?_
       refine .x (.ld 0) ?_
       refine .x .fa ?_
       refine .x (.ld 0) ?_
       refine .i ?_ (z:=add_in (by omega) (by omega))
       refine .c rfl rfl rfl rfl (fun H hs=> .f ca44 rfl (In_c M H k.give (k.gap+1) 99 true (decide_eq_true c2))) ?_
       refine .x .nt ?_
       refine .x .pk ?_
       refine .done (.ff rfl (.skip (.seq (.sr ?_))))
       refine .x .fa ?_
       refine .x (.ld 0) ?_
       refine .c rfl rfl rfl rfl (fun H hs=> .f ca88 rfl (hlines H hs.base)) ?_
       refine .g ?_
       refine .done (.sr ?_)
       refine .m ?_
       refine .i ?_ (z:=neq_t (by omega))
       refine .done (.tt rfl (.sr ?_))
       refine .m ?_
       refine .g ?_
       refine .done ?_
       refine .rt hK Tryz.func22 Tryz.results22 [_] ?_
       exact fun H' hs=> ⟨hs.base,rfl⟩
   · have e:k.alarm=1:=by unfold Bk.alarm Bk.pausesA;simp[c2]
     rw[e]
     refine CallT.enter (vs:= [k.val A lc B tc]) Tryz.func22 rfl Tryz.ntmps22 (Nat.le_of_ble_eq_true rfl) (SymSt.nil _) fun St c cs hK=> ?_
     refine .sr ?_
     refine .e (.bx (zz:=fun b1=> ?_))
     refine .g ?_
     refine .done (.seq (.sr ?_))
     refine .x .fa ?_
     refine .x (.ld 0) ?_
     refine .c rfl rfl rfl rfl (fun H hs=> .f ca44 rfl (In_c M H k.gap 1 99 true (decide_eq_true c1))) ?_
     refine .x .nt ?_
     refine .m ?_
     refine .x .fa ?_
     refine .x (.ld 0) ?_
     refine .x .fa ?_
     refine .x (.ld 0) ?_
     refine .i ?_ (z:=add_in (by omega) (by omega))
     refine .c rfl rfl rfl rfl (fun H hs=> .f ca44 rfl (In_c M H k.give (k.gap+1) 99 false (decide_eq_false c2))) ?_
     refine .x .nt ?_
     refine .x .pk ?_
     refine .done (.tt rfl (.sr ?_))
     refine .g ?_
     refine .done ?_
     refine .rt hK Tryz.func22 Tryz.results22 [_] ?_
     exact fun H' hs=> ⟨hs.base,rfl⟩
 · have e:k.alarm=1:=by unfold Bk.alarm Bk.pausesA;simp[c1]
   rw[e]
   refine CallT.enter (vs:= [k.val A lc B tc]) Tryz.func22 rfl Tryz.ntmps22 (Nat.le_of_ble_eq_true rfl) (SymSt.nil _) fun St c cs hK=> ?_
   refine .sr ?_
   refine .e (.bx (zz:=fun b1=> ?_))
   refine .g ?_
   refine .done (.seq (.sr ?_))
   refine .x .fa ?_
   refine .x (.ld 0) ?_
   refine .c rfl rfl rfl rfl (fun H hs=> .f ca44 rfl (In_c M H k.gap 1 99 false (decide_eq_false c1))) ?_
   refine .x .nt ?_
   refine .m ?_
   refine .sk ?_
   refine .sk ?_
   refine .sk ?_
   refine .sk ?_
   refine .sk ?_
   refine .sk ?_
   refine .sk ?_
   refine .x .pk ?_
   refine .done (.tt rfl (.sr ?_))
   refine .g ?_
   refine .done ?_
   refine .rt hK Tryz.func22 Tryz.results22 [_] ?_
   exact fun H' hs=> ⟨hs.base,rfl⟩
theorem wide_c(a num:List UInt8)(F:Option Addr)(n fc:Nat)(t:Bool)(ht:(decide (100<a.length)||decide (100<num.length)||decide (20<n))=t):
   CallT M 60 #[lineV a num F n fc] H (fun v H'=> H.le H'∧v=.bool t):=by
 rw[←ht]
 refine CallT.enter (vs:= [lineV a num F n fc]) Tryz.func60 rfl Tryz.ntmps60 (Nat.le_of_ble_eq_true rfl) (SymSt.nil _) fun St c cs hK=> ?_
 by_cases c1:100<a.length
 all_goals by_cases c2:100<num.length
 all_goals by_cases c3:20<n
 all_goals
   refine .sr ?_
   refine .e (.bx (zz:=fun b1=> ?_))
   refine .g ?_
   refine .done (.sr ?_)
   refine .x .fa ?_
   refine .x (.ld 0) ?_
   refine .x (OpV.lenS (E:=en) rfl rfl rfl rfl rfl rfl rfl) ?_
   refine .i ?_ (z:=by first|exact gtr_t (by omega)|exact gtr_f (by omega))
   refine .m ?_
   first|(refine .sk ?_)|(refine .x .fa ?_)
   first|(refine .sk ?_)|((refine .x (.ld 0) ?_))
   first|(refine .sk ?_)|(refine .x (OpV.lenS (E:=en) rfl rfl rfl rfl rfl rfl rfl) ?_)
   first|(refine .sk ?_)|(refine .x (.it (zz:=(by first|exact gtr_t (by omega)|exact gtr_f (by omega)))) ?_)
   refine .x .pk ?_
   refine .m ?_
   first|(refine .sk ?_)|(refine .x .fa ?_)
   first|(refine .sk ?_)|((refine .x (.ld 0) ?_))
   first|(refine .sk ?_)|(refine .x .ln ?_)
   first|(refine .sk ?_)|(refine .x (.it (zz:=(by first|exact gtr_t (by omega)|exact gtr_f (by omega)))) ?_)
   refine .x .pk ?_
   refine .g ?_
   refine .done ?_
   refine .rt hK Tryz.func60 Tryz.results60 [_] ?_
   exact fun H' hs=> ⟨hs.base,by simp[packV,c1,c2,c3]⟩
theorem Great_c(k:Bk)(A:Option Addr)(lc:Nat)(B:Option Addr)(tc:Nat)(hA:RowsAt H k A lc):
   CallT M 17 #[k.val A lc B tc] H (fun v H'=> H.le H'∧v=.bool k.great):=by
 by_cases c1:20<k.nl
 · have e:k.great=true:=by unfold Bk.great;simp[c1]
   rw[e]
   refine CallT.enter (vs:= [k.val A lc B tc]) Tryz.func17 rfl Tryz.ntmps17 (Nat.le_of_ble_eq_true rfl) (SymSt.nil _) fun St c cs hK=> ?_
   refine .sr ?_
   refine .e (.bx (zz:=fun b1=> ?_))
   refine .g ?_
   refine .done (.seq (.sr ?_))
   refine .x .fa ?_
   refine .x (.ld 0) ?_
   refine .x .ln ?_
   refine .i ?_ (z:=gtr_t (by omega))
   refine .m ?_
   refine .sk ?_
   refine .sk ?_
   refine .sk ?_
   refine .sk ?_
   refine .x .pk ?_
   refine .done (.tt rfl (.sr ?_))
   refine .g ?_
   refine .done ?_
   refine .rt hK Tryz.func17 Tryz.results17 [_] ?_
   exact fun H' hs=> ⟨hs.base,rfl⟩
 · by_cases c2:20<k.nt
   · have e:k.great=true:=by unfold Bk.great;simp[c2]
     rw[e]
     refine CallT.enter (vs:= [k.val A lc B tc]) Tryz.func17 rfl Tryz.ntmps17 (Nat.le_of_ble_eq_true rfl) (SymSt.nil _) fun St c cs hK=> ?_
     refine .sr ?_
     refine .e (.bx (zz:=fun b1=> ?_))
     refine .g ?_
     refine .done (.seq (.sr ?_))
     refine .x .fa ?_
     refine .x (.ld 0) ?_
     refine .x .ln ?_
     refine .i ?_ (z:=gtr_f (by omega))
     refine .m ?_
     refine .x .fa ?_
     refine .x (.ld 0) ?_
     refine .x .ln ?_
     refine .i ?_ (z:=gtr_t (by omega))
     refine .x .pk ?_
     refine .done (.tt rfl (.sr ?_))
     refine .g ?_
     refine .done ?_
     refine .rt hK Tryz.func17 Tryz.results17 [_] ?_
     exact fun H' hs=> ⟨hs.base,rfl⟩
   · have e:k.great=(firstTo k.wide k.nl).isSome:=by unfold Bk.great;simp[c1,c2]
     rw[e]
     clear e
     refine CallT.enter (vs:= [k.val A lc B tc]) Tryz.func17 rfl Tryz.ntmps17 (Nat.le_of_ble_eq_true rfl) (SymSt.nil _) fun St c cs hK=> ?_
     refine .sr ?_
     refine .e (.bx (zz:=fun b1=> ?_))
     refine .g ?_
     refine .done (.seq (.sr ?_))
     refine .x .fa ?_
     refine .x (.ld 0) ?_
     refine .x .ln ?_
     refine .i ?_ (z:=gtr_f (by omega))
     refine .m ?_
     refine .x .fa ?_
     refine .x (.ld 0) ?_
     refine .x .ln ?_
     refine .i ?_ (z:=gtr_f (by omega))
     refine .x .pk ?_
     refine .done (.ff rfl (.skip (.seq (.sr ?_))))
     refine .g ?_
     refine .done (.block ?_)
     refine Tc.db (Tc.loopInv (σ:= { i:Nat//i≤k.nl∧firstTo k.wide i=none }) (fun i=> ([(1,.pointer (some ⟨b1,0,none⟩)),(3,.int .i64 (i.1:Nat))],[(b1,true,.cells ⟨(k.val A lc B tc).cells.toList⟩ 25 (0,0))])) (fun i=> k.nl-i.1) ?_ ⟨0,Nat.zero_le _,rfl⟩)
     rintro⟨i,hi,hno⟩ ih
     show Tc M St _ _ _ _ [(1,.pointer (some ⟨b1,0,none⟩)),(3,.int .i64 (i:Nat))] [(b1,true,.cells ⟨(k.val A lc B tc).cells.toList⟩ 25 (0,0))] _ _
     by_cases c5:i=k.nl
     · clear ih
       subst c5
       rw[hno] at hK
       refine .seq (.sr ?_)
       refine .m ?_
       refine .x .fa ?_
       refine .x (.ld 0) ?_
       refine .x .ln ?_
       refine .i ?_ (z:=lss_f (by omega))
       refine .done (.ff rfl (.exit rfl (.sr ?_)))
       refine .g ?_
       refine .done ?_
       refine .rt hK Tryz.func17 Tryz.results17 [_] ?_
       exact fun H' hs=> ⟨hs.base,rfl⟩
     · have c6:i<k.nl:=by omega
       obtain⟨hlc,h0|⟨ab,ao,f,gs,gt,gz,rfl,hb,hl⟩⟩:=hA
       · omega
       obtain⟨F,fc,f1,_,_⟩:=hl i c6
       cases q:k.wide i with
       | true=>
         rw[firstTo_stays (j:=i+1) (x:=i) (by simp[firstTo,hno,q]) _ (by omega)] at hK
         refine .seq (.sr ?_)
         refine .m ?_
         refine .x .fa ?_
         refine .x (.ld 0) ?_
         refine .x .ln ?_
         refine .i ?_ (z:=lss_t (by omega))
         refine .done (.tt rfl (.skip (.seq (.block (.sr ?_)))))
         refine .x .fa ?_
         refine .x (.ld 0) ?_
         refine .m ?_
         refine .x .ia ?_
         refine .x .l0 ?_
         refine .c rfl rfl rfl rfl (fun H hs=> .f ca60 rfl (wide_c M H (k.name i) (k.num i) F (k.nf i) fc true q)) ?_
         refine .done (.tt rfl (.sr ?_))
         refine .g ?_
         refine .done ?_
         refine .rt hK Tryz.func17 Tryz.results17 [_] ?_
         exact fun H' hs=> ⟨hs.base,rfl⟩
       | false=>
         refine .seq (.sr ?_)
         refine .m ?_
         refine .x .fa ?_
         refine .x (.ld 0) ?_
         refine .x .ln ?_
         refine .i ?_ (z:=lss_t (by omega))
         refine .done (.tt rfl (.skip (.seq (.block (.sr ?_)))))
         refine .x .fa ?_
         refine .x (.ld 0) ?_
         refine .m ?_
         refine .x .ia ?_
         refine .x .l0 ?_
         refine .c rfl rfl rfl rfl (fun H hs=> .f ca60 rfl (wide_c M H (k.name i) (k.num i) F (k.nf i) fc false q)) ?_
         refine .done (.ff rfl (.skip (.inBlock (.r ?_))))
         refine .m ?_
         refine .i ?_ (z:=add_in (by omega) (by omega))
         refine .g ?_
         refine .done ?_
         exact Tc.db (ih ⟨i+1,by omega,by simp[firstTo,hno,q]⟩ (by simp only;omega))
theorem Fit_c(k:Bk)(A:Option Addr)(lc:Nat)(B:Option Addr)(tc:Nat)(hk:BkAt H k A lc B tc)(t:Bool)(ht:k.fit=t):
   CallT M 38 #[k.val A lc B tc] H (fun v H'=> H.le H'∧v=.bool t):=by
 rw[←ht]
 clear ht
 cases q:k.great with
 | true=>
   have e:k.fit=false:=by unfold Bk.fit;rw[q];rfl
   rw[e]
   refine CallT.enter (vs:= [k.val A lc B tc]) Tryz.func38 rfl Tryz.ntmps38 (Nat.le_of_ble_eq_true rfl) (SymSt.nil _) fun St c cs hK=> ?_
   refine .sr ?_
   refine .e (.bx (zz:=fun b1=> ?_))
   refine .g ?_
   refine .done (.sr ?_)
   refine .x (.ld 0) ?_
   refine .c rfl rfl rfl rfl (fun H hs=> .f ca17 rfl (isB (Great_c M H k A lc B tc (hk.le hs.base).rows) q)) ?_
   refine .x .nt ?_
   refine .m ?_
   refine .sk ?_
   refine .sk ?_
   refine .sk ?_
   refine .x .pk ?_
   refine .g ?_
   refine .done ?_
   refine .rt hK Tryz.func38 Tryz.results38 [_] ?_
   exact fun H' hs=> ⟨hs.base,rfl⟩
 | false=>
   by_cases c1:k.alarm=0
   · have e:k.fit=true:=by unfold Bk.fit;rw[q];simp[c1]
     rw[e]
     refine CallT.enter (vs:= [k.val A lc B tc]) Tryz.func38 rfl Tryz.ntmps38 (Nat.le_of_ble_eq_true rfl) (SymSt.nil _) fun St c cs hK=> ?_
     refine .sr ?_
     refine .e (.bx (zz:=fun b1=> ?_))
     refine .g ?_
     refine .done (.sr ?_)
     refine .x (.ld 0) ?_
     refine .c rfl rfl rfl rfl (fun H hs=> .f ca17 rfl (isB (Great_c M H k A lc B tc (hk.le hs.base).rows) q)) ?_
     refine .x .nt ?_
     refine .m ?_
     refine .x (.ld 0) ?_
     refine .c rfl rfl rfl rfl (fun H hs=> .f ca22 rfl (isV (refCheckBook_c M H k A lc B tc (hk.le hs.base) (Bk.ungreat_small q) (fun i hi=> by have:=(Bk.ungreat q).2.2 i hi;omega)) (w':=.int .i64 0) (by rw[c1]))) ?_
     refine .i ?_ (z:=eql_t (by omega))
     refine .x .pk ?_
     refine .g ?_
     refine .done ?_
     refine .rt hK Tryz.func38 Tryz.results38 [_] ?_
     exact fun H' hs=> ⟨hs.base,rfl⟩
   · have e:k.fit=false:=by unfold Bk.fit;rw[q];simp[c1]
     rw[e]
     refine CallT.enter (vs:= [k.val A lc B tc]) Tryz.func38 rfl Tryz.ntmps38 (Nat.le_of_ble_eq_true rfl) (SymSt.nil _) fun St c cs hK=> ?_
     refine .sr ?_
     refine .e (.bx (zz:=fun b1=> ?_))
     refine .g ?_
     refine .done (.sr ?_)
     refine .x (.ld 0) ?_
     refine .c rfl rfl rfl rfl (fun H hs=> .f ca17 rfl (isB (Great_c M H k A lc B tc (hk.le hs.base).rows) q)) ?_
     refine .x .nt ?_
     refine .m ?_
     refine .x (.ld 0) ?_
     refine .c rfl rfl rfl rfl (fun H hs=> .f ca22 rfl (refCheckBook_c M H k A lc B tc (hk.le hs.base) (Bk.ungreat_small q) (fun i hi=> by have:=(Bk.ungreat q).2.2 i hi;omega))) ?_
     refine .i ?_ (z:=eql_f (by omega))
     refine .x .pk ?_
     refine .g ?_
     refine .done ?_
     refine .rt hK Tryz.func38 Tryz.results38 [_] ?_
     exact fun H' hs=> ⟨hs.base,rfl⟩
end
end Go.Proofs.YtdnfdeplcjaonaaGreatDoor
end
section
namespace Go.Proofs.YtdnfdeplcjaonaaGreatDoor
open Go.RL
set_option maxRecDepth 10000
set_option maxHeartbeats 8000000
theorem trainsL_snoc {s:List UInt8}{p:Nat}{x:UInt8}(h:s[p]? =some x)(q:Int):trainsL (s.take (p+1)) q=trainsL (s.take p) q++[.int .i64 (pn x:Nat),.int .i64 (pn x:Nat),.int .i64 q,.int .i64 q]:=by
 obtain⟨hp,rfl⟩:=List.getElem?_eq_some_iff.1 h
 unfold trainsL
 rw[List.take_succ_eq_append_getElem hp,List.flatMap_append]
 rfl
section
variable(M:Md Tryz.prog)(H:View)
theorem Trains_yes(s:List UInt8)(hs1:isNum s=true)(p:Int)(hp:0≤p∧p≤99):
   CallT M 69 #[strV s,.int .i64 p] H (fun v H'=> H.le H'∧∃g:Gl 47 4,v=.tuple ⟨[g.val,.int .i64 0]⟩∧(g.n=s.length∧g.l=trainsL s p)∧∀x∈g.bl,H' x.1=some x.2∧H x.1=none):=by
 have hdg:s.all dig=true∧1≤s.length∧s.length≤3:=by
   have h:=hs1
   unfold isNum at h
   simp only[Bool.and_eq_true,decide_eq_true_eq] at h
   exact⟨h.2,h.1.1,h.1.2⟩
 obtain⟨hdg,hl1,hl3⟩:=hdg
 refine CallT.enter (vs:= [strV s,.int .i64 p]) Tryz.func69 rfl Tryz.ntmps69 (Nat.le_of_ble_eq_true rfl) (SymSt.nil _) fun St c cs hK=> ?_
 refine .sr ?_
 refine .g ?_
 refine .g ?_
 refine .done (.seq (.block (.sr ?_)))
 refine .m ?_
 refine .c rfl rfl rfl rfl (fun H hs=> .f ca119 rfl (isB (isNumber_c M H s (by omega)) hs1)) ?_
 refine .x .nt ?_
 refine .g ?_
 refine .done (.ff rfl (.sr ?_))
 refine .m ?_
 refine .c rfl rfl rfl rfl (fun H hs=> .f ca82 rfl (between_is M H p 0 99 true (decide_eq_true hp))) ?_
 refine .x .nt ?_
 refine .g ?_
 refine .done (.ff rfl (.skip (.inBlock (.sr ?_))))
 refine .g ?_
 refine .done (.seq (.sr ?_))
 refine .m ?_
 refine .e (Or.rangeS (E:=en) (s:=⟨⟨s⟩⟩) rfl rfl rfl rfl rfl (by decide) (fun it=> ?_))
 refine .done (.block ?_)
 refine Tc.db (Tc.loopInv (σ:= { x:Nat×Gl 47 4//x.1≤s.length∧x.2.n=x.1∧x.2.l=trainsL (s.take x.1) p }) (fun x=> ([(1,.int .i64 p),(6,x.1.2.val),(18,.pointer (some ⟨it,0,none⟩))],(it,true,.stringIter ⟨⟨s⟩⟩ x.1.1)::x.1.2.bl)) (fun x=> s.length-x.1.1) ?_ ⟨(0,Gl.nil 47 4),Nat.zero_le _,rfl,rfl⟩)
 rintro⟨⟨q,g⟩,hq,hgn,hgl⟩ ih
 simp only at hq hgn hgl
 show Tc M St _ _ _ _ [(1,.int .i64 p),(6,g.val),(18,.pointer (some ⟨it,0,none⟩))] ((it,true,.stringIter ⟨⟨s⟩⟩ q)::g.bl) _ _
 by_cases c1:q=s.length
 · clear ih
   subst c1
   have hnp:¬s.length<(ByteArray.mk ⟨s⟩).size:=by show ¬s.length<s.length;omega
   rw[List.take_length] at hgl
   refine .sr ?_
   refine .e (Or.nextS0 0 rfl rfl rfl hnp rfl (by decide) ?_)
   refine .x .et ?_
   refine .done (.seq (.ff rfl (.exit rfl (.sr ?_))))
   refine .m ?_
   refine .g ?_
   refine .g ?_
   refine .done ?_
   refine .rt hK Tryz.func69 Tryz.results69 [_,_] ?_
   exact fun H' hs=> ⟨hs.base,g,rfl,⟨hgn,hgl⟩,fun x hx=> ⟨hs.at_ x (by simp[hx]),hs.out x (by simp[hx])⟩⟩
 · have c2:q<s.length:=by omega
   obtain⟨x,hx,hdx,hdec⟩:=dec_dig s q c2 hdg
   have hps:q<(ByteArray.mk ⟨s⟩).size:=c2
   refine .sr ?_
   refine .e (Or.nextS 0 rfl rfl rfl hps hdec rfl (by decide) ?_)
   refine .x .et ?_
   refine .done (.seq (.tt rfl (.skip (.block (.sr ?_)))))
   refine .x .et ?_
   refine .g ?_
   refine .done (.r ?_)
   refine .m ?_
   refine .m ?_
   refine .c rfl rfl rfl rfl (fun H hs=> .f ca143 rfl (pulses_c M H x hdx)) ?_
   refine .c rfl rfl rfl rfl (fun H hs=> .f ca142 rfl (one_c M H (pn x:Nat))) ?_
   refine .m ?_
   refine .c rfl rfl rfl rfl (fun H hs=> .f ca142 rfl (one_c M H p)) ?_
   refine .x .bu ?_
   refine .e (.bs (zz:=fun bs=> ?_))
   refine .e (Or.append (E:=en) (g:=g) (m:=1) (new:= [.int .i64 (pn x:Nat),.int .i64 (pn x:Nat),.int .i64 p,.int .i64 p]) (yv:=.slice (some ⟨bs,0,none⟩) 1 1) 2 rfl rfl rfl rfl rfl rfl rfl rfl rfl rfl rfl rfl rfl rfl rfl (fun H hs=> SrcAt.of (hs.get (i:=0) rfl) (Nat.le_of_ble_eq_true rfl)) rfl (by omega) rfl (by decide) (fun g2 hn2 hl2=> ?_))
   refine .g ?_
   refine .done (.inBlock ?_)
   exact Tc.db (ih ⟨(q+1,g2),by simp only;omega,by simp only;omega,by simp only;rw[hl2,hgl,trainsL_snoc hx]⟩ (by simp only;omega))
end
end Go.Proofs.YtdnfdeplcjaonaaGreatDoor
end
section
namespace Go.Proofs.YtdnfdeplcjaonaaGreatDoor
open Go.RL
set_option maxRecDepth 10000
set_option maxHeartbeats 8000000
def one2(z:Int):Nat:=if z=2 then 0 else 1
def Bk.resTo(k:Bk):Nat→Nat
 | 0=> one2 (k.claimOf (-1))
 | j+1=> k.resTo j+one2 (k.claimOf (j:Nat))
theorem Bk.resTo_le(k:Bk):∀j,k.resTo j≤j+1
 | 0=> by unfold Bk.resTo one2;split <;> omega
 | j+1=> by
   have:=k.resTo_le j
   unfold Bk.resTo one2
   split <;> omega
def Bk.resN(k:Bk):Int:=if k.alarm=0 then(k.resTo k.nl:Nat) else -1
theorem cl_free(g:Gl 38 1){H:View}(h:∀x∈g.bl,H x.1=some x.2){f:Nat→Int}{n:Nat}(hl:g.l=clL f n):FreeAt H (g.blk.map fun b=> ⟨b,0,none⟩) g.n f:=by
 have hgl:=g.hl
 rw[hl,clL_len] at hgl
 cases hbb:g.blk with
 | none=>
   have:=g.h0 hbb
   have:=g.hc
   exact .inl (by omega)
 | some b=>
   have hbl:g.bl= [(b,true,.cells ⟨g.l++g.junk⟩ 38 (0,0))]:=by unfold Gl.bl;rw[hbb]
   refine .inr ⟨b,0,true,_,38,(0,0),rfl,h (b,true,.cells ⟨g.l++g.junk⟩ 38 (0,0)) (by rw[hbl];simp),fun j hj=> ?_⟩
   show(g.l++g.junk)[_]? =_
   have hjl:j<n:=by omega
   rw[Nat.zero_add,Int.toNat_natCast,Nat.mul_one,List.getElem?_append_left (by rw[hl,clL_len];exact hjl),hl]
   unfold clL
   rw[List.getElem?_map,List.getElem?_range hjl]
   rfl
section
variable(M:Md Tryz.prog)(H:View)
theorem lawResults_c(k:Bk)(A:Option Addr)(lc:Nat)(B:Option Addr)(tc:Nat)(hk:BkAt H k A lc B tc)(hn:k.small)(hG:Glob H):
   CallT M 46 #[k.val A lc B tc] H (fun v H'=> H.le H'∧v=.int .i64 k.resN):=by
 by_cases ha:k.alarm=0
 · have e:k.resN=(k.resTo k.nl:Nat):=if_pos ha
   rw[e]
   clear e
   have hnl:=hn.nl
   refine CallT.enter (vs:= [k.val A lc B tc]) Tryz.func46 rfl Tryz.ntmps46 (Nat.le_of_ble_eq_true rfl) (SymSt.nil _) fun St c cs hK=> ?_
   refine .sr ?_
   refine .e (.bx (zz:=fun b1=> ?_))
   refine .g ?_
   refine .done (.sr ?_)
   refine .x (.ld 0) ?_
   refine To.callF rfl rfl rfl rfl rfl rfl (by decide) (FnT.f ca26 rfl (Reaches_c M H k A lc B tc hk hn hG ha)) (fun v H₂ hv=> ?_)
   obtain⟨hle,g,rfl,⟨hgn,hgl⟩,hgb⟩:=hv
   have hF:=cl_free g (fun x hx=> (hgb x hx).1) hgl
   rw[hgn] at hF
   have hgv:g.val=.slice (g.blk.map fun b=> ⟨b,0,none⟩) k.nl g.cap:=by unfold Gl.val;rw[hgn]
   unfold reachV
   rw[hgv]
   generalize (g.blk.map fun b=> (⟨b,0,none⟩:Addr))=G at hF
   clear hgb hgv
   by_cases c0:k.claimOf (-1)=2
   all_goals have e0:k.resTo 0=one2 (k.claimOf (-1)):=rfl
   all_goals unfold one2 at e0
   · rw[if_pos c0] at e0
     refine .m ?_
     refine .x .et ?_
     refine .x .et ?_
     refine .x .et ?_
     refine .g ?_
     refine .g ?_
     refine .g ?_
     refine .done (.seq (.sr ?_))
     refine .m ?_
     refine .i ?_ (z:=neq_f (by omega))
     refine .m ?_
     refine .m ?_
     refine .x .ln ?_
     refine .x .fa ?_
     refine .x (.ld 0) ?_
     refine .x .ln ?_
     refine .i ?_ (z:=neq_f (by omega))
     refine .x .pk ?_
     refine .done (.ff rfl (.skip (.sr ?_)))
     refine .g ?_
     refine .done (.seq (.sr ?_))
     refine .m ?_
     refine .i ?_ (z:=neq_f (by omega))
     refine .done (.ff rfl (.skip (.seq (.sr ?_))))
     refine .g ?_
     refine .done (.block ?_)
     refine Tc.dropB (Tc.loopInv (σ:= { j:Nat//j≤k.nl }) (fun j=> ([(3,.slice G k.nl g.cap),(6,.int .i64 (k.resTo j.1:Nat)),(7,.int .i64 (j.1:Nat))],[])) (fun j=> k.nl-j.1) ?_ ⟨0,Nat.zero_le _⟩) (by rw[e0];refine⟨rfl,?_⟩;refine⟨rfl,?_⟩;refine⟨rfl,?_⟩;exact trivial) (by exact List.nil_sublist _)
     rintro⟨j,hj⟩ ih
     show Tc M St _ _ _ _ [(3,.slice G k.nl g.cap),(6,.int .i64 (k.resTo j:Nat)),(7,.int .i64 (j:Nat))] [] _ _
     have hjb:=k.resTo_le j
     by_cases c1:j=k.nl
     · clear ih
       subst c1
       refine .seq (.sr ?_)
       refine .m ?_
       refine .m ?_
       refine .x .ln ?_
       refine .i ?_ (z:=lss_f (by omega))
       refine .done (.ff rfl (.exit rfl (.sr ?_)))
       refine .m ?_
       refine .g ?_
       refine .done ?_
       refine .rt hK Tryz.func46 Tryz.results46 [_] ?_
       exact fun H' hs=> ⟨View.le_trans hle hs.base,rfl⟩
     · have c2:j<k.nl:=by omega
       obtain h0|⟨ab,ao,f,gs,gt,gz,rfl,hb,hl⟩:=hF
       · omega
       have f1:=hl j c2
       have e1:k.resTo (j+1)=k.resTo j+one2 (k.claimOf (j:Nat)):=rfl
       unfold one2 at e1
       by_cases c3:k.claimOf (j:Nat)=2
       · have e3:k.resTo j=k.resTo (j+1):=by rw[e1,if_pos c3];rfl
         rw[e3]
         refine .seq (.sr ?_)
         refine .m ?_
         refine .m ?_
         refine .x .ln ?_
         refine .i ?_ (z:=lss_t (by omega))
         refine .done (.tt rfl (.skip (.seq (.block (.sr ?_)))))
         refine .m ?_
         refine .m ?_
         refine .x .ia ?_
         refine .x .l0 ?_
         refine .i ?_ (z:=neq_f (by omega))
         refine .done (.ff rfl (.skip (.inBlock (.r ?_))))
         refine .m ?_
         refine .i ?_ (z:=add_in (by omega) (by omega))
         refine .g ?_
         refine .done ?_
         exact Tc.db (ih ⟨j+1,by omega⟩ (by simp only;omega))
       · rw[if_neg c3] at e1
         have e2:intBin .add .i64 (k.resTo j:Nat) 1=some (.int .i64 ((k.resTo (j+1):Nat):Int)):=by rw[add_in (by omega) (by omega),e1];rfl
         refine .seq (.sr ?_)
         refine .m ?_
         refine .m ?_
         refine .x .ln ?_
         refine .i ?_ (z:=lss_t (by omega))
         refine .done (.tt rfl (.skip (.seq (.block (.sr ?_)))))
         refine .m ?_
         refine .m ?_
         refine .x .ia ?_
         refine .x .l0 ?_
         refine .i ?_ (z:=neq_t (by omega))
         refine .done (.tt rfl (.r ?_))
         refine .m ?_
         refine .i ?_ (z:=by assumption)
         refine .g ?_
         refine .done (.inBlock (.r ?_))
         refine .m ?_
         refine .i ?_ (z:=add_in (by omega) (by omega))
         refine .g ?_
         refine .done ?_
         exact Tc.db (ih ⟨j+1,by omega⟩ (by simp only;omega))
   · rw[if_neg c0] at e0
     refine .m ?_
     refine .x .et ?_
     refine .x .et ?_
     refine .x .et ?_
     refine .g ?_
     refine .g ?_
     refine .g ?_
     refine .done (.seq (.sr ?_))
     refine .m ?_
     refine .i ?_ (z:=neq_f (by omega))
     refine .m ?_
     refine .m ?_
     refine .x .ln ?_
     refine .x .fa ?_
     refine .x (.ld 0) ?_
     refine .x .ln ?_
     refine .i ?_ (z:=neq_f (by omega))
     refine .x .pk ?_
     refine .done (.ff rfl (.skip (.sr ?_)))
     refine .g ?_
     refine .done (.seq (.sr ?_))
     refine .m ?_
     refine .i ?_ (z:=neq_t (by omega))
     refine .done (.tt rfl (.r ?_))
     refine .g ?_
     refine .done (.seq (.sr ?_))
     refine .g ?_
     refine .done (.block ?_)
     refine Tc.dropB (Tc.loopInv (σ:= { j:Nat//j≤k.nl }) (fun j=> ([(3,.slice G k.nl g.cap),(6,.int .i64 (k.resTo j.1:Nat)),(7,.int .i64 (j.1:Nat))],[])) (fun j=> k.nl-j.1) ?_ ⟨0,Nat.zero_le _⟩) (by rw[e0];refine⟨rfl,?_⟩;refine⟨rfl,?_⟩;refine⟨rfl,?_⟩;exact trivial) (by exact List.nil_sublist _)
     rintro⟨j,hj⟩ ih
     show Tc M St _ _ _ _ [(3,.slice G k.nl g.cap),(6,.int .i64 (k.resTo j:Nat)),(7,.int .i64 (j:Nat))] [] _ _
     have hjb:=k.resTo_le j
     by_cases c1:j=k.nl
     · clear ih
       subst c1
       refine .seq (.sr ?_)
       refine .m ?_
       refine .m ?_
       refine .x .ln ?_
       refine .i ?_ (z:=lss_f (by omega))
       refine .done (.ff rfl (.exit rfl (.sr ?_)))
       refine .m ?_
       refine .g ?_
       refine .done ?_
       refine .rt hK Tryz.func46 Tryz.results46 [_] ?_
       exact fun H' hs=> ⟨View.le_trans hle hs.base,rfl⟩
     · have c2:j<k.nl:=by omega
       obtain h0|⟨ab,ao,f,gs,gt,gz,rfl,hb,hl⟩:=hF
       · omega
       have f1:=hl j c2
       have e1:k.resTo (j+1)=k.resTo j+one2 (k.claimOf (j:Nat)):=rfl
       unfold one2 at e1
       by_cases c3:k.claimOf (j:Nat)=2
       · have e3:k.resTo j=k.resTo (j+1):=by rw[e1,if_pos c3];rfl
         rw[e3]
         refine .seq (.sr ?_)
         refine .m ?_
         refine .m ?_
         refine .x .ln ?_
         refine .i ?_ (z:=lss_t (by omega))
         refine .done (.tt rfl (.skip (.seq (.block (.sr ?_)))))
         refine .m ?_
         refine .m ?_
         refine .x .ia ?_
         refine .x .l0 ?_
         refine .i ?_ (z:=neq_f (by omega))
         refine .done (.ff rfl (.skip (.inBlock (.r ?_))))
         refine .m ?_
         refine .i ?_ (z:=add_in (by omega) (by omega))
         refine .g ?_
         refine .done ?_
         exact Tc.db (ih ⟨j+1,by omega⟩ (by simp only;omega))
       · rw[if_neg c3] at e1
         have e2:intBin .add .i64 (k.resTo j:Nat) 1=some (.int .i64 ((k.resTo (j+1):Nat):Int)):=by rw[add_in (by omega) (by omega),e1];rfl
         refine .seq (.sr ?_)
         refine .m ?_
         refine .m ?_
         refine .x .ln ?_
         refine .i ?_ (z:=lss_t (by omega))
         refine .done (.tt rfl (.skip (.seq (.block (.sr ?_)))))
         refine .m ?_
         refine .m ?_
         refine .x .ia ?_
         refine .x .l0 ?_
         refine .i ?_ (z:=neq_t (by omega))
         refine .done (.tt rfl (.r ?_))
         refine .m ?_
         refine .i ?_ (z:=by assumption)
         refine .g ?_
         refine .done (.inBlock (.r ?_))
         refine .m ?_
         refine .i ?_ (z:=add_in (by omega) (by omega))
         refine .g ?_
         refine .done ?_
         exact Tc.db (ih ⟨j+1,by omega⟩ (by simp only;omega))
 · have e:k.resN= -1:=if_neg ha
   rw[e]
   refine CallT.enter (vs:= [k.val A lc B tc]) Tryz.func46 rfl Tryz.ntmps46 (Nat.le_of_ble_eq_true rfl) (SymSt.nil _) fun St c cs hK=> ?_
   refine .sr ?_
   refine .e (.bx (zz:=fun b1=> ?_))
   refine .g ?_
   refine .done (.sr ?_)
   refine .x (.ld 0) ?_
   refine .c rfl rfl rfl rfl (fun H hs=> .f ca26 rfl (Reaches_no M H k A lc B tc (hk.le hs.base) hn (glob_le hG hs.base) ha)) ?_
   refine .m ?_
   refine .x .et ?_
   refine .x .et ?_
   refine .x .et ?_
   refine .g ?_
   refine .g ?_
   refine .g ?_
   refine .done (.seq (.sr ?_))
   refine .m ?_
   refine .i ?_ (z:=neq_t (by omega))
   refine .m ?_
   refine .sk ?_
   refine .sk ?_
   refine .sk ?_
   refine .sk ?_
   refine .sk ?_
   refine .sk ?_
   refine .x .pk ?_
   refine .done (.tt rfl (.sr ?_))
   refine .g ?_
   refine .done ?_
   refine .rt hK Tryz.func46 Tryz.results46 [_] ?_
   exact fun H' hs=> ⟨hs.base,rfl⟩
end
end Go.Proofs.YtdnfdeplcjaonaaGreatDoor
end
section
namespace Go.Proofs.YtdnfdeplcjaonaaGreatDoor
open Go.RL
set_option maxRecDepth 10000
def allRes:Nat→List Int
 | 0=> [-1]
 | n+1=> allRes n++[((n:Nat):Int)]
theorem mem_allRes {z:Int}:∀n,z∈allRes n↔ -1≤z∧z<(n:Nat)
 | 0=> by
   unfold allRes
   rw[List.mem_singleton]
   omega
 | n+1=> by
   unfold allRes
   rw[List.mem_append,List.mem_singleton,mem_allRes n]
   omega
theorem allRes_nodup:∀n,(allRes n).Nodup
 | 0=> by unfold allRes;simp
 | n+1=> by
   unfold allRes
   refine List.nodup_append.2 ⟨allRes_nodup n,by simp,fun a ha b hb e=> ?_⟩
   rw[List.mem_singleton] at hb
   have:=(mem_allRes n).1 ha
   omega
theorem claim_one(k:Bk)(z:Int):one2 (k.claimOf z)=if decide (z∈k.resL)=true then 1 else 0:=by
 unfold one2 Bk.claimOf
 by_cases h:z∈k.resL
 · rw[if_pos h,if_pos (decide_eq_true h)]
   by_cases h2:k.resL.length=1
   · rw[if_pos h2];rfl
   · rw[if_neg h2];rfl
 · rw[if_neg h,if_pos rfl,if_neg (by simpa using h)]
theorem res_filter(k:Bk):∀n,k.resTo n=((allRes n).filter fun z=> decide (z∈k.resL)).length
 | 0=> by
   unfold Bk.resTo allRes
   rw[claim_one]
   by_cases h:(-1:Int)∈k.resL
   · simp[h]
   · simp[h]
 | n+1=> by
   unfold Bk.resTo allRes
   rw[claim_one,res_filter k n,List.filter_append,List.length_append]
   by_cases h:((n:Nat):Int)∈k.resL
   · simp[h]
   · simp[h]
theorem firstTo_in {p:Nat→Bool}:∀n {i:Nat},firstTo p n=some i→i<n
 | 0,_,h=> by cases h
 | n + 1,i,h=> by
   rw[firstTo] at h
   cases e:firstTo p n with
   | some j=>
     rw[e] at h
     have:=firstTo_in n e
     cases h
     omega
   | none=>
     rw[e] at h
     by_cases hp:p n=true
     · rw[if_pos hp] at h
       cases h
       omega
     · rw[if_neg hp] at h
       cases h
theorem resL_in(k:Bk){z:Int}(h:z∈k.resL): -1≤z∧z<(k.nl:Nat):=by
 unfold Bk.resL at h
 rw[mem_distinct,List.mem_map] at h
 obtain⟨e,_,rfl⟩:=h
 cases hl:k.line e.heard with
 | none=> exact⟨Int.le_refl _,by show(-1:Int)<_;omega⟩
 | some i=>
   have:=firstTo_in _ hl
   show -1≤((i:Nat):Int)∧((i:Nat):Int)<_
   omega
theorem resTo_len(k:Bk):k.resTo k.nl=k.resL.length:=by
 rw[res_filter]
 refine List.Perm.length_eq ((List.perm_ext_iff_of_nodup ((allRes_nodup _).filter _) (distinct_nodup _)).2 fun z=> ?_)
 rw[List.mem_filter,mem_allRes,decide_eq_true_eq]
 exact⟨fun h=> h.2,fun h=> ⟨resL_in k h,h⟩⟩
end Go.Proofs.YtdnfdeplcjaonaaGreatDoor
end
section
namespace Go.Proofs.YtdnfdeplcjaonaaGreatDoor
open Go.RL
set_option maxRecDepth 10000
set_option maxHeartbeats 16000000
section
variable(M:Md Tryz.prog)(H:View)
theorem Lesser_eq(A B:Option Addr)(n ac bc:Nat)(x y:Nat→Int)(hA:FreeAt H A n x)(hB:FreeAt H B n y)(hn:n≤1000000)(he:∀i,i<n→x i=y i):
   CallT M 134 #[.slice A n ac,.slice B n bc] H (fun v H'=> H.le H'∧v=.bool false):=by
 refine CallT.enter (vs:= [.slice A n ac,.slice B n bc]) Tryz.func134 rfl Tryz.ntmps134 (Nat.le_of_ble_eq_true rfl) (SymSt.nil _) fun St c cs hK=> ?_
 refine .sr ?_
 refine .g ?_
 refine .done (.seq (.sr ?_))
 refine .g ?_
 refine .done (.block ?_)
 refine Tc.db (Tc.loopInv (σ:= { j:Nat//j≤n }) (fun j=> ([(0,.slice A n ac),(1,.slice B n bc),(5,.int .i64 (j.1:Nat))],[])) (fun j=> n-j.1) ?_ ⟨0,Nat.zero_le _⟩)
 rintro⟨j,hj⟩ ih
 show Tc M St _ _ _ _ [(0,.slice A n ac),(1,.slice B n bc),(5,.int .i64 (j:Nat))] [] _ _
 by_cases c1:j=n
 · subst c1
   refine .seq (.sr ?_)
   refine .m ?_
   refine .m ?_
   refine .x .ln ?_
   refine .i ?_ (z:=lss_f (by omega))
   refine .m ?_
   refine .sk ?_
   refine .sk ?_
   refine .sk ?_
   refine .sk ?_
   refine .x .pk ?_
   refine .done (.ff rfl (.exit rfl (.sr ?_)))
   refine .m ?_
   refine .x .ln ?_
   refine .m ?_
   refine .x .ln ?_
   refine .i ?_ (z:=lss_f (by omega))
   refine .g ?_
   refine .done ?_
   refine .rt hK Tryz.func134 Tryz.results134 [_] ?_
   exact fun H' hs=> ⟨hs.base,rfl⟩
 · have c2:j<n:=by omega
   obtain h0|⟨ab,ao,fa,gs,gt,gz,rfl,hab,hal⟩:=hA
   · omega
   obtain h0|⟨bb,bo,fb,ks,kt,kz,rfl,hbb,hbl⟩:=hB
   · omega
   have f1:=hal j c2
   have f2:=hbl j c2
   have f3:=he j c2
   refine .seq (.sr ?_)
   refine .m ?_
   refine .m ?_
   refine .x .ln ?_
   refine .i ?_ (z:=lss_t (by omega))
   refine .m ?_
   refine .m ?_
   refine .m ?_
   refine .x .ln ?_
   refine .i ?_ (z:=lss_t (by omega))
   refine .x .pk ?_
   refine .done (.tt rfl (.skip (.seq (.block (.seq ?_)))))
   refine Tc.dr [] [] mixed rfl ?_
   refine .q 0 rfl .mv ?_
   refine .q 1 rfl .mv ?_
   refine .q 2 rfl .ia ?_
   refine .q 3 rfl .l0 ?_
   refine .q 4 rfl .mv ?_
   refine .q 5 rfl .mv ?_
   refine .q 6 rfl .ia ?_
   refine .q 7 rfl .l0 ?_
   refine .q 8 rfl (.it (zz:=neq_f (by omega))) ?_
   refine Ta.done (by kernel_rfl) ?_
   refine .ff rfl (.skip (.inBlock (.r ?_)))
   refine .m ?_
   refine .i ?_ (z:=add_in (by omega) (by omega))
   refine .g ?_
   refine .done ?_
   exact Tc.db (ih ⟨j+1,by omega⟩ (by simp only;omega))
theorem SameNums_eq(A B:Option Addr)(n ac bc:Nat)(x y:Nat→Int)(hA:FreeAt H A n x)(hB:FreeAt H B n y)(hn:n≤1000000)(he:∀i,i<n→x i=y i):
   CallT M 62 #[.slice A n ac,.slice B n bc] H (fun v H'=> H.le H'∧v=.bool true):=by
 refine CallT.enter (vs:= [.slice A n ac,.slice B n bc]) Tryz.func62 rfl Tryz.ntmps62 (Nat.le_of_ble_eq_true rfl) (SymSt.nil _) fun St c cs hK=> ?_
 refine .sr ?_
 refine .g ?_
 refine .done (.sr ?_)
 refine .m ?_
 refine .m ?_
 refine .c rfl rfl rfl rfl (fun H hs=> .f ca134 rfl (Lesser_eq M H A B n ac bc x y (hA.le hs.base) (hB.le hs.base) hn he)) ?_
 refine .x .nt ?_
 refine .m ?_
 refine .m ?_
 refine .m ?_
 refine .c rfl rfl rfl rfl (fun H hs=> .f ca134 rfl (Lesser_eq M H B A n bc ac y x (hB.le hs.base) (hA.le hs.base) hn (fun i hi=> (he i hi).symm))) ?_
 refine .x .nt ?_
 refine .x .pk ?_
 refine .g ?_
 refine .done ?_
 refine .rt hK Tryz.func62 Tryz.results62 [_] ?_
 exact fun H' hs=> ⟨hs.base,rfl⟩
theorem to_c(a b:Int):CallT M 74 #[.int .i64 a,.int .i64 b] H (fun v H'=> H.le H'∧v=bandV a b):=by
 refine CallT.enter (vs:= [.int .i64 a,.int .i64 b]) Tryz.func74 rfl Tryz.ntmps74 (Nat.le_of_ble_eq_true rfl) (SymSt.nil _) fun St c cs hK=> ?_
 refine .sr ?_
 refine .e (.al (zz:=fun b4=> ?_))
 refine .done (.sr ?_)
 refine .m ?_
 refine .m ?_
 refine .x .bu ?_
 refine .e (.st 0 (zz:=?_))
 refine .done ?_
 refine Tc.retN (E:=en) hK Tryz.func74 Tryz.results74 (vs:= [_]) (by refine⟨⟨0,_,_,_,_,_,_,_,rfl,rfl,rfl,rfl⟩,?_⟩;exact trivial) ?_
 exact fun H' hs=> ⟨hs.base,rfl⟩
theorem train_c(p q:Int):CallT M 79 #[.int .i64 p,.int .i64 q] H (fun v H'=> H.le H'∧v=trainV p p q q):=by
 refine CallT.enter (vs:= [.int .i64 p,.int .i64 q]) Tryz.func79 rfl Tryz.ntmps79 (Nat.le_of_ble_eq_true rfl) (SymSt.nil _) fun St c cs hK=> ?_
 refine .sr ?_
 refine .e (.al (zz:=fun b4=> ?_))
 refine .done (.sr ?_)
 refine .m ?_
 refine .m ?_
 refine .c rfl rfl rfl rfl (fun H hs=> .f ca74 rfl (to_c M H p p)) ?_
 refine .m ?_
 refine .m ?_
 refine .c rfl rfl rfl rfl (fun H hs=> .f ca74 rfl (to_c M H q q)) ?_
 refine .x .bu ?_
 refine .e (.st 0 (zz:=?_))
 refine .done ?_
 refine Tc.retN (E:=en) hK Tryz.func79 Tryz.results79 (vs:= [_]) (by refine⟨⟨0,_,_,_,_,_,_,_,rfl,rfl,rfl,rfl⟩,?_⟩;exact trivial) ?_
 exact fun H' hs=> ⟨hs.base,rfl⟩
end
def exName(i:Nat):List UInt8:= [[97,110,110],[98,111,98],[101,118,101]][i]?.getD []
def exNum(i:Nat):List UInt8:= [[49,50],[49,51],[50]][i]?.getD []
def exNf(i:Nat):Nat:= [1,2,1][i]?.getD 0
def exFree(i j:Nat):Int:=([[1],[2,1],[0]][i]?.getD [])[j]?.getD 0
def exAt(l:List Int)(i:Nat):Int:=l[i]?.getD 0
def bkD:Bk:=⟨5,20,3,exName,exNum,exNf,exFree,2,exAt [1,2],exAt [1,3],exAt [8,6],exAt [8,6]⟩
def bkE:Bk:=⟨5,20,3,exName,exNum,exNf,exFree,3,exAt [1,1,2],exAt [1,1,2],exAt [3,9,9],exAt [6,9,9]⟩
def bkO:Bk:=bkD.now 1 2 2 6 6
def exF(b0 b1 b2:Nat)(i:Nat):Option Addr:=match i with
 | 0=> some ⟨b0,0,none⟩
 | 1=> some ⟨b1,0,none⟩
 | _=> some ⟨b2,0,none⟩
structure LinesAt(H:View)(bl b0 b1 b2:Nat):Prop where
 h:∃f gt gz,H bl=some (f,.cells ⟨[strV [97,110,110],strV [49,50],.slice (some ⟨b0,0,none⟩) 1 1,strV [98,111,98],strV [49,51],.slice (some ⟨b1,0,none⟩) 2 2,strV [101,118,101],strV [50],.slice (some ⟨b2,0,none⟩) 1 1]⟩ gt gz)
 h0:∃f gt gz,H b0=some (f,.cells ⟨[.int .i64 1]⟩ gt gz)
 h1:∃f gt gz,H b1=some (f,.cells ⟨[.int .i64 2,.int .i64 1]⟩ gt gz)
 h2:∃f gt gz,H b2=some (f,.cells ⟨[.int .i64 0]⟩ gt gz)
theorem LinesAt.le {H H':View}{bl b0 b1 b2:Nat}(h:LinesAt H bl b0 b1 b2)(k:H.le H'):LinesAt H' bl b0 b1 b2:=
 ⟨h.h.imp fun _ ⟨gt,gz,e⟩=> ⟨gt,gz,k _ _ e⟩,h.h0.imp fun _ ⟨gt,gz,e⟩=> ⟨gt,gz,k _ _ e⟩,h.h1.imp fun _ ⟨gt,gz,e⟩=> ⟨gt,gz,k _ _ e⟩,h.h2.imp fun _ ⟨gt,gz,e⟩=> ⟨gt,gz,k _ _ e⟩⟩
theorem src_of_cells {H:View}{sz m c b:Nat}{f:Bool}{cs:List Value}{e:TypeId}{fz:Nat×Nat}(hb:H b=some (f,.cells ⟨cs⟩ e fz))(h:cs.length=m*sz):SrcAt H sz (.slice (some ⟨b,0,none⟩) m c) m cs:=
 ⟨⟨_,_,rfl⟩,h,.inr ⟨b,0,c,f,cs,e,fz,rfl,hb,by simp,by simp⟩⟩
theorem ex_book {H:View}{k:Bk}{bl b0 b1 b2 bt:Nat}(hl:LinesAt H bl b0 b1 b2)(hn:k.nl=3)(hname:k.name=exName)(hnum:k.num=exNum)(hnf:k.nf=exNf)(hfr:k.free=exFree){f:Bool}{gt:TypeId}{gz:Nat×Nat}(ht:H bt=some (f,.cells ⟨flatR k.nt (trainL k)⟩ gt gz)):
   BookAt H k (some ⟨bl,0,none⟩) 3 (some ⟨bt,0,none⟩) k.nt (exF b0 b1 b2) exNf:=by
 obtain⟨⟨f1,t1,z1,g1⟩,⟨f2,t2,z2,g2⟩,⟨f3,t3,z3,g3⟩,⟨f4,t4,z4,g4⟩⟩:=hl
 refine⟨by omega,Nat.le_refl _,?_,src_of_cells ht (flatR_len (f:=trainL k) (sz:=4) (fun _=> rfl) k.nt),fun i hi=> by rw[hnf];exact Nat.le_refl _,fun i hi=> ?_⟩
 · rw[hn]
   have e:flatR 3 (rowL k (exF b0 b1 b2) exNf)= [strV [97,110,110],strV [49,50],.slice (some ⟨b0,0,none⟩) 1 1,strV [98,111,98],strV [49,51],.slice (some ⟨b1,0,none⟩) 2 2,strV [101,118,101],strV [50],.slice (some ⟨b2,0,none⟩) 1 1]:=by
     unfold rowL
     rw[hname,hnum,hnf]
     rfl
   rw[e]
   exact src_of_cells g1 rfl
 · rw[hn] at hi
   rw[hnf,hfr]
   rcases(by omega:i=0∨i=1∨i=2) with rfl|rfl|rfl
   · exact src_of_cells g2 rfl
   · exact src_of_cells g3 rfl
   · exact src_of_cells g4 rfl
section
variable(M:Md Tryz.prog)(H:View)
theorem lines_ex:CallT M 149 #[] H (fun v H'=> H.le H'∧∃bl b0 b1 b2,v=.slice (some ⟨bl,0,none⟩) 3 3∧LinesAt H' bl b0 b1 b2):=by
 refine CallT.enter (vs:= []) Tryz.func149 rfl Tryz.ntmps149 (Nat.le_of_ble_eq_true rfl) (SymSt.nil _) fun St c cs hK=> ?_
 refine .sr ?_
 refine .g ?_
 refine .done (.sr ?_)
 refine .e (.bs (zz:=fun b0=> ?_))
 refine .x .bu ?_
 refine .e (.bs (zz:=fun b1=> ?_))
 refine .x .bu ?_
 refine .e (.bs (zz:=fun b2=> ?_))
 refine .x .bu ?_
 refine .e (.bs (zz:=fun bl=> ?_))
 refine .g ?_
 refine .done ?_
 refine .rt hK Tryz.func149 Tryz.results149 [_] ?_
 exact fun H' hs=> ⟨hs.base,bl,b0,b1,b2,rfl,⟨_,_,_,hs.get (i:=0) rfl⟩,⟨_,_,_,hs.get (i:=3) rfl⟩,⟨_,_,_,hs.get (i:=2) rfl⟩,⟨_,_,_,hs.get (i:=1) rfl⟩⟩
theorem Example_c:CallT M 77 #[] H (fun v H'=> H.le H'∧∃A lc B tc F fc,v=bkD.val A lc B tc∧BookAt H' bkD A lc B tc F fc):=by
 refine CallT.enter (vs:= []) Tryz.func77 rfl Tryz.ntmps77 (Nat.le_of_ble_eq_true rfl) (SymSt.nil _) fun St c cs hK=> ?_
 refine .sr ?_
 refine .e (.al (zz:=fun b0=> ?_))
 refine .done (.sr ?_)
 refine To.callF rfl rfl rfl rfl rfl rfl (by decide) (FnT.f ca149 rfl (lines_ex M H)) (fun v H₁ hv=> ?_)
 obtain⟨hle,bl,c0,c1,c2,rfl,hl⟩:=hv
 refine .c rfl rfl rfl rfl (fun H hs=> .f ca79 rfl (train_c M H 1 8)) ?_
 refine .c rfl rfl rfl rfl (fun H hs=> .f ca74 rfl (to_c M H 2 3)) ?_
 refine .c rfl rfl rfl rfl (fun H hs=> .f ca74 rfl (to_c M H 6 6)) ?_
 refine .x .bu ?_
 refine .e (.bs (zz:=fun bt=> ?_))
 refine .x .bu ?_
 refine .e (.st 1 (zz:=?_))
 refine .done ?_
 refine Tc.retN (E:=en) hK Tryz.func77 Tryz.results77 (vs:= [_]) (by refine⟨⟨1,_,_,_,_,_,_,_,rfl,rfl,rfl,rfl⟩,?_⟩;exact trivial) ?_
 exact fun H' hs=> ⟨View.le_trans hle hs.base,_,_,some ⟨bt,0,none⟩,_,_,_,rfl,ex_book (hl.le hs.base) rfl rfl rfl rfl rfl (hs.get (i:=0) rfl)⟩
theorem joined_c:CallT M 78 #[] H (fun v H'=> H.le H'∧∃A lc B tc F fc,v=bkE.val A lc B tc∧BookAt H' bkE A lc B tc F fc):=by
 refine CallT.enter (vs:= []) Tryz.func78 rfl Tryz.ntmps78 (Nat.le_of_ble_eq_true rfl) (SymSt.nil _) fun St c cs hK=> ?_
 refine .sr ?_
 refine .e (.al (zz:=fun b0=> ?_))
 refine .done (.sr ?_)
 refine To.callF rfl rfl rfl rfl rfl rfl (by decide) (FnT.f ca149 rfl (lines_ex M H)) (fun v H₁ hv=> ?_)
 obtain⟨hle,bl,c0,c1,c2,rfl,hl⟩:=hv
 refine .c rfl rfl rfl rfl (fun H hs=> .f ca74 rfl (to_c M H 1 1)) ?_
 refine .c rfl rfl rfl rfl (fun H hs=> .f ca74 rfl (to_c M H 3 6)) ?_
 refine .x .bu ?_
 refine .c rfl rfl rfl rfl (fun H hs=> .f ca79 rfl (train_c M H 1 9)) ?_
 refine .c rfl rfl rfl rfl (fun H hs=> .f ca79 rfl (train_c M H 2 9)) ?_
 refine .e (.bs (zz:=fun bt=> ?_))
 refine .x .bu ?_
 refine .e (.st 1 (zz:=?_))
 refine .done ?_
 refine Tc.retN (E:=en) hK Tryz.func78 Tryz.results78 (vs:= [_]) (by refine⟨⟨1,_,_,_,_,_,_,_,rfl,rfl,rfl,rfl⟩,?_⟩;exact trivial) ?_
 exact fun H' hs=> ⟨View.le_trans hle hs.base,_,_,some ⟨bt,0,none⟩,_,_,_,rfl,ex_book (hl.le hs.base) rfl rfl rfl rfl rfl (hs.get (i:=0) rfl)⟩
end
theorem bkD_al:bkD.alarm=0:=by decide +kernel
theorem bkE_al:bkE.alarm=0:=by decide +kernel
theorem bkO_al:bkO.alarm=0:=by decide +kernel
theorem ex_small {k:Bk}(hn:k.nl=3)(ht:k.nt≤1000)(hnum:k.num=exNum)(hnf:k.nf=exNf):k.small:=⟨by omega,ht,fun i hi=> by
 rw[hn] at hi
 rw[hnum,hnf]
 rcases(by omega:i=0∨i=1∨i=2) with rfl|rfl|rfl <;> decide⟩
end Go.Proofs.YtdnfdeplcjaonaaGreatDoor
end
section
namespace Go.Proofs.YtdnfdeplcjaonaaGreatDoor
open Go.RL
set_option maxRecDepth 10000
set_option maxHeartbeats 8000000
def Bk.kindB(k:Bk)(i:Nat):Int×Int:=if i=0 then(0,k.gap-1) else if i=1 then(k.gap,k.give-1) else(k.give,99)
def iMax(a x:Int):Int:=if a<x then x else a
def iMin(b y:Int):Int:=if y<b then y else b
def Bk.partX(k:Bk)(t i:Nat):Int×Int:=(iMax (k.qf t) (k.kindB i).1,iMin (k.qt t) (k.kindB i).2)
def Bk.part1(k:Bk)(t:Nat)(b:Int)(i:Nat):List (Int×Int×Int×Int):=if(k.partX t i).1≤(k.partX t i).2 then [(b,b,(k.partX t i).1,(k.partX t i).2)] else []
def Bk.partB(k:Bk)(t:Nat)(b:Int):Nat→List (Int×Int×Int×Int)
 | 0=> []
 | i+1=> k.partB t b i++k.part1 t b i
def Bk.partsTo(k:Bk)(t:Nat):Nat→List (Int×Int×Int×Int)
 | 0=> []
 | j+1=> k.partsTo t j++k.partB t (k.pf t+(j:Nat)) 3
def quadV(x:Int×Int×Int×Int):List Value:= [.int .i64 x.1,.int .i64 x.2.1,.int .i64 x.2.2.1,.int .i64 x.2.2.2]
def quadsV(l:List (Int×Int×Int×Int)):List Value:=l.flatMap quadV
theorem quadsV_app(l m:List (Int×Int×Int×Int)):quadsV (l++m)=quadsV l++quadsV m:=by unfold quadsV;rw[List.flatMap_append]
theorem partB_le(k:Bk)(t:Nat)(b:Int):∀i,(k.partB t b i).length≤i
 | 0=> Nat.le_refl _
 | i+1=> by
   have:=partB_le k t b i
   unfold Bk.partB Bk.part1
   rw[List.length_append]
   split <;> simp <;> omega
theorem partsTo_le(k:Bk)(t:Nat):∀j,(k.partsTo t j).length≤3*j
 | 0=> Nat.le_refl _
 | j+1=> by
   have:=partsTo_le k t j
   have:=partB_le k t (k.pf t+(j:Nat)) 3
   unfold Bk.partsTo
   rw[List.length_append]
   omega
section
variable(M:Md Tryz.prog)(H:View)
theorem BothR_c(a b x y p q:Int)(hp:(if a<x then x else a)=p)(hq:(if y<b then y else b)=q):CallT M 112 #[bandV a b,bandV x y] H (fun v H'=> H.le H'∧v=bandV p q):=by
 refine CallT.enter (vs:= [bandV a b,bandV x y]) Tryz.func112 rfl Tryz.ntmps112 (Nat.le_of_ble_eq_true rfl) (SymSt.nil _) fun St c cs hK=> ?_
 refine .sr ?_
 refine .e (.bx (zz:=fun b1=> ?_))
 refine .e (.bx (zz:=fun b2=> ?_))
 refine .e (.al (zz:=fun b3=> ?_))
 refine .done (.sr ?_)
 refine .x .fa ?_
 refine .x (.ld 2) ?_
 refine .x .fa ?_
 refine .x (.ld 1) ?_
 refine .x (OpV.max rfl rfl rfl rfl rfl rfl (by assumption)) ?_
 refine .x .fa ?_
 refine .x (.ld 2) ?_
 refine .x .fa ?_
 refine .x (.ld 1) ?_
 refine .x (OpV.min rfl rfl rfl rfl rfl rfl (by assumption)) ?_
 refine .x .bu ?_
 refine .e (.st 0 (zz:=?_))
 refine .done ?_
 refine Tc.retN (E:=en) hK Tryz.func112 Tryz.results112 (vs:= [_]) (by refine⟨⟨0,_,_,_,_,_,_,_,rfl,rfl,rfl,rfl⟩,?_⟩;exact trivial) ?_
 exact fun H' hs=> ⟨hs.base,rfl⟩
theorem parts_c(k:Bk)(A:Option Addr)(lc:Nat)(B:Option Addr)(tc:Nat)(hT:TrainsAt H k B tc)(ha:k.alarm=0)(t:Nat)(ht:t<k.nt):
   CallT M 115 #[k.val A lc B tc,.int .i64 (t:Nat)] H (fun v H'=> H.le H'∧∃g:Gl 47 4,v=g.val∧(g.n=(k.partsTo t (k.pt t-k.pf t+1).toNat).length∧g.l=quadsV (k.partsTo t (k.pt t-k.pf t+1).toNat))∧∀x∈g.bl,H' x.1=some x.2∧H x.1=none):=by
 obtain⟨hgg,_,hnt,hok⟩:=Bk.valid ha
 have hx:=hok t ht
 obtain⟨htc,h0|⟨tb,to,f,gs,gt,gz,rfl,hb,hl⟩⟩:=hT
 · omega
 have f1:=hl t ht
 refine CallT.enter (vs:= [k.val A lc (some ⟨tb,to,none⟩) tc,.int .i64 (t:Nat)]) Tryz.func115 rfl Tryz.ntmps115 (Nat.le_of_ble_eq_true rfl) (SymSt.nil _) fun St c cs hK=> ?_
 refine .sr ?_
 refine .e (.bx (zz:=fun b2=> ?_))
 refine .g ?_
 refine .done (.sr ?_)
 refine .x .fa ?_
 refine .x (.ld 0) ?_
 refine .m ?_
 refine .x .ia ?_
 refine .x .l0 ?_
 refine .e (.al (zz:=fun b5=> ?_))
 refine .e (.st 0 (zz:=?_))
 refine .done (.seq ?_)
 refine Tc.dr [] [] mixed rfl ?_
 refine .q 0 rfl .fa ?_
 refine .q 1 rfl (.ld 1) ?_
 refine .q 2 rfl (.it (zz:=sub_in (by omega) (by omega))) ?_
 refine .z 3 rfl (OpV.takeCall rfl rfl rfl rfl (fun H hs=> .f ca74 rfl (to_c M H 0 (k.gap-1)))) ?_
 refine .q 4 rfl .fa ?_
 refine .q 5 rfl (.ld 1) ?_
 refine .q 6 rfl .fa ?_
 refine .q 7 rfl (.ld 1) ?_
 refine .q 8 rfl (.it (zz:=sub_in (by omega) (by omega))) ?_
 refine .z 9 rfl (OpV.takeCall rfl rfl rfl rfl (fun H hs=> .f ca74 rfl (to_c M H k.gap (k.give-1)))) ?_
 refine .q 10 rfl .fa ?_
 refine .q 11 rfl (.ld 1) ?_
 refine .z 12 rfl (OpV.takeCall rfl rfl rfl rfl (fun H hs=> .f ca74 rfl (to_c M H k.give 99))) ?_
 refine Ta.each [13] (by kernel_rfl) rfl ⟨TaOp.mk rfl rfl rfl (.bs (zz:=fun b6=> ⟨S2.mk (by apply List.Sublist.cons;exact List.Sublist.refl _) (.inr (by apply List.Sublist.cons;exact List.Sublist.refl _)),?_⟩)),trivial⟩
 refine .q 14 rfl .sg ?_
 refine Ta.done (by kernel_rfl) ?_
 refine .sr ?_
 refine .g ?_
 refine .done (.seq (.sr ?_))
 refine .x .fa ?_
 refine .x .fa ?_
 refine .x (.ld 1) ?_
 refine .g ?_
 refine .done (.block ?_)
 have hok1:1≤k.pf t∧k.pf t≤k.pt t∧k.pt t≤12:=by
   unfold trainOk at hx
   simp only[Bool.and_eq_true,decide_eq_true_eq] at hx
   exact hx.1.1
 obtain⟨m,hm⟩:∃m:Nat,k.pt t-k.pf t+1=(m:Nat):=⟨(k.pt t-k.pf t+1).toNat,by omega⟩
 rw[hm,Int.toNat_natCast] at hK
 refine Tc.dropB (Tc.loopInv (σ:= { x:Nat×Gl 47 4//x.1≤m∧x.2.n=(k.partsTo t x.1).length∧x.2.l=quadsV (k.partsTo t x.1) }) (fun x=> ([(2,.pointer (some ⟨b2,0,none⟩)),(5,.pointer (some ⟨b5,0,none⟩)),(6,.slice (some ⟨b6,0,none⟩) 3 3),(7,x.1.2.val),(8,.int .i64 (k.pf t+(x.1.1:Nat)))],[(b6,true,.cells ⟨[.int .i64 0,.int .i64 (k.gap-1),.int .i64 k.gap,.int .i64 (k.give-1),.int .i64 k.give,.int .i64 99]⟩ 45 (0,0)),(b5,true,.cells ⟨[.int .i64 (k.pf t),.int .i64 (k.pt t),.int .i64 (k.qf t),.int .i64 (k.qt t)]⟩ 47 (0,0)),(b2,true,.cells ⟨(k.val A lc (some ⟨tb,to,none⟩) tc).cells.toList⟩ 25 (0,0))]++x.1.2.bl)) (fun x=> m-x.1.1) ?_ ⟨(0,Gl.nil 47 4),Nat.zero_le _,rfl,rfl⟩) (by rw[show k.pf t+((0:Nat):Int)=k.pf t by omega];refine⟨rfl,?_⟩;refine⟨rfl,?_⟩;refine⟨rfl,?_⟩;refine⟨rfl,?_⟩;refine⟨rfl,?_⟩;exact trivial) (by exact List.Sublist.refl _)
 rintro⟨⟨j,g⟩,hj,hgn,hgl⟩ ih
 simp only at hj hgn hgl
 show Tc M St _ _ _ _ [(2,.pointer (some ⟨b2,0,none⟩)),(5,.pointer (some ⟨b5,0,none⟩)),(6,.slice (some ⟨b6,0,none⟩) 3 3),(7,g.val),(8,.int .i64 (k.pf t+(j:Nat)))] ([(b6,true,.cells ⟨[.int .i64 0,.int .i64 (k.gap-1),.int .i64 k.gap,.int .i64 (k.give-1),.int .i64 k.give,.int .i64 99]⟩ 45 (0,0)),(b5,true,.cells ⟨[.int .i64 (k.pf t),.int .i64 (k.pt t),.int .i64 (k.qf t),.int .i64 (k.qt t)]⟩ 47 (0,0)),(b2,true,.cells ⟨(k.val A lc (some ⟨tb,to,none⟩) tc).cells.toList⟩ 25 (0,0))]++g.bl) _ _
 have hpl:=partsTo_le k t j
 by_cases c1:j=m
 · clear ih
   subst c1
   refine .seq (.sr ?_)
   refine .m ?_
   refine .x .fa ?_
   refine .x .fa ?_
   refine .x (.ld 1) ?_
   refine .i ?_ (z:=leq_f (by omega))
   refine .done (.ff rfl (.exit rfl (.sr ?_)))
   refine .m ?_
   refine .g ?_
   refine .done ?_
   refine .rt hK Tryz.func115 Tryz.results115 [_] ?_
   exact fun H' hs=> ⟨hs.base,g,rfl,⟨hgn,hgl⟩,fun x hx=> ⟨hs.at_ x (by simp[hx]),hs.out x (by simp[hx])⟩⟩
 · have c2:j<m:=by omega
   refine .seq (.sr ?_)
   refine .m ?_
   refine .x .fa ?_
   refine .x .fa ?_
   refine .x (.ld 1) ?_
   refine .i ?_ (z:=leq_t (by omega))
   refine .done (.tt rfl (.skip (.seq (.block (.sr ?_)))))
   refine .g ?_
   refine .done (.block ?_)
   refine Tc.db (Tc.loopInv (σ:= { x:Nat×Gl 47 4//x.1≤3∧x.2.n=(k.partsTo t j++k.partB t (k.pf t+(j:Nat)) x.1).length∧x.2.l=quadsV (k.partsTo t j++k.partB t (k.pf t+(j:Nat)) x.1) }) (fun x=> ([(2,.pointer (some ⟨b2,0,none⟩)),(5,.pointer (some ⟨b5,0,none⟩)),(6,.slice (some ⟨b6,0,none⟩) 3 3),(7,x.1.2.val),(8,.int .i64 (k.pf t+(j:Nat))),(9,.int .i64 (x.1.1:Nat))],[(b6,true,.cells ⟨[.int .i64 0,.int .i64 (k.gap-1),.int .i64 k.gap,.int .i64 (k.give-1),.int .i64 k.give,.int .i64 99]⟩ 45 (0,0)),(b5,true,.cells ⟨[.int .i64 (k.pf t),.int .i64 (k.pt t),.int .i64 (k.qf t),.int .i64 (k.qt t)]⟩ 47 (0,0)),(b2,true,.cells ⟨(k.val A lc (some ⟨tb,to,none⟩) tc).cells.toList⟩ 25 (0,0))]++x.1.2.bl)) (fun x=> 3-x.1.1) ?_ ⟨(0,g),Nat.zero_le _,by simp only[Bk.partB,List.append_nil];exact hgn,by simp only[Bk.partB,List.append_nil];exact hgl⟩)
   rintro⟨⟨i,g1⟩,hi,hn1,hl1⟩ ih2
   simp only at hi hn1 hl1
   show Tc M St _ _ _ _ [(2,.pointer (some ⟨b2,0,none⟩)),(5,.pointer (some ⟨b5,0,none⟩)),(6,.slice (some ⟨b6,0,none⟩) 3 3),(7,g1.val),(8,.int .i64 (k.pf t+(j:Nat))),(9,.int .i64 (i:Nat))] ([(b6,true,.cells ⟨[.int .i64 0,.int .i64 (k.gap-1),.int .i64 k.gap,.int .i64 (k.give-1),.int .i64 k.give,.int .i64 99]⟩ 45 (0,0)),(b5,true,.cells ⟨[.int .i64 (k.pf t),.int .i64 (k.pt t),.int .i64 (k.qf t),.int .i64 (k.qt t)]⟩ 47 (0,0)),(b2,true,.cells ⟨(k.val A lc (some ⟨tb,to,none⟩) tc).cells.toList⟩ 25 (0,0))]++g1.bl) _ _
   by_cases d1:i=3
   · clear ih2
     subst d1
     have e1:intBin .add .i64 (k.pf t+(j:Nat)) 1=some (.int .i64 (k.pf t+((j+1:Nat):Int))):=by rw[add_in (by omega) (by omega)];congr 2;omega
     refine .seq (.sr ?_)
     refine .m ?_
     refine .i ?_ (z:=lss_f (by omega))
     refine .done (.ff rfl (.exit rfl (.inBlock (.r ?_))))
     refine .m ?_
     refine .i ?_ (z:=by assumption)
     refine .g ?_
     refine .done ?_
     exact Tc.db (ih ⟨(j+1,g1),by simp only;omega,hn1,hl1⟩ (by simp only;omega))
   · have d2:i<3:=by omega
     have hpb:=partB_le k t (k.pf t+(j:Nat)) i
     have hlen:=@List.length_append _ (k.partsTo t j) (k.partB t (k.pf t+(j:Nat)) i)
     have f3:ldL true 2 [.int .i64 0,.int .i64 (k.gap-1),.int .i64 k.gap,.int .i64 (k.give-1),.int .i64 k.give,.int .i64 99] (0+((i:Nat):Int).toNat*2)=some (bandV (k.kindB i).1 (k.kindB i).2):=by
       rcases(by omega:i=0∨i=1∨i=2) with rfl|rfl|rfl <;> rfl
     have hbth:=fun(H':View)=> BothR_c M H' (k.qf t) (k.qt t) (k.kindB i).1 (k.kindB i).2 (k.partX t i).1 (k.partX t i).2 rfl rfl
     have happ:k.partsTo t j++k.partB t (k.pf t+(j:Nat)) (i+1)=(k.partsTo t j++k.partB t (k.pf t+(j:Nat)) i)++k.part1 t (k.pf t+(j:Nat)) i:=by rw[Bk.partB,List.append_assoc]
     by_cases d3:(k.partX t i).1≤(k.partX t i).2
     · have e4:k.part1 t (k.pf t+(j:Nat)) i= [(k.pf t+(j:Nat),k.pf t+(j:Nat),(k.partX t i).1,(k.partX t i).2)]:=if_pos d3
       rw[e4] at happ
       refine .seq (.sr ?_)
       refine .m ?_
       refine .i ?_ (z:=lss_t (by omega))
       refine .done (.tt rfl (.skip (.seq (.block (.seq ?_)))))
       refine Tc.dr [8] [] mixed rfl ?_
       refine .q 0 rfl .fa ?_
       refine .q 1 rfl (.ld 1) ?_
       refine .q 2 rfl .mv ?_
       refine .q 3 rfl .mv ?_
       refine .q 4 rfl .ia ?_
       refine .q 5 rfl (.ld 0) ?_
       refine .z 6 rfl (OpV.takeCall rfl rfl rfl rfl (fun H hs=> .f ca112 rfl (hbth H))) ?_
       refine Ta.each [7] (by kernel_rfl) rfl ⟨TaOp.mk rfl rfl rfl (.al (zz:=fun b10=> ⟨S2.mk (by apply List.Sublist.cons;exact List.Sublist.refl _) (.inr (by apply List.Sublist.cons;exact List.Sublist.refl _)),?_⟩)),trivial⟩
       refine Ta.each [8] (by kernel_rfl) rfl ⟨TaOp.mk rfl rfl rfl (.st 0 (zz:=⟨S2.mk (by apply List.Sublist.cons;exact List.Sublist.refl _) (.inl (by kernel_rfl)),?_⟩)),trivial⟩
       refine Ta.done (by kernel_rfl) ?_
       refine .sr ?_
       refine .x .fa ?_
       refine .x (.ld 0) ?_
       refine .x .fa ?_
       refine .x (.ld 0) ?_
       refine .i ?_ (z:=leq_t (by omega))
       refine .done (.tt rfl ?_)
       refine Tc.drT [7] [] [] 4 mixed rfl ?_
       refine Ta.tkC 0 (by kernel_rfl) rfl rfl (by decide) rfl rfl (OpV.take .mv) ?_
       refine Ta.tkC 1 (by kernel_rfl) rfl rfl (by decide) rfl rfl (OpV.take .mv) ?_
       refine Ta.tkC 2 (by kernel_rfl) rfl rfl (by decide) rfl rfl (OpV.take .mv) ?_
       refine Ta.tkC 3 (by kernel_rfl) rfl rfl (by decide) rfl rfl (OpV.takeCall rfl rfl rfl rfl (fun H hs=> .f ca74 rfl (to_c M H (k.pf t+(j:Nat)) (k.pf t+(j:Nat))))) ?_
       refine Ta.tkC 4 (by kernel_rfl) rfl rfl (by decide) rfl rfl (OpV.take (.ld 0)) ?_
       refine Ta.tkC 5 (by kernel_rfl) rfl rfl (by decide) rfl rfl (OpV.take .bu) ?_
       refine Ta.each [6] (by kernel_rfl) rfl ⟨TaOp.mk rfl rfl rfl (.bs (zz:=fun bs=> ⟨S3.mk (by apply List.Sublist.cons;exact List.sublist_append_left _ _) (.inr (by apply List.Sublist.cons;exact List.Sublist.refl _)),?_⟩)),trivial⟩
       refine Ta.each [7] (by kernel_rfl) rfl ⟨TaOp.mk rfl rfl rfl (Or.append (E:=en) (g:=g1) (m:=1) (new:=quadV (k.pf t+(j:Nat),k.pf t+(j:Nat),(k.partX t i).1,(k.partX t i).2)) (yv:=.slice (some ⟨bs,0,none⟩) 1 1) 5 rfl rfl rfl rfl rfl rfl rfl rfl rfl rfl rfl rfl rfl rfl rfl (fun H hs=> SrcAt.of (hs.get (i:=0) rfl) (Nat.le_of_ble_eq_true rfl)) rfl (by omega) rfl (by decide) (fun g2 hn2 hl2=> ⟨S3.mk (by apply List.Sublist.cons;exact List.sublist_append_left _ _) (.inl (by kernel_rfl)),?_⟩)),trivial⟩
       refine Ta.tkwC 8 (by kernel_rfl) rfl rfl rfl (by decide) rfl rfl (OpV.take .sg) ?_
       refine Ta.done (by kernel_rfl) ?_
       refine .inBlock (.r ?_)
       refine .m ?_
       refine .i ?_ (z:=add_in (by omega) (by omega))
       refine .g ?_
       refine .done ?_
       exact Tc.db (ih2 ⟨(i+1,g2),by simp only;omega,by simp only;rw[happ,List.length_append,hn2,hn1];rfl,by simp only;rw[happ,quadsV_app,hl2,hl1];rfl⟩ (by simp only;omega))
     · have e4:k.part1 t (k.pf t+(j:Nat)) i= []:=if_neg d3
       rw[e4,List.append_nil] at happ
       refine .seq (.sr ?_)
       refine .m ?_
       refine .i ?_ (z:=lss_t (by omega))
       refine .done (.tt rfl (.skip (.seq (.block (.seq ?_)))))
       refine Tc.dr [8] [] mixed rfl ?_
       refine .q 0 rfl .fa ?_
       refine .q 1 rfl (.ld 1) ?_
       refine .q 2 rfl .mv ?_
       refine .q 3 rfl .mv ?_
       refine .q 4 rfl .ia ?_
       refine .q 5 rfl (.ld 0) ?_
       refine .z 6 rfl (OpV.takeCall rfl rfl rfl rfl (fun H hs=> .f ca112 rfl (hbth H))) ?_
       refine Ta.each [7] (by kernel_rfl) rfl ⟨TaOp.mk rfl rfl rfl (.al (zz:=fun b10=> ⟨S2.mk (by apply List.Sublist.cons;exact List.Sublist.refl _) (.inr (by apply List.Sublist.cons;exact List.Sublist.refl _)),?_⟩)),trivial⟩
       refine Ta.each [8] (by kernel_rfl) rfl ⟨TaOp.mk rfl rfl rfl (.st 0 (zz:=⟨S2.mk (by apply List.Sublist.cons;exact List.Sublist.refl _) (.inl (by kernel_rfl)),?_⟩)),trivial⟩
       refine Ta.done (by kernel_rfl) ?_
       refine .sr ?_
       refine .x .fa ?_
       refine .x (.ld 0) ?_
       refine .x .fa ?_
       refine .x (.ld 0) ?_
       refine .i ?_ (z:=leq_f (by omega))
       refine .done (.ff rfl (.skip (.inBlock (.r ?_))))
       refine .m ?_
       refine .i ?_ (z:=add_in (by omega) (by omega))
       refine .g ?_
       refine .done ?_
       exact Tc.db (ih2 ⟨(i+1,g1),by simp only;omega,by simp only;rw[happ];exact hn1,by simp only;rw[happ];exact hl1⟩ (by simp only;omega))
end
end Go.Proofs.YtdnfdeplcjaonaaGreatDoor
end
section
namespace Go.RL
open Go.Conc
section
variable {P:Program}{M:Md P}{St:View→Goroutine→Prop}{n:Nat}{b:FB}{H₀:View}{cs:List Frame}{R:Rg}{L:Bl}{ds:List Deferred}{k:List Item}{md:Region.Mode}{ops:Array Oper}
theorem Ta.callL2(i j:Nat){B:List Nat}{Hs:View}{Ls Lb:Bl}{o:Oper}{d:Nat}{fuel:Nat}{listed:Array Bool}{cl:Go.Call}{x:Operand}{fv:Value}{az:List Value}(hr:Region.ready md ops listed= [i,j])(hi:ops[i]? =some o)
   (hw:wantB (ops.toList.map (fun o:Oper=> o.dst)) R o=some true) (hop:o.op=.call cl) (hcl:cl.callee=.value x) (hx:evR R x=some fv) (has:evRs R cl.args.toList=some az) (hd:o.dst=some d) (hn:d<n)
   {Q:Value→View→Prop} (hc:FnT M fv az H₀ Q) (hle:∀v H₁,Q v H₁→Hs.le H₁) (h1:Ls.Sublist L) (h2:(B.all fun j=> !((listed.setIfInBounds i true).getD j true))=false∨Lb.Sublist L)
   (hk:∀v H₁,Q v H₁→Ta M St n b H₁ cs (S2 Hs B Ls Lb) md ops fuel (listed.setIfInBounds i true) ((d,v)::R) L ds k)
   (hj:TaOp M St n b H₀ cs (S2 Hs B Ls Lb) md ops fuel listed R L ds k j):
   Ta M St n b H₀ cs (S2 Hs B Ls Lb) md ops (fuel+1) listed R L ds k:=fun H tmps hs hr' _ H₂ h2' _=> by
 have hs:=hs.mono h2'
 refine⟨fun e=> (by rw[hr] at e;cases e),fun j' hj' o' ho'=> ?_⟩
 rw[hr] at hj'
 have hcase:j'=i∨j'=j:=by simpa using hj'
 rcases hcase with rfl|rfl
 · rw[hi] at ho'
   cases ho'
   refine⟨(by rw[hop];rfl),?_⟩
   have hw':Region.wanted o (yielded ops tmps)=true:=wantB_ok (fun j=> by
     simp only[List.getElem?_map,Array.getElem?_toList]
     cases ops[j]? <;> rfl) hr' hw
   rw[if_pos hw']
   obtain⟨F,rfl,hdj,hF⟩:=hs.split
   have e1:=hr'.ev hx
   have hmap:cl.args.map (evT tmps)=az.toArray:=by
     apply Array.ext'
     simpa using hr'.evs has
   have hex:execOp (evT tmps) o=(Deferred.ofValue fv az.toArray).bind fun d=> invoke d.target d.args:=by
     have h1:execOp (evT tmps) o=(resolve (evT tmps) cl o.type).bind fun d=> invoke d.target d.args:=by unfold execOp;rw[hop];rfl
     rw[h1]
     unfold resolve
     rw[hcl]
     simp only[e1,hmap]
   unfold OpRun
   rw[hex]
   have fin:∀v H'',Beside F Q v H''→S2 Hs B Ls Lb (listed.setIfInBounds j' true) H''∧AnyT M md ops (S2 Hs B Ls Lb) (fun tmps H=> T M St H (G (b.at tmps ds k) cs)) fuel (listed.setIfInBounds j' true) (putT tmps o.dst v) H'':=by
     rintro v H'' ⟨H₁,rfl,hd',hq⟩
     have hsy:SymSt H₁ L (H₁.plus F):=.joined hs.nodup hF hd'
     have hS:S2 Hs B Ls Lb (listed.setIfInBounds j' true) (H₁.plus F):=S2.mkL (hle v H₁ hq) h1 h2 _ hsy
     refine⟨hS,?_⟩
     rw[hd]
     exact hk v H₁ hq _ _ hsy (hr'.put hn v) hS
   refine vwp_mono _ (fun nx H' hn'=> ?_) (hc.frame hdj)
   cases nx <;> first
     | exact hn'.elim
     | exact CallT.mono hn' fin
     | exact GoT.mono hn' fin
 · obtain⟨o2,ho2,hd2,hw2,h'⟩:=hj
   rw[ho'] at ho2
   cases ho2
   refine⟨hd2,?_⟩
   have hw':Region.wanted o' (yielded ops tmps)=true:=wantB_ok (fun j=> by
     simp only[List.getElem?_map,Array.getElem?_toList]
     cases ops[j]? <;> rfl) hr' hw2
   rw[if_pos hw']
   refine(h' H₂ tmps hs hr').mono ?_
   rintro t H' ⟨R',L',h1,h2,h3,h4⟩
   exact⟨h3 H' h2,h4 H' t h2 h1 (h3 H' h2)⟩
theorem Tc.viaB {x:Item}(F:View→Rg→Bl→Prop)(hF:∀H R L,F H R L→Tc M St n b H cs R L ds k)(h:(∀H R L,F H R L→Tc M St n b H cs R L ds k)→Tc M St n b H₀ cs R L ds (x::k)):Tc M St n b H₀ cs R L ds (x::k):=h hF
end
end Go.RL
end
section
namespace Go.Proofs.YtdnfdeplcjaonaaGreatDoor
open Go.RL
set_option maxRecDepth 10000
set_option maxHeartbeats 16000000
abbrev Quad:=Int×Int×Int×Int
def QuadsAt(H:View)(A:Option Addr)(l:List Quad):Prop:=
 l= []∨∃b o f gs gt gz,A=some ⟨b,o,none⟩∧H b=some (f,.cells ⟨gs⟩ gt gz)∧∀(j:Nat) x,l[j]? =some x→ldL true 4 gs (o+(j:Int).toNat*4)=some (trainV x.1 x.2.1 x.2.2.1 x.2.2.2)
theorem quads_len:∀l,(quadsV l).length=l.length*4
 | []=> rfl
 | x::t=> by
   have:=quads_len t
   show(quadV x++quadsV t).length=_
   rw[List.length_append,this,List.length_cons]
   show 4+_=_
   omega
theorem quads_drop:∀(l:List Quad) (j:Nat) x (rest:List Value),l[j]? =some x→((quadsV l++rest).drop (j*4)).take 4=quadV x
 | [],_,_,_,h=> by cases h
 | y::t,0,x,rest,h=> by
   cases h
   show((quadV y++quadsV t)++rest).take 4=_
   rw[List.append_assoc]
   rfl
 | y::t,j+1,x,rest,h=> by
   have:=quads_drop t j x rest h
   show(((quadV y++quadsV t)++rest).drop ((j+1)*4)).take 4=_
   rw[List.append_assoc,show(j+1)*4=4+j*4 by omega,←List.drop_drop]
   exact this
theorem quads_of(g:Gl 47 4){H:View}(h:∀x∈g.bl,H x.1=some x.2){l:List Quad}(hl:g.l=quadsV l):QuadsAt H (g.blk.map fun b=> ⟨b,0,none⟩) l:=by
 have hgl:=g.hl
 rw[hl,quads_len] at hgl
 cases hbb:g.blk with
 | none=>
   have:=g.h0 hbb
   have:=g.hc
   exact .inl (List.eq_nil_of_length_eq_zero (by omega))
 | some b=>
   have hbl:g.bl= [(b,true,.cells ⟨g.l++g.junk⟩ 47 (0,0))]:=by unfold Gl.bl;rw[hbb]
   refine .inr ⟨b,0,true,_,47,(0,0),rfl,h (b,true,.cells ⟨g.l++g.junk⟩ 47 (0,0)) (by rw[hbl];simp),fun j x hx=> ?_⟩
   have hjl:=(List.getElem?_eq_some_iff.1 hx).1
   rw[Nat.zero_add,Int.toNat_natCast]
   unfold ldL
   have hlen:j*4+4≤(g.l++g.junk).length:=by rw[List.length_append,hl,quads_len];omega
   rw[show Nat.ble (j*4+4) (g.l++g.junk).length=true from Nat.ble_eq_true_of_le hlen,hl]
   simp only[quads_drop l j x g.junk hx]
   rfl
def Bk.partsL(k:Bk)(t:Nat):List Quad:=k.partsTo t (k.pt t-k.pf t+1).toNat
def Bk.nowQ(k:Bk)(t:Nat)(x:Quad):Bk:=k.now t x.1 x.2.1 x.2.2.1 x.2.2.2
def Bk.worstTo(k:Bk)(t:Nat):Nat→Nat
 | 0=> 0
 | j+1=> max (k.worstTo t j) (k.nowQ t ((k.partsL t)[j]?.getD (0,0,0,0))).resL.length
def Bk.worst(k:Bk)(t:Nat):Nat:=k.worstTo t (k.partsL t).length
theorem part_in {k:Bk}{t:Nat}{x:Quad}(h:x∈k.partsL t):x.2.1=x.1∧k.pf t≤x.1∧x.1≤k.pt t∧k.qf t≤x.2.2.1∧x.2.2.1≤x.2.2.2∧x.2.2.2≤k.qt t:=by
 have h1 :∀b i,k.pf t≤b→b≤k.pt t→x∈k.partB t b i→x.2.1=x.1∧k.pf t≤x.1∧x.1≤k.pt t∧k.qf t≤x.2.2.1∧x.2.2.1≤x.2.2.2∧x.2.2.2≤k.qt t:=by
   intro b i hb1 hb2
   induction i with
   | zero=> intro h;cases h
   | succ i ih=>
     intro h
     unfold Bk.partB at h
     rcases List.mem_append.1 h with h|h
     · exact ih h
     · unfold Bk.part1 at h
       split at h
       · rename_i hle
         rw[List.mem_singleton] at h
         subst h
         have h5:k.qf t≤(k.partX t i).1:=by unfold Bk.partX iMax;simp only;split <;> omega
         have h6:(k.partX t i).2≤k.qt t:=by unfold Bk.partX iMin;simp only;split <;> omega
         exact⟨rfl,hb1,hb2,h5,hle,h6⟩
       · cases h
 have h2:∀j:Nat,(j:Int)≤k.pt t-k.pf t+1→x∈k.partsTo t j→x.2.1=x.1∧k.pf t≤x.1∧x.1≤k.pt t∧k.qf t≤x.2.2.1∧x.2.2.1≤x.2.2.2∧x.2.2.2≤k.qt t:=by
   intro j
   induction j with
   | zero=> intro _ h;cases h
   | succ j ih=>
     intro hj h
     unfold Bk.partsTo at h
     rcases List.mem_append.1 h with h|h
     · exact ih (by omega) h
     · exact h1 _ 3 (by omega) (by omega) h
 by_cases hc:0≤k.pt t-k.pf t+1
 · exact h2 _ (by omega) h
 · unfold Bk.partsL at h
   rw[show(k.pt t-k.pf t+1).toNat=0 by omega] at h
   cases h
theorem part_ok {k:Bk}{t:Nat}(hx:trainOk (k.pf t) (k.pt t) (k.qf t) (k.qt t)=true){x:Quad}(h:x∈k.partsL t):trainOk x.1 x.2.1 x.2.2.1 x.2.2.2=true∧k.nowOk t x.1 x.2.1 x.2.2.1 x.2.2.2=true:=by
 obtain⟨h1,h2,h3,h4,h5,h6⟩:=part_in h
 have e1:imax (k.pf t) x.1=x.1:=by unfold imax;split <;> omega
 have e2:imin (k.pt t) x.2.1=x.2.1:=by unfold imin;split <;> omega
 have e3:imax (k.qf t) x.2.2.1=x.2.2.1:=by unfold imax;split <;> omega
 have e4:imin (k.qt t) x.2.2.2=x.2.2.2:=by unfold imin;split <;> omega
 have e5:trainOk x.1 x.2.1 x.2.2.1 x.2.2.2=true:=by
   unfold trainOk at hx ⊢
   simp only[Bool.and_eq_true,decide_eq_true_eq] at hx ⊢
   omega
 refine⟨e5,?_⟩
 unfold Bk.nowOk
 rw[e1,e2,e3,e4]
 exact e5
theorem now_valid {k:Bk}(ha:k.alarm=0){t:Nat}{x:Quad}(h:k.nowOk t x.1 x.2.1 x.2.2.1 x.2.2.2=true):(k.nowQ t x).alarm=0:=by
 obtain⟨h1,h2,h3⟩:=Bk.alarm0 ha
 obtain⟨_,_,hnt,hok⟩:=Bk.valid ha
 have e1:(k.nowQ t x).pausesA=0:=h1
 have e2:(k.nowQ t x).linesA=0:=h2
 have e3:(k.nowQ t x).trainsA=0:=by
   unfold Bk.trainsA
   have hn:¬6<(k.nowQ t x).nt:=by show ¬6<k.nt;omega
   rw[if_neg hn]
   have:firstTo (k.nowQ t x).trainBad (k.nowQ t x).nt=none:=(firstTo_none _).2 fun i hi=> by
     unfold Bk.trainBad
     have hi':i<k.nt:=hi
     have:trainOk ((k.nowQ t x).pf i) ((k.nowQ t x).pt i) ((k.nowQ t x).qf i) ((k.nowQ t x).qt i)=true:=by
       unfold Bk.nowQ Bk.now Bk.with
       simp only
       split
       · exact h
       · exact hok i hi'
     rw[this]
     rfl
   rw[this]
   rfl
 unfold Bk.alarm
 rw[if_pos e1,if_pos e2,e3]
end Go.Proofs.YtdnfdeplcjaonaaGreatDoor
end
section
namespace Go.Proofs.YtdnfdeplcjaonaaGreatDoor
open Go.RL
set_option maxRecDepth 10000
set_option maxHeartbeats 1000000
theorem firstTo_true {p:Nat→Bool}:∀n {i:Nat},firstTo p n=some i→p i=true
 | 0,_,h=> by cases h
 | n + 1,i,h=> by
   rw[firstTo] at h
   cases e:firstTo p n with
   | some j=>
     rw[e] at h
     have:=firstTo_true n e
     cases h
     exact this
   | none=>
     rw[e] at h
     by_cases hp:p n=true
     · rw[if_pos hp] at h
       cases h
       exact hp
     · rw[if_neg hp] at h
       cases h
theorem firstTo_only {p:Nat→Bool}{n w:Nat}(hw:w<n)(h:p w=true)(h2:∀i,i<n→p i=true→i=w):firstTo p n=some w:=by
 cases e:firstTo p n with
 | none=> have:=(firstTo_none n).1 e w hw;rw[h] at this;cases this
 | some j=> rw[h2 j (firstTo_in n e) (firstTo_true n e)]
theorem begins_iff {s p:List UInt8}:begins s p=true↔p <+:s:=by
 unfold begins
 rw[Bool.and_eq_true,decide_eq_true_eq,beq_iff_eq,List.prefix_iff_eq_take]
 constructor
 · exact fun h=> h.2.symm
 · intro h
   refine⟨?_,h.symm⟩
   have:=congrArg List.length h
   rw[List.length_take] at this
   omega
theorem digB_nat {n:Nat}(_:1≤n∧n≤10):(digB n).toNat=48+n%10:=by
 unfold digB
 rw[UInt8.toNat_ofNat']
 have:n%10<10:=Nat.mod_lt _ (by decide)
 omega
theorem dig_pn {x:UInt8}(h:dig x=true):digB (pn x)=x:=by
 have h1:=of_decide_eq_true h
 apply UInt8.toNat_inj.1
 rw[digB_nat (pn_in h)]
 unfold pn
 split <;> omega
theorem Bk.apart {k:Bk}(ha:k.alarm=0){i j:Nat}(hi:i<k.nl)(hj:j<k.nl)(h:k.num i <+:k.num j):i=j:=by
 have hc:∀a b,a<k.nl→b<a→¬k.num a <+:k.num b∧¬k.num b <+:k.num a:=by
   intro a b hak hba
   obtain⟨_,_,_,h4,_⟩:=Bk.line_ok ha hak
   unfold Bk.clash at h4
   have h5:firstTo (fun i=> clash1 (k.num i) (k.num a)) a=none:=by
     cases e:firstTo (fun i=> clash1 (k.num i) (k.num a)) a with
     | none=> rfl
     | some x=> exact absurd h4 (by show ¬(firstTo (fun i=> clash1 (k.num i) (k.num a)) a).isSome=false;rw[e];exact fun h=> nomatch h)
   have h6:=(firstTo_none a).1 h5 b hba
   unfold clash1 at h6
   rw[Bool.or_eq_false_iff] at h6
   refine⟨fun h=> ?_,fun h=> ?_⟩
   · rw[begins_iff.2 h] at h6;cases h6.1
   · rw[begins_iff.2 h] at h6;cases h6.2
 rcases Nat.lt_trichotomy i j with h1|h1|h1
 · exact((hc j i hj h1).2 h).elim
 · exact h1
 · exact((hc i j hi h1).1 h).elim
theorem Bk.line_is {k:Bk}(ha:k.alarm=0){w:Nat}(hw:w<k.nl){s:List UInt8}(h:k.num w <+:s):k.line s=some w:=by
 unfold Bk.line
 refine firstTo_only hw (begins_iff.2 h) fun i hi h2=> ?_
 rcases List.prefix_or_prefix_of_prefix h (begins_iff.1 h2) with h3|h3
 · exact(Bk.apart ha hw hi h3).symm
 · exact Bk.apart ha hi hw h3
theorem Bk.line_no {k:Bk}{s:List UInt8}(h:∀i,i<k.nl→¬k.num i <+:s):k.line s=none:=by
 unfold Bk.line
 refine(firstTo_none _).2 fun i hi=> ?_
 cases e:begins s (k.num i) with
 | false=> rfl
 | true=> exact(h i hi (begins_iff.1 e)).elim
def dialBk(k:Bk)(s:List UInt8)(P:Int):Bk:= { k with nt:=s.length,pf:=fun i=> (pnAt s i:Nat),pt:=fun i=> (pnAt s i:Nat),qf:=fun _=> P,qt:=fun _=> P }
theorem pnAt_in {s:List UInt8}(h:s.all dig=true)(i:Nat):1≤pnAt s i∧pnAt s i≤10:=by
 unfold pnAt
 cases e:s[i]? with
 | none=> decide
 | some x=> exact pn_in (List.all_eq_true.1 h x (List.mem_of_getElem? e))
theorem dial_alarm {k:Bk}(ha:k.alarm=0){s:List UInt8}(hs:s.all dig=true)(hl:s.length≤6){P:Int}(hP:0≤P∧P≤99):(dialBk k s P).alarm=0:=by
 obtain⟨h1,h2,_⟩:=Bk.alarm0 ha
 have e1:(dialBk k s P).pausesA=0:=h1
 have e2:(dialBk k s P).linesA=0:=h2
 have e3:(dialBk k s P).trainsA=0:=by
   unfold Bk.trainsA
   have hn:¬6<(dialBk k s P).nt:=by show ¬6<s.length;omega
   rw[if_neg hn]
   have:firstTo (dialBk k s P).trainBad (dialBk k s P).nt=none:=(firstTo_none _).2 fun i hi=> by
     unfold Bk.trainBad
     have hp:=pnAt_in hs i
     have:trainOk ((dialBk k s P).pf i) ((dialBk k s P).pt i) ((dialBk k s P).qf i) ((dialBk k s P).qt i)=true:=by
       show trainOk (pnAt s i:Nat) (pnAt s i:Nat) P P=true
       unfold trainOk
       simp only[Bool.and_eq_true,decide_eq_true_eq]
       omega
     rw[this]
     rfl
   rw[this]
   rfl
 unfold Bk.alarm
 rw[if_pos e1,if_pos e2,e3]
theorem dial_ears {k:Bk}{s:List UInt8}(hs:s.all dig=true){P:Int}(hP:k.gap≤P∧P<k.give):∀n,n≤s.length→(dialBk k s P).earsL n= [⟨s.take n,0,false⟩]
 | 0,_=> by unfold Bk.earsL;rw[List.take_zero]
 | n + 1,hn=> by
   have ih:=dial_ears hs hP n (by omega)
   have hkd:(dialBk k s P).kind P=1:=by
     show(if P<k.gap then 0 else if P<k.give then 1 else 2)=1
     rw[if_neg (by omega),if_pos hP.2]
   have hc:(dialBk k s P).can n= [(pnAt s n,1)]:=by
     show canL ((pnAt s n:Nat):Int).toNat ((pnAt s n:Nat):Int).toNat ((dialBk k s P).kind P) ((dialBk k s P).kind P)=_
     rw[hkd,Int.toNat_natCast]
     rw[canL_cons (Nat.le_refl _),canFrom_cons (Nat.le_refl _),canFrom_nil (by omega),canL_nil (by omega)]
   unfold Bk.earsL
   rw[ih,hc]
   have hp:=pnAt_in hs n
   have hx:digB (pnAt s n)=s[n]:=by
     unfold pnAt
     rw[List.getElem?_eq_getElem (by omega)]
     exact dig_pn (List.all_eq_true.1 hs _ (List.getElem_mem _))
   show [Ear.hear ⟨s.take n,0,false⟩ (pnAt s n) 1]=_
   unfold Ear.hear
   rw[if_neg (fun h=> nomatch h),if_neg (by decide),if_neg (by simp only;omega)]
   simp only[Nat.zero_add]
   rw[hx,List.take_succ_eq_append_getElem (by omega)]
   rfl
theorem dial_res {k:Bk}(ha:k.alarm=0){w:Nat}(hw:w<k.nl){P:Int}(hP:k.gap≤P∧P<k.give):(dialBk k (k.num w) P).resL= [((w:Nat):Int)]:=by
 obtain⟨hdg,_⟩:=Bk.isNum_of ha hw
 unfold Bk.resL
 have e1:(dialBk k (k.num w) P).earsL (dialBk k (k.num w) P).nt= [⟨k.num w,0,false⟩]:=by
   show(dialBk k (k.num w) P).earsL (k.num w).length=_
   rw[dial_ears hdg hP _ (Nat.le_refl _),List.take_length]
 have e2:(dialBk k (k.num w) P).line (k.num w)=some w:=Bk.line_is (k:=k) ha hw (List.prefix_refl _)
 rw[e1]
 simp only[List.map_cons,List.map_nil]
 rw[e2]
 rfl
theorem dial_claim {k:Bk}(ha:k.alarm=0){w:Nat}(hw:w<k.nl){P:Int}(hP:k.gap≤P∧P<k.give)(z:Int):(dialBk k (k.num w) P).claimOf z=if z=(w:Nat) then 1 else 2:=by
 unfold Bk.claimOf
 rw[dial_res ha hw hP]
 by_cases h:z=((w:Nat):Int)
 · rw[if_pos h,if_pos (by simp[h])]
   rfl
 · rw[if_neg h,if_neg (by simp[h])]
theorem dial_settled {k:Bk}(ha:k.alarm=0){w:Nat}(hw:w<k.nl){P:Int}(hP:k.gap≤P∧P<k.give):(dialBk k (k.num w) P).settled=some ((k.num w).length,((w:Nat):Int)):=by
 obtain⟨hdg,_⟩:=Bk.isNum_of ha hw
 generalize hd:dialBk k (k.num w) P=d
 have hnt:d.nt=(k.num w).length:=by rw[←hd];rfl
 have hln:∀s,d.line s=k.line s:=by intro s;rw[←hd];rfl
 have hears:∀n,n≤(k.num w).length→∀e,d.earsS n e↔e=⟨(k.num w).take n,0,false⟩:=by
   intro n hn e
   rw[←Bk.mem_earsL,←hd,dial_ears hdg hP n hn,List.mem_singleton]
 have hless:∀n,n<(k.num w).length→d.fateAt n=none:=by
   intro n hn
   refine Bk.fateAt_none1 ((hears n (by omega) _).2 rfl) ?_
   have hno:k.line ((k.num w).take n)=none:=Bk.line_no fun i hi h=> by
     have h2:=Bk.apart ha hi hw (h.trans (List.take_prefix _ _))
     subst h2
     have:=h.length_le
     rw[List.length_take] at this
     omega
   have hsome:(firstTo (fun i=> begins (d.num i) ((k.num w).take n)) d.nl).isNone=false:=by
     cases e:firstTo (fun i=> begins (d.num i) ((k.num w).take n)) d.nl with
     | some _=> rfl
     | none=>
       have hw':w<d.nl:=by rw[←hd];exact hw
       have h3:=(firstTo_none _).1 e w hw'
       have h4:d.num w=k.num w:=by rw[←hd];rfl
       rw[h4,begins_iff.2 (List.take_prefix _ _)] at h3
       cases h3
   unfold Bk.fate
   rw[hln,hno,hnt]
   simp only
   rw[hsome,decide_eq_false (by omega)]
   rfl
 have hlast:d.fateAt (k.num w).length=some ((w:Nat):Int):=by
   refine Bk.fateAt_some (by omega) ((hears _ (Nat.le_refl _) _).2 rfl) fun e he=> ?_
   rw[(hears _ (Nat.le_refl _) e).1 he]
   unfold Bk.fate
   rw[hln,List.take_length,Bk.line_is ha hw (List.prefix_refl _)]
 have hto:∀n,n≤(k.num w).length→d.settledTo n=none:=by
   intro n
   induction n with
   | zero=> intro _;rfl
   | succ n ih=>
     intro hn
     rw[Bk.settledTo,ih (by omega),hless n (by omega)]
     rfl
 unfold Bk.settled
 rw[Bk.settledTo,hnt,hto _ (Nat.le_refl _),hlast]
 rfl
theorem trainsL_quads(s:List UInt8)(P:Int):trainsL s P=quadsV (s.map fun x=> ((pn x:Nat),(pn x:Nat),P,P)):=by
 unfold trainsL quadsV
 rw[List.flatMap_map]
 rfl
theorem dial_trains(k:Bk){s:List UInt8}{P:Int}{H:View}(g:Gl 47 4)(h:∀x∈g.bl,H x.1=some x.2)(hn:g.n=s.length)(hl:g.l=trainsL s P):TrainsAt H (dialBk k s P) (g.blk.map fun b=> ⟨b,0,none⟩) g.cap:=by
 have hQ:=quads_of g h (hl.trans (trainsL_quads s P))
 refine⟨by have:=g.hc;show s.length≤_;omega,?_⟩
 rcases hQ with h0|⟨b,o,f,gs,gt,gz,h1,h2,h3⟩
 · exact .inl (by show s.length=0;have:=congrArg List.length h0;simpa using this)
 · refine .inr ⟨b,o,f,gs,gt,gz,h1,h2,fun i hi=> ?_⟩
   have hi':i<s.length:=hi
   have:=h3 i ((pn s[i]:Nat),(pn s[i]:Nat),P,P) (by rw[List.getElem?_map,List.getElem?_eq_getElem hi'];rfl)
   have e:pnAt s i=pn s[i]:=by unfold pnAt;rw[List.getElem?_eq_getElem hi'];rfl
   show ldL true 4 gs _=some (trainV (pnAt s i:Nat) (pnAt s i:Nat) P P)
   rw[e]
   exact this
end Go.Proofs.YtdnfdeplcjaonaaGreatDoor
end
section
namespace Go.Proofs.YtdnfdeplcjaonaaGreatDoor
open Go.RL Go.Conc
set_option maxRecDepth 10000
theorem e163:Ent Tryz.prog 163 (Extern.Race.marked .releaseMerge):=⟨Tryz.f163,Tryz.func163,by kernel_rfl,by kernel_rfl,by kernel_rfl,by kernel_rfl⟩
theorem e164:Ent Tryz.prog 164 disE:=⟨Tryz.f164,Tryz.func164,by kernel_rfl,by kernel_rfl,by kernel_rfl,by kernel_rfl⟩
theorem e165:Ent Tryz.prog 165 enE:=⟨Tryz.f165,Tryz.func165,by kernel_rfl,by kernel_rfl,by kernel_rfl,by kernel_rfl⟩
theorem e166:Ent Tryz.prog 166 (fun _=> pure (.bool false)):=⟨Tryz.f166,Tryz.func166,by kernel_rfl,by kernel_rfl,by kernel_rfl,by kernel_rfl⟩
theorem e171:Ent Tryz.prog 171 (Extern.Race.marked .read):=⟨Tryz.f171,Tryz.func171,by kernel_rfl,by kernel_rfl,by kernel_rfl,by kernel_rfl⟩
theorem e175:Ent Tryz.prog 175 Extern.Sync.semrelease:=⟨Tryz.f175,Tryz.func175,by kernel_rfl,by kernel_rfl,by kernel_rfl,by kernel_rfl⟩
theorem e176:Ent Tryz.prog 176 (Extern.Race.marked .acquire):=⟨Tryz.f176,Tryz.func176,by kernel_rfl,by kernel_rfl,by kernel_rfl,by kernel_rfl⟩
theorem e179:Ent Tryz.prog 179 (Extern.Race.marked .write):=⟨Tryz.f179,Tryz.func179,by kernel_rfl,by kernel_rfl,by kernel_rfl,by kernel_rfl⟩
theorem e180:Ent Tryz.prog 180 Extern.Sync.semacquire:=⟨Tryz.f180,Tryz.func180,by kernel_rfl,by kernel_rfl,by kernel_rfl,by kernel_rfl⟩
theorem e210:Ent Tryz.prog 210 (Extern.Atomic.update (Op.intArith .add) .u64 true):=⟨Tryz.f210,Tryz.func210,by kernel_rfl,by kernel_rfl,by kernel_rfl,by kernel_rfl⟩
theorem e211:Ent Tryz.prog 211 (Extern.Atomic.loadT (.int .u64)):=⟨Tryz.f211,Tryz.func211,by kernel_rfl,by kernel_rfl,by kernel_rfl,by kernel_rfl⟩
theorem e212:Ent Tryz.prog 212 Extern.Atomic.storeT:=⟨Tryz.f212,Tryz.func212,by kernel_rfl,by kernel_rfl,by kernel_rfl,by kernel_rfl⟩
theorem e213:Ent Tryz.prog 213 (Extern.Atomic.casT (.int .u64)):=⟨Tryz.f213,Tryz.func213,by kernel_rfl,by kernel_rfl,by kernel_rfl,by kernel_rfl⟩
theorem fo_156_1:fldOff Tryz.prog 156 1=some 0:=by kernel_rfl
theorem fo_156_2:fldOff Tryz.prog 156 2=some 1:=by kernel_rfl
theorem fo_153_2:fldOff Tryz.prog 153 2=some 0:=by kernel_rfl
theorem un_201:Tryz.prog.underlying 201=some (.pointer 156):=by kernel_rfl
theorem un_203:Tryz.prog.underlying 203=some .unsafePointer:=by kernel_rfl
theorem un_208:Tryz.prog.underlying 208=some (.pointer 154):=by kernel_rfl
theorem un_3:Tryz.prog.underlying 3=some (.int .i64):=by kernel_rfl
theorem un_21:Tryz.prog.underlying 21=some (.int .i32):=by kernel_rfl
theorem un_154:Tryz.prog.underlying 154=some (.int .u32):=by kernel_rfl
theorem un_151:Tryz.prog.underlying 151=some (.int .u64):=by kernel_rfl
theorem sz_156:(Tryz.prog.info? 156).map (·.size)=some (1+1):=by kernel_rfl
theorem sz_154:(Tryz.prog.info? 154).map (·.size)=some (0+1):=by kernel_rfl
end Go.Proofs.YtdnfdeplcjaonaaGreatDoor
end
section
namespace Go.Proofs.YtdnfdeplcjaonaaGreatDoor
open Go.RL Go.Conc Go.ConcN Go.RL.Au
open Go.ConcR (stA smA)
open Go.ConcM (OsLater)
set_option maxRecDepth 10000
section
variable {main:Bool}{sh:Shp}{J:Goroutine→Prop}{K:Value→(Goroutine→Prop)→Prop}{blk off:Nat}
def KC(main:Bool)(K:Value→(Goroutine→Prop)→Prop):Prop:=∀v J',K v J'→∃sh',Cl Tryz.prog main sh' J'
theorem add64 {d:Int}(hc:Cl Tryz.prog main sh J)(hk:KC main K)(h:AtC J 210 [.pointer (some ⟨blk,off,none⟩),.int .u64 d] K):AtC J 170 [.pointer (some ⟨blk,off,none⟩),.int .u64 d] K:=by
 refine InC.at (by exact hc) ca170 (InC.enter (vs:= [.pointer (some ⟨blk,off,none⟩),.int .u64 d]) Tryz.func170 rfl Tryz.ntmps170 (Nat.le_of_ble_eq_true rfl) fun c cs hK=> ?_)
 refine .sq (.rg rfl rfl ?_)
 refine .g ?_
 refine .dn (.sq (.rg rfl rfl ?_))
 refine .m ?_
 refine .x .nk ?_
 refine .x (.fa (zz:=fo_153_2)) ?_
 refine .m ?_
 refine So.callD rfl rfl rfl nofun rfl (.mk' rfl) rfl (h) ?_
 intro v J' hv
 obtain⟨sh',hc⟩:=hk v J' hv
 refine .g ?_
 refine .dn ?_
 refine Sc.retCode (by exact hc) rfl (Sb.leave (by exact hc) Tryz.func170 rfl (by exact .inr ⟨_,Tryz.results170,rfl⟩) ?_)
 exact hK v J' hv
theorem load64(hc:Cl Tryz.prog main sh J)(hk:KC main K)(h:AtC J 211 [.pointer (some ⟨blk,off,none⟩)] K):AtC J 172 [.pointer (some ⟨blk,off,none⟩)] K:=by
 refine InC.at (by exact hc) ca172 (InC.enter (vs:= [.pointer (some ⟨blk,off,none⟩)]) Tryz.func172 rfl Tryz.ntmps172 (Nat.le_of_ble_eq_true rfl) fun c cs hK=> ?_)
 refine .sq (.rg rfl rfl ?_)
 refine .g ?_
 refine .dn (.sq (.rg rfl rfl ?_))
 refine .m ?_
 refine .x .nk ?_
 refine .x (.fa (zz:=fo_153_2)) ?_
 refine So.callD rfl rfl rfl nofun rfl (.mk' rfl) rfl (h) ?_
 intro v J' hv
 obtain⟨sh',hc⟩:=hk v J' hv
 refine .g ?_
 refine .dn ?_
 refine Sc.retCode (by exact hc) rfl (Sb.leave (by exact hc) Tryz.func172 rfl (by exact .inr ⟨_,Tryz.results172,rfl⟩) ?_)
 exact hK v J' hv
theorem store64 {d:Int}(hc:Cl Tryz.prog main sh J)(hk:KC main K)(hu:∀v J',K v J'→v=.tuple #[])(h:AtC J 212 [.pointer (some ⟨blk,off,none⟩),.int .u64 d] K):AtC J 173 [.pointer (some ⟨blk,off,none⟩),.int .u64 d] K:=by
 refine InC.at (by exact hc) ca173 (InC.enter (vs:= [.pointer (some ⟨blk,off,none⟩),.int .u64 d]) Tryz.func173 rfl Tryz.ntmps173 (Nat.le_of_ble_eq_true rfl) fun c cs hK=> ?_)
 refine .rg rfl rfl ?_
 refine .m ?_
 refine .x .nk ?_
 refine .x (.fa (zz:=fo_153_2)) ?_
 refine .m ?_
 refine So.callD rfl rfl rfl nofun rfl (.mk' rfl) rfl (h) ?_
 intro v J' hv
 obtain⟨sh',hc⟩:=hk v J' hv
 refine .dn ?_
 refine Sc.over (by exact hc) rfl (Sb.leave (by exact hc) Tryz.func173 rfl (by exact .inl ⟨Tryz.results173,rfl⟩) ?_)
 exact hu v J' hv▸hK v J' hv
theorem cas64 {d e:Int}(hc:Cl Tryz.prog main sh J)(hk:KC main K)(h:AtC J 213 [.pointer (some ⟨blk,off,none⟩),.int .u64 d,.int .u64 e] K):AtC J 178 [.pointer (some ⟨blk,off,none⟩),.int .u64 d,.int .u64 e] K:=by
 refine InC.at (by exact hc) ca178 (InC.enter (vs:= [.pointer (some ⟨blk,off,none⟩),.int .u64 d,.int .u64 e]) Tryz.func178 rfl Tryz.ntmps178 (Nat.le_of_ble_eq_true rfl) fun c cs hK=> ?_)
 refine .sq (.rg rfl rfl ?_)
 refine .g ?_
 refine .dn (.sq (.rg rfl rfl ?_))
 refine .m ?_
 refine .x .nk ?_
 refine .x (.fa (zz:=fo_153_2)) ?_
 refine .m ?_
 refine .m ?_
 refine So.callD rfl rfl rfl nofun rfl (.mk' rfl) rfl (h) ?_
 intro v J' hv
 obtain⟨sh',hc⟩:=hk v J' hv
 refine .g ?_
 refine .dn ?_
 refine Sc.retCode (by exact hc) rfl (Sb.leave (by exact hc) Tryz.func178 rfl (by exact .inr ⟨_,Tryz.results178,rfl⟩) ?_)
 exact hK v J' hv
end
end Go.Proofs.YtdnfdeplcjaonaaGreatDoor
end
section
namespace Go.Proofs.YtdnfdeplcjaonaaGreatDoor
open Go.RL Go.Conc Go.ConcN Go.RL.Au
open Go.ConcR (stA smA)
open Go.ConcM (OsLater)
set_option maxRecDepth 10000
set_option maxHeartbeats 1000000
theorem g64_hi:∀a:Nat,a<8→∀b:Nat,b<2→bitI .and .u64 ((a*4294967296+b:Nat):Int) 2147483648=0:=by decide +kernel
theorem g64_lo:∀a:Nat,a<8→∀b:Nat,b<2→bitI .and .u64 ((a*4294967296+b:Nat):Int) 2147483647=(b:Int):=by decide +kernel
theorem g64_sh:∀a:Nat,a<8→∀b:Nat,b<2→((a*4294967296+b:Nat):Int).fdiv (2 ^ (min (32:Int).toNat IntKind.u64.bits))=(a:Int):=by decide +kernel
theorem w64_m1:IntKind.u64.wrap (-1)=18446744073709551615:=by decide +kernel
theorem sh64_m1:shiftV .shl .u64 18446744073709551615 32=some (.int .u64 18446744069414584320):=by
 show some (Value.int .u64 (IntKind.u64.wrap (18446744073709551615*2 ^ (min (32:Int).toNat IntKind.u64.bits))))=_
 rw[show IntKind.u64.wrap (18446744073709551615*2 ^ (min (32:Int).toNat IntKind.u64.bits))=18446744069414584320 by decide +kernel]
theorem w64_1:IntKind.u64.wrap 1=1:=by decide +kernel
theorem sh64_1:shiftV .shl .u64 1 32=some (.int .u64 4294967296):=by
 show some (Value.int .u64 (IntKind.u64.wrap (1*2 ^ (min (32:Int).toNat IntKind.u64.bits))))=_
 rw[show IntKind.u64.wrap (1*2 ^ (min (32:Int).toNat IntKind.u64.bits))=4294967296 by decide +kernel]
theorem w32_m1:IntKind.i32.wrap (-1)= -1:=by decide +kernel
theorem w32_s:∀a:Nat,a<8→IntKind.i32.wrap (a:Int)=(a:Int):=by decide +kernel
theorem wu32_s:∀a:Nat,a<8→IntKind.u32.wrap (a:Int)=(a:Int):=by decide +kernel
end Go.Proofs.YtdnfdeplcjaonaaGreatDoor
end
section
namespace Go.Proofs.YtdnfdeplcjaonaaGreatDoor
open Go.RL Go.Conc Go.ConcN Go.RL.Au
open Go.ConcR (stA smA)
open Go.ConcM (OsLater)
set_option maxRecDepth 10000
set_option maxHeartbeats 1000000
section
variable {X:Fk}{κ:Nat}{H:View}{cc:Frame}{cs:List Frame}
theorem shp_wg(X:Fk):∃e c,X.shp X.Wg=some (e,c)∧0<c:=⟨X.tW,2,by simp[Fk.shp],by decide⟩
theorem shp_wg1(X:Fk):∃e c,X.shp X.Wg=some (e,c)∧0+1<c:=⟨X.tW,2,by simp[Fk.shp],by decide⟩
theorem kw {K:Value→Th→Prop}{k:Nat}:KC false (fun v J'=> ∃k' t',k'<k∧K v t'∧J'=Jw Tryz.prog X κ k' t' H):=fun _ _ ⟨_,_,_,_,h⟩=> ⟨_,h▸Jw.cl0⟩
noncomputable def X103:Code:=cR (cR (cR (cR (bodyOf Tryz.f103))))
abbrev b103:FB:=⟨103,.normal,none⟩
attribute [local irreducible] IntKind.wrap bitI Int.fdiv in
theorem dn_two {a b:Nat}(ha:a<8)(hb:b<2)(hq:¬(a=0∧b=1))(hK:Jq Tryz.prog 0 (G (cc.finish (.tuple #[])) cs)){R:Rg}
   (hR:AllIn [(0,.pointer (some ⟨X.Wg,0,none⟩)),(1,.int .i64 (-1)),(4,.bool false),(6,.int .u64 ((a*4294967296+b:Nat):Int))] R):
   Sc (Jq Tryz.prog 1) 117 b103 (cc::cs) R [dcall 165 #[]] [.code X103]:=by
 refine Sc.drop hR ?_
 have hsh:=shp_wg X
 have f3:=w32_m1
 have g1:intBin .and .u64 ((a*4294967296+b:Nat):Int) 2147483648=some (.int .u64 0):=by rw[←g64_hi a (by omega) b (by omega)];rfl
 have g2:intBin .and .u64 ((a*4294967296+b:Nat):Int) 2147483647=some (.int .u64 (b:Int)):=by rw[←g64_lo a (by omega) b (by omega)];rfl
 have g3:shiftV .shr .u64 ((a*4294967296+b:Nat):Int) 32=some (.int .u64 (a:Int)):=by rw[←g64_sh a (by omega) b (by omega)];rfl
 have g4:=w32_s a (by omega)
 have g5:=wu32_s b (by omega)
 rcases Nat.eq_zero_or_pos a with hpos|hpos
 all_goals rcases Nat.eq_zero_or_pos b with hposb|hposb
 all_goals first
   | (exfalso;omega)
   | (
     refine .sq (.sq (.rg rfl rfl ?_))
     refine .m ?_
     refine .i ?_ (z:=by assumption)
     refine .i ?_ (z:=neq_f (by omega))
     refine .m ?_
     refine .sk ?_
     refine .sk ?_
     refine .x .pk ?_
     refine .dn (.ff rfl (.sp (.sq ?_)))
     refine Sc.drop (R':= [(0,.pointer (some ⟨X.Wg,0,none⟩)),(1,.int .i64 (-1)),(4,.bool false),(6,.int .u64 ((a*4294967296+b:Nat):Int))]) ⟨rfl,rfl,rfl,rfl,trivial⟩ ?_
     refine .rg rfl rfl ?_
     refine .m ?_
     refine .x (OpP.shift rfl rfl rfl (by omega) (by assumption)) ?_
     refine .x (OpP.conv rfl rfl un_151 un_21 (by assumption)) ?_
     refine .g ?_
     refine .dn (.sq ?_)
     refine Sc.drop (R':= [(0,.pointer (some ⟨X.Wg,0,none⟩)),(1,.int .i64 (-1)),(6,.int .u64 ((a*4294967296+b:Nat):Int)),(7,.int .i32 (a:Int))]) ⟨rfl,rfl,rfl,rfl,trivial⟩ ?_
     refine .rg rfl rfl ?_
     refine .m ?_
     refine .i ?_ (z:=by assumption)
     refine .x (OpP.conv rfl rfl un_151 un_154 (by assumption)) ?_
     refine .g ?_
     refine .dn (.sq (.sq ?_))
     refine Sc.drop (R':= [(0,.pointer (some ⟨X.Wg,0,none⟩)),(1,.int .i64 (-1)),(7,.int .i32 (a:Int)),(8,.int .u32 (b:Int))]) ⟨rfl,rfl,rfl,rfl,trivial⟩ ?_
     refine .rg rfl rfl ?_
     refine .m ?_
     refine .m ?_
     refine .i ?_ (z:=gtr_f (by omega))
     refine .x .pk ?_
     refine .m ?_
     refine .sk ?_
     refine .sk ?_
     refine .sk ?_
     refine .sk ?_
     refine .x .pk ?_
     refine .dn (.ff rfl (.sp (.sq (.sq ?_))))
     refine Sc.drop (R':= [(0,.pointer (some ⟨X.Wg,0,none⟩)),(1,.int .i64 (-1)),(7,.int .i32 (a:Int)),(8,.int .u32 (b:Int))]) ⟨rfl,rfl,rfl,rfl,trivial⟩ ?_
     refine .rg rfl rfl ?_
     refine .m ?_
     refine .i ?_ (z:=lss_f (by omega))
     refine .dn (.ff rfl (.sp (.sq (.sq ?_))))
     refine Sc.drop (R':= [(0,.pointer (some ⟨X.Wg,0,none⟩)),(1,.int .i64 (-1)),(7,.int .i32 (a:Int)),(8,.int .u32 (b:Int))]) ⟨rfl,rfl,rfl,rfl,trivial⟩ ?_
     refine .rg rfl rfl ?_
     refine .m ?_
     refine .i ?_ (z:=by first|exact neq_t (by omega)|exact neq_f (by omega))
     refine .m ?_
     first|(refine .sk ?_)|(refine .m ?_)
     first|(refine .sk ?_)|(refine .x (.it (zz:=gtr_f (by omega))) ?_)
     refine .x .pk ?_
     refine .m ?_
     refine .sk ?_
     refine .sk ?_
     refine .sk ?_
     refine .sk ?_
     refine .x .pk ?_
     refine .dn (.ff rfl (.sp (.sq (.sq ?_))))
     refine Sc.drop (R':= [(0,.pointer (some ⟨X.Wg,0,none⟩)),(1,.int .i64 (-1)),(7,.int .i32 (a:Int)),(8,.int .u32 (b:Int))]) ⟨rfl,rfl,rfl,rfl,trivial⟩ ?_
     refine .rg rfl rfl ?_
     refine .m ?_
     refine .i ?_ (z:=by first|exact gtr_t (by omega)|exact gtr_f (by omega))
     refine .m ?_
     first|(refine .sk ?_)|(refine .m ?_)
     first|(refine .sk ?_)|(refine .x (.it (zz:=eql_t (by omega))) ?_)
     refine .x .pk ?_
     refine .dn (.tt rfl ?_)
     refine Sc.retCode Jq.cl rfl (Jq.en e165 rfl (Sb.leave Jq.cl Tryz.func103 rfl (.inl ⟨Tryz.results103,rfl⟩) hK)))
noncomputable def Y103:Code:=cR (cR (cR (cR (cR (cR (cR X103))))))
attribute [local irreducible] IntKind.wrap bitI Int.fdiv in
theorem dn_last {a b k:Nat}(a0:a=0)(b1:b=1)(hK:Jq Tryz.prog 0 (G (cc.finish (.tuple #[])) cs)){R:Rg}
   (hR:AllIn [(0,.pointer (some ⟨X.Wg,0,none⟩)),(4,.bool false),(6,.int .u64 ((a*4294967296+b:Nat):Int)),(8,.int .u32 (b:Int))] R):Sc (Jw Tryz.prog X κ k .d2 H) 117 b103 (cc::cs) R [dcall 165 #[]] [.code Y103]:=by
 refine Sc.drop hR ?_
 have hsh:=shp_wg X
 have g6:intBin .sub .u32 (b:Int) 1=some (.int .u32 0):=by
   rw[b1]
   exact congrArg (fun x=> some (Value.int .u32 x)) (show IntKind.u32.wrap (((1:Nat):Int)-1)=0 by decide +kernel)
 have g7:intBin .neq .u64 1 ((a*4294967296+b:Nat):Int)=some (.bool false):=neq_f (by omega)
 refine .sq (.sq (.rg rfl rfl ?_))
 refine .m ?_
 refine .x .nk ?_
 refine .x (.fa (zz:=fo_156_1)) ?_
 refine So.callD rfl rfl rfl nofun rfl (.mk' rfl) rfl (load64 Jw.cl0 kw (Jw.d2 e211)) ?_
 rintro v J' ⟨k5,t,hk5,⟨rfl,rfl⟩,rfl⟩
 refine .m ?_
 refine .i ?_ (z:=by assumption)
 refine .dn (.ff rfl (.sp (.sq ?_)))
 refine Sc.drop (R':= [(0,.pointer (some ⟨X.Wg,0,none⟩)),(4,.bool false),(6,.int .u64 ((a*4294967296+b:Nat):Int)),(8,.int .u32 (b:Int))]) ⟨rfl,rfl,rfl,rfl,trivial⟩ ?_
 refine .rg rfl rfl ?_
 refine .m ?_
 refine .x .nk ?_
 refine .x (.fa (zz:=fo_156_1)) ?_
 refine So.callD rfl rfl rfl nofun rfl (.mk' rfl) rfl (store64 Jw.cl0 kw (fun v J' ⟨_,_,_,h,_⟩=> h.1) (Jw.d3 e212)) ?_
 rintro v J' ⟨k6,t,hk6,⟨rfl,rfl⟩,rfl⟩
 refine .dn (.sq (.sq ?_))
 refine Sc.drop (R':= [(0,.pointer (some ⟨X.Wg,0,none⟩)),(4,.bool false),(6,.int .u64 ((a*4294967296+b:Nat):Int)),(8,.int .u32 (b:Int))]) ⟨rfl,rfl,rfl,rfl,trivial⟩ ?_
 refine .rg rfl rfl ?_
 refine .m ?_
 refine .dn (.ff rfl (.sp (.bl ?_)))
 refine Sc.loop (by exact Jw.cl0) ?_
 refine .sq (.sq (.rg rfl rfl ?_))
 refine .m ?_
 refine .i ?_ (z:=neq_t (by omega))
 refine .dn (.tt rfl (.sp (.sq (.bl ?_))))
 refine Sc.drop (R':= [(0,.pointer (some ⟨X.Wg,0,none⟩)),(4,.bool false),(6,.int .u64 ((a*4294967296+b:Nat):Int)),(8,.int .u32 (b:Int))]) ⟨rfl,rfl,rfl,rfl,trivial⟩ ?_
 refine .rg rfl rfl ?_
 refine .m ?_
 refine .x .nk ?_
 refine .x (.fa (zz:=fo_156_2)) ?_
 refine So.callD rfl rfl rfl nofun rfl (.mk' rfl) rfl (Jw.d4 (vs:= [.pointer (some ⟨X.Wg,1,none⟩),.bool false,.int .i64 0]) e175 rfl) ?_
 rintro v J' ⟨k7,t,hk7,⟨rfl,rfl⟩,rfl⟩
 refine So.mono ?_ (fun g=> Jq.jw)
 refine .dn (.ib ?_)
 refine Sc.drop (R':= [(0,.pointer (some ⟨X.Wg,0,none⟩)),(4,.bool false),(6,.int .u64 ((a*4294967296+b:Nat):Int)),(8,.int .u32 (b:Int))]) ⟨rfl,rfl,rfl,rfl,trivial⟩ ?_
 refine .rg rfl rfl ?_
 refine .m ?_
 refine .i ?_ (z:=by assumption)
 refine .g ?_
 refine .dn ?_
 refine Sc.inLoop (by exact Jq.cl) ?_
 refine Sc.drop (R':= [(8,.int .u32 0)]) ⟨rfl,trivial⟩ ?_
 refine .sq (.sq (.rg rfl rfl ?_))
 refine .m ?_
 refine .i ?_ (z:=neq_f (by omega))
 refine .dn (.ff rfl (.xt rfl ?_))
 refine Sc.over Jq.cl rfl (Jq.en e165 rfl (Sb.leave Jq.cl Tryz.func103 rfl (.inl ⟨Tryz.results103,rfl⟩) hK))
attribute [local irreducible] IntKind.wrap bitI Int.fdiv in
theorem dn_one {a b k:Nat}(a0:a=0)(b1:b=1)(hK:Jq Tryz.prog 0 (G (cc.finish (.tuple #[])) cs)){R:Rg}
   (hR:AllIn [(0,.pointer (some ⟨X.Wg,0,none⟩)),(1,.int .i64 (-1)),(4,.bool false),(6,.int .u64 ((a*4294967296+b:Nat):Int))] R):Sc (Jw Tryz.prog X κ k .d2 H) 117 b103 (cc::cs) R [dcall 165 #[]] [.code X103]:=by
 refine Sc.drop hR ?_
 have hsh:=shp_wg X
 have f3:=w32_m1
 have g1:intBin .and .u64 ((a*4294967296+b:Nat):Int) 2147483648=some (.int .u64 0):=by rw[←g64_hi a (by omega) b (by omega)];rfl
 have g2:intBin .and .u64 ((a*4294967296+b:Nat):Int) 2147483647=some (.int .u64 (b:Int)):=by rw[←g64_lo a (by omega) b (by omega)];rfl
 have g3:shiftV .shr .u64 ((a*4294967296+b:Nat):Int) 32=some (.int .u64 (a:Int)):=by rw[←g64_sh a (by omega) b (by omega)];rfl
 have g4:=w32_s a (by omega)
 have g5:=wu32_s b (by omega)
 refine .sq (.sq (.rg rfl rfl ?_))
 refine .m ?_
 refine .i ?_ (z:=by assumption)
 refine .i ?_ (z:=neq_f (by omega))
 refine .m ?_
 refine .sk ?_
 refine .sk ?_
 refine .x .pk ?_
 refine .dn (.ff rfl (.sp (.sq ?_)))
 refine Sc.drop (R':= [(0,.pointer (some ⟨X.Wg,0,none⟩)),(1,.int .i64 (-1)),(4,.bool false),(6,.int .u64 ((a*4294967296+b:Nat):Int))]) ⟨rfl,rfl,rfl,rfl,trivial⟩ ?_
 refine .rg rfl rfl ?_
 refine .m ?_
 refine .x (OpP.shift rfl rfl rfl (by omega) (by assumption)) ?_
 refine .x (OpP.conv rfl rfl un_151 un_21 (by assumption)) ?_
 refine .g ?_
 refine .dn (.sq ?_)
 refine Sc.drop (R':= [(0,.pointer (some ⟨X.Wg,0,none⟩)),(1,.int .i64 (-1)),(4,.bool false),(6,.int .u64 ((a*4294967296+b:Nat):Int)),(7,.int .i32 (a:Int))]) ⟨rfl,rfl,rfl,rfl,rfl,trivial⟩ ?_
 refine .rg rfl rfl ?_
 refine .m ?_
 refine .i ?_ (z:=by assumption)
 refine .x (OpP.conv rfl rfl un_151 un_154 (by assumption)) ?_
 refine .g ?_
 refine .dn (.sq (.sq ?_))
 refine Sc.drop (R':= [(0,.pointer (some ⟨X.Wg,0,none⟩)),(1,.int .i64 (-1)),(4,.bool false),(6,.int .u64 ((a*4294967296+b:Nat):Int)),(7,.int .i32 (a:Int)),(8,.int .u32 (b:Int))]) ⟨rfl,rfl,rfl,rfl,rfl,rfl,trivial⟩ ?_
 refine .rg rfl rfl ?_
 refine .m ?_
 refine .m ?_
 refine .i ?_ (z:=gtr_f (by omega))
 refine .x .pk ?_
 refine .m ?_
 refine .sk ?_
 refine .sk ?_
 refine .sk ?_
 refine .sk ?_
 refine .x .pk ?_
 refine .dn (.ff rfl (.sp (.sq (.sq ?_))))
 refine Sc.drop (R':= [(0,.pointer (some ⟨X.Wg,0,none⟩)),(1,.int .i64 (-1)),(4,.bool false),(6,.int .u64 ((a*4294967296+b:Nat):Int)),(7,.int .i32 (a:Int)),(8,.int .u32 (b:Int))]) ⟨rfl,rfl,rfl,rfl,rfl,rfl,trivial⟩ ?_
 refine .rg rfl rfl ?_
 refine .m ?_
 refine .i ?_ (z:=lss_f (by omega))
 refine .dn (.ff rfl (.sp (.sq (.sq ?_))))
 refine Sc.drop (R':= [(0,.pointer (some ⟨X.Wg,0,none⟩)),(1,.int .i64 (-1)),(4,.bool false),(6,.int .u64 ((a*4294967296+b:Nat):Int)),(7,.int .i32 (a:Int)),(8,.int .u32 (b:Int))]) ⟨rfl,rfl,rfl,rfl,rfl,rfl,trivial⟩ ?_
 refine .rg rfl rfl ?_
 refine .m ?_
 refine .i ?_ (z:=neq_t (by omega))
 refine .m ?_
 refine .m ?_
 refine .i ?_ (z:=gtr_f (by omega))
 refine .x .pk ?_
 refine .m ?_
 refine .sk ?_
 refine .sk ?_
 refine .sk ?_
 refine .sk ?_
 refine .x .pk ?_
 refine .dn (.ff rfl (.sp (.sq (.sq ?_))))
 refine Sc.drop (R':= [(0,.pointer (some ⟨X.Wg,0,none⟩)),(1,.int .i64 (-1)),(4,.bool false),(6,.int .u64 ((a*4294967296+b:Nat):Int)),(7,.int .i32 (a:Int)),(8,.int .u32 (b:Int))]) ⟨rfl,rfl,rfl,rfl,rfl,rfl,trivial⟩ ?_
 refine .rg rfl rfl ?_
 refine .m ?_
 refine .i ?_ (z:=gtr_f (by omega))
 refine .m ?_
 refine .m ?_
 refine .i ?_ (z:=eql_f (by omega))
 refine .x .pk ?_
 refine .dn (.ff rfl (.sp ?_))
 exact dn_last a0 b1 hK ⟨rfl,rfl,rfl,rfl,trivial⟩
attribute [local irreducible] IntKind.wrap bitI Int.fdiv in
theorem donew_c {k:Nat}:AtC (Jw Tryz.prog X κ k .wr H) 103 [.pointer (some ⟨X.Wg,0,none⟩),.int .i64 (-1)] fun v J'=> v=.tuple #[]∧J'=Jq Tryz.prog 0:=by
 refine InC.at (by exact Jw.clX rfl) ca103 (InC.enter (vs:= [.pointer (some ⟨X.Wg,0,none⟩),.int .i64 (-1)]) Tryz.func103 rfl Tryz.ntmps103 (Nat.le_of_ble_eq_true rfl) fun c cs hK=> ?_)
 have hsh:=shp_wg X
 have f1:=w64_m1
 have f2:=sh64_m1
 have f3:=w32_m1
 refine .sq (.tt rfl (.sq (.sq (.rg rfl rfl ?_))))
 refine .m ?_
 refine .i ?_ (z:=lss_t (by omega))
 refine .dn (.tt rfl (.rg rfl rfl ?_))
 refine .m ?_
 refine .x (OpP.raw rfl rfl un_201 un_203 sz_156 (by assumption)) ?_
 refine So.callD rfl rfl rfl nofun rfl (.mk' rfl) rfl (Jw.wr e163) ?_
 rintro v J' ⟨rfl,k1,hk1,rfl⟩
 refine .dn (.sq (.rg rfl rfl ?_))
 refine So.callD rfl rfl rfl nofun rfl (.mk' rfl) rfl (Jw.wk e164) ?_
 rintro v J' ⟨k2,t,hk2,⟨rfl,rfl⟩,rfl⟩
 refine .dn (.rg rfl rfl ?_)
 refine So.defer Jw.cl0 (f:=165) (vs:= []) rfl nofun rfl rfl ⟨_,rfl⟩ rfl ?_
 refine .dn (.sq ?_)
 refine Sc.drop (R':= [(0,.pointer (some ⟨X.Wg,0,none⟩)),(1,.int .i64 (-1))]) ⟨rfl,rfl,trivial⟩ ?_
 refine .rg rfl rfl ?_
 refine .g ?_
 refine .dn (.sq (.sq (.rg rfl rfl ?_)))
 refine So.callD rfl rfl rfl nofun rfl (.mk' rfl) rfl (Jw.wi e166) ?_
 rintro v J' ⟨k3,t,hk3,⟨rfl,rfl⟩,rfl⟩
 refine .dn (.ff rfl (.sp (.sq ?_)))
 refine Sc.drop (R':= [(0,.pointer (some ⟨X.Wg,0,none⟩)),(1,.int .i64 (-1)),(4,.bool false)]) ⟨rfl,rfl,rfl,trivial⟩ ?_
 refine .rg rfl rfl ?_
 refine .m ?_
 refine .x .nk ?_
 refine .x (.fa (zz:=fo_156_1)) ?_
 refine .m ?_
 refine .x (OpP.conv rfl rfl un_3 un_151 (by assumption)) ?_
 refine .x (OpP.shift rfl rfl rfl (by omega) (by assumption)) ?_
 refine So.callD rfl rfl rfl nofun rfl (.mk' rfl) rfl (add64 Jw.cl0 kw (Jw.d1 e210)) ?_
 rintro v J' ⟨k4,t,hk4,⟨a,b,ha,hb,rfl,rfl⟩,rfl⟩
 by_cases hq:a=0∧b=1
 · rw[if_pos hq]
   refine .g ?_
   refine .dn ?_
   exact dn_one hq.1 hq.2 (hK _ _ ⟨rfl,rfl⟩) ⟨rfl,rfl,rfl,rfl,trivial⟩
 · rw[if_neg hq]
   refine So.mono ?_ (fun g=> Jq.jw)
   refine .g ?_
   refine .dn ?_
   exact dn_two (by omega) (by omega) hq (hK _ _ ⟨rfl,rfl⟩) ⟨rfl,rfl,rfl,rfl,trivial⟩
theorem done_d {k n:Nat}{b:FB}{R:Rg}{ds:List Deferred}(hb:b.rd=none)
   (h:Sb (Jq Tryz.prog 0) n b cs R ds):Sb (Jw Tryz.prog X κ k .wr H) n b cs R (dcall 105 #[.pointer (some ⟨X.Wg,0,none⟩)]::ds):=by
 refine Sb.enterD (vs:= [.pointer (some ⟨X.Wg,0,none⟩)]) Jw.cl0 hb Tryz.func105 (by kernel_rfl) rfl Tryz.ntmps105 (Nat.le_of_ble_eq_true rfl) fun c hm hc=> ?_
 refine .rg rfl rfl ?_
 refine .m ?_
 refine So.callD rfl rfl rfl nofun rfl (.mk' rfl) rfl (donew_c) ?_
 rintro v J' ⟨rfl,rfl⟩
 refine .dn ?_
 refine Sc.over Jq.cl rfl (Sb.leaveD Jq.cl Tryz.func105 rfl Tryz.results105 (.inl hm) (hc _ h))
end
end Go.Proofs.YtdnfdeplcjaonaaGreatDoor
end
section
namespace Go.Proofs.YtdnfdeplcjaonaaGreatDoor
open Go.RL Go.Conc Go.ConcN Go.RL.Au
open Go.ConcR (stA smA)
open Go.ConcM (OsLater)
set_option maxRecDepth 10000
set_option maxHeartbeats 1000000
section
variable {X:Fk}{H:View}{Fin:Goroutine→Prop}{j:Nat}{cc:Frame}{cs:List Frame}
theorem km {K:Value→Mn→Prop}{k:Nat}:KC true (fun v J'=> ∃k' m',k'<k∧K v m'∧J'=Jm Tryz.prog X Fin k' m' j H):=fun _ _ ⟨_,_,_,_,h⟩=> ⟨_,h▸Jm.cl⟩
theorem w32_1:IntKind.i32.wrap 1=1:=by decide +kernel
attribute [local irreducible] IntKind.wrap bitI Int.fdiv in
theorem addone_c {k:Nat}:AtC (Jm Tryz.prog X Fin k .kd j H) 103 [.pointer (some ⟨X.Wg,0,none⟩),.int .i64 1] fun v J'=> v=.tuple #[]∧∃k',J'=Jm Tryz.prog X Fin k' .go j H:=by
 refine InC.at (by exact Jm.cl) ca103 (InC.enter (vs:= [.pointer (some ⟨X.Wg,0,none⟩),.int .i64 1]) Tryz.func103 rfl Tryz.ntmps103 (Nat.le_of_ble_eq_true rfl) fun c cs hK=> ?_)
 have hsh:=shp_wg1 X
 have f1:=w64_1
 have f2:=sh64_1
 have f3:=w32_1
 refine .sq (.tt rfl (.sq (.sq (.rg rfl rfl ?_))))
 refine .m ?_
 refine .i ?_ (z:=lss_f (by omega))
 refine .dn (.ff rfl (.sp (.sq (.rg rfl rfl ?_))))
 refine So.callD rfl rfl rfl nofun rfl (.mk' rfl) rfl (Jm.kd e164) ?_
 rintro v J' ⟨k2,t,hk2,⟨rfl,rfl⟩,rfl⟩
 refine .dn (.rg rfl rfl ?_)
 refine So.defer Jm.cl (f:=165) (vs:= []) rfl nofun rfl rfl ⟨_,rfl⟩ rfl ?_
 refine .dn (.sq (.rg rfl rfl ?_))
 refine .g ?_
 refine .dn (.sq (.sq (.rg rfl rfl ?_)))
 refine So.callD rfl rfl rfl nofun rfl (.mk' rfl) rfl (Jm.ki e166) ?_
 rintro v J' ⟨k3,t,hk3,⟨rfl,rfl⟩,rfl⟩
 refine .dn (.ff rfl (.sp (.sq (.rg rfl rfl ?_))))
 refine .m ?_
 refine .x .nk ?_
 refine .x (.fa (zz:=fo_156_1)) ?_
 refine .m ?_
 refine .x (OpP.conv rfl rfl un_3 un_151 (by assumption)) ?_
 refine .x (OpP.shift rfl rfl rfl (by omega) (by assumption)) ?_
 refine So.callD rfl rfl rfl nofun rfl (.mk' rfl) rfl (add64 Jm.cl km (Jm.ka e210)) ?_
 rintro v J' ⟨k4,t,hk4,⟨a,ha,rfl,rfl⟩,rfl⟩
 have e0:(((a+1)*4294967296:Nat):Int)=(((a+1)*4294967296+0:Nat):Int):=(congrArg (fun x:Nat=> (x:Int)) (Nat.add_zero _)).symm
 have g1:intBin .and .u64 (((a+1)*4294967296:Nat):Int) 2147483648=some (.int .u64 0):=by rw[e0,←g64_hi (a+1) (by omega) 0 (by omega)];rfl
 have g2:intBin .and .u64 (((a+1)*4294967296:Nat):Int) 2147483647=some (.int .u64 0):=by
   have:=g64_lo (a+1) (by omega) 0 (by omega)
   rw[e0]
   exact congrArg (fun x=> some (Value.int .u64 x)) this
 have g3:shiftV .shr .u64 (((a+1)*4294967296:Nat):Int) 32=some (.int .u64 ((a+1:Nat):Int)):=by rw[e0,←g64_sh (a+1) (by omega) 0 (by omega)];rfl
 have g4:=w32_s (a+1) (by omega)
 have g5:IntKind.u32.wrap 0=0:=wu32_s 0 (by omega)
 have gg:(0:Int)<((a+1:Nat):Int):=by omega
 refine .g ?_
 refine .dn ?_
 refine Sc.drop (R':= [(0,.pointer (some ⟨X.Wg,0,none⟩)),(1,.int .i64 1),(4,.bool false),(6,.int .u64 (((a+1)*4294967296:Nat):Int))]) ⟨rfl,rfl,rfl,rfl,trivial⟩ ?_
 refine .sq (.sq (.rg rfl rfl ?_))
 refine .m ?_
 refine .i ?_ (z:=by assumption)
 refine .i ?_ (z:=neq_f (by omega))
 refine .m ?_
 refine .sk ?_
 refine .sk ?_
 refine .x .pk ?_
 refine .dn (.ff rfl (.sp (.sq ?_)))
 refine Sc.drop (R':= [(0,.pointer (some ⟨X.Wg,0,none⟩)),(1,.int .i64 1),(4,.bool false),(6,.int .u64 (((a+1)*4294967296:Nat):Int))]) ⟨rfl,rfl,rfl,rfl,trivial⟩ ?_
 refine .rg rfl rfl ?_
 refine .m ?_
 refine .x (OpP.shift rfl rfl rfl (by omega) (by assumption)) ?_
 refine .x (OpP.conv rfl rfl un_151 un_21 (by assumption)) ?_
 refine .g ?_
 refine .dn ?_
 refine Sc.drop (R':= [(0,.pointer (some ⟨X.Wg,0,none⟩)),(1,.int .i64 1),(4,.bool false),(6,.int .u64 (((a+1)*4294967296:Nat):Int)),(7,.int .i32 ((a+1:Nat):Int))]) ⟨rfl,rfl,rfl,rfl,rfl,trivial⟩ ?_
 refine .sq (.rg rfl rfl ?_)
 refine .m ?_
 refine .i ?_ (z:=by assumption)
 refine .x (OpP.conv rfl rfl un_151 un_154 (by assumption)) ?_
 refine .g ?_
 refine .dn ?_
 refine Sc.drop (R':= [(0,.pointer (some ⟨X.Wg,0,none⟩)),(1,.int .i64 1),(4,.bool false),(7,.int .i32 ((a+1:Nat):Int)),(8,.int .u32 0)]) ⟨rfl,rfl,rfl,rfl,rfl,trivial⟩ ?_
 refine .sq (.sq ?_)
 by_cases hz:a=0
 · rw[if_pos hz]
   have q1:intBin .eql .i32 ((a+1:Nat):Int) 1=some (.bool true):=eql_t (by omega)
   refine .rg rfl rfl ?_
   refine .m ?_
   refine .m ?_
   refine .i ?_ (z:=gtr_t (by omega))
   refine .x .pk ?_
   refine .m ?_
   refine .m ?_
   refine .m ?_
   refine .x (OpP.conv rfl rfl un_3 un_21 (by assumption)) ?_
   refine .i ?_ (z:=by assumption)
   refine .x .pk ?_
   refine .dn (.tt rfl ?_)
   refine Sc.drop (R':= [(0,.pointer (some ⟨X.Wg,0,none⟩)),(1,.int .i64 1),(4,.bool false),(7,.int .i32 ((a+1:Nat):Int)),(8,.int .u32 0)]) ⟨rfl,rfl,rfl,rfl,rfl,trivial⟩ ?_
   refine .rg rfl rfl ?_
   refine .m ?_
   refine .x .nk ?_
   refine .x (.fa (zz:=fo_156_2)) ?_
   refine .x (OpP.raw rfl rfl un_208 un_203 sz_154 (by assumption)) ?_
   refine So.callD rfl rfl rfl nofun rfl (.mk' rfl) rfl (Jm.kr e171) ?_
   rintro v J' ⟨rfl,k5,hk5,rfl⟩
   refine .dn ?_
   refine Sc.drop (R':= [(0,.pointer (some ⟨X.Wg,0,none⟩)),(1,.int .i64 1),(4,.bool false),(7,.int .i32 ((a+1:Nat):Int)),(8,.int .u32 0)]) ⟨rfl,rfl,rfl,rfl,rfl,trivial⟩ ?_
   refine .sq (.sq (.rg rfl rfl ?_))
   refine .m ?_
   refine .i ?_ (z:=lss_f (by omega))
   refine .dn (.ff rfl (.sp (.sq (.sq (.rg rfl rfl ?_)))))
   refine .m ?_
   refine .i ?_ (z:=neq_f (by omega))
   refine .m ?_
   refine .sk ?_
   refine .sk ?_
   refine .x .pk ?_
   refine .m ?_
   refine .sk ?_
   refine .sk ?_
   refine .sk ?_
   refine .sk ?_
   refine .x .pk ?_
   refine .dn (.ff rfl (.sp (.sq (.sq ?_))))
   refine Sc.drop (R':= [(0,.pointer (some ⟨X.Wg,0,none⟩)),(1,.int .i64 1),(4,.bool false),(7,.int .i32 ((a+1:Nat):Int)),(8,.int .u32 0)]) ⟨rfl,rfl,rfl,rfl,rfl,trivial⟩ ?_
   refine .rg rfl rfl ?_
   refine .m ?_
   refine .i ?_ (z:=gtr_t (by omega))
   refine .m ?_
   refine .sk ?_
   refine .sk ?_
   refine .x .pk ?_
   refine .dn (.tt rfl ?_)
   refine Sc.retCode Jm.cl rfl (Jm.ke e165 rfl (fun k' _=> Sb.leave Jm.cl Tryz.func103 rfl (.inl ⟨Tryz.results103,rfl⟩) (hK _ _ ⟨rfl,k',rfl⟩)))
 · rw[if_neg hz]
   have q1:intBin .eql .i32 ((a+1:Nat):Int) 1=some (.bool false):=eql_f (by omega)
   refine .rg rfl rfl ?_
   refine .m ?_
   refine .m ?_
   refine .i ?_ (z:=gtr_t (by omega))
   refine .x .pk ?_
   refine .m ?_
   refine .m ?_
   refine .m ?_
   refine .x (OpP.conv rfl rfl un_3 un_21 (by assumption)) ?_
   refine .i ?_ (z:=by assumption)
   refine .x .pk ?_
   refine .dn (.ff rfl (.sp (.sq (.sq ?_))))
   refine Sc.drop (R':= [(0,.pointer (some ⟨X.Wg,0,none⟩)),(1,.int .i64 1),(4,.bool false),(7,.int .i32 ((a+1:Nat):Int)),(8,.int .u32 0)]) ⟨rfl,rfl,rfl,rfl,rfl,trivial⟩ ?_
   refine .rg rfl rfl ?_
   refine .m ?_
   refine .i ?_ (z:=lss_f (by omega))
   refine .dn (.ff rfl (.sp (.sq (.sq (.rg rfl rfl ?_)))))
   refine .m ?_
   refine .i ?_ (z:=neq_f (by omega))
   refine .m ?_
   refine .sk ?_
   refine .sk ?_
   refine .x .pk ?_
   refine .m ?_
   refine .sk ?_
   refine .sk ?_
   refine .sk ?_
   refine .sk ?_
   refine .x .pk ?_
   refine .dn (.ff rfl (.sp (.sq (.sq ?_))))
   refine Sc.drop (R':= [(0,.pointer (some ⟨X.Wg,0,none⟩)),(1,.int .i64 1),(4,.bool false),(7,.int .i32 ((a+1:Nat):Int)),(8,.int .u32 0)]) ⟨rfl,rfl,rfl,rfl,rfl,trivial⟩ ?_
   refine .rg rfl rfl ?_
   refine .m ?_
   refine .i ?_ (z:=gtr_t (by omega))
   refine .m ?_
   refine .sk ?_
   refine .sk ?_
   refine .x .pk ?_
   refine .dn (.tt rfl ?_)
   refine Sc.retCode Jm.cl rfl (Jm.ke e165 rfl (fun k' _=> Sb.leave Jm.cl Tryz.func103 rfl (.inl ⟨Tryz.results103,rfl⟩) (hK _ _ ⟨rfl,k',rfl⟩)))
end
end Go.Proofs.YtdnfdeplcjaonaaGreatDoor
end
section
namespace Go.Proofs.YtdnfdeplcjaonaaGreatDoor
open Go.RL Go.Conc Go.ConcN Go.RL.Au
open Go.ConcR (stA smA)
open Go.ConcM (OsLater)
set_option maxRecDepth 10000
set_option maxHeartbeats 1000000
section
variable {X:Fk}{H:View}{Fin:Goroutine→Prop}{j:Nat}{cc:Frame}{cs:List Frame}
noncomputable def B165:Code:=cB (cB (cR (bodyOf Tryz.f107)))
abbrev b107:FB:=⟨107,.normal,none⟩
attribute [local irreducible] IntKind.wrap bitI Int.fdiv in
theorem wait_head(hc:Cl Tryz.prog true noSh Fin)(hK:Fin (G (cc.finish (.tuple #[])) cs))(k:Nat):∀R:Rg,AllIn [(0,.pointer (some ⟨X.Wg,0,none⟩))] R→Sc (Jm Tryz.prog X Fin k .w1 j H) 84 b107 (cc::cs) R [] [.code B165,.inLoop B165,.inBlock 0]:=by
 induction k using Nat.strongRecOn with
 | ind k IH=>
   intro R hR
   refine Sc.drop hR ?_
   have hsh:=shp_wg X
   have hsh1:=shp_wg1 X
   refine Sc.block (by first|exact Jm.cl|exact hc) ?_;refine Sc.seq (by first|exact Jm.cl|exact hc) ?_
   refine .rg rfl rfl ?_
   refine .m ?_
   refine .x .nk ?_
   refine .x (.fa (zz:=fo_156_1)) ?_
   refine So.callD rfl rfl rfl nofun rfl (.mk' rfl) rfl (load64 Jm.cl km (Jm.w1 e211)) ?_
   rintro v J' ⟨k1,t,hk1,⟨a,ha,rfl,rfl⟩,rfl⟩
   have e0:((a*4294967296:Nat):Int)=((a*4294967296+0:Nat):Int):=(congrArg (fun x:Nat=> (x:Int)) (Nat.add_zero _)).symm
   have g1:intBin .and .u64 ((a*4294967296:Nat):Int) 2147483648=some (.int .u64 0):=by rw[e0,←g64_hi a (by omega) 0 (by omega)];rfl
   have g2:intBin .and .u64 ((a*4294967296:Nat):Int) 2147483647=some (.int .u64 0):=by
     have:=g64_lo a (by omega) 0 (by omega)
     rw[e0]
     exact congrArg (fun x=> some (Value.int .u64 x)) this
   have g3:shiftV .shr .u64 ((a*4294967296:Nat):Int) 32=some (.int .u64 (a:Int)):=by rw[e0,←g64_sh a (by omega) 0 (by omega)];rfl
   have g4:=w32_s a (by omega)
   have g5:IntKind.u32.wrap 0=0:=wu32_s 0 (by omega)
   have g6:intBin .add .u64 ((a*4294967296:Nat):Int) 1=some (.int .u64 ((a*4294967296+1:Nat):Int)):=by
     have h:∀a:Nat,a<8→IntKind.u64.wrap (((a*4294967296:Nat):Int)+1)=((a*4294967296+1:Nat):Int):=by decide +kernel
     exact congrArg (fun x=> some (Value.int .u64 x)) (h a (by omega))
   refine .g ?_
   refine .dn ?_
   refine Sc.drop (R':= [(0,.pointer (some ⟨X.Wg,0,none⟩)),(2,.int .u64 ((a*4294967296:Nat):Int))]) ⟨rfl,rfl,trivial⟩ ?_
   refine Sc.seq (by first|exact Jm.cl|exact hc) ?_
   refine .rg rfl rfl ?_
   refine .m ?_
   refine .x (OpP.shift rfl rfl rfl (by omega) (by assumption)) ?_
   refine .x (OpP.conv rfl rfl un_151 un_21 (by assumption)) ?_
   refine .g ?_
   refine .dn ?_
   refine Sc.drop (R':= [(0,.pointer (some ⟨X.Wg,0,none⟩)),(2,.int .u64 ((a*4294967296:Nat):Int)),(3,.int .i32 (a:Int))]) ⟨rfl,rfl,rfl,trivial⟩ ?_
   refine Sc.seq (by first|exact Jm.cl|exact hc) ?_
   refine .rg rfl rfl ?_
   refine .m ?_
   refine .i ?_ (z:=by assumption)
   refine .x (OpP.conv rfl rfl un_151 un_154 (by assumption)) ?_
   refine .g ?_
   refine .dn ?_
   refine Sc.drop (R':= [(0,.pointer (some ⟨X.Wg,0,none⟩)),(2,.int .u64 ((a*4294967296:Nat):Int)),(3,.int .i32 (a:Int)),(4,.int .u32 0)]) ⟨rfl,rfl,rfl,rfl,trivial⟩ ?_
   refine Sc.seq (by first|exact Jm.cl|exact hc) ?_;refine Sc.seq (by first|exact Jm.cl|exact hc) ?_
   by_cases hz:a=0
   · rw[if_pos hz]
     have q1:intBin .eql .i32 (a:Int) 0=some (.bool true):=eql_t (by omega)
     refine .rg rfl rfl ?_
     refine .m ?_
     refine .i ?_ (z:=by assumption)
     refine .dn ?_
     refine Sc.cond (by first|exact Jm.cl|exact hc) (t:=true) rfl (fun _=> ?_) (fun h=> nomatch h);refine Sc.seq (by first|exact Jm.cl|exact hc) ?_;refine Sc.cond (by first|exact Jm.cl|exact hc) (t:=true) rfl (fun _=> ?_) (fun h=> nomatch h);refine Sc.seq (by first|exact Jm.cl|exact hc) ?_
     refine .rg rfl rfl ?_
     refine So.callD rfl rfl rfl nofun rfl (.mk' rfl) rfl (Jm.we e165) ?_
     rintro v J' ⟨k2,t,hk2,⟨rfl,rfl⟩,rfl⟩
     refine .dn (.rg rfl rfl ?_)
     refine .m ?_
     refine .x (OpP.raw rfl rfl un_201 un_203 sz_156 (by assumption)) ?_
     refine So.callD rfl rfl rfl nofun rfl (.mk' rfl) rfl (Jm.aq e176) ?_
     rintro v J' ⟨rfl,rfl⟩
     refine .dn (.sq (.sq (.rg rfl rfl ?_)))
     refine .m ?_
     refine .i ?_ (z:=eql_t (by omega))
     refine .m ?_
     refine .m ?_
     refine .i ?_ (z:=by assumption)
     refine .i ?_ (z:=neq_f (by omega))
     refine .x .pk ?_
     refine .m ?_
     refine .sk ?_
     refine .sk ?_
     refine .x .pk ?_
     refine .dn (.ff rfl (.sp ?_))
     refine Sc.retCode (by exact hc) rfl (Sb.leave (by exact hc) Tryz.func107 rfl (by exact .inl ⟨Tryz.results107,rfl⟩) ?_)
     exact hK
   · rw[if_neg hz]
     have q1:intBin .eql .i32 (a:Int) 0=some (.bool false):=eql_f (by omega)
     refine .rg rfl rfl ?_
     refine .m ?_
     refine .i ?_ (z:=by assumption)
     refine .dn ?_
     refine Sc.cond (by first|exact Jm.cl|exact hc) (t:=false) rfl (fun h=> nomatch h) (fun _=> ?_);refine Sc.skip (by first|exact Jm.cl|exact hc) ?_;refine Sc.seq (by first|exact Jm.cl|exact hc) ?_
     refine .rg rfl rfl ?_
     refine .m ?_
     refine .x .nk ?_
     refine .x (.fa (zz:=fo_156_1)) ?_
     refine .m ?_
     refine .m ?_
     refine .i ?_ (z:=by assumption)
     refine So.callD rfl rfl rfl nofun rfl (.mk' rfl) rfl (cas64 Jm.cl km (Jm.w2 e213)) ?_
     rintro v J' ⟨k2,t,hk2,⟨rfl,rfl⟩|⟨rfl,rfl⟩,rfl⟩
     · refine .dn ?_
       refine Sc.cond (by first|exact Jm.cl|exact hc) (t:=true) rfl (fun _=> ?_) (fun h=> nomatch h);refine Sc.seq (by first|exact Jm.cl|exact hc) ?_;refine Sc.seq (by first|exact Jm.cl|exact hc) ?_
       refine Sc.drop (R':= [(0,.pointer (some ⟨X.Wg,0,none⟩)),(2,.int .u64 ((a*4294967296:Nat):Int)),(4,.int .u32 0)]) ⟨rfl,rfl,rfl,trivial⟩ ?_
       refine .rg rfl rfl ?_
       refine .m ?_
       refine .m ?_
       refine .i ?_ (z:=eql_t (by omega))
       refine .x .pk ?_
       refine .dn ?_
       refine Sc.cond (by first|exact Jm.cl|exact hc) (t:=true) rfl (fun _=> ?_) (fun h=> nomatch h)
       refine .rg rfl rfl ?_
       refine .m ?_
       refine .x .nk ?_
       refine .x (.fa (zz:=fo_156_2)) ?_
       refine .x (OpP.raw rfl rfl un_208 un_203 sz_154 (by assumption)) ?_
       refine So.callD rfl rfl rfl nofun rfl (.mk' rfl) rfl (Jm.wm e179) ?_
       rintro v J' ⟨rfl,k3,hk3,rfl⟩
       refine .dn ?_
       refine Sc.drop (R':= [(0,.pointer (some ⟨X.Wg,0,none⟩)),(2,.int .u64 ((a*4294967296:Nat):Int)),(4,.int .u32 0)]) ⟨rfl,rfl,rfl,trivial⟩ ?_
       refine Sc.seq (by first|exact Jm.cl|exact hc) ?_
       refine .rg rfl rfl ?_
       refine .g ?_
       refine .dn ?_
       refine Sc.seq (by first|exact Jm.cl|exact hc) ?_;refine Sc.seq (by first|exact Jm.cl|exact hc) ?_
       refine .rg rfl rfl ?_
       refine .m ?_
       refine .i ?_ (z:=by assumption)
       refine .i ?_ (z:=neq_f (by omega))
       refine .m ?_
       refine .sk ?_
       refine .x .pk ?_
       refine .dn ?_
       refine Sc.cond (by first|exact Jm.cl|exact hc) (t:=false) rfl (fun h=> nomatch h) (fun _=> ?_);refine Sc.skip (by first|exact Jm.cl|exact hc) ?_;refine Sc.seq (by first|exact Jm.cl|exact hc) ?_
       refine .rg rfl rfl ?_
       refine .m ?_
       refine .x .nk ?_
       refine .x (.fa (zz:=fo_156_2)) ?_
       refine .m ?_
       refine So.callD rfl rfl rfl nofun rfl (.mk' rfl) rfl (Jm.ws (vs:= [.pointer (some ⟨X.Wg,1,none⟩),.bool false]) e180 rfl) ?_
       rintro v J' ⟨k4,t,hk4,⟨rfl,rfl⟩,rfl⟩
       refine .dn ?_
       refine Sc.drop (R':= [(0,.pointer (some ⟨X.Wg,0,none⟩))]) ⟨rfl,trivial⟩ ?_
       refine Sc.seq (by first|exact Jm.cl|exact hc) ?_
       refine .rg rfl rfl ?_
       refine .m ?_
       refine .x .nk ?_
       refine .x (.fa (zz:=fo_156_1)) ?_
       refine So.callD rfl rfl rfl nofun rfl (.mk' rfl) rfl (load64 Jm.cl km (Jm.w4 e211)) ?_
       rintro v J' ⟨k5,t,hk5,⟨rfl,rfl⟩,rfl⟩
       refine .i ?_ (z:=neq_f (by omega))
       refine .g ?_
       refine .dn ?_
       refine Sc.seq (by first|exact Jm.cl|exact hc) ?_;refine Sc.cond (by first|exact Jm.cl|exact hc) (t:=true) rfl (fun _=> ?_) (fun h=> nomatch h);refine Sc.seq (by first|exact Jm.cl|exact hc) ?_
       refine .rg rfl rfl ?_
       refine So.callD rfl rfl rfl nofun rfl (.mk' rfl) rfl (Jm.we e165) ?_
       rintro v J' ⟨k6,t,hk6,⟨rfl,rfl⟩,rfl⟩
       refine .dn (.rg rfl rfl ?_)
       refine .m ?_
       refine .x (OpP.raw rfl rfl un_201 un_203 sz_156 (by assumption)) ?_
       refine So.callD rfl rfl rfl nofun rfl (.mk' rfl) rfl (Jm.aq e176) ?_
       rintro v J' ⟨rfl,rfl⟩
       refine .dn (.sq (.sq (.rg rfl rfl ?_)))
       refine .m ?_
       refine .dn (.ff rfl (.sp ?_))
       refine Sc.retCode (by exact hc) rfl (Sb.leave (by exact hc) Tryz.func107 rfl (by exact .inl ⟨Tryz.results107,rfl⟩) ?_)
       exact hK
     · refine .dn ?_
       refine Sc.cond (by first|exact Jm.cl|exact hc) (t:=false) rfl (fun h=> nomatch h) (fun _=> ?_);refine Sc.skip (by first|exact Jm.cl|exact hc) ?_;refine Sc.inBlock (by first|exact Jm.cl|exact hc) ?_
       refine Sc.inLoop (by exact Jm.cl) ?_
       exact IH k2 (by omega) _ ⟨rfl,trivial⟩
theorem wait_c {k:Nat}(hc:Cl Tryz.prog true noSh Fin):AtC (Jm Tryz.prog X Fin k .wd j H) 107 [.pointer (some ⟨X.Wg,0,none⟩)] fun v J'=> v=.tuple #[]∧J'=Fin:=by
 refine InC.at (by exact Jm.cl) ca107 (InC.enter (vs:= [.pointer (some ⟨X.Wg,0,none⟩)]) Tryz.func107 rfl Tryz.ntmps107 (Nat.le_of_ble_eq_true rfl) fun c cs hK=> ?_)
 refine Sc.seq (by first|exact Jm.cl|exact hc) ?_;refine Sc.cond (by first|exact Jm.cl|exact hc) (t:=true) rfl (fun _=> ?_) (fun h=> nomatch h)
 refine .rg rfl rfl ?_
 refine So.callD rfl rfl rfl nofun rfl (.mk' rfl) rfl (Jm.wd e164) ?_
 rintro v J' ⟨k2,t,hk2,⟨rfl,rfl⟩,rfl⟩
 refine .dn ?_
 refine Sc.block (by first|exact Jm.cl|exact hc) ?_
 refine Sc.loop (by exact Jm.cl) ?_
 exact wait_head hc (hK _ _ ⟨rfl,rfl⟩) k2 _ ⟨rfl,trivial⟩
end
end Go.Proofs.YtdnfdeplcjaonaaGreatDoor
end
section
namespace Go.RL
open Go.Conc
section
variable {P:Program}{M:Md P}{md:Region.Mode}{ops:Array Oper}{S:Array Bool→View→Prop}{Fin:Array Value→View→Prop}{z:Nat}
theorem waits_not {i j:Nat}{listed:Array Bool}(h:waits md ops i j=true)(hi:i∈Region.ready md ops listed)(hj:j∈Region.ready md ops listed):False:=by
 unfold waits at h
 obtain⟨_,o,ho,hall⟩:=mem_ready.1 hj
 rw[ho] at h
 simp only at h
 rw[Array.any_eq_true'] at h
 obtain⟨e,he,hb⟩:=h
 simp only[Bool.and_eq_true,beq_iff_eq] at hb
 have h1:=hall e he hb.1
 have h0:=(mem_ready.1 hi).1
 rw[hb.2] at h1
 rcases Nat.lt_or_ge i listed.size with h'|h'
 · simp[h'] at h0 h1;rw[h0] at h1;cases h1
 · simp[Array.getElem?_eq_none h'] at h1
def AnyL(M:Md P)(md:Region.Mode)(ops:Array Oper)(S:Array Bool→View→Prop)(z:Nat)(Fin:Array Value→View→Prop):Nat→Array Bool→Array Value→View→Prop
 | 0,listed,tmps,H=> ∀H₂,H.le H₂→S listed H₂→Region.ready md ops listed= [z]∧Fin tmps H₂
 | fuel+1,listed,tmps,H=> ∀H₂,H.le H₂→S listed H₂→
   (Region.ready md ops listed≠ [])∧
   ∀i∈Region.ready md ops listed,∀o,ops[i]? =some o→OneT M ops o tmps H₂ fun tmps' H'=> S (listed.setIfInBounds i true) H'∧AnyL M md ops S z Fin fuel (listed.setIfInBounds i true) tmps' H'
theorem AnyL.mono {fuel:Nat}{listed:Array Bool}{tmps:Array Value}{H H':View}(h:AnyL M md ops S z Fin fuel listed tmps H)(k:H.le H'):AnyL M md ops S z Fin fuel listed tmps H':=by
 cases fuel with
 | zero=> exact fun H₂ h2 hS=> h H₂ (View.le_trans k h2) hS
 | succ fuel=> exact fun H₂ h2 hS=> h H₂ (View.le_trans k h2) hS
theorem go_step(fuel t:Nat)(listed:Array Bool):Region.linearise.go md ops (fuel+1) t listed []=match (Region.ready md ops listed)[t%(Region.ready md ops listed).length]? with
   | some i=> i::Region.linearise.go md ops fuel (t/(Region.ready md ops listed).length) (listed.setIfInBounds i true) []
   | none=> []:=by
 rw[Region.linearise.go]
 show(match (Region.ready md ops listed)[t%(Region.ready md ops listed).length]? with
   | some i=> Region.linearise.go md ops fuel (t/(Region.ready md ops listed).length) (listed.setIfInBounds i true) [i]
   | none=> List.reverse [])=_
 split
 · rename_i i _
   rw[linearise_go_acc]
   rfl
 · rfl
theorem AnyL.sound {St:View→Goroutine→Prop}{b:FB}{ds:List Deferred}{k:List Item}{cs:List Frame}:∀(fuel t:Nat) (listed:Array Bool) (tmps:Array Value) (H:View),S listed H→
   AnyL M md ops S z (fun tmps H=> T M St H (G (b.at tmps ds (.inRegion ops [z]::k)) cs)) fuel listed tmps H→T M St H (G (b.at tmps ds (.inRegion ops (Region.linearise.go md ops (fuel+1) t listed [])::k)) cs):=by
 intro fuel
 induction fuel with
 | zero=>
   intro t listed tmps H hS h
   obtain⟨h1,h2⟩:=h H (View.le_refl H) hS
   rw[go_step,h1]
   simp only[List.length_singleton,Nat.mod_one,List.getElem?_cons_zero,Region.linearise.go,List.reverse_nil]
   exact h2
 | succ fuel ih=>
   intro t listed tmps H hS h
   have h:=h H (View.le_refl H) hS
   rw[go_step]
   split
   · rename_i i hi
     have hmem:=List.mem_of_getElem? hi
     obtain⟨_,o,ho,_⟩:=mem_ready.1 hmem
     exact OneT.sound ho ((h.2 i hmem o ho).mono fun t' H' hk=> ih _ _ _ _ hk.1 hk.2)
   · rename_i hi
     exfalso
     cases hr:Region.ready md ops listed with
     | nil=> exact h.1 hr
     | cons a l=>
       rw[hr] at hi
       have:t%(a::l).length<(a::l).length:=Nat.mod_lt _ (by simp)
       rw[List.getElem?_eq_getElem this] at hi
       cases hi
theorem AnyL.first {i:Nat}{oi:Oper}{v:Value}(hi:ops[i]? =some oi)(hsel:∀(j:Nat) (o:Oper) cs b,ops[j]? =some o→o.op≠ .select cs b)(hdi:isDefer oi.op=false)(hz:waits md ops i z=true)(hSi:∀listed H,S (listed.setIfInBounds i true) H↔S listed H):
   ∀ (fuel:Nat) (listed:Array Bool) (tmps:Array Value) (H:View),
     (∀j oj,ops[j]? =some oj→j≠i→listed.getD j true=false→(∀e∈oj.after,Region.binds md e=true→e.on≠i)→oi.apart ops oj=true)→
     closedL md ops listed=true→i∈Region.ready md ops listed→YieldsT M md ops S i oi v tmps→
     AnyL M md ops S z Fin fuel (listed.setIfInBounds i true) (putT tmps oi.dst v) H→AnyL M md ops S z Fin (fuel+1) listed tmps H:=by
 have own:∀(fuel:Nat) (listed:Array Bool) (tmps:Array Value) (H:View),closedL md ops listed=true→i∈Region.ready md ops listed→YieldsT M md ops S i oi v tmps→S listed H→AnyL M md ops S z Fin fuel (listed.setIfInBounds i true) (putT tmps oi.dst v) H→
     OneT M ops oi tmps H fun t H'=> S (listed.setIfInBounds i true) H'∧AnyL M md ops S z Fin fuel (listed.setIfInBounds i true) t H':=by
   intro fuel listed tmps H hcl hrd hy hS h
   refine⟨hdi,?_⟩
   rcases hy with ⟨hw,hv⟩|⟨hw,rfl⟩
   · rw[if_pos hw]
     refine(hv listed hcl (mem_ready.1 hrd).1 H hS).run ?_
     rintro u H' ⟨rfl,hle,hS'⟩
     exact⟨(hSi listed H').2 hS',h.mono hle⟩
   · rw[if_neg (by simp[hw])]
     exact⟨(hSi listed H).2 hS,h⟩
 intro fuel
 induction fuel with
 | zero=>
   intro listed tmps H _ hcl hr hy h H₂ h2 hS
   refine⟨fun e=> (by rw[e] at hr;cases hr),fun j hj o ho=> ?_⟩
   by_cases hji:j=i
   · subst hji
     rw[hi] at ho
     cases ho
     exact own 0 listed tmps H₂ hcl hr hy hS (h.mono h2)
   · have:=ready_mono hj hji
     rw[(h H₂ h2 ((hSi listed H₂).2 hS)).1,List.mem_singleton] at this
     subst this
     exact(waits_not hz hr hj).elim
 | succ fuel ih=>
   intro listed tmps H hfree hcl hr hy h H₂ h2 hS
   refine⟨fun e=> (by rw[e] at hr;cases hr),fun j hj oj hoj=> ?_⟩
   by_cases hji:j=i
   · subst hji
     rw[hi] at hoj
     cases hoj
     exact own (fuel+1) listed tmps H₂ hcl hr hy hS (h.mono h2)
   · have h1:=(h H₂ h2 ((hSi listed H₂).2 hS)).2 j (ready_mono hj hji) oj hoj
     have hcl':=closedL_ready hcl hj
     obtain⟨hjun,oj',hoj',hall⟩:=mem_ready.1 hj
     rw[hoj] at hoj'
     cases hoj'
     have hnot:∀e∈oj.after,Region.binds md e=true→e.on≠i:=fun e he hb heq=> by
       have h1:=hall e he hb
       have h0:=(mem_ready.1 hr).1
       rw[heq] at h1
       rcases Nat.lt_or_ge i listed.size with h'|h'
       · simp[h'] at h0 h1;rw[h0] at h1;cases h1
       · simp[Array.getElem?_eq_none h'] at h1
     have hap:=hfree j oj hoj hji hjun hnot
     have hfree':∀k ok,ops[k]? =some ok→k≠i→(listed.setIfInBounds j true).getD k true=false→
         (∀e∈ok.after,Region.binds md e=true→e.on≠i)→oi.apart ops ok=true:=fun k ok hk hki hun hno=> by
       refine hfree k ok hk hki ?_ hno
       by_cases hjk:j=k
       · subst hjk;exact hjun
       · rw[getD_set_ne true hjk] at hun;exact hun
     refine(h1.back hap (fun cs b=> hsel j oj cs b hoj)).mono ?_
     rintro t H' ⟨⟨u,rfl⟩,hS',h3⟩
     rw[Array.setIfInBounds_comm _ _ (Ne.symm hji)] at hS'
     refine⟨(hSi _ H').1 hS',ih (listed.setIfInBounds j true) _ H' hfree' hcl' (ready_mono hr (Ne.symm hji)) (hy.put (fun cs b=> hsel i oi cs b hi) (Oper.apart_spec hap).2.2) ?_⟩
     rw[Array.setIfInBounds_comm _ _ hji]
     exact h3
end
section
variable {P:Program}{M:Md P}{St:View→Goroutine→Prop}{n:Nat}{b:FB}{H₀:View}{cs:List Frame}{R:Rg}{L L':Bl}{ds:List Deferred}{k:List Item}{S:Array Bool→View→Prop}{md:Region.Mode}{ops:Array Oper}{z:Nat}
def Tl(M:Md P)(St:View→Goroutine→Prop)(n:Nat)(b:FB)(H₀:View)(cs:List Frame)(S:Array Bool→View→Prop)(md:Region.Mode)(ops:Array Oper)(z:Nat)(fuel:Nat)(listed:Array Bool)(R:Rg)(L:Bl)(ds:List Deferred)(k:List Item):Prop:=
 ∀H tmps,SymSt H₀ L H→RegOk n R tmps→S listed H→AnyL M md ops S z (fun tmps H=> T M St H (G (b.at tmps ds (.inRegion ops [z]::k)) cs)) fuel listed tmps H
theorem Tl.done {listed:Array Bool}{o:Oper}(hr:Region.ready md ops listed= [z])(ho:ops[z]? =some o)(h:To M St n b H₀ cs (ops.toList.map (fun o:Oper=> o.dst)) R L ds [o] k):Tl M St n b H₀ cs S md ops z 0 listed R L ds k:=fun H tmps hs hr' _ H₂ h2 _=>
 ⟨hr,h ops [z] (fun j=> by
   simp only[List.getElem?_map,Array.getElem?_toList]
   cases ops[j]? <;> rfl) (by simp[ho]) H₂ tmps (hs.mono h2) hr'⟩
theorem Tl.take(i:Nat){o:Oper}{d:Nat}{v:Value}{fuel:Nat}{listed:Array Bool}(hi:ops[i]? =some o)(hsel:Region.noSelect ops=true)(hr:(Region.ready md ops listed).contains i=true)(hf:Region.free md ops listed i=true)
   (hd:o.dst=some d) (hn:d<n) (hnd:isDefer o.op=false) (hz:waits md ops i z=true) (hcl:closedL md ops listed=true) (hSi:∀listed H,S (listed.setIfInBounds i true) H↔S listed H) (hw:wantB (ops.toList.map (fun o:Oper=> o.dst)) R o=some true)
   (hv:∀listed,closedL md ops listed=true→listed.getD i true=false→∀H tmps,S listed H→RegOk n R tmps→OpVal M o tmps H fun u H'=> u=v∧H.le H'∧S listed H')
   (h:Tl M St n b H₀ cs S md ops z fuel (listed.setIfInBounds i true) ((d,v)::R) L ds k):Tl M St n b H₀ cs S md ops z (fuel+1) listed R L ds k:=fun H tmps hs hr' hS=> by
 refine AnyL.first hi (Region.noSelect_spec hsel) hnd hz hSi fuel listed tmps H (fun j oj hj hne hun hno=> Region.free_spec hi hf j oj hj hne hun hno) hcl (by simpa using hr) (.inl ⟨wantB_ok (fun j=> ?_) hr' hw,fun l hcl hu H hSH=> hv l hcl hu H tmps hSH hr'⟩) ?_
 · simp only[List.getElem?_map,Array.getElem?_toList]
   cases ops[j]? <;> rfl
 · rw[hd]
   exact h H _ hs (hr'.put hn v) ((hSi _ H).2 hS)
theorem Tl.tk(i:Nat){o:Oper}{d:Nat}{v:Value}{fuel:Nat}{listed:Array Bool}(hc:takeOk md ops [] listed i=true)(hz:waits md ops i z=true)(hi:ops[i]? =some o)(hd:o.dst=some d)(hn:d<n)(hnd:isDefer o.op=false)(hw:wantB (ops.toList.map (fun o:Oper=> o.dst)) R o=some true)
   (hv:∀H tmps,SymSt H₀ L H→RegOk n R tmps→OpVal M o tmps H fun u H'=> u=v∧H.le H')
   (h:Tl M St n b H₀ cs (fun _=> SymSt H₀ L) md ops z fuel (listed.setIfInBounds i true) ((d,v)::R) L ds k):Tl M St n b H₀ cs (fun _=> SymSt H₀ L) md ops z (fuel+1) listed R L ds k:=by
 simp only[takeOk,Bool.and_eq_true,Bool.not_eq_true'] at hc
 obtain⟨⟨⟨⟨⟨hsel,hr⟩,hf⟩,hcl⟩,_⟩,_⟩:=hc
 exact .take i hi hsel hr hf hd hn hnd hz hcl (fun _ _=> Iff.rfl) hw (fun _ _ _ H tmps hS hr=> by
   have:=hv H tmps hS hr
   unfold OpVal at this ⊢
   have fin:∀u H',(u=v∧H.le H')→u=v∧H.le H'∧SymSt H₀ L H':=fun u H' ⟨h1,h2⟩=> ⟨h1,h2,hS.mono h2⟩
   refine vwp_mono _ (fun nx H' hn=> ?_) this
   cases nx <;> first
     | exact hn.elim
     | exact fin _ _ hn
     | exact CallT.mono hn fin
     | exact GoT.mono hn fin) h
theorem Tc.dl(z:Nat){id:Nat}{fuel:Nat}(hm:P.follows .mixedOrders=true)(hf:ops.size=fuel+1)(h:Tl M St n b H₀ cs (fun _=> SymSt H₀ L) .any ops z fuel (Array.replicate (fuel+1) false) R L ds k):
   Tc M St n b H₀ cs R L ds (.code (.region id ops true)::k):=fun H tmps hs hr=> by
 refine .region_draw fun t=> ?_
 simp only[Region.schedule,hm,Bool.true_or,if_true]
 have h1:=(h H tmps hs hr hs).sound _ t _ _ _ hs
 unfold Region.linearise
 rw[hf]
 exact h1
end
end Go.RL
end
section
namespace Go.RL
open Go.Conc Go.ConcN Go.RL.Au
open Go.ConcR (stA smA mk)
open Go.ConcM (muA msA OsLater)
section
variable {P:Program}{X:Fk}{κ:Nat}
theorem OpP.makeFunc {n:Nat}{sh:Shp}{R:Rg}{o:Oper}{f:Fn}{first caps:Array Operand}{vs ws:List Value}(hop:o.op=.makeFunc f first caps)(h1:evRs R first.toList=some vs)(h2:evRs R caps.toList=some ws):OpP P sh n R o (.func f vs.toArray ws.toArray):=fun tmps hr=> by
 unfold execOp;rw[hop]
 show Next.value _=_
 have e1:first.map (evT tmps)=vs.toArray:=by
   rw[←hr.evs h1,List.map_toArray.symm]
 have e2:caps.map (evT tmps)=ws.toArray:=by
   rw[←hr.evs h2,List.map_toArray.symm]
 rw[e1,e2]
theorem T.none {M:Md P}{St:View→Goroutine→Prop}{C:Nat}{H:View}{g:Goroutine}(hok:∀w,M.ok w→C<w.heap.size)(hph:∀H g Po,¬M.Ph H g Po)(h:T M St H g):H C=Option.none→T M (fun H' g'=> H' C=Option.none∧St H' g') H g:=
 h (fun H g=> H C=Option.none→T M (fun H' g'=> H' C=Option.none∧St H' g') H g) (fun _ _ hs hc=> .stop ⟨hc,hs⟩) (fun H g hs hc=> .step ⟨hs.1,fun w hw ho=> by
   obtain⟨g',w',es,H',h1,h2,h3⟩:=hs.2 w hw ho
   refine⟨g',w',es,H',h1,h2,h3 ?_⟩
   cases hx:H' C with
   | none=> rfl
   | some x=>
     obtain⟨f,o⟩:=x
     rcases h2.ext _ _ _ hx with ⟨o',ho'⟩|⟨_,hle⟩
     · rw[hc] at ho';cases ho'
     · have:=hok w ho;omega⟩) (fun _ _ _ hp=> (hph _ _ _ hp).elim)
theorem T.none' {main:Bool}{St:View→Goroutine→Prop}{H:View}{g:Goroutine}(hc:H X.C=Option.none)(h:T (Mw P main X.ok) (fun H' g'=> H' X.C=Option.none→T (Mw P main X.ok) St H' g') H g):T (Mw P main X.ok) St H g:=
 (T.none (M:=Mw P main X.ok) (C:=X.C) (fun _ (h:X.ok _)=> h.1) (fun _ _ _ h=> h) h hc).bind fun _ _ ⟨h1,h2⟩=> h2 h1
theorem Sc.none {main:Bool}{St:View→Goroutine→Prop}{H:View}{n:Nat}{b:FB}{cs:List Frame}{R:Rg}{ds:List Deferred}{kk:List Item}(hc:H X.C=Option.none)
   (h:Sc (T (Mw P main X.ok) (fun H' g'=> H' X.C=Option.none→T (Mw P main X.ok) St H' g') H) n b cs R ds kk):Sc (T (Mw P main X.ok) St H) n b cs R ds kk:=fun tmps hr=> T.none' hc (h tmps hr)
theorem Sc.stopNone {main:Bool}{St:View→Goroutine→Prop}{H:View}{n:Nat}{b:FB}{cs:List Frame}{R:Rg}{ds:List Deferred}{kk:List Item}
   (h:H X.C=Option.none→Sc (T (Mw P main X.ok) St H) n b cs R ds kk):Sc (T (Mw P main X.ok) (fun H' g'=> H' X.C=Option.none→T (Mw P main X.ok) St H' g') H) n b cs R ds kk:=fun tmps hr=> .stop fun hc=> h hc tmps hr
theorem Sc.mono {J J':Goroutine→Prop}{n:Nat}{b:FB}{cs:List Frame}{R:Rg}{ds:List Deferred}{kk:List Item}(h:Sc J n b cs R ds kk)(hj:∀g,J g→J' g):Sc J' n b cs R ds kk:=fun tmps hr=> hj _ (h tmps hr)
end
end Go.RL
end
section
namespace Go.Proofs.YtdnfdeplcjaonaaGreatDoor
open Go.RL Go.Conc Go.ConcN Go.RL.Au
open Go.ConcR (stA smA)
set_option maxRecDepth 10000
set_option maxHeartbeats 4000000
def leftL(k:Bk)(D:Nat→Bool):List Value:=(List.range k.nt).map fun i=> .int .i64 (if D i then((k.left i:Nat):Int) else 0)
def GIl(k:Bk)(D:Nat→Bool)(o:Obj):Prop:=o=.cells ⟨leftL k D⟩ 3 (0,0)
theorem leftL_len(k:Bk)(D:Nat→Bool):(leftL k D).length=k.nt:=by simp[leftL]
theorem leftL_set(k:Bk)(D:Nat→Bool)(κ:Nat):(leftL k D).set κ (.int .i64 ((k.left κ:Nat):Int))=leftL k (also D κ):=by
 apply List.ext_getElem?
 intro i
 unfold leftL also
 rw[List.getElem?_set]
 by_cases e:κ=i
 · subst e
   rw[if_pos rfl]
   by_cases h:κ<k.nt
   · rw[if_pos (by simpa using h),List.getElem?_map,List.getElem?_range h]
     simp
   · rw[if_neg (by simpa using h),List.getElem?_eq_none (by simp;omega)]
 · rw[if_neg e,List.getElem?_map,List.getElem?_map]
   by_cases h:i<k.nt
   · rw[List.getElem?_range h]
     have h2:¬i=κ:=fun h=> e h.symm
     simp[h2]
   · rw[List.getElem?_eq_none (by simp;omega)]
     rfl
structure WkAt(X:Fk)(k:Bk)(H:View)(κ b5 b8 b6:Nat)(A:Option Addr)(lc:Nat)(B:Option Addr)(tc:Nat)(F:Nat→Option Addr)(fc:Nat→Nat):Prop where
 bk:BookAt H k A lc B tc F fc
 nl:k.nl≤1000
 nf:∀i,i<k.nl→k.nf i≤1000
 ok:k.trainsOk
 nt:k.nt≤6
 gap:0≤k.gap∧k.gap≤99
 give:0≤k.give∧k.give≤99
 h5:∃f,H b5=some (f,.cells ⟨(k.val A lc B tc).cells.toList⟩ 113 (0,0))
 h8:∃f,H b8=some (f,.cells ⟨[.int .i64 (κ:Nat)]⟩ 3 (0,0))
 h6:∃f,H b6=some (f,.cells ⟨[.slice (some ⟨X.C,0,none⟩) k.nt k.nt]⟩ 26 (0,0))
 kn:κ<k.nt
 GI:X.GI=GIl k
def wkVs(X:Fk)(b5 b8 b6:Nat):List Value:= [.pointer (some ⟨X.Wg,0,none⟩),.pointer (some ⟨b5,0,none⟩),.pointer (some ⟨b8,0,none⟩),.pointer (some ⟨b6,0,none⟩)]
section
variable {X:Fk}{bk:Bk}{H:View}{κ b5 b8 b6:Nat}{A:Option Addr}{lc:Nat}{B:Option Addr}{tc:Nat}{F:Nat→Option Addr}{fc:Nat→Nat}
theorem worker_c(w:WkAt X bk H κ b5 b8 b6 A lc B tc F fc)(k:Nat):
   Jw Tryz.prog X κ k .pw H (Go.Conc.born Tryz.prog { target:=.fn (.func 104) (wkVs X b5 b8 b6).toArray,args:=#[] }):=by
 obtain⟨hbk,hnl,hnf,hok,hnt,hgap,hgive,⟨f5,h5⟩,⟨f8,h8⟩,⟨f6,h6⟩,hκ,hGI⟩:=w
 refine Cl.born (vs:=wkVs X b5 b8 b6) Jw.cl0 Tryz.func104 (by kernel_rfl) rfl Tryz.ntmps104 (Nat.le_of_ble_eq_true rfl) (by simp) ?_
 unfold wkVs
 refine .sq (.rg rfl rfl ?_)
 refine So.defer Jw.cl0 (f:=105) (vs:= [.pointer (some ⟨X.Wg,0,none⟩)]) rfl nofun rfl rfl ⟨_,rfl⟩ rfl ?_
 refine .dn ?_
 refine Sc.mono ?_ (fun g hg=> Jw.ofT rfl hg)
 refine Sc.ofTc (SymSt.nil H) ?_
 refine Tc.dl 6 mixed rfl ?_
 refine Tl.tk 0 (by kernel_rfl) (by kernel_rfl) rfl rfl (by decide) rfl rfl (OpV.take (OpV.load₀ (E:=en) rfl rfl h6 rfl rfl)) ?_
 refine Tl.tk 1 (by kernel_rfl) (by kernel_rfl) rfl rfl (by decide) rfl rfl (OpV.take (OpV.load₀ (E:=en) rfl rfl h8 rfl rfl)) ?_
 refine Tl.tk 2 (by kernel_rfl) (by kernel_rfl) rfl rfl (by decide) rfl rfl (OpV.take (OpV.load₀ (E:=en) rfl rfl h5 rfl rfl)) ?_
 refine Tl.tk 3 (by kernel_rfl) (by kernel_rfl) rfl rfl (by decide) rfl rfl (OpV.take (OpV.load₀ (E:=en) rfl rfl h8 rfl rfl)) ?_
 refine Tl.tk 4 (by kernel_rfl) (by kernel_rfl) rfl rfl (by decide) rfl rfl (OpV.takeCall rfl rfl rfl rfl (fun H hs=> .f ca106 rfl (left_c _ H bk A lc B tc F fc (hbk.le hs.base) hnl hnf hok hnt hgap hgive κ hκ))) ?_
 refine Tl.tk 5 (by kernel_rfl) (by kernel_rfl) rfl rfl (by decide) rfl rfl (OpV.take .ia) ?_
 refine Tl.done (by kernel_rfl) rfl ?_
 refine To.ofSo (fun H1 hs=> ?_)
 refine So.mono ?_ (fun g hg=> Jw.toT rfl hg)
 have eoff:0+((κ:Nat):Int).toNat*1=κ:=by rw[Int.toNat_natCast];omega
 refine So.own (z:=((bk.left κ:Nat):Int)) (ik:=.i64) rfl rfl rfl ?_ rfl (by kernel_rfl) ?_ ?_
 · show some (Value.pointer (some ⟨X.C,0+((κ:Nat):Int).toNat*1,none⟩))=_
   rw[eoff]
 · intro D o _ hGo
   rw[hGI] at hGo ⊢
   have hGo':o=.cells ⟨leftL bk D⟩ 3 (0,0):=hGo
   subst hGo'
   refine⟨⟨leftL bk D⟩,3,rfl,by simp only[List.size_toArray,leftL_len];exact hκ,?_⟩
   show Obj.cells _ 3 (0,0)=.cells ⟨leftL bk (also D κ)⟩ 3 (0,0)
   rw[←leftL_set]
   simp
 · exact fun k' _=> So.done Jw.cl0 (Sc.over Jw.cl0 rfl (done_d rfl (Sb.leaveD Jq.cl Tryz.func104 rfl Tryz.results104 (.inr rfl) Jq.bot)))
end
end Go.Proofs.YtdnfdeplcjaonaaGreatDoor
end
