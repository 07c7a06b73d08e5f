/-
  Texts of the proofs over baudot/dial: S4 S5 S6 S7 C2 C3 C4 C5 App2 C6 X1 C7 Draw5 C8.
-/
import Derived.Test.YtdnfdeplcjaonaaGreatDoorG05
namespace Go.Proofs.YtdnfdeplcjaonaaGreatDoor
open Go.RL
set_option maxRecDepth 10000
set_option maxHeartbeats 8000000
def ddTo(l:List Int):Nat→List Int
 | 0=> []
 | k+1=> if 1≤k∧at0 l k=at0 l (k-1) then ddTo l k else ddTo l k++[at0 l k]
theorem ddTo_le(l:List Int):∀k,(ddTo l k).length≤k
 | 0=> Nat.le_refl _
 | k+1=> by
   have:=ddTo_le l k;unfold ddTo;split
   · omega
   · rw[List.length_append,List.length_cons,List.length_nil];omega
theorem take_at0 {l:List Int}{k:Nat}(h:k<l.length):l.take (k+1)=l.take k++[at0 l k]:=by
 unfold at0;rw[List.take_succ_eq_append_getElem h,List.getElem?_eq_getElem h];rfl
theorem take_set_at {u:List Int}{w:Nat}{x:Int}(h:w<u.length):(u.set w x).take (w+1)=u.take w++[x]:=by
 rw[List.take_succ_eq_append_getElem (by rw[List.length_set];exact h),List.take_set_of_le (Nat.le_refl _),List.getElem_set_self]
theorem at0_set {u:List Int}{w p:Nat}{x:Int}(h:w≠p):at0 (u.set w x) p=at0 u p:=by
 unfold at0;rw[List.getElem?_set_ne h]
theorem less_irr:∀s:List UInt8,Op.bytesLess s s=false
 | []=> rfl
 | a::t=> by
   show(decide (a<a)||(a==a&&Op.bytesLess t t))=false;rw[less_irr t];have:¬a<a:=UInt8.lt_irrefl a;simp[this]
theorem Enc.inj {dec:Int→List UInt8}{l:List Int}(h:Enc dec l){x y:Int}(hx:x∈l)(hy:y∈l)(e:dec x=dec y):x=y:=by
 have h1:=h x hx y hy;have h2:=h y hy x hx;rw[e,less_irr] at h1;rw[e,less_irr] at h2;have h3:=of_decide_eq_false h1.symm;have h4:=of_decide_eq_false h2.symm;omega
theorem cellsS_at {dec:Int→List UInt8}{m:List Int}{j:List Value}{k:Int}{o p:Nat}(hk:o+k.toNat*1=p)(hp:p<m.length):ldL false 1 ((strsL dec m)++j) (o+k.toNat*1)=some (strV (dec (at0 m p))):=by
 rw[hk];have:=cellsS_ld (dec:=dec) (m:=m) (j:=j) (k:=(p:Nat)) (p:=p) rfl hp;rw[Int.toNat_natCast,Nat.zero_add,Nat.mul_one] at this;exact this
def CompSQ(dec:Int→List UInt8)(H:View)(sb:Nat)(l:List Int)(jj:List Value)(n cap:Nat)(v:Value)(H':View):Prop:=
 (∀b x,b≠sb→H b=some x→H' b=some x)∧∃rest,v=.slice (some ⟨sb,0,none⟩) (ddTo l n).length cap∧(ddTo l n).length+rest.length=n+jj.length∧H' sb=some (true,.cells ⟨(strsL dec (ddTo l n))++rest⟩ 9 (0,0))
section
variable(M:Md Tryz.prog)(H:View)
theorem CompactS_c(dec:Int→List UInt8)(sb:Nat)(l:List Int)(jj:List Value)(n cap:Nat)(hn:n=l.length)(hE:Enc dec l)(h1000:n≤100000000)(hcap:n≤cap)(hS:H sb=some (true,.cells ⟨(strsL dec l)++jj⟩ 9 (0,0))):
   CallT M 92 #[.slice (some ⟨sb,0,none⟩) n cap] H (CompSQ dec H sb l jj n cap):=by
 by_cases c0:n<2
 · have e:ddTo l n=l:=by
     rcases(by omega:n=0∨n=1) with h|h
     · have:l= []:=List.eq_nil_of_length_eq_zero (by omega);rw[h,this];rfl
     · rw[h]
       match l,hn.symm.trans h with
       | [x],_=> rfl
   refine CallT.enter (vs:= [.slice (some ⟨sb,0,none⟩) n cap]) Tryz.func92 rfl Tryz.ntmps92 (Nat.le_of_ble_eq_true rfl) (SymSt.pull hS) fun St c cs hK=> ?_;(iterate 17 refine U ?_);refine .rt hK Tryz.func92 Tryz.results92 [_] ?_;refine fun H' hs=> ⟨fun b x hb hx=> hs.base b x (by rw[without_other hb];exact hx),jj,?_,?_,?_⟩
   · rw[e,←hn];rfl
   · rw[e,←hn]
   · rw[e];exact hs.get (i:=0) rfl
 · refine CallT.enter (vs:= [.slice (some ⟨sb,0,none⟩) n cap]) Tryz.func92 rfl Tryz.ntmps92 (Nat.le_of_ble_eq_true rfl) (SymSt.pull hS) fun St c cs hK=> ?_;(iterate 19 refine U ?_);refine Tc.db (Tc.loopInv (σ:= { i:Nat//1≤i∧i≤n∧ddTo l i=l.take i }) (fun i=> ([(0,.slice (some ⟨sb,0,none⟩) n cap),(3,.int .i64 (i.1:Nat))],[(sb,true,.cells ⟨(strsL dec l)++jj⟩ 9 (0,0))])) (fun i=> n-i.1) ?_ ⟨1,Nat.le_refl _,by omega,?_⟩)
   · rintro ⟨i,g1,g2,g3⟩ ih;show Tc M St _ _ _ _ [(0,.slice (some ⟨sb,0,none⟩) n cap),(3,.int .i64 (i:Nat))] [(sb,true,.cells ⟨(strsL dec l)++jj⟩ 9 (0,0))] _ _;by_cases c1:i=n
     · have e:ddTo l n=l:=by rw[←c1,g3,c1,hn,List.take_length]
       subst c1;(iterate 15 refine U ?_);refine .rt hK Tryz.func92 Tryz.results92 [_] ?_;refine fun H' hs=> ⟨fun b x hb hx=> hs.base b x (by rw[without_other hb];exact hx),jj,?_,?_,?_⟩
       · rw[e,←hn];rfl
       · rw[e,←hn]
       · rw[e];exact hs.get (i:=0) rfl
     · have c2 :i<n:=by omega
       have e1:((i:Nat):Int)-1=((i-1:Nat):Int):=by omega
       have k1:=cellsS_at (dec:=dec) (m:=l) (j:=jj) (o:=0) (k:=(i:Nat)) (p:=i) (by omega) (by omega);have k2:=cellsS_at (dec:=dec) (m:=l) (j:=jj) (o:=0) (k:=(i:Nat)-1) (p:=i-1) (by omega) (by omega);by_cases c3:at0 l i=at0 l (i-1)
       · have c4:RL.strB .eql (dec (at0 l i)) (dec (at0 l (i-1)))=some (.bool true):=by rw[c3];simp[RL.strB]
         have hdi:ddTo l (i+1)=l.take i:=by rw[ddTo,if_pos ⟨g1,c3⟩,g3]
         have hlt:(l.take i).length=i:=by rw[List.length_take];omega
         (iterate 13 refine U ?_);refine Tc.dr [] [] mixed rfl ?_;refine .q 0 rfl .mv ?_;refine .q 1 rfl .mv ?_;refine .q 2 rfl .ia ?_;refine .q 3 rfl (.ld 0) ?_;refine .q 4 rfl .mv ?_;refine .q 5 rfl .mv ?_;refine .q 6 rfl (.it (zz:=sub_in (by omega) (by omega))) ?_;refine .q 7 rfl .ia ?_;refine .q 8 rfl (.ld 0) ?_;refine .q 9 rfl (OpV.strB rfl rfl rfl (by assumption)) ?_;refine Ta.done (by kernel_rfl) ?_;(iterate 5 refine U ?_);refine .x (OpV.slice (E:=en) (off':=0+((i:Nat):Int).toNat*1) rfl rfl rfl rfl rfl rfl rfl rfl (by omega) (by omega) (by omega) (by rw[if_neg (by omega)] <;> rfl)) ?_;(iterate 8 refine U ?_);refine Tc.db (Tc.loopInv (σ:= { s:Nat×Nat×List Int//1≤s.2.1∧s.2.1≤n-i∧s.2.2.length=n∧s.1+1≤i+s.2.1∧s.1=(ddTo l (i+s.2.1)).length∧s.2.2.take s.1=ddTo l (i+s.2.1)∧∀p,i+s.2.1≤p+1→at0 s.2.2 p=at0 l p })
           (fun s=> ([(0,.slice (some ⟨sb,0,none⟩) n cap),(3,.int .i64 (s.1.1:Nat)),(4,.slice (some ⟨sb,0+((i:Nat):Int).toNat*1,none⟩) (((n:Nat):Int).toNat-((i:Nat):Int).toNat) (cap-((i:Nat):Int).toNat)),(5,.int .i64 (s.1.2.1:Nat))],[(sb,true,.cells ⟨(strsL dec s.1.2.2)++jj⟩ 9 (0,0))])) (fun s=> n-s.1.2.1) ?_
           ⟨(i,1,l),by simp only;omega,by simp only;omega,hn.symm,by simp only;omega,by simp only;rw[hdi,hlt],by simp only;rw[hdi],fun p _=> rfl⟩)
         rintro⟨⟨v2,k,u⟩,h1,h2,h3,h4,h5,h6,h7⟩ ih2;simp only at h1 h2 h3 h4 h5 h6 h7;show Tc M St _ _ _ _ [(0,.slice (some ⟨sb,0,none⟩) n cap),(3,.int .i64 (v2:Nat)),(4,.slice (some ⟨sb,0+((i:Nat):Int).toNat*1,none⟩) (((n:Nat):Int).toNat-((i:Nat):Int).toNat) (cap-((i:Nat):Int).toNat)),(5,.int .i64 (k:Nat))] [(sb,true,.cells ⟨(strsL dec u)++jj⟩ 9 (0,0))] _ _;have hin:((n:Nat):Int).toNat-((i:Nat):Int).toNat=n-i:=by omega
         rw[hin];by_cases d1:k=n-i
         · have e5:i+k=n:=by omega
           rw[e5] at h5 h6 h4;have hul:u.length=n:=h3;have hq0:((n:Nat):Int).toNat-((v2:Nat):Int).toNat=n-v2:=by omega
           (iterate 14 refine U ?_);refine .x (OpV.slice (E:=en) (off':=0+((v2:Nat):Int).toNat*1) rfl rfl rfl rfl rfl rfl rfl rfl (by omega) (by omega) (by omega) (by rw[if_neg (by omega)] <;> rfl)) ?_;refine .e (Or.clear (E:=en) (c':=(strsL dec (ddTo l n))++(List.replicate (n-v2) (strV [])++jj)) 0 rfl rfl rfl rfl rfl rfl rfl rfl rfl rfl rfl (by omega) ?_ rfl ?_ ?_)
           · rw[List.length_append,strsL_len];omega
           · show stL ((strsL dec u)++jj) (0+((v2:Nat):Int).toNat*1) (List.replicate (((n:Nat):Int).toNat-((v2:Nat):Int).toNat) (strV []))=_;rw[hq0,Nat.zero_add,Int.toNat_natCast,Nat.mul_one];have e6:u=ddTo l n++u.drop v2:=by rw[←h6,List.take_append_drop]
             have e7:(strsL dec u)=(strsL dec (ddTo l n))++(strsL dec (u.drop v2)):=by
               have h:=congrArg (fun x=> (strsL dec x)) e6;refine h.trans ?_;show(strsL dec (ddTo l n++u.drop v2))=_;unfold strsL;rw[List.map_append]
             have e8:(strsL dec (ddTo l n)).length=v2:=by rw[strsL_len,←h5]
             have e9:(strsL dec (u.drop v2)).length=n-v2:=by rw[strsL_len,List.length_drop,hul]
             rw[e7,List.append_assoc];unfold stL;rw[List.take_left' e8,List.length_replicate,←List.drop_drop,List.drop_left' e8,List.drop_left' e9];simp only[List.append_assoc]
           · (iterate 5 refine U ?_);refine .x (OpV.sliceTo (E:=en) (k:=v2) rfl rfl rfl rfl rfl rfl (by omega) (by omega)) ?_;(iterate 2 refine U ?_);refine .rt hK Tryz.func92 Tryz.results92 [_] ?_;refine fun H' hs=> ⟨fun b x hb hx=> hs.base b x (by rw[without_other hb];exact hx),List.replicate (n-v2) (strV [])++jj,?_,?_,?_⟩
             · rw[←h5];rfl
             · rw[List.length_append,List.length_replicate];omega
             · exact hs.get (i:=0) rfl
         · have d2:i+k<n:=by omega
           have e2:((k:Nat):Int)-1=((k-1:Nat):Int):=by omega
           have k3:=cellsS_at (dec:=dec) (m:=u) (j:=jj) (o:=0+((i:Nat):Int).toNat*1) (k:=(k:Nat)) (p:=i+k) (by omega) (by omega);have k4:=cellsS_at (dec:=dec) (m:=u) (j:=jj) (o:=0+((i:Nat):Int).toNat*1) (k:=(k:Nat)-1) (p:=i+k-1) (by omega) (by omega);have a1:=h7 (i+k) (by omega);have a2:=h7 (i+k-1) (by omega);by_cases d3:at0 l (i+k)=at0 l (i+k-1)
           · have c5:RL.strB .neq (dec (at0 u (i+k))) (dec (at0 u (i+k-1)))=some (.bool false):=by rw[a1,a2,d3];simp[RL.strB]
             have hdk:ddTo l (i+(k+1))=ddTo l (i+k):=by show ddTo l (i+k+1)=_;rw[ddTo,if_pos ⟨by omega,d3⟩]
             (iterate 13 refine U ?_);refine Tc.dr [] [] mixed rfl ?_;refine .q 0 rfl .mv ?_;refine .q 1 rfl .mv ?_;refine .q 2 rfl .ia ?_;refine .q 3 rfl (.ld 0) ?_;refine .q 4 rfl .mv ?_;refine .q 5 rfl .mv ?_;refine .q 6 rfl (.it (zz:=sub_in (by omega) (by omega))) ?_;refine .q 7 rfl .ia ?_;refine .q 8 rfl (.ld 0) ?_;refine .q 9 rfl (OpV.strB rfl rfl rfl (by assumption)) ?_;refine Ta.done (by kernel_rfl) ?_;(iterate 8 refine U ?_);exact Tc.db (ih2 ⟨(v2,k+1,u),by simp only;omega,by simp only;omega,h3,by simp only;omega,by simp only;rw[hdk];exact h5,by simp only;rw[hdk];exact h6,fun p hp=> h7 p (by simp only at hp;omega)⟩ (by simp only;omega))
           · have c5:RL.strB .neq (dec (at0 u (i+k))) (dec (at0 u (i+k-1)))=some (.bool true):=by rw[a1,a2];have:¬dec (at0 l (i+k))=dec (at0 l (i+k-1)):=fun h=> d3 (hE.inj (at0_mem (by omega)) (at0_mem (by omega)) h);simp[RL.strB,this]
             have hdk:ddTo l (i+(k+1))=ddTo l (i+k)++[at0 l (i+k)]:=by show ddTo l (i+k+1)=_;rw[ddTo,if_neg (fun h=> d3 h.2)]
             have s1:=cellsS_st (dec:=dec) (m:=u) (j:=jj) (k:=(v2:Nat)) (x:=at0 u (i+k)) (p:=v2) rfl (by omega);have l1:=cellsS_le (dec:=dec) (m:=u) (j:=jj) (k:=(v2:Nat)) (p:=v2) rfl (by omega);(iterate 13 refine U ?_);refine Tc.dr [] [] mixed rfl ?_;refine .q 0 rfl .mv ?_;refine .q 1 rfl .mv ?_;refine .q 2 rfl .ia ?_;refine .q 3 rfl (.ld 0) ?_;refine .q 4 rfl .mv ?_;refine .q 5 rfl .mv ?_;refine .q 6 rfl (.it (zz:=sub_in (by omega) (by omega))) ?_;refine .q 7 rfl .ia ?_;refine .q 8 rfl (.ld 0) ?_;refine .q 9 rfl (OpV.strB rfl rfl rfl (by assumption)) ?_;refine Ta.done (by kernel_rfl) ?_;(iterate 10 refine U ?_);refine .e (.st 0 (zz:=?_));(iterate 12 refine U ?_);exact Tc.db (ih2 ⟨(v2+1,k+1,u.set v2 (at0 u (i+k))),by simp only;omega,by simp only;omega,by simp only;rw[List.length_set];exact h3,by simp only;omega,by simp only;rw[hdk,List.length_append,←h5];rfl,by simp only;rw[hdk,take_set_at (by omega),h6,a1],fun p hp=> by simp only at hp ⊢;rw[at0_set (by omega)];exact h7 p (by omega)⟩ (by simp only;omega))
       · have c4:RL.strB .eql (dec (at0 l i)) (dec (at0 l (i-1)))=some (.bool false):=by have:¬dec (at0 l i)=dec (at0 l (i-1)):=fun h=> c3 (hE.inj (at0_mem (by omega)) (at0_mem (by omega)) h);simp[RL.strB,this]
         (iterate 13 refine U ?_);refine Tc.dr [] [] mixed rfl ?_;refine .q 0 rfl .mv ?_;refine .q 1 rfl .mv ?_;refine .q 2 rfl .ia ?_;refine .q 3 rfl (.ld 0) ?_;refine .q 4 rfl .mv ?_;refine .q 5 rfl .mv ?_;refine .q 6 rfl (.it (zz:=sub_in (by omega) (by omega))) ?_;refine .q 7 rfl .ia ?_;refine .q 8 rfl (.ld 0) ?_;refine .q 9 rfl (OpV.strB rfl rfl rfl (by assumption)) ?_;refine Ta.done (by kernel_rfl) ?_;(iterate 8 refine U ?_);exact Tc.db (ih ⟨i+1,by omega,by omega,by rw[ddTo,if_neg (fun h=> c3 h.2),g3,take_at0 (by omega)]⟩ (by simp only;omega))
   · rw[take_at0 (l:=l) (k:=0) (by omega)];rfl
end
theorem cellsI_at {m:List Int}{j:List Value}{k:Int}{o p:Nat}(hk:o+k.toNat*1=p)(hp:p<m.length):ldL false 1 ((intsL m)++j) (o+k.toNat*1)=some (.int .i64 (at0 m p)):=by
 rw[hk];have:=cellsI_ld (m:=m) (j:=j) (k:=(p:Nat)) (p:=p) rfl hp;rw[Int.toNat_natCast,Nat.zero_add,Nat.mul_one] at this;exact this
def CompIQ(H:View)(sb:Nat)(l:List Int)(jj:List Value)(n cap:Nat)(v:Value)(H':View):Prop:=
 (∀b x,b≠sb→H b=some x→H' b=some x)∧∃rest,v=.slice (some ⟨sb,0,none⟩) (ddTo l n).length cap∧(ddTo l n).length+rest.length=n+jj.length∧H' sb=some (true,.cells ⟨(intsL (ddTo l n))++rest⟩ 3 (0,0))
section
variable(M:Md Tryz.prog)(H:View)
theorem CompactI_c(sb:Nat)(l:List Int)(jj:List Value)(n cap:Nat)(hn:n=l.length)(h1000:n≤1000000)(hcap:n≤cap)(hS:H sb=some (true,.cells ⟨(intsL l)++jj⟩ 3 (0,0))):
   CallT M 132 #[.slice (some ⟨sb,0,none⟩) n cap] H (CompIQ H sb l jj n cap):=by
 by_cases c0:n<2
 · have e:ddTo l n=l:=by
     rcases(by omega:n=0∨n=1) with h|h
     · have:l= []:=List.eq_nil_of_length_eq_zero (by omega);rw[h,this];rfl
     · rw[h]
       match l,hn.symm.trans h with
       | [x],_=> rfl
   refine CallT.enter (vs:= [.slice (some ⟨sb,0,none⟩) n cap]) Tryz.func132 rfl Tryz.ntmps132 (Nat.le_of_ble_eq_true rfl) (SymSt.pull hS) fun St c cs hK=> ?_;(iterate 17 refine U ?_);refine .rt hK Tryz.func132 Tryz.results132 [_] ?_;refine fun H' hs=> ⟨fun b x hb hx=> hs.base b x (by rw[without_other hb];exact hx),jj,?_,?_,?_⟩
   · rw[e,←hn];rfl
   · rw[e,←hn]
   · rw[e];exact hs.get (i:=0) rfl
 · refine CallT.enter (vs:= [.slice (some ⟨sb,0,none⟩) n cap]) Tryz.func132 rfl Tryz.ntmps132 (Nat.le_of_ble_eq_true rfl) (SymSt.pull hS) fun St c cs hK=> ?_;(iterate 19 refine U ?_);refine Tc.db (Tc.loopInv (σ:= { i:Nat//1≤i∧i≤n∧ddTo l i=l.take i }) (fun i=> ([(0,.slice (some ⟨sb,0,none⟩) n cap),(3,.int .i64 (i.1:Nat))],[(sb,true,.cells ⟨(intsL l)++jj⟩ 3 (0,0))])) (fun i=> n-i.1) ?_ ⟨1,Nat.le_refl _,by omega,?_⟩)
   · rintro ⟨i,g1,g2,g3⟩ ih;show Tc M St _ _ _ _ [(0,.slice (some ⟨sb,0,none⟩) n cap),(3,.int .i64 (i:Nat))] [(sb,true,.cells ⟨(intsL l)++jj⟩ 3 (0,0))] _ _;by_cases c1:i=n
     · have e:ddTo l n=l:=by rw[←c1,g3,c1,hn,List.take_length]
       subst c1;(iterate 15 refine U ?_);refine .rt hK Tryz.func132 Tryz.results132 [_] ?_;refine fun H' hs=> ⟨fun b x hb hx=> hs.base b x (by rw[without_other hb];exact hx),jj,?_,?_,?_⟩
       · rw[e,←hn];rfl
       · rw[e,←hn]
       · rw[e];exact hs.get (i:=0) rfl
     · have c2 :i<n:=by omega
       have e1:((i:Nat):Int)-1=((i-1:Nat):Int):=by omega
       have k1:=cellsI_at (m:=l) (j:=jj) (o:=0) (k:=(i:Nat)) (p:=i) (by omega) (by omega);have k2:=cellsI_at (m:=l) (j:=jj) (o:=0) (k:=(i:Nat)-1) (p:=i-1) (by omega) (by omega);by_cases c3:at0 l i=at0 l (i-1)
       · skip
         have hdi:ddTo l (i+1)=l.take i:=by rw[ddTo,if_pos ⟨g1,c3⟩,g3]
         have hlt:(l.take i).length=i:=by rw[List.length_take];omega
         (iterate 13 refine U ?_);refine Tc.dr [] [] mixed rfl ?_;refine .q 0 rfl .mv ?_;refine .q 1 rfl .mv ?_;refine .q 2 rfl .ia ?_;refine .q 3 rfl (.ld 0) ?_;refine .q 4 rfl .mv ?_;refine .q 5 rfl .mv ?_;refine .q 6 rfl (.it (zz:=sub_in (by omega) (by omega))) ?_;refine .q 7 rfl .ia ?_;refine .q 8 rfl (.ld 0) ?_;refine .q 9 rfl (.it (zz:=eql_t (by omega))) ?_;refine Ta.done (by kernel_rfl) ?_;(iterate 5 refine U ?_);refine .x (OpV.slice (E:=en) (off':=0+((i:Nat):Int).toNat*1) rfl rfl rfl rfl rfl rfl rfl rfl (by omega) (by omega) (by omega) (by rw[if_neg (by omega)] <;> rfl)) ?_;(iterate 8 refine U ?_);refine Tc.db (Tc.loopInv (σ:= { s:Nat×Nat×List Int//1≤s.2.1∧s.2.1≤n-i∧s.2.2.length=n∧s.1+1≤i+s.2.1∧s.1=(ddTo l (i+s.2.1)).length∧s.2.2.take s.1=ddTo l (i+s.2.1)∧∀p,i+s.2.1≤p+1→at0 s.2.2 p=at0 l p })
           (fun s=> ([(0,.slice (some ⟨sb,0,none⟩) n cap),(3,.int .i64 (s.1.1:Nat)),(4,.slice (some ⟨sb,0+((i:Nat):Int).toNat*1,none⟩) (((n:Nat):Int).toNat-((i:Nat):Int).toNat) (cap-((i:Nat):Int).toNat)),(5,.int .i64 (s.1.2.1:Nat))],[(sb,true,.cells ⟨(intsL s.1.2.2)++jj⟩ 3 (0,0))])) (fun s=> n-s.1.2.1) ?_
           ⟨(i,1,l),by simp only;omega,by simp only;omega,hn.symm,by simp only;omega,by simp only;rw[hdi,hlt],by simp only;rw[hdi],fun p _=> rfl⟩)
         rintro⟨⟨v2,k,u⟩,h1,h2,h3,h4,h5,h6,h7⟩ ih2;simp only at h1 h2 h3 h4 h5 h6 h7;show Tc M St _ _ _ _ [(0,.slice (some ⟨sb,0,none⟩) n cap),(3,.int .i64 (v2:Nat)),(4,.slice (some ⟨sb,0+((i:Nat):Int).toNat*1,none⟩) (((n:Nat):Int).toNat-((i:Nat):Int).toNat) (cap-((i:Nat):Int).toNat)),(5,.int .i64 (k:Nat))] [(sb,true,.cells ⟨(intsL u)++jj⟩ 3 (0,0))] _ _;have hin:((n:Nat):Int).toNat-((i:Nat):Int).toNat=n-i:=by omega
         rw[hin];by_cases d1:k=n-i
         · have e5:i+k=n:=by omega
           rw[e5] at h5 h6 h4;have hul:u.length=n:=h3;have hq0:((n:Nat):Int).toNat-((v2:Nat):Int).toNat=n-v2:=by omega
           (iterate 14 refine U ?_);refine .x (OpV.slice (E:=en) (off':=0+((v2:Nat):Int).toNat*1) rfl rfl rfl rfl rfl rfl rfl rfl (by omega) (by omega) (by omega) (by rw[if_neg (by omega)] <;> rfl)) ?_;refine .e (Or.clear (E:=en) (c':=(intsL (ddTo l n))++(List.replicate (n-v2) (.int .i64 0)++jj)) 0 rfl rfl rfl rfl rfl rfl rfl rfl rfl rfl rfl (by omega) ?_ rfl ?_ ?_)
           · rw[List.length_append,intsL_len];omega
           · show stL ((intsL u)++jj) (0+((v2:Nat):Int).toNat*1) (List.replicate (((n:Nat):Int).toNat-((v2:Nat):Int).toNat) (.int .i64 0))=_;rw[hq0,Nat.zero_add,Int.toNat_natCast,Nat.mul_one];have e6:u=ddTo l n++u.drop v2:=by rw[←h6,List.take_append_drop]
             have e7:(intsL u)=(intsL (ddTo l n))++(intsL (u.drop v2)):=by
               have h:=congrArg (fun x=> (intsL x)) e6;refine h.trans ?_;show(intsL (ddTo l n++u.drop v2))=_;unfold intsL;rw[List.map_append]
             have e8:(intsL (ddTo l n)).length=v2:=by rw[intsL_len,←h5]
             have e9:(intsL (u.drop v2)).length=n-v2:=by rw[intsL_len,List.length_drop,hul]
             rw[e7,List.append_assoc];unfold stL;rw[List.take_left' e8,List.length_replicate,←List.drop_drop,List.drop_left' e8,List.drop_left' e9];simp only[List.append_assoc]
           · (iterate 5 refine U ?_);refine .x (OpV.sliceTo (E:=en) (k:=v2) rfl rfl rfl rfl rfl rfl (by omega) (by omega)) ?_;(iterate 2 refine U ?_);refine .rt hK Tryz.func132 Tryz.results132 [_] ?_;refine fun H' hs=> ⟨fun b x hb hx=> hs.base b x (by rw[without_other hb];exact hx),List.replicate (n-v2) (.int .i64 0)++jj,?_,?_,?_⟩
             · rw[←h5];rfl
             · rw[List.length_append,List.length_replicate];omega
             · exact hs.get (i:=0) rfl
         · have d2:i+k<n:=by omega
           have e2:((k:Nat):Int)-1=((k-1:Nat):Int):=by omega
           have k3:=cellsI_at (m:=u) (j:=jj) (o:=0+((i:Nat):Int).toNat*1) (k:=(k:Nat)) (p:=i+k) (by omega) (by omega);have k4:=cellsI_at (m:=u) (j:=jj) (o:=0+((i:Nat):Int).toNat*1) (k:=(k:Nat)-1) (p:=i+k-1) (by omega) (by omega);have a1:=h7 (i+k) (by omega);have a2:=h7 (i+k-1) (by omega);by_cases d3:at0 l (i+k)=at0 l (i+k-1)
           · have a3:at0 u (i+k)=at0 u (i+k-1):=by rw[a1,a2,d3]
             have hdk:ddTo l (i+(k+1))=ddTo l (i+k):=by show ddTo l (i+k+1)=_;rw[ddTo,if_pos ⟨by omega,d3⟩]
             (iterate 13 refine U ?_);refine Tc.dr [] [] mixed rfl ?_;refine .q 0 rfl .mv ?_;refine .q 1 rfl .mv ?_;refine .q 2 rfl .ia ?_;refine .q 3 rfl (.ld 0) ?_;refine .q 4 rfl .mv ?_;refine .q 5 rfl .mv ?_;refine .q 6 rfl (.it (zz:=sub_in (by omega) (by omega))) ?_;refine .q 7 rfl .ia ?_;refine .q 8 rfl (.ld 0) ?_;refine .q 9 rfl (.it (zz:=neq_f (by omega))) ?_;refine Ta.done (by kernel_rfl) ?_;(iterate 8 refine U ?_);exact Tc.db (ih2 ⟨(v2,k+1,u),by simp only;omega,by simp only;omega,h3,by simp only;omega,by simp only;rw[hdk];exact h5,by simp only;rw[hdk];exact h6,fun p hp=> h7 p (by simp only at hp;omega)⟩ (by simp only;omega))
           · have a3:¬at0 u (i+k)=at0 u (i+k-1):=by rw[a1,a2];exact d3
             have hdk:ddTo l (i+(k+1))=ddTo l (i+k)++[at0 l (i+k)]:=by show ddTo l (i+k+1)=_;rw[ddTo,if_neg (fun h=> d3 h.2)]
             have s1:=cellsI_st (m:=u) (j:=jj) (k:=(v2:Nat)) (x:=at0 u (i+k)) (p:=v2) rfl (by omega);have l1:=cellsI_le (m:=u) (j:=jj) (k:=(v2:Nat)) (p:=v2) rfl (by omega);(iterate 13 refine U ?_);refine Tc.dr [] [] mixed rfl ?_;refine .q 0 rfl .mv ?_;refine .q 1 rfl .mv ?_;refine .q 2 rfl .ia ?_;refine .q 3 rfl (.ld 0) ?_;refine .q 4 rfl .mv ?_;refine .q 5 rfl .mv ?_;refine .q 6 rfl (.it (zz:=sub_in (by omega) (by omega))) ?_;refine .q 7 rfl .ia ?_;refine .q 8 rfl (.ld 0) ?_;refine .q 9 rfl (.it (zz:=neq_t (by omega))) ?_;refine Ta.done (by kernel_rfl) ?_;(iterate 10 refine U ?_);refine .e (.st 0 (zz:=?_));(iterate 12 refine U ?_);exact Tc.db (ih2 ⟨(v2+1,k+1,u.set v2 (at0 u (i+k))),by simp only;omega,by simp only;omega,by simp only;rw[List.length_set];exact h3,by simp only;omega,by simp only;rw[hdk,List.length_append,←h5];rfl,by simp only;rw[hdk,take_set_at (by omega),h6,a1],fun p hp=> by simp only at hp ⊢;rw[at0_set (by omega)];exact h7 p (by omega)⟩ (by simp only;omega))
       · skip
         (iterate 13 refine U ?_);refine Tc.dr [] [] mixed rfl ?_;refine .q 0 rfl .mv ?_;refine .q 1 rfl .mv ?_;refine .q 2 rfl .ia ?_;refine .q 3 rfl (.ld 0) ?_;refine .q 4 rfl .mv ?_;refine .q 5 rfl .mv ?_;refine .q 6 rfl (.it (zz:=sub_in (by omega) (by omega))) ?_;refine .q 7 rfl .ia ?_;refine .q 8 rfl (.ld 0) ?_;refine .q 9 rfl (.it (zz:=eql_f (by omega))) ?_;refine Ta.done (by kernel_rfl) ?_;(iterate 8 refine U ?_);exact Tc.db (ih ⟨i+1,by omega,by omega,by rw[ddTo,if_neg (fun h=> c3 h.2),g3,take_at0 (by omega)]⟩ (by simp only;omega))
   · rw[take_at0 (l:=l) (k:=0) (by omega)];rfl
end
def bl(x:Nat):Nat:=if x=0 then 0 else Nat.log2 x+1
theorem bl_u8:∀x:Nat,x<64→(UInt8.ofNat (bl x)).toNat=bl x∧bl x≤6∧x<2 ^ bl x∧2 ^ bl x≤2*x+1:=by decide +kernel
theorem u8_wrap:∀x:Nat,x<64→IntKind.u8.wrap (x:Int)=(x:Int):=by decide +kernel
section
variable(M:Md Tryz.prog)(H:View)
theorem Len64_c(x:Nat)(hx:x<64):CallT M 208 #[.int .u64 (x:Nat)] H (fun v H'=> H.le H'∧v=.int .i64 (bl x:Nat)):=by
 obtain⟨b1,b2,_,_⟩:=bl_u8 x hx;have hw:=u8_wrap x hx;have hw2:IntKind.i64.wrap (((UInt8.ofNat (bl x)).toNat:Nat):Int)=((bl x:Nat):Int):=by rw[b1];exact wrap64 (by omega) (by omega)
 have hadd:intBin .add .i64 0 ((bl x:Nat):Int)=some (.int .i64 ((bl x:Nat):Int)):=by rw[add_in (by omega) (by omega),Int.zero_add]
 refine .en Tryz.func208 Tryz.ntmps208 fun St c cs hK=> ?_;(iterate 33 refine U ?_);refine .x (OpV.indexStr (c:=UInt8.ofNat (bl x)) rfl rfl rfl (ds_str ((en.ok _ _ (show en.ty 9=some _ from rfl)).ds.trans rfl)) (by omega) (by
   rw[Int.toNat_natCast];exact(fun(s:ByteArray) (h:∀y:Nat,y<64→s[y]? =some (UInt8.ofNat (bl y)))=> h x hx) _ (by decide +kernel))) ?_
 refine .x (OpV.convE (E:=en) rfl rfl rfl rfl rfl rfl hw2) ?_;refine .i ?_ (z:=hadd);(iterate 2 refine U ?_);refine .rt hK Tryz.func208 Tryz.results208 [_] ?_;exact okB
theorem Len_c(x:Nat)(hx:x<64):CallT M 158 #[.int .u64 (x:Nat)] H (fun v H'=> H.le H'∧v=.int .i64 (bl x:Nat)):=by
 refine .en Tryz.func158 Tryz.ntmps158 fun St c cs hK=> ?_;(iterate 10 refine U ?_);refine .c rfl rfl rfl rfl (fun H hs=> .f ca208 rfl (Len64_c M H x hx)) ?_;(iterate 2 refine U ?_);refine .rt hK Tryz.func158 Tryz.results158 [_] ?_;exact okB
end
theorem u64_12:∀x:Nat,x<64→IntKind.u64.wrap (x:Int)=(x:Int):=by decide +kernel
section
variable(M:Md Tryz.prog)(H:View)
theorem pdqS_c(dec:Int→List UInt8)(sb:Nat)(l:List Int)(jj:List Value)(n cap:Nat)(lim:Int)(hn:n=l.length)(hE:Enc dec l)(h12:n≤12)(hS:H sb=some (true,.cells ⟨(strsL dec l)++jj⟩ 9 (0,0))):
   CallT M 157 #[.slice (some ⟨sb,0,none⟩) n cap,.int .i64 0,.int .i64 (n:Nat),.int .i64 lim] H (SortSQ dec H sb jj (fun v m=> v=.tuple ⟨[]⟩∧Turned 0 n l m∧Srt 0 n m)):=by
 refine CallT.enter (vs:= [.slice (some ⟨sb,0,none⟩) n cap,.int .i64 0,.int .i64 (n:Nat),.int .i64 lim]) Tryz.func157 rfl Tryz.ntmps157 (Nat.le_of_ble_eq_true rfl) (SymSt.pull hS) fun St c cs hK=> ?_;(iterate 7 refine U ?_);refine .done (.block (.loop (.block (.sr ?_))));(iterate 17 refine U ?_);refine .e (Or.sortsS (dec:=dec) (l:=l) 0 (fun v m=> v=.tuple ⟨[]⟩∧Turned 0 n l m∧Srt 0 n m) rfl rfl rfl rfl rfl (by decide) rfl (fun H hs=> .f ca198 rfl (insertionS_c M H dec sb l jj n cap 0 n hn hE (by omega) (by omega) (by omega) (hs.get (i:=0) rfl))) (fun v m hm=> ?_));refine U ?_;obtain⟨rfl,ht,hs0⟩:=hm;refine Tc.retN (E:=en) hK Tryz.func157 Tryz.results157 (vs:= []) (by exact trivial) ?_;exact fun H' hs=> SortSQ.of hs (i:=0) rfl ⟨rfl,ht,hs0⟩
theorem SortS_c(dec:Int→List UInt8)(sb:Nat)(l:List Int)(jj:List Value)(n cap:Nat)(hn:n=l.length)(hE:Enc dec l)(h12:n≤12)(hS:H sb=some (true,.cells ⟨(strsL dec l)++jj⟩ 9 (0,0))):
   CallT M 91 #[.slice (some ⟨sb,0,none⟩) n cap] H (SortSQ dec H sb jj (fun v m=> v=.tuple ⟨[]⟩∧Turned 0 n l m∧Srt 0 n m)):=by
 have hw:=u64_12 n (by omega);refine CallT.enter (vs:= [.slice (some ⟨sb,0,none⟩) n cap]) Tryz.func91 rfl Tryz.ntmps91 (Nat.le_of_ble_eq_true rfl) (SymSt.pull hS) fun St c cs hK=> ?_;(iterate 11 refine U ?_);refine .c rfl rfl rfl rfl (fun H hs=> .f ca158 rfl (Len_c M H n (by omega))) ?_;refine .e (Or.sortsS (dec:=dec) (l:=l) 0 (fun v m=> v=.tuple ⟨[]⟩∧Turned 0 n l m∧Srt 0 n m) rfl rfl rfl rfl rfl (by decide) rfl (fun H hs=> .f ca157 rfl (pdqS_c M H dec sb l jj n cap (bl n:Nat) hn hE h12 (hs.get (i:=0) rfl))) (fun v m hm=> ?_));refine U ?_;obtain⟨rfl,ht,hs0⟩:=hm;refine Tc.overN (E:=en) hK Tryz.func91 Tryz.results91 (vs:= []) (by exact trivial) ?_;exact fun H' hs=> SortSQ.of hs (i:=0) rfl ⟨rfl,ht,hs0⟩
theorem insertionS_nil(c0:Nat):CallT M 198 #[.slice none 0 c0,.int .i64 0,.int .i64 ((0:Nat):Int)] H (fun v H'=> H.le H'∧v=.tuple ⟨[]⟩):=by
 refine .en Tryz.func198 Tryz.ntmps198 fun St c cs hK=> ?_;(iterate 5 refine U ?_);refine .done (.block (.loop (.seq (.sr ?_))));(iterate 6 refine U ?_);refine Tc.overN (E:=en) hK Tryz.func198 Tryz.results198 (vs:= []) (by exact trivial) ?_;exact okB
theorem pdqS_nil(c0:Nat)(lim:Int):CallT M 157 #[.slice none 0 c0,.int .i64 0,.int .i64 ((0:Nat):Int),.int .i64 lim] H (fun v H'=> H.le H'∧v=.tuple ⟨[]⟩):=by
 refine .en Tryz.func157 Tryz.ntmps157 fun St c cs hK=> ?_;(iterate 7 refine U ?_);refine .done (.block (.loop (.block (.sr ?_))));(iterate 17 refine U ?_);refine .c rfl rfl rfl rfl (fun H hs=> .f ca198 rfl (insertionS_nil M H c0)) ?_;refine U ?_;refine Tc.retN (E:=en) hK Tryz.func157 Tryz.results157 (vs:= []) (by exact trivial) ?_;exact okB
theorem SortS_nil(c0:Nat):CallT M 91 #[.slice none 0 c0] H (fun v H'=> H.le H'∧v=.tuple ⟨[]⟩):=by
 have hw:=u64_12 0 (by omega);refine .en Tryz.func91 Tryz.ntmps91 fun St c cs hK=> ?_;(iterate 11 refine U ?_);refine .c rfl rfl rfl rfl (fun H hs=> .f ca158 rfl (Len_c M H 0 (by omega))) ?_;refine .c rfl rfl rfl rfl (fun H hs=> .f ca157 rfl (pdqS_nil M H c0 (bl 0:Nat))) ?_;refine U ?_;refine Tc.overN (E:=en) hK Tryz.func91 Tryz.results91 (vs:= []) (by exact trivial) ?_;exact okB
theorem CompactS_nil(c0:Nat):CallT M 92 #[.slice none 0 c0] H (fun v H'=> H.le H'∧v=.slice none 0 c0):=by
 refine .en Tryz.func92 Tryz.ntmps92 fun St c cs hK=> ?_;(iterate 17 refine U ?_);refine .rt hK Tryz.func92 Tryz.results92 [_] ?_;exact okB
end
def Gl.withS(g:Gl 9 1)(m:List Value)(h:m.length=g.n):Gl 9 1:=⟨g.blk,g.n,g.cap,m,g.junk,by rw[h,Nat.mul_one],g.hc,g.hj,g.h0⟩
theorem Or.sortSGl {dec:Int→List UInt8}{M:Md Tryz.prog}{n:Nat}{H₀:View}{R:Rg}{L1:Bl}{o:Oper}{K:Rg→Bl→Prop}{cl:Go.Call}{x:Operand}{fv:Value}{d:Nat}(g:Gl 9 1)(u:List Int)(hg:g.l=(strsL dec u))(hE:Enc dec u)(h12:g.n≤12)
   (hop:o.op=.call cl) (hcl:cl.callee=.value x) (hx:evR R x=some fv) (has:evRs R cl.args.toList=some [g.val]) (hd:o.dst=some d) (hn:d<n)
   (hc:∀(H:View) (Q:Value→View→Prop),CallT M 91 #[g.val] H Q→FnT M fv [g.val] H Q)
   (hK:∀(g':Gl 9 1) (m:List Int),g'.val=g.val→g'.n=g.n→g'.blk=g.blk→g'.l=(strsL dec m)→Turned 0 g.n u m→Srt 0 g.n m→K ((d,.tuple ⟨[]⟩)::R) (L1++g'.bl)):Or M n H₀ R (L1++g.bl) o K:=by
 have hul:u.length=g.n:=by have:=g.hl;rw[hg,strsL_len] at this;omega
 cases hb:g.blk with
 | none=>
   have hcap:=g.h0 hb;have hgc:=g.hc;have h0:g.n=0:=by omega
   have hbl:g.bl= []:=by unfold Gl.bl;rw[hb]
   have hv:g.val=.slice none 0 g.cap:=by unfold Gl.val;rw[hb,h0];rfl
   refine Or.callNew (fun _:Unit=> .tuple ⟨[]⟩) (fun _=> []) (fun _=> True) hop hcl hx has hd hn (fun _=> by simp) (fun H hs=> hc H _ ?_) (fun _ _=> ?_)
   · rw[hv];exact CallT.mono (SortS_nil M H g.cap) (fun v H' ⟨h1,h2⟩=> ⟨h1,(),h2,trivial,by simp⟩)
   · rw[List.append_nil];exact hK g u rfl rfl rfl hg (Turned.refl _ _ _) (fun p q h1 h2 h3=> by omega)
 | some b=>
   have hbl:g.bl= [(b,true,.cells ⟨(strsL dec u)++g.junk⟩ 9 (0,0))]:=by unfold Gl.bl;rw[hb,hg]
   have hv:g.val=.slice (some ⟨b,0,none⟩) g.n g.cap:=by unfold Gl.val;rw[hb];rfl
   rw[hbl];refine Or.sortsS (dec:=dec) (l:=u) L1.length (fun v m=> v=.tuple ⟨[]⟩∧Turned 0 g.n u m∧Srt 0 g.n m) hop hcl hx has hd hn (by rw[List.getElem?_append_right (Nat.le_refl _),Nat.sub_self];rfl)
     (fun H hs=> hc H _ ?_) (fun v m ⟨h1,h2,h3⟩=> ?_)
   · rw[hv];exact SortS_c M H dec b u g.junk g.n g.cap hul.symm hE h12 (hs.get (i:=L1.length) (by rw[List.getElem?_append_right (Nat.le_refl _),Nat.sub_self];rfl))
   · subst h1;have hml:m.length=g.n:=by rw[h2.len];exact hul
     have:=hK (Gl.withS g (strsL dec m) (by rw[strsL_len];exact hml)) m rfl rfl rfl rfl h2 h3;have hbl':(Gl.withS g (strsL dec m) (by rw[strsL_len];exact hml)).bl= [(b,true,.cells ⟨(strsL dec m)++g.junk⟩ 9 (0,0))]:=by
       unfold Gl.bl Gl.withS;simp only[hb]
     rw[hbl'] at this;rw[List.set_append_right _ _ (Nat.le_refl _),Nat.sub_self];exact this
theorem Or.compSGl {dec:Int→List UInt8}{M:Md Tryz.prog}{n:Nat}{H₀:View}{R:Rg}{L1:Bl}{o:Oper}{K:Rg→Bl→Prop}{cl:Go.Call}{x:Operand}{fv:Value}{d:Nat}(g:Gl 9 1)(u:List Int)(hg:g.l=(strsL dec u))(hE:Enc dec u)(h12:g.n≤100000000)
   (hop:o.op=.call cl) (hcl:cl.callee=.value x) (hx:evR R x=some fv) (has:evRs R cl.args.toList=some [g.val]) (hd:o.dst=some d) (hn:d<n)
   (hc:∀(H:View) (Q:Value→View→Prop),CallT M 92 #[g.val] H Q→FnT M fv [g.val] H Q)
   (hK:∀(g':Gl 9 1),g'.n=(ddTo u g.n).length→g'.l=(strsL dec (ddTo u g.n))→K ((d,g'.val)::R) (L1++g'.bl)):Or M n H₀ R (L1++g.bl) o K:=by
 have hul:u.length=g.n:=by have:=g.hl;rw[hg,strsL_len] at this;omega
 cases hb:g.blk with
 | none=>
   have hcap:=g.h0 hb;have hgc:=g.hc;have h0:g.n=0:=by omega
   have hbl:g.bl= []:=by unfold Gl.bl;rw[hb]
   have hv:g.val=.slice none 0 g.cap:=by unfold Gl.val;rw[hb,h0];rfl
   have hu0:u= []:=List.eq_nil_of_length_eq_zero (by omega);refine Or.callNew (fun _:Unit=> g.val) (fun _=> []) (fun _=> True) hop hcl hx has hd hn (fun _=> by simp) (fun H hs=> hc H _ ?_) (fun _ _=> ?_)
   · rw[hv];exact CallT.mono (CompactS_nil M H g.cap) (fun v H' ⟨h1,h2⟩=> ⟨h1,(),h2,trivial,by simp⟩)
   · rw[List.append_nil];refine hK g (by rw[h0];rfl) ?_;rw[hg,hu0,h0];rfl
 | some b=>
   have hbl:g.bl= [(b,true,.cells ⟨(strsL dec u)++g.junk⟩ 9 (0,0))]:=by unfold Gl.bl;rw[hb,hg]
   have hv:g.val=.slice (some ⟨b,0,none⟩) g.n g.cap:=by unfold Gl.val;rw[hb];rfl
   rw[hbl];have hi:(L1++[(b,true,Obj.cells ⟨(strsL dec u)++g.junk⟩ 9 (0,0))])[L1.length]? =some (b,true,Obj.cells ⟨(strsL dec u)++g.junk⟩ 9 (0,0)):=by rw[List.getElem?_append_right (Nat.le_refl _),Nat.sub_self];rfl
   refine .callV hop hcl hx has (Q:=fun H v H'=> CompSQ dec H b u g.junk g.n g.cap v H') (fun H hs=> hc H _ ?_) (fun H v H' hs hq=> ?_)
   · rw[hv];exact CompactS_c M H dec b u g.junk g.n g.cap hul.symm hE h12 g.hc (hs.get hi)
   · obtain⟨h1,rest,h2,h3,h4⟩:=hq;subst h2;have hle:=ddTo_le u g.n;have hgc:=g.hc;have hgj:=g.hj;refine⟨L1++[(b,true,.cells ⟨(strsL dec (ddTo u g.n))++rest⟩ 9 (0,0))],_,?_,by rw[hd];exact⟨hn,rfl⟩,?_⟩
     · have:=SymSt_turn hs hi h1 h4;rw[List.set_append_right _ _ (Nat.le_refl _),Nat.sub_self] at this;exact this
     · have:=hK ⟨some b,(ddTo u g.n).length,g.cap,(strsL dec (ddTo u g.n)),rest,by rw[strsL_len,Nat.mul_one],by omega,by omega,fun h=> by cases h⟩ rfl rfl;exact this
section
variable(M:Md Tryz.prog)(H:View)
theorem pdqI_c(sb:Nat)(l:List Int)(jj:List Value)(n cap:Nat)(lim:Int)(hn:n=l.length)(h12:n≤12)(hS:H sb=some (true,.cells ⟨(intsL l)++jj⟩ 3 (0,0))):
   CallT M 192 #[.slice (some ⟨sb,0,none⟩) n cap,.int .i64 0,.int .i64 (n:Nat),.int .i64 lim] H (SortIQ H sb jj (fun v m=> v=.tuple ⟨[]⟩∧Turned 0 n l m∧Srt 0 n m)):=by
 refine CallT.enter (vs:= [.slice (some ⟨sb,0,none⟩) n cap,.int .i64 0,.int .i64 (n:Nat),.int .i64 lim]) Tryz.func192 rfl Tryz.ntmps192 (Nat.le_of_ble_eq_true rfl) (SymSt.pull hS) fun St c cs hK=> ?_;(iterate 7 refine U ?_);refine .done (.block (.loop (.block (.sr ?_))));(iterate 17 refine U ?_);refine .e (Or.sortsI (l:=l) 0 (fun v m=> v=.tuple ⟨[]⟩∧Turned 0 n l m∧Srt 0 n m) rfl rfl rfl rfl rfl (by decide) rfl (fun H hs=> .f ca223 rfl (insertionI_c M H sb l jj n cap 0 n hn (by omega) (by omega) (by omega) (hs.get (i:=0) rfl))) (fun v m hm=> ?_));refine U ?_;obtain⟨rfl,ht,hs0⟩:=hm;refine Tc.retN (E:=en) hK Tryz.func192 Tryz.results192 (vs:= []) (by exact trivial) ?_;exact fun H' hs=> SortIQ.of hs (i:=0) rfl ⟨rfl,ht,hs0⟩
theorem SortI_c(sb:Nat)(l:List Int)(jj:List Value)(n cap:Nat)(hn:n=l.length)(h12:n≤12)(hS:H sb=some (true,.cells ⟨(intsL l)++jj⟩ 3 (0,0))):
   CallT M 131 #[.slice (some ⟨sb,0,none⟩) n cap] H (SortIQ H sb jj (fun v m=> v=.tuple ⟨[]⟩∧Turned 0 n l m∧Srt 0 n m)):=by
 have hw:=u64_12 n (by omega);refine CallT.enter (vs:= [.slice (some ⟨sb,0,none⟩) n cap]) Tryz.func131 rfl Tryz.ntmps131 (Nat.le_of_ble_eq_true rfl) (SymSt.pull hS) fun St c cs hK=> ?_;(iterate 11 refine U ?_);refine .c rfl rfl rfl rfl (fun H hs=> .f ca158 rfl (Len_c M H n (by omega))) ?_;refine .e (Or.sortsI (l:=l) 0 (fun v m=> v=.tuple ⟨[]⟩∧Turned 0 n l m∧Srt 0 n m) rfl rfl rfl rfl rfl (by decide) rfl (fun H hs=> .f ca192 rfl (pdqI_c M H sb l jj n cap (bl n:Nat) hn h12 (hs.get (i:=0) rfl))) (fun v m hm=> ?_));refine U ?_;obtain⟨rfl,ht,hs0⟩:=hm;refine Tc.overN (E:=en) hK Tryz.func131 Tryz.results131 (vs:= []) (by exact trivial) ?_;exact fun H' hs=> SortIQ.of hs (i:=0) rfl ⟨rfl,ht,hs0⟩
theorem insertionI_nil(c0:Nat):CallT M 223 #[.slice none 0 c0,.int .i64 0,.int .i64 ((0:Nat):Int)] H (fun v H'=> H.le H'∧v=.tuple ⟨[]⟩):=by
 refine .en Tryz.func223 Tryz.ntmps223 fun St c cs hK=> ?_;(iterate 5 refine U ?_);refine .done (.block (.loop (.seq (.sr ?_))));(iterate 6 refine U ?_);refine Tc.overN (E:=en) hK Tryz.func223 Tryz.results223 (vs:= []) (by exact trivial) ?_;exact okB
theorem pdqI_nil(c0:Nat)(lim:Int):CallT M 192 #[.slice none 0 c0,.int .i64 0,.int .i64 ((0:Nat):Int),.int .i64 lim] H (fun v H'=> H.le H'∧v=.tuple ⟨[]⟩):=by
 refine .en Tryz.func192 Tryz.ntmps192 fun St c cs hK=> ?_;(iterate 7 refine U ?_);refine .done (.block (.loop (.block (.sr ?_))));(iterate 17 refine U ?_);refine .c rfl rfl rfl rfl (fun H hs=> .f ca223 rfl (insertionI_nil M H c0)) ?_;refine U ?_;refine Tc.retN (E:=en) hK Tryz.func192 Tryz.results192 (vs:= []) (by exact trivial) ?_;exact okB
theorem SortI_nil(c0:Nat):CallT M 131 #[.slice none 0 c0] H (fun v H'=> H.le H'∧v=.tuple ⟨[]⟩):=by
 have hw:=u64_12 0 (by omega);refine .en Tryz.func131 Tryz.ntmps131 fun St c cs hK=> ?_;(iterate 11 refine U ?_);refine .c rfl rfl rfl rfl (fun H hs=> .f ca158 rfl (Len_c M H 0 (by omega))) ?_;refine .c rfl rfl rfl rfl (fun H hs=> .f ca192 rfl (pdqI_nil M H c0 (bl 0:Nat))) ?_;refine U ?_;refine Tc.overN (E:=en) hK Tryz.func131 Tryz.results131 (vs:= []) (by exact trivial) ?_;exact okB
theorem CompactI_nil(c0:Nat):CallT M 132 #[.slice none 0 c0] H (fun v H'=> H.le H'∧v=.slice none 0 c0):=by
 refine .en Tryz.func132 Tryz.ntmps132 fun St c cs hK=> ?_;(iterate 17 refine U ?_);refine .rt hK Tryz.func132 Tryz.results132 [_] ?_;exact okB
end
def Gl.withI(g:Gl 3 1)(m:List Value)(h:m.length=g.n):Gl 3 1:=⟨g.blk,g.n,g.cap,m,g.junk,by rw[h,Nat.mul_one],g.hc,g.hj,g.h0⟩
theorem Or.sortIGl {M:Md Tryz.prog}{n:Nat}{H₀:View}{R:Rg}{L1:Bl}{o:Oper}{K:Rg→Bl→Prop}{cl:Go.Call}{x:Operand}{fv:Value}{d:Nat}(g:Gl 3 1)(u:List Int)(hg:g.l=(intsL u))(h12:g.n≤12)
   (hop:o.op=.call cl) (hcl:cl.callee=.value x) (hx:evR R x=some fv) (has:evRs R cl.args.toList=some [g.val]) (hd:o.dst=some d) (hn:d<n)
   (hc:∀(H:View) (Q:Value→View→Prop),CallT M 131 #[g.val] H Q→FnT M fv [g.val] H Q)
   (hK:∀(g':Gl 3 1) (m:List Int),g'.val=g.val→g'.n=g.n→g'.blk=g.blk→g'.l=(intsL m)→Turned 0 g.n u m→Srt 0 g.n m→K ((d,.tuple ⟨[]⟩)::R) (L1++g'.bl)):Or M n H₀ R (L1++g.bl) o K:=by
 have hul:u.length=g.n:=by have:=g.hl;rw[hg,intsL_len] at this;omega
 cases hb:g.blk with
 | none=>
   have hcap:=g.h0 hb;have hgc:=g.hc;have h0:g.n=0:=by omega
   have hbl:g.bl= []:=by unfold Gl.bl;rw[hb]
   have hv:g.val=.slice none 0 g.cap:=by unfold Gl.val;rw[hb,h0];rfl
   refine Or.callNew (fun _:Unit=> .tuple ⟨[]⟩) (fun _=> []) (fun _=> True) hop hcl hx has hd hn (fun _=> by simp) (fun H hs=> hc H _ ?_) (fun _ _=> ?_)
   · rw[hv];exact CallT.mono (SortI_nil M H g.cap) (fun v H' ⟨h1,h2⟩=> ⟨h1,(),h2,trivial,by simp⟩)
   · rw[List.append_nil];exact hK g u rfl rfl rfl hg (Turned.refl _ _ _) (fun p q h1 h2 h3=> by omega)
 | some b=>
   have hbl:g.bl= [(b,true,.cells ⟨(intsL u)++g.junk⟩ 3 (0,0))]:=by unfold Gl.bl;rw[hb,hg]
   have hv:g.val=.slice (some ⟨b,0,none⟩) g.n g.cap:=by unfold Gl.val;rw[hb];rfl
   rw[hbl];refine Or.sortsI (l:=u) L1.length (fun v m=> v=.tuple ⟨[]⟩∧Turned 0 g.n u m∧Srt 0 g.n m) hop hcl hx has hd hn (by rw[List.getElem?_append_right (Nat.le_refl _),Nat.sub_self];rfl)
     (fun H hs=> hc H _ ?_) (fun v m ⟨h1,h2,h3⟩=> ?_)
   · rw[hv];exact SortI_c M H b u g.junk g.n g.cap hul.symm h12 (hs.get (i:=L1.length) (by rw[List.getElem?_append_right (Nat.le_refl _),Nat.sub_self];rfl))
   · subst h1;have hml:m.length=g.n:=by rw[h2.len];exact hul
     have:=hK (Gl.withI g (intsL m) (by rw[intsL_len];exact hml)) m rfl rfl rfl rfl h2 h3;have hbl':(Gl.withI g (intsL m) (by rw[intsL_len];exact hml)).bl= [(b,true,.cells ⟨(intsL m)++g.junk⟩ 3 (0,0))]:=by
       unfold Gl.bl Gl.withI;simp only[hb]
     rw[hbl'] at this;rw[List.set_append_right _ _ (Nat.le_refl _),Nat.sub_self];exact this
theorem Or.compIGl {M:Md Tryz.prog}{n:Nat}{H₀:View}{R:Rg}{L1:Bl}{o:Oper}{K:Rg→Bl→Prop}{cl:Go.Call}{x:Operand}{fv:Value}{d:Nat}(g:Gl 3 1)(u:List Int)(hg:g.l=(intsL u))(h12:g.n≤1000000)
   (hop:o.op=.call cl) (hcl:cl.callee=.value x) (hx:evR R x=some fv) (has:evRs R cl.args.toList=some [g.val]) (hd:o.dst=some d) (hn:d<n)
   (hc:∀(H:View) (Q:Value→View→Prop),CallT M 132 #[g.val] H Q→FnT M fv [g.val] H Q)
   (hK:∀(g':Gl 3 1),g'.n=(ddTo u g.n).length→g'.l=(intsL (ddTo u g.n))→K ((d,g'.val)::R) (L1++g'.bl)):Or M n H₀ R (L1++g.bl) o K:=by
 have hul:u.length=g.n:=by have:=g.hl;rw[hg,intsL_len] at this;omega
 cases hb:g.blk with
 | none=>
   have hcap:=g.h0 hb;have hgc:=g.hc;have h0:g.n=0:=by omega
   have hbl:g.bl= []:=by unfold Gl.bl;rw[hb]
   have hv:g.val=.slice none 0 g.cap:=by unfold Gl.val;rw[hb,h0];rfl
   have hu0:u= []:=List.eq_nil_of_length_eq_zero (by omega);refine Or.callNew (fun _:Unit=> g.val) (fun _=> []) (fun _=> True) hop hcl hx has hd hn (fun _=> by simp) (fun H hs=> hc H _ ?_) (fun _ _=> ?_)
   · rw[hv];exact CallT.mono (CompactI_nil M H g.cap) (fun v H' ⟨h1,h2⟩=> ⟨h1,(),h2,trivial,by simp⟩)
   · rw[List.append_nil];refine hK g (by rw[h0];rfl) ?_;rw[hg,hu0,h0];rfl
 | some b=>
   have hbl:g.bl= [(b,true,.cells ⟨(intsL u)++g.junk⟩ 3 (0,0))]:=by unfold Gl.bl;rw[hb,hg]
   have hv:g.val=.slice (some ⟨b,0,none⟩) g.n g.cap:=by unfold Gl.val;rw[hb];rfl
   rw[hbl];have hi:(L1++[(b,true,Obj.cells ⟨(intsL u)++g.junk⟩ 3 (0,0))])[L1.length]? =some (b,true,Obj.cells ⟨(intsL u)++g.junk⟩ 3 (0,0)):=by rw[List.getElem?_append_right (Nat.le_refl _),Nat.sub_self];rfl
   refine .callV hop hcl hx has (Q:=fun H v H'=> CompIQ H b u g.junk g.n g.cap v H') (fun H hs=> hc H _ ?_) (fun H v H' hs hq=> ?_)
   · rw[hv];exact CompactI_c M H b u g.junk g.n g.cap hul.symm h12 g.hc (hs.get hi)
   · obtain⟨h1,rest,h2,h3,h4⟩:=hq;subst h2;have hle:=ddTo_le u g.n;have hgc:=g.hc;have hgj:=g.hj;refine⟨L1++[(b,true,.cells ⟨(intsL (ddTo u g.n))++rest⟩ 3 (0,0))],_,?_,by rw[hd];exact⟨hn,rfl⟩,?_⟩
     · have:=SymSt_turn hs hi h1 h4;rw[List.set_append_right _ _ (Nat.le_refl _),Nat.sub_self] at this;exact this
     · have:=hK ⟨some b,(ddTo u g.n).length,g.cap,(intsL (ddTo u g.n)),rest,by rw[intsL_len,Nat.mul_one],by omega,by omega,fun h=> by cases h⟩ rfl rfl;exact this
set_option maxHeartbeats 16000000
def Bk.hit(k:Bk)(line:Nat)(s:List UInt8):Option Int:=match k.line s with
 | some j=> if j=line then none else some (j:Nat)
 | none=> none
def Bk.hits(k:Bk)(line:Nat):List Int:=(slipsL (k.num line)).filterMap (k.hit line)
def slipsV(g:Gl 3 1)(a:Int):Value:=.tuple ⟨[g.val,.int .i64 a]⟩
theorem Bk.isNum_of {k:Bk}(ha:k.alarm=0){i:Nat}(hi:i<k.nl):(k.num i).all dig=true∧1≤(k.num i).length∧(k.num i).length≤3:=by
 obtain⟨_,_,h,_⟩:=Bk.line_ok ha hi;unfold isNum at h;simp only[Bool.and_eq_true,decide_eq_true_eq] at h;exact⟨h.2,h.1.1,h.1.2⟩
theorem slipsFrom_len(s:List UInt8):∀m i,s.length-i=m→(slipsFrom s i).length≤2*m
 | 0,i,h=> by rw[slipsFrom_nil (by omega)];exact Nat.le_refl _
 | m + 1,i,h=> by
   rw[slipsFrom_cons (by omega),List.length_append];have h1:=slipsFrom_len s m (i+1) (by omega);have h2:(slipsAt s i).length≤2:=by
     unfold slipsAt slipAt;rw[List.length_append];split <;> split <;> simp
   omega
theorem Bk.hits_len {k:Bk}(ha:k.alarm=0){i:Nat}(hi:i<k.nl):(k.hits i).length≤6:=by
 obtain⟨_,_,h⟩:=Bk.isNum_of ha hi;have h1:=slipsFrom_len (k.num i) _ 0 rfl;have h2:(k.hits i).length≤(slipsL (k.num i)).length:=List.length_filterMap_le _ _;unfold slipsL at h2;omega
section
variable(M:Md Tryz.prog)(H:View)
theorem Slips_c(k:Bk)(A:Option Addr)(lc:Nat)(B:Option Addr)(tc:Nat)(hk:BkAt H k A lc B tc)(hn:k.small)(hG:Glob H)(ha:k.alarm=0)(line:Nat)(hl:line<k.nl):
   CallT M 58 #[k.val A lc B tc,.int .i64 (line:Nat)] H (fun v H'=> H.le H'∧∃(g:Gl 3 1) (m:List Int),v=slipsV g 0∧(Turned 0 (k.hits line).length (k.hits line) m∧Srt 0 (k.hits line).length m)∧(g.n=(ddTo m m.length).length∧g.l=intsL (ddTo m m.length))∧∀x∈g.bl,H' x.1=some x.2∧H x.1=none):=by
 obtain⟨hdg,hl1,hl3⟩:=Bk.isNum_of ha hl;have hnl:=hn.nl;have hhl:=Bk.hits_len ha hl;have hb:=fun(H':View)=> between_is M H' ((line:Nat):Int) 0 ((k.nl:Int)-1) true (decide_eq_true (by omega));have hop:=fun(H':View) (h':H.le H')=> open_yes M H' k A lc B tc (hk.le h') hn (glob_le hG h') ha;have hRows:=hk.rows;obtain⟨_,h0|⟨ab,ao,fa,gs,gt,gz,rfl,hab,hrow⟩⟩:=hRows
 · omega
 obtain⟨F,fc,f1,_,_⟩:=hrow line hl;have f2:ldL false 1 gs (ao+((line:Nat):Int).toNat*3+1)=some (strV (k.num line)):=ldL_cell f1 (by decide);refine .en Tryz.func58 Tryz.ntmps58 fun St c cs hK=> ?_;(iterate 2 refine U ?_);refine .e (.bx (zz:=fun b2=> ?_));refine .e (.bx (zz:=fun b3=> ?_));(iterate 4 refine U ?_);refine Tc.dr [12] [] mixed rfl ?_;refine .q 0 rfl (.ld 1) ?_;refine .q 1 rfl (.ld 0) ?_;refine .q 2 rfl .fa ?_;refine .q 3 rfl (.ld 1) ?_;refine .q 4 rfl .ln ?_;refine .q 5 rfl (.it (zz:=sub_in (by omega) (by omega))) ?_;refine .z 6 rfl (OpV.takeCall rfl rfl rfl rfl (fun H hs=> .f ca82 rfl (hb H))) ?_;refine .z 7 rfl (OpV.takeCall rfl rfl rfl rfl (fun H hs=> .f ca81 rfl (hop H hs.base))) ?_;refine .q 8 rfl .mv ?_;refine .q 9 rfl .et ?_;refine Ta.tkw 10 (by kernel_rfl) rfl rfl rfl (by decide) rfl rfl (OpV.take .et) ?_;refine Ta.each [11] (by kernel_rfl) rfl ⟨TaOp.mk rfl rfl rfl (.al (zz:=fun b6=> ⟨S2.mk (by apply List.Sublist.cons;exact List.Sublist.refl _) (.inr (by apply List.Sublist.cons;exact List.Sublist.refl _)),?_⟩)),trivial⟩;refine Ta.each [12] (by kernel_rfl) rfl ⟨TaOp.mk rfl rfl rfl (.st 0 (zz:=⟨S2.mk (by apply List.Sublist.cons;exact List.Sublist.refl _) (.inl (by kernel_rfl)),?_⟩)),trivial⟩;refine Ta.tkw 13 (by kernel_rfl) rfl rfl rfl (by decide) rfl rfl (OpV.take .sg) ?_;refine Ta.done (by kernel_rfl) ?_;(iterate 10 refine U ?_);refine .e (.al (zz:=fun b8=> ?_));(iterate 10 refine U ?_);refine To.callF rfl rfl rfl rfl rfl rfl (by decide) (FnT.f ca130 rfl (slips_c M H (k.num line))) (fun v H₁ hv=> ?_);obtain⟨hle1,sb,rfl,hcap⟩:=hv;refine U ?_;have hit:=fun(H':View) (hc:CapS (k.num line) sb H')=> slips_it M H' (k.num line) hdg (by omega) sb hc;refine U ?_;refine Tc.db (R':= [(2,.pointer (some ⟨b2,0,none⟩)),(3,.pointer (some ⟨b3,0,none⟩)),(6,.pointer (some ⟨b6,0,none⟩)),(8,.pointer (some ⟨b8,0,none⟩)),(31,slipF sb)]) (L':= [(b8,true,.cells ⟨[(Gl.nil 3 1).val]⟩ 26 (0,0)),(b6,true,.cells ⟨(k.val (some ⟨ab,ao,none⟩) lc B tc).cells.toList⟩ 113 (0,0)),(b3,true,.cells ⟨[.int .i64 (line:Nat)]⟩ 3 (0,0)),(b2,true,.cells ⟨(k.val (some ⟨ab,ao,none⟩) lc B tc).cells.toList⟩ 25 (0,0))]) ?_;refine Tc.rangeL (A:= []) (ts:= [32]) (xs:=slipsL (k.num line)) (fun rest H₄ L₄=> ∃(g:Gl 3 1) (dn:List Int),L₄= [(b8,true,.cells ⟨[g.val]⟩ 26 (0,0)),(b6,true,.cells ⟨(k.val (some ⟨ab,ao,none⟩) lc B tc).cells.toList⟩ 113 (0,0)),(b3,true,.cells ⟨[.int .i64 (line:Nat)]⟩ 3 (0,0)),(b2,true,.cells ⟨(k.val (some ⟨ab,ao,none⟩) lc B tc).cells.toList⟩ 25 (0,0))]++g.bl
     ∧g.l=intsL dn∧dn++rest.filterMap (k.hit line)=k.hits line∧CapS (k.num line) sb H₄∧H₁.le H₄) (fun _ _ _=> False) rfl rfl rfl rfl hit (fun _ _=> CapS.le _ _) (fun _ _ _ ⟨_,_,_,_,_,h,_⟩=> h) rfl (fun _ _=> rfl)
     ⟨Gl.nil 3 1,[],rfl,rfl,rfl,hcap,View.le_refl _⟩ ?_ ?_ (fun _ _ _ _ h=> h.elim)
 · rintro r x rest _ l tmps asg bdy H₄ _ hx ⟨g,dn,rfl,q1,q2,q3,q4⟩ Q St1 cc1 cs1 hK1 q q';have hln:=fun(H':View) (h':H₄.le H')=> line_c M H' k (some ⟨ab,ao,none⟩) lc B tc (hk.rows.le (View.le_trans hle1 (View.le_trans q4 h'))) hn.nl x;have hgn:g.n=dn.length:=by have:=g.hl;rw[q1,intsL_len] at this;omega
   have hdl:dn.length≤6:=by
     have:=congrArg List.length q2;rw[List.length_append] at this;omega
   cases hlx:k.line x with
   | none=>
     rw[hlx] at hln;have e2:firstI none= -1:=rfl;rw[e2] at hln;have e3:k.hit line x=none:=by unfold Bk.hit;rw[hlx]
     rw[List.filterMap_cons_none e3] at q2;(iterate 3 refine U ?_);refine Tc.beginRound (i:=0) rfl rfl rfl ?_;(iterate 5 refine U ?_);refine .c rfl rfl rfl rfl (fun H hs=> .f ca85 rfl (hln H hs.base)) ?_;(iterate 15 refine U ?_);refine Tc.leaveRound hK1 (i:=0) rfl (.inl ⟨rfl,rfl⟩) (fun H' hs=> q H' H₄ _ hs ⟨g,dn,rfl,q1,q2,q3,q4⟩)
   | some j=>
     rw[hlx] at hln;have e2:firstI (some j)=(j:Nat):=rfl;rw[e2] at hln;by_cases c1:j=line
     · have e3:k.hit line x=none:=by unfold Bk.hit;rw[hlx];exact if_pos c1
       rw[List.filterMap_cons_none e3] at q2;(iterate 3 refine U ?_);refine Tc.beginRound (i:=0) rfl rfl rfl ?_;(iterate 5 refine U ?_);refine .c rfl rfl rfl rfl (fun H hs=> .f ca85 rfl (hln H hs.base)) ?_;(iterate 15 refine U ?_);refine Tc.leaveRound hK1 (i:=0) rfl (.inl ⟨rfl,rfl⟩) (fun H' hs=> q H' H₄ _ hs ⟨g,dn,rfl,q1,q2,q3,q4⟩)
     · have e3:k.hit line x=some (j:Nat):=by unfold Bk.hit;rw[hlx];exact if_neg c1
       rw[List.filterMap_cons_some e3] at q2;(iterate 3 refine U ?_);refine Tc.beginRound (i:=0) rfl rfl rfl ?_;(iterate 5 refine U ?_);refine .c rfl rfl rfl rfl (fun H hs=> .f ca85 rfl (hln H hs.base)) ?_;(iterate 16 refine U ?_);refine .e (.bs (zz:=fun bs=> ?_));refine .e (Or.append (E:=en) 7 rfl rfl rfl rfl rfl rfl rfl rfl rfl rfl rfl rfl rfl rfl rfl (fun H hs=> SrcAt.of (hs.get (i:=0) rfl) (Nat.le_of_ble_eq_true rfl)) rfl (by omega) rfl (by decide) (fun g' hn2 hl2=> ?_));refine .e (.st 3 (zz:=?_));(iterate 2 refine U ?_);refine Tc.leaveRound hK1 (i:=1) rfl (.inl ⟨rfl,rfl⟩) (fun H' hs=> q H' H₄ _ (hs.less (by apply List.Sublist.cons;exact List.Sublist.refl _)) ⟨g',dn++[((j:Nat):Int)],rfl,by rw[hl2,q1];unfold intsL;rw[List.map_append];rfl,by rw[List.append_assoc];exact q2,q3,q4⟩)
 · rintro r H₄ _ ⟨g,dn,rfl,q1,q2,q3,q4⟩;have q5:dn=k.hits line:=by rw[←q2];simp
   subst q5;have hgn:g.n=(k.hits line).length:=by have:=g.hl;rw[q1,intsL_len] at this;omega
   (iterate 4 refine U ?_);refine .e (Or.sortIGl (L1:= [(r,true,.deferred (some [])),(b8,true,.cells ⟨[g.val]⟩ 26 (0,0)),(b6,true,.cells ⟨(k.val (some ⟨ab,ao,none⟩) lc B tc).cells.toList⟩ 113 (0,0)),(b3,true,.cells ⟨[.int .i64 (line:Nat)]⟩ 3 (0,0)),(b2,true,.cells ⟨(k.val (some ⟨ab,ao,none⟩) lc B tc).cells.toList⟩ 25 (0,0))]) g (k.hits line) q1 (by omega) rfl rfl rfl rfl rfl (by decide) (fun H Q h=> .f ca131 rfl h) (fun g' m hv' hn' hb' hl' ht hs'=> ?_));rw[←hv'];rw[hgn] at ht hs' hn';have hml:m.length=(k.hits line).length:=ht.len;(iterate 4 refine U ?_);refine .e (Or.compIGl (L1:= [(r,true,.deferred (some [])),(b8,true,.cells ⟨[g'.val]⟩ 26 (0,0)),(b6,true,.cells ⟨(k.val (some ⟨ab,ao,none⟩) lc B tc).cells.toList⟩ 113 (0,0)),(b3,true,.cells ⟨[.int .i64 (line:Nat)]⟩ 3 (0,0)),(b2,true,.cells ⟨(k.val (some ⟨ab,ao,none⟩) lc B tc).cells.toList⟩ 25 (0,0))]) g' m hl' (by omega) rfl rfl rfl rfl rfl (by decide) (fun H Q h=> .f ca132 rfl h) (fun g2 hn3 hl3=> ?_));rw[hn',←hml] at hn3 hl3;(iterate 3 refine U ?_);refine Tc.retD (E:=en) (i:=0) hK Tryz.func58 Tryz.results58 (vs:= [_,_]) rfl ⟨rfl,rfl,trivial⟩ ?_;exact fun H' hs=> ⟨View.le_trans hle1 (View.le_trans q4 hs.base),g2,m,rfl,⟨ht,hs'⟩,⟨hn3,hl3⟩,fun x hx=> ⟨hs.at_ x (by simp[hx]),none_le (View.le_trans hle1 q4) (hs.out x (by simp[hx]))⟩⟩
end
def Bk.safe1(k:Bk)(s:List UInt8):Bool:=(slipsL s).all fun x=> (k.line x).isNone
def Bk.safeAt(k:Bk)(s:List UInt8)(i:Nat):Bool:=(slipsL (k.num i)).all fun x=> !begins x s
def Bk.safe(k:Bk)(s:List UInt8):Bool:=k.safe1 s&&allB (k.safeAt s) k.nl
def takenN(s:List UInt8):Nat:=(s.map pn).sum
theorem takenN_le(s:List UInt8)(h:s.all dig=true):takenN s≤10*s.length:=by
 induction s with
 | nil=> exact Nat.le_refl _
 | cons x t ih=>
   rw[List.all_cons,Bool.and_eq_true] at h;have h1:=ih h.2;have h2:=pn_in h.1;unfold takenN at h1 ⊢;rw[List.map_cons,List.sum_cons,List.length_cons];omega
theorem takenN_at {s:List UInt8}{p:Nat}{x:UInt8}(h:s[p]? =some x):takenN (s.take (p+1))=takenN (s.take p)+pn x:=by
 obtain⟨hp,rfl⟩:=List.getElem?_eq_some_iff.1 h;unfold takenN;rw[List.take_succ_eq_append_getElem hp,List.map_append,List.sum_append];rfl
section
variable(M:Md Tryz.prog)(H:View)
theorem safe_c(k:Bk)(A:Option Addr)(lc:Nat)(B:Option Addr)(tc:Nat)(hk:BkAt H k A lc B tc)(hn:k.small)(ha:k.alarm=0)(s:List UInt8)(hs1:s.all dig=true)(hs2:s.length≤1000):
   CallT M 118 #[k.val A lc B tc,strV s] H (fun v H'=> H.le H'∧v=.bool (k.safe s)):=by
 have hnl:=hn.nl;refine .en Tryz.func118 Tryz.ntmps118 fun St c cs hK=> ?_;(iterate 2 refine U ?_);refine .e (.bx (zz:=fun b2=> ?_));refine .e (.bx (zz:=fun b3=> ?_));refine .e (.al (zz:=fun b4=> ?_));(iterate 5 refine U ?_);refine To.callF rfl rfl rfl rfl rfl rfl (by decide) (FnT.f ca130 rfl (slips_c M H s)) (fun v H₁ hv=> ?_);obtain⟨hle1,sb,rfl,hcap⟩:=hv;refine U ?_;have hit:=fun(H':View) (hc:CapS s sb H')=> slips_it M H' s hs1 hs2 sb hc;refine U ?_;refine Tc.db (R':= [(2,.pointer (some ⟨b2,0,none⟩)),(3,.pointer (some ⟨b3,0,none⟩)),(4,.pointer (some ⟨b4,0,none⟩)),(10,slipF sb)]) (L':= [(b4,true,.cells ⟨[.bool false]⟩ 4 (0,0)),(b3,true,.cells ⟨[strV s]⟩ 9 (0,0)),(b2,true,.cells ⟨(k.val A lc B tc).cells.toList⟩ 113 (0,0))]) ?_;refine Tc.rangeLc (A:= []) (ts:= [11]) (xs:=slipsL s) (fun rest H₄=> k.safe1 s=rest.all (fun x=> (k.line x).isNone)∧CapS s sb H₄∧H₁.le H₄) (fun j H₄=> j=.ret∧k.safe1 s=false∧H₁.le H₄) rfl rfl rfl rfl hit (fun _ _=> CapS.le _ _) (fun _ _ ⟨_,h,_⟩=> h) rfl (fun _ _=> rfl)
     ⟨rfl,hcap,View.le_refl _⟩ ?_ ?_ ?_
 · rintro r x rest _ l tmps asg bdy H₄ _ hx ⟨rfl,q2,q3,q4⟩ Q St1 cc1 cs1 hK1 q q';have hln:=fun(H':View) (h':H₄.le H')=> line_c M H' k A lc B tc (hk.rows.le (View.le_trans hle1 (View.le_trans q4 h'))) hn.nl x;rw[List.all_cons] at q2;cases hlx:k.line x with
   | none=>
     rw[hlx] at hln q2;have e2:firstI none= -1:=rfl;rw[e2] at hln;(iterate 3 refine U ?_);refine Tc.beginRound (i:=0) rfl rfl rfl ?_;(iterate 5 refine U ?_);refine .c rfl rfl rfl rfl (fun H hs=> .f ca85 rfl (hln H hs.base)) ?_;(iterate 5 refine U ?_);refine Tc.leaveRound hK1 (i:=0) rfl (.inl ⟨rfl,rfl⟩) (fun H' hs=> q H' H₄ _ hs ⟨rfl,q2,q3,q4⟩)
   | some j=>
     rw[hlx] at hln q2;have e2:firstI (some j)=(j:Nat):=rfl;rw[e2] at hln;(iterate 3 refine U ?_);refine Tc.beginRound (i:=0) rfl rfl rfl ?_;(iterate 5 refine U ?_);refine .c rfl rfl rfl rfl (fun H hs=> .f ca85 rfl (hln H hs.base)) ?_;(iterate 5 refine U ?_);refine .e (.st 2 (zz:=?_));refine U ?_;refine Tc.leaveRound hK1 (i:=0) rfl (.inr (.inl ⟨_,rfl,rfl⟩)) (fun H' hs=> q' H' H₄ _ _ hs ⟨rfl,rfl,q2,q4⟩)
 · rintro r H₄ ⟨q2,q3,q4⟩;have hle4:=View.le_trans hle1 q4;have q5:k.safe1 s=true:=q2;refine Tc.marked (L:= [(b4,true,.cells ⟨[.bool false]⟩ 4 (0,0)),(b3,true,.cells ⟨[strV s]⟩ 9 (0,0)),(b2,true,.cells ⟨(k.val A lc B tc).cells.toList⟩ 113 (0,0))]) (rs:= []) ?_;(iterate 11 refine U ?_);refine Tc.db (Tc.loopBD (σ:= { y:View×Nat×List Nat//H.le y.1∧y.2.1≤k.nl∧∀i,i<y.2.1→k.safeAt s i=true })
     (fun y=> (y.1.1,[(2,.pointer (some ⟨b2,0,none⟩)),(3,.pointer (some ⟨b3,0,none⟩)),(4,.pointer (some ⟨b4,0,none⟩)),(18,.slice A k.nl lc),(19,.int .i64 (k.nl:Nat)),(20,.int .i64 (y.1.2.1:Nat))],[(b4,true,.cells ⟨[.bool false]⟩ 4 (0,0)),(b3,true,.cells ⟨[strV s]⟩ 9 (0,0)),(b2,true,.cells ⟨(k.val A lc B tc).cells.toList⟩ 113 (0,0))]++Mk y.1.2.2,marks y.1.2.2)) (fun y=> k.nl-y.1.2.1) ?_ ⟨(H₄,0,[r]),hle4,Nat.zero_le _,fun i hi=> absurd hi (Nat.not_lt_zero _)⟩)
   rintro⟨⟨H₅,i,rs⟩,g1,g2,g3⟩ ih;simp only at g1 g2 g3;show Tc M St _ _ H₅ _ [(2,.pointer (some ⟨b2,0,none⟩)),(3,.pointer (some ⟨b3,0,none⟩)),(4,.pointer (some ⟨b4,0,none⟩)),(18,.slice A k.nl lc),(19,.int .i64 (k.nl:Nat)),(20,.int .i64 (i:Nat))] ([(b4,true,.cells ⟨[.bool false]⟩ 4 (0,0)),(b3,true,.cells ⟨[strV s]⟩ 9 (0,0)),(b2,true,.cells ⟨(k.val A lc B tc).cells.toList⟩ 113 (0,0))]++Mk rs) (marks rs) _;by_cases c1:i=k.nl
   · have e:k.safe s=true:=by
       unfold Bk.safe;rw[q5,(allB_iff k.nl).2 (by rw[←c1];exact g3)];rfl
     subst c1;rw[e] at hK;(iterate 9 refine U ?_);refine .e (.st 0 (zz:=?_));refine U ?_;refine Tc.retDs (E:=en) (L:= [(b4,true,.cells ⟨[.bool true]⟩ 4 (0,0)),(b3,true,.cells ⟨[strV s]⟩ 9 (0,0)),(b2,true,.cells ⟨(k.val A lc B tc).cells.toList⟩ 113 (0,0))]) (rs:=rs) hK Tryz.func118 Tryz.results118 (vs:= [_]) (by refine⟨⟨0,_,_,_,_,_,_,_,rfl,rfl,rfl,rfl⟩,?_⟩;exact trivial) ?_;exact fun H' hs=> ⟨View.le_trans g1 hs.base,rfl⟩
   · have c2:i<k.nl:=by omega
     obtain⟨hdg,hl1,hl3⟩:=Bk.isNum_of ha c2;have hRows:=hk.rows;obtain⟨_,h0|⟨ab,ao,fa,gs,gt,gz,rfl,hab,hrow⟩⟩:=hRows
     · omega
     obtain⟨F,fc,f1,_,_⟩:=hrow i c2;have hab5:=g1 _ _ hab;(iterate 13 refine U ?_);refine .e (.al (zz:=fun b7=> ?_));refine .e (.st 0 (zz:=?_));(iterate 5 refine U ?_);refine To.callF rfl rfl rfl rfl rfl rfl (by decide) (FnT.f ca130 rfl (slips_c M H₅ (k.num i))) (fun v H₆ hv=> ?_);obtain⟨hle6,sb2,rfl,hcap2⟩:=hv;refine U ?_;have hit2:=fun(H':View) (hc:CapS (k.num i) sb2 H')=> slips_it M H' (k.num i) hdg (by omega) sb2 hc;refine U ?_;refine Tc.db (R':= [(2,.pointer (some ⟨b2,0,none⟩)),(3,.pointer (some ⟨b3,0,none⟩)),(4,.pointer (some ⟨b4,0,none⟩)),(18,.slice (some ⟨ab,ao,none⟩) k.nl lc),(19,.int .i64 (k.nl:Nat)),(20,.int .i64 (i:Nat)),(26,slipF sb2)]) (L':= [(b4,true,.cells ⟨[.bool false]⟩ 4 (0,0)),(b3,true,.cells ⟨[strV s]⟩ 9 (0,0)),(b2,true,.cells ⟨(k.val (some ⟨ab,ao,none⟩) lc B tc).cells.toList⟩ 113 (0,0))]++Mk rs) ?_;refine Tc.rangeLc (A:= []) (ts:= [27]) (xs:=slipsL (k.num i)) (fun rest H₄=> k.safeAt s i=rest.all (fun x=> !begins x s)∧CapS (k.num i) sb2 H₄∧H₆.le H₄) (fun j H₄=> j=.ret∧k.safeAt s i=false∧H₆.le H₄) rfl rfl rfl rfl hit2 (fun _ _=> CapS.le _ _) (fun _ _ ⟨_,h,_⟩=> h) rfl (fun _ _=> rfl)
         ⟨rfl,hcap2,View.le_refl _⟩ ?_ ?_ ?_
     · rintro r2 x rest _ l tmps asg bdy H₇ _ hx ⟨rfl,p2,p3,p4⟩ Q St1 cc1 cs1 hK1 q q';rw[List.all_cons] at p2;cases hbx:begins x s with
       | true=>
         rw[hbx] at p2;(iterate 3 refine U ?_);refine Tc.beginRound (i:=0) rfl rfl rfl ?_;(iterate 5 refine U ?_);refine .c rfl rfl rfl rfl (fun H hs=> .f ca127 rfl (HasPrefix_is M H x s true hbx)) ?_;(iterate 4 refine U ?_);refine .e (.st 2 (zz:=?_));refine U ?_;refine Tc.leaveRound hK1 (i:=0) rfl (.inr (.inl ⟨_,rfl,rfl⟩)) (fun H' hs=> q' H' H₇ _ _ hs ⟨rfl,rfl,p2,p4⟩)
       | false=>
         rw[hbx] at p2;(iterate 3 refine U ?_);refine Tc.beginRound (i:=0) rfl rfl rfl ?_;(iterate 5 refine U ?_);refine .c rfl rfl rfl rfl (fun H hs=> .f ca127 rfl (HasPrefix_is M H x s false hbx)) ?_;(iterate 4 refine U ?_);refine Tc.leaveRound hK1 (i:=0) rfl (.inl ⟨rfl,rfl⟩) (fun H' hs=> q H' H₇ _ hs ⟨rfl,p2,p3,p4⟩)
     · rintro r2 H₇ ⟨p2,p3,p4⟩;refine Tc.marked (L:= [(b4,true,.cells ⟨[.bool false]⟩ 4 (0,0)),(b3,true,.cells ⟨[strV s]⟩ 9 (0,0)),(b2,true,.cells ⟨(k.val (some ⟨ab,ao,none⟩) lc B tc).cells.toList⟩ 113 (0,0))]) (rs:=rs) ?_;(iterate 6 refine U ?_);have hfin:=ih ⟨(H₇,i+1,r2::rs),View.le_trans g1 (View.le_trans hle6 p4),c2,fun m hm=> by
         by_cases e:m=i
         · subst e;exact p2
         · exact g3 m (by simp only at hm;omega)⟩ (by simp only;omega)
       exact Tc.db hfin
     · rintro r2 j H₇ ⟨rfl,p2,p4⟩;have e:k.safe s=false:=by
         unfold Bk.safe;rw[allB_not c2 p2];simp
       rw[e] at hK;refine Tc.marked (L:= [(b4,true,.cells ⟨[.bool false]⟩ 4 (0,0)),(b3,true,.cells ⟨[strV s]⟩ 9 (0,0)),(b2,true,.cells ⟨(k.val (some ⟨ab,ao,none⟩) lc B tc).cells.toList⟩ 113 (0,0))]) (rs:=rs) ?_;refine Tc.retDs (E:=en) (L:= [(b4,true,.cells ⟨[.bool false]⟩ 4 (0,0)),(b3,true,.cells ⟨[strV s]⟩ 9 (0,0)),(b2,true,.cells ⟨(k.val (some ⟨ab,ao,none⟩) lc B tc).cells.toList⟩ 113 (0,0))]) (rs:=r2::rs) hK Tryz.func118 Tryz.results118 (vs:= [_]) (by refine⟨⟨0,_,_,_,_,_,_,_,rfl,rfl,rfl,rfl⟩,?_⟩;exact trivial) ?_;exact fun H' hs=> ⟨View.le_trans g1 (View.le_trans hle6 (View.le_trans p4 hs.base)),rfl⟩
 · rintro r j H₄ ⟨rfl,q2,q4⟩;have e:k.safe s=false:=by
     unfold Bk.safe;rw[q2];rfl
   rw[e] at hK;refine Tc.retD (E:=en) (i:=0) hK Tryz.func118 Tryz.results118 (vs:= [_]) rfl (by refine⟨⟨1,_,_,_,_,_,_,_,rfl,rfl,rfl,rfl⟩,?_⟩;exact trivial) ?_;exact fun H' hs=> ⟨View.le_trans hle1 (View.le_trans q4 hs.base),rfl⟩
def Bk.safeV(k:Bk)(s:List UInt8):Value:=
 if k.alarm≠0 then .tuple ⟨[.bool false,.int .i64 k.alarm]⟩ else if isNum s=false then .tuple ⟨[.bool false,.int .i64 3]⟩ else if k.clash s=true then .tuple ⟨[.bool false,.int .i64 10]⟩ else .tuple ⟨[.bool (k.safe s),.int .i64 0]⟩
theorem Safe_c(k:Bk)(A:Option Addr)(lc:Nat)(B:Option Addr)(tc:Nat)(hk:BkAt H k A lc B tc)(hn:k.small)(hG:Glob H)(s:List UInt8)(hs2:s.length≤1000):
   CallT M 52 #[k.val A lc B tc,strV s] H (fun v H'=> H.le H'∧v=k.safeV s):=by
 by_cases ha:k.alarm=0
 · have hop:=fun(H':View) (h':H.le H')=> open_yes M H' k A lc B tc (hk.le h') hn (glob_le hG h') ha;cases h1:isNum s with
   | false=>
     have ev:k.safeV s=.tuple ⟨[.bool false,.int .i64 3]⟩:=by
       unfold Bk.safeV;rw[if_neg (by simp[ha]),if_pos h1]
     rw[ev];refine .en Tryz.func52 Tryz.ntmps52 fun St c cs hK=> ?_;(iterate 2 refine U ?_);refine .e (.bx (zz:=fun b2=> ?_));(iterate 6 refine U ?_);refine .c rfl rfl rfl rfl (fun H hs=> .f ca81 rfl (hop H hs.base)) ?_;(iterate 3 refine U ?_);refine .e (.al (zz:=fun b6=> ?_));refine .e (.st 0 (zz:=?_));(iterate 14 refine U ?_);refine .c rfl rfl rfl rfl (fun H hs=> .f ca119 rfl (isB (isNumber_c M H s (by omega)) h1)) ?_;(iterate 9 refine U ?_);refine .rt hK Tryz.func52 Tryz.results52 [_,_] ?_;exact okB
   | true=>
     have hdg:s.all dig=true:=by
       unfold isNum at h1;simp only[Bool.and_eq_true] at h1;exact h1.2
     cases h2:k.clash s with
     | true=>
       have ev:k.safeV s=.tuple ⟨[.bool false,.int .i64 10]⟩:=by
         unfold Bk.safeV;rw[if_neg (by simp[ha]),if_neg (by simp[h1]),if_pos h2]
       rw[ev];refine .en Tryz.func52 Tryz.ntmps52 fun St c cs hK=> ?_;(iterate 2 refine U ?_);refine .e (.bx (zz:=fun b2=> ?_));(iterate 6 refine U ?_);refine .c rfl rfl rfl rfl (fun H hs=> .f ca81 rfl (hop H hs.base)) ?_;(iterate 3 refine U ?_);refine .e (.al (zz:=fun b6=> ?_));refine .e (.st 0 (zz:=?_));(iterate 14 refine U ?_);refine .c rfl rfl rfl rfl (fun H hs=> .f ca119 rfl (isB (isNumber_c M H s (by omega)) h1)) ?_;(iterate 9 refine U ?_);refine .c rfl rfl rfl rfl (fun H hs=> .f ca117 rfl (isB (clashes_c M H k A lc (hk.rows.le hs.base) hn.nl s) h2)) ?_;(iterate 8 refine U ?_);refine .rt hK Tryz.func52 Tryz.results52 [_,_] ?_;exact okB
     | false=>
       have ev:k.safeV s=.tuple ⟨[.bool (k.safe s),.int .i64 0]⟩:=by
         unfold Bk.safeV;rw[if_neg (by simp[ha]),if_neg (by simp[h1]),if_neg (by simp[h2])]
       rw[ev];refine .en Tryz.func52 Tryz.ntmps52 fun St c cs hK=> ?_;(iterate 2 refine U ?_);refine .e (.bx (zz:=fun b2=> ?_));(iterate 6 refine U ?_);refine .c rfl rfl rfl rfl (fun H hs=> .f ca81 rfl (hop H hs.base)) ?_;(iterate 3 refine U ?_);refine .e (.al (zz:=fun b6=> ?_));refine .e (.st 0 (zz:=?_));(iterate 14 refine U ?_);refine .c rfl rfl rfl rfl (fun H hs=> .f ca119 rfl (isB (isNumber_c M H s (by omega)) h1)) ?_;(iterate 9 refine U ?_);refine .c rfl rfl rfl rfl (fun H hs=> .f ca117 rfl (isB (clashes_c M H k A lc (hk.rows.le hs.base) hn.nl s) h2)) ?_;(iterate 9 refine U ?_);refine .c rfl rfl rfl rfl (fun H hs=> .f ca118 rfl (safe_c M H k A lc B tc (hk.le hs.base) hn ha s hdg hs2)) ?_;(iterate 3 refine U ?_);refine .rt hK Tryz.func52 Tryz.results52 [_,_] ?_;exact okB
 · have ev:k.safeV s=.tuple ⟨[.bool false,.int .i64 k.alarm]⟩:=if_pos ha;rw[ev];refine .en Tryz.func52 Tryz.ntmps52 fun St c cs hK=> ?_;(iterate 2 refine U ?_);refine .e (.bx (zz:=fun b2=> ?_));(iterate 6 refine U ?_);refine .c rfl rfl rfl rfl (fun H hs=> .f ca81 rfl (open_alarm M H k A lc B tc true (hk.le hs.base) hn (glob_le hG hs.base) ha)) ?_;(iterate 3 refine U ?_);refine .e (.al (zz:=fun b6=> ?_));refine .e (.st 0 (zz:=?_));(iterate 17 refine U ?_);refine .rt hK Tryz.func52 Tryz.results52 [_,_] ?_;exact okB
theorem taken_c(s:List UInt8)(hs1:s.all dig=true)(hs2:s.length≤1000):CallT M 128 #[strV s] H (fun v H'=> H.le H'∧v=.int .i64 (takenN s:Nat)):=by
 have hb:=takenN_le s hs1;refine .en Tryz.func128 Tryz.ntmps128 fun St c cs hK=> ?_;(iterate 12 refine U ?_);refine .e (Or.rangeS (E:=en) (s:=⟨⟨s⟩⟩) rfl rfl rfl rfl rfl (by decide) (fun it=> ?_));(iterate 2 refine U ?_);refine Tc.db (Tc.loopInv (σ:= { p:Nat//p≤s.length }) (fun p=> ([(3,.int .i64 (takenN (s.take p.1):Nat)),(7,.pointer (some ⟨it,0,none⟩))],[(it,true,.stringIter ⟨⟨s⟩⟩ p.1)])) (fun p=> s.length-p.1) ?_ ⟨0,Nat.zero_le _⟩);rintro⟨p,hp⟩ ih;show Tc M St _ _ _ _ [(3,.int .i64 (takenN (s.take p):Nat)),(7,.pointer (some ⟨it,0,none⟩))] [(it,true,.stringIter ⟨⟨s⟩⟩ p)] _ _;have hps0:takenN (s.take p)≤10*p:=by
   have h1:(s.take p).all dig=true:=List.all_eq_true.2 fun x hx=> List.all_eq_true.1 hs1 x (List.mem_of_mem_take hx);have h2:=takenN_le (s.take p) h1;rw[List.length_take] at h2;omega
 by_cases c1:p=s.length
 · subst c1;have hnp:¬s.length<(ByteArray.mk ⟨s⟩).size:=by show ¬s.length<s.length;omega
   rw[List.take_length];(iterate 2 refine U ?_);refine .e (Or.nextS0 0 rfl rfl rfl hnp rfl (by decide) ?_);(iterate 10 refine U ?_);refine .rt hK Tryz.func128 Tryz.results128 [_] ?_;exact okB
 · have c2:p<s.length:=by omega
   obtain⟨x,hx,hdx,hdec⟩:=dec_dig s p c2 hs1;have hpn:=pn_in hdx;have hps:p<(ByteArray.mk ⟨s⟩).size:=c2;have ha:intBin .add .i64 (takenN (s.take p):Nat) (pn x:Nat)=some (.int .i64 ((takenN (s.take (p+1)):Nat):Int)):=by
     rw[add_in (by omega) (by omega),takenN_at hx];rfl
   (iterate 2 refine U ?_);refine .e (Or.nextS 0 rfl rfl rfl hps hdec rfl (by decide) ?_);(iterate 14 refine U ?_);refine .c rfl rfl rfl rfl (fun H hs=> .f ca143 rfl (pulses_c M H x hdx)) ?_;(iterate 4 refine U ?_);exact Tc.db (ih ⟨p+1,by omega⟩ (by simp only;omega))
def pulsesV(s:List UInt8):Value:=if isNum s=false then .tuple ⟨[.int .i64 0,.int .i64 3]⟩ else .tuple ⟨[.int .i64 (takenN s:Nat),.int .i64 0]⟩
theorem Pulses_c(s:List UInt8)(hs2:s.length≤1000):CallT M 67 #[strV s] H (fun v H'=> H.le H'∧v=pulsesV s):=by
 cases h1:isNum s with
 | false=>
   have ev:pulsesV s=.tuple ⟨[.int .i64 0,.int .i64 3]⟩:=if_pos h1;rw[ev];refine .en Tryz.func67 Tryz.ntmps67 fun St c cs hK=> ?_;(iterate 9 refine U ?_);refine .c rfl rfl rfl rfl (fun H hs=> .f ca119 rfl (isB (isNumber_c M H s (by omega)) h1)) ?_;(iterate 8 refine U ?_);refine .rt hK Tryz.func67 Tryz.results67 [_,_] ?_;exact okB
 | true=>
   have hdg:s.all dig=true:=by
     unfold isNum at h1;simp only[Bool.and_eq_true] at h1;exact h1.2
   have ev:pulsesV s=.tuple ⟨[.int .i64 (takenN s:Nat),.int .i64 0]⟩:=if_neg (by simp[h1]);rw[ev];refine .en Tryz.func67 Tryz.ntmps67 fun St c cs hK=> ?_;(iterate 9 refine U ?_);refine .c rfl rfl rfl rfl (fun H hs=> .f ca119 rfl (isB (isNumber_c M H s (by omega)) h1)) ?_;(iterate 7 refine U ?_);refine .c rfl rfl rfl rfl (fun H hs=> .f ca128 rfl (taken_c M H s hdg hs2)) ?_;(iterate 3 refine U ?_);refine .rt hK Tryz.func67 Tryz.results67 [_,_] ?_;exact okB
end
def allFrom(dg:List UInt8):Nat→List UInt8→List (List UInt8)
 | 0,s=> [s]
 | d+1,s=> dg.flatMap fun x=> allFrom dg d (s++[x])
def allL(dg:List UInt8)(many:Nat):List (List UInt8):=allFrom dg many []
theorem allFrom_drop(dg:List UInt8)(d:Nat)(s:List UInt8){p:Nat}{x:UInt8}(h:dg[p]? =some x):(dg.drop p).flatMap (fun x=> allFrom dg d (s++[x]))=allFrom dg d (s++[x])++(dg.drop (p+1)).flatMap (fun x=> allFrom dg d (s++[x])):=by
 obtain⟨hp,rfl⟩:=List.getElem?_eq_some_iff.1 h;rw[List.drop_eq_getElem_cons hp,List.flatMap_cons]
def allF(b1 b2:Nat):Value:=.func (.func 182) #[] #[.pointer (some ⟨b1,0,none⟩),.pointer (some ⟨b2,0,none⟩)]
def moreF(b1 b3 b2 b4:Nat):Value:=.func (.func 183) #[] #[.pointer (some ⟨b1,0,none⟩),.pointer (some ⟨b3,0,none⟩),.pointer (some ⟨b2,0,none⟩),.pointer (some ⟨b4,0,none⟩)]
structure CapA(many:Nat)(dg:List UInt8)(b1 b2:Nat)(H:View):Prop where
 a:∃f,H b1=some (f,.cells ⟨[.int .i64 (many:Nat)]⟩ 3 (0,0))
 b:∃f,H b2=some (f,.cells ⟨[strV dg]⟩ 9 (0,0))
theorem CapA.le {many:Nat}{dg:List UInt8}{b1 b2:Nat}(H H':View)(h:H.le H')(c:CapA many dg b1 b2 H):CapA many dg b1 b2 H':=⟨c.a.imp fun _ e=> h _ _ e,c.b.imp fun _ e=> h _ _ e⟩
def moreB(l b1 b2 b3 b4:Nat):Bl:= [(b4,true,.cells ⟨[moreF b1 b3 b2 b4]⟩ 167 (0,0)),(b3,true,.cells ⟨[.func (.yield l) #[] #[]]⟩ 167 (0,0))]
section
variable(M:Md Tryz.prog)(H:View)
theorem all_c(many:Nat)(dg:List UInt8):CallT M 116 #[.int .i64 (many:Nat),strV dg] H (fun v H'=> H.le H'∧∃b1 b2,v=allF b1 b2∧CapA many dg b1 b2 H'):=by
 refine .en Tryz.func116 Tryz.ntmps116 fun St c cs hK=> ?_;(iterate 2 refine U ?_);refine .e (.bx (zz:=fun b2=> ?_));refine .e (.bx (zz:=fun b3=> ?_));(iterate 7 refine U ?_);refine .rt hK Tryz.func116 Tryz.results116 [_] ?_;exact fun H' hs=> ⟨hs.base,b2,b3,rfl,⟨true,hs.get (i:=1) rfl⟩,⟨true,hs.get (i:=0) rfl⟩⟩
theorem more_c(many:Nat)(dg:List UInt8)(hm:many≤1000)(hdg:dg.all dig=true)(hdl:dg.length≤1000)(l b1 b2 b3 b4:Nat)(xs:List (List UInt8))(J:List (List UInt8)→View→Prop)(D:View→Prop)(hcap:∀rest H',J rest H'→CapA many dg b1 b2 H')
   (hy:∀x rest (_:Unit) H' H'',x∈xs→J (x::rest) H'→SymSt H' [] H''→FnT M (.func (.yield l) #[] #[]) [strV x] H'' fun v H3=> (v=.bool true∧∃H₂,SymSt H₂ [] H3∧J rest H₂)∨(v=.bool false∧D H3)):
   ∀ (d:Nat) (s:List UInt8) (rest:List (List UInt8)) (H₁ Hc:View),s.length+d=many→J (allFrom dg d s++rest) H₁→(∀x∈allFrom dg d s,x∈xs)→SymSt H₁ (moreB l b1 b2 b3 b4) Hc→
     CallT M 183 #[strV s,.pointer (some ⟨b1,0,none⟩),.pointer (some ⟨b3,0,none⟩),.pointer (some ⟨b2,0,none⟩),.pointer (some ⟨b4,0,none⟩)] Hc (fun v H3=> (v=.bool true∧∃H₂,SymSt H₂ (moreB l b1 b2 b3 b4) H3∧J rest H₂)∨(v=.bool false∧∃H₂,H₂.le H3∧D H₂)):=by
 intro d;induction d with
 | zero=>
   intro s rest H₁ Hc hsd hJ hin hsy;obtain⟨⟨fa,ha⟩,⟨fb,hb⟩⟩:=hcap _ _ hJ;refine CallT.enter (vs:= [strV s,.pointer (some ⟨b1,0,none⟩),.pointer (some ⟨b3,0,none⟩),.pointer (some ⟨b2,0,none⟩),.pointer (some ⟨b4,0,none⟩)]) Tryz.func183 rfl Tryz.ntmps183 (Nat.le_of_ble_eq_true rfl) (hsy) fun St c cs hK=> ?_;unfold moreB;(iterate 8 refine U ?_);refine .x (OpV.lenS (E:=en) rfl rfl rfl rfl rfl rfl rfl) ?_;(iterate 8 refine U ?_);refine To.callF rfl rfl rfl rfl rfl rfl (by decide) (hy s rest () H₁ H₁ (hin s (by simp[allFrom])) hJ (SymSt.nil H₁)) (fun v H₃ hv=> ?_);rcases hv with ⟨rfl,H4,h8,j3⟩|⟨rfl,hD⟩
   · refine To.lower h8.base ?_;(iterate 2 refine U ?_);refine .rt hK Tryz.func183 Tryz.results183 [_] ?_;exact fun H' hs=> .inl ⟨rfl,H4,hs,j3⟩
   · (iterate 2 refine U ?_);refine .rt hK Tryz.func183 Tryz.results183 [_] ?_;exact fun H' hs=> .inr ⟨rfl,H₃,hs.base,hD⟩
 | succ d ihd=>
   intro s rest H₁ Hc hsd hJ hin hsy;obtain⟨⟨fa,ha⟩,⟨fb,hb⟩⟩:=hcap _ _ hJ;refine CallT.enter (vs:= [strV s,.pointer (some ⟨b1,0,none⟩),.pointer (some ⟨b3,0,none⟩),.pointer (some ⟨b2,0,none⟩),.pointer (some ⟨b4,0,none⟩)]) Tryz.func183 rfl Tryz.ntmps183 (Nat.le_of_ble_eq_true rfl) (hsy) fun St c cs hK=> ?_;unfold moreB;(iterate 8 refine U ?_);refine .x (OpV.lenS (E:=en) rfl rfl rfl rfl rfl rfl rfl) ?_;(iterate 9 refine U ?_);refine .e (Or.rangeS (E:=en) (s:=⟨⟨dg⟩⟩) rfl rfl rfl rfl rfl (by decide) (fun it=> ?_));(iterate 2 refine U ?_);refine Tc.db (Tc.loopB (σ:= { x:Nat×View//x.1≤dg.length∧J ((dg.drop x.1).flatMap (fun y=> allFrom dg d (s++[y]))++rest) x.2 })
     (fun x=> (x.1.2,[(0,strV s),(1,.pointer (some ⟨b1,0,none⟩)),(2,.pointer (some ⟨b3,0,none⟩)),(3,.pointer (some ⟨b2,0,none⟩)),(4,.pointer (some ⟨b4,0,none⟩)),(16,.pointer (some ⟨it,0,none⟩))],[(it,true,.stringIter ⟨⟨dg⟩⟩ x.1.1),(b4,true,.cells ⟨[moreF b1 b3 b2 b4]⟩ 167 (0,0)),(b3,true,.cells ⟨[.func (.yield l) #[] #[]]⟩ 167 (0,0))])) (fun x=> dg.length-x.1.1) ?_ ⟨(0,H₁),Nat.zero_le _,hJ⟩)
   rintro⟨⟨p,H₂⟩,g1,j1⟩ ih;simp only at g1 j1;show Tc M St _ _ H₂ _ [(0,strV s),(1,.pointer (some ⟨b1,0,none⟩)),(2,.pointer (some ⟨b3,0,none⟩)),(3,.pointer (some ⟨b2,0,none⟩)),(4,.pointer (some ⟨b4,0,none⟩)),(16,.pointer (some ⟨it,0,none⟩))] [(it,true,.stringIter ⟨⟨dg⟩⟩ p),(b4,true,.cells ⟨[moreF b1 b3 b2 b4]⟩ 167 (0,0)),(b3,true,.cells ⟨[.func (.yield l) #[] #[]]⟩ 167 (0,0))] _ _;by_cases c1:p=dg.length
   · subst c1;have hnp:¬dg.length<(ByteArray.mk ⟨dg⟩).size:=by show ¬dg.length<dg.length;omega
     rw[List.drop_length] at j1;(iterate 2 refine U ?_);refine .e (Or.nextS0 0 rfl rfl rfl hnp rfl (by decide) ?_);(iterate 9 refine U ?_);refine .rt hK Tryz.func183 Tryz.results183 [_] ?_;exact fun H' hs=> .inl ⟨rfl,H₂,hs.less (by apply List.Sublist.cons;exact List.Sublist.refl _),j1⟩
   · have c2:p<dg.length:=by omega
     obtain⟨x,hx,hdx,hdec⟩:=dec_dig dg p c2 hdg;have hps:p<(ByteArray.mk ⟨dg⟩).size:=c2;obtain⟨⟨fa,ha⟩,⟨fb,hb⟩⟩:=hcap _ _ j1;rw[allFrom_drop dg d s hx,List.append_assoc] at j1;have hin2:∀y∈allFrom dg d (s++[x]),y∈xs:=fun y hyy=> hin y (List.mem_flatMap.2 ⟨x,List.mem_of_getElem? hx,hyy⟩);have e2:(dg.drop ((p:Nat):Int).toNat).take ((((p:Nat):Int)+1).toNat-((p:Nat):Int).toNat)= [x]:=by
       rw[show(((p:Nat):Int)+1).toNat-((p:Nat):Int).toNat=1 by omega,Int.toNat_natCast];obtain⟨hp',rfl⟩:=List.getElem?_eq_some_iff.1 hx;rw[List.drop_eq_getElem_cons hp'];rfl
     (iterate 2 refine U ?_);refine .e (Or.nextS 0 rfl rfl rfl hps hdec rfl (by decide) ?_);(iterate 12 refine U ?_);refine Tc.drC [] [8] [] mixed rfl ?_;refine Ta.tkC 0 (by kernel_rfl) rfl rfl (by decide) rfl rfl (OpV.take (.ld 1)) ?_;refine Ta.tkC 1 (by kernel_rfl) rfl rfl (by decide) rfl rfl (OpV.take .mv) ?_;refine Ta.tkC 2 (by kernel_rfl) rfl rfl (by decide) rfl rfl (OpV.take .l0) ?_;refine Ta.tkC 3 (by kernel_rfl) rfl rfl (by decide) rfl rfl (OpV.take .mv) ?_;refine Ta.tkC 4 (by kernel_rfl) rfl rfl (by decide) rfl rfl (OpV.take .mv) ?_;refine Ta.tkC 5 (by kernel_rfl) rfl rfl (by decide) rfl rfl (OpV.take (.it (zz:=add_in (by omega) (by omega)))) ?_;refine Ta.tkC 6 (by kernel_rfl) rfl rfl (by decide) rfl rfl (OpV.take (OpV.sliceS (E:=en) rfl rfl rfl rfl rfl rfl (by omega) (by omega) (by omega))) ?_;refine Ta.tkC 7 (by kernel_rfl) rfl rfl (by decide) rfl rfl (OpV.take (OpV.strB rfl rfl rfl (by exact strB_add (by simp <;> omega)))) ?_;rw[e2];refine Ta.lift (L₂:= [(it,true,.stringIter ⟨⟨dg⟩⟩ (p+1))]) (L₁:=moreB l b1 b2 b3 b4) rfl (fun Hx hx1=> ?_);refine Ta.callF 8 (by kernel_rfl) rfl (by kernel_rfl) rfl rfl rfl rfl rfl rfl (by decide) (FnT.of (first:= []) (captured:= [_,_,_,_]) ca183 rfl (ihd (s++[x]) _ H₂ Hx (by rw[List.length_append];show s.length+1+d=many;omega) j1 hin2 hx1)) (fun v H₃ hv=> ?_);rcases hv with ⟨rfl,H4,h8,j3⟩|⟨rfl,H4,hl4,hD⟩
     · refine Ta.expand h8 ?_;unfold moreB;refine Ta.each [9] (by kernel_rfl) rfl ⟨TaOp.mk rfl rfl rfl (Or.ofV .nt rfl (by decide) ⟨S3.off (by kernel_rfl),?_⟩),trivial⟩;refine Ta.done (by kernel_rfl) ?_;(iterate 3 refine U ?_);exact Tc.db (ih ⟨(p+1,H4),by simp only;omega,j3⟩ (by simp only;omega))
     · refine Ta.each [9] (by kernel_rfl) rfl ⟨TaOp.mk rfl rfl rfl (Or.ofV .nt rfl (by decide) ⟨S3.off (by kernel_rfl),?_⟩),trivial⟩;refine Ta.done (by kernel_rfl) ?_;(iterate 5 refine U ?_);refine .rt hK Tryz.func183 Tryz.results183 [_] ?_;exact fun H' hs=> .inr ⟨rfl,H4,View.le_trans hl4 hs.base,hD⟩
theorem all_it(many:Nat)(dg:List UInt8)(hm:many≤1000)(hdg:dg.all dig=true)(hdl:dg.length≤1000)(b1 b2:Nat):
   IterT M (allF b1 b2) (allL dg many) (fun x (_:Unit)=> [strV x]) (fun _ _=> []) (fun _ _=> []) (CapA many dg b1 b2) [] H:=fun l J D hcap h0 hy H₀ hs₀=> by
 refine FnT.of (first:= []) (captured:= [_,_]) ca182 rfl ?_;refine CallT.enter (vs:= [.func (.yield l) #[] #[],.pointer (some ⟨b1,0,none⟩),.pointer (some ⟨b2,0,none⟩)]) Tryz.func182 rfl Tryz.ntmps182 (Nat.le_of_ble_eq_true rfl) (hs₀) fun St c cs hK=> ?_;(iterate 2 refine U ?_);refine .e (.bx (zz:=fun b3=> ?_));(iterate 3 refine U ?_);refine .e (.al (zz:=fun b4=> ?_));(iterate 4 refine U ?_);refine .e (.st 0 (zz:=?_));(iterate 3 refine U ?_);refine To.lift (L₂:= []) (L₁:=moreB l b1 b2 b3 b4) rfl (fun Hx hx=> ?_);refine To.callF rfl rfl rfl rfl rfl rfl (by decide) (FnT.of (first:= []) (captured:= [_,_,_,_]) ca183 rfl (more_c M many dg hm hdg hdl l b1 b2 b3 b4 (allL dg many) J D hcap (fun x rest e H' H'' h1 h2 h3=> hy x rest e H' H'' h1 h2 h3) many [] [] H Hx (Nat.zero_add _) (by rw[List.append_nil];exact h0) (fun x hx=> hx) hx)) (fun v H₃ hv=> ?_);refine U ?_;refine Tc.overN (E:=en) hK Tryz.func182 Tryz.results182 (vs:= []) (by exact trivial) ?_;intro H' hs;rcases hv with ⟨_,H4,h8,j3⟩|⟨_,H4,hl4,hD⟩
 · exact⟨H4,View.le_trans h8.base hs.base,.inl j3⟩
 · exact⟨H4,View.le_trans hl4 hs.base,.inr hD⟩
end
theorem mem_allFrom {dg:List UInt8}:∀(d:Nat) (s x:List UInt8),x∈allFrom dg d s→x.length=s.length+d∧∀y∈x,y∈s∨y∈dg
 | 0,s,x,h=> by
   have:x=s:=by simpa [allFrom] using h
   subst this;exact⟨rfl,fun y hy=> .inl hy⟩
 | d + 1,s,x,h=> by
   obtain⟨z,hz,h2⟩:=List.mem_flatMap.1 h;obtain⟨h3,h4⟩:=mem_allFrom d _ x h2;refine⟨by rw[h3,List.length_append];show s.length+1+d=_;omega,fun y hy=> ?_⟩;rcases h4 y hy with h5|h5
   · rcases List.mem_append.1 h5 with h6|h6
     · exact .inl h6
     · have:y=z:=by simpa using h6
       subst this;exact .inr hz
   · exact .inr h5
theorem mem_allL {dg:List UInt8}{n:Nat}{x:List UInt8}(h:x∈allL dg n):x.length=n∧∀y∈x,y∈dg:=by
 obtain⟨h1,h2⟩:=mem_allFrom n [] x h;exact⟨by simpa using h1,fun y hy=> (h2 y hy).resolve_left (by simp)⟩
theorem digs_dig:digs.all dig=true:=by decide +kernel
def Bk.spareOk(k:Bk)(sf:Bool)(x:List UInt8):Bool:=!k.clash x&&(!sf||k.safe x)
def Bk.spare(k:Bk)(n:Nat)(sf:Bool):Option (List UInt8):=(allL digs n).find? (k.spareOk sf)
def spare3(x:List UInt8)(t:Bool)(a:Int):Value:=.tuple ⟨[strV x,.bool t,.int .i64 a]⟩
def Bk.spareV(k:Bk)(z:Int)(sf:Bool):Value:=
 if k.alarm≠0 then spare3 [] false k.alarm else if ¬(1≤z∧z≤3) then spare3 [] false 1 else match k.spare z.toNat sf with
   | some x=> spare3 x true 0
   | none=> spare3 [] false 0
section
variable(M:Md Tryz.prog)(H:View)
theorem Spare_c(k:Bk)(A:Option Addr)(lc:Nat)(B:Option Addr)(tc:Nat)(hk:BkAt H k A lc B tc)(hn:k.small)(hG:Glob H)(z:Int)(sf:Bool):
   CallT M 50 #[k.val A lc B tc,.int .i64 z,.bool sf] H (fun v H'=> H.le H'∧v=k.spareV z sf):=by
 by_cases ha:k.alarm=0
 · have hop:=fun(H':View) (h':H.le H')=> open_yes M H' k A lc B tc (hk.le h') hn (glob_le hG h') ha;by_cases c1:1≤z∧z≤3
   · obtain ⟨n,rfl⟩:∃n:Nat,z=n:=⟨z.toNat,by omega⟩
     have ev:k.spareV (n:Nat) sf=match k.spare n sf with
         | some x=> spare3 x true 0
         | none=> spare3 [] false 0:=by
       unfold Bk.spareV;rw[if_neg (by simp[ha]),if_neg (fun h=> h c1)];rfl
     have hbt:=fun(H':View)=> between_is M H' ((n:Nat):Int) 1 3 true (decide_eq_true c1);refine .en Tryz.func50 Tryz.ntmps50 fun St c cs hK=> ?_;(iterate 2 refine U ?_);refine .e (.bx (zz:=fun b3=> ?_));refine .e (.bx (zz:=fun b5=> ?_));refine .e (.al (zz:=fun b6=> ?_));refine .e (.al (zz:=fun b7=> ?_));refine .e (.al (zz:=fun b8=> ?_));(iterate 4 refine U ?_);refine .c rfl rfl rfl rfl (fun H hs=> .f ca81 rfl (hop H hs.base)) ?_;(iterate 3 refine U ?_);refine .e (.al (zz:=fun b9=> ?_));refine .e (.st 0 (zz:=?_));refine .e (.st 1 (zz:=?_));(iterate 13 refine U ?_);refine .c rfl rfl rfl rfl (fun H hs=> .f ca82 rfl (hbt H)) ?_;(iterate 10 refine U ?_);refine To.callF rfl rfl rfl rfl rfl rfl (by decide) (FnT.f ca116 rfl (all_c M H n digs)) (fun v H₁ hv=> ?_);obtain⟨hle1,a1,a2,rfl,hcap⟩:=hv;refine U ?_;have hit:=fun(H':View) (_:CapA n digs a1 a2 H')=> all_it M H' n digs (by omega) digs_dig (by decide) a1 a2;refine U ?_;refine Tc.db (R':= [(3,.pointer (some ⟨b3,0,none⟩)),(5,.pointer (some ⟨b5,0,none⟩)),(6,.pointer (some ⟨b6,0,none⟩)),(7,.pointer (some ⟨b7,0,none⟩)),(8,.pointer (some ⟨b8,0,none⟩)),(9,.pointer (some ⟨b9,0,none⟩)),(25,allF a1 a2)])
       (L':= [(b9,true,.cells ⟨(k.val A lc B tc).cells.toList⟩ 113 (0,0)),(b8,true,.cells ⟨[.int .i64 0]⟩ 29 (0,0)),(b7,true,.cells ⟨[.bool false]⟩ 4 (0,0)),(b6,true,.cells ⟨[strV []]⟩ 9 (0,0)),(b5,true,.cells ⟨[.bool sf]⟩ 4 (0,0)),(b3,true,.cells ⟨(k.val A lc B tc).cells.toList⟩ 25 (0,0))]) ?_
     refine Tc.rangeL (A:= []) (ts:= [26]) (xs:=allL digs n) (fun rest H₄ L₄=> L₄= [(b9,true,.cells ⟨(k.val A lc B tc).cells.toList⟩ 113 (0,0)),(b8,true,.cells ⟨[.int .i64 0]⟩ 29 (0,0)),(b7,true,.cells ⟨[.bool false]⟩ 4 (0,0)),(b6,true,.cells ⟨[strV []]⟩ 9 (0,0)),(b5,true,.cells ⟨[.bool sf]⟩ 4 (0,0)),(b3,true,.cells ⟨(k.val A lc B tc).cells.toList⟩ 25 (0,0))]
         ∧k.spare n sf=rest.find? (k.spareOk sf)∧CapA n digs a1 a2 H₄∧H₁.le H₄)
         (fun j H₄ L₄=> ∃x,L₄= [(b9,true,.cells ⟨(k.val A lc B tc).cells.toList⟩ 113 (0,0)),(b8,true,.cells ⟨[.int .i64 0]⟩ 29 (0,0)),(b7,true,.cells ⟨[.bool true]⟩ 4 (0,0)),(b6,true,.cells ⟨[strV x]⟩ 9 (0,0)),(b5,true,.cells ⟨[.bool sf]⟩ 4 (0,0)),(b3,true,.cells ⟨(k.val A lc B tc).cells.toList⟩ 25 (0,0))]∧j=.ret∧k.spare n sf=some x∧H₁.le H₄)
         rfl rfl rfl rfl hit (fun _ _=> CapA.le _ _) (fun _ _ _ ⟨_,_,h,_⟩=> h) rfl (fun _ _=> rfl) ⟨rfl,rfl,hcap,View.le_refl _⟩ ?_ ?_ ?_
     · rintro r x rest _ l tmps asg bdy H₄ _ hx ⟨rfl,q2,q3,q4⟩ Q St1 cc1 cs1 hK1 q q';have hle4:=View.le_trans hle1 q4;obtain⟨hxl,hxd⟩:=mem_allL hx;have hxdig:x.all dig=true:=List.all_eq_true.2 fun y hy=> List.all_eq_true.1 digs_dig y (hxd y hy);have hcl:=fun(H':View) (h':H₄.le H')=> clashes_c M H' k A lc (hk.rows.le (View.le_trans hle4 h')) hn.nl x;have hsf:=fun(H':View) (h':H₄.le H')=> safe_c M H' k A lc B tc (hk.le (View.le_trans hle4 h')) hn ha x hxdig (by omega);rw[List.find?_cons] at q2;cases h1:k.clash x with
       | true=>
         have e1:k.spareOk sf x=false:=by unfold Bk.spareOk;rw[h1];rfl
         rw[e1] at q2;rw[h1] at hcl;(iterate 3 refine U ?_);refine Tc.beginRound (i:=0) rfl rfl rfl ?_;(iterate 4 refine U ?_);refine .x (.ld 7) ?_;refine U ?_;refine .c rfl rfl rfl rfl (fun H hs=> .f ca117 rfl (hcl H hs.base)) ?_;(iterate 5 refine U ?_);refine To.skippedU rfl (by decide) rfl ?_;refine To.skippedU rfl (by decide) rfl ?_;refine To.skippedU rfl (by decide) rfl ?_;(iterate 6 refine U ?_);refine Tc.leaveRound hK1 (i:=0) rfl (.inl ⟨rfl,rfl⟩) (fun H' hs=> q H' H₄ _ hs ⟨rfl,q2,q3,q4⟩)
       | false=>
         rw[h1] at hcl;cases sf with
         | false=>
           have e1:k.spareOk false x=true:=by unfold Bk.spareOk;rw[h1];rfl
           rw[e1] at q2;(iterate 3 refine U ?_);refine Tc.beginRound (i:=0) rfl rfl rfl ?_;(iterate 4 refine U ?_);refine .x (.ld 7) ?_;refine U ?_;refine .c rfl rfl rfl rfl (fun H hs=> .f ca117 rfl (hcl H hs.base)) ?_;(iterate 15 refine U ?_);refine .e (.st 5 (zz:=?_));refine .e (.st 4 (zz:=?_));refine .e (.st 3 (zz:=?_));refine U ?_;refine Tc.leaveRound hK1 (i:=0) rfl (.inr (.inl ⟨_,rfl,rfl⟩)) (fun H' hs=> q' H' H₄ _ _ hs ⟨x,rfl,rfl,q2,q4⟩)
         | true=>
           cases h2:k.safe x with
           | true=>
             have e1:k.spareOk true x=true:=by unfold Bk.spareOk;rw[h1,h2];rfl
             rw[e1] at q2;rw[h2] at hsf;(iterate 3 refine U ?_);refine Tc.beginRound (i:=0) rfl rfl rfl ?_;(iterate 4 refine U ?_);refine .x (.ld 7) ?_;refine U ?_;refine .c rfl rfl rfl rfl (fun H hs=> .f ca117 rfl (hcl H hs.base)) ?_;(iterate 7 refine U ?_);refine .c rfl rfl rfl rfl (fun H hs=> .f ca118 rfl (hsf H hs.base)) ?_;(iterate 7 refine U ?_);refine .e (.st 5 (zz:=?_));refine .e (.st 4 (zz:=?_));refine .e (.st 3 (zz:=?_));refine U ?_;refine Tc.leaveRound hK1 (i:=0) rfl (.inr (.inl ⟨_,rfl,rfl⟩)) (fun H' hs=> q' H' H₄ _ _ hs ⟨x,rfl,rfl,q2,q4⟩)
           | false=>
             have e1:k.spareOk true x=false:=by unfold Bk.spareOk;rw[h1,h2];rfl
             rw[e1] at q2;rw[h2] at hsf;(iterate 3 refine U ?_);refine Tc.beginRound (i:=0) rfl rfl rfl ?_;(iterate 4 refine U ?_);refine .x (.ld 7) ?_;refine U ?_;refine .c rfl rfl rfl rfl (fun H hs=> .f ca117 rfl (hcl H hs.base)) ?_;(iterate 7 refine U ?_);refine .c rfl rfl rfl rfl (fun H hs=> .f ca118 rfl (hsf H hs.base)) ?_;(iterate 6 refine U ?_);refine Tc.leaveRound hK1 (i:=0) rfl (.inl ⟨rfl,rfl⟩) (fun H' hs=> q H' H₄ _ hs ⟨rfl,q2,q3,q4⟩)
     · rintro r H₄ _ ⟨rfl,q2,q3,q4⟩;have e1:k.spare n sf=none:=q2;rw[ev,e1] at hK;(iterate 3 refine U ?_);refine .e (.st 4 (zz:=?_));refine .e (.st 3 (zz:=?_));refine .e (.st 2 (zz:=?_));refine U ?_;refine Tc.retD (E:=en) (i:=0) hK Tryz.func50 Tryz.results50 (vs:= [_,_,_]) rfl (by refine⟨⟨4,_,_,_,_,_,_,_,rfl,rfl,rfl,rfl⟩,?_⟩;refine⟨⟨3,_,_,_,_,_,_,_,rfl,rfl,rfl,rfl⟩,?_⟩;refine⟨⟨2,_,_,_,_,_,_,_,rfl,rfl,rfl,rfl⟩,?_⟩;exact trivial) ?_;exact fun H' hs=> ⟨View.le_trans hle1 (View.le_trans q4 hs.base),rfl⟩
     · rintro r j H₄ _ ⟨x,rfl,rfl,q2,q4⟩;rw[ev,q2] at hK;refine Tc.retD (E:=en) (i:=0) hK Tryz.func50 Tryz.results50 (vs:= [_,_,_]) rfl (by refine⟨⟨4,_,_,_,_,_,_,_,rfl,rfl,rfl,rfl⟩,?_⟩;refine⟨⟨3,_,_,_,_,_,_,_,rfl,rfl,rfl,rfl⟩,?_⟩;refine⟨⟨2,_,_,_,_,_,_,_,rfl,rfl,rfl,rfl⟩,?_⟩;exact trivial) ?_;exact fun H' hs=> ⟨View.le_trans hle1 (View.le_trans q4 hs.base),rfl⟩
   · have ev:k.spareV z sf=spare3 [] false 1:=by
       unfold Bk.spareV;rw[if_neg (by simp[ha]),if_pos c1]
     have hbt:=fun(H':View)=> between_is M H' z 1 3 false (decide_eq_false c1);rw[ev];refine .en Tryz.func50 Tryz.ntmps50 fun St c cs hK=> ?_;(iterate 2 refine U ?_);refine .e (.bx (zz:=fun b3=> ?_));refine .e (.bx (zz:=fun b5=> ?_));refine .e (.al (zz:=fun b6=> ?_));refine .e (.al (zz:=fun b7=> ?_));refine .e (.al (zz:=fun b8=> ?_));(iterate 4 refine U ?_);refine .c rfl rfl rfl rfl (fun H hs=> .f ca81 rfl (hop H hs.base)) ?_;(iterate 3 refine U ?_);refine .e (.al (zz:=fun b9=> ?_));refine .e (.st 0 (zz:=?_));refine .e (.st 1 (zz:=?_));(iterate 13 refine U ?_);refine .c rfl rfl rfl rfl (fun H hs=> .f ca82 rfl (hbt H)) ?_;(iterate 6 refine U ?_);refine .e (.st 3 (zz:=?_));refine .e (.st 2 (zz:=?_));refine .e (.st 1 (zz:=?_));refine U ?_;refine Tc.retN (E:=en) hK Tryz.func50 Tryz.results50 (vs:= [_,_,_]) (by refine⟨⟨3,_,_,_,_,_,_,_,rfl,rfl,rfl,rfl⟩,?_⟩;refine⟨⟨2,_,_,_,_,_,_,_,rfl,rfl,rfl,rfl⟩,?_⟩;refine⟨⟨1,_,_,_,_,_,_,_,rfl,rfl,rfl,rfl⟩,?_⟩;exact trivial) ?_;exact okB
 · have ev:k.spareV z sf=spare3 [] false k.alarm:=if_pos ha;rw[ev];refine .en Tryz.func50 Tryz.ntmps50 fun St c cs hK=> ?_;(iterate 2 refine U ?_);refine .e (.bx (zz:=fun b3=> ?_));refine .e (.bx (zz:=fun b5=> ?_));refine .e (.al (zz:=fun b6=> ?_));refine .e (.al (zz:=fun b7=> ?_));refine .e (.al (zz:=fun b8=> ?_));(iterate 4 refine U ?_);refine .c rfl rfl rfl rfl (fun H hs=> .f ca81 rfl (open_alarm M H k A lc B tc true (hk.le hs.base) hn (glob_le hG hs.base) ha)) ?_;(iterate 3 refine U ?_);refine .e (.al (zz:=fun b9=> ?_));refine .e (.st 0 (zz:=?_));refine .e (.st 1 (zz:=?_));(iterate 11 refine U ?_);refine Tc.drE [3] [1,2,3] [2,3] mixed rfl ?_;refine .q 0 rfl (.ld 1) ?_;refine Ta.each [1] (by kernel_rfl) rfl ⟨TaOp.mk rfl rfl rfl (.st 3 (zz:=⟨S2.mk (by apply List.Sublist.cons_cons;apply List.Sublist.cons;apply List.Sublist.cons;apply List.Sublist.cons;exact List.Sublist.refl _) (.inr (by apply List.Sublist.cons_cons;apply List.Sublist.cons_cons;apply List.Sublist.cons;apply List.Sublist.cons;exact List.Sublist.refl _)),?_⟩)),trivial⟩;refine Ta.each [2] (by kernel_rfl) rfl ⟨TaOp.mk rfl rfl rfl (.st 2 (zz:=⟨S2.mk (by apply List.Sublist.cons_cons;apply List.Sublist.cons;apply List.Sublist.cons;apply List.Sublist.cons;exact List.Sublist.refl _) (.inr (by apply List.Sublist.cons_cons;apply List.Sublist.cons_cons;apply List.Sublist.cons;apply List.Sublist.cons;exact List.Sublist.refl _)),?_⟩)),trivial⟩;refine Ta.each [3] (by kernel_rfl) rfl ⟨TaOp.mk rfl rfl rfl (.st 1 (zz:=⟨S2.mk (by apply List.Sublist.cons_cons;apply List.Sublist.cons;apply List.Sublist.cons;apply List.Sublist.cons;exact List.Sublist.refl _) (.inl (by kernel_rfl)),?_⟩)),trivial⟩;refine Ta.done (by kernel_rfl) ?_;refine Tc.retN (E:=en) hK Tryz.func50 Tryz.results50 (vs:= [_,_,_]) (by refine⟨⟨3,_,_,_,_,_,_,_,rfl,rfl,rfl,rfl⟩,?_⟩;refine⟨⟨2,_,_,_,_,_,_,_,rfl,rfl,rfl,rfl⟩,?_⟩;refine⟨⟨1,_,_,_,_,_,_,_,rfl,rfl,rfl,rfl⟩,?_⟩;exact trivial) ?_;exact okB
end
end Go.Proofs.YtdnfdeplcjaonaaGreatDoor
namespace Go.RL
open Go.Conc
section
variable {P:Program}{E:Env P}{M:Md P}{n:Nat}{H₀:View}{R:Rg}{L:Bl}{o:Oper}{K:Rg→Bl→Prop}{d:Nat}
theorem Gl.bl_nodup {e:TypeId}{sz:Nat}(g:Gl e sz):(g.bl.map (·.1)).Nodup:=by
 unfold Gl.bl;split <;> simp
theorem Or.appendK(k:Nat){cl:Go.Call}{x y:Operand}{t xt e:TypeId}{sz m:Nat}{yv:Value}{new:List Value}{g:Gl e sz}{r re rx:TyRow}{ex:TypeId}(hop:o.op=.call cl)(hcl:cl.callee=.builtin .append)(hat:cl.argTypes=#[t,xt])(har:cl.args=#[x,y])
   (hx:evR R x=some g.val) (hy:evR R y=some yv) (ht:E.ty t=some r) (hds:r.ds=.slice e) (hre:E.ty e=some re) (hsz:re.size=sz) (hzs:Nat.beq re.zero.cells.toList.length sz=true) (hxt:E.ty xt=some rx) (hex:rx.ds=.slice ex) (hby:Nat.ble re.bytes 1000=true)
   (hL:L.drop k=g.bl) (hsrc:∀H,SymSt H₀ L H→SrcAt H sz yv m new) (hs:new.all single=true) (hm:g.n+m≤1000000000) (hd:o.dst=some d) (hn:d<n)
   (hk1:∀g':Gl e sz,g'.n=g.n+m→g'.l=g.l++new→g'.blk=g.blk→g'.cap=g.cap→K ((d,g'.val)::R) (L.take k++g'.bl))
   (hk2:∀g':Gl e sz,g'.n=g.n+m→g'.l=g.l++new→K ((d,g'.val)::R) (L++g'.bl)):Or M n H₀ R L o K:=
 .val hd hn fun H tmps hst hr=> by
   have hLe:L=L.take k++g.bl:=by rw[←hL,List.take_append_drop]
   have hst0:=hst;unfold execOp;rw[hop];simp only[resolve,hcl,hat,har];have hm':Array.map (evT tmps) #[x,y]=#[g.val,yv]:=by simp[hr.ev hx,hr.ev hy]
   rw[hm'];rw[hLe] at hst;refine vwp_bind (Builtin.append_ #[t,xt] o.type #[g.val,yv]) _ ?_;refine vwp_appendC ht hds hre hsz (Nat.eq_of_beq_eq_true hzs) ⟨rx,ex,hxt,hex⟩ (Nat.le_of_ble_eq_true hby) hm (fun z hz=> hst.at_ z (by simp[hz])) (hsrc H hst0) hs fun g' H' h1 h2 h3 h4 h5=> ?_;cases hb:g'.blk with
   | none=>
     have hbl:g'.bl= []:=by unfold Gl.bl;rw[hb]
     have hHH:H'=H:=funext fun c=> h4 c (fun b hbb=> by rw[hb] at hbb;cases hbb);subst hHH;refine⟨_,rfl,L,hst0,?_⟩;have:=hk2 g' h1 h2
     rwa [hbl,List.append_nil] at this
   | some b=>
     rcases h3 b hb with ⟨h6,h7⟩|h6
     · exact⟨_,rfl,_,hst.grown (fun b hbb=> (h3 b hbb).imp And.left id) h4 h5,hk1 g' h1 h2 (hb.trans h6.symm) h7⟩
     · have hbl:g'.bl= [(b,true,.cells ⟨g'.l++g'.junk⟩ e (0,0))]:=by unfold Gl.bl;rw[hb]
       have hle:H.le H':=fun c z hc=> by
         rw[h4 c (fun b' hb'=> by
           rw[hb] at hb';cases hb'
           rintro rfl;rw[h6] at hc;cases hc)]
         exact hc
       refine⟨_,rfl,_,hst0.more hle g'.bl_nodup (fun y hy=> ⟨h5 y hy,?_⟩),hk2 g' h1 h2⟩;rw[hbl,List.mem_singleton] at hy;subst hy;exact h6
end
end Go.RL
namespace Go.Proofs.YtdnfdeplcjaonaaGreatDoor
open Go.RL
set_option maxRecDepth 10000
set_option maxHeartbeats 16000000
def StrsAt(H:View)(F:Option Addr)(n:Nat)(x:Nat→List UInt8):Prop:=
 n=0∨∃b o f gs gt gz,F=some ⟨b,o,none⟩∧H b=some (f,.cells ⟨gs⟩ gt gz)∧∀j:Nat,j<n→ldL false 1 gs (o+(j:Int).toNat*1)=some (strV (x j))
theorem StrsAt.le {H H':View}{F:Option Addr}{n:Nat}{x:Nat→List UInt8}(h:StrsAt H F n x)(k:H.le H'):StrsAt H' F n x:=
 h.imp id fun⟨b,o,f,gs,gt,gz,h1,h2,h3⟩=> ⟨b,o,f,gs,gt,gz,h1,k _ _ h2,h3⟩
def weightOk(x:Int):Bool:=decide (0≤x∧x≤99)
section
variable(M:Md Tryz.prog)(H:View)
theorem IndexI_c(F:Option Addr)(n fc:Nat)(x:Nat→Int)(hF:FreeAt H F n x)(hn:n≤1000000)(fv:Value)(p:Nat→Bool)(hp:∀j,j<n→∀H',H.le H'→FnT M fv [.int .i64 (x j)] H' fun v H''=> H'.le H''∧v=.bool (p j)):
   CallT M 187 #[.slice F n fc,fv] H (fun v H'=> H.le H'∧v=.int .i64 (firstI (firstTo p n))):=by
 refine .en Tryz.func187 Tryz.ntmps187 fun St c cs hK=> ?_;(iterate 12 refine U ?_);refine Tc.db (Tc.loopInv (σ:= { j:Nat//j≤n∧firstTo p j=none }) (fun j=> ([(0,.slice F n fc),(1,fv),(7,.int .i64 (n:Nat)),(8,.int .i64 (j.1:Nat))],[])) (fun j=> n-j.1) ?_ ⟨0,Nat.zero_le _,rfl⟩);rintro⟨j,hj,hno⟩ ih;show Tc M St _ _ _ _ [(0,.slice F n fc),(1,fv),(7,.int .i64 (n:Nat)),(8,.int .i64 (j:Nat))] [] _ _;by_cases c1:j=n
 · subst c1;rw[hno] at hK;(iterate 11 refine U ?_);refine .rt hK Tryz.func187 Tryz.results187 [_] ?_;exact okB
 · have c2:j<n:=by omega
   obtain h0|⟨ab,ao,f,gs,gt,gz,rfl,hb,hl⟩:=hF
   · omega
   have f1:=hl j c2;have hpj:=hp j c2;cases hpp:p j with
   | true=>
     rw[hpp] at hpj;have e:firstTo p n=some j:=firstTo_stays (j:=j+1) (by simp[firstTo,hno,hpp]) _ (by omega);rw[e] at hK;(iterate 21 refine U ?_);refine .c rfl rfl rfl rfl (fun H hs=> hpj H hs.base) ?_;(iterate 7 refine U ?_);refine .rt hK Tryz.func187 Tryz.results187 [_] ?_;exact okB
   | false=>
     rw[hpp] at hpj;(iterate 21 refine U ?_);refine .c rfl rfl rfl rfl (fun H hs=> hpj H hs.base) ?_;(iterate 8 refine U ?_);exact Tc.db (ih ⟨j+1,by omega,by simp[firstTo,hno,hpp]⟩ (by simp only;omega))
theorem ContainsI_c(F:Option Addr)(n fc:Nat)(x:Nat→Int)(hF:FreeAt H F n x)(hn:n≤1000000)(fv:Value)(p:Nat→Bool)(hp:∀j,j<n→∀H',H.le H'→FnT M fv [.int .i64 (x j)] H' fun v H''=> H'.le H''∧v=.bool (p j)):
   CallT M 120 #[.slice F n fc,fv] H (fun v H'=> H.le H'∧v=.bool (firstTo p n).isSome):=by
 have hi:=fun(H':View) (h':H.le H')=> IndexI_c M H' F n fc x (hF.le h') hn fv p (fun j hj H'' h''=> hp j hj H'' (View.le_trans h' h''));cases hq:firstTo p n with
 | none=>
   rw[hq] at hi;have e:firstI none= -1:=rfl;rw[e] at hi;refine .en Tryz.func120 Tryz.ntmps120 fun St c cs hK=> ?_;(iterate 8 refine U ?_);refine .c rfl rfl rfl rfl (fun H hs=> .f ca187 rfl (hi H hs.base)) ?_;(iterate 3 refine U ?_);refine .rt hK Tryz.func120 Tryz.results120 [_] ?_;exact okB
 | some j=>
   rw[hq] at hi;have e:firstI (some j)=(j:Nat):=rfl;rw[e] at hi;refine .en Tryz.func120 Tryz.ntmps120 fun St c cs hK=> ?_;(iterate 8 refine U ?_);refine .c rfl rfl rfl rfl (fun H hs=> .f ca187 rfl (hi H hs.base)) ?_;(iterate 3 refine U ?_);refine .rt hK Tryz.func120 Tryz.results120 [_] ?_;exact okB
theorem IndexS_c(F:Option Addr)(n fc:Nat)(x:Nat→List UInt8)(hF:StrsAt H F n x)(hn:n≤1000000)(fv:Value)(p:Nat→Bool)(hp:∀j,j<n→∀H',H.le H'→FnT M fv [strV (x j)] H' fun v H''=> H'.le H''∧v=.bool (p j)):
   CallT M 188 #[.slice F n fc,fv] H (fun v H'=> H.le H'∧v=.int .i64 (firstI (firstTo p n))):=by
 refine .en Tryz.func188 Tryz.ntmps188 fun St c cs hK=> ?_;(iterate 12 refine U ?_);refine Tc.db (Tc.loopInv (σ:= { j:Nat//j≤n∧firstTo p j=none }) (fun j=> ([(0,.slice F n fc),(1,fv),(7,.int .i64 (n:Nat)),(8,.int .i64 (j.1:Nat))],[])) (fun j=> n-j.1) ?_ ⟨0,Nat.zero_le _,rfl⟩);rintro⟨j,hj,hno⟩ ih;show Tc M St _ _ _ _ [(0,.slice F n fc),(1,fv),(7,.int .i64 (n:Nat)),(8,.int .i64 (j:Nat))] [] _ _;by_cases c1:j=n
 · subst c1;rw[hno] at hK;(iterate 11 refine U ?_);refine .rt hK Tryz.func188 Tryz.results188 [_] ?_;exact okB
 · have c2:j<n:=by omega
   obtain h0|⟨ab,ao,f,gs,gt,gz,rfl,hb,hl⟩:=hF
   · omega
   have f1:=hl j c2;have hpj:=hp j c2;cases hpp:p j with
   | true=>
     rw[hpp] at hpj;have e:firstTo p n=some j:=firstTo_stays (j:=j+1) (by simp[firstTo,hno,hpp]) _ (by omega);rw[e] at hK;(iterate 21 refine U ?_);refine .c rfl rfl rfl rfl (fun H hs=> hpj H hs.base) ?_;(iterate 7 refine U ?_);refine .rt hK Tryz.func188 Tryz.results188 [_] ?_;exact okB
   | false=>
     rw[hpp] at hpj;(iterate 21 refine U ?_);refine .c rfl rfl rfl rfl (fun H hs=> hpj H hs.base) ?_;(iterate 8 refine U ?_);exact Tc.db (ih ⟨j+1,by omega,by simp[firstTo,hno,hpp]⟩ (by simp only;omega))
theorem ContainsS_c(F:Option Addr)(n fc:Nat)(x:Nat→List UInt8)(hF:StrsAt H F n x)(hn:n≤1000000)(fv:Value)(p:Nat→Bool)(hp:∀j,j<n→∀H',H.le H'→FnT M fv [strV (x j)] H' fun v H''=> H'.le H''∧v=.bool (p j)):
   CallT M 125 #[.slice F n fc,fv] H (fun v H'=> H.le H'∧v=.bool (firstTo p n).isSome):=by
 have hi:=fun(H':View) (h':H.le H')=> IndexS_c M H' F n fc x (hF.le h') hn fv p (fun j hj H'' h''=> hp j hj H'' (View.le_trans h' h''));cases hq:firstTo p n with
 | none=>
   rw[hq] at hi;have e:firstI none= -1:=rfl;rw[e] at hi;refine .en Tryz.func125 Tryz.ntmps125 fun St c cs hK=> ?_;(iterate 8 refine U ?_);refine .c rfl rfl rfl rfl (fun H hs=> .f ca188 rfl (hi H hs.base)) ?_;(iterate 3 refine U ?_);refine .rt hK Tryz.func125 Tryz.results125 [_] ?_;exact okB
 | some j=>
   rw[hq] at hi;have e:firstI (some j)=(j:Nat):=rfl;rw[e] at hi;refine .en Tryz.func125 Tryz.ntmps125 fun St c cs hK=> ?_;(iterate 8 refine U ?_);refine .c rfl rfl rfl rfl (fun H hs=> .f ca188 rfl (hi H hs.base)) ?_;(iterate 3 refine U ?_);refine .rt hK Tryz.func125 Tryz.results125 [_] ?_;exact okB
theorem weightBad_c(x:Int):CallT M 121 #[.int .i64 x] H (fun v H'=> H.le H'∧v=.bool (!weightOk x)):=by
 cases h:weightOk x with
 | true=>
   refine .en Tryz.func121 Tryz.ntmps121 fun St c cs hK=> ?_;(iterate 7 refine U ?_);refine .c rfl rfl rfl rfl (fun H hs=> .f ca82 rfl (between_is M H x 0 99 true h)) ?_;(iterate 3 refine U ?_);refine .rt hK Tryz.func121 Tryz.results121 [_] ?_;exact okB
 | false=>
   refine .en Tryz.func121 Tryz.ntmps121 fun St c cs hK=> ?_;(iterate 7 refine U ?_);refine .c rfl rfl rfl rfl (fun H hs=> .f ca82 rfl (between_is M H x 0 99 false h)) ?_;(iterate 3 refine U ?_);refine .rt hK Tryz.func121 Tryz.results121 [_] ?_;exact okB
theorem near_c(s:List UInt8)(b:Nat)(f:Bool)(hb:H b=some (f,.cells ⟨[strV s]⟩ 9 (0,0)))(o:List UInt8):
   CallT M 126 #[strV o,.pointer (some ⟨b,0,none⟩)] H (fun v H'=> H.le H'∧v=.bool (clash1 o s)):=by
 cases h1:begins o s with
 | true=>
   have e:clash1 o s=true:=by unfold clash1;rw[h1];rfl
   rw[e];refine .en Tryz.func126 Tryz.ntmps126 fun St c cs hK=> ?_;(iterate 8 refine U ?_);refine .c rfl rfl rfl rfl (fun H hs=> .f ca127 rfl (HasPrefix_is M H o s true h1)) ?_;(iterate 7 refine U ?_);refine .rt hK Tryz.func126 Tryz.results126 [_] ?_;exact okB
 | false=>
   have e:clash1 o s=begins s o:=by unfold clash1;rw[h1];rfl
   rw[e];refine .en Tryz.func126 Tryz.ntmps126 fun St c cs hK=> ?_;(iterate 8 refine U ?_);refine .c rfl rfl rfl rfl (fun H hs=> .f ca127 rfl (HasPrefix_is M H o s false h1)) ?_;(iterate 3 refine U ?_);refine .c rfl rfl rfl rfl (fun H hs=> .f ca127 rfl (HasPrefix_c M H s o)) ?_;(iterate 3 refine U ?_);refine .rt hK Tryz.func126 Tryz.results126 [_] ?_;exact okB
end
set_option maxHeartbeats 8000000
section
variable(M:Md Tryz.prog)(H:View)
theorem SameWords_c(A B:Option Addr)(n m ac bc:Nat)(x y:Nat→List UInt8)(hA:StrsAt H A n x)(hB:StrsAt H B m y)(hn:n≤100000000)(hm:m≤100000000)(t:Bool)(ht:(decide (n=m)&&allB (fun i=> decide (x i=y i)) n)=t):
   CallT M 25 #[.slice A n ac,.slice B m bc] H (fun v H'=> H.le H'∧v=.bool t):=by
 rw[←ht];clear ht;refine .en Tryz.func25 Tryz.ntmps25 fun St c cs hK=> ?_;by_cases c0:n=m
 · subst c0;rw[decide_eq_true rfl,Bool.true_and] at hK;(iterate 21 refine U ?_);refine Tc.db (Tc.loopInv (σ:= { j:Nat//j≤n∧∀i,i<j→x i=y i }) (fun j=> ([(0,.slice A n ac),(1,.slice B n bc),(5,.int .i64 (j.1:Nat))],[])) (fun j=> n-j.1) ?_ ⟨0,Nat.zero_le _,fun i hi=> by omega⟩);rintro⟨j,hj,hall⟩ ih;show Tc M St _ _ _ _ [(0,.slice A n ac),(1,.slice B n bc),(5,.int .i64 (j:Nat))] [] _ _;by_cases c1:j=n
   · have e:allB (fun i=> decide (x i=y i)) n=true:=(allB_iff n).2 (fun i hi=> decide_eq_true (hall i (by omega)));subst c1;rw[e] at hK;(iterate 14 refine U ?_);refine .rt hK Tryz.func25 Tryz.results25 [_] ?_;exact okB
   · have c2:j<n:=by omega
     obtain h0|⟨ab,ao,fa,gs,gt,gz,rfl,hab,hal⟩:=hA
     · omega
     obtain h0|⟨bb,bo,fb,ks,kt,kz,rfl,hbb,hbl⟩:=hB
     · omega
     have f1:=hal j c2;have f2:=hbl j c2;by_cases c3:x j=y j
     · have f3:RL.strB .neq (x j) (y j)=some (.bool false):=by simp[RL.strB,c3]
       (iterate 13 refine U ?_);refine Tc.dr [] [] mixed rfl ?_;refine .q 0 rfl .mv ?_;refine .q 1 rfl .mv ?_;refine .q 2 rfl .ia ?_;refine .q 3 rfl .l0 ?_;refine .q 4 rfl .mv ?_;refine .q 5 rfl .mv ?_;refine .q 6 rfl .ia ?_;refine .q 7 rfl .l0 ?_;refine .q 8 rfl (OpV.strB rfl rfl rfl (by assumption)) ?_;refine Ta.done (by kernel_rfl) ?_;(iterate 8 refine U ?_);exact Tc.db (ih ⟨j+1,by omega,fun i hi=> by by_cases e:i=j;exact e▸c3;exact hall i (by omega)⟩ (by simp only;omega))
     · have f3:RL.strB .neq (x j) (y j)=some (.bool true):=by simp[RL.strB,c3]
       have e:allB (fun i=> decide (x i=y i)) n=false:=allB_not c2 (decide_eq_false c3);rw[e] at hK;(iterate 13 refine U ?_);refine Tc.dr [] [] mixed rfl ?_;refine .q 0 rfl .mv ?_;refine .q 1 rfl .mv ?_;refine .q 2 rfl .ia ?_;refine .q 3 rfl .l0 ?_;refine .q 4 rfl .mv ?_;refine .q 5 rfl .mv ?_;refine .q 6 rfl .ia ?_;refine .q 7 rfl .l0 ?_;refine .q 8 rfl (OpV.strB rfl rfl rfl (by assumption)) ?_;refine Ta.done (by kernel_rfl) ?_;(iterate 5 refine U ?_);refine .rt hK Tryz.func25 Tryz.results25 [_] ?_;exact okB
 · rw[decide_eq_false c0,Bool.false_and] at hK;(iterate 18 refine U ?_);refine .rt hK Tryz.func25 Tryz.results25 [_] ?_;exact okB
theorem SameClaims_c(A B:Option Addr)(n m ac bc:Nat)(x y:Nat→Int)(hA:FreeAt H A n x)(hB:FreeAt H B m y)(hn:n≤1000000)(hm:m≤1000000)(t:Bool)(ht:(decide (n=m)&&allB (fun i=> decide (x i=y i)) n)=t):
   CallT M 28 #[.slice A n ac,.slice B m bc] H (fun v H'=> H.le H'∧v=.bool t):=by
 rw[←ht];clear ht;refine .en Tryz.func28 Tryz.ntmps28 fun St c cs hK=> ?_;by_cases c0:n=m
 · subst c0;rw[decide_eq_true rfl,Bool.true_and] at hK;(iterate 21 refine U ?_);refine Tc.db (Tc.loopInv (σ:= { j:Nat//j≤n∧∀i,i<j→x i=y i }) (fun j=> ([(0,.slice A n ac),(1,.slice B n bc),(5,.int .i64 (j.1:Nat))],[])) (fun j=> n-j.1) ?_ ⟨0,Nat.zero_le _,fun i hi=> by omega⟩);rintro⟨j,hj,hall⟩ ih;show Tc M St _ _ _ _ [(0,.slice A n ac),(1,.slice B n bc),(5,.int .i64 (j:Nat))] [] _ _;by_cases c1:j=n
   · have e:allB (fun i=> decide (x i=y i)) n=true:=(allB_iff n).2 (fun i hi=> decide_eq_true (hall i (by omega)));subst c1;rw[e] at hK;(iterate 14 refine U ?_);refine .rt hK Tryz.func28 Tryz.results28 [_] ?_;exact okB
   · have c2:j<n:=by omega
     obtain h0|⟨ab,ao,fa,gs,gt,gz,rfl,hab,hal⟩:=hA
     · omega
     obtain h0|⟨bb,bo,fb,ks,kt,kz,rfl,hbb,hbl⟩:=hB
     · omega
     have f1:=hal j c2;have f2:=hbl j c2;by_cases c3:x j=y j
     · skip
       (iterate 13 refine U ?_);refine Tc.dr [] [] mixed rfl ?_;refine .q 0 rfl .mv ?_;refine .q 1 rfl .mv ?_;refine .q 2 rfl .ia ?_;refine .q 3 rfl .l0 ?_;refine .q 4 rfl .mv ?_;refine .q 5 rfl .mv ?_;refine .q 6 rfl .ia ?_;refine .q 7 rfl .l0 ?_;refine .q 8 rfl (.it (zz:=neq_f (by omega))) ?_;refine Ta.done (by kernel_rfl) ?_;(iterate 8 refine U ?_);exact Tc.db (ih ⟨j+1,by omega,fun i hi=> by by_cases e:i=j;exact e▸c3;exact hall i (by omega)⟩ (by simp only;omega))
     · skip
       have e:allB (fun i=> decide (x i=y i)) n=false:=allB_not c2 (decide_eq_false c3);rw[e] at hK;(iterate 13 refine U ?_);refine Tc.dr [] [] mixed rfl ?_;refine .q 0 rfl .mv ?_;refine .q 1 rfl .mv ?_;refine .q 2 rfl .ia ?_;refine .q 3 rfl .l0 ?_;refine .q 4 rfl .mv ?_;refine .q 5 rfl .mv ?_;refine .q 6 rfl .ia ?_;refine .q 7 rfl .l0 ?_;refine .q 8 rfl (.it (zz:=neq_t (by omega))) ?_;refine Ta.done (by kernel_rfl) ?_;(iterate 5 refine U ?_);refine .rt hK Tryz.func28 Tryz.results28 [_] ?_;exact okB
 · rw[decide_eq_false c0,Bool.false_and] at hK;(iterate 18 refine U ?_);refine .rt hK Tryz.func28 Tryz.results28 [_] ?_;exact okB
theorem claims_c(A B:Option Addr)(n m ac bc:Nat)(x y:Nat→Int)(hA:FreeAt H A n x)(hB:FreeAt H B m y)(hn:n≤1000000)(hm:m≤1000000)(t:Bool)(ht:(decide (n=m)&&allB (fun i=> decide (x i=y i)) n)=t):
   CallT M 80 #[.slice A n ac,.slice B m bc] H (fun v H'=> H.le H'∧v=.bool t):=by
 refine .en Tryz.func80 Tryz.ntmps80 fun St c cs hK=> ?_;(iterate 8 refine U ?_);refine .c rfl rfl rfl rfl (fun H hs=> .f ca28 rfl (SameClaims_c M H A B n m ac bc x y (hA.le hs.base) (hB.le hs.base) hn hm t ht)) ?_;(iterate 2 refine U ?_);refine .rt hK Tryz.func80 Tryz.results80 [_] ?_;exact okB
end
set_option maxHeartbeats 16000000
def strsV(l:List (List UInt8)):List Value:=l.map strV
theorem strsV_len(l:List (List UInt8)):(strsV l).length=l.length:=by simp[strsV]
theorem strsV_app(l m:List (List UInt8)):strsV (l++m)=strsV l++strsV m:=by simp[strsV]
theorem strsV_single(l:List (List UInt8)):(strsV l).all single=true:=by
 rw[List.all_eq_true];intro x hx;obtain⟨s,_,rfl⟩:=List.mem_map.1 hx;rfl
def allB2(many:Nat)(dg:List UInt8)(s: { p:Nat×Nat//p.1≠p.2 }):Bl:= [(s.1.1,true,.cells ⟨[.int .i64 (many:Nat)]⟩ 3 (0,0)),(s.1.2,true,.cells ⟨[strV dg]⟩ 9 (0,0))]
theorem allB2_nodup(many:Nat)(dg:List UInt8)(s: { p:Nat×Nat//p.1≠p.2 }):((allB2 many dg s).map (·.1)).Nodup:=by
 obtain⟨⟨a,b⟩,h⟩:=s;simp only[allB2,List.map_cons,List.map_nil,List.nodup_cons,List.mem_singleton,List.not_mem_nil,not_false_eq_true,List.nodup_nil,and_true];exact h
section
variable(M:Md Tryz.prog)(H:View)
theorem all_n(many:Nat)(dg:List UInt8):CallT M 116 #[.int .i64 (many:Nat),strV dg] H (fun v H'=> H.le H'∧∃s: { p:Nat×Nat//p.1≠p.2 },v=allF s.1.1 s.1.2∧True∧∀y∈allB2 many dg s,H' y.1=some y.2∧H y.1=none):=by
 refine .en Tryz.func116 Tryz.ntmps116 fun St c cs hK=> ?_;(iterate 2 refine U ?_);refine .e (.bx (zz:=fun b2=> ?_));refine .e (.bx (zz:=fun b3=> ?_));(iterate 7 refine U ?_);refine .rt hK Tryz.func116 Tryz.results116 [_] ?_;intro H' hs;have hnd:=hs.nodup;have hne:b2≠b3:=by
   simp only[List.map_cons,List.map_nil,List.nodup_cons,List.mem_singleton] at hnd;exact fun e=> hnd.1 e.symm
 refine⟨hs.base,⟨(b2,b3),hne⟩,rfl,trivial,fun y hy=> ?_⟩;have hy':y=(b2,true,.cells ⟨[.int .i64 (many:Nat)]⟩ 3 (0,0))∨y=(b3,true,.cells ⟨[strV dg]⟩ 9 (0,0)):=by simpa [allB2] using hy
 rcases hy' with rfl|rfl
 · exact⟨hs.get (i:=1) rfl,hs.out _ (List.mem_cons_of_mem _ (List.mem_cons_self ..))⟩
 · exact⟨hs.get (i:=0) rfl,hs.out _ (List.mem_cons_self ..)⟩
def SeqQ(H₁:View)(g:Gl 9 1)(l xs:List (List UInt8))(v:Value)(H3:View):Prop:=
 ∃(g':Gl 9 1) (H₂:View),v=g'.val∧H₁.le H₂∧SymSt H₂ g'.bl H3∧g'.l=strsV (l++xs)∧g'.n=g.n+xs.length
theorem AppendSeq_c(g:Gl 9 1)(l:List (List UInt8))(hg:g.l=strsV l)(hgn:g.n≤100000)(many:Nat)(dg:List UInt8)(hm:many≤1000)(hdg:dg.all dig=true)(hdl:dg.length≤1000)(hal:(allL dg many).length≤100000)(a1 a2:Nat)(H₁ Hc:View)(hcap:CapA many dg a1 a2 H₁)(hsy:SymSt H₁ g.bl Hc):
   CallT M 122 #[g.val,allF a1 a2] Hc (SeqQ H₁ g l (allL dg many)):=by
 have hit:=fun(H':View) (_:CapA many dg a1 a2 H')=> all_it M H' many dg hm hdg hdl a1 a2;refine CallT.enter (vs:= [g.val,allF a1 a2]) Tryz.func122 rfl Tryz.ntmps122 (Nat.le_of_ble_eq_true rfl) (hsy) fun St c cs hK=> ?_;(iterate 2 refine U ?_);refine .e (.bx (zz:=fun b2=> ?_));(iterate 8 refine U ?_);refine Tc.db (R':= [(2,.pointer (some ⟨b2,0,none⟩)),(6,allF a1 a2)]) (L':= [(b2,true,.cells ⟨[g.val]⟩ 33 (0,0))]++g.bl) ?_;refine Tc.rangeL (A:= []) (ts:= [7]) (xs:=allL dg many) (fun rest H₄ L₄=> ∃(g':Gl 9 1) (dn:List (List UInt8)),L₄= [(b2,true,.cells ⟨[g'.val]⟩ 33 (0,0))]++g'.bl∧g'.l=strsV (l++dn)∧g'.n=g.n+dn.length∧dn++rest=allL dg many∧CapA many dg a1 a2 H₄∧H₁.le H₄) (fun _ _ _=> False) rfl rfl rfl rfl hit (fun _ _=> CapA.le _ _) (fun _ _ _ ⟨_,_,_,_,_,_,h,_⟩=> h) rfl (fun _ _=> rfl)
     ⟨g,[],rfl,by rw[List.append_nil];exact hg,rfl,rfl,hcap,View.le_refl _⟩ ?_ ?_ (fun _ _ _ _ h=> h.elim)
 · rintro r x rest _ lp tmps asg bdy H₄ _ hx ⟨g',dn,rfl,q1,q2,q3,q4,q5⟩ Q St1 cc1 cs1 hK1 q q';have hdl2:dn.length≤100000:=by
     have:=congrArg List.length q3;rw[List.length_append] at this;omega
   (iterate 3 refine U ?_);refine Tc.beginRound (i:=0) rfl rfl rfl ?_;(iterate 4 refine U ?_);refine .e (.bs (zz:=fun bs=> ?_));refine .e (Or.append (E:=en) 4 rfl rfl rfl rfl rfl rfl rfl rfl rfl rfl rfl rfl rfl rfl rfl (fun H hs=> SrcAt.of (hs.get (i:=0) rfl) (Nat.le_of_ble_eq_true rfl)) rfl (by omega) rfl (by decide) (fun g2 hn2 hl2=> ?_));refine .e (.st 3 (zz:=?_));(iterate 2 refine U ?_);refine Tc.leaveRound hK1 (i:=1) rfl (.inl ⟨rfl,rfl⟩) (fun H' hs=> q H' H₄ _ (hs.less (by apply List.Sublist.cons;exact List.Sublist.refl _)) ⟨g2,dn++[x],rfl,by rw[hl2,q1,←List.append_assoc,strsV_app (l++dn) [x]];rfl,by rw[hn2,q2,List.length_append];rfl,by rw[List.append_assoc];exact q3,q4,q5⟩)
 · rintro r H₄ _ ⟨g',dn,rfl,q1,q2,q3,q4,q5⟩;rw[List.append_nil] at q3;subst q3;(iterate 6 refine U ?_);refine Tc.retD (E:=en) (i:=0) hK Tryz.func122 Tryz.results122 (vs:= [_]) rfl ⟨rfl,trivial⟩ ?_;exact fun H' hs=> ⟨g',H₄,rfl,q5,hs.less (by apply List.Sublist.cons;apply List.Sublist.cons;exact List.Sublist.refl _),q1,q2⟩
theorem cloneS_c(a:Option Addr)(m ca:Nat)(l:List Value)(hm:m≤100000)(hs0:SrcAt H 1 (.slice a m ca) m l)(h1:l.all single=true):CallT M 124 #[.slice a m ca] H (fun v H'=> H.le H'∧∃g:Gl 9 1,v=g.val∧(g.l=l∧g.n=m)∧∀x∈g.bl,H' x.1=some x.2∧H x.1=none):=by
 refine .en Tryz.func124 Tryz.ntmps124 fun St c cs hK=> ?_;cases a with
 | none=>
   (iterate 8 refine U ?_);refine .x (OpV.eqNil (E:=en) rfl rfl rfl rfl rfl) ?_;(iterate 6 refine U ?_);refine .rt hK Tryz.func124 Tryz.results124 [_] ?_;obtain⟨_,h2,h3|⟨b,off,_,_,_,_,_,h3,_⟩⟩:=hs0
   · obtain⟨_,_,_,rfl⟩:=h3;have:m=0:=by simp at h2;omega
     subst this;exact fun H' hs'=> ⟨hs'.base,Gl.nil 9 1,rfl,⟨rfl,rfl⟩,by simp[Gl.nil,Gl.bl]⟩
   · cases h3
 | some a=>
   (iterate 8 refine U ?_);refine .x (OpV.eqNil (E:=en) rfl rfl rfl rfl rfl) ?_;(iterate 5 refine U ?_);refine .e (.bs (zz:=fun bs=> ?_));refine U ?_;refine .e (Or.append (E:=en) (g:=Gl.emp 9 1 bs) 0 rfl rfl rfl rfl rfl rfl rfl rfl rfl rfl rfl rfl rfl rfl rfl (fun H' hs'=> hs0.mono hs'.base) h1 (by show 0+m≤_;omega) rfl (by decide) (fun g' hn hl=> ?_));(iterate 2 refine U ?_);refine .rt hK Tryz.func124 Tryz.results124 [_] ?_;exact fun H' hs'=> ⟨hs'.base,g',rfl,⟨by rw[hl];rfl,by rw[hn];show 0+m=m;omega⟩,fun x hx=> ⟨hs'.at_ x hx,hs'.out x hx⟩⟩
end
end Go.Proofs.YtdnfdeplcjaonaaGreatDoor
namespace Go.RL
open Go.Conc
section
variable {P:Program}{M:Md P}{St:View→Goroutine→Prop}{n:Nat}{b:FB}{H₀:View}{cs:List Frame}{R:Rg}{L L₁:Bl}{ds:List Deferred}{k:List Item}{md:Region.Mode}{ops:Array Oper}{S:Array Bool→View→Prop}{fuel:Nat}{listed:Array Bool}
theorem Ta.permL(p:L₁.Perm L)(h:Ta M St n b H₀ cs S md ops fuel listed R L₁ ds k):Ta M St n b H₀ cs S md ops fuel listed R L ds k:=fun H tmps hs=> h H tmps (hs.perm p)
end
end Go.RL
namespace Go.Proofs.YtdnfdeplcjaonaaGreatDoor
open Go.RL
set_option maxRecDepth 10000
set_option maxHeartbeats 16000000
theorem perm3(A:Bl)(x y z:Nat×Bool×Obj)(B:Bl):(A++(x::y::z::B)).Perm (x::y::z::(A++B)):=by
 refine List.perm_middle.trans (.cons _ ?_);refine List.perm_middle.trans (.cons _ ?_);exact List.perm_middle
theorem perm4(u v:Nat×Bool×Obj)(A:Bl)(x y z:Nat×Bool×Obj)(B:Bl):((x::y::z::A)++(u::v::B)).Perm (([u,v]++A)++([x,y,z]++B)):=by
 simp only[List.cons_append,List.nil_append];have h1:(A++(x::y::z::B)).Perm (x::y::z::(A++B)):=perm3 A x y z B;have h2:(x::y::z::(A++u::v::B)).Perm (u::v::x::y::z::(A++B)):=by
   have h3:(A++u::v::B).Perm (u::v::(A++B)):=List.perm_middle.trans (.cons _ List.perm_middle);have h4:(x::y::z::(A++u::v::B)).Perm (x::y::z::u::v::(A++B)):=.cons _ (.cons _ (.cons _ h3));refine h4.trans ?_;have h5:([x,y,z]++u::v::(A++B)).Perm (u::([x,y,z]++v::(A++B))):=List.perm_middle;have h6:([x,y,z]++v::(A++B)).Perm (v::([x,y,z]++(A++B))):=List.perm_middle;exact h5.trans (.cons _ h6)
 exact h2.trans (.cons _ (.cons _ h1.symm))
theorem wmul {a:Int}{t:Nat}(h:0≤a∧a≤99)(ht:t≤30):0≤a*(t:Nat)∧a*(t:Nat)≤2970:=by
 have h1:(0:Int)≤(t:Nat):=Int.natCast_nonneg t;have h2:((t:Nat):Int)≤30:=by omega
 refine⟨Int.mul_nonneg h.1 h1,?_⟩;have h3:=Int.mul_le_mul h.2 h2 h1 (by omega:(0:Int)≤99);omega
theorem Gl.back {e:TypeId}{g g':Gl e 1}(new:List Value)(h1:g'.blk=g.blk)(h2:g'.n=g.n+new.length)(h3:g'.cap=g.cap)(h4:g'.l=g.l++new):∃g5:Gl e 1,g5.blk=g.blk∧g5.n=g.n∧g5.cap=g.cap∧g5.l=g.l∧g5.bl=g'.bl:=by
 have hl:=g.hl;have hl':=g'.hl;have hj':=g'.hj;have hc':=g'.hc;refine⟨⟨g.blk,g.n,g.cap,g.l,new++g'.junk,g.hl,g.hc,?_,g.h0⟩,rfl,rfl,rfl,rfl,?_⟩
 · rw[List.length_append,hj',h2,h3];omega
 · unfold Gl.bl;simp only;rw[h1,h4];cases g.blk with
   | none=> rfl
   | some b=> simp
theorem strs_of(g:Gl 9 1){H:View}(h:∀x∈g.bl,H x.1=some x.2){l:List (List UInt8)}(hl:g.l=strsV l){g0:Gl 9 1}(hn:g.n=g0.n)(hb:g.blk=g0.blk):StrsAt H (g0.blk.map fun b=> ⟨b,0,none⟩) g0.n (fun j=> l[j]?.getD []):=by
 have hgl:=g.hl;rw[hl,strsV_len] at hgl;cases hbb:g0.blk with
 | none=>
   have:=g.h0 (hb.trans hbb);have:=g.hc;exact .inl (by omega)
 | some b=>
   have hbl:g.bl= [(b,true,.cells ⟨g.l++g.junk⟩ 9 (0,0))]:=by unfold Gl.bl;rw[hb,hbb]
   refine .inr ⟨b,0,true,_,9,(0,0),rfl,h (b,true,.cells ⟨g.l++g.junk⟩ 9 (0,0)) (by rw[hbl];simp),fun j hj=> ?_⟩;show(g.l++g.junk)[_]? =_;have hjl:j<l.length:=by omega
   rw[Nat.zero_add,Int.toNat_natCast,Nat.mul_one,List.getElem?_append_left (by rw[hl,strsV_len];exact hjl),hl];unfold strsV;rw[List.getElem?_map];simp only[List.getElem?_eq_getElem hjl];rfl
structure ChSt where
 done:Bool
 total:Int
 best:List (List UInt8)
def ChSt.al(s:ChSt):Int:=if s.done then 0 else 9
def nearL(l:List (List UInt8))(s:List UInt8):Bool:=(firstTo (fun j=> clash1 (l[j]?.getD []) s) l.length).isSome
def cheapGo(can:List (List UInt8))(w:Nat→Int):Nat→List (List UInt8)→Int→ChSt→ChSt
 | 0,l,sum,st=> if st.done=true∧sum≥st.total then st else⟨true,sum,l⟩
 | d+1,l,sum,st=> if st.done=true∧sum≥st.total then st else can.foldl (fun st s=> if nearL l s then st else cheapGo can w d (l++[s]) (sum+w l.length*(takenN s:Nat)) st) st
def ptr(b:Nat):Value:=.pointer (some ⟨b,0,none⟩)
def cheapF(b8 b7 b3 b6 b9 b11:Nat):Value:=.func (.func 123) #[] #[ptr b8,ptr b7,ptr b3,ptr b6,ptr b9,ptr b11]
def stB(st:ChSt)(num:Value)(b8 b7 b6:Nat):Bl:= [(b8,true,.cells ⟨[.int .i64 st.al]⟩ 29 (0,0)),(b7,true,.cells ⟨[.int .i64 st.total]⟩ 3 (0,0)),(b6,true,.cells ⟨num.cells.toList⟩ 33 (0,0))]
def numV(a:Option Addr)(n c:Nat):Value:=.slice a n c
structure ChCap(can:List (List UInt8))(w:Nat→Int)(nw:Nat)(b8 b7 b3 b6 b9 b11:Nat)(cA wA:Option Addr)(cc wc:Nat)(H:View):Prop where
 f:∃f,H b11=some (f,.cells ⟨[cheapF b8 b7 b3 b6 b9 b11]⟩ 171 (0,0))
 c:∃f,H b9=some (f,.cells ⟨[.slice cA can.length cc]⟩ 33 (0,0))
 g:∃f,H b3=some (f,.cells ⟨[.slice wA nw wc]⟩ 26 (0,0))
 cs:StrsAt H cA can.length (fun i=> can[i]?.getD [])
 ws:FreeAt H wA nw w
theorem ChCap.le {can:List (List UInt8)}{w:Nat→Int}{nw b8 b7 b3 b6 b9 b11:Nat}{cA wA:Option Addr}{cc wc:Nat}{H H':View}(h:ChCap can w nw b8 b7 b3 b6 b9 b11 cA wA cc wc H)(k:H.le H'):ChCap can w nw b8 b7 b3 b6 b9 b11 cA wA cc wc H':=
 ⟨h.f.imp fun _ e=> k _ _ e,h.c.imp fun _ e=> k _ _ e,h.g.imp fun _ e=> k _ _ e,h.cs.le k,h.ws.le k⟩
def ChQ(H₁:View)(g:Gl 9 1)(st:ChSt)(b8 b7 b6:Nat)(v:Value)(H3:View):Prop:=
 v=.tuple ⟨[]⟩∧∃(H₂:View) (g':Gl 9 1) (a:Option Addr) (n c:Nat),H₁.le H₂∧SymSt H₂ (stB st (numV a n c) b8 b7 b6++g'.bl) H3∧(g'.blk=g.blk∧g'.n=g.n∧g'.cap=g.cap∧g'.l=g.l)∧(n=st.best.length∧SrcAt H₂ 1 (numV a n c) n (strsV st.best))
theorem foldl_at {α β:Type}(f:β→α→β)(l:List α)(i:Nat)(b:β){x:α}(h:l[i]? =some x):(l.drop i).foldl f b=(l.drop (i+1)).foldl f (f b x):=by
 obtain⟨hi,rfl⟩:=List.getElem?_eq_some_iff.1 h;rw[List.drop_eq_getElem_cons hi,List.foldl_cons]
theorem Gl.val_of {e:TypeId}{sz:Nat}{g g':Gl e sz}(h:g'.blk=g.blk∧g'.n=g.n∧g'.cap=g.cap∧g'.l=g.l):g'.val=g.val:=by
 unfold Gl.val;rw[h.1,h.2.1,h.2.2.1]
def canStep(can:List (List UInt8))(w:Nat→Int)(d:Nat)(l:List (List UInt8))(sum:Int)(st:ChSt)(s:List UInt8):ChSt:=if nearL l s then st else cheapGo can w d (l++[s]) (sum+w l.length*(takenN s:Nat)) st
section
variable(M:Md Tryz.prog)
theorem more2_c(can:List (List UInt8))(w:Nat→Int)(nw:Nat)(b8 b7 b3 b6 b9 b11:Nat)(cA wA:Option Addr)(cc wc:Nat)(hnw:nw≤20)(hcan:can.length≤100000)(hcn:∀s∈can,s.all dig=true∧s.length≤3)(hw:∀i,i<nw→0≤w i∧w i≤99):
   ∀ (d:Nat) (g:Gl 9 1) (l:List (List UInt8)) (sum:Int) (st:ChSt) (a:Option Addr) (n c':Nat) (H₁ Hc:View),g.l=strsV l→l.length+d=nw→(0≤sum∧sum≤3000*(l.length:Nat))→ChCap can w nw b8 b7 b3 b6 b9 b11 cA wA cc wc H₁→n=st.best.length→SrcAt H₁ 1 (numV a n c') n (strsV st.best)→SymSt H₁ (stB st (numV a n c') b8 b7 b6++g.bl) Hc→
     CallT M 123 #[g.val,.int .i64 sum,ptr b8,ptr b7,ptr b3,ptr b6,ptr b9,ptr b11] Hc (ChQ H₁ g (cheapGo can w d l sum st) b8 b7 b6):=by
 intro d;induction d with
 | zero=>
   intro g l sum st a n c' H₁ Hc hg hld hsum hcap hn hsrc hsy;have hgn:g.n=l.length:=by have:=g.hl;rw[hg,strsV_len] at this;omega
   have hcap0:=hcap;obtain⟨⟨ff,hf⟩,⟨fc,hc⟩,⟨fg,hgw⟩,hcs,hws⟩:=hcap;obtain⟨dn,total,best⟩:=st;by_cases c1:dn=true∧sum≥total
   · obtain⟨rfl,c2⟩:=c1;have e:cheapGo can w 0 l sum ⟨true,total,best⟩=⟨true,total,best⟩:=if_pos ⟨rfl,c2⟩;rw[e];refine CallT.enter (vs:= [g.val,.int .i64 sum,ptr b8,ptr b7,ptr b3,ptr b6,ptr b9,ptr b11]) Tryz.func123 rfl Tryz.ntmps123 (Nat.le_of_ble_eq_true rfl) (hsy) fun St c cs hK=> ?_;unfold stB ptr;(iterate 12 refine U ?_);refine Tc.retN (E:=en) hK Tryz.func123 Tryz.results123 (vs:= []) (by exact trivial) ?_;exact fun H' hs=> ⟨rfl,H₁,g,a,n,c',View.le_refl _,hs,⟨rfl,rfl,rfl,rfl⟩,hn,hsrc⟩
   · have e:cheapGo can w 0 l sum ⟨dn,total,best⟩=⟨true,sum,l⟩:=if_neg c1;rw[e];clear e;cases dn with
     | false=>
       refine CallT.enter (vs:= [g.val,.int .i64 sum,ptr b8,ptr b7,ptr b3,ptr b6,ptr b9,ptr b11]) Tryz.func123 rfl Tryz.ntmps123 (Nat.le_of_ble_eq_true rfl) (hsy) fun St c cs hK=> ?_;unfold stB ptr;(iterate 26 refine U ?_);refine .e (Or.callNew Gl.val Gl.bl (fun g2:Gl 9 1=> g2.l=strsV l∧g2.n=g.n) rfl rfl rfl rfl rfl (by decide) Gl.bl_nodup (fun H hs=> .f ca124 rfl (cloneS_c M H (g.blk.map fun b=> ⟨b,0,none⟩) g.n g.cap (strsV l) (by omega) (by rw[←hg];exact g.src (fun x hx=> hs.at_ x (List.mem_append_right _ hx))) (strsV_single l))) (fun g2 hg2=> ?_));refine U ?_;refine .e (.st 2 (zz:=?_));refine .e (.st 1 (zz:=?_));refine .e (.st 0 (zz:=?_));refine U ?_;refine Tc.retN (E:=en) hK Tryz.func123 Tryz.results123 (vs:= []) (by exact trivial) ?_;intro H' hs;obtain⟨H₂,h1,h2⟩:=SymSt.unappend (B:= [(b8,true,.cells ⟨[.int .i64 0]⟩ 29 (0,0)),(b7,true,.cells ⟨[.int .i64 sum]⟩ 3 (0,0)),(b6,true,.cells ⟨[g2.val]⟩ 33 (0,0))]++g.bl) (L:=g2.bl) hs;refine⟨rfl,H₂,g,g2.blk.map (fun b=> ⟨b,0,none⟩),g2.n,g2.cap,h2.base,h1,⟨rfl,rfl,rfl,rfl⟩,by rw[hg2.2];exact hgn,?_⟩;have h3:=g2.src (H:=H₂) (fun x hx=> h2.at_ x hx);rw[hg2.1] at h3;exact h3
     | true=>
       have c2:intBin .geq .i64 sum (ChSt.mk true total best).total=some (.bool false):=geq_f (Int.lt_of_not_ge fun h=> c1 ⟨rfl,h⟩);refine CallT.enter (vs:= [g.val,.int .i64 sum,ptr b8,ptr b7,ptr b3,ptr b6,ptr b9,ptr b11]) Tryz.func123 rfl Tryz.ntmps123 (Nat.le_of_ble_eq_true rfl) (hsy) fun St c cs hK=> ?_;unfold stB ptr;(iterate 26 refine U ?_);refine .e (Or.callNew Gl.val Gl.bl (fun g2:Gl 9 1=> g2.l=strsV l∧g2.n=g.n) rfl rfl rfl rfl rfl (by decide) Gl.bl_nodup (fun H hs=> .f ca124 rfl (cloneS_c M H (g.blk.map fun b=> ⟨b,0,none⟩) g.n g.cap (strsV l) (by omega) (by rw[←hg];exact g.src (fun x hx=> hs.at_ x (List.mem_append_right _ hx))) (strsV_single l))) (fun g2 hg2=> ?_));refine U ?_;refine .e (.st 2 (zz:=?_));refine .e (.st 1 (zz:=?_));refine .e (.st 0 (zz:=?_));refine U ?_;refine Tc.retN (E:=en) hK Tryz.func123 Tryz.results123 (vs:= []) (by exact trivial) ?_;intro H' hs;obtain⟨H₂,h1,h2⟩:=SymSt.unappend (B:= [(b8,true,.cells ⟨[.int .i64 0]⟩ 29 (0,0)),(b7,true,.cells ⟨[.int .i64 sum]⟩ 3 (0,0)),(b6,true,.cells ⟨[g2.val]⟩ 33 (0,0))]++g.bl) (L:=g2.bl) hs;refine⟨rfl,H₂,g,g2.blk.map (fun b=> ⟨b,0,none⟩),g2.n,g2.cap,h2.base,h1,⟨rfl,rfl,rfl,rfl⟩,by rw[hg2.2];exact hgn,?_⟩;have h3:=g2.src (H:=H₂) (fun x hx=> h2.at_ x hx);rw[hg2.1] at h3;exact h3
 | succ d ihd=>
   intro g l sum st a n c' H₁ Hc hg hld hsum hcap hn hsrc hsy;have hgn:g.n=l.length:=by have:=g.hl;rw[hg,strsV_len] at this;omega
   have hcap0:=hcap;obtain⟨⟨ff,hf⟩,⟨fc,hc⟩,⟨fg,hgw⟩,hcs,hws⟩:=hcap;obtain⟨dn,total,best⟩:=st;by_cases c1:dn=true∧sum≥total
   · obtain⟨rfl,c2⟩:=c1;have e:cheapGo can w (d+1) l sum ⟨true,total,best⟩=⟨true,total,best⟩:=if_pos ⟨rfl,c2⟩;rw[e];refine CallT.enter (vs:= [g.val,.int .i64 sum,ptr b8,ptr b7,ptr b3,ptr b6,ptr b9,ptr b11]) Tryz.func123 rfl Tryz.ntmps123 (Nat.le_of_ble_eq_true rfl) (hsy) fun St c cs hK=> ?_;unfold stB ptr;(iterate 12 refine U ?_);refine Tc.retN (E:=en) hK Tryz.func123 Tryz.results123 (vs:= []) (by exact trivial) ?_;exact fun H' hs=> ⟨rfl,H₁,g,a,n,c',View.le_refl _,hs,⟨rfl,rfl,rfl,rfl⟩,hn,hsrc⟩
   · have e:cheapGo can w (d+1) l sum ⟨dn,total,best⟩=can.foldl (canStep can w d l sum) ⟨dn,total,best⟩:=if_neg c1;rw[e];clear e;cases dn with
     | false =>
       refine CallT.enter (vs:= [g.val,.int .i64 sum,ptr b8,ptr b7,ptr b3,ptr b6,ptr b9,ptr b11]) Tryz.func123 rfl Tryz.ntmps123 (Nat.le_of_ble_eq_true rfl) (hsy) fun St c cs hK=> ?_;unfold stB ptr;(iterate 31 refine U ?_);refine Tc.db (Tc.loopB (σ:= { y:View×Nat×ChSt×Gl 9 1×(Option Addr×Nat×Nat)//H₁.le y.1∧y.2.1≤can.length∧(can.drop y.2.1).foldl (canStep can w d l sum) y.2.2.1=can.foldl (canStep can w d l sum) (⟨false,total,best⟩:ChSt)∧(y.2.2.2.1.blk=g.blk∧y.2.2.2.1.n=g.n∧y.2.2.2.1.cap=g.cap∧y.2.2.2.1.l=g.l)∧(y.2.2.2.2.2.1=y.2.2.1.best.length∧SrcAt y.1 1 (numV y.2.2.2.2.1 y.2.2.2.2.2.1 y.2.2.2.2.2.2) y.2.2.2.2.2.1 (strsV y.2.2.1.best)) })
         (fun y=> (y.1.1,[(0,g.val),(1,.int .i64 sum),(2,.pointer (some ⟨b8,0,none⟩)),(3,.pointer (some ⟨b7,0,none⟩)),(4,.pointer (some ⟨b3,0,none⟩)),(5,.pointer (some ⟨b6,0,none⟩)),(6,.pointer (some ⟨b9,0,none⟩)),(7,.pointer (some ⟨b11,0,none⟩)),(27,.slice cA can.length cc),(28,.int .i64 (can.length:Nat)),(29,.int .i64 (y.1.2.1:Nat))],[(b8,true,.cells ⟨[.int .i64 y.1.2.2.1.al]⟩ 29 (0,0)),(b7,true,.cells ⟨[.int .i64 y.1.2.2.1.total]⟩ 3 (0,0)),(b6,true,.cells ⟨[numV y.1.2.2.2.2.1 y.1.2.2.2.2.2.1 y.1.2.2.2.2.2.2]⟩ 33 (0,0))]++y.1.2.2.2.1.bl)) (fun y=> can.length-y.1.2.1) ?_ ⟨(H₁,0,(⟨false,total,best⟩:ChSt),g,(a,n,c')),View.le_refl _,Nat.zero_le _,rfl,⟨rfl,rfl,rfl,rfl⟩,hn,hsrc⟩)
       rintro⟨⟨H₂,i,st,g2,a2,n2,c2'⟩,p1,p2,p3,p4,p5,p6⟩ ih;simp only at p1 p2 p3 p4 p5 p6;show Tc M St _ _ H₂ _ [(0,g.val),(1,.int .i64 sum),(2,.pointer (some ⟨b8,0,none⟩)),(3,.pointer (some ⟨b7,0,none⟩)),(4,.pointer (some ⟨b3,0,none⟩)),(5,.pointer (some ⟨b6,0,none⟩)),(6,.pointer (some ⟨b9,0,none⟩)),(7,.pointer (some ⟨b11,0,none⟩)),(27,.slice cA can.length cc),(28,.int .i64 (can.length:Nat)),(29,.int .i64 (i:Nat))] ([(b8,true,.cells ⟨[.int .i64 st.al]⟩ 29 (0,0)),(b7,true,.cells ⟨[.int .i64 st.total]⟩ 3 (0,0)),(b6,true,.cells ⟨[numV a2 n2 c2']⟩ 33 (0,0))]++g2.bl) _ _;by_cases d1:i=can.length
       · have e:can.foldl (canStep can w d l sum) (⟨false,total,best⟩:ChSt)=st:=by rw[←p3,d1,List.drop_length];rfl
         rw[e] at hK;subst d1;(iterate 7 refine U ?_);refine Tc.overN (E:=en) hK Tryz.func123 Tryz.results123 (vs:= []) (by exact trivial) ?_;exact fun H' hs=> ⟨rfl,H₂,g2,a2,n2,c2',p1,hs,p4,p5,p6⟩
       · have d2:i<can.length:=by omega
         obtain⟨s,hs0⟩:∃s,can[i]? =some s:=⟨_,List.getElem?_eq_getElem d2⟩
         have hsm:=hcn s (List.mem_of_getElem? hs0);have htk:=takenN_le s hsm.1;obtain h0|⟨cb,co,fcb,cgs,cgt,cgz,rfl,hcb,hcl⟩:=hcs
         · omega
         have f1:=hcl i d2;simp only[hs0,Option.getD_some] at f1;have hcb2:=p1 _ _ hcb;rw[foldl_at _ _ _ _ hs0] at p3;have hgv:=Gl.val_of p4;have hnear:=fun(H':View) (bx:Nat) (fx:Bool) (hg2:∀x∈g2.bl,H' x.1=some x.2) (hbx:H' bx=some (fx,.cells ⟨[strV s]⟩ 9 (0,0)))=> ContainsS_c M H' (g.blk.map fun b=> ⟨b,0,none⟩) g.n g.cap (fun j=> l[j]?.getD []) (strs_of g2 hg2 (p4.2.2.2.trans hg) (p4.2.1) p4.1) (by omega) (.func (.func 126) #[] #[.pointer (some ⟨bx,0,none⟩)]) (fun j=> clash1 (l[j]?.getD []) s) (fun j _ H'' h''=> FnT.of (first:= []) (captured:= [_]) ca126 rfl (near_c M H'' s bx fx (h'' _ _ hbx) (l[j]?.getD [])));have hnl:(firstTo (fun j=> clash1 (l[j]?.getD []) s) g.n).isSome=nearL l s:=by unfold nearL;rw[hgn]
         cases hq:nearL l s with
         | true=>
           have e3:canStep can w d l sum st s=st:=by unfold canStep;rw[if_pos hq]
           rw[e3] at p3;rw[hq] at hnl;(iterate 13 refine U ?_);refine .e (.al (zz:=fun bx=> ?_));refine .e (.st 0 (zz:=?_));(iterate 6 refine U ?_);refine .c rfl rfl rfl rfl (fun H hs=> .f ca125 rfl (isB (hnear H bx true (fun x hx=> hs.at_ x (List.mem_cons_of_mem _ (List.mem_append_right _ hx))) (hs.get (i:=0) rfl)) hnl)) ?_;(iterate 7 refine U ?_);exact Tc.db (ih ⟨(H₂,i+1,st,g2,(a2,n2,c2')),p1,by simp only;omega,p3,p4,p5,p6⟩ (by simp only;omega))
         | false=>
           have e3:canStep can w d l sum st s=cheapGo can w d (l++[s]) (sum+w l.length*(takenN s:Nat)) st:=by unfold canStep;rw[if_neg (by rw[hq];decide)]
           rw[e3] at p3;rw[hq] at hnl;have hwl:=hw l.length (by omega);have hmul0:0≤w l.length*(takenN s:Nat)∧w l.length*(takenN s:Nat)≤2970:=wmul hwl (by omega);have hcap2:=hcap0.le p1;obtain⟨⟨ff2,hf2⟩,⟨fc2,hc2⟩,⟨fg2,hgw2⟩,_,hws2⟩:=hcap2;obtain h0|⟨wb,wo,fwb,wgs,wgt,wgz,rfl,hwb,hwl2⟩:=hws2
           · omega
           have f2:=hwl2 l.length (by omega);rw[←hgn] at f2;have f3:intBin .mul .i64 (w g.n) (takenN s:Nat)=some (.int .i64 (w l.length*(takenN s:Nat))):=by rw[hgn];exact mul_in (by omega) (by omega)
           have f4:intBin .add .i64 sum (w l.length*(takenN s:Nat))=some (.int .i64 (sum+w l.length*(takenN s:Nat))):=add_in (by omega) (by omega);(iterate 13 refine U ?_);refine .e (.al (zz:=fun bx=> ?_));refine .e (.st 0 (zz:=?_));(iterate 6 refine U ?_);refine .c rfl rfl rfl rfl (fun H hs=> .f ca125 rfl (isB (hnear H bx true (fun x hx=> hs.at_ x (List.mem_cons_of_mem _ (List.mem_append_right _ hx))) (hs.get (i:=0) rfl)) hnl)) ?_;(iterate 3 refine U ?_);refine Tc.drT [4] [15] [] 4 mixed rfl ?_;refine Ta.tkwC 0 (by kernel_rfl) rfl rfl rfl (by decide) rfl rfl (OpV.take .l0) ?_;refine Ta.tkC 1 (by kernel_rfl) rfl rfl (by decide) rfl rfl (OpV.take .mv) ?_;refine Ta.tkC 2 (by kernel_rfl) rfl rfl (by decide) rfl rfl (OpV.take (.ld 0)) ?_;refine Ta.tkwC 5 (by kernel_rfl) rfl rfl rfl (by decide) rfl rfl (OpV.take .mv) ?_;refine Ta.tkwC 6 (by kernel_rfl) rfl rfl rfl (by decide) rfl rfl (OpV.take .l0) ?_;refine Ta.tkwC 7 (by kernel_rfl) rfl rfl rfl (by decide) rfl rfl (OpV.take .mv) ?_;refine Ta.tkwC 8 (by kernel_rfl) rfl rfl rfl (by decide) rfl rfl (OpV.take .ln) ?_;refine Ta.tkwC 9 (by kernel_rfl) rfl rfl rfl (by decide) rfl rfl (OpV.take .ia) ?_;refine Ta.tkwC 10 (by kernel_rfl) rfl rfl rfl (by decide) rfl rfl (OpV.take .l0) ?_;refine Ta.tkwC 11 (by kernel_rfl) rfl rfl rfl (by decide) rfl rfl (OpV.take (.ld 0)) ?_;refine Ta.each [3] (by kernel_rfl) rfl ⟨TaOp.mk rfl rfl rfl (.bs (zz:=fun bs=> ⟨S3.mk (by apply List.Sublist.cons;exact List.sublist_append_left _ _) (.inr (by apply List.Sublist.cons;exact List.Sublist.refl _)),?_⟩)),trivial⟩;refine Ta.each [4] (by kernel_rfl) rfl ⟨TaOp.mk rfl rfl rfl (Or.appendK (E:=en) (g:=g2) (m:=1) (new:= [strV s]) (yv:=.slice (some ⟨bs,0,none⟩) 1 1) 5 rfl rfl rfl rfl (by rw[hgv];rfl) rfl rfl rfl rfl rfl rfl rfl rfl rfl rfl (fun H hs=> SrcAt.of (hs.get (i:=0) rfl) (Nat.le_of_ble_eq_true rfl)) rfl (by omega) rfl (by decide) (fun g3 hn3 hl3 hb3 hc3=> ⟨S3.mk (by apply List.Sublist.cons;exact List.sublist_append_left _ _) (.inl (by kernel_rfl)),?_⟩) (fun g3 hn3 hl3=> ⟨S3.mk (by apply List.Sublist.cons;exact List.sublist_append_left _ _) (.inl (by kernel_rfl)),?_⟩)),trivial⟩
           · refine Ta.tkwC 12 (by kernel_rfl) rfl rfl rfl (by decide) rfl rfl (OpV.takeCall rfl rfl rfl rfl (fun H hs=> .f ca128 rfl (taken_c M H s hsm.1 (by omega)))) ?_;refine Ta.tkwC 13 (by kernel_rfl) rfl rfl rfl (by decide) rfl rfl (OpV.take (.it (zz:=(by assumption)))) ?_;refine Ta.tkwC 14 (by kernel_rfl) rfl rfl rfl (by decide) rfl rfl (OpV.take (.it (zz:=(by assumption)))) ?_;refine Ta.lift (L₂:= [(bs,true,.cells ⟨[strV s]⟩ 9 (0,0)),(bx,true,.cells ⟨[strV s]⟩ 9 (0,0))]) (L₁:= [(b8,true,.cells ⟨[.int .i64 st.al]⟩ 29 (0,0)),(b7,true,.cells ⟨[.int .i64 st.total]⟩ 3 (0,0)),(b6,true,.cells ⟨[numV a2 n2 c2']⟩ 33 (0,0))]++g3.bl) rfl (fun Hx hx=> ?_);refine Ta.callF 15 (by kernel_rfl) rfl (by kernel_rfl) rfl rfl rfl rfl rfl rfl (by decide) (FnT.of (first:= []) (captured:= [_,_,_,_,_,_]) ca123 rfl (ihd g3 (l++[s]) _ st a2 n2 c2' H₂ Hx (by rw[hl3,p4.2.2.2,hg,strsV_app];rfl) (by rw[List.length_append];show l.length+1+d=nw;omega) (by rw[List.length_append];show _∧_≤3000*((l.length+1:Nat):Int);omega) (hcap0.le p1) p5 p6 hx)) (fun v H₃ hv=> ?_);obtain⟨_,H₄,g4,a4,n4,c4,r1,r2,r3,r4,r5⟩:=hv;refine Ta.expand r2 ?_;unfold stB;refine Ta.done (by kernel_rfl) ?_;(iterate 5 refine U ?_);obtain⟨g5,s1,s2,s3,s4,s5⟩:=Gl.back (g:=g2) (g':=g4) [strV s] (r3.1.trans hb3) (by rw[r3.2.1,hn3];rfl) (by rw[r3.2.2.1,hc3]) (by rw[r3.2.2.2,hl3]);rw[←s5];exact Tc.db (ih ⟨(H₄,i+1,_,g5,(a4,n4,c4)),View.le_trans p1 r1,by simp only;omega,p3,⟨s1.trans p4.1,s2.trans p4.2.1,s3.trans p4.2.2.1,s4.trans p4.2.2.2⟩,r4,r5⟩ (by simp only;omega))
           · refine Ta.permL (L₁:=([(bs,true,.cells ⟨[strV s]⟩ 9 (0,0)),(bx,true,.cells ⟨[strV s]⟩ 9 (0,0))]++g2.bl)++([(b8,true,.cells ⟨[.int .i64 st.al]⟩ 29 (0,0)),(b7,true,.cells ⟨[.int .i64 st.total]⟩ 3 (0,0)),(b6,true,.cells ⟨[numV a2 n2 c2']⟩ 33 (0,0))]++g3.bl)) ?_ ?_
             · simp only[List.cons_append,List.nil_append];refine .cons _ (.cons _ ?_);exact perm3 g2.bl _ _ _ g3.bl
             · refine Ta.tkwC 12 (by kernel_rfl) rfl rfl rfl (by decide) rfl rfl (OpV.takeCall rfl rfl rfl rfl (fun H hs=> .f ca128 rfl (taken_c M H s hsm.1 (by omega)))) ?_;refine Ta.tkwC 13 (by kernel_rfl) rfl rfl rfl (by decide) rfl rfl (OpV.take (.it (zz:=(by assumption)))) ?_;refine Ta.tkwC 14 (by kernel_rfl) rfl rfl rfl (by decide) rfl rfl (OpV.take (.it (zz:=(by assumption)))) ?_;refine Ta.lift (L₂:= [(bs,true,.cells ⟨[strV s]⟩ 9 (0,0)),(bx,true,.cells ⟨[strV s]⟩ 9 (0,0))]++g2.bl) (L₁:= [(b8,true,.cells ⟨[.int .i64 st.al]⟩ 29 (0,0)),(b7,true,.cells ⟨[.int .i64 st.total]⟩ 3 (0,0)),(b6,true,.cells ⟨[numV a2 n2 c2']⟩ 33 (0,0))]++g3.bl) rfl (fun Hx hx=> ?_);refine Ta.callF 15 (by kernel_rfl) rfl (by kernel_rfl) rfl rfl rfl rfl rfl rfl (by decide) (FnT.of (first:= []) (captured:= [_,_,_,_,_,_]) ca123 rfl (ihd g3 (l++[s]) _ st a2 n2 c2' H₂ Hx (by rw[hl3,p4.2.2.2,hg,strsV_app];rfl) (by rw[List.length_append];show l.length+1+d=nw;omega) (by rw[List.length_append];show _∧_≤3000*((l.length+1:Nat):Int);omega) (hcap0.le p1) p5 p6 hx)) (fun v H₃ hv=> ?_);obtain⟨_,H₄,g4,a4,n4,c4,r1,r2,r3,r4,r5⟩:=hv;refine Ta.expand r2 ?_;unfold stB;refine Ta.done (by kernel_rfl) ?_;(iterate 5 refine U ?_);have hfin:=ih ⟨(H₄,i+1,_,g2,(a4,n4,c4)),View.le_trans p1 r1,by simp only;omega,p3,p4,r4,r5⟩ (by simp only;omega);refine Tc.permL (perm4 _ _ g2.bl _ _ _ g4.bl) ?_;exact Tc.db hfin
     | true=>
       have c2:intBin .geq .i64 sum (ChSt.mk true total best).total=some (.bool false):=geq_f (Int.lt_of_not_ge fun h=> c1 ⟨rfl,h⟩);refine CallT.enter (vs:= [g.val,.int .i64 sum,ptr b8,ptr b7,ptr b3,ptr b6,ptr b9,ptr b11]) Tryz.func123 rfl Tryz.ntmps123 (Nat.le_of_ble_eq_true rfl) (hsy) fun St c cs hK=> ?_;unfold stB ptr;(iterate 31 refine U ?_);refine Tc.db (Tc.loopB (σ:= { y:View×Nat×ChSt×Gl 9 1×(Option Addr×Nat×Nat)//H₁.le y.1∧y.2.1≤can.length∧(can.drop y.2.1).foldl (canStep can w d l sum) y.2.2.1=can.foldl (canStep can w d l sum) (⟨true,total,best⟩:ChSt)∧(y.2.2.2.1.blk=g.blk∧y.2.2.2.1.n=g.n∧y.2.2.2.1.cap=g.cap∧y.2.2.2.1.l=g.l)∧(y.2.2.2.2.2.1=y.2.2.1.best.length∧SrcAt y.1 1 (numV y.2.2.2.2.1 y.2.2.2.2.2.1 y.2.2.2.2.2.2) y.2.2.2.2.2.1 (strsV y.2.2.1.best)) })
         (fun y=> (y.1.1,[(0,g.val),(1,.int .i64 sum),(2,.pointer (some ⟨b8,0,none⟩)),(3,.pointer (some ⟨b7,0,none⟩)),(4,.pointer (some ⟨b3,0,none⟩)),(5,.pointer (some ⟨b6,0,none⟩)),(6,.pointer (some ⟨b9,0,none⟩)),(7,.pointer (some ⟨b11,0,none⟩)),(27,.slice cA can.length cc),(28,.int .i64 (can.length:Nat)),(29,.int .i64 (y.1.2.1:Nat))],[(b8,true,.cells ⟨[.int .i64 y.1.2.2.1.al]⟩ 29 (0,0)),(b7,true,.cells ⟨[.int .i64 y.1.2.2.1.total]⟩ 3 (0,0)),(b6,true,.cells ⟨[numV y.1.2.2.2.2.1 y.1.2.2.2.2.2.1 y.1.2.2.2.2.2.2]⟩ 33 (0,0))]++y.1.2.2.2.1.bl)) (fun y=> can.length-y.1.2.1) ?_ ⟨(H₁,0,(⟨true,total,best⟩:ChSt),g,(a,n,c')),View.le_refl _,Nat.zero_le _,rfl,⟨rfl,rfl,rfl,rfl⟩,hn,hsrc⟩)
       rintro⟨⟨H₂,i,st,g2,a2,n2,c2'⟩,p1,p2,p3,p4,p5,p6⟩ ih;simp only at p1 p2 p3 p4 p5 p6;show Tc M St _ _ H₂ _ [(0,g.val),(1,.int .i64 sum),(2,.pointer (some ⟨b8,0,none⟩)),(3,.pointer (some ⟨b7,0,none⟩)),(4,.pointer (some ⟨b3,0,none⟩)),(5,.pointer (some ⟨b6,0,none⟩)),(6,.pointer (some ⟨b9,0,none⟩)),(7,.pointer (some ⟨b11,0,none⟩)),(27,.slice cA can.length cc),(28,.int .i64 (can.length:Nat)),(29,.int .i64 (i:Nat))] ([(b8,true,.cells ⟨[.int .i64 st.al]⟩ 29 (0,0)),(b7,true,.cells ⟨[.int .i64 st.total]⟩ 3 (0,0)),(b6,true,.cells ⟨[numV a2 n2 c2']⟩ 33 (0,0))]++g2.bl) _ _;by_cases d1:i=can.length
       · have e:can.foldl (canStep can w d l sum) (⟨true,total,best⟩:ChSt)=st:=by rw[←p3,d1,List.drop_length];rfl
         rw[e] at hK;subst d1;(iterate 7 refine U ?_);refine Tc.overN (E:=en) hK Tryz.func123 Tryz.results123 (vs:= []) (by exact trivial) ?_;exact fun H' hs=> ⟨rfl,H₂,g2,a2,n2,c2',p1,hs,p4,p5,p6⟩
       · have d2:i<can.length:=by omega
         obtain⟨s,hs0⟩:∃s,can[i]? =some s:=⟨_,List.getElem?_eq_getElem d2⟩
         have hsm:=hcn s (List.mem_of_getElem? hs0);have htk:=takenN_le s hsm.1;obtain h0|⟨cb,co,fcb,cgs,cgt,cgz,rfl,hcb,hcl⟩:=hcs
         · omega
         have f1:=hcl i d2;simp only[hs0,Option.getD_some] at f1;have hcb2:=p1 _ _ hcb;rw[foldl_at _ _ _ _ hs0] at p3;have hgv:=Gl.val_of p4;have hnear:=fun(H':View) (bx:Nat) (fx:Bool) (hg2:∀x∈g2.bl,H' x.1=some x.2) (hbx:H' bx=some (fx,.cells ⟨[strV s]⟩ 9 (0,0)))=> ContainsS_c M H' (g.blk.map fun b=> ⟨b,0,none⟩) g.n g.cap (fun j=> l[j]?.getD []) (strs_of g2 hg2 (p4.2.2.2.trans hg) (p4.2.1) p4.1) (by omega) (.func (.func 126) #[] #[.pointer (some ⟨bx,0,none⟩)]) (fun j=> clash1 (l[j]?.getD []) s) (fun j _ H'' h''=> FnT.of (first:= []) (captured:= [_]) ca126 rfl (near_c M H'' s bx fx (h'' _ _ hbx) (l[j]?.getD [])));have hnl:(firstTo (fun j=> clash1 (l[j]?.getD []) s) g.n).isSome=nearL l s:=by unfold nearL;rw[hgn]
         cases hq:nearL l s with
         | true=>
           have e3:canStep can w d l sum st s=st:=by unfold canStep;rw[if_pos hq]
           rw[e3] at p3;rw[hq] at hnl;(iterate 13 refine U ?_);refine .e (.al (zz:=fun bx=> ?_));refine .e (.st 0 (zz:=?_));(iterate 6 refine U ?_);refine .c rfl rfl rfl rfl (fun H hs=> .f ca125 rfl (isB (hnear H bx true (fun x hx=> hs.at_ x (List.mem_cons_of_mem _ (List.mem_append_right _ hx))) (hs.get (i:=0) rfl)) hnl)) ?_;(iterate 7 refine U ?_);exact Tc.db (ih ⟨(H₂,i+1,st,g2,(a2,n2,c2')),p1,by simp only;omega,p3,p4,p5,p6⟩ (by simp only;omega))
         | false=>
           have e3:canStep can w d l sum st s=cheapGo can w d (l++[s]) (sum+w l.length*(takenN s:Nat)) st:=by unfold canStep;rw[if_neg (by rw[hq];decide)]
           rw[e3] at p3;rw[hq] at hnl;have hwl:=hw l.length (by omega);have hmul0:0≤w l.length*(takenN s:Nat)∧w l.length*(takenN s:Nat)≤2970:=wmul hwl (by omega);have hcap2:=hcap0.le p1;obtain⟨⟨ff2,hf2⟩,⟨fc2,hc2⟩,⟨fg2,hgw2⟩,_,hws2⟩:=hcap2;obtain h0|⟨wb,wo,fwb,wgs,wgt,wgz,rfl,hwb,hwl2⟩:=hws2
           · omega
           have f2:=hwl2 l.length (by omega);rw[←hgn] at f2;have f3:intBin .mul .i64 (w g.n) (takenN s:Nat)=some (.int .i64 (w l.length*(takenN s:Nat))):=by rw[hgn];exact mul_in (by omega) (by omega)
           have f4:intBin .add .i64 sum (w l.length*(takenN s:Nat))=some (.int .i64 (sum+w l.length*(takenN s:Nat))):=add_in (by omega) (by omega);(iterate 13 refine U ?_);refine .e (.al (zz:=fun bx=> ?_));refine .e (.st 0 (zz:=?_));(iterate 6 refine U ?_);refine .c rfl rfl rfl rfl (fun H hs=> .f ca125 rfl (isB (hnear H bx true (fun x hx=> hs.at_ x (List.mem_cons_of_mem _ (List.mem_append_right _ hx))) (hs.get (i:=0) rfl)) hnl)) ?_;(iterate 3 refine U ?_);refine Tc.drT [4] [15] [] 4 mixed rfl ?_;refine Ta.tkwC 0 (by kernel_rfl) rfl rfl rfl (by decide) rfl rfl (OpV.take .l0) ?_;refine Ta.tkC 1 (by kernel_rfl) rfl rfl (by decide) rfl rfl (OpV.take .mv) ?_;refine Ta.tkC 2 (by kernel_rfl) rfl rfl (by decide) rfl rfl (OpV.take (.ld 0)) ?_;refine Ta.tkwC 5 (by kernel_rfl) rfl rfl rfl (by decide) rfl rfl (OpV.take .mv) ?_;refine Ta.tkwC 6 (by kernel_rfl) rfl rfl rfl (by decide) rfl rfl (OpV.take .l0) ?_;refine Ta.tkwC 7 (by kernel_rfl) rfl rfl rfl (by decide) rfl rfl (OpV.take .mv) ?_;refine Ta.tkwC 8 (by kernel_rfl) rfl rfl rfl (by decide) rfl rfl (OpV.take .ln) ?_;refine Ta.tkwC 9 (by kernel_rfl) rfl rfl rfl (by decide) rfl rfl (OpV.take .ia) ?_;refine Ta.tkwC 10 (by kernel_rfl) rfl rfl rfl (by decide) rfl rfl (OpV.take .l0) ?_;refine Ta.tkwC 11 (by kernel_rfl) rfl rfl rfl (by decide) rfl rfl (OpV.take (.ld 0)) ?_;refine Ta.each [3] (by kernel_rfl) rfl ⟨TaOp.mk rfl rfl rfl (.bs (zz:=fun bs=> ⟨S3.mk (by apply List.Sublist.cons;exact List.sublist_append_left _ _) (.inr (by apply List.Sublist.cons;exact List.Sublist.refl _)),?_⟩)),trivial⟩;refine Ta.each [4] (by kernel_rfl) rfl ⟨TaOp.mk rfl rfl rfl (Or.appendK (E:=en) (g:=g2) (m:=1) (new:= [strV s]) (yv:=.slice (some ⟨bs,0,none⟩) 1 1) 5 rfl rfl rfl rfl (by rw[hgv];rfl) rfl rfl rfl rfl rfl rfl rfl rfl rfl rfl (fun H hs=> SrcAt.of (hs.get (i:=0) rfl) (Nat.le_of_ble_eq_true rfl)) rfl (by omega) rfl (by decide) (fun g3 hn3 hl3 hb3 hc3=> ⟨S3.mk (by apply List.Sublist.cons;exact List.sublist_append_left _ _) (.inl (by kernel_rfl)),?_⟩) (fun g3 hn3 hl3=> ⟨S3.mk (by apply List.Sublist.cons;exact List.sublist_append_left _ _) (.inl (by kernel_rfl)),?_⟩)),trivial⟩
           · refine Ta.tkwC 12 (by kernel_rfl) rfl rfl rfl (by decide) rfl rfl (OpV.takeCall rfl rfl rfl rfl (fun H hs=> .f ca128 rfl (taken_c M H s hsm.1 (by omega)))) ?_;refine Ta.tkwC 13 (by kernel_rfl) rfl rfl rfl (by decide) rfl rfl (OpV.take (.it (zz:=(by assumption)))) ?_;refine Ta.tkwC 14 (by kernel_rfl) rfl rfl rfl (by decide) rfl rfl (OpV.take (.it (zz:=(by assumption)))) ?_;refine Ta.lift (L₂:= [(bs,true,.cells ⟨[strV s]⟩ 9 (0,0)),(bx,true,.cells ⟨[strV s]⟩ 9 (0,0))]) (L₁:= [(b8,true,.cells ⟨[.int .i64 st.al]⟩ 29 (0,0)),(b7,true,.cells ⟨[.int .i64 st.total]⟩ 3 (0,0)),(b6,true,.cells ⟨[numV a2 n2 c2']⟩ 33 (0,0))]++g3.bl) rfl (fun Hx hx=> ?_);refine Ta.callF 15 (by kernel_rfl) rfl (by kernel_rfl) rfl rfl rfl rfl rfl rfl (by decide) (FnT.of (first:= []) (captured:= [_,_,_,_,_,_]) ca123 rfl (ihd g3 (l++[s]) _ st a2 n2 c2' H₂ Hx (by rw[hl3,p4.2.2.2,hg,strsV_app];rfl) (by rw[List.length_append];show l.length+1+d=nw;omega) (by rw[List.length_append];show _∧_≤3000*((l.length+1:Nat):Int);omega) (hcap0.le p1) p5 p6 hx)) (fun v H₃ hv=> ?_);obtain⟨_,H₄,g4,a4,n4,c4,r1,r2,r3,r4,r5⟩:=hv;refine Ta.expand r2 ?_;unfold stB;refine Ta.done (by kernel_rfl) ?_;(iterate 5 refine U ?_);obtain⟨g5,s1,s2,s3,s4,s5⟩:=Gl.back (g:=g2) (g':=g4) [strV s] (r3.1.trans hb3) (by rw[r3.2.1,hn3];rfl) (by rw[r3.2.2.1,hc3]) (by rw[r3.2.2.2,hl3]);rw[←s5];exact Tc.db (ih ⟨(H₄,i+1,_,g5,(a4,n4,c4)),View.le_trans p1 r1,by simp only;omega,p3,⟨s1.trans p4.1,s2.trans p4.2.1,s3.trans p4.2.2.1,s4.trans p4.2.2.2⟩,r4,r5⟩ (by simp only;omega))
           · refine Ta.permL (L₁:=([(bs,true,.cells ⟨[strV s]⟩ 9 (0,0)),(bx,true,.cells ⟨[strV s]⟩ 9 (0,0))]++g2.bl)++([(b8,true,.cells ⟨[.int .i64 st.al]⟩ 29 (0,0)),(b7,true,.cells ⟨[.int .i64 st.total]⟩ 3 (0,0)),(b6,true,.cells ⟨[numV a2 n2 c2']⟩ 33 (0,0))]++g3.bl)) ?_ ?_
             · simp only[List.cons_append,List.nil_append];refine .cons _ (.cons _ ?_);exact perm3 g2.bl _ _ _ g3.bl
             · refine Ta.tkwC 12 (by kernel_rfl) rfl rfl rfl (by decide) rfl rfl (OpV.takeCall rfl rfl rfl rfl (fun H hs=> .f ca128 rfl (taken_c M H s hsm.1 (by omega)))) ?_;refine Ta.tkwC 13 (by kernel_rfl) rfl rfl rfl (by decide) rfl rfl (OpV.take (.it (zz:=(by assumption)))) ?_;refine Ta.tkwC 14 (by kernel_rfl) rfl rfl rfl (by decide) rfl rfl (OpV.take (.it (zz:=(by assumption)))) ?_;refine Ta.lift (L₂:= [(bs,true,.cells ⟨[strV s]⟩ 9 (0,0)),(bx,true,.cells ⟨[strV s]⟩ 9 (0,0))]++g2.bl) (L₁:= [(b8,true,.cells ⟨[.int .i64 st.al]⟩ 29 (0,0)),(b7,true,.cells ⟨[.int .i64 st.total]⟩ 3 (0,0)),(b6,true,.cells ⟨[numV a2 n2 c2']⟩ 33 (0,0))]++g3.bl) rfl (fun Hx hx=> ?_);refine Ta.callF 15 (by kernel_rfl) rfl (by kernel_rfl) rfl rfl rfl rfl rfl rfl (by decide) (FnT.of (first:= []) (captured:= [_,_,_,_,_,_]) ca123 rfl (ihd g3 (l++[s]) _ st a2 n2 c2' H₂ Hx (by rw[hl3,p4.2.2.2,hg,strsV_app];rfl) (by rw[List.length_append];show l.length+1+d=nw;omega) (by rw[List.length_append];show _∧_≤3000*((l.length+1:Nat):Int);omega) (hcap0.le p1) p5 p6 hx)) (fun v H₃ hv=> ?_);obtain⟨_,H₄,g4,a4,n4,c4,r1,r2,r3,r4,r5⟩:=hv;refine Ta.expand r2 ?_;unfold stB;refine Ta.done (by kernel_rfl) ?_;(iterate 5 refine U ?_);have hfin:=ih ⟨(H₄,i+1,_,g2,(a4,n4,c4)),View.le_trans p1 r1,by simp only;omega,p3,p4,r4,r5⟩ (by simp only;omega);refine Tc.permL (perm4 _ _ g2.bl _ _ _ g4.bl) ?_;exact Tc.db hfin
end
end Go.Proofs.YtdnfdeplcjaonaaGreatDoor
