/-
  Narrower bands: the laws, and the parts that the statement is made of.
-/
import Derived.Test.YtpdaenfglbgfkaaGreatDoorX09
namespace Go.Proofs.YtpdaenfglbgfkaaGreatDoor
open Go.RL
set_option maxRecDepth 10000
set_option maxHeartbeats 4000000
theorem Lk.canRead_within {o k:Lk}(ho:o.ok=true)(hk:k.ok=true)(h:o.Within k){c n:Nat}(hc:c<32)(hr:o.canRead c n=true):k.canRead c n=true:=
 Lk.sees_within (Lk.ok_in ho).2.1.1 (Lk.ok_in hk).2.1.1 h hc hr
theorem Lk.refused_of {k:Lk}(hk:k.ok=true){c:Nat}(hc:c<32)(h:∀n,n<32→k.canRead c n=false):k.refused c=1:=by
 obtain⟨h1,h2,h3,h4⟩:=Lk.ok_in hk
 obtain⟨v,hv⟩:=Lk.sees_some h2.1 h1.2.1 h2.2.1 h3.2.1 h4.2.1 hc
 obtain⟨a,r,n,mv,_,e⟩:=(Lk.sees_iff h2.1 hc).1 hv
 have hlt:v<128:=e▸pastView_lt c a r n mv
 have hb:k.bad c=true:=by
   refine Lk.bad_iff.2 ⟨v,hlt,hv,?_⟩
   cases hr:readN v with
   | none=> rfl
   | some m=>
     obtain⟨g1,g2⟩:=readN_see hlt hv hr
     rw[h m g1] at g2
     cases g2
 unfold Lk.refused
 rw[hb,if_pos rfl,if_pos (keepI_empty.2 h)]
theorem Lk.refused_within {o k:Lk}(ho:o.ok=true)(hk:k.ok=true)(h:o.Within k){c:Nat}(hc:c<32)(hr:k.refused c≠0):o.refused c=k.refused c:=by
 rcases Lk.refused_in (k:=k) (c:=c) with e|e|e
 · exact absurd e hr
 · rw[e]
   refine Lk.refused_of ho hc fun n hn=> ?_
   have h1:=Lk.refused_one e n hn
   cases h2:o.canRead c n with
   | false=> rfl
   | true=> rw[Lk.canRead_within ho hk h hc h2] at h1;cases h1
 · rw[e]
   have h1:=Lk.refused_two.1 e
   refine Lk.refused_two.2 ?_
   cases h2:o.bad c with
   | false=> rfl
   | true=>
     obtain⟨v,g1,g2,g3⟩:=Lk.bad_iff.1 h2
     rw[Lk.bad_iff.2 ⟨v,g1,Lk.sees_within (Lk.ok_in ho).2.1.1 (Lk.ok_in hk).2.1.1 h hc g2,g3⟩] at h1
     cases h1
theorem Lk.margin_within {o k:Lk}(ho:o.ok=true)(hk:k.ok=true)(h:o.Within k):k.margin≤o.margin:=by
 have h1:=Lk.margin_in (k:=k)
 have h2:=Lk.margin_in (k:=o)
 by_cases h3:k.margin<0
 · omega
 · have h4:=(Lk.margin_iff hk (m:=k.margin) (by omega) h1.2).1 (Int.le_refl _)
   refine(Lk.margin_iff ho (m:=k.margin) (by omega) h1.2).2 ?_
   exact Lk.sure_within (k:=k.mv k.margin) (o:=o.mv k.margin) (Lk.ok_in ho).2.1.1 (Lk.ok_in hk).2.1.1 ⟨h.s,h.r,h.l,⟨Int.le_refl _,Int.le_refl _⟩⟩ h4
theorem Lk.good_within {o k:Lk}(h:o.Within k){r:Nat}(hr:k.good r=true):o.good r=true:=by
 unfold Lk.good at hr ⊢
 rw[Bool.and_eq_true,decide_eq_true_iff,Option.isNone_iff_eq_none,Lk.weak_none] at hr ⊢
 refine⟨hr.1,Lk.sure_within (k:=k.at r) (o:=o.at r) ?_ ?_ ⟨h.s,⟨Int.le_refl _,Int.le_refl _⟩,h.l,h.m⟩ hr.2⟩
 all_goals
   show(1:Int)≤(r:Nat)
   have:=hr.1
   omega
theorem keepI_sub {p q:Nat→Bool}{n:Nat}(h:∀i,i<n→p i=true→q i=true):∀x∈keepI p n,x∈keepI q n:=fun x hx=> by
 unfold keepI at hx
 obtain⟨i,hi,rfl⟩:=List.mem_map.1 hx
 obtain⟨h1,h2⟩:=List.mem_filter.1 hi
 have h3:=List.mem_range.1 h1
 exact keepI_mem.2 ⟨h3,h i h3 h2⟩
def partB(a b f w:Int):Int:=pickF a b f+w%(b-pickF a b f+1)
theorem part_in {a b f w:Int}(h:a≤b):a≤pickF a b f∧pickF a b f≤partB a b f w∧partB a b f w≤b:=by
 obtain⟨h1,h2⟩:=pick_in (n:=f) h
 have h3:=Int.emod_nonneg w (show b-pickF a b f+1≠0 by omega)
 have h4:=Int.emod_lt_of_pos w (show 0<b-pickF a b f+1 by omega)
 unfold partB
 omega
def Lk.part(k:Lk)(l:List Int):Lk:=
 ⟨pickF k.s0 k.s1 (l[0]?.getD 0),partB k.s0 k.s1 (l[0]?.getD 0) (l[1]?.getD 0),pickF k.r0 k.r1 (l[2]?.getD 0),partB k.r0 k.r1 (l[2]?.getD 0) (l[3]?.getD 0),
  pickF k.l0 k.l1 (l[4]?.getD 0),partB k.l0 k.l1 (l[4]?.getD 0) (l[5]?.getD 0),pickF k.m0 k.m1 (l[6]?.getD 0),partB k.m0 k.m1 (l[6]?.getD 0) (l[7]?.getD 0)⟩
theorem Lk.part_within {k:Lk}(hk:k.ok=true)(l:List Int):(k.part l).Within k∧(k.part l).ok=true:=by
 obtain⟨h1,h2,h3,h4⟩:=Lk.ok_in hk
 have g1:=part_in (f:=l[0]?.getD 0) (w:=l[1]?.getD 0) h1.2.1
 have g2:=part_in (f:=l[2]?.getD 0) (w:=l[3]?.getD 0) h2.2.1
 have g3:=part_in (f:=l[4]?.getD 0) (w:=l[5]?.getD 0) h3.2.1
 have g4:=part_in (f:=l[6]?.getD 0) (w:=l[7]?.getD 0) h4.2.1
 refine⟨⟨⟨g1.1,g1.2.2⟩,⟨g2.1,g2.2.2⟩,⟨g3.1,g3.2.2⟩,⟨g4.1,g4.2.2⟩⟩,?_⟩
 have hw:k.s1-k.s0<3∧k.r1-k.r0<3∧k.l1-k.l0<3:=by
   rw[Lk.ok_eq] at hk
   simp only[Lk.sends,Lk.reads,Lk.leans,paceOk,leanOk,Bool.and_eq_true,decide_eq_true_iff] at hk
   omega
 rw[Lk.ok_eq]
 simp only[Lk.sends,Lk.reads,Lk.leans,Lk.moves,paceOk,leanOk,moveOk,Bool.and_eq_true,decide_eq_true_iff]
 unfold Lk.part
 simp only
 omega
section
variable(M:Md Tryz.prog)(H:View)
theorem part_c(a b f w:Int)(hab:a≤b)(ha: -1000≤a)(hb:b≤1000)(hf:0≤f∧f<65536)(hw:0≤w∧w<65536):CallT M 42 #[bandV a b,.int .i64 f,.int .i64 w] H (fun v H'=> H.le H'∧v=bandV (pickF a b f) (partB a b f w)):=by
 have h1:=part_in (f:=f) (w:=w) hab
 have hr:intBin .rem .i64 w (b-pickF a b f+1)=some (.int .i64 (w%(b-pickF a b f+1))):=rem_in (by omega) (by omega)
 have ha2:intBin .add .i64 (pickF a b f) (w%(b-pickF a b f+1))=some (.int .i64 (partB a b f w)):=by
   unfold partB at h1 ⊢
   rw[add_in (by omega) (by omega)]
 refine CallT.enter (vs:= [bandV a b,.int .i64 f,.int .i64 w]) Tryz.func42 rfl Tryz.ntmps42 (Nat.le_of_ble_eq_true rfl) (SymSt.nil _) fun St c cs hK=> ?_
 refine .sr ?_
 refine .e (.bx (zz:=fun b3=> ?_))
 refine .e (.al (zz:=fun b6=> ?_))
 refine .done (.sr ?_)
 refine .x (.ld 1) ?_
 refine .m ?_
 refine .c rfl rfl rfl rfl (fun H hs=> .f ca109 rfl (Pick_c M H a b f hab (by omega) (by omega) hf)) ?_
 refine .g ?_
 refine .done (.sr ?_)
 refine .m ?_
 refine .m ?_
 refine .m ?_
 refine .x .fa ?_
 refine .x (.ld 1) ?_
 refine .m ?_
 refine .i ?_ (z:=sub_in (by omega) (by omega))
 refine .i ?_ (z:=add_in (by omega) (by omega))
 refine .i ?_ (z:=hr)
 refine .i ?_ (z:=ha2)
 refine .c rfl rfl rfl rfl (fun H hs=> .f ca40 rfl (to_c M H (pickF a b f) (partB a b f w))) ?_
 refine .e (.st 0 (zz:=?_))
 refine .done ?_
 refine Tc.retN (E:=en) hK Tryz.func42 Tryz.results42 (vs:= [_]) (by refine⟨⟨0,_,_,_,_,_,_,_,rfl,rfl,rfl,rfl⟩,?_⟩;exact trivial) ?_
 exact fun H' hs=> ⟨hs.base,rfl⟩
theorem inside_c(A B:Option Addr)(l m:List Int)(n k ca cb:Nat)(hn:n=l.length)(hk:k=m.length)(h6:n≤1000)(h7:k≤1000)(hA:Nums H A l)(hB:Nums H B m)(hsub:∀x∈l,x∈m):CallT M 44 #[.slice A n ca,.slice B k cb] H (fun v H'=> H.le H'∧v=.bool true):=by
 refine CallT.enter (vs:= [.slice A n ca,.slice B k cb]) Tryz.func44 rfl Tryz.ntmps44 (Nat.le_of_ble_eq_true rfl) (SymSt.nil _) fun St c cs hK=> ?_
 refine .sr ?_
 refine .g ?_
 refine .done (.seq (.sr ?_))
 refine .g ?_
 refine .done (.block ?_)
 refine Tc.db (Tc.loopInv (σ:= { j:Nat//j≤n }) (fun j=> ([(0,.slice A n ca),(1,.slice B k cb),(5,.int .i64 (j.1:Nat))],[])) (fun j=> n-j.1) ?_ ⟨0,Nat.zero_le _⟩)
 rintro⟨j,hj⟩ ih
 show Tc M St _ _ _ _ [(0,.slice A n ca),(1,.slice B k cb),(5,.int .i64 (j:Nat))] [] _ _
 by_cases c1:j<n
 · rcases hA with hA|⟨a1,a2,a3,a4,a5,a6,rfl,a7,a8⟩
   · rw[hA] at hn;simp at hn;omega
   have f1:=a8 j (by omega)
   have hmem:l[j]?.getD 0∈m:=by
     rw[List.getElem?_eq_getElem (by omega)]
     exact hsub _ (List.getElem_mem _)
   refine .seq (.sr ?_)
   refine .m ?_
   refine .m ?_
   refine .x .ln ?_
   refine .i ?_ (z:=lss_t (by omega))
   refine .done (.tt rfl (.skip (.seq (.block (.sr ?_)))))
   refine .m ?_
   refine .m ?_
   refine .m ?_
   refine .x .ia ?_
   refine .x .l0 ?_
   refine .c rfl rfl rfl rfl (fun H hs=> .f ca39 rfl (CallT.is (.bool true) (by rewrite [decide_eq_true hmem];rfl) (HasNum_c M H B m k cb (l[j]?.getD 0) hk h7 (hB.le hs.base)))) ?_
   refine .x .nt ?_
   refine .done (.ff rfl (.skip (.inBlock (.r ?_))))
   refine .m ?_
   refine .i ?_ (z:=add_in (by omega) (by omega))
   refine .g ?_
   refine .done ?_
   exact Tc.db (ih ⟨j+1,by omega⟩ (by simp only;omega))
 · refine .seq (.sr ?_)
   refine .m ?_
   refine .m ?_
   refine .x .ln ?_
   refine .i ?_ (z:=lss_f (by omega))
   refine .done (.ff rfl (.exit rfl (.sr ?_)))
   refine .g ?_
   refine .done ?_
   refine .rt hK Tryz.func44 Tryz.results44 [_] ?_
   exact fun H' hs=> ⟨hs.base,rfl⟩
end
end Go.Proofs.YtpdaenfglbgfkaaGreatDoor
