/-
  What is left once a train is looked at: the laws for DialLooked.
-/
import Derived.Test.YtdnfdeplcjaonaaGreatDoorF09
import Derived.Test.YtdnfdeplcjaonaaGreatDoorFZC
namespace Go.Proofs.YtdnfdeplcjaonaaGreatDoor
open Go.RL
set_option maxRecDepth 10000
set_option maxHeartbeats 1000000
theorem earsL_cong {k d:Bk}(h:∀i,k.can i=d.can i):∀n,k.earsL n=d.earsL n
 | 0=> rfl
 | n+1=> by unfold Bk.earsL;rw[earsL_cong h n,h n]
theorem earsS_sub {k d:Bk}(h:∀i,∀x∈k.can i,x∈d.can i):∀n e,k.earsS n e→d.earsS n e
 | 0,_,he=> he
 | n+1,_,⟨e0,h0,x,hx,he⟩=> ⟨e0,earsS_sub h n e0 h0,x,h n x hx,he⟩
theorem with_can(k:Bk)(t n:Nat)(a b:Int)(i:Nat):(k.with t (n:Nat) (n:Nat) a b).can i=if i=t then canL n n (k.kind a) (k.kind b) else k.can i:=by
 unfold Bk.can Bk.with
 by_cases c:i=t
 · simp only[if_pos c,Int.toNat_natCast]
   rfl
 · simp only[if_neg c]
   rfl
theorem canL_one(n d:Nat):canL n n d d= [(n,d)]:=by
 rw[canL_cons (Nat.le_refl _),canFrom_cons (Nat.le_refl _),canFrom_nil (by omega),canL_nil (by omega)]
theorem kind_of {k:Bk}(hg:1≤k.gap∧k.gap+1≤k.give){d:Nat}(hd:d≤2):k.kind (k.pauseOf d)=d:=by
 rcases(by omega:d=0∨d=1∨d=2) with rfl|rfl|rfl
 · show(if(0:Int)<k.gap then 0 else if(0:Int)<k.give then 1 else 2)=0
   rw[if_pos (by omega)]
 · show(if k.gap<k.gap then 0 else if k.gap<k.give then 1 else 2)=1
   rw[if_neg (by omega),if_pos (by omega)]
 · show(if k.give<k.gap then 0 else if k.give<k.give then 1 else 2)=2
   rw[if_neg (by omega),if_neg (by omega)]
theorem resL_with {k:Bk}(hg:1≤k.gap∧k.gap+1≤k.give){t n d:Nat}(hd:d≤2){a b:Int}(ha:k.kind a=d)(hb:k.kind b=d):(k.with t (n:Nat) (n:Nat) a b).resL.length=k.leftOf t (n,d):=by
 unfold Bk.leftOf
 have e:∀m,(k.with t (n:Nat) (n:Nat) a b).earsL m=(k.with t (n:Nat) (n:Nat) (k.pauseOf d) (k.pauseOf d)).earsL m:=earsL_cong fun i=> by
   rw[with_can,with_can,ha,hb,kind_of hg hd]
 unfold Bk.resL
 have e1:=e k.nt
 show(distinct (((k.with t (n:Nat) (n:Nat) a b).earsL k.nt).map fun e=> firstI (k.line e.heard))).length=(distinct (((k.with t (n:Nat) (n:Nat) (k.pauseOf d) (k.pauseOf d)).earsL k.nt).map fun e=> firstI (k.line e.heard))).length
 rw[e1]
theorem mem_partB {k:Bk}{t:Nat}{b:Int}{x:Quad}:∀i,x∈k.partB t b i↔∃j,j<i∧(k.partX t j).1≤(k.partX t j).2∧x=(b,b,(k.partX t j).1,(k.partX t j).2)
 | 0=> by unfold Bk.partB;simp
 | i + 1 => by
   unfold Bk.partB
   rw[List.mem_append,mem_partB i]
   unfold Bk.part1
   constructor
   · rintro(⟨j,h1,h2⟩|h)
     · exact⟨j,by omega,h2⟩
     · split at h
       · rename_i h2
         rw[List.mem_singleton] at h
         exact⟨i,by omega,h2,h⟩
       · cases h
   · rintro⟨j,h1,h2,h3⟩
     by_cases c:j=i
     · subst c
       right
       rw[if_pos h2,List.mem_singleton]
       exact h3
     · exact .inl ⟨j,by omega,h2,h3⟩
theorem mem_partsTo {k:Bk}{t:Nat}{x:Quad}:∀j,x∈k.partsTo t j↔∃m:Nat,m<j∧x∈k.partB t (k.pf t+(m:Nat)) 3
 | 0=> by unfold Bk.partsTo;simp
 | j + 1=> by
   unfold Bk.partsTo
   rw[List.mem_append,mem_partsTo j]
   constructor
   · rintro(⟨m,h1,h2⟩|h)
     · exact⟨m,by omega,h2⟩
     · exact⟨j,by omega,h⟩
   · rintro⟨m,h1,h2⟩
     by_cases c:m=j
     · subst c;exact .inr h2
     · exact .inl ⟨m,by omega,h2⟩
theorem kind_cases(k:Bk)(p:Int):(p<k.gap∧k.kind p=0)∨(k.gap≤p∧p<k.give∧k.kind p=1)∨(k.gap≤p∧k.give≤p∧k.kind p=2):=by
 unfold Bk.kind
 by_cases h1:p<k.gap
 · exact .inl ⟨h1,if_pos h1⟩
 · by_cases h2:p<k.give
   · exact .inr (.inl ⟨by omega,h2,by rw[if_neg h1,if_pos h2]⟩)
   · exact .inr (.inr ⟨by omega,by omega,by rw[if_neg h1,if_neg h2]⟩)
theorem iMax_is(a x:Int):a≤iMax a x∧x≤iMax a x∧(iMax a x=a∨iMax a x=x):=by unfold iMax;split <;> omega
theorem iMin_is(b y:Int):iMin b y≤b∧iMin b y≤y∧(iMin b y=b∨iMin b y=y):=by unfold iMin;split <;> omega
theorem partX_kind {k:Bk}(hg:1≤k.gap∧k.gap+1≤k.give∧k.give≤99){t i:Nat}(hi:i<3)(hq:0≤k.qf t∧k.qf t≤k.qt t∧k.qt t≤99):
   ((k.partX t i).1≤(k.partX t i).2↔k.kind (k.qf t)≤i∧i≤k.kind (k.qt t))∧((k.partX t i).1≤(k.partX t i).2→k.kind (k.partX t i).1=i∧k.kind (k.partX t i).2=i):=by
 show(iMax (k.qf t) (k.kindB i).1≤iMin (k.qt t) (k.kindB i).2↔_)∧(iMax (k.qf t) (k.kindB i).1≤iMin (k.qt t) (k.kindB i).2→k.kind (iMax (k.qf t) (k.kindB i).1)=i∧k.kind (iMin (k.qt t) (k.kindB i).2)=i)
 have a1:=iMax_is (k.qf t) (k.kindB i).1
 have a2:=iMin_is (k.qt t) (k.kindB i).2
 have b1:=kind_cases k (k.qf t)
 have b2:=kind_cases k (k.qt t)
 have b3:=kind_cases k (iMax (k.qf t) (k.kindB i).1)
 have b4:=kind_cases k (iMin (k.qt t) (k.kindB i).2)
 have hb:(i=0∧(k.kindB i).1=0∧(k.kindB i).2=k.gap-1)∨(i=1∧(k.kindB i).1=k.gap∧(k.kindB i).2=k.give-1)∨(i=2∧(k.kindB i).1=k.give∧(k.kindB i).2=99):=by
   rcases(by omega:i=0∨i=1∨i=2) with rfl|rfl|rfl
   · exact .inl ⟨rfl,rfl,rfl⟩
   · exact .inr (.inl ⟨rfl,rfl,rfl⟩)
   · exact .inr (.inr ⟨rfl,rfl,rfl⟩)
 generalize iMax (k.qf t) (k.kindB i).1=M at *
 generalize iMin (k.qt t) (k.kindB i).2=m at *
 generalize (k.kindB i).1=lo at *
 generalize (k.kindB i).2=hi' at *
 generalize k.kind (k.qf t)=y1 at *
 generalize k.kind (k.qt t)=y2 at *
 generalize k.kind M=y3 at *
 generalize k.kind m=y4 at *
 generalize k.qf t=qf at *
 generalize k.qt t=qt at *
 refine⟨⟨fun h=> ?_,fun h=> ?_⟩,fun h=> ?_⟩
 · clear b3 b4
   rcases hb with ⟨rfl,rfl,rfl⟩|⟨rfl,rfl,rfl⟩|⟨rfl,rfl,rfl⟩ <;> rcases b1 with b1|b1|b1 <;> rcases b2 with b2|b2|b2 <;> omega
 · clear b3 b4
   rcases hb with ⟨rfl,rfl,rfl⟩|⟨rfl,rfl,rfl⟩|⟨rfl,rfl,rfl⟩ <;> rcases b1 with b1|b1|b1 <;> rcases b2 with b2|b2|b2 <;> omega
 · clear b1 b2
   rcases hb with ⟨rfl,rfl,rfl⟩|⟨rfl,rfl,rfl⟩|⟨rfl,rfl,rfl⟩ <;> rcases b3 with b3|b3|b3 <;> rcases b4 with b4|b4|b4 <;> omega
theorem nowQ_with {k:Bk}{t:Nat}{x:Quad}(h:x∈k.partsL t){n:Nat}(hn:x.1=(n:Nat)):k.nowQ t x=k.with t (n:Nat) (n:Nat) x.2.2.1 x.2.2.2:=by
 obtain⟨h1,h2,h3,h4,h5,h6⟩:=part_in h
 unfold Bk.nowQ Bk.now
 have e1:imax (k.pf t) x.1=(n:Nat):=by unfold imax;split <;> omega
 have e2:imin (k.pt t) x.2.1=(n:Nat):=by unfold imin;split <;> omega
 have e3:imax (k.qf t) x.2.2.1=x.2.2.1:=by unfold imax;split <;> omega
 have e4:imin (k.qt t) x.2.2.2=x.2.2.2:=by unfold imin;split <;> omega
 rw[e1,e2,e3,e4]
theorem part_left {k:Bk}(ha:k.alarm=0){t:Nat}(ht:t<k.nt){x:Quad}(h:x∈k.partsL t):∃y∈k.can t,(k.nowQ t x).resL.length=k.leftOf t y:=by
 obtain⟨hg,_,_,hok⟩:=Bk.valid ha
 obtain⟨hp,_,hq⟩:=Bk.train_in hok ht
 have h0:=h
 unfold Bk.partsL at h0
 obtain⟨m,hm,h2⟩:=(mem_partsTo _).1 h0
 obtain⟨i,hi,h3,h4⟩:=(mem_partB 3).1 h2
 have hk:=partX_kind (k:=k) ⟨hg.1,hg.2.2.1,hg.2.2.2⟩ hi hq
 have h5:=hk.1.1 h3
 have h6:=hk.2 h3
 obtain⟨n,hn⟩:∃n:Nat,k.pf t+(m:Nat)=(n:Nat):=⟨(k.pf t+(m:Nat)).toNat,by omega⟩
 have hx1:x.1=(n:Nat):=by rw[h4];exact hn
 refine⟨(n,i),?_,?_⟩
 · unfold Bk.can
   rw[mem_canL]
   simp only
   omega
 · rw[nowQ_with h hx1]
   exact resL_with ⟨hg.1,hg.2.2.1⟩ (by omega) (by rw[h4];exact h6.1) (by rw[h4];exact h6.2)
theorem left_part {k:Bk}(ha:k.alarm=0){t:Nat}(ht:t<k.nt){y:Nat×Nat}(h:y∈k.can t):∃x∈k.partsL t,(k.nowQ t x).resL.length=k.leftOf t y:=by
 obtain⟨hg,_,_,hok⟩:=Bk.valid ha
 obtain⟨hp,_,hq⟩:=Bk.train_in hok ht
 obtain⟨n,i⟩:=y
 unfold Bk.can at h
 rw[mem_canL] at h
 simp only at h
 have hi2:=k.kind_le (k.qt t)
 have hk:=partX_kind (k:=k) ⟨hg.1,hg.2.2.1,hg.2.2.2⟩ (show i<3 by omega) hq
 have h3:=hk.1.2 ⟨h.2.1,h.2.2⟩
 have h6:=hk.2 h3
 have hx:((((n:Nat):Int),((n:Nat):Int),(k.partX t i).1,(k.partX t i).2):Quad)∈k.partsL t:=by
   unfold Bk.partsL
   rw[mem_partsTo]
   refine⟨(n-(k.pf t).toNat),by omega,?_⟩
   have e:k.pf t+((n-(k.pf t).toNat:Nat):Int)=(n:Nat):=by omega
   rw[e,mem_partB]
   exact⟨i,by omega,h3,rfl⟩
 refine⟨_,hx,?_⟩
 rw[nowQ_with hx rfl]
 exact resL_with ⟨hg.1,hg.2.2.1⟩ (by omega) h6.1 h6.2
theorem foldl_max {α:Type}{f:α→Nat}:∀ {l:List α} {a M:Nat},l.foldl (fun m x=> max m (f x)) a≤M↔a≤M∧∀x∈l,f x≤M
 | [],a,M=> by simp
 | y::t,a,M=> by
   rw[List.foldl_cons,foldl_max (l:=t)]
   simp only[List.mem_cons,forall_eq_or_imp,Nat.max_le,and_assoc]
theorem worstTo_le {k:Bk}{t M:Nat}:∀j,j≤(k.partsL t).length→(k.worstTo t j≤M↔∀i,i<j→∀x,(k.partsL t)[i]? =some x→(k.nowQ t x).resL.length≤M)
 | 0,_=> by unfold Bk.worstTo;simp
 | j + 1,hj=> by
   have ih:=worstTo_le (k:=k) (t:=t) (M:=M) j (by omega)
   have e:(k.partsL t)[j]? =some (k.partsL t)[j]:=List.getElem?_eq_getElem (by omega)
   rw[Bk.worstTo,e,Option.getD_some,Nat.max_le,ih]
   constructor
   · rintro⟨h1,h2⟩ i hi x hx
     by_cases c:i=j
     · subst c
       rw[e] at hx
       cases hx
       exact h2
     · exact h1 i (by omega) x hx
   · exact fun h=> ⟨fun i hi=> h i (by omega),h j (by omega) _ e⟩
theorem worst_left {k:Bk}(ha:k.alarm=0){t:Nat}(ht:t<k.nt):k.worst t=k.left t:=by
 have h1:∀M,k.worst t≤M↔∀x∈k.partsL t,(k.nowQ t x).resL.length≤M:=fun M=> by
   unfold Bk.worst
   rw[worstTo_le _ (Nat.le_refl _)]
   constructor
   · intro h x hx
     obtain⟨i,hi,e⟩:=List.getElem_of_mem hx
     exact h i hi x (by rw[List.getElem?_eq_getElem hi,e])
   · intro h i _ x hx
     exact h x (List.mem_of_getElem? hx)
 have h2:∀M,k.left t≤M↔∀y∈k.can t,k.leftOf t y≤M:=fun M=> by
   unfold Bk.left
   rw[foldl_max]
   simp
 refine Nat.le_antisymm ((h1 _).2 fun x hx=> ?_) ((h2 _).2 fun y hy=> ?_)
 · obtain⟨y,hy,e⟩:=part_left ha ht hx
   rw[e]
   exact(h2 _).1 (Nat.le_refl _) y hy
 · obtain⟨x,hx,e⟩:=left_part ha ht hy
   rw[←e]
   exact(h1 _).1 (Nat.le_refl _) x hx
theorem res_pos {k:Bk}(hok:k.trainsOk):1≤k.resL.length:=by
 obtain⟨e,he⟩:=k.ears_some hok k.nt (Nat.le_refl _)
 have h:firstI (k.line e.heard)∈k.resL:=(k.mem_resL _).2 ⟨e,he,rfl⟩
 exact List.length_pos_of_mem h
theorem leftOf_in {k:Bk}(ha:k.alarm=0){t:Nat}(ht:t<k.nt){y:Nat×Nat}(hy:y∈k.can t):1≤k.leftOf t y∧k.leftOf t y≤k.resL.length:=by
 obtain⟨hg,_,_,hok⟩:=Bk.valid ha
 obtain⟨hp,_,hq⟩:=Bk.train_in hok ht
 have hy0:=hy
 unfold Bk.can at hy
 rw[mem_canL] at hy
 have hk2:=k.kind_le (k.qt t)
 constructor
 · exact res_pos (Bk.leftOk hok ⟨by omega,by omega⟩ ⟨by omega,by omega⟩ (t:=t) (x:=y) (by omega) (by omega))
 · unfold Bk.leftOf
   refine nodup_le (distinct_nodup _) fun z hz=> ?_
   rw[Bk.mem_resL] at hz ⊢
   obtain⟨e,he,rfl⟩:=hz
   refine⟨e,earsS_sub (fun i x hx=> ?_) _ e he,rfl⟩
   rw[with_can] at hx
   by_cases c:i=t
   · rw[if_pos c,kind_of ⟨hg.1,hg.2.2.1⟩ (by omega),canL_one,List.mem_singleton] at hx
     rw[hx,c]
     exact hy0
   · rw[if_neg c] at hx
     exact hx
theorem left_in {k:Bk}(ha:k.alarm=0){t:Nat}(ht:t<k.nt):1≤k.left t∧k.left t≤k.resL.length:=by
 obtain⟨hg,_,_,hok⟩:=Bk.valid ha
 obtain⟨hp,_,hq⟩:=Bk.train_in hok ht
 have hne:((k.pf t).toNat,k.kind (k.qf t))∈k.can t:=by
   unfold Bk.can
   rw[mem_canL]
   simp only
   have b1:=kind_cases k (k.qf t)
   have b2:=kind_cases k (k.qt t)
   omega
 have h2:∀M,k.left t≤M↔∀y∈k.can t,k.leftOf t y≤M:=fun M=> by
   unfold Bk.left
   rw[foldl_max]
   simp
 have h3:=(h2 _).1 (Nat.le_refl _) _ hne
 have h4:=(leftOf_in ha ht hne).1
 exact⟨by omega,(h2 _).2 fun y hy=> (leftOf_in ha ht hy).2⟩
theorem look_in {k:Bk}(ha:k.alarm=0):∀j,j≤k.nt→((k.lookTo j).1= -1∧(k.lookTo j).2=(k.resL.length:Nat)∧∀i,i<j→k.left i=k.resL.length)∨
   ∃z:Nat,z<j∧(k.lookTo j).1=(z:Nat)∧(k.lookTo j).2=(k.left z:Nat)∧k.left z<k.resL.length∧(∀i,i<j→k.left z≤k.left i)∧∀i,i<z→k.left z<k.left i
 | 0,_=> .inl ⟨rfl,rfl,fun i hi=> by omega⟩
 | j + 1,hj=> by
   have hl:=left_in ha (show j<k.nt by omega)
   rw[Bk.lookTo]
   rcases look_in ha j (by omega) with ⟨h1,h2,h3⟩|⟨z,hz,h1,h2,h3,h4,h5⟩
   · by_cases c:((k.left j:Nat):Int)<(k.lookTo j).2
     · rw[if_pos c]
       refine .inr ⟨j,by omega,rfl,rfl,by omega,fun i hi=> ?_,fun i hi=> ?_⟩
       · by_cases e:i=j
         · subst e;exact Nat.le_refl _
         · have:=h3 i (by omega);omega
       · have:=h3 i hi;omega
     · rw[if_neg c]
       refine .inl ⟨h1,h2,fun i hi=> ?_⟩
       by_cases e:i=j
       · subst e;omega
       · exact h3 i (by omega)
   · by_cases c:((k.left j:Nat):Int)<(k.lookTo j).2
     · rw[if_pos c]
       refine .inr ⟨j,by omega,rfl,rfl,by omega,fun i hi=> ?_,fun i hi=> ?_⟩
       · by_cases e:i=j
         · subst e;exact Nat.le_refl _
         · have:=h4 i (by omega);omega
       · have:=h4 i hi;omega
     · rw[if_neg c]
       refine .inr ⟨z,by omega,h1,h2,h3,fun i hi=> ?_,h5⟩
       by_cases e:i=j
       · subst e;omega
       · exact h4 i (by omega)
end Go.Proofs.YtdnfdeplcjaonaaGreatDoor
