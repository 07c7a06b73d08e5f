/-
  Pasts that are none, and what the reference says of pasts.
-/
import Derived.Test.YtpdaenfglbgfkaaGreatDoorX08
import Derived.Test.YtpdaenfglbgfkaaGreatDoorXI4
namespace Go.Proofs.YtpdaenfglbgfkaaGreatDoor
open Go.RL
set_option maxRecDepth 10000
set_option maxHeartbeats 8000000
inductive PErr(k:Lk):Int→Int→Int→Int→List Int→Int→Prop
 | bad {co a r n:Int} {mv:List Int}:Bad k co→PErr k co a r n mv 1
 | send {co:Nat} {a r n:Int} {mv:List Int}:k.ok=true→co<32→¬(k.s0≤a∧a≤k.s1)→PErr k co a r n mv 1
 | read {co:Nat} {a r n:Int} {mv:List Int}:k.ok=true→co<32→(k.s0≤a∧a≤k.s1)→¬(k.r0≤r∧r≤k.r1)→PErr k co a r n mv 1
 | lean {co:Nat} {a r n:Int} {mv:List Int}:k.ok=true→co<32→(k.s0≤a∧a≤k.s1)→(k.r0≤r∧r≤k.r1)→¬(k.l0≤n∧n≤k.l1)→PErr k co a r n mv 1
 | tally {co:Nat} {a r n:Int} {mv:List Int}:k.ok=true→co<32→(k.s0≤a∧a≤k.s1)→(k.r0≤r∧r≤k.r1)→(k.l0≤n∧n≤k.l1)→mv.length≠(placesTo co 7).length→PErr k co a r n mv 2
 | move {co:Nat} {a r n:Int} {mv:List Int} {j:Nat}:k.ok=true→co<32→(k.s0≤a∧a≤k.s1)→(k.r0≤r∧r≤k.r1)→(k.l0≤n∧n≤k.l1)→mv.length=(placesTo co 7).length→j<mv.length→(∀i,i<j→k.m0≤mv[i]?.getD 0∧mv[i]?.getD 0≤k.m1)→¬(k.m0≤mv[j]?.getD 0∧mv[j]?.getD 0≤k.m1)→PErr k co a r n mv 1
theorem firstBad {p:Nat→Prop} [DecidablePred p]:∀n:Nat,(∀i,i<n→p i)∨∃j,j<n∧(∀i,i<j→p i)∧¬p j
 | 0=> .inl fun i h=> absurd h (Nat.not_lt_zero i)
 | n + 1 => by
   rcases firstBad n (p:=p) with h|⟨j,h1,h2,h3⟩
   · by_cases hn:p n
     · exact .inl fun i hi=> by
         rcases Nat.lt_succ_iff_lt_or_eq.1 hi with h'|rfl
         · exact h i h'
         · exact hn
     · exact .inr ⟨n,Nat.lt_succ_self n,h,hn⟩
   · exact .inr ⟨j,by omega,h2,h3⟩
theorem PErr.or_past(k:Lk)(co a r n:Int)(mv:List Int):(∃e,PErr k co a r n mv e)∨(k.ok=true∧∃code:Nat,co=(code:Int)∧code<32∧k.Past code a r n mv):=by
 by_cases hb:Bad k co
 · exact .inl ⟨_,.bad hb⟩
 · have hk : k.ok=true:=by
     cases h:k.ok with
     | true=> rfl
     | false=> exact(hb (.inl h)).elim
   have hcr:0≤co∧co≤31:=Classical.byContradiction fun h=> hb (.inr h)
   obtain⟨code,rfl⟩:∃n:Nat,co=(n:Int):=⟨co.toNat,by omega⟩
   have hc:code<32:=by omega
   by_cases h1:k.s0≤a∧a≤k.s1
   · by_cases h2:k.r0≤r∧r≤k.r1
     · by_cases h3:k.l0≤n∧n≤k.l1
       · by_cases h4:mv.length=(placesTo code 7).length
         · rcases firstBad (p:=fun i=> k.m0≤mv[i]?.getD 0∧mv[i]?.getD 0≤k.m1) mv.length with h|⟨j,g1,g2,g3⟩
           · refine .inr ⟨hk,code,rfl,hc,h1,h2,h3,h4,fun m hm=> ?_⟩
             obtain⟨i,hi,rfl⟩:=List.getElem_of_mem hm
             have:=h i hi
             rw[List.getElem?_eq_getElem hi] at this
             exact this
           · exact .inl ⟨_,.move hk hc h1 h2 h3 h4 g1 g2 g3⟩
         · exact .inl ⟨_,.tally hk hc h1 h2 h3 h4⟩
       · exact .inl ⟨_,.lean hk hc h1 h2 h3⟩
     · exact .inl ⟨_,.read hk hc h1 h2⟩
   · exact .inl ⟨_,.send hk hc h1⟩
theorem PErr.pos {k:Lk}{co a r n:Int}{mv:List Int}{e:Int}(h:PErr k co a r n mv e):e=1∨e=2:=by
 cases h <;> simp
section
variable(M:Md Tryz.prog)(H:View)
theorem has_no(a b x:Int)(h:¬(a≤x∧x≤b)):CallT M 169 #[bandV a b,.int .i64 x] H (fun v H'=> H.le H'∧v=.bool false):=
 CallT.mono (has_c M H a b x) (by rintro v H' ⟨h1,h2⟩;rw[decide_eq_false h] at h2;exact⟨h1,h2⟩)
theorem hasR_no(a b x:Int)(h:¬(a≤x∧x≤b)):CallT M 140 #[bandV a b,.int .i64 x] H (fun v H'=> H.le H'∧v=.bool false):=by
 refine CallT.enter (vs:= [bandV a b,.int .i64 x]) Tryz.func140 rfl Tryz.ntmps140 (Nat.le_of_ble_eq_true rfl) (SymSt.nil _) fun St c cs hK=> ?_
 refine .sr ?_
 refine .e (.bx (zz:=fun b2=> ?_))
 refine .g ?_
 refine .done (.sr ?_)
 refine .m ?_
 refine .x .fa ?_
 refine .x (.ld 0) ?_
 refine .x .fa ?_
 refine .x (.ld 0) ?_
 refine .c rfl rfl rfl rfl (fun H hs=> .f ca59 rfl (CallT.is (.bool false) (by rewrite [decide_eq_false h];rfl) (In_c M H x a b))) ?_
 refine .g ?_
 refine .done ?_
 refine .rt hK Tryz.func140 Tryz.results140 [_] ?_
 exact fun H' hs=> ⟨hs.base,rfl⟩
def Takes(M:Md Tryz.prog)(H:View)(fv:Value)(l:List Int)(j:Nat):Prop:=
 ∀i:Nat,i≤j→∀H',H.le H'→FnT M fv [.int .i64 (l[i]?.getD 0)] H' fun v H''=> H'.le H''∧v=.bool (decide (i=j))
theorem IndexFunc_yes(A:Option Addr)(l:List Int)(n ca:Nat)(fv:Value)(hn:n=l.length)(h6:n≤1000)(hA:Nums H A l)(j:Nat)(hj:j<n)(hf:Takes M H fv l j):CallT M 210 #[.slice A n ca,fv] H (fun v H'=> H.le H'∧v=.int .i64 (j:Nat)):=by
 refine CallT.enter (vs:= [.slice A n ca,fv]) Tryz.func210 rfl Tryz.ntmps210 (Nat.le_of_ble_eq_true rfl) (SymSt.nil _) fun St c cs hK=> ?_
 refine .sr ?_
 refine .g ?_
 refine .done (.seq (.sr ?_))
 refine .m ?_
 refine .x .ln ?_
 refine .m ?_
 refine .done (.block ?_)
 refine Tc.db (Tc.loopInv (σ:= { i:Nat//i≤j }) (fun i=> ([(0,.slice A n ca),(1,fv),(7,.int .i64 (n:Nat)),(8,.int .i64 (i.1:Nat))],[])) (fun i=> j-i.1) ?_ ⟨0,Nat.zero_le _⟩)
 rintro⟨i,hi⟩ ih
 show Tc M St _ _ _ _ [(0,.slice A n ca),(1,fv),(7,.int .i64 (n:Nat)),(8,.int .i64 (i:Nat))] [] _ _
 have c2:i<n:=by omega
 rcases hA with hA|⟨a1,a2,a3,a4,a5,a6,rfl,a7,a8⟩
 · rw[hA] at hn;simp at hn;omega
 have f1:=a8 i (by omega)
 by_cases c1:i=j
 · subst c1
   have hf':=hf i (Nat.le_refl _)
   rw[decide_eq_true (rfl:i=i)] at hf'
   refine .sr ?_
   refine .i ?_ (z:=lss_t (by omega))
   refine .done (.seq (.tt rfl (.skip (.seq (.block (.sr ?_))))))
   refine .m ?_
   refine .g ?_
   refine .done (.sr ?_)
   refine .m ?_
   refine .m ?_
   refine .m ?_
   refine .x .ia ?_
   refine .x .l0 ?_
   refine .c rfl rfl rfl rfl (fun H hs=> hf' H hs.base) ?_
   refine .done (.tt rfl (.sr ?_))
   refine .m ?_
   refine .g ?_
   refine .done ?_
   refine .rt hK Tryz.func210 Tryz.results210 [_] ?_
   exact fun H' hs=> ⟨hs.base,rfl⟩
 · have hf':=hf i hi
   rw[decide_eq_false c1] at hf'
   refine .sr ?_
   refine .i ?_ (z:=lss_t (by omega))
   refine .done (.seq (.tt rfl (.skip (.seq (.block (.sr ?_))))))
   refine .m ?_
   refine .g ?_
   refine .done (.sr ?_)
   refine .m ?_
   refine .m ?_
   refine .m ?_
   refine .x .ia ?_
   refine .x .l0 ?_
   refine .c rfl rfl rfl rfl (fun H hs=> hf' H hs.base) ?_
   refine .done (.ff rfl (.skip (.inBlock (.r ?_))))
   refine .i ?_ (z:=add_in (by omega) (by omega))
   refine .m ?_
   refine .done ?_
   exact Tc.db (ih ⟨i+1,by omega⟩ (by simp only;omega))
theorem ContainsFunc_yes(A:Option Addr)(l:List Int)(n ca:Nat)(fv:Value)(hn:n=l.length)(h6:n≤1000)(hA:Nums H A l)(j:Nat)(hj:j<n)(hf:Takes M H fv l j):CallT M 170 #[.slice A n ca,fv] H (fun v H'=> H.le H'∧v=.bool true):=by
 refine CallT.enter (vs:= [.slice A n ca,fv]) Tryz.func170 rfl Tryz.ntmps170 (Nat.le_of_ble_eq_true rfl) (SymSt.nil _) fun St c cs hK=> ?_
 refine .sr ?_
 refine .g ?_
 refine .done (.sr ?_)
 refine .m ?_
 refine .m ?_
 refine .c rfl rfl rfl rfl (fun H hs=> .f ca210 rfl (IndexFunc_yes M H A l n ca fv hn h6 (hA.le hs.base) j hj (fun i hi H' hle=> hf i hi H' (View.le_trans hs.base hle)))) ?_
 refine .i ?_ (z:=geq_t (by omega))
 refine .g ?_
 refine .done ?_
 refine .rt hK Tryz.func170 Tryz.results170 [_] ?_
 exact fun H' hs=> ⟨hs.base,rfl⟩
theorem past_takes(a b:Int)(b11:Nat)(l:List Int)(hb:H b11=some (true,.cells ⟨[.int .i64 a,.int .i64 b]⟩ 180 (0,0)))(j:Nat)(hl:∀i:Nat,i<j→a≤l[i]?.getD 0∧l[i]?.getD 0≤b)(hj:¬(a≤l[j]?.getD 0∧l[j]?.getD 0≤b)):Takes M H (.func (.func 171) #[] #[.pointer (some ⟨b11,0,none⟩)]) l j:=fun i hi H' hle=> by
 refine FnT.of (first:= []) (captured:= [_]) ca171 rfl ?_
 have h11:=hle _ _ hb
 by_cases c1:i=j
 · subst c1
   rw[decide_eq_true (rfl:i=i)]
   refine CallT.enter (vs:= [.int .i64 (l[i]?.getD 0),.pointer (some ⟨b11,0,none⟩)]) Tryz.func171 rfl Tryz.ntmps171 (Nat.le_of_ble_eq_true rfl) (SymSt.nil _) fun St c cs hK=> ?_
   refine .sr ?_
   refine .g ?_
   refine .done (.sr ?_)
   refine .x .l0 ?_
   refine .m ?_
   refine .c rfl rfl rfl rfl (fun H hs=> .f ca169 rfl (has_no M H a b _ hj)) ?_
   refine .x .nt ?_
   refine .g ?_
   refine .done ?_
   refine .rt hK Tryz.func171 Tryz.results171 [_] ?_
   exact fun H2 hs=> ⟨hs.base,rfl⟩
 · rw[decide_eq_false c1]
   refine CallT.enter (vs:= [.int .i64 (l[i]?.getD 0),.pointer (some ⟨b11,0,none⟩)]) Tryz.func171 rfl Tryz.ntmps171 (Nat.le_of_ble_eq_true rfl) (SymSt.nil _) fun St c cs hK=> ?_
   refine .sr ?_
   refine .g ?_
   refine .done (.sr ?_)
   refine .x .l0 ?_
   refine .m ?_
   refine .c rfl rfl rfl rfl (fun H hs=> .f ca169 rfl (has_yes M H a b _ (hl i (by omega)))) ?_
   refine .x .nt ?_
   refine .g ?_
   refine .done ?_
   refine .rt hK Tryz.func171 Tryz.results171 [_] ?_
   exact fun H2 hs=> ⟨hs.base,rfl⟩
theorem past_err(k:Lk)(hG:Glob H)(co a r n:Int)(mv:List Int)(e:Int)(h:PErr k co a r n mv e)(A:Option Addr)(m ca:Nat)(hm:m=mv.length)(_:m≤20)(hA:Nums H A mv):
   CallT M 134 #[k.val,.int .i64 co,.agg ⟨[.int .i64 a,.int .i64 r,.int .i64 n,.slice A m ca]⟩] H (fun v H'=> H.le H'∧v=.tuple ⟨[.agg ⟨[.int .i64 0,.slice none 0 0]⟩,.int .i64 e]⟩):=by
 by_cases hb:Bad k co
 · have he:e=1:=by
     cases h with
     | bad _=> rfl
     | send _ _ _=> rfl
     | read _ _ _ _=> rfl
     | lean _ _ _ _ _=> rfl
     | tally h1 h2 _ _ _ _=> exact(hb.no ⟨h1,by omega,by omega⟩).elim
     | move _ _ _ _ _ _ _ _ _=> rfl
   subst he
   refine CallT.enter (vs:= [k.val,.int .i64 co,.agg ⟨[.int .i64 a,.int .i64 r,.int .i64 n,.slice A m ca]⟩]) Tryz.func134 rfl Tryz.ntmps134 (Nat.le_of_ble_eq_true rfl) (SymSt.nil _) fun St c cs hK=> ?_
   refine .sr ?_
   refine .e (.bx (zz:=fun b3=> ?_))
   refine .e (.bx (zz:=fun b5=> ?_))
   refine .e (.al (zz:=fun b6=> ?_))
   refine .g ?_
   refine .done (.sr ?_)
   refine .x (.ld 2) ?_
   refine .m ?_
   refine .c rfl rfl rfl rfl (fun H hs=> .f ca89 rfl (open_no M H k co (glob_le hG hs.base) hb.no)) ?_
   refine .m ?_
   refine .x .et ?_
   refine .x .et ?_
   refine .x .et ?_
   refine .e (.al (zz:=fun b8=> ?_))
   refine .e (.al (zz:=fun b9=> ?_))
   refine .e (.st 1 (zz:=?_))
   refine .e (.st 0 (zz:=?_))
   refine .g ?_
   refine .done (.seq (.sr ?_))
   refine .m ?_
   refine .i ?_ (z:=neq_t (by omega))
   refine .done (.tt rfl (.sr ?_))
   refine .x .bu ?_
   refine .m ?_
   refine .e (.st 2 (zz:=?_))
   refine .g ?_
   refine .done ?_
   refine Tc.retN (E:=en) hK Tryz.func134 Tryz.results134 (vs:= [_,_]) (by refine⟨⟨2,_,_,_,_,_,_,_,rfl,rfl,rfl,rfl⟩,?_⟩;refine⟨rfl,?_⟩;exact trivial) ?_
   exact fun H' hs=> ⟨hs.base,rfl⟩
 · have hk:k.ok=true:=by
     cases h:k.ok with
     | true=> rfl
     | false=> exact(hb (.inl h)).elim
   have hcr:0≤co∧co≤31:=Classical.byContradiction fun h=> hb (.inr h)
   obtain⟨code,rfl⟩:∃n:Nat,co=(n:Int):=⟨co.toNat,by omega⟩
   have hc:code<32:=by omega
   have hp6:=(places_in code hc).2.1
   refine CallT.enter (vs:= [k.val,.int .i64 code,.agg ⟨[.int .i64 a,.int .i64 r,.int .i64 n,.slice A m ca]⟩]) Tryz.func134 rfl Tryz.ntmps134 (Nat.le_of_ble_eq_true rfl) (SymSt.nil _) fun St c cs hK=> ?_
   refine .sr ?_
   refine .e (.bx (zz:=fun b3=> ?_))
   refine .e (.bx (zz:=fun b5=> ?_))
   refine .e (.al (zz:=fun b6=> ?_))
   refine .g ?_
   refine .done (.sr ?_)
   refine .x (.ld 2) ?_
   refine .m ?_
   refine .e (Or.callNew (fun x=> .tuple ⟨[k.val,letN code x,.int .i64 0]⟩) (letB code) (fun _=> True) rfl rfl rfl rfl rfl (by decide) (letB_nodup code) (fun H hs=> .f ca89 rfl (open_n M H k code (glob_le hG hs.base) hk hc)) (fun x hx=> ?_))
   refine .m ?_
   refine .x .et ?_
   refine .x .et ?_
   refine .x .et ?_
   refine .e (.al (zz:=fun b8=> ?_))
   refine .e (.al (zz:=fun b9=> ?_))
   refine .e (.st 1 (zz:=?_))
   refine .e (.st 0 (zz:=?_))
   refine .g ?_
   refine .done (.seq (.sr ?_))
   refine .m ?_
   refine .i ?_ (z:=neq_f (by omega))
   refine .done (.ff rfl (.skip (.sr ?_)))
   refine .x .fa ?_
   refine .x .fa ?_
   refine .x .fa ?_
   refine .x (.ld 1) ?_
   refine .c rfl rfl rfl rfl (fun H hs=> .f ca155 rfl (bandOf_c M H k.m0 k.m1)) ?_
   refine .e (.al (zz:=fun b11=> ?_))
   refine .e (.st 0 (zz:=?_))
   refine .done (.seq (.block (.seq (.seq ?_))))
   cases h with
   | bad h=> exact(hb h).elim
   | send _ _ h1=>
     refine Tc.dr [] [] mixed rfl ?_
     refine .q 0 rfl .fa ?_
     refine .q 1 rfl .fa ?_
     refine .q 2 rfl (.ld 2) ?_
     refine .z 3 rfl (OpV.takeCall rfl rfl rfl rfl (fun H hs=> .f ca155 rfl (bandOf_c M H k.s0 k.s1))) ?_
     refine .q 4 rfl .fa ?_
     refine .q 5 rfl (.ld 4) ?_
     refine .z 6 rfl (OpV.takeCall rfl rfl rfl rfl (fun H hs=> .f ca169 rfl (has_no M H k.s0 k.s1 a h1))) ?_
     refine .q 7 rfl .nt ?_
     refine .q 8 rfl .sg ?_
     refine Ta.done (by kernel_rfl) ?_
     refine .tt rfl (.skip (.tt rfl (.sr ?_)))
     refine .x .bu ?_
     refine .e (.st 3 (zz:=?_))
     refine .g ?_
     refine .done ?_
     refine Tc.retN (E:=en) hK Tryz.func134 Tryz.results134 (vs:= [_,_]) (by refine⟨⟨3,_,_,_,_,_,_,_,rfl,rfl,rfl,rfl⟩,?_⟩;refine⟨rfl,?_⟩;exact trivial) ?_
     exact fun H' hs=> ⟨hs.base,rfl⟩
   | read _ _ h1 h2=>
     refine Tc.dr [] [] mixed rfl ?_
     refine .q 0 rfl .fa ?_
     refine .q 1 rfl .fa ?_
     refine .q 2 rfl (.ld 2) ?_
     refine .z 3 rfl (OpV.takeCall rfl rfl rfl rfl (fun H hs=> .f ca155 rfl (bandOf_c M H k.s0 k.s1))) ?_
     refine .q 4 rfl .fa ?_
     refine .q 5 rfl (.ld 4) ?_
     refine .z 6 rfl (OpV.takeCall rfl rfl rfl rfl (fun H hs=> .f ca169 rfl (has_yes M H k.s0 k.s1 a h1))) ?_
     refine .q 7 rfl .nt ?_
     refine .q 8 rfl .sg ?_
     refine Ta.done (by kernel_rfl) ?_
     refine .ff rfl (.seq ?_)
     refine Tc.dr [] [] mixed rfl ?_
     refine .q 0 rfl .fa ?_
     refine .q 1 rfl .fa ?_
     refine .q 2 rfl (.ld 2) ?_
     refine .z 3 rfl (OpV.takeCall rfl rfl rfl rfl (fun H hs=> .f ca155 rfl (bandOf_c M H k.r0 k.r1))) ?_
     refine .q 4 rfl .fa ?_
     refine .q 5 rfl (.ld 4) ?_
     refine .z 6 rfl (OpV.takeCall rfl rfl rfl rfl (fun H hs=> .f ca169 rfl (has_no M H k.r0 k.r1 r h2))) ?_
     refine .q 7 rfl .nt ?_
     refine .q 8 rfl .sg ?_
     refine Ta.done (by kernel_rfl) ?_
     refine .tt rfl (.skip (.tt rfl (.sr ?_)))
     refine .x .bu ?_
     refine .e (.st 3 (zz:=?_))
     refine .g ?_
     refine .done ?_
     refine Tc.retN (E:=en) hK Tryz.func134 Tryz.results134 (vs:= [_,_]) (by refine⟨⟨3,_,_,_,_,_,_,_,rfl,rfl,rfl,rfl⟩,?_⟩;refine⟨rfl,?_⟩;exact trivial) ?_
     exact fun H' hs=> ⟨hs.base,rfl⟩
   | lean _ _ h1 h2 h3=>
     refine Tc.dr [] [] mixed rfl ?_
     refine .q 0 rfl .fa ?_
     refine .q 1 rfl .fa ?_
     refine .q 2 rfl (.ld 2) ?_
     refine .z 3 rfl (OpV.takeCall rfl rfl rfl rfl (fun H hs=> .f ca155 rfl (bandOf_c M H k.s0 k.s1))) ?_
     refine .q 4 rfl .fa ?_
     refine .q 5 rfl (.ld 4) ?_
     refine .z 6 rfl (OpV.takeCall rfl rfl rfl rfl (fun H hs=> .f ca169 rfl (has_yes M H k.s0 k.s1 a h1))) ?_
     refine .q 7 rfl .nt ?_
     refine .q 8 rfl .sg ?_
     refine Ta.done (by kernel_rfl) ?_
     refine .ff rfl (.seq ?_)
     refine Tc.dr [] [] mixed rfl ?_
     refine .q 0 rfl .fa ?_
     refine .q 1 rfl .fa ?_
     refine .q 2 rfl (.ld 2) ?_
     refine .z 3 rfl (OpV.takeCall rfl rfl rfl rfl (fun H hs=> .f ca155 rfl (bandOf_c M H k.r0 k.r1))) ?_
     refine .q 4 rfl .fa ?_
     refine .q 5 rfl (.ld 4) ?_
     refine .z 6 rfl (OpV.takeCall rfl rfl rfl rfl (fun H hs=> .f ca169 rfl (has_yes M H k.r0 k.r1 r h2))) ?_
     refine .q 7 rfl .nt ?_
     refine .q 8 rfl .sg ?_
     refine Ta.done (by kernel_rfl) ?_
     refine .ff rfl ?_
     refine Tc.dr [] [] mixed rfl ?_
     refine .q 0 rfl .fa ?_
     refine .q 1 rfl .fa ?_
     refine .q 2 rfl .fa ?_
     refine .q 3 rfl (.ld 2) ?_
     refine .z 4 rfl (OpV.takeCall rfl rfl rfl rfl (fun H hs=> .f ca155 rfl (bandOf_c M H k.l0 k.l1))) ?_
     refine .q 5 rfl .fa ?_
     refine .q 6 rfl (.ld 4) ?_
     refine .z 7 rfl (OpV.takeCall rfl rfl rfl rfl (fun H hs=> .f ca169 rfl (has_no M H k.l0 k.l1 n h3))) ?_
     refine .q 8 rfl .nt ?_
     refine .q 9 rfl .sg ?_
     refine Ta.done (by kernel_rfl) ?_
     refine .tt rfl (.sr ?_)
     refine .x .bu ?_
     refine .e (.st 3 (zz:=?_))
     refine .g ?_
     refine .done ?_
     refine Tc.retN (E:=en) hK Tryz.func134 Tryz.results134 (vs:= [_,_]) (by refine⟨⟨3,_,_,_,_,_,_,_,rfl,rfl,rfl,rfl⟩,?_⟩;refine⟨rfl,?_⟩;exact trivial) ?_
     exact fun H' hs=> ⟨hs.base,rfl⟩
   | tally _ _ h1 h2 h3 h4=>
     refine Tc.dr [] [] mixed rfl ?_
     refine .q 0 rfl .fa ?_
     refine .q 1 rfl .fa ?_
     refine .q 2 rfl (.ld 2) ?_
     refine .z 3 rfl (OpV.takeCall rfl rfl rfl rfl (fun H hs=> .f ca155 rfl (bandOf_c M H k.s0 k.s1))) ?_
     refine .q 4 rfl .fa ?_
     refine .q 5 rfl (.ld 4) ?_
     refine .z 6 rfl (OpV.takeCall rfl rfl rfl rfl (fun H hs=> .f ca169 rfl (has_yes M H k.s0 k.s1 a h1))) ?_
     refine .q 7 rfl .nt ?_
     refine .q 8 rfl .sg ?_
     refine Ta.done (by kernel_rfl) ?_
     refine .ff rfl (.seq ?_)
     refine Tc.dr [] [] mixed rfl ?_
     refine .q 0 rfl .fa ?_
     refine .q 1 rfl .fa ?_
     refine .q 2 rfl (.ld 2) ?_
     refine .z 3 rfl (OpV.takeCall rfl rfl rfl rfl (fun H hs=> .f ca155 rfl (bandOf_c M H k.r0 k.r1))) ?_
     refine .q 4 rfl .fa ?_
     refine .q 5 rfl (.ld 4) ?_
     refine .z 6 rfl (OpV.takeCall rfl rfl rfl rfl (fun H hs=> .f ca169 rfl (has_yes M H k.r0 k.r1 r h2))) ?_
     refine .q 7 rfl .nt ?_
     refine .q 8 rfl .sg ?_
     refine Ta.done (by kernel_rfl) ?_
     refine .ff rfl ?_
     refine Tc.dr [] [] mixed rfl ?_
     refine .q 0 rfl .fa ?_
     refine .q 1 rfl .fa ?_
     refine .q 2 rfl .fa ?_
     refine .q 3 rfl (.ld 2) ?_
     refine .z 4 rfl (OpV.takeCall rfl rfl rfl rfl (fun H hs=> .f ca155 rfl (bandOf_c M H k.l0 k.l1))) ?_
     refine .q 5 rfl .fa ?_
     refine .q 6 rfl (.ld 4) ?_
     refine .z 7 rfl (OpV.takeCall rfl rfl rfl rfl (fun H hs=> .f ca169 rfl (has_yes M H k.l0 k.l1 n h3))) ?_
     refine .q 8 rfl .nt ?_
     refine .q 9 rfl .sg ?_
     refine Ta.done (by kernel_rfl) ?_
     refine .ff rfl (.sr ?_)
     refine .x .fa ?_
     refine .x (.ld 4) ?_
     refine .x .ln ?_
     refine .x .fa ?_
     refine .x (.ld 1) ?_
     refine .x .ln ?_
     refine .i ?_ (z:=neq_t (by omega))
     refine .g ?_
     refine .done (.tt rfl (.sr ?_))
     refine .x .bu ?_
     refine .e (.st 3 (zz:=?_))
     refine .g ?_
     refine .done ?_
     refine Tc.retN (E:=en) hK Tryz.func134 Tryz.results134 (vs:= [_,_]) (by refine⟨⟨3,_,_,_,_,_,_,_,rfl,rfl,rfl,rfl⟩,?_⟩;refine⟨rfl,?_⟩;exact trivial) ?_
     exact fun H' hs=> ⟨hs.base,rfl⟩
   | @move _ _ _ _ _ j _ _ h1 h2 h3 h4 h5 h6 h7=>
     refine Tc.dr [] [] mixed rfl ?_
     refine .q 0 rfl .fa ?_
     refine .q 1 rfl .fa ?_
     refine .q 2 rfl (.ld 2) ?_
     refine .z 3 rfl (OpV.takeCall rfl rfl rfl rfl (fun H hs=> .f ca155 rfl (bandOf_c M H k.s0 k.s1))) ?_
     refine .q 4 rfl .fa ?_
     refine .q 5 rfl (.ld 4) ?_
     refine .z 6 rfl (OpV.takeCall rfl rfl rfl rfl (fun H hs=> .f ca169 rfl (has_yes M H k.s0 k.s1 a h1))) ?_
     refine .q 7 rfl .nt ?_
     refine .q 8 rfl .sg ?_
     refine Ta.done (by kernel_rfl) ?_
     refine .ff rfl (.seq ?_)
     refine Tc.dr [] [] mixed rfl ?_
     refine .q 0 rfl .fa ?_
     refine .q 1 rfl .fa ?_
     refine .q 2 rfl (.ld 2) ?_
     refine .z 3 rfl (OpV.takeCall rfl rfl rfl rfl (fun H hs=> .f ca155 rfl (bandOf_c M H k.r0 k.r1))) ?_
     refine .q 4 rfl .fa ?_
     refine .q 5 rfl (.ld 4) ?_
     refine .z 6 rfl (OpV.takeCall rfl rfl rfl rfl (fun H hs=> .f ca169 rfl (has_yes M H k.r0 k.r1 r h2))) ?_
     refine .q 7 rfl .nt ?_
     refine .q 8 rfl .sg ?_
     refine Ta.done (by kernel_rfl) ?_
     refine .ff rfl ?_
     refine Tc.dr [] [] mixed rfl ?_
     refine .q 0 rfl .fa ?_
     refine .q 1 rfl .fa ?_
     refine .q 2 rfl .fa ?_
     refine .q 3 rfl (.ld 2) ?_
     refine .z 4 rfl (OpV.takeCall rfl rfl rfl rfl (fun H hs=> .f ca155 rfl (bandOf_c M H k.l0 k.l1))) ?_
     refine .q 5 rfl .fa ?_
     refine .q 6 rfl (.ld 4) ?_
     refine .z 7 rfl (OpV.takeCall rfl rfl rfl rfl (fun H hs=> .f ca169 rfl (has_yes M H k.l0 k.l1 n h3))) ?_
     refine .q 8 rfl .nt ?_
     refine .q 9 rfl .sg ?_
     refine Ta.done (by kernel_rfl) ?_
     refine .ff rfl (.sr ?_)
     refine .x .fa ?_
     refine .x (.ld 4) ?_
     refine .x .ln ?_
     refine .x .fa ?_
     refine .x (.ld 1) ?_
     refine .x .ln ?_
     refine .i ?_ (z:=neq_f (by omega))
     refine .g ?_
     refine .done (.ff rfl (.sr ?_))
     refine .x .fa ?_
     refine .x (.ld 4) ?_
     refine .x .mf ?_
     refine .c rfl rfl rfl rfl (fun H hs=> .f ca170 rfl (ContainsFunc_yes M H A mv m ca _ hm (by omega) (hA.le hs.base) j (by omega) (past_takes M H k.m0 k.m1 b11 mv (hs.get (i:=0) rfl) j h6 h7))) ?_
     refine .g ?_
     refine .done (.tt rfl (.sr ?_))
     refine .x .bu ?_
     refine .e (.st 3 (zz:=?_))
     refine .g ?_
     refine .done ?_
     refine Tc.retN (E:=en) hK Tryz.func134 Tryz.results134 (vs:= [_,_]) (by refine⟨⟨3,_,_,_,_,_,_,_,rfl,rfl,rfl,rfl⟩,?_⟩;refine⟨rfl,?_⟩;exact trivial) ?_
     exact fun H' hs=> ⟨hs.base,rfl⟩
theorem Seen_err(k:Lk)(hG:Glob H)(co a r n:Int)(mv:List Int)(e:Int)(h:PErr k co a r n mv e)(A:Option Addr)(m ca:Nat)(hm:m=mv.length)(hm6:m≤20)(hA:Nums H A mv):
   CallT M 72 #[k.val,.int .i64 co,.agg ⟨[.int .i64 a,.int .i64 r,.int .i64 n,.slice A m ca]⟩] H (fun v H'=> H.le H'∧v=.tuple ⟨[.slice none 0 0,.int .i64 e]⟩):=by
 have he:=h.pos
 refine CallT.enter (vs:= [k.val,.int .i64 co,.agg ⟨[.int .i64 a,.int .i64 r,.int .i64 n,.slice A m ca]⟩]) Tryz.func72 rfl Tryz.ntmps72 (Nat.le_of_ble_eq_true rfl) (SymSt.nil _) fun St c cs hK=> ?_
 refine .sr ?_
 refine .e (.bx (zz:=fun b3=> ?_))
 refine .e (.bx (zz:=fun b5=> ?_))
 refine .g ?_
 refine .g ?_
 refine .done (.sr ?_)
 refine .x (.ld 1) ?_
 refine .m ?_
 refine .x (.ld 0) ?_
 refine .c rfl rfl rfl rfl (fun H hs=> .f ca134 rfl (past_err M H k (glob_le hG hs.base) co a r n mv e h A m ca hm hm6 (hA.le hs.base))) ?_
 refine .m ?_
 refine .x .et ?_
 refine .x .et ?_
 refine .e (.al (zz:=fun b8=> ?_))
 refine .e (.st 0 (zz:=?_))
 refine .g ?_
 refine .done (.seq (.sr ?_))
 refine .m ?_
 refine .i ?_ (z:=neq_t (by omega))
 refine .done (.tt rfl (.sr ?_))
 refine .m ?_
 refine .g ?_
 refine .g ?_
 refine .done ?_
 refine .rt hK Tryz.func72 Tryz.results72 [_,_] ?_
 exact fun H' hs=> ⟨hs.base,rfl⟩
theorem Read_err(k:Lk)(hG:Glob H)(co a r n:Int)(mv:List Int)(e:Int)(h:PErr k co a r n mv e)(A:Option Addr)(m ca:Nat)(hm:m=mv.length)(hm6:m≤20)(hA:Nums H A mv):
   CallT M 74 #[k.val,.int .i64 co,.agg ⟨[.int .i64 a,.int .i64 r,.int .i64 n,.slice A m ca]⟩] H (fun v H'=> H.le H'∧v=.tuple ⟨[.int .i64 0,.bool false,.int .i64 e]⟩):=by
 have he:=h.pos
 refine CallT.enter (vs:= [k.val,.int .i64 co,.agg ⟨[.int .i64 a,.int .i64 r,.int .i64 n,.slice A m ca]⟩]) Tryz.func74 rfl Tryz.ntmps74 (Nat.le_of_ble_eq_true rfl) (SymSt.nil _) fun St c cs hK=> ?_
 refine .sr ?_
 refine .e (.bx (zz:=fun b3=> ?_))
 refine .e (.bx (zz:=fun b5=> ?_))
 refine .g ?_
 refine .g ?_
 refine .g ?_
 refine .done (.sr ?_)
 refine .x (.ld 1) ?_
 refine .m ?_
 refine .x (.ld 0) ?_
 refine .c rfl rfl rfl rfl (fun H hs=> .f ca134 rfl (past_err M H k (glob_le hG hs.base) co a r n mv e h A m ca hm hm6 (hA.le hs.base))) ?_
 refine .m ?_
 refine .x .et ?_
 refine .x .et ?_
 refine .e (.al (zz:=fun b9=> ?_))
 refine .e (.st 0 (zz:=?_))
 refine .g ?_
 refine .done (.seq (.sr ?_))
 refine .m ?_
 refine .i ?_ (z:=neq_t (by omega))
 refine .done (.tt rfl (.sr ?_))
 refine .m ?_
 refine .g ?_
 refine .g ?_
 refine .g ?_
 refine .done ?_
 refine .rt hK Tryz.func74 Tryz.results74 [_,_,_] ?_
 exact fun H' hs=> ⟨hs.base,rfl⟩
theorem Edges_no(co:Int)(h:¬(0≤co∧co≤31)):CallT M 84 #[.int .i64 co] H (fun v H'=> H.le H'∧v=.tuple ⟨[.slice none 0 0,.int .i64 1]⟩):=by
 refine CallT.enter (vs:= [.int .i64 co]) Tryz.func84 rfl Tryz.ntmps84 (Nat.le_of_ble_eq_true rfl) (SymSt.nil _) fun St c cs hK=> ?_
 refine .sr ?_
 refine .g ?_
 refine .g ?_
 refine .done (.seq (.sr ?_))
 refine .m ?_
 refine .c rfl rfl rfl rfl (fun H hs=> .f ca141 rfl (isCode_no M H co h)) ?_
 refine .x .nt ?_
 refine .done (.tt rfl (.sr ?_))
 refine .g ?_
 refine .g ?_
 refine .done ?_
 refine .rt hK Tryz.func84 Tryz.results84 [_,_] ?_
 exact fun H' hs=> ⟨hs.base,rfl⟩
theorem refEdges_no(co:Int)(h:¬(0≤co∧co≤31)):CallT M 85 #[.int .i64 co] H (fun v H'=> H.le H'∧v=.tuple ⟨[.slice none 0 0,.int .i64 1]⟩):=by
 refine CallT.enter (vs:= [.int .i64 co]) Tryz.func85 rfl Tryz.ntmps85 (Nat.le_of_ble_eq_true rfl) (SymSt.nil _) fun St c cs hK=> ?_
 refine .sr ?_
 refine .g ?_
 refine .g ?_
 refine .done (.seq (.sr ?_))
 refine .m ?_
 refine .c rfl rfl rfl rfl (fun H hs=> .f ca93 rfl (IsCode_is M H co false (decide_eq_false h))) ?_
 refine .x .nt ?_
 refine .done (.tt rfl (.sr ?_))
 refine .g ?_
 refine .g ?_
 refine .done ?_
 refine .rt hK Tryz.func85 Tryz.results85 [_,_] ?_
 exact fun H' hs=> ⟨hs.base,rfl⟩
theorem refEdges_yes(code:Nat)(hc:code<32):CallT M 85 #[.int .i64 (code:Nat)] H (ToldQ (placesV (placesTo code 7)) H):=by
 refine CallT.enter (vs:= [.int .i64 (code:Nat)]) Tryz.func85 rfl Tryz.ntmps85 (Nat.le_of_ble_eq_true rfl) (SymSt.nil _) fun St c cs hK=> ?_
 refine .sr ?_
 refine .g ?_
 refine .g ?_
 refine .done (.seq (.sr ?_))
 refine .m ?_
 refine .c rfl rfl rfl rfl (fun H hs=> .f ca93 rfl (IsCode_is M H code true (decide_eq_true (by omega)))) ?_
 refine .x .nt ?_
 refine .done (.ff rfl (.skip (.sr ?_)))
 refine .m ?_
 refine .e (Or.callNew Gl.val Gl.bl (fun g:Gl 3 1=> g.l=placesV (placesTo code 7)) rfl rfl rfl rfl rfl (by decide) gl_nodup (fun H hs=> .f ca52 rfl (EdgesOf_c M H code hc)) (fun g hg=> ?_))
 refine .g ?_
 refine .g ?_
 refine .done ?_
 refine .rt hK Tryz.func85 Tryz.results85 [_,_] ?_
 exact fun H' hs=> ⟨hs.base,g,rfl,hg,fun y hy=> ⟨hs.at_ y (by simp[hy]),hs.out y (by simp[hy])⟩⟩
end
end Go.Proofs.YtpdaenfglbgfkaaGreatDoor
