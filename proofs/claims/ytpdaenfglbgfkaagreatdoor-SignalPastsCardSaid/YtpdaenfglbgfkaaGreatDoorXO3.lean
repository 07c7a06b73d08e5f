/-
  CheckLink, Edges, Seen and Read are as the reference says: the walk.
-/
import Derived.Test.YtpdaenfglbgfkaaGreatDoorX08
import Derived.Test.YtpdaenfglbgfkaaGreatDoorXO2
namespace Go.Proofs.YtpdaenfglbgfkaaGreatDoor
open Go.RL
set_option maxRecDepth 10000
set_option maxHeartbeats 16000000
def ToldA(l:List Int)(e:Int)(H:View)(v:Value)(H':View):Prop:=H.le H'∧∃g:Gl 3 1,v=.tuple ⟨[g.val,.int .i64 e]⟩∧g.l=intsL l∧∀y∈g.bl,H' y.1=some y.2∧H y.1=none
theorem ToldA.nil {e:Int}{H:View}{v:Value}{H':View}(h:H.le H'∧v=.tuple ⟨[.slice none 0 0,.int .i64 e]⟩):ToldA [] e H v H':=⟨h.1,Gl.nil 3 1,h.2,rfl,by simp[Gl.nil,Gl.bl]⟩
def EAns(c:Int)(es:List Int)(e:Int):Prop:=¬(0≤c∧c≤31)∧es= []∧e=1∨∃code:Nat,c=(code:Int)∧code<32∧es=numsL (placesTo code 7)∧e=0
def PAns(k:Lk)(c a r n:Int)(mv:List Int)(sl:List Int)(w:Int)(o:Bool)(e:Int):Prop:=
 PErr k c a r n mv e∧sl= []∧w=0∧o=false∨k.ok=true∧∃code:Nat,c=(code:Int)∧code<32∧k.Past code a r n mv∧sl=seenL (placesTo code 7) mv a n∧readV (readN (pastView code a r n mv))=.tuple ⟨[.int .i64 w,.bool o,.int .i64 0]⟩∧e=0
theorem EAns.some(c:Int):∃es e,EAns c es e∧es.length≤6:=by
 by_cases h:0≤c∧c≤31
 · obtain⟨code,rfl⟩:∃n:Nat,c=(n:Int):=⟨c.toNat,by omega⟩
   refine⟨_,0,.inr ⟨code,rfl,by omega,rfl,rfl⟩,?_⟩
   rw[numsL_len]
   exact(places_in code (by omega)).2.1
 · exact⟨[],1,.inl ⟨h,rfl,rfl⟩,by simp⟩
theorem PAns.some(k:Lk)(c a r n:Int)(mv:List Int):∃sl w o e,PAns k c a r n mv sl w o e∧sl.length≤6:=by
 rcases PErr.or_past k c a r n mv with ⟨e,h⟩|⟨hk,code,rfl,hc,hP⟩
 · exact⟨[],0,false,e,.inl ⟨h,rfl,rfl,rfl⟩,by simp⟩
 · refine⟨_,_,_,0,.inr ⟨hk,code,rfl,hc,hP,rfl,readV_eq _,rfl⟩,?_⟩
   rw[seenL_len]
   exact(places_in code hc).2.1
section
variable(M:Md Tryz.prog)(H:View)
theorem long_c(A:Option Addr)(m ca:Nat)(t:Bool)(ht:decide (20<m)=t):CallT M 45 #[.slice A m ca] H (fun v H'=> H.le H'∧v=.bool t):=by
 by_cases h:20<m
 · rw[decide_eq_true h] at ht
   subst ht
   refine CallT.enter (vs:= [.slice A m ca]) Tryz.func45 rfl Tryz.ntmps45 (Nat.le_of_ble_eq_true rfl) (SymSt.nil _) fun St c cs hK=> ?_
   refine .sr ?_
   refine .g ?_
   refine .done (.sr ?_)
   refine .m ?_
   refine .x .ln ?_
   refine .i ?_ (z:=gtr_t (by omega))
   refine .g ?_
   refine .done ?_
   refine .rt hK Tryz.func45 Tryz.results45 [_] ?_
   exact fun H' hs=> ⟨hs.base,rfl⟩
 · rw[decide_eq_false h] at ht
   subst ht
   refine CallT.enter (vs:= [.slice A m ca]) Tryz.func45 rfl Tryz.ntmps45 (Nat.le_of_ble_eq_true rfl) (SymSt.nil _) fun St c cs hK=> ?_
   refine .sr ?_
   refine .g ?_
   refine .done (.sr ?_)
   refine .m ?_
   refine .x .ln ?_
   refine .i ?_ (z:=gtr_f (by omega))
   refine .g ?_
   refine .done ?_
   refine .rt hK Tryz.func45 Tryz.results45 [_] ?_
   exact fun H' hs=> ⟨hs.base,rfl⟩
theorem Edges_any(c:Int)(es:List Int)(e:Int)(h:EAns c es e):CallT M 84 #[.int .i64 c] H (ToldA es e H):=by
 rcases h with ⟨h,rfl,rfl⟩|⟨code,rfl,hc,rfl,rfl⟩
 · exact CallT.mono (Edges_no M H c h) fun v H'=> ToldA.nil
 · exact CallT.mono (Edges_c M H code hc) (by rintro v H' ⟨h1,g,h2,h3,h4⟩;exact⟨h1,g,h2,h3.trans (places_nums _),h4⟩)
theorem refEdges_any(c:Int)(es:List Int)(e:Int)(h:EAns c es e):CallT M 85 #[.int .i64 c] H (ToldA es e H):=by
 rcases h with ⟨h,rfl,rfl⟩|⟨code,rfl,hc,rfl,rfl⟩
 · exact CallT.mono (refEdges_no M H c h) fun v H'=> ToldA.nil
 · exact CallT.mono (refEdges_yes M H code hc) (by rintro v H' ⟨h1,g,h2,h3,h4⟩;exact⟨h1,g,h2,h3.trans (places_nums _),h4⟩)
variable(k:Lk)(c a r n:Int)(mv sl:List Int)(w:Int)(o:Bool)(e:Int)(h:PAns k c a r n mv sl w o e)(A:Option Addr)(m ca:Nat)(hm:m=mv.length)(hm6:m≤20)(hA:Nums H A mv)
include h hm hm6 hA
theorem Seen_any(hG:Glob H):CallT M 72 #[k.val,.int .i64 c,.agg ⟨[.int .i64 a,.int .i64 r,.int .i64 n,.slice A m ca]⟩] H (ToldA sl e H):=by
 rcases h with ⟨h,rfl,rfl,rfl⟩|⟨hk,code,rfl,hc,hP,rfl,_,rfl⟩
 · exact CallT.mono (Seen_err M H k hG c a r n mv e h A m ca hm hm6 hA) fun v H'=> ToldA.nil
 · exact Seen_c M H k hG hk code hc a r n mv hP A m ca (by have:=hP.len;omega) hA
theorem refSeen_any:CallT M 87 #[k.val,.int .i64 c,.agg ⟨[.int .i64 a,.int .i64 r,.int .i64 n,.slice A m ca]⟩] H (ToldA sl e H):=by
 rcases h with ⟨h,rfl,rfl,rfl⟩|⟨hk,code,rfl,hc,hP,rfl,_,rfl⟩
 · exact CallT.mono (refSeen_err M H k c a r n mv e h A m ca hm hm6 hA) fun v H'=> ToldA.nil
 · exact refSeen_good M H k hk code hc a r n mv hP A m ca (by have:=hP.len;omega) hA
theorem Read_any(hG:Glob H):CallT M 74 #[k.val,.int .i64 c,.agg ⟨[.int .i64 a,.int .i64 r,.int .i64 n,.slice A m ca]⟩] H (fun v H'=> H.le H'∧v=.tuple ⟨[.int .i64 w,.bool o,.int .i64 e]⟩):=by
 rcases h with ⟨h,rfl,rfl,rfl⟩|⟨hk,code,rfl,hc,hP,rfl,hr,rfl⟩
 · exact Read_err M H k hG c a r n mv e h A m ca hm hm6 hA
 · rw[←hr]
   exact Read_good M H k hG hk code hc a r n mv hP A m ca (by have:=hP.len;omega) hA
theorem refRead_any:CallT M 88 #[k.val,.int .i64 c,.agg ⟨[.int .i64 a,.int .i64 r,.int .i64 n,.slice A m ca]⟩] H (fun v H'=> H.le H'∧v=.tuple ⟨[.int .i64 w,.bool o,.int .i64 e]⟩):=by
 rcases h with ⟨h,rfl,rfl,rfl⟩|⟨hk,code,rfl,hc,hP,rfl,hr,rfl⟩
 · exact refRead_err M H k c a r n mv e h A m ca hm hm6 hA
 · rw[←hr]
   exact refRead_good M H k hk code hc a r n mv hP A m ca (by have:=hP.len;omega) hA
end
theorem Pasts_w {St:View→Goroutine→Prop}{cs:List Frame}(H:View)(hG:Glob H)(k:Lk)(c a r n:Int)(A:Option Addr)(mv:List Int)(m ca:Nat)(hm:m=mv.length)(hA:Nums H A mv)
   (hR:∀(H₀:View) (R:Rg) (L:Bl) (kk:List Item),lk R 6=some (.bool true)→H.le H₀→Tc (Mp Tryz.prog) St 100 ⟨20,.normal,none⟩ H₀ cs R L [] (.code .ret::kk)):
   Tc (Mp Tryz.prog) St 100 ⟨20,.normal,none⟩ H cs (argR [k.val,.int .i64 c,.agg ⟨[.int .i64 a,.int .i64 r,.int .i64 n,.slice A m ca]⟩]) [] [] [.code (bodyOf Tryz.f20)]:=by
 by_cases h20:20<m
 · refine .sr ?_
   refine .e (.bx (zz:=fun b3=> ?_))
   refine .e (.bx (zz:=fun b5=> ?_))
   refine .g ?_
   refine .done (.seq (.sr ?_))
   refine .x .fa ?_
   refine .x (.ld 0) ?_
   refine .c rfl rfl rfl rfl (fun H hs=> .f ca45 rfl (long_c _ H A m ca true (decide_eq_true h20))) ?_
   refine .done (.tt rfl (.sr ?_))
   refine .c rfl rfl rfl rfl (fun H hs=> .f ca31 rfl (signalled_c H (glob_le hG hs.base))) ?_
   refine .g ?_
   refine .done ?_
   exact hR _ _ _ _ rfl (View.le_refl _)
 · have hm6:m≤20:=by omega
   obtain⟨es,ee,hE,hE6⟩:=EAns.some c
   obtain⟨sl,w,o,e,hP,hP6⟩:=PAns.some k c a r n mv
   obtain⟨al,hal⟩:∃x:Int,(if k.ok then 0 else 1:Int)=x:=⟨_,rfl⟩
   refine .sr ?_
   refine .e (.bx (zz:=fun b3=> ?_))
   refine .e (.bx (zz:=fun b5=> ?_))
   refine .g ?_
   refine .done (.seq (.sr ?_))
   refine .x .fa ?_
   refine .x (.ld 0) ?_
   refine .c rfl rfl rfl rfl (fun H hs=> .f ca45 rfl (long_c _ H A m ca false (decide_eq_false h20))) ?_
   refine .done (.ff rfl (.skip (.sr ?_)))
   refine .m ?_
   refine .e (Or.callNew (fun g:Gl 3 1=> .tuple ⟨[g.val,.int .i64 ee]⟩) Gl.bl (fun g:Gl 3 1=> g.l=intsL es) rfl rfl rfl rfl rfl (by decide) gl_nodup (fun H hs=> .f ca84 rfl (Edges_any _ H c es ee hE)) (fun g1 hg1=> ?_))
   refine .m ?_
   refine .x .et ?_
   refine .x .et ?_
   refine .g ?_
   refine .g ?_
   refine .done (.sr ?_)
   refine .m ?_
   refine .e (Or.callNew (fun g:Gl 3 1=> .tuple ⟨[g.val,.int .i64 ee]⟩) Gl.bl (fun g:Gl 3 1=> g.l=intsL es) rfl rfl rfl rfl rfl (by decide) gl_nodup (fun H hs=> .f ca85 rfl (refEdges_any _ H c es ee hE)) (fun g2 hg2=> ?_))
   refine .m ?_
   refine .x .et ?_
   refine .x .et ?_
   refine .g ?_
   refine .g ?_
   refine .done (.seq (.seq ?_))
   refine Tc.dr [] [] mixed rfl ?_
   refine .q 0 rfl (.ld 1) ?_
   refine .z 1 rfl (OpV.takeCall rfl rfl rfl rfl (fun H hs=> .f ca86 rfl (CallT.is (.int .i64 al) (by rewrite [hal];rfl) (checkLink_c _ H k (glob_le hG hs.base))))) ?_
   refine .q 2 rfl (.ld 1) ?_
   refine .z 3 rfl (OpV.takeCall rfl rfl rfl rfl (fun H hs=> .f ca61 rfl (CallT.is (.int .i64 al) (by rewrite [hal];rfl) (refLink_c _ H k)))) ?_
   refine .q 4 rfl (.it (zz:=neq_f (by omega))) ?_
   refine .q 5 rfl .mv ?_
   refine .q 6 rfl .mv ?_
   refine .q 7 rfl .mv ?_
   refine .z 8 rfl (OpV.takeCall rfl rfl rfl rfl (fun H hs=> .f ca23 rfl (SameNums_two _ H _ _ es g1.n g2.n g1.cap g2.cap (Nums.of hg1 (fun y hy=> hs.at_ y (by simp[hy]))).1 (Nums.of hg2 (fun y hy=> hs.at_ y (by simp[hy]))).1 (by omega) (Nums.of hg1 (fun y hy=> hs.at_ y (by simp[hy]))).2 (Nums.of hg2 (fun y hy=> hs.at_ y (by simp[hy]))).2))) ?_
   refine .q 9 rfl .nt ?_
   refine .q 10 rfl .pk ?_
   refine .q 11 rfl .mv ?_
   refine .q 12 rfl .mv ?_
   refine .q 13 rfl .mv ?_
   refine .q 14 rfl (.it (zz:=neq_f (by omega))) ?_
   refine .q 15 rfl .pk ?_
   refine Ta.done (by kernel_rfl) ?_
   refine .ff rfl (.skip (.seq ?_))
   refine Tc.db (R':= [(1,.int .i64 c),(3,.pointer (some ⟨b3,0,none⟩)),(5,.pointer (some ⟨b5,0,none⟩))]) (L':= [(b5,true,.cells ⟨[.int .i64 a,.int .i64 r,.int .i64 n,.slice A m ca]⟩ 39 (0,0)),(b3,true,.cells ⟨k.val.cells.toList⟩ 27 (0,0))]) ?_
   refine .r ?_
   refine .x (.ld 1) ?_
   refine .m ?_
   refine .x (.ld 0) ?_
   refine .e (Or.callNew (fun g:Gl 3 1=> .tuple ⟨[g.val,.int .i64 e]⟩) Gl.bl (fun g:Gl 3 1=> g.l=intsL sl) rfl rfl rfl rfl rfl (by decide) gl_nodup (fun H hs=> .f ca72 rfl (Seen_any _ H k c a r n mv sl w o e hP A m ca hm hm6 (hA.le hs.base) (glob_le hG hs.base))) (fun g3 hg3=> ?_))
   refine .m ?_
   refine .x .et ?_
   refine .x .et ?_
   refine .g ?_
   refine .g ?_
   refine .done (.sr ?_)
   refine .x (.ld 1) ?_
   refine .m ?_
   refine .x (.ld 0) ?_
   refine .e (Or.callNew (fun g:Gl 3 1=> .tuple ⟨[g.val,.int .i64 e]⟩) Gl.bl (fun g:Gl 3 1=> g.l=intsL sl) rfl rfl rfl rfl rfl (by decide) gl_nodup (fun H hs=> .f ca87 rfl (refSeen_any _ H k c a r n mv sl w o e hP A m ca hm hm6 (hA.le hs.base))) (fun g4 hg4=> ?_))
   refine .m ?_
   refine .x .et ?_
   refine .x .et ?_
   refine .g ?_
   refine .g ?_
   refine .done (.seq (.sr ?_))
   refine .m ?_
   refine .m ?_
   refine .c rfl rfl rfl rfl (fun H hs=> .f ca23 rfl (SameNums_two _ H _ _ sl g3.n g4.n g3.cap g4.cap (Nums.of hg3 (fun y hy=> hs.at_ y (by simp[hy]))).1 (Nums.of hg4 (fun y hy=> hs.at_ y (by simp[hy]))).1 (by omega) (Nums.of hg3 (fun y hy=> hs.at_ y (by simp[hy]))).2 (Nums.of hg4 (fun y hy=> hs.at_ y (by simp[hy]))).2)) ?_
   refine .x .nt ?_
   refine .m ?_
   refine .m ?_
   refine .m ?_
   refine .i ?_ (z:=neq_f (by omega))
   refine .x .pk ?_
   refine .done (.ff rfl (.skip (.seq ?_)))
   refine Tc.db (R':= [(1,.int .i64 c),(3,.pointer (some ⟨b3,0,none⟩)),(5,.pointer (some ⟨b5,0,none⟩))]) (L':= [(b5,true,.cells ⟨[.int .i64 a,.int .i64 r,.int .i64 n,.slice A m ca]⟩ 39 (0,0)),(b3,true,.cells ⟨k.val.cells.toList⟩ 27 (0,0))]) ?_
   refine .r ?_
   refine .x (.ld 1) ?_
   refine .m ?_
   refine .x (.ld 0) ?_
   refine .c rfl rfl rfl rfl (fun H hs=> .f ca74 rfl (Read_any _ H k c a r n mv sl w o e hP A m ca hm hm6 (hA.le hs.base) (glob_le hG hs.base))) ?_
   refine .m ?_
   refine .x .et ?_
   refine .x .et ?_
   refine .x .et ?_
   refine .g ?_
   refine .g ?_
   refine .g ?_
   refine .done (.sr ?_)
   refine .x (.ld 1) ?_
   refine .m ?_
   refine .x (.ld 0) ?_
   refine .c rfl rfl rfl rfl (fun H hs=> .f ca88 rfl (refRead_any _ H k c a r n mv sl w o e hP A m ca hm hm6 (hA.le hs.base))) ?_
   refine .m ?_
   refine .x .et ?_
   refine .x .et ?_
   refine .x .et ?_
   refine .g ?_
   refine .g ?_
   refine .g ?_
   refine .done (.seq ?_)
   cases o
   · refine .r ?_
     refine .m ?_
     refine .m ?_
     refine .i ?_ (z:=eql_t (by omega))
     refine .m ?_
     refine .m ?_
     refine .m ?_
     refine .x .eb ?_
     refine .x .pk ?_
     refine .m ?_
     refine .m ?_
     refine .m ?_
     refine .i ?_ (z:=eql_t (by omega))
     refine .x .pk ?_
     refine .m ?_
     refine .c rfl rfl rfl rfl (fun H hs=> .f ca31 rfl (signalled_c H (glob_le hG hs.base))) ?_
     refine .x .pk ?_
     refine .g ?_
     refine .done ?_
     exact hR _ _ _ _ rfl (View.le_refl _)
   · refine .r ?_
     refine .m ?_
     refine .m ?_
     refine .i ?_ (z:=eql_t (by omega))
     refine .m ?_
     refine .m ?_
     refine .m ?_
     refine .x .eb ?_
     refine .x .pk ?_
     refine .m ?_
     refine .m ?_
     refine .m ?_
     refine .i ?_ (z:=eql_t (by omega))
     refine .x .pk ?_
     refine .m ?_
     refine .c rfl rfl rfl rfl (fun H hs=> .f ca31 rfl (signalled_c H (glob_le hG hs.base))) ?_
     refine .x .pk ?_
     refine .g ?_
     refine .done ?_
     exact hR _ _ _ _ rfl (View.le_refl _)
end Go.Proofs.YtpdaenfglbgfkaaGreatDoor
