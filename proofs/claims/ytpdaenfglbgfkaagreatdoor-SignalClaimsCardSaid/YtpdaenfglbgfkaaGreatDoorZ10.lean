/-
  Reads, Right, Sure and Wrong are as the reference says: the walk.
-/
import Derived.Test.YtpdaenfglbgfkaaGreatDoorZ09
namespace Go.Proofs.YtpdaenfglbgfkaaGreatDoor
open Go.RL
set_option maxRecDepth 10000
set_option maxHeartbeats 16000000
def ToldB(l:List Int)(w:List Value)(H:View)(v:Value)(H':View):Prop:=H.le H'∧∃g:Gl 3 1,v=.tuple ⟨g.val::w⟩∧g.l=intsL l∧∀y∈g.bl,H' y.1=some y.2∧H y.1=none
theorem ToldB.nil {w:List Value}{H:View}{v:Value}{H':View}(h:H.le H'∧v=.tuple ⟨.slice none 0 0::w⟩):ToldB [] w H v H':=⟨h.1,Gl.nil 3 1,h.2,rfl,by simp[Gl.nil,Gl.bl]⟩
structure CAns(k:Lk)(c:Int)(rl:List Int)(F T:Int)(sl:List Int)(s r n:Int)(mv:List Int)(o:Bool)(e se:Int):Prop where
 reads:∀H,Glob H→CallT (Mp Tryz.prog) 21 #[k.val,.int .i64 c] H (ToldB rl [.int .i64 F,.int .i64 e] H)
 reads':∀H,CallT (Mp Tryz.prog) 22 #[k.val,.int .i64 c] H (ToldB rl [.int .i64 F,.int .i64 e] H)
 right:∀H,Glob H→CallT (Mp Tryz.prog) 24 #[k.val,.int .i64 c] H (fun v H'=> H.le H'∧v=.tuple ⟨[.int .i64 T,.int .i64 e]⟩)
 right':∀H,CallT (Mp Tryz.prog) 25 #[k.val,.int .i64 c] H (fun v H'=> H.le H'∧v=.tuple ⟨[.int .i64 T,.int .i64 e]⟩)
 sure:∀H,Glob H→CallT (Mp Tryz.prog) 26 #[k.val] H (ToldB sl [.int .i64 se] H)
 sure':∀H,CallT (Mp Tryz.prog) 27 #[k.val] H (ToldB sl [.int .i64 se] H)
 wrong:∀H,Glob H→CallT (Mp Tryz.prog) 28 #[k.val,.int .i64 c] H (fun v H'=> H.le H'∧∃g:Gl 3 1,v=.tuple ⟨[pastV s r n g,.bool o,.int .i64 e]⟩∧g.l=intsL mv∧∀y∈g.bl,H' y.1=some y.2∧H y.1=none)
 wrong':∀H,CallT (Mp Tryz.prog) 29 #[k.val,.int .i64 c] H (fun v H'=> H.le H'∧∃g:Gl 3 1,v=.tuple ⟨[pastV s r n g,.bool o,.int .i64 e]⟩∧g.l=intsL mv∧∀y∈g.bl,H' y.1=some y.2∧H y.1=none)
 len:rl.length≤32∧sl.length≤32∧mv.length≤32
theorem sure_some(k:Lk):∃sl se,(∀H,Glob H→CallT (Mp Tryz.prog) 26 #[k.val] H (ToldB sl [.int .i64 se] H))∧(∀H,CallT (Mp Tryz.prog) 27 #[k.val] H (ToldB sl [.int .i64 se] H))∧sl.length≤32:=by
 cases hk:k.ok with
 | false=> exact⟨[],1,fun H hG=> CallT.mono (Sure_no _ H k hG hk) fun v H'=> ToldB.nil,fun H=> CallT.mono (refSure_no _ H k hk) fun v H'=> ToldB.nil,by simp⟩
 | true=> exact⟨keepI k.sureOf 32,0,fun H hG=> CallT.mono (Sure_c _ H k hG hk) fun v H' ⟨h1,g,h2,h3,h4⟩=> ⟨h1,g,h2,h3.trans (keepI_eq _ _),h4⟩,fun H=> CallT.mono (refSure_yes _ H k hk) fun v H' ⟨h1,g,h2,h3,h4⟩=> ⟨h1,g,h2,h3.trans (keepI_eq _ _),h4⟩,keepI_len _ _⟩
theorem Lk.wrong_len {k:Lk}{c:Nat}{s r n:Int}{mv:List Int}(h:k.wrong c=some (s,r,n,mv)):mv.length=(placesTo c 7).length:=by
 unfold Lk.wrong at h
 obtain⟨z,hz,h1⟩:=List.exists_of_findSome?_eq_some h
 unfold Stg.wrong at h1
 obtain⟨x,hx,h2⟩:=Option.map_eq_some_iff.1 h1
 have h3:=z.leaves_len _ _ _ _ _ (List.mem_of_find?_eq_some hx)
 obtain⟨a,r',n',f,_,_,_,_,rfl⟩:=Lk.mem_stgs.1 hz
 cases h2
 exact h3.trans (Nat.zero_add _)
theorem CAns.ex(k:Lk)(c:Int):∃rl F T sl s r n mv o e se,CAns k c rl F T sl s r n mv o e se:=by
 obtain⟨sl,se,h1,h2,h3⟩:=sure_some k
 by_cases hb:Bad k c
 · exact⟨[],0,0,sl,0,0,0,[],false,1,se,fun H hG=> CallT.mono (Reads_no _ H k c hG hb) fun v H'=> ToldB.nil,fun H=> CallT.mono (refReads_no _ H k c hb) fun v H'=> ToldB.nil,fun H hG=> Right_no _ H k c hG hb,fun H=> refRight_no _ H k c hb,h1,h2,
     fun H hG=> CallT.mono (Wrong_no _ H k c hG hb) fun v H' ⟨g1,g2⟩=> ⟨g1,Gl.nil 3 1,g2,rfl,by simp[Gl.nil,Gl.bl]⟩,fun H=> CallT.mono (refWrong_no _ H k c hb) fun v H' ⟨g1,g2⟩=> ⟨g1,Gl.nil 3 1,g2,rfl,by simp[Gl.nil,Gl.bl]⟩,by simp,h3,by simp⟩
 · have hk:k.ok=true:=by
     cases h:k.ok with
     | true=> rfl
     | false=> exact(hb (.inl h)).elim
   have hcr:0≤c∧c≤31:=Classical.byContradiction fun h=> hb (.inr h)
   obtain⟨code,rfl⟩:∃n:Nat,c=(n:Int):=⟨c.toNat,by omega⟩
   have hc:code<32:=by omega
   obtain⟨s,r,n,mv,o,hl,hw⟩:∃s r n mv o,mv.length≤32∧∀H v H',PastT (k.wrong code) H v H'→H.le H'∧∃g:Gl 3 1,v=.tuple ⟨[pastV s r n g,.bool o,.int .i64 0]⟩∧g.l=intsL mv∧∀y∈g.bl,H' y.1=some y.2∧H y.1=none:=by
     cases hw:k.wrong code with
     | none=> exact⟨0,0,0,[],false,by simp,fun H v H' ⟨g1,g2⟩=> ⟨g1,Gl.nil 3 1,g2,rfl,by simp[Gl.nil,Gl.bl]⟩⟩
     | some w=>
       obtain⟨s,r,n,mv⟩:=w
       have h4:=Lk.wrong_len hw
       have h5:=(places_in code hc).2.1
       exact⟨s,r,n,mv,true,by omega,fun H v H' h=> h⟩
   exact⟨keepI (k.canRead code) 32,k.refused code,k.claim code,sl,s,r,n,mv,o,0,se,fun H hG=> CallT.mono (Reads_c _ H k code hG hk hc) fun v H' ⟨h1,g,h2,h3,h4⟩=> ⟨h1,g,h2,h3.trans (keepI_eq _ _),h4⟩,fun H=> CallT.mono (refReads_yes _ H k hk code hc) fun v H' ⟨h1,g,h2,h3,h4⟩=> ⟨h1,g,h2,h3.trans (keepI_eq _ _),h4⟩,fun H hG=> Right_c _ H k code hG hk hc,fun H=> refRight_yes _ H k hk code hc,h1,h2,
     fun H hG=> CallT.mono (Wrong_c _ H k code hG hk hc) (hw H),fun H=> CallT.mono (refWrong_yes _ H k hk code hc) (hw H),keepI_len _ _,h3,hl⟩
theorem Claims_w {St:View→Goroutine→Prop}{cs:List Frame}(H:View)(hG:Glob H)(k:Lk)(co:Int)
   (hR:∀(H₀:View) (R:Rg) (L:Bl) (kk:List Item),lk R 4=some (.bool true)→H.le H₀→Tc (Mp Tryz.prog) St 112 ⟨3,.normal,none⟩ H₀ cs R L [] (.code .ret::kk)):
   Tc (Mp Tryz.prog) St 112 ⟨3,.normal,none⟩ H cs (argR [k.val,.int .i64 co]) [] [] [.code (bodyOf Tryz.f3)]:=by
 obtain⟨rl,F,T,sl,s,r,n,mv,o,e,se,hA⟩:=CAns.ex k co
 obtain⟨l1,l2,l3⟩:=hA.len
 refine .sr ?_
 refine .e (.bx (zz:=fun b2=> ?_))
 refine .g ?_
 refine .done (.sr ?_)
 refine .x (.ld 0) ?_
 refine .m ?_
 refine .e (Or.callNew (fun g:Gl 3 1=> .tuple ⟨[g.val,.int .i64 F,.int .i64 e]⟩) Gl.bl (fun g:Gl 3 1=> g.l=intsL rl) rfl rfl rfl rfl rfl (by decide) gl_nodup (fun H hs=> .f ca21 rfl (hA.reads H (glob_le hG hs.base))) (fun g1 hg1=> ?_))
 refine .m ?_
 refine .x .et ?_
 refine .x .et ?_
 refine .x .et ?_
 refine .g ?_
 refine .g ?_
 refine .g ?_
 refine .done (.sr ?_)
 refine .x (.ld 0) ?_
 refine .m ?_
 refine .e (Or.callNew (fun g:Gl 3 1=> .tuple ⟨[g.val,.int .i64 F,.int .i64 e]⟩) Gl.bl (fun g:Gl 3 1=> g.l=intsL rl) rfl rfl rfl rfl rfl (by decide) gl_nodup (fun H hs=> .f ca22 rfl (hA.reads' H)) (fun g2 hg2=> ?_))
 refine .m ?_
 refine .x .et ?_
 refine .x .et ?_
 refine .x .et ?_
 refine .g ?_
 refine .g ?_
 refine .g ?_
 refine .done (.seq (.sr ?_))
 refine .m ?_
 refine .m ?_
 refine .c rfl rfl rfl rfl (fun H hs=> .f ca23 rfl (SameNums_two _ H _ _ rl g1.n g2.n g1.cap g2.cap (Nums.of hg1 (fun y hy=> hs.at_ y (by simp[hy]))).1 (Nums.of hg2 (fun y hy=> hs.at_ y (by simp[hy]))).1 (by omega) (Nums.of hg1 (fun y hy=> hs.at_ y (by simp[hy]))).2 (Nums.of hg2 (fun y hy=> hs.at_ y (by simp[hy]))).2)) ?_
 refine .x .nt ?_
 refine .m ?_
 refine .m ?_
 refine .m ?_
 refine .i ?_ (z:=neq_f (by omega))
 refine .x .pk ?_
 refine .m ?_
 refine .m ?_
 refine .m ?_
 refine .i ?_ (z:=neq_f (by omega))
 refine .x .pk ?_
 refine .done (.ff rfl (.skip (.seq ?_)))
 refine Tc.db (R':= [(1,.int .i64 co),(2,.pointer (some ⟨b2,0,none⟩))]) (L':= [(b2,true,.cells ⟨k.val.cells.toList⟩ 27 (0,0))]) ?_
 refine .r ?_
 refine .x (.ld 0) ?_
 refine .m ?_
 refine .c rfl rfl rfl rfl (fun H hs=> .f ca24 rfl (hA.right H (glob_le hG hs.base))) ?_
 refine .m ?_
 refine .x .et ?_
 refine .x .et ?_
 refine .g ?_
 refine .g ?_
 refine .done (.sr ?_)
 refine .x (.ld 0) ?_
 refine .m ?_
 refine .c rfl rfl rfl rfl (fun H hs=> .f ca25 rfl (hA.right' H)) ?_
 refine .m ?_
 refine .x .et ?_
 refine .x .et ?_
 refine .g ?_
 refine .g ?_
 refine .done (.seq (.sr ?_))
 refine .m ?_
 refine .m ?_
 refine .i ?_ (z:=neq_f (by omega))
 refine .m ?_
 refine .m ?_
 refine .m ?_
 refine .i ?_ (z:=neq_f (by omega))
 refine .x .pk ?_
 refine .done (.ff rfl (.skip (.seq ?_)))
 refine Tc.db (R':= [(1,.int .i64 co),(2,.pointer (some ⟨b2,0,none⟩))]) (L':= [(b2,true,.cells ⟨k.val.cells.toList⟩ 27 (0,0))]) ?_
 refine .r ?_
 refine .x (.ld 0) ?_
 refine .e (Or.callNew (fun g:Gl 3 1=> .tuple ⟨[g.val,.int .i64 se]⟩) Gl.bl (fun g:Gl 3 1=> g.l=intsL sl) rfl rfl rfl rfl rfl (by decide) gl_nodup (fun H hs=> .f ca26 rfl (hA.sure H (glob_le hG hs.base))) (fun g3 hg3=> ?_))
 refine .m ?_
 refine .x .et ?_
 refine .x .et ?_
 refine .g ?_
 refine .g ?_
 refine .done (.sr ?_)
 refine .x (.ld 0) ?_
 refine .e (Or.callNew (fun g:Gl 3 1=> .tuple ⟨[g.val,.int .i64 se]⟩) Gl.bl (fun g:Gl 3 1=> g.l=intsL sl) rfl rfl rfl rfl rfl (by decide) gl_nodup (fun H hs=> .f ca27 rfl (hA.sure' H)) (fun g4 hg4=> ?_))
 refine .m ?_
 refine .x .et ?_
 refine .x .et ?_
 refine .g ?_
 refine .g ?_
 refine .done (.seq (.sr ?_))
 refine .m ?_
 refine .m ?_
 refine .c rfl rfl rfl rfl (fun H hs=> .f ca23 rfl (SameNums_two _ H _ _ sl g3.n g4.n g3.cap g4.cap (Nums.of hg3 (fun y hy=> hs.at_ y (by simp[hy]))).1 (Nums.of hg4 (fun y hy=> hs.at_ y (by simp[hy]))).1 (by omega) (Nums.of hg3 (fun y hy=> hs.at_ y (by simp[hy]))).2 (Nums.of hg4 (fun y hy=> hs.at_ y (by simp[hy]))).2)) ?_
 refine .x .nt ?_
 refine .m ?_
 refine .m ?_
 refine .m ?_
 refine .i ?_ (z:=neq_f (by omega))
 refine .x .pk ?_
 refine .done (.ff rfl (.skip (.seq ?_)))
 refine Tc.db (R':= [(1,.int .i64 co),(2,.pointer (some ⟨b2,0,none⟩))]) (L':= [(b2,true,.cells ⟨k.val.cells.toList⟩ 27 (0,0))]) ?_
 refine .r ?_
 refine .x (.ld 0) ?_
 refine .m ?_
 refine .e (Or.callNew (fun g:Gl 3 1=> .tuple ⟨[pastV s r n g,.bool o,.int .i64 e]⟩) Gl.bl (fun g:Gl 3 1=> g.l=intsL mv) rfl rfl rfl rfl rfl (by decide) gl_nodup (fun H hs=> .f ca28 rfl (hA.wrong H (glob_le hG hs.base))) (fun g5 hg5=> ?_))
 refine .m ?_
 refine .x .et ?_
 refine .x .et ?_
 refine .x .et ?_
 refine .e (.al (zz:=fun b11=> ?_))
 refine .e (.st 0 (zz:=?_))
 refine .g ?_
 refine .g ?_
 refine .done (.sr ?_)
 refine .x (.ld 1) ?_
 refine .m ?_
 refine .e (Or.callNew (fun g:Gl 3 1=> .tuple ⟨[pastV s r n g,.bool o,.int .i64 e]⟩) Gl.bl (fun g:Gl 3 1=> g.l=intsL mv) rfl rfl rfl rfl rfl (by decide) gl_nodup (fun H hs=> .f ca29 rfl (hA.wrong' H)) (fun g6 hg6=> ?_))
 refine .m ?_
 refine .x .et ?_
 refine .x .et ?_
 refine .x .et ?_
 refine .e (.al (zz:=fun b13=> ?_))
 refine .e (.st 0 (zz:=?_))
 refine .g ?_
 refine .g ?_
 refine .done (.seq ?_)
 cases o
 all_goals (
   refine .r ?_
   refine .x (.ld 1) ?_
   refine .x (.ld 0) ?_
   refine .c rfl rfl rfl rfl (fun H hs=> .f ca30 rfl (SamePasts_two _ H s r n _ _ mv g5.n g6.n g5.cap g6.cap (Nums.of hg5 (fun y hy=> hs.at_ y (by simp[hy]))).1 (Nums.of hg6 (fun y hy=> hs.at_ y (by simp[hy]))).1 (by omega) (Nums.of hg5 (fun y hy=> hs.at_ y (by simp[hy]))).2 (Nums.of hg6 (fun y hy=> hs.at_ y (by simp[hy]))).2)) ?_
   refine .m ?_
   refine .m ?_
   refine .m ?_
   refine .x .eb ?_
   refine .x .pk ?_
   refine .m ?_
   refine .m ?_
   refine .m ?_
   refine .i ?_ (z:=eql_t (by omega))
   refine .x .pk ?_
   refine .m ?_
   refine .c rfl rfl rfl rfl (fun H hs=> .f ca31 rfl (signalled_c H (glob_le hG hs.base))) ?_
   refine .x .pk ?_
   refine .g ?_
   refine .done ?_
   exact hR _ _ _ _ rfl (View.le_refl _))
end Go.Proofs.YtpdaenfglbgfkaaGreatDoor
